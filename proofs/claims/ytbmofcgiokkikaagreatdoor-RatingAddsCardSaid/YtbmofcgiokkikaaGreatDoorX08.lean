import Derived.Test.YtbmofcgiokkikaaGreatDoorX07
/- A part of a proof; no law is stated here. -/
noncomputable section
open Go.IntKind renaming wrap -> zc, u64 -> zd, i64 -> zy
open Bool renaming and_eq_true -> ze
open List renaming mem_singleton -> zf, getD_eq_getElem?_getD -> zl, getElem?_eq_getElem -> zn, replicate -> zr, drop_eq_getElem_cons -> zz, take_of_length_le -> z6, all_cons -> yh
open Nat renaming le_refl -> zh, le_trans -> zm, beq -> zp, eq_of_beq_eq_true -> zt, add -> ye, lt_or_ge -> yi, ble -> ym
open Go.Pe.Sh renaming int -> zi, list -> zj
open Int renaming eq_ofNat_of_zero_le -> zk, toNat_natCast -> z7, fdiv -> yc, mul_add -> yf, lt_or_le -> yj
open Go.Pe.Ev renaming AH -> zo
open Go.Pe.PV renaming cells -> zq
open Option.some renaming injEq -> zu
open Go.Sp renaming val -> z8, mark -> yb
open List.cons renaming injEq -> ya
open Go.Pe.Le renaming refl -> yd
open Prod.mk renaming injEq -> yg
open Go.Det renaming X -> yk
variable {Q:Go.Pe.PV->Go.Pe.Ob->Prop}
namespace Go.Pe
open Go.Det
section
variable {B:Nat}{h0:H0}{X:AG}{F:Fz}{ρ:EI}{N:Nat}{h:H}
theorem kS(h0:H0)(a b:List Nat):(h0.pins a).pins b=h0.pins (b++a):=by unfold H0.pins;simp
theorem SR.nX{ob:Ob}{ps:List Nat}(hr:SR B (h0.pins ps) F ρ N ob h):SR B h0 F ρ N ob h:=
 ⟨hr.obj,hr.inj,hr.frz,hr.own,hr.dead,hr.old,hr.lt,hr.le,hr.fo,hr.gl,fun b a=>hr.pn b<|List.mem_append_right _ a⟩
theorem SR.mark{ob:Ob}(hr:SR B h0 F ρ N ob h):SR B (h0.pins [h.nx]) F ρ N ob (h.push<|.defd true):=by
 have g:∀b y,h.get b=some y->b≠h.nx:=fun b y r=>by have:=hr.lt b y r;omega
 have f:∀b y,h.get b=some y->(h.push<|.defd true).get b=some y:=(by simp_all);refine⟨fun j oj k=>?_,hr.inj,fun c cs a=>?_,hr.own,hr.dead,fun c a q=>?_,fun c s a=>?_,?_,hr.fo,hr.gl,fun c a=>?_⟩
 ·obtain⟨c,m,y,u,A,x⟩:=hr.obj j oj k;grind
 ·obtain⟨t,fz,v⟩:=hr.frz c cs a;grind
 ·have:=hr.le;rw[H.C2,wc ae];exact hr.old c a q
 ·rw[H.C2]at a;by_cases e:c=h.nx
  ·simp_all
  ·rw[wc e]at a;have:=hr.lt c s a;show c<h.nx+1;omega
 ·have:=hr.le;show B<=h.nx+1;omega
 ·rcases List.mem_append.1 a with a|a
  ·cases zf.1 a;refine⟨by simp,hr.le,fun id n e=>?_⟩;by_cases d:∃o,AU ob id=some o
   ·obtain⟨o,p⟩:=d;obtain⟨c,m,y,i,l,_⟩:=hr.obj id o p;grind
   ·have:AU ob id=none:=by
     cases w:AU ob id with
     |none=>rfl
     |some o=>grind
    rw[hr.dead id this]at e;cases e
  ·obtain⟨i,l,z⟩:=hr.pn c a;grind
theorem SR.eN{ob:Ob}(hr:SR B h0 F ρ N ob h){b:Nat}{x y:O}(s:∀id o n,AU ob id=some o->ρ id≠some (b,n))(u:F b=none)(q:h0.lO B b)(t:b∉h0.pin)(p:h.get b=some x):SR B h0 F ρ N ob (h.put b y):=by
 refine⟨fun j oj i=>?_,hr.inj,fun c cs a=>?_,hr.own,hr.dead,fun c a f=>?_,fun c r a=>?_,hr.le,hr.fo,hr.gl,fun c a=>?_⟩
 ·obtain⟨c,m,y,d,k,g⟩:=hr.obj j oj i;have:c≠b:=ah;exact⟨c,m,y,d,by simp_all,g⟩
 ·have:c≠b:=ah;rw[H.C1,wc this];exact hr.frz c cs a
 ·have:c≠b:=P7 q a f;rw[H.C1,wc this];exact hr.old c a f
 ·rw[H.C1]at a;split at a
  ·rename_i e;subst e;exact hr.lt _ _ p
  ·exact hr.lt c r a
 ·obtain⟨d,k,g⟩:=hr.pn c a;have l:c≠b:=ah;simp_all
theorem SR.leave{ob:Ob}:∀ {ps:List Nat} {h:H},ps.Nodup->(∀b∈ps,b∉h0.pin)->SR B (h0.pins ps) F ρ N ob h->∃a,HW ps h=some a/\SR B h0 F ρ N ob a/\a.nx=h.nx/\∀b,b∉ps->a.get b=h.get b
 |[],h,_,_,hr=>⟨h,rfl,hr,rfl,fun _ _=>rfl⟩
 |p::ps,h,d,o,hr=>by
  obtain⟨e,f,j⟩:=hr.pn p (by simp[H0.pins]);rw[List.nodup_cons]at d;have c:SR B ((h0.pins ps).pins [p]) F ρ N ob h:=by exact hr
  have hp:SR B (h0.pins ps) F ρ N ob (h.put p<|.defd false):=by
   refine SR.eN c.nX ah ?_ (.inl f) ?_ e
   ·cases g:F p with
    |none=>rfl
    |some cs=>obtain⟨t,fz,k⟩:=hr.frz p cs g;grind
   grind [H0.pins]
  obtain⟨a,m,n,i,l⟩:=SR.leave d.2 ah hp;simp_all [HW]
theorem zC{st:AP}{fr:Fr}(hr:Rel B h0 F ρ st fr h)(base:Nat)(x:Nat×Sh):∃F1 w,Rel B h0 F1 w (Aal base x st) fr h/\(Aal base x st).nx=st.nx/\(∀id,id<base->w id=ρ id)/\∀b cs,F b=some cs->F1 b=some cs:=by
 have o:=hr.fp.slot x.1;unfold Aal;split
 case h_1=>
  rename_i r;rw[r]at o;exact⟨F,ρ,hr.note (by rw[o];simp[PR,DC]),rfl,fun _ _=>rfl,fun _ _ h=>h⟩
 case h_4=>grind
 case h_3=>
  rename_i id r;cases P:ym base id with
  |false=>grind
  |true=>
  have P:=Nat.le_of_ble_eq_true P;split
  case h_2=>grind
  rename_i ps q;split
  case h_2=>grind
  rename_i v U;rw[r]at o;obtain⟨b,n,y,D,h2,V,T,-⟩:=hr.sr.at q;obtain⟨cs,t,fz,rfl,h4,h5⟩:=V;have Y:F b=none:=T rfl;have a:∀c cs',F c=some cs'->(fun c=>if c=b then some cs else F c) c=some cs':=by
   grind
  have p:=(Dj h4 U);have M:=p.len;have i:Le F ρ st.nx (fun c=>if c=b then some cs else F c) (BG ρ id none) st.nx:=(Le.lP a).trans<|Le.KQ id;have u:Le F (BG ρ id none) st.nx (fun c=>if c=b then some cs else F c) (BG ρ id none) st.nx:=Le.lP a;have d:=hr.sr.del id;have R:∀j m,BG ρ id none j=some (b,m)->∀oj,AU (HF st.ob id) j=some oj->False:=by
   intro j m f oj g;rw[DY]at g;split at g
   ·cases g
   ·rename_i O;simp only[BG,O,vf]at f;exact O<|hr.sr.inj j id oj _ b m n g q f D
  have E:SR B h0 (fun c=>if c=b then some cs else F c) (BG ρ id none) st.nx (HF st.ob id) h:=by
   refine⟨fun j oj g=>?_,d.inj,fun c cs' A=>?_,d.own,d.dead,d.old,d.lt,d.le,fun c cs' A=>?_,d.gl,d.pn⟩
   ·obtain⟨c,m,z,f,C,I,g4,g5⟩:=d.obj j oj g;exact⟨c,m,z,f,C,I.mono u,ah,ah⟩
   ·split at A
    ·grind
    ·exact d.frz c cs' A
   ·split at A
    ·rename_i W;subst W;exact .inr (hr.sr.own id c n D).2
    ·exact d.fo c cs' A
  have k:Rel B h0 (fun c=>if c=b then some cs else F c) (BG ρ id none) (st.G5 id) fr h:=⟨⟨hr.fp.n,fun t=>(hr.fp.slot t).mono i⟩,E⟩;refine⟨_,_,k.note ?_,rfl,fun j g=>by unfold BG;grind,a⟩;have L:=o.2 b n D;exact⟨b,0,cs,by rw[L],by simp,by omega,by rw[List.drop_zero,z6 ae];exact p.mono a⟩
 rename_i id sz off len cap r;split
 case h_2=>grind
 rename_i fz e s l q;cases hz:zp sz s.sz with
 |false=>grind
 |true=>
 rw[r]at o;obtain⟨F1,f,C,I⟩:=O3 hr.sr o;have G:BP st (.sl id sz off len cap)=st.setObj id (.arr true e s l):=by simp[BP,q]
 rw[G]at f;have i:Le F ρ st.nx F1 ρ st.nx:=⟨C,(by simp),zh _⟩;have S:off+len<=l.length:=by
  obtain⟨b,n,y,D,_,⟨_,_,_,_,_,Z⟩,-⟩:=hr.sr.at q;grind [PR]
 have K:CE st (.sl id sz off len cap)=some (true,.dat (.list s)<|(l.drop off).take len):=by
  simp_all [CE]
 have J:=I _ K;have k:Rel B h0 F1 ρ (st.setObj id<|.arr true e s l) fr h:=⟨⟨hr.fp.n,fun t=>(hr.fp.slot t).mono i⟩,f⟩;exact⟨F1,ρ,k.note<|J ρ _,rfl,fun _ _=>rfl,C⟩
theorem Xe{fr:Fr}(base:Nat):∀(l:List (Nat×Sh)) {st:AP} {F:Fz} {ρ:EI},Rel B h0 F ρ st fr h->∃F1 a,Rel B h0 F1 a (xS base l st) fr h/\(xS base l st).nx=st.nx/\(∀id,id<base->a id=ρ id)/\∀b cs,F b=some cs->F1 b=some cs
 |[],st,F,ρ,hr=>⟨F,ρ,hr,rfl,fun _ _=>rfl,fun _ _ h=>h⟩
 |x::l,st,F,ρ,hr=>by
  obtain⟨F1,a,d,f,c,e⟩:=zC hr base x;obtain⟨F2,ρ2,h4,h5,h0'',h6⟩:=Xe base l d;grind [xS]
theorem QL{st:AP}{fr:Fr}{base:Nat}(hr:Rel B h0 F ρ st fr h)(f:FuncId)(r:Nat)(g:base<=st.nx):
  ∃F1 ρ',Rel B h0 F1 ρ' (NT X f r base st) fr h/\base<=(NT X f r base st).nx/\(∀id,id<base->ρ' id=ρ id)/\∀b cs,F b=some cs->F1 b=some cs:=by
 obtain⟨F1,d,c,i,a,e⟩:=Xe base (X.fz f r) hr;obtain⟨ρ',g1,g2,g3⟩:=kB c base (X.pl f r) ae;grind [NT]
def HX(B:Nat)(h0:H0)(X:AG)(base n:Nat)(Q:PV->Ob->Prop)(k:DX->AP->Tr)(F:Fz)(ρ:EI)(h:H)(nd:Bool)(run:Nat->Nat->Option (List yk))(ds:List Nat):Prop:=
 ∃l M,(∀m,M<=m->∀q,M<=q->run m q=some l)/\(nd=false->∃x,l=[x])/\∀x∈l,∃ps,(x.ds=ps++ds/\ps.Nodup/\∀b∈ps,h.nx<=b)/\∃n',n'<=n/\∃a,Ev X Q n' (k x.e a)/\∃F' ρ',Rel B (h0.pins ps) F' ρ' a x.fr x.h/\base<=a.nx/\Le F ρ base F' ρ' base/\h.nx<=x.h.nx
theorem Le.low{F F':Fz}{ρ ρ':EI}{N N' base:Nat}(a:Le F ρ N F' ρ' N')(b:base<=N):Le F ρ base F' ρ' base:=
 ⟨a.fz,fun id h=>a.rho id ae,zh _⟩
theorem Qz{nd ro:Bool}{d:Nat}{f:FuncId}{base:Nat}{rv:Option Nat}{ct:Bool}(hrv:ro=false->rv=none/\ct=true)(hcall:∀h0,Gg B h0 X nd<|CD X nd d)(hcallD:∀h0,Gg B h0 X false<|CD X false d){Q:PV->Ob->Prop}:∀(n:Nat) (c:Code) {h0:H0} {st:AP} {k:DX->AP->Tr} {F:Fz} {ρ:EI} {fr:Fr} {h:H} (ds:List Nat),base<=st.nx->Rel B h0 F ρ st fr h->
  Ev X Q n (exec X (CD X nd d) (CD X false d) nd ro d f base c st k)->HX B h0 X base n Q k F ρ h nd (fun m q=>BO X.C (Bp X.C m) rv ct q c fr h ds) ds:=by
 intro n;induction n using Nat.strongRecOn with
 |_ n IH=>
 have one:∀ {h0:H0} {e:DX} {st:AP} {k:DX->AP->Tr} {F:Fz} {ρ:EI} {fr:Fr} {h:H} {ds:List Nat} {c:Code},base<=st.nx->Rel B h0 F ρ st fr h->Ev X Q n (k e st)->(∀m q,1<=q->BO X.C (Bp X.C m) rv ct q c fr h ds=some [⟨e,fr,h,ds⟩])->
   HX B h0 X base n Q k F ρ h nd (fun m q=>BO X.C (Bp X.C m) rv ct q c fr h ds) ds:=by
  intro h0 e st k F ρ fr h ds c A hr v hd;exact⟨[⟨e,fr,h,ds⟩],1,ah,(by simp),fun x K=>by
   cases zf.1 K;exact⟨[],(by simp),n,zh _,st,v,F,ρ,hr,A,yd,zh _⟩⟩
 have D:∀ {q:Nat},1<=q->∃q',q=q'+1:=fun h=>⟨_,(Nat.succ_pred_eq_of_pos h).symm⟩
 have chain:∀ {h0:H0} {F:Fz} {ρ:EI} {h:H} {ds:List Nat} {k k2:DX->AP->Tr} {n1:Nat} {run:Nat->Nat->Option (List yk)} {run2:Nat->Nat->yk->Option (List yk)},n1<=n->HX B h0 X base n1 Q k2 F ρ h nd run ds->
   (∀(x:yk) (ps:List Nat),∀n1',n1'<=n1->∀u,Ev X Q n1' (k2 x.e u)->∀F' ρ',Rel B (h0.pins ps) F' ρ' u x.fr x.h->base<=u.nx->HX B (h0.pins ps) X base n Q k F' ρ' x.h nd (fun m q=>run2 m q x) x.ds)->
   HX B h0 X base n Q k F ρ h nd (fun m q=>match run m q with|some l=>bl l (run2 m q)|none=>none) ds:=by
  rintro h0 F ρ h ds k k2 n1 run run2 hn1 ⟨l,M,E,Y,h3⟩ hnext;obtain⟨r,M2,g1,g2,g3⟩:=KR (f:=run2) (P:=fun x=>∃ps,(x.ds=ps++ds/\ps.Nodup/\∀b∈ps,h.nx<=b)/\∃n',n'<=n/\∃u,Ev X Q n' (k x.e u)/\∃F' ρ',Rel B (h0.pins ps) F' ρ' u x.fr x.h/\base<=u.nx/\Le F ρ base F' ρ' base/\h.nx<=x.h.nx) Y fun x K=>by
   obtain⟨Z,⟨k0,kn,kl⟩,n',k1,u,k2',F',ρ',k3,k4,k5,k6⟩:=h3 x K;obtain⟨r,M,j1,j2,j3⟩:=hnext x Z n' k1 u k2' F' ρ' k3 k4;refine⟨r,M,j1,j2,fun y hy=>?_⟩;obtain⟨ps2,⟨i0,i0n,i0l⟩,n2,i1,T,i2,F2,L,i3,i4,i5,i6⟩:=j3 y hy;refine⟨ps2++Z,⟨by grind,?_,fun b A=>?_⟩,n2,i1,T,i2,F2,L,by grind [kS],i4,k5.trans i5,ae⟩
   ·rw[List.nodup_append];refine⟨i0n,kn,fun a ha b A e=>?_⟩;have E:=i0l a ha;have Y:=k3.sr.lt b _ (k3.sr.pn b<|List.mem_append_left _ A).1;omega
   grind
  exact⟨r,max M M2,ah,g2,g3⟩
 have stepq:∀ {h0:H0} {F:Fz} {ρ:EI} {h:H} {ds:List Nat} {k:DX->AP->Tr} {run run':Nat->Nat->Option (List yk)},HX B h0 X base n Q k F ρ h nd run ds->(∀m q,run' m (q+1)=run m q)->HX B h0 X base n Q k F ρ h nd run' ds:=by
  rintro h0 F ρ h ds k run run' ⟨l,M,E,Y,h3⟩ v;refine⟨l,M+1,fun m hm q U=>?_,Y,h3⟩;obtain⟨q',rfl⟩:=D (show 1<=q by omega);grind
 intro c;induction c with
 |skip=>
  intro h0 st k F ρ fr h ds A hr v;exact one A hr v (fun m q U=>by obtain⟨q',rfl⟩:=D U;rfl)
 |label l=>
  intro h0 st k F ρ fr h ds A hr v;exact one A hr v (fun m q U=>by obtain⟨q',rfl⟩:=D U;rfl)
 |exit i=>
  intro h0 st k F ρ fr h ds A hr v;exact one A hr v (fun m q U=>by obtain⟨q',rfl⟩:=D U;rfl)
 |ret=>
  intro h0 st k F ρ fr h ds A hr v;exact one A hr v (fun m q U=>by obtain⟨q',rfl⟩:=D U;rfl)
 |region id ops dr=>
  intro h0 st k F ρ fr h ds A hr v;unfold exec at v;cases dr with
  |true=>
   simp only[we]at v;cases hst:(!ro||Ji ops (Fm ops))with
   |false=>grind [zo]
   |true=>
   rw[hst]at v;simp only[we]at v;have hdd:∀call,(bif ct then J4 X.C call ops fr h else Yw X.C call ops fr h)=J4 X.C call ops fr h:=by
    intro call;cases hro:ro with
    |false=>grind
    |true=>
     rw[hro]at hst;have hst:Ji ops (Fm ops)=true:=hst;simp_all [Yw]
   obtain⟨n',hn,u,w,F',ρ',fr',h',J,M,hM⟩:=kM (hcallD h0) hr v;refine⟨[⟨.normal,fr',h',ds⟩],M+1,fun m hm q U=>?_,(by simp),fun x K=>?_⟩
   ·obtain⟨q',rfl⟩:=D (show 1<=q by omega);have:=hM m ae;simp only[BO,we];grind
   ·cases zf.1 K;exact⟨[],(by simp),n',hn,u,w,F',ρ',J.rel,zm A J.le.n,J.le.low A,J.nx⟩
  |false=>
   simp only[wg]at v;obtain⟨r,M,hM,hone,hall⟩:=XG (hcall h0) hr v;refine⟨r.map fun x=>⟨.normal,x.1,x.2,ds⟩,M+1,fun m hm q U=>?_,fun e=>?_,fun x K=>?_⟩
   ·obtain⟨q',rfl⟩:=D (show 1<=q by omega);simp only[BO,wg,hM m ae]
   ·obtain⟨y,rfl⟩:=hone e;simp
   ·obtain⟨y,hy,rfl⟩:=List.mem_map.1 K;obtain⟨n',hn,u,w,F',ρ',J⟩:=hall y hy;exact⟨[],(by simp),n',hn,u,w,F',ρ',J.rel,zm A J.le.n,J.le.low A,J.nx⟩
 |seq a b iha ihb=>
  intro h0 st k F ρ fr h ds A hr v;unfold exec at v;refine stepq (chain (run2:=fun m q x=>match x.e with| .normal=>BO X.C (Bp X.C m) rv ct q b x.fr x.h x.ds|_=>some [x]) ae (iha ds A hr v) fun x Z n1 hn1 u w F' ρ' S hb1=>?_)<|fun m q=>rfl;obtain⟨e,V,E,G⟩:=x;cases e with
  |normal=>
   have rest:∀ {T:AP} {F2:Fz} {L:EI} {n2:Nat},n2<=n->Rel B (h0.pins Z) F2 L T V E->base<=T.nx->(∀id,id<base->L id=ρ' id)->(∀b cs,F' b=some cs->F2 b=some cs)->Ev X Q n2 (exec X (CD X nd d) (CD X false d) nd ro d f base b T k)->
     HX B (h0.pins Z) X base n Q k F' ρ' E nd (fun m q=>BO X.C (Bp X.C m) rv ct q b V E G) G:=by
    intro T F2 L n2 hn2 hr2 hb2 hρ2 hF2 I;have hl0:Le F' ρ' base F2 L base:=⟨hF2,ah,zh _⟩;have hc:HX B (h0.pins Z) X base n Q k F2 L E nd (fun m q=>BO X.C (Bp X.C m) rv ct q b V E G) G:=by
     by_cases hlt:n2<n
     ·obtain⟨l,M,E,Y,h3⟩:=IH n2 hlt b G hb2 hr2 I;exact⟨l,M,E,Y,ah⟩
     grind
    obtain⟨l,M,E,Y,h3⟩:=hc;exact⟨l,M,E,Y,fun x K=>by
     obtain⟨ps,k0,n3,k1,st3,k2,F3,ρ3,k3,k4,k5,k6⟩:=h3 x K;exact⟨ps,k0,n3,k1,st3,k2,F3,ρ3,k3,k4,hl0.trans k5,k6⟩⟩
   simp only at w;cases hct:X.ct f (BR b)with
   |false=>grind
   |true=>
    rw[hct]at w;simp only[we]at w;cases w with
    |cut w=>
     obtain⟨F2,ρ0,hr0,hb0,hρ0,hF⟩:=QL S f (BR b) hb1;exact rest hn1 hr0 hb0 hρ0 hF w
  |exit i=>exact⟨[⟨.exit i,V,E,G⟩],0,(by simp),(by simp),fun x K=>by cases zf.1 K;exact⟨[],(by simp),n1,hn1,u,w,F',ρ',S,hb1,yd,zh _⟩⟩
  |ret=>exact⟨[⟨.ret,V,E,G⟩],0,(by simp),(by simp),fun x K=>by cases zf.1 K;exact⟨[],(by simp),n1,hn1,u,w,F',ρ',S,hb1,yd,zh _⟩⟩
 |cond x a b iha ihb=>
  intro h0 st k F ρ fr h ds A hr v;unfold exec at v;have go:∀ {t:Bool} {u:AP},ev X.C fr x=some (.bool t)->Rel B h0 F ρ u fr h->base<=u.nx->Ev X Q n (bif t then exec X (CD X nd d) (CD X false d) nd ro d f base a u k else exec X (CD X nd d) (CD X false d) nd ro d f base b u k)->HX B h0 X base n Q k F ρ h nd (fun m q=>BO X.C (Bp X.C m) rv ct q (.cond x a b) fr h ds) ds:=by
   grind [BO]
  split at v
  case h_4=>grind [zo]
  case h_3=>
   rename_i ht;obtain⟨y,g1,g2⟩:=Cs (C:=X.C) hr.fp ht;simp only[PR]at g2;obtain⟨t,rfl⟩:=g2;split at v
   case h_2=>grind [zo]
   rename_i s;have hs:fr.get s=.bool t:=by simpa [ev]using g1
   obtain⟨w,I⟩:=v.XM;cases t with
   |true=>exact go g1 (hr.note<|by rw[hs];rfl) A w
   |false=>exact go g1 (hr.note<|by rw[hs];rfl) A I
  case h_1=>
   rename_i t ht;obtain⟨y,g1,g2⟩:=Cs (C:=X.C) hr.fp ht;obtain rfl:=SJ g2;grind
  case h_2=>
   rename_i t ht;obtain⟨y,g1,g2⟩:=Cs (C:=X.C) hr.fp ht;obtain rfl:=MD g2;split at v
   case h_1=>
    rename_i s;have hs:fr.get s=.bool t:=by simpa [ev]using g1
    rcases v.FE with⟨R,I⟩|⟨R,I⟩
    ·have R:t=true:=R;subst R;exact go g1 (hr.note<|by rw[hs];rfl) A I
    ·have R:t=false:=R;subst R;exact go g1 (hr.note<|by rw[hs];rfl) A I
   case h_2=>
    rcases v.FE with⟨R,I⟩|⟨R,I⟩
    ·grind
    grind
 |block id b ih=>
  intro h0 st k F ρ fr h ds A hr v;unfold exec at v;obtain⟨l,M,E,Y,h3⟩:=ih ds A hr v;refine⟨l.map fun x=>match x.e with
    | .exit i=>bif zp i id then { x with e:=.normal }else x
    |_=>x,M+1,fun m hm q U=>?_,fun e=>?_,fun y hy=>?_⟩
  ·obtain⟨q',rfl⟩:=D (show 1<=q by omega);grind [BO]
  ·grind
  grind
 |loop b ih=>
  intro h0 st k F ρ fr h ds A hr v;unfold exec at v;cases v with
  |@loop n0 _ _ _ _ _ _ _ _ v=>
  obtain⟨F0,ρ0,hr0,hb0,hρ0,hF0⟩:=QL hr f (BR b) A;have hl0:Le F ρ base F0 ρ0 base:=⟨hF0,ah,zh _⟩;unfold body at v;have hbody:=IH n0 (Nat.lt_succ_self _) b ds hb0 hr0 v;have hch:HX B h0 X base (n0+1) Q k F0 ρ0 h nd (fun m q=>match BO X.C (Bp X.C m) rv ct q b fr h ds with|some l=>bl l (fun x=>match x.e with| .normal=>BO X.C (Bp X.C m) rv ct q (.loop b) x.fr x.h x.ds|_=>some [x])|none=>none) ds:=by
   refine chain (run2:=fun m q x=>match x.e with| .normal=>BO X.C (Bp X.C m) rv ct q (.loop b) x.fr x.h x.ds|_=>some [x]) ae hbody fun x Z n1 hn1 u w F' ρ' S hb1=>?_
   obtain⟨e,V,E,G⟩:=x;cases e with
   |normal=>
    have he1':Ev X Q n1 (exec X (CD X nd d) (CD X false d) nd ro d f base (.loop b) u k):=by unfold exec;exact w
    obtain⟨l,M,E,Y,h3⟩:=IH n1 ae (.loop b) G hb1 S he1';exact⟨l,M,E,Y,ah⟩
   |exit i=>exact⟨[⟨.exit i,V,E,G⟩],0,(by simp),(by simp),fun x K=>by cases zf.1 K;exact⟨[],(by simp),n1,by omega,u,w,F',ρ',S,hb1,yd,zh _⟩⟩
   |ret=>exact⟨[⟨.ret,V,E,G⟩],0,(by simp),(by simp),fun x K=>by cases zf.1 K;exact⟨[],(by simp),n1,by omega,u,w,F',ρ',S,hb1,yd,zh _⟩⟩
  obtain⟨l,M,g1,g2,g3⟩:=stepq (run':=fun m q=>BO X.C (Bp X.C m) rv ct q (.loop b) fr h ds) hch<|fun m q=>rfl;refine⟨l,M,g1,g2,fun x K=>?_⟩;obtain⟨ps,k0,n2,k1,T,k2,F2,L,k3,k4,k5,k6⟩:=g3 x K;exact⟨ps,k0,n2,k1,T,k2,F2,L,k3,k4,hl0.trans k5,k6⟩
 |scope b ih=>
  intro h0 st k F ρ fr h ds A hr v;unfold exec at v;exact stepq (ih ds A hr v)<|fun m q=>rfl
 |rangeFunc g ps a b _ _=>
  intro h0 st k F ρ fr h ds A hr v;unfold exec at v;cases hro:ro with
  |true=>grind [zo]
  |false=>
  rw[hro]at v;obtain⟨rfl,rfl⟩:=hrv hro;simp only[wg]at v;split at v
  case h_2=>grind [zo]
  rename_i gf first cap hg
  obtain⟨pq,hprim⟩:∃pq,X.C.prim gf=pq:=⟨_,rfl⟩;cases pq with
  |some q0=>grind [zo]
  |none=>
  rw[hprim]at v;simp only[Option.isSome_none,wg]at v;obtain⟨gv,g1,g2⟩:=Cs (C:=X.C) hr.fp hg;simp only[PR]at g2;obtain⟨fa,fb,rfl,f1,f2⟩:=g2;have S:=hr.sr.mark;have hr2:=S.push (o:=.lp f (BR b) ps a b .ready st.n<|Nw X f (BR b) st) (x:=.loop ⟨.ready,none,fr,ps,a,b,h.nx⟩) (n:=0) rfl
   ⟨_,rfl,rfl,rfl,rfl,⟨rfl,rfl⟩,hr.fp.n.symm,fun t=>by
    have hl:=Le.new (F:=F) (ρ:=ρ) (N:=st.nx) ((h.push<|.defd true).nx,0);unfold Rf Nw;cases hp:(FG<|(X.pl f<|BR b).map fun t=>(t,st.get t)).get t with
    |none=>simp[PR]
    |some p=>
     rcases Hm _ .leaf t p hp with E|E
     ·simp only[List.mem_map]at E;obtain⟨s,_,Y⟩:=E;cases Y;exact(hr.fp.slot _).mono hl
     ·simp at E⟩
  have hle2:Le F ρ st.nx F (BG ρ st.nx<|some (h.nx+1,0)) (st.nx+1):=Le.new _;have hrel2:Rel B (h0.pins [h.nx]) F (BG ρ st.nx<|some (h.nx+1,0)) (st.push<|.lp f (BR b) ps a b .ready st.n<|Nw X f (BR b) st) fr ((h.push<|.defd true).push<|.loop ⟨.ready,none,fr,ps,a,b,h.nx⟩):=
   ⟨⟨hr.fp.n,fun t=>(hr.fp.slot t).mono hle2⟩,hr2⟩
  have hargs:Ca F (BG ρ st.nx<|some (h.nx+1,0)) (st.push<|.lp f (BR b) ps a b .ready st.n<|Nw X f (BR b) st).nx (first++[.yl st.nx]++cap) (fa++[.yld<|h.nx+1]++fb):=by
   refine((f1.mono hle2).append ?_).append<|f2.mono hle2;simp only[BY,El,ve,PR];exact⟨ae,(by grind [BG])⟩
  obtain⟨l,hcd,hone,hall⟩:=hcall _ v hrel2 hargs;obtain⟨i,M,hfn,hM⟩:∃i M,X.C.fn gf=some i/\∀m,M<=m->Bp X.C m (.fn gf<|fa++[.yld<|h.nx+1]++fb) ((h.push<|.defd true).push<|.loop ⟨.ready,none,fr,ps,a,b,h.nx⟩)=some l:=by
   cases hcd with
   |Bp hc hM=>obtain⟨rfl,_,i,hfn⟩:=hc;exact⟨i,_,hfn,hM⟩
   |prim U _=>grind
  have hdc:Je X.C ((h.push<|.defd true).push<|.loop ⟨.ready,none,fr,ps,a,b,h.nx⟩) (.fn (.func gf) fa fb) [.yld<|h.nx+1]=some (.enter gf<|fa++[.yld<|h.nx+1]++fb):=by
   grind [Je]
  have fin:∀x∈l,∃(r:List yk) (M:Nat),(∀m:Nat,M<=m->∀q:Nat,M<=q->(match x.2.get (h.nx+1)with
      |some (.loop ls)=>match ls.st,ls.pend with
       | .busy,_=>none
       |_,none=>some [⟨.normal,fr,x.2.put (h.nx+1)<|.loop { ls with st:=.exhausted },h.nx::ds⟩]
       |_,some c=>BO X.C (Bp X.C m) none false q c fr (x.2.put (h.nx+1)<|.loop { ls with st:=.exhausted }) (h.nx::ds)
      |_=>none)=some r)/\(nd=false->∃x,r=[x])/\∀y∈r,∃ps,(y.ds=ps++ds/\ps.Nodup/\∀b∈ps,h.nx<=b)/\∃n',n'<=n/\∃u,Ev X Q n' (k y.e u)/\∃F' ρ',Rel B (h0.pins ps) F' ρ' u y.fr y.h/\base<=u.nx/\Le F ρ base F' ρ' base/\h.nx<=y.h.nx:=by
   intro x K;obtain⟨n1,hn1,r,st',w,F',ρ',_,J,_⟩:=hall x K;split at w
   case h_2=>grind [zo]
   rename_i f' r' ps' asg' body' s n' sl hob;obtain⟨bb,nn,y,k1,k2,⟨ls,rfl,-,-,-,hlp,-⟩,-⟩:=J.rel.sr.at hob;have hN:st.nx<st.nx+1:=ae;have kk:BG ρ st.nx (some (h.nx+1,0)) st.nx=some (bb,nn):=J.le.at hN k1;simp only[BG,wk,zu,yg]at kk;obtain⟨rfl,rfl⟩:=kk;have hpin:∀p∈(h0.pins [h.nx]).pin,h.nx+1≠p:=fun p hp e=>(J.rel.sr.pn p hp).2.2 _ _<|e▸k1
   have hdel:=J.rel.sr.del st.nx;have hput:∀z:O,Rel B (h0.pins [h.nx]) F' (BG ρ' st.nx none) (st'.G5 st.nx) fr (x.2.put (h.nx+1) z):=by
    intro z;have hl:Le F' ρ' st'.nx F' (BG ρ' st.nx none) st'.nx:=Le.KQ _;refine⟨⟨J.rel.fp.n,fun t=>(J.rel.fp.slot t).mono hl⟩,?_⟩;refine hdel.eN (fun id o m ho e=>?_) ?_ (J.rel.sr.own _ _ _ k1).2 (fun hp=>hpin _ hp rfl) k2
    ·rw[DY]at ho;split at ho
     ·cases ho
     ·rename_i hne;simp only[BG,hne,vf]at e;exact hne<|J.rel.sr.inj id st.nx o _ _ m 0 ho hob e k1
    ·cases hF:F' (h.nx+1)with
     |none=>rfl
     |some cs=>obtain⟨t,fz,g⟩:=J.rel.sr.frz _ cs hF;rw[k2]at g;cases g
   have hbase:base<=(st'.G5 st.nx).nx:=zm A<|zm (Nat.le_succ _) J.le.n;have hLe:Le F ρ base F' (BG ρ' st.nx none) base:=by
    refine(hle2.low A).trans<|(J.le.low<|zm A<|Nat.le_succ _).trans ?_;exact(Le.KQ (F:=F') (ρ:=ρ') (N:=base) st.nx)
   have hnx:h.nx<=x.2.nx:=zm (by show h.nx<=h.nx+1+1;omega) J.nx;have done:∀ {e:DX} {z:O},Ev X Q n1 (k e<|st'.G5 st.nx)->∃ps,((⟨e,fr,x.2.put (h.nx+1) z,h.nx::ds⟩:yk).ds=ps++ds/\ps.Nodup/\∀b∈ps,h.nx<=b)/\∃n',n'<=n/\∃u,Ev X Q n' (k e u)/\∃F' ρ',Rel B (h0.pins ps) F' ρ' u fr (x.2.put (h.nx+1) z)/\base<=u.nx/\Le F ρ base F' ρ' base/\h.nx<=(x.2.put (h.nx+1) z).nx:=by
    intro e z I;exact⟨[h.nx],⟨rfl,(by simp),fun b A=>by cases zf.1 A;exact zh _⟩,n1,hn1,_,I,F',_,hput z,hbase,hLe,hnx⟩
   obtain⟨lst,lpend,lfr,lps,lasg,W,ldb⟩:=ls;simp only at hlp;split at w
   case h_1=>
    obtain⟨rfl,rfl⟩:=hlp;exact⟨[⟨.normal,fr,x.2.put (h.nx+1)<|.loop ⟨.exhausted,none,lfr,lps,lasg,W,ldb⟩,h.nx::ds⟩],0,fun m _ q _=>(by simp only[k2]),fun _=>⟨_,rfl⟩,fun y hy=>by cases zf.1 hy;exact done w⟩
   case h_2=>
    obtain⟨rfl,rfl⟩:=hlp;exact⟨[⟨.ret,fr,x.2.put (h.nx+1)<|.loop ⟨.exhausted,some .ret,lfr,lps,lasg,W,ldb⟩,h.nx::ds⟩],1,fun m _ q U=>(by obtain⟨q',rfl⟩:=D U;simp only[k2,BO]),fun _=>⟨_,rfl⟩,fun y hy=>by cases zf.1 hy;exact done w⟩
   case h_3=>
    rename_i j;obtain⟨rfl,rfl⟩:=hlp;exact⟨[⟨.exit j,fr,x.2.put (h.nx+1)<|.loop ⟨.exhausted,some<|.exit j,lfr,lps,lasg,W,ldb⟩,h.nx::ds⟩],1,fun m _ q U=>(by obtain⟨q',rfl⟩:=D U;simp only[k2,BO]),fun _=>⟨_,rfl⟩,fun y hy=>by cases zf.1 hy;exact done w⟩
   case h_4=>exact wh w zo
  obtain⟨r,M2,j1,j2,j3⟩:=KR hone fin;refine⟨r,max M M2+1,fun m hm q U=>?_,j2,j3⟩;obtain⟨q',rfl⟩:=D (show 1<=q by omega);have E:=hM m ae;have Y:=j1 m ae q' ae;simp only[BO,UI,g1];show(match Je X.C ((h.push<|.defd true).push<|.loop ⟨.ready,none,fr,ps,a,b,h.nx⟩) (.fn (.func gf) fa fb) [.yld<|h.nx+1]with|some (.enter f args)=>_|_=>none)=_;rw[hdc];simp only[E];exact Y
 |goto l=>intro h0 st k F ρ fr h ds A hr v;exact wh v zo
 |refuse s=>intro h0 st k F ρ fr h ds A hr v;exact wh v zo
end
section
variable {B:Nat}{h0:H0}{X:AG}{F:Fz}{ρ:EI}{N:Nat}{st st':AP}{fr:Fr}{h:H}
theorem Ng:∀ {ps:List PV} {i t:Nat} {p:PV},(t,p)∈FZ ps i->∃k,t=i+k/\ps[k]?=some p
 |[],i,t,p,h=>by cases h
 |q::ps,i,t,p,h=>by
  rcases List.mem_cons.1 h with h|h
  ·simp_all
  ·obtain⟨k,b,a⟩:=Ng h;exact⟨k+1,by grind,by grind⟩
theorem Ab7{ps:List PV}{vs:List V}(hp:Ca F ρ N ps vs)(n:Nat)(ob:Ob)(nx:Nat)(_hnx:nx=N):FP F ρ N (Ap (ye ps.length<|Nat.sub n ps.length) (FZ ps 0) ob nx) (O8 n vs):=by
 refine⟨by show ps.length+(n-ps.length)=vs.length+(n-vs.length);rw[hp.len],fun t=>?_⟩;show PR F ρ N (((FG<|FZ ps 0).get t).getD .any) _;cases e:(FG<|FZ ps 0).get t with
 |none=>grind [PR]
 |some p=>
  rcases Hm _ .leaf t p e with a|a
  ·obtain⟨k,g,f⟩:=Ng a;obtain rfl:t=k:=ae
   obtain⟨v,b,d⟩:=hp.get f;have c:=(List.getElem?_eq_some_iff.1 b).1;unfold O8 Fr.get;rw[Oz,wd ae,Nat.sub_zero,b];exact d
  simp_all
theorem pU{T:Co}{st s:AP}{t:TypeId}{a p:PV}(h:(Pd T st t a).To p s):s=st:=by
 unfold Pd at h;split at h
 case h_2=>simp_all
 split at h
 case h_4=>simp_all
 ·split at h
  case h_4=>simp_all
  case h_3=>simp_all
  ·simp_all
  ·rename_i b l _;cases c:(zp _ 0&&zp b.sz 1)with
   |false=>rw[c]at h;simp_all
   |true=>simp_all
 ·split at h
  case h_2=>simp_all
  rename_i sz j off _ _ _ b l _;cases c:(zp sz b.sz)with
  |false=>simp_all
  |true=>simp_all
 simp_all
theorem Ry{Q:PV->Ob->Prop}{n:Nat}{t:Tr}:∀ {cs:List Bool},Ev X Q n (U9 cs t)->(∀c∈cs,c=true)/\Ev X Q n t
 |[],h=>⟨(by simp),h⟩
 |c::cs,h=>by
  rcases h.FE with⟨e,a⟩|⟨_,a⟩
  ·obtain⟨d,b⟩:=Ry a;grind
  grind [zo]
theorem XB:∀ {i:List ResultVar} {ps:List PV} {F:Fz} {ρ:EI},Rel B h0 F ρ st fr h->uE X.C.T st i=some ps->(∀c∈Pj X.C.T st i,c=true)->
  ∃vs F' ρ',Qx X.C fr h i=some vs/\Ca F' ρ' st.nx ps vs/\Rel B h0 F' ρ' st fr h/\Le F ρ st.nx F' ρ' st.nx
 |[],ps,F,ρ,hr,hp,_=>by cases hp;exact⟨[],F,ρ,rfl,by simp,hr,yd⟩
 |r::i,ps,F,ρ,hr,hp,e=>by
  unfold uE at hp;split at hp
  case h_2=>cases hp
  rename_i p o f n;cases hp;have key:∃v F1 d,dP X.C fr h r=some v/\PR F1 d st.nx p v/\Rel B h0 F1 d st fr h/\Le F ρ st.nx F1 d st.nx:=by
   cases r with
   |tmp t=>
    simp only[yU,zu]at f;subst f;exact⟨_,F,ρ,rfl,hr.fp.slot t,hr,yd⟩
   |cell a t=>
    have g:∃s,(Pd X.C.T st t<|st.get a).To p s:=by
     simp only[yU]at f;split at f
     case h_3=>cases f
     ·simp_all
     ·rename_i c u s l;cases f;refine⟨s,?_⟩;have:=e c (by grind [Pj]);rw[l,this];show(PO.Jx true p s).To p s;simp
    obtain⟨s,g⟩:=g;have x:s=st:=pU g;subst x;obtain⟨v',h',F',ρ',b,g2,g3,g4,g5,g6,g7,g8⟩:=qS (C:=X.C) hr.sr (hr.fp.slot a) g;cases j:F4 X.C.T h t (fr.get a)with
    |none=>rw[j]at b;rcases b with b|⟨b,_⟩<;>cases b
    |some w=>
     rw[j]at b;rcases b with b|⟨b,_⟩
     ·simp only[BT,zu,OR.val.injEq]at b;obtain⟨rfl,rfl⟩:=b;exact⟨w,F',ρ',j,g2,⟨hr.fp.mono g4,g3⟩,g4⟩
     ·cases b
  obtain⟨v,F1,d,q,y,k,m⟩:=key;obtain⟨vs,F2,ρ2,k5,k6,k7,k8⟩:=XB k n (fun c z=>e c<|by
   cases r with
   |tmp t=>exact z
   |cell a t=>
    grind [Pj])
  exact⟨v::vs,F2,ρ2,by simp[Qx,q,k5],by simp only[BY];exact⟨y.mono k8,k6⟩,k7,m.trans k8⟩
theorem KK{nd:Bool}{d:Nat}(z:∀h0,Gg B h0 X nd<|CD X nd d)(o:∀h0,Gg B h0 X false<|CD X false d)(hmg:X.C.mg=false){g:FuncId}(U:X.C.spec g=none)(hprim:X.C.prim g=none)(hno:X.sp g=none){Q:PV->Ob->Prop}{n:Nat}{args:List PV}{k:PV->AP->Tr}{args':List V}
  (G:Ev X Q n (enter X (CD X nd d) (CD X false d) nd d g args st k)) (hr:Rel B h0 F ρ st fr h) (ha:Ca F ρ st.nx args args'):
  (X.C.prim g=none/\∃i,X.C.fn g=some i)/\∃l M,(∀m,M<=m->Bp X.C m (.fn g args') h=some l)/\(nd=false->∃x,l=[x])/\
   ∀x∈l,∃n',n'<=n/\∃r st',Ev X Q n' (k r st')/\∃F' ρ',PR F' ρ' st'.nx r x.1/\DO B h0 F ρ st.nx h st' fr x.2 F' ρ'/\(∀sp,X.sp g=some sp->∀b,b<h.nx->x.2.get b=h.get b):=by
 unfold enter at G;split at G
 case h_1=>grind [zo]
 rename_i i hi;cases hc:i.cert with
 |false=>grind [zo]
 |true=>
  rw[hc]at G;simp only[we]at G;have hr0:Rel B h0 F ρ (Ap (ye args.length<|Nat.sub i.ntmps args.length) (FZ args 0) st.ob st.nx) (O8 i.ntmps args') h:=⟨Ab7 ha i.ntmps st.ob st.nx rfl,hr.sr⟩;obtain⟨l,M,hM,D,E⟩:=Qz (ro:=false) (rv:=none) (ct:=true) (by simp) z o n i.body (st:=Ap (ye args.length<|Nat.sub i.ntmps args.length) (FZ args 0) st.ob st.nx) [] (zh st.nx) hr0 G;have fin:∀x∈l,∃(r:List (V×H)) (M:Nat),(∀m:Nat,M<=m->∀q:Nat,M<=q->(match x.e with
      | .exit _=>none
      |_=>match HW x.ds x.h with
       |some c=>match S1 X.C x.fr c i.results.toList with
        |some v=>some [(v,c)]
        |none=>none
       |none=>none)=some r)/\(nd=false->∃x,r=[x])/\∀x∈r,∃n',n'<=n/\∃r st',Ev X Q n' (k r st')/\∃F' ρ',PR F' ρ' st'.nx r x.1/\DO B h0 F ρ st.nx h st' fr x.2 F' ρ'/\(∀sp,X.sp g=some sp->∀b,b<h.nx->x.2.get b=h.get b):=by
   intro x hx;obtain⟨ps,⟨hds,s,hge⟩,n1,hn1,a,K,F1,ρ1,w,hb1,J,hx1'⟩:=E x hx;obtain⟨e,fr1,hx0,ds1⟩:=x;obtain⟨c,hlv,hsr1,hnx1,_⟩:=SR.leave s (fun b Y hp=>by
    have k1:=hge b Y;have k2:=hr.sr.lt b _ (hr.sr.pn b hp).1;omega) w.sr
   have Z:Rel B h0 F1 ρ1 a fr1 c:=⟨w.fp,hsr1⟩;have hx1:h.nx<=c.nx:=ae
   have go:(∀j,e≠ .exit j)->Ev X Q n1 (match uE X.C.T a i.results.toList with|some vs=>U9 (Pj X.C.T a i.results.toList) (k (Go.Pe.one vs) ⟨st.n,st.fr,a.ob,a.nx⟩)|none=>.fail)->
     ∃v',S1 X.C fr1 c i.results.toList=some v'/\∃n',n'<=n/\∃r st',Ev X Q n' (k r st')/\∃F' ρ',PR F' ρ' st'.nx r v'/\DO B h0 F ρ st.nx h st' fr c F' ρ'/\(∀sp,X.sp g=some sp->∀b,b<h.nx->c.get b=h.get b):=by
    intro hne u;split at u
    case h_2=>grind [zo]
    rename_i ps hps;obtain⟨A,u⟩:=Ry u;obtain⟨vs,F2,ρ2,k1,k2,k3,k4⟩:=XB Z hps A;have I:Le F ρ st.nx F2 ρ2 a.nx:=⟨fun b cs Y=>k4.fz _ _<|J.fz _ _ Y,fun id hid=>by
     rcases k4.rho id ae with e|e
     ·rw[e];exact J.rho id hid
     grind,hb1⟩
    have L:∃O,S1 X.C fr1 c i.results.toList=some O/\PR F2 ρ2 a.nx (Go.Pe.one ps) O:=by
     unfold S1;rw[k1];cases ps with
     |nil=>subst k2;exact⟨_,rfl,by simp[Go.Pe.one,PR]⟩
     |cons p ps=>
      obtain⟨v1,vs1,rfl,S,R⟩:=k2;cases ps with
      |nil=>subst R;exact⟨_,rfl,S⟩
      |cons q qs=>
       obtain⟨v2,vs2,rfl,_,_⟩:=R;refine⟨_,rfl,?_⟩;show PR F2 ρ2 a.nx (.tup (p::q::qs)) _;simp_all [PR]
    obtain⟨O,q1,W⟩:=L;exact⟨O,q1,n1,hn1,_,_,u,F2,ρ2,W,⟨⟨⟨hr.fp.n,fun t=>(hr.fp.slot t).mono I⟩,k3.sr⟩,I,hx1⟩,ah⟩
   cases e with
   |normal=>
    obtain⟨v',q1,W⟩:=go (by simp) K;exact⟨[(v',c)],0,ah,(by simp),ah⟩
   |ret=>
    obtain⟨v',q1,W⟩:=go (by simp) K;exact⟨[(v',c)],0,ah,(by simp),ah⟩
   |exit j=>grind [zo]
  obtain⟨r,M2,S,R,g3⟩:=KR (f:=fun _ _ (x:yk)=>match x.e with
      | .exit _=>none
      |_=>match HW x.ds x.h with
       |some c=>match S1 X.C x.fr c i.results.toList with
        |some v=>some [(v,c)]
        |none=>none
       |none=>none) (P:=fun x=>∃n',n'<=n/\∃r st',Ev X Q n' (k r st')/\∃F' ρ',PR F' ρ' st'.nx r x.1/\DO B h0 F ρ st.nx h st' fr x.2 F' ρ'/\(∀sp,X.sp g=some sp->∀b,b<h.nx->x.2.get b=h.get b)) D fin
  refine⟨ah,r,max M M2+1,fun m hm=>?_,R,g3⟩;obtain⟨y,rfl⟩:∃y,m=y+1:=⟨m-1,by omega⟩;have hg:=S y ae y ae;have:Bp X.C (y+1) (.fn g args') h=(match BO X.C (Bp X.C y) none i.cert y i.body (O8 i.ntmps args') h []with
    |none=>none
    |some l=>match (bl l fun x=>match x.e with
     | .exit _=>none
     |_=>match HW x.ds x.h with
      |some c=>match S1 X.C x.fr c i.results.toList with
       |some v=>some [(v,c)]
       |none=>none
      |none=>none)with
     |some r=>some<|bif X.C.mg then Sv h.nx r else r
     |none=>none):=by
   rw[Bp];simp only[U,hi];rfl
  grind
theorem Oi{nd:Bool}{d:Nat}(w:∀h0,Gg B h0 X nd<|CD X nd d)(j:∀h0,Gg B h0 X false<|CD X false d){id:Nat}{Q:PV->Ob->Prop}{n:Nat}{args:List PV}{k:PV->AP->Tr}{args':List V}
  (he:Ev X Q n (aB X (CD X nd d) (CD X false d) nd d id args st k)) (hr:Rel B h0 F ρ st fr h) (ha:Ca F ρ st.nx args args'):
  ∃c,Aht X ρ h args' (.rnd id) c/\∃l M,(∀m,M<=m->Bp X.C m c h=some l)/\(nd=false->∃x,l=[x])/\
   ∀x∈l,∃n',n'<=n/\∃r st',Ev X Q n' (k r st')/\∃F' ρ',PR F' ρ' st'.nx r x.1/\DO B h0 F ρ st.nx h st' fr x.2 F' ρ':=by
 unfold aB at he;split at he
 case h_2=>grind [zo]
 rename_i f r ps asg b n0 sl hob;obtain⟨A,m0,y,k1,k2,⟨ls,rfl,rfl,rfl,rfl,⟨l1,l2⟩,rfl,l4⟩,-⟩:=hr.sr.at hob;cases hsz:zp args.length ls.ps.size with
 |false=>grind [zo]
 |true=>
 rw[hsz]at he;simp only[we]at he;have hlen:args'.length=ls.ps.size:=by rw[<-ha.len];simp_all
 have hid:id<st.nx:=(hr.sr.own _ _ _ k1).1;have hr0:Rel B h0 F ρ (O4 ls.ps.toList args<|Ap ls.fr.n sl st.ob st.nx) (Ik ls.ps.toList args' ls.fr) h:=by
  have O:Rel B h0 F ρ (Ap ls.fr.n sl st.ob st.nx) ls.fr h:=⟨⟨rfl,fun t=>l4 t⟩,hr.sr⟩;have go:∀(ts:List Tmp) (g:List PV) (E:List V) (s:AP) (f:Fr),s.nx=st.nx->Ca F ρ st.nx g E->Rel B h0 F ρ s f h->Rel B h0 F ρ (O4 ts g s) (Ik ts E f) h:=by
   intro ts;induction ts with
   |nil=>intro g E s f _ _ hs;cases g<;>exact hs
   |cons t ts ih=>
    intro g E s f hn hp hs;cases g with
    |nil=>simp only[El]at hp;subst hp;exact hs
    |cons a g=>
     simp only[Ca]at hp;obtain⟨v,vs,rfl,p1,p2⟩:=hp;simp only[O4,Ik];refine ih g vs _ _ ?_ p2 ?_
     ·cases Nat.blt t s.n<;>exact hn
     ·unfold Fr.iV;rw[show s.n=f.n from hs.fp.n];cases Nat.blt t f.n with
      |false=>exact hs
      |true=>exact hs.set ah
  exact go _ _ _ _ _ rfl ha O
 have hnx0:st.nx<=(O4 ls.ps.toList args<|Ap ls.fr.n sl st.ob st.nx).nx:=by
  have go:∀(ts:List Tmp) (g:List PV) (s:AP),(O4 ts g s).nx=s.nx:=by
   intro ts;induction ts with
   |nil=>intro g s;rfl
   |cons t ts ih=>
    intro g s;cases g with
    |nil=>rfl
    |cons a g=>simp only[O4];rw[ih];cases Nat.blt t s.n<;>rfl
  rw[go];exact zh _
 obtain⟨L,M1,hM1,U,P⟩:=Qz (ro:=true) (rv:=some A) (ct:=false) (by simp) w j n ls.asg [] hnx0 hr0 he;refine⟨_,⟨A,m0,ls,k1,k2,hlen,rfl⟩,?_⟩;have fin:∀x∈L,∃(r:List (V×H)) (M:Nat),(∀m:Nat,M<=m->∀q:Nat,M<=q->(match x.e,x.h.get A with
   | .normal,some (.loop l1)=>match l1.st with
    | .ready=>match BO X.C (Bp X.C m) (some A) false q ls.body x.fr (x.h.put A<|.loop { l1 with st:=.busy }) x.ds with
     |some l2=>bl l2 fun y=>match y.h.get A with
      |some (.loop S)=>match y.e with
       | .normal=>some [(V.bool true,y.h.put A<|.loop { S with st:=.ready,pend:=none })]
       | .ret=>some [(V.bool false,y.h.put A<|.loop { S with st:=.done,pend:=some .ret })]
       | .exit i=>some [(V.bool false,y.h.put A<|.loop { S with st:=.done,pend:=some (.exit i) })]
      |_=>none
     |none=>none
    |_=>none
   |_,_=>none)=some r)/\(nd=false->∃x,r=[x])/\∀x∈r,∃n',n'<=n/\∃r st',Ev X Q n' (k r st')/\∃F' ρ',PR F' ρ' st'.nx r x.1/\DO B h0 F ρ st.nx h st' fr x.2 F' ρ':=by
  intro x hx;obtain⟨ps1,_,n1,hn1,s,G,F1,ρ1,D,hb1,hl1,hx1⟩:=P x hx;obtain⟨e,fr1,h1,ds1⟩:=x;simp only at G D hx1 ⊢;cases e with
  |exit i=>grind [zo]
  |ret=>grind [zo]
  |normal=>
  simp only at G;split at G
  case h_2=>grind [zo]
  rename_i f' r' ps' asg' b' n' W K;have hs1:SR B h0 F1 ρ1 s.nx s.ob h1:=D.sr.nX;obtain⟨I,m1,y1,q1,q2,⟨o,rfl,rfl,rfl,rfl,⟨la1,la2⟩,rfl,la4⟩,-⟩:=hs1.at K;obtain⟨rfl,rfl⟩:I=A/\m1=m0:=by
   have:=hl1.at hid q1;grind
  have hr2:Rel B h0 F1 ρ1 (s.setObj id<|.lp f' r' o.ps o.asg o.body .busy o.fr.n W) fr1 (h1.put I<|.loop { o with st:=.busy }):=
   ⟨⟨D.fp.n,fun t=>D.fp.slot t⟩,hs1.set K q1 q2 rfl rfl (o':=.lp f' r' o.ps o.asg o.body .busy o.fr.n W) ⟨_,rfl,rfl,rfl,rfl,rfl,rfl,la4⟩⟩
  obtain⟨L2,M2,hM2,Y,Z⟩:=Qz (ro:=true) (rv:=some I) (ct:=false) (by simp) w j n1 ls.body ds1 (show st.nx<=(s.setObj id<|.lp f' r' o.ps o.asg o.body .busy o.fr.n W).nx from hb1) hr2 G;have fin2:∀y∈L2,∃(r:List (V×H)) (M:Nat),(∀m:Nat,M<=m->∀q:Nat,M<=q->(match y.h.get I with
    |some (.loop S)=>match y.e with
     | .normal=>some [(V.bool true,y.h.put I<|.loop { S with st:=.ready,pend:=none })]
     | .ret=>some [(V.bool false,y.h.put I<|.loop { S with st:=.done,pend:=some .ret })]
     | .exit i=>some [(V.bool false,y.h.put I<|.loop { S with st:=.done,pend:=some (.exit i) })]
    |_=>none)=some r)/\(nd=false->∃x,r=[x])/\∀x∈r,∃n',n'<=n/\∃r st',Ev X Q n' (k r st')/\∃F' ρ',PR F' ρ' st'.nx r x.1/\DO B h0 F ρ st.nx h st' fr x.2 F' ρ':=by
   intro y hy;obtain⟨ps2,_,n2,hn2,s2,u,F2,R,hr3,hb2,hl2,hx2⟩:=Z y hy;obtain⟨e2,fr2,h2,ds2⟩:=y;simp only at u hr3 hx2 ⊢;split at u
   case h_2=>grind [zo]
   rename_i f2 r2 pp2 aa2 bb2 ss2 nn2 sl2 J;have hs3:SR B h0 F2 R s2.nx s2.ob h2:=hr3.sr.nX;obtain⟨c2,m2,y2,w1,w2,⟨p,rfl,rfl,rfl,rfl,_,rfl,lb4⟩,-⟩:=hs3.at J;have hle:Le F ρ st.nx F2 R s2.nx:=by
    have h:=hl1.trans hl2;exact⟨h.fz,h.rho,hb2⟩
   obtain⟨rfl,rfl⟩:c2=I/\m2=m1:=by
    have:=hle.at hid w1;grind
   have hnx:h.nx<=h2.nx:=zm hx1 hx2;have done:∀(sb:LpS) (T:LoopState) (pe:Option Code) (rb:Bool),LpR sb T pe->Ev X Q n2 (k (.bl rb) ⟨st.n,st.fr,(s2.setObj id<|.lp f2 r2 p.ps p.asg p.body sb p.fr.n sl2).ob,s2.nx⟩)->
     ∃n',n'<=n/\∃r st',Ev X Q n' (k r st')/\∃F' ρ',PR F' ρ' st'.nx r (V.bool rb)/\DO B h0 F ρ st.nx h st' fr (h2.put c2<|.loop { p with st:=T,pend:=pe }) F' ρ':=by
    intro sb T pe rb hlr he3;refine⟨n2,ae,_,_,he3,F2,R,vJ _,⟨⟨⟨hr.fp.n,fun t=>(hr.fp.slot t).mono hle⟩,?_⟩,hle,hnx⟩⟩;exact hs3.set J w1 w2 rfl rfl (o':=.lp f2 r2 p.ps p.asg p.body sb p.fr.n sl2) ⟨_,rfl,rfl,rfl,rfl,hlr,rfl,lb4⟩
   cases e2 with
   |normal=>exact⟨[(.bool true,h2.put c2<|.loop { p with st:=.ready,pend:=none })],0,ah,(by simp),fun z hz=>by cases zf.1 hz;exact done .ready _ _ true ⟨rfl,rfl⟩ u⟩
   |ret=>exact⟨[(.bool false,h2.put c2<|.loop { p with st:=.done,pend:=some .ret })],0,ah,(by simp),fun z hz=>by cases zf.1 hz;exact done .ret _ _ false ⟨rfl,rfl⟩ u⟩
   |exit i=>exact⟨[(.bool false,h2.put c2<|.loop { p with st:=.done,pend:=some (.exit i) })],0,ah,(by simp),fun z hz=>by cases zf.1 hz;exact done (.exit i) _ _ false ⟨rfl,rfl⟩ u⟩
  obtain⟨r,M3,j1,j2,j3⟩:=KR Y fin2;refine⟨r,max M2 M3,fun m hm q hq=>?_,j2,j3⟩;have a1:=hM2 m ae q ae;simp only at a1;have a2:=j1 m ae q ae;simp only[q2,la1];rw[a1];exact a2
 obtain⟨r,M4,j1,j2,j3⟩:=KR U fin;refine⟨r,max M1 M4+1,fun m hm=>?_,j2,j3⟩;obtain⟨m',rfl⟩:∃m',m=m'+1:=⟨m-1,by omega⟩;have a1:=hM1 m' ae m' ae;simp only at a1;have a2:=j1 m' ae m' ae;rw[Bp];simp only[Ur];rw[a1];exact a2
end
section
variable {B:Nat}{h0:H0}{X:AG}{F F1 F':Fz}{ρ:EI}{N:Nat}{st st':AP}{fr:Fr}{h h':H}
theorem lS{p:PV}{v:V}(hp:PR F ρ N p v):∃w,Ca F ρ N p.cells w/\(Oj p=true->v=.agg w)/\(Oj p=false->w=[v]):=by
 cases p with
 |agg l=>obtain⟨cs,rfl,a⟩:=hp;exact⟨cs,a,fun _=>rfl,fun e=>by cases e⟩
 |_=>exact⟨[v],by simp only[zq,BY,El,ve];exact hp,fun e=>(by cases e),fun _=>rfl⟩
theorem TR{st:AP}{s:Sh}{p:PV}{x:s.T}{v:V}{w:List V}(a:E8 st s p=some (true,x))(l:Oj p=true->v=.agg w)(m:Oj p=false->w=[v])(g:∀f,Dt st p.cells=some (true,f)->NK F f w):PC F (Cx s x) v:=by
 unfold E8 at a;cases j:(Oj p==s.Ps)with
 |false=>grind
 |true=>
  rw[j]at a;simp only[we]at a;split at a
  case h_2=>cases a
  rename_i c cs e;split at a
  case h_2=>cases a
  rename_i y i;simp only[zu,yg,ze]at a;obtain⟨⟨d,rfl⟩,rfl⟩:=a;have b:=NK.dc (fun ρ N=>Uf (g cs e ρ N) d) i;have k:=PC.Cx b;cases hp:s.Ps with
  |true=>grind
  |false=>grind
theorem handed:∀ {ps:List PV} {vs:List V} {st:AP} {F:Fz},SR B h0 F ρ st.nx st.ob h->Ca F ρ st.nx ps vs->
  ∃F1,SR B h0 F1 ρ (Bx (ps.flatMap zq) st).nx (Bx (ps.flatMap zq) st).ob h/\(∀b cs,F b=some cs->F1 b=some cs)/\∀l i,Ds st l ps=some (true,i)->NK F1 (Af l i) vs
 |[],vs,st,F,hr,hp=>⟨F,hr,fun _ _ h=>h,fun l i e=>by
  have f:vs=[]:=by simp_all
  subst f;match l,i,e with
  |[],_,_=>intro ρ' N';rfl
  |[a],_,e=>cases e
  |a::b::l,_,e=>cases e⟩
 |p::ps,vs,st,F,hr,hp=>by
  obtain⟨v,vs,rfl,o,m⟩:=hp;obtain⟨w,c1,c2,c3⟩:=lS o;obtain⟨F1,g1,g2,g3⟩:=JS hr c1;have g:Ca F1 ρ (Bx p.cells st).nx ps vs:=by rw[(D3 p.cells st).1];exact m.mono<|Le.lP g2
  obtain⟨r,n,j,t⟩:=handed g1 g;rw[List.flatMap_cons,Ka];refine⟨r,n,ah,fun l i e=>?_⟩;match l,i,e with
  |[],_,e=>cases e
  |[a],i,e=>
   cases ps with
   |cons q s=>cases e
   |nil=>
    have f:vs=[]:=by simp_all
    subst f;have:=(TR (st:=st) (F:=F1) (by simpa [Ds]using e) c2 c3 g3).mono j;intro ρ' N';simp only[Af,BY,El,ve];exact this ρ' N'
  |a::b::l,i,e=>
   unfold Ds at e;split at e
   case h_2=>cases e
   rename_i c x d y k u;simp only[zu,yg,ze]at e;obtain⟨⟨rfl,rfl⟩,rfl⟩:=e;exact NK.cons ((TR k c2 c3 g3).mono j) (by grind [Oh,Ph])
theorem SR.after{ob:Ob}(hr:SR B h0 F ρ N ob h)(i:∀b,b<h.nx->h'.get b=h.get b)(j:h.nx<=h'.nx)(d:∀b o,h'.get b=some o->b<h'.nx)(u:∀b cs,F b=some cs->F' b=some cs)
  (p:∀b cs,F' b=some cs->F b=some cs\/h.nx<=b) (f:∀b cs,F' b=some cs->∃t fz,h'.get b=some (.cells cs t fz)):SR B h0 F' ρ N ob h':=by
 refine⟨fun id o l=>?_,hr.inj,f,hr.own,hr.dead,fun b a m=>?_,d,zm hr.le j,fun b cs a=>?_,hr.gl,fun b a=>by obtain⟨g,k,r⟩:=hr.pn b a;exact⟨by rw[i b<|hr.lt b _ g];exact g,k,r⟩⟩
 ·obtain⟨b,n,x,c,s,q,w,v⟩:=hr.obj id o l;have a:=hr.lt b x s;refine⟨b,n,x,c,by grind,q.mono<|Le.lP (ρ:=ρ) u,fun e=>?_,fun e=>?_⟩
  ·cases y:F' b with
   |none=>rfl
   |some cs=>
    grind
  grind
 ·rw[i b<|Nat.lt_of_lt_of_le a hr.le];exact hr.old b a m
 ·rcases p b cs a with c|c
  ·exact hr.fo b cs c
  ·exact .inr<|.inl<|zm hr.le c
theorem SR.gh{ob:Ob}(hr:SR B h0 F ρ N ob h):Gh h:=fun x d=>by
 obtain⟨a,b,c⟩:=hr.gl x d;rw[hr.old _ a b];exact c
structure Vp(C:Ctx)(f:FuncId)(sp:Am):Prop where
 prim:C.prim f=none
 fn:∃i,C.fn f=some i
 run:∀(F:Fz) (h:H) (args:List V) (i:(BF sp.ins).T),(∀b cs,F b=some cs->∃t fz,h.get b=some (.cells cs t fz))->(∀b o,h.get b=some o->b<h.nx)->Gh h->NK F (Af sp.ins i) args->sp.pre i=true->
  ∃l M,(∀m,M<=m->Bp C m (.fn f args) h=some l)/\(sp.nd=false->∃x,l=[x])/\∀x∈l,h.nx<=x.2.nx/\(∀b,b<h.nx->x.2.get b=h.get b)/\(∀b o,x.2.get b=some o->b<x.2.nx)/\
   ∃F':Fz,(∀b cs,F b=some cs->F' b=some cs)/\(∀b cs,F' b=some cs->F b=some cs\/h.nx<=b)/\(∀b cs,F' b=some cs->∃t fz,x.2.get b=some (.cells cs t fz))/\
    PC F' (one (Af sp.outs (sp.f i))) x.1
structure Ae7(C:Ctx)(f:FuncId)(sp:Am):Prop where
 run:∃q,C.prim f=some q/\∀(F:Fz) (h:H) (args:List V) (i:(BF sp.ins).T),NK F (Af sp.ins i) args->sp.pre i=true->∃v,q args h=some (v,h)/\PC F (one (Af sp.outs (sp.f i))) v
def Ae(C:Ctx)(f:FuncId)(sp:Am):Prop:=Vp C f sp\/Ae7 C f sp
theorem Ae.of0{C:Ctx}{f:FuncId}{sp:Am}(h:Vp C f sp):Ae C f sp:=.inl h
theorem Ae.zero{C:Ctx}{f:FuncId}{sp:Am}(h:Ae C f sp)(hp:C.prim f=none):Vp C f sp:=by
 rcases h with h|⟨q,a,_⟩
 ·exact h
 grind
theorem Ae.go{C:Ctx}{f:FuncId}{sp:Am}(ok:Ae C f sp)(F:Fz)(h:H)(args:List V)(i:(BF sp.ins).T)(d:∀b cs,F b=some cs->∃t fz,h.get b=some (.cells cs t fz))(c:∀b o,h.get b=some o->b<h.nx)(e:Gh h)(g:NK F (Af sp.ins i) args)(hp:sp.pre i=true):
  ∃l,(((C.prim f=none/\∃i,C.fn f=some i)/\∃M,∀m,M<=m->Bp C m (.fn f args) h=some l)\/∃q x,C.prim f=some q/\q args h=some x/\l=[x])/\(sp.nd=false->∃x,l=[x])/\∀x∈l,h.nx<=x.2.nx/\(∀b,b<h.nx->x.2.get b=h.get b)/\(∀b o,x.2.get b=some o->b<x.2.nx)/\
   ∃F':Fz,(∀b cs,F b=some cs->F' b=some cs)/\(∀b cs,F' b=some cs->F b=some cs\/h.nx<=b)/\(∀b cs,F' b=some cs->∃t fz,x.2.get b=some (.cells cs t fz))/\
    PC F' (one<|Af sp.outs<|sp.f i) x.1:=by
 rcases ok with ok|⟨q,r,a⟩
 ·obtain⟨l,M,j,k,n⟩:=ok.run F h args i d c e g hp;exact⟨l,.inl ⟨⟨ok.prim,ok.fn⟩,M,j⟩,k,n⟩
 ·obtain⟨v,j,k⟩:=a F h args i g hp;refine⟨[(v,h)],ah,(by simp),fun x p=>?_⟩;grind
theorem DC.sc:∀ {s:Sh} {x:s.T} {cs:List V},s.sc=true->DC F s x cs->DC F' s x cs
 | .int _,_,_,_,h=>by simpa only[DC]using h
 | .bool,_,_,_,h=>by simpa only[DC]using h
 | .str,_,_,_,h=>by simpa only[DC]using h
 | .list s,l,_,e,h=>by cases e
 | .pair a b,x,_,e,h=>by
  simp only[Sh.sc,ze]at e;obtain⟨c,d,rfl,f,g⟩:=h;exact⟨c,d,rfl,f.sc e.1,g.sc e.2⟩
 | .unit,_,_,_,h=>by simpa only[DC]using h
 | .nlist s,l,_,e,h=>by cases e
 | .fnv,_,_,_,h=>by simpa only[DC]using h
 | .ptr _,_,_,e,_=>by cases e
theorem Wp:∀ {s:Sh} {x:s.T} {cs:List V},s.sc=true->Ca F ρ N (flat s x) cs->NK F' (flat s x) cs
 | .int k,x,cs,_,h=>fun ρ' N'=>by
  obtain⟨v,vs,rfl,f,rfl⟩:=h;exact⟨v,[],rfl,by simp only[PR]at f ⊢;exact f.sc rfl,rfl⟩
 | .bool,x,cs,_,h=>fun ρ' N'=>by
  obtain⟨v,vs,rfl,f,rfl⟩:=h;exact⟨v,[],rfl,by simp only[PR]at f ⊢;exact f.sc rfl,rfl⟩
 | .str,x,cs,_,h=>fun ρ' N'=>by
  obtain⟨v,vs,rfl,f,rfl⟩:=h;exact⟨v,[],rfl,by simp only[PR]at f ⊢;exact f.sc rfl,rfl⟩
 | .list s,x,cs,e,h=>by cases e
 | .pair a b,(x,y),cs,e,h=>fun ρ' N'=>by
  simp only[Sh.sc,ze]at e;have key:∀(ps g:List PV) (l:List V),Ca F ρ N (ps++g) l->∃c d,l=c++d/\Ca F ρ N ps c/\Ca F ρ N g d:=by
   intro ps;induction ps with
   |nil=>intro g l i;exact⟨[],l,rfl,by simp,i⟩
   |cons p ps m=>
    intro g l i;obtain⟨v,vs,rfl,f,j⟩:=i;obtain⟨c,d,rfl,h3,h4⟩:=m g vs j;exact⟨v::c,d,rfl,by simp_all,h4⟩
  obtain⟨c,d,rfl,f,j⟩:=key _ _ _ h;exact(Wp e.1 f ρ' N').append<|Wp e.2 j ρ' N'
 | .unit,_,cs,_,h=>fun ρ' N'=>by simpa [flat]using h
 | .nlist s,x,cs,e,h=>by cases e
 | .fnv,x,cs,_,h=>fun ρ' N'=>by
  simp only[flat,Ca]at h ⊢;grind [PR,El]
 | .ptr _,_,_,e,_=>by cases e
theorem dJ{s:Sh}{x:s.T}{v:V}(e:s.sc=true)(h:PC F (Cx s x) v):PC F' (Cx s x) v:=by
 intro ρ' N';have h:=h ρ' N';cases s with
 |pair a b=>
  obtain⟨cs,rfl,c⟩:=h;exact⟨cs,rfl,Wp e c ρ' N'⟩
 |unit=>simp_all [Pe.Cx,PR]
 |int k=>unfold Pe.Cx PR at h ⊢;exact h.sc rfl
 |bool=>unfold Pe.Cx PR at h ⊢;exact h.sc rfl
 |str=>unfold Pe.Cx PR at h ⊢;exact h.sc rfl
 |list s=>cases e
 |nlist s=>cases e
 |ptr s=>cases e
 |fnv=>
  unfold Pe.Cx at h ⊢;grind [PR,El]
theorem fL:∀ {l:List Sh} {x:(BF l).T} {vs:List V},l.all Sh.sc=true->NK F (Af l x) vs->NK F' (Af l x) vs
 |[],_,vs,_,h=>fun ρ' N'=>by have:=h ρ' N';simpa [Af]using this
 |[a],x,vs,e,h=>fun ρ' N'=>by
  have f:=h ρ' N';obtain⟨v,g,rfl,j,rfl⟩:=f;simp only[yh,List.all_nil,Bool.and_true]at e;simp only[Af,BY,El,ve];refine dJ (F:=F) e (fun c d=>?_) ρ' N';have:=h c d;simp_all [Af]
 |a::b::l,x,vs,e,h=>by
  have f:=h (fun _=>none) 0;obtain⟨v,g,rfl,_,_⟩:=f;have i:a.sc=true/\(b::l).all Sh.sc=true:=ah
  exact NK.cons (dJ i.1 fun c d=>((BY ..).1<|h c d).1)<|fL i.2 fun c d=>((BY ..).1<|h c d).2
theorem YH{l:List Sh}{x:(BF l).T}{v:V}:PC F (one<|Af l x) v↔∃vs,NK F (Af l x) vs/\v=(match vs with|[u]=>u|us=>.tup us):=by
 have c:∀ps:List PV,(∀u,ps≠[u])->(PC F (one ps) v↔∃vs,NK F ps vs/\v=(match vs with|[u]=>u|us=>.tup us)):=by
  intro ps j;have k:one ps=.tup ps:=by
   simp_all [one]
  rw[k];constructor
  ·intro h;have d:=h (fun _=>none) 0;obtain⟨cs,rfl,f⟩:=d;refine⟨cs,fun ρ N=>?_,?_⟩
   ·have m:=h ρ N;grind [PR]
   ·have g:=f.len;split
    ·cases ps with
     |nil=>cases g
     |cons q i=>grind
    ·rfl
  ·rintro⟨vs,d,rfl⟩ ρ N;have g:=(d ρ N).len;split
   ·cases ps with
    |nil=>cases g
    |cons q i=>grind
   ·exact⟨_,rfl,d ρ N⟩
 match l,x with
 |[],x=>exact c [] (by simp)
 |[a],x=>
  simp only[Af,one];constructor
  ·intro h;exact⟨[v],fun ρ N=>by simp only[BY,El,ve];exact h ρ N,rfl⟩
  ·rintro⟨vs,d,rfl⟩ ρ N;have f:=d ρ N;simp only[Ca]at f;grind
 |a::b::l,x=>
  refine c _<|fun u e=>?_;cases l<;>cases e
theorem jW{nd:Bool}{g:FuncId}{sp:Am}(_hsp:X.sp g=some sp)(m:Ae X.C g sp)(O:nd=false->sp.nd=false){Q:PV->Ob->Prop}{n:Nat}{args:List PV}{k:PV->AP->Tr}{args':List V}(p:Ev X Q n (xK sp args st k))(hr:Rel B h0 F ρ st fr h)(D:Ca F ρ st.nx args args'):
  ∃l,OU X ρ h args' (.fn g) l/\(nd=false->∃x,l=[x])/\
   ∀x∈l,∃n',n'<=n/\∃r st',Ev X Q n' (k r st')/\∃F' ρ',PR F' ρ' st'.nx r x.1/\DO B h0 F ρ st.nx h st' fr x.2 F' ρ'/\(∀sp,X.sp g=some sp->∀b,b<h.nx->x.2.get b=h.get b):=by
 unfold xK at p;split at p
 case h_2=>grind [zo]
 rename_i c i K;rcases p.FE with⟨y,d⟩|⟨_,d⟩
 case inr=>grind [zo]
 simp only[ze]at y;obtain⟨rfl,e⟩:=y;obtain⟨F1,g1,g2,g3⟩:=handed hr.sr D;obtain⟨l,s,hone,hall⟩:=m.go F1 h args' i g1.frz hr.sr.lt hr.sr.gh (g3 _ i K) e;have o:OU X ρ h args' (.fn g) l:=by
  rcases s with⟨u,M,s⟩|⟨q,x,u,J,rfl⟩
  ·exact .Bp ⟨rfl,u⟩ s
  ·exact .prim u J
 refine⟨l,o,ah,fun x z=>?_⟩;obtain⟨j,w,v,F',I,L,P,G⟩:=hall x z;refine⟨n,zh _,_,_,d,?_⟩;cases S:sp.outs.all Sh.sc with
 |true=>
  have E:PC F (one<|Af sp.outs<|sp.f i) x.1:=by
   grind [YH,fL]
  refine⟨F,ρ,E ρ _,⟨⟨hr.fp,?_⟩,yd,j⟩,ah⟩;refine hr.sr.after w j v (by simp) ah<|fun b cs T=>?_;grind
 |false=>
  simp only[wg];obtain⟨U,R,A⟩:=D3 (args.flatMap zq) st;have a:Le F ρ st.nx F' ρ (Bx (args.flatMap zq) st).nx:=by
   grind [Le.lP]
  refine⟨F',ρ,G ρ _,⟨⟨⟨A.trans hr.fp.n,fun t=>?_⟩,?_⟩,a,j⟩,ah⟩
  ·have:(Bx (args.flatMap zq) st).get t=st.get t:=by unfold AP.get;rw[R]
   rw[this];exact(hr.fp.slot t).mono a
  ·exact g1.after w j v I L P
structure Mi(C:Ctx)(f:FuncId)(w:gK):Prop where
 prim:C.prim f=none
 fn:∃i,C.fn f=some i
 len:∀i l,w.pre i l=true->(w.g i l).length=l.length
 run:∀(F:Fz) (h:H) (args:List V) (i:(BF w.ins).T) (l:List w.el.T) (b:Nat) (cs:List V) (fz:Nat×Nat) (o:Nat),(∀b cs,F b=some cs->∃t fz,h.get b=some (.cells cs t fz))->(∀b o,h.get b=some o->b<h.nx)->Gh h->NK F (Af w.ins i) args->w.pre i l=true->
  h.get b=some (.cells cs w.ty fz)->Eb F w.el l cs->fz.2<=fz.1->F b=none->(o=0\/o=w.el.sz)->
  ∃x M,(∀m,M<=m->Bp C m (.fn f (args++[.sl b 0 l.length l.length o])) h=some [x])/\x.1=.tup []/\h.nx<=x.2.nx/\(∀c,c<h.nx->c≠b->x.2.get c=h.get c)/\(∀c y,x.2.get c=some y->c<x.2.nx)/\
   ∃F':Fz,(∀b cs,F b=some cs->F' b=some cs)/\(∀b cs,F' b=some cs->F b=some cs\/h.nx<=b)/\(∀b cs,F' b=some cs->∃t fz,x.2.get b=some (.cells cs t fz))/\
    ∃cs' fz',x.2.get b=some (.cells cs' w.ty fz')/\Eb F' w.el (w.g i l) cs'/\fz'.2<=fz'.1
 nils:∀(F:Fz) (h:H) (args:List V) (i:(BF w.ins).T),(∀b cs,F b=some cs->∃t fz,h.get b=some (.cells cs t fz))->(∀b o,h.get b=some o->b<h.nx)->Gh h->NK F (Af w.ins i) args->w.pre i []=true->
  ∃x M,(∀m,M<=m->Bp C m (.fn f (args++[.nils])) h=some [x])/\x.1=.tup []/\h.nx<=x.2.nx/\(∀c,c<h.nx->x.2.get c=h.get c)/\(∀c y,x.2.get c=some y->c<x.2.nx)/\
   ∃F':Fz,(∀b cs,F b=some cs->F' b=some cs)/\(∀b cs,F' b=some cs->F b=some cs\/h.nx<=b)/\(∀b cs,F' b=some cs->∃t fz,x.2.get b=some (.cells cs t fz))
theorem Ca.split:∀ {a b:List PV} {vs:List V},Ca F ρ N (a++b) vs->∃x y,vs=x++y/\Ca F ρ N a x/\Ca F ρ N b y
 |[],b,vs,h=>⟨[],vs,rfl,by simp,h⟩
 |p::a,b,vs,h=>by
  obtain⟨v,vs,rfl,d,c⟩:=h;obtain⟨x,y,rfl,h3,h4⟩:=c.split;exact⟨v::x,y,rfl,by simp_all,h4⟩
theorem SR.wrote{ob:Ob}(hr:SR B h0 F ρ N ob h){id b n:Nat}{o o':Obj}{x':O}(R:AU ob id=some o)(z:ρ id=some (b,n))(I:b<h.nx)(P:F b=none)(S:o'.frozen=false)(T:h'.get b=some x')(V:ZP F' ρ N n o' x')
  (A:∀c,c<h.nx->c≠b->h'.get c=h.get c) (D:h.nx<=h'.nx) (v:∀b o,h'.get b=some o->b<h'.nx) (C:∀b cs,F b=some cs->F' b=some cs)
  (E:∀b cs,F' b=some cs->F b=some cs\/h.nx<=b) (r:∀b cs,F' b=some cs->∃t fz,h'.get b=some (.cells cs t fz)):SR B h0 F' ρ N (Ez ob id o') h':=by
 have g:∀j,AU (Ez ob id o') j=if j=id then some o' else AU ob j:=(by grind [Ig])
 have s:∀c,c<h.nx->F c=none->F' c=none:=fun c f Y=>by
  cases d:F' c with
  |none=>rfl
  |some cs=>
   grind
 refine⟨fun j oj a=>?_,fun i j oi oj c m U K a d u=>?_,r,hr.own,fun j a=>?_,fun c f x=>?_,v,zm hr.le D,fun c cs f=>?_,hr.gl,fun c f=>?_⟩
 ·rw[g]at a;by_cases e:j=id
  ·grind
  ·rw[wc e]at a;obtain⟨c,m,y,d,u,G,W,Z⟩:=hr.obj j oj a;have p:c≠b:=fun L=>e<|hr.inj j id oj o c m n a R d<|L▸z
   have f:=hr.lt c y u;refine⟨c,m,y,d,by grind,G.mono<|Le.lP (ρ:=ρ) C,ah,fun e=>?_⟩;grind
 ·have l:∀k ok,AU (Ez ob id o') k=some ok->∃M,AU ob k=some M:=by
   grind
  obtain⟨_,q⟩:=l i oi K;obtain⟨_,w⟩:=l j oj a;exact hr.inj i j _ _ c m U q w d u
 ·rw[g]at a;by_cases e:j=id
  ·grind
  ·rw[wc e]at a;exact hr.dead j a
 ·rw[A c (Nat.lt_of_lt_of_le f hr.le)<|P7 (hr.own id b n z).2 f x];exact hr.old c f x
 ·rcases E c cs f with d|d
  ·exact hr.fo c cs d
  ·exact .inr<|.inl<|zm hr.le d
 ·obtain⟨q,w,J⟩:=hr.pn c f;have p:c≠b:=ah;exact⟨by rw[A c (hr.lt c _ q) p];exact q,w,J⟩
theorem rev_eq{α:Type}{a:List α}{x:α}{r:List α}(h:a.reverse=x::r):a=r.reverse++[x]:=by
 simp_all
theorem aV{nd:Bool}{g:FuncId}{w:gK}(hno:X.sp g=none)(a:Mi X.C g w){Q:PV->Ob->Prop}{n:Nat}{args:List PV}{k:PV->AP->Tr}{args':List V}(q:Ev X Q n (Zt w args st k))(hr:Rel B h0 F ρ st fr h)(I:Ca F ρ st.nx args args'):
  ∃l,OU X ρ h args' (.fn g) l/\(nd=false->∃x,l=[x])/\
   ∀x∈l,∃n',n'<=n/\∃r st',Ev X Q n' (k r st')/\∃F' ρ',PR F' ρ' st'.nx r x.1/\DO B h0 F ρ st.nx h st' fr x.2 F' ρ'/\(∀sp,X.sp g=some sp->∀b,b<h.nx->x.2.get b=h.get b):=by
 unfold Zt at q;split at q
 ·rename_i id sz nn r j;rw[rev_eq j]at I;obtain⟨a1,a2,rfl,z,u⟩:=I.split;obtain⟨v,_,rfl,hv,rfl⟩:=u;obtain⟨F1,g1,g2,g3⟩:=handed hr.sr z;split at q
  case h_2=>grind [zo]
  rename_i c i t s l R W;cases p:zp t w.ty with
  |false=>grind [zo]
  |true=>
  rw[p]at q;have p:=zt p;split at q
  case h_2=>grind [zo]
  rename_i l' O;obtain⟨e,rfl⟩:=CU O;cases e;rcases q.FE with⟨G,f⟩|⟨_,f⟩
  case inr=>grind [zo]
  simp only[ze,w5]at G;obtain⟨⟨⟨rfl,d⟩,hn⟩,A⟩:=G;have A:=zt A;subst hn A p;obtain⟨e1,e2,e3⟩:=D3 (r.reverse.flatMap zq) st;obtain⟨b,m,x,h1,h2,⟨cs,fz,rfl,k1,k2,k3⟩,h4,_⟩:=g1.obj id _ W;simp only[PR]at hv;obtain⟨o,ho',rfl⟩:∃o,(o=0\/o=w.el.sz)/\v=.sl b (0*w.el.sz) (List.length l) (List.length l) o:=by
   grind
  rw[Nat.zero_mul];obtain⟨x,M,K,q1,D,T,J,F',S,P,L,cs',fz',f4,Y,Z⟩:=a.run F1 h a1 i l b cs fz o g1.frz hr.sr.lt hr.sr.gh (g3 _ i R) d h2 k1 k2 (h4 rfl) ho';refine⟨[x],.Bp ⟨rfl,a.prim,a.fn⟩ K,(by simp),fun y U=>?_⟩;cases zf.1 U;refine⟨n,zh _,_,_,f,F',ρ,?_,⟨⟨⟨e3.trans hr.fp.n,fun t=>?_⟩,?_⟩,?_,D⟩,ah⟩
  ·rw[q1];simp[PR]
  ·have:((Bx (r.reverse.flatMap zq) st).setObj id<|.arr false w.ty w.el<|w.g i l).get t=st.get t:=by
    show((Bx (r.reverse.flatMap zq) st).fr.get t).getD .any=_;rw[e2];rfl
   rw[this];refine(hr.fp.slot t).mono ?_;show Le F ρ st.nx F' ρ (Bx (r.reverse.flatMap zq) st).nx;grind [Le.lP]
  ·exact g1.wrote W h1 (hr.sr.lt _ _ h2) (h4 rfl) rfl f4 ⟨cs',fz',rfl,Y,Z,by rw[<-k3];exact a.len i l d⟩ T D J S P L
  ·show Le F ρ st.nx F' ρ (Bx (r.reverse.flatMap zq) st).nx;grind [Le.lP]
 ·rename_i r j;rw[rev_eq j]at I;obtain⟨a1,a2,rfl,z,u⟩:=I.split;obtain⟨v,_,rfl,hv,rfl⟩:=u;subst hv;obtain⟨F1,g1,g2,g3⟩:=handed hr.sr z;split at q
  case h_2=>grind [zo]
  rename_i c i R;rcases q.FE with⟨G,f⟩|⟨_,f⟩
  case inr=>grind [zo]
  simp only[ze]at G;obtain⟨rfl,d⟩:=G;obtain⟨e1,e2,e3⟩:=D3 (r.reverse.flatMap zq) st;obtain⟨x,M,K,q1,D,T,J,F',S,P,L⟩:=a.nils F1 h a1 i g1.frz hr.sr.lt hr.sr.gh (g3 _ i R) d;have E:Le F ρ st.nx F' ρ (Bx (r.reverse.flatMap zq) st).nx:=by
   grind [Le.lP]
  refine⟨[x],.Bp ⟨rfl,a.prim,a.fn⟩ K,(by simp),fun y U=>?_⟩;cases zf.1 U;refine⟨n,zh _,_,_,f,F',ρ,?_,⟨⟨⟨e3.trans hr.fp.n,fun t=>?_⟩,?_⟩,E,D⟩,ah⟩
  ·rw[q1];simp[PR]
  ·have:(Bx (r.reverse.flatMap zq) st).get t=st.get t:=by unfold AP.get;rw[e2]
   rw[this];exact(hr.fp.slot t).mono E
  ·exact g1.after T D J S P L
 grind [zo]
theorem Ii(i:X.C.mg=false)(f:∀g sp,X.sp g=some sp->Ae X.C g sp)(m:∀g w,X.ws g=some w->Mi X.C g w):∀(d:Nat) (nd:Bool) (h0:H0),Gg B h0 X nd<|CD X nd d
 |0,nd,h0=>by intro a;exact wh a zo
 |d+1,nd,h0=>by
  rename_i Q n L args st k;intro a F ρ fr h args' hr q;unfold CD at a;cases L with
  |rnd id=>
   obtain⟨c,T,l,M,R,J,V⟩:=Oi (Ii i f m d nd) (Ii i f m d false) a hr q;refine⟨l,.Bp T R,J,fun x t=>?_⟩;grind
  |fn g=>
  simp only at a;have conv:(∃l,OU X ρ h args' (.fn g) l/\(nd=false->∃x,l=[x])/\
   ∀x∈l,∃n',n'<=n/\∃r st',Ev X Q n' (k r st')/\∃F' ρ',PR F' ρ' st'.nx r x.1/\DO B h0 F ρ st.nx h st' fr x.2 F' ρ'/\(∀sp,X.sp g=some sp->∀b,b<h.nx->x.2.get b=h.get b))->
   ∃l,OU X ρ h args' (.fn g) l/\(nd=false->∃x,l=[x])/\
   ∀x∈l,∃n',n'<=n/\∃r st',Ev X Q n' (k r st')/\∃F' ρ',PR F' ρ' st'.nx r x.1/\DO B h0 F ρ st.nx h st' fr x.2 F' ρ'/\(∀G,Cal.fn g=.fn G->∀sp,X.sp G=some sp->∀b,b<h.nx->x.2.get b=h.get b):=by
   simp
  obtain⟨o,p⟩:∃o,X.sp g=o:=⟨_,rfl⟩;cases o with
  |some sp=>
   rw[p]at a;simp only at a;cases D:(nd|| !sp.nd)with
   |false=>grind [zo]
   |true=>
    rw[D]at a;exact conv (jW (nd:=nd) p (f g sp p) ah a hr q)
  |none=>
   rw[p]at a;obtain⟨O,u⟩:∃o,X.ws g=o:=⟨_,rfl⟩;cases O with
   |some w=>rw[u]at a;exact conv (aV p (m g w u) a hr q)
   |none=>
   rw[u]at a;simp only at a;cases j:X.esc.any (zp g)with
   |true=>
    rw[j]at a;unfold AhC at a;split at a
    case h_2=>grind [zo]
    rename_i id off;cases s:Jr (st.obj id)with
    |false=>grind [zo]
    |true=>
     rw[s]at a;obtain⟨W,E,D⟩:=List.any_eq_true.1 j;have e:=zt D;subst e;have hp:=X.escOk g E;obtain⟨o,ho⟩:=bX s;obtain⟨b,n',z,q1,_⟩:=hr.sr.at ho;obtain⟨x,_,rfl,t,rfl⟩:=q;have A:=t;obtain rfl:=A.2 b n' q1;exact conv ⟨[(.ptr b off,h)],.prim hp rfl,(by simp),fun y U=>by
      cases zf.1 U;exact⟨n,zh _,_,st,a,F,ρ,t,DO.refl hr,(by simp)⟩⟩
   |false=>
   rw[j]at a;split at a
   case h_2=>grind [zo]
   rename_i hp v;obtain⟨I,l,M,S,P,K⟩:=KK (Ii i f m d nd) (Ii i f m d false) i v hp p a hr q;exact conv ⟨l,.Bp ⟨rfl,I⟩ S,P,K⟩
theorem QS{st:AP}:∀ {l:List Sh} {ps:List PV} {r:Bool×(BF l).T},Ds st l ps=some r->l.length=ps.length
 |[],[],_,_=>rfl
 |[],_::_,_,h=>by cases h
 |[a],[p],_,_=>rfl
 |[a],[],_,h=>by cases h
 |[a],_::_::_,_,h=>by cases h
 |a::b::l,[],_,h=>by cases h
 |a::b::l,p::ps,_,h=>by
  unfold Ds at h;split at h
  case h_2=>cases h
  rename_i d c;have:=QS c;grind
def Hw(outs:List Sh)(v:PV):List PV:=match outs with
 |[_]=>[v]
 |_=>match v with
  | .tup vs=>vs
  |_=>[v]
def Jf(outs:List Sh)(v:PV)(ob:Ob):Option (Bool×(BF outs).T):=Ds ⟨0,.leaf,ob,0⟩ outs<|Hw outs v
def Ends(X:AG)(t:Tr)(Q:PV->Ob->Prop):Prop:=∃n,Ev X Q n t
def Ac(sp:Am)(i:(BF sp.ins).T)(v:PV)(ob:Ob):Prop:=∃y,Jf sp.outs v ob=some (true,y)/\y=sp.f i
theorem aA{v:PV}(h:wP v=true)(st st':AP):CE st v=CE st' v:=by
 cases v<;>first|rfl|cases h
theorem Kh(st st':AP):∀ {l:List PV},l.all wP=true->Dt st l=Dt st' l
 |[],_=>rfl
 |v::l,h=>by
  rw[yh,ze]at h;unfold Dt;rw[aA h.1 st st',Kh st st' h.2]
theorem Ho(st st':AP):∀ {l:List Sh} {ps:List PV},ps.all Tq=true->Ds st l ps=Ds st' l ps
 |[],[],_=>rfl
 |[],_::_,_=>rfl
 |[_],[],_=>rfl
 |_::_::_,[],_=>rfl
 |[a],[p],h=>by
  grind [E8,Kh,Ds,Tq]
 |[_],_::_::_,_=>rfl
 |a::b::l,p::ps,h=>by
  rw[yh,ze]at h;unfold Ds E8;rw[Kh st st' h.1,Ho st st' h.2]
theorem AfJ{outs:List Sh}{v:PV}{ob:Ob}:Jf outs v (gcO v ob)=Jf outs v ob:=by
 unfold gcO;cases b:AdV v with
 |false=>rfl
 |true=>
  unfold Jf Hw;by_cases d:∃a,v=.tup a
  ·obtain⟨a,rfl⟩:=d;split
   ·rfl
   ·exact Ho _ _ b
  ·have e:Tq v=true:=by
    cases v with
    |tup a=>grind
    |_=>exact b
   have c:[v].all Tq=true:=ah
   split
   ·exact Ho _ _ c
   ·split
    ·grind
    grind [Ho]
theorem kT(K:X.C.mg=false)(j:∀g sp,X.sp g=some sp->Ae X.C g sp)(hws:∀g w,X.ws g=some w->Mi X.C g w){f:FuncId}{sp:Am}{d:Nat}(J:X.C.spec f=none)(c:X.C.prim f=none)(R:X.sp f=none)
  (S:∀i,sp.pre i=true->Ends X (tree X sp.nd d f<|Af sp.ins i) (Ac sp i)) (P:∃i,X.C.fn f=some i):Ae X.C f sp:=by
 refine .of0 ⟨c,P,fun F h args i u s A m v=>?_⟩;obtain⟨n,Y⟩:=S i v;have hr:Rel h.nx ⟨h,F,[],fun _=>False⟩ F (fun _=>none) (Ap 0 [] [] 0) ⟨0,.leaf⟩ h:=by
  refine⟨⟨rfl,fun t=>?_⟩,⟨fun id o V=>(by cases V),(by simp),u,(by simp),fun _ _=>rfl,(by simp),s,zh _,ah,fun x G=>⟨s _ _<|A x G,fun e=>e,A x G⟩,(by simp)⟩⟩;show PR _ _ _ (((FG []).get t).getD .any) _;grind [FG,PM.ES,PR]
 obtain⟨_,l,M,Z,q,j⟩:=KK (by grind [Ii]) (by grind [Ii]) K J c R Y hr<|m _ _;refine⟨l,M,Z,q,fun x G=>?_⟩;obtain⟨n',hn,r,st',he',F',ρ',hp,hw,_⟩:=j x G;have hq:=he'.eU;obtain⟨y,hy,rfl⟩:=hq;rw[AfJ]at hy;have D:∀b,b<h.nx->x.2.get b=h.get b:=fun b p=>hw.rel.sr.old b p<|fun e=>e
 refine⟨hw.nx,D,hw.rel.sr.lt,?_⟩;have L:∃vs,Ca F' ρ' st'.nx (Hw sp.outs r) vs/\((∃a,sp.outs=[a])->vs=[x.1])/\((∀a,sp.outs≠[a])->(∃I,r=.tup I)->x.1=.tup vs):=by
  unfold Hw;split
  ·simp_all
  ·split
   ·grind [PR]
   ·exact⟨[x.1],by simp_all,fun _=>rfl,ah⟩
 obtain⟨vs,k,W,U⟩:=L;obtain⟨F1,g1,g2,g3⟩:=handed (st:=st') hw.rel.sr k;have O:∀id,ED (AP.obj ⟨0,.leaf,st'.ob,0⟩ id) (st'.obj id):=fun id=>ED.refl _
 have z:=g3 sp.outs _ (by rw[Oh O];exact hy);refine⟨F1,fun b cs p=>g2 b cs<|hw.le.fz b cs p,fun b cs p=>(g1.fo b cs p).imp_right<|fun h=>h.resolve_right<|fun e=>e,g1.frz,YH.2 ⟨vs,z,?_⟩⟩;have E:sp.outs.length=(Hw sp.outs r).length:=QS hy;have hl2:=k.len;by_cases V:∃a,sp.outs=[a]
 ·grind
 ·have T:sp.outs.length≠1:=(by grind [List.length_eq_one_iff]);have ht:∃I,r=.tup I:=by
   cases r with
   |tup I=>simp
   |_=>
    exfalso;apply T;rw[E];unfold Hw;split<;>rfl
  grind
end
section
variable {X:AG}{Q Q':PV->Ob->Prop}
theorem Ends.leaf{v:PV}{ob:Ob}(h:Q v ob):Ends X (.leaf v ob) Q:=⟨0,.leaf h⟩
theorem Ends.ite{c:Bool}{a b:Tr}(e:c=true->Ends X a Q)(d:c=false->Ends X b Q):Ends X (.ite c a b) Q:=by
 cases c with
 |true=>obtain⟨n,h⟩:=e rfl;exact⟨n,.ite (fun _=>h)<|by simp⟩
 |false=>obtain⟨n,h⟩:=d rfl;exact⟨n,.ite (by simp)<|fun _=>h⟩
theorem Ends.tt{c:Bool}{a b:Tr}(d:c=true)(h:Ends X a Q):Ends X (.ite c a b) Q:=(by grind [Ends.ite])
theorem Ends.ff{c:Bool}{a b:Tr}(d:c=false)(h:Ends X b Q):Ends X (.ite c a b) Q:=(by grind [Ends.ite])
def stepT(X:AG):Tr->Tr
 | .loop nd ro d f base b st k=>body X nd ro d f base b st k
 | .cut nd ro d f base b st k=>Bb X nd ro d f base b st k
 |t=>t
theorem Ends.step{t:Tr}(h:Ends X (stepT X t) Q):Ends X t Q:=by
 cases t with
 |loop=>obtain⟨n,h⟩:=h;exact⟨n+1,.loop h⟩
 |cut=>obtain⟨n,h⟩:=h;exact⟨n,.cut h⟩
 |_=>exact h
theorem Ends.eq{t a:Tr}(e:t=a)(h:Ends X a Q):Ends X t Q:=e▸h
theorem Ends.Ah{t a:Tr}(e:stepT X t=a)(h:Ends X a Q):Ends X t Q:=Ends.step<|e▸h
def Tr.L:Tr->Tr
 | .ite _ a _=>a
 | .both a _=>a
 |t=>t
def Tr.R:Tr->Tr
 | .ite _ _ b=>b
 | .both _ b=>b
 |t=>t
def re:Tr->AP->Tr
 | .loop nd ro d f base b _ k,st=>.loop nd ro d f base b st k
 | .cut nd ro d f base b _ k,st=>.cut nd ro d f base b st k
 |t,_=>t
def LG(r:Nat):Code->Option (Array Tmp×Code×Code)
 | .rangeFunc _ ps a b=>bif zp (BR b) r then some (ps,a,b)else LG r b
 | .seq a b=>match LG r a with
  |some x=>some x
  |none=>LG r b
 | .cond _ a b=>match LG r a with
  |some x=>some x
  |none=>LG r b
 | .block _ b| .loop b| .scope b=>LG r b
 |_=>none
def Aeg(C:Ctx)(f:FuncId)(r:Nat):Array Tmp×Code×Code:=match C.fn f with
 |some i=>(LG r i.body).getD (#[],.skip,.skip)
 |none=>(#[],.skip,.skip)
def jX(C:Ctx)(f:FuncId)(r:Nat):Array Tmp:=(Aeg C f r).1
def T2(C:Ctx)(f:FuncId)(r:Nat):Code:=(Aeg C f r).2.1
def N7(C:Ctx)(f:FuncId)(r:Nat):Code:=(Aeg C f r).2.2
def FM:List (FuncId×Am)->FuncId->Option Am
 |[],_=>none
 |(g,s)::l,f=>bif zp g f then some s else FM l f
def Air:List (FuncId×List Nat)->FuncId->Nat->Bool
 |[],_,_=>false
 |(g,t)::l,f,r=>bif zp g f then t.any (zp r)else Air l f r
def Ag5:List (FuncId×List (Nat×List (Nat×Sh)))->FuncId->Nat->List (Nat×Sh)
 |[],_,_=>[]
 |(g,t)::l,f,r=>bif zp g f then fz1 t r else Ag5 l f r
 where fz1:List (Nat×List (Nat×Sh))->Nat->List (Nat×Sh)
 |[],_=>[]
 |(i,s)::l,r=>bif zp i r then s else fz1 l r
def Aeo:List (FuncId×List (Nat×List Nat))->FuncId->Nat->List Nat
 |[],_,_=>[]
 |(g,t)::l,f,r=>bif zp g f then pl1 t r else Aeo l f r
 where pl1:List (Nat×List Nat)->Nat->List Nat
 |[],_=>[]
 |(i,s)::l,r=>bif zp i r then s else pl1 l r
end
section
open Go.Proofs.Tryz (prog)
def Rw(C:Ctx)(q:Z7):Ctx:=⟨C.T,C.ng,C.fn,C.prim,q,false⟩
theorem XE{C:Ctx}{P:Program}(a:C.Ok P){q:Z7}(h:Md P q):(Rw C q).Ok P where
 T:=a.T
 fn:=a.fn
 prim:=a.prim
 spec:=h
theorem SL{C:Ctx}(a:Hn C)(q:Z7):Hn (Rw C q):=a
def A1:Ctx:=Rw C7<|orS fmtS<|orS xV<|orS UX<|LQ A7
theorem Agj:A1.Ok prog:=XE iD<|VJ AbA<|VJ pP<|VJ aR spA
theorem kQ:Hn A1:=SL Nz _
def AgV:List (FuncId×List (Nat×List Nat)):=
 [(4,[(27,[1,5,7,9,10,11,12]),(16,[1,3,5,7,9,10,11,12,13,15]),(21,[1,3,5,7,9,10,11,12,13,15,16]),(22,[1,3,5,7,9,10,11,12,13,15,16]),(20,[1,3,5,7,9,10,11,12,13,15,16]),(19,[1,3,5,7,9,10,11,12,13,15]),(17,[1,3,5,7,9,10,11,12,13,15]),(15,[1,3,5,7,9,10,11,12,13,15]),(14,[1,3,5,7,9,10,11,12,13]),(12,[1,3,5,7,9,10,11,12,13,14]),(7,[1,3,5,7,8]),(4,[1,3,5,7])]),
 (5,[(29,[1,3,5,7,9,10,12,14,18,19,20,144,145]),(25,[1,3,5,7,9,10,12,14,18,19,20,21,26,144,145]),(26,[1,3,5,7,9,10,12,14,18,19,20,21,26,144,145]),(24,[1,3,5,7,9,10,12,14,18,19,20,21,26,144,145]),(20,[1,3,5,7,9,10,12,14,18,19,20,21,22,24,144,145]),(15,[1,3,5,7,9,10,12,14,18,19,20,144,145]),(14,[1,3,5,7,9,10,12,14,18,19,20,144,145]),(10,[1,3,5,7,9,10,12,14]),(3,[1,3,5])]),
 (7,[(18,[1,2,3,8]),(16,[1,2,3,8]),(14,[1,2,3,7]),(12,[1,2,3,7]),(9,[1,2,3,4,5,6]),(7,[1,2,3,4,5,6]),(5,[1,2,3,4]),(3,[1,2,3,4])]),
 (9,[(16,[1,6]),(17,[1,6]),(15,[1,6]),(11,[1,5]),(12,[1,5]),(10,[1,5]),(5,[1,3]),(6,[1,3]),(4,[1,3]),(3,[1])]),
 (10,[(38,[1,5,10]),(44,[1,5,10]),(42,[1,5,10,11]),(39,[1,5,10]),(37,[1,5,10]),(35,[1]),(33,[1]),(18,[1,5,6]),(30,[1,5,6,7]),(25,[1,5,6,7,8,9]),(26,[1,5,6,7,8,9]),(24,[1,5,6,7,8,9]),(23,[1,5,6,7,8]),(19,[1,5,6]),(17,[1,5,6]),(15,[1]),(13,[1]),(7,[1,3]),(8,[1,3]),(6,[1,3]),(5,[1]),(3,[1])]),
 (11,[(11,[1,2,3,9]),(12,[1,2,3,9]),(10,[1,2,3,9]),(5,[1,2,3,7]),(6,[1,2,3,7]),(4,[1,2,3,7]),(3,[1,2,3])]),
 (14,[(17,[14,16]),(11,[10,12,13]),(8,[3,10]),(4,[1,2,3,11,12])]),
 (18,[(5,[1,2,4,5,11,12]),(3,[1,2,4,5,11,12])]),
 (22,[(15,[15,59,60,61]),(14,[15,59,60,61]),(9,[4,5,6,11,12]),(4,[3,4,5,6,13,14])]),
 (23,[(16,[1,5,6,7,18,19,24,25]),(15,[1,5,6,7,9,18,19,24,25]),(11,[1,5,6,7,18,19,24,25]),(10,[1,5,6,7,18,19,24,25]),(7,[1,5,18,19]),(6,[1,5,18,19]),(4,[1])]),
 (26,[(5,[0,1,5]),(6,[0,1,5]),(4,[0,1,5]),(3,[0,1])]),
 (27,[(13,[9,11,12,13,14]),(14,[9,11,12,13,14]),(12,[9,11,12,13,14]),(10,[9,11,12]),(8,[9,11,12]),(5,[1,2,3,4,9,10]),(3,[1,2,3,4,9,10])]),
 (28,[(3,[0,3]),(4,[0,3]),(2,[0,3])]),
 (30,[(5,[0,1])]),
 (37,[(5,[1,2,3,4]),(3,[1,2,3,4])]),
 (45,[(10,[1,4]),(11,[1,4]),(9,[1,4]),(5,[1,3]),(6,[1,3]),(4,[1,3]),(3,[1])]),
 (46,[(14,[1,4]),(17,[1,4]),(15,[1,4]),(13,[1,4]),(12,[1]),(10,[1]),(8,[1,3]),(6,[1,3]),(4,[1,3])]),
 (47,[(5,[0,1,5]),(6,[0,1,5]),(4,[0,1,5]),(3,[0,1])]),
 (48,[(20,[1,5,6]),(28,[1,5,6]),(26,[1,3,5,6]),(24,[1,3,5,6]),(21,[1,5,6]),(19,[1,5,6]),(17,[1]),(12,[1,4]),(13,[1,4]),(11,[1,4]),(10,[1]),(8,[1,3]),(6,[1,3]),(3,[1])]),
 (50,[(10,[2,3,8]),(11,[2,3,8]),(9,[2,3,8]),(5,[2,3,7]),(6,[2,3,7]),(4,[2,3,7]),(3,[2,3])]),
 (55,[(4,[7])]),
 (59,[(3,[2,3,4])]),
 (60,[(6,[5,6,7]),(3,[5,6,7]),(2,[5,6,7])]),
 (74,[(5,[0,1])]),
 (77,[(7,[4,5,6]),(13,[4,5,6,7]),(11,[4,5,6,7]),(8,[4,5,6]),(6,[4,5,6]),(3,[0])]),
 (78,[(16,[]),(11,[3,4]),(9,[3,4]),(7,[3,4]),(4,[0,3])]),
 (80,[(15,[8,9]),(13,[6,8,9]),(10,[5,6,7]),(7,[5,6]),(4,[5])]),
 (81,[(13,[6]),(10,[0,1,6]),(5,[0,1]),(3,[0,1])]),
 (83,[(9,[8,10]),(3,[2,3])]),
 (95,[(5,[6,8])]),
 (99,[(6,[8,10,11,12,13,14])]),
 (100,[(14,[6,7,10,40,41,42]),(13,[6,7,10,12,13,40,41,42]),(10,[6,7,10,40,41,42]),(9,[6,7,10,40,41,42]),(4,[1,3,6,7,21,22,23]),(3,[1,3,6,7,21,22,23])]),
 (111,[(5,[0,3]),(6,[0,3]),(4,[0,3]),(3,[0])]),
 (112,[(7,[0,3]),(13,[0,3,4]),(11,[0,3,4]),(8,[0,3]),(6,[0,3]),(5,[0]),(3,[0])]),
 (115,[(35,[14,94,95,96]),(34,[14,16,94,95,96]),(30,[14,94,95,96]),(29,[14,94,95,96]),(27,[1]),(23,[1,8,47,48,49]),(22,[1,8,10,47,48,49]),(17,[1,8,47,48,49]),(16,[1,8,47,48,49]),(14,[1]),(10,[1,26,27,28]),(6,[1,26,27,28]),(5,[1,26,27,28]),(4,[1])]),
 (120,[(5,[2,3,4]),(3,[2,3,4])]),
 (122,[(4,[0,1,2,3,8,9]),(2,[0,1,2,3,8,9]),(1,[0,1,2,3,8,9])]),
 (126,[(5,[0,1,5]),(6,[0,1,5]),(4,[0,1,5]),(3,[0,1])]),
 (128,[(8,[7,8,9,10,11]),(9,[7,8,9,10,11]),(7,[7,8,9,10,11]),(6,[7,8,9,10]),(4,[7,8,9,10])]),
 (135,[(10,[0,3,4,11,12,13]),(8,[0,3,4,5,7,8]),(6,[0,3,4,5,7,8]),(3,[0,3,4,11,12,13]),(2,[0,3,4,11,12,13])]),
 (136,[(16,[0,1,2,6]),(10,[0,1,2,6,7,8]),(9,[0,1,2,6,7,8]),(8,[0,1,2,6]),(7,[0,1,2,6]),(3,[0,1,2,6,7,8]),(2,[0,1,2,6,7,8])]),
 (138,[(6,[0,2,3,4]),(5,[0,2,3,4]),(4,[0,2,3])]),
 (139,[(3,[0,3]),(4,[0,3]),(2,[0,3])]),
 (141,[(2,[0,1]),(1,[0,1])]),
 (142,[(5,[0,3,4]),(3,[0,3,4])]),
 (143,[(7,[0,2,3,4,5]),(4,[0,2,3,4]),(3,[0,2,3,4])]),
 (144,[(2,[0,1]),(1,[0,1])]),
 (145,[(3,[0,1,5]),(2,[0,1,5])]),
 (147,[(15,[8,9,10,11,12,13]),(39,[8,9,10,11,12,13,14]),(35,[8,9,10,11,12,13,14,19,20]),(33,[8,9,10,11,12,13,14,19,20]),(20,[8,9,10,11,12,13,14,15,16]),(27,[8,9,10,11,12,13,14,15,16,18]),(21,[8,9,10,11,12,13,14,15,16]),(19,[8,9,10,11,12,13,14,15,16]),(16,[8,9,10,11,12,13]),(14,[8,9,10,11,12,13]),(11,[0,8,9,10,11]),(10,[0,8,9,10,11]),(6,[0,1]),(3,[0,1])]),
 (148,[(10,[3]),(7,[1,3,4]),(5,[1,3,4]),(3,[1])]),
 (150,[(6,[0,1,5,6,7]),(4,[0,1,5,6,7])]),
 (151,[(7,[0,1,5]),(10,[0,1,5]),(8,[0,1,5]),(6,[0,1,5]),(5,[0,1]),(4,[])]),
 (152,[(5,[0,1,5,6,7]),(11,[0,1,5,6,7,8]),(6,[0,1,5,6,7]),(4,[0,1,5,6,7])]),
 (153,[(9,[0,1,5,6,7,8]),(7,[0,1,5,6,7,8]),(5,[0,1,5,6]),(3,[0,1,5,6])]),
 (154,[(6,[0,1,7,8]),(3,[0,1,7,8]),(2,[0,1,7,8])]),
 (158,[(4,[1,4,5,9,10,11]),(3,[1,4,5,9,10,11])]),
 (160,[(11,[2,4]),(5,[0,2,3,4]),(4,[0,2,3,4])]),
 (163,[(9,[5,6,7]),(6,[5,6,7,8])]),
 (164,[(10,[30,31,32]),(6,[30,31,32]),(5,[30,31,32]),(4,[1])]),
 (166,[(3,[0,6,7]),(2,[0,6])]),
 (167,[(6,[1,4]),(7,[1,4]),(5,[1,4]),(4,[1])]),
 (168,[(6,[0,1,7,8]),(3,[0,1,7,8]),(2,[0,1,7,8])]),
 (170,[(21,[6,10,11]),(19,[6,10,11]),(18,[6,10]),(13,[3,5,6,7,9]),(11,[3,5,6,7,9]),(7,[3,4,5,6]),(6,[3,4,5,6]),(3,[1])]),
 (171,[(3,[2,3,4]),(2,[2,3,4])]),
 (172,[(3,[2,3,4])]),
 (175,[(12,[0,1,5,6,21,22]),(11,[0,1,5,6,7,8,21,22]),(7,[0,1,5,6,21,22]),(6,[0,1,5,6,21,22]),(3,[0,1])]),
 (176,[(7,[0,1,5]),(11,[]),(8,[0,1,5]),(6,[0,1,5]),(5,[0,1]),(4,[])]),
 (177,[(10,[0,1,5,6,13,14]),(9,[0,1,5,6,7,8,13,14]),(5,[0,1,5,6,13,14]),(4,[0,1,5,6,13,14])]),
 (180,[(8,[1,5,6,7,8,20,21,22,27,28,29]),(7,[1,5,6,7,8,20,21,22,27,28,29]),(4,[1,5,20,21,22]),(3,[1,5,20,21,22])]),
 (184,[(12,[4,5,14,15]),(6,[2,3,4,5]),(5,[4,5,6,7])]),
 (186,[(6,[0,1,2,3,8,9]),(4,[0,1,2,3,8,9]),(3,[0,1,2,3,8]),(1,[0,1,2,3,8])]),
 (188,[(3,[0,3]),(4,[0,3]),(2,[0,3])]),
 (189,[(6,[0,1,6,7,8]),(4,[0,1,6,7,8])]),
 (190,[(2,[0]),(1,[0])]),
 (191,[(5,[0,1,2,7,9,10]),(4,[0,1,2,7,9,10])]),
 (199,[(3,[1,2,4,5]),(6,[1,2,4,5]),(4,[1,2,4,5]),(2,[1,2,4,5])]),
 (202,[(6,[5,6,7]),(3,[5,6,7]),(2,[5,6,7])]),
 (207,[(13,[3,11,12,13]),(12,[3,5,11,12,13]),(10,[3,5,11,12,13]),(6,[3,11,12,13]),(5,[3,11,12,13]),(3,[0])]),
 (210,[(26,[9,11,12,13,96,97]),(22,[9,11,12,13,96,97]),(21,[9,11,12,13,96,97]),(19,[9,10,11,12,13,14]),(17,[9,10,11,12,13,14]),(11,[0,1]),(9,[0,1,6,7,8]),(7,[0,1,6,7,8]),(3,[0,1])]),
 (217,[(3,[0,3]),(2,[0,3])]),
 (233,[(20,[0]),(19,[6]),(16,[5,6,47,48,49]),(15,[5,6,8,47,48,49]),(11,[5,6,47,48,49]),(10,[5,6,47,48,49]),(8,[0,5])]),
 (237,[(15,[5,23,24,25]),(14,[5,9,23,24,25]),(11,[5,6,7,23,24,25]),(7,[5,23,24,25]),(6,[5,23,24,25]),(4,[0])]),
 (239,[(25,[2,8,9,10,14,15,16,17,18]),(24,[2,8,9,10,14,15,16,17,18]),(18,[2,8,9,10,11,13,14,15,16]),(17,[2,8,9,10,11,13,14,15,16]),(7,[0,1,2]),(5,[0,1,2]),(3,[0,1,2])]),
 (241,[(8,[1,5,12,13,14]),(4,[1,5,12,13,14]),(3,[1,5,12,13,14])]),
 (242,[(29,[0,1,5,6,17,156,157]),(28,[0,1,5,6,17,156,157]),(26,[0,1,5,6]),(16,[0,1,5,6,11,12,104,105]),(15,[0,1,5,6,11,12,104,105]),(11,[0,1,5,6,7]),(9,[0,1,5,6,7]),(8,[0,1,5,6,7,8])]),
 (265,[(3,[0,2,4]),(7,[0,2,4,5]),(4,[0,2,4]),(2,[0,2,4])]),
 (266,[(3,[0,1]),(2,[0,1]),(1,[0,1])]),
 (267,[(3,[0,1]),(2,[0,1]),(1,[0,1])]),
 (270,[(7,[6,7,8]),(3,[6,7,8]),(2,[6,7,8])])]
def Afp:List FuncId:=[278]
theorem dR:∀g∈Afp,A1.prim g=some PK.noEsc.run:=fun g h=>by
 cases h with
 |head=>kernel_rfl
 |tail _ h=>cases h
def X7(l:List (FuncId×Am)):AG:=⟨A1,FM l,Aeo AgV,fun _ _=>false,fun _ _=>[],fun _=>none,Afp,dR⟩
def SV(cs:List (FuncId×List Nat))(fz:List (FuncId×List (Nat×List (Nat×Sh))))(t:List (FuncId×List (Nat×List Nat)))(l:List (FuncId×Am)):AG:=⟨A1,FM l,Aeo<|t++AgV,Air cs,Ag5 fz,fun _=>none,Afp,dR⟩
end
end Go.Pe
namespace Go.Sp
def first:List Int->Int
 |[]=>0
 |x::l=>if x≠0 then x else first l
def CB(c:Bool)(e:Int):Int:=bif c then e else 0
end Go.Sp
namespace Go.Pe
open Go.Det
abbrev i64:Sh:=.int .i64
abbrev jT:Sh:=.list<|.int .i64
def G6:Am:=⟨[jT],fun l=>decide (l.length<=1000000),[i64],fun l=>Sp.first l,false⟩
def Hz:Am:=⟨[.bool,i64],fun _=>true,[i64],fun i=>Sp.CB i.1 i.2,false⟩
def YU:AG:=X7 []
end Go.Pe
namespace Go.Sp
abbrev Bm:=Z
def has(l:List Bm)(x:Bm):Bool:=decide (x∈l)
end Go.Sp
namespace Go.Pe
open Go.Det
section
open List Int Prod
namespace T166
def T(s:Z):Tr:=tree YU false 9 166<|Af ([Sh.str]) s
def L1(v0 a:Z):Tr:=re ((T []))<|Ap 37 [(0,.dat Sh.str v0),(6,.ptr 0 0)] [(0,Obj.siter a 0)] 1
theorem Ai(s:Z):T s=L1 s s:=by kernel_rfl
def L2(v0 b:Z)(a:Nat):Tr:=re ((stepT YU<|L1 [] []).L.L.L)<|Ap 37 [(0,.dat Sh.str v0),(6,.ptr 0 0)] [(0,Obj.siter b a)] 1
theorem Al(v0 a:Z):stepT YU (L1 v0 a)=let b':=L2 v0 a<|ye 0<|Ll a 0;let b:Tr:=.leaf (.bl false) [];let d:Tr:=.ite true b<|.ite (rune a 0 !=95) (.di (rune a 0<48) b<|.di (rune a 0>57) b b') b';let c:Tr:=.di (rune a 0>=65) (.ite (!decide (rune a 0<=90)) d b') d;.di (0<length a) (.di (rune a 0>=97) (.di (rune a 0<=122) b' c) c) (.ite (!v0==[]) (.leaf (.dat Sh.bool<|decide ((length v0:Int)<=24)) []) b):=by kernel_rfl
theorem AA(v0 b:Z)(a:Nat):stepT YU (L2 v0 b a)=let b':=L2 v0 b<|ye a<|Ll b a;let c:Tr:=.leaf (.bl false) [];let e:Tr:=.ite ((↑a:Int)==0) c<|.ite (rune b a !=95) (.di (rune b a<48) c<|.di (rune b a>57) c b') b';let d:Tr:=.di (rune b a>=65) (.ite (!decide (rune b a<=90)) e b') e;.di (a<length b) (.di (rune b a>=97) (.di (rune b a<=122) b' d) d) (.ite (!v0==[]) (.leaf (.dat Sh.bool<|decide ((length v0:Int)<=24)) []) c):=by kernel_rfl
end T166
end
section
variable {X:AG}{Q:PV->Ob->Prop}
@[simp] theorem AgM:Ends X .fail Q↔False:=⟨fun⟨_,h⟩=>zo h,fun h=>h.elim⟩
@[simp] theorem Iv{v:PV}{ob:Ob}:Ends X (.leaf v ob) Q↔Q v ob:=⟨fun⟨_,h⟩=>h.eU,fun h=>.leaf h⟩
@[simp] theorem FQ{c:Bool}{a b:Tr}:Ends X (.ite c a b) Q↔if c=true then Ends X a Q else Ends X b Q:=by
 constructor
 ·rintro⟨n,h⟩;rcases h.FE with⟨d,h⟩|⟨d,h⟩
  ·rw[wd d];exact⟨n,h⟩
  ·rw[wc<|by simp[d]];exact⟨n,h⟩
 ·intro h;refine .ite (fun d=>?_)<|fun d=>?_
  ·rwa [wd d]at h
  ·rwa [wc<|by simp[d]]at h
theorem Ac.of{sp:Am}{i:(BF sp.ins).T}{v:PV}{ob:Ob}{c:Bool}{y:(BF sp.outs).T}(h:Jf sp.outs v ob=some (c,y))(b:c=true)(a:y=sp.f i):Ac sp i v ob:=⟨y,by rw[h,b],a⟩
@[simp] theorem Afk(s:Sh)(x:List s.T):MH (Sh.leaves<|.list s) [.dat (.list s) x]=(true,[.dat (.list s) x]):=rfl
theorem wr(x:Int)(a: -9223372036854775808<=x)(b:x<=9223372036854775807):zc .i64 x=x:=IntWalk.i64_in x ⟨a,b⟩
theorem drop_cons{α:Type}{l r:List α}{x d:α}{i:Nat}(h:l.drop i=x::r):i<l.length/\l.getD i d=x/\l.drop (i+1)=r:=by
 have a:i<l.length:=by
  rcases yi i l.length with c|c
  ·exact c
  ·rw[List.drop_eq_nil_of_le c]at h;cases h
 have b:=zz a;rw[h]at b;simp only[ya]at b;exact⟨a,by simp[a,b.1],b.2.symm⟩
end
theorem Ut:∀g sp,YU.sp g=some sp->Ae A1 g sp:=fun g sp h=>by cases h
abbrev Cr(X:AG):Prop:=∀g sp,X.sp g=some sp->Ae A1 g sp
theorem AX{X:AG}(n:X.C=A1)(b:∀g sp,X.sp g=some sp->Ae A1 g sp){f:FuncId}{sp:Am}{d:Nat}(k:A1.spec f=none)(a:A1.prim f=none)(l:X.sp f=none)
  (c:∀i,sp.pre i=true->Ends X (tree X sp.nd d f<|Af sp.ins i) (Ac sp i)) (j:∃i,A1.fn f=some i) (m:∀g w,X.ws g=some w->Mi A1 g w:=by intro _ _ h;cases h):Ae A1 f sp:=by
 have e:X.C.mg=false:=by rw[n];rfl
 rw[<-n]at*;exact kT e b m k a l c j
theorem Ak{α:Type}{o:Option α}(h:o.isSome=true):∃i,o=some i:=Option.isSome_iff_exists.1 h
theorem C3{X:AG}(b:Cr X){f:FuncId}{sp:Am}(c:∀i,sp.pre i=true->Ends X (tree X sp.nd 9 f<|Af sp.ins i) (Ac sp i))(l:X.C=A1:=by rfl)(e:A1.spec f=none:=by kernel_rfl)(a:A1.prim f=none:=by kernel_rfl)(j:X.sp f=none:=by kernel_rfl)(d:(A1.fn f).isSome=true:=by kernel_rfl)(k:∀g w,X.ws g=some w->Mi A1 g w:=by intro _ _ h;cases h):Ae A1 f sp:=AX l b e a j c (Ak d) k
theorem drop_nil{α:Type}{l:List α}{i:Nat}(h:l.drop i=[])(a:i<=l.length):i=l.length:=by
 have:=wi List.length h;simp at this;omega
theorem oL{α:Type}{l r:List α}{x:α}{i:Nat}(h:l.drop i=x::r):x∈l:=by
 have:x∈l.drop i:=by rw[h];simp
 exact List.mem_of_mem_drop this
theorem RJ(c:Int):yb c=true↔(97<=c/\c<=122)\/(65<=c/\c<=90)\/(48<=c/\c<=57)\/c=95:=by
 simp[yb,Sp.letter,or_assoc]
theorem LC(c:Int):Sp.letter c=true↔(97<=c/\c<=122)\/(65<=c/\c<=90):=by
 simp[Sp.letter]
namespace T166
theorem loop(s:Z)(b:s≠[]):∀(r:Z) (i:Nat),s.drop i=r->i<=s.length->1<=i->
  ((r.all fun c=>yb (c.toNat:Int))=false->∀ob,Q (.bl false) ob)->((r.all fun c=>yb (c.toNat:Int))=true->∀ob,Q (.dat .bool<|decide ((s.length:Int)<=24)) ob)->Ends YU (L2 s s i) Q
 |[],i,h,n,w,k,j=>by
  have:=drop_nil h n;refine Ends.Ah (AA ..) (Ends.ff (by simp;omega)<|Ends.tt (by simpa using b) ?_);exact Ends.leaf<|j rfl _
 |x::r,i,h,n,w,k,j=>by
  obtain⟨f,o,v⟩:=drop_cons (d:=0) h;refine Ends.Ah (AA ..) (Ends.tt (by simpa using f) ?_);have u:((i:Int)==0)=false:=by simp;omega
  simp only[FQ,Iv,u,Bool.false_eq_true,vf,w5,Bool.not_eq_true',w9,bne_iff_ne,wm];have step:yb (x.toNat:Int)=true->Ll s i=1->Ends YU (L2 s s<|ye i<|Ll s i) Q:=by
   intro a q;rw[q];refine loop s b r (i+1) v f ae (fun e=>k<|by simp[e]) (fun e=>j<|by simp[e];exact a)
  have no:yb (x.toNat:Int)=false->∀ob,Q (.bl false) ob:=fun a=>k (by simp[a])
  by_cases m:(s.getD i 0).toNat<128
  ·obtain⟨t,y⟩:=YC f m;rw[t,o];have l:=RJ (x.toNat:Int);generalize ((x.toNat:Nat):Int)=c at l step no ⊢;by_cases a:yb c=true
   ·have:=l.1 a;repeat' split
    all_goals first|exact step a y|(exfalso;omega)
   ·have g:yb c=false:=by simpa using a
    have:¬_:=fun h=>a<|l.2 h
    repeat' split
    all_goals first|exact no g _|(exfalso;omega)
  ·have hr:=Ug f ae;have p:yb (x.toNat:Int)=false:=by
    have:¬yb (x.toNat:Int)=true:=fun h=>by
     have:=(RJ _).1 h;rw[o]at m;omega
    simpa using this
   repeat' split
   all_goals first|exact no p _|(exfalso;omega)
end T166
theorem kU{α:Type}{l r:List α}{x:α}{i:Nat}(h:l.drop i=x::r):l.take (i+1)=l.take i++[x]:=by
 have b:=(drop_cons (d:=x) h).1;have a:=(drop_cons (d:=x) h).2.1;rw[List.take_add_one];congr 1;have:l[i]?=some x:=by
  have e:=zn b;rw[e];simp only[List.getD,e,Option.getD_some]at a;rw[a]
 rw[this];rfl
theorem AI{C:Ctx}:∀g sp,FM [] g=some sp->Ae C g sp:=fun g sp h=>by cases h
theorem Aa{C:Ctx}{a:FuncId}{c:Am}{l:List (FuncId×Am)}(h0:Ae C a c)(d:∀g sp,FM l g=some sp->Ae C g sp):∀g sp,FM ((a,c)::l) g=some sp->Ae C g sp:=by
 intro g sp h;unfold FM at h;cases b:zp a g with
 |true=>rw[b]at h;cases h;have:=zt b;subst this;exact h0
 |false=>rw[b]at h;exact d g sp h
theorem G4{f:FuncId}{s t:List Sh}{g:(BF s).T->(BF t).T}{nd:Bool}(a:A1.prim f=none)(b:∃i,A1.fn f=some i):Ae A1 f ⟨s,fun _=>false,t,g,nd⟩:=
 .of0 ⟨a,b,fun F h args i _ _ _ _ hp=>by cases hp⟩
theorem GN{α:Type}(A B:List α)(x d:α){n:Nat}(h:A.length=n):(A++x::B).getD n d=x:=by
 subst h;simp[List.getD]
theorem E7{α:Type}(A B:List α)(x y:α){n:Nat}(h:A.length=n):(A++x::B).set n y=A++y::B:=by
 subst h;simp
end Go.Pe
namespace Go.Sp
open Go.Pe (F5 imax)
theorem xA(a b:Int):F5 a b=min a b:=by unfold F5;split<;>omega
abbrev Av:Nat:=18446744073709551616
abbrev AL:=Int×List Int
def Dg(l:List Int):Bool:=decide (l.length<=20000)&&l.all fun d=>decide (0<=d)&&decide (d<18446744073709551616)
def hW(l:List Int):Bool:=Dg l&&decide (l.length<=9000)
def nzW(l:List Int):Bool:=decide (l.getLast?≠some 0)
def CF(l:List Int):Bool:=Dg l&&nzW l
def Ay(l:List Int):Int:=val Av l
def BI(n:Int):List Int:=dg Av n
def u64(n:Int):Bool:=decide (0<=n)&&decide (n<18446744073709551616)
def Cn(n:Int):Bool:=decide (-9223372036854775808<=n)&&decide (n<9223372036854775808)
def Aj(n:Int):Int:=if n<0 then -n else n
theorem An(n:Int):Aj n=(n.natAbs:Int):=by unfold Aj;split<;>omega
def vI(a:AL):Int:=if a.2=[]then a.1 else if a.1<0 then -Ay a.2 else Ay a.2
def Dz(a:AL):Bool:=Cn a.1&&(decide (a.2=[])||(CF a.2&&(decide (a.1=1)||decide (a.1= -1))&&decide (9223372036854775808<=Ay a.2)))
def DB(n:Int):AL:=if -9223372036854775808<n/\n<9223372036854775808 then(n,[])else(if n<0 then -1 else 1,BI<|Aj n)
def De(n:Int):Int:=(DB n).1
def Dd(n:Int):List Int:=(DB n).2
def sg(neg:Bool)(v:Int):Int:=if neg=true then -v else v
def Jj(x y c:Int):Int:=(x+y+c) % 18446744073709551616
def Rj(x y c:Int):Int:=(x+y+c)/18446744073709551616
def Wz(x y c:Int):Int:=(x-y-c) % 18446744073709551616
def SS(x y c:Int):Int:=if x<y+c then 1 else 0
def Jq(x y:Int):Int:=(x*y) % 18446744073709551616
def Tj(x y:Int):Int:=(x*y)/18446744073709551616
def Cd(a b:Int):Int:=if a<b then -1 else if a>b then 1 else 0
def Pm(n:Int):Int:=if n<0 then -1 else if n>0 then 1 else 0
def Fc(a b:AL):AL:=if a.2=[]/\b.2=[]/\Cn (a.1+b.1)=true then(a.1+b.1,[])else DB<|vI a+vI b
def DH(a:AL):AL:=if a.2=[]/\a.1≠ -9223372036854775808 then(-a.1,[])else DB<| -vI a
def WI(a:AL):AL:=if a.1<0 then DH a else a
def PG(a b:AL):AL:=Fc a<|DH b
def Gk(a b:AL):AL:=DB<|vI a*vI b
def Fh(a:AL):Int:=(DH a).1
def Fi(a:AL):List Int:=(DH a).2
def YG(a:AL):Int:=(WI a).1
def XR(a:AL):List Int:=(WI a).2
def LA(a b:AL):Int:=(Fc a b).1
def Lh(a b:AL):List Int:=(Fc a b).2
def cU(a b:AL):Int:=(PG a b).1
def iG(a b:AL):List Int:=(PG a b).2
def FT(a b:AL):Int:=(Gk a b).1
def FV(a b:AL):List Int:=(Gk a b).2
end Go.Sp
namespace Go.Pe
open Sp
open Go.Det
abbrev A4:Sh:=.pair (.int .i64)<|.nlist<|.int .u64
abbrev u64:Sh:=.int .u64
abbrev DQ:Sh:=.list<|.int .u64
abbrev wU:Sh:=.nlist<|.int .u64
def bC:Am:=⟨[u64,u64,u64],fun i=>Sp.u64 i.1&&Sp.u64 i.2.1&&decide (0<=(i.2.2:Int))&&decide ((i.2.2:Int)<=1),[u64,u64],fun i=>(Jj i.1 i.2.1 i.2.2,Rj i.1 i.2.1 i.2.2),false⟩
def ZU:Am:=⟨[u64,u64,u64],fun i=>Sp.u64 i.1&&Sp.u64 i.2.1&&decide (0<=(i.2.2:Int))&&decide ((i.2.2:Int)<=1),[u64,u64],fun i=>(Wz i.1 i.2.1 i.2.2,SS i.1 i.2.1 i.2.2),false⟩
def Wv:Am:=⟨[u64,u64],fun i=>Sp.u64 i.1&&Sp.u64 i.2,[u64,u64],fun i=>(Tj i.1 i.2,Jq i.1 i.2),false⟩
def aK:Am:=⟨[i64],fun n=>Cn n,[u64],fun n=>Aj n,false⟩
def OI:Am:=⟨[A4],fun a=>Sp.Dz a,[.bool,DQ],fun a=>(decide (Sp.vI a<0),BI<|Aj<|Sp.vI a),false⟩
def xP:Am:=⟨[.bool,DQ],fun i=>CF i.2,[A4],fun i=>(De<|Sp.sg i.1<|Ay i.2,Dd<|Sp.sg i.1<|Ay i.2),false⟩
def ZD:Am:=⟨[DQ],fun l=>Dg l,[DQ],fun l=>AE l,false⟩
def fZ:Am:=⟨[DQ,DQ],fun i=>CF i.1&&CF i.2,[i64],fun i=>Cd (Ay i.1)<|Ay i.2,false⟩
def uP:Am:=⟨[DQ,DQ],fun i=>Sp.hW i.1&&Sp.hW i.2,[DQ],fun i=>BI<|Ay i.1+Ay i.2,false⟩
def rK:Am:=⟨[DQ,DQ],fun i=>Dg i.1&&Dg i.2&&decide (Ay i.2<=Ay i.1),[DQ],fun i=>BI<|Ay i.1-Ay i.2,false⟩
def uQ:Am:=⟨[DQ,DQ],fun i=>Sp.hW i.1&&Sp.hW i.2,[DQ],fun i=>BI<|Ay i.1*Ay i.2,false⟩
def uH:AG:=X7 []
def MF:AG:=X7 [(179,aK),(216,bC),(218,ZU),(217,ZD),(178,Wv)]
def XI2:AG:=X7 [(173,OI),(174,xP),(175,uP),(177,rK),(176,fZ),(180,uQ),(178,Wv),(179,aK)]
theorem T0{F:Fz}{x y c:Int}{args:List V}(h:NK F (Af [Pe.u64,Pe.u64,Pe.u64] (x,y,c)) args):args=[.int .u64 x,.int .u64 y,.int .u64 c]:=by
 have:=h (fun _=>none) 0;simp only[Af,Cx,Ca]at this;obtain⟨a,j,rfl,e,b,i,rfl,g,d,k,rfl,f,rfl⟩:=this;simp only[PR,DC,ya,ve]at e g f;rw[e,g,f]
theorem Bd{n:Int}(h:Sp.u64 n=true):0<=n/\n<18446744073709551616:=by
 unfold Sp.u64 at h;rw[ze,w5,w5]at h;exact h
namespace T216
theorem ok:Ae A1 216 bC:=by
 refine .inr ⟨PK.add64.run,by kernel_rfl,fun F h args i j hp=>?_⟩;obtain⟨x,y,c⟩:=i;have hp:(Sp.u64 x&&Sp.u64 y&&decide (0<=c)&&decide (c<=1))=true:=hp;rw[ze,ze,ze,w5,w5]at hp;obtain⟨⟨⟨e,f⟩,c0⟩,g⟩:=hp;have e:=Bd e;have f:=Bd f;have:=T0 j;subst this;obtain⟨a,rfl⟩:=zk e.1;obtain⟨b,rfl⟩:=zk f.1;obtain⟨d,rfl⟩:=zk c0;have g:(d:Int)<=1:=g;have k:ym d 1=true:=Nat.ble_eq_true_of_le ae;refine⟨.tup [.int .u64<|.ofNat<|(a+b+d) % rF,.int .u64<|.ofNat<|(a+b+d)/rF],?_,fun ρ N=>?_⟩
 ·show(bif ym d 1 then _ else _)=_;rw[k];rfl
 ·show PR F ρ N (.tup [.dat Pe.u64<|Jj a b d,.dat Pe.u64<|Rj a b d]) _;simp only[PR,Ca];refine⟨_,rfl,_,_,rfl,?_,_,_,rfl,?_,rfl⟩<;>simp[DC,rF,Jj,Rj]
end T216
namespace T218
theorem ok:Ae A1 218 ZU:=by
 refine .inr ⟨PK.sub64.run,by kernel_rfl,fun F h args i l hp=>?_⟩;obtain⟨x,y,c⟩:=i;have hp:(Sp.u64 x&&Sp.u64 y&&decide (0<=c)&&decide (c<=1))=true:=hp;rw[ze,ze,ze,w5,w5]at hp;obtain⟨⟨⟨g,j⟩,c0⟩,k⟩:=hp;have g:=Bd g;have j:=Bd j;have:=T0 l;subst this;obtain⟨a,rfl⟩:=zk g.1;obtain⟨b,rfl⟩:=zk j.1;obtain⟨d,rfl⟩:=zk c0;have k:(d:Int)<=1:=k;have m:ym d 1=true:=Nat.ble_eq_true_of_le ae;refine⟨.tup [.int .u64<|.ofNat<|(a+rF-b-d) % rF,.int .u64<|.ofNat<|bif Nat.blt a (b+d)then 1 else 0],?_,fun ρ N=>?_⟩
 ·show(bif ym d 1 then _ else _)=_;rw[m];rfl
 ·show PR F ρ N (.tup [.dat Pe.u64<|Wz a b d,.dat Pe.u64<|SS a b d]) _;simp only[PR,Ca];refine⟨_,rfl,_,_,rfl,?_,_,_,rfl,?_,rfl⟩
  ·simp only[DC,rF,Wz,ya,V.int.injEq,ve,true_and];have e:(((a+18446744073709551616-b-d) % 18446744073709551616:Nat):Int)=((a:Int)-b-d) % 18446744073709551616:=ae
   exact e
  ·simp only[DC,SS,ya,V.int.injEq,ve,true_and];rw[H4];by_cases f:a<b+d
   ·rw[wd ae];simp[f]
   ·rw[wc ae];simp[f]
end T218
end Go.Pe
namespace Go.Sp
theorem AN(b:Int):∀(l:List Int) (i:Nat),val b (l.take<|i+1)=val b (l.take i)+b^i*l.getD i 0
 |[],i=>by simp[val]
 |x::l,0=>by
  show x+b*val b (l.take 0)=0+b^0*x;simp[val]
 |x::l,i+1=>by
  have:=AN b l i;show x+b*val b (l.take<|i+1)=x+b*val b (l.take i)+b^(i+1)*l.getD i 0;rw[this,yf,Int.pow_succ,Int.mul_comm (b^i) b,Int.mul_assoc,Int.add_assoc]
theorem JI{l:List Int}(h:Dg l=true):l.length<=20000/\AD Av l:=by
 unfold Dg at h;rw[ze,w5,List.all_eq_true]at h;exact⟨h.1,fun d a=>by
  have:=h.2 d a;rw[ze,w5,w5]at this;exact this⟩
theorem E0{l:List Int}(a:l.length<=20000)(b:AD Av l):Dg l=true:=by
 unfold Dg;rw[ze,w5,List.all_eq_true];exact⟨a,fun d c=>by
  have:=b d c;rw[ze,w5,w5];exact this⟩
theorem dQ{l:List Int}(h:hW l=true):l.length<=9000/\AD Av l:=by
 unfold hW at h;rw[ze,w5]at h;exact⟨h.2,(JI h.1).2⟩
theorem A3{l:List Int}(h:AD Av l)(i:Nat):u64 (l.getD i 0)=true:=by
 unfold u64;rw[ze,w5,w5];rcases yi i l.length with a|a
 ·have:l.getD i 0∈l:=by rw[zl,zn a];exact List.getElem_mem a
  exact h _ this
 ·rw[zl,List.getElem?_eq_none a];exact⟨by decide,by decide⟩
theorem Bd{n:Int}(h:u64 n=true):0<=n/\n<18446744073709551616:=by
 unfold u64 at h;rw[ze,w5,w5]at h;exact h
theorem C9{n:Int}(a:0<=n)(b:n<18446744073709551616):u64 n=true:=by
 unfold u64;rw[ze,w5,w5];exact⟨a,b⟩
theorem EF{l:List Int}{x:Int}(h:AD Av l)(b:u64 x=true):AD Av (l++[x]):=by
 intro d a;rw[List.mem_append,zf]at a;rcases a with a|rfl
 ·exact h d a
 ·exact Bd b
theorem Mn{x y c:Int}(a:u64 x=true)(b:u64 y=true)(d:0<=c/\c<=1):u64 (Jj x y c)=true/\(0<=Rj x y c/\Rj x y c<=1)/\Jj x y c+18446744073709551616*Rj x y c=x+y+c:=by
 have:=Bd a;have:=Bd b;unfold Jj Rj;exact⟨C9 ae ae,⟨by omega,by omega⟩,by omega⟩
theorem H5{x y c:Int}(a:u64 x=true)(b:u64 y=true)(d:0<=c/\c<=1):u64 (Wz x y c)=true/\(0<=SS x y c/\SS x y c<=1)/\Wz x y c-18446744073709551616*SS x y c=x-y-c:=by
 have:=Bd a;have:=Bd b;unfold Wz SS;refine⟨C9 ae ae,?_,?_⟩<;>split<;>omega
theorem Gb(l:List Int)(x:Int):val Av (l++[x])=val Av l+(Av:Int)^l.length*x:=by
 rw[Dm];simp[val]
theorem Ny(i:Nat)(c:Int):(Av:Int)^(i+1)*c=(Av:Int)^i*(18446744073709551616*c):=by
 rw[Int.pow_succ,Int.mul_assoc];rfl
theorem Kw(p:List Int)(n i:Nat)(x:Int)(h:p.length=i)(a:i<n):(p++zr (n-i) (0:Int)).set i x=(p++[x])++zr (n-(i+1)) 0:=by
 have:n-i=(n-(i+1))+1:=ae
 rw[this,List.replicate_succ,Pe.E7 p _ 0 x h,List.append_assoc];rfl
theorem Nl{l:List Int}(h:AD Av l):AE l=BI (Ay l):=fU af h
end Go.Sp
namespace Go.Pe
open Sp
open Go.Det
section
open List Int Prod
namespace T179
def T(n:Int):Tr:=tree uH false 9 179<|Af ([zi zy]) n
theorem Ai(n:Int):T n=.di (n<0) (.leaf (.dat (zi zd)<|zc .u64<|zc .i64<|0-n) []) (.leaf (.dat (zi zd)<|zc .u64 n) []):=by kernel_rfl
end T179
namespace T173
def T(a:AL):Tr:=tree MF false 9 173<|Af ([A4]) a
theorem Ai(a:AL):T a=.di (0<length (snd a)) (.leaf (.tup [.dat Sh.bool<|decide (fst a<0),.dat wU<|snd a]) []) (.ite (fst a==0) (.leaf (.tup [.bl false,.nil]) [])<|.ck (Cn<|fst a)<|.leaf (.tup [.dat Sh.bool<|decide (fst a<0),.sl (ye 0 1) 1 0 1 none])<|[(ye 0 1,.arr false 217 (zi zd) [Aj<|fst a]),(0,.box [.dat i64<|fst a,.dat wU<|snd a])]):=by kernel_rfl
end T173
namespace T174
def T(neg:Bool)(w:List Int):Tr:=tree MF false 9 174<|Af ([Sh.bool,zj<|zi zd]) (neg,w)
theorem Ai(neg:Bool)(w:List Int):T neg w=let e:=decide (getD w 0 0<=9223372036854775807);let b:=(length w:Int);let d:=zj<|zi zd;let b':Tr:=.ite neg (.leaf (PV.agg [.dat i64 (-1:Int),.dat d w]) [])<|.leaf (PV.agg [.dat i64 (1:Int),.dat d w]) [];let a:=decide (0<b);let c:Tr:=.ite (b==1) (.ck a<|.ite e (.ck a<|.leaf (PV.agg [.dat i64<|zc .i64<|getD w 0 0,.nil]) []) b') b';.ite (b==0) (.leaf (PV.agg [.dat i64 (0:Int),.nil]) []) (.ite (b==1) (.ck a<|.ite e (.ite neg (.ck a<|.leaf (PV.agg [.dat i64<|zc .i64<|0-zc .i64 (getD w 0 0),.nil]) []) c) c) c):=by kernel_rfl
end T174
namespace T217
def T(w:List Int):Tr:=tree uH false 9 217<|Af ([zj<|zi zd]) w
def L1(v0:List Int)(v3:Int):Tr:=re ((T []))<|Ap 21 [(0,.dat (zj<|zi zd) v0),(3,.dat i64 v3)] [] 0
theorem Ai(w:List Int):T w=L1 w ((length w:Int)):=by kernel_rfl
theorem Al(v0:List Int)(v3:Int):stepT uH (L1 v0 v3)=let a:Tr:=.ck (decide (0<=v3)&&decide (0<=toNat v3)&&decide (toNat v3<=length v0))<|.leaf (.dat (zj<|zi zd)<|take (toNat v3) v0) [];let b':=zc .i64<|v3-1;.di (v3>0) (.ck (decide (0<=zc .i64 (v3-1))&&decide (zc .i64 (v3-1)<(length v0:Int)))<|.ite (getD v0 (toNat b') 0==0) (L1 v0 b') a) a:=by kernel_rfl
end T217
namespace T176
def T(a b:List Int):Tr:=tree uH false 9 176<|Af ([zj<|zi zd,zj<|zi zd]) (a,b)
def L1(v0 v1:List Int)(v5:Int):Tr:=re ((T [] []).R)<|Ap 41 [(0,.dat (zj<|zi zd) v0),(1,.dat (zj<|zi zd) v1),(5,.dat i64 v5)] [] 0
theorem Ai(a b:List Int):T a b=let c:=(length a:Int);.ite (c !=(length b:Int)) (.di (c<(length b:Int)) (.leaf (.dat i64 (-1:Int)) [])<|.leaf (.dat i64 (1:Int)) []) (L1 a b<|zc .i64<|c-1):=by kernel_rfl
theorem Al(v0 v1:List Int)(v5:Int):stepT uH (L1 v0 v1 v5)=let a:=decide (0<=v5)&&decide (v5<(length v0:Int));let b':=decide (0<=v5)&&decide (v5<(length v1:Int));.di (v5>=0) (.ck a<|.ck b'<|.ite (getD v0 (toNat v5) 0 !=getD v1 (toNat v5) 0) (.ck a<|.ck b'<|.di (getD v0 (toNat v5) 0<getD v1 (toNat v5) 0) (.leaf (.dat i64 (-1:Int)) [])<|.leaf (.dat i64 (1:Int)) [])<|L1 v0 v1<|zc .i64<|v5-1) (.leaf (.dat i64 (0:Int)) []):=by kernel_rfl
end T176
namespace T175
def T(x y:List Int):Tr:=tree MF false 9 175<|Af ([zj<|zi zd,zj<|zi zd]) (x,y)
def L1(v0 v1:List Int)(a:Nat)(d c b:Int)(e:List Int):Tr:=re ((T [] []).L.L)<|Ap 54 [(0,.dat (zj<|zi zd) v0),(1,.dat (zj<|zi zd) v1),(5,.sl 0 1 0 a none),(6,.dat (zi zd) d),(21,.dat i64 c),(22,.dat i64 b)] [(0,.arr false 217 (zi zd) e)] 1
theorem Ai(x y:List Int):T x y=let a:=(length x:Int);let b':=(length y:Int);let b:=zc .i64<|b'+1;let c:=zc .i64<|a+1;.di (a<b') (.ck (decide (0<=zc .i64 (b'+1))&&decide (zc .i64 (b'+1)=zc .i64 (b'+1))&&decide (8*toNat b<=281474976710656)&&decide (zc .i64 (b'+1)<9223372036854775808))<|L1 y x (toNat b) 0 b' 0<|replicate (toNat b) 0) (.ck (decide (0<=zc .i64 (a+1))&&decide (zc .i64 (a+1)=zc .i64 (a+1))&&decide (8*toNat c<=281474976710656)&&decide (zc .i64 (a+1)<9223372036854775808))<|L1 x y (toNat c) 0 a 0<|replicate (toNat c) 0):=by kernel_rfl
theorem Al(v0 v1:List Int)(b:Nat)(d c a:Int)(f:List Int):stepT MF (L1 v0 v1 b d c a f)=let e:=getD v0 (toNat a) 0;let b':=(length v0:Int);let g:=getD v1 (toNat a) 0;let l:=decide (0<=a)&&decide (a<(↑b:Int));let o:=decide ((0:Sh.T (BF [u64]))<=d);let n:=decide (d<=(1:Sh.T (BF [u64])));let j:=decide (toNat a<length f);let k:=decide (a<(length v1:Int));let m:=zc .i64<|a+1;let i:=set f (toNat b') d;let h':=decide (0<=a)&&decide (a<b');.di (a<c) (.ite k (.ck (decide (0<=a)&&k)<|.ck h'<|.ck (Sp.u64 e&&Sp.u64 g&&o&&n)<|.ck l<|.ck j<|L1 v0 v1 b (Rj e g d) c m<|set f (toNat a)<|Jj e g d)<|.ck h'<|.ck (Sp.u64 e&&Sp.u64 0&&o&&n)<|.ck l<|.ck j<|L1 v0 v1 b (Rj e 0 d) c m<|set f (toNat a)<|Jj e 0 d) (.ck (decide (0<=b')&&decide (b'<(↑b:Int)))<|.cd (toNat b'<length f)<|.ck (decide (0+b<=length i)&&true&&Dg (take b i))<|.leaf (.dat (zj<|zi zd)<|AE<|take b i) []):=by kernel_rfl
end T175
namespace T177
def T(x y:List Int):Tr:=tree MF false 9 177<|Af ([zj<|zi zd,zj<|zi zd]) (x,y)
def L1(v0 v1:List Int)(b:Nat)(d a c:Int)(e:List Int):Tr:=re ((T [] []).L)<|Ap 41 [(0,.dat (zj<|zi zd) v0),(1,.dat (zj<|zi zd) v1),(5,.sl 0 1 0 b none),(6,.dat (zi zd) d),(13,.dat i64 a),(14,.dat i64 c)] [(0,.arr false 217 (zi zd) e)] 1
theorem Ai(x y:List Int):T x y=let a:=(length x:Int);.ck (decide (0<=a)&&decide (a=a)&&decide (8*toNat a<=281474976710656)&&decide (a<9223372036854775808)) (L1 x y (toNat a) 0 a 0<|replicate (toNat a) 0):=by kernel_rfl
theorem Al(v0 v1:List Int)(b:Nat)(e c a:Int)(d:List Int):stepT MF (L1 v0 v1 b e c a d)=let f:=getD v0 (toNat a) 0;let b':=decide (0<=a)&&decide (a<(length v0:Int));let g:=getD v1 (toNat a) 0;let m:=decide (0<=a)&&decide (a<(↑b:Int));let j:=decide ((0:Sh.T (BF [u64]))<=e);let l:=decide (e<=(1:Sh.T (BF [u64])));let k:=decide (toNat a<length d);let h':=decide (a<(length v1:Int));let i:=zc .i64<|a+1;.di (a<c) (.ite h' (.ck (decide (0<=a)&&h')<|.ck b'<|.ck (Sp.u64 f&&Sp.u64 g&&j&&l)<|.ck m<|.ck k<|L1 v0 v1 b (SS f g e) c i<|set d (toNat a)<|Wz f g e)<|.ck b'<|.ck (Sp.u64 f&&Sp.u64 0&&j&&l)<|.ck m<|.ck k<|L1 v0 v1 b (SS f 0 e) c i<|set d (toNat a)<|Wz f 0 e) (.ck (decide (0+b<=length d)&&true&&Dg (take b d))<|.leaf (.dat (zj<|zi zd)<|AE<|take b d) []):=by kernel_rfl
end T177
namespace T178
def T(x y:Int):Tr:=tree uH false 9 178<|Af ([zi zd,zi zd]) (x,y)
theorem Ai(x y:Int):T x y=let a:=zc .u64<|zc .u64 (yc x (2^32)*IW zd y 4294967295)+yc (zc .u64<|IW zd x 4294967295*IW zd y 4294967295) (2^32);.ck true (.ck true<|.ck true<|.ck true<|.ck true<|.leaf (.tup [.dat (zi zd)<|zc .u64<|zc .u64 (zc .u64 (yc x (2^32)*yc y (2^32))+yc a (2^32))+yc (zc .u64<|IW zd a 4294967295+zc .u64 (IW zd x 4294967295*yc y (2^32))) (2^32),.dat (zi zd)<|zc .u64<|x*y]) []):=by kernel_rfl
end T178
namespace T180
def T(x y:List Int):Tr:=tree MF false 9 180<|Af ([zj<|zi zd,zj<|zi zd]) (x,y)
def L1(v1:List Int)(a:Nat)(v20:List Int)(c b:Int)(d:List Int):Tr:=re ((T [] []).L)<|Ap 80 [(1,.dat (zj<|zi zd) v1),(5,.sl 0 1 0 a none),(20,.dat (zj<|zi zd) v20),(21,.dat i64 c),(22,.dat i64 b)] [(0,.arr false 217 (zi zd) d)] 1
theorem Ai(x y:List Int):T x y=let a:=(length x:Int)+(length y:Int);let b':=zc .i64 a;.ck (decide (0<=zc .i64 a)&&decide (zc .i64 a=zc .i64 a)&&decide (8*toNat b'<=281474976710656)&&decide (zc .i64 a<9223372036854775808)) (L1 y (toNat b') x ((length x:Int)) 0<|replicate (toNat b') 0):=by kernel_rfl
def L2(v1:List Int)(f:Nat)(k j i:Int)(v20:List Int)(c a:Int)(e:List Int)(d b:Int)(g:List Int):Tr:=re ((stepT MF<|L1 [] 0 [] 0 0 []).L.L)<|Ap 80 [(1,.dat (zj<|zi zd) v1),(5,.sl 0 1 0 f none),(6,.dat i64 k),(7,.dat (zi zd) j),(8,.dat (zi zd) i),(20,.dat (zj<|zi zd) v20),(21,.dat i64 c),(22,.dat i64 a),(27,.dat (zj<|zi zd) e),(28,.dat i64 d),(29,.dat i64 b)] [(0,.arr false 217 (zi zd) g)] 1
theorem Al(v1:List Int)(b:Nat)(v20:List Int)(c a:Int)(d:List Int):stepT MF (L1 v1 b v20 c a d)=.di (a<c) (.ck (decide (0<=a)&&decide (a<(length v20:Int)))<|L2 v1 b a (getD v20 (toNat a) 0) 0 v20 c a v1 ((length v1:Int)) 0 d) (.ck (decide (0+b<=length d)&&true&&Dg (take b d))<|.leaf (.dat (zj<|zi zd)<|AE<|take b d) []):=by kernel_rfl
theorem AA(v1:List Int)(b:Nat)(g j k:Int)(v20:List Int)(e d:Int)(c:List Int)(f a:Int)(i:List Int):stepT MF (L2 v1 b g j k v20 e d c f a i)=let b':=zc .i64<|g+a;let m:=getD c (toNat a) 0;let r:=decide (0<=zc .i64 (g+a))&&decide (zc .i64 (g+a)<(↑b:Int));let l:=g+(length v1:Int);let s:=decide ((0:Sh.T (BF [u64]))<=0);let h':=decide (0<=(1:Sh.T (BF [u64])));let o:=getD i (toNat b') 0;let q:=decide (toNat b'<length i);let n:=Jq j m;let p:=Jj n o 0;.di (a<f) (.ck (decide (0<=a)&&decide (a<(length c:Int)))<|.ck (Sp.u64 j&&Sp.u64 m)<|.ck r<|.ck q<|.ck (Sp.u64 n&&Sp.u64 o&&s&&h')<|.ck (Sp.u64 p&&Sp.u64 k&&s&&h')<|.ck r<|.ck q<|L2 v1 b g j (zc .u64<|zc .u64 (Tj j m+Rj n o 0)+Rj p k 0) v20 e d c f (zc .i64<|a+1)<|set i (toNat b')<|Jj p k 0) (.ck (decide (0<=zc .i64 l)&&decide (zc .i64 l<(↑b:Int)))<|.cd (toNat (zc .i64 l)<length i)<|L1 v1 b v20 e (zc .i64<|d+1)<|set i (toNat<|zc .i64 l) k):=by kernel_rfl
end T180
end
theorem Ks:Cr uH:=fun g sp h=>by cases h
theorem wu(x:Int)(a:0<=x)(b:x<=18446744073709551615):zc .u64 x=x:=IntWalk.u64_in x ⟨a,b⟩
theorem Hq{n:Int}(h:Cn n=true): -9223372036854775808<=n/\n<9223372036854775808:=by
 unfold Cn at h;rw[ze,w5,w5]at h;exact h
namespace T179
theorem ok:Ae A1 179 aK:=by
 refine C3 Ks<|fun(n:Int) a=>?_;have a:=Hq (n:=n) a;refine Ends.eq (Ai n)<|Ends.ite (fun c=>?_)<|fun c=>?_
 ·have c:=w6 c;refine Ends.leaf<|Ac.of rfl rfl ?_;show zc .u64 (zc .i64<|0-n)=Aj n;simp only[An];rcases yj (-9223372036854775808) n with h|h
  ·rw[wr _ ae ae,wu _ ae ae];omega
  ·have:n= -9223372036854775808:=ae
   subst this;decide+kernel
 ·have c:=w7 c;refine Ends.leaf<|Ac.of rfl rfl ?_;show zc .u64 n=Aj n;simp only[An];rw[wu _ ae ae];omega
end T179
namespace T217
theorem As{Q:PV->Ob->Prop}(w:List Int)(e:w.length<=20000)(b:∀ob,Q (.dat DQ<|AE w) ob):∀(i:Nat),i<=w.length->AE w=AE (w.take i)->Ends uH (L1 w i) Q
 |0,g,a=>by
  have a:AE w=[]:=a;rw[a]at b;refine Ends.Ah (Al ..) (Ends.ff (by simp)<|Ends.tt (by simp)<|Ends.leaf<|b _)
 |i+1,g,a=>by
  have f:zc .i64 (((i+1:Nat):Int)-1)=(i:Int):=by rw[wr _ ae ae];omega
  have d:w.take (i+1)=w.take i++[w.getD i 0]:=by
   rw[List.take_add_one];congr 1;rw[zl,zn ae];rfl
  refine Ends.Ah (Al ..) (Ends.tt (by simp<;>omega) ?_);rw[f,z7];refine Ends.tt (by simp<;>omega)<|Ends.ite (fun c=>?_)<|fun c=>?_
  ·have c:w.getD i 0=0:=by simpa using c
   refine As w e b i ae ?_;rw[a,d,c,Kd]
  ·have c:w.getD i 0≠0:=by simpa using c
   refine Ends.tt (by simp;omega)<|Ends.leaf ?_;have:AE w=w.take (i+1):=by rw[a,d,JV<|hH c]
   rw[this]at b;exact b _
theorem ok:Ae A1 217 ZD:=by
 refine C3 Ks<|fun(w:List Int) hw=>?_;obtain⟨a,b⟩:=JI (l:=w) hw;refine Ends.eq (Ai w) (As w a (fun ob=>Ac.of rfl rfl rfl) w.length (zh _)<|by rw[List.take_length])
end T217
theorem FO{l:List Int}(h:CF l=true):l.length<=20000/\AD Av l/\Sp.nz l:=by
 unfold CF at h;rw[ze]at h;have:=JI h.1;exact⟨this.1,this.2,by
  have:=h.2;unfold Sp.nzW at this;have:l.getLast?≠some 0:=w6 this;exact this⟩
namespace T176
theorem As{Q:PV->Ob->Prop}(a b:List Int)(j:AD Av a)(k:AD Av b)(m:a.length=b.length)(o:b.length<=20000)(f:∀ob,Q (.dat i64<|Cd (Ay a)<|Ay b) ob):∀(i:Nat),i<=a.length->a.drop i=b.drop i->Ends uH (L1 a b<|(i:Int)-1) Q
 |0,p,g=>by
  have g:a=b:=g;have:Cd (Ay a) (Ay b)=0:=by rw[g];unfold Cd;simp
  rw[this]at f;exact Ends.Ah (Al ..) (Ends.ff (by simp)<|Ends.leaf<|f _)
 |i+1,p,g=>by
  have n:(((i+1:Nat):Int)-1)=(i:Int):=ae
  have l:a.drop i=a.getD i 0::a.drop (i+1):=by
   rw[zl,zn ae];exact zz ae
  have db:b.drop i=b.getD i 0::a.drop (i+1):=by
   rw[g,zl,zn ae];exact zz ae
  have q:=Sp.Bd<|A3 j i;have r:=Sp.Bd<|A3 k i;rw[n];refine Ends.Ah (Al ..) (Ends.tt (by simp) ?_);rw[z7];refine Ends.tt (by simp;omega) (Ends.tt (by simp;omega) (Ends.ite (fun c=>Ends.tt (by simp;omega)<|Ends.tt (by simp;omega)<|Ends.ite (fun d=>?_)<|fun d=>?_)<|fun c=>?_))
  ·have d:=w6 d;have:=Kx (b:=Av) af j k l db d;have e:Cd (Ay a) (Ay b)= -1:=by unfold Cd;exact wd this
   rw[e]at f;exact Ends.leaf<|f _
  ·have d:=w7 d;have c:a.getD i 0≠b.getD i 0:=by simpa using c
   have:=Kx (b:=Av) af k j db l ae;have e:Cd (Ay a) (Ay b)=1:=by
    unfold Cd Ay;rw[wc ae,wd ae]
   rw[e]at f;exact Ends.leaf<|f _
  ·have c:a.getD i 0=b.getD i 0:=by simpa using c
   rw[wr ((i:Int)-1) ae ae];exact As a b j k m o f i ae (by rw[l,db,c])
theorem ok:Ae A1 176 fZ:=by
 refine C3 Ks<|fun(i:List Int×List Int) g=>?_;obtain⟨a,b⟩:=i;have g:(CF a&&CF b)=true:=g;rw[ze]at g;obtain⟨a1,a2,a3⟩:=FO g.1;obtain⟨b1,b2,b3⟩:=FO g.2;have f:∀ob,Ac fZ (a,b) (.dat i64<|Cd (Ay a)<|Ay b) ob:=fun ob=>Ac.of rfl rfl rfl
 refine Ends.eq (Ai a b)<|Ends.ite (fun c=>Ends.ite (fun d=>?_)<|fun d=>?_)<|fun c=>?_
 ·have d:=w6 d;have e:Cd (Ay a) (Ay b)= -1:=by unfold Cd;exact wd (Ft af a2 b2 b3 ae)
  rw[e]at f;exact Ends.leaf<|f _
 ·have d:=w7 d;have c:(a.length:Int)≠b.length:=by simpa using c
  have:=Ft (b:=Av) af b2 a2 a3 ae;have e:Cd (Ay a) (Ay b)=1:=by
   unfold Cd Ay;rw[wc ae,wd ae]
  rw[e]at f;exact Ends.leaf<|f _
 ·have c:(a.length:Int)=b.length:=by simpa using c
  rw[wr _ ae ae];exact As a b a2 b2 ae b1 f a.length (zh _) (by rw[List.drop_length,show a.length=b.length by omega,List.drop_length])
end T176
theorem Es{a:AL}(h:Sp.Dz a=true):(-9223372036854775808<=a.1/\a.1<9223372036854775808)/\(a.2=[]\/(CF a.2=true/\(a.1=1\/a.1= -1)/\9223372036854775808<=Ay a.2)):=by
 unfold Sp.Dz at h;grind [Cn]
theorem val_one(d:Int):z8 Av [d]=d:=by simp[z8]
theorem Aff{d:Int}(c:0<d)(a:d<18446744073709551616):[d]=BI d:=by
 have:=JO (b:=Av) (l:=[d]) af (fun x e=>by grind) (by unfold Sp.nz;grind);rw[val_one]at this;exact this
theorem Gf{s:Int}:Sp.vI (s,[])=s:=by rfl
namespace T173
theorem ok(e:∀g sp,MF.sp g=some sp->Ae A1 g sp):Ae A1 173 OI:=by
 refine AX (X:=MF) rfl e (d:=9) (by rfl) (by rfl) (by rfl) (fun(a:Int×List Int) ha=>?_) (Ak ag);obtain⟨hr,f⟩:=Es (a:=a) ha;obtain⟨s,w⟩:=a;refine Ends.eq (Ai (s,w))<|Ends.ite (fun c=>?_)<|fun c=>Ends.ite (fun d=>?_)<|fun d=>Ends.tt ?_ ?_
 ·have m:w≠[]:=ah
  rcases f with f|⟨n,q,p⟩
  ·grind
  ·obtain⟨n1,i,l⟩:=FO n;have ev:Sp.vI (s,w)=if s<0 then -Ay w else Ay w:=by simp_all [Sp.vI]
   have j:Aj (Sp.vI (s,w))=Ay w:=by grind [An]
   have o:decide (Sp.vI (s,w)<0)=decide (s<0):=by
    grind
   refine Ends.leaf<|Ac.of rfl rfl ?_;show(decide (s<0),w)=(decide (Sp.vI (s,w)<0),BI<|Aj<|Sp.vI (s,w));rw[j,o,show w=BI (Ay w)from JO af i l];congr 2;exact(Du (b:=Av) af<|AJ (b:=Av) af i).symm
 all_goals
  have c:¬0<w.length:=w7 c;have k:w=[]:=List.length_eq_zero_iff.1 ae;subst k
 ·have d:s=0:=ah
  subst d;exact Ends.leaf<|Ac.of rfl rfl rfl
 ·simp_all [Cn]
 ·refine Ends.leaf<|Ac.of rfl rfl ?_;grind [Gf,Aff,An,OI]
end T173
theorem CT{n:Int}(h: -9223372036854775808<n/\n<9223372036854775808):DB n=(n,[]):=wd h
theorem U3{w:List Int}(neg:Bool)(b:AD Av w)(a:Sp.nz w)(c:9223372036854775808<=Ay w):DB (if neg=true then -Ay w else Ay w)=(if neg=true then -1 else 1,w):=by
 have e:BI (Ay w)=w:=(JO af b a).symm;cases neg with
 |true=>
  unfold DB;grind [An]
 |false=>
  unfold DB;grind [An]
namespace T174
theorem ok(a:∀g sp,MF.sp g=some sp->Ae A1 g sp):Ae A1 174 xP:=by
 refine AX (X:=MF) rfl a (d:=9) (by rfl) (by rfl) (by rfl) (fun(i:Bool×List Int) hi=>?_) (Ak ag);obtain⟨neg,w⟩:=i;obtain⟨n1,n2,n3⟩:=FO (l:=w) hi;refine Ends.eq (Ai neg w) ?_;conv=>zeta
 cases w with
 |nil=>
  refine Ends.tt rfl (Ends.leaf<|Ac.of rfl rfl ?_);show _=DB (if neg=true then -0 else 0);simp_all [CT]
 |cons d t=>
  cases t with
  |nil=>
   have r:=n2 d (by simp);have ev:Ay [d]=d:=val_one d;refine Ends.ff rfl (Ends.tt rfl (Ends.tt rfl (Ends.ite (fun c=>?_)<|fun c=>?_)))
   ·have c:d<=9223372036854775807:=ah;have f:zc .i64 d=d:=wr _ ae ae;have p:zc .i64 (0-d)= -d:=by grind [wr]
    refine Ends.ite (fun n=>Ends.tt rfl (Ends.leaf<|Ac.of rfl rfl ?_)) (fun n=>Ends.tt rfl (Ends.tt rfl (Ends.tt ae<|Ends.tt rfl (Ends.leaf<|Ac.of rfl rfl ?_))))
    ·show(zc .i64<|0-zc .i64 d,[])=DB (if neg=true then -Ay [d]else Ay [d]);rw[f,p,wd n,ev,CT ae]
    ·show(zc .i64 d,[])=DB (if neg=true then -Ay [d]else Ay [d]);subst n;rw[f,wc af,ev,CT ae]
   ·have q:¬d<=9223372036854775807:=ah;have m:=U3 neg n2 n3 ae;refine Ends.tt rfl (Ends.tt rfl (Ends.ff c<|Ends.ite (fun n=>Ends.leaf<|Ac.of rfl rfl ?_)<|fun n=>Ends.leaf<|Ac.of rfl rfl ?_))
    ·show(-1,[d])=DB (if neg=true then -Ay [d]else Ay [d]);grind
    ·show(1,[d])=DB (if neg=true then -Ay [d]else Ay [d]);grind
  |cons e t=>
   have k:9223372036854775808<=Ay (d::e::t):=by
    have h:=DP (b:=Av) af n2 n3 (by simp);have o:=AY (b:=Av) af (show 1<=(d::e::t).length-1 by simp);have:(9223372036854775808:Int)<=(Av:Int):=af
    exact Int.le_trans this<|Int.le_trans o h
   have m:=U3 neg n2 n3 k;have z0:(((d::e::t).length:Int)==0)=false:=by rfl
   have j:(((d::e::t).length:Int)==1)=false:=by rfl
   refine Ends.ff z0<|Ends.ff j<|Ends.ff j<|Ends.ite (fun n=>Ends.leaf<|Ac.of rfl rfl ?_)<|fun n=>Ends.leaf<|Ac.of rfl rfl ?_
   ·show(-1,d::e::t)=DB (if neg=true then -Ay (d::e::t)else Ay (d::e::t));grind
   ·show(1,d::e::t)=DB (if neg=true then -Ay (d::e::t)else Ay (d::e::t));grind
end T174
namespace T175
theorem As(x y:List Int)(a:AD Av x)(e:AD Av y)(l:y.length<=x.length)(s:x.length<=9000)(o:∀ob,Q (.dat DQ<|BI<|Ay x+Ay y) ob):∀(k i:Nat) (p:List Int) (c:Int),i+k=x.length->p.length=i->AD Av p->(0<=c/\c<=1)->z8 Av p+(Av:Int)^i*c=z8 Av (x.take i)+z8 Av (y.take i)->
  Ends MF (L1 x y (x.length+1) c x.length i<|p++zr (x.length+1-i) 0) Q
 |0,i,p,c,b,hp,f,g,j=>by
  subst b;have r:AD Av (p++[c]):=(by grind [EF,C9]);have t:Ay (p++[c])=Ay x+Ay y:=by
   grind [Ay,Gb,z6]
  refine Ends.Ah (Al ..) (Ends.ff (by simp) ?_);grind [z7,Ends.tt,Ends.leaf,E0,Nl]
 |k+1,i,p,c,b,hp,f,g,j=>by
  have q:=A3 a i;have u:=A3 e i;have step:∀z,Sp.u64 z=true->z=y.getD i 0->Ends MF (L1 x y (x.length+1) (Rj (x.getD i 0) z c) x.length (zc .i64<|(i:Int)+1)<|(p++zr (x.length+1-i) 0).set i<|Jj (x.getD i 0) z c) Q:=by
   intro z n m;obtain⟨a1,a2,a3⟩:=Mn q n g;rw[wr ((i:Int)+1) ae ae,Kw p (x.length+1) i _ hp ae];refine As x y a e l s o k (i+1) (p++[Jj (x.getD i 0) z c]) _ ae ah (EF f a1) a2 ?_;rw[Gb,hp,Ny,AN _ x i,AN _ y i, <-m,Int.add_assoc, <-yf,a3,yf,yf];omega
  refine Ends.Ah (Al ..) (Ends.tt ah ?_);refine Ends.ite (fun d=>?_)<|fun d=>?_
  ·refine Ends.tt ah (Ends.tt ah (Ends.tt ?_<|Ends.tt ah<|Ends.tt ah ah));grind
  ·refine Ends.tt ah (Ends.tt ?_ (Ends.tt ah (Ends.tt ah ah)));grind
theorem start(x y:List Int)(c:AD Av x)(f:AD Av y)(d:y.length<=x.length)(a:x.length<=9000)(e:∀ob,Q (.dat DQ<|BI<|Ay x+Ay y) ob){t:Tr}:
  Ends MF (.ite (decide ((0:Int)<=zc zy ((x.length:Int)+(1:Int)))&&decide (zc zy ((x.length:Int)+(1:Int))=zc zy ((x.length:Int)+(1:Int)))&&decide ((8:Nat)*Int.toNat (zc zy<|(x.length:Int)+(1:Int))<=(281474976710656:Nat))&&decide (zc zy ((x.length:Int)+(1:Int))<(9223372036854775808:Int)))
   (L1 x y (Int.toNat<|zc zy<|(x.length:Int)+(1:Int)) ((0:Int)) ((x.length:Int)) ((0:Int))<|zr (Int.toNat<|zc zy<|(x.length:Int)+(1:Int)) (0:Int)) t) Q:=by
 have b:zc .i64 ((x.length:Int)+1)=((x.length+1:Nat):Int):=by grind [wr]
 rw[b,z7];refine Ends.tt (by simp;omega) ?_;exact As x y c f d a e x.length 0 [] 0 ae rfl (fun _ h=>by cases h) ae (by rfl)
theorem ok(a:∀g sp,MF.sp g=some sp->Ae A1 g sp):Ae A1 175 uP:=by
 refine AX (X:=MF) rfl a (d:=9) (by rfl) (by rfl) (by rfl) (fun(i:List Int×List Int) b=>?_) (Ak ag);obtain⟨x,y⟩:=i;have b:(Sp.hW x&&Sp.hW y)=true:=b;rw[ze]at b;obtain⟨x1,x2⟩:=dQ b.1;obtain⟨y1,y2⟩:=dQ b.2;have e:∀ob,Ac uP (x,y) (.dat DQ<|BI<|Ay x+Ay y) ob:=fun ob=>Ac.of rfl rfl rfl
 refine Ends.eq (Ai x y)<|Ends.ite (fun c=>?_)<|fun c=>?_
 ·grind [start]
 grind [start]
end T175
namespace T177
theorem xB{b:Int}(c:0<b){l:List Int}{n:Nat}(h:AD b l)(e:z8 b l<b^n):z8 b (l.take n)=z8 b l:=by
 rcases yi n l.length with d|d
 ·have f:=CG b l n ae;have i:=AJ ae<|AW h n;have g:=AJ ae<|Fy h n;rcases yj 0 (z8 b<|l.drop n)with a|a
  ·have:=Int.mul_le_mul_of_nonneg_left (show 1<=z8 b (l.drop n)by omega)<|Int.le_of_lt<|Bn c n;omega
  grind
 grind [z6]
theorem As(x y:List Int)(b:AD Av x)(f:AD Av y)(j:Ay y<=Ay x)(r:x.length<=20000)(o:∀ob,Q (.dat DQ<|BI<|Ay x-Ay y) ob):∀(k i:Nat) (p:List Int) (c:Int),i+k=x.length->p.length=i->AD Av p->(0<=c/\c<=1)->z8 Av p-(Av:Int)^i*c=z8 Av (x.take i)-z8 Av (y.take i)->
  Ends MF (L1 x y x.length c x.length i<|p++zr (x.length-i) 0) Q
 |0,i,p,c,l,hp,g,m,a=>by
  subst l;have u:p.take x.length=p:=ah;have s:Ay x<(Av:Int)^x.length:=BD af b;have w:Ay p<(Av:Int)^p.length:=BD af g;have t:Ay p=Ay x-Ay y:=by
   rw[List.take_length,xB af f<|show z8 Av y<_ from Int.lt_of_le_of_lt j s]at a;have a:Ay p-(Av:Int)^x.length*c=Ay x-Ay y:=a;rcases yj 0 c with h|h
   ·grind
   grind
  simp_all [Ends.Ah,Al,E0,Nl]
 |k+1,i,p,c,l,hp,g,m,a=>by
  have q:=A3 b i;have A:=A3 f i;have step:∀z,Sp.u64 z=true->z=y.getD i 0->Ends MF (L1 x y x.length (SS (x.getD i 0) z c) x.length (zc .i64<|(i:Int)+1)<|(p++zr (x.length-i) 0).set i<|Wz (x.getD i 0) z c) Q:=by
   intro z n v;obtain⟨a1,a2,a3⟩:=Sp.H5 q n m;rw[wr ((i:Int)+1) ae ae,Kw p x.length i _ hp ae];refine As x y b f j r o k (i+1) (p++[Wz (x.getD i 0) z c]) _ ae ah (EF g a1) a2 ?_;have e:(Av:Int)^i*Wz (x.getD i 0) z c-(Av:Int)^i*(18446744073709551616*SS (x.getD i 0) z c)=(Av:Int)^i*x.getD i 0-(Av:Int)^i*z-(Av:Int)^i*c:=by
    grind
   grind [Gb,Ny,AN]
  refine Ends.Ah (Al ..) (Ends.tt ah ?_);refine Ends.ite (fun d=>?_)<|fun d=>?_
  ·refine Ends.tt ah (Ends.tt ah<|Ends.tt ?_<|Ends.tt ah<|Ends.tt ah ah);grind
  ·refine Ends.tt ah (Ends.tt ?_<|Ends.tt ah<|Ends.tt ah ah);grind
theorem ok(b:∀g sp,MF.sp g=some sp->Ae A1 g sp):Ae A1 177 rK:=by
 refine AX (X:=MF) rfl b (d:=9) (by rfl) (by rfl) (by rfl) (fun(i:List Int×List Int) a=>?_) (Ak ag);obtain⟨x,y⟩:=i;have a:(Dg x&&Dg y&&decide (Ay y<=Ay x))=true:=a;rw[ze,ze,w5]at a;obtain⟨x1,x2⟩:=JI a.1.1;obtain⟨y1,y2⟩:=JI a.1.2;have c:∀ob,Ac rK (x,y) (.dat DQ<|BI<|Ay x-Ay y) ob:=fun ob=>Ac.of rfl rfl rfl
 refine Ends.eq (Ai x y) ?_;conv=>zeta
 refine Ends.tt (by simp;omega) ?_;exact As x y x2 y2 a.2 x1 c x.length 0 [] 0 ae rfl (fun _ h=>by cases h) ae (by rfl)
end T177
end Go.Pe
