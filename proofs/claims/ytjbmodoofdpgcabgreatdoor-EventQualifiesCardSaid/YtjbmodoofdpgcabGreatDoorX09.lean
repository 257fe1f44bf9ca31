import Derived.Test.YtjbmodoofdpgcabGreatDoorX08
import Init
/- A part of a proof; no law is stated here. -/
noncomputable section
open Go.IntKind renaming wrap -> Za, i64 -> Zl
open Go.Pe.Sh renaming list -> Zb, int -> ZE
open Bool renaming and_eq_true -> Zc, and_false -> ZH
open List renaming getD_eq_getElem?_getD -> Zd, countP_le_length -> Ze, getElem?_eq_getElem -> Zf, mem_singleton -> Zh, length_take -> Zi, length -> Zo, take_of_length_le -> Zq, length_map -> Zs, append_nil -> Zt, drop_eq_getElem_cons -> Zv, take_succ_eq_append_getElem -> Zx, countP_mono_left -> Zy, countP_cons -> Zz, countP_eq_zero -> ZA, countP_append -> ZB, replicate -> ZC, length_append -> ZD, drop_eq_nil_of_le -> ZF, all_cons -> ZI
open Nat renaming add -> Zg, le_refl -> Zj, le_trans -> Zm, beq -> Zp, eq_of_beq_eq_true -> Zu, mul_one -> ZG
open Int renaming toNat_natCast -> Zk
open Go.Pe.PV renaming cells -> Zn
open Go.Pe.Ev renaming Ad -> Zr
open Option.some renaming injEq -> Zw
open Go.Det renaming sorted -> ZJ
namespace Go.Pe
open Go.Det
section
variable {B:Nat}{h0:H0}{X:AG}{F:Fz}{ρ:BB}{N:Nat}{st st':Ae}{fr:Fr}{h:H}
theorem Ff:∀ {ps:List PV} {i t:Nat} {p:PV},(t,p)∈B3 ps i->∃k,t=i+k/\ps[k]?=some p
 |[],i,t,p,h=>by cases h
 |q::ps,i,t,p,h=>by
  rcases List.mem_cons.1 h with h|h
  ·simp_all
  ·obtain⟨k,a,b⟩:=Ff h;exact⟨k+1,by grind,by grind⟩
theorem Rj{ps:List PV}{vs:List V}(b:Ay F ρ N ps vs)(n:Nat)(ob:Ob)(nx:Nat)(_hnx:nx=N):FP F ρ N (Ba (Zg ps.length<|Nat.sub n ps.length) (B3 ps 0) ob nx) (F5 n vs):=by
 refine⟨by show ps.length+(n-ps.length)=vs.length+(n-vs.length);rw[b.len],fun t=>?_⟩;show PR F ρ N (((BW<|B3 ps 0).get t).getD .any) _;cases d:(BW<|B3 ps 0).get t with
 |none=>grind [PR]
 |some p=>
  rcases Cy _ .leaf t p d with c|c
  ·obtain⟨k,i,e⟩:=Ff c;obtain rfl:t=k:=a8
   obtain⟨v,a,g⟩:=b.get e;have f:=(List.getElem?_eq_some_iff.1 a).1;unfold F5 Fr.get;rw[FJ,wa a8,Nat.sub_zero,a];exact g
  simp_all
theorem Pt{T:AF}{st s:Ae}{t:TypeId}{a p:PV}(h:(F8 T st t a).To p s):s=st:=by
 unfold F8 at h;split at h
 case h_2=>simp_all
 split at h
 case h_4=>simp_all
 ·split at h
  case h_4=>simp_all
  case h_3=>simp_all
  ·simp_all
  ·rename_i b l _;cases c:(Zp _ 0&&Zp b.sz 1)with
   |false=>rw[c]at h;simp_all
   |true=>simp_all
 ·split at h
  case h_2=>simp_all
  rename_i sz j off _ _ _ b l _;cases c:(Zp sz b.sz)with
  |false=>simp_all
  |true=>simp_all
 simp_all
theorem Hx{Q:PV->Ob->Prop}{n:Nat}{t:Tr}:∀ {cs:List Bool},Ev X Q n (Jv cs t)->(∀c∈cs,c=true)/\Ev X Q n t
 |[],h=>⟨(by simp),h⟩
 |c::cs,h=>by
  rcases h.BV with⟨d,a⟩|⟨_,a⟩
  ·obtain⟨e,b⟩:=Hx a;grind
  grind [Zr]
theorem Kb:∀ {k:List ResultVar} {ps:List PV} {F:Fz} {ρ:BB},Rel B h0 F ρ st fr h->O8 X.C.T st k=some ps->(∀c∈FR X.C.T st k,c=true)->
  ∃vs F' ρ',G9 X.C fr h k=some vs/\Ay F' ρ' st.nx ps vs/\Rel B h0 F' ρ' st fr h/\Le F ρ st.nx F' ρ' st.nx
 |[],ps,F,ρ,f,i,_=>by cases i;exact⟨[],F,ρ,rfl,by simp,f,Le.refl⟩
 |r::k,ps,F,ρ,f,i,e=>by
  unfold O8 at i;split at i
  case h_2=>cases i
  rename_i p z g o;cases i;have key:∃v F1 d,Mr X.C fr h r=some v/\PR F1 d st.nx p v/\Rel B h0 F1 d st fr h/\Le F ρ st.nx F1 d st.nx:=by
   cases r with
   |tmp t=>
    simp only[Pf,Zw]at g;subst g;exact⟨_,F,ρ,rfl,f.fp.slot t,f,Le.refl⟩
   |cell a t=>
    have j:∃s,(F8 X.C.T st t<|st.get a).To p s:=by
     simp only[Pf]at g;split at g
     case h_3=>cases g
     ·simp_all
     ·rename_i c u s D;cases g;refine⟨s,?_⟩;have:=e c (by grind [FR]);rw[D,this];show(PO.DU true p s).To p s;simp
    obtain⟨s,j⟩:=j;have A:s=st:=Pt j;subst A;obtain⟨v',h',F',ρ',b,g2,g3,g4,g5,g6,g7,g8⟩:=Qr (C:=X.C) f.sr (f.fp.slot a) j;cases m:B6 X.C.T h t (fr.get a)with
    |none=>rw[m]at b;rcases b with b|⟨b,_⟩<;>cases b
    |some w=>
     rw[m]at b;rcases b with b|⟨b,_⟩
     ·simp only[Av,Zw,OR.val.injEq]at b;obtain⟨rfl,rfl⟩:=b;exact⟨w,F',ρ',m,g2,⟨f.fp.mono g4,g3⟩,g4⟩
     ·cases b
  obtain⟨v,F1,d,y,n,E,q⟩:=key;obtain⟨vs,F2,ρ2,k5,k6,k7,k8⟩:=Kb E o (fun c x=>e c (by
   cases r with
   |tmp t=>exact x
   |cell a t=>
    grind [FR]))
  exact⟨v::vs,F2,ρ2,by simp[G9,y,k5],by simp only[Ax];exact⟨n.mono k8,k6⟩,k7,q.trans k8⟩
theorem El{nd:Bool}{d:Nat}(y:∀h0,B8 B h0 X nd<|AP X nd d)(s:∀h0,B8 B h0 X false<|AP X false d)(hmg:X.C.mg=false){g:FuncId}(Z:X.C.spec g=none)(hprim:X.C.prim g=none)(hno:X.sp g=none){Q:PV->Ob->Prop}{n:Nat}{args:List PV}{k:PV->Ae->Tr}{args':List V}
  (D:Ev X Q n (enter X (AP X nd d) (AP X false d) nd d g args st k)) (K:Rel B h0 F ρ st fr h) (ha:Ay F ρ st.nx args args'):
  (X.C.prim g=none/\∃i,X.C.fn g=some i)/\∃l M,(∀m,M<=m->Aj X.C m (.fn g args') h=some l)/\(nd=false->∃x,l=[x])/\
   ∀x∈l,∃n',n'<=n/\∃r st',Ev X Q n' (k r st')/\∃F' ρ',PR F' ρ' st'.nx r x.1/\Bb B h0 F ρ st.nx h st' fr x.2 F' ρ'/\(∀sp,X.sp g=some sp->∀b,b<h.nx->x.2.get b=h.get b):=by
 unfold enter at D;split at D
 case h_1=>grind [Zr]
 rename_i i hi;cases hc:i.cert with
 |false=>grind [Zr]
 |true=>
  rw[hc]at D;simp only[wb]at D;have hr0:Rel B h0 F ρ (Ba (Zg args.length<|Nat.sub i.ntmps args.length) (B3 args 0) st.ob st.nx) (F5 i.ntmps args') h:=⟨Rj ha i.ntmps st.ob st.nx rfl,K.sr⟩;obtain⟨l,M,hM,O,J⟩:=GI (ro:=false) (rv:=none) (ct:=true) (by simp) y s n i.body (st:=Ba (Zg args.length<|Nat.sub i.ntmps args.length) (B3 args 0) st.ob st.nx) [] (Zj st.nx) hr0 D;have fin:∀x∈l,∃(r:List (V×H)) (M:Nat),(∀m:Nat,M<=m->∀q:Nat,M<=q->(match x.e with
      | .exit _=>none
      |_=>match CH x.ds x.h with
       |some a=>match Ib X.C x.fr a i.results.toList with
        |some v=>some [(v,a)]
        |none=>none
       |none=>none)=some r)/\(nd=false->∃x,r=[x])/\∀x∈r,∃n',n'<=n/\∃r st',Ev X Q n' (k r st')/\∃F' ρ',PR F' ρ' st'.nx r x.1/\Bb B h0 F ρ st.nx h st' fr x.2 F' ρ'/\(∀sp,X.sp g=some sp->∀b,b<h.nx->x.2.get b=h.get b):=by
   intro x hx;obtain⟨ps,⟨hds,u,hge⟩,n1,W,c,I,F1,ρ1,w,hb1,L,hx1'⟩:=J x hx;obtain⟨e,fr1,hx0,ds1⟩:=x;obtain⟨a,hlv,hsr1,hnx1,_⟩:=SR.leave u (fun b hb hp=>by
    have k1:=hge b hb;have k2:=K.sr.lt b _ (K.sr.pn b hp).1;omega) w.sr
   have hr1:Rel B h0 F1 ρ1 c fr1 a:=⟨w.fp,hsr1⟩;have hx1:h.nx<=a.nx:=a8
   have go:(∀j,e≠ .exit j)->Ev X Q n1 (match O8 X.C.T c i.results.toList with|some vs=>Jv (FR X.C.T c i.results.toList) (k (Go.Pe.one vs) ⟨st.n,st.fr,c.ob,c.nx⟩)|none=>.fail)->
     ∃v',Ib X.C fr1 a i.results.toList=some v'/\∃n',n'<=n/\∃r st',Ev X Q n' (k r st')/\∃F' ρ',PR F' ρ' st'.nx r v'/\Bb B h0 F ρ st.nx h st' fr a F' ρ'/\(∀sp,X.sp g=some sp->∀b,b<h.nx->a.get b=h.get b):=by
    intro hne o;split at o
    case h_2=>grind [Zr]
    rename_i ps Y;obtain⟨z,o⟩:=Hx o;obtain⟨vs,F2,ρ2,k1,k2,k3,k4⟩:=Kb hr1 Y z;have G:Le F ρ st.nx F2 ρ2 c.nx:=⟨fun b cs hb=>k4.fz _ _<|L.fz _ _ hb,fun id hid=>by
     rcases k4.rho id a8 with e|e
     ·rw[e];exact L.rho id hid
     grind,hb1⟩
    have E:∃S,Ib X.C fr1 a i.results.toList=some S/\PR F2 ρ2 c.nx (Go.Pe.one ps) S:=by
     unfold Ib;rw[k1];cases ps with
     |nil=>subst k2;exact⟨_,rfl,by simp[Go.Pe.one,PR]⟩
     |cons p ps=>
      obtain⟨v1,vs1,rfl,U,R⟩:=k2;cases ps with
      |nil=>subst R;exact⟨_,rfl,U⟩
      |cons q qs=>
       obtain⟨v2,vs2,rfl,_,_⟩:=R;refine⟨_,rfl,?_⟩;show PR F2 ρ2 c.nx (.tup (p::q::qs)) _;simp_all [PR]
    obtain⟨S,q1,q2⟩:=E;exact⟨S,q1,n1,W,_,_,o,F2,ρ2,q2,⟨⟨⟨K.fp.n,fun t=>(K.fp.slot t).mono G⟩,k3.sr⟩,G,hx1⟩,ae⟩
   cases e with
   |normal=>
    obtain⟨v',q1,q2⟩:=go (by simp) I;exact⟨[(v',a)],0,ae,(by simp),ae⟩
   |ret=>
    obtain⟨v',q1,q2⟩:=go (by simp) I;exact⟨[(v',a)],0,ae,(by simp),ae⟩
   |exit j=>grind [Zr]
  obtain⟨r,M2,U,R,g3⟩:=D2 (f:=fun _ _ (x:Det.X)=>match x.e with
      | .exit _=>none
      |_=>match CH x.ds x.h with
       |some a=>match Ib X.C x.fr a i.results.toList with
        |some v=>some [(v,a)]
        |none=>none
       |none=>none) (P:=fun x=>∃n',n'<=n/\∃r st',Ev X Q n' (k r st')/\∃F' ρ',PR F' ρ' st'.nx r x.1/\Bb B h0 F ρ st.nx h st' fr x.2 F' ρ'/\(∀sp,X.sp g=some sp->∀b,b<h.nx->x.2.get b=h.get b)) O fin
  refine⟨ae,r,max M M2+1,fun m hm=>?_,R,g3⟩;obtain⟨A,rfl⟩:∃A,m=A+1:=⟨m-1,by omega⟩;have hg:=U A a8 A a8;have:Aj X.C (A+1) (.fn g args') h=(match Ar X.C (Aj X.C A) none i.cert A i.body (F5 i.ntmps args') h []with
    |none=>none
    |some l=>match (bl l fun x=>match x.e with
     | .exit _=>none
     |_=>match CH x.ds x.h with
      |some a=>match Ib X.C x.fr a i.results.toList with
       |some v=>some [(v,a)]
       |none=>none
      |none=>none)with
     |some r=>some<|bif X.C.mg then HX h.nx r else r
     |none=>none):=by
   rw[Aj];simp only[Z,hi];rfl
  grind
theorem Fj{nd:Bool}{d:Nat}(w:∀h0,B8 B h0 X nd<|AP X nd d)(j:∀h0,B8 B h0 X false<|AP X false d){id:Nat}{Q:PV->Ob->Prop}{n:Nat}{args:List PV}{k:PV->Ae->Tr}{args':List V}
  (he:Ev X Q n (K6 X (AP X nd d) (AP X false d) nd d id args st k)) (hr:Rel B h0 F ρ st fr h) (ha:Ay F ρ st.nx args args'):
  ∃c,TU X ρ h args' (.rnd id) c/\∃l M,(∀m,M<=m->Aj X.C m c h=some l)/\(nd=false->∃x,l=[x])/\
   ∀x∈l,∃n',n'<=n/\∃r st',Ev X Q n' (k r st')/\∃F' ρ',PR F' ρ' st'.nx r x.1/\Bb B h0 F ρ st.nx h st' fr x.2 F' ρ':=by
 unfold K6 at he;split at he
 case h_2=>grind [Zr]
 rename_i f r ps asg b n0 sl hob;obtain⟨E,m0,y,k1,k2,⟨ls,rfl,rfl,rfl,rfl,⟨l1,l2⟩,rfl,l4⟩,-⟩:=hr.sr.at hob;cases hsz:Zp args.length ls.ps.size with
 |false=>grind [Zr]
 |true=>
 rw[hsz]at he;simp only[wb]at he;have hlen:args'.length=ls.ps.size:=by rw[<-ha.len];simp_all
 have hid:id<st.nx:=(hr.sr.own _ _ _ k1).1;have hr0:Rel B h0 F ρ (FU ls.ps.toList args<|Ba ls.fr.n sl st.ob st.nx) (CP ls.ps.toList args' ls.fr) h:=by
  have T:Rel B h0 F ρ (Ba ls.fr.n sl st.ob st.nx) ls.fr h:=⟨⟨rfl,fun t=>l4 t⟩,hr.sr⟩;have go:∀(ts:List Tmp) (g:List PV) (J:List V) (s:Ae) (f:Fr),s.nx=st.nx->Ay F ρ st.nx g J->Rel B h0 F ρ s f h->Rel B h0 F ρ (FU ts g s) (CP ts J f) h:=by
   intro ts;induction ts with
   |nil=>intro g J s f _ _ hs;cases g<;>exact hs
   |cons t ts ih=>
    intro g J s f hn hp hs;cases g with
    |nil=>simp only[Bs]at hp;subst hp;exact hs
    |cons a g=>
     simp only[Ay]at hp;obtain⟨v,vs,rfl,p1,p2⟩:=hp;simp only[FU,CP];refine ih g vs _ _ ?_ p2 ?_
     ·cases Nat.blt t s.n<;>exact hn
     ·unfold Fr.Nl;rw[show s.n=f.n from hs.fp.n];cases Nat.blt t f.n with
      |false=>exact hs
      |true=>exact hs.set ae
  exact go _ _ _ _ _ rfl ha T
 have hnx0:st.nx<=(FU ls.ps.toList args<|Ba ls.fr.n sl st.ob st.nx).nx:=by
  have go:∀(ts:List Tmp) (g:List PV) (s:Ae),(FU ts g s).nx=s.nx:=by
   intro ts;induction ts with
   |nil=>intro g s;rfl
   |cons t ts ih=>
    intro g s;cases g with
    |nil=>rfl
    |cons a g=>simp only[FU];rw[ih];cases Nat.blt t s.n<;>rfl
  rw[go];exact Zj _
 obtain⟨L,M1,hM1,Z,W⟩:=GI (ro:=true) (rv:=some E) (ct:=false) (by simp) w j n ls.asg [] hnx0 hr0 he;refine⟨_,⟨E,m0,ls,k1,k2,hlen,rfl⟩,?_⟩;have fin:∀x∈L,∃(r:List (V×H)) (M:Nat),(∀m:Nat,M<=m->∀q:Nat,M<=q->(match x.e,x.h.get E with
   | .normal,some (.loop l1)=>match l1.st with
    | .ready=>match Ar X.C (Aj X.C m) (some E) false q ls.body x.fr (x.h.put E<|.loop { l1 with st:=.busy }) x.ds with
     |some l2=>bl l2 fun y=>match y.h.get E with
      |some (.loop R)=>match y.e with
       | .normal=>some [(V.bool true,y.h.put E<|.loop { R with st:=.ready,pend:=none })]
       | .ret=>some [(V.bool false,y.h.put E<|.loop { R with st:=.done,pend:=some .ret })]
       | .exit i=>some [(V.bool false,y.h.put E<|.loop { R with st:=.done,pend:=some (.exit i) })]
      |_=>none
     |none=>none
    |_=>none
   |_,_=>none)=some r)/\(nd=false->∃x,r=[x])/\∀x∈r,∃n',n'<=n/\∃r st',Ev X Q n' (k r st')/\∃F' ρ',PR F' ρ' st'.nx r x.1/\Bb B h0 F ρ st.nx h st' fr x.2 F' ρ':=by
  intro x hx;obtain⟨ps1,_,n1,hn1,s,G,F1,ρ1,I,hb1,hl1,hx1⟩:=W x hx;obtain⟨e,fr1,h1,ds1⟩:=x;simp only at G I hx1 ⊢;cases e with
  |exit i=>grind [Zr]
  |ret=>grind [Zr]
  |normal=>
  simp only at G;split at G
  case h_2=>grind [Zr]
  rename_i f' r' ps' asg' b' n' U K;have hs1:SR B h0 F1 ρ1 s.nx s.ob h1:=I.sr.O9;obtain⟨c1,m1,y1,q1,q2,⟨o,rfl,rfl,rfl,rfl,⟨la1,la2⟩,rfl,la4⟩,-⟩:=hs1.at K;obtain⟨rfl,rfl⟩:c1=E/\m1=m0:=by
   have:=hl1.at hid q1;grind
  have hr2:Rel B h0 F1 ρ1 (s.setObj id<|.lp f' r' o.ps o.asg o.body .busy o.fr.n U) fr1 (h1.put c1<|.loop { o with st:=.busy }):=
   ⟨⟨I.fp.n,fun t=>I.fp.slot t⟩,hs1.set K q1 q2 rfl rfl (o':=.lp f' r' o.ps o.asg o.body .busy o.fr.n U) ⟨_,rfl,rfl,rfl,rfl,rfl,rfl,la4⟩⟩
  obtain⟨L2,M2,hM2,S,Y⟩:=GI (ro:=true) (rv:=some c1) (ct:=false) (by simp) w j n1 ls.body ds1 (show st.nx<=(s.setObj id<|.lp f' r' o.ps o.asg o.body .busy o.fr.n U).nx from hb1) hr2 G;have fin2:∀y∈L2,∃(r:List (V×H)) (M:Nat),(∀m:Nat,M<=m->∀q:Nat,M<=q->(match y.h.get c1 with
    |some (.loop R)=>match y.e with
     | .normal=>some [(V.bool true,y.h.put c1<|.loop { R with st:=.ready,pend:=none })]
     | .ret=>some [(V.bool false,y.h.put c1<|.loop { R with st:=.done,pend:=some .ret })]
     | .exit i=>some [(V.bool false,y.h.put c1<|.loop { R with st:=.done,pend:=some (.exit i) })]
    |_=>none)=some r)/\(nd=false->∃x,r=[x])/\∀x∈r,∃n',n'<=n/\∃r st',Ev X Q n' (k r st')/\∃F' ρ',PR F' ρ' st'.nx r x.1/\Bb B h0 F ρ st.nx h st' fr x.2 F' ρ':=by
   intro y hy;obtain⟨ps2,_,n2,hn2,s2,A,F2,ρ2,hr3,hb2,hl2,hx2⟩:=Y y hy;obtain⟨e2,fr2,h2,ds2⟩:=y;simp only at A hr3 hx2 ⊢;split at A
   case h_2=>grind [Zr]
   rename_i f2 r2 pp2 aa2 bb2 ss2 nn2 sl2 O;have hs3:SR B h0 F2 ρ2 s2.nx s2.ob h2:=hr3.sr.O9;obtain⟨c2,m2,y2,w1,w2,⟨u,rfl,rfl,rfl,rfl,_,rfl,lb4⟩,-⟩:=hs3.at O;have hle:Le F ρ st.nx F2 ρ2 s2.nx:=by
    have h:=hl1.trans hl2;exact⟨h.fz,h.rho,hb2⟩
   obtain⟨rfl,rfl⟩:c2=c1/\m2=m1:=by
    have:=hle.at hid w1;grind
   have hnx:h.nx<=h2.nx:=Zm hx1 hx2;have D:∀(sb:RW) (P:LoopState) (pe:Option Code) (rb:Bool),UP sb P pe->Ev X Q n2 (k (.bl rb) ⟨st.n,st.fr,(s2.setObj id<|.lp f2 r2 u.ps u.asg u.body sb u.fr.n sl2).ob,s2.nx⟩)->
     ∃n',n'<=n/\∃r st',Ev X Q n' (k r st')/\∃F' ρ',PR F' ρ' st'.nx r (V.bool rb)/\Bb B h0 F ρ st.nx h st' fr (h2.put c2<|.loop { u with st:=P,pend:=pe }) F' ρ':=by
    intro sb P pe rb hlr he3;refine⟨n2,a8,_,_,he3,F2,ρ2,Pc _,⟨⟨⟨hr.fp.n,fun t=>(hr.fp.slot t).mono hle⟩,?_⟩,hle,hnx⟩⟩;exact hs3.set O w1 w2 rfl rfl (o':=.lp f2 r2 u.ps u.asg u.body sb u.fr.n sl2) ⟨_,rfl,rfl,rfl,rfl,hlr,rfl,lb4⟩
   cases e2 with
   |normal=>exact⟨[(.bool true,h2.put c2<|.loop { u with st:=.ready,pend:=none })],0,ae,(by simp),fun z hz=>by cases Zh.1 hz;exact D .ready _ _ true ⟨rfl,rfl⟩ A⟩
   |ret=>exact⟨[(.bool false,h2.put c2<|.loop { u with st:=.done,pend:=some .ret })],0,ae,(by simp),fun z hz=>by cases Zh.1 hz;exact D .ret _ _ false ⟨rfl,rfl⟩ A⟩
   |exit i=>exact⟨[(.bool false,h2.put c2<|.loop { u with st:=.done,pend:=some (.exit i) })],0,ae,(by simp),fun z hz=>by cases Zh.1 hz;exact D (.exit i) _ _ false ⟨rfl,rfl⟩ A⟩
  obtain⟨r,M3,j1,j2,j3⟩:=D2 S fin2;refine⟨r,max M2 M3,fun m hm q hq=>?_,j2,j3⟩;have a1:=hM2 m a8 q a8;simp only at a1;have a2:=j1 m a8 q a8;simp only[q2,la1];rw[a1];exact a2
 obtain⟨r,M4,j1,j2,j3⟩:=D2 Z fin;refine⟨r,max M1 M4+1,fun m hm=>?_,j2,j3⟩;obtain⟨m',rfl⟩:∃m',m=m'+1:=⟨m-1,by omega⟩;have a1:=hM1 m' a8 m' a8;simp only at a1;have a2:=j1 m' a8 m' a8;rw[Aj];simp only[IZ];rw[a1];exact a2
end
section
variable {B:Nat}{h0:H0}{X:AG}{F F1 F':Fz}{ρ:BB}{N:Nat}{st st':Ae}{fr:Fr}{h h':H}
theorem No{p:PV}{v:V}(a:PR F ρ N p v):∃w,Ay F ρ N p.cells w/\(HI p=true->v=.agg w)/\(HI p=false->w=[v]):=by
 cases p with
 |agg l=>obtain⟨cs,rfl,b⟩:=a;exact⟨cs,b,fun _=>rfl,fun e=>by cases e⟩
 |_=>exact⟨[v],by simp only[Zn,Ax,Bs,wh];exact a,fun e=>(by cases e),fun _=>rfl⟩
theorem Iy{st:Ae}{s:Sh}{p:PV}{x:s.T}{v:V}{w:List V}(a:Dp st s p=some (true,x))(m:HI p=true->v=.agg w)(k:HI p=false->w=[v])(g:∀f,BM st p.cells=some (true,f)->Gg F f w):PC F (AO s x) v:=by
 unfold Dp at a;cases j:(HI p==s.Gs)with
 |false=>grind
 |true=>
  rw[j]at a;simp only[wb]at a;split at a
  case h_2=>cases a
  rename_i c cs e;split at a
  case h_2=>cases a
  rename_i y i;simp only[Zw,Prod.mk.injEq,Zc]at a;obtain⟨⟨b,rfl⟩,rfl⟩:=a;have d:=Gg.dc (fun ρ N=>IN (g cs e ρ N) b) i;have o:=PC.AO d;cases n:s.Gs with
  |true=>grind
  |false=>grind
theorem handed:∀ {ps:List PV} {vs:List V} {st:Ae} {F:Fz},SR B h0 F ρ st.nx st.ob h->Ay F ρ st.nx ps vs->
  ∃F1,SR B h0 F1 ρ (Ak (ps.flatMap Zn) st).nx (Ak (ps.flatMap Zn) st).ob h/\(∀b cs,F b=some cs->F1 b=some cs)/\∀l i,A0 st l ps=some (true,i)->Gg F1 (Ah l i) vs
 |[],vs,st,F,j,m=>⟨F,j,fun _ _ h=>h,fun l i e=>by
  have g:vs=[]:=by simp_all
  subst g;match l,i,e with
  |[],_,_=>intro ρ' N';rfl
  |[a],_,e=>cases e
  |a::b::l,_,e=>cases e⟩
 |p::ps,vs,st,F,j,m=>by
  obtain⟨v,vs,rfl,o,n⟩:=m;obtain⟨w,c1,c2,c3⟩:=No o;obtain⟨F1,g1,g2,g3⟩:=DQ j c1;have f:Ay F1 ρ (Ak p.cells st).nx ps vs:=by rw[(Bf p.cells st).1];exact n.mono<|Le.Nj g2
  obtain⟨s,r,k,A⟩:=handed g1 f;rw[List.flatMap_cons,DA];refine⟨s,r,ae,fun l i e=>?_⟩;match l,i,e with
  |[],_,e=>cases e
  |[a],i,e=>
   cases ps with
   |cons q u=>cases e
   |nil=>
    have g:vs=[]:=by simp_all
    subst g;have:=(Iy (st:=st) (F:=F1) (by simpa [A0]using e) c2 c3 g3).mono k;intro ρ' N';simp only[Ah,Ax,Bs,wh];exact this ρ' N'
  |a::b::l,i,e=>
   unfold A0 at e;split at e
   case h_2=>cases e
   rename_i c x d y t z;simp only[Zw,Prod.mk.injEq,Zc]at e;obtain⟨⟨rfl,rfl⟩,rfl⟩:=e;exact Gg.cons ((Iy t c2 c3 g3).mono k) (by grind [Fu,FQ])
theorem SR.after{ob:Ob}(a:SR B h0 F ρ N ob h)(j:∀b,b<h.nx->h'.get b=h.get b)(q:h.nx<=h'.nx)(f:∀b o,h'.get b=some o->b<h'.nx)(w:∀b cs,F b=some cs->F' b=some cs)
  (y:∀b cs,F' b=some cs->F b=some cs\/h.nx<=b) (g:∀b cs,F' b=some cs->∃t fz,h'.get b=some (.cells cs t fz)):SR B h0 F' ρ N ob h':=by
 refine⟨fun id o s=>?_,a.inj,g,a.own,a.dead,fun b c r=>?_,f,Zm a.le q,fun b cs c=>?_,a.gl,fun b c=>by obtain⟨i,k,u⟩:=a.pn b c;exact⟨by rw[j b<|a.lt b _ i];exact i,k,u⟩⟩
 ·obtain⟨b,n,x,d,v,m,z,A⟩:=a.obj id o s;have c:=a.lt b x v;refine⟨b,n,x,d,by grind,m.mono<|Le.Nj (ρ:=ρ) w,fun e=>?_,fun e=>?_⟩
  ·cases C:F' b with
   |none=>rfl
   |some cs=>
    grind
  grind
 ·rw[j b<|Nat.lt_of_lt_of_le c a.le];exact a.old b c r
 ·rcases y b cs c with d|d
  ·exact a.fo b cs d
  ·exact .inr<|.inl<|Zm a.le d
theorem SR.gh{ob:Ob}(d:SR B h0 F ρ N ob h):Gh h:=fun x e=>by
 obtain⟨a,b,c⟩:=d.gl x e;rw[d.old _ a b];exact c
structure Jk(C:Ctx)(f:FuncId)(sp:AE):Prop where
 prim:C.prim f=none
 fn:∃i,C.fn f=some i
 run:∀(F:Fz) (h:H) (args:List V) (i:(A5 sp.ins).T),(∀b cs,F b=some cs->∃t fz,h.get b=some (.cells cs t fz))->(∀b o,h.get b=some o->b<h.nx)->Gh h->Gg F (Ah sp.ins i) args->sp.pre i=true->
  ∃l M,(∀m,M<=m->Aj C m (.fn f args) h=some l)/\(sp.nd=false->∃x,l=[x])/\∀x∈l,h.nx<=x.2.nx/\(∀b,b<h.nx->x.2.get b=h.get b)/\(∀b o,x.2.get b=some o->b<x.2.nx)/\
   ∃F':Fz,(∀b cs,F b=some cs->F' b=some cs)/\(∀b cs,F' b=some cs->F b=some cs\/h.nx<=b)/\(∀b cs,F' b=some cs->∃t fz,x.2.get b=some (.cells cs t fz))/\
    PC F' (one (Ah sp.outs (sp.f i))) x.1
structure Tc(C:Ctx)(f:FuncId)(sp:AE):Prop where
 run:∃q,C.prim f=some q/\∀(F:Fz) (h:H) (args:List V) (i:(A5 sp.ins).T),Gg F (Ah sp.ins i) args->sp.pre i=true->∃v,q args h=some (v,h)/\PC F (one (Ah sp.outs (sp.f i))) v
def Aq(C:Ctx)(f:FuncId)(sp:AE):Prop:=Jk C f sp\/Tc C f sp
theorem Aq.UR{C:Ctx}{f:FuncId}{sp:AE}(h:Jk C f sp):Aq C f sp:=.inl h
theorem Aq.zero{C:Ctx}{f:FuncId}{sp:AE}(h:Aq C f sp)(a:C.prim f=none):Jk C f sp:=by
 rcases h with h|⟨q,b,_⟩
 ·exact h
 grind
theorem Aq.go{C:Ctx}{f:FuncId}{sp:AE}(ok:Aq C f sp)(F:Fz)(h:H)(args:List V)(i:(A5 sp.ins).T)(e:∀b cs,F b=some cs->∃t fz,h.get b=some (.cells cs t fz))(c:∀b o,h.get b=some o->b<h.nx)(d:Gh h)(k:Gg F (Ah sp.ins i) args)(j:sp.pre i=true):
  ∃l,(((C.prim f=none/\∃i,C.fn f=some i)/\∃M,∀m,M<=m->Aj C m (.fn f args) h=some l)\/∃q x,C.prim f=some q/\q args h=some x/\l=[x])/\(sp.nd=false->∃x,l=[x])/\∀x∈l,h.nx<=x.2.nx/\(∀b,b<h.nx->x.2.get b=h.get b)/\(∀b o,x.2.get b=some o->b<x.2.nx)/\
   ∃F':Fz,(∀b cs,F b=some cs->F' b=some cs)/\(∀b cs,F' b=some cs->F b=some cs\/h.nx<=b)/\(∀b cs,F' b=some cs->∃t fz,x.2.get b=some (.cells cs t fz))/\
    PC F' (one<|Ah sp.outs<|sp.f i) x.1:=by
 rcases ok with ok|⟨q,u,a⟩
 ·obtain⟨l,M,n,g,r⟩:=ok.run F h args i e c d k j;exact⟨l,.inl ⟨⟨ok.prim,ok.fn⟩,M,n⟩,g,r⟩
 ·obtain⟨v,n,g⟩:=a F h args i k j;refine⟨[(v,h)],ae,(by simp),fun x s=>?_⟩;grind
theorem DC.sc:∀ {s:Sh} {x:s.T} {cs:List V},s.sc=true->DC F s x cs->DC F' s x cs
 | .int _,_,_,_,h=>by simpa only[DC]using h
 | .bool,_,_,_,h=>by simpa only[DC]using h
 | .str,_,_,_,h=>by simpa only[DC]using h
 | .list s,l,_,e,h=>by cases e
 | .pair a b,x,_,e,h=>by
  simp only[Sh.sc,Zc]at e;obtain⟨c,d,rfl,g,f⟩:=h;exact⟨c,d,rfl,g.sc e.1,f.sc e.2⟩
 | .unit,_,_,_,h=>by simpa only[DC]using h
 | .nlist s,l,_,e,h=>by cases e
 | .fnv,_,_,_,h=>by simpa only[DC]using h
 | .ptr _,_,_,e,_=>by cases e
theorem IY:∀ {s:Sh} {x:s.T} {cs:List V},s.sc=true->Ay F ρ N (flat s x) cs->Gg F' (flat s x) cs
 | .int k,x,cs,_,h=>fun ρ' N'=>by
  obtain⟨v,vs,rfl,f,rfl⟩:=h;exact⟨v,[],rfl,by simp only[PR]at f ⊢;exact f.sc rfl,rfl⟩
 | .bool,x,cs,_,h=>fun ρ' N'=>by
  obtain⟨v,vs,rfl,f,rfl⟩:=h;exact⟨v,[],rfl,by simp only[PR]at f ⊢;exact f.sc rfl,rfl⟩
 | .str,x,cs,_,h=>fun ρ' N'=>by
  obtain⟨v,vs,rfl,f,rfl⟩:=h;exact⟨v,[],rfl,by simp only[PR]at f ⊢;exact f.sc rfl,rfl⟩
 | .list s,x,cs,e,h=>by cases e
 | .pair a b,(x,y),cs,e,h=>fun ρ' N'=>by
  simp only[Sh.sc,Zc]at e;have key:∀(ps g:List PV) (l:List V),Ay F ρ N (ps++g) l->∃c d,l=c++d/\Ay F ρ N ps c/\Ay F ρ N g d:=by
   intro ps;induction ps with
   |nil=>intro g l j;exact⟨[],l,rfl,by simp,j⟩
   |cons p ps m=>
    intro g l j;obtain⟨v,vs,rfl,f,i⟩:=j;obtain⟨c,d,rfl,h3,h4⟩:=m g vs i;exact⟨v::c,d,rfl,by simp_all,h4⟩
  obtain⟨c,d,rfl,f,i⟩:=key _ _ _ h;exact(IY e.1 f ρ' N').append<|IY e.2 i ρ' N'
 | .unit,_,cs,_,h=>fun ρ' N'=>by simpa [flat]using h
 | .nlist s,x,cs,e,h=>by cases e
 | .fnv,x,cs,_,h=>fun ρ' N'=>by
  simp only[flat,Ay]at h ⊢;grind [PR,Bs]
 | .ptr _,_,_,e,_=>by cases e
theorem MI{s:Sh}{x:s.T}{v:V}(e:s.sc=true)(h:PC F (AO s x) v):PC F' (AO s x) v:=by
 intro ρ' N';have h:=h ρ' N';cases s with
 |pair a b=>
  obtain⟨cs,rfl,c⟩:=h;exact⟨cs,rfl,IY e c ρ' N'⟩
 |unit=>simp_all [Pe.AO,PR]
 |int k=>unfold Pe.AO PR at h ⊢;exact h.sc rfl
 |bool=>unfold Pe.AO PR at h ⊢;exact h.sc rfl
 |str=>unfold Pe.AO PR at h ⊢;exact h.sc rfl
 |list s=>cases e
 |nlist s=>cases e
 |ptr s=>cases e
 |fnv=>
  unfold Pe.AO at h ⊢;grind [PR,Bs]
theorem MF:∀ {l:List Sh} {x:(A5 l).T} {vs:List V},l.all Sh.sc=true->Gg F (Ah l x) vs->Gg F' (Ah l x) vs
 |[],_,vs,_,h=>fun ρ' N'=>by have:=h ρ' N';simpa [Ah]using this
 |[a],x,vs,e,h=>fun ρ' N'=>by
  have g:=h ρ' N';obtain⟨v,f,rfl,j,rfl⟩:=g;simp only[ZI,List.all_nil,Bool.and_true]at e;simp only[Ah,Ax,Bs,wh];refine MI (F:=F) e (fun c d=>?_) ρ' N';have:=h c d;simp_all [Ah]
 |a::b::l,x,vs,e,h=>by
  have g:=h (fun _=>none) 0;obtain⟨v,f,rfl,_,_⟩:=g;have i:a.sc=true/\(b::l).all Sh.sc=true:=ae
  exact Gg.cons (MI i.1 fun c d=>((Ax ..).1<|h c d).1)<|MF i.2 fun c d=>((Ax ..).1<|h c d).2
theorem KQ{l:List Sh}{x:(A5 l).T}{v:V}:PC F (one<|Ah l x) v↔∃vs,Gg F (Ah l x) vs/\v=(match vs with|[u]=>u|us=>.tup us):=by
 have c:∀ps:List PV,(∀u,ps≠[u])->(PC F (one ps) v↔∃vs,Gg F ps vs/\v=(match vs with|[u]=>u|us=>.tup us)):=by
  intro ps k;have j:one ps=.tup ps:=by
   simp_all [one]
  rw[j];constructor
  ·intro h;have d:=h (fun _=>none) 0;obtain⟨cs,rfl,f⟩:=d;refine⟨cs,fun ρ N=>?_,?_⟩
   ·have m:=h ρ N;grind [PR]
   ·have g:=f.len;split
    ·cases ps with
     |nil=>cases g
     |cons q i=>grind
    ·rfl
  ·rintro⟨vs,d,rfl⟩ ρ N;have g:=(d ρ N).len;split
   ·cases ps with
    |nil=>cases g
    |cons q i=>grind
   ·exact⟨_,rfl,d ρ N⟩
 match l,x with
 |[],x=>exact c [] (by simp)
 |[a],x=>
  simp only[Ah,one];constructor
  ·intro h;exact⟨[v],fun ρ N=>by simp only[Ax,Bs,wh];exact h ρ N,rfl⟩
  ·rintro⟨vs,d,rfl⟩ ρ N;have f:=d ρ N;simp only[Ay]at f;grind
 |a::b::l,x=>
  refine c _<|fun u e=>?_;cases l<;>cases e
theorem Of{nd:Bool}{g:FuncId}{sp:AE}(_hsp:X.sp g=some sp)(w:Aq X.C g sp)(T:nd=false->sp.nd=false){Q:PV->Ob->Prop}{n:Nat}{args:List PV}{k:PV->Ae->Tr}{args':List V}(s:Ev X Q n (OI sp args st k))(a:Rel B h0 F ρ st fr h)(S:Ay F ρ st.nx args args'):
  ∃l,Gc X ρ h args' (.fn g) l/\(nd=false->∃x,l=[x])/\
   ∀x∈l,∃n',n'<=n/\∃r st',Ev X Q n' (k r st')/\∃F' ρ',PR F' ρ' st'.nx r x.1/\Bb B h0 F ρ st.nx h st' fr x.2 F' ρ'/\(∀sp,X.sp g=some sp->∀b,b<h.nx->x.2.get b=h.get b):=by
 unfold OI at s;split at s
 case h_2=>grind [Zr]
 rename_i c i K;rcases s.BV with⟨z,j⟩|⟨_,j⟩
 case inr=>grind [Zr]
 simp only[Zc]at z;obtain⟨rfl,e⟩:=z;obtain⟨F1,g1,g2,g3⟩:=handed a.sr S;obtain⟨l,v,hone,hall⟩:=w.go F1 h args' i g1.frz a.sr.lt a.sr.gh (g3 _ i K) e;have o:Gc X ρ h args' (.fn g) l:=by
  rcases v with⟨u,M,v⟩|⟨q,x,u,E,rfl⟩
  ·exact .Aj ⟨rfl,u⟩ v
  ·exact .prim u E
 refine⟨l,o,ae,fun x O=>?_⟩;obtain⟨m,y,A,F',G,U,I,R⟩:=hall x O;refine⟨n,Zj _,_,_,j,?_⟩;cases J:sp.outs.all Sh.sc with
 |true=>
  have L:PC F (one<|Ah sp.outs<|sp.f i) x.1:=by
   grind [KQ,MF]
  refine⟨F,ρ,L ρ _,⟨⟨a.fp,?_⟩,Le.refl,m⟩,ae⟩;refine a.sr.after y m A (by simp) ae<|fun b cs W=>?_;grind
 |false=>
  simp only[wc];obtain⟨Y,P,D⟩:=Bf (args.flatMap Zn) st;have d:Le F ρ st.nx F' ρ (Ak (args.flatMap Zn) st).nx:=by
   grind [Le.Nj]
  refine⟨F',ρ,R ρ _,⟨⟨⟨D.trans a.fp.n,fun t=>?_⟩,?_⟩,d,m⟩,ae⟩
  ·have:(Ak (args.flatMap Zn) st).get t=st.get t:=by unfold Ae.get;rw[P]
   rw[this];exact(a.fp.slot t).mono d
  ·exact g1.after y m A G U I
structure BY(C:Ctx)(f:FuncId)(w:E4):Prop where
 prim:C.prim f=none
 fn:∃i,C.fn f=some i
 len:∀i l,w.pre i l=true->(w.g i l).length=l.length
 run:∀(F:Fz) (h:H) (args:List V) (i:(A5 w.ins).T) (l:List w.el.T) (b:Nat) (cs:List V) (fz:Nat×Nat) (o:Nat),(∀b cs,F b=some cs->∃t fz,h.get b=some (.cells cs t fz))->(∀b o,h.get b=some o->b<h.nx)->Gh h->Gg F (Ah w.ins i) args->w.pre i l=true->
  h.get b=some (.cells cs w.ty fz)->Bk F w.el l cs->fz.2<=fz.1->F b=none->(o=0\/o=w.el.sz)->
  ∃x M,(∀m,M<=m->Aj C m (.fn f (wj w.fst args (.sl b 0 l.length l.length o))) h=some [x])/\x.1=.tup []/\h.nx<=x.2.nx/\(∀c,c<h.nx->c≠b->x.2.get c=h.get c)/\(∀c y,x.2.get c=some y->c<x.2.nx)/\
   ∃F':Fz,(∀b cs,F b=some cs->F' b=some cs)/\(∀b cs,F' b=some cs->F b=some cs\/h.nx<=b)/\(∀b cs,F' b=some cs->∃t fz,x.2.get b=some (.cells cs t fz))/\
    ∃cs' fz',x.2.get b=some (.cells cs' w.ty fz')/\Bk F' w.el (w.g i l) cs'/\fz'.2<=fz'.1
 nils:∀(F:Fz) (h:H) (args:List V) (i:(A5 w.ins).T),(∀b cs,F b=some cs->∃t fz,h.get b=some (.cells cs t fz))->(∀b o,h.get b=some o->b<h.nx)->Gh h->Gg F (Ah w.ins i) args->w.pre i []=true->
  ∃x M,(∀m,M<=m->Aj C m (.fn f (wj w.fst args .nils)) h=some [x])/\x.1=.tup []/\h.nx<=x.2.nx/\(∀c,c<h.nx->x.2.get c=h.get c)/\(∀c y,x.2.get c=some y->c<x.2.nx)/\
   ∃F':Fz,(∀b cs,F b=some cs->F' b=some cs)/\(∀b cs,F' b=some cs->F b=some cs\/h.nx<=b)/\(∀b cs,F' b=some cs->∃t fz,x.2.get b=some (.cells cs t fz))
theorem Ay.split:∀ {a b:List PV} {vs:List V},Ay F ρ N (a++b) vs->∃x y,vs=x++y/\Ay F ρ N a x/\Ay F ρ N b y
 |[],b,vs,h=>⟨[],vs,rfl,by simp,h⟩
 |p::a,b,vs,h=>by
  obtain⟨v,vs,rfl,d,c⟩:=h;obtain⟨x,y,rfl,h3,h4⟩:=c.split;exact⟨v::x,y,rfl,by simp_all,h4⟩
theorem SR.wrote{ob:Ob}(a:SR B h0 F ρ N ob h){id b n:Nat}{o o':Obj}{x':O}(K:Af ob id=some o)(D:ρ id=some (b,n))(G:b<h.nx)(R:F b=none)(I:o'.frozen=false)(M:h'.get b=some x')(W:K9 F' ρ N n o' x')
  (E:∀c,c<h.nx->c≠b->h'.get c=h.get c) (U:h.nx<=h'.nx) (w:∀b o,h'.get b=some o->b<h'.nx) (Z:∀b cs,F b=some cs->F' b=some cs)
  (S:∀b cs,F' b=some cs->F b=some cs\/h.nx<=b) (z:∀b cs,F' b=some cs->∃t fz,h'.get b=some (.cells cs t fz)):SR B h0 F' ρ N (Bz ob id o') h':=by
 have r:∀j,Af (Bz ob id o') j=if j=id then some o' else Af ob j:=(by grind [CS])
 have A:∀c,c<h.nx->F c=none->F' c=none:=fun c f hn=>by
  cases g:F' c with
  |none=>rfl
  |some cs=>
   grind
 refine⟨fun j oj d=>?_,fun i j oi oj c m Y L d g x=>?_,z,a.own,fun j d=>?_,fun c f C=>?_,w,Zm a.le U,fun c cs f=>?_,a.gl,fun c f=>?_⟩
 ·rw[r]at d;by_cases e:j=id
  ·grind
  ·rw[w9 e]at d;obtain⟨c,m,y,g,x,T,h4,h5⟩:=a.obj j oj d;have s:c≠b:=fun V=>e<|a.inj j id oj o c m n d K g<|V▸D
   have f:=a.lt c y x;refine⟨c,m,y,g,by grind,T.mono<|Le.Nj (ρ:=ρ) Z,ae,fun e=>?_⟩;grind
 ·have q:∀k ok,Af (Bz ob id o') k=some ok->∃J,Af ob k=some J:=by
   grind
  obtain⟨_,u⟩:=q i oi L;obtain⟨_,v⟩:=q j oj d;exact a.inj i j _ _ c m Y u v g x
 ·rw[r]at d;by_cases e:j=id
  ·grind
  ·rw[w9 e]at d;exact a.dead j d
 ·rw[E c (Nat.lt_of_lt_of_le f a.le)<|Gt (a.own id b n D).2 f C];exact a.old c f C
 ·rcases S c cs f with g|g
  ·exact a.fo c cs g
  ·exact .inr<|.inl<|Zm a.le g
 ·obtain⟨u,v,P⟩:=a.pn c f;have s:c≠b:=ae;exact⟨by rw[E c (a.lt c _ u) s];exact u,v,P⟩
theorem OM{α:Type}{b:Bool}{a:List α}{x:α}{r:List α}(h:UG b a=some (x,r)):a=wj b r x:=by
 unfold UG at h;unfold wj;cases b with
 |true=>cases a with
  |nil=>cases h
  |cons y l=>cases h;rfl
 |false=>
  have h:(match a.reverse with|[]=>none|x::r=>some (x,r.reverse))=some (x,r):=h;cases e:a.reverse with
  |nil=>rw[e]at h;cases h
  |cons y l=>
   rw[e]at h;cases h;have:=we List.reverse e;simpa using this
theorem Ay.wj{b:Bool}{r:List PV}{x:PV}{vs:List V}(h:Ay F ρ N (wj b r x) vs):∃a v,vs=Go.Pe.wj b a v/\Ay F ρ N r a/\PR F ρ N x v:=by
 cases b with
 |true=>
  have h:Ay F ρ N (x::r) vs:=h;simp only[Ay]at h;obtain⟨v,a,rfl,c,d⟩:=h;exact⟨a,v,rfl,d,c⟩
 |false=>
  have h:Ay F ρ N (r++[x]) vs:=h;obtain⟨a,y,rfl,c,d⟩:=h.split;obtain⟨v,_,rfl,hv,rfl⟩:=d;exact⟨a,v,rfl,c,hv⟩
theorem K2{nd:Bool}{g:FuncId}{w:E4}(hno:X.sp g=none)(a:BY X.C g w){Q:PV->Ob->Prop}{n:Nat}{args:List PV}{k:PV->Ae->Tr}{args':List V}(z:Ev X Q n (Lr w args st k))(q:Rel B h0 F ρ st fr h)(J:Ay F ρ st.nx args args'):
  ∃l,Gc X ρ h args' (.fn g) l/\(nd=false->∃x,l=[x])/\
   ∀x∈l,∃n',n'<=n/\∃r st',Ev X Q n' (k r st')/\∃F' ρ',PR F' ρ' st'.nx r x.1/\Bb B h0 F ρ st.nx h st' fr x.2 F' ρ'/\(∀sp,X.sp g=some sp->∀b,b<h.nx->x.2.get b=h.get b):=by
 unfold Lr at z;split at z
 ·rename_i id sz nn r f;rw[OM f]at J;obtain⟨a1,v,rfl,D,P⟩:=J.wj;obtain⟨F1,g1,g2,g3⟩:=handed q.sr D;split at z
  case h_2=>grind [Zr]
  rename_i c i t s l O Z;cases u:Zp t w.ty with
  |false=>grind [Zr]
  |true=>
  rw[u]at z;have u:=Zu u;split at z
  case h_2=>grind [Zr]
  rename_i l' Y;obtain⟨e,rfl⟩:=AU Y;cases e;rcases z.BV with⟨G,j⟩|⟨_,j⟩
  case inr=>grind [Zr]
  simp only[Zc,w5]at G;obtain⟨⟨⟨rfl,d⟩,hn⟩,A⟩:=G;have A:=Zu A;subst hn A u;obtain⟨e1,e2,e3⟩:=Bf (r.flatMap Zn) st;obtain⟨b,m,x,h1,h2,⟨cs,fz,rfl,k1,k2,k3⟩,h4,_⟩:=g1.obj id _ Z;simp only[PR]at P;obtain⟨o,ho',rfl⟩:∃o,(o=0\/o=w.el.sz)/\v=.sl b (0*w.el.sz) (Zo l) (Zo l) o:=by
   grind
  rw[Nat.zero_mul];obtain⟨x,M,R,q1,I,S,U,F',L,T,W,cs',fz',f4,f5,f6⟩:=a.run F1 h a1 i l b cs fz o g1.frz q.sr.lt q.sr.gh (g3 _ i O) d h2 k1 k2 (h4 rfl) ho';refine⟨[x],.Aj ⟨rfl,a.prim,a.fn⟩ R,(by simp),fun y K=>?_⟩;cases Zh.1 K;refine⟨n,Zj _,_,_,j,F',ρ,?_,⟨⟨⟨e3.trans q.fp.n,fun t=>?_⟩,?_⟩,?_,I⟩,ae⟩
  ·rw[q1];simp[PR]
  ·have:((Ak (r.flatMap Zn) st).setObj id<|.arr false w.ty w.el<|w.g i l).get t=st.get t:=by
    show((Ak (r.flatMap Zn) st).fr.get t).getD .any=_;rw[e2];rfl
   rw[this];refine(q.fp.slot t).mono ?_;show Le F ρ st.nx F' ρ (Ak (r.flatMap Zn) st).nx;grind [Le.Nj]
  ·exact g1.wrote Z h1 (q.sr.lt _ _ h2) (h4 rfl) rfl f4 ⟨cs',fz',rfl,f5,f6,by rw[<-k3];exact a.len i l d⟩ S I U L T W
  ·show Le F ρ st.nx F' ρ (Ak (r.flatMap Zn) st).nx;grind [Le.Nj]
 ·rename_i r f;rw[OM f]at J;obtain⟨a1,v,rfl,D,P⟩:=J.wj;subst P;obtain⟨F1,g1,g2,g3⟩:=handed q.sr D;split at z
  case h_2=>grind [Zr]
  rename_i c i O;rcases z.BV with⟨G,j⟩|⟨_,j⟩
  case inr=>grind [Zr]
  simp only[Zc]at G;obtain⟨rfl,d⟩:=G;obtain⟨e1,e2,e3⟩:=Bf (r.flatMap Zn) st;obtain⟨x,M,R,q1,I,S,U,F',L,T,W⟩:=a.nils F1 h a1 i g1.frz q.sr.lt q.sr.gh (g3 _ i O) d;have E:Le F ρ st.nx F' ρ (Ak (r.flatMap Zn) st).nx:=by
   grind [Le.Nj]
  refine⟨[x],.Aj ⟨rfl,a.prim,a.fn⟩ R,(by simp),fun y K=>?_⟩;cases Zh.1 K;refine⟨n,Zj _,_,_,j,F',ρ,?_,⟨⟨⟨e3.trans q.fp.n,fun t=>?_⟩,?_⟩,E,I⟩,ae⟩
  ·rw[q1];simp[PR]
  ·have:(Ak (r.flatMap Zn) st).get t=st.get t:=by unfold Ae.get;rw[e2]
   rw[this];exact(q.fp.slot t).mono E
  ·exact g1.after S I U L T W
 grind [Zr]
theorem CO(j:X.C.mg=false)(f:∀g sp,X.sp g=some sp->Aq X.C g sp)(m:∀g w,X.ws g=some w->BY X.C g w):∀(d:Nat) (nd:Bool) (h0:H0),B8 B h0 X nd<|AP X nd d
 |0,nd,h0=>by intro a;exact wd a Zr
 |d+1,nd,h0=>by
  rename_i Q n T args st k;intro a F ρ fr h args' s t;unfold AP at a;cases T with
  |rnd id=>
   obtain⟨c,U,l,M,R,W,h4⟩:=Fj (CO j f m d nd) (CO j f m d false) a s t;refine⟨l,.Aj U R,W,fun x E=>?_⟩;grind
  |fn g=>
  simp only at a;have conv:(∃l,Gc X ρ h args' (.fn g) l/\(nd=false->∃x,l=[x])/\
   ∀x∈l,∃n',n'<=n/\∃r st',Ev X Q n' (k r st')/\∃F' ρ',PR F' ρ' st'.nx r x.1/\Bb B h0 F ρ st.nx h st' fr x.2 F' ρ'/\(∀sp,X.sp g=some sp->∀b,b<h.nx->x.2.get b=h.get b))->
   ∃l,Gc X ρ h args' (.fn g) l/\(nd=false->∃x,l=[x])/\
   ∀x∈l,∃n',n'<=n/\∃r st',Ev X Q n' (k r st')/\∃F' ρ',PR F' ρ' st'.nx r x.1/\Bb B h0 F ρ st.nx h st' fr x.2 F' ρ'/\(∀K,SK.fn g=.fn K->∀sp,X.sp K=some sp->∀b,b<h.nx->x.2.get b=h.get b):=by
   simp
  obtain⟨o,q⟩:∃o,X.sp g=o:=⟨_,rfl⟩;cases o with
  |some sp=>
   rw[q]at a;simp only at a;cases A:(nd|| !sp.nd)with
   |false=>grind [Zr]
   |true=>
    rw[A]at a;exact conv (Of (nd:=nd) q (f g sp q) ae a s t)
  |none=>
   rw[q]at a;obtain⟨Y,v⟩:∃o,X.ws g=o:=⟨_,rfl⟩;cases Y with
   |some w=>rw[v]at a;exact conv (K2 q (m g w v) a s t)
   |none=>
   rw[v]at a;simp only at a;cases i:X.esc.any (Zp g)with
   |true=>
    rw[i]at a;unfold Tx at a;split at a
    case h_2=>grind [Zr]
    rename_i id off;cases u:Ds (st.obj id)with
    |false=>grind [Zr]
    |true=>
     rw[u]at a;obtain⟨Z,D,A⟩:=List.any_eq_true.1 i;have e:=Zu A;subst e;have J:=X.escOk g D;obtain⟨o,ho⟩:=LG u;obtain⟨b,n',z,q1,_⟩:=s.sr.at ho;obtain⟨x,_,rfl,E,rfl⟩:=t;have I:=E;obtain rfl:=I.2 b n' q1;exact conv ⟨[(.ptr b off,h)],.prim J rfl,(by simp),fun y O=>by
      cases Zh.1 O;exact⟨n,Zj _,_,st,a,F,ρ,E,Bb.refl s,(by simp)⟩⟩
   |false=>
   rw[i]at a;split at a
   case h_2=>grind [Zr]
   rename_i J G;obtain⟨S,l,M,L,V,P⟩:=El (CO j f m d nd) (CO j f m d false) j G J q a s t;exact conv ⟨l,.Aj ⟨rfl,S⟩ L,V,P⟩
theorem Hn{st:Ae}:∀ {l:List Sh} {ps:List PV} {r:Bool×(A5 l).T},A0 st l ps=some r->l.length=ps.length
 |[],[],_,_=>rfl
 |[],_::_,_,h=>by cases h
 |[a],[p],_,_=>rfl
 |[a],[],_,h=>by cases h
 |[a],_::_::_,_,h=>by cases h
 |a::b::l,[],_,h=>by cases h
 |a::b::l,p::ps,_,h=>by
  unfold A0 at h;split at h
  case h_2=>cases h
  rename_i d c;have:=Hn c;grind
def D9(outs:List Sh)(v:PV):List PV:=match outs with
 |[_]=>[v]
 |_=>match v with
  | .tup vs=>vs
  |_=>[v]
def FV(outs:List Sh)(v:PV)(ob:Ob):Option (Bool×(A5 outs).T):=A0 ⟨0,.leaf,ob,0⟩ outs<|D9 outs v
def Ends(X:AG)(t:Tr)(Q:PV->Ob->Prop):Prop:=∃n,Ev X Q n t
def AV(sp:AE)(i:(A5 sp.ins).T)(v:PV)(ob:Ob):Prop:=∃y,FV sp.outs v ob=some (true,y)/\y=sp.f i
theorem LO{v:PV}(h:O1 v=true)(st st':Ae):AY st v=AY st' v:=by
 cases v<;>first|rfl|cases h
theorem Dx(st st':Ae):∀ {l:List PV},l.all O1=true->BM st l=BM st' l
 |[],_=>rfl
 |v::l,h=>by
  rw[ZI,Zc]at h;unfold BM;rw[LO h.1 st st',Dx st st' h.2]
theorem Cx(st st':Ae):∀ {l:List Sh} {ps:List PV},ps.all IG=true->A0 st l ps=A0 st' l ps
 |[],[],_=>rfl
 |[],_::_,_=>rfl
 |[_],[],_=>rfl
 |_::_::_,[],_=>rfl
 |[a],[p],h=>by
  grind [Dp,Dx,A0,IG]
 |[_],_::_::_,_=>rfl
 |a::b::l,p::ps,h=>by
  rw[ZI,Zc]at h;unfold A0 Dp;rw[Dx st st' h.1,Cx st st' h.2]
theorem Sl{outs:List Sh}{v:PV}{ob:Ob}:FV outs v (Tm v ob)=FV outs v ob:=by
 unfold Tm;cases b:RZ v with
 |false=>rfl
 |true=>
  unfold FV D9;by_cases d:∃a,v=.tup a
  ·obtain⟨a,rfl⟩:=d;split
   ·rfl
   ·exact Cx _ _ b
  ·have e:IG v=true:=by
    cases v with
    |tup a=>grind
    |_=>exact b
   have c:[v].all IG=true:=ae
   split
   ·exact Cx _ _ c
   ·split
    ·grind
    grind [Cx]
theorem Ny(S:X.C.mg=false)(j:∀g sp,X.sp g=some sp->Aq X.C g sp)(hws:∀g w,X.ws g=some w->BY X.C g w){f:FuncId}{sp:AE}{d:Nat}(T:X.C.spec f=none)(c:X.C.prim f=none)(P:X.sp f=none)
  (R:∀i,sp.pre i=true->Ends X (tree X sp.nd d f<|Ah sp.ins i) (AV sp i)) (K:∃i,X.C.fn f=some i):Aq X.C f sp:=by
 refine .UR ⟨c,K,fun F h args i D s u m E=>?_⟩;obtain⟨n,Z⟩:=R i E;have hr:Rel h.nx ⟨h,F,[],fun _=>False⟩ F (fun _=>none) (Ba 0 [] [] 0) ⟨0,.leaf⟩ h:=by
  refine⟨⟨rfl,fun t=>?_⟩,⟨fun id o V=>(by cases V),(by simp),D,(by simp),fun _ _=>rfl,(by simp),s,Zj _,ae,fun x J=>⟨s _ _<|u x J,fun e=>e,u x J⟩,(by simp)⟩⟩;show PR _ _ _ (((BW []).get t).getD .any) _;grind [BW,PM.BD,PR]
 obtain⟨_,l,M,hM,G,j⟩:=El (by grind [CO]) (by grind [CO]) S T c P Z hr<|m _ _;refine⟨l,M,hM,G,fun x J=>?_⟩;obtain⟨n',hn,r,st',he',F',ρ',hp,hw,_⟩:=j x J;have hq:=he'.MX;obtain⟨y,hy,rfl⟩:=hq;rw[Sl]at hy;have A:∀b,b<h.nx->x.2.get b=h.get b:=fun b v=>hw.rel.sr.old b v<|fun e=>e
 refine⟨hw.nx,A,hw.rel.sr.lt,?_⟩;have L:∃vs,Ay F' ρ' st'.nx (D9 sp.outs r) vs/\((∃a,sp.outs=[a])->vs=[x.1])/\((∀a,sp.outs≠[a])->(∃I,r=.tup I)->x.1=.tup vs):=by
  unfold D9;split
  ·simp_all
  ·split
   ·grind [PR]
   ·exact⟨[x.1],by simp_all,fun _=>rfl,ae⟩
 obtain⟨vs,k,W,Y⟩:=L;obtain⟨F1,g1,g2,g3⟩:=handed (st:=st') hw.rel.sr k;have U:∀id,Bw (Ae.obj ⟨0,.leaf,st'.ob,0⟩ id) (st'.obj id):=fun id=>Bw.refl _
 have q:=g3 sp.outs _ (by rw[Fu U];exact hy);refine⟨F1,fun b cs v=>g2 b cs<|hw.le.fz b cs v,fun b cs v=>(g1.fo b cs v).imp_right<|fun h=>h.resolve_right<|fun e=>e,g1.frz,KQ.2 ⟨vs,q,?_⟩⟩;have z:sp.outs.length=(D9 sp.outs r).length:=Hn hy;have hl2:=k.len;by_cases V:∃a,sp.outs=[a]
 ·grind
 ·have O:sp.outs.length≠1:=(by grind [List.length_eq_one_iff]);have ht:∃I,r=.tup I:=by
   cases r with
   |tup I=>simp
   |_=>
    exfalso;apply O;rw[z];unfold D9;split<;>rfl
  grind
end
section
variable {X:AG}{Q Q':PV->Ob->Prop}
theorem Ends.leaf{v:PV}{ob:Ob}(h:Q v ob):Ends X (.leaf v ob) Q:=⟨0,.leaf h⟩
theorem Ends.ite{c:Bool}{a b:Tr}(d:c=true->Ends X a Q)(e:c=false->Ends X b Q):Ends X (.ite c a b) Q:=by
 cases c with
 |true=>obtain⟨n,h⟩:=d rfl;exact⟨n,.ite (fun _=>h)<|by simp⟩
 |false=>obtain⟨n,h⟩:=e rfl;exact⟨n,.ite (by simp)<|fun _=>h⟩
theorem Ends.tt{c:Bool}{a b:Tr}(d:c=true)(h:Ends X a Q):Ends X (.ite c a b) Q:=(by grind [Ends.ite])
theorem Ends.ff{c:Bool}{a b:Tr}(d:c=false)(h:Ends X b Q):Ends X (.ite c a b) Q:=(by grind [Ends.ite])
def stepT(X:AG):Tr->Tr
 | .loop nd ro d f base b st k=>body X nd ro d f base b st k
 | .cut nd ro d f base b st k=>TC X nd ro d f base b st k
 |t=>t
theorem Ends.step{t:Tr}(h:Ends X (stepT X t) Q):Ends X t Q:=by
 cases t with
 |loop=>obtain⟨n,h⟩:=h;exact⟨n+1,.loop h⟩
 |cut=>obtain⟨n,h⟩:=h;exact⟨n,.cut h⟩
 |_=>exact h
theorem Ends.eq{t a:Tr}(e:t=a)(h:Ends X a Q):Ends X t Q:=e▸h
theorem Ends.A4{t a:Tr}(e:stepT X t=a)(h:Ends X a Q):Ends X t Q:=Ends.step<|e▸h
def Tr.L:Tr->Tr
 | .ite _ a _=>a
 | .both a _=>a
 |t=>t
def Tr.R:Tr->Tr
 | .ite _ _ b=>b
 | .both _ b=>b
 |t=>t
def re:Tr->Ae->Tr
 | .loop nd ro d f base b _ k,st=>.loop nd ro d f base b st k
 | .cut nd ro d f base b _ k,st=>.cut nd ro d f base b st k
 |t,_=>t
def EF(r:Nat):Code->Option (Array Tmp×Code×Code)
 | .rangeFunc _ ps a b=>bif Zp (Au b) r then some (ps,a,b)else EF r b
 | .seq a b=>match EF r a with
  |some x=>some x
  |none=>EF r b
 | .cond _ a b=>match EF r a with
  |some x=>some x
  |none=>EF r b
 | .block _ b| .loop b| .scope b=>EF r b
 |_=>none
def Sx(C:Ctx)(f:FuncId)(r:Nat):Array Tmp×Code×Code:=match C.fn f with
 |some i=>(EF r i.body).getD (#[],.skip,.skip)
 |none=>(#[],.skip,.skip)
def ON(C:Ctx)(f:FuncId)(r:Nat):Array Tmp:=(Sx C f r).1
def KO(C:Ctx)(f:FuncId)(r:Nat):Code:=(Sx C f r).2.1
def G7(C:Ctx)(f:FuncId)(r:Nat):Code:=(Sx C f r).2.2
def Lb:List (FuncId×AE)->FuncId->Option AE
 |[],_=>none
 |(g,s)::l,f=>bif Zp g f then some s else Lb l f
def Qx:List (FuncId×E4)->FuncId->Option E4
 |[],_=>none
 |(g,s)::l,f=>bif Zp g f then some s else Qx l f
theorem MJ{C:Ctx}:∀ {l:List (FuncId×E4)},(∀x∈l,BY C x.1 x.2)->∀g sp,Qx l g=some sp->BY C g sp
 |[],_,g,sp,h=>by cases h
 |(b,s)::l,c,g,sp,h=>by
  unfold Qx at h;cases a:Zp b g with
  |true=>
   simp_all
  |false=>rw[a]at h;exact MJ ae g sp h
def TL:List (FuncId×List Nat)->FuncId->Nat->Bool
 |[],_,_=>false
 |(g,t)::l,f,r=>bif Zp g f then t.any (Zp r)else TL l f r
def Ui:List (FuncId×List (Nat×List (Nat×Sh)))->FuncId->Nat->List (Nat×Sh)
 |[],_,_=>[]
 |(g,t)::l,f,r=>bif Zp g f then fz1 t r else Ui l f r
 where fz1:List (Nat×List (Nat×Sh))->Nat->List (Nat×Sh)
 |[],_=>[]
 |(i,s)::l,r=>bif Zp i r then s else fz1 l r
def SQ:List (FuncId×List (Nat×List Nat))->FuncId->Nat->List Nat
 |[],_,_=>[]
 |(g,t)::l,f,r=>bif Zp g f then pl1 t r else SQ l f r
 where pl1:List (Nat×List Nat)->Nat->List Nat
 |[],_=>[]
 |(i,s)::l,r=>bif Zp i r then s else pl1 l r
end
section
open Go.Proofs.Tryz (prog)
def HK(C:Ctx)(q:Oh):Ctx:=⟨C.T,C.ng,C.fn,C.prim,q,false⟩
theorem J1{C:Ctx}{P:Program}(a:C.Ok P){q:Oh}(h:HR P q):(HK C q).Ok P where
 T:=a.T
 fn:=a.fn
 prim:=a.prim
 spec:=h
theorem GN{C:Ctx}(a:CZ C)(q:Oh):CZ (HK C q):=a
def Dj:Ctx:=HK C7<|Us Qm<|ED A7
theorem SL:Dj.Ok prog:=J1 Oj<|SX OT U5
theorem Og:CZ Dj:=GN G1 _
def Uk:List (FuncId×List (Nat×List Nat)):=
 [(6,[(19,[1,11,12]),(16,[1,10,11,12,43,44,45]),(11,[1,10,11,12,43,44,45]),(10,[1,10,11,12,43,44,45]),(7,[0,1]),(5,[0,1])]),
 (7,[(6,[5,6,7]),(3,[5,6,7]),(2,[5,6,7])]),
 (8,[(5,[0,3]),(6,[0,3]),(4,[0,3]),(3,[0])]),
 (10,[(19,[1,7,8]),(4,[0,1,7,8,9]),(8,[0,1,7,8,9,10,11,12]),(11,[0,1,7,8,9,10,11,12]),(9,[0,1,7,8,9,10,11,12]),(7,[0,1,7,8,9,10,11,12]),(5,[0,1,7,8,9]),(3,[0,1,7,8,9])]),
 (11,[(5,[0,1,5]),(6,[0,1,5]),(4,[0,1,5]),(3,[0,1])]),
 (28,[(6,[5,6,7]),(3,[5,6,7]),(2,[5,6,7])]),
 (31,[(4,[3,8,9]),(3,[3,8,9])]),
 (63,[(6,[0,1,7,8]),(3,[0,1,7,8]),(2,[0,1,7,8])]),
 (66,[(4,[0,5,6,7]),(2,[0,5,6,7]),(1,[0,5,6,7])]),
 (91,[(3,[2])])]
def Ss:List FuncId:=[]
theorem MO:∀g∈Ss,Dj.prim g=some PK.noEsc.run:=fun g h=>by cases h
def X7(l:List (FuncId×AE)):AG:=⟨Dj,Lb l,SQ Uk,fun _ _=>false,fun _ _=>[],fun _=>none,Ss,MO⟩
def U1(cs:List (FuncId×List Nat))(fz:List (FuncId×List (Nat×List (Nat×Sh))))(t:List (FuncId×List (Nat×List Nat)))(l:List (FuncId×AE)):AG:=⟨Dj,Lb l,SQ<|t++Uk,TL cs,Ui fz,fun _=>none,Ss,MO⟩
def AG.wr(X:AG)(l:List (FuncId×E4)):AG:={ X with ws:=Qx l }
end
end Go.Pe
namespace Go.Sp
def first:List Int->Int
 |[]=>0
 |x::l=>if x≠0 then x else first l
def FY(c:Bool)(e:Int):Int:=bif c then e else 0
end Go.Sp
namespace Go.Pe
open Go.Det
abbrev i64:Sh:=.int .i64
abbrev Dw:Sh:=.list<|.int .i64
def Jt:AE:=⟨[Dw],fun l=>decide (l.length<=1000000),[i64],fun l=>Sp.first l,false⟩
def OG:AE:=⟨[.bool,i64],fun _=>true,[i64],fun i=>Sp.FY i.1 i.2,false⟩
def Cf:AG:=X7 []
section
variable {X:AG}{Q:PV->Ob->Prop}
@[simp] theorem Ts:Ends X .fail Q↔False:=⟨fun⟨_,h⟩=>Zr h,fun h=>h.elim⟩
@[simp] theorem Tl{v:PV}{ob:Ob}:Ends X (.leaf v ob) Q↔Q v ob:=⟨fun⟨_,h⟩=>h.MX,fun h=>.leaf h⟩
@[simp] theorem TG{c:Bool}{a b:Tr}:Ends X (.ite c a b) Q↔if c=true then Ends X a Q else Ends X b Q:=by
 constructor
 ·rintro⟨n,h⟩;rcases h.BV with⟨d,h⟩|⟨d,h⟩
  ·rw[wa d];exact⟨n,h⟩
  ·rw[w9<|by simp[d]];exact⟨n,h⟩
 ·intro h;refine .ite (fun d=>?_)<|fun d=>?_
  ·rwa [wa d]at h
  ·rwa [w9<|by simp[d]]at h
theorem AV.of{sp:AE}{i:(A5 sp.ins).T}{v:PV}{ob:Ob}{c:Bool}{y:(A5 sp.outs).T}(h:FV sp.outs v ob=some (c,y))(b:c=true)(a:y=sp.f i):AV sp i v ob:=⟨y,by rw[h,b],a⟩
@[simp] theorem SA(s:Sh)(x:List s.T):Fc (Sh.leaves<|.list s) [.dat (.list s) x]=(true,[.dat (.list s) x]):=rfl
theorem wr(x:Int)(b: -9223372036854775808<=x)(a:x<=9223372036854775807):Za .i64 x=x:=IntWalk.i64_in x ⟨b,a⟩
theorem drop_cons{α:Type}{l r:List α}{x d:α}{i:Nat}(h:l.drop i=x::r):i<l.length/\l.getD i d=x/\l.drop (i+1)=r:=by
 have a:i<l.length:=by
  rcases Nat.lt_or_ge i l.length with c|c
  ·exact c
  ·rw[ZF c]at h;cases h
 have b:=Zv a;rw[h]at b;simp only[List.cons.injEq]at b;exact⟨a,by simp[a,b.1],b.2.symm⟩
end
theorem Da:∀g sp,Cf.sp g=some sp->Aq Dj g sp:=fun g sp h=>by cases h
abbrev Un(X:AG):Prop:=∀g sp,X.sp g=some sp->Aq Dj g sp
theorem R8{X:AG}(o:X.C=Dj)(b:∀g sp,X.sp g=some sp->Aq Dj g sp){f:FuncId}{sp:AE}{d:Nat}(n:Dj.spec f=none)(a:Dj.prim f=none)(k:X.sp f=none)
  (m:∀i,sp.pre i=true->Ends X (tree X sp.nd d f<|Ah sp.ins i) (AV sp i)) (c:∃i,Dj.fn f=some i) (j:∀g w,X.ws g=some w->BY Dj g w:=by intro _ _ h;cases h):Aq Dj f sp:=by
 have e:X.C.mg=false:=by rw[o];rfl
 rw[<-o]at*;exact Ny e b j n a k m c
theorem D4{α:Type}{o:Option α}(h:o.isSome=true):∃i,o=some i:=Option.isSome_iff_exists.1 h
theorem Pg{X:AG}(b:Un X){f:FuncId}{sp:AE}(j:∀i,sp.pre i=true->Ends X (tree X sp.nd 9 f<|Ah sp.ins i) (AV sp i))(m:X.C=Dj:=by rfl)(k:Dj.spec f=none:=by kernel_rfl)(a:Dj.prim f=none:=by kernel_rfl)(e:X.sp f=none:=by kernel_rfl)(c:(Dj.fn f).isSome=true:=by kernel_rfl)(d:∀g w,X.ws g=some w->BY Dj g w:=by intro _ _ h;cases h):Aq Dj f sp:=R8 m b k a e j (D4 c) d
theorem drop_nil{α:Type}{l:List α}{i:Nat}(h:l.drop i=[])(a:i<=l.length):i=l.length:=by
 have:=we Zo h;simp at this;omega
theorem Lm{C:Ctx}:∀g sp,Lb [] g=some sp->Aq C g sp:=fun g sp h=>by cases h
theorem Be{C:Ctx}{a:FuncId}{c:AE}{l:List (FuncId×AE)}(h0:Aq C a c)(d:∀g sp,Lb l g=some sp->Aq C g sp):∀g sp,Lb ((a,c)::l) g=some sp->Aq C g sp:=by
 intro g sp h;unfold Lb at h;cases b:Zp a g with
 |true=>rw[b]at h;cases h;have:=Zu b;subst this;exact h0
 |false=>rw[b]at h;exact d g sp h
def K4:AE:=⟨[],fun _=>true,[.bool],fun _=>true,false⟩
theorem PU:Aq Dj 5 K4:=by
 refine .UR ⟨by kernel_rfl,D4 ac,fun F h args i d b c a _=>?_⟩;have j:args=[]:=by
  have:=a (fun _=>none) 0;simpa [Ah,K4]using this
 subst j;refine⟨[(.bool true,h)],1,fun m k=>?_,fun _=>⟨_,rfl⟩,fun x f=>?_⟩
 ·obtain⟨e,rfl⟩:∃e,m=e+1:=⟨m-1,by omega⟩;have g:Dj.spec 5=some fun args h=>bif QT h CG then(match DW A7 5 args with|some v=>some (v,h)|none=>none)else none:=rfl
  rw[Aj];simp only[g,Sw c,wb];rfl
 ·cases Zh.1 f;exact⟨Zj _,fun _ _=>rfl,b,F,fun _ _ h=>h,fun _ _ h=>.inl h,d,fun ρ N=>Br _⟩
def Kj:E4:=⟨[],3,.int .i64,fun _ l=>decide (Zo (α:=Int) l≠0)&&decide (Zo (α:=Int) l<=1000000),fun _ l=>ZJ l,false⟩
theorem GJ:∀l:List Int,Fv (l.map<|V.int .i64)=some l
 |[]=>rfl
 |x::l=>by
  show(Fv<|l.map<|V.int .i64).map (x:: ·)=_;rw[GJ l];rfl
theorem Q4{F:Fz}{l:List Int}{cs:List V}(h:Bk F (.int .i64) l cs):cs=l.map (V.int .i64):=by
 obtain⟨b,c⟩:=h;have b:cs.length=l.length:=by rw[b];exact ZG _
 refine List.ext_getElem (by rw[Zs,b]) fun i d e=>?_
 have a:=c i a8;have a:(cs.drop<|i*1).take 1=[.int .i64<|l[i]'a8]:=a;rw[ZG,Zv d]at a;have a:[cs[i]]=[V.int .i64<|l[i]'a8]:=a;rw[List.getElem_map];exact List.head_eq_of_cons_eq a
theorem OF{F:Fz}(l:List Int):Bk F (.int .i64) l (l.map<|V.int .i64):=by
 refine⟨by rw[Zs];exact(ZG _).symm,fun i a=>?_⟩;show((l.map<|V.int .i64).drop<|i*1).take 1=[.int .i64 l[i]];rw[ZG,Zv (by rw[Zs];exact a),List.getElem_map];rfl
theorem Lh{C:Ctx}{f:FuncId}(z:C.prim f=none)(n:∃i,C.fn f=some i)(w:C.spec f=some J6):BY C f Kj where
 prim:=z
 fn:=n
 len:=fun _ l _=>List.length_mergeSort (l:=(l:List Int)) ..
 run:=by
  intro F h args i (l:List Int) b cs fz o v g r d a k hd hfz hFb ho;have A:args=[]:=by
   have:=d (fun _=>none) 0;simpa [Ah,Kj]using this
  subst A;have a:(decide (l.length≠0)&&decide (l.length<=1000000))=true:=a;rw[Zc,w5,w5]at a;have t:=Q4 hd;subst t;have k:h.get b=some (.cells (l.map<|V.int .i64) 3 fz):=k;have run:J6 [.sl b 0 l.length l.length o] h=some (.tup [],h.put b<|.cells ((sorted l).map<|V.int .i64) 3 fz):=by
   unfold J6;simp only[k,DN,DE,List.drop_zero];rw[Zq (by rw[Zs];exact Zj _),GJ];simp only[A9,Nat.beq_refl,Nat.ble_eq_true_of_le (show l.length<=140737488355328 by omega),Nat.ble_eq_true_of_le hfz,Bool.and_self,wb];rw[List.take_zero,List.nil_append,Nat.zero_add,ZF (by rw[Zs];exact Zj _),Zt]
  refine⟨(.tup [],h.put b<|.cells ((sorted l).map<|V.int .i64) 3 fz),1,fun m E=>?_,rfl,Zj _,fun c _ j=>?_,fun c y q=>?_,F,fun _ _ h=>h,fun _ _ h=>.inl h,fun c D j=>?_,_,fz,?_,OF _,hfz⟩
  ·obtain⟨u,rfl⟩:∃u,m=u+1:=⟨m-1,by omega⟩;rw[Aj];simp only[w];split
   ·next x s=>rw[Option.some.inj<|s.symm.trans run]
   ·next s=>exact wd (s.symm.trans run) (by simp)
  ·rw[H.AB,w9 j]
  ·rw[H.AB]at q;rw[H.SJ];split at q
   ·next e=>rw[e];exact g _ _ k
   ·exact g _ _ q
  ·rw[H.AB];by_cases e:c=b
   ·subst e;rw[hFb]at j;cases j
   ·rw[w9 e];exact v c D j
  ·rw[H.AB,wa rfl];rfl
 nils:=by
  intro F h args i v g r d a;exact wd (show false=true from a) aa
end Go.Pe
namespace Go.Sp
def BR(l:List Int):List Int:=l.mergeSort fun x y=>decide (x<=y)
theorem Hg(l:List Int):(BR l).length=l.length:=List.length_mergeSort ..
theorem Fs(l:List Int):(BR l).Perm l:=List.mergeSort_perm ..
theorem Nz(l:List Int):(BR l).Pairwise (· <= ·):=by
 have h:(BR l).Pairwise (fun x y=>decide (x<=y)=true):=List.pairwise_mergeSort (fun a b c d e=>by
  simp only[w5]at*;omega) (fun a b=>by simp only[Bool.or_eq_true,w5];omega) l
 exact h.imp fun h=>w6 h
def less(l:List Int)(n:Int):Nat:=l.countP fun x=>decide (x<n)
def Bn(l:List Int)(n:Int):Nat:=l.countP fun x=>decide (x<=n)
theorem Kz{l:List Int}{p:Nat}(n:p<l.length):less l ((BR l).getD p 0)<=p/\p<Bn l ((BR l).getD p 0):=by
 have f:p<(BR l).length:=by rw[Hg];exact n
 have e:(BR l).getD p 0=(BR l)[p]:=by rw[Zd,Zf f];rfl
 have b:=Nz l;rw[List.pairwise_iff_getElem]at b;rw[e];have i:less l (BR l)[p]=less (BR l) (BR l)[p]:=((Fs l).countP_eq _).symm;have g:Bn l (BR l)[p]=Bn (BR l) (BR l)[p]:=((Fs l).countP_eq _).symm;rw[i,g];generalize m:(BR l)[p]=v;constructor
 ·have s:less (BR l) v=less ((BR l).take p) v+less ((BR l).drop p) v:=by
   unfold less;rw[<-ZB,List.take_append_drop]
  have z:less ((BR l).drop p) v=0:=by
   unfold less;refine ZA.2 fun x d=>?_
   obtain⟨j,c,rfl⟩:=List.mem_iff_getElem.1 d;rw[List.getElem_drop];rw[List.length_drop]at c;simp only[w5];rcases Nat.eq_zero_or_pos j with rfl|k
   ·simp only[Nat.add_zero,m];omega
   ·have:=b p (p+j) f a8 a8;omega
  have t:less ((BR l).take p) v<=p:=Zm Ze (by rw[Zi];omega);omega
 ·have s:Bn (BR l) v=Bn ((BR l).take<|p+1) v+Bn ((BR l).drop<|p+1) v:=by
   unfold Bn;rw[<-ZB,List.take_append_drop]
  have a:Bn ((BR l).take<|p+1) v=p+1:=by
   unfold Bn;rw[List.countP_eq_length.2,Zi]
   ·omega
   ·intro x d;obtain⟨j,c,rfl⟩:=List.mem_iff_getElem.1 d;rw[List.getElem_take];rw[Zi]at c;simp only[w5];by_cases k:j=p
    ·subst k;omega
    ·have:=b j p a8 f a8;omega
  omega
def placesOf(f:Int->Bool):Nat->List Int->List Int
 |_,[]=>[]
 |i,x::l=>if f x=true then(i:Int)::placesOf f (i+1) l else placesOf f (i+1) l
theorem AQ(f:Int->Bool):∀(i:Nat) (l:List Int),(placesOf f i l).length=l.countP f
 |_,[]=>rfl
 |i,x::l=>by
  unfold placesOf;rw[Zz];split
  ·next h=>rw[List.length_cons,AQ f (i+1) l]
  ·next h=>rw[AQ f (i+1) l];omega
theorem Cb{f g:Int->Bool}:∀(i:Nat) (l:List Int),(∀x∈l,f x=g x)->placesOf f i l=placesOf g i l
 |_,[],_=>rfl
 |i,x::l,h=>by
  unfold placesOf;rw[h x<|List.mem_cons_self ..,Cb (i+1) l fun y a=>h y<|List.mem_cons_of_mem _ a]
theorem FZ(f:Int->Bool):∀(i:Nat) (l:List Int) (x:Int),placesOf f i (l++[x])=placesOf f i l++if f x=true then[((i+l.length:Nat):Int)]else[]
 |i,[],x=>by
  show placesOf f i [x]=[]++_;unfold placesOf;split<;>simp[placesOf]
 |i,y::l,x=>by
  have a:=FZ f (i+1) l x;have e:i+(y::l).length=i+1+l.length:=by rw[List.length_cons];omega
  rw[List.cons_append,e];unfold placesOf;rw[a];split<;>simp
def AN(l:List Int)(p:Int):Int:=(BR l).getD p.toNat 0
def Iu(l:List Int)(p:Int):List Int:=if (l.length:Int)<=p then placesOf (fun _=>true) 0 l else placesOf (fun x=>decide (x<AN l p)) 0 l
def Ga(l:List Int)(p:Int):List Int:=if (l.length:Int)<=p then[]else placesOf (fun x=>decide (x=AN l p)) 0 l
def Ih(l:List Int)(p:Int):List Int:=if ((Iu l p).length:Int)=p then[]else Ga l p
def EM(l:List Int)(p:Int):Int:=if (l.length:Int)<=p\/((Iu l p).length:Int)=p then 0 else p-(Iu l p).length
def Mb(l:List Int)(p:Int):List Int:=placesOf (fun x=>decide ((Bn l x:Int)<=p)) 0 l
def Fl(l:List Int)(p:Int):List Int:=placesOf (fun x=> !decide ((Bn l x:Int)<=p)&&decide ((less l x:Int)<p)) 0 l
def EX(l:List Int)(p:Int):Int:=if Fl l p=[]then 0 else p-(Mb l p).length
theorem Ng{l:List Int}{a b:Int}(h:a<=b):less l a<=less l b:=Zy fun x _ c=>w4 (by have:=w6 c;omega)
theorem Is{l:List Int}{a b:Int}(h:a<=b):Bn l a<=Bn l b:=Zy fun x _ c=>w4 (by have:=w6 c;omega)
theorem Eh{l:List Int}{a b:Int}(h:a<b):Bn l a<=less l b:=Zy fun x _ c=>w4 (by have:=w6 c;omega)
theorem GU{f:Int->Bool}{i:Nat}{l:List Int}(h:∀x∈l,f x=false):placesOf f i l=[]:=by
 refine List.eq_nil_of_length_eq_zero ?_;rw[AQ,ZA];intro x a;rw[h x a];decide
theorem NQ{l:List Int}{p:Int}(o:0<=p):Mb l p=Iu l p/\Fl l p=Ih l p/\EX l p=EM l p:=by
 have a:∀x,Bn l x<=l.length:=fun x=>Ze
 by_cases c:(l.length:Int)<=p
 ·have i:Mb l p=Iu l p:=by
   unfold Mb Iu;rw[wa c];exact Cb 0 l fun x _=>w4 (by have:=a x;omega)
  have t:Fl l p=[]:=GU fun x _=>by
   rw[w4 (show(Bn l x:Int)<=p by have:=a x;omega)];rfl
  refine⟨i,?_,?_⟩
  ·rw[t];unfold Ih Ga;rw[wa c];split<;>rfl
  ·unfold EX EM;rw[t,wa rfl,wa<|.inl c]
 ·have b:p.toNat<l.length:=a8
  obtain⟨s1,s2⟩:=Kz b;have s1:(less l (AN l p):Int)<=p:=by unfold AN;omega
  have s2:p<(Bn l (AN l p):Int):=by unfold AN;omega
  have i:Mb l p=Iu l p:=by
   unfold Mb Iu;rw[w9 c];refine Cb 0 l fun x _=>?_
   by_cases d:x<AN l p
   ·have:=Eh (l:=l) d;rw[w4 d];exact w4 a8
   ·have:=Is (l:=l)<|Int.not_lt.1 d;rw[w8 d];exact w8 a8
  have n:((Iu l p).length:Int)=less l (AN l p):=by
   unfold Iu;rw[w9 c,AQ];rfl
  have t:Fl l p=Ih l p:=by
   unfold Ih;rw[n];by_cases e:(less l (AN l p):Int)=p
   ·rw[wa e];refine GU fun x _=>?_
    by_cases d:x<AN l p
    ·have:=Eh (l:=l) d;rw[w4<|show(Bn l x:Int)<=p by omega];rfl
    ·have:=Ng (l:=l)<|Int.not_lt.1 d;rw[w8 (show ¬(less l x:Int)<p by omega),ZH]
   ·rw[w9 e];unfold Fl Ga;rw[w9 c];refine Cb 0 l fun x _=>?_
    by_cases d:x<AN l p
    ·have:=Eh (l:=l) d;rw[w4 (show(Bn l x:Int)<=p by omega),w8<|show ¬x=AN l p by omega];rfl
    ·have m:=Is (l:=l)<|Int.not_lt.1 d;rw[w8<|show ¬(Bn l x:Int)<=p by omega];by_cases f:x=AN l p
     ·rw[w4 f,f,w4<|show(less l (AN l p):Int)<p by omega];rfl
     ·have:=Eh (l:=l) (show AN l p<x by omega);rw[w8 f,w8<|show ¬(less l x:Int)<p by omega];rfl
  refine⟨i,t,?_⟩;have j:Fl l p=[]↔(less l (AN l p):Int)=p:=by
   rw[t];unfold Ih;rw[n];constructor
   ·intro h;split at h
    ·next e=>exact e
    ·next e=>
     exfalso;unfold Ga at h;rw[w9 c]at h;have z:=we Zo h;rw[AQ,List.length_nil,ZA]at z;have k:p.toNat<(BR l).length:=by rw[Hg];exact b
     have g:AN l p∈l:=(Fs l).mem_iff.1 (by
      unfold AN;rw[Zd,Zf k];exact List.getElem_mem k)
     exact z _ g<|w4 rfl
   ·intro e;rw[wa e]
  unfold EX EM;rw[i,n];by_cases e:(less l (AN l p):Int)=p
  ·rw[wa<|j.2 e,wa<|.inr e]
  ·rw[w9<|fun x=>e<|j.1 x,w9<|fun x=>x.elim c e]
def EK(l:List Int):Bool:=l.any fun n=>decide (n< -999999999)||decide (n>999999999)
def BT(n b a:Int):Int:=if n<b\/a<n then 3 else 0
def KW(l:List Int):Int:=if 200<l.length then 5 else if EK l=true then 3 else 0
def II(l:List Int)(p:Int):Int:=if KW l≠0 then KW l else BT p 0 200
def Cs(n:Int):List Int:=(List.range n.toNat).map Int.ofNat
def KY(l:List Int)(p:Int):List Int:=if II l p≠0 then[]else Iu l p
def KX(l:List Int)(p:Int):List Int:=if II l p≠0 then[]else Ih l p
def Nu(l:List Int)(p:Int):Int:=if II l p≠0 then 0 else EM l p
def HB(l:List Int):Bool:=decide (20<l.length)&&decide (l.length<=200)||decide (205<l.length)
end Go.Sp
namespace Go.Pe
open Sp
open Go.Det
def Ik:AE:=⟨[i64,i64,i64],fun _=>true,[i64],fun i=>BT i.1 i.2.1 i.2.2,false⟩
def PD:AE:=⟨[i64],fun n=>decide (0<=n)&&decide (n<=1000000),[Dw],fun n=>Cs n,false⟩
def LL:AE:=⟨[Dw,Dw],fun i=>decide (Zo (α:=Int) i.1<=1000000),[.bool],fun i=>decide (i.1=i.2),false⟩
def Na:AE:=⟨[Dw],fun _=>true,[.bool],fun l=>HB l,false⟩
def Sd:AE:=⟨[Dw],fun l=>decide (Zo (α:=Int) l<=1000000),[i64],fun l=>KW l,false⟩
def M6:AE:=⟨[Dw,i64],fun i=>decide (Zo (α:=Int) i.1<=1000000),[Dw,Dw,i64,i64],fun i=>(KY i.1 i.2,KX i.1 i.2,Nu i.1 i.2,II i.1 i.2),false⟩
def Jj:AE:=⟨[Dw,i64],fun i=>decide (Zo (α:=Int) i.1<=1000000)&&decide (0<=(i.2:Int))&&decide ((i.2:Int)<=1000000),[Dw,Dw,i64],fun i=>(Mb i.1 i.2,Fl i.1 i.2,EX i.1 i.2),false⟩
def Sa:AE:=⟨[Dw,i64],fun _=>true,[.bool],fun _=>true,false⟩
def TH:AG:=X7 [(29,OG)]
def AM:AG:=(U1 [(6,[8])] [] [(6,[(8,[0,1,10]),(10,[0,1,10,11,12,43,44,45])])] [(29,OG),(30,Ik),(28,Jt),(31,PD)]).wr [(65,Kj)]
def Uj:AG:=X7 [(5,K4),(4,Na),(6,M6),(8,Sd),(9,Ik),(7,Jt),(10,Jj),(11,LL)]
section
open List Int Prod
namespace T6
def T(l:List Int)(p:Int):Tr:=tree AM false 9 6<|Ah ([Zb i64,ZE Zl]) (l,p)
def L1(l:List Int)(p:Int)(v0:List Int)(v7 v8:Int):Tr:=re ((T l p))<|Ba 19 [(0,.dat (Zb i64) v0),(1,PV.fn (Go.Fn.func 27) [] []),(7,.dat i64 v7),(8,.dat i64 v8)] [] 0
theorem Ch(l:List Int)(p:Int):T l p=L1 l p l ((length l:Int)) 0:=by kernel_rfl
def L2(l:List Int)(p:Int)(v0:List Int)(v7 v8:Int)(c:List Int)(b:Int)(a:Int)(o1 o0:List Int):Tr:=re ((stepT AM<|L1 l p v0 v7 v8).L.L.L.L.L.L.L.R.R)<|Ba 16 [(0,PV.yl 3),(5,.dat (Zb i64) c),(6,.dat i64 b),(7,.dat i64 a)] [(3,Obj.lp 91 3 (ON (AG.C AM) 91 3) (KO (AG.C AM) 91 3) (G7 (AG.C AM) 91 3) RW.ready 13 [(2,.ptr (Zg (Zg 0 1) 1) 0)]),(2,.box [.nil]),(1,.box [.dat (Zb i64) o1]),(0,.arr false 25 i64 o0)] 4
def L3(l:List Int)(p:Int)(v0:List Int)(v7 v8:Int)(c:List Int)(b:Int)(a:Int)(o1 o0:List Int):Tr:=re ((stepT AM<|L1 l p v0 v7 v8).L.L.R.L.L.L.L.L.R.R)<|Ba 16 [(0,PV.yl 3),(5,.dat (Zb i64) c),(6,.dat i64 b),(7,.dat i64 a)] [(3,Obj.lp 91 3 (ON (AG.C AM) 91 3) (KO (AG.C AM) 91 3) (G7 (AG.C AM) 91 3) RW.ready 13 [(2,.ptr (Zg (Zg 0 1) 1) 0)]),(2,.box [.nil]),(1,.box [.dat (Zb i64) o1]),(0,.arr false 25 i64 o0)] 4
def L4(l:List Int)(p:Int)(v0:List Int)(v7 v8:Int)(c:List Int)(b:Int)(a:Int)(o1 o0:List Int):Tr:=re ((stepT AM<|L1 l p v0 v7 v8).R.L.L.L.L.R.R)<|Ba 16 [(0,PV.yl 3),(5,.dat (Zb i64) c),(6,.dat i64 b),(7,.dat i64 a)] [(3,Obj.lp 91 3 (ON (AG.C AM) 91 3) (KO (AG.C AM) 91 3) (G7 (AG.C AM) 91 3) RW.ready 13 [(2,.ptr (Zg (Zg 0 1) 1) 0)]),(2,.box [.nil]),(1,.box [.dat (Zb i64) o1]),(0,.arr false 25 i64 o0)] 4
theorem Bx(l:List Int)(p:Int)(v0:List Int)(v7 v8:Int):stepT AM (L1 l p v0 v7 v8)=let a:=(length l:Int);let c:=decide (3<=3)&&true&&decide (3<=1000000);let b:=decide (v8>=0);let d:Tr:=.ck (decide (0<=a)&&decide (a<=1000000))<|.leaf (.tup [.dat (Zb i64)<|Cs a,.nil,.dat i64 (0:Int),.dat i64 (0:Int)]) [];let b':=decide (a>200);let h':=decide (p>=a);let e:Tr:=.leaf (.tup [.nil,.nil,.dat i64 (0:Int),.dat i64<|Sp.first [FY b' 5,FY b 3,BT p 0 200]]) [];let g:=Sp.first [FY b' 5,FY b 3,BT p 0 200] !=0;let f:=[FY b' 5,FY b 3,BT p 0 200];.di (v8<v7) (.ck (decide (0<=v8)&&decide (v8<(length v0:Int)))<|.di (getD v0 (toNat v8) 0<(-999999999)) (.ck true<|.ck true<|.ck true<|.ck c<|.ite g e<|.ite h' d<|L2 l p v0 v7 v8 l a 0 l f)<|.di (getD v0 (toNat v8) 0>999999999) (.ck true<|.ck true<|.ck true<|.ck c<|.ite g e<|.ite h' d<|L3 l p v0 v7 v8 l a 0 l f)<|L1 l p v0 v7<|Za .i64<|v8+1) (.ck true<|.ck true<|.ck true<|.ck c<|.ite (Sp.first [FY b' 5,FY false 3,BT p 0 200] !=0) (.leaf (.tup [.nil,.nil,.dat i64 (0:Int),.dat i64<|Sp.first [FY b' 5,FY false 3,BT p 0 200]]) [])<|.ite h' d<|L4 l p v0 v7 v8 l a 0 l<|[FY b' 5,FY false 3,BT p 0 200]):=by kernel_rfl
def L5(l:List Int)(p:Int)(v0:List Int)(v7 v8:Int)(e:List Int)(c:Int)(b:Int)(d:List Int)(a:Nat)(o1 o0:List Int):Tr:=re ((stepT AM<|L2 l p v0 v7 v8 [] 0 0 [] []).L.L.L)<|Ba 16 [(0,PV.yl 3),(5,.dat (Zb i64) e),(6,.dat i64 c),(7,.dat i64 b)] [(4,.arr false 3 i64 d),(3,Obj.lp 91 3 (ON (AG.C AM) 91 3) (KO (AG.C AM) 91 3) (G7 (AG.C AM) 91 3) RW.ready 13 [(2,.ptr 2 0)]),(2,.box [.sl 4 1 0 a none]),(1,.box [.dat (Zb i64) o1]),(0,.arr false 25 i64 o0)] 5
def L7(l:List Int)(p:Int)(v0:List Int)(v7 v8:Int)(e:List Int)(c:Int)(b:Int)(d:List Int)(a:Nat)(o1 o0:List Int):Tr:=re ((stepT AM<|L4 l p v0 v7 v8 [] 0 0 [] []).L.L.L)<|Ba 16 [(0,PV.yl 3),(5,.dat (Zb i64) e),(6,.dat i64 c),(7,.dat i64 b)] [(4,.arr false 3 i64 d),(3,Obj.lp 91 3 (ON (AG.C AM) 91 3) (KO (AG.C AM) 91 3) (G7 (AG.C AM) 91 3) RW.ready 13 [(2,.ptr 2 0)]),(2,.box [.sl 4 1 0 a none]),(1,.box [.dat (Zb i64) o1]),(0,.arr false 25 i64 o0)] 5
theorem Mx(l:List Int)(p:Int)(v0:List Int)(v7 v8:Int)(b:List Int)(c:Int)(a:Int)(o1 o0:List Int):stepT AM (L4 l p v0 v7 v8 b c a o1 o0)=.di (a<c) (.ck (decide (0<=a)&&decide (a<(length b:Int)))<|.ck (a6 8)<|L7 l p v0 v7 v8 b c (Za .i64<|a+1) ([getD b (toNat a) 0]) 1 o1 o0) (.ck false .fail):=by kernel_rfl
def L8(v0:List Int)(v1 a:Int):Tr:=re ((stepT AM<|L5 [] 0 [] 0 0 [] 0 0 [] 0 [] []).R.L.L.L)<|Ba 78 [(0,.dat (Zb i64) v0),(1,.dat i64 v1),(10,.dat i64 a)] [] 0
theorem Kf(l:List Int)(p:Int)(v0:List Int)(v7 v8:Int)(d:List Int)(e:Int)(b:Int)(c:List Int)(a:Nat)(o1 o0:List Int):stepT AM (L7 l p v0 v7 v8 d e b c a o1 o0)=.di (b<e) (.ck (decide (0<=b)&&decide (b<(length d:Int)))<|.ck (a7 a (length c) 8)<|L7 l p v0 v7 v8 d e (Za .i64<|b+1) (c++[getD d (toNat b) 0]) (Zg a 1) o1 o0) (.ck (decide (length c≠0)&&decide (length c<=1000000)&&decide (a=length c)&&true)<|.ck (decide (0<=p)&&decide (p<(↑a:Int)))<|.cd (toNat p<length (ZJ c))<|L8 l p<|getD (ZJ c) (toNat p) 0):=by kernel_rfl
def L9(v0:List Int)(v1 c:Int)(a:List Int)(d b:Int):Tr:=re ((stepT AM<|L8 [] 0 0))<|Ba 78 [(0,.dat (Zb i64) v0),(1,.dat i64 v1),(10,.dat i64 c),(11,.nil),(12,.nil),(43,.dat (Zb i64) a),(44,.dat i64 d),(45,.dat i64 b)] [] 0
theorem Oq(v0:List Int)(v1 a:Int):stepT AM (L8 v0 v1 a)=L9 v0 v1 a v0 ((length v0:Int)) 0:=by kernel_rfl
def Te(v0:List Int)(v1 d:Int)(a:Nat)(b:List Int)(e c:Int)(o0:List Int):Tr:=re ((stepT AM<|L9 [] 0 0 [] 0 0).L.L.L.L)<|Ba 78 [(0,.dat (Zb i64) v0),(1,.dat i64 v1),(10,.dat i64 d),(11,.sl 0 1 0 a none),(12,.nil),(43,.dat (Zb i64) b),(44,.dat i64 e),(45,.dat i64 c)] [(0,.arr false 3 i64 o0)] 1
def Tk(v0:List Int)(v1 c:Int)(a:Nat)(b:List Int)(e d:Int)(o0:List Int):Tr:=re ((stepT AM<|L9 [] 0 0 [] 0 0).L.L.R.L.L)<|Ba 78 [(0,.dat (Zb i64) v0),(1,.dat i64 v1),(10,.dat i64 c),(11,.nil),(12,.sl 0 1 0 a none),(43,.dat (Zb i64) b),(44,.dat i64 e),(45,.dat i64 d)] [(0,.arr false 3 i64 o0)] 1
theorem OJ(v0:List Int)(v1 c:Int)(b:List Int)(d a:Int):stepT AM (L9 v0 v1 c b d a)=let e:=a6 8;let b':=Za .i64<|a+1;.di (a<d) (.ck (decide (0<=a)&&decide (a<(length b:Int)))<|.di (getD b (toNat a) 0<c) (.ck e<|Te v0 v1 c 1 b d b' [a])<|.ite (getD b (toNat a) 0==c) (.ck e<|Tk v0 v1 c 1 b d b' [a])<|L9 v0 v1 c b d b') (.ite (0==v1) (.leaf (.tup [.nil,.nil,.dat i64 (0:Int),.dat i64 (0:Int)]) [])<|.leaf (.tup [.nil,.nil,.dat i64<|Za .i64<|v1-0,.dat i64 (0:Int)]) []):=by kernel_rfl
def RU(v0:List Int)(v1 e:Int)(b a:Nat)(c:List Int)(f d:Int)(o1 o0:List Int):Tr:=re ((stepT AM<|Te [] 0 0 0 [] 0 0 []).L.L.R.L.L)<|Ba 78 [(0,.dat (Zb i64) v0),(1,.dat i64 v1),(10,.dat i64 e),(11,.sl 0 1 0 b none),(12,.sl 1 1 0 a none),(43,.dat (Zb i64) c),(44,.dat i64 f),(45,.dat i64 d)] [(1,.arr false 3 i64 o1),(0,.arr false 3 i64 o0)] 2
theorem Ma(v0:List Int)(v1 d:Int)(a:Nat)(c:List Int)(e b:Int)(o0:List Int):stepT AM (Te v0 v1 d a c e b o0)=let f:=Za .i64<|b+1;let b':=[(0,.arr false 3 i64 o0)];.di (b<e) (.ck (decide (0<=b)&&decide (b<(length c:Int)))<|.di (getD c (toNat b) 0<d) (.ck (a7 a (length o0) 8)<|Te v0 v1 d (Zg a 1) c e f<|o0++[b])<|.ite (getD c (toNat b) 0==d) (.ck (a6 8)<|RU v0 v1 d a 1 c e f [b] o0)<|Te v0 v1 d a c e f o0) (.ite ((↑a:Int)==v1) (.leaf (.tup [.sl 0 1 0 a none,.nil,.dat i64 (0:Int),.dat i64 (0:Int)]) b')<|.leaf (.tup [.sl 0 1 0 a none,.nil,.dat i64<|Za .i64<|v1-(↑a:Int),.dat i64 (0:Int)]) b'):=by kernel_rfl
theorem Mh(v0:List Int)(v1 d:Int)(a:Nat)(c:List Int)(e b:Int)(o0:List Int):stepT AM (Tk v0 v1 d a c e b o0)=let f:=Za .i64<|b+1;.di (b<e) (.ck (decide (0<=b)&&decide (b<(length c:Int)))<|.di (getD c (toNat b) 0<d) (.ck (a6 8)<|RU v0 v1 d 1 a c e f o0 [b])<|.ite (getD c (toNat b) 0==d) (.ck (a7 a (length o0) 8)<|Tk v0 v1 d (Zg a 1) c e f<|o0++[b])<|Tk v0 v1 d a c e f o0) (.ite (0==v1) (.leaf (.tup [.nil,.nil,.dat i64 (0:Int),.dat i64 (0:Int)]) [])<|.leaf (.tup [.nil,.sl 0 1 0 a none,.dat i64<|Za .i64<|v1-0,.dat i64 (0:Int)])<|[(0,.arr false 3 i64 o0)]):=by kernel_rfl
theorem Mf(v0:List Int)(v1 e:Int)(a b:Nat)(d:List Int)(f c:Int)(o1 o0:List Int):stepT AM (RU v0 v1 e a b d f c o1 o0)=let g:=Za .i64<|c+1;let b':=[(1,.arr false 3 i64 o1),(0,.arr false 3 i64 o0)];.di (c<f) (.ck (decide (0<=c)&&decide (c<(length d:Int)))<|.di (getD d (toNat c) 0<e) (.ck (a7 a (length o0) 8)<|RU v0 v1 e (Zg a 1) b d f g o1<|o0++[c])<|.ite (getD d (toNat c) 0==e) (.ck (a7 b (length o1) 8)<|RU v0 v1 e a (Zg b 1) d f g (o1++[c]) o0)<|RU v0 v1 e a b d f g o1 o0) (.ite ((↑a:Int)==v1) (.leaf (.tup [.sl 0 1 0 a none,.nil,.dat i64 (0:Int),.dat i64 (0:Int)]) b')<|.leaf (.tup [.sl 0 1 0 a none,.sl 1 1 0 b none,.dat i64<|Za .i64<|v1-(↑a:Int),.dat i64 (0:Int)]) b'):=by kernel_rfl
end T6
namespace T10
def T(l:List Int)(p:Int):Tr:=tree Cf false 9 10<|Ah ([Zb i64,ZE Zl]) (l,p)
def L1(v0:List Int)(v1 a:Int):Tr:=re ((T [] 0))<|Ba 73 [(0,.dat (Zb i64) v0),(1,.dat i64 v1),(7,.nil),(8,.nil),(9,.dat i64 a)] [] 0
theorem Ch(l:List Int)(p:Int):T l p=L1 l p 0:=by kernel_rfl
def L2(v0:List Int)(v1 d b c a:Int):Tr:=re ((stepT Cf<|L1 [] 0 0).L)<|Ba 73 [(0,.dat (Zb i64) v0),(1,.dat i64 v1),(7,.nil),(8,.nil),(9,.dat i64 d),(10,.dat i64 b),(11,.dat i64 c),(12,.dat i64 a)] [] 0
theorem Bx(v0:List Int)(v1 a:Int):stepT Cf (L1 v0 v1 a)=.di (a<(length v0:Int)) (L2 v0 v1 a 0 0 0) (.ite true (.leaf (.tup [.nil,.nil,.dat i64 (0:Int)]) [])<|.leaf (.tup [.nil,.nil,.dat i64<|Za .i64<|v1-0]) []):=by kernel_rfl
def L3(v0:List Int)(v1:Int)(a:Nat)(b:Int)(o0:List Int):Tr:=re ((stepT Cf<|L2 [] 0 0 0 0 0).R.L.L)<|Ba 73 [(0,.dat (Zb i64) v0),(1,.dat i64 v1),(7,.sl 0 1 0 a none),(8,.nil),(9,.dat i64 b)] [(0,.arr false 3 i64 o0)] 1
def L4(v0:List Int)(v1:Int)(a:Nat)(b:Int)(o0:List Int):Tr:=re ((stepT Cf<|L2 [] 0 0 0 0 0).R.R.L.L)<|Ba 73 [(0,.dat (Zb i64) v0),(1,.dat i64 v1),(7,.nil),(8,.sl 0 1 0 a none),(9,.dat i64 b)] [(0,.arr false 3 i64 o0)] 1
theorem T1(v0:List Int)(v1 c b d a:Int):stepT Cf (L2 v0 v1 c b d a)=let e:=Za .i64<|a+1;let j:=a6 8;let g:=Za .i64<|c+1;let m:=getD v0 (toNat a) 0==getD v0 (toNat c) 0;let f:=(length v0:Int);let h':=Za .i64<|b+1;let k:=Za .i64<|d+1;let i:=decide (0<=a)&&decide (a<f);let b':=decide (0<=c)&&decide (c<f);.di (a<f) (.ck i<|.ck b'<|.di (getD v0 (toNat a) 0<getD v0 (toNat c) 0) (.ck i<|.ck b'<|.ite m (L2 v0 v1 c h' k e)<|L2 v0 v1 c h' d e)<|.ck i<|.ck b'<|.ite m (L2 v0 v1 c b k e)<|L2 v0 v1 c b d e) (.di (Za .i64 (b+d)<=v1) (.ck j<|L3 v0 v1 1 g [c])<|.di (b<v1) (.ck j<|L4 v0 v1 1 g [c])<|L1 v0 v1 g):=by kernel_rfl
def L5(v0:List Int)(v1:Int)(c:Nat)(e a d b:Int)(o0:List Int):Tr:=re ((stepT Cf<|L3 [] 0 0 0 []).L)<|Ba 73 [(0,.dat (Zb i64) v0),(1,.dat i64 v1),(7,.sl 0 1 0 c none),(8,.nil),(9,.dat i64 e),(10,.dat i64 a),(11,.dat i64 d),(12,.dat i64 b)] [(0,.arr false 3 i64 o0)] 1
theorem RY(v0:List Int)(v1:Int)(a:Nat)(b:Int)(o0:List Int):stepT Cf (L3 v0 v1 a b o0)=let c:=[(0,.arr false 3 i64 o0)];.di (b<(length v0:Int)) (L5 v0 v1 a b 0 0 0 o0) (.ite true (.leaf (.tup [.sl 0 1 0 a none,.nil,.dat i64 (0:Int)]) c)<|.leaf (.tup [.sl 0 1 0 a none,.nil,.dat i64<|Za .i64<|v1-(↑a:Int)]) c):=by kernel_rfl
def L6(v0:List Int)(v1:Int)(d:Nat)(e b c a:Int)(o0:List Int):Tr:=re ((stepT Cf<|L4 [] 0 0 0 []).L)<|Ba 73 [(0,.dat (Zb i64) v0),(1,.dat i64 v1),(7,.nil),(8,.sl 0 1 0 d none),(9,.dat i64 e),(10,.dat i64 b),(11,.dat i64 c),(12,.dat i64 a)] [(0,.arr false 3 i64 o0)] 1
theorem Mx(v0:List Int)(v1:Int)(a:Nat)(b:Int)(o0:List Int):stepT Cf (L4 v0 v1 a b o0)=.di (b<(length v0:Int)) (L6 v0 v1 a b 0 0 0 o0) (.ite ((↑a:Int)==0) (.leaf (.tup [.nil,.nil,.dat i64 (0:Int)]) [])<|.leaf (.tup [.nil,.sl 0 1 0 a none,.dat i64<|Za .i64<|v1-0])<|[(0,.arr false 3 i64 o0)]):=by kernel_rfl
def L7(v0:List Int)(v1:Int)(a b:Nat)(c:Int)(o1 o0:List Int):Tr:=re ((stepT Cf<|L5 [] 0 0 0 0 0 0 []).R.R.L.L)<|Ba 73 [(0,.dat (Zb i64) v0),(1,.dat i64 v1),(7,.sl 0 1 0 a none),(8,.sl 1 1 0 b none),(9,.dat i64 c)] [(1,.arr false 3 i64 o1),(0,.arr false 3 i64 o0)] 2
theorem TD(v0:List Int)(v1:Int)(a:Nat)(d c e b:Int)(o0:List Int):stepT Cf (L5 v0 v1 a d c e b o0)=let f:=Za .i64<|b+1;let j:=Za .i64<|d+1;let k:=getD v0 (toNat b) 0==getD v0 (toNat d) 0;let g:=(length v0:Int);let m:=Za .i64<|c+1;let h':=Za .i64<|e+1;let i:=decide (0<=b)&&decide (b<g);let b':=decide (0<=d)&&decide (d<g);.di (b<g) (.ck i<|.ck b'<|.di (getD v0 (toNat b) 0<getD v0 (toNat d) 0) (.ck i<|.ck b'<|.ite k (L5 v0 v1 a d m h' f o0)<|L5 v0 v1 a d m e f o0)<|.ck i<|.ck b'<|.ite k (L5 v0 v1 a d c h' f o0)<|L5 v0 v1 a d c e f o0) (.di (Za .i64 (c+e)<=v1) (.ck (a7 a (length o0) 8)<|L3 v0 v1 (Zg a 1) j<|o0++[d])<|.di (c<v1) (.ck (a6 8)<|L7 v0 v1 a 1 j [d] o0)<|L3 v0 v1 a j o0):=by kernel_rfl
theorem TF(v0:List Int)(v1:Int)(a:Nat)(d c e b:Int)(o0:List Int):stepT Cf (L6 v0 v1 a d c e b o0)=let f:=Za .i64<|b+1;let j:=Za .i64<|d+1;let k:=getD v0 (toNat b) 0==getD v0 (toNat d) 0;let g:=(length v0:Int);let m:=Za .i64<|c+1;let h':=Za .i64<|e+1;let i:=decide (0<=b)&&decide (b<g);let b':=decide (0<=d)&&decide (d<g);.di (b<g) (.ck i<|.ck b'<|.di (getD v0 (toNat b) 0<getD v0 (toNat d) 0) (.ck i<|.ck b'<|.ite k (L6 v0 v1 a d m h' f o0)<|L6 v0 v1 a d m e f o0)<|.ck i<|.ck b'<|.ite k (L6 v0 v1 a d c h' f o0)<|L6 v0 v1 a d c e f o0) (.di (Za .i64 (c+e)<=v1) (.ck (a6 8)<|L7 v0 v1 1 a j o0 [d])<|.di (c<v1) (.ck (a7 a (length o0) 8)<|L4 v0 v1 (Zg a 1) j<|o0++[d])<|L4 v0 v1 a j o0):=by kernel_rfl
def L8(v0:List Int)(v1:Int)(a c:Nat)(f e b d:Int)(o1 o0:List Int):Tr:=re ((stepT Cf<|L7 [] 0 0 0 0 [] []).L)<|Ba 73 [(0,.dat (Zb i64) v0),(1,.dat i64 v1),(7,.sl 0 1 0 a none),(8,.sl 1 1 0 c none),(9,.dat i64 f),(10,.dat i64 e),(11,.dat i64 b),(12,.dat i64 d)] [(1,.arr false 3 i64 o1),(0,.arr false 3 i64 o0)] 2
theorem Kf(v0:List Int)(v1:Int)(a b:Nat)(c:Int)(o1 o0:List Int):stepT Cf (L7 v0 v1 a b c o1 o0)=let d:=[(1,.arr false 3 i64 o1),(0,.arr false 3 i64 o0)];.di (c<(length v0:Int)) (L8 v0 v1 a b c 0 0 0 o1 o0) (.ite ((↑b:Int)==0) (.leaf (.tup [.sl 0 1 0 a none,.nil,.dat i64 (0:Int)]) d)<|.leaf (.tup [.sl 0 1 0 a none,.sl 1 1 0 b none,.dat i64<|Za .i64<|v1-(↑a:Int)]) d):=by kernel_rfl
theorem Oq(v0:List Int)(v1:Int)(b a:Nat)(e d f c:Int)(o1 o0:List Int):stepT Cf (L8 v0 v1 b a e d f c o1 o0)=let g:=Za .i64<|c+1;let i:=Za .i64<|e+1;let n:=getD v0 (toNat c) 0==getD v0 (toNat e) 0;let j:=(length v0:Int);let m:=Za .i64<|d+1;let h':=Za .i64<|f+1;let k:=decide (0<=c)&&decide (c<j);let b':=decide (0<=e)&&decide (e<j);.di (c<j) (.ck k<|.ck b'<|.di (getD v0 (toNat c) 0<getD v0 (toNat e) 0) (.ck k<|.ck b'<|.ite n (L8 v0 v1 b a e m h' g o1 o0)<|L8 v0 v1 b a e m f g o1 o0)<|.ck k<|.ck b'<|.ite n (L8 v0 v1 b a e d h' g o1 o0)<|L8 v0 v1 b a e d f g o1 o0) (.di (Za .i64 (d+f)<=v1) (.ck (a7 b (length o0) 8)<|L7 v0 v1 (Zg b 1) a i o1<|o0++[e])<|.di (d<v1) (.ck (a7 a (length o1) 8)<|L7 v0 v1 b (Zg a 1) i (o1++[e]) o0)<|L7 v0 v1 b a i o1 o0):=by kernel_rfl
end T10
namespace T28
def T(l:List Int):Tr:=tree Cf false 9 28<|Ah ([Zb i64]) l
def L1(b:List Int)(a v7:Int):Tr:=re ((T []))<|Ba 15 [(5,.dat (Zb i64) b),(6,.dat i64 a),(7,.dat i64 v7)] [] 0
theorem Ch(l:List Int):T l=L1 l ((length l:Int)) 0:=by kernel_rfl
theorem Bx(a:List Int)(b v7:Int):stepT Cf (L1 a b v7)=.di (v7<b) (.ck (decide (0<=v7)&&decide (v7<(length a:Int)))<|.ite (getD a (toNat v7) 0 !=0) (.leaf (.dat i64<|getD a (toNat v7) 0) [])<|L1 a b<|Za .i64<|v7+1) (.leaf (.dat i64 (0:Int)) []):=by kernel_rfl
end T28
namespace T7
def T(l:List Int):Tr:=tree Cf false 9 7<|Ah ([Zb i64]) l
def L1(b:List Int)(a v7:Int):Tr:=re ((T []))<|Ba 15 [(5,.dat (Zb i64) b),(6,.dat i64 a),(7,.dat i64 v7)] [] 0
theorem Ch(l:List Int):T l=L1 l ((length l:Int)) 0:=by kernel_rfl
theorem Bx(a:List Int)(b v7:Int):stepT Cf (L1 a b v7)=.di (v7<b) (.ck (decide (0<=v7)&&decide (v7<(length a:Int)))<|.ite (getD a (toNat v7) 0 !=0) (.leaf (.dat i64<|getD a (toNat v7) 0) [])<|L1 a b<|Za .i64<|v7+1) (.leaf (.dat i64 (0:Int)) []):=by kernel_rfl
end T7
namespace T29
def T(c:Bool)(e:Int):Tr:=tree Cf false 9 29<|Ah ([Sh.bool,ZE Zl]) (c,e)
theorem Ch(c:Bool)(e:Int):T c e=.ite c (.leaf (.dat i64 e) []) (.leaf (.dat i64 (0:Int)) []):=by kernel_rfl
end T29
namespace T30
def T(n a h:Int):Tr:=tree TH false 9 30<|Ah ([ZE Zl,ZE Zl,ZE Zl]) (n,a,h)
theorem Ch(n a h:Int):T n a h=.di (n<a) (.ck true<|.leaf (.dat i64<|FY true 3) []) (.ck true<|.leaf (.dat i64<|FY (decide (n>h)) 3) []):=by kernel_rfl
end T30
namespace T9
def T(n a h:Int):Tr:=tree Cf false 9 9<|Ah ([ZE Zl,ZE Zl,ZE Zl]) (n,a,h)
theorem Ch(n a h:Int):T n a h=.di (n<a) (.leaf (.dat i64 (3:Int)) []) (.di (n>h) (.leaf (.dat i64 (3:Int)) [])<|.leaf (.dat i64 (0:Int)) []):=by kernel_rfl
end T9
namespace T4
def T(l:List Int):Tr:=tree Cf false 9 4<|Ah ([Zb i64]) l
theorem Ch(l:List Int):T l=let b':=(length l:Int);let a:Tr:=.leaf (.dat Sh.bool<|decide (b'>205)) [];.di (b'>20) (.di (b'<=200) (.leaf (.bl true) []) a) a:=by kernel_rfl
end T4
namespace T31
def T(n:Int):Tr:=tree Cf false 9 31<|Ah ([ZE Zl]) n
def L1(a:Nat)(v8 b:Int)(o0:List Int):Tr:=re ((T 0).L)<|Ba 18 [(3,.sl 0 1 0 a none),(8,.dat i64 v8),(9,.dat i64 b)] [(0,.arr false 3 i64 o0)] 1
theorem Ch(n:Int):T n=.ck (decide (0<=n)&&decide (n=n)&&decide (8*toNat n<=281474976710656)&&decide (n<9223372036854775808)) (L1 (toNat n) ((toNat n:Int)) 0<|replicate (toNat n) 0):=by kernel_rfl
theorem Bx(a:Nat)(v8 b:Int)(o0:List Int):stepT Cf (L1 a v8 b o0)=.di (b<v8) (.ck (decide (0<=b)&&decide (b<(↑a:Int)))<|.cd (toNat b<length o0)<|L1 a v8 (Za .i64<|b+1)<|set o0 (toNat b) b) (.leaf (.sl 0 1 0 a none)<|[(0,.arr false 3 i64 o0)]):=by kernel_rfl
end T31
namespace T8
def T(l:List Int):Tr:=tree Cf false 9 8<|Ah ([Zb i64]) l
def L1(v0:List Int)(a:Int):Tr:=re ((T []).R)<|Ba 25 [(0,.dat (Zb i64) v0),(3,.dat i64 a)] [] 0
theorem Ch(l:List Int):T l=.di ((length l:Int)>200) (.leaf (.dat i64 (5:Int)) []) (L1 l 0):=by kernel_rfl
theorem Bx(v0:List Int)(a:Int):stepT Cf (L1 v0 a)=let b:=decide (a<(length v0:Int));let b':Tr:=.leaf (.dat i64 (3:Int)) [];.ite b (.ck (decide (0<=a)&&b)<|.di (getD v0 (toNat a) 0<(-999999999)) b'<|.ck (decide (0<=a)&&b)<|.di (getD v0 (toNat a) 0>999999999) b'<|L1 v0<|Za .i64<|a+1) (.leaf (.dat i64 (0:Int)) []):=by kernel_rfl
end T8
namespace T11
def T(a b:List Int):Tr:=tree Cf false 9 11<|Ah ([Zb i64,Zb i64]) (a,b)
def L1(v0 v1:List Int)(a:Int):Tr:=re ((T [] []).R)<|Ba 26 [(0,.dat (Zb i64) v0),(1,.dat (Zb i64) v1),(5,.dat i64 a)] [] 0
theorem Ch(a b:List Int):T a b=.ite ((length a:Int) !=(length b:Int)) (.leaf (.bl false) []) (L1 a b 0):=by kernel_rfl
theorem Bx(v0 v1:List Int)(a:Int):stepT Cf (L1 v0 v1 a)=let b:=decide (a<(length v0:Int));.ite b (.ck (decide (0<=a)&&b)<|.ck (decide (0<=a)&&decide (a<(length v1:Int)))<|.ite (getD v0 (toNat a) 0 !=getD v1 (toNat a) 0) (.leaf (.bl false) [])<|L1 v0 v1<|Za .i64<|a+1) (.leaf (.bl true) []):=by kernel_rfl
end T11
namespace T3
def T(l:List Int)(p:Int):Tr:=tree Uj false 9 3<|Ah ([Zb i64,ZE Zl]) (l,p)
theorem Ch(l:List Int)(p:Int):T l p=let a:Tr:=.leaf (.bl false) [];let b':Tr:=.ck true<|.leaf (.dat Sh.bool true) [];let e:=II l p==Sp.first [KW l,BT p 0 200];let b:=decide (length l<=1000000);let d:=decide (length (KY l p)<=1000000);let c:=decide (length (KX l p)<=1000000);.ck true (.ite (HB l) b'<|.ck b<|.ck b<|.ck true<|.ck (decide (2<=2)&&true&&decide (2<=1000000))<|.ite (Sp.first [KW l,BT p 0 200]==0) (.ck (b&&decide (0<=p)&&decide (p<=1000000))<|.ite e (.ck d<|.di (KY l p=Mb l p) (.ck c<|.di (KX l p=Fl l p) (.ite (Nu l p==EX l p) b' a) a) a) a)<|.ite e (.ck d<|.di (KY l p=[]) (.ck c<|.di (KX l p=[]) (.ite (Nu l p==0) b' a) a) a) a):=by kernel_rfl
end T3
end
theorem Bc{a b:Bool}(c:a=true)(d:b=true):(a&&b)=true:=by rw[c,d];rfl
theorem wn{i:Nat}(h:i<9223372036854775807):Za .i64 ((i:Int)+1)=((i+1:Nat):Int):=by rw[wr _ a8 a8];omega
theorem ad{p q:Prop}[Decidable p][Decidable q](a:p)(b:q):(decide p&&decide q)=true:=Bc (w4 a)<|w4 b
theorem nb{i n:Nat}(h:i<n):(decide ((0:Int)<=(i:Int))&&decide ((i:Int)<(n:Int)))=true:=ad a8 a8
theorem Co{s:Sh}(c:s.sz=1){id n:Nat}{ob:Ob}{fz:Bool}{t:TypeId}{o:List s.T}(b:Af ob id=some (.arr fz t s o))(a:n=o.length):Dp ⟨0,.leaf,ob,0⟩ (.list s) (.sl id 1 0 n none)=some (true,o):=by
 unfold Dp;simp_all [BM,Zn,AY,Ae.obj,HI,Sh.Gs,BI,AX,RT,B5]
theorem QW{s:Sh}(a:s.sz=1){n:Nat}{fz:Bool}{t:TypeId}{o:List s.T}(b:n=o.length):FV [.list s] (.sl 0 1 0 n none) [(0,.arr fz t s o)]=some (true,o):=Co a rfl b
namespace T28
theorem loop{Q:PV->Ob->Prop}(l:List Int)(m:l.length<=1000000)(a:∀ob,Q (.dat i64<|Sp.first l) ob):∀(r:List Int) (i:Nat),l.drop i=r->i<=l.length->Sp.first l=Sp.first r->Ends Cf (L1 l ((l.length:Int)) (i:Int)) Q
 |[],i,h,c,e=>by
  have n:=drop_nil h c;refine Ends.A4 (Bx ..) (Ends.ff (w8 a8)<|Ends.leaf ?_);rw[e]at a;exact a _
 |x::r,i,h,c,e=>by
  obtain⟨k,g,f⟩:=drop_cons (d:=0) h;refine Ends.A4 (Bx ..) ?_;conv=>zeta
  have j:Za .i64 ((i:Int)+1)=((i+1:Nat):Int):=by rw[wr _ a8 a8];omega
  rw[j,Zk,g];refine Ends.tt (w4 a8) (Ends.tt (Bc (w4 a8)<|w4 a8) ?_);by_cases b:x=0
  ·subst b;refine Ends.ff rfl (loop l m a r (i+1) f k ?_);rw[e];rfl
  ·have ex:Sp.first (x::r)=x:=by unfold Sp.first;rw[wa b]
   refine Ends.tt (by simpa using b)<|Ends.leaf ?_;rw[e,ex]at a;exact a _
theorem ok:Aq Dj 28 Jt:=by
 refine Pg Da<|fun(l:List Int) hl=>?_;exact Ends.eq (Ch l)<|loop l (w6 hl) (fun ob=>AV.of rfl rfl rfl) l 0 rfl (Nat.zero_le _) rfl
end T28
namespace T7
theorem loop{Q:PV->Ob->Prop}(l:List Int)(m:l.length<=1000000)(a:∀ob,Q (.dat i64<|Sp.first l) ob):∀(r:List Int) (i:Nat),l.drop i=r->i<=l.length->Sp.first l=Sp.first r->Ends Cf (L1 l ((l.length:Int)) (i:Int)) Q
 |[],i,h,c,e=>by
  have n:=drop_nil h c;refine Ends.A4 (Bx ..) (Ends.ff (w8 a8)<|Ends.leaf ?_);rw[e]at a;exact a _
 |x::r,i,h,c,e=>by
  obtain⟨k,g,f⟩:=drop_cons (d:=0) h;refine Ends.A4 (Bx ..) ?_;conv=>zeta
  have j:Za .i64 ((i:Int)+1)=((i+1:Nat):Int):=by rw[wr _ a8 a8];omega
  rw[j,Zk,g];refine Ends.tt (w4 a8) (Ends.tt (Bc (w4 a8)<|w4 a8) ?_);by_cases b:x=0
  ·subst b;refine Ends.ff rfl (loop l m a r (i+1) f k ?_);rw[e];rfl
  ·have ex:Sp.first (x::r)=x:=by unfold Sp.first;rw[wa b]
   refine Ends.tt (by simpa using b)<|Ends.leaf ?_;rw[e,ex]at a;exact a _
theorem ok:Aq Dj 7 Jt:=by
 refine Pg Da<|fun(l:List Int) hl=>?_;exact Ends.eq (Ch l)<|loop l (w6 hl) (fun ob=>AV.of rfl rfl rfl) l 0 rfl (Nat.zero_le _) rfl
end T7
theorem T29.ok:Aq Dj 29 OG:=by
 refine Pg Da<|fun⟨c,e⟩ _=>?_;refine Ends.eq (T29.Ch c e)<|Ends.ite (fun h=>Ends.leaf<|AV.of rfl rfl ?_)<|fun h=>Ends.leaf<|AV.of rfl rfl ?_
 ·show e=FY c e;rw[h];rfl
 ·show(0:Int)=FY c e;rw[h];rfl
theorem O5:Un TH:=Be T29.ok Lm
theorem T30.ok:Aq Dj 30 Ik:=by
 refine Pg O5<|fun(i:Int×Int×Int) _=>?_;obtain⟨n,a,h⟩:=i;have b:∀e ob,e=BT n a h->AV Ik (n,a,h) (.dat i64 e) ob:=fun e ob x=>AV.of rfl rfl x
 refine Ends.eq (T30.Ch n a h)<|Ends.ite (fun c=>Ends.tt rfl (Ends.leaf<|b _ _ ?_))<|fun c=>Ends.tt rfl (Ends.leaf<|b _ _ ?_)
 ·unfold BT;rw[wa<|.inl<|w6 c];rfl
 ·have c:=w7 c;unfold BT FY;by_cases d:h<n
  ·rw[wa<|.inr d,w4<|show n>h from d];rfl
  ·rw[w9 a8,w8<|show ¬n>h from d];rfl
theorem T9.ok:Aq Dj 9 Ik:=by
 refine Pg Da<|fun(i:Int×Int×Int) _=>?_;obtain⟨n,a,h⟩:=i;have b:∀e ob,e=BT n a h->AV Ik (n,a,h) (.dat i64 e) ob:=fun e ob x=>AV.of rfl rfl x
 refine Ends.eq (T9.Ch n a h)<|Ends.ite (fun c=>Ends.leaf<|b _ _ ?_)<|fun c=>Ends.ite (fun d=>Ends.leaf<|b _ _ ?_)<|fun d=>Ends.leaf<|b _ _ ?_
 ·unfold BT;rw[wa<|.inl<|w6 c]
 ·have d:=w6 d;unfold BT;rw[wa<|.inr d]
 ·have c:=w7 c;have d:=w7 d;unfold BT;rw[w9 a8]
theorem T4.ok:Aq Dj 4 Na:=by
 refine Pg Da<|fun(l:List Int) _=>?_;have a:∀b ob,b=HB l->AV Na l (.dat .bool b) ob:=fun b ob x=>AV.of rfl rfl x
 have e:∀ob,true=HB l->AV Na l (.bl true) ob:=fun ob x=>AV.of rfl rfl x
 refine Ends.eq (T4.Ch l)<|Ends.ite (fun c=>Ends.ite (fun d=>Ends.leaf<|e _ ?_)<|fun d=>Ends.leaf<|a _ _ ?_)<|fun c=>Ends.leaf<|a _ _ ?_
 ·have c:=w6 c;have d:=w6 d;unfold HB;rw[w4 (show 20<l.length by omega),w4<|show l.length<=200 by omega];rfl
 ·have d:=w7 d;unfold HB;rw[w8 (show ¬l.length<=200 by omega),ZH,Bool.false_or];exact decide_eq_decide.2 a8
 ·have c:=w7 c;unfold HB;rw[w8 (show ¬20<l.length by omega),Bool.false_and,Bool.false_or];exact decide_eq_decide.2 a8
theorem Ke{n:Int}{i:Nat}(a:(i:Int)<n):(Cs n)[i]?=some (i:Int):=by
 unfold Cs;rw[List.getElem?_map,List.getElem?_range a8];rfl
theorem Ec(n:Int):(Cs n).length=n.toNat:=by
 unfold Cs;rw[Zs,List.length_range]
namespace T31
theorem loop{n:Int}(h0:0<=n)(c:n<=1000000):∀(k i:Nat),i+k=n.toNat->Ends Cf (L1 n.toNat (n.toNat:Int) (i:Int)<|(Cs n).take i++ZC k 0) (AV PD n)
 |0,i,h=>by
  have e:i=n.toNat:=h;have t:(Cs n).take i++ZC 0 0=Cs n:=by
   rw[e,Zq<|by rw[Ec];exact Zj _];exact Zt _
  rw[t];exact Ends.A4 (Bx ..) (Ends.ff (w8 a8)<|Ends.leaf<|AV.of (QW rfl (Ec n).symm) rfl rfl)
 |k+1,i,h=>by
  have b:Za .i64 ((i:Int)+1)=((i+1:Nat):Int):=by rw[wr _ a8 a8];omega
  have a:((Cs n).take i).length=i:=by rw[Zi,Ec];omega
  have s:((Cs n).take i++ZC (k+1) 0).set i (i:Int)=(Cs n).take (i+1)++ZC k 0:=by
   rw[List.set_append_right _ _ a8,a,Nat.sub_self,List.replicate_succ,List.set_cons_zero,List.take_add_one,Ke a8,List.append_assoc];rfl
  refine Ends.A4 (Bx ..) ?_;conv=>zeta
  rw[b,Zk,s];exact Ends.tt (w4 a8) (Ends.tt (Bc (w4 a8)<|w4 a8)<|Ends.tt (w4<|by rw[ZD,a,List.length_replicate];omega)<|loop h0 c k (i+1) a8)
theorem ok:Aq Dj 31 PD:=by
 refine Pg Da<|fun(n:Int) a=>?_;have a:(decide (0<=n)&&decide (n<=1000000))=true:=a;rw[Zc,w5,w5]at a;refine Ends.eq (Ch n) (Ends.tt (Bc (Bc (Bc (w4 a.1)<|w4 rfl)<|w4 a8)<|w4 a8) ?_);have g:=loop a.1 a.2 n.toNat 0 a8;rw[List.take_zero,List.nil_append]at g;exact g
end T31
namespace T8
variable {Q:PV->Ob->Prop}
theorem loop(l:List Int)(o:l.length<=1000000)(a:EK l=true->∀ob,Q (.dat i64 3) ob)(g:EK l=false->∀ob,Q (.dat i64 0) ob):∀(r:List Int) (i:Nat),l.drop i=r->i<=l.length->EK l=EK r->Ends Cf (L1 l (i:Int)) Q
 |[],i,h,j,e=>by
  have:=drop_nil h j;exact Ends.A4 (Bx ..) (Ends.ff (w8 a8)<|Ends.leaf<|g e _)
 |x::r,i,h,j,e=>by
  obtain⟨m,k,q⟩:=drop_cons (d:=(0:Int)) h;have n:Za .i64 ((i:Int)+1)=((i+1:Nat):Int):=by rw[wr _ a8 a8];omega
  have f:(decide ((0:Int)<=(i:Int))&&decide ((i:Int)<(l.length:Int)))=true:=Bc (w4 a8) (w4 a8);have b:EK (x::r)=((decide (x< -999999999)||decide (x>999999999))||EK r):=List.any_cons;refine Ends.A4 (Bx ..) ?_;conv=>zeta
  rw[Zk,k,n];refine Ends.tt (w4 a8)<|Ends.tt f<|Ends.ite (fun c=>Ends.leaf<|a ?_ _)<|fun c=>Ends.tt f<|Ends.ite (fun d=>Ends.leaf<|a ?_ _)<|fun d=>loop l o a g r (i+1) q m ?_
  ·have c:decide (x< -999999999)=true:=c;rw[e,b,c];rfl
  ·have d:decide (x>999999999)=true:=d;rw[e,b,d,Bool.or_true];rfl
  ·have c:decide (x< -999999999)=false:=c;have d:decide (x>999999999)=false:=d;rw[e,b,c,d];rfl
theorem ok:Aq Dj 8 Sd:=by
 refine Pg Da<|fun(l:List Int) a=>?_;have a:l.length<=1000000:=w6 a;have b:∀e ob,e=KW l->AV Sd l (.dat i64 e) ob:=fun e ob x=>AV.of rfl rfl x
 refine Ends.eq (Ch l)<|Ends.ite (fun c=>Ends.leaf<|b _ _ ?_)<|fun c=>loop l a (fun f ob=>b _ _ ?_) (fun f ob=>b _ _ ?_) l 0 rfl (Nat.zero_le _) rfl
 ·have c:=w6 c;unfold KW;rw[wa a8]
 ·have c:=w7 c;unfold KW;rw[w9 a8,wa f]
 ·have c:=w7 c;unfold KW;rw[w9 a8,w9<|by rw[f];decide]
end T8
namespace T11
variable {Q:PV->Ob->Prop}
theorem loop(a b:List Int)(r:a.length<=1000000)(m:a.length=b.length)(g:a=b->∀ob,Q (.bl true) ob)(d:a≠b->∀ob,Q (.bl false) ob):∀(k i:Nat),i+k=a.length->(∀j,j<i->a.getD j 0=b.getD j 0)->Ends Cf (L1 a b (i:Int)) Q
 |0,i,h,c=>by
  refine Ends.A4 (Bx ..) (Ends.ff (w8 a8)<|Ends.leaf<|g ?_ _);refine List.ext_getElem m fun j s o=>?_
  have:=c j a8;rw[Zd,Zf s,Zd,Zf o]at this;exact this
 |k+1,i,h,c=>by
  have q:Za .i64 ((i:Int)+1)=((i+1:Nat):Int):=by rw[wr _ a8 a8];omega
  have f:∀n:Nat,i<n->(decide ((0:Int)<=(i:Int))&&decide ((i:Int)<(n:Int)))=true:=fun n u=>Bc (w4 a8) (w4 a8)
  refine Ends.A4 (Bx ..) ?_;conv=>zeta
  rw[q,Zk];refine Ends.tt (w4 a8) (Ends.tt (f _ a8)<|Ends.tt (f _ a8)<|Ends.ite (fun z=>Ends.leaf<|d ?_ _) (fun z=>loop a b r m g d k (i+1) a8 fun j t=>?_))
  ·rintro rfl;simp at z
  ·have z:a.getD i 0=b.getD i 0:=by simpa using z
   by_cases e:j=i
   ·rw[e];exact z
   ·exact c j a8
theorem ok:Aq Dj 11 LL:=by
 refine Pg Da<|fun(i:List Int×List Int) c=>?_;obtain⟨a,b⟩:=i;have c:a.length<=1000000:=w6 c;have d:∀v ob,v=decide (a=b)->AV LL (a,b) (.bl v) ob:=fun v ob e=>AV.of rfl rfl e
 refine Ends.eq (Ch a b)<|Ends.ite (fun z=>Ends.leaf<|d _ _ ?_)<|fun z=>?_
 ·refine(w8 fun e=>?_).symm;subst e;simp at z
 ·have z:a.length=b.length:=by
   have z:(a.length:Int)=(b.length:Int):=by simpa using z
   omega
  exact loop a b c z (fun e ob=>d _ _ (w4 e).symm) (fun e ob=>d _ _ (w8 e).symm) a.length 0 a8 (fun j h=>wd h a8)
end T11
end Go.Pe
namespace Go.Sp
def Tf(l:List Int)(n:Int):Nat:=l.countP fun x=>decide (x=n)
theorem RH(l:List Int)(n:Int):Bn l n=less l n+Tf l n:=by
 unfold Bn less Tf;induction l with
 |nil=>rfl
 |cons x l c=>
  rw[Zz,Zz,Zz,c];by_cases a:x<n
  ·rw[wa (w4<|show x<=n by omega),wa<|w4 a,w9<|by simp;omega];omega
  ·by_cases b:x=n
   ·rw[wa (w4<|show x<=n by omega),w9 (by simp;omega),wa<|w4 b];omega
   ·rw[w9 (by simp;omega),w9 (by simp;omega),w9<|by simp;omega];omega
theorem JZ(f:Int->Bool){l:List Int}{c:Nat}(a:c<l.length):(l.take<|c+1).countP f=(l.take c).countP f+if f (l.getD c 0)=true then 1 else 0:=by
 rw[Zx a,ZB,List.countP_singleton,Zd,Zf a];rfl
end Go.Sp
namespace Go.Pe
open Sp
open Go.Det
abbrev c0:Bool:=decide (1<=1)&&decide (0<1)&&decide ((3*1+2000)*8<=562949953421312)
abbrev c1(n m:Nat):Bool:=decide (1<=1)&&true&&decide (n=m)&&decide ((3*(n+1)+2000)*8<=562949953421312)
theorem QK:c0=true:=rfl
theorem Rf{n m:Nat}(h:n=m)(a:n<=1000000):c1 n m=true:=Bc (Bc rfl (w4 h)) (w4 a8)
theorem NB{i n:Nat}(h:i<n):(decide ((0:Int)<=(i:Int))&&decide ((i:Int)<(n:Int)))=true:=ad a8 a8
theorem Sf{i:Nat}(h:i<=1000000):Za .i64 ((i:Int)+1)=((i+1:Nat):Int):=by rw[wr _ a8 a8];omega
theorem A6{st:Ae}{a b:Sh}{l:List Sh}{p:PV}{ps:List PV}{x:a.T}{y:(A5 (b::l)).T}(c:Dp st a p=some (true,x))(d:A0 st (b::l) ps=some (true,y)):A0 st (a::b::l) (p::ps)=some (true,(x,y)):=by
 simp only[A0,c,d];rfl
namespace T10
variable {Q:PV->Ob->Prop}{l:List Int}{p:Int}
theorem inner{F:Int->Int->Int->Tr}{K:Int->Int->Tr}{i:Nat}(g:i<l.length)(q:l.length<=1000000)
  (j:∀a b c,stepT Cf (F a b c)=.ite (decide (c<(l.length:Int))) (.ite (decide (0<=c)&&decide (c<(l.length:Int))) (.ite (decide (0<=(i:Int))&&decide ((i:Int)<(l.length:Int))) (.ite (decide (l.getD c.toNat 0<l.getD (Int.toNat (i:Int)) 0)) (.ite (decide (0<=c)&&decide (c<(l.length:Int))) (.ite (decide (0<=(i:Int))&&decide ((i:Int)<(l.length:Int))) (.ite (l.getD c.toNat 0==l.getD (Int.toNat (i:Int)) 0) (F (Za .i64<|a+1) (Za .i64<|b+1)<|Za .i64<|c+1)<|F (Za .i64<|a+1) b<|Za .i64<|c+1) .fail) .fail)<|.ite (decide (0<=c)&&decide (c<(l.length:Int))) (.ite (decide (0<=(i:Int))&&decide ((i:Int)<(l.length:Int))) (.ite (l.getD c.toNat 0==l.getD (Int.toNat (i:Int)) 0) (F a (Za .i64<|b+1)<|Za .i64<|c+1)<|F a b<|Za .i64<|c+1) .fail) .fail) .fail) .fail) (K a b))
  (m:Ends Cf (K (Sp.less l (l.getD i 0):Nat) (Tf l (l.getD i 0):Nat)) Q):∀(k c:Nat),c+k=l.length->Ends Cf (F (Sp.less (l.take c) (l.getD i 0):Nat) (Tf (l.take c) (l.getD i 0):Nat) (c:Int)) Q
 |0,c,h=>by
  have e:c=l.length:=h;refine Ends.A4 (j ..) (Ends.ff (w8 a8) ?_);rw[Zq a8];exact m
 |k+1,c,h=>by
  have d:=inner g q j m k (c+1) a8;have f:c<l.length:=a8
  unfold Sp.less Tf at d ⊢;have o:(l.take c).countP (fun x=>decide (x<l.getD i 0))<=1000000:=Zm Ze (by rw[Zi];omega);have n:(l.take c).countP (fun x=>decide (x=l.getD i 0))<=1000000:=Zm Ze (by rw[Zi];omega);rw[JZ _ f,JZ _ f]at d;refine Ends.A4 (j ..) ?_;conv=>zeta
  rw[Zk,Zk,Sf (i:=c) a8,Sf o,Sf n];refine Ends.tt (w4 a8)<|Ends.tt (NB f)<|Ends.tt (NB g)<|Ends.ite (fun a=>Ends.tt (NB f)<|Ends.tt (NB g)<|Ends.ite (fun b=>?_)<|fun b=>?_)<|fun a=>Ends.tt (NB f)<|Ends.tt (NB g)<|Ends.ite (fun b=>?_)<|fun b=>?_
  ·have a:=w6 a;have b:l.getD c 0=l.getD i 0:=by simpa using b
   omega
  ·have b:l.getD c 0≠l.getD i 0:=by simpa using b
   rw[wa a,w9<|by simpa using b]at d;exact d
  ·have b:l.getD c 0=l.getD i 0:=by simpa using b
   rw[w9 (by rw[a];decide),wa<|w4 b]at d;exact d
  ·have b:l.getD c 0≠l.getD i 0:=by simpa using b
   rw[w9 (by rw[a];decide),w9<|by simpa using b]at d;exact d
def St(l:List Int)(p:Int)(i:Nat)(a b:List Int):Tr:=if a=[]then(if b=[]then L1 l p i else L4 l p b.length i b)else(if b=[]then L3 l p a.length i a else L7 l p a.length b.length i b a)
def Kt(_l:List Int)(p:Int)(_i:Nat)(A B N:Tr)(a b:Bool)(x y:Int):Tr:=.ite (decide (Za .i64 (x+y)<=p)) (.ite a A .fail)<|.ite (decide (x<p)) (.ite b B .fail) N
theorem after{i:Nat}{A B N:Tr}{a b:Bool}{n:Int}(q:l.length<=1000000)(k:a=true)(f:b=true)
  (j:(Bn l n:Int)<=p->Ends Cf A Q) (g:¬(Bn l n:Int)<=p->(Sp.less l n:Int)<p->Ends Cf B Q) (o:¬(Bn l n:Int)<=p->¬(Sp.less l n:Int)<p->Ends Cf N Q):Ends Cf (Kt l p i A B N a b (Sp.less l n:Nat) (Tf l n:Nat)) Q:=by
 have e:=RH l n;have m:Bn l n<=l.length:=Ze;unfold Kt;rw[wr _ a8 a8,show(Sp.less l n:Int)+(Tf l n:Int)=(Bn l n:Int)by omega];exact Ends.ite (fun c=>Ends.tt k<|j<|w6 c)<|fun c=>Ends.ite (fun d=>Ends.tt f<|g (w7 c)<|w6 d)<|fun d=>o (w7 c)<|w7 d
def Tn(l:List Int)(p:Int):Int->Bool:=fun x=>decide ((Bn l x:Int)<=p)
def NG(l:List Int)(p:Int):Int->Bool:=fun x=> !decide ((Bn l x:Int)<=p)&&decide ((Sp.less l x:Int)<p)
theorem Gz(f:Int->Bool){i:Nat}(a:i<l.length):Sp.placesOf f 0 (l.take<|i+1)=Sp.placesOf f 0 (l.take i)++if f (l.getD i 0)=true then[(i:Int)]else[]:=by
 rw[Zx a,FZ,Zd,Zf a,Zi,Nat.min_eq_left a8,Nat.zero_add];rfl
theorem Jp(f:Int->Bool)(i:Nat):(Sp.placesOf f 0<|l.take i).length<=l.length:=by
 rw[AQ];exact Zm Ze (by rw[Zi];omega)
theorem loop(m:l.length<=1000000)(E:Ends Cf (St l p l.length (Mb l p)<|Fl l p) Q):∀(k i:Nat),i+k=l.length->Ends Cf (St l p i (Sp.placesOf (Tn l p) 0<|l.take i)<|Sp.placesOf (NG l p) 0<|l.take i) Q
 |0,i,h=>by
  have e:i=l.length:=h;rw[Zq a8,e];exact E
 |k+1,i,h=>by
  have f:=loop m E k (i+1) a8;have q:i<l.length:=a8
  have G:=Jp (l:=l) (Tn l p) i;have I:=Jp (l:=l) (NG l p) i;rw[Gz _ q,Gz _ q]at f;generalize Sp.placesOf (Tn l p) 0 (l.take i)=a at f G ⊢;generalize Sp.placesOf (NG l p) 0 (l.take i)=b at f I ⊢;have A:=Sf (i:=i) a8;generalize C:l.getD i 0=n at f;have v:(Bn l n:Int)<=p->Ends Cf (St l p (i+1) (a++[(i:Int)]) b) Q:=fun c=>by
   unfold Tn NG at f;rw[wa<|w4 c,w9 (by rw[w4 c];simp),Zt]at f;exact f
  have u:¬(Bn l n:Int)<=p->(Sp.less l n:Int)<p->Ends Cf (St l p (i+1) a<|b++[(i:Int)]) Q:=fun c d=>by
   unfold Tn NG at f;rw[w9 (by simpa using c),wa (by rw[w8 c,w4 d];rfl),Zt]at f;exact f
  have w:¬(Bn l n:Int)<=p->¬(Sp.less l n:Int)<p->Ends Cf (St l p (i+1) a b) Q:=fun c d=>by
   unfold Tn NG at f;rw[w9 (by simpa using c),w9 (by rw[w8 d,ZH];decide),Zt,Zt]at f;exact f
  have D:a++[(i:Int)]≠[]:=by simp
  have nb:b++[(i:Int)]≠[]:=by simp
  have t:(a++[(i:Int)]).length=Zg a.length 1:=ZD;have r:(b++[(i:Int)]).length=Zg b.length 1:=ZD;by_cases o:a=[]
  ·by_cases j:b=[]
   ·subst o j;show Ends Cf (L1 l p i) Q;refine Ends.A4 (Bx ..) (Ends.tt (w4 a8) ?_);refine inner (F:=L2 l p i) (K:=Kt l p i (L3 l p 1 (i+1:Nat) [(i:Int)]) (L4 l p 1 (i+1:Nat) [(i:Int)]) (L1 l p (i+1:Nat)) c0 c0) q m (fun a b c=>?_) ?_ l.length 0 a8
    ·rw[T1,A];rfl
    ·rw[C];exact after m QK QK v u w
   ·subst o;have s:St l p i [] b=L4 l p b.length i b:=by unfold St;rw[wa rfl,w9 j]
    rw[s];refine Ends.A4 (Mx ..) (Ends.tt (w4 a8) ?_);refine inner (F:=fun x y z=>L6 l p b.length i x y z b) (K:=Kt l p i (L7 l p 1 b.length (i+1:Nat) b [(i:Int)]) (L4 l p (Zg b.length 1) (i+1:Nat)<|b++[(i:Int)]) (L4 l p b.length (i+1:Nat) b) c0<|c1 b.length b.length) q m (fun a b c=>?_) ?_ l.length 0 a8
    ·rw[TF,A];rfl
    ·rw[C];refine after m QK (Rf rfl a8) (fun c=>?_) (fun c d=>?_)<|fun c d=>?_
     ·have g:=v c;unfold St at g;rw[w9 D,w9 j]at g;exact g
     ·have g:=u c d;unfold St at g;rw[wa rfl,w9 nb,r]at g;exact g
     ·have g:=w c d;rw[show St l p (i+1) [] b=L4 l p b.length (i+1:Nat) b by unfold St;rw[wa rfl,w9 j]]at g;exact g
  ·by_cases j:b=[]
   ·subst j;have s:St l p i a []=L3 l p a.length i a:=by unfold St;rw[w9 o,wa rfl]
    rw[s];refine Ends.A4 (RY ..) (Ends.tt (w4 a8) ?_);refine inner (F:=fun x y z=>L5 l p a.length i x y z a) (K:=Kt l p i (L3 l p (Zg a.length 1) (i+1:Nat)<|a++[(i:Int)]) (L7 l p a.length 1 (i+1:Nat) [(i:Int)] a) (L3 l p a.length (i+1:Nat) a) (c1 a.length a.length) c0) q m (fun a b c=>?_) ?_ l.length 0 a8
    ·rw[TD,A];rfl
    ·rw[C];refine after m (Rf rfl a8) QK (fun c=>?_) (fun c d=>?_)<|fun c d=>?_
     ·have g:=v c;unfold St at g;rw[w9 D,wa rfl,t]at g;exact g
     ·have g:=u c d;unfold St at g;rw[w9 o,w9 nb]at g;exact g
     ·have g:=w c d;unfold St at g;rw[w9 o,wa rfl]at g;exact g
   ·have s:St l p i a b=L7 l p a.length b.length i b a:=by unfold St;rw[w9 o,w9 j]
    rw[s];refine Ends.A4 (Kf ..) (Ends.tt (w4 a8) ?_);refine inner (F:=fun x y z=>L8 l p a.length b.length i x y z b a) (K:=Kt l p i (L7 l p (Zg a.length 1) b.length (i+1:Nat) b<|a++[(i:Int)]) (L7 l p a.length (Zg b.length 1) (i+1:Nat) (b++[(i:Int)]) a) (L7 l p a.length b.length (i+1:Nat) b a) (c1 a.length a.length)<|c1 b.length b.length) q m (fun a b c=>?_) ?_ l.length 0 a8
    ·rw[Oq,A];rfl
    ·rw[C];refine after m (Rf rfl a8) (Rf rfl a8) (fun c=>?_) (fun c d=>?_)<|fun c d=>?_
     ·have g:=v c;unfold St at g;rw[w9 D,w9 j,t]at g;exact g
     ·have g:=u c d;unfold St at g;rw[w9 o,w9 nb,r]at g;exact g
     ·have g:=w c d;unfold St at g;rw[w9 o,w9 j]at g;exact g
theorem ok:Aq Dj 10 Jj:=by
 refine Pg Da<|fun(i:List Int×Int) g=>?_;obtain⟨l,p⟩:=i;have g:(decide (l.length<=1000000)&&decide (0<=p)&&decide (p<=1000000))=true:=g;rw[Zc,Zc,w5,w5,w5]at g;obtain⟨⟨hl,p0⟩,p1⟩:=g;have go:=loop (l:=l) (p:=p) (Q:=AV Jj (l,p)) hl ?_ l.length 0 a8
 ·exact Ends.eq (Ch l p) go
 have j:(Mb l p).length<=l.length:=by
  unfold Mb;rw[AQ];exact Ze
 have e:∀v ob a b n,FV [Dw,Dw,i64] v ob=some (true,(a,b,n))->(a,b,n)=(Mb l p,Fl l p,EX l p)->AV Jj (l,p) v ob:=fun v ob a b n k m=>⟨_,k,m⟩
 have c:EX l p=if Fl l p=[]then 0 else p-(Mb l p).length:=rfl
 generalize Mb l p=a at j e c ⊢;generalize Fl l p=b at e c ⊢;generalize EX l p=n at e c;unfold St;by_cases f:a=[]
 ·by_cases d:b=[]
  ·subst f d;rw[wa rfl,wa rfl];rw[wa rfl]at c;subst c;exact Ends.A4 (Bx ..) (Ends.ff (w8 a8)<|Ends.tt rfl (Ends.leaf<|e _ _ [] [] 0 rfl rfl))
  ·subst f;rw[wa rfl,w9 d];rw[w9 d]at c;have z:((b.length:Int)==0)=false:=by
    have:=List.length_pos_iff.2 d;simp;omega
   refine Ends.A4 (Mx ..) (Ends.ff (w8 a8)<|Ends.ff z<|Ends.leaf<|e _ _ [] b n ?_ rfl);rw[wr _ a8 a8,show p-0=n by rw[c,List.length_nil];omega];exact A6 rfl (A6 (Co rfl rfl rfl) rfl)
 ·by_cases d:b=[]
  ·subst d;rw[w9 f,wa rfl];rw[wa rfl]at c;subst c;exact Ends.A4 (RY ..) (Ends.ff (w8 a8)<|Ends.tt rfl (Ends.leaf<|e _ _ a [] 0 (A6 (Co rfl rfl rfl) rfl) rfl))
  ·rw[w9 f,w9 d];rw[w9 d]at c;have z:((b.length:Int)==0)=false:=by
    have:=List.length_pos_iff.2 d;simp;omega
   refine Ends.A4 (Kf ..) (Ends.ff (w8 a8)<|Ends.ff z<|Ends.leaf<|e _ _ a b n ?_ rfl);rw[wr _ a8 a8, <-c];exact A6 (Co rfl rfl rfl)<|A6 (Co rfl rfl rfl) rfl
end T10
end Go.Pe
