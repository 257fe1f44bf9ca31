import Derived.Test.YtipkapecgjpnlaaGreatDoorX08
import Derived.Lib.Mul64
/- A part of a proof; no law is stated here. -/
noncomputable section
open Go.IntKind renaming wrap -> Za, i64 -> Zq
open Go.Pe.Sh renaming list -> Zb, pair -> Zc, str -> Zh, bool -> ZJ, int -> ZU
open Bool renaming and_eq_true -> Zd, not_eq_true' -> Zw, and_eq_false_iff -> ZD, and_true -> ZV
open List renaming getD_eq_getElem?_getD -> Ze, getElem?_eq_getElem -> Zf, mem_singleton -> Zg, take_succ_eq_append_getElem -> Zn, mem_cons_self -> Zr, all_cons -> Zu, length -> Zx, mem_cons_of_mem -> Zy, getElem?_map -> ZB, length_cons -> ZE, mem_map -> ZK, drop_eq_getElem_cons -> ZL, mem_cons -> ZN, getD -> ZO, nodup_cons -> ZQ, map_append -> ZR, headD_cons -> ZS
open Go.Sp renaming letter -> Zi, isName -> Zj, mark -> Zl
open Int renaming ediv_emod_unique -> Zk, emod_lt_of_pos -> Zm, emod_nonneg -> Zt, mul_ediv_add_emod -> ZC, mul_le_mul_of_nonneg_left -> ZG, le_refl -> ZM, toNat -> ZP, tmod -> ZT
open Go.Pe.PV renaming cells -> Zo
open Nat renaming le_refl -> Zp, eq_of_beq_eq_true -> Zv, beq -> Zz, add -> ZF, zero_le -> ZH, le_trans -> ZI
open Go.Pe.Ev renaming Ae -> Zs
open Option.some renaming injEq -> ZA
open Prod renaming snd -> ZW
variable {Q:Go.Pe.PV->Go.Pe.Ob->Prop}
namespace Go.Pe
open Go.Det
section
variable {B:Nat}{h0:H0}{X:AW}{F:Fz}{ρ:BX}{N:Nat}{st st':Ag}{fr:Fr}{h:H}
theorem FX:∀ {ps:List PV} {i t:Nat} {p:PV},(t,p)∈Cr ps i->∃k,t=i+k/\ps[k]?=some p
 |[],i,t,p,h=>by cases h
 |q::ps,i,t,p,h=>by
  rcases ZN.1 h with h|h
  ·simp_all
  ·obtain⟨k,a,b⟩:=FX h;exact⟨k+1,by grind,by grind⟩
theorem T4{ps:List PV}{vs:List V}(b:AJ F ρ N ps vs)(n:Nat)(ob:Ob)(nx:Nat)(_hnx:nx=N):FP F ρ N (Ba (ZF ps.length<|Nat.sub n ps.length) (Cr ps 0) ob nx) (Fp n vs):=by
 refine⟨by show ps.length+(n-ps.length)=vs.length+(n-vs.length);rw[b.len],fun t=>?_⟩;show PR F ρ N (((Cn<|Cr ps 0).get t).getD .any) _;cases d:(Cn<|Cr ps 0).get t with
 |none=>grind [PR]
 |some p=>
  rcases Dk _ .leaf t p d with c|c
  ·obtain⟨k,i,f⟩:=FX c;obtain rfl:t=k:=a8
   obtain⟨v,a,e⟩:=b.get f;have g:=(List.getElem?_eq_some_iff.1 a).1;unfold Fp Fr.get;rw[GS,wb a8,Nat.sub_zero,a];exact e
  simp_all
theorem Ql{T:AP}{st s:Ag}{t:TypeId}{a p:PV}(h:(Hg T st t a).To p s):s=st:=by
 unfold Hg at h;split at h
 case h_2=>simp_all
 split at h
 case h_4=>simp_all
 ·split at h
  case h_4=>simp_all
  case h_3=>simp_all
  ·simp_all
  ·rename_i b l _;cases c:(Zz _ 0&&Zz b.sz 1)with
   |false=>rw[c]at h;simp_all
   |true=>simp_all
 ·split at h
  case h_2=>simp_all
  rename_i sz j off _ _ _ b l _;cases c:(Zz sz b.sz)with
  |false=>simp_all
  |true=>simp_all
 simp_all
theorem IB{Q:PV->Ob->Prop}{n:Nat}{t:Tr}:∀ {cs:List Bool},Ev X Q n (KP cs t)->(∀c∈cs,c=true)/\Ev X Q n t
 |[],h=>⟨(by simp),h⟩
 |c::cs,h=>by
  rcases h.Cp with⟨d,a⟩|⟨_,a⟩
  ·obtain⟨e,b⟩:=IB a;grind
  grind [Zs]
theorem LQ:∀ {k:List ResultVar} {ps:List PV} {F:Fz} {ρ:BX},Rel B h0 F ρ st fr h->Qk X.C.T st k=some ps->(∀c∈Ha X.C.T st k,c=true)->
  ∃vs F' ρ',Ih X.C fr h k=some vs/\AJ F' ρ' st.nx ps vs/\Rel B h0 F' ρ' st fr h/\Le F ρ st.nx F' ρ' st.nx
 |[],ps,F,ρ,f,g,_=>by cases g;exact⟨[],F,ρ,rfl,by simp,f,Le.refl⟩
 |r::k,ps,F,ρ,f,g,e=>by
  unfold Qk at g;split at g
  case h_2=>cases g
  rename_i p q i A;cases g;have key:∃v F1 d,ON X.C fr h r=some v/\PR F1 d st.nx p v/\Rel B h0 F1 d st fr h/\Le F ρ st.nx F1 d st.nx:=by
   cases r with
   |tmp t=>
    simp only[SO,ZA]at i;subst i;exact⟨_,F,ρ,rfl,f.fp.slot t,f,Le.refl⟩
   |cell a t=>
    have j:∃s,(Hg X.C.T st t<|st.get a).To p s:=by
     simp only[SO]at i;split at i
     case h_3=>cases i
     ·simp_all
     ·rename_i c u s o;cases i;refine⟨s,?_⟩;have:=e c (by grind [Ha]);rw[o,this];show(PO.EF true p s).To p s;simp
    obtain⟨s,j⟩:=j;have z:s=st:=Ql j;subst z;obtain⟨v',h',F',ρ',b,g2,g3,g4,g5,g6,g7,g8⟩:=RQ (C:=X.C) f.sr (f.fp.slot a) j;cases l:Ct X.C.T h t (fr.get a)with
    |none=>rw[l]at b;rcases b with b|⟨b,_⟩<;>cases b
    |some w=>
     rw[l]at b;rcases b with b|⟨b,_⟩
     ·simp only[AE,ZA,OR.val.injEq]at b;obtain⟨rfl,rfl⟩:=b;exact⟨w,F',ρ',l,g2,⟨f.fp.mono g4,g3⟩,g4⟩
     ·cases b
  obtain⟨v,F1,d,D,m,n,x⟩:=key;obtain⟨vs,F2,ρ2,k5,k6,k7,k8⟩:=LQ n A (fun c y=>e c (by
   cases r with
   |tmp t=>exact y
   |cell a t=>
    grind [Ha]))
  exact⟨v::vs,F2,ρ2,by simp[Ih,D,k5],by simp only[AG];exact⟨m.mono k8,k6⟩,k7,x.trans k8⟩
theorem E2{nd:Bool}{d:Nat}(A:∀h0,CC B h0 X nd<|AY X nd d)(s:∀h0,CC B h0 X false<|AY X false d)(hmg:X.C.mg=false){g:FuncId}(hsp:X.C.spec g=none)(Y:X.C.prim g=none)(hno:X.sp g=none){Q:PV->Ob->Prop}{n:Nat}{args:List PV}{k:PV->Ag->Tr}{args':List V}
  (he:Ev X Q n (enter X (AY X nd d) (AY X false d) nd d g args st k)) (G:Rel B h0 F ρ st fr h) (ha:AJ F ρ st.nx args args'):
  (X.C.prim g=none/\∃i,X.C.fn g=some i)/\∃l M,(∀m,M<=m->Aq X.C m (.fn g args') h=some l)/\(nd=false->∃x,l=[x])/\
   ∀x∈l,∃n',n'<=n/\∃r st',Ev X Q n' (k r st')/\∃F' ρ',PR F' ρ' st'.nx r x.1/\Bu B h0 F ρ st.nx h st' fr x.2 F' ρ'/\(∀sp,X.sp g=some sp->∀b,b<h.nx->x.2.get b=h.get b):=by
 unfold enter at he;split at he
 case h_1=>grind [Zs]
 rename_i i hi;cases hc:i.cert with
 |false=>grind [Zs]
 |true=>
  rw[hc]at he;simp only[wc]at he;have hr0:Rel B h0 F ρ (Ba (ZF args.length<|Nat.sub i.ntmps args.length) (Cr args 0) st.ob st.nx) (Fp i.ntmps args') h:=⟨T4 ha i.ntmps st.ob st.nx rfl,G.sr⟩;obtain⟨l,M,hM,I,L⟩:=HS (ro:=false) (rv:=none) (ct:=true) (by simp) A s n i.body (st:=Ba (ZF args.length<|Nat.sub i.ntmps args.length) (Cr args 0) st.ob st.nx) [] (Zp st.nx) hr0 he;have fin:∀x∈l,∃(r:List (V×H)) (M:Nat),(∀m:Nat,M<=m->∀q:Nat,M<=q->(match x.e with
      | .exit _=>none
      |_=>match C9 x.ds x.h with
       |some c=>match Ig X.C x.fr c i.results.toList with
        |some v=>some [(v,c)]
        |none=>none
       |none=>none)=some r)/\(nd=false->∃x,r=[x])/\∀x∈r,∃n',n'<=n/\∃r st',Ev X Q n' (k r st')/\∃F' ρ',PR F' ρ' st'.nx r x.1/\Bu B h0 F ρ st.nx h st' fr x.2 F' ρ'/\(∀sp,X.sp g=some sp->∀b,b<h.nx->x.2.get b=h.get b):=by
   intro x hx;obtain⟨ps,⟨hds,u,hge⟩,n1,hn1,a,D,F1,ρ1,w,hb1,E,hx1'⟩:=L x hx;obtain⟨e,fr1,hx0,ds1⟩:=x;obtain⟨c,hlv,hsr1,hnx1,_⟩:=SR.leave u (fun b W hp=>by
    have k1:=hge b W;have k2:=G.sr.lt b _ (G.sr.pn b hp).1;omega) w.sr
   have Z:Rel B h0 F1 ρ1 a fr1 c:=⟨w.fp,hsr1⟩;have hx1:h.nx<=c.nx:=a8
   have go:(∀j,e≠ .exit j)->Ev X Q n1 (match Qk X.C.T a i.results.toList with|some vs=>KP (Ha X.C.T a i.results.toList) (k (Go.Pe.one vs) ⟨st.n,st.fr,a.ob,a.nx⟩)|none=>.fail)->
     ∃v',Ig X.C fr1 c i.results.toList=some v'/\∃n',n'<=n/\∃r st',Ev X Q n' (k r st')/\∃F' ρ',PR F' ρ' st'.nx r v'/\Bu B h0 F ρ st.nx h st' fr c F' ρ'/\(∀sp,X.sp g=some sp->∀b,b<h.nx->c.get b=h.get b):=by
    intro hne o;split at o
    case h_2=>grind [Zs]
    rename_i ps hps;obtain⟨y,o⟩:=IB o;obtain⟨vs,F2,ρ2,k1,k2,k3,k4⟩:=LQ Z hps y;have K:Le F ρ st.nx F2 ρ2 a.nx:=⟨fun b cs W=>k4.fz _ _<|E.fz _ _ W,fun id hid=>by
     rcases k4.rho id a8 with e|e
     ·rw[e];exact E.rho id hid
     grind,hb1⟩
    have J:∃R,Ig X.C fr1 c i.results.toList=some R/\PR F2 ρ2 a.nx (Go.Pe.one ps) R:=by
     unfold Ig;rw[k1];cases ps with
     |nil=>subst k2;exact⟨_,rfl,by simp[Go.Pe.one,PR]⟩
     |cons p ps=>
      obtain⟨v1,vs1,rfl,U,O⟩:=k2;cases ps with
      |nil=>subst O;exact⟨_,rfl,U⟩
      |cons q qs=>
       obtain⟨v2,vs2,rfl,_,_⟩:=O;refine⟨_,rfl,?_⟩;show PR F2 ρ2 a.nx (.tup (p::q::qs)) _;simp_all [PR]
    obtain⟨R,q1,S⟩:=J;exact⟨R,q1,n1,hn1,_,_,o,F2,ρ2,S,⟨⟨⟨G.fp.n,fun t=>(G.fp.slot t).mono K⟩,k3.sr⟩,K,hx1⟩,ae⟩
   cases e with
   |normal=>
    obtain⟨v',q1,S⟩:=go (by simp) D;exact⟨[(v',c)],0,ae,(by simp),ae⟩
   |ret=>
    obtain⟨v',q1,S⟩:=go (by simp) D;exact⟨[(v',c)],0,ae,(by simp),ae⟩
   |exit j=>grind [Zs]
  obtain⟨r,M2,U,O,g3⟩:=EP (f:=fun _ _ (x:Det.X)=>match x.e with
      | .exit _=>none
      |_=>match C9 x.ds x.h with
       |some c=>match Ig X.C x.fr c i.results.toList with
        |some v=>some [(v,c)]
        |none=>none
       |none=>none) (P:=fun x=>∃n',n'<=n/\∃r st',Ev X Q n' (k r st')/\∃F' ρ',PR F' ρ' st'.nx r x.1/\Bu B h0 F ρ st.nx h st' fr x.2 F' ρ'/\(∀sp,X.sp g=some sp->∀b,b<h.nx->x.2.get b=h.get b)) I fin
  refine⟨ae,r,max M M2+1,fun m hm=>?_,O,g3⟩;obtain⟨z,rfl⟩:∃z,m=z+1:=⟨m-1,by omega⟩;have hg:=U z a8 z a8;have:Aq X.C (z+1) (.fn g args') h=(match At X.C (Aq X.C z) none i.cert z i.body (Fp i.ntmps args') h []with
    |none=>none
    |some l=>match (bl l fun x=>match x.e with
     | .exit _=>none
     |_=>match C9 x.ds x.h with
      |some c=>match Ig X.C x.fr c i.results.toList with
       |some v=>some [(v,c)]
       |none=>none
      |none=>none)with
     |some r=>some<|bif X.C.mg then G2 h.nx r else r
     |none=>none):=by
   rw[Aq];simp only[hsp,hi];rfl
  grind
theorem GH{nd:Bool}{d:Nat}(u:∀h0,CC B h0 X nd<|AY X nd d)(j:∀h0,CC B h0 X false<|AY X false d){id:Nat}{Q:PV->Ob->Prop}{n:Nat}{args:List PV}{k:PV->Ag->Tr}{args':List V}
  (he:Ev X Q n (Nc X (AY X nd d) (AY X false d) nd d id args st k)) (hr:Rel B h0 F ρ st fr h) (ha:AJ F ρ st.nx args args'):
  ∃c,WS X ρ h args' (.rnd id) c/\∃l M,(∀m,M<=m->Aq X.C m c h=some l)/\(nd=false->∃x,l=[x])/\
   ∀x∈l,∃n',n'<=n/\∃r st',Ev X Q n' (k r st')/\∃F' ρ',PR F' ρ' st'.nx r x.1/\Bu B h0 F ρ st.nx h st' fr x.2 F' ρ':=by
 unfold Nc at he;split at he
 case h_2=>grind [Zs]
 rename_i f r ps asg b n0 sl hob;obtain⟨D,m0,y,k1,k2,⟨ls,rfl,rfl,rfl,rfl,⟨l1,l2⟩,rfl,l4⟩,-⟩:=hr.sr.at hob;cases hsz:Zz args.length ls.ps.size with
 |false=>grind [Zs]
 |true=>
 rw[hsz]at he;simp only[wc]at he;have hlen:args'.length=ls.ps.size:=by rw[<-ha.len];simp_all
 have hid:id<st.nx:=(hr.sr.own _ _ _ k1).1;have hr0:Rel B h0 F ρ (G6 ls.ps.toList args<|Ba ls.fr.n sl st.ob st.nx) (DF ls.ps.toList args' ls.fr) h:=by
  have base0:Rel B h0 F ρ (Ba ls.fr.n sl st.ob st.nx) ls.fr h:=⟨⟨rfl,fun t=>l4 t⟩,hr.sr⟩;have go:∀(ts:List Tmp) (g:List PV) (I:List V) (s:Ag) (f:Fr),s.nx=st.nx->AJ F ρ st.nx g I->Rel B h0 F ρ s f h->Rel B h0 F ρ (G6 ts g s) (DF ts I f) h:=by
   intro ts;induction ts with
   |nil=>intro g I s f _ _ hs;cases g<;>exact hs
   |cons t ts ih=>
    intro g I s f hn hp hs;cases g with
    |nil=>simp only[BM]at hp;subst hp;exact hs
    |cons a g=>
     simp only[AJ]at hp;obtain⟨v,vs,rfl,p1,p2⟩:=hp;simp only[G6,DF];refine ih g vs _ _ ?_ p2 ?_
     ·cases Nat.blt t s.n<;>exact hn
     ·unfold Fr.O9;rw[show s.n=f.n from hs.fp.n];cases Nat.blt t f.n with
      |false=>exact hs
      |true=>exact hs.set ae
  exact go _ _ _ _ _ rfl ha base0
 have hnx0:st.nx<=(G6 ls.ps.toList args<|Ba ls.fr.n sl st.ob st.nx).nx:=by
  have go:∀(ts:List Tmp) (g:List PV) (s:Ag),(G6 ts g s).nx=s.nx:=by
   intro ts;induction ts with
   |nil=>intro g s;rfl
   |cons t ts ih=>
    intro g s;cases g with
    |nil=>rfl
    |cons a g=>simp only[G6];rw[ih];cases Nat.blt t s.n<;>rfl
  rw[go];exact Zp _
 obtain⟨L,M1,hM1,Z,W⟩:=HS (ro:=true) (rv:=some D) (ct:=false) (by simp) u j n ls.asg [] hnx0 hr0 he;refine⟨_,⟨D,m0,ls,k1,k2,hlen,rfl⟩,?_⟩;have fin:∀x∈L,∃(r:List (V×H)) (M:Nat),(∀m:Nat,M<=m->∀q:Nat,M<=q->(match x.e,x.h.get D with
   | .normal,some (.loop l1)=>match l1.st with
    | .ready=>match At X.C (Aq X.C m) (some D) false q ls.body x.fr (x.h.put D<|.loop { l1 with st:=.busy }) x.ds with
     |some l2=>bl l2 fun y=>match y.h.get D with
      |some (.loop P)=>match y.e with
       | .normal=>some [(V.bool true,y.h.put D<|.loop { P with st:=.ready,pend:=none })]
       | .ret=>some [(V.bool false,y.h.put D<|.loop { P with st:=.done,pend:=some .ret })]
       | .exit i=>some [(V.bool false,y.h.put D<|.loop { P with st:=.done,pend:=some (.exit i) })]
      |_=>none
     |none=>none
    |_=>none
   |_,_=>none)=some r)/\(nd=false->∃x,r=[x])/\∀x∈r,∃n',n'<=n/\∃r st',Ev X Q n' (k r st')/\∃F' ρ',PR F' ρ' st'.nx r x.1/\Bu B h0 F ρ st.nx h st' fr x.2 F' ρ':=by
  intro x hx;obtain⟨ps1,_,n1,hn1,s,G,F1,ρ1,E,hb1,hl1,hx1⟩:=W x hx;obtain⟨e,fr1,h1,ds1⟩:=x;simp only at G E hx1 ⊢;cases e with
  |exit i=>grind [Zs]
  |ret=>grind [Zs]
  |normal=>
  simp only at G;split at G
  case h_2=>grind [Zs]
  rename_i f' r' ps' asg' b' n' S J;have hs1:SR B h0 F1 ρ1 s.nx s.ob h1:=E.sr.SL;obtain⟨c1,m1,y1,q1,q2,⟨o,rfl,rfl,rfl,rfl,⟨la1,la2⟩,rfl,la4⟩,-⟩:=hs1.at J;obtain⟨rfl,rfl⟩:c1=D/\m1=m0:=by
   have:=hl1.at hid q1;grind
  have hr2:Rel B h0 F1 ρ1 (s.setObj id<|.lp f' r' o.ps o.asg o.body .busy o.fr.n S) fr1 (h1.put c1<|.loop { o with st:=.busy }):=
   ⟨⟨E.fp.n,fun t=>E.fp.slot t⟩,hs1.set J q1 q2 rfl rfl (o':=.lp f' r' o.ps o.asg o.body .busy o.fr.n S) ⟨_,rfl,rfl,rfl,rfl,rfl,rfl,la4⟩⟩
  obtain⟨L2,M2,hM2,O,R⟩:=HS (ro:=true) (rv:=some c1) (ct:=false) (by simp) u j n1 ls.body ds1 (show st.nx<=(s.setObj id<|.lp f' r' o.ps o.asg o.body .busy o.fr.n S).nx from hb1) hr2 G;have fin2:∀y∈L2,∃(r:List (V×H)) (M:Nat),(∀m:Nat,M<=m->∀q:Nat,M<=q->(match y.h.get c1 with
    |some (.loop P)=>match y.e with
     | .normal=>some [(V.bool true,y.h.put c1<|.loop { P with st:=.ready,pend:=none })]
     | .ret=>some [(V.bool false,y.h.put c1<|.loop { P with st:=.done,pend:=some .ret })]
     | .exit i=>some [(V.bool false,y.h.put c1<|.loop { P with st:=.done,pend:=some (.exit i) })]
    |_=>none)=some r)/\(nd=false->∃x,r=[x])/\∀x∈r,∃n',n'<=n/\∃r st',Ev X Q n' (k r st')/\∃F' ρ',PR F' ρ' st'.nx r x.1/\Bu B h0 F ρ st.nx h st' fr x.2 F' ρ':=by
   intro y hy;obtain⟨ps2,_,n2,hn2,s2,A,F2,U,hr3,hb2,hl2,hx2⟩:=R y hy;obtain⟨e2,fr2,h2,ds2⟩:=y;simp only at A hr3 hx2 ⊢;split at A
   case h_2=>grind [Zs]
   rename_i f2 r2 pp2 aa2 bb2 ss2 nn2 sl2 K;have hs3:SR B h0 F2 U s2.nx s2.ob h2:=hr3.sr.SL;obtain⟨c2,m2,y2,w1,w2,⟨p,rfl,rfl,rfl,rfl,_,rfl,lb4⟩,-⟩:=hs3.at K;have T:Le F ρ st.nx F2 U s2.nx:=by
    have h:=hl1.trans hl2;exact⟨h.fz,h.rho,hb2⟩
   obtain⟨rfl,rfl⟩:c2=c1/\m2=m1:=by
    have:=T.at hid w1;grind
   have hnx:h.nx<=h2.nx:=ZI hx1 hx2;have w:∀(sb:XM) (Y:LoopState) (pe:Option Code) (rb:Bool),YI sb Y pe->Ev X Q n2 (k (.bl rb) ⟨st.n,st.fr,(s2.setObj id<|.lp f2 r2 p.ps p.asg p.body sb p.fr.n sl2).ob,s2.nx⟩)->
     ∃n',n'<=n/\∃r st',Ev X Q n' (k r st')/\∃F' ρ',PR F' ρ' st'.nx r (V.bool rb)/\Bu B h0 F ρ st.nx h st' fr (h2.put c2<|.loop { p with st:=Y,pend:=pe }) F' ρ':=by
    intro sb Y pe rb hlr he3;refine⟨n2,a8,_,_,he3,F2,U,So _,⟨⟨⟨hr.fp.n,fun t=>(hr.fp.slot t).mono T⟩,?_⟩,T,hnx⟩⟩;exact hs3.set K w1 w2 rfl rfl (o':=.lp f2 r2 p.ps p.asg p.body sb p.fr.n sl2) ⟨_,rfl,rfl,rfl,rfl,hlr,rfl,lb4⟩
   cases e2 with
   |normal=>exact⟨[(.bool true,h2.put c2<|.loop { p with st:=.ready,pend:=none })],0,ae,(by simp),fun z hz=>by cases Zg.1 hz;exact w .ready _ _ true ⟨rfl,rfl⟩ A⟩
   |ret=>exact⟨[(.bool false,h2.put c2<|.loop { p with st:=.done,pend:=some .ret })],0,ae,(by simp),fun z hz=>by cases Zg.1 hz;exact w .ret _ _ false ⟨rfl,rfl⟩ A⟩
   |exit i=>exact⟨[(.bool false,h2.put c2<|.loop { p with st:=.done,pend:=some (.exit i) })],0,ae,(by simp),fun z hz=>by cases Zg.1 hz;exact w (.exit i) _ _ false ⟨rfl,rfl⟩ A⟩
  obtain⟨r,M3,j1,j2,j3⟩:=EP O fin2;refine⟨r,max M2 M3,fun m hm q hq=>?_,j2,j3⟩;have a1:=hM2 m a8 q a8;simp only at a1;have a2:=j1 m a8 q a8;simp only[q2,la1];rw[a1];exact a2
 obtain⟨r,M4,j1,j2,j3⟩:=EP Z fin;refine⟨r,max M1 M4+1,fun m hm=>?_,j2,j3⟩;obtain⟨m',rfl⟩:∃m',m=m'+1:=⟨m-1,by omega⟩;have a1:=hM1 m' a8 m' a8;simp only at a1;have a2:=j1 m' a8 m' a8;rw[Aq];simp only[Lf];rw[a1];exact a2
end
section
variable {B:Nat}{h0:H0}{X:AW}{F F1 F':Fz}{ρ:BX}{N:Nat}{st st':Ag}{fr:Fr}{h h':H}
theorem OY{p:PV}{v:V}(a:PR F ρ N p v):∃w,AJ F ρ N p.cells w/\(Hn p=true->v=.agg w)/\(Hn p=false->w=[v]):=by
 cases p with
 |agg l=>obtain⟨cs,rfl,b⟩:=a;exact⟨cs,b,fun _=>rfl,fun e=>by cases e⟩
 |_=>exact⟨[v],by simp only[Zo,AG,BM,va];exact a,fun e=>(by cases e),fun _=>rfl⟩
theorem J3{st:Ag}{s:Sh}{p:PV}{x:s.T}{v:V}{w:List V}(a:Dz st s p=some (true,x))(k:Hn p=true->v=.agg w)(m:Hn p=false->w=[v])(g:∀f,Bt st p.cells=some (true,f)->Hv F f w):PC F (AX s x) v:=by
 unfold Dz at a;cases j:(Hn p==s.Ho)with
 |false=>grind
 |true=>
  rw[j]at a;simp only[wc]at a;split at a
  case h_2=>cases a
  rename_i c cs d;split at a
  case h_2=>cases a
  rename_i y i;simp only[ZA,Prod.mk.injEq,Zd]at a;obtain⟨⟨e,rfl⟩,rfl⟩:=a;have b:=Hv.dc (fun ρ N=>J4 (g cs d ρ N) e) i;have n:=PC.AX b;cases l:s.Ho with
  |true=>grind
  |false=>grind
theorem handed:∀ {ps:List PV} {vs:List V} {st:Ag} {F:Fz},SR B h0 F ρ st.nx st.ob h->AJ F ρ st.nx ps vs->
  ∃F1,SR B h0 F1 ρ (Av (ps.flatMap Zo) st).nx (Av (ps.flatMap Zo) st).ob h/\(∀b cs,F b=some cs->F1 b=some cs)/\∀l i,Bm st l ps=some (true,i)->Hv F1 (Af l i) vs
 |[],vs,st,F,j,m=>⟨F,j,fun _ _ h=>h,fun l i e=>by
  have f:vs=[]:=by simp_all
  subst f;match l,i,e with
  |[],_,_=>intro ρ' N';rfl
  |[a],_,e=>cases e
  |a::b::l,_,e=>cases e⟩
 |p::ps,vs,st,F,j,m=>by
  obtain⟨v,vs,rfl,r,s⟩:=m;obtain⟨w,c1,c2,c3⟩:=OY r;obtain⟨F1,g1,g2,g3⟩:=El j c1;have g:AJ F1 ρ (Av p.cells st).nx ps vs:=by rw[(By p.cells st).1];exact s.mono<|Le.PE g2
  obtain⟨o,t,k,z⟩:=handed g1 g;rw[List.flatMap_cons,Eu];refine⟨o,t,ae,fun l i e=>?_⟩;match l,i,e with
  |[],_,e=>cases e
  |[a],i,e=>
   cases ps with
   |cons q u=>cases e
   |nil=>
    have f:vs=[]:=by simp_all
    subst f;have:=(J3 (st:=st) (F:=F1) (by simpa [Bm]using e) c2 c3 g3).mono k;intro ρ' N';simp only[Af,AG,BM,va];exact this ρ' N'
  |a::b::l,i,e=>
   unfold Bm at e;split at e
   case h_2=>cases e
   rename_i c x d y n e2;simp only[ZA,Prod.mk.injEq,Zd]at e;obtain⟨⟨rfl,rfl⟩,rfl⟩:=e;exact Hv.cons ((J3 n c2 c3 g3).mono k) (by grind [Gw,Hk])
theorem SR.after{ob:Ob}(a:SR B h0 F ρ N ob h)(j:∀b,b<h.nx->h'.get b=h.get b)(q:h.nx<=h'.nx)(f:∀b o,h'.get b=some o->b<h'.nx)(p:∀b cs,F b=some cs->F' b=some cs)
  (r:∀b cs,F' b=some cs->F b=some cs\/h.nx<=b) (g:∀b cs,F' b=some cs->∃t fz,h'.get b=some (.cells cs t fz)):SR B h0 F' ρ N ob h':=by
 refine⟨fun id o k=>?_,a.inj,g,a.own,a.dead,fun b c he=>?_,f,ZI a.le q,fun b cs c=>?_,a.gl,fun b c=>by obtain⟨i,l,u⟩:=a.pn b c;exact⟨by rw[j b<|a.lt b _ i];exact i,l,u⟩⟩
 ·obtain⟨b,n,x,d,m,s,v,w⟩:=a.obj id o k;have c:=a.lt b x m;refine⟨b,n,x,d,by grind,s.mono<|Le.PE (ρ:=ρ) p,fun e=>?_,fun e=>?_⟩
  ·cases y:F' b with
   |none=>rfl
   |some cs=>
    grind
  grind
 ·rw[j b<|Nat.lt_of_lt_of_le c a.le];exact a.old b c he
 ·rcases r b cs c with d|d
  ·exact a.fo b cs d
  ·exact .inr<|.inl<|ZI a.le d
theorem SR.gh{ob:Ob}(d:SR B h0 F ρ N ob h):Gh h:=fun x e=>by
 obtain⟨a,b,c⟩:=d.gl x e;rw[d.old _ a b];exact c
structure KO(C:Ctx)(f:FuncId)(sp:Ay):Prop where
 prim:C.prim f=none
 fn:∃i,C.fn f=some i
 run:∀(F:Fz) (h:H) (args:List V) (i:(Bn sp.ins).T),(∀b cs,F b=some cs->∃t fz,h.get b=some (.cells cs t fz))->(∀b o,h.get b=some o->b<h.nx)->Gh h->Hv F (Af sp.ins i) args->sp.pre i=true->
  ∃l M,(∀m,M<=m->Aq C m (.fn f args) h=some l)/\(sp.nd=false->∃x,l=[x])/\∀x∈l,h.nx<=x.2.nx/\(∀b,b<h.nx->x.2.get b=h.get b)/\(∀b o,x.2.get b=some o->b<x.2.nx)/\
   ∃F':Fz,(∀b cs,F b=some cs->F' b=some cs)/\(∀b cs,F' b=some cs->F b=some cs\/h.nx<=b)/\(∀b cs,F' b=some cs->∃t fz,x.2.get b=some (.cells cs t fz))/\
    PC F' (one (Af sp.outs (sp.f i))) x.1
structure Wb(C:Ctx)(f:FuncId)(sp:Ay):Prop where
 run:∃q,C.prim f=some q/\∀(F:Fz) (h:H) (args:List V) (i:(Bn sp.ins).T),Hv F (Af sp.ins i) args->sp.pre i=true->∃v,q args h=some (v,h)/\PC F (one (Af sp.outs (sp.f i))) v
def Al(C:Ctx)(f:FuncId)(sp:Ay):Prop:=KO C f sp\/Wb C f sp
theorem Al.Yq{C:Ctx}{f:FuncId}{sp:Ay}(h:KO C f sp):Al C f sp:=.inl h
theorem Al.zero{C:Ctx}{f:FuncId}{sp:Ay}(h:Al C f sp)(b:C.prim f=none):KO C f sp:=by
 rcases h with h|⟨q,a,_⟩
 ·exact h
 grind
theorem Al.go{C:Ctx}{f:FuncId}{sp:Ay}(ok:Al C f sp)(F:Fz)(h:H)(args:List V)(i:(Bn sp.ins).T)(e:∀b cs,F b=some cs->∃t fz,h.get b=some (.cells cs t fz))(d:∀b o,h.get b=some o->b<h.nx)(c:Gh h)(g:Hv F (Af sp.ins i) args)(k:sp.pre i=true):
  ∃l,(((C.prim f=none/\∃i,C.fn f=some i)/\∃M,∀m,M<=m->Aq C m (.fn f args) h=some l)\/∃q x,C.prim f=some q/\q args h=some x/\l=[x])/\(sp.nd=false->∃x,l=[x])/\∀x∈l,h.nx<=x.2.nx/\(∀b,b<h.nx->x.2.get b=h.get b)/\(∀b o,x.2.get b=some o->b<x.2.nx)/\
   ∃F':Fz,(∀b cs,F b=some cs->F' b=some cs)/\(∀b cs,F' b=some cs->F b=some cs\/h.nx<=b)/\(∀b cs,F' b=some cs->∃t fz,x.2.get b=some (.cells cs t fz))/\
    PC F' (one<|Af sp.outs<|sp.f i) x.1:=by
 rcases ok with ok|⟨q,r,a⟩
 ·obtain⟨l,M,j,n,p⟩:=ok.run F h args i e d c g k;exact⟨l,.inl ⟨⟨ok.prim,ok.fn⟩,M,j⟩,n,p⟩
 ·obtain⟨v,j,n⟩:=a F h args i g k;refine⟨[(v,h)],ae,(by simp),fun x s=>?_⟩;grind
theorem DC.sc:∀ {s:Sh} {x:s.T} {cs:List V},s.sc=true->DC F s x cs->DC F' s x cs
 | .int _,_,_,_,h=>by simpa only[DC]using h
 | .bool,_,_,_,h=>by simpa only[DC]using h
 | .str,_,_,_,h=>by simpa only[DC]using h
 | .list s,l,_,e,h=>by cases e
 | .pair a b,x,_,e,h=>by
  simp only[Sh.sc,Zd]at e;obtain⟨c,d,rfl,f,g⟩:=h;exact⟨c,d,rfl,f.sc e.1,g.sc e.2⟩
 | .unit,_,_,_,h=>by simpa only[DC]using h
 | .nlist s,l,_,e,h=>by cases e
 | .fnv,_,_,_,h=>by simpa only[DC]using h
 | .ptr _,_,_,e,_=>by cases e
theorem KU:∀ {s:Sh} {x:s.T} {cs:List V},s.sc=true->AJ F ρ N (flat s x) cs->Hv F' (flat s x) cs
 | .int k,x,cs,_,h=>fun ρ' N'=>by
  obtain⟨v,vs,rfl,f,rfl⟩:=h;exact⟨v,[],rfl,by simp only[PR]at f ⊢;exact f.sc rfl,rfl⟩
 | .bool,x,cs,_,h=>fun ρ' N'=>by
  obtain⟨v,vs,rfl,f,rfl⟩:=h;exact⟨v,[],rfl,by simp only[PR]at f ⊢;exact f.sc rfl,rfl⟩
 | .str,x,cs,_,h=>fun ρ' N'=>by
  obtain⟨v,vs,rfl,f,rfl⟩:=h;exact⟨v,[],rfl,by simp only[PR]at f ⊢;exact f.sc rfl,rfl⟩
 | .list s,x,cs,e,h=>by cases e
 | .pair a b,(x,y),cs,e,h=>fun ρ' N'=>by
  simp only[Sh.sc,Zd]at e;have key:∀(ps g:List PV) (l:List V),AJ F ρ N (ps++g) l->∃c d,l=c++d/\AJ F ρ N ps c/\AJ F ρ N g d:=by
   intro ps;induction ps with
   |nil=>intro g l j;exact⟨[],l,rfl,by simp,j⟩
   |cons p ps m=>
    intro g l j;obtain⟨v,vs,rfl,f,i⟩:=j;obtain⟨c,d,rfl,h3,h4⟩:=m g vs i;exact⟨v::c,d,rfl,by simp_all,h4⟩
  obtain⟨c,d,rfl,f,i⟩:=key _ _ _ h;exact(KU e.1 f ρ' N').append<|KU e.2 i ρ' N'
 | .unit,_,cs,_,h=>fun ρ' N'=>by simpa [flat]using h
 | .nlist s,x,cs,e,h=>by cases e
 | .fnv,x,cs,_,h=>fun ρ' N'=>by
  simp only[flat,AJ]at h ⊢;grind [PR,BM]
 | .ptr _,_,_,e,_=>by cases e
theorem OH{s:Sh}{x:s.T}{v:V}(e:s.sc=true)(h:PC F (AX s x) v):PC F' (AX s x) v:=by
 intro ρ' N';have h:=h ρ' N';cases s with
 |pair a b=>
  obtain⟨cs,rfl,c⟩:=h;exact⟨cs,rfl,KU e c ρ' N'⟩
 |unit=>simp_all [Pe.AX,PR]
 |int k=>unfold Pe.AX PR at h ⊢;exact h.sc rfl
 |bool=>unfold Pe.AX PR at h ⊢;exact h.sc rfl
 |str=>unfold Pe.AX PR at h ⊢;exact h.sc rfl
 |list s=>cases e
 |nlist s=>cases e
 |ptr s=>cases e
 |fnv=>
  unfold Pe.AX at h ⊢;grind [PR,BM]
theorem Oi:∀ {l:List Sh} {x:(Bn l).T} {vs:List V},l.all Sh.sc=true->Hv F (Af l x) vs->Hv F' (Af l x) vs
 |[],_,vs,_,h=>fun ρ' N'=>by have:=h ρ' N';simpa [Af]using this
 |[a],x,vs,e,h=>fun ρ' N'=>by
  have g:=h ρ' N';obtain⟨v,f,rfl,j,rfl⟩:=g;simp only[Zu,List.all_nil,ZV]at e;simp only[Af,AG,BM,va];refine OH (F:=F) e (fun c d=>?_) ρ' N';have:=h c d;simp_all [Af]
 |a::b::l,x,vs,e,h=>by
  have g:=h (fun _=>none) 0;obtain⟨v,f,rfl,_,_⟩:=g;have i:a.sc=true/\(b::l).all Sh.sc=true:=ae
  exact Hv.cons (OH i.1 fun c d=>((AG ..).1<|h c d).1)<|Oi i.2 fun c d=>((AG ..).1<|h c d).2
theorem LX{l:List Sh}{x:(Bn l).T}{v:V}:PC F (one<|Af l x) v↔∃vs,Hv F (Af l x) vs/\v=(match vs with|[u]=>u|us=>.tup us):=by
 have c:∀ps:List PV,(∀u,ps≠[u])->(PC F (one ps) v↔∃vs,Hv F ps vs/\v=(match vs with|[u]=>u|us=>.tup us)):=by
  intro ps i;have k:one ps=.tup ps:=by
   simp_all [one]
  rw[k];constructor
  ·intro h;have d:=h (fun _=>none) 0;obtain⟨cs,rfl,g⟩:=d;refine⟨cs,fun ρ N=>?_,?_⟩
   ·have m:=h ρ N;grind [PR]
   ·have f:=g.len;split
    ·cases ps with
     |nil=>cases f
     |cons q j=>grind
    ·rfl
  ·rintro⟨vs,d,rfl⟩ ρ N;have f:=(d ρ N).len;split
   ·cases ps with
    |nil=>cases f
    |cons q j=>grind
   ·exact⟨_,rfl,d ρ N⟩
 match l,x with
 |[],x=>exact c [] (by simp)
 |[a],x=>
  simp only[Af,one];constructor
  ·intro h;exact⟨[v],fun ρ N=>by simp only[AG,BM,va];exact h ρ N,rfl⟩
  ·rintro⟨vs,d,rfl⟩ ρ N;have g:=d ρ N;simp only[AJ]at g;grind
 |a::b::l,x=>
  refine c _<|fun u e=>?_;cases l<;>cases e
theorem P4{nd:Bool}{g:FuncId}{sp:Ay}(_hsp:X.sp g=some sp)(o:Al X.C g sp)(O:nd=false->sp.nd=false){Q:PV->Ob->Prop}{n:Nat}{args:List PV}{k:PV->Ag->Tr}{args':List V}(he:Ev X Q n (SV sp args st k))(a:Rel B h0 F ρ st fr h)(A:AJ F ρ st.nx args args'):
  ∃l,Hl X ρ h args' (.fn g) l/\(nd=false->∃x,l=[x])/\
   ∀x∈l,∃n',n'<=n/\∃r st',Ev X Q n' (k r st')/\∃F' ρ',PR F' ρ' st'.nx r x.1/\Bu B h0 F ρ st.nx h st' fr x.2 F' ρ'/\(∀sp,X.sp g=some sp->∀b,b<h.nx->x.2.get b=h.get b):=by
 unfold SV at he;split at he
 case h_2=>grind [Zs]
 rename_i c i J;rcases he.Cp with⟨y,d⟩|⟨_,d⟩
 case inr=>grind [Zs]
 simp only[Zd]at y;obtain⟨rfl,e⟩:=y;obtain⟨F1,g1,g2,g3⟩:=handed a.sr A;obtain⟨l,s,hone,hall⟩:=o.go F1 h args' i g1.frz a.sr.lt a.sr.gh (g3 _ i J) e;have u:Hl X ρ h args' (.fn g) l:=by
  rcases s with⟨p,M,s⟩|⟨q,x,p,L,rfl⟩
  ·exact .Aq ⟨rfl,p⟩ s
  ·exact .prim p L
 refine⟨l,u,ae,fun x R=>?_⟩;obtain⟨m,v,w,F',G,K,E,z⟩:=hall x R;refine⟨n,Zp _,_,_,d,?_⟩;cases I:sp.outs.all Sh.sc with
 |true=>
  have D:PC F (one<|Af sp.outs<|sp.f i) x.1:=by
   grind [LX,Oi]
  refine⟨F,ρ,D ρ _,⟨⟨a.fp,?_⟩,Le.refl,m⟩,ae⟩;refine a.sr.after v m w (by simp) ae<|fun b cs T=>?_;grind
 |false=>
  simp only[wd];obtain⟨S,e2,P⟩:=By (args.flatMap Zo) st;have j:Le F ρ st.nx F' ρ (Av (args.flatMap Zo) st).nx:=by
   grind [Le.PE]
  refine⟨F',ρ,z ρ _,⟨⟨⟨P.trans a.fp.n,fun t=>?_⟩,?_⟩,j,m⟩,ae⟩
  ·have:(Av (args.flatMap Zo) st).get t=st.get t:=by unfold Ag.get;rw[e2]
   rw[this];exact(a.fp.slot t).mono j
  ·exact g1.after v m w G K E
structure FO(C:Ctx)(f:FuncId)(w:OI):Prop where
 prim:C.prim f=none
 fn:∃i,C.fn f=some i
 len:∀i l,w.pre i l=true->(w.g i l).length=l.length
 run:∀(F:Fz) (h:H) (args:List V) (i:(Bn w.ins).T) (l:List w.el.T) (b:Nat) (cs:List V) (fz:Nat×Nat) (o:Nat),(∀b cs,F b=some cs->∃t fz,h.get b=some (.cells cs t fz))->(∀b o,h.get b=some o->b<h.nx)->Gh h->Hv F (Af w.ins i) args->w.pre i l=true->
  h.get b=some (.cells cs w.ty fz)->BG F w.el l cs->fz.2<=fz.1->F b=none->(o=0\/o=w.el.sz)->
  ∃x M,(∀m,M<=m->Aq C m (.fn f (wj w.fst args (.sl b 0 l.length l.length o))) h=some [x])/\x.1=.tup []/\h.nx<=x.2.nx/\(∀c,c<h.nx->c≠b->x.2.get c=h.get c)/\(∀c y,x.2.get c=some y->c<x.2.nx)/\
   ∃F':Fz,(∀b cs,F b=some cs->F' b=some cs)/\(∀b cs,F' b=some cs->F b=some cs\/h.nx<=b)/\(∀b cs,F' b=some cs->∃t fz,x.2.get b=some (.cells cs t fz))/\
    ∃cs' fz',x.2.get b=some (.cells cs' w.ty fz')/\BG F' w.el (w.g i l) cs'/\fz'.2<=fz'.1
 nils:∀(F:Fz) (h:H) (args:List V) (i:(Bn w.ins).T),(∀b cs,F b=some cs->∃t fz,h.get b=some (.cells cs t fz))->(∀b o,h.get b=some o->b<h.nx)->Gh h->Hv F (Af w.ins i) args->w.pre i []=true->
  ∃x M,(∀m,M<=m->Aq C m (.fn f (wj w.fst args .nils)) h=some [x])/\x.1=.tup []/\h.nx<=x.2.nx/\(∀c,c<h.nx->x.2.get c=h.get c)/\(∀c y,x.2.get c=some y->c<x.2.nx)/\
   ∃F':Fz,(∀b cs,F b=some cs->F' b=some cs)/\(∀b cs,F' b=some cs->F b=some cs\/h.nx<=b)/\(∀b cs,F' b=some cs->∃t fz,x.2.get b=some (.cells cs t fz))
theorem AJ.split:∀ {a b:List PV} {vs:List V},AJ F ρ N (a++b) vs->∃x y,vs=x++y/\AJ F ρ N a x/\AJ F ρ N b y
 |[],b,vs,h=>⟨[],vs,rfl,by simp,h⟩
 |p::a,b,vs,h=>by
  obtain⟨v,vs,rfl,d,c⟩:=h;obtain⟨x,y,rfl,h3,h4⟩:=c.split;exact⟨v::x,y,rfl,by simp_all,h4⟩
theorem SR.wrote{ob:Ob}(a:SR B h0 F ρ N ob h){id b n:Nat}{o o':Obj}{x':O}(I:Aj ob id=some o)(z:ρ id=some (b,n))(E:b<h.nx)(U:F b=none)(V:o'.frozen=false)(K:h'.get b=some x')(P:Nf F' ρ N n o' x')
  (A:∀c,c<h.nx->c≠b->h'.get c=h.get c) (R:h.nx<=h'.nx) (w:∀b o,h'.get b=some o->b<h'.nx) (L:∀b cs,F b=some cs->F' b=some cs)
  (D:∀b cs,F' b=some cs->F b=some cs\/h.nx<=b) (x:∀b cs,F' b=some cs->∃t fz,h'.get b=some (.cells cs t fz)):SR B h0 F' ρ N (BT ob id o') h':=by
 have p:∀j,Aj (BT ob id o') j=if j=id then some o' else Aj ob j:=(by grind [Dv])
 have u:∀c,c<h.nx->F c=none->F' c=none:=fun c f Y=>by
  cases g:F' c with
  |none=>rfl
  |some cs=>
   grind
 refine⟨fun j oj d=>?_,fun i j oi oj c m G J d g v=>?_,x,a.own,fun j d=>?_,fun c f he=>?_,w,ZI a.le R,fun c cs f=>?_,a.gl,fun c f=>?_⟩
 ·rw[p]at d;by_cases e:j=id
  ·grind
  ·rw[wa e]at d;obtain⟨c,m,y,g,v,S,W,Z⟩:=a.obj j oj d;have q:c≠b:=fun M=>e<|a.inj j id oj o c m n d I g<|M▸z
   have f:=a.lt c y v;refine⟨c,m,y,g,by grind,S.mono<|Le.PE (ρ:=ρ) L,ae,fun e=>?_⟩;grind
 ·have l:∀k ok,Aj (BT ob id o') k=some ok->∃C,Aj ob k=some C:=by
   grind
  obtain⟨_,r⟩:=l i oi J;obtain⟨_,s⟩:=l j oj d;exact a.inj i j _ _ c m G r s g v
 ·rw[p]at d;by_cases e:j=id
  ·grind
  ·rw[wa e]at d;exact a.dead j d
 ·rw[A c (Nat.lt_of_lt_of_le f a.le)<|HB (a.own id b n z).2 f he];exact a.old c f he
 ·rcases D c cs f with g|g
  ·exact a.fo c cs g
  ·exact .inr<|.inl<|ZI a.le g
 ·obtain⟨r,s,T⟩:=a.pn c f;have q:c≠b:=ae;exact⟨by rw[A c (a.lt c _ r) q];exact r,s,T⟩
theorem Rl{α:Type}{b:Bool}{a:List α}{x:α}{r:List α}(h:Yg b a=some (x,r)):a=wj b r x:=by
 unfold Yg at h;unfold wj;cases b with
 |true=>cases a with
  |nil=>cases h
  |cons y l=>cases h;rfl
 |false=>
  have h:(match a.reverse with|[]=>none|x::r=>some (x,r.reverse))=some (x,r):=h;cases e:a.reverse with
  |nil=>rw[e]at h;cases h
  |cons y l=>
   rw[e]at h;cases h;have:=wg List.reverse e;simpa using this
theorem AJ.wj{b:Bool}{r:List PV}{x:PV}{vs:List V}(h:AJ F ρ N (wj b r x) vs):∃a v,vs=Go.Pe.wj b a v/\AJ F ρ N r a/\PR F ρ N x v:=by
 cases b with
 |true=>
  have h:AJ F ρ N (x::r) vs:=h;simp only[AJ]at h;obtain⟨v,a,rfl,c,d⟩:=h;exact⟨a,v,rfl,d,c⟩
 |false=>
  have h:AJ F ρ N (r++[x]) vs:=h;obtain⟨a,y,rfl,c,d⟩:=h.split;obtain⟨v,_,rfl,hv,rfl⟩:=d;exact⟨a,v,rfl,c,hv⟩
theorem Nh{nd:Bool}{g:FuncId}{w:OI}(Y:X.sp g=none)(a:FO X.C g w){Q:PV->Ob->Prop}{n:Nat}{args:List PV}{k:PV->Ag->Tr}{args':List V}(he:Ev X Q n (NA w args st k))(j:Rel B h0 F ρ st fr h)(G:AJ F ρ st.nx args args'):
  ∃l,Hl X ρ h args' (.fn g) l/\(nd=false->∃x,l=[x])/\
   ∀x∈l,∃n',n'<=n/\∃r st',Ev X Q n' (k r st')/\∃F' ρ',PR F' ρ' st'.nx r x.1/\Bu B h0 F ρ st.nx h st' fr x.2 F' ρ'/\(∀sp,X.sp g=some sp->∀b,b<h.nx->x.2.get b=h.get b):=by
 unfold NA at he;split at he
 ·rename_i id sz nn r p;rw[Rl p]at G;obtain⟨a1,v,rfl,u,O⟩:=G.wj;obtain⟨F1,g1,g2,g3⟩:=handed j.sr u;split at he
  case h_2=>grind [Zs]
  rename_i c i t s l S W;cases q:Zz t w.ty with
  |false=>grind [Zs]
  |true=>
  rw[q]at he;have q:=Zv q;split at he
  case h_2=>grind [Zs]
  rename_i l' P;obtain⟨e,rfl⟩:=A4 P;cases e;rcases he.Cp with⟨D,f⟩|⟨_,f⟩
  case inr=>grind [Zs]
  simp only[Zd,w5]at D;obtain⟨⟨⟨rfl,d⟩,Z⟩,z⟩:=D;have z:=Zv z;subst Z z q;obtain⟨e1,e2,e3⟩:=By (r.flatMap Zo) st;obtain⟨b,m,x,h1,h2,⟨cs,fz,rfl,k1,k2,k3⟩,h4,_⟩:=g1.obj id _ W;simp only[PR]at O;obtain⟨o,ho',rfl⟩:∃o,(o=0\/o=w.el.sz)/\v=.sl b (0*w.el.sz) (Zx l) (Zx l) o:=by
   grind
  rw[Nat.zero_mul];obtain⟨x,M,U,q1,A,K,R,F',L,J,I,cs',fz',f4,f5,f6⟩:=a.run F1 h a1 i l b cs fz o g1.frz j.sr.lt j.sr.gh (g3 _ i S) d h2 k1 k2 (h4 rfl) ho';refine⟨[x],.Aq ⟨rfl,a.prim,a.fn⟩ U,(by simp),fun y T=>?_⟩;cases Zg.1 T;refine⟨n,Zp _,_,_,f,F',ρ,?_,⟨⟨⟨e3.trans j.fp.n,fun t=>?_⟩,?_⟩,?_,A⟩,ae⟩
  ·rw[q1];simp[PR]
  ·have:((Av (r.flatMap Zo) st).setObj id<|.arr false w.ty w.el<|w.g i l).get t=st.get t:=by
    show((Av (r.flatMap Zo) st).fr.get t).getD .any=_;rw[e2];rfl
   rw[this];refine(j.fp.slot t).mono ?_;show Le F ρ st.nx F' ρ (Av (r.flatMap Zo) st).nx;grind [Le.PE]
  ·exact g1.wrote W h1 (j.sr.lt _ _ h2) (h4 rfl) rfl f4 ⟨cs',fz',rfl,f5,f6,by rw[<-k3];exact a.len i l d⟩ K A R L J I
  ·show Le F ρ st.nx F' ρ (Av (r.flatMap Zo) st).nx;grind [Le.PE]
 ·rename_i r p;rw[Rl p]at G;obtain⟨a1,v,rfl,u,O⟩:=G.wj;subst O;obtain⟨F1,g1,g2,g3⟩:=handed j.sr u;split at he
  case h_2=>grind [Zs]
  rename_i c i S;rcases he.Cp with⟨D,f⟩|⟨_,f⟩
  case inr=>grind [Zs]
  simp only[Zd]at D;obtain⟨rfl,d⟩:=D;obtain⟨e1,e2,e3⟩:=By (r.flatMap Zo) st;obtain⟨x,M,U,q1,A,K,R,F',L,J,I⟩:=a.nils F1 h a1 i g1.frz j.sr.lt j.sr.gh (g3 _ i S) d;have E:Le F ρ st.nx F' ρ (Av (r.flatMap Zo) st).nx:=by
   grind [Le.PE]
  refine⟨[x],.Aq ⟨rfl,a.prim,a.fn⟩ U,(by simp),fun y T=>?_⟩;cases Zg.1 T;refine⟨n,Zp _,_,_,f,F',ρ,?_,⟨⟨⟨e3.trans j.fp.n,fun t=>?_⟩,?_⟩,E,A⟩,ae⟩
  ·rw[q1];simp[PR]
  ·have:(Av (r.flatMap Zo) st).get t=st.get t:=by unfold Ag.get;rw[e2]
   rw[this];exact(j.fp.slot t).mono E
  ·exact g1.after K A R L J I
 grind [Zs]
theorem Dw(j:X.C.mg=false)(a:∀g sp,X.sp g=some sp->Al X.C g sp)(f:∀g w,X.ws g=some w->FO X.C g w):∀(d:Nat) (nd:Bool) (h0:H0),CC B h0 X nd<|AY X nd d
 |0,nd,h0=>by intro he;exact we he Zs
 |d+1,nd,h0=>by
  rename_i Q n O args st k;intro he F ρ fr h args' p q;unfold AY at he;cases O with
  |rnd id=>
   obtain⟨c,P,l,M,S,U,W⟩:=GH (Dw j a f d nd) (Dw j a f d false) he p q;refine⟨l,.Aq P S,U,fun x D=>?_⟩;grind
  |fn g=>
  simp only at he;have conv:(∃l,Hl X ρ h args' (.fn g) l/\(nd=false->∃x,l=[x])/\
   ∀x∈l,∃n',n'<=n/\∃r st',Ev X Q n' (k r st')/\∃F' ρ',PR F' ρ' st'.nx r x.1/\Bu B h0 F ρ st.nx h st' fr x.2 F' ρ'/\(∀sp,X.sp g=some sp->∀b,b<h.nx->x.2.get b=h.get b))->
   ∃l,Hl X ρ h args' (.fn g) l/\(nd=false->∃x,l=[x])/\
   ∀x∈l,∃n',n'<=n/\∃r st',Ev X Q n' (k r st')/\∃F' ρ',PR F' ρ' st'.nx r x.1/\Bu B h0 F ρ st.nx h st' fr x.2 F' ρ'/\(∀I,U3.fn g=.fn I->∀sp,X.sp I=some sp->∀b,b<h.nx->x.2.get b=h.get b):=by
   simp
  obtain⟨o,m⟩:∃o,X.sp g=o:=⟨_,rfl⟩;cases o with
  |some sp=>
   rw[m]at he;simp only at he;cases A:(nd|| !sp.nd)with
   |false=>grind [Zs]
   |true=>
    rw[A]at he;exact conv (P4 (nd:=nd) m (a g sp m) ae he p q)
  |none=>
   rw[m]at he;obtain⟨R,t⟩:∃o,X.ws g=o:=⟨_,rfl⟩;cases R with
   |some w=>rw[t]at he;exact conv (Nh m (f g w t) he p q)
   |none=>
   rw[t]at he;simp only at he;cases i:X.esc.any (Zz g)with
   |true=>
    rw[i]at he;unfold WC at he;split at he
    case h_2=>grind [Zs]
    rename_i id off;cases s:Ei (st.obj id)with
    |false=>grind [Zs]
    |true=>
     rw[s]at he;obtain⟨Y,u,A⟩:=List.any_eq_true.1 i;have e:=Zv A;subst e;have v:=X.escOk g u;obtain⟨o,ho⟩:=NN s;obtain⟨b,n',z,q1,_⟩:=p.sr.at ho;obtain⟨x,_,rfl,D,rfl⟩:=q;have E:=D;obtain rfl:=E.2 b n' q1;exact conv ⟨[(.ptr b off,h)],.prim v rfl,(by simp),fun y T=>by
      cases Zg.1 T;exact⟨n,Zp _,_,st,he,F,ρ,D,Bu.refl p,(by simp)⟩⟩
   |false=>
   rw[i]at he;split at he
   case h_2=>grind [Zs]
   rename_i v G;obtain⟨K,l,M,J,V,L⟩:=E2 (Dw j a f d nd) (Dw j a f d false) j G v m he p q;exact conv ⟨l,.Aq ⟨rfl,K⟩ J,V,L⟩
theorem IW{st:Ag}:∀ {l:List Sh} {ps:List PV} {r:Bool×(Bn l).T},Bm st l ps=some r->l.length=ps.length
 |[],[],_,_=>rfl
 |[],_::_,_,h=>by cases h
 |[a],[p],_,_=>rfl
 |[a],[],_,h=>by cases h
 |[a],_::_::_,_,h=>by cases h
 |a::b::l,[],_,h=>by cases h
 |a::b::l,p::ps,_,h=>by
  unfold Bm at h;split at h
  case h_2=>cases h
  rename_i c e2;have:=IW e2;grind
def DT(outs:List Sh)(v:PV):List PV:=match outs with
 |[_]=>[v]
 |_=>match v with
  | .tup vs=>vs
  |_=>[v]
def G7(outs:List Sh)(v:PV)(ob:Ob):Option (Bool×(Bn outs).T):=Bm ⟨0,.leaf,ob,0⟩ outs<|DT outs v
def Ends(X:AW)(t:Tr)(Q:PV->Ob->Prop):Prop:=∃n,Ev X Q n t
def Ak(sp:Ay)(i:(Bn sp.ins).T)(v:PV)(ob:Ob):Prop:=∃y,G7 sp.outs v ob=some (true,y)/\y=sp.f i
theorem M5{v:PV}(h:Rw v=true)(st st':Ag):AV st v=AV st' v:=by
 cases v<;>first|rfl|cases h
theorem Ez(st st':Ag):∀ {l:List PV},l.all Rw=true->Bt st l=Bt st' l
 |[],_=>rfl
 |v::l,h=>by
  rw[Zu,Zd]at h;unfold Bt;rw[M5 h.1 st st',Ez st st' h.2]
theorem Dj(st st':Ag):∀ {l:List Sh} {ps:List PV},ps.all JH=true->Bm st l ps=Bm st' l ps
 |[],[],_=>rfl
 |[],_::_,_=>rfl
 |[_],[],_=>rfl
 |_::_::_,[],_=>rfl
 |[a],[p],h=>by
  grind [Dz,Ez,Bm,JH]
 |[_],_::_::_,_=>rfl
 |a::b::l,p::ps,h=>by
  rw[Zu,Zd]at h;unfold Bm Dz;rw[Ez st st' h.1,Dj st st' h.2]
theorem VR{outs:List Sh}{v:PV}{ob:Ob}:G7 outs v (Wk v ob)=G7 outs v ob:=by
 unfold Wk;cases b:UK v with
 |false=>rfl
 |true=>
  unfold G7 DT;by_cases c:∃a,v=.tup a
  ·obtain⟨a,rfl⟩:=c;split
   ·rfl
   ·exact Dj _ _ b
  ·have e:JH v=true:=by
    cases v with
    |tup a=>grind
    |_=>exact b
   have d:[v].all JH=true:=ae
   split
   ·exact Dj _ _ d
   ·split
    ·grind
    grind [Dj]
theorem O2(S:X.C.mg=false)(k:∀g sp,X.sp g=some sp->Al X.C g sp)(Z:∀g w,X.ws g=some w->FO X.C g w){f:FuncId}{sp:Ay}{d:Nat}(T:X.C.spec f=none)(c:X.C.prim f=none)(K:X.sp f=none)
  (R:∀i,sp.pre i=true->Ends X (tree X sp.nd d f<|Af sp.ins i) (Ak sp i)) (J:∃i,X.C.fn f=some i):Al X.C f sp:=by
 refine .Yq ⟨c,J,fun F h args i s E z m v=>?_⟩;obtain⟨n,he⟩:=R i v;have hr:Rel h.nx ⟨h,F,[],fun _=>False⟩ F (fun _=>none) (Ba 0 [] [] 0) ⟨0,.leaf⟩ h:=by
  refine⟨⟨rfl,fun t=>?_⟩,⟨fun id o W=>(by cases W),(by simp),s,(by simp),fun _ _=>rfl,(by simp),E,Zp _,ae,fun x I=>⟨E _ _<|z x I,fun e=>e,z x I⟩,(by simp)⟩⟩;show PR _ _ _ (((Cn []).get t).getD .any) _;grind [Cn,PM.Bs,PR]
 obtain⟨_,l,M,hM,D,k⟩:=E2 (by grind [Dw]) (by grind [Dw]) S T c K he hr<|m _ _;refine⟨l,M,hM,D,fun x I=>?_⟩;obtain⟨n',hn,r,st',he',F',ρ',hp,hw,_⟩:=k x I;have Y:=he'.OW;obtain⟨y,hy,rfl⟩:=Y;rw[VR]at hy;have u:∀b,b<h.nx->x.2.get b=h.get b:=fun b A=>hw.rel.sr.old b A<|fun e=>e
 refine⟨hw.nx,u,hw.rel.sr.lt,?_⟩;have P:∃vs,AJ F' ρ' st'.nx (DT sp.outs r) vs/\((∃a,sp.outs=[a])->vs=[x.1])/\((∀a,sp.outs≠[a])->(∃G,r=.tup G)->x.1=.tup vs):=by
  unfold DT;split
  ·simp_all
  ·split
   ·grind [PR]
   ·exact⟨[x.1],by simp_all,fun _=>rfl,ae⟩
 obtain⟨vs,j,V,U⟩:=P;obtain⟨F1,g1,g2,g3⟩:=handed (st:=st') hw.rel.sr j;have O:∀id,BU (Ag.obj ⟨0,.leaf,st'.ob,0⟩ id) (st'.obj id):=fun id=>BU.refl _
 have q:=g3 sp.outs _ (by rw[Gw O];exact hy);refine⟨F1,fun b cs A=>g2 b cs<|hw.le.fz b cs A,fun b cs A=>(g1.fo b cs A).imp_right<|fun h=>h.resolve_right<|fun e=>e,g1.frz,LX.2 ⟨vs,q,?_⟩⟩;have p:sp.outs.length=(DT sp.outs r).length:=IW hy;have hl2:=j.len;by_cases W:∃a,sp.outs=[a]
 ·grind
 ·have L:sp.outs.length≠1:=(by grind [List.length_eq_one_iff]);have ht:∃G,r=.tup G:=by
   cases r with
   |tup G=>simp
   |_=>
    exfalso;apply L;rw[p];unfold DT;split<;>rfl
  grind
end
section
variable {X:AW}{Q Q':PV->Ob->Prop}
theorem Ends.leaf{v:PV}{ob:Ob}(h:Q v ob):Ends X (.leaf v ob) Q:=⟨0,.leaf h⟩
theorem Ends.ite{c:Bool}{a b:Tr}(d:c=true->Ends X a Q)(e:c=false->Ends X b Q):Ends X (.ite c a b) Q:=by
 cases c with
 |true=>obtain⟨n,h⟩:=d rfl;exact⟨n,.ite (fun _=>h)<|by simp⟩
 |false=>obtain⟨n,h⟩:=e rfl;exact⟨n,.ite (by simp)<|fun _=>h⟩
theorem Ends.tt{c:Bool}{a b:Tr}(d:c=true)(h:Ends X a Q):Ends X (.ite c a b) Q:=(by grind [Ends.ite])
theorem Ends.ff{c:Bool}{a b:Tr}(d:c=false)(h:Ends X b Q):Ends X (.ite c a b) Q:=(by grind [Ends.ite])
def stepT(X:AW):Tr->Tr
 | .loop nd ro d f base b st k=>body X nd ro d f base b st k
 | .cut nd ro d f base b st k=>Xi X nd ro d f base b st k
 |t=>t
theorem Ends.step{t:Tr}(h:Ends X (stepT X t) Q):Ends X t Q:=by
 cases t with
 |loop=>obtain⟨n,h⟩:=h;exact⟨n+1,.loop h⟩
 |cut=>obtain⟨n,h⟩:=h;exact⟨n,.cut h⟩
 |_=>exact h
theorem Ends.eq{t a:Tr}(e:t=a)(h:Ends X a Q):Ends X t Q:=e▸h
theorem Ends.AO{t a:Tr}(e:stepT X t=a)(h:Ends X a Q):Ends X t Q:=Ends.step<|e▸h
def Tr.L:Tr->Tr
 | .ite _ a _=>a
 | .both a _=>a
 |t=>t
def Tr.R:Tr->Tr
 | .ite _ _ b=>b
 | .both _ b=>b
 |t=>t
def re:Tr->Ag->Tr
 | .loop nd ro d f base b _ k,st=>.loop nd ro d f base b st k
 | .cut nd ro d f base b _ k,st=>.cut nd ro d f base b st k
 |t,_=>t
def Nl:List (FuncId×Ay)->FuncId->Option Ay
 |[],_=>none
 |(g,s)::l,f=>bif Zz g f then some s else Nl l f
def Xk:List (FuncId×List Nat)->FuncId->Nat->Bool
 |[],_,_=>false
 |(g,t)::l,f,r=>bif Zz g f then t.any (Zz r)else Xk l f r
def Wx:List (FuncId×List (Nat×List (Nat×Sh)))->FuncId->Nat->List (Nat×Sh)
 |[],_,_=>[]
 |(g,t)::l,f,r=>bif Zz g f then fz1 t r else Wx l f r
 where fz1:List (Nat×List (Nat×Sh))->Nat->List (Nat×Sh)
 |[],_=>[]
 |(i,s)::l,r=>bif Zz i r then s else fz1 l r
def Vt:List (FuncId×List (Nat×List Nat))->FuncId->Nat->List Nat
 |[],_,_=>[]
 |(g,t)::l,f,r=>bif Zz g f then pl1 t r else Vt l f r
 where pl1:List (Nat×List Nat)->Nat->List Nat
 |[],_=>[]
 |(i,s)::l,r=>bif Zz i r then s else pl1 l r
end
section
open Go.Proofs.Tryz (prog)
def Ir(C:Ctx)(q:Ms):Ctx:=⟨C.T,C.ng,C.fn,C.prim,q,false⟩
theorem Lp{C:Ctx}{P:Program}(a:C.Ok P){q:Ms}(h:DR P q):(Ir C q).Ok P where
 T:=a.T
 fn:=a.fn
 prim:=a.prim
 spec:=h
theorem Jc{C:Ctx}(a:BH C)(q:Ms):BH (Ir C q):=a
def Cd:Ctx:=Ir C7<|SX fmtS<|SX RW<|SX (DQ X9)<|DQ A7
theorem V9:Cd.Ok prog:=Lp Ip<|Ej Uk<|Ej SE<|Ej YN YX
theorem PL:BH Cd:=Jc C1 _
def Xo:List (FuncId×List (Nat×List Nat)):=
 [(5,[(19,[0,2,4,10,11]),(16,[0,2,4,10,11,13]),(13,[0,2,4,8,9,10,11]),(5,[0,2,4,7]),(6,[0,2,4,7]),(4,[0,2,4,7]),(3,[0,2,4])]),
 (6,[(28,[4,7,13,14,15,16,17,20,21,22,196,197]),(27,[4,7,13,14,15,16,17,20,21,22,196,197]),(23,[0,2,4,7,9,11,13,14,15,16,17,99,100]),(21,[0,2,4,7,9,11,13,14,15,16,17,18,19,99,100]),(13,[0,2,4,7,9,11,13,14,15,16,17,99,100]),(12,[0,2,4,7,9,11,13,14,15,16,17,99,100]),(8,[0,2,4,7,9,11]),(3,[0,2,4])]),
 (21,[(3,[0,3]),(4,[0,3]),(2,[0,3])]),
 (26,[(10,[7,9,30,31,32]),(9,[7,9,30,31,32]),(7,[0,7]),(4,[0,1])]),
 (27,[(17,[9,11,30,31,32]),(10,[9,11,30,31,32]),(9,[9,11,30,31,32]),(7,[4,9]),(4,[0,2,4])]),
 (28,[(7,[0,3]),(12,[0,3,4]),(13,[0,3,4]),(11,[0,3,4]),(10,[0,3]),(8,[0,3]),(6,[0,3]),(5,[0]),(3,[0])]),
 (32,[(6,[0,5,6,7]),(4,[0,5,6,7])]),
 (34,[(5,[0,4,7,8,9]),(6,[0,4,7,8,9]),(4,[0,4,7,8,9])]),
 (46,[(5,[0,1,5]),(6,[0,1,5]),(4,[0,1,5]),(3,[0,1])]),
 (47,[(6,[5,6,7]),(3,[5,6,7]),(2,[5,6,7])]),
 (66,[(12,[0,4,22,23,24]),(11,[0,4,6,22,23,24]),(7,[0,4,22,23,24]),(6,[0,4,22,23,24]),(4,[0])]),
 (70,[(4,[0,1,5,6]),(10,[0,1,5,6,7,8]),(11,[0,1,5,6,7,8]),(9,[0,1,5,6,7,8]),(8,[0,1,5,6,7]),(5,[0,1,5,6]),(3,[0,1,5,6])]),
 (71,[(5,[0,3]),(6,[0,3]),(4,[0,3]),(3,[0])]),
 (72,[(3,[0,3]),(4,[0,3]),(2,[0,3])]),
 (110,[(6,[5,6,7]),(3,[5,6,7]),(2,[5,6,7])]),
 (112,[(6,[5,6,7]),(3,[5,6,7]),(2,[5,6,7])]),
 (115,[(11,[5,6,7,21,22,23]),(10,[5,6,7,10,21,22,23]),(6,[5,6,7,21,22,23]),(5,[5,6,7,21,22,23])]),
 (116,[(3,[0,6,7]),(2,[0,6])]),
 (117,[(7,[6,7,8]),(3,[6,7,8]),(2,[6,7,8])]),
 (175,[(4,[1,3])])]
def Vw:List FuncId:=[282]
theorem N7:∀g∈Vw,Cd.prim g=some PK.noEsc.run:=fun g h=>by
 cases h with
 |head=>kernel_rfl
 |tail _ h=>cases h
def X7(l:List (FuncId×Ay)):AW:=⟨Cd,Nl l,Vt Xo,fun _ _=>false,fun _ _=>[],fun _=>none,Vw,N7⟩
def YW(cs:List (FuncId×List Nat))(fz:List (FuncId×List (Nat×List (Nat×Sh))))(t:List (FuncId×List (Nat×List Nat)))(l:List (FuncId×Ay)):AW:=⟨Cd,Nl l,Vt<|t++Xo,Xk cs,Wx fz,fun _=>none,Vw,N7⟩
end
end Go.Pe
namespace Go.Sp
def first:List Int->Int
 |[]=>0
 |x::l=>if x≠0 then x else first l
def Cv(c:Bool)(e:Int):Int:=bif c then e else 0
end Go.Sp
namespace Go.Pe
open Go.Det
abbrev i64:Sh:=.int .i64
abbrev Jp:Sh:=.list<|.int .i64
def CG:Ay:=⟨[Jp],fun l=>decide (l.length<=1000000),[i64],fun l=>Sp.first l,false⟩
def Ec:Ay:=⟨[.bool,i64],fun _=>true,[i64],fun i=>Sp.Cv i.1 i.2,false⟩
def Qf:AW:=X7 []
def E8:Ay:=⟨[.str],fun s=>decide (s.length<=1000000),[.bool],fun s=>Zj s,false⟩
section
open List Int Prod
namespace T116
def T(s:Y):Tr:=tree Qf false 9 116<|Af ([Zh]) s
def L1(v0 a:Y):Tr:=re ((T []))<|Ba 37 [(0,.dat Zh v0),(6,.ptr 0 0)] [(0,Obj.siter a 0)] 1
theorem AF(s:Y):T s=L1 s s:=by kernel_rfl
def L2(v0 b:Y)(a:Nat):Tr:=re ((stepT Qf<|L1 [] []).L.L.L)<|Ba 37 [(0,.dat Zh v0),(6,.ptr 0 0)] [(0,Obj.siter b a)] 1
theorem As(v0 a:Y):stepT Qf (L1 v0 a)=let b':=L2 v0 a<|ZF 0<|Fm a 0;let b:Tr:=.leaf (.bl false) [];let d:Tr:=.ite true b<|.ite (rune a 0 !=95) (.di (rune a 0<48) b<|.di (rune a 0>57) b b') b';let c:Tr:=.di (rune a 0>=65) (.ite (!decide (rune a 0<=90)) d b') d;.di (0<length a) (.di (rune a 0>=97) (.di (rune a 0<=122) b' c) c) (.ite (!v0==[]) (.leaf (.dat ZJ<|decide ((length v0:Int)<=24)) []) b):=by kernel_rfl
theorem BV(v0 b:Y)(a:Nat):stepT Qf (L2 v0 b a)=let b':=L2 v0 b<|ZF a<|Fm b a;let c:Tr:=.leaf (.bl false) [];let e:Tr:=.ite ((↑a:Int)==0) c<|.ite (rune b a !=95) (.di (rune b a<48) c<|.di (rune b a>57) c b') b';let d:Tr:=.di (rune b a>=65) (.ite (!decide (rune b a<=90)) e b') e;.di (a<length b) (.di (rune b a>=97) (.di (rune b a<=122) b' d) d) (.ite (!v0==[]) (.leaf (.dat ZJ<|decide ((length v0:Int)<=24)) []) c):=by kernel_rfl
end T116
end
section
variable {X:AW}{Q:PV->Ob->Prop}
@[simp] theorem Pb:Ends X .fail Q↔False:=⟨fun⟨_,h⟩=>Zs h,fun h=>h.elim⟩
@[simp] theorem Cj{v:PV}{ob:Ob}:Ends X (.leaf v ob) Q↔Q v ob:=⟨fun⟨_,h⟩=>h.OW,fun h=>.leaf h⟩
@[simp] theorem BD{c:Bool}{a b:Tr}:Ends X (.ite c a b) Q↔if c=true then Ends X a Q else Ends X b Q:=by
 constructor
 ·rintro⟨n,h⟩;rcases h.Cp with⟨d,h⟩|⟨d,h⟩
  ·rw[wb d];exact⟨n,h⟩
  ·rw[wa<|by simp[d]];exact⟨n,h⟩
 ·intro h;refine .ite (fun d=>?_)<|fun d=>?_
  ·rwa [wb d]at h
  ·rwa [wa<|by simp[d]]at h
theorem Ak.of{sp:Ay}{i:(Bn sp.ins).T}{v:PV}{ob:Ob}{c:Bool}{y:(Bn sp.outs).T}(h:G7 sp.outs v ob=some (c,y))(b:c=true)(a:y=sp.f i):Ak sp i v ob:=⟨y,by rw[h,b],a⟩
@[simp] theorem Io(s:Sh)(x:List s.T):F5 (Sh.leaves<|.list s) [.dat (.list s) x]=(true,[.dat (.list s) x]):=rfl
theorem wr(x:Int)(a: -9223372036854775808<=x)(b:x<=9223372036854775807):Za .i64 x=x:=IntWalk.i64_in x ⟨a,b⟩
theorem drop_cons{α:Type}{l r:List α}{x d:α}{i:Nat}(h:l.drop i=x::r):i<l.length/\l.getD i d=x/\l.drop (i+1)=r:=by
 have a:i<l.length:=by
  rcases Nat.lt_or_ge i l.length with c|c
  ·exact c
  ·rw[List.drop_eq_nil_of_le c]at h;cases h
 have b:=ZL a;rw[h]at b;simp only[List.cons.injEq]at b;exact⟨a,by simp[a,b.1],b.2.symm⟩
end
theorem Sj:∀g sp,Qf.sp g=some sp->Al Cd g sp:=fun g sp h=>by cases h
abbrev Jx(X:AW):Prop:=∀g sp,X.sp g=some sp->Al Cd g sp
theorem Xx{X:AW}(n:X.C=Cd)(b:∀g sp,X.sp g=some sp->Al Cd g sp){f:FuncId}{sp:Ay}{d:Nat}(m:Cd.spec f=none)(a:Cd.prim f=none)(k:X.sp f=none)
  (c:∀i,sp.pre i=true->Ends X (tree X sp.nd d f<|Af sp.ins i) (Ak sp i)) (j:∃i,Cd.fn f=some i) (l:∀g w,X.ws g=some w->FO Cd g w:=by intro _ _ h;cases h):Al Cd f sp:=by
 have e:X.C.mg=false:=by rw[n];rfl
 rw[<-n]at*;exact O2 e b l m a k c j
theorem JE{α:Type}{o:Option α}(h:o.isSome=true):∃i,o=some i:=Option.isSome_iff_exists.1 h
theorem Fy{X:AW}(b:Jx X){f:FuncId}{sp:Ay}(c:∀i,sp.pre i=true->Ends X (tree X sp.nd 9 f<|Af sp.ins i) (Ak sp i))(l:X.C=Cd:=by rfl)(k:Cd.spec f=none:=by kernel_rfl)(a:Cd.prim f=none:=by kernel_rfl)(e:X.sp f=none:=by kernel_rfl)(d:(Cd.fn f).isSome=true:=by kernel_rfl)(j:∀g w,X.ws g=some w->FO Cd g w:=by intro _ _ h;cases h):Al Cd f sp:=Xx l b k a e c (JE d) j
theorem drop_nil{α:Type}{l:List α}{i:Nat}(h:l.drop i=[])(a:i<=l.length):i=l.length:=by
 have:=wg Zx h;simp at this;omega
theorem IJ(c:Int):Zl c=true↔(97<=c/\c<=122)\/(65<=c/\c<=90)\/(48<=c/\c<=57)\/c=95:=by
 simp[Zl,Zi,or_assoc]
theorem FF(c:Int):Zi c=true↔(97<=c/\c<=122)\/(65<=c/\c<=90):=by
 simp[Zi]
namespace T116
theorem loop(s:Y)(b:s≠[]):∀(r:Y) (i:Nat),s.drop i=r->i<=s.length->1<=i->
  ((r.all fun c=>Zl (c.toNat:Int))=false->∀ob,Q (.bl false) ob)->((r.all fun c=>Zl (c.toNat:Int))=true->∀ob,Q (.dat .bool<|decide ((s.length:Int)<=24)) ob)->Ends Qf (L2 s s i) Q
 |[],i,h,o,u,k,j=>by
  have:=drop_nil h o;refine Ends.AO (BV ..) (Ends.ff (by simp;omega)<|Ends.tt (by simpa using b) ?_);exact Ends.leaf<|j rfl _
 |x::r,i,h,o,u,k,j=>by
  obtain⟨f,m,w⟩:=drop_cons (d:=0) h;refine Ends.AO (BV ..) (Ends.tt (by simpa using f) ?_);have t:((i:Int)==0)=false:=by simp;omega
  simp only[BD,Cj,t,Bool.false_eq_true,vb,w5,Zw,w9,bne_iff_ne,wk];have step:Zl (x.toNat:Int)=true->Fm s i=1->Ends Qf (L2 s s<|ZF i<|Fm s i) Q:=by
   intro a p;rw[p];refine loop s b r (i+1) w f a8 (fun e=>k<|by simp[e]) (fun e=>j<|by simp[e];exact a)
  have no:Zl (x.toNat:Int)=false->∀ob,Q (.bl false) ob:=fun a=>k (by simp[a])
  by_cases n:(s.getD i 0).toNat<128
  ·obtain⟨q,e2⟩:=LU f n;rw[q,m];have l:=IJ (x.toNat:Int);generalize ((x.toNat:Nat):Int)=c at l step no ⊢;by_cases a:Zl c=true
   ·have:=l.1 a;repeat' split
    all_goals first|exact step a e2|(exfalso;omega)
   ·have g:Zl c=false:=by simpa using a
    have:¬_:=fun h=>a<|l.2 h
    repeat' split
    all_goals first|exact no g _|(exfalso;omega)
  ·have y:=J1 f a8;have v:Zl (x.toNat:Int)=false:=by
    have:¬Zl (x.toNat:Int)=true:=fun h=>by
     have:=(IJ _).1 h;rw[m]at n;omega
    simpa using this
   repeat' split
   all_goals first|exact no v _|(exfalso;omega)
end T116
theorem T116.ok:Al Cd 116 E8:=by
 refine Fy Sj<|fun(s:Y) d=>?_;have d:s.length<=1000000:=by simpa [E8]using d
 have f:∀v b,v=.bl b\/v=.dat .bool b->b=Zj s->∀ob,Ak E8 s v ob:=by
  rintro v b (rfl|rfl) l ob
  ·exact Ak.of rfl rfl l
  ·exact Ak.of rfl rfl l
 refine Ends.eq (T116.AF s) ?_;conv=>zeta
 refine Ends.AO (T116.As ..) ?_;conv=>zeta
 cases s with
 |nil=>
  refine Ends.ff (by simp) (Ends.ff (by simp) ?_);exact Ends.leaf<|f _ _ (.inl rfl) rfl _
 |cons x r=>
  refine Ends.tt (by simp) ?_;simp only[BD,Cj,w5,Zw,w9,bne_iff_ne,wk,wi];have step:Zi (x.toNat:Int)=true->Fm (x::r) 0=1->Ends Qf (T116.L2 (x::r) (x::r)<|ZF 0<|Fm (x::r) 0) (Ak E8 (x::r)):=by
   intro a m;rw[m];refine T116.loop (x::r) (by simp) r 1 rfl (by simp) a8 (fun e=>f _ _ (.inl rfl) ?_) (fun e=>f _ _ (.inr rfl) ?_)
   ·simp[Zj,e]
   ·simp only[Zj,e,a,ZV,ZE];congr 1;apply propext;push_cast;omega
  have no:Zi (x.toNat:Int)=false->∀ob,Ak E8 (x::r) (.bl false) ob:=fun a=>f _ _ (.inl rfl) (by simp[Zj,a])
  have k:(x::r).getD 0 0=x:=rfl;by_cases d:((x::r).getD 0 0).toNat<128
  ·obtain⟨n,e2⟩:=LU (s:=x::r) (i:=0) (by simp) d;rw[n,k];have j:=FF (x.toNat:Int);generalize ((x.toNat:Nat):Int)=c at j step no ⊢;by_cases a:Zi c=true
   ·have:=j.1 a;repeat' split
    all_goals first|exact step a e2|(exfalso;omega)
   ·have g:Zi c=false:=by simpa using a
    have:¬_:=fun h=>a<|j.2 h
    repeat' split
    all_goals first|exact no g _|(exfalso;omega)
  ·have p:=J1 (s:=x::r) (i:=0) (by simp) a8;have o:Zi (x.toNat:Int)=false:=by
    have:¬Zi (x.toNat:Int)=true:=fun h=>by
     have:=(FF _).1 h;rw[k]at d;omega
    simpa using this
   repeat' split
   all_goals first|exact no o _|(exfalso;omega)
theorem BB{C:Ctx}:∀g sp,Nl [] g=some sp->Al C g sp:=fun g sp h=>by cases h
theorem Ai{C:Ctx}{a:FuncId}{c:Ay}{l:List (FuncId×Ay)}(h0:Al C a c)(d:∀g sp,Nl l g=some sp->Al C g sp):∀g sp,Nl ((a,c)::l) g=some sp->Al C g sp:=by
 intro g sp h;unfold Nl at h;cases b:Zz a g with
 |true=>rw[b]at h;cases h;have:=Zv b;subst this;exact h0
 |false=>rw[b]at h;exact d g sp h
theorem Br{a b:Bool}(c:a=true)(d:b=true):(a&&b)=true:=by rw[c,d];rfl
theorem wn{i:Nat}(h:i<9223372036854775807):Za .i64 ((i:Int)+1)=((i+1:Nat):Int):=by rw[wr _ a8 a8];omega
theorem ad{p q:Prop}[Decidable p][Decidable q](a:p)(b:q):(decide p&&decide q)=true:=Br (w4 a)<|w4 b
theorem nb{i n:Nat}(h:i<n):(decide ((0:Int)<=(i:Int))&&decide ((i:Int)<(n:Int)))=true:=ad a8 a8
def Xc:AW:=X7 []
end Go.Pe
namespace Go.Sp
def Bb(n c x:Int):Int:=c/n+if x<=c % n then 1 else 0
def En(n x:Int):Nat->Int
 |0=>0
 |k+1=>En n x k+if (k:Int) % n+1=x then 1 else 0
theorem Mo{n:Int}(c:0<n)(K:Int):if K % n+1<n then(K+1)/n=K/n/\(K+1) % n=K % n+1 else(K+1)/n=K/n+1/\(K+1) % n=0:=by
 have a:=Zt K (show n≠0 by omega);have b:=Zm K c;have e:=ZC K n;split
 ·exact(Zk c).2 ⟨by omega,by omega,by omega⟩
 ·exact(Zk c).2 ⟨by rw[Int.mul_add,Int.mul_one];omega,by omega,c⟩
theorem NJ{n x:Int}(d:1<=x)(e:x<=n):∀K:Nat,En n x K=Bb n K x
 |0=>by
  unfold En Bb;rw[show((0:Nat):Int)=0 from rfl,Int.zero_ediv,Int.zero_emod,wa a8];rfl
 |K+1=>by
  have c:0<n:=a8
  have s:=Mo c (K:Int);have a:=Zt (K:Int) (show n≠0 by omega);have b:=Zm (K:Int) c;rw[En,NJ d e K];unfold Bb;rw[show((K+1:Nat):Int)=(K:Int)+1 from rfl];generalize (K:Int)/n=u at*;generalize (K:Int) % n=r at*;generalize ((K:Int)+1)/n=u' at*;generalize ((K:Int)+1) % n=r' at*;split at s
  ·obtain⟨rfl,rfl⟩:=s;split<;>split<;>split<;>omega
  ·obtain⟨rfl,rfl⟩:=s;split<;>split<;>split<;>omega
theorem TZ{n x:Int}(f:1<=x)(g:x<=n)(K:Int):Bb n (-K) x= -Bb n K (n+1-x):=by
 have d:0<n:=a8
 unfold Bb;have a:=Zt K (show n≠0 by omega);have b:=Zm K d;have e:=ZC K n;by_cases c:K % n=0
 ·have k: -K/n= -(K/n)/\ -K % n=0:=(Zk d).2 ⟨by rw[Int.mul_neg];omega,by omega,d⟩;rw[k.1,k.2,c,wa a8,wa a8];omega
 ·have k: -K/n= -(K/n)-1/\ -K % n=n-K % n:=(Zk d).2 ⟨by rw[Int.mul_sub,Int.mul_neg];omega,by omega,by omega⟩;rw[k.1,k.2];generalize K/n=u at*;generalize K % n=r at*;split<;>split<;>omega
theorem Rr{a b:Int}(c:0<b):(if ZT a b<0 then Int.tdiv a b-1 else Int.tdiv a b)=a/b:=by
 have e:=Int.mul_tdiv_add_tmod a b;have d:=Int.tmod_lt_of_pos a c;have f:=Int.lt_tmod_of_pos a c;split
 ·exact((Zk (r:=ZT a b+b) c).2 ⟨by rw[Int.mul_sub];omega,by omega,by omega⟩).1.symm
 ·exact((Zk (r:=ZT a b) c).2 ⟨by omega,by omega,by omega⟩).1.symm
theorem Qg{n x:Int}(d:1<=x)(e:x<=n)(K:Int):Bb n (K+1) x=Bb n K x+if x=K % n+1 then 1 else 0:=by
 have c:0<n:=a8
 have s:=Mo c K;have a:=Zt K (show n≠0 by omega);have b:=Zm K c;unfold Bb;generalize K/n=u at*;generalize K % n=r at*;generalize (K+1)/n=u' at*;generalize (K+1) % n=r' at*;split at s
 ·obtain⟨rfl,rfl⟩:=s;split<;>split<;>split<;>omega
 ·obtain⟨rfl,rfl⟩:=s;split<;>split<;>split<;>omega
theorem Ci{n c x:Int}(d:0<n)(i: -99<=c/\c<=99): -100<=Bb n c x/\Bb n c x<=100:=by
 have e:=ZC c n;have a:=Zt c (show n≠0 by omega);have b:=Zm c d;have f:c/n<=99:=by
  refine Int.ediv_le_of_le_mul d ?_;have:=ZG (show 1<=n by omega) (show(0:Int)<=99 by decide);omega
 have g: -99<=c/n:=by
  refine Int.le_ediv_of_mul_le d ?_;have:=ZG (show 1<=n by omega) (show(0:Int)<=99 by decide);omega
 unfold Bb;split<;>omega
def EL(n:Int)(seen:List Int):List (Int×Int)->Int
 |[]=>0
 |x::r=>if x.1<3\/6<x.1\/x.2<1\/n<x.2 then 3 else if x.2∈seen then 9 else EL n (seen++[x.2]) r
def Ap(l:List (Int×Int)):Int:=if l.length=0 then 12 else if 36<l.length then 5 else EL (l.length:Int) [] l
theorem Hf{n:Int}:∀ {l:List (Int×Int)} {seen:List Int},EL n seen l=0->(∀x∈l,3<=x.1/\x.1<=6/\1<=x.2/\x.2<=n/\x.2∉seen)/\(l.map ZW).Nodup
 |[],_,_=>⟨fun x j=>(by cases j),List.nodup_nil⟩
 |x::r,seen,h=>by
  rw[EL]at h;split at h
  ·cases h
  next m=>
  split at h
  ·cases h
  next i=>
  obtain⟨g,i2⟩:=Hf h;refine⟨fun y f=>?_,?_⟩
  ·rcases ZN.1 f with rfl|f
   ·exact⟨by omega,by omega,by omega,by omega,i⟩
   ·obtain⟨a,b,c,d,e⟩:=g y f;exact⟨a,b,c,d,fun k=>e<|List.mem_append_left _ k⟩
  ·rw[List.map_cons];refine ZQ.2 ⟨fun k=>?_,i2⟩;obtain⟨y,f,e⟩:=ZK.1 k;exact(g y f).2.2.2.2 (by rw[e];exact List.mem_append_right _<|Zg.2 rfl)
structure Bo(h:List (Int×Int)):Prop where
 pos:0<h.length
 le:h.length<=36
 all:∀x∈h,3<=x.1/\x.1<=6/\1<=x.2/\x.2<=(h.length:Int)
 nd:(h.map ZW).Nodup
theorem CY{h:List (Int×Int)}(k:Ap h=0):Bo h:=by
 unfold Ap at k;split at k
 ·cases k
 next d=>
 split at k
 ·cases k
 next e=>
 obtain⟨a,b⟩:=Hf k;exact⟨by omega,by omega,fun x c=>⟨(a x c).1,(a x c).2.1,(a x c).2.2.1,(a x c).2.2.2.1⟩,b⟩
def Be(h:List (Int×Int))(c:Int):List Int:=h.map fun x=>Bb h.length c x.2
def Ax(h:List (Int×Int))(c:Int):List Int:=h.map fun x=>x.1+2+Bb h.length c x.2
def Ck(x:Int×Y)(m:Int):Int:=if x.2=[120]then m else if x.2=[45]then max 1 (m-2)else min x.1 m
def BN:List (Int×Y)->List Int->Int
 |x::l,m::r=>Ck x m+BN l r
 |_,_=>0
def CH(h:List (Int×Int))(c:Int)(K:Nat):List Int:=h.map fun x=>if c<0 then -En h.length (h.length+1-x.2) K else En h.length x.2 K
theorem Qo(h:List (Int×Int))(c:Int):CH h c 0=List.replicate h.length 0:=by
 unfold CH;rw[<-List.map_const'];refine List.map_congr_left fun x _=>?_
 unfold En;split<;>rfl
theorem QN{h:List (Int×Int)}(H:Bo h)(c:Int):CH h c c.natAbs=Be h c:=by
 unfold CH Be;refine List.map_congr_left fun x d=>?_
 obtain⟨_,_,a,b⟩:=H.all x d;split
 ·next k=>
  rw[NJ a8 a8,show((c.natAbs:Nat):Int)= -c by omega];have:=TZ (n:=(h.length:Int)) (x:=x.2) a b<| -c;rw[Int.neg_neg]at this;exact this.symm
 ·next k=>rw[NJ a b,show((c.natAbs:Nat):Int)=c by omega]
theorem RU(h:List (Int×Int))(c:Int)(K i:Nat)(b:i<h.length){x:Int×Int}(a:h.getD i (0,0)=x):
  (CH h c<|K+1).getD i 0=(CH h c K).getD i 0+if x.2=(if c<0 then(h.length:Int)+1-((K:Int) % h.length+1)else(K:Int) % h.length+1)then(if c<0 then -1 else 1)else 0:=by
 unfold CH;rw[Ze,Zf b]at a;have a:h[i]=x:=a;rw[Ze,ZB,Zf b,Ze,ZB,Zf b,a];show(if c<0 then -En _ _ (K+1)else En _ _<|K+1)=(if c<0 then -En _ _ K else En _ _ K)+_;by_cases k:c<0
 ·rw[wb k,wb k,wb k,wb k,En];by_cases e:x.2=(h.length:Int)+1-((K:Int) % h.length+1)
  ·rw[wb e,wb a8];omega
  ·rw[wa e,wa a8];omega
 ·rw[wa k,wa k,wa k,wa k,En];by_cases e:x.2=(K:Int) % h.length+1
  ·rw[wb e,wb a8]
  ·rw[wa e,wa a8]
theorem Bx(h:List (Int×Int))(c:Int)(K:Nat):(CH h c K).length=h.length:=List.length_map ..
theorem EZ{h:List (Int×Int)}(H:Bo h){c:Int}(e: -99<=c/\c<=99):∀m∈Ax h c,-95<=m/\m<=108:=by
 intro m d;obtain⟨x,f,rfl⟩:=ZK.1 d;obtain⟨a,b,_,_⟩:=H.all x f;have:=Ci (n:=(h.length:Int)) (x:=x.2) (by have:=H.pos;omega) e;omega
theorem Nx:∀(n:Nat) {L:List Int},L.Nodup->(∀x∈L,1<=x/\x<=(n:Int))->L.length<=n
 |0,[],_,_=>Zp _
 |0,x::L,_,h=>by have:=h x<|Zr ..;omega
 |n+1,L,d,h=>by
  by_cases k:((n+1:Nat):Int)∈L
  ·have f:=Nx n (d.erase ((n+1:Nat):Int)) fun x c=>by
    obtain⟨a,b⟩:=(List.Nodup.mem_erase_iff d).1 c;have:=h x b;omega
   rw[List.length_erase_of_mem k]at f;omega
  ·have f:=Nx n d fun x c=>by
    have:=h x c;have:x≠((n+1:Nat):Int):=fun e=>k<|e▸c
    omega
   omega
theorem Pt{n:Nat}{L:List Int}(c:L.Nodup)(h:∀x∈L,1<=x/\x<=(n:Int))(e:L.length=n){v:Int}(b:1<=v)(d:v<=(n:Int)):v∈L:=by
 by_cases k:v∈L
 ·exact k
 ·have:=Nx n (L:=v::L) (ZQ.2 ⟨k,c⟩) fun x a=>by
   rcases ZN.1 a with rfl|a
   ·exact⟨b,d⟩
   ·exact h x a
  rw[ZE]at this;omega
def Ke(v:Int):List (Int×Int)->Int
 |[]=>0
 |x::h=>(if x.2=v then 1 else 0)+Ke v h
theorem QC{v:Int}:∀ {h:List (Int×Int)},(h.map ZW).Nodup->Ke v h=if v∈h.map ZW then 1 else 0
 |[],_=>rfl
 |x::h,c=>by
  rw[List.map_cons]at c ⊢;obtain⟨a,b⟩:=ZQ.1 c;rw[Ke,QC b];by_cases e:x.2=v
  ·rw[wb e,wa (by rw[<-e];exact a),wb<|by rw[e];exact Zr ..];rfl
  ·rw[wa e];by_cases k:v∈h.map ZW
   ·rw[wb k,wb<|Zy _ k];rfl
   ·rw[wa k,wa fun q=>by rcases ZN.1 q with q|q;exact e q.symm;exact k q];rfl
theorem Th{h:List (Int×Int)}(H:Bo h){c:Int}:Ke (c % h.length+1) h=1:=by
 have f:=H.pos;have a:=Zt c (show(h.length:Int)≠0 by omega);have b:=Zm c (show(0:Int)<h.length by omega);rw[QC H.nd,wb];refine Pt (n:=h.length) H.nd (fun x e=>?_) (List.length_map ..) a8 a8;obtain⟨y,d,rfl⟩:=ZK.1 e;exact(H.all y d).2.2
theorem Sx{h:List (Int×Int)}(H:Bo h)(c:Int){i:Nat}(b:i<h.length){x:Int×Int}(a:h.getD i (0,0)=x):(Ax h<|c+1).getD i 0-(Ax h c).getD i 0=if x.2=c % h.length+1 then 1 else 0:=by
 rw[Ze,Zf b]at a;have a:h[i]=x:=a;have d:x∈h:=a▸List.getElem_mem b;unfold Ax;rw[Ze,ZB,Zf b,Ze,ZB,Zf b,a];obtain⟨_,_,e,f⟩:=H.all x d;show x.1+2+Bb h.length (c+1) x.2-(x.1+2+Bb h.length c x.2)=_;rw[Qg e f];omega
abbrev CP:=Int×Y
def K5:List Int->Int
 |[]=>0
 |m::r=>m+K5 r
def Bh:List CP->Int
 |[]=>0
 |x::l=>x.1+Bh l
theorem TV{h:List (Int×Int)}(H:Bo h){c:Int}(d:0<=c):∀m∈Ax h c,3<=m:=by
 intro m b;obtain⟨x,e,rfl⟩:=ZK.1 b;obtain⟨a,_,_,_⟩:=H.all x e;have f:(0:Int)<h.length:=by have:=H.pos;omega
 have:=Int.ediv_nonneg d<|Int.le_of_lt f;show 3<=x.1+2+Bb h.length c x.2;unfold Bb;split<;>omega
theorem OX:∀(l:List CP) (r:List Int),(∀m∈r,3<=m)->l.length=r.length->BN l r<=K5 r
 |[],[],_,_=>ZM _
 |[],_::_,_,h=>by cases h
 |_::_,[],_,h=>by cases h
 |x::l,m::r,a,h=>by
  have c:=OX l r (fun q b=>a q<|Zy _ b)<|Nat.succ.inj h;have d:=a m<|Zr ..;rw[BN,K5];unfold Ck;split
  ·omega
  ·split<;>omega
def Vh(x:CP):Prop:=if x.2=[120]\/x.2=[45]then x.1=0 else 1<=x.1/\x.1<=99
theorem JZ:∀(l:List CP) (r:List Int),(∀x∈l,Vh x/\0<x.1)->l.length=r.length->BN l r<=Bh l
 |[],[],_,_=>ZM _
 |[],_::_,_,h=>by cases h
 |_::_,[],_,h=>by cases h
 |x::l,m::r,d,h=>by
  have f:=JZ l r (fun q e=>d q<|Zy _ e)<|Nat.succ.inj h;obtain⟨c,g⟩:=d x<|Zr ..;rw[BN,Bh];unfold Vh at c;unfold Ck;by_cases a:x.2=[120]
  ·rw[wb<|.inl a]at c;omega
  ·rw[wa a];by_cases b:x.2=[45]
   ·rw[wb<|.inr b]at c;omega
   ·rw[wa b];omega
def JL(first:Bool)(x:CP):CP:=if 0<x.1/\x.1<99/\first=true then(x.1+1,x.2)else x
def AI:List CP->List CP
 |[]=>[]
 |x::l=>JL true x::l.map (JL<|decide (JL true x=x))
def Yn(x y:CP):Prop:=y.2=x.2/\(y=x\/(0<x.1/\x.1<99/\y.1=x.1+1))
theorem QP(b:Bool)(x:CP):Yn x (JL b x):=by
 unfold JL;split
 ·next k=>exact⟨rfl,.inr ⟨k.1,k.2.1,rfl⟩⟩
 ·exact⟨rfl,.inl rfl⟩
inductive Gn:List CP->List CP->Prop
 |nil:Gn [] []
 |cons {x y l k}:Yn x y->Gn l k->Gn (x::l) (y::k)
theorem map_le(b:Bool):∀l:List CP,Gn l<|l.map<|JL b
 |[]=>.nil
 |x::l=>.cons (QP b x)<|map_le b l
theorem Oh:∀l:List CP,Gn l<|AI l
 |[]=>.nil
 |x::l=>.cons (QP true x)<|map_le _ l
theorem Gn.len{l k:List CP}(h:Gn l k):k.length=l.length:=by
 induction h with
 |nil=>rfl
 |cons _ _ a=>rw[ZE,ZE,a]
theorem QO{l k:List CP}(h:Gn l k):∀(r:List Int),(∀x∈l,Vh x)->BN l r<=BN k r/\BN k r-BN l r<=Bh k-Bh l:=by
 induction h with
 |nil=>intro r _;exact⟨ZM _,ZM _⟩
 |@cons x y l k e _ d=>
  intro r f;have c:=f x<|Zr ..;cases r with
  |nil=>
   have h0:Bh (x::l)<=Bh (y::k):=by
    clear d;have:∀ {l k:List CP},Gn l k->Bh l<=Bh k:=fun h=>by
     induction h with
     |nil=>exact ZM _
     |cons e _ d=>
      rw[Bh,Bh];rcases e.2 with rfl|q<;>omega
    exact this<|.cons e ‹_›
   show(0:Int)<=0/\(0:Int)-0<=_;omega
  |cons m r=>
   have o:=d r fun q g=>f q<|Zy _ g
   rw[BN,BN,Bh,Bh];have p:Ck x m<=Ck y m/\Ck y m-Ck x m<=y.1-x.1:=by
    obtain⟨i,e2⟩:=e;rcases e2 with rfl|⟨s,j,n⟩
    ·omega
    ·unfold Vh at c;unfold Ck;rw[i];by_cases a:x.2=[120]
     ·rw[wb<|.inl a]at c;omega
     ·rw[wa a,wa a];by_cases b:x.2=[45]
      ·rw[wb<|.inr b]at c;omega
      ·rw[wa b,wa b];omega
   omega
end Go.Sp
namespace Go.Pe
open Go.Det
def J6:Ay:=⟨[],fun _=>true,[.bool],fun _=>true,false⟩
theorem Lr:Al Cd 8 J6:=by
 refine .Yq ⟨by kernel_rfl,JE ac,fun F h args i d c b a _=>?_⟩;have g:args=[]:=by
  have:=a (fun _=>none) 0;simpa [Af,J6]using this
 subst g;refine⟨[(.bool true,h)],1,fun m k=>?_,fun _=>⟨_,rfl⟩,fun x j=>?_⟩
 ·obtain⟨e,rfl⟩:∃e,m=e+1:=⟨m-1,by omega⟩;have f:Cd.spec 8=some fun args h=>bif Mp h BW then(match EM A7 8 args with|some v=>some (v,h)|none=>none)else none:=rfl
  rw[Aq];simp only[f,VM b,wc];rfl
 ·cases Zg.1 j;exact⟨Zp _,fun _ _=>rfl,c,F,fun _ _ h=>h,fun _ _ h=>.inl h,d,fun ρ N=>BL _⟩
end Go.Pe
namespace Go.Sp
def Cf(x:Int×Y):Int:=if x.2=[]\/x.2=[99]then(if x.1<1\/99<x.1 then 3 else 0)else if x.2=[120]\/x.2=[45]then(if x.1=0 then 0 else 3)else 13
def Dd:List (Int×Y)->Int
 |[]=>0
 |x::r=>if Cf x=0 then Dd r else Cf x
def A0(h:List (Int×Int))(p:Y)(l:List (Int×Y)):Int:=first [Ap h,Cv (!isName p) 8,Cv (decide (l.length≠h.length)) 2,Dd l]
def Cb(n b a:Int):Int:=if n<b\/a<n then 3 else 0
def AZ(h:List (Int×Int))(c:Int):Int:=first [Ap h,Cb c (-99) 99]
def Db(h:List (Int×Int))(c:Int):List Int:=if AZ h c=0 then Ax h c else[]
def Lt(h:List (Int×Int))(c:Int):List Int:=if AZ h c=0 then Be h c else[]
def B9(h:List (Int×Int))(p:Y)(l:List (Int×Y))(c:Int):Int:=first [A0 h p l,Cb c (-99) 99]
def CB(h:List (Int×Int))(p:Y)(l:List (Int×Y))(c:Int):Int:=if B9 h p l c=0 then BN l (Ax h c)else 0
def W2(h:List (Int×Int))(l:List (Int×Y))(c:Int):Int:=BN l<|Ax h c
def Fh(h:List (Int×Int))(c:Int):Bool:=decide (Ap h=0)&&decide (-99<=c)&&decide (c<=99)
def Gk(h:List Int)(e b:Int)(w:List Int):Bool:=if b≠0 then decide (h=[])&&decide (e=b)else decide (e=0)&&decide (h=w)
def Hu(n e b w:Int):Bool:=if b≠0 then decide (n=0)&&decide (e=b)else decide (e=0)&&decide (n=w)
end Go.Sp
namespace Go.Pe
open Sp
open Go.Det
abbrev CV:Sh:=.pair i64 i64
abbrev HH:Sh:=.pair i64 .str
abbrev GR:Sh:=.pair .str<|.list HH
def Dn:Ay:=⟨[.list CV],fun l=>decide (l.length<=1000000),[i64],fun l=>Ap l,false⟩
def G0:Ay:=⟨[HH],fun _=>true,[i64],fun x=>Cf x,false⟩
def FM:Ay:=⟨[.list HH],fun l=>decide (l.length<=1000000),[i64],fun l=>Dd l,false⟩
def QI:Ay:=⟨[.list CV,GR],fun i=>decide (i.1.length<=45)&&decide (i.2.1.length<=100)&&decide (i.2.2.length<=45),[i64],fun i=>A0 i.1 i.2.1 i.2.2,false⟩
def XQ:Ay:=⟨[.str],fun _=>true,[.bool],fun s=>Zj s,false⟩
def Lg:Ay:=⟨[.list CV,GR],fun i=>decide (Zx (α:=Int×Int) i.1<=45),[i64],fun i=>A0 i.1 i.2.1 i.2.2,false⟩
def JD:Ay:=⟨[i64,i64,i64],fun _=>true,[i64],fun i=>Cb i.1 i.2.1 i.2.2,false⟩
def O4:Ay:=⟨[.list CV,i64],fun i=>Fh i.1 i.2,[Jp],fun i=>Be i.1 i.2,false⟩
def Oj:Ay:=⟨[.list CV,i64],fun i=>decide (Zx (α:=Int×Int) i.1<=1000000),[Jp,i64],fun i=>(Lt i.1 i.2,AZ i.1 i.2),false⟩
def TQ:Ay:=⟨[.list CV,i64],fun i=>decide (Zx (α:=Int×Int) i.1<=1000000),[Jp,i64],fun i=>(Db i.1 i.2,AZ i.1 i.2),false⟩
def N5:Ay:=⟨[.list CV,i64],fun i=>Fh i.1 i.2,[Jp],fun i=>Ax i.1 i.2,false⟩
def Uo:Ay:=⟨[.list CV,GR,i64],fun i=>decide (i.1.length<=45)&&decide (i.2.1.1.length<=100)&&decide (i.2.1.2.length<=45),[i64,i64],fun i=>(CB i.1 i.2.1.1 i.2.1.2 i.2.2,B9 i.1 i.2.1.1 i.2.1.2 i.2.2),false⟩
def UU:Ay:=⟨[.list CV,GR,i64],fun i=>Fh i.1 i.2.2&&decide (A0 i.1 i.2.1.1 i.2.1.2=0),[i64],fun i=>W2 i.1 i.2.1.2 i.2.2,false⟩
def NI:Ay:=⟨[Jp,Jp],fun i=>decide (Zx (α:=Int) i.1<=1000000),[.bool],fun i=>decide (i.1=i.2),false⟩
def T2:Ay:=⟨[Jp,i64,i64,Jp],fun i=>decide (Zx (α:=Int) i.1<=1000000),[.bool],fun i=>Gk i.1 i.2.1 i.2.2.1 i.2.2.2,false⟩
def Ow:Ay:=⟨[i64,i64,i64,i64],fun _=>true,[.bool],fun i=>Hu i.1 i.2.1 i.2.2.1 i.2.2.2,false⟩
def KN:Ay:=⟨[.list CV,GR,i64],fun _=>true,[.bool],fun _=>true,false⟩
def Kw:Ay:=⟨[.list CV,GR,i64],fun _=>true,[.bool],fun _=>true,false⟩
def Bl:AW:=X7 []
def PF:AW:=X7 [(110,CG),(111,Ec)]
def TX:AW:=X7 [(110,CG),(111,Ec),(175,G0)]
def Oz:AW:=X7 [(118,G0)]
def XA:AW:=X7 [(110,CG),(111,Ec),(116,E8),(66,Dn),(117,FM)]
def UX:AW:=X7 [(71,XQ),(28,Dn),(72,FM)]
def Vj:AW:=YW [(175,[1])] [(175,[(1,[(1,HH)])])] [(175,[(1,[1])])] [(110,CG),(111,Ec)]
def WB:AW:=X7 [(66,Dn),(115,O4),(112,CG),(113,Ec)]
def NP:AW:=X7 [(66,Dn),(68,Oj),(47,CG),(56,JD)]
def TD:AW:=X7 [(69,QI),(26,TQ)]
def P0:AW:=X7 [(70,O4)]
def TT:AW:=X7 [(32,N5)]
def Xj:AW:=X7 [(48,Ec)]
def WA:AW:=X7 [(25,Ec)]
def Xt:AW:=X7 [(46,NI)]
def RM:AW:=X7 [(8,J6),(26,TQ),(27,Uo),(28,Dn),(33,Lg),(29,T2),(30,Ow),(31,JD),(21,CG),(32,N5),(34,UU)]
def DB:AW:=X7 [(8,J6),(26,TQ),(27,Uo),(28,Dn),(33,Lg)]
section
open List Int Prod
namespace T5
def T(h:List (Int×Int))(c:Y×List (Int×Y))(n:Int):Tr:=tree RM false 9 5<|Af ([Zb<|Zc i64 i64,Zc Zh<|Zb<|Zc i64 Zh,ZU Zq]) (h,c,n)
def L1(v0:List (Int×Int))(v2 c:Int)(b:Y)(a:List (Int×Y)):Tr:=re ((T [] ([],[]) 0).L.R.R.R.R)<|Ba 119 [(0,.dat (Zb<|Zc i64 i64) v0),(2,.dat i64 v2),(4,.ptr 0 0),(7,.dat i64 c)] [(0,.box [.dat Zh b,.dat (Zb<|Zc i64 Zh) a])] 1
theorem AF(h:List (Int×Int))(c:Y×List (Int×Y))(n:Int):T h c n=let a:Tr:=.ck true<|.leaf (.dat ZJ true) [];.ck true (.ite false a<|.di ((length h:Int)>40) a<|.di ((↑(length<|snd c):Int)>40) a<|.di ((↑(length<|fst c):Int)>40) a<|L1 h n 0 (fst c)<|snd c):=by kernel_rfl
def tl(v0:List (Int×Int))(b:Y)(a:List (Int×Y))(v2:Int):Tr:=.ite (decide (length v0<=45)) (.ite (decide (2<=2)&&true&&decide (2<=1000000)) (.ite (Sp.first [A0 v0 b a,Cb v2 (-99) 99] !=0) (.ite true (.leaf (.dat ZJ<|Hu (CB v0 b a v2) (B9 v0 b a v2) (Sp.first [A0 v0 b a,Cb v2 (-99) 99]) 0) []) .fail)<|.ite (Fh v0 v2&&decide (A0 v0 b a=0)) (.ite true (.leaf (.dat ZJ<|Hu (CB v0 b a v2) (B9 v0 b a v2) 0<|W2 v0 a v2) []) .fail) .fail) .fail) .fail
theorem As(v0:List (Int×Int))(v2 c:Int)(b:Y)(a:List (Int×Y)):stepT RM (L1 v0 v2 c b a)=let d:=Db v0 v2;let f:Tr:=.leaf (.bl false) [];let j:=decide (c<(length a:Int));let g:=decide (length v0<=1000000);let e:=AZ v0 v2;let b':=decide (length d<=1000000);let i:Tr:=.ite (Cb v2 (-99) 99==0) (.ck (Fh v0 v2)<|.ck b'<|.ite (!Gk d e 0 (Ax v0 v2)) f<|tl v0 b a v2)<|tl v0 b a v2;.ite j (.ck (decide (0<=c)&&j)<|.di ((↑(length<|snd<|getD a (toNat c) (0,[])):Int)>20) (.leaf (.bl true) [])<|L1 v0 v2 (Za .i64<|c+1) b a) (.ck g<|.ck (decide (length v0<=45)&&decide (length b<=100)&&decide (length a<=45))<|.ck g<|.ite (Ap v0 !=0) (.ck b'<|.ite (Gk d e (Ap v0) []) (.ck true<|.leaf (.dat ZJ<|Hu (CB v0 b a v2) (B9 v0 b a v2) (Ap v0) 0) []) f)<|.ck true<|.ite (Cb v2 (-99) 99 !=0) (.ck b'<|.ite (!Gk d e (Cb v2 (-99) 99) []) f i) i):=by kernel_rfl
end T5
namespace T70
def T(h:List (Int×Int))(n:Int):Tr:=tree Bl false 9 70<|Af ([Zb<|Zc i64 i64,ZU Zq]) (h,n)
def L1(v0:List (Int×Int))(v1:Int)(a:Nat)(b:Int)(c:List Int):Tr:=re ((T [] 0).L)<|Ba 60 [(0,.dat (Zb<|Zc i64 i64) v0),(1,.dat i64 v1),(5,.sl 0 1 0 a none),(6,.dat i64 b)] [(0,.arr false 3 i64 c)] 1
theorem AF(h:List (Int×Int))(n:Int):T h n=let a:=(length h:Int);.ck (decide (0<=a)&&decide (a=a)&&decide (8*toNat a<=281474976710656)&&decide (a<9223372036854775808)) (L1 h n (toNat a) 0<|replicate (toNat a) 0):=by kernel_rfl
def L2(v0:List (Int×Int))(v1:Int)(a:Nat)(b d e:Int)(c:List Int):Tr:=re ((stepT Bl<|L1 [] 0 0 0 []).L.L.L)<|Ba 60 [(0,.dat (Zb<|Zc i64 i64) v0),(1,.dat i64 v1),(5,.sl 0 1 0 a none),(6,.dat i64 b),(7,.dat i64 d),(8,.dat i64 e)] [(0,.arr false 3 i64 c)] 1
theorem As(v0:List (Int×Int))(v1:Int)(a:Nat)(b:Int)(c:List Int):stepT Bl (L1 v0 v1 a b c)=let d:=(length v0:Int);.di (b<imax v1 (Za .i64<|0-v1)) (.cd (d≠0)<|.di (v1<0) (L2 v0 v1 a b (Za .i64<|Za .i64 (d+1)-Za .i64 (ZT b d+1)) 0 c)<|L2 v0 v1 a b (Za .i64<|ZT b d+1) 0 c) (.leaf (.sl 0 1 0 a none)<|[(0,.arr false 3 i64 c)]):=by kernel_rfl
theorem BV(v0:List (Int×Int))(v1:Int)(a:Nat)(d e b:Int)(c:List Int):stepT Bl (L2 v0 v1 a d e b c)=let f:=decide (0<=b)&&decide (b<(↑a:Int));let b':=decide (toNat b<length c);let g:=Za .i64<|b+1;let i:=decide (b<(length v0:Int));.ite i (.ck (decide (0<=b)&&i)<|.ite (snd (getD v0 (toNat b) (0,0))==e) (.di (v1>0) (.ck f<|.ck b'<|.ck f<|.ck b'<|L2 v0 v1 a d e g<|set c (toNat b)<|Za .i64<|getD c (toNat b) 0+1)<|.ck f<|.ck b'<|.ck f<|.ck b'<|L2 v0 v1 a d e g<|set c (toNat b)<|Za .i64<|getD c (toNat b) 0-1)<|L2 v0 v1 a d e g c) (L1 v0 v1 a (Za .i64<|d+1) c):=by kernel_rfl
end T70
namespace T32
def T(h:List (Int×Int))(n:Int):Tr:=tree P0 false 9 32<|Af ([Zb<|Zc i64 i64,ZU Zq]) (h,n)
def L1(v0:List (Int×Int))(v5:List Int)(a:Int):Tr:=re ((T [] 0).L)<|Ba 32 [(0,.dat (Zb<|Zc i64 i64) v0),(5,.dat (Zb i64) v5),(6,.nil),(7,.dat i64 a)] [] 0
theorem AF(h:List (Int×Int))(n:Int):T h n=.ck (Sp.Fh h n) (L1 h (Sp.Be h n) 0):=by kernel_rfl
def L2(v0:List (Int×Int))(v5:List Int)(a:Nat)(c:Int)(b:List Int):Tr:=re ((stepT P0<|L1 [] [] 0).L.L.L.L)<|Ba 32 [(0,.dat (Zb<|Zc i64 i64) v0),(5,.dat (Zb i64) v5),(6,.sl 0 1 0 a none),(7,.dat i64 c)] [(0,.arr false 3 i64 b)] 1
theorem As(v0:List (Int×Int))(v5:List Int)(a:Int):stepT P0 (L1 v0 v5 a)=let b:=decide (a<(length v0:Int));.ite b (.ck (decide (0<=a)&&b)<|.ck (decide (0<=a)&&decide (a<(length v5:Int)))<|.ck (a6 8)<|L2 v0 v5 1 (Za .i64<|a+1)<|[Za .i64<|Za .i64 (fst (getD v0 (toNat a) (0,0))+2)+getD v5 (toNat a) 0]) (.leaf .nil []):=by kernel_rfl
theorem BV(v0:List (Int×Int))(v5:List Int)(a:Nat)(b:Int)(c:List Int):stepT P0 (L2 v0 v5 a b c)=let d:=decide (b<(length v0:Int));.ite d (.ck (decide (0<=b)&&d)<|.ck (decide (0<=b)&&decide (b<(length v5:Int)))<|.ck (a7 a (length c) 8)<|L2 v0 v5 (ZF a 1) (Za .i64<|b+1)<|c++[Za .i64<|Za .i64 (fst (getD v0 (toNat b) (0,0))+2)+getD v5 (toNat b) 0]) (.leaf (.sl 0 1 0 a none)<|[(0,.arr false 3 i64 c)]):=by kernel_rfl
end T32
namespace T34
def T(h:List (Int×Int))(c:Y×List (Int×Y))(n:Int):Tr:=tree TT false 9 34<|Af ([Zb<|Zc i64 i64,Zc Zh<|Zb<|Zc i64 Zh,ZU Zq]) (h,c,n)
def L1(v0:List (Int×Int))(c:List Int)(d v9:Int)(b:Y)(a:List (Int×Y)):Tr:=re ((T [] ([],[]) 0).L)<|Ba 57 [(0,.dat (Zb<|Zc i64 i64) v0),(4,.ptr 0 0),(7,.dat (Zb i64) c),(8,.dat i64 d),(9,.dat i64 v9)] [(0,.box [.dat Zh b,.dat (Zb<|Zc i64 Zh) a])] 1
theorem AF(h:List (Int×Int))(c:Y×List (Int×Y))(n:Int):T h c n=.ck (Sp.Fh h n) (L1 h (Sp.Ax h n) 0 0 (fst c)<|snd c):=by kernel_rfl
theorem As(v0:List (Int×Int))(b:List Int)(c v9:Int)(d:Y)(a:List (Int×Y)):stepT TT (L1 v0 b c v9 d a)=let f:=decide (0<=v9)&&decide (v9<(length b:Int));let b':=getD a (toNat v9) (0,[]);let e:=Za .i64<|v9+1;let g:=decide (0<=v9)&&decide (v9<(length a:Int));.di (v9<(length v0:Int)) (.ck g<|.ite (snd b'==[(120:UInt8)]) (.ck f<|L1 v0 b (Za .i64<|c+getD b (toNat v9) 0) e d a)<|.ite (snd b'==[(45:UInt8)]) (.ck f<|L1 v0 b (Za .i64<|c+imax 1 (Za .i64<|getD b (toNat v9) 0-2)) e d a)<|.ck f<|.ck g<|L1 v0 b (Za .i64<|c+Pz (getD b (toNat v9) 0) (fst b')) e d a) (.leaf (.dat i64 c) []):=by kernel_rfl
end T34
namespace T33
def T(h:List (Int×Int))(c:Y×List (Int×Y)):Tr:=tree UX false 9 33<|Af ([Zb<|Zc i64 i64,Zc Zh<|Zb<|Zc i64 Zh]) (h,c)
theorem AF(h:List (Int×Int))(c:Y×List (Int×Y)):T h c=let b:Tr:=.cd (length (snd c)<=1000000)<|.leaf (.dat i64<|Sp.Dd<|snd c) [];let d:=(↑(length<|snd c):Int) !=(length h:Int);let a:=Sp.Ap h==0;let g:Tr:=.ite a b<|.leaf (.dat i64<|Sp.Ap h) [];let f:Tr:=.ite false b<|.leaf (.dat i64 (2:Int)) [];let e:Tr:=.ite false b<|.leaf (.dat i64 (8:Int)) [];let b':Tr:=.ite a (.ite d f g) g;.cd (length h<=1000000) (.ite a (.ck true<|.ite (!Zj (fst c)) (.ite false (.ite d f e) e) b') b'):=by kernel_rfl
end T33
namespace T28
def T(h:List (Int×Int)):Tr:=tree Bl false 9 28<|Af ([Zb<|Zc i64 i64]) h
def L1(v0:List (Int×Int))(v3:Int):Tr:=re ((T []).R.R)<|Ba 65 [(0,.dat (Zb<|Zc i64 i64) v0),(3,.dat i64 v3)] [] 0
theorem AF(h:List (Int×Int)):T h=.ite ((length h:Int)==0) (.leaf (.dat i64 (12:Int)) []) (.di ((length h:Int)>36) (.leaf (.dat i64 (5:Int)) [])<|L1 h 0):=by kernel_rfl
def L2(v0:List (Int×Int))(v3 v4:Int):Tr:=re ((stepT Bl<|L1 [] 0).L.L.R.L.R.L.R.L.R)<|Ba 65 [(0,.dat (Zb<|Zc i64 i64) v0),(3,.dat i64 v3),(4,.dat i64 v4)] [] 0
theorem As(v0:List (Int×Int))(v3:Int):stepT Bl (L1 v0 v3)=let b':Tr:=.leaf (.dat i64 (3:Int)) [];let a:=getD v0 (toNat v3) (0,0);let c:=(length v0:Int);let b:=decide (0<=v3)&&decide (v3<c);.di (v3<c) (.ck b<|.di (fst a<3) b'<|.ck b<|.di (fst a>6) b'<|.ck b<|.di (snd a<1) b'<|.ck b<|.di (snd a>c) b'<|L2 v0 v3 0) (.leaf (.dat i64 (0:Int)) []):=by kernel_rfl
theorem BV(v0:List (Int×Int))(v3 v4:Int):stepT Bl (L2 v0 v3 v4)=.di (v4<v3) (.ck (decide (0<=v4)&&decide (v4<(length v0:Int)))<|.ck (decide (0<=v3)&&decide (v3<(length v0:Int)))<|.ite (snd (getD v0 (toNat v4) (0,0))==snd (getD v0 (toNat v3) (0,0))) (.leaf (.dat i64 (9:Int)) [])<|L2 v0 v3<|Za .i64<|v4+1) (L1 v0<|Za .i64<|v3+1):=by kernel_rfl
end T28
namespace T118
def T(x:Int×Y):Tr:=tree Bl false 9 118<|Af ([Zc i64 Zh]) x
theorem AF(x:Int×Y):T x=let b':Tr:=.leaf (.dat i64 (3:Int)) [];let a:Tr:=.leaf (.dat i64 (0:Int)) [];let b:Tr:=.di (fst x<1) b'<|.di (fst x>99) b' a;.ite (snd x==[]) b (.ite (snd x==[(99:UInt8)]) b<|.ite (snd x==[(120:UInt8)]) (.ite (fst x !=0) b' a)<|.ite (snd x==[(45:UInt8)]) (.ite (fst x !=0) b' a)<|.leaf (.dat i64 (13:Int)) []):=by kernel_rfl
end T118
namespace T72
def T(l:List (Int×Y)):Tr:=tree Oz false 9 72<|Af ([Zb<|Zc i64 Zh]) l
def L1(v0:List (Int×Y))(v3:Int):Tr:=re ((T []))<|Ba 19 [(0,.dat (Zb<|Zc i64 Zh) v0),(3,.dat i64 v3)] [] 0
theorem AF(l:List (Int×Y)):T l=L1 l 0:=by kernel_rfl
theorem As(v0:List (Int×Y))(v3:Int):stepT Oz (L1 v0 v3)=let a:=decide (v3<(length v0:Int));let b':=getD v0 (toNat v3) (0,[]);.ite a (.ck (decide (0<=v3)&&a)<|.ck true<|.ite (Sp.Cf b' !=0) (.leaf (.dat i64<|Sp.Cf b') [])<|L1 v0<|Za .i64<|v3+1) (.leaf (.dat i64 (0:Int)) []):=by kernel_rfl
end T72
namespace T110
def T(l:List Int):Tr:=tree Xc false 9 110<|Af ([Zb i64]) l
def L1(v5:List Int)(b a:Int):Tr:=re ((T []))<|Ba 15 [(5,.dat (Zb i64) v5),(6,.dat i64 b),(7,.dat i64 a)] [] 0
theorem AF(l:List Int):T l=L1 l ((length l:Int)) 0:=by kernel_rfl
theorem As(v5:List Int)(b a:Int):stepT Xc (L1 v5 b a)=.di (a<b) (.ck (decide (0<=a)&&decide (a<(length v5:Int)))<|.ite (getD v5 (toNat a) 0 !=0) (.leaf (.dat i64<|getD v5 (toNat a) 0) [])<|L1 v5 b<|Za .i64<|a+1) (.leaf (.dat i64 (0:Int)) []):=by kernel_rfl
end T110
namespace T111
def T(b:Bool)(e:Int):Tr:=tree Xc false 9 111<|Af ([ZJ,ZU Zq]) (b,e)
theorem AF(b:Bool)(e:Int):T b e=.ite b (.leaf (.dat i64 e) []) (.leaf (.dat i64 (0:Int)) []):=by kernel_rfl
end T111
end
theorem OD:Jx Xc:=fun g sp h=>by cases h
namespace T110
theorem loop{Q:PV->Ob->Prop}(l:List Int)(g:l.length<=1000000):∀(r:List Int) (i:Nat),l.drop i=r->i<=l.length->Q (.dat i64<|Sp.first r) []->Ends Xc (L1 l ((l.length:Int)) i) Q
 |[],i,h,e,a=>by
  refine Ends.AO (As ..) ?_;conv=>zeta
  have:¬i<l.length:=by
   intro b;have:=ZL b;rw[h]at this;cases this
  have he:i=l.length:=a8
  subst he;simpa [Sp.first]using a
 |x::r,i,h,e,a=>by
  obtain⟨b,f,j⟩:=drop_cons (d:=0) h;refine Ends.AO (As ..) ?_;conv=>zeta
  rw[BD,wb (by simp;omega),BD,wb (by simp;omega),BD];simp only[Int.toNat_natCast,f];by_cases c:x=0
  ·subst c;rw[wa (by simp),wr _ a8 a8];exact loop l g r (i+1) j b (by simpa [Sp.first]using a)
  ·rw[wb<|by simpa using c];simpa [Sp.first,c]using a
theorem ok:Al Cd 110 CG:=by
 refine Fy OD<|fun l a=>?_;refine Ends.eq (AF l) ?_;conv=>zeta
 exact loop l (by simpa [CG]using a) l 0 rfl (ZH _) (Ak.of rfl rfl rfl)
end T110
theorem T111.ok:Al Cd 111 Ec:=by
 refine Fy OD<|fun⟨c,e⟩ _=>?_;refine Ends.eq (T111.AF c e) ?_;conv=>zeta
 have key:∀x:Int,x=Sp.Cv c e->Ak Ec (c,e) (.dat i64 x) []:=fun x a=>Ak.of rfl rfl a
 simp only[BD,Cj];cases c
 ·exact key _ rfl
 ·exact key _ rfl
open Sp
theorem Mw:Jx Bl:=fun g sp h=>by cases h
theorem T118.ok:Al Cd 118 G0:=by
 refine Fy Mw<|fun(x:Int×Y) _=>?_;have key:∀(v:Int) ob,v=Cf x->Ak G0 x (.dat i64 v) ob:=fun v ob h=>Ak.of rfl rfl h
 refine Ends.eq (T118.AF x) ?_;conv=>zeta
 obtain⟨n,s⟩:=x;simp only[BD,Cj,wh,w5,bne_iff_ne,wk];unfold Cf at key;simp only at key;repeat' split
 all_goals first|(apply key;simp_all;done)|(apply key;simp_all;omega)
theorem PY:Jx Oz:=Ai T118.ok BB
namespace T72
theorem loop{Q:PV->Ob->Prop}(l:List (Int×Y))(j:l.length<=1000000):∀(r:List (Int×Y)) (i:Nat),l.drop i=r->i<=l.length->(∀ob,Q (.dat i64<|Dd r) ob)->Ends Oz (L1 l i) Q
 |[],i,h,e,a=>by
  have:=drop_nil h e;subst this;exact Ends.AO (As ..) (Ends.ff (by simp)<|Ends.leaf<|a _)
 |x::r,i,h,e,a=>by
  obtain⟨f,g,k⟩:=drop_cons (d:=((0:Int),[])) h;refine Ends.AO (As ..) (Ends.tt (by simp;omega) (Ends.tt (by simp;omega)<|Ends.tt rfl ?_));have b:ZO l (ZP (i:Int)) ((0:Int),([]:Y))=x:=g;rw[b,wr ((i:Int)+1) a8 a8];unfold Dd at a;refine Ends.ite (fun c=>Ends.leaf ?_)<|fun c=>?_
  ·have:¬Cf x=0:=by simpa using c
   rw[wa this]at a;exact a _
  ·have:Cf x=0:=by simpa using c
   rw[wb this]at a;exact loop l j r (i+1) k f a
theorem ok:Al Cd 72 FM:=by
 refine Fy PY<|fun(l:List (Int×Y)) hl=>?_;exact Ends.eq (AF l)<|loop l (w6 hl) l 0 rfl (ZH _) (fun ob=>Ak.of rfl rfl rfl)
end T72
namespace T28
theorem inner(l:List (Int×Int))(p:l.length<=36)(i:Nat)(q:i<l.length)(x:Int×Int)(n:l.getD i ((0:Int),(0:Int))=x)(g:x.2∈(l.take i).map (·.2)->∀ob,Q (.dat i64 9) ob)(j:x.2∉(l.take i).map (·.2)->Ends Bl (L1 l<|(i:Int)+1) Q):
  ∀(f k:Nat),i-k=f->k<=i->x.2∉(l.take k).map (·.2)->Ends Bl (L2 l i k) Q
 |0,k,s,r,a=>by
  have:k=i:=a8
  subst this;refine Ends.AO (BV ..) (Ends.ff (by simp) ?_);rw[wr ((k:Int)+1) a8 a8];exact j a
 |f+1,k,s,r,a=>by
  have e:k<i:=a8
  have b:k<l.length:=a8
  refine Ends.AO (BV ..) (Ends.tt (by simp;omega) (Ends.tt (by simp;omega)<|Ends.tt (by simp;omega) ?_));have o:ZO l (ZP (i:Int)) ((0:Int),(0:Int))=x:=n;have e2:ZO l (ZP (k:Int)) ((0:Int),(0:Int))=l[k]:=by simp[b]
  rw[o,e2,wr ((k:Int)+1) a8 a8];have d:∀m,k<m->m<=l.length->(l[k]).2∈(l.take m).map (·.2):=fun m t u=>ZK.2 ⟨l[k],List.mem_take_iff_getElem.2 ⟨k,by omega,rfl⟩,rfl⟩
  refine Ends.ite (fun c=>Ends.leaf ?_)<|fun c=>?_
  ·have c:(l[k]).2=x.2:=by simpa using c
   exact g (c▸d i e a8) _
  ·have c:(l[k]).2≠x.2:=by simpa using c
   refine inner l p i q x n g j f (k+1) a8 e ?_;rw[Zn b,ZR,List.mem_append];rintro(h|h)
   ·exact a h
   ·simp at h;exact c h.symm
theorem loop(l:List (Int×Int))(q:l.length<=36):∀(r:List (Int×Int)) (i:Nat),l.drop i=r->i<=l.length->(∀ob,Q (.dat i64 (EL (l.length:Int) ((l.take i).map (·.2)) r)) ob)->Ends Bl (L1 l i) Q
 |[],i,h,s,a=>by
  have:=drop_nil h s;subst this;exact Ends.AO (As ..) (Ends.ff (by simp)<|Ends.leaf<|a _)
 |x::r,i,h,s,a=>by
  obtain⟨f,o,u⟩:=drop_cons (d:=((0:Int),(0:Int))) h;have b:(decide ((0:Int)<=(i:Int))&&decide ((i:Int)<(l.length:Int)))=true:=by simp;omega
  refine Ends.AO (As ..) (Ends.tt (by simp;omega)<|Ends.tt b ?_);have j:ZO l (ZP (i:Int)) ((0:Int),(0:Int))=x:=o;rw[j];unfold EL at a;have bad:(x.1<3\/6<x.1\/x.2<1\/(l.length:Int)<x.2)->∀ob,Q (.dat i64 3) ob:=fun t=>by rw[wb t]at a;exact a
  refine Ends.ite (fun c=>Ends.leaf<|bad (.inl<|w6 c) _)<|fun c1=>Ends.tt b<|Ends.ite (fun c=>Ends.leaf<|bad (.inr<|.inl<|w6 c) _)<|fun k=>Ends.tt b<|Ends.ite (fun c=>Ends.leaf<|bad (.inr<|.inr<|.inl<|w6 c) _)<|fun p=>Ends.tt b<|Ends.ite (fun c=>Ends.leaf<|bad (.inr<|.inr<|.inr<|w6 c) _)<|fun n=>?_;have g:¬(x.1<3\/6<x.1\/x.2<1\/(l.length:Int)<x.2):=by
   have c1:=w7 c1;have k:=w7 k;have p:=w7 p;have n:=w7 n;rintro(h|h|h|h)
   ·exact c1 h
   ·exact k h
   ·exact p h
   ·exact n h
  rw[wa g]at a;refine inner l q i f x o (fun m=>by rw[wb m]at a;exact a) (fun m=>?_) i 0 a8 (ZH _) (by simp);rw[wa m]at a;have e:(l.take<|i+1).map (·.2)=(l.take i).map (·.2)++[x.2]:=by
   rw[Zn f,ZR];have:l[i]=x:=by rw[<-o];simp[f]
   rw[this];rfl
  exact loop l q r (i+1) u f (by rw[e];exact a)
theorem ok:Al Cd 28 Dn:=by
 refine Fy Mw<|fun(l:List (Int×Int)) hl=>?_;have key:∀(v:Int) ob,v=Ap l->Ak Dn l (.dat i64 v) ob:=fun v ob h=>Ak.of rfl rfl h
 unfold Ap at key;refine Ends.eq (AF l)<|Ends.ite (fun c=>Ends.leaf<|key _ _ ?_)<|fun c=>Ends.ite (fun d=>Ends.leaf<|key _ _ ?_)<|fun d=>?_
 ·have:l.length=0:=by simpa using c
  rw[wb this]
 ·have c:¬l.length=0:=by simpa using c
  have d:=w6 d;rw[wa c,wb a8]
 ·have c:¬l.length=0:=by simpa using c
  have d:=w7 d;rw[wa c,wa a8]at key;exact loop l a8 l 0 rfl (ZH _) (fun ob=>key _ ob rfl)
end T28
section
open List Int Prod
namespace T69
def T(h:List (Int×Int))(c:Y×List (Int×Y)):Tr:=tree XA false 9 69<|Af ([Zb<|Zc i64 i64,Zc Zh<|Zb<|Zc i64 Zh]) (h,c)
theorem AF(h:List (Int×Int))(c:Y×List (Int×Y)):T h c=.cd (length h<=1000000) (.cd (length (fst c)<=1000000)<|.ck true<|.ck true<|.cd (length (snd c)<=1000000)<|.ck (decide (4<=4)&&true&&decide (4<=1000000))<|.leaf (.dat i64<|Sp.first [Sp.Ap h,Sp.Cv (!Zj (fst c)) 8,Sp.Cv ((↑(length<|snd c):Int) !=(length h:Int)) 2,Sp.Dd<|snd c]) []):=by kernel_rfl
end T69
namespace T66
def T(h:List (Int×Int)):Tr:=tree PF false 9 66<|Af ([Zb<|Zc i64 i64]) h
def L1(v0:List (Int×Int))(b:List (Int×Int))(c a:Int)(d:List (Int×Bool)):Tr:=re ((T []).L.L.L.R)<|Ba 63 [(0,.dat (Zb<|Zc i64 i64) v0),(4,PV.mp 0),(22,.dat (Zb<|Zc i64 i64) b),(23,.dat i64 c),(24,.dat i64 a)] [(0,Obj.map i64 ZJ d)] 1
theorem AF(h:List (Int×Int)):T h=let a:=(length h:Int);.ck true (.ck true<|.ck (decide (2<=2)&&true&&decide (2<=1000000))<|.ite (Sp.first [Cv (a==0) 12,Cv (decide (a>36)) 5] !=0) (.leaf (.dat i64<|Sp.first [Cv (a==0) 12,Cv (decide (a>36)) 5]) [])<|L1 h h a 0 []):=by kernel_rfl
theorem As(v0:List (Int×Int))(b:List (Int×Int))(c a:Int)(f:List (Int×Bool)):stepT PF (L1 v0 b c a f)=let b':=getD b (toNat a) (0,0);let j:=decide (2<=2)&&true&&decide (2<=1000000);let d:=Option.getD (CM i64 ZJ (snd b') f) false;let i:=L1 v0 b c (Za .i64<|a+1)<|FI i64 ZJ (snd b') true f;let g:=decide (snd b'>(length v0:Int));let e:Tr:=.ck true<|.ck true<|.ck j<|.ite (Sp.first [Cv true 3,Cv d 9] !=0) (.leaf (.dat i64<|Sp.first [Cv true 3,Cv d 9]) []) i;.di (a<c) (.ck (decide (0<=a)&&decide (a<(length b:Int)))<|.di (fst b'<3) e<|.di (fst b'>6) e<|.di (snd b'<1) e<|.ck true<|.ck true<|.ck j<|.ite (Sp.first [Cv g 3,Cv d 9] !=0) (.leaf (.dat i64<|Sp.first [Cv g 3,Cv d 9]) []) i) (.leaf (.dat i64 (0:Int)) []):=by kernel_rfl
end T66
namespace T175
def T(x:Int×Y):Tr:=tree Vj false 9 175<|Af ([Zc i64 Zh]) x
def L1(v1:Int×Y):Tr:=re ((T (0,[])))<|Ba 21 [(1,PV.B4 (Zc i64 Zh) v1 0)] [] 0
theorem AF(x:Int×Y):T x=L1 x:=by kernel_rfl
theorem As(v1:Int×Y):stepT Vj (L1 v1)=let a:Tr:=.di (fst v1>=1) (.ck true<|.leaf (.dat i64<|Cv (!decide (fst v1<=99)) 3) [])<|.ck true<|.leaf (.dat i64<|Cv true 3) [];let b':Tr:=.ck true<|.leaf (.dat i64<|Cv (!fst v1==0) 3) [];.ite (Jy Zh (snd v1) []) a (.ite (Jy Zh (snd v1) [(99:UInt8)]) a<|.ite (Jy Zh (snd v1) [(120:UInt8)]) b'<|.ite (Jy Zh (snd v1) [(45:UInt8)]) b'<|.leaf (.dat i64 (13:Int)) []):=by kernel_rfl
end T175
namespace T117
def T(l:List (Int×Y)):Tr:=tree TX false 9 117<|Af ([Zb<|Zc i64 Zh]) l
def L1(a:List (Int×Y))(b c:Int):Tr:=re ((T []))<|Ba 18 [(6,.dat (Zb<|Zc i64 Zh) a),(7,.dat i64 b),(8,.dat i64 c)] [] 0
theorem AF(l:List (Int×Y)):T l=L1 l ((length l:Int)) 0:=by kernel_rfl
theorem As(b:List (Int×Y))(c a:Int):stepT TX (L1 b c a)=let d:=getD b (toNat a) (0,[]);.di (a<c) (.ck (decide (0<=a)&&decide (a<(length b:Int)))<|.ck true<|.ite (Cf d !=0) (.leaf (.dat i64<|Cf d) [])<|L1 b c<|Za .i64<|a+1) (.leaf (.dat i64 (0:Int)) []):=by kernel_rfl
end T117
end
theorem Si:Jx PF:=Ai T110.ok<|Ai T111.ok BB
theorem Qn:Jx Vj:=Ai T110.ok<|Ai T111.ok BB
theorem T175.ok:Al Cd 175 G0:=by
 refine Fy Qn<|fun(x:Int×Y) _=>?_;have key:∀(v:Int) ob,v=Cf x->Ak G0 x (.dat i64 v) ob:=fun v ob h=>Ak.of rfl rfl h
 refine Ends.eq (T175.AF x)<|Ends.AO (T175.As ..) ?_;obtain⟨n,s⟩:=x;have c:∀a b:Y,Jy Zh a b=(a==b):=fun _ _=>rfl
 simp only[BD,Cj,Pb,c,wh,w5,wi];unfold Cf at key;simp only at key;repeat' split
 all_goals first|(apply key;simp_all [Cv];done)|(apply key;simp_all [Cv];first|omega|(split<;>omega)|(cases d:decide (n<=99)<;>simp_all<;>omega)|(cases d:(n==0)<;>simp_all))
theorem RE:Jx TX:=Ai T110.ok<|Ai T111.ok<|Ai T175.ok BB
namespace T117
theorem loop{Q:PV->Ob->Prop}(l:List (Int×Y))(j:l.length<=1000000):∀(r:List (Int×Y)) (i:Nat),l.drop i=r->i<=l.length->(∀ob,Q (.dat i64<|Dd r) ob)->Ends TX (L1 l (l.length:Int) i) Q
 |[],i,h,e,a=>by
  have:=drop_nil h e;subst this;exact Ends.AO (As ..) (Ends.ff (by simp)<|Ends.leaf<|a _)
 |x::r,i,h,e,a=>by
  obtain⟨f,g,k⟩:=drop_cons (d:=((0:Int),[])) h;refine Ends.AO (As ..) (Ends.tt (by simp;omega) (Ends.tt (by simp;omega)<|Ends.tt rfl ?_));have b:ZO l (ZP (i:Int)) ((0:Int),([]:Y))=x:=g;rw[b,wr ((i:Int)+1) a8 a8];unfold Dd at a;refine Ends.ite (fun c=>Ends.leaf ?_)<|fun c=>?_
  ·have:¬Cf x=0:=by simpa using c
   rw[wa this]at a;exact a _
  ·have:Cf x=0:=by simpa using c
   rw[wb this]at a;exact loop l j r (i+1) k f a
theorem ok:Al Cd 117 FM:=by
 refine Fy RE<|fun(l:List (Int×Y)) hl=>?_;exact Ends.eq (AF l)<|loop l (w6 hl) l 0 rfl (ZH _) (fun ob=>Ak.of rfl rfl rfl)
end T117
namespace T66
theorem loop(l:List (Int×Int))(z:l.length<=36):∀(r:List (Int×Int)) (i:Nat) (m:List (Int×Bool)),l.drop i=r->i<=l.length->Jl m (fun y=>y∈(l.take i).map (·.2))->(∀ob,Q (.dat i64 (EL (l.length:Int) ((l.take i).map (·.2)) r)) ob)->Ends PF (L1 l l (l.length:Int) i m) Q
 |[],i,m,h,v,k,a=>by
  have:=drop_nil h v;subst this;exact Ends.AO (As ..) (Ends.ff (by simp)<|Ends.leaf<|a _)
 |x::r,i,m,h,v,k,a=>by
  obtain⟨n,w,A⟩:=drop_cons (d:=((0:Int),(0:Int))) h;refine Ends.AO (As ..) (Ends.tt (by simp;omega) (Ends.tt (by simp;omega) ?_));have s:ZO l (ZP (i:Int)) ((0:Int),(0:Int))=x:=w;rw[s,wr ((i:Int)+1) a8 a8];unfold EL at a;have q:¬(x.1<3\/6<x.1\/x.2<1\/(l.length:Int)<x.2)->x.2∉(l.take i).map (·.2)->Ends PF (L1 l l (l.length:Int) ((i:Int)+1)<|FI (.int .i64) .bool x.2 true m) Q:=by
   intro b o;rw[wa b,wa o]at a;have e:(l.take<|i+1).map (·.2)=(l.take i).map (·.2)++[x.2]:=by
    rw[Zn n,ZR];have:l[i]=x:=by rw[<-w];simp[n]
    rw[this];rfl
   refine loop l z r (i+1) _ A n ((k.add x.2).congr fun y=>?_) (by rw[e];exact a);rw[e,List.mem_append];simp;constructor<;>(rintro(h|h)<;>simp[h])
  have g:(CM (.int .i64) .bool x.2 m).getD false=decide (x.2∈(l.take i).map (·.2)):=by
   rw[Bool.eq_iff_iff,w5];exact k x.2
  rw[g];have bad:∀ {t:Tr} {ob:Ob} (c:Bool),(x.1<3\/6<x.1\/x.2<1\/(l.length:Int)<x.2)->Ends PF (.ite (Sp.first [Cv true 3,Cv c 9] !=(0:Int)) (.leaf (.dat i64<|Sp.first [Cv true 3,Cv c 9]) ob) t) Q:=fun c f=>by
   rw[wb f]at a;have e:Sp.first [Cv true 3,Cv c 9]=3:=rfl
   rw[e];exact Ends.tt rfl (Ends.leaf<|a _)
  refine Ends.ite (fun c=>Ends.tt rfl (Ends.tt rfl (Ends.tt rfl (bad _<|.inl<|w6 c))))<|fun c1=>Ends.ite (fun c=>Ends.tt rfl (Ends.tt rfl (Ends.tt rfl (bad _<|.inr<|.inl<|w6 c))))<|fun u=>Ends.ite (fun c=>Ends.tt rfl (Ends.tt rfl (Ends.tt rfl (bad _<|.inr<|.inr<|.inl<|w6 c))))<|fun p=>Ends.tt rfl (Ends.tt rfl (Ends.tt rfl ?_));have c1:=w7 c1;have u:=w7 u;have p:=w7 p;by_cases f:(l.length:Int)<x.2
  ·rw[w4<|show x.2>(l.length:Int)from f];exact bad _<|.inr<|.inr<|.inr f
  ·rw[w8<|show ¬x.2>(l.length:Int)from f];have b:¬(x.1<3\/6<x.1\/x.2<1\/(l.length:Int)<x.2):=by
    rintro(h|h|h|h)
    ·exact c1 h
    ·exact u h
    ·exact p h
    ·exact f h
   by_cases j:x.2∈(l.take i).map (·.2)
   ·rw[w4 j];rw[wa b,wb j]at a;exact Ends.tt rfl (Ends.leaf<|a _)
   ·rw[w8 j];exact Ends.ff rfl (q b j)
theorem ok:Al Cd 66 Dn:=by
 refine Fy Si<|fun(l:List (Int×Int)) hl=>?_;have key:∀(v:Int) ob,v=Ap l->Ak Dn l (.dat i64 v) ob:=fun v ob h=>Ak.of rfl rfl h
 unfold Ap at key;refine Ends.eq (AF l)<|Ends.tt rfl (Ends.tt rfl (Ends.tt rfl ?_));by_cases c:l.length=0
 ·rw[wb c]at key;have e:Sp.first [Cv ((l.length:Int)==0) 12,Cv (decide ((l.length:Int)>36)) 5]=12:=by
   rw[show((l.length:Int)==0)=true by simp[c]];rfl
  rw[e];exact Ends.tt rfl (Ends.leaf<|key _ _ rfl)
 ·rw[wa c]at key;rw[show((l.length:Int)==0)=false by rw[wm];omega];by_cases d:36<l.length
  ·rw[wb d]at key;rw[w4<|show(l.length:Int)>36 by omega];exact Ends.tt rfl (Ends.leaf<|key _ _ rfl)
  ·rw[wa d]at key;rw[w8<|show ¬(l.length:Int)>36 by omega];exact Ends.ff rfl (loop l a8 l 0 [] rfl (ZH _) (Jl.nil.congr (by simp)) (fun ob=>key _ ob rfl))
end T66
theorem R8:Jx XA:=Ai T110.ok<|Ai T111.ok<|Ai T116.ok<|Ai T66.ok<|Ai T117.ok BB
theorem R6{h:List (Int×Int)}{p:Y}{l:List (Int×Y)}(a:QI.pre (h,(p,l))=true):h.length<=45/\p.length<=100/\l.length<=45:=by
 have a:(decide (h.length<=45)&&decide (p.length<=100)&&decide (l.length<=45))=true:=a;simp only[Zd,w5]at a;exact⟨a.1.1,a.1.2,a.2⟩
theorem Rp(h:List (Int×Int))(l:List (Int×Y)):((l.length:Int) !=(h.length:Int))=decide (l.length≠h.length):=by
 rw[Bool.eq_iff_iff,bne_iff_ne,w5];omega
theorem T69.ok:Al Cd 69 QI:=by
 refine Fy R8<|fun⟨(h:List (Int×Int)),((p:Y),(l:List (Int×Y)))⟩ hp=>?_;obtain⟨a,b,c⟩:=R6 hp;refine Ends.eq (T69.AF h (p,l)) (Ends.tt (w4 a8)<|Ends.tt (w4<|by simp;omega)<|Ends.tt rfl (Ends.tt rfl (Ends.tt (w4<|by simp;omega)<|Ends.tt rfl (Ends.leaf ?_))));rw[Rp];exact Ak.of rfl rfl rfl
section
open List Int Prod
namespace T71
def T(s:Y):Tr:=tree Qf false 9 71<|Af ([Zh]) s
def L1(v0:Y)(v3:Int):Tr:=re ((T []).R.R)<|Ba 56 [(0,.dat Zh v0),(3,.dat i64 v3)] [] 0
theorem AF(s:Y):T s=.di ((length s:Int)<1) (.leaf (.bl false) []) (.di ((length s:Int)>24) (.leaf (.bl false) [])<|L1 s 0):=by kernel_rfl
theorem As(v0:Y)(v3:Int):stepT Qf (L1 v0 v3)=let b':=(↑(UInt8.toNat<|getD v0 (toNat v3) (0:UInt8)):Int);let a:=L1 v0<|Za .i64<|v3+1;let b:Tr:=.leaf (.bl false) [];let d:=decide (v3<(length v0:Int));let e:Tr:=.ite (v3==0) b<|.di (b'>=48) (.di (b'<=57) a<|.ite (!b'==95) b a)<|.ite (!b'==95) b a;let c:Tr:=.di (b'>=65) (.ite (!decide (b'<=90)) e a) e;.ite d (.ck (decide (0<=v3)&&d)<|.di (b'>=97) (.di (b'<=122) a c) c) (.leaf (.bl true) []):=by kernel_rfl
end T71
end
namespace T71
theorem loop(s:Y)(t:s.length<=24):∀(r:Y) (i:Nat),s.drop i=r->i<=s.length->
  (((decide (1<=i)||Zi ((r.headD 97).toNat:Int))&&(r.all fun c=>Zl (c.toNat:Int)))=false->Q (.bl false) [])->(((decide (1<=i)||Zi ((r.headD 97).toNat:Int))&&(r.all fun c=>Zl (c.toNat:Int)))=true->Q (.bl true) [])->Ends Qf (L1 s i) Q
 |[],i,h,n,l,g=>by
  have:=drop_nil h n;refine Ends.AO (As ..) (Ends.ff (by simp;omega) ?_);exact Ends.leaf (g (by simp;exact .inr aa))
 |x::r,i,h,n,l,g=>by
  obtain⟨q,p,u⟩:=drop_cons (d:=0) h;refine Ends.AO (As ..) ?_;conv=>zeta
  simp only[Int.toNat_natCast,p];rw[wr _ a8 a8];have m:=IJ (x.toNat:Int);have k:=FF (x.toNat:Int);have step:(1<=i\/Zi (x.toNat:Int)=true)->Zl (x.toNat:Int)=true->Ends Qf (L1 s<|(i:Int)+1) Q:=by
   intro hm o;have e:((i:Int)+1)=((i+1:Nat):Int):=by push_cast;rfl
   rw[e];refine loop s t r (i+1) u q (fun e=>l ?_)<|fun e=>g ?_
   ·simp only[Zu,o,Bool.true_and];have:(r.all fun c=>Zl (c.toNat:Int))=false:=by simpa using e
    rw[this,Bool.and_false]
   ·have:(r.all fun c=>Zl (c.toNat:Int))=true:=by simpa using e
    simp only[Zu,o,this,ZV,Bool.or_eq_true,w5,ZS];exact hm
  have no:(¬(1<=i\/Zi (x.toNat:Int)=true)\/Zl (x.toNat:Int)=false)->Q (.bl false) []:=by
   intro hm;refine l ?_;simp only[ZS,Zu];rcases hm with hm|hm
   ·have:(decide (1<=i)||Zi (x.toNat:Int))=false:=by
     rw[Bool.eq_false_iff];intro h;apply hm;simpa using h
    rw[this,Bool.false_and]
   ·rw[hm,Bool.false_and,Bool.and_false]
  generalize ((x.toNat:Nat):Int)=c at m k step no ⊢;by_cases hm:Zl c=true
  ·have b:=m.1 hm;by_cases a:1<=i\/Zi c=true
   ·have j:1<=i\/(97<=c/\c<=122)\/(65<=c/\c<=90):=a.imp id k.1;repeat' (with_reducible refine Ends.ite (fun _=>?_)<|fun _=>?_)
    all_goals first|with_reducible exact step a hm|(exfalso;simp only[w5,w9,Zw,Zd,ZD,wh,wm,wk]at*;omega)
   ·have j:¬(1<=i\/(97<=c/\c<=122)\/(65<=c/\c<=90)):=fun h=>a<|h.imp id k.2
    repeat' (with_reducible refine Ends.ite (fun _=>?_)<|fun _=>?_)
    all_goals first|with_reducible exact Ends.leaf (no<|.inl a)|(exfalso;simp only[w5,w9,Zw,Zd,ZD,wh,wm,wk,Bool.not_eq_false']at*;omega)
  ·have f:Zl c=false:=by simpa using hm
   have b:¬_:=fun h=>hm<|m.2 h
   repeat' (with_reducible refine Ends.ite (fun _=>?_)<|fun _=>?_)
   all_goals first|with_reducible exact Ends.leaf (no<|.inr f)|(exfalso;simp only[w5,w9,Zw,Zd,ZD,wh,wm,wk,Bool.not_eq_false']at*;omega)
theorem ok:Al Cd 71 XQ:=by
 refine Fy Sj<|fun(s:Y) _=>?_;have a:∀b,b=Zj s->Ak XQ s (.bl b) []:=fun b g=>Ak.of rfl rfl g
 refine Ends.eq (AF s) ?_;conv=>zeta
 rw[BD];cases s with
 |nil=>rw[wb (by simp),Cj];exact a _ rfl
 |cons x r=>
  rw[wa (by simp;omega),BD];by_cases h:(x::r).length<=24
  ·rw[wa<|by simp at h ⊢;omega];have f:decide (r.length<=23)=true:=by simp at h ⊢;omega
   have key:Zj (x::r)=((decide (1<=0)||Zi (((x::r).headD 97).toNat:Int))&&((x::r).all fun c=>Zl (c.toNat:Int))):=by
    simp only[Zj,f,ZS,Zu,Bool.true_and];cases d:Zi (x.toNat:Int)with
    |false=>simp
    |true=>
     have:Zl (x.toNat:Int)=true:=by unfold Zl;rw[d];rfl
     simp[this]
   exact loop (x::r) h (x::r) 0 rfl (by simp) (fun e=>a _<|by rw[key];exact e.symm) (fun e=>a _<|by rw[key];exact e.symm)
  ·rw[wb (by simp at h ⊢;omega),Cj];exact a _ (by simp only[Zj];rw[w8<|by simp at h;omega];rfl)
end T71
theorem PQ:Jx UX:=Ai T71.ok<|Ai T28.ok<|Ai T72.ok BB
theorem T33.ok:Al Cd 33 Lg:=by
 refine Fy PQ<|fun⟨(h:List (Int×Int)),((p:Y),(l:List (Int×Y)))⟩ hp=>?_;have a:h.length<=45:=w6 hp;have key:∀(v:Int) ob,v=A0 h p l->Ak Lg (h,(p,l)) (.dat i64 v) ob:=fun v ob h=>Ak.of rfl rfl h
 unfold A0 at key;have d:∀ {x y:Int} {r:List Int},x≠0->Sp.first (x::r)=x:=fun h=>wb h
 have f0:∀ {r:List Int},Sp.first (0::r)=Sp.first r:=wa aa
 refine Ends.eq (T33.AF h (p,l)) (Ends.tt (w4 a8) ?_);simp only[Rp];by_cases c1:Ap h=0
 ·rw[c1]at key ⊢;rw[f0]at key;refine Ends.tt rfl (Ends.tt rfl ?_);by_cases b:Zj p=true
  ·have e:Cv (!Zj p) 8=0:=by rw[b];rfl
   rw[e,f0]at key;refine Ends.ff (by simp[b])<|Ends.tt rfl ?_;by_cases c:l.length=h.length
   ·have e:Cv (decide (l.length≠h.length)) 2=0:=by rw[w8<|fun k=>k c];rfl
    rw[e,f0]at key;refine Ends.ff (w8<|fun k=>k c) (Ends.tt rfl (Ends.tt (w4 a8)<|Ends.leaf<|key _ _ ?_));unfold Sp.first Sp.first
    split
    ·rfl
    ·rename_i k;simpa using k
   ·have e:Cv (decide (l.length≠h.length)) 2=2:=by rw[w4 c];rfl
    rw[e]at key;exact Ends.tt (w4 c)<|Ends.ff rfl (Ends.leaf<|key _ _ rfl)
  ·have b:Zj p=false:=by simpa using b
   have e:Cv (!Zj p) 8=8:=by rw[b];rfl
   rw[e]at key;refine Ends.tt (by simp[b])<|Ends.ff rfl ?_;exact Ends.ff rfl (Ends.leaf<|key _ _ rfl)
 ·rw[d c1 (y:=0)]at key;have e:(Ap h==(0:Int))=false:=by rw[wm];exact c1
  exact Ends.ff e<|Ends.ff e<|Ends.ff e<|Ends.leaf<|key _ _ rfl
section
open List Int Prod
namespace T115
def T(h:List (Int×Int))(n:Int):Tr:=tree Bl false 9 115<|Af ([Zb<|Zc i64 i64,ZU Zq]) (h,n)
def L1(v5 d:Int)(a:List (Int×Int))(c b:Int):Tr:=re ((T [] 0).L.L.L)<|Ba 40 [(5,.dat i64 v5),(6,.dat i64 d),(7,.nil),(21,.dat (Zb<|Zc i64 i64) a),(22,.dat i64 c),(23,.dat i64 b)] [] 0
theorem AF(h:List (Int×Int))(n:Int):T h n=let a:=(length h:Int);let b':=Int.tdiv n a;let b:=Za .i64 b'-1;.cd (a≠0) (.cd (a≠0)<|.di (ZT n a<0) (L1 (Za .i64 b) (Za .i64<|n-Za .i64 (Za .i64 b*a)) h a 0)<|L1 (Za .i64 b') (Za .i64<|n-Za .i64 (Za .i64 b'*a)) h a 0):=by kernel_rfl
def L2(v5 e:Int)(d:Nat)(a:List (Int×Int))(c b:Int)(f:List Int):Tr:=re ((stepT Bl<|L1 0 0 [] 0 0).L.L.L.L)<|Ba 40 [(5,.dat i64 v5),(6,.dat i64 e),(7,.sl 0 1 0 d none),(21,.dat (Zb<|Zc i64 i64) a),(22,.dat i64 c),(23,.dat i64 b)] [(0,.arr false 3 i64 f)] 1
theorem As(v5 d:Int)(b:List (Int×Int))(c a:Int):stepT Bl (L1 v5 d b c a)=let e:=a6 8;let b':=Za .i64<|a+1;.di (a<c) (.ck (decide (0<=a)&&decide (a<(length b:Int)))<|.di (snd (getD b (toNat a) (0,0))<=d) (.ck e<|L2 v5 d 1 b c b'<|[Za .i64<|v5+1 ])<|.ck e<|L2 v5 d 1 b c b' [v5]) (.leaf .nil []):=by kernel_rfl
theorem BV(v5 f:Int)(b:Nat)(c:List (Int×Int))(d a:Int)(e:List Int):stepT Bl (L2 v5 f b c d a e)=let g:=a7 b (length e) 8;let b':=Za .i64<|a+1;.di (a<d) (.ck (decide (0<=a)&&decide (a<(length c:Int)))<|.di (snd (getD c (toNat a) (0,0))<=f) (.ck g<|L2 v5 f (ZF b 1) c d b'<|e++[Za .i64<|v5+1 ])<|.ck g<|L2 v5 f (ZF b 1) c d b'<|e++[v5]) (.leaf (.sl 0 1 0 b none)<|[(0,.arr false 3 i64 e)]):=by kernel_rfl
end T115
namespace T68
def T(h:List (Int×Int))(n:Int):Tr:=tree WB false 9 68<|Af ([Zb<|Zc i64 i64,ZU Zq]) (h,n)
theorem AF(h:List (Int×Int))(n:Int):T h n=let a:Tr:=.ck (Fh h n)<|.leaf (.tup [.dat (Zb i64)<|Be h n,.dat i64 (0:Int)]) [];let b':=decide (2<=2)&&true&&decide (2<=1000000);.cd (length h<=1000000) (.di (n<Za .i64 (0-99)) (.ck true<|.ck b'<|.ite (Sp.first [Ap h,Cv true 3] !=0) (.leaf (.tup [.nil,.dat i64<|Sp.first [Ap h,Cv true 3]]) []) a)<|.ck true<|.ck b'<|.ite (Sp.first [Ap h,Cv (decide (n>99)) 3] !=0) (.leaf (.tup [.nil,.dat i64<|Sp.first [Ap h,Cv (decide (n>99)) 3]]) []) a):=by kernel_rfl
end T68
namespace T26
def T(h:List (Int×Int))(n:Int):Tr:=tree NP false 9 26<|Af ([Zb<|Zc i64 i64,ZU Zq]) (h,n)
def L1(d:List Int)(a:List (Int×Int))(c b:Int):Tr:=re ((T [] 0).L.L.L.R.L.R)<|Ba 50 [(7,.dat (Zb i64) d),(9,.nil),(30,.dat (Zb<|Zc i64 i64) a),(31,.dat i64 c),(32,.dat i64 b)] [] 0
theorem AF(h:List (Int×Int))(n:Int):T h n=let a:=decide (length h<=1000000);.ck a (.ck true<|.ck (decide (2<=2)&&true&&decide (2<=1000000))<|.ite (Sp.first [Ap h,Cb n (-99) 99] !=0) (.leaf (.tup [.nil,.dat i64<|Sp.first [Ap h,Cb n (-99) 99]]) [])<|.ck a<|.ite (AZ h n !=0) (.leaf (.tup [.nil,.dat i64<|AZ h n]) [])<|L1 (Lt h n) h ((length h:Int)) 0):=by kernel_rfl
def L2(f:List Int)(b:Nat)(a:List (Int×Int))(d c:Int)(e:List Int):Tr:=re ((stepT NP<|L1 [] [] 0 0).L.L.L.L)<|Ba 50 [(7,.dat (Zb i64) f),(9,.sl 0 1 0 b none),(30,.dat (Zb<|Zc i64 i64) a),(31,.dat i64 d),(32,.dat i64 c)] [(0,.arr false 3 i64 e)] 1
theorem As(d:List Int)(b:List (Int×Int))(c a:Int):stepT NP (L1 d b c a)=.di (a<c) (.ck (decide (0<=a)&&decide (a<(length b:Int)))<|.ck (decide (0<=a)&&decide (a<(length d:Int)))<|.ck (a6 8)<|L2 d 1 b c (Za .i64<|a+1)<|[Za .i64<|Za .i64 (fst (getD b (toNat a) (0,0))+2)+getD d (toNat a) 0]) (.leaf (.tup [.nil,.dat i64 (0:Int)]) []):=by kernel_rfl
theorem BV(f:List Int)(b:Nat)(c:List (Int×Int))(d a:Int)(e:List Int):stepT NP (L2 f b c d a e)=.di (a<d) (.ck (decide (0<=a)&&decide (a<(length c:Int)))<|.ck (decide (0<=a)&&decide (a<(length f:Int)))<|.ck (a7 b (length e) 8)<|L2 f (ZF b 1) c d (Za .i64<|a+1)<|e++[Za .i64<|Za .i64 (fst (getD c (toNat a) (0,0))+2)+getD f (toNat a) 0]) (.leaf (.tup [.sl 0 1 0 b none,.dat i64 (0:Int)])<|[(0,.arr false 3 i64 e)]):=by kernel_rfl
end T26
namespace T27
def T(h:List (Int×Int))(c:Y×List (Int×Y))(n:Int):Tr:=tree TD false 9 27<|Af ([Zb<|Zc i64 i64,Zc Zh<|Zb<|Zc i64 Zh,ZU Zq]) (h,c,n)
def L1(v9:List Int)(a:Int)(b:List (Int×Y))(d c:Int):Tr:=re ((T [] ([],[]) 0).L.R.L.R)<|Ba 68 [(9,.dat (Zb i64) v9),(11,.dat i64 a),(30,.dat (Zb<|Zc i64 Zh) b),(31,.dat i64 d),(32,.dat i64 c)] [] 0
theorem AF(h:List (Int×Int))(c:Y×List (Int×Y))(n:Int):T h c n=.ck (decide (length h<=45)&&decide (length (fst c)<=100)&&decide (length (snd c)<=45)) (.ite (A0 h (fst c) (snd c) !=0) (.leaf (.tup [.dat i64 (0:Int),.dat i64<|A0 h (fst c)<|snd c]) [])<|.cd (length h<=1000000)<|.ite (AZ h n !=0) (.leaf (.tup [.dat i64 (0:Int),.dat i64<|AZ h n]) [])<|L1 (Db h n) 0 (snd c) ((↑(length<|snd c):Int)) 0):=by kernel_rfl
theorem As(v9:List Int)(c:Int)(b:List (Int×Y))(d a:Int):stepT TD (L1 v9 c b d a)=let f:=decide (0<=a)&&decide (a<(length v9:Int));let b':=getD b (toNat a) (0,[]);let e:=Za .i64<|a+1;.di (a<d) (.ck (decide (0<=a)&&decide (a<(length b:Int)))<|.ite (snd b'==[(120:UInt8)]) (.ck f<|L1 v9 (Za .i64<|c+getD v9 (toNat a) 0) b d e)<|.ite (snd b'==[(45:UInt8)]) (.ck f<|L1 v9 (Za .i64<|c+imax 1 (Za .i64<|getD v9 (toNat a) 0-2)) b d e)<|.ck f<|L1 v9 (Za .i64<|c+Pz (fst b') (getD v9 (toNat a) 0)) b d e) (.leaf (.tup [.dat i64 c,.dat i64 (0:Int)]) []):=by kernel_rfl
end T27
end
end Go.Pe
