import Derived.Test.YtobmcolckeoejaaGreatDoorX08
import Derived.Lib.Mul64
/- A part of a proof; no law is stated here. -/
noncomputable section
open Go.IntKind renaming wrap -> zc, u64 -> zd, i64 -> z6
open Bool renaming and_eq_true -> ze, true_and -> zt
open List renaming replicate -> zf, getD_eq_getElem?_getD -> zg, take_of_length_le -> zk, getElem?_eq_getElem -> zm, mem_singleton -> zn, drop_eq_getElem_cons -> zq, take_length -> z7, getElem?_eq_none -> yc, append_assoc -> yj, drop_eq_nil_of_le -> yn, all_cons -> yo
open Int renaming toNat_natCast -> zh, eq_ofNat_of_zero_le -> zj, fdiv -> zp, mul_add -> zx, mul_le_mul_of_nonneg_left -> yd, natCast_add -> yf, mul_assoc -> yk, add_assoc -> yp, lt_or_le -> yr
open Go.Pe.Sh renaming int -> zi, list -> zl
open Go.Sp renaming val -> zo, mark -> yh
open Nat renaming beq -> zr, le_refl -> zw, eq_of_beq_eq_true -> zz, le_trans -> yg, add -> ym, lt_or_ge -> yq
open Go.Pe.PV renaming cells -> zu, agg -> z8
open Go.Pe.Ev renaming AD -> zy
open Option.some renaming injEq -> ya
open BitVec renaming ofInt -> yb
open List.cons renaming injEq -> ye
open Go.Lib renaming half_mul_le -> yi
variable {Q:Go.Pe.PV->Go.Pe.Ob->Prop}
namespace Go.Pe
open Go.Det
section
variable {B:Nat}{h0:H0}{X:AO}{F:Fz}{ρ:Ec}{N:Nat}{st st':AN}{fr:Fr}{h:H}
theorem Lz:∀ {ps:List PV} {i t:Nat} {p:PV},(t,p)∈E1 ps i->∃k,t=i+k/\ps[k]?=some p
 |[],i,t,p,h=>by cases h
 |q::ps,i,t,p,h=>by
  rcases List.mem_cons.1 h with h|h
  ·simp_all
  ·obtain⟨k,a,b⟩:=Lz h;exact⟨k+1,by grind,by grind⟩
theorem xO{ps:List PV}{vs:List V}(hp:BE F ρ N ps vs)(n:Nat)(ob:Ob)(nx:Nat)(_hnx:nx=N):FP F ρ N (Ay (ym ps.length<|Nat.sub n ps.length) (E1 ps 0) ob nx) (NU n vs):=by
 refine⟨by show ps.length+(n-ps.length)=vs.length+(n-vs.length);rw[hp.len],fun t=>?_⟩;show PR F ρ N (((ER<|E1 ps 0).get t).getD .any) _;cases d:(ER<|E1 ps 0).get t with
 |none=>grind [PR]
 |some p=>
  rcases GK _ .leaf t p d with h1|h1
  ·obtain⟨k,f,c⟩:=Lz h1;obtain rfl:t=k:=ae
   obtain⟨v,a,b⟩:=hp.get c;have e:=(List.getElem?_eq_some_iff.1 a).1;unfold NU Fr.get;rw[M8,wd ae,Nat.sub_zero,a];exact b
  simp_all
theorem nD{T:B6}{st s:AN}{t:TypeId}{a p:PV}(h:(NI T st t a).To p s):s=st:=by
 unfold NI at h;split at h
 case h_2=>simp_all
 split at h
 case h_4=>simp_all
 ·split at h
  case h_4=>simp_all
  case h_3=>simp_all
  ·simp_all
  ·rename_i b l _;cases c:(zr _ 0&&zr b.sz 1)with
   |false=>rw[c]at h;simp_all
   |true=>simp_all
 ·split at h
  case h_2=>simp_all
  rename_i sz j off _ _ _ b l _;cases c:(zr sz b.sz)with
  |false=>simp_all
  |true=>simp_all
 simp_all
theorem Q9{Q:PV->Ob->Prop}{n:Nat}{t:Tr}:∀ {cs:List Bool},Ev X Q n (SY cs t)->(∀c∈cs,c=true)/\Ev X Q n t
 |[],h=>⟨(by simp),h⟩
 |c::cs,h=>by
  rcases h.EW with⟨e,a⟩|⟨_,a⟩
  ·obtain⟨d,b⟩:=Q9 a;grind
  grind [zy]
theorem VM:∀ {i:List ResultVar} {ps:List PV} {F:Fz} {ρ:Ec},Rel B h0 F ρ st fr h->nJ X.C.T st i=some ps->(∀c∈NL X.C.T st i,c=true)->
  ∃vs F' ρ',Ql X.C fr h i=some vs/\BE F' ρ' st.nx ps vs/\Rel B h0 F' ρ' st fr h/\Le F ρ st.nx F' ρ' st.nx
 |[],ps,F,ρ,hr,hp,_=>by cases hp;exact⟨[],F,ρ,rfl,by simp,hr,Le.refl⟩
 |r::i,ps,F,ρ,hr,hp,e=>by
  unfold nJ at hp;split at hp
  case h_2=>cases hp
  rename_i p o f n;cases hp;have key:∃v F1 d,Zj X.C fr h r=some v/\PR F1 d st.nx p v/\Rel B h0 F1 d st fr h/\Le F ρ st.nx F1 d st.nx:=by
   cases r with
   |tmp t=>
    simp only[lI,ya]at f;subst f;exact⟨_,F,ρ,rfl,hr.fp.slot t,hr,Le.refl⟩
   |cell a t=>
    have g:∃s,(NI X.C.T st t<|st.get a).To p s:=by
     simp only[lI]at f;split at f
     case h_3=>cases f
     ·simp_all
     ·rename_i c u s k;cases f;refine⟨s,?_⟩;have:=e c (by grind [NL]);rw[k,this];show(PO.I1 true p s).To p s;simp
    obtain⟨s,g⟩:=g;have x:s=st:=nD g;subst x;obtain⟨v',h',F',ρ',b,g2,g3,g4,g5,g6,g7,g8⟩:=mA (C:=X.C) hr.sr (hr.fp.slot a) g;cases j:Fe X.C.T h t (fr.get a)with
    |none=>rw[j]at b;rcases b with b|⟨b,_⟩<;>cases b
    |some w=>
     rw[j]at b;rcases b with b|⟨b,_⟩
     ·simp only[BD,ya,OR.val.injEq]at b;obtain⟨rfl,rfl⟩:=b;exact⟨w,F',ρ',j,g2,⟨hr.fp.mono g4,g3⟩,g4⟩
     ·cases b
  obtain⟨v,F1,d,m,y,q,z⟩:=key;obtain⟨vs,F2,ρ2,k5,k6,k7,k8⟩:=VM q n (fun c l=>e c (by
   cases r with
   |tmp t=>exact l
   |cell a t=>
    grind [NL]))
  exact⟨v::vs,F2,ρ2,by simp[Ql,m,k5],by simp only[BH];exact⟨y.mono k8,k6⟩,k7,z.trans k8⟩
theorem JY{nd:Bool}{d:Nat}(y:∀h0,Fx B h0 X nd<|Ci X nd d)(u:∀h0,Fx B h0 X false<|Ci X false d)(hmg:X.C.mg=false){g:FuncId}(hsp:X.C.spec g=none)(hprim:X.C.prim g=none)(hno:X.sp g=none){Q:PV->Ob->Prop}{n:Nat}{args:List PV}{k:PV->AN->Tr}{args':List V}
  (L:Ev X Q n (enter X (Ci X nd d) (Ci X false d) nd d g args st k)) (hr:Rel B h0 F ρ st fr h) (ha:BE F ρ st.nx args args'):
  (X.C.prim g=none/\∃i,X.C.fn g=some i)/\∃l M,(∀m,M<=m->Ba X.C m (.fn g args') h=some l)/\(nd=false->∃x,l=[x])/\
   ∀x∈l,∃n',n'<=n/\∃r st',Ev X Q n' (k r st')/\∃F' ρ',PR F' ρ' st'.nx r x.1/\Dh B h0 F ρ st.nx h st' fr x.2 F' ρ'/\(∀sp,X.sp g=some sp->∀b,b<h.nx->x.2.get b=h.get b):=by
 unfold enter at L;split at L
 case h_1=>grind [zy]
 rename_i i hi;cases hc:i.cert with
 |false=>grind [zy]
 |true=>
  rw[hc]at L;simp only[we]at L;have hr0:Rel B h0 F ρ (Ay (ym args.length<|Nat.sub i.ntmps args.length) (E1 args 0) st.ob st.nx) (NU i.ntmps args') h:=⟨xO ha i.ntmps st.ob st.nx rfl,hr.sr⟩;obtain⟨l,M,hM,J,D⟩:=Qr (ro:=false) (rv:=none) (ct:=true) (by simp) y u n i.body (st:=Ay (ym args.length<|Nat.sub i.ntmps args.length) (E1 args 0) st.ob st.nx) [] (zw st.nx) hr0 L;have fin:∀x∈l,∃(r:List (V×H)) (M:Nat),(∀m:Nat,M<=m->∀q:Nat,M<=q->(match x.e with
      | .exit _=>none
      |_=>match G7 x.ds x.h with
       |some a=>match Rx X.C x.fr a i.results.toList with
        |some v=>some [(v,a)]
        |none=>none
       |none=>none)=some r)/\(nd=false->∃x,r=[x])/\∀x∈r,∃n',n'<=n/\∃r st',Ev X Q n' (k r st')/\∃F' ρ',PR F' ρ' st'.nx r x.1/\Dh B h0 F ρ st.nx h st' fr x.2 F' ρ'/\(∀sp,X.sp g=some sp->∀b,b<h.nx->x.2.get b=h.get b):=by
   intro x hx;obtain⟨ps,⟨hds,s,U⟩,n1,hn1,c,I,F1,ρ1,w,hb1,G,hx1'⟩:=D x hx;obtain⟨e,fr1,hx0,ds1⟩:=x;obtain⟨a,hlv,hsr1,hnx1,_⟩:=SR.leave s (fun b W hp=>by
    have k1:=U b W;have k2:=hr.sr.lt b _ (hr.sr.pn b hp).1;omega) w.sr
   have hr1:Rel B h0 F1 ρ1 c fr1 a:=⟨w.fp,hsr1⟩;have S:h.nx<=a.nx:=ae
   have go:(∀j,e≠ .exit j)->Ev X Q n1 (match nJ X.C.T c i.results.toList with|some vs=>SY (NL X.C.T c i.results.toList) (k (Go.Pe.one vs) ⟨st.n,st.fr,c.ob,c.nx⟩)|none=>.fail)->
     ∃v',Rx X.C fr1 a i.results.toList=some v'/\∃n',n'<=n/\∃r st',Ev X Q n' (k r st')/\∃F' ρ',PR F' ρ' st'.nx r v'/\Dh B h0 F ρ st.nx h st' fr a F' ρ'/\(∀sp,X.sp g=some sp->∀b,b<h.nx->a.get b=h.get b):=by
    intro hne o;split at o
    case h_2=>grind [zy]
    rename_i ps hps;obtain⟨A,o⟩:=Q9 o;obtain⟨vs,F2,ρ2,k1,k2,k3,k4⟩:=VM hr1 hps A;have E:Le F ρ st.nx F2 ρ2 c.nx:=⟨fun b cs W=>k4.fz _ _<|G.fz _ _ W,fun id hid=>by
     rcases k4.rho id ae with e|e
     ·rw[e];exact G.rho id hid
     grind,hb1⟩
    have K:∃O,Rx X.C fr1 a i.results.toList=some O/\PR F2 ρ2 c.nx (Go.Pe.one ps) O:=by
     unfold Rx;rw[k1];cases ps with
     |nil=>subst k2;exact⟨_,rfl,by simp[Go.Pe.one,PR]⟩
     |cons p ps=>
      obtain⟨v1,vs1,rfl,Z,R⟩:=k2;cases ps with
      |nil=>subst R;exact⟨_,rfl,Z⟩
      |cons q qs=>
       obtain⟨v2,vs2,rfl,_,_⟩:=R;refine⟨_,rfl,?_⟩;show PR F2 ρ2 c.nx (.tup (p::q::qs)) _;simp_all [PR]
    obtain⟨O,q1,Y⟩:=K;exact⟨O,q1,n1,hn1,_,_,o,F2,ρ2,Y,⟨⟨⟨hr.fp.n,fun t=>(hr.fp.slot t).mono E⟩,k3.sr⟩,E,S⟩,ah⟩
   cases e with
   |normal=>
    obtain⟨v',q1,Y⟩:=go (by simp) I;exact⟨[(v',a)],0,ah,(by simp),ah⟩
   |ret=>
    obtain⟨v',q1,Y⟩:=go (by simp) I;exact⟨[(v',a)],0,ah,(by simp),ah⟩
   |exit j=>grind [zy]
  obtain⟨r,M2,Z,R,g3⟩:=JS (f:=fun _ _ (x:Det.X)=>match x.e with
      | .exit _=>none
      |_=>match G7 x.ds x.h with
       |some a=>match Rx X.C x.fr a i.results.toList with
        |some v=>some [(v,a)]
        |none=>none
       |none=>none) (P:=fun x=>∃n',n'<=n/\∃r st',Ev X Q n' (k r st')/\∃F' ρ',PR F' ρ' st'.nx r x.1/\Dh B h0 F ρ st.nx h st' fr x.2 F' ρ'/\(∀sp,X.sp g=some sp->∀b,b<h.nx->x.2.get b=h.get b)) J fin
  refine⟨ah,r,max M M2+1,fun m hm=>?_,R,g3⟩;obtain⟨z,rfl⟩:∃z,m=z+1:=⟨m-1,by omega⟩;have hg:=Z z ae z ae;have:Ba X.C (z+1) (.fn g args') h=(match By X.C (Ba X.C z) none i.cert z i.body (NU i.ntmps args') h []with
    |none=>none
    |some l=>match (bl l fun x=>match x.e with
     | .exit _=>none
     |_=>match G7 x.ds x.h with
      |some a=>match Rx X.C x.fr a i.results.toList with
       |some v=>some [(v,a)]
       |none=>none
      |none=>none)with
     |some r=>some<|bif X.C.mg then Qs h.nx r else r
     |none=>none):=by
   rw[Ba];simp only[hsp,hi];rfl
  grind
theorem Nh{nd:Bool}{d:Nat}(u:∀h0,Fx B h0 X nd<|Ci X nd d)(j:∀h0,Fx B h0 X false<|Ci X false d){id:Nat}{Q:PV->Ob->Prop}{n:Nat}{args:List PV}{k:PV->AN->Tr}{args':List V}
  (he:Ev X Q n (Xr X (Ci X nd d) (Ci X false d) nd d id args st k)) (hr:Rel B h0 F ρ st fr h) (ha:BE F ρ st.nx args args'):
  ∃c,Afn X ρ h args' (.rnd id) c/\∃l M,(∀m,M<=m->Ba X.C m c h=some l)/\(nd=false->∃x,l=[x])/\
   ∀x∈l,∃n',n'<=n/\∃r st',Ev X Q n' (k r st')/\∃F' ρ',PR F' ρ' st'.nx r x.1/\Dh B h0 F ρ st.nx h st' fr x.2 F' ρ':=by
 unfold Xr at he;split at he
 case h_2=>grind [zy]
 rename_i f r ps asg b n0 sl hob;obtain⟨A,m0,y,k1,k2,⟨ls,rfl,rfl,rfl,rfl,⟨l1,l2⟩,rfl,l4⟩,-⟩:=hr.sr.at hob;cases hsz:zr args.length ls.ps.size with
 |false=>grind [zy]
 |true=>
 rw[hsz]at he;simp only[we]at he;have hlen:args'.length=ls.ps.size:=by rw[<-ha.len];simp_all
 have hid:id<st.nx:=(hr.sr.own _ _ _ k1).1;have hr0:Rel B h0 F ρ (NX ls.ps.toList args<|Ay ls.fr.n sl st.ob st.nx) (HB ls.ps.toList args' ls.fr) h:=by
  have T:Rel B h0 F ρ (Ay ls.fr.n sl st.ob st.nx) ls.fr h:=⟨⟨rfl,fun t=>l4 t⟩,hr.sr⟩;have go:∀(ts:List Tmp) (g:List PV) (D:List V) (s:AN) (f:Fr),s.nx=st.nx->BE F ρ st.nx g D->Rel B h0 F ρ s f h->Rel B h0 F ρ (NX ts g s) (HB ts D f) h:=by
   intro ts;induction ts with
   |nil=>intro g D s f _ _ hs;cases g<;>exact hs
   |cons t ts ih=>
    intro g D s f hn hp hs;cases g with
    |nil=>simp only[DO]at hp;subst hp;exact hs
    |cons a g=>
     simp only[BE]at hp;obtain⟨v,vs,rfl,p1,p2⟩:=hp;simp only[NX,HB];refine ih g vs _ _ ?_ p2 ?_
     ·cases Nat.blt t s.n<;>exact hn
     ·unfold Fr.dK;rw[show s.n=f.n from hs.fp.n];cases Nat.blt t f.n with
      |false=>exact hs
      |true=>exact hs.set ah
  exact go _ _ _ _ _ rfl ha T
 have hnx0:st.nx<=(NX ls.ps.toList args<|Ay ls.fr.n sl st.ob st.nx).nx:=by
  have go:∀(ts:List Tmp) (g:List PV) (s:AN),(NX ts g s).nx=s.nx:=by
   intro ts;induction ts with
   |nil=>intro g s;rfl
   |cons t ts ih=>
    intro g s;cases g with
    |nil=>rfl
    |cons a g=>simp only[NX];rw[ih];cases Nat.blt t s.n<;>rfl
  rw[go];exact zw _
 obtain⟨L,M1,hM1,R,W⟩:=Qr (ro:=true) (rv:=some A) (ct:=false) (by simp) u j n ls.asg [] hnx0 hr0 he;refine⟨_,⟨A,m0,ls,k1,k2,hlen,rfl⟩,?_⟩;have fin:∀x∈L,∃(r:List (V×H)) (M:Nat),(∀m:Nat,M<=m->∀q:Nat,M<=q->(match x.e,x.h.get A with
   | .normal,some (.loop l1)=>match l1.st with
    | .ready=>match By X.C (Ba X.C m) (some A) false q ls.body x.fr (x.h.put A<|.loop { l1 with st:=.busy }) x.ds with
     |some l2=>bl l2 fun y=>match y.h.get A with
      |some (.loop S)=>match y.e with
       | .normal=>some [(V.bool true,y.h.put A<|.loop { S with st:=.ready,pend:=none })]
       | .ret=>some [(V.bool false,y.h.put A<|.loop { S with st:=.done,pend:=some .ret })]
       | .exit i=>some [(V.bool false,y.h.put A<|.loop { S with st:=.done,pend:=some (.exit i) })]
      |_=>none
     |none=>none
    |_=>none
   |_,_=>none)=some r)/\(nd=false->∃x,r=[x])/\∀x∈r,∃n',n'<=n/\∃r st',Ev X Q n' (k r st')/\∃F' ρ',PR F' ρ' st'.nx r x.1/\Dh B h0 F ρ st.nx h st' fr x.2 F' ρ':=by
  intro x hx;obtain⟨ps1,_,n1,hn1,s,G,F1,ρ1,E,hb1,hl1,hx1⟩:=W x hx;obtain⟨e,fr1,h1,ds1⟩:=x;simp only at G E hx1 ⊢;cases e with
  |exit i=>grind [zy]
  |ret=>grind [zy]
  |normal=>
  simp only at G;split at G
  case h_2=>grind [zy]
  rename_i f' r' ps' asg' b' n' P I;have hs1:SR B h0 F1 ρ1 s.nx s.ob h1:=E.sr.mW;obtain⟨K,m1,y1,q1,q2,⟨o,rfl,rfl,rfl,rfl,⟨la1,la2⟩,rfl,la4⟩,-⟩:=hs1.at I;obtain⟨rfl,rfl⟩:K=A/\m1=m0:=by
   have:=hl1.at hid q1;grind
  have hr2:Rel B h0 F1 ρ1 (s.setObj id<|.lp f' r' o.ps o.asg o.body .busy o.fr.n P) fr1 (h1.put K<|.loop { o with st:=.busy }):=
   ⟨⟨E.fp.n,fun t=>E.fp.slot t⟩,hs1.set I q1 q2 rfl rfl (o':=.lp f' r' o.ps o.asg o.body .busy o.fr.n P) ⟨_,rfl,rfl,rfl,rfl,rfl,rfl,la4⟩⟩
  obtain⟨L2,M2,hM2,U,hall2⟩:=Qr (ro:=true) (rv:=some K) (ct:=false) (by simp) u j n1 ls.body ds1 (show st.nx<=(s.setObj id<|.lp f' r' o.ps o.asg o.body .busy o.fr.n P).nx from hb1) hr2 G;have fin2:∀y∈L2,∃(r:List (V×H)) (M:Nat),(∀m:Nat,M<=m->∀q:Nat,M<=q->(match y.h.get K with
    |some (.loop S)=>match y.e with
     | .normal=>some [(V.bool true,y.h.put K<|.loop { S with st:=.ready,pend:=none })]
     | .ret=>some [(V.bool false,y.h.put K<|.loop { S with st:=.done,pend:=some .ret })]
     | .exit i=>some [(V.bool false,y.h.put K<|.loop { S with st:=.done,pend:=some (.exit i) })]
    |_=>none)=some r)/\(nd=false->∃x,r=[x])/\∀x∈r,∃n',n'<=n/\∃r st',Ev X Q n' (k r st')/\∃F' ρ',PR F' ρ' st'.nx r x.1/\Dh B h0 F ρ st.nx h st' fr x.2 F' ρ':=by
   intro y hy;obtain⟨ps2,_,n2,hn2,s2,w,F2,Y,hr3,hb2,hl2,hx2⟩:=hall2 y hy;obtain⟨e2,fr2,h2,ds2⟩:=y;simp only at w hr3 hx2 ⊢;split at w
   case h_2=>grind [zy]
   rename_i f2 r2 pp2 aa2 bb2 ss2 nn2 sl2 J;have hs3:SR B h0 F2 Y s2.nx s2.ob h2:=hr3.sr.mW;obtain⟨c2,m2,y2,w1,w2,⟨p,rfl,rfl,rfl,rfl,_,rfl,lb4⟩,-⟩:=hs3.at J;have Z:Le F ρ st.nx F2 Y s2.nx:=by
    have h:=hl1.trans hl2;exact⟨h.fz,h.rho,hb2⟩
   obtain⟨rfl,rfl⟩:c2=K/\m2=m1:=by
    have:=Z.at hid w1;grind
   have hnx:h.nx<=h2.nx:=yg hx1 hx2;have done:∀(sb:LpS) (O:LoopState) (pe:Option Code) (rb:Bool),LpR sb O pe->Ev X Q n2 (k (.bl rb) ⟨st.n,st.fr,(s2.setObj id<|.lp f2 r2 p.ps p.asg p.body sb p.fr.n sl2).ob,s2.nx⟩)->
     ∃n',n'<=n/\∃r st',Ev X Q n' (k r st')/\∃F' ρ',PR F' ρ' st'.nx r (V.bool rb)/\Dh B h0 F ρ st.nx h st' fr (h2.put c2<|.loop { p with st:=O,pend:=pe }) F' ρ':=by
    intro sb O pe rb hlr he3;refine⟨n2,ae,_,_,he3,F2,Y,sR _,⟨⟨⟨hr.fp.n,fun t=>(hr.fp.slot t).mono Z⟩,?_⟩,Z,hnx⟩⟩;exact hs3.set J w1 w2 rfl rfl (o':=.lp f2 r2 p.ps p.asg p.body sb p.fr.n sl2) ⟨_,rfl,rfl,rfl,rfl,hlr,rfl,lb4⟩
   cases e2 with
   |normal=>exact⟨[(.bool true,h2.put c2<|.loop { p with st:=.ready,pend:=none })],0,ah,(by simp),fun z hz=>by cases zn.1 hz;exact done .ready _ _ true ⟨rfl,rfl⟩ w⟩
   |ret=>exact⟨[(.bool false,h2.put c2<|.loop { p with st:=.done,pend:=some .ret })],0,ah,(by simp),fun z hz=>by cases zn.1 hz;exact done .ret _ _ false ⟨rfl,rfl⟩ w⟩
   |exit i=>exact⟨[(.bool false,h2.put c2<|.loop { p with st:=.done,pend:=some (.exit i) })],0,ah,(by simp),fun z hz=>by cases zn.1 hz;exact done (.exit i) _ _ false ⟨rfl,rfl⟩ w⟩
  obtain⟨r,M3,j1,j2,j3⟩:=JS U fin2;refine⟨r,max M2 M3,fun m hm q hq=>?_,j2,j3⟩;have a1:=hM2 m ae q ae;simp only at a1;have a2:=j1 m ae q ae;simp only[q2,la1];rw[a1];exact a2
 obtain⟨r,M4,j1,j2,j3⟩:=JS R fin;refine⟨r,max M1 M4+1,fun m hm=>?_,j2,j3⟩;obtain⟨m',rfl⟩:∃m',m=m'+1:=⟨m-1,by omega⟩;have a1:=hM1 m' ae m' ae;simp only at a1;have a2:=j1 m' ae m' ae;rw[Ba];simp only[Ub];rw[a1];exact a2
end
section
variable {B:Nat}{h0:H0}{X:AO}{F F1 F':Fz}{ρ:Ec}{N:Nat}{st st':AN}{fr:Fr}{h h':H}
theorem gJ{p:PV}{v:V}(hp:PR F ρ N p v):∃w,BE F ρ N p.cells w/\(Oh p=true->v=.agg w)/\(Oh p=false->w=[v]):=by
 cases p with
 |agg l=>obtain⟨cs,rfl,a⟩:=hp;exact⟨cs,a,fun _=>rfl,fun e=>by cases e⟩
 |_=>exact⟨[v],by simp only[zu,BH,DO,ve];exact hp,fun e=>(by cases e),fun _=>rfl⟩
theorem SC{st:AN}{s:Sh}{p:PV}{x:s.T}{v:V}{w:List V}(a:Hc st s p=some (true,x))(k:Oh p=true->v=.agg w)(m:Oh p=false->w=[v])(i:∀f,DB st p.cells=some (true,f)->KN F f w):PC F (B1 s x) v:=by
 unfold Hc at a;cases j:(Oh p==s.N4)with
 |false=>grind
 |true=>
  rw[j]at a;simp only[we]at a;split at a
  case h_2=>cases a
  rename_i c cs d;split at a
  case h_2=>cases a
  rename_i y g;simp only[ya,Prod.mk.injEq,ze]at a;obtain⟨⟨e,rfl⟩,rfl⟩:=a;have b:=KN.dc (fun ρ N=>SN (i cs d ρ N) e) g;have l:=PC.B1 b;cases hp:s.N4 with
  |true=>grind
  |false=>grind
theorem handed:∀ {ps:List PV} {vs:List V} {st:AN} {F:Fz},SR B h0 F ρ st.nx st.ob h->BE F ρ st.nx ps vs->
  ∃F1,SR B h0 F1 ρ (Bm (ps.flatMap zu) st).nx (Bm (ps.flatMap zu) st).ob h/\(∀b cs,F b=some cs->F1 b=some cs)/\∀l i,C6 st l ps=some (true,i)->KN F1 (Ag l i) vs
 |[],vs,st,F,hr,hp=>⟨F,hr,fun _ _ h=>h,fun l i e=>by
  have g:vs=[]:=by simp_all
  subst g;match l,i,e with
  |[],_,_=>intro ρ' N';rfl
  |[a],_,e=>cases e
  |a::b::l,_,e=>cases e⟩
 |p::ps,vs,st,F,hr,hp=>by
  obtain⟨v,vs,rfl,m,o⟩:=hp;obtain⟨w,c1,c2,c3⟩:=gJ m;obtain⟨F1,g1,g2,g3⟩:=I7 hr c1;have f:BE F1 ρ (Bm p.cells st).nx ps vs:=by rw[(Dt p.cells st).1];exact o.mono<|Le.eJ g2
  obtain⟨k,n,j,t⟩:=handed g1 f;rw[List.flatMap_cons,IG];refine⟨k,n,ah,fun l i e=>?_⟩;match l,i,e with
  |[],_,e=>cases e
  |[a],i,e=>
   cases ps with
   |cons q u=>cases e
   |nil=>
    have g:vs=[]:=by simp_all
    subst g;have:=(SC (st:=st) (F:=F1) (by simpa [C6]using e) c2 c3 g3).mono j;intro ρ' N';simp only[Ag,BH,DO,ve];exact this ρ' N'
  |a::b::l,i,e=>
   unfold C6 at e;split at e
   case h_2=>cases e
   rename_i c x d y r s;simp only[ya,Prod.mk.injEq,ze]at e;obtain⟨⟨rfl,rfl⟩,rfl⟩:=e;exact KN.cons ((SC r c2 c3 g3).mono j) (by grind [Nq,NZ])
theorem SR.after{ob:Ob}(hr:SR B h0 F ρ N ob h)(f:∀b,b<h.nx->h'.get b=h.get b)(i:h.nx<=h'.nx)(d:∀b o,h'.get b=some o->b<h'.nx)(p:∀b cs,F b=some cs->F' b=some cs)
  (r:∀b cs,F' b=some cs->F b=some cs\/h.nx<=b) (c:∀b cs,F' b=some cs->∃t fz,h'.get b=some (.cells cs t fz)):SR B h0 F' ρ N ob h':=by
 refine⟨fun id o k=>?_,hr.inj,c,hr.own,hr.dead,fun b a j=>?_,d,yg hr.le i,fun b cs a=>?_,hr.gl,fun b a=>by obtain⟨g,l,s⟩:=hr.pn b a;exact⟨by rw[f b<|hr.lt b _ g];exact g,l,s⟩⟩
 ·obtain⟨b,n,x,h1,q,m,w,u⟩:=hr.obj id o k;have a:=hr.lt b x q;refine⟨b,n,x,h1,by grind,m.mono<|Le.eJ (ρ:=ρ) p,fun e=>?_,fun e=>?_⟩
  ·cases v:F' b with
   |none=>rfl
   |some cs=>
    grind
  grind
 ·rw[f b<|Nat.lt_of_lt_of_le a hr.le];exact hr.old b a j
 ·rcases r b cs a with h1|h1
  ·exact hr.fo b cs h1
  ·exact .inr<|.inl<|yg hr.le h1
theorem SR.gh{ob:Ob}(hr:SR B h0 F ρ N ob h):Gh h:=fun x d=>by
 obtain⟨a,b,c⟩:=hr.gl x d;rw[hr.old _ a b];exact c
structure SS(C:Ctx)(f:FuncId)(sp:Am):Prop where
 prim:C.prim f=none
 fn:∃i,C.fn f=some i
 run:∀(F:Fz) (h:H) (args:List V) (i:(BA sp.ins).T),(∀b cs,F b=some cs->∃t fz,h.get b=some (.cells cs t fz))->(∀b o,h.get b=some o->b<h.nx)->Gh h->KN F (Ag sp.ins i) args->sp.pre i=true->
  ∃l M,(∀m,M<=m->Ba C m (.fn f args) h=some l)/\(sp.nd=false->∃x,l=[x])/\∀x∈l,h.nx<=x.2.nx/\(∀b,b<h.nx->x.2.get b=h.get b)/\(∀b o,x.2.get b=some o->b<x.2.nx)/\
   ∃F':Fz,(∀b cs,F b=some cs->F' b=some cs)/\(∀b cs,F' b=some cs->F b=some cs\/h.nx<=b)/\(∀b cs,F' b=some cs->∃t fz,x.2.get b=some (.cells cs t fz))/\
    PC F' (one (Ag sp.outs (sp.f i))) x.1
structure Aei(C:Ctx)(f:FuncId)(sp:Am):Prop where
 run:∃q,C.prim f=some q/\∀(F:Fz) (h:H) (args:List V) (i:(BA sp.ins).T),KN F (Ag sp.ins i) args->sp.pre i=true->∃v,q args h=some (v,h)/\PC F (one (Ag sp.outs (sp.f i))) v
def Af(C:Ctx)(f:FuncId)(sp:Am):Prop:=SS C f sp\/Aei C f sp
theorem Af.of0{C:Ctx}{f:FuncId}{sp:Am}(h:SS C f sp):Af C f sp:=.inl h
theorem Af.zero{C:Ctx}{f:FuncId}{sp:Am}(h:Af C f sp)(hp:C.prim f=none):SS C f sp:=by
 rcases h with h|⟨q,a,_⟩
 ·exact h
 grind
theorem Af.go{C:Ctx}{f:FuncId}{sp:Am}(ok:Af C f sp)(F:Fz)(h:H)(args:List V)(i:(BA sp.ins).T)(e:∀b cs,F b=some cs->∃t fz,h.get b=some (.cells cs t fz))(c:∀b o,h.get b=some o->b<h.nx)(d:Gh h)(g:KN F (Ag sp.ins i) args)(hp:sp.pre i=true):
  ∃l,(((C.prim f=none/\∃i,C.fn f=some i)/\∃M,∀m,M<=m->Ba C m (.fn f args) h=some l)\/∃q x,C.prim f=some q/\q args h=some x/\l=[x])/\(sp.nd=false->∃x,l=[x])/\∀x∈l,h.nx<=x.2.nx/\(∀b,b<h.nx->x.2.get b=h.get b)/\(∀b o,x.2.get b=some o->b<x.2.nx)/\
   ∃F':Fz,(∀b cs,F b=some cs->F' b=some cs)/\(∀b cs,F' b=some cs->F b=some cs\/h.nx<=b)/\(∀b cs,F' b=some cs->∃t fz,x.2.get b=some (.cells cs t fz))/\
    PC F' (one<|Ag sp.outs<|sp.f i) x.1:=by
 rcases ok with ok|⟨q,r,a⟩
 ·obtain⟨l,M,j,k,n⟩:=ok.run F h args i e c d g hp;exact⟨l,.inl ⟨⟨ok.prim,ok.fn⟩,M,j⟩,k,n⟩
 ·obtain⟨v,j,k⟩:=a F h args i g hp;refine⟨[(v,h)],ah,(by simp),fun x p=>?_⟩;grind
theorem DC.sc:∀ {s:Sh} {x:s.T} {cs:List V},s.sc=true->DC F s x cs->DC F' s x cs
 | .int _,_,_,_,h=>by simpa only[DC]using h
 | .bool,_,_,_,h=>by simpa only[DC]using h
 | .str,_,_,_,h=>by simpa only[DC]using h
 | .list s,l,_,e,h=>by cases e
 | .pair a b,x,_,e,h=>by
  simp only[Sh.sc,ze]at e;obtain⟨c,d,rfl,f,g⟩:=h;exact⟨c,d,rfl,f.sc e.1,g.sc e.2⟩
 | .unit,_,_,_,h=>by simpa only[DC]using h
 | .nlist s,l,_,e,h=>by cases e
 | .fnv,_,_,_,h=>by simpa only[DC]using h
 | .ptr _,_,_,e,_=>by cases e
theorem U2:∀ {s:Sh} {x:s.T} {cs:List V},s.sc=true->BE F ρ N (flat s x) cs->KN F' (flat s x) cs
 | .int k,x,cs,_,h=>fun ρ' N'=>by
  obtain⟨v,vs,rfl,f,rfl⟩:=h;exact⟨v,[],rfl,by simp only[PR]at f ⊢;exact f.sc rfl,rfl⟩
 | .bool,x,cs,_,h=>fun ρ' N'=>by
  obtain⟨v,vs,rfl,f,rfl⟩:=h;exact⟨v,[],rfl,by simp only[PR]at f ⊢;exact f.sc rfl,rfl⟩
 | .str,x,cs,_,h=>fun ρ' N'=>by
  obtain⟨v,vs,rfl,f,rfl⟩:=h;exact⟨v,[],rfl,by simp only[PR]at f ⊢;exact f.sc rfl,rfl⟩
 | .list s,x,cs,e,h=>by cases e
 | .pair a b,(x,y),cs,e,h=>fun ρ' N'=>by
  simp only[Sh.sc,ze]at e;have key:∀(ps g:List PV) (l:List V),BE F ρ N (ps++g) l->∃c d,l=c++d/\BE F ρ N ps c/\BE F ρ N g d:=by
   intro ps;induction ps with
   |nil=>intro g l i;exact⟨[],l,rfl,by simp,i⟩
   |cons p ps m=>
    intro g l i;obtain⟨v,vs,rfl,f,j⟩:=i;obtain⟨c,d,rfl,h3,h4⟩:=m g vs j;exact⟨v::c,d,rfl,by simp_all,h4⟩
  obtain⟨c,d,rfl,f,j⟩:=key _ _ _ h;exact(U2 e.1 f ρ' N').append<|U2 e.2 j ρ' N'
 | .unit,_,cs,_,h=>fun ρ' N'=>by simpa [flat]using h
 | .nlist s,x,cs,e,h=>by cases e
 | .fnv,x,cs,_,h=>fun ρ' N'=>by
  simp only[flat,BE]at h ⊢;grind [PR,DO]
 | .ptr _,_,_,e,_=>by cases e
theorem bV{s:Sh}{x:s.T}{v:V}(e:s.sc=true)(h:PC F (B1 s x) v):PC F' (B1 s x) v:=by
 intro ρ' N';have h:=h ρ' N';cases s with
 |pair a b=>
  obtain⟨cs,rfl,c⟩:=h;exact⟨cs,rfl,U2 e c ρ' N'⟩
 |unit=>simp_all [Pe.B1,PR]
 |int k=>unfold Pe.B1 PR at h ⊢;exact h.sc rfl
 |bool=>unfold Pe.B1 PR at h ⊢;exact h.sc rfl
 |str=>unfold Pe.B1 PR at h ⊢;exact h.sc rfl
 |list s=>cases e
 |nlist s=>cases e
 |ptr s=>cases e
 |fnv=>
  unfold Pe.B1 at h ⊢;grind [PR,DO]
theorem cA:∀ {l:List Sh} {x:(BA l).T} {vs:List V},l.all Sh.sc=true->KN F (Ag l x) vs->KN F' (Ag l x) vs
 |[],_,vs,_,h=>fun ρ' N'=>by have:=h ρ' N';simpa [Ag]using this
 |[a],x,vs,e,h=>fun ρ' N'=>by
  have f:=h ρ' N';obtain⟨v,g,rfl,j,rfl⟩:=f;simp only[yo,List.all_nil,Bool.and_true]at e;simp only[Ag,BH,DO,ve];refine bV (F:=F) e (fun c d=>?_) ρ' N';have:=h c d;simp_all [Ag]
 |a::b::l,x,vs,e,h=>by
  have f:=h (fun _=>none) 0;obtain⟨v,g,rfl,_,_⟩:=f;have i:a.sc=true/\(b::l).all Sh.sc=true:=ah
  exact KN.cons (bV i.1 fun c d=>((BH ..).1<|h c d).1)<|cA i.2 fun c d=>((BH ..).1<|h c d).2
theorem WV{l:List Sh}{x:(BA l).T}{v:V}:PC F (one<|Ag l x) v↔∃vs,KN F (Ag l x) vs/\v=(match vs with|[u]=>u|us=>.tup us):=by
 have c:∀ps:List PV,(∀u,ps≠[u])->(PC F (one ps) v↔∃vs,KN F ps vs/\v=(match vs with|[u]=>u|us=>.tup us)):=by
  intro ps j;have i:one ps=.tup ps:=by
   simp_all [one]
  rw[i];constructor
  ·intro h;have d:=h (fun _=>none) 0;obtain⟨cs,rfl,g⟩:=d;refine⟨cs,fun ρ N=>?_,?_⟩
   ·have m:=h ρ N;grind [PR]
   ·have f:=g.len;split
    ·cases ps with
     |nil=>cases f
     |cons q k=>grind
    ·rfl
  ·rintro⟨vs,d,rfl⟩ ρ N;have f:=(d ρ N).len;split
   ·cases ps with
    |nil=>cases f
    |cons q k=>grind
   ·exact⟨_,rfl,d ρ N⟩
 match l,x with
 |[],x=>exact c [] (by simp)
 |[a],x=>
  simp only[Ag,one];constructor
  ·intro h;exact⟨[v],fun ρ N=>by simp only[BH,DO,ve];exact h ρ N,rfl⟩
  ·rintro⟨vs,d,rfl⟩ ρ N;have g:=d ρ N;simp only[BE]at g;grind
 |a::b::l,x=>
  refine c _<|fun u e=>?_;cases l<;>cases e
theorem fM{nd:Bool}{g:FuncId}{sp:Am}(_hsp:X.sp g=some sp)(p:Af X.C g sp)(A:nd=false->sp.nd=false){Q:PV->Ob->Prop}{n:Nat}{args:List PV}{k:PV->AN->Tr}{args':List V}(s:Ev X Q n (qK sp args st k))(hr:Rel B h0 F ρ st fr h)(z:BE F ρ st.nx args args'):
  ∃l,NO X ρ h args' (.fn g) l/\(nd=false->∃x,l=[x])/\
   ∀x∈l,∃n',n'<=n/\∃r st',Ev X Q n' (k r st')/\∃F' ρ',PR F' ρ' st'.nx r x.1/\Dh B h0 F ρ st.nx h st' fr x.2 F' ρ'/\(∀sp,X.sp g=some sp->∀b,b<h.nx->x.2.get b=h.get b):=by
 unfold qK at s;split at s
 case h_2=>grind [zy]
 rename_i c i R;rcases s.EW with⟨v,e⟩|⟨_,e⟩
 case inr=>grind [zy]
 simp only[ze]at v;obtain⟨rfl,d⟩:=v;obtain⟨F1,g1,g2,g3⟩:=handed hr.sr z;obtain⟨l,o,hone,hall⟩:=p.go F1 h args' i g1.frz hr.sr.lt hr.sr.gh (g3 _ i R) d;have u:NO X ρ h args' (.fn g) l:=by
  rcases o with⟨m,M,o⟩|⟨q,x,m,I,rfl⟩
  ·exact .Ba ⟨rfl,m⟩ o
  ·exact .prim m I
 refine⟨l,u,ah,fun x L=>?_⟩;obtain⟨j,y,w,F',S,G,K,E⟩:=hall x L;refine⟨n,zw _,_,_,e,?_⟩;cases P:sp.outs.all Sh.sc with
 |true=>
  have O:PC F (one<|Ag sp.outs<|sp.f i) x.1:=by
   grind [WV,cA]
  refine⟨F,ρ,O ρ _,⟨⟨hr.fp,?_⟩,Le.refl,j⟩,ah⟩;refine hr.sr.after y j w (by simp) ah<|fun b cs T=>?_;grind
 |false=>
  simp only[wg];obtain⟨U,D,J⟩:=Dt (args.flatMap zu) st;have a:Le F ρ st.nx F' ρ (Bm (args.flatMap zu) st).nx:=by
   grind [Le.eJ]
  refine⟨F',ρ,E ρ _,⟨⟨⟨J.trans hr.fp.n,fun t=>?_⟩,?_⟩,a,j⟩,ah⟩
  ·have:(Bm (args.flatMap zu) st).get t=st.get t:=by unfold AN.get;rw[D]
   rw[this];exact(hr.fp.slot t).mono a
  ·exact g1.after y j w S G K
structure FC(C:Ctx)(f:FuncId)(w:Lj):Prop where
 prim:C.prim f=none
 fn:∃i,C.fn f=some i
 len:∀i l,w.pre i l=true->(w.g i l).length=l.length
 run:∀(F:Fz) (h:H) (args:List V) (i:(BA w.ins).T) (l:List w.el.T) (b:Nat) (cs:List V) (fz:Nat×Nat) (o:Nat),(∀b cs,F b=some cs->∃t fz,h.get b=some (.cells cs t fz))->(∀b o,h.get b=some o->b<h.nx)->Gh h->KN F (Ag w.ins i) args->w.pre i l=true->
  h.get b=some (.cells cs w.ty fz)->Dr F w.el l cs->fz.2<=fz.1->F b=none->(o=0\/o=w.el.sz)->
  ∃x M,(∀m,M<=m->Ba C m (.fn f (wj w.fst args (.sl b 0 l.length l.length o))) h=some [x])/\x.1=.tup []/\h.nx<=x.2.nx/\(∀c,c<h.nx->c≠b->x.2.get c=h.get c)/\(∀c y,x.2.get c=some y->c<x.2.nx)/\
   ∃F':Fz,(∀b cs,F b=some cs->F' b=some cs)/\(∀b cs,F' b=some cs->F b=some cs\/h.nx<=b)/\(∀b cs,F' b=some cs->∃t fz,x.2.get b=some (.cells cs t fz))/\
    ∃cs' fz',x.2.get b=some (.cells cs' w.ty fz')/\Dr F' w.el (w.g i l) cs'/\fz'.2<=fz'.1
 nils:∀(F:Fz) (h:H) (args:List V) (i:(BA w.ins).T),(∀b cs,F b=some cs->∃t fz,h.get b=some (.cells cs t fz))->(∀b o,h.get b=some o->b<h.nx)->Gh h->KN F (Ag w.ins i) args->w.pre i []=true->
  ∃x M,(∀m,M<=m->Ba C m (.fn f (wj w.fst args .nils)) h=some [x])/\x.1=.tup []/\h.nx<=x.2.nx/\(∀c,c<h.nx->x.2.get c=h.get c)/\(∀c y,x.2.get c=some y->c<x.2.nx)/\
   ∃F':Fz,(∀b cs,F b=some cs->F' b=some cs)/\(∀b cs,F' b=some cs->F b=some cs\/h.nx<=b)/\(∀b cs,F' b=some cs->∃t fz,x.2.get b=some (.cells cs t fz))
theorem BE.split:∀ {a b:List PV} {vs:List V},BE F ρ N (a++b) vs->∃x y,vs=x++y/\BE F ρ N a x/\BE F ρ N b y
 |[],b,vs,h=>⟨[],vs,rfl,by simp,h⟩
 |p::a,b,vs,h=>by
  obtain⟨v,vs,rfl,d,c⟩:=h;obtain⟨x,y,rfl,h3,h4⟩:=c.split;exact⟨v::x,y,rfl,by simp_all,h4⟩
theorem SR.wrote{ob:Ob}(hr:SR B h0 F ρ N ob h){id b n:Nat}{o o':Obj}{x':O}(K:AS ob id=some o)(w:ρ id=some (b,n))(A:b<h.nx)(I:F b=none)(C:o'.frozen=false)(P:h'.get b=some x')(L:Yc F' ρ N n o' x')
  (x:∀c,c<h.nx->c≠b->h'.get c=h.get c) (J:h.nx<=h'.nx) (v:∀b o,h'.get b=some o->b<h'.nx) (R:∀b cs,F b=some cs->F' b=some cs)
  (S:∀b cs,F' b=some cs->F b=some cs\/h.nx<=b) (s:∀b cs,F' b=some cs->∃t fz,h'.get b=some (.cells cs t fz)):SR B h0 F' ρ N (D5 ob id o') h':=by
 have g:∀j,AS (D5 ob id o') j=if j=id then some o' else AS ob j:=(by grind [Hp])
 have u:∀c,c<h.nx->F c=none->F' c=none:=fun c d V=>by
  cases h1:F' c with
  |none=>rfl
  |some cs=>
   grind
 refine⟨fun j oj a=>?_,fun i j oi oj c m G T a h1 q=>?_,s,hr.own,fun j a=>?_,fun c d z=>?_,v,yg hr.le J,fun c cs d=>?_,hr.gl,fun c d=>?_⟩
 ·rw[g]at a;by_cases e:j=id
  ·grind
  ·rw[wc e]at a;obtain⟨c,m,y,h1,q,D,Y,W⟩:=hr.obj j oj a;have l:c≠b:=fun M=>e<|hr.inj j id oj o c m n a K h1<|M▸w
   have d:=hr.lt c y q;refine⟨c,m,y,h1,by grind,D.mono<|Le.eJ (ρ:=ρ) R,ah,fun e=>?_⟩;grind
 ·have f:∀k ok,AS (D5 ob id o') k=some ok->∃U,AS ob k=some U:=by
   grind
  obtain⟨_,p⟩:=f i oi T;obtain⟨_,r⟩:=f j oj a;exact hr.inj i j _ _ c m G p r h1 q
 ·rw[g]at a;by_cases e:j=id
  ·grind
  ·rw[wc e]at a;exact hr.dead j a
 ·rw[x c (Nat.lt_of_lt_of_le d hr.le)<|Ow (hr.own id b n w).2 d z];exact hr.old c d z
 ·rcases S c cs d with h1|h1
  ·exact hr.fo c cs h1
  ·exact .inr<|.inl<|yg hr.le h1
 ·obtain⟨p,r,E⟩:=hr.pn c d;have l:c≠b:=ah;exact⟨by rw[x c (hr.lt c _ p) l];exact p,r,E⟩
theorem oU{α:Type}{b:Bool}{a:List α}{x:α}{r:List α}(h:wsp b a=some (x,r)):a=wj b r x:=by
 unfold wsp at h;unfold wj;cases b with
 |true=>cases a with
  |nil=>cases h
  |cons y l=>cases h;rfl
 |false=>
  have h:(match a.reverse with|[]=>none|x::r=>some (x,r.reverse))=some (x,r):=h;cases e:a.reverse with
  |nil=>rw[e]at h;cases h
  |cons y l=>
   rw[e]at h;cases h;have:=wi List.reverse e;simpa using this
theorem BE.wj{b:Bool}{r:List PV}{x:PV}{vs:List V}(h:BE F ρ N (wj b r x) vs):∃a v,vs=Go.Pe.wj b a v/\BE F ρ N r a/\PR F ρ N x v:=by
 cases b with
 |true=>
  have h:BE F ρ N (x::r) vs:=h;simp only[BE]at h;obtain⟨v,a,rfl,c,d⟩:=h;exact⟨a,v,rfl,d,c⟩
 |false=>
  have h:BE F ρ N (r++[x]) vs:=h;obtain⟨a,y,rfl,c,d⟩:=h.split;obtain⟨v,_,rfl,hv,rfl⟩:=d;exact⟨a,v,rfl,c,hv⟩
theorem Xu{nd:Bool}{g:FuncId}{w:Lj}(Y:X.sp g=none)(a:FC X.C g w){Q:PV->Ob->Prop}{n:Nat}{args:List PV}{k:PV->AN->Tr}{args':List V}(q:Ev X Q n (XX w args st k))(hr:Rel B h0 F ρ st fr h)(G:BE F ρ st.nx args args'):
  ∃l,NO X ρ h args' (.fn g) l/\(nd=false->∃x,l=[x])/\
   ∀x∈l,∃n',n'<=n/\∃r st',Ev X Q n' (k r st')/\∃F' ρ',PR F' ρ' st'.nx r x.1/\Dh B h0 F ρ st.nx h st' fr x.2 F' ρ'/\(∀sp,X.sp g=some sp->∀b,b<h.nx->x.2.get b=h.get b):=by
 unfold XX at q;split at q
 ·rename_i id sz nn r j;rw[oU j]at G;obtain⟨a1,v,rfl,z,P⟩:=G.wj;obtain⟨F1,g1,g2,g3⟩:=handed hr.sr z;split at q
  case h_2=>grind [zy]
  rename_i c i t s l S W;cases p:zr t w.ty with
  |false=>grind [zy]
  |true=>
  rw[p]at q;have p:=zz p;split at q
  case h_2=>grind [zy]
  rename_i l' U;obtain⟨e,rfl⟩:=CG U;cases e;rcases q.EW with⟨A,f⟩|⟨_,f⟩
  case inr=>grind [zy]
  simp only[ze,w5]at A;obtain⟨⟨⟨rfl,d⟩,Z⟩,u⟩:=A;have u:=zz u;subst Z u p;obtain⟨e1,e2,e3⟩:=Dt (r.flatMap zu) st;obtain⟨b,m,x,h1,h2,⟨cs,fz,rfl,k1,k2,k3⟩,h4,_⟩:=g1.obj id _ W;simp only[PR]at P;obtain⟨o,ho',rfl⟩:∃o,(o=0\/o=w.el.sz)/\v=.sl b (0*w.el.sz) (List.length l) (List.length l) o:=by
   grind
  rw[Nat.zero_mul];obtain⟨x,M,O,q1,E,J,R,F',T,K,L,cs',fz',f4,f5,f6⟩:=a.run F1 h a1 i l b cs fz o g1.frz hr.sr.lt hr.sr.gh (g3 _ i S) d h2 k1 k2 (h4 rfl) ho';refine⟨[x],.Ba ⟨rfl,a.prim,a.fn⟩ O,(by simp),fun y I=>?_⟩;cases zn.1 I;refine⟨n,zw _,_,_,f,F',ρ,?_,⟨⟨⟨e3.trans hr.fp.n,fun t=>?_⟩,?_⟩,?_,E⟩,ah⟩
  ·rw[q1];simp[PR]
  ·have:((Bm (r.flatMap zu) st).setObj id<|.arr false w.ty w.el<|w.g i l).get t=st.get t:=by
    show((Bm (r.flatMap zu) st).fr.get t).getD .any=_;rw[e2];rfl
   rw[this];refine(hr.fp.slot t).mono ?_;show Le F ρ st.nx F' ρ (Bm (r.flatMap zu) st).nx;grind [Le.eJ]
  ·exact g1.wrote W h1 (hr.sr.lt _ _ h2) (h4 rfl) rfl f4 ⟨cs',fz',rfl,f5,f6,by rw[<-k3];exact a.len i l d⟩ J E R T K L
  ·show Le F ρ st.nx F' ρ (Bm (r.flatMap zu) st).nx;grind [Le.eJ]
 ·rename_i r j;rw[oU j]at G;obtain⟨a1,v,rfl,z,P⟩:=G.wj;subst P;obtain⟨F1,g1,g2,g3⟩:=handed hr.sr z;split at q
  case h_2=>grind [zy]
  rename_i c i S;rcases q.EW with⟨A,f⟩|⟨_,f⟩
  case inr=>grind [zy]
  simp only[ze]at A;obtain⟨rfl,d⟩:=A;obtain⟨e1,e2,e3⟩:=Dt (r.flatMap zu) st;obtain⟨x,M,O,q1,E,J,R,F',T,K,L⟩:=a.nils F1 h a1 i g1.frz hr.sr.lt hr.sr.gh (g3 _ i S) d;have D:Le F ρ st.nx F' ρ (Bm (r.flatMap zu) st).nx:=by
   grind [Le.eJ]
  refine⟨[x],.Ba ⟨rfl,a.prim,a.fn⟩ O,(by simp),fun y I=>?_⟩;cases zn.1 I;refine⟨n,zw _,_,_,f,F',ρ,?_,⟨⟨⟨e3.trans hr.fp.n,fun t=>?_⟩,?_⟩,D,E⟩,ah⟩
  ·rw[q1];simp[PR]
  ·have:(Bm (r.flatMap zu) st).get t=st.get t:=by unfold AN.get;rw[e2]
   rw[this];exact(hr.fp.slot t).mono D
  ·exact g1.after J E R T K L
 grind [zy]
theorem Hr(j:X.C.mg=false)(f:∀g sp,X.sp g=some sp->Af X.C g sp)(i:∀g w,X.ws g=some w->FC X.C g w):∀(d:Nat) (nd:Bool) (h0:H0),Fx B h0 X nd<|Ci X nd d
 |0,nd,h0=>by intro a;exact wh a zy
 |d+1,nd,h0=>by
  rename_i Q n T args st k;intro a F ρ fr h args' hr q;unfold Ci at a;cases T with
  |rnd id=>
   obtain⟨c,J,l,M,O,L,W⟩:=Nh (Hr j f i d nd) (Hr j f i d false) a hr q;refine⟨l,.Ba J O,L,fun x v=>?_⟩;grind
  |fn g=>
  simp only at a;have conv:(∃l,NO X ρ h args' (.fn g) l/\(nd=false->∃x,l=[x])/\
   ∀x∈l,∃n',n'<=n/\∃r st',Ev X Q n' (k r st')/\∃F' ρ',PR F' ρ' st'.nx r x.1/\Dh B h0 F ρ st.nx h st' fr x.2 F' ρ'/\(∀sp,X.sp g=some sp->∀b,b<h.nx->x.2.get b=h.get b))->
   ∃l,NO X ρ h args' (.fn g) l/\(nd=false->∃x,l=[x])/\
   ∀x∈l,∃n',n'<=n/\∃r st',Ev X Q n' (k r st')/\∃F' ρ',PR F' ρ' st'.nx r x.1/\Dh B h0 F ρ st.nx h st' fr x.2 F' ρ'/\(∀G,Cal.fn g=.fn G->∀sp,X.sp G=some sp->∀b,b<h.nx->x.2.get b=h.get b):=by
   simp
  obtain⟨o,p⟩:∃o,X.sp g=o:=⟨_,rfl⟩;cases o with
  |some sp=>
   rw[p]at a;simp only at a;cases u:(nd|| !sp.nd)with
   |false=>grind [zy]
   |true=>
    rw[u]at a;exact conv (fM (nd:=nd) p (f g sp p) ah a hr q)
  |none=>
   rw[p]at a;obtain⟨K,E⟩:∃o,X.ws g=o:=⟨_,rfl⟩;cases K with
   |some w=>rw[E]at a;exact conv (Xu p (i g w E) a hr q)
   |none=>
   rw[E]at a;simp only at a;cases m:X.esc.any (zr g)with
   |true=>
    rw[m]at a;unfold AeD at a;split at a
    case h_2=>grind [zy]
    rename_i id off;cases s:ID (st.obj id)with
    |false=>grind [zy]
    |true=>
     rw[s]at a;obtain⟨V,A,u⟩:=List.any_eq_true.1 m;have e:=zz u;subst e;have hp:=X.escOk g A;obtain⟨o,ho⟩:=XE s;obtain⟨b,n',z,q1,_⟩:=hr.sr.at ho;obtain⟨x,_,rfl,v,rfl⟩:=q;have D:=v;obtain rfl:=D.2 b n' q1;exact conv ⟨[(.ptr b off,h)],.prim hp rfl,(by simp),fun y I=>by
      cases zn.1 I;exact⟨n,zw _,_,st,a,F,ρ,v,Dh.refl hr,(by simp)⟩⟩
   |false=>
   rw[m]at a;split at a
   case h_2=>grind [zy]
   rename_i hp t;obtain⟨U,l,M,S,P,R⟩:=JY (Hr j f i d nd) (Hr j f i d false) j t hp p a hr q;exact conv ⟨l,.Ba ⟨rfl,U⟩ S,P,R⟩
theorem QM{st:AN}:∀ {l:List Sh} {ps:List PV} {r:Bool×(BA l).T},C6 st l ps=some r->l.length=ps.length
 |[],[],_,_=>rfl
 |[],_::_,_,h=>by cases h
 |[a],[p],_,_=>rfl
 |[a],[],_,h=>by cases h
 |[a],_::_::_,_,h=>by cases h
 |a::b::l,[],_,h=>by cases h
 |a::b::l,p::ps,_,h=>by
  unfold C6 at h;split at h
  case h_2=>cases h
  rename_i d c;have:=QM c;grind
def HJ(outs:List Sh)(v:PV):List PV:=match outs with
 |[_]=>[v]
 |_=>match v with
  | .tup vs=>vs
  |_=>[v]
def Lv(outs:List Sh)(v:PV)(ob:Ob):Option (Bool×(BA outs).T):=C6 ⟨0,.leaf,ob,0⟩ outs<|HJ outs v
def Ends(X:AO)(t:Tr)(Q:PV->Ob->Prop):Prop:=∃n,Ev X Q n t
def Ad(sp:Am)(i:(BA sp.ins).T)(v:PV)(ob:Ob):Prop:=∃y,Lv sp.outs v ob=some (true,y)/\y=sp.f i
theorem Yg{v:PV}(h:mR v=true)(st st':AN):Cr st v=Cr st' v:=by
 cases v<;>first|rfl|cases h
theorem IV(st st':AN):∀ {l:List PV},l.all mR=true->DB st l=DB st' l
 |[],_=>rfl
 |v::l,h=>by
  rw[yo,ze]at h;unfold DB;rw[Yg h.1 st st',IV st st' h.2]
theorem GL(st st':AN):∀ {l:List Sh} {ps:List PV},ps.all SI=true->C6 st l ps=C6 st' l ps
 |[],[],_=>rfl
 |[],_::_,_=>rfl
 |[_],[],_=>rfl
 |_::_::_,[],_=>rfl
 |[a],[p],h=>by
  grind [Hc,IV,C6,SI]
 |[_],_::_::_,_=>rfl
 |a::b::l,p::ps,h=>by
  rw[yo,ze]at h;unfold C6 Hc;rw[IV st st' h.1,GL st st' h.2]
theorem Ads{outs:List Sh}{v:PV}{ob:Ob}:Lv outs v (gcO v ob)=Lv outs v ob:=by
 unfold gcO;cases b:Aca v with
 |false=>rfl
 |true=>
  unfold Lv HJ;by_cases c:∃a,v=.tup a
  ·obtain⟨a,rfl⟩:=c;split
   ·rfl
   ·exact GL _ _ b
  ·have e:SI v=true:=by
    cases v with
    |tup a=>grind
    |_=>exact b
   have d:[v].all SI=true:=ah
   split
   ·exact GL _ _ d
   ·split
    ·grind
    grind [GL]
theorem dF(S:X.C.mg=false)(j:∀g sp,X.sp g=some sp->Af X.C g sp)(Y:∀g w,X.ws g=some w->FC X.C g w){f:FuncId}{sp:Am}{d:Nat}(J:X.C.spec f=none)(c:X.C.prim f=none)(K:X.sp f=none)
  (L:∀i,sp.pre i=true->Ends X (tree X sp.nd d f<|Ag sp.ins i) (Ad sp i)) (O:∃i,X.C.fn f=some i):Af X.C f sp:=by
 refine .of0 ⟨c,O,fun F h args i z D s m v=>?_⟩;obtain⟨n,he⟩:=L i v;have hr:Rel h.nx ⟨h,F,[],fun _=>False⟩ F (fun _=>none) (Ay 0 [] [] 0) ⟨0,.leaf⟩ h:=by
  refine⟨⟨rfl,fun t=>?_⟩,⟨fun id o W=>(by cases W),(by simp),z,(by simp),fun _ _=>rfl,(by simp),D,zw _,ah,fun x I=>⟨D _ _<|s x I,fun e=>e,s x I⟩,(by simp)⟩⟩;show PR _ _ _ (((ER []).get t).getD .any) _;grind [ER,PM.Ep,PR]
 obtain⟨_,l,M,Z,E,j⟩:=JY (by grind [Hr]) (by grind [Hr]) S J c K he hr<|m _ _;refine⟨l,M,Z,E,fun x I=>?_⟩;obtain⟨n',hn,r,st',he',F',ρ',hp,hw,_⟩:=j x I;have hq:=he'.cL;obtain⟨y,hy,rfl⟩:=hq;rw[Ads]at hy;have A:∀b,b<h.nx->x.2.get b=h.get b:=fun b u=>hw.rel.sr.old b u<|fun e=>e
 refine⟨hw.nx,A,hw.rel.sr.lt,?_⟩;have T:∃vs,BE F' ρ' st'.nx (HJ sp.outs r) vs/\((∃a,sp.outs=[a])->vs=[x.1])/\((∀a,sp.outs≠[a])->(∃G,r=.tup G)->x.1=.tup vs):=by
  unfold HJ;split
  ·simp_all
  ·split
   ·grind [PR]
   ·exact⟨[x.1],by simp_all,fun _=>rfl,ah⟩
 obtain⟨vs,k,U,V⟩:=T;obtain⟨F1,g1,g2,g3⟩:=handed (st:=st') hw.rel.sr k;have R:∀id,D2 (AN.obj ⟨0,.leaf,st'.ob,0⟩ id) (st'.obj id):=fun id=>D2.refl _
 have p:=g3 sp.outs _ (by rw[Nq R];exact hy);refine⟨F1,fun b cs u=>g2 b cs<|hw.le.fz b cs u,fun b cs u=>(g1.fo b cs u).imp_right<|fun h=>h.resolve_right<|fun e=>e,g1.frz,WV.2 ⟨vs,p,?_⟩⟩;have q:sp.outs.length=(HJ sp.outs r).length:=QM hy;have hl2:=k.len;by_cases W:∃a,sp.outs=[a]
 ·grind
 ·have P:sp.outs.length≠1:=(by grind [List.length_eq_one_iff]);have ht:∃G,r=.tup G:=by
   cases r with
   |tup G=>simp
   |_=>
    exfalso;apply P;rw[q];unfold HJ;split<;>rfl
  grind
end
section
variable {X:AO}{Q Q':PV->Ob->Prop}
theorem Ends.leaf{v:PV}{ob:Ob}(h:Q v ob):Ends X (.leaf v ob) Q:=⟨0,.leaf h⟩
theorem Ends.ite{c:Bool}{a b:Tr}(d:c=true->Ends X a Q)(e:c=false->Ends X b Q):Ends X (.ite c a b) Q:=by
 cases c with
 |true=>obtain⟨n,h⟩:=d rfl;exact⟨n,.ite (fun _=>h)<|by simp⟩
 |false=>obtain⟨n,h⟩:=e rfl;exact⟨n,.ite (by simp)<|fun _=>h⟩
theorem Ends.tt{c:Bool}{a b:Tr}(d:c=true)(h:Ends X a Q):Ends X (.ite c a b) Q:=(by grind [Ends.ite])
theorem Ends.ff{c:Bool}{a b:Tr}(d:c=false)(h:Ends X b Q):Ends X (.ite c a b) Q:=(by grind [Ends.ite])
def stepT(X:AO):Tr->Tr
 | .loop nd ro d f base b st k=>body X nd ro d f base b st k
 | .cut nd ro d f base b st k=>AV X nd ro d f base b st k
 |t=>t
theorem Ends.step{t:Tr}(h:Ends X (stepT X t) Q):Ends X t Q:=by
 cases t with
 |loop=>obtain⟨n,h⟩:=h;exact⟨n+1,.loop h⟩
 |cut=>obtain⟨n,h⟩:=h;exact⟨n,.cut h⟩
 |_=>exact h
theorem Ends.eq{t a:Tr}(e:t=a)(h:Ends X a Q):Ends X t Q:=e▸h
theorem Ends.An{t a:Tr}(e:stepT X t=a)(h:Ends X a Q):Ends X t Q:=Ends.step<|e▸h
def Tr.L:Tr->Tr
 | .ite _ a _=>a
 | .both a _=>a
 |t=>t
def Tr.R:Tr->Tr
 | .ite _ _ b=>b
 | .both _ b=>b
 |t=>t
def re:Tr->AN->Tr
 | .loop nd ro d f base b _ k,st=>.loop nd ro d f base b st k
 | .cut nd ro d f base b _ k,st=>.cut nd ro d f base b st k
 |t,_=>t
def KK(r:Nat):Code->Option (Array Tmp×Code×Code)
 | .rangeFunc _ ps a b=>bif zr (BB b) r then some (ps,a,b)else KK r b
 | .seq a b=>match KK r a with
  |some x=>some x
  |none=>KK r b
 | .cond _ a b=>match KK r a with
  |some x=>some x
  |none=>KK r b
 | .block _ b| .loop b| .scope b=>KK r b
 |_=>none
def AcU(C:Ctx)(f:FuncId)(r:Nat):Array Tmp×Code×Code:=match C.fn f with
 |some i=>(KK r i.body).getD (#[],.skip,.skip)
 |none=>(#[],.skip,.skip)
def AeX(C:Ctx)(f:FuncId)(r:Nat):Array Tmp:=(AcU C f r).1
def AbZ(C:Ctx)(f:FuncId)(r:Nat):Code:=(AcU C f r).2.1
def pY(C:Ctx)(f:FuncId)(r:Nat):Code:=(AcU C f r).2.2
def Mw:List (FuncId×Am)->FuncId->Option Am
 |[],_=>none
 |(g,s)::l,f=>bif zr g f then some s else Mw l f
def AaN:List (FuncId×Lj)->FuncId->Option Lj
 |[],_=>none
 |(g,s)::l,f=>bif zr g f then some s else AaN l f
theorem ZQ{C:Ctx}:∀ {l:List (FuncId×Lj)},(∀x∈l,FC C x.1 x.2)->∀g sp,AaN l g=some sp->FC C g sp
 |[],_,g,sp,h=>by cases h
 |(a,s)::l,c,g,sp,h=>by
  unfold AaN at h;cases b:zr a g with
  |true=>
   simp_all
  |false=>rw[b]at h;exact ZQ ah g sp h
def Af1:List (FuncId×List Nat)->FuncId->Nat->Bool
 |[],_,_=>false
 |(g,t)::l,f,r=>bif zr g f then t.any (zr r)else Af1 l f r
def AeV:List (FuncId×List (Nat×List (Nat×Sh)))->FuncId->Nat->List (Nat×Sh)
 |[],_,_=>[]
 |(g,t)::l,f,r=>bif zr g f then fz1 t r else AeV l f r
 where fz1:List (Nat×List (Nat×Sh))->Nat->List (Nat×Sh)
 |[],_=>[]
 |(i,s)::l,r=>bif zr i r then s else fz1 l r
def Acl:List (FuncId×List (Nat×List Nat))->FuncId->Nat->List Nat
 |[],_,_=>[]
 |(g,t)::l,f,r=>bif zr g f then pl1 t r else Acl l f r
 where pl1:List (Nat×List Nat)->Nat->List Nat
 |[],_=>[]
 |(i,s)::l,r=>bif zr i r then s else pl1 l r
end
section
open Go.Proofs.Tryz (prog)
def Qi(C:Ctx)(q:YI):Ctx:=⟨C.T,C.ng,C.fn,C.prim,q,false⟩
theorem Wj{C:Ctx}{P:Program}(a:C.Ok P){q:YI}(h:Hi P q):(Qi C q).Ok P where
 T:=a.T
 fn:=a.fn
 prim:=a.prim
 spec:=h
theorem P5{C:Ctx}(a:GO C)(q:YI):GO (Qi C q):=a
class Srt where
 q:Option (List V->H->Option (V×H))
def NB[Srt]:YI:=fun f=>bif zr f 95 then Srt.q else none
def A5[Srt]:Ctx:=Qi C7<|orS NB<|orS fmtS<|orS nL<|orS (Ie MRp)<|Ie A7
theorem mO[Srt](a:Hi prog NB):A5.Ok prog:=Wj W9<|Pq a<|Pq wC<|Pq lN<|Pq spR spA
theorem RK[Srt]:GO A5:=P5 I4 _
def Afu:List (FuncId×List (Nat×List Nat)):=
 [(3,[(15,[0,5,6,7,8]),(11,[0,4]),(5,[0,3]),(6,[0,3]),(4,[0,3]),(3,[0])]),
 (4,[(26,[0,1,5,7,9,10,14,16,18,20,22]),(18,[0,1,5,7,9,10,11,12,64,65]),(16,[0,1,5,7,9,10,11,12,13,64,65]),(14,[0,1,5,7,9,10,11,12,13,64,65]),(11,[0,1,5,7,9,10,11,12,64,65]),(10,[0,1,5,7,9,10,11,12,64,65]),(7,[0,1,5,7]),(3,[0,1])]),
 (11,[(7,[0,3,4,5]),(6,[0,3,4,5]),(5,[0,3,4]),(3,[0,3,4])]),
 (12,[(5,[0,2,7]),(6,[0,2,7]),(4,[0,2,7]),(3,[0,2])]),
 (14,[(3,[0,3]),(4,[0,3]),(2,[0,3])]),
 (16,[(5,[0,1])]),
 (17,[(11,[1,2,4,13,40,41,42]),(10,[1,2,4,13,40,41,42]),(8,[1,2,3,4]),(4,[1,2,3,4])]),
 (30,[(5,[0,4]),(3,[0,3,4])]),
 (33,[(4,[3,9,10,11]),(3,[3,9,10,11])]),
 (37,[(5,[0,3,4]),(3,[0,3,4])]),
 (40,[(16,[]),(11,[3,4]),(9,[3,4]),(7,[3,4]),(4,[0,3])]),
 (46,[(15,[8,9]),(13,[6,8,9]),(10,[5,6,7]),(7,[5,6]),(4,[5])]),
 (47,[(13,[6]),(10,[0,1,6]),(5,[0,1]),(3,[0,1])]),
 (49,[(9,[8,10]),(3,[2,3])]),
 (57,[(6,[5,6,7]),(3,[5,6,7]),(2,[5,6,7])]),
 (63,[(4,[7])]),
 (65,[(5,[6,8])]),
 (67,[(3,[2,3,4])]),
 (71,[(6,[8,10,11,12,13,14])]),
 (72,[(14,[6,7,10,40,41,42]),(13,[6,7,10,12,13,40,41,42]),(10,[6,7,10,40,41,42]),(9,[6,7,10,40,41,42]),(4,[1,3,6,7,21,22,23]),(3,[1,3,6,7,21,22,23])]),
 (89,[(9,[5,6,7]),(6,[5,6,7,8])]),
 (92,[(4,[1,4,5,9,10,11]),(3,[1,4,5,9,10,11])]),
 (96,[(5,[0,1])]),
 (98,[(10,[3]),(7,[1,3,4]),(5,[1,3,4]),(3,[1])]),
 (99,[(7,[0,2,3,4,5]),(4,[0,2,3,4]),(3,[0,2,3,4])]),
 (100,[(3,[0,3]),(4,[0,3]),(2,[0,3])]),
 (102,[(2,[0,1]),(1,[0,1])]),
 (104,[(5,[0,3,4]),(3,[0,3,4])]),
 (105,[(2,[0,1]),(1,[0,1])]),
 (106,[(3,[0,1,5]),(2,[0,1,5])]),
 (107,[(6,[0,2,3,4]),(5,[0,2,3,4]),(4,[0,2,3])]),
 (109,[(15,[8,9,10,11,12,13]),(39,[8,9,10,11,12,13,14]),(35,[8,9,10,11,12,13,14,19,20]),(33,[8,9,10,11,12,13,14,19,20]),(20,[8,9,10,11,12,13,14,15,16]),(27,[8,9,10,11,12,13,14,15,16,18]),(21,[8,9,10,11,12,13,14,15,16]),(19,[8,9,10,11,12,13,14,15,16]),(16,[8,9,10,11,12,13]),(14,[8,9,10,11,12,13]),(11,[0,8,9,10,11]),(10,[0,8,9,10,11]),(6,[0,1]),(3,[0,1])]),
 (111,[(6,[0,1,5,6,7]),(4,[0,1,5,6,7])]),
 (112,[(7,[0,1,5]),(10,[0,1,5]),(8,[0,1,5]),(6,[0,1,5]),(5,[0,1]),(4,[])]),
 (113,[(5,[0,1,5,6,7]),(11,[0,1,5,6,7,8]),(6,[0,1,5,6,7]),(4,[0,1,5,6,7])]),
 (114,[(9,[0,1,5,6,7,8]),(7,[0,1,5,6,7,8]),(5,[0,1,5,6]),(3,[0,1,5,6])]),
 (115,[(35,[14,94,95,96]),(34,[14,16,94,95,96]),(30,[14,94,95,96]),(29,[14,94,95,96]),(27,[1]),(23,[1,8,47,48,49]),(22,[1,8,10,47,48,49]),(17,[1,8,47,48,49]),(16,[1,8,47,48,49]),(14,[1]),(10,[1,26,27,28]),(6,[1,26,27,28]),(5,[1,26,27,28]),(4,[1])]),
 (118,[(6,[0,1,7,8]),(3,[0,1,7,8]),(2,[0,1,7,8])]),
 (121,[(5,[2,3,4]),(3,[2,3,4])]),
 (122,[(4,[1,4,5,9,10,11]),(3,[1,4,5,9,10,11])]),
 (124,[(11,[2,4]),(5,[0,2,3,4]),(4,[0,2,3,4])]),
 (131,[(10,[0,3,4,11,12,13]),(8,[0,3,4,5,7,8]),(6,[0,3,4,5,7,8]),(3,[0,3,4,11,12,13]),(2,[0,3,4,11,12,13])]),
 (134,[(4,[0,1,2,3,8,9]),(2,[0,1,2,3,8,9]),(1,[0,1,2,3,8,9])]),
 (138,[(6,[5,6,7]),(3,[5,6,7]),(2,[5,6,7])]),
 (140,[(3,[2,3,4]),(2,[2,3,4])]),
 (142,[(21,[6,10,11]),(19,[6,10,11]),(18,[6,10]),(13,[3,5,6,7,9]),(11,[3,5,6,7,9]),(7,[3,4,5,6]),(6,[3,4,5,6]),(3,[1])]),
 (145,[(3,[0,3]),(4,[0,3]),(2,[0,3])]),
 (146,[(6,[0,1,6,7,8]),(4,[0,1,6,7,8])]),
 (147,[(2,[0]),(1,[0])]),
 (148,[(5,[0,1,2,7,9,10]),(4,[0,1,2,7,9,10])]),
 (150,[(10,[30,31,32]),(6,[30,31,32]),(5,[30,31,32]),(4,[1])]),
 (152,[(3,[0,6,7]),(2,[0,6])]),
 (153,[(6,[1,4]),(7,[1,4]),(5,[1,4]),(4,[1])]),
 (154,[(6,[0,1,7,8]),(3,[0,1,7,8]),(2,[0,1,7,8])]),
 (155,[(3,[2,3,4])]),
 (160,[(3,[1,2,4,5]),(6,[1,2,4,5]),(4,[1,2,4,5]),(2,[1,2,4,5])]),
 (163,[(12,[0,1,5,6,21,22]),(11,[0,1,5,6,7,8,21,22]),(7,[0,1,5,6,21,22]),(6,[0,1,5,6,21,22]),(3,[0,1])]),
 (164,[(7,[0,1,5]),(11,[]),(8,[0,1,5]),(6,[0,1,5]),(5,[0,1]),(4,[])]),
 (165,[(10,[0,1,5,6,13,14]),(9,[0,1,5,6,7,8,13,14]),(5,[0,1,5,6,13,14]),(4,[0,1,5,6,13,14])]),
 (168,[(8,[1,5,6,7,8,20,21,22,27,28,29]),(7,[1,5,6,7,8,20,21,22,27,28,29]),(4,[1,5,20,21,22]),(3,[1,5,20,21,22])]),
 (169,[(12,[4,5,14,15]),(6,[2,3,4,5]),(5,[4,5,6,7])]),
 (178,[(26,[9,11,12,13,96,97]),(22,[9,11,12,13,96,97]),(21,[9,11,12,13,96,97]),(19,[9,10,11,12,13,14]),(17,[9,10,11,12,13,14]),(11,[0,1]),(9,[0,1,6,7,8]),(7,[0,1,6,7,8]),(3,[0,1])]),
 (196,[(13,[3,11,12,13]),(12,[3,5,11,12,13]),(10,[3,5,11,12,13]),(6,[3,11,12,13]),(5,[3,11,12,13]),(3,[0])]),
 (200,[(20,[0]),(19,[6]),(16,[5,6,47,48,49]),(15,[5,6,8,47,48,49]),(11,[5,6,47,48,49]),(10,[5,6,47,48,49]),(8,[0,5])]),
 (203,[(3,[0,3]),(2,[0,3])]),
 (208,[(3,[0,2,4]),(7,[0,2,4,5]),(4,[0,2,4]),(2,[0,2,4])]),
 (209,[(3,[0,1]),(2,[0,1]),(1,[0,1])]),
 (210,[(3,[0,1]),(2,[0,1]),(1,[0,1])]),
 (214,[(25,[2,8,9,10,14,15,16,17,18]),(24,[2,8,9,10,14,15,16,17,18]),(18,[2,8,9,10,11,13,14,15,16]),(17,[2,8,9,10,11,13,14,15,16]),(7,[0,1,2]),(5,[0,1,2]),(3,[0,1,2])]),
 (216,[(8,[1,5,12,13,14]),(4,[1,5,12,13,14]),(3,[1,5,12,13,14])]),
 (217,[(29,[0,1,5,6,17,156,157]),(28,[0,1,5,6,17,156,157]),(26,[0,1,5,6]),(16,[0,1,5,6,11,12,104,105]),(15,[0,1,5,6,11,12,104,105]),(11,[0,1,5,6,7]),(9,[0,1,5,6,7]),(8,[0,1,5,6,7,8])]),
 (228,[(15,[5,23,24,25]),(14,[5,9,23,24,25]),(11,[5,6,7,23,24,25]),(7,[5,23,24,25]),(6,[5,23,24,25]),(4,[0])]),
 (252,[(7,[6,7,8]),(3,[6,7,8]),(2,[6,7,8])])]
def AcO:List FuncId:=[250]
theorem cU[Srt]:∀g∈AcO,A5.prim g=some PK.noEsc.run:=fun g h=>by
 cases h with
 |head=>kernel_rfl
 |tail _ h=>cases h
def X7[Srt](l:List (FuncId×Am)):AO:=⟨A5,Mw l,Acl Afu,fun _ _=>false,fun _ _=>[],fun _=>none,AcO,cU⟩
def U9[Srt](cs:List (FuncId×List Nat))(fz:List (FuncId×List (Nat×List (Nat×Sh))))(t:List (FuncId×List (Nat×List Nat)))(l:List (FuncId×Am)):AO:=⟨A5,Mw l,Acl<|t++Afu,Af1 cs,AeV fz,fun _=>none,AcO,cU⟩
def AO.wr(X:AO)(l:List (FuncId×Lj)):AO:={ X with ws:=AaN l }
end
end Go.Pe
namespace Go.Sp
def first:List Int->Int
 |[]=>0
 |x::l=>if x≠0 then x else first l
def Cd(c:Bool)(e:Int):Int:=bif c then e else 0
end Go.Sp
namespace Go.Pe
open Go.Det
abbrev i64:Sh:=.int .i64
abbrev Adx:Sh:=.list<|.int .i64
def FR:Am:=⟨[Adx],fun l=>decide (l.length<=1000000),[i64],fun l=>Sp.first l,false⟩
def Hd:Am:=⟨[.bool,i64],fun _=>true,[i64],fun i=>Sp.Cd i.1 i.2,false⟩
def iP[Srt]:AO:=X7 []
end Go.Pe
namespace Go.Sp
abbrev BS:=Rd
def has(l:List BS)(x:BS):Bool:=decide (x∈l)
end Go.Sp
namespace Go.Pe
open Go.Det
section
open List Int Prod
namespace T152
def T[Srt](s:Rd):Tr:=tree iP false 9 152<|Ag ([Sh.str]) s
def L1[Srt](v0 a:Rd):Tr:=re ((T []))<|Ay 37 [(0,.dat Sh.str v0),(6,.ptr 0 0)] [(0,Obj.siter a 0)] 1
theorem Ak[Srt](s:Rd):T s=L1 s s:=by kernel_rfl
def L2[Srt](v0 b:Rd)(a:Nat):Tr:=re ((stepT iP<|L1 [] []).L.L.L)<|Ay 37 [(0,.dat Sh.str v0),(6,.ptr 0 0)] [(0,Obj.siter b a)] 1
theorem Al[Srt](v0 a:Rd):stepT iP (L1 v0 a)=let b':=L2 v0 a<|ym 0<|Ki a 0;let b:Tr:=.leaf (.bl false) [];let d:Tr:=.ite true b<|.ite (rune a 0 !=95) (.di (rune a 0<48) b<|.di (rune a 0>57) b b') b';let c:Tr:=.di (rune a 0>=65) (.ite (!decide (rune a 0<=90)) d b') d;.di (0<length a) (.di (rune a 0>=97) (.di (rune a 0<=122) b' c) c) (.ite (!v0==[]) (.leaf (.dat Sh.bool<|decide ((length v0:Int)<=24)) []) b):=by kernel_rfl
theorem AL[Srt](v0 b:Rd)(a:Nat):stepT iP (L2 v0 b a)=let b':=L2 v0 b<|ym a<|Ki b a;let c:Tr:=.leaf (.bl false) [];let d:Tr:=.ite ((↑a:Int)==0) c<|.ite (rune b a !=95) (.di (rune b a<48) c<|.di (rune b a>57) c b') b';let e:Tr:=.di (rune b a>=65) (.ite (!decide (rune b a<=90)) d b') d;.di (a<length b) (.di (rune b a>=97) (.di (rune b a<=122) b' e) e) (.ite (!v0==[]) (.leaf (.dat Sh.bool<|decide ((length v0:Int)<=24)) []) c):=by kernel_rfl
end T152
end
section
variable {X:AO}{Q:PV->Ob->Prop}
@[simp] theorem Aer:Ends X .fail Q↔False:=⟨fun⟨_,h⟩=>zy h,fun h=>h.elim⟩
@[simp] theorem Ns{v:PV}{ob:Ob}:Ends X (.leaf v ob) Q↔Q v ob:=⟨fun⟨_,h⟩=>h.cL,fun h=>.leaf h⟩
@[simp] theorem Hk{c:Bool}{a b:Tr}:Ends X (.ite c a b) Q↔if c=true then Ends X a Q else Ends X b Q:=by
 constructor
 ·rintro⟨n,h⟩;rcases h.EW with⟨d,h⟩|⟨d,h⟩
  ·rw[wd d];exact⟨n,h⟩
  ·rw[wc<|by simp[d]];exact⟨n,h⟩
 ·intro h;refine .ite (fun d=>?_)<|fun d=>?_
  ·rwa [wd d]at h
  ·rwa [wc<|by simp[d]]at h
theorem Ad.of{sp:Am}{i:(BA sp.ins).T}{v:PV}{ob:Ob}{c:Bool}{y:(BA sp.outs).T}(h:Lv sp.outs v ob=some (c,y))(b:c=true)(a:y=sp.f i):Ad sp i v ob:=⟨y,by rw[h,b],a⟩
@[simp] theorem Xs(s:Sh)(x:List s.T):Mc (Sh.leaves<|.list s) [.dat (.list s) x]=(true,[.dat (.list s) x]):=rfl
theorem wr(x:Int)(b: -9223372036854775808<=x)(a:x<=9223372036854775807):zc .i64 x=x:=IntWalk.i64_in x ⟨b,a⟩
theorem drop_cons{α:Type}{l r:List α}{x d:α}{i:Nat}(h:l.drop i=x::r):i<l.length/\l.getD i d=x/\l.drop (i+1)=r:=by
 have a:i<l.length:=by
  rcases yq i l.length with h1|h1
  ·exact h1
  ·rw[yn h1]at h;cases h
 have b:=zq a;rw[h]at b;simp only[ye]at b;exact⟨a,by simp[a,b.1],b.2.symm⟩
end
theorem Xv[Srt]:∀g sp,iP.sp g=some sp->Af A5 g sp:=fun g sp h=>by cases h
abbrev CL[Srt](X:AO):Prop:=∀g sp,X.sp g=some sp->Af A5 g sp
theorem Ir[Srt]{X:AO}(n:X.C=A5)(b:∀g sp,X.sp g=some sp->Af A5 g sp){f:FuncId}{sp:Am}{d:Nat}(e:A5.spec f=none)(a:A5.prim f=none)(j:X.sp f=none)
  (l:∀i,sp.pre i=true->Ends X (tree X sp.nd d f<|Ag sp.ins i) (Ad sp i)) (m:∃i,A5.fn f=some i) (c:∀g w,X.ws g=some w->FC A5 g w:=by intro _ _ h;cases h):Af A5 f sp:=by
 have k:X.C.mg=false:=by rw[n];rfl
 rw[<-n]at*;exact dF k b c e a j l m
theorem Bd{α:Type}{o:Option α}(h:o.isSome=true):∃i,o=some i:=Option.isSome_iff_exists.1 h
theorem BG[Srt]{X:AO}(b:CL X){f:FuncId}{sp:Am}(j:∀i,sp.pre i=true->Ends X (tree X sp.nd 9 f<|Ag sp.ins i) (Ad sp i))(l:X.C=A5:=by rfl)(d:A5.spec f=none:=by kernel_rfl)(a:A5.prim f=none:=by kernel_rfl)(e:X.sp f=none:=by kernel_rfl)(k:(A5.fn f).isSome=true:=by kernel_rfl)(c:∀g w,X.ws g=some w->FC A5 g w:=by intro _ _ h;cases h):Af A5 f sp:=Ir l b d a e j (Bd k) c
theorem drop_nil{α:Type}{l:List α}{i:Nat}(h:l.drop i=[])(a:i<=l.length):i=l.length:=by
 have:=wi List.length h;simp at this;omega
theorem kB{α:Type}{l r:List α}{x:α}{i:Nat}(h:l.drop i=x::r):x∈l:=by
 have:x∈l.drop i:=by rw[h];simp
 exact List.mem_of_mem_drop this
theorem Vj(c:Int):yh c=true↔(97<=c/\c<=122)\/(65<=c/\c<=90)\/(48<=c/\c<=57)\/c=95:=by
 simp[yh,Sp.letter,or_assoc]
theorem P3(c:Int):Sp.letter c=true↔(97<=c/\c<=122)\/(65<=c/\c<=90):=by
 simp[Sp.letter]
namespace T152
theorem loop[Srt](s:Rd)(b:s≠[]):∀(r:Rd) (i:Nat),s.drop i=r->i<=s.length->1<=i->
  ((r.all fun c=>yh (c.toNat:Int))=false->∀ob,Q (.bl false) ob)->((r.all fun c=>yh (c.toNat:Int))=true->∀ob,Q (.dat .bool<|decide ((s.length:Int)<=24)) ob)->Ends iP (L2 s s i) Q
 |[],i,h,o,p,j,g=>by
  have:=drop_nil h o;refine Ends.An (AL ..) (Ends.ff (by simp;omega)<|Ends.tt (by simpa using b) ?_);exact Ends.leaf<|g rfl _
 |x::r,i,h,o,p,j,g=>by
  obtain⟨f,n,u⟩:=drop_cons (d:=0) h;refine Ends.An (AL ..) (Ends.tt (by simpa using f) ?_);have t:((i:Int)==0)=false:=by simp;omega
  simp only[Hk,Ns,t,Bool.false_eq_true,vf,w5,Bool.not_eq_true',w9,bne_iff_ne,vc];have step:yh (x.toNat:Int)=true->Ki s i=1->Ends iP (L2 s s<|ym i<|Ki s i) Q:=by
   intro a y;rw[y];refine loop s b r (i+1) u f ae (fun e=>j<|by simp[e]) (fun e=>g (by simp[e];exact a))
  have no:yh (x.toNat:Int)=false->∀ob,Q (.bl false) ob:=fun a=>j (by simp[a])
  by_cases m:(s.getD i 0).toNat<128
  ·obtain⟨w,q⟩:=WT f m;rw[w,n];have k:=Vj (x.toNat:Int);generalize ((x.toNat:Nat):Int)=c at k step no ⊢;by_cases a:yh c=true
   ·have:=k.1 a;repeat' split
    all_goals first|exact step a q|(exfalso;omega)
   ·have l:yh c=false:=by simpa using a
    have:¬_:=fun h=>a<|k.2 h
    repeat' split
    all_goals first|exact no l _|(exfalso;omega)
  ·have hr:=Sq f ae;have v:yh (x.toNat:Int)=false:=by
    have:¬yh (x.toNat:Int)=true:=fun h=>by
     have:=(Vj _).1 h;rw[n]at m;omega
    simpa using this
   repeat' split
   all_goals first|exact no v _|(exfalso;omega)
end T152
theorem hI{α:Type}{l r:List α}{x:α}{i:Nat}(h:l.drop i=x::r):l.take (i+1)=l.take i++[x]:=by
 have b:=(drop_cons (d:=x) h).1;have a:=(drop_cons (d:=x) h).2.1;rw[List.take_add_one];congr 1;have:l[i]?=some x:=by
  have e:=zm b;rw[e];simp only[List.getD,e,Option.getD_some]at a;rw[a]
 rw[this];rfl
theorem AI{C:Ctx}:∀g sp,Mw [] g=some sp->Af C g sp:=fun g sp h=>by cases h
theorem Aa{C:Ctx}{b:FuncId}{c:Am}{l:List (FuncId×Am)}(h0:Af C b c)(d:∀g sp,Mw l g=some sp->Af C g sp):∀g sp,Mw ((b,c)::l) g=some sp->Af C g sp:=by
 intro g sp h;unfold Mw at h;cases a:zr b g with
 |true=>rw[a]at h;cases h;have:=zz a;subst this;exact h0
 |false=>rw[a]at h;exact d g sp h
theorem G9[Srt]{f:FuncId}{s t:List Sh}{g:(BA s).T->(BA t).T}{nd:Bool}(a:A5.prim f=none)(b:∃i,A5.fn f=some i):Af A5 f ⟨s,fun _=>false,t,g,nd⟩:=
 .of0 ⟨a,b,fun F h args i _ _ _ _ hp=>by cases hp⟩
theorem E0{α:Type}(A B:List α)(x d:α){n:Nat}(h:A.length=n):(A++x::B).getD n d=x:=by
 subst h;simp[List.getD]
theorem Dn{α:Type}(A B:List α)(x y:α){n:Nat}(h:A.length=n):(A++x::B).set n y=A++y::B:=by
 subst h;simp
end Go.Pe
namespace Go.Sp
open Go.Pe (Fb imax)
theorem lJ(a b:Int):Fb a b=min a b:=by unfold Fb;split<;>omega
abbrev Ao:Nat:=18446744073709551616
abbrev AJ:=Int×List Int
def CT(l:List Int):Bool:=decide (l.length<=20000)&&l.all fun d=>decide (0<=d)&&decide (d<18446744073709551616)
def hW(l:List Int):Bool:=CT l&&decide (l.length<=9000)
def nzW(l:List Int):Bool:=decide (l.getLast?≠some 0)
def Cj(l:List Int):Bool:=CT l&&nzW l
def As(l:List Int):Int:=val Ao l
def Bs(n:Int):List Int:=dg Ao n
def u64(n:Int):Bool:=decide (0<=n)&&decide (n<18446744073709551616)
def Cv(n:Int):Bool:=decide (-9223372036854775808<=n)&&decide (n<9223372036854775808)
def Ah(n:Int):Int:=if n<0 then -n else n
theorem Aj(n:Int):Ah n=(n.natAbs:Int):=by unfold Ah;split<;>omega
def vI(a:AJ):Int:=if a.2=[]then a.1 else if a.1<0 then -As a.2 else As a.2
def Da(a:AJ):Bool:=Cv a.1&&(decide (a.2=[])||(Cj a.2&&(decide (a.1=1)||decide (a.1= -1))&&decide (9223372036854775808<=As a.2)))
def CR(n:Int):AJ:=if -9223372036854775808<n/\n<9223372036854775808 then(n,[])else(if n<0 then -1 else 1,Bs<|Ah n)
def CP(n:Int):Int:=(CR n).1
def CO(n:Int):List Int:=(CR n).2
def sg(neg:Bool)(v:Int):Int:=if neg=true then -v else v
def Iv(x y c:Int):Int:=(x+y+c) % 18446744073709551616
def QS(x y c:Int):Int:=(x+y+c)/18446744073709551616
def U6(x y c:Int):Int:=(x-y-c) % 18446744073709551616
def Rh(x y c:Int):Int:=if x<y+c then 1 else 0
def IC(x y:Int):Int:=(x*y) % 18446744073709551616
def RZ(x y:Int):Int:=(x*y)/18446744073709551616
def Cp(a b:Int):Int:=if a<b then -1 else if a>b then 1 else 0
def N1(n:Int):Int:=if n<0 then -1 else if n>0 then 1 else 0
def Ex(a b:AJ):AJ:=if a.2=[]/\b.2=[]/\Cv (a.1+b.1)=true then(a.1+b.1,[])else CR<|vI a+vI b
def Dd(a:AJ):AJ:=if a.2=[]/\a.1≠ -9223372036854775808 then(-a.1,[])else CR<| -vI a
def VL(a:AJ):AJ:=if a.1<0 then Dd a else a
def Oe(a b:AJ):AJ:=Ex a<|Dd b
def Fp(a b:AJ):AJ:=CR<|vI a*vI b
def EB(a:AJ):Int:=(Dd a).1
def EC(a:AJ):List Int:=(Dd a).2
def PH(a:AJ):Int:=(VL a).1
def QB(a:AJ):List Int:=(VL a).2
def Kn(a b:AJ):Int:=(Ex a b).1
def Kf(a b:AJ):List Int:=(Ex a b).2
def bW(a b:AJ):Int:=(Oe a b).1
def aL(a b:AJ):List Int:=(Oe a b).2
def E7(a b:AJ):Int:=(Fp a b).1
def E2(a b:AJ):List Int:=(Fp a b).2
end Go.Sp
namespace Go.Pe
open Sp
open Go.Det
abbrev A0:Sh:=.pair (.int .i64)<|.nlist<|.int .u64
abbrev u64:Sh:=.int .u64
abbrev Dj:Sh:=.list<|.int .u64
abbrev wU:Sh:=.nlist<|.int .u64
def YL:Am:=⟨[u64,u64,u64],fun i=>Sp.u64 i.1&&Sp.u64 i.2.1&&decide (0<=(i.2.2:Int))&&decide ((i.2.2:Int)<=1),[u64,u64],fun i=>(Iv i.1 i.2.1 i.2.2,QS i.1 i.2.1 i.2.2),false⟩
def Xy:Am:=⟨[u64,u64,u64],fun i=>Sp.u64 i.1&&Sp.u64 i.2.1&&decide (0<=(i.2.2:Int))&&decide ((i.2.2:Int)<=1),[u64,u64],fun i=>(U6 i.1 i.2.1 i.2.2,Rh i.1 i.2.1 i.2.2),false⟩
def UP:Am:=⟨[u64,u64],fun i=>Sp.u64 i.1&&Sp.u64 i.2,[u64,u64],fun i=>(RZ i.1 i.2,IC i.1 i.2),false⟩
def YE:Am:=⟨[i64],fun n=>Cv n,[u64],fun n=>Ah n,false⟩
def P6:Am:=⟨[A0],fun a=>Sp.Da a,[.bool,Dj],fun a=>(decide (Sp.vI a<0),Bs<|Ah<|Sp.vI a),false⟩
def qO:Am:=⟨[.bool,Dj],fun i=>Cj i.2,[A0],fun i=>(CP<|Sp.sg i.1<|As i.2,CO<|Sp.sg i.1<|As i.2),false⟩
def YK:Am:=⟨[Dj],fun l=>CT l,[Dj],fun l=>AB l,false⟩
def aX:Am:=⟨[Dj,Dj],fun i=>Cj i.1&&Cj i.2,[i64],fun i=>Cp (As i.1)<|As i.2,false⟩
def nZ:Am:=⟨[Dj,Dj],fun i=>Sp.hW i.1&&Sp.hW i.2,[Dj],fun i=>Bs<|As i.1+As i.2,false⟩
def lS:Am:=⟨[Dj,Dj],fun i=>CT i.1&&CT i.2&&decide (As i.2<=As i.1),[Dj],fun i=>Bs<|As i.1-As i.2,false⟩
def tC:Am:=⟨[Dj,Dj],fun i=>Sp.hW i.1&&Sp.hW i.2,[Dj],fun i=>Bs<|As i.1*As i.2,false⟩
def nA[Srt]:AO:=X7 []
def LL[Srt]:AO:=X7 [(167,YE),(202,YL),(204,Xy),(203,YK),(166,UP)]
def XI2[Srt]:AO:=X7 [(161,P6),(162,qO),(163,nZ),(165,lS),(164,aX),(168,tC),(166,UP),(167,YE)]
theorem Sk{F:Fz}{x y c:Int}{args:List V}(h:KN F (Ag [Pe.u64,Pe.u64,Pe.u64] (x,y,c)) args):args=[.int .u64 x,.int .u64 y,.int .u64 c]:=by
 have:=h (fun _=>none) 0;simp only[Ag,B1,BE]at this;obtain⟨a,i,rfl,e,b,j,rfl,g,d,k,rfl,f,rfl⟩:=this;simp only[PR,DC,ye,ve]at e g f;rw[e,g,f]
theorem A3{n:Int}(h:Sp.u64 n=true):0<=n/\n<18446744073709551616:=by
 unfold Sp.u64 at h;rw[ze,w5,w5]at h;exact h
namespace T202
theorem ok[Srt]:Af A5 202 YL:=by
 refine .inr ⟨PK.add64.run,by kernel_rfl,fun F h args i j hp=>?_⟩;obtain⟨x,y,c⟩:=i;have hp:(Sp.u64 x&&Sp.u64 y&&decide (0<=c)&&decide (c<=1))=true:=hp;rw[ze,ze,ze,w5,w5]at hp;obtain⟨⟨⟨f,e⟩,c0⟩,g⟩:=hp;have f:=A3 f;have e:=A3 e;have:=Sk j;subst this;obtain⟨a,rfl⟩:=zj f.1;obtain⟨b,rfl⟩:=zj e.1;obtain⟨d,rfl⟩:=zj c0;have g:(d:Int)<=1:=g;have k:Nat.ble d 1=true:=Nat.ble_eq_true_of_le ae;refine⟨.tup [.int .u64<|.ofNat<|(a+b+d) % kH,.int .u64<|.ofNat<|(a+b+d)/kH],?_,fun ρ N=>?_⟩
 ·show(bif Nat.ble d 1 then _ else _)=_;rw[k];rfl
 ·show PR F ρ N (.tup [.dat Pe.u64<|Iv a b d,.dat Pe.u64<|QS a b d]) _;simp only[PR,BE];refine⟨_,rfl,_,_,rfl,?_,_,_,rfl,?_,rfl⟩<;>simp[DC,kH,Iv,QS]
end T202
namespace T204
theorem ok[Srt]:Af A5 204 Xy:=by
 refine .inr ⟨PK.sub64.run,by kernel_rfl,fun F h args i l hp=>?_⟩;obtain⟨x,y,c⟩:=i;have hp:(Sp.u64 x&&Sp.u64 y&&decide (0<=c)&&decide (c<=1))=true:=hp;rw[ze,ze,ze,w5,w5]at hp;obtain⟨⟨⟨j,g⟩,c0⟩,k⟩:=hp;have j:=A3 j;have g:=A3 g;have:=Sk l;subst this;obtain⟨a,rfl⟩:=zj j.1;obtain⟨b,rfl⟩:=zj g.1;obtain⟨d,rfl⟩:=zj c0;have k:(d:Int)<=1:=k;have m:Nat.ble d 1=true:=Nat.ble_eq_true_of_le ae;refine⟨.tup [.int .u64<|.ofNat<|(a+kH-b-d) % kH,.int .u64<|.ofNat<|bif Nat.blt a (b+d)then 1 else 0],?_,fun ρ N=>?_⟩
 ·show(bif Nat.ble d 1 then _ else _)=_;rw[m];rfl
 ·show PR F ρ N (.tup [.dat Pe.u64<|U6 a b d,.dat Pe.u64<|Rh a b d]) _;simp only[PR,BE];refine⟨_,rfl,_,_,rfl,?_,_,_,rfl,?_,rfl⟩
  ·simp only[DC,kH,U6,ye,V.int.injEq,ve,true_and];have e:(((a+18446744073709551616-b-d) % 18446744073709551616:Nat):Int)=((a:Int)-b-d) % 18446744073709551616:=ae
   exact e
  ·simp only[DC,Rh,ye,V.int.injEq,ve,true_and];rw[Hu];by_cases f:a<b+d
   ·rw[wd ae];simp[f]
   ·rw[wc ae];simp[f]
end T204
end Go.Pe
namespace Go.Sp
theorem AH(b:Int):∀(l:List Int) (i:Nat),val b (l.take<|i+1)=val b (l.take i)+b^i*l.getD i 0
 |[],i=>by simp[val]
 |x::l,0=>by
  show x+b*val b (l.take 0)=0+b^0*x;simp[val]
 |x::l,i+1=>by
  have:=AH b l i;show x+b*val b (l.take<|i+1)=x+b*val b (l.take i)+b^(i+1)*l.getD i 0;rw[this,zx,Int.pow_succ,Int.mul_comm (b^i) b,yk,yp]
theorem Jq{l:List Int}(h:CT l=true):l.length<=20000/\Az Ao l:=by
 unfold CT at h;rw[ze,w5,List.all_eq_true]at h;exact⟨h.1,fun d a=>by
  have:=h.2 d a;rw[ze,w5,w5]at this;exact this⟩
theorem Eh{l:List Int}(b:l.length<=20000)(c:Az Ao l):CT l=true:=by
 unfold CT;rw[ze,w5,List.all_eq_true];exact⟨b,fun d a=>by
  have:=c d a;rw[ze,w5,w5];exact this⟩
theorem aA{l:List Int}(h:hW l=true):l.length<=9000/\Az Ao l:=by
 unfold hW at h;rw[ze,w5]at h;exact⟨h.2,(Jq h.1).2⟩
theorem AW{l:List Int}(h:Az Ao l)(i:Nat):u64 (l.getD i 0)=true:=by
 unfold u64;rw[ze,w5,w5];rcases yq i l.length with a|a
 ·have:l.getD i 0∈l:=by rw[zg,zm a];exact List.getElem_mem a
  exact h _ this
 ·rw[zg,yc a];exact⟨by decide,by decide⟩
theorem A3{n:Int}(h:u64 n=true):0<=n/\n<18446744073709551616:=by
 unfold u64 at h;rw[ze,w5,w5]at h;exact h
theorem CM{n:Int}(b:0<=n)(a:n<18446744073709551616):u64 n=true:=by
 unfold u64;rw[ze,w5,w5];exact⟨b,a⟩
theorem D0{l:List Int}{x:Int}(h:Az Ao l)(b:u64 x=true):Az Ao (l++[x]):=by
 intro d a;rw[List.mem_append,zn]at a;rcases a with a|rfl
 ·exact h d a
 ·exact A3 b
theorem K9{x y c:Int}(b:u64 x=true)(a:u64 y=true)(d:0<=c/\c<=1):u64 (Iv x y c)=true/\(0<=QS x y c/\QS x y c<=1)/\Iv x y c+18446744073709551616*QS x y c=x+y+c:=by
 have:=A3 b;have:=A3 a;unfold Iv QS;exact⟨CM ae ae,⟨by omega,by omega⟩,by omega⟩
theorem HC{x y c:Int}(b:u64 x=true)(a:u64 y=true)(d:0<=c/\c<=1):u64 (U6 x y c)=true/\(0<=Rh x y c/\Rh x y c<=1)/\U6 x y c-18446744073709551616*Rh x y c=x-y-c:=by
 have:=A3 b;have:=A3 a;unfold U6 Rh;refine⟨CM ae ae,?_,?_⟩<;>split<;>omega
theorem Fk(l:List Int)(x:Int):val Ao (l++[x])=val Ao l+(Ao:Int)^l.length*x:=by
 rw[C3];simp[val]
theorem LM(i:Nat)(c:Int):(Ao:Int)^(i+1)*c=(Ao:Int)^i*(18446744073709551616*c):=by
 rw[Int.pow_succ,yk];rfl
theorem JF(p:List Int)(n i:Nat)(x:Int)(h:p.length=i)(a:i<n):(p++zf (n-i) (0:Int)).set i x=(p++[x])++zf (n-(i+1)) 0:=by
 have:n-i=(n-(i+1))+1:=ae
 rw[this,List.replicate_succ,Pe.Dn p _ 0 x h,yj];rfl
theorem LK{l:List Int}(h:Az Ao l):AB l=Bs (As l):=cH af h
end Go.Sp
namespace Go.Pe
open Sp
open Go.Det
section
open List Int Prod
namespace T167
def T[Srt](n:Int):Tr:=tree nA false 9 167<|Ag ([zi z6]) n
theorem Ak[Srt](n:Int):T n=.di (n<0) (.leaf (.dat (zi zd)<|zc .u64<|zc .i64<|0-n) []) (.leaf (.dat (zi zd)<|zc .u64 n) []):=by kernel_rfl
end T167
namespace T161
def T[Srt](a:AJ):Tr:=tree LL false 9 161<|Ag ([A0]) a
theorem Ak[Srt](a:AJ):T a=.di (0<length (snd a)) (.leaf (.tup [.dat Sh.bool<|decide (fst a<0),.dat wU<|snd a]) []) (.ite (fst a==0) (.leaf (.tup [.bl false,.nil]) [])<|.ck (Cv<|fst a)<|.leaf (.tup [.dat Sh.bool<|decide (fst a<0),.sl (ym 0 1) 1 0 1 none])<|[(ym 0 1,.arr false 185 (zi zd) [Ah<|fst a]),(0,.box [.dat i64<|fst a,.dat wU<|snd a])]):=by kernel_rfl
end T161
namespace T162
def T[Srt](neg:Bool)(w:List Int):Tr:=tree LL false 9 162<|Ag ([Sh.bool,zl<|zi zd]) (neg,w)
theorem Ak[Srt](neg:Bool)(w:List Int):T neg w=let d:=decide (getD w 0 0<=9223372036854775807);let a:=(length w:Int);let e:=zl<|zi zd;let b':Tr:=.ite neg (.leaf (z8 [.dat i64 (-1:Int),.dat e w]) [])<|.leaf (z8 [.dat i64 (1:Int),.dat e w]) [];let b:=decide (0<a);let c:Tr:=.ite (a==1) (.ck b<|.ite d (.ck b<|.leaf (z8 [.dat i64<|zc .i64<|getD w 0 0,.nil]) []) b') b';.ite (a==0) (.leaf (z8 [.dat i64 (0:Int),.nil]) []) (.ite (a==1) (.ck b<|.ite d (.ite neg (.ck b<|.leaf (z8 [.dat i64<|zc .i64<|0-zc .i64 (getD w 0 0),.nil]) []) c) c) c):=by kernel_rfl
end T162
namespace T203
def T[Srt](w:List Int):Tr:=tree nA false 9 203<|Ag ([zl<|zi zd]) w
def L1[Srt](v0:List Int)(v3:Int):Tr:=re ((T []))<|Ay 21 [(0,.dat (zl<|zi zd) v0),(3,.dat i64 v3)] [] 0
theorem Ak[Srt](w:List Int):T w=L1 w ((length w:Int)):=by kernel_rfl
theorem Al[Srt](v0:List Int)(v3:Int):stepT nA (L1 v0 v3)=let a:Tr:=.ck (decide (0<=v3)&&decide (0<=toNat v3)&&decide (toNat v3<=length v0))<|.leaf (.dat (zl<|zi zd)<|take (toNat v3) v0) [];let b':=zc .i64<|v3-1;.di (v3>0) (.ck (decide (0<=zc .i64 (v3-1))&&decide (zc .i64 (v3-1)<(length v0:Int)))<|.ite (getD v0 (toNat b') 0==0) (L1 v0 b') a) a:=by kernel_rfl
end T203
namespace T164
def T[Srt](a b:List Int):Tr:=tree nA false 9 164<|Ag ([zl<|zi zd,zl<|zi zd]) (a,b)
def L1[Srt](v0 v1:List Int)(v5:Int):Tr:=re ((T [] []).R)<|Ay 41 [(0,.dat (zl<|zi zd) v0),(1,.dat (zl<|zi zd) v1),(5,.dat i64 v5)] [] 0
theorem Ak[Srt](a b:List Int):T a b=let c:=(length a:Int);.ite (c !=(length b:Int)) (.di (c<(length b:Int)) (.leaf (.dat i64 (-1:Int)) [])<|.leaf (.dat i64 (1:Int)) []) (L1 a b<|zc .i64<|c-1):=by kernel_rfl
theorem Al[Srt](v0 v1:List Int)(v5:Int):stepT nA (L1 v0 v1 v5)=let a:=decide (0<=v5)&&decide (v5<(length v0:Int));let b':=decide (0<=v5)&&decide (v5<(length v1:Int));.di (v5>=0) (.ck a<|.ck b'<|.ite (getD v0 (toNat v5) 0 !=getD v1 (toNat v5) 0) (.ck a<|.ck b'<|.di (getD v0 (toNat v5) 0<getD v1 (toNat v5) 0) (.leaf (.dat i64 (-1:Int)) [])<|.leaf (.dat i64 (1:Int)) [])<|L1 v0 v1<|zc .i64<|v5-1) (.leaf (.dat i64 (0:Int)) []):=by kernel_rfl
end T164
namespace T163
def T[Srt](x y:List Int):Tr:=tree LL false 9 163<|Ag ([zl<|zi zd,zl<|zi zd]) (x,y)
def L1[Srt](v0 v1:List Int)(a:Nat)(e b c:Int)(d:List Int):Tr:=re ((T [] []).L.L)<|Ay 54 [(0,.dat (zl<|zi zd) v0),(1,.dat (zl<|zi zd) v1),(5,.sl 0 1 0 a none),(6,.dat (zi zd) e),(21,.dat i64 b),(22,.dat i64 c)] [(0,.arr false 185 (zi zd) d)] 1
theorem Ak[Srt](x y:List Int):T x y=let a:=(length x:Int);let b':=(length y:Int);let c:=zc .i64<|b'+1;let b:=zc .i64<|a+1;.di (a<b') (.ck (decide (0<=zc .i64 (b'+1))&&decide (zc .i64 (b'+1)=zc .i64 (b'+1))&&decide (8*toNat c<=281474976710656)&&decide (zc .i64 (b'+1)<9223372036854775808))<|L1 y x (toNat c) 0 b' 0<|replicate (toNat c) 0) (.ck (decide (0<=zc .i64 (a+1))&&decide (zc .i64 (a+1)=zc .i64 (a+1))&&decide (8*toNat b<=281474976710656)&&decide (zc .i64 (a+1)<9223372036854775808))<|L1 x y (toNat b) 0 a 0<|replicate (toNat b) 0):=by kernel_rfl
theorem Al[Srt](v0 v1:List Int)(b:Nat)(d c a:Int)(f:List Int):stepT LL (L1 v0 v1 b d c a f)=let e:=getD v0 (toNat a) 0;let b':=(length v0:Int);let i:=getD v1 (toNat a) 0;let n:=decide (0<=a)&&decide (a<(↑b:Int));let l:=decide ((0:Sh.T (BA [u64]))<=d);let k:=decide (d<=(1:Sh.T (BA [u64])));let o:=decide (toNat a<length f);let m:=decide (a<(length v1:Int));let j:=zc .i64<|a+1;let g:=set f (toNat b') d;let h':=decide (0<=a)&&decide (a<b');.di (a<c) (.ite m (.ck (decide (0<=a)&&m)<|.ck h'<|.ck (Sp.u64 e&&Sp.u64 i&&l&&k)<|.ck n<|.ck o<|L1 v0 v1 b (QS e i d) c j<|set f (toNat a)<|Iv e i d)<|.ck h'<|.ck (Sp.u64 e&&Sp.u64 0&&l&&k)<|.ck n<|.ck o<|L1 v0 v1 b (QS e 0 d) c j<|set f (toNat a)<|Iv e 0 d) (.ck (decide (0<=b')&&decide (b'<(↑b:Int)))<|.cd (toNat b'<length f)<|.ck (decide (0+b<=length g)&&true&&CT (take b g))<|.leaf (.dat (zl<|zi zd)<|AB<|take b g) []):=by kernel_rfl
end T163
namespace T165
def T[Srt](x y:List Int):Tr:=tree LL false 9 165<|Ag ([zl<|zi zd,zl<|zi zd]) (x,y)
def L1[Srt](v0 v1:List Int)(c:Nat)(d b a:Int)(e:List Int):Tr:=re ((T [] []).L)<|Ay 41 [(0,.dat (zl<|zi zd) v0),(1,.dat (zl<|zi zd) v1),(5,.sl 0 1 0 c none),(6,.dat (zi zd) d),(13,.dat i64 b),(14,.dat i64 a)] [(0,.arr false 185 (zi zd) e)] 1
theorem Ak[Srt](x y:List Int):T x y=let a:=(length x:Int);.ck (decide (0<=a)&&decide (a=a)&&decide (8*toNat a<=281474976710656)&&decide (a<9223372036854775808)) (L1 x y (toNat a) 0 a 0<|replicate (toNat a) 0):=by kernel_rfl
theorem Al[Srt](v0 v1:List Int)(b:Nat)(d c a:Int)(e:List Int):stepT LL (L1 v0 v1 b d c a e)=let f:=getD v0 (toNat a) 0;let b':=decide (0<=a)&&decide (a<(length v0:Int));let g:=getD v1 (toNat a) 0;let i:=decide (0<=a)&&decide (a<(↑b:Int));let j:=decide ((0:Sh.T (BA [u64]))<=d);let k:=decide (d<=(1:Sh.T (BA [u64])));let l:=decide (toNat a<length e);let h':=decide (a<(length v1:Int));let m:=zc .i64<|a+1;.di (a<c) (.ite h' (.ck (decide (0<=a)&&h')<|.ck b'<|.ck (Sp.u64 f&&Sp.u64 g&&j&&k)<|.ck i<|.ck l<|L1 v0 v1 b (Rh f g d) c m<|set e (toNat a)<|U6 f g d)<|.ck b'<|.ck (Sp.u64 f&&Sp.u64 0&&j&&k)<|.ck i<|.ck l<|L1 v0 v1 b (Rh f 0 d) c m<|set e (toNat a)<|U6 f 0 d) (.ck (decide (0+b<=length e)&&true&&CT (take b e))<|.leaf (.dat (zl<|zi zd)<|AB<|take b e) []):=by kernel_rfl
end T165
namespace T166
def T[Srt](x y:Int):Tr:=tree nA false 9 166<|Ag ([zi zd,zi zd]) (x,y)
theorem Ak[Srt](x y:Int):T x y=let a:=zc .u64<|zc .u64 (zp x (2^32)*H3 zd y 4294967295)+zp (zc .u64<|H3 zd x 4294967295*H3 zd y 4294967295) (2^32);.ck true (.ck true<|.ck true<|.ck true<|.ck true<|.leaf (.tup [.dat (zi zd)<|zc .u64<|zc .u64 (zc .u64 (zp x (2^32)*zp y (2^32))+zp a (2^32))+zp (zc .u64<|H3 zd a 4294967295+zc .u64 (H3 zd x 4294967295*zp y (2^32))) (2^32),.dat (zi zd)<|zc .u64<|x*y]) []):=by kernel_rfl
end T166
namespace T168
def T[Srt](x y:List Int):Tr:=tree LL false 9 168<|Ag ([zl<|zi zd,zl<|zi zd]) (x,y)
def L1[Srt](v1:List Int)(a:Nat)(v20:List Int)(b c:Int)(d:List Int):Tr:=re ((T [] []).L)<|Ay 80 [(1,.dat (zl<|zi zd) v1),(5,.sl 0 1 0 a none),(20,.dat (zl<|zi zd) v20),(21,.dat i64 b),(22,.dat i64 c)] [(0,.arr false 185 (zi zd) d)] 1
theorem Ak[Srt](x y:List Int):T x y=let a:=(length x:Int)+(length y:Int);let b':=zc .i64 a;.ck (decide (0<=zc .i64 a)&&decide (zc .i64 a=zc .i64 a)&&decide (8*toNat b'<=281474976710656)&&decide (zc .i64 a<9223372036854775808)) (L1 y (toNat b') x ((length x:Int)) 0<|replicate (toNat b') 0):=by kernel_rfl
def L2[Srt](v1:List Int)(d:Nat)(j i g:Int)(v20:List Int)(f b:Int)(e:List Int)(a c:Int)(k:List Int):Tr:=re ((stepT LL<|L1 [] 0 [] 0 0 []).L.L)<|Ay 80 [(1,.dat (zl<|zi zd) v1),(5,.sl 0 1 0 d none),(6,.dat i64 j),(7,.dat (zi zd) i),(8,.dat (zi zd) g),(20,.dat (zl<|zi zd) v20),(21,.dat i64 f),(22,.dat i64 b),(27,.dat (zl<|zi zd) e),(28,.dat i64 a),(29,.dat i64 c)] [(0,.arr false 185 (zi zd) k)] 1
theorem Al[Srt](v1:List Int)(b:Nat)(v20:List Int)(c a:Int)(d:List Int):stepT LL (L1 v1 b v20 c a d)=.di (a<c) (.ck (decide (0<=a)&&decide (a<(length v20:Int)))<|L2 v1 b a (getD v20 (toNat a) 0) 0 v20 c a v1 ((length v1:Int)) 0 d) (.ck (decide (0+b<=length d)&&true&&CT (take b d))<|.leaf (.dat (zl<|zi zd)<|AB<|take b d) []):=by kernel_rfl
theorem AL[Srt](v1:List Int)(b:Nat)(g k j:Int)(v20:List Int)(e d:Int)(c:List Int)(f a:Int)(i:List Int):stepT LL (L2 v1 b g k j v20 e d c f a i)=let b':=zc .i64<|g+a;let p:=getD c (toNat a) 0;let r:=decide (0<=zc .i64 (g+a))&&decide (zc .i64 (g+a)<(↑b:Int));let l:=g+(length v1:Int);let q:=decide ((0:Sh.T (BA [u64]))<=0);let h':=decide (0<=(1:Sh.T (BA [u64])));let n:=getD i (toNat b') 0;let s:=decide (toNat b'<length i);let o:=IC k p;let m:=Iv o n 0;.di (a<f) (.ck (decide (0<=a)&&decide (a<(length c:Int)))<|.ck (Sp.u64 k&&Sp.u64 p)<|.ck r<|.ck s<|.ck (Sp.u64 o&&Sp.u64 n&&q&&h')<|.ck (Sp.u64 m&&Sp.u64 j&&q&&h')<|.ck r<|.ck s<|L2 v1 b g k (zc .u64<|zc .u64 (RZ k p+QS o n 0)+QS m j 0) v20 e d c f (zc .i64<|a+1)<|set i (toNat b')<|Iv m j 0) (.ck (decide (0<=zc .i64 l)&&decide (zc .i64 l<(↑b:Int)))<|.cd (toNat (zc .i64 l)<length i)<|L1 v1 b v20 e (zc .i64<|d+1)<|set i (toNat<|zc .i64 l) j):=by kernel_rfl
end T168
end
theorem JP[Srt]:CL nA:=fun g sp h=>by cases h
theorem wu(x:Int)(b:0<=x)(a:x<=18446744073709551615):zc .u64 x=x:=IntWalk.u64_in x ⟨b,a⟩
theorem ET{n:Int}(h:Cv n=true): -9223372036854775808<=n/\n<9223372036854775808:=by
 unfold Cv at h;rw[ze,w5,w5]at h;exact h
namespace T167
theorem ok[Srt]:Af A5 167 YE:=by
 refine BG JP<|fun(n:Int) a=>?_;have a:=ET (n:=n) a;refine Ends.eq (Ak n)<|Ends.ite (fun c=>?_)<|fun c=>?_
 ·have c:=w6 c;refine Ends.leaf<|Ad.of rfl rfl ?_;show zc .u64 (zc .i64<|0-n)=Ah n;simp only[Aj];rcases yr (-9223372036854775808) n with h|h
  ·rw[wr _ ae ae,wu _ ae ae];omega
  ·have:n= -9223372036854775808:=ae
   subst this;decide+kernel
 ·have c:=w7 c;refine Ends.leaf<|Ad.of rfl rfl ?_;show zc .u64 n=Ah n;simp only[Aj];rw[wu _ ae ae];omega
end T167
namespace T203
theorem Ar[Srt]{Q:PV->Ob->Prop}(w:List Int)(f:w.length<=20000)(b:∀ob,Q (.dat Dj<|AB w) ob):∀(i:Nat),i<=w.length->AB w=AB (w.take i)->Ends nA (L1 w i) Q
 |0,g,a=>by
  have a:AB w=[]:=a;rw[a]at b;refine Ends.An (Al ..) (Ends.ff (by simp)<|Ends.tt (by simp)<|Ends.leaf<|b _)
 |i+1,g,a=>by
  have e:zc .i64 (((i+1:Nat):Int)-1)=(i:Int):=by rw[wr _ ae ae];omega
  have d:w.take (i+1)=w.take i++[w.getD i 0]:=by
   rw[List.take_add_one];congr 1;rw[zg,zm ae];rfl
  refine Ends.An (Al ..) (Ends.tt (by simp<;>omega) ?_);rw[e,zh];refine Ends.tt (by simp<;>omega)<|Ends.ite (fun c=>?_)<|fun c=>?_
  ·have c:w.getD i 0=0:=by simpa using c
   refine Ar w f b i ae ?_;rw[a,d,c,IX]
  ·have c:w.getD i 0≠0:=by simpa using c
   refine Ends.tt (by simp;omega)<|Ends.leaf ?_;have:AB w=w.take (i+1):=by rw[a,d,Jh<|Zx c]
   rw[this]at b;exact b _
theorem ok[Srt]:Af A5 203 YK:=by
 refine BG JP<|fun(w:List Int) hw=>?_;obtain⟨a,b⟩:=Jq (l:=w) hw;refine Ends.eq (Ak w) (Ar w a (fun ob=>Ad.of rfl rfl rfl) w.length (zw _)<|by rw[z7])
end T203
theorem EY{l:List Int}(h:Cj l=true):l.length<=20000/\Az Ao l/\Sp.nz l:=by
 unfold Cj at h;rw[ze]at h;have:=Jq h.1;exact⟨this.1,this.2,by
  have:=h.2;unfold Sp.nzW at this;have:l.getLast?≠some 0:=w6 this;exact this⟩
namespace T164
theorem Ar[Srt]{Q:PV->Ob->Prop}(a b:List Int)(j:Az Ao a)(k:Az Ao b)(m:a.length=b.length)(n:b.length<=20000)(f:∀ob,Q (.dat i64<|Cp (As a)<|As b) ob):∀(i:Nat),i<=a.length->a.drop i=b.drop i->Ends nA (L1 a b<|(i:Int)-1) Q
 |0,p,g=>by
  have g:a=b:=g;have:Cp (As a) (As b)=0:=by rw[g];unfold Cp;simp
  rw[this]at f;exact Ends.An (Al ..) (Ends.ff (by simp)<|Ends.leaf<|f _)
 |i+1,p,g=>by
  have o:(((i+1:Nat):Int)-1)=(i:Int):=ae
  have l:a.drop i=a.getD i 0::a.drop (i+1):=by
   rw[zg,zm ae];exact zq ae
  have db:b.drop i=b.getD i 0::a.drop (i+1):=by
   rw[g,zg,zm ae];exact zq ae
  have r:=Sp.A3<|AW j i;have q:=Sp.A3<|AW k i;rw[o];refine Ends.An (Al ..) (Ends.tt (by simp) ?_);rw[zh];refine Ends.tt (by simp;omega) (Ends.tt (by simp;omega) (Ends.ite (fun c=>Ends.tt (by simp;omega)<|Ends.tt (by simp;omega)<|Ends.ite (fun d=>?_)<|fun d=>?_)<|fun c=>?_))
  ·have d:=w6 d;have:=JL (b:=Ao) af j k l db d;have e:Cp (As a) (As b)= -1:=by unfold Cp;exact wd this
   rw[e]at f;exact Ends.leaf<|f _
  ·have d:=w7 d;have c:a.getD i 0≠b.getD i 0:=by simpa using c
   have:=JL (b:=Ao) af k j db l ae;have e:Cp (As a) (As b)=1:=by
    unfold Cp As;rw[wc ae,wd ae]
   rw[e]at f;exact Ends.leaf<|f _
  ·have c:a.getD i 0=b.getD i 0:=by simpa using c
   rw[wr ((i:Int)-1) ae ae];exact Ar a b j k m n f i ae (by rw[l,db,c])
theorem ok[Srt]:Af A5 164 aX:=by
 refine BG JP<|fun(i:List Int×List Int) g=>?_;obtain⟨a,b⟩:=i;have g:(Cj a&&Cj b)=true:=g;rw[ze]at g;obtain⟨a1,a2,a3⟩:=EY g.1;obtain⟨b1,b2,b3⟩:=EY g.2;have f:∀ob,Ad aX (a,b) (.dat i64<|Cp (As a)<|As b) ob:=fun ob=>Ad.of rfl rfl rfl
 refine Ends.eq (Ak a b)<|Ends.ite (fun c=>Ends.ite (fun d=>?_)<|fun d=>?_)<|fun c=>?_
 ·have d:=w6 d;have e:Cp (As a) (As b)= -1:=by unfold Cp;exact wd (EJ af a2 b2 b3 ae)
  rw[e]at f;exact Ends.leaf<|f _
 ·have d:=w7 d;have c:(a.length:Int)≠b.length:=by simpa using c
  have:=EJ (b:=Ao) af b2 a2 a3 ae;have e:Cp (As a) (As b)=1:=by
   unfold Cp As;rw[wc ae,wd ae]
  rw[e]at f;exact Ends.leaf<|f _
 ·have c:(a.length:Int)=b.length:=by simpa using c
  rw[wr _ ae ae];exact Ar a b a2 b2 ae b1 f a.length (zw _) (by rw[List.drop_length,show a.length=b.length by omega,List.drop_length])
end T164
theorem DW{a:AJ}(h:Sp.Da a=true):(-9223372036854775808<=a.1/\a.1<9223372036854775808)/\(a.2=[]\/(Cj a.2=true/\(a.1=1\/a.1= -1)/\9223372036854775808<=As a.2)):=by
 unfold Sp.Da at h;rw[ze,Bool.or_eq_true,ze,ze,Bool.or_eq_true,w5,w5,w5,w5]at h;exact⟨ET h.1,h.2.imp id fun h=>⟨h.1.1,h.1.2,h.2⟩⟩
theorem val_one(d:Int):zo Ao [d]=d:=by simp[zo]
theorem AdW{d:Int}(e:0<d)(c:d<18446744073709551616):[d]=Bs d:=by
 have:=Jt (b:=Ao) (l:=[d]) af (fun x a=>by rw[zn]at a;subst a;exact⟨by omega,c⟩) (by unfold Sp.nz;simp;omega);rw[val_one]at this;exact this
theorem Fm{s:Int}:Sp.vI (s,[])=s:=by unfold Sp.vI;exact wd rfl
namespace T161
theorem ok[Srt](e:∀g sp,LL.sp g=some sp->Af A5 g sp):Af A5 161 P6:=by
 refine Ir (X:=LL) rfl e (d:=9) ag ag ag (fun(a:Int×List Int) ha=>?_) (Bd ag);obtain⟨hr,j⟩:=DW (a:=a) ha;obtain⟨s,w⟩:=a;have hr: -9223372036854775808<=s/\s<9223372036854775808:=hr;refine Ends.eq (Ak (s,w))<|Ends.ite (fun c=>?_)<|fun c=>Ends.ite (fun d=>?_)<|fun d=>Ends.tt ?_ ?_
 ·have c:0<w.length:=w6 c;have f:w≠[]:=by rintro rfl;simp at c
  rcases j with j|⟨m,i,k⟩
  ·exact wh j f
  ·obtain⟨n1,l,q⟩:=EY m;have i:s=1\/s= -1:=i;have k:9223372036854775808<=As w:=k;have ev:Sp.vI (s,w)=if s<0 then -As w else As w:=by unfold Sp.vI;exact wc f
   have o:Ah (Sp.vI (s,w))=As w:=by rw[ev];simp only[Aj];split<;>omega
   have n:decide (Sp.vI (s,w)<0)=decide (s<0):=by
    rw[ev];rcases i with rfl|rfl<;>simp<;>omega
   refine Ends.leaf<|Ad.of rfl rfl ?_;show(decide (s<0),w)=(decide (Sp.vI (s,w)<0),Bs<|Ah<|Sp.vI (s,w));rw[o,n,show w=Bs (As w)from Jt af l q];congr 2;exact(C2 (b:=Ao) af<|AE (b:=Ao) af l).symm
 all_goals
  have c:¬0<w.length:=w7 c;have p:w=[]:=List.length_eq_zero_iff.1 ae;subst p
 ·have d:s=0:=by simpa using d
  subst d;exact Ends.leaf<|Ad.of rfl rfl rfl
 ·show Cv s=true;unfold Cv;rw[ze,w5,w5];exact hr
 ·have d:s≠0:=by simpa using d
  refine Ends.leaf<|Ad.of rfl rfl ?_;show(decide (s<0),[Ah s])=(decide (Sp.vI (s,[])<0),Bs<|Ah<|Sp.vI (s,[]));rw[Fm,AdW (d:=Ah s) (by simp only[Aj];omega)<|by simp only[Aj];omega]
end T161
theorem Cn{n:Int}(h: -9223372036854775808<n/\n<9223372036854775808):CR n=(n,[]):=wd h
theorem TA{w:List Int}(neg:Bool)(a:Az Ao w)(b:Sp.nz w)(c:9223372036854775808<=As w):CR (if neg=true then -As w else As w)=(if neg=true then -1 else 1,w):=by
 have e:Bs (As w)=w:=(Jt af a b).symm;cases neg with
 |true=>
  simp only[wm];unfold CR;rw[wc ae,wd ae];rw[show Ah (-As w)=As w by simp only[Aj];omega,e]
 |false=>
  show CR (As w)=(1,w);unfold CR;rw[wc ae,wc ae];rw[show Ah (As w)=As w by simp only[Aj];omega,e]
namespace T162
theorem ok[Srt](a:∀g sp,LL.sp g=some sp->Af A5 g sp):Af A5 162 qO:=by
 refine Ir (X:=LL) rfl a (d:=9) ag ag ag (fun(i:Bool×List Int) hi=>?_) (Bd ag);obtain⟨neg,w⟩:=i;obtain⟨n1,n2,n3⟩:=EY (l:=w) hi;refine Ends.eq (Ak neg w) ?_;conv=>zeta
 cases w with
 |nil=>
  refine Ends.tt rfl (Ends.leaf<|Ad.of rfl rfl ?_);show _=CR (if neg=true then -0 else 0);rw[show(if neg=true then(-0:Int)else 0)=0 by split<;>rfl,Cn ae]
 |cons d t=>
  cases t with
  |nil=>
   have j:=n2 d (by simp);have u:d≠0:=by intro h;subst h;exact n3 rfl
   have r:0<=d:=j.1;have q:d<18446744073709551616:=j.2;have ev:As [d]=d:=val_one d;refine Ends.ff rfl (Ends.tt rfl (Ends.tt rfl (Ends.ite (fun c=>?_)<|fun c=>?_)))
   ·have c:d<=9223372036854775807:=w6 c;have m:zc .i64 d=d:=wr _ ae ae;have p:zc .i64 (0-d)= -d:=by rw[wr _ ae ae];omega
    refine Ends.ite (fun n=>Ends.tt rfl (Ends.leaf<|Ad.of rfl rfl ?_))<|fun n=>Ends.tt rfl (Ends.tt rfl (Ends.tt (w4 c)<|Ends.tt rfl (Ends.leaf<|Ad.of rfl rfl ?_)))
    ·show(zc .i64<|0-zc .i64 d,[])=CR (if neg=true then -As [d]else As [d]);rw[m,p,wd n,ev,Cn ae]
    ·show(zc .i64 d,[])=CR (if neg=true then -As [d]else As [d]);subst n;rw[m,wc af,ev,Cn ae]
   ·have v:¬d<=9223372036854775807:=w7 c;have f:=TA neg n2 n3 (by rw[ev];omega);refine Ends.tt rfl (Ends.tt rfl (Ends.ff c<|Ends.ite (fun n=>Ends.leaf<|Ad.of rfl rfl ?_)<|fun n=>Ends.leaf<|Ad.of rfl rfl ?_))
    ·show(-1,[d])=CR (if neg=true then -As [d]else As [d]);rw[f,wd n]
    ·show(1,[d])=CR (if neg=true then -As [d]else As [d]);rw[f,n];rfl
  |cons e t=>
   have s:9223372036854775808<=As (d::e::t):=by
    have h:=Df (b:=Ao) af n2 n3 (by simp);have k:=AT (b:=Ao) af (show 1<=(d::e::t).length-1 by simp);rw[Int.pow_one]at k;have:(9223372036854775808:Int)<=(Ao:Int):=af
    exact Int.le_trans this<|Int.le_trans k h
   have f:=TA neg n2 n3 s;have z0:(((d::e::t).length:Int)==0)=false:=by simp;omega
   have o:(((d::e::t).length:Int)==1)=false:=by simp;omega
   refine Ends.ff z0<|Ends.ff o<|Ends.ff o<|Ends.ite (fun n=>Ends.leaf<|Ad.of rfl rfl ?_)<|fun n=>Ends.leaf<|Ad.of rfl rfl ?_
   ·show(-1,d::e::t)=CR (if neg=true then -As (d::e::t)else As (d::e::t));rw[f,wd n]
   ·show(1,d::e::t)=CR (if neg=true then -As (d::e::t)else As (d::e::t));rw[f,n];rfl
end T162
namespace T163
theorem Ar[Srt](x y:List Int)(o:Az Ao x)(m:Az Ao y)(l:y.length<=x.length)(v:x.length<=9000)(r:∀ob,Q (.dat Dj<|Bs<|As x+As y) ob):∀(k i:Nat) (p:List Int) (c:Int),i+k=x.length->p.length=i->Az Ao p->(0<=c/\c<=1)->zo Ao p+(Ao:Int)^i*c=zo Ao (x.take i)+zo Ao (y.take i)->
  Ends LL (L1 x y (x.length+1) c x.length i<|p++zf (x.length+1-i) 0) Q
 |0,i,p,c,j,hp,e,a,q=>by
  have j:i=x.length:=ae
  subst j;have w:x.length+1-x.length=1:=ae
  have es:(p++zf (x.length+1-x.length) (0:Int)).set x.length c=p++[c]:=by
   rw[w];exact Pe.Dn p [] 0 c hp
  have t:(p++[c]).take (x.length+1)=p++[c]:=zk (by simp;omega);have b:Az Ao (p++[c]):=D0 e (CM a.1 ae);have A:As (p++[c])=As x+As y:=by
   unfold As;rw[Fk,hp,q,z7,zk l]
  refine Ends.An (Al ..) (Ends.ff (by simp) ?_);rw[zh,es,t];refine Ends.tt (by simp<;>omega) (Ends.tt (by simp;omega)<|Ends.tt ?_<|Ends.leaf ?_)
  ·rw[Eh (by simp;omega) b];simp;omega
  ·rw[LK b,A];exact r _
 |k+1,i,p,c,j,hp,e,a,q=>by
  have g:=AW o i;have s:=AW m i;have n:(p++zf (x.length+1-i) (0:Int)).length=x.length+1:=by simp;omega
  have step:∀z,Sp.u64 z=true->z=y.getD i 0->Ends LL (L1 x y (x.length+1) (QS (x.getD i 0) z c) x.length (zc .i64<|(i:Int)+1)<|(p++zf (x.length+1-i) 0).set i<|Iv (x.getD i 0) z c) Q:=by
   intro z f u;obtain⟨a1,a2,a3⟩:=K9 g f a;rw[wr ((i:Int)+1) ae ae,JF p (x.length+1) i _ hp ae];refine Ar x y o m l v r k (i+1) (p++[Iv (x.getD i 0) z c]) _ ae (by simp;omega) (D0 e a1) a2 ?_;rw[Fk,hp,LM,AH _ x i,AH _ y i, <-u,yp, <-zx,a3,zx,zx];omega
  refine Ends.An (Al ..) (Ends.tt (by simp;omega) ?_);rw[zh];refine Ends.ite (fun d=>?_)<|fun d=>?_
  ·have d:=w6 d;refine Ends.tt (by simp;omega) (Ends.tt (by simp;omega) (Ends.tt ?_<|Ends.tt (by simp;omega)<|Ends.tt (w4<|by rw[n];omega)<|step _ s rfl));rw[g,s,zt,zt,ze];exact⟨w4 a.1,w4 a.2⟩
  ·have d:=w7 d;have f:y.getD i 0=0:=by rw[zg,yc ae];rfl
   refine Ends.tt (by simp;omega) (Ends.tt ?_<|Ends.tt (by simp;omega) (Ends.tt (w4<|by rw[n];omega)<|step _ rfl f.symm));rw[g,show Sp.u64 0=true from rfl,zt,zt,ze];exact⟨w4 a.1,w4 a.2⟩
theorem start[Srt](x y:List Int)(e:Az Ao x)(c:Az Ao y)(a:y.length<=x.length)(d:x.length<=9000)(f:∀ob,Q (.dat Dj<|Bs<|As x+As y) ob){t:Tr}:
  Ends LL (.ite (decide ((0:Int)<=zc z6 ((x.length:Int)+(1:Int)))&&decide (zc z6 ((x.length:Int)+(1:Int))=zc z6 ((x.length:Int)+(1:Int)))&&decide ((8:Nat)*Int.toNat (zc z6<|(x.length:Int)+(1:Int))<=(281474976710656:Nat))&&decide (zc z6 ((x.length:Int)+(1:Int))<(9223372036854775808:Int)))
   (L1 x y (Int.toNat<|zc z6<|(x.length:Int)+(1:Int)) ((0:Int)) ((x.length:Int)) ((0:Int))<|zf (Int.toNat<|zc z6<|(x.length:Int)+(1:Int)) (0:Int)) t) Q:=by
 have b:zc .i64 ((x.length:Int)+1)=((x.length+1:Nat):Int):=by rw[wr _ ae ae];omega
 rw[b,zh];refine Ends.tt (by simp;omega) ?_;exact Ar x y e c a d f x.length 0 [] 0 ae rfl (fun _ h=>by cases h) ae (by simp[zo])
theorem ok[Srt](a:∀g sp,LL.sp g=some sp->Af A5 g sp):Af A5 163 nZ:=by
 refine Ir (X:=LL) rfl a (d:=9) ag ag ag (fun(i:List Int×List Int) b=>?_) (Bd ag);obtain⟨x,y⟩:=i;have b:(Sp.hW x&&Sp.hW y)=true:=b;rw[ze]at b;obtain⟨x1,x2⟩:=aA b.1;obtain⟨y1,y2⟩:=aA b.2;have e:∀ob,Ad nZ (x,y) (.dat Dj<|Bs<|As x+As y) ob:=fun ob=>Ad.of rfl rfl rfl
 refine Ends.eq (Ak x y)<|Ends.ite (fun c=>?_)<|fun c=>?_
 ·have c:=w6 c;exact start y x y2 x2 ae y1 (by rw[Int.add_comm];exact e)
 ·have c:=w7 c;exact start x y x2 y2 ae x1 e
end T163
namespace T165
theorem qH{b:Int}(e:0<b){l:List Int}{n:Nat}(h:Az b l)(g:zo b l<b^n):zo b (l.take n)=zo b l:=by
 rcases yq n l.length with a|a
 ·have c:=Ck b l n ae;have i:=AE ae<|AR h n;have f:=AE ae<|EH h n;rcases yr 0 (zo b<|l.drop n)with d|d
  ·have:=yd (show 1<=zo b (l.drop n)by omega)<|Int.le_of_lt<|Be e n;rw[Int.mul_one]at this;omega
  ·have:zo b (l.drop n)=0:=ae
   rw[this,Int.mul_zero]at c;omega
 ·rw[zk a]
theorem Ar[Srt](x y:List Int)(l:Az Ao x)(g:Az Ao y)(o:As y<=As x)(w:x.length<=20000)(r:∀ob,Q (.dat Dj<|Bs<|As x-As y) ob):∀(k i:Nat) (p:List Int) (c:Int),i+k=x.length->p.length=i->Az Ao p->(0<=c/\c<=1)->zo Ao p-(Ao:Int)^i*c=zo Ao (x.take i)-zo Ao (y.take i)->
  Ends LL (L1 x y x.length c x.length i<|p++zf (x.length-i) 0) Q
 |0,i,p,c,n,hp,f,a,b=>by
  have n:i=x.length:=ae
  subst n;have A:p++zf (x.length-x.length) (0:Int)=p:=by rw[Nat.sub_self];simp
  have t:p.take x.length=p:=zk ae;have u:As x<(Ao:Int)^x.length:=Bp af l;have D:As p<(Ao:Int)^p.length:=Bp af f;have C:As p=As x-As y:=by
   rw[z7,qH af g<|show zo Ao y<_ from Int.lt_of_le_of_lt o u]at b;have b:As p-(Ao:Int)^x.length*c=As x-As y:=b;rw[hp]at D;rcases yr 0 c with h|h
   ·have:c=1:=ae
    subst this;rw[Int.mul_one]at b;omega
   ·have:c=0:=ae
    subst this;rw[Int.mul_zero]at b;omega
  rw[A];refine Ends.An (Al ..) (Ends.ff (by simp) ?_);rw[t];refine Ends.tt ?_<|Ends.leaf ?_
  ·rw[Eh ae f];simp;omega
  ·rw[LK f,C];exact r _
 |k+1,i,p,c,n,hp,f,a,b=>by
  have m:=AW l i;have s:=AW g i;have q:(p++zf (x.length-i) (0:Int)).length=x.length:=by simp;omega
  have step:∀z,Sp.u64 z=true->z=y.getD i 0->Ends LL (L1 x y x.length (Rh (x.getD i 0) z c) x.length (zc .i64<|(i:Int)+1)<|(p++zf (x.length-i) 0).set i<|U6 (x.getD i 0) z c) Q:=by
   intro z j v;obtain⟨a1,a2,a3⟩:=Sp.HC m j a;rw[wr ((i:Int)+1) ae ae,JF p x.length i _ hp ae];refine Ar x y l g o w r k (i+1) (p++[U6 (x.getD i 0) z c]) _ ae (by simp;omega) (D0 f a1) a2 ?_;have e:(Ao:Int)^i*U6 (x.getD i 0) z c-(Ao:Int)^i*(18446744073709551616*Rh (x.getD i 0) z c)=(Ao:Int)^i*x.getD i 0-(Ao:Int)^i*z-(Ao:Int)^i*c:=by
    rw[<-Int.mul_sub,a3,Int.mul_sub,Int.mul_sub]
   rw[Fk,hp,LM,AH _ x i,AH _ y i, <-v];omega
  refine Ends.An (Al ..) (Ends.tt (by simp;omega) ?_);rw[zh];refine Ends.ite (fun d=>?_)<|fun d=>?_
  ·have d:=w6 d;refine Ends.tt (by simp;omega) (Ends.tt (by simp;omega) (Ends.tt ?_<|Ends.tt (by simp;omega)<|Ends.tt (w4<|by rw[q];omega)<|step _ s rfl));rw[m,s,zt,zt,ze];exact⟨w4 a.1,w4 a.2⟩
  ·have d:=w7 d;have j:y.getD i 0=0:=by rw[zg,yc ae];rfl
   refine Ends.tt (by simp;omega) (Ends.tt ?_<|Ends.tt (by simp;omega) (Ends.tt (w4<|by rw[q];omega)<|step _ rfl j.symm));rw[m,show Sp.u64 0=true from rfl,zt,zt,ze];exact⟨w4 a.1,w4 a.2⟩
theorem ok[Srt](b:∀g sp,LL.sp g=some sp->Af A5 g sp):Af A5 165 lS:=by
 refine Ir (X:=LL) rfl b (d:=9) ag ag ag (fun(i:List Int×List Int) a=>?_) (Bd ag);obtain⟨x,y⟩:=i;have a:(CT x&&CT y&&decide (As y<=As x))=true:=a;rw[ze,ze,w5]at a;obtain⟨x1,x2⟩:=Jq a.1.1;obtain⟨y1,y2⟩:=Jq a.1.2;have c:∀ob,Ad lS (x,y) (.dat Dj<|Bs<|As x-As y) ob:=fun ob=>Ad.of rfl rfl rfl
 refine Ends.eq (Ak x y) ?_;conv=>zeta
 rw[zh];refine Ends.tt (by simp;omega) ?_;exact Ar x y x2 y2 a.2 x1 c x.length 0 [] 0 ae rfl (fun _ h=>by cases h) ae (by simp[zo])
end T165
theorem LI(n:Int):zc .u64 n=n % 18446744073709551616:=by simp[zc,IntKind.bits,IntKind.signed]
theorem eS(n:Nat):zp (n:Int) ((2:Int)^(32:Nat))=((n/4294967296:Nat):Int):=by
 rw[Int.fdiv_eq_ediv_of_nonneg _ af];rfl
theorem tI(n:Nat)(h:n<18446744073709551616):zc .u64 (n:Int)=n:=wu _ ae ae
theorem Pm(n:Nat)(h:n<18446744073709551616):H3 .u64 (n:Int) 4294967295=((n % 4294967296:Nat):Int):=by
 have e:(yb 64 (n:Int)&&&yb 64 4294967295).toNat=n % 4294967296:=by
  rw[BitVec.toNat_and];have a:(yb 64 (n:Int)).toNat=n:=by rw[BitVec.ofInt_natCast,BitVec.toNat_ofNat];exact Nat.mod_eq_of_lt h
  have b:(yb 64 4294967295).toNat=2^32-1:=af
  rw[a,b,Nat.and_two_pow_sub_one_eq_mod]
 show zc .u64 (((yb 64 (n:Int)&&&yb 64 4294967295).toNat:Nat):Int)=_;rw[e];exact tI _ ae
namespace T166
theorem ok[Srt]:Af A5 166 UP:=by
 refine BG JP<|fun(i:Int×Int) g=>?_;obtain⟨x,y⟩:=i;have g:(Sp.u64 x&&Sp.u64 y)=true:=g;rw[ze]at g;have f:=Sp.A3 g.1;have e:=Sp.A3 g.2;obtain⟨x,rfl⟩:=zj f.1;obtain⟨y,rfl⟩:=zj e.1;have f:x<18446744073709551616:=ae
 have e:y<18446744073709551616:=ae
 obtain⟨r,l,m,k⟩:=Go.Lib.mul64_hi x y f e;have o:=yi (a:=x/4294967296) (b:=y/4294967296) ae ae;have q:=yi (a:=x/4294967296) (b:=y % 4294967296) ae ae;have p:=yi (a:=x % 4294967296) (b:=y/4294967296) ae ae;refine Ends.eq (Ak (x:Int) (y:Int))<|Ends.tt rfl (Ends.tt rfl (Ends.tt rfl (Ends.tt rfl (Ends.tt rfl (Ends.leaf<|Ad.of rfl rfl ?_)))));refine Prod.ext ?_ ?_
 ·show zc zd (zc zd (zc zd (zp (x:Int) ((2:Int)^(32:Nat))*zp (y:Int) ((2:Int)^(32:Nat)))+zp (zc zd<|zc zd (zp (x:Int) ((2:Int)^(32:Nat))*H3 zd (y:Int) (4294967295:Int))+zp (zc zd<|H3 zd (x:Int) (4294967295:Int)*H3 zd (y:Int) (4294967295:Int)) ((2:Int)^(32:Nat))) ((2:Int)^(32:Nat)))+zp (zc zd<|H3 zd (zc zd<|zc zd (zp (x:Int) ((2:Int)^(32:Nat))*H3 zd (y:Int) (4294967295:Int))+zp (zc zd<|H3 zd (x:Int) (4294967295:Int)*H3 zd (y:Int) (4294967295:Int)) ((2:Int)^(32:Nat))) (4294967295:Int)+zc zd (H3 zd (x:Int) (4294967295:Int)*zp (y:Int) ((2:Int)^(32:Nat)))) ((2:Int)^(32:Nat)))=RZ x y;have n:RZ x y=((x*y/18446744073709551616:Nat):Int):=by unfold RZ;omega
  rw[n, <-k];have j:x*y/18446744073709551616<18446744073709551616:=Nat.div_lt_of_lt_mul<|Nat.mul_lt_mul'' f e;rw[<-k]at j;simp only[eS,Pm x f,Pm y e];simp only[<-Int.natCast_mul];generalize (x/4294967296)*(y/4294967296)=a at*;generalize (x/4294967296)*(y % 4294967296)=b at*;generalize (x % 4294967296)*(y/4294967296)=c at*;generalize (x % 4294967296)*(y % 4294967296)=d at*;rw[tI d ae,tI a ae,tI b ae,tI c ae,eS, <-yf,tI _ l,eS,Pm _ l, <-yf, <-yf,tI _ m,eS,tI (a+_) ae, <-yf,tI _ j]
 ·show zc .u64 ((x:Int)*y)=IC x y;unfold IC;exact LI _
end T166
theorem jF{x y o c:Int}(d:Sp.u64 x=true)(e:Sp.u64 y=true)(f:Sp.u64 o=true)(g:Sp.u64 c=true):
  Sp.u64 (IC x y)=true/\Sp.u64 (Iv (IC x y) o 0)=true/\Sp.u64 (Iv (Iv (IC x y) o 0) c 0)=true/\
  zc .u64 (zc .u64 (RZ x y+QS (IC x y) o 0)+QS (Iv (IC x y) o 0) c 0)=(x*y+o+c)/18446744073709551616/\
  Sp.u64 ((x*y+o+c)/18446744073709551616)=true/\
  Iv (Iv (IC x y) o 0) c 0+18446744073709551616*((x*y+o+c)/18446744073709551616)=x*y+o+c:=by
 have d:=Sp.A3 d;have e:=Sp.A3 e;have f:=Sp.A3 f;have g:=Sp.A3 g;have h0:0<=x*y:=Int.mul_nonneg d.1 e.1;have i:x*y<=18446744073709551615*18446744073709551615:=by
  have a:=yd (show y<=18446744073709551615 by omega) d.1;have b:=Int.mul_le_mul_of_nonneg_right (show x<=18446744073709551615 by omega) (show(0:Int)<=18446744073709551615 by omega);omega
 unfold IC RZ Iv QS;generalize x*y=P at*;refine⟨CM ae ae,CM ae ae,CM ae ae,?_,CM ae ae,by omega⟩;rw[LI,LI];omega
namespace T168
theorem A1[Srt](x y:List Int)(n i:Nat)(S:i<x.length)(M:n=x.length+y.length)(g:x.length<=9000)(l:y.length<=9000)(s:Az Ao x)(u:Az Ao y)(p:List Int)(hp:p.length=i+y.length)(b:Az Ao p)
  (t:∀q c,q.length=i+y.length->Az Ao q->Sp.u64 c=true->zo Ao q+(Ao:Int)^(i+y.length)*c=zo Ao p+(Ao:Int)^i*(x.getD i 0*zo Ao y)->Ends LL (L1 y n x x.length ((i+1:Nat):Int)<|(q++[c])++zf (n-(i+y.length+1)) 0) Q):∀(k j:Nat) (q:List Int) (c:Int),j+k=y.length->q.length=i+j->Az Ao q->Sp.u64 c=true->zo Ao q+(Ao:Int)^(i+j)*c=zo Ao (p.take<|i+j)+(Ao:Int)^i*(x.getD i 0*zo Ao (y.take j))->
  Ends LL (L2 y n i (x.getD i 0) c x x.length i y y.length j<|q++(p.drop (i+j)++zf (n-(i+y.length)) 0)) Q
 |0,j,q,c,o,a,e,d,A=>by
  have o:j=y.length:=ae
  subst o;have m:zc .i64 ((i:Int)+(y.length:Int))=((i+y.length:Nat):Int):=by rw[wr _ ae ae];omega
  have f:zc .i64 ((i:Int)+1)=((i+1:Nat):Int):=by rw[wr _ ae ae];omega
  have E:p.drop (i+y.length)=[]:=yn ae;refine Ends.An (AL ..) (Ends.ff (by simp) ?_);rw[m,f,zh,E,List.nil_append,JF q n _ c a ae];refine Ends.tt (by simp;omega) (Ends.tt (by simp;omega)<|t q c a e d ?_);rw[A,zk ae,z7]
 |k+1,j,q,c,o,a,e,d,A=>by
  have D:=AW s i;have C:=AW u j;have v:=AW b<|i+j;have r:p.drop (i+j)=p.getD (i+j) 0::p.drop (i+j+1):=by
   rw[zg,zm ae];exact zq ae
  have m:zc .i64 ((i:Int)+(j:Int))=((i+j:Nat):Int):=by rw[wr _ ae ae];omega
  have f:zc .i64 ((j:Int)+1)=((j+1:Nat):Int):=by rw[wr _ ae ae];omega
  have w:(q++(p.drop (i+j)++zf (n-(i+y.length)) (0:Int))).length=n:=by simp;omega
  have J:(q++(p.drop (i+j)++zf (n-(i+y.length)) (0:Int))).getD (i+j) 0=p.getD (i+j) 0:=by
   rw[r,List.cons_append];exact E0 _ _ _ _ a
  have s1:∀z,(q++(p.drop (i+j)++zf (n-(i+y.length)) (0:Int))).set (i+j) z=(q++[z])++(p.drop (i+(j+1))++zf (n-(i+y.length)) 0):=by
   intro z;rw[r,List.cons_append,Dn _ _ _ _ a,yj];rfl
  obtain⟨T,I,G,R,L,P⟩:=jF D C v d;refine Ends.An (AL ..) (Ends.tt (by simp;omega) ?_);rw[m,f,zh,zh,J,s1,R];have t1:(decide ((0:Int)<=((i+j:Nat):Int))&&decide (((i+j:Nat):Int)<(n:Int)))=true:=by simp;omega
  refine Ends.tt (by simp;omega) (Ends.tt (by rw[D,C];rfl) (Ends.tt t1<|Ends.tt (w4<|by rw[w];omega)<|Ends.tt (by rw[T,v];rfl)<|Ends.tt (by rw[I,d];rfl)<|Ends.tt t1<|Ends.tt (w4<|by rw[w];omega) ?_));refine A1 x y n i S M g l s u p hp b t k (j+1) _ _ ae (by simp;omega) (D0 e G) L ?_;have O:i+(j+1)=(i+j)+1:=ae
  have K:(Ao:Int)^i*(x.getD i 0*((Ao:Int)^j*y.getD j 0))=(Ao:Int)^(i+j)*(x.getD i 0*y.getD j 0):=by
   rw[Int.pow_add,yk,Int.mul_left_comm<|x.getD i 0]
  rw[O,Fk,a,LM,yp, <-zx,P,AH _ p<|i+j,AH _ y j,zx,zx,zx<|x.getD i 0,zx,K];omega
theorem Ar[Srt](x y:List Int)(n:Nat)(j:n=x.length+y.length)(d:x.length<=9000)(b:y.length<=9000)(o:Az Ao x)(m:Az Ao y)(r:∀ob,Q (.dat Dj<|Bs<|As x*As y) ob):∀(k i:Nat) (p:List Int),i+k=x.length->p.length=i+y.length->Az Ao p->zo Ao p=zo Ao (x.take i)*zo Ao y->
  Ends LL (L1 y n x x.length i<|p++zf (n-(i+y.length)) 0) Q
 |0,i,p,l,hp,a,e=>by
  have l:i=x.length:=ae
  subst l;have u:p++zf (n-(x.length+y.length)) (0:Int)=p:=by rw[j,Nat.sub_self];simp
  have f:As p=As x*As y:=by
   rw[z7]at e;exact e
  rw[u];refine Ends.An (Al ..) (Ends.ff (by simp) ?_);rw[zk ae];refine Ends.tt ?_<|Ends.leaf ?_
  ·rw[Eh ae a];simp;omega
  ·rw[LK a,f];exact r _
 |k+1,i,p,l,hp,a,e=>by
  refine Ends.An (Al ..) (Ends.tt (by simp;omega) ?_);rw[zh];refine Ends.tt (by simp;omega) ?_;have h0:zo Ao (p.take<|i+y.length)=zo Ao p:=by rw[zk ae]
  have:=A1 (Q:=Q) x y n i ae j d b o m p hp a (fun q c s g t f=>by
   have:=Ar x y n j d b o m r k (i+1) (q++[c]) ae (by simp;omega) (D0 g t) (by
    rw[Fk,s,f,e,AH,Int.add_mul,yk])
   rw[show i+1+y.length=i+y.length+1 by omega]at this;exact this) y.length 0 (p.take i) 0 ae (by simp;omega) (AR a i) rfl (by simp[zo])
  rw[Nat.add_zero, <-yj,List.take_append_drop]at this;exact this
theorem ok[Srt](a:∀g sp,LL.sp g=some sp->Af A5 g sp):Af A5 168 tC:=by
 refine Ir (X:=LL) rfl a (d:=9) ag ag ag (fun(i:List Int×List Int) b=>?_) (Bd ag);obtain⟨x,y⟩:=i;have b:(Sp.hW x&&Sp.hW y)=true:=b;rw[ze]at b;obtain⟨x1,x2⟩:=aA b.1;obtain⟨y1,y2⟩:=aA b.2;have f:∀ob,Ad tC (x,y) (.dat Dj<|Bs<|As x*As y) ob:=fun ob=>Ad.of rfl rfl rfl
 have e:zc .i64 ((x.length:Int)+(y.length:Int))=((x.length+y.length:Nat):Int):=by rw[wr _ ae ae];omega
 refine Ends.eq (Ak x y) ?_;conv=>zeta
 rw[e,zh];refine Ends.tt (by simp;omega) ?_;have:=Ar x y (x.length+y.length) rfl x1 y1 x2 y2 f x.length 0 (zf y.length 0) ae (by simp) (fun d c=>by
  obtain⟨_,rfl⟩:=List.mem_replicate.1 c;exact⟨by decide,by decide⟩) (by rw[MG];simp[zo])
 rw[Nat.zero_add,List.replicate_append_replicate,show y.length+(x.length+y.length-y.length)=x.length+y.length by omega]at this;exact this
end T168
theorem FD[Srt]:CL LL:=
 Aa T167.ok (Aa T202.ok<|Aa T204.ok<|Aa T203.ok<|Aa T166.ok AI)
theorem S5[Srt]:CL XI2:=
 Aa (T161.ok FD) (Aa (T162.ok FD)<|Aa (T163.ok FD)<|Aa (T165.ok FD)<|Aa T164.ok<|Aa (T168.ok FD)<|Aa T166.ok<|Aa T167.ok AI)
end Go.Pe
namespace Go.Sp
def A9(a:AJ):Bool:=Da a&&decide (a.2.length<=9000)
def dV(a b:AJ):Int:=Cp (vI a)<|vI b
def It(a:AJ):Int:=N1<|vI a
end Go.Sp
namespace Go.Pe
open Sp
open Go.Det
def Wr:Am:=⟨[A0],fun a=>Sp.Da a,[A0],fun a=>(EB a,EC a),false⟩
def Ab0:Am:=⟨[A0],fun a=>Sp.Da a,[A0],fun a=>(PH a,QB a),false⟩
def K1:Am:=⟨[A0],fun a=>Sp.Da a,[i64],fun a=>It a,false⟩
def Q7:Am:=⟨[A0,A0],fun i=>A9 i.1&&A9 i.2,[A0],fun i=>(Kn i.1 i.2,Kf i.1 i.2),false⟩
def oD:Am:=⟨[A0,A0],fun i=>A9 i.1&&A9 i.2,[A0],fun i=>(bW i.1 i.2,aL i.1 i.2),false⟩
def SK:Am:=⟨[A0,A0],fun i=>A9 i.1&&A9 i.2,[A0],fun i=>(E7 i.1 i.2,E2 i.1 i.2),false⟩
def sK:Am:=⟨[A0,A0],fun i=>A9 i.1&&A9 i.2,[i64],fun i=>dV i.1 i.2,false⟩
def XJ1[Srt]:AO:=X7 [(130,Wr),(126,Q7)]
def XJ2[Srt]:AO:=X7 [(132,oD),(133,K1)]
section
open List Int Prod
namespace T130
def T[Srt](a:AJ):Tr:=tree XI2 false 9 130<|Ag ([A0]) a
theorem Ak[Srt](a:AJ):T a=let b:=Bs<|Ah<|Sp.vI a;let b':=Sp.sg (!decide (Sp.vI a<0))<|As b;let c:Tr:=.ck (Sp.Da a)<|.ck (Cj b)<|.leaf (z8 [.dat i64<|CP b',.dat wU<|CO b']) [];.ite (!decide (0<length (snd a))) (.ite (fst a !=(-9223372036854775808)) (.leaf (z8 [.dat i64<|zc .i64<|0-fst a,.nil]) []) c) c:=by kernel_rfl
end T130
namespace T126
def T[Srt](a b:AJ):Tr:=tree XI2 false 9 126<|Ag ([A0,A0]) (a,b)
theorem Ak[Srt](a b:AJ):T a b=let b':=Bs<|Ah<|Sp.vI a;let c:=Bs<|Ah<|Sp.vI b;let i:=Bs<|As b'+As c;let h':=Bs<|As b'-As c;let j:=Bs<|As c-As b';let e:=Sp.sg (decide (Sp.vI a<0))<|As i;let f:=Sp.sg (decide (Sp.vI a<0))<|As h';let g:=Sp.sg (decide (Sp.vI b<0))<|As j;let d:Tr:=.ck (Sp.Da a)<|.ck (Sp.Da b)<|.ite (decide (Sp.vI a<0)==decide (Sp.vI b<0)) (.ck (Sp.hW b'&&Sp.hW c)<|.ck (Cj i)<|.leaf (z8 [.dat i64<|CP e,.dat wU<|CO e]) [])<|.ck (Cj b'&&Cj c)<|.di (Cp (As b') (As c)>=0) (.ck (CT b'&&CT c&&decide (As c<=As b'))<|.ck (Cj h')<|.leaf (z8 [.dat i64<|CP f,.dat wU<|CO f]) [])<|.ck (CT c&&CT b'&&decide (As b'<=As c))<|.ck (Cj j)<|.leaf (z8 [.dat i64<|CP g,.dat wU<|CO g]) [];.ite (!decide (0<length (snd a))) (.ite (!decide (0<length (snd b))) (.ite (decide (zc .i64 (fst a+fst b)>fst a)==decide (fst b>0)) (.leaf (z8 [.dat i64<|zc .i64<|fst a+fst b,.nil]) []) d) d) d:=by kernel_rfl
end T126
namespace T127
def T[Srt](a b:AJ):Tr:=tree XI2 false 9 127<|Ag ([A0,A0]) (a,b)
theorem Ak[Srt](a b:AJ):T a b=let d:=Ah<|fst a;let c:=Ah<|fst b;let g:=Bs<|Ah<|Sp.vI a;let i:=Bs<|Ah<|Sp.vI b;let b':=Bs<|As g*As i;let f:=Sp.sg (!decide (Sp.vI a<0)==decide (Sp.vI b<0))<|As b';let e:Tr:=.ck (Sp.Da a)<|.ck (Sp.Da b)<|.ck (Sp.hW g&&Sp.hW i)<|.ck (Cj b')<|.leaf (z8 [.dat i64<|CP f,.dat wU<|CO f]) [];.ite (!decide (0<length (snd a))) (.ite (!decide (0<length (snd b))) (.ck (Cv<|fst a)<|.ck (Cv<|fst b)<|.ck (Sp.u64 d&&Sp.u64 c)<|.ite (RZ d c==0) (.di (IC d c<=9223372036854775807) (.ite (!decide (fst a<0)==decide (fst b<0)) (.leaf (z8 [.dat i64<|zc .i64<|0-zc .i64 (IC d c),.nil]) [])<|.leaf (z8 [.dat i64<|zc .i64<|IC d c,.nil]) []) e) e) e) e:=by kernel_rfl
end T127
namespace T175
def T[Srt](a:AJ):Tr:=tree XJ1 false 9 175<|Ag ([A0]) a
theorem Ak[Srt](a:AJ):T a=.di (fst a<0) (.ck (Sp.Da a)<|.leaf (z8 [.dat i64<|EB a,.dat wU<|EC a]) []) (.leaf (z8 [.dat i64<|fst a,.dat wU<|snd a]) []):=by kernel_rfl
end T175
namespace T133
def T[Srt](a:AJ):Tr:=tree nA false 9 133<|Ag ([A0]) a
theorem Ak[Srt](a:AJ):T a=.leaf (.dat i64<|imax (-1)<|Fb 1<|fst a) []:=by kernel_rfl
end T133
namespace T132
def T[Srt](a b:AJ):Tr:=tree XJ1 false 9 132<|Ag ([A0,A0]) (a,b)
theorem Ak[Srt](a b:AJ):T a b=.ck (Sp.Da b) (.ck (A9 a&&A9 (EB b,EC b))<|.leaf (z8 [.dat i64<|Kn a (EB b,EC b),.dat wU<|Kf a (EB b,EC b)]) []):=by kernel_rfl
end T132
namespace T76
def T[Srt](a b:AJ):Tr:=tree XJ2 false 9 76<|Ag ([A0,A0]) (a,b)
theorem Ak[Srt](a b:AJ):T a b=let c:Tr:=.ck (A9 a&&A9 b)<|.ck (Sp.Da (bW a b,aL a b))<|.leaf (.dat i64<|It (bW a b,aL a b)) [];.ite (!decide (0<length (snd a))) (.ite (!decide (0<length (snd b))) (.di (fst a<fst b) (.leaf (.dat i64 (-1:Int)) [])<|.di (fst a>fst b) (.leaf (.dat i64 (1:Int)) [])<|.leaf (.dat i64 (0:Int)) []) c) c:=by kernel_rfl
end T76
end
end Go.Pe
