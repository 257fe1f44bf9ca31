import Derived.Test.YtbmofcgiokkikaaGreatDoorX08
import Derived.Lib.Mul64
/- A part of a proof; no law is stated here. -/
noncomputable section
open Go.IntKind renaming wrap -> zc, u64 -> zd, i64 -> z6
open Bool renaming and_eq_true -> ze, true_and -> zt
open List renaming replicate -> zf, getD_eq_getElem?_getD -> zg, take_of_length_le -> zk, getElem?_eq_getElem -> zm, mem_singleton -> zn, drop_eq_getElem_cons -> zq, take_length -> z7, getElem?_eq_none -> yc, append_assoc -> yj, drop_eq_nil_of_le -> yn, all_cons -> yo
open Int renaming toNat_natCast -> zh, eq_ofNat_of_zero_le -> zj, fdiv -> zp, mul_add -> zx, mul_le_mul_of_nonneg_left -> yd, natCast_add -> yf, mul_assoc -> yk, add_assoc -> yp, lt_or_le -> yr
open Go.Pe.Sh renaming int -> zi, list -> zl
open Go.Sp renaming val -> zo, mark -> yh
open Nat renaming beq -> zr, le_refl -> zw, eq_of_beq_eq_true -> zz, le_trans -> yg, add -> ym, lt_or_ge -> yq
open Go.Pe.PV renaming cells -> zu, agg -> z8
open Go.Pe.Ev renaming AG -> zy
open Option.some renaming injEq -> ya
open BitVec renaming ofInt -> yb
open List.cons renaming injEq -> ye
open Go.Lib renaming half_mul_le -> yi
variable {Q:Go.Pe.PV->Go.Pe.Ob->Prop}
namespace Go.Pe
open Go.Det
section
variable {B:Nat}{h0:H0}{X:AL}{F:Fz}{ρ:Ez}{N:Nat}{st st':AQ}{fr:Fr}{h:H}
theorem Mt:∀ {ps:List PV} {i t:Nat} {p:PV},(t,p)∈FG ps i->∃k,t=i+k/\ps[k]?=some p
 |[],i,t,p,h=>by cases h
 |q::ps,i,t,p,h=>by
  rcases List.mem_cons.1 h with h|h
  ·simp_all
  ·obtain⟨k,a,b⟩:=Mt h;exact⟨k+1,by grind,by grind⟩
theorem Aad{ps:List PV}{vs:List V}(hp:BT F ρ N ps vs)(n:Nat)(ob:Ob)(nx:Nat)(_hnx:nx=N):FP F ρ N (Ax (ym ps.length<|Nat.sub n ps.length) (FG ps 0) ob nx) (Ox n vs):=by
 refine⟨by show ps.length+(n-ps.length)=vs.length+(n-vs.length);rw[hp.len],fun t=>?_⟩;show PR F ρ N (((Fj<|FG ps 0).get t).getD .any) _;cases c:(Fj<|FG ps 0).get t with
 |none=>grind [PR]
 |some p=>
  rcases G4 _ .leaf t p c with h1|h1
  ·obtain⟨k,f,e⟩:=Mt h1;obtain rfl:t=k:=ae
   obtain⟨v,a,d⟩:=hp.get e;have b:=(List.getElem?_eq_some_iff.1 a).1;unfold Ox Fr.get;rw[NV,wd ae,Nat.sub_zero,a];exact d
  simp_all
theorem rX{T:Cj}{st s:AQ}{t:TypeId}{a p:PV}(h:(OC T st t a).To p s):s=st:=by
 unfold OC at h;split at h
 case h_2=>simp_all
 split at h
 case h_4=>simp_all
 ·split at h
  case h_4=>simp_all
  case h_3=>simp_all
  ·simp_all
  ·rename_i b l _;cases c:(zr _ 0&&zr b.sz 1)with
   |false=>rw[c]at h;simp_all
   |true=>simp_all
 ·split at h
  case h_2=>simp_all
  rename_i sz j off _ _ _ b l _;cases c:(zr sz b.sz)with
  |false=>simp_all
  |true=>simp_all
 simp_all
theorem QQ{Q:PV->Ob->Prop}{n:Nat}{t:Tr}:∀ {cs:List Bool},Ev X Q n (U2 cs t)->(∀c∈cs,c=true)/\Ev X Q n t
 |[],h=>⟨(by simp),h⟩
 |c::cs,h=>by
  rcases h.Fe with⟨d,a⟩|⟨_,a⟩
  ·obtain⟨b,e⟩:=QQ a;grind
  grind [zy]
theorem We:∀ {i:List ResultVar} {ps:List PV} {F:Fz} {ρ:Ez},Rel B h0 F ρ st fr h->kA X.C.T st i=some ps->(∀c∈OB X.C.T st i,c=true)->
  ∃vs F' ρ',Q2 X.C fr h i=some vs/\BT F' ρ' st.nx ps vs/\Rel B h0 F' ρ' st fr h/\Le F ρ st.nx F' ρ' st.nx
 |[],ps,F,ρ,hr,hp,_=>by cases hp;exact⟨[],F,ρ,rfl,by simp,hr,Le.refl⟩
 |r::i,ps,F,ρ,hr,hp,e=>by
  unfold kA at hp;split at hp
  case h_2=>cases hp
  rename_i p o f z;cases hp;have key:∃v F1 d,dD X.C fr h r=some v/\PR F1 d st.nx p v/\Rel B h0 F1 d st fr h/\Le F ρ st.nx F1 d st.nx:=by
   cases r with
   |tmp t=>
    simp only[mM,ya]at f;subst f;exact⟨_,F,ρ,rfl,hr.fp.slot t,hr,Le.refl⟩
   |cell a t=>
    have g:∃s,(OC X.C.T st t<|st.get a).To p s:=by
     simp only[mM]at f;split at f
     case h_3=>cases f
     ·simp_all
     ·rename_i c u s m;cases f;refine⟨s,?_⟩;have:=e c (by grind [OB]);rw[m,this];show(PO.Je true p s).To p s;simp
    obtain⟨s,g⟩:=g;have n:s=st:=rX g;subst n;obtain⟨v',h',F',ρ',b,g2,g3,g4,g5,g6,g7,g8⟩:=sE (C:=X.C) hr.sr (hr.fp.slot a) g;cases j:FH X.C.T h t (fr.get a)with
    |none=>rw[j]at b;rcases b with b|⟨b,_⟩<;>cases b
    |some w=>
     rw[j]at b;rcases b with b|⟨b,_⟩
     ·simp only[BS,ya,OR.val.injEq]at b;obtain⟨rfl,rfl⟩:=b;exact⟨w,F',ρ',j,g2,⟨hr.fp.mono g4,g3⟩,g4⟩
     ·cases b
  obtain⟨v,F1,d,y,x,q,k⟩:=key;obtain⟨vs,F2,ρ2,k5,k6,k7,k8⟩:=We q z (fun c l=>e c (by
   cases r with
   |tmp t=>exact l
   |cell a t=>
    grind [OB]))
  exact⟨v::vs,F2,ρ2,by simp[Q2,y,k5],by simp only[BY];exact⟨x.mono k8,k6⟩,k7,k.trans k8⟩
theorem J9{nd:Bool}{d:Nat}(z:∀h0,FY B h0 X nd<|Cx X nd d)(s:∀h0,FY B h0 X false<|Cx X false d)(hmg:X.C.mg=false){g:FuncId}(hsp:X.C.spec g=none)(hprim:X.C.prim g=none)(hno:X.sp g=none){Q:PV->Ob->Prop}{n:Nat}{args:List PV}{k:PV->AQ->Tr}{args':List V}
  (E:Ev X Q n (enter X (Cx X nd d) (Cx X false d) nd d g args st k)) (hr:Rel B h0 F ρ st fr h) (ha:BT F ρ st.nx args args'):
  (X.C.prim g=none/\∃i,X.C.fn g=some i)/\∃l M,(∀m,M<=m->Bh X.C m (.fn g args') h=some l)/\(nd=false->∃x,l=[x])/\
   ∀x∈l,∃n',n'<=n/\∃r st',Ev X Q n' (k r st')/\∃F' ρ',PR F' ρ' st'.nx r x.1/\DB B h0 F ρ st.nx h st' fr x.2 F' ρ'/\(∀sp,X.sp g=some sp->∀b,b<h.nx->x.2.get b=h.get b):=by
 unfold enter at E;split at E
 case h_1=>grind [zy]
 rename_i i hi;cases hc:i.cert with
 |false=>grind [zy]
 |true=>
  rw[hc]at E;simp only[we]at E;have hr0:Rel B h0 F ρ (Ax (ym args.length<|Nat.sub i.ntmps args.length) (FG args 0) st.ob st.nx) (Ox i.ntmps args') h:=⟨Aad ha i.ntmps st.ob st.nx rfl,hr.sr⟩;obtain⟨l,M,hM,G,L⟩:=PJ (ro:=false) (rv:=none) (ct:=true) (by simp) z s n i.body (st:=Ax (ym args.length<|Nat.sub i.ntmps args.length) (FG args 0) st.ob st.nx) [] (zw st.nx) hr0 E;have fin:∀x∈l,∃(r:List (V×H)) (M:Nat),(∀m:Nat,M<=m->∀q:Nat,M<=q->(match x.e with
      | .exit _=>none
      |_=>match Hx x.ds x.h with
       |some c=>match Sm X.C x.fr c i.results.toList with
        |some v=>some [(v,c)]
        |none=>none
       |none=>none)=some r)/\(nd=false->∃x,r=[x])/\∀x∈r,∃n',n'<=n/\∃r st',Ev X Q n' (k r st')/\∃F' ρ',PR F' ρ' st'.nx r x.1/\DB B h0 F ρ st.nx h st' fr x.2 F' ρ'/\(∀sp,X.sp g=some sp->∀b,b<h.nx->x.2.get b=h.get b):=by
   intro x hx;obtain⟨ps,⟨hds,u,hge⟩,n1,hn1,a,K,F1,U,w,S,D,hx1'⟩:=L x hx;obtain⟨e,fr1,hx0,ds1⟩:=x;obtain⟨c,hlv,hsr1,hnx1,_⟩:=SR.leave u (fun b Y hp=>by
    have k1:=hge b Y;have k2:=hr.sr.lt b _ (hr.sr.pn b hp).1;omega) w.sr
   have W:Rel B h0 F1 U a fr1 c:=⟨w.fp,hsr1⟩;have hx1:h.nx<=c.nx:=ae
   have go:(∀j,e≠ .exit j)->Ev X Q n1 (match kA X.C.T a i.results.toList with|some vs=>U2 (OB X.C.T a i.results.toList) (k (Go.Pe.one vs) ⟨st.n,st.fr,a.ob,a.nx⟩)|none=>.fail)->
     ∃v',Sm X.C fr1 c i.results.toList=some v'/\∃n',n'<=n/\∃r st',Ev X Q n' (k r st')/\∃F' ρ',PR F' ρ' st'.nx r v'/\DB B h0 F ρ st.nx h st' fr c F' ρ'/\(∀sp,X.sp g=some sp->∀b,b<h.nx->c.get b=h.get b):=by
    intro hne o;split at o
    case h_2=>grind [zy]
    rename_i ps Z;obtain⟨A,o⟩:=QQ o;obtain⟨vs,F2,ρ2,k1,k2,k3,k4⟩:=We W Z A;have I:Le F ρ st.nx F2 ρ2 a.nx:=⟨fun b cs Y=>k4.fz _ _<|D.fz _ _ Y,fun id hid=>by
     rcases k4.rho id ae with e|e
     ·rw[e];exact D.rho id hid
     grind,S⟩
    have J:∃O,Sm X.C fr1 c i.results.toList=some O/\PR F2 ρ2 a.nx (Go.Pe.one ps) O:=by
     unfold Sm;rw[k1];cases ps with
     |nil=>subst k2;exact⟨_,rfl,by simp[Go.Pe.one,PR]⟩
     |cons p ps=>
      obtain⟨v1,vs1,rfl,g1,R⟩:=k2;cases ps with
      |nil=>subst R;exact⟨_,rfl,g1⟩
      |cons q qs=>
       obtain⟨v2,vs2,rfl,_,_⟩:=R;refine⟨_,rfl,?_⟩;show PR F2 ρ2 a.nx (.tup (p::q::qs)) _;simp_all [PR]
    obtain⟨O,q1,q2⟩:=J;exact⟨O,q1,n1,hn1,_,_,o,F2,ρ2,q2,⟨⟨⟨hr.fp.n,fun t=>(hr.fp.slot t).mono I⟩,k3.sr⟩,I,hx1⟩,ah⟩
   cases e with
   |normal=>
    obtain⟨v',q1,q2⟩:=go (by simp) K;exact⟨[(v',c)],0,ah,(by simp),ah⟩
   |ret=>
    obtain⟨v',q1,q2⟩:=go (by simp) K;exact⟨[(v',c)],0,ah,(by simp),ah⟩
   |exit j=>grind [zy]
  obtain⟨r,M2,g1,R,g3⟩:=Kr (f:=fun _ _ (x:Det.X)=>match x.e with
      | .exit _=>none
      |_=>match Hx x.ds x.h with
       |some c=>match Sm X.C x.fr c i.results.toList with
        |some v=>some [(v,c)]
        |none=>none
       |none=>none) (P:=fun x=>∃n',n'<=n/\∃r st',Ev X Q n' (k r st')/\∃F' ρ',PR F' ρ' st'.nx r x.1/\DB B h0 F ρ st.nx h st' fr x.2 F' ρ'/\(∀sp,X.sp g=some sp->∀b,b<h.nx->x.2.get b=h.get b)) G fin
  refine⟨ah,r,max M M2+1,fun m hm=>?_,R,g3⟩;obtain⟨y,rfl⟩:∃y,m=y+1:=⟨m-1,by omega⟩;have hg:=g1 y ae y ae;have:Bh X.C (y+1) (.fn g args') h=(match BM X.C (Bh X.C y) none i.cert y i.body (Ox i.ntmps args') h []with
    |none=>none
    |some l=>match (bl l fun x=>match x.e with
     | .exit _=>none
     |_=>match Hx x.ds x.h with
      |some c=>match Sm X.C x.fr c i.results.toList with
       |some v=>some [(v,c)]
       |none=>none
      |none=>none)with
     |some r=>some<|bif X.C.mg then Qu h.nx r else r
     |none=>none):=by
   rw[Bh];simp only[hsp,hi];rfl
  grind
theorem NB{nd:Bool}{d:Nat}(w:∀h0,FY B h0 X nd<|Cx X nd d)(j:∀h0,FY B h0 X false<|Cx X false d){id:Nat}{Q:PV->Ob->Prop}{n:Nat}{args:List PV}{k:PV->AQ->Tr}{args':List V}
  (he:Ev X Q n (Y5 X (Cx X nd d) (Cx X false d) nd d id args st k)) (hr:Rel B h0 F ρ st fr h) (ha:BT F ρ st.nx args args'):
  ∃c,AfC X ρ h args' (.rnd id) c/\∃l M,(∀m,M<=m->Bh X.C m c h=some l)/\(nd=false->∃x,l=[x])/\
   ∀x∈l,∃n',n'<=n/\∃r st',Ev X Q n' (k r st')/\∃F' ρ',PR F' ρ' st'.nx r x.1/\DB B h0 F ρ st.nx h st' fr x.2 F' ρ':=by
 unfold Y5 at he;split at he
 case h_2=>grind [zy]
 rename_i f r ps asg b n0 sl hob;obtain⟨A,m0,y,k1,k2,⟨ls,rfl,rfl,rfl,rfl,⟨l1,l2⟩,rfl,l4⟩,-⟩:=hr.sr.at hob;cases hsz:zr args.length ls.ps.size with
 |false=>grind [zy]
 |true=>
 rw[hsz]at he;simp only[we]at he;have hlen:args'.length=ls.ps.size:=by rw[<-ha.len];simp_all
 have hid:id<st.nx:=(hr.sr.own _ _ _ k1).1;have hr0:Rel B h0 F ρ (Of ls.ps.toList args<|Ax ls.fr.n sl st.ob st.nx) (HU ls.ps.toList args' ls.fr) h:=by
  have T:Rel B h0 F ρ (Ax ls.fr.n sl st.ob st.nx) ls.fr h:=⟨⟨rfl,fun t=>l4 t⟩,hr.sr⟩;have go:∀(ts:List Tmp) (g:List PV) (E:List V) (s:AQ) (f:Fr),s.nx=st.nx->BT F ρ st.nx g E->Rel B h0 F ρ s f h->Rel B h0 F ρ (Of ts g s) (HU ts E f) h:=by
   intro ts;induction ts with
   |nil=>intro g E s f _ _ hs;cases g<;>exact hs
   |cons t ts ih=>
    intro g E s f hn hp hs;cases g with
    |nil=>simp only[D8]at hp;subst hp;exact hs
    |cons a g=>
     simp only[BT]at hp;obtain⟨v,vs,rfl,p1,p2⟩:=hp;simp only[Of,HU];refine ih g vs _ _ ?_ p2 ?_
     ·cases Nat.blt t s.n<;>exact hn
     ·unfold Fr.iX;rw[show s.n=f.n from hs.fp.n];cases Nat.blt t f.n with
      |false=>exact hs
      |true=>exact hs.set ah
  exact go _ _ _ _ _ rfl ha T
 have hnx0:st.nx<=(Of ls.ps.toList args<|Ax ls.fr.n sl st.ob st.nx).nx:=by
  have go:∀(ts:List Tmp) (g:List PV) (s:AQ),(Of ts g s).nx=s.nx:=by
   intro ts;induction ts with
   |nil=>intro g s;rfl
   |cons t ts ih=>
    intro g s;cases g with
    |nil=>rfl
    |cons a g=>simp only[Of];rw[ih];cases Nat.blt t s.n<;>rfl
  rw[go];exact zw _
 obtain⟨L,M1,hM1,U,R⟩:=PJ (ro:=true) (rv:=some A) (ct:=false) (by simp) w j n ls.asg [] hnx0 hr0 he;refine⟨_,⟨A,m0,ls,k1,k2,hlen,rfl⟩,?_⟩;have fin:∀x∈L,∃(r:List (V×H)) (M:Nat),(∀m:Nat,M<=m->∀q:Nat,M<=q->(match x.e,x.h.get A with
   | .normal,some (.loop l1)=>match l1.st with
    | .ready=>match BM X.C (Bh X.C m) (some A) false q ls.body x.fr (x.h.put A<|.loop { l1 with st:=.busy }) x.ds with
     |some l2=>bl l2 fun y=>match y.h.get A with
      |some (.loop O)=>match y.e with
       | .normal=>some [(V.bool true,y.h.put A<|.loop { O with st:=.ready,pend:=none })]
       | .ret=>some [(V.bool false,y.h.put A<|.loop { O with st:=.done,pend:=some .ret })]
       | .exit i=>some [(V.bool false,y.h.put A<|.loop { O with st:=.done,pend:=some (.exit i) })]
      |_=>none
     |none=>none
    |_=>none
   |_,_=>none)=some r)/\(nd=false->∃x,r=[x])/\∀x∈r,∃n',n'<=n/\∃r st',Ev X Q n' (k r st')/\∃F' ρ',PR F' ρ' st'.nx r x.1/\DB B h0 F ρ st.nx h st' fr x.2 F' ρ':=by
  intro x hx;obtain⟨ps1,_,n1,hn1,s,D,F1,ρ1,G,hb1,hl1,hx1⟩:=R x hx;obtain⟨e,fr1,h1,ds1⟩:=x;simp only at D G hx1 ⊢;cases e with
  |exit i=>grind [zy]
  |ret=>grind [zy]
  |normal=>
  simp only at D;split at D
  case h_2=>grind [zy]
  rename_i f' r' ps' asg' b' n' Y I;have hs1:SR B h0 F1 ρ1 s.nx s.ob h1:=G.sr.uY;obtain⟨J,m1,y1,q1,q2,⟨o,rfl,rfl,rfl,rfl,⟨la1,la2⟩,rfl,la4⟩,-⟩:=hs1.at I;obtain⟨rfl,rfl⟩:J=A/\m1=m0:=by
   have:=hl1.at hid q1;grind
  have hr2:Rel B h0 F1 ρ1 (s.setObj id<|.lp f' r' o.ps o.asg o.body .busy o.fr.n Y) fr1 (h1.put J<|.loop { o with st:=.busy }):=
   ⟨⟨G.fp.n,fun t=>G.fp.slot t⟩,hs1.set I q1 q2 rfl rfl (o':=.lp f' r' o.ps o.asg o.body .busy o.fr.n Y) ⟨_,rfl,rfl,rfl,rfl,rfl,rfl,la4⟩⟩
  obtain⟨L2,M2,hM2,S,Z⟩:=PJ (ro:=true) (rv:=some J) (ct:=false) (by simp) w j n1 ls.body ds1 (show st.nx<=(s.setObj id<|.lp f' r' o.ps o.asg o.body .busy o.fr.n Y).nx from hb1) hr2 D;have fin2:∀y∈L2,∃(r:List (V×H)) (M:Nat),(∀m:Nat,M<=m->∀q:Nat,M<=q->(match y.h.get J with
    |some (.loop O)=>match y.e with
     | .normal=>some [(V.bool true,y.h.put J<|.loop { O with st:=.ready,pend:=none })]
     | .ret=>some [(V.bool false,y.h.put J<|.loop { O with st:=.done,pend:=some .ret })]
     | .exit i=>some [(V.bool false,y.h.put J<|.loop { O with st:=.done,pend:=some (.exit i) })]
    |_=>none)=some r)/\(nd=false->∃x,r=[x])/\∀x∈r,∃n',n'<=n/\∃r st',Ev X Q n' (k r st')/\∃F' ρ',PR F' ρ' st'.nx r x.1/\DB B h0 F ρ st.nx h st' fr x.2 F' ρ':=by
   intro y hy;obtain⟨ps2,_,n2,hn2,s2,u,F2,ρ2,hr3,hb2,hl2,hx2⟩:=Z y hy;obtain⟨e2,fr2,h2,ds2⟩:=y;simp only at u hr3 hx2 ⊢;split at u
   case h_2=>grind [zy]
   rename_i f2 r2 pp2 aa2 bb2 ss2 nn2 sl2 K;have hs3:SR B h0 F2 ρ2 s2.nx s2.ob h2:=hr3.sr.uY;obtain⟨c2,m2,y2,w1,w2,⟨p,rfl,rfl,rfl,rfl,_,rfl,lb4⟩,-⟩:=hs3.at K;have W:Le F ρ st.nx F2 ρ2 s2.nx:=by
    have h:=hl1.trans hl2;exact⟨h.fz,h.rho,hb2⟩
   obtain⟨rfl,rfl⟩:c2=J/\m2=m1:=by
    have:=W.at hid w1;grind
   have hnx:h.nx<=h2.nx:=yg hx1 hx2;have done:∀(sb:LpS) (P:LoopState) (pe:Option Code) (rb:Bool),LpR sb P pe->Ev X Q n2 (k (.bl rb) ⟨st.n,st.fr,(s2.setObj id<|.lp f2 r2 p.ps p.asg p.body sb p.fr.n sl2).ob,s2.nx⟩)->
     ∃n',n'<=n/\∃r st',Ev X Q n' (k r st')/\∃F' ρ',PR F' ρ' st'.nx r (V.bool rb)/\DB B h0 F ρ st.nx h st' fr (h2.put c2<|.loop { p with st:=P,pend:=pe }) F' ρ':=by
    intro sb P pe rb hlr he3;refine⟨n2,ae,_,_,he3,F2,ρ2,mO _,⟨⟨⟨hr.fp.n,fun t=>(hr.fp.slot t).mono W⟩,?_⟩,W,hnx⟩⟩;exact hs3.set K w1 w2 rfl rfl (o':=.lp f2 r2 p.ps p.asg p.body sb p.fr.n sl2) ⟨_,rfl,rfl,rfl,rfl,hlr,rfl,lb4⟩
   cases e2 with
   |normal=>exact⟨[(.bool true,h2.put c2<|.loop { p with st:=.ready,pend:=none })],0,ah,(by simp),fun z hz=>by cases zn.1 hz;exact done .ready _ _ true ⟨rfl,rfl⟩ u⟩
   |ret=>exact⟨[(.bool false,h2.put c2<|.loop { p with st:=.done,pend:=some .ret })],0,ah,(by simp),fun z hz=>by cases zn.1 hz;exact done .ret _ _ false ⟨rfl,rfl⟩ u⟩
   |exit i=>exact⟨[(.bool false,h2.put c2<|.loop { p with st:=.done,pend:=some (.exit i) })],0,ah,(by simp),fun z hz=>by cases zn.1 hz;exact done (.exit i) _ _ false ⟨rfl,rfl⟩ u⟩
  obtain⟨r,M3,j1,j2,j3⟩:=Kr S fin2;refine⟨r,max M2 M3,fun m hm q hq=>?_,j2,j3⟩;have a1:=hM2 m ae q ae;simp only at a1;have a2:=j1 m ae q ae;simp only[q2,la1];rw[a1];exact a2
 obtain⟨r,M4,j1,j2,j3⟩:=Kr U fin;refine⟨r,max M1 M4+1,fun m hm=>?_,j2,j3⟩;obtain⟨m',rfl⟩:∃m',m=m'+1:=⟨m-1,by omega⟩;have a1:=hM1 m' ae m' ae;simp only at a1;have a2:=j1 m' ae m' ae;rw[Bh];simp only[Uz];rw[a1];exact a2
end
section
variable {B:Nat}{h0:H0}{X:AL}{F F1 F':Fz}{ρ:Ez}{N:Nat}{st st':AQ}{fr:Fr}{h h':H}
theorem fU{p:PV}{v:V}(hp:PR F ρ N p v):∃w,BT F ρ N p.cells w/\(OJ p=true->v=.agg w)/\(OJ p=false->w=[v]):=by
 cases p with
 |agg l=>obtain⟨cs,rfl,a⟩:=hp;exact⟨cs,a,fun _=>rfl,fun e=>by cases e⟩
 |_=>exact⟨[v],by simp only[zu,BY,D8,vf];exact hp,fun e=>(by cases e),fun _=>rfl⟩
theorem S5{st:AQ}{s:Sh}{p:PV}{x:s.T}{v:V}{w:List V}(a:Ft st s p=some (true,x))(k:OJ p=true->v=.agg w)(m:OJ p=false->w=[v])(g:∀f,Dn st p.cells=some (true,f)->Lr F f w):PC F (Ce s x) v:=by
 unfold Ft at a;cases i:(OJ p==s.OP)with
 |false=>grind
 |true=>
  rw[i]at a;simp only[we]at a;split at a
  case h_2=>cases a
  rename_i c cs d;split at a
  case h_2=>cases a
  rename_i y j;simp only[ya,Prod.mk.injEq,ze]at a;obtain⟨⟨b,rfl⟩,rfl⟩:=a;have e:=Lr.dc (fun ρ N=>Td (g cs d ρ N) b) j;have l:=PC.Ce e;cases hp:s.OP with
  |true=>grind
  |false=>grind
theorem handed:∀ {ps:List PV} {vs:List V} {st:AQ} {F:Fz},SR B h0 F ρ st.nx st.ob h->BT F ρ st.nx ps vs->
  ∃F1,SR B h0 F1 ρ (Bu (ps.flatMap zu) st).nx (Bu (ps.flatMap zu) st).ob h/\(∀b cs,F b=some cs->F1 b=some cs)/\∀l i,Dq st l ps=some (true,i)->Lr F1 (Ag l i) vs
 |[],vs,st,F,hr,hp=>⟨F,hr,fun _ _ h=>h,fun l i e=>by
  have f:vs=[]:=by simp_all
  subst f;match l,i,e with
  |[],_,_=>intro ρ' N';rfl
  |[a],_,e=>cases e
  |a::b::l,_,e=>cases e⟩
 |p::ps,vs,st,F,hr,hp=>by
  obtain⟨v,vs,rfl,k,n⟩:=hp;obtain⟨w,c1,c2,c3⟩:=fU k;obtain⟨F1,g1,g2,g3⟩:=JF hr c1;have g:BT F1 ρ (Bu p.cells st).nx ps vs:=by rw[(DJ p.cells st).1];exact n.mono<|Le.eP g2
  obtain⟨r,m,j,t⟩:=handed g1 g;rw[List.flatMap_cons,Ju];refine⟨r,m,ah,fun l i e=>?_⟩;match l,i,e with
  |[],_,e=>cases e
  |[a],i,e=>
   cases ps with
   |cons q u=>cases e
   |nil=>
    have f:vs=[]:=by simp_all
    subst f;have:=(S5 (st:=st) (F:=F1) (by simpa [Dq]using e) c2 c3 g3).mono j;intro ρ' N';simp only[Ag,BY,D8,vf];exact this ρ' N'
  |a::b::l,i,e=>
   unfold Dq at e;split at e
   case h_2=>cases e
   rename_i c x d y o s;simp only[ya,Prod.mk.injEq,ze]at e;obtain⟨⟨rfl,rfl⟩,rfl⟩:=e;exact Lr.cons ((S5 o c2 c3 g3).mono j) (by grind [Ng,N7])
theorem SR.after{ob:Ob}(hr:SR B h0 F ρ N ob h)(g:∀b,b<h.nx->h'.get b=h.get b)(s:h.nx<=h'.nx)(c:∀b o,h'.get b=some o->b<h'.nx)(l:∀b cs,F b=some cs->F' b=some cs)
  (j:∀b cs,F' b=some cs->F b=some cs\/h.nx<=b) (d:∀b cs,F' b=some cs->∃t fz,h'.get b=some (.cells cs t fz)):SR B h0 F' ρ N ob h':=by
 refine⟨fun id o q=>?_,hr.inj,d,hr.own,hr.dead,fun b a i=>?_,c,yg hr.le s,fun b cs a=>?_,hr.gl,fun b a=>by obtain⟨f,p,m⟩:=hr.pn b a;exact⟨by rw[g b<|hr.lt b _ f];exact f,p,m⟩⟩
 ·obtain⟨b,n,x,h1,k,r,v,w⟩:=hr.obj id o q;have a:=hr.lt b x k;refine⟨b,n,x,h1,by grind,r.mono<|Le.eP (ρ:=ρ) l,fun e=>?_,fun e=>?_⟩
  ·cases u:F' b with
   |none=>rfl
   |some cs=>
    grind
  grind
 ·rw[g b<|Nat.lt_of_lt_of_le a hr.le];exact hr.old b a i
 ·rcases j b cs a with h1|h1
  ·exact hr.fo b cs h1
  ·exact .inr<|.inl<|yg hr.le h1
theorem SR.gh{ob:Ob}(hr:SR B h0 F ρ N ob h):Gh h:=fun x d=>by
 obtain⟨a,b,c⟩:=hr.gl x d;rw[hr.old _ a b];exact c
structure UX(C:Ctx)(f:FuncId)(sp:Am):Prop where
 prim:C.prim f=none
 fn:∃i,C.fn f=some i
 run:∀(F:Fz) (h:H) (args:List V) (i:(By sp.ins).T),(∀b cs,F b=some cs->∃t fz,h.get b=some (.cells cs t fz))->(∀b o,h.get b=some o->b<h.nx)->Gh h->Lr F (Ag sp.ins i) args->sp.pre i=true->
  ∃l M,(∀m,M<=m->Bh C m (.fn f args) h=some l)/\(sp.nd=false->∃x,l=[x])/\∀x∈l,h.nx<=x.2.nx/\(∀b,b<h.nx->x.2.get b=h.get b)/\(∀b o,x.2.get b=some o->b<x.2.nx)/\
   ∃F':Fz,(∀b cs,F b=some cs->F' b=some cs)/\(∀b cs,F' b=some cs->F b=some cs\/h.nx<=b)/\(∀b cs,F' b=some cs->∃t fz,x.2.get b=some (.cells cs t fz))/\
    PC F' (one (Ag sp.outs (sp.f i))) x.1
structure AdL(C:Ctx)(f:FuncId)(sp:Am):Prop where
 run:∃q,C.prim f=some q/\∀(F:Fz) (h:H) (args:List V) (i:(By sp.ins).T),Lr F (Ag sp.ins i) args->sp.pre i=true->∃v,q args h=some (v,h)/\PC F (one (Ag sp.outs (sp.f i))) v
def Af(C:Ctx)(f:FuncId)(sp:Am):Prop:=UX C f sp\/AdL C f sp
theorem Af.of0{C:Ctx}{f:FuncId}{sp:Am}(h:UX C f sp):Af C f sp:=.inl h
theorem Af.zero{C:Ctx}{f:FuncId}{sp:Am}(h:Af C f sp)(hp:C.prim f=none):UX C f sp:=by
 rcases h with h|⟨q,a,_⟩
 ·exact h
 grind
theorem Af.go{C:Ctx}{f:FuncId}{sp:Am}(ok:Af C f sp)(F:Fz)(h:H)(args:List V)(i:(By sp.ins).T)(e:∀b cs,F b=some cs->∃t fz,h.get b=some (.cells cs t fz))(d:∀b o,h.get b=some o->b<h.nx)(c:Gh h)(j:Lr F (Ag sp.ins i) args)(hp:sp.pre i=true):
  ∃l,(((C.prim f=none/\∃i,C.fn f=some i)/\∃M,∀m,M<=m->Bh C m (.fn f args) h=some l)\/∃q x,C.prim f=some q/\q args h=some x/\l=[x])/\(sp.nd=false->∃x,l=[x])/\∀x∈l,h.nx<=x.2.nx/\(∀b,b<h.nx->x.2.get b=h.get b)/\(∀b o,x.2.get b=some o->b<x.2.nx)/\
   ∃F':Fz,(∀b cs,F b=some cs->F' b=some cs)/\(∀b cs,F' b=some cs->F b=some cs\/h.nx<=b)/\(∀b cs,F' b=some cs->∃t fz,x.2.get b=some (.cells cs t fz))/\
    PC F' (one<|Ag sp.outs<|sp.f i) x.1:=by
 rcases ok with ok|⟨q,p,a⟩
 ·obtain⟨l,M,g,k,n⟩:=ok.run F h args i e d c j hp;exact⟨l,.inl ⟨⟨ok.prim,ok.fn⟩,M,g⟩,k,n⟩
 ·obtain⟨v,g,k⟩:=a F h args i j hp;refine⟨[(v,h)],ah,(by simp),fun x r=>?_⟩;grind
theorem DC.sc:∀ {s:Sh} {x:s.T} {cs:List V},s.sc=true->DC F s x cs->DC F' s x cs
 | .int _,_,_,_,h=>by simpa only[DC]using h
 | .bool,_,_,_,h=>by simpa only[DC]using h
 | .str,_,_,_,h=>by simpa only[DC]using h
 | .list s,l,_,e,h=>by cases e
 | .pair a b,x,_,e,h=>by
  simp only[Sh.sc,ze]at e;obtain⟨c,d,rfl,f,g⟩:=h;exact⟨c,d,rfl,f.sc e.1,g.sc e.2⟩
 | .unit,_,_,_,h=>by simpa only[DC]using h
 | .nlist s,l,_,e,h=>by cases e
 | .fnv,_,_,_,h=>by simpa only[DC]using h
 | .ptr _,_,_,e,_=>by cases e
theorem TL:∀ {s:Sh} {x:s.T} {cs:List V},s.sc=true->BT F ρ N (flat s x) cs->Lr F' (flat s x) cs
 | .int k,x,cs,_,h=>fun ρ' N'=>by
  obtain⟨v,vs,rfl,f,rfl⟩:=h;exact⟨v,[],rfl,by simp only[PR]at f ⊢;exact f.sc rfl,rfl⟩
 | .bool,x,cs,_,h=>fun ρ' N'=>by
  obtain⟨v,vs,rfl,f,rfl⟩:=h;exact⟨v,[],rfl,by simp only[PR]at f ⊢;exact f.sc rfl,rfl⟩
 | .str,x,cs,_,h=>fun ρ' N'=>by
  obtain⟨v,vs,rfl,f,rfl⟩:=h;exact⟨v,[],rfl,by simp only[PR]at f ⊢;exact f.sc rfl,rfl⟩
 | .list s,x,cs,e,h=>by cases e
 | .pair a b,(x,y),cs,e,h=>fun ρ' N'=>by
  simp only[Sh.sc,ze]at e;have key:∀(ps g:List PV) (l:List V),BT F ρ N (ps++g) l->∃c d,l=c++d/\BT F ρ N ps c/\BT F ρ N g d:=by
   intro ps;induction ps with
   |nil=>intro g l i;exact⟨[],l,rfl,by simp,i⟩
   |cons p ps m=>
    intro g l i;obtain⟨v,vs,rfl,f,j⟩:=i;obtain⟨c,d,rfl,h3,h4⟩:=m g vs j;exact⟨v::c,d,rfl,by simp_all,h4⟩
  obtain⟨c,d,rfl,f,j⟩:=key _ _ _ h;exact(TL e.1 f ρ' N').append<|TL e.2 j ρ' N'
 | .unit,_,cs,_,h=>fun ρ' N'=>by simpa [flat]using h
 | .nlist s,x,cs,e,h=>by cases e
 | .fnv,x,cs,_,h=>fun ρ' N'=>by
  simp only[flat,BT]at h ⊢;grind [PR,D8]
 | .ptr _,_,_,e,_=>by cases e
theorem cZ{s:Sh}{x:s.T}{v:V}(e:s.sc=true)(h:PC F (Ce s x) v):PC F' (Ce s x) v:=by
 intro ρ' N';have h:=h ρ' N';cases s with
 |pair a b=>
  obtain⟨cs,rfl,c⟩:=h;exact⟨cs,rfl,TL e c ρ' N'⟩
 |unit=>simp_all [Pe.Ce,PR]
 |int k=>unfold Pe.Ce PR at h ⊢;exact h.sc rfl
 |bool=>unfold Pe.Ce PR at h ⊢;exact h.sc rfl
 |str=>unfold Pe.Ce PR at h ⊢;exact h.sc rfl
 |list s=>cases e
 |nlist s=>cases e
 |ptr s=>cases e
 |fnv=>
  unfold Pe.Ce at h ⊢;grind [PR,D8]
theorem eA:∀ {l:List Sh} {x:(By l).T} {vs:List V},l.all Sh.sc=true->Lr F (Ag l x) vs->Lr F' (Ag l x) vs
 |[],_,vs,_,h=>fun ρ' N'=>by have:=h ρ' N';simpa [Ag]using this
 |[a],x,vs,e,h=>fun ρ' N'=>by
  have f:=h ρ' N';obtain⟨v,g,rfl,j,rfl⟩:=f;simp only[yo,List.all_nil,Bool.and_true]at e;simp only[Ag,BY,D8,vf];refine cZ (F:=F) e (fun c d=>?_) ρ' N';have:=h c d;simp_all [Ag]
 |a::b::l,x,vs,e,h=>by
  have f:=h (fun _=>none) 0;obtain⟨v,g,rfl,_,_⟩:=f;have i:a.sc=true/\(b::l).all Sh.sc=true:=ah
  exact Lr.cons (cZ i.1 fun c d=>((BY ..).1<|h c d).1)<|eA i.2 fun c d=>((BY ..).1<|h c d).2
theorem Xl{l:List Sh}{x:(By l).T}{v:V}:PC F (one<|Ag l x) v↔∃vs,Lr F (Ag l x) vs/\v=(match vs with|[u]=>u|us=>.tup us):=by
 have c:∀ps:List PV,(∀u,ps≠[u])->(PC F (one ps) v↔∃vs,Lr F ps vs/\v=(match vs with|[u]=>u|us=>.tup us)):=by
  intro ps j;have i:one ps=.tup ps:=by
   simp_all [one]
  rw[i];constructor
  ·intro h;have d:=h (fun _=>none) 0;obtain⟨cs,rfl,g⟩:=d;refine⟨cs,fun ρ N=>?_,?_⟩
   ·have m:=h ρ N;grind [PR]
   ·have f:=g.len;split
    ·cases ps with
     |nil=>cases f
     |cons q k=>grind
    ·rfl
  ·rintro⟨vs,d,rfl⟩ ρ N;have f:=(d ρ N).len;split
   ·cases ps with
    |nil=>cases f
    |cons q k=>grind
   ·exact⟨_,rfl,d ρ N⟩
 match l,x with
 |[],x=>exact c [] (by simp)
 |[a],x=>
  simp only[Ag,one];constructor
  ·intro h;exact⟨[v],fun ρ N=>by simp only[BY,D8,vf];exact h ρ N,rfl⟩
  ·rintro⟨vs,d,rfl⟩ ρ N;have g:=d ρ N;simp only[BT]at g;grind
 |a::b::l,x=>
  refine c _<|fun u e=>?_;cases l<;>cases e
theorem gN{nd:Bool}{g:FuncId}{sp:Am}(_hsp:X.sp g=some sp)(s:Af X.C g sp)(J:nd=false->sp.nd=false){Q:PV->Ob->Prop}{n:Nat}{args:List PV}{k:PV->AQ->Tr}{args':List V}(m:Ev X Q n (vD sp args st k))(hr:Rel B h0 F ρ st fr h)(K:BT F ρ st.nx args args'):
  ∃l,Od X ρ h args' (.fn g) l/\(nd=false->∃x,l=[x])/\
   ∀x∈l,∃n',n'<=n/\∃r st',Ev X Q n' (k r st')/\∃F' ρ',PR F' ρ' st'.nx r x.1/\DB B h0 F ρ st.nx h st' fr x.2 F' ρ'/\(∀sp,X.sp g=some sp->∀b,b<h.nx->x.2.get b=h.get b):=by
 unfold vD at m;split at m
 case h_2=>grind [zy]
 rename_i c i R;rcases m.Fe with⟨v,d⟩|⟨_,d⟩
 case inr=>grind [zy]
 simp only[ze]at v;obtain⟨rfl,e⟩:=v;obtain⟨F1,g1,g2,g3⟩:=handed hr.sr K;obtain⟨l,p,hone,hall⟩:=s.go F1 h args' i g1.frz hr.sr.lt hr.sr.gh (g3 _ i R) e;have u:Od X ρ h args' (.fn g) l:=by
  rcases p with⟨o,M,p⟩|⟨q,x,o,O,rfl⟩
  ·exact .Bh ⟨rfl,o⟩ p
  ·exact .prim o O
 refine⟨l,u,ah,fun x S=>?_⟩;obtain⟨j,y,w,F',D,L,G,E⟩:=hall x S;refine⟨n,zw _,_,_,d,?_⟩;cases P:sp.outs.all Sh.sc with
 |true=>
  have I:PC F (one<|Ag sp.outs<|sp.f i) x.1:=by
   grind [Xl,eA]
  refine⟨F,ρ,I ρ _,⟨⟨hr.fp,?_⟩,Le.refl,j⟩,ah⟩;refine hr.sr.after y j w (by simp) ah<|fun b cs T=>?_;grind
 |false=>
  simp only[wg];obtain⟨U,A,z⟩:=DJ (args.flatMap zu) st;have a:Le F ρ st.nx F' ρ (Bu (args.flatMap zu) st).nx:=by
   grind [Le.eP]
  refine⟨F',ρ,E ρ _,⟨⟨⟨z.trans hr.fp.n,fun t=>?_⟩,?_⟩,a,j⟩,ah⟩
  ·have:(Bu (args.flatMap zu) st).get t=st.get t:=by unfold AQ.get;rw[A]
   rw[this];exact(hr.fp.slot t).mono a
  ·exact g1.after y j w D L G
structure Gi(C:Ctx)(f:FuncId)(w:LL):Prop where
 prim:C.prim f=none
 fn:∃i,C.fn f=some i
 len:∀i l,w.pre i l=true->(w.g i l).length=l.length
 run:∀(F:Fz) (h:H) (args:List V) (i:(By w.ins).T) (l:List w.el.T) (b:Nat) (cs:List V) (fz:Nat×Nat) (o:Nat),(∀b cs,F b=some cs->∃t fz,h.get b=some (.cells cs t fz))->(∀b o,h.get b=some o->b<h.nx)->Gh h->Lr F (Ag w.ins i) args->w.pre i l=true->
  h.get b=some (.cells cs w.ty fz)->DN F w.el l cs->fz.2<=fz.1->F b=none->(o=0\/o=w.el.sz)->
  ∃x M,(∀m,M<=m->Bh C m (.fn f (wj w.fst args (.sl b 0 l.length l.length o))) h=some [x])/\x.1=.tup []/\h.nx<=x.2.nx/\(∀c,c<h.nx->c≠b->x.2.get c=h.get c)/\(∀c y,x.2.get c=some y->c<x.2.nx)/\
   ∃F':Fz,(∀b cs,F b=some cs->F' b=some cs)/\(∀b cs,F' b=some cs->F b=some cs\/h.nx<=b)/\(∀b cs,F' b=some cs->∃t fz,x.2.get b=some (.cells cs t fz))/\
    ∃cs' fz',x.2.get b=some (.cells cs' w.ty fz')/\DN F' w.el (w.g i l) cs'/\fz'.2<=fz'.1
 nils:∀(F:Fz) (h:H) (args:List V) (i:(By w.ins).T),(∀b cs,F b=some cs->∃t fz,h.get b=some (.cells cs t fz))->(∀b o,h.get b=some o->b<h.nx)->Gh h->Lr F (Ag w.ins i) args->w.pre i []=true->
  ∃x M,(∀m,M<=m->Bh C m (.fn f (wj w.fst args .nils)) h=some [x])/\x.1=.tup []/\h.nx<=x.2.nx/\(∀c,c<h.nx->x.2.get c=h.get c)/\(∀c y,x.2.get c=some y->c<x.2.nx)/\
   ∃F':Fz,(∀b cs,F b=some cs->F' b=some cs)/\(∀b cs,F' b=some cs->F b=some cs\/h.nx<=b)/\(∀b cs,F' b=some cs->∃t fz,x.2.get b=some (.cells cs t fz))
theorem BT.split:∀ {a b:List PV} {vs:List V},BT F ρ N (a++b) vs->∃x y,vs=x++y/\BT F ρ N a x/\BT F ρ N b y
 |[],b,vs,h=>⟨[],vs,rfl,by simp,h⟩
 |p::a,b,vs,h=>by
  obtain⟨v,vs,rfl,d,c⟩:=h;obtain⟨x,y,rfl,h3,h4⟩:=c.split;exact⟨v::x,y,rfl,by simp_all,h4⟩
theorem SR.wrote{ob:Ob}(hr:SR B h0 F ρ N ob h){id b n:Nat}{o o':Obj}{x':O}(S:AR ob id=some o)(x:ρ id=some (b,n))(L:b<h.nx)(R:F b=none)(J:o'.frozen=false)(D:h'.get b=some x')(E:Yd F' ρ N n o' x')
  (z:∀c,c<h.nx->c≠b->h'.get c=h.get c) (U:h.nx<=h'.nx) (u:∀b o,h'.get b=some o->b<h'.nx) (M:∀b cs,F b=some cs->F' b=some cs)
  (C:∀b cs,F' b=some cs->F b=some cs\/h.nx<=b) (s:∀b cs,F' b=some cs->∃t fz,h'.get b=some (.cells cs t fz)):SR B h0 F' ρ N (Ep ob id o') h':=by
 have g:∀j,AR (Ep ob id o') j=if j=id then some o' else AR ob j:=(by grind [H6])
 have r:∀c,c<h.nx->F c=none->F' c=none:=fun c d Y=>by
  cases h1:F' c with
  |none=>rfl
  |some cs=>
   grind
 refine⟨fun j oj a=>?_,fun i j oi oj c m G P a h1 v=>?_,s,hr.own,fun j a=>?_,fun c d w=>?_,u,yg hr.le U,fun c cs d=>?_,hr.gl,fun c d=>?_⟩
 ·rw[g]at a;by_cases e:j=id
  ·grind
  ·rw[wc e]at a;obtain⟨c,m,y,h1,v,T,W,V⟩:=hr.obj j oj a;have l:c≠b:=fun A=>e<|hr.inj j id oj o c m n a S h1<|A▸x
   have d:=hr.lt c y v;refine⟨c,m,y,h1,by grind,T.mono<|Le.eP (ρ:=ρ) M,ah,fun e=>?_⟩;grind
 ·have f:∀k ok,AR (Ep ob id o') k=some ok->∃K,AR ob k=some K:=by
   grind
  obtain⟨_,p⟩:=f i oi P;obtain⟨_,q⟩:=f j oj a;exact hr.inj i j _ _ c m G p q h1 v
 ·rw[g]at a;by_cases e:j=id
  ·grind
  ·rw[wc e]at a;exact hr.dead j a
 ·rw[z c (Nat.lt_of_lt_of_le d hr.le)<|Ph (hr.own id b n x).2 d w];exact hr.old c d w
 ·rcases C c cs d with h1|h1
  ·exact hr.fo c cs h1
  ·exact .inr<|.inl<|yg hr.le h1
 ·obtain⟨p,q,I⟩:=hr.pn c d;have l:c≠b:=ah;exact⟨by rw[z c (hr.lt c _ p) l];exact p,q,I⟩
theorem rO{α:Type}{b:Bool}{a:List α}{x:α}{r:List α}(h:wsp b a=some (x,r)):a=wj b r x:=by
 unfold wsp at h;unfold wj;cases b with
 |true=>cases a with
  |nil=>cases h
  |cons y l=>cases h;rfl
 |false=>
  have h:(match a.reverse with|[]=>none|x::r=>some (x,r.reverse))=some (x,r):=h;cases e:a.reverse with
  |nil=>rw[e]at h;cases h
  |cons y l=>
   rw[e]at h;cases h;have:=wi List.reverse e;simpa using this
theorem BT.wj{b:Bool}{r:List PV}{x:PV}{vs:List V}(h:BT F ρ N (wj b r x) vs):∃a v,vs=Go.Pe.wj b a v/\BT F ρ N r a/\PR F ρ N x v:=by
 cases b with
 |true=>
  have h:BT F ρ N (x::r) vs:=h;simp only[BT]at h;obtain⟨v,a,rfl,c,d⟩:=h;exact⟨a,v,rfl,d,c⟩
 |false=>
  have h:BT F ρ N (r++[x]) vs:=h;obtain⟨a,y,rfl,c,d⟩:=h.split;obtain⟨v,_,rfl,hv,rfl⟩:=d;exact⟨a,v,rfl,c,hv⟩
theorem XW{nd:Bool}{g:FuncId}{w:LL}(hno:X.sp g=none)(a:Gi X.C g w){Q:PV->Ob->Prop}{n:Nat}{args:List PV}{k:PV->AQ->Tr}{args':List V}(q:Ev X Q n (Zo w args st k))(hr:Rel B h0 F ρ st fr h)(G:BT F ρ st.nx args args'):
  ∃l,Od X ρ h args' (.fn g) l/\(nd=false->∃x,l=[x])/\
   ∀x∈l,∃n',n'<=n/\∃r st',Ev X Q n' (k r st')/\∃F' ρ',PR F' ρ' st'.nx r x.1/\DB B h0 F ρ st.nx h st' fr x.2 F' ρ'/\(∀sp,X.sp g=some sp->∀b,b<h.nx->x.2.get b=h.get b):=by
 unfold Zo at q;split at q
 ·rename_i id sz nn r j;rw[rO j]at G;obtain⟨a1,v,rfl,z,O⟩:=G.wj;obtain⟨F1,g1,g2,g3⟩:=handed hr.sr z;split at q
  case h_2=>grind [zy]
  rename_i c i t s l U W;cases p:zr t w.ty with
  |false=>grind [zy]
  |true=>
  rw[p]at q;have p:=zz p;split at q
  case h_2=>grind [zy]
  rename_i l' S;obtain⟨e,rfl⟩:=CR S;cases e;rcases q.Fe with⟨D,f⟩|⟨_,f⟩
  case inr=>grind [zy]
  simp only[ze,w5]at D;obtain⟨⟨⟨rfl,d⟩,hn⟩,u⟩:=D;have u:=zz u;subst hn u p;obtain⟨e1,e2,e3⟩:=DJ (r.flatMap zu) st;obtain⟨b,m,x,h1,h2,⟨cs,fz,rfl,k1,k2,k3⟩,h4,_⟩:=g1.obj id _ W;simp only[PR]at O;obtain⟨o,ho',rfl⟩:∃o,(o=0\/o=w.el.sz)/\v=.sl b (0*w.el.sz) (List.length l) (List.length l) o:=by
   grind
  rw[Nat.zero_mul];obtain⟨x,M,T,q1,E,I,J,F',R,L,K,cs',fz',f4,Z,Y⟩:=a.run F1 h a1 i l b cs fz o g1.frz hr.sr.lt hr.sr.gh (g3 _ i U) d h2 k1 k2 (h4 rfl) ho';refine⟨[x],.Bh ⟨rfl,a.prim,a.fn⟩ T,(by simp),fun y P=>?_⟩;cases zn.1 P;refine⟨n,zw _,_,_,f,F',ρ,?_,⟨⟨⟨e3.trans hr.fp.n,fun t=>?_⟩,?_⟩,?_,E⟩,ah⟩
  ·rw[q1];simp[PR]
  ·have:((Bu (r.flatMap zu) st).setObj id<|.arr false w.ty w.el<|w.g i l).get t=st.get t:=by
    show((Bu (r.flatMap zu) st).fr.get t).getD .any=_;rw[e2];rfl
   rw[this];refine(hr.fp.slot t).mono ?_;show Le F ρ st.nx F' ρ (Bu (r.flatMap zu) st).nx;grind [Le.eP]
  ·exact g1.wrote W h1 (hr.sr.lt _ _ h2) (h4 rfl) rfl f4 ⟨cs',fz',rfl,Z,Y,by rw[<-k3];exact a.len i l d⟩ I E J R L K
  ·show Le F ρ st.nx F' ρ (Bu (r.flatMap zu) st).nx;grind [Le.eP]
 ·rename_i r j;rw[rO j]at G;obtain⟨a1,v,rfl,z,O⟩:=G.wj;subst O;obtain⟨F1,g1,g2,g3⟩:=handed hr.sr z;split at q
  case h_2=>grind [zy]
  rename_i c i U;rcases q.Fe with⟨D,f⟩|⟨_,f⟩
  case inr=>grind [zy]
  simp only[ze]at D;obtain⟨rfl,d⟩:=D;obtain⟨e1,e2,e3⟩:=DJ (r.flatMap zu) st;obtain⟨x,M,T,q1,E,I,J,F',R,L,K⟩:=a.nils F1 h a1 i g1.frz hr.sr.lt hr.sr.gh (g3 _ i U) d;have A:Le F ρ st.nx F' ρ (Bu (r.flatMap zu) st).nx:=by
   grind [Le.eP]
  refine⟨[x],.Bh ⟨rfl,a.prim,a.fn⟩ T,(by simp),fun y P=>?_⟩;cases zn.1 P;refine⟨n,zw _,_,_,f,F',ρ,?_,⟨⟨⟨e3.trans hr.fp.n,fun t=>?_⟩,?_⟩,A,E⟩,ah⟩
  ·rw[q1];simp[PR]
  ·have:(Bu (r.flatMap zu) st).get t=st.get t:=by unfold AQ.get;rw[e2]
   rw[this];exact(hr.fp.slot t).mono A
  ·exact g1.after I E J R L K
 grind [zy]
theorem HM(m:X.C.mg=false)(f:∀g sp,X.sp g=some sp->Af X.C g sp)(i:∀g w,X.ws g=some w->Gi X.C g w):∀(d:Nat) (nd:Bool) (h0:H0),FY B h0 X nd<|Cx X nd d
 |0,nd,h0=>by intro a;exact wh a zy
 |d+1,nd,h0=>by
  rename_i Q n S args st k;intro a F ρ fr h args' hr s;unfold Cx at a;cases S with
  |rnd id=>
   obtain⟨c,I,l,M,T,U,V⟩:=NB (HM m f i d nd) (HM m f i d false) a hr s;refine⟨l,.Bh I T,U,fun x E=>?_⟩;grind
  |fn g=>
  simp only at a;have conv:(∃l,Od X ρ h args' (.fn g) l/\(nd=false->∃x,l=[x])/\
   ∀x∈l,∃n',n'<=n/\∃r st',Ev X Q n' (k r st')/\∃F' ρ',PR F' ρ' st'.nx r x.1/\DB B h0 F ρ st.nx h st' fr x.2 F' ρ'/\(∀sp,X.sp g=some sp->∀b,b<h.nx->x.2.get b=h.get b))->
   ∃l,Od X ρ h args' (.fn g) l/\(nd=false->∃x,l=[x])/\
   ∀x∈l,∃n',n'<=n/\∃r st',Ev X Q n' (k r st')/\∃F' ρ',PR F' ρ' st'.nx r x.1/\DB B h0 F ρ st.nx h st' fr x.2 F' ρ'/\(∀G,Cal.fn g=.fn G->∀sp,X.sp G=some sp->∀b,b<h.nx->x.2.get b=h.get b):=by
   simp
  obtain⟨o,p⟩:∃o,X.sp g=o:=⟨_,rfl⟩;cases o with
  |some sp=>
   rw[p]at a;simp only at a;cases v:(nd|| !sp.nd)with
   |false=>grind [zy]
   |true=>
    rw[v]at a;exact conv (gN (nd:=nd) p (f g sp p) ah a hr s)
  |none=>
   rw[p]at a;obtain⟨L,D⟩:∃o,X.ws g=o:=⟨_,rfl⟩;cases L with
   |some w=>rw[D]at a;exact conv (XW p (i g w D) a hr s)
   |none=>
   rw[D]at a;simp only at a;cases j:X.esc.any (zr g)with
   |true=>
    rw[j]at a;unfold AgH at a;split at a
    case h_2=>grind [zy]
    rename_i id off;cases q:I3 (st.obj id)with
    |false=>grind [zy]
    |true=>
     rw[q]at a;obtain⟨W,t,v⟩:=List.any_eq_true.1 j;have e:=zz v;subst e;have hp:=X.escOk g t;obtain⟨o,ho⟩:=Yp q;obtain⟨b,n',z,q1,_⟩:=hr.sr.at ho;obtain⟨x,_,rfl,E,rfl⟩:=s;have u:=E;obtain rfl:=u.2 b n' q1;exact conv ⟨[(.ptr b off,h)],.prim hp rfl,(by simp),fun y R=>by
      cases zn.1 R;exact⟨n,zw _,_,st,a,F,ρ,E,DB.refl hr,(by simp)⟩⟩
   |false=>
   rw[j]at a;split at a
   case h_2=>grind [zy]
   rename_i hp A;obtain⟨P,l,M,J,K,O⟩:=J9 (HM m f i d nd) (HM m f i d false) m A hp p a hr s;exact conv ⟨l,.Bh ⟨rfl,P⟩ J,K,O⟩
theorem RM{st:AQ}:∀ {l:List Sh} {ps:List PV} {r:Bool×(By l).T},Dq st l ps=some r->l.length=ps.length
 |[],[],_,_=>rfl
 |[],_::_,_,h=>by cases h
 |[a],[p],_,_=>rfl
 |[a],[],_,h=>by cases h
 |[a],_::_::_,_,h=>by cases h
 |a::b::l,[],_,h=>by cases h
 |a::b::l,p::ps,_,h=>by
  unfold Dq at h;split at h
  case h_2=>cases h
  rename_i d c;have:=RM c;grind
def IG(outs:List Sh)(v:PV):List PV:=match outs with
 |[_]=>[v]
 |_=>match v with
  | .tup vs=>vs
  |_=>[v]
def KZ(outs:List Sh)(v:PV)(ob:Ob):Option (Bool×(By outs).T):=Dq ⟨0,.leaf,ob,0⟩ outs<|IG outs v
def Ends(X:AL)(t:Tr)(Q:PV->Ob->Prop):Prop:=∃n,Ev X Q n t
def Ac(sp:Am)(i:(By sp.ins).T)(v:PV)(ob:Ob):Prop:=∃y,KZ sp.outs v ob=some (true,y)/\y=sp.f i
theorem YY{v:PV}(h:lN v=true)(st st':AQ):B4 st v=B4 st' v:=by
 cases v<;>first|rfl|cases h
theorem JB(st st':AQ):∀ {l:List PV},l.all lN=true->Dn st l=Dn st' l
 |[],_=>rfl
 |v::l,h=>by
  rw[yo,ze]at h;unfold Dn;rw[YY h.1 st st',JB st st' h.2]
theorem Hk(st st':AQ):∀ {l:List Sh} {ps:List PV},ps.all Ta=true->Dq st l ps=Dq st' l ps
 |[],[],_=>rfl
 |[],_::_,_=>rfl
 |[_],[],_=>rfl
 |_::_::_,[],_=>rfl
 |[a],[p],h=>by
  grind [Ft,JB,Dq,Ta]
 |[_],_::_::_,_=>rfl
 |a::b::l,p::ps,h=>by
  rw[yo,ze]at h;unfold Dq Ft;rw[JB st st' h.1,Hk st st' h.2]
theorem Ae4{outs:List Sh}{v:PV}{ob:Ob}:KZ outs v (gcO v ob)=KZ outs v ob:=by
 unfold gcO;cases b:Acu v with
 |false=>rfl
 |true=>
  unfold KZ IG;by_cases c:∃a,v=.tup a
  ·obtain⟨a,rfl⟩:=c;split
   ·rfl
   ·exact Hk _ _ b
  ·have e:Ta v=true:=by
    cases v with
    |tup a=>grind
    |_=>exact b
   have d:[v].all Ta=true:=ah
   split
   ·exact Hk _ _ d
   ·split
    ·grind
    grind [Hk]
theorem fJ(K:X.C.mg=false)(k:∀g sp,X.sp g=some sp->Af X.C g sp)(hws:∀g w,X.ws g=some w->Gi X.C g w){f:FuncId}{sp:Am}{d:Nat}(O:X.C.spec f=none)(c:X.C.prim f=none)(T:X.sp f=none)
  (R:∀i,sp.pre i=true->Ends X (tree X sp.nd d f<|Ag sp.ins i) (Ac sp i)) (S:∃i,X.C.fn f=some i):Af X.C f sp:=by
 refine .of0 ⟨c,S,fun F h args i D z p m A=>?_⟩;obtain⟨n,Y⟩:=R i A;have hr:Rel h.nx ⟨h,F,[],fun _=>False⟩ F (fun _=>none) (Ax 0 [] [] 0) ⟨0,.leaf⟩ h:=by
  refine⟨⟨rfl,fun t=>?_⟩,⟨fun id o W=>(by cases W),(by simp),D,(by simp),fun _ _=>rfl,(by simp),z,zw _,ah,fun x I=>⟨z _ _<|p x I,fun e=>e,p x I⟩,(by simp)⟩⟩;show PR _ _ _ (((Fj []).get t).getD .any) _;grind [Fj,PM.ER,PR]
 obtain⟨_,l,M,hM,q,k⟩:=J9 (by grind [HM]) (by grind [HM]) K O c T Y hr<|m _ _;refine⟨l,M,hM,q,fun x I=>?_⟩;obtain⟨n',hn,r,st',he',F',ρ',hp,hw,_⟩:=k x I;have hq:=he'.ZM;obtain⟨y,hy,rfl⟩:=hq;rw[Ae4]at hy;have E:∀b,b<h.nx->x.2.get b=h.get b:=fun b v=>hw.rel.sr.old b v<|fun e=>e
 refine⟨hw.nx,E,hw.rel.sr.lt,?_⟩;have P:∃vs,BT F' ρ' st'.nx (IG sp.outs r) vs/\((∃a,sp.outs=[a])->vs=[x.1])/\((∀a,sp.outs≠[a])->(∃G,r=.tup G)->x.1=.tup vs):=by
  unfold IG;split
  ·simp_all
  ·split
   ·grind [PR]
   ·exact⟨[x.1],by simp_all,fun _=>rfl,ah⟩
 obtain⟨vs,j,U,V⟩:=P;obtain⟨F1,g1,g2,g3⟩:=handed (st:=st') hw.rel.sr j;have J:∀id,Eo (AQ.obj ⟨0,.leaf,st'.ob,0⟩ id) (st'.obj id):=fun id=>Eo.refl _
 have s:=g3 sp.outs _ (by rw[Ng J];exact hy);refine⟨F1,fun b cs v=>g2 b cs<|hw.le.fz b cs v,fun b cs v=>(g1.fo b cs v).imp_right<|fun h=>h.resolve_right<|fun e=>e,g1.frz,Xl.2 ⟨vs,s,?_⟩⟩;have u:sp.outs.length=(IG sp.outs r).length:=RM hy;have Z:=j.len;by_cases W:∃a,sp.outs=[a]
 ·grind
 ·have L:sp.outs.length≠1:=(by grind [List.length_eq_one_iff]);have ht:∃G,r=.tup G:=by
   cases r with
   |tup G=>simp
   |_=>
    exfalso;apply L;rw[u];unfold IG;split<;>rfl
  grind
end
section
variable {X:AL}{Q Q':PV->Ob->Prop}
theorem Ends.leaf{v:PV}{ob:Ob}(h:Q v ob):Ends X (.leaf v ob) Q:=⟨0,.leaf h⟩
theorem Ends.ite{c:Bool}{a b:Tr}(d:c=true->Ends X a Q)(e:c=false->Ends X b Q):Ends X (.ite c a b) Q:=by
 cases c with
 |true=>obtain⟨n,h⟩:=d rfl;exact⟨n,.ite (fun _=>h)<|by simp⟩
 |false=>obtain⟨n,h⟩:=e rfl;exact⟨n,.ite (by simp)<|fun _=>h⟩
theorem Ends.tt{c:Bool}{a b:Tr}(d:c=true)(h:Ends X a Q):Ends X (.ite c a b) Q:=(by grind [Ends.ite])
theorem Ends.ff{c:Bool}{a b:Tr}(d:c=false)(h:Ends X b Q):Ends X (.ite c a b) Q:=(by grind [Ends.ite])
def stepT(X:AL):Tr->Tr
 | .loop nd ro d f base b st k=>body X nd ro d f base b st k
 | .cut nd ro d f base b st k=>A1 X nd ro d f base b st k
 |t=>t
theorem Ends.step{t:Tr}(h:Ends X (stepT X t) Q):Ends X t Q:=by
 cases t with
 |loop=>obtain⟨n,h⟩:=h;exact⟨n+1,.loop h⟩
 |cut=>obtain⟨n,h⟩:=h;exact⟨n,.cut h⟩
 |_=>exact h
theorem Ends.eq{t a:Tr}(e:t=a)(h:Ends X a Q):Ends X t Q:=e▸h
theorem Ends.Ah{t a:Tr}(e:stepT X t=a)(h:Ends X a Q):Ends X t Q:=Ends.step<|e▸h
def Tr.L:Tr->Tr
 | .ite _ a _=>a
 | .both a _=>a
 |t=>t
def Tr.R:Tr->Tr
 | .ite _ _ b=>b
 | .both _ b=>b
 |t=>t
def re:Tr->AQ->Tr
 | .loop nd ro d f base b _ k,st=>.loop nd ro d f base b st k
 | .cut nd ro d f base b _ k,st=>.cut nd ro d f base b st k
 |t,_=>t
def Lp(r:Nat):Code->Option (Array Tmp×Code×Code)
 | .rangeFunc _ ps a b=>bif zr (BP b) r then some (ps,a,b)else Lp r b
 | .seq a b=>match Lp r a with
  |some x=>some x
  |none=>Lp r b
 | .cond _ a b=>match Lp r a with
  |some x=>some x
  |none=>Lp r b
 | .block _ b| .loop b| .scope b=>Lp r b
 |_=>none
def Adi(C:Ctx)(f:FuncId)(r:Nat):Array Tmp×Code×Code:=match C.fn f with
 |some i=>(Lp r i.body).getD (#[],.skip,.skip)
 |none=>(#[],.skip,.skip)
def AfW(C:Ctx)(f:FuncId)(r:Nat):Array Tmp:=(Adi C f r).1
def Acw(C:Ctx)(f:FuncId)(r:Nat):Code:=(Adi C f r).2.1
def nE(C:Ctx)(f:FuncId)(r:Nat):Code:=(Adi C f r).2.2
def Md:List (FuncId×Am)->FuncId->Option Am
 |[],_=>none
 |(g,s)::l,f=>bif zr g f then some s else Md l f
def Aae:List (FuncId×LL)->FuncId->Option LL
 |[],_=>none
 |(g,s)::l,f=>bif zr g f then some s else Aae l f
theorem cC{C:Ctx}:∀ {l:List (FuncId×LL)},(∀x∈l,Gi C x.1 x.2)->∀g sp,Aae l g=some sp->Gi C g sp
 |[],_,g,sp,h=>by cases h
 |(b,s)::l,c,g,sp,h=>by
  unfold Aae at h;cases a:zr b g with
  |true=>
   simp_all
  |false=>rw[a]at h;exact cC ah g sp h
def Agg:List (FuncId×List Nat)->FuncId->Nat->Bool
 |[],_,_=>false
 |(g,t)::l,f,r=>bif zr g f then t.any (zr r)else Agg l f r
def AgG:List (FuncId×List (Nat×List (Nat×Sh)))->FuncId->Nat->List (Nat×Sh)
 |[],_,_=>[]
 |(g,t)::l,f,r=>bif zr g f then fz1 t r else AgG l f r
 where fz1:List (Nat×List (Nat×Sh))->Nat->List (Nat×Sh)
 |[],_=>[]
 |(i,s)::l,r=>bif zr i r then s else fz1 l r
def AeG:List (FuncId×List (Nat×List Nat))->FuncId->Nat->List Nat
 |[],_,_=>[]
 |(g,t)::l,f,r=>bif zr g f then pl1 t r else AeG l f r
 where pl1:List (Nat×List Nat)->Nat->List Nat
 |[],_=>[]
 |(i,s)::l,r=>bif zr i r then s else pl1 l r
end
section
open Go.Proofs.Tryz (prog)
def Qz(C:Ctx)(q:Zs):Ctx:=⟨C.T,C.ng,C.fn,C.prim,q,false⟩
theorem Xj{C:Ctx}{P:Program}(a:C.Ok P){q:Zs}(h:HY P q):(Qz C q).Ok P where
 T:=a.T
 fn:=a.fn
 prim:=a.prim
 spec:=h
theorem Qs{C:Ctx}(a:G7 C)(q:Zs):G7 (Qz C q):=a
class Srt where
 q:Option (List V->H->Option (V×H))
def N9[Srt]:Zs:=fun f=>bif zr f 156 then Srt.q else none
def AY[Srt]:Ctx:=Qz C7<|orS N9<|orS fmtS<|orS rG<|orS (Ij MRp)<|Ij A7
theorem nM[Srt](a:HY prog N9):AY.Ok prog:=Xj Xz<|Qf a<|Qf AbX<|Qf kD<|Qf spR spA
theorem SH[Srt]:G7 AY:=Qs Jl _
def Ahb:List (FuncId×List (Nat×List Nat)):=
 [(6,[(14,[2,4,7,9,10]),(12,[2,4,7,8,9,10]),(10,[2,4,7,8,9,10]),(7,[2,3,4,7,8]),(4,[2,3,4,7])]),
 (7,[(18,[1,2,3,8]),(16,[1,2,3,8]),(14,[1,2,3,7]),(12,[1,2,3,7]),(9,[1,2,3,4,5,6]),(7,[1,2,3,4,5,6]),(5,[1,2,3,4]),(3,[1,2,3,4])]),
 (9,[(16,[1,6]),(17,[1,6]),(15,[1,6]),(11,[1,5]),(12,[1,5]),(10,[1,5]),(5,[1,3]),(6,[1,3]),(4,[1,3]),(3,[1])]),
 (10,[(38,[1,5,10]),(44,[1,5,10]),(42,[1,5,10,11]),(39,[1,5,10]),(37,[1,5,10]),(35,[1]),(33,[1]),(18,[1,5,6]),(30,[1,5,6,7]),(25,[1,5,6,7,8,9]),(26,[1,5,6,7,8,9]),(24,[1,5,6,7,8,9]),(23,[1,5,6,7,8]),(19,[1,5,6]),(17,[1,5,6]),(15,[1]),(13,[1]),(7,[1,3]),(8,[1,3]),(6,[1,3]),(5,[1]),(3,[1])]),
 (11,[(11,[1,2,3,9]),(12,[1,2,3,9]),(10,[1,2,3,9]),(5,[1,2,3,7]),(6,[1,2,3,7]),(4,[1,2,3,7]),(3,[1,2,3])]),
 (18,[(5,[1,2,4,5,11,12]),(3,[1,2,4,5,11,12])]),
 (30,[(5,[0,1])]),
 (34,[(11,[1,2,4,13,40,41,42]),(10,[1,2,4,13,40,41,42]),(8,[1,2,3,4]),(4,[1,2,3,4])]),
 (35,[(7,[0,3]),(8,[0,3]),(6,[0,3]),(5,[0]),(3,[0])]),
 (36,[(5,[1,2,3,4,9,10]),(3,[1,2,3,4,9,10])]),
 (37,[(5,[1,2,3,4]),(3,[1,2,3,4])]),
 (45,[(10,[1,4]),(11,[1,4]),(9,[1,4]),(5,[1,3]),(6,[1,3]),(4,[1,3]),(3,[1])]),
 (46,[(14,[1,4]),(17,[1,4]),(15,[1,4]),(13,[1,4]),(12,[1]),(10,[1]),(8,[1,3]),(6,[1,3]),(4,[1,3])]),
 (47,[(5,[0,1,5]),(6,[0,1,5]),(4,[0,1,5]),(3,[0,1])]),
 (48,[(20,[1,5,6]),(28,[1,5,6]),(26,[1,3,5,6]),(24,[1,3,5,6]),(21,[1,5,6]),(19,[1,5,6]),(17,[1]),(12,[1,4]),(13,[1,4]),(11,[1,4]),(10,[1]),(8,[1,3]),(6,[1,3]),(3,[1])]),
 (50,[(10,[2,3,8]),(11,[2,3,8]),(9,[2,3,8]),(5,[2,3,7]),(6,[2,3,7]),(4,[2,3,7]),(3,[2,3])]),
 (55,[(4,[7])]),
 (59,[(3,[2,3,4])]),
 (60,[(6,[5,6,7]),(3,[5,6,7]),(2,[5,6,7])]),
 (74,[(5,[0,1])]),
 (77,[(7,[4,5,6]),(13,[4,5,6,7]),(11,[4,5,6,7]),(8,[4,5,6]),(6,[4,5,6]),(3,[0])]),
 (78,[(16,[]),(11,[3,4]),(9,[3,4]),(7,[3,4]),(4,[0,3])]),
 (80,[(15,[8,9]),(13,[6,8,9]),(10,[5,6,7]),(7,[5,6]),(4,[5])]),
 (81,[(13,[6]),(10,[0,1,6]),(5,[0,1]),(3,[0,1])]),
 (83,[(9,[8,10]),(3,[2,3])]),
 (94,[(7,[0,3,4,5]),(6,[0,3,4,5]),(5,[0,3,4]),(3,[0,3,4])]),
 (95,[(5,[6,8])]),
 (99,[(6,[8,10,11,12,13,14])]),
 (100,[(14,[6,7,10,40,41,42]),(13,[6,7,10,12,13,40,41,42]),(10,[6,7,10,40,41,42]),(9,[6,7,10,40,41,42]),(4,[1,3,6,7,21,22,23]),(3,[1,3,6,7,21,22,23])]),
 (111,[(5,[0,3]),(6,[0,3]),(4,[0,3]),(3,[0])]),
 (112,[(7,[0,3]),(13,[0,3,4]),(11,[0,3,4]),(8,[0,3]),(6,[0,3]),(5,[0]),(3,[0])]),
 (115,[(35,[14,94,95,96]),(34,[14,16,94,95,96]),(30,[14,94,95,96]),(29,[14,94,95,96]),(27,[1]),(23,[1,8,47,48,49]),(22,[1,8,10,47,48,49]),(17,[1,8,47,48,49]),(16,[1,8,47,48,49]),(14,[1]),(10,[1,26,27,28]),(6,[1,26,27,28]),(5,[1,26,27,28]),(4,[1])]),
 (120,[(5,[2,3,4]),(3,[2,3,4])]),
 (122,[(4,[0,1,2,3,8,9]),(2,[0,1,2,3,8,9]),(1,[0,1,2,3,8,9])]),
 (126,[(5,[0,1,5]),(6,[0,1,5]),(4,[0,1,5]),(3,[0,1])]),
 (128,[(8,[7,8,9,10,11]),(9,[7,8,9,10,11]),(7,[7,8,9,10,11]),(6,[7,8,9,10]),(4,[7,8,9,10])]),
 (135,[(10,[0,3,4,11,12,13]),(8,[0,3,4,5,7,8]),(6,[0,3,4,5,7,8]),(3,[0,3,4,11,12,13]),(2,[0,3,4,11,12,13])]),
 (138,[(6,[0,2,3,4]),(5,[0,2,3,4]),(4,[0,2,3])]),
 (139,[(3,[0,3]),(4,[0,3]),(2,[0,3])]),
 (141,[(2,[0,1]),(1,[0,1])]),
 (142,[(5,[0,3,4]),(3,[0,3,4])]),
 (143,[(7,[0,2,3,4,5]),(4,[0,2,3,4]),(3,[0,2,3,4])]),
 (144,[(2,[0,1]),(1,[0,1])]),
 (145,[(3,[0,1,5]),(2,[0,1,5])]),
 (147,[(15,[8,9,10,11,12,13]),(39,[8,9,10,11,12,13,14]),(35,[8,9,10,11,12,13,14,19,20]),(33,[8,9,10,11,12,13,14,19,20]),(20,[8,9,10,11,12,13,14,15,16]),(27,[8,9,10,11,12,13,14,15,16,18]),(21,[8,9,10,11,12,13,14,15,16]),(19,[8,9,10,11,12,13,14,15,16]),(16,[8,9,10,11,12,13]),(14,[8,9,10,11,12,13]),(11,[0,8,9,10,11]),(10,[0,8,9,10,11]),(6,[0,1]),(3,[0,1])]),
 (148,[(10,[3]),(7,[1,3,4]),(5,[1,3,4]),(3,[1])]),
 (150,[(6,[0,1,5,6,7]),(4,[0,1,5,6,7])]),
 (151,[(7,[0,1,5]),(10,[0,1,5]),(8,[0,1,5]),(6,[0,1,5]),(5,[0,1]),(4,[])]),
 (152,[(5,[0,1,5,6,7]),(11,[0,1,5,6,7,8]),(6,[0,1,5,6,7]),(4,[0,1,5,6,7])]),
 (153,[(9,[0,1,5,6,7,8]),(7,[0,1,5,6,7,8]),(5,[0,1,5,6]),(3,[0,1,5,6])]),
 (154,[(6,[0,1,7,8]),(3,[0,1,7,8]),(2,[0,1,7,8])]),
 (158,[(4,[1,4,5,9,10,11]),(3,[1,4,5,9,10,11])]),
 (160,[(11,[2,4]),(5,[0,2,3,4]),(4,[0,2,3,4])]),
 (163,[(9,[5,6,7]),(6,[5,6,7,8])]),
 (164,[(10,[30,31,32]),(6,[30,31,32]),(5,[30,31,32]),(4,[1])]),
 (166,[(3,[0,6,7]),(2,[0,6])]),
 (167,[(6,[1,4]),(7,[1,4]),(5,[1,4]),(4,[1])]),
 (168,[(6,[0,1,7,8]),(3,[0,1,7,8]),(2,[0,1,7,8])]),
 (170,[(21,[6,10,11]),(19,[6,10,11]),(18,[6,10]),(13,[3,5,6,7,9]),(11,[3,5,6,7,9]),(7,[3,4,5,6]),(6,[3,4,5,6]),(3,[1])]),
 (171,[(3,[2,3,4]),(2,[2,3,4])]),
 (172,[(3,[2,3,4])]),
 (175,[(12,[0,1,5,6,21,22]),(11,[0,1,5,6,7,8,21,22]),(7,[0,1,5,6,21,22]),(6,[0,1,5,6,21,22]),(3,[0,1])]),
 (176,[(7,[0,1,5]),(11,[]),(8,[0,1,5]),(6,[0,1,5]),(5,[0,1]),(4,[])]),
 (177,[(10,[0,1,5,6,13,14]),(9,[0,1,5,6,7,8,13,14]),(5,[0,1,5,6,13,14]),(4,[0,1,5,6,13,14])]),
 (180,[(8,[1,5,6,7,8,20,21,22,27,28,29]),(7,[1,5,6,7,8,20,21,22,27,28,29]),(4,[1,5,20,21,22]),(3,[1,5,20,21,22])]),
 (184,[(12,[4,5,14,15]),(6,[2,3,4,5]),(5,[4,5,6,7])]),
 (188,[(3,[0,3]),(4,[0,3]),(2,[0,3])]),
 (189,[(6,[0,1,6,7,8]),(4,[0,1,6,7,8])]),
 (190,[(2,[0]),(1,[0])]),
 (191,[(5,[0,1,2,7,9,10]),(4,[0,1,2,7,9,10])]),
 (199,[(3,[1,2,4,5]),(6,[1,2,4,5]),(4,[1,2,4,5]),(2,[1,2,4,5])]),
 (202,[(6,[5,6,7]),(3,[5,6,7]),(2,[5,6,7])]),
 (207,[(13,[3,11,12,13]),(12,[3,5,11,12,13]),(10,[3,5,11,12,13]),(6,[3,11,12,13]),(5,[3,11,12,13]),(3,[0])]),
 (210,[(26,[9,11,12,13,96,97]),(22,[9,11,12,13,96,97]),(21,[9,11,12,13,96,97]),(19,[9,10,11,12,13,14]),(17,[9,10,11,12,13,14]),(11,[0,1]),(9,[0,1,6,7,8]),(7,[0,1,6,7,8]),(3,[0,1])]),
 (217,[(3,[0,3]),(2,[0,3])]),
 (233,[(20,[0]),(19,[6]),(16,[5,6,47,48,49]),(15,[5,6,8,47,48,49]),(11,[5,6,47,48,49]),(10,[5,6,47,48,49]),(8,[0,5])]),
 (237,[(15,[5,23,24,25]),(14,[5,9,23,24,25]),(11,[5,6,7,23,24,25]),(7,[5,23,24,25]),(6,[5,23,24,25]),(4,[0])]),
 (239,[(25,[2,8,9,10,14,15,16,17,18]),(24,[2,8,9,10,14,15,16,17,18]),(18,[2,8,9,10,11,13,14,15,16]),(17,[2,8,9,10,11,13,14,15,16]),(7,[0,1,2]),(5,[0,1,2]),(3,[0,1,2])]),
 (241,[(8,[1,5,12,13,14]),(4,[1,5,12,13,14]),(3,[1,5,12,13,14])]),
 (242,[(29,[0,1,5,6,17,156,157]),(28,[0,1,5,6,17,156,157]),(26,[0,1,5,6]),(16,[0,1,5,6,11,12,104,105]),(15,[0,1,5,6,11,12,104,105]),(11,[0,1,5,6,7]),(9,[0,1,5,6,7]),(8,[0,1,5,6,7,8])]),
 (265,[(3,[0,2,4]),(7,[0,2,4,5]),(4,[0,2,4]),(2,[0,2,4])]),
 (266,[(3,[0,1]),(2,[0,1]),(1,[0,1])]),
 (267,[(3,[0,1]),(2,[0,1]),(1,[0,1])]),
 (270,[(7,[6,7,8]),(3,[6,7,8]),(2,[6,7,8])])]
def AdR:List FuncId:=[278]
theorem ZQ[Srt]:∀g∈AdR,AY.prim g=some PK.noEsc.run:=fun g h=>by
 cases h with
 |head=>kernel_rfl
 |tail _ h=>cases h
def X7[Srt](l:List (FuncId×Am)):AL:=⟨AY,Md l,AeG Ahb,fun _ _=>false,fun _ _=>[],fun _=>none,AdR,ZQ⟩
def RW[Srt](cs:List (FuncId×List Nat))(fz:List (FuncId×List (Nat×List (Nat×Sh))))(t:List (FuncId×List (Nat×List Nat)))(l:List (FuncId×Am)):AL:=⟨AY,Md l,AeG<|t++Ahb,Agg cs,AgG fz,fun _=>none,AdR,ZQ⟩
def AL.wr(X:AL)(l:List (FuncId×LL)):AL:={ X with ws:=Aae l }
end
end Go.Pe
namespace Go.Sp
def first:List Int->Int
 |[]=>0
 |x::l=>if x≠0 then x else first l
def Cb(c:Bool)(e:Int):Int:=bif c then e else 0
end Go.Sp
namespace Go.Pe
open Go.Det
abbrev i64:Sh:=.int .i64
abbrev iK:Sh:=.list<|.int .i64
def GV:Am:=⟨[iK],fun l=>decide (l.length<=1000000),[i64],fun l=>Sp.first l,false⟩
def Gw:Am:=⟨[.bool,i64],fun _=>true,[i64],fun i=>Sp.Cb i.1 i.2,false⟩
def XR[Srt]:AL:=X7 []
end Go.Pe
namespace Go.Sp
abbrev Bf:=Rd
def has(l:List Bf)(x:Bf):Bool:=decide (x∈l)
end Go.Sp
namespace Go.Pe
open Go.Det
section
open List Int Prod
namespace T166
def T[Srt](s:Rd):Tr:=tree XR false 9 166<|Ag ([Sh.str]) s
def L1[Srt](v0 a:Rd):Tr:=re ((T []))<|Ax 37 [(0,.dat Sh.str v0),(6,.ptr 0 0)] [(0,Obj.siter a 0)] 1
theorem Aj[Srt](s:Rd):T s=L1 s s:=by kernel_rfl
def L2[Srt](v0 b:Rd)(a:Nat):Tr:=re ((stepT XR<|L1 [] []).L.L.L)<|Ax 37 [(0,.dat Sh.str v0),(6,.ptr 0 0)] [(0,Obj.siter b a)] 1
theorem Ak[Srt](v0 a:Rd):stepT XR (L1 v0 a)=let b':=L2 v0 a<|ym 0<|KV a 0;let b:Tr:=.leaf (.bl false) [];let d:Tr:=.ite true b<|.ite (rune a 0 !=95) (.di (rune a 0<48) b<|.di (rune a 0>57) b b') b';let c:Tr:=.di (rune a 0>=65) (.ite (!decide (rune a 0<=90)) d b') d;.di (0<length a) (.di (rune a 0>=97) (.di (rune a 0<=122) b' c) c) (.ite (!v0==[]) (.leaf (.dat Sh.bool<|decide ((length v0:Int)<=24)) []) b):=by kernel_rfl
theorem Az[Srt](v0 b:Rd)(a:Nat):stepT XR (L2 v0 b a)=let b':=L2 v0 b<|ym a<|KV b a;let c:Tr:=.leaf (.bl false) [];let e:Tr:=.ite ((↑a:Int)==0) c<|.ite (rune b a !=95) (.di (rune b a<48) c<|.di (rune b a>57) c b') b';let d:Tr:=.di (rune b a>=65) (.ite (!decide (rune b a<=90)) e b') e;.di (a<length b) (.di (rune b a>=97) (.di (rune b a<=122) b' d) d) (.ite (!v0==[]) (.leaf (.dat Sh.bool<|decide ((length v0:Int)<=24)) []) c):=by kernel_rfl
end T166
end
section
variable {X:AL}{Q:PV->Ob->Prop}
@[simp] theorem Afj:Ends X .fail Q↔False:=⟨fun⟨_,h⟩=>zy h,fun h=>h.elim⟩
@[simp] theorem HV{v:PV}{ob:Ob}:Ends X (.leaf v ob) Q↔Q v ob:=⟨fun⟨_,h⟩=>h.ZM,fun h=>.leaf h⟩
@[simp] theorem FB{c:Bool}{a b:Tr}:Ends X (.ite c a b) Q↔if c=true then Ends X a Q else Ends X b Q:=by
 constructor
 ·rintro⟨n,h⟩;rcases h.Fe with⟨d,h⟩|⟨d,h⟩
  ·rw[wd d];exact⟨n,h⟩
  ·rw[wc<|by simp[d]];exact⟨n,h⟩
 ·intro h;refine .ite (fun d=>?_)<|fun d=>?_
  ·rwa [wd d]at h
  ·rwa [wc<|by simp[d]]at h
theorem Ac.of{sp:Am}{i:(By sp.ins).T}{v:PV}{ob:Ob}{c:Bool}{y:(By sp.outs).T}(h:KZ sp.outs v ob=some (c,y))(a:c=true)(b:y=sp.f i):Ac sp i v ob:=⟨y,by rw[h,a],b⟩
@[simp] theorem ZH(s:Sh)(x:List s.T):Mf (Sh.leaves<|.list s) [.dat (.list s) x]=(true,[.dat (.list s) x]):=rfl
theorem wr(x:Int)(a: -9223372036854775808<=x)(b:x<=9223372036854775807):zc .i64 x=x:=IntWalk.i64_in x ⟨a,b⟩
theorem drop_cons{α:Type}{l r:List α}{x d:α}{i:Nat}(h:l.drop i=x::r):i<l.length/\l.getD i d=x/\l.drop (i+1)=r:=by
 have a:i<l.length:=by
  rcases yq i l.length with h1|h1
  ·exact h1
  ·rw[yn h1]at h;cases h
 have b:=zq a;rw[h]at b;simp only[ye]at b;exact⟨a,by simp[a,b.1],b.2.symm⟩
end
theorem Uc[Srt]:∀g sp,XR.sp g=some sp->Af AY g sp:=fun g sp h=>by cases h
abbrev Cv[Srt](X:AL):Prop:=∀g sp,X.sp g=some sp->Af AY g sp
theorem He[Srt]{X:AL}(n:X.C=AY)(b:∀g sp,X.sp g=some sp->Af AY g sp){f:FuncId}{sp:Am}{d:Nat}(e:AY.spec f=none)(a:AY.prim f=none)(c:X.sp f=none)
  (j:∀i,sp.pre i=true->Ends X (tree X sp.nd d f<|Ag sp.ins i) (Ac sp i)) (k:∃i,AY.fn f=some i) (m:∀g w,X.ws g=some w->Gi AY g w:=by intro _ _ h;cases h):Af AY f sp:=by
 have l:X.C.mg=false:=by rw[n];rfl
 rw[<-n]at*;exact fJ l b m e a c j k
theorem Bd{α:Type}{o:Option α}(h:o.isSome=true):∃i,o=some i:=Option.isSome_iff_exists.1 h
theorem BA[Srt]{X:AL}(b:Cv X){f:FuncId}{sp:Am}(d:∀i,sp.pre i=true->Ends X (tree X sp.nd 9 f<|Ag sp.ins i) (Ac sp i))(l:X.C=AY:=by rfl)(c:AY.spec f=none:=by kernel_rfl)(a:AY.prim f=none:=by kernel_rfl)(k:X.sp f=none:=by kernel_rfl)(e:(AY.fn f).isSome=true:=by kernel_rfl)(j:∀g w,X.ws g=some w->Gi AY g w:=by intro _ _ h;cases h):Af AY f sp:=He l b c a k d (Bd e) j
theorem drop_nil{α:Type}{l:List α}{i:Nat}(h:l.drop i=[])(a:i<=l.length):i=l.length:=by
 have:=wi List.length h;simp at this;omega
theorem qY{α:Type}{l r:List α}{x:α}{i:Nat}(h:l.drop i=x::r):x∈l:=by
 have:x∈l.drop i:=by rw[h];simp
 exact List.mem_of_mem_drop this
theorem QM(c:Int):yh c=true↔(97<=c/\c<=122)\/(65<=c/\c<=90)\/(48<=c/\c<=57)\/c=95:=by
 simp[yh,Sp.letter,or_assoc]
theorem Lw(c:Int):Sp.letter c=true↔(97<=c/\c<=122)\/(65<=c/\c<=90):=by
 simp[Sp.letter]
namespace T166
theorem loop[Srt](s:Rd)(b:s≠[]):∀(r:Rd) (i:Nat),s.drop i=r->i<=s.length->1<=i->
  ((r.all fun c=>yh (c.toNat:Int))=false->∀ob,Q (.bl false) ob)->((r.all fun c=>yh (c.toNat:Int))=true->∀ob,Q (.dat .bool<|decide ((s.length:Int)<=24)) ob)->Ends XR (L2 s s i) Q
 |[],i,h,n,p,k,j=>by
  have:=drop_nil h n;refine Ends.Ah (Az ..) (Ends.ff (by simp;omega)<|Ends.tt (by simpa using b) ?_);exact Ends.leaf<|j rfl _
 |x::r,i,h,n,p,k,j=>by
  obtain⟨f,o,t⟩:=drop_cons (d:=0) h;refine Ends.Ah (Az ..) (Ends.tt (by simpa using f) ?_);have w:((i:Int)==0)=false:=by simp;omega
  simp only[FB,HV,w,Bool.false_eq_true,vg,w5,Bool.not_eq_true',w9,bne_iff_ne,vc];have step:yh (x.toNat:Int)=true->KV s i=1->Ends XR (L2 s s<|ym i<|KV s i) Q:=by
   intro a u;rw[u];refine loop s b r (i+1) t f ae (fun e=>k<|by simp[e]) (fun e=>j (by simp[e];exact a))
  have no:yh (x.toNat:Int)=false->∀ob,Q (.bl false) ob:=fun a=>k (by simp[a])
  by_cases m:(s.getD i 0).toNat<128
  ·obtain⟨v,q⟩:=Xo f m;rw[v,o];have g:=QM (x.toNat:Int);generalize ((x.toNat:Nat):Int)=c at g step no ⊢;by_cases a:yh c=true
   ·have:=g.1 a;repeat' split
    all_goals first|exact step a q|(exfalso;omega)
   ·have l:yh c=false:=by simpa using a
    have:¬_:=fun h=>a<|g.2 h
    repeat' split
    all_goals first|exact no l _|(exfalso;omega)
  ·have hr:=SO f ae;have y:yh (x.toNat:Int)=false:=by
    have:¬yh (x.toNat:Int)=true:=fun h=>by
     have:=(QM _).1 h;rw[o]at m;omega
    simpa using this
   repeat' split
   all_goals first|exact no y _|(exfalso;omega)
end T166
theorem iL{α:Type}{l r:List α}{x:α}{i:Nat}(h:l.drop i=x::r):l.take (i+1)=l.take i++[x]:=by
 have b:=(drop_cons (d:=x) h).1;have a:=(drop_cons (d:=x) h).2.1;rw[List.take_add_one];congr 1;have:l[i]?=some x:=by
  have e:=zm b;rw[e];simp only[List.getD,e,Option.getD_some]at a;rw[a]
 rw[this];rfl
theorem AB{C:Ctx}:∀g sp,Md [] g=some sp->Af C g sp:=fun g sp h=>by cases h
theorem Aa{C:Ctx}{b:FuncId}{c:Am}{l:List (FuncId×Am)}(h0:Af C b c)(d:∀g sp,Md l g=some sp->Af C g sp):∀g sp,Md ((b,c)::l) g=some sp->Af C g sp:=by
 intro g sp h;unfold Md at h;cases a:zr b g with
 |true=>rw[a]at h;cases h;have:=zz a;subst this;exact h0
 |false=>rw[a]at h;exact d g sp h
theorem HE[Srt]{f:FuncId}{s t:List Sh}{g:(By s).T->(By t).T}{nd:Bool}(a:AY.prim f=none)(b:∃i,AY.fn f=some i):Af AY f ⟨s,fun _=>false,t,g,nd⟩:=
 .of0 ⟨a,b,fun F h args i _ _ _ _ hp=>by cases hp⟩
theorem FD{α:Type}(A B:List α)(x d:α){n:Nat}(h:A.length=n):(A++x::B).getD n d=x:=by
 subst h;simp[List.getD]
theorem DF{α:Type}(A B:List α)(x y:α){n:Nat}(h:A.length=n):(A++x::B).set n y=A++y::B:=by
 subst h;simp
end Go.Pe
namespace Go.Sp
open Go.Pe (FJ imax)
theorem pA(a b:Int):FJ a b=min a b:=by unfold FJ;split<;>omega
abbrev Ar:Nat:=18446744073709551616
abbrev AM:=Int×List Int
def Db(l:List Int):Bool:=decide (l.length<=20000)&&l.all fun d=>decide (0<=d)&&decide (d<18446744073709551616)
def hW(l:List Int):Bool:=Db l&&decide (l.length<=9000)
def nzW(l:List Int):Bool:=decide (l.getLast?≠some 0)
def Cy(l:List Int):Bool:=Db l&&nzW l
def Aw(l:List Int):Int:=val Ar l
def BD(n:Int):List Int:=dg Ar n
def u64(n:Int):Bool:=decide (0<=n)&&decide (n<18446744073709551616)
def Cn(n:Int):Bool:=decide (-9223372036854775808<=n)&&decide (n<9223372036854775808)
def Ai(n:Int):Int:=if n<0 then -n else n
theorem Al(n:Int):Ai n=(n.natAbs:Int):=by unfold Ai;split<;>omega
def vI(a:AM):Int:=if a.2=[]then a.1 else if a.1<0 then -Aw a.2 else Aw a.2
def Ds(a:AM):Bool:=Cn a.1&&(decide (a.2=[])||(Cy a.2&&(decide (a.1=1)||decide (a.1= -1))&&decide (9223372036854775808<=Aw a.2)))
def Dd(n:Int):AM:=if -9223372036854775808<n/\n<9223372036854775808 then(n,[])else(if n<0 then -1 else 1,BD<|Ai n)
def C8(n:Int):Int:=(Dd n).1
def C6(n:Int):List Int:=(Dd n).2
def sg(neg:Bool)(v:Int):Int:=if neg=true then -v else v
def IN(x y c:Int):Int:=(x+y+c) % 18446744073709551616
def RG(x y c:Int):Int:=(x+y+c)/18446744073709551616
def VB(x y c:Int):Int:=(x-y-c) % 18446744073709551616
def RX(x y c:Int):Int:=if x<y+c then 1 else 0
def I4(x y:Int):Int:=(x*y) % 18446744073709551616
def SB(x y:Int):Int:=(x*y)/18446744073709551616
def CC(a b:Int):Int:=if a<b then -1 else if a>b then 1 else 0
def Oy(n:Int):Int:=if n<0 then -1 else if n>0 then 1 else 0
def ES(a b:AM):AM:=if a.2=[]/\b.2=[]/\Cn (a.1+b.1)=true then(a.1+b.1,[])else Dd<|vI a+vI b
def Dt(a:AM):AM:=if a.2=[]/\a.1≠ -9223372036854775808 then(-a.1,[])else Dd<| -vI a
def Xm(a:AM):AM:=if a.1<0 then Dt a else a
def OF(a b:AM):AM:=ES a<|Dt b
def F4(a b:AM):AM:=Dd<|vI a*vI b
def EX(a:AM):Int:=(Dt a).1
def EV(a:AM):List Int:=(Dt a).2
def PB(a:AM):Int:=(Xm a).1
def Rq(a:AM):List Int:=(Xm a).2
def KU(a b:AM):Int:=(ES a b).1
def K3(a b:AM):List Int:=(ES a b).2
def Z7(a b:AM):Int:=(OF a b).1
def cH(a b:AM):List Int:=(OF a b).2
def Fq(a b:AM):Int:=(F4 a b).1
def FC(a b:AM):List Int:=(F4 a b).2
end Go.Sp
namespace Go.Pe
open Sp
open Go.Det
abbrev A4:Sh:=.pair (.int .i64)<|.nlist<|.int .u64
abbrev u64:Sh:=.int .u64
abbrev Du:Sh:=.list<|.int .u64
abbrev wU:Sh:=.nlist<|.int .u64
def Zq:Am:=⟨[u64,u64,u64],fun i=>Sp.u64 i.1&&Sp.u64 i.2.1&&decide (0<=(i.2.2:Int))&&decide ((i.2.2:Int)<=1),[u64,u64],fun i=>(IN i.1 i.2.1 i.2.2,RG i.1 i.2.1 i.2.2),false⟩
def YV:Am:=⟨[u64,u64,u64],fun i=>Sp.u64 i.1&&Sp.u64 i.2.1&&decide (0<=(i.2.2:Int))&&decide ((i.2.2:Int)<=1),[u64,u64],fun i=>(VB i.1 i.2.1 i.2.2,RX i.1 i.2.1 i.2.2),false⟩
def T1:Am:=⟨[u64,u64],fun i=>Sp.u64 i.1&&Sp.u64 i.2,[u64,u64],fun i=>(SB i.1 i.2,I4 i.1 i.2),false⟩
def XX:Am:=⟨[i64],fun n=>Cn n,[u64],fun n=>Ai n,false⟩
def Q1:Am:=⟨[A4],fun a=>Sp.Ds a,[.bool,Du],fun a=>(decide (Sp.vI a<0),BD<|Ai<|Sp.vI a),false⟩
def mB:Am:=⟨[.bool,Du],fun i=>Cy i.2,[A4],fun i=>(C8<|Sp.sg i.1<|Aw i.2,C6<|Sp.sg i.1<|Aw i.2),false⟩
def Yu:Am:=⟨[Du],fun l=>Db l,[Du],fun l=>AD l,false⟩
def dQ:Am:=⟨[Du,Du],fun i=>Cy i.1&&Cy i.2,[i64],fun i=>CC (Aw i.1)<|Aw i.2,false⟩
def qI:Am:=⟨[Du,Du],fun i=>Sp.hW i.1&&Sp.hW i.2,[Du],fun i=>BD<|Aw i.1+Aw i.2,false⟩
def nR:Am:=⟨[Du,Du],fun i=>Db i.1&&Db i.2&&decide (Aw i.2<=Aw i.1),[Du],fun i=>BD<|Aw i.1-Aw i.2,false⟩
def qP:Am:=⟨[Du,Du],fun i=>Sp.hW i.1&&Sp.hW i.2,[Du],fun i=>BD<|Aw i.1*Aw i.2,false⟩
def mL[Srt]:AL:=X7 []
def LZ[Srt]:AL:=X7 [(179,XX),(216,Zq),(218,YV),(217,Yu),(178,T1)]
def XI2[Srt]:AL:=X7 [(173,Q1),(174,mB),(175,qI),(177,nR),(176,dQ),(180,qP),(178,T1),(179,XX)]
theorem SD{F:Fz}{x y c:Int}{args:List V}(h:Lr F (Ag [Pe.u64,Pe.u64,Pe.u64] (x,y,c)) args):args=[.int .u64 x,.int .u64 y,.int .u64 c]:=by
 have:=h (fun _=>none) 0;simp only[Ag,Ce,BT]at this;obtain⟨a,j,rfl,e,b,k,rfl,f,d,i,rfl,g,rfl⟩:=this;simp only[PR,DC,ye,vf]at e f g;rw[e,f,g]
theorem A6{n:Int}(h:Sp.u64 n=true):0<=n/\n<18446744073709551616:=by
 unfold Sp.u64 at h;rw[ze,w5,w5]at h;exact h
namespace T216
theorem ok[Srt]:Af AY 216 Zq:=by
 refine .inr ⟨PK.add64.run,by kernel_rfl,fun F h args i j hp=>?_⟩;obtain⟨x,y,c⟩:=i;have hp:(Sp.u64 x&&Sp.u64 y&&decide (0<=c)&&decide (c<=1))=true:=hp;rw[ze,ze,ze,w5,w5]at hp;obtain⟨⟨⟨e,f⟩,c0⟩,g⟩:=hp;have e:=A6 e;have f:=A6 f;have:=SD j;subst this;obtain⟨a,rfl⟩:=zj e.1;obtain⟨b,rfl⟩:=zj f.1;obtain⟨d,rfl⟩:=zj c0;have g:(d:Int)<=1:=g;have k:Nat.ble d 1=true:=Nat.ble_eq_true_of_le ae;refine⟨.tup [.int .u64<|.ofNat<|(a+b+d) % uG,.int .u64<|.ofNat<|(a+b+d)/uG],?_,fun ρ N=>?_⟩
 ·show(bif Nat.ble d 1 then _ else _)=_;rw[k];rfl
 ·show PR F ρ N (.tup [.dat Pe.u64<|IN a b d,.dat Pe.u64<|RG a b d]) _;simp only[PR,BT];refine⟨_,rfl,_,_,rfl,?_,_,_,rfl,?_,rfl⟩<;>simp[DC,uG,IN,RG]
end T216
namespace T218
theorem ok[Srt]:Af AY 218 YV:=by
 refine .inr ⟨PK.sub64.run,by kernel_rfl,fun F h args i m hp=>?_⟩;obtain⟨x,y,c⟩:=i;have hp:(Sp.u64 x&&Sp.u64 y&&decide (0<=c)&&decide (c<=1))=true:=hp;rw[ze,ze,ze,w5,w5]at hp;obtain⟨⟨⟨j,g⟩,c0⟩,k⟩:=hp;have j:=A6 j;have g:=A6 g;have:=SD m;subst this;obtain⟨a,rfl⟩:=zj j.1;obtain⟨b,rfl⟩:=zj g.1;obtain⟨d,rfl⟩:=zj c0;have k:(d:Int)<=1:=k;have l:Nat.ble d 1=true:=Nat.ble_eq_true_of_le ae;refine⟨.tup [.int .u64<|.ofNat<|(a+uG-b-d) % uG,.int .u64<|.ofNat<|bif Nat.blt a (b+d)then 1 else 0],?_,fun ρ N=>?_⟩
 ·show(bif Nat.ble d 1 then _ else _)=_;rw[l];rfl
 ·show PR F ρ N (.tup [.dat Pe.u64<|VB a b d,.dat Pe.u64<|RX a b d]) _;simp only[PR,BT];refine⟨_,rfl,_,_,rfl,?_,_,_,rfl,?_,rfl⟩
  ·simp only[DC,uG,VB,ye,V.int.injEq,vf,true_and];have e:(((a+18446744073709551616-b-d) % 18446744073709551616:Nat):Int)=((a:Int)-b-d) % 18446744073709551616:=ae
   exact e
  ·simp only[DC,RX,ye,V.int.injEq,vf,true_and];rw[Hz];by_cases f:a<b+d
   ·rw[wd ae];simp[f]
   ·rw[wc ae];simp[f]
end T218
end Go.Pe
namespace Go.Sp
theorem AK(b:Int):∀(l:List Int) (i:Nat),val b (l.take<|i+1)=val b (l.take i)+b^i*l.getD i 0
 |[],i=>by simp[val]
 |x::l,0=>by
  show x+b*val b (l.take 0)=0+b^0*x;simp[val]
 |x::l,i+1=>by
  have:=AK b l i;show x+b*val b (l.take<|i+1)=x+b*val b (l.take i)+b^(i+1)*l.getD i 0;rw[this,zx,Int.pow_succ,Int.mul_comm (b^i) b,yk,yp]
theorem Jd{l:List Int}(h:Db l=true):l.length<=20000/\AA Ar l:=by
 unfold Db at h;rw[ze,w5,List.all_eq_true]at h;exact⟨h.1,fun d a=>by
  have:=h.2 d a;rw[ze,w5,w5]at this;exact this⟩
theorem EG{l:List Int}(a:l.length<=20000)(c:AA Ar l):Db l=true:=by
 unfold Db;rw[ze,w5,List.all_eq_true];exact⟨a,fun d b=>by
  have:=c d b;rw[ze,w5,w5];exact this⟩
theorem bI{l:List Int}(h:hW l=true):l.length<=9000/\AA Ar l:=by
 unfold hW at h;rw[ze,w5]at h;exact⟨h.2,(Jd h.1).2⟩
theorem A0{l:List Int}(h:AA Ar l)(i:Nat):u64 (l.getD i 0)=true:=by
 unfold u64;rw[ze,w5,w5];rcases yq i l.length with a|a
 ·have:l.getD i 0∈l:=by rw[zg,zm a];exact List.getElem_mem a
  exact h _ this
 ·rw[zg,yc a];exact⟨by decide,by decide⟩
theorem A6{n:Int}(h:u64 n=true):0<=n/\n<18446744073709551616:=by
 unfold u64 at h;rw[ze,w5,w5]at h;exact h
theorem C4{n:Int}(a:0<=n)(b:n<18446744073709551616):u64 n=true:=by
 unfold u64;rw[ze,w5,w5];exact⟨a,b⟩
theorem El{l:List Int}{x:Int}(h:AA Ar l)(b:u64 x=true):AA Ar (l++[x]):=by
 intro d a;rw[List.mem_append,zn]at a;rcases a with a|rfl
 ·exact h d a
 ·exact A6 b
theorem MN{x y c:Int}(b:u64 x=true)(a:u64 y=true)(d:0<=c/\c<=1):u64 (IN x y c)=true/\(0<=RG x y c/\RG x y c<=1)/\IN x y c+18446744073709551616*RG x y c=x+y+c:=by
 have:=A6 b;have:=A6 a;unfold IN RG;exact⟨C4 ae ae,⟨by omega,by omega⟩,by omega⟩
theorem HK{x y c:Int}(b:u64 x=true)(a:u64 y=true)(d:0<=c/\c<=1):u64 (VB x y c)=true/\(0<=RX x y c/\RX x y c<=1)/\VB x y c-18446744073709551616*RX x y c=x-y-c:=by
 have:=A6 b;have:=A6 a;unfold VB RX;refine⟨C4 ae ae,?_,?_⟩<;>split<;>omega
theorem Fp(l:List Int)(x:Int):val Ar (l++[x])=val Ar l+(Ar:Int)^l.length*x:=by
 rw[Df];simp[val]
theorem Ms(i:Nat)(c:Int):(Ar:Int)^(i+1)*c=(Ar:Int)^i*(18446744073709551616*c):=by
 rw[Int.pow_succ,yk];rfl
theorem J1(p:List Int)(n i:Nat)(x:Int)(h:p.length=i)(a:i<n):(p++zf (n-i) (0:Int)).set i x=(p++[x])++zf (n-(i+1)) 0:=by
 have:n-i=(n-(i+1))+1:=ae
 rw[this,List.replicate_succ,Pe.DF p _ 0 x h,yj];rfl
theorem ML{l:List Int}(h:AA Ar l):AD l=BD (Aw l):=cQ af h
end Go.Sp
namespace Go.Pe
open Sp
open Go.Det
section
open List Int Prod
namespace T179
def T[Srt](n:Int):Tr:=tree mL false 9 179<|Ag ([zi z6]) n
theorem Aj[Srt](n:Int):T n=.di (n<0) (.leaf (.dat (zi zd)<|zc .u64<|zc .i64<|0-n) []) (.leaf (.dat (zi zd)<|zc .u64 n) []):=by kernel_rfl
end T179
namespace T173
def T[Srt](a:AM):Tr:=tree LZ false 9 173<|Ag ([A4]) a
theorem Aj[Srt](a:AM):T a=.di (0<length (snd a)) (.leaf (.tup [.dat Sh.bool<|decide (fst a<0),.dat wU<|snd a]) []) (.ite (fst a==0) (.leaf (.tup [.bl false,.nil]) [])<|.ck (Cn<|fst a)<|.leaf (.tup [.dat Sh.bool<|decide (fst a<0),.sl (ym 0 1) 1 0 1 none])<|[(ym 0 1,.arr false 217 (zi zd) [Ai<|fst a]),(0,.box [.dat i64<|fst a,.dat wU<|snd a])]):=by kernel_rfl
end T173
namespace T174
def T[Srt](neg:Bool)(w:List Int):Tr:=tree LZ false 9 174<|Ag ([Sh.bool,zl<|zi zd]) (neg,w)
theorem Aj[Srt](neg:Bool)(w:List Int):T neg w=let d:=decide (getD w 0 0<=9223372036854775807);let b:=(length w:Int);let e:=zl<|zi zd;let b':Tr:=.ite neg (.leaf (z8 [.dat i64 (-1:Int),.dat e w]) [])<|.leaf (z8 [.dat i64 (1:Int),.dat e w]) [];let a:=decide (0<b);let c:Tr:=.ite (b==1) (.ck a<|.ite d (.ck a<|.leaf (z8 [.dat i64<|zc .i64<|getD w 0 0,.nil]) []) b') b';.ite (b==0) (.leaf (z8 [.dat i64 (0:Int),.nil]) []) (.ite (b==1) (.ck a<|.ite d (.ite neg (.ck a<|.leaf (z8 [.dat i64<|zc .i64<|0-zc .i64 (getD w 0 0),.nil]) []) c) c) c):=by kernel_rfl
end T174
namespace T217
def T[Srt](w:List Int):Tr:=tree mL false 9 217<|Ag ([zl<|zi zd]) w
def L1[Srt](v0:List Int)(v3:Int):Tr:=re ((T []))<|Ax 21 [(0,.dat (zl<|zi zd) v0),(3,.dat i64 v3)] [] 0
theorem Aj[Srt](w:List Int):T w=L1 w ((length w:Int)):=by kernel_rfl
theorem Ak[Srt](v0:List Int)(v3:Int):stepT mL (L1 v0 v3)=let a:Tr:=.ck (decide (0<=v3)&&decide (0<=toNat v3)&&decide (toNat v3<=length v0))<|.leaf (.dat (zl<|zi zd)<|take (toNat v3) v0) [];let b':=zc .i64<|v3-1;.di (v3>0) (.ck (decide (0<=zc .i64 (v3-1))&&decide (zc .i64 (v3-1)<(length v0:Int)))<|.ite (getD v0 (toNat b') 0==0) (L1 v0 b') a) a:=by kernel_rfl
end T217
namespace T176
def T[Srt](a b:List Int):Tr:=tree mL false 9 176<|Ag ([zl<|zi zd,zl<|zi zd]) (a,b)
def L1[Srt](v0 v1:List Int)(v5:Int):Tr:=re ((T [] []).R)<|Ax 41 [(0,.dat (zl<|zi zd) v0),(1,.dat (zl<|zi zd) v1),(5,.dat i64 v5)] [] 0
theorem Aj[Srt](a b:List Int):T a b=let c:=(length a:Int);.ite (c !=(length b:Int)) (.di (c<(length b:Int)) (.leaf (.dat i64 (-1:Int)) [])<|.leaf (.dat i64 (1:Int)) []) (L1 a b<|zc .i64<|c-1):=by kernel_rfl
theorem Ak[Srt](v0 v1:List Int)(v5:Int):stepT mL (L1 v0 v1 v5)=let a:=decide (0<=v5)&&decide (v5<(length v0:Int));let b':=decide (0<=v5)&&decide (v5<(length v1:Int));.di (v5>=0) (.ck a<|.ck b'<|.ite (getD v0 (toNat v5) 0 !=getD v1 (toNat v5) 0) (.ck a<|.ck b'<|.di (getD v0 (toNat v5) 0<getD v1 (toNat v5) 0) (.leaf (.dat i64 (-1:Int)) [])<|.leaf (.dat i64 (1:Int)) [])<|L1 v0 v1<|zc .i64<|v5-1) (.leaf (.dat i64 (0:Int)) []):=by kernel_rfl
end T176
namespace T175
def T[Srt](x y:List Int):Tr:=tree LZ false 9 175<|Ag ([zl<|zi zd,zl<|zi zd]) (x,y)
def L1[Srt](v0 v1:List Int)(a:Nat)(e c b:Int)(d:List Int):Tr:=re ((T [] []).L.L)<|Ax 54 [(0,.dat (zl<|zi zd) v0),(1,.dat (zl<|zi zd) v1),(5,.sl 0 1 0 a none),(6,.dat (zi zd) e),(21,.dat i64 c),(22,.dat i64 b)] [(0,.arr false 217 (zi zd) d)] 1
theorem Aj[Srt](x y:List Int):T x y=let a:=(length x:Int);let b':=(length y:Int);let b:=zc .i64<|b'+1;let c:=zc .i64<|a+1;.di (a<b') (.ck (decide (0<=zc .i64 (b'+1))&&decide (zc .i64 (b'+1)=zc .i64 (b'+1))&&decide (8*toNat b<=281474976710656)&&decide (zc .i64 (b'+1)<9223372036854775808))<|L1 y x (toNat b) 0 b' 0<|replicate (toNat b) 0) (.ck (decide (0<=zc .i64 (a+1))&&decide (zc .i64 (a+1)=zc .i64 (a+1))&&decide (8*toNat c<=281474976710656)&&decide (zc .i64 (a+1)<9223372036854775808))<|L1 x y (toNat c) 0 a 0<|replicate (toNat c) 0):=by kernel_rfl
theorem Ak[Srt](v0 v1:List Int)(b:Nat)(d c a:Int)(e:List Int):stepT LZ (L1 v0 v1 b d c a e)=let f:=getD v0 (toNat a) 0;let b':=(length v0:Int);let i:=getD v1 (toNat a) 0;let l:=decide (0<=a)&&decide (a<(↑b:Int));let o:=decide ((0:Sh.T (By [u64]))<=d);let n:=decide (d<=(1:Sh.T (By [u64])));let j:=decide (toNat a<length e);let m:=decide (a<(length v1:Int));let k:=zc .i64<|a+1;let g:=set e (toNat b') d;let h':=decide (0<=a)&&decide (a<b');.di (a<c) (.ite m (.ck (decide (0<=a)&&m)<|.ck h'<|.ck (Sp.u64 f&&Sp.u64 i&&o&&n)<|.ck l<|.ck j<|L1 v0 v1 b (RG f i d) c k<|set e (toNat a)<|IN f i d)<|.ck h'<|.ck (Sp.u64 f&&Sp.u64 0&&o&&n)<|.ck l<|.ck j<|L1 v0 v1 b (RG f 0 d) c k<|set e (toNat a)<|IN f 0 d) (.ck (decide (0<=b')&&decide (b'<(↑b:Int)))<|.cd (toNat b'<length e)<|.ck (decide (0+b<=length g)&&true&&Db (take b g))<|.leaf (.dat (zl<|zi zd)<|AD<|take b g) []):=by kernel_rfl
end T175
namespace T177
def T[Srt](x y:List Int):Tr:=tree LZ false 9 177<|Ag ([zl<|zi zd,zl<|zi zd]) (x,y)
def L1[Srt](v0 v1:List Int)(c:Nat)(e b a:Int)(d:List Int):Tr:=re ((T [] []).L)<|Ax 41 [(0,.dat (zl<|zi zd) v0),(1,.dat (zl<|zi zd) v1),(5,.sl 0 1 0 c none),(6,.dat (zi zd) e),(13,.dat i64 b),(14,.dat i64 a)] [(0,.arr false 217 (zi zd) d)] 1
theorem Aj[Srt](x y:List Int):T x y=let a:=(length x:Int);.ck (decide (0<=a)&&decide (a=a)&&decide (8*toNat a<=281474976710656)&&decide (a<9223372036854775808)) (L1 x y (toNat a) 0 a 0<|replicate (toNat a) 0):=by kernel_rfl
theorem Ak[Srt](v0 v1:List Int)(b:Nat)(e c a:Int)(d:List Int):stepT LZ (L1 v0 v1 b e c a d)=let f:=getD v0 (toNat a) 0;let b':=decide (0<=a)&&decide (a<(length v0:Int));let g:=getD v1 (toNat a) 0;let i:=decide (0<=a)&&decide (a<(↑b:Int));let m:=decide ((0:Sh.T (By [u64]))<=e);let l:=decide (e<=(1:Sh.T (By [u64])));let k:=decide (toNat a<length d);let h':=decide (a<(length v1:Int));let j:=zc .i64<|a+1;.di (a<c) (.ite h' (.ck (decide (0<=a)&&h')<|.ck b'<|.ck (Sp.u64 f&&Sp.u64 g&&m&&l)<|.ck i<|.ck k<|L1 v0 v1 b (RX f g e) c j<|set d (toNat a)<|VB f g e)<|.ck b'<|.ck (Sp.u64 f&&Sp.u64 0&&m&&l)<|.ck i<|.ck k<|L1 v0 v1 b (RX f 0 e) c j<|set d (toNat a)<|VB f 0 e) (.ck (decide (0+b<=length d)&&true&&Db (take b d))<|.leaf (.dat (zl<|zi zd)<|AD<|take b d) []):=by kernel_rfl
end T177
namespace T178
def T[Srt](x y:Int):Tr:=tree mL false 9 178<|Ag ([zi zd,zi zd]) (x,y)
theorem Aj[Srt](x y:Int):T x y=let a:=zc .u64<|zc .u64 (zp x (2^32)*It zd y 4294967295)+zp (zc .u64<|It zd x 4294967295*It zd y 4294967295) (2^32);.ck true (.ck true<|.ck true<|.ck true<|.ck true<|.leaf (.tup [.dat (zi zd)<|zc .u64<|zc .u64 (zc .u64 (zp x (2^32)*zp y (2^32))+zp a (2^32))+zp (zc .u64<|It zd a 4294967295+zc .u64 (It zd x 4294967295*zp y (2^32))) (2^32),.dat (zi zd)<|zc .u64<|x*y]) []):=by kernel_rfl
end T178
namespace T180
def T[Srt](x y:List Int):Tr:=tree LZ false 9 180<|Ag ([zl<|zi zd,zl<|zi zd]) (x,y)
def L1[Srt](v1:List Int)(a:Nat)(v20:List Int)(c b:Int)(d:List Int):Tr:=re ((T [] []).L)<|Ax 80 [(1,.dat (zl<|zi zd) v1),(5,.sl 0 1 0 a none),(20,.dat (zl<|zi zd) v20),(21,.dat i64 c),(22,.dat i64 b)] [(0,.arr false 217 (zi zd) d)] 1
theorem Aj[Srt](x y:List Int):T x y=let a:=(length x:Int)+(length y:Int);let b':=zc .i64 a;.ck (decide (0<=zc .i64 a)&&decide (zc .i64 a=zc .i64 a)&&decide (8*toNat b'<=281474976710656)&&decide (zc .i64 a<9223372036854775808)) (L1 y (toNat b') x ((length x:Int)) 0<|replicate (toNat b') 0):=by kernel_rfl
def L2[Srt](v1:List Int)(c:Nat)(g i j:Int)(v20:List Int)(f b:Int)(d:List Int)(a e:Int)(k:List Int):Tr:=re ((stepT LZ<|L1 [] 0 [] 0 0 []).L.L)<|Ax 80 [(1,.dat (zl<|zi zd) v1),(5,.sl 0 1 0 c none),(6,.dat i64 g),(7,.dat (zi zd) i),(8,.dat (zi zd) j),(20,.dat (zl<|zi zd) v20),(21,.dat i64 f),(22,.dat i64 b),(27,.dat (zl<|zi zd) d),(28,.dat i64 a),(29,.dat i64 e)] [(0,.arr false 217 (zi zd) k)] 1
theorem Ak[Srt](v1:List Int)(b:Nat)(v20:List Int)(c a:Int)(d:List Int):stepT LZ (L1 v1 b v20 c a d)=.di (a<c) (.ck (decide (0<=a)&&decide (a<(length v20:Int)))<|L2 v1 b a (getD v20 (toNat a) 0) 0 v20 c a v1 ((length v1:Int)) 0 d) (.ck (decide (0+b<=length d)&&true&&Db (take b d))<|.leaf (.dat (zl<|zi zd)<|AD<|take b d) []):=by kernel_rfl
theorem Az[Srt](v1:List Int)(b:Nat)(i j k:Int)(v20:List Int)(e d:Int)(c:List Int)(f a:Int)(g:List Int):stepT LZ (L2 v1 b i j k v20 e d c f a g)=let b':=zc .i64<|i+a;let n:=getD c (toNat a) 0;let r:=decide (0<=zc .i64 (i+a))&&decide (zc .i64 (i+a)<(↑b:Int));let l:=i+(length v1:Int);let s:=decide ((0:Sh.T (By [u64]))<=0);let h':=decide (0<=(1:Sh.T (By [u64])));let p:=getD g (toNat b') 0;let q:=decide (toNat b'<length g);let m:=I4 j n;let o:=IN m p 0;.di (a<f) (.ck (decide (0<=a)&&decide (a<(length c:Int)))<|.ck (Sp.u64 j&&Sp.u64 n)<|.ck r<|.ck q<|.ck (Sp.u64 m&&Sp.u64 p&&s&&h')<|.ck (Sp.u64 o&&Sp.u64 k&&s&&h')<|.ck r<|.ck q<|L2 v1 b i j (zc .u64<|zc .u64 (SB j n+RG m p 0)+RG o k 0) v20 e d c f (zc .i64<|a+1)<|set g (toNat b')<|IN o k 0) (.ck (decide (0<=zc .i64 l)&&decide (zc .i64 l<(↑b:Int)))<|.cd (toNat (zc .i64 l)<length g)<|L1 v1 b v20 e (zc .i64<|d+1)<|set g (toNat<|zc .i64 l) k):=by kernel_rfl
end T180
end
theorem J6[Srt]:Cv mL:=fun g sp h=>by cases h
theorem wu(x:Int)(a:0<=x)(b:x<=18446744073709551615):zc .u64 x=x:=IntWalk.u64_in x ⟨a,b⟩
theorem Fa{n:Int}(h:Cn n=true): -9223372036854775808<=n/\n<9223372036854775808:=by
 unfold Cn at h;rw[ze,w5,w5]at h;exact h
namespace T179
theorem ok[Srt]:Af AY 179 XX:=by
 refine BA J6<|fun(n:Int) a=>?_;have a:=Fa (n:=n) a;refine Ends.eq (Aj n)<|Ends.ite (fun c=>?_)<|fun c=>?_
 ·have c:=w6 c;refine Ends.leaf<|Ac.of rfl rfl ?_;show zc .u64 (zc .i64<|0-n)=Ai n;simp only[Al];rcases yr (-9223372036854775808) n with h|h
  ·rw[wr _ ae ae,wu _ ae ae];omega
  ·have:n= -9223372036854775808:=ae
   subst this;decide+kernel
 ·have c:=w7 c;refine Ends.leaf<|Ac.of rfl rfl ?_;show zc .u64 n=Ai n;simp only[Al];rw[wu _ ae ae];omega
end T179
namespace T217
theorem Au[Srt]{Q:PV->Ob->Prop}(w:List Int)(e:w.length<=20000)(b:∀ob,Q (.dat Du<|AD w) ob):∀(i:Nat),i<=w.length->AD w=AD (w.take i)->Ends mL (L1 w i) Q
 |0,f,a=>by
  have a:AD w=[]:=a;rw[a]at b;refine Ends.Ah (Ak ..) (Ends.ff (by simp)<|Ends.tt (by simp)<|Ends.leaf<|b _)
 |i+1,f,a=>by
  have g:zc .i64 (((i+1:Nat):Int)-1)=(i:Int):=by rw[wr _ ae ae];omega
  have d:w.take (i+1)=w.take i++[w.getD i 0]:=by
   rw[List.take_add_one];congr 1;rw[zg,zm ae];rfl
  refine Ends.Ah (Ak ..) (Ends.tt (by simp<;>omega) ?_);rw[g,zh];refine Ends.tt (by simp<;>omega)<|Ends.ite (fun c=>?_)<|fun c=>?_
  ·have c:w.getD i 0=0:=by simpa using c
   refine Au w e b i ae ?_;rw[a,d,c,Jc]
  ·have c:w.getD i 0≠0:=by simpa using c
   refine Ends.tt (by simp;omega)<|Ends.leaf ?_;have:AD w=w.take (i+1):=by rw[a,d,Jp<|Z2 c]
   rw[this]at b;exact b _
theorem ok[Srt]:Af AY 217 Yu:=by
 refine BA J6<|fun(w:List Int) hw=>?_;obtain⟨a,b⟩:=Jd (l:=w) hw;refine Ends.eq (Aj w) (Au w a (fun ob=>Ac.of rfl rfl rfl) w.length (zw _)<|by rw[z7])
end T217
theorem FN{l:List Int}(h:Cy l=true):l.length<=20000/\AA Ar l/\Sp.nz l:=by
 unfold Cy at h;rw[ze]at h;have:=Jd h.1;exact⟨this.1,this.2,by
  have:=h.2;unfold Sp.nzW at this;have:l.getLast?≠some 0:=w6 this;exact this⟩
namespace T176
theorem Au[Srt]{Q:PV->Ob->Prop}(a b:List Int)(k:AA Ar a)(j:AA Ar b)(m:a.length=b.length)(n:b.length<=20000)(f:∀ob,Q (.dat i64<|CC (Aw a)<|Aw b) ob):∀(i:Nat),i<=a.length->a.drop i=b.drop i->Ends mL (L1 a b<|(i:Int)-1) Q
 |0,o,g=>by
  have g:a=b:=g;have:CC (Aw a) (Aw b)=0:=by rw[g];unfold CC;simp
  rw[this]at f;exact Ends.Ah (Ak ..) (Ends.ff (by simp)<|Ends.leaf<|f _)
 |i+1,o,g=>by
  have p:(((i+1:Nat):Int)-1)=(i:Int):=ae
  have l:a.drop i=a.getD i 0::a.drop (i+1):=by
   rw[zg,zm ae];exact zq ae
  have db:b.drop i=b.getD i 0::a.drop (i+1):=by
   rw[g,zg,zm ae];exact zq ae
  have q:=Sp.A6<|A0 k i;have r:=Sp.A6<|A0 j i;rw[p];refine Ends.Ah (Ak ..) (Ends.tt (by simp) ?_);rw[zh];refine Ends.tt (by simp;omega) (Ends.tt (by simp;omega) (Ends.ite (fun c=>Ends.tt (by simp;omega)<|Ends.tt (by simp;omega)<|Ends.ite (fun d=>?_)<|fun d=>?_)<|fun c=>?_))
  ·have d:=w6 d;have:=Kk (b:=Ar) af k j l db d;have e:CC (Aw a) (Aw b)= -1:=by unfold CC;exact wd this
   rw[e]at f;exact Ends.leaf<|f _
  ·have d:=w7 d;have c:a.getD i 0≠b.getD i 0:=by simpa using c
   have:=Kk (b:=Ar) af j k db l ae;have e:CC (Aw a) (Aw b)=1:=by
    unfold CC Aw;rw[wc ae,wd ae]
   rw[e]at f;exact Ends.leaf<|f _
  ·have c:a.getD i 0=b.getD i 0:=by simpa using c
   rw[wr ((i:Int)-1) ae ae];exact Au a b k j m n f i ae (by rw[l,db,c])
theorem ok[Srt]:Af AY 176 dQ:=by
 refine BA J6<|fun(i:List Int×List Int) g=>?_;obtain⟨a,b⟩:=i;have g:(Cy a&&Cy b)=true:=g;rw[ze]at g;obtain⟨a1,a2,a3⟩:=FN g.1;obtain⟨b1,b2,b3⟩:=FN g.2;have f:∀ob,Ac dQ (a,b) (.dat i64<|CC (Aw a)<|Aw b) ob:=fun ob=>Ac.of rfl rfl rfl
 refine Ends.eq (Aj a b)<|Ends.ite (fun c=>Ends.ite (fun d=>?_)<|fun d=>?_)<|fun c=>?_
 ·have d:=w6 d;have e:CC (Aw a) (Aw b)= -1:=by unfold CC;exact wd (E4 af a2 b2 b3 ae)
  rw[e]at f;exact Ends.leaf<|f _
 ·have d:=w7 d;have c:(a.length:Int)≠b.length:=by simpa using c
  have:=E4 (b:=Ar) af b2 a2 a3 ae;have e:CC (Aw a) (Aw b)=1:=by
   unfold CC Aw;rw[wc ae,wd ae]
  rw[e]at f;exact Ends.leaf<|f _
 ·have c:(a.length:Int)=b.length:=by simpa using c
  rw[wr _ ae ae];exact Au a b a2 b2 ae b1 f a.length (zw _) (by rw[List.drop_length,show a.length=b.length by omega,List.drop_length])
end T176
theorem Ei{a:AM}(h:Sp.Ds a=true):(-9223372036854775808<=a.1/\a.1<9223372036854775808)/\(a.2=[]\/(Cy a.2=true/\(a.1=1\/a.1= -1)/\9223372036854775808<=Aw a.2)):=by
 unfold Sp.Ds at h;rw[ze,Bool.or_eq_true,ze,ze,Bool.or_eq_true,w5,w5,w5,w5]at h;exact⟨Fa h.1,h.2.imp id fun h=>⟨h.1.1,h.1.2,h.2⟩⟩
theorem val_one(d:Int):zo Ar [d]=d:=by simp[zo]
theorem AdK{d:Int}(e:0<d)(c:d<18446744073709551616):[d]=BD d:=by
 have:=I5 (b:=Ar) (l:=[d]) af (fun x a=>by rw[zn]at a;subst a;exact⟨by omega,c⟩) (by unfold Sp.nz;simp;omega);rw[val_one]at this;exact this
theorem FQ{s:Int}:Sp.vI (s,[])=s:=by unfold Sp.vI;exact wd rfl
namespace T173
theorem ok[Srt](f:∀g sp,LZ.sp g=some sp->Af AY g sp):Af AY 173 Q1:=by
 refine He (X:=LZ) rfl f (d:=9) ag ag ag (fun(a:Int×List Int) ha=>?_) (Bd ag);obtain⟨hr,i⟩:=Ei (a:=a) ha;obtain⟨s,w⟩:=a;have hr: -9223372036854775808<=s/\s<9223372036854775808:=hr;refine Ends.eq (Aj (s,w))<|Ends.ite (fun c=>?_)<|fun c=>Ends.ite (fun d=>?_)<|fun d=>Ends.tt ?_ ?_
 ·have c:0<w.length:=w6 c;have e:w≠[]:=by rintro rfl;simp at c
  rcases i with i|⟨m,j,l⟩
  ·exact wh i e
  ·obtain⟨n1,k,o⟩:=FN m;have j:s=1\/s= -1:=j;have l:9223372036854775808<=Aw w:=l;have ev:Sp.vI (s,w)=if s<0 then -Aw w else Aw w:=by unfold Sp.vI;exact wc e
   have p:Ai (Sp.vI (s,w))=Aw w:=by rw[ev];simp only[Al];split<;>omega
   have n:decide (Sp.vI (s,w)<0)=decide (s<0):=by
    rw[ev];rcases j with rfl|rfl<;>simp<;>omega
   refine Ends.leaf<|Ac.of rfl rfl ?_;show(decide (s<0),w)=(decide (Sp.vI (s,w)<0),BD<|Ai<|Sp.vI (s,w));rw[p,n,show w=BD (Aw w)from I5 af k o];congr 2;exact(Di (b:=Ar) af<|AH (b:=Ar) af k).symm
 all_goals
  have c:¬0<w.length:=w7 c;have q:w=[]:=List.length_eq_zero_iff.1 ae;subst q
 ·have d:s=0:=by simpa using d
  subst d;exact Ends.leaf<|Ac.of rfl rfl rfl
 ·show Cn s=true;unfold Cn;rw[ze,w5,w5];exact hr
 ·have d:s≠0:=by simpa using d
  refine Ends.leaf<|Ac.of rfl rfl ?_;show(decide (s<0),[Ai s])=(decide (Sp.vI (s,[])<0),BD<|Ai<|Sp.vI (s,[]));rw[FQ,AdK (d:=Ai s) (by simp only[Al];omega)<|by simp only[Al];omega]
end T173
theorem CD{n:Int}(h: -9223372036854775808<n/\n<9223372036854775808):Dd n=(n,[]):=wd h
theorem Va{w:List Int}(neg:Bool)(a:AA Ar w)(b:Sp.nz w)(c:9223372036854775808<=Aw w):Dd (if neg=true then -Aw w else Aw w)=(if neg=true then -1 else 1,w):=by
 have e:BD (Aw w)=w:=(I5 af a b).symm;cases neg with
 |true=>
  simp only[wm];unfold Dd;rw[wc ae,wd ae];rw[show Ai (-Aw w)=Aw w by simp only[Al];omega,e]
 |false=>
  show Dd (Aw w)=(1,w);unfold Dd;rw[wc ae,wc ae];rw[show Ai (Aw w)=Aw w by simp only[Al];omega,e]
namespace T174
theorem ok[Srt](f:∀g sp,LZ.sp g=some sp->Af AY g sp):Af AY 174 mB:=by
 refine He (X:=LZ) rfl f (d:=9) ag ag ag (fun(i:Bool×List Int) hi=>?_) (Bd ag);obtain⟨neg,w⟩:=i;obtain⟨n1,n2,n3⟩:=FN (l:=w) hi;refine Ends.eq (Aj neg w) ?_;conv=>zeta
 cases w with
 |nil=>
  refine Ends.tt rfl (Ends.leaf<|Ac.of rfl rfl ?_);show _=Dd (if neg=true then -0 else 0);rw[show(if neg=true then(-0:Int)else 0)=0 by split<;>rfl,CD ae]
 |cons d t=>
  cases t with
  |nil=>
   have j:=n2 d (by simp);have u:d≠0:=by intro h;subst h;exact n3 rfl
   have r:0<=d:=j.1;have s:d<18446744073709551616:=j.2;have ev:Aw [d]=d:=val_one d;refine Ends.ff rfl (Ends.tt rfl (Ends.tt rfl (Ends.ite (fun c=>?_)<|fun c=>?_)))
   ·have c:d<=9223372036854775807:=w6 c;have o:zc .i64 d=d:=wr _ ae ae;have p:zc .i64 (0-d)= -d:=by rw[wr _ ae ae];omega
    refine Ends.ite (fun n=>Ends.tt rfl (Ends.leaf<|Ac.of rfl rfl ?_))<|fun n=>Ends.tt rfl (Ends.tt rfl (Ends.tt (w4 c)<|Ends.tt rfl (Ends.leaf<|Ac.of rfl rfl ?_)))
    ·show(zc .i64<|0-zc .i64 d,[])=Dd (if neg=true then -Aw [d]else Aw [d]);rw[o,p,wd n,ev,CD ae]
    ·show(zc .i64 d,[])=Dd (if neg=true then -Aw [d]else Aw [d]);subst n;rw[o,wc af,ev,CD ae]
   ·have v:¬d<=9223372036854775807:=w7 c;have a:=Va neg n2 n3 (by rw[ev];omega);refine Ends.tt rfl (Ends.tt rfl (Ends.ff c<|Ends.ite (fun n=>Ends.leaf<|Ac.of rfl rfl ?_)<|fun n=>Ends.leaf<|Ac.of rfl rfl ?_))
    ·show(-1,[d])=Dd (if neg=true then -Aw [d]else Aw [d]);rw[a,wd n]
    ·show(1,[d])=Dd (if neg=true then -Aw [d]else Aw [d]);rw[a,n];rfl
  |cons e t=>
   have q:9223372036854775808<=Aw (d::e::t):=by
    have h:=Dw (b:=Ar) af n2 n3 (by simp);have k:=AT (b:=Ar) af (show 1<=(d::e::t).length-1 by simp);rw[Int.pow_one]at k;have:(9223372036854775808:Int)<=(Ar:Int):=af
    exact Int.le_trans this<|Int.le_trans k h
   have a:=Va neg n2 n3 q;have z0:(((d::e::t).length:Int)==0)=false:=by simp;omega
   have m:(((d::e::t).length:Int)==1)=false:=by simp;omega
   refine Ends.ff z0<|Ends.ff m<|Ends.ff m<|Ends.ite (fun n=>Ends.leaf<|Ac.of rfl rfl ?_)<|fun n=>Ends.leaf<|Ac.of rfl rfl ?_
   ·show(-1,d::e::t)=Dd (if neg=true then -Aw (d::e::t)else Aw (d::e::t));rw[a,wd n]
   ·show(1,d::e::t)=Dd (if neg=true then -Aw (d::e::t)else Aw (d::e::t));rw[a,n];rfl
end T174
namespace T175
theorem Au[Srt](x y:List Int)(r:AA Ar x)(o:AA Ar y)(m:y.length<=x.length)(t:x.length<=9000)(n:∀ob,Q (.dat Du<|BD<|Aw x+Aw y) ob):∀(k i:Nat) (p:List Int) (c:Int),i+k=x.length->p.length=i->AA Ar p->(0<=c/\c<=1)->zo Ar p+(Ar:Int)^i*c=zo Ar (x.take i)+zo Ar (y.take i)->
  Ends LZ (L1 x y (x.length+1) c x.length i<|p++zf (x.length+1-i) 0) Q
 |0,i,p,c,j,hp,e,a,l=>by
  have j:i=x.length:=ae
  subst j;have v:x.length+1-x.length=1:=ae
  have es:(p++zf (x.length+1-x.length) (0:Int)).set x.length c=p++[c]:=by
   rw[v];exact Pe.DF p [] 0 c hp
  have s:(p++[c]).take (x.length+1)=p++[c]:=zk (by simp;omega);have b:AA Ar (p++[c]):=El e (C4 a.1 ae);have u:Aw (p++[c])=Aw x+Aw y:=by
   unfold Aw;rw[Fp,hp,l,z7,zk m]
  refine Ends.Ah (Ak ..) (Ends.ff (by simp) ?_);rw[zh,es,s];refine Ends.tt (by simp<;>omega) (Ends.tt (by simp;omega)<|Ends.tt ?_<|Ends.leaf ?_)
  ·rw[EG (by simp;omega) b];simp;omega
  ·rw[ML b,u];exact n _
 |k+1,i,p,c,j,hp,e,a,l=>by
  have f:=A0 r i;have q:=A0 o i;have lo:(p++zf (x.length+1-i) (0:Int)).length=x.length+1:=by simp;omega
  have step:∀z,Sp.u64 z=true->z=y.getD i 0->Ends LZ (L1 x y (x.length+1) (RG (x.getD i 0) z c) x.length (zc .i64<|(i:Int)+1)<|(p++zf (x.length+1-i) 0).set i<|IN (x.getD i 0) z c) Q:=by
   intro z g w;obtain⟨a1,a2,a3⟩:=MN f g a;rw[wr ((i:Int)+1) ae ae,J1 p (x.length+1) i _ hp ae];refine Au x y r o m t n k (i+1) (p++[IN (x.getD i 0) z c]) _ ae (by simp;omega) (El e a1) a2 ?_;rw[Fp,hp,Ms,AK _ x i,AK _ y i, <-w,yp, <-zx,a3,zx,zx];omega
  refine Ends.Ah (Ak ..) (Ends.tt (by simp;omega) ?_);rw[zh];refine Ends.ite (fun d=>?_)<|fun d=>?_
  ·have d:=w6 d;refine Ends.tt (by simp;omega) (Ends.tt (by simp;omega) (Ends.tt ?_<|Ends.tt (by simp;omega)<|Ends.tt (w4<|by rw[lo];omega)<|step _ q rfl));rw[f,q,zt,zt,ze];exact⟨w4 a.1,w4 a.2⟩
  ·have d:=w7 d;have g:y.getD i 0=0:=by rw[zg,yc ae];rfl
   refine Ends.tt (by simp;omega) (Ends.tt ?_<|Ends.tt (by simp;omega) (Ends.tt (w4<|by rw[lo];omega)<|step _ rfl g.symm));rw[f,show Sp.u64 0=true from rfl,zt,zt,ze];exact⟨w4 a.1,w4 a.2⟩
theorem start[Srt](x y:List Int)(f:AA Ar x)(e:AA Ar y)(a:y.length<=x.length)(c:x.length<=9000)(b:∀ob,Q (.dat Du<|BD<|Aw x+Aw y) ob){t:Tr}:
  Ends LZ (.ite (decide ((0:Int)<=zc z6 ((x.length:Int)+(1:Int)))&&decide (zc z6 ((x.length:Int)+(1:Int))=zc z6 ((x.length:Int)+(1:Int)))&&decide ((8:Nat)*Int.toNat (zc z6<|(x.length:Int)+(1:Int))<=(281474976710656:Nat))&&decide (zc z6 ((x.length:Int)+(1:Int))<(9223372036854775808:Int)))
   (L1 x y (Int.toNat<|zc z6<|(x.length:Int)+(1:Int)) ((0:Int)) ((x.length:Int)) ((0:Int))<|zf (Int.toNat<|zc z6<|(x.length:Int)+(1:Int)) (0:Int)) t) Q:=by
 have d:zc .i64 ((x.length:Int)+1)=((x.length+1:Nat):Int):=by rw[wr _ ae ae];omega
 rw[d,zh];refine Ends.tt (by simp;omega) ?_;exact Au x y f e a c b x.length 0 [] 0 ae rfl (fun _ h=>by cases h) ae (by simp[zo])
theorem ok[Srt](a:∀g sp,LZ.sp g=some sp->Af AY g sp):Af AY 175 qI:=by
 refine He (X:=LZ) rfl a (d:=9) ag ag ag (fun(i:List Int×List Int) b=>?_) (Bd ag);obtain⟨x,y⟩:=i;have b:(Sp.hW x&&Sp.hW y)=true:=b;rw[ze]at b;obtain⟨x1,x2⟩:=bI b.1;obtain⟨y1,y2⟩:=bI b.2;have e:∀ob,Ac qI (x,y) (.dat Du<|BD<|Aw x+Aw y) ob:=fun ob=>Ac.of rfl rfl rfl
 refine Ends.eq (Aj x y)<|Ends.ite (fun c=>?_)<|fun c=>?_
 ·have c:=w6 c;exact start y x y2 x2 ae y1 (by rw[Int.add_comm];exact e)
 ·have c:=w7 c;exact start x y x2 y2 ae x1 e
end T175
namespace T177
theorem oK{b:Int}(d:0<b){l:List Int}{n:Nat}(h:AA b l)(g:zo b l<b^n):zo b (l.take n)=zo b l:=by
 rcases yq n l.length with a|a
 ·have c:=CB b l n ae;have f:=AH ae<|AS h n;have i:=AH ae<|E0 h n;rcases yr 0 (zo b<|l.drop n)with e|e
  ·have:=yd (show 1<=zo b (l.drop n)by omega)<|Int.le_of_lt<|Bj d n;rw[Int.mul_one]at this;omega
  ·have:zo b (l.drop n)=0:=ae
   rw[this,Int.mul_zero]at c;omega
 ·rw[zk a]
theorem Au[Srt](x y:List Int)(n:AA Ar x)(l:AA Ar y)(o:Aw y<=Aw x)(u:x.length<=20000)(q:∀ob,Q (.dat Du<|BD<|Aw x-Aw y) ob):∀(k i:Nat) (p:List Int) (c:Int),i+k=x.length->p.length=i->AA Ar p->(0<=c/\c<=1)->zo Ar p-(Ar:Int)^i*c=zo Ar (x.take i)-zo Ar (y.take i)->
  Ends LZ (L1 x y x.length c x.length i<|p++zf (x.length-i) 0) Q
 |0,i,p,c,m,hp,f,b,a=>by
  have m:i=x.length:=ae
  subst m;have w:p++zf (x.length-x.length) (0:Int)=p:=by rw[Nat.sub_self];simp
  have s:p.take x.length=p:=zk ae;have t:Aw x<(Ar:Int)^x.length:=Bz af n;have A:Aw p<(Ar:Int)^p.length:=Bz af f;have v:Aw p=Aw x-Aw y:=by
   rw[z7,oK af l<|show zo Ar y<_ from Int.lt_of_le_of_lt o t]at a;have a:Aw p-(Ar:Int)^x.length*c=Aw x-Aw y:=a;rw[hp]at A;rcases yr 0 c with h|h
   ·have:c=1:=ae
    subst this;rw[Int.mul_one]at a;omega
   ·have:c=0:=ae
    subst this;rw[Int.mul_zero]at a;omega
  rw[w];refine Ends.Ah (Ak ..) (Ends.ff (by simp) ?_);rw[s];refine Ends.tt ?_<|Ends.leaf ?_
  ·rw[EG ae f];simp;omega
  ·rw[ML f,v];exact q _
 |k+1,i,p,c,m,hp,f,b,a=>by
  have g:=A0 n i;have r:=A0 l i;have lo:(p++zf (x.length-i) (0:Int)).length=x.length:=by simp;omega
  have step:∀z,Sp.u64 z=true->z=y.getD i 0->Ends LZ (L1 x y x.length (RX (x.getD i 0) z c) x.length (zc .i64<|(i:Int)+1)<|(p++zf (x.length-i) 0).set i<|VB (x.getD i 0) z c) Q:=by
   intro z j C;obtain⟨a1,a2,a3⟩:=Sp.HK g j b;rw[wr ((i:Int)+1) ae ae,J1 p x.length i _ hp ae];refine Au x y n l o u q k (i+1) (p++[VB (x.getD i 0) z c]) _ ae (by simp;omega) (El f a1) a2 ?_;have e:(Ar:Int)^i*VB (x.getD i 0) z c-(Ar:Int)^i*(18446744073709551616*RX (x.getD i 0) z c)=(Ar:Int)^i*x.getD i 0-(Ar:Int)^i*z-(Ar:Int)^i*c:=by
    rw[<-Int.mul_sub,a3,Int.mul_sub,Int.mul_sub]
   rw[Fp,hp,Ms,AK _ x i,AK _ y i, <-C];omega
  refine Ends.Ah (Ak ..) (Ends.tt (by simp;omega) ?_);rw[zh];refine Ends.ite (fun d=>?_)<|fun d=>?_
  ·have d:=w6 d;refine Ends.tt (by simp;omega) (Ends.tt (by simp;omega) (Ends.tt ?_<|Ends.tt (by simp;omega)<|Ends.tt (w4<|by rw[lo];omega)<|step _ r rfl));rw[g,r,zt,zt,ze];exact⟨w4 b.1,w4 b.2⟩
  ·have d:=w7 d;have j:y.getD i 0=0:=by rw[zg,yc ae];rfl
   refine Ends.tt (by simp;omega) (Ends.tt ?_<|Ends.tt (by simp;omega) (Ends.tt (w4<|by rw[lo];omega)<|step _ rfl j.symm));rw[g,show Sp.u64 0=true from rfl,zt,zt,ze];exact⟨w4 b.1,w4 b.2⟩
theorem ok[Srt](b:∀g sp,LZ.sp g=some sp->Af AY g sp):Af AY 177 nR:=by
 refine He (X:=LZ) rfl b (d:=9) ag ag ag (fun(i:List Int×List Int) a=>?_) (Bd ag);obtain⟨x,y⟩:=i;have a:(Db x&&Db y&&decide (Aw y<=Aw x))=true:=a;rw[ze,ze,w5]at a;obtain⟨x1,x2⟩:=Jd a.1.1;obtain⟨y1,y2⟩:=Jd a.1.2;have c:∀ob,Ac nR (x,y) (.dat Du<|BD<|Aw x-Aw y) ob:=fun ob=>Ac.of rfl rfl rfl
 refine Ends.eq (Aj x y) ?_;conv=>zeta
 rw[zh];refine Ends.tt (by simp;omega) ?_;exact Au x y x2 y2 a.2 x1 c x.length 0 [] 0 ae rfl (fun _ h=>by cases h) ae (by simp[zo])
end T177
theorem MS(n:Int):zc .u64 n=n % 18446744073709551616:=by simp[zc,IntKind.bits,IntKind.signed]
theorem eN(n:Nat):zp (n:Int) ((2:Int)^(32:Nat))=((n/4294967296:Nat):Int):=by
 rw[Int.fdiv_eq_ediv_of_nonneg _ af];rfl
theorem qK(n:Nat)(h:n<18446744073709551616):zc .u64 (n:Int)=n:=wu _ ae ae
theorem RJ(n:Nat)(h:n<18446744073709551616):It .u64 (n:Int) 4294967295=((n % 4294967296:Nat):Int):=by
 have e:(yb 64 (n:Int)&&&yb 64 4294967295).toNat=n % 4294967296:=by
  rw[BitVec.toNat_and];have a:(yb 64 (n:Int)).toNat=n:=by rw[BitVec.ofInt_natCast,BitVec.toNat_ofNat];exact Nat.mod_eq_of_lt h
  have b:(yb 64 4294967295).toNat=2^32-1:=af
  rw[a,b,Nat.and_two_pow_sub_one_eq_mod]
 show zc .u64 (((yb 64 (n:Int)&&&yb 64 4294967295).toNat:Nat):Int)=_;rw[e];exact qK _ ae
namespace T178
theorem ok[Srt]:Af AY 178 T1:=by
 refine BA J6<|fun(i:Int×Int) g=>?_;obtain⟨x,y⟩:=i;have g:(Sp.u64 x&&Sp.u64 y)=true:=g;rw[ze]at g;have j:=Sp.A6 g.1;have f:=Sp.A6 g.2;obtain⟨x,rfl⟩:=zj j.1;obtain⟨y,rfl⟩:=zj f.1;have j:x<18446744073709551616:=ae
 have f:y<18446744073709551616:=ae
 obtain⟨q,l,m,k⟩:=Go.Lib.mul64_hi x y j f;have o:=yi (a:=x/4294967296) (b:=y/4294967296) ae ae;have p:=yi (a:=x/4294967296) (b:=y % 4294967296) ae ae;have r:=yi (a:=x % 4294967296) (b:=y/4294967296) ae ae;refine Ends.eq (Aj (x:Int) (y:Int))<|Ends.tt rfl (Ends.tt rfl (Ends.tt rfl (Ends.tt rfl (Ends.tt rfl (Ends.leaf<|Ac.of rfl rfl ?_)))));refine Prod.ext ?_ ?_
 ·show zc zd (zc zd (zc zd (zp (x:Int) ((2:Int)^(32:Nat))*zp (y:Int) ((2:Int)^(32:Nat)))+zp (zc zd<|zc zd (zp (x:Int) ((2:Int)^(32:Nat))*It zd (y:Int) (4294967295:Int))+zp (zc zd<|It zd (x:Int) (4294967295:Int)*It zd (y:Int) (4294967295:Int)) ((2:Int)^(32:Nat))) ((2:Int)^(32:Nat)))+zp (zc zd<|It zd (zc zd<|zc zd (zp (x:Int) ((2:Int)^(32:Nat))*It zd (y:Int) (4294967295:Int))+zp (zc zd<|It zd (x:Int) (4294967295:Int)*It zd (y:Int) (4294967295:Int)) ((2:Int)^(32:Nat))) (4294967295:Int)+zc zd (It zd (x:Int) (4294967295:Int)*zp (y:Int) ((2:Int)^(32:Nat)))) ((2:Int)^(32:Nat)))=SB x y;have n:SB x y=((x*y/18446744073709551616:Nat):Int):=by unfold SB;omega
  rw[n, <-k];have e:x*y/18446744073709551616<18446744073709551616:=Nat.div_lt_of_lt_mul<|Nat.mul_lt_mul'' j f;rw[<-k]at e;simp only[eN,RJ x j,RJ y f];simp only[<-Int.natCast_mul];generalize (x/4294967296)*(y/4294967296)=a at*;generalize (x/4294967296)*(y % 4294967296)=b at*;generalize (x % 4294967296)*(y/4294967296)=c at*;generalize (x % 4294967296)*(y % 4294967296)=d at*;rw[qK d ae,qK a ae,qK b ae,qK c ae,eN, <-yf,qK _ l,eN,RJ _ l, <-yf, <-yf,qK _ m,eN,qK (a+_) ae, <-yf,qK _ e]
 ·show zc .u64 ((x:Int)*y)=I4 x y;unfold I4;exact MS _
end T178
theorem tA{x y o c:Int}(d:Sp.u64 x=true)(e:Sp.u64 y=true)(g:Sp.u64 o=true)(f:Sp.u64 c=true):
  Sp.u64 (I4 x y)=true/\Sp.u64 (IN (I4 x y) o 0)=true/\Sp.u64 (IN (IN (I4 x y) o 0) c 0)=true/\
  zc .u64 (zc .u64 (SB x y+RG (I4 x y) o 0)+RG (IN (I4 x y) o 0) c 0)=(x*y+o+c)/18446744073709551616/\
  Sp.u64 ((x*y+o+c)/18446744073709551616)=true/\
  IN (IN (I4 x y) o 0) c 0+18446744073709551616*((x*y+o+c)/18446744073709551616)=x*y+o+c:=by
 have d:=Sp.A6 d;have e:=Sp.A6 e;have g:=Sp.A6 g;have f:=Sp.A6 f;have h0:0<=x*y:=Int.mul_nonneg d.1 e.1;have i:x*y<=18446744073709551615*18446744073709551615:=by
  have a:=yd (show y<=18446744073709551615 by omega) d.1;have b:=Int.mul_le_mul_of_nonneg_right (show x<=18446744073709551615 by omega) (show(0:Int)<=18446744073709551615 by omega);omega
 unfold I4 SB IN RG;generalize x*y=P at*;refine⟨C4 ae ae,C4 ae ae,C4 ae ae,?_,C4 ae ae,by omega⟩;rw[MS,MS];omega
namespace T180
theorem A5[Srt](x y:List Int)(n i:Nat)(S:i<x.length)(J:n=x.length+y.length)(l:x.length<=9000)(m:y.length<=9000)(C:AA Ar x)(A:AA Ar y)(p:List Int)(hp:p.length=i+y.length)(b:AA Ar p)
  (r:∀q c,q.length=i+y.length->AA Ar q->Sp.u64 c=true->zo Ar q+(Ar:Int)^(i+y.length)*c=zo Ar p+(Ar:Int)^i*(x.getD i 0*zo Ar y)->Ends LZ (L1 y n x x.length ((i+1:Nat):Int)<|(q++[c])++zf (n-(i+y.length+1)) 0) Q):∀(k j:Nat) (q:List Int) (c:Int),j+k=y.length->q.length=i+j->AA Ar q->Sp.u64 c=true->zo Ar q+(Ar:Int)^(i+j)*c=zo Ar (p.take<|i+j)+(Ar:Int)^i*(x.getD i 0*zo Ar (y.take j))->
  Ends LZ (L2 y n i (x.getD i 0) c x x.length i y y.length j<|q++(p.drop (i+j)++zf (n-(i+y.length)) 0)) Q
 |0,j,q,c,f,a,e,d,u=>by
  have f:j=y.length:=ae
  subst f;have o:zc .i64 ((i:Int)+(y.length:Int))=((i+y.length:Nat):Int):=by rw[wr _ ae ae];omega
  have g:zc .i64 ((i:Int)+1)=((i+1:Nat):Int):=by rw[wr _ ae ae];omega
  have R:p.drop (i+y.length)=[]:=yn ae;refine Ends.Ah (Az ..) (Ends.ff (by simp) ?_);rw[o,g,zh,R,List.nil_append,J1 q n _ c a ae];refine Ends.tt (by simp;omega) (Ends.tt (by simp;omega)<|r q c a e d ?_);rw[u,zk ae,z7]
 |k+1,j,q,c,f,a,e,d,u=>by
  have v:=A0 C i;have t:=A0 A j;have w:=A0 b<|i+j;have s:p.drop (i+j)=p.getD (i+j) 0::p.drop (i+j+1):=by
   rw[zg,zm ae];exact zq ae
  have o:zc .i64 ((i:Int)+(j:Int))=((i+j:Nat):Int):=by rw[wr _ ae ae];omega
  have g:zc .i64 ((j:Int)+1)=((j+1:Nat):Int):=by rw[wr _ ae ae];omega
  have lo:(q++(p.drop (i+j)++zf (n-(i+y.length)) (0:Int))).length=n:=by simp;omega
  have O:(q++(p.drop (i+j)++zf (n-(i+y.length)) (0:Int))).getD (i+j) 0=p.getD (i+j) 0:=by
   rw[s,List.cons_append];exact FD _ _ _ _ a
  have s1:∀z,(q++(p.drop (i+j)++zf (n-(i+y.length)) (0:Int))).set (i+j) z=(q++[z])++(p.drop (i+(j+1))++zf (n-(i+y.length)) 0):=by
   intro z;rw[s,List.cons_append,DF _ _ _ _ a,yj];rfl
  obtain⟨M,K,E,G,P,L⟩:=tA v t w d;refine Ends.Ah (Az ..) (Ends.tt (by simp;omega) ?_);rw[o,g,zh,zh,O,s1,G];have t1:(decide ((0:Int)<=((i+j:Nat):Int))&&decide (((i+j:Nat):Int)<(n:Int)))=true:=by simp;omega
  refine Ends.tt (by simp;omega) (Ends.tt (by rw[v,t];rfl) (Ends.tt t1<|Ends.tt (w4<|by rw[lo];omega)<|Ends.tt (by rw[M,w];rfl)<|Ends.tt (by rw[K,d];rfl)<|Ends.tt t1<|Ends.tt (w4<|by rw[lo];omega) ?_));refine A5 x y n i S J l m C A p hp b r k (j+1) _ _ ae (by simp;omega) (El e E) P ?_;have I:i+(j+1)=(i+j)+1:=ae
  have D:(Ar:Int)^i*(x.getD i 0*((Ar:Int)^j*y.getD j 0))=(Ar:Int)^(i+j)*(x.getD i 0*y.getD j 0):=by
   rw[Int.pow_add,yk,Int.mul_left_comm<|x.getD i 0]
  rw[I,Fp,a,Ms,yp, <-zx,L,AK _ p<|i+j,AK _ y j,zx,zx,zx<|x.getD i 0,zx,D];omega
theorem Au[Srt](x y:List Int)(n:Nat)(l:n=x.length+y.length)(b:x.length<=9000)(d:y.length<=9000)(r:AA Ar x)(o:AA Ar y)(m:∀ob,Q (.dat Du<|BD<|Aw x*Aw y) ob):∀(k i:Nat) (p:List Int),i+k=x.length->p.length=i+y.length->AA Ar p->zo Ar p=zo Ar (x.take i)*zo Ar y->
  Ends LZ (L1 y n x x.length i<|p++zf (n-(i+y.length)) 0) Q
 |0,i,p,j,hp,a,e=>by
  have j:i=x.length:=ae
  subst j;have s:p++zf (n-(x.length+y.length)) (0:Int)=p:=by rw[l,Nat.sub_self];simp
  have g:Aw p=Aw x*Aw y:=by
   rw[z7]at e;exact e
  rw[s];refine Ends.Ah (Ak ..) (Ends.ff (by simp) ?_);rw[zk ae];refine Ends.tt ?_<|Ends.leaf ?_
  ·rw[EG ae a];simp;omega
  ·rw[ML a,g];exact m _
 |k+1,i,p,j,hp,a,e=>by
  refine Ends.Ah (Ak ..) (Ends.tt (by simp;omega) ?_);rw[zh];refine Ends.tt (by simp;omega) ?_;have h0:zo Ar (p.take<|i+y.length)=zo Ar p:=by rw[zk ae]
  have:=A5 (Q:=Q) x y n i ae l b d r o p hp a (fun q c u f t g=>by
   have:=Au x y n l b d r o m k (i+1) (q++[c]) ae (by simp;omega) (El f t) (by
    rw[Fp,u,g,e,AK,Int.add_mul,yk])
   rw[show i+1+y.length=i+y.length+1 by omega]at this;exact this) y.length 0 (p.take i) 0 ae (by simp;omega) (AS a i) rfl (by simp[zo])
  rw[Nat.add_zero, <-yj,List.take_append_drop]at this;exact this
theorem ok[Srt](a:∀g sp,LZ.sp g=some sp->Af AY g sp):Af AY 180 qP:=by
 refine He (X:=LZ) rfl a (d:=9) ag ag ag (fun(i:List Int×List Int) b=>?_) (Bd ag);obtain⟨x,y⟩:=i;have b:(Sp.hW x&&Sp.hW y)=true:=b;rw[ze]at b;obtain⟨x1,x2⟩:=bI b.1;obtain⟨y1,y2⟩:=bI b.2;have e:∀ob,Ac qP (x,y) (.dat Du<|BD<|Aw x*Aw y) ob:=fun ob=>Ac.of rfl rfl rfl
 have f:zc .i64 ((x.length:Int)+(y.length:Int))=((x.length+y.length:Nat):Int):=by rw[wr _ ae ae];omega
 refine Ends.eq (Aj x y) ?_;conv=>zeta
 rw[f,zh];refine Ends.tt (by simp;omega) ?_;have:=Au x y (x.length+y.length) rfl x1 y1 x2 y2 e x.length 0 (zf y.length 0) ae (by simp) (fun d c=>by
  obtain⟨_,rfl⟩:=List.mem_replicate.1 c;exact⟨by decide,by decide⟩) (by rw[NF];simp[zo])
 rw[Nat.zero_add,List.replicate_append_replicate,show y.length+(x.length+y.length-y.length)=x.length+y.length by omega]at this;exact this
end T180
theorem Ga[Srt]:Cv LZ:=
 Aa T179.ok (Aa T216.ok<|Aa T218.ok<|Aa T217.ok<|Aa T178.ok AB)
theorem UJ[Srt]:Cv XI2:=
 Aa (T173.ok Ga) (Aa (T174.ok Ga)<|Aa (T175.ok Ga)<|Aa (T177.ok Ga)<|Aa T176.ok<|Aa (T180.ok Ga)<|Aa T178.ok<|Aa T179.ok AB)
end Go.Pe
namespace Go.Sp
def Bg(a:AM):Bool:=Ds a&&decide (a.2.length<=9000)
def fX(a b:AM):Int:=CC (vI a)<|vI b
def IQ(a:AM):Int:=Oy<|vI a
end Go.Sp
namespace Go.Pe
open Sp
open Go.Det
def XE:Am:=⟨[A4],fun a=>Sp.Ds a,[A4],fun a=>(EX a,EV a),false⟩
def Aca:Am:=⟨[A4],fun a=>Sp.Ds a,[A4],fun a=>(PB a,Rq a),false⟩
def Ll:Am:=⟨[A4],fun a=>Sp.Ds a,[i64],fun a=>IQ a,false⟩
def Qc:Am:=⟨[A4,A4],fun i=>Bg i.1&&Bg i.2,[A4],fun i=>(KU i.1 i.2,K3 i.1 i.2),false⟩
def qB:Am:=⟨[A4,A4],fun i=>Bg i.1&&Bg i.2,[A4],fun i=>(Z7 i.1 i.2,cH i.1 i.2),false⟩
def SL:Am:=⟨[A4,A4],fun i=>Bg i.1&&Bg i.2,[A4],fun i=>(Fq i.1 i.2,FC i.1 i.2),false⟩
def sA:Am:=⟨[A4,A4],fun i=>Bg i.1&&Bg i.2,[i64],fun i=>fX i.1 i.2,false⟩
def XJ1[Srt]:AL:=X7 [(162,XE),(124,Qc)]
def XJ2[Srt]:AL:=X7 [(133,qB),(134,Ll)]
section
open List Int Prod
namespace T162
def T[Srt](a:AM):Tr:=tree XI2 false 9 162<|Ag ([A4]) a
theorem Aj[Srt](a:AM):T a=let b:=BD<|Ai<|Sp.vI a;let b':=Sp.sg (!decide (Sp.vI a<0))<|Aw b;let c:Tr:=.ck (Sp.Ds a)<|.ck (Cy b)<|.leaf (z8 [.dat i64<|C8 b',.dat wU<|C6 b']) [];.ite (!decide (0<length (snd a))) (.ite (fst a !=(-9223372036854775808)) (.leaf (z8 [.dat i64<|zc .i64<|0-fst a,.nil]) []) c) c:=by kernel_rfl
end T162
namespace T124
def T[Srt](a b:AM):Tr:=tree XI2 false 9 124<|Ag ([A4,A4]) (a,b)
theorem Aj[Srt](a b:AM):T a b=let b':=BD<|Ai<|Sp.vI a;let c:=BD<|Ai<|Sp.vI b;let i:=BD<|Aw b'+Aw c;let h':=BD<|Aw b'-Aw c;let g:=BD<|Aw c-Aw b';let e:=Sp.sg (decide (Sp.vI a<0))<|Aw i;let f:=Sp.sg (decide (Sp.vI a<0))<|Aw h';let j:=Sp.sg (decide (Sp.vI b<0))<|Aw g;let d:Tr:=.ck (Sp.Ds a)<|.ck (Sp.Ds b)<|.ite (decide (Sp.vI a<0)==decide (Sp.vI b<0)) (.ck (Sp.hW b'&&Sp.hW c)<|.ck (Cy i)<|.leaf (z8 [.dat i64<|C8 e,.dat wU<|C6 e]) [])<|.ck (Cy b'&&Cy c)<|.di (CC (Aw b') (Aw c)>=0) (.ck (Db b'&&Db c&&decide (Aw c<=Aw b'))<|.ck (Cy h')<|.leaf (z8 [.dat i64<|C8 f,.dat wU<|C6 f]) [])<|.ck (Db c&&Db b'&&decide (Aw b'<=Aw c))<|.ck (Cy g)<|.leaf (z8 [.dat i64<|C8 j,.dat wU<|C6 j]) [];.ite (!decide (0<length (snd a))) (.ite (!decide (0<length (snd b))) (.ite (decide (zc .i64 (fst a+fst b)>fst a)==decide (fst b>0)) (.leaf (z8 [.dat i64<|zc .i64<|fst a+fst b,.nil]) []) d) d) d:=by kernel_rfl
end T124
namespace T125
def T[Srt](a b:AM):Tr:=tree XI2 false 9 125<|Ag ([A4,A4]) (a,b)
theorem Aj[Srt](a b:AM):T a b=let c:=Ai<|fst a;let d:=Ai<|fst b;let i:=BD<|Ai<|Sp.vI a;let g:=BD<|Ai<|Sp.vI b;let b':=BD<|Aw i*Aw g;let f:=Sp.sg (!decide (Sp.vI a<0)==decide (Sp.vI b<0))<|Aw b';let e:Tr:=.ck (Sp.Ds a)<|.ck (Sp.Ds b)<|.ck (Sp.hW i&&Sp.hW g)<|.ck (Cy b')<|.leaf (z8 [.dat i64<|C8 f,.dat wU<|C6 f]) [];.ite (!decide (0<length (snd a))) (.ite (!decide (0<length (snd b))) (.ck (Cn<|fst a)<|.ck (Cn<|fst b)<|.ck (Sp.u64 c&&Sp.u64 d)<|.ite (SB c d==0) (.di (I4 c d<=9223372036854775807) (.ite (!decide (fst a<0)==decide (fst b<0)) (.leaf (z8 [.dat i64<|zc .i64<|0-zc .i64 (I4 c d),.nil]) [])<|.leaf (z8 [.dat i64<|zc .i64<|I4 c d,.nil]) []) e) e) e) e:=by kernel_rfl
end T125
namespace T215
def T[Srt](a:AM):Tr:=tree XJ1 false 9 215<|Ag ([A4]) a
theorem Aj[Srt](a:AM):T a=.di (fst a<0) (.ck (Sp.Ds a)<|.leaf (z8 [.dat i64<|EX a,.dat wU<|EV a]) []) (.leaf (z8 [.dat i64<|fst a,.dat wU<|snd a]) []):=by kernel_rfl
end T215
namespace T134
def T[Srt](a:AM):Tr:=tree mL false 9 134<|Ag ([A4]) a
theorem Aj[Srt](a:AM):T a=.leaf (.dat i64<|imax (-1)<|FJ 1<|fst a) []:=by kernel_rfl
end T134
namespace T133
def T[Srt](a b:AM):Tr:=tree XJ1 false 9 133<|Ag ([A4,A4]) (a,b)
theorem Aj[Srt](a b:AM):T a b=.ck (Sp.Ds b) (.ck (Bg a&&Bg (EX b,EV b))<|.leaf (z8 [.dat i64<|KU a (EX b,EV b),.dat wU<|K3 a (EX b,EV b)]) []):=by kernel_rfl
end T133
namespace T67
def T[Srt](a b:AM):Tr:=tree XJ2 false 9 67<|Ag ([A4,A4]) (a,b)
theorem Aj[Srt](a b:AM):T a b=let c:Tr:=.ck (Bg a&&Bg b)<|.ck (Sp.Ds (Z7 a b,cH a b))<|.leaf (.dat i64<|IQ (Z7 a b,cH a b)) [];.ite (!decide (0<length (snd a))) (.ite (!decide (0<length (snd b))) (.di (fst a<fst b) (.leaf (.dat i64 (-1:Int)) [])<|.di (fst a>fst b) (.leaf (.dat i64 (1:Int)) [])<|.leaf (.dat i64 (0:Int)) []) c) c:=by kernel_rfl
end T67
end
end Go.Pe
