import Derived.Test.YtjbmodoofdpgcaaGreatDoorX08
import Derived.Lib.Mul64
/- A part of a proof; no law is stated here. -/
noncomputable section
open Go.IntKind renaming wrap -> zc, u64 -> ze, i64 -> yb, wrap_i64 -> yq
open Bool renaming and_eq_true -> zd, true_and -> zr, false_eq_true -> yn
open List renaming replicate -> zf, getD_eq_getElem?_getD -> zg, take_of_length_le -> zk, getElem?_eq_getElem -> zm, mem_singleton -> zn, drop_eq_getElem_cons -> zt, take_length -> yc, getElem?_eq_none -> yg, append_assoc -> yo, drop_eq_nil_of_le -> yr, all_cons -> yu
open Int renaming toNat_natCast -> zh, eq_ofNat_of_zero_le -> zj, lt_or_le -> zo, fdiv -> zq, mul_add -> zx, mul_le_mul_of_nonneg_left -> zy, lt_of_le_of_lt -> zz, mul_le_mul_of_nonneg_right -> yh, natCast_add -> yj, mul_assoc -> yp, mul_sub -> yt, add_assoc -> yv, pow_succ -> yx
open Go.Pe.Sh renaming int -> zi, list -> zl
open Go.Sp renaming val -> zp
open Go.Pe.PV renaming cells -> zu, agg -> yd
open Nat renaming le_refl -> zw, eq_of_beq_eq_true -> z7, beq -> z8, le_trans -> yk, lt_or_ge -> yw, add -> yy
open Go.Pe.Ev renaming Ay -> z6
open Option.some renaming injEq -> ye
open BitVec renaming ofInt -> yf
open List.cons renaming injEq -> yi
open Go.Lib renaming half_mul_le -> ym
variable {Q:Go.Pe.PV->Go.Pe.Ob->Prop}
namespace Go.Pe
open Go.Det
section
variable {B:Nat}{h0:H0}{X:A0}{F:Fz}{ρ:DH}{N:Nat}{st st':AF}{fr:Fr}{h:H}
theorem Ku:∀ {ps:List PV} {i t:Nat} {p:PV},(t,p)∈Ey ps i->∃k,t=i+k/\ps[k]?=some p
 |[],i,t,p,h=>by cases h
 |q::ps,i,t,p,h=>by
  rcases List.mem_cons.1 h with h|h
  ·simp_all
  ·obtain⟨k,b,a⟩:=Ku h;exact⟨k+1,by grind,by grind⟩
theorem gP{ps:List PV}{vs:List V}(a:BB F ρ N ps vs)(n:Nat)(ob:Ob)(nx:Nat)(_hnx:nx=N):FP F ρ N (AI (yy ps.length<|Nat.sub n ps.length) (Ey ps 0) ob nx) (Jf n vs):=by
 refine⟨by show ps.length+(n-ps.length)=vs.length+(n-vs.length);rw[a.len],fun t=>?_⟩;show PR F ρ N (((Ej<|Ey ps 0).get t).getD .any) _;cases e:(Ej<|Ey ps 0).get t with
 |none=>grind [PR]
 |some p=>
  rcases FF _ .leaf t p e with h1|h1
  ·obtain⟨k,g,f⟩:=Ku h1;obtain rfl:t=k:=ae
   obtain⟨v,b,c⟩:=a.get f;have d:=(List.getElem?_eq_some_iff.1 b).1;unfold Jf Fr.get;rw[KS,wd ae,Nat.sub_zero,b];exact c
  simp_all
theorem bL{T:BP}{st s:AF}{t:TypeId}{a p:PV}(h:(LY T st t a).To p s):s=st:=by
 unfold LY at h;split at h
 case h_2=>simp_all
 split at h
 case h_4=>simp_all
 ·split at h
  case h_4=>simp_all
  case h_3=>simp_all
  ·simp_all
  ·rename_i b l _;cases c:(z8 _ 0&&z8 b.sz 1)with
   |false=>rw[c]at h;simp_all
   |true=>simp_all
 ·split at h
  case h_2=>simp_all
  rename_i sz j off _ _ _ b l _;cases c:(z8 sz b.sz)with
  |false=>simp_all
  |true=>simp_all
 simp_all
theorem No{Q:PV->Ob->Prop}{n:Nat}{t:Tr}:∀ {cs:List Bool},Ev X Q n (Qi cs t)->(∀c∈cs,c=true)/\Ev X Q n t
 |[],h=>⟨(by simp),h⟩
 |c::cs,h=>by
  rcases h.Ee with⟨d,a⟩|⟨_,a⟩
  ·obtain⟨b,e⟩:=No a;grind
  grind [z6]
theorem Si:∀ {k:List ResultVar} {ps:List PV} {F:Fz} {ρ:DH},Rel B h0 F ρ st fr h->ZR X.C.T st k=some ps->(∀c∈LH X.C.T st k,c=true)->
  ∃vs F' ρ',MK X.C fr h k=some vs/\BB F' ρ' st.nx ps vs/\Rel B h0 F' ρ' st fr h/\Le F ρ st.nx F' ρ' st.nx
 |[],ps,F,ρ,f,g,_=>by cases g;exact⟨[],F,ρ,rfl,by simp,f,Le.refl⟩
 |r::k,ps,F,ρ,f,g,e=>by
  unfold ZR at g;split at g
  case h_2=>cases g
  rename_i p x i y;cases g;have key:∃v F1 d,WZ X.C fr h r=some v/\PR F1 d st.nx p v/\Rel B h0 F1 d st fr h/\Le F ρ st.nx F1 d st.nx:=by
   cases r with
   |tmp t=>
    simp only[cJ,ye]at i;subst i;exact⟨_,F,ρ,rfl,f.fp.slot t,f,Le.refl⟩
   |cell a t=>
    have j:∃s,(LY X.C.T st t<|st.get a).To p s:=by
     simp only[cJ]at i;split at i
     case h_3=>cases i
     ·simp_all
     ·rename_i c u s m;cases i;refine⟨s,?_⟩;have:=e c (by grind [LH]);rw[m,this];show(PO.Ii true p s).To p s;simp
    obtain⟨s,j⟩:=j;have z:s=st:=bL j;subst z;obtain⟨v',h',F',ρ',b,g2,g3,g4,g5,g6,g7,g8⟩:=Z3 (C:=X.C) f.sr (f.fp.slot a) j;cases l:Eu X.C.T h t (fr.get a)with
    |none=>rw[l]at b;rcases b with b|⟨b,_⟩<;>cases b
    |some w=>
     rw[l]at b;rcases b with b|⟨b,_⟩
     ·simp only[Bs,ye,OR.val.injEq]at b;obtain⟨rfl,rfl⟩:=b;exact⟨w,F',ρ',l,g2,⟨f.fp.mono g4,g3⟩,g4⟩
     ·cases b
  obtain⟨v,F1,d,q,o,D,n⟩:=key;obtain⟨vs,F2,ρ2,k5,k6,k7,k8⟩:=Si D y (fun c A=>e c (by
   cases r with
   |tmp t=>exact A
   |cell a t=>
    grind [LH]))
  exact⟨v::vs,F2,ρ2,by simp[MK,q,k5],by simp only[By];exact⟨o.mono k8,k6⟩,k7,n.trans k8⟩
theorem IJ{nd:Bool}{d:Nat}(A:∀h0,EF B h0 X nd<|BZ X nd d)(o:∀h0,EF B h0 X false<|BZ X false d)(hmg:X.C.mg=false){g:FuncId}(hsp:X.C.spec g=none)(hprim:X.C.prim g=none)(hno:X.sp g=none){Q:PV->Ob->Prop}{n:Nat}{args:List PV}{k:PV->AF->Tr}{args':List V}
  (O:Ev X Q n (enter X (BZ X nd d) (BZ X false d) nd d g args st k)) (L:Rel B h0 F ρ st fr h) (ha:BB F ρ st.nx args args'):
  (X.C.prim g=none/\∃i,X.C.fn g=some i)/\∃l M,(∀m,M<=m->A1 X.C m (.fn g args') h=some l)/\(nd=false->∃x,l=[x])/\
   ∀x∈l,∃n',n'<=n/\∃r st',Ev X Q n' (k r st')/\∃F' ρ',PR F' ρ' st'.nx r x.1/\CR B h0 F ρ st.nx h st' fr x.2 F' ρ'/\(∀sp,X.sp g=some sp->∀b,b<h.nx->x.2.get b=h.get b):=by
 unfold enter at O;split at O
 case h_1=>grind [z6]
 rename_i i hi;cases hc:i.cert with
 |false=>grind [z6]
 |true=>
  rw[hc]at O;simp only[we]at O;have U:Rel B h0 F ρ (AI (yy args.length<|Nat.sub i.ntmps args.length) (Ey args 0) st.ob st.nx) (Jf i.ntmps args') h:=⟨gP ha i.ntmps st.ob st.nx rfl,L.sr⟩;obtain⟨l,M,hM,E,D⟩:=MX (ro:=false) (rv:=none) (ct:=true) (by simp) A o n i.body (st:=AI (yy args.length<|Nat.sub i.ntmps args.length) (Ey args 0) st.ob st.nx) [] (zw st.nx) U O;have fin:∀x∈l,∃(r:List (V×H)) (M:Nat),(∀m:Nat,M<=m->∀q:Nat,M<=q->(match x.e with
      | .exit _=>none
      |_=>match Fe x.ds x.h with
       |some c=>match M9 X.C x.fr c i.results.toList with
        |some v=>some [(v,c)]
        |none=>none
       |none=>none)=some r)/\(nd=false->∃x,r=[x])/\∀x∈r,∃n',n'<=n/\∃r st',Ev X Q n' (k r st')/\∃F' ρ',PR F' ρ' st'.nx r x.1/\CR B h0 F ρ st.nx h st' fr x.2 F' ρ'/\(∀sp,X.sp g=some sp->∀b,b<h.nx->x.2.get b=h.get b):=by
   intro x hx;obtain⟨ps,⟨hds,s,hge⟩,n1,hn1,a,K,F1,ρ1,w,hb1,G,hx1'⟩:=D x hx;obtain⟨e,fr1,hx0,ds1⟩:=x;obtain⟨c,hlv,hsr1,hnx1,_⟩:=SR.leave s (fun b hb hp=>by
    have k1:=hge b hb;have k2:=L.sr.lt b _ (L.sr.pn b hp).1;omega) w.sr
   have W:Rel B h0 F1 ρ1 a fr1 c:=⟨w.fp,hsr1⟩;have hx1:h.nx<=c.nx:=ae
   have go:(∀j,e≠ .exit j)->Ev X Q n1 (match ZR X.C.T a i.results.toList with|some vs=>Qi (LH X.C.T a i.results.toList) (k (Go.Pe.one vs) ⟨st.n,st.fr,a.ob,a.nx⟩)|none=>.fail)->
     ∃v',M9 X.C fr1 c i.results.toList=some v'/\∃n',n'<=n/\∃r st',Ev X Q n' (k r st')/\∃F' ρ',PR F' ρ' st'.nx r v'/\CR B h0 F ρ st.nx h st' fr c F' ρ'/\(∀sp,X.sp g=some sp->∀b,b<h.nx->c.get b=h.get b):=by
    intro hne u;split at u
    case h_2=>grind [z6]
    rename_i ps Z;obtain⟨z,u⟩:=No u;obtain⟨vs,F2,ρ2,k1,k2,k3,k4⟩:=Si W Z z;have I:Le F ρ st.nx F2 ρ2 a.nx:=⟨fun b cs hb=>k4.fz _ _<|G.fz _ _ hb,fun id hid=>by
     rcases k4.rho id ae with e|e
     ·rw[e];exact G.rho id hid
     grind,hb1⟩
    have J:∃S,M9 X.C fr1 c i.results.toList=some S/\PR F2 ρ2 a.nx (Go.Pe.one ps) S:=by
     unfold M9;rw[k1];cases ps with
     |nil=>subst k2;exact⟨_,rfl,by simp[Go.Pe.one,PR]⟩
     |cons p ps=>
      obtain⟨v1,vs1,rfl,g1,R⟩:=k2;cases ps with
      |nil=>subst R;exact⟨_,rfl,g1⟩
      |cons q qs=>
       obtain⟨v2,vs2,rfl,_,_⟩:=R;refine⟨_,rfl,?_⟩;show PR F2 ρ2 a.nx (.tup (p::q::qs)) _;simp_all [PR]
    obtain⟨S,q1,Y⟩:=J;exact⟨S,q1,n1,hn1,_,_,u,F2,ρ2,Y,⟨⟨⟨L.fp.n,fun t=>(L.fp.slot t).mono I⟩,k3.sr⟩,I,hx1⟩,ah⟩
   cases e with
   |normal=>
    obtain⟨v',q1,Y⟩:=go (by simp) K;exact⟨[(v',c)],0,ah,(by simp),ah⟩
   |ret=>
    obtain⟨v',q1,Y⟩:=go (by simp) K;exact⟨[(v',c)],0,ah,(by simp),ah⟩
   |exit j=>grind [z6]
  obtain⟨r,M2,g1,R,g3⟩:=Iu (f:=fun _ _ (x:Det.X)=>match x.e with
      | .exit _=>none
      |_=>match Fe x.ds x.h with
       |some c=>match M9 X.C x.fr c i.results.toList with
        |some v=>some [(v,c)]
        |none=>none
       |none=>none) (P:=fun x=>∃n',n'<=n/\∃r st',Ev X Q n' (k r st')/\∃F' ρ',PR F' ρ' st'.nx r x.1/\CR B h0 F ρ st.nx h st' fr x.2 F' ρ'/\(∀sp,X.sp g=some sp->∀b,b<h.nx->x.2.get b=h.get b)) E fin
  refine⟨ah,r,max M M2+1,fun m hm=>?_,R,g3⟩;obtain⟨y,rfl⟩:∃y,m=y+1:=⟨m-1,by omega⟩;have hg:=g1 y ae y ae;have:A1 X.C (y+1) (.fn g args') h=(match Be X.C (A1 X.C y) none i.cert y i.body (Jf i.ntmps args') h []with
    |none=>none
    |some l=>match (bl l fun x=>match x.e with
     | .exit _=>none
     |_=>match Fe x.ds x.h with
      |some c=>match M9 X.C x.fr c i.results.toList with
       |some v=>some [(v,c)]
       |none=>none
      |none=>none)with
     |some r=>some<|bif X.C.mg then Lm h.nx r else r
     |none=>none):=by
   rw[A1];simp only[hsp,hi];rfl
  grind
theorem KO{nd:Bool}{d:Nat}(w:∀h0,EF B h0 X nd<|BZ X nd d)(j:∀h0,EF B h0 X false<|BZ X false d){id:Nat}{Q:PV->Ob->Prop}{n:Nat}{args:List PV}{k:PV->AF->Tr}{args':List V}
  (he:Ev X Q n (UQ X (BZ X nd d) (BZ X false d) nd d id args st k)) (hr:Rel B h0 F ρ st fr h) (ha:BB F ρ st.nx args args'):
  ∃c,wA X ρ h args' (.rnd id) c/\∃l M,(∀m,M<=m->A1 X.C m c h=some l)/\(nd=false->∃x,l=[x])/\
   ∀x∈l,∃n',n'<=n/\∃r st',Ev X Q n' (k r st')/\∃F' ρ',PR F' ρ' st'.nx r x.1/\CR B h0 F ρ st.nx h st' fr x.2 F' ρ':=by
 unfold UQ at he;split at he
 case h_2=>grind [z6]
 rename_i f r ps asg b n0 sl hob;obtain⟨A,m0,y,k1,k2,⟨ls,rfl,rfl,rfl,rfl,⟨l1,l2⟩,rfl,l4⟩,-⟩:=hr.sr.at hob;cases hsz:z8 args.length ls.ps.size with
 |false=>grind [z6]
 |true=>
 rw[hsz]at he;simp only[we]at he;have hlen:args'.length=ls.ps.size:=by rw[<-ha.len];simp_all
 have hid:id<st.nx:=(hr.sr.own _ _ _ k1).1;have hr0:Rel B h0 F ρ (LJ ls.ps.toList args<|AI ls.fr.n sl st.ob st.nx) (Gg ls.ps.toList args' ls.fr) h:=by
  have R:Rel B h0 F ρ (AI ls.fr.n sl st.ob st.nx) ls.fr h:=⟨⟨rfl,fun t=>l4 t⟩,hr.sr⟩;have go:∀(ts:List Tmp) (g:List PV) (D:List V) (s:AF) (f:Fr),s.nx=st.nx->BB F ρ st.nx g D->Rel B h0 F ρ s f h->Rel B h0 F ρ (LJ ts g s) (Gg ts D f) h:=by
   intro ts;induction ts with
   |nil=>intro g D s f _ _ hs;cases g<;>exact hs
   |cons t ts ih=>
    intro g D s f hn hp hs;cases g with
    |nil=>simp only[Dp]at hp;subst hp;exact hs
    |cons a g=>
     simp only[BB]at hp;obtain⟨v,vs,rfl,p1,p2⟩:=hp;simp only[LJ,Gg];refine ih g vs _ _ ?_ p2 ?_
     ·cases Nat.blt t s.n<;>exact hn
     ·unfold Fr.XA;rw[show s.n=f.n from hs.fp.n];cases Nat.blt t f.n with
      |false=>exact hs
      |true=>exact hs.set ah
  exact go _ _ _ _ _ rfl ha R
 have hnx0:st.nx<=(LJ ls.ps.toList args<|AI ls.fr.n sl st.ob st.nx).nx:=by
  have go:∀(ts:List Tmp) (g:List PV) (s:AF),(LJ ts g s).nx=s.nx:=by
   intro ts;induction ts with
   |nil=>intro g s;rfl
   |cons t ts ih=>
    intro g s;cases g with
    |nil=>rfl
    |cons a g=>simp only[LJ];rw[ih];cases Nat.blt t s.n<;>rfl
  rw[go];exact zw _
 obtain⟨L,M1,hM1,S,P⟩:=MX (ro:=true) (rv:=some A) (ct:=false) (by simp) w j n ls.asg [] hnx0 hr0 he;refine⟨_,⟨A,m0,ls,k1,k2,hlen,rfl⟩,?_⟩;have fin:∀x∈L,∃(r:List (V×H)) (M:Nat),(∀m:Nat,M<=m->∀q:Nat,M<=q->(match x.e,x.h.get A with
   | .normal,some (.loop l1)=>match l1.st with
    | .ready=>match Be X.C (A1 X.C m) (some A) false q ls.body x.fr (x.h.put A<|.loop { l1 with st:=.busy }) x.ds with
     |some l2=>bl l2 fun y=>match y.h.get A with
      |some (.loop l3)=>match y.e with
       | .normal=>some [(V.bool true,y.h.put A<|.loop { l3 with st:=.ready,pend:=none })]
       | .ret=>some [(V.bool false,y.h.put A<|.loop { l3 with st:=.done,pend:=some .ret })]
       | .exit i=>some [(V.bool false,y.h.put A<|.loop { l3 with st:=.done,pend:=some (.exit i) })]
      |_=>none
     |none=>none
    |_=>none
   |_,_=>none)=some r)/\(nd=false->∃x,r=[x])/\∀x∈r,∃n',n'<=n/\∃r st',Ev X Q n' (k r st')/\∃F' ρ',PR F' ρ' st'.nx r x.1/\CR B h0 F ρ st.nx h st' fr x.2 F' ρ':=by
  intro x hx;obtain⟨ps1,_,n1,hn1,s,E,F1,ρ1,G,hb1,hl1,hx1⟩:=P x hx;obtain⟨e,fr1,h1,ds1⟩:=x;simp only at E G hx1 ⊢;cases e with
  |exit i=>grind [z6]
  |ret=>grind [z6]
  |normal=>
  simp only at E;split at E
  case h_2=>grind [z6]
  rename_i f' r' ps' asg' b' n' W J;have hs1:SR B h0 F1 ρ1 s.nx s.ob h1:=G.sr.fN;obtain⟨I,m1,y1,q1,q2,⟨o,rfl,rfl,rfl,rfl,⟨la1,la2⟩,rfl,la4⟩,-⟩:=hs1.at J;obtain⟨rfl,rfl⟩:I=A/\m1=m0:=by
   have:=hl1.at hid q1;grind
  have hr2:Rel B h0 F1 ρ1 (s.setObj id<|.lp f' r' o.ps o.asg o.body .busy o.fr.n W) fr1 (h1.put I<|.loop { o with st:=.busy }):=
   ⟨⟨G.fp.n,fun t=>G.fp.slot t⟩,hs1.set J q1 q2 rfl rfl (o':=.lp f' r' o.ps o.asg o.body .busy o.fr.n W) ⟨_,rfl,rfl,rfl,rfl,rfl,rfl,la4⟩⟩
  obtain⟨L2,M2,hM2,O,U⟩:=MX (ro:=true) (rv:=some I) (ct:=false) (by simp) w j n1 ls.body ds1 (show st.nx<=(s.setObj id<|.lp f' r' o.ps o.asg o.body .busy o.fr.n W).nx from hb1) hr2 E;have fin2:∀y∈L2,∃(r:List (V×H)) (M:Nat),(∀m:Nat,M<=m->∀q:Nat,M<=q->(match y.h.get I with
    |some (.loop l3)=>match y.e with
     | .normal=>some [(V.bool true,y.h.put I<|.loop { l3 with st:=.ready,pend:=none })]
     | .ret=>some [(V.bool false,y.h.put I<|.loop { l3 with st:=.done,pend:=some .ret })]
     | .exit i=>some [(V.bool false,y.h.put I<|.loop { l3 with st:=.done,pend:=some (.exit i) })]
    |_=>none)=some r)/\(nd=false->∃x,r=[x])/\∀x∈r,∃n',n'<=n/\∃r st',Ev X Q n' (k r st')/\∃F' ρ',PR F' ρ' st'.nx r x.1/\CR B h0 F ρ st.nx h st' fr x.2 F' ρ':=by
   intro y hy;obtain⟨ps2,_,n2,hn2,s2,u,F2,Y,hr3,hb2,hl2,hx2⟩:=U y hy;obtain⟨e2,fr2,h2,ds2⟩:=y;simp only at u hr3 hx2 ⊢;split at u
   case h_2=>grind [z6]
   rename_i f2 r2 pp2 aa2 bb2 ss2 nn2 sl2 K;have hs3:SR B h0 F2 Y s2.nx s2.ob h2:=hr3.sr.fN;obtain⟨c2,m2,y2,w1,w2,⟨p,rfl,rfl,rfl,rfl,_,rfl,lb4⟩,-⟩:=hs3.at K;have Z:Le F ρ st.nx F2 Y s2.nx:=by
    have h:=hl1.trans hl2;exact⟨h.fz,h.rho,hb2⟩
   obtain⟨rfl,rfl⟩:c2=I/\m2=m1:=by
    have:=Z.at hid w1;grind
   have hnx:h.nx<=h2.nx:=yk hx1 hx2;have done:∀(sb:LpS) (T:LoopState) (pe:Option Code) (rb:Bool),LpR sb T pe->Ev X Q n2 (k (.bl rb) ⟨st.n,st.fr,(s2.setObj id<|.lp f2 r2 p.ps p.asg p.body sb p.fr.n sl2).ob,s2.nx⟩)->
     ∃n',n'<=n/\∃r st',Ev X Q n' (k r st')/\∃F' ρ',PR F' ρ' st'.nx r (V.bool rb)/\CR B h0 F ρ st.nx h st' fr (h2.put c2<|.loop { p with st:=T,pend:=pe }) F' ρ':=by
    intro sb T pe rb hlr he3;refine⟨n2,ae,_,_,he3,F2,Y,aN _,⟨⟨⟨hr.fp.n,fun t=>(hr.fp.slot t).mono Z⟩,?_⟩,Z,hnx⟩⟩;exact hs3.set K w1 w2 rfl rfl (o':=.lp f2 r2 p.ps p.asg p.body sb p.fr.n sl2) ⟨_,rfl,rfl,rfl,rfl,hlr,rfl,lb4⟩
   cases e2 with
   |normal=>exact⟨[(.bool true,h2.put c2<|.loop { p with st:=.ready,pend:=none })],0,ah,(by simp),fun z hz=>by cases zn.1 hz;exact done .ready _ _ true ⟨rfl,rfl⟩ u⟩
   |ret=>exact⟨[(.bool false,h2.put c2<|.loop { p with st:=.done,pend:=some .ret })],0,ah,(by simp),fun z hz=>by cases zn.1 hz;exact done .ret _ _ false ⟨rfl,rfl⟩ u⟩
   |exit i=>exact⟨[(.bool false,h2.put c2<|.loop { p with st:=.done,pend:=some (.exit i) })],0,ah,(by simp),fun z hz=>by cases zn.1 hz;exact done (.exit i) _ _ false ⟨rfl,rfl⟩ u⟩
  obtain⟨r,M3,j1,j2,j3⟩:=Iu O fin2;refine⟨r,max M2 M3,fun m hm q hq=>?_,j2,j3⟩;have a1:=hM2 m ae q ae;simp only at a1;have a2:=j1 m ae q ae;simp only[q2,la1];rw[a1];exact a2
 obtain⟨r,M4,j1,j2,j3⟩:=Iu S fin;refine⟨r,max M1 M4+1,fun m hm=>?_,j2,j3⟩;obtain⟨m',rfl⟩:∃m',m=m'+1:=⟨m-1,by omega⟩;have a1:=hM1 m' ae m' ae;simp only at a1;have a2:=j1 m' ae m' ae;rw[A1];simp only[QH];rw[a1];exact a2
end
section
variable {B:Nat}{h0:H0}{X:A0}{F F1 F':Fz}{ρ:DH}{N:Nat}{st st':AF}{fr:Fr}{h h':H}
theorem Yh{p:PV}{v:V}(a:PR F ρ N p v):∃w,BB F ρ N p.cells w/\(Oh p=true->v=.agg w)/\(Oh p=false->w=[v]):=by
 cases p with
 |agg l=>obtain⟨cs,rfl,b⟩:=a;exact⟨cs,b,fun _=>rfl,fun e=>by cases e⟩
 |_=>exact⟨[v],by simp only[zu,By,Dp,ve];exact a,fun e=>(by cases e),fun _=>rfl⟩
theorem Pu{st:AF}{s:Sh}{p:PV}{x:s.T}{v:V}{w:List V}(a:HF st s p=some (true,x))(m:Oh p=true->v=.agg w)(k:Oh p=false->w=[v])(g:∀f,DT st p.cells=some (true,f)->JF F f w):PC F (BN s x) v:=by
 unfold HF at a;cases j:(Oh p==s.MF)with
 |false=>grind
 |true=>
  rw[j]at a;simp only[we]at a;split at a
  case h_2=>cases a
  rename_i c cs e;split at a
  case h_2=>cases a
  rename_i y i;simp only[ye,Prod.mk.injEq,zd]at a;obtain⟨⟨d,rfl⟩,rfl⟩:=a;have b:=JF.dc (fun ρ N=>PG (g cs e ρ N) d) i;have l:=PC.BN b;cases n:s.MF with
  |true=>grind
  |false=>grind
theorem handed:∀ {ps:List PV} {vs:List V} {st:AF} {F:Fz},SR B h0 F ρ st.nx st.ob h->BB F ρ st.nx ps vs->
  ∃F1,SR B h0 F1 ρ (Bf (ps.flatMap zu) st).nx (Bf (ps.flatMap zu) st).ob h/\(∀b cs,F b=some cs->F1 b=some cs)/\∀l i,CT st l ps=some (true,i)->JF F1 (Af l i) vs
 |[],vs,st,F,j,m=>⟨F,j,fun _ _ h=>h,fun l i e=>by
  have f:vs=[]:=by simp_all
  subst f;match l,i,e with
  |[],_,_=>intro ρ' N';rfl
  |[a],_,e=>cases e
  |a::b::l,_,e=>cases e⟩
 |p::ps,vs,st,F,j,m=>by
  obtain⟨v,vs,rfl,t,r⟩:=m;obtain⟨w,c1,c2,c3⟩:=Yh t;obtain⟨F1,g1,g2,g3⟩:=HL j c1;have g:BB F1 ρ (Bf p.cells st).nx ps vs:=by rw[(C2 p.cells st).1];exact r.mono<|Le.Ye g2
  obtain⟨s,o,k,A⟩:=handed g1 g;rw[List.flatMap_cons,HH];refine⟨s,o,ah,fun l i e=>?_⟩;match l,i,e with
  |[],_,e=>cases e
  |[a],i,e=>
   cases ps with
   |cons q z=>cases e
   |nil=>
    have f:vs=[]:=by simp_all
    subst f;have:=(Pu (st:=st) (F:=F1) (by simpa [CT]using e) c2 c3 g3).mono k;intro ρ' N';simp only[Af,By,Dp,ve];exact this ρ' N'
  |a::b::l,i,e=>
   unfold CT at e;split at e
   case h_2=>cases e
   rename_i c x d y n u;simp only[ye,Prod.mk.injEq,zd]at e;obtain⟨⟨rfl,rfl⟩,rfl⟩:=e;exact JF.cons ((Pu n c2 c3 g3).mono k) (by grind [K8,LU])
theorem SR.after{ob:Ob}(a:SR B h0 F ρ N ob h)(g:∀b,b<h.nx->h'.get b=h.get b)(m:h.nx<=h'.nx)(d:∀b o,h'.get b=some o->b<h'.nx)(q:∀b cs,F b=some cs->F' b=some cs)
  (j:∀b cs,F' b=some cs->F b=some cs\/h.nx<=b) (f:∀b cs,F' b=some cs->∃t fz,h'.get b=some (.cells cs t fz)):SR B h0 F' ρ N ob h':=by
 refine⟨fun id o r=>?_,a.inj,f,a.own,a.dead,fun b c u=>?_,d,yk a.le m,fun b cs c=>?_,a.gl,fun b c=>by obtain⟨i,l,p⟩:=a.pn b c;exact⟨by rw[g b<|a.lt b _ i];exact i,l,p⟩⟩
 ·obtain⟨b,n,x,h1,k,s,y,v⟩:=a.obj id o r;have c:=a.lt b x k;refine⟨b,n,x,h1,by grind,s.mono<|Le.Ye (ρ:=ρ) q,fun e=>?_,fun e=>?_⟩
  ·cases w:F' b with
   |none=>rfl
   |some cs=>
    grind
  grind
 ·rw[g b<|Nat.lt_of_lt_of_le c a.le];exact a.old b c u
 ·rcases j b cs c with h1|h1
  ·exact a.fo b cs h1
  ·exact .inr<|.inl<|yk a.le h1
theorem SR.gh{ob:Ob}(d:SR B h0 F ρ N ob h):Gh h:=fun x e=>by
 obtain⟨a,b,c⟩:=d.gl x e;rw[d.old _ a b];exact c
structure Rq(C:Ctx)(f:FuncId)(sp:Aq):Prop where
 prim:C.prim f=none
 fn:∃i,C.fn f=some i
 run:∀(F:Fz) (h:H) (args:List V) (i:(Bv sp.ins).T),(∀b cs,F b=some cs->∃t fz,h.get b=some (.cells cs t fz))->(∀b o,h.get b=some o->b<h.nx)->Gh h->JF F (Af sp.ins i) args->sp.pre i=true->
  ∃l M,(∀m,M<=m->A1 C m (.fn f args) h=some l)/\(sp.nd=false->∃x,l=[x])/\∀x∈l,h.nx<=x.2.nx/\(∀b,b<h.nx->x.2.get b=h.get b)/\(∀b o,x.2.get b=some o->b<x.2.nx)/\
   ∃F':Fz,(∀b cs,F b=some cs->F' b=some cs)/\(∀b cs,F' b=some cs->F b=some cs\/h.nx<=b)/\(∀b cs,F' b=some cs->∃t fz,x.2.get b=some (.cells cs t fz))/\
    PC F' (one (Af sp.outs (sp.f i))) x.1
structure sD(C:Ctx)(f:FuncId)(sp:Aq):Prop where
 run:∃q,C.prim f=some q/\∀(F:Fz) (h:H) (args:List V) (i:(Bv sp.ins).T),JF F (Af sp.ins i) args->sp.pre i=true->∃v,q args h=some (v,h)/\PC F (one (Af sp.outs (sp.f i))) v
def Ag(C:Ctx)(f:FuncId)(sp:Aq):Prop:=Rq C f sp\/sD C f sp
theorem Ag.zW{C:Ctx}{f:FuncId}{sp:Aq}(h:Rq C f sp):Ag C f sp:=.inl h
theorem Ag.zero{C:Ctx}{f:FuncId}{sp:Aq}(h:Ag C f sp)(b:C.prim f=none):Rq C f sp:=by
 rcases h with h|⟨q,a,_⟩
 ·exact h
 grind
theorem Ag.go{C:Ctx}{f:FuncId}{sp:Aq}(ok:Ag C f sp)(F:Fz)(h:H)(args:List V)(i:(Bv sp.ins).T)(e:∀b cs,F b=some cs->∃t fz,h.get b=some (.cells cs t fz))(d:∀b o,h.get b=some o->b<h.nx)(c:Gh h)(j:JF F (Af sp.ins i) args)(k:sp.pre i=true):
  ∃l,(((C.prim f=none/\∃i,C.fn f=some i)/\∃M,∀m,M<=m->A1 C m (.fn f args) h=some l)\/∃q x,C.prim f=some q/\q args h=some x/\l=[x])/\(sp.nd=false->∃x,l=[x])/\∀x∈l,h.nx<=x.2.nx/\(∀b,b<h.nx->x.2.get b=h.get b)/\(∀b o,x.2.get b=some o->b<x.2.nx)/\
   ∃F':Fz,(∀b cs,F b=some cs->F' b=some cs)/\(∀b cs,F' b=some cs->F b=some cs\/h.nx<=b)/\(∀b cs,F' b=some cs->∃t fz,x.2.get b=some (.cells cs t fz))/\
    PC F' (one<|Af sp.outs<|sp.f i) x.1:=by
 rcases ok with ok|⟨q,s,a⟩
 ·obtain⟨l,M,n,g,p⟩:=ok.run F h args i e d c j k;exact⟨l,.inl ⟨⟨ok.prim,ok.fn⟩,M,n⟩,g,p⟩
 ·obtain⟨v,n,g⟩:=a F h args i j k;refine⟨[(v,h)],ah,(by simp),fun x r=>?_⟩;grind
theorem DC.sc:∀ {s:Sh} {x:s.T} {cs:List V},s.sc=true->DC F s x cs->DC F' s x cs
 | .int _,_,_,_,h=>by simpa only[DC]using h
 | .bool,_,_,_,h=>by simpa only[DC]using h
 | .str,_,_,_,h=>by simpa only[DC]using h
 | .list s,l,_,e,h=>by cases e
 | .pair a b,x,_,e,h=>by
  simp only[Sh.sc,zd]at e;obtain⟨c,d,rfl,g,f⟩:=h;exact⟨c,d,rfl,g.sc e.1,f.sc e.2⟩
 | .unit,_,_,_,h=>by simpa only[DC]using h
 | .nlist s,l,_,e,h=>by cases e
 | .fnv,_,_,_,h=>by simpa only[DC]using h
 | .ptr _,_,_,e,_=>by cases e
theorem QA:∀ {s:Sh} {x:s.T} {cs:List V},s.sc=true->BB F ρ N (flat s x) cs->JF F' (flat s x) cs
 | .int k,x,cs,_,h=>fun ρ' N'=>by
  obtain⟨v,vs,rfl,f,rfl⟩:=h;exact⟨v,[],rfl,by simp only[PR]at f ⊢;exact f.sc rfl,rfl⟩
 | .bool,x,cs,_,h=>fun ρ' N'=>by
  obtain⟨v,vs,rfl,f,rfl⟩:=h;exact⟨v,[],rfl,by simp only[PR]at f ⊢;exact f.sc rfl,rfl⟩
 | .str,x,cs,_,h=>fun ρ' N'=>by
  obtain⟨v,vs,rfl,f,rfl⟩:=h;exact⟨v,[],rfl,by simp only[PR]at f ⊢;exact f.sc rfl,rfl⟩
 | .list s,x,cs,e,h=>by cases e
 | .pair a b,(x,y),cs,e,h=>fun ρ' N'=>by
  simp only[Sh.sc,zd]at e;have key:∀(ps g:List PV) (l:List V),BB F ρ N (ps++g) l->∃c d,l=c++d/\BB F ρ N ps c/\BB F ρ N g d:=by
   intro ps;induction ps with
   |nil=>intro g l j;exact⟨[],l,rfl,by simp,j⟩
   |cons p ps m=>
    intro g l j;obtain⟨v,vs,rfl,f,i⟩:=j;obtain⟨c,d,rfl,h3,h4⟩:=m g vs i;exact⟨v::c,d,rfl,by simp_all,h4⟩
  obtain⟨c,d,rfl,f,i⟩:=key _ _ _ h;exact(QA e.1 f ρ' N').append<|QA e.2 i ρ' N'
 | .unit,_,cs,_,h=>fun ρ' N'=>by simpa [flat]using h
 | .nlist s,x,cs,e,h=>by cases e
 | .fnv,x,cs,_,h=>fun ρ' N'=>by
  simp only[flat,BB]at h ⊢;grind [PR,Dp]
 | .ptr _,_,_,e,_=>by cases e
theorem VI{s:Sh}{x:s.T}{v:V}(e:s.sc=true)(h:PC F (BN s x) v):PC F' (BN s x) v:=by
 intro ρ' N';have h:=h ρ' N';cases s with
 |pair a b=>
  obtain⟨cs,rfl,c⟩:=h;exact⟨cs,rfl,QA e c ρ' N'⟩
 |unit=>simp_all [Pe.BN,PR]
 |int k=>unfold Pe.BN PR at h ⊢;exact h.sc rfl
 |bool=>unfold Pe.BN PR at h ⊢;exact h.sc rfl
 |str=>unfold Pe.BN PR at h ⊢;exact h.sc rfl
 |list s=>cases e
 |nlist s=>cases e
 |ptr s=>cases e
 |fnv=>
  unfold Pe.BN at h ⊢;grind [PR,Dp]
theorem WU:∀ {l:List Sh} {x:(Bv l).T} {vs:List V},l.all Sh.sc=true->JF F (Af l x) vs->JF F' (Af l x) vs
 |[],_,vs,_,h=>fun ρ' N'=>by have:=h ρ' N';simpa [Af]using this
 |[a],x,vs,e,h=>fun ρ' N'=>by
  have g:=h ρ' N';obtain⟨v,f,rfl,j,rfl⟩:=g;simp only[yu,List.all_nil,Bool.and_true]at e;simp only[Af,By,Dp,ve];refine VI (F:=F) e (fun c d=>?_) ρ' N';have:=h c d;simp_all [Af]
 |a::b::l,x,vs,e,h=>by
  have g:=h (fun _=>none) 0;obtain⟨v,f,rfl,_,_⟩:=g;have i:a.sc=true/\(b::l).all Sh.sc=true:=ah
  exact JF.cons (VI i.1 fun c d=>((By ..).1<|h c d).1)<|WU i.2 fun c d=>((By ..).1<|h c d).2
theorem SI{l:List Sh}{x:(Bv l).T}{v:V}:PC F (one<|Af l x) v↔∃vs,JF F (Af l x) vs/\v=(match vs with|[u]=>u|us=>.tup us):=by
 have c:∀ps:List PV,(∀u,ps≠[u])->(PC F (one ps) v↔∃vs,JF F ps vs/\v=(match vs with|[u]=>u|us=>.tup us)):=by
  intro ps i;have k:one ps=.tup ps:=by
   simp_all [one]
  rw[k];constructor
  ·intro h;have d:=h (fun _=>none) 0;obtain⟨cs,rfl,g⟩:=d;refine⟨cs,fun ρ N=>?_,?_⟩
   ·have m:=h ρ N;grind [PR]
   ·have f:=g.len;split
    ·cases ps with
     |nil=>cases f
     |cons q j=>grind
    ·rfl
  ·rintro⟨vs,d,rfl⟩ ρ N;have f:=(d ρ N).len;split
   ·cases ps with
    |nil=>cases f
    |cons q j=>grind
   ·exact⟨_,rfl,d ρ N⟩
 match l,x with
 |[],x=>exact c [] (by simp)
 |[a],x=>
  simp only[Af,one];constructor
  ·intro h;exact⟨[v],fun ρ N=>by simp only[By,Dp,ve];exact h ρ N,rfl⟩
  ·rintro⟨vs,d,rfl⟩ ρ N;have g:=d ρ N;simp only[BB]at g;grind
 |a::b::l,x=>
  refine c _<|fun u e=>?_;cases l<;>cases e
theorem Xf{nd:Bool}{g:FuncId}{sp:Aq}(_hsp:X.sp g=some sp)(u:Ag X.C g sp)(J:nd=false->sp.nd=false){Q:PV->Ob->Prop}{n:Nat}{args:List PV}{k:PV->AF->Tr}{args':List V}(v:Ev X Q n (eS sp args st k))(a:Rel B h0 F ρ st fr h)(P:BB F ρ st.nx args args'):
  ∃l,LX X ρ h args' (.fn g) l/\(nd=false->∃x,l=[x])/\
   ∀x∈l,∃n',n'<=n/\∃r st',Ev X Q n' (k r st')/\∃F' ρ',PR F' ρ' st'.nx r x.1/\CR B h0 F ρ st.nx h st' fr x.2 F' ρ'/\(∀sp,X.sp g=some sp->∀b,b<h.nx->x.2.get b=h.get b):=by
 unfold eS at v;split at v
 case h_2=>grind [z6]
 rename_i c i S;rcases v.Ee with⟨y,j⟩|⟨_,j⟩
 case inr=>grind [z6]
 simp only[zd]at y;obtain⟨rfl,e⟩:=y;obtain⟨F1,g1,g2,g3⟩:=handed a.sr P;obtain⟨l,o,hone,hall⟩:=u.go F1 h args' i g1.frz a.sr.lt a.sr.gh (g3 _ i S) e;have s:LX X ρ h args' (.fn g) l:=by
  rcases o with⟨p,M,o⟩|⟨q,x,p,O,rfl⟩
  ·exact .A1 ⟨rfl,p⟩ o
  ·exact .prim p O
 refine⟨l,s,ah,fun x A=>?_⟩;obtain⟨m,w,z,F',I,D,T,G⟩:=hall x A;refine⟨n,zw _,_,_,j,?_⟩;cases L:sp.outs.all Sh.sc with
 |true=>
  have K:PC F (one<|Af sp.outs<|sp.f i) x.1:=by
   grind [SI,WU]
  refine⟨F,ρ,K ρ _,⟨⟨a.fp,?_⟩,Le.refl,m⟩,ah⟩;refine a.sr.after w m z (by simp) ah<|fun b cs W=>?_;grind
 |false=>
  simp only[wg];obtain⟨U,E,R⟩:=C2 (args.flatMap zu) st;have d:Le F ρ st.nx F' ρ (Bf (args.flatMap zu) st).nx:=by
   grind [Le.Ye]
  refine⟨F',ρ,G ρ _,⟨⟨⟨R.trans a.fp.n,fun t=>?_⟩,?_⟩,d,m⟩,ah⟩
  ·have:(Bf (args.flatMap zu) st).get t=st.get t:=by unfold AF.get;rw[E]
   rw[this];exact(a.fp.slot t).mono d
  ·exact g1.after w m z I D T
structure Ki(C:Ctx)(f:FuncId)(w:VX):Prop where
 prim:C.prim f=none
 fn:∃i,C.fn f=some i
 len:∀i l,w.pre i l=true->(w.g i l).length=l.length
 run:∀(F:Fz) (h:H) (args:List V) (i:(Bv w.ins).T) (l:List w.el.T) (b:Nat) (cs:List V) (fz:Nat×Nat) (o:Nat),(∀b cs,F b=some cs->∃t fz,h.get b=some (.cells cs t fz))->(∀b o,h.get b=some o->b<h.nx)->Gh h->JF F (Af w.ins i) args->w.pre i l=true->
  h.get b=some (.cells cs w.ty fz)->Dc F w.el l cs->fz.2<=fz.1->F b=none->(o=0\/o=w.el.sz)->
  ∃x M,(∀m,M<=m->A1 C m (.fn f (wj w.fst args (.sl b 0 l.length l.length o))) h=some [x])/\x.1=.tup []/\h.nx<=x.2.nx/\(∀c,c<h.nx->c≠b->x.2.get c=h.get c)/\(∀c y,x.2.get c=some y->c<x.2.nx)/\
   ∃F':Fz,(∀b cs,F b=some cs->F' b=some cs)/\(∀b cs,F' b=some cs->F b=some cs\/h.nx<=b)/\(∀b cs,F' b=some cs->∃t fz,x.2.get b=some (.cells cs t fz))/\
    ∃cs' fz',x.2.get b=some (.cells cs' w.ty fz')/\Dc F' w.el (w.g i l) cs'/\fz'.2<=fz'.1
 nils:∀(F:Fz) (h:H) (args:List V) (i:(Bv w.ins).T),(∀b cs,F b=some cs->∃t fz,h.get b=some (.cells cs t fz))->(∀b o,h.get b=some o->b<h.nx)->Gh h->JF F (Af w.ins i) args->w.pre i []=true->
  ∃x M,(∀m,M<=m->A1 C m (.fn f (wj w.fst args .nils)) h=some [x])/\x.1=.tup []/\h.nx<=x.2.nx/\(∀c,c<h.nx->x.2.get c=h.get c)/\(∀c y,x.2.get c=some y->c<x.2.nx)/\
   ∃F':Fz,(∀b cs,F b=some cs->F' b=some cs)/\(∀b cs,F' b=some cs->F b=some cs\/h.nx<=b)/\(∀b cs,F' b=some cs->∃t fz,x.2.get b=some (.cells cs t fz))
theorem BB.split:∀ {a b:List PV} {vs:List V},BB F ρ N (a++b) vs->∃x y,vs=x++y/\BB F ρ N a x/\BB F ρ N b y
 |[],b,vs,h=>⟨[],vs,rfl,by simp,h⟩
 |p::a,b,vs,h=>by
  obtain⟨v,vs,rfl,d,c⟩:=h;obtain⟨x,y,rfl,h3,h4⟩:=c.split;exact⟨v::x,y,rfl,by simp_all,h4⟩
theorem SR.wrote{ob:Ob}(a:SR B h0 F ρ N ob h){id b n:Nat}{o o':Obj}{x':O}(U:AK ob id=some o)(z:ρ id=some (b,n))(G:b<h.nx)(J:F b=none)(D:o'.frozen=false)(E:h'.get b=some x')(V:Vb F' ρ N n o' x')
  (x:∀c,c<h.nx->c≠b->h'.get c=h.get c) (C:h.nx<=h'.nx) (w:∀b o,h'.get b=some o->b<h'.nx) (S:∀b cs,F b=some cs->F' b=some cs)
  (K:∀b cs,F' b=some cs->F b=some cs\/h.nx<=b) (u:∀b cs,F' b=some cs->∃t fz,h'.get b=some (.cells cs t fz)):SR B h0 F' ρ N (DE ob id o') h':=by
 have l:∀j,AK (DE ob id o') j=if j=id then some o' else AK ob j:=(by grind [Gk])
 have s:∀c,c<h.nx->F c=none->F' c=none:=fun c f W=>by
  cases h1:F' c with
  |none=>rfl
  |some cs=>
   grind
 refine⟨fun j oj d=>?_,fun i j oi oj c m P T d h1 v=>?_,u,a.own,fun j d=>?_,fun c f A=>?_,w,yk a.le C,fun c cs f=>?_,a.gl,fun c f=>?_⟩
 ·rw[l]at d;by_cases e:j=id
  ·grind
  ·rw[wc e]at d;obtain⟨c,m,y,h1,v,I,Z,Y⟩:=a.obj j oj d;have p:c≠b:=fun L=>e<|a.inj j id oj o c m n d U h1<|L▸z
   have f:=a.lt c y v;refine⟨c,m,y,h1,by grind,I.mono<|Le.Ye (ρ:=ρ) S,ah,fun e=>?_⟩;grind
 ·have g:∀k ok,AK (DE ob id o') k=some ok->∃M,AK ob k=some M:=by
   grind
  obtain⟨_,q⟩:=g i oi T;obtain⟨_,r⟩:=g j oj d;exact a.inj i j _ _ c m P q r h1 v
 ·rw[l]at d;by_cases e:j=id
  ·grind
  ·rw[wc e]at d;exact a.dead j d
 ·rw[x c (Nat.lt_of_lt_of_le f a.le)<|Mp (a.own id b n z).2 f A];exact a.old c f A
 ·rcases K c cs f with h1|h1
  ·exact a.fo c cs h1
  ·exact .inr<|.inl<|yk a.le h1
 ·obtain⟨q,r,R⟩:=a.pn c f;have p:c≠b:=ah;exact⟨by rw[x c (a.lt c _ q) p];exact q,r,R⟩
theorem ZK{α:Type}{b:Bool}{a:List α}{x:α}{r:List α}(h:wsp b a=some (x,r)):a=wj b r x:=by
 unfold wsp at h;unfold wj;cases b with
 |true=>cases a with
  |nil=>cases h
  |cons y l=>cases h;rfl
 |false=>
  have h:(match a.reverse with|[]=>none|x::r=>some (x,r.reverse))=some (x,r):=h;cases e:a.reverse with
  |nil=>rw[e]at h;cases h
  |cons y l=>
   rw[e]at h;cases h;have:=wi List.reverse e;simpa using this
theorem BB.wj{b:Bool}{r:List PV}{x:PV}{vs:List V}(h:BB F ρ N (wj b r x) vs):∃a v,vs=Go.Pe.wj b a v/\BB F ρ N r a/\PR F ρ N x v:=by
 cases b with
 |true=>
  have h:BB F ρ N (x::r) vs:=h;simp only[BB]at h;obtain⟨v,a,rfl,d,c⟩:=h;exact⟨a,v,rfl,c,d⟩
 |false=>
  have h:BB F ρ N (r++[x]) vs:=h;obtain⟨a,y,rfl,d,c⟩:=h.split;obtain⟨v,_,rfl,hv,rfl⟩:=c;exact⟨a,v,rfl,d,hv⟩
theorem TL{nd:Bool}{g:FuncId}{w:VX}(hno:X.sp g=none)(a:Ki X.C g w){Q:PV->Ob->Prop}{n:Nat}{args:List PV}{k:PV->AF->Tr}{args':List V}(u:Ev X Q n (TU w args st k))(p:Rel B h0 F ρ st fr h)(I:BB F ρ st.nx args args'):
  ∃l,LX X ρ h args' (.fn g) l/\(nd=false->∃x,l=[x])/\
   ∀x∈l,∃n',n'<=n/\∃r st',Ev X Q n' (k r st')/\∃F' ρ',PR F' ρ' st'.nx r x.1/\CR B h0 F ρ st.nx h st' fr x.2 F' ρ'/\(∀sp,X.sp g=some sp->∀b,b<h.nx->x.2.get b=h.get b):=by
 unfold TU at u;split at u
 ·rename_i id sz nn r f;rw[ZK f]at I;obtain⟨a1,v,rfl,z,K⟩:=I.wj;obtain⟨F1,g1,g2,g3⟩:=handed p.sr z;split at u
  case h_2=>grind [z6]
  rename_i c i t s l W Y;cases q:z8 t w.ty with
  |false=>grind [z6]
  |true=>
  rw[q]at u;have q:=z7 q;split at u
  case h_2=>grind [z6]
  rename_i l' U;obtain⟨e,rfl⟩:=Cm U;cases e;rcases u.Ee with⟨G,j⟩|⟨_,j⟩
  case inr=>grind [z6]
  simp only[zd,w5]at G;obtain⟨⟨⟨rfl,d⟩,Z⟩,A⟩:=G;have A:=z7 A;subst Z A q;obtain⟨e1,e2,e3⟩:=C2 (r.flatMap zu) st;obtain⟨b,m,x,h1,h2,⟨cs,fz,rfl,k1,k2,k3⟩,h4,_⟩:=g1.obj id _ Y;simp only[PR]at K;obtain⟨o,ho',rfl⟩:∃o,(o=0\/o=w.el.sz)/\v=.sl b (0*w.el.sz) (List.length l) (List.length l) o:=by
   grind
  rw[Nat.zero_mul];obtain⟨x,M,L,q1,E,O,S,F',J,T,R,cs',fz',f4,f5,f6⟩:=a.run F1 h a1 i l b cs fz o g1.frz p.sr.lt p.sr.gh (g3 _ i W) d h2 k1 k2 (h4 rfl) ho';refine⟨[x],.A1 ⟨rfl,a.prim,a.fn⟩ L,(by simp),fun y P=>?_⟩;cases zn.1 P;refine⟨n,zw _,_,_,j,F',ρ,?_,⟨⟨⟨e3.trans p.fp.n,fun t=>?_⟩,?_⟩,?_,E⟩,ah⟩
  ·rw[q1];simp[PR]
  ·have:((Bf (r.flatMap zu) st).setObj id<|.arr false w.ty w.el<|w.g i l).get t=st.get t:=by
    show((Bf (r.flatMap zu) st).fr.get t).getD .any=_;rw[e2];rfl
   rw[this];refine(p.fp.slot t).mono ?_;show Le F ρ st.nx F' ρ (Bf (r.flatMap zu) st).nx;grind [Le.Ye]
  ·exact g1.wrote Y h1 (p.sr.lt _ _ h2) (h4 rfl) rfl f4 ⟨cs',fz',rfl,f5,f6,by rw[<-k3];exact a.len i l d⟩ O E S J T R
  ·show Le F ρ st.nx F' ρ (Bf (r.flatMap zu) st).nx;grind [Le.Ye]
 ·rename_i r f;rw[ZK f]at I;obtain⟨a1,v,rfl,z,K⟩:=I.wj;subst K;obtain⟨F1,g1,g2,g3⟩:=handed p.sr z;split at u
  case h_2=>grind [z6]
  rename_i c i W;rcases u.Ee with⟨G,j⟩|⟨_,j⟩
  case inr=>grind [z6]
  simp only[zd]at G;obtain⟨rfl,d⟩:=G;obtain⟨e1,e2,e3⟩:=C2 (r.flatMap zu) st;obtain⟨x,M,L,q1,E,O,S,F',J,T,R⟩:=a.nils F1 h a1 i g1.frz p.sr.lt p.sr.gh (g3 _ i W) d;have D:Le F ρ st.nx F' ρ (Bf (r.flatMap zu) st).nx:=by
   grind [Le.Ye]
  refine⟨[x],.A1 ⟨rfl,a.prim,a.fn⟩ L,(by simp),fun y P=>?_⟩;cases zn.1 P;refine⟨n,zw _,_,_,j,F',ρ,?_,⟨⟨⟨e3.trans p.fp.n,fun t=>?_⟩,?_⟩,D,E⟩,ah⟩
  ·rw[q1];simp[PR]
  ·have:(Bf (r.flatMap zu) st).get t=st.get t:=by unfold AF.get;rw[e2]
   rw[this];exact(p.fp.slot t).mono D
  ·exact g1.after O E S J T R
 grind [z6]
theorem Gy(j:X.C.mg=false)(f:∀g sp,X.sp g=some sp->Ag X.C g sp)(i:∀g w,X.ws g=some w->Ki X.C g w):∀(d:Nat) (nd:Bool) (h0:H0),EF B h0 X nd<|BZ X nd d
 |0,nd,h0=>by intro a;exact wh a z6
 |d+1,nd,h0=>by
  rename_i Q n T args st k;intro a F ρ fr h args' q t;unfold BZ at a;cases T with
  |rnd id=>
   obtain⟨c,L,l,M,S,O,Z⟩:=KO (Gy j f i d nd) (Gy j f i d false) a q t;refine⟨l,.A1 L S,O,fun x u=>?_⟩;grind
  |fn g=>
  simp only at a;have conv:(∃l,LX X ρ h args' (.fn g) l/\(nd=false->∃x,l=[x])/\
   ∀x∈l,∃n',n'<=n/\∃r st',Ev X Q n' (k r st')/\∃F' ρ',PR F' ρ' st'.nx r x.1/\CR B h0 F ρ st.nx h st' fr x.2 F' ρ'/\(∀sp,X.sp g=some sp->∀b,b<h.nx->x.2.get b=h.get b))->
   ∃l,LX X ρ h args' (.fn g) l/\(nd=false->∃x,l=[x])/\
   ∀x∈l,∃n',n'<=n/\∃r st',Ev X Q n' (k r st')/\∃F' ρ',PR F' ρ' st'.nx r x.1/\CR B h0 F ρ st.nx h st' fr x.2 F' ρ'/\(∀J,pJ.fn g=.fn J->∀sp,X.sp J=some sp->∀b,b<h.nx->x.2.get b=h.get b):=by
   simp
  obtain⟨o,p⟩:∃o,X.sp g=o:=⟨_,rfl⟩;cases o with
  |some sp=>
   rw[p]at a;simp only at a;cases G:(nd|| !sp.nd)with
   |false=>grind [z6]
   |true=>
    rw[G]at a;exact conv (Xf (nd:=nd) p (f g sp p) ah a q t)
  |none=>
   rw[p]at a;obtain⟨P,E⟩:∃o,X.ws g=o:=⟨_,rfl⟩;cases P with
   |some w=>rw[E]at a;exact conv (TL p (i g w E) a q t)
   |none=>
   rw[E]at a;simp only at a;cases m:X.esc.any (z8 g)with
   |true=>
    rw[m]at a;unfold xS at a;split at a
    case h_2=>grind [z6]
    rename_i id off;cases s:Hy (st.obj id)with
    |false=>grind [z6]
    |true=>
     rw[s]at a;obtain⟨Y,v,G⟩:=List.any_eq_true.1 m;have e:=z7 G;subst e;have D:=X.escOk g v;obtain⟨o,ho⟩:=U7 s;obtain⟨b,n',z,q1,_⟩:=q.sr.at ho;obtain⟨x,_,rfl,u,rfl⟩:=t;have I:=u;obtain rfl:=I.2 b n' q1;exact conv ⟨[(.ptr b off,h)],.prim D rfl,(by simp),fun y R=>by
      cases zn.1 R;exact⟨n,zw _,_,st,a,F,ρ,u,CR.refl q,(by simp)⟩⟩
   |false=>
   rw[m]at a;split at a
   case h_2=>grind [z6]
   rename_i D A;obtain⟨U,l,M,K,V,W⟩:=IJ (Gy j f i d nd) (Gy j f i d false) j A D p a q t;exact conv ⟨l,.A1 ⟨rfl,U⟩ K,V,W⟩
theorem MN{st:AF}:∀ {l:List Sh} {ps:List PV} {r:Bool×(Bv l).T},CT st l ps=some r->l.length=ps.length
 |[],[],_,_=>rfl
 |[],_::_,_,h=>by cases h
 |[a],[p],_,_=>rfl
 |[a],[],_,h=>by cases h
 |[a],_::_::_,_,h=>by cases h
 |a::b::l,[],_,h=>by cases h
 |a::b::l,p::ps,_,h=>by
  unfold CT at h;split at h
  case h_2=>cases h
  rename_i d c;have:=MN c;grind
def Iy(outs:List Sh)(v:PV):List PV:=match outs with
 |[_]=>[v]
 |_=>match v with
  | .tup vs=>vs
  |_=>[v]
def NB(outs:List Sh)(v:PV)(ob:Ob):Option (Bool×(Bv outs).T):=CT ⟨0,.leaf,ob,0⟩ outs<|Iy outs v
def Ends(X:A0)(t:Tr)(Q:PV->Ob->Prop):Prop:=∃n,Ev X Q n t
def Ac(sp:Aq)(i:(Bv sp.ins).T)(v:PV)(ob:Ob):Prop:=∃y,NB sp.outs v ob=some (true,y)/\y=sp.f i
theorem TT{v:PV}(h:bP v=true)(st st':AF):Cq st v=Cq st' v:=by
 cases v<;>first|rfl|cases h
theorem Io(st st':AF):∀ {l:List PV},l.all bP=true->DT st l=DT st' l
 |[],_=>rfl
 |v::l,h=>by
  rw[yu,zd]at h;unfold DT;rw[TT h.1 st st',Io st st' h.2]
theorem FE(st st':AF):∀ {l:List Sh} {ps:List PV},ps.all Pd=true->CT st l ps=CT st' l ps
 |[],[],_=>rfl
 |[],_::_,_=>rfl
 |[_],[],_=>rfl
 |_::_::_,[],_=>rfl
 |[a],[p],h=>by
  grind [HF,Io,CT,Pd]
 |[_],_::_::_,_=>rfl
 |a::b::l,p::ps,h=>by
  rw[yu,zd]at h;unfold CT HF;rw[Io st st' h.1,FE st st' h.2]
theorem rP{outs:List Sh}{v:PV}{ob:Ob}:NB outs v (uK v ob)=NB outs v ob:=by
 unfold uK;cases b:nI v with
 |false=>rfl
 |true=>
  unfold NB Iy;by_cases c:∃a,v=.tup a
  ·obtain⟨a,rfl⟩:=c;split
   ·rfl
   ·exact FE _ _ b
  ·have e:Pd v=true:=by
    cases v with
    |tup a=>grind
    |_=>exact b
   have d:[v].all Pd=true:=ah
   split
   ·exact FE _ _ d
   ·split
    ·grind
    grind [FE]
theorem XF(T:X.C.mg=false)(j:∀g sp,X.sp g=some sp->Ag X.C g sp)(Y:∀g w,X.ws g=some w->Ki X.C g w){f:FuncId}{sp:Aq}{d:Nat}(O:X.C.spec f=none)(c:X.C.prim f=none)(R:X.sp f=none)
  (S:∀i,sp.pre i=true->Ends X (tree X sp.nd d f<|Af sp.ins i) (Ac sp i)) (K:∃i,X.C.fn f=some i):Ag X.C f sp:=by
 refine .zW ⟨c,K,fun F h args i p z E m q=>?_⟩;obtain⟨n,he⟩:=S i q;have hr:Rel h.nx ⟨h,F,[],fun _=>False⟩ F (fun _=>none) (AI 0 [] [] 0) ⟨0,.leaf⟩ h:=by
  refine⟨⟨rfl,fun t=>?_⟩,⟨fun id o W=>(by cases W),(by simp),p,(by simp),fun _ _=>rfl,(by simp),z,zw _,ah,fun x G=>⟨z _ _<|E x G,fun e=>e,E x G⟩,(by simp)⟩⟩;show PR _ _ _ (((Ej []).get t).getD .any) _;grind [Ej,PM.CS,PR]
 obtain⟨_,l,M,hM,s,j⟩:=IJ (by grind [Gy]) (by grind [Gy]) T O c R he hr<|m _ _;refine⟨l,M,hM,s,fun x G=>?_⟩;obtain⟨n',hn,r,st',he',F',ρ',hp,hw,_⟩:=j x G;have hq:=he'.Wr;obtain⟨y,hy,rfl⟩:=hq;rw[rP]at hy;have v:∀b,b<h.nx->x.2.get b=h.get b:=fun b D=>hw.rel.sr.old b D<|fun e=>e
 refine⟨hw.nx,v,hw.rel.sr.lt,?_⟩;have J:∃vs,BB F' ρ' st'.nx (Iy sp.outs r) vs/\((∃a,sp.outs=[a])->vs=[x.1])/\((∀a,sp.outs≠[a])->(∃I,r=.tup I)->x.1=.tup vs):=by
  unfold Iy;split
  ·simp_all
  ·split
   ·grind [PR]
   ·exact⟨[x.1],by simp_all,fun _=>rfl,ah⟩
 obtain⟨vs,k,U,V⟩:=J;obtain⟨F1,g1,g2,g3⟩:=handed (st:=st') hw.rel.sr k;have L:∀id,DA (AF.obj ⟨0,.leaf,st'.ob,0⟩ id) (st'.obj id):=fun id=>DA.refl _
 have u:=g3 sp.outs _ (by rw[K8 L];exact hy);refine⟨F1,fun b cs D=>g2 b cs<|hw.le.fz b cs D,fun b cs D=>(g1.fo b cs D).imp_right<|fun h=>h.resolve_right<|fun e=>e,g1.frz,SI.2 ⟨vs,u,?_⟩⟩;have A:sp.outs.length=(Iy sp.outs r).length:=MN hy;have Z:=k.len;by_cases W:∃a,sp.outs=[a]
 ·grind
 ·have P:sp.outs.length≠1:=(by grind [List.length_eq_one_iff]);have ht:∃I,r=.tup I:=by
   cases r with
   |tup I=>simp
   |_=>
    exfalso;apply P;rw[A];unfold Iy;split<;>rfl
  grind
end
section
variable {X:A0}{Q Q':PV->Ob->Prop}
theorem Ends.leaf{v:PV}{ob:Ob}(h:Q v ob):Ends X (.leaf v ob) Q:=⟨0,.leaf h⟩
theorem Ends.ite{c:Bool}{a b:Tr}(e:c=true->Ends X a Q)(d:c=false->Ends X b Q):Ends X (.ite c a b) Q:=by
 cases c with
 |true=>obtain⟨n,h⟩:=e rfl;exact⟨n,.ite (fun _=>h)<|by simp⟩
 |false=>obtain⟨n,h⟩:=d rfl;exact⟨n,.ite (by simp)<|fun _=>h⟩
theorem Ends.tt{c:Bool}{a b:Tr}(d:c=true)(h:Ends X a Q):Ends X (.ite c a b) Q:=(by grind [Ends.ite])
theorem Ends.ff{c:Bool}{a b:Tr}(d:c=false)(h:Ends X b Q):Ends X (.ite c a b) Q:=(by grind [Ends.ite])
def stepT(X:A0):Tr->Tr
 | .loop nd ro d f base b st k=>body X nd ro d f base b st k
 | .cut nd ro d f base b st k=>AN X nd ro d f base b st k
 |t=>t
theorem Ends.step{t:Tr}(h:Ends X (stepT X t) Q):Ends X t Q:=by
 cases t with
 |loop=>obtain⟨n,h⟩:=h;exact⟨n+1,.loop h⟩
 |cut=>obtain⟨n,h⟩:=h;exact⟨n,.cut h⟩
 |_=>exact h
theorem Ends.eq{t a:Tr}(e:t=a)(h:Ends X a Q):Ends X t Q:=e▸h
theorem Ends.Av{t a:Tr}(e:stepT X t=a)(h:Ends X a Q):Ends X t Q:=Ends.step<|e▸h
def Tr.L:Tr->Tr
 | .ite _ a _=>a
 | .both a _=>a
 |t=>t
def Tr.R:Tr->Tr
 | .ite _ _ b=>b
 | .both _ b=>b
 |t=>t
def re:Tr->AF->Tr
 | .loop nd ro d f base b _ k,st=>.loop nd ro d f base b st k
 | .cut nd ro d f base b _ k,st=>.cut nd ro d f base b st k
 |t,_=>t
def Mf:List (FuncId×Aq)->FuncId->Option Aq
 |[],_=>none
 |(g,s)::l,f=>bif z8 g f then some s else Mf l f
def vD:List (FuncId×List Nat)->FuncId->Nat->Bool
 |[],_,_=>false
 |(g,t)::l,f,r=>bif z8 g f then t.any (z8 r)else vD l f r
def vM:List (FuncId×List (Nat×List (Nat×Sh)))->FuncId->Nat->List (Nat×Sh)
 |[],_,_=>[]
 |(g,t)::l,f,r=>bif z8 g f then fz1 t r else vM l f r
 where fz1:List (Nat×List (Nat×Sh))->Nat->List (Nat×Sh)
 |[],_=>[]
 |(i,s)::l,r=>bif z8 i r then s else fz1 l r
def rL:List (FuncId×List (Nat×List Nat))->FuncId->Nat->List Nat
 |[],_,_=>[]
 |(g,t)::l,f,r=>bif z8 g f then pl1 t r else rL l f r
 where pl1:List (Nat×List Nat)->Nat->List Nat
 |[],_=>[]
 |(i,s)::l,r=>bif z8 i r then s else pl1 l r
end
section
open Go.Proofs.Tryz (prog)
def Np(C:Ctx)(q:RH):Ctx:=⟨C.T,C.ng,C.fn,C.prim,q,false⟩
theorem Ti{C:Ctx}{P:Program}(a:C.Ok P){q:RH}(h:EO P q):(Np C q).Ok P where
 T:=a.T
 fn:=a.fn
 prim:=a.prim
 spec:=h
theorem Oi{C:Ctx}(a:Df C)(q:RH):Df (Np C q):=a
class Srt where
 q:Option (List V->H->Option (V×H))
def LG[Srt]:RH:=fun f=>bif z8 f 63 then Srt.q else none
def Bh[Srt]:Ctx:=Np C7<|dP LG<|dP fmtS<|dP aH<|dP (Hj MRp)<|Hj A7
theorem eL[Srt](a:EO prog LG):Bh.Ok prog:=Ti Ow<|G3 a<|G3 jX<|G3 fE<|G3 spR spA
theorem Pk[Srt]:Df Bh:=Oi E2 _
def yO:List (FuncId×List (Nat×List Nat)):=
 [(8,[(3,[0,3]),(4,[0,3]),(2,[0,3])]),
 (26,[(5,[0,1])]),
 (38,[(6,[5,6,7]),(3,[5,6,7]),(2,[5,6,7])]),
 (46,[(3,[2,3,4])]),
 (48,[(16,[]),(11,[3,4]),(9,[3,4]),(7,[3,4]),(4,[0,3])]),
 (51,[(5,[0,1])]),
 (52,[(13,[6]),(10,[0,1,6]),(5,[0,1]),(3,[0,1])]),
 (61,[(9,[5,6,7]),(6,[5,6,7,8])]),
 (69,[(7,[4,5,6]),(13,[4,5,6,7]),(11,[4,5,6,7]),(8,[4,5,6]),(6,[4,5,6]),(3,[0])]),
 (73,[(15,[8,9]),(13,[6,8,9]),(10,[5,6,7]),(7,[5,6]),(4,[5])]),
 (75,[(9,[8,10]),(3,[2,3])]),
 (94,[(11,[2,4]),(5,[0,2,3,4]),(4,[0,2,3,4])]),
 (95,[(5,[2,3,4]),(3,[2,3,4])]),
 (104,[(3,[0,3]),(4,[0,3]),(2,[0,3])]),
 (106,[(2,[0,1]),(1,[0,1])]),
 (108,[(10,[3]),(7,[1,3,4]),(5,[1,3,4]),(3,[1])]),
 (109,[(7,[0,2,3,4,5]),(4,[0,2,3,4]),(3,[0,2,3,4])]),
 (110,[(2,[0,1]),(1,[0,1])]),
 (111,[(3,[0,1,5]),(2,[0,1,5])]),
 (115,[(6,[5,6,7]),(3,[5,6,7]),(2,[5,6,7])]),
 (117,[(3,[2,3,4]),(2,[2,3,4])]),
 (124,[(6,[0,2,3,4]),(5,[0,2,3,4]),(4,[0,2,3])]),
 (125,[(5,[0,3,4]),(3,[0,3,4])]),
 (127,[(15,[8,9,10,11,12,13]),(39,[8,9,10,11,12,13,14]),(35,[8,9,10,11,12,13,14,19,20]),(33,[8,9,10,11,12,13,14,19,20]),(20,[8,9,10,11,12,13,14,15,16]),(27,[8,9,10,11,12,13,14,15,16,18]),(21,[8,9,10,11,12,13,14,15,16]),(19,[8,9,10,11,12,13,14,15,16]),(16,[8,9,10,11,12,13]),(14,[8,9,10,11,12,13]),(11,[0,8,9,10,11]),(10,[0,8,9,10,11]),(6,[0,1]),(3,[0,1])]),
 (129,[(6,[0,1,5,6,7]),(4,[0,1,5,6,7])]),
 (130,[(7,[0,1,5]),(10,[0,1,5]),(8,[0,1,5]),(6,[0,1,5]),(5,[0,1]),(4,[])]),
 (131,[(5,[0,1,5,6,7]),(11,[0,1,5,6,7,8]),(6,[0,1,5,6,7]),(4,[0,1,5,6,7])]),
 (132,[(9,[0,1,5,6,7,8]),(7,[0,1,5,6,7,8]),(5,[0,1,5,6]),(3,[0,1,5,6])]),
 (156,[(3,[1,2,4,5]),(6,[1,2,4,5]),(4,[1,2,4,5]),(2,[1,2,4,5])]),
 (159,[(3,[2,3,4])]),
 (164,[(8,[1,5,6,7,8,20,21,22,27,28,29]),(7,[1,5,6,7,8,20,21,22,27,28,29]),(4,[1,5,20,21,22]),(3,[1,5,20,21,22])]),
 (166,[(12,[0,1,5,6,21,22]),(11,[0,1,5,6,7,8,21,22]),(7,[0,1,5,6,21,22]),(6,[0,1,5,6,21,22]),(3,[0,1])]),
 (167,[(7,[0,1,5]),(11,[]),(8,[0,1,5]),(6,[0,1,5]),(5,[0,1]),(4,[])]),
 (168,[(10,[0,1,5,6,13,14]),(9,[0,1,5,6,7,8,13,14]),(5,[0,1,5,6,13,14]),(4,[0,1,5,6,13,14])]),
 (169,[(3,[0,3]),(4,[0,3]),(2,[0,3])]),
 (173,[(12,[4,5,14,15]),(6,[2,3,4,5]),(5,[4,5,6,7])]),
 (187,[(6,[0,1,6,7,8]),(4,[0,1,6,7,8])]),
 (188,[(2,[0]),(1,[0])]),
 (189,[(5,[0,1,2,7,9,10]),(4,[0,1,2,7,9,10])]),
 (192,[(26,[9,11,12,13,96,97]),(22,[9,11,12,13,96,97]),(21,[9,11,12,13,96,97]),(19,[9,10,11,12,13,14]),(17,[9,10,11,12,13,14]),(11,[0,1]),(9,[0,1,6,7,8]),(7,[0,1,6,7,8]),(3,[0,1])]),
 (226,[(20,[0]),(19,[6]),(16,[5,6,47,48,49]),(15,[5,6,8,47,48,49]),(11,[5,6,47,48,49]),(10,[5,6,47,48,49]),(8,[0,5])]),
 (229,[(3,[0,3]),(2,[0,3])]),
 (233,[(3,[0,2,4]),(7,[0,2,4,5]),(4,[0,2,4]),(2,[0,2,4])]),
 (234,[(3,[0,1]),(2,[0,1]),(1,[0,1])]),
 (235,[(3,[0,1]),(2,[0,1]),(1,[0,1])]),
 (244,[(25,[2,8,9,10,14,15,16,17,18]),(24,[2,8,9,10,14,15,16,17,18]),(18,[2,8,9,10,11,13,14,15,16]),(17,[2,8,9,10,11,13,14,15,16]),(7,[0,1,2]),(5,[0,1,2]),(3,[0,1,2])]),
 (246,[(8,[1,5,12,13,14]),(4,[1,5,12,13,14]),(3,[1,5,12,13,14])]),
 (247,[(29,[0,1,5,6,17,156,157]),(28,[0,1,5,6,17,156,157]),(26,[0,1,5,6]),(16,[0,1,5,6,11,12,104,105]),(15,[0,1,5,6,11,12,104,105]),(11,[0,1,5,6,7]),(9,[0,1,5,6,7]),(8,[0,1,5,6,7,8])])]
def pR:List FuncId:=[284]
theorem Wp[Srt]:∀g∈pR,Bh.prim g=some PK.noEsc.run:=fun g h=>by
 cases h with
 |head=>kernel_rfl
 |tail _ h=>cases h
def X7[Srt](l:List (FuncId×Aq)):A0:=⟨Bh,Mf l,rL yO,fun _ _=>false,fun _ _=>[],fun _=>none,pR,Wp⟩
def fZ[Srt](cs:List (FuncId×List Nat))(fz:List (FuncId×List (Nat×List (Nat×Sh))))(t:List (FuncId×List (Nat×List Nat)))(l:List (FuncId×Aq)):A0:=⟨Bh,Mf l,rL<|t++yO,vD cs,vM fz,fun _=>none,pR,Wp⟩
end
end Go.Pe
namespace Go.Sp
def first:List Int->Int
 |[]=>0
 |x::l=>if x≠0 then x else first l
def IA(c:Bool)(e:Int):Int:=bif c then e else 0
end Go.Sp
namespace Go.Pe
open Go.Det
abbrev i64:Sh:=.int .i64
abbrev AaD:Sh:=.list<|.int .i64
def HM:Aq:=⟨[AaD],fun l=>decide (l.length<=1000000),[i64],fun l=>Sp.first l,false⟩
def LW:Aq:=⟨[.bool,i64],fun _=>true,[i64],fun i=>Sp.IA i.1 i.2,false⟩
end Go.Pe
namespace Go.Sp
abbrev Hz:=Rd
end Go.Sp
namespace Go.Pe
open Go.Det
section
variable {X:A0}{Q:PV->Ob->Prop}
@[simp] theorem tY:Ends X .fail Q↔False:=⟨fun⟨_,h⟩=>z6 h,fun h=>h.elim⟩
@[simp] theorem X1{v:PV}{ob:Ob}:Ends X (.leaf v ob) Q↔Q v ob:=⟨fun⟨_,h⟩=>h.Wr,fun h=>.leaf h⟩
@[simp] theorem JV{c:Bool}{a b:Tr}:Ends X (.ite c a b) Q↔if c=true then Ends X a Q else Ends X b Q:=by
 constructor
 ·rintro⟨n,h⟩;rcases h.Ee with⟨d,h⟩|⟨d,h⟩
  ·rw[wd d];exact⟨n,h⟩
  ·rw[wc<|by simp[d]];exact⟨n,h⟩
 ·intro h;refine .ite (fun d=>?_)<|fun d=>?_
  ·rwa [wd d]at h
  ·rwa [wc<|by simp[d]]at h
theorem Ac.of{sp:Aq}{i:(Bv sp.ins).T}{v:PV}{ob:Ob}{c:Bool}{y:(Bv sp.outs).T}(h:NB sp.outs v ob=some (c,y))(a:c=true)(b:y=sp.f i):Ac sp i v ob:=⟨y,by rw[h,a],b⟩
@[simp] theorem rA(s:Sh)(x:List s.T):Ky (Sh.leaves<|.list s) [.dat (.list s) x]=(true,[.dat (.list s) x]):=rfl
theorem wr(x:Int)(b: -9223372036854775808<=x)(a:x<=9223372036854775807):zc .i64 x=x:=IntWalk.i64_in x ⟨b,a⟩
theorem drop_cons{α:Type}{l r:List α}{x d:α}{i:Nat}(h:l.drop i=x::r):i<l.length/\l.getD i d=x/\l.drop (i+1)=r:=by
 have a:i<l.length:=by
  rcases yw i l.length with h1|h1
  ·exact h1
  ·rw[yr h1]at h;cases h
 have b:=zt a;rw[h]at b;simp only[yi]at b;exact⟨a,by simp[a,b.1],b.2.symm⟩
end
abbrev DU[Srt](X:A0):Prop:=∀g sp,X.sp g=some sp->Ag Bh g sp
theorem MO[Srt]{X:A0}(n:X.C=Bh)(b:∀g sp,X.sp g=some sp->Ag Bh g sp){f:FuncId}{sp:Aq}{d:Nat}(m:Bh.spec f=none)(a:Bh.prim f=none)(c:X.sp f=none)
  (k:∀i,sp.pre i=true->Ends X (tree X sp.nd d f<|Af sp.ins i) (Ac sp i)) (e:∃i,Bh.fn f=some i) (l:∀g w,X.ws g=some w->Ki Bh g w:=by intro _ _ h;cases h):Ag Bh f sp:=by
 have j:X.C.mg=false:=by rw[n];rfl
 rw[<-n]at*;exact XF j b l m a c k e
theorem BR{α:Type}{o:Option α}(h:o.isSome=true):∃i,o=some i:=Option.isSome_iff_exists.1 h
theorem BX[Srt]{X:A0}(b:DU X){f:FuncId}{sp:Aq}(e:∀i,sp.pre i=true->Ends X (tree X sp.nd 9 f<|Af sp.ins i) (Ac sp i))(l:X.C=Bh:=by rfl)(k:Bh.spec f=none:=by kernel_rfl)(a:Bh.prim f=none:=by kernel_rfl)(c:X.sp f=none:=by kernel_rfl)(d:(Bh.fn f).isSome=true:=by kernel_rfl)(j:∀g w,X.ws g=some w->Ki Bh g w:=by intro _ _ h;cases h):Ag Bh f sp:=MO l b k a c e (BR d) j
theorem drop_nil{α:Type}{l:List α}{i:Nat}(h:l.drop i=[])(a:i<=l.length):i=l.length:=by
 have:=wi List.length h;simp at this;omega
theorem eE{α:Type}{l r:List α}{x:α}{i:Nat}(h:l.drop i=x::r):x∈l:=by
 have:x∈l.drop i:=by rw[h];simp
 exact List.mem_of_mem_drop this
theorem Yl{α:Type}{l r:List α}{x:α}{i:Nat}(h:l.drop i=x::r):l.take (i+1)=l.take i++[x]:=by
 have b:=(drop_cons (d:=x) h).1;have a:=(drop_cons (d:=x) h).2.1;rw[List.take_add_one];congr 1;have:l[i]?=some x:=by
  have e:=zm b;rw[e];simp only[List.getD,e,Option.getD_some]at a;rw[a]
 rw[this];rfl
theorem AT{C:Ctx}:∀g sp,Mf [] g=some sp->Ag C g sp:=fun g sp h=>by cases h
theorem Aa{C:Ctx}{a:FuncId}{c:Aq}{l:List (FuncId×Aq)}(h0:Ag C a c)(d:∀g sp,Mf l g=some sp->Ag C g sp):∀g sp,Mf ((a,c)::l) g=some sp->Ag C g sp:=by
 intro g sp h;unfold Mf at h;cases b:z8 a g with
 |true=>rw[b]at h;cases h;have:=z7 b;subst this;exact h0
 |false=>rw[b]at h;exact d g sp h
theorem Gs[Srt]{f:FuncId}{s t:List Sh}{g:(Bv s).T->(Bv t).T}{nd:Bool}(a:Bh.prim f=none)(b:∃i,Bh.fn f=some i):Ag Bh f ⟨s,fun _=>false,t,g,nd⟩:=
 .zW ⟨a,b,fun F h args i _ _ _ _ c=>by cases c⟩
theorem Et{α:Type}(A B:List α)(x d:α){n:Nat}(h:A.length=n):(A++x::B).getD n d=x:=by
 subst h;simp[List.getD]
theorem CZ{α:Type}(A B:List α)(x y:α){n:Nat}(h:A.length=n):(A++x::B).set n y=A++y::B:=by
 subst h;simp
end Go.Pe
namespace Go.Sp
open Go.Pe (CH imax)
theorem eZ(a b:Int):CH a b=min a b:=by unfold CH;split<;>omega
abbrev Am:Nat:=18446744073709551616
abbrev AE:=Int×List Int
def CB(l:List Int):Bool:=decide (l.length<=20000)&&l.all fun d=>decide (0<=d)&&decide (d<18446744073709551616)
def hW(l:List Int):Bool:=CB l&&decide (l.length<=9000)
def rJ(l:List Int):Bool:=decide (l.getLast?≠some 0)
def B0(l:List Int):Bool:=CB l&&rJ l
def Ao(l:List Int):Int:=val Am l
def BO(n:Int):List Int:=dg Am n
def u64(n:Int):Bool:=decide (0<=n)&&decide (n<18446744073709551616)
def B5(n:Int):Bool:=decide (-9223372036854775808<=n)&&decide (n<9223372036854775808)
def Ae(n:Int):Int:=if n<0 then -n else n
theorem Ah(n:Int):Ae n=(n.natAbs:Int):=by unfold Ae;split<;>omega
def vI(a:AE):Int:=if a.2=[]then a.1 else if a.1<0 then -Ao a.2 else Ao a.2
def Dd(a:AE):Bool:=B5 a.1&&(decide (a.2=[])||(B0 a.2&&(decide (a.1=1)||decide (a.1= -1))&&decide (9223372036854775808<=Ao a.2)))
def CC(n:Int):AE:=if -9223372036854775808<n/\n<9223372036854775808 then(n,[])else(if n<0 then -1 else 1,BO<|Ae n)
def Cy(n:Int):Int:=(CC n).1
def Cv(n:Int):List Int:=(CC n).2
def sg(neg:Bool)(v:Int):Int:=if neg=true then -v else v
def Hs(x y c:Int):Int:=(x+y+c) % 18446744073709551616
def NY(x y c:Int):Int:=(x+y+c)/18446744073709551616
def RG(x y c:Int):Int:=(x-y-c) % 18446744073709551616
def OU(x y c:Int):Int:=if x<y+c then 1 else 0
def Hx(x y:Int):Int:=(x*y) % 18446744073709551616
def Pr(x y:Int):Int:=(x*y)/18446744073709551616
def B3(a b:Int):Int:=if a<b then -1 else if a>b then 1 else 0
def SP(n:Int):Int:=if n<0 then -1 else if n>0 then 1 else 0
def D1(a b:AE):AE:=if a.2=[]/\b.2=[]/\B5 (a.1+b.1)=true then(a.1+b.1,[])else CC<|vI a+vI b
def CN(a:AE):AE:=if a.2=[]/\a.1≠ -9223372036854775808 then(-a.1,[])else CC<| -vI a
def Tq(a:AE):AE:=if a.1<0 then CN a else a
def Mg(a b:AE):AE:=D1 a<|CN b
def EJ(a b:AE):AE:=CC<|vI a*vI b
def D3(a:AE):Int:=(CN a).1
def D4(a:AE):List Int:=(CN a).2
def ML(a:AE):Int:=(Tq a).1
def OO(a:AE):List Int:=(Tq a).2
def Jl(a b:AE):Int:=(D1 a b).1
def Jk(a b:AE):List Int:=(D1 a b).2
def Wl(a b:AE):Int:=(Mg a b).1
def VH(a b:AE):List Int:=(Mg a b).2
def Es(a b:AE):Int:=(EJ a b).1
def El(a b:AE):List Int:=(EJ a b).2
end Go.Sp
namespace Go.Pe
open Sp
open Go.Det
abbrev AV:Sh:=.pair (.int .i64)<|.nlist<|.int .u64
abbrev u64:Sh:=.int .u64
abbrev CU:Sh:=.list<|.int .u64
abbrev wU:Sh:=.nlist<|.int .u64
def Uh:Aq:=⟨[u64,u64,u64],fun i=>Sp.u64 i.1&&Sp.u64 i.2.1&&decide (0<=(i.2.2:Int))&&decide ((i.2.2:Int)<=1),[u64,u64],fun i=>(Hs i.1 i.2.1 i.2.2,NY i.1 i.2.1 i.2.2),false⟩
def T0:Aq:=⟨[u64,u64,u64],fun i=>Sp.u64 i.1&&Sp.u64 i.2.1&&decide (0<=(i.2.2:Int))&&decide ((i.2.2:Int)<=1),[u64,u64],fun i=>(RG i.1 i.2.1 i.2.2,OU i.1 i.2.1 i.2.2),false⟩
def P8:Aq:=⟨[u64,u64],fun i=>Sp.u64 i.1&&Sp.u64 i.2,[u64,u64],fun i=>(Pr i.1 i.2,Hx i.1 i.2),false⟩
def Uz:Aq:=⟨[i64],fun n=>B5 n,[u64],fun n=>Ae n,false⟩
def Uk:Aq:=⟨[AV],fun a=>Dd a,[.bool,CU],fun a=>(decide (Sp.vI a<0),BO<|Ae<|Sp.vI a),false⟩
def cA:Aq:=⟨[.bool,CU],fun i=>B0 i.2,[AV],fun i=>(Cy<|Sp.sg i.1<|Ao i.2,Cv<|Sp.sg i.1<|Ao i.2),false⟩
def TP:Aq:=⟨[CU],fun l=>CB l,[CU],fun l=>Aw l,false⟩
def V7:Aq:=⟨[CU,CU],fun i=>B0 i.1&&B0 i.2,[i64],fun i=>B3 (Ao i.1)<|Ao i.2,false⟩
def Z7:Aq:=⟨[CU,CU],fun i=>Sp.hW i.1&&Sp.hW i.2,[CU],fun i=>BO<|Ao i.1+Ao i.2,false⟩
def bN:Aq:=⟨[CU,CU],fun i=>CB i.1&&CB i.2&&decide (Ao i.2<=Ao i.1),[CU],fun i=>BO<|Ao i.1-Ao i.2,false⟩
def fO:Aq:=⟨[CU,CU],fun i=>Sp.hW i.1&&Sp.hW i.2,[CU],fun i=>BO<|Ao i.1*Ao i.2,false⟩
def fD[Srt]:A0:=X7 []
def Kp[Srt]:A0:=X7 [(161,Uz),(228,Uh),(230,T0),(229,TP),(160,P8)]
def zB[Srt]:A0:=X7 [(162,Uk),(163,cA),(166,Z7),(168,bN),(167,V7),(164,fO),(160,P8),(161,Uz)]
theorem Pw{F:Fz}{x y c:Int}{args:List V}(h:JF F (Af [Pe.u64,Pe.u64,Pe.u64] (x,y,c)) args):args=[.int .u64 x,.int .u64 y,.int .u64 c]:=by
 have:=h (fun _=>none) 0;simp only[Af,BN,BB]at this;obtain⟨a,j,rfl,f,b,i,rfl,e,d,k,rfl,g,rfl⟩:=this;simp only[PR,DC,yi,ve]at f e g;rw[f,e,g]
theorem AZ{n:Int}(h:Sp.u64 n=true):0<=n/\n<18446744073709551616:=by
 unfold Sp.u64 at h;rw[zd,w5,w5]at h;exact h
namespace T228
theorem ok[Srt]:Ag Bh 228 Uh:=by
 refine .inr ⟨PK.add64.run,by kernel_rfl,fun F h args i l e=>?_⟩;obtain⟨x,y,c⟩:=i;have e:(Sp.u64 x&&Sp.u64 y&&decide (0<=c)&&decide (c<=1))=true:=e;rw[zd,zd,zd,w5,w5]at e;obtain⟨⟨⟨f,g⟩,c0⟩,j⟩:=e;have f:=AZ f;have g:=AZ g;have:=Pw l;subst this;obtain⟨a,rfl⟩:=zj f.1;obtain⟨b,rfl⟩:=zj g.1;obtain⟨d,rfl⟩:=zj c0;have j:(d:Int)<=1:=j;have k:Nat.ble d 1=true:=Nat.ble_eq_true_of_le ae;refine⟨.tup [.int .u64<|.ofNat<|(a+b+d) % fI,.int .u64<|.ofNat<|(a+b+d)/fI],?_,fun ρ N=>?_⟩
 ·show(bif Nat.ble d 1 then _ else _)=_;rw[k];rfl
 ·show PR F ρ N (.tup [.dat Pe.u64<|Hs a b d,.dat Pe.u64<|NY a b d]) _;simp only[PR,BB];refine⟨_,rfl,_,_,rfl,?_,_,_,rfl,?_,rfl⟩<;>simp[DC,fI,Hs,NY]
end T228
namespace T230
theorem ok[Srt]:Ag Bh 230 T0:=by
 refine .inr ⟨PK.sub64.run,by kernel_rfl,fun F h args i m g=>?_⟩;obtain⟨x,y,c⟩:=i;have g:(Sp.u64 x&&Sp.u64 y&&decide (0<=c)&&decide (c<=1))=true:=g;rw[zd,zd,zd,w5,w5]at g;obtain⟨⟨⟨j,k⟩,c0⟩,l⟩:=g;have j:=AZ j;have k:=AZ k;have:=Pw m;subst this;obtain⟨a,rfl⟩:=zj j.1;obtain⟨b,rfl⟩:=zj k.1;obtain⟨d,rfl⟩:=zj c0;have l:(d:Int)<=1:=l;have n:Nat.ble d 1=true:=Nat.ble_eq_true_of_le ae;refine⟨.tup [.int .u64<|.ofNat<|(a+fI-b-d) % fI,.int .u64<|.ofNat<|bif Nat.blt a (b+d)then 1 else 0],?_,fun ρ N=>?_⟩
 ·show(bif Nat.ble d 1 then _ else _)=_;rw[n];rfl
 ·show PR F ρ N (.tup [.dat Pe.u64<|RG a b d,.dat Pe.u64<|OU a b d]) _;simp only[PR,BB];refine⟨_,rfl,_,_,rfl,?_,_,_,rfl,?_,rfl⟩
  ·simp only[DC,fI,RG,yi,V.int.injEq,ve,true_and];have e:(((a+18446744073709551616-b-d) % 18446744073709551616:Nat):Int)=((a:Int)-b-d) % 18446744073709551616:=ae
   exact e
  ·simp only[DC,OU,yi,V.int.injEq,ve,true_and];rw[FL];by_cases f:a<b+d
   ·rw[wd ae];simp[f]
   ·rw[wc ae];simp[f]
end T230
end Go.Pe
namespace Go.Sp
theorem AB(b:Int):∀(l:List Int) (i:Nat),val b (l.take<|i+1)=val b (l.take i)+b^i*l.getD i 0
 |[],i=>by simp[val]
 |x::l,0=>by
  show x+b*val b (l.take 0)=0+b^0*x;simp[val]
 |x::l,i+1=>by
  have:=AB b l i;show x+b*val b (l.take<|i+1)=x+b*val b (l.take i)+b^(i+1)*l.getD i 0;rw[this,zx,yx,Int.mul_comm (b^i) b,yp,yv]
theorem HZ{l:List Int}(h:CB l=true):l.length<=20000/\Au Am l:=by
 unfold CB at h;rw[zd,w5,List.all_eq_true]at h;exact⟨h.1,fun d a=>by
  have:=h.2 d a;rw[zd,w5,w5]at this;exact this⟩
theorem DW{l:List Int}(c:l.length<=20000)(b:Au Am l):CB l=true:=by
 unfold CB;rw[zd,w5,List.all_eq_true];exact⟨c,fun d a=>by
  have:=b d a;rw[zd,w5,w5];exact this⟩
theorem VB{l:List Int}(h:hW l=true):l.length<=9000/\Au Am l:=by
 unfold hW at h;rw[zd,w5]at h;exact⟨h.2,(HZ h.1).2⟩
theorem AQ{l:List Int}(h:Au Am l)(i:Nat):u64 (l.getD i 0)=true:=by
 unfold u64;rw[zd,w5,w5];rcases yw i l.length with a|a
 ·have:l.getD i 0∈l:=by rw[zg,zm a];exact List.getElem_mem a
  exact h _ this
 ·rw[zg,yg a];exact⟨by decide,by decide⟩
theorem AZ{n:Int}(h:u64 n=true):0<=n/\n<18446744073709551616:=by
 unfold u64 at h;rw[zd,w5,w5]at h;exact h
theorem Ct{n:Int}(b:0<=n)(a:n<18446744073709551616):u64 n=true:=by
 unfold u64;rw[zd,w5,w5];exact⟨b,a⟩
theorem DG{l:List Int}{x:Int}(h:Au Am l)(b:u64 x=true):Au Am (l++[x]):=by
 intro d a;rw[List.mem_append,zn]at a;rcases a with a|rfl
 ·exact h d a
 ·exact AZ b
theorem Ko{x y c:Int}(a:u64 x=true)(b:u64 y=true)(d:0<=c/\c<=1):u64 (Hs x y c)=true/\(0<=NY x y c/\NY x y c<=1)/\Hs x y c+18446744073709551616*NY x y c=x+y+c:=by
 have:=AZ a;have:=AZ b;unfold Hs NY;exact⟨Ct ae ae,⟨by omega,by omega⟩,by omega⟩
theorem Gr{x y c:Int}(a:u64 x=true)(b:u64 y=true)(d:0<=c/\c<=1):u64 (RG x y c)=true/\(0<=OU x y c/\OU x y c<=1)/\RG x y c-18446744073709551616*OU x y c=x-y-c:=by
 have:=AZ a;have:=AZ b;unfold RG OU;refine⟨Ct ae ae,?_,?_⟩<;>split<;>omega
theorem Em(l:List Int)(x:Int):val Am (l++[x])=val Am l+(Am:Int)^l.length*x:=by
 rw[CD];simp[val]
theorem Kh(i:Nat)(c:Int):(Am:Int)^(i+1)*c=(Am:Int)^i*(18446744073709551616*c):=by
 rw[yx,yp];rfl
theorem I0(p:List Int)(n i:Nat)(x:Int)(h:p.length=i)(a:i<n):(p++zf (n-i) (0:Int)).set i x=(p++[x])++zf (n-(i+1)) 0:=by
 have:n-i=(n-(i+1))+1:=ae
 rw[this,List.replicate_succ,Pe.CZ p _ 0 x h,yo];rfl
theorem Kt{l:List Int}(h:Au Am l):Aw l=BO (Ao l):=VE af h
end Go.Sp
namespace Go.Pe
open Sp
open Go.Det
section
open List Int Prod
namespace T161
def T[Srt](n:Int):Tr:=tree fD false 9 161<|Af ([zi yb]) n
theorem Al[Srt](n:Int):T n=.di (n<0) (.leaf (.dat (zi ze)<|zc .u64<|zc .i64<|0-n) []) (.leaf (.dat (zi ze)<|zc .u64 n) []):=by kernel_rfl
end T161
namespace T162
def T[Srt](a:AE):Tr:=tree Kp false 9 162<|Af ([AV]) a
theorem Al[Srt](a:AE):T a=.di (0<length (snd a)) (.leaf (.tup [.dat Sh.bool<|decide (fst a<0),.dat wU<|snd a]) []) (.ite (fst a==0) (.leaf (.tup [.bl false,.nil]) [])<|.ck (B5<|fst a)<|.leaf (.tup [.dat Sh.bool<|decide (fst a<0),.sl (yy 0 1) 1 0 1 none])<|[(yy 0 1,.arr false 200 (zi ze) [Ae<|fst a]),(0,.box [.dat i64<|fst a,.dat wU<|snd a])]):=by kernel_rfl
end T162
namespace T163
def T[Srt](neg:Bool)(w:List Int):Tr:=tree Kp false 9 163<|Af ([Sh.bool,zl<|zi ze]) (neg,w)
theorem Al[Srt](neg:Bool)(w:List Int):T neg w=let e:=decide (getD w 0 0<=9223372036854775807);let b:=(length w:Int);let d:=zl<|zi ze;let b':Tr:=.ite neg (.leaf (yd [.dat i64 (-1:Int),.dat d w]) [])<|.leaf (yd [.dat i64 (1:Int),.dat d w]) [];let a:=decide (0<b);let c:Tr:=.ite (b==1) (.ck a<|.ite e (.ck a<|.leaf (yd [.dat i64<|zc .i64<|getD w 0 0,.nil]) []) b') b';.ite (b==0) (.leaf (yd [.dat i64 (0:Int),.nil]) []) (.ite (b==1) (.ck a<|.ite e (.ite neg (.ck a<|.leaf (yd [.dat i64<|zc .i64<|0-zc .i64 (getD w 0 0),.nil]) []) c) c) c):=by kernel_rfl
end T163
namespace T229
def T[Srt](w:List Int):Tr:=tree fD false 9 229<|Af ([zl<|zi ze]) w
def L1[Srt](v0:List Int)(v3:Int):Tr:=re ((T []))<|AI 21 [(0,.dat (zl<|zi ze) v0),(3,.dat i64 v3)] [] 0
theorem Al[Srt](w:List Int):T w=L1 w ((length w:Int)):=by kernel_rfl
theorem As[Srt](v0:List Int)(v3:Int):stepT fD (L1 v0 v3)=let a:Tr:=.ck (decide (0<=v3)&&decide (0<=toNat v3)&&decide (toNat v3<=length v0))<|.leaf (.dat (zl<|zi ze)<|take (toNat v3) v0) [];let b':=zc .i64<|v3-1;.di (v3>0) (.ck (decide (0<=zc .i64 (v3-1))&&decide (zc .i64 (v3-1)<(length v0:Int)))<|.ite (getD v0 (toNat b') 0==0) (L1 v0 b') a) a:=by kernel_rfl
end T229
namespace T167
def T[Srt](a b:List Int):Tr:=tree fD false 9 167<|Af ([zl<|zi ze,zl<|zi ze]) (a,b)
def L1[Srt](v0 v1:List Int)(v5:Int):Tr:=re ((T [] []).R)<|AI 41 [(0,.dat (zl<|zi ze) v0),(1,.dat (zl<|zi ze) v1),(5,.dat i64 v5)] [] 0
theorem Al[Srt](a b:List Int):T a b=let c:=(length a:Int);.ite (c !=(length b:Int)) (.di (c<(length b:Int)) (.leaf (.dat i64 (-1:Int)) [])<|.leaf (.dat i64 (1:Int)) []) (L1 a b<|zc .i64<|c-1):=by kernel_rfl
theorem As[Srt](v0 v1:List Int)(v5:Int):stepT fD (L1 v0 v1 v5)=let a:=decide (0<=v5)&&decide (v5<(length v0:Int));let b':=decide (0<=v5)&&decide (v5<(length v1:Int));.di (v5>=0) (.ck a<|.ck b'<|.ite (getD v0 (toNat v5) 0 !=getD v1 (toNat v5) 0) (.ck a<|.ck b'<|.di (getD v0 (toNat v5) 0<getD v1 (toNat v5) 0) (.leaf (.dat i64 (-1:Int)) [])<|.leaf (.dat i64 (1:Int)) [])<|L1 v0 v1<|zc .i64<|v5-1) (.leaf (.dat i64 (0:Int)) []):=by kernel_rfl
end T167
namespace T166
def T[Srt](x y:List Int):Tr:=tree Kp false 9 166<|Af ([zl<|zi ze,zl<|zi ze]) (x,y)
def L1[Srt](v0 v1:List Int)(a:Nat)(d c b:Int)(e:List Int):Tr:=re ((T [] []).L.L)<|AI 54 [(0,.dat (zl<|zi ze) v0),(1,.dat (zl<|zi ze) v1),(5,.sl 0 1 0 a none),(6,.dat (zi ze) d),(21,.dat i64 c),(22,.dat i64 b)] [(0,.arr false 200 (zi ze) e)] 1
theorem Al[Srt](x y:List Int):T x y=let a:=(length x:Int);let b':=(length y:Int);let c:=zc .i64<|b'+1;let b:=zc .i64<|a+1;.di (a<b') (.ck (decide (0<=zc .i64 (b'+1))&&decide (zc .i64 (b'+1)=zc .i64 (b'+1))&&decide (8*toNat c<=281474976710656)&&decide (zc .i64 (b'+1)<9223372036854775808))<|L1 y x (toNat c) 0 b' 0<|replicate (toNat c) 0) (.ck (decide (0<=zc .i64 (a+1))&&decide (zc .i64 (a+1)=zc .i64 (a+1))&&decide (8*toNat b<=281474976710656)&&decide (zc .i64 (a+1)<9223372036854775808))<|L1 x y (toNat b) 0 a 0<|replicate (toNat b) 0):=by kernel_rfl
theorem As[Srt](v0 v1:List Int)(b:Nat)(d c a:Int)(f:List Int):stepT Kp (L1 v0 v1 b d c a f)=let e:=getD v0 (toNat a) 0;let b':=(length v0:Int);let i:=getD v1 (toNat a) 0;let n:=decide (0<=a)&&decide (a<(↑b:Int));let l:=decide ((0:Sh.T (Bv [u64]))<=d);let k:=decide (d<=(1:Sh.T (Bv [u64])));let m:=decide (toNat a<length f);let o:=decide (a<(length v1:Int));let j:=zc .i64<|a+1;let g:=set f (toNat b') d;let h':=decide (0<=a)&&decide (a<b');.di (a<c) (.ite o (.ck (decide (0<=a)&&o)<|.ck h'<|.ck (Sp.u64 e&&Sp.u64 i&&l&&k)<|.ck n<|.ck m<|L1 v0 v1 b (NY e i d) c j<|set f (toNat a)<|Hs e i d)<|.ck h'<|.ck (Sp.u64 e&&Sp.u64 0&&l&&k)<|.ck n<|.ck m<|L1 v0 v1 b (NY e 0 d) c j<|set f (toNat a)<|Hs e 0 d) (.ck (decide (0<=b')&&decide (b'<(↑b:Int)))<|.cd (toNat b'<length f)<|.ck (decide (0+b<=length g)&&true&&CB (take b g))<|.leaf (.dat (zl<|zi ze)<|Aw<|take b g) []):=by kernel_rfl
end T166
namespace T168
def T[Srt](x y:List Int):Tr:=tree Kp false 9 168<|Af ([zl<|zi ze,zl<|zi ze]) (x,y)
def L1[Srt](v0 v1:List Int)(b:Nat)(d a c:Int)(e:List Int):Tr:=re ((T [] []).L)<|AI 41 [(0,.dat (zl<|zi ze) v0),(1,.dat (zl<|zi ze) v1),(5,.sl 0 1 0 b none),(6,.dat (zi ze) d),(13,.dat i64 a),(14,.dat i64 c)] [(0,.arr false 200 (zi ze) e)] 1
theorem Al[Srt](x y:List Int):T x y=let a:=(length x:Int);.ck (decide (0<=a)&&decide (a=a)&&decide (8*toNat a<=281474976710656)&&decide (a<9223372036854775808)) (L1 x y (toNat a) 0 a 0<|replicate (toNat a) 0):=by kernel_rfl
theorem As[Srt](v0 v1:List Int)(b:Nat)(d c a:Int)(e:List Int):stepT Kp (L1 v0 v1 b d c a e)=let f:=getD v0 (toNat a) 0;let b':=decide (0<=a)&&decide (a<(length v0:Int));let g:=getD v1 (toNat a) 0;let k:=decide (0<=a)&&decide (a<(↑b:Int));let l:=decide ((0:Sh.T (Bv [u64]))<=d);let i:=decide (d<=(1:Sh.T (Bv [u64])));let m:=decide (toNat a<length e);let h':=decide (a<(length v1:Int));let j:=zc .i64<|a+1;.di (a<c) (.ite h' (.ck (decide (0<=a)&&h')<|.ck b'<|.ck (Sp.u64 f&&Sp.u64 g&&l&&i)<|.ck k<|.ck m<|L1 v0 v1 b (OU f g d) c j<|set e (toNat a)<|RG f g d)<|.ck b'<|.ck (Sp.u64 f&&Sp.u64 0&&l&&i)<|.ck k<|.ck m<|L1 v0 v1 b (OU f 0 d) c j<|set e (toNat a)<|RG f 0 d) (.ck (decide (0+b<=length e)&&true&&CB (take b e))<|.leaf (.dat (zl<|zi ze)<|Aw<|take b e) []):=by kernel_rfl
end T168
namespace T160
def T[Srt](x y:Int):Tr:=tree fD false 9 160<|Af ([zi ze,zi ze]) (x,y)
theorem Al[Srt](x y:Int):T x y=let a:=zc .u64<|zc .u64 (zq x (2^32)*Hb ze y 4294967295)+zq (zc .u64<|Hb ze x 4294967295*Hb ze y 4294967295) (2^32);.ck true (.ck true<|.ck true<|.ck true<|.ck true<|.leaf (.tup [.dat (zi ze)<|zc .u64<|zc .u64 (zc .u64 (zq x (2^32)*zq y (2^32))+zq a (2^32))+zq (zc .u64<|Hb ze a 4294967295+zc .u64 (Hb ze x 4294967295*zq y (2^32))) (2^32),.dat (zi ze)<|zc .u64<|x*y]) []):=by kernel_rfl
end T160
namespace T164
def T[Srt](x y:List Int):Tr:=tree Kp false 9 164<|Af ([zl<|zi ze,zl<|zi ze]) (x,y)
def L1[Srt](v1:List Int)(b:Nat)(v20:List Int)(a c:Int)(d:List Int):Tr:=re ((T [] []).L)<|AI 80 [(1,.dat (zl<|zi ze) v1),(5,.sl 0 1 0 b none),(20,.dat (zl<|zi ze) v20),(21,.dat i64 a),(22,.dat i64 c)] [(0,.arr false 200 (zi ze) d)] 1
theorem Al[Srt](x y:List Int):T x y=let a:=(length x:Int)+(length y:Int);let b':=zc .i64 a;.ck (decide (0<=zc .i64 a)&&decide (zc .i64 a=zc .i64 a)&&decide (8*toNat b'<=281474976710656)&&decide (zc .i64 a<9223372036854775808)) (L1 y (toNat b') x ((length x:Int)) 0<|replicate (toNat b') 0):=by kernel_rfl
def L2[Srt](v1:List Int)(a:Nat)(j i g:Int)(v20:List Int)(d b:Int)(f:List Int)(c e:Int)(k:List Int):Tr:=re ((stepT Kp<|L1 [] 0 [] 0 0 []).L.L)<|AI 80 [(1,.dat (zl<|zi ze) v1),(5,.sl 0 1 0 a none),(6,.dat i64 j),(7,.dat (zi ze) i),(8,.dat (zi ze) g),(20,.dat (zl<|zi ze) v20),(21,.dat i64 d),(22,.dat i64 b),(27,.dat (zl<|zi ze) f),(28,.dat i64 c),(29,.dat i64 e)] [(0,.arr false 200 (zi ze) k)] 1
theorem As[Srt](v1:List Int)(b:Nat)(v20:List Int)(c a:Int)(d:List Int):stepT Kp (L1 v1 b v20 c a d)=.di (a<c) (.ck (decide (0<=a)&&decide (a<(length v20:Int)))<|L2 v1 b a (getD v20 (toNat a) 0) 0 v20 c a v1 ((length v1:Int)) 0 d) (.ck (decide (0+b<=length d)&&true&&CB (take b d))<|.leaf (.dat (zl<|zi ze)<|Aw<|take b d) []):=by kernel_rfl
theorem A5[Srt](v1:List Int)(b:Nat)(g k j:Int)(v20:List Int)(d e:Int)(c:List Int)(f a:Int)(i:List Int):stepT Kp (L2 v1 b g k j v20 d e c f a i)=let b':=zc .i64<|g+a;let o:=getD c (toNat a) 0;let q:=decide (0<=zc .i64 (g+a))&&decide (zc .i64 (g+a)<(↑b:Int));let l:=g+(length v1:Int);let r:=decide ((0:Sh.T (Bv [u64]))<=0);let h':=decide (0<=(1:Sh.T (Bv [u64])));let n:=getD i (toNat b') 0;let s:=decide (toNat b'<length i);let p:=Hx k o;let m:=Hs p n 0;.di (a<f) (.ck (decide (0<=a)&&decide (a<(length c:Int)))<|.ck (Sp.u64 k&&Sp.u64 o)<|.ck q<|.ck s<|.ck (Sp.u64 p&&Sp.u64 n&&r&&h')<|.ck (Sp.u64 m&&Sp.u64 j&&r&&h')<|.ck q<|.ck s<|L2 v1 b g k (zc .u64<|zc .u64 (Pr k o+NY p n 0)+NY m j 0) v20 d e c f (zc .i64<|a+1)<|set i (toNat b')<|Hs m j 0) (.ck (decide (0<=zc .i64 l)&&decide (zc .i64 l<(↑b:Int)))<|.cd (toNat (zc .i64 l)<length i)<|L1 v1 b v20 d (zc .i64<|e+1)<|set i (toNat<|zc .i64 l) j):=by kernel_rfl
end T164
end
theorem It[Srt]:DU fD:=fun g sp h=>by cases h
theorem wu(x:Int)(b:0<=x)(a:x<=18446744073709551615):zc .u64 x=x:=IntWalk.u64_in x ⟨b,a⟩
theorem EP{n:Int}(h:B5 n=true): -9223372036854775808<=n/\n<9223372036854775808:=by
 unfold B5 at h;rw[zd,w5,w5]at h;exact h
namespace T161
theorem ok[Srt]:Ag Bh 161 Uz:=by
 refine BX It<|fun(n:Int) a=>?_;have a:=EP (n:=n) a;refine Ends.eq (Al n)<|Ends.ite (fun c=>?_)<|fun c=>?_
 ·have c:=w6 c;refine Ends.leaf<|Ac.of rfl rfl ?_;show zc .u64 (zc .i64<|0-n)=Ae n;simp only[Ah];rcases zo (-9223372036854775808) n with h|h
  ·rw[wr _ ae ae,wu _ ae ae];omega
  ·have:n= -9223372036854775808:=ae
   subst this;decide+kernel
 ·have c:=w7 c;refine Ends.leaf<|Ac.of rfl rfl ?_;show zc .u64 n=Ae n;simp only[Ah];rw[wu _ ae ae];omega
end T161
namespace T229
theorem Ap[Srt]{Q:PV->Ob->Prop}(w:List Int)(e:w.length<=20000)(b:∀ob,Q (.dat CU<|Aw w) ob):∀(i:Nat),i<=w.length->Aw w=Aw (w.take i)->Ends fD (L1 w i) Q
 |0,g,a=>by
  have a:Aw w=[]:=a;rw[a]at b;refine Ends.Av (As ..) (Ends.ff (by simp)<|Ends.tt (by simp)<|Ends.leaf<|b _)
 |i+1,g,a=>by
  have f:zc .i64 (((i+1:Nat):Int)-1)=(i:Int):=by rw[wr _ ae ae];omega
  have d:w.take (i+1)=w.take i++[w.getD i 0]:=by
   rw[List.take_add_one];congr 1;rw[zg,zm ae];rfl
  refine Ends.Av (As ..) (Ends.tt (by simp<;>omega) ?_);rw[f,zh];refine Ends.tt (by simp<;>omega)<|Ends.ite (fun c=>?_)<|fun c=>?_
  ·have c:w.getD i 0=0:=by simpa using c
   refine Ap w e b i ae ?_;rw[a,d,c,H7]
  ·have c:w.getD i 0≠0:=by simpa using c
   refine Ends.tt (by simp;omega)<|Ends.leaf ?_;have:Aw w=w.take (i+1):=by rw[a,d,HU<|Wc c]
   rw[this]at b;exact b _
theorem ok[Srt]:Ag Bh 229 TP:=by
 refine BX It<|fun(w:List Int) hw=>?_;obtain⟨a,b⟩:=HZ (l:=w) hw;refine Ends.eq (Al w) (Ap w a (fun ob=>Ac.of rfl rfl rfl) w.length (zw _)<|by rw[yc])
end T229
theorem Eo{l:List Int}(h:B0 l=true):l.length<=20000/\Au Am l/\Sp.nz l:=by
 unfold B0 at h;rw[zd]at h;have:=HZ h.1;exact⟨this.1,this.2,by
  have:=h.2;unfold rJ at this;have:l.getLast?≠some 0:=w6 this;exact this⟩
namespace T167
theorem Ap[Srt]{Q:PV->Ob->Prop}(a b:List Int)(j:Au Am a)(k:Au Am b)(m:a.length=b.length)(o:b.length<=20000)(f:∀ob,Q (.dat i64<|B3 (Ao a)<|Ao b) ob):∀(i:Nat),i<=a.length->a.drop i=b.drop i->Ends fD (L1 a b<|(i:Int)-1) Q
 |0,p,g=>by
  have g:a=b:=g;have:B3 (Ao a) (Ao b)=0:=by rw[g];unfold B3;simp
  rw[this]at f;exact Ends.Av (As ..) (Ends.ff (by simp)<|Ends.leaf<|f _)
 |i+1,p,g=>by
  have n:(((i+1:Nat):Int)-1)=(i:Int):=ae
  have l:a.drop i=a.getD i 0::a.drop (i+1):=by
   rw[zg,zm ae];exact zt ae
  have db:b.drop i=b.getD i 0::a.drop (i+1):=by
   rw[g,zg,zm ae];exact zt ae
  have r:=Sp.AZ<|AQ j i;have q:=Sp.AZ<|AQ k i;rw[n];refine Ends.Av (As ..) (Ends.tt (by simp) ?_);rw[zh];refine Ends.tt (by simp;omega) (Ends.tt (by simp;omega) (Ends.ite (fun c=>Ends.tt (by simp;omega)<|Ends.tt (by simp;omega)<|Ends.ite (fun d=>?_)<|fun d=>?_)<|fun c=>?_))
  ·have d:=w6 d;have:=IT (b:=Am) af j k l db d;have e:B3 (Ao a) (Ao b)= -1:=by unfold B3;exact wd this
   rw[e]at f;exact Ends.leaf<|f _
  ·have d:=w7 d;have c:a.getD i 0≠b.getD i 0:=by simpa using c
   have:=IT (b:=Am) af k j db l ae;have e:B3 (Ao a) (Ao b)=1:=by
    unfold B3 Ao;rw[wc ae,wd ae]
   rw[e]at f;exact Ends.leaf<|f _
  ·have c:a.getD i 0=b.getD i 0:=by simpa using c
   rw[wr ((i:Int)-1) ae ae];exact Ap a b j k m o f i ae (by rw[l,db,c])
theorem ok[Srt]:Ag Bh 167 V7:=by
 refine BX It<|fun(i:List Int×List Int) g=>?_;obtain⟨a,b⟩:=i;have g:(B0 a&&B0 b)=true:=g;rw[zd]at g;obtain⟨a1,a2,a3⟩:=Eo g.1;obtain⟨b1,b2,b3⟩:=Eo g.2;have f:∀ob,Ac V7 (a,b) (.dat i64<|B3 (Ao a)<|Ao b) ob:=fun ob=>Ac.of rfl rfl rfl
 refine Ends.eq (Al a b)<|Ends.ite (fun c=>Ends.ite (fun d=>?_)<|fun d=>?_)<|fun c=>?_
 ·have d:=w6 d;have e:B3 (Ao a) (Ao b)= -1:=by unfold B3;exact wd (D6 af a2 b2 b3 ae)
  rw[e]at f;exact Ends.leaf<|f _
 ·have d:=w7 d;have c:(a.length:Int)≠b.length:=by simpa using c
  have:=D6 (b:=Am) af b2 a2 a3 ae;have e:B3 (Ao a) (Ao b)=1:=by
   unfold B3 Ao;rw[wc ae,wd ae]
  rw[e]at f;exact Ends.leaf<|f _
 ·have c:(a.length:Int)=b.length:=by simpa using c
  rw[wr _ ae ae];exact Ap a b a2 b2 ae b1 f a.length (zw _) (by rw[List.drop_length,show a.length=b.length by omega,List.drop_length])
end T167
theorem EE{a:AE}(h:Dd a=true):(-9223372036854775808<=a.1/\a.1<9223372036854775808)/\(a.2=[]\/(B0 a.2=true/\(a.1=1\/a.1= -1)/\9223372036854775808<=Ao a.2)):=by
 unfold Dd at h;rw[zd,Bool.or_eq_true,zd,zd,Bool.or_eq_true,w5,w5,w5,w5]at h;exact⟨EP h.1,h.2.imp id fun h=>⟨h.1.1,h.1.2,h.2⟩⟩
theorem val_one(d:Int):zp Am [d]=d:=by simp[zp]
theorem qU{d:Int}(e:0<d)(c:d<18446744073709551616):[d]=BO d:=by
 have:=Ji (b:=Am) (l:=[d]) af (fun x a=>by rw[zn]at a;subst a;exact⟨by omega,c⟩) (by unfold Sp.nz;simp;omega);rw[val_one]at this;exact this
theorem EB{s:Int}:Sp.vI (s,[])=s:=by unfold Sp.vI;exact wd rfl
namespace T162
theorem ok[Srt](f:∀g sp,Kp.sp g=some sp->Ag Bh g sp):Ag Bh 162 Uk:=by
 refine MO (X:=Kp) rfl f (d:=9) ag ag ag (fun(a:Int×List Int) ha=>?_) (BR ag);obtain⟨k,j⟩:=EE (a:=a) ha;obtain⟨s,w⟩:=a;have k: -9223372036854775808<=s/\s<9223372036854775808:=k;refine Ends.eq (Al (s,w))<|Ends.ite (fun c=>?_)<|fun c=>Ends.ite (fun d=>?_)<|fun d=>Ends.tt ?_ ?_
 ·have c:0<w.length:=w6 c;have e:w≠[]:=by rintro rfl;simp at c
  rcases j with j|⟨r,i,m⟩
  ·exact wh j e
  ·obtain⟨n1,l,n⟩:=Eo r;have i:s=1\/s= -1:=i;have m:9223372036854775808<=Ao w:=m;have ev:Sp.vI (s,w)=if s<0 then -Ao w else Ao w:=by unfold Sp.vI;exact wc e
   have p:Ae (Sp.vI (s,w))=Ao w:=by rw[ev];simp only[Ah];split<;>omega
   have o:decide (Sp.vI (s,w)<0)=decide (s<0):=by
    rw[ev];rcases i with rfl|rfl<;>simp<;>omega
   refine Ends.leaf<|Ac.of rfl rfl ?_;show(decide (s<0),w)=(decide (Sp.vI (s,w)<0),BO<|Ae<|Sp.vI (s,w));rw[p,o,show w=BO (Ao w)from Ji af l n];congr 2;exact(CO (b:=Am) af<|Az (b:=Am) af l).symm
 all_goals
  have c:¬0<w.length:=w7 c;have q:w=[]:=List.length_eq_zero_iff.1 ae;subst q
 ·have d:s=0:=by simpa using d
  subst d;exact Ends.leaf<|Ac.of rfl rfl rfl
 ·show B5 s=true;unfold B5;rw[zd,w5,w5];exact k
 ·have d:s≠0:=by simpa using d
  refine Ends.leaf<|Ac.of rfl rfl ?_;show(decide (s<0),[Ae s])=(decide (Sp.vI (s,[])<0),BO<|Ae<|Sp.vI (s,[]));rw[EB,qU (d:=Ae s) (by simp only[Ah];omega)<|by simp only[Ah];omega]
end T162
theorem B2{n:Int}(h: -9223372036854775808<n/\n<9223372036854775808):CC n=(n,[]):=wd h
theorem QO{w:List Int}(neg:Bool)(b:Au Am w)(a:Sp.nz w)(c:9223372036854775808<=Ao w):CC (if neg=true then -Ao w else Ao w)=(if neg=true then -1 else 1,w):=by
 have e:BO (Ao w)=w:=(Ji af b a).symm;cases neg with
 |true=>
  simp only[wm];unfold CC;rw[wc ae,wd ae];rw[show Ae (-Ao w)=Ao w by simp only[Ah];omega,e]
 |false=>
  show CC (Ao w)=(1,w);unfold CC;rw[wc ae,wc ae];rw[show Ae (Ao w)=Ao w by simp only[Ah];omega,e]
namespace T163
theorem ok[Srt](a:∀g sp,Kp.sp g=some sp->Ag Bh g sp):Ag Bh 163 cA:=by
 refine MO (X:=Kp) rfl a (d:=9) ag ag ag (fun(i:Bool×List Int) hi=>?_) (BR ag);obtain⟨neg,w⟩:=i;obtain⟨n1,n2,n3⟩:=Eo (l:=w) hi;refine Ends.eq (Al neg w) ?_;conv=>zeta
 cases w with
 |nil=>
  refine Ends.tt rfl (Ends.leaf<|Ac.of rfl rfl ?_);show _=CC (if neg=true then -0 else 0);rw[show(if neg=true then(-0:Int)else 0)=0 by split<;>rfl,B2 ae]
 |cons d t=>
  cases t with
  |nil=>
   have o:=n2 d (by simp);have v:d≠0:=by intro h;subst h;exact n3 rfl
   have s:0<=d:=o.1;have r:d<18446744073709551616:=o.2;have ev:Ao [d]=d:=val_one d;refine Ends.ff rfl (Ends.tt rfl (Ends.tt rfl (Ends.ite (fun c=>?_)<|fun c=>?_)))
   ·have c:d<=9223372036854775807:=w6 c;have j:zc .i64 d=d:=wr _ ae ae;have p:zc .i64 (0-d)= -d:=by rw[wr _ ae ae];omega
    refine Ends.ite (fun n=>Ends.tt rfl (Ends.leaf<|Ac.of rfl rfl ?_))<|fun n=>Ends.tt rfl (Ends.tt rfl (Ends.tt (w4 c)<|Ends.tt rfl (Ends.leaf<|Ac.of rfl rfl ?_)))
    ·show(zc .i64<|0-zc .i64 d,[])=CC (if neg=true then -Ao [d]else Ao [d]);rw[j,p,wd n,ev,B2 ae]
    ·show(zc .i64 d,[])=CC (if neg=true then -Ao [d]else Ao [d]);subst n;rw[j,wc af,ev,B2 ae]
   ·have u:¬d<=9223372036854775807:=w7 c;have f:=QO neg n2 n3 (by rw[ev];omega);refine Ends.tt rfl (Ends.tt rfl (Ends.ff c<|Ends.ite (fun n=>Ends.leaf<|Ac.of rfl rfl ?_)<|fun n=>Ends.leaf<|Ac.of rfl rfl ?_))
    ·show(-1,[d])=CC (if neg=true then -Ao [d]else Ao [d]);rw[f,wd n]
    ·show(1,[d])=CC (if neg=true then -Ao [d]else Ao [d]);rw[f,n];rfl
  |cons e t=>
   have q:9223372036854775808<=Ao (d::e::t):=by
    have h:=CV (b:=Am) af n2 n3 (by simp);have k:=AJ (b:=Am) af (show 1<=(d::e::t).length-1 by simp);rw[Int.pow_one]at k;have:(9223372036854775808:Int)<=(Am:Int):=af
    exact Int.le_trans this<|Int.le_trans k h
   have f:=QO neg n2 n3 q;have z0:(((d::e::t).length:Int)==0)=false:=by simp;omega
   have m:(((d::e::t).length:Int)==1)=false:=by simp;omega
   refine Ends.ff z0<|Ends.ff m<|Ends.ff m<|Ends.ite (fun n=>Ends.leaf<|Ac.of rfl rfl ?_)<|fun n=>Ends.leaf<|Ac.of rfl rfl ?_
   ·show(-1,d::e::t)=CC (if neg=true then -Ao (d::e::t)else Ao (d::e::t));rw[f,wd n]
   ·show(1,d::e::t)=CC (if neg=true then -Ao (d::e::t)else Ao (d::e::t));rw[f,n];rfl
end T163
namespace T166
theorem Ap[Srt](x y:List Int)(n:Au Am x)(q:Au Am y)(m:y.length<=x.length)(A:x.length<=9000)(t:∀ob,Q (.dat CU<|BO<|Ao x+Ao y) ob):∀(k i:Nat) (p:List Int) (c:Int),i+k=x.length->p.length=i->Au Am p->(0<=c/\c<=1)->zp Am p+(Am:Int)^i*c=zp Am (x.take i)+zp Am (y.take i)->
  Ends Kp (L1 x y (x.length+1) c x.length i<|p++zf (x.length+1-i) 0) Q
 |0,i,p,c,j,e,g,a,r=>by
  have j:i=x.length:=ae
  subst j;have C:x.length+1-x.length=1:=ae
  have es:(p++zf (x.length+1-x.length) (0:Int)).set x.length c=p++[c]:=by
   rw[C];exact Pe.CZ p [] 0 c e
  have w:(p++[c]).take (x.length+1)=p++[c]:=zk (by simp;omega);have b:Au Am (p++[c]):=DG g (Ct a.1 ae);have u:Ao (p++[c])=Ao x+Ao y:=by
   unfold Ao;rw[Em,e,r,yc,zk m]
  refine Ends.Av (As ..) (Ends.ff (by simp) ?_);rw[zh,es,w];refine Ends.tt (by simp<;>omega) (Ends.tt (by simp;omega)<|Ends.tt ?_<|Ends.leaf ?_)
  ·rw[DW (by simp;omega) b];simp;omega
  ·rw[Kt b,u];exact t _
 |k+1,i,p,c,j,e,g,a,r=>by
  have f:=AQ n i;have o:=AQ q i;have s:(p++zf (x.length+1-i) (0:Int)).length=x.length+1:=by simp;omega
  have step:∀z,Sp.u64 z=true->z=y.getD i 0->Ends Kp (L1 x y (x.length+1) (NY (x.getD i 0) z c) x.length (zc .i64<|(i:Int)+1)<|(p++zf (x.length+1-i) 0).set i<|Hs (x.getD i 0) z c) Q:=by
   intro z l v;obtain⟨a1,a2,a3⟩:=Ko f l a;rw[wr ((i:Int)+1) ae ae,I0 p (x.length+1) i _ e ae];refine Ap x y n q m A t k (i+1) (p++[Hs (x.getD i 0) z c]) _ ae (by simp;omega) (DG g a1) a2 ?_;rw[Em,e,Kh,AB _ x i,AB _ y i, <-v,yv, <-zx,a3,zx,zx];omega
  refine Ends.Av (As ..) (Ends.tt (by simp;omega) ?_);rw[zh];refine Ends.ite (fun d=>?_)<|fun d=>?_
  ·have d:=w6 d;refine Ends.tt (by simp;omega) (Ends.tt (by simp;omega) (Ends.tt ?_<|Ends.tt (by simp;omega)<|Ends.tt (w4<|by rw[s];omega)<|step _ o rfl));rw[f,o,zr,zr,zd];exact⟨w4 a.1,w4 a.2⟩
  ·have d:=w7 d;have l:y.getD i 0=0:=by rw[zg,yg ae];rfl
   refine Ends.tt (by simp;omega) (Ends.tt ?_<|Ends.tt (by simp;omega) (Ends.tt (w4<|by rw[s];omega)<|step _ rfl l.symm));rw[f,show Sp.u64 0=true from rfl,zr,zr,zd];exact⟨w4 a.1,w4 a.2⟩
theorem start[Srt](x y:List Int)(d:Au Am x)(f:Au Am y)(c:y.length<=x.length)(e:x.length<=9000)(a:∀ob,Q (.dat CU<|BO<|Ao x+Ao y) ob){t:Tr}:
  Ends Kp (.ite (decide ((0:Int)<=zc yb ((x.length:Int)+(1:Int)))&&decide (zc yb ((x.length:Int)+(1:Int))=zc yb ((x.length:Int)+(1:Int)))&&decide ((8:Nat)*Int.toNat (zc yb<|(x.length:Int)+(1:Int))<=(281474976710656:Nat))&&decide (zc yb ((x.length:Int)+(1:Int))<(9223372036854775808:Int)))
   (L1 x y (Int.toNat<|zc yb<|(x.length:Int)+(1:Int)) ((0:Int)) ((x.length:Int)) ((0:Int))<|zf (Int.toNat<|zc yb<|(x.length:Int)+(1:Int)) (0:Int)) t) Q:=by
 have b:zc .i64 ((x.length:Int)+1)=((x.length+1:Nat):Int):=by rw[wr _ ae ae];omega
 rw[b,zh];refine Ends.tt (by simp;omega) ?_;exact Ap x y d f c e a x.length 0 [] 0 ae rfl (fun _ h=>by cases h) ae (by simp[zp])
theorem ok[Srt](b:∀g sp,Kp.sp g=some sp->Ag Bh g sp):Ag Bh 166 Z7:=by
 refine MO (X:=Kp) rfl b (d:=9) ag ag ag (fun(i:List Int×List Int) a=>?_) (BR ag);obtain⟨x,y⟩:=i;have a:(Sp.hW x&&Sp.hW y)=true:=a;rw[zd]at a;obtain⟨x1,x2⟩:=VB a.1;obtain⟨y1,y2⟩:=VB a.2;have e:∀ob,Ac Z7 (x,y) (.dat CU<|BO<|Ao x+Ao y) ob:=fun ob=>Ac.of rfl rfl rfl
 refine Ends.eq (Al x y)<|Ends.ite (fun c=>?_)<|fun c=>?_
 ·have c:=w6 c;exact start y x y2 x2 ae y1 (by rw[Int.add_comm];exact e)
 ·have c:=w7 c;exact start x y x2 y2 ae x1 e
end T166
namespace T168
theorem eX{b:Int}(d:0<b){l:List Int}{n:Nat}(h:Au b l)(g:zp b l<b^n):zp b (l.take n)=zp b l:=by
 rcases yw n l.length with a|a
 ·have e:=Cg b l n ae;have f:=Az ae<|AH h n;have i:=Az ae<|Eb h n;rcases zo 0 (zp b<|l.drop n)with c|c
  ·have:=zy (show 1<=zp b (l.drop n)by omega)<|Int.le_of_lt<|A6 d n;rw[Int.mul_one]at this;omega
  ·have:zp b (l.drop n)=0:=ae
   rw[this,Int.mul_zero]at e;omega
 ·rw[zk a]
theorem Ap[Srt](x y:List Int)(j:Au Am x)(m:Au Am y)(q:Ao y<=Ao x)(C:x.length<=20000)(t:∀ob,Q (.dat CU<|BO<|Ao x-Ao y) ob):∀(k i:Nat) (p:List Int) (c:Int),i+k=x.length->p.length=i->Au Am p->(0<=c/\c<=1)->zp Am p-(Am:Int)^i*c=zp Am (x.take i)-zp Am (y.take i)->
  Ends Kp (L1 x y x.length c x.length i<|p++zf (x.length-i) 0) Q
 |0,i,p,c,n,g,f,a,b=>by
  have n:i=x.length:=ae
  subst n;have D:p++zf (x.length-x.length) (0:Int)=p:=by rw[Nat.sub_self];simp
  have A:p.take x.length=p:=zk ae;have v:Ao x<(Am:Int)^x.length:=Bn af j;have E:Ao p<(Am:Int)^p.length:=Bn af f;have u:Ao p=Ao x-Ao y:=by
   rw[yc,eX af m<|show zp Am y<_ from zz q v]at b;have b:Ao p-(Am:Int)^x.length*c=Ao x-Ao y:=b;rw[g]at E;rcases zo 0 c with h|h
   ·have:c=1:=ae
    subst this;rw[Int.mul_one]at b;omega
   ·have:c=0:=ae
    subst this;rw[Int.mul_zero]at b;omega
  rw[D];refine Ends.Av (As ..) (Ends.ff (by simp) ?_);rw[A];refine Ends.tt ?_<|Ends.leaf ?_
  ·rw[DW ae f];simp;omega
  ·rw[Kt f,u];exact t _
 |k+1,i,p,c,n,g,f,a,b=>by
  have l:=AQ j i;have r:=AQ m i;have s:(p++zf (x.length-i) (0:Int)).length=x.length:=by simp;omega
  have step:∀z,Sp.u64 z=true->z=y.getD i 0->Ends Kp (L1 x y x.length (OU (x.getD i 0) z c) x.length (zc .i64<|(i:Int)+1)<|(p++zf (x.length-i) 0).set i<|RG (x.getD i 0) z c) Q:=by
   intro z o w;obtain⟨a1,a2,a3⟩:=Sp.Gr l o a;rw[wr ((i:Int)+1) ae ae,I0 p x.length i _ g ae];refine Ap x y j m q C t k (i+1) (p++[RG (x.getD i 0) z c]) _ ae (by simp;omega) (DG f a1) a2 ?_;have e:(Am:Int)^i*RG (x.getD i 0) z c-(Am:Int)^i*(18446744073709551616*OU (x.getD i 0) z c)=(Am:Int)^i*x.getD i 0-(Am:Int)^i*z-(Am:Int)^i*c:=by
    rw[<-yt,a3,yt,yt]
   rw[Em,g,Kh,AB _ x i,AB _ y i, <-w];omega
  refine Ends.Av (As ..) (Ends.tt (by simp;omega) ?_);rw[zh];refine Ends.ite (fun d=>?_)<|fun d=>?_
  ·have d:=w6 d;refine Ends.tt (by simp;omega) (Ends.tt (by simp;omega)<|Ends.tt ?_ (Ends.tt (by simp;omega)<|Ends.tt (w4<|by rw[s];omega)<|step _ r rfl));rw[l,r,zr,zr,zd];exact⟨w4 a.1,w4 a.2⟩
  ·have d:=w7 d;have o:y.getD i 0=0:=by rw[zg,yg ae];rfl
   refine Ends.tt (by simp;omega) (Ends.tt ?_<|Ends.tt (by simp;omega)<|Ends.tt (w4<|by rw[s];omega)<|step _ rfl o.symm);rw[l,show Sp.u64 0=true from rfl,zr,zr,zd];exact⟨w4 a.1,w4 a.2⟩
theorem ok[Srt](b:∀g sp,Kp.sp g=some sp->Ag Bh g sp):Ag Bh 168 bN:=by
 refine MO (X:=Kp) rfl b (d:=9) ag ag ag (fun(i:List Int×List Int) a=>?_) (BR ag);obtain⟨x,y⟩:=i;have a:(CB x&&CB y&&decide (Ao y<=Ao x))=true:=a;rw[zd,zd,w5]at a;obtain⟨x1,x2⟩:=HZ a.1.1;obtain⟨y1,y2⟩:=HZ a.1.2;have c:∀ob,Ac bN (x,y) (.dat CU<|BO<|Ao x-Ao y) ob:=fun ob=>Ac.of rfl rfl rfl
 refine Ends.eq (Al x y) ?_;conv=>zeta
 rw[zh];refine Ends.tt (by simp;omega) ?_;exact Ap x y x2 y2 a.2 x1 c x.length 0 [] 0 ae rfl (fun _ h=>by cases h) ae (by simp[zp])
end T168
theorem Kv(n:Int):zc .u64 n=n % 18446744073709551616:=by simp[zc,IntKind.bits,IntKind.signed]
theorem Xb(n:Nat):zq (n:Int) ((2:Int)^(32:Nat))=((n/4294967296:Nat):Int):=by
 rw[Int.fdiv_eq_ediv_of_nonneg _ af];rfl
theorem Z2(n:Nat)(h:n<18446744073709551616):zc .u64 (n:Int)=n:=wu _ ae ae
theorem OA(n:Nat)(h:n<18446744073709551616):Hb .u64 (n:Int) 4294967295=((n % 4294967296:Nat):Int):=by
 have e:(yf 64 (n:Int)&&&yf 64 4294967295).toNat=n % 4294967296:=by
  rw[BitVec.toNat_and];have b:(yf 64 (n:Int)).toNat=n:=by rw[BitVec.ofInt_natCast,BitVec.toNat_ofNat];exact Nat.mod_eq_of_lt h
  have a:(yf 64 4294967295).toNat=2^32-1:=af
  rw[b,a,Nat.and_two_pow_sub_one_eq_mod]
 show zc .u64 (((yf 64 (n:Int)&&&yf 64 4294967295).toNat:Nat):Int)=_;rw[e];exact Z2 _ ae
namespace T160
theorem ok[Srt]:Ag Bh 160 P8:=by
 refine BX It<|fun(i:Int×Int) f=>?_;obtain⟨x,y⟩:=i;have f:(Sp.u64 x&&Sp.u64 y)=true:=f;rw[zd]at f;have e:=Sp.AZ f.1;have j:=Sp.AZ f.2;obtain⟨x,rfl⟩:=zj e.1;obtain⟨y,rfl⟩:=zj j.1;have e:x<18446744073709551616:=ae
 have j:y<18446744073709551616:=ae
 obtain⟨o,l,m,k⟩:=Go.Lib.mul64_hi x y e j;have q:=ym (a:=x/4294967296) (b:=y/4294967296) ae ae;have p:=ym (a:=x/4294967296) (b:=y % 4294967296) ae ae;have r:=ym (a:=x % 4294967296) (b:=y/4294967296) ae ae;refine Ends.eq (Al (x:Int) (y:Int))<|Ends.tt rfl (Ends.tt rfl (Ends.tt rfl (Ends.tt rfl (Ends.tt rfl (Ends.leaf<|Ac.of rfl rfl ?_)))));refine Prod.ext ?_ ?_
 ·show zc ze (zc ze (zc ze (zq (x:Int) ((2:Int)^(32:Nat))*zq (y:Int) ((2:Int)^(32:Nat)))+zq (zc ze<|zc ze (zq (x:Int) ((2:Int)^(32:Nat))*Hb ze (y:Int) (4294967295:Int))+zq (zc ze<|Hb ze (x:Int) (4294967295:Int)*Hb ze (y:Int) (4294967295:Int)) ((2:Int)^(32:Nat))) ((2:Int)^(32:Nat)))+zq (zc ze<|Hb ze (zc ze<|zc ze (zq (x:Int) ((2:Int)^(32:Nat))*Hb ze (y:Int) (4294967295:Int))+zq (zc ze<|Hb ze (x:Int) (4294967295:Int)*Hb ze (y:Int) (4294967295:Int)) ((2:Int)^(32:Nat))) (4294967295:Int)+zc ze (Hb ze (x:Int) (4294967295:Int)*zq (y:Int) ((2:Int)^(32:Nat)))) ((2:Int)^(32:Nat)))=Pr x y;have n:Pr x y=((x*y/18446744073709551616:Nat):Int):=by unfold Pr;omega
  rw[n, <-k];have g:x*y/18446744073709551616<18446744073709551616:=Nat.div_lt_of_lt_mul<|Nat.mul_lt_mul'' e j;rw[<-k]at g;simp only[Xb,OA x e,OA y j];simp only[<-Int.natCast_mul];generalize (x/4294967296)*(y/4294967296)=a at*;generalize (x/4294967296)*(y % 4294967296)=b at*;generalize (x % 4294967296)*(y/4294967296)=c at*;generalize (x % 4294967296)*(y % 4294967296)=d at*;rw[Z2 d ae,Z2 a ae,Z2 b ae,Z2 c ae,Xb, <-yj,Z2 _ l,Xb,OA _ l, <-yj, <-yj,Z2 _ m,Xb,Z2 (a+_) ae, <-yj,Z2 _ g]
 ·show zc .u64 ((x:Int)*y)=Hx x y;unfold Hx;exact Kv _
end T160
theorem Zs{x y o c:Int}(d:Sp.u64 x=true)(e:Sp.u64 y=true)(g:Sp.u64 o=true)(f:Sp.u64 c=true):
  Sp.u64 (Hx x y)=true/\Sp.u64 (Hs (Hx x y) o 0)=true/\Sp.u64 (Hs (Hs (Hx x y) o 0) c 0)=true/\
  zc .u64 (zc .u64 (Pr x y+NY (Hx x y) o 0)+NY (Hs (Hx x y) o 0) c 0)=(x*y+o+c)/18446744073709551616/\
  Sp.u64 ((x*y+o+c)/18446744073709551616)=true/\
  Hs (Hs (Hx x y) o 0) c 0+18446744073709551616*((x*y+o+c)/18446744073709551616)=x*y+o+c:=by
 have d:=Sp.AZ d;have e:=Sp.AZ e;have g:=Sp.AZ g;have f:=Sp.AZ f;have h0:0<=x*y:=Int.mul_nonneg d.1 e.1;have i:x*y<=18446744073709551615*18446744073709551615:=by
  have a:=zy (show y<=18446744073709551615 by omega) d.1;have b:=yh (show x<=18446744073709551615 by omega) (show(0:Int)<=18446744073709551615 by omega);omega
 unfold Hx Pr Hs NY;generalize x*y=P at*;refine⟨Ct ae ae,Ct ae ae,Ct ae ae,?_,Ct ae ae,by omega⟩;rw[Kv,Kv];omega
namespace T164
theorem A2[Srt](x y:List Int)(n i:Nat)(P:i<x.length)(I:n=x.length+y.length)(l:x.length<=9000)(g:y.length<=9000)(w:Au Am x)(t:Au Am y)(p:List Int)(V:p.length=i+y.length)(b:Au Am p)
  (E:∀q c,q.length=i+y.length->Au Am q->Sp.u64 c=true->zp Am q+(Am:Int)^(i+y.length)*c=zp Am p+(Am:Int)^i*(x.getD i 0*zp Am y)->Ends Kp (L1 y n x x.length ((i+1:Nat):Int)<|(q++[c])++zf (n-(i+y.length+1)) 0) Q):∀(k j:Nat) (q:List Int) (c:Int),j+k=y.length->q.length=i+j->Au Am q->Sp.u64 c=true->zp Am q+(Am:Int)^(i+j)*c=zp Am (p.take<|i+j)+(Am:Int)^i*(x.getD i 0*zp Am (y.take j))->
  Ends Kp (L2 y n i (x.getD i 0) c x x.length i y y.length j<|q++(p.drop (i+j)++zf (n-(i+y.length)) 0)) Q
 |0,j,q,c,o,a,m,d,u=>by
  have o:j=y.length:=ae
  subst o;have f:zc .i64 ((i:Int)+(y.length:Int))=((i+y.length:Nat):Int):=by rw[wr _ ae ae];omega
  have e:zc .i64 ((i:Int)+1)=((i+1:Nat):Int):=by rw[wr _ ae ae];omega
  have R:p.drop (i+y.length)=[]:=yr ae;refine Ends.Av (A5 ..) (Ends.ff (by simp) ?_);rw[f,e,zh,R,List.nil_append,I0 q n _ c a ae];refine Ends.tt (by simp;omega) (Ends.tt (by simp;omega)<|E q c a m d ?_);rw[u,zk ae,yc]
 |k+1,j,q,c,o,a,m,d,u=>by
  have A:=AQ w i;have D:=AQ t j;have r:=AQ b<|i+j;have s:p.drop (i+j)=p.getD (i+j) 0::p.drop (i+j+1):=by
   rw[zg,zm ae];exact zt ae
  have f:zc .i64 ((i:Int)+(j:Int))=((i+j:Nat):Int):=by rw[wr _ ae ae];omega
  have e:zc .i64 ((j:Int)+1)=((j+1:Nat):Int):=by rw[wr _ ae ae];omega
  have v:(q++(p.drop (i+j)++zf (n-(i+y.length)) (0:Int))).length=n:=by simp;omega
  have M:(q++(p.drop (i+j)++zf (n-(i+y.length)) (0:Int))).getD (i+j) 0=p.getD (i+j) 0:=by
   rw[s,List.cons_append];exact Et _ _ _ _ a
  have s1:∀z,(q++(p.drop (i+j)++zf (n-(i+y.length)) (0:Int))).set (i+j) z=(q++[z])++(p.drop (i+(j+1))++zf (n-(i+y.length)) 0):=by
   intro z;rw[s,List.cons_append,CZ _ _ _ _ a,yo];rfl
  obtain⟨T,K,J,G,O,L⟩:=Zs A D r d;refine Ends.Av (A5 ..) (Ends.tt (by simp;omega) ?_);rw[f,e,zh,zh,M,s1,G];have C:(decide ((0:Int)<=((i+j:Nat):Int))&&decide (((i+j:Nat):Int)<(n:Int)))=true:=by simp;omega
  refine Ends.tt (by simp;omega) (Ends.tt (by rw[A,D];rfl) (Ends.tt C<|Ends.tt (w4<|by rw[v];omega)<|Ends.tt (by rw[T,r];rfl)<|Ends.tt (by rw[K,d];rfl)<|Ends.tt C<|Ends.tt (w4<|by rw[v];omega) ?_));refine A2 x y n i P I l g w t p V b E k (j+1) _ _ ae (by simp;omega) (DG m J) O ?_;have S:i+(j+1)=(i+j)+1:=ae
  have U:(Am:Int)^i*(x.getD i 0*((Am:Int)^j*y.getD j 0))=(Am:Int)^(i+j)*(x.getD i 0*y.getD j 0):=by
   rw[Int.pow_add,yp,Int.mul_left_comm<|x.getD i 0]
  rw[S,Em,a,Kh,yv, <-zx,L,AB _ p<|i+j,AB _ y j,zx,zx,zx<|x.getD i 0,zx,U];omega
theorem Ap[Srt](x y:List Int)(n:Nat)(l:n=x.length+y.length)(a:x.length<=9000)(d:y.length<=9000)(m:Au Am x)(s:Au Am y)(r:∀ob,Q (.dat CU<|BO<|Ao x*Ao y) ob):∀(k i:Nat) (p:List Int),i+k=x.length->p.length=i+y.length->Au Am p->zp Am p=zp Am (x.take i)*zp Am y->
  Ends Kp (L1 y n x x.length i<|p++zf (n-(i+y.length)) 0) Q
 |0,i,p,j,o,b,e=>by
  have j:i=x.length:=ae
  subst j;have u:p++zf (n-(x.length+y.length)) (0:Int)=p:=by rw[l,Nat.sub_self];simp
  have g:Ao p=Ao x*Ao y:=by
   rw[yc]at e;exact e
  rw[u];refine Ends.Av (As ..) (Ends.ff (by simp) ?_);rw[zk ae];refine Ends.tt ?_<|Ends.leaf ?_
  ·rw[DW ae b];simp;omega
  ·rw[Kt b,g];exact r _
 |k+1,i,p,j,o,b,e=>by
  refine Ends.Av (As ..) (Ends.tt (by simp;omega) ?_);rw[zh];refine Ends.tt (by simp;omega) ?_;have h0:zp Am (p.take<|i+y.length)=zp Am p:=by rw[zk ae]
  have:=A2 (Q:=Q) x y n i ae l a d m s p o b (fun q c t f v g=>by
   have:=Ap x y n l a d m s r k (i+1) (q++[c]) ae (by simp;omega) (DG f v) (by
    rw[Em,t,g,e,AB,Int.add_mul,yp])
   rw[show i+1+y.length=i+y.length+1 by omega]at this;exact this) y.length 0 (p.take i) 0 ae (by simp;omega) (AH b i) rfl (by simp[zp])
  rw[Nat.add_zero, <-yo,List.take_append_drop]at this;exact this
theorem ok[Srt](b:∀g sp,Kp.sp g=some sp->Ag Bh g sp):Ag Bh 164 fO:=by
 refine MO (X:=Kp) rfl b (d:=9) ag ag ag (fun(i:List Int×List Int) a=>?_) (BR ag);obtain⟨x,y⟩:=i;have a:(Sp.hW x&&Sp.hW y)=true:=a;rw[zd]at a;obtain⟨x1,x2⟩:=VB a.1;obtain⟨y1,y2⟩:=VB a.2;have c:∀ob,Ac fO (x,y) (.dat CU<|BO<|Ao x*Ao y) ob:=fun ob=>Ac.of rfl rfl rfl
 have f:zc .i64 ((x.length:Int)+(y.length:Int))=((x.length+y.length:Nat):Int):=by rw[wr _ ae ae];omega
 refine Ends.eq (Al x y) ?_;conv=>zeta
 rw[f,zh];refine Ends.tt (by simp;omega) ?_;have:=Ap x y (x.length+y.length) rfl x1 y1 x2 y2 c x.length 0 (zf y.length 0) ae (by simp) (fun d e=>by
  obtain⟨_,rfl⟩:=List.mem_replicate.1 e;exact⟨by decide,by decide⟩) (by rw[La];simp[zp])
 rw[Nat.zero_add,List.replicate_append_replicate,show y.length+(x.length+y.length-y.length)=x.length+y.length by omega]at this;exact this
end T164
theorem GP[Srt]:DU Kp:=
 Aa T161.ok (Aa T228.ok<|Aa T230.ok<|Aa T229.ok<|Aa T160.ok AT)
theorem Rk[Srt]:DU zB:=
 Aa (T162.ok GP) (Aa (T163.ok GP)<|Aa (T166.ok GP)<|Aa (T168.ok GP)<|Aa T167.ok<|Aa (T164.ok GP)<|Aa T160.ok<|Aa T161.ok AT)
end Go.Pe
namespace Go.Sp
def Bd(a:AE):Bool:=Dd a&&decide (a.2.length<=9000)
def Xp(a b:AE):Int:=B3 (vI a)<|vI b
def Ib(a:AE):Int:=SP<|vI a
end Go.Sp
namespace Go.Pe
open Sp
open Go.Det
def Tk:Aq:=⟨[AV],fun a=>Dd a,[AV],fun a=>(D3 a,D4 a),false⟩
def oY:Aq:=⟨[AV],fun a=>Dd a,[AV],fun a=>(ML a,OO a),false⟩
def Lu:Aq:=⟨[AV],fun a=>Dd a,[i64],fun a=>Ib a,false⟩
def M5:Aq:=⟨[AV,AV],fun i=>Bd i.1&&Bd i.2,[AV],fun i=>(Jl i.1 i.2,Jk i.1 i.2),false⟩
def dT:Aq:=⟨[AV,AV],fun i=>Bd i.1&&Bd i.2,[AV],fun i=>(Wl i.1 i.2,VH i.1 i.2),false⟩
def PY:Aq:=⟨[AV,AV],fun i=>Bd i.1&&Bd i.2,[AV],fun i=>(Es i.1 i.2,El i.1 i.2),false⟩
def ZI:Aq:=⟨[AV,AV],fun i=>Bd i.1&&Bd i.2,[i64],fun i=>Xp i.1 i.2,false⟩
def zZ[Srt]:A0:=X7 [(157,Tk),(102,M5)]
def XJ2[Srt]:A0:=X7 [(174,dT),(158,Lu)]
section
open List Int Prod
namespace T157
def T[Srt](a:AE):Tr:=tree zB false 9 157<|Af ([AV]) a
theorem Al[Srt](a:AE):T a=let c:=BO<|Ae<|Sp.vI a;let b':=Sp.sg (!decide (Sp.vI a<0))<|Ao c;let b:Tr:=.ck (Dd a)<|.ck (B0 c)<|.leaf (yd [.dat i64<|Cy b',.dat wU<|Cv b']) [];.ite (!decide (0<length (snd a))) (.ite (fst a !=(-9223372036854775808)) (.leaf (yd [.dat i64<|zc .i64<|0-fst a,.nil]) []) b) b:=by kernel_rfl
end T157
namespace T102
def T[Srt](a b:AE):Tr:=tree zB false 9 102<|Af ([AV,AV]) (a,b)
theorem Al[Srt](a b:AE):T a b=let b':=BO<|Ae<|Sp.vI a;let c:=BO<|Ae<|Sp.vI b;let j:=BO<|Ao b'+Ao c;let h':=BO<|Ao b'-Ao c;let f:=BO<|Ao c-Ao b';let g:=Sp.sg (decide (Sp.vI a<0))<|Ao j;let i:=Sp.sg (decide (Sp.vI a<0))<|Ao h';let e:=Sp.sg (decide (Sp.vI b<0))<|Ao f;let d:Tr:=.ck (Dd a)<|.ck (Dd b)<|.ite (decide (Sp.vI a<0)==decide (Sp.vI b<0)) (.ck (Sp.hW b'&&Sp.hW c)<|.ck (B0 j)<|.leaf (yd [.dat i64<|Cy g,.dat wU<|Cv g]) [])<|.ck (B0 b'&&B0 c)<|.di (B3 (Ao b') (Ao c)>=0) (.ck (CB b'&&CB c&&decide (Ao c<=Ao b'))<|.ck (B0 h')<|.leaf (yd [.dat i64<|Cy i,.dat wU<|Cv i]) [])<|.ck (CB c&&CB b'&&decide (Ao b'<=Ao c))<|.ck (B0 f)<|.leaf (yd [.dat i64<|Cy e,.dat wU<|Cv e]) [];.ite (!decide (0<length (snd a))) (.ite (!decide (0<length (snd b))) (.ite (decide (zc .i64 (fst a+fst b)>fst a)==decide (fst b>0)) (.leaf (yd [.dat i64<|zc .i64<|fst a+fst b,.nil]) []) d) d) d:=by kernel_rfl
end T102
namespace T96
def T[Srt](a b:AE):Tr:=tree zB false 9 96<|Af ([AV,AV]) (a,b)
theorem Al[Srt](a b:AE):T a b=let c:=Ae<|fst a;let d:=Ae<|fst b;let f:=BO<|Ae<|Sp.vI a;let i:=BO<|Ae<|Sp.vI b;let b':=BO<|Ao f*Ao i;let g:=Sp.sg (!decide (Sp.vI a<0)==decide (Sp.vI b<0))<|Ao b';let e:Tr:=.ck (Dd a)<|.ck (Dd b)<|.ck (Sp.hW f&&Sp.hW i)<|.ck (B0 b')<|.leaf (yd [.dat i64<|Cy g,.dat wU<|Cv g]) [];.ite (!decide (0<length (snd a))) (.ite (!decide (0<length (snd b))) (.ck (B5<|fst a)<|.ck (B5<|fst b)<|.ck (Sp.u64 c&&Sp.u64 d)<|.ite (Pr c d==0) (.di (Hx c d<=9223372036854775807) (.ite (!decide (fst a<0)==decide (fst b<0)) (.leaf (yd [.dat i64<|zc .i64<|0-zc .i64 (Hx c d),.nil]) [])<|.leaf (yd [.dat i64<|zc .i64<|Hx c d,.nil]) []) e) e) e) e:=by kernel_rfl
end T96
namespace T172
def T[Srt](a:AE):Tr:=tree zZ false 9 172<|Af ([AV]) a
theorem Al[Srt](a:AE):T a=.di (fst a<0) (.ck (Dd a)<|.leaf (yd [.dat i64<|D3 a,.dat wU<|D4 a]) []) (.leaf (yd [.dat i64<|fst a,.dat wU<|snd a]) []):=by kernel_rfl
end T172
namespace T158
def T[Srt](a:AE):Tr:=tree fD false 9 158<|Af ([AV]) a
theorem Al[Srt](a:AE):T a=.leaf (.dat i64<|imax (-1)<|CH 1<|fst a) []:=by kernel_rfl
end T158
namespace T174
def T[Srt](a b:AE):Tr:=tree zZ false 9 174<|Af ([AV,AV]) (a,b)
theorem Al[Srt](a b:AE):T a b=.ck (Dd b) (.ck (Bd a&&Bd (D3 b,D4 b))<|.leaf (yd [.dat i64<|Jl a (D3 b,D4 b),.dat wU<|Jk a (D3 b,D4 b)]) []):=by kernel_rfl
end T174
namespace T118
def T[Srt](a b:AE):Tr:=tree XJ2 false 9 118<|Af ([AV,AV]) (a,b)
theorem Al[Srt](a b:AE):T a b=let c:Tr:=.ck (Bd a&&Bd b)<|.ck (Dd (Wl a b,VH a b))<|.leaf (.dat i64<|Ib (Wl a b,VH a b)) [];.ite (!decide (0<length (snd a))) (.ite (!decide (0<length (snd b))) (.di (fst a<fst b) (.leaf (.dat i64 (-1:Int)) [])<|.di (fst a>fst b) (.leaf (.dat i64 (1:Int)) [])<|.leaf (.dat i64 (0:Int)) []) c) c:=by kernel_rfl
end T118
end
theorem kY(k:Nat):((Am^k:Nat):Int)=(Am:Int)^k:=Int.natCast_pow ..
theorem Lo{n:Int}{k:Nat}(h0:0<=n)(h:n<(Am:Int)^k):(BO n).length<=k:=by
 refine RC Am af k n.toNat n.toNat ?_;rw[<-kY]at h;generalize Am^k=P at*;omega
theorem CY{n:Int}{k:Nat}(h0:0<=n)(h:n<(Am:Int)^k)(c:k<=20000):B0 (BO n)=true/\CB (BO n)=true/\Ao (BO n)=n:=by
 have d:=Lo h0 h;have a:CB (BO n)=true:=DW ae (GJ af n);have b:rJ (BO n)=true:=by
  unfold rJ;exact w4 (Vt af n)
 exact⟨by unfold B0;rw[a,b];rfl,a,CO af h0⟩
theorem BY{a:AE}(h:Bd a=true):Dd a=true/\a.2.length<=9000:=by
 unfold Bd at h;rw[zd,w5]at h;exact h
theorem aY{s:Int}{w:List Int}(a:w≠[]):Sp.vI (s,w)=if s<0 then -Ao w else Ao w:=by unfold Sp.vI;exact wc a
theorem NM{a:AE}(h:Dd a=true):(a.2=[]/\Ae (Sp.vI a)<=9223372036854775808)\/(BO (Ae<|Sp.vI a)=a.2):=by
 obtain⟨e,b⟩:=EE h;obtain⟨s,w⟩:=a;have e: -9223372036854775808<=s/\s<9223372036854775808:=e;rcases b with b|⟨k,f,d⟩
 ·have b:w=[]:=b;subst b;refine .inl ⟨rfl,?_⟩;rw[EB];simp only[Ah];omega
 ·obtain⟨n1,j,g⟩:=Eo (l:=w) k;have f:s=1\/s= -1:=f;have d:9223372036854775808<=Ao w:=d;have c:w≠[]:=by rintro rfl;exact wh d af
  refine .inr ?_;have i:Ae (Sp.vI (s,w))=Ao w:=by rw[aY c];simp only[Ah];split<;>omega
  rw[i];exact(Ji af j g).symm
theorem AG(n:Int):0<=Ae n:=by simp only[Ah];omega
theorem Ik{a:AE}(h:Dd a=true){k:Nat}(c:a.2.length<=k)(g:1<=k):Ae (Sp.vI a)<(Am:Int)^k:=by
 rcases NM h with⟨_,d⟩|he
 ·have:=AJ (b:=Am) af g;rw[Int.pow_one]at this;have e:(9223372036854775808:Int)<(Am:Int):=af
  exact zz d<|Int.lt_of_lt_of_le e this
 ·have f:=CO (b:=Am) af<|AG<|Sp.vI a;have:=Bn (b:=Am) af (GJ (b:=Am) af<|Ae<|Sp.vI a);rw[f,show Sp.dg Am (Ae<|Sp.vI a)=a.2 from he]at this;exact Int.lt_of_lt_of_le this (AJ af c)
theorem K4{x y:Int}(d:0<=x)(i:x<(Am:Int)^9000)(g:y<(Am:Int)^9000):x+y<(Am:Int)^9001/\x*y<(Am:Int)^18000:=by
 have f:(Am:Int)^9001=(Am:Int)^9000*Am:=yx ..;have e:(Am:Int)^18000=(Am:Int)^9000*(Am:Int)^9000:=Int.pow_add _ 9000 9000;rw[f,e];generalize (Am:Int)^9000=P at*;refine⟨?_,?_⟩
 ·show x+y<P*18446744073709551616;omega
 ·have a:=zy (show y<=P-1 by omega) d;have b:=yh (show x<=P-1 by omega) (show 0<=P-1 by omega);have c:(P-1)*(P-1)=P*P-P-P+1:=by
   rw[Int.sub_mul,yt];omega
  omega
theorem Da(n:Bool)(v:Int):Sp.sg n v=if n=true then -v else v:=rfl
theorem Cc(n:Int):Sp.vI (CC n)=n:=by
 unfold CC;split
 ·exact EB
 ·have c:=CO (b:=Am) af<|AG n;have a:BO (Ae n)≠[]:=by
   intro h;rw[show Sp.dg Am (Ae n)=[]from h]at c;have:(0:Int)=Ae n:=c;simp only[Ah]at this;omega
  rw[aY a,show Ao (BO<|Ae n)=Ae n from c];simp only[Ah];split<;>split<;>omega
theorem WA{a:AE}{c:Bool}(h:(!decide (0<a.2.length))=c):(c=true->a.2=[])/\(c=false->a.2≠[]):=by
 subst h;rcases a with⟨s,w⟩
 cases w<;>simp
theorem Ns{a:AE}(h:(!decide (0<a.2.length))=true):a.2=[]:=(WA h).1 rfl
theorem Zd{a:AE}(h:(!decide (0<a.2.length))=false):a.2≠[]:=(WA h).2 rfl
theorem BF{a:AE}(h:a.2=[]):Sp.vI a=a.1:=by unfold Sp.vI;exact wd h
theorem words{a:AE}(h:Bd a=true):Dd a=true/\Sp.hW (BO<|Ae<|Sp.vI a)=true/\B0 (BO<|Ae<|Sp.vI a)=true/\CB (BO<|Ae<|Sp.vI a)=true/\Ao (BO<|Ae<|Sp.vI a)=Ae (Sp.vI a)/\Ae (Sp.vI a)<(Am:Int)^9000:=by
 obtain⟨c,e⟩:=BY h;have b:=Ik c e ae;obtain⟨n,d,v⟩:=CY (AG _) b ae;have f:=Lo (AG _) b;refine⟨c,?_,n,d,v,b⟩;unfold Sp.hW;rw[d,zr];exact w4 f
theorem Ad{a b:Bool}(d:a=true)(c:b=true):(a&&b)=true:=by rw[d,c];rfl
theorem wn{i:Nat}(h:i<9223372036854775807):zc .i64 ((i:Int)+1)=((i+1:Nat):Int):=by rw[wr _ ae ae];omega
theorem ad{p q:Prop}[Decidable p][Decidable q](a:p)(b:q):(decide p&&decide q)=true:=Ad (w4 a)<|w4 b
theorem nb{i n:Nat}(h:i<n):(decide ((0:Int)<=(i:Int))&&decide ((i:Int)<(n:Int)))=true:=ad ae ae
theorem JM(n:Int):SP n=if n<0 then -1 else if n>0 then 1 else 0:=rfl
theorem sX{a:AE}(h:Dd a=true):imax (-1) (CH 1 a.1)=SP (Sp.vI a):=by
 obtain⟨g,b⟩:=EE h;obtain⟨s,w⟩:=a;rcases b with b|⟨i,c,f⟩
 ·have b:w=[]:=b;subst b;rw[EB,JM,eZ];show imax (-1) (if (1:Int)<=s then 1 else s)=_;unfold imax;split<;>split<;>split<;>(try split)<;>omega
 ·have c:s=1\/s= -1:=c;have f:9223372036854775808<=Ao w:=f;have d:w≠[]:=by rintro rfl;exact wh f af
  rw[aY d,JM];rcases c with rfl|rfl
  ·have e:(if (1:Int)<0 then -Ao w else Ao w)=Ao w:=wc af;rw[e,wc (show ¬Ao w<0 by omega),wd<|show Ao w>0 by omega];show imax (-1) (CH 1 1)=1;decide
  ·have e:(if (-1:Int)<0 then -Ao w else Ao w)= -Ao w:=wd af;rw[e,wd<|show -Ao w<0 by omega];show imax (-1) (CH 1<| -1)= -1;decide
namespace T157
theorem ok[Srt]:Ag Bh 157 Tk:=by
 refine BX Rk<|fun(a:Int×List Int) b=>?_;have b:Dd a=true:=b;have f:B0 (BO<|Ae<|Sp.vI a)=true/\Ao (BO<|Ae<|Sp.vI a)=Ae (Sp.vI a):=by
  refine⟨?_,CO af<|AG _⟩;rcases NM b with⟨_,j⟩|he
  ·have:(9223372036854775808:Int)<(Am:Int)^1:=af
   exact(CY (AG _) (zz j this) ae).1
  ·obtain⟨_,e⟩:=EE b;rw[he];rcases e with e|⟨i,_⟩
   ·rw[e];decide+kernel
   ·exact i
 have g:Sp.sg (!decide (Sp.vI a<0)) (Ao<|BO<|Ae<|Sp.vI a)= -Sp.vI a:=by
  rw[f.2,Da,Ah];rcases zo (Sp.vI a) 0 with h|h
  ·rw[w4 h];simp;omega
  ·rw[w8 ae];simp;omega
 have k:=(EE b).1;refine Ends.eq (Al a)<|Ends.ite (fun c=>Ends.ite (fun d=>Ends.leaf<|Ac.of rfl rfl ?_)<|fun d=>Ends.tt b<|Ends.tt f.1<|Ends.leaf<|Ac.of rfl rfl ?_)<|fun c=>Ends.tt b<|Ends.tt f.1<|Ends.leaf<|Ac.of rfl rfl ?_
 ·have c:=Ns c;have d:a.1≠ -9223372036854775808:=by simpa using d
  show(zc .i64<|0-a.1,[])=CN a;unfold CN;rw[wd ⟨c,d⟩,wr _ ae ae,Int.zero_sub]
 ·have d:a.1= -9223372036854775808:=by simpa using d
  show CC (Sp.sg (!decide (Sp.vI a<0))<|Ao<|BO<|Ae<|Sp.vI a)=CN a;unfold CN;rw[wc<|fun h=>h.2 d,g]
 ·have c:=Zd c;show CC (Sp.sg (!decide (Sp.vI a<0))<|Ao<|BO<|Ae<|Sp.vI a)=CN a;unfold CN;rw[wc<|fun h=>c h.1,g]
end T157
namespace T102
theorem ok[Srt]:Ag Bh 102 M5:=by
 refine BX Rk<|fun(i:(Int×List Int)×(Int×List Int)) o=>?_;obtain⟨a,b⟩:=i;have o:(Bd a&&Bd b)=true:=o;rw[zd]at o;obtain⟨a1,a2,a3,a4,a5,a6⟩:=words o.1;obtain⟨b1,b2,b3,b4,b5,b6⟩:=words o.2;have y:=(EE a1).1;have x:=(EE b1).1;have z:=AG<|Sp.vI a;have nb:=AG<|Sp.vI b;obtain⟨t1,_⟩:=K4 z a6 b6;have t:∀v ob,D1 a b=CC v->Ac M5 (a,b) (.agg [.dat i64<|Cy v,.dat (.nlist<|.int .u64)<|Cv v]) ob:=fun v ob h=>Ac.of rfl rfl (by
  show CC v=D1 a b;rw[h])
 have mono:(Am:Int)^9000<=(Am:Int)^9001:=AJ af ae;have k:decide (Sp.vI a<0)=decide (Sp.vI b<0)->Sp.sg (decide (Sp.vI a<0)) (Ao<|BO<|Ao (BO<|Ae<|Sp.vI a)+Ao (BO<|Ae<|Sp.vI b))=Sp.vI a+Sp.vI b:=by
  intro e;rw[a5,b5,show Ao (BO<|Ae (Sp.vI a)+Ae (Sp.vI b))=_ from CO af ae,Da,Ah,Ah];rcases zo (Sp.vI a) 0 with h|h
  ·rw[w4 h]at e ⊢;have:=w6 e.symm;simp only[wm];omega
  ·rw[w8 ae]at e ⊢;have:=w7 e.symm;simp only[yn,vf];omega
 have j:decide (Sp.vI a<0)≠decide (Sp.vI b<0)->Ae (Sp.vI b)<=Ae (Sp.vI a)->Sp.sg (decide (Sp.vI a<0)) (Ao<|BO<|Ao (BO<|Ae<|Sp.vI a)-Ao (BO<|Ae<|Sp.vI b))=Sp.vI a+Sp.vI b:=by
  intro e q;rw[a5,b5,show Ao (BO<|Ae (Sp.vI a)-Ae (Sp.vI b))=_ from CO af ae,Da,Ah,Ah];rcases zo (Sp.vI a) 0 with h|h
  ·rw[w4 h]at e ⊢;have:¬Sp.vI b<0:=fun h=>e (w4 h).symm
   simp only[wm];omega
  ·rw[w8 ae]at e ⊢;have:Sp.vI b<0:=by
    rcases zo (Sp.vI b) 0 with h|h
    ·exact h
    ·exact wh (w8 ae).symm e
   simp only[yn,vf];omega
 have l:decide (Sp.vI a<0)≠decide (Sp.vI b<0)->Ae (Sp.vI a)<=Ae (Sp.vI b)->Sp.sg (decide (Sp.vI b<0)) (Ao<|BO<|Ao (BO<|Ae<|Sp.vI b)-Ao (BO<|Ae<|Sp.vI a))=Sp.vI a+Sp.vI b:=by
  intro e q;rw[a5,b5,show Ao (BO<|Ae (Sp.vI b)-Ae (Sp.vI a))=_ from CO af ae,Da,Ah,Ah];rcases zo (Sp.vI b) 0 with h|h
  ·rw[w4 h]at e ⊢;have:¬Sp.vI a<0:=fun h=>e<|w4 h
   simp only[wm];omega
  ·rw[w8<|show ¬Sp.vI b<0 by omega]at e ⊢;have:Sp.vI a<0:=by
    rcases zo (Sp.vI a) 0 with h|h
    ·exact h
    ·exact wh (w8 ae) e
   simp only[yn,vf];omega
 have n1:B0 (BO<|Ao (BO<|Ae<|Sp.vI a)+Ao (BO<|Ae<|Sp.vI b))=true:=by
  rw[a5,b5];exact(CY ae t1 ae).1
 have C:Ae (Sp.vI b)<=Ae (Sp.vI a)->B0 (BO<|Ao (BO<|Ae<|Sp.vI a)-Ao (BO<|Ae<|Sp.vI b))=true:=by
  intro h;rw[a5,b5];exact(CY ae (zz ae a6) ae).1
 have w:Ae (Sp.vI a)<=Ae (Sp.vI b)->B0 (BO<|Ao (BO<|Ae<|Sp.vI b)-Ao (BO<|Ae<|Sp.vI a))=true:=by
  intro h;rw[a5,b5];exact(CY ae (zz ae b6) ae).1
 have f:∀ {c:Bool},decide (B3 (Ao<|BO<|Ae<|Sp.vI a) (Ao<|BO<|Ae<|Sp.vI b)>=0)=c->(c=true->Ae (Sp.vI b)<=Ae (Sp.vI a))/\(c=false->Ae (Sp.vI a)<=Ae (Sp.vI b)):=by
  intro c h;subst h;rw[a5,b5,w5,w9];unfold B3;constructor
  ·intro h;split at h<;>omega
  ·intro h;split at h
   ·omega
   ·split at h<;>omega
 refine Ends.eq (Al a b)<|Ends.ite (fun m=>Ends.ite (fun n=>Ends.ite (fun g=>Ends.leaf<|Ac.of rfl rfl ?_)<|fun g=>?_)<|fun n=>?_)<|fun m=>?_
 ·have m:=Ns m;have n:=Ns n;have p:zc .i64 (a.1+b.1)=a.1+b.1:=by
   rw[wk]at g;rcases zo (a.1+b.1) (-9223372036854775808)with h|h
   ·exfalso;have e:zc .i64 (a.1+b.1)=a.1+b.1+18446744073709551616:=by rw[yq];omega
    rw[e,w4 ae,w8 ae]at g;cases g
   ·rcases zo (a.1+b.1) 9223372036854775808 with r|r
    ·exact wr _ ae ae
    ·exfalso;have e:zc .i64 (a.1+b.1)=a.1+b.1-18446744073709551616:=by rw[yq];omega
     rw[e,w8 ae,w4 ae]at g;cases g
  have A:B5 (a.1+b.1)=true:=by
   have: -9223372036854775808<=zc .i64 (a.1+b.1)/\zc .i64 (a.1+b.1)<9223372036854775808:=by rw[yq];omega
   rw[p]at this;unfold B5;rw[zd,w5,w5];exact this
  show(zc .i64<|a.1+b.1,[])=D1 a b;unfold D1;rw[wd ⟨m,n,A⟩,p]
 all_goals
  have s:D1 a b=CC (Sp.vI a+Sp.vI b):=by
   unfold D1;refine wc<|fun h=>?_;obtain⟨D,r,u⟩:=h;first
    |exact Zd m D
    |exact Zd n r
    |(have u:=EP u
      have p:zc .i64 (a.1+b.1)=a.1+b.1:=wr _ ae ae;rw[p,beq_eq_false_iff_ne]at g;refine g ?_;rcases zo 0 b.1 with h|h
      ·rw[w4 (show a.1+b.1>a.1 by omega),w4 h]
      ·rw[w8 (show ¬a.1+b.1>a.1 by omega),w8<|show ¬b.1>0 by omega])
  refine Ends.tt a1<|Ends.tt b1<|Ends.ite (fun e=>Ends.tt (Ad a2 b2)<|Ends.tt n1<|Ends.leaf<|t _ _ ?_)<|fun e=>Ends.tt (Ad a3 b3)<|Ends.ite (fun d=>Ends.tt ?_<|Ends.tt (C<|(f d).1 rfl)<|Ends.leaf<|t _ _ ?_)<|fun d=>Ends.tt ?_<|Ends.tt (w<|(f d).2 rfl)<|Ends.leaf<|t _ _ ?_
  ·rw[s];exact wi _ (k<|by simpa using e).symm
  ·refine Ad (Ad a4 b4)<|w4 ?_;rw[a5,b5];exact(f d).1 rfl
  ·rw[s];exact wi _ (j (by simpa using e)<|(f d).1 rfl).symm
  ·refine Ad (Ad b4 a4)<|w4 ?_;rw[a5,b5];exact(f d).2 rfl
  ·rw[s];exact wi _ (l (by simpa using e)<|(f d).2 rfl).symm
end T102
end Go.Pe
