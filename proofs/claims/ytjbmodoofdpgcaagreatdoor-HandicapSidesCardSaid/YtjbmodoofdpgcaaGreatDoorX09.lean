import Derived.Test.YtjbmodoofdpgcaaGreatDoorX08
import Derived.Lib.Mul64
/- A part of a proof; no law is stated here. -/
noncomputable section
open Go.IntKind renaming wrap -> zc, u64 -> ze, i64 -> yb, wrap_i64 -> yq
open Bool renaming and_eq_true -> zd, true_and -> zr, false_eq_true -> yn
open List renaming replicate -> zf, getD_eq_getElem?_getD -> zg, take_of_length_le -> zk, getElem?_eq_getElem -> zm, mem_singleton -> zn, drop_eq_getElem_cons -> zt, take_length -> yc, getElem?_eq_none -> yg, append_assoc -> yo, drop_eq_nil_of_le -> yr, all_cons -> yu
open Int renaming toNat_natCast -> zh, eq_ofNat_of_zero_le -> zj, lt_or_le -> zo, fdiv -> zq, mul_add -> zy, mul_le_mul_of_nonneg_left -> zz, lt_of_le_of_lt -> z6, mul_le_mul_of_nonneg_right -> yh, natCast_add -> yj, mul_assoc -> yp, mul_sub -> yt, add_assoc -> yv, pow_succ -> yx
open Go.Pe.Sh renaming int -> zi, list -> zl
open Go.Sp renaming val -> zp
open Nat renaming beq -> zu, le_refl -> zx, eq_of_beq_eq_true -> z8, le_trans -> yk, lt_or_ge -> yw, add -> yy
open Go.Pe.PV renaming cells -> zw, agg -> yd
open Go.Pe.Ev renaming Ay -> z7
open Option.some renaming injEq -> ye
open BitVec renaming ofInt -> yf
open List.cons renaming injEq -> yi
open Go.Lib renaming half_mul_le -> ym
variable {Q:Go.Pe.PV->Go.Pe.Ob->Prop}
namespace Go.Pe
open Go.Det
section
variable {B:Nat}{h0:H0}{X:AX}{F:Fz}{ρ:DZ}{N:Nat}{st st':AG}{fr:Fr}{h:H}
theorem KV:∀ {ps:List PV} {i t:Nat} {p:PV},(t,p)∈ET ps i->∃k,t=i+k/\ps[k]?=some p
 |[],i,t,p,h=>by cases h
 |q::ps,i,t,p,h=>by
  rcases List.mem_cons.1 h with h|h
  ·simp_all
  ·obtain⟨k,b,a⟩:=KV h;exact⟨k+1,by grind,by grind⟩
theorem rG{ps:List PV}{vs:List V}(b:BD F ρ N ps vs)(n:Nat)(ob:Ob)(nx:Nat)(_hnx:nx=N):FP F ρ N (AE (yy ps.length<|Nat.sub n ps.length) (ET ps 0) ob nx) (JV n vs):=by
 refine⟨by show ps.length+(n-ps.length)=vs.length+(n-vs.length);rw[b.len],fun t=>?_⟩;show PR F ρ N (((ED<|ET ps 0).get t).getD .any) _;cases c:(ED<|ET ps 0).get t with
 |none=>grind [PR]
 |some p=>
  rcases Gc _ .leaf t p c with h1|h1
  ·obtain⟨k,g,f⟩:=KV h1;obtain rfl:t=k:=ae
   obtain⟨v,a,d⟩:=b.get f;have e:=(List.getElem?_eq_some_iff.1 a).1;unfold JV Fr.get;rw[LK,wd ae,Nat.sub_zero,a];exact d
  simp_all
theorem iP{T:BX}{st s:AG}{t:TypeId}{a p:PV}(h:(M0 T st t a).To p s):s=st:=by
 unfold M0 at h;split at h
 case h_2=>simp_all
 split at h
 case h_4=>simp_all
 ·split at h
  case h_4=>simp_all
  case h_3=>simp_all
  ·simp_all
  ·rename_i b l _;cases c:(zu _ 0&&zu b.sz 1)with
   |false=>rw[c]at h;simp_all
   |true=>simp_all
 ·split at h
  case h_2=>simp_all
  rename_i sz j off _ _ _ b l _;cases c:(zu sz b.sz)with
  |false=>simp_all
  |true=>simp_all
 simp_all
theorem PQ{Q:PV->Ob->Prop}{n:Nat}{t:Tr}:∀ {cs:List Bool},Ev X Q n (Rv cs t)->(∀c∈cs,c=true)/\Ev X Q n t
 |[],h=>⟨(by simp),h⟩
 |c::cs,h=>by
  rcases h.EB with⟨b,a⟩|⟨_,a⟩
  ·obtain⟨d,e⟩:=PQ a;grind
  grind [z7]
theorem Uy:∀ {k:List ResultVar} {ps:List PV} {F:Fz} {ρ:DZ},Rel B h0 F ρ st fr h->dN X.C.T st k=some ps->(∀c∈MK X.C.T st k,c=true)->
  ∃vs F' ρ',N6 X.C fr h k=some vs/\BD F' ρ' st.nx ps vs/\Rel B h0 F' ρ' st fr h/\Le F ρ st.nx F' ρ' st.nx
 |[],ps,F,ρ,f,g,_=>by cases g;exact⟨[],F,ρ,rfl,by simp,f,Le.refl⟩
 |r::k,ps,F,ρ,f,g,e=>by
  unfold dN at g;split at g
  case h_2=>cases g
  rename_i p o i y;cases g;have key:∃v F1 d,XB X.C fr h r=some v/\PR F1 d st.nx p v/\Rel B h0 F1 d st fr h/\Le F ρ st.nx F1 d st.nx:=by
   cases r with
   |tmp t=>
    simp only[kV,ye]at i;subst i;exact⟨_,F,ρ,rfl,f.fp.slot t,f,Le.refl⟩
   |cell a t=>
    have j:∃s,(M0 X.C.T st t<|st.get a).To p s:=by
     simp only[kV]at i;split at i
     case h_3=>cases i
     ·simp_all
     ·rename_i c u s x;cases i;refine⟨s,?_⟩;have:=e c (by grind [MK]);rw[x,this];show(PO.IW true p s).To p s;simp
    obtain⟨s,j⟩:=j;have D:s=st:=iP j;subst D;obtain⟨v',h',F',ρ',b,g2,g3,g4,g5,g6,g7,g8⟩:=bN (C:=X.C) f.sr (f.fp.slot a) j;cases l:EH X.C.T h t (fr.get a)with
    |none=>rw[l]at b;rcases b with b|⟨b,_⟩<;>cases b
    |some w=>
     rw[l]at b;rcases b with b|⟨b,_⟩
     ·simp only[Bx,ye,OR.val.injEq]at b;obtain⟨rfl,rfl⟩:=b;exact⟨w,F',ρ',l,g2,⟨f.fp.mono g4,g3⟩,g4⟩
     ·cases b
  obtain⟨v,F1,d,q,m,n,A⟩:=key;obtain⟨vs,F2,ρ2,k5,k6,k7,k8⟩:=Uy n y (fun c z=>e c (by
   cases r with
   |tmp t=>exact z
   |cell a t=>
    grind [MK]))
  exact⟨v::vs,F2,ρ2,by simp[N6,q,k5],by simp only[BB];exact⟨m.mono k8,k6⟩,k7,A.trans k8⟩
theorem Jc{nd:Bool}{d:Nat}(y:∀h0,EY B h0 X nd<|B8 X nd d)(s:∀h0,EY B h0 X false<|B8 X false d)(hmg:X.C.mg=false){g:FuncId}(hsp:X.C.spec g=none)(hprim:X.C.prim g=none)(hno:X.sp g=none){Q:PV->Ob->Prop}{n:Nat}{args:List PV}{k:PV->AG->Tr}{args':List V}
  (K:Ev X Q n (enter X (B8 X nd d) (B8 X false d) nd d g args st k)) (D:Rel B h0 F ρ st fr h) (ha:BD F ρ st.nx args args'):
  (X.C.prim g=none/\∃i,X.C.fn g=some i)/\∃l M,(∀m,M<=m->A5 X.C m (.fn g args') h=some l)/\(nd=false->∃x,l=[x])/\
   ∀x∈l,∃n',n'<=n/\∃r st',Ev X Q n' (k r st')/\∃F' ρ',PR F' ρ' st'.nx r x.1/\C5 B h0 F ρ st.nx h st' fr x.2 F' ρ'/\(∀sp,X.sp g=some sp->∀b,b<h.nx->x.2.get b=h.get b):=by
 unfold enter at K;split at K
 case h_1=>grind [z7]
 rename_i i hi;cases hc:i.cert with
 |false=>grind [z7]
 |true=>
  rw[hc]at K;simp only[we]at K;have hr0:Rel B h0 F ρ (AE (yy args.length<|Nat.sub i.ntmps args.length) (ET args 0) st.ob st.nx) (JV i.ntmps args') h:=⟨rG ha i.ntmps st.ob st.nx rfl,D.sr⟩;obtain⟨l,M,hM,E,I⟩:=NT (ro:=false) (rv:=none) (ct:=true) (by simp) y s n i.body (st:=AE (yy args.length<|Nat.sub i.ntmps args.length) (ET args 0) st.ob st.nx) [] (zx st.nx) hr0 K;have fin:∀x∈l,∃(r:List (V×H)) (M:Nat),(∀m:Nat,M<=m->∀q:Nat,M<=q->(match x.e with
      | .exit _=>none
      |_=>match FF x.ds x.h with
       |some c=>match Oo X.C x.fr c i.results.toList with
        |some v=>some [(v,c)]
        |none=>none
       |none=>none)=some r)/\(nd=false->∃x,r=[x])/\∀x∈r,∃n',n'<=n/\∃r st',Ev X Q n' (k r st')/\∃F' ρ',PR F' ρ' st'.nx r x.1/\C5 B h0 F ρ st.nx h st' fr x.2 F' ρ'/\(∀sp,X.sp g=some sp->∀b,b<h.nx->x.2.get b=h.get b):=by
   intro x hx;obtain⟨ps,⟨hds,o,U⟩,n1,hn1,a,J,F1,ρ1,w,hb1,G,hx1'⟩:=I x hx;obtain⟨e,fr1,hx0,ds1⟩:=x;obtain⟨c,hlv,hsr1,hnx1,_⟩:=SR.leave o (fun b Z hp=>by
    have k1:=U b Z;have W:=D.sr.lt b _ (D.sr.pn b hp).1;omega) w.sr
   have hr1:Rel B h0 F1 ρ1 a fr1 c:=⟨w.fp,hsr1⟩;have hx1:h.nx<=c.nx:=ae
   have go:(∀j,e≠ .exit j)->Ev X Q n1 (match dN X.C.T a i.results.toList with|some vs=>Rv (MK X.C.T a i.results.toList) (k (Go.Pe.one vs) ⟨st.n,st.fr,a.ob,a.nx⟩)|none=>.fail)->
     ∃v',Oo X.C fr1 c i.results.toList=some v'/\∃n',n'<=n/\∃r st',Ev X Q n' (k r st')/\∃F' ρ',PR F' ρ' st'.nx r v'/\C5 B h0 F ρ st.nx h st' fr c F' ρ'/\(∀sp,X.sp g=some sp->∀b,b<h.nx->c.get b=h.get b):=by
    intro hne u;split at u
    case h_2=>grind [z7]
    rename_i ps hps;obtain⟨A,u⟩:=PQ u;obtain⟨vs,F2,ρ2,k1,W,k3,k4⟩:=Uy hr1 hps A;have O:Le F ρ st.nx F2 ρ2 a.nx:=⟨fun b cs Z=>k4.fz _ _<|G.fz _ _ Z,fun id Y=>by
     rcases k4.rho id ae with e|e
     ·rw[e];exact G.rho id Y
     grind,hb1⟩
    have L:∃R,Oo X.C fr1 c i.results.toList=some R/\PR F2 ρ2 a.nx (Go.Pe.one ps) R:=by
     unfold Oo;rw[k1];cases ps with
     |nil=>subst W;exact⟨_,rfl,by simp[Go.Pe.one,PR]⟩
     |cons p ps=>
      obtain⟨v1,vs1,rfl,g1,S⟩:=W;cases ps with
      |nil=>subst S;exact⟨_,rfl,g1⟩
      |cons q qs=>
       obtain⟨v2,vs2,rfl,_,_⟩:=S;refine⟨_,rfl,?_⟩;show PR F2 ρ2 a.nx (.tup (p::q::qs)) _;simp_all [PR]
    obtain⟨R,q1,q2⟩:=L;exact⟨R,q1,n1,hn1,_,_,u,F2,ρ2,q2,⟨⟨⟨D.fp.n,fun t=>(D.fp.slot t).mono O⟩,k3.sr⟩,O,hx1⟩,ah⟩
   cases e with
   |normal=>
    obtain⟨v',q1,q2⟩:=go (by simp) J;exact⟨[(v',c)],0,ah,(by simp),ah⟩
   |ret=>
    obtain⟨v',q1,q2⟩:=go (by simp) J;exact⟨[(v',c)],0,ah,(by simp),ah⟩
   |exit j=>grind [z7]
  obtain⟨r,M2,g1,S,g3⟩:=I5 (f:=fun _ _ (x:Det.X)=>match x.e with
      | .exit _=>none
      |_=>match FF x.ds x.h with
       |some c=>match Oo X.C x.fr c i.results.toList with
        |some v=>some [(v,c)]
        |none=>none
       |none=>none) (P:=fun x=>∃n',n'<=n/\∃r st',Ev X Q n' (k r st')/\∃F' ρ',PR F' ρ' st'.nx r x.1/\C5 B h0 F ρ st.nx h st' fr x.2 F' ρ'/\(∀sp,X.sp g=some sp->∀b,b<h.nx->x.2.get b=h.get b)) E fin
  refine⟨ah,r,max M M2+1,fun m hm=>?_,S,g3⟩;obtain⟨z,rfl⟩:∃z,m=z+1:=⟨m-1,by omega⟩;have hg:=g1 z ae z ae;have:A5 X.C (z+1) (.fn g args') h=(match Bj X.C (A5 X.C z) none i.cert z i.body (JV i.ntmps args') h []with
    |none=>none
    |some l=>match (bl l fun x=>match x.e with
     | .exit _=>none
     |_=>match FF x.ds x.h with
      |some c=>match Oo X.C x.fr c i.results.toList with
       |some v=>some [(v,c)]
       |none=>none
      |none=>none)with
     |some r=>some<|bif X.C.mg then Mu h.nx r else r
     |none=>none):=by
   rw[A5];simp only[hsp,hi];rfl
  grind
theorem Mv{nd:Bool}{d:Nat}(w:∀h0,EY B h0 X nd<|B8 X nd d)(j:∀h0,EY B h0 X false<|B8 X false d){id:Nat}{Q:PV->Ob->Prop}{n:Nat}{args:List PV}{k:PV->AG->Tr}{args':List V}
  (he:Ev X Q n (VN X (B8 X nd d) (B8 X false d) nd d id args st k)) (hr:Rel B h0 F ρ st fr h) (ha:BD F ρ st.nx args args'):
  ∃c,Abj X ρ h args' (.rnd id) c/\∃l M,(∀m,M<=m->A5 X.C m c h=some l)/\(nd=false->∃x,l=[x])/\
   ∀x∈l,∃n',n'<=n/\∃r st',Ev X Q n' (k r st')/\∃F' ρ',PR F' ρ' st'.nx r x.1/\C5 B h0 F ρ st.nx h st' fr x.2 F' ρ':=by
 unfold VN at he;split at he
 case h_2=>grind [z7]
 rename_i f r ps asg b n0 sl hob;obtain⟨A,m0,y,k1,k2,⟨ls,rfl,rfl,rfl,rfl,⟨l1,l2⟩,rfl,l4⟩,-⟩:=hr.sr.at hob;cases hsz:zu args.length ls.ps.size with
 |false=>grind [z7]
 |true=>
 rw[hsz]at he;simp only[we]at he;have hlen:args'.length=ls.ps.size:=by rw[<-ha.len];simp_all
 have hid:id<st.nx:=(hr.sr.own _ _ _ k1).1;have hr0:Rel B h0 F ρ (MJ ls.ps.toList args<|AE ls.fr.n sl st.ob st.nx) (GP ls.ps.toList args' ls.fr) h:=by
  have O:Rel B h0 F ρ (AE ls.fr.n sl st.ob st.nx) ls.fr h:=⟨⟨rfl,fun t=>l4 t⟩,hr.sr⟩;have go:∀(ts:List Tmp) (g:List PV) (G:List V) (s:AG) (f:Fr),s.nx=st.nx->BD F ρ st.nx g G->Rel B h0 F ρ s f h->Rel B h0 F ρ (MJ ts g s) (GP ts G f) h:=by
   intro ts;induction ts with
   |nil=>intro g G s f _ _ hs;cases g<;>exact hs
   |cons t ts ih=>
    intro g G s f hn hp hs;cases g with
    |nil=>simp only[DH]at hp;subst hp;exact hs
    |cons a g=>
     simp only[BD]at hp;obtain⟨v,vs,rfl,p1,p2⟩:=hp;simp only[MJ,GP];refine ih g vs _ _ ?_ p2 ?_
     ·cases Nat.blt t s.n<;>exact hn
     ·unfold Fr.Zm;rw[show s.n=f.n from hs.fp.n];cases Nat.blt t f.n with
      |false=>exact hs
      |true=>exact hs.set ah
  exact go _ _ _ _ _ rfl ha O
 have hnx0:st.nx<=(MJ ls.ps.toList args<|AE ls.fr.n sl st.ob st.nx).nx:=by
  have go:∀(ts:List Tmp) (g:List PV) (s:AG),(MJ ts g s).nx=s.nx:=by
   intro ts;induction ts with
   |nil=>intro g s;rfl
   |cons t ts ih=>
    intro g s;cases g with
    |nil=>rfl
    |cons a g=>simp only[MJ];rw[ih];cases Nat.blt t s.n<;>rfl
  rw[go];exact zx _
 obtain⟨L,M1,hM1,Z,S⟩:=NT (ro:=true) (rv:=some A) (ct:=false) (by simp) w j n ls.asg [] hnx0 hr0 he;refine⟨_,⟨A,m0,ls,k1,k2,hlen,rfl⟩,?_⟩;have fin:∀x∈L,∃(r:List (V×H)) (M:Nat),(∀m:Nat,M<=m->∀q:Nat,M<=q->(match x.e,x.h.get A with
   | .normal,some (.loop l1)=>match l1.st with
    | .ready=>match Bj X.C (A5 X.C m) (some A) false q ls.body x.fr (x.h.put A<|.loop { l1 with st:=.busy }) x.ds with
     |some l2=>bl l2 fun y=>match y.h.get A with
      |some (.loop l3)=>match y.e with
       | .normal=>some [(V.bool true,y.h.put A<|.loop { l3 with st:=.ready,pend:=none })]
       | .ret=>some [(V.bool false,y.h.put A<|.loop { l3 with st:=.done,pend:=some .ret })]
       | .exit i=>some [(V.bool false,y.h.put A<|.loop { l3 with st:=.done,pend:=some (.exit i) })]
      |_=>none
     |none=>none
    |_=>none
   |_,_=>none)=some r)/\(nd=false->∃x,r=[x])/\∀x∈r,∃n',n'<=n/\∃r st',Ev X Q n' (k r st')/\∃F' ρ',PR F' ρ' st'.nx r x.1/\C5 B h0 F ρ st.nx h st' fr x.2 F' ρ':=by
  intro x hx;obtain⟨ps1,_,n1,hn1,s,E,F1,ρ1,D,hb1,hl1,hx1⟩:=S x hx;obtain⟨e,fr1,h1,ds1⟩:=x;simp only at E D hx1 ⊢;cases e with
  |exit i=>grind [z7]
  |ret=>grind [z7]
  |normal=>
  simp only at E;split at E
  case h_2=>grind [z7]
  rename_i f' r' ps' asg' b' n' Y K;have hs1:SR B h0 F1 ρ1 s.nx s.ob h1:=D.sr.eG;obtain⟨I,m1,y1,q1,q2,⟨o,rfl,rfl,rfl,rfl,⟨la1,la2⟩,rfl,la4⟩,-⟩:=hs1.at K;obtain⟨rfl,rfl⟩:I=A/\m1=m0:=by
   have:=hl1.at hid q1;grind
  have hr2:Rel B h0 F1 ρ1 (s.setObj id<|.lp f' r' o.ps o.asg o.body .busy o.fr.n Y) fr1 (h1.put I<|.loop { o with st:=.busy }):=
   ⟨⟨D.fp.n,fun t=>D.fp.slot t⟩,hs1.set K q1 q2 rfl rfl (o':=.lp f' r' o.ps o.asg o.body .busy o.fr.n Y) ⟨_,rfl,rfl,rfl,rfl,rfl,rfl,la4⟩⟩
  obtain⟨L2,M2,hM2,W,T⟩:=NT (ro:=true) (rv:=some I) (ct:=false) (by simp) w j n1 ls.body ds1 (show st.nx<=(s.setObj id<|.lp f' r' o.ps o.asg o.body .busy o.fr.n Y).nx from hb1) hr2 E;have fin2:∀y∈L2,∃(r:List (V×H)) (M:Nat),(∀m:Nat,M<=m->∀q:Nat,M<=q->(match y.h.get I with
    |some (.loop l3)=>match y.e with
     | .normal=>some [(V.bool true,y.h.put I<|.loop { l3 with st:=.ready,pend:=none })]
     | .ret=>some [(V.bool false,y.h.put I<|.loop { l3 with st:=.done,pend:=some .ret })]
     | .exit i=>some [(V.bool false,y.h.put I<|.loop { l3 with st:=.done,pend:=some (.exit i) })]
    |_=>none)=some r)/\(nd=false->∃x,r=[x])/\∀x∈r,∃n',n'<=n/\∃r st',Ev X Q n' (k r st')/\∃F' ρ',PR F' ρ' st'.nx r x.1/\C5 B h0 F ρ st.nx h st' fr x.2 F' ρ':=by
   intro y hy;obtain⟨ps2,_,n2,hn2,s2,u,F2,P,hr3,hb2,hl2,hx2⟩:=T y hy;obtain⟨e2,fr2,h2,ds2⟩:=y;simp only at u hr3 hx2 ⊢;split at u
   case h_2=>grind [z7]
   rename_i f2 r2 pp2 aa2 bb2 ss2 nn2 sl2 J;have hs3:SR B h0 F2 P s2.nx s2.ob h2:=hr3.sr.eG;obtain⟨c2,m2,y2,w1,w2,⟨p,rfl,rfl,rfl,rfl,_,rfl,lb4⟩,-⟩:=hs3.at J;have U:Le F ρ st.nx F2 P s2.nx:=by
    have h:=hl1.trans hl2;exact⟨h.fz,h.rho,hb2⟩
   obtain⟨rfl,rfl⟩:c2=I/\m2=m1:=by
    have:=U.at hid w1;grind
   have hnx:h.nx<=h2.nx:=yk hx1 hx2;have done:∀(sb:LpS) (R:LoopState) (pe:Option Code) (rb:Bool),LpR sb R pe->Ev X Q n2 (k (.bl rb) ⟨st.n,st.fr,(s2.setObj id<|.lp f2 r2 p.ps p.asg p.body sb p.fr.n sl2).ob,s2.nx⟩)->
     ∃n',n'<=n/\∃r st',Ev X Q n' (k r st')/\∃F' ρ',PR F' ρ' st'.nx r (V.bool rb)/\C5 B h0 F ρ st.nx h st' fr (h2.put c2<|.loop { p with st:=R,pend:=pe }) F' ρ':=by
    intro sb R pe rb hlr he3;refine⟨n2,ae,_,_,he3,F2,P,lO _,⟨⟨⟨hr.fp.n,fun t=>(hr.fp.slot t).mono U⟩,?_⟩,U,hnx⟩⟩;exact hs3.set J w1 w2 rfl rfl (o':=.lp f2 r2 p.ps p.asg p.body sb p.fr.n sl2) ⟨_,rfl,rfl,rfl,rfl,hlr,rfl,lb4⟩
   cases e2 with
   |normal=>exact⟨[(.bool true,h2.put c2<|.loop { p with st:=.ready,pend:=none })],0,ah,(by simp),fun z hz=>by cases zn.1 hz;exact done .ready _ _ true ⟨rfl,rfl⟩ u⟩
   |ret=>exact⟨[(.bool false,h2.put c2<|.loop { p with st:=.done,pend:=some .ret })],0,ah,(by simp),fun z hz=>by cases zn.1 hz;exact done .ret _ _ false ⟨rfl,rfl⟩ u⟩
   |exit i=>exact⟨[(.bool false,h2.put c2<|.loop { p with st:=.done,pend:=some (.exit i) })],0,ah,(by simp),fun z hz=>by cases zn.1 hz;exact done (.exit i) _ _ false ⟨rfl,rfl⟩ u⟩
  obtain⟨r,M3,j1,j2,j3⟩:=I5 W fin2;refine⟨r,max M2 M3,fun m hm q hq=>?_,j2,j3⟩;have a1:=hM2 m ae q ae;simp only at a1;have a2:=j1 m ae q ae;simp only[q2,la1];rw[a1];exact a2
 obtain⟨r,M4,j1,j2,j3⟩:=I5 Z fin;refine⟨r,max M1 M4+1,fun m hm=>?_,j2,j3⟩;obtain⟨m',rfl⟩:∃m',m=m'+1:=⟨m-1,by omega⟩;have a1:=hM1 m' ae m' ae;simp only at a1;have a2:=j1 m' ae m' ae;rw[A5];simp only[Q9];rw[a1];exact a2
end
section
variable {B:Nat}{h0:H0}{X:AX}{F F1 F':Fz}{ρ:DZ}{N:Nat}{st st':AG}{fr:Fr}{h h':H}
theorem Z0{p:PV}{v:V}(a:PR F ρ N p v):∃w,BD F ρ N p.cells w/\(M9 p=true->v=.agg w)/\(M9 p=false->w=[v]):=by
 cases p with
 |agg l=>obtain⟨cs,rfl,b⟩:=a;exact⟨cs,b,fun _=>rfl,fun e=>by cases e⟩
 |_=>exact⟨[v],by simp only[zw,BB,DH,ve];exact a,fun e=>(by cases e),fun _=>rfl⟩
theorem Qs{st:AG}{s:Sh}{p:PV}{x:s.T}{v:V}{w:List V}(a:GL st s p=some (true,x))(n:M9 p=true->v=.agg w)(k:M9 p=false->w=[v])(g:∀f,Ds st p.cells=some (true,f)->Kj F f w):PC F (BU s x) v:=by
 unfold GL at a;cases i:(M9 p==s.Nf)with
 |false=>grind
 |true=>
  rw[i]at a;simp only[we]at a;split at a
  case h_2=>cases a
  rename_i c cs e;split at a
  case h_2=>cases a
  rename_i y j;simp only[ye,Prod.mk.injEq,zd]at a;obtain⟨⟨b,rfl⟩,rfl⟩:=a;have d:=Kj.dc (fun ρ N=>QC (g cs e ρ N) b) j;have l:=PC.BU d;cases m:s.Nf with
  |true=>grind
  |false=>grind
theorem handed:∀ {ps:List PV} {vs:List V} {st:AG} {F:Fz},SR B h0 F ρ st.nx st.ob h->BD F ρ st.nx ps vs->
  ∃F1,SR B h0 F1 ρ (Bk (ps.flatMap zw) st).nx (Bk (ps.flatMap zw) st).ob h/\(∀b cs,F b=some cs->F1 b=some cs)/\∀l i,CV st l ps=some (true,i)->Kj F1 (Ae l i) vs
 |[],vs,st,F,f,m=>⟨F,f,fun _ _ h=>h,fun l i e=>by
  have g:vs=[]:=by simp_all
  subst g;match l,i,e with
  |[],_,_=>intro ρ' N';rfl
  |[a],_,e=>cases e
  |a::b::l,_,e=>cases e⟩
 |p::ps,vs,st,F,f,m=>by
  obtain⟨v,vs,rfl,r,s⟩:=m;obtain⟨w,c1,c2,c3⟩:=Z0 r;obtain⟨F1,g1,g2,g3⟩:=Ib f c1;have j:BD F1 ρ (Bk p.cells st).nx ps vs:=by rw[(Dl p.cells st).1];exact s.mono<|Le.Zr g2
  obtain⟨n,o,k,t⟩:=handed g1 j;rw[List.flatMap_cons,IS];refine⟨n,o,ah,fun l i e=>?_⟩;match l,i,e with
  |[],_,e=>cases e
  |[a],i,e=>
   cases ps with
   |cons q u=>cases e
   |nil=>
    have g:vs=[]:=by simp_all
    subst g;have:=(Qs (st:=st) (F:=F1) (by simpa [CV]using e) c2 c3 g3).mono k;intro ρ' N';simp only[Ae,BB,DH,ve];exact this ρ' N'
  |a::b::l,i,e=>
   unfold CV at e;split at e
   case h_2=>cases e
   rename_i c x d y e1 e2;simp only[ye,Prod.mk.injEq,zd]at e;obtain⟨⟨rfl,rfl⟩,rfl⟩:=e;exact Kj.cons ((Qs e1 c2 c3 g3).mono k) (by grind [LH,MM])
theorem SR.after{ob:Ob}(a:SR B h0 F ρ N ob h)(g:∀b,b<h.nx->h'.get b=h.get b)(k:h.nx<=h'.nx)(f:∀b o,h'.get b=some o->b<h'.nx)(p:∀b cs,F b=some cs->F' b=some cs)
  (q:∀b cs,F' b=some cs->F b=some cs\/h.nx<=b) (d:∀b cs,F' b=some cs->∃t fz,h'.get b=some (.cells cs t fz)):SR B h0 F' ρ N ob h':=by
 refine⟨fun id o l=>?_,a.inj,d,a.own,a.dead,fun b c j=>?_,f,yk a.le k,fun b cs c=>?_,a.gl,fun b c=>by obtain⟨i,r,s⟩:=a.pn b c;exact⟨by rw[g b<|a.lt b _ i];exact i,r,s⟩⟩
 ·obtain⟨b,n,x,h1,m,u,w,v⟩:=a.obj id o l;have c:=a.lt b x m;refine⟨b,n,x,h1,by grind,u.mono<|Le.Zr (ρ:=ρ) p,fun e=>?_,fun e=>?_⟩
  ·cases y:F' b with
   |none=>rfl
   |some cs=>
    grind
  grind
 ·rw[g b<|Nat.lt_of_lt_of_le c a.le];exact a.old b c j
 ·rcases q b cs c with h1|h1
  ·exact a.fo b cs h1
  ·exact .inr<|.inl<|yk a.le h1
theorem SR.gh{ob:Ob}(d:SR B h0 F ρ N ob h):Gh h:=fun x e=>by
 obtain⟨a,b,c⟩:=d.gl x e;rw[d.old _ a b];exact c
structure RA(C:Ctx)(f:FuncId)(sp:An):Prop where
 prim:C.prim f=none
 fn:∃i,C.fn f=some i
 run:∀(F:Fz) (h:H) (args:List V) (i:(Bz sp.ins).T),(∀b cs,F b=some cs->∃t fz,h.get b=some (.cells cs t fz))->(∀b o,h.get b=some o->b<h.nx)->Gh h->Kj F (Ae sp.ins i) args->sp.pre i=true->
  ∃l M,(∀m,M<=m->A5 C m (.fn f args) h=some l)/\(sp.nd=false->∃x,l=[x])/\∀x∈l,h.nx<=x.2.nx/\(∀b,b<h.nx->x.2.get b=h.get b)/\(∀b o,x.2.get b=some o->b<x.2.nx)/\
   ∃F':Fz,(∀b cs,F b=some cs->F' b=some cs)/\(∀b cs,F' b=some cs->F b=some cs\/h.nx<=b)/\(∀b cs,F' b=some cs->∃t fz,x.2.get b=some (.cells cs t fz))/\
    PC F' (one (Ae sp.outs (sp.f i))) x.1
structure xP(C:Ctx)(f:FuncId)(sp:An):Prop where
 run:∃q,C.prim f=some q/\∀(F:Fz) (h:H) (args:List V) (i:(Bz sp.ins).T),Kj F (Ae sp.ins i) args->sp.pre i=true->∃v,q args h=some (v,h)/\PC F (one (Ae sp.outs (sp.f i))) v
def Af(C:Ctx)(f:FuncId)(sp:An):Prop:=RA C f sp\/xP C f sp
theorem Af.of0{C:Ctx}{f:FuncId}{sp:An}(h:RA C f sp):Af C f sp:=.inl h
theorem Af.zero{C:Ctx}{f:FuncId}{sp:An}(h:Af C f sp)(b:C.prim f=none):RA C f sp:=by
 rcases h with h|⟨q,a,_⟩
 ·exact h
 grind
theorem Af.go{C:Ctx}{f:FuncId}{sp:An}(ok:Af C f sp)(F:Fz)(h:H)(args:List V)(i:(Bz sp.ins).T)(d:∀b cs,F b=some cs->∃t fz,h.get b=some (.cells cs t fz))(c:∀b o,h.get b=some o->b<h.nx)(e:Gh h)(j:Kj F (Ae sp.ins i) args)(n:sp.pre i=true):
  ∃l,(((C.prim f=none/\∃i,C.fn f=some i)/\∃M,∀m,M<=m->A5 C m (.fn f args) h=some l)\/∃q x,C.prim f=some q/\q args h=some x/\l=[x])/\(sp.nd=false->∃x,l=[x])/\∀x∈l,h.nx<=x.2.nx/\(∀b,b<h.nx->x.2.get b=h.get b)/\(∀b o,x.2.get b=some o->b<x.2.nx)/\
   ∃F':Fz,(∀b cs,F b=some cs->F' b=some cs)/\(∀b cs,F' b=some cs->F b=some cs\/h.nx<=b)/\(∀b cs,F' b=some cs->∃t fz,x.2.get b=some (.cells cs t fz))/\
    PC F' (one<|Ae sp.outs<|sp.f i) x.1:=by
 rcases ok with ok|⟨q,r,a⟩
 ·obtain⟨l,M,g,k,p⟩:=ok.run F h args i d c e j n;exact⟨l,.inl ⟨⟨ok.prim,ok.fn⟩,M,g⟩,k,p⟩
 ·obtain⟨v,g,k⟩:=a F h args i j n;refine⟨[(v,h)],ah,(by simp),fun x s=>?_⟩;grind
theorem DC.sc:∀ {s:Sh} {x:s.T} {cs:List V},s.sc=true->DC F s x cs->DC F' s x cs
 | .int _,_,_,_,h=>by simpa only[DC]using h
 | .bool,_,_,_,h=>by simpa only[DC]using h
 | .str,_,_,_,h=>by simpa only[DC]using h
 | .list s,l,_,e,h=>by cases e
 | .pair a b,x,_,e,h=>by
  simp only[Sh.sc,zd]at e;obtain⟨c,d,rfl,g,f⟩:=h;exact⟨c,d,rfl,g.sc e.1,f.sc e.2⟩
 | .unit,_,_,_,h=>by simpa only[DC]using h
 | .nlist s,l,_,e,h=>by cases e
 | .fnv,_,_,_,h=>by simpa only[DC]using h
 | .ptr _,_,_,e,_=>by cases e
theorem Ru:∀ {s:Sh} {x:s.T} {cs:List V},s.sc=true->BD F ρ N (flat s x) cs->Kj F' (flat s x) cs
 | .int k,x,cs,_,h=>fun ρ' N'=>by
  obtain⟨v,vs,rfl,f,rfl⟩:=h;exact⟨v,[],rfl,by simp only[PR]at f ⊢;exact f.sc rfl,rfl⟩
 | .bool,x,cs,_,h=>fun ρ' N'=>by
  obtain⟨v,vs,rfl,f,rfl⟩:=h;exact⟨v,[],rfl,by simp only[PR]at f ⊢;exact f.sc rfl,rfl⟩
 | .str,x,cs,_,h=>fun ρ' N'=>by
  obtain⟨v,vs,rfl,f,rfl⟩:=h;exact⟨v,[],rfl,by simp only[PR]at f ⊢;exact f.sc rfl,rfl⟩
 | .list s,x,cs,e,h=>by cases e
 | .pair a b,(x,y),cs,e,h=>fun ρ' N'=>by
  simp only[Sh.sc,zd]at e;have key:∀(ps g:List PV) (l:List V),BD F ρ N (ps++g) l->∃c d,l=c++d/\BD F ρ N ps c/\BD F ρ N g d:=by
   intro ps;induction ps with
   |nil=>intro g l j;exact⟨[],l,rfl,by simp,j⟩
   |cons p ps m=>
    intro g l j;obtain⟨v,vs,rfl,f,i⟩:=j;obtain⟨c,d,rfl,h3,h4⟩:=m g vs i;exact⟨v::c,d,rfl,by simp_all,h4⟩
  obtain⟨c,d,rfl,f,i⟩:=key _ _ _ h;exact(Ru e.1 f ρ' N').append<|Ru e.2 i ρ' N'
 | .unit,_,cs,_,h=>fun ρ' N'=>by simpa [flat]using h
 | .nlist s,x,cs,e,h=>by cases e
 | .fnv,x,cs,_,h=>fun ρ' N'=>by
  simp only[flat,BD]at h ⊢;grind [PR,DH]
 | .ptr _,_,_,e,_=>by cases e
theorem Xl{s:Sh}{x:s.T}{v:V}(e:s.sc=true)(h:PC F (BU s x) v):PC F' (BU s x) v:=by
 intro ρ' N';have h:=h ρ' N';cases s with
 |pair a b=>
  obtain⟨cs,rfl,c⟩:=h;exact⟨cs,rfl,Ru e c ρ' N'⟩
 |unit=>simp_all [Pe.BU,PR]
 |int k=>unfold Pe.BU PR at h ⊢;exact h.sc rfl
 |bool=>unfold Pe.BU PR at h ⊢;exact h.sc rfl
 |str=>unfold Pe.BU PR at h ⊢;exact h.sc rfl
 |list s=>cases e
 |nlist s=>cases e
 |ptr s=>cases e
 |fnv=>
  unfold Pe.BU at h ⊢;grind [PR,DH]
theorem XE:∀ {l:List Sh} {x:(Bz l).T} {vs:List V},l.all Sh.sc=true->Kj F (Ae l x) vs->Kj F' (Ae l x) vs
 |[],_,vs,_,h=>fun ρ' N'=>by have:=h ρ' N';simpa [Ae]using this
 |[a],x,vs,e,h=>fun ρ' N'=>by
  have g:=h ρ' N';obtain⟨v,f,rfl,j,rfl⟩:=g;simp only[yu,List.all_nil,Bool.and_true]at e;simp only[Ae,BB,DH,ve];refine Xl (F:=F) e (fun c d=>?_) ρ' N';have:=h c d;simp_all [Ae]
 |a::b::l,x,vs,e,h=>by
  have g:=h (fun _=>none) 0;obtain⟨v,f,rfl,_,_⟩:=g;have i:a.sc=true/\(b::l).all Sh.sc=true:=ah
  exact Kj.cons (Xl i.1 fun c d=>((BB ..).1<|h c d).1)<|XE i.2 fun c d=>((BB ..).1<|h c d).2
theorem Ur{l:List Sh}{x:(Bz l).T}{v:V}:PC F (one<|Ae l x) v↔∃vs,Kj F (Ae l x) vs/\v=(match vs with|[u]=>u|us=>.tup us):=by
 have c:∀ps:List PV,(∀u,ps≠[u])->(PC F (one ps) v↔∃vs,Kj F ps vs/\v=(match vs with|[u]=>u|us=>.tup us)):=by
  intro ps j;have i:one ps=.tup ps:=by
   simp_all [one]
  rw[i];constructor
  ·intro h;have d:=h (fun _=>none) 0;obtain⟨cs,rfl,g⟩:=d;refine⟨cs,fun ρ N=>?_,?_⟩
   ·have m:=h ρ N;grind [PR]
   ·have f:=g.len;split
    ·cases ps with
     |nil=>cases f
     |cons q k=>grind
    ·rfl
  ·rintro⟨vs,d,rfl⟩ ρ N;have f:=(d ρ N).len;split
   ·cases ps with
    |nil=>cases f
    |cons q k=>grind
   ·exact⟨_,rfl,d ρ N⟩
 match l,x with
 |[],x=>exact c [] (by simp)
 |[a],x=>
  simp only[Ae,one];constructor
  ·intro h;exact⟨[v],fun ρ N=>by simp only[BB,DH,ve];exact h ρ N,rfl⟩
  ·rintro⟨vs,d,rfl⟩ ρ N;have g:=d ρ N;simp only[BD]at g;grind
 |a::b::l,x=>
  refine c _<|fun u e=>?_;cases l<;>cases e
theorem Zz{nd:Bool}{g:FuncId}{sp:An}(_hsp:X.sp g=some sp)(v:Af X.C g sp)(P:nd=false->sp.nd=false){Q:PV->Ob->Prop}{n:Nat}{args:List PV}{k:PV->AG->Tr}{args':List V}(p:Ev X Q n (fU sp args st k))(a:Rel B h0 F ρ st fr h)(I:BD F ρ st.nx args args'):
  ∃l,MV X ρ h args' (.fn g) l/\(nd=false->∃x,l=[x])/\
   ∀x∈l,∃n',n'<=n/\∃r st',Ev X Q n' (k r st')/\∃F' ρ',PR F' ρ' st'.nx r x.1/\C5 B h0 F ρ st.nx h st' fr x.2 F' ρ'/\(∀sp,X.sp g=some sp->∀b,b<h.nx->x.2.get b=h.get b):=by
 unfold fU at p;split at p
 case h_2=>grind [z7]
 rename_i c i R;rcases p.EB with⟨z,e⟩|⟨_,e⟩
 case inr=>grind [z7]
 simp only[zd]at z;obtain⟨rfl,d⟩:=z;obtain⟨F1,g1,g2,g3⟩:=handed a.sr I;obtain⟨l,o,hone,hall⟩:=v.go F1 h args' i g1.frz a.sr.lt a.sr.gh (g3 _ i R) d;have u:MV X ρ h args' (.fn g) l:=by
  rcases o with⟨s,M,o⟩|⟨q,x,s,K,rfl⟩
  ·exact .A5 ⟨rfl,s⟩ o
  ·exact .prim s K
 refine⟨l,u,ah,fun x J=>?_⟩;obtain⟨m,w,y,F',O,E,A,D⟩:=hall x J;refine⟨n,zx _,_,_,e,?_⟩;cases L:sp.outs.all Sh.sc with
 |true=>
  have G:PC F (one<|Ae sp.outs<|sp.f i) x.1:=by
   grind [Ur,XE]
  refine⟨F,ρ,G ρ _,⟨⟨a.fp,?_⟩,Le.refl,m⟩,ah⟩;refine a.sr.after w m y (by simp) ah<|fun b cs S=>?_;grind
 |false=>
  simp only[wg];obtain⟨e1,e2,e3⟩:=Dl (args.flatMap zw) st;have j:Le F ρ st.nx F' ρ (Bk (args.flatMap zw) st).nx:=by
   grind [Le.Zr]
  refine⟨F',ρ,D ρ _,⟨⟨⟨e3.trans a.fp.n,fun t=>?_⟩,?_⟩,j,m⟩,ah⟩
  ·have:(Bk (args.flatMap zw) st).get t=st.get t:=by unfold AG.get;rw[e2]
   rw[this];exact(a.fp.slot t).mono j
  ·exact g1.after w m y O E A
structure Fj(C:Ctx)(f:FuncId)(w:KR):Prop where
 prim:C.prim f=none
 fn:∃i,C.fn f=some i
 len:∀i l,w.pre i l=true->(w.g i l).length=l.length
 run:∀(F:Fz) (h:H) (args:List V) (i:(Bz w.ins).T) (l:List w.el.T) (b:Nat) (cs:List V) (fz:Nat×Nat) (o:Nat),(∀b cs,F b=some cs->∃t fz,h.get b=some (.cells cs t fz))->(∀b o,h.get b=some o->b<h.nx)->Gh h->Kj F (Ae w.ins i) args->w.pre i l=true->
  h.get b=some (.cells cs w.ty fz)->Dd F w.el l cs->fz.2<=fz.1->F b=none->(o=0\/o=w.el.sz)->
  ∃x M,(∀m,M<=m->A5 C m (.fn f (wj w.fst args (.sl b 0 l.length l.length o))) h=some [x])/\x.1=.tup []/\h.nx<=x.2.nx/\(∀c,c<h.nx->c≠b->x.2.get c=h.get c)/\(∀c y,x.2.get c=some y->c<x.2.nx)/\
   ∃F':Fz,(∀b cs,F b=some cs->F' b=some cs)/\(∀b cs,F' b=some cs->F b=some cs\/h.nx<=b)/\(∀b cs,F' b=some cs->∃t fz,x.2.get b=some (.cells cs t fz))/\
    ∃cs' fz',x.2.get b=some (.cells cs' w.ty fz')/\Dd F' w.el (w.g i l) cs'/\fz'.2<=fz'.1
 nils:∀(F:Fz) (h:H) (args:List V) (i:(Bz w.ins).T),(∀b cs,F b=some cs->∃t fz,h.get b=some (.cells cs t fz))->(∀b o,h.get b=some o->b<h.nx)->Gh h->Kj F (Ae w.ins i) args->w.pre i []=true->
  ∃x M,(∀m,M<=m->A5 C m (.fn f (wj w.fst args .nils)) h=some [x])/\x.1=.tup []/\h.nx<=x.2.nx/\(∀c,c<h.nx->x.2.get c=h.get c)/\(∀c y,x.2.get c=some y->c<x.2.nx)/\
   ∃F':Fz,(∀b cs,F b=some cs->F' b=some cs)/\(∀b cs,F' b=some cs->F b=some cs\/h.nx<=b)/\(∀b cs,F' b=some cs->∃t fz,x.2.get b=some (.cells cs t fz))
theorem BD.split:∀ {a b:List PV} {vs:List V},BD F ρ N (a++b) vs->∃x y,vs=x++y/\BD F ρ N a x/\BD F ρ N b y
 |[],b,vs,h=>⟨[],vs,rfl,by simp,h⟩
 |p::a,b,vs,h=>by
  obtain⟨v,vs,rfl,d,c⟩:=h;obtain⟨x,y,rfl,h3,h4⟩:=c.split;exact⟨v::x,y,rfl,by simp_all,h4⟩
theorem SR.wrote{ob:Ob}(a:SR B h0 F ρ N ob h){id b n:Nat}{o o':Obj}{x':O}(L:AN ob id=some o)(z:ρ id=some (b,n))(T:b<h.nx)(U:F b=none)(E:o'.frozen=false)(D:h'.get b=some x')(C:Wr F' ρ N n o' x')
  (A:∀c,c<h.nx->c≠b->h'.get c=h.get c) (K:h.nx<=h'.nx) (u:∀b o,h'.get b=some o->b<h'.nx) (M:∀b cs,F b=some cs->F' b=some cs)
  (G:∀b cs,F' b=some cs->F b=some cs\/h.nx<=b) (r:∀b cs,F' b=some cs->∃t fz,h'.get b=some (.cells cs t fz)):SR B h0 F' ρ N (DP ob id o') h':=by
 have l:∀j,AN (DP ob id o') j=if j=id then some o' else AN ob j:=(by grind [G9])
 have w:∀c,c<h.nx->F c=none->F' c=none:=fun c f Z=>by
  cases h1:F' c with
  |none=>rfl
  |some cs=>
   grind
 refine⟨fun j oj d=>?_,fun i j oi oj c m P R d h1 s=>?_,r,a.own,fun j d=>?_,fun c f x=>?_,u,yk a.le K,fun c cs f=>?_,a.gl,fun c f=>?_⟩
 ·rw[l]at d;by_cases e:j=id
  ·grind
  ·rw[wc e]at d;obtain⟨c,m,y,h1,s,S,Y,W⟩:=a.obj j oj d;have p:c≠b:=fun J=>e<|a.inj j id oj o c m n d L h1<|J▸z
   have f:=a.lt c y s;refine⟨c,m,y,h1,by grind,S.mono<|Le.Zr (ρ:=ρ) M,ah,fun e=>?_⟩;grind
 ·have g:∀k ok,AN (DP ob id o') k=some ok->∃V,AN ob k=some V:=by
   grind
  obtain⟨_,q⟩:=g i oi R;obtain⟨_,v⟩:=g j oj d;exact a.inj i j _ _ c m P q v h1 s
 ·rw[l]at d;by_cases e:j=id
  ·grind
  ·rw[wc e]at d;exact a.dead j d
 ·rw[A c (Nat.lt_of_lt_of_le f a.le)<|NN (a.own id b n z).2 f x];exact a.old c f x
 ·rcases G c cs f with h1|h1
  ·exact a.fo c cs h1
  ·exact .inr<|.inl<|yk a.le h1
 ·obtain⟨q,v,I⟩:=a.pn c f;have p:c≠b:=ah;exact⟨by rw[A c (a.lt c _ q) p];exact q,v,I⟩
theorem aY{α:Type}{b:Bool}{a:List α}{x:α}{r:List α}(h:wsp b a=some (x,r)):a=wj b r x:=by
 unfold wsp at h;unfold wj;cases b with
 |true=>cases a with
  |nil=>cases h
  |cons y l=>cases h;rfl
 |false=>
  have h:(match a.reverse with|[]=>none|x::r=>some (x,r.reverse))=some (x,r):=h;cases e:a.reverse with
  |nil=>rw[e]at h;cases h
  |cons y l=>
   rw[e]at h;cases h;have:=wi List.reverse e;simpa using this
theorem BD.wj{b:Bool}{r:List PV}{x:PV}{vs:List V}(h:BD F ρ N (wj b r x) vs):∃a v,vs=Go.Pe.wj b a v/\BD F ρ N r a/\PR F ρ N x v:=by
 cases b with
 |true=>
  have h:BD F ρ N (x::r) vs:=h;simp only[BD]at h;obtain⟨v,a,rfl,d,c⟩:=h;exact⟨a,v,rfl,c,d⟩
 |false=>
  have h:BD F ρ N (r++[x]) vs:=h;obtain⟨a,y,rfl,d,c⟩:=h.split;obtain⟨v,_,rfl,hv,rfl⟩:=c;exact⟨a,v,rfl,d,hv⟩
theorem VD{nd:Bool}{g:FuncId}{w:KR}(hno:X.sp g=none)(a:Fj X.C g w){Q:PV->Ob->Prop}{n:Nat}{args:List PV}{k:PV->AG->Tr}{args':List V}(u:Ev X Q n (V8 w args st k))(f:Rel B h0 F ρ st fr h)(I:BD F ρ st.nx args args'):
  ∃l,MV X ρ h args' (.fn g) l/\(nd=false->∃x,l=[x])/\
   ∀x∈l,∃n',n'<=n/\∃r st',Ev X Q n' (k r st')/\∃F' ρ',PR F' ρ' st'.nx r x.1/\C5 B h0 F ρ st.nx h st' fr x.2 F' ρ'/\(∀sp,X.sp g=some sp->∀b,b<h.nx->x.2.get b=h.get b):=by
 unfold V8 at u;split at u
 ·rename_i id sz nn r p;rw[aY p]at I;obtain⟨a1,v,rfl,A,O⟩:=I.wj;obtain⟨F1,g1,g2,g3⟩:=handed f.sr A;split at u
  case h_2=>grind [z7]
  rename_i c i t s l W Y;cases q:zu t w.ty with
  |false=>grind [z7]
  |true=>
  rw[q]at u;have q:=z8 q;split at u
  case h_2=>grind [z7]
  rename_i l' U;obtain⟨e,rfl⟩:=Ct U;cases e;rcases u.EB with⟨D,j⟩|⟨_,j⟩
  case inr=>grind [z7]
  simp only[zd,w5]at D;obtain⟨⟨⟨rfl,d⟩,hn⟩,z⟩:=D;have z:=z8 z;subst hn z q;obtain⟨e1,e2,e3⟩:=Dl (r.flatMap zw) st;obtain⟨b,m,x,h1,h2,⟨cs,fz,rfl,k1,k2,k3⟩,h4,_⟩:=g1.obj id _ Y;simp only[PR]at O;obtain⟨o,ho',rfl⟩:∃o,(o=0\/o=w.el.sz)/\v=.sl b (0*w.el.sz) (List.length l) (List.length l) o:=by
   grind
  rw[Nat.zero_mul];obtain⟨x,M,K,q1,G,L,P,F',S,T,J,cs',fz',f4,f5,Z⟩:=a.run F1 h a1 i l b cs fz o g1.frz f.sr.lt f.sr.gh (g3 _ i W) d h2 k1 k2 (h4 rfl) ho';refine⟨[x],.A5 ⟨rfl,a.prim,a.fn⟩ K,(by simp),fun y R=>?_⟩;cases zn.1 R;refine⟨n,zx _,_,_,j,F',ρ,?_,⟨⟨⟨e3.trans f.fp.n,fun t=>?_⟩,?_⟩,?_,G⟩,ah⟩
  ·rw[q1];simp[PR]
  ·have:((Bk (r.flatMap zw) st).setObj id<|.arr false w.ty w.el<|w.g i l).get t=st.get t:=by
    show((Bk (r.flatMap zw) st).fr.get t).getD .any=_;rw[e2];rfl
   rw[this];refine(f.fp.slot t).mono ?_;show Le F ρ st.nx F' ρ (Bk (r.flatMap zw) st).nx;grind [Le.Zr]
  ·exact g1.wrote Y h1 (f.sr.lt _ _ h2) (h4 rfl) rfl f4 ⟨cs',fz',rfl,f5,Z,by rw[<-k3];exact a.len i l d⟩ L G P S T J
  ·show Le F ρ st.nx F' ρ (Bk (r.flatMap zw) st).nx;grind [Le.Zr]
 ·rename_i r p;rw[aY p]at I;obtain⟨a1,v,rfl,A,O⟩:=I.wj;subst O;obtain⟨F1,g1,g2,g3⟩:=handed f.sr A;split at u
  case h_2=>grind [z7]
  rename_i c i W;rcases u.EB with⟨D,j⟩|⟨_,j⟩
  case inr=>grind [z7]
  simp only[zd]at D;obtain⟨rfl,d⟩:=D;obtain⟨e1,e2,e3⟩:=Dl (r.flatMap zw) st;obtain⟨x,M,K,q1,G,L,P,F',S,T,J⟩:=a.nils F1 h a1 i g1.frz f.sr.lt f.sr.gh (g3 _ i W) d;have E:Le F ρ st.nx F' ρ (Bk (r.flatMap zw) st).nx:=by
   grind [Le.Zr]
  refine⟨[x],.A5 ⟨rfl,a.prim,a.fn⟩ K,(by simp),fun y R=>?_⟩;cases zn.1 R;refine⟨n,zx _,_,_,j,F',ρ,?_,⟨⟨⟨e3.trans f.fp.n,fun t=>?_⟩,?_⟩,E,G⟩,ah⟩
  ·rw[q1];simp[PR]
  ·have:(Bk (r.flatMap zw) st).get t=st.get t:=by unfold AG.get;rw[e2]
   rw[this];exact(f.fp.slot t).mono E
  ·exact g1.after L G P S T J
 grind [z7]
theorem GJ(m:X.C.mg=false)(f:∀g sp,X.sp g=some sp->Af X.C g sp)(i:∀g w,X.ws g=some w->Fj X.C g w):∀(d:Nat) (nd:Bool) (h0:H0),EY B h0 X nd<|B8 X nd d
 |0,nd,h0=>by intro a;exact wh a z7
 |d+1,nd,h0=>by
  rename_i Q n K args st k;intro a F ρ fr h args' p s;unfold B8 at a;cases K with
  |rnd id=>
   obtain⟨c,R,l,M,T,V,Y⟩:=Mv (GJ m f i d nd) (GJ m f i d false) a p s;refine⟨l,.A5 R T,V,fun x E=>?_⟩;grind
  |fn g=>
  simp only at a;have conv:(∃l,MV X ρ h args' (.fn g) l/\(nd=false->∃x,l=[x])/\
   ∀x∈l,∃n',n'<=n/\∃r st',Ev X Q n' (k r st')/\∃F' ρ',PR F' ρ' st'.nx r x.1/\C5 B h0 F ρ st.nx h st' fr x.2 F' ρ'/\(∀sp,X.sp g=some sp->∀b,b<h.nx->x.2.get b=h.get b))->
   ∃l,MV X ρ h args' (.fn g) l/\(nd=false->∃x,l=[x])/\
   ∀x∈l,∃n',n'<=n/\∃r st',Ev X Q n' (k r st')/\∃F' ρ',PR F' ρ' st'.nx r x.1/\C5 B h0 F ρ st.nx h st' fr x.2 F' ρ'/\(∀J,yI.fn g=.fn J->∀sp,X.sp J=some sp->∀b,b<h.nx->x.2.get b=h.get b):=by
   simp
  obtain⟨o,q⟩:∃o,X.sp g=o:=⟨_,rfl⟩;cases o with
  |some sp=>
   rw[q]at a;simp only at a;cases v:(nd|| !sp.nd)with
   |false=>grind [z7]
   |true=>
    rw[v]at a;exact conv (Zz (nd:=nd) q (f g sp q) ah a p s)
  |none=>
   rw[q]at a;obtain⟨P,G⟩:∃o,X.ws g=o:=⟨_,rfl⟩;cases P with
   |some w=>rw[G]at a;exact conv (VD q (i g w G) a p s)
   |none=>
   rw[G]at a;simp only at a;cases j:X.esc.any (zu g)with
   |true=>
    rw[j]at a;unfold Abh at a;split at a
    case h_2=>grind [z7]
    rename_i id off;cases t:H7 (st.obj id)with
    |false=>grind [z7]
    |true=>
     rw[t]at a;obtain⟨Z,A,v⟩:=List.any_eq_true.1 j;have e:=z8 v;subst e;have D:=X.escOk g A;obtain⟨o,ho⟩:=Vu t;obtain⟨b,n',z,q1,_⟩:=p.sr.at ho;obtain⟨x,_,rfl,E,rfl⟩:=s;have u:=E;obtain rfl:=u.2 b n' q1;exact conv ⟨[(.ptr b off,h)],.prim D rfl,(by simp),fun y W=>by
      cases zn.1 W;exact⟨n,zx _,_,st,a,F,ρ,E,C5.refl p,(by simp)⟩⟩
   |false=>
   rw[j]at a;split at a
   case h_2=>grind [z7]
   rename_i D I;obtain⟨S,l,M,U,O,L⟩:=Jc (GJ m f i d nd) (GJ m f i d false) m I D q a p s;exact conv ⟨l,.A5 ⟨rfl,S⟩ U,O,L⟩
theorem PL{st:AG}:∀ {l:List Sh} {ps:List PV} {r:Bool×(Bz l).T},CV st l ps=some r->l.length=ps.length
 |[],[],_,_=>rfl
 |[],_::_,_,h=>by cases h
 |[a],[p],_,_=>rfl
 |[a],[],_,h=>by cases h
 |[a],_::_::_,_,h=>by cases h
 |a::b::l,[],_,h=>by cases h
 |a::b::l,p::ps,_,h=>by
  unfold CV at h;split at h
  case h_2=>cases h
  rename_i e1 e2;have:=PL e2;grind
def Hl(outs:List Sh)(v:PV):List PV:=match outs with
 |[_]=>[v]
 |_=>match v with
  | .tup vs=>vs
  |_=>[v]
def JL(outs:List Sh)(v:PV)(ob:Ob):Option (Bool×(Bz outs).T):=CV ⟨0,.leaf,ob,0⟩ outs<|Hl outs v
def Ends(X:AX)(t:Tr)(Q:PV->Ob->Prop):Prop:=∃n,Ev X Q n t
def Ac(sp:An)(i:(Bz sp.ins).T)(v:PV)(ob:Ob):Prop:=∃y,JL sp.outs v ob=some (true,y)/\y=sp.f i
theorem Wp{v:PV}(h:dC v=true)(st st':AG):Cd st v=Cd st' v:=by
 cases v<;>first|rfl|cases h
theorem IP(st st':AG):∀ {l:List PV},l.all dC=true->Ds st l=Ds st' l
 |[],_=>rfl
 |v::l,h=>by
  rw[yu,zd]at h;unfold Ds;rw[Wp h.1 st st',IP st st' h.2]
theorem Gm(st st':AG):∀ {l:List Sh} {ps:List PV},ps.all QO=true->CV st l ps=CV st' l ps
 |[],[],_=>rfl
 |[],_::_,_=>rfl
 |[_],[],_=>rfl
 |_::_::_,[],_=>rfl
 |[a],[p],h=>by
  grind [GL,IP,CV,QO]
 |[_],_::_::_,_=>rfl
 |a::b::l,p::ps,h=>by
  rw[yu,zd]at h;unfold CV GL;rw[IP st st' h.1,Gm st st' h.2]
theorem xW{outs:List Sh}{v:PV}{ob:Ob}:JL outs v (zS v ob)=JL outs v ob:=by
 unfold zS;cases b:uI v with
 |false=>rfl
 |true=>
  unfold JL Hl;by_cases c:∃a,v=.tup a
  ·obtain⟨a,rfl⟩:=c;split
   ·rfl
   ·exact Gm _ _ b
  ·have e:QO v=true:=by
    cases v with
    |tup a=>grind
    |_=>exact b
   have d:[v].all QO=true:=ah
   split
   ·exact Gm _ _ d
   ·split
    ·grind
    grind [Gm]
theorem ZJ(S:X.C.mg=false)(k:∀g sp,X.sp g=some sp->Af X.C g sp)(hws:∀g w,X.ws g=some w->Fj X.C g w){f:FuncId}{sp:An}{d:Nat}(T:X.C.spec f=none)(c:X.C.prim f=none)(K:X.sp f=none)
  (J:∀i,sp.pre i=true->Ends X (tree X sp.nd d f<|Ae sp.ins i) (Ac sp i)) (R:∃i,X.C.fn f=some i):Af X.C f sp:=by
 refine .of0 ⟨c,R,fun F h args i z D v m q=>?_⟩;obtain⟨n,Y⟩:=J i q;have hr:Rel h.nx ⟨h,F,[],fun _=>False⟩ F (fun _=>none) (AE 0 [] [] 0) ⟨0,.leaf⟩ h:=by
  refine⟨⟨rfl,fun t=>?_⟩,⟨fun id o V=>(by cases V),(by simp),z,(by simp),fun _ _=>rfl,(by simp),D,zx _,ah,fun x I=>⟨D _ _<|v x I,fun e=>e,v x I⟩,(by simp)⟩⟩;show PR _ _ _ (((ED []).get t).getD .any) _;grind [ED,PM.C6,PR]
 obtain⟨_,l,M,Z,u,k⟩:=Jc (by grind [GJ]) (by grind [GJ]) S T c K Y hr<|m _ _;refine⟨l,M,Z,u,fun x I=>?_⟩;obtain⟨n',hn,r,st',he',F',ρ',hp,hw,_⟩:=k x I;have hq:=he'.W3;obtain⟨y,hy,rfl⟩:=hq;rw[xW]at hy;have E:∀b,b<h.nx->x.2.get b=h.get b:=fun b s=>hw.rel.sr.old b s<|fun e=>e
 refine⟨hw.nx,E,hw.rel.sr.lt,?_⟩;have O:∃vs,BD F' ρ' st'.nx (Hl sp.outs r) vs/\((∃a,sp.outs=[a])->vs=[x.1])/\((∀a,sp.outs≠[a])->(∃G,r=.tup G)->x.1=.tup vs):=by
  unfold Hl;split
  ·simp_all
  ·split
   ·grind [PR]
   ·exact⟨[x.1],by simp_all,fun _=>rfl,ah⟩
 obtain⟨vs,j,W,U⟩:=O;obtain⟨F1,g1,g2,g3⟩:=handed (st:=st') hw.rel.sr j;have P:∀id,DW (AG.obj ⟨0,.leaf,st'.ob,0⟩ id) (st'.obj id):=fun id=>DW.refl _
 have A:=g3 sp.outs _ (by rw[LH P];exact hy);refine⟨F1,fun b cs s=>g2 b cs<|hw.le.fz b cs s,fun b cs s=>(g1.fo b cs s).imp_right<|fun h=>h.resolve_right<|fun e=>e,g1.frz,Ur.2 ⟨vs,A,?_⟩⟩;have p:sp.outs.length=(Hl sp.outs r).length:=PL hy;have hl2:=j.len;by_cases V:∃a,sp.outs=[a]
 ·grind
 ·have L:sp.outs.length≠1:=(by grind [List.length_eq_one_iff]);have ht:∃G,r=.tup G:=by
   cases r with
   |tup G=>simp
   |_=>
    exfalso;apply L;rw[p];unfold Hl;split<;>rfl
  grind
end
section
variable {X:AX}{Q Q':PV->Ob->Prop}
theorem Ends.leaf{v:PV}{ob:Ob}(h:Q v ob):Ends X (.leaf v ob) Q:=⟨0,.leaf h⟩
theorem Ends.ite{c:Bool}{a b:Tr}(e:c=true->Ends X a Q)(d:c=false->Ends X b Q):Ends X (.ite c a b) Q:=by
 cases c with
 |true=>obtain⟨n,h⟩:=e rfl;exact⟨n,.ite (fun _=>h)<|by simp⟩
 |false=>obtain⟨n,h⟩:=d rfl;exact⟨n,.ite (by simp)<|fun _=>h⟩
theorem Ends.tt{c:Bool}{a b:Tr}(d:c=true)(h:Ends X a Q):Ends X (.ite c a b) Q:=(by grind [Ends.ite])
theorem Ends.ff{c:Bool}{a b:Tr}(d:c=false)(h:Ends X b Q):Ends X (.ite c a b) Q:=(by grind [Ends.ite])
def stepT(X:AX):Tr->Tr
 | .loop nd ro d f base b st k=>body X nd ro d f base b st k
 | .cut nd ro d f base b st k=>AR X nd ro d f base b st k
 |t=>t
theorem Ends.step{t:Tr}(h:Ends X (stepT X t) Q):Ends X t Q:=by
 cases t with
 |loop=>obtain⟨n,h⟩:=h;exact⟨n+1,.loop h⟩
 |cut=>obtain⟨n,h⟩:=h;exact⟨n,.cut h⟩
 |_=>exact h
theorem Ends.eq{t a:Tr}(e:t=a)(h:Ends X a Q):Ends X t Q:=e▸h
theorem Ends.Ap{t a:Tr}(e:stepT X t=a)(h:Ends X a Q):Ends X t Q:=Ends.step<|e▸h
def Tr.L:Tr->Tr
 | .ite _ a _=>a
 | .both a _=>a
 |t=>t
def Tr.R:Tr->Tr
 | .ite _ _ b=>b
 | .both _ b=>b
 |t=>t
def re:Tr->AG->Tr
 | .loop nd ro d f base b _ k,st=>.loop nd ro d f base b st k
 | .cut nd ro d f base b _ k,st=>.cut nd ro d f base b st k
 |t,_=>t
def Nc:List (FuncId×An)->FuncId->Option An
 |[],_=>none
 |(g,s)::l,f=>bif zu g f then some s else Nc l f
def mB:List (FuncId×KR)->FuncId->Option KR
 |[],_=>none
 |(g,s)::l,f=>bif zu g f then some s else mB l f
theorem YJ{C:Ctx}:∀ {l:List (FuncId×KR)},(∀x∈l,Fj C x.1 x.2)->∀g sp,mB l g=some sp->Fj C g sp
 |[],_,g,sp,h=>by cases h
 |(a,s)::l,c,g,sp,h=>by
  unfold mB at h;cases b:zu a g with
  |true=>
   simp_all
  |false=>rw[b]at h;exact YJ ah g sp h
def Abx:List (FuncId×List Nat)->FuncId->Nat->Bool
 |[],_,_=>false
 |(g,t)::l,f,r=>bif zu g f then t.any (zu r)else Abx l f r
def Abb:List (FuncId×List (Nat×List (Nat×Sh)))->FuncId->Nat->List (Nat×Sh)
 |[],_,_=>[]
 |(g,t)::l,f,r=>bif zu g f then fz1 t r else Abb l f r
 where fz1:List (Nat×List (Nat×Sh))->Nat->List (Nat×Sh)
 |[],_=>[]
 |(i,s)::l,r=>bif zu i r then s else fz1 l r
def wW:List (FuncId×List (Nat×List Nat))->FuncId->Nat->List Nat
 |[],_,_=>[]
 |(g,t)::l,f,r=>bif zu g f then pl1 t r else wW l f r
 where pl1:List (Nat×List Nat)->Nat->List Nat
 |[],_=>[]
 |(i,s)::l,r=>bif zu i r then s else pl1 l r
end
section
open Go.Proofs.Tryz (prog)
def NU(C:Ctx)(q:S6):Ctx:=⟨C.T,C.ng,C.fn,C.prim,q,false⟩
theorem Ud{C:Ctx}{P:Program}(a:C.Ok P){q:S6}(h:Fe P q):(NU C q).Ok P where
 T:=a.T
 fn:=a.fn
 prim:=a.prim
 spec:=h
theorem O6{C:Ctx}(a:DB C)(q:S6):DB (NU C q):=a
class Srt where
 q:Option (List V->H->Option (V×H))
def MT[Srt]:S6:=fun f=>bif zu f 63 then Srt.q else none
def Bb[Srt]:Ctx:=NU C7<|cQ MT<|cQ fmtS<|cQ jO<|cQ (Hs MRp)<|Hs A7
theorem iI[Srt](a:Fe prog MT):Bb.Ok prog:=Ud Of<|Hm a<|Hm rX<|Hm jT<|Hm spR spA
theorem Ql[Srt]:DB Bb:=O6 FB _
def Aaw:List (FuncId×List (Nat×List Nat)):=
 [(4,[(25,[2,13,14]),(23,[2,12,13,14]),(19,[2]),(16,[0,1,2,10,11]),(5,[0,1,2,7]),(6,[0,1,2,7]),(4,[0,1,2,7]),(3,[0,1,2])]),
 (5,[(15,[0,1,5,7,9,93,94]),(9,[0,1,5,7,9,93,94]),(8,[0,1,5,7,9,93,94]),(6,[0,1,5,7]),(3,[0,1,5])]),
 (8,[(3,[0,3]),(4,[0,3]),(2,[0,3])]),
 (15,[(8,[5,6,16,17,18]),(7,[5,6,16,17,18]),(4,[0])]),
 (16,[(7,[1,7,25,26,27]),(6,[1,7,25,26,27]),(4,[0,1])]),
 (17,[(7,[0,1,2,7]),(8,[0,1,2,7]),(6,[0,1,2,7]),(5,[0,1,2]),(3,[0,1,2])]),
 (19,[(10,[0,3,5,6]),(8,[0,3,5,6]),(5,[0,3,4]),(3,[0,3,4])]),
 (21,[(5,[0,1,5,6]),(3,[0,1,5,6])]),
 (22,[(20,[9]),(12,[0]),(9,[0,13,14,15]),(5,[0,13,14,15]),(4,[0,13,14,15]),(3,[0])]),
 (23,[(3,[0,3]),(4,[0,3]),(2,[0,3])]),
 (24,[(9,[0,3,4,5]),(8,[0,3,4,5]),(7,[0,3,4]),(5,[0,3,4]),(3,[0])]),
 (26,[(5,[0,1])]),
 (37,[(5,[0,1,5]),(6,[0,1,5]),(4,[0,1,5]),(3,[0,1])]),
 (38,[(6,[5,6,7]),(3,[5,6,7]),(2,[5,6,7])]),
 (46,[(3,[2,3,4])]),
 (48,[(16,[]),(11,[3,4]),(9,[3,4]),(7,[3,4]),(4,[0,3])]),
 (51,[(5,[0,1])]),
 (52,[(13,[6]),(10,[0,1,6]),(5,[0,1]),(3,[0,1])]),
 (57,[(10,[1,22,23,24]),(6,[1,22,23,24]),(5,[1,22,23,24]),(4,[0,1])]),
 (58,[(7,[0,3,4]),(5,[0,3,4]),(3,[0])]),
 (61,[(9,[5,6,7]),(6,[5,6,7,8])]),
 (62,[(4,[3,9,10,11]),(3,[3,9,10,11])]),
 (69,[(7,[4,5,6]),(13,[4,5,6,7]),(11,[4,5,6,7]),(8,[4,5,6]),(6,[4,5,6]),(3,[0])]),
 (73,[(15,[8,9]),(13,[6,8,9]),(10,[5,6,7]),(7,[5,6]),(4,[5])]),
 (75,[(9,[8,10]),(3,[2,3])]),
 (94,[(11,[2,4]),(5,[0,2,3,4]),(4,[0,2,3,4])]),
 (95,[(5,[2,3,4]),(3,[2,3,4])]),
 (104,[(3,[0,3]),(4,[0,3]),(2,[0,3])]),
 (106,[(2,[0,1]),(1,[0,1])]),
 (108,[(10,[3]),(7,[1,3,4]),(5,[1,3,4]),(3,[1])]),
 (109,[(7,[0,2,3,4,5]),(4,[0,2,3,4]),(3,[0,2,3,4])]),
 (110,[(2,[0,1]),(1,[0,1])]),
 (111,[(3,[0,1,5]),(2,[0,1,5])]),
 (115,[(6,[5,6,7]),(3,[5,6,7]),(2,[5,6,7])]),
 (117,[(3,[2,3,4]),(2,[2,3,4])]),
 (124,[(6,[0,2,3,4]),(5,[0,2,3,4]),(4,[0,2,3])]),
 (125,[(5,[0,3,4]),(3,[0,3,4])]),
 (127,[(15,[8,9,10,11,12,13]),(39,[8,9,10,11,12,13,14]),(35,[8,9,10,11,12,13,14,19,20]),(33,[8,9,10,11,12,13,14,19,20]),(20,[8,9,10,11,12,13,14,15,16]),(27,[8,9,10,11,12,13,14,15,16,18]),(21,[8,9,10,11,12,13,14,15,16]),(19,[8,9,10,11,12,13,14,15,16]),(16,[8,9,10,11,12,13]),(14,[8,9,10,11,12,13]),(11,[0,8,9,10,11]),(10,[0,8,9,10,11]),(6,[0,1]),(3,[0,1])]),
 (129,[(6,[0,1,5,6,7]),(4,[0,1,5,6,7])]),
 (130,[(7,[0,1,5]),(10,[0,1,5]),(8,[0,1,5]),(6,[0,1,5]),(5,[0,1]),(4,[])]),
 (131,[(5,[0,1,5,6,7]),(11,[0,1,5,6,7,8]),(6,[0,1,5,6,7]),(4,[0,1,5,6,7])]),
 (132,[(9,[0,1,5,6,7,8]),(7,[0,1,5,6,7,8]),(5,[0,1,5,6]),(3,[0,1,5,6])]),
 (156,[(3,[1,2,4,5]),(6,[1,2,4,5]),(4,[1,2,4,5]),(2,[1,2,4,5])]),
 (159,[(3,[2,3,4])]),
 (164,[(8,[1,5,6,7,8,20,21,22,27,28,29]),(7,[1,5,6,7,8,20,21,22,27,28,29]),(4,[1,5,20,21,22]),(3,[1,5,20,21,22])]),
 (166,[(12,[0,1,5,6,21,22]),(11,[0,1,5,6,7,8,21,22]),(7,[0,1,5,6,21,22]),(6,[0,1,5,6,21,22]),(3,[0,1])]),
 (167,[(7,[0,1,5]),(11,[]),(8,[0,1,5]),(6,[0,1,5]),(5,[0,1]),(4,[])]),
 (168,[(10,[0,1,5,6,13,14]),(9,[0,1,5,6,7,8,13,14]),(5,[0,1,5,6,13,14]),(4,[0,1,5,6,13,14])]),
 (169,[(3,[0,3]),(4,[0,3]),(2,[0,3])]),
 (173,[(12,[4,5,14,15]),(6,[2,3,4,5]),(5,[4,5,6,7])]),
 (187,[(6,[0,1,6,7,8]),(4,[0,1,6,7,8])]),
 (188,[(2,[0]),(1,[0])]),
 (189,[(5,[0,1,2,7,9,10]),(4,[0,1,2,7,9,10])]),
 (192,[(26,[9,11,12,13,96,97]),(22,[9,11,12,13,96,97]),(21,[9,11,12,13,96,97]),(19,[9,10,11,12,13,14]),(17,[9,10,11,12,13,14]),(11,[0,1]),(9,[0,1,6,7,8]),(7,[0,1,6,7,8]),(3,[0,1])]),
 (226,[(20,[0]),(19,[6]),(16,[5,6,47,48,49]),(15,[5,6,8,47,48,49]),(11,[5,6,47,48,49]),(10,[5,6,47,48,49]),(8,[0,5])]),
 (229,[(3,[0,3]),(2,[0,3])]),
 (233,[(3,[0,2,4]),(7,[0,2,4,5]),(4,[0,2,4]),(2,[0,2,4])]),
 (234,[(3,[0,1]),(2,[0,1]),(1,[0,1])]),
 (235,[(3,[0,1]),(2,[0,1]),(1,[0,1])]),
 (244,[(25,[2,8,9,10,14,15,16,17,18]),(24,[2,8,9,10,14,15,16,17,18]),(18,[2,8,9,10,11,13,14,15,16]),(17,[2,8,9,10,11,13,14,15,16]),(7,[0,1,2]),(5,[0,1,2]),(3,[0,1,2])]),
 (246,[(8,[1,5,12,13,14]),(4,[1,5,12,13,14]),(3,[1,5,12,13,14])]),
 (247,[(29,[0,1,5,6,17,156,157]),(28,[0,1,5,6,17,156,157]),(26,[0,1,5,6]),(16,[0,1,5,6,11,12,104,105]),(15,[0,1,5,6,11,12,104,105]),(11,[0,1,5,6,7]),(9,[0,1,5,6,7]),(8,[0,1,5,6,7,8])])]
def wT:List FuncId:=[284]
theorem Xm[Srt]:∀g∈wT,Bb.prim g=some PK.noEsc.run:=fun g h=>by
 cases h with
 |head=>kernel_rfl
 |tail _ h=>cases h
def X7[Srt](l:List (FuncId×An)):AX:=⟨Bb,Nc l,wW Aaw,fun _ _=>false,fun _ _=>[],fun _=>none,wT,Xm⟩
def bK[Srt](cs:List (FuncId×List Nat))(fz:List (FuncId×List (Nat×List (Nat×Sh))))(t:List (FuncId×List (Nat×List Nat)))(l:List (FuncId×An)):AX:=⟨Bb,Nc l,wW<|t++Aaw,Abx cs,Abb fz,fun _=>none,wT,Xm⟩
def AX.wr(X:AX)(l:List (FuncId×KR)):AX:={ X with ws:=mB l }
end
end Go.Pe
namespace Go.Sp
def first:List Int->Int
 |[]=>0
 |x::l=>if x≠0 then x else first l
def BO(c:Bool)(e:Int):Int:=bif c then e else 0
end Go.Sp
namespace Go.Pe
open Go.Det
abbrev i64:Sh:=.int .i64
abbrev Hv:Sh:=.list<|.int .i64
def GB:An:=⟨[Hv],fun l=>decide (l.length<=1000000),[i64],fun l=>Sp.first l,false⟩
def JK:An:=⟨[.bool,i64],fun _=>true,[i64],fun i=>Sp.BO i.1 i.2,false⟩
end Go.Pe
namespace Go.Sp
abbrev Cp:=Rd
end Go.Sp
namespace Go.Pe
open Go.Det
section
variable {X:AX}{Q:PV->Ob->Prop}
@[simp] theorem zH:Ends X .fail Q↔False:=⟨fun⟨_,h⟩=>z7 h,fun h=>h.elim⟩
@[simp] theorem Y9{v:PV}{ob:Ob}:Ends X (.leaf v ob) Q↔Q v ob:=⟨fun⟨_,h⟩=>h.W3,fun h=>.leaf h⟩
@[simp] theorem K1{c:Bool}{a b:Tr}:Ends X (.ite c a b) Q↔if c=true then Ends X a Q else Ends X b Q:=by
 constructor
 ·rintro⟨n,h⟩;rcases h.EB with⟨d,h⟩|⟨d,h⟩
  ·rw[wd d];exact⟨n,h⟩
  ·rw[wc<|by simp[d]];exact⟨n,h⟩
 ·intro h;refine .ite (fun d=>?_)<|fun d=>?_
  ·rwa [wd d]at h
  ·rwa [wc<|by simp[d]]at h
theorem Ac.of{sp:An}{i:(Bz sp.ins).T}{v:PV}{ob:Ob}{c:Bool}{y:(Bz sp.outs).T}(h:JL sp.outs v ob=some (c,y))(a:c=true)(b:y=sp.f i):Ac sp i v ob:=⟨y,by rw[h,a],b⟩
@[simp] theorem V5(s:Sh)(x:List s.T):K8 (Sh.leaves<|.list s) [.dat (.list s) x]=(true,[.dat (.list s) x]):=rfl
theorem wr(x:Int)(a: -9223372036854775808<=x)(b:x<=9223372036854775807):zc .i64 x=x:=IntWalk.i64_in x ⟨a,b⟩
theorem drop_cons{α:Type}{l r:List α}{x d:α}{i:Nat}(h:l.drop i=x::r):i<l.length/\l.getD i d=x/\l.drop (i+1)=r:=by
 have a:i<l.length:=by
  rcases yw i l.length with h1|h1
  ·exact h1
  ·rw[yr h1]at h;cases h
 have b:=zt a;rw[h]at b;simp only[yi]at b;exact⟨a,by simp[a,b.1],b.2.symm⟩
end
abbrev Dn[Srt](X:AX):Prop:=∀g sp,X.sp g=some sp->Af Bb g sp
theorem MW[Srt]{X:AX}(n:X.C=Bb)(b:∀g sp,X.sp g=some sp->Af Bb g sp){f:FuncId}{sp:An}{d:Nat}(m:Bb.spec f=none)(a:Bb.prim f=none)(c:X.sp f=none)
  (e:∀i,sp.pre i=true->Ends X (tree X sp.nd d f<|Ae sp.ins i) (Ac sp i)) (k:∃i,Bb.fn f=some i) (j:∀g w,X.ws g=some w->Fj Bb g w:=by intro _ _ h;cases h):Af Bb f sp:=by
 have l:X.C.mg=false:=by rw[n];rfl
 rw[<-n]at*;exact ZJ l b j m a c e k
theorem BK{α:Type}{o:Option α}(h:o.isSome=true):∃i,o=some i:=Option.isSome_iff_exists.1 h
theorem BL[Srt]{X:AX}(b:Dn X){f:FuncId}{sp:An}(d:∀i,sp.pre i=true->Ends X (tree X sp.nd 9 f<|Ae sp.ins i) (Ac sp i))(l:X.C=Bb:=by rfl)(k:Bb.spec f=none:=by kernel_rfl)(a:Bb.prim f=none:=by kernel_rfl)(c:X.sp f=none:=by kernel_rfl)(j:(Bb.fn f).isSome=true:=by kernel_rfl)(e:∀g w,X.ws g=some w->Fj Bb g w:=by intro _ _ h;cases h):Af Bb f sp:=MW l b k a c d (BK j) e
theorem drop_nil{α:Type}{l:List α}{i:Nat}(h:l.drop i=[])(a:i<=l.length):i=l.length:=by
 have:=wi List.length h;simp at this;omega
theorem jM{α:Type}{l r:List α}{x:α}{i:Nat}(h:l.drop i=x::r):x∈l:=by
 have:x∈l.drop i:=by rw[h];simp
 exact List.mem_of_mem_drop this
theorem Zd{α:Type}{l r:List α}{x:α}{i:Nat}(h:l.drop i=x::r):l.take (i+1)=l.take i++[x]:=by
 have b:=(drop_cons (d:=x) h).1;have a:=(drop_cons (d:=x) h).2.1;rw[List.take_add_one];congr 1;have:l[i]?=some x:=by
  have e:=zm b;rw[e];simp only[List.getD,e,Option.getD_some]at a;rw[a]
 rw[this];rfl
theorem AO{C:Ctx}:∀g sp,Nc [] g=some sp->Af C g sp:=fun g sp h=>by cases h
theorem Aa{C:Ctx}{a:FuncId}{c:An}{l:List (FuncId×An)}(h0:Af C a c)(d:∀g sp,Nc l g=some sp->Af C g sp):∀g sp,Nc ((a,c)::l) g=some sp->Af C g sp:=by
 intro g sp h;unfold Nc at h;cases b:zu a g with
 |true=>rw[b]at h;cases h;have:=z8 b;subst this;exact h0
 |false=>rw[b]at h;exact d g sp h
theorem GQ[Srt]{f:FuncId}{s t:List Sh}{g:(Bz s).T->(Bz t).T}{nd:Bool}(a:Bb.prim f=none)(b:∃i,Bb.fn f=some i):Af Bb f ⟨s,fun _=>false,t,g,nd⟩:=
 .of0 ⟨a,b,fun F h args i _ _ _ _ c=>by cases c⟩
theorem EJ{α:Type}(A B:List α)(x d:α){n:Nat}(h:A.length=n):(A++x::B).getD n d=x:=by
 subst h;simp[List.getD]
theorem Df{α:Type}(A B:List α)(x y:α){n:Nat}(h:A.length=n):(A++x::B).set n y=A++y::B:=by
 subst h;simp
end Go.Pe
namespace Go.Sp
open Go.Pe (B5 imax)
theorem cM(a b:Int):B5 a b=min a b:=by unfold B5;split<;>omega
abbrev Ao:Nat:=18446744073709551616
abbrev AF:=Int×List Int
def CP(l:List Int):Bool:=decide (l.length<=20000)&&l.all fun d=>decide (0<=d)&&decide (d<18446744073709551616)
def hW(l:List Int):Bool:=CP l&&decide (l.length<=9000)
def yS(l:List Int):Bool:=decide (l.getLast?≠some 0)
def B7(l:List Int):Bool:=CP l&&yS l
def As(l:List Int):Int:=val Ao l
def BW(n:Int):List Int:=dg Ao n
def u64(n:Int):Bool:=decide (0<=n)&&decide (n<18446744073709551616)
def Cx(n:Int):Bool:=decide (-9223372036854775808<=n)&&decide (n<9223372036854775808)
def Ag(n:Int):Int:=if n<0 then -n else n
theorem Ai(n:Int):Ag n=(n.natAbs:Int):=by unfold Ag;split<;>omega
def vI(a:AF):Int:=if a.2=[]then a.1 else if a.1<0 then -As a.2 else As a.2
def Du(a:AF):Bool:=Cx a.1&&(decide (a.2=[])||(B7 a.2&&(decide (a.1=1)||decide (a.1= -1))&&decide (9223372036854775808<=As a.2)))
def CN(n:Int):AF:=if -9223372036854775808<n/\n<9223372036854775808 then(n,[])else(if n<0 then -1 else 1,BW<|Ag n)
def CL(n:Int):Int:=(CN n).1
def CH(n:Int):List Int:=(CN n).2
def sg(neg:Bool)(v:Int):Int:=if neg=true then -v else v
def HX(x y c:Int):Int:=(x+y+c) % 18446744073709551616
def N5(x y c:Int):Int:=(x+y+c)/18446744073709551616
def S5(x y c:Int):Int:=(x-y-c) % 18446744073709551616
def P0(x y c:Int):Int:=if x<y+c then 1 else 0
def H8(x y:Int):Int:=(x*y) % 18446744073709551616
def Q0(x y:Int):Int:=(x*y)/18446744073709551616
def Cb(a b:Int):Int:=if a<b then -1 else if a>b then 1 else 0
def UT(n:Int):Int:=if n<0 then -1 else if n>0 then 1 else 0
def Eg(a b:AF):AF:=if a.2=[]/\b.2=[]/\Cx (a.1+b.1)=true then(a.1+b.1,[])else CN<|vI a+vI b
def C0(a:AF):AF:=if a.2=[]/\a.1≠ -9223372036854775808 then(-a.1,[])else CN<| -vI a
def Uv(a:AF):AF:=if a.1<0 then C0 a else a
def M5(a b:AF):AF:=Eg a<|C0 b
def E3(a b:AF):AF:=CN<|vI a*vI b
def Ek(a:AF):Int:=(C0 a).1
def Ej(a:AF):List Int:=(C0 a).2
def Od(a:AF):Int:=(Uv a).1
def NR(a:AF):List Int:=(Uv a).2
def JH(a b:AF):Int:=(Eg a b).1
def JQ(a b:AF):List Int:=(Eg a b).2
def YO(a b:AF):Int:=(M5 a b).1
def Yb(a b:AF):List Int:=(M5 a b).2
def ER(a b:AF):Int:=(E3 a b).1
def EP(a b:AF):List Int:=(E3 a b).2
end Go.Sp
namespace Go.Pe
open Sp
open Go.Det
abbrev A0:Sh:=.pair (.int .i64)<|.nlist<|.int .u64
abbrev u64:Sh:=.int .u64
abbrev C4:Sh:=.list<|.int .u64
abbrev wU:Sh:=.nlist<|.int .u64
def Wj:An:=⟨[u64,u64,u64],fun i=>Sp.u64 i.1&&Sp.u64 i.2.1&&decide (0<=(i.2.2:Int))&&decide ((i.2.2:Int)<=1),[u64,u64],fun i=>(HX i.1 i.2.1 i.2.2,N5 i.1 i.2.1 i.2.2),false⟩
def WG:An:=⟨[u64,u64,u64],fun i=>Sp.u64 i.1&&Sp.u64 i.2.1&&decide (0<=(i.2.2:Int))&&decide ((i.2.2:Int)<=1),[u64,u64],fun i=>(S5 i.1 i.2.1 i.2.2,P0 i.1 i.2.1 i.2.2),false⟩
def Rh:An:=⟨[u64,u64],fun i=>Sp.u64 i.1&&Sp.u64 i.2,[u64,u64],fun i=>(Q0 i.1 i.2,H8 i.1 i.2),false⟩
def WT:An:=⟨[i64],fun n=>Cx n,[u64],fun n=>Ag n,false⟩
def Vy:An:=⟨[A0],fun a=>Du a,[.bool,C4],fun a=>(decide (Sp.vI a<0),BW<|Ag<|Sp.vI a),false⟩
def jW:An:=⟨[.bool,C4],fun i=>B7 i.2,[A0],fun i=>(CL<|Sp.sg i.1<|As i.2,CH<|Sp.sg i.1<|As i.2),false⟩
def Wc:An:=⟨[C4],fun l=>CP l,[C4],fun l=>Aw l,false⟩
def XJ:An:=⟨[C4,C4],fun i=>B7 i.1&&B7 i.2,[i64],fun i=>Cb (As i.1)<|As i.2,false⟩
def aQ:An:=⟨[C4,C4],fun i=>Sp.hW i.1&&Sp.hW i.2,[C4],fun i=>BW<|As i.1+As i.2,false⟩
def fR:An:=⟨[C4,C4],fun i=>CP i.1&&CP i.2&&decide (As i.2<=As i.1),[C4],fun i=>BW<|As i.1-As i.2,false⟩
def eJ:An:=⟨[C4,C4],fun i=>Sp.hW i.1&&Sp.hW i.2,[C4],fun i=>BW<|As i.1*As i.2,false⟩
def eW[Srt]:AX:=X7 []
def KY[Srt]:AX:=X7 [(161,WT),(228,Wj),(230,WG),(229,Wc),(160,Rh)]
def XI2[Srt]:AX:=X7 [(162,Vy),(163,jW),(166,aQ),(168,fR),(167,XJ),(164,eJ),(160,Rh),(161,WT)]
theorem Qf{F:Fz}{x y c:Int}{args:List V}(h:Kj F (Ae [Pe.u64,Pe.u64,Pe.u64] (x,y,c)) args):args=[.int .u64 x,.int .u64 y,.int .u64 c]:=by
 have:=h (fun _=>none) 0;simp only[Ae,BU,BD]at this;obtain⟨a,k,rfl,g,b,j,rfl,e,d,i,rfl,f,rfl⟩:=this;simp only[PR,DC,yi,ve]at g e f;rw[g,e,f]
theorem A3{n:Int}(h:Sp.u64 n=true):0<=n/\n<18446744073709551616:=by
 unfold Sp.u64 at h;rw[zd,w5,w5]at h;exact h
namespace T228
theorem ok[Srt]:Af Bb 228 Wj:=by
 refine .inr ⟨PK.add64.run,by kernel_rfl,fun F h args i k e=>?_⟩;obtain⟨x,y,c⟩:=i;have e:(Sp.u64 x&&Sp.u64 y&&decide (0<=c)&&decide (c<=1))=true:=e;rw[zd,zd,zd,w5,w5]at e;obtain⟨⟨⟨g,f⟩,c0⟩,j⟩:=e;have g:=A3 g;have f:=A3 f;have:=Qf k;subst this;obtain⟨a,rfl⟩:=zj g.1;obtain⟨b,rfl⟩:=zj f.1;obtain⟨d,rfl⟩:=zj c0;have j:(d:Int)<=1:=j;have l:Nat.ble d 1=true:=Nat.ble_eq_true_of_le ae;refine⟨.tup [.int .u64<|.ofNat<|(a+b+d) % kS,.int .u64<|.ofNat<|(a+b+d)/kS],?_,fun ρ N=>?_⟩
 ·show(bif Nat.ble d 1 then _ else _)=_;rw[l];rfl
 ·show PR F ρ N (.tup [.dat Pe.u64<|HX a b d,.dat Pe.u64<|N5 a b d]) _;simp only[PR,BD];refine⟨_,rfl,_,_,rfl,?_,_,_,rfl,?_,rfl⟩<;>simp[DC,kS,HX,N5]
end T228
namespace T230
theorem ok[Srt]:Af Bb 230 WG:=by
 refine .inr ⟨PK.sub64.run,by kernel_rfl,fun F h args i m g=>?_⟩;obtain⟨x,y,c⟩:=i;have g:(Sp.u64 x&&Sp.u64 y&&decide (0<=c)&&decide (c<=1))=true:=g;rw[zd,zd,zd,w5,w5]at g;obtain⟨⟨⟨j,k⟩,c0⟩,l⟩:=g;have j:=A3 j;have k:=A3 k;have:=Qf m;subst this;obtain⟨a,rfl⟩:=zj j.1;obtain⟨b,rfl⟩:=zj k.1;obtain⟨d,rfl⟩:=zj c0;have l:(d:Int)<=1:=l;have n:Nat.ble d 1=true:=Nat.ble_eq_true_of_le ae;refine⟨.tup [.int .u64<|.ofNat<|(a+kS-b-d) % kS,.int .u64<|.ofNat<|bif Nat.blt a (b+d)then 1 else 0],?_,fun ρ N=>?_⟩
 ·show(bif Nat.ble d 1 then _ else _)=_;rw[n];rfl
 ·show PR F ρ N (.tup [.dat Pe.u64<|S5 a b d,.dat Pe.u64<|P0 a b d]) _;simp only[PR,BD];refine⟨_,rfl,_,_,rfl,?_,_,_,rfl,?_,rfl⟩
  ·simp only[DC,kS,S5,yi,V.int.injEq,ve,true_and];have e:(((a+18446744073709551616-b-d) % 18446744073709551616:Nat):Int)=((a:Int)-b-d) % 18446744073709551616:=ae
   exact e
  ·simp only[DC,P0,yi,V.int.injEq,ve,true_and];rw[F4];by_cases f:a<b+d
   ·rw[wd ae];simp[f]
   ·rw[wc ae];simp[f]
end T230
end Go.Pe
namespace Go.Sp
theorem AD(b:Int):∀(l:List Int) (i:Nat),val b (l.take<|i+1)=val b (l.take i)+b^i*l.getD i 0
 |[],i=>by simp[val]
 |x::l,0=>by
  show x+b*val b (l.take 0)=0+b^0*x;simp[val]
 |x::l,i+1=>by
  have:=AD b l i;show x+b*val b (l.take<|i+1)=x+b*val b (l.take i)+b^(i+1)*l.getD i 0;rw[this,zy,yx,Int.mul_comm (b^i) b,yp,yv]
theorem Iu{l:List Int}(h:CP l=true):l.length<=20000/\Av Ao l:=by
 unfold CP at h;rw[zd,w5,List.all_eq_true]at h;exact⟨h.1,fun d a=>by
  have:=h.2 d a;rw[zd,w5,w5]at this;exact this⟩
theorem D9{l:List Int}(b:l.length<=20000)(c:Av Ao l):CP l=true:=by
 unfold CP;rw[zd,w5,List.all_eq_true];exact⟨b,fun d a=>by
  have:=c d a;rw[zd,w5,w5];exact this⟩
theorem XW{l:List Int}(h:hW l=true):l.length<=9000/\Av Ao l:=by
 unfold hW at h;rw[zd,w5]at h;exact⟨h.2,(Iu h.1).2⟩
theorem AY{l:List Int}(h:Av Ao l)(i:Nat):u64 (l.getD i 0)=true:=by
 unfold u64;rw[zd,w5,w5];rcases yw i l.length with a|a
 ·have:l.getD i 0∈l:=by rw[zg,zm a];exact List.getElem_mem a
  exact h _ this
 ·rw[zg,yg a];exact⟨by decide,by decide⟩
theorem A3{n:Int}(h:u64 n=true):0<=n/\n<18446744073709551616:=by
 unfold u64 at h;rw[zd,w5,w5]at h;exact h
theorem CG{n:Int}(a:0<=n)(b:n<18446744073709551616):u64 n=true:=by
 unfold u64;rw[zd,w5,w5];exact⟨a,b⟩
theorem DO{l:List Int}{x:Int}(h:Av Ao l)(b:u64 x=true):Av Ao (l++[x]):=by
 intro d a;rw[List.mem_append,zn]at a;rcases a with a|rfl
 ·exact h d a
 ·exact A3 b
theorem Ll{x y c:Int}(b:u64 x=true)(a:u64 y=true)(d:0<=c/\c<=1):u64 (HX x y c)=true/\(0<=N5 x y c/\N5 x y c<=1)/\HX x y c+18446744073709551616*N5 x y c=x+y+c:=by
 have:=A3 b;have:=A3 a;unfold HX N5;exact⟨CG ae ae,⟨by omega,by omega⟩,by omega⟩
theorem GF{x y c:Int}(b:u64 x=true)(a:u64 y=true)(d:0<=c/\c<=1):u64 (S5 x y c)=true/\(0<=P0 x y c/\P0 x y c<=1)/\S5 x y c-18446744073709551616*P0 x y c=x-y-c:=by
 have:=A3 b;have:=A3 a;unfold S5 P0;refine⟨CG ae ae,?_,?_⟩<;>split<;>omega
theorem EK(l:List Int)(x:Int):val Ao (l++[x])=val Ao l+(Ao:Int)^l.length*x:=by
 rw[CR];simp[val]
theorem Kz(i:Nat)(c:Int):(Ao:Int)^(i+1)*c=(Ao:Int)^i*(18446744073709551616*c):=by
 rw[yx,yp];rfl
theorem Jl(p:List Int)(n i:Nat)(x:Int)(h:p.length=i)(a:i<n):(p++zf (n-i) (0:Int)).set i x=(p++[x])++zf (n-(i+1)) 0:=by
 have:n-i=(n-(i+1))+1:=ae
 rw[this,List.replicate_succ,Pe.Df p _ 0 x h,yo];rfl
theorem Kk{l:List Int}(h:Av Ao l):Aw l=BW (As l):=XV af h
end Go.Sp
namespace Go.Pe
open Sp
open Go.Det
section
open List Int Prod
namespace T161
def T[Srt](n:Int):Tr:=tree eW false 9 161<|Ae ([zi yb]) n
theorem Aj[Srt](n:Int):T n=.di (n<0) (.leaf (.dat (zi ze)<|zc .u64<|zc .i64<|0-n) []) (.leaf (.dat (zi ze)<|zc .u64 n) []):=by kernel_rfl
end T161
namespace T162
def T[Srt](a:AF):Tr:=tree KY false 9 162<|Ae ([A0]) a
theorem Aj[Srt](a:AF):T a=.di (0<length (snd a)) (.leaf (.tup [.dat Sh.bool<|decide (fst a<0),.dat wU<|snd a]) []) (.ite (fst a==0) (.leaf (.tup [.bl false,.nil]) [])<|.ck (Cx<|fst a)<|.leaf (.tup [.dat Sh.bool<|decide (fst a<0),.sl (yy 0 1) 1 0 1 none])<|[(yy 0 1,.arr false 200 (zi ze) [Ag<|fst a]),(0,.box [.dat i64<|fst a,.dat wU<|snd a])]):=by kernel_rfl
end T162
namespace T163
def T[Srt](neg:Bool)(w:List Int):Tr:=tree KY false 9 163<|Ae ([Sh.bool,zl<|zi ze]) (neg,w)
theorem Aj[Srt](neg:Bool)(w:List Int):T neg w=let e:=decide (getD w 0 0<=9223372036854775807);let b:=(length w:Int);let d:=zl<|zi ze;let b':Tr:=.ite neg (.leaf (yd [.dat i64 (-1:Int),.dat d w]) [])<|.leaf (yd [.dat i64 (1:Int),.dat d w]) [];let a:=decide (0<b);let c:Tr:=.ite (b==1) (.ck a<|.ite e (.ck a<|.leaf (yd [.dat i64<|zc .i64<|getD w 0 0,.nil]) []) b') b';.ite (b==0) (.leaf (yd [.dat i64 (0:Int),.nil]) []) (.ite (b==1) (.ck a<|.ite e (.ite neg (.ck a<|.leaf (yd [.dat i64<|zc .i64<|0-zc .i64 (getD w 0 0),.nil]) []) c) c) c):=by kernel_rfl
end T163
namespace T229
def T[Srt](w:List Int):Tr:=tree eW false 9 229<|Ae ([zl<|zi ze]) w
def L1[Srt](v0:List Int)(v3:Int):Tr:=re ((T []))<|AE 21 [(0,.dat (zl<|zi ze) v0),(3,.dat i64 v3)] [] 0
theorem Aj[Srt](w:List Int):T w=L1 w ((length w:Int)):=by kernel_rfl
theorem Am[Srt](v0:List Int)(v3:Int):stepT eW (L1 v0 v3)=let a:Tr:=.ck (decide (0<=v3)&&decide (0<=toNat v3)&&decide (toNat v3<=length v0))<|.leaf (.dat (zl<|zi ze)<|take (toNat v3) v0) [];let b':=zc .i64<|v3-1;.di (v3>0) (.ck (decide (0<=zc .i64 (v3-1))&&decide (zc .i64 (v3-1)<(length v0:Int)))<|.ite (getD v0 (toNat b') 0==0) (L1 v0 b') a) a:=by kernel_rfl
end T229
namespace T167
def T[Srt](a b:List Int):Tr:=tree eW false 9 167<|Ae ([zl<|zi ze,zl<|zi ze]) (a,b)
def L1[Srt](v0 v1:List Int)(v5:Int):Tr:=re ((T [] []).R)<|AE 41 [(0,.dat (zl<|zi ze) v0),(1,.dat (zl<|zi ze) v1),(5,.dat i64 v5)] [] 0
theorem Aj[Srt](a b:List Int):T a b=let c:=(length a:Int);.ite (c !=(length b:Int)) (.di (c<(length b:Int)) (.leaf (.dat i64 (-1:Int)) [])<|.leaf (.dat i64 (1:Int)) []) (L1 a b<|zc .i64<|c-1):=by kernel_rfl
theorem Am[Srt](v0 v1:List Int)(v5:Int):stepT eW (L1 v0 v1 v5)=let a:=decide (0<=v5)&&decide (v5<(length v0:Int));let b':=decide (0<=v5)&&decide (v5<(length v1:Int));.di (v5>=0) (.ck a<|.ck b'<|.ite (getD v0 (toNat v5) 0 !=getD v1 (toNat v5) 0) (.ck a<|.ck b'<|.di (getD v0 (toNat v5) 0<getD v1 (toNat v5) 0) (.leaf (.dat i64 (-1:Int)) [])<|.leaf (.dat i64 (1:Int)) [])<|L1 v0 v1<|zc .i64<|v5-1) (.leaf (.dat i64 (0:Int)) []):=by kernel_rfl
end T167
namespace T166
def T[Srt](x y:List Int):Tr:=tree KY false 9 166<|Ae ([zl<|zi ze,zl<|zi ze]) (x,y)
def L1[Srt](v0 v1:List Int)(a:Nat)(e c b:Int)(d:List Int):Tr:=re ((T [] []).L.L)<|AE 54 [(0,.dat (zl<|zi ze) v0),(1,.dat (zl<|zi ze) v1),(5,.sl 0 1 0 a none),(6,.dat (zi ze) e),(21,.dat i64 c),(22,.dat i64 b)] [(0,.arr false 200 (zi ze) d)] 1
theorem Aj[Srt](x y:List Int):T x y=let a:=(length x:Int);let b':=(length y:Int);let b:=zc .i64<|b'+1;let c:=zc .i64<|a+1;.di (a<b') (.ck (decide (0<=zc .i64 (b'+1))&&decide (zc .i64 (b'+1)=zc .i64 (b'+1))&&decide (8*toNat b<=281474976710656)&&decide (zc .i64 (b'+1)<9223372036854775808))<|L1 y x (toNat b) 0 b' 0<|replicate (toNat b) 0) (.ck (decide (0<=zc .i64 (a+1))&&decide (zc .i64 (a+1)=zc .i64 (a+1))&&decide (8*toNat c<=281474976710656)&&decide (zc .i64 (a+1)<9223372036854775808))<|L1 x y (toNat c) 0 a 0<|replicate (toNat c) 0):=by kernel_rfl
theorem Am[Srt](v0 v1:List Int)(b:Nat)(d c a:Int)(e:List Int):stepT KY (L1 v0 v1 b d c a e)=let f:=getD v0 (toNat a) 0;let b':=(length v0:Int);let i:=getD v1 (toNat a) 0;let m:=decide (0<=a)&&decide (a<(↑b:Int));let n:=decide ((0:Sh.T (Bz [u64]))<=d);let l:=decide (d<=(1:Sh.T (Bz [u64])));let o:=decide (toNat a<length e);let k:=decide (a<(length v1:Int));let j:=zc .i64<|a+1;let g:=set e (toNat b') d;let h':=decide (0<=a)&&decide (a<b');.di (a<c) (.ite k (.ck (decide (0<=a)&&k)<|.ck h'<|.ck (Sp.u64 f&&Sp.u64 i&&n&&l)<|.ck m<|.ck o<|L1 v0 v1 b (N5 f i d) c j<|set e (toNat a)<|HX f i d)<|.ck h'<|.ck (Sp.u64 f&&Sp.u64 0&&n&&l)<|.ck m<|.ck o<|L1 v0 v1 b (N5 f 0 d) c j<|set e (toNat a)<|HX f 0 d) (.ck (decide (0<=b')&&decide (b'<(↑b:Int)))<|.cd (toNat b'<length e)<|.ck (decide (0+b<=length g)&&true&&CP (take b g))<|.leaf (.dat (zl<|zi ze)<|Aw<|take b g) []):=by kernel_rfl
end T166
namespace T168
def T[Srt](x y:List Int):Tr:=tree KY false 9 168<|Ae ([zl<|zi ze,zl<|zi ze]) (x,y)
def L1[Srt](v0 v1:List Int)(a:Nat)(d c b:Int)(e:List Int):Tr:=re ((T [] []).L)<|AE 41 [(0,.dat (zl<|zi ze) v0),(1,.dat (zl<|zi ze) v1),(5,.sl 0 1 0 a none),(6,.dat (zi ze) d),(13,.dat i64 c),(14,.dat i64 b)] [(0,.arr false 200 (zi ze) e)] 1
theorem Aj[Srt](x y:List Int):T x y=let a:=(length x:Int);.ck (decide (0<=a)&&decide (a=a)&&decide (8*toNat a<=281474976710656)&&decide (a<9223372036854775808)) (L1 x y (toNat a) 0 a 0<|replicate (toNat a) 0):=by kernel_rfl
theorem Am[Srt](v0 v1:List Int)(b:Nat)(e c a:Int)(d:List Int):stepT KY (L1 v0 v1 b e c a d)=let f:=getD v0 (toNat a) 0;let b':=decide (0<=a)&&decide (a<(length v0:Int));let g:=getD v1 (toNat a) 0;let m:=decide (0<=a)&&decide (a<(↑b:Int));let k:=decide ((0:Sh.T (Bz [u64]))<=e);let j:=decide (e<=(1:Sh.T (Bz [u64])));let i:=decide (toNat a<length d);let h':=decide (a<(length v1:Int));let l:=zc .i64<|a+1;.di (a<c) (.ite h' (.ck (decide (0<=a)&&h')<|.ck b'<|.ck (Sp.u64 f&&Sp.u64 g&&k&&j)<|.ck m<|.ck i<|L1 v0 v1 b (P0 f g e) c l<|set d (toNat a)<|S5 f g e)<|.ck b'<|.ck (Sp.u64 f&&Sp.u64 0&&k&&j)<|.ck m<|.ck i<|L1 v0 v1 b (P0 f 0 e) c l<|set d (toNat a)<|S5 f 0 e) (.ck (decide (0+b<=length d)&&true&&CP (take b d))<|.leaf (.dat (zl<|zi ze)<|Aw<|take b d) []):=by kernel_rfl
end T168
namespace T160
def T[Srt](x y:Int):Tr:=tree eW false 9 160<|Ae ([zi ze,zi ze]) (x,y)
theorem Aj[Srt](x y:Int):T x y=let a:=zc .u64<|zc .u64 (zq x (2^32)*Hc ze y 4294967295)+zq (zc .u64<|Hc ze x 4294967295*Hc ze y 4294967295) (2^32);.ck true (.ck true<|.ck true<|.ck true<|.ck true<|.leaf (.tup [.dat (zi ze)<|zc .u64<|zc .u64 (zc .u64 (zq x (2^32)*zq y (2^32))+zq a (2^32))+zq (zc .u64<|Hc ze a 4294967295+zc .u64 (Hc ze x 4294967295*zq y (2^32))) (2^32),.dat (zi ze)<|zc .u64<|x*y]) []):=by kernel_rfl
end T160
namespace T164
def T[Srt](x y:List Int):Tr:=tree KY false 9 164<|Ae ([zl<|zi ze,zl<|zi ze]) (x,y)
def L1[Srt](v1:List Int)(b:Nat)(v20:List Int)(a c:Int)(d:List Int):Tr:=re ((T [] []).L)<|AE 80 [(1,.dat (zl<|zi ze) v1),(5,.sl 0 1 0 b none),(20,.dat (zl<|zi ze) v20),(21,.dat i64 a),(22,.dat i64 c)] [(0,.arr false 200 (zi ze) d)] 1
theorem Aj[Srt](x y:List Int):T x y=let a:=(length x:Int)+(length y:Int);let b':=zc .i64 a;.ck (decide (0<=zc .i64 a)&&decide (zc .i64 a=zc .i64 a)&&decide (8*toNat b'<=281474976710656)&&decide (zc .i64 a<9223372036854775808)) (L1 y (toNat b') x ((length x:Int)) 0<|replicate (toNat b') 0):=by kernel_rfl
def L2[Srt](v1:List Int)(e:Nat)(g k j:Int)(v20:List Int)(d b:Int)(f:List Int)(a c:Int)(i:List Int):Tr:=re ((stepT KY<|L1 [] 0 [] 0 0 []).L.L)<|AE 80 [(1,.dat (zl<|zi ze) v1),(5,.sl 0 1 0 e none),(6,.dat i64 g),(7,.dat (zi ze) k),(8,.dat (zi ze) j),(20,.dat (zl<|zi ze) v20),(21,.dat i64 d),(22,.dat i64 b),(27,.dat (zl<|zi ze) f),(28,.dat i64 a),(29,.dat i64 c)] [(0,.arr false 200 (zi ze) i)] 1
theorem Am[Srt](v1:List Int)(b:Nat)(v20:List Int)(c a:Int)(d:List Int):stepT KY (L1 v1 b v20 c a d)=.di (a<c) (.ck (decide (0<=a)&&decide (a<(length v20:Int)))<|L2 v1 b a (getD v20 (toNat a) 0) 0 v20 c a v1 ((length v1:Int)) 0 d) (.ck (decide (0+b<=length d)&&true&&CP (take b d))<|.leaf (.dat (zl<|zi ze)<|Aw<|take b d) []):=by kernel_rfl
theorem AU[Srt](v1:List Int)(b:Nat)(i j k:Int)(v20:List Int)(f e:Int)(c:List Int)(d a:Int)(g:List Int):stepT KY (L2 v1 b i j k v20 f e c d a g)=let b':=zc .i64<|i+a;let o:=getD c (toNat a) 0;let q:=decide (0<=zc .i64 (i+a))&&decide (zc .i64 (i+a)<(↑b:Int));let l:=i+(length v1:Int);let r:=decide ((0:Sh.T (Bz [u64]))<=0);let h':=decide (0<=(1:Sh.T (Bz [u64])));let n:=getD g (toNat b') 0;let s:=decide (toNat b'<length g);let m:=H8 j o;let p:=HX m n 0;.di (a<d) (.ck (decide (0<=a)&&decide (a<(length c:Int)))<|.ck (Sp.u64 j&&Sp.u64 o)<|.ck q<|.ck s<|.ck (Sp.u64 m&&Sp.u64 n&&r&&h')<|.ck (Sp.u64 p&&Sp.u64 k&&r&&h')<|.ck q<|.ck s<|L2 v1 b i j (zc .u64<|zc .u64 (Q0 j o+N5 m n 0)+N5 p k 0) v20 f e c d (zc .i64<|a+1)<|set g (toNat b')<|HX p k 0) (.ck (decide (0<=zc .i64 l)&&decide (zc .i64 l<(↑b:Int)))<|.cd (toNat (zc .i64 l)<length g)<|L1 v1 b v20 f (zc .i64<|e+1)<|set g (toNat<|zc .i64 l) k):=by kernel_rfl
end T164
end
theorem I2[Srt]:Dn eW:=fun g sp h=>by cases h
theorem wu(x:Int)(a:0<=x)(b:x<=18446744073709551615):zc .u64 x=x:=IntWalk.u64_in x ⟨a,b⟩
theorem Ff{n:Int}(h:Cx n=true): -9223372036854775808<=n/\n<9223372036854775808:=by
 unfold Cx at h;rw[zd,w5,w5]at h;exact h
namespace T161
theorem ok[Srt]:Af Bb 161 WT:=by
 refine BL I2<|fun(n:Int) a=>?_;have a:=Ff (n:=n) a;refine Ends.eq (Aj n)<|Ends.ite (fun c=>?_)<|fun c=>?_
 ·have c:=w6 c;refine Ends.leaf<|Ac.of rfl rfl ?_;show zc .u64 (zc .i64<|0-n)=Ag n;simp only[Ai];rcases zo (-9223372036854775808) n with h|h
  ·rw[wr _ ae ae,wu _ ae ae];omega
  ·have:n= -9223372036854775808:=ae
   subst this;decide+kernel
 ·have c:=w7 c;refine Ends.leaf<|Ac.of rfl rfl ?_;show zc .u64 n=Ag n;simp only[Ai];rw[wu _ ae ae];omega
end T161
namespace T229
theorem Aq[Srt]{Q:PV->Ob->Prop}(w:List Int)(e:w.length<=20000)(b:∀ob,Q (.dat C4<|Aw w) ob):∀(i:Nat),i<=w.length->Aw w=Aw (w.take i)->Ends eW (L1 w i) Q
 |0,f,a=>by
  have a:Aw w=[]:=a;rw[a]at b;refine Ends.Ap (Am ..) (Ends.ff (by simp)<|Ends.tt (by simp)<|Ends.leaf<|b _)
 |i+1,f,a=>by
  have e1:zc .i64 (((i+1:Nat):Int)-1)=(i:Int):=by rw[wr _ ae ae];omega
  have d:w.take (i+1)=w.take i++[w.getD i 0]:=by
   rw[List.take_add_one];congr 1;rw[zg,zm ae];rfl
  refine Ends.Ap (Am ..) (Ends.tt (by simp<;>omega) ?_);rw[e1,zh];refine Ends.tt (by simp<;>omega)<|Ends.ite (fun c=>?_)<|fun c=>?_
  ·have c:w.getD i 0=0:=by simpa using c
   refine Aq w e b i ae ?_;rw[a,d,c,Ir]
  ·have c:w.getD i 0≠0:=by simpa using c
   refine Ends.tt (by simp;omega)<|Ends.leaf ?_;have:Aw w=w.take (i+1):=by rw[a,d,Io<|XY c]
   rw[this]at b;exact b _
theorem ok[Srt]:Af Bb 229 Wc:=by
 refine BL I2<|fun(w:List Int) hw=>?_;obtain⟨a,b⟩:=Iu (l:=w) hw;refine Ends.eq (Aj w) (Aq w a (fun ob=>Ac.of rfl rfl rfl) w.length (zx _)<|by rw[yc])
end T229
theorem EO{l:List Int}(h:B7 l=true):l.length<=20000/\Av Ao l/\Sp.nz l:=by
 unfold B7 at h;rw[zd]at h;have:=Iu h.1;exact⟨this.1,this.2,by
  have:=h.2;unfold yS at this;have:l.getLast?≠some 0:=w6 this;exact this⟩
namespace T167
theorem Aq[Srt]{Q:PV->Ob->Prop}(a b:List Int)(k:Av Ao a)(j:Av Ao b)(m:a.length=b.length)(n:b.length<=20000)(f:∀ob,Q (.dat i64<|Cb (As a)<|As b) ob):∀(i:Nat),i<=a.length->a.drop i=b.drop i->Ends eW (L1 a b<|(i:Int)-1) Q
 |0,o,g=>by
  have g:a=b:=g;have:Cb (As a) (As b)=0:=by rw[g];unfold Cb;simp
  rw[this]at f;exact Ends.Ap (Am ..) (Ends.ff (by simp)<|Ends.leaf<|f _)
 |i+1,o,g=>by
  have e1:(((i+1:Nat):Int)-1)=(i:Int):=ae
  have l:a.drop i=a.getD i 0::a.drop (i+1):=by
   rw[zg,zm ae];exact zt ae
  have db:b.drop i=b.getD i 0::a.drop (i+1):=by
   rw[g,zg,zm ae];exact zt ae
  have q:=Sp.A3<|AY k i;have p:=Sp.A3<|AY j i;rw[e1];refine Ends.Ap (Am ..) (Ends.tt (by simp) ?_);rw[zh];refine Ends.tt (by simp;omega) (Ends.tt (by simp;omega) (Ends.ite (fun c=>Ends.tt (by simp;omega)<|Ends.tt (by simp;omega)<|Ends.ite (fun d=>?_)<|fun d=>?_)<|fun c=>?_))
  ·have d:=w6 d;have:=Jr (b:=Ao) af k j l db d;have e:Cb (As a) (As b)= -1:=by unfold Cb;exact wd this
   rw[e]at f;exact Ends.leaf<|f _
  ·have d:=w7 d;have c:a.getD i 0≠b.getD i 0:=by simpa using c
   have:=Jr (b:=Ao) af j k db l ae;have e:Cb (As a) (As b)=1:=by
    unfold Cb As;rw[wc ae,wd ae]
   rw[e]at f;exact Ends.leaf<|f _
  ·have c:a.getD i 0=b.getD i 0:=by simpa using c
   rw[wr ((i:Int)-1) ae ae];exact Aq a b k j m n f i ae (by rw[l,db,c])
theorem ok[Srt]:Af Bb 167 XJ:=by
 refine BL I2<|fun(i:List Int×List Int) g=>?_;obtain⟨a,b⟩:=i;have g:(B7 a&&B7 b)=true:=g;rw[zd]at g;obtain⟨a1,a2,a3⟩:=EO g.1;obtain⟨b1,b2,b3⟩:=EO g.2;have f:∀ob,Ac XJ (a,b) (.dat i64<|Cb (As a)<|As b) ob:=fun ob=>Ac.of rfl rfl rfl
 refine Ends.eq (Aj a b)<|Ends.ite (fun c=>Ends.ite (fun d=>?_)<|fun d=>?_)<|fun c=>?_
 ·have d:=w6 d;have e:Cb (As a) (As b)= -1:=by unfold Cb;exact wd (Ex af a2 b2 b3 ae)
  rw[e]at f;exact Ends.leaf<|f _
 ·have d:=w7 d;have c:(a.length:Int)≠b.length:=by simpa using c
  have:=Ex (b:=Ao) af b2 a2 a3 ae;have e:Cb (As a) (As b)=1:=by
   unfold Cb As;rw[wc ae,wd ae]
  rw[e]at f;exact Ends.leaf<|f _
 ·have c:(a.length:Int)=b.length:=by simpa using c
  rw[wr _ ae ae];exact Aq a b a2 b2 ae b1 f a.length (zx _) (by rw[List.drop_length,show a.length=b.length by omega,List.drop_length])
end T167
theorem EZ{a:AF}(h:Du a=true):(-9223372036854775808<=a.1/\a.1<9223372036854775808)/\(a.2=[]\/(B7 a.2=true/\(a.1=1\/a.1= -1)/\9223372036854775808<=As a.2)):=by
 unfold Du at h;rw[zd,Bool.or_eq_true,zd,zd,Bool.or_eq_true,w5,w5,w5,w5]at h;exact⟨Ff h.1,h.2.imp id fun h=>⟨h.1.1,h.1.2,h.2⟩⟩
theorem val_one(d:Int):zp Ao [d]=d:=by simp[zp]
theorem wN{d:Int}(e:0<d)(c:d<18446744073709551616):[d]=BW d:=by
 have:=JJ (b:=Ao) (l:=[d]) af (fun x a=>by rw[zn]at a;subst a;exact⟨by omega,c⟩) (by unfold Sp.nz;simp;omega);rw[val_one]at this;exact this
theorem E0{s:Int}:Sp.vI (s,[])=s:=by unfold Sp.vI;exact wd rfl
namespace T162
theorem ok[Srt](f:∀g sp,KY.sp g=some sp->Af Bb g sp):Af Bb 162 Vy:=by
 refine MW (X:=KY) rfl f (d:=9) ag ag ag (fun(a:Int×List Int) ha=>?_) (BK ag);obtain⟨j,i⟩:=EZ (a:=a) ha;obtain⟨s,w⟩:=a;have j: -9223372036854775808<=s/\s<9223372036854775808:=j;refine Ends.eq (Aj (s,w))<|Ends.ite (fun c=>?_)<|fun c=>Ends.ite (fun d=>?_)<|fun d=>Ends.tt ?_ ?_
 ·have c:0<w.length:=w6 c;have e:w≠[]:=by rintro rfl;simp at c
  rcases i with i|⟨o,k,l⟩
  ·exact wh i e
  ·obtain⟨n1,n2,m⟩:=EO o;have k:s=1\/s= -1:=k;have l:9223372036854775808<=As w:=l;have ev:Sp.vI (s,w)=if s<0 then -As w else As w:=by unfold Sp.vI;exact wc e
   have e1:Ag (Sp.vI (s,w))=As w:=by rw[ev];simp only[Ai];split<;>omega
   have e2:decide (Sp.vI (s,w)<0)=decide (s<0):=by
    rw[ev];rcases k with rfl|rfl<;>simp<;>omega
   refine Ends.leaf<|Ac.of rfl rfl ?_;show(decide (s<0),w)=(decide (Sp.vI (s,w)<0),BW<|Ag<|Sp.vI (s,w));rw[e1,e2,show w=BW (As w)from JJ af n2 m];congr 2;exact(C3 (b:=Ao) af<|Az (b:=Ao) af n2).symm
 all_goals
  have c:¬0<w.length:=w7 c;have n:w=[]:=List.length_eq_zero_iff.1 ae;subst n
 ·have d:s=0:=by simpa using d
  subst d;exact Ends.leaf<|Ac.of rfl rfl rfl
 ·show Cx s=true;unfold Cx;rw[zd,w5,w5];exact j
 ·have d:s≠0:=by simpa using d
  refine Ends.leaf<|Ac.of rfl rfl ?_;show(decide (s<0),[Ag s])=(decide (Sp.vI (s,[])<0),BW<|Ag<|Sp.vI (s,[]));rw[E0,wN (d:=Ag s) (by simp only[Ai];omega)<|by simp only[Ai];omega]
end T162
theorem Cc{n:Int}(h: -9223372036854775808<n/\n<9223372036854775808):CN n=(n,[]):=wd h
theorem SH{w:List Int}(neg:Bool)(a:Av Ao w)(b:Sp.nz w)(c:9223372036854775808<=As w):CN (if neg=true then -As w else As w)=(if neg=true then -1 else 1,w):=by
 have e:BW (As w)=w:=(JJ af a b).symm;cases neg with
 |true=>
  simp only[wm];unfold CN;rw[wc ae,wd ae];rw[show Ag (-As w)=As w by simp only[Ai];omega,e]
 |false=>
  show CN (As w)=(1,w);unfold CN;rw[wc ae,wc ae];rw[show Ag (As w)=As w by simp only[Ai];omega,e]
namespace T163
theorem ok[Srt](f:∀g sp,KY.sp g=some sp->Af Bb g sp):Af Bb 163 jW:=by
 refine MW (X:=KY) rfl f (d:=9) ag ag ag (fun(i:Bool×List Int) hi=>?_) (BK ag);obtain⟨neg,w⟩:=i;obtain⟨n1,n2,n3⟩:=EO (l:=w) hi;refine Ends.eq (Aj neg w) ?_;conv=>zeta
 cases w with
 |nil=>
  refine Ends.tt rfl (Ends.leaf<|Ac.of rfl rfl ?_);show _=CN (if neg=true then -0 else 0);rw[show(if neg=true then(-0:Int)else 0)=0 by split<;>rfl,Cc ae]
 |cons d t=>
  cases t with
  |nil=>
   have k:=n2 d (by simp);have s:d≠0:=by intro h;subst h;exact n3 rfl
   have q:0<=d:=k.1;have p:d<18446744073709551616:=k.2;have ev:As [d]=d:=val_one d;refine Ends.ff rfl (Ends.tt rfl (Ends.tt rfl (Ends.ite (fun c=>?_)<|fun c=>?_)))
   ·have c:d<=9223372036854775807:=w6 c;have e1:zc .i64 d=d:=wr _ ae ae;have e2:zc .i64 (0-d)= -d:=by rw[wr _ ae ae];omega
    refine Ends.ite (fun n=>Ends.tt rfl (Ends.leaf<|Ac.of rfl rfl ?_))<|fun n=>Ends.tt rfl (Ends.tt rfl (Ends.tt (w4 c)<|Ends.tt rfl (Ends.leaf<|Ac.of rfl rfl ?_)))
    ·show(zc .i64<|0-zc .i64 d,[])=CN (if neg=true then -As [d]else As [d]);rw[e1,e2,wd n,ev,Cc ae]
    ·show(zc .i64 d,[])=CN (if neg=true then -As [d]else As [d]);subst n;rw[e1,wc af,ev,Cc ae]
   ·have r:¬d<=9223372036854775807:=w7 c;have a:=SH neg n2 n3 (by rw[ev];omega);refine Ends.tt rfl (Ends.tt rfl (Ends.ff c<|Ends.ite (fun n=>Ends.leaf<|Ac.of rfl rfl ?_)<|fun n=>Ends.leaf<|Ac.of rfl rfl ?_))
    ·show(-1,[d])=CN (if neg=true then -As [d]else As [d]);rw[a,wd n]
    ·show(1,[d])=CN (if neg=true then -As [d]else As [d]);rw[a,n];rfl
  |cons e t=>
   have o:9223372036854775808<=As (d::e::t):=by
    have h:=C2 (b:=Ao) af n2 n3 (by simp);have j:=AP (b:=Ao) af (show 1<=(d::e::t).length-1 by simp);rw[Int.pow_one]at j;have:(9223372036854775808:Int)<=(Ao:Int):=af
    exact Int.le_trans this<|Int.le_trans j h
   have a:=SH neg n2 n3 o;have z0:(((d::e::t).length:Int)==0)=false:=by simp;omega
   have m:(((d::e::t).length:Int)==1)=false:=by simp;omega
   refine Ends.ff z0<|Ends.ff m<|Ends.ff m<|Ends.ite (fun n=>Ends.leaf<|Ac.of rfl rfl ?_)<|fun n=>Ends.leaf<|Ac.of rfl rfl ?_
   ·show(-1,d::e::t)=CN (if neg=true then -As (d::e::t)else As (d::e::t));rw[a,wd n]
   ·show(1,d::e::t)=CN (if neg=true then -As (d::e::t)else As (d::e::t));rw[a,n];rfl
end T163
namespace T166
theorem Aq[Srt](x y:List Int)(r:Av Ao x)(s:Av Ao y)(q:y.length<=x.length)(v:x.length<=9000)(n:∀ob,Q (.dat C4<|BW<|As x+As y) ob):∀(k i:Nat) (p:List Int) (c:Int),i+k=x.length->p.length=i->Av Ao p->(0<=c/\c<=1)->zp Ao p+(Ao:Int)^i*c=zp Ao (x.take i)+zp Ao (y.take i)->
  Ends KY (L1 x y (x.length+1) c x.length i<|p++zf (x.length+1-i) 0) Q
 |0,i,p,c,l,b,j,a,m=>by
  have l:i=x.length:=ae
  subst l;have w:x.length+1-x.length=1:=ae
  have es:(p++zf (x.length+1-x.length) (0:Int)).set x.length c=p++[c]:=by
   rw[w];exact Pe.Df p [] 0 c b
  have t:(p++[c]).take (x.length+1)=p++[c]:=zk (by simp;omega);have e:Av Ao (p++[c]):=DO j (CG a.1 ae);have u:As (p++[c])=As x+As y:=by
   unfold As;rw[EK,b,m,yc,zk q]
  refine Ends.Ap (Am ..) (Ends.ff (by simp) ?_);rw[zh,es,t];refine Ends.tt (by simp<;>omega) (Ends.tt (by simp;omega)<|Ends.tt ?_<|Ends.leaf ?_)
  ·rw[D9 (by simp;omega) e];simp;omega
  ·rw[Kk e,u];exact n _
 |k+1,i,p,c,l,b,j,a,m=>by
  have f:=AY r i;have o:=AY s i;have lo:(p++zf (x.length+1-i) (0:Int)).length=x.length+1:=by simp;omega
  have step:∀z,Sp.u64 z=true->z=y.getD i 0->Ends KY (L1 x y (x.length+1) (N5 (x.getD i 0) z c) x.length (zc .i64<|(i:Int)+1)<|(p++zf (x.length+1-i) 0).set i<|HX (x.getD i 0) z c) Q:=by
   intro z g A;obtain⟨a1,a2,a3⟩:=Ll f g a;rw[wr ((i:Int)+1) ae ae,Jl p (x.length+1) i _ b ae];refine Aq x y r s q v n k (i+1) (p++[HX (x.getD i 0) z c]) _ ae (by simp;omega) (DO j a1) a2 ?_;rw[EK,b,Kz,AD _ x i,AD _ y i, <-A,yv, <-zy,a3,zy,zy];omega
  refine Ends.Ap (Am ..) (Ends.tt (by simp;omega) ?_);rw[zh];refine Ends.ite (fun d=>?_)<|fun d=>?_
  ·have d:=w6 d;refine Ends.tt (by simp;omega) (Ends.tt (by simp;omega) (Ends.tt ?_<|Ends.tt (by simp;omega)<|Ends.tt (w4<|by rw[lo];omega)<|step _ o rfl));rw[f,o,zr,zr,zd];exact⟨w4 a.1,w4 a.2⟩
  ·have d:=w7 d;have g:y.getD i 0=0:=by rw[zg,yg ae];rfl
   refine Ends.tt (by simp;omega) (Ends.tt ?_<|Ends.tt (by simp;omega) (Ends.tt (w4<|by rw[lo];omega)<|step _ rfl g.symm));rw[f,show Sp.u64 0=true from rfl,zr,zr,zd];exact⟨w4 a.1,w4 a.2⟩
theorem start[Srt](x y:List Int)(b:Av Ao x)(e:Av Ao y)(a:y.length<=x.length)(d:x.length<=9000)(c:∀ob,Q (.dat C4<|BW<|As x+As y) ob){t:Tr}:
  Ends KY (.ite (decide ((0:Int)<=zc yb ((x.length:Int)+(1:Int)))&&decide (zc yb ((x.length:Int)+(1:Int))=zc yb ((x.length:Int)+(1:Int)))&&decide ((8:Nat)*Int.toNat (zc yb<|(x.length:Int)+(1:Int))<=(281474976710656:Nat))&&decide (zc yb ((x.length:Int)+(1:Int))<(9223372036854775808:Int)))
   (L1 x y (Int.toNat<|zc yb<|(x.length:Int)+(1:Int)) ((0:Int)) ((x.length:Int)) ((0:Int))<|zf (Int.toNat<|zc yb<|(x.length:Int)+(1:Int)) (0:Int)) t) Q:=by
 have e1:zc .i64 ((x.length:Int)+1)=((x.length+1:Nat):Int):=by rw[wr _ ae ae];omega
 rw[e1,zh];refine Ends.tt (by simp;omega) ?_;exact Aq x y b e a d c x.length 0 [] 0 ae rfl (fun _ h=>by cases h) ae (by simp[zp])
theorem ok[Srt](a:∀g sp,KY.sp g=some sp->Af Bb g sp):Af Bb 166 aQ:=by
 refine MW (X:=KY) rfl a (d:=9) ag ag ag (fun(i:List Int×List Int) b=>?_) (BK ag);obtain⟨x,y⟩:=i;have b:(Sp.hW x&&Sp.hW y)=true:=b;rw[zd]at b;obtain⟨x1,x2⟩:=XW b.1;obtain⟨y1,y2⟩:=XW b.2;have e:∀ob,Ac aQ (x,y) (.dat C4<|BW<|As x+As y) ob:=fun ob=>Ac.of rfl rfl rfl
 refine Ends.eq (Aj x y)<|Ends.ite (fun c=>?_)<|fun c=>?_
 ·have c:=w6 c;exact start y x y2 x2 ae y1 (by rw[Int.add_comm];exact e)
 ·have c:=w7 c;exact start x y x2 y2 ae x1 e
end T166
namespace T168
theorem kM{b:Int}(c:0<b){l:List Int}{n:Nat}(h:Av b l)(g:zp b l<b^n):zp b (l.take n)=zp b l:=by
 rcases yw n l.length with a|a
 ·have e:=Cq b l n ae;have f:=Az ae<|AM h n;have i:=Az ae<|Es h n;rcases zo 0 (zp b<|l.drop n)with d|d
  ·have:=zz (show 1<=zp b (l.drop n)by omega)<|Int.le_of_lt<|Bc c n;rw[Int.mul_one]at this;omega
  ·have:zp b (l.drop n)=0:=ae
   rw[this,Int.mul_zero]at e;omega
 ·rw[zk a]
theorem Aq[Srt](x y:List Int)(l:Av Ao x)(n:Av Ao y)(s:As y<=As x)(A:x.length<=20000)(q:∀ob,Q (.dat C4<|BW<|As x-As y) ob):∀(k i:Nat) (p:List Int) (c:Int),i+k=x.length->p.length=i->Av Ao p->(0<=c/\c<=1)->zp Ao p-(Ao:Int)^i*c=zp Ao (x.take i)-zp Ao (y.take i)->
  Ends KY (L1 x y x.length c x.length i<|p++zf (x.length-i) 0) Q
 |0,i,p,c,o,g,f,b,a=>by
  have o:i=x.length:=ae
  subst o;have C:p++zf (x.length-x.length) (0:Int)=p:=by rw[Nat.sub_self];simp
  have t:p.take x.length=p:=zk ae;have w:As x<(Ao:Int)^x.length:=Br af l;have v:As p<(Ao:Int)^p.length:=Br af f;have u:As p=As x-As y:=by
   rw[yc,kM af n<|show zp Ao y<_ from z6 s w]at a;have a:As p-(Ao:Int)^x.length*c=As x-As y:=a;rw[g]at v;rcases zo 0 c with h|h
   ·have:c=1:=ae
    subst this;rw[Int.mul_one]at a;omega
   ·have:c=0:=ae
    subst this;rw[Int.mul_zero]at a;omega
  rw[C];refine Ends.Ap (Am ..) (Ends.ff (by simp) ?_);rw[t];refine Ends.tt ?_<|Ends.leaf ?_
  ·rw[D9 ae f];simp;omega
  ·rw[Kk f,u];exact q _
 |k+1,i,p,c,o,g,f,b,a=>by
  have j:=AY l i;have r:=AY n i;have lo:(p++zf (x.length-i) (0:Int)).length=x.length:=by simp;omega
  have step:∀z,Sp.u64 z=true->z=y.getD i 0->Ends KY (L1 x y x.length (P0 (x.getD i 0) z c) x.length (zc .i64<|(i:Int)+1)<|(p++zf (x.length-i) 0).set i<|S5 (x.getD i 0) z c) Q:=by
   intro z m D;obtain⟨a1,a2,a3⟩:=Sp.GF j m b;rw[wr ((i:Int)+1) ae ae,Jl p x.length i _ g ae];refine Aq x y l n s A q k (i+1) (p++[S5 (x.getD i 0) z c]) _ ae (by simp;omega) (DO f a1) a2 ?_;have e:(Ao:Int)^i*S5 (x.getD i 0) z c-(Ao:Int)^i*(18446744073709551616*P0 (x.getD i 0) z c)=(Ao:Int)^i*x.getD i 0-(Ao:Int)^i*z-(Ao:Int)^i*c:=by
    rw[<-yt,a3,yt,yt]
   rw[EK,g,Kz,AD _ x i,AD _ y i, <-D];omega
  refine Ends.Ap (Am ..) (Ends.tt (by simp;omega) ?_);rw[zh];refine Ends.ite (fun d=>?_)<|fun d=>?_
  ·have d:=w6 d;refine Ends.tt (by simp;omega) (Ends.tt (by simp;omega)<|Ends.tt ?_ (Ends.tt (by simp;omega)<|Ends.tt (w4<|by rw[lo];omega)<|step _ r rfl));rw[j,r,zr,zr,zd];exact⟨w4 b.1,w4 b.2⟩
  ·have d:=w7 d;have m:y.getD i 0=0:=by rw[zg,yg ae];rfl
   refine Ends.tt (by simp;omega) (Ends.tt ?_<|Ends.tt (by simp;omega)<|Ends.tt (w4<|by rw[lo];omega)<|step _ rfl m.symm);rw[j,show Sp.u64 0=true from rfl,zr,zr,zd];exact⟨w4 b.1,w4 b.2⟩
theorem ok[Srt](b:∀g sp,KY.sp g=some sp->Af Bb g sp):Af Bb 168 fR:=by
 refine MW (X:=KY) rfl b (d:=9) ag ag ag (fun(i:List Int×List Int) a=>?_) (BK ag);obtain⟨x,y⟩:=i;have a:(CP x&&CP y&&decide (As y<=As x))=true:=a;rw[zd,zd,w5]at a;obtain⟨x1,x2⟩:=Iu a.1.1;obtain⟨y1,y2⟩:=Iu a.1.2;have c:∀ob,Ac fR (x,y) (.dat C4<|BW<|As x-As y) ob:=fun ob=>Ac.of rfl rfl rfl
 refine Ends.eq (Aj x y) ?_;conv=>zeta
 rw[zh];refine Ends.tt (by simp;omega) ?_;exact Aq x y x2 y2 a.2 x1 c x.length 0 [] 0 ae rfl (fun _ h=>by cases h) ae (by simp[zp])
end T168
theorem KP(n:Int):zc .u64 n=n % 18446744073709551616:=by simp[zc,IntKind.bits,IntKind.signed]
theorem ZB(n:Nat):zq (n:Int) ((2:Int)^(32:Nat))=((n/4294967296:Nat):Int):=by
 rw[Int.fdiv_eq_ediv_of_nonneg _ af];rfl
theorem gA(n:Nat)(h:n<18446744073709551616):zc .u64 (n:Int)=n:=wu _ ae ae
theorem Oy(n:Nat)(h:n<18446744073709551616):Hc .u64 (n:Int) 4294967295=((n % 4294967296:Nat):Int):=by
 have e:(yf 64 (n:Int)&&&yf 64 4294967295).toNat=n % 4294967296:=by
  rw[BitVec.toNat_and];have b:(yf 64 (n:Int)).toNat=n:=by rw[BitVec.ofInt_natCast,BitVec.toNat_ofNat];exact Nat.mod_eq_of_lt h
  have a:(yf 64 4294967295).toNat=2^32-1:=af
  rw[b,a,Nat.and_two_pow_sub_one_eq_mod]
 show zc .u64 (((yf 64 (n:Int)&&&yf 64 4294967295).toNat:Nat):Int)=_;rw[e];exact gA _ ae
namespace T160
theorem ok[Srt]:Af Bb 160 Rh:=by
 refine BL I2<|fun(i:Int×Int) j=>?_;obtain⟨x,y⟩:=i;have j:(Sp.u64 x&&Sp.u64 y)=true:=j;rw[zd]at j;have e:=Sp.A3 j.1;have g:=Sp.A3 j.2;obtain⟨x,rfl⟩:=zj e.1;obtain⟨y,rfl⟩:=zj g.1;have e:x<18446744073709551616:=ae
 have g:y<18446744073709551616:=ae
 obtain⟨r,l,n,k⟩:=Go.Lib.mul64_hi x y e g;have q:=ym (a:=x/4294967296) (b:=y/4294967296) ae ae;have o:=ym (a:=x/4294967296) (b:=y % 4294967296) ae ae;have p:=ym (a:=x % 4294967296) (b:=y/4294967296) ae ae;refine Ends.eq (Aj (x:Int) (y:Int))<|Ends.tt rfl (Ends.tt rfl (Ends.tt rfl (Ends.tt rfl (Ends.tt rfl (Ends.leaf<|Ac.of rfl rfl ?_)))));refine Prod.ext ?_ ?_
 ·show zc ze (zc ze (zc ze (zq (x:Int) ((2:Int)^(32:Nat))*zq (y:Int) ((2:Int)^(32:Nat)))+zq (zc ze<|zc ze (zq (x:Int) ((2:Int)^(32:Nat))*Hc ze (y:Int) (4294967295:Int))+zq (zc ze<|Hc ze (x:Int) (4294967295:Int)*Hc ze (y:Int) (4294967295:Int)) ((2:Int)^(32:Nat))) ((2:Int)^(32:Nat)))+zq (zc ze<|Hc ze (zc ze<|zc ze (zq (x:Int) ((2:Int)^(32:Nat))*Hc ze (y:Int) (4294967295:Int))+zq (zc ze<|Hc ze (x:Int) (4294967295:Int)*Hc ze (y:Int) (4294967295:Int)) ((2:Int)^(32:Nat))) (4294967295:Int)+zc ze (Hc ze (x:Int) (4294967295:Int)*zq (y:Int) ((2:Int)^(32:Nat)))) ((2:Int)^(32:Nat)))=Q0 x y;have m:Q0 x y=((x*y/18446744073709551616:Nat):Int):=by unfold Q0;omega
  rw[m, <-k];have f:x*y/18446744073709551616<18446744073709551616:=Nat.div_lt_of_lt_mul<|Nat.mul_lt_mul'' e g;rw[<-k]at f;simp only[ZB,Oy x e,Oy y g];simp only[<-Int.natCast_mul];generalize (x/4294967296)*(y/4294967296)=a at*;generalize (x/4294967296)*(y % 4294967296)=b at*;generalize (x % 4294967296)*(y/4294967296)=c at*;generalize (x % 4294967296)*(y % 4294967296)=d at*;rw[gA d ae,gA a ae,gA b ae,gA c ae,ZB, <-yj,gA _ l,ZB,Oy _ l, <-yj, <-yj,gA _ n,ZB,gA (a+_) ae, <-yj,gA _ f]
 ·show zc .u64 ((x:Int)*y)=H8 x y;unfold H8;exact KP _
end T160
theorem jX{x y o c:Int}(d:Sp.u64 x=true)(e:Sp.u64 y=true)(f:Sp.u64 o=true)(g:Sp.u64 c=true):
  Sp.u64 (H8 x y)=true/\Sp.u64 (HX (H8 x y) o 0)=true/\Sp.u64 (HX (HX (H8 x y) o 0) c 0)=true/\
  zc .u64 (zc .u64 (Q0 x y+N5 (H8 x y) o 0)+N5 (HX (H8 x y) o 0) c 0)=(x*y+o+c)/18446744073709551616/\
  Sp.u64 ((x*y+o+c)/18446744073709551616)=true/\
  HX (HX (H8 x y) o 0) c 0+18446744073709551616*((x*y+o+c)/18446744073709551616)=x*y+o+c:=by
 have d:=Sp.A3 d;have e:=Sp.A3 e;have f:=Sp.A3 f;have g:=Sp.A3 g;have h0:0<=x*y:=Int.mul_nonneg d.1 e.1;have i:x*y<=18446744073709551615*18446744073709551615:=by
  have a:=zz (show y<=18446744073709551615 by omega) d.1;have b:=yh (show x<=18446744073709551615 by omega) (show(0:Int)<=18446744073709551615 by omega);omega
 unfold H8 Q0 HX N5;generalize x*y=P at*;refine⟨CG ae ae,CG ae ae,CG ae ae,?_,CG ae ae,by omega⟩;rw[KP,KP];omega
namespace T164
theorem A8[Srt](x y:List Int)(n i:Nat)(O:i<x.length)(L:n=x.length+y.length)(l:x.length<=9000)(f:y.length<=9000)(w:Av Ao x)(r:Av Ao y)(p:List Int)(G:p.length=i+y.length)(b:Av Ao p)
  (t:∀q c,q.length=i+y.length->Av Ao q->Sp.u64 c=true->zp Ao q+(Ao:Int)^(i+y.length)*c=zp Ao p+(Ao:Int)^i*(x.getD i 0*zp Ao y)->Ends KY (L1 y n x x.length ((i+1:Nat):Int)<|(q++[c])++zf (n-(i+y.length+1)) 0) Q):∀(k j:Nat) (q:List Int) (c:Int),j+k=y.length->q.length=i+j->Av Ao q->Sp.u64 c=true->zp Ao q+(Ao:Int)^(i+j)*c=zp Ao (p.take<|i+j)+(Ao:Int)^i*(x.getD i 0*zp Ao (y.take j))->
  Ends KY (L2 y n i (x.getD i 0) c x x.length i y y.length j<|q++(p.drop (i+j)++zf (n-(i+y.length)) 0)) Q
 |0,j,q,c,e,a,g,d,s=>by
  have e:j=y.length:=ae
  subst e;have e1:zc .i64 ((i:Int)+(y.length:Int))=((i+y.length:Nat):Int):=by rw[wr _ ae ae];omega
  have e2:zc .i64 ((i:Int)+1)=((i+1:Nat):Int):=by rw[wr _ ae ae];omega
  have C:p.drop (i+y.length)=[]:=yr ae;refine Ends.Ap (AU ..) (Ends.ff (by simp) ?_);rw[e1,e2,zh,C,List.nil_append,Jl q n _ c a ae];refine Ends.tt (by simp;omega) (Ends.tt (by simp;omega)<|t q c a g d ?_);rw[s,zk ae,yc]
 |k+1,j,q,c,e,a,g,d,s=>by
  have m:=AY w i;have v:=AY r j;have u:=AY b<|i+j;have o:p.drop (i+j)=p.getD (i+j) 0::p.drop (i+j+1):=by
   rw[zg,zm ae];exact zt ae
  have e1:zc .i64 ((i:Int)+(j:Int))=((i+j:Nat):Int):=by rw[wr _ ae ae];omega
  have e2:zc .i64 ((j:Int)+1)=((j+1:Nat):Int):=by rw[wr _ ae ae];omega
  have lo:(q++(p.drop (i+j)++zf (n-(i+y.length)) (0:Int))).length=n:=by simp;omega
  have K:(q++(p.drop (i+j)++zf (n-(i+y.length)) (0:Int))).getD (i+j) 0=p.getD (i+j) 0:=by
   rw[o,List.cons_append];exact EJ _ _ _ _ a
  have s1:∀z,(q++(p.drop (i+j)++zf (n-(i+y.length)) (0:Int))).set (i+j) z=(q++[z])++(p.drop (i+(j+1))++zf (n-(i+y.length)) 0):=by
   intro z;rw[o,List.cons_append,Df _ _ _ _ a,yo];rfl
  obtain⟨R,J,M,D,E,I⟩:=jX m v u d;refine Ends.Ap (AU ..) (Ends.tt (by simp;omega) ?_);rw[e1,e2,zh,zh,K,s1,D];have A:(decide ((0:Int)<=((i+j:Nat):Int))&&decide (((i+j:Nat):Int)<(n:Int)))=true:=by simp;omega
  refine Ends.tt (by simp;omega) (Ends.tt (by rw[m,v];rfl) (Ends.tt A<|Ends.tt (w4<|by rw[lo];omega)<|Ends.tt (by rw[R,u];rfl)<|Ends.tt (by rw[J,d];rfl)<|Ends.tt A<|Ends.tt (w4<|by rw[lo];omega) ?_));refine A8 x y n i O L l f w r p G b t k (j+1) _ _ ae (by simp;omega) (DO g M) E ?_;have P:i+(j+1)=(i+j)+1:=ae
  have S:(Ao:Int)^i*(x.getD i 0*((Ao:Int)^j*y.getD j 0))=(Ao:Int)^(i+j)*(x.getD i 0*y.getD j 0):=by
   rw[Int.pow_add,yp,Int.mul_left_comm<|x.getD i 0]
  rw[P,EK,a,Kz,yv, <-zy,I,AD _ p<|i+j,AD _ y j,zy,zy,zy<|x.getD i 0,zy,S];omega
theorem Aq[Srt](x y:List Int)(n:Nat)(g:n=x.length+y.length)(a:x.length<=9000)(d:y.length<=9000)(o:Av Ao x)(s:Av Ao y)(m:∀ob,Q (.dat C4<|BW<|As x*As y) ob):∀(k i:Nat) (p:List Int),i+k=x.length->p.length=i+y.length->Av Ao p->zp Ao p=zp Ao (x.take i)*zp Ao y->
  Ends KY (L1 y n x x.length i<|p++zf (n-(i+y.length)) 0) Q
 |0,i,p,l,r,b,e=>by
  have l:i=x.length:=ae
  subst l;have t:p++zf (n-(x.length+y.length)) (0:Int)=p:=by rw[g,Nat.sub_self];simp
  have j:As p=As x*As y:=by
   rw[yc]at e;exact e
  rw[t];refine Ends.Ap (Am ..) (Ends.ff (by simp) ?_);rw[zk ae];refine Ends.tt ?_<|Ends.leaf ?_
  ·rw[D9 ae b];simp;omega
  ·rw[Kk b,j];exact m _
 |k+1,i,p,l,r,b,e=>by
  refine Ends.Ap (Am ..) (Ends.tt (by simp;omega) ?_);rw[zh];refine Ends.tt (by simp;omega) ?_;have h0:zp Ao (p.take<|i+y.length)=zp Ao p:=by rw[zk ae]
  have:=A8 (Q:=Q) x y n i ae g a d o s p r b (fun q c v f u j=>by
   have:=Aq x y n g a d o s m k (i+1) (q++[c]) ae (by simp;omega) (DO f u) (by
    rw[EK,v,j,e,AD,Int.add_mul,yp])
   rw[show i+1+y.length=i+y.length+1 by omega]at this;exact this) y.length 0 (p.take i) 0 ae (by simp;omega) (AM b i) rfl (by simp[zp])
  rw[Nat.add_zero, <-yo,List.take_append_drop]at this;exact this
theorem ok[Srt](a:∀g sp,KY.sp g=some sp->Af Bb g sp):Af Bb 164 eJ:=by
 refine MW (X:=KY) rfl a (d:=9) ag ag ag (fun(i:List Int×List Int) b=>?_) (BK ag);obtain⟨x,y⟩:=i;have b:(Sp.hW x&&Sp.hW y)=true:=b;rw[zd]at b;obtain⟨x1,x2⟩:=XW b.1;obtain⟨y1,y2⟩:=XW b.2;have e:∀ob,Ac eJ (x,y) (.dat C4<|BW<|As x*As y) ob:=fun ob=>Ac.of rfl rfl rfl
 have e1:zc .i64 ((x.length:Int)+(y.length:Int))=((x.length+y.length:Nat):Int):=by rw[wr _ ae ae];omega
 refine Ends.eq (Aj x y) ?_;conv=>zeta
 rw[e1,zh];refine Ends.tt (by simp;omega) ?_;have:=Aq x y (x.length+y.length) rfl x1 y1 x2 y2 e x.length 0 (zf y.length 0) ae (by simp) (fun d c=>by
  obtain⟨_,rfl⟩:=List.mem_replicate.1 c;exact⟨by decide,by decide⟩) (by rw[Lw];simp[zp])
 rw[Nat.zero_add,List.replicate_append_replicate,show y.length+(x.length+y.length-y.length)=x.length+y.length by omega]at this;exact this
end T164
theorem HE[Srt]:Dn KY:=
 Aa T161.ok (Aa T228.ok<|Aa T230.ok<|Aa T229.ok<|Aa T160.ok AO)
theorem Re[Srt]:Dn XI2:=
 Aa (T162.ok HE) (Aa (T163.ok HE)<|Aa (T166.ok HE)<|Aa (T168.ok HE)<|Aa T167.ok<|Aa (T164.ok HE)<|Aa T160.ok<|Aa T161.ok AO)
end Go.Pe
namespace Go.Sp
def Bi(a:AF):Bool:=Du a&&decide (a.2.length<=9000)
def YY(a b:AF):Int:=Cb (vI a)<|vI b
def IZ(a:AF):Int:=UT<|vI a
end Go.Sp
namespace Go.Pe
open Sp
open Go.Det
def Tf:An:=⟨[A0],fun a=>Du a,[A0],fun a=>(Ek a,Ej a),false⟩
def uX:An:=⟨[A0],fun a=>Du a,[A0],fun a=>(Od a,NR a),false⟩
def Md:An:=⟨[A0],fun a=>Du a,[i64],fun a=>IZ a,false⟩
def O5:An:=⟨[A0,A0],fun i=>Bi i.1&&Bi i.2,[A0],fun i=>(JH i.1 i.2,JQ i.1 i.2),false⟩
def iN:An:=⟨[A0,A0],fun i=>Bi i.1&&Bi i.2,[A0],fun i=>(YO i.1 i.2,Yb i.1 i.2),false⟩
def Qg:An:=⟨[A0,A0],fun i=>Bi i.1&&Bi i.2,[A0],fun i=>(ER i.1 i.2,EP i.1 i.2),false⟩
def jI:An:=⟨[A0,A0],fun i=>Bi i.1&&Bi i.2,[i64],fun i=>YY i.1 i.2,false⟩
def XJ1[Srt]:AX:=X7 [(157,Tf),(102,O5)]
def XJ2[Srt]:AX:=X7 [(174,iN),(158,Md)]
section
open List Int Prod
namespace T157
def T[Srt](a:AF):Tr:=tree XI2 false 9 157<|Ae ([A0]) a
theorem Aj[Srt](a:AF):T a=let c:=BW<|Ag<|Sp.vI a;let b':=Sp.sg (!decide (Sp.vI a<0))<|As c;let b:Tr:=.ck (Du a)<|.ck (B7 c)<|.leaf (yd [.dat i64<|CL b',.dat wU<|CH b']) [];.ite (!decide (0<length (snd a))) (.ite (fst a !=(-9223372036854775808)) (.leaf (yd [.dat i64<|zc .i64<|0-fst a,.nil]) []) b) b:=by kernel_rfl
end T157
namespace T102
def T[Srt](a b:AF):Tr:=tree XI2 false 9 102<|Ae ([A0,A0]) (a,b)
theorem Aj[Srt](a b:AF):T a b=let b':=BW<|Ag<|Sp.vI a;let c:=BW<|Ag<|Sp.vI b;let e:=BW<|As b'+As c;let h':=BW<|As b'-As c;let i:=BW<|As c-As b';let j:=Sp.sg (decide (Sp.vI a<0))<|As e;let f:=Sp.sg (decide (Sp.vI a<0))<|As h';let g:=Sp.sg (decide (Sp.vI b<0))<|As i;let d:Tr:=.ck (Du a)<|.ck (Du b)<|.ite (decide (Sp.vI a<0)==decide (Sp.vI b<0)) (.ck (Sp.hW b'&&Sp.hW c)<|.ck (B7 e)<|.leaf (yd [.dat i64<|CL j,.dat wU<|CH j]) [])<|.ck (B7 b'&&B7 c)<|.di (Cb (As b') (As c)>=0) (.ck (CP b'&&CP c&&decide (As c<=As b'))<|.ck (B7 h')<|.leaf (yd [.dat i64<|CL f,.dat wU<|CH f]) [])<|.ck (CP c&&CP b'&&decide (As b'<=As c))<|.ck (B7 i)<|.leaf (yd [.dat i64<|CL g,.dat wU<|CH g]) [];.ite (!decide (0<length (snd a))) (.ite (!decide (0<length (snd b))) (.ite (decide (zc .i64 (fst a+fst b)>fst a)==decide (fst b>0)) (.leaf (yd [.dat i64<|zc .i64<|fst a+fst b,.nil]) []) d) d) d:=by kernel_rfl
end T102
namespace T96
def T[Srt](a b:AF):Tr:=tree XI2 false 9 96<|Ae ([A0,A0]) (a,b)
theorem Aj[Srt](a b:AF):T a b=let d:=Ag<|fst a;let c:=Ag<|fst b;let i:=BW<|Ag<|Sp.vI a;let f:=BW<|Ag<|Sp.vI b;let b':=BW<|As i*As f;let g:=Sp.sg (!decide (Sp.vI a<0)==decide (Sp.vI b<0))<|As b';let e:Tr:=.ck (Du a)<|.ck (Du b)<|.ck (Sp.hW i&&Sp.hW f)<|.ck (B7 b')<|.leaf (yd [.dat i64<|CL g,.dat wU<|CH g]) [];.ite (!decide (0<length (snd a))) (.ite (!decide (0<length (snd b))) (.ck (Cx<|fst a)<|.ck (Cx<|fst b)<|.ck (Sp.u64 d&&Sp.u64 c)<|.ite (Q0 d c==0) (.di (H8 d c<=9223372036854775807) (.ite (!decide (fst a<0)==decide (fst b<0)) (.leaf (yd [.dat i64<|zc .i64<|0-zc .i64 (H8 d c),.nil]) [])<|.leaf (yd [.dat i64<|zc .i64<|H8 d c,.nil]) []) e) e) e) e:=by kernel_rfl
end T96
namespace T172
def T[Srt](a:AF):Tr:=tree XJ1 false 9 172<|Ae ([A0]) a
theorem Aj[Srt](a:AF):T a=.di (fst a<0) (.ck (Du a)<|.leaf (yd [.dat i64<|Ek a,.dat wU<|Ej a]) []) (.leaf (yd [.dat i64<|fst a,.dat wU<|snd a]) []):=by kernel_rfl
end T172
namespace T158
def T[Srt](a:AF):Tr:=tree eW false 9 158<|Ae ([A0]) a
theorem Aj[Srt](a:AF):T a=.leaf (.dat i64<|imax (-1)<|B5 1<|fst a) []:=by kernel_rfl
end T158
namespace T174
def T[Srt](a b:AF):Tr:=tree XJ1 false 9 174<|Ae ([A0,A0]) (a,b)
theorem Aj[Srt](a b:AF):T a b=.ck (Du b) (.ck (Bi a&&Bi (Ek b,Ej b))<|.leaf (yd [.dat i64<|JH a (Ek b,Ej b),.dat wU<|JQ a (Ek b,Ej b)]) []):=by kernel_rfl
end T174
namespace T118
def T[Srt](a b:AF):Tr:=tree XJ2 false 9 118<|Ae ([A0,A0]) (a,b)
theorem Aj[Srt](a b:AF):T a b=let c:Tr:=.ck (Bi a&&Bi b)<|.ck (Du (YO a b,Yb a b))<|.leaf (.dat i64<|IZ (YO a b,Yb a b)) [];.ite (!decide (0<length (snd a))) (.ite (!decide (0<length (snd b))) (.di (fst a<fst b) (.leaf (.dat i64 (-1:Int)) [])<|.di (fst a>fst b) (.leaf (.dat i64 (1:Int)) [])<|.leaf (.dat i64 (0:Int)) []) c) c:=by kernel_rfl
end T118
end
theorem nR(k:Nat):((Ao^k:Nat):Int)=(Ao:Int)^k:=Int.natCast_pow ..
theorem Mj{n:Int}{k:Nat}(h0:0<=n)(h:n<(Ao:Int)^k):(BW n).length<=k:=by
 refine Su Ao af k n.toNat n.toNat ?_;rw[<-nR]at h;generalize Ao^k=P at*;omega
theorem De{n:Int}{k:Nat}(h0:0<=n)(h:n<(Ao:Int)^k)(c:k<=20000):B7 (BW n)=true/\CP (BW n)=true/\As (BW n)=n:=by
 have d:=Mj h0 h;have a:CP (BW n)=true:=D9 ae (HM af n);have b:yS (BW n)=true:=by
  unfold yS;exact w4 (XC af n)
 exact⟨by unfold B7;rw[a,b];rfl,a,C3 af h0⟩
theorem B6{a:AF}(h:Bi a=true):Du a=true/\a.2.length<=9000:=by
 unfold Bi at h;rw[zd,w5]at h;exact h
theorem dP{s:Int}{w:List Int}(a:w≠[]):Sp.vI (s,w)=if s<0 then -As w else As w:=by unfold Sp.vI;exact wc a
theorem OY{a:AF}(h:Du a=true):(a.2=[]/\Ag (Sp.vI a)<=9223372036854775808)\/(BW (Ag<|Sp.vI a)=a.2):=by
 obtain⟨e,b⟩:=EZ h;obtain⟨s,w⟩:=a;have e: -9223372036854775808<=s/\s<9223372036854775808:=e;rcases b with b|⟨i,f,d⟩
 ·have b:w=[]:=b;subst b;refine .inl ⟨rfl,?_⟩;rw[E0];simp only[Ai];omega
 ·obtain⟨n1,n2,g⟩:=EO (l:=w) i;have f:s=1\/s= -1:=f;have d:9223372036854775808<=As w:=d;have c:w≠[]:=by rintro rfl;exact wh d af
  refine .inr ?_;have e1:Ag (Sp.vI (s,w))=As w:=by rw[dP c];simp only[Ai];split<;>omega
  rw[e1];exact(JJ af n2 g).symm
theorem AK(n:Int):0<=Ag n:=by simp only[Ai];omega
theorem Ia{a:AF}(h:Du a=true){k:Nat}(c:a.2.length<=k)(g:1<=k):Ag (Sp.vI a)<(Ao:Int)^k:=by
 rcases OY h with⟨_,e⟩|he
 ·have:=AP (b:=Ao) af g;rw[Int.pow_one]at this;have f:(9223372036854775808:Int)<(Ao:Int):=af
  exact z6 e<|Int.lt_of_lt_of_le f this
 ·have d:=C3 (b:=Ao) af<|AK<|Sp.vI a;have:=Br (b:=Ao) af (HM (b:=Ao) af<|Ag<|Sp.vI a);rw[d,show Sp.dg Ao (Ag<|Sp.vI a)=a.2 from he]at this;exact Int.lt_of_lt_of_le this (AP af c)
theorem Mb{x y:Int}(d:0<=x)(f:x<(Ao:Int)^9000)(e:y<(Ao:Int)^9000):x+y<(Ao:Int)^9001/\x*y<(Ao:Int)^18000:=by
 have e1:(Ao:Int)^9001=(Ao:Int)^9000*Ao:=yx ..;have e2:(Ao:Int)^18000=(Ao:Int)^9000*(Ao:Int)^9000:=Int.pow_add _ 9000 9000;rw[e1,e2];generalize (Ao:Int)^9000=P at*;refine⟨?_,?_⟩
 ·show x+y<P*18446744073709551616;omega
 ·have a:=zz (show y<=P-1 by omega) d;have b:=yh (show x<=P-1 by omega) (show 0<=P-1 by omega);have c:(P-1)*(P-1)=P*P-P-P+1:=by
   rw[Int.sub_mul,yt];omega
  omega
theorem Dq(n:Bool)(v:Int):Sp.sg n v=if n=true then -v else v:=rfl
theorem Cm(n:Int):Sp.vI (CN n)=n:=by
 unfold CN;split
 ·exact E0
 ·have c:=C3 (b:=Ao) af<|AK n;have a:BW (Ag n)≠[]:=by
   intro h;rw[show Sp.dg Ao (Ag n)=[]from h]at c;have:(0:Int)=Ag n:=c;simp only[Ai]at this;omega
  rw[dP a,show As (BW<|Ag n)=Ag n from c];simp only[Ai];split<;>split<;>omega
theorem Yl{a:AF}{c:Bool}(h:(!decide (0<a.2.length))=c):(c=true->a.2=[])/\(c=false->a.2≠[]):=by
 subst h;rcases a with⟨s,w⟩
 cases w<;>simp
theorem PZ{a:AF}(h:(!decide (0<a.2.length))=true):a.2=[]:=(Yl h).1 rfl
theorem cT{a:AF}(h:(!decide (0<a.2.length))=false):a.2≠[]:=(Yl h).2 rfl
theorem BG{a:AF}(h:a.2=[]):Sp.vI a=a.1:=by unfold Sp.vI;exact wd h
theorem words{a:AF}(h:Bi a=true):Du a=true/\Sp.hW (BW<|Ag<|Sp.vI a)=true/\B7 (BW<|Ag<|Sp.vI a)=true/\CP (BW<|Ag<|Sp.vI a)=true/\As (BW<|Ag<|Sp.vI a)=Ag (Sp.vI a)/\Ag (Sp.vI a)<(Ao:Int)^9000:=by
 obtain⟨c,f⟩:=B6 h;have b:=Ia c f ae;obtain⟨n,d,v⟩:=De (AK _) b ae;have e:=Mj (AK _) b;refine⟨c,?_,n,d,v,b⟩;unfold Sp.hW;rw[d,zr];exact w4 e
theorem Ad{a b:Bool}(d:a=true)(c:b=true):(a&&b)=true:=by rw[d,c];rfl
theorem wn{i:Nat}(h:i<9223372036854775807):zc .i64 ((i:Int)+1)=((i+1:Nat):Int):=by rw[wr _ ae ae];omega
theorem ad{p q:Prop}[Decidable p][Decidable q](a:p)(b:q):(decide p&&decide q)=true:=Ad (w4 a)<|w4 b
theorem nb{i n:Nat}(h:i<n):(decide ((0:Int)<=(i:Int))&&decide ((i:Int)<(n:Int)))=true:=ad ae ae
theorem K9(n:Int):UT n=if n<0 then -1 else if n>0 then 1 else 0:=rfl
theorem wM{a:AF}(h:Du a=true):imax (-1) (B5 1 a.1)=UT (Sp.vI a):=by
 obtain⟨g,b⟩:=EZ h;obtain⟨s,w⟩:=a;rcases b with b|⟨i,d,f⟩
 ·have b:w=[]:=b;subst b;rw[E0,K9,cM];show imax (-1) (if (1:Int)<=s then 1 else s)=_;unfold imax;split<;>split<;>split<;>(try split)<;>omega
 ·have d:s=1\/s= -1:=d;have f:9223372036854775808<=As w:=f;have c:w≠[]:=by rintro rfl;exact wh f af
  rw[dP c,K9];rcases d with rfl|rfl
  ·have e:(if (1:Int)<0 then -As w else As w)=As w:=wc af;rw[e,wc (show ¬As w<0 by omega),wd<|show As w>0 by omega];show imax (-1) (B5 1 1)=1;decide
  ·have e:(if (-1:Int)<0 then -As w else As w)= -As w:=wd af;rw[e,wd<|show -As w<0 by omega];show imax (-1) (B5 1<| -1)= -1;decide
namespace T157
theorem ok[Srt]:Af Bb 157 Tf:=by
 refine BL Re<|fun(a:Int×List Int) b=>?_;have b:Du a=true:=b;have f:B7 (BW<|Ag<|Sp.vI a)=true/\As (BW<|Ag<|Sp.vI a)=Ag (Sp.vI a):=by
  refine⟨?_,C3 af<|AK _⟩;rcases OY b with⟨_,i⟩|he
  ·have:(9223372036854775808:Int)<(Ao:Int)^1:=af
   exact(De (AK _) (z6 i this) ae).1
  ·obtain⟨_,e⟩:=EZ b;rw[he];rcases e with e|⟨j,_⟩
   ·rw[e];decide+kernel
   ·exact j
 have g:Sp.sg (!decide (Sp.vI a<0)) (As<|BW<|Ag<|Sp.vI a)= -Sp.vI a:=by
  rw[f.2,Dq,Ai];rcases zo (Sp.vI a) 0 with h|h
  ·rw[w4 h];simp;omega
  ·rw[w8 ae];simp;omega
 have k:=(EZ b).1;refine Ends.eq (Aj a)<|Ends.ite (fun c=>Ends.ite (fun d=>Ends.leaf<|Ac.of rfl rfl ?_)<|fun d=>Ends.tt b<|Ends.tt f.1<|Ends.leaf<|Ac.of rfl rfl ?_)<|fun c=>Ends.tt b<|Ends.tt f.1<|Ends.leaf<|Ac.of rfl rfl ?_
 ·have c:=PZ c;have d:a.1≠ -9223372036854775808:=by simpa using d
  show(zc .i64<|0-a.1,[])=C0 a;unfold C0;rw[wd ⟨c,d⟩,wr _ ae ae,Int.zero_sub]
 ·have d:a.1= -9223372036854775808:=by simpa using d
  show CN (Sp.sg (!decide (Sp.vI a<0))<|As<|BW<|Ag<|Sp.vI a)=C0 a;unfold C0;rw[wc<|fun h=>h.2 d,g]
 ·have c:=cT c;show CN (Sp.sg (!decide (Sp.vI a<0))<|As<|BW<|Ag<|Sp.vI a)=C0 a;unfold C0;rw[wc<|fun h=>c h.1,g]
end T157
namespace T102
theorem ok[Srt]:Af Bb 102 O5:=by
 refine BL Re<|fun(i:(Int×List Int)×(Int×List Int)) o=>?_;obtain⟨a,b⟩:=i;have o:(Bi a&&Bi b)=true:=o;rw[zd]at o;obtain⟨a1,a2,a3,a4,a5,a6⟩:=words o.1;obtain⟨b1,b2,b3,b4,b5,b6⟩:=words o.2;have x:=(EZ a1).1;have C:=(EZ b1).1;have A:=AK<|Sp.vI a;have nb:=AK<|Sp.vI b;obtain⟨t1,_⟩:=Mb A a6 b6;have q:∀v ob,Eg a b=CN v->Ac O5 (a,b) (.agg [.dat i64<|CL v,.dat (.nlist<|.int .u64)<|CH v]) ob:=fun v ob h=>Ac.of rfl rfl (by
  show CN v=Eg a b;rw[h])
 have mono:(Ao:Int)^9000<=(Ao:Int)^9001:=AP af ae;have k:decide (Sp.vI a<0)=decide (Sp.vI b<0)->Sp.sg (decide (Sp.vI a<0)) (As<|BW<|As (BW<|Ag<|Sp.vI a)+As (BW<|Ag<|Sp.vI b))=Sp.vI a+Sp.vI b:=by
  intro e;rw[a5,b5,show As (BW<|Ag (Sp.vI a)+Ag (Sp.vI b))=_ from C3 af ae,Dq,Ai,Ai];rcases zo (Sp.vI a) 0 with h|h
  ·rw[w4 h]at e ⊢;have:=w6 e.symm;simp only[wm];omega
  ·rw[w8 ae]at e ⊢;have:=w7 e.symm;simp only[yn,vf];omega
 have l:decide (Sp.vI a<0)≠decide (Sp.vI b<0)->Ag (Sp.vI b)<=Ag (Sp.vI a)->Sp.sg (decide (Sp.vI a<0)) (As<|BW<|As (BW<|Ag<|Sp.vI a)-As (BW<|Ag<|Sp.vI b))=Sp.vI a+Sp.vI b:=by
  intro e t;rw[a5,b5,show As (BW<|Ag (Sp.vI a)-Ag (Sp.vI b))=_ from C3 af ae,Dq,Ai,Ai];rcases zo (Sp.vI a) 0 with h|h
  ·rw[w4 h]at e ⊢;have:¬Sp.vI b<0:=fun h=>e (w4 h).symm
   simp only[wm];omega
  ·rw[w8 ae]at e ⊢;have:Sp.vI b<0:=by
    rcases zo (Sp.vI b) 0 with h|h
    ·exact h
    ·exact wh (w8 ae).symm e
   simp only[yn,vf];omega
 have j:decide (Sp.vI a<0)≠decide (Sp.vI b<0)->Ag (Sp.vI a)<=Ag (Sp.vI b)->Sp.sg (decide (Sp.vI b<0)) (As<|BW<|As (BW<|Ag<|Sp.vI b)-As (BW<|Ag<|Sp.vI a))=Sp.vI a+Sp.vI b:=by
  intro e t;rw[a5,b5,show As (BW<|Ag (Sp.vI b)-Ag (Sp.vI a))=_ from C3 af ae,Dq,Ai,Ai];rcases zo (Sp.vI b) 0 with h|h
  ·rw[w4 h]at e ⊢;have:¬Sp.vI a<0:=fun h=>e<|w4 h
   simp only[wm];omega
  ·rw[w8<|show ¬Sp.vI b<0 by omega]at e ⊢;have:Sp.vI a<0:=by
    rcases zo (Sp.vI a) 0 with h|h
    ·exact h
    ·exact wh (w8 ae) e
   simp only[yn,vf];omega
 have n1:B7 (BW<|As (BW<|Ag<|Sp.vI a)+As (BW<|Ag<|Sp.vI b))=true:=by
  rw[a5,b5];exact(De ae t1 ae).1
 have n2:Ag (Sp.vI b)<=Ag (Sp.vI a)->B7 (BW<|As (BW<|Ag<|Sp.vI a)-As (BW<|Ag<|Sp.vI b))=true:=by
  intro h;rw[a5,b5];exact(De ae (z6 ae a6) ae).1
 have w:Ag (Sp.vI a)<=Ag (Sp.vI b)->B7 (BW<|As (BW<|Ag<|Sp.vI b)-As (BW<|Ag<|Sp.vI a))=true:=by
  intro h;rw[a5,b5];exact(De ae (z6 ae b6) ae).1
 have f:∀ {c:Bool},decide (Cb (As<|BW<|Ag<|Sp.vI a) (As<|BW<|Ag<|Sp.vI b)>=0)=c->(c=true->Ag (Sp.vI b)<=Ag (Sp.vI a))/\(c=false->Ag (Sp.vI a)<=Ag (Sp.vI b)):=by
  intro c h;subst h;rw[a5,b5,w5,w9];unfold Cb;constructor
  ·intro h;split at h<;>omega
  ·intro h;split at h
   ·omega
   ·split at h<;>omega
 refine Ends.eq (Aj a b)<|Ends.ite (fun m=>Ends.ite (fun n=>Ends.ite (fun g=>Ends.leaf<|Ac.of rfl rfl ?_)<|fun g=>?_)<|fun n=>?_)<|fun m=>?_
 ·have m:=PZ m;have n:=PZ n;have p:zc .i64 (a.1+b.1)=a.1+b.1:=by
   rw[wk]at g;rcases zo (a.1+b.1) (-9223372036854775808)with h|h
   ·exfalso;have e:zc .i64 (a.1+b.1)=a.1+b.1+18446744073709551616:=by rw[yq];omega
    rw[e,w4 ae,w8 ae]at g;cases g
   ·rcases zo (a.1+b.1) 9223372036854775808 with r|r
    ·exact wr _ ae ae
    ·exfalso;have e:zc .i64 (a.1+b.1)=a.1+b.1-18446744073709551616:=by rw[yq];omega
     rw[e,w8 ae,w4 ae]at g;cases g
  have y:Cx (a.1+b.1)=true:=by
   have: -9223372036854775808<=zc .i64 (a.1+b.1)/\zc .i64 (a.1+b.1)<9223372036854775808:=by rw[yq];omega
   rw[p]at this;unfold Cx;rw[zd,w5,w5];exact this
  show(zc .i64<|a.1+b.1,[])=Eg a b;unfold Eg;rw[wd ⟨m,n,y⟩,p]
 all_goals
  have s:Eg a b=CN (Sp.vI a+Sp.vI b):=by
   unfold Eg;refine wc<|fun h=>?_;obtain⟨z,r,u⟩:=h;first
    |exact cT m z
    |exact cT n r
    |(have u:=Ff u
      have p:zc .i64 (a.1+b.1)=a.1+b.1:=wr _ ae ae;rw[p,beq_eq_false_iff_ne]at g;refine g ?_;rcases zo 0 b.1 with h|h
      ·rw[w4 (show a.1+b.1>a.1 by omega),w4 h]
      ·rw[w8 (show ¬a.1+b.1>a.1 by omega),w8<|show ¬b.1>0 by omega])
  refine Ends.tt a1<|Ends.tt b1<|Ends.ite (fun e=>Ends.tt (Ad a2 b2)<|Ends.tt n1<|Ends.leaf<|q _ _ ?_)<|fun e=>Ends.tt (Ad a3 b3)<|Ends.ite (fun d=>Ends.tt ?_<|Ends.tt (n2<|(f d).1 rfl)<|Ends.leaf<|q _ _ ?_)<|fun d=>Ends.tt ?_<|Ends.tt (w<|(f d).2 rfl)<|Ends.leaf<|q _ _ ?_
  ·rw[s];exact wi _ (k<|by simpa using e).symm
  ·refine Ad (Ad a4 b4)<|w4 ?_;rw[a5,b5];exact(f d).1 rfl
  ·rw[s];exact wi _ (l (by simpa using e)<|(f d).1 rfl).symm
  ·refine Ad (Ad b4 a4)<|w4 ?_;rw[a5,b5];exact(f d).2 rfl
  ·rw[s];exact wi _ (j (by simpa using e)<|(f d).2 rfl).symm
end T102
end Go.Pe
