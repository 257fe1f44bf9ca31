import Derived.Test.YtmcnicakonagdaaGreatDoorX08
import Derived.Test.YtmcnicakonagdaaGreatDoorX07
import Derived.Test.YtmcnicakonagdaaGreatDoorX04
import Derived.IntWalk
import Derived.Test.YtmcnicakonagdaaGreatDoorX01
/- A part of a proof (no law is stated here). Made by program out of texts by AI agents. -/
noncomputable section
open List renaming mem_singleton -> zc, getElem?_eq_some_iff -> zf, nodup_nil -> zl, mem_append -> zq, all_cons -> zy, any_eq_true -> z6, map_cons -> ya, mem_cons -> yb, mem_map -> yf
open Bool renaming and_eq_true -> zd, and_true -> zt
open Nat renaming le_refl -> ze, lt_of_lt_of_le -> zi, le_trans -> zj, beq -> zk, eq_of_beq_eq_true -> zm, le_of_ble_eq_true -> zr, blt -> zx, beq_refl -> yc, ble -> yd, add -> ye
open Int renaming eq_ofNat_of_zero_le -> zg
open Go.Pe.Ev renaming AD -> zh
open Option.some renaming injEq -> zn
open Go.Pe.PV renaming cells -> zo
open List.cons renaming injEq -> zp
open Go.Pe.Le renaming refl -> zu
open Go.Pe renaming apart -> zw
open Option renaming isSome_iff_exists -> zz, map_eq_some_iff -> z7
open Go.Det.V renaming beq -> z8
namespace Go.Pe
open Go.Det
section
variable {B:Nat}{h0:H0}{F:Fz}{ρ:Ec}{N:Nat}{X:A6}{st st':AK}{fr:Fr}{h h':H}{Q:PV->Ob->Prop}{n:Nat}
mutual
theorem MH:∀v:V,z8 v v=true
 | .bool b=>by simp[z8]
 | .int k n=>by simp[z8]
 | .str s=>by simp[z8]
 | .nilp=>rfl
 | .ptr a i=>by simp[z8]
 | .nils=>rfl
 | .sl a b c d e=>by simp[z8]
 | .esl=>rfl
 | .es0=>rfl
 | .junk=>rfl
 | .nilm=>rfl
 | .map a=>by simp[z8]
 | .yld a=>by simp[z8]
 | .nilf=>rfl
 | .nili=>rfl
 | .fn f a b=>by simp only[z8,FM a,FM b,zt,wj]
 | .iface t x=>by simp only[z8,MH x,zt];exact yc t
 | .agg a=>by simp only[z8];exact FM a
 | .tup a=>by simp only[z8];exact FM a
theorem FM:∀vs:List V,V.KU vs vs=true
 |[]=>rfl
 |v::vs=>by simp only[V.KU,MH v,FM vs,zt]
end
theorem jV{T:B3}{t:TypeId}{a x:V}(hd:E5 T h t a=some x):∃b off o,a=.ptr b off/\h.get b=some o/\(∀g:H,g.get b=h.get b->E5 T g t a=some x)/\
  ∀(g:H) cs t1 f1 t2 f2,h.get b=some (.cells cs t1 f1)->g.get b=some (.cells cs t2 f2)->E5 T g t a=some x:=by
 unfold E5 at hd;split at hd
 case h_2=>cases hd
 rename_i b off d i e1 e2;have hb:∃o,h.get b=some o:=by
  cases hg:h.get b with
  |some o=>exact⟨o,rfl⟩
  |none=>
   unfold rd at hd;rw[hg]at hd;cases DW d<;>simp at hd
 obtain⟨o,ho⟩:=hb;refine⟨b,off,o,rfl,ho,fun g hg=>?_,fun g cs t1 f1 t2 f2 k1 k2=>?_⟩
 ·unfold E5;simp only[e1,e2];unfold rd at hd ⊢;rw[hg];exact hd
 ·unfold E5;simp only[e1,e2];unfold rd at hd ⊢;rw[k1]at hd;rw[k2];exact hd
def R2(C:Ctx)(F:Fz)(bl:List Nat)(h:H)(fr:Fr)(o:Oper)(x:V):Prop:=
 ∀g:H,(∀b cs,F b=some cs->∃t fz,g.get b=some (.cells cs t fz))->(∀b∈bl,g.get b=h.get b)->∃z,Gu C fr g o=some (.val x z)
theorem WL:∀ {s:Sh} {x:s.T} {cs:List V} {b:Nat},DC F s x cs->V.map b∉cs
 | .int _,_,_,_,h,hm=>by simp only[DC]at h;subst h;cases zc.1 hm
 | .bool,_,_,_,h,hm=>by simp only[DC]at h;subst h;cases zc.1 hm
 | .str,_,_,_,h,hm=>by simp only[DC]at h;subst h;cases zc.1 hm
 | .list s,l,_,_,h,hm=>by
  simp only[DC]at h;obtain⟨v,rfl,h⟩:=h;obtain rfl:=zc.1 hm;rcases h with⟨_,h|h|h⟩|⟨b,off,cap,o,bs,h,_⟩<;>cases h
 | .pair a b,x,_,_,h,hm=>by
  simp only[DC]at h;obtain⟨c,d,rfl,h1,h2⟩:=h;rcases zq.1 hm with hm|hm
  ·exact WL h1 hm
  ·exact WL h2 hm
 | .unit,_,_,_,h,hm=>by simp only[DC]at h;subst h;cases hm
 | .fnv,x,_,_,h,hm=>by simp only[DC]at h;subst h;have:=zc.1 hm;revert this;cases (x:Option Fn)<;>intro h<;>cases h
 | .ptr _,x,_,_,h,hm=>by simp only[DC]at h;obtain⟨b,o,bs,rfl,_⟩:=h;cases zc.1 hm
 | .nlist s,l,_,_,h,hm=>by
  simp only[DC]at h;obtain⟨v,rfl,h⟩:=h;obtain rfl:=zc.1 hm;rcases h with⟨_,h⟩|⟨_,b,off,cap,o,bs,h,_⟩<;>cases h
theorem VB{s:Sh}{x:s.T}{b:Nat}(hp:PR F ρ N (.dat s x) (.map b)):False:=by
 simp only[PR]at hp;exact WL hp (zc.2 rfl)
theorem Wa{b:Nat}(hp:PR F ρ N .nil (.map b)):False:=by
 simp only[PR]at hp;cases hp
theorem cV(hr:SR B h0 F ρ st.nx st.ob h){o:Oper}{c:Call}(hop:o.op=.call c)(hcal:c.callee=.builtin .len){id sz off len:Nat}{cap:Option Nat}(hps:Mz st c.args.toList=some [.sl id sz off len cap]){u:PV}{s:AK}
  (ht:(pop o.op X.C.T st).To u s) {b:Nat} (hp:PR F ρ st.nx (.sl id sz off len cap) (.map b)):False:=by
 rw[hop]at ht;simp only[pop,Tf,hps,hcal,IP,qN,Vi,ya,List.map_nil,lz]at ht;split at ht
 case h_2=>simp at ht
 rename_i t x _ he;cases he;split at ht
 case h_3=>
  rename_i he;cases he;cases hl:H8 (st.obj id)with
  |false=>rw[hl]at ht;simp at ht
  |true=>
   obtain⟨b',n,h1⟩:=hr.live hl;simp only[PR]at hp;rcases hp.2 b' n h1 with⟨_,_,o,_,h⟩|⟨_,_,_,h|⟨_,h,_⟩⟩<;>cases h
 all_goals first|(simp at ht;done)|(rename_i he;cases he;done)|(rename_i he _;cases he)
theorem OM{T:B3}{ts:Array TypeId}{a:V}{g:H}(hnm:∀b,a≠ .map b)(h:H):FB T g ts [a]=FB T h ts [a]:=by
 unfold FB;cases ts[0]? with
 |none=>rfl
 |some t=>
  simp only;cases T.und t with
  |none=>cases a<;>rfl
  |some d=>cases d<;>cases a<;>first|rfl|(rename_i b;exact wh rfl (hnm b))|(rename_i b _;exact wh rfl (hnm b))|(rename_i b _ _;exact wh rfl (hnm b))
theorem ZQ(hr:Rel B h0 F ρ st fr h){o:Oper}{x:V}(hd:Gu X.C fr h o=some (.val x h)){l:List Nat}(hl:rP st o.op=some l)(hto:∃u s,(pop o.op X.C.T st).To u s):
  ∃bl,R2 X.C F bl h fr o x/\∀b∈bl,b<h.nx/\∃id∈l,id<st.nx/\∀y,ρ id=some y->y.1=b:=by
 unfold rP at hl;rw[CU]at hd;unfold GL at hd;split at hl
 case h_5=>cases hl
 case h_4 t y i ok hop=>
  simp only[hop]at hd;have hdop:∀g,Gu X.C fr g o=(match ev X.C fr y,ev X.C fr i with|some v,some u=>Bz g (EP X.C.T g t v u ok)|_,_=>none):=fun g=>by rw[CU];unfold GL;simp only[hop];rfl
  cases hy:ev X.C fr y with
  |none=>rw[hy]at hd;cases hd
  |some a=>
   cases hi:ev X.C fr i with
   |none=>rw[hy,hi]at hd;cases hd
   |some u=>
    rw[hy,hi]at hd;simp only at hd;obtain⟨x',hx',he⟩:=Gq hd;cases he;have hloc:∀g:H,entries g a=entries h a->EP X.C.T g t a u ok=some x:=by
     intro g hg;unfold EP at hx' ⊢;rw[hg];exact hx'
    split at hl
    case h_3=>cases hl
    case h_1=>
     rename_i id hp;obtain⟨a',g1,g2⟩:=Ce (C:=X.C) hr.fp hp;rw[hy]at g1;cases g1;have hent:∃es,entries h a=some es:=by
      unfold EP at hx';split at hx'
      case h_2=>cases hx'
      split at hx'
      case h_2=>cases hx'
      rename_i es _ he;exact⟨es,he⟩
     obtain⟨es,he⟩:=hent;cases hl;by_cases hmap:∃b,a=.map b
     ·obtain⟨b,rfl⟩:=hmap;have hb:∃ob,h.get b=some ob:=by
       cases hg:h.get b with
       |none=>simp[entries,hg]at he
       |some ob=>exact⟨ob,rfl⟩
      obtain⟨ob,hb⟩:=hb;simp only[PR]at g2;refine⟨[b],fun g _ hg=>⟨g,?_⟩,fun b' hb'=>?_⟩
      ·rw[hdop,hy,hi];simp only;rw[hloc g (by simp only[entries,hg b (zc.2 rfl)])];rfl
      ·cases zc.1 hb';refine⟨hr.sr.lt b ob hb,id,zc.2 rfl,g2.1,fun z hz=>?_⟩;have:=g2.2 z.1 z.2 hz;cases this;rfl
     ·refine⟨[],fun g _ hg=>⟨g,?_⟩,fun b' hb'=>by cases hb'⟩;rw[hdop,hy,hi];simp only;rw[hloc g ?_];rfl;cases a<;>first|rfl|(rename_i b;exact wh ⟨b,rfl⟩ hmap)
    case h_2=>
     rename_i hp;obtain⟨a',g1,g2⟩:=Ce (C:=X.C) hr.fp hp;rw[hy]at g1;cases g1;simp only[PR]at g2;subst g2;cases hl;refine⟨[],fun g _ hg=>⟨g,?_⟩,fun b' hb'=>by cases hb'⟩;rw[hdop,hy,hi];simp only;rw[hloc g rfl];rfl
 case h_1 t y hop=>
  simp only[hop]at hd;have hdop:∀g,Gu X.C fr g o=(match ev X.C fr y with|some v=>Bz g (E5 X.C.T g t v)|none=>none):=fun g=>by rw[CU];unfold GL;simp only[hop];rfl
  cases hy:ev X.C fr y with
  |none=>rw[hy]at hd;cases hd
  |some a=>
   rw[hy]at hd;simp only at hd;obtain⟨x',hx',he⟩:=Gq hd;cases he;obtain⟨b,off,ob,rfl,hb,hloc,hfz⟩:=jV hx';have hblt:=hr.sr.lt b ob hb;have live:∀id,id<st.nx->(∀z,ρ id=some z->z.1=b)->l=[id]->∃bl,R2 X.C F bl h fr o x/\∀b∈bl,b<h.nx/\∃id∈l,id<st.nx/\∀y,ρ id=some y->y.1=b:=by
    rintro id hlt hid rfl;refine⟨[b],fun g _ hg=>⟨g,?_⟩,fun b' hb'=>?_⟩
    ·rw[hdop,hy];simp only;rw[hloc g (hg b (zc.2 rfl))];rfl
    ·cases zc.1 hb';exact⟨hblt,id,zc.2 rfl,hlt,hid⟩
   split at hl
   case h_4=>cases hl
   case h_1=>
    rename_i id off' hp;obtain⟨a',g1,g2⟩:=Ce (C:=X.C) hr.fp hp;rw[hy]at g1;cases g1;simp only[PR]at g2;refine live id g2.1 (fun z hz=>?_) (by cases hl;rfl);have:=g2.2 z.1 z.2 hz;cases this;rfl
   case h_2=>
    rename_i id sz j off' hp;obtain⟨a',g1,g2⟩:=Ce (C:=X.C) hr.fp hp;rw[hy]at g1;cases g1;simp only[PR]at g2;refine live id g2.1 (fun z hz=>?_) (by cases hl;rfl);have:=g2.2 z.1 z.2 hz;cases this;rfl
   case h_3=>
    rename_i s y' off' hp;obtain⟨a',g1,g2⟩:=Ce (C:=X.C) hr.fp hp;rw[hy]at g1;cases g1;simp only[PR]at g2;obtain⟨b',o',cs,he,hF,_⟩:=g2;cases he;obtain⟨t1,f1,k1⟩:=hr.sr.frz b cs hF;refine⟨[],fun g hg _=>⟨g,?_⟩,fun b' hb'=>by cases hb'⟩;obtain⟨t2,f2,k2⟩:=hg b cs hF;rw[hdop,hy];simp only;rw[hfz g cs t1 f1 t2 f2 k1 k2];rfl
 case h_2 s d y hop=>
  simp only[hop]at hd;have hdop:∀g,Gu X.C fr g o=(match ev X.C fr y with|some v=>Bz g (FQ X.C.T g s d v)|none=>none):=fun g=>by rw[CU];unfold GL;simp only[hop];rfl
  have fin:∀a,ev X.C fr y=some a->(∀g,FQ X.C.T g s d a=FQ X.C.T h s d a)->∃bl,R2 X.C F bl h fr o x/\∀b∈bl,b<h.nx/\∃id∈l,id<st.nx/\∀y,ρ id=some y->y.1=b:=by
   intro a ha hg;rw[ha]at hd;simp only at hd;obtain⟨x',hx',he⟩:=Gq hd;cases he;exact⟨[],fun g _ _=>⟨g,by rw[hdop,ha];simp only;rw[hg,hx'];rfl⟩,fun b hb=>by cases hb⟩
  split at hl
  case h_3=>cases hl
  case h_1=>
   rename_i k z hp;obtain⟨a',g1,g2⟩:=Ce (C:=X.C) hr.fp hp;simp only[PR,DC,zp,wn]at g2;subst g2;exact fin _ g1 fun g=>by
    unfold FQ;cases X.C.T.und s with
    |none=>rfl
    |some u=>cases X.C.T.und d with
     |none=>cases u<;>rfl
     |some w=>cases u<;>cases w<;>rfl
  case h_2=>
   rename_i z hp;obtain⟨a',g1,g2⟩:=Ce (C:=X.C) hr.fp hp;simp only[PR,DC,zp,wn]at g2;subst g2;exact fin _ g1 fun g=>by
    unfold FQ;cases X.C.T.und s with
    |none=>rfl
    |some u=>cases X.C.T.und d with
     |none=>cases u<;>rfl
     |some w=>cases u<;>cases w<;>rfl
 case h_3 c hop=>
  simp only[hop]at hd;split at hl
  case h_5=>cases hl
  case h_4=>
   rename_i id hcal hps;obtain⟨AcJ,g1,g2⟩:=E0 (C:=X.C) hr.fp hps;simp only[Bd]at g2;obtain⟨a,as',rfl,g2,rfl⟩:=g2;have hdop:∀g,Gu X.C fr g o=Bz g (FB X.C.T g c.argTypes [a]):=fun g=>by rw[CU];unfold GL;simp only[hop,hcal,g1];rfl
   simp only[hcal,g1,Eg]at hd;obtain⟨x',hx',he⟩:=Gq hd;cases he;cases hl;by_cases hmap:∃b,a=.map b
   ·obtain⟨b,rfl⟩:=hmap;simp only[PR]at g2;by_cases hb:∃ob,h.get b=some ob
    ·obtain⟨ob,hb⟩:=hb;refine⟨[b],fun g _ hg=>⟨g,?_⟩,fun b' hb'=>?_⟩
     ·rw[hdop];have:FB X.C.T g c.argTypes [.map b]=FB X.C.T h c.argTypes [.map b]:=by
       unfold FB;cases c.argTypes[0]? with
       |none=>rfl
       |some t=>
        simp only;cases X.C.T.und t with
        |none=>rfl
        |some d=>cases d<;>first|rfl|simp only[hg b (zc.2 rfl)]
      rw[this,hx'];rfl
     ·cases zc.1 hb';refine⟨hr.sr.lt b ob hb,id,zc.2 rfl,g2.1,fun z hz=>?_⟩;have:=g2.2 z.1 z.2 hz;cases this;rfl
    ·have hnone:h.get b=none:=by
      cases hg:h.get b with
      |none=>rfl
      |some ob=>exact wh ⟨ob,hg⟩ hb
     refine⟨[],fun g _ _=>⟨g,?_⟩,fun b' hb'=>by cases hb'⟩;obtain⟨uu,s,ht⟩:=hto;exfalso;rw[hop]at ht;simp only[pop,Tf,hps,hcal,IP,qN,Vi,ya,List.map_nil,lz]at ht;split at ht
     case h_2=>simp at ht
     rename_i t x _ he;cases he;split at ht
     case h_5=>
      rename_i he;cases he;split at ht
      case h_2=>simp at ht
      rename_i ks vs l ho;obtain⟨b1,n1,o1,q1,q2,_⟩:=hr.sr.at ho;have:=g2.2 b1 n1 q1;cases this;rw[hnone]at q2;cases q2
     all_goals first|(simp at ht;done)|(rename_i he;cases he;done)|(rename_i he _;cases he)
   ·refine⟨[],fun g _ _=>⟨g,?_⟩,fun b hb=>by cases hb⟩;rw[hdop,OM (fun b e=>hmap ⟨b,e⟩) h,hx'];rfl
  all_goals
   rename_i hcal hps;obtain⟨AcJ,g1,g2⟩:=E0 (C:=X.C) hr.fp hps;simp only[Bd]at g2;obtain⟨a,as',rfl,g2,rfl⟩:=g2;have hdop:∀g,Gu X.C fr g o=Bz g (FB X.C.T g c.argTypes [a]):=fun g=>by rw[CU];unfold GL;simp only[hop,hcal,g1];rfl
   simp only[hcal,g1,Eg]at hd;have hnm:∀b,a≠ .map b:=by
    intro b e;subst e;first
     |exact VB g2
     |exact Wa g2
     |(obtain⟨u,s,ht⟩:=hto
       exact cV hr.sr hop hcal hps ht g2)
   obtain⟨x',hx',he⟩:=Gq hd;cases he;refine⟨[],fun g _ _=>⟨g,?_⟩,fun b hb=>by cases hb⟩;rw[hdop];rw[OM hnm h,hx'];rfl
structure gB(C:Ctx)(F:Fz)(ρ:Ec)(N:Nat)(h:H)(r:Nat×Option (List Nat))(c:Rc):Prop where
 i:c.i=r.1
 k:∀l,r.2=some l->∃bl,R2 C F bl h c.f c.o c.v/\∀b∈bl,b<h.nx/\∃id∈l,id<N/\∀y,ρ id=some y->y.1=b
def VU(C:Ctx)(F:Fz)(ρ:Ec)(N:Nat)(h:H):Rs->List Rc->Prop
 |[],l=>l=[]
 |r::rs,l=>∃c cs,l=c::cs/\gB C F ρ N h r c/\VU C F ρ N h rs cs
theorem gB.mono{F':Fz}{ρ':Ec}{N':Nat}{r:Nat×Option (List Nat)}{c:Rc}(hk:gB X.C F ρ N h r c)(hl:Le F ρ N F' ρ' N')(hx:h.nx<=h'.nx)
  (hs:∀l,r.2=some l->∀b,b<h.nx->(∃id∈l,id<N/\∀y,ρ id=some y->y.1=b)->h'.get b=h.get b):gB X.C F' ρ' N' h' r c:=by
 refine⟨hk.i,fun l hl'=>?_⟩;obtain⟨bl,h1,h2⟩:=hk.k l hl';refine⟨bl,fun g hg hb=>h1 g (fun b cs hF=>hg b cs (hl.fz b cs hF)) (fun b hb'=>?_),fun b hb'=>?_⟩
 ·obtain⟨k1,k2⟩:=h2 b hb';rw[hb b hb',hs l hl' b k1 k2]
 ·obtain⟨k1,id,k2,k3,k4⟩:=h2 b hb';exact⟨zi k1 hx,id,k2,zi k3 hl.n,fun y hy=>k4 y (hl.at k3 hy)⟩
theorem VU.mono{F':Fz}{ρ':Ec}{N':Nat}(hl:Le F ρ N F' ρ' N')(hx:h.nx<=h'.nx)(hs:∀b,b<h.nx->h'.get b=h.get b):∀ {rs:Rs} {cs:List Rc},VU X.C F ρ N h rs cs->VU X.C F' ρ' N' h' rs cs
 |[],_,hk=>hk
 |r::rs,_,hk=>by
  obtain⟨c,cs,rfl,h1,h2⟩:=hk;exact⟨c,cs,rfl,h1.mono hl hx (fun l _ b hb _=>hs b hb),VU.mono hl hx hs h2⟩
theorem VU.apart{F':Fz}{ρ':Ec}{fr':Fr}{anc:Nat->Nat->Bool}{i:Nat}{t:Option (List Nat)}(hr:Rel B h0 F ρ st fr h)(hw:Dj B h0 F ρ st.nx h st' fr' h' F' ρ')
  (ht:∀ids,t=some ids->∀b,b<h.nx->h'.get b=h.get b\/∃id∈ids,∃m,ρ id=some (b,m)):
  ∀ {rs:Rs} {cs:List Rc},VU X.C F ρ st.nx h rs cs->zw anc i st t rs=true->cs.all (still X.C anc i h')=true/\VU X.C F' ρ' st'.nx h' (behind st t rs) cs
 |[],_,hk,_=>by
  cases hk;exact⟨rfl,rfl⟩
 |r::rs,_,hk,ha=>by
  obtain⟨c,cs,rfl,h1,h2⟩:=hk;unfold zw at ha;rw[zy,zd]at ha;obtain⟨h3,h4⟩:=VU.apart hr hw ht h2 (by unfold zw;exact ha.2);have key:(Z3 r.2 t&&KO st r.2)=true->∀l,r.2=some l->∀b,b<h.nx->(∃id∈l,id<st.nx/\∀y,ρ id=some y->y.1=b)->h'.get b=h.get b:=by
   rintro hd l hl b hb ⟨id,k1,k2,k3⟩;simp only[zd,hl]at hd;have hlive:=List.all_eq_true.1 hd.2 id k1;obtain⟨b1,m1,e1⟩:=hr.sr.live hlive;obtain rfl:b1=b:=k3 _ e1;cases t with
   |none=>
    cases l with
    |nil=>cases k1
    |cons a l=>cases hd.1
   |some ids=>
    rcases ht ids rfl b1 hb with e|⟨id',k4,m,e2⟩
    ·exact e
    ·exfalso;obtain⟨o1,g1⟩:=IJ hlive;have g2:∃o2,AP st.ob id'=some o2:=by
      cases hg:AP st.ob id' with
      |some o2=>exact⟨o2,rfl⟩
      |none=>rw[hr.sr.dead id' hg]at e2;cases e2
     obtain⟨o2,g2⟩:=g2;obtain rfl:=hr.sr.inj id id' o1 o2 b1 m1 m g1 g2 e1 e2;have h5:=List.all_eq_true.1 hd.1 id k1;simp only[Bool.not_eq_true']at h5;have h6:ids.any (zk id)=true:=z6.2 ⟨id,k4,yc id⟩;rw[h6]at h5;cases h5
  refine⟨?_,c,cs,rfl,?_,h4⟩
  ·rw[zy,h3,zt];unfold still;rw[h1.i];cases han:anc i r.1 with
   |true=>rfl
   |false=>
    rw[han]at ha;simp only[Bool.false_or]at ha ⊢;have hd:=ha.1;have hl:∃l,r.2=some l:=by
     cases hr2:r.2 with
     |some l=>exact⟨l,rfl⟩
     |none=>rw[hr2]at hd;simp[Z3]at hd
    obtain⟨l,hl⟩:=hl;obtain⟨bl,k1,k2⟩:=h1.k l hl;obtain⟨z,hz⟩:=k1 h' (fun b cs hF=>hw.rel.sr.frz b cs (hw.le.fz b cs hF)) (fun b hb=>key hd l hl b (k2 b hb).1 (k2 b hb).2);rw[hz];simp only;exact MH _
  ·show gB X.C F' ρ' st'.nx h' (bif Z3 r.2 t&&KO st r.2 then r else(r.1,none)) c;cases hd:(Z3 r.2 t&&KO st r.2)with
   |true=>exact h1.mono hw.le hw.nx (key hd)
   |false=>
    exact⟨h1.i,fun l hl=>by cases hl⟩
theorem OE{C:Ctx}{o:Oper}(ha:Ct o=true){r:OR}(hd:Gu C fr h o=some r):∃ob f,aZ C fr o=some (ob,f)/\r=.val (f h.nx) (h.push ob):=by
 rw[CU]at hd;unfold GL at hd;unfold Ct at ha;unfold aZ;split at ha
 case h_4=>cases ha
 case h_1 t hop=>
  simp only[hop]at hd ⊢;unfold GJ at hd;cases hi:C.T.inf t with
  |none=>rw[hi]at hd;cases hd
  |some i=>rw[hi]at hd;cases hd;exact⟨_,_,rfl,rfl⟩
 case h_2 t x hop=>
  simp only[hop]at hd ⊢;cases hx:ev C fr x with
  |none=>rw[hx]at hd;cases hd
  |some y=>rw[hx]at hd;cases hd;exact⟨_,_,rfl,rfl⟩
 case h_3 t n ps hop=>
  simp only[hop]at hd ⊢;cases hx:WW C fr ps.toList with
  |none=>rw[hx]at hd;cases hd
  |some y=>
   rw[hx]at hd;simp only at hd ⊢;unfold EU at hd;unfold Wj;split at hd
   case h_2=>cases hd
   rename_i e he;simp only[he];split at hd
   case h_2=>cases hd
   rename_i i hi;simp only[hi];cases hc:(yd (n*i.size) 16777216&&zx 0 (i.zero.length)&&zk i.zero.length i.size)with
   |false=>rw[hc]at hd;cases hd
   |true=>
    rw[hc]at hd;simp only[we]at hd ⊢;split at hd
    case h_2=>cases hd
    rename_i cs hcs;cases hd;simp only[hcs];exact⟨_,_,rfl,rfl⟩
theorem zE{T:B3}{call:F5}{st:AK}{o:Oper}{k:AK->Tr}(hrd:Eh o=true):HA T call o st k=PE o.dst k (pop o.op T st):=by
 have:J2 st o.op=.no:=by
  unfold Eh at hrd;unfold J2;cases hop:o.op<;>rw[hop]at hrd<;>first|rfl|skip
  case call c=>
   obtain⟨callee,args,ts⟩:=c;cases callee<;>first|rfl|(cases hrd)
 unfold HA;rw[this]
theorem wI{call:F5}(hcall:Ff B h0 X false call)(hr:Rel B h0 F ρ st fr h){o:Oper}(hrd:Eh o=true){k:AK->Tr}(he:Ev X Q n (HA X.C.T call o st k)):
  ∃n',n'<=n/\∃st1,Ev X Q n' (k st1)/\∃F' ρ' x fr',Gu X.C fr h o=some (.val x h)/\fr.put o.dst x=some fr'/\Dj B h0 F ρ st.nx h st1 fr' h F' ρ'/\∃u s,(pop o.op X.C.T st).To u s:=by
 obtain⟨l,hdid,hnd,hall⟩:=HF hcall hr he;obtain⟨⟨⟨x,h'⟩,rfl⟩,_⟩:=hnd.1 rfl;obtain⟨n',hn,st1,he1,F',ρ',fr',hput,hw,_⟩:=hall _ (zc.2 rfl);have hto:∃u s,(pop o.op X.C.T st).To u s:=by
  rw[zE hrd]at he;obtain⟨u,s,_,h1,_⟩:=I9 he;exact⟨u,s,h1⟩
 cases hdid with
 |val hd=>
  obtain⟨y,hy⟩:=rd_val hrd hd;cases hy;exact⟨n',hn,st1,he1,F',ρ',x,fr',hd,hput,hw,hto⟩
 |skip hd=>obtain⟨y,hy⟩:=rd_val hrd hd;cases hy
 |call hd _=>obtain⟨y,hy⟩:=rd_val hrd hd;cases hy
 |round hd _=>obtain⟨y,hy⟩:=rd_val hrd hd;cases hy
 |alts hd=>obtain⟨y,hy⟩:=rd_val hrd hd;cases hy
theorem PY{call:F5}(hcall:Ff B h0 X false call){ops:Array Oper}{anc:Nat->Nat->Bool}:∀ {L:List Nat} {n:Nat} {st:AK} {F:Fz} {ρ:Ec} {fr:Fr} {h:H} {k:AK->Tr} {rs:Rs} {cs:List Rc},Rel B h0 F ρ st fr h->VU X.C F ρ st.nx h rs cs->
  Ev X Q n (JE X.C.T X.sp call ops anc L st rs k)->
  ∃n',n'<=n/\∃st1,Ev X Q n' (k st1)/\∃F' ρ' fr' h',Dj B h0 F ρ st.nx h st1 fr' h' F' ρ'/\∃M,∀m,M<=m->∃cs',TB X.C (Bl X.C m) ops anc L ⟨fr,h,cs⟩=some ⟨fr',h',cs'⟩
 |[],n,st,F,ρ,fr,h,k,rs,cs,hr,_,he=>⟨n,ze _,st,he,F,ρ,fr,h,Dj.refl hr,0,fun _ _=>⟨cs,rfl⟩⟩
 |i::is,n,st,F,ρ,fr,h,k,rs,cs,hr,hrs,he=>by
  unfold JE at he;cases ho:ops[i]? with
  |none=>rw[ho]at he;exact wh he zh
  |some o=>
   rw[ho]at he;simp only at he;obtain⟨st1,hr1,e1,e2,hcase⟩:=Nc hr he;rw[<-e1]at hrs;have fin:∀ {n1:Nat} {st2:AK} {F1:Fz} {ρ1:Ec} {fr1:Fr} {h1:H} {rs2:Rs} {cs2:List Rc},n1<=n->Dj B h0 F ρ st.nx h st2 fr1 h1 F1 ρ1->VU X.C F1 ρ1 st2.nx h1 rs2 cs2->Ev X Q n1 (JE X.C.T X.sp call ops anc is st2 rs2 k)->
     (∃M,∀m,M<=m->∃x,HZ X.C (Bl X.C m) ops anc i ⟨fr,h,cs⟩=some (x,⟨fr1,h1,cs2⟩))->
     ∃n',n'<=n/\∃st1,Ev X Q n' (k st1)/\∃F' ρ' fr' h',Dj B h0 F ρ st.nx h st1 fr' h' F' ρ'/\∃M,∀m,M<=m->∃cs',TB X.C (Bl X.C m) ops anc (i::is) ⟨fr,h,cs⟩=some ⟨fr',h',cs'⟩:=by
    rintro n1 st2 F1 ρ1 fr1 h1 rs2 cs2 hn1 hw hrs2 he2 ⟨M1,hM1⟩;obtain⟨n2,hn2,st3,he3,F2,ρ2,fr2,h2,hw2,M2,hM2⟩:=PY hcall hw.rel hrs2 he2;refine⟨n2,zj hn2 hn1,st3,he3,F2,ρ2,fr2,h2,hw.trans hw2,max M1 M2,fun m hm=>?_⟩;obtain⟨x,hx⟩:=hM1 m (by omega);obtain⟨cs',hcs'⟩:=hM2 m (by omega);exact⟨cs',by unfold TB;rw[hx];exact hcs'⟩
   rcases hcase with⟨hw,he⟩|⟨hw,he⟩
   ·cases hrd:Eh o with
    |true=>
     rw[hrd]at he;simp only[we]at he;obtain⟨n1,hn1,st2,he2,F1,ρ1,x,fr1,hd,hput,hwent,hto⟩:=wI hcall hr1 hrd he;rw[e1]at hwent;have hrs2:VU X.C F1 ρ1 st2.nx h rs cs:=hrs.mono (by rw[e1];exact hwent.le) (ze _) (fun _ _=>rfl);cases hhd:Ot o with
     |false=>
      rw[hhd]at he2;refine fin (cs2:=cs) hn1 hwent hrs2 he2 ⟨0,fun m _=>⟨x,?_⟩⟩;unfold HZ;simp only[ho,hw,we,hrd,hd,hput,hhd,wg]
     |true=>
      rw[hhd]at he2;refine fin (cs2:=⟨i,o,fr,x⟩::cs) (rs2:=(i,rP st1 o.op)::rs) hn1 hwent ⟨_,_,rfl,⟨rfl,fun l hl=>?_⟩,hrs2⟩ he2 ⟨0,fun m _=>⟨x,?_⟩⟩
      ·obtain⟨bl,k1,k2⟩:=ZQ hr1 hd hl hto;refine⟨bl,fun g hg hb=>k1 g (fun b cs hF=>hg b cs (hwent.le.fz b cs hF)) hb,fun b hb=>?_⟩;obtain⟨j1,id,j2,j3,j4⟩:=k2 b hb;rw[e1]at j3;exact⟨j1,id,j2,zi j3 hwent.le.n,fun y hy=>j4 y (hwent.le.at j3 hy)⟩
      ·unfold HZ;simp only[ho,hw,we,hrd,hd,hput,hhd]
    |false=>
     rw[hrd]at he;simp only[wg]at he;cases hal:Ct o with
     |true=>
      rw[hal]at he;simp only[we]at he;obtain⟨l,hdid,hnd,hall⟩:=HF hcall hr1 he;obtain⟨⟨⟨x,h1⟩,rfl⟩,hna⟩:=hnd.1 rfl;obtain⟨n1,hn1,st2,he2,F1,ρ1,fr1,hput,hwent,_⟩:=hall _ (zc.2 rfl);rw[e1]at hwent;simp only at hput hwent;have hv:∃ob f,aZ X.C fr o=some (ob,f)/\x=f h.nx/\h1=h.push ob:=by
       cases hdid with
       |val hd=>obtain⟨ob,f,k1,k2⟩:=OE hal hd;cases k2;exact⟨ob,f,k1,rfl,rfl⟩
       |skip hd=>obtain⟨ob,f,k1,k2⟩:=OE hal hd;cases k2
       |call hd _=>obtain⟨ob,f,k1,k2⟩:=OE hal hd;cases k2
       |round hd _=>obtain⟨ob,f,k1,k2⟩:=OE hal hd;cases k2
       |alts hd=>obtain⟨ob,f,k1,k2⟩:=OE hal hd;cases k2
      obtain⟨ob1,f,k1,rfl,rfl⟩:=hv;have hrs2:VU X.C F1 ρ1 st2.nx (h.push ob1) rs cs:=hrs.mono (by rw[e1];exact hwent.le) (by simp) (fun b hb=>by simp[Nat.ne_of_lt hb]);refine fin (cs2:=cs) hn1 hwent hrs2 he2 ⟨0,fun m _=>⟨f h.nx,?_⟩⟩;unfold HZ;simp only[ho,hw,we,hrd,wg,hal,k1,hput]
     |false=>
      rw[hal]at he;simp only[wg]at he;cases hap2:(zw anc i st1 (Hi X.sp st1 o.op) rs&&iJ st1 o.op)with
      |false=>rw[hap2]at he;exact wh he zh
      |true=>
       rw[hap2]at he;simp only[we]at he;simp only[zd]at hap2;obtain⟨hap,hnr⟩:=hap2;obtain⟨l,hdid,hnd,hall⟩:=HF hcall hr1 he;obtain⟨⟨⟨x,h1⟩,rfl⟩,hna⟩:=hnd.1 rfl;obtain⟨n1,hn1,st2,he2,F1,ρ1,fr1,hput,hwent,htch⟩:=hall _ (zc.2 rfl);simp only at hput hwent htch;obtain⟨k1,k2⟩:=VU.apart hr1 hwent htch hrs hap;rw[e1]at hwent;refine fin hn1 hwent k2 he2 ?_;have hh:∃M,∀m,M<=m->DJ X.C (Bl X.C m) fr h o=some (x,h1):=by
        cases hdid with
        |val hd=>exact⟨0,fun m _=>by unfold DJ;rw[hd]⟩
        |skip hd=>exact⟨0,fun m _=>by unfold DJ;rw[hd]⟩
        |alts hd=>exact wh hd (hna _)
        |round hd _=>exact wh hd (hnd.2 (fun id a e=>by unfold iJ at hnr;rw[e]at hnr;cases hnr) _ _ _)
        |@call g args _ M hd hM=>exact⟨M,fun m hm=>by unfold DJ;rw[hd];simp only[hM m hm]⟩
       obtain⟨M,hM⟩:=hh;refine⟨M,fun m hm=>⟨x,?_⟩⟩;unfold HZ;simp only[ho,hw,we,hrd,wg,hal,hM m hm,hput,k1]
   ·cases hv:CF o with
    |false=>
     rw[hv]at he;simp only[wg]at he;unfold Mi at he;split at he
     case h_2=>exact wh he zh
     rename_i st2 hput;obtain⟨fr1,g1,g2,g3,g4⟩:=hr1.put (x:=.tup []) (by simp[PR]) hput;refine fin (cs2:=cs) (ze _) ⟨g2,by rw[g3,e1];exact zu,ze _⟩ (by rw[g3];exact hrs) he ⟨0,fun m _=>⟨.tup [],?_⟩⟩;unfold HZ;simp only[ho,hw,wg,g1,hv]
    |true=>
     rw[hv]at he;simp only[we]at he;cases hap:zw anc i st1 (some []) rs with
     |false=>rw[hap]at he;exact wh he zh
     |true=>
      rw[hap]at he;simp only[we]at he;unfold Mi at he;split at he
      case h_2=>exact wh he zh
      rename_i st2 hput;obtain⟨fr1,g1,g2,g3,g4⟩:=hr1.put (x:=.tup []) (by simp[PR]) hput;have hwent:Dj B h0 F ρ st1.nx h st2 fr1 h F ρ:=⟨g2,by rw[g3];exact zu,ze _⟩;obtain⟨k1,k2⟩:=VU.apart (t:=some []) hr1 hwent (fun ids _ b _=>.inl rfl) hrs hap;rw[e1]at hwent;refine fin (ze _) hwent k2 he ⟨0,fun m _=>⟨.tup [],?_⟩⟩;unfold HZ;simp only[ho,hw,wg,g1,hv,we,k1]
theorem Zt{call:F5}(hcall:Ff B h0 X false call){ops:Array Oper}{k:AK->Tr}(hr:Rel B h0 F ρ st fr h)(he:Ev X Q n (JE X.C.T X.sp call ops (EF ops).a (EF ops).ord st [] k)):
  ∃n',n'<=n/\∃st1,Ev X Q n' (k st1)/\∃F' ρ' fr' h',Dj B h0 F ρ st.nx h st1 fr' h' F' ρ'/\∃M,∀m,M<=m->II X.C (Bl X.C m) ops fr h=some (fr',h'):=by
 obtain⟨n',hn,st1,he1,F',ρ',fr',h',hw,M,hM⟩:=PY (cs:=[]) hcall hr (by rfl) he;refine⟨n',hn,st1,he1,F',ρ',fr',h',hw,M,fun m hm=>?_⟩;obtain⟨cs',hcs'⟩:=hM m hm;unfold II;rw[hcs']
end
section
variable {B:Nat}{h0:H0}{F:Fz}{ρ ρ':Ec}{N N':Nat}{f:Nat->Option Nat}
mutual
theorem N4(hf:∀i j,i<N->f i=some j->j<N'/\ρ' j=ρ i):∀ {p:PV} {v:V},PR F ρ N p v->PR F ρ' N' (Gb f p) v
 | .any,_,_=>by simp[Gb,PR]
 | .bl _,_,h=>by simpa only[Gb,PR]using h
 | .ub,_,h=>by simpa only[Gb,PR]using h
 | .dat _ _,_,h=>by simpa only[Gb,PR]using h
 | .nil,_,h| .nilp,_,h| .nilm,_,h| .nilf,_,h| .nili,_,h=>by simpa only[Gb,PR]using h
 | .CW _ _ _,_,h=>by simpa only[Gb,PR]using h
 | .agg l,_,h=>by simp only[Gb,PR]at h ⊢;obtain⟨cs,rfl,h1⟩:=h;exact⟨cs,rfl,ED hf h1⟩
 | .tup l,_,h=>by simp only[Gb,PR]at h ⊢;obtain⟨cs,rfl,h1⟩:=h;exact⟨cs,rfl,ED hf h1⟩
 | .fn g a b,_,h=>by simp only[Gb,PR]at h ⊢;obtain⟨x,y,rfl,h1,h2⟩:=h;exact⟨x,y,rfl,ED hf h1,ED hf h2⟩
 | .ptr i o,_,h=>by
  simp only[Gb];cases hi:f i with
  |none=>simp[PR]
  |some j=>
   simp only[PR]at h ⊢;obtain⟨h1,h2⟩:=hf i j h.1 hi;exact⟨h1,fun b n hb=>h.2 b n (by rw[<-h2];exact hb)⟩
 | .eptr i _ _ _,_,h=>by
  simp only[Gb];cases hi:f i with
  |none=>simp[PR]
  |some j=>
   simp only[PR]at h ⊢;obtain⟨h1,h2⟩:=hf i j h.1 hi;exact⟨h1,fun b n hb=>h.2 b n (by rw[<-h2];exact hb)⟩
 | .sl i _ _ _ _,_,h=>by
  simp only[Gb];cases hi:f i with
  |none=>simp[PR]
  |some j=>
   simp only[PR]at h ⊢;obtain⟨h1,h2⟩:=hf i j h.1 hi;exact⟨h1,fun b n hb=>h.2 b n (by rw[<-h2];exact hb)⟩
 | .yl i,_,h=>by
  simp only[Gb];cases hi:f i with
  |none=>simp[PR]
  |some j=>
   simp only[PR]at h ⊢;obtain⟨h1,h2⟩:=hf i j h.1 hi;exact⟨h1,fun b n hb=>h.2 b n (by rw[<-h2];exact hb)⟩
 | .mp i,_,h=>by
  simp only[Gb];cases hi:f i with
  |none=>simp[PR]
  |some j=>
   simp only[PR]at h ⊢;obtain⟨h1,h2⟩:=hf i j h.1 hi;exact⟨h1,fun b n hb=>h.2 b n (by rw[<-h2];exact hb)⟩
theorem ED(hf:∀i j,i<N->f i=some j->j<N'/\ρ' j=ρ i):∀ {ps:List PV} {vs:List V},Bd F ρ N ps vs->Bd F ρ' N' (JR f ps) vs
 |[],_,h=>by simpa [JR]using h
 |p::ps,_,h=>by
  simp only[Bd]at h;obtain⟨v,vs,rfl,h1,h2⟩:=h;simp only[JR,A3];exact⟨N4 hf h1,ED hf h2⟩
end
theorem QM(f:PV->PV):∀(sl:List (Nat×PV)) (m m':PM PV),(∀t,m'.get t=(m.get t).map f)->∀t,((sl.map fun x=>(x.1,f x.2)).foldl (fun m x=>m.set x.1 (some x.2)) m').get t=((sl.foldl (fun m x=>m.set x.1 (some x.2)) m).get t).map f
 |[],_,_,h,t=>h t
 |x::sl,m,m',h,t=>by
  simp only[ya,List.foldl_cons];refine QM f sl _ _ (fun t=>?_) t;rw[PM.Db,PM.Db];split
  ·rfl
  ·exact h t
theorem V3(f:PV->PV)(hf:f .any=.any)(sl:List (Nat×PV))(t:Nat):SH (sl.map fun x=>(x.1,f x.2)) t=f (SH sl t):=by
 unfold SH Fq;rw[QM f sl .leaf .leaf (fun t=>by rw[PM.Di];rfl) t];cases (sl.foldl (fun m x=>m.set x.1 (some x.2)) PM.leaf).get t with
 |none=>exact hf.symm
 |some x=>rfl
theorem bS(hf:∀i j,i<N->f i=some j->j<N'/\ρ' j=ρ i){n:Nat}{o:Obj}{x:O}(h:XA F ρ N n o x):XA F ρ' N' n (S1 f o) x:=by
 cases o with
 |arr fz e s l=>exact h
 |box ps=>obtain⟨cs,t,fz,h1,h2,h3⟩:=h;exact⟨cs,t,fz,h1,ED hf h2,h3⟩
 |tbox t ps=>obtain⟨cs,fz,h1,h2,h3⟩:=h;exact⟨cs,fz,h1,ED hf h2,h3⟩
 |lp g r ps asg body s n sl=>
  obtain⟨ls,h1,h2,h3,h4,h5,h6,h7⟩:=h;refine⟨ls,h1,h2,h3,h4,h5,h6,fun t=>?_⟩;rw[V3 (Gb f) (by simp[Gb])];exact N4 hf (h7 t)
 |map ks vs l=>exact h
 |siter s p=>exact h
theorem UA(o:Obj):(S1 f o).frozen=o.frozen:=by cases o<;>rfl
theorem I3{st:AK}{base:Nat}:∀(n:Nat) (is acc:List Nat),(∀i∈acc,base<=i/\(st.obj i).isSome=true)->acc.Nodup->(∀i∈Ik st base n is acc,base<=i/\(st.obj i).isSome=true)/\(Ik st base n is acc).Nodup
 |0,_,acc,h1,h2=>⟨h1,h2⟩
 |n+1,[],acc,h1,h2=>⟨h1,h2⟩
 |n+1,i::is,acc,h1,h2=>by
  unfold Ik;cases hc:(zx i base||acc.any (zk i))with
  |true=>simp only[we];exact I3 n is acc h1 h2
  |false=>
   simp only[wg];cases ho:st.obj i with
   |none=>simp only;exact I3 n is acc h1 h2
   |some o=>
    simp only;simp only[Bool.or_eq_false_iff]at hc;have hb:base<=i:=by
     rcases Nat.lt_or_ge i base with h|h
     ·have:=hc.1;rw[DI h]at this;cases this
     ·exact h
    have hni:i∉acc:=by
     intro hi;have:acc.any (zk i)=true:=z6.2 ⟨i,hi,yc i⟩;rw[hc.2]at this;cases this
    refine I3 n _ _ (fun j hj=>?_) ?_
    ·rcases zq.1 hj with hj|hj
     ·exact h1 j hj
     ·cases zc.1 hj;exact⟨hb,by rw[ho];rfl⟩
    ·rw[List.nodup_append];exact⟨h2,by simp,fun a ha b hb'=>by cases zc.1 hb';exact fun e=>hni (e▸ha)⟩
theorem N9{base:Nat}:∀(ids:List Nat) (n i j:Nat),ids.Nodup->N3 base ids n i=some j->(∃k,ids[k]?=some i/\j=n+k)\/(i∉ids/\i<base/\j=i)
 |[],n,i,j,_,h=>by
  unfold N3 at h;cases hb:zx i base with
  |false=>rw[hb]at h;cases h
  |true=>rw[hb]at h;cases h;exact .inr ⟨by simp,zr hb,rfl⟩
 |a::ids,n,i,j,hn,h=>by
  unfold N3 at h;rw[Br]at h;by_cases e:i=a
  ·subst e;simp only[decide_true,we,zn]at h;exact .inl ⟨0,rfl,by omega⟩
  ·simp only[e,decide_false,wg]at h;have hn':=List.nodup_cons.1 hn;rcases N9 ids (ye n 1) i j hn'.2 h with⟨k,h1,h2⟩|⟨h1,h2,h3⟩
   ·exact .inl ⟨k+1,by simpa using h1,by rw[h2];show n+1+k=_;omega⟩
   ·exact .inr ⟨by simp[e,h1],h2,h3⟩
theorem Yc(f:Nat->Option Nat)(base:Nat):∀(l:Ob) (j:Nat),AP (low f base l) j=if j<base then(AP l j).map (S1 f)else none
 |[],j=>by simp[low,AP]
 |(i,o)::l,j=>by
  simp only[low];have ih:=Yc f base l j;by_cases hi:i<base
  ·rw[DI hi];simp only[we,AP,Br];by_cases e:i=j
   ·subst e;simp[hi]
   ·simp only[e,decide_false,wg];exact ih
  ·have:zx i base=false:=by
    cases hb:zx i base with
    |false=>rfl
    |true=>exact wh (zr hb) hi
   rw[this];simp only[wg,AP,Br];rw[ih];by_cases e:i=j
   ·subst e;simp[hi]
   ·simp[e]
theorem Up{st:AK}(f:Nat->Option Nat):∀(ids:List Nat) (n:Nat) (acc:Ob) (j:Nat),(∀i∈ids,(st.obj i).isSome=true)->AP (kept st f ids n acc) j=(if n<=j/\j<n+ids.length then(ids[j-n]?).bind fun i=>(st.obj i).map (S1 f)else AP acc j)
 |[],n,acc,j,_=>by simp only[kept,List.length_nil];rw[wc (by omega)]
 |i::ids,n,acc,j,h=>by
  obtain⟨o,ho⟩:=zz.1 (h i (by simp));unfold kept;rw[ho];simp only;rw[Up f ids (ye n 1) _ j (fun k hk=>h k (by simp[hk]))];have ea:ye n 1=n+1:=rfl;rw[ea];by_cases h1:n+1<=j/\j<n+1+ids.length
  ·rw[wd h1,wd (by simp;omega)];have:j-n=(j-(n+1))+1:=by omega
   rw[this];simp
  ·rw[wc h1];simp only[AP,Br];by_cases e:n=j
   ·subst e;rw[wd (by simp)];simp[ho]
   ·rw[wc (by simp;omega)];simp[e]
theorem IK:∀(vs:List (Nat×PV)) (m:PM PV) (t:Nat) (p:PV),(vs.foldl (fun m x=>m.set x.1 (some x.2)) m).get t=some p->(t,p)∈vs\/m.get t=some p
 |[],m,t,p,h=>.inr h
 |x::vs,m,t,p,h=>by
  rcases IK vs _ t p h with h1|h1
  ·exact .inl (List.mem_cons_of_mem _ h1)
  ·rw[PM.Db]at h1;split at h1
   ·rename_i e;cases h1;exact .inl (by rw[e];exact List.mem_cons_self)
   ·exact .inr h1
theorem ZS{st:AK}{fr:Fr}{h:H}(hr:Rel B h0 F ρ st fr h)(base:Nat)(L:List Nat)(_hb:base<=st.nx):
  ∃ρ',Rel B h0 F ρ' (canon base L st) fr h/\base<=(canon base L st).nx/\∀id,id<base->ρ' id=ρ id:=by
 generalize hids:Ik st base 100 (JH ((L.map fun t=>(t,st.get t)).map (·.2))++Pc base st.ob) []=ids;have hok:=I3 (st:=st) (base:=base) 100 (JH ((L.map fun t=>(t,st.get t)).map (·.2))++Pc base st.ob) [] (fun i hi=>by cases hi) zl;rw[hids]at hok;obtain⟨hal,hnd⟩:=hok;let g:=N3 base ids base
 let ρ1:Ec:=fun id=>if id<base then ρ id else(ids[id-base]?).bind ρ
 have hlow:∀id,id<base->ρ1 id=ρ id:=fun id h=>by show(if id<base then ρ id else _)=_;rw[wd h]
 have hhigh:∀k i,ids[k]?=some i->ρ1 (base+k)=ρ i:=by
  intro k i hk;show(if base+k<base then ρ (base+k)else(ids[base+k-base]?).bind ρ)=ρ i;rw[wc (by omega),Nat.add_sub_cancel_left,hk];rfl
 have hc:canon base L st=AF st.n ((L.map fun t=>(t,st.get t)).map fun x=>(x.1,Gb g x.2)) (kept st g ids base (low g base st.ob)) (base+ids.length):=by
  rw[show g=N3 base ids base from rfl, <-hids];rfl
 have hg:∀i j,i<st.nx->g i=some j->j<base+ids.length/\ρ1 j=ρ i:=by
  intro i j _ hij;rcases N9 ids base i j hnd hij with⟨k,h1,rfl⟩|⟨_,h2,rfl⟩
  ·have:=(zf.1 h1).1;exact⟨by omega,hhigh k i h1⟩
  ·exact⟨by omega,hlow _ h2⟩
 have hob:∀j,AP (kept st g ids base (low g base st.ob)) j=if j<base then(AP st.ob j).map (S1 g)else(ids[j-base]?).bind fun i=>(st.obj i).map (S1 g):=by
  intro j;rw[Up g ids base _ j (fun i hi=>(hal i hi).2),Yc];by_cases h1:j<base
  ·rw[wc (by omega),wd h1,wd h1]
  ·by_cases h2:j<base+ids.length
   ·rw[wd (by omega),wc h1]
   ·rw[wc (by omega),wc h1,wc h1,List.getElem?_eq_none (by omega)];rfl
 have src:∀j o',AP (kept st g ids base (low g base st.ob)) j=some o'->∃i o,AP st.ob i=some o/\o'=S1 g o/\ρ1 j=ρ i/\j<base+ids.length/\((j<base/\i=j)\/(base<=j/\ids[j-base]?=some i/\base<=i)):=by
  intro j o' hj;rw[hob]at hj;by_cases h1:j<base
  ·rw[wd h1,z7]at hj;obtain⟨o,h2,rfl⟩:=hj;exact⟨j,o,h2,rfl,hlow j h1,by omega,.inl ⟨h1,rfl⟩⟩
  ·rw[wc h1]at hj;cases hk:ids[j-base]? with
   |none=>rw[hk]at hj;cases hj
   |some i=>
    rw[hk]at hj;simp only[Option.bind_some,z7]at hj;obtain⟨o,h2,rfl⟩:=hj;have hlt:=(zf.1 hk).1;have:=hhigh (j-base) i hk;rw[show base+(j-base)=j from by omega]at this;exact⟨i,o,h2,rfl,this,by omega,.inr ⟨by omega,by first|exact hk|rfl,(hal i (List.mem_of_getElem? hk)).1⟩⟩
 refine⟨ρ1,?_,by rw[hc];show base<=base+ids.length;omega,hlow⟩;rw[hc];refine⟨⟨hr.fp.n,fun t=>?_⟩,⟨fun j o' hj=>?_,fun i j oi oj c m m' hi hj h1 h2=>?_,hr.sr.frz,fun id b m hbm=>?_,fun j hj=>?_,hr.sr.old,hr.sr.lt,hr.sr.le,hr.sr.fo,hr.sr.gl,fun c hc=>?_⟩⟩
 ·generalize hvs:((L.map fun t=>(t,st.get t)).map fun x=>(x.1,Gb g x.2))=vs;show PR F ρ1 (base+ids.length) (((Fq vs).get t).getD .any) (fr.get t);cases hp:(Fq vs).get t with
  |none=>show PR F ρ1 (base+ids.length) PV.any (fr.get t);simp[PR]
  |some p=>
   show PR F ρ1 (base+ids.length) p (fr.get t);rcases IK vs .leaf t p hp with h1|h1
   ·rw[<-hvs]at h1;simp only[List.map_map,yf,Function.comp]at h1;obtain⟨s,_,h2⟩:=h1;cases h2;exact N4 hg (hr.fp.slot _)
   ·simp at h1
 ·obtain⟨i,o,h1,rfl,h2,h3,_⟩:=src j o' hj;obtain⟨b,m,x,k1,k2,k3,k4⟩:=hr.sr.obj i o h1;exact⟨b,m,x,h2.trans k1,k2,bS hg k3,by rw[UA];exact k4⟩
 ·obtain⟨a,o,g1,_,g2,_,g3⟩:=src i oi hi;obtain⟨a',o',g4,_,g5,_,g6⟩:=src j oj hj;rw[g2]at h1;rw[g5]at h2;have hab:=hr.sr.inj a a' o o' c m m' g1 g4 h1 h2;subst hab;rcases g3 with⟨e1,e2⟩|⟨e1,e2,e3⟩<;>rcases g6 with⟨f1,f2⟩|⟨f1,f2,f3⟩
  ·omega
  ·omega
  ·omega
  ·have i1:=zf.1 e2;have i2:=zf.1 f2;have:=(List.getElem?_inj i1.1 hnd).1 (e2.trans f2.symm);omega
 ·have hbm:(if id<base then ρ id else(ids[id-base]?).bind ρ)=some (b,m):=hbm;by_cases h1:id<base
  ·rw[wd h1]at hbm;exact⟨by show id<base+ids.length;omega,(hr.sr.own id b m hbm).2⟩
  ·rw[wc h1]at hbm;cases hk:ids[id-base]? with
   |none=>rw[hk]at hbm;cases hbm
   |some i=>
    rw[hk]at hbm;have:=(zf.1 hk).1;exact⟨by show id<base+ids.length;omega,(hr.sr.own i b m hbm).2⟩
 ·have hj':AP (kept st g ids base (low g base st.ob)) j=none:=hj;rw[hob]at hj';show(if j<base then ρ j else(ids[j-base]?).bind ρ)=none;by_cases h1:j<base
  ·rw[wd h1]at hj' ⊢;exact hr.sr.dead j (by simpa using hj')
  ·rw[wc h1]at hj' ⊢;cases hk:ids[j-base]? with
   |none=>rfl
   |some i=>
    rw[hk]at hj';simp only[Option.bind_some,Option.map_eq_none_iff]at hj' ⊢;exact hr.sr.dead i hj'
 ·obtain⟨g1,g2,g3⟩:=hr.sr.pn c hc;refine⟨g1,g2,fun id m e=>?_⟩;have e:(if id<base then ρ id else(ids[id-base]?).bind ρ)=some (c,m):=e;by_cases h1:id<base
  ·rw[wd h1]at e;exact g3 id m e
  ·rw[wc h1]at e;cases hk:ids[id-base]? with
   |none=>rw[hk]at e;cases e
   |some i=>rw[hk]at e;exact g3 i m e
end
section
variable {B:Nat}{h0:H0}{X:A6}{F:Fz}{ρ:Ec}{N:Nat}{h:H}
theorem Q3(h0:H0)(a b:List Nat):(h0.pins a).pins b=h0.pins (b++a):=by unfold H0.pins;simp
theorem SR.jE{ob:Ob}{ps:List Nat}(hr:SR B (h0.pins ps) F ρ N ob h):SR B h0 F ρ N ob h:=
 ⟨hr.obj,hr.inj,hr.frz,hr.own,hr.dead,hr.old,hr.lt,hr.le,hr.fo,hr.gl,fun b hb=>hr.pn b (List.mem_append_right _ hb)⟩
theorem SR.mark{ob:Ob}(hr:SR B h0 F ρ N ob h):SR B (h0.pins [h.nx]) F ρ N ob (h.push (.defd true)):=by
 have hnew:∀b y,h.get b=some y->b≠h.nx:=fun b y hb=>by have:=hr.lt b y hb;omega
 have hget:∀b y,h.get b=some y->(h.push (.defd true)).get b=some y:=fun b y hb=>by rw[H.BK,wc (hnew b y hb)];exact hb
 refine⟨fun j oj hj=>?_,hr.inj,fun c cs hc=>?_,hr.own,hr.dead,fun c hc he=>?_,fun c oc hc=>?_,?_,hr.fo,hr.gl,fun c hc=>?_⟩
 ·obtain⟨c,m,y,h1,h2,h3⟩:=hr.obj j oj hj;exact⟨c,m,y,h1,hget c y h2,h3⟩
 ·obtain⟨t,fz,hg⟩:=hr.frz c cs hc;exact⟨t,fz,hget _ _ hg⟩
 ·have:=hr.le;rw[H.BK,wc (by omega)];exact hr.old c hc he
 ·rw[H.BK]at hc;by_cases e:c=h.nx
  ·subst e;exact Nat.lt_succ_self _
  ·rw[wc e]at hc;have:=hr.lt c oc hc;show c<h.nx+1;omega
 ·have:=hr.le;show B<=h.nx+1;omega
 ·rcases zq.1 hc with hc|hc
  ·cases zc.1 hc;refine⟨by rw[H.BK,wd rfl],hr.le,fun id n e=>?_⟩;by_cases hob:∃o,AP ob id=some o
   ·obtain⟨o,ho⟩:=hob;obtain⟨c,m,y,g1,g2,_⟩:=hr.obj id o ho;rw[e]at g1;cases g1;exact hnew _ _ g2 rfl
   ·have:AP ob id=none:=by
     cases hh:AP ob id with
     |none=>rfl
     |some o=>exact wh ⟨o,hh⟩ hob
    rw[hr.dead id this]at e;cases e
  ·obtain⟨g1,g2,g3⟩:=hr.pn c hc;exact⟨hget _ _ g1,g2,g3⟩
theorem SR.nL{ob:Ob}(hr:SR B h0 F ρ N ob h){b:Nat}{x y:O}(h1:∀id o n,AP ob id=some o->ρ id≠some (b,n))(h2:F b=none)(h3:h0.aT B b)(h4:b∉h0.pin)(hg:h.get b=some x):SR B h0 F ρ N ob (h.put b y):=by
 refine⟨fun j oj hj=>?_,hr.inj,fun c cs hc=>?_,hr.own,hr.dead,fun c hc he=>?_,fun c oc hc=>?_,hr.le,hr.fo,hr.gl,fun c hc=>?_⟩
 ·obtain⟨c,m,y,g1,g2,g3⟩:=hr.obj j oj hj;have:c≠b:=fun e=>h1 j oj m hj (e▸g1)
  exact⟨c,m,y,g1,by rw[H.Bq,wc this];exact g2,g3⟩
 ·have:c≠b:=fun e=>by rw[e,h2]at hc;cases hc
  rw[H.Bq,wc this];exact hr.frz c cs hc
 ·have:c≠b:=Nn h3 hc he;rw[H.Bq,wc this];exact hr.old c hc he
 ·rw[H.Bq]at hc;split at hc
  ·rename_i e;subst e;exact hr.lt _ _ hg
  ·exact hr.lt c oc hc
 ·obtain⟨g1,g2,g3⟩:=hr.pn c hc;have hne:c≠b:=fun e=>h4 (e▸hc)
  exact⟨by rw[H.Bq,wc hne];exact g1,g2,g3⟩
theorem SR.leave{ob:Ob}:∀ {ps:List Nat} {h:H},ps.Nodup->(∀b∈ps,b∉h0.pin)->SR B (h0.pins ps) F ρ N ob h->∃h1,Fy ps h=some h1/\SR B h0 F ρ N ob h1/\h1.nx=h.nx/\∀b,b∉ps->h1.get b=h.get b
 |[],h,_,_,hr=>⟨h,rfl,hr,rfl,fun _ _=>rfl⟩
 |p::ps,h,hn,hd,hr=>by
  obtain⟨g1,g2,g3⟩:=hr.pn p (by simp[H0.pins]);rw[List.nodup_cons]at hn;have hr1:SR B ((h0.pins ps).pins [p]) F ρ N ob h:=by rw[Q3];exact hr
  have hp:SR B (h0.pins ps) F ρ N ob (h.put p (.defd false)):=by
   refine SR.nL hr1.jE (fun id o n _=>g3 id n) ?_ (.inl g2) ?_ g1
   ·cases hF:F p with
    |none=>rfl
    |some cs=>obtain⟨t,fz,k⟩:=hr.frz p cs hF;rw[g1]at k;cases k
   ·intro h;rcases zq.1 h with h|h
    ·exact hn.1 h
    ·exact hd p (by simp) h
  obtain⟨h1,k1,k2,k3,k4⟩:=SR.leave hn.2 (fun b hb=>hd b (by simp[hb])) hp;refine⟨h1,?_,k2,k3,fun b hb=>?_⟩
  ·show(match h.get p with|some (.defd true)=>Fy ps (h.put p (.defd false))|_=>none)=_;rw[g1];exact k1
  ·simp only[yb,not_or]at hb;rw[k4 b hb.2,H.Bq,wc hb.1]
theorem jF{st:AK}{fr:Fr}(hr:Rel B h0 F ρ st fr h)(base:Nat)(x:Nat×Sh):∃F1 ρ1,Rel B h0 F1 ρ1 (qA base x st) fr h/\(qA base x st).nx=st.nx/\(∀id,id<base->ρ1 id=ρ id)/\∀b cs,F b=some cs->F1 b=some cs:=by
 have hs:=hr.fp.slot x.1;unfold qA;split
 case h_1=>
  rename_i hg;rw[hg]at hs;simp only[PR]at hs;exact⟨F,ρ,hr.note (by rw[hs];simp[PR,DC]),rfl,fun _ _=>rfl,fun _ _ h=>h⟩
 case h_4=>exact⟨F,ρ,hr,rfl,fun _ _=>rfl,fun _ _ h=>h⟩
 case h_3=>
  rename_i id hg;cases hb:yd base id with
  |false=>exact⟨F,ρ,hr,rfl,fun _ _=>rfl,fun _ _ h=>h⟩
  |true=>
  simp only[we];have hb:=zr hb;split
  case h_2=>exact⟨F,ρ,hr,rfl,fun _ _=>rfl,fun _ _ h=>h⟩
  rename_i ps ho;split
  case h_2=>exact⟨F,ρ,hr,rfl,fun _ _=>rfl,fun _ _ h=>h⟩
  rename_i v hv;rw[hg]at hs;obtain⟨b,n,y,h1,h2,h3,h7,-⟩:=hr.sr.at ho;obtain⟨cs,t,fz,rfl,h4,h5⟩:=h3;have hFb:F b=none:=h7 rfl;have hmono:∀c cs',F c=some cs'->(fun c=>if c=b then some cs else F c) c=some cs':=by
   intro c cs' hc;have:c≠b:=fun e=>by rw[e,hFb]at hc;cases hc
   simp[this,hc]
  have hdc:=(CS h4 hv);have hlen:=hdc.len;have hle:Le F ρ st.nx (fun c=>if c=b then some cs else F c) (BO ρ id none) st.nx:=(Le.ZV hmono).trans (Le.NJ id);have hle2:Le F (BO ρ id none) st.nx (fun c=>if c=b then some cs else F c) (BO ρ id none) st.nx:=Le.ZV hmono;have hd:=hr.sr.del id;have notb:∀j m,BO ρ id none j=some (b,m)->∀oj,AP (Gn st.ob id) j=some oj->False:=by
   intro j m g1 oj hj;rw[D3]at hj;split at hj
   ·cases hj
   ·rename_i ej;simp only[BO,ej,ve]at g1;exact ej (hr.sr.inj j id oj _ b m n hj ho g1 h1)
  have hsr:SR B h0 (fun c=>if c=b then some cs else F c) (BO ρ id none) st.nx (Gn st.ob id) h:=by
   refine⟨fun j oj hj=>?_,hd.inj,fun c cs' hc=>?_,hd.own,hd.dead,hd.old,hd.lt,hd.le,fun c cs' hc=>?_,hd.gl,hd.pn⟩
   ·obtain⟨c,m,z,g1,g2,g3,g4,g5⟩:=hd.obj j oj hj;have hne:c≠b:=fun ec=>notb j m (ec▸g1) oj hj
    exact⟨c,m,z,g1,g2,g3.mono hle2,fun e=>by simp[hne,g4 e],fun e=>by obtain⟨a1,a2,a3,a4,a5⟩:=g5 e;exact⟨a1,a2,a3,a4,by simp[hne,a5]⟩⟩
   ·split at hc
    ·rename_i ec;cases hc;subst ec;exact⟨_,_,h2⟩
    ·exact hd.frz c cs' hc
   ·split at hc
    ·rename_i ec;subst ec;exact .inr (hr.sr.own id c n h1).2
    ·exact hd.fo c cs' hc
  have hr1:Rel B h0 (fun c=>if c=b then some cs else F c) (BO ρ id none) (st.Om id) fr h:=⟨⟨hr.fp.n,fun t=>(hr.fp.slot t).mono hle⟩,hsr⟩;refine⟨_,_,hr1.note ?_,rfl,fun j hj=>by unfold BO;rw[wc (by omega)],hmono⟩;simp only[PR]at hs ⊢;have hv2:=hs.2 b n h1;exact⟨b,0,cs,by rw[hv2],by simp,by omega,by rw[List.drop_zero,List.take_of_length_le (by omega)];exact hdc.mono hmono⟩
 rename_i id sz off len cap hg;split
 case h_2=>exact⟨F,ρ,hr,rfl,fun _ _=>rfl,fun _ _ h=>h⟩
 rename_i fz e s l ho;cases hz:zk sz s.sz with
 |false=>exact⟨F,ρ,hr,rfl,fun _ _=>rfl,fun _ _ h=>h⟩
 |true=>
 simp only[we];rw[hg]at hs;obtain⟨F1,g1,g2,g3⟩:=MQ hr.sr hs;have hfr:BC st (.sl id sz off len cap)=st.setObj id (.arr true e s l):=by simp[BC,ho]
 rw[hfr]at g1;have hle:Le F ρ st.nx F1 ρ st.nx:=⟨g2,fun _ _=>.inl rfl,ze _⟩;have hoff:off+len<=l.length:=by
  obtain⟨b,n,y,h1,_,⟨_,_,_,_,_,h6⟩,-⟩:=hr.sr.at ho;simp only[PR]at hs;rcases hs.2 b n h1 with⟨a1,a2,_⟩|⟨a1,_,a3,_⟩
  ·omega
  ·omega
 have hbv:C2 st (.sl id sz off len cap)=some (true,.dat (.list s) ((l.drop off).take len)):=by
  simp only[C2,ho,hz,we,w4 hoff]
 have hpc:=g3 _ hbv;have hr1:Rel B h0 F1 ρ (st.setObj id (.arr true e s l)) fr h:=⟨⟨hr.fp.n,fun t=>(hr.fp.slot t).mono hle⟩,g1⟩;exact⟨F1,ρ,hr1.note (hpc ρ _),rfl,fun _ _=>rfl,g2⟩
theorem Ur{fr:Fr}(base:Nat):∀(l:List (Nat×Sh)) {st:AK} {F:Fz} {ρ:Ec},Rel B h0 F ρ st fr h->∃F1 ρ1,Rel B h0 F1 ρ1 (oZ base l st) fr h/\(oZ base l st).nx=st.nx/\(∀id,id<base->ρ1 id=ρ id)/\∀b cs,F b=some cs->F1 b=some cs
 |[],st,F,ρ,hr=>⟨F,ρ,hr,rfl,fun _ _=>rfl,fun _ _ h=>h⟩
 |x::l,st,F,ρ,hr=>by
  obtain⟨F1,ρ1,h1,h2,h0',h3⟩:=jF hr base x;obtain⟨F2,ρ2,h4,h5,h0'',h6⟩:=Ur base l h1;exact⟨F2,ρ2,h4,h5.trans h2,fun id hid=>(h0'' id hid).trans (h0' id hid),fun b cs hb=>h6 b cs (h3 b cs hb)⟩
theorem PG{st:AK}{fr:Fr}{base:Nat}(hr:Rel B h0 F ρ st fr h)(f:FuncId)(r:Nat)(hb:base<=st.nx):
  ∃F1 ρ',Rel B h0 F1 ρ' (OL X f r base st) fr h/\base<=(OL X f r base st).nx/\(∀id,id<base->ρ' id=ρ id)/\∀b cs,F b=some cs->F1 b=some cs:=by
 obtain⟨F1,ρ1,h1,h2,h0',h3⟩:=Ur base (X.fz f r) hr;obtain⟨ρ',g1,g2,g3⟩:=ZS h1 base (X.pl f r) (by rw[h2];exact hb);exact⟨F1,ρ',g1,g2,fun id hid=>(g3 id hid).trans (h0' id hid),h3⟩
def GG(B:Nat)(h0:H0)(X:A6)(base n:Nat)(Q:PV->Ob->Prop)(k:DX->AK->Tr)(F:Fz)(ρ:Ec)(h:H)(nd:Bool)(run:Nat->Nat->Option (List Det.X))(ds:List Nat):Prop:=
 ∃l M,(∀m,M<=m->∀q,M<=q->run m q=some l)/\(nd=false->∃x,l=[x])/\∀x∈l,∃ps,(x.ds=ps++ds/\ps.Nodup/\∀b∈ps,h.nx<=b)/\∃n',n'<=n/\∃st1,Ev X Q n' (k x.e st1)/\∃F' ρ',Rel B (h0.pins ps) F' ρ' st1 x.fr x.h/\base<=st1.nx/\Le F ρ base F' ρ' base/\h.nx<=x.h.nx
theorem Le.low{F F':Fz}{ρ ρ':Ec}{N N' base:Nat}(hl:Le F ρ N F' ρ' N')(hb:base<=N):Le F ρ base F' ρ' base:=
 ⟨hl.fz,fun id h=>hl.rho id (zi h hb),ze _⟩
theorem Oj{nd ro:Bool}{d:Nat}{f:FuncId}{base:Nat}{rv:Option Nat}{ct:Bool}(hrv:ro=false->rv=none/\ct=true)(hcall:∀h0,Ff B h0 X nd (Cu X nd d))(hcallD:∀h0,Ff B h0 X false (Cu X false d)){Q:PV->Ob->Prop}:∀(n:Nat) (c:Code) {h0:H0} {st:AK} {k:DX->AK->Tr} {F:Fz} {ρ:Ec} {fr:Fr} {h:H} (ds:List Nat),base<=st.nx->Rel B h0 F ρ st fr h->
  Ev X Q n (exec X (Cu X nd d) (Cu X false d) nd ro d f base c st k)->GG B h0 X base n Q k F ρ h nd (fun m q=>BJ X.C (Bl X.C m) rv ct q c fr h ds) ds:=by
 intro n;induction n using Nat.strongRecOn with
 |_ n IH=>
 have one:∀ {h0:H0} {e:DX} {st:AK} {k:DX->AK->Tr} {F:Fz} {ρ:Ec} {fr:Fr} {h:H} {ds:List Nat} {c:Code},base<=st.nx->Rel B h0 F ρ st fr h->Ev X Q n (k e st)->(∀m q,1<=q->BJ X.C (Bl X.C m) rv ct q c fr h ds=some [⟨e,fr,h,ds⟩])->
   GG B h0 X base n Q k F ρ h nd (fun m q=>BJ X.C (Bl X.C m) rv ct q c fr h ds) ds:=by
  intro h0 e st k F ρ fr h ds c hb hr he hd;exact⟨[⟨e,fr,h,ds⟩],1,fun m _ q hq=>hd m q hq,fun _=>⟨_,rfl⟩,fun x hx=>by
   cases zc.1 hx;exact⟨[],⟨rfl,zl,fun _ hb=>(by cases hb)⟩,n,ze _,st,he,F,ρ,hr,hb,zu,ze _⟩⟩
 have fuel:∀ {q:Nat},1<=q->∃q',q=q'+1:=fun h=>⟨_,(Nat.succ_pred_eq_of_pos h).symm⟩
 have chain:∀ {h0:H0} {F:Fz} {ρ:Ec} {h:H} {ds:List Nat} {k k2:DX->AK->Tr} {n1:Nat} {run:Nat->Nat->Option (List Det.X)} {run2:Nat->Nat->Det.X->Option (List Det.X)},n1<=n->GG B h0 X base n1 Q k2 F ρ h nd run ds->
   (∀(x:Det.X) (ps:List Nat),∀n1',n1'<=n1->∀st1,Ev X Q n1' (k2 x.e st1)->∀F' ρ',Rel B (h0.pins ps) F' ρ' st1 x.fr x.h->base<=st1.nx->GG B (h0.pins ps) X base n Q k F' ρ' x.h nd (fun m q=>run2 m q x) x.ds)->
   GG B h0 X base n Q k F ρ h nd (fun m q=>match run m q with|some l=>bl l (run2 m q)|none=>none) ds:=by
  rintro h0 F ρ h ds k k2 n1 run run2 hn1 ⟨l,M,h1,h2,h3⟩ hnext;obtain⟨r,M2,g1,g2,g3⟩:=Lf (f:=run2) (P:=fun x=>∃ps,(x.ds=ps++ds/\ps.Nodup/\∀b∈ps,h.nx<=b)/\∃n',n'<=n/\∃st1,Ev X Q n' (k x.e st1)/\∃F' ρ',Rel B (h0.pins ps) F' ρ' st1 x.fr x.h/\base<=st1.nx/\Le F ρ base F' ρ' base/\h.nx<=x.h.nx) h2 fun x hx=>by
   obtain⟨ps1,⟨k0,kn,kl⟩,n',k1,st1,k2',F',ρ',k3,k4,k5,k6⟩:=h3 x hx;obtain⟨r,M,j1,j2,j3⟩:=hnext x ps1 n' k1 st1 k2' F' ρ' k3 k4;refine⟨r,M,j1,j2,fun y hy=>?_⟩;obtain⟨ps2,⟨i0,i0n,i0l⟩,n2,i1,st2,i2,F2,ρ2,i3,i4,i5,i6⟩:=j3 y hy;refine⟨ps2++ps1,⟨by rw[i0,k0,List.append_assoc],?_,fun b hb=>?_⟩,n2,i1,st2,i2,F2,ρ2,by rw[<-Q3];exact i3,i4,k5.trans i5,zj k6 i6⟩
   ·rw[List.nodup_append];refine⟨i0n,kn,fun a ha b hb e=>?_⟩;have h1:=i0l a ha;have h2:=k3.sr.lt b _ (k3.sr.pn b (List.mem_append_left _ hb)).1;omega
   ·rcases zq.1 hb with hb|hb
    ·exact zj k6 (i0l b hb)
    ·exact kl b hb
  exact⟨r,max M M2,fun m hm q hq=>by simp only;rw[h1 m (by omega) q (by omega)];exact g1 m (by omega) q (by omega),g2,g3⟩
 have stepq:∀ {h0:H0} {F:Fz} {ρ:Ec} {h:H} {ds:List Nat} {k:DX->AK->Tr} {run run':Nat->Nat->Option (List Det.X)},GG B h0 X base n Q k F ρ h nd run ds->(∀m q,run' m (q+1)=run m q)->GG B h0 X base n Q k F ρ h nd run' ds:=by
  rintro h0 F ρ h ds k run run' ⟨l,M,h1,h2,h3⟩ he;refine⟨l,M+1,fun m hm q hq=>?_,h2,h3⟩;obtain⟨q',rfl⟩:=fuel (show 1<=q by omega);rw[he];exact h1 m (by omega) q' (by omega)
 intro c;induction c with
 |skip=>
  intro h0 st k F ρ fr h ds hb hr he;exact one hb hr he (fun m q hq=>by obtain⟨q',rfl⟩:=fuel hq;rfl)
 |label l=>
  intro h0 st k F ρ fr h ds hb hr he;exact one hb hr he (fun m q hq=>by obtain⟨q',rfl⟩:=fuel hq;rfl)
 |exit i=>
  intro h0 st k F ρ fr h ds hb hr he;exact one hb hr he (fun m q hq=>by obtain⟨q',rfl⟩:=fuel hq;rfl)
 |ret=>
  intro h0 st k F ρ fr h ds hb hr he;exact one hb hr he (fun m q hq=>by obtain⟨q',rfl⟩:=fuel hq;rfl)
 |region id ops dr=>
  intro h0 st k F ρ fr h ds hb hr he;unfold exec at he;cases dr with
  |true=>
   simp only[we]at he;cases hst:(!ro||H4 ops (EF ops))with
   |false=>rw[hst]at he;exact wh he zh
   |true=>
   rw[hst]at he;simp only[we]at he;have hdd:∀call,(bif ct then II X.C call ops fr h else Vp X.C call ops fr h)=II X.C call ops fr h:=by
    intro call;cases hro:ro with
    |false=>rw[(hrv hro).2];rfl
    |true=>
     rw[hro]at hst;have hst:H4 ops (EF ops)=true:=hst;cases ct with
     |true=>rfl
     |false=>simp only[wg,Vp,hst,we]
   obtain⟨n',hn,st1,he1,F',ρ',fr',h',hw,M,hM⟩:=Zt (hcallD h0) hr he;refine⟨[⟨.normal,fr',h',ds⟩],M+1,fun m hm q hq=>?_,fun _=>⟨_,rfl⟩,fun x hx=>?_⟩
   ·obtain⟨q',rfl⟩:=fuel (show 1<=q by omega);have:=hM m (by omega);simp only[BJ,we];rw[hdd,this]
   ·cases zc.1 hx;exact⟨[],⟨rfl,zl,fun _ hb=>(by cases hb)⟩,n',hn,st1,he1,F',ρ',hw.rel,zj hb hw.le.n,hw.le.low hb,hw.nx⟩
  |false=>
   simp only[wg]at he;obtain⟨r,M,hM,hone,hall⟩:=UJ (hcall h0) hr he;refine⟨r.map fun x=>⟨.normal,x.1,x.2,ds⟩,M+1,fun m hm q hq=>?_,fun e=>?_,fun x hx=>?_⟩
   ·obtain⟨q',rfl⟩:=fuel (show 1<=q by omega);simp only[BJ,wg,hM m (by omega)]
   ·obtain⟨y,rfl⟩:=hone e;exact⟨_,rfl⟩
   ·obtain⟨y,hy,rfl⟩:=yf.1 hx;obtain⟨n',hn,st1,he1,F',ρ',hw⟩:=hall y hy;exact⟨[],⟨rfl,zl,fun _ hb=>(by cases hb)⟩,n',hn,st1,he1,F',ρ',hw.rel,zj hb hw.le.n,hw.le.low hb,hw.nx⟩
 |seq a b iha ihb=>
  intro h0 st k F ρ fr h ds hb hr he;unfold exec at he;refine stepq (chain (run2:=fun m q x=>match x.e with| .normal=>BJ X.C (Bl X.C m) rv ct q b x.fr x.h x.ds|_=>some [x]) (ze n) (iha ds hb hr he) fun x ps1 n1 hn1 st1 he1 F' ρ' hr1 hb1=>?_) (fun m q=>rfl);obtain⟨e,fr1,h1,ds1⟩:=x;cases e with
  |normal=>
   have rest:∀ {st2:AK} {F2:Fz} {ρ2:Ec} {n2:Nat},n2<=n->Rel B (h0.pins ps1) F2 ρ2 st2 fr1 h1->base<=st2.nx->(∀id,id<base->ρ2 id=ρ' id)->(∀b cs,F' b=some cs->F2 b=some cs)->Ev X Q n2 (exec X (Cu X nd d) (Cu X false d) nd ro d f base b st2 k)->
     GG B (h0.pins ps1) X base n Q k F' ρ' h1 nd (fun m q=>BJ X.C (Bl X.C m) rv ct q b fr1 h1 ds1) ds1:=by
    intro st2 F2 ρ2 n2 hn2 hr2 hb2 hρ2 hF2 he2;have hl0:Le F' ρ' base F2 ρ2 base:=⟨hF2,fun id hi=>.inl (hρ2 id hi),ze _⟩;have hc:GG B (h0.pins ps1) X base n Q k F2 ρ2 h1 nd (fun m q=>BJ X.C (Bl X.C m) rv ct q b fr1 h1 ds1) ds1:=by
     by_cases hlt:n2<n
     ·obtain⟨l,M,h1,h2,h3⟩:=IH n2 hlt b ds1 hb2 hr2 he2;exact⟨l,M,h1,h2,fun x hx=>by obtain⟨ps,k0,n2,k1,k2⟩:=h3 x hx;exact⟨ps,k0,n2,by omega,k2⟩⟩
     ·have:n2=n:=by omega
      subst this;exact ihb ds1 hb2 hr2 he2
    obtain⟨l,M,h1,h2,h3⟩:=hc;exact⟨l,M,h1,h2,fun x hx=>by
     obtain⟨ps,k0,n3,k1,st3,k2,F3,ρ3,k3,k4,k5,k6⟩:=h3 x hx;exact⟨ps,k0,n3,k1,st3,k2,F3,ρ3,k3,k4,hl0.trans k5,k6⟩⟩
   simp only at he1;cases hct:X.ct f (Dh b)with
   |false=>rw[hct]at he1;exact rest hn1 hr1 hb1 (fun _ _=>rfl) (fun _ _ h=>h) he1
   |true=>
    rw[hct]at he1;simp only[we]at he1;cases he1 with
    |cut he1=>
     obtain⟨F2,ρ0,hr0,hb0,hρ0,hF⟩:=PG hr1 f (Dh b) hb1;exact rest hn1 hr0 hb0 hρ0 hF he1
  |exit i=>exact⟨[⟨.exit i,fr1,h1,ds1⟩],0,fun _ _ _ _=>rfl,fun _=>⟨_,rfl⟩,fun x hx=>by cases zc.1 hx;exact⟨[],⟨rfl,zl,fun _ hb=>(by cases hb)⟩,n1,hn1,st1,he1,F',ρ',hr1,hb1,zu,ze _⟩⟩
  |ret=>exact⟨[⟨.ret,fr1,h1,ds1⟩],0,fun _ _ _ _=>rfl,fun _=>⟨_,rfl⟩,fun x hx=>by cases zc.1 hx;exact⟨[],⟨rfl,zl,fun _ hb=>(by cases hb)⟩,n1,hn1,st1,he1,F',ρ',hr1,hb1,zu,ze _⟩⟩
 |cond x a b iha ihb=>
  intro h0 st k F ρ fr h ds hb hr he;unfold exec at he;have go:∀ {t:Bool} {st1:AK},ev X.C fr x=some (.bool t)->Rel B h0 F ρ st1 fr h->base<=st1.nx->Ev X Q n (bif t then exec X (Cu X nd d) (Cu X false d) nd ro d f base a st1 k else exec X (Cu X nd d) (Cu X false d) nd ro d f base b st1 k)->GG B h0 X base n Q k F ρ h nd (fun m q=>BJ X.C (Bl X.C m) rv ct q (.cond x a b) fr h ds) ds:=by
   intro t st1 hx hr1 hb1 he;cases t with
   |true=>exact stepq (iha ds hb1 hr1 he) (fun m q=>by simp only[BJ,hx])
   |false=>exact stepq (ihb ds hb1 hr1 he) (fun m q=>by simp only[BJ,hx])
  split at he
  case h_4=>exact wh he zh
  case h_3=>
   rename_i ht;obtain⟨y,g1,g2⟩:=Ce (C:=X.C) hr.fp ht;simp only[PR]at g2;obtain⟨t,rfl⟩:=g2;split at he
   case h_2=>exact wh he zh
   rename_i s;have hs:fr.get s=.bool t:=by simpa [ev]using g1
   obtain⟨he1,he2⟩:=he.Tm;cases t with
   |true=>exact go g1 (hr.note (by rw[hs];exact Ic _)) hb he1
   |false=>exact go g1 (hr.note (by rw[hs];exact Ic _)) hb he2
  case h_1=>
   rename_i t ht;obtain⟨y,g1,g2⟩:=Ce (C:=X.C) hr.fp ht;obtain rfl:=Pb g2;exact go g1 hr hb he
  case h_2=>
   rename_i t ht;obtain⟨y,g1,g2⟩:=Ce (C:=X.C) hr.fp ht;obtain rfl:=Ht g2;split at he
   case h_1=>
    rename_i s;have hs:fr.get s=.bool t:=by simpa [ev]using g1
    rcases he.EM with⟨ht1,he2⟩|⟨ht1,he2⟩
    ·have ht1:t=true:=ht1;subst ht1;exact go g1 (hr.note (by rw[hs];exact Ic _)) hb he2
    ·have ht1:t=false:=ht1;subst ht1;exact go g1 (hr.note (by rw[hs];exact Ic _)) hb he2
   case h_2=>
    rcases he.EM with⟨ht1,he2⟩|⟨ht1,he2⟩
    ·have ht1:t=true:=ht1;subst ht1;exact go g1 hr hb he2
    ·have ht1:t=false:=ht1;subst ht1;exact go g1 hr hb he2
 |block id b ih=>
  intro h0 st k F ρ fr h ds hb hr he;unfold exec at he;obtain⟨l,M,h1,h2,h3⟩:=ih ds hb hr he;refine⟨l.map fun x=>match x.e with
    | .exit i=>bif zk i id then { x with e:=.normal }else x
    |_=>x,M+1,fun m hm q hq=>?_,fun e=>?_,fun y hy=>?_⟩
  ·obtain⟨q',rfl⟩:=fuel (show 1<=q by omega);have g1:=h1 m (by omega) q' (by omega);simp only at g1;simp only[BJ,g1];rfl
  ·obtain⟨y,rfl⟩:=h2 e;exact⟨_,rfl⟩
  ·obtain⟨⟨e,fr1,hh1,ds1⟩,hx,rfl⟩:=yf.1 hy;obtain⟨ps,k0,n1,k1,st1,he1,F',ρ',k3,k4,k5,k6⟩:=h3 _ hx;cases e with
   |normal=>exact⟨ps,k0,n1,k1,st1,he1,F',ρ',k3,k4,k5,k6⟩
   |ret=>exact⟨ps,k0,n1,k1,st1,he1,F',ρ',k3,k4,k5,k6⟩
   |exit i=>
    simp only at he1 ⊢;cases hbe:zk i id with
    |true=>rw[hbe]at he1;exact⟨ps,k0,n1,k1,st1,he1,F',ρ',k3,k4,k5,k6⟩
    |false=>rw[hbe]at he1;exact⟨ps,k0,n1,k1,st1,he1,F',ρ',k3,k4,k5,k6⟩
 |loop b ih=>
  intro h0 st k F ρ fr h ds hb hr he;unfold exec at he;cases he with
  |@loop n0 _ _ _ _ _ _ _ _ he=>
  obtain⟨F0,ρ0,hr0,hb0,hρ0,hF0⟩:=PG hr f (Dh b) hb;have hl0:Le F ρ base F0 ρ0 base:=⟨hF0,fun id hi=>.inl (hρ0 id hi),ze _⟩;unfold body at he;have hbody:=IH n0 (Nat.lt_succ_self _) b ds hb0 hr0 he;have hch:GG B h0 X base (n0+1) Q k F0 ρ0 h nd (fun m q=>match BJ X.C (Bl X.C m) rv ct q b fr h ds with|some l=>bl l (fun x=>match x.e with| .normal=>BJ X.C (Bl X.C m) rv ct q (.loop b) x.fr x.h x.ds|_=>some [x])|none=>none) ds:=by
   refine chain (run2:=fun m q x=>match x.e with| .normal=>BJ X.C (Bl X.C m) rv ct q (.loop b) x.fr x.h x.ds|_=>some [x]) (Nat.le_succ n0) hbody fun x ps1 n1 hn1 st1 he1 F' ρ' hr1 hb1=>?_
   obtain⟨e,fr1,h1,ds1⟩:=x;cases e with
   |normal=>
    have he1':Ev X Q n1 (exec X (Cu X nd d) (Cu X false d) nd ro d f base (.loop b) st1 k):=by unfold exec;exact he1
    obtain⟨l,M,h1,h2,h3⟩:=IH n1 (by omega) (.loop b) ds1 hb1 hr1 he1';exact⟨l,M,h1,h2,fun x hx=>by obtain⟨ps,k0,n2,k1,k2⟩:=h3 x hx;exact⟨ps,k0,n2,by omega,k2⟩⟩
   |exit i=>exact⟨[⟨.exit i,fr1,h1,ds1⟩],0,fun _ _ _ _=>rfl,fun _=>⟨_,rfl⟩,fun x hx=>by cases zc.1 hx;exact⟨[],⟨rfl,zl,fun _ hb=>(by cases hb)⟩,n1,by omega,st1,he1,F',ρ',hr1,hb1,zu,ze _⟩⟩
   |ret=>exact⟨[⟨.ret,fr1,h1,ds1⟩],0,fun _ _ _ _=>rfl,fun _=>⟨_,rfl⟩,fun x hx=>by cases zc.1 hx;exact⟨[],⟨rfl,zl,fun _ hb=>(by cases hb)⟩,n1,by omega,st1,he1,F',ρ',hr1,hb1,zu,ze _⟩⟩
  obtain⟨l,M,g1,g2,g3⟩:=stepq (run':=fun m q=>BJ X.C (Bl X.C m) rv ct q (.loop b) fr h ds) hch (fun m q=>rfl);refine⟨l,M,g1,g2,fun x hx=>?_⟩;obtain⟨ps,k0,n2,k1,st2,k2,F2,ρ2,k3,k4,k5,k6⟩:=g3 x hx;exact⟨ps,k0,n2,k1,st2,k2,F2,ρ2,k3,k4,hl0.trans k5,k6⟩
 |scope b ih=>
  intro h0 st k F ρ fr h ds hb hr he;unfold exec at he;exact stepq (ih ds hb hr he) (fun m q=>rfl)
 |rangeFunc g ps a b _ _=>
  intro h0 st k F ρ fr h ds hb hr he;unfold exec at he;exact wh he zh
 |goto l=>intro h0 st k F ρ fr h ds hb hr he;exact wh he zh
 |refuse s=>intro h0 st k F ρ fr h ds hb hr he;exact wh he zh
end
section
variable {B:Nat}{h0:H0}{X:A6}{F:Fz}{ρ:Ec}{N:Nat}{st st':AK}{fr:Fr}{h:H}
theorem KM:∀ {ps:List PV} {i t:Nat} {p:PV},(t,p)∈Eo ps i->∃k,t=i+k/\ps[k]?=some p
 |[],i,t,p,h=>by cases h
 |q::ps,i,t,p,h=>by
  unfold Eo at h;rcases yb.1 h with h|h
  ·cases h;exact⟨0,rfl,rfl⟩
  ·obtain⟨k,h1,h2⟩:=KM h;exact⟨k+1,by rw[h1];show i+1+k=_;omega,by simpa using h2⟩
theorem pD{ps:List PV}{vs:List V}(hp:Bd F ρ N ps vs)(n:Nat)(ob:Ob)(nx:Nat)(_hnx:nx=N):FP F ρ N (AF (ye ps.length (Nat.sub n ps.length)) (Eo ps 0) ob nx) (Nd n vs):=by
 refine⟨by show ps.length+(n-ps.length)=vs.length+(n-vs.length);rw[hp.len],fun t=>?_⟩;show PR F ρ N (((Fq (Eo ps 0)).get t).getD .any) _;cases hg:(Fq (Eo ps 0)).get t with
 |none=>show PR F ρ N .any _;simp[PR]
 |some p=>
  show PR F ρ N p _;rcases IK _ .leaf t p hg with h1|h1
  ·obtain⟨k,h2,h3⟩:=KM h1;obtain rfl:t=k:=by omega
   obtain⟨v,h4,h5⟩:=hp.get h3;have hlt:=(zf.1 h4).1;unfold Nd Fr.get;simp only;rw[Mp,wd (by omega),Nat.sub_zero,h4];exact h5
  ·simp at h1
theorem eU{T:B3}{st s:AK}{t:TypeId}{a p:PV}(h:(M6 T st t a).To p s):s=st:=by
 unfold M6 at h;split at h
 case h_2=>exact wh h (by simp)
 split at h
 case h_4=>exact wh h (by simp)
 ·split at h
  case h_4=>exact wh h (by simp)
  case h_3=>simp only[Lh]at h;exact h.2.symm
  ·simp only[Lh]at h;exact h.2.symm
  ·rename_i s' l _;cases hc:(zk _ 0&&zk s'.sz 1)with
   |false=>rw[hc]at h;exact wh h (by simp)
   |true=>rw[hc]at h;simp only[we,PT]at h;exact h.2.2.symm
 ·split at h
  case h_2=>exact wh h (by simp)
  rename_i sz j off _ _ _ s' l _;cases hc:(zk sz s'.sz)with
  |false=>rw[hc]at h;exact wh h (by simp)
  |true=>rw[hc]at h;simp only[we,PT]at h;exact h.2.2.symm
 ·simp only[Lh]at h;exact h.2.symm
theorem PS{Q:PV->Ob->Prop}{n:Nat}{t:Tr}:∀ {cs:List Bool},Ev X Q n (Og cs t)->(∀c∈cs,c=true)/\Ev X Q n t
 |[],h=>⟨fun c hc=>(by cases hc),h⟩
 |c::cs,h=>by
  unfold Og at h;rcases h.EM with⟨hc,h1⟩|⟨_,h1⟩
  ·obtain⟨h2,h3⟩:=PS h1;exact⟨fun d hd=>by
    rcases yb.1 hd with rfl|hd
    ·exact hc
    ·exact h2 d hd,h3⟩
  ·exact wh h1 zh
theorem Vm:∀ {rs:List ResultVar} {ps:List PV} {F:Fz} {ρ:Ec},Rel B h0 F ρ st fr h->dV X.C.T st rs=some ps->(∀c∈Kr X.C.T st rs,c=true)->
  ∃vs F' ρ',P1 X.C fr h rs=some vs/\Bd F' ρ' st.nx ps vs/\Rel B h0 F' ρ' st fr h/\Le F ρ st.nx F' ρ' st.nx
 |[],ps,F,ρ,hr,hp,_=>by cases hp;exact⟨[],F,ρ,rfl,by simp,hr,zu⟩
 |r::rs,ps,F,ρ,hr,hp,hall=>by
  unfold dV at hp;split at hp
  case h_2=>cases hp
  rename_i p ps' h1 h2;cases hp;have key:∃v F1 ρ1,Xw X.C fr h r=some v/\PR F1 ρ1 st.nx p v/\Rel B h0 F1 ρ1 st fr h/\Le F ρ st.nx F1 ρ1 st.nx:=by
   cases r with
   |tmp t=>
    simp only[kN,zn]at h1;subst h1;exact⟨_,F,ρ,rfl,hr.fp.slot t,hr,zu⟩
   |cell a t=>
    have ht:∃s,(M6 X.C.T st t (st.get a)).To p s:=by
     simp only[kN]at h1;split at h1
     case h_3=>cases h1
     ·rename_i u s hl;cases h1;exact⟨s,by rw[hl];exact .val⟩
     ·rename_i c u s hl;cases h1;refine⟨s,?_⟩;have:=hall c (by unfold Kr;rw[hl];exact List.mem_cons_self);rw[hl,this];show(PO.H9 true p s).To p s;rw[BM];exact⟨rfl,rfl,rfl⟩
    obtain⟨s,ht⟩:=ht;have hs:s=st:=eU ht;subst hs;obtain⟨v',h',F',ρ',g1,g2,g3,g4,g5,g6,g7,g8⟩:=jD (C:=X.C) hr.sr (hr.fp.slot a) ht;cases hd:E5 X.C.T h t (fr.get a)with
    |none=>rw[hd]at g1;rcases g1 with g1|⟨g1,_⟩<;>cases g1
    |some w=>
     rw[hd]at g1;rcases g1 with g1|⟨g1,_⟩
     ·simp only[Bz,zn,OR.val.injEq]at g1;obtain⟨rfl,rfl⟩:=g1;exact⟨w,F',ρ',hd,g2,⟨hr.fp.mono g4,g3⟩,g4⟩
     ·cases g1
  obtain⟨v,F1,ρ1,k1,k2,k3,k4⟩:=key;obtain⟨vs,F2,ρ2,k5,k6,k7,k8⟩:=Vm k3 h2 (fun c hc=>hall c (by
   cases r with
   |tmp t=>unfold Kr;exact hc
   |cell a t=>
    unfold Kr;split
    ·exact List.mem_cons_of_mem _ hc
    ·exact hc))
  exact⟨v::vs,F2,ρ2,by simp[P1,k1,k5],by simp only[A3];exact⟨k2.mono k8,k6⟩,k7,k4.trans k8⟩
theorem Je{nd:Bool}{d:Nat}(hcall:∀h0,Ff B h0 X nd (Cu X nd d))(hcallD:∀h0,Ff B h0 X false (Cu X false d))(hmg:X.C.mg=false){g:FuncId}(hsp:X.C.spec g=none)(hprim:X.C.prim g=none)(hno:X.sp g=none){Q:PV->Ob->Prop}{n:Nat}{args:List PV}{k:PV->AK->Tr}{args':List V}
  (he:Ev X Q n (enter X (Cu X nd d) (Cu X false d) nd d g args st k)) (hr:Rel B h0 F ρ st fr h) (ha:Bd F ρ st.nx args args'):
  (X.C.prim g=none/\∃i,X.C.fn g=some i)/\∃l M,(∀m,M<=m->Bl X.C m (.fn g args') h=some l)/\(nd=false->∃x,l=[x])/\
   ∀x∈l,∃n',n'<=n/\∃r st',Ev X Q n' (k r st')/\∃F' ρ',PR F' ρ' st'.nx r x.1/\Dj B h0 F ρ st.nx h st' fr x.2 F' ρ'/\(∀sp,X.sp g=some sp->∀b,b<h.nx->x.2.get b=h.get b):=by
 unfold enter at he;split at he
 case h_1=>exact wh he zh
 rename_i i hi;cases hc:i.cert with
 |false=>rw[hc]at he;exact wh he zh
 |true=>
  rw[hc]at he;simp only[we]at he;have hr0:Rel B h0 F ρ (AF (ye args.length (Nat.sub i.ntmps args.length)) (Eo args 0) st.ob st.nx) (Nd i.ntmps args') h:=⟨pD ha i.ntmps st.ob st.nx rfl,hr.sr⟩;obtain⟨l,M,hM,hone,hall⟩:=Oj (ro:=false) (rv:=none) (ct:=true) (fun _=>⟨rfl,rfl⟩) hcall hcallD n i.body (st:=AF (ye args.length (Nat.sub i.ntmps args.length)) (Eo args 0) st.ob st.nx) [] (ze st.nx) hr0 he;have fin:∀x∈l,∃(r:List (V×H)) (M:Nat),(∀m:Nat,M<=m->∀q:Nat,M<=q->(match x.e with
      | .exit _=>none
      |_=>match Fy x.ds x.h with
       |some h1=>match P8 X.C x.fr h1 i.results.toList with
        |some v=>some [(v,h1)]
        |none=>none
       |none=>none)=some r)/\(nd=false->∃x,r=[x])/\∀x∈r,∃n',n'<=n/\∃r st',Ev X Q n' (k r st')/\∃F' ρ',PR F' ρ' st'.nx r x.1/\Dj B h0 F ρ st.nx h st' fr x.2 F' ρ'/\(∀sp,X.sp g=some sp->∀b,b<h.nx->x.2.get b=h.get b):=by
   intro x hx;obtain⟨ps,⟨hds,hnodup,hge⟩,n1,hn1,st1,he1,F1,ρ1,hr1',hb1,hl1,hx1'⟩:=hall x hx;obtain⟨e,fr1,hx0,ds1⟩:=x;simp only at hds he1 hr1' hx1' ⊢;obtain⟨h1,hlv,hsr1,hnx1,_⟩:=SR.leave hnodup (fun b hb hp=>by
    have k1:=hge b hb;have k2:=hr.sr.lt b _ (hr.sr.pn b hp).1;omega) hr1'.sr
   have hr1:Rel B h0 F1 ρ1 st1 fr1 h1:=⟨hr1'.fp,hsr1⟩;have hx1:h.nx<=h1.nx:=by rw[hnx1];exact hx1'
   rw[List.append_nil]at hds;subst hds;have go:(∀j,e≠ .exit j)->Ev X Q n1 (match dV X.C.T st1 i.results.toList with|some vs=>Og (Kr X.C.T st1 i.results.toList) (k (Go.Pe.one vs) ⟨st.n,st.fr,st1.ob,st1.nx⟩)|none=>.fail)->
     ∃v',P8 X.C fr1 h1 i.results.toList=some v'/\∃n',n'<=n/\∃r st',Ev X Q n' (k r st')/\∃F' ρ',PR F' ρ' st'.nx r v'/\Dj B h0 F ρ st.nx h st' fr h1 F' ρ'/\(∀sp,X.sp g=some sp->∀b,b<h.nx->h1.get b=h.get b):=by
    intro hne he2;split at he2
    case h_2=>exact wh he2 zh
    rename_i ps hps;obtain⟨hcond,he2⟩:=PS he2;obtain⟨vs,F2,ρ2,k1,k2,k3,k4⟩:=Vm hr1 hps hcond;have hle:Le F ρ st.nx F2 ρ2 st1.nx:=⟨fun b cs hb=>k4.fz _ _ (hl1.fz _ _ hb),fun id hid=>by
     rcases k4.rho id (zi hid hb1)with e|e
     ·rw[e];exact hl1.rho id hid
     ·exact .inr e,hb1⟩
    have hres:∃r',P8 X.C fr1 h1 i.results.toList=some r'/\PR F2 ρ2 st1.nx (Go.Pe.one ps) r':=by
     unfold P8;rw[k1];cases ps with
     |nil=>simp at k2;subst k2;exact⟨_,rfl,by simp[Go.Pe.one,PR]⟩
     |cons p ps=>
      simp only[Bd]at k2;obtain⟨v1,vs1,rfl,g1,g2⟩:=k2;cases ps with
      |nil=>simp at g2;subst g2;exact⟨_,rfl,g1⟩
      |cons q qs=>
       have g2':=g2;simp only[Bd]at g2;obtain⟨v2,vs2,rfl,_,_⟩:=g2;refine⟨_,rfl,?_⟩;show PR F2 ρ2 st1.nx (.tup (p::q::qs)) _;unfold PR;exact⟨_,rfl,by simp only[A3];exact⟨g1,by simpa only[A3]using g2'⟩⟩
    obtain⟨r',q1,q2⟩:=hres;exact⟨r',q1,n1,hn1,_,_,he2,F2,ρ2,q2,⟨⟨⟨hr.fp.n,fun t=>(hr.fp.slot t).mono hle⟩,k3.sr⟩,hle,hx1⟩,fun sp h=>(by rw[hno]at h;cases h)⟩
   cases e with
   |normal=>
    obtain⟨v',q1,q2⟩:=go (fun j=>by simp) he1;exact⟨[(v',h1)],0,fun m _ q _=>(by simp only[hlv,q1]),fun _=>⟨_,rfl⟩,fun y hy=>by cases zc.1 hy;exact q2⟩
   |ret=>
    obtain⟨v',q1,q2⟩:=go (fun j=>by simp) he1;exact⟨[(v',h1)],0,fun m _ q _=>(by simp only[hlv,q1]),fun _=>⟨_,rfl⟩,fun y hy=>by cases zc.1 hy;exact q2⟩
   |exit j=>exact wh he1 zh
  obtain⟨r,M2,g1,g2,g3⟩:=Lf (f:=fun _ _ (x:Det.X)=>match x.e with
      | .exit _=>none
      |_=>match Fy x.ds x.h with
       |some h1=>match P8 X.C x.fr h1 i.results.toList with
        |some v=>some [(v,h1)]
        |none=>none
       |none=>none) (P:=fun x=>∃n',n'<=n/\∃r st',Ev X Q n' (k r st')/\∃F' ρ',PR F' ρ' st'.nx r x.1/\Dj B h0 F ρ st.nx h st' fr x.2 F' ρ'/\(∀sp,X.sp g=some sp->∀b,b<h.nx->x.2.get b=h.get b)) hone fin
  refine⟨⟨hprim,i,hi⟩,r,max M M2+1,fun m hm=>?_,g2,g3⟩;obtain⟨m',rfl⟩:∃m',m=m'+1:=⟨m-1,by omega⟩;have hd:=hM m' (by omega) m' (by omega);have hg:=g1 m' (by omega) m' (by omega);simp only at hd;have:Bl X.C (m'+1) (.fn g args') h=(match BJ X.C (Bl X.C m') none i.cert m' i.body (Nd i.ntmps args') h []with
    |none=>none
    |some l=>match (bl l fun x=>match x.e with
     | .exit _=>none
     |_=>match Fy x.ds x.h with
      |some h1=>match P8 X.C x.fr h1 i.results.toList with
       |some v=>some [(v,h1)]
       |none=>none
      |none=>none)with
     |some r=>some (bif X.C.mg then Qi h.nx r else r)
     |none=>none):=by
   rw[Bl];simp only[hsp,hi];rfl
  rw[this,hc,hd];simp only;have hg':(bl l fun x=>match x.e with
     | .exit _=>none
     |_=>match Fy x.ds x.h with
      |some h1=>match P8 X.C x.fr h1 i.results.toList with
       |some v=>some [(v,h1)]
       |none=>none
      |none=>none)=some r:=hg
  rw[hg',hmg];rfl
theorem QJ{nd:Bool}{d:Nat}(hcall:∀h0,Ff B h0 X nd (Cu X nd d))(hcallD:∀h0,Ff B h0 X false (Cu X false d)){id:Nat}{Q:PV->Ob->Prop}{n:Nat}{args:List PV}{k:PV->AK->Tr}{args':List V}
  (he:Ev X Q n (dP X (Cu X nd d) (Cu X false d) nd d id args st k)) (hr:Rel B h0 F ρ st fr h) (ha:Bd F ρ st.nx args args'):
  ∃c,AaA X ρ h args' (.rnd id) c/\∃l M,(∀m,M<=m->Bl X.C m c h=some l)/\(nd=false->∃x,l=[x])/\
   ∀x∈l,∃n',n'<=n/\∃r st',Ev X Q n' (k r st')/\∃F' ρ',PR F' ρ' st'.nx r x.1/\Dj B h0 F ρ st.nx h st' fr x.2 F' ρ':=by
 unfold dP at he;split at he
 case h_2=>exact wh he zh
 rename_i f r ps asg b n0 sl hob;obtain⟨bb,m0,y,k1,k2,⟨ls,rfl,rfl,rfl,rfl,⟨l1,l2⟩,rfl,l4⟩,-⟩:=hr.sr.at hob;cases hsz:zk args.length ls.ps.size with
 |false=>rw[hsz]at he;exact wh he zh
 |true=>
 rw[hsz]at he;simp only[we]at he;have hlen:args'.length=ls.ps.size:=by rw[<-ha.len];exact zm hsz
 have hid:id<st.nx:=(hr.sr.own _ _ _ k1).1;have hr0:Rel B h0 F ρ (MP ls.ps.toList args (AF ls.fr.n sl st.ob st.nx)) (Gg ls.ps.toList args' ls.fr) h:=by
  have base0:Rel B h0 F ρ (AF ls.fr.n sl st.ob st.nx) ls.fr h:=⟨⟨rfl,fun t=>l4 t⟩,hr.sr⟩;have go:∀(ts:List Tmp) (AcJ:List PV) (as':List V) (s:AK) (f:Fr),s.nx=st.nx->Bd F ρ st.nx AcJ as'->Rel B h0 F ρ s f h->Rel B h0 F ρ (MP ts AcJ s) (Gg ts as' f) h:=by
   intro ts;induction ts with
   |nil=>intro AcJ as' s f _ _ hs;cases AcJ<;>exact hs
   |cons t ts ih=>
    intro AcJ as' s f hn hp hs;cases AcJ with
    |nil=>simp only[B4]at hp;subst hp;exact hs
    |cons a AcJ=>
     simp only[Bd]at hp;obtain⟨v,vs,rfl,p1,p2⟩:=hp;simp only[MP,Gg];refine ih AcJ vs _ _ ?_ p2 ?_
     ·cases zx t s.n<;>exact hn
     ·unfold Fr.Z4;rw[show s.n=f.n from hs.fp.n];cases zx t f.n with
      |false=>exact hs
      |true=>exact hs.set (by rw[hn];exact p1)
  exact go _ _ _ _ _ rfl ha base0
 have hnx0:st.nx<=(MP ls.ps.toList args (AF ls.fr.n sl st.ob st.nx)).nx:=by
  have go:∀(ts:List Tmp) (AcJ:List PV) (s:AK),(MP ts AcJ s).nx=s.nx:=by
   intro ts;induction ts with
   |nil=>intro AcJ s;cases AcJ<;>rfl
   |cons t ts ih=>
    intro AcJ s;cases AcJ with
    |nil=>rfl
    |cons a AcJ=>simp only[MP];rw[ih];cases zx t s.n<;>rfl
  rw[go];exact ze _
 obtain⟨L,M1,hM1,hone1,hall1⟩:=Oj (ro:=true) (rv:=some bb) (ct:=false) (fun e=>by cases e) hcall hcallD n ls.asg [] hnx0 hr0 he;refine⟨_,⟨bb,m0,ls,k1,k2,hlen,rfl⟩,?_⟩;have fin:∀x∈L,∃(r:List (V×H)) (M:Nat),(∀m:Nat,M<=m->∀q:Nat,M<=q->(match x.e,x.h.get bb with
   | .normal,some (.loop l1)=>match l1.st with
    | .ready=>match BJ X.C (Bl X.C m) (some bb) false q ls.body x.fr (x.h.put bb (.loop { l1 with st:=.busy })) x.ds with
     |some l2=>bl l2 fun y=>match y.h.get bb with
      |some (.loop l3)=>match y.e with
       | .normal=>some [(V.bool true,y.h.put bb (.loop { l3 with st:=.ready,pend:=none }))]
       | .ret=>some [(V.bool false,y.h.put bb (.loop { l3 with st:=.done,pend:=some .ret }))]
       | .exit i=>some [(V.bool false,y.h.put bb (.loop { l3 with st:=.done,pend:=some (.exit i) }))]
      |_=>none
     |none=>none
    |_=>none
   |_,_=>none)=some r)/\(nd=false->∃x,r=[x])/\∀x∈r,∃n',n'<=n/\∃r st',Ev X Q n' (k r st')/\∃F' ρ',PR F' ρ' st'.nx r x.1/\Dj B h0 F ρ st.nx h st' fr x.2 F' ρ':=by
  intro x hx;obtain⟨ps1,_,n1,hn1,s,he1,F1,ρ1,hr1,hb1,hl1,hx1⟩:=hall1 x hx;obtain⟨e,fr1,h1,ds1⟩:=x;simp only at he1 hr1 hx1 ⊢;cases e with
  |exit i=>exact wh he1 zh
  |ret=>exact wh he1 zh
  |normal=>
  simp only at he1;split at he1
  case h_2=>exact wh he1 zh
  rename_i f' r' ps' asg' b' n' sl' hob1;have hs1:SR B h0 F1 ρ1 s.nx s.ob h1:=hr1.sr.jE;obtain⟨c1,m1,y1,q1,q2,⟨la,rfl,rfl,rfl,rfl,⟨la1,la2⟩,rfl,la4⟩,-⟩:=hs1.at hob1;obtain⟨rfl,rfl⟩:c1=bb/\m1=m0:=by
   have:=hl1.at hid q1;rw[k1]at this;cases this;exact⟨rfl,rfl⟩
  have hr2:Rel B h0 F1 ρ1 (s.setObj id (.lp f' r' la.ps la.asg la.body .busy la.fr.n sl')) fr1 (h1.put c1 (.loop { la with st:=.busy })):=
   ⟨⟨hr1.fp.n,fun t=>hr1.fp.slot t⟩,hs1.set hob1 q1 q2 rfl rfl (o':=.lp f' r' la.ps la.asg la.body .busy la.fr.n sl') ⟨_,rfl,rfl,rfl,rfl,rfl,rfl,la4⟩⟩
  obtain⟨L2,M2,hM2,hone2,hall2⟩:=Oj (ro:=true) (rv:=some c1) (ct:=false) (fun e=>by cases e) hcall hcallD n1 ls.body ds1 (show st.nx<=(s.setObj id (.lp f' r' la.ps la.asg la.body .busy la.fr.n sl')).nx from hb1) hr2 he1;have fin2:∀y∈L2,∃(r:List (V×H)) (M:Nat),(∀m:Nat,M<=m->∀q:Nat,M<=q->(match y.h.get c1 with
    |some (.loop l3)=>match y.e with
     | .normal=>some [(V.bool true,y.h.put c1 (.loop { l3 with st:=.ready,pend:=none }))]
     | .ret=>some [(V.bool false,y.h.put c1 (.loop { l3 with st:=.done,pend:=some .ret }))]
     | .exit i=>some [(V.bool false,y.h.put c1 (.loop { l3 with st:=.done,pend:=some (.exit i) }))]
    |_=>none)=some r)/\(nd=false->∃x,r=[x])/\∀x∈r,∃n',n'<=n/\∃r st',Ev X Q n' (k r st')/\∃F' ρ',PR F' ρ' st'.nx r x.1/\Dj B h0 F ρ st.nx h st' fr x.2 F' ρ':=by
   intro y hy;obtain⟨ps2,_,n2,hn2,s2,he2,F2,ρ2,hr3,hb2,hl2,hx2⟩:=hall2 y hy;obtain⟨e2,fr2,h2,ds2⟩:=y;simp only at he2 hr3 hx2 ⊢;split at he2
   case h_2=>exact wh he2 zh
   rename_i f2 r2 pp2 aa2 bb2 ss2 nn2 sl2 hob2;have hs3:SR B h0 F2 ρ2 s2.nx s2.ob h2:=hr3.sr.jE;obtain⟨c2,m2,y2,w1,w2,⟨lb,rfl,rfl,rfl,rfl,_,rfl,lb4⟩,-⟩:=hs3.at hob2;have hle:Le F ρ st.nx F2 ρ2 s2.nx:=by
    have h:=hl1.trans hl2;exact⟨h.fz,h.rho,hb2⟩
   obtain⟨rfl,rfl⟩:c2=c1/\m2=m1:=by
    have:=hle.at hid w1;rw[k1]at this;cases this;exact⟨rfl,rfl⟩
   have hnx:h.nx<=h2.nx:=zj hx1 hx2;have done:∀(sb:LpS) (lst:LoopState) (pe:Option Code) (rb:Bool),LpR sb lst pe->Ev X Q n2 (k (.bl rb) ⟨st.n,st.fr,(s2.setObj id (.lp f2 r2 lb.ps lb.asg lb.body sb lb.fr.n sl2)).ob,s2.nx⟩)->
     ∃n',n'<=n/\∃r st',Ev X Q n' (k r st')/\∃F' ρ',PR F' ρ' st'.nx r (V.bool rb)/\Dj B h0 F ρ st.nx h st' fr (h2.put c2 (.loop { lb with st:=lst,pend:=pe })) F' ρ':=by
    intro sb lst pe rb hlr he3;refine⟨n2,zj hn2 hn1,_,_,he3,F2,ρ2,Ic _,⟨⟨⟨hr.fp.n,fun t=>(hr.fp.slot t).mono hle⟩,?_⟩,hle,hnx⟩⟩;exact hs3.set hob2 w1 w2 rfl rfl (o':=.lp f2 r2 lb.ps lb.asg lb.body sb lb.fr.n sl2) ⟨_,rfl,rfl,rfl,rfl,hlr,rfl,lb4⟩
   cases e2 with
   |normal=>exact⟨[(.bool true,h2.put c2 (.loop { lb with st:=.ready,pend:=none }))],0,fun m _ q _=>(by simp only[w2]),fun _=>⟨_,rfl⟩,fun z hz=>by cases zc.1 hz;exact done .ready _ _ true ⟨rfl,rfl⟩ he2⟩
   |ret=>exact⟨[(.bool false,h2.put c2 (.loop { lb with st:=.done,pend:=some .ret }))],0,fun m _ q _=>(by simp only[w2]),fun _=>⟨_,rfl⟩,fun z hz=>by cases zc.1 hz;exact done .ret _ _ false ⟨rfl,rfl⟩ he2⟩
   |exit i=>exact⟨[(.bool false,h2.put c2 (.loop { lb with st:=.done,pend:=some (.exit i) }))],0,fun m _ q _=>(by simp only[w2]),fun _=>⟨_,rfl⟩,fun z hz=>by cases zc.1 hz;exact done (.exit i) _ _ false ⟨rfl,rfl⟩ he2⟩
  obtain⟨r,M3,j1,j2,j3⟩:=Lf hone2 fin2;refine⟨r,max M2 M3,fun m hm q hq=>?_,j2,j3⟩;have a1:=hM2 m (by omega) q (by omega);simp only at a1;have a2:=j1 m (by omega) q (by omega);simp only[q2,la1];rw[a1];exact a2
 obtain⟨r,M4,j1,j2,j3⟩:=Lf hone1 fin;refine⟨r,max M1 M4+1,fun m hm=>?_,j2,j3⟩;obtain⟨m',rfl⟩:∃m',m=m'+1:=⟨m-1,by omega⟩;have a1:=hM1 m' (by omega) m' (by omega);simp only at a1;have a2:=j1 m' (by omega) m' (by omega);rw[Bl];simp only[Ti];rw[a1];exact a2
end
section
variable {B:Nat}{h0:H0}{X:A6}{F F1 F':Fz}{ρ:Ec}{N:Nat}{st st':AK}{fr:Fr}{h h':H}
theorem Zn{p:PV}{v:V}(hp:PR F ρ N p v):∃w,Bd F ρ N p.cells w/\(MG p=true->v=.agg w)/\(MG p=false->w=[v]):=by
 cases p with
 |agg l=>simp only[PR]at hp;obtain⟨cs,rfl,h1⟩:=hp;exact⟨cs,h1,fun _=>rfl,fun e=>by cases e⟩
 |_=>exact⟨[v],by simp only[zo,A3,B4,wn];exact hp,fun e=>(by cases e),fun _=>rfl⟩
theorem QB{st:AK}{s:Sh}{p:PV}{x:s.T}{v:V}{w:List V}(ha:KP st s p=some (true,x))(h1:MG p=true->v=.agg w)(h2:MG p=false->w=[v])(hw:∀xs,F7 st p.cells=some (true,xs)->MF F xs w):PC F (Cd s x) v:=by
 unfold KP at ha;cases hb:(MG p==s.Qn)with
 |false=>rw[hb]at ha;cases ha
 |true=>
  rw[hb]at ha;simp only[we]at ha;split at ha
  case h_2=>cases ha
  rename_i c cs hcs;split at ha
  case h_2=>cases ha
  rename_i y hy;simp only[zn,Prod.mk.injEq,zd]at ha;obtain⟨⟨hco,rfl⟩,rfl⟩:=ha;have hdc:=MF.dc (fun ρ N=>QV (hw cs hcs ρ N) hco) hy;have hk:=PC.Cd hdc;have hb:MG p=s.Qn:=by simpa using hb
  cases hp:s.Qn with
  |true=>rw[hp]at hb;rw[h1 hb];exact hk.1 hp
  |false=>rw[hp]at hb;exact hk.2 hp v (h2 hb)
theorem handed:∀ {ps:List PV} {vs:List V} {st:AK} {F:Fz},SR B h0 F ρ st.nx st.ob h->Bd F ρ st.nx ps vs->
  ∃F1,SR B h0 F1 ρ (Bt (ps.flatMap zo) st).nx (Bt (ps.flatMap zo) st).ob h/\(∀b cs,F b=some cs->F1 b=some cs)/\∀l i,EG st l ps=some (true,i)->MF F1 (Af l i) vs
 |[],vs,st,F,hr,hp=>⟨F,hr,fun _ _ h=>h,fun l i hi=>by
  have hv:vs=[]:=by simpa using hp
  subst hv;match l,i,hi with
  |[],_,_=>intro ρ' N';simp[Af]
  |[a],_,hi=>cases hi
  |a::b::l,_,hi=>cases hi⟩
 |p::ps,vs,st,F,hr,hp=>by
  simp only[Bd]at hp;obtain⟨v,vs,rfl,h1,h2⟩:=hp;obtain⟨w,c1,c2,c3⟩:=Zn h1;obtain⟨F1,g1,g2,g3⟩:=Ib hr c1;have h2':Bd F1 ρ (Bt p.cells st).nx ps vs:=by rw[(Dt p.cells st).1];exact h2.mono (Le.ZV g2)
  obtain⟨F2,k1,k2,k3⟩:=handed g1 h2';rw[List.flatMap_cons,IT];refine⟨F2,k1,fun b cs hb=>k2 b cs (g2 b cs hb),fun l i hi=>?_⟩;match l,i,hi with
  |[],_,hi=>cases hi
  |[a],i,hi=>
   cases ps with
   |cons q qs=>cases hi
   |nil=>
    have hv:vs=[]:=by simpa using h2
    subst hv;have:=(QB (st:=st) (F:=F1) (by simpa [EG]using hi) c2 c3 g3).mono k2;intro ρ' N';simp only[Af,A3,B4,wn];exact this ρ' N'
  |a::b::l,i,hi=>
   unfold EG at hi;split at hi
   case h_2=>cases hi
   rename_i c x d y e1 e2;simp only[zn,Prod.mk.injEq,zd]at hi;obtain⟨⟨rfl,rfl⟩,rfl⟩:=hi;unfold Af;exact MF.cons ((QB e1 c2 c3 g3).mono k2) (k3 (b::l) y (by rw[Mr (MU p.cells st)];exact e2))
theorem SR.after{ob:Ob}(hr:SR B h0 F ρ N ob h)(hs:∀b,b<h.nx->h'.get b=h.get b)(hx:h.nx<=h'.nx)(hlt:∀b o,h'.get b=some o->b<h'.nx)(hF:∀b cs,F b=some cs->F' b=some cs)
  (hN:∀b cs,F' b=some cs->F b=some cs\/h.nx<=b) (hfr:∀b cs,F' b=some cs->∃t fz,h'.get b=some (.cells cs t fz)):SR B h0 F' ρ N ob h':=by
 refine⟨fun id o ho=>?_,hr.inj,hfr,hr.own,hr.dead,fun b hb he=>?_,hlt,zj hr.le hx,fun b cs hb=>?_,hr.gl,fun b hb=>by obtain⟨g1,g2,g3⟩:=hr.pn b hb;exact⟨by rw[hs b (hr.lt b _ g1)];exact g1,g2,g3⟩⟩
 ·obtain⟨b,n,x,h1,h2,h3,h4,h5⟩:=hr.obj id o ho;have hb:=hr.lt b x h2;refine⟨b,n,x,h1,by rw[hs b hb];exact h2,h3.mono (Le.ZV (ρ:=ρ) hF),fun e=>?_,fun e=>?_⟩
  ·cases hc:F' b with
   |none=>rfl
   |some cs=>
    rcases hN b cs hc with h6|h6
    ·rw[h4 e]at h6;cases h6
    ·omega
  ·obtain⟨cs,t,fz,k1,k2⟩:=h5 e;exact⟨cs,t,fz,k1,hF _ _ k2⟩
 ·rw[hs b (zi hb hr.le)];exact hr.old b hb he
 ·rcases hN b cs hb with h1|h1
  ·exact hr.fo b cs h1
  ·exact .inr (.inl (zj hr.le h1))
theorem SR.gh{ob:Ob}(hr:SR B h0 F ρ N ob h):Gh h:=fun x hx=>by
 obtain⟨a,b,c⟩:=hr.gl x hx;rw[hr.old _ a b];exact c
structure SJ(C:Ctx)(f:FuncId)(sp:Ap):Prop where
 prim:C.prim f=none
 fn:∃i,C.fn f=some i
 run:∀(F:Fz) (h:H) (args:List V) (i:(BG sp.ins).T),(∀b cs,F b=some cs->∃t fz,h.get b=some (.cells cs t fz))->(∀b o,h.get b=some o->b<h.nx)->Gh h->MF F (Af sp.ins i) args->sp.pre i=true->
  ∃l M,(∀m,M<=m->Bl C m (.fn f args) h=some l)/\(sp.nd=false->∃x,l=[x])/\∀x∈l,h.nx<=x.2.nx/\(∀b,b<h.nx->x.2.get b=h.get b)/\(∀b o,x.2.get b=some o->b<x.2.nx)/\
   ∃F':Fz,(∀b cs,F b=some cs->F' b=some cs)/\(∀b cs,F' b=some cs->F b=some cs\/h.nx<=b)/\(∀b cs,F' b=some cs->∃t fz,x.2.get b=some (.cells cs t fz))/\
    PC F' (one (Af sp.outs (sp.f i))) x.1
structure vV(C:Ctx)(f:FuncId)(sp:Ap):Prop where
 run:∃q,C.prim f=some q/\∀(F:Fz) (h:H) (args:List V) (i:(BG sp.ins).T),MF F (Af sp.ins i) args->sp.pre i=true->∃v,q args h=some (v,h)/\PC F (one (Af sp.outs (sp.f i))) v
def Ag(C:Ctx)(f:FuncId)(sp:Ap):Prop:=SJ C f sp\/vV C f sp
theorem Ag.of0{C:Ctx}{f:FuncId}{sp:Ap}(h:SJ C f sp):Ag C f sp:=.inl h
theorem Ag.zero{C:Ctx}{f:FuncId}{sp:Ap}(h:Ag C f sp)(hp:C.prim f=none):SJ C f sp:=by
 rcases h with h|⟨q,hq,_⟩
 ·exact h
 ·rw[hp]at hq;cases hq
theorem Ag.go{C:Ctx}{f:FuncId}{sp:Ap}(ok:Ag C f sp)(F:Fz)(h:H)(args:List V)(i:(BG sp.ins).T)(hfz:∀b cs,F b=some cs->∃t fz,h.get b=some (.cells cs t fz))(hlt:∀b o,h.get b=some o->b<h.nx)(hgh:Gh h)(ha:MF F (Af sp.ins i) args)(hp:sp.pre i=true):
  ∃l,(((C.prim f=none/\∃i,C.fn f=some i)/\∃M,∀m,M<=m->Bl C m (.fn f args) h=some l)\/∃q x,C.prim f=some q/\q args h=some x/\l=[x])/\(sp.nd=false->∃x,l=[x])/\∀x∈l,h.nx<=x.2.nx/\(∀b,b<h.nx->x.2.get b=h.get b)/\(∀b o,x.2.get b=some o->b<x.2.nx)/\
   ∃F':Fz,(∀b cs,F b=some cs->F' b=some cs)/\(∀b cs,F' b=some cs->F b=some cs\/h.nx<=b)/\(∀b cs,F' b=some cs->∃t fz,x.2.get b=some (.cells cs t fz))/\
    PC F' (one (Af sp.outs (sp.f i))) x.1:=by
 rcases ok with ok|⟨q,hq,hrun⟩
 ·obtain⟨l,M,h1,h2,h3⟩:=ok.run F h args i hfz hlt hgh ha hp;exact⟨l,.inl ⟨⟨ok.prim,ok.fn⟩,M,h1⟩,h2,h3⟩
 ·obtain⟨v,h1,h2⟩:=hrun F h args i ha hp;refine⟨[(v,h)],.inr ⟨q,(v,h),hq,h1,rfl⟩,fun _=>⟨_,rfl⟩,fun x hx=>?_⟩;cases zc.1 hx;exact⟨ze _,fun _ _=>rfl,hlt,F,fun _ _ h=>h,fun _ _ h=>.inl h,hfz,h2⟩
theorem DC.sc:∀ {s:Sh} {x:s.T} {cs:List V},s.sc=true->DC F s x cs->DC F' s x cs
 | .int _,_,_,_,h=>by simpa only[DC]using h
 | .bool,_,_,_,h=>by simpa only[DC]using h
 | .str,_,_,_,h=>by simpa only[DC]using h
 | .list s,l,_,e,h=>by cases e
 | .pair a b,x,_,e,h=>by
  simp only[DC]at h ⊢;simp only[Sh.sc,zd]at e;obtain⟨c,d,rfl,h1,h2⟩:=h;exact⟨c,d,rfl,h1.sc e.1,h2.sc e.2⟩
 | .unit,_,_,_,h=>by simpa only[DC]using h
 | .nlist s,l,_,e,h=>by cases e
 | .fnv,_,_,_,h=>by simpa only[DC]using h
 | .ptr _,_,_,e,_=>by cases e
theorem RC:∀ {s:Sh} {x:s.T} {cs:List V},s.sc=true->Bd F ρ N (flat s x) cs->MF F' (flat s x) cs
 | .int k,x,cs,_,h=>fun ρ' N'=>by
  simp only[flat,Bd]at h ⊢;obtain⟨v,vs,rfl,h1,rfl⟩:=h;exact⟨v,[],rfl,by simp only[PR]at h1 ⊢;exact h1.sc rfl,rfl⟩
 | .bool,x,cs,_,h=>fun ρ' N'=>by
  simp only[flat,Bd]at h ⊢;obtain⟨v,vs,rfl,h1,rfl⟩:=h;exact⟨v,[],rfl,by simp only[PR]at h1 ⊢;exact h1.sc rfl,rfl⟩
 | .str,x,cs,_,h=>fun ρ' N'=>by
  simp only[flat,Bd]at h ⊢;obtain⟨v,vs,rfl,h1,rfl⟩:=h;exact⟨v,[],rfl,by simp only[PR]at h1 ⊢;exact h1.sc rfl,rfl⟩
 | .list s,x,cs,e,h=>by cases e
 | .pair a b,(x,y),cs,e,h=>fun ρ' N'=>by
  simp only[Sh.sc,zd]at e;have key:∀(ps qs:List PV) (l:List V),Bd F ρ N (ps++qs) l->∃c d,l=c++d/\Bd F ρ N ps c/\Bd F ρ N qs d:=by
   intro ps;induction ps with
   |nil=>intro qs l hl;exact⟨[],l,rfl,by simp,hl⟩
   |cons p ps ih=>
    intro qs l hl;simp only[List.cons_append,Bd]at hl;obtain⟨v,vs,rfl,h1,h2⟩:=hl;obtain⟨c,d,rfl,h3,h4⟩:=ih qs vs h2;exact⟨v::c,d,rfl,by simp only[A3];exact⟨h1,h3⟩,h4⟩
  obtain⟨c,d,rfl,h1,h2⟩:=key _ _ _ h;exact(RC e.1 h1 ρ' N').append (RC e.2 h2 ρ' N')
 | .unit,_,cs,_,h=>fun ρ' N'=>by simpa [flat]using h
 | .nlist s,x,cs,e,h=>by cases e
 | .fnv,x,cs,_,h=>fun ρ' N'=>by
  simp only[flat,Bd]at h ⊢;obtain⟨v,vs,rfl,h1,rfl⟩:=h;refine⟨v,[],rfl,?_,rfl⟩;cases (x:Option Fn)<;>simp only[PR,B4]at h1 ⊢<;>exact h1
 | .ptr _,_,_,e,_=>by cases e
theorem X0{s:Sh}{x:s.T}{v:V}(e:s.sc=true)(h:PC F (Cd s x) v):PC F' (Cd s x) v:=by
 intro ρ' N';have h:=h ρ' N';cases s with
 |pair a b=>
  unfold Pe.Cd PR at h ⊢;obtain⟨cs,rfl,h1⟩:=h;exact⟨cs,rfl,RC e h1 ρ' N'⟩
 |unit=>unfold Pe.Cd PR at h ⊢;obtain⟨cs,rfl,h1⟩:=h;exact⟨cs,rfl,by simpa using h1⟩
 |int k=>unfold Pe.Cd PR at h ⊢;exact h.sc rfl
 |bool=>unfold Pe.Cd PR at h ⊢;exact h.sc rfl
 |str=>unfold Pe.Cd PR at h ⊢;exact h.sc rfl
 |list s=>cases e
 |nlist s=>cases e
 |ptr s=>cases e
 |fnv=>
  unfold Pe.Cd at h ⊢;cases (x:Option Fn)<;>simp only[PR,B4]at h ⊢<;>exact h
theorem Yl:∀ {l:List Sh} {x:(BG l).T} {vs:List V},l.all Sh.sc=true->MF F (Af l x) vs->MF F' (Af l x) vs
 |[],_,vs,_,h=>fun ρ' N'=>by have:=h ρ' N';simpa [Af]using this
 |[a],x,vs,e,h=>fun ρ' N'=>by
  have h1:=h ρ' N';simp only[Af,Bd]at h1;obtain⟨v,vs',rfl,h2,rfl⟩:=h1;simp only[zy,List.all_nil,zt]at e;simp only[Af,A3,B4,wn];refine X0 (F:=F) e (fun ρ2 N2=>?_) ρ' N';have:=h ρ2 N2;simpa only[Af,A3,B4,wn]using this
 |a::b::l,x,vs,e,h=>by
  have h1:=h (fun _=>none) 0;simp only[Af,Bd]at h1;obtain⟨v,vs',rfl,_,_⟩:=h1;have e':a.sc=true/\(b::l).all Sh.sc=true:=by simpa [zy,Bool.and_assoc]using e
  unfold Af at h ⊢;exact MF.cons (X0 e'.1 fun ρ2 N2=>((A3 ..).1 (h ρ2 N2)).1) (Yl e'.2 fun ρ2 N2=>((A3 ..).1 (h ρ2 N2)).2)
theorem Oo{l:List Sh}{x:(BG l).T}{v:V}:PC F (one (Af l x)) v↔∃vs,MF F (Af l x) vs/\v=(match vs with|[u]=>u|us=>.tup us):=by
 have tupc:∀ps:List PV,(∀u,ps≠[u])->(PC F (one ps) v↔∃vs,MF F ps vs/\v=(match vs with|[u]=>u|us=>.tup us)):=by
  intro ps hne;have h1:one ps=.tup ps:=by
   unfold one;split
   ·rename_i u;exact wh rfl (hne u)
   ·rfl
  rw[h1];constructor
  ·intro h;have h2:=h (fun _=>none) 0;unfold PR at h2;obtain⟨cs,rfl,h3⟩:=h2;refine⟨cs,fun ρ N=>?_,?_⟩
   ·have h4:=h ρ N;unfold PR at h4;obtain⟨cs',e,h5⟩:=h4;cases e;exact h5
   ·have hl:=h3.len;split
    ·rename_i u;cases ps with
     |nil=>cases hl
     |cons q qs=>cases qs with
      |nil=>exact wh rfl (hne q)
      |cons _ _=>cases hl
    ·rfl
  ·rintro⟨vs,h2,rfl⟩ ρ N;unfold PR;have hl:=(h2 ρ N).len;split
   ·rename_i u;cases ps with
    |nil=>cases hl
    |cons q qs=>cases qs with
     |nil=>exact wh rfl (hne q)
     |cons _ _=>cases hl
   ·exact⟨_,rfl,h2 ρ N⟩
 match l,x with
 |[],x=>exact tupc [] (fun u e=>by cases e)
 |[a],x=>
  simp only[Af,one];constructor
  ·intro h;exact⟨[v],fun ρ N=>by simp only[A3,B4,wn];exact h ρ N,rfl⟩
  ·rintro⟨vs,h2,rfl⟩ ρ N;have h3:=h2 ρ N;simp only[Bd]at h3;obtain⟨u,us,rfl,h4,rfl⟩:=h3;exact h4
 |a::b::l,x=>
  refine tupc _ (fun u e=>?_);unfold Af at e;cases l<;>cases e
theorem Zj{nd:Bool}{g:FuncId}{sp:Ap}(_hsp:X.sp g=some sp)(hok:Ag X.C g sp)(hnd:nd=false->sp.nd=false){Q:PV->Ob->Prop}{n:Nat}{args:List PV}{k:PV->AK->Tr}{args':List V}(he:Ev X Q n (cX sp args st k))(hr:Rel B h0 F ρ st fr h)(ha:Bd F ρ st.nx args args'):
  ∃l,MV X ρ h args' (.fn g) l/\(nd=false->∃x,l=[x])/\
   ∀x∈l,∃n',n'<=n/\∃r st',Ev X Q n' (k r st')/\∃F' ρ',PR F' ρ' st'.nx r x.1/\Dj B h0 F ρ st.nx h st' fr x.2 F' ρ'/\(∀sp,X.sp g=some sp->∀b,b<h.nx->x.2.get b=h.get b):=by
 unfold cX at he;split at he
 case h_2=>exact wh he zh
 rename_i c i hi;rcases he.EM with⟨hc,he1⟩|⟨_,he1⟩
 case inr=>exact wh he1 zh
 simp only[zd]at hc;obtain⟨rfl,hpre⟩:=hc;obtain⟨F1,g1,g2,g3⟩:=handed hr.sr ha;obtain⟨l,hM,hone,hall⟩:=hok.go F1 h args' i g1.frz hr.sr.lt hr.sr.gh (g3 _ i hi) hpre;have hcd:MV X ρ h args' (.fn g) l:=by
  rcases hM with⟨h1,M,hM⟩|⟨q,x,h1,h2,rfl⟩
  ·exact .Bl ⟨rfl,h1⟩ hM
  ·exact .prim h1 h2
 refine⟨l,hcd,fun e=>hone (hnd e),fun x hx=>?_⟩;obtain⟨k1,k2,k3,F',k4,k5,k6,k7⟩:=hall x hx;refine⟨n,ze _,_,_,he1,?_⟩;cases hsc:sp.outs.all Sh.sc with
 |true=>
  simp only[we];have hv:PC F (one (Af sp.outs (sp.f i))) x.1:=by
   obtain⟨vs,h1,h2⟩:=Oo.1 k7;exact Oo.2 ⟨vs,Yl hsc h1,h2⟩
  refine⟨F,ρ,hv ρ _,⟨⟨hr.fp,?_⟩,zu,k1⟩,fun _ _ b hb=>k2 b hb⟩;refine hr.sr.after k2 k1 k3 (fun _ _ h=>h) (fun _ _ h=>.inl h) (fun b cs hb=>?_);obtain⟨t,fz,hg⟩:=hr.sr.frz b cs hb;exact⟨t,fz,by rw[k2 b (hr.sr.lt b _ hg)];exact hg⟩
 |false=>
  simp only[wg];obtain⟨e1,e2,e3⟩:=Dt (args.flatMap zo) st;have hle:Le F ρ st.nx F' ρ (Bt (args.flatMap zo) st).nx:=by
   rw[e1];exact Le.ZV fun b cs hb=>k4 b cs (g2 b cs hb)
  refine⟨F',ρ,k7 ρ _,⟨⟨⟨e3.trans hr.fp.n,fun t=>?_⟩,?_⟩,hle,k1⟩,fun _ _ b hb=>k2 b hb⟩
  ·have:(Bt (args.flatMap zo) st).get t=st.get t:=by unfold AK.get;rw[e2]
   rw[this];exact(hr.fp.slot t).mono hle
  ·exact g1.after k2 k1 k3 k4 k5 k6
structure Li(C:Ctx)(f:FuncId)(w:Yy):Prop where
 prim:C.prim f=none
 fn:∃i,C.fn f=some i
 len:∀i l,w.pre i l=true->(w.g i l).length=l.length
 run:∀(F:Fz) (h:H) (args:List V) (i:(BG w.ins).T) (l:List w.el.T) (b:Nat) (cs:List V) (fz:Nat×Nat) (o:Nat),(∀b cs,F b=some cs->∃t fz,h.get b=some (.cells cs t fz))->(∀b o,h.get b=some o->b<h.nx)->Gh h->MF F (Af w.ins i) args->w.pre i l=true->
  h.get b=some (.cells cs w.ty fz)->Ed F w.el l cs->fz.2<=fz.1->F b=none->(o=0\/o=w.el.sz)->
  ∃x M,(∀m,M<=m->Bl C m (.fn f (args++[.sl b 0 l.length l.length o])) h=some [x])/\x.1=.tup []/\h.nx<=x.2.nx/\(∀c,c<h.nx->c≠b->x.2.get c=h.get c)/\(∀c y,x.2.get c=some y->c<x.2.nx)/\
   ∃F':Fz,(∀b cs,F b=some cs->F' b=some cs)/\(∀b cs,F' b=some cs->F b=some cs\/h.nx<=b)/\(∀b cs,F' b=some cs->∃t fz,x.2.get b=some (.cells cs t fz))/\
    ∃cs' fz',x.2.get b=some (.cells cs' w.ty fz')/\Ed F' w.el (w.g i l) cs'/\fz'.2<=fz'.1
 nils:∀(F:Fz) (h:H) (args:List V) (i:(BG w.ins).T),(∀b cs,F b=some cs->∃t fz,h.get b=some (.cells cs t fz))->(∀b o,h.get b=some o->b<h.nx)->Gh h->MF F (Af w.ins i) args->w.pre i []=true->
  ∃x M,(∀m,M<=m->Bl C m (.fn f (args++[.nils])) h=some [x])/\x.1=.tup []/\h.nx<=x.2.nx/\(∀c,c<h.nx->x.2.get c=h.get c)/\(∀c y,x.2.get c=some y->c<x.2.nx)/\
   ∃F':Fz,(∀b cs,F b=some cs->F' b=some cs)/\(∀b cs,F' b=some cs->F b=some cs\/h.nx<=b)/\(∀b cs,F' b=some cs->∃t fz,x.2.get b=some (.cells cs t fz))
theorem Bd.split:∀ {a b:List PV} {vs:List V},Bd F ρ N (a++b) vs->∃x y,vs=x++y/\Bd F ρ N a x/\Bd F ρ N b y
 |[],b,vs,h=>⟨[],vs,rfl,by simp,h⟩
 |p::a,b,vs,h=>by
  simp only[List.cons_append,Bd]at h;obtain⟨v,vs,rfl,h1,h2⟩:=h;obtain⟨x,y,rfl,h3,h4⟩:=h2.split;exact⟨v::x,y,rfl,by simp only[A3];exact⟨h1,h3⟩,h4⟩
theorem SR.wrote{ob:Ob}(hr:SR B h0 F ρ N ob h){id b n:Nat}{o o':Obj}{x':O}(ho:AP ob id=some o)(hb:ρ id=some (b,n))(hbn:b<h.nx)(hFb:F b=none)(hf':o'.frozen=false)(hg':h'.get b=some x')(hx':XA F' ρ N n o' x')
  (hs:∀c,c<h.nx->c≠b->h'.get c=h.get c) (hx:h.nx<=h'.nx) (hlt:∀b o,h'.get b=some o->b<h'.nx) (hF:∀b cs,F b=some cs->F' b=some cs)
  (hN:∀b cs,F' b=some cs->F b=some cs\/h.nx<=b) (hfr:∀b cs,F' b=some cs->∃t fz,h'.get b=some (.cells cs t fz)):SR B h0 F' ρ N (DE ob id o') h':=by
 have hset:∀j,AP (DE ob id o') j=if j=id then some o' else AP ob j:=fun j=>G7 _ _ _ _ (by rw[ho];rfl)
 have none':∀c,c<h.nx->F c=none->F' c=none:=fun c hc hn=>by
  cases h1:F' c with
  |none=>rfl
  |some cs=>
   rcases hN c cs h1 with h2|h2
   ·rw[hn]at h2;cases h2
   ·omega
 refine⟨fun j oj hj=>?_,fun i j oi oj c m m' hi hj h1 h2=>?_,hfr,hr.own,fun j hj=>?_,fun c hc he=>?_,hlt,zj hr.le hx,fun c cs hc=>?_,hr.gl,fun c hc=>?_⟩
 ·rw[hset]at hj;by_cases e:j=id
  ·subst e;simp only[wk,zn]at hj;subst hj;exact⟨b,n,x',hb,hg',hx',fun _=>none' b hbn hFb,fun e=>by rw[hf']at e;cases e⟩
  ·rw[wc e]at hj;obtain⟨c,m,y,h1,h2,h3,h4,h5⟩:=hr.obj j oj hj;have hne:c≠b:=fun ec=>e (hr.inj j id oj o c m n hj ho h1 (ec▸hb))
   have hc:=hr.lt c y h2;refine⟨c,m,y,h1,by rw[hs c hc hne];exact h2,h3.mono (Le.ZV (ρ:=ρ) hF),fun e=>none' c hc (h4 e),fun e=>?_⟩;obtain⟨cs,t,fz,k1,k2⟩:=h5 e;exact⟨cs,t,fz,k1,hF _ _ k2⟩
 ·have get':∀k ok,AP (DE ob id o') k=some ok->∃o2,AP ob k=some o2:=by
   intro k ok hk;rw[hset]at hk;by_cases e:k=id
   ·exact⟨o,e▸ho⟩
   ·rw[wc e]at hk;exact⟨ok,hk⟩
  obtain⟨_,g1⟩:=get' i oi hi;obtain⟨_,g2⟩:=get' j oj hj;exact hr.inj i j _ _ c m m' g1 g2 h1 h2
 ·rw[hset]at hj;by_cases e:j=id
  ·rw[wd e]at hj;cases hj
  ·rw[wc e]at hj;exact hr.dead j hj
 ·rw[hs c (zi hc hr.le) (Nn (hr.own id b n hb).2 hc he)];exact hr.old c hc he
 ·rcases hN c cs hc with h1|h1
  ·exact hr.fo c cs h1
  ·exact .inr (.inl (zj hr.le h1))
 ·obtain⟨g1,g2,g3⟩:=hr.pn c hc;have hne:c≠b:=fun e=>g3 id n (e▸hb)
  exact⟨by rw[hs c (hr.lt c _ g1) hne];exact g1,g2,g3⟩
theorem rev_eq{α:Type}{a:List α}{x:α}{r:List α}(h:a.reverse=x::r):a=r.reverse++[x]:=by
 have:=wi List.reverse h;simpa using this
theorem WY{nd:Bool}{g:FuncId}{w:Yy}(hno:X.sp g=none)(hok:Li X.C g w){Q:PV->Ob->Prop}{n:Nat}{args:List PV}{k:PV->AK->Tr}{args':List V}(he:Ev X Q n (VZ w args st k))(hr:Rel B h0 F ρ st fr h)(ha:Bd F ρ st.nx args args'):
  ∃l,MV X ρ h args' (.fn g) l/\(nd=false->∃x,l=[x])/\
   ∀x∈l,∃n',n'<=n/\∃r st',Ev X Q n' (k r st')/\∃F' ρ',PR F' ρ' st'.nx r x.1/\Dj B h0 F ρ st.nx h st' fr x.2 F' ρ'/\(∀sp,X.sp g=some sp->∀b,b<h.nx->x.2.get b=h.get b):=by
 unfold VZ at he;split at he
 ·rename_i id sz nn r hrev;rw[rev_eq hrev]at ha;obtain⟨a1,a2,rfl,ha1,ha2⟩:=ha.split;simp only[Bd]at ha2;obtain⟨v,_,rfl,hv,rfl⟩:=ha2;obtain⟨F1,g1,g2,g3⟩:=handed hr.sr ha1;split at he
  case h_2=>exact wh he zh
  rename_i c i t s l hi ho;cases hty:zk t w.ty with
  |false=>rw[hty]at he;exact wh he zh
  |true=>
  rw[hty]at he;simp only[we]at he;have hty:=zm hty;split at he
  case h_2=>exact wh he zh
  rename_i l' hl';obtain⟨e,rfl⟩:=CB hl';cases e;rcases he.EM with⟨hc,he1⟩|⟨_,he1⟩
  case inr=>exact wh he1 zh
  simp only[zd,w5]at hc;obtain⟨⟨⟨rfl,hpre⟩,hn⟩,hsz⟩:=hc;have hsz:=zm hsz;subst hn hsz hty;obtain⟨e1,e2,e3⟩:=Dt (r.reverse.flatMap zo) st;obtain⟨b,m,x,h1,h2,⟨cs,fz,rfl,k1,k2,k3⟩,h4,_⟩:=g1.obj id _ ho;simp only[PR]at hv;obtain⟨o,ho',rfl⟩:∃o,(o=0\/o=w.el.sz)/\v=.sl b (0*w.el.sz) (List.length l) (List.length l) o:=by
   rcases hv.2 b m h1 with⟨_,_,g⟩|⟨_,e,_⟩
   ·exact g
   ·cases e
  rw[Nat.zero_mul];obtain⟨x,M,hM,q1,q2,q3,q4,F',f1,f2,f3,cs',fz',f4,f5,f6⟩:=hok.run F1 h a1 i l b cs fz o g1.frz hr.sr.lt hr.sr.gh (g3 _ i hi) hpre h2 k1 k2 (h4 rfl) ho';refine⟨[x],.Bl ⟨rfl,hok.prim,hok.fn⟩ hM,fun _=>⟨x,rfl⟩,fun y hy=>?_⟩;cases zc.1 hy;refine⟨n,ze _,_,_,he1,F',ρ,?_,⟨⟨⟨e3.trans hr.fp.n,fun t=>?_⟩,?_⟩,?_,q2⟩,fun sp hsp=>by rw[hno]at hsp;cases hsp⟩
  ·rw[q1];simp[PR]
  ·have:((Bt (r.reverse.flatMap zo) st).setObj id (.arr false w.ty w.el (w.g i l))).get t=st.get t:=by
    show((Bt (r.reverse.flatMap zo) st).fr.get t).getD .any=_;rw[e2];rfl
   rw[this];refine(hr.fp.slot t).mono ?_;show Le F ρ st.nx F' ρ (Bt (r.reverse.flatMap zo) st).nx;rw[e1];exact Le.ZV fun b cs hb=>f1 b cs (g2 b cs hb)
  ·exact g1.wrote ho h1 (hr.sr.lt _ _ h2) (h4 rfl) rfl f4 ⟨cs',fz',rfl,f5,f6,by rw[<-k3];exact hok.len i l hpre⟩ q3 q2 q4 f1 f2 f3
  ·show Le F ρ st.nx F' ρ (Bt (r.reverse.flatMap zo) st).nx;rw[e1];exact Le.ZV fun b cs hb=>f1 b cs (g2 b cs hb)
 ·rename_i r hrev;rw[rev_eq hrev]at ha;obtain⟨a1,a2,rfl,ha1,ha2⟩:=ha.split;simp only[Bd]at ha2;obtain⟨v,_,rfl,hv,rfl⟩:=ha2;simp only[PR]at hv;subst hv;obtain⟨F1,g1,g2,g3⟩:=handed hr.sr ha1;split at he
  case h_2=>exact wh he zh
  rename_i c i hi;rcases he.EM with⟨hc,he1⟩|⟨_,he1⟩
  case inr=>exact wh he1 zh
  simp only[zd]at hc;obtain⟨rfl,hpre⟩:=hc;obtain⟨e1,e2,e3⟩:=Dt (r.reverse.flatMap zo) st;obtain⟨x,M,hM,q1,q2,q3,q4,F',f1,f2,f3⟩:=hok.nils F1 h a1 i g1.frz hr.sr.lt hr.sr.gh (g3 _ i hi) hpre;have hle:Le F ρ st.nx F' ρ (Bt (r.reverse.flatMap zo) st).nx:=by
   rw[e1];exact Le.ZV fun b cs hb=>f1 b cs (g2 b cs hb)
  refine⟨[x],.Bl ⟨rfl,hok.prim,hok.fn⟩ hM,fun _=>⟨x,rfl⟩,fun y hy=>?_⟩;cases zc.1 hy;refine⟨n,ze _,_,_,he1,F',ρ,?_,⟨⟨⟨e3.trans hr.fp.n,fun t=>?_⟩,?_⟩,hle,q2⟩,fun sp hsp=>by rw[hno]at hsp;cases hsp⟩
  ·rw[q1];simp[PR]
  ·have:(Bt (r.reverse.flatMap zo) st).get t=st.get t:=by unfold AK.get;rw[e2]
   rw[this];exact(hr.fp.slot t).mono hle
  ·exact g1.after q3 q2 q4 f1 f2 f3
 ·exact wh he zh
theorem K1(hmg:X.C.mg=false)(hall:∀g sp,X.sp g=some sp->Ag X.C g sp)(hws:∀g w,X.ws g=some w->Li X.C g w):∀(d:Nat) (nd:Bool) (h0:H0),Ff B h0 X nd (Cu X nd d)
 |0,nd,h0=>by intro he;exact wh he zh
 |d+1,nd,h0=>by
  rename_i Q n cg args st k;intro he F ρ fr h args' hr ha;unfold Cu at he;cases cg with
  |rnd id=>exact wh he zh
  |fn g=>
  simp only at he;have conv:(∃l,MV X ρ h args' (.fn g) l/\(nd=false->∃x,l=[x])/\
   ∀x∈l,∃n',n'<=n/\∃r st',Ev X Q n' (k r st')/\∃F' ρ',PR F' ρ' st'.nx r x.1/\Dj B h0 F ρ st.nx h st' fr x.2 F' ρ'/\(∀sp,X.sp g=some sp->∀b,b<h.nx->x.2.get b=h.get b))->
   ∃l,MV X ρ h args' (.fn g) l/\(nd=false->∃x,l=[x])/\
   ∀x∈l,∃n',n'<=n/\∃r st',Ev X Q n' (k r st')/\∃F' ρ',PR F' ρ' st'.nx r x.1/\Dj B h0 F ρ st.nx h st' fr x.2 F' ρ'/\(∀gg,vK.fn g=.fn gg->∀sp,X.sp gg=some sp->∀b,b<h.nx->x.2.get b=h.get b):=by
   rintro⟨l,h1,h3,h4⟩;refine⟨l,h1,h3,fun x hx=>?_⟩;obtain⟨n',k1,r,st',k2,F',ρ',k3,k4,k5⟩:=h4 x hx;exact⟨n',k1,r,st',k2,F',ρ',k3,k4,fun gg e=>by cases e;exact k5⟩
  obtain⟨o,hs⟩:∃o,X.sp g=o:=⟨_,rfl⟩;cases o with
  |some sp=>
   rw[hs]at he;simp only at he;cases hb:(nd|| !sp.nd)with
   |false=>rw[hb]at he;exact wh he zh
   |true=>
    rw[hb]at he;exact conv (Zj (nd:=nd) hs (hall g sp hs) (fun e=>by rw[e]at hb;simpa using hb) he hr ha)
  |none=>
   rw[hs]at he;simp only at he;obtain⟨ow,hw⟩:∃o,X.ws g=o:=⟨_,rfl⟩;cases ow with
   |some w=>rw[hw]at he;exact conv (WY hs (hws g w hw) he hr ha)
   |none=>
   rw[hw]at he;simp only at he;cases hesc:X.esc.any (zk g)with
   |true=>
    rw[hesc]at he;simp only[we]at he;unfold Aa0 at he;split at he
    case h_2=>exact wh he zh
    rename_i id off;cases hs2:H8 (st.obj id)with
    |false=>rw[hs2]at he;exact wh he zh
    |true=>
     rw[hs2]at he;simp only[we]at he;obtain⟨g',hg',hb⟩:=z6.1 hesc;have e:=zm hb;subst e;have hp:=X.escOk g hg';obtain⟨o,ho⟩:=VV hs2;obtain⟨b,n',z,q1,_⟩:=hr.sr.at ho;simp only[Bd]at ha;obtain⟨x,_,rfl,hx,rfl⟩:=ha;have hx':=hx;simp only[PR]at hx';obtain rfl:=hx'.2 b n' q1;exact conv ⟨[(.ptr b off,h)],.prim hp rfl,fun _=>⟨_,rfl⟩,fun y hy=>by
      cases zc.1 hy;exact⟨n,ze _,_,st,he,F,ρ,hx,Dj.refl hr,fun _ _ _ _=>rfl⟩⟩
   |false=>
   rw[hesc]at he;simp only[wg]at he;split at he
   case h_2=>exact wh he zh
   rename_i hp hsp;obtain⟨g1,l,M,g2,g3,g4⟩:=Je (K1 hmg hall hws d nd) (K1 hmg hall hws d false) hmg hsp hp hs he hr ha;exact conv ⟨l,.Bl ⟨rfl,g1⟩ g2,g3,g4⟩
theorem Ox{st:AK}:∀ {l:List Sh} {ps:List PV} {r:Bool×(BG l).T},EG st l ps=some r->l.length=ps.length
 |[],[],_,_=>rfl
 |[],_::_,_,h=>by cases h
 |[a],[p],_,_=>rfl
 |[a],[],_,h=>by cases h
 |[a],_::_::_,_,h=>by cases h
 |a::b::l,[],_,h=>by cases h
 |a::b::l,p::ps,_,h=>by
  unfold EG at h;split at h
  case h_2=>cases h
  rename_i e1 e2;have:=Ox e2;simp at this ⊢;exact this
def KJ(outs:List Sh)(v:PV):List PV:=match outs with
 |[_]=>[v]
 |_=>match v with
  | .tup vs=>vs
  |_=>[v]
def YT(outs:List Sh)(v:PV)(ob:Ob):Option (Bool×(BG outs).T):=EG ⟨0,.leaf,ob,0⟩ outs (KJ outs v)
def Ends(X:A6)(t:Tr)(Q:PV->Ob->Prop):Prop:=∃n,Ev X Q n t
def Ad(sp:Ap)(i:(BG sp.ins).T)(v:PV)(ob:Ob):Prop:=∃y,YT sp.outs v ob=some (true,y)/\y=sp.f i
theorem ZR(hmg:X.C.mg=false)(hall:∀g sp,X.sp g=some sp->Ag X.C g sp)(hws:∀g w,X.ws g=some w->Li X.C g w){f:FuncId}{sp:Ap}{d:Nat}(hsp:X.C.spec f=none)(hprim:X.C.prim f=none)(hno:X.sp f=none)
  (hev:∀i,sp.pre i=true->Ends X (tree X sp.nd d f (Af sp.ins i)) (Ad sp i)) (hfn:∃i,X.C.fn f=some i):Ag X.C f sp:=by
 refine .of0 ⟨hprim,hfn,fun F h args i hfrz hlt hgh hargs hpre=>?_⟩;obtain⟨n,he⟩:=hev i hpre;unfold tree at he;have hr:Rel h.nx ⟨h,F,[],fun _=>False⟩ F (fun _=>none) (AF 0 [] [] 0) ⟨0,.leaf⟩ h:=by
  refine⟨⟨rfl,fun t=>?_⟩,⟨fun id o ho=>(by cases ho),fun id id' o o' b n n' ho=>(by cases ho),hfrz,fun id b n hb=>(by cases hb),fun _ _=>rfl,fun _ _ _=>rfl,hlt,ze _,fun b cs hb=>.inl hb,fun x hx=>⟨hlt _ _ (hgh x hx),fun e=>e,hgh x hx⟩,fun b hb=>(by cases hb)⟩⟩;show PR _ _ _ (((Fq []).get t).getD .any) _;have:(Fq []).get t=none:=PM.Di t;rw[this];simp[PR]
 obtain⟨_,l,M,hM,hone,hall⟩:=Je (K1 hmg hall hws d sp.nd) (K1 hmg hall hws d false) hmg hsp hprim hno he hr (hargs _ _);refine⟨l,M,hM,hone,fun x hx=>?_⟩;obtain⟨n',hn,r,st',he',F',ρ',hp,hw,_⟩:=hall x hx;have hq:=he'.XZ;obtain⟨y,hy,rfl⟩:=hq;have hold:∀b,b<h.nx->x.2.get b=h.get b:=fun b hb=>hw.rel.sr.old b hb (fun e=>e)
 refine⟨hw.nx,hold,hw.rel.sr.lt,?_⟩;have hvs:∃vs,Bd F' ρ' st'.nx (KJ sp.outs r) vs/\((∃a,sp.outs=[a])->vs=[x.1])/\((∀a,sp.outs≠[a])->(∃qs,r=.tup qs)->x.1=.tup vs):=by
  unfold KJ;split
  ·rename_i a ha;exact⟨[x.1],by simp only[A3,B4,wn];exact hp,fun _=>rfl,fun hne=>wh ha (hne _)⟩
  ·rename_i hne;split
   ·rename_i qs;simp only[PR]at hp;obtain⟨cs,e,h1⟩:=hp;exact⟨cs,h1,fun⟨a,ha⟩=>wh ha (hne a),fun _ _=>e⟩
   ·rename_i hnt;exact⟨[x.1],by simp only[A3,B4,wn];exact hp,fun _=>rfl,fun _ ⟨qs,hqs⟩=>wh hqs (hnt qs)⟩
 obtain⟨vs,hvs1,hvs2,hvs3⟩:=hvs;obtain⟨F1,g1,g2,g3⟩:=handed (st:=st') hw.rel.sr hvs1;have hob:∀id,Ea (AK.obj ⟨0,.leaf,st'.ob,0⟩ id) (st'.obj id):=fun id=>Ea.refl _
 have hres:=g3 sp.outs _ (by rw[Mr hob];exact hy);refine⟨F1,fun b cs hb=>g2 b cs (hw.le.fz b cs hb),fun b cs hb=>(g1.fo b cs hb).imp_right (fun h=>h.resolve_right (fun e=>e)),g1.frz,Oo.2 ⟨vs,hres,?_⟩⟩;have hlen:sp.outs.length=(KJ sp.outs r).length:=Ox hy;have hl2:=hvs1.len;by_cases ho:∃a,sp.outs=[a]
 ·rw[hvs2 ho]
 ·have hne:∀a,sp.outs≠[a]:=fun a ha=>ho ⟨a,ha⟩
  have hn1:sp.outs.length≠1:=fun e=>by
   obtain⟨a,ha⟩:=List.length_eq_one_iff.1 e;exact hne a ha
  have ht:∃qs,r=.tup qs:=by
   cases r with
   |tup qs=>exact⟨qs,rfl⟩
   |_=>
    exfalso;apply hn1;rw[hlen];unfold KJ;split<;>rfl
  rw[hvs3 hne ht];split
  ·rename_i u;exact wh (hlen.trans hl2) hn1
  ·rfl
end
section
variable {X:A6}{Q Q':PV->Ob->Prop}
theorem Ends.leaf{v:PV}{ob:Ob}(h:Q v ob):Ends X (.leaf v ob) Q:=⟨0,.leaf h⟩
theorem Ends.ite{c:Bool}{a b:Tr}(h1:c=true->Ends X a Q)(h2:c=false->Ends X b Q):Ends X (.ite c a b) Q:=by
 cases c with
 |true=>obtain⟨n,h⟩:=h1 rfl;exact⟨n,.ite (fun _=>h) (fun e=>by cases e)⟩
 |false=>obtain⟨n,h⟩:=h2 rfl;exact⟨n,.ite (fun e=>by cases e) (fun _=>h)⟩
theorem Ends.tt{c:Bool}{a b:Tr}(hc:c=true)(h:Ends X a Q):Ends X (.ite c a b) Q:=Ends.ite (fun _=>h) (fun e=>by rw[hc]at e;cases e)
theorem Ends.ff{c:Bool}{a b:Tr}(hc:c=false)(h:Ends X b Q):Ends X (.ite c a b) Q:=Ends.ite (fun e=>by rw[hc]at e;cases e) (fun _=>h)
def stepT(X:A6):Tr->Tr
 | .loop nd ro d f base b st k=>body X nd ro d f base b st k
 | .cut nd ro d f base b st k=>AN X nd ro d f base b st k
 |t=>t
theorem Ends.step{t:Tr}(h:Ends X (stepT X t) Q):Ends X t Q:=by
 cases t with
 |loop=>obtain⟨n,h⟩:=h;exact⟨n+1,.loop h⟩
 |cut=>obtain⟨n,h⟩:=h;exact⟨n,.cut h⟩
 |_=>exact h
theorem Ends.eq{t t':Tr}(e:t=t')(h:Ends X t' Q):Ends X t Q:=e▸h
theorem Ends.Aq{t t':Tr}(e:stepT X t=t')(h:Ends X t' Q):Ends X t Q:=Ends.step (e▸h)
def Tr.L:Tr->Tr
 | .ite _ a _=>a
 | .both a _=>a
 |t=>t
def Tr.R:Tr->Tr
 | .ite _ _ b=>b
 | .both _ b=>b
 |t=>t
def re:Tr->AK->Tr
 | .loop nd ro d f base b _ k,st=>.loop nd ro d f base b st k
 | .cut nd ro d f base b _ k,st=>.cut nd ro d f base b st k
 |t,_=>t
def V1:List (FuncId×Ap)->FuncId->Option Ap
 |[],_=>none
 |(g,s)::l,f=>bif zk g f then some s else V1 l f
def Aaj:List (FuncId×List Nat)->FuncId->Nat->Bool
 |[],_,_=>false
 |(g,t)::l,f,r=>bif zk g f then t.any (zk r)else Aaj l f r
def zO:List (FuncId×List (Nat×List (Nat×Sh)))->FuncId->Nat->List (Nat×Sh)
 |[],_,_=>[]
 |(g,t)::l,f,r=>bif zk g f then fz1 t r else zO l f r
 where fz1:List (Nat×List (Nat×Sh))->Nat->List (Nat×Sh)
 |[],_=>[]
 |(i,s)::l,r=>bif zk i r then s else fz1 l r
def xF:List (FuncId×List (Nat×List Nat))->FuncId->Nat->List Nat
 |[],_,_=>[]
 |(g,t)::l,f,r=>bif zk g f then pl1 t r else xF l f r
 where pl1:List (Nat×List Nat)->Nat->List Nat
 |[],_=>[]
 |(i,s)::l,r=>bif zk i r then s else pl1 l r
end
section
open Go.Proofs.Tryz (prog)
def Oq(C:Ctx)(q:W6):Ctx:=⟨C.T,C.ng,C.fn,C.prim,q,false⟩
theorem TD{C:Ctx}{P:Program}(hC:C.Ok P){q:W6}(h:KZ P q):(Oq C q).Ok P where
 T:=hC.T
 fn:=hC.fn
 prim:=hC.prim
 spec:=h
theorem O8{C:Ctx}(hce:Gz C)(q:W6):Gz (Oq C q):=hce
def Bi:Ctx:=Oq C7 (yS fmtS (yS dG (yS S2 (Kb A7))))
theorem xR:Bi.Ok prog:=TD X8 (Sq pR (Sq cG (Sq Wl spA)))
theorem Zo:Gz Bi:=O8 Lb _
def Aag:List (FuncId×List (Nat×List Nat)):=
 [(4,[(28,[1,2,7,8,11,12,22,23,180,181]),(27,[1,2,7,8,11,12,22,23,180,181]),(24,[0,1,2,7,8,11,12]),(18,[0,1,2,7,8,11,12]),(16,[0,1,2,7,8,9,11,12]),(12,[0,1,2,7,8,9,52,53]),(10,[0,1,2,7,8,9,10,52,53]),(7,[0,1,2,7,8,9,52,53]),(6,[0,1,2,7,8,9,52,53]),(3,[0,1,2])]),
 (9,[(7,[0,3]),(8,[0,3]),(6,[0,3]),(5,[0]),(3,[0])]),
 (11,[(17,[12,14]),(10,[0,7,8,9]),(4,[0])]),
 (12,[(4,[0,1,2])]),
 (15,[(3,[0,3]),(4,[0,3]),(2,[0,3])]),
 (19,[(5,[0,1])]),
 (20,[(5,[0,1])]),
 (51,[(16,[]),(11,[3,4]),(9,[3,4]),(7,[3,4]),(4,[0,3])]),
 (55,[(10,[13,14,15]),(6,[13,14,15]),(5,[13,14,15]),(4,[0])]),
 (57,[(4,[1,4,5,9,10,11]),(3,[1,4,5,9,10,11])]),
 (68,[(6,[5,6,7]),(3,[5,6,7]),(2,[5,6,7])]),
 (69,[(9,[5,6,7]),(6,[5,6,7,8])]),
 (71,[(3,[2,3,4])]),
 (76,[(5,[0,4]),(3,[0,3,4])]),
 (78,[(4,[3,9,10,11]),(3,[3,9,10,11])]),
 (80,[(15,[8,9]),(13,[6,8,9]),(10,[5,6,7]),(7,[5,6]),(4,[5])]),
 (81,[(13,[6]),(10,[0,1,6]),(5,[0,1]),(3,[0,1])]),
 (83,[(9,[8,10]),(3,[2,3])]),
 (127,[(3,[0,3]),(4,[0,3]),(2,[0,3])]),
 (129,[(2,[0,1]),(1,[0,1])]),
 (132,[(11,[2,4]),(5,[0,2,3,4]),(4,[0,2,3,4])]),
 (135,[(5,[2,3,4]),(3,[2,3,4])]),
 (142,[(6,[5,6,7]),(3,[5,6,7]),(2,[5,6,7])]),
 (144,[(3,[2,3,4]),(2,[2,3,4])]),
 (149,[(4,[1,4,5,9,10,11]),(3,[1,4,5,9,10,11])]),
 (151,[(5,[0,3,4]),(3,[0,3,4])]),
 (152,[(7,[0,2,3,4,5]),(4,[0,2,3,4]),(3,[0,2,3,4])]),
 (153,[(2,[0,1]),(1,[0,1])]),
 (154,[(3,[0,1,5]),(2,[0,1,5])]),
 (155,[(6,[0,2,3,4]),(5,[0,2,3,4]),(4,[0,2,3])]),
 (157,[(15,[8,9,10,11,12,13]),(39,[8,9,10,11,12,13,14]),(35,[8,9,10,11,12,13,14,19,20]),(33,[8,9,10,11,12,13,14,19,20]),(20,[8,9,10,11,12,13,14,15,16]),(27,[8,9,10,11,12,13,14,15,16,18]),(21,[8,9,10,11,12,13,14,15,16]),(19,[8,9,10,11,12,13,14,15,16]),(16,[8,9,10,11,12,13]),(14,[8,9,10,11,12,13]),(11,[0,8,9,10,11]),(10,[0,8,9,10,11]),(6,[0,1]),(3,[0,1])]),
 (158,[(10,[3]),(7,[1,3,4]),(5,[1,3,4]),(3,[1])]),
 (160,[(6,[0,1,5,6,7]),(4,[0,1,5,6,7])]),
 (161,[(7,[0,1,5]),(10,[0,1,5]),(8,[0,1,5]),(6,[0,1,5]),(5,[0,1]),(4,[])]),
 (162,[(5,[0,1,5,6,7]),(11,[0,1,5,6,7,8]),(6,[0,1,5,6,7]),(4,[0,1,5,6,7])]),
 (163,[(9,[0,1,5,6,7,8]),(7,[0,1,5,6,7,8]),(5,[0,1,5,6]),(3,[0,1,5,6])]),
 (180,[(3,[0,3]),(4,[0,3]),(2,[0,3])]),
 (185,[(3,[1,2,4,5]),(6,[1,2,4,5]),(4,[1,2,4,5]),(2,[1,2,4,5])]),
 (186,[(3,[2,3,4])]),
 (191,[(8,[1,5,6,7,8,20,21,22,27,28,29]),(7,[1,5,6,7,8,20,21,22,27,28,29]),(4,[1,5,20,21,22]),(3,[1,5,20,21,22])]),
 (193,[(21,[6,10,11]),(19,[6,10,11]),(18,[6,10]),(13,[3,5,6,7,9]),(11,[3,5,6,7,9]),(7,[3,4,5,6]),(6,[3,4,5,6]),(3,[1])]),
 (197,[(12,[4,5,14,15]),(6,[2,3,4,5]),(5,[4,5,6,7])]),
 (198,[(12,[0,1,5,6,21,22]),(11,[0,1,5,6,7,8,21,22]),(7,[0,1,5,6,21,22]),(6,[0,1,5,6,21,22]),(3,[0,1])]),
 (199,[(7,[0,1,5]),(11,[]),(8,[0,1,5]),(6,[0,1,5]),(5,[0,1]),(4,[])]),
 (200,[(10,[0,1,5,6,13,14]),(9,[0,1,5,6,7,8,13,14]),(5,[0,1,5,6,13,14]),(4,[0,1,5,6,13,14])]),
 (201,[(6,[0,1,6,7,8]),(4,[0,1,6,7,8])]),
 (202,[(2,[0]),(1,[0])]),
 (203,[(5,[0,1,2,7,9,10]),(4,[0,1,2,7,9,10])]),
 (215,[(20,[0]),(19,[6]),(16,[5,6,47,48,49]),(15,[5,6,8,47,48,49]),(11,[5,6,47,48,49]),(10,[5,6,47,48,49]),(8,[0,5])]),
 (218,[(3,[0,3]),(2,[0,3])]),
 (221,[(26,[9,11,12,13,96,97]),(22,[9,11,12,13,96,97]),(21,[9,11,12,13,96,97]),(19,[9,10,11,12,13,14]),(17,[9,10,11,12,13,14]),(11,[0,1]),(9,[0,1,6,7,8]),(7,[0,1,6,7,8]),(3,[0,1])]),
 (228,[(3,[0,2,4]),(7,[0,2,4,5]),(4,[0,2,4]),(2,[0,2,4])]),
 (229,[(3,[0,1]),(2,[0,1]),(1,[0,1])]),
 (230,[(3,[0,1]),(2,[0,1]),(1,[0,1])]),
 (255,[(25,[2,8,9,10,14,15,16,17,18]),(24,[2,8,9,10,14,15,16,17,18]),(18,[2,8,9,10,11,13,14,15,16]),(17,[2,8,9,10,11,13,14,15,16]),(7,[0,1,2]),(5,[0,1,2]),(3,[0,1,2])]),
 (257,[(8,[1,5,12,13,14]),(4,[1,5,12,13,14]),(3,[1,5,12,13,14])]),
 (258,[(29,[0,1,5,6,17,156,157]),(28,[0,1,5,6,17,156,157]),(26,[0,1,5,6]),(16,[0,1,5,6,11,12,104,105]),(15,[0,1,5,6,11,12,104,105]),(11,[0,1,5,6,7]),(9,[0,1,5,6,7]),(8,[0,1,5,6,7,8])])]
def xA:List FuncId:=[286]
theorem YN:∀g∈xA,Bi.prim g=some PK.noEsc.run:=fun g h=>by
 cases h with
 |head=>kernel_rfl
 |tail _ h=>cases h
def X7(l:List (FuncId×Ap)):A6:=⟨Bi,V1 l,xF Aag,fun _ _=>false,fun _ _=>[],fun _=>none,xA,YN⟩
def aY(cs:List (FuncId×List Nat))(fz:List (FuncId×List (Nat×List (Nat×Sh))))(t:List (FuncId×List (Nat×List Nat)))(l:List (FuncId×Ap)):A6:=⟨Bi,V1 l,xF (t++Aag),Aaj cs,zO fz,fun _=>none,xA,YN⟩
end
end Go.Pe
namespace Go.Sp
def first:List Int->Int
 |[]=>0
 |x::l=>if x≠0 then x else first l
def LJ(c:Bool)(e:Int):Int:=bif c then e else 0
end Go.Sp
namespace Go.Pe
open Go.Det
abbrev i64:Sh:=.int .i64
abbrev Abf:Sh:=.list (.int .i64)
def J0:Ap:=⟨[Abf],fun l=>decide (l.length<=1000000),[i64],fun l=>Sp.first l,false⟩
def QX:Ap:=⟨[.bool,i64],fun _=>true,[i64],fun i=>Sp.LJ i.1 i.2,false⟩
def zB:A6:=X7 []
section
variable {X:A6}{Q:PV->Ob->Prop}
@[simp] theorem yJ:Ends X .fail Q↔False:=⟨fun⟨_,h⟩=>zh h,fun h=>h.elim⟩
@[simp] theorem Zu{v:PV}{ob:Ob}:Ends X (.leaf v ob) Q↔Q v ob:=⟨fun⟨_,h⟩=>h.XZ,fun h=>.leaf h⟩
@[simp] theorem KW{c:Bool}{a b:Tr}:Ends X (.ite c a b) Q↔if c=true then Ends X a Q else Ends X b Q:=by
 constructor
 ·rintro⟨n,h⟩;rcases h.EM with⟨hc,h⟩|⟨hc,h⟩
  ·rw[wd hc];exact⟨n,h⟩
  ·rw[wc (by simp[hc])];exact⟨n,h⟩
 ·intro h;refine .ite (fun hc=>?_) (fun hc=>?_)
  ·rwa [wd hc]at h
  ·rwa [wc (by simp[hc])]at h
theorem Ad.of{sp:Ap}{i:(BG sp.ins).T}{v:PV}{ob:Ob}{c:Bool}{y:(BG sp.outs).T}(h:YT sp.outs v ob=some (c,y))(hc:c=true)(hy:y=sp.f i):Ad sp i v ob:=⟨y,by rw[h,hc],hy⟩
@[simp] theorem Ww(s:Sh)(x:List s.T):LD (Sh.leaves (.list s)) [.dat (.list s) x]=(true,[.dat (.list s) x]):=rfl
theorem wr(x:Int)(h1: -9223372036854775808<=x)(h2:x<=9223372036854775807):IntKind.wrap .i64 x=x:=IntWalk.i64_in x ⟨h1,h2⟩
theorem drop_cons{α:Type}{l r:List α}{x d:α}{i:Nat}(h:l.drop i=x::r):i<l.length/\l.getD i d=x/\l.drop (i+1)=r:=by
 have hlt:i<l.length:=by
  rcases Nat.lt_or_ge i l.length with h1|h1
  ·exact h1
  ·rw[List.drop_eq_nil_of_le h1]at h;cases h
 have h2:=List.drop_eq_getElem_cons hlt;rw[h]at h2;simp only[zp]at h2;exact⟨hlt,by simp[hlt,h2.1],h2.2.symm⟩
end
theorem jW:∀g sp,zB.sp g=some sp->Ag Bi g sp:=fun g sp h=>by cases h
abbrev Ey(X:A6):Prop:=∀g sp,X.sp g=some sp->Ag Bi g sp
theorem MN{X:A6}(hX:X.C=Bi)(hall:∀g sp,X.sp g=some sp->Ag Bi g sp){f:FuncId}{sp:Ap}{d:Nat}(hsp:Bi.spec f=none)(hprim:Bi.prim f=none)(hno:X.sp f=none)
  (hev:∀i,sp.pre i=true->Ends X (tree X sp.nd d f (Af sp.ins i)) (Ad sp i)) (hfn:∃i,Bi.fn f=some i) (hws:∀g w,X.ws g=some w->Li Bi g w:=by intro _ _ h;cases h):Ag Bi f sp:=by
 have hmg:X.C.mg=false:=by rw[hX];rfl
 rw[<-hX]at*;exact ZR hmg hall hws hsp hprim hno hev hfn
theorem BD{α:Type}{o:Option α}(h:o.isSome=true):∃i,o=some i:=zz.1 h
theorem Cc{X:A6}(hall:Ey X){f:FuncId}{sp:Ap}(hev:∀i,sp.pre i=true->Ends X (tree X sp.nd 9 f (Af sp.ins i)) (Ad sp i))(hX:X.C=Bi:=by rfl)(hsp:Bi.spec f=none:=by kernel_rfl)(hprim:Bi.prim f=none:=by kernel_rfl)(hno:X.sp f=none:=by kernel_rfl)(hfn:(Bi.fn f).isSome=true:=by kernel_rfl)(hws:∀g w,X.ws g=some w->Li Bi g w:=by intro _ _ h;cases h):Ag Bi f sp:=MN hX hall hsp hprim hno hev (BD hfn) hws
theorem drop_nil{α:Type}{l:List α}{i:Nat}(h:l.drop i=[])(hi:i<=l.length):i=l.length:=by
 have:=wi List.length h;simp at this;omega
theorem N5{α:Type}{l r:List α}{x:α}{i:Nat}(h:l.drop i=x::r):x∈l:=by
 have:x∈l.drop i:=by rw[h];simp
 exact List.mem_of_mem_drop this
theorem Mu{α:Type}{l r:List α}{x:α}{i:Nat}(h:l.drop i=x::r):l.take (i+1)=l.take i++[x]:=by
 have h1:=(drop_cons (d:=x) h).1;have h2:=(drop_cons (d:=x) h).2.1;rw[List.take_add_one];congr 1;have:l[i]?=some x:=by
  have e:=List.getElem?_eq_getElem h1;rw[e];simp only[List.getD,e,Option.getD_some]at h2;rw[h2]
 rw[this];rfl
theorem AU{C:Ctx}:∀g sp,V1 [] g=some sp->Ag C g sp:=fun g sp h=>by cases h
theorem Ab{C:Ctx}{g0:FuncId}{s0:Ap}{l:List (FuncId×Ap)}(h0:Ag C g0 s0)(hl:∀g sp,V1 l g=some sp->Ag C g sp):∀g sp,V1 ((g0,s0)::l) g=some sp->Ag C g sp:=by
 intro g sp h;unfold V1 at h;cases h1:zk g0 g with
 |true=>rw[h1]at h;cases h;have:=zm h1;subst this;exact h0
 |false=>rw[h1]at h;exact hl g sp h
theorem GO{f:FuncId}{s t:List Sh}{g:(BG s).T->(BG t).T}{nd:Bool}(hprim:Bi.prim f=none)(hfn:∃i,Bi.fn f=some i):Ag Bi f ⟨s,fun _=>false,t,g,nd⟩:=
 .of0 ⟨hprim,hfn,fun F h args i _ _ _ _ hp=>by cases hp⟩
theorem DD{α:Type}(A B:List α)(x d:α){n:Nat}(h:A.length=n):(A++x::B).getD n d=x:=by
 subst h;simp[List.getD]
theorem Dx{α:Type}(A B:List α)(x y:α){n:Nat}(h:A.length=n):(A++x::B).set n y=A++y::B:=by
 subst h;simp
end Go.Pe
namespace Go.Sp
open Go.Pe (EK imax)
theorem gF(a b:Int):EK a b=min a b:=by unfold EK;split<;>omega
end Go.Sp
namespace Go.Sp
abbrev Ai:Nat:=18446744073709551616
abbrev AT:=Int×List Int
def CO(l:List Int):Bool:=decide (l.length<=20000)&&l.all fun d=>decide (0<=d)&&decide (d<18446744073709551616)
def hW(l:List Int):Bool:=CO l&&decide (l.length<=9000)
def wJ(l:List Int):Bool:=decide (l.getLast?≠some 0)
def Cf(l:List Int):Bool:=CO l&&wJ l
def Am(l:List Int):Int:=val Ai l
def Bw(n:Int):List Int:=dg Ai n
def u64(n:Int):Bool:=decide (0<=n)&&decide (n<18446744073709551616)
def CM(n:Int):Bool:=decide (-9223372036854775808<=n)&&decide (n<9223372036854775808)
def Ae(n:Int):Int:=if n<0 then -n else n
theorem Ah(n:Int):Ae n=(n.natAbs:Int):=by unfold Ae;split<;>omega
def vI(a:AT):Int:=if a.2=[]then a.1 else if a.1<0 then -Am a.2 else Am a.2
def Dp(a:AT):Bool:=CM a.1&&(decide (a.2=[])||(Cf a.2&&(decide (a.1=1)||decide (a.1= -1))&&decide (9223372036854775808<=Am a.2)))
def CI(n:Int):AT:=if -9223372036854775808<n/\n<9223372036854775808 then(n,[])else(if n<0 then -1 else 1,Bw (Ae n))
def CE(n:Int):Int:=(CI n).1
def CC(n:Int):List Int:=(CI n).2
def sg(neg:Bool)(v:Int):Int:=if neg=true then -v else v
def HW(x y c:Int):Int:=(x+y+c) % 18446744073709551616
def NX(x y c:Int):Int:=(x+y+c)/18446744073709551616
def Tl(x y c:Int):Int:=(x-y-c) % 18446744073709551616
def Qj(x y c:Int):Int:=if x<y+c then 1 else 0
def Ih(x y:Int):Int:=(x*y) % 18446744073709551616
def QH(x y:Int):Int:=(x*y)/18446744073709551616
def Co(a b:Int):Int:=if a<b then -1 else if a>b then 1 else 0
def Ou(n:Int):Int:=if n<0 then -1 else if n>0 then 1 else 0
def EC(a b:AT):AT:=if a.2=[]/\b.2=[]/\CM (a.1+b.1)=true then(a.1+b.1,[])else CI (vI a+vI b)
def De(a:AT):AT:=if a.2=[]/\a.1≠ -9223372036854775808 then(-a.1,[])else CI (-vI a)
def Uu(a:AT):AT:=if a.1<0 then De a else a
def Ni(a b:AT):AT:=EC a (De b)
def F6(a b:AT):AT:=CI (vI a*vI b)
def Ef(a:AT):Int:=(De a).1
def Em(a:AT):List Int:=(De a).2
def O6(a:AT):Int:=(Uu a).1
def PZ(a:AT):List Int:=(Uu a).2
def IX(a b:AT):Int:=(EC a b).1
def Ip(a b:AT):List Int:=(EC a b).2
def cR(a b:AT):Int:=(Ni a b).1
def jU(a b:AT):List Int:=(Ni a b).2
def FD(a b:AT):Int:=(F6 a b).1
def FT(a b:AT):List Int:=(F6 a b).2
end Go.Sp
namespace Go.Pe
open Sp
open Go.Det
abbrev BN:Sh:=.pair (.int .i64) (.nlist (.int .u64))
abbrev u64:Sh:=.int .u64
abbrev Dq:Sh:=.list (.int .u64)
def Wy:Ap:=⟨[u64,u64,u64],fun i=>Sp.u64 i.1&&Sp.u64 i.2.1&&decide (0<=(i.2.2:Int))&&decide ((i.2.2:Int)<=1),[u64,u64],fun i=>(HW i.1 i.2.1 i.2.2,NX i.1 i.2.1 i.2.2),false⟩
def WG:Ap:=⟨[u64,u64,u64],fun i=>Sp.u64 i.1&&Sp.u64 i.2.1&&decide (0<=(i.2.2:Int))&&decide ((i.2.2:Int)<=1),[u64,u64],fun i=>(Tl i.1 i.2.1 i.2.2,Qj i.1 i.2.1 i.2.2),false⟩
def S7:Ap:=⟨[u64,u64],fun i=>Sp.u64 i.1&&Sp.u64 i.2,[u64,u64],fun i=>(QH i.1 i.2,Ih i.1 i.2),false⟩
def WN:Ap:=⟨[i64],fun n=>CM n,[u64],fun n=>Ae n,false⟩
def Pv:Ap:=⟨[BN],fun a=>Sp.Dp a,[.bool,Dq],fun a=>(decide (Sp.vI a<0),Bw (Ae (Sp.vI a))),false⟩
def eA:Ap:=⟨[.bool,Dq],fun i=>Cf i.2,[BN],fun i=>(CE (Sp.sg i.1 (Am i.2)),CC (Sp.sg i.1 (Am i.2))),false⟩
def Xe:Ap:=⟨[Dq],fun l=>CO l,[Dq],fun l=>Av l,false⟩
def YE:Ap:=⟨[Dq,Dq],fun i=>Cf i.1&&Cf i.2,[i64],fun i=>Co (Am i.1) (Am i.2),false⟩
def fR:Ap:=⟨[Dq,Dq],fun i=>Sp.hW i.1&&Sp.hW i.2,[Dq],fun i=>Bw (Am i.1+Am i.2),false⟩
def cJ:Ap:=⟨[Dq,Dq],fun i=>CO i.1&&CO i.2&&decide (Am i.2<=Am i.1),[Dq],fun i=>Bw (Am i.1-Am i.2),false⟩
def fK:Ap:=⟨[Dq,Dq],fun i=>Sp.hW i.1&&Sp.hW i.2,[Dq],fun i=>Bw (Am i.1*Am i.2),false⟩
def cS:A6:=X7 []
def Lt:A6:=X7 [(188,WN),(217,Wy),(233,WG),(218,Xe),(187,S7)]
def XI2:A6:=X7 [(189,Pv),(190,eA),(198,fR),(200,cJ),(199,YE),(191,fK),(187,S7),(188,WN)]
theorem Q6{F:Fz}{x y c:Int}{args:List V}(h:MF F (Af [Pe.u64,Pe.u64,Pe.u64] (x,y,c)) args):args=[.int .u64 x,.int .u64 y,.int .u64 c]:=by
 have:=h (fun _=>none) 0;simp only[Af,Cd,Bd]at this;obtain⟨a,as1,rfl,h1,b,as2,rfl,h2,d,as3,rfl,h3,rfl⟩:=this;simp only[PR,DC,zp,wn]at h1 h2 h3;rw[h1,h2,h3]
theorem A2{n:Int}(h:Sp.u64 n=true):0<=n/\n<18446744073709551616:=by
 unfold Sp.u64 at h;rw[zd,w5,w5]at h;exact h
namespace T217
theorem ok:Ag Bi 217 Wy:=by
 refine .inr ⟨PK.add64.run,by kernel_rfl,fun F h args i ha hp=>?_⟩;obtain⟨x,y,c⟩:=i;have hp:(Sp.u64 x&&Sp.u64 y&&decide (0<=c)&&decide (c<=1))=true:=hp;rw[zd,zd,zd,w5,w5]at hp;obtain⟨⟨⟨hx,hy⟩,c0⟩,c1⟩:=hp;have hx:=A2 hx;have hy:=A2 hy;have:=Q6 ha;subst this;obtain⟨a,rfl⟩:=zg hx.1;obtain⟨b,rfl⟩:=zg hy.1;obtain⟨d,rfl⟩:=zg c0;have c1:(d:Int)<=1:=c1;have hd:yd d 1=true:=Nat.ble_eq_true_of_le (by omega);refine⟨.tup [.int .u64 (.ofNat ((a+b+d) % aX)),.int .u64 (.ofNat ((a+b+d)/aX))],?_,fun ρ N=>?_⟩
 ·show(bif yd d 1 then _ else _)=_;rw[hd];rfl
 ·show PR F ρ N (.tup [.dat Pe.u64 (HW a b d),.dat Pe.u64 (NX a b d)]) _;simp only[PR,Bd];refine⟨_,rfl,_,_,rfl,?_,_,_,rfl,?_,rfl⟩<;>simp[DC,aX,HW,NX]
end T217
namespace T233
theorem ok:Ag Bi 233 WG:=by
 refine .inr ⟨PK.sub64.run,by kernel_rfl,fun F h args i ha hp=>?_⟩;obtain⟨x,y,c⟩:=i;have hp:(Sp.u64 x&&Sp.u64 y&&decide (0<=c)&&decide (c<=1))=true:=hp;rw[zd,zd,zd,w5,w5]at hp;obtain⟨⟨⟨hx,hy⟩,c0⟩,c1⟩:=hp;have hx:=A2 hx;have hy:=A2 hy;have:=Q6 ha;subst this;obtain⟨a,rfl⟩:=zg hx.1;obtain⟨b,rfl⟩:=zg hy.1;obtain⟨d,rfl⟩:=zg c0;have c1:(d:Int)<=1:=c1;have hd:yd d 1=true:=Nat.ble_eq_true_of_le (by omega);refine⟨.tup [.int .u64 (.ofNat ((a+aX-b-d) % aX)),.int .u64 (.ofNat (bif zx a (b+d)then 1 else 0))],?_,fun ρ N=>?_⟩
 ·show(bif yd d 1 then _ else _)=_;rw[hd];rfl
 ·show PR F ρ N (.tup [.dat Pe.u64 (Tl a b d),.dat Pe.u64 (Qj a b d)]) _;simp only[PR,Bd];refine⟨_,rfl,_,_,rfl,?_,_,_,rfl,?_,rfl⟩
  ·simp only[DC,aX,Tl,zp,V.int.injEq,wn,true_and];have e:(((a+18446744073709551616-b-d) % 18446744073709551616:Nat):Int)=((a:Int)-b-d) % 18446744073709551616:=by omega
   exact e
  ·simp only[DC,Qj,zp,V.int.injEq,wn,true_and];rw[GX];by_cases hlt:a<b+d
   ·rw[wd (by omega)];simp[hlt]
   ·rw[wc (by omega)];simp[hlt]
end T233
end Go.Pe
