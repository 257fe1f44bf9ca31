import Derived.Test.YtlohiljbghionaaGreatDoorX08
import Derived.Test.YtlohiljbghionaaGreatDoorX07
import Derived.Test.YtlohiljbghionaaGreatDoorX04
import Derived.IntWalk
/- A part of a proof (no law is stated here). Made by program out of texts by AI agents. -/
noncomputable section
open List renaming mem_singleton -> zc, getElem?_eq_some_iff -> zf, nodup_nil -> zk, all_cons -> zn, mem_append -> zp, any_eq_true -> zz, map_cons -> yb, mem_cons -> yc, mem_map -> ye
open Nat renaming le_refl -> zd, lt_of_lt_of_le -> zh, le_trans -> zi, beq -> zj, eq_of_beq_eq_true -> zl, le_of_ble_eq_true -> zq, add -> zx, blt -> z6, beq_refl -> yd
open Bool renaming and_eq_true -> ze, and_true -> zr
open Go.Pe.Ev renaming AF -> zg
open Option.some renaming injEq -> zm
open Go.Pe.PV renaming cells -> zo
open Go.Pe.Le renaming refl -> zt
open Go.Sp renaming mark -> zu
open Go.Pe renaming apart -> zw
open Option renaming isSome_iff_exists -> zy, map_eq_some_iff -> z7
open List.cons renaming injEq -> z8
open Go.Det.V renaming beq -> ya
namespace Go.Pe
open Go.Det
section
variable {B:Nat}{h0:H0}{F:Fz}{ρ:Ex}{N:Nat}{X:AV}{st st':AM}{fr:Fr}{h h':H}{Q:PV->Ob->Prop}{n:Nat}
mutual
theorem MZ:∀v:V,ya v v=true
 | .bool b=>by simp[ya]
 | .int k n=>by simp[ya]
 | .str s=>by simp[ya]
 | .nilp=>rfl
 | .ptr a i=>by simp[ya]
 | .nils=>rfl
 | .sl a b c d e=>by simp[ya]
 | .esl=>rfl
 | .es0=>rfl
 | .junk=>rfl
 | .nilm=>rfl
 | .map a=>by simp[ya]
 | .yld a=>by simp[ya]
 | .nilf=>rfl
 | .nili=>rfl
 | .fn f a b=>by simp only[ya,Gu a,Gu b,zr,wj]
 | .iface t x=>by simp only[ya,MZ x,zr];exact yd t
 | .agg a=>by simp only[ya];exact Gu a
 | .tup a=>by simp only[ya];exact Gu a
theorem Gu:∀vs:List V,V.Lq vs vs=true
 |[]=>rfl
 |v::vs=>by simp only[V.Lq,MZ v,Gu vs,zr]
end
theorem qC{T:Cc}{t:TypeId}{a x:V}(c:Fv T h t a=some x):∃b off o,a=.ptr b off/\h.get b=some o/\(∀g:H,g.get b=h.get b->Fv T g t a=some x)/\
  ∀(g:H) cs t1 m t2 l,h.get b=some (.cells cs t1 m)->g.get b=some (.cells cs t2 l)->Fv T g t a=some x:=by
 unfold Fv at c;split at c
 case h_2=>cases c
 rename_i b off d i j k;have r:∃o,h.get b=some o:=by
  cases e:h.get b with
  |some o=>exact⟨o,rfl⟩
  |none=>
   unfold rd at c;rw[e]at c;cases Eb d<;>simp at c
 obtain⟨o,q⟩:=r;refine⟨b,off,o,rfl,q,fun g e=>?_,fun g cs t1 m t2 l p s=>?_⟩
 ·unfold Fv;simp only[j,k];unfold rd at c ⊢;rw[e];exact c
 ·unfold Fv;simp only[j,k];unfold rd at c ⊢;rw[p]at c;rw[s];exact c
def SV(C:Ctx)(F:Fz)(bl:List Nat)(h:H)(fr:Fr)(o:Oper)(x:V):Prop:=
 ∀g:H,(∀b cs,F b=some cs->∃t fz,g.get b=some (.cells cs t fz))->(∀b∈bl,g.get b=h.get b)->∃z,GL C fr g o=some (.val x z)
theorem W5:∀ {s:Sh} {x:s.T} {cs:List V} {b:Nat},DC F s x cs->V.map b∉cs
 | .int _,_,_,_,h,hm=>by simp only[DC]at h;subst h;cases zc.1 hm
 | .bool,_,_,_,h,hm=>by simp only[DC]at h;subst h;cases zc.1 hm
 | .str,_,_,_,h,hm=>by simp only[DC]at h;subst h;cases zc.1 hm
 | .list s,l,_,_,h,hm=>by
  simp only[DC]at h;obtain⟨v,rfl,h⟩:=h;obtain rfl:=zc.1 hm;rcases h with⟨_,h|h|h⟩|⟨b,off,cap,o,e,h,_⟩<;>cases h
 | .pair a b,x,_,_,h,hm=>by
  simp only[DC]at h;obtain⟨c,d,rfl,i,g⟩:=h;rcases zp.1 hm with hm|hm
  ·exact W5 i hm
  ·exact W5 g hm
 | .unit,_,_,_,h,hm=>by simp only[DC]at h;subst h;cases hm
 | .fnv,x,_,_,h,hm=>by simp only[DC]at h;subst h;have:=zc.1 hm;revert this;cases (x:Option Fn)<;>intro h<;>cases h
 | .ptr _,x,_,_,h,hm=>by simp only[DC]at h;obtain⟨b,o,e,rfl,_⟩:=h;cases zc.1 hm
 | .nlist s,l,_,_,h,hm=>by
  simp only[DC]at h;obtain⟨v,rfl,h⟩:=h;obtain rfl:=zc.1 hm;rcases h with⟨_,h⟩|⟨_,b,off,cap,o,e,h,_⟩<;>cases h
theorem X9{s:Sh}{x:s.T}{b:Nat}(hp:PR F ρ N (.dat s x) (.map b)):False:=by
 simp only[PR]at hp;exact W5 hp<|zc.2 rfl
theorem Xu{b:Nat}(hp:PR F ρ N .nil (.map b)):False:=by
 simp only[PR]at hp;cases hp
theorem nE(hr:SR B h0 F ρ st.nx st.ob h){o:Oper}{c:Call}(i:o.op=.call c)(e:c.callee=.builtin .len){id sz off len:Nat}{cap:Option Nat}(g:MW st c.args.toList=some [.sl id sz off len cap]){u:PV}{s:AM}
  (a:(pop o.op X.C.T st).To u s) {b:Nat} (hp:PR F ρ st.nx (.sl id sz off len cap) (.map b)):False:=by
 rw[i]at a;simp only[pop,TB,g,e,II,tF,VT,yb,List.map_nil,lz]at a;split at a
 case h_2=>simp at a
 rename_i t x _ d;cases d;split at a
 case h_3=>
  rename_i d;cases d;cases j:IC (st.obj id)with
  |false=>rw[j]at a;simp at a
  |true=>
   obtain⟨b',n,k⟩:=hr.live j;simp only[PR]at hp;rcases hp.2 b' n k with⟨_,_,o,_,h⟩|⟨_,_,_,h|⟨_,h,_⟩⟩<;>cases h
 all_goals first|(simp at a;done)|(rename_i d;cases d;done)|(rename_i d _;cases d)
theorem QV{T:Cc}{ts:Array TypeId}{a:V}{g:H}(c:∀b,a≠ .map b)(h:H):Gr T g ts [a]=Gr T h ts [a]:=by
 unfold Gr;cases ts[0]? with
 |none=>rfl
 |some t=>
  simp only;cases T.und t with
  |none=>cases a<;>rfl
  |some d=>cases d<;>cases a<;>first|rfl|(rename_i b;exact wh rfl (c b))|(rename_i b _;exact wh rfl (c b))|(rename_i b _ _;exact wh rfl (c b))
theorem bT(hr:Rel B h0 F ρ st fr h){o:Oper}{x:V}(D:GL X.C fr h o=some (.val x h)){l:List Nat}(O:tX st o.op=some l)(hto:∃u s,(pop o.op X.C.T st).To u s):
  ∃bl,SV X.C F bl h fr o x/\∀b∈bl,b<h.nx/\∃id∈l,id<st.nx/\∀y,ρ id=some y->y.1=b:=by
 unfold tX at O;rw[Db]at D;unfold G7 at D;split at O
 case h_5=>cases O
 case h_4 t y i ok r=>
  simp only[r]at D;have m:∀g,GL X.C fr g o=(match ev X.C fr y,ev X.C fr i with|some v,some u=>BE g (Fj X.C.T g t v u ok)|_,_=>none):=fun g=>by rw[Db];unfold G7;simp only[r];rfl
  cases P:ev X.C fr y with
  |none=>rw[P]at D;cases D
  |some a=>
   cases hi:ev X.C fr i with
   |none=>rw[P,hi]at D;cases D
   |some u=>
    rw[P,hi]at D;simp only at D;obtain⟨x',q,I⟩:=GI D;cases I;have L:∀g:H,entries g a=entries h a->Fj X.C.T g t a u ok=some x:=by
     intro g K;unfold Fj at q ⊢;rw[K];exact q
    split at O
    case h_3=>cases O
    case h_1=>
     rename_i id hp;obtain⟨Z,E,p⟩:=Co (C:=X.C) hr.fp hp;rw[P]at E;cases E;have hent:∃es,entries h a=some es:=by
      unfold Fj at q;split at q
      case h_2=>cases q
      split at q
      case h_2=>cases q
      rename_i es _ I;exact⟨es,I⟩
     obtain⟨es,I⟩:=hent;cases O;by_cases J:∃b,a=.map b
     ·obtain⟨b,rfl⟩:=J;have M:∃ob,h.get b=some ob:=by
       cases K:h.get b with
       |none=>simp[entries,K]at I
       |some ob=>exact⟨ob,rfl⟩
      obtain⟨ob,M⟩:=M;simp only[PR]at p;refine⟨[b],fun g _ K=>⟨g,?_⟩,fun b' A=>?_⟩
      ·rw[m,P,hi];simp only;rw[L g<|by simp only[entries,K b<|zc.2 rfl]];rfl
      ·cases zc.1 A;refine⟨hr.sr.lt b ob M,id,zc.2 rfl,p.1,fun z W=>?_⟩;have:=p.2 z.1 z.2 W;cases this;rfl
     ·refine⟨[],fun g _ K=>⟨g,?_⟩,fun b' A=>by cases A⟩;rw[m,P,hi];simp only;rw[L g ?_];rfl;cases a<;>first|rfl|(rename_i b;exact wh ⟨b,rfl⟩ J)
    case h_2=>
     rename_i hp;obtain⟨Z,E,p⟩:=Co (C:=X.C) hr.fp hp;rw[P]at E;cases E;simp only[PR]at p;subst p;cases O;refine⟨[],fun g _ K=>⟨g,?_⟩,fun b' A=>by cases A⟩;rw[m,P,hi];simp only;rw[L g rfl];rfl
 case h_1 t y r=>
  simp only[r]at D;have m:∀g,GL X.C fr g o=(match ev X.C fr y with|some v=>BE g (Fv X.C.T g t v)|none=>none):=fun g=>by rw[Db];unfold G7;simp only[r];rfl
  cases P:ev X.C fr y with
  |none=>rw[P]at D;cases D
  |some a=>
   rw[P]at D;simp only at D;obtain⟨x',q,I⟩:=GI D;cases I;obtain⟨b,off,ob,rfl,M,L,hfz⟩:=qC q;have hblt:=hr.sr.lt b ob M;have live:∀id,id<st.nx->(∀z,ρ id=some z->z.1=b)->l=[id]->∃bl,SV X.C F bl h fr o x/\∀b∈bl,b<h.nx/\∃id∈l,id<st.nx/\∀y,ρ id=some y->y.1=b:=by
    rintro id hlt hid rfl;refine⟨[b],fun g _ K=>⟨g,?_⟩,fun b' A=>?_⟩
    ·rw[m,P];simp only;rw[L g<|K b<|zc.2 rfl];rfl
    ·cases zc.1 A;exact⟨hblt,id,zc.2 rfl,hlt,hid⟩
   split at O
   case h_4=>cases O
   case h_1=>
    rename_i id U hp;obtain⟨Z,E,p⟩:=Co (C:=X.C) hr.fp hp;rw[P]at E;cases E;simp only[PR]at p;refine live id p.1 (fun z W=>?_) (by cases O;rfl);have:=p.2 z.1 z.2 W;cases this;rfl
   case h_2=>
    rename_i id sz j U hp;obtain⟨Z,E,p⟩:=Co (C:=X.C) hr.fp hp;rw[P]at E;cases E;simp only[PR]at p;refine live id p.1 (fun z W=>?_) (by cases O;rfl);have:=p.2 z.1 z.2 W;cases this;rfl
   case h_3=>
    rename_i s y' U hp;obtain⟨Z,E,p⟩:=Co (C:=X.C) hr.fp hp;rw[P]at E;cases E;simp only[PR]at p;obtain⟨b',o',cs,I,hF,_⟩:=p;cases I;obtain⟨t1,f1,k1⟩:=hr.sr.frz b cs hF;refine⟨[],fun g K _=>⟨g,?_⟩,fun b' A=>by cases A⟩;obtain⟨t2,f2,k2⟩:=K b cs hF;rw[m,P];simp only;rw[hfz g cs t1 f1 t2 f2 k1 k2];rfl
 case h_2 s d y r=>
  simp only[r]at D;have m:∀g,GL X.C fr g o=(match ev X.C fr y with|some v=>BE g (Gm X.C.T g s d v)|none=>none):=fun g=>by rw[Db];unfold G7;simp only[r];rfl
  have fin:∀a,ev X.C fr y=some a->(∀g,Gm X.C.T g s d a=Gm X.C.T h s d a)->∃bl,SV X.C F bl h fr o x/\∀b∈bl,b<h.nx/\∃id∈l,id<st.nx/\∀y,ρ id=some y->y.1=b:=by
   intro a ha K;rw[ha]at D;simp only at D;obtain⟨x',q,I⟩:=GI D;cases I;exact⟨[],fun g _ _=>⟨g,by rw[m,ha];simp only;rw[K,q];rfl⟩,fun b M=>by cases M⟩
  split at O
  case h_3=>cases O
  case h_1=>
   rename_i k z hp;obtain⟨Z,E,p⟩:=Co (C:=X.C) hr.fp hp;simp only[PR,DC,z8,ve]at p;subst p;exact fin _ E fun g=>by
    unfold Gm;cases X.C.T.und s with
    |none=>rfl
    |some u=>cases X.C.T.und d with
     |none=>cases u<;>rfl
     |some w=>cases u<;>cases w<;>rfl
  case h_2=>
   rename_i z hp;obtain⟨Z,E,p⟩:=Co (C:=X.C) hr.fp hp;simp only[PR,DC,z8,ve]at p;subst p;exact fin _ E fun g=>by
    unfold Gm;cases X.C.T.und s with
    |none=>rfl
    |some u=>cases X.C.T.und d with
     |none=>cases u<;>rfl
     |some w=>cases u<;>cases w<;>rfl
 case h_3 c r=>
  simp only[r]at D;split at O
  case h_5=>cases O
  case h_4=>
   rename_i id G R;obtain⟨Agi,E,p⟩:=Fu (C:=X.C) hr.fp R;simp only[Bf]at p;obtain⟨a,as',rfl,p,rfl⟩:=p;have m:∀g,GL X.C fr g o=BE g (Gr X.C.T g c.argTypes [a]):=fun g=>by rw[Db];unfold G7;simp only[r,G,E];rfl
   simp only[G,E,EA]at D;obtain⟨x',q,I⟩:=GI D;cases I;cases O;by_cases J:∃b,a=.map b
   ·obtain⟨b,rfl⟩:=J;simp only[PR]at p;by_cases M:∃ob,h.get b=some ob
    ·obtain⟨ob,M⟩:=M;refine⟨[b],fun g _ K=>⟨g,?_⟩,fun b' A=>?_⟩
     ·rw[m];have:Gr X.C.T g c.argTypes [.map b]=Gr X.C.T h c.argTypes [.map b]:=by
       unfold Gr;cases c.argTypes[0]? with
       |none=>rfl
       |some t=>
        simp only;cases X.C.T.und t with
        |none=>rfl
        |some d=>cases d<;>first|rfl|simp only[K b<|zc.2 rfl]
      rw[this,q];rfl
     ·cases zc.1 A;refine⟨hr.sr.lt b ob M,id,zc.2 rfl,p.1,fun z W=>?_⟩;have:=p.2 z.1 z.2 W;cases this;rfl
    ·have Y:h.get b=none:=by
      cases K:h.get b with
      |none=>rfl
      |some ob=>exact wh ⟨ob,K⟩ M
     refine⟨[],fun g _ _=>⟨g,?_⟩,fun b' A=>by cases A⟩;obtain⟨uu,s,S⟩:=hto;exfalso;rw[r]at S;simp only[pop,TB,R,G,II,tF,VT,yb,List.map_nil,lz]at S;split at S
     case h_2=>simp at S
     rename_i t x _ I;cases I;split at S
     case h_5=>
      rename_i I;cases I;split at S
      case h_2=>simp at S
      rename_i ks vs l ho;obtain⟨b1,n1,o1,q1,q2,_⟩:=hr.sr.at ho;have:=p.2 b1 n1 q1;cases this;rw[Y]at q2;cases q2
     all_goals first|(simp at S;done)|(rename_i I;cases I;done)|(rename_i I _;cases I)
   ·refine⟨[],fun g _ _=>⟨g,?_⟩,fun b M=>by cases M⟩;rw[m,QV (fun b e=>J ⟨b,e⟩) h,q];rfl
  all_goals
   rename_i G R;obtain⟨Agi,E,p⟩:=Fu (C:=X.C) hr.fp R;simp only[Bf]at p;obtain⟨a,as',rfl,p,rfl⟩:=p;have m:∀g,GL X.C fr g o=BE g (Gr X.C.T g c.argTypes [a]):=fun g=>by rw[Db];unfold G7;simp only[r,G,E];rfl
   simp only[G,E,EA]at D;have hnm:∀b,a≠ .map b:=by
    intro b e;subst e;first
     |exact X9 p
     |exact Xu p
     |(obtain⟨u,s,S⟩:=hto
       exact nE hr.sr r G R S p)
   obtain⟨x',q,I⟩:=GI D;cases I;refine⟨[],fun g _ _=>⟨g,?_⟩,fun b M=>by cases M⟩;rw[m];rw[QV hnm h,q];rfl
structure gP(C:Ctx)(F:Fz)(ρ:Ex)(N:Nat)(h:H)(r:Nat×Option (List Nat))(c:Rc):Prop where
 i:c.i=r.1
 k:∀l,r.2=some l->∃bl,SV C F bl h c.f c.o c.v/\∀b∈bl,b<h.nx/\∃id∈l,id<N/\∀y,ρ id=some y->y.1=b
def XD(C:Ctx)(F:Fz)(ρ:Ex)(N:Nat)(h:H):Rs->List Rc->Prop
 |[],l=>l=[]
 |r::a,l=>∃c cs,l=c::cs/\gP C F ρ N h r c/\XD C F ρ N h a cs
theorem gP.mono{F':Fz}{ρ':Ex}{N':Nat}{r:Nat×Option (List Nat)}{c:Rc}(q:gP X.C F ρ N h r c)(e:Le F ρ N F' ρ' N')(x:h.nx<=h'.nx)
  (s:∀l,r.2=some l->∀b,b<h.nx->(∃id∈l,id<N/\∀y,ρ id=some y->y.1=b)->h'.get b=h.get b):gP X.C F' ρ' N' h' r c:=by
 refine⟨q.i,fun l d=>?_⟩;obtain⟨bl,w,o⟩:=q.k l d;refine⟨bl,fun g t v=>w g (fun b cs z=>t b cs<|e.fz b cs z)<|fun b a=>?_,fun b a=>?_⟩
 ·obtain⟨j,m⟩:=o b a;rw[v b a,s l d b j m]
 ·obtain⟨j,id,m,p,u⟩:=o b a;exact⟨zh j x,id,m,zh p e.n,fun y A=>u y<|e.at p A⟩
theorem XD.mono{F':Fz}{ρ':Ex}{N':Nat}(e:Le F ρ N F' ρ' N')(i:h.nx<=h'.nx)(g:∀b,b<h.nx->h'.get b=h.get b):∀ {a:Rs} {cs:List Rc},XD X.C F ρ N h a cs->XD X.C F' ρ' N' h' a cs
 |[],_,d=>d
 |r::a,_,d=>by
  obtain⟨c,cs,rfl,m,j⟩:=d;exact⟨c,cs,rfl,m.mono e i<|fun l _ b k _=>g b k,XD.mono e i g j⟩
theorem XD.apart{F':Fz}{ρ':Ex}{fr':Fr}{anc:Nat->Nat->Bool}{i:Nat}{t:Option (List Nat)}(hr:Rel B h0 F ρ st fr h)(u:Dy B h0 F ρ st.nx h st' fr' h' F' ρ')
  (O:∀g,t=some g->∀b,b<h.nx->h'.get b=h.get b\/∃id∈g,∃m,ρ id=some (b,m)):
  ∀ {v:Rs} {cs:List Rc},XD X.C F ρ st.nx h v cs->zw anc i st t v=true->cs.all (still X.C anc i h')=true/\XD X.C F' ρ' st'.nx h' (behind st t v) cs
 |[],_,K,_=>by
  cases K;exact⟨rfl,rfl⟩
 |r::v,_,K,p=>by
  obtain⟨c,cs,rfl,w,R⟩:=K;unfold zw at p;rw[zn,ze]at p;obtain⟨h3,h4⟩:=XD.apart hr u O R (by unfold zw;exact p.2);have key:(eJ r.2 t&&Mp st r.2)=true->∀l,r.2=some l->∀b,b<h.nx->(∃id∈l,id<st.nx/\∀y,ρ id=some y->y.1=b)->h'.get b=h.get b:=by
   rintro j l o b x ⟨id,s,L,W⟩;simp only[ze,o]at j;have d:=List.all_eq_true.1 j.2 id s;obtain⟨D,P,M⟩:=hr.sr.live d;obtain rfl:D=b:=W _ M;cases t with
   |none=>
    cases l with
    |nil=>cases s
    |cons a l=>cases j.1
   |some g=>
    rcases O g rfl D x with e|⟨id',T,m,I⟩
    ·exact e
    ·exfalso;obtain⟨o1,Y⟩:=Jp d;have J:∃q,AP st.ob id'=some q:=by
      cases V:AP st.ob id' with
      |some q=>exact⟨q,rfl⟩
      |none=>rw[hr.sr.dead id' V]at I;cases I
     obtain⟨q,J⟩:=J;obtain rfl:=hr.sr.inj id id' o1 q D P m Y J M I;have E:=List.all_eq_true.1 j.1 id s;simp only[Bool.not_eq_true']at E;have S:g.any (zj id)=true:=zz.2 ⟨id,T,yd id⟩;rw[S]at E;cases E
  refine⟨?_,c,cs,rfl,?_,h4⟩
  ·rw[zn,h3,zr];unfold still;rw[w.i];cases G:anc i r.1 with
   |true=>rfl
   |false=>
    rw[G]at p;simp only[Bool.false_or]at p ⊢;have j:=p.1;have o:∃l,r.2=some l:=by
     cases A:r.2 with
     |some l=>exact⟨l,rfl⟩
     |none=>rw[A]at j;simp[eJ]at j
    obtain⟨l,o⟩:=o;obtain⟨bl,s,L⟩:=w.k l o;obtain⟨z,hz⟩:=s h' (fun b cs U=>u.rel.sr.frz b cs<|u.le.fz b cs U)<|fun b x=>key j l o b (L b x).1 (L b x).2;rw[hz];simp only;exact MZ _
  ·show gP X.C F' ρ' st'.nx h' (bif eJ r.2 t&&Mp st r.2 then r else(r.1,none)) c;cases j:(eJ r.2 t&&Mp st r.2)with
   |true=>exact w.mono u.le u.nx<|key j
   |false=>
    exact⟨w.i,fun l o=>by cases o⟩
theorem Pj{C:Ctx}{o:Oper}(j:CB o=true){r:OR}(a:GL C fr h o=some r):∃ob f,fE C fr o=some (ob,f)/\r=.val (f h.nx) (h.push ob):=by
 rw[Db]at a;unfold G7 at a;unfold CB at j;unfold fE;split at j
 case h_4=>cases j
 case h_1 t b=>
  simp only[b]at a ⊢;unfold G8 at a;cases d:C.T.inf t with
  |none=>rw[d]at a;cases a
  |some i=>rw[d]at a;cases a;exact⟨_,_,rfl,rfl⟩
 case h_2 t x b=>
  simp only[b]at a ⊢;cases c:ev C fr x with
  |none=>rw[c]at a;cases a
  |some y=>rw[c]at a;cases a;exact⟨_,_,rfl,rfl⟩
 case h_3 t n ps b=>
  simp only[b]at a ⊢;cases c:Ye C fr ps.toList with
  |none=>rw[c]at a;cases a
  |some y=>
   rw[c]at a;simp only at a ⊢;unfold Fg at a;unfold Xd;split at a
   case h_2=>cases a
   rename_i e l;simp only[l];split at a
   case h_2=>cases a
   rename_i i d;simp only[d];cases k:(Nat.ble (n*i.size) 16777216&&z6 0 (i.zero.length)&&zj i.zero.length i.size)with
   |false=>rw[k]at a;cases a
   |true=>
    rw[k]at a;simp only[we]at a ⊢;split at a
    case h_2=>cases a
    rename_i cs g;cases a;simp only[g];exact⟨_,_,rfl,rfl⟩
theorem AdC{T:Cc}{call:Gi}{st:AM}{o:Oper}{k:AM->Tr}(a:EB o=true):HK T call o st k=Pv o.dst k (pop o.op T st):=by
 have:KQ st o.op=.no:=by
  unfold EB at a;unfold KQ;cases b:o.op<;>rw[b]at a<;>first|rfl|skip
  case call c=>
   obtain⟨callee,args,ts⟩:=c;cases callee<;>first|rfl|(cases a)
 unfold HK;rw[this]
theorem Aap{call:Gi}(e:FM B h0 X false call)(hr:Rel B h0 F ρ st fr h){o:Oper}(a:EB o=true){k:AM->Tr}(j:Ev X Q n (HK X.C.T call o st k)):
  ∃n',n'<=n/\∃c,Ev X Q n' (k c)/\∃F' ρ' x fr',GL X.C fr h o=some (.val x h)/\fr.put o.dst x=some fr'/\Dy B h0 F ρ st.nx h c fr' h F' ρ'/\∃u s,(pop o.op X.C.T st).To u s:=by
 obtain⟨l,g,m,i⟩:=HZ e hr j;obtain⟨⟨⟨x,h'⟩,rfl⟩,_⟩:=m.1 rfl;obtain⟨n',hn,c,he1,F',ρ',fr',hput,hw,_⟩:=i _<|zc.2 rfl;have p:∃u s,(pop o.op X.C.T st).To u s:=by
  rw[AdC a]at j;obtain⟨u,s,_,q,_⟩:=Jy j;exact⟨u,s,q⟩
 cases g with
 |val b=>
  obtain⟨y,d⟩:=rd_val a b;cases d;exact⟨n',hn,c,he1,F',ρ',x,fr',b,hput,hw,p⟩
 |skip b=>obtain⟨y,d⟩:=rd_val a b;cases d
 |call b _=>obtain⟨y,d⟩:=rd_val a b;cases d
 |round b _=>obtain⟨y,d⟩:=rd_val a b;cases d
 |alts b=>obtain⟨y,d⟩:=rd_val a b;cases d
theorem Qo{call:Gi}(v:FM B h0 X false call){ops:Array Oper}{anc:Nat->Nat->Bool}:∀ {L:List Nat} {n:Nat} {st:AM} {F:Fz} {ρ:Ex} {fr:Fr} {h:H} {k:AM->Tr} {Z:Rs} {cs:List Rc},Rel B h0 F ρ st fr h->XD X.C F ρ st.nx h Z cs->
  Ev X Q n (Ko X.C.T X.sp call ops anc L st Z k)->
  ∃n',n'<=n/\∃q,Ev X Q n' (k q)/\∃F' ρ' fr' h',Dy B h0 F ρ st.nx h q fr' h' F' ρ'/\∃M,∀m,M<=m->∃cs',WE X.C (Bl X.C m) ops anc L ⟨fr,h,cs⟩=some ⟨fr',h',cs'⟩
 |[],n,st,F,ρ,fr,h,k,Z,cs,hr,_,d=>⟨n,zd _,st,d,F,ρ,fr,h,Dy.refl hr,0,fun _ _=>⟨cs,rfl⟩⟩
 |i::is,n,st,F,ρ,fr,h,k,Z,cs,hr,K,d=>by
  unfold Ko at d;cases ho:ops[i]? with
  |none=>rw[ho]at d;exact wh d zg
  |some o=>
   rw[ho]at d;simp only at d;obtain⟨q,E,V,e2,hcase⟩:=NJ hr d;rw[<-V]at K;have fin:∀ {n1:Nat} {p:AM} {F1:Fz} {D:Ex} {z:Fr} {h1:H} {rs2:Rs} {cs2:List Rc},n1<=n->Dy B h0 F ρ st.nx h p z h1 F1 D->XD X.C F1 D p.nx h1 rs2 cs2->Ev X Q n1 (Ko X.C.T X.sp call ops anc is p rs2 k)->
     (∃M,∀m,M<=m->∃x,Iw X.C (Bl X.C m) ops anc i ⟨fr,h,cs⟩=some (x,⟨z,h1,cs2⟩))->
     ∃n',n'<=n/\∃q,Ev X Q n' (k q)/\∃F' ρ' fr' h',Dy B h0 F ρ st.nx h q fr' h' F' ρ'/\∃M,∀m,M<=m->∃cs',WE X.C (Bl X.C m) ops anc (i::is) ⟨fr,h,cs⟩=some ⟨fr',h',cs'⟩:=by
    rintro n1 p F1 D z h1 rs2 cs2 A U u s ⟨M1,hM1⟩;obtain⟨n2,hn2,st3,he3,F2,ρ2,fr2,h2,hw2,M2,hM2⟩:=Qo v U.rel u s;refine⟨n2,zi hn2 A,st3,he3,F2,ρ2,fr2,h2,U.trans hw2,max M1 M2,fun m hm=>?_⟩;obtain⟨x,hx⟩:=hM1 m (by omega);obtain⟨cs',hcs'⟩:=hM2 m (by omega);exact⟨cs',by unfold WE;rw[hx];exact hcs'⟩
   rcases hcase with⟨U,d⟩|⟨U,d⟩
   ·cases G:EB o with
    |true=>
     rw[G]at d;simp only[we]at d;obtain⟨n1,A,p,s,F1,D,x,z,r,j,c,hto⟩:=Aap v E G d;rw[V]at c;have u:XD X.C F1 D p.nx h Z cs:=K.mono (by rw[V];exact c.le) (zd _)<|fun _ _=>rfl;cases Y:QX o with
     |false=>
      rw[Y]at s;refine fin (cs2:=cs) A c u s ⟨0,fun m _=>⟨x,?_⟩⟩;unfold Iw;simp only[ho,U,we,G,r,j,Y,wg]
     |true=>
      rw[Y]at s;refine fin (cs2:=⟨i,o,fr,x⟩::cs) (rs2:=(i,tX q o.op)::Z) A c ⟨_,_,rfl,⟨rfl,fun l hl=>?_⟩,u⟩ s ⟨0,fun m _=>⟨x,?_⟩⟩
      ·obtain⟨bl,O,I⟩:=bT E r hl hto;refine⟨bl,fun g hg hb=>O g (fun b cs hF=>hg b cs<|c.le.fz b cs hF) hb,fun b hb=>?_⟩;obtain⟨j1,id,j2,j3,j4⟩:=I b hb;rw[V]at j3;exact⟨j1,id,j2,zh j3 c.le.n,fun y hy=>j4 y<|c.le.at j3 hy⟩
      ·unfold Iw;simp only[ho,U,we,G,r,j,Y]
    |false=>
     rw[G]at d;simp only[wg]at d;cases w:CB o with
     |true=>
      rw[w]at d;simp only[we]at d;obtain⟨l,P,W,R⟩:=HZ v E d;obtain⟨⟨⟨x,h1⟩,rfl⟩,hna⟩:=W.1 rfl;obtain⟨n1,A,p,s,F1,D,z,j,c,_⟩:=R _<|zc.2 rfl;rw[V]at c;simp only at j c;have hv:∃ob f,fE X.C fr o=some (ob,f)/\x=f h.nx/\h1=h.push ob:=by
       cases P with
       |val r=>obtain⟨ob,f,O,I⟩:=Pj w r;cases I;exact⟨ob,f,O,rfl,rfl⟩
       |skip r=>obtain⟨ob,f,O,I⟩:=Pj w r;cases I
       |call r _=>obtain⟨ob,f,O,I⟩:=Pj w r;cases I
       |round r _=>obtain⟨ob,f,O,I⟩:=Pj w r;cases I
       |alts r=>obtain⟨ob,f,O,I⟩:=Pj w r;cases I
      obtain⟨ob1,f,O,rfl,rfl⟩:=hv;have u:XD X.C F1 D p.nx (h.push ob1) Z cs:=K.mono (by rw[V];exact c.le) (by simp) (fun b hb=>by simp[Nat.ne_of_lt hb]);refine fin (cs2:=cs) A c u s ⟨0,fun m _=>⟨f h.nx,?_⟩⟩;unfold Iw;simp only[ho,U,we,G,wg,w,O,j]
     |false=>
      rw[w]at d;simp only[wg]at d;cases J:(zw anc i q (Hi X.sp q o.op) Z&&jT q o.op)with
      |false=>rw[J]at d;exact wh d zg
      |true=>
       rw[J]at d;simp only[we]at d;simp only[ze]at J;obtain⟨S,hnr⟩:=J;obtain⟨l,P,W,R⟩:=HZ v E d;obtain⟨⟨⟨x,h1⟩,rfl⟩,hna⟩:=W.1 rfl;obtain⟨n1,A,p,s,F1,D,z,j,c,htch⟩:=R _<|zc.2 rfl;simp only at j c htch;obtain⟨O,I⟩:=XD.apart E c htch K S;rw[V]at c;refine fin A c I s ?_;have hh:∃M,∀m,M<=m->D0 X.C (Bl X.C m) fr h o=some (x,h1):=by
        cases P with
        |val r=>exact⟨0,fun m _=>by unfold D0;rw[r]⟩
        |skip r=>exact⟨0,fun m _=>by unfold D0;rw[r]⟩
        |alts r=>exact wh r<|hna _
        |round r _=>exact wh r (W.2 (fun id a e=>by unfold jT at hnr;rw[e]at hnr;cases hnr) _ _ _)
        |@call g args _ M r hM=>exact⟨M,fun m hm=>by unfold D0;rw[r];simp only[hM m hm]⟩
       obtain⟨M,hM⟩:=hh;refine⟨M,fun m hm=>⟨x,?_⟩⟩;unfold Iw;simp only[ho,U,we,G,wg,w,hM m hm,j,O]
   ·cases hv:CT o with
    |false=>
     rw[hv]at d;simp only[wg]at d;unfold M5 at d;split at d
     case h_2=>exact wh d zg
     rename_i p j;obtain⟨z,g1,g2,g3,g4⟩:=E.put (x:=.tup []) (by simp[PR]) j;refine fin (cs2:=cs) (zd _) ⟨g2,by rw[g3,V];exact zt,zd _⟩ (by rw[g3];exact K) d ⟨0,fun m _=>⟨.tup [],?_⟩⟩;unfold Iw;simp only[ho,U,wg,g1,hv]
    |true=>
     rw[hv]at d;simp only[we]at d;cases S:zw anc i q (some []) Z with
     |false=>rw[S]at d;exact wh d zg
     |true=>
      rw[S]at d;simp only[we]at d;unfold M5 at d;split at d
      case h_2=>exact wh d zg
      rename_i p j;obtain⟨z,g1,g2,g3,g4⟩:=E.put (x:=.tup []) (by simp[PR]) j;have c:Dy B h0 F ρ q.nx h p z h F ρ:=⟨g2,by rw[g3];exact zt,zd _⟩;obtain⟨O,I⟩:=XD.apart (t:=some []) E c (fun ids _ b _=>.inl rfl) K S;rw[V]at c;refine fin (zd _) c I d ⟨0,fun m _=>⟨.tup [],?_⟩⟩;unfold Iw;simp only[ho,U,wg,g1,hv,we,O]
theorem bG{call:Gi}(c:FM B h0 X false call){ops:Array Oper}{k:AM->Tr}(hr:Rel B h0 F ρ st fr h)(g:Ev X Q n (Ko X.C.T X.sp call ops (E9 ops).a (E9 ops).ord st [] k)):
  ∃n',n'<=n/\∃b,Ev X Q n' (k b)/\∃F' ρ' fr' h',Dy B h0 F ρ st.nx h b fr' h' F' ρ'/\∃M,∀m,M<=m->Jq X.C (Bl X.C m) ops fr h=some (fr',h'):=by
 obtain⟨n',i,b,d,F',ρ',fr',h',j,M,e⟩:=Qo (cs:=[]) c hr (by rfl) g;refine⟨n',i,b,d,F',ρ',fr',h',j,M,fun m l=>?_⟩;obtain⟨cs',hcs'⟩:=e m l;unfold Jq;rw[hcs']
end
section
variable {B:Nat}{h0:H0}{F:Fz}{ρ ρ':Ex}{N N':Nat}{f:Nat->Option Nat}
mutual
theorem P8(k:∀i j,i<N->f i=some j->j<N'/\ρ' j=ρ i):∀ {p:PV} {v:V},PR F ρ N p v->PR F ρ' N' (GA f p) v
 | .any,_,_=>by simp[GA,PR]
 | .bl _,_,h=>by simpa only[GA,PR]using h
 | .ub,_,h=>by simpa only[GA,PR]using h
 | .dat _ _,_,h=>by simpa only[GA,PR]using h
 | .nil,_,h| .nilp,_,h| .nilm,_,h| .nilf,_,h| .nili,_,h=>by simpa only[GA,PR]using h
 | .Bx _ _ _,_,h=>by simpa only[GA,PR]using h
 | .agg l,_,h=>by simp only[GA,PR]at h ⊢;obtain⟨cs,rfl,c⟩:=h;exact⟨cs,rfl,E3 k c⟩
 | .tup l,_,h=>by simp only[GA,PR]at h ⊢;obtain⟨cs,rfl,c⟩:=h;exact⟨cs,rfl,E3 k c⟩
 | .fn g a b,_,h=>by simp only[GA,PR]at h ⊢;obtain⟨x,y,rfl,c,d⟩:=h;exact⟨x,y,rfl,E3 k c,E3 k d⟩
 | .ptr i o,_,h=>by
  simp only[GA];cases m:f i with
  |none=>simp[PR]
  |some j=>
   simp only[PR]at h ⊢;obtain⟨c,d⟩:=k i j h.1 m;exact⟨c,fun b n e=>h.2 b n<|by rw[<-d];exact e⟩
 | .eptr i _ _ _,_,h=>by
  simp only[GA];cases m:f i with
  |none=>simp[PR]
  |some j=>
   simp only[PR]at h ⊢;obtain⟨c,d⟩:=k i j h.1 m;exact⟨c,fun b n e=>h.2 b n<|by rw[<-d];exact e⟩
 | .sl i _ _ _ _,_,h=>by
  simp only[GA];cases m:f i with
  |none=>simp[PR]
  |some j=>
   simp only[PR]at h ⊢;obtain⟨c,d⟩:=k i j h.1 m;exact⟨c,fun b n e=>h.2 b n<|by rw[<-d];exact e⟩
 | .yl i,_,h=>by
  simp only[GA];cases m:f i with
  |none=>simp[PR]
  |some j=>
   simp only[PR]at h ⊢;obtain⟨c,d⟩:=k i j h.1 m;exact⟨c,fun b n e=>h.2 b n<|by rw[<-d];exact e⟩
 | .mp i,_,h=>by
  simp only[GA];cases m:f i with
  |none=>simp[PR]
  |some j=>
   simp only[PR]at h ⊢;obtain⟨c,d⟩:=k i j h.1 m;exact⟨c,fun b n e=>h.2 b n<|by rw[<-d];exact e⟩
theorem E3(a:∀i j,i<N->f i=some j->j<N'/\ρ' j=ρ i):∀ {ps:List PV} {vs:List V},Bf F ρ N ps vs->Bf F ρ' N' (Kk f ps) vs
 |[],_,h=>by simpa [Kk]using h
 |p::ps,_,h=>by
  simp only[Bf]at h;obtain⟨v,vs,rfl,b,c⟩:=h;simp only[Kk,A4];exact⟨P8 a b,E3 a c⟩
end
theorem RV(f:PV->PV):∀(sl:List (Nat×PV)) (m a:PM PV),(∀t,a.get t=(m.get t).map f)->∀t,((sl.map fun x=>(x.1,f x.2)).foldl (fun m x=>m.set x.1<|some x.2) a).get t=((sl.foldl (fun m x=>m.set x.1<|some x.2) m).get t).map f
 |[],_,_,h,t=>h t
 |x::sl,m,a,h,t=>by
  simp only[yb,List.foldl_cons];refine RV f sl _ _ (fun t=>?_) t;rw[PM.Dn,PM.Dn];split
  ·rfl
  ·exact h t
theorem Xh(f:PV->PV)(a:f .any=.any)(sl:List (Nat×PV))(t:Nat):SB (sl.map fun x=>(x.1,f x.2)) t=f (SB sl t):=by
 unfold SB FY;rw[RV f sl .leaf .leaf (fun t=>by rw[PM.DE];rfl) t];cases (sl.foldl (fun m x=>m.set x.1<|some x.2) PM.leaf).get t with
 |none=>exact a.symm
 |some x=>rfl
theorem fU(d:∀i j,i<N->f i=some j->j<N'/\ρ' j=ρ i){n:Nat}{o:Obj}{x:O}(h:YE F ρ N n o x):YE F ρ' N' n (SL f o) x:=by
 cases o with
 |arr fz e s l=>exact h
 |box ps=>obtain⟨cs,t,fz,b,a,c⟩:=h;exact⟨cs,t,fz,b,E3 d a,c⟩
 |tbox t ps=>obtain⟨cs,fz,b,a,c⟩:=h;exact⟨cs,fz,b,E3 d a,c⟩
 |lp g r ps asg body s n sl=>
  obtain⟨ls,b,a,c,m,q,k,u⟩:=h;refine⟨ls,b,a,c,m,q,k,fun t=>?_⟩;rw[Xh (GA f)<|by simp[GA]];exact P8 d<|u t
 |map ks vs l=>exact h
 |siter s p=>exact h
theorem VP(o:Obj):(SL f o).frozen=o.frozen:=by cases o<;>rfl
theorem JN{st:AM}{base:Nat}:∀(n:Nat) (k acc:List Nat),(∀i∈acc,base<=i/\(st.obj i).isSome=true)->acc.Nodup->(∀i∈Jn st base n k acc,base<=i/\(st.obj i).isSome=true)/\(Jn st base n k acc).Nodup
 |0,_,acc,d,c=>⟨d,c⟩
 |n+1,[],acc,d,c=>⟨d,c⟩
 |n+1,i::k,acc,d,c=>by
  unfold Jn;cases l:(z6 i base||acc.any (zj i))with
  |true=>simp only[we];exact JN n k acc d c
  |false=>
   simp only[wg];cases r:st.obj i with
   |none=>simp only;exact JN n k acc d c
   |some o=>
    simp only;simp only[Bool.or_eq_false_iff]at l;have s:base<=i:=by
     rcases Nat.lt_or_ge i base with h|h
     ·have:=l.1;rw[DY h]at this;cases this
     ·exact h
    have m:i∉acc:=by
     intro q;have:acc.any (zj i)=true:=zz.2 ⟨i,q,yd i⟩;rw[l.2]at this;cases this
    refine JN n _ _ (fun j g=>?_) ?_
    ·rcases zp.1 g with g|g
     ·exact d j g
     ·cases zc.1 g;exact⟨s,by rw[r];rfl⟩
    ·rw[List.nodup_append];exact⟨c,by simp,fun a t b p=>by cases zc.1 p;exact fun e=>m<|e▸t⟩
theorem Qn{base:Nat}:∀(b:List Nat) (n i j:Nat),b.Nodup->Pg base b n i=some j->(∃k,b[k]?=some i/\j=n+k)\/(i∉b/\i<base/\j=i)
 |[],n,i,j,_,h=>by
  unfold Pg at h;cases g:z6 i base with
  |false=>rw[g]at h;cases h
  |true=>rw[g]at h;cases h;exact .inr ⟨by simp,zq g,rfl⟩
 |a::b,n,i,j,m,h=>by
  unfold Pg at h;rw[Bt]at h;by_cases e:i=a
  ·subst e;simp only[decide_true,we,zm]at h;exact .inl ⟨0,rfl,by omega⟩
  ·simp only[e,decide_false,wg]at h;have c:=List.nodup_cons.1 m;rcases Qn b (zx n 1) i j c.2 h with⟨k,l,d⟩|⟨l,d,o⟩
   ·exact .inl ⟨k+1,by simpa using l,by rw[d];show n+1+k=_;omega⟩
   ·exact .inr ⟨by simp[e,l],d,o⟩
theorem Zj(f:Nat->Option Nat)(base:Nat):∀(l:Ob) (j:Nat),AP (low f base l) j=if j<base then(AP l j).map (SL f)else none
 |[],j=>by simp[low,AP]
 |(i,o)::l,j=>by
  simp only[low];have b:=Zj f base l j;by_cases a:i<base
  ·rw[DY a];simp only[we,AP,Bt];by_cases e:i=j
   ·subst e;simp[a]
   ·simp only[e,decide_false,wg];exact b
  ·have:z6 i base=false:=by
    cases c:z6 i base with
    |false=>rfl
    |true=>exact wh (zq c) a
   rw[this];simp only[wg,AP,Bt];rw[b];by_cases e:i=j
   ·subst e;simp[a]
   ·simp[e]
theorem VG{st:AM}(f:Nat->Option Nat):∀(a:List Nat) (n:Nat) (b:Ob) (j:Nat),(∀i∈a,(st.obj i).isSome=true)->AP (kept st f a n b) j=(if n<=j/\j<n+a.length then(a[j-n]?).bind fun i=>(st.obj i).map (SL f)else AP b j)
 |[],n,b,j,_=>by simp only[kept,List.length_nil];rw[wc<|by omega]
 |i::a,n,b,j,h=>by
  obtain⟨o,c⟩:=zy.1 (h i<|by simp);unfold kept;rw[c];simp only;rw[VG f a (zx n 1) _ j<|fun k l=>h k<|by simp[l]];have g:zx n 1=n+1:=rfl;rw[g];by_cases d:n+1<=j/\j<n+1+a.length
  ·rw[wd d,wd<|by simp;omega];have:j-n=(j-(n+1))+1:=by omega
   rw[this];simp
  ·rw[wc d];simp only[AP,Bt];by_cases e:n=j
   ·subst e;rw[wd<|by simp];simp[c]
   ·rw[wc<|by simp;omega];simp[e]
theorem I2:∀(vs:List (Nat×PV)) (m:PM PV) (t:Nat) (p:PV),(vs.foldl (fun m x=>m.set x.1<|some x.2) m).get t=some p->(t,p)∈vs\/m.get t=some p
 |[],m,t,p,h=>.inr h
 |x::vs,m,t,p,h=>by
  rcases I2 vs _ t p h with a|a
  ·exact .inl<|List.mem_cons_of_mem _ a
  ·rw[PM.Dn]at a;split at a
   ·rename_i e;cases a;exact .inl (by rw[e];exact List.mem_cons_self)
   ·exact .inr a
theorem eU{st:AM}{fr:Fr}{h:H}(hr:Rel B h0 F ρ st fr h)(base:Nat)(L:List Nat)(_hb:base<=st.nx):
  ∃ρ',Rel B h0 F ρ' (canon base L st) fr h/\base<=(canon base L st).nx/\∀id,id<base->ρ' id=ρ id:=by
 generalize A:Jn st base 100 (Kc ((L.map fun t=>(t,st.get t)).map (·.2))++Qh base st.ob) []=ids;have E:=JN (st:=st) (base:=base) 100 (Kc ((L.map fun t=>(t,st.get t)).map (·.2))++Qh base st.ob) [] (fun i D=>by cases D) zk;rw[A]at E;obtain⟨C,G⟩:=E;let g:=Pg base ids base
 let r:Ex:=fun id=>if id<base then ρ id else(ids[id-base]?).bind ρ
 have y:∀id,id<base->r id=ρ id:=fun id h=>by show(if id<base then ρ id else _)=_;rw[wd h]
 have z:∀k i,ids[k]?=some i->r (base+k)=ρ i:=by
  intro k i q;show(if base+k<base then ρ (base+k)else(ids[base+k-base]?).bind ρ)=ρ i;rw[wc (by omega),Nat.add_sub_cancel_left,q];rfl
 have J:canon base L st=Aw st.n ((L.map fun t=>(t,st.get t)).map fun x=>(x.1,GA g x.2)) (kept st g ids base<|low g base st.ob) (base+ids.length):=by
  rw[show g=Pg base ids base from rfl, <-A];rfl
 have V:∀i j,i<st.nx->g i=some j->j<base+ids.length/\r j=ρ i:=by
  intro i j _ M;rcases Qn ids base i j G M with⟨k,d,rfl⟩|⟨_,w,rfl⟩
  ·have:=(zf.1 d).1;exact⟨by omega,z k i d⟩
  ·exact⟨by omega,y _ w⟩
 have I:∀j,AP (kept st g ids base<|low g base st.ob) j=if j<base then(AP st.ob j).map (SL g)else(ids[j-base]?).bind fun i=>(st.obj i).map (SL g):=by
  intro j;rw[VG g ids base _ j<|fun i D=>(C i D).2,Zj];by_cases d:j<base
  ·rw[wc (by omega),wd d,wd d]
  ·by_cases w:j<base+ids.length
   ·rw[wd (by omega),wc d]
   ·rw[wc (by omega),wc d,wc d,List.getElem?_eq_none<|by omega];rfl
 have src:∀j o',AP (kept st g ids base<|low g base st.ob) j=some o'->∃i o,AP st.ob i=some o/\o'=SL g o/\r j=ρ i/\j<base+ids.length/\((j<base/\i=j)\/(base<=j/\ids[j-base]?=some i/\base<=i)):=by
  intro j o' v;rw[I]at v;by_cases d:j<base
  ·rw[wd d,z7]at v;obtain⟨o,w,rfl⟩:=v;exact⟨j,o,w,rfl,y j d,by omega,.inl ⟨d,rfl⟩⟩
  ·rw[wc d]at v;cases q:ids[j-base]? with
   |none=>rw[q]at v;cases v
   |some i=>
    rw[q]at v;simp only[Option.bind_some,z7]at v;obtain⟨o,w,rfl⟩:=v;have Z:=(zf.1 q).1;have:=z (j-base) i q;rw[show base+(j-base)=j from by omega]at this;exact⟨i,o,w,rfl,this,by omega,.inr ⟨by omega,by first|exact q|rfl,(C i<|List.mem_of_getElem? q).1⟩⟩
 refine⟨r,?_,by rw[J];show base<=base+ids.length;omega,y⟩;rw[J];refine⟨⟨hr.fp.n,fun t=>?_⟩,⟨fun j o' v=>?_,fun i j oi oj c m Y D v d w=>?_,hr.sr.frz,fun id b m l=>?_,fun j v=>?_,hr.sr.old,hr.sr.lt,hr.sr.le,hr.sr.fo,hr.sr.gl,fun c J=>?_⟩⟩
 ·generalize P:((L.map fun t=>(t,st.get t)).map fun x=>(x.1,GA g x.2))=vs;show PR F r (base+ids.length) (((FY vs).get t).getD .any)<|fr.get t;cases hp:(FY vs).get t with
  |none=>show PR F r (base+ids.length) PV.any<|fr.get t;simp[PR]
  |some p=>
   show PR F r (base+ids.length) p<|fr.get t;rcases I2 vs .leaf t p hp with d|d
   ·rw[<-P]at d;simp only[List.map_map,ye,Function.comp]at d;obtain⟨s,_,w⟩:=d;cases w;exact P8 V<|hr.fp.slot _
   ·simp at d
 ·obtain⟨i,o,d,rfl,w,h3,_⟩:=src j o' v;obtain⟨b,m,x,k1,k2,k3,k4⟩:=hr.sr.obj i o d;exact⟨b,m,x,w.trans k1,k2,fU V k3,by rw[VP];exact k4⟩
 ·obtain⟨a,o,U,_,T,_,K⟩:=src i oi D;obtain⟨a',o',g4,_,g5,_,g6⟩:=src j oj v;rw[T]at d;rw[g5]at w;have O:=hr.sr.inj a a' o o' c m Y U g4 d w;subst O;rcases K with⟨W,R⟩|⟨W,R,e3⟩<;>rcases g6 with⟨f1,S⟩|⟨f1,S,f3⟩
  ·omega
  ·omega
  ·omega
  ·have i1:=zf.1 R;have i2:=zf.1 S;have:=(List.getElem?_inj i1.1 G).1<|R.trans S.symm;omega
 ·have l:(if id<base then ρ id else(ids[id-base]?).bind ρ)=some (b,m):=l;by_cases d:id<base
  ·rw[wd d]at l;exact⟨by show id<base+ids.length;omega,(hr.sr.own id b m l).2⟩
  ·rw[wc d]at l;cases q:ids[id-base]? with
   |none=>rw[q]at l;cases l
   |some i=>
    rw[q]at l;have:=(zf.1 q).1;exact⟨by show id<base+ids.length;omega,(hr.sr.own i b m l).2⟩
 ·have u:AP (kept st g ids base<|low g base st.ob) j=none:=v;rw[I]at u;show(if j<base then ρ j else(ids[j-base]?).bind ρ)=none;by_cases d:j<base
  ·rw[wd d]at u ⊢;exact hr.sr.dead j (by simpa using u)
  ·rw[wc d]at u ⊢;cases q:ids[j-base]? with
   |none=>rfl
   |some i=>
    rw[q]at u;simp only[Option.bind_some,Option.map_eq_none_iff]at u ⊢;exact hr.sr.dead i u
 ·obtain⟨U,T,K⟩:=hr.sr.pn c J;refine⟨U,T,fun id m e=>?_⟩;have e:(if id<base then ρ id else(ids[id-base]?).bind ρ)=some (c,m):=e;by_cases d:id<base
  ·rw[wd d]at e;exact K id m e
  ·rw[wc d]at e;cases q:ids[id-base]? with
   |none=>rw[q]at e;cases e
   |some i=>rw[q]at e;exact K i m e
end
section
variable {B:Nat}{h0:H0}{X:AV}{F:Fz}{ρ:Ex}{N:Nat}{h:H}
theorem RO(h0:H0)(a b:List Nat):(h0.pins a).pins b=h0.pins (b++a):=by unfold H0.pins;simp
theorem SR.mA{ob:Ob}{ps:List Nat}(hr:SR B (h0.pins ps) F ρ N ob h):SR B h0 F ρ N ob h:=
 ⟨hr.obj,hr.inj,hr.frz,hr.own,hr.dead,hr.old,hr.lt,hr.le,hr.fo,hr.gl,fun b a=>hr.pn b<|List.mem_append_right _ a⟩
theorem SR.mark{ob:Ob}(hr:SR B h0 F ρ N ob h):SR B (h0.pins [h.nx]) F ρ N ob (h.push<|.defd true):=by
 have g:∀b y,h.get b=some y->b≠h.nx:=fun b y k=>by have:=hr.lt b y k;omega
 have d:∀b y,h.get b=some y->(h.push<|.defd true).get b=some y:=fun b y k=>by rw[H.BP,wc<|g b y k];exact k
 refine⟨fun j oj u=>?_,hr.inj,fun c cs a=>?_,hr.own,hr.dead,fun c a x=>?_,fun c q a=>?_,?_,hr.fo,hr.gl,fun c a=>?_⟩
 ·obtain⟨c,m,y,z,r,C⟩:=hr.obj j oj u;exact⟨c,m,y,z,d c y r,C⟩
 ·obtain⟨t,fz,v⟩:=hr.frz c cs a;exact⟨t,fz,d _ _ v⟩
 ·have:=hr.le;rw[H.BP,wc<|by omega];exact hr.old c a x
 ·rw[H.BP]at a;by_cases e:c=h.nx
  ·subst e;exact Nat.lt_succ_self _
  ·rw[wc e]at a;have:=hr.lt c q a;show c<h.nx+1;omega
 ·have:=hr.le;show B<=h.nx+1;omega
 ·rcases zp.1 a with a|a
  ·cases zc.1 a;refine⟨by rw[H.BP,wd rfl],hr.le,fun id n e=>?_⟩;by_cases i:∃o,AP ob id=some o
   ·obtain⟨o,w⟩:=i;obtain⟨c,m,y,l,p,_⟩:=hr.obj id o w;rw[e]at l;cases l;exact g _ _ p rfl
   ·have:AP ob id=none:=by
     cases s:AP ob id with
     |none=>rfl
     |some o=>exact wh ⟨o,s⟩ i
    rw[hr.dead id this]at e;cases e
  ·obtain⟨l,p,A⟩:=hr.pn c a;exact⟨d _ _ l,p,A⟩
theorem SR.tT{ob:Ob}(hr:SR B h0 F ρ N ob h){b:Nat}{x y:O}(u:∀id o n,AP ob id=some o->ρ id≠some (b,n))(r:F b=none)(v:h0.bE B b)(s:b∉h0.pin)(t:h.get b=some x):SR B h0 F ρ N ob (h.put b y):=by
 refine⟨fun j oj l=>?_,hr.inj,fun c cs a=>?_,hr.own,hr.dead,fun c a p=>?_,fun c q a=>?_,hr.le,hr.fo,hr.gl,fun c a=>?_⟩
 ·obtain⟨c,m,y,d,i,k⟩:=hr.obj j oj l;have:c≠b:=fun e=>u j oj m l<|e▸d
  exact⟨c,m,y,d,by rw[H.Bq,wc this];exact i,k⟩
 ·have:c≠b:=fun e=>by rw[e,r]at a;cases a
  rw[H.Bq,wc this];exact hr.frz c cs a
 ·have:c≠b:=N1 v a p;rw[H.Bq,wc this];exact hr.old c a p
 ·rw[H.Bq]at a;split at a
  ·rename_i e;subst e;exact hr.lt _ _ t
  ·exact hr.lt c q a
 ·obtain⟨d,i,k⟩:=hr.pn c a;have g:c≠b:=fun e=>s<|e▸a
  exact⟨by rw[H.Bq,wc g];exact d,i,k⟩
theorem SR.leave{ob:Ob}:∀ {ps:List Nat} {h:H},ps.Nodup->(∀b∈ps,b∉h0.pin)->SR B (h0.pins ps) F ρ N ob h->∃a,Gg ps h=some a/\SR B h0 F ρ N ob a/\a.nx=h.nx/\∀b,b∉ps->a.get b=h.get b
 |[],h,_,_,hr=>⟨h,rfl,hr,rfl,fun _ _=>rfl⟩
 |p::ps,h,d,i,hr=>by
  obtain⟨e,m,s⟩:=hr.pn p (by simp[H0.pins]);rw[List.nodup_cons]at d;have g:SR B ((h0.pins ps).pins [p]) F ρ N ob h:=by rw[RO];exact hr
  have hp:SR B (h0.pins ps) F ρ N ob (h.put p<|.defd false):=by
   refine SR.tT g.mA (fun id o n _=>s id n) ?_ (.inl m) ?_ e
   ·cases r:F p with
    |none=>rfl
    |some cs=>obtain⟨t,fz,k⟩:=hr.frz p cs r;rw[e]at k;cases k
   ·intro h;rcases zp.1 h with h|h
    ·exact d.1 h
    ·exact i p (by simp) h
  obtain⟨a,j,u,q,l⟩:=SR.leave d.2 (fun b c=>i b<|by simp[c]) hp;refine⟨a,?_,u,q,fun b c=>?_⟩
  ·show(match h.get p with|some (.defd true)=>Gg ps (h.put p<|.defd false)|_=>none)=_;rw[e];exact j
  ·simp only[yc,not_or]at c;rw[l b c.2,H.Bq,wc c.1]
theorem gU{st:AM}{fr:Fr}(hr:Rel B h0 F ρ st fr h)(base:Nat)(x:Nat×Sh):∃F1 E,Rel B h0 F1 E (rB base x st) fr h/\(rB base x st).nx=st.nx/\(∀id,id<base->E id=ρ id)/\∀b cs,F b=some cs->F1 b=some cs:=by
 have i:=hr.fp.slot x.1;unfold rB;split
 case h_1=>
  rename_i D;rw[D]at i;simp only[PR]at i;exact⟨F,ρ,hr.note (by rw[i];simp[PR,DC]),rfl,fun _ _=>rfl,fun _ _ h=>h⟩
 case h_4=>exact⟨F,ρ,hr,rfl,fun _ _=>rfl,fun _ _ h=>h⟩
 case h_3=>
  rename_i id D;cases W:Nat.ble base id with
  |false=>exact⟨F,ρ,hr,rfl,fun _ _=>rfl,fun _ _ h=>h⟩
  |true=>
  simp only[we];have W:=zq W;split
  case h_2=>exact⟨F,ρ,hr,rfl,fun _ _=>rfl,fun _ _ h=>h⟩
  rename_i ps r;split
  case h_2=>exact⟨F,ρ,hr,rfl,fun _ _=>rfl,fun _ _ h=>h⟩
  rename_i v hv;rw[D]at i;obtain⟨b,n,y,A,Y,h3,h7,-⟩:=hr.sr.at r;obtain⟨cs,t,fz,rfl,h4,h5⟩:=h3;have P:F b=none:=h7 rfl;have a:∀c cs',F c=some cs'->(fun c=>if c=b then some cs else F c) c=some cs':=by
   intro c cs' g;have:c≠b:=fun e=>by rw[e,P]at g;cases g
   simp[this,g]
  have G:=(C3 h4 hv);have V:=G.len;have q:Le F ρ st.nx (fun c=>if c=b then some cs else F c) (BV ρ id none) st.nx:=(Le.aQ a).trans<|Le.Oh id;have I:Le F (BV ρ id none) st.nx (fun c=>if c=b then some cs else F c) (BV ρ id none) st.nx:=Le.aQ a;have d:=hr.sr.del id;have C:∀j m,BV ρ id none j=some (b,m)->∀oj,AP (GS st.ob id) j=some oj->False:=by
   intro j m o oj k;rw[Ej]at k;split at k
   ·cases k
   ·rename_i U;simp only[BV,U,vg]at o;exact U<|hr.sr.inj j id oj _ b m n k r o A
  have S:SR B h0 (fun c=>if c=b then some cs else F c) (BV ρ id none) st.nx (GS st.ob id) h:=by
   refine⟨fun j oj k=>?_,d.inj,fun c cs' g=>?_,d.own,d.dead,d.old,d.lt,d.le,fun c cs' g=>?_,d.gl,d.pn⟩
   ·obtain⟨c,m,z,o,K,M,g4,g5⟩:=d.obj j oj k;have u:c≠b:=fun J=>C j m (J▸o) oj k
    exact⟨c,m,z,o,K,M.mono I,fun e=>by simp[u,g4 e],fun e=>by obtain⟨a1,a2,a3,a4,a5⟩:=g5 e;exact⟨a1,a2,a3,a4,by simp[u,a5]⟩⟩
   ·split at g
    ·rename_i J;cases g;subst J;exact⟨_,_,Y⟩
    ·exact d.frz c cs' g
   ·split at g
    ·rename_i J;subst J;exact .inr (hr.sr.own id c n A).2
    ·exact d.fo c cs' g
  have p:Rel B h0 (fun c=>if c=b then some cs else F c) (BV ρ id none) (st.OP id) fr h:=⟨⟨hr.fp.n,fun t=>(hr.fp.slot t).mono q⟩,S⟩;refine⟨_,_,p.note ?_,rfl,fun j k=>by unfold BV;rw[wc<|by omega],a⟩;simp only[PR]at i ⊢;have L:=i.2 b n A;exact⟨b,0,cs,by rw[L],by simp,by omega,by rw[List.drop_zero,List.take_of_length_le<|by omega];exact G.mono a⟩
 rename_i id sz off len cap D;split
 case h_2=>exact⟨F,ρ,hr,rfl,fun _ _=>rfl,fun _ _ h=>h⟩
 rename_i fz e s l r;cases Z:zj sz s.sz with
 |false=>exact⟨F,ρ,hr,rfl,fun _ _=>rfl,fun _ _ h=>h⟩
 |true=>
 simp only[we];rw[D]at i;obtain⟨F1,o,K,M⟩:=NG hr.sr i;have T:BH st (.sl id sz off len cap)=st.setObj id (.arr true e s l):=by simp[BH,r]
 rw[T]at o;have q:Le F ρ st.nx F1 ρ st.nx:=⟨K,fun _ _=>.inl rfl,zd _⟩;have w:off+len<=l.length:=by
  obtain⟨b,n,y,A,_,⟨_,_,_,_,_,h6⟩,-⟩:=hr.sr.at r;simp only[PR]at i;rcases i.2 b n A with⟨a1,a2,_⟩|⟨a1,_,a3,_⟩
  ·omega
  ·omega
 have O:B1 st (.sl id sz off len cap)=some (true,.dat (.list s)<|(l.drop off).take len):=by
  simp only[B1,r,Z,we,w4 w]
 have R:=M _ O;have p:Rel B h0 F1 ρ (st.setObj id<|.arr true e s l) fr h:=⟨⟨hr.fp.n,fun t=>(hr.fp.slot t).mono q⟩,o⟩;exact⟨F1,ρ,p.note<|R ρ _,rfl,fun _ _=>rfl,K⟩
theorem Vp{fr:Fr}(base:Nat):∀(l:List (Nat×Sh)) {st:AM} {F:Fz} {ρ:Ex},Rel B h0 F ρ st fr h->∃F1 a,Rel B h0 F1 a (vX base l st) fr h/\(vX base l st).nx=st.nx/\(∀id,id<base->a id=ρ id)/\∀b cs,F b=some cs->F1 b=some cs
 |[],st,F,ρ,hr=>⟨F,ρ,hr,rfl,fun _ _=>rfl,fun _ _ h=>h⟩
 |x::l,st,F,ρ,hr=>by
  obtain⟨F1,a,i,e,d,j⟩:=gU hr base x;obtain⟨F2,ρ2,h4,h5,h0'',h6⟩:=Vp base l i;exact⟨F2,ρ2,h4,h5.trans e,fun id c=>(h0'' id c).trans<|d id c,fun b cs g=>h6 b cs<|j b cs g⟩
theorem QH{st:AM}{fr:Fr}{base:Nat}(hr:Rel B h0 F ρ st fr h)(f:FuncId)(r:Nat)(e:base<=st.nx):
  ∃F1 ρ',Rel B h0 F1 ρ' (QJ X f r base st) fr h/\base<=(QJ X f r base st).nx/\(∀id,id<base->ρ' id=ρ id)/\∀b cs,F b=some cs->F1 b=some cs:=by
 obtain⟨F1,i,g,d,c,j⟩:=Vp base (X.fz f r) hr;obtain⟨ρ',g1,g2,g3⟩:=eU g base (X.pl f r) (by rw[d];exact e);exact⟨F1,ρ',g1,g2,fun id a=>(g3 id a).trans<|c id a,j⟩
def G5(B:Nat)(h0:H0)(X:AV)(base n:Nat)(Q:PV->Ob->Prop)(k:DX->AM->Tr)(F:Fz)(ρ:Ex)(h:H)(nd:Bool)(run:Nat->Nat->Option (List Det.X))(ds:List Nat):Prop:=
 ∃l M,(∀m,M<=m->∀q,M<=q->run m q=some l)/\(nd=false->∃x,l=[x])/\∀x∈l,∃ps,(x.ds=ps++ds/\ps.Nodup/\∀b∈ps,h.nx<=b)/\∃n',n'<=n/\∃a,Ev X Q n' (k x.e a)/\∃F' ρ',Rel B (h0.pins ps) F' ρ' a x.fr x.h/\base<=a.nx/\Le F ρ base F' ρ' base/\h.nx<=x.h.nx
theorem Le.low{F F':Fz}{ρ ρ':Ex}{N N' base:Nat}(a:Le F ρ N F' ρ' N')(b:base<=N):Le F ρ base F' ρ' base:=
 ⟨a.fz,fun id h=>a.rho id<|zh h b,zd _⟩
theorem O1{nd ro:Bool}{d:Nat}{f:FuncId}{base:Nat}{rv:Option Nat}{ct:Bool}(hrv:ro=false->rv=none/\ct=true)(hcall:∀h0,FM B h0 X nd<|CC X nd d)(hcallD:∀h0,FM B h0 X false<|CC X false d){Q:PV->Ob->Prop}:∀(n:Nat) (c:Code) {h0:H0} {st:AM} {k:DX->AM->Tr} {F:Fz} {ρ:Ex} {fr:Fr} {h:H} (ds:List Nat),base<=st.nx->Rel B h0 F ρ st fr h->
  Ev X Q n (exec X (CC X nd d) (CC X false d) nd ro d f base c st k)->G5 B h0 X base n Q k F ρ h nd (fun m q=>BR X.C (Bl X.C m) rv ct q c fr h ds) ds:=by
 intro n;induction n using Nat.strongRecOn with
 |_ n IH=>
 have one:∀ {h0:H0} {e:DX} {st:AM} {k:DX->AM->Tr} {F:Fz} {ρ:Ex} {fr:Fr} {h:H} {ds:List Nat} {c:Code},base<=st.nx->Rel B h0 F ρ st fr h->Ev X Q n (k e st)->(∀m q,1<=q->BR X.C (Bl X.C m) rv ct q c fr h ds=some [⟨e,fr,h,ds⟩])->
   G5 B h0 X base n Q k F ρ h nd (fun m q=>BR X.C (Bl X.C m) rv ct q c fr h ds) ds:=by
  intro h0 e st k F ρ fr h ds c u hr o hd;exact⟨[⟨e,fr,h,ds⟩],1,fun m _ q V=>hd m q V,fun _=>⟨_,rfl⟩,fun x w=>by
   cases zc.1 w;exact⟨[],⟨rfl,zk,fun _ u=>(by cases u)⟩,n,zd _,st,o,F,ρ,hr,u,zt,zd _⟩⟩
 have A:∀ {q:Nat},1<=q->∃q',q=q'+1:=fun h=>⟨_,(Nat.succ_pred_eq_of_pos h).symm⟩
 have chain:∀ {h0:H0} {F:Fz} {ρ:Ex} {h:H} {ds:List Nat} {k k2:DX->AM->Tr} {n1:Nat} {run:Nat->Nat->Option (List Det.X)} {run2:Nat->Nat->Det.X->Option (List Det.X)},n1<=n->G5 B h0 X base n1 Q k2 F ρ h nd run ds->
   (∀(x:Det.X) (ps:List Nat),∀n1',n1'<=n1->∀j,Ev X Q n1' (k2 x.e j)->∀F' ρ',Rel B (h0.pins ps) F' ρ' j x.fr x.h->base<=j.nx->G5 B (h0.pins ps) X base n Q k F' ρ' x.h nd (fun m q=>run2 m q x) x.ds)->
   G5 B h0 X base n Q k F ρ h nd (fun m q=>match run m q with|some l=>bl l (run2 m q)|none=>none) ds:=by
  rintro h0 F ρ h ds k k2 n1 run run2 W ⟨l,M,J,h2,h3⟩ hnext;obtain⟨r,M2,O,g2,g3⟩:=Mn (f:=run2) (P:=fun x=>∃ps,(x.ds=ps++ds/\ps.Nodup/\∀b∈ps,h.nx<=b)/\∃n',n'<=n/\∃j,Ev X Q n' (k x.e j)/\∃F' ρ',Rel B (h0.pins ps) F' ρ' j x.fr x.h/\base<=j.nx/\Le F ρ base F' ρ' base/\h.nx<=x.h.nx) h2 fun x w=>by
   obtain⟨S,⟨U,kn,kl⟩,n',k1,j,k2',F',ρ',Z,k4,k5,k6⟩:=h3 x w;obtain⟨r,M,j1,j2,j3⟩:=hnext x S n' k1 j k2' F' ρ' Z k4;refine⟨r,M,j1,j2,fun y hy=>?_⟩;obtain⟨ps2,⟨i0,i0n,i0l⟩,T,i1,R,i2,F2,K,i3,i4,i5,i6⟩:=j3 y hy;refine⟨ps2++S,⟨by rw[i0,U,List.append_assoc],?_,fun b u=>?_⟩,T,i1,R,i2,F2,K,by rw[<-RO];exact i3,i4,k5.trans i5,zi k6 i6⟩
   ·rw[List.nodup_append];refine⟨i0n,kn,fun a ha b u e=>?_⟩;have J:=i0l a ha;have h2:=Z.sr.lt b _ (Z.sr.pn b<|List.mem_append_left _ u).1;omega
   ·rcases zp.1 u with u|u
    ·exact zi k6<|i0l b u
    ·exact kl b u
  exact⟨r,max M M2,fun m hm q V=>by simp only;rw[J m (by omega) q<|by omega];exact O m (by omega) q (by omega),g2,g3⟩
 have G:∀ {h0:H0} {F:Fz} {ρ:Ex} {h:H} {ds:List Nat} {k:DX->AM->Tr} {run run':Nat->Nat->Option (List Det.X)},G5 B h0 X base n Q k F ρ h nd run ds->(∀m q,run' m (q+1)=run m q)->G5 B h0 X base n Q k F ρ h nd run' ds:=by
  rintro h0 F ρ h ds k run run' ⟨l,M,J,h2,h3⟩ o;refine⟨l,M+1,fun m hm q V=>?_,h2,h3⟩;obtain⟨q',rfl⟩:=A (show 1<=q by omega);rw[o];exact J m (by omega) q' (by omega)
 intro c;induction c with
 |skip=>
  intro h0 st k F ρ fr h ds u hr o;exact one u hr o (fun m q V=>by obtain⟨q',rfl⟩:=A V;rfl)
 |label l=>
  intro h0 st k F ρ fr h ds u hr o;exact one u hr o (fun m q V=>by obtain⟨q',rfl⟩:=A V;rfl)
 |exit i=>
  intro h0 st k F ρ fr h ds u hr o;exact one u hr o (fun m q V=>by obtain⟨q',rfl⟩:=A V;rfl)
 |ret=>
  intro h0 st k F ρ fr h ds u hr o;exact one u hr o (fun m q V=>by obtain⟨q',rfl⟩:=A V;rfl)
 |region id ops dr=>
  intro h0 st k F ρ fr h ds u hr o;unfold exec at o;cases dr with
  |true=>
   simp only[we]at o;cases Y:(!ro||Is ops (E9 ops))with
   |false=>rw[Y]at o;exact wh o zg
   |true=>
   rw[Y]at o;simp only[we]at o;have hdd:∀call,(bif ct then Jq X.C call ops fr h else Wm X.C call ops fr h)=Jq X.C call ops fr h:=by
    intro call;cases hro:ro with
    |false=>rw[(hrv hro).2];rfl
    |true=>
     rw[hro]at Y;have Y:Is ops (E9 ops)=true:=Y;cases ct with
     |true=>rfl
     |false=>simp only[wg,Wm,Y,we]
   obtain⟨n',hn,j,p,F',ρ',fr',h',hw,M,hM⟩:=bG (hcallD h0) hr o;refine⟨[⟨.normal,fr',h',ds⟩],M+1,fun m hm q V=>?_,fun _=>⟨_,rfl⟩,fun x w=>?_⟩
   ·obtain⟨q',rfl⟩:=A (show 1<=q by omega);have:=hM m (by omega);simp only[BR,we];rw[hdd,this]
   ·cases zc.1 w;exact⟨[],⟨rfl,zk,fun _ u=>(by cases u)⟩,n',hn,j,p,F',ρ',hw.rel,zi u hw.le.n,hw.le.low u,hw.nx⟩
  |false=>
   simp only[wg]at o;obtain⟨r,M,hM,hone,hall⟩:=Vb (hcall h0) hr o;refine⟨r.map fun x=>⟨.normal,x.1,x.2,ds⟩,M+1,fun m hm q V=>?_,fun e=>?_,fun x w=>?_⟩
   ·obtain⟨q',rfl⟩:=A (show 1<=q by omega);simp only[BR,wg,hM m<|by omega]
   ·obtain⟨y,rfl⟩:=hone e;exact⟨_,rfl⟩
   ·obtain⟨y,hy,rfl⟩:=ye.1 w;obtain⟨n',hn,j,p,F',ρ',hw⟩:=hall y hy;exact⟨[],⟨rfl,zk,fun _ u=>(by cases u)⟩,n',hn,j,p,F',ρ',hw.rel,zi u hw.le.n,hw.le.low u,hw.nx⟩
 |seq a b iha ihb=>
  intro h0 st k F ρ fr h ds u hr o;unfold exec at o;refine G (chain (run2:=fun m q x=>match x.e with| .normal=>BR X.C (Bl X.C m) rv ct q b x.fr x.h x.ds|_=>some [x]) (zd n) (iha ds u hr o) fun x S n1 W j p F' ρ' E I=>?_)<|fun m q=>rfl;obtain⟨e,L,J,z⟩:=x;cases e with
  |normal=>
   have rest:∀ {R:AM} {F2:Fz} {K:Ex} {T:Nat},T<=n->Rel B (h0.pins S) F2 K R L J->base<=R.nx->(∀id,id<base->K id=ρ' id)->(∀b cs,F' b=some cs->F2 b=some cs)->Ev X Q T (exec X (CC X nd d) (CC X false d) nd ro d f base b R k)->
     G5 B (h0.pins S) X base n Q k F' ρ' J nd (fun m q=>BR X.C (Bl X.C m) rv ct q b L J z) z:=by
    intro R F2 K T hn2 hr2 hb2 hρ2 hF2 D;have hl0:Le F' ρ' base F2 K base:=⟨hF2,fun id hi=>.inl<|hρ2 id hi,zd _⟩;have hc:G5 B (h0.pins S) X base n Q k F2 K J nd (fun m q=>BR X.C (Bl X.C m) rv ct q b L J z) z:=by
     by_cases hlt:T<n
     ·obtain⟨l,M,J,h2,h3⟩:=IH T hlt b z hb2 hr2 D;exact⟨l,M,J,h2,fun x w=>by obtain⟨ps,U,T,k1,k2⟩:=h3 x w;exact⟨ps,U,T,by omega,k2⟩⟩
     ·have:T=n:=by omega
      subst this;exact ihb z hb2 hr2 D
    obtain⟨l,M,J,h2,h3⟩:=hc;exact⟨l,M,J,h2,fun x w=>by
     obtain⟨ps,U,n3,k1,st3,k2,F3,ρ3,Z,k4,k5,k6⟩:=h3 x w;exact⟨ps,U,n3,k1,st3,k2,F3,ρ3,Z,k4,hl0.trans k5,k6⟩⟩
   simp only at p;cases hct:X.ct f (DD b)with
   |false=>rw[hct]at p;exact rest W E I (fun _ _=>rfl) (fun _ _ h=>h) p
   |true=>
    rw[hct]at p;simp only[we]at p;cases p with
    |cut p=>
     obtain⟨F2,ρ0,hr0,hb0,hρ0,hF⟩:=QH E f (DD b) I;exact rest W hr0 hb0 hρ0 hF p
  |exit i=>exact⟨[⟨.exit i,L,J,z⟩],0,fun _ _ _ _=>rfl,fun _=>⟨_,rfl⟩,fun x w=>by cases zc.1 w;exact⟨[],⟨rfl,zk,fun _ u=>(by cases u)⟩,n1,W,j,p,F',ρ',E,I,zt,zd _⟩⟩
  |ret=>exact⟨[⟨.ret,L,J,z⟩],0,fun _ _ _ _=>rfl,fun _=>⟨_,rfl⟩,fun x w=>by cases zc.1 w;exact⟨[],⟨rfl,zk,fun _ u=>(by cases u)⟩,n1,W,j,p,F',ρ',E,I,zt,zd _⟩⟩
 |cond x a b iha ihb=>
  intro h0 st k F ρ fr h ds u hr o;unfold exec at o;have go:∀ {t:Bool} {j:AM},ev X.C fr x=some (.bool t)->Rel B h0 F ρ j fr h->base<=j.nx->Ev X Q n (bif t then exec X (CC X nd d) (CC X false d) nd ro d f base a j k else exec X (CC X nd d) (CC X false d) nd ro d f base b j k)->G5 B h0 X base n Q k F ρ h nd (fun m q=>BR X.C (Bl X.C m) rv ct q (.cond x a b) fr h ds) ds:=by
   intro t j w E I o;cases t with
   |true=>exact G (iha ds I E o) (fun m q=>by simp only[BR,w])
   |false=>exact G (ihb ds I E o) (fun m q=>by simp only[BR,w])
  split at o
  case h_4=>exact wh o zg
  case h_3=>
   rename_i ht;obtain⟨y,O,g2⟩:=Co (C:=X.C) hr.fp ht;simp only[PR]at g2;obtain⟨t,rfl⟩:=g2;split at o
   case h_2=>exact wh o zg
   rename_i s;have hs:fr.get s=.bool t:=by simpa [ev]using O
   obtain⟨p,D⟩:=o.Vw;cases t with
   |true=>exact go O (hr.note<|by rw[hs];exact IV _) u p
   |false=>exact go O (hr.note<|by rw[hs];exact IV _) u D
  case h_1=>
   rename_i t ht;obtain⟨y,O,g2⟩:=Co (C:=X.C) hr.fp ht;obtain rfl:=OZ g2;exact go O hr u o
  case h_2=>
   rename_i t ht;obtain⟨y,O,g2⟩:=Co (C:=X.C) hr.fp ht;obtain rfl:=H8 g2;split at o
   case h_1=>
    rename_i s;have hs:fr.get s=.bool t:=by simpa [ev]using O
    rcases o.Fe with⟨v,D⟩|⟨v,D⟩
    ·have v:t=true:=v;subst v;exact go O (hr.note<|by rw[hs];exact IV _) u D
    ·have v:t=false:=v;subst v;exact go O (hr.note<|by rw[hs];exact IV _) u D
   case h_2=>
    rcases o.Fe with⟨v,D⟩|⟨v,D⟩
    ·have v:t=true:=v;subst v;exact go O hr u D
    ·have v:t=false:=v;subst v;exact go O hr u D
 |block id b ih=>
  intro h0 st k F ρ fr h ds u hr o;unfold exec at o;obtain⟨l,M,J,h2,h3⟩:=ih ds u hr o;refine⟨l.map fun x=>match x.e with
    | .exit i=>bif zj i id then { x with e:=.normal }else x
    |_=>x,M+1,fun m hm q V=>?_,fun e=>?_,fun y hy=>?_⟩
  ·obtain⟨q',rfl⟩:=A (show 1<=q by omega);have O:=J m (by omega) q' (by omega);simp only at O;simp only[BR,O];rfl
  ·obtain⟨y,rfl⟩:=h2 e;exact⟨_,rfl⟩
  ·obtain⟨⟨e,L,hh1,z⟩,w,rfl⟩:=ye.1 hy;obtain⟨ps,U,n1,k1,j,p,F',ρ',Z,k4,k5,k6⟩:=h3 _ w;cases e with
   |normal=>exact⟨ps,U,n1,k1,j,p,F',ρ',Z,k4,k5,k6⟩
   |ret=>exact⟨ps,U,n1,k1,j,p,F',ρ',Z,k4,k5,k6⟩
   |exit i=>
    simp only at p ⊢;cases hbe:zj i id with
    |true=>rw[hbe]at p;exact⟨ps,U,n1,k1,j,p,F',ρ',Z,k4,k5,k6⟩
    |false=>rw[hbe]at p;exact⟨ps,U,n1,k1,j,p,F',ρ',Z,k4,k5,k6⟩
 |loop b ih=>
  intro h0 st k F ρ fr h ds u hr o;unfold exec at o;cases o with
  |@loop n0 _ _ _ _ _ _ _ _ o=>
  obtain⟨F0,ρ0,hr0,hb0,hρ0,hF0⟩:=QH hr f (DD b) u;have hl0:Le F ρ base F0 ρ0 base:=⟨hF0,fun id hi=>.inl<|hρ0 id hi,zd _⟩;unfold body at o;have hbody:=IH n0 (Nat.lt_succ_self _) b ds hb0 hr0 o;have hch:G5 B h0 X base (n0+1) Q k F0 ρ0 h nd (fun m q=>match BR X.C (Bl X.C m) rv ct q b fr h ds with|some l=>bl l (fun x=>match x.e with| .normal=>BR X.C (Bl X.C m) rv ct q (.loop b) x.fr x.h x.ds|_=>some [x])|none=>none) ds:=by
   refine chain (run2:=fun m q x=>match x.e with| .normal=>BR X.C (Bl X.C m) rv ct q (.loop b) x.fr x.h x.ds|_=>some [x]) (Nat.le_succ n0) hbody fun x S n1 W j p F' ρ' E I=>?_
   obtain⟨e,L,J,z⟩:=x;cases e with
   |normal=>
    have he1':Ev X Q n1 (exec X (CC X nd d) (CC X false d) nd ro d f base (.loop b) j k):=by unfold exec;exact p
    obtain⟨l,M,J,h2,h3⟩:=IH n1 (by omega) (.loop b) z I E he1';exact⟨l,M,J,h2,fun x w=>by obtain⟨ps,U,T,k1,k2⟩:=h3 x w;exact⟨ps,U,T,by omega,k2⟩⟩
   |exit i=>exact⟨[⟨.exit i,L,J,z⟩],0,fun _ _ _ _=>rfl,fun _=>⟨_,rfl⟩,fun x w=>by cases zc.1 w;exact⟨[],⟨rfl,zk,fun _ u=>(by cases u)⟩,n1,by omega,j,p,F',ρ',E,I,zt,zd _⟩⟩
   |ret=>exact⟨[⟨.ret,L,J,z⟩],0,fun _ _ _ _=>rfl,fun _=>⟨_,rfl⟩,fun x w=>by cases zc.1 w;exact⟨[],⟨rfl,zk,fun _ u=>(by cases u)⟩,n1,by omega,j,p,F',ρ',E,I,zt,zd _⟩⟩
  obtain⟨l,M,O,g2,g3⟩:=G (run':=fun m q=>BR X.C (Bl X.C m) rv ct q (.loop b) fr h ds) hch<|fun m q=>rfl;refine⟨l,M,O,g2,fun x w=>?_⟩;obtain⟨ps,U,T,k1,R,k2,F2,K,Z,k4,k5,k6⟩:=g3 x w;exact⟨ps,U,T,k1,R,k2,F2,K,Z,k4,hl0.trans k5,k6⟩
 |scope b ih=>
  intro h0 st k F ρ fr h ds u hr o;unfold exec at o;exact G (ih ds u hr o)<|fun m q=>rfl
 |rangeFunc g ps a b _ _=>
  intro h0 st k F ρ fr h ds u hr o;unfold exec at o;exact wh o zg
 |goto l=>intro h0 st k F ρ fr h ds u hr o;exact wh o zg
 |refuse s=>intro h0 st k F ρ fr h ds u hr o;exact wh o zg
end
section
variable {B:Nat}{h0:H0}{X:AV}{F:Fz}{ρ:Ex}{N:Nat}{st st':AM}{fr:Fr}{h:H}
theorem LO:∀ {ps:List PV} {i t:Nat} {p:PV},(t,p)∈Ez ps i->∃k,t=i+k/\ps[k]?=some p
 |[],i,t,p,h=>by cases h
 |q::ps,i,t,p,h=>by
  unfold Ez at h;rcases yc.1 h with h|h
  ·cases h;exact⟨0,rfl,rfl⟩
  ·obtain⟨k,a,b⟩:=LO h;exact⟨k+1,by rw[a];show i+1+k=_;omega,by simpa using b⟩
theorem rQ{ps:List PV}{vs:List V}(hp:Bf F ρ N ps vs)(n:Nat)(ob:Ob)(nx:Nat)(_hnx:nx=N):FP F ρ N (Aw (zx ps.length<|Nat.sub n ps.length) (Ez ps 0) ob nx) (Nh n vs):=by
 refine⟨by show ps.length+(n-ps.length)=vs.length+(n-vs.length);rw[hp.len],fun t=>?_⟩;show PR F ρ N (((FY<|Ez ps 0).get t).getD .any) _;cases c:(FY<|Ez ps 0).get t with
 |none=>show PR F ρ N .any _;simp[PR]
 |some p=>
  show PR F ρ N p _;rcases I2 _ .leaf t p c with a|a
  ·obtain⟨k,i,e⟩:=LO a;obtain rfl:t=k:=by omega
   obtain⟨v,b,d⟩:=hp.get e;have g:=(zf.1 b).1;unfold Nh Fr.get;simp only;rw[Nc,wd (by omega),Nat.sub_zero,b];exact d
  ·simp at a
theorem fW{T:Cc}{st s:AM}{t:TypeId}{a p:PV}(h:(Nt T st t a).To p s):s=st:=by
 unfold Nt at h;split at h
 case h_2=>exact wh h (by simp)
 split at h
 case h_4=>exact wh h (by simp)
 ·split at h
  case h_4=>exact wh h (by simp)
  case h_3=>simp only[Me]at h;exact h.2.symm
  ·simp only[Me]at h;exact h.2.symm
  ·rename_i c l _;cases b:(zj _ 0&&zj c.sz 1)with
   |false=>rw[b]at h;exact wh h (by simp)
   |true=>rw[b]at h;simp only[we,P9]at h;exact h.2.2.symm
 ·split at h
  case h_2=>exact wh h (by simp)
  rename_i sz j off _ _ _ c l _;cases b:(zj sz c.sz)with
  |false=>rw[b]at h;exact wh h (by simp)
  |true=>rw[b]at h;simp only[we,P9]at h;exact h.2.2.symm
 ·simp only[Me]at h;exact h.2.symm
theorem Qx{Q:PV->Ob->Prop}{n:Nat}{t:Tr}:∀ {cs:List Bool},Ev X Q n (Pn cs t)->(∀c∈cs,c=true)/\Ev X Q n t
 |[],h=>⟨fun c a=>(by cases a),h⟩
 |c::cs,h=>by
  unfold Pn at h;rcases h.Fe with⟨a,e⟩|⟨_,e⟩
  ·obtain⟨g,i⟩:=Qx e;exact⟨fun d b=>by
    rcases yc.1 b with rfl|b
    ·exact a
    ·exact g d b,i⟩
  ·exact wh e zg
theorem WG:∀ {j:List ResultVar} {ps:List PV} {F:Fz} {ρ:Ex},Rel B h0 F ρ st fr h->pS X.C.T st j=some ps->(∀c∈LU X.C.T st j,c=true)->
  ∃vs F' ρ',QT X.C fr h j=some vs/\Bf F' ρ' st.nx ps vs/\Rel B h0 F' ρ' st fr h/\Le F ρ st.nx F' ρ' st.nx
 |[],ps,F,ρ,hr,hp,_=>by cases hp;exact⟨[],F,ρ,rfl,by simp,hr,zt⟩
 |r::j,ps,F,ρ,hr,hp,e=>by
  unfold pS at hp;split at hp
  case h_2=>cases hp
  rename_i p q g o;cases hp;have key:∃v F1 d,Y8 X.C fr h r=some v/\PR F1 d st.nx p v/\Rel B h0 F1 d st fr h/\Le F ρ st.nx F1 d st.nx:=by
   cases r with
   |tmp t=>
    simp only[oH,zm]at g;subst g;exact⟨_,F,ρ,rfl,hr.fp.slot t,hr,zt⟩
   |cell a t=>
    have k:∃s,(Nt X.C.T st t<|st.get a).To p s:=by
     simp only[oH]at g;split at g
     case h_3=>cases g
     ·rename_i u s i;cases g;exact⟨s,by rw[i];exact .val⟩
     ·rename_i c u s i;cases g;refine⟨s,?_⟩;have:=e c (by unfold LU;rw[i];exact List.mem_cons_self);rw[i,this];show(PO.ID true p s).To p s;rw[BT];exact⟨rfl,rfl,rfl⟩
    obtain⟨s,k⟩:=k;have z:s=st:=fW k;subst z;obtain⟨v',h',F',ρ',b,g2,g3,g4,g5,g6,g7,g8⟩:=jH (C:=X.C) hr.sr (hr.fp.slot a) k;cases m:Fv X.C.T h t (fr.get a)with
    |none=>rw[m]at b;rcases b with b|⟨b,_⟩<;>cases b
    |some w=>
     rw[m]at b;rcases b with b|⟨b,_⟩
     ·simp only[BE,zm,OR.val.injEq]at b;obtain⟨rfl,rfl⟩:=b;exact⟨w,F',ρ',m,g2,⟨hr.fp.mono g4,g3⟩,g4⟩
     ·cases b
  obtain⟨v,F1,d,y,D,A,x⟩:=key;obtain⟨vs,F2,ρ2,k5,k6,k7,k8⟩:=WG A o (fun c l=>e c (by
   cases r with
   |tmp t=>unfold LU;exact l
   |cell a t=>
    unfold LU;split
    ·exact List.mem_cons_of_mem _ l
    ·exact l))
  exact⟨v::vs,F2,ρ2,by simp[QT,y,k5],by simp only[A4];exact⟨D.mono k8,k6⟩,k7,x.trans k8⟩
theorem JY{nd:Bool}{d:Nat}(I:∀h0,FM B h0 X nd<|CC X nd d)(z:∀h0,FM B h0 X false<|CC X false d)(hmg:X.C.mg=false){g:FuncId}(hsp:X.C.spec g=none)(G:X.C.prim g=none)(hno:X.sp g=none){Q:PV->Ob->Prop}{n:Nat}{args:List PV}{k:PV->AM->Tr}{args':List V}
  (D:Ev X Q n (enter X (CC X nd d) (CC X false d) nd d g args st k)) (hr:Rel B h0 F ρ st fr h) (ha:Bf F ρ st.nx args args'):
  (X.C.prim g=none/\∃i,X.C.fn g=some i)/\∃l M,(∀m,M<=m->Bl X.C m (.fn g args') h=some l)/\(nd=false->∃x,l=[x])/\
   ∀x∈l,∃n',n'<=n/\∃r st',Ev X Q n' (k r st')/\∃F' ρ',PR F' ρ' st'.nx r x.1/\Dy B h0 F ρ st.nx h st' fr x.2 F' ρ'/\(∀sp,X.sp g=some sp->∀b,b<h.nx->x.2.get b=h.get b):=by
 unfold enter at D;split at D
 case h_1=>exact wh D zg
 rename_i i hi;cases hc:i.cert with
 |false=>rw[hc]at D;exact wh D zg
 |true=>
  rw[hc]at D;simp only[we]at D;have hr0:Rel B h0 F ρ (Aw (zx args.length<|Nat.sub i.ntmps args.length) (Ez args 0) st.ob st.nx) (Nh i.ntmps args') h:=⟨rQ ha i.ntmps st.ob st.nx rfl,hr.sr⟩;obtain⟨l,M,hM,O,W⟩:=O1 (ro:=false) (rv:=none) (ct:=true) (fun _=>⟨rfl,rfl⟩) I z n i.body (st:=Aw (zx args.length<|Nat.sub i.ntmps args.length) (Ez args 0) st.ob st.nx) [] (zd st.nx) hr0 D;have fin:∀x∈l,∃(r:List (V×H)) (M:Nat),(∀m:Nat,M<=m->∀q:Nat,M<=q->(match x.e with
      | .exit _=>none
      |_=>match Gg x.ds x.h with
       |some a=>match PJ X.C x.fr a i.results.toList with
        |some v=>some [(v,a)]
        |none=>none
       |none=>none)=some r)/\(nd=false->∃x,r=[x])/\∀x∈r,∃n',n'<=n/\∃r st',Ev X Q n' (k r st')/\∃F' ρ',PR F' ρ' st'.nx r x.1/\Dy B h0 F ρ st.nx h st' fr x.2 F' ρ'/\(∀sp,X.sp g=some sp->∀b,b<h.nx->x.2.get b=h.get b):=by
   intro x hx;obtain⟨ps,⟨K,u,hge⟩,n1,hn1,c,A,F1,ρ1,s,Y,S,E⟩:=W x hx;obtain⟨e,fr1,hx0,ds1⟩:=x;simp only at K A s E ⊢;obtain⟨a,hlv,hsr1,hnx1,_⟩:=SR.leave u (fun b hb hp=>by
    have k1:=hge b hb;have k2:=hr.sr.lt b _ (hr.sr.pn b hp).1;omega) s.sr
   have hr1:Rel B h0 F1 ρ1 c fr1 a:=⟨s.fp,hsr1⟩;have hx1:h.nx<=a.nx:=by rw[hnx1];exact E
   rw[List.append_nil]at K;subst K;have go:(∀j,e≠ .exit j)->Ev X Q n1 (match pS X.C.T c i.results.toList with|some vs=>Pn (LU X.C.T c i.results.toList) (k (Go.Pe.one vs) ⟨st.n,st.fr,c.ob,c.nx⟩)|none=>.fail)->
     ∃v',PJ X.C fr1 a i.results.toList=some v'/\∃n',n'<=n/\∃r st',Ev X Q n' (k r st')/\∃F' ρ',PR F' ρ' st'.nx r v'/\Dy B h0 F ρ st.nx h st' fr a F' ρ'/\(∀sp,X.sp g=some sp->∀b,b<h.nx->a.get b=h.get b):=by
    intro hne o;split at o
    case h_2=>exact wh o zg
    rename_i ps hps;obtain⟨J,o⟩:=Qx o;obtain⟨vs,F2,ρ2,k1,k2,k3,k4⟩:=WG hr1 hps J;have U:Le F ρ st.nx F2 ρ2 c.nx:=⟨fun b cs hb=>k4.fz _ _<|S.fz _ _ hb,fun id hid=>by
     rcases k4.rho id (zh hid Y)with e|e
     ·rw[e];exact S.rho id hid
     ·exact .inr e,Y⟩
    have Z:∃r',PJ X.C fr1 a i.results.toList=some r'/\PR F2 ρ2 c.nx (Go.Pe.one ps) r':=by
     unfold PJ;rw[k1];cases ps with
     |nil=>simp at k2;subst k2;exact⟨_,rfl,by simp[Go.Pe.one,PR]⟩
     |cons p ps=>
      simp only[Bf]at k2;obtain⟨v1,vs1,rfl,g1,L⟩:=k2;cases ps with
      |nil=>simp at L;subst L;exact⟨_,rfl,g1⟩
      |cons q qs=>
       have g2':=L;simp only[Bf]at L;obtain⟨v2,vs2,rfl,_,_⟩:=L;refine⟨_,rfl,?_⟩;show PR F2 ρ2 c.nx (.tup (p::q::qs)) _;unfold PR;exact⟨_,rfl,by simp only[A4];exact⟨g1,by simpa only[A4]using g2'⟩⟩
    obtain⟨r',q1,R⟩:=Z;exact⟨r',q1,n1,hn1,_,_,o,F2,ρ2,R,⟨⟨⟨hr.fp.n,fun t=>(hr.fp.slot t).mono U⟩,k3.sr⟩,U,hx1⟩,fun sp h=>(by rw[hno]at h;cases h)⟩
   cases e with
   |normal=>
    obtain⟨v',q1,R⟩:=go (fun j=>by simp) A;exact⟨[(v',a)],0,fun m _ q _=>(by simp only[hlv,q1]),fun _=>⟨_,rfl⟩,fun y hy=>by cases zc.1 hy;exact R⟩
   |ret=>
    obtain⟨v',q1,R⟩:=go (fun j=>by simp) A;exact⟨[(v',a)],0,fun m _ q _=>(by simp only[hlv,q1]),fun _=>⟨_,rfl⟩,fun y hy=>by cases zc.1 hy;exact R⟩
   |exit j=>exact wh A zg
  obtain⟨r,M2,g1,L,g3⟩:=Mn (f:=fun _ _ (x:Det.X)=>match x.e with
      | .exit _=>none
      |_=>match Gg x.ds x.h with
       |some a=>match PJ X.C x.fr a i.results.toList with
        |some v=>some [(v,a)]
        |none=>none
       |none=>none) (P:=fun x=>∃n',n'<=n/\∃r st',Ev X Q n' (k r st')/\∃F' ρ',PR F' ρ' st'.nx r x.1/\Dy B h0 F ρ st.nx h st' fr x.2 F' ρ'/\(∀sp,X.sp g=some sp->∀b,b<h.nx->x.2.get b=h.get b)) O fin
  refine⟨⟨G,i,hi⟩,r,max M M2+1,fun m hm=>?_,L,g3⟩;obtain⟨w,rfl⟩:∃w,m=w+1:=⟨m-1,by omega⟩;have hd:=hM w (by omega) w (by omega);have hg:=g1 w (by omega) w (by omega);simp only at hd;have:Bl X.C (w+1) (.fn g args') h=(match BR X.C (Bl X.C w) none i.cert w i.body (Nh i.ntmps args') h []with
    |none=>none
    |some l=>match (bl l fun x=>match x.e with
     | .exit _=>none
     |_=>match Gg x.ds x.h with
      |some a=>match PJ X.C x.fr a i.results.toList with
       |some v=>some [(v,a)]
       |none=>none
      |none=>none)with
     |some r=>some<|bif X.C.mg then OE h.nx r else r
     |none=>none):=by
   rw[Bl];simp only[hsp,hi];rfl
  rw[this,hc,hd];simp only;have hg':(bl l fun x=>match x.e with
     | .exit _=>none
     |_=>match Gg x.ds x.h with
      |some a=>match PJ X.C x.fr a i.results.toList with
       |some v=>some [(v,a)]
       |none=>none
      |none=>none)=some r:=hg
  rw[hg',hmg];rfl
theorem R1{nd:Bool}{d:Nat}(A:∀h0,FM B h0 X nd<|CC X nd d)(o:∀h0,FM B h0 X false<|CC X false d){id:Nat}{Q:PV->Ob->Prop}{n:Nat}{args:List PV}{k:PV->AM->Tr}{args':List V}
  (I:Ev X Q n (mG X (CC X nd d) (CC X false d) nd d id args st k)) (hr:Rel B h0 F ρ st fr h) (ha:Bf F ρ st.nx args args'):
  ∃c,AdE X ρ h args' (.rnd id) c/\∃l M,(∀m,M<=m->Bl X.C m c h=some l)/\(nd=false->∃x,l=[x])/\
   ∀x∈l,∃n',n'<=n/\∃r st',Ev X Q n' (k r st')/\∃F' ρ',PR F' ρ' st'.nx r x.1/\Dy B h0 F ρ st.nx h st' fr x.2 F' ρ':=by
 unfold mG at I;split at I
 case h_2=>exact wh I zg
 rename_i f r ps asg b n0 sl hob;obtain⟨D,m0,y,k1,k2,⟨ls,rfl,rfl,rfl,rfl,⟨l1,l2⟩,rfl,l4⟩,-⟩:=hr.sr.at hob;cases hsz:zj args.length ls.ps.size with
 |false=>rw[hsz]at I;exact wh I zg
 |true=>
 rw[hsz]at I;simp only[we]at I;have hlen:args'.length=ls.ps.size:=by rw[<-ha.len];exact zl hsz
 have hid:id<st.nx:=(hr.sr.own _ _ _ k1).1;have hr0:Rel B h0 F ρ (Nr ls.ps.toList args<|Aw ls.fr.n sl st.ob st.nx) (GJ ls.ps.toList args' ls.fr) h:=by
  have Z:Rel B h0 F ρ (Aw ls.fr.n sl st.ob st.nx) ls.fr h:=⟨⟨rfl,fun t=>l4 t⟩,hr.sr⟩;have go:∀(ts:List Tmp) (g:List PV) (E:List V) (s:AM) (f:Fr),s.nx=st.nx->Bf F ρ st.nx g E->Rel B h0 F ρ s f h->Rel B h0 F ρ (Nr ts g s) (GJ ts E f) h:=by
   intro ts;induction ts with
   |nil=>intro g E s f _ _ hs;cases g<;>exact hs
   |cons t ts ih=>
    intro g E s f hn hp hs;cases g with
    |nil=>simp only[Cf]at hp;subst hp;exact hs
    |cons a g=>
     simp only[Bf]at hp;obtain⟨v,vs,rfl,p1,p2⟩:=hp;simp only[Nr,GJ];refine ih g vs _ _ ?_ p2 ?_
     ·cases z6 t s.n<;>exact hn
     ·unfold Fr.bR;rw[show s.n=f.n from hs.fp.n];cases z6 t f.n with
      |false=>exact hs
      |true=>exact hs.set (by rw[hn];exact p1)
  exact go _ _ _ _ _ rfl ha Z
 have hnx0:st.nx<=(Nr ls.ps.toList args<|Aw ls.fr.n sl st.ob st.nx).nx:=by
  have go:∀(ts:List Tmp) (g:List PV) (s:AM),(Nr ts g s).nx=s.nx:=by
   intro ts;induction ts with
   |nil=>intro g s;cases g<;>rfl
   |cons t ts ih=>
    intro g s;cases g with
    |nil=>rfl
    |cons a g=>simp only[Nr];rw[ih];cases z6 t s.n<;>rfl
  rw[go];exact zd _
 obtain⟨L,M1,hM1,U,P⟩:=O1 (ro:=true) (rv:=some D) (ct:=false) (fun e=>by cases e) A o n ls.asg [] hnx0 hr0 I;refine⟨_,⟨D,m0,ls,k1,k2,hlen,rfl⟩,?_⟩;have fin:∀x∈L,∃(r:List (V×H)) (M:Nat),(∀m:Nat,M<=m->∀q:Nat,M<=q->(match x.e,x.h.get D with
   | .normal,some (.loop l1)=>match l1.st with
    | .ready=>match BR X.C (Bl X.C m) (some D) false q ls.body x.fr (x.h.put D<|.loop { l1 with st:=.busy }) x.ds with
     |some l2=>bl l2 fun y=>match y.h.get D with
      |some (.loop l3)=>match y.e with
       | .normal=>some [(V.bool true,y.h.put D<|.loop { l3 with st:=.ready,pend:=none })]
       | .ret=>some [(V.bool false,y.h.put D<|.loop { l3 with st:=.done,pend:=some .ret })]
       | .exit i=>some [(V.bool false,y.h.put D<|.loop { l3 with st:=.done,pend:=some (.exit i) })]
      |_=>none
     |none=>none
    |_=>none
   |_,_=>none)=some r)/\(nd=false->∃x,r=[x])/\∀x∈r,∃n',n'<=n/\∃r st',Ev X Q n' (k r st')/\∃F' ρ',PR F' ρ' st'.nx r x.1/\Dy B h0 F ρ st.nx h st' fr x.2 F' ρ':=by
  intro x hx;obtain⟨ps1,_,n1,hn1,s,j,F1,ρ1,G,hb1,hl1,hx1⟩:=P x hx;obtain⟨e,fr1,h1,ds1⟩:=x;simp only at j G hx1 ⊢;cases e with
  |exit i=>exact wh j zg
  |ret=>exact wh j zg
  |normal=>
  simp only at j;split at j
  case h_2=>exact wh j zg
  rename_i f' r' ps' asg' b' n' sl' O;have hs1:SR B h0 F1 ρ1 s.nx s.ob h1:=G.sr.mA;obtain⟨J,m1,y1,q1,q2,⟨p,rfl,rfl,rfl,rfl,⟨la1,la2⟩,rfl,la4⟩,-⟩:=hs1.at O;obtain⟨rfl,rfl⟩:J=D/\m1=m0:=by
   have:=hl1.at hid q1;rw[k1]at this;cases this;exact⟨rfl,rfl⟩
  have hr2:Rel B h0 F1 ρ1 (s.setObj id<|.lp f' r' p.ps p.asg p.body .busy p.fr.n sl') fr1 (h1.put J<|.loop { p with st:=.busy }):=
   ⟨⟨G.fp.n,fun t=>G.fp.slot t⟩,hs1.set O q1 q2 rfl rfl (o':=.lp f' r' p.ps p.asg p.body .busy p.fr.n sl') ⟨_,rfl,rfl,rfl,rfl,rfl,rfl,la4⟩⟩
  obtain⟨L2,M2,hM2,W,Y⟩:=O1 (ro:=true) (rv:=some J) (ct:=false) (fun e=>by cases e) A o n1 ls.body ds1 (show st.nx<=(s.setObj id<|.lp f' r' p.ps p.asg p.body .busy p.fr.n sl').nx from hb1) hr2 j;have fin2:∀y∈L2,∃(r:List (V×H)) (M:Nat),(∀m:Nat,M<=m->∀q:Nat,M<=q->(match y.h.get J with
    |some (.loop l3)=>match y.e with
     | .normal=>some [(V.bool true,y.h.put J<|.loop { l3 with st:=.ready,pend:=none })]
     | .ret=>some [(V.bool false,y.h.put J<|.loop { l3 with st:=.done,pend:=some .ret })]
     | .exit i=>some [(V.bool false,y.h.put J<|.loop { l3 with st:=.done,pend:=some (.exit i) })]
    |_=>none)=some r)/\(nd=false->∃x,r=[x])/\∀x∈r,∃n',n'<=n/\∃r st',Ev X Q n' (k r st')/\∃F' ρ',PR F' ρ' st'.nx r x.1/\Dy B h0 F ρ st.nx h st' fr x.2 F' ρ':=by
   intro y hy;obtain⟨ps2,_,n2,hn2,s2,u,F2,T,hr3,hb2,hl2,hx2⟩:=Y y hy;obtain⟨e2,fr2,h2,ds2⟩:=y;simp only at u hr3 hx2 ⊢;split at u
   case h_2=>exact wh u zg
   rename_i f2 r2 pp2 aa2 bb2 ss2 nn2 sl2 K;have hs3:SR B h0 F2 T s2.nx s2.ob h2:=hr3.sr.mA;obtain⟨c2,m2,y2,w1,w2,⟨w,rfl,rfl,rfl,rfl,_,rfl,lb4⟩,-⟩:=hs3.at K;have S:Le F ρ st.nx F2 T s2.nx:=by
    have h:=hl1.trans hl2;exact⟨h.fz,h.rho,hb2⟩
   obtain⟨rfl,rfl⟩:c2=J/\m2=m1:=by
    have:=S.at hid w1;rw[k1]at this;cases this;exact⟨rfl,rfl⟩
   have hnx:h.nx<=h2.nx:=zi hx1 hx2;have done:∀(sb:LpS) (R:LoopState) (pe:Option Code) (rb:Bool),LpR sb R pe->Ev X Q n2 (k (.bl rb) ⟨st.n,st.fr,(s2.setObj id<|.lp f2 r2 w.ps w.asg w.body sb w.fr.n sl2).ob,s2.nx⟩)->
     ∃n',n'<=n/\∃r st',Ev X Q n' (k r st')/\∃F' ρ',PR F' ρ' st'.nx r (V.bool rb)/\Dy B h0 F ρ st.nx h st' fr (h2.put c2<|.loop { w with st:=R,pend:=pe }) F' ρ':=by
    intro sb R pe rb hlr he3;refine⟨n2,zi hn2 hn1,_,_,he3,F2,T,IV _,⟨⟨⟨hr.fp.n,fun t=>(hr.fp.slot t).mono S⟩,?_⟩,S,hnx⟩⟩;exact hs3.set K w1 w2 rfl rfl (o':=.lp f2 r2 w.ps w.asg w.body sb w.fr.n sl2) ⟨_,rfl,rfl,rfl,rfl,hlr,rfl,lb4⟩
   cases e2 with
   |normal=>exact⟨[(.bool true,h2.put c2<|.loop { w with st:=.ready,pend:=none })],0,fun m _ q _=>(by simp only[w2]),fun _=>⟨_,rfl⟩,fun z hz=>by cases zc.1 hz;exact done .ready _ _ true ⟨rfl,rfl⟩ u⟩
   |ret=>exact⟨[(.bool false,h2.put c2<|.loop { w with st:=.done,pend:=some .ret })],0,fun m _ q _=>(by simp only[w2]),fun _=>⟨_,rfl⟩,fun z hz=>by cases zc.1 hz;exact done .ret _ _ false ⟨rfl,rfl⟩ u⟩
   |exit i=>exact⟨[(.bool false,h2.put c2<|.loop { w with st:=.done,pend:=some (.exit i) })],0,fun m _ q _=>(by simp only[w2]),fun _=>⟨_,rfl⟩,fun z hz=>by cases zc.1 hz;exact done (.exit i) _ _ false ⟨rfl,rfl⟩ u⟩
  obtain⟨r,M3,j1,j2,j3⟩:=Mn W fin2;refine⟨r,max M2 M3,fun m hm q hq=>?_,j2,j3⟩;have a1:=hM2 m (by omega) q (by omega);simp only at a1;have a2:=j1 m (by omega) q (by omega);simp only[q2,la1];rw[a1];exact a2
 obtain⟨r,M4,j1,j2,j3⟩:=Mn U fin;refine⟨r,max M1 M4+1,fun m hm=>?_,j2,j3⟩;obtain⟨m',rfl⟩:∃m',m=m'+1:=⟨m-1,by omega⟩;have a1:=hM1 m' (by omega) m' (by omega);simp only at a1;have a2:=j1 m' (by omega) m' (by omega);rw[Bl];simp only[Up];rw[a1];exact a2
end
section
variable {B:Nat}{h0:H0}{X:AV}{F F1 F':Fz}{ρ:Ex}{N:Nat}{st st':AM}{fr:Fr}{h h':H}
theorem dT{p:PV}{v:V}(hp:PR F ρ N p v):∃w,Bf F ρ N p.cells w/\(Mr p=true->v=.agg w)/\(Mr p=false->w=[v]):=by
 cases p with
 |agg l=>simp only[PR]at hp;obtain⟨cs,rfl,a⟩:=hp;exact⟨cs,a,fun _=>rfl,fun e=>by cases e⟩
 |_=>exact⟨[v],by simp only[zo,A4,Cf,ve];exact hp,fun e=>(by cases e),fun _=>rfl⟩
theorem Sf{st:AM}{s:Sh}{p:PV}{x:s.T}{v:V}{w:List V}(a:EC st s p=some (true,x))(k:Mr p=true->v=.agg w)(j:Mr p=false->w=[v])(m:∀xs,Dk st p.cells=some (true,xs)->MG F xs w):PC F (Cm s x) v:=by
 unfold EC at a;cases b:(Mr p==s.Q4)with
 |false=>rw[b]at a;cases a
 |true=>
  rw[b]at a;simp only[we]at a;split at a
  case h_2=>cases a
  rename_i c cs d;split at a
  case h_2=>cases a
  rename_i y l;simp only[zm,Prod.mk.injEq,ze]at a;obtain⟨⟨e,rfl⟩,rfl⟩:=a;have g:=MG.dc (fun ρ N=>RM (m cs d ρ N) e) l;have i:=PC.Cm g;have b:Mr p=s.Q4:=by simpa using b
  cases hp:s.Q4 with
  |true=>rw[hp]at b;rw[k b];exact i.1 hp
  |false=>rw[hp]at b;exact i.2 hp v<|j b
theorem handed:∀ {ps:List PV} {vs:List V} {st:AM} {F:Fz},SR B h0 F ρ st.nx st.ob h->Bf F ρ st.nx ps vs->
  ∃F1,SR B h0 F1 ρ (Bv (ps.flatMap zo) st).nx (Bv (ps.flatMap zo) st).ob h/\(∀b cs,F b=some cs->F1 b=some cs)/\∀l i,Dx st l ps=some (true,i)->MG F1 (Ae l i) vs
 |[],vs,st,F,hr,hp=>⟨F,hr,fun _ _ h=>h,fun l i e=>by
  have j:vs=[]:=by simpa using hp
  subst j;match l,i,e with
  |[],_,_=>intro ρ' N';simp[Ae]
  |[a],_,e=>cases e
  |a::b::l,_,e=>cases e⟩
 |p::ps,vs,st,F,hr,hp=>by
  simp only[Bf]at hp;obtain⟨v,vs,rfl,s,m⟩:=hp;obtain⟨w,c1,c2,c3⟩:=dT s;obtain⟨F1,g1,g2,g3⟩:=IY hr c1;have g:Bf F1 ρ (Bv p.cells st).nx ps vs:=by rw[(DH p.cells st).1];exact m.mono<|Le.aQ g2
  obtain⟨o,t,k,A⟩:=handed g1 g;rw[List.flatMap_cons,IG];refine⟨o,t,fun b cs z=>k b cs<|g2 b cs z,fun l i e=>?_⟩;match l,i,e with
  |[],_,e=>cases e
  |[a],i,e=>
   cases ps with
   |cons q C=>cases e
   |nil=>
    have j:vs=[]:=by simpa using m
    subst j;have:=(Sf (st:=st) (F:=F1) (by simpa [Dx]using e) c2 c3 g3).mono k;intro ρ' N';simp only[Ae,A4,Cf,ve];exact this ρ' N'
  |a::b::l,i,e=>
   unfold Dx at e;split at e
   case h_2=>cases e
   rename_i c x d y r u;simp only[zm,Prod.mk.injEq,ze]at e;obtain⟨⟨rfl,rfl⟩,rfl⟩:=e;unfold Ae;exact MG.cons ((Sf r c2 c3 g3).mono k) (A (b::l) y<|by rw[MS<|Nl p.cells st];exact u)
theorem SR.after{ob:Ob}(hr:SR B h0 F ρ N ob h)(i:∀b,b<h.nx->h'.get b=h.get b)(z:h.nx<=h'.nx)(j:∀b o,h'.get b=some o->b<h'.nx)(m:∀b cs,F b=some cs->F' b=some cs)
  (l:∀b cs,F' b=some cs->F b=some cs\/h.nx<=b) (d:∀b cs,F' b=some cs->∃t fz,h'.get b=some (.cells cs t fz)):SR B h0 F' ρ N ob h':=by
 refine⟨fun id o u=>?_,hr.inj,d,hr.own,hr.dead,fun b a w=>?_,j,zi hr.le z,fun b cs a=>?_,hr.gl,fun b a=>by obtain⟨p,y,A⟩:=hr.pn b a;exact⟨by rw[i b<|hr.lt b _ p];exact p,y,A⟩⟩
 ·obtain⟨b,n,x,c,k,D,s,v⟩:=hr.obj id o u;have a:=hr.lt b x k;refine⟨b,n,x,c,by rw[i b a];exact k,D.mono<|Le.aQ (ρ:=ρ) m,fun e=>?_,fun e=>?_⟩
  ·cases q:F' b with
   |none=>rfl
   |some cs=>
    rcases l b cs q with g|g
    ·rw[s e]at g;cases g
    ·omega
  ·obtain⟨cs,t,fz,r,C⟩:=v e;exact⟨cs,t,fz,r,m _ _ C⟩
 ·rw[i b<|zh a hr.le];exact hr.old b a w
 ·rcases l b cs a with c|c
  ·exact hr.fo b cs c
  ·exact .inr<|.inl<|zi hr.le c
theorem SR.gh{ob:Ob}(hr:SR B h0 F ρ N ob h):Gh h:=fun x d=>by
 obtain⟨a,b,c⟩:=hr.gl x d;rw[hr.old _ a b];exact c
structure Tl(C:Ctx)(f:FuncId)(sp:Am):Prop where
 prim:C.prim f=none
 fn:∃i,C.fn f=some i
 run:∀(F:Fz) (h:H) (args:List V) (i:(By sp.ins).T),(∀b cs,F b=some cs->∃t fz,h.get b=some (.cells cs t fz))->(∀b o,h.get b=some o->b<h.nx)->Gh h->MG F (Ae sp.ins i) args->sp.pre i=true->
  ∃l M,(∀m,M<=m->Bl C m (.fn f args) h=some l)/\(sp.nd=false->∃x,l=[x])/\∀x∈l,h.nx<=x.2.nx/\(∀b,b<h.nx->x.2.get b=h.get b)/\(∀b o,x.2.get b=some o->b<x.2.nx)/\
   ∃F':Fz,(∀b cs,F b=some cs->F' b=some cs)/\(∀b cs,F' b=some cs->F b=some cs\/h.nx<=b)/\(∀b cs,F' b=some cs->∃t fz,x.2.get b=some (.cells cs t fz))/\
    PC F' (one (Ae sp.outs (sp.f i))) x.1
structure Ab2(C:Ctx)(f:FuncId)(sp:Am):Prop where
 run:∃q,C.prim f=some q/\∀(F:Fz) (h:H) (args:List V) (i:(By sp.ins).T),MG F (Ae sp.ins i) args->sp.pre i=true->∃v,q args h=some (v,h)/\PC F (one (Ae sp.outs (sp.f i))) v
def Af(C:Ctx)(f:FuncId)(sp:Am):Prop:=Tl C f sp\/Ab2 C f sp
theorem Af.of0{C:Ctx}{f:FuncId}{sp:Am}(h:Tl C f sp):Af C f sp:=.inl h
theorem Af.zero{C:Ctx}{f:FuncId}{sp:Am}(h:Af C f sp)(hp:C.prim f=none):Tl C f sp:=by
 rcases h with h|⟨q,a,_⟩
 ·exact h
 ·rw[hp]at a;cases a
theorem Af.go{C:Ctx}{f:FuncId}{sp:Am}(ok:Af C f sp)(F:Fz)(h:H)(args:List V)(i:(By sp.ins).T)(a:∀b cs,F b=some cs->∃t fz,h.get b=some (.cells cs t fz))(d:∀b o,h.get b=some o->b<h.nx)(e:Gh h)(k:MG F (Ae sp.ins i) args)(hp:sp.pre i=true):
  ∃l,(((C.prim f=none/\∃i,C.fn f=some i)/\∃M,∀m,M<=m->Bl C m (.fn f args) h=some l)\/∃q x,C.prim f=some q/\q args h=some x/\l=[x])/\(sp.nd=false->∃x,l=[x])/\∀x∈l,h.nx<=x.2.nx/\(∀b,b<h.nx->x.2.get b=h.get b)/\(∀b o,x.2.get b=some o->b<x.2.nx)/\
   ∃F':Fz,(∀b cs,F b=some cs->F' b=some cs)/\(∀b cs,F' b=some cs->F b=some cs\/h.nx<=b)/\(∀b cs,F' b=some cs->∃t fz,x.2.get b=some (.cells cs t fz))/\
    PC F' (one<|Ae sp.outs<|sp.f i) x.1:=by
 rcases ok with ok|⟨q,r,c⟩
 ·obtain⟨l,M,j,g,s⟩:=ok.run F h args i a d e k hp;exact⟨l,.inl ⟨⟨ok.prim,ok.fn⟩,M,j⟩,g,s⟩
 ·obtain⟨v,j,g⟩:=c F h args i k hp;refine⟨[(v,h)],.inr ⟨q,(v,h),r,j,rfl⟩,fun _=>⟨_,rfl⟩,fun x p=>?_⟩;cases zc.1 p;exact⟨zd _,fun _ _=>rfl,d,F,fun _ _ h=>h,fun _ _ h=>.inl h,a,g⟩
theorem DC.sc:∀ {s:Sh} {x:s.T} {cs:List V},s.sc=true->DC F s x cs->DC F' s x cs
 | .int _,_,_,_,h=>by simpa only[DC]using h
 | .bool,_,_,_,h=>by simpa only[DC]using h
 | .str,_,_,_,h=>by simpa only[DC]using h
 | .list s,l,_,e,h=>by cases e
 | .pair a b,x,_,e,h=>by
  simp only[DC]at h ⊢;simp only[Sh.sc,ze]at e;obtain⟨c,d,rfl,i,g⟩:=h;exact⟨c,d,rfl,i.sc e.1,g.sc e.2⟩
 | .unit,_,_,_,h=>by simpa only[DC]using h
 | .nlist s,l,_,e,h=>by cases e
 | .fnv,_,_,_,h=>by simpa only[DC]using h
 | .ptr _,_,_,e,_=>by cases e
theorem SK:∀ {s:Sh} {x:s.T} {cs:List V},s.sc=true->Bf F ρ N (flat s x) cs->MG F' (flat s x) cs
 | .int k,x,cs,_,h=>fun ρ' N'=>by
  simp only[flat,Bf]at h ⊢;obtain⟨v,vs,rfl,g,rfl⟩:=h;exact⟨v,[],rfl,by simp only[PR]at g ⊢;exact g.sc rfl,rfl⟩
 | .bool,x,cs,_,h=>fun ρ' N'=>by
  simp only[flat,Bf]at h ⊢;obtain⟨v,vs,rfl,g,rfl⟩:=h;exact⟨v,[],rfl,by simp only[PR]at g ⊢;exact g.sc rfl,rfl⟩
 | .str,x,cs,_,h=>fun ρ' N'=>by
  simp only[flat,Bf]at h ⊢;obtain⟨v,vs,rfl,g,rfl⟩:=h;exact⟨v,[],rfl,by simp only[PR]at g ⊢;exact g.sc rfl,rfl⟩
 | .list s,x,cs,e,h=>by cases e
 | .pair a b,(x,y),cs,e,h=>fun ρ' N'=>by
  simp only[Sh.sc,ze]at e;have key:∀(ps i:List PV) (l:List V),Bf F ρ N (ps++i) l->∃c d,l=c++d/\Bf F ρ N ps c/\Bf F ρ N i d:=by
   intro ps;induction ps with
   |nil=>intro i l j;exact⟨[],l,rfl,by simp,j⟩
   |cons p ps o=>
    intro i l j;simp only[List.cons_append,Bf]at j;obtain⟨v,vs,rfl,g,m⟩:=j;obtain⟨c,d,rfl,h3,h4⟩:=o i vs m;exact⟨v::c,d,rfl,by simp only[A4];exact⟨g,h3⟩,h4⟩
  obtain⟨c,d,rfl,g,m⟩:=key _ _ _ h;exact(SK e.1 g ρ' N').append<|SK e.2 m ρ' N'
 | .unit,_,cs,_,h=>fun ρ' N'=>by simpa [flat]using h
 | .nlist s,x,cs,e,h=>by cases e
 | .fnv,x,cs,_,h=>fun ρ' N'=>by
  simp only[flat,Bf]at h ⊢;obtain⟨v,vs,rfl,g,rfl⟩:=h;refine⟨v,[],rfl,?_,rfl⟩;cases (x:Option Fn)<;>simp only[PR,Cf]at g ⊢<;>exact g
 | .ptr _,_,_,e,_=>by cases e
theorem YB{s:Sh}{x:s.T}{v:V}(e:s.sc=true)(h:PC F (Cm s x) v):PC F' (Cm s x) v:=by
 intro ρ' N';have h:=h ρ' N';cases s with
 |pair a b=>
  unfold Pe.Cm PR at h ⊢;obtain⟨cs,rfl,c⟩:=h;exact⟨cs,rfl,SK e c ρ' N'⟩
 |unit=>unfold Pe.Cm PR at h ⊢;obtain⟨cs,rfl,c⟩:=h;exact⟨cs,rfl,by simpa using c⟩
 |int k=>unfold Pe.Cm PR at h ⊢;exact h.sc rfl
 |bool=>unfold Pe.Cm PR at h ⊢;exact h.sc rfl
 |str=>unfold Pe.Cm PR at h ⊢;exact h.sc rfl
 |list s=>cases e
 |nlist s=>cases e
 |ptr s=>cases e
 |fnv=>
  unfold Pe.Cm at h ⊢;cases (x:Option Fn)<;>simp only[PR,Cf]at h ⊢<;>exact h
theorem Ze:∀ {l:List Sh} {x:(By l).T} {vs:List V},l.all Sh.sc=true->MG F (Ae l x) vs->MG F' (Ae l x) vs
 |[],_,vs,_,h=>fun ρ' N'=>by have:=h ρ' N';simpa [Ae]using this
 |[a],x,vs,e,h=>fun ρ' N'=>by
  have g:=h ρ' N';simp only[Ae,Bf]at g;obtain⟨v,i,rfl,k,rfl⟩:=g;simp only[zn,List.all_nil,zr]at e;simp only[Ae,A4,Cf,ve];refine YB (F:=F) e (fun c d=>?_) ρ' N';have:=h c d;simpa only[Ae,A4,Cf,ve]using this
 |a::b::l,x,vs,e,h=>by
  have g:=h (fun _=>none) 0;simp only[Ae,Bf]at g;obtain⟨v,i,rfl,_,_⟩:=g;have j:a.sc=true/\(b::l).all Sh.sc=true:=by simpa [zn,Bool.and_assoc]using e
  unfold Ae at h ⊢;exact MG.cons (YB j.1 fun c d=>((A4 ..).1<|h c d).1)<|Ze j.2 fun c d=>((A4 ..).1<|h c d).2
theorem PS{l:List Sh}{x:(By l).T}{v:V}:PC F (one<|Ae l x) v↔∃vs,MG F (Ae l x) vs/\v=(match vs with|[u]=>u|us=>.tup us):=by
 have c:∀ps:List PV,(∀u,ps≠[u])->(PC F (one ps) v↔∃vs,MG F ps vs/\v=(match vs with|[u]=>u|us=>.tup us)):=by
  intro ps d;have p:one ps=.tup ps:=by
   unfold one;split
   ·rename_i u;exact wh rfl (d u)
   ·rfl
  rw[p];constructor
  ·intro h;have g:=h (fun _=>none) 0;unfold PR at g;obtain⟨cs,rfl,k⟩:=g;refine⟨cs,fun ρ N=>?_,?_⟩
   ·have j:=h ρ N;unfold PR at j;obtain⟨cs',e,o⟩:=j;cases e;exact o
   ·have i:=k.len;split
    ·rename_i u;cases ps with
     |nil=>cases i
     |cons q m=>cases m with
      |nil=>exact wh rfl (d q)
      |cons _ _=>cases i
    ·rfl
  ·rintro⟨vs,g,rfl⟩ ρ N;unfold PR;have i:=(g ρ N).len;split
   ·rename_i u;cases ps with
    |nil=>cases i
    |cons q m=>cases m with
     |nil=>exact wh rfl (d q)
     |cons _ _=>cases i
   ·exact⟨_,rfl,g ρ N⟩
 match l,x with
 |[],x=>exact c [] (fun u e=>by cases e)
 |[a],x=>
  simp only[Ae,one];constructor
  ·intro h;exact⟨[v],fun ρ N=>by simp only[A4,Cf,ve];exact h ρ N,rfl⟩
  ·rintro⟨vs,g,rfl⟩ ρ N;have k:=g ρ N;simp only[Bf]at k;obtain⟨u,us,rfl,j,rfl⟩:=k;exact j
 |a::b::l,x=>
  refine c _<|fun u e=>?_;unfold Ae at e;cases l<;>cases e
theorem eG{nd:Bool}{g:FuncId}{sp:Am}(_hsp:X.sp g=some sp)(A:Af X.C g sp)(D:nd=false->sp.nd=false){Q:PV->Ob->Prop}{n:Nat}{args:List PV}{k:PV->AM->Tr}{args':List V}(s:Ev X Q n (qF sp args st k))(hr:Rel B h0 F ρ st fr h)(U:Bf F ρ st.nx args args'):
  ∃l,Nz X ρ h args' (.fn g) l/\(nd=false->∃x,l=[x])/\
   ∀x∈l,∃n',n'<=n/\∃r st',Ev X Q n' (k r st')/\∃F' ρ',PR F' ρ' st'.nx r x.1/\Dy B h0 F ρ st.nx h st' fr x.2 F' ρ'/\(∀sp,X.sp g=some sp->∀b,b<h.nx->x.2.get b=h.get b):=by
 unfold qF at s;split at s
 case h_2=>exact wh s zg
 rename_i c i P;rcases s.Fe with⟨E,a⟩|⟨_,a⟩
 case inr=>exact wh a zg
 simp only[ze]at E;obtain⟨rfl,o⟩:=E;obtain⟨F1,g1,g2,g3⟩:=handed hr.sr U;obtain⟨l,z,hone,hall⟩:=A.go F1 h args' i g1.frz hr.sr.lt hr.sr.gh (g3 _ i P) o;have y:Nz X ρ h args' (.fn g) l:=by
  rcases z with⟨m,M,z⟩|⟨q,x,m,v,rfl⟩
  ·exact .Bl ⟨rfl,m⟩ z
  ·exact .prim m v
 refine⟨l,y,fun e=>hone<|D e,fun x W=>?_⟩;obtain⟨u,p,K,F',G,T,Y,I⟩:=hall x W;refine⟨n,zd _,_,_,a,?_⟩;cases w:sp.outs.all Sh.sc with
 |true=>
  simp only[we];have R:PC F (one<|Ae sp.outs<|sp.f i) x.1:=by
   obtain⟨vs,m,v⟩:=PS.1 I;exact PS.2 ⟨vs,Ze w m,v⟩
  refine⟨F,ρ,R ρ _,⟨⟨hr.fp,?_⟩,zt,u⟩,fun _ _ b d=>p b d⟩;refine hr.sr.after p u K (fun _ _ h=>h) (fun _ _ h=>.inl h)<|fun b cs d=>?_;obtain⟨t,fz,J⟩:=hr.sr.frz b cs d;exact⟨t,fz,by rw[p b<|hr.sr.lt b _ J];exact J⟩
 |false=>
  simp only[wg];obtain⟨L,S,O⟩:=DH (args.flatMap zo) st;have j:Le F ρ st.nx F' ρ (Bv (args.flatMap zo) st).nx:=by
   rw[L];exact Le.aQ fun b cs d=>G b cs<|g2 b cs d
  refine⟨F',ρ,I ρ _,⟨⟨⟨O.trans hr.fp.n,fun t=>?_⟩,?_⟩,j,u⟩,fun _ _ b d=>p b d⟩
  ·have:(Bv (args.flatMap zo) st).get t=st.get t:=by unfold AM.get;rw[S]
   rw[this];exact(hr.fp.slot t).mono j
  ·exact g1.after p u K G T Y
structure Lo(C:Ctx)(f:FuncId)(w:Za):Prop where
 prim:C.prim f=none
 fn:∃i,C.fn f=some i
 len:∀i l,w.pre i l=true->(w.g i l).length=l.length
 run:∀(F:Fz) (h:H) (args:List V) (i:(By w.ins).T) (l:List w.el.T) (b:Nat) (cs:List V) (fz:Nat×Nat) (o:Nat),(∀b cs,F b=some cs->∃t fz,h.get b=some (.cells cs t fz))->(∀b o,h.get b=some o->b<h.nx)->Gh h->MG F (Ae w.ins i) args->w.pre i l=true->
  h.get b=some (.cells cs w.ty fz)->Ey F w.el l cs->fz.2<=fz.1->F b=none->(o=0\/o=w.el.sz)->
  ∃x M,(∀m,M<=m->Bl C m (.fn f (args++[.sl b 0 l.length l.length o])) h=some [x])/\x.1=.tup []/\h.nx<=x.2.nx/\(∀c,c<h.nx->c≠b->x.2.get c=h.get c)/\(∀c y,x.2.get c=some y->c<x.2.nx)/\
   ∃F':Fz,(∀b cs,F b=some cs->F' b=some cs)/\(∀b cs,F' b=some cs->F b=some cs\/h.nx<=b)/\(∀b cs,F' b=some cs->∃t fz,x.2.get b=some (.cells cs t fz))/\
    ∃cs' fz',x.2.get b=some (.cells cs' w.ty fz')/\Ey F' w.el (w.g i l) cs'/\fz'.2<=fz'.1
 nils:∀(F:Fz) (h:H) (args:List V) (i:(By w.ins).T),(∀b cs,F b=some cs->∃t fz,h.get b=some (.cells cs t fz))->(∀b o,h.get b=some o->b<h.nx)->Gh h->MG F (Ae w.ins i) args->w.pre i []=true->
  ∃x M,(∀m,M<=m->Bl C m (.fn f (args++[.nils])) h=some [x])/\x.1=.tup []/\h.nx<=x.2.nx/\(∀c,c<h.nx->x.2.get c=h.get c)/\(∀c y,x.2.get c=some y->c<x.2.nx)/\
   ∃F':Fz,(∀b cs,F b=some cs->F' b=some cs)/\(∀b cs,F' b=some cs->F b=some cs\/h.nx<=b)/\(∀b cs,F' b=some cs->∃t fz,x.2.get b=some (.cells cs t fz))
theorem Bf.split:∀ {a b:List PV} {vs:List V},Bf F ρ N (a++b) vs->∃x y,vs=x++y/\Bf F ρ N a x/\Bf F ρ N b y
 |[],b,vs,h=>⟨[],vs,rfl,by simp,h⟩
 |p::a,b,vs,h=>by
  simp only[List.cons_append,Bf]at h;obtain⟨v,vs,rfl,c,d⟩:=h;obtain⟨x,y,rfl,h3,h4⟩:=d.split;exact⟨v::x,y,rfl,by simp only[A4];exact⟨c,h3⟩,h4⟩
theorem SR.wrote{ob:Ob}(hr:SR B h0 F ρ N ob h){id b n:Nat}{o o':Obj}{x':O}(D:AP ob id=some o)(u:ρ id=some (b,n))(w:b<h.nx)(J:F b=none)(G:o'.frozen=false)(z:h'.get b=some x')(K:YE F' ρ N n o' x')
  (C:∀c,c<h.nx->c≠b->h'.get c=h.get c) (hx:h.nx<=h'.nx) (x:∀b o,h'.get b=some o->b<h'.nx) (P:∀b cs,F b=some cs->F' b=some cs)
  (L:∀b cs,F' b=some cs->F b=some cs\/h.nx<=b) (A:∀b cs,F' b=some cs->∃t fz,h'.get b=some (.cells cs t fz)):SR B h0 F' ρ N (DR ob id o') h':=by
 have l:∀j,AP (DR ob id o') j=if j=id then some o' else AP ob j:=fun j=>Hn _ _ _ _ (by rw[D];rfl)
 have g:∀c,c<h.nx->F c=none->F' c=none:=fun c d U=>by
  cases p:F' c with
  |none=>rfl
  |some cs=>
   rcases L c cs p with q|q
   ·rw[U]at q;cases q
   ·omega
 refine⟨fun j oj a=>?_,fun i j oi oj c m S V a p q=>?_,A,hr.own,fun j a=>?_,fun c d M=>?_,x,zi hr.le hx,fun c cs d=>?_,hr.gl,fun c d=>?_⟩
 ·rw[l]at a;by_cases e:j=id
  ·subst e;simp only[wk,zm]at a;subst a;exact⟨b,n,x',u,z,K,fun _=>g b w J,fun e=>by rw[G]at e;cases e⟩
  ·rw[wc e]at a;obtain⟨c,m,y,p,q,Y,h4,T⟩:=hr.obj j oj a;have s:c≠b:=fun ec=>e<|hr.inj j id oj o c m n a D p<|ec▸u
   have d:=hr.lt c y q;refine⟨c,m,y,p,by rw[C c d s];exact q,Y.mono<|Le.aQ (ρ:=ρ) P,fun e=>g c d<|h4 e,fun e=>?_⟩;obtain⟨cs,t,fz,Z,k2⟩:=T e;exact⟨cs,t,fz,Z,P _ _ k2⟩
 ·have r:∀k ok,AP (DR ob id o') k=some ok->∃W,AP ob k=some W:=by
   intro k ok I;rw[l]at I;by_cases e:k=id
   ·exact⟨o,e▸D⟩
   ·rw[wc e]at I;exact⟨ok,I⟩
  obtain⟨_,v⟩:=r i oi V;obtain⟨_,E⟩:=r j oj a;exact hr.inj i j _ _ c m S v E p q
 ·rw[l]at a;by_cases e:j=id
  ·rw[wd e]at a;cases a
  ·rw[wc e]at a;exact hr.dead j a
 ·rw[C c (zh d hr.le)<|N1 (hr.own id b n u).2 d M];exact hr.old c d M
 ·rcases L c cs d with p|p
  ·exact hr.fo c cs p
  ·exact .inr<|.inl<|zi hr.le p
 ·obtain⟨v,E,R⟩:=hr.pn c d;have s:c≠b:=fun e=>R id n<|e▸u
  exact⟨by rw[C c (hr.lt c _ v) s];exact v,E,R⟩
theorem rev_eq{α:Type}{a:List α}{x:α}{r:List α}(h:a.reverse=x::r):a=r.reverse++[x]:=by
 have:=wi List.reverse h;simpa using this
theorem Yq{nd:Bool}{g:FuncId}{w:Za}(K:X.sp g=none)(j:Lo X.C g w){Q:PV->Ob->Prop}{n:Nat}{args:List PV}{k:PV->AM->Tr}{args':List V}(a:Ev X Q n (WX w args st k))(hr:Rel B h0 F ρ st fr h)(P:Bf F ρ st.nx args args'):
  ∃l,Nz X ρ h args' (.fn g) l/\(nd=false->∃x,l=[x])/\
   ∀x∈l,∃n',n'<=n/\∃r st',Ev X Q n' (k r st')/\∃F' ρ',PR F' ρ' st'.nx r x.1/\Dy B h0 F ρ st.nx h st' fr x.2 F' ρ'/\(∀sp,X.sp g=some sp->∀b,b<h.nx->x.2.get b=h.get b):=by
 unfold WX at a;split at a
 ·rename_i id sz nn r q;rw[rev_eq q]at P;obtain⟨a1,a2,rfl,D,A⟩:=P.split;simp only[Bf]at A;obtain⟨v,_,rfl,hv,rfl⟩:=A;obtain⟨F1,g1,g2,g3⟩:=handed hr.sr D;split at a
  case h_2=>exact wh a zg
  rename_i c i t s l R ho;cases z:zj t w.ty with
  |false=>rw[z]at a;exact wh a zg
  |true=>
  rw[z]at a;simp only[we]at a;have z:=zl z;split at a
  case h_2=>exact wh a zg
  rename_i l' U;obtain⟨e,rfl⟩:=CM U;cases e;rcases a.Fe with⟨I,d⟩|⟨_,d⟩
  case inr=>exact wh d zg
  simp only[ze,w5]at I;obtain⟨⟨⟨rfl,p⟩,hn⟩,E⟩:=I;have E:=zl E;subst hn E z;obtain⟨e1,e2,e3⟩:=DH (r.reverse.flatMap zo) st;obtain⟨b,m,x,h1,h2,⟨cs,fz,rfl,k1,k2,k3⟩,h4,_⟩:=g1.obj id _ ho;simp only[PR]at hv;obtain⟨o,ho',rfl⟩:∃o,(o=0\/o=w.el.sz)/\v=.sl b (0*w.el.sz) (List.length l) (List.length l) o:=by
   rcases hv.2 b m h1 with⟨_,_,g⟩|⟨_,e,_⟩
   ·exact g
   ·cases e
  rw[Nat.zero_mul];obtain⟨x,M,T,q1,L,S,q4,F',G,Y,W,cs',fz',f4,f5,f6⟩:=j.run F1 h a1 i l b cs fz o g1.frz hr.sr.lt hr.sr.gh (g3 _ i R) p h2 k1 k2 (h4 rfl) ho';refine⟨[x],.Bl ⟨rfl,j.prim,j.fn⟩ T,fun _=>⟨x,rfl⟩,fun y Z=>?_⟩;cases zc.1 Z;refine⟨n,zd _,_,_,d,F',ρ,?_,⟨⟨⟨e3.trans hr.fp.n,fun t=>?_⟩,?_⟩,?_,L⟩,fun sp u=>by rw[K]at u;cases u⟩
  ·rw[q1];simp[PR]
  ·have:((Bv (r.reverse.flatMap zo) st).setObj id<|.arr false w.ty w.el<|w.g i l).get t=st.get t:=by
    show((Bv (r.reverse.flatMap zo) st).fr.get t).getD .any=_;rw[e2];rfl
   rw[this];refine(hr.fp.slot t).mono ?_;show Le F ρ st.nx F' ρ (Bv (r.reverse.flatMap zo) st).nx;rw[e1];exact Le.aQ fun b cs O=>G b cs<|g2 b cs O
  ·exact g1.wrote ho h1 (hr.sr.lt _ _ h2) (h4 rfl) rfl f4 ⟨cs',fz',rfl,f5,f6,by rw[<-k3];exact j.len i l p⟩ S L q4 G Y W
  ·show Le F ρ st.nx F' ρ (Bv (r.reverse.flatMap zo) st).nx;rw[e1];exact Le.aQ fun b cs O=>G b cs<|g2 b cs O
 ·rename_i r q;rw[rev_eq q]at P;obtain⟨a1,a2,rfl,D,A⟩:=P.split;simp only[Bf]at A;obtain⟨v,_,rfl,hv,rfl⟩:=A;simp only[PR]at hv;subst hv;obtain⟨F1,g1,g2,g3⟩:=handed hr.sr D;split at a
  case h_2=>exact wh a zg
  rename_i c i R;rcases a.Fe with⟨I,d⟩|⟨_,d⟩
  case inr=>exact wh d zg
  simp only[ze]at I;obtain⟨rfl,p⟩:=I;obtain⟨e1,e2,e3⟩:=DH (r.reverse.flatMap zo) st;obtain⟨x,M,T,q1,L,S,q4,F',G,Y,W⟩:=j.nils F1 h a1 i g1.frz hr.sr.lt hr.sr.gh (g3 _ i R) p;have J:Le F ρ st.nx F' ρ (Bv (r.reverse.flatMap zo) st).nx:=by
   rw[e1];exact Le.aQ fun b cs O=>G b cs<|g2 b cs O
  refine⟨[x],.Bl ⟨rfl,j.prim,j.fn⟩ T,fun _=>⟨x,rfl⟩,fun y Z=>?_⟩;cases zc.1 Z;refine⟨n,zd _,_,_,d,F',ρ,?_,⟨⟨⟨e3.trans hr.fp.n,fun t=>?_⟩,?_⟩,J,L⟩,fun sp u=>by rw[K]at u;cases u⟩
  ·rw[q1];simp[PR]
  ·have:(Bv (r.reverse.flatMap zo) st).get t=st.get t:=by unfold AM.get;rw[e2]
   rw[this];exact(hr.fp.slot t).mono J
  ·exact g1.after S L q4 G Y W
 ·exact wh a zg
theorem LR(p:X.C.mg=false)(c:∀g sp,X.sp g=some sp->Af X.C g sp)(j:∀g w,X.ws g=some w->Lo X.C g w):∀(d:Nat) (nd:Bool) (h0:H0),FM B h0 X nd<|CC X nd d
 |0,nd,h0=>by intro a;exact wh a zg
 |d+1,nd,h0=>by
  rename_i Q n U args st k;intro a F ρ fr h args' hr t;unfold CC at a;cases U with
  |rnd id=>exact wh a zg
  |fn g=>
  simp only at a;have conv:(∃l,Nz X ρ h args' (.fn g) l/\(nd=false->∃x,l=[x])/\
   ∀x∈l,∃n',n'<=n/\∃r st',Ev X Q n' (k r st')/\∃F' ρ',PR F' ρ' st'.nx r x.1/\Dy B h0 F ρ st.nx h st' fr x.2 F' ρ'/\(∀sp,X.sp g=some sp->∀b,b<h.nx->x.2.get b=h.get b))->
   ∃l,Nz X ρ h args' (.fn g) l/\(nd=false->∃x,l=[x])/\
   ∀x∈l,∃n',n'<=n/\∃r st',Ev X Q n' (k r st')/\∃F' ρ',PR F' ρ' st'.nx r x.1/\Dy B h0 F ρ st.nx h st' fr x.2 F' ρ'/\(∀E,Cal.fn g=.fn E->∀sp,X.sp E=some sp->∀b,b<h.nx->x.2.get b=h.get b):=by
   rintro⟨l,L,P,S⟩;refine⟨l,L,P,fun x v=>?_⟩;obtain⟨n',R,r,st',k2,F',ρ',W,I,T⟩:=S x v;exact⟨n',R,r,st',k2,F',ρ',W,I,fun E e=>by cases e;exact T⟩
  obtain⟨o,q⟩:∃o,X.sp g=o:=⟨_,rfl⟩;cases o with
  |some sp=>
   rw[q]at a;simp only at a;cases s:(nd|| !sp.nd)with
   |false=>rw[s]at a;exact wh a zg
   |true=>
    rw[s]at a;exact conv (eG (nd:=nd) q (c g sp q) (fun e=>by rw[e]at s;simpa using s) a hr t)
  |none=>
   rw[q]at a;simp only at a;obtain⟨K,G⟩:∃o,X.ws g=o:=⟨_,rfl⟩;cases K with
   |some w=>rw[G]at a;exact conv (Yq q (j g w G) a hr t)
   |none=>
   rw[G]at a;simp only at a;cases i:X.esc.any (zj g)with
   |true=>
    rw[i]at a;simp only[we]at a;unfold Adq at a;split at a
    case h_2=>exact wh a zg
    rename_i id off;cases m:IC (st.obj id)with
    |false=>rw[m]at a;exact wh a zg
    |true=>
     rw[m]at a;simp only[we]at a;obtain⟨g',A,s⟩:=zz.1 i;have e:=zl s;subst e;have hp:=X.escOk g A;obtain⟨o,ho⟩:=Xm m;obtain⟨b,n',z,q1,_⟩:=hr.sr.at ho;simp only[Bf]at t;obtain⟨x,_,rfl,v,rfl⟩:=t;have u:=v;simp only[PR]at u;obtain rfl:=u.2 b n' q1;exact conv ⟨[(.ptr b off,h)],.prim hp rfl,fun _=>⟨_,rfl⟩,fun y Z=>by
      cases zc.1 Z;exact⟨n,zd _,_,st,a,F,ρ,v,Dy.refl hr,fun _ _ _ _=>rfl⟩⟩
   |false=>
   rw[i]at a;simp only[wg]at a;split at a
   case h_2=>exact wh a zg
   rename_i hp D;obtain⟨Y,l,M,V,O,J⟩:=JY (LR p c j d nd) (LR p c j d false) p D hp q a hr t;exact conv ⟨l,.Bl ⟨rfl,Y⟩ V,O,J⟩
theorem Qt{st:AM}:∀ {l:List Sh} {ps:List PV} {r:Bool×(By l).T},Dx st l ps=some r->l.length=ps.length
 |[],[],_,_=>rfl
 |[],_::_,_,h=>by cases h
 |[a],[p],_,_=>rfl
 |[a],[],_,h=>by cases h
 |[a],_::_::_,_,h=>by cases h
 |a::b::l,[],_,h=>by cases h
 |a::b::l,p::ps,_,h=>by
  unfold Dx at h;split at h
  case h_2=>cases h
  rename_i d c;have:=Qt c;simp at this ⊢;exact this
def H9(outs:List Sh)(v:PV):List PV:=match outs with
 |[_]=>[v]
 |_=>match v with
  | .tup vs=>vs
  |_=>[v]
def Iq(outs:List Sh)(v:PV)(ob:Ob):Option (Bool×(By outs).T):=Dx ⟨0,.leaf,ob,0⟩ outs<|H9 outs v
def Ends(X:AV)(t:Tr)(Q:PV->Ob->Prop):Prop:=∃n,Ev X Q n t
def Ad(sp:Am)(i:(By sp.ins).T)(v:PV)(ob:Ob):Prop:=∃y,Iq sp.outs v ob=some (true,y)/\y=sp.f i
theorem WR{v:PV}(h:oA v=true)(st st':AM):B1 st v=B1 st' v:=by
 cases v<;>first|rfl|cases h
theorem IZ(st st':AM):∀ {l:List PV},l.all oA=true->Dk st l=Dk st' l
 |[],_=>rfl
 |v::l,h=>by
  rw[zn,ze]at h;unfold Dk;rw[WR h.1 st st',IZ st st' h.2]
theorem GX(st st':AM):∀ {l:List Sh} {ps:List PV},ps.all Vx=true->Dx st l ps=Dx st' l ps
 |[],[],_=>rfl
 |[],_::_,_=>rfl
 |[_],[],_=>rfl
 |_::_::_,[],_=>rfl
 |[a],[p],h=>by
  rw[zn,ze]at h;show EC st a p=EC st' a p;unfold EC;rw[IZ st st' h.1]
 |[_],_::_::_,_=>rfl
 |a::b::l,p::ps,h=>by
  rw[zn,ze]at h;unfold Dx EC;rw[IZ st st' h.1,GX st st' h.2]
theorem AaQ{outs:List Sh}{v:PV}{ob:Ob}:Iq outs v (gcO v ob)=Iq outs v ob:=by
 unfold gcO;cases c:zV v with
 |false=>rfl
 |true=>
  show Iq outs v []=Iq outs v ob;unfold Iq H9;by_cases b:∃a,v=.tup a
  ·obtain⟨a,rfl⟩:=b;split
   ·rfl
   ·exact GX _ _ c
  ·have e:Vx v=true:=by
    cases v with
    |tup a=>exact wh ⟨a,rfl⟩ b
    |_=>exact c
   have d:[v].all Vx=true:=by rw[zn,e];rfl
   split
   ·exact GX _ _ d
   ·split
    ·rename_i a;exact wh ⟨a,rfl⟩ b
    ·exact GX _ _ d
theorem bP(v:X.C.mg=false)(c:∀g sp,X.sp g=some sp->Af X.C g sp)(G:∀g w,X.ws g=some w->Lo X.C g w){f:FuncId}{sp:Am}{d:Nat}(Z:X.C.spec f=none)(k:X.C.prim f=none)(W:X.sp f=none)
  (hev:∀i,sp.pre i=true->Ends X (tree X sp.nd d f<|Ae sp.ins i) (Ad sp i)) (V:∃i,X.C.fn f=some i):Af X.C f sp:=by
 refine .of0 ⟨k,V,fun F h args i S L J z P=>?_⟩;obtain⟨n,he⟩:=hev i P;unfold tree at he;have hr:Rel h.nx ⟨h,F,[],fun _=>False⟩ F (fun _=>none) (Aw 0 [] [] 0) ⟨0,.leaf⟩ h:=by
  refine⟨⟨rfl,fun t=>?_⟩,⟨fun id o D=>(by cases D),fun id id' o o' b n n' D=>(by cases D),S,fun id b n m=>(by cases m),fun _ _=>rfl,fun _ _ _=>rfl,L,zd _,fun b cs m=>.inl m,fun x U=>⟨L _ _<|J x U,fun e=>e,J x U⟩,fun b m=>(by cases m)⟩⟩;show PR _ _ _ (((FY []).get t).getD .any) _;have:(FY []).get t=none:=PM.DE t;rw[this];simp[PR]
 obtain⟨_,l,M,hM,E,c⟩:=JY (LR v c G d sp.nd) (LR v c G d false) v Z k W he hr<|z _ _;refine⟨l,M,hM,E,fun x U=>?_⟩;obtain⟨n',hn,r,st',he',F',ρ',hp,hw,_⟩:=c x U;have hq:=he'.aJ;obtain⟨y,hy,rfl⟩:=hq;rw[AaQ]at hy;have K:∀b,b<h.nx->x.2.get b=h.get b:=fun b m=>hw.rel.sr.old b m<|fun e=>e
 refine⟨hw.nx,K,hw.rel.sr.lt,?_⟩;have Y:∃vs,Bf F' ρ' st'.nx (H9 sp.outs r) vs/\((∃a,sp.outs=[a])->vs=[x.1])/\((∀a,sp.outs≠[a])->(∃q,r=.tup q)->x.1=.tup vs):=by
  unfold H9;split
  ·rename_i a A;exact⟨[x.1],by simp only[A4,Cf,ve];exact hp,fun _=>rfl,fun j=>wh A<|j _⟩
  ·rename_i j;split
   ·rename_i q;simp only[PR]at hp;obtain⟨cs,e,h1⟩:=hp;exact⟨cs,h1,fun⟨a,A⟩=>wh A<|j a,fun _ _=>e⟩
   ·rename_i hnt;exact⟨[x.1],by simp only[A4,Cf,ve];exact hp,fun _=>rfl,fun _ ⟨q,hqs⟩=>wh hqs<|hnt q⟩
 obtain⟨vs,s,I,O⟩:=Y;obtain⟨F1,g1,g2,g3⟩:=handed (st:=st') hw.rel.sr s;have hob:∀id,Eh (AM.obj ⟨0,.leaf,st'.ob,0⟩ id) (st'.obj id):=fun id=>Eh.refl _
 have R:=g3 sp.outs _ (by rw[MS hob];exact hy);refine⟨F1,fun b cs m=>g2 b cs<|hw.le.fz b cs m,fun b cs m=>(g1.fo b cs m).imp_right<|fun h=>h.resolve_right<|fun e=>e,g1.frz,PS.2 ⟨vs,R,?_⟩⟩;have p:sp.outs.length=(H9 sp.outs r).length:=Qt hy;have hl2:=s.len;by_cases D:∃a,sp.outs=[a]
 ·rw[I D]
 ·have j:∀a,sp.outs≠[a]:=fun a A=>D ⟨a,A⟩
  have T:sp.outs.length≠1:=fun e=>by
   obtain⟨a,A⟩:=List.length_eq_one_iff.1 e;exact j a A
  have ht:∃q,r=.tup q:=by
   cases r with
   |tup q=>exact⟨q,rfl⟩
   |_=>
    exfalso;apply T;rw[p];unfold H9;split<;>rfl
  rw[O j ht];split
  ·rename_i u;exact wh (p.trans hl2) T
  ·rfl
end
section
variable {X:AV}{Q Q':PV->Ob->Prop}
theorem Ends.leaf{v:PV}{ob:Ob}(h:Q v ob):Ends X (.leaf v ob) Q:=⟨0,.leaf h⟩
theorem Ends.ite{c:Bool}{a b:Tr}(d:c=true->Ends X a Q)(g:c=false->Ends X b Q):Ends X (.ite c a b) Q:=by
 cases c with
 |true=>obtain⟨n,h⟩:=d rfl;exact⟨n,.ite (fun _=>h)<|fun e=>by cases e⟩
 |false=>obtain⟨n,h⟩:=g rfl;exact⟨n,.ite (fun e=>by cases e)<|fun _=>h⟩
theorem Ends.tt{c:Bool}{a b:Tr}(d:c=true)(h:Ends X a Q):Ends X (.ite c a b) Q:=Ends.ite (fun _=>h) (fun e=>by rw[d]at e;cases e)
theorem Ends.ff{c:Bool}{a b:Tr}(d:c=false)(h:Ends X b Q):Ends X (.ite c a b) Q:=Ends.ite (fun e=>by rw[d]at e;cases e)<|fun _=>h
def stepT(X:AV):Tr->Tr
 | .loop nd ro d f base b st k=>body X nd ro d f base b st k
 | .cut nd ro d f base b st k=>AS X nd ro d f base b st k
 |t=>t
theorem Ends.step{t:Tr}(h:Ends X (stepT X t) Q):Ends X t Q:=by
 cases t with
 |loop=>obtain⟨n,h⟩:=h;exact⟨n+1,.loop h⟩
 |cut=>obtain⟨n,h⟩:=h;exact⟨n,.cut h⟩
 |_=>exact h
theorem Ends.eq{t a:Tr}(e:t=a)(h:Ends X a Q):Ends X t Q:=e▸h
theorem Ends.Ah{t a:Tr}(e:stepT X t=a)(h:Ends X a Q):Ends X t Q:=Ends.step<|e▸h
def Tr.L:Tr->Tr
 | .ite _ a _=>a
 | .both a _=>a
 |t=>t
def Tr.R:Tr->Tr
 | .ite _ _ b=>b
 | .both _ b=>b
 |t=>t
def re:Tr->AM->Tr
 | .loop nd ro d f base b _ k,st=>.loop nd ro d f base b st k
 | .cut nd ro d f base b _ k,st=>.cut nd ro d f base b st k
 |t,_=>t
def Xa:List (FuncId×Am)->FuncId->Option Am
 |[],_=>none
 |(g,s)::l,f=>bif zj g f then some s else Xa l f
def Ad3:List (FuncId×List Nat)->FuncId->Nat->Bool
 |[],_,_=>false
 |(g,t)::l,f,r=>bif zj g f then t.any (zj r)else Ad3 l f r
def Acy:List (FuncId×List (Nat×List (Nat×Sh)))->FuncId->Nat->List (Nat×Sh)
 |[],_,_=>[]
 |(g,t)::l,f,r=>bif zj g f then fz1 t r else Acy l f r
 where fz1:List (Nat×List (Nat×Sh))->Nat->List (Nat×Sh)
 |[],_=>[]
 |(i,s)::l,r=>bif zj i r then s else fz1 l r
def AaF:List (FuncId×List (Nat×List Nat))->FuncId->Nat->List Nat
 |[],_,_=>[]
 |(g,t)::l,f,r=>bif zj g f then pl1 t r else AaF l f r
 where pl1:List (Nat×List Nat)->Nat->List Nat
 |[],_=>[]
 |(i,s)::l,r=>bif zj i r then s else pl1 l r
end
section
open Go.Proofs.Tryz (prog)
def Qu(C:Ctx)(q:X5):Ctx:=⟨C.T,C.ng,C.fn,C.prim,q,false⟩
theorem Vv{C:Ctx}{P:Program}(a:C.Ok P){q:X5}(h:LI P q):(Qu C q).Ok P where
 T:=a.T
 fn:=a.fn
 prim:=a.prim
 spec:=h
theorem Qp{C:Ctx}(a:G0 C)(q:X5):G0 (Qu C q):=a
def A6:Ctx:=Qu C7<|orS fmtS<|orS lK<|orS Tu<|KM A7
theorem AaM:A6.Ok prog:=Vv ZR<|Tm yC<|Tm kU<|Tm X4 spA
theorem cB:G0 A6:=Qp LL _
def AdX:List (FuncId×List (Nat×List Nat)):=
 [(4,[(16,[3,5,8,9,10,11]),(14,[2,3,5,8,9,10,11]),(12,[2,3,5,6,7,8,9,10,11]),(10,[2,3,5,6,7,8,9,10,11,12]),(4,[2,3,5])]),
 (9,[(16,[1,6]),(17,[1,6]),(15,[1,6]),(11,[1,5]),(12,[1,5]),(10,[1,5]),(5,[1,3]),(6,[1,3]),(4,[1,3]),(3,[1])]),
 (10,[(18,[1,2,3,8]),(16,[1,2,3,8]),(14,[1,2,3,7]),(12,[1,2,3,7]),(9,[1,2,3,4,5,6]),(7,[1,2,3,4,5,6]),(5,[1,2,3,4]),(3,[1,2,3,4])]),
 (11,[(10,[1,4]),(11,[1,4]),(9,[1,4]),(5,[1,3]),(6,[1,3]),(4,[1,3]),(3,[1])]),
 (12,[(5,[1,2,3,4]),(3,[1,2,3,4])]),
 (13,[(6,[1,4]),(7,[1,4]),(5,[1,4]),(4,[1])]),
 (14,[(20,[1,5,6]),(28,[1,5,6]),(26,[1,3,5,6]),(24,[1,3,5,6]),(21,[1,5,6]),(19,[1,5,6]),(17,[1]),(12,[1,4]),(13,[1,4]),(11,[1,4]),(10,[1]),(8,[1,3]),(6,[1,3]),(3,[1])]),
 (15,[(35,[14,94,95,96]),(34,[14,16,94,95,96]),(30,[14,94,95,96]),(29,[14,94,95,96]),(27,[1]),(23,[1,8,47,48,49]),(22,[1,8,10,47,48,49]),(17,[1,8,47,48,49]),(16,[1,8,47,48,49]),(14,[1]),(10,[1,26,27,28]),(6,[1,26,27,28]),(5,[1,26,27,28]),(4,[1])]),
 (16,[(38,[1,5,10]),(44,[1,5,10]),(42,[1,5,10,11]),(39,[1,5,10]),(37,[1,5,10]),(35,[1]),(33,[1]),(18,[1,5,6]),(30,[1,5,6,7]),(25,[1,5,6,7,8,9]),(26,[1,5,6,7,8,9]),(24,[1,5,6,7,8,9]),(23,[1,5,6,7,8]),(19,[1,5,6]),(17,[1,5,6]),(15,[1]),(13,[1]),(7,[1,3]),(8,[1,3]),(6,[1,3]),(5,[1]),(3,[1])]),
 (18,[(4,[1,2,3,4])]),
 (33,[(5,[0,1])]),
 (34,[(5,[0,1])]),
 (40,[(13,[6]),(10,[0,1,6]),(5,[0,1]),(3,[0,1])]),
 (50,[(6,[5,6,7]),(3,[5,6,7]),(2,[5,6,7])]),
 (52,[(3,[0,6,7]),(2,[0,6])]),
 (57,[(13,[3,11,12,13]),(12,[3,5,11,12,13]),(10,[3,5,11,12,13]),(6,[3,11,12,13]),(5,[3,11,12,13]),(3,[0])]),
 (58,[(5,[0,3]),(6,[0,3]),(4,[0,3]),(3,[0])]),
 (60,[(7,[0,3]),(13,[0,3,4]),(11,[0,3,4]),(8,[0,3]),(6,[0,3]),(5,[0]),(3,[0])]),
 (61,[(5,[0,1,5]),(6,[0,1,5]),(4,[0,1,5]),(3,[0,1])]),
 (62,[(16,[]),(11,[3,4]),(9,[3,4]),(7,[3,4]),(4,[0,3])]),
 (64,[(10,[30,31,32]),(6,[30,31,32]),(5,[30,31,32]),(4,[1])]),
 (67,[(14,[1,4]),(17,[1,4]),(15,[1,4]),(13,[1,4]),(12,[1]),(10,[1]),(8,[1,3]),(6,[1,3]),(4,[1,3])]),
 (72,[(5,[6,8])]),
 (75,[(3,[2,3,4])]),
 (79,[(6,[8,10,11,12,13,14])]),
 (83,[(7,[4,5,6]),(13,[4,5,6,7]),(11,[4,5,6,7]),(8,[4,5,6]),(6,[4,5,6]),(3,[0])]),
 (91,[(15,[8,9]),(13,[6,8,9]),(10,[5,6,7]),(7,[5,6]),(4,[5])]),
 (93,[(9,[8,10]),(3,[2,3])]),
 (96,[(10,[3]),(7,[1,3,4]),(5,[1,3,4]),(3,[1])]),
 (97,[(7,[0,2,3,4,5]),(4,[0,2,3,4]),(3,[0,2,3,4])]),
 (98,[(2,[0,1]),(1,[0,1])]),
 (99,[(3,[0,1,5]),(2,[0,1,5])]),
 (122,[(9,[5,6,7]),(6,[5,6,7,8])]),
 (123,[(15,[5,23,24,25]),(14,[5,9,23,24,25]),(11,[5,6,7,23,24,25]),(7,[5,23,24,25]),(6,[5,23,24,25]),(4,[0])]),
 (126,[(11,[2,4]),(5,[0,2,3,4]),(4,[0,2,3,4])]),
 (128,[(3,[0,3]),(4,[0,3]),(2,[0,3])]),
 (130,[(2,[0,1]),(1,[0,1])]),
 (131,[(6,[0,1,7,8]),(3,[0,1,7,8]),(2,[0,1,7,8])]),
 (136,[(4,[1,4,5,9,10,11]),(3,[1,4,5,9,10,11])]),
 (140,[(5,[2,3,4]),(3,[2,3,4])]),
 (149,[(6,[0,2,3,4]),(5,[0,2,3,4]),(4,[0,2,3])]),
 (152,[(5,[0,3,4]),(3,[0,3,4])]),
 (154,[(15,[8,9,10,11,12,13]),(39,[8,9,10,11,12,13,14]),(35,[8,9,10,11,12,13,14,19,20]),(33,[8,9,10,11,12,13,14,19,20]),(20,[8,9,10,11,12,13,14,15,16]),(27,[8,9,10,11,12,13,14,15,16,18]),(21,[8,9,10,11,12,13,14,15,16]),(19,[8,9,10,11,12,13,14,15,16]),(16,[8,9,10,11,12,13]),(14,[8,9,10,11,12,13]),(11,[0,8,9,10,11]),(10,[0,8,9,10,11]),(6,[0,1]),(3,[0,1])]),
 (156,[(6,[0,1,5,6,7]),(4,[0,1,5,6,7])]),
 (157,[(7,[0,1,5]),(10,[0,1,5]),(8,[0,1,5]),(6,[0,1,5]),(5,[0,1]),(4,[])]),
 (158,[(5,[0,1,5,6,7]),(11,[0,1,5,6,7,8]),(6,[0,1,5,6,7]),(4,[0,1,5,6,7])]),
 (159,[(9,[0,1,5,6,7,8]),(7,[0,1,5,6,7,8]),(5,[0,1,5,6]),(3,[0,1,5,6])]),
 (168,[(6,[5,6,7]),(3,[5,6,7]),(2,[5,6,7])]),
 (170,[(3,[2,3,4]),(2,[2,3,4])]),
 (171,[(7,[6,7,8]),(3,[6,7,8]),(2,[6,7,8])]),
 (176,[(3,[1,2,4,5]),(6,[1,2,4,5]),(4,[1,2,4,5]),(2,[1,2,4,5])]),
 (181,[(8,[1,5,6,7,8,20,21,22,27,28,29]),(7,[1,5,6,7,8,20,21,22,27,28,29]),(4,[1,5,20,21,22]),(3,[1,5,20,21,22])]),
 (182,[(3,[0,3]),(4,[0,3]),(2,[0,3])]),
 (183,[(6,[0,1,7,8]),(3,[0,1,7,8]),(2,[0,1,7,8])]),
 (185,[(21,[6,10,11]),(19,[6,10,11]),(18,[6,10]),(13,[3,5,6,7,9]),(11,[3,5,6,7,9]),(7,[3,4,5,6]),(6,[3,4,5,6]),(3,[1])]),
 (186,[(12,[0,1,5,6,21,22]),(11,[0,1,5,6,7,8,21,22]),(7,[0,1,5,6,21,22]),(6,[0,1,5,6,21,22]),(3,[0,1])]),
 (187,[(7,[0,1,5]),(11,[]),(8,[0,1,5]),(6,[0,1,5]),(5,[0,1]),(4,[])]),
 (188,[(10,[0,1,5,6,13,14]),(9,[0,1,5,6,7,8,13,14]),(5,[0,1,5,6,13,14]),(4,[0,1,5,6,13,14])]),
 (189,[(3,[2,3,4])]),
 (190,[(12,[4,5,14,15]),(6,[2,3,4,5]),(5,[4,5,6,7])]),
 (192,[(6,[0,1,6,7,8]),(4,[0,1,6,7,8])]),
 (193,[(2,[0]),(1,[0])]),
 (194,[(5,[0,1,2,7,9,10]),(4,[0,1,2,7,9,10])]),
 (206,[(20,[0]),(19,[6]),(16,[5,6,47,48,49]),(15,[5,6,8,47,48,49]),(11,[5,6,47,48,49]),(10,[5,6,47,48,49]),(8,[0,5])]),
 (209,[(3,[0,3]),(2,[0,3])]),
 (212,[(26,[9,11,12,13,96,97]),(22,[9,11,12,13,96,97]),(21,[9,11,12,13,96,97]),(19,[9,10,11,12,13,14]),(17,[9,10,11,12,13,14]),(11,[0,1]),(9,[0,1,6,7,8]),(7,[0,1,6,7,8]),(3,[0,1])]),
 (231,[(3,[0,2,4]),(7,[0,2,4,5]),(4,[0,2,4]),(2,[0,2,4])]),
 (232,[(3,[0,1]),(2,[0,1]),(1,[0,1])]),
 (233,[(3,[0,1]),(2,[0,1]),(1,[0,1])]),
 (246,[(25,[2,8,9,10,14,15,16,17,18]),(24,[2,8,9,10,14,15,16,17,18]),(18,[2,8,9,10,11,13,14,15,16]),(17,[2,8,9,10,11,13,14,15,16]),(7,[0,1,2]),(5,[0,1,2]),(3,[0,1,2])]),
 (248,[(8,[1,5,12,13,14]),(4,[1,5,12,13,14]),(3,[1,5,12,13,14])]),
 (249,[(29,[0,1,5,6,17,156,157]),(28,[0,1,5,6,17,156,157]),(26,[0,1,5,6]),(16,[0,1,5,6,11,12,104,105]),(15,[0,1,5,6,11,12,104,105]),(11,[0,1,5,6,7]),(9,[0,1,5,6,7]),(8,[0,1,5,6,7,8])])]
def Abi:List FuncId:=[277]
theorem Zn:∀g∈Abi,A6.prim g=some PK.noEsc.run:=fun g h=>by
 cases h with
 |head=>kernel_rfl
 |tail _ h=>cases h
def X7(l:List (FuncId×Am)):AV:=⟨A6,Xa l,AaF AdX,fun _ _=>false,fun _ _=>[],fun _=>none,Abi,Zn⟩
def WY(cs:List (FuncId×List Nat))(fz:List (FuncId×List (Nat×List (Nat×Sh))))(t:List (FuncId×List (Nat×List Nat)))(l:List (FuncId×Am)):AV:=⟨A6,Xa l,AaF<|t++AdX,Ad3 cs,Acy fz,fun _=>none,Abi,Zn⟩
end
end Go.Pe
namespace Go.Sp
def first:List Int->Int
 |[]=>0
 |x::l=>if x≠0 then x else first l
def Cj(c:Bool)(e:Int):Int:=bif c then e else 0
end Go.Sp
namespace Go.Pe
open Go.Det
abbrev i64:Sh:=.int .i64
abbrev AdQ:Sh:=.list<|.int .i64
def Hd:Am:=⟨[AdQ],fun l=>decide (l.length<=1000000),[i64],fun l=>Sp.first l,false⟩
def G3:Am:=⟨[.bool,i64],fun _=>true,[i64],fun i=>Sp.Cj i.1 i.2,false⟩
def WJ:AV:=X7 []
end Go.Pe
namespace Go.Sp
abbrev B0:=Z
def has(l:List B0)(x:B0):Bool:=decide (x∈l)
end Go.Sp
namespace Go.Pe
open Go.Det
section
open List Int Prod
namespace T52
def T(s:Z):Tr:=tree WJ false 9 52<|Ae ([Sh.str]) s
def L1(v0 a:Z):Tr:=re ((T []))<|Aw 37 [(0,.dat Sh.str v0),(6,.ptr 0 0)] [(0,Obj.siter a 0)] 1
theorem Ai(s:Z):T s=L1 s s:=by kernel_rfl
def L2(v0 b:Z)(a:Nat):Tr:=re ((stepT WJ<|L1 [] []).L.L.L)<|Aw 37 [(0,.dat Sh.str v0),(6,.ptr 0 0)] [(0,Obj.siter b a)] 1
theorem Al(v0 a:Z):stepT WJ (L1 v0 a)=let b':=L2 v0 a<|zx 0<|Kq a 0;let b:Tr:=.leaf (.bl false) [];let c:Tr:=.ite true b<|.ite (rune a 0 !=95) (.di (rune a 0<48) b<|.di (rune a 0>57) b b') b';let d:Tr:=.di (rune a 0>=65) (.ite (!decide (rune a 0<=90)) c b') c;.di (0<length a) (.di (rune a 0>=97) (.di (rune a 0<=122) b' d) d) (.ite (!v0==[]) (.leaf (.dat Sh.bool<|decide ((length v0:Int)<=24)) []) b):=by kernel_rfl
theorem AH(v0 b:Z)(a:Nat):stepT WJ (L2 v0 b a)=let b':=L2 v0 b<|zx a<|Kq b a;let c:Tr:=.leaf (.bl false) [];let d:Tr:=.ite ((↑a:Int)==0) c<|.ite (rune b a !=95) (.di (rune b a<48) c<|.di (rune b a>57) c b') b';let e:Tr:=.di (rune b a>=65) (.ite (!decide (rune b a<=90)) d b') d;.di (a<length b) (.di (rune b a>=97) (.di (rune b a<=122) b' e) e) (.ite (!v0==[]) (.leaf (.dat Sh.bool<|decide ((length v0:Int)<=24)) []) c):=by kernel_rfl
end T52
end
section
variable {X:AV}{Q:PV->Ob->Prop}
@[simp] theorem Acf:Ends X .fail Q↔False:=⟨fun⟨_,h⟩=>zg h,fun h=>h.elim⟩
@[simp] theorem Ht{v:PV}{ob:Ob}:Ends X (.leaf v ob) Q↔Q v ob:=⟨fun⟨_,h⟩=>h.aJ,fun h=>.leaf h⟩
@[simp] theorem FC{c:Bool}{a b:Tr}:Ends X (.ite c a b) Q↔if c=true then Ends X a Q else Ends X b Q:=by
 constructor
 ·rintro⟨n,h⟩;rcases h.Fe with⟨d,h⟩|⟨d,h⟩
  ·rw[wd d];exact⟨n,h⟩
  ·rw[wc<|by simp[d]];exact⟨n,h⟩
 ·intro h;refine .ite (fun d=>?_)<|fun d=>?_
  ·rwa [wd d]at h
  ·rwa [wc<|by simp[d]]at h
theorem Ad.of{sp:Am}{i:(By sp.ins).T}{v:PV}{ob:Ob}{c:Bool}{y:(By sp.outs).T}(h:Iq sp.outs v ob=some (c,y))(a:c=true)(b:y=sp.f i):Ad sp i v ob:=⟨y,by rw[h,a],b⟩
@[simp] theorem QM(s:Sh)(x:List s.T):Lf (Sh.leaves<|.list s) [.dat (.list s) x]=(true,[.dat (.list s) x]):=rfl
theorem wr(x:Int)(b: -9223372036854775808<=x)(a:x<=9223372036854775807):IntKind.wrap .i64 x=x:=IntWalk.i64_in x ⟨b,a⟩
theorem drop_cons{α:Type}{l r:List α}{x d:α}{i:Nat}(h:l.drop i=x::r):i<l.length/\l.getD i d=x/\l.drop (i+1)=r:=by
 have a:i<l.length:=by
  rcases Nat.lt_or_ge i l.length with c|c
  ·exact c
  ·rw[List.drop_eq_nil_of_le c]at h;cases h
 have b:=List.drop_eq_getElem_cons a;rw[h]at b;simp only[z8]at b;exact⟨a,by simp[a,b.1],b.2.symm⟩
end
theorem Tp:∀g sp,WJ.sp g=some sp->Af A6 g sp:=fun g sp h=>by cases h
abbrev C9(X:AV):Prop:=∀g sp,X.sp g=some sp->Af A6 g sp
theorem Gf{X:AV}(o:X.C=A6)(b:∀g sp,X.sp g=some sp->Af A6 g sp){f:FuncId}{sp:Am}{d:Nat}(e:A6.spec f=none)(a:A6.prim f=none)(l:X.sp f=none)
  (k:∀i,sp.pre i=true->Ends X (tree X sp.nd d f<|Ae sp.ins i) (Ad sp i)) (c:∃i,A6.fn f=some i) (j:∀g w,X.ws g=some w->Lo A6 g w:=by intro _ _ h;cases h):Af A6 f sp:=by
 have m:X.C.mg=false:=by rw[o];rfl
 rw[<-o]at*;exact bP m b j e a l k c
theorem Bb{α:Type}{o:Option α}(h:o.isSome=true):∃i,o=some i:=zy.1 h
theorem BO{X:AV}(b:C9 X){f:FuncId}{sp:Am}(j:∀i,sp.pre i=true->Ends X (tree X sp.nd 9 f<|Ae sp.ins i) (Ad sp i))(l:X.C=A6:=by rfl)(d:A6.spec f=none:=by kernel_rfl)(a:A6.prim f=none:=by kernel_rfl)(k:X.sp f=none:=by kernel_rfl)(c:(A6.fn f).isSome=true:=by kernel_rfl)(e:∀g w,X.ws g=some w->Lo A6 g w:=by intro _ _ h;cases h):Af A6 f sp:=Gf l b d a k j (Bb c) e
theorem drop_nil{α:Type}{l:List α}{i:Nat}(h:l.drop i=[])(a:i<=l.length):i=l.length:=by
 have:=wi List.length h;simp at this;omega
theorem Pp{α:Type}{l r:List α}{x:α}{i:Nat}(h:l.drop i=x::r):x∈l:=by
 have:x∈l.drop i:=by rw[h];simp
 exact List.mem_of_mem_drop this
theorem PQ(c:Int):zu c=true↔(97<=c/\c<=122)\/(65<=c/\c<=90)\/(48<=c/\c<=57)\/c=95:=by
 simp[zu,Sp.letter,or_assoc]
theorem KX(c:Int):Sp.letter c=true↔(97<=c/\c<=122)\/(65<=c/\c<=90):=by
 simp[Sp.letter]
namespace T52
variable {Q:PV->Ob->Prop}
theorem loop(s:Z)(b:s≠[]):∀(r:Z) (i:Nat),s.drop i=r->i<=s.length->1<=i->
  ((r.all fun c=>zu (c.toNat:Int))=false->∀ob,Q (.bl false) ob)->((r.all fun c=>zu (c.toNat:Int))=true->∀ob,Q (.dat .bool<|decide ((s.length:Int)<=24)) ob)->Ends WJ (L2 s s i) Q
 |[],i,h,p,v,m,l=>by
  have:=drop_nil h p;refine Ends.Ah (AH ..) (Ends.ff (by simp;omega)<|Ends.tt (by simpa using b) ?_);exact Ends.leaf<|l rfl _
 |x::r,i,h,p,v,m,l=>by
  obtain⟨g,q,w⟩:=drop_cons (d:=0) h;refine Ends.Ah (AH ..) (Ends.tt (by simpa using g) ?_);have u:((i:Int)==0)=false:=by simp;omega
  simp only[FC,Ht,u,Bool.false_eq_true,vg,w5,Bool.not_eq_true',w9,bne_iff_ne,wm];have step:zu (x.toNat:Int)=true->Kq s i=1->Ends WJ (L2 s s<|zx i<|Kq s i) Q:=by
   intro a A;rw[A];refine loop s b r (i+1) w g (by omega) (fun e=>m<|by simp[e]) (fun e=>l<|by simp[e];exact a)
  have no:zu (x.toNat:Int)=false->∀ob,Q (.bl false) ob:=fun a=>m (by simp[a])
  by_cases o:(s.getD i 0).toNat<128
  ·obtain⟨t,y⟩:=U4 g o;rw[t,q];have j:=PQ (x.toNat:Int);generalize ((x.toNat:Nat):Int)=c at j step no ⊢;by_cases a:zu c=true
   ·have:=j.1 a;repeat' split
    all_goals first|exact step a y|(exfalso;omega)
   ·have k:zu c=false:=by simpa using a
    have:¬_:=fun h=>a<|j.2 h
    repeat' split
    all_goals first|exact no k _|(exfalso;omega)
  ·have hr:=Rw g (by omega);have z:zu (x.toNat:Int)=false:=by
    have:¬zu (x.toNat:Int)=true:=fun h=>by
     have:=(PQ _).1 h;rw[q]at o;omega
    simpa using this
   repeat' split
   all_goals first|exact no z _|(exfalso;omega)
end T52
theorem Nd{α:Type}{l r:List α}{x:α}{i:Nat}(h:l.drop i=x::r):l.take (i+1)=l.take i++[x]:=by
 have b:=(drop_cons (d:=x) h).1;have a:=(drop_cons (d:=x) h).2.1;rw[List.take_add_one];congr 1;have:l[i]?=some x:=by
  have e:=List.getElem?_eq_getElem b;rw[e];simp only[List.getD,e,Option.getD_some]at a;rw[a]
 rw[this];rfl
theorem AI{C:Ctx}:∀g sp,Xa [] g=some sp->Af C g sp:=fun g sp h=>by cases h
theorem Aa{C:Ctx}{b:FuncId}{c:Am}{l:List (FuncId×Am)}(h0:Af C b c)(d:∀g sp,Xa l g=some sp->Af C g sp):∀g sp,Xa ((b,c)::l) g=some sp->Af C g sp:=by
 intro g sp h;unfold Xa at h;cases a:zj b g with
 |true=>rw[a]at h;cases h;have:=zl a;subst this;exact h0
 |false=>rw[a]at h;exact d g sp h
theorem Hq{f:FuncId}{s t:List Sh}{g:(By s).T->(By t).T}{nd:Bool}(a:A6.prim f=none)(b:∃i,A6.fn f=some i):Af A6 f ⟨s,fun _=>false,t,g,nd⟩:=
 .of0 ⟨a,b,fun F h args i _ _ _ _ hp=>by cases hp⟩
theorem DZ{α:Type}(A B:List α)(x d:α){n:Nat}(h:A.length=n):(A++x::B).getD n d=x:=by
 subst h;simp[List.getD]
theorem DL{α:Type}(A B:List α)(x y:α){n:Nat}(h:A.length=n):(A++x::B).set n y=A++y::B:=by
 subst h;simp
end Go.Pe
namespace Go.Sp
open Go.Pe (E2 imax)
theorem jO(a b:Int):E2 a b=min a b:=by unfold E2;split<;>omega
end Go.Sp
