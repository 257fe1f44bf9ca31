import Derived.Test.YtlohiljbghionaaGreatDoorX08
/- A part of a proof; no law is stated here. -/
noncomputable section
open List renaming mem_singleton -> zc, getElem?_eq_some_iff -> zf, nodup_nil -> zk, all_cons -> zn, mem_append -> zp, any_eq_true -> zz, map_cons -> yb, mem_cons -> yc, mem_map -> ye
open Nat renaming le_refl -> zd, lt_of_lt_of_le -> zh, le_trans -> zi, beq -> zj, eq_of_beq_eq_true -> zl, le_of_ble_eq_true -> zq, add -> zx, blt -> z6, beq_refl -> yd
open Bool renaming and_eq_true -> ze, and_true -> zr
open Go.Pe.Ev renaming AF -> zg
open Option.some renaming injEq -> zm
open Go.Pe.PV renaming cells -> zo
open Go.Pe.Le renaming refl -> zt
open Go.Sp renaming mark -> zu
open Go.Pe renaming apart -> zw
open Option renaming isSome_iff_exists -> zy, map_eq_some_iff -> z7
open List.cons renaming injEq -> z8
open Go.Det.V renaming beq -> ya
namespace Go.Pe
open Go.Det
section
variable {B:Nat}{h0:H0}{F:Fz}{ρ:En}{N:Nat}{X:AT}{st st':AL}{fr:Fr}{h h':H}{Q:PV->Ob->Prop}{n:Nat}
mutual
theorem MI:∀v:V,ya v v=true
 | .bool b=>by simp[ya]
 | .int k n=>by simp[ya]
 | .str s=>by simp[ya]
 | .nilp=>rfl
 | .ptr a i=>by simp[ya]
 | .nils=>rfl
 | .sl a b c d e=>by simp[ya]
 | .esl=>rfl
 | .es0=>rfl
 | .junk=>rfl
 | .nilm=>rfl
 | .map a=>by simp[ya]
 | .yld a=>by simp[ya]
 | .nilf=>rfl
 | .nili=>rfl
 | .fn f a b=>by simp only[ya,Gg a,Gg b,zr,wj]
 | .iface t x=>by simp only[ya,MI x,zr];exact yd t
 | .agg a=>by simp only[ya];exact Gg a
 | .tup a=>by simp only[ya];exact Gg a
theorem Gg:∀vs:List V,V.Me vs vs=true
 |[]=>rfl
 |v::vs=>by simp only[V.Me,MI v,Gg vs,zr]
end
theorem gF{T:B6}{t:TypeId}{a x:V}(c:Ft T h t a=some x):∃b off o,a=.ptr b off/\h.get b=some o/\(∀g:H,g.get b=h.get b->Ft T g t a=some x)/\
  ∀(g:H) cs t1 k t2 j,h.get b=some (.cells cs t1 k)->g.get b=some (.cells cs t2 j)->Ft T g t a=some x:=by
 unfold Ft at c;split at c
 case h_2=>cases c
 rename_i b off d i m l;have p:∃o,h.get b=some o:=by
  cases e:h.get b with
  |some o=>exact⟨o,rfl⟩
  |none=>
   unfold rd at c;rw[e]at c;cases D8 d<;>simp at c
 obtain⟨o,r⟩:=p;refine⟨b,off,o,rfl,r,fun g e=>?_,fun g cs t1 k t2 j q s=>?_⟩
 ·unfold Ft;simp only[m,l];unfold rd at c ⊢;rw[e];exact c
 ·unfold Ft;simp only[m,l];unfold rd at c ⊢;rw[q]at c;rw[s];exact c
def Tj(C:Ctx)(F:Fz)(bl:List Nat)(h:H)(fr:Fr)(o:Oper)(x:V):Prop:=
 ∀g:H,(∀b cs,F b=some cs->∃t fz,g.get b=some (.cells cs t fz))->(∀b∈bl,g.get b=h.get b)->∃z,GI C fr g o=some (.val x z)
theorem Xc:∀ {s:Sh} {x:s.T} {cs:List V} {b:Nat},DC F s x cs->V.map b∉cs
 | .int _,_,_,_,h,hm=>by simp only[DC]at h;subst h;cases zc.1 hm
 | .bool,_,_,_,h,hm=>by simp only[DC]at h;subst h;cases zc.1 hm
 | .str,_,_,_,h,hm=>by simp only[DC]at h;subst h;cases zc.1 hm
 | .list s,l,_,_,h,hm=>by
  simp only[DC]at h;obtain⟨v,rfl,h⟩:=h;obtain rfl:=zc.1 hm;rcases h with⟨_,h|h|h⟩|⟨b,off,cap,o,e,h,_⟩<;>cases h
 | .pair a b,x,_,_,h,hm=>by
  simp only[DC]at h;obtain⟨c,d,rfl,g,i⟩:=h;rcases zp.1 hm with hm|hm
  ·exact Xc g hm
  ·exact Xc i hm
 | .unit,_,_,_,h,hm=>by simp only[DC]at h;subst h;cases hm
 | .fnv,x,_,_,h,hm=>by simp only[DC]at h;subst h;have:=zc.1 hm;revert this;cases (x:Option Fn)<;>intro h<;>cases h
 | .ptr _,x,_,_,h,hm=>by simp only[DC]at h;obtain⟨b,o,e,rfl,_⟩:=h;cases zc.1 hm
 | .nlist s,l,_,_,h,hm=>by
  simp only[DC]at h;obtain⟨v,rfl,h⟩:=h;obtain rfl:=zc.1 hm;rcases h with⟨_,h⟩|⟨_,b,off,cap,o,e,h,_⟩<;>cases h
theorem W3{s:Sh}{x:s.T}{b:Nat}(hp:PR F ρ N (.dat s x) (.map b)):False:=by
 simp only[PR]at hp;exact Xc hp<|zc.2 rfl
theorem WE{b:Nat}(hp:PR F ρ N .nil (.map b)):False:=by
 simp only[PR]at hp;cases hp
theorem kL(hr:SR B h0 F ρ st.nx st.ob h){o:Oper}{c:Call}(i:o.op=.call c)(e:c.callee=.builtin .len){id sz off len:Nat}{cap:Option Nat}(g:MY st c.args.toList=some [.sl id sz off len cap]){u:PV}{s:AL}
  (a:(pop o.op X.C.T st).To u s) {b:Nat} (hp:PR F ρ st.nx (.sl id sz off len cap) (.map b)):False:=by
 rw[i]at a;simp only[pop,S9,g,e,IJ,uT,Uq,yb,List.map_nil,lz]at a;split at a
 case h_2=>simp at a
 rename_i t x _ d;cases d;split at a
 case h_3=>
  rename_i d;cases d;cases j:Is (st.obj id)with
  |false=>rw[j]at a;simp at a
  |true=>
   obtain⟨b',n,k⟩:=hr.live j;simp only[PR]at hp;rcases hp.2 b' n k with⟨_,_,o,_,h⟩|⟨_,_,_,h|⟨_,h,_⟩⟩<;>cases h
 all_goals first|(simp at a;done)|(rename_i d;cases d;done)|(rename_i d _;cases d)
theorem OC{T:B6}{ts:Array TypeId}{a:V}{g:H}(c:∀b,a≠ .map b)(h:H):Gj T g ts [a]=Gj T h ts [a]:=by
 unfold Gj;cases ts[0]? with
 |none=>rfl
 |some t=>
  simp only;cases T.und t with
  |none=>cases a<;>rfl
  |some d=>cases d<;>cases a<;>first|rfl|(rename_i b;exact wh rfl (c b))|(rename_i b _;exact wh rfl (c b))|(rename_i b _ _;exact wh rfl (c b))
theorem cH(hr:Rel B h0 F ρ st fr h){o:Oper}{x:V}(D:GI X.C fr h o=some (.val x h)){l:List Nat}(O:uO st o.op=some l)(hto:∃u s,(pop o.op X.C.T st).To u s):
  ∃bl,Tj X.C F bl h fr o x/\∀b∈bl,b<h.nx/\∃id∈l,id<st.nx/\∀y,ρ id=some y->y.1=b:=by
 unfold uO at O;rw[Dc]at D;unfold G1 at D;split at O
 case h_5=>cases O
 case h_4 t y i ok r=>
  simp only[r]at D;have m:∀g,GI X.C fr g o=(match ev X.C fr y,ev X.C fr i with|some v,some u=>Bx g (Fa X.C.T g t v u ok)|_,_=>none):=fun g=>by rw[Dc];unfold G1;simp only[r];rfl
  cases P:ev X.C fr y with
  |none=>rw[P]at D;cases D
  |some a=>
   cases hi:ev X.C fr i with
   |none=>rw[P,hi]at D;cases D
   |some u=>
    rw[P,hi]at D;simp only at D;obtain⟨x',q,G⟩:=GQ D;cases G;have L:∀g:H,entries g a=entries h a->Fa X.C.T g t a u ok=some x:=by
     intro g J;unfold Fa at q ⊢;rw[J];exact q
    split at O
    case h_3=>cases O
    case h_1=>
     rename_i id hp;obtain⟨Z,E,p⟩:=Cj (C:=X.C) hr.fp hp;rw[P]at E;cases E;have hent:∃es,entries h a=some es:=by
      unfold Fa at q;split at q
      case h_2=>cases q
      split at q
      case h_2=>cases q
      rename_i es _ G;exact⟨es,G⟩
     obtain⟨es,G⟩:=hent;cases O;by_cases K:∃b,a=.map b
     ·obtain⟨b,rfl⟩:=K;have M:∃ob,h.get b=some ob:=by
       cases J:h.get b with
       |none=>simp[entries,J]at G
       |some ob=>exact⟨ob,rfl⟩
      obtain⟨ob,M⟩:=M;simp only[PR]at p;refine⟨[b],fun g _ J=>⟨g,?_⟩,fun b' A=>?_⟩
      ·rw[m,P,hi];simp only;rw[L g<|by simp only[entries,J b<|zc.2 rfl]];rfl
      ·cases zc.1 A;refine⟨hr.sr.lt b ob M,id,zc.2 rfl,p.1,fun z W=>?_⟩;have:=p.2 z.1 z.2 W;cases this;rfl
     ·refine⟨[],fun g _ J=>⟨g,?_⟩,fun b' A=>by cases A⟩;rw[m,P,hi];simp only;rw[L g ?_];rfl;cases a<;>first|rfl|(rename_i b;exact wh ⟨b,rfl⟩ K)
    case h_2=>
     rename_i hp;obtain⟨Z,E,p⟩:=Cj (C:=X.C) hr.fp hp;rw[P]at E;cases E;simp only[PR]at p;subst p;cases O;refine⟨[],fun g _ J=>⟨g,?_⟩,fun b' A=>by cases A⟩;rw[m,P,hi];simp only;rw[L g rfl];rfl
 case h_1 t y r=>
  simp only[r]at D;have m:∀g,GI X.C fr g o=(match ev X.C fr y with|some v=>Bx g (Ft X.C.T g t v)|none=>none):=fun g=>by rw[Dc];unfold G1;simp only[r];rfl
  cases P:ev X.C fr y with
  |none=>rw[P]at D;cases D
  |some a=>
   rw[P]at D;simp only at D;obtain⟨x',q,G⟩:=GQ D;cases G;obtain⟨b,off,ob,rfl,M,L,hfz⟩:=gF q;have hblt:=hr.sr.lt b ob M;have live:∀id,id<st.nx->(∀z,ρ id=some z->z.1=b)->l=[id]->∃bl,Tj X.C F bl h fr o x/\∀b∈bl,b<h.nx/\∃id∈l,id<st.nx/\∀y,ρ id=some y->y.1=b:=by
    rintro id hlt hid rfl;refine⟨[b],fun g _ J=>⟨g,?_⟩,fun b' A=>?_⟩
    ·rw[m,P];simp only;rw[L g<|J b<|zc.2 rfl];rfl
    ·cases zc.1 A;exact⟨hblt,id,zc.2 rfl,hlt,hid⟩
   split at O
   case h_4=>cases O
   case h_1=>
    rename_i id U hp;obtain⟨Z,E,p⟩:=Cj (C:=X.C) hr.fp hp;rw[P]at E;cases E;simp only[PR]at p;refine live id p.1 (fun z W=>?_) (by cases O;rfl);have:=p.2 z.1 z.2 W;cases this;rfl
   case h_2=>
    rename_i id sz j U hp;obtain⟨Z,E,p⟩:=Cj (C:=X.C) hr.fp hp;rw[P]at E;cases E;simp only[PR]at p;refine live id p.1 (fun z W=>?_) (by cases O;rfl);have:=p.2 z.1 z.2 W;cases this;rfl
   case h_3=>
    rename_i s y' U hp;obtain⟨Z,E,p⟩:=Cj (C:=X.C) hr.fp hp;rw[P]at E;cases E;simp only[PR]at p;obtain⟨b',o',cs,G,hF,_⟩:=p;cases G;obtain⟨t1,f1,k1⟩:=hr.sr.frz b cs hF;refine⟨[],fun g J _=>⟨g,?_⟩,fun b' A=>by cases A⟩;obtain⟨t2,f2,k2⟩:=J b cs hF;rw[m,P];simp only;rw[hfz g cs t1 f1 t2 f2 k1 k2];rfl
 case h_2 s d y r=>
  simp only[r]at D;have m:∀g,GI X.C fr g o=(match ev X.C fr y with|some v=>Bx g (F9 X.C.T g s d v)|none=>none):=fun g=>by rw[Dc];unfold G1;simp only[r];rfl
  have fin:∀a,ev X.C fr y=some a->(∀g,F9 X.C.T g s d a=F9 X.C.T h s d a)->∃bl,Tj X.C F bl h fr o x/\∀b∈bl,b<h.nx/\∃id∈l,id<st.nx/\∀y,ρ id=some y->y.1=b:=by
   intro a ha J;rw[ha]at D;simp only at D;obtain⟨x',q,G⟩:=GQ D;cases G;exact⟨[],fun g _ _=>⟨g,by rw[m,ha];simp only;rw[J,q];rfl⟩,fun b M=>by cases M⟩
  split at O
  case h_3=>cases O
  case h_1=>
   rename_i k z hp;obtain⟨Z,E,p⟩:=Cj (C:=X.C) hr.fp hp;simp only[PR,DC,z8,ve]at p;subst p;exact fin _ E fun g=>by
    unfold F9;cases X.C.T.und s with
    |none=>rfl
    |some u=>cases X.C.T.und d with
     |none=>cases u<;>rfl
     |some w=>cases u<;>cases w<;>rfl
  case h_2=>
   rename_i z hp;obtain⟨Z,E,p⟩:=Cj (C:=X.C) hr.fp hp;simp only[PR,DC,z8,ve]at p;subst p;exact fin _ E fun g=>by
    unfold F9;cases X.C.T.und s with
    |none=>rfl
    |some u=>cases X.C.T.und d with
     |none=>cases u<;>rfl
     |some w=>cases u<;>cases w<;>rfl
 case h_3 c r=>
  simp only[r]at D;split at O
  case h_5=>cases O
  case h_4=>
   rename_i id I R;obtain⟨AfY,E,p⟩:=Fg (C:=X.C) hr.fp R;simp only[Bf]at p;obtain⟨a,as',rfl,p,rfl⟩:=p;have m:∀g,GI X.C fr g o=Bx g (Gj X.C.T g c.argTypes [a]):=fun g=>by rw[Dc];unfold G1;simp only[r,I,E];rfl
   simp only[I,E,EC]at D;obtain⟨x',q,G⟩:=GQ D;cases G;cases O;by_cases K:∃b,a=.map b
   ·obtain⟨b,rfl⟩:=K;simp only[PR]at p;by_cases M:∃ob,h.get b=some ob
    ·obtain⟨ob,M⟩:=M;refine⟨[b],fun g _ J=>⟨g,?_⟩,fun b' A=>?_⟩
     ·rw[m];have:Gj X.C.T g c.argTypes [.map b]=Gj X.C.T h c.argTypes [.map b]:=by
       unfold Gj;cases c.argTypes[0]? with
       |none=>rfl
       |some t=>
        simp only;cases X.C.T.und t with
        |none=>rfl
        |some d=>cases d<;>first|rfl|simp only[J b<|zc.2 rfl]
      rw[this,q];rfl
     ·cases zc.1 A;refine⟨hr.sr.lt b ob M,id,zc.2 rfl,p.1,fun z W=>?_⟩;have:=p.2 z.1 z.2 W;cases this;rfl
    ·have Y:h.get b=none:=by
      cases J:h.get b with
      |none=>rfl
      |some ob=>exact wh ⟨ob,J⟩ M
     refine⟨[],fun g _ _=>⟨g,?_⟩,fun b' A=>by cases A⟩;obtain⟨uu,s,S⟩:=hto;exfalso;rw[r]at S;simp only[pop,S9,R,I,IJ,uT,Uq,yb,List.map_nil,lz]at S;split at S
     case h_2=>simp at S
     rename_i t x _ G;cases G;split at S
     case h_5=>
      rename_i G;cases G;split at S
      case h_2=>simp at S
      rename_i ks vs l ho;obtain⟨b1,n1,o1,q1,q2,_⟩:=hr.sr.at ho;have:=p.2 b1 n1 q1;cases this;rw[Y]at q2;cases q2
     all_goals first|(simp at S;done)|(rename_i G;cases G;done)|(rename_i G _;cases G)
   ·refine⟨[],fun g _ _=>⟨g,?_⟩,fun b M=>by cases M⟩;rw[m,OC (fun b e=>K ⟨b,e⟩) h,q];rfl
  all_goals
   rename_i I R;obtain⟨AfY,E,p⟩:=Fg (C:=X.C) hr.fp R;simp only[Bf]at p;obtain⟨a,as',rfl,p,rfl⟩:=p;have m:∀g,GI X.C fr g o=Bx g (Gj X.C.T g c.argTypes [a]):=fun g=>by rw[Dc];unfold G1;simp only[r,I,E];rfl
   simp only[I,E,EC]at D;have hnm:∀b,a≠ .map b:=by
    intro b e;subst e;first
     |exact W3 p
     |exact WE p
     |(obtain⟨u,s,S⟩:=hto
       exact kL hr.sr r I R S p)
   obtain⟨x',q,G⟩:=GQ D;cases G;refine⟨[],fun g _ _=>⟨g,?_⟩,fun b M=>by cases M⟩;rw[m];rw[OC hnm h,q];rfl
structure mJ(C:Ctx)(F:Fz)(ρ:En)(N:Nat)(h:H)(r:Nat×Option (List Nat))(c:Rc):Prop where
 i:c.i=r.1
 k:∀l,r.2=some l->∃bl,Tj C F bl h c.f c.o c.v/\∀b∈bl,b<h.nx/\∃id∈l,id<N/\∀y,ρ id=some y->y.1=b
def XG(C:Ctx)(F:Fz)(ρ:En)(N:Nat)(h:H):Rs->List Rc->Prop
 |[],l=>l=[]
 |r::a,l=>∃c cs,l=c::cs/\mJ C F ρ N h r c/\XG C F ρ N h a cs
theorem mJ.mono{F':Fz}{ρ':En}{N':Nat}{r:Nat×Option (List Nat)}{c:Rc}(o:mJ X.C F ρ N h r c)(j:Le F ρ N F' ρ' N')(w:h.nx<=h'.nx)
  (u:∀l,r.2=some l->∀b,b<h.nx->(∃id∈l,id<N/\∀y,ρ id=some y->y.1=b)->h'.get b=h.get b):mJ X.C F' ρ' N' h' r c:=by
 refine⟨o.i,fun l d=>?_⟩;obtain⟨bl,s,p⟩:=o.k l d;refine⟨bl,fun g v t=>s g (fun b cs A=>v b cs<|j.fz b cs A)<|fun b a=>?_,fun b a=>?_⟩
 ·obtain⟨e,m⟩:=p b a;rw[t b a,u l d b e m]
 ·obtain⟨e,id,m,q,x⟩:=p b a;exact⟨zh e w,id,m,zh q j.n,fun y z=>x y<|j.at q z⟩
theorem XG.mono{F':Fz}{ρ':En}{N':Nat}(i:Le F ρ N F' ρ' N')(g:h.nx<=h'.nx)(e:∀b,b<h.nx->h'.get b=h.get b):∀ {d:Rs} {cs:List Rc},XG X.C F ρ N h d cs->XG X.C F' ρ' N' h' d cs
 |[],_,a=>a
 |r::d,_,a=>by
  obtain⟨c,cs,rfl,j,m⟩:=a;exact⟨c,cs,rfl,j.mono i g<|fun l _ b k _=>e b k,XG.mono i g e m⟩
theorem XG.apart{F':Fz}{ρ':En}{fr':Fr}{anc:Nat->Nat->Bool}{i:Nat}{t:Option (List Nat)}(hr:Rel B h0 F ρ st fr h)(q:Dx B h0 F ρ st.nx h st' fr' h' F' ρ')
  (M:∀g,t=some g->∀b,b<h.nx->h'.get b=h.get b\/∃id∈g,∃m,ρ id=some (b,m)):
  ∀ {x:Rs} {cs:List Rc},XG X.C F ρ st.nx h x cs->zw anc i st t x=true->cs.all (still X.C anc i h')=true/\XG X.C F' ρ' st'.nx h' (behind st t x) cs
 |[],_,I,_=>by
  cases I;exact⟨rfl,rfl⟩
 |r::x,_,I,p=>by
  obtain⟨c,cs,rfl,v,V⟩:=I;unfold zw at p;rw[zn,ze]at p;obtain⟨h3,h4⟩:=XG.apart hr q M V (by unfold zw;exact p.2);have key:(aF r.2 t&&La st r.2)=true->∀l,r.2=some l->∀b,b<h.nx->(∃id∈l,id<st.nx/\∀y,ρ id=some y->y.1=b)->h'.get b=h.get b:=by
   rintro j l o b w ⟨id,u,L,R⟩;simp only[ze,o]at j;have d:=List.all_eq_true.1 j.2 id u;obtain⟨D,W,O⟩:=hr.sr.live d;obtain rfl:D=b:=R _ O;cases t with
   |none=>
    cases l with
    |nil=>cases u
    |cons a l=>cases j.1
   |some g=>
    rcases M g rfl D w with e|⟨id',P,m,A⟩
    ·exact e
    ·exfalso;obtain⟨o1,S⟩:=Jb d;have J:∃s,AP st.ob id'=some s:=by
      cases U:AP st.ob id' with
      |some s=>exact⟨s,rfl⟩
      |none=>rw[hr.sr.dead id' U]at A;cases A
     obtain⟨s,J⟩:=J;obtain rfl:=hr.sr.inj id id' o1 s D W m S J O A;have K:=List.all_eq_true.1 j.1 id u;simp only[Bool.not_eq_true']at K;have T:g.any (zj id)=true:=zz.2 ⟨id,P,yd id⟩;rw[T]at K;cases K
  refine⟨?_,c,cs,rfl,?_,h4⟩
  ·rw[zn,h3,zr];unfold still;rw[v.i];cases E:anc i r.1 with
   |true=>rfl
   |false=>
    rw[E]at p;simp only[Bool.false_or]at p ⊢;have j:=p.1;have o:∃l,r.2=some l:=by
     cases G:r.2 with
     |some l=>exact⟨l,rfl⟩
     |none=>rw[G]at j;simp[aF]at j
    obtain⟨l,o⟩:=o;obtain⟨bl,u,L⟩:=v.k l o;obtain⟨z,hz⟩:=u h' (fun b cs Y=>q.rel.sr.frz b cs<|q.le.fz b cs Y)<|fun b w=>key j l o b (L b w).1 (L b w).2;rw[hz];simp only;exact MI _
  ·show mJ X.C F' ρ' st'.nx h' (bif aF r.2 t&&La st r.2 then r else(r.1,none)) c;cases j:(aF r.2 t&&La st r.2)with
   |true=>exact v.mono q.le q.nx<|key j
   |false=>
    exact⟨v.i,fun l o=>by cases o⟩
theorem Qm{C:Ctx}{o:Oper}(j:CA o=true){r:OR}(a:GI C fr h o=some r):∃ob f,eA C fr o=some (ob,f)/\r=.val (f h.nx) (h.push ob):=by
 rw[Dc]at a;unfold G1 at a;unfold CA at j;unfold eA;split at j
 case h_4=>cases j
 case h_1 t b=>
  simp only[b]at a ⊢;unfold G2 at a;cases d:C.T.inf t with
  |none=>rw[d]at a;cases a
  |some i=>rw[d]at a;cases a;exact⟨_,_,rfl,rfl⟩
 case h_2 t x b=>
  simp only[b]at a ⊢;cases c:ev C fr x with
  |none=>rw[c]at a;cases a
  |some y=>rw[c]at a;cases a;exact⟨_,_,rfl,rfl⟩
 case h_3 t n ps b=>
  simp only[b]at a ⊢;cases c:W8 C fr ps.toList with
  |none=>rw[c]at a;cases a
  |some y=>
   rw[c]at a;simp only at a ⊢;unfold E9 at a;unfold Xa;split at a
   case h_2=>cases a
   rename_i e l;simp only[l];split at a
   case h_2=>cases a
   rename_i i d;simp only[d];cases k:(Nat.ble (n*i.size) 16777216&&z6 0 (i.zero.length)&&zj i.zero.length i.size)with
   |false=>rw[k]at a;cases a
   |true=>
    rw[k]at a;simp only[we]at a ⊢;split at a
    case h_2=>cases a
    rename_i cs g;cases a;simp only[g];exact⟨_,_,rfl,rfl⟩
theorem Ada{T:B6}{call:Gi}{st:AL}{o:Oper}{k:AL->Tr}(a:EG o=true):HL T call o st k=PZ o.dst k (pop o.op T st):=by
 have:Kp st o.op=.no:=by
  unfold EG at a;unfold Kp;cases b:o.op<;>rw[b]at a<;>first|rfl|skip
  case call c=>
   obtain⟨callee,args,ts⟩:=c;cases callee<;>first|rfl|(cases a)
 unfold HL;rw[this]
theorem AbA{call:Gi}(e:FD B h0 X false call)(hr:Rel B h0 F ρ st fr h){o:Oper}(a:EG o=true){k:AL->Tr}(p:Ev X Q n (HL X.C.T call o st k)):
  ∃n',n'<=n/\∃c,Ev X Q n' (k c)/\∃F' ρ' x fr',GI X.C fr h o=some (.val x h)/\fr.put o.dst x=some fr'/\Dx B h0 F ρ st.nx h c fr' h F' ρ'/\∃u s,(pop o.op X.C.T st).To u s:=by
 obtain⟨l,g,m,i⟩:=HI e hr p;obtain⟨⟨⟨x,h'⟩,rfl⟩,_⟩:=m.1 rfl;obtain⟨n',hn,c,he1,F',ρ',fr',hput,hw,_⟩:=i _<|zc.2 rfl;have j:∃u s,(pop o.op X.C.T st).To u s:=by
  rw[Ada a]at p;obtain⟨u,s,_,q,_⟩:=JI p;exact⟨u,s,q⟩
 cases g with
 |val b=>
  obtain⟨y,d⟩:=rd_val a b;cases d;exact⟨n',hn,c,he1,F',ρ',x,fr',b,hput,hw,j⟩
 |skip b=>obtain⟨y,d⟩:=rd_val a b;cases d
 |call b _=>obtain⟨y,d⟩:=rd_val a b;cases d
 |round b _=>obtain⟨y,d⟩:=rd_val a b;cases d
 |alts b=>obtain⟨y,d⟩:=rd_val a b;cases d
theorem QJ{call:Gi}(v:FD B h0 X false call){ops:Array Oper}{anc:Nat->Nat->Bool}:∀ {L:List Nat} {n:Nat} {st:AL} {F:Fz} {ρ:En} {fr:Fr} {h:H} {k:AL->Tr} {W:Rs} {cs:List Rc},Rel B h0 F ρ st fr h->XG X.C F ρ st.nx h W cs->
  Ev X Q n (JW X.C.T X.sp call ops anc L st W k)->
  ∃n',n'<=n/\∃p,Ev X Q n' (k p)/\∃F' ρ' fr' h',Dx B h0 F ρ st.nx h p fr' h' F' ρ'/\∃M,∀m,M<=m->∃cs',UH X.C (Bl X.C m) ops anc L ⟨fr,h,cs⟩=some ⟨fr',h',cs'⟩
 |[],n,st,F,ρ,fr,h,k,W,cs,hr,_,d=>⟨n,zd _,st,d,F,ρ,fr,h,Dx.refl hr,0,fun _ _=>⟨cs,rfl⟩⟩
 |i::is,n,st,F,ρ,fr,h,k,W,cs,hr,O,d=>by
  unfold JW at d;cases ho:ops[i]? with
  |none=>rw[ho]at d;exact wh d zg
  |some o=>
   rw[ho]at d;simp only at d;obtain⟨p,A,Y,e2,hcase⟩:=Nr hr d;rw[<-Y]at O;have fin:∀ {n1:Nat} {q:AL} {F1:Fz} {D:En} {w:Fr} {h1:H} {rs2:Rs} {cs2:List Rc},n1<=n->Dx B h0 F ρ st.nx h q w h1 F1 D->XG X.C F1 D q.nx h1 rs2 cs2->Ev X Q n1 (JW X.C.T X.sp call ops anc is q rs2 k)->
     (∃M,∀m,M<=m->∃x,Ih X.C (Bl X.C m) ops anc i ⟨fr,h,cs⟩=some (x,⟨w,h1,cs2⟩))->
     ∃n',n'<=n/\∃p,Ev X Q n' (k p)/\∃F' ρ' fr' h',Dx B h0 F ρ st.nx h p fr' h' F' ρ'/\∃M,∀m,M<=m->∃cs',UH X.C (Bl X.C m) ops anc (i::is) ⟨fr,h,cs⟩=some ⟨fr',h',cs'⟩:=by
    rintro n1 q F1 D w h1 rs2 cs2 E U u s ⟨M1,hM1⟩;obtain⟨n2,hn2,st3,he3,F2,ρ2,fr2,h2,hw2,M2,hM2⟩:=QJ v U.rel u s;refine⟨n2,zi hn2 E,st3,he3,F2,ρ2,fr2,h2,U.trans hw2,max M1 M2,fun m hm=>?_⟩;obtain⟨x,hx⟩:=hM1 m ae;obtain⟨cs',hcs'⟩:=hM2 m ae;exact⟨cs',by unfold UH;rw[hx];exact hcs'⟩
   rcases hcase with⟨U,d⟩|⟨U,d⟩
   ·cases G:EG o with
    |true=>
     rw[G]at d;simp only[we]at d;obtain⟨n1,E,q,s,F1,D,x,w,r,j,c,hto⟩:=AbA v A G d;rw[Y]at c;have u:XG X.C F1 D q.nx h W cs:=O.mono (by rw[Y];exact c.le) (zd _)<|fun _ _=>rfl;cases V:PN o with
     |false=>
      rw[V]at s;refine fin (cs2:=cs) E c u s ⟨0,fun m _=>⟨x,?_⟩⟩;unfold Ih;simp only[ho,U,we,G,r,j,V,wg]
     |true=>
      rw[V]at s;refine fin (cs2:=⟨i,o,fr,x⟩::cs) (rs2:=(i,uO p o.op)::W) E c ⟨_,_,rfl,⟨rfl,fun l hl=>?_⟩,u⟩ s ⟨0,fun m _=>⟨x,?_⟩⟩
      ·obtain⟨bl,K,I⟩:=cH A r hl hto;refine⟨bl,fun g hg hb=>K g (fun b cs hF=>hg b cs<|c.le.fz b cs hF) hb,fun b hb=>?_⟩;obtain⟨j1,id,j2,j3,j4⟩:=I b hb;rw[Y]at j3;exact⟨j1,id,j2,zh j3 c.le.n,fun y hy=>j4 y<|c.le.at j3 hy⟩
      ·unfold Ih;simp only[ho,U,we,G,r,j,V]
    |false=>
     rw[G]at d;simp only[wg]at d;cases z:CA o with
     |true=>
      rw[z]at d;simp only[we]at d;obtain⟨l,P,Z,R⟩:=HI v A d;obtain⟨⟨⟨x,h1⟩,rfl⟩,hna⟩:=Z.1 rfl;obtain⟨n1,E,q,s,F1,D,w,j,c,_⟩:=R _<|zc.2 rfl;rw[Y]at c;simp only at j c;have hv:∃ob f,eA X.C fr o=some (ob,f)/\x=f h.nx/\h1=h.push ob:=by
       cases P with
       |val r=>obtain⟨ob,f,K,I⟩:=Qm z r;cases I;exact⟨ob,f,K,rfl,rfl⟩
       |skip r=>obtain⟨ob,f,K,I⟩:=Qm z r;cases I
       |call r _=>obtain⟨ob,f,K,I⟩:=Qm z r;cases I
       |round r _=>obtain⟨ob,f,K,I⟩:=Qm z r;cases I
       |alts r=>obtain⟨ob,f,K,I⟩:=Qm z r;cases I
      obtain⟨ob1,f,K,rfl,rfl⟩:=hv;have u:XG X.C F1 D q.nx (h.push ob1) W cs:=O.mono (by rw[Y];exact c.le) (by simp) (fun b hb=>by simp[Nat.ne_of_lt hb]);refine fin (cs2:=cs) E c u s ⟨0,fun m _=>⟨f h.nx,?_⟩⟩;unfold Ih;simp only[ho,U,we,G,wg,z,K,j]
     |false=>
      rw[z]at d;simp only[wg]at d;cases J:(zw anc i p (G6 X.sp p o.op) W&&jU p o.op)with
      |false=>rw[J]at d;exact wh d zg
      |true=>
       rw[J]at d;simp only[we]at d;simp only[ze]at J;obtain⟨S,hnr⟩:=J;obtain⟨l,P,Z,R⟩:=HI v A d;obtain⟨⟨⟨x,h1⟩,rfl⟩,hna⟩:=Z.1 rfl;obtain⟨n1,E,q,s,F1,D,w,j,c,htch⟩:=R _<|zc.2 rfl;simp only at j c htch;obtain⟨K,I⟩:=XG.apart A c htch O S;rw[Y]at c;refine fin E c I s ?_;have hh:∃M,∀m,M<=m->DR X.C (Bl X.C m) fr h o=some (x,h1):=by
        cases P with
        |val r=>exact⟨0,fun m _=>by unfold DR;rw[r]⟩
        |skip r=>exact⟨0,fun m _=>by unfold DR;rw[r]⟩
        |alts r=>exact wh r<|hna _
        |round r _=>exact wh r (Z.2 (fun id a e=>by unfold jU at hnr;rw[e]at hnr;cases hnr) _ _ _)
        |@call g args _ M r hM=>exact⟨M,fun m hm=>by unfold DR;rw[r];simp only[hM m hm]⟩
       obtain⟨M,hM⟩:=hh;refine⟨M,fun m hm=>⟨x,?_⟩⟩;unfold Ih;simp only[ho,U,we,G,wg,z,hM m hm,j,K]
   ·cases hv:CQ o with
    |false=>
     rw[hv]at d;simp only[wg]at d;unfold MG at d;split at d
     case h_2=>exact wh d zg
     rename_i q j;obtain⟨w,g1,g2,g3,g4⟩:=A.put (x:=.tup []) (by simp[PR]) j;refine fin (cs2:=cs) (zd _) ⟨g2,by rw[g3,Y];exact zt,zd _⟩ (by rw[g3];exact O) d ⟨0,fun m _=>⟨.tup [],?_⟩⟩;unfold Ih;simp only[ho,U,wg,g1,hv]
    |true=>
     rw[hv]at d;simp only[we]at d;cases S:zw anc i p (some []) W with
     |false=>rw[S]at d;exact wh d zg
     |true=>
      rw[S]at d;simp only[we]at d;unfold MG at d;split at d
      case h_2=>exact wh d zg
      rename_i q j;obtain⟨w,g1,g2,g3,g4⟩:=A.put (x:=.tup []) (by simp[PR]) j;have c:Dx B h0 F ρ p.nx h q w h F ρ:=⟨g2,by rw[g3];exact zt,zd _⟩;obtain⟨K,I⟩:=XG.apart (t:=some []) A c (fun ids _ b _=>.inl rfl) O S;rw[Y]at c;refine fin (zd _) c I d ⟨0,fun m _=>⟨.tup [],?_⟩⟩;unfold Ih;simp only[ho,U,wg,g1,hv,we,K]
theorem dD{call:Gi}(c:FD B h0 X false call){ops:Array Oper}{k:AL->Tr}(hr:Rel B h0 F ρ st fr h)(j:Ev X Q n (JW X.C.T X.sp call ops (EY ops).a (EY ops).ord st [] k)):
  ∃n',n'<=n/\∃b,Ev X Q n' (k b)/\∃F' ρ' fr' h',Dx B h0 F ρ st.nx h b fr' h' F' ρ'/\∃M,∀m,M<=m->I4 X.C (Bl X.C m) ops fr h=some (fr',h'):=by
 obtain⟨n',g,b,d,F',ρ',fr',h',i,M,e⟩:=QJ (cs:=[]) c hr (by rfl) j;refine⟨n',g,b,d,F',ρ',fr',h',i,M,fun m l=>?_⟩;obtain⟨cs',hcs'⟩:=e m l;unfold I4;rw[hcs']
end
section
variable {B:Nat}{h0:H0}{F:Fz}{ρ ρ':En}{N N':Nat}{f:Nat->Option Nat}
mutual
theorem QM(k:∀i j,i<N->f i=some j->j<N'/\ρ' j=ρ i):∀ {p:PV} {v:V},PR F ρ N p v->PR F ρ' N' (Gq f p) v
 | .any,_,_=>by simp[Gq,PR]
 | .bl _,_,h=>by simpa only[Gq,PR]using h
 | .ub,_,h=>by simpa only[Gq,PR]using h
 | .dat _ _,_,h=>by simpa only[Gq,PR]using h
 | .nil,_,h| .nilp,_,h| .nilm,_,h| .nilf,_,h| .nili,_,h=>by simpa only[Gq,PR]using h
 | .BF _ _ _,_,h=>by simpa only[Gq,PR]using h
 | .agg l,_,h=>by simp only[Gq,PR]at h ⊢;obtain⟨cs,rfl,c⟩:=h;exact⟨cs,rfl,EV k c⟩
 | .tup l,_,h=>by simp only[Gq,PR]at h ⊢;obtain⟨cs,rfl,c⟩:=h;exact⟨cs,rfl,EV k c⟩
 | .fn g a b,_,h=>by simp only[Gq,PR]at h ⊢;obtain⟨x,y,rfl,c,d⟩:=h;exact⟨x,y,rfl,EV k c,EV k d⟩
 | .ptr i o,_,h=>by
  simp only[Gq];cases m:f i with
  |none=>simp[PR]
  |some j=>
   simp only[PR]at h ⊢;obtain⟨c,d⟩:=k i j h.1 m;exact⟨c,fun b n e=>h.2 b n<|by rw[<-d];exact e⟩
 | .eptr i _ _ _,_,h=>by
  simp only[Gq];cases m:f i with
  |none=>simp[PR]
  |some j=>
   simp only[PR]at h ⊢;obtain⟨c,d⟩:=k i j h.1 m;exact⟨c,fun b n e=>h.2 b n<|by rw[<-d];exact e⟩
 | .sl i _ _ _ _,_,h=>by
  simp only[Gq];cases m:f i with
  |none=>simp[PR]
  |some j=>
   simp only[PR]at h ⊢;obtain⟨c,d⟩:=k i j h.1 m;exact⟨c,fun b n e=>h.2 b n<|by rw[<-d];exact e⟩
 | .yl i,_,h=>by
  simp only[Gq];cases m:f i with
  |none=>simp[PR]
  |some j=>
   simp only[PR]at h ⊢;obtain⟨c,d⟩:=k i j h.1 m;exact⟨c,fun b n e=>h.2 b n<|by rw[<-d];exact e⟩
 | .mp i,_,h=>by
  simp only[Gq];cases m:f i with
  |none=>simp[PR]
  |some j=>
   simp only[PR]at h ⊢;obtain⟨c,d⟩:=k i j h.1 m;exact⟨c,fun b n e=>h.2 b n<|by rw[<-d];exact e⟩
theorem EV(a:∀i j,i<N->f i=some j->j<N'/\ρ' j=ρ i):∀ {ps:List PV} {vs:List V},Bf F ρ N ps vs->Bf F ρ' N' (J2 f ps) vs
 |[],_,h=>by simpa [J2]using h
 |p::ps,_,h=>by
  simp only[Bf]at h;obtain⟨v,vs,rfl,b,c⟩:=h;simp only[J2,A4];exact⟨QM a b,EV a c⟩
end
theorem Rz(f:PV->PV):∀(sl:List (Nat×PV)) (m a:PM PV),(∀t,a.get t=(m.get t).map f)->∀t,((sl.map fun x=>(x.1,f x.2)).foldl (fun m x=>m.set x.1<|some x.2) a).get t=((sl.foldl (fun m x=>m.set x.1<|some x.2) m).get t).map f
 |[],_,_,h,t=>h t
 |x::sl,m,a,h,t=>by
  simp only[yb,List.foldl_cons];refine Rz f sl _ _ (fun t=>?_) t;rw[PM.Dm,PM.Dm];split
  ·rfl
  ·exact h t
theorem WD(f:PV->PV)(a:f .any=.any)(sl:List (Nat×PV))(t:Nat):Tq (sl.map fun x=>(x.1,f x.2)) t=f (Tq sl t):=by
 unfold Tq FM;rw[Rz f sl .leaf .leaf (fun t=>by rw[PM.Du];rfl) t];cases (sl.foldl (fun m x=>m.set x.1<|some x.2) PM.leaf).get t with
 |none=>exact a.symm
 |some x=>rfl
theorem lJ(d:∀i j,i<N->f i=some j->j<N'/\ρ' j=ρ i){n:Nat}{o:Obj}{x:O}(h:ZP F ρ N n o x):ZP F ρ' N' n (Sb f o) x:=by
 cases o with
 |arr fz e s l=>exact h
 |box ps=>obtain⟨cs,t,fz,a,c,b⟩:=h;exact⟨cs,t,fz,a,EV d c,b⟩
 |tbox t ps=>obtain⟨cs,fz,a,c,b⟩:=h;exact⟨cs,fz,a,EV d c,b⟩
 |lp g r ps asg body s n sl=>
  obtain⟨ls,a,c,b,m,q,k,u⟩:=h;refine⟨ls,a,c,b,m,q,k,fun t=>?_⟩;rw[WD (Gq f)<|by simp[Gq]];exact QM d<|u t
 |map ks vs l=>exact h
 |siter s p=>exact h
theorem VV(o:Obj):(Sb f o).frozen=o.frozen:=by cases o<;>rfl
theorem Jy{st:AL}{base:Nat}:∀(n:Nat) (g acc:List Nat),(∀i∈acc,base<=i/\(st.obj i).isSome=true)->acc.Nodup->(∀i∈I5 st base n g acc,base<=i/\(st.obj i).isSome=true)/\(I5 st base n g acc).Nodup
 |0,_,acc,c,d=>⟨c,d⟩
 |n+1,[],acc,c,d=>⟨c,d⟩
 |n+1,i::g,acc,c,d=>by
  unfold I5;cases p:(z6 i base||acc.any (zj i))with
  |true=>simp only[we];exact Jy n g acc c d
  |false=>
   simp only[wg];cases r:st.obj i with
   |none=>simp only;exact Jy n g acc c d
   |some o=>
    simp only;simp only[Bool.or_eq_false_iff]at p;have q:base<=i:=by
     rcases Nat.lt_or_ge i base with h|h
     ·have:=p.1;rw[DM h]at this;cases this
     ·exact h
    have l:i∉acc:=by
     intro t;have:acc.any (zj i)=true:=zz.2 ⟨i,t,yd i⟩;rw[p.2]at this;cases this
    refine Jy n _ _ (fun j k=>?_) ?_
    ·rcases zp.1 k with k|k
     ·exact c j k
     ·cases zc.1 k;exact⟨q,by rw[r];rfl⟩
    ·rw[List.nodup_append];exact⟨d,by simp,fun a s b m=>by cases zc.1 m;exact fun e=>l<|e▸s⟩
theorem QS{base:Nat}:∀(b:List Nat) (n i j:Nat),b.Nodup->OX base b n i=some j->(∃k,b[k]?=some i/\j=n+k)\/(i∉b/\i<base/\j=i)
 |[],n,i,j,_,h=>by
  unfold OX at h;cases g:z6 i base with
  |false=>rw[g]at h;cases h
  |true=>rw[g]at h;cases h;exact .inr ⟨by simp,zq g,rfl⟩
 |a::b,n,i,j,o,h=>by
  unfold OX at h;rw[Bp]at h;by_cases e:i=a
  ·subst e;simp only[decide_true,we,zm]at h;exact .inl ⟨0,rfl,by omega⟩
  ·simp only[e,decide_false,wg]at h;have d:=List.nodup_cons.1 o;rcases QS b (zx n 1) i j d.2 h with⟨k,c,l⟩|⟨c,l,m⟩
   ·exact .inl ⟨k+1,by simpa using c,by rw[l];show n+1+k=_;omega⟩
   ·exact .inr ⟨by simp[e,c],l,m⟩
theorem Zd(f:Nat->Option Nat)(base:Nat):∀(l:Ob) (j:Nat),AP (low f base l) j=if j<base then(AP l j).map (Sb f)else none
 |[],j=>by simp[low,AP]
 |(i,o)::l,j=>by
  simp only[low];have b:=Zd f base l j;by_cases a:i<base
  ·rw[DM a];simp only[we,AP,Bp];by_cases e:i=j
   ·subst e;simp[a]
   ·simp only[e,decide_false,wg];exact b
  ·have:z6 i base=false:=by
    cases c:z6 i base with
    |false=>rfl
    |true=>exact wh (zq c) a
   rw[this];simp only[wg,AP,Bp];rw[b];by_cases e:i=j
   ·subst e;simp[a]
   ·simp[e]
theorem Un{st:AL}(f:Nat->Option Nat):∀(a:List Nat) (n:Nat) (b:Ob) (j:Nat),(∀i∈a,(st.obj i).isSome=true)->AP (kept st f a n b) j=(if n<=j/\j<n+a.length then(a[j-n]?).bind fun i=>(st.obj i).map (Sb f)else AP b j)
 |[],n,b,j,_=>by simp only[kept,List.length_nil];rw[wc ae]
 |i::a,n,b,j,h=>by
  obtain⟨o,d⟩:=zy.1 (h i<|by simp);unfold kept;rw[d];simp only;rw[Un f a (zx n 1) _ j<|fun k g=>h k<|by simp[g]];have l:zx n 1=n+1:=rfl;rw[l];by_cases c:n+1<=j/\j<n+1+a.length
  ·rw[wd c,wd<|by simp;omega];have:j-n=(j-(n+1))+1:=ae
   rw[this];simp
  ·rw[wc c];simp only[AP,Bp];by_cases e:n=j
   ·subst e;rw[wd<|by simp];simp[d]
   ·rw[wc<|by simp;omega];simp[e]
theorem Je:∀(vs:List (Nat×PV)) (m:PM PV) (t:Nat) (p:PV),(vs.foldl (fun m x=>m.set x.1<|some x.2) m).get t=some p->(t,p)∈vs\/m.get t=some p
 |[],m,t,p,h=>.inr h
 |x::vs,m,t,p,h=>by
  rcases Je vs _ t p h with a|a
  ·exact .inl<|List.mem_cons_of_mem _ a
  ·rw[PM.Dm]at a;split at a
   ·rename_i e;cases a;exact .inl (by rw[e];exact List.mem_cons_self)
   ·exact .inr a
theorem dH{st:AL}{fr:Fr}{h:H}(hr:Rel B h0 F ρ st fr h)(base:Nat)(L:List Nat)(_hb:base<=st.nx):
  ∃ρ',Rel B h0 F ρ' (canon base L st) fr h/\base<=(canon base L st).nx/\∀id,id<base->ρ' id=ρ id:=by
 generalize A:I5 st base 100 (J9 ((L.map fun t=>(t,st.get t)).map (·.2))++PH base st.ob) []=ids;have C:=Jy (st:=st) (base:=base) 100 (J9 ((L.map fun t=>(t,st.get t)).map (·.2))++PH base st.ob) [] (fun i G=>by cases G) zk;rw[A]at C;obtain⟨E,D⟩:=C;let g:=OX base ids base
 let q:En:=fun id=>if id<base then ρ id else(ids[id-base]?).bind ρ
 have y:∀id,id<base->q id=ρ id:=fun id h=>by show(if id<base then ρ id else _)=_;rw[wd h]
 have z:∀k i,ids[k]?=some i->q (base+k)=ρ i:=by
  intro k i r;show(if base+k<base then ρ (base+k)else(ids[base+k-base]?).bind ρ)=ρ i;rw[wc ae,Nat.add_sub_cancel_left,r];rfl
 have K:canon base L st=Av st.n ((L.map fun t=>(t,st.get t)).map fun x=>(x.1,Gq g x.2)) (kept st g ids base<|low g base st.ob) (base+ids.length):=by
  rw[show g=OX base ids base from rfl, <-A];rfl
 have V:∀i j,i<st.nx->g i=some j->j<base+ids.length/\q j=ρ i:=by
  intro i j _ T;rcases QS ids base i j D T with⟨k,d,rfl⟩|⟨_,w,rfl⟩
  ·have:=(zf.1 d).1;exact⟨by omega,z k i d⟩
  ·exact⟨by omega,y _ w⟩
 have I:∀j,AP (kept st g ids base<|low g base st.ob) j=if j<base then(AP st.ob j).map (Sb g)else(ids[j-base]?).bind fun i=>(st.obj i).map (Sb g):=by
  intro j;rw[Un g ids base _ j<|fun i G=>(E i G).2,Zd];by_cases d:j<base
  ·rw[wc ae,wd d,wd d]
  ·by_cases w:j<base+ids.length
   ·rw[wd ae,wc d]
   ·rw[wc ae,wc d,wc d,List.getElem?_eq_none ae];rfl
 have src:∀j o',AP (kept st g ids base<|low g base st.ob) j=some o'->∃i o,AP st.ob i=some o/\o'=Sb g o/\q j=ρ i/\j<base+ids.length/\((j<base/\i=j)\/(base<=j/\ids[j-base]?=some i/\base<=i)):=by
  intro j o' v;rw[I]at v;by_cases d:j<base
  ·rw[wd d,z7]at v;obtain⟨o,w,rfl⟩:=v;exact⟨j,o,w,rfl,y j d,by omega,.inl ⟨d,rfl⟩⟩
  ·rw[wc d]at v;cases r:ids[j-base]? with
   |none=>rw[r]at v;cases v
   |some i=>
    rw[r]at v;simp only[Option.bind_some,z7]at v;obtain⟨o,w,rfl⟩:=v;have Y:=(zf.1 r).1;have:=z (j-base) i r;rw[show base+(j-base)=j from by omega]at this;exact⟨i,o,w,rfl,this,by omega,.inr ⟨by omega,by first|exact r|rfl,(E i<|List.mem_of_getElem? r).1⟩⟩
 refine⟨q,?_,by rw[K];show base<=base+ids.length;omega,y⟩;rw[K];refine⟨⟨hr.fp.n,fun t=>?_⟩,⟨fun j o' v=>?_,fun i j oi oj c m m' G v d w=>?_,hr.sr.frz,fun id b m l=>?_,fun j v=>?_,hr.sr.old,hr.sr.lt,hr.sr.le,hr.sr.fo,hr.sr.gl,fun c K=>?_⟩⟩
 ·generalize R:((L.map fun t=>(t,st.get t)).map fun x=>(x.1,Gq g x.2))=vs;show PR F q (base+ids.length) (((FM vs).get t).getD .any)<|fr.get t;cases hp:(FM vs).get t with
  |none=>show PR F q (base+ids.length) PV.any<|fr.get t;simp[PR]
  |some p=>
   show PR F q (base+ids.length) p<|fr.get t;rcases Je vs .leaf t p hp with d|d
   ·rw[<-R]at d;simp only[List.map_map,ye,Function.comp]at d;obtain⟨s,_,w⟩:=d;cases w;exact QM V<|hr.fp.slot _
   ·simp at d
 ·obtain⟨i,o,d,rfl,w,h3,_⟩:=src j o' v;obtain⟨b,m,x,k1,k2,k3,k4⟩:=hr.sr.obj i o d;exact⟨b,m,x,w.trans k1,k2,lJ V k3,by rw[VV];exact k4⟩
 ·obtain⟨a,o,S,_,U,_,J⟩:=src i oi G;obtain⟨a',o',g4,_,g5,_,g6⟩:=src j oj v;rw[U]at d;rw[g5]at w;have O:=hr.sr.inj a a' o o' c m m' S g4 d w;subst O;rcases J with⟨e1,P⟩|⟨e1,P,e3⟩<;>rcases g6 with⟨Z,M⟩|⟨Z,M,f3⟩
  ·omega
  ·omega
  ·omega
  ·have W:=zf.1 P;have i2:=zf.1 M;have:=(List.getElem?_inj W.1 D).1<|P.trans M.symm;omega
 ·have l:(if id<base then ρ id else(ids[id-base]?).bind ρ)=some (b,m):=l;by_cases d:id<base
  ·rw[wd d]at l;exact⟨by show id<base+ids.length;omega,(hr.sr.own id b m l).2⟩
  ·rw[wc d]at l;cases r:ids[id-base]? with
   |none=>rw[r]at l;cases l
   |some i=>
    rw[r]at l;have:=(zf.1 r).1;exact⟨by show id<base+ids.length;omega,(hr.sr.own i b m l).2⟩
 ·have u:AP (kept st g ids base<|low g base st.ob) j=none:=v;rw[I]at u;show(if j<base then ρ j else(ids[j-base]?).bind ρ)=none;by_cases d:j<base
  ·rw[wd d]at u ⊢;exact hr.sr.dead j (by simpa using u)
  ·rw[wc d]at u ⊢;cases r:ids[j-base]? with
   |none=>rfl
   |some i=>
    rw[r]at u;simp only[Option.bind_some,Option.map_eq_none_iff]at u ⊢;exact hr.sr.dead i u
 ·obtain⟨S,U,J⟩:=hr.sr.pn c K;refine⟨S,U,fun id m e=>?_⟩;have e:(if id<base then ρ id else(ids[id-base]?).bind ρ)=some (c,m):=e;by_cases d:id<base
  ·rw[wd d]at e;exact J id m e
  ·rw[wc d]at e;cases r:ids[id-base]? with
   |none=>rw[r]at e;cases e
   |some i=>rw[r]at e;exact J i m e
end
section
variable {B:Nat}{h0:H0}{X:AT}{F:Fz}{ρ:En}{N:Nat}{h:H}
theorem RI(h0:H0)(a b:List Nat):(h0.pins a).pins b=h0.pins (b++a):=by unfold H0.pins;simp
theorem SR.iV{ob:Ob}{ps:List Nat}(hr:SR B (h0.pins ps) F ρ N ob h):SR B h0 F ρ N ob h:=
 ⟨hr.obj,hr.inj,hr.frz,hr.own,hr.dead,hr.old,hr.lt,hr.le,hr.fo,hr.gl,fun b a=>hr.pn b<|List.mem_append_right _ a⟩
theorem SR.mark{ob:Ob}(hr:SR B h0 F ρ N ob h):SR B (h0.pins [h.nx]) F ρ N ob (h.push<|.defd true):=by
 have g:∀b y,h.get b=some y->b≠h.nx:=fun b y k=>by have:=hr.lt b y k;omega
 have d:∀b y,h.get b=some y->(h.push<|.defd true).get b=some y:=fun b y k=>by rw[H.BI,wc<|g b y k];exact k
 refine⟨fun j oj v=>?_,hr.inj,fun c cs a=>?_,hr.own,hr.dead,fun c a C=>?_,fun c s a=>?_,?_,hr.fo,hr.gl,fun c a=>?_⟩
 ·obtain⟨c,m,y,q,x,r⟩:=hr.obj j oj v;exact⟨c,m,y,q,d c y x,r⟩
 ·obtain⟨t,fz,w⟩:=hr.frz c cs a;exact⟨t,fz,d _ _ w⟩
 ·have:=hr.le;rw[H.BI,wc ae];exact hr.old c a C
 ·rw[H.BI]at a;by_cases e:c=h.nx
  ·subst e;exact Nat.lt_succ_self _
  ·rw[wc e]at a;have:=hr.lt c s a;show c<h.nx+1;omega
 ·have:=hr.le;show B<=h.nx+1;omega
 ·rcases zp.1 a with a|a
  ·cases zc.1 a;refine⟨by rw[H.BI,wd rfl],hr.le,fun id n e=>?_⟩;by_cases i:∃o,AP ob id=some o
   ·obtain⟨o,z⟩:=i;obtain⟨c,m,y,l,p,_⟩:=hr.obj id o z;rw[e]at l;cases l;exact g _ _ p rfl
   ·have:AP ob id=none:=by
     cases A:AP ob id with
     |none=>rfl
     |some o=>exact wh ⟨o,A⟩ i
    rw[hr.dead id this]at e;cases e
  ·obtain⟨l,p,u⟩:=hr.pn c a;exact⟨d _ _ l,p,u⟩
theorem SR.tQ{ob:Ob}(hr:SR B h0 F ρ N ob h){b:Nat}{x y:O}(q:∀id o n,AP ob id=some o->ρ id≠some (b,n))(u:F b=none)(r:h0.cD B b)(v:b∉h0.pin)(t:h.get b=some x):SR B h0 F ρ N ob (h.put b y):=by
 refine⟨fun j oj l=>?_,hr.inj,fun c cs a=>?_,hr.own,hr.dead,fun c a p=>?_,fun c s a=>?_,hr.le,hr.fo,hr.gl,fun c a=>?_⟩
 ·obtain⟨c,m,y,d,i,g⟩:=hr.obj j oj l;have:c≠b:=fun e=>q j oj m l<|e▸d
  exact⟨c,m,y,d,by rw[H.Bm,wc this];exact i,g⟩
 ·have:c≠b:=fun e=>by rw[e,u]at a;cases a
  rw[H.Bm,wc this];exact hr.frz c cs a
 ·have:c≠b:=NM r a p;rw[H.Bm,wc this];exact hr.old c a p
 ·rw[H.Bm]at a;split at a
  ·rename_i e;subst e;exact hr.lt _ _ t
  ·exact hr.lt c s a
 ·obtain⟨d,i,g⟩:=hr.pn c a;have k:c≠b:=fun e=>v<|e▸a
  exact⟨by rw[H.Bm,wc k];exact d,i,g⟩
theorem SR.leave{ob:Ob}:∀ {ps:List Nat} {h:H},ps.Nodup->(∀b∈ps,b∉h0.pin)->SR B (h0.pins ps) F ρ N ob h->∃a,F7 ps h=some a/\SR B h0 F ρ N ob a/\a.nx=h.nx/\∀b,b∉ps->a.get b=h.get b
 |[],h,_,_,hr=>⟨h,rfl,hr,rfl,fun _ _=>rfl⟩
 |p::ps,h,d,i,hr=>by
  obtain⟨g,q,j⟩:=hr.pn p (by simp[H0.pins]);rw[List.nodup_cons]at d;have e:SR B ((h0.pins ps).pins [p]) F ρ N ob h:=by rw[RI];exact hr
  have hp:SR B (h0.pins ps) F ρ N ob (h.put p<|.defd false):=by
   refine SR.tQ e.iV (fun id o n _=>j id n) ?_ (.inl q) ?_ g
   ·cases u:F p with
    |none=>rfl
    |some cs=>obtain⟨t,fz,k⟩:=hr.frz p cs u;rw[g]at k;cases k
   ·intro h;rcases zp.1 h with h|h
    ·exact d.1 h
    ·exact i p (by simp) h
  obtain⟨a,l,s,r,m⟩:=SR.leave d.2 (fun b c=>i b<|by simp[c]) hp;refine⟨a,?_,s,r,fun b c=>?_⟩
  ·show(match h.get p with|some (.defd true)=>F7 ps (h.put p<|.defd false)|_=>none)=_;rw[g];exact l
  ·simp only[yc,not_or]at c;rw[m b c.2,H.Bm,wc c.1]
theorem jT{st:AL}{fr:Fr}(hr:Rel B h0 F ρ st fr h)(base:Nat)(x:Nat×Sh):∃F1 C,Rel B h0 F1 C (rU base x st) fr h/\(rU base x st).nx=st.nx/\(∀id,id<base->C id=ρ id)/\∀b cs,F b=some cs->F1 b=some cs:=by
 have g:=hr.fp.slot x.1;unfold rU;split
 case h_1=>
  rename_i D;rw[D]at g;simp only[PR]at g;exact⟨F,ρ,hr.note (by rw[g];simp[PR,DC]),rfl,fun _ _=>rfl,fun _ _ h=>h⟩
 case h_4=>exact⟨F,ρ,hr,rfl,fun _ _=>rfl,fun _ _ h=>h⟩
 case h_3=>
  rename_i id D;cases U:Nat.ble base id with
  |false=>exact⟨F,ρ,hr,rfl,fun _ _=>rfl,fun _ _ h=>h⟩
  |true=>
  simp only[we];have U:=zq U;split
  case h_2=>exact⟨F,ρ,hr,rfl,fun _ _=>rfl,fun _ _ h=>h⟩
  rename_i ps r;split
  case h_2=>exact⟨F,ρ,hr,rfl,fun _ _=>rfl,fun _ _ h=>h⟩
  rename_i v hv;rw[D]at g;obtain⟨b,n,y,u,h2,h3,h7,-⟩:=hr.sr.at r;obtain⟨cs,t,fz,rfl,h4,h5⟩:=h3;have S:F b=none:=h7 rfl;have a:∀c cs',F c=some cs'->(fun c=>if c=b then some cs else F c) c=some cs':=by
   intro c cs' i;have:c≠b:=fun e=>by rw[e,S]at i;cases i
   simp[this,i]
  have I:=(C6 h4 hv);have W:=I.len;have q:Le F ρ st.nx (fun c=>if c=b then some cs else F c) (BL ρ id none) st.nx:=(Le.bW a).trans<|Le.NY id;have A:Le F (BL ρ id none) st.nx (fun c=>if c=b then some cs else F c) (BL ρ id none) st.nx:=Le.bW a;have d:=hr.sr.del id;have J:∀j m,BL ρ id none j=some (b,m)->∀oj,AP (GP st.ob id) j=some oj->False:=by
   intro j m k oj o;rw[Ed]at o;split at o
   ·cases o
   ·rename_i V;simp only[BL,V,vg]at k;exact V<|hr.sr.inj j id oj _ b m n o r k u
  have P:SR B h0 (fun c=>if c=b then some cs else F c) (BL ρ id none) st.nx (GP st.ob id) h:=by
   refine⟨fun j oj o=>?_,d.inj,fun c cs' i=>?_,d.own,d.dead,d.old,d.lt,d.le,fun c cs' i=>?_,d.gl,d.pn⟩
   ·obtain⟨c,m,z,k,K,T,g4,Y⟩:=d.obj j oj o;have E:c≠b:=fun w=>J j m (w▸k) oj o
    exact⟨c,m,z,k,K,T.mono A,fun e=>by simp[E,g4 e],fun e=>by obtain⟨a1,a2,a3,a4,a5⟩:=Y e;exact⟨a1,a2,a3,a4,by simp[E,a5]⟩⟩
   ·split at i
    ·rename_i w;cases i;subst w;exact⟨_,_,h2⟩
    ·exact d.frz c cs' i
   ·split at i
    ·rename_i w;subst w;exact .inr (hr.sr.own id c n u).2
    ·exact d.fo c cs' i
  have p:Rel B h0 (fun c=>if c=b then some cs else F c) (BL ρ id none) (st.PQ id) fr h:=⟨⟨hr.fp.n,fun t=>(hr.fp.slot t).mono q⟩,P⟩;refine⟨_,_,p.note ?_,rfl,fun j o=>by unfold BL;rw[wc ae],a⟩;simp only[PR]at g ⊢;have O:=g.2 b n u;exact⟨b,0,cs,by rw[O],by simp,by omega,by rw[List.drop_zero,List.take_of_length_le ae];exact I.mono a⟩
 rename_i id sz off len cap D;split
 case h_2=>exact⟨F,ρ,hr,rfl,fun _ _=>rfl,fun _ _ h=>h⟩
 rename_i fz e s l r;cases Z:zj sz s.sz with
 |false=>exact⟨F,ρ,hr,rfl,fun _ _=>rfl,fun _ _ h=>h⟩
 |true=>
 simp only[we];rw[D]at g;obtain⟨F1,k,K,T⟩:=Ng hr.sr g;have M:Bz st (.sl id sz off len cap)=st.setObj id (.arr true e s l):=by simp[Bz,r]
 rw[M]at k;have q:Le F ρ st.nx F1 ρ st.nx:=⟨K,fun _ _=>.inl rfl,zd _⟩;have G:off+len<=l.length:=by
  obtain⟨b,n,y,u,_,⟨_,_,_,_,_,h6⟩,-⟩:=hr.sr.at r;simp only[PR]at g;rcases g.2 b n u with⟨a1,a2,_⟩|⟨a1,_,a3,_⟩
  ·omega
  ·omega
 have R:BS st (.sl id sz off len cap)=some (true,.dat (.list s)<|(l.drop off).take len):=by
  simp only[BS,r,Z,we,w4 G]
 have L:=T _ R;have p:Rel B h0 F1 ρ (st.setObj id<|.arr true e s l) fr h:=⟨⟨hr.fp.n,fun t=>(hr.fp.slot t).mono q⟩,k⟩;exact⟨F1,ρ,p.note<|L ρ _,rfl,fun _ _=>rfl,K⟩
theorem Vc{fr:Fr}(base:Nat):∀(l:List (Nat×Sh)) {st:AL} {F:Fz} {ρ:En},Rel B h0 F ρ st fr h->∃F1 a,Rel B h0 F1 a (xI base l st) fr h/\(xI base l st).nx=st.nx/\(∀id,id<base->a id=ρ id)/\∀b cs,F b=some cs->F1 b=some cs
 |[],st,F,ρ,hr=>⟨F,ρ,hr,rfl,fun _ _=>rfl,fun _ _ h=>h⟩
 |x::l,st,F,ρ,hr=>by
  obtain⟨F1,a,e,j,d,g⟩:=jT hr base x;obtain⟨F2,ρ2,h4,h5,h0'',h6⟩:=Vc base l e;exact⟨F2,ρ2,h4,h5.trans j,fun id c=>(h0'' id c).trans<|d id c,fun b cs i=>h6 b cs<|g b cs i⟩
theorem Pt{st:AL}{fr:Fr}{base:Nat}(hr:Rel B h0 F ρ st fr h)(f:FuncId)(r:Nat)(g:base<=st.nx):
  ∃F1 ρ',Rel B h0 F1 ρ' (OP X f r base st) fr h/\base<=(OP X f r base st).nx/\(∀id,id<base->ρ' id=ρ id)/\∀b cs,F b=some cs->F1 b=some cs:=by
 obtain⟨F1,i,d,j,c,e⟩:=Vc base (X.fz f r) hr;obtain⟨ρ',g1,g2,g3⟩:=dH d base (X.pl f r) (by rw[j];exact g);exact⟨F1,ρ',g1,g2,fun id a=>(g3 id a).trans<|c id a,e⟩
def G0(B:Nat)(h0:H0)(X:AT)(base n:Nat)(Q:PV->Ob->Prop)(k:DX->AL->Tr)(F:Fz)(ρ:En)(h:H)(nd:Bool)(run:Nat->Nat->Option (List Det.X))(ds:List Nat):Prop:=
 ∃l M,(∀m,M<=m->∀q,M<=q->run m q=some l)/\(nd=false->∃x,l=[x])/\∀x∈l,∃ps,(x.ds=ps++ds/\ps.Nodup/\∀b∈ps,h.nx<=b)/\∃n',n'<=n/\∃a,Ev X Q n' (k x.e a)/\∃F' ρ',Rel B (h0.pins ps) F' ρ' a x.fr x.h/\base<=a.nx/\Le F ρ base F' ρ' base/\h.nx<=x.h.nx
theorem Le.low{F F':Fz}{ρ ρ':En}{N N' base:Nat}(a:Le F ρ N F' ρ' N')(b:base<=N):Le F ρ base F' ρ' base:=
 ⟨a.fz,fun id h=>a.rho id<|zh h b,zd _⟩
theorem Qi{nd ro:Bool}{d:Nat}{f:FuncId}{base:Nat}{rv:Option Nat}{ct:Bool}(hrv:ro=false->rv=none/\ct=true)(hcall:∀h0,FD B h0 X nd<|CC X nd d)(hcallD:∀h0,FD B h0 X false<|CC X false d){Q:PV->Ob->Prop}:∀(n:Nat) (c:Code) {h0:H0} {st:AL} {k:DX->AL->Tr} {F:Fz} {ρ:En} {fr:Fr} {h:H} (ds:List Nat),base<=st.nx->Rel B h0 F ρ st fr h->
  Ev X Q n (exec X (CC X nd d) (CC X false d) nd ro d f base c st k)->G0 B h0 X base n Q k F ρ h nd (fun m q=>BH X.C (Bl X.C m) rv ct q c fr h ds) ds:=by
 intro n;induction n using Nat.strongRecOn with
 |_ n IH=>
 have one:∀ {h0:H0} {e:DX} {st:AL} {k:DX->AL->Tr} {F:Fz} {ρ:En} {fr:Fr} {h:H} {ds:List Nat} {c:Code},base<=st.nx->Rel B h0 F ρ st fr h->Ev X Q n (k e st)->(∀m q,1<=q->BH X.C (Bl X.C m) rv ct q c fr h ds=some [⟨e,fr,h,ds⟩])->
   G0 B h0 X base n Q k F ρ h nd (fun m q=>BH X.C (Bl X.C m) rv ct q c fr h ds) ds:=by
  intro h0 e st k F ρ fr h ds c u hr p hd;exact⟨[⟨e,fr,h,ds⟩],1,fun m _ q T=>hd m q T,fun _=>⟨_,rfl⟩,fun x w=>by
   cases zc.1 w;exact⟨[],⟨rfl,zk,fun _ u=>(by cases u)⟩,n,zd _,st,p,F,ρ,hr,u,zt,zd _⟩⟩
 have A:∀ {q:Nat},1<=q->∃q',q=q'+1:=fun h=>⟨_,(Nat.succ_pred_eq_of_pos h).symm⟩
 have chain:∀ {h0:H0} {F:Fz} {ρ:En} {h:H} {ds:List Nat} {k k2:DX->AL->Tr} {n1:Nat} {run:Nat->Nat->Option (List Det.X)} {run2:Nat->Nat->Det.X->Option (List Det.X)},n1<=n->G0 B h0 X base n1 Q k2 F ρ h nd run ds->
   (∀(x:Det.X) (ps:List Nat),∀n1',n1'<=n1->∀j,Ev X Q n1' (k2 x.e j)->∀F' ρ',Rel B (h0.pins ps) F' ρ' j x.fr x.h->base<=j.nx->G0 B (h0.pins ps) X base n Q k F' ρ' x.h nd (fun m q=>run2 m q x) x.ds)->
   G0 B h0 X base n Q k F ρ h nd (fun m q=>match run m q with|some l=>bl l (run2 m q)|none=>none) ds:=by
  rintro h0 F ρ h ds k k2 n1 run run2 Y ⟨l,M,G,Z,h3⟩ hnext;obtain⟨r,M2,O,g2,g3⟩:=KT (f:=run2) (P:=fun x=>∃ps,(x.ds=ps++ds/\ps.Nodup/\∀b∈ps,h.nx<=b)/\∃n',n'<=n/\∃j,Ev X Q n' (k x.e j)/\∃F' ρ',Rel B (h0.pins ps) F' ρ' j x.fr x.h/\base<=j.nx/\Le F ρ base F' ρ' base/\h.nx<=x.h.nx) Z fun x w=>by
   obtain⟨S,⟨U,kn,kl⟩,n',k1,j,k2',F',ρ',k3,k4,k5,k6⟩:=h3 x w;obtain⟨r,M,j1,j2,j3⟩:=hnext x S n' k1 j k2' F' ρ' k3 k4;refine⟨r,M,j1,j2,fun y hy=>?_⟩;obtain⟨ps2,⟨i0,i0n,i0l⟩,V,i1,R,i2,F2,K,i3,i4,i5,i6⟩:=j3 y hy;refine⟨ps2++S,⟨by rw[i0,U,List.append_assoc],?_,fun b u=>?_⟩,V,i1,R,i2,F2,K,by rw[<-RI];exact i3,i4,k5.trans i5,zi k6 i6⟩
   ·rw[List.nodup_append];refine⟨i0n,kn,fun a ha b u e=>?_⟩;have G:=i0l a ha;have Z:=k3.sr.lt b _ (k3.sr.pn b<|List.mem_append_left _ u).1;omega
   ·rcases zp.1 u with u|u
    ·exact zi k6<|i0l b u
    ·exact kl b u
  exact⟨r,max M M2,fun m hm q T=>by simp only;rw[G m ae q ae];exact O m ae q ae,g2,g3⟩
 have J:∀ {h0:H0} {F:Fz} {ρ:En} {h:H} {ds:List Nat} {k:DX->AL->Tr} {run run':Nat->Nat->Option (List Det.X)},G0 B h0 X base n Q k F ρ h nd run ds->(∀m q,run' m (q+1)=run m q)->G0 B h0 X base n Q k F ρ h nd run' ds:=by
  rintro h0 F ρ h ds k run run' ⟨l,M,G,Z,h3⟩ p;refine⟨l,M+1,fun m hm q T=>?_,Z,h3⟩;obtain⟨q',rfl⟩:=A (show 1<=q by omega);rw[p];exact G m ae q' ae
 intro c;induction c with
 |skip=>
  intro h0 st k F ρ fr h ds u hr p;exact one u hr p (fun m q T=>by obtain⟨q',rfl⟩:=A T;rfl)
 |label l=>
  intro h0 st k F ρ fr h ds u hr p;exact one u hr p (fun m q T=>by obtain⟨q',rfl⟩:=A T;rfl)
 |exit i=>
  intro h0 st k F ρ fr h ds u hr p;exact one u hr p (fun m q T=>by obtain⟨q',rfl⟩:=A T;rfl)
 |ret=>
  intro h0 st k F ρ fr h ds u hr p;exact one u hr p (fun m q T=>by obtain⟨q',rfl⟩:=A T;rfl)
 |region id ops dr=>
  intro h0 st k F ρ fr h ds u hr p;unfold exec at p;cases dr with
  |true=>
   simp only[we]at p;cases W:(!ro||Ii ops (EY ops))with
   |false=>rw[W]at p;exact wh p zg
   |true=>
   rw[W]at p;simp only[we]at p;have hdd:∀call,(bif ct then I4 X.C call ops fr h else UY X.C call ops fr h)=I4 X.C call ops fr h:=by
    intro call;cases hro:ro with
    |false=>rw[(hrv hro).2];rfl
    |true=>
     rw[hro]at W;have W:Ii ops (EY ops)=true:=W;cases ct with
     |true=>rfl
     |false=>simp only[wg,UY,W,we]
   obtain⟨n',hn,j,o,F',ρ',fr',h',hw,M,hM⟩:=dD (hcallD h0) hr p;refine⟨[⟨.normal,fr',h',ds⟩],M+1,fun m hm q T=>?_,fun _=>⟨_,rfl⟩,fun x w=>?_⟩
   ·obtain⟨q',rfl⟩:=A (show 1<=q by omega);have:=hM m ae;simp only[BH,we];rw[hdd,this]
   ·cases zc.1 w;exact⟨[],⟨rfl,zk,fun _ u=>(by cases u)⟩,n',hn,j,o,F',ρ',hw.rel,zi u hw.le.n,hw.le.low u,hw.nx⟩
  |false=>
   simp only[wg]at p;obtain⟨r,M,hM,hone,hall⟩:=Vp (hcall h0) hr p;refine⟨r.map fun x=>⟨.normal,x.1,x.2,ds⟩,M+1,fun m hm q T=>?_,fun e=>?_,fun x w=>?_⟩
   ·obtain⟨q',rfl⟩:=A (show 1<=q by omega);simp only[BH,wg,hM m ae]
   ·obtain⟨y,rfl⟩:=hone e;exact⟨_,rfl⟩
   ·obtain⟨y,hy,rfl⟩:=ye.1 w;obtain⟨n',hn,j,o,F',ρ',hw⟩:=hall y hy;exact⟨[],⟨rfl,zk,fun _ u=>(by cases u)⟩,n',hn,j,o,F',ρ',hw.rel,zi u hw.le.n,hw.le.low u,hw.nx⟩
 |seq a b iha ihb=>
  intro h0 st k F ρ fr h ds u hr p;unfold exec at p;refine J (chain (run2:=fun m q x=>match x.e with| .normal=>BH X.C (Bl X.C m) rv ct q b x.fr x.h x.ds|_=>some [x]) (zd n) (iha ds u hr p) fun x S n1 Y j o F' ρ' I E=>?_)<|fun m q=>rfl;obtain⟨e,L,G,z⟩:=x;cases e with
  |normal=>
   have rest:∀ {R:AL} {F2:Fz} {K:En} {V:Nat},V<=n->Rel B (h0.pins S) F2 K R L G->base<=R.nx->(∀id,id<base->K id=ρ' id)->(∀b cs,F' b=some cs->F2 b=some cs)->Ev X Q V (exec X (CC X nd d) (CC X false d) nd ro d f base b R k)->
     G0 B (h0.pins S) X base n Q k F' ρ' G nd (fun m q=>BH X.C (Bl X.C m) rv ct q b L G z) z:=by
    intro R F2 K V hn2 hr2 hb2 hρ2 hF2 D;have hl0:Le F' ρ' base F2 K base:=⟨hF2,fun id hi=>.inl<|hρ2 id hi,zd _⟩;have hc:G0 B (h0.pins S) X base n Q k F2 K G nd (fun m q=>BH X.C (Bl X.C m) rv ct q b L G z) z:=by
     by_cases hlt:V<n
     ·obtain⟨l,M,G,Z,h3⟩:=IH V hlt b z hb2 hr2 D;exact⟨l,M,G,Z,fun x w=>by obtain⟨ps,U,V,k1,k2⟩:=h3 x w;exact⟨ps,U,V,by omega,k2⟩⟩
     ·have:V=n:=ae
      subst this;exact ihb z hb2 hr2 D
    obtain⟨l,M,G,Z,h3⟩:=hc;exact⟨l,M,G,Z,fun x w=>by
     obtain⟨ps,U,n3,k1,st3,k2,F3,ρ3,k3,k4,k5,k6⟩:=h3 x w;exact⟨ps,U,n3,k1,st3,k2,F3,ρ3,k3,k4,hl0.trans k5,k6⟩⟩
   simp only at o;cases hct:X.ct f (Dt b)with
   |false=>rw[hct]at o;exact rest Y I E (fun _ _=>rfl) (fun _ _ h=>h) o
   |true=>
    rw[hct]at o;simp only[we]at o;cases o with
    |cut o=>
     obtain⟨F2,ρ0,hr0,hb0,hρ0,hF⟩:=Pt I f (Dt b) E;exact rest Y hr0 hb0 hρ0 hF o
  |exit i=>exact⟨[⟨.exit i,L,G,z⟩],0,fun _ _ _ _=>rfl,fun _=>⟨_,rfl⟩,fun x w=>by cases zc.1 w;exact⟨[],⟨rfl,zk,fun _ u=>(by cases u)⟩,n1,Y,j,o,F',ρ',I,E,zt,zd _⟩⟩
  |ret=>exact⟨[⟨.ret,L,G,z⟩],0,fun _ _ _ _=>rfl,fun _=>⟨_,rfl⟩,fun x w=>by cases zc.1 w;exact⟨[],⟨rfl,zk,fun _ u=>(by cases u)⟩,n1,Y,j,o,F',ρ',I,E,zt,zd _⟩⟩
 |cond x a b iha ihb=>
  intro h0 st k F ρ fr h ds u hr p;unfold exec at p;have go:∀ {t:Bool} {j:AL},ev X.C fr x=some (.bool t)->Rel B h0 F ρ j fr h->base<=j.nx->Ev X Q n (bif t then exec X (CC X nd d) (CC X false d) nd ro d f base a j k else exec X (CC X nd d) (CC X false d) nd ro d f base b j k)->G0 B h0 X base n Q k F ρ h nd (fun m q=>BH X.C (Bl X.C m) rv ct q (.cond x a b) fr h ds) ds:=by
   intro t j w I E p;cases t with
   |true=>exact J (iha ds E I p) (fun m q=>by simp only[BH,w])
   |false=>exact J (ihb ds E I p) (fun m q=>by simp only[BH,w])
  split at p
  case h_4=>exact wh p zg
  case h_3=>
   rename_i ht;obtain⟨y,O,g2⟩:=Cj (C:=X.C) hr.fp ht;simp only[PR]at g2;obtain⟨t,rfl⟩:=g2;split at p
   case h_2=>exact wh p zg
   rename_i s;have hs:fr.get s=.bool t:=by simpa [ev]using O
   obtain⟨o,D⟩:=p.Uv;cases t with
   |true=>exact go O (hr.note<|by rw[hs];exact Iz _) u o
   |false=>exact go O (hr.note<|by rw[hs];exact Iz _) u D
  case h_1=>
   rename_i t ht;obtain⟨y,O,g2⟩:=Cj (C:=X.C) hr.fp ht;obtain rfl:=O8 g2;exact go O hr u p
  case h_2=>
   rename_i t ht;obtain⟨y,O,g2⟩:=Cj (C:=X.C) hr.fp ht;obtain rfl:=HU g2;split at p
   case h_1=>
    rename_i s;have hs:fr.get s=.bool t:=by simpa [ev]using O
    rcases p.Fc with⟨v,D⟩|⟨v,D⟩
    ·have v:t=true:=v;subst v;exact go O (hr.note<|by rw[hs];exact Iz _) u D
    ·have v:t=false:=v;subst v;exact go O (hr.note<|by rw[hs];exact Iz _) u D
   case h_2=>
    rcases p.Fc with⟨v,D⟩|⟨v,D⟩
    ·have v:t=true:=v;subst v;exact go O hr u D
    ·have v:t=false:=v;subst v;exact go O hr u D
 |block id b ih=>
  intro h0 st k F ρ fr h ds u hr p;unfold exec at p;obtain⟨l,M,G,Z,h3⟩:=ih ds u hr p;refine⟨l.map fun x=>match x.e with
    | .exit i=>bif zj i id then { x with e:=.normal }else x
    |_=>x,M+1,fun m hm q T=>?_,fun e=>?_,fun y hy=>?_⟩
  ·obtain⟨q',rfl⟩:=A (show 1<=q by omega);have O:=G m ae q' ae;simp only at O;simp only[BH,O];rfl
  ·obtain⟨y,rfl⟩:=Z e;exact⟨_,rfl⟩
  ·obtain⟨⟨e,L,hh1,z⟩,w,rfl⟩:=ye.1 hy;obtain⟨ps,U,n1,k1,j,o,F',ρ',k3,k4,k5,k6⟩:=h3 _ w;cases e with
   |normal=>exact⟨ps,U,n1,k1,j,o,F',ρ',k3,k4,k5,k6⟩
   |ret=>exact⟨ps,U,n1,k1,j,o,F',ρ',k3,k4,k5,k6⟩
   |exit i=>
    simp only at o ⊢;cases hbe:zj i id with
    |true=>rw[hbe]at o;exact⟨ps,U,n1,k1,j,o,F',ρ',k3,k4,k5,k6⟩
    |false=>rw[hbe]at o;exact⟨ps,U,n1,k1,j,o,F',ρ',k3,k4,k5,k6⟩
 |loop b ih=>
  intro h0 st k F ρ fr h ds u hr p;unfold exec at p;cases p with
  |@loop n0 _ _ _ _ _ _ _ _ p=>
  obtain⟨F0,ρ0,hr0,hb0,hρ0,hF0⟩:=Pt hr f (Dt b) u;have hl0:Le F ρ base F0 ρ0 base:=⟨hF0,fun id hi=>.inl<|hρ0 id hi,zd _⟩;unfold body at p;have hbody:=IH n0 (Nat.lt_succ_self _) b ds hb0 hr0 p;have hch:G0 B h0 X base (n0+1) Q k F0 ρ0 h nd (fun m q=>match BH X.C (Bl X.C m) rv ct q b fr h ds with|some l=>bl l (fun x=>match x.e with| .normal=>BH X.C (Bl X.C m) rv ct q (.loop b) x.fr x.h x.ds|_=>some [x])|none=>none) ds:=by
   refine chain (run2:=fun m q x=>match x.e with| .normal=>BH X.C (Bl X.C m) rv ct q (.loop b) x.fr x.h x.ds|_=>some [x]) (Nat.le_succ n0) hbody fun x S n1 Y j o F' ρ' I E=>?_
   obtain⟨e,L,G,z⟩:=x;cases e with
   |normal=>
    have he1':Ev X Q n1 (exec X (CC X nd d) (CC X false d) nd ro d f base (.loop b) j k):=by unfold exec;exact o
    obtain⟨l,M,G,Z,h3⟩:=IH n1 ae (.loop b) z E I he1';exact⟨l,M,G,Z,fun x w=>by obtain⟨ps,U,V,k1,k2⟩:=h3 x w;exact⟨ps,U,V,by omega,k2⟩⟩
   |exit i=>exact⟨[⟨.exit i,L,G,z⟩],0,fun _ _ _ _=>rfl,fun _=>⟨_,rfl⟩,fun x w=>by cases zc.1 w;exact⟨[],⟨rfl,zk,fun _ u=>(by cases u)⟩,n1,by omega,j,o,F',ρ',I,E,zt,zd _⟩⟩
   |ret=>exact⟨[⟨.ret,L,G,z⟩],0,fun _ _ _ _=>rfl,fun _=>⟨_,rfl⟩,fun x w=>by cases zc.1 w;exact⟨[],⟨rfl,zk,fun _ u=>(by cases u)⟩,n1,by omega,j,o,F',ρ',I,E,zt,zd _⟩⟩
  obtain⟨l,M,O,g2,g3⟩:=J (run':=fun m q=>BH X.C (Bl X.C m) rv ct q (.loop b) fr h ds) hch<|fun m q=>rfl;refine⟨l,M,O,g2,fun x w=>?_⟩;obtain⟨ps,U,V,k1,R,k2,F2,K,k3,k4,k5,k6⟩:=g3 x w;exact⟨ps,U,V,k1,R,k2,F2,K,k3,k4,hl0.trans k5,k6⟩
 |scope b ih=>
  intro h0 st k F ρ fr h ds u hr p;unfold exec at p;exact J (ih ds u hr p)<|fun m q=>rfl
 |rangeFunc g ps a b _ _=>
  intro h0 st k F ρ fr h ds u hr p;unfold exec at p;exact wh p zg
 |goto l=>intro h0 st k F ρ fr h ds u hr p;exact wh p zg
 |refuse s=>intro h0 st k F ρ fr h ds u hr p;exact wh p zg
end
section
variable {B:Nat}{h0:H0}{X:AT}{F:Fz}{ρ:En}{N:Nat}{st st':AL}{fr:Fr}{h:H}
theorem LR:∀ {ps:List PV} {i t:Nat} {p:PV},(t,p)∈EL ps i->∃k,t=i+k/\ps[k]?=some p
 |[],i,t,p,h=>by cases h
 |q::ps,i,t,p,h=>by
  unfold EL at h;rcases yc.1 h with h|h
  ·cases h;exact⟨0,rfl,rfl⟩
  ·obtain⟨k,a,b⟩:=LR h;exact⟨k+1,by rw[a];show i+1+k=_;omega,by simpa using b⟩
theorem sJ{ps:List PV}{vs:List V}(hp:Bf F ρ N ps vs)(n:Nat)(ob:Ob)(nx:Nat)(_hnx:nx=N):FP F ρ N (Av (zx ps.length<|Nat.sub n ps.length) (EL ps 0) ob nx) (Nz n vs):=by
 refine⟨by show ps.length+(n-ps.length)=vs.length+(n-vs.length);rw[hp.len],fun t=>?_⟩;show PR F ρ N (((FM<|EL ps 0).get t).getD .any) _;cases d:(FM<|EL ps 0).get t with
 |none=>show PR F ρ N .any _;simp[PR]
 |some p=>
  show PR F ρ N p _;rcases Je _ .leaf t p d with a|a
  ·obtain⟨k,i,c⟩:=LR a;obtain rfl:t=k:=ae
   obtain⟨v,b,e⟩:=hp.get c;have g:=(zf.1 b).1;unfold Nz Fr.get;simp only;rw[Mv,wd ae,Nat.sub_zero,b];exact e
  ·simp at a
theorem nQ{T:B6}{st s:AL}{t:TypeId}{a p:PV}(h:(Ni T st t a).To p s):s=st:=by
 unfold Ni at h;split at h
 case h_2=>exact wh h (by simp)
 split at h
 case h_4=>exact wh h (by simp)
 ·split at h
  case h_4=>exact wh h (by simp)
  case h_3=>simp only[K4]at h;exact h.2.symm
  ·simp only[K4]at h;exact h.2.symm
  ·rename_i c l _;cases b:(zj _ 0&&zj c.sz 1)with
   |false=>rw[b]at h;exact wh h (by simp)
   |true=>rw[b]at h;simp only[we,Pv]at h;exact h.2.2.symm
 ·split at h
  case h_2=>exact wh h (by simp)
  rename_i sz j off _ _ _ c l _;cases b:(zj sz c.sz)with
  |false=>rw[b]at h;exact wh h (by simp)
  |true=>rw[b]at h;simp only[we,Pv]at h;exact h.2.2.symm
 ·simp only[K4]at h;exact h.2.symm
theorem Qc{Q:PV->Ob->Prop}{n:Nat}{t:Tr}:∀ {cs:List Bool},Ev X Q n (Qg cs t)->(∀c∈cs,c=true)/\Ev X Q n t
 |[],h=>⟨fun c e=>(by cases e),h⟩
 |c::cs,h=>by
  unfold Qg at h;rcases h.Fc with⟨e,a⟩|⟨_,a⟩
  ·obtain⟨i,g⟩:=Qc a;exact⟨fun d b=>by
    rcases yc.1 b with rfl|b
    ·exact e
    ·exact i d b,g⟩
  ·exact wh a zg
theorem Vb:∀ {k:List ResultVar} {ps:List PV} {F:Fz} {ρ:En},Rel B h0 F ρ st fr h->lN X.C.T st k=some ps->(∀c∈LI X.C.T st k,c=true)->
  ∃vs F' ρ',QF X.C fr h k=some vs/\Bf F' ρ' st.nx ps vs/\Rel B h0 F' ρ' st fr h/\Le F ρ st.nx F' ρ' st.nx
 |[],ps,F,ρ,hr,hp,_=>by cases hp;exact⟨[],F,ρ,rfl,by simp,hr,zt⟩
 |r::k,ps,F,ρ,hr,hp,e=>by
  unfold lN at hp;split at hp
  case h_2=>cases hp
  rename_i p q g A;cases hp;have key:∃v F1 d,YJ X.C fr h r=some v/\PR F1 d st.nx p v/\Rel B h0 F1 d st fr h/\Le F ρ st.nx F1 d st.nx:=by
   cases r with
   |tmp t=>
    simp only[jK,zm]at g;subst g;exact⟨_,F,ρ,rfl,hr.fp.slot t,hr,zt⟩
   |cell a t=>
    have j:∃s,(Ni X.C.T st t<|st.get a).To p s:=by
     simp only[jK]at g;split at g
     case h_3=>cases g
     ·rename_i u s i;cases g;exact⟨s,by rw[i];exact .val⟩
     ·rename_i c u s i;cases g;refine⟨s,?_⟩;have:=e c (by unfold LI;rw[i];exact List.mem_cons_self);rw[i,this];show(PO.It true p s).To p s;rw[BJ];exact⟨rfl,rfl,rfl⟩
    obtain⟨s,j⟩:=j;have z:s=st:=nQ j;subst z;obtain⟨v',h',F',ρ',b,g2,g3,g4,g5,g6,g7,g8⟩:=mL (C:=X.C) hr.sr (hr.fp.slot a) j;cases l:Ft X.C.T h t (fr.get a)with
    |none=>rw[l]at b;rcases b with b|⟨b,_⟩<;>cases b
    |some w=>
     rw[l]at b;rcases b with b|⟨b,_⟩
     ·simp only[Bx,zm,OR.val.injEq]at b;obtain⟨rfl,rfl⟩:=b;exact⟨w,F',ρ',l,g2,⟨hr.fp.mono g4,g3⟩,g4⟩
     ·cases b
  obtain⟨v,F1,d,y,D,x,o⟩:=key;obtain⟨vs,F2,ρ2,k5,k6,k7,k8⟩:=Vb x A (fun c m=>e c (by
   cases r with
   |tmp t=>unfold LI;exact m
   |cell a t=>
    unfold LI;split
    ·exact List.mem_cons_of_mem _ m
    ·exact m))
  exact⟨v::vs,F2,ρ2,by simp[QF,y,k5],by simp only[A4];exact⟨D.mono k8,k6⟩,k7,o.trans k8⟩
theorem JN{nd:Bool}{d:Nat}(I:∀h0,FD B h0 X nd<|CC X nd d)(w:∀h0,FD B h0 X false<|CC X false d)(hmg:X.C.mg=false){g:FuncId}(hsp:X.C.spec g=none)(K:X.C.prim g=none)(hno:X.sp g=none){Q:PV->Ob->Prop}{n:Nat}{args:List PV}{k:PV->AL->Tr}{args':List V}
  (D:Ev X Q n (enter X (CC X nd d) (CC X false d) nd d g args st k)) (hr:Rel B h0 F ρ st fr h) (ha:Bf F ρ st.nx args args'):
  (X.C.prim g=none/\∃i,X.C.fn g=some i)/\∃l M,(∀m,M<=m->Bl X.C m (.fn g args') h=some l)/\(nd=false->∃x,l=[x])/\
   ∀x∈l,∃n',n'<=n/\∃r st',Ev X Q n' (k r st')/\∃F' ρ',PR F' ρ' st'.nx r x.1/\Dx B h0 F ρ st.nx h st' fr x.2 F' ρ'/\(∀sp,X.sp g=some sp->∀b,b<h.nx->x.2.get b=h.get b):=by
 unfold enter at D;split at D
 case h_1=>exact wh D zg
 rename_i i hi;cases hc:i.cert with
 |false=>rw[hc]at D;exact wh D zg
 |true=>
  rw[hc]at D;simp only[we]at D;have hr0:Rel B h0 F ρ (Av (zx args.length<|Nat.sub i.ntmps args.length) (EL args 0) st.ob st.nx) (Nz i.ntmps args') h:=⟨sJ ha i.ntmps st.ob st.nx rfl,hr.sr⟩;obtain⟨l,M,hM,O,hall⟩:=Qi (ro:=false) (rv:=none) (ct:=true) (fun _=>⟨rfl,rfl⟩) I w n i.body (st:=Av (zx args.length<|Nat.sub i.ntmps args.length) (EL args 0) st.ob st.nx) [] (zd st.nx) hr0 D;have fin:∀x∈l,∃(r:List (V×H)) (M:Nat),(∀m:Nat,M<=m->∀q:Nat,M<=q->(match x.e with
      | .exit _=>none
      |_=>match F7 x.ds x.h with
       |some a=>match PY X.C x.fr a i.results.toList with
        |some v=>some [(v,a)]
        |none=>none
       |none=>none)=some r)/\(nd=false->∃x,r=[x])/\∀x∈r,∃n',n'<=n/\∃r st',Ev X Q n' (k r st')/\∃F' ρ',PR F' ρ' st'.nx r x.1/\Dx B h0 F ρ st.nx h st' fr x.2 F' ρ'/\(∀sp,X.sp g=some sp->∀b,b<h.nx->x.2.get b=h.get b):=by
   intro x hx;obtain⟨ps,⟨L,z,hge⟩,n1,hn1,c,u,F1,ρ1,s,S,Y,E⟩:=hall x hx;obtain⟨e,fr1,hx0,ds1⟩:=x;simp only at L u s E ⊢;obtain⟨a,hlv,hsr1,hnx1,_⟩:=SR.leave z (fun b hb hp=>by
    have k1:=hge b hb;have k2:=hr.sr.lt b _ (hr.sr.pn b hp).1;omega) s.sr
   have hr1:Rel B h0 F1 ρ1 c fr1 a:=⟨s.fp,hsr1⟩;have hx1:h.nx<=a.nx:=by rw[hnx1];exact E
   rw[List.append_nil]at L;subst L;have go:(∀j,e≠ .exit j)->Ev X Q n1 (match lN X.C.T c i.results.toList with|some vs=>Qg (LI X.C.T c i.results.toList) (k (Go.Pe.one vs) ⟨st.n,st.fr,c.ob,c.nx⟩)|none=>.fail)->
     ∃v',PY X.C fr1 a i.results.toList=some v'/\∃n',n'<=n/\∃r st',Ev X Q n' (k r st')/\∃F' ρ',PR F' ρ' st'.nx r v'/\Dx B h0 F ρ st.nx h st' fr a F' ρ'/\(∀sp,X.sp g=some sp->∀b,b<h.nx->a.get b=h.get b):=by
    intro hne o;split at o
    case h_2=>exact wh o zg
    rename_i ps hps;obtain⟨G,o⟩:=Qc o;obtain⟨vs,F2,ρ2,k1,k2,k3,k4⟩:=Vb hr1 hps G;have R:Le F ρ st.nx F2 ρ2 c.nx:=⟨fun b cs hb=>k4.fz _ _<|Y.fz _ _ hb,fun id Z=>by
     rcases k4.rho id (zh Z S)with e|e
     ·rw[e];exact Y.rho id Z
     ·exact .inr e,S⟩
    have W:∃r',PY X.C fr1 a i.results.toList=some r'/\PR F2 ρ2 c.nx (Go.Pe.one ps) r':=by
     unfold PY;rw[k1];cases ps with
     |nil=>simp at k2;subst k2;exact⟨_,rfl,by simp[Go.Pe.one,PR]⟩
     |cons p ps=>
      simp only[Bf]at k2;obtain⟨v1,vs1,rfl,g1,J⟩:=k2;cases ps with
      |nil=>simp at J;subst J;exact⟨_,rfl,g1⟩
      |cons q qs=>
       have g2':=J;simp only[Bf]at J;obtain⟨v2,vs2,rfl,_,_⟩:=J;refine⟨_,rfl,?_⟩;show PR F2 ρ2 c.nx (.tup (p::q::qs)) _;unfold PR;exact⟨_,rfl,by simp only[A4];exact⟨g1,by simpa only[A4]using g2'⟩⟩
    obtain⟨r',q1,U⟩:=W;exact⟨r',q1,n1,hn1,_,_,o,F2,ρ2,U,⟨⟨⟨hr.fp.n,fun t=>(hr.fp.slot t).mono R⟩,k3.sr⟩,R,hx1⟩,fun sp h=>(by rw[hno]at h;cases h)⟩
   cases e with
   |normal=>
    obtain⟨v',q1,U⟩:=go (fun j=>by simp) u;exact⟨[(v',a)],0,fun m _ q _=>(by simp only[hlv,q1]),fun _=>⟨_,rfl⟩,fun y hy=>by cases zc.1 hy;exact U⟩
   |ret=>
    obtain⟨v',q1,U⟩:=go (fun j=>by simp) u;exact⟨[(v',a)],0,fun m _ q _=>(by simp only[hlv,q1]),fun _=>⟨_,rfl⟩,fun y hy=>by cases zc.1 hy;exact U⟩
   |exit j=>exact wh u zg
  obtain⟨r,M2,g1,J,g3⟩:=KT (f:=fun _ _ (x:Det.X)=>match x.e with
      | .exit _=>none
      |_=>match F7 x.ds x.h with
       |some a=>match PY X.C x.fr a i.results.toList with
        |some v=>some [(v,a)]
        |none=>none
       |none=>none) (P:=fun x=>∃n',n'<=n/\∃r st',Ev X Q n' (k r st')/\∃F' ρ',PR F' ρ' st'.nx r x.1/\Dx B h0 F ρ st.nx h st' fr x.2 F' ρ'/\(∀sp,X.sp g=some sp->∀b,b<h.nx->x.2.get b=h.get b)) O fin
  refine⟨⟨K,i,hi⟩,r,max M M2+1,fun m hm=>?_,J,g3⟩;obtain⟨A,rfl⟩:∃A,m=A+1:=⟨m-1,by omega⟩;have hd:=hM A ae A ae;have hg:=g1 A ae A ae;simp only at hd;have:Bl X.C (A+1) (.fn g args') h=(match BH X.C (Bl X.C A) none i.cert A i.body (Nz i.ntmps args') h []with
    |none=>none
    |some l=>match (bl l fun x=>match x.e with
     | .exit _=>none
     |_=>match F7 x.ds x.h with
      |some a=>match PY X.C x.fr a i.results.toList with
       |some v=>some [(v,a)]
       |none=>none
      |none=>none)with
     |some r=>some<|bif X.C.mg then O1 h.nx r else r
     |none=>none):=by
   rw[Bl];simp only[hsp,hi];rfl
  rw[this,hc,hd];simp only;have hg':(bl l fun x=>match x.e with
     | .exit _=>none
     |_=>match F7 x.ds x.h with
      |some a=>match PY X.C x.fr a i.results.toList with
       |some v=>some [(v,a)]
       |none=>none
      |none=>none)=some r:=hg
  rw[hg',hmg];rfl
theorem Ro{nd:Bool}{d:Nat}(A:∀h0,FD B h0 X nd<|CC X nd d)(o:∀h0,FD B h0 X false<|CC X false d){id:Nat}{Q:PV->Ob->Prop}{n:Nat}{args:List PV}{k:PV->AL->Tr}{args':List V}
  (J:Ev X Q n (pD X (CC X nd d) (CC X false d) nd d id args st k)) (hr:Rel B h0 F ρ st fr h) (ha:Bf F ρ st.nx args args'):
  ∃c,Acf X ρ h args' (.rnd id) c/\∃l M,(∀m,M<=m->Bl X.C m c h=some l)/\(nd=false->∃x,l=[x])/\
   ∀x∈l,∃n',n'<=n/\∃r st',Ev X Q n' (k r st')/\∃F' ρ',PR F' ρ' st'.nx r x.1/\Dx B h0 F ρ st.nx h st' fr x.2 F' ρ':=by
 unfold pD at J;split at J
 case h_2=>exact wh J zg
 rename_i f r ps asg b n0 sl hob;obtain⟨D,m0,y,k1,k2,⟨ls,rfl,rfl,rfl,rfl,⟨l1,l2⟩,rfl,l4⟩,-⟩:=hr.sr.at hob;cases hsz:zj args.length ls.ps.size with
 |false=>rw[hsz]at J;exact wh J zg
 |true=>
 rw[hsz]at J;simp only[we]at J;have hlen:args'.length=ls.ps.size:=by rw[<-ha.len];exact zl hsz
 have hid:id<st.nx:=(hr.sr.own _ _ _ k1).1;have hr0:Rel B h0 F ρ (Nt ls.ps.toList args<|Av ls.fr.n sl st.ob st.nx) (GL ls.ps.toList args' ls.fr) h:=by
  have R:Rel B h0 F ρ (Av ls.fr.n sl st.ob st.nx) ls.fr h:=⟨⟨rfl,fun t=>l4 t⟩,hr.sr⟩;have go:∀(ts:List Tmp) (g:List PV) (E:List V) (s:AL) (f:Fr),s.nx=st.nx->Bf F ρ st.nx g E->Rel B h0 F ρ s f h->Rel B h0 F ρ (Nt ts g s) (GL ts E f) h:=by
   intro ts;induction ts with
   |nil=>intro g E s f _ _ hs;cases g<;>exact hs
   |cons t ts ih=>
    intro g E s f hn hp hs;cases g with
    |nil=>simp only[B7]at hp;subst hp;exact hs
    |cons a g=>
     simp only[Bf]at hp;obtain⟨v,vs,rfl,p1,p2⟩:=hp;simp only[Nt,GL];refine ih g vs _ _ ?_ p2 ?_
     ·cases z6 t s.n<;>exact hn
     ·unfold Fr.bC;rw[show s.n=f.n from hs.fp.n];cases z6 t f.n with
      |false=>exact hs
      |true=>exact hs.set (by rw[hn];exact p1)
  exact go _ _ _ _ _ rfl ha R
 have hnx0:st.nx<=(Nt ls.ps.toList args<|Av ls.fr.n sl st.ob st.nx).nx:=by
  have go:∀(ts:List Tmp) (g:List PV) (s:AL),(Nt ts g s).nx=s.nx:=by
   intro ts;induction ts with
   |nil=>intro g s;cases g<;>rfl
   |cons t ts ih=>
    intro g s;cases g with
    |nil=>rfl
    |cons a g=>simp only[Nt];rw[ih];cases z6 t s.n<;>rfl
  rw[go];exact zd _
 obtain⟨L,M1,hM1,Y,T⟩:=Qi (ro:=true) (rv:=some D) (ct:=false) (fun e=>by cases e) A o n ls.asg [] hnx0 hr0 J;refine⟨_,⟨D,m0,ls,k1,k2,hlen,rfl⟩,?_⟩;have fin:∀x∈L,∃(r:List (V×H)) (M:Nat),(∀m:Nat,M<=m->∀q:Nat,M<=q->(match x.e,x.h.get D with
   | .normal,some (.loop l1)=>match l1.st with
    | .ready=>match BH X.C (Bl X.C m) (some D) false q ls.body x.fr (x.h.put D<|.loop { l1 with st:=.busy }) x.ds with
     |some l2=>bl l2 fun y=>match y.h.get D with
      |some (.loop S)=>match y.e with
       | .normal=>some [(V.bool true,y.h.put D<|.loop { S with st:=.ready,pend:=none })]
       | .ret=>some [(V.bool false,y.h.put D<|.loop { S with st:=.done,pend:=some .ret })]
       | .exit i=>some [(V.bool false,y.h.put D<|.loop { S with st:=.done,pend:=some (.exit i) })]
      |_=>none
     |none=>none
    |_=>none
   |_,_=>none)=some r)/\(nd=false->∃x,r=[x])/\∀x∈r,∃n',n'<=n/\∃r st',Ev X Q n' (k r st')/\∃F' ρ',PR F' ρ' st'.nx r x.1/\Dx B h0 F ρ st.nx h st' fr x.2 F' ρ':=by
  intro x hx;obtain⟨ps1,_,n1,hn1,s,j,F1,ρ1,G,hb1,hl1,hx1⟩:=T x hx;obtain⟨e,fr1,h1,ds1⟩:=x;simp only at j G hx1 ⊢;cases e with
  |exit i=>exact wh j zg
  |ret=>exact wh j zg
  |normal=>
  simp only at j;split at j
  case h_2=>exact wh j zg
  rename_i f' r' ps' asg' b' n' W K;have hs1:SR B h0 F1 ρ1 s.nx s.ob h1:=G.sr.iV;obtain⟨I,m1,y1,q1,q2,⟨u,rfl,rfl,rfl,rfl,⟨la1,la2⟩,rfl,la4⟩,-⟩:=hs1.at K;obtain⟨rfl,rfl⟩:I=D/\m1=m0:=by
   have:=hl1.at hid q1;rw[k1]at this;cases this;exact⟨rfl,rfl⟩
  have hr2:Rel B h0 F1 ρ1 (s.setObj id<|.lp f' r' u.ps u.asg u.body .busy u.fr.n W) fr1 (h1.put I<|.loop { u with st:=.busy }):=
   ⟨⟨G.fp.n,fun t=>G.fp.slot t⟩,hs1.set K q1 q2 rfl rfl (o':=.lp f' r' u.ps u.asg u.body .busy u.fr.n W) ⟨_,rfl,rfl,rfl,rfl,rfl,rfl,la4⟩⟩
  obtain⟨L2,M2,hM2,hone2,hall2⟩:=Qi (ro:=true) (rv:=some I) (ct:=false) (fun e=>by cases e) A o n1 ls.body ds1 (show st.nx<=(s.setObj id<|.lp f' r' u.ps u.asg u.body .busy u.fr.n W).nx from hb1) hr2 j;have fin2:∀y∈L2,∃(r:List (V×H)) (M:Nat),(∀m:Nat,M<=m->∀q:Nat,M<=q->(match y.h.get I with
    |some (.loop S)=>match y.e with
     | .normal=>some [(V.bool true,y.h.put I<|.loop { S with st:=.ready,pend:=none })]
     | .ret=>some [(V.bool false,y.h.put I<|.loop { S with st:=.done,pend:=some .ret })]
     | .exit i=>some [(V.bool false,y.h.put I<|.loop { S with st:=.done,pend:=some (.exit i) })]
    |_=>none)=some r)/\(nd=false->∃x,r=[x])/\∀x∈r,∃n',n'<=n/\∃r st',Ev X Q n' (k r st')/\∃F' ρ',PR F' ρ' st'.nx r x.1/\Dx B h0 F ρ st.nx h st' fr x.2 F' ρ':=by
   intro y hy;obtain⟨ps2,_,n2,hn2,s2,p,F2,P,hr3,hb2,hl2,hx2⟩:=hall2 y hy;obtain⟨e2,fr2,h2,ds2⟩:=y;simp only at p hr3 hx2 ⊢;split at p
   case h_2=>exact wh p zg
   rename_i f2 r2 pp2 aa2 bb2 ss2 nn2 sl2 O;have hs3:SR B h0 F2 P s2.nx s2.ob h2:=hr3.sr.iV;obtain⟨c2,m2,y2,w1,w2,⟨w,rfl,rfl,rfl,rfl,_,rfl,lb4⟩,-⟩:=hs3.at O;have Z:Le F ρ st.nx F2 P s2.nx:=by
    have h:=hl1.trans hl2;exact⟨h.fz,h.rho,hb2⟩
   obtain⟨rfl,rfl⟩:c2=I/\m2=m1:=by
    have:=Z.at hid w1;rw[k1]at this;cases this;exact⟨rfl,rfl⟩
   have hnx:h.nx<=h2.nx:=zi hx1 hx2;have done:∀(sb:LpS) (U:LoopState) (pe:Option Code) (rb:Bool),LpR sb U pe->Ev X Q n2 (k (.bl rb) ⟨st.n,st.fr,(s2.setObj id<|.lp f2 r2 w.ps w.asg w.body sb w.fr.n sl2).ob,s2.nx⟩)->
     ∃n',n'<=n/\∃r st',Ev X Q n' (k r st')/\∃F' ρ',PR F' ρ' st'.nx r (V.bool rb)/\Dx B h0 F ρ st.nx h st' fr (h2.put c2<|.loop { w with st:=U,pend:=pe }) F' ρ':=by
    intro sb U pe rb hlr he3;refine⟨n2,zi hn2 hn1,_,_,he3,F2,P,Iz _,⟨⟨⟨hr.fp.n,fun t=>(hr.fp.slot t).mono Z⟩,?_⟩,Z,hnx⟩⟩;exact hs3.set O w1 w2 rfl rfl (o':=.lp f2 r2 w.ps w.asg w.body sb w.fr.n sl2) ⟨_,rfl,rfl,rfl,rfl,hlr,rfl,lb4⟩
   cases e2 with
   |normal=>exact⟨[(.bool true,h2.put c2<|.loop { w with st:=.ready,pend:=none })],0,fun m _ q _=>(by simp only[w2]),fun _=>⟨_,rfl⟩,fun z hz=>by cases zc.1 hz;exact done .ready _ _ true ⟨rfl,rfl⟩ p⟩
   |ret=>exact⟨[(.bool false,h2.put c2<|.loop { w with st:=.done,pend:=some .ret })],0,fun m _ q _=>(by simp only[w2]),fun _=>⟨_,rfl⟩,fun z hz=>by cases zc.1 hz;exact done .ret _ _ false ⟨rfl,rfl⟩ p⟩
   |exit i=>exact⟨[(.bool false,h2.put c2<|.loop { w with st:=.done,pend:=some (.exit i) })],0,fun m _ q _=>(by simp only[w2]),fun _=>⟨_,rfl⟩,fun z hz=>by cases zc.1 hz;exact done (.exit i) _ _ false ⟨rfl,rfl⟩ p⟩
  obtain⟨r,M3,j1,j2,j3⟩:=KT hone2 fin2;refine⟨r,max M2 M3,fun m hm q hq=>?_,j2,j3⟩;have a1:=hM2 m ae q ae;simp only at a1;have a2:=j1 m ae q ae;simp only[q2,la1];rw[a1];exact a2
 obtain⟨r,M4,j1,j2,j3⟩:=KT Y fin;refine⟨r,max M1 M4+1,fun m hm=>?_,j2,j3⟩;obtain⟨m',rfl⟩:∃m',m=m'+1:=⟨m-1,by omega⟩;have a1:=hM1 m' ae m' ae;simp only at a1;have a2:=j1 m' ae m' ae;rw[Bl];simp only[T2];rw[a1];exact a2
end
section
variable {B:Nat}{h0:H0}{X:AT}{F F1 F':Fz}{ρ:En}{N:Nat}{st st':AL}{fr:Fr}{h h':H}
theorem bH{p:PV}{v:V}(hp:PR F ρ N p v):∃w,Bf F ρ N p.cells w/\(Mf p=true->v=.agg w)/\(Mf p=false->w=[v]):=by
 cases p with
 |agg l=>simp only[PR]at hp;obtain⟨cs,rfl,a⟩:=hp;exact⟨cs,a,fun _=>rfl,fun e=>by cases e⟩
 |_=>exact⟨[v],by simp only[zo,A4,B7,ve];exact hp,fun e=>(by cases e),fun _=>rfl⟩
theorem RV{st:AL}{s:Sh}{p:PV}{x:s.T}{v:V}{w:List V}(a:Ew st s p=some (true,x))(j:Mf p=true->v=.agg w)(l:Mf p=false->w=[v])(k:∀xs,Dj st p.cells=some (true,xs)->MT F xs w):PC F (Ci s x) v:=by
 unfold Ew at a;cases b:(Mf p==s.QU)with
 |false=>rw[b]at a;cases a
 |true=>
  rw[b]at a;simp only[we]at a;split at a
  case h_2=>cases a
  rename_i c cs d;split at a
  case h_2=>cases a
  rename_i y m;simp only[zm,Prod.mk.injEq,ze]at a;obtain⟨⟨g,rfl⟩,rfl⟩:=a;have e:=MT.dc (fun ρ N=>Rk (k cs d ρ N) g) m;have i:=PC.Ci e;have b:Mf p=s.QU:=by simpa using b
  cases hp:s.QU with
  |true=>rw[hp]at b;rw[j b];exact i.1 hp
  |false=>rw[hp]at b;exact i.2 hp v<|l b
theorem handed:∀ {ps:List PV} {vs:List V} {st:AL} {F:Fz},SR B h0 F ρ st.nx st.ob h->Bf F ρ st.nx ps vs->
  ∃F1,SR B h0 F1 ρ (Br (ps.flatMap zo) st).nx (Br (ps.flatMap zo) st).ob h/\(∀b cs,F b=some cs->F1 b=some cs)/\∀l i,Dy st l ps=some (true,i)->MT F1 (Ae l i) vs
 |[],vs,st,F,hr,hp=>⟨F,hr,fun _ _ h=>h,fun l i e=>by
  have g:vs=[]:=by simpa using hp
  subst g;match l,i,e with
  |[],_,_=>intro ρ' N';simp[Ae]
  |[a],_,e=>cases e
  |a::b::l,_,e=>cases e⟩
 |p::ps,vs,st,F,hr,hp=>by
  simp only[Bf]at hp;obtain⟨v,vs,rfl,o,m⟩:=hp;obtain⟨w,c1,c2,c3⟩:=bH o;obtain⟨F1,g1,g2,g3⟩:=IG hr c1;have j:Bf F1 ρ (Br p.cells st).nx ps vs:=by rw[(DF p.cells st).1];exact m.mono<|Le.bW g2
  obtain⟨u,z,k,t⟩:=handed g1 j;rw[List.flatMap_cons,Iv];refine⟨u,z,fun b cs r=>k b cs<|g2 b cs r,fun l i e=>?_⟩;match l,i,e with
  |[],_,e=>cases e
  |[a],i,e=>
   cases ps with
   |cons q C=>cases e
   |nil=>
    have g:vs=[]:=by simpa using m
    subst g;have:=(RV (st:=st) (F:=F1) (by simpa [Dy]using e) c2 c3 g3).mono k;intro ρ' N';simp only[Ae,A4,B7,ve];exact this ρ' N'
  |a::b::l,i,e=>
   unfold Dy at e;split at e
   case h_2=>cases e
   rename_i c x d y A s;simp only[zm,Prod.mk.injEq,ze]at e;obtain⟨⟨rfl,rfl⟩,rfl⟩:=e;unfold Ae;exact MT.cons ((RV A c2 c3 g3).mono k) (t (b::l) y<|by rw[Ms<|Na p.cells st];exact s)
theorem SR.after{ob:Ob}(hr:SR B h0 F ρ N ob h)(g:∀b,b<h.nx->h'.get b=h.get b)(v:h.nx<=h'.nx)(j:∀b o,h'.get b=some o->b<h'.nx)(p:∀b cs,F b=some cs->F' b=some cs)
  (l:∀b cs,F' b=some cs->F b=some cs\/h.nx<=b) (i:∀b cs,F' b=some cs->∃t fz,h'.get b=some (.cells cs t fz)):SR B h0 F' ρ N ob h':=by
 refine⟨fun id o w=>?_,hr.inj,i,hr.own,hr.dead,fun b a C=>?_,j,zi hr.le v,fun b cs a=>?_,hr.gl,fun b a=>by obtain⟨m,z,s⟩:=hr.pn b a;exact⟨by rw[g b<|hr.lt b _ m];exact m,z,s⟩⟩
 ·obtain⟨b,n,x,c,k,q,y,A⟩:=hr.obj id o w;have a:=hr.lt b x k;refine⟨b,n,x,c,by rw[g b a];exact k,q.mono<|Le.bW (ρ:=ρ) p,fun e=>?_,fun e=>?_⟩
  ·cases r:F' b with
   |none=>rfl
   |some cs=>
    rcases l b cs r with d|d
    ·rw[y e]at d;cases d
    ·omega
  ·obtain⟨cs,t,fz,u,D⟩:=A e;exact⟨cs,t,fz,u,p _ _ D⟩
 ·rw[g b<|zh a hr.le];exact hr.old b a C
 ·rcases l b cs a with c|c
  ·exact hr.fo b cs c
  ·exact .inr<|.inl<|zi hr.le c
theorem SR.gh{ob:Ob}(hr:SR B h0 F ρ N ob h):Gh h:=fun x d=>by
 obtain⟨a,b,c⟩:=hr.gl x d;rw[hr.old _ a b];exact c
structure SH(C:Ctx)(f:FuncId)(sp:An):Prop where
 prim:C.prim f=none
 fn:∃i,C.fn f=some i
 run:∀(F:Fz) (h:H) (args:List V) (i:(BC sp.ins).T),(∀b cs,F b=some cs->∃t fz,h.get b=some (.cells cs t fz))->(∀b o,h.get b=some o->b<h.nx)->Gh h->MT F (Ae sp.ins i) args->sp.pre i=true->
  ∃l M,(∀m,M<=m->Bl C m (.fn f args) h=some l)/\(sp.nd=false->∃x,l=[x])/\∀x∈l,h.nx<=x.2.nx/\(∀b,b<h.nx->x.2.get b=h.get b)/\(∀b o,x.2.get b=some o->b<x.2.nx)/\
   ∃F':Fz,(∀b cs,F b=some cs->F' b=some cs)/\(∀b cs,F' b=some cs->F b=some cs\/h.nx<=b)/\(∀b cs,F' b=some cs->∃t fz,x.2.get b=some (.cells cs t fz))/\
    PC F' (one (Ae sp.outs (sp.f i))) x.1
structure Aa4(C:Ctx)(f:FuncId)(sp:An):Prop where
 run:∃q,C.prim f=some q/\∀(F:Fz) (h:H) (args:List V) (i:(BC sp.ins).T),MT F (Ae sp.ins i) args->sp.pre i=true->∃v,q args h=some (v,h)/\PC F (one (Ae sp.outs (sp.f i))) v
def Af(C:Ctx)(f:FuncId)(sp:An):Prop:=SH C f sp\/Aa4 C f sp
theorem Af.of0{C:Ctx}{f:FuncId}{sp:An}(h:SH C f sp):Af C f sp:=.inl h
theorem Af.zero{C:Ctx}{f:FuncId}{sp:An}(h:Af C f sp)(hp:C.prim f=none):SH C f sp:=by
 rcases h with h|⟨q,a,_⟩
 ·exact h
 ·rw[hp]at a;cases a
theorem Af.go{C:Ctx}{f:FuncId}{sp:An}(ok:Af C f sp)(F:Fz)(h:H)(args:List V)(i:(BC sp.ins).T)(a:∀b cs,F b=some cs->∃t fz,h.get b=some (.cells cs t fz))(d:∀b o,h.get b=some o->b<h.nx)(g:Gh h)(k:MT F (Ae sp.ins i) args)(hp:sp.pre i=true):
  ∃l,(((C.prim f=none/\∃i,C.fn f=some i)/\∃M,∀m,M<=m->Bl C m (.fn f args) h=some l)\/∃q x,C.prim f=some q/\q args h=some x/\l=[x])/\(sp.nd=false->∃x,l=[x])/\∀x∈l,h.nx<=x.2.nx/\(∀b,b<h.nx->x.2.get b=h.get b)/\(∀b o,x.2.get b=some o->b<x.2.nx)/\
   ∃F':Fz,(∀b cs,F b=some cs->F' b=some cs)/\(∀b cs,F' b=some cs->F b=some cs\/h.nx<=b)/\(∀b cs,F' b=some cs->∃t fz,x.2.get b=some (.cells cs t fz))/\
    PC F' (one<|Ae sp.outs<|sp.f i) x.1:=by
 rcases ok with ok|⟨q,s,c⟩
 ·obtain⟨l,M,e,j,p⟩:=ok.run F h args i a d g k hp;exact⟨l,.inl ⟨⟨ok.prim,ok.fn⟩,M,e⟩,j,p⟩
 ·obtain⟨v,e,j⟩:=c F h args i k hp;refine⟨[(v,h)],.inr ⟨q,(v,h),s,e,rfl⟩,fun _=>⟨_,rfl⟩,fun x r=>?_⟩;cases zc.1 r;exact⟨zd _,fun _ _=>rfl,d,F,fun _ _ h=>h,fun _ _ h=>.inl h,a,j⟩
theorem DC.sc:∀ {s:Sh} {x:s.T} {cs:List V},s.sc=true->DC F s x cs->DC F' s x cs
 | .int _,_,_,_,h=>by simpa only[DC]using h
 | .bool,_,_,_,h=>by simpa only[DC]using h
 | .str,_,_,_,h=>by simpa only[DC]using h
 | .list s,l,_,e,h=>by cases e
 | .pair a b,x,_,e,h=>by
  simp only[DC]at h ⊢;simp only[Sh.sc,ze]at e;obtain⟨c,d,rfl,g,i⟩:=h;exact⟨c,d,rfl,g.sc e.1,i.sc e.2⟩
 | .unit,_,_,_,h=>by simpa only[DC]using h
 | .nlist s,l,_,e,h=>by cases e
 | .fnv,_,_,_,h=>by simpa only[DC]using h
 | .ptr _,_,_,e,_=>by cases e
theorem Tl:∀ {s:Sh} {x:s.T} {cs:List V},s.sc=true->Bf F ρ N (flat s x) cs->MT F' (flat s x) cs
 | .int k,x,cs,_,h=>fun ρ' N'=>by
  simp only[flat,Bf]at h ⊢;obtain⟨v,vs,rfl,g,rfl⟩:=h;exact⟨v,[],rfl,by simp only[PR]at g ⊢;exact g.sc rfl,rfl⟩
 | .bool,x,cs,_,h=>fun ρ' N'=>by
  simp only[flat,Bf]at h ⊢;obtain⟨v,vs,rfl,g,rfl⟩:=h;exact⟨v,[],rfl,by simp only[PR]at g ⊢;exact g.sc rfl,rfl⟩
 | .str,x,cs,_,h=>fun ρ' N'=>by
  simp only[flat,Bf]at h ⊢;obtain⟨v,vs,rfl,g,rfl⟩:=h;exact⟨v,[],rfl,by simp only[PR]at g ⊢;exact g.sc rfl,rfl⟩
 | .list s,x,cs,e,h=>by cases e
 | .pair a b,(x,y),cs,e,h=>fun ρ' N'=>by
  simp only[Sh.sc,ze]at e;have key:∀(ps i:List PV) (l:List V),Bf F ρ N (ps++i) l->∃c d,l=c++d/\Bf F ρ N ps c/\Bf F ρ N i d:=by
   intro ps;induction ps with
   |nil=>intro i l j;exact⟨[],l,rfl,by simp,j⟩
   |cons p ps o=>
    intro i l j;simp only[List.cons_append,Bf]at j;obtain⟨v,vs,rfl,g,m⟩:=j;obtain⟨c,d,rfl,h3,h4⟩:=o i vs m;exact⟨v::c,d,rfl,by simp only[A4];exact⟨g,h3⟩,h4⟩
  obtain⟨c,d,rfl,g,m⟩:=key _ _ _ h;exact(Tl e.1 g ρ' N').append<|Tl e.2 m ρ' N'
 | .unit,_,cs,_,h=>fun ρ' N'=>by simpa [flat]using h
 | .nlist s,x,cs,e,h=>by cases e
 | .fnv,x,cs,_,h=>fun ρ' N'=>by
  simp only[flat,Bf]at h ⊢;obtain⟨v,vs,rfl,g,rfl⟩:=h;refine⟨v,[],rfl,?_,rfl⟩;cases (x:Option Fn)<;>simp only[PR,B7]at g ⊢<;>exact g
 | .ptr _,_,_,e,_=>by cases e
theorem YG{s:Sh}{x:s.T}{v:V}(e:s.sc=true)(h:PC F (Ci s x) v):PC F' (Ci s x) v:=by
 intro ρ' N';have h:=h ρ' N';cases s with
 |pair a b=>
  unfold Pe.Ci PR at h ⊢;obtain⟨cs,rfl,c⟩:=h;exact⟨cs,rfl,Tl e c ρ' N'⟩
 |unit=>unfold Pe.Ci PR at h ⊢;obtain⟨cs,rfl,c⟩:=h;exact⟨cs,rfl,by simpa using c⟩
 |int k=>unfold Pe.Ci PR at h ⊢;exact h.sc rfl
 |bool=>unfold Pe.Ci PR at h ⊢;exact h.sc rfl
 |str=>unfold Pe.Ci PR at h ⊢;exact h.sc rfl
 |list s=>cases e
 |nlist s=>cases e
 |ptr s=>cases e
 |fnv=>
  unfold Pe.Ci at h ⊢;cases (x:Option Fn)<;>simp only[PR,B7]at h ⊢<;>exact h
theorem Y5:∀ {l:List Sh} {x:(BC l).T} {vs:List V},l.all Sh.sc=true->MT F (Ae l x) vs->MT F' (Ae l x) vs
 |[],_,vs,_,h=>fun ρ' N'=>by have:=h ρ' N';simpa [Ae]using this
 |[a],x,vs,e,h=>fun ρ' N'=>by
  have d:=h ρ' N';simp only[Ae,Bf]at d;obtain⟨v,i,rfl,k,rfl⟩:=d;simp only[zn,List.all_nil,zr]at e;simp only[Ae,A4,B7,ve];refine YG (F:=F) e (fun c g=>?_) ρ' N';have:=h c g;simpa only[Ae,A4,B7,ve]using this
 |a::b::l,x,vs,e,h=>by
  have d:=h (fun _=>none) 0;simp only[Ae,Bf]at d;obtain⟨v,i,rfl,_,_⟩:=d;have j:a.sc=true/\(b::l).all Sh.sc=true:=by simpa [zn,Bool.and_assoc]using e
  unfold Ae at h ⊢;exact MT.cons (YG j.1 fun c g=>((A4 ..).1<|h c g).1)<|Y5 j.2 fun c g=>((A4 ..).1<|h c g).2
theorem PB{l:List Sh}{x:(BC l).T}{v:V}:PC F (one<|Ae l x) v↔∃vs,MT F (Ae l x) vs/\v=(match vs with|[u]=>u|us=>.tup us):=by
 have c:∀ps:List PV,(∀u,ps≠[u])->(PC F (one ps) v↔∃vs,MT F ps vs/\v=(match vs with|[u]=>u|us=>.tup us)):=by
  intro ps g;have o:one ps=.tup ps:=by
   unfold one;split
   ·rename_i u;exact wh rfl (g u)
   ·rfl
  rw[o];constructor
  ·intro h;have d:=h (fun _=>none) 0;unfold PR at d;obtain⟨cs,rfl,j⟩:=d;refine⟨cs,fun ρ N=>?_,?_⟩
   ·have k:=h ρ N;unfold PR at k;obtain⟨cs',e,p⟩:=k;cases e;exact p
   ·have i:=j.len;split
    ·rename_i u;cases ps with
     |nil=>cases i
     |cons q m=>cases m with
      |nil=>exact wh rfl (g q)
      |cons _ _=>cases i
    ·rfl
  ·rintro⟨vs,d,rfl⟩ ρ N;unfold PR;have i:=(d ρ N).len;split
   ·rename_i u;cases ps with
    |nil=>cases i
    |cons q m=>cases m with
     |nil=>exact wh rfl (g q)
     |cons _ _=>cases i
   ·exact⟨_,rfl,d ρ N⟩
 match l,x with
 |[],x=>exact c [] (fun u e=>by cases e)
 |[a],x=>
  simp only[Ae,one];constructor
  ·intro h;exact⟨[v],fun ρ N=>by simp only[A4,B7,ve];exact h ρ N,rfl⟩
  ·rintro⟨vs,d,rfl⟩ ρ N;have j:=d ρ N;simp only[Bf]at j;obtain⟨u,us,rfl,k,rfl⟩:=j;exact k
 |a::b::l,x=>
  refine c _<|fun u e=>?_;unfold Ae at e;cases l<;>cases e
theorem bP{nd:Bool}{g:FuncId}{sp:An}(_hsp:X.sp g=some sp)(v:Af X.C g sp)(w:nd=false->sp.nd=false){Q:PV->Ob->Prop}{n:Nat}{args:List PV}{k:PV->AL->Tr}{args':List V}(u:Ev X Q n (fU sp args st k))(hr:Rel B h0 F ρ st fr h)(P:Bf F ρ st.nx args args'):
  ∃l,Ny X ρ h args' (.fn g) l/\(nd=false->∃x,l=[x])/\
   ∀x∈l,∃n',n'<=n/\∃r st',Ev X Q n' (k r st')/\∃F' ρ',PR F' ρ' st'.nx r x.1/\Dx B h0 F ρ st.nx h st' fr x.2 F' ρ'/\(∀sp,X.sp g=some sp->∀b,b<h.nx->x.2.get b=h.get b):=by
 unfold fU at u;split at u
 case h_2=>exact wh u zg
 rename_i c i T;rcases u.Fc with⟨K,d⟩|⟨_,d⟩
 case inr=>exact wh d zg
 simp only[ze]at K;obtain⟨rfl,o⟩:=K;obtain⟨F1,g1,g2,g3⟩:=handed hr.sr P;obtain⟨l,z,hone,hall⟩:=v.go F1 h args' i g1.frz hr.sr.lt hr.sr.gh (g3 _ i T) o;have y:Ny X ρ h args' (.fn g) l:=by
  rcases z with⟨j,M,z⟩|⟨q,x,j,D,rfl⟩
  ·exact .Bl ⟨rfl,j⟩ z
  ·exact .prim j D
 refine⟨l,y,fun e=>hone<|w e,fun x O=>?_⟩;obtain⟨s,p,I,F',G,R,W,E⟩:=hall x O;refine⟨n,zd _,_,_,d,?_⟩;cases A:sp.outs.all Sh.sc with
 |true=>
  simp only[we];have U:PC F (one<|Ae sp.outs<|sp.f i) x.1:=by
   obtain⟨vs,j,D⟩:=PB.1 E;exact PB.2 ⟨vs,Y5 A j,D⟩
  refine⟨F,ρ,U ρ _,⟨⟨hr.fp,?_⟩,zt,s⟩,fun _ _ b a=>p b a⟩;refine hr.sr.after p s I (fun _ _ h=>h) (fun _ _ h=>.inl h)<|fun b cs a=>?_;obtain⟨t,fz,J⟩:=hr.sr.frz b cs a;exact⟨t,fz,by rw[p b<|hr.sr.lt b _ J];exact J⟩
 |false=>
  simp only[wg];obtain⟨Y,S,L⟩:=DF (args.flatMap zo) st;have m:Le F ρ st.nx F' ρ (Br (args.flatMap zo) st).nx:=by
   rw[Y];exact Le.bW fun b cs a=>G b cs<|g2 b cs a
  refine⟨F',ρ,E ρ _,⟨⟨⟨L.trans hr.fp.n,fun t=>?_⟩,?_⟩,m,s⟩,fun _ _ b a=>p b a⟩
  ·have:(Br (args.flatMap zo) st).get t=st.get t:=by unfold AL.get;rw[S]
   rw[this];exact(hr.fp.slot t).mono m
  ·exact g1.after p s I G R W
structure Lf(C:Ctx)(f:FuncId)(w:ZH):Prop where
 prim:C.prim f=none
 fn:∃i,C.fn f=some i
 len:∀i l,w.pre i l=true->(w.g i l).length=l.length
 run:∀(F:Fz) (h:H) (args:List V) (i:(BC w.ins).T) (l:List w.el.T) (b:Nat) (cs:List V) (fz:Nat×Nat) (o:Nat),(∀b cs,F b=some cs->∃t fz,h.get b=some (.cells cs t fz))->(∀b o,h.get b=some o->b<h.nx)->Gh h->MT F (Ae w.ins i) args->w.pre i l=true->
  h.get b=some (.cells cs w.ty fz)->Eo F w.el l cs->fz.2<=fz.1->F b=none->(o=0\/o=w.el.sz)->
  ∃x M,(∀m,M<=m->Bl C m (.fn f (args++[.sl b 0 l.length l.length o])) h=some [x])/\x.1=.tup []/\h.nx<=x.2.nx/\(∀c,c<h.nx->c≠b->x.2.get c=h.get c)/\(∀c y,x.2.get c=some y->c<x.2.nx)/\
   ∃F':Fz,(∀b cs,F b=some cs->F' b=some cs)/\(∀b cs,F' b=some cs->F b=some cs\/h.nx<=b)/\(∀b cs,F' b=some cs->∃t fz,x.2.get b=some (.cells cs t fz))/\
    ∃cs' fz',x.2.get b=some (.cells cs' w.ty fz')/\Eo F' w.el (w.g i l) cs'/\fz'.2<=fz'.1
 nils:∀(F:Fz) (h:H) (args:List V) (i:(BC w.ins).T),(∀b cs,F b=some cs->∃t fz,h.get b=some (.cells cs t fz))->(∀b o,h.get b=some o->b<h.nx)->Gh h->MT F (Ae w.ins i) args->w.pre i []=true->
  ∃x M,(∀m,M<=m->Bl C m (.fn f (args++[.nils])) h=some [x])/\x.1=.tup []/\h.nx<=x.2.nx/\(∀c,c<h.nx->x.2.get c=h.get c)/\(∀c y,x.2.get c=some y->c<x.2.nx)/\
   ∃F':Fz,(∀b cs,F b=some cs->F' b=some cs)/\(∀b cs,F' b=some cs->F b=some cs\/h.nx<=b)/\(∀b cs,F' b=some cs->∃t fz,x.2.get b=some (.cells cs t fz))
theorem Bf.split:∀ {a b:List PV} {vs:List V},Bf F ρ N (a++b) vs->∃x y,vs=x++y/\Bf F ρ N a x/\Bf F ρ N b y
 |[],b,vs,h=>⟨[],vs,rfl,by simp,h⟩
 |p::a,b,vs,h=>by
  simp only[List.cons_append,Bf]at h;obtain⟨v,vs,rfl,c,d⟩:=h;obtain⟨x,y,rfl,h3,h4⟩:=d.split;exact⟨v::x,y,rfl,by simp only[A4];exact⟨c,h3⟩,h4⟩
theorem SR.wrote{ob:Ob}(hr:SR B h0 F ρ N ob h){id b n:Nat}{o o':Obj}{x':O}(w:AP ob id=some o)(u:ρ id=some (b,n))(z:b<h.nx)(C:F b=none)(x:o'.frozen=false)(K:h'.get b=some x')(D:ZP F' ρ N n o' x')
  (E:∀c,c<h.nx->c≠b->h'.get c=h.get c) (U:h.nx<=h'.nx) (A:∀b o,h'.get b=some o->b<h'.nx) (M:∀b cs,F b=some cs->F' b=some cs)
  (L:∀b cs,F' b=some cs->F b=some cs\/h.nx<=b) (I:∀b cs,F' b=some cs->∃t fz,h'.get b=some (.cells cs t fz)):SR B h0 F' ρ N (DW ob id o') h':=by
 have g:∀j,AP (DW ob id o') j=if j=id then some o' else AP ob j:=fun j=>Hf _ _ _ _ (by rw[w];rfl)
 have d:∀c,c<h.nx->F c=none->F' c=none:=fun c l S=>by
  cases p:F' c with
  |none=>rfl
  |some cs=>
   rcases L c cs p with q|q
   ·rw[S]at q;cases q
   ·omega
 refine⟨fun j oj a=>?_,fun i j oi oj c m m' Y a p q=>?_,I,hr.own,fun j a=>?_,fun c l R=>?_,A,zi hr.le U,fun c cs l=>?_,hr.gl,fun c l=>?_⟩
 ·rw[g]at a;by_cases e:j=id
  ·subst e;simp only[wk,zm]at a;subst a;exact⟨b,n,x',u,K,D,fun _=>d b z C,fun e=>by rw[x]at e;cases e⟩
  ·rw[wc e]at a;obtain⟨c,m,y,p,q,Z,V,h5⟩:=hr.obj j oj a;have s:c≠b:=fun T=>e<|hr.inj j id oj o c m n a w p<|T▸u
   have l:=hr.lt c y q;refine⟨c,m,y,p,by rw[E c l s];exact q,Z.mono<|Le.bW (ρ:=ρ) M,fun e=>d c l<|V e,fun e=>?_⟩;obtain⟨cs,t,fz,k1,k2⟩:=h5 e;exact⟨cs,t,fz,k1,M _ _ k2⟩
 ·have r:∀k ok,AP (DW ob id o') k=some ok->∃W,AP ob k=some W:=by
   intro k ok G;rw[g]at G;by_cases e:k=id
   ·exact⟨o,e▸w⟩
   ·rw[wc e]at G;exact⟨ok,G⟩
  obtain⟨_,v⟩:=r i oi Y;obtain⟨_,J⟩:=r j oj a;exact hr.inj i j _ _ c m m' v J p q
 ·rw[g]at a;by_cases e:j=id
  ·rw[wd e]at a;cases a
  ·rw[wc e]at a;exact hr.dead j a
 ·rw[E c (zh l hr.le)<|NM (hr.own id b n u).2 l R];exact hr.old c l R
 ·rcases L c cs l with p|p
  ·exact hr.fo c cs p
  ·exact .inr<|.inl<|zi hr.le p
 ·obtain⟨v,J,P⟩:=hr.pn c l;have s:c≠b:=fun e=>P id n<|e▸u
  exact⟨by rw[E c (hr.lt c _ v) s];exact v,J,P⟩
theorem rev_eq{α:Type}{a:List α}{x:α}{r:List α}(h:a.reverse=x::r):a=r.reverse++[x]:=by
 have:=wi List.reverse h;simpa using this
theorem Wr{nd:Bool}{g:FuncId}{w:ZH}(K:X.sp g=none)(a:Lf X.C g w){Q:PV->Ob->Prop}{n:Nat}{args:List PV}{k:PV->AL->Tr}{args':List V}(j:Ev X Q n (XO w args st k))(hr:Rel B h0 F ρ st fr h)(P:Bf F ρ st.nx args args'):
  ∃l,Ny X ρ h args' (.fn g) l/\(nd=false->∃x,l=[x])/\
   ∀x∈l,∃n',n'<=n/\∃r st',Ev X Q n' (k r st')/\∃F' ρ',PR F' ρ' st'.nx r x.1/\Dx B h0 F ρ st.nx h st' fr x.2 F' ρ'/\(∀sp,X.sp g=some sp->∀b,b<h.nx->x.2.get b=h.get b):=by
 unfold XO at j;split at j
 ·rename_i id sz nn r u;rw[rev_eq u]at P;obtain⟨a1,a2,rfl,E,z⟩:=P.split;simp only[Bf]at z;obtain⟨v,_,rfl,hv,rfl⟩:=z;obtain⟨F1,g1,g2,g3⟩:=handed hr.sr E;split at j
  case h_2=>exact wh j zg
  rename_i c i t s l T ho;cases q:zj t w.ty with
  |false=>rw[q]at j;exact wh j zg
  |true=>
  rw[q]at j;simp only[we]at j;have q:=zl q;split at j
  case h_2=>exact wh j zg
  rename_i l' Z;obtain⟨e,rfl⟩:=CJ Z;cases e;rcases j.Fc with⟨O,d⟩|⟨_,d⟩
  case inr=>exact wh d zg
  simp only[ze,w5]at O;obtain⟨⟨⟨rfl,p⟩,hn⟩,D⟩:=O;have D:=zl D;subst hn D q;obtain⟨e1,e2,e3⟩:=DF (r.reverse.flatMap zo) st;obtain⟨b,m,x,h1,h2,⟨cs,fz,rfl,k1,k2,k3⟩,h4,_⟩:=g1.obj id _ ho;simp only[PR]at hv;obtain⟨o,ho',rfl⟩:∃o,(o=0\/o=w.el.sz)/\v=.sl b (0*w.el.sz) (List.length l) (List.length l) o:=by
   rcases hv.2 b m h1 with⟨_,_,g⟩|⟨_,e,_⟩
   ·exact g
   ·cases e
  rw[Nat.zero_mul];obtain⟨x,M,U,q1,L,W,Y,F',G,R,S,cs',fz',f4,f5,f6⟩:=a.run F1 h a1 i l b cs fz o g1.frz hr.sr.lt hr.sr.gh (g3 _ i T) p h2 k1 k2 (h4 rfl) ho';refine⟨[x],.Bl ⟨rfl,a.prim,a.fn⟩ U,fun _=>⟨x,rfl⟩,fun y hy=>?_⟩;cases zc.1 hy;refine⟨n,zd _,_,_,d,F',ρ,?_,⟨⟨⟨e3.trans hr.fp.n,fun t=>?_⟩,?_⟩,?_,L⟩,fun sp A=>by rw[K]at A;cases A⟩
  ·rw[q1];simp[PR]
  ·have:((Br (r.reverse.flatMap zo) st).setObj id<|.arr false w.ty w.el<|w.g i l).get t=st.get t:=by
    show((Br (r.reverse.flatMap zo) st).fr.get t).getD .any=_;rw[e2];rfl
   rw[this];refine(hr.fp.slot t).mono ?_;show Le F ρ st.nx F' ρ (Br (r.reverse.flatMap zo) st).nx;rw[e1];exact Le.bW fun b cs I=>G b cs<|g2 b cs I
  ·exact g1.wrote ho h1 (hr.sr.lt _ _ h2) (h4 rfl) rfl f4 ⟨cs',fz',rfl,f5,f6,by rw[<-k3];exact a.len i l p⟩ W L Y G R S
  ·show Le F ρ st.nx F' ρ (Br (r.reverse.flatMap zo) st).nx;rw[e1];exact Le.bW fun b cs I=>G b cs<|g2 b cs I
 ·rename_i r u;rw[rev_eq u]at P;obtain⟨a1,a2,rfl,E,z⟩:=P.split;simp only[Bf]at z;obtain⟨v,_,rfl,hv,rfl⟩:=z;simp only[PR]at hv;subst hv;obtain⟨F1,g1,g2,g3⟩:=handed hr.sr E;split at j
  case h_2=>exact wh j zg
  rename_i c i T;rcases j.Fc with⟨O,d⟩|⟨_,d⟩
  case inr=>exact wh d zg
  simp only[ze]at O;obtain⟨rfl,p⟩:=O;obtain⟨e1,e2,e3⟩:=DF (r.reverse.flatMap zo) st;obtain⟨x,M,U,q1,L,W,Y,F',G,R,S⟩:=a.nils F1 h a1 i g1.frz hr.sr.lt hr.sr.gh (g3 _ i T) p;have J:Le F ρ st.nx F' ρ (Br (r.reverse.flatMap zo) st).nx:=by
   rw[e1];exact Le.bW fun b cs I=>G b cs<|g2 b cs I
  refine⟨[x],.Bl ⟨rfl,a.prim,a.fn⟩ U,fun _=>⟨x,rfl⟩,fun y hy=>?_⟩;cases zc.1 hy;refine⟨n,zd _,_,_,d,F',ρ,?_,⟨⟨⟨e3.trans hr.fp.n,fun t=>?_⟩,?_⟩,J,L⟩,fun sp A=>by rw[K]at A;cases A⟩
  ·rw[q1];simp[PR]
  ·have:(Br (r.reverse.flatMap zo) st).get t=st.get t:=by unfold AL.get;rw[e2]
   rw[this];exact(hr.fp.slot t).mono J
  ·exact g1.after W L Y G R S
 ·exact wh j zg
theorem LA(j:X.C.mg=false)(i:∀g sp,X.sp g=some sp->Af X.C g sp)(m:∀g w,X.ws g=some w->Lf X.C g w):∀(d:Nat) (nd:Bool) (h0:H0),FD B h0 X nd<|CC X nd d
 |0,nd,h0=>by intro a;exact wh a zg
 |d+1,nd,h0=>by
  rename_i Q n Z args st k;intro a F ρ fr h args' hr t;unfold CC at a;cases Z with
  |rnd id=>exact wh a zg
  |fn g=>
  simp only at a;have conv:(∃l,Ny X ρ h args' (.fn g) l/\(nd=false->∃x,l=[x])/\
   ∀x∈l,∃n',n'<=n/\∃r st',Ev X Q n' (k r st')/\∃F' ρ',PR F' ρ' st'.nx r x.1/\Dx B h0 F ρ st.nx h st' fr x.2 F' ρ'/\(∀sp,X.sp g=some sp->∀b,b<h.nx->x.2.get b=h.get b))->
   ∃l,Ny X ρ h args' (.fn g) l/\(nd=false->∃x,l=[x])/\
   ∀x∈l,∃n',n'<=n/\∃r st',Ev X Q n' (k r st')/\∃F' ρ',PR F' ρ' st'.nx r x.1/\Dx B h0 F ρ st.nx h st' fr x.2 F' ρ'/\(∀D,Cal.fn g=.fn D->∀sp,X.sp D=some sp->∀b,b<h.nx->x.2.get b=h.get b):=by
   rintro⟨l,I,S,L⟩;refine⟨l,I,S,fun x v=>?_⟩;obtain⟨n',U,r,st',Y,F',ρ',P,K,O⟩:=L x v;exact⟨n',U,r,st',Y,F',ρ',P,K,fun D e=>by cases e;exact O⟩
  obtain⟨o,s⟩:∃o,X.sp g=o:=⟨_,rfl⟩;cases o with
  |some sp=>
   rw[s]at a;simp only at a;cases q:(nd|| !sp.nd)with
   |false=>rw[q]at a;exact wh a zg
   |true=>
    rw[q]at a;exact conv (bP (nd:=nd) s (i g sp s) (fun e=>by rw[e]at q;simpa using q) a hr t)
  |none=>
   rw[s]at a;simp only at a;obtain⟨J,A⟩:∃o,X.ws g=o:=⟨_,rfl⟩;cases J with
   |some w=>rw[A]at a;exact conv (Wr s (m g w A) a hr t)
   |none=>
   rw[A]at a;simp only at a;cases c:X.esc.any (zj g)with
   |true=>
    rw[c]at a;simp only[we]at a;unfold Acd at a;split at a
    case h_2=>exact wh a zg
    rename_i id off;cases p:Is (st.obj id)with
    |false=>rw[p]at a;exact wh a zg
    |true=>
     rw[p]at a;simp only[we]at a;obtain⟨g',E,q⟩:=zz.1 c;have e:=zl q;subst e;have hp:=X.escOk g E;obtain⟨o,ho⟩:=WT p;obtain⟨b,n',z,q1,_⟩:=hr.sr.at ho;simp only[Bf]at t;obtain⟨x,_,rfl,v,rfl⟩:=t;have u:=v;simp only[PR]at u;obtain rfl:=u.2 b n' q1;exact conv ⟨[(.ptr b off,h)],.prim hp rfl,fun _=>⟨_,rfl⟩,fun y hy=>by
      cases zc.1 hy;exact⟨n,zd _,_,st,a,F,ρ,v,Dx.refl hr,fun _ _ _ _=>rfl⟩⟩
   |false=>
   rw[c]at a;simp only[wg]at a;split at a
   case h_2=>exact wh a zg
   rename_i hp G;obtain⟨R,l,M,V,T,W⟩:=JN (LA j i m d nd) (LA j i m d false) j G hp s a hr t;exact conv ⟨l,.Bl ⟨rfl,R⟩ V,T,W⟩
theorem Qx{st:AL}:∀ {l:List Sh} {ps:List PV} {r:Bool×(BC l).T},Dy st l ps=some r->l.length=ps.length
 |[],[],_,_=>rfl
 |[],_::_,_,h=>by cases h
 |[a],[p],_,_=>rfl
 |[a],[],_,h=>by cases h
 |[a],_::_::_,_,h=>by cases h
 |a::b::l,[],_,h=>by cases h
 |a::b::l,p::ps,_,h=>by
  unfold Dy at h;split at h
  case h_2=>cases h
  rename_i d c;have:=Qx c;simp at this ⊢;exact this
def HT(outs:List Sh)(v:PV):List PV:=match outs with
 |[_]=>[v]
 |_=>match v with
  | .tup vs=>vs
  |_=>[v]
def Ik(outs:List Sh)(v:PV)(ob:Ob):Option (Bool×(BC outs).T):=Dy ⟨0,.leaf,ob,0⟩ outs<|HT outs v
def Ends(X:AT)(t:Tr)(Q:PV->Ob->Prop):Prop:=∃n,Ev X Q n t
def Ad(sp:An)(i:(BC sp.ins).T)(v:PV)(ob:Ob):Prop:=∃y,Ik sp.outs v ob=some (true,y)/\y=sp.f i
theorem Xs{v:PV}(h:fA v=true)(st st':AL):BS st v=BS st' v:=by
 cases v<;>first|rfl|cases h
theorem IV(st st':AL):∀ {l:List PV},l.all fA=true->Dj st l=Dj st' l
 |[],_=>rfl
 |v::l,h=>by
  rw[zn,ze]at h;unfold Dj;rw[Xs h.1 st st',IV st st' h.2]
theorem Gu(st st':AL):∀ {l:List Sh} {ps:List PV},ps.all VR=true->Dy st l ps=Dy st' l ps
 |[],[],_=>rfl
 |[],_::_,_=>rfl
 |[_],[],_=>rfl
 |_::_::_,[],_=>rfl
 |[a],[p],h=>by
  rw[zn,ze]at h;show Ew st a p=Ew st' a p;unfold Ew;rw[IV st st' h.1]
 |[_],_::_::_,_=>rfl
 |a::b::l,p::ps,h=>by
  rw[zn,ze]at h;unfold Dy Ew;rw[IV st st' h.1,Gu st st' h.2]
theorem AaB{outs:List Sh}{v:PV}{ob:Ob}:Ik outs v (gcO v ob)=Ik outs v ob:=by
 unfold gcO;cases d:yI v with
 |false=>rfl
 |true=>
  show Ik outs v []=Ik outs v ob;unfold Ik HT;by_cases b:∃a,v=.tup a
  ·obtain⟨a,rfl⟩:=b;split
   ·rfl
   ·exact Gu _ _ d
  ·have e:VR v=true:=by
    cases v with
    |tup a=>exact wh ⟨a,rfl⟩ b
    |_=>exact d
   have c:[v].all VR=true:=by rw[zn,e];rfl
   split
   ·exact Gu _ _ c
   ·split
    ·rename_i a;exact wh ⟨a,rfl⟩ b
    ·exact Gu _ _ c
theorem aZ(z:X.C.mg=false)(c:∀g sp,X.sp g=some sp->Af X.C g sp)(S:∀g w,X.ws g=some w->Lf X.C g w){f:FuncId}{sp:An}{d:Nat}(hsp:X.C.spec f=none)(m:X.C.prim f=none)(Y:X.sp f=none)
  (V:∀i,sp.pre i=true->Ends X (tree X sp.nd d f<|Ae sp.ins i) (Ad sp i)) (hfn:∃i,X.C.fn f=some i):Af X.C f sp:=by
 refine .of0 ⟨m,hfn,fun F h args i E K O v T=>?_⟩;obtain⟨n,he⟩:=V i T;unfold tree at he;have hr:Rel h.nx ⟨h,F,[],fun _=>False⟩ F (fun _=>none) (Av 0 [] [] 0) ⟨0,.leaf⟩ h:=by
  refine⟨⟨rfl,fun t=>?_⟩,⟨fun id o D=>(by cases D),fun id id' o o' b n n' D=>(by cases D),E,fun id b n k=>(by cases k),fun _ _=>rfl,fun _ _ _=>rfl,K,zd _,fun b cs k=>.inl k,fun x U=>⟨K _ _<|O x U,fun e=>e,O x U⟩,fun b k=>(by cases k)⟩⟩;show PR _ _ _ (((FM []).get t).getD .any) _;have:(FM []).get t=none:=PM.Du t;rw[this];simp[PR]
 obtain⟨_,l,M,hM,G,c⟩:=JN (LA z c S d sp.nd) (LA z c S d false) z hsp m Y he hr<|v _ _;refine⟨l,M,hM,G,fun x U=>?_⟩;obtain⟨n',hn,r,st',he',F',ρ',hp,hw,_⟩:=c x U;have hq:=he'.Zt;obtain⟨y,hy,rfl⟩:=hq;rw[AaB]at hy;have J:∀b,b<h.nx->x.2.get b=h.get b:=fun b k=>hw.rel.sr.old b k<|fun e=>e
 refine⟨hw.nx,J,hw.rel.sr.lt,?_⟩;have W:∃vs,Bf F' ρ' st'.nx (HT sp.outs r) vs/\((∃a,sp.outs=[a])->vs=[x.1])/\((∀a,sp.outs≠[a])->(∃q,r=.tup q)->x.1=.tup vs):=by
  unfold HT;split
  ·rename_i a A;exact⟨[x.1],by simp only[A4,B7,ve];exact hp,fun _=>rfl,fun j=>wh A<|j _⟩
  ·rename_i j;split
   ·rename_i q;simp only[PR]at hp;obtain⟨cs,e,h1⟩:=hp;exact⟨cs,h1,fun⟨a,A⟩=>wh A<|j a,fun _ _=>e⟩
   ·rename_i hnt;exact⟨[x.1],by simp only[A4,B7,ve];exact hp,fun _=>rfl,fun _ ⟨q,hqs⟩=>wh hqs<|hnt q⟩
 obtain⟨vs,p,L,P⟩:=W;obtain⟨F1,g1,g2,g3⟩:=handed (st:=st') hw.rel.sr p;have Z:∀id,Ee (AL.obj ⟨0,.leaf,st'.ob,0⟩ id) (st'.obj id):=fun id=>Ee.refl _
 have I:=g3 sp.outs _ (by rw[Ms Z];exact hy);refine⟨F1,fun b cs k=>g2 b cs<|hw.le.fz b cs k,fun b cs k=>(g1.fo b cs k).imp_right<|fun h=>h.resolve_right<|fun e=>e,g1.frz,PB.2 ⟨vs,I,?_⟩⟩;have s:sp.outs.length=(HT sp.outs r).length:=Qx hy;have hl2:=p.len;by_cases D:∃a,sp.outs=[a]
 ·rw[L D]
 ·have j:∀a,sp.outs≠[a]:=fun a A=>D ⟨a,A⟩
  have R:sp.outs.length≠1:=fun e=>by
   obtain⟨a,A⟩:=List.length_eq_one_iff.1 e;exact j a A
  have ht:∃q,r=.tup q:=by
   cases r with
   |tup q=>exact⟨q,rfl⟩
   |_=>
    exfalso;apply R;rw[s];unfold HT;split<;>rfl
  rw[P j ht];split
  ·rename_i u;exact wh (s.trans hl2) R
  ·rfl
end
section
variable {X:AT}{Q Q':PV->Ob->Prop}
theorem Ends.leaf{v:PV}{ob:Ob}(h:Q v ob):Ends X (.leaf v ob) Q:=⟨0,.leaf h⟩
theorem Ends.ite{c:Bool}{a b:Tr}(d:c=true->Ends X a Q)(g:c=false->Ends X b Q):Ends X (.ite c a b) Q:=by
 cases c with
 |true=>obtain⟨n,h⟩:=d rfl;exact⟨n,.ite (fun _=>h)<|fun e=>by cases e⟩
 |false=>obtain⟨n,h⟩:=g rfl;exact⟨n,.ite (fun e=>by cases e)<|fun _=>h⟩
theorem Ends.tt{c:Bool}{a b:Tr}(d:c=true)(h:Ends X a Q):Ends X (.ite c a b) Q:=Ends.ite (fun _=>h) (fun e=>by rw[d]at e;cases e)
theorem Ends.ff{c:Bool}{a b:Tr}(d:c=false)(h:Ends X b Q):Ends X (.ite c a b) Q:=Ends.ite (fun e=>by rw[d]at e;cases e)<|fun _=>h
def stepT(X:AT):Tr->Tr
 | .loop nd ro d f base b st k=>body X nd ro d f base b st k
 | .cut nd ro d f base b st k=>AS X nd ro d f base b st k
 |t=>t
theorem Ends.step{t:Tr}(h:Ends X (stepT X t) Q):Ends X t Q:=by
 cases t with
 |loop=>obtain⟨n,h⟩:=h;exact⟨n+1,.loop h⟩
 |cut=>obtain⟨n,h⟩:=h;exact⟨n,.cut h⟩
 |_=>exact h
theorem Ends.eq{t a:Tr}(e:t=a)(h:Ends X a Q):Ends X t Q:=e▸h
theorem Ends.Ah{t a:Tr}(e:stepT X t=a)(h:Ends X a Q):Ends X t Q:=Ends.step<|e▸h
def Tr.L:Tr->Tr
 | .ite _ a _=>a
 | .both a _=>a
 |t=>t
def Tr.R:Tr->Tr
 | .ite _ _ b=>b
 | .both _ b=>b
 |t=>t
def re:Tr->AL->Tr
 | .loop nd ro d f base b _ k,st=>.loop nd ro d f base b st k
 | .cut nd ro d f base b _ k,st=>.cut nd ro d f base b st k
 |t,_=>t
def XF:List (FuncId×An)->FuncId->Option An
 |[],_=>none
 |(g,s)::l,f=>bif zj g f then some s else XF l f
def Ac6:List (FuncId×List Nat)->FuncId->Nat->Bool
 |[],_,_=>false
 |(g,t)::l,f,r=>bif zj g f then t.any (zj r)else Ac6 l f r
def Acj:List (FuncId×List (Nat×List (Nat×Sh)))->FuncId->Nat->List (Nat×Sh)
 |[],_,_=>[]
 |(g,t)::l,f,r=>bif zj g f then fz1 t r else Acj l f r
 where fz1:List (Nat×List (Nat×Sh))->Nat->List (Nat×Sh)
 |[],_=>[]
 |(i,s)::l,r=>bif zj i r then s else fz1 l r
def AbB:List (FuncId×List (Nat×List Nat))->FuncId->Nat->List Nat
 |[],_,_=>[]
 |(g,t)::l,f,r=>bif zj g f then pl1 t r else AbB l f r
 where pl1:List (Nat×List Nat)->Nat->List Nat
 |[],_=>[]
 |(i,s)::l,r=>bif zj i r then s else pl1 l r
end
section
open Go.Proofs.Tryz (prog)
def Pp(C:Ctx)(q:XN):Ctx:=⟨C.T,C.ng,C.fn,C.prim,q,false⟩
theorem US{C:Ctx}{P:Program}(a:C.Ok P){q:XN}(h:LD P q):(Pp C q).Ok P where
 T:=a.T
 fn:=a.fn
 prim:=a.prim
 spec:=h
theorem P2{C:Ctx}(a:Gy C)(q:XN):Gy (Pp C q):=a
def A9:Ctx:=Pp C7<|orS fmtS<|orS mH<|orS TL<|Kd A7
theorem Aa9:A9.Ok prog:=US ZK<|Ty qK<|Ty mN<|Ty XX spA
theorem aA:Gy A9:=P2 LF _
def Adk:List (FuncId×List (Nat×List Nat)):=
 [(10,[(18,[1,2,3,8]),(16,[1,2,3,8]),(14,[1,2,3,7]),(12,[1,2,3,7]),(9,[1,2,3,4,5,6]),(7,[1,2,3,4,5,6]),(5,[1,2,3,4]),(3,[1,2,3,4])]),
 (12,[(5,[1,2,3,4]),(3,[1,2,3,4])]),
 (13,[(6,[1,4]),(7,[1,4]),(5,[1,4]),(4,[1])]),
 (14,[(20,[1,5,6]),(28,[1,5,6]),(26,[1,3,5,6]),(24,[1,3,5,6]),(21,[1,5,6]),(19,[1,5,6]),(17,[1]),(12,[1,4]),(13,[1,4]),(11,[1,4]),(10,[1]),(8,[1,3]),(6,[1,3]),(3,[1])]),
 (15,[(35,[14,94,95,96]),(34,[14,16,94,95,96]),(30,[14,94,95,96]),(29,[14,94,95,96]),(27,[1]),(23,[1,8,47,48,49]),(22,[1,8,10,47,48,49]),(17,[1,8,47,48,49]),(16,[1,8,47,48,49]),(14,[1]),(10,[1,26,27,28]),(6,[1,26,27,28]),(5,[1,26,27,28]),(4,[1])]),
 (16,[(38,[1,5,10]),(44,[1,5,10]),(42,[1,5,10,11]),(39,[1,5,10]),(37,[1,5,10]),(35,[1]),(33,[1]),(18,[1,5,6]),(30,[1,5,6,7]),(25,[1,5,6,7,8,9]),(26,[1,5,6,7,8,9]),(24,[1,5,6,7,8,9]),(23,[1,5,6,7,8]),(19,[1,5,6]),(17,[1,5,6]),(15,[1]),(13,[1]),(7,[1,3]),(8,[1,3]),(6,[1,3]),(5,[1]),(3,[1])]),
 (18,[(4,[1,2,3,4])]),
 (31,[(11,[1,2,3,9]),(12,[1,2,3,9]),(10,[1,2,3,9]),(5,[1,2,3,7]),(6,[1,2,3,7]),(4,[1,2,3,7]),(3,[1,2,3])]),
 (32,[(3,[0,3]),(4,[0,3]),(2,[0,3])]),
 (33,[(5,[0,1])]),
 (34,[(5,[0,1])]),
 (40,[(13,[6]),(10,[0,1,6]),(5,[0,1]),(3,[0,1])]),
 (50,[(6,[5,6,7]),(3,[5,6,7]),(2,[5,6,7])]),
 (52,[(3,[0,6,7]),(2,[0,6])]),
 (57,[(13,[3,11,12,13]),(12,[3,5,11,12,13]),(10,[3,5,11,12,13]),(6,[3,11,12,13]),(5,[3,11,12,13]),(3,[0])]),
 (58,[(5,[0,3]),(6,[0,3]),(4,[0,3]),(3,[0])]),
 (60,[(7,[0,3]),(13,[0,3,4]),(11,[0,3,4]),(8,[0,3]),(6,[0,3]),(5,[0]),(3,[0])]),
 (61,[(5,[0,1,5]),(6,[0,1,5]),(4,[0,1,5]),(3,[0,1])]),
 (62,[(16,[]),(11,[3,4]),(9,[3,4]),(7,[3,4]),(4,[0,3])]),
 (64,[(10,[30,31,32]),(6,[30,31,32]),(5,[30,31,32]),(4,[1])]),
 (67,[(14,[1,4]),(17,[1,4]),(15,[1,4]),(13,[1,4]),(12,[1]),(10,[1]),(8,[1,3]),(6,[1,3]),(4,[1,3])]),
 (72,[(5,[6,8])]),
 (75,[(3,[2,3,4])]),
 (79,[(6,[8,10,11,12,13,14])]),
 (90,[(10,[2,3,8]),(11,[2,3,8]),(9,[2,3,8]),(5,[2,3,7]),(6,[2,3,7]),(4,[2,3,7]),(3,[2,3])]),
 (91,[(15,[8,9]),(13,[6,8,9]),(10,[5,6,7]),(7,[5,6]),(4,[5])]),
 (93,[(9,[8,10]),(3,[2,3])]),
 (96,[(10,[3]),(7,[1,3,4]),(5,[1,3,4]),(3,[1])]),
 (97,[(7,[0,2,3,4,5]),(4,[0,2,3,4]),(3,[0,2,3,4])]),
 (98,[(2,[0,1]),(1,[0,1])]),
 (99,[(3,[0,1,5]),(2,[0,1,5])]),
 (122,[(9,[5,6,7]),(6,[5,6,7,8])]),
 (123,[(15,[5,23,24,25]),(14,[5,9,23,24,25]),(11,[5,6,7,23,24,25]),(7,[5,23,24,25]),(6,[5,23,24,25]),(4,[0])]),
 (126,[(11,[2,4]),(5,[0,2,3,4]),(4,[0,2,3,4])]),
 (128,[(3,[0,3]),(4,[0,3]),(2,[0,3])]),
 (130,[(2,[0,1]),(1,[0,1])]),
 (131,[(6,[0,1,7,8]),(3,[0,1,7,8]),(2,[0,1,7,8])]),
 (136,[(4,[1,4,5,9,10,11]),(3,[1,4,5,9,10,11])]),
 (140,[(5,[2,3,4]),(3,[2,3,4])]),
 (149,[(6,[0,2,3,4]),(5,[0,2,3,4]),(4,[0,2,3])]),
 (152,[(5,[0,3,4]),(3,[0,3,4])]),
 (154,[(15,[8,9,10,11,12,13]),(39,[8,9,10,11,12,13,14]),(35,[8,9,10,11,12,13,14,19,20]),(33,[8,9,10,11,12,13,14,19,20]),(20,[8,9,10,11,12,13,14,15,16]),(27,[8,9,10,11,12,13,14,15,16,18]),(21,[8,9,10,11,12,13,14,15,16]),(19,[8,9,10,11,12,13,14,15,16]),(16,[8,9,10,11,12,13]),(14,[8,9,10,11,12,13]),(11,[0,8,9,10,11]),(10,[0,8,9,10,11]),(6,[0,1]),(3,[0,1])]),
 (156,[(6,[0,1,5,6,7]),(4,[0,1,5,6,7])]),
 (157,[(7,[0,1,5]),(10,[0,1,5]),(8,[0,1,5]),(6,[0,1,5]),(5,[0,1]),(4,[])]),
 (158,[(5,[0,1,5,6,7]),(11,[0,1,5,6,7,8]),(6,[0,1,5,6,7]),(4,[0,1,5,6,7])]),
 (159,[(9,[0,1,5,6,7,8]),(7,[0,1,5,6,7,8]),(5,[0,1,5,6]),(3,[0,1,5,6])]),
 (168,[(6,[5,6,7]),(3,[5,6,7]),(2,[5,6,7])]),
 (170,[(3,[2,3,4]),(2,[2,3,4])]),
 (171,[(7,[6,7,8]),(3,[6,7,8]),(2,[6,7,8])]),
 (176,[(3,[1,2,4,5]),(6,[1,2,4,5]),(4,[1,2,4,5]),(2,[1,2,4,5])]),
 (181,[(8,[1,5,6,7,8,20,21,22,27,28,29]),(7,[1,5,6,7,8,20,21,22,27,28,29]),(4,[1,5,20,21,22]),(3,[1,5,20,21,22])]),
 (182,[(3,[0,3]),(4,[0,3]),(2,[0,3])]),
 (183,[(6,[0,1,7,8]),(3,[0,1,7,8]),(2,[0,1,7,8])]),
 (185,[(21,[6,10,11]),(19,[6,10,11]),(18,[6,10]),(13,[3,5,6,7,9]),(11,[3,5,6,7,9]),(7,[3,4,5,6]),(6,[3,4,5,6]),(3,[1])]),
 (186,[(12,[0,1,5,6,21,22]),(11,[0,1,5,6,7,8,21,22]),(7,[0,1,5,6,21,22]),(6,[0,1,5,6,21,22]),(3,[0,1])]),
 (187,[(7,[0,1,5]),(11,[]),(8,[0,1,5]),(6,[0,1,5]),(5,[0,1]),(4,[])]),
 (188,[(10,[0,1,5,6,13,14]),(9,[0,1,5,6,7,8,13,14]),(5,[0,1,5,6,13,14]),(4,[0,1,5,6,13,14])]),
 (189,[(3,[2,3,4])]),
 (190,[(12,[4,5,14,15]),(6,[2,3,4,5]),(5,[4,5,6,7])]),
 (192,[(6,[0,1,6,7,8]),(4,[0,1,6,7,8])]),
 (193,[(2,[0]),(1,[0])]),
 (194,[(5,[0,1,2,7,9,10]),(4,[0,1,2,7,9,10])]),
 (206,[(20,[0]),(19,[6]),(16,[5,6,47,48,49]),(15,[5,6,8,47,48,49]),(11,[5,6,47,48,49]),(10,[5,6,47,48,49]),(8,[0,5])]),
 (209,[(3,[0,3]),(2,[0,3])]),
 (212,[(26,[9,11,12,13,96,97]),(22,[9,11,12,13,96,97]),(21,[9,11,12,13,96,97]),(19,[9,10,11,12,13,14]),(17,[9,10,11,12,13,14]),(11,[0,1]),(9,[0,1,6,7,8]),(7,[0,1,6,7,8]),(3,[0,1])]),
 (231,[(3,[0,2,4]),(7,[0,2,4,5]),(4,[0,2,4]),(2,[0,2,4])]),
 (232,[(3,[0,1]),(2,[0,1]),(1,[0,1])]),
 (233,[(3,[0,1]),(2,[0,1]),(1,[0,1])]),
 (246,[(25,[2,8,9,10,14,15,16,17,18]),(24,[2,8,9,10,14,15,16,17,18]),(18,[2,8,9,10,11,13,14,15,16]),(17,[2,8,9,10,11,13,14,15,16]),(7,[0,1,2]),(5,[0,1,2]),(3,[0,1,2])]),
 (248,[(8,[1,5,12,13,14]),(4,[1,5,12,13,14]),(3,[1,5,12,13,14])]),
 (249,[(29,[0,1,5,6,17,156,157]),(28,[0,1,5,6,17,156,157]),(26,[0,1,5,6]),(16,[0,1,5,6,11,12,104,105]),(15,[0,1,5,6,11,12,104,105]),(11,[0,1,5,6,7]),(9,[0,1,5,6,7]),(8,[0,1,5,6,7,8])])]
def AaU:List FuncId:=[277]
theorem Y9:∀g∈AaU,A9.prim g=some PK.noEsc.run:=fun g h=>by
 cases h with
 |head=>kernel_rfl
 |tail _ h=>cases h
def X7(l:List (FuncId×An)):AT:=⟨A9,XF l,AbB Adk,fun _ _=>false,fun _ _=>[],fun _=>none,AaU,Y9⟩
def YT(cs:List (FuncId×List Nat))(fz:List (FuncId×List (Nat×List (Nat×Sh))))(t:List (FuncId×List (Nat×List Nat)))(l:List (FuncId×An)):AT:=⟨A9,XF l,AbB<|t++Adk,Ac6 cs,Acj fz,fun _=>none,AaU,Y9⟩
end
end Go.Pe
namespace Go.Sp
def first:List Int->Int
 |[]=>0
 |x::l=>if x≠0 then x else first l
def Cs(c:Bool)(e:Int):Int:=bif c then e else 0
end Go.Sp
namespace Go.Pe
open Go.Det
abbrev i64:Sh:=.int .i64
abbrev AdG:Sh:=.list<|.int .i64
def GY:An:=⟨[AdG],fun l=>decide (l.length<=1000000),[i64],fun l=>Sp.first l,false⟩
def Ib:An:=⟨[.bool,i64],fun _=>true,[i64],fun i=>Sp.Cs i.1 i.2,false⟩
def Wn:AT:=X7 []
end Go.Pe
namespace Go.Sp
abbrev BM:=Z
def has(l:List BM)(x:BM):Bool:=decide (x∈l)
end Go.Sp
namespace Go.Pe
open Go.Det
section
open List Int Prod
namespace T52
def T(s:Z):Tr:=tree Wn false 9 52<|Ae ([Sh.str]) s
def L1(v0 a:Z):Tr:=re ((T []))<|Av 37 [(0,.dat Sh.str v0),(6,.ptr 0 0)] [(0,Obj.siter a 0)] 1
theorem Ak(s:Z):T s=L1 s s:=by kernel_rfl
def L2(v0 b:Z)(a:Nat):Tr:=re ((stepT Wn<|L1 [] []).L.L.L)<|Av 37 [(0,.dat Sh.str v0),(6,.ptr 0 0)] [(0,Obj.siter b a)] 1
theorem Al(v0 a:Z):stepT Wn (L1 v0 a)=let b':=L2 v0 a<|zx 0<|J5 a 0;let b:Tr:=.leaf (.bl false) [];let d:Tr:=.ite true b<|.ite (rune a 0 !=95) (.di (rune a 0<48) b<|.di (rune a 0>57) b b') b';let c:Tr:=.di (rune a 0>=65) (.ite (!decide (rune a 0<=90)) d b') d;.di (0<length a) (.di (rune a 0>=97) (.di (rune a 0<=122) b' c) c) (.ite (!v0==[]) (.leaf (.dat Sh.bool<|decide ((length v0:Int)<=24)) []) b):=by kernel_rfl
theorem AJ(v0 b:Z)(a:Nat):stepT Wn (L2 v0 b a)=let b':=L2 v0 b<|zx a<|J5 b a;let c:Tr:=.leaf (.bl false) [];let e:Tr:=.ite ((↑a:Int)==0) c<|.ite (rune b a !=95) (.di (rune b a<48) c<|.di (rune b a>57) c b') b';let d:Tr:=.di (rune b a>=65) (.ite (!decide (rune b a<=90)) e b') e;.di (a<length b) (.di (rune b a>=97) (.di (rune b a<=122) b' d) d) (.ite (!v0==[]) (.leaf (.dat Sh.bool<|decide ((length v0:Int)<=24)) []) c):=by kernel_rfl
end T52
end
section
variable {X:AT}{Q:PV->Ob->Prop}
@[simp] theorem AbU:Ends X .fail Q↔False:=⟨fun⟨_,h⟩=>zg h,fun h=>h.elim⟩
@[simp] theorem Hn{v:PV}{ob:Ob}:Ends X (.leaf v ob) Q↔Q v ob:=⟨fun⟨_,h⟩=>h.Zt,fun h=>.leaf h⟩
@[simp] theorem Fk{c:Bool}{a b:Tr}:Ends X (.ite c a b) Q↔if c=true then Ends X a Q else Ends X b Q:=by
 constructor
 ·rintro⟨n,h⟩;rcases h.Fc with⟨d,h⟩|⟨d,h⟩
  ·rw[wd d];exact⟨n,h⟩
  ·rw[wc<|by simp[d]];exact⟨n,h⟩
 ·intro h;refine .ite (fun d=>?_)<|fun d=>?_
  ·rwa [wd d]at h
  ·rwa [wc<|by simp[d]]at h
theorem Ad.of{sp:An}{i:(BC sp.ins).T}{v:PV}{ob:Ob}{c:Bool}{y:(BC sp.outs).T}(h:Ik sp.outs v ob=some (c,y))(b:c=true)(a:y=sp.f i):Ad sp i v ob:=⟨y,by rw[h,b],a⟩
@[simp] theorem P4(s:Sh)(x:List s.T):K1 (Sh.leaves<|.list s) [.dat (.list s) x]=(true,[.dat (.list s) x]):=rfl
theorem wr(x:Int)(a: -9223372036854775808<=x)(b:x<=9223372036854775807):IntKind.wrap .i64 x=x:=IntWalk.i64_in x ⟨a,b⟩
theorem drop_cons{α:Type}{l r:List α}{x d:α}{i:Nat}(h:l.drop i=x::r):i<l.length/\l.getD i d=x/\l.drop (i+1)=r:=by
 have a:i<l.length:=by
  rcases Nat.lt_or_ge i l.length with c|c
  ·exact c
  ·rw[List.drop_eq_nil_of_le c]at h;cases h
 have b:=List.drop_eq_getElem_cons a;rw[h]at b;simp only[z8]at b;exact⟨a,by simp[a,b.1],b.2.symm⟩
end
theorem TD:∀g sp,Wn.sp g=some sp->Af A9 g sp:=fun g sp h=>by cases h
abbrev Dg(X:AT):Prop:=∀g sp,X.sp g=some sp->Af A9 g sp
theorem Hp{X:AT}(o:X.C=A9)(b:∀g sp,X.sp g=some sp->Af A9 g sp){f:FuncId}{sp:An}{d:Nat}(m:A9.spec f=none)(a:A9.prim f=none)(j:X.sp f=none)
  (c:∀i,sp.pre i=true->Ends X (tree X sp.nd d f<|Ae sp.ins i) (Ad sp i)) (k:∃i,A9.fn f=some i) (e:∀g w,X.ws g=some w->Lf A9 g w:=by intro _ _ h;cases h):Af A9 f sp:=by
 have l:X.C.mg=false:=by rw[o];rfl
 rw[<-o]at*;exact aZ l b e m a j c k
theorem Be{α:Type}{o:Option α}(h:o.isSome=true):∃i,o=some i:=zy.1 h
theorem BN{X:AT}(b:Dg X){f:FuncId}{sp:An}(c:∀i,sp.pre i=true->Ends X (tree X sp.nd 9 f<|Ae sp.ins i) (Ad sp i))(l:X.C=A9:=by rfl)(k:A9.spec f=none:=by kernel_rfl)(a:A9.prim f=none:=by kernel_rfl)(e:X.sp f=none:=by kernel_rfl)(j:(A9.fn f).isSome=true:=by kernel_rfl)(d:∀g w,X.ws g=some w->Lf A9 g w:=by intro _ _ h;cases h):Af A9 f sp:=Hp l b k a e c (Be j) d
theorem drop_nil{α:Type}{l:List α}{i:Nat}(h:l.drop i=[])(a:i<=l.length):i=l.length:=by
 have:=wi List.length h;simp at this;omega
theorem OQ{α:Type}{l r:List α}{x:α}{i:Nat}(h:l.drop i=x::r):x∈l:=by
 have:x∈l.drop i:=by rw[h];simp
 exact List.mem_of_mem_drop this
theorem PW(c:Int):zu c=true↔(97<=c/\c<=122)\/(65<=c/\c<=90)\/(48<=c/\c<=57)\/c=95:=by
 simp[zu,Sp.letter,or_assoc]
theorem KJ(c:Int):Sp.letter c=true↔(97<=c/\c<=122)\/(65<=c/\c<=90):=by
 simp[Sp.letter]
namespace T52
variable {Q:PV->Ob->Prop}
theorem loop(s:Z)(b:s≠[]):∀(r:Z) (i:Nat),s.drop i=r->i<=s.length->1<=i->
  ((r.all fun c=>zu (c.toNat:Int))=false->∀ob,Q (.bl false) ob)->((r.all fun c=>zu (c.toNat:Int))=true->∀ob,Q (.dat .bool<|decide ((s.length:Int)<=24)) ob)->Ends Wn (L2 s s i) Q
 |[],i,h,p,t,j,l=>by
  have:=drop_nil h p;refine Ends.Ah (AJ ..) (Ends.ff (by simp;omega)<|Ends.tt (by simpa using b) ?_);exact Ends.leaf<|l rfl _
 |x::r,i,h,p,t,j,l=>by
  obtain⟨g,q,z⟩:=drop_cons (d:=0) h;refine Ends.Ah (AJ ..) (Ends.tt (by simpa using g) ?_);have u:((i:Int)==0)=false:=by simp;omega
  simp only[Fk,Hn,u,Bool.false_eq_true,vg,w5,Bool.not_eq_true',w9,bne_iff_ne,wm];have step:zu (x.toNat:Int)=true->J5 s i=1->Ends Wn (L2 s s<|zx i<|J5 s i) Q:=by
   intro a v;rw[v];refine loop s b r (i+1) z g ae (fun e=>j<|by simp[e]) (fun e=>l<|by simp[e];exact a)
  have no:zu (x.toNat:Int)=false->∀ob,Q (.bl false) ob:=fun a=>j (by simp[a])
  by_cases o:(s.getD i 0).toNat<128
  ·obtain⟨A,y⟩:=Vy g o;rw[A,q];have m:=PW (x.toNat:Int);generalize ((x.toNat:Nat):Int)=c at m step no ⊢;by_cases a:zu c=true
   ·have:=m.1 a;repeat' split
    all_goals first|exact step a y|(exfalso;omega)
   ·have k:zu c=false:=by simpa using a
    have:¬_:=fun h=>a<|m.2 h
    repeat' split
    all_goals first|exact no k _|(exfalso;omega)
  ·have hr:=RC g ae;have w:zu (x.toNat:Int)=false:=by
    have:¬zu (x.toNat:Int)=true:=fun h=>by
     have:=(PW _).1 h;rw[q]at o;omega
    simpa using this
   repeat' split
   all_goals first|exact no w _|(exfalso;omega)
end T52
theorem ME{α:Type}{l r:List α}{x:α}{i:Nat}(h:l.drop i=x::r):l.take (i+1)=l.take i++[x]:=by
 have b:=(drop_cons (d:=x) h).1;have a:=(drop_cons (d:=x) h).2.1;rw[List.take_add_one];congr 1;have:l[i]?=some x:=by
  have e:=List.getElem?_eq_getElem b;rw[e];simp only[List.getD,e,Option.getD_some]at a;rw[a]
 rw[this];rfl
theorem AI{C:Ctx}:∀g sp,XF [] g=some sp->Af C g sp:=fun g sp h=>by cases h
theorem Aa{C:Ctx}{b:FuncId}{c:An}{l:List (FuncId×An)}(h0:Af C b c)(d:∀g sp,XF l g=some sp->Af C g sp):∀g sp,XF ((b,c)::l) g=some sp->Af C g sp:=by
 intro g sp h;unfold XF at h;cases a:zj b g with
 |true=>rw[a]at h;cases h;have:=zl a;subst this;exact h0
 |false=>rw[a]at h;exact d g sp h
theorem Hr{f:FuncId}{s t:List Sh}{g:(BC s).T->(BC t).T}{nd:Bool}(a:A9.prim f=none)(b:∃i,A9.fn f=some i):Af A9 f ⟨s,fun _=>false,t,g,nd⟩:=
 .of0 ⟨a,b,fun F h args i _ _ _ _ hp=>by cases hp⟩
theorem DU{α:Type}(A B:List α)(x d:α){n:Nat}(h:A.length=n):(A++x::B).getD n d=x:=by
 subst h;simp[List.getD]
theorem DD{α:Type}(A B:List α)(x y:α){n:Nat}(h:A.length=n):(A++x::B).set n y=A++y::B:=by
 subst h;simp
end Go.Pe
namespace Go.Sp
open Go.Pe (EZ imax)
theorem jJ(a b:Int):EZ a b=min a b:=by unfold EZ;split<;>omega
end Go.Sp
