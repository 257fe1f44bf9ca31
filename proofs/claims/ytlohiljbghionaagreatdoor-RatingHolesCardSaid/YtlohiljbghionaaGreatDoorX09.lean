import Derived.Test.YtlohiljbghionaaGreatDoorX08
/- A part of a proof; no law is stated here. -/
noncomputable section
open List renaming mem_singleton -> zc, getElem?_eq_some_iff -> zf, nodup_nil -> zk, all_cons -> zn, mem_append -> zp, any_eq_true -> zz, map_cons -> yb, mem_cons -> yc, mem_map -> ye
open Nat renaming le_refl -> zd, lt_of_lt_of_le -> zh, le_trans -> zi, beq -> zj, eq_of_beq_eq_true -> zl, le_of_ble_eq_true -> zq, add -> zx, blt -> z6, beq_refl -> yd
open Bool renaming and_eq_true -> ze, and_true -> zr
open Go.Pe.Ev renaming AH -> zg
open Option.some renaming injEq -> zm
open Go.Pe.PV renaming cells -> zo
open Go.Pe.Le renaming refl -> zt
open Go.Sp renaming mark -> zu
open Go.Pe renaming apart -> zw
open Option renaming isSome_iff_exists -> zy, map_eq_some_iff -> z7
open List.cons renaming injEq -> z8
open Go.Det.V renaming beq -> ya
namespace Go.Pe
open Go.Det
section
variable {B:Nat}{h0:H0}{F:Fz}{ρ:Ey}{N:Nat}{X:AT}{st st':AM}{fr:Fr}{h h':H}{Q:PV->Ob->Prop}{n:Nat}
mutual
theorem MH:∀v:V,ya v v=true
 | .bool b=>by simp[ya]
 | .int k n=>by simp[ya]
 | .str s=>by simp[ya]
 | .nilp=>rfl
 | .ptr a i=>by simp[ya]
 | .nils=>rfl
 | .sl a b c d e=>by simp[ya]
 | .esl=>rfl
 | .es0=>rfl
 | .junk=>rfl
 | .nilm=>rfl
 | .map a=>by simp[ya]
 | .yld a=>by simp[ya]
 | .nilf=>rfl
 | .nili=>rfl
 | .fn f a b=>by simp only[ya,Gt a,Gt b,zr,wj]
 | .iface t x=>by simp only[ya,MH x,zr];exact yd t
 | .agg a=>by simp only[ya];exact Gt a
 | .tup a=>by simp only[ya];exact Gt a
theorem Gt:∀vs:List V,V.Mi vs vs=true
 |[]=>rfl
 |v::vs=>by simp only[V.Mi,MH v,Gt vs,zr]
end
theorem iB{T:Ce}{t:TypeId}{a x:V}(c:Fl T h t a=some x):∃b off o,a=.ptr b off/\h.get b=some o/\(∀g:H,g.get b=h.get b->Fl T g t a=some x)/\
  ∀(g:H) cs t1 l t2 j,h.get b=some (.cells cs t1 l)->g.get b=some (.cells cs t2 j)->Fl T g t a=some x:=by
 unfold Fl at c;split at c
 case h_2=>cases c
 rename_i b off d i m k;have s:∃o,h.get b=some o:=by
  cases e:h.get b with
  |some o=>exact⟨o,rfl⟩
  |none=>
   unfold rd at c;rw[e]at c;cases Ek d<;>simp at c
 obtain⟨o,r⟩:=s;refine⟨b,off,o,rfl,r,fun g e=>?_,fun g cs t1 l t2 j p q=>?_⟩
 ·unfold Fl;simp only[m,k];unfold rd at c ⊢;rw[e];exact c
 ·unfold Fl;simp only[m,k];unfold rd at c ⊢;rw[p]at c;rw[q];exact c
def TW(C:Ctx)(F:Fz)(bl:List Nat)(h:H)(fr:Fr)(o:Oper)(x:V):Prop:=
 ∀g:H,(∀b cs,F b=some cs->∃t fz,g.get b=some (.cells cs t fz))->(∀b∈bl,g.get b=h.get b)->∃z,GN C fr g o=some (.val x z)
theorem XI:∀ {s:Sh} {x:s.T} {cs:List V} {b:Nat},DC F s x cs->V.map b∉cs
 | .int _,_,_,_,h,hm=>by simp only[DC]at h;subst h;cases zc.1 hm
 | .bool,_,_,_,h,hm=>by simp only[DC]at h;subst h;cases zc.1 hm
 | .str,_,_,_,h,hm=>by simp only[DC]at h;subst h;cases zc.1 hm
 | .list s,l,_,_,h,hm=>by
  simp only[DC]at h;obtain⟨v,rfl,h⟩:=h;obtain rfl:=zc.1 hm;rcases h with⟨_,h|h|h⟩|⟨b,off,cap,o,e,h,_⟩<;>cases h
 | .pair a b,x,_,_,h,hm=>by
  simp only[DC]at h;obtain⟨c,d,rfl,i,g⟩:=h;rcases zp.1 hm with hm|hm
  ·exact XI i hm
  ·exact XI g hm
 | .unit,_,_,_,h,hm=>by simp only[DC]at h;subst h;cases hm
 | .fnv,x,_,_,h,hm=>by simp only[DC]at h;subst h;have:=zc.1 hm;revert this;cases (x:Option Fn)<;>intro h<;>cases h
 | .ptr _,x,_,_,h,hm=>by simp only[DC]at h;obtain⟨b,o,e,rfl,_⟩:=h;cases zc.1 hm
 | .nlist s,l,_,_,h,hm=>by
  simp only[DC]at h;obtain⟨v,rfl,h⟩:=h;obtain rfl:=zc.1 hm;rcases h with⟨_,h⟩|⟨_,b,off,cap,o,e,h,_⟩<;>cases h
theorem Ya{s:Sh}{x:s.T}{b:Nat}(hp:PR F ρ N (.dat s x) (.map b)):False:=by
 simp only[PR]at hp;exact XI hp<|zc.2 rfl
theorem Xx{b:Nat}(hp:PR F ρ N .nil (.map b)):False:=by
 simp only[PR]at hp;cases hp
theorem mC(hr:SR B h0 F ρ st.nx st.ob h){o:Oper}{c:Call}(i:o.op=.call c)(e:c.callee=.builtin .len){id sz off len:Nat}{cap:Option Nat}(g:Ng st c.args.toList=some [.sl id sz off len cap]){u:PV}{s:AM}
  (a:(pop o.op X.C.T st).To u s) {b:Nat} (hp:PR F ρ st.nx (.sl id sz off len cap) (.map b)):False:=by
 rw[i]at a;simp only[pop,TJ,g,e,IY,sV,VP,yb,List.map_nil,lz]at a;split at a
 case h_2=>simp at a
 rename_i t x _ d;cases d;split at a
 case h_3=>
  rename_i d;cases d;cases j:II (st.obj id)with
  |false=>rw[j]at a;simp at a
  |true=>
   obtain⟨b',n,k⟩:=hr.live j;simp only[PR]at hp;rcases hp.2 b' n k with⟨_,_,o,_,h⟩|⟨_,_,_,h|⟨_,h,_⟩⟩<;>cases h
 all_goals first|(simp at a;done)|(rename_i d;cases d;done)|(rename_i d _;cases d)
theorem P5{T:Ce}{ts:Array TypeId}{a:V}{g:H}(c:∀b,a≠ .map b)(h:H):Gn T g ts [a]=Gn T h ts [a]:=by
 unfold Gn;cases ts[0]? with
 |none=>rfl
 |some t=>
  simp only;cases T.und t with
  |none=>cases a<;>rfl
  |some d=>cases d<;>cases a<;>first|rfl|(rename_i b;exact wh rfl (c b))|(rename_i b _;exact wh rfl (c b))|(rename_i b _ _;exact wh rfl (c b))
theorem bU(hr:Rel B h0 F ρ st fr h){o:Oper}{x:V}(D:GN X.C fr h o=some (.val x h)){l:List Nat}(M:uW st o.op=some l)(hto:∃u s,(pop o.op X.C.T st).To u s):
  ∃bl,TW X.C F bl h fr o x/\∀b∈bl,b<h.nx/\∃id∈l,id<st.nx/\∀y,ρ id=some y->y.1=b:=by
 unfold uW at M;rw[Dc]at D;unfold He at D;split at M
 case h_5=>cases M
 case h_4 t y i ok r=>
  simp only[r]at D;have m:∀g,GN X.C fr g o=(match ev X.C fr y,ev X.C fr i with|some v,some u=>BG g (Fb X.C.T g t v u ok)|_,_=>none):=fun g=>by rw[Dc];unfold He;simp only[r];rfl
  cases O:ev X.C fr y with
  |none=>rw[O]at D;cases D
  |some a=>
   cases hi:ev X.C fr i with
   |none=>rw[O,hi]at D;cases D
   |some u=>
    rw[O,hi]at D;simp only at D;obtain⟨x',q,G⟩:=GU D;cases G;have L:∀g:H,entries g a=entries h a->Fb X.C.T g t a u ok=some x:=by
     intro g J;unfold Fb at q ⊢;rw[J];exact q
    split at M
    case h_3=>cases M
    case h_1=>
     rename_i id hp;obtain⟨Z,E,p⟩:=Ct (C:=X.C) hr.fp hp;rw[O]at E;cases E;have hent:∃es,entries h a=some es:=by
      unfold Fb at q;split at q
      case h_2=>cases q
      split at q
      case h_2=>cases q
      rename_i es _ G;exact⟨es,G⟩
     obtain⟨es,G⟩:=hent;cases M;by_cases K:∃b,a=.map b
     ·obtain⟨b,rfl⟩:=K;have P:∃ob,h.get b=some ob:=by
       cases J:h.get b with
       |none=>simp[entries,J]at G
       |some ob=>exact⟨ob,rfl⟩
      obtain⟨ob,P⟩:=P;simp only[PR]at p;refine⟨[b],fun g _ J=>⟨g,?_⟩,fun b' A=>?_⟩
      ·rw[m,O,hi];simp only;rw[L g<|by simp only[entries,J b<|zc.2 rfl]];rfl
      ·cases zc.1 A;refine⟨hr.sr.lt b ob P,id,zc.2 rfl,p.1,fun z Y=>?_⟩;have:=p.2 z.1 z.2 Y;cases this;rfl
     ·refine⟨[],fun g _ J=>⟨g,?_⟩,fun b' A=>by cases A⟩;rw[m,O,hi];simp only;rw[L g ?_];rfl;cases a<;>first|rfl|(rename_i b;exact wh ⟨b,rfl⟩ K)
    case h_2=>
     rename_i hp;obtain⟨Z,E,p⟩:=Ct (C:=X.C) hr.fp hp;rw[O]at E;cases E;simp only[PR]at p;subst p;cases M;refine⟨[],fun g _ J=>⟨g,?_⟩,fun b' A=>by cases A⟩;rw[m,O,hi];simp only;rw[L g rfl];rfl
 case h_1 t y r=>
  simp only[r]at D;have m:∀g,GN X.C fr g o=(match ev X.C fr y with|some v=>BG g (Fl X.C.T g t v)|none=>none):=fun g=>by rw[Dc];unfold He;simp only[r];rfl
  cases O:ev X.C fr y with
  |none=>rw[O]at D;cases D
  |some a=>
   rw[O]at D;simp only at D;obtain⟨x',q,G⟩:=GU D;cases G;obtain⟨b,off,ob,rfl,P,L,hfz⟩:=iB q;have hblt:=hr.sr.lt b ob P;have live:∀id,id<st.nx->(∀z,ρ id=some z->z.1=b)->l=[id]->∃bl,TW X.C F bl h fr o x/\∀b∈bl,b<h.nx/\∃id∈l,id<st.nx/\∀y,ρ id=some y->y.1=b:=by
    rintro id hlt hid rfl;refine⟨[b],fun g _ J=>⟨g,?_⟩,fun b' A=>?_⟩
    ·rw[m,O];simp only;rw[L g<|J b<|zc.2 rfl];rfl
    ·cases zc.1 A;exact⟨hblt,id,zc.2 rfl,hlt,hid⟩
   split at M
   case h_4=>cases M
   case h_1=>
    rename_i id U hp;obtain⟨Z,E,p⟩:=Ct (C:=X.C) hr.fp hp;rw[O]at E;cases E;simp only[PR]at p;refine live id p.1 (fun z Y=>?_) (by cases M;rfl);have:=p.2 z.1 z.2 Y;cases this;rfl
   case h_2=>
    rename_i id sz j U hp;obtain⟨Z,E,p⟩:=Ct (C:=X.C) hr.fp hp;rw[O]at E;cases E;simp only[PR]at p;refine live id p.1 (fun z Y=>?_) (by cases M;rfl);have:=p.2 z.1 z.2 Y;cases this;rfl
   case h_3=>
    rename_i s y' U hp;obtain⟨Z,E,p⟩:=Ct (C:=X.C) hr.fp hp;rw[O]at E;cases E;simp only[PR]at p;obtain⟨b',o',cs,G,hF,_⟩:=p;cases G;obtain⟨t1,f1,k1⟩:=hr.sr.frz b cs hF;refine⟨[],fun g J _=>⟨g,?_⟩,fun b' A=>by cases A⟩;obtain⟨t2,f2,k2⟩:=J b cs hF;rw[m,O];simp only;rw[hfz g cs t1 f1 t2 f2 k1 k2];rfl
 case h_2 s d y r=>
  simp only[r]at D;have m:∀g,GN X.C fr g o=(match ev X.C fr y with|some v=>BG g (Gy X.C.T g s d v)|none=>none):=fun g=>by rw[Dc];unfold He;simp only[r];rfl
  have fin:∀a,ev X.C fr y=some a->(∀g,Gy X.C.T g s d a=Gy X.C.T h s d a)->∃bl,TW X.C F bl h fr o x/\∀b∈bl,b<h.nx/\∃id∈l,id<st.nx/\∀y,ρ id=some y->y.1=b:=by
   intro a ha J;rw[ha]at D;simp only at D;obtain⟨x',q,G⟩:=GU D;cases G;exact⟨[],fun g _ _=>⟨g,by rw[m,ha];simp only;rw[J,q];rfl⟩,fun b P=>by cases P⟩
  split at M
  case h_3=>cases M
  case h_1=>
   rename_i k z hp;obtain⟨Z,E,p⟩:=Ct (C:=X.C) hr.fp hp;simp only[PR,DC,z8,ve]at p;subst p;exact fin _ E fun g=>by
    unfold Gy;cases X.C.T.und s with
    |none=>rfl
    |some u=>cases X.C.T.und d with
     |none=>cases u<;>rfl
     |some w=>cases u<;>cases w<;>rfl
  case h_2=>
   rename_i z hp;obtain⟨Z,E,p⟩:=Ct (C:=X.C) hr.fp hp;simp only[PR,DC,z8,ve]at p;subst p;exact fin _ E fun g=>by
    unfold Gy;cases X.C.T.und s with
    |none=>rfl
    |some u=>cases X.C.T.und d with
     |none=>cases u<;>rfl
     |some w=>cases u<;>cases w<;>rfl
 case h_3 c r=>
  simp only[r]at D;split at M
  case h_5=>cases M
  case h_4=>
   rename_i id I R;obtain⟨AgR,E,p⟩:=FA (C:=X.C) hr.fp R;simp only[Bi]at p;obtain⟨a,as',rfl,p,rfl⟩:=p;have m:∀g,GN X.C fr g o=BG g (Gn X.C.T g c.argTypes [a]):=fun g=>by rw[Dc];unfold He;simp only[r,I,E];rfl
   simp only[I,E,EK]at D;obtain⟨x',q,G⟩:=GU D;cases G;cases M;by_cases K:∃b,a=.map b
   ·obtain⟨b,rfl⟩:=K;simp only[PR]at p;by_cases P:∃ob,h.get b=some ob
    ·obtain⟨ob,P⟩:=P;refine⟨[b],fun g _ J=>⟨g,?_⟩,fun b' A=>?_⟩
     ·rw[m];have:Gn X.C.T g c.argTypes [.map b]=Gn X.C.T h c.argTypes [.map b]:=by
       unfold Gn;cases c.argTypes[0]? with
       |none=>rfl
       |some t=>
        simp only;cases X.C.T.und t with
        |none=>rfl
        |some d=>cases d<;>first|rfl|simp only[J b<|zc.2 rfl]
      rw[this,q];rfl
     ·cases zc.1 A;refine⟨hr.sr.lt b ob P,id,zc.2 rfl,p.1,fun z Y=>?_⟩;have:=p.2 z.1 z.2 Y;cases this;rfl
    ·have W:h.get b=none:=by
      cases J:h.get b with
      |none=>rfl
      |some ob=>exact wh ⟨ob,J⟩ P
     refine⟨[],fun g _ _=>⟨g,?_⟩,fun b' A=>by cases A⟩;obtain⟨uu,s,S⟩:=hto;exfalso;rw[r]at S;simp only[pop,TJ,R,I,IY,sV,VP,yb,List.map_nil,lz]at S;split at S
     case h_2=>simp at S
     rename_i t x _ G;cases G;split at S
     case h_5=>
      rename_i G;cases G;split at S
      case h_2=>simp at S
      rename_i ks vs l ho;obtain⟨b1,n1,o1,q1,q2,_⟩:=hr.sr.at ho;have:=p.2 b1 n1 q1;cases this;rw[W]at q2;cases q2
     all_goals first|(simp at S;done)|(rename_i G;cases G;done)|(rename_i G _;cases G)
   ·refine⟨[],fun g _ _=>⟨g,?_⟩,fun b P=>by cases P⟩;rw[m,P5 (fun b e=>K ⟨b,e⟩) h,q];rfl
  all_goals
   rename_i I R;obtain⟨AgR,E,p⟩:=FA (C:=X.C) hr.fp R;simp only[Bi]at p;obtain⟨a,as',rfl,p,rfl⟩:=p;have m:∀g,GN X.C fr g o=BG g (Gn X.C.T g c.argTypes [a]):=fun g=>by rw[Dc];unfold He;simp only[r,I,E];rfl
   simp only[I,E,EK]at D;have hnm:∀b,a≠ .map b:=by
    intro b e;subst e;first
     |exact Ya p
     |exact Xx p
     |(obtain⟨u,s,S⟩:=hto
       exact mC hr.sr r I R S p)
   obtain⟨x',q,G⟩:=GU D;cases G;refine⟨[],fun g _ _=>⟨g,?_⟩,fun b P=>by cases P⟩;rw[m];rw[P5 hnm h,q];rfl
structure nN(C:Ctx)(F:Fz)(ρ:Ey)(N:Nat)(h:H)(r:Nat×Option (List Nat))(c:Rc):Prop where
 i:c.i=r.1
 k:∀l,r.2=some l->∃bl,TW C F bl h c.f c.o c.v/\∀b∈bl,b<h.nx/\∃id∈l,id<N/\∀y,ρ id=some y->y.1=b
def Yl(C:Ctx)(F:Fz)(ρ:Ey)(N:Nat)(h:H):Rs->List Rc->Prop
 |[],l=>l=[]
 |r::a,l=>∃c cs,l=c::cs/\nN C F ρ N h r c/\Yl C F ρ N h a cs
theorem nN.mono{F':Fz}{ρ':Ey}{N':Nat}{r:Nat×Option (List Nat)}{c:Rc}(q:nN X.C F ρ N h r c)(m:Le F ρ N F' ρ' N')(v:h.nx<=h'.nx)
  (w:∀l,r.2=some l->∀b,b<h.nx->(∃id∈l,id<N/\∀y,ρ id=some y->y.1=b)->h'.get b=h.get b):nN X.C F' ρ' N' h' r c:=by
 refine⟨q.i,fun l d=>?_⟩;obtain⟨bl,t,o⟩:=q.k l d;refine⟨bl,fun g s A=>t g (fun b cs z=>s b cs<|m.fz b cs z)<|fun b a=>?_,fun b a=>?_⟩
 ·obtain⟨e,j⟩:=o b a;rw[A b a,w l d b e j]
 ·obtain⟨e,id,j,p,x⟩:=o b a;exact⟨zh e v,id,j,zh p m.n,fun y u=>x y<|m.at p u⟩
theorem Yl.mono{F':Fz}{ρ':Ey}{N':Nat}(i:Le F ρ N F' ρ' N')(e:h.nx<=h'.nx)(g:∀b,b<h.nx->h'.get b=h.get b):∀ {a:Rs} {cs:List Rc},Yl X.C F ρ N h a cs->Yl X.C F' ρ' N' h' a cs
 |[],_,d=>d
 |r::a,_,d=>by
  obtain⟨c,cs,rfl,k,j⟩:=d;exact⟨c,cs,rfl,k.mono i e<|fun l _ b m _=>g b m,Yl.mono i e g j⟩
theorem Yl.apart{F':Fz}{ρ':Ey}{fr':Fr}{anc:Nat->Nat->Bool}{i:Nat}{t:Option (List Nat)}(hr:Rel B h0 F ρ st fr h)(u:Dx B h0 F ρ st.nx h st' fr' h' F' ρ')
  (O:∀g,t=some g->∀b,b<h.nx->h'.get b=h.get b\/∃id∈g,∃m,ρ id=some (b,m)):
  ∀ {x:Rs} {cs:List Rc},Yl X.C F ρ st.nx h x cs->zw anc i st t x=true->cs.all (still X.C anc i h')=true/\Yl X.C F' ρ' st'.nx h' (behind st t x) cs
 |[],_,I,_=>by
  cases I;exact⟨rfl,rfl⟩
 |r::x,_,I,p=>by
  obtain⟨c,cs,rfl,w,R⟩:=I;unfold zw at p;rw[zn,ze]at p;obtain⟨h3,h4⟩:=Yl.apart hr u O R (by unfold zw;exact p.2);have key:(dG r.2 t&&Lf st r.2)=true->∀l,r.2=some l->∀b,b<h.nx->(∃id∈l,id<st.nx/\∀y,ρ id=some y->y.1=b)->h'.get b=h.get b:=by
   rintro j l o b v ⟨id,q,G,Y⟩;simp only[ze,o]at j;have d:=List.all_eq_true.1 j.2 id q;obtain⟨E,S,M⟩:=hr.sr.live d;obtain rfl:E=b:=Y _ M;cases t with
   |none=>
    cases l with
    |nil=>cases q
    |cons a l=>cases j.1
   |some g=>
    rcases O g rfl E v with e|⟨id',T,m,D⟩
    ·exact e
    ·exfalso;obtain⟨o1,V⟩:=Jq d;have A:∃s,AR st.ob id'=some s:=by
      cases P:AR st.ob id' with
      |some s=>exact⟨s,rfl⟩
      |none=>rw[hr.sr.dead id' P]at D;cases D
     obtain⟨s,A⟩:=A;obtain rfl:=hr.sr.inj id id' o1 s E S m V A M D;have L:=List.all_eq_true.1 j.1 id q;simp only[Bool.not_eq_true']at L;have W:g.any (zj id)=true:=zz.2 ⟨id,T,yd id⟩;rw[W]at L;cases L
  refine⟨?_,c,cs,rfl,?_,h4⟩
  ·rw[zn,h3,zr];unfold still;rw[w.i];cases J:anc i r.1 with
   |true=>rfl
   |false=>
    rw[J]at p;simp only[Bool.false_or]at p ⊢;have j:=p.1;have o:∃l,r.2=some l:=by
     cases K:r.2 with
     |some l=>exact⟨l,rfl⟩
     |none=>rw[K]at j;simp[dG]at j
    obtain⟨l,o⟩:=o;obtain⟨bl,q,G⟩:=w.k l o;obtain⟨z,hz⟩:=q h' (fun b cs U=>u.rel.sr.frz b cs<|u.le.fz b cs U)<|fun b v=>key j l o b (G b v).1 (G b v).2;rw[hz];simp only;exact MH _
  ·show nN X.C F' ρ' st'.nx h' (bif dG r.2 t&&Lf st r.2 then r else(r.1,none)) c;cases j:(dG r.2 t&&Lf st r.2)with
   |true=>exact w.mono u.le u.nx<|key j
   |false=>
    exact⟨w.i,fun l o=>by cases o⟩
theorem PD{C:Ctx}{o:Oper}(j:CH o=true){r:OR}(a:GN C fr h o=some r):∃ob f,fI C fr o=some (ob,f)/\r=.val (f h.nx) (h.push ob):=by
 rw[Dc]at a;unfold He at a;unfold CH at j;unfold fI;split at j
 case h_4=>cases j
 case h_1 t b=>
  simp only[b]at a ⊢;unfold Ha at a;cases d:C.T.inf t with
  |none=>rw[d]at a;cases a
  |some i=>rw[d]at a;cases a;exact⟨_,_,rfl,rfl⟩
 case h_2 t x b=>
  simp only[b]at a ⊢;cases c:ev C fr x with
  |none=>rw[c]at a;cases a
  |some y=>rw[c]at a;cases a;exact⟨_,_,rfl,rfl⟩
 case h_3 t n ps b=>
  simp only[b]at a ⊢;cases c:XE C fr ps.toList with
  |none=>rw[c]at a;cases a
  |some y=>
   rw[c]at a;simp only at a ⊢;unfold Fe at a;unfold XC;split at a
   case h_2=>cases a
   rename_i e l;simp only[l];split at a
   case h_2=>cases a
   rename_i i d;simp only[d];cases k:(Nat.ble (n*i.size) 16777216&&z6 0 (i.zero.length)&&zj i.zero.length i.size)with
   |false=>rw[k]at a;cases a
   |true=>
    rw[k]at a;simp only[we]at a ⊢;split at a
    case h_2=>cases a
    rename_i cs g;cases a;simp only[g];exact⟨_,_,rfl,rfl⟩
theorem Aek{T:Ce}{call:Gz}{st:AM}{o:Oper}{k:AM->Tr}(a:EE o=true):Ie T call o st k=Qc o.dst k (pop o.op T st):=by
 have:Kz st o.op=.no:=by
  unfold EE at a;unfold Kz;cases b:o.op<;>rw[b]at a<;>first|rfl|skip
  case call c=>
   obtain⟨callee,args,ts⟩:=c;cases callee<;>first|rfl|(cases a)
 unfold Ie;rw[this]
theorem Abq{call:Gz}(e:FJ B h0 X false call)(hr:Rel B h0 F ρ st fr h){o:Oper}(a:EE o=true){k:AM->Tr}(j:Ev X Q n (Ie X.C.T call o st k)):
  ∃n',n'<=n/\∃d,Ev X Q n' (k d)/\∃F' ρ' x fr',GN X.C fr h o=some (.val x h)/\fr.put o.dst x=some fr'/\Dx B h0 F ρ st.nx h d fr' h F' ρ'/\∃u s,(pop o.op X.C.T st).To u s:=by
 obtain⟨l,i,m,g⟩:=HP e hr j;obtain⟨⟨⟨x,h'⟩,rfl⟩,_⟩:=m.1 rfl;obtain⟨n',hn,d,he1,F',ρ',fr',hput,hw,_⟩:=g _<|zc.2 rfl;have p:∃u s,(pop o.op X.C.T st).To u s:=by
  rw[Aek a]at j;obtain⟨u,s,_,q,_⟩:=J6 j;exact⟨u,s,q⟩
 cases i with
 |val b=>
  obtain⟨y,c⟩:=rd_val a b;cases c;exact⟨n',hn,d,he1,F',ρ',x,fr',b,hput,hw,p⟩
 |skip b=>obtain⟨y,c⟩:=rd_val a b;cases c
 |call b _=>obtain⟨y,c⟩:=rd_val a b;cases c
 |round b _=>obtain⟨y,c⟩:=rd_val a b;cases c
 |alts b=>obtain⟨y,c⟩:=rd_val a b;cases c
theorem Pu{call:Gz}(z:FJ B h0 X false call){ops:Array Oper}{anc:Nat->Nat->Bool}:∀ {L:List Nat} {n:Nat} {st:AM} {F:Fz} {ρ:Ey} {fr:Fr} {h:H} {k:AM->Tr} {Z:Rs} {cs:List Rc},Rel B h0 F ρ st fr h->Yl X.C F ρ st.nx h Z cs->
  Ev X Q n (Kv X.C.T X.sp call ops anc L st Z k)->
  ∃n',n'<=n/\∃p,Ev X Q n' (k p)/\∃F' ρ' fr' h',Dx B h0 F ρ st.nx h p fr' h' F' ρ'/\∃M,∀m,M<=m->∃cs',Wc X.C (Bp X.C m) ops anc L ⟨fr,h,cs⟩=some ⟨fr',h',cs'⟩
 |[],n,st,F,ρ,fr,h,k,Z,cs,hr,_,d=>⟨n,zd _,st,d,F,ρ,fr,h,Dx.refl hr,0,fun _ _=>⟨cs,rfl⟩⟩
 |i::is,n,st,F,ρ,fr,h,k,Z,cs,hr,K,d=>by
  unfold Kv at d;cases ho:ops[i]? with
  |none=>rw[ho]at d;exact wh d zg
  |some o=>
   rw[ho]at d;simp only at d;obtain⟨p,E,Y,e2,hcase⟩:=NM hr d;rw[<-Y]at K;have fin:∀ {n1:Nat} {q:AM} {F1:Fz} {D:Ey} {v:Fr} {h1:H} {rs2:Rs} {cs2:List Rc},n1<=n->Dx B h0 F ρ st.nx h q v h1 F1 D->Yl X.C F1 D q.nx h1 rs2 cs2->Ev X Q n1 (Kv X.C.T X.sp call ops anc is q rs2 k)->
     (∃M,∀m,M<=m->∃x,Iz X.C (Bp X.C m) ops anc i ⟨fr,h,cs⟩=some (x,⟨v,h1,cs2⟩))->
     ∃n',n'<=n/\∃p,Ev X Q n' (k p)/\∃F' ρ' fr' h',Dx B h0 F ρ st.nx h p fr' h' F' ρ'/\∃M,∀m,M<=m->∃cs',Wc X.C (Bp X.C m) ops anc (i::is) ⟨fr,h,cs⟩=some ⟨fr',h',cs'⟩:=by
    rintro n1 q F1 D v h1 rs2 cs2 A U u s ⟨M1,hM1⟩;obtain⟨n2,hn2,st3,he3,F2,ρ2,fr2,h2,hw2,M2,hM2⟩:=Pu z U.rel u s;refine⟨n2,zi hn2 A,st3,he3,F2,ρ2,fr2,h2,U.trans hw2,max M1 M2,fun m hm=>?_⟩;obtain⟨x,hx⟩:=hM1 m ae;obtain⟨cs',hcs'⟩:=hM2 m ae;exact⟨cs',by unfold Wc;rw[hx];exact hcs'⟩
   rcases hcase with⟨U,d⟩|⟨U,d⟩
   ·cases G:EE o with
    |true=>
     rw[G]at d;simp only[we]at d;obtain⟨n1,A,q,s,F1,D,x,v,r,j,c,hto⟩:=Abq z E G d;rw[Y]at c;have u:Yl X.C F1 D q.nx h Z cs:=K.mono (by rw[Y];exact c.le) (zd _)<|fun _ _=>rfl;cases V:Ps o with
     |false=>
      rw[V]at s;refine fin (cs2:=cs) A c u s ⟨0,fun m _=>⟨x,?_⟩⟩;unfold Iz;simp only[ho,U,we,G,r,j,V,wg]
     |true=>
      rw[V]at s;refine fin (cs2:=⟨i,o,fr,x⟩::cs) (rs2:=(i,uW p o.op)::Z) A c ⟨_,_,rfl,⟨rfl,fun l hl=>?_⟩,u⟩ s ⟨0,fun m _=>⟨x,?_⟩⟩
      ·obtain⟨bl,O,I⟩:=bU E r hl hto;refine⟨bl,fun g hg hb=>O g (fun b cs hF=>hg b cs<|c.le.fz b cs hF) hb,fun b hb=>?_⟩;obtain⟨j1,id,j2,j3,j4⟩:=I b hb;rw[Y]at j3;exact⟨j1,id,j2,zh j3 c.le.n,fun y hy=>j4 y<|c.le.at j3 hy⟩
      ·unfold Iz;simp only[ho,U,we,G,r,j,V]
    |false=>
     rw[G]at d;simp only[wg]at d;cases w:CH o with
     |true=>
      rw[w]at d;simp only[we]at d;obtain⟨l,S,W,R⟩:=HP z E d;obtain⟨⟨⟨x,h1⟩,rfl⟩,hna⟩:=W.1 rfl;obtain⟨n1,A,q,s,F1,D,v,j,c,_⟩:=R _<|zc.2 rfl;rw[Y]at c;simp only at j c;have hv:∃ob f,fI X.C fr o=some (ob,f)/\x=f h.nx/\h1=h.push ob:=by
       cases S with
       |val r=>obtain⟨ob,f,O,I⟩:=PD w r;cases I;exact⟨ob,f,O,rfl,rfl⟩
       |skip r=>obtain⟨ob,f,O,I⟩:=PD w r;cases I
       |call r _=>obtain⟨ob,f,O,I⟩:=PD w r;cases I
       |round r _=>obtain⟨ob,f,O,I⟩:=PD w r;cases I
       |alts r=>obtain⟨ob,f,O,I⟩:=PD w r;cases I
      obtain⟨ob1,f,O,rfl,rfl⟩:=hv;have u:Yl X.C F1 D q.nx (h.push ob1) Z cs:=K.mono (by rw[Y];exact c.le) (by simp) (fun b hb=>by simp[Nat.ne_of_lt hb]);refine fin (cs2:=cs) A c u s ⟨0,fun m _=>⟨f h.nx,?_⟩⟩;unfold Iz;simp only[ho,U,we,G,wg,w,O,j]
     |false=>
      rw[w]at d;simp only[wg]at d;cases J:(zw anc i p (Hq X.sp p o.op) Z&&mJ p o.op)with
      |false=>rw[J]at d;exact wh d zg
      |true=>
       rw[J]at d;simp only[we]at d;simp only[ze]at J;obtain⟨P,hnr⟩:=J;obtain⟨l,S,W,R⟩:=HP z E d;obtain⟨⟨⟨x,h1⟩,rfl⟩,hna⟩:=W.1 rfl;obtain⟨n1,A,q,s,F1,D,v,j,c,htch⟩:=R _<|zc.2 rfl;simp only at j c htch;obtain⟨O,I⟩:=Yl.apart E c htch K P;rw[Y]at c;refine fin A c I s ?_;have hh:∃M,∀m,M<=m->DU X.C (Bp X.C m) fr h o=some (x,h1):=by
        cases S with
        |val r=>exact⟨0,fun m _=>by unfold DU;rw[r]⟩
        |skip r=>exact⟨0,fun m _=>by unfold DU;rw[r]⟩
        |alts r=>exact wh r<|hna _
        |round r _=>exact wh r (W.2 (fun id a e=>by unfold mJ at hnr;rw[e]at hnr;cases hnr) _ _ _)
        |@call g args _ M r hM=>exact⟨M,fun m hm=>by unfold DU;rw[r];simp only[hM m hm]⟩
       obtain⟨M,hM⟩:=hh;refine⟨M,fun m hm=>⟨x,?_⟩⟩;unfold Iz;simp only[ho,U,we,G,wg,w,hM m hm,j,O]
   ·cases hv:CY o with
    |false=>
     rw[hv]at d;simp only[wg]at d;unfold Ni at d;split at d
     case h_2=>exact wh d zg
     rename_i q j;obtain⟨v,g1,g2,g3,g4⟩:=E.put (x:=.tup []) (by simp[PR]) j;refine fin (cs2:=cs) (zd _) ⟨g2,by rw[g3,Y];exact zt,zd _⟩ (by rw[g3];exact K) d ⟨0,fun m _=>⟨.tup [],?_⟩⟩;unfold Iz;simp only[ho,U,wg,g1,hv]
    |true=>
     rw[hv]at d;simp only[we]at d;cases P:zw anc i p (some []) Z with
     |false=>rw[P]at d;exact wh d zg
     |true=>
      rw[P]at d;simp only[we]at d;unfold Ni at d;split at d
      case h_2=>exact wh d zg
      rename_i q j;obtain⟨v,g1,g2,g3,g4⟩:=E.put (x:=.tup []) (by simp[PR]) j;have c:Dx B h0 F ρ p.nx h q v h F ρ:=⟨g2,by rw[g3];exact zt,zd _⟩;obtain⟨O,I⟩:=Yl.apart (t:=some []) E c (fun ids _ b _=>.inl rfl) K P;rw[Y]at c;refine fin (zd _) c I d ⟨0,fun m _=>⟨.tup [],?_⟩⟩;unfold Iz;simp only[ho,U,wg,g1,hv,we,O]
theorem cK{call:Gz}(c:FJ B h0 X false call){ops:Array Oper}{k:AM->Tr}(hr:Rel B h0 F ρ st fr h)(g:Ev X Q n (Kv X.C.T X.sp call ops (EZ ops).a (EZ ops).ord st [] k)):
  ∃n',n'<=n/\∃b,Ev X Q n' (k b)/\∃F' ρ' fr' h',Dx B h0 F ρ st.nx h b fr' h' F' ρ'/\∃M,∀m,M<=m->Jz X.C (Bp X.C m) ops fr h=some (fr',h'):=by
 obtain⟨n',j,b,d,F',ρ',fr',h',i,M,l⟩:=Pu (cs:=[]) c hr (by rfl) g;refine⟨n',j,b,d,F',ρ',fr',h',i,M,fun m e=>?_⟩;obtain⟨cs',hcs'⟩:=l m e;unfold Jz;rw[hcs']
end
section
variable {B:Nat}{h0:H0}{F:Fz}{ρ ρ':Ey}{N N':Nat}{f:Nat->Option Nat}
mutual
theorem Qw(e:∀i j,i<N->f i=some j->j<N'/\ρ' j=ρ i):∀ {p:PV} {v:V},PR F ρ N p v->PR F ρ' N' (GG f p) v
 | .any,_,_=>by simp[GG,PR]
 | .bl _,_,h=>by simpa only[GG,PR]using h
 | .ub,_,h=>by simpa only[GG,PR]using h
 | .dat _ _,_,h=>by simpa only[GG,PR]using h
 | .nil,_,h| .nilp,_,h| .nilm,_,h| .nilf,_,h| .nili,_,h=>by simpa only[GG,PR]using h
 | .Bc _ _ _,_,h=>by simpa only[GG,PR]using h
 | .agg l,_,h=>by simp only[GG,PR]at h ⊢;obtain⟨cs,rfl,c⟩:=h;exact⟨cs,rfl,E8 e c⟩
 | .tup l,_,h=>by simp only[GG,PR]at h ⊢;obtain⟨cs,rfl,c⟩:=h;exact⟨cs,rfl,E8 e c⟩
 | .fn g a b,_,h=>by simp only[GG,PR]at h ⊢;obtain⟨x,y,rfl,c,d⟩:=h;exact⟨x,y,rfl,E8 e c,E8 e d⟩
 | .ptr i o,_,h=>by
  simp only[GG];cases k:f i with
  |none=>simp[PR]
  |some j=>
   simp only[PR]at h ⊢;obtain⟨c,d⟩:=e i j h.1 k;exact⟨c,fun b n m=>h.2 b n<|by rw[<-d];exact m⟩
 | .eptr i _ _ _,_,h=>by
  simp only[GG];cases k:f i with
  |none=>simp[PR]
  |some j=>
   simp only[PR]at h ⊢;obtain⟨c,d⟩:=e i j h.1 k;exact⟨c,fun b n m=>h.2 b n<|by rw[<-d];exact m⟩
 | .sl i _ _ _ _,_,h=>by
  simp only[GG];cases k:f i with
  |none=>simp[PR]
  |some j=>
   simp only[PR]at h ⊢;obtain⟨c,d⟩:=e i j h.1 k;exact⟨c,fun b n m=>h.2 b n<|by rw[<-d];exact m⟩
 | .yl i,_,h=>by
  simp only[GG];cases k:f i with
  |none=>simp[PR]
  |some j=>
   simp only[PR]at h ⊢;obtain⟨c,d⟩:=e i j h.1 k;exact⟨c,fun b n m=>h.2 b n<|by rw[<-d];exact m⟩
 | .mp i,_,h=>by
  simp only[GG];cases k:f i with
  |none=>simp[PR]
  |some j=>
   simp only[PR]at h ⊢;obtain⟨c,d⟩:=e i j h.1 k;exact⟨c,fun b n m=>h.2 b n<|by rw[<-d];exact m⟩
theorem E8(a:∀i j,i<N->f i=some j->j<N'/\ρ' j=ρ i):∀ {ps:List PV} {vs:List V},Bi F ρ N ps vs->Bi F ρ' N' (Kq f ps) vs
 |[],_,h=>by simpa [Kq]using h
 |p::ps,_,h=>by
  simp only[Bi]at h;obtain⟨v,vs,rfl,c,b⟩:=h;simp only[Kq,A6];exact⟨Qw a c,E8 a b⟩
end
theorem Sn(f:PV->PV):∀(sl:List (Nat×PV)) (m a:PM PV),(∀t,a.get t=(m.get t).map f)->∀t,((sl.map fun x=>(x.1,f x.2)).foldl (fun m x=>m.set x.1<|some x.2) a).get t=((sl.foldl (fun m x=>m.set x.1<|some x.2) m).get t).map f
 |[],_,_,h,t=>h t
 |x::sl,m,a,h,t=>by
  simp only[yb,List.foldl_cons];refine Sn f sl _ _ (fun t=>?_) t;rw[PM.Dq,PM.Dq];split
  ·rfl
  ·exact h t
theorem Xc(f:PV->PV)(a:f .any=.any)(sl:List (Nat×PV))(t:Nat):UL (sl.map fun x=>(x.1,f x.2)) t=f (UL sl t):=by
 unfold UL FZ;rw[Sn f sl .leaf .leaf (fun t=>by rw[PM.DB];rfl) t];cases (sl.foldl (fun m x=>m.set x.1<|some x.2) PM.leaf).get t with
 |none=>exact a.symm
 |some x=>rfl
theorem lD(d:∀i j,i<N->f i=some j->j<N'/\ρ' j=ρ i){n:Nat}{o:Obj}{x:O}(h:aT F ρ N n o x):aT F ρ' N' n (S3 f o) x:=by
 cases o with
 |arr fz e s l=>exact h
 |box ps=>obtain⟨cs,t,fz,b,a,c⟩:=h;exact⟨cs,t,fz,b,E8 d a,c⟩
 |tbox t ps=>obtain⟨cs,fz,b,a,c⟩:=h;exact⟨cs,fz,b,E8 d a,c⟩
 |lp g r ps asg body s n sl=>
  obtain⟨ls,b,a,c,k,u,m,q⟩:=h;refine⟨ls,b,a,c,k,u,m,fun t=>?_⟩;rw[Xc (GG f)<|by simp[GG]];exact Qw d<|q t
 |map ks vs l=>exact h
 |siter s p=>exact h
theorem VN(o:Obj):(S3 f o).frozen=o.frozen:=by cases o<;>rfl
theorem JK{st:AM}{base:Nat}:∀(n:Nat) (g acc:List Nat),(∀i∈acc,base<=i/\(st.obj i).isSome=true)->acc.Nodup->(∀i∈IP st base n g acc,base<=i/\(st.obj i).isSome=true)/\(IP st base n g acc).Nodup
 |0,_,acc,d,c=>⟨d,c⟩
 |n+1,[],acc,d,c=>⟨d,c⟩
 |n+1,i::g,acc,d,c=>by
  unfold IP;cases p:(z6 i base||acc.any (zj i))with
  |true=>simp only[we];exact JK n g acc d c
  |false=>
   simp only[wg];cases q:st.obj i with
   |none=>simp only;exact JK n g acc d c
   |some o=>
    simp only;simp only[Bool.or_eq_false_iff]at p;have s:base<=i:=by
     rcases Nat.lt_or_ge i base with h|h
     ·have:=p.1;rw[D2 h]at this;cases this
     ·exact h
    have m:i∉acc:=by
     intro t;have:acc.any (zj i)=true:=zz.2 ⟨i,t,yd i⟩;rw[p.2]at this;cases this
    refine JK n _ _ (fun j k=>?_) ?_
    ·rcases zp.1 k with k|k
     ·exact d j k
     ·cases zc.1 k;exact⟨s,by rw[q];rfl⟩
    ·rw[List.nodup_append];exact⟨c,by simp,fun a r b l=>by cases zc.1 l;exact fun e=>m<|e▸r⟩
theorem O3{base:Nat}:∀(b:List Nat) (n i j:Nat),b.Nodup->QY base b n i=some j->(∃k,b[k]?=some i/\j=n+k)\/(i∉b/\i<base/\j=i)
 |[],n,i,j,_,h=>by
  unfold QY at h;cases l:z6 i base with
  |false=>rw[l]at h;cases h
  |true=>rw[l]at h;cases h;exact .inr ⟨by simp,zq l,rfl⟩
 |a::b,n,i,j,m,h=>by
  unfold QY at h;rw[Bw]at h;by_cases e:i=a
  ·subst e;simp only[decide_true,we,zm]at h;exact .inl ⟨0,rfl,by omega⟩
  ·simp only[e,decide_false,wg]at h;have g:=List.nodup_cons.1 m;rcases O3 b (zx n 1) i j g.2 h with⟨k,d,c⟩|⟨d,c,o⟩
   ·exact .inl ⟨k+1,by simpa using d,by rw[c];show n+1+k=_;omega⟩
   ·exact .inr ⟨by simp[e,d],c,o⟩
theorem YR(f:Nat->Option Nat)(base:Nat):∀(l:Ob) (j:Nat),AR (low f base l) j=if j<base then(AR l j).map (S3 f)else none
 |[],j=>by simp[low,AR]
 |(i,o)::l,j=>by
  simp only[low];have b:=YR f base l j;by_cases a:i<base
  ·rw[D2 a];simp only[we,AR,Bw];by_cases e:i=j
   ·subst e;simp[a]
   ·simp only[e,decide_false,wg];exact b
  ·have:z6 i base=false:=by
    cases c:z6 i base with
    |false=>rfl
    |true=>exact wh (zq c) a
   rw[this];simp only[wg,AR,Bw];rw[b];by_cases e:i=j
   ·subst e;simp[a]
   ·simp[e]
theorem WG{st:AM}(f:Nat->Option Nat):∀(a:List Nat) (n:Nat) (b:Ob) (j:Nat),(∀i∈a,(st.obj i).isSome=true)->AR (kept st f a n b) j=(if n<=j/\j<n+a.length then(a[j-n]?).bind fun i=>(st.obj i).map (S3 f)else AR b j)
 |[],n,b,j,_=>by simp only[kept,List.length_nil];rw[wc ae]
 |i::a,n,b,j,h=>by
  obtain⟨o,d⟩:=zy.1 (h i<|by simp);unfold kept;rw[d];simp only;rw[WG f a (zx n 1) _ j<|fun k l=>h k<|by simp[l]];have g:zx n 1=n+1:=rfl;rw[g];by_cases c:n+1<=j/\j<n+1+a.length
  ·rw[wd c,wd<|by simp;omega];have:j-n=(j-(n+1))+1:=ae
   rw[this];simp
  ·rw[wc c];simp only[AR,Bw];by_cases e:n=j
   ·subst e;rw[wd<|by simp];simp[d]
   ·rw[wc<|by simp;omega];simp[e]
theorem I6:∀(vs:List (Nat×PV)) (m:PM PV) (t:Nat) (p:PV),(vs.foldl (fun m x=>m.set x.1<|some x.2) m).get t=some p->(t,p)∈vs\/m.get t=some p
 |[],m,t,p,h=>.inr h
 |x::vs,m,t,p,h=>by
  rcases I6 vs _ t p h with a|a
  ·exact .inl<|List.mem_cons_of_mem _ a
  ·rw[PM.Dq]at a;split at a
   ·rename_i e;cases a;exact .inl (by rw[e];exact List.mem_cons_self)
   ·exact .inr a
theorem cZ{st:AM}{fr:Fr}{h:H}(hr:Rel B h0 F ρ st fr h)(base:Nat)(L:List Nat)(_hb:base<=st.nx):
  ∃ρ',Rel B h0 F ρ' (canon base L st) fr h/\base<=(canon base L st).nx/\∀id,id<base->ρ' id=ρ id:=by
 generalize A:IP st base 100 (Kn ((L.map fun t=>(t,st.get t)).map (·.2))++Qx base st.ob) []=ids;have C:=JK (st:=st) (base:=base) 100 (Kn ((L.map fun t=>(t,st.get t)).map (·.2))++Qx base st.ob) [] (fun i G=>by cases G) zk;rw[A]at C;obtain⟨D,I⟩:=C;let g:=QY base ids base
 let q:Ey:=fun id=>if id<base then ρ id else(ids[id-base]?).bind ρ
 have z:∀id,id<base->q id=ρ id:=fun id h=>by show(if id<base then ρ id else _)=_;rw[wd h]
 have y:∀k i,ids[k]?=some i->q (base+k)=ρ i:=by
  intro k i r;show(if base+k<base then ρ (base+k)else(ids[base+k-base]?).bind ρ)=ρ i;rw[wc ae,Nat.add_sub_cancel_left,r];rfl
 have J:canon base L st=Aw st.n ((L.map fun t=>(t,st.get t)).map fun x=>(x.1,GG g x.2)) (kept st g ids base<|low g base st.ob) (base+ids.length):=by
  rw[show g=QY base ids base from rfl, <-A];rfl
 have V:∀i j,i<st.nx->g i=some j->j<base+ids.length/\q j=ρ i:=by
  intro i j _ R;rcases O3 ids base i j I R with⟨k,d,rfl⟩|⟨_,w,rfl⟩
  ·have:=(zf.1 d).1;exact⟨by omega,y k i d⟩
  ·exact⟨by omega,z _ w⟩
 have E:∀j,AR (kept st g ids base<|low g base st.ob) j=if j<base then(AR st.ob j).map (S3 g)else(ids[j-base]?).bind fun i=>(st.obj i).map (S3 g):=by
  intro j;rw[WG g ids base _ j<|fun i G=>(D i G).2,YR];by_cases d:j<base
  ·rw[wc ae,wd d,wd d]
  ·by_cases w:j<base+ids.length
   ·rw[wd ae,wc d]
   ·rw[wc ae,wc d,wc d,List.getElem?_eq_none ae];rfl
 have src:∀j o',AR (kept st g ids base<|low g base st.ob) j=some o'->∃i o,AR st.ob i=some o/\o'=S3 g o/\q j=ρ i/\j<base+ids.length/\((j<base/\i=j)\/(base<=j/\ids[j-base]?=some i/\base<=i)):=by
  intro j o' v;rw[E]at v;by_cases d:j<base
  ·rw[wd d,z7]at v;obtain⟨o,w,rfl⟩:=v;exact⟨j,o,w,rfl,z j d,by omega,.inl ⟨d,rfl⟩⟩
  ·rw[wc d]at v;cases r:ids[j-base]? with
   |none=>rw[r]at v;cases v
   |some i=>
    rw[r]at v;simp only[Option.bind_some,z7]at v;obtain⟨o,w,rfl⟩:=v;have Z:=(zf.1 r).1;have:=y (j-base) i r;rw[show base+(j-base)=j from by omega]at this;exact⟨i,o,w,rfl,this,by omega,.inr ⟨by omega,by first|exact r|rfl,(D i<|List.mem_of_getElem? r).1⟩⟩
 refine⟨q,?_,by rw[J];show base<=base+ids.length;omega,z⟩;rw[J];refine⟨⟨hr.fp.n,fun t=>?_⟩,⟨fun j o' v=>?_,fun i j oi oj c m m' G v d w=>?_,hr.sr.frz,fun id b m l=>?_,fun j v=>?_,hr.sr.old,hr.sr.lt,hr.sr.le,hr.sr.fo,hr.sr.gl,fun c J=>?_⟩⟩
 ·generalize O:((L.map fun t=>(t,st.get t)).map fun x=>(x.1,GG g x.2))=vs;show PR F q (base+ids.length) (((FZ vs).get t).getD .any)<|fr.get t;cases hp:(FZ vs).get t with
  |none=>show PR F q (base+ids.length) PV.any<|fr.get t;simp[PR]
  |some p=>
   show PR F q (base+ids.length) p<|fr.get t;rcases I6 vs .leaf t p hp with d|d
   ·rw[<-O]at d;simp only[List.map_map,ye,Function.comp]at d;obtain⟨s,_,w⟩:=d;cases w;exact Qw V<|hr.fp.slot _
   ·simp at d
 ·obtain⟨i,o,d,rfl,w,h3,_⟩:=src j o' v;obtain⟨b,m,x,k1,k2,k3,k4⟩:=hr.sr.obj i o d;exact⟨b,m,x,w.trans k1,k2,lD V k3,by rw[VN];exact k4⟩
 ·obtain⟨a,o,U,_,M,_,K⟩:=src i oi G;obtain⟨a',o',g4,_,g5,_,g6⟩:=src j oj v;rw[M]at d;rw[g5]at w;have S:=hr.sr.inj a a' o o' c m m' U g4 d w;subst S;rcases K with⟨W,P⟩|⟨W,P,e3⟩<;>rcases g6 with⟨Y,T⟩|⟨Y,T,f3⟩
  ·omega
  ·omega
  ·omega
  ·have i1:=zf.1 P;have i2:=zf.1 T;have:=(List.getElem?_inj i1.1 I).1<|P.trans T.symm;omega
 ·have l:(if id<base then ρ id else(ids[id-base]?).bind ρ)=some (b,m):=l;by_cases d:id<base
  ·rw[wd d]at l;exact⟨by show id<base+ids.length;omega,(hr.sr.own id b m l).2⟩
  ·rw[wc d]at l;cases r:ids[id-base]? with
   |none=>rw[r]at l;cases l
   |some i=>
    rw[r]at l;have:=(zf.1 r).1;exact⟨by show id<base+ids.length;omega,(hr.sr.own i b m l).2⟩
 ·have u:AR (kept st g ids base<|low g base st.ob) j=none:=v;rw[E]at u;show(if j<base then ρ j else(ids[j-base]?).bind ρ)=none;by_cases d:j<base
  ·rw[wd d]at u ⊢;exact hr.sr.dead j (by simpa using u)
  ·rw[wc d]at u ⊢;cases r:ids[j-base]? with
   |none=>rfl
   |some i=>
    rw[r]at u;simp only[Option.bind_some,Option.map_eq_none_iff]at u ⊢;exact hr.sr.dead i u
 ·obtain⟨U,M,K⟩:=hr.sr.pn c J;refine⟨U,M,fun id m e=>?_⟩;have e:(if id<base then ρ id else(ids[id-base]?).bind ρ)=some (c,m):=e;by_cases d:id<base
  ·rw[wd d]at e;exact K id m e
  ·rw[wc d]at e;cases r:ids[id-base]? with
   |none=>rw[r]at e;cases e
   |some i=>rw[r]at e;exact K i m e
end
section
variable {B:Nat}{h0:H0}{X:AT}{F:Fz}{ρ:Ey}{N:Nat}{h:H}
theorem SA(h0:H0)(a b:List Nat):(h0.pins a).pins b=h0.pins (b++a):=by unfold H0.pins;simp
theorem SR.mD{ob:Ob}{ps:List Nat}(hr:SR B (h0.pins ps) F ρ N ob h):SR B h0 F ρ N ob h:=
 ⟨hr.obj,hr.inj,hr.frz,hr.own,hr.dead,hr.old,hr.lt,hr.le,hr.fo,hr.gl,fun b a=>hr.pn b<|List.mem_append_right _ a⟩
theorem SR.mark{ob:Ob}(hr:SR B h0 F ρ N ob h):SR B (h0.pins [h.nx]) F ρ N ob (h.push<|.defd true):=by
 have g:∀b y,h.get b=some y->b≠h.nx:=fun b y l=>by have:=hr.lt b y l;omega
 have d:∀b y,h.get b=some y->(h.push<|.defd true).get b=some y:=fun b y l=>by rw[H.BV,wc<|g b y l];exact l
 refine⟨fun j oj C=>?_,hr.inj,fun c cs a=>?_,hr.own,hr.dead,fun c a u=>?_,fun c x a=>?_,?_,hr.fo,hr.gl,fun c a=>?_⟩
 ·obtain⟨c,m,y,r,q,A⟩:=hr.obj j oj C;exact⟨c,m,y,r,d c y q,A⟩
 ·obtain⟨t,fz,s⟩:=hr.frz c cs a;exact⟨t,fz,d _ _ s⟩
 ·have:=hr.le;rw[H.BV,wc ae];exact hr.old c a u
 ·rw[H.BV]at a;by_cases e:c=h.nx
  ·subst e;exact Nat.lt_succ_self _
  ·rw[wc e]at a;have:=hr.lt c x a;show c<h.nx+1;omega
 ·have:=hr.le;show B<=h.nx+1;omega
 ·rcases zp.1 a with a|a
  ·cases zc.1 a;refine⟨by rw[H.BV,wd rfl],hr.le,fun id n e=>?_⟩;by_cases i:∃o,AR ob id=some o
   ·obtain⟨o,z⟩:=i;obtain⟨c,m,y,k,p,_⟩:=hr.obj id o z;rw[e]at k;cases k;exact g _ _ p rfl
   ·have:AR ob id=none:=by
     cases v:AR ob id with
     |none=>rfl
     |some o=>exact wh ⟨o,v⟩ i
    rw[hr.dead id this]at e;cases e
  ·obtain⟨k,p,w⟩:=hr.pn c a;exact⟨d _ _ k,p,w⟩
theorem SR.vJ{ob:Ob}(hr:SR B h0 F ρ N ob h){b:Nat}{x y:O}(s:∀id o n,AR ob id=some o->ρ id≠some (b,n))(q:F b=none)(v:h0.bE B b)(t:b∉h0.pin)(r:h.get b=some x):SR B h0 F ρ N ob (h.put b y):=by
 refine⟨fun j oj p=>?_,hr.inj,fun c cs a=>?_,hr.own,hr.dead,fun c a l=>?_,fun c u a=>?_,hr.le,hr.fo,hr.gl,fun c a=>?_⟩
 ·obtain⟨c,m,y,d,g,k⟩:=hr.obj j oj p;have:c≠b:=fun e=>s j oj m p<|e▸d
  exact⟨c,m,y,d,by rw[H.Bt,wc this];exact g,k⟩
 ·have:c≠b:=fun e=>by rw[e,q]at a;cases a
  rw[H.Bt,wc this];exact hr.frz c cs a
 ·have:c≠b:=OG v a l;rw[H.Bt,wc this];exact hr.old c a l
 ·rw[H.Bt]at a;split at a
  ·rename_i e;subst e;exact hr.lt _ _ r
  ·exact hr.lt c u a
 ·obtain⟨d,g,k⟩:=hr.pn c a;have i:c≠b:=fun e=>t<|e▸a
  exact⟨by rw[H.Bt,wc i];exact d,g,k⟩
theorem SR.leave{ob:Ob}:∀ {ps:List Nat} {h:H},ps.Nodup->(∀b∈ps,b∉h0.pin)->SR B (h0.pins ps) F ρ N ob h->∃a,Gm ps h=some a/\SR B h0 F ρ N ob a/\a.nx=h.nx/\∀b,b∉ps->a.get b=h.get b
 |[],h,_,_,hr=>⟨h,rfl,hr,rfl,fun _ _=>rfl⟩
 |p::ps,h,e,i,hr=>by
  obtain⟨d,l,s⟩:=hr.pn p (by simp[H0.pins]);rw[List.nodup_cons]at e;have g:SR B ((h0.pins ps).pins [p]) F ρ N ob h:=by rw[SA];exact hr
  have hp:SR B (h0.pins ps) F ρ N ob (h.put p<|.defd false):=by
   refine SR.vJ g.mD (fun id o n _=>s id n) ?_ (.inl l) ?_ d
   ·cases u:F p with
    |none=>rfl
    |some cs=>obtain⟨t,fz,k⟩:=hr.frz p cs u;rw[d]at k;cases k
   ·intro h;rcases zp.1 h with h|h
    ·exact e.1 h
    ·exact i p (by simp) h
  obtain⟨a,j,m,q,r⟩:=SR.leave e.2 (fun b c=>i b<|by simp[c]) hp;refine⟨a,?_,m,q,fun b c=>?_⟩
  ·show(match h.get p with|some (.defd true)=>Gm ps (h.put p<|.defd false)|_=>none)=_;rw[d];exact j
  ·simp only[yc,not_or]at c;rw[r b c.2,H.Bt,wc c.1]
theorem gQ{st:AM}{fr:Fr}(hr:Rel B h0 F ρ st fr h)(base:Nat)(x:Nat×Sh):∃F1 G,Rel B h0 F1 G (rC base x st) fr h/\(rC base x st).nx=st.nx/\(∀id,id<base->G id=ρ id)/\∀b cs,F b=some cs->F1 b=some cs:=by
 have g:=hr.fp.slot x.1;unfold rC;split
 case h_1=>
  rename_i u;rw[u]at g;simp only[PR]at g;exact⟨F,ρ,hr.note (by rw[g];simp[PR,DC]),rfl,fun _ _=>rfl,fun _ _ h=>h⟩
 case h_4=>exact⟨F,ρ,hr,rfl,fun _ _=>rfl,fun _ _ h=>h⟩
 case h_3=>
  rename_i id u;cases W:Nat.ble base id with
  |false=>exact⟨F,ρ,hr,rfl,fun _ _=>rfl,fun _ _ h=>h⟩
  |true=>
  simp only[we];have W:=zq W;split
  case h_2=>exact⟨F,ρ,hr,rfl,fun _ _=>rfl,fun _ _ h=>h⟩
  rename_i ps r;split
  case h_2=>exact⟨F,ρ,hr,rfl,fun _ _=>rfl,fun _ _ h=>h⟩
  rename_i v hv;rw[u]at g;obtain⟨b,n,y,w,h2,h3,h7,-⟩:=hr.sr.at r;obtain⟨cs,t,fz,rfl,h4,h5⟩:=h3;have S:F b=none:=h7 rfl;have a:∀c cs',F c=some cs'->(fun c=>if c=b then some cs else F c) c=some cs':=by
   intro c cs' i;have:c≠b:=fun e=>by rw[e,S]at i;cases i
   simp[this,i]
  have C:=(C9 h4 hv);have V:=C.len;have p:Le F ρ st.nx (fun c=>if c=b then some cs else F c) (B0 ρ id none) st.nx:=(Le.dV a).trans<|Le.Om id;have D:Le F (B0 ρ id none) st.nx (fun c=>if c=b then some cs else F c) (B0 ρ id none) st.nx:=Le.dV a;have d:=hr.sr.del id;have I:∀j m,B0 ρ id none j=some (b,m)->∀oj,AR (GJ st.ob id) j=some oj->False:=by
   intro j m k oj o;rw[Et]at o;split at o
   ·cases o
   ·rename_i U;simp only[B0,U,vg]at k;exact U<|hr.sr.inj j id oj _ b m n o r k w
  have T:SR B h0 (fun c=>if c=b then some cs else F c) (B0 ρ id none) st.nx (GJ st.ob id) h:=by
   refine⟨fun j oj o=>?_,d.inj,fun c cs' i=>?_,d.own,d.dead,d.old,d.lt,d.le,fun c cs' i=>?_,d.gl,d.pn⟩
   ·obtain⟨c,m,z,k,K,M,Y,g5⟩:=d.obj j oj o;have A:c≠b:=fun E=>I j m (E▸k) oj o
    exact⟨c,m,z,k,K,M.mono D,fun e=>by simp[A,Y e],fun e=>by obtain⟨a1,a2,a3,a4,a5⟩:=g5 e;exact⟨a1,a2,a3,a4,by simp[A,a5]⟩⟩
   ·split at i
    ·rename_i E;cases i;subst E;exact⟨_,_,h2⟩
    ·exact d.frz c cs' i
   ·split at i
    ·rename_i E;subst E;exact .inr (hr.sr.own id c n w).2
    ·exact d.fo c cs' i
  have q:Rel B h0 (fun c=>if c=b then some cs else F c) (B0 ρ id none) (st.QW id) fr h:=⟨⟨hr.fp.n,fun t=>(hr.fp.slot t).mono p⟩,T⟩;refine⟨_,_,q.note ?_,rfl,fun j o=>by unfold B0;rw[wc ae],a⟩;simp only[PR]at g ⊢;have L:=g.2 b n w;exact⟨b,0,cs,by rw[L],by simp,by omega,by rw[List.drop_zero,List.take_of_length_le ae];exact C.mono a⟩
 rename_i id sz off len cap u;split
 case h_2=>exact⟨F,ρ,hr,rfl,fun _ _=>rfl,fun _ _ h=>h⟩
 rename_i fz e s l r;cases Z:zj sz s.sz with
 |false=>exact⟨F,ρ,hr,rfl,fun _ _=>rfl,fun _ _ h=>h⟩
 |true=>
 simp only[we];rw[u]at g;obtain⟨F1,k,K,M⟩:=NO hr.sr g;have P:BK st (.sl id sz off len cap)=st.setObj id (.arr true e s l):=by simp[BK,r]
 rw[P]at k;have p:Le F ρ st.nx F1 ρ st.nx:=⟨K,fun _ _=>.inl rfl,zd _⟩;have J:off+len<=l.length:=by
  obtain⟨b,n,y,w,_,⟨_,_,_,_,_,h6⟩,-⟩:=hr.sr.at r;simp only[PR]at g;rcases g.2 b n w with⟨a1,a2,_⟩|⟨a1,_,a3,_⟩
  ·omega
  ·omega
 have O:B3 st (.sl id sz off len cap)=some (true,.dat (.list s)<|(l.drop off).take len):=by
  simp only[B3,r,Z,we,w4 J]
 have R:=M _ O;have q:Rel B h0 F1 ρ (st.setObj id<|.arr true e s l) fr h:=⟨⟨hr.fp.n,fun t=>(hr.fp.slot t).mono p⟩,k⟩;exact⟨F1,ρ,q.note<|R ρ _,rfl,fun _ _=>rfl,K⟩
theorem Vo{fr:Fr}(base:Nat):∀(l:List (Nat×Sh)) {st:AM} {F:Fz} {ρ:Ey},Rel B h0 F ρ st fr h->∃F1 a,Rel B h0 F1 a (rQ base l st) fr h/\(rQ base l st).nx=st.nx/\(∀id,id<base->a id=ρ id)/\∀b cs,F b=some cs->F1 b=some cs
 |[],st,F,ρ,hr=>⟨F,ρ,hr,rfl,fun _ _=>rfl,fun _ _ h=>h⟩
 |x::l,st,F,ρ,hr=>by
  obtain⟨F1,a,g,e,d,j⟩:=gQ hr base x;obtain⟨F2,ρ2,h4,h5,h0'',h6⟩:=Vo base l g;exact⟨F2,ρ2,h4,h5.trans e,fun id c=>(h0'' id c).trans<|d id c,fun b cs i=>h6 b cs<|j b cs i⟩
theorem O7{st:AM}{fr:Fr}{base:Nat}(hr:Rel B h0 F ρ st fr h)(f:FuncId)(r:Nat)(i:base<=st.nx):
  ∃F1 ρ',Rel B h0 F1 ρ' (Rd X f r base st) fr h/\base<=(Rd X f r base st).nx/\(∀id,id<base->ρ' id=ρ id)/\∀b cs,F b=some cs->F1 b=some cs:=by
 obtain⟨F1,g,e,d,c,j⟩:=Vo base (X.fz f r) hr;obtain⟨ρ',g1,g2,g3⟩:=cZ e base (X.pl f r) (by rw[d];exact i);exact⟨F1,ρ',g1,g2,fun id a=>(g3 id a).trans<|c id a,j⟩
def G8(B:Nat)(h0:H0)(X:AT)(base n:Nat)(Q:PV->Ob->Prop)(k:DX->AM->Tr)(F:Fz)(ρ:Ey)(h:H)(nd:Bool)(run:Nat->Nat->Option (List Det.X))(ds:List Nat):Prop:=
 ∃l M,(∀m,M<=m->∀q,M<=q->run m q=some l)/\(nd=false->∃x,l=[x])/\∀x∈l,∃ps,(x.ds=ps++ds/\ps.Nodup/\∀b∈ps,h.nx<=b)/\∃n',n'<=n/\∃a,Ev X Q n' (k x.e a)/\∃F' ρ',Rel B (h0.pins ps) F' ρ' a x.fr x.h/\base<=a.nx/\Le F ρ base F' ρ' base/\h.nx<=x.h.nx
theorem Le.low{F F':Fz}{ρ ρ':Ey}{N N' base:Nat}(a:Le F ρ N F' ρ' N')(b:base<=N):Le F ρ base F' ρ' base:=
 ⟨a.fz,fun id h=>a.rho id<|zh h b,zd _⟩
theorem P9{nd ro:Bool}{d:Nat}{f:FuncId}{base:Nat}{rv:Option Nat}{ct:Bool}(hrv:ro=false->rv=none/\ct=true)(hcall:∀h0,FJ B h0 X nd<|CI X nd d)(hcallD:∀h0,FJ B h0 X false<|CI X false d){Q:PV->Ob->Prop}:∀(n:Nat) (c:Code) {h0:H0} {st:AM} {k:DX->AM->Tr} {F:Fz} {ρ:Ey} {fr:Fr} {h:H} (ds:List Nat),base<=st.nx->Rel B h0 F ρ st fr h->
  Ev X Q n (exec X (CI X nd d) (CI X false d) nd ro d f base c st k)->G8 B h0 X base n Q k F ρ h nd (fun m q=>BX X.C (Bp X.C m) rv ct q c fr h ds) ds:=by
 intro n;induction n using Nat.strongRecOn with
 |_ n IH=>
 have one:∀ {h0:H0} {e:DX} {st:AM} {k:DX->AM->Tr} {F:Fz} {ρ:Ey} {fr:Fr} {h:H} {ds:List Nat} {c:Code},base<=st.nx->Rel B h0 F ρ st fr h->Ev X Q n (k e st)->(∀m q,1<=q->BX X.C (Bp X.C m) rv ct q c fr h ds=some [⟨e,fr,h,ds⟩])->
   G8 B h0 X base n Q k F ρ h nd (fun m q=>BX X.C (Bp X.C m) rv ct q c fr h ds) ds:=by
  intro h0 e st k F ρ fr h ds c u hr p hd;exact⟨[⟨e,fr,h,ds⟩],1,fun m _ q T=>hd m q T,fun _=>⟨_,rfl⟩,fun x w=>by
   cases zc.1 w;exact⟨[],⟨rfl,zk,fun _ u=>(by cases u)⟩,n,zd _,st,p,F,ρ,hr,u,zt,zd _⟩⟩
 have A:∀ {q:Nat},1<=q->∃q',q=q'+1:=fun h=>⟨_,(Nat.succ_pred_eq_of_pos h).symm⟩
 have chain:∀ {h0:H0} {F:Fz} {ρ:Ey} {h:H} {ds:List Nat} {k k2:DX->AM->Tr} {n1:Nat} {run:Nat->Nat->Option (List Det.X)} {run2:Nat->Nat->Det.X->Option (List Det.X)},n1<=n->G8 B h0 X base n1 Q k2 F ρ h nd run ds->
   (∀(x:Det.X) (ps:List Nat),∀n1',n1'<=n1->∀j,Ev X Q n1' (k2 x.e j)->∀F' ρ',Rel B (h0.pins ps) F' ρ' j x.fr x.h->base<=j.nx->G8 B (h0.pins ps) X base n Q k F' ρ' x.h nd (fun m q=>run2 m q x) x.ds)->
   G8 B h0 X base n Q k F ρ h nd (fun m q=>match run m q with|some l=>bl l (run2 m q)|none=>none) ds:=by
  rintro h0 F ρ h ds k k2 n1 run run2 Y ⟨l,M,J,h2,h3⟩ hnext;obtain⟨r,M2,O,g2,g3⟩:=LR (f:=run2) (P:=fun x=>∃ps,(x.ds=ps++ds/\ps.Nodup/\∀b∈ps,h.nx<=b)/\∃n',n'<=n/\∃j,Ev X Q n' (k x.e j)/\∃F' ρ',Rel B (h0.pins ps) F' ρ' j x.fr x.h/\base<=j.nx/\Le F ρ base F' ρ' base/\h.nx<=x.h.nx) h2 fun x w=>by
   obtain⟨S,⟨U,kn,kl⟩,n',k1,j,k2',F',ρ',Z,k4,k5,k6⟩:=h3 x w;obtain⟨r,M,j1,j2,j3⟩:=hnext x S n' k1 j k2' F' ρ' Z k4;refine⟨r,M,j1,j2,fun y hy=>?_⟩;obtain⟨ps2,⟨i0,i0n,i0l⟩,V,i1,R,i2,F2,L,i3,i4,i5,i6⟩:=j3 y hy;refine⟨ps2++S,⟨by rw[i0,U,List.append_assoc],?_,fun b u=>?_⟩,V,i1,R,i2,F2,L,by rw[<-SA];exact i3,i4,k5.trans i5,zi k6 i6⟩
   ·rw[List.nodup_append];refine⟨i0n,kn,fun a ha b u e=>?_⟩;have J:=i0l a ha;have h2:=Z.sr.lt b _ (Z.sr.pn b<|List.mem_append_left _ u).1;omega
   ·rcases zp.1 u with u|u
    ·exact zi k6<|i0l b u
    ·exact kl b u
  exact⟨r,max M M2,fun m hm q T=>by simp only;rw[J m ae q ae];exact O m ae q ae,g2,g3⟩
 have E:∀ {h0:H0} {F:Fz} {ρ:Ey} {h:H} {ds:List Nat} {k:DX->AM->Tr} {run run':Nat->Nat->Option (List Det.X)},G8 B h0 X base n Q k F ρ h nd run ds->(∀m q,run' m (q+1)=run m q)->G8 B h0 X base n Q k F ρ h nd run' ds:=by
  rintro h0 F ρ h ds k run run' ⟨l,M,J,h2,h3⟩ p;refine⟨l,M+1,fun m hm q T=>?_,h2,h3⟩;obtain⟨q',rfl⟩:=A (show 1<=q by omega);rw[p];exact J m ae q' ae
 intro c;induction c with
 |skip=>
  intro h0 st k F ρ fr h ds u hr p;exact one u hr p (fun m q T=>by obtain⟨q',rfl⟩:=A T;rfl)
 |label l=>
  intro h0 st k F ρ fr h ds u hr p;exact one u hr p (fun m q T=>by obtain⟨q',rfl⟩:=A T;rfl)
 |exit i=>
  intro h0 st k F ρ fr h ds u hr p;exact one u hr p (fun m q T=>by obtain⟨q',rfl⟩:=A T;rfl)
 |ret=>
  intro h0 st k F ρ fr h ds u hr p;exact one u hr p (fun m q T=>by obtain⟨q',rfl⟩:=A T;rfl)
 |region id ops dr=>
  intro h0 st k F ρ fr h ds u hr p;unfold exec at p;cases dr with
  |true=>
   simp only[we]at p;cases W:(!ro||Iv ops (EZ ops))with
   |false=>rw[W]at p;exact wh p zg
   |true=>
   rw[W]at p;simp only[we]at p;have hdd:∀call,(bif ct then Jz X.C call ops fr h else WN X.C call ops fr h)=Jz X.C call ops fr h:=by
    intro call;cases hro:ro with
    |false=>rw[(hrv hro).2];rfl
    |true=>
     rw[hro]at W;have W:Iv ops (EZ ops)=true:=W;cases ct with
     |true=>rfl
     |false=>simp only[wg,WN,W,we]
   obtain⟨n',hn,j,o,F',ρ',fr',h',hw,M,hM⟩:=cK (hcallD h0) hr p;refine⟨[⟨.normal,fr',h',ds⟩],M+1,fun m hm q T=>?_,fun _=>⟨_,rfl⟩,fun x w=>?_⟩
   ·obtain⟨q',rfl⟩:=A (show 1<=q by omega);have:=hM m ae;simp only[BX,we];rw[hdd,this]
   ·cases zc.1 w;exact⟨[],⟨rfl,zk,fun _ u=>(by cases u)⟩,n',hn,j,o,F',ρ',hw.rel,zi u hw.le.n,hw.le.low u,hw.nx⟩
  |false=>
   simp only[wg]at p;obtain⟨r,M,hM,hone,hall⟩:=WL (hcall h0) hr p;refine⟨r.map fun x=>⟨.normal,x.1,x.2,ds⟩,M+1,fun m hm q T=>?_,fun e=>?_,fun x w=>?_⟩
   ·obtain⟨q',rfl⟩:=A (show 1<=q by omega);simp only[BX,wg,hM m ae]
   ·obtain⟨y,rfl⟩:=hone e;exact⟨_,rfl⟩
   ·obtain⟨y,hy,rfl⟩:=ye.1 w;obtain⟨n',hn,j,o,F',ρ',hw⟩:=hall y hy;exact⟨[],⟨rfl,zk,fun _ u=>(by cases u)⟩,n',hn,j,o,F',ρ',hw.rel,zi u hw.le.n,hw.le.low u,hw.nx⟩
 |seq a b iha ihb=>
  intro h0 st k F ρ fr h ds u hr p;unfold exec at p;refine E (chain (run2:=fun m q x=>match x.e with| .normal=>BX X.C (Bp X.C m) rv ct q b x.fr x.h x.ds|_=>some [x]) (zd n) (iha ds u hr p) fun x S n1 Y j o F' ρ' G I=>?_)<|fun m q=>rfl;obtain⟨e,K,J,z⟩:=x;cases e with
  |normal=>
   have rest:∀ {R:AM} {F2:Fz} {L:Ey} {V:Nat},V<=n->Rel B (h0.pins S) F2 L R K J->base<=R.nx->(∀id,id<base->L id=ρ' id)->(∀b cs,F' b=some cs->F2 b=some cs)->Ev X Q V (exec X (CI X nd d) (CI X false d) nd ro d f base b R k)->
     G8 B (h0.pins S) X base n Q k F' ρ' J nd (fun m q=>BX X.C (Bp X.C m) rv ct q b K J z) z:=by
    intro R F2 L V hn2 hr2 hb2 hρ2 hF2 D;have hl0:Le F' ρ' base F2 L base:=⟨hF2,fun id hi=>.inl<|hρ2 id hi,zd _⟩;have hc:G8 B (h0.pins S) X base n Q k F2 L J nd (fun m q=>BX X.C (Bp X.C m) rv ct q b K J z) z:=by
     by_cases hlt:V<n
     ·obtain⟨l,M,J,h2,h3⟩:=IH V hlt b z hb2 hr2 D;exact⟨l,M,J,h2,fun x w=>by obtain⟨ps,U,V,k1,k2⟩:=h3 x w;exact⟨ps,U,V,by omega,k2⟩⟩
     ·have:V=n:=ae
      subst this;exact ihb z hb2 hr2 D
    obtain⟨l,M,J,h2,h3⟩:=hc;exact⟨l,M,J,h2,fun x w=>by
     obtain⟨ps,U,n3,k1,st3,k2,F3,ρ3,Z,k4,k5,k6⟩:=h3 x w;exact⟨ps,U,n3,k1,st3,k2,F3,ρ3,Z,k4,hl0.trans k5,k6⟩⟩
   simp only at o;cases hct:X.ct f (DG b)with
   |false=>rw[hct]at o;exact rest Y G I (fun _ _=>rfl) (fun _ _ h=>h) o
   |true=>
    rw[hct]at o;simp only[we]at o;cases o with
    |cut o=>
     obtain⟨F2,ρ0,hr0,hb0,hρ0,hF⟩:=O7 G f (DG b) I;exact rest Y hr0 hb0 hρ0 hF o
  |exit i=>exact⟨[⟨.exit i,K,J,z⟩],0,fun _ _ _ _=>rfl,fun _=>⟨_,rfl⟩,fun x w=>by cases zc.1 w;exact⟨[],⟨rfl,zk,fun _ u=>(by cases u)⟩,n1,Y,j,o,F',ρ',G,I,zt,zd _⟩⟩
  |ret=>exact⟨[⟨.ret,K,J,z⟩],0,fun _ _ _ _=>rfl,fun _=>⟨_,rfl⟩,fun x w=>by cases zc.1 w;exact⟨[],⟨rfl,zk,fun _ u=>(by cases u)⟩,n1,Y,j,o,F',ρ',G,I,zt,zd _⟩⟩
 |cond x a b iha ihb=>
  intro h0 st k F ρ fr h ds u hr p;unfold exec at p;have go:∀ {t:Bool} {j:AM},ev X.C fr x=some (.bool t)->Rel B h0 F ρ j fr h->base<=j.nx->Ev X Q n (bif t then exec X (CI X nd d) (CI X false d) nd ro d f base a j k else exec X (CI X nd d) (CI X false d) nd ro d f base b j k)->G8 B h0 X base n Q k F ρ h nd (fun m q=>BX X.C (Bp X.C m) rv ct q (.cond x a b) fr h ds) ds:=by
   intro t j w G I p;cases t with
   |true=>exact E (iha ds I G p) (fun m q=>by simp only[BX,w])
   |false=>exact E (ihb ds I G p) (fun m q=>by simp only[BX,w])
  split at p
  case h_4=>exact wh p zg
  case h_3=>
   rename_i ht;obtain⟨y,O,g2⟩:=Ct (C:=X.C) hr.fp ht;simp only[PR]at g2;obtain⟨t,rfl⟩:=g2;split at p
   case h_2=>exact wh p zg
   rename_i s;have hs:fr.get s=.bool t:=by simpa [ev]using O
   obtain⟨o,D⟩:=p.Va;cases t with
   |true=>exact go O (hr.note<|by rw[hs];exact Jg _) u o
   |false=>exact go O (hr.note<|by rw[hs];exact Jg _) u D
  case h_1=>
   rename_i t ht;obtain⟨y,O,g2⟩:=Ct (C:=X.C) hr.fp ht;obtain rfl:=O0 g2;exact go O hr u p
  case h_2=>
   rename_i t ht;obtain⟨y,O,g2⟩:=Ct (C:=X.C) hr.fp ht;obtain rfl:=Ij g2;split at p
   case h_1=>
    rename_i s;have hs:fr.get s=.bool t:=by simpa [ev]using O
    rcases p.Ff with⟨v,D⟩|⟨v,D⟩
    ·have v:t=true:=v;subst v;exact go O (hr.note<|by rw[hs];exact Jg _) u D
    ·have v:t=false:=v;subst v;exact go O (hr.note<|by rw[hs];exact Jg _) u D
   case h_2=>
    rcases p.Ff with⟨v,D⟩|⟨v,D⟩
    ·have v:t=true:=v;subst v;exact go O hr u D
    ·have v:t=false:=v;subst v;exact go O hr u D
 |block id b ih=>
  intro h0 st k F ρ fr h ds u hr p;unfold exec at p;obtain⟨l,M,J,h2,h3⟩:=ih ds u hr p;refine⟨l.map fun x=>match x.e with
    | .exit i=>bif zj i id then { x with e:=.normal }else x
    |_=>x,M+1,fun m hm q T=>?_,fun e=>?_,fun y hy=>?_⟩
  ·obtain⟨q',rfl⟩:=A (show 1<=q by omega);have O:=J m ae q' ae;simp only at O;simp only[BX,O];rfl
  ·obtain⟨y,rfl⟩:=h2 e;exact⟨_,rfl⟩
  ·obtain⟨⟨e,K,hh1,z⟩,w,rfl⟩:=ye.1 hy;obtain⟨ps,U,n1,k1,j,o,F',ρ',Z,k4,k5,k6⟩:=h3 _ w;cases e with
   |normal=>exact⟨ps,U,n1,k1,j,o,F',ρ',Z,k4,k5,k6⟩
   |ret=>exact⟨ps,U,n1,k1,j,o,F',ρ',Z,k4,k5,k6⟩
   |exit i=>
    simp only at o ⊢;cases hbe:zj i id with
    |true=>rw[hbe]at o;exact⟨ps,U,n1,k1,j,o,F',ρ',Z,k4,k5,k6⟩
    |false=>rw[hbe]at o;exact⟨ps,U,n1,k1,j,o,F',ρ',Z,k4,k5,k6⟩
 |loop b ih=>
  intro h0 st k F ρ fr h ds u hr p;unfold exec at p;cases p with
  |@loop n0 _ _ _ _ _ _ _ _ p=>
  obtain⟨F0,ρ0,hr0,hb0,hρ0,hF0⟩:=O7 hr f (DG b) u;have hl0:Le F ρ base F0 ρ0 base:=⟨hF0,fun id hi=>.inl<|hρ0 id hi,zd _⟩;unfold body at p;have hbody:=IH n0 (Nat.lt_succ_self _) b ds hb0 hr0 p;have hch:G8 B h0 X base (n0+1) Q k F0 ρ0 h nd (fun m q=>match BX X.C (Bp X.C m) rv ct q b fr h ds with|some l=>bl l (fun x=>match x.e with| .normal=>BX X.C (Bp X.C m) rv ct q (.loop b) x.fr x.h x.ds|_=>some [x])|none=>none) ds:=by
   refine chain (run2:=fun m q x=>match x.e with| .normal=>BX X.C (Bp X.C m) rv ct q (.loop b) x.fr x.h x.ds|_=>some [x]) (Nat.le_succ n0) hbody fun x S n1 Y j o F' ρ' G I=>?_
   obtain⟨e,K,J,z⟩:=x;cases e with
   |normal=>
    have he1':Ev X Q n1 (exec X (CI X nd d) (CI X false d) nd ro d f base (.loop b) j k):=by unfold exec;exact o
    obtain⟨l,M,J,h2,h3⟩:=IH n1 ae (.loop b) z I G he1';exact⟨l,M,J,h2,fun x w=>by obtain⟨ps,U,V,k1,k2⟩:=h3 x w;exact⟨ps,U,V,by omega,k2⟩⟩
   |exit i=>exact⟨[⟨.exit i,K,J,z⟩],0,fun _ _ _ _=>rfl,fun _=>⟨_,rfl⟩,fun x w=>by cases zc.1 w;exact⟨[],⟨rfl,zk,fun _ u=>(by cases u)⟩,n1,by omega,j,o,F',ρ',G,I,zt,zd _⟩⟩
   |ret=>exact⟨[⟨.ret,K,J,z⟩],0,fun _ _ _ _=>rfl,fun _=>⟨_,rfl⟩,fun x w=>by cases zc.1 w;exact⟨[],⟨rfl,zk,fun _ u=>(by cases u)⟩,n1,by omega,j,o,F',ρ',G,I,zt,zd _⟩⟩
  obtain⟨l,M,O,g2,g3⟩:=E (run':=fun m q=>BX X.C (Bp X.C m) rv ct q (.loop b) fr h ds) hch<|fun m q=>rfl;refine⟨l,M,O,g2,fun x w=>?_⟩;obtain⟨ps,U,V,k1,R,k2,F2,L,Z,k4,k5,k6⟩:=g3 x w;exact⟨ps,U,V,k1,R,k2,F2,L,Z,k4,hl0.trans k5,k6⟩
 |scope b ih=>
  intro h0 st k F ρ fr h ds u hr p;unfold exec at p;exact E (ih ds u hr p)<|fun m q=>rfl
 |rangeFunc g ps a b _ _=>
  intro h0 st k F ρ fr h ds u hr p;unfold exec at p;exact wh p zg
 |goto l=>intro h0 st k F ρ fr h ds u hr p;exact wh p zg
 |refuse s=>intro h0 st k F ρ fr h ds u hr p;exact wh p zg
end
section
variable {B:Nat}{h0:H0}{X:AT}{F:Fz}{ρ:Ey}{N:Nat}{st st':AM}{fr:Fr}{h:H}
theorem LC:∀ {ps:List PV} {i t:Nat} {p:PV},(t,p)∈EC ps i->∃k,t=i+k/\ps[k]?=some p
 |[],i,t,p,h=>by cases h
 |q::ps,i,t,p,h=>by
  unfold EC at h;rcases yc.1 h with h|h
  ·cases h;exact⟨0,rfl,rfl⟩
  ·obtain⟨k,b,a⟩:=LC h;exact⟨k+1,by rw[b];show i+1+k=_;omega,by simpa using a⟩
theorem tT{ps:List PV}{vs:List V}(hp:Bi F ρ N ps vs)(n:Nat)(ob:Ob)(nx:Nat)(_hnx:nx=N):FP F ρ N (Aw (zx ps.length<|Nat.sub n ps.length) (EC ps 0) ob nx) (NP n vs):=by
 refine⟨by show ps.length+(n-ps.length)=vs.length+(n-vs.length);rw[hp.len],fun t=>?_⟩;show PR F ρ N (((FZ<|EC ps 0).get t).getD .any) _;cases c:(FZ<|EC ps 0).get t with
 |none=>show PR F ρ N .any _;simp[PR]
 |some p=>
  show PR F ρ N p _;rcases I6 _ .leaf t p c with a|a
  ·obtain⟨k,i,g⟩:=LC a;obtain rfl:t=k:=ae
   obtain⟨v,b,e⟩:=hp.get g;have d:=(zf.1 b).1;unfold NP Fr.get;simp only;rw[Nj,wd ae,Nat.sub_zero,b];exact e
  ·simp at a
theorem iU{T:Ce}{st s:AM}{t:TypeId}{a p:PV}(h:(NJ T st t a).To p s):s=st:=by
 unfold NJ at h;split at h
 case h_2=>exact wh h (by simp)
 split at h
 case h_4=>exact wh h (by simp)
 ·split at h
  case h_4=>exact wh h (by simp)
  case h_3=>simp only[LB]at h;exact h.2.symm
  ·simp only[LB]at h;exact h.2.symm
  ·rename_i c l _;cases b:(zj _ 0&&zj c.sz 1)with
   |false=>rw[b]at h;exact wh h (by simp)
   |true=>rw[b]at h;simp only[we,P2]at h;exact h.2.2.symm
 ·split at h
  case h_2=>exact wh h (by simp)
  rename_i sz j off _ _ _ c l _;cases b:(zj sz c.sz)with
  |false=>rw[b]at h;exact wh h (by simp)
  |true=>rw[b]at h;simp only[we,P2]at h;exact h.2.2.symm
 ·simp only[LB]at h;exact h.2.symm
theorem QZ{Q:PV->Ob->Prop}{n:Nat}{t:Tr}:∀ {cs:List Bool},Ev X Q n (PS cs t)->(∀c∈cs,c=true)/\Ev X Q n t
 |[],h=>⟨fun c a=>(by cases a),h⟩
 |c::cs,h=>by
  unfold PS at h;rcases h.Ff with⟨a,b⟩|⟨_,b⟩
  ·obtain⟨g,i⟩:=QZ b;exact⟨fun d e=>by
    rcases yc.1 e with rfl|e
    ·exact a
    ·exact g d e,i⟩
  ·exact wh b zg
theorem Vi:∀ {k:List ResultVar} {ps:List PV} {F:Fz} {ρ:Ey},Rel B h0 F ρ st fr h->nU X.C.T st k=some ps->(∀c∈Ld X.C.T st k,c=true)->
  ∃vs F' ρ',QV X.C fr h k=some vs/\Bi F' ρ' st.nx ps vs/\Rel B h0 F' ρ' st fr h/\Le F ρ st.nx F' ρ' st.nx
 |[],ps,F,ρ,hr,hp,_=>by cases hp;exact⟨[],F,ρ,rfl,by simp,hr,zt⟩
 |r::k,ps,F,ρ,hr,hp,e=>by
  unfold nU at hp;split at hp
  case h_2=>cases hp
  rename_i p A g o;cases hp;have key:∃v F1 d,aS X.C fr h r=some v/\PR F1 d st.nx p v/\Rel B h0 F1 d st fr h/\Le F ρ st.nx F1 d st.nx:=by
   cases r with
   |tmp t=>
    simp only[nF,zm]at g;subst g;exact⟨_,F,ρ,rfl,hr.fp.slot t,hr,zt⟩
   |cell a t=>
    have j:∃s,(NJ X.C.T st t<|st.get a).To p s:=by
     simp only[nF]at g;split at g
     case h_3=>cases g
     ·rename_i u s i;cases g;exact⟨s,by rw[i];exact .val⟩
     ·rename_i c u s i;cases g;refine⟨s,?_⟩;have:=e c (by unfold Ld;rw[i];exact List.mem_cons_self);rw[i,this];show(PO.IK true p s).To p s;rw[BZ];exact⟨rfl,rfl,rfl⟩
    obtain⟨s,j⟩:=j;have y:s=st:=iU j;subst y;obtain⟨v',h',F',ρ',b,g2,g3,g4,g5,g6,g7,g8⟩:=pF (C:=X.C) hr.sr (hr.fp.slot a) j;cases l:Fl X.C.T h t (fr.get a)with
    |none=>rw[l]at b;rcases b with b|⟨b,_⟩<;>cases b
    |some w=>
     rw[l]at b;rcases b with b|⟨b,_⟩
     ·simp only[BG,zm,OR.val.injEq]at b;obtain⟨rfl,rfl⟩:=b;exact⟨w,F',ρ',l,g2,⟨hr.fp.mono g4,g3⟩,g4⟩
     ·cases b
  obtain⟨v,F1,d,q,x,D,z⟩:=key;obtain⟨vs,F2,ρ2,k5,k6,k7,k8⟩:=Vi D o (fun c m=>e c (by
   cases r with
   |tmp t=>unfold Ld;exact m
   |cell a t=>
    unfold Ld;split
    ·exact List.mem_cons_of_mem _ m
    ·exact m))
  exact⟨v::vs,F2,ρ2,by simp[QV,q,k5],by simp only[A6];exact⟨x.mono k8,k6⟩,k7,z.trans k8⟩
theorem JB{nd:Bool}{d:Nat}(L:∀h0,FJ B h0 X nd<|CI X nd d)(w:∀h0,FJ B h0 X false<|CI X false d)(hmg:X.C.mg=false){g:FuncId}(hsp:X.C.spec g=none)(I:X.C.prim g=none)(hno:X.sp g=none){Q:PV->Ob->Prop}{n:Nat}{args:List PV}{k:PV->AM->Tr}{args':List V}
  (D:Ev X Q n (enter X (CI X nd d) (CI X false d) nd d g args st k)) (hr:Rel B h0 F ρ st fr h) (ha:Bi F ρ st.nx args args'):
  (X.C.prim g=none/\∃i,X.C.fn g=some i)/\∃l M,(∀m,M<=m->Bp X.C m (.fn g args') h=some l)/\(nd=false->∃x,l=[x])/\
   ∀x∈l,∃n',n'<=n/\∃r st',Ev X Q n' (k r st')/\∃F' ρ',PR F' ρ' st'.nx r x.1/\Dx B h0 F ρ st.nx h st' fr x.2 F' ρ'/\(∀sp,X.sp g=some sp->∀b,b<h.nx->x.2.get b=h.get b):=by
 unfold enter at D;split at D
 case h_1=>exact wh D zg
 rename_i i hi;cases hc:i.cert with
 |false=>rw[hc]at D;exact wh D zg
 |true=>
  rw[hc]at D;simp only[we]at D;have hr0:Rel B h0 F ρ (Aw (zx args.length<|Nat.sub i.ntmps args.length) (EC args 0) st.ob st.nx) (NP i.ntmps args') h:=⟨tT ha i.ntmps st.ob st.nx rfl,hr.sr⟩;obtain⟨l,M,hM,O,W⟩:=P9 (ro:=false) (rv:=none) (ct:=true) (fun _=>⟨rfl,rfl⟩) L w n i.body (st:=Aw (zx args.length<|Nat.sub i.ntmps args.length) (EC args 0) st.ob st.nx) [] (zd st.nx) hr0 D;have fin:∀x∈l,∃(r:List (V×H)) (M:Nat),(∀m:Nat,M<=m->∀q:Nat,M<=q->(match x.e with
      | .exit _=>none
      |_=>match Gm x.ds x.h with
       |some a=>match QR X.C x.fr a i.results.toList with
        |some v=>some [(v,a)]
        |none=>none
       |none=>none)=some r)/\(nd=false->∃x,r=[x])/\∀x∈r,∃n',n'<=n/\∃r st',Ev X Q n' (k r st')/\∃F' ρ',PR F' ρ' st'.nx r x.1/\Dx B h0 F ρ st.nx h st' fr x.2 F' ρ'/\(∀sp,X.sp g=some sp->∀b,b<h.nx->x.2.get b=h.get b):=by
   intro x hx;obtain⟨ps,⟨K,z,hge⟩,n1,hn1,c,u,F1,ρ1,s,R,hl1,E⟩:=W x hx;obtain⟨e,fr1,hx0,ds1⟩:=x;simp only at K u s E ⊢;obtain⟨a,hlv,hsr1,hnx1,_⟩:=SR.leave z (fun b hb hp=>by
    have k1:=hge b hb;have U:=hr.sr.lt b _ (hr.sr.pn b hp).1;omega) s.sr
   have hr1:Rel B h0 F1 ρ1 c fr1 a:=⟨s.fp,hsr1⟩;have hx1:h.nx<=a.nx:=by rw[hnx1];exact E
   rw[List.append_nil]at K;subst K;have go:(∀j,e≠ .exit j)->Ev X Q n1 (match nU X.C.T c i.results.toList with|some vs=>PS (Ld X.C.T c i.results.toList) (k (Go.Pe.one vs) ⟨st.n,st.fr,c.ob,c.nx⟩)|none=>.fail)->
     ∃v',QR X.C fr1 a i.results.toList=some v'/\∃n',n'<=n/\∃r st',Ev X Q n' (k r st')/\∃F' ρ',PR F' ρ' st'.nx r v'/\Dx B h0 F ρ st.nx h st' fr a F' ρ'/\(∀sp,X.sp g=some sp->∀b,b<h.nx->a.get b=h.get b):=by
    intro hne o;split at o
    case h_2=>exact wh o zg
    rename_i ps hps;obtain⟨J,o⟩:=QZ o;obtain⟨vs,F2,ρ2,k1,U,k3,k4⟩:=Vi hr1 hps J;have Y:Le F ρ st.nx F2 ρ2 c.nx:=⟨fun b cs hb=>k4.fz _ _<|hl1.fz _ _ hb,fun id hid=>by
     rcases k4.rho id (zh hid R)with e|e
     ·rw[e];exact hl1.rho id hid
     ·exact .inr e,R⟩
    have S:∃r',QR X.C fr1 a i.results.toList=some r'/\PR F2 ρ2 c.nx (Go.Pe.one ps) r':=by
     unfold QR;rw[k1];cases ps with
     |nil=>simp at U;subst U;exact⟨_,rfl,by simp[Go.Pe.one,PR]⟩
     |cons p ps=>
      simp only[Bi]at U;obtain⟨v1,vs1,rfl,g1,G⟩:=U;cases ps with
      |nil=>simp at G;subst G;exact⟨_,rfl,g1⟩
      |cons q qs=>
       have g2':=G;simp only[Bi]at G;obtain⟨v2,vs2,rfl,_,_⟩:=G;refine⟨_,rfl,?_⟩;show PR F2 ρ2 c.nx (.tup (p::q::qs)) _;unfold PR;exact⟨_,rfl,by simp only[A6];exact⟨g1,by simpa only[A6]using g2'⟩⟩
    obtain⟨r',q1,Z⟩:=S;exact⟨r',q1,n1,hn1,_,_,o,F2,ρ2,Z,⟨⟨⟨hr.fp.n,fun t=>(hr.fp.slot t).mono Y⟩,k3.sr⟩,Y,hx1⟩,fun sp h=>(by rw[hno]at h;cases h)⟩
   cases e with
   |normal=>
    obtain⟨v',q1,Z⟩:=go (fun j=>by simp) u;exact⟨[(v',a)],0,fun m _ q _=>(by simp only[hlv,q1]),fun _=>⟨_,rfl⟩,fun y hy=>by cases zc.1 hy;exact Z⟩
   |ret=>
    obtain⟨v',q1,Z⟩:=go (fun j=>by simp) u;exact⟨[(v',a)],0,fun m _ q _=>(by simp only[hlv,q1]),fun _=>⟨_,rfl⟩,fun y hy=>by cases zc.1 hy;exact Z⟩
   |exit j=>exact wh u zg
  obtain⟨r,M2,g1,G,g3⟩:=LR (f:=fun _ _ (x:Det.X)=>match x.e with
      | .exit _=>none
      |_=>match Gm x.ds x.h with
       |some a=>match QR X.C x.fr a i.results.toList with
        |some v=>some [(v,a)]
        |none=>none
       |none=>none) (P:=fun x=>∃n',n'<=n/\∃r st',Ev X Q n' (k r st')/\∃F' ρ',PR F' ρ' st'.nx r x.1/\Dx B h0 F ρ st.nx h st' fr x.2 F' ρ'/\(∀sp,X.sp g=some sp->∀b,b<h.nx->x.2.get b=h.get b)) O fin
  refine⟨⟨I,i,hi⟩,r,max M M2+1,fun m hm=>?_,G,g3⟩;obtain⟨A,rfl⟩:∃A,m=A+1:=⟨m-1,by omega⟩;have hd:=hM A ae A ae;have hg:=g1 A ae A ae;simp only at hd;have:Bp X.C (A+1) (.fn g args') h=(match BX X.C (Bp X.C A) none i.cert A i.body (NP i.ntmps args') h []with
    |none=>none
    |some l=>match (bl l fun x=>match x.e with
     | .exit _=>none
     |_=>match Gm x.ds x.h with
      |some a=>match QR X.C x.fr a i.results.toList with
       |some v=>some [(v,a)]
       |none=>none
      |none=>none)with
     |some r=>some<|bif X.C.mg then Qg h.nx r else r
     |none=>none):=by
   rw[Bp];simp only[hsp,hi];rfl
  rw[this,hc,hd];simp only;have hg':(bl l fun x=>match x.e with
     | .exit _=>none
     |_=>match Gm x.ds x.h with
      |some a=>match QR X.C x.fr a i.results.toList with
       |some v=>some [(v,a)]
       |none=>none
      |none=>none)=some r:=hg
  rw[hg',hmg];rfl
theorem SB{nd:Bool}{d:Nat}(A:∀h0,FJ B h0 X nd<|CI X nd d)(o:∀h0,FJ B h0 X false<|CI X false d){id:Nat}{Q:PV->Ob->Prop}{n:Nat}{args:List PV}{k:PV->AM->Tr}{args':List V}
  (O:Ev X Q n (oJ X (CI X nd d) (CI X false d) nd d id args st k)) (hr:Rel B h0 F ρ st fr h) (ha:Bi F ρ st.nx args args'):
  ∃c,AdQ X ρ h args' (.rnd id) c/\∃l M,(∀m,M<=m->Bp X.C m c h=some l)/\(nd=false->∃x,l=[x])/\
   ∀x∈l,∃n',n'<=n/\∃r st',Ev X Q n' (k r st')/\∃F' ρ',PR F' ρ' st'.nx r x.1/\Dx B h0 F ρ st.nx h st' fr x.2 F' ρ':=by
 unfold oJ at O;split at O
 case h_2=>exact wh O zg
 rename_i f r ps asg b n0 sl hob;obtain⟨D,m0,y,k1,k2,⟨ls,rfl,rfl,rfl,rfl,⟨l1,l2⟩,rfl,l4⟩,-⟩:=hr.sr.at hob;cases P:zj args.length ls.ps.size with
 |false=>rw[P]at O;exact wh O zg
 |true=>
 rw[P]at O;simp only[we]at O;have hlen:args'.length=ls.ps.size:=by rw[<-ha.len];exact zl P
 have hid:id<st.nx:=(hr.sr.own _ _ _ k1).1;have hr0:Rel B h0 F ρ (NV ls.ps.toList args<|Aw ls.fr.n sl st.ob st.nx) (GM ls.ps.toList args' ls.fr) h:=by
  have S:Rel B h0 F ρ (Aw ls.fr.n sl st.ob st.nx) ls.fr h:=⟨⟨rfl,fun t=>l4 t⟩,hr.sr⟩;have go:∀(ts:List Tmp) (g:List PV) (E:List V) (s:AM) (f:Fr),s.nx=st.nx->Bi F ρ st.nx g E->Rel B h0 F ρ s f h->Rel B h0 F ρ (NV ts g s) (GM ts E f) h:=by
   intro ts;induction ts with
   |nil=>intro g E s f _ _ hs;cases g<;>exact hs
   |cons t ts ih=>
    intro g E s f hn hp hs;cases g with
    |nil=>simp only[Ch]at hp;subst hp;exact hs
    |cons a g=>
     simp only[Bi]at hp;obtain⟨v,vs,rfl,p1,p2⟩:=hp;simp only[NV,GM];refine ih g vs _ _ ?_ p2 ?_
     ·cases z6 t s.n<;>exact hn
     ·unfold Fr.cM;rw[show s.n=f.n from hs.fp.n];cases z6 t f.n with
      |false=>exact hs
      |true=>exact hs.set (by rw[hn];exact p1)
  exact go _ _ _ _ _ rfl ha S
 have hnx0:st.nx<=(NV ls.ps.toList args<|Aw ls.fr.n sl st.ob st.nx).nx:=by
  have go:∀(ts:List Tmp) (g:List PV) (s:AM),(NV ts g s).nx=s.nx:=by
   intro ts;induction ts with
   |nil=>intro g s;cases g<;>rfl
   |cons t ts ih=>
    intro g s;cases g with
    |nil=>rfl
    |cons a g=>simp only[NV];rw[ih];cases z6 t s.n<;>rfl
  rw[go];exact zd _
 obtain⟨L,M1,hM1,R,hall1⟩:=P9 (ro:=true) (rv:=some D) (ct:=false) (fun e=>by cases e) A o n ls.asg [] hnx0 hr0 O;refine⟨_,⟨D,m0,ls,k1,k2,hlen,rfl⟩,?_⟩;have fin:∀x∈L,∃(r:List (V×H)) (M:Nat),(∀m:Nat,M<=m->∀q:Nat,M<=q->(match x.e,x.h.get D with
   | .normal,some (.loop l1)=>match l1.st with
    | .ready=>match BX X.C (Bp X.C m) (some D) false q ls.body x.fr (x.h.put D<|.loop { l1 with st:=.busy }) x.ds with
     |some l2=>bl l2 fun y=>match y.h.get D with
      |some (.loop T)=>match y.e with
       | .normal=>some [(V.bool true,y.h.put D<|.loop { T with st:=.ready,pend:=none })]
       | .ret=>some [(V.bool false,y.h.put D<|.loop { T with st:=.done,pend:=some .ret })]
       | .exit i=>some [(V.bool false,y.h.put D<|.loop { T with st:=.done,pend:=some (.exit i) })]
      |_=>none
     |none=>none
    |_=>none
   |_,_=>none)=some r)/\(nd=false->∃x,r=[x])/\∀x∈r,∃n',n'<=n/\∃r st',Ev X Q n' (k r st')/\∃F' ρ',PR F' ρ' st'.nx r x.1/\Dx B h0 F ρ st.nx h st' fr x.2 F' ρ':=by
  intro x hx;obtain⟨ps1,_,n1,hn1,s,j,F1,ρ1,G,hb1,hl1,hx1⟩:=hall1 x hx;obtain⟨e,fr1,h1,ds1⟩:=x;simp only at j G hx1 ⊢;cases e with
  |exit i=>exact wh j zg
  |ret=>exact wh j zg
  |normal=>
  simp only at j;split at j
  case h_2=>exact wh j zg
  rename_i f' r' ps' asg' b' n' U K;have hs1:SR B h0 F1 ρ1 s.nx s.ob h1:=G.sr.mD;obtain⟨I,m1,y1,q1,q2,⟨p,rfl,rfl,rfl,rfl,⟨la1,la2⟩,rfl,la4⟩,-⟩:=hs1.at K;obtain⟨rfl,rfl⟩:I=D/\m1=m0:=by
   have:=hl1.at hid q1;rw[k1]at this;cases this;exact⟨rfl,rfl⟩
  have hr2:Rel B h0 F1 ρ1 (s.setObj id<|.lp f' r' p.ps p.asg p.body .busy p.fr.n U) fr1 (h1.put I<|.loop { p with st:=.busy }):=
   ⟨⟨G.fp.n,fun t=>G.fp.slot t⟩,hs1.set K q1 q2 rfl rfl (o':=.lp f' r' p.ps p.asg p.body .busy p.fr.n U) ⟨_,rfl,rfl,rfl,rfl,rfl,rfl,la4⟩⟩
  obtain⟨L2,M2,hM2,Z,hall2⟩:=P9 (ro:=true) (rv:=some I) (ct:=false) (fun e=>by cases e) A o n1 ls.body ds1 (show st.nx<=(s.setObj id<|.lp f' r' p.ps p.asg p.body .busy p.fr.n U).nx from hb1) hr2 j;have fin2:∀y∈L2,∃(r:List (V×H)) (M:Nat),(∀m:Nat,M<=m->∀q:Nat,M<=q->(match y.h.get I with
    |some (.loop T)=>match y.e with
     | .normal=>some [(V.bool true,y.h.put I<|.loop { T with st:=.ready,pend:=none })]
     | .ret=>some [(V.bool false,y.h.put I<|.loop { T with st:=.done,pend:=some .ret })]
     | .exit i=>some [(V.bool false,y.h.put I<|.loop { T with st:=.done,pend:=some (.exit i) })]
    |_=>none)=some r)/\(nd=false->∃x,r=[x])/\∀x∈r,∃n',n'<=n/\∃r st',Ev X Q n' (k r st')/\∃F' ρ',PR F' ρ' st'.nx r x.1/\Dx B h0 F ρ st.nx h st' fr x.2 F' ρ':=by
   intro y hy;obtain⟨ps2,_,n2,hn2,s2,u,F2,W,hr3,hb2,hl2,hx2⟩:=hall2 y hy;obtain⟨e2,fr2,h2,ds2⟩:=y;simp only at u hr3 hx2 ⊢;split at u
   case h_2=>exact wh u zg
   rename_i f2 r2 pp2 aa2 bb2 ss2 nn2 sl2 J;have hs3:SR B h0 F2 W s2.nx s2.ob h2:=hr3.sr.mD;obtain⟨c2,m2,y2,w1,w2,⟨w,rfl,rfl,rfl,rfl,_,rfl,lb4⟩,-⟩:=hs3.at J;have hle:Le F ρ st.nx F2 W s2.nx:=by
    have h:=hl1.trans hl2;exact⟨h.fz,h.rho,hb2⟩
   obtain⟨rfl,rfl⟩:c2=I/\m2=m1:=by
    have:=hle.at hid w1;rw[k1]at this;cases this;exact⟨rfl,rfl⟩
   have hnx:h.nx<=h2.nx:=zi hx1 hx2;have done:∀(sb:LpS) (Y:LoopState) (pe:Option Code) (rb:Bool),LpR sb Y pe->Ev X Q n2 (k (.bl rb) ⟨st.n,st.fr,(s2.setObj id<|.lp f2 r2 w.ps w.asg w.body sb w.fr.n sl2).ob,s2.nx⟩)->
     ∃n',n'<=n/\∃r st',Ev X Q n' (k r st')/\∃F' ρ',PR F' ρ' st'.nx r (V.bool rb)/\Dx B h0 F ρ st.nx h st' fr (h2.put c2<|.loop { w with st:=Y,pend:=pe }) F' ρ':=by
    intro sb Y pe rb hlr he3;refine⟨n2,zi hn2 hn1,_,_,he3,F2,W,Jg _,⟨⟨⟨hr.fp.n,fun t=>(hr.fp.slot t).mono hle⟩,?_⟩,hle,hnx⟩⟩;exact hs3.set J w1 w2 rfl rfl (o':=.lp f2 r2 w.ps w.asg w.body sb w.fr.n sl2) ⟨_,rfl,rfl,rfl,rfl,hlr,rfl,lb4⟩
   cases e2 with
   |normal=>exact⟨[(.bool true,h2.put c2<|.loop { w with st:=.ready,pend:=none })],0,fun m _ q _=>(by simp only[w2]),fun _=>⟨_,rfl⟩,fun z hz=>by cases zc.1 hz;exact done .ready _ _ true ⟨rfl,rfl⟩ u⟩
   |ret=>exact⟨[(.bool false,h2.put c2<|.loop { w with st:=.done,pend:=some .ret })],0,fun m _ q _=>(by simp only[w2]),fun _=>⟨_,rfl⟩,fun z hz=>by cases zc.1 hz;exact done .ret _ _ false ⟨rfl,rfl⟩ u⟩
   |exit i=>exact⟨[(.bool false,h2.put c2<|.loop { w with st:=.done,pend:=some (.exit i) })],0,fun m _ q _=>(by simp only[w2]),fun _=>⟨_,rfl⟩,fun z hz=>by cases zc.1 hz;exact done (.exit i) _ _ false ⟨rfl,rfl⟩ u⟩
  obtain⟨r,M3,j1,j2,j3⟩:=LR Z fin2;refine⟨r,max M2 M3,fun m hm q hq=>?_,j2,j3⟩;have a1:=hM2 m ae q ae;simp only at a1;have a2:=j1 m ae q ae;simp only[q2,la1];rw[a1];exact a2
 obtain⟨r,M4,j1,j2,j3⟩:=LR R fin;refine⟨r,max M1 M4+1,fun m hm=>?_,j2,j3⟩;obtain⟨m',rfl⟩:∃m',m=m'+1:=⟨m-1,by omega⟩;have a1:=hM1 m' ae m' ae;simp only at a1;have a2:=j1 m' ae m' ae;rw[Bp];simp only[TE];rw[a1];exact a2
end
section
variable {B:Nat}{h0:H0}{X:AT}{F F1 F':Fz}{ρ:Ey}{N:Nat}{st st':AM}{fr:Fr}{h h':H}
theorem dO{p:PV}{v:V}(hp:PR F ρ N p v):∃w,Bi F ρ N p.cells w/\(Ma p=true->v=.agg w)/\(Ma p=false->w=[v]):=by
 cases p with
 |agg l=>simp only[PR]at hp;obtain⟨cs,rfl,a⟩:=hp;exact⟨cs,a,fun _=>rfl,fun e=>by cases e⟩
 |_=>exact⟨[v],by simp only[zo,A6,Ch,ve];exact hp,fun e=>(by cases e),fun _=>rfl⟩
theorem Sy{st:AM}{s:Sh}{p:PV}{x:s.T}{v:V}{w:List V}(a:EB st s p=some (true,x))(k:Ma p=true->v=.agg w)(j:Ma p=false->w=[v])(m:∀xs,Dl st p.cells=some (true,xs)->M0 F xs w):PC F (Cp s x) v:=by
 unfold EB at a;cases b:(Ma p==s.Rt)with
 |false=>rw[b]at a;cases a
 |true=>
  rw[b]at a;simp only[we]at a;split at a
  case h_2=>cases a
  rename_i c cs d;split at a
  case h_2=>cases a
  rename_i y l;simp only[zm,Prod.mk.injEq,ze]at a;obtain⟨⟨g,rfl⟩,rfl⟩:=a;have e:=M0.dc (fun ρ N=>RR (m cs d ρ N) g) l;have i:=PC.Cp e;have b:Ma p=s.Rt:=by simpa using b
  cases hp:s.Rt with
  |true=>rw[hp]at b;rw[k b];exact i.1 hp
  |false=>rw[hp]at b;exact i.2 hp v<|j b
theorem handed:∀ {ps:List PV} {vs:List V} {st:AM} {F:Fz},SR B h0 F ρ st.nx st.ob h->Bi F ρ st.nx ps vs->
  ∃F1,SR B h0 F1 ρ (By (ps.flatMap zo) st).nx (By (ps.flatMap zo) st).ob h/\(∀b cs,F b=some cs->F1 b=some cs)/\∀l i,DD st l ps=some (true,i)->M0 F1 (Ae l i) vs
 |[],vs,st,F,hr,hp=>⟨F,hr,fun _ _ h=>h,fun l i e=>by
  have j:vs=[]:=by simpa using hp
  subst j;match l,i,e with
  |[],_,_=>intro ρ' N';simp[Ae]
  |[a],_,e=>cases e
  |a::b::l,_,e=>cases e⟩
 |p::ps,vs,st,F,hr,hp=>by
  simp only[Bi]at hp;obtain⟨v,vs,rfl,u,m⟩:=hp;obtain⟨w,c1,c2,c3⟩:=dO u;obtain⟨F1,g1,g2,g3⟩:=Jy hr c1;have k:Bi F1 ρ (By p.cells st).nx ps vs:=by rw[(DK p.cells st).1];exact m.mono<|Le.dV g2
  obtain⟨A,o,g,z⟩:=handed g1 k;rw[List.flatMap_cons,IM];refine⟨A,o,fun b cs t=>g b cs<|g2 b cs t,fun l i e=>?_⟩;match l,i,e with
  |[],_,e=>cases e
  |[a],i,e=>
   cases ps with
   |cons q C=>cases e
   |nil=>
    have j:vs=[]:=by simpa using m
    subst j;have:=(Sy (st:=st) (F:=F1) (by simpa [DD]using e) c2 c3 g3).mono g;intro ρ' N';simp only[Ae,A6,Ch,ve];exact this ρ' N'
  |a::b::l,i,e=>
   unfold DD at e;split at e
   case h_2=>cases e
   rename_i c x d y s r;simp only[zm,Prod.mk.injEq,ze]at e;obtain⟨⟨rfl,rfl⟩,rfl⟩:=e;unfold Ae;exact M0.cons ((Sy s c2 c3 g3).mono g) (z (b::l) y<|by rw[MN<|NU p.cells st];exact r)
theorem SR.after{ob:Ob}(hr:SR B h0 F ρ N ob h)(g:∀b,b<h.nx->h'.get b=h.get b)(v:h.nx<=h'.nx)(i:∀b o,h'.get b=some o->b<h'.nx)(m:∀b cs,F b=some cs->F' b=some cs)
  (p:∀b cs,F' b=some cs->F b=some cs\/h.nx<=b) (j:∀b cs,F' b=some cs->∃t fz,h'.get b=some (.cells cs t fz)):SR B h0 F' ρ N ob h':=by
 refine⟨fun id o C=>?_,hr.inj,j,hr.own,hr.dead,fun b a r=>?_,i,zi hr.le v,fun b cs a=>?_,hr.gl,fun b a=>by obtain⟨k,s,z⟩:=hr.pn b a;exact⟨by rw[g b<|hr.lt b _ k];exact k,s,z⟩⟩
 ·obtain⟨b,n,x,c,l,D,u,A⟩:=hr.obj id o C;have a:=hr.lt b x l;refine⟨b,n,x,c,by rw[g b a];exact l,D.mono<|Le.dV (ρ:=ρ) m,fun e=>?_,fun e=>?_⟩
  ·cases y:F' b with
   |none=>rfl
   |some cs=>
    rcases p b cs y with d|d
    ·rw[u e]at d;cases d
    ·omega
  ·obtain⟨cs,t,fz,q,w⟩:=A e;exact⟨cs,t,fz,q,m _ _ w⟩
 ·rw[g b<|zh a hr.le];exact hr.old b a r
 ·rcases p b cs a with c|c
  ·exact hr.fo b cs c
  ·exact .inr<|.inl<|zi hr.le c
theorem SR.gh{ob:Ob}(hr:SR B h0 F ρ N ob h):Gh h:=fun x d=>by
 obtain⟨a,b,c⟩:=hr.gl x d;rw[hr.old _ a b];exact c
structure TC(C:Ctx)(f:FuncId)(sp:Am):Prop where
 prim:C.prim f=none
 fn:∃i,C.fn f=some i
 run:∀(F:Fz) (h:H) (args:List V) (i:(BB sp.ins).T),(∀b cs,F b=some cs->∃t fz,h.get b=some (.cells cs t fz))->(∀b o,h.get b=some o->b<h.nx)->Gh h->M0 F (Ae sp.ins i) args->sp.pre i=true->
  ∃l M,(∀m,M<=m->Bp C m (.fn f args) h=some l)/\(sp.nd=false->∃x,l=[x])/\∀x∈l,h.nx<=x.2.nx/\(∀b,b<h.nx->x.2.get b=h.get b)/\(∀b o,x.2.get b=some o->b<x.2.nx)/\
   ∃F':Fz,(∀b cs,F b=some cs->F' b=some cs)/\(∀b cs,F' b=some cs->F b=some cs\/h.nx<=b)/\(∀b cs,F' b=some cs->∃t fz,x.2.get b=some (.cells cs t fz))/\
    PC F' (one (Ae sp.outs (sp.f i))) x.1
structure Acr(C:Ctx)(f:FuncId)(sp:Am):Prop where
 run:∃q,C.prim f=some q/\∀(F:Fz) (h:H) (args:List V) (i:(BB sp.ins).T),M0 F (Ae sp.ins i) args->sp.pre i=true->∃v,q args h=some (v,h)/\PC F (one (Ae sp.outs (sp.f i))) v
def Af(C:Ctx)(f:FuncId)(sp:Am):Prop:=TC C f sp\/Acr C f sp
theorem Af.of0{C:Ctx}{f:FuncId}{sp:Am}(h:TC C f sp):Af C f sp:=.inl h
theorem Af.zero{C:Ctx}{f:FuncId}{sp:Am}(h:Af C f sp)(hp:C.prim f=none):TC C f sp:=by
 rcases h with h|⟨q,a,_⟩
 ·exact h
 ·rw[hp]at a;cases a
theorem Af.go{C:Ctx}{f:FuncId}{sp:Am}(ok:Af C f sp)(F:Fz)(h:H)(args:List V)(i:(BB sp.ins).T)(a:∀b cs,F b=some cs->∃t fz,h.get b=some (.cells cs t fz))(c:∀b o,h.get b=some o->b<h.nx)(j:Gh h)(k:M0 F (Ae sp.ins i) args)(hp:sp.pre i=true):
  ∃l,(((C.prim f=none/\∃i,C.fn f=some i)/\∃M,∀m,M<=m->Bp C m (.fn f args) h=some l)\/∃q x,C.prim f=some q/\q args h=some x/\l=[x])/\(sp.nd=false->∃x,l=[x])/\∀x∈l,h.nx<=x.2.nx/\(∀b,b<h.nx->x.2.get b=h.get b)/\(∀b o,x.2.get b=some o->b<x.2.nx)/\
   ∃F':Fz,(∀b cs,F b=some cs->F' b=some cs)/\(∀b cs,F' b=some cs->F b=some cs\/h.nx<=b)/\(∀b cs,F' b=some cs->∃t fz,x.2.get b=some (.cells cs t fz))/\
    PC F' (one<|Ae sp.outs<|sp.f i) x.1:=by
 rcases ok with ok|⟨q,p,d⟩
 ·obtain⟨l,M,g,e,s⟩:=ok.run F h args i a c j k hp;exact⟨l,.inl ⟨⟨ok.prim,ok.fn⟩,M,g⟩,e,s⟩
 ·obtain⟨v,g,e⟩:=d F h args i k hp;refine⟨[(v,h)],.inr ⟨q,(v,h),p,g,rfl⟩,fun _=>⟨_,rfl⟩,fun x r=>?_⟩;cases zc.1 r;exact⟨zd _,fun _ _=>rfl,c,F,fun _ _ h=>h,fun _ _ h=>.inl h,a,e⟩
theorem DC.sc:∀ {s:Sh} {x:s.T} {cs:List V},s.sc=true->DC F s x cs->DC F' s x cs
 | .int _,_,_,_,h=>by simpa only[DC]using h
 | .bool,_,_,_,h=>by simpa only[DC]using h
 | .str,_,_,_,h=>by simpa only[DC]using h
 | .list s,l,_,e,h=>by cases e
 | .pair a b,x,_,e,h=>by
  simp only[DC]at h ⊢;simp only[Sh.sc,ze]at e;obtain⟨c,d,rfl,i,g⟩:=h;exact⟨c,d,rfl,i.sc e.1,g.sc e.2⟩
 | .unit,_,_,_,h=>by simpa only[DC]using h
 | .nlist s,l,_,e,h=>by cases e
 | .fnv,_,_,_,h=>by simpa only[DC]using h
 | .ptr _,_,_,e,_=>by cases e
theorem Um:∀ {s:Sh} {x:s.T} {cs:List V},s.sc=true->Bi F ρ N (flat s x) cs->M0 F' (flat s x) cs
 | .int k,x,cs,_,h=>fun ρ' N'=>by
  simp only[flat,Bi]at h ⊢;obtain⟨v,vs,rfl,g,rfl⟩:=h;exact⟨v,[],rfl,by simp only[PR]at g ⊢;exact g.sc rfl,rfl⟩
 | .bool,x,cs,_,h=>fun ρ' N'=>by
  simp only[flat,Bi]at h ⊢;obtain⟨v,vs,rfl,g,rfl⟩:=h;exact⟨v,[],rfl,by simp only[PR]at g ⊢;exact g.sc rfl,rfl⟩
 | .str,x,cs,_,h=>fun ρ' N'=>by
  simp only[flat,Bi]at h ⊢;obtain⟨v,vs,rfl,g,rfl⟩:=h;exact⟨v,[],rfl,by simp only[PR]at g ⊢;exact g.sc rfl,rfl⟩
 | .list s,x,cs,e,h=>by cases e
 | .pair a b,(x,y),cs,e,h=>fun ρ' N'=>by
  simp only[Sh.sc,ze]at e;have key:∀(ps i:List PV) (l:List V),Bi F ρ N (ps++i) l->∃c d,l=c++d/\Bi F ρ N ps c/\Bi F ρ N i d:=by
   intro ps;induction ps with
   |nil=>intro i l j;exact⟨[],l,rfl,by simp,j⟩
   |cons p ps o=>
    intro i l j;simp only[List.cons_append,Bi]at j;obtain⟨v,vs,rfl,g,m⟩:=j;obtain⟨c,d,rfl,h3,h4⟩:=o i vs m;exact⟨v::c,d,rfl,by simp only[A6];exact⟨g,h3⟩,h4⟩
  obtain⟨c,d,rfl,g,m⟩:=key _ _ _ h;exact(Um e.1 g ρ' N').append<|Um e.2 m ρ' N'
 | .unit,_,cs,_,h=>fun ρ' N'=>by simpa [flat]using h
 | .nlist s,x,cs,e,h=>by cases e
 | .fnv,x,cs,_,h=>fun ρ' N'=>by
  simp only[flat,Bi]at h ⊢;obtain⟨v,vs,rfl,g,rfl⟩:=h;refine⟨v,[],rfl,?_,rfl⟩;cases (x:Option Fn)<;>simp only[PR,Ch]at g ⊢<;>exact g
 | .ptr _,_,_,e,_=>by cases e
theorem Y8{s:Sh}{x:s.T}{v:V}(e:s.sc=true)(h:PC F (Cp s x) v):PC F' (Cp s x) v:=by
 intro ρ' N';have h:=h ρ' N';cases s with
 |pair a b=>
  unfold Pe.Cp PR at h ⊢;obtain⟨cs,rfl,c⟩:=h;exact⟨cs,rfl,Um e c ρ' N'⟩
 |unit=>unfold Pe.Cp PR at h ⊢;obtain⟨cs,rfl,c⟩:=h;exact⟨cs,rfl,by simpa using c⟩
 |int k=>unfold Pe.Cp PR at h ⊢;exact h.sc rfl
 |bool=>unfold Pe.Cp PR at h ⊢;exact h.sc rfl
 |str=>unfold Pe.Cp PR at h ⊢;exact h.sc rfl
 |list s=>cases e
 |nlist s=>cases e
 |ptr s=>cases e
 |fnv=>
  unfold Pe.Cp at h ⊢;cases (x:Option Fn)<;>simp only[PR,Ch]at h ⊢<;>exact h
theorem Z0:∀ {l:List Sh} {x:(BB l).T} {vs:List V},l.all Sh.sc=true->M0 F (Ae l x) vs->M0 F' (Ae l x) vs
 |[],_,vs,_,h=>fun ρ' N'=>by have:=h ρ' N';simpa [Ae]using this
 |[a],x,vs,e,h=>fun ρ' N'=>by
  have d:=h ρ' N';simp only[Ae,Bi]at d;obtain⟨v,i,rfl,k,rfl⟩:=d;simp only[zn,List.all_nil,zr]at e;simp only[Ae,A6,Ch,ve];refine Y8 (F:=F) e (fun c g=>?_) ρ' N';have:=h c g;simpa only[Ae,A6,Ch,ve]using this
 |a::b::l,x,vs,e,h=>by
  have d:=h (fun _=>none) 0;simp only[Ae,Bi]at d;obtain⟨v,i,rfl,_,_⟩:=d;have j:a.sc=true/\(b::l).all Sh.sc=true:=by simpa [zn,Bool.and_assoc]using e
  unfold Ae at h ⊢;exact M0.cons (Y8 j.1 fun c g=>((A6 ..).1<|h c g).1)<|Z0 j.2 fun c g=>((A6 ..).1<|h c g).2
theorem PW{l:List Sh}{x:(BB l).T}{v:V}:PC F (one<|Ae l x) v↔∃vs,M0 F (Ae l x) vs/\v=(match vs with|[u]=>u|us=>.tup us):=by
 have c:∀ps:List PV,(∀u,ps≠[u])->(PC F (one ps) v↔∃vs,M0 F ps vs/\v=(match vs with|[u]=>u|us=>.tup us)):=by
  intro ps g;have o:one ps=.tup ps:=by
   unfold one;split
   ·rename_i u;exact wh rfl (g u)
   ·rfl
  rw[o];constructor
  ·intro h;have d:=h (fun _=>none) 0;unfold PR at d;obtain⟨cs,rfl,k⟩:=d;refine⟨cs,fun ρ N=>?_,?_⟩
   ·have j:=h ρ N;unfold PR at j;obtain⟨cs',e,p⟩:=j;cases e;exact p
   ·have i:=k.len;split
    ·rename_i u;cases ps with
     |nil=>cases i
     |cons q m=>cases m with
      |nil=>exact wh rfl (g q)
      |cons _ _=>cases i
    ·rfl
  ·rintro⟨vs,d,rfl⟩ ρ N;unfold PR;have i:=(d ρ N).len;split
   ·rename_i u;cases ps with
    |nil=>cases i
    |cons q m=>cases m with
     |nil=>exact wh rfl (g q)
     |cons _ _=>cases i
   ·exact⟨_,rfl,d ρ N⟩
 match l,x with
 |[],x=>exact c [] (fun u e=>by cases e)
 |[a],x=>
  simp only[Ae,one];constructor
  ·intro h;exact⟨[v],fun ρ N=>by simp only[A6,Ch,ve];exact h ρ N,rfl⟩
  ·rintro⟨vs,d,rfl⟩ ρ N;have k:=d ρ N;simp only[Bi]at k;obtain⟨u,us,rfl,j,rfl⟩:=k;exact j
 |a::b::l,x=>
  refine c _<|fun u e=>?_;unfold Ae at e;cases l<;>cases e
theorem dE{nd:Bool}{g:FuncId}{sp:Am}(_hsp:X.sp g=some sp)(w:Af X.C g sp)(A:nd=false->sp.nd=false){Q:PV->Ob->Prop}{n:Nat}{args:List PV}{k:PV->AM->Tr}{args':List V}(u:Ev X Q n (oY sp args st k))(hr:Rel B h0 F ρ st fr h)(T:Bi F ρ st.nx args args'):
  ∃l,NF X ρ h args' (.fn g) l/\(nd=false->∃x,l=[x])/\
   ∀x∈l,∃n',n'<=n/\∃r st',Ev X Q n' (k r st')/\∃F' ρ',PR F' ρ' st'.nx r x.1/\Dx B h0 F ρ st.nx h st' fr x.2 F' ρ'/\(∀sp,X.sp g=some sp->∀b,b<h.nx->x.2.get b=h.get b):=by
 unfold oY at u;split at u
 case h_2=>exact wh u zg
 rename_i c i W;rcases u.Ff with⟨K,d⟩|⟨_,d⟩
 case inr=>exact wh d zg
 simp only[ze]at K;obtain⟨rfl,p⟩:=K;obtain⟨F1,g1,g2,g3⟩:=handed hr.sr T;obtain⟨l,z,hone,hall⟩:=w.go F1 h args' i g1.frz hr.sr.lt hr.sr.gh (g3 _ i W) p;have y:NF X ρ h args' (.fn g) l:=by
  rcases z with⟨o,M,z⟩|⟨q,x,o,v,rfl⟩
  ·exact .Bp ⟨rfl,o⟩ z
  ·exact .prim o v
 refine⟨l,y,fun e=>hone<|A e,fun x L=>?_⟩;obtain⟨s,j,J,F',G,P,U,I⟩:=hall x L;refine⟨n,zd _,_,_,d,?_⟩;cases D:sp.outs.all Sh.sc with
 |true=>
  simp only[we];have R:PC F (one<|Ae sp.outs<|sp.f i) x.1:=by
   obtain⟨vs,o,v⟩:=PW.1 I;exact PW.2 ⟨vs,Z0 D o,v⟩
  refine⟨F,ρ,R ρ _,⟨⟨hr.fp,?_⟩,zt,s⟩,fun _ _ b a=>j b a⟩;refine hr.sr.after j s J (fun _ _ h=>h) (fun _ _ h=>.inl h)<|fun b cs a=>?_;obtain⟨t,fz,E⟩:=hr.sr.frz b cs a;exact⟨t,fz,by rw[j b<|hr.sr.lt b _ E];exact E⟩
 |false=>
  simp only[wg];obtain⟨S,O,Y⟩:=DK (args.flatMap zo) st;have m:Le F ρ st.nx F' ρ (By (args.flatMap zo) st).nx:=by
   rw[S];exact Le.dV fun b cs a=>G b cs<|g2 b cs a
  refine⟨F',ρ,I ρ _,⟨⟨⟨Y.trans hr.fp.n,fun t=>?_⟩,?_⟩,m,s⟩,fun _ _ b a=>j b a⟩
  ·have:(By (args.flatMap zo) st).get t=st.get t:=by unfold AM.get;rw[O]
   rw[this];exact(hr.fp.slot t).mono m
  ·exact g1.after j s J G P U
structure LV(C:Ctx)(f:FuncId)(w:ZA):Prop where
 prim:C.prim f=none
 fn:∃i,C.fn f=some i
 len:∀i l,w.pre i l=true->(w.g i l).length=l.length
 run:∀(F:Fz) (h:H) (args:List V) (i:(BB w.ins).T) (l:List w.el.T) (b:Nat) (cs:List V) (fz:Nat×Nat) (o:Nat),(∀b cs,F b=some cs->∃t fz,h.get b=some (.cells cs t fz))->(∀b o,h.get b=some o->b<h.nx)->Gh h->M0 F (Ae w.ins i) args->w.pre i l=true->
  h.get b=some (.cells cs w.ty fz)->Ez F w.el l cs->fz.2<=fz.1->F b=none->(o=0\/o=w.el.sz)->
  ∃x M,(∀m,M<=m->Bp C m (.fn f (args++[.sl b 0 l.length l.length o])) h=some [x])/\x.1=.tup []/\h.nx<=x.2.nx/\(∀c,c<h.nx->c≠b->x.2.get c=h.get c)/\(∀c y,x.2.get c=some y->c<x.2.nx)/\
   ∃F':Fz,(∀b cs,F b=some cs->F' b=some cs)/\(∀b cs,F' b=some cs->F b=some cs\/h.nx<=b)/\(∀b cs,F' b=some cs->∃t fz,x.2.get b=some (.cells cs t fz))/\
    ∃cs' fz',x.2.get b=some (.cells cs' w.ty fz')/\Ez F' w.el (w.g i l) cs'/\fz'.2<=fz'.1
 nils:∀(F:Fz) (h:H) (args:List V) (i:(BB w.ins).T),(∀b cs,F b=some cs->∃t fz,h.get b=some (.cells cs t fz))->(∀b o,h.get b=some o->b<h.nx)->Gh h->M0 F (Ae w.ins i) args->w.pre i []=true->
  ∃x M,(∀m,M<=m->Bp C m (.fn f (args++[.nils])) h=some [x])/\x.1=.tup []/\h.nx<=x.2.nx/\(∀c,c<h.nx->x.2.get c=h.get c)/\(∀c y,x.2.get c=some y->c<x.2.nx)/\
   ∃F':Fz,(∀b cs,F b=some cs->F' b=some cs)/\(∀b cs,F' b=some cs->F b=some cs\/h.nx<=b)/\(∀b cs,F' b=some cs->∃t fz,x.2.get b=some (.cells cs t fz))
theorem Bi.split:∀ {a b:List PV} {vs:List V},Bi F ρ N (a++b) vs->∃x y,vs=x++y/\Bi F ρ N a x/\Bi F ρ N b y
 |[],b,vs,h=>⟨[],vs,rfl,by simp,h⟩
 |p::a,b,vs,h=>by
  simp only[List.cons_append,Bi]at h;obtain⟨v,vs,rfl,d,c⟩:=h;obtain⟨x,y,rfl,h3,h4⟩:=c.split;exact⟨v::x,y,rfl,by simp only[A6];exact⟨d,h3⟩,h4⟩
theorem SR.wrote{ob:Ob}(hr:SR B h0 F ρ N ob h){id b n:Nat}{o o':Obj}{x':O}(A:AR ob id=some o)(u:ρ id=some (b,n))(C:b<h.nx)(x:F b=none)(K:o'.frozen=false)(E:h'.get b=some x')(G:aT F' ρ N n o' x')
  (z:∀c,c<h.nx->c≠b->h'.get c=h.get c) (U:h.nx<=h'.nx) (I:∀b o,h'.get b=some o->b<h'.nx) (M:∀b cs,F b=some cs->F' b=some cs)
  (P:∀b cs,F' b=some cs->F b=some cs\/h.nx<=b) (J:∀b cs,F' b=some cs->∃t fz,h'.get b=some (.cells cs t fz)):SR B h0 F' ρ N (D3 ob id o') h':=by
 have g:∀j,AR (D3 ob id o') j=if j=id then some o' else AR ob j:=fun j=>Hj _ _ _ _ (by rw[A];rfl)
 have d:∀c,c<h.nx->F c=none->F' c=none:=fun c l Z=>by
  cases p:F' c with
  |none=>rfl
  |some cs=>
   rcases P c cs p with q|q
   ·rw[Z]at q;cases q
   ·omega
 refine⟨fun j oj a=>?_,fun i j oi oj c m m' hi a p q=>?_,J,hr.own,fun j a=>?_,fun c l L=>?_,I,zi hr.le U,fun c cs l=>?_,hr.gl,fun c l=>?_⟩
 ·rw[g]at a;by_cases e:j=id
  ·subst e;simp only[wk,zm]at a;subst a;exact⟨b,n,x',u,E,G,fun _=>d b C x,fun e=>by rw[K]at e;cases e⟩
  ·rw[wc e]at a;obtain⟨c,m,y,p,q,h3,Y,h5⟩:=hr.obj j oj a;have s:c≠b:=fun S=>e<|hr.inj j id oj o c m n a A p<|S▸u
   have l:=hr.lt c y q;refine⟨c,m,y,p,by rw[z c l s];exact q,h3.mono<|Le.dV (ρ:=ρ) M,fun e=>d c l<|Y e,fun e=>?_⟩;obtain⟨cs,t,fz,T,V⟩:=h5 e;exact⟨cs,t,fz,T,M _ _ V⟩
 ·have r:∀k ok,AR (D3 ob id o') k=some ok->∃W,AR ob k=some W:=by
   intro k ok D;rw[g]at D;by_cases e:k=id
   ·exact⟨o,e▸A⟩
   ·rw[wc e]at D;exact⟨ok,D⟩
  obtain⟨_,v⟩:=r i oi hi;obtain⟨_,w⟩:=r j oj a;exact hr.inj i j _ _ c m m' v w p q
 ·rw[g]at a;by_cases e:j=id
  ·rw[wd e]at a;cases a
  ·rw[wc e]at a;exact hr.dead j a
 ·rw[z c (zh l hr.le)<|OG (hr.own id b n u).2 l L];exact hr.old c l L
 ·rcases P c cs l with p|p
  ·exact hr.fo c cs p
  ·exact .inr<|.inl<|zi hr.le p
 ·obtain⟨v,w,R⟩:=hr.pn c l;have s:c≠b:=fun e=>R id n<|e▸u
  exact⟨by rw[z c (hr.lt c _ v) s];exact v,w,R⟩
theorem rev_eq{α:Type}{a:List α}{x:α}{r:List α}(h:a.reverse=x::r):a=r.reverse++[x]:=by
 have:=wi List.reverse h;simpa using this
theorem Yt{nd:Bool}{g:FuncId}{w:ZA}(I:X.sp g=none)(d:LV X.C g w){Q:PV->Ob->Prop}{n:Nat}{args:List PV}{k:PV->AM->Tr}{args':List V}(a:Ev X Q n (WX w args st k))(hr:Rel B h0 F ρ st fr h)(P:Bi F ρ st.nx args args'):
  ∃l,NF X ρ h args' (.fn g) l/\(nd=false->∃x,l=[x])/\
   ∀x∈l,∃n',n'<=n/\∃r st',Ev X Q n' (k r st')/\∃F' ρ',PR F' ρ' st'.nx r x.1/\Dx B h0 F ρ st.nx h st' fr x.2 F' ρ'/\(∀sp,X.sp g=some sp->∀b,b<h.nx->x.2.get b=h.get b):=by
 unfold WX at a;split at a
 ·rename_i id sz nn r z;rw[rev_eq z]at P;obtain⟨a1,a2,rfl,E,A⟩:=P.split;simp only[Bi]at A;obtain⟨v,_,rfl,hv,rfl⟩:=A;obtain⟨F1,g1,g2,g3⟩:=handed hr.sr E;split at a
  case h_2=>exact wh a zg
  rename_i c i t s l Y ho;cases q:zj t w.ty with
  |false=>rw[q]at a;exact wh a zg
  |true=>
  rw[q]at a;simp only[we]at a;have q:=zl q;split at a
  case h_2=>exact wh a zg
  rename_i l' hl';obtain⟨e,rfl⟩:=CS hl';cases e;rcases a.Ff with⟨O,j⟩|⟨_,j⟩
  case inr=>exact wh j zg
  simp only[ze,w5]at O;obtain⟨⟨⟨rfl,p⟩,hn⟩,D⟩:=O;have D:=zl D;subst hn D q;obtain⟨e1,e2,e3⟩:=DK (r.reverse.flatMap zo) st;obtain⟨b,m,x,h1,h2,⟨cs,fz,rfl,k1,k2,k3⟩,h4,_⟩:=g1.obj id _ ho;simp only[PR]at hv;obtain⟨o,ho',rfl⟩:∃o,(o=0\/o=w.el.sz)/\v=.sl b (0*w.el.sz) (List.length l) (List.length l) o:=by
   rcases hv.2 b m h1 with⟨_,_,g⟩|⟨_,e,_⟩
   ·exact g
   ·cases e
  rw[Nat.zero_mul];obtain⟨x,M,W,q1,L,U,R,F',G,S,Z,cs',fz',f4,f5,f6⟩:=d.run F1 h a1 i l b cs fz o g1.frz hr.sr.lt hr.sr.gh (g3 _ i Y) p h2 k1 k2 (h4 rfl) ho';refine⟨[x],.Bp ⟨rfl,d.prim,d.fn⟩ W,fun _=>⟨x,rfl⟩,fun y T=>?_⟩;cases zc.1 T;refine⟨n,zd _,_,_,j,F',ρ,?_,⟨⟨⟨e3.trans hr.fp.n,fun t=>?_⟩,?_⟩,?_,L⟩,fun sp u=>by rw[I]at u;cases u⟩
  ·rw[q1];simp[PR]
  ·have:((By (r.reverse.flatMap zo) st).setObj id<|.arr false w.ty w.el<|w.g i l).get t=st.get t:=by
    show((By (r.reverse.flatMap zo) st).fr.get t).getD .any=_;rw[e2];rfl
   rw[this];refine(hr.fp.slot t).mono ?_;show Le F ρ st.nx F' ρ (By (r.reverse.flatMap zo) st).nx;rw[e1];exact Le.dV fun b cs K=>G b cs<|g2 b cs K
  ·exact g1.wrote ho h1 (hr.sr.lt _ _ h2) (h4 rfl) rfl f4 ⟨cs',fz',rfl,f5,f6,by rw[<-k3];exact d.len i l p⟩ U L R G S Z
  ·show Le F ρ st.nx F' ρ (By (r.reverse.flatMap zo) st).nx;rw[e1];exact Le.dV fun b cs K=>G b cs<|g2 b cs K
 ·rename_i r z;rw[rev_eq z]at P;obtain⟨a1,a2,rfl,E,A⟩:=P.split;simp only[Bi]at A;obtain⟨v,_,rfl,hv,rfl⟩:=A;simp only[PR]at hv;subst hv;obtain⟨F1,g1,g2,g3⟩:=handed hr.sr E;split at a
  case h_2=>exact wh a zg
  rename_i c i Y;rcases a.Ff with⟨O,j⟩|⟨_,j⟩
  case inr=>exact wh j zg
  simp only[ze]at O;obtain⟨rfl,p⟩:=O;obtain⟨e1,e2,e3⟩:=DK (r.reverse.flatMap zo) st;obtain⟨x,M,W,q1,L,U,R,F',G,S,Z⟩:=d.nils F1 h a1 i g1.frz hr.sr.lt hr.sr.gh (g3 _ i Y) p;have J:Le F ρ st.nx F' ρ (By (r.reverse.flatMap zo) st).nx:=by
   rw[e1];exact Le.dV fun b cs K=>G b cs<|g2 b cs K
  refine⟨[x],.Bp ⟨rfl,d.prim,d.fn⟩ W,fun _=>⟨x,rfl⟩,fun y T=>?_⟩;cases zc.1 T;refine⟨n,zd _,_,_,j,F',ρ,?_,⟨⟨⟨e3.trans hr.fp.n,fun t=>?_⟩,?_⟩,J,L⟩,fun sp u=>by rw[I]at u;cases u⟩
  ·rw[q1];simp[PR]
  ·have:(By (r.reverse.flatMap zo) st).get t=st.get t:=by unfold AM.get;rw[e2]
   rw[this];exact(hr.fp.slot t).mono J
  ·exact g1.after U L R G S Z
 ·exact wh a zg
theorem Lj(j:X.C.mg=false)(c:∀g sp,X.sp g=some sp->Af X.C g sp)(m:∀g w,X.ws g=some w->LV X.C g w):∀(d:Nat) (nd:Bool) (h0:H0),FJ B h0 X nd<|CI X nd d
 |0,nd,h0=>by intro a;exact wh a zg
 |d+1,nd,h0=>by
  rename_i Q n I args st k;intro a F ρ fr h args' hr t;unfold CI at a;cases I with
  |rnd id=>exact wh a zg
  |fn g=>
  simp only at a;have conv:(∃l,NF X ρ h args' (.fn g) l/\(nd=false->∃x,l=[x])/\
   ∀x∈l,∃n',n'<=n/\∃r st',Ev X Q n' (k r st')/\∃F' ρ',PR F' ρ' st'.nx r x.1/\Dx B h0 F ρ st.nx h st' fr x.2 F' ρ'/\(∀sp,X.sp g=some sp->∀b,b<h.nx->x.2.get b=h.get b))->
   ∃l,NF X ρ h args' (.fn g) l/\(nd=false->∃x,l=[x])/\
   ∀x∈l,∃n',n'<=n/\∃r st',Ev X Q n' (k r st')/\∃F' ρ',PR F' ρ' st'.nx r x.1/\Dx B h0 F ρ st.nx h st' fr x.2 F' ρ'/\(∀G,Cal.fn g=.fn G->∀sp,X.sp G=some sp->∀b,b<h.nx->x.2.get b=h.get b):=by
   rintro⟨l,T,h3,V⟩;refine⟨l,T,h3,fun x v=>?_⟩;obtain⟨n',J,r,st',R,F',ρ',Y,S,O⟩:=V x v;exact⟨n',J,r,st',R,F',ρ',Y,S,fun G e=>by cases e;exact O⟩
  obtain⟨o,q⟩:∃o,X.sp g=o:=⟨_,rfl⟩;cases o with
  |some sp=>
   rw[q]at a;simp only at a;cases s:(nd|| !sp.nd)with
   |false=>rw[s]at a;exact wh a zg
   |true=>
    rw[s]at a;exact conv (dE (nd:=nd) q (c g sp q) (fun e=>by rw[e]at s;simpa using s) a hr t)
  |none=>
   rw[q]at a;simp only at a;obtain⟨P,E⟩:∃o,X.ws g=o:=⟨_,rfl⟩;cases P with
   |some w=>rw[E]at a;exact conv (Yt q (m g w E) a hr t)
   |none=>
   rw[E]at a;simp only at a;cases i:X.esc.any (zj g)with
   |true=>
    rw[i]at a;simp only[we]at a;unfold AcP at a;split at a
    case h_2=>exact wh a zg
    rename_i id off;cases p:II (st.obj id)with
    |false=>rw[p]at a;exact wh a zg
    |true=>
     rw[p]at a;simp only[we]at a;obtain⟨g',A,s⟩:=zz.1 i;have e:=zl s;subst e;have hp:=X.escOk g A;obtain⟨o,ho⟩:=YB p;obtain⟨b,n',z,q1,_⟩:=hr.sr.at ho;simp only[Bi]at t;obtain⟨x,_,rfl,v,rfl⟩:=t;have u:=v;simp only[PR]at u;obtain rfl:=u.2 b n' q1;exact conv ⟨[(.ptr b off,h)],.prim hp rfl,fun _=>⟨_,rfl⟩,fun y W=>by
      cases zc.1 W;exact⟨n,zd _,_,st,a,F,ρ,v,Dx.refl hr,fun _ _ _ _=>rfl⟩⟩
   |false=>
   rw[i]at a;simp only[wg]at a;split at a
   case h_2=>exact wh a zg
   rename_i hp D;obtain⟨U,l,M,L,Z,K⟩:=JB (Lj j c m d nd) (Lj j c m d false) j D hp q a hr t;exact conv ⟨l,.Bp ⟨rfl,U⟩ L,Z,K⟩
theorem Ra{st:AM}:∀ {l:List Sh} {ps:List PV} {r:Bool×(BB l).T},DD st l ps=some r->l.length=ps.length
 |[],[],_,_=>rfl
 |[],_::_,_,h=>by cases h
 |[a],[p],_,_=>rfl
 |[a],[],_,h=>by cases h
 |[a],_::_::_,_,h=>by cases h
 |a::b::l,[],_,h=>by cases h
 |a::b::l,p::ps,_,h=>by
  unfold DD at h;split at h
  case h_2=>cases h
  rename_i d c;have:=Ra c;simp at this ⊢;exact this
def Iq(outs:List Sh)(v:PV):List PV:=match outs with
 |[_]=>[v]
 |_=>match v with
  | .tup vs=>vs
  |_=>[v]
def Iw(outs:List Sh)(v:PV)(ob:Ob):Option (Bool×(BB outs).T):=DD ⟨0,.leaf,ob,0⟩ outs<|Iq outs v
def Ends(X:AT)(t:Tr)(Q:PV->Ob->Prop):Prop:=∃n,Ev X Q n t
def Ad(sp:Am)(i:(BB sp.ins).T)(v:PV)(ob:Ob):Prop:=∃y,Iw sp.outs v ob=some (true,y)/\y=sp.f i
theorem Ym{v:PV}(h:lN v=true)(st st':AM):B3 st v=B3 st' v:=by
 cases v<;>first|rfl|cases h
theorem Jd(st st':AM):∀ {l:List PV},l.all lN=true->Dl st l=Dl st' l
 |[],_=>rfl
 |v::l,h=>by
  rw[zn,ze]at h;unfold Dl;rw[Ym h.1 st st',Jd st st' h.2]
theorem GR(st st':AM):∀ {l:List Sh} {ps:List PV},ps.all VU=true->DD st l ps=DD st' l ps
 |[],[],_=>rfl
 |[],_::_,_=>rfl
 |[_],[],_=>rfl
 |_::_::_,[],_=>rfl
 |[a],[p],h=>by
  rw[zn,ze]at h;show EB st a p=EB st' a p;unfold EB;rw[Jd st st' h.1]
 |[_],_::_::_,_=>rfl
 |a::b::l,p::ps,h=>by
  rw[zn,ze]at h;unfold DD EB;rw[Jd st st' h.1,GR st st' h.2]
theorem AaR{outs:List Sh}{v:PV}{ob:Ob}:Iw outs v (gcO v ob)=Iw outs v ob:=by
 unfold gcO;cases c:yQ v with
 |false=>rfl
 |true=>
  show Iw outs v []=Iw outs v ob;unfold Iw Iq;by_cases b:∃a,v=.tup a
  ·obtain⟨a,rfl⟩:=b;split
   ·rfl
   ·exact GR _ _ c
  ·have e:VU v=true:=by
    cases v with
    |tup a=>exact wh ⟨a,rfl⟩ b
    |_=>exact c
   have d:[v].all VU=true:=by rw[zn,e];rfl
   split
   ·exact GR _ _ d
   ·split
    ·rename_i a;exact wh ⟨a,rfl⟩ b
    ·exact GR _ _ d
theorem dD(z:X.C.mg=false)(c:∀g sp,X.sp g=some sp->Af X.C g sp)(J:∀g w,X.ws g=some w->LV X.C g w){f:FuncId}{sp:Am}{d:Nat}(hsp:X.C.spec f=none)(k:X.C.prim f=none)(Z:X.sp f=none)
  (hev:∀i,sp.pre i=true->Ends X (tree X sp.nd d f<|Ae sp.ins i) (Ad sp i)) (hfn:∃i,X.C.fn f=some i):Af X.C f sp:=by
 refine .of0 ⟨k,hfn,fun F h args i S R O A T=>?_⟩;obtain⟨n,he⟩:=hev i T;unfold tree at he;have hr:Rel h.nx ⟨h,F,[],fun _=>False⟩ F (fun _=>none) (Aw 0 [] [] 0) ⟨0,.leaf⟩ h:=by
  refine⟨⟨rfl,fun t=>?_⟩,⟨fun id o D=>(by cases D),fun id id' o o' b n n' D=>(by cases D),S,fun id b n m=>(by cases m),fun _ _=>rfl,fun _ _ _=>rfl,R,zd _,fun b cs m=>.inl m,fun x U=>⟨R _ _<|O x U,fun e=>e,O x U⟩,fun b m=>(by cases m)⟩⟩;show PR _ _ _ (((FZ []).get t).getD .any) _;have:(FZ []).get t=none:=PM.DB t;rw[this];simp[PR]
 obtain⟨_,l,M,hM,I,c⟩:=JB (Lj z c J d sp.nd) (Lj z c J d false) z hsp k Z he hr<|A _ _;refine⟨l,M,hM,I,fun x U=>?_⟩;obtain⟨n',hn,r,st',he',F',ρ',hp,hw,_⟩:=c x U;have hq:=he'.Y6;obtain⟨y,hy,rfl⟩:=hq;rw[AaR]at hy;have E:∀b,b<h.nx->x.2.get b=h.get b:=fun b m=>hw.rel.sr.old b m<|fun e=>e
 refine⟨hw.nx,E,hw.rel.sr.lt,?_⟩;have W:∃vs,Bi F' ρ' st'.nx (Iq sp.outs r) vs/\((∃a,sp.outs=[a])->vs=[x.1])/\((∀a,sp.outs≠[a])->(∃p,r=.tup p)->x.1=.tup vs):=by
  unfold Iq;split
  ·rename_i a v;exact⟨[x.1],by simp only[A6,Ch,ve];exact hp,fun _=>rfl,fun j=>wh v<|j _⟩
  ·rename_i j;split
   ·rename_i p;simp only[PR]at hp;obtain⟨cs,e,h1⟩:=hp;exact⟨cs,h1,fun⟨a,v⟩=>wh v<|j a,fun _ _=>e⟩
   ·rename_i Y;exact⟨[x.1],by simp only[A6,Ch,ve];exact hp,fun _=>rfl,fun _ ⟨p,V⟩=>wh V<|Y p⟩
 obtain⟨vs,q,L,P⟩:=W;obtain⟨F1,g1,g2,g3⟩:=handed (st:=st') hw.rel.sr q;have hob:∀id,Ep (AM.obj ⟨0,.leaf,st'.ob,0⟩ id) (st'.obj id):=fun id=>Ep.refl _
 have K:=g3 sp.outs _ (by rw[MN hob];exact hy);refine⟨F1,fun b cs m=>g2 b cs<|hw.le.fz b cs m,fun b cs m=>(g1.fo b cs m).imp_right<|fun h=>h.resolve_right<|fun e=>e,g1.frz,PW.2 ⟨vs,K,?_⟩⟩;have s:sp.outs.length=(Iq sp.outs r).length:=Ra hy;have hl2:=q.len;by_cases D:∃a,sp.outs=[a]
 ·rw[L D]
 ·have j:∀a,sp.outs≠[a]:=fun a v=>D ⟨a,v⟩
  have G:sp.outs.length≠1:=fun e=>by
   obtain⟨a,v⟩:=List.length_eq_one_iff.1 e;exact j a v
  have ht:∃p,r=.tup p:=by
   cases r with
   |tup p=>exact⟨p,rfl⟩
   |_=>
    exfalso;apply G;rw[s];unfold Iq;split<;>rfl
  rw[P j ht];split
  ·rename_i u;exact wh (s.trans hl2) G
  ·rfl
end
section
variable {X:AT}{Q Q':PV->Ob->Prop}
theorem Ends.leaf{v:PV}{ob:Ob}(h:Q v ob):Ends X (.leaf v ob) Q:=⟨0,.leaf h⟩
theorem Ends.ite{c:Bool}{a b:Tr}(g:c=true->Ends X a Q)(d:c=false->Ends X b Q):Ends X (.ite c a b) Q:=by
 cases c with
 |true=>obtain⟨n,h⟩:=g rfl;exact⟨n,.ite (fun _=>h)<|fun e=>by cases e⟩
 |false=>obtain⟨n,h⟩:=d rfl;exact⟨n,.ite (fun e=>by cases e)<|fun _=>h⟩
theorem Ends.tt{c:Bool}{a b:Tr}(d:c=true)(h:Ends X a Q):Ends X (.ite c a b) Q:=Ends.ite (fun _=>h) (fun e=>by rw[d]at e;cases e)
theorem Ends.ff{c:Bool}{a b:Tr}(d:c=false)(h:Ends X b Q):Ends X (.ite c a b) Q:=Ends.ite (fun e=>by rw[d]at e;cases e)<|fun _=>h
def stepT(X:AT):Tr->Tr
 | .loop nd ro d f base b st k=>body X nd ro d f base b st k
 | .cut nd ro d f base b st k=>AV X nd ro d f base b st k
 |t=>t
theorem Ends.step{t:Tr}(h:Ends X (stepT X t) Q):Ends X t Q:=by
 cases t with
 |loop=>obtain⟨n,h⟩:=h;exact⟨n+1,.loop h⟩
 |cut=>obtain⟨n,h⟩:=h;exact⟨n,.cut h⟩
 |_=>exact h
theorem Ends.eq{t a:Tr}(e:t=a)(h:Ends X a Q):Ends X t Q:=e▸h
theorem Ends.Ai{t a:Tr}(e:stepT X t=a)(h:Ends X a Q):Ends X t Q:=Ends.step<|e▸h
def Tr.L:Tr->Tr
 | .ite _ a _=>a
 | .both a _=>a
 |t=>t
def Tr.R:Tr->Tr
 | .ite _ _ b=>b
 | .both _ b=>b
 |t=>t
def re:Tr->AM->Tr
 | .loop nd ro d f base b _ k,st=>.loop nd ro d f base b st k
 | .cut nd ro d f base b _ k,st=>.cut nd ro d f base b st k
 |t,_=>t
def Xo:List (FuncId×Am)->FuncId->Option Am
 |[],_=>none
 |(g,s)::l,f=>bif zj g f then some s else Xo l f
def AdN:List (FuncId×List Nat)->FuncId->Nat->Bool
 |[],_,_=>false
 |(g,t)::l,f,r=>bif zj g f then t.any (zj r)else AdN l f r
def Aef:List (FuncId×List (Nat×List (Nat×Sh)))->FuncId->Nat->List (Nat×Sh)
 |[],_,_=>[]
 |(g,t)::l,f,r=>bif zj g f then fz1 t r else Aef l f r
 where fz1:List (Nat×List (Nat×Sh))->Nat->List (Nat×Sh)
 |[],_=>[]
 |(i,s)::l,r=>bif zj i r then s else fz1 l r
def AbN:List (FuncId×List (Nat×List Nat))->FuncId->Nat->List Nat
 |[],_,_=>[]
 |(g,t)::l,f,r=>bif zj g f then pl1 t r else AbN l f r
 where pl1:List (Nat×List Nat)->Nat->List Nat
 |[],_=>[]
 |(i,s)::l,r=>bif zj i r then s else pl1 l r
end
section
open Go.Proofs.Tryz (prog)
def O8(C:Ctx)(q:Yn):Ctx:=⟨C.T,C.ng,C.fn,C.prim,q,false⟩
theorem VZ{C:Ctx}{P:Program}(a:C.Ok P){q:Yn}(h:Lg P q):(O8 C q).Ok P where
 T:=a.T
 fn:=a.fn
 prim:=a.prim
 spec:=h
theorem QD{C:Ctx}(a:G4 C)(q:Yn):G4 (O8 C q):=a
def A8:Ctx:=O8 C7<|orS fmtS<|orS fO<|orS SN<|KV A7
theorem Acj:A8.Ok prog:=VZ aB<|Up vU<|Up jZ<|Up XO spA
theorem bZ:G4 A8:=QD ME _
def Aec:List (FuncId×List (Nat×List Nat)):=
 [(5,[(15,[3,5,8,9]),(13,[2,3,5,8,9]),(11,[2,3,5,6,7,8,9]),(9,[2,3,5,6,7,8,9,10]),(4,[2,3,5])]),
 (9,[(16,[1,6]),(17,[1,6]),(15,[1,6]),(11,[1,5]),(12,[1,5]),(10,[1,5]),(5,[1,3]),(6,[1,3]),(4,[1,3]),(3,[1])]),
 (10,[(18,[1,2,3,8]),(16,[1,2,3,8]),(14,[1,2,3,7]),(12,[1,2,3,7]),(9,[1,2,3,4,5,6]),(7,[1,2,3,4,5,6]),(5,[1,2,3,4]),(3,[1,2,3,4])]),
 (11,[(10,[1,4]),(11,[1,4]),(9,[1,4]),(5,[1,3]),(6,[1,3]),(4,[1,3]),(3,[1])]),
 (12,[(5,[1,2,3,4]),(3,[1,2,3,4])]),
 (13,[(6,[1,4]),(7,[1,4]),(5,[1,4]),(4,[1])]),
 (14,[(20,[1,5,6]),(28,[1,5,6]),(26,[1,3,5,6]),(24,[1,3,5,6]),(21,[1,5,6]),(19,[1,5,6]),(17,[1]),(12,[1,4]),(13,[1,4]),(11,[1,4]),(10,[1]),(8,[1,3]),(6,[1,3]),(3,[1])]),
 (15,[(35,[14,94,95,96]),(34,[14,16,94,95,96]),(30,[14,94,95,96]),(29,[14,94,95,96]),(27,[1]),(23,[1,8,47,48,49]),(22,[1,8,10,47,48,49]),(17,[1,8,47,48,49]),(16,[1,8,47,48,49]),(14,[1]),(10,[1,26,27,28]),(6,[1,26,27,28]),(5,[1,26,27,28]),(4,[1])]),
 (16,[(38,[1,5,10]),(44,[1,5,10]),(42,[1,5,10,11]),(39,[1,5,10]),(37,[1,5,10]),(35,[1]),(33,[1]),(18,[1,5,6]),(30,[1,5,6,7]),(25,[1,5,6,7,8,9]),(26,[1,5,6,7,8,9]),(24,[1,5,6,7,8,9]),(23,[1,5,6,7,8]),(19,[1,5,6]),(17,[1,5,6]),(15,[1]),(13,[1]),(7,[1,3]),(8,[1,3]),(6,[1,3]),(5,[1]),(3,[1])]),
 (29,[(8,[7,8,9,10,11]),(9,[7,8,9,10,11]),(7,[7,8,9,10,11]),(6,[7,8,9,10]),(4,[7,8,9,10])]),
 (33,[(5,[0,1])]),
 (34,[(5,[0,1])]),
 (40,[(13,[6]),(10,[0,1,6]),(5,[0,1]),(3,[0,1])]),
 (50,[(6,[5,6,7]),(3,[5,6,7]),(2,[5,6,7])]),
 (52,[(3,[0,6,7]),(2,[0,6])]),
 (57,[(13,[3,11,12,13]),(12,[3,5,11,12,13]),(10,[3,5,11,12,13]),(6,[3,11,12,13]),(5,[3,11,12,13]),(3,[0])]),
 (58,[(5,[0,3]),(6,[0,3]),(4,[0,3]),(3,[0])]),
 (60,[(7,[0,3]),(13,[0,3,4]),(11,[0,3,4]),(8,[0,3]),(6,[0,3]),(5,[0]),(3,[0])]),
 (61,[(5,[0,1,5]),(6,[0,1,5]),(4,[0,1,5]),(3,[0,1])]),
 (62,[(16,[]),(11,[3,4]),(9,[3,4]),(7,[3,4]),(4,[0,3])]),
 (64,[(10,[30,31,32]),(6,[30,31,32]),(5,[30,31,32]),(4,[1])]),
 (67,[(14,[1,4]),(17,[1,4]),(15,[1,4]),(13,[1,4]),(12,[1]),(10,[1]),(8,[1,3]),(6,[1,3]),(4,[1,3])]),
 (72,[(5,[6,8])]),
 (75,[(3,[2,3,4])]),
 (79,[(6,[8,10,11,12,13,14])]),
 (83,[(7,[4,5,6]),(13,[4,5,6,7]),(11,[4,5,6,7]),(8,[4,5,6]),(6,[4,5,6]),(3,[0])]),
 (86,[(14,[6,7,10,40,41,42]),(13,[6,7,10,12,13,40,41,42]),(10,[6,7,10,40,41,42]),(9,[6,7,10,40,41,42]),(4,[1,3,6,7,21,22,23]),(3,[1,3,6,7,21,22,23])]),
 (88,[(5,[0,1,5]),(6,[0,1,5]),(4,[0,1,5]),(3,[0,1])]),
 (91,[(15,[8,9]),(13,[6,8,9]),(10,[5,6,7]),(7,[5,6]),(4,[5])]),
 (93,[(9,[8,10]),(3,[2,3])]),
 (96,[(10,[3]),(7,[1,3,4]),(5,[1,3,4]),(3,[1])]),
 (97,[(7,[0,2,3,4,5]),(4,[0,2,3,4]),(3,[0,2,3,4])]),
 (98,[(2,[0,1]),(1,[0,1])]),
 (99,[(3,[0,1,5]),(2,[0,1,5])]),
 (122,[(9,[5,6,7]),(6,[5,6,7,8])]),
 (123,[(15,[5,23,24,25]),(14,[5,9,23,24,25]),(11,[5,6,7,23,24,25]),(7,[5,23,24,25]),(6,[5,23,24,25]),(4,[0])]),
 (126,[(11,[2,4]),(5,[0,2,3,4]),(4,[0,2,3,4])]),
 (128,[(3,[0,3]),(4,[0,3]),(2,[0,3])]),
 (130,[(2,[0,1]),(1,[0,1])]),
 (131,[(6,[0,1,7,8]),(3,[0,1,7,8]),(2,[0,1,7,8])]),
 (136,[(4,[1,4,5,9,10,11]),(3,[1,4,5,9,10,11])]),
 (140,[(5,[2,3,4]),(3,[2,3,4])]),
 (149,[(6,[0,2,3,4]),(5,[0,2,3,4]),(4,[0,2,3])]),
 (151,[(10,[0,3,4,11,12,13]),(8,[0,3,4,5,7,8]),(6,[0,3,4,5,7,8]),(3,[0,3,4,11,12,13]),(2,[0,3,4,11,12,13])]),
 (152,[(5,[0,3,4]),(3,[0,3,4])]),
 (154,[(15,[8,9,10,11,12,13]),(39,[8,9,10,11,12,13,14]),(35,[8,9,10,11,12,13,14,19,20]),(33,[8,9,10,11,12,13,14,19,20]),(20,[8,9,10,11,12,13,14,15,16]),(27,[8,9,10,11,12,13,14,15,16,18]),(21,[8,9,10,11,12,13,14,15,16]),(19,[8,9,10,11,12,13,14,15,16]),(16,[8,9,10,11,12,13]),(14,[8,9,10,11,12,13]),(11,[0,8,9,10,11]),(10,[0,8,9,10,11]),(6,[0,1]),(3,[0,1])]),
 (156,[(6,[0,1,5,6,7]),(4,[0,1,5,6,7])]),
 (157,[(7,[0,1,5]),(10,[0,1,5]),(8,[0,1,5]),(6,[0,1,5]),(5,[0,1]),(4,[])]),
 (158,[(5,[0,1,5,6,7]),(11,[0,1,5,6,7,8]),(6,[0,1,5,6,7]),(4,[0,1,5,6,7])]),
 (159,[(9,[0,1,5,6,7,8]),(7,[0,1,5,6,7,8]),(5,[0,1,5,6]),(3,[0,1,5,6])]),
 (168,[(6,[5,6,7]),(3,[5,6,7]),(2,[5,6,7])]),
 (170,[(3,[2,3,4]),(2,[2,3,4])]),
 (171,[(7,[6,7,8]),(3,[6,7,8]),(2,[6,7,8])]),
 (176,[(3,[1,2,4,5]),(6,[1,2,4,5]),(4,[1,2,4,5]),(2,[1,2,4,5])]),
 (181,[(8,[1,5,6,7,8,20,21,22,27,28,29]),(7,[1,5,6,7,8,20,21,22,27,28,29]),(4,[1,5,20,21,22]),(3,[1,5,20,21,22])]),
 (182,[(3,[0,3]),(4,[0,3]),(2,[0,3])]),
 (183,[(6,[0,1,7,8]),(3,[0,1,7,8]),(2,[0,1,7,8])]),
 (185,[(21,[6,10,11]),(19,[6,10,11]),(18,[6,10]),(13,[3,5,6,7,9]),(11,[3,5,6,7,9]),(7,[3,4,5,6]),(6,[3,4,5,6]),(3,[1])]),
 (186,[(12,[0,1,5,6,21,22]),(11,[0,1,5,6,7,8,21,22]),(7,[0,1,5,6,21,22]),(6,[0,1,5,6,21,22]),(3,[0,1])]),
 (187,[(7,[0,1,5]),(11,[]),(8,[0,1,5]),(6,[0,1,5]),(5,[0,1]),(4,[])]),
 (188,[(10,[0,1,5,6,13,14]),(9,[0,1,5,6,7,8,13,14]),(5,[0,1,5,6,13,14]),(4,[0,1,5,6,13,14])]),
 (189,[(3,[2,3,4])]),
 (190,[(12,[4,5,14,15]),(6,[2,3,4,5]),(5,[4,5,6,7])]),
 (192,[(6,[0,1,6,7,8]),(4,[0,1,6,7,8])]),
 (193,[(2,[0]),(1,[0])]),
 (194,[(5,[0,1,2,7,9,10]),(4,[0,1,2,7,9,10])]),
 (206,[(20,[0]),(19,[6]),(16,[5,6,47,48,49]),(15,[5,6,8,47,48,49]),(11,[5,6,47,48,49]),(10,[5,6,47,48,49]),(8,[0,5])]),
 (209,[(3,[0,3]),(2,[0,3])]),
 (212,[(26,[9,11,12,13,96,97]),(22,[9,11,12,13,96,97]),(21,[9,11,12,13,96,97]),(19,[9,10,11,12,13,14]),(17,[9,10,11,12,13,14]),(11,[0,1]),(9,[0,1,6,7,8]),(7,[0,1,6,7,8]),(3,[0,1])]),
 (231,[(3,[0,2,4]),(7,[0,2,4,5]),(4,[0,2,4]),(2,[0,2,4])]),
 (232,[(3,[0,1]),(2,[0,1]),(1,[0,1])]),
 (233,[(3,[0,1]),(2,[0,1]),(1,[0,1])]),
 (246,[(25,[2,8,9,10,14,15,16,17,18]),(24,[2,8,9,10,14,15,16,17,18]),(18,[2,8,9,10,11,13,14,15,16]),(17,[2,8,9,10,11,13,14,15,16]),(7,[0,1,2]),(5,[0,1,2]),(3,[0,1,2])]),
 (248,[(8,[1,5,12,13,14]),(4,[1,5,12,13,14]),(3,[1,5,12,13,14])]),
 (249,[(29,[0,1,5,6,17,156,157]),(28,[0,1,5,6,17,156,157]),(26,[0,1,5,6]),(16,[0,1,5,6,11,12,104,105]),(15,[0,1,5,6,11,12,104,105]),(11,[0,1,5,6,7]),(9,[0,1,5,6,7]),(8,[0,1,5,6,7,8])])]
def AaP:List FuncId:=[277]
theorem Z1:∀g∈AaP,A8.prim g=some PK.noEsc.run:=fun g h=>by
 cases h with
 |head=>kernel_rfl
 |tail _ h=>cases h
def X7(l:List (FuncId×Am)):AT:=⟨A8,Xo l,AbN Aec,fun _ _=>false,fun _ _=>[],fun _=>none,AaP,Z1⟩
def SS(cs:List (FuncId×List Nat))(fz:List (FuncId×List (Nat×List (Nat×Sh))))(t:List (FuncId×List (Nat×List Nat)))(l:List (FuncId×Am)):AT:=⟨A8,Xo l,AbN<|t++Aec,AdN cs,Aef fz,fun _=>none,AaP,Z1⟩
end
end Go.Pe
namespace Go.Sp
def first:List Int->Int
 |[]=>0
 |x::l=>if x≠0 then x else first l
def Cq(c:Bool)(e:Int):Int:=bif c then e else 0
end Go.Sp
namespace Go.Pe
open Go.Det
abbrev i64:Sh:=.int .i64
abbrev Ad0:Sh:=.list<|.int .i64
def Hb:Am:=⟨[Ad0],fun l=>decide (l.length<=1000000),[i64],fun l=>Sp.first l,false⟩
def G1:Am:=⟨[.bool,i64],fun _=>true,[i64],fun i=>Sp.Cq i.1 i.2,false⟩
def WT:AT:=X7 []
end Go.Pe
namespace Go.Sp
abbrev BJ:=Z
def has(l:List BJ)(x:BJ):Bool:=decide (x∈l)
end Go.Sp
namespace Go.Pe
open Go.Det
section
open List Int Prod
namespace T52
def T(s:Z):Tr:=tree WT false 9 52<|Ae ([Sh.str]) s
def L1(v0 a:Z):Tr:=re ((T []))<|Aw 37 [(0,.dat Sh.str v0),(6,.ptr 0 0)] [(0,Obj.siter a 0)] 1
theorem Aj(s:Z):T s=L1 s s:=by kernel_rfl
def L2(v0 b:Z)(a:Nat):Tr:=re ((stepT WT<|L1 [] []).L.L.L)<|Aw 37 [(0,.dat Sh.str v0),(6,.ptr 0 0)] [(0,Obj.siter b a)] 1
theorem Al(v0 a:Z):stepT WT (L1 v0 a)=let b':=L2 v0 a<|zx 0<|Kr a 0;let b:Tr:=.leaf (.bl false) [];let c:Tr:=.ite true b<|.ite (rune a 0 !=95) (.di (rune a 0<48) b<|.di (rune a 0>57) b b') b';let d:Tr:=.di (rune a 0>=65) (.ite (!decide (rune a 0<=90)) c b') c;.di (0<length a) (.di (rune a 0>=97) (.di (rune a 0<=122) b' d) d) (.ite (!v0==[]) (.leaf (.dat Sh.bool<|decide ((length v0:Int)<=24)) []) b):=by kernel_rfl
theorem AG(v0 b:Z)(a:Nat):stepT WT (L2 v0 b a)=let b':=L2 v0 b<|zx a<|Kr b a;let c:Tr:=.leaf (.bl false) [];let d:Tr:=.ite ((↑a:Int)==0) c<|.ite (rune b a !=95) (.di (rune b a<48) c<|.di (rune b a>57) c b') b';let e:Tr:=.di (rune b a>=65) (.ite (!decide (rune b a<=90)) d b') d;.di (a<length b) (.di (rune b a>=97) (.di (rune b a<=122) b' e) e) (.ite (!v0==[]) (.leaf (.dat Sh.bool<|decide ((length v0:Int)<=24)) []) c):=by kernel_rfl
end T52
end
section
variable {X:AT}{Q:PV->Ob->Prop}
@[simp] theorem AcE:Ends X .fail Q↔False:=⟨fun⟨_,h⟩=>zg h,fun h=>h.elim⟩
@[simp] theorem HC{v:PV}{ob:Ob}:Ends X (.leaf v ob) Q↔Q v ob:=⟨fun⟨_,h⟩=>h.Y6,fun h=>.leaf h⟩
@[simp] theorem Fu{c:Bool}{a b:Tr}:Ends X (.ite c a b) Q↔if c=true then Ends X a Q else Ends X b Q:=by
 constructor
 ·rintro⟨n,h⟩;rcases h.Ff with⟨d,h⟩|⟨d,h⟩
  ·rw[wd d];exact⟨n,h⟩
  ·rw[wc<|by simp[d]];exact⟨n,h⟩
 ·intro h;refine .ite (fun d=>?_)<|fun d=>?_
  ·rwa [wd d]at h
  ·rwa [wc<|by simp[d]]at h
theorem Ad.of{sp:Am}{i:(BB sp.ins).T}{v:PV}{ob:Ob}{c:Bool}{y:(BB sp.outs).T}(h:Iw sp.outs v ob=some (c,y))(a:c=true)(b:y=sp.f i):Ad sp i v ob:=⟨y,by rw[h,a],b⟩
@[simp] theorem Pc(s:Sh)(x:List s.T):Mn (Sh.leaves<|.list s) [.dat (.list s) x]=(true,[.dat (.list s) x]):=rfl
theorem wr(x:Int)(a: -9223372036854775808<=x)(b:x<=9223372036854775807):IntKind.wrap .i64 x=x:=IntWalk.i64_in x ⟨a,b⟩
theorem drop_cons{α:Type}{l r:List α}{x d:α}{i:Nat}(h:l.drop i=x::r):i<l.length/\l.getD i d=x/\l.drop (i+1)=r:=by
 have a:i<l.length:=by
  rcases Nat.lt_or_ge i l.length with c|c
  ·exact c
  ·rw[List.drop_eq_nil_of_le c]at h;cases h
 have b:=List.drop_eq_getElem_cons a;rw[h]at b;simp only[z8]at b;exact⟨a,by simp[a,b.1],b.2.symm⟩
end
theorem TT:∀g sp,WT.sp g=some sp->Af A8 g sp:=fun g sp h=>by cases h
abbrev CX(X:AT):Prop:=∀g sp,X.sp g=some sp->Af A8 g sp
theorem GP{X:AT}(o:X.C=A8)(b:∀g sp,X.sp g=some sp->Af A8 g sp){f:FuncId}{sp:Am}{d:Nat}(c:A8.spec f=none)(a:A8.prim f=none)(e:X.sp f=none)
  (m:∀i,sp.pre i=true->Ends X (tree X sp.nd d f<|Ae sp.ins i) (Ad sp i)) (l:∃i,A8.fn f=some i) (k:∀g w,X.ws g=some w->LV A8 g w:=by intro _ _ h;cases h):Af A8 f sp:=by
 have j:X.C.mg=false:=by rw[o];rfl
 rw[<-o]at*;exact dD j b k c a e m l
theorem Bd{α:Type}{o:Option α}(h:o.isSome=true):∃i,o=some i:=zy.1 h
theorem BR{X:AT}(b:CX X){f:FuncId}{sp:Am}(k:∀i,sp.pre i=true->Ends X (tree X sp.nd 9 f<|Ae sp.ins i) (Ad sp i))(l:X.C=A8:=by rfl)(c:A8.spec f=none:=by kernel_rfl)(a:A8.prim f=none:=by kernel_rfl)(d:X.sp f=none:=by kernel_rfl)(j:(A8.fn f).isSome=true:=by kernel_rfl)(e:∀g w,X.ws g=some w->LV A8 g w:=by intro _ _ h;cases h):Af A8 f sp:=GP l b c a d k (Bd j) e
theorem drop_nil{α:Type}{l:List α}{i:Nat}(h:l.drop i=[])(a:i<=l.length):i=l.length:=by
 have:=wi List.length h;simp at this;omega
theorem QA{α:Type}{l r:List α}{x:α}{i:Nat}(h:l.drop i=x::r):x∈l:=by
 have:x∈l.drop i:=by rw[h];simp
 exact List.mem_of_mem_drop this
theorem PJ(c:Int):zu c=true↔(97<=c/\c<=122)\/(65<=c/\c<=90)\/(48<=c/\c<=57)\/c=95:=by
 simp[zu,Sp.letter,or_assoc]
theorem KS(c:Int):Sp.letter c=true↔(97<=c/\c<=122)\/(65<=c/\c<=90):=by
 simp[Sp.letter]
namespace T52
variable {Q:PV->Ob->Prop}
theorem loop(s:Z)(b:s≠[]):∀(r:Z) (i:Nat),s.drop i=r->i<=s.length->1<=i->
  ((r.all fun c=>zu (c.toNat:Int))=false->∀ob,Q (.bl false) ob)->((r.all fun c=>zu (c.toNat:Int))=true->∀ob,Q (.dat .bool<|decide ((s.length:Int)<=24)) ob)->Ends WT (L2 s s i) Q
 |[],i,h,q,w,l,k=>by
  have:=drop_nil h q;refine Ends.Ai (AG ..) (Ends.ff (by simp;omega)<|Ends.tt (by simpa using b) ?_);exact Ends.leaf<|k rfl _
 |x::r,i,h,q,w,l,k=>by
  obtain⟨g,o,A⟩:=drop_cons (d:=0) h;refine Ends.Ai (AG ..) (Ends.tt (by simpa using g) ?_);have z:((i:Int)==0)=false:=by simp;omega
  simp only[Fu,HC,z,Bool.false_eq_true,vg,w5,Bool.not_eq_true',w9,bne_iff_ne,wm];have step:zu (x.toNat:Int)=true->Kr s i=1->Ends WT (L2 s s<|zx i<|Kr s i) Q:=by
   intro a y;rw[y];refine loop s b r (i+1) A g ae (fun e=>l<|by simp[e]) (fun e=>k<|by simp[e];exact a)
  have no:zu (x.toNat:Int)=false->∀ob,Q (.bl false) ob:=fun a=>l (by simp[a])
  by_cases p:(s.getD i 0).toNat<128
  ·obtain⟨v,u⟩:=U4 g p;rw[v,o];have m:=PJ (x.toNat:Int);generalize ((x.toNat:Nat):Int)=c at m step no ⊢;by_cases a:zu c=true
   ·have:=m.1 a;repeat' split
    all_goals first|exact step a u|(exfalso;omega)
   ·have j:zu c=false:=by simpa using a
    have:¬_:=fun h=>a<|m.2 h
    repeat' split
    all_goals first|exact no j _|(exfalso;omega)
  ·have hr:=Su g ae;have t:zu (x.toNat:Int)=false:=by
    have:¬zu (x.toNat:Int)=true:=fun h=>by
     have:=(PJ _).1 h;rw[o]at p;omega
    simpa using this
   repeat' split
   all_goals first|exact no t _|(exfalso;omega)
end T52
theorem MV{α:Type}{l r:List α}{x:α}{i:Nat}(h:l.drop i=x::r):l.take (i+1)=l.take i++[x]:=by
 have b:=(drop_cons (d:=x) h).1;have a:=(drop_cons (d:=x) h).2.1;rw[List.take_add_one];congr 1;have:l[i]?=some x:=by
  have e:=List.getElem?_eq_getElem b;rw[e];simp only[List.getD,e,Option.getD_some]at a;rw[a]
 rw[this];rfl
theorem AE{C:Ctx}:∀g sp,Xo [] g=some sp->Af C g sp:=fun g sp h=>by cases h
theorem Aa{C:Ctx}{b:FuncId}{c:Am}{l:List (FuncId×Am)}(h0:Af C b c)(d:∀g sp,Xo l g=some sp->Af C g sp):∀g sp,Xo ((b,c)::l) g=some sp->Af C g sp:=by
 intro g sp h;unfold Xo at h;cases a:zj b g with
 |true=>rw[a]at h;cases h;have:=zl a;subst this;exact h0
 |false=>rw[a]at h;exact d g sp h
theorem Hr{f:FuncId}{s t:List Sh}{g:(BB s).T->(BB t).T}{nd:Bool}(a:A8.prim f=none)(b:∃i,A8.fn f=some i):Af A8 f ⟨s,fun _=>false,t,g,nd⟩:=
 .of0 ⟨a,b,fun F h args i _ _ _ _ hp=>by cases hp⟩
theorem D0{α:Type}(A B:List α)(x d:α){n:Nat}(h:A.length=n):(A++x::B).getD n d=x:=by
 subst h;simp[List.getD]
theorem DN{α:Type}(A B:List α)(x y:α){n:Nat}(h:A.length=n):(A++x::B).set n y=A++y::B:=by
 subst h;simp
end Go.Pe
namespace Go.Sp
open Go.Pe (E2 imax)
theorem oN(a b:Int):E2 a b=min a b:=by unfold E2;split<;>omega
end Go.Sp
