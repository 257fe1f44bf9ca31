import Derived.Test.YtlohiljbghionaaGreatDoorX08
import Derived.Test.YtlohiljbghionaaGreatDoorX07
import Derived.Test.YtlohiljbghionaaGreatDoorX04
import Derived.IntWalk
import Derived.Test.YtlohiljbghionaaGreatDoorX01
/- A part of a proof (no law is stated here). Made by program out of texts by AI agents. -/
noncomputable section
open List renaming mem_singleton -> zc, getElem?_eq_some_iff -> zf, nodup_nil -> zk, mem_append -> zo, all_cons -> zy, any_eq_true -> zK, map_cons -> zP, mem_cons -> zQ, mem_map -> zS
open Nat renaming le_refl -> zd, lt_of_lt_of_le -> zh, le_trans -> zi, beq -> zj, eq_of_beq_eq_true -> zl, le_of_ble_eq_true -> zp, add -> zx, blt -> zL, beq_refl -> zR
open Bool renaming and_eq_true -> ze, and_true -> zq
open Go.Pe.Ev renaming AB -> zg
open Option.some renaming injEq -> zm
open Go.Pe.PV renaming cells -> zn
open Go.Pe.Le renaming refl -> zr
open Go.Sp renaming mark -> zt
open Go.Pe.Obj renaming siter -> zu
open Go.Pe renaming apart -> zw
open Option renaming isSome_iff_exists -> zz, map_eq_some_iff -> zM
open List.cons renaming injEq -> zN
open Go.Det.V renaming beq -> zO
namespace Go.Pe
open Go.Det
section
variable {B:Nat}{h0:H0}{F:Fz}{ρ:DM}{N:Nat}{X:AW}{st st':AG}{fr:Fr}{h h':H}{Q:PV->Ob->Prop}{n:Nat}
mutual
theorem Lg:∀v:V,zO v v=true
 | .bool b=>by simp[zO]
 | .int k n=>by simp[zO]
 | .str s=>by simp[zO]
 | .nilp=>rfl
 | .ptr a i=>by simp[zO]
 | .nils=>rfl
 | .sl a b c d e=>by simp[zO]
 | .esl=>rfl
 | .es0=>rfl
 | .junk=>rfl
 | .nilm=>rfl
 | .map a=>by simp[zO]
 | .yld a=>by simp[zO]
 | .nilf=>rfl
 | .nili=>rfl
 | .fn f a b=>by simp only[zO,Ff a,Ff b,zq,wj]
 | .iface t x=>by simp only[zO,Lg x,zq];exact zR t
 | .agg a=>by simp only[zO];exact Ff a
 | .tup a=>by simp only[zO];exact Ff a
theorem Ff:∀vs:List V,V.JF vs vs=true
 |[]=>rfl
 |v::vs=>by simp only[V.JF,Lg v,Ff vs,zq]
end
theorem YD{T:BR}{t:TypeId}{a x:V}(c:Ex T h t a=some x):∃b off o,a=.ptr b off/\h.get b=some o/\(∀g:H,g.get b=h.get b->Ex T g t a=some x)/\
  ∀(g:H) cs k m t2 l,h.get b=some (.cells cs k m)->g.get b=some (.cells cs t2 l)->Ex T g t a=some x:=by
 unfold Ex at c;split at c
 case h_2=>cases c
 rename_i b off d i p j;have q:∃o,h.get b=some o:=by
  cases e:h.get b with
  |some o=>exact⟨o,rfl⟩
  |none=>
   unfold rd at c;rw[e]at c;cases DB d<;>simp at c
 obtain⟨o,r⟩:=q;refine⟨b,off,o,rfl,r,fun g e=>?_,fun g cs k m t2 l u s=>?_⟩
 ·unfold Ex;simp only[p,j];unfold rd at c ⊢;rw[e];exact c
 ·unfold Ex;simp only[p,j];unfold rd at c ⊢;rw[u]at c;rw[s];exact c
def QU(C:Ctx)(F:Fz)(bl:List Nat)(h:H)(fr:Fr)(o:Oper)(x:V):Prop:=
 ∀g:H,(∀b cs,F b=some cs->∃t fz,g.get b=some (.cells cs t fz))->(∀b∈bl,g.get b=h.get b)->∃z,FH C fr g o=some (.val x z)
theorem Vf:∀ {s:Sh} {x:s.T} {cs:List V} {b:Nat},DC F s x cs->V.map b∉cs
 | .int _,_,_,_,h,hm=>by simp only[DC]at h;subst h;cases zc.1 hm
 | .bool,_,_,_,h,hm=>by simp only[DC]at h;subst h;cases zc.1 hm
 | .str,_,_,_,h,hm=>by simp only[DC]at h;subst h;cases zc.1 hm
 | .list s,l,_,_,h,hm=>by
  simp only[DC]at h;obtain⟨v,rfl,h⟩:=h;obtain rfl:=zc.1 hm;rcases h with⟨_,h|h|h⟩|⟨b,off,cap,o,e,h,_⟩<;>cases h
 | .pair a b,x,_,_,h,hm=>by
  simp only[DC]at h;obtain⟨c,d,rfl,g,i⟩:=h;rcases zo.1 hm with hm|hm
  ·exact Vf g hm
  ·exact Vf i hm
 | .unit,_,_,_,h,hm=>by simp only[DC]at h;subst h;cases hm
 | .fnv,x,_,_,h,hm=>by simp only[DC]at h;subst h;have:=zc.1 hm;revert this;cases (x:Option Fn)<;>intro h<;>cases h
 | .ptr _,x,_,_,h,hm=>by simp only[DC]at h;obtain⟨b,o,e,rfl,_⟩:=h;cases zc.1 hm
 | .nlist s,l,_,_,h,hm=>by
  simp only[DC]at h;obtain⟨v,rfl,h⟩:=h;obtain rfl:=zc.1 hm;rcases h with⟨_,h⟩|⟨_,b,off,cap,o,e,h,_⟩<;>cases h
theorem Ux{s:Sh}{x:s.T}{b:Nat}(a:PR F ρ N (.dat s x) (.map b)):False:=by
 simp only[PR]at a;exact Vf a<|zc.2 rfl
theorem UC{b:Nat}(a:PR F ρ N .nil (.map b)):False:=by
 simp only[PR]at a;cases a
theorem cE(m:SR B h0 F ρ st.nx st.ob h){o:Oper}{c:Call}(i:o.op=.call c)(e:c.callee=.builtin .len){id sz off len:Nat}{cap:Option Nat}(g:K8 st c.args.toList=some [.sl id sz off len cap]){u:PV}{s:AG}
  (a:(pop o.op X.C.T st).To u s) {b:Nat} (j:PR F ρ st.nx (.sl id sz off len cap) (.map b)):False:=by
 rw[i]at a;simp only[pop,Qq,g,e,HC,jQ,SI,zP,List.map_nil,lz]at a;split at a
 case h_2=>simp at a
 rename_i t x _ d;cases d;split at a
 case h_3=>
  rename_i d;cases d;cases k:Hu (st.obj id)with
  |false=>rw[k]at a;simp at a
  |true=>
   obtain⟨b',n,l⟩:=m.live k;simp only[PR]at j;rcases j.2 b' n l with⟨_,_,o,_,h⟩|⟨_,_,_,h|⟨_,h,_⟩⟩<;>cases h
 all_goals first|(simp at a;done)|(rename_i d;cases d;done)|(rename_i d _;cases d)
theorem NC{T:BR}{ts:Array TypeId}{a:V}{g:H}(c:∀b,a≠ .map b)(h:H):Fm T g ts [a]=Fm T h ts [a]:=by
 unfold Fm;cases ts[0]? with
 |none=>rfl
 |some t=>
  simp only;cases T.und t with
  |none=>cases a<;>rfl
  |some d=>cases d<;>cases a<;>first|rfl|(rename_i b;exact wh rfl (c b))|(rename_i b _;exact wh rfl (c b))|(rename_i b _ _;exact wh rfl (c b))
theorem X8(R:Rel B h0 F ρ st fr h){o:Oper}{x:V}(D:FH X.C fr h o=some (.val x h)){l:List Nat}(P:gV st o.op=some l)(hto:∃u s,(pop o.op X.C.T st).To u s):
  ∃bl,QU X.C F bl h fr o x/\∀b∈bl,b<h.nx/\∃id∈l,id<st.nx/\∀y,ρ id=some y->y.1=b:=by
 unfold gV at P;rw[CG]at D;unfold FY at D;split at P
 case h_5=>cases P
 case h_4 t y i ok r=>
  simp only[r]at D;have m:∀g,FH X.C fr g o=(match ev X.C fr y,ev X.C fr i with|some v,some u=>Bp g (Ek X.C.T g t v u ok)|_,_=>none):=fun g=>by rw[CG];unfold FY;simp only[r];rfl
  cases M:ev X.C fr y with
  |none=>rw[M]at D;cases D
  |some a=>
   cases hi:ev X.C fr i with
   |none=>rw[M,hi]at D;cases D
   |some u=>
    rw[M,hi]at D;simp only at D;obtain⟨x',q,G⟩:=FF D;cases G;have L:∀g:H,entries g a=entries h a->Ek X.C.T g t a u ok=some x:=by
     intro g J;unfold Ek at q ⊢;rw[J];exact q
    split at P
    case h_3=>cases P
    case h_1=>
     rename_i id S;obtain⟨a',E,p⟩:=B2 (C:=X.C) R.fp S;rw[M]at E;cases E;have hent:∃es,entries h a=some es:=by
      unfold Ek at q;split at q
      case h_2=>cases q
      split at q
      case h_2=>cases q
      rename_i es _ G;exact⟨es,G⟩
     obtain⟨es,G⟩:=hent;cases P;by_cases K:∃b,a=.map b
     ·obtain⟨b,rfl⟩:=K;have O:∃ob,h.get b=some ob:=by
       cases J:h.get b with
       |none=>simp[entries,J]at G
       |some ob=>exact⟨ob,rfl⟩
      obtain⟨ob,O⟩:=O;simp only[PR]at p;refine⟨[b],fun g _ J=>⟨g,?_⟩,fun b' A=>?_⟩
      ·rw[m,M,hi];simp only;rw[L g<|by simp only[entries,J b<|zc.2 rfl]];rfl
      ·cases zc.1 A;refine⟨R.sr.lt b ob O,id,zc.2 rfl,p.1,fun z Z=>?_⟩;have:=p.2 z.1 z.2 Z;cases this;rfl
     ·refine⟨[],fun g _ J=>⟨g,?_⟩,fun b' A=>by cases A⟩;rw[m,M,hi];simp only;rw[L g ?_];rfl;cases a<;>first|rfl|(rename_i b;exact wh ⟨b,rfl⟩ K)
    case h_2=>
     rename_i S;obtain⟨a',E,p⟩:=B2 (C:=X.C) R.fp S;rw[M]at E;cases E;simp only[PR]at p;subst p;cases P;refine⟨[],fun g _ J=>⟨g,?_⟩,fun b' A=>by cases A⟩;rw[m,M,hi];simp only;rw[L g rfl];rfl
 case h_1 t y r=>
  simp only[r]at D;have m:∀g,FH X.C fr g o=(match ev X.C fr y with|some v=>Bp g (Ex X.C.T g t v)|none=>none):=fun g=>by rw[CG];unfold FY;simp only[r];rfl
  cases M:ev X.C fr y with
  |none=>rw[M]at D;cases D
  |some a=>
   rw[M]at D;simp only at D;obtain⟨x',q,G⟩:=FF D;cases G;obtain⟨b,off,ob,rfl,O,L,hfz⟩:=YD q;have hblt:=R.sr.lt b ob O;have live:∀id,id<st.nx->(∀z,ρ id=some z->z.1=b)->l=[id]->∃bl,QU X.C F bl h fr o x/\∀b∈bl,b<h.nx/\∃id∈l,id<st.nx/\∀y,ρ id=some y->y.1=b:=by
    rintro id hlt hid rfl;refine⟨[b],fun g _ J=>⟨g,?_⟩,fun b' A=>?_⟩
    ·rw[m,M];simp only;rw[L g<|J b<|zc.2 rfl];rfl
    ·cases zc.1 A;exact⟨hblt,id,zc.2 rfl,hlt,hid⟩
   split at P
   case h_4=>cases P
   case h_1=>
    rename_i id Y S;obtain⟨a',E,p⟩:=B2 (C:=X.C) R.fp S;rw[M]at E;cases E;simp only[PR]at p;refine live id p.1 (fun z Z=>?_) (by cases P;rfl);have:=p.2 z.1 z.2 Z;cases this;rfl
   case h_2=>
    rename_i id sz j Y S;obtain⟨a',E,p⟩:=B2 (C:=X.C) R.fp S;rw[M]at E;cases E;simp only[PR]at p;refine live id p.1 (fun z Z=>?_) (by cases P;rfl);have:=p.2 z.1 z.2 Z;cases this;rfl
   case h_3=>
    rename_i s y' Y S;obtain⟨a',E,p⟩:=B2 (C:=X.C) R.fp S;rw[M]at E;cases E;simp only[PR]at p;obtain⟨b',o',cs,G,hF,_⟩:=p;cases G;obtain⟨t1,f1,k1⟩:=R.sr.frz b cs hF;refine⟨[],fun g J _=>⟨g,?_⟩,fun b' A=>by cases A⟩;obtain⟨t2,f2,k2⟩:=J b cs hF;rw[m,M];simp only;rw[hfz g cs t1 f1 t2 f2 k1 k2];rfl
 case h_2 s d y r=>
  simp only[r]at D;have m:∀g,FH X.C fr g o=(match ev X.C fr y with|some v=>Bp g (Fc X.C.T g s d v)|none=>none):=fun g=>by rw[CG];unfold FY;simp only[r];rfl
  have fin:∀a,ev X.C fr y=some a->(∀g,Fc X.C.T g s d a=Fc X.C.T h s d a)->∃bl,QU X.C F bl h fr o x/\∀b∈bl,b<h.nx/\∃id∈l,id<st.nx/\∀y,ρ id=some y->y.1=b:=by
   intro a ha J;rw[ha]at D;simp only at D;obtain⟨x',q,G⟩:=FF D;cases G;exact⟨[],fun g _ _=>⟨g,by rw[m,ha];simp only;rw[J,q];rfl⟩,fun b O=>by cases O⟩
  split at P
  case h_3=>cases P
  case h_1=>
   rename_i k z S;obtain⟨a',E,p⟩:=B2 (C:=X.C) R.fp S;simp only[PR,DC,zN,vc]at p;subst p;exact fin _ E fun g=>by
    unfold Fc;cases X.C.T.und s with
    |none=>rfl
    |some u=>cases X.C.T.und d with
     |none=>cases u<;>rfl
     |some w=>cases u<;>cases w<;>rfl
  case h_2=>
   rename_i z S;obtain⟨a',E,p⟩:=B2 (C:=X.C) R.fp S;simp only[PR,DC,zN,vc]at p;subst p;exact fin _ E fun g=>by
    unfold Fc;cases X.C.T.und s with
    |none=>rfl
    |some u=>cases X.C.T.und d with
     |none=>cases u<;>rfl
     |some w=>cases u<;>cases w<;>rfl
 case h_3 c r=>
  simp only[r]at D;split at P
  case h_5=>cases P
  case h_4=>
   rename_i id I U;obtain⟨zJ,E,p⟩:=EB (C:=X.C) R.fp U;simp only[A9]at p;obtain⟨a,as',rfl,p,rfl⟩:=p;have m:∀g,FH X.C fr g o=Bp g (Fm X.C.T g c.argTypes [a]):=fun g=>by rw[CG];unfold FY;simp only[r,I,E];rfl
   simp only[I,E,DZ]at D;obtain⟨x',q,G⟩:=FF D;cases G;cases P;by_cases K:∃b,a=.map b
   ·obtain⟨b,rfl⟩:=K;simp only[PR]at p;by_cases O:∃ob,h.get b=some ob
    ·obtain⟨ob,O⟩:=O;refine⟨[b],fun g _ J=>⟨g,?_⟩,fun b' A=>?_⟩
     ·rw[m];have:Fm X.C.T g c.argTypes [.map b]=Fm X.C.T h c.argTypes [.map b]:=by
       unfold Fm;cases c.argTypes[0]? with
       |none=>rfl
       |some t=>
        simp only;cases X.C.T.und t with
        |none=>rfl
        |some d=>cases d<;>first|rfl|simp only[J b<|zc.2 rfl]
      rw[this,q];rfl
     ·cases zc.1 A;refine⟨R.sr.lt b ob O,id,zc.2 rfl,p.1,fun z Z=>?_⟩;have:=p.2 z.1 z.2 Z;cases this;rfl
    ·have hnone:h.get b=none:=by
      cases J:h.get b with
      |none=>rfl
      |some ob=>exact wh ⟨ob,J⟩ O
     refine⟨[],fun g _ _=>⟨g,?_⟩,fun b' A=>by cases A⟩;obtain⟨uu,s,W⟩:=hto;exfalso;rw[r]at W;simp only[pop,Qq,U,I,HC,jQ,SI,zP,List.map_nil,lz]at W;split at W
     case h_2=>simp at W
     rename_i t x _ G;cases G;split at W
     case h_5=>
      rename_i G;cases G;split at W
      case h_2=>simp at W
      rename_i ks vs l ho;obtain⟨b1,n1,o1,q1,q2,_⟩:=R.sr.at ho;have:=p.2 b1 n1 q1;cases this;rw[hnone]at q2;cases q2
     all_goals first|(simp at W;done)|(rename_i G;cases G;done)|(rename_i G _;cases G)
   ·refine⟨[],fun g _ _=>⟨g,?_⟩,fun b O=>by cases O⟩;rw[m,NC (fun b e=>K ⟨b,e⟩) h,q];rfl
  all_goals
   rename_i I U;obtain⟨zJ,E,p⟩:=EB (C:=X.C) R.fp U;simp only[A9]at p;obtain⟨a,as',rfl,p,rfl⟩:=p;have m:∀g,FH X.C fr g o=Bp g (Fm X.C.T g c.argTypes [a]):=fun g=>by rw[CG];unfold FY;simp only[r,I,E];rfl
   simp only[I,E,DZ]at D;have hnm:∀b,a≠ .map b:=by
    intro b e;subst e;first
     |exact Ux p
     |exact UC p
     |(obtain⟨u,s,W⟩:=hto
       exact cE R.sr r I U W p)
   obtain⟨x',q,G⟩:=FF D;cases G;refine⟨[],fun g _ _=>⟨g,?_⟩,fun b O=>by cases O⟩;rw[m];rw[NC hnm h,q];rfl
structure cJ(C:Ctx)(F:Fz)(ρ:DM)(N:Nat)(h:H)(r:Nat×Option (List Nat))(c:Rc):Prop where
 i:c.i=r.1
 k:∀l,r.2=some l->∃bl,QU C F bl h c.f c.o c.v/\∀b∈bl,b<h.nx/\∃id∈l,id<N/\∀y,ρ id=some y->y.1=b
def TP(C:Ctx)(F:Fz)(ρ:DM)(N:Nat)(h:H):Rs->List Rc->Prop
 |[],l=>l=[]
 |r::a,l=>∃c cs,l=c::cs/\cJ C F ρ N h r c/\TP C F ρ N h a cs
theorem cJ.mono{F':Fz}{ρ':DM}{N':Nat}{r:Nat×Option (List Nat)}{c:Rc}(p:cJ X.C F ρ N h r c)(e:Le F ρ N F' ρ' N')(t:h.nx<=h'.nx)
  (x:∀l,r.2=some l->∀b,b<h.nx->(∃id∈l,id<N/\∀y,ρ id=some y->y.1=b)->h'.get b=h.get b):cJ X.C F' ρ' N' h' r c:=by
 refine⟨p.i,fun l d=>?_⟩;obtain⟨bl,u,o⟩:=p.k l d;refine⟨bl,fun g s v=>u g (fun b cs A=>s b cs<|e.fz b cs A)<|fun b a=>?_,fun b a=>?_⟩
 ·obtain⟨m,j⟩:=o b a;rw[v b a,x l d b m j]
 ·obtain⟨m,id,j,q,z⟩:=o b a;exact⟨zh m t,id,j,zh q e.n,fun y w=>z y<|e.at q w⟩
theorem TP.mono{F':Fz}{ρ':DM}{N':Nat}(g:Le F ρ N F' ρ' N')(e:h.nx<=h'.nx)(i:∀b,b<h.nx->h'.get b=h.get b):∀ {a:Rs} {cs:List Rc},TP X.C F ρ N h a cs->TP X.C F' ρ' N' h' a cs
 |[],_,d=>d
 |r::a,_,d=>by
  obtain⟨c,cs,rfl,j,k⟩:=d;exact⟨c,cs,rfl,j.mono g e<|fun l _ b m _=>i b m,TP.mono g e i k⟩
theorem TP.apart{F':Fz}{ρ':DM}{fr':Fr}{anc:Nat->Nat->Bool}{i:Nat}{t:Option (List Nat)}(A:Rel B h0 F ρ st fr h)(q:C4 B h0 F ρ st.nx h st' fr' h' F' ρ')
  (O:∀d,t=some d->∀b,b<h.nx->h'.get b=h.get b\/∃id∈d,∃m,ρ id=some (b,m)):
  ∀ {w:Rs} {cs:List Rc},TP X.C F ρ st.nx h w cs->zw anc i st t w=true->cs.all (still X.C anc i h')=true/\TP X.C F' ρ' st'.nx h' (behind st t w) cs
 |[],_,L,_=>by
  cases L;exact⟨rfl,rfl⟩
 |r::w,_,L,p=>by
  obtain⟨c,cs,rfl,v,T⟩:=L;unfold zw at p;rw[zy,ze]at p;obtain⟨h3,h4⟩:=TP.apart A q O T (by unfold zw;exact p.2);have key:(WZ r.2 t&&Kr st r.2)=true->∀l,r.2=some l->∀b,b<h.nx->(∃id∈l,id<st.nx/\∀y,ρ id=some y->y.1=b)->h'.get b=h.get b:=by
   rintro j l o b x ⟨id,u,I,U⟩;simp only[ze,o]at j;have g:=List.all_eq_true.1 j.2 id u;obtain⟨D,W,P⟩:=A.sr.live g;obtain rfl:D=b:=U _ P;cases t with
   |none=>
    cases l with
    |nil=>cases u
    |cons a l=>cases j.1
   |some d=>
    rcases O d rfl D x with e|⟨id',Y,m,J⟩
    ·exact e
    ·exfalso;obtain⟨o1,S⟩:=HM g;have E:∃s,AH st.ob id'=some s:=by
      cases R:AH st.ob id' with
      |some s=>exact⟨s,rfl⟩
      |none=>rw[A.sr.dead id' R]at J;cases J
     obtain⟨s,E⟩:=E;obtain rfl:=A.sr.inj id id' o1 s D W m S E P J;have M:=List.all_eq_true.1 j.1 id u;simp only[Bool.not_eq_true']at M;have V:d.any (zj id)=true:=zK.2 ⟨id,Y,zR id⟩;rw[V]at M;cases M
  refine⟨?_,c,cs,rfl,?_,h4⟩
  ·rw[zy,h3,zq];unfold still;rw[v.i];cases K:anc i r.1 with
   |true=>rfl
   |false=>
    rw[K]at p;simp only[Bool.false_or]at p ⊢;have j:=p.1;have o:∃l,r.2=some l:=by
     cases G:r.2 with
     |some l=>exact⟨l,rfl⟩
     |none=>rw[G]at j;simp[WZ]at j
    obtain⟨l,o⟩:=o;obtain⟨bl,u,I⟩:=v.k l o;obtain⟨z,hz⟩:=u h' (fun b cs Z=>q.rel.sr.frz b cs<|q.le.fz b cs Z)<|fun b x=>key j l o b (I b x).1 (I b x).2;rw[hz];simp only;exact Lg _
  ·show cJ X.C F' ρ' st'.nx h' (bif WZ r.2 t&&Kr st r.2 then r else(r.1,none)) c;cases j:(WZ r.2 t&&Kr st r.2)with
   |true=>exact v.mono q.le q.nx<|key j
   |false=>
    exact⟨v.i,fun l o=>by cases o⟩
theorem OG{C:Ctx}{o:Oper}(g:Ce o=true){r:OR}(a:FH C fr h o=some r):∃ob f,Yo C fr o=some (ob,f)/\r=.val (f h.nx) (h.push ob):=by
 rw[CG]at a;unfold FY at a;unfold Ce at g;unfold Yo;split at g
 case h_4=>cases g
 case h_1 t b=>
  simp only[b]at a ⊢;unfold F4 at a;cases d:C.T.inf t with
  |none=>rw[d]at a;cases a
  |some i=>rw[d]at a;cases a;exact⟨_,_,rfl,rfl⟩
 case h_2 t x b=>
  simp only[b]at a ⊢;cases c:ev C fr x with
  |none=>rw[c]at a;cases a
  |some y=>rw[c]at a;cases a;exact⟨_,_,rfl,rfl⟩
 case h_3 t n ps b=>
  simp only[b]at a ⊢;cases c:UI C fr ps.toList with
  |none=>rw[c]at a;cases a
  |some y=>
   rw[c]at a;simp only at a ⊢;unfold En at a;unfold TM;split at a
   case h_2=>cases a
   rename_i e l;simp only[l];split at a
   case h_2=>cases a
   rename_i i d;simp only[d];cases k:(Nat.ble (n*i.size) 16777216&&zL 0 (i.zero.length)&&zj i.zero.length i.size)with
   |false=>rw[k]at a;cases a
   |true=>
    rw[k]at a;simp only[we]at a ⊢;split at a
    case h_2=>cases a
    rename_i cs j;cases a;simp only[j];exact⟨_,_,rfl,rfl⟩
theorem tS{T:BR}{call:Fa}{st:AG}{o:Oper}{k:AG->Tr}(a:DW o=true):Hd T call o st k=OP o.dst k (pop o.op T st):=by
 have:Jz st o.op=.no:=by
  unfold DW at a;unfold Jz;cases b:o.op<;>rw[b]at a<;>first|rfl|skip
  case call c=>
   obtain⟨callee,args,ts⟩:=c;cases callee<;>first|rfl|(cases a)
 unfold Hd;rw[this]
theorem qB{call:Fa}(e:EN B h0 X false call)(r:Rel B h0 F ρ st fr h){o:Oper}(a:DW o=true){k:AG->Tr}(j:Ev X Q n (Hd X.C.T call o st k)):
  ∃n',n'<=n/\∃c,Ev X Q n' (k c)/\∃F' ρ' x fr',FH X.C fr h o=some (.val x h)/\fr.put o.dst x=some fr'/\C4 B h0 F ρ st.nx h c fr' h F' ρ'/\∃u s,(pop o.op X.C.T st).To u s:=by
 obtain⟨l,i,m,g⟩:=GO e r j;obtain⟨⟨⟨x,h'⟩,rfl⟩,_⟩:=m.1 rfl;obtain⟨n',hn,c,he1,F',ρ',fr',hput,hw,_⟩:=g _<|zc.2 rfl;have p:∃u s,(pop o.op X.C.T st).To u s:=by
  rw[tS a]at j;obtain⟨u,s,_,q,_⟩:=Ir j;exact⟨u,s,q⟩
 cases i with
 |val b=>
  obtain⟨y,d⟩:=rd_val a b;cases d;exact⟨n',hn,c,he1,F',ρ',x,fr',b,hput,hw,p⟩
 |skip b=>obtain⟨y,d⟩:=rd_val a b;cases d
 |call b _=>obtain⟨y,d⟩:=rd_val a b;cases d
 |round b _=>obtain⟨y,d⟩:=rd_val a b;cases d
 |alts b=>obtain⟨y,d⟩:=rd_val a b;cases d
theorem Oq{call:Fa}(z:EN B h0 X false call){ops:Array Oper}{anc:Nat->Nat->Bool}:∀ {L:List Nat} {n:Nat} {st:AG} {F:Fz} {ρ:DM} {fr:Fr} {h:H} {k:AG->Tr} {Y:Rs} {cs:List Rc},Rel B h0 F ρ st fr h->TP X.C F ρ st.nx h Y cs->
  Ev X Q n (Jf X.C.T X.sp call ops anc L st Y k)->
  ∃n',n'<=n/\∃p,Ev X Q n' (k p)/\∃F' ρ' fr' h',C4 B h0 F ρ st.nx h p fr' h' F' ρ'/\∃M,∀m,M<=m->∃cs',Sz X.C (Be X.C m) ops anc L ⟨fr,h,cs⟩=some ⟨fr',h',cs'⟩
 |[],n,st,F,ρ,fr,h,k,Y,cs,hr,_,d=>⟨n,zd _,st,d,F,ρ,fr,h,C4.refl hr,0,fun _ _=>⟨cs,rfl⟩⟩
 |i::is,n,st,F,ρ,fr,h,k,Y,cs,hr,O,d=>by
  unfold Jf at d;cases ho:ops[i]? with
  |none=>rw[ho]at d;exact wh d zg
  |some o=>
   rw[ho]at d;simp only at d;obtain⟨p,D,W,e2,hcase⟩:=LV hr d;rw[<-W]at O;have fin:∀ {n1:Nat} {q:AG} {F1:Fz} {E:DM} {v:Fr} {h1:H} {rs2:Rs} {cs2:List Rc},n1<=n->C4 B h0 F ρ st.nx h q v h1 F1 E->TP X.C F1 E q.nx h1 rs2 cs2->Ev X Q n1 (Jf X.C.T X.sp call ops anc is q rs2 k)->
     (∃M,∀m,M<=m->∃x,Hn X.C (Be X.C m) ops anc i ⟨fr,h,cs⟩=some (x,⟨v,h1,cs2⟩))->
     ∃n',n'<=n/\∃p,Ev X Q n' (k p)/\∃F' ρ' fr' h',C4 B h0 F ρ st.nx h p fr' h' F' ρ'/\∃M,∀m,M<=m->∃cs',Sz X.C (Be X.C m) ops anc (i::is) ⟨fr,h,cs⟩=some ⟨fr',h',cs'⟩:=by
    rintro n1 q F1 E v h1 rs2 cs2 A U u s ⟨M1,hM1⟩;obtain⟨n2,hn2,st3,he3,F2,ρ2,fr2,h2,hw2,M2,hM2⟩:=Oq z U.rel u s;refine⟨n2,zi hn2 A,st3,he3,F2,ρ2,fr2,h2,U.trans hw2,max M1 M2,fun m hm=>?_⟩;obtain⟨x,hx⟩:=hM1 m (by omega);obtain⟨cs',hcs'⟩:=hM2 m (by omega);exact⟨cs',by unfold Sz;rw[hx];exact hcs'⟩
   rcases hcase with⟨U,d⟩|⟨U,d⟩
   ·cases I:DW o with
    |true=>
     rw[I]at d;simp only[we]at d;obtain⟨n1,A,q,s,F1,E,x,v,r,j,c,hto⟩:=qB z D I d;rw[W]at c;have u:TP X.C F1 E q.nx h Y cs:=O.mono (by rw[W];exact c.le) (zd _)<|fun _ _=>rfl;cases Z:Ol o with
     |false=>
      rw[Z]at s;refine fin (cs2:=cs) A c u s ⟨0,fun m _=>⟨x,?_⟩⟩;unfold Hn;simp only[ho,U,we,I,r,j,Z,wg]
     |true=>
      rw[Z]at s;refine fin (cs2:=⟨i,o,fr,x⟩::cs) (rs2:=(i,gV p o.op)::Y) A c ⟨_,_,rfl,⟨rfl,fun l hl=>?_⟩,u⟩ s ⟨0,fun m _=>⟨x,?_⟩⟩
      ·obtain⟨bl,K,G⟩:=X8 D r hl hto;refine⟨bl,fun g hg hb=>K g (fun b cs hF=>hg b cs<|c.le.fz b cs hF) hb,fun b hb=>?_⟩;obtain⟨j1,id,j2,j3,j4⟩:=G b hb;rw[W]at j3;exact⟨j1,id,j2,zh j3 c.le.n,fun y hy=>j4 y<|c.le.at j3 hy⟩
      ·unfold Hn;simp only[ho,U,we,I,r,j,Z]
    |false=>
     rw[I]at d;simp only[wg]at d;cases w:Ce o with
     |true=>
      rw[w]at d;simp only[we]at d;obtain⟨l,P,V,R⟩:=GO z D d;obtain⟨⟨⟨x,h1⟩,rfl⟩,hna⟩:=V.1 rfl;obtain⟨n1,A,q,s,F1,E,v,j,c,_⟩:=R _<|zc.2 rfl;rw[W]at c;simp only at j c;have hv:∃ob f,Yo X.C fr o=some (ob,f)/\x=f h.nx/\h1=h.push ob:=by
       cases P with
       |val r=>obtain⟨ob,f,K,G⟩:=OG w r;cases G;exact⟨ob,f,K,rfl,rfl⟩
       |skip r=>obtain⟨ob,f,K,G⟩:=OG w r;cases G
       |call r _=>obtain⟨ob,f,K,G⟩:=OG w r;cases G
       |round r _=>obtain⟨ob,f,K,G⟩:=OG w r;cases G
       |alts r=>obtain⟨ob,f,K,G⟩:=OG w r;cases G
      obtain⟨ob1,f,K,rfl,rfl⟩:=hv;have u:TP X.C F1 E q.nx (h.push ob1) Y cs:=O.mono (by rw[W];exact c.le) (by simp) (fun b hb=>by simp[Nat.ne_of_lt hb]);refine fin (cs2:=cs) A c u s ⟨0,fun m _=>⟨f h.nx,?_⟩⟩;unfold Hn;simp only[ho,U,we,I,wg,w,K,j]
     |false=>
      rw[w]at d;simp only[wg]at d;cases J:(zw anc i p (Gj X.sp p o.op) Y&&ZV p o.op)with
      |false=>rw[J]at d;exact wh d zg
      |true=>
       rw[J]at d;simp only[we]at d;simp only[ze]at J;obtain⟨S,hnr⟩:=J;obtain⟨l,P,V,R⟩:=GO z D d;obtain⟨⟨⟨x,h1⟩,rfl⟩,hna⟩:=V.1 rfl;obtain⟨n1,A,q,s,F1,E,v,j,c,htch⟩:=R _<|zc.2 rfl;simp only at j c htch;obtain⟨K,G⟩:=TP.apart D c htch O S;rw[W]at c;refine fin A c G s ?_;have hh:∃M,∀m,M<=m->Dh X.C (Be X.C m) fr h o=some (x,h1):=by
        cases P with
        |val r=>exact⟨0,fun m _=>by unfold Dh;rw[r]⟩
        |skip r=>exact⟨0,fun m _=>by unfold Dh;rw[r]⟩
        |alts r=>exact wh r<|hna _
        |round r _=>exact wh r (V.2 (fun id a e=>by unfold ZV at hnr;rw[e]at hnr;cases hnr) _ _ _)
        |@call g args _ M r hM=>exact⟨M,fun m hm=>by unfold Dh;rw[r];simp only[hM m hm]⟩
       obtain⟨M,hM⟩:=hh;refine⟨M,fun m hm=>⟨x,?_⟩⟩;unfold Hn;simp only[ho,U,we,I,wg,w,hM m hm,j,K]
   ·cases hv:Cw o with
    |false=>
     rw[hv]at d;simp only[wg]at d;unfold Lq at d;split at d
     case h_2=>exact wh d zg
     rename_i q j;obtain⟨v,g1,g2,g3,g4⟩:=D.put (x:=.tup []) (by simp[PR]) j;refine fin (cs2:=cs) (zd _) ⟨g2,by rw[g3,W];exact zr,zd _⟩ (by rw[g3];exact O) d ⟨0,fun m _=>⟨.tup [],?_⟩⟩;unfold Hn;simp only[ho,U,wg,g1,hv]
    |true=>
     rw[hv]at d;simp only[we]at d;cases S:zw anc i p (some []) Y with
     |false=>rw[S]at d;exact wh d zg
     |true=>
      rw[S]at d;simp only[we]at d;unfold Lq at d;split at d
      case h_2=>exact wh d zg
      rename_i q j;obtain⟨v,g1,g2,g3,g4⟩:=D.put (x:=.tup []) (by simp[PR]) j;have c:C4 B h0 F ρ p.nx h q v h F ρ:=⟨g2,by rw[g3];exact zr,zd _⟩;obtain⟨K,G⟩:=TP.apart (t:=some []) D c (fun ids _ b _=>.inl rfl) O S;rw[W]at c;refine fin (zd _) c G d ⟨0,fun m _=>⟨.tup [],?_⟩⟩;unfold Hn;simp only[ho,U,wg,g1,hv,we,K]
theorem XU{call:Fa}(c:EN B h0 X false call){ops:Array Oper}{k:AG->Tr}(l:Rel B h0 F ρ st fr h)(j:Ev X Q n (Jf X.C.T X.sp call ops (Ed ops).a (Ed ops).ord st [] k)):
  ∃n',n'<=n/\∃b,Ev X Q n' (k b)/\∃F' ρ' fr' h',C4 B h0 F ρ st.nx h b fr' h' F' ρ'/\∃M,∀m,M<=m->HG X.C (Be X.C m) ops fr h=some (fr',h'):=by
 obtain⟨n',o,b,d,F',ρ',fr',h',g,M,e⟩:=Oq (cs:=[]) c l (by rfl) j;refine⟨n',o,b,d,F',ρ',fr',h',g,M,fun m i=>?_⟩;obtain⟨cs',hcs'⟩:=e m i;unfold HG;rw[hcs']
end
section
variable {B:Nat}{h0:H0}{F:Fz}{ρ ρ':DM}{N N':Nat}{f:Nat->Option Nat}
mutual
theorem MX(e:∀i j,i<N->f i=some j->j<N'/\ρ' j=ρ i):∀ {p:PV} {v:V},PR F ρ N p v->PR F ρ' N' (Fp f p) v
 | .any,_,_=>by simp[Fp,PR]
 | .bl _,_,h=>by simpa only[Fp,PR]using h
 | .ub,_,h=>by simpa only[Fp,PR]using h
 | .dat _ _,_,h=>by simpa only[Fp,PR]using h
 | .nil,_,h| .nilp,_,h| .nilm,_,h| .nilf,_,h| .nili,_,h=>by simpa only[Fp,PR]using h
 | .D7 _ _ _,_,h=>by simpa only[Fp,PR]using h
 | .agg l,_,h=>by simp only[Fp,PR]at h ⊢;obtain⟨cs,rfl,c⟩:=h;exact⟨cs,rfl,Eg e c⟩
 | .tup l,_,h=>by simp only[Fp,PR]at h ⊢;obtain⟨cs,rfl,c⟩:=h;exact⟨cs,rfl,Eg e c⟩
 | .fn g a b,_,h=>by simp only[Fp,PR]at h ⊢;obtain⟨x,y,rfl,c,d⟩:=h;exact⟨x,y,rfl,Eg e c,Eg e d⟩
 | .ptr i o,_,h=>by
  simp only[Fp];cases m:f i with
  |none=>simp[PR]
  |some j=>
   simp only[PR]at h ⊢;obtain⟨c,d⟩:=e i j h.1 m;exact⟨c,fun b n k=>h.2 b n<|by rw[<-d];exact k⟩
 | .eptr i _ _ _,_,h=>by
  simp only[Fp];cases m:f i with
  |none=>simp[PR]
  |some j=>
   simp only[PR]at h ⊢;obtain⟨c,d⟩:=e i j h.1 m;exact⟨c,fun b n k=>h.2 b n<|by rw[<-d];exact k⟩
 | .sl i _ _ _ _,_,h=>by
  simp only[Fp];cases m:f i with
  |none=>simp[PR]
  |some j=>
   simp only[PR]at h ⊢;obtain⟨c,d⟩:=e i j h.1 m;exact⟨c,fun b n k=>h.2 b n<|by rw[<-d];exact k⟩
 | .yl i,_,h=>by
  simp only[Fp];cases m:f i with
  |none=>simp[PR]
  |some j=>
   simp only[PR]at h ⊢;obtain⟨c,d⟩:=e i j h.1 m;exact⟨c,fun b n k=>h.2 b n<|by rw[<-d];exact k⟩
 | .mp i,_,h=>by
  simp only[Fp];cases m:f i with
  |none=>simp[PR]
  |some j=>
   simp only[PR]at h ⊢;obtain⟨c,d⟩:=e i j h.1 m;exact⟨c,fun b n k=>h.2 b n<|by rw[<-d];exact k⟩
theorem Eg(a:∀i j,i<N->f i=some j->j<N'/\ρ' j=ρ i):∀ {ps:List PV} {vs:List V},A9 F ρ N ps vs->A9 F ρ' N' (I4 f ps) vs
 |[],_,h=>by simpa [I4]using h
 |p::ps,_,h=>by
  simp only[A9]at h;obtain⟨v,vs,rfl,b,c⟩:=h;simp only[I4,AU];exact⟨MX a b,Eg a c⟩
end
theorem PG(f:PV->PV):∀(sl:List (Nat×PV)) (m a:PM PV),(∀t,a.get t=(m.get t).map f)->∀t,((sl.map fun x=>(x.1,f x.2)).foldl (fun m x=>m.set x.1<|some x.2) a).get t=((sl.foldl (fun m x=>m.set x.1<|some x.2) m).get t).map f
 |[],_,_,h,t=>h t
 |x::sl,m,a,h,t=>by
  simp only[zP,List.foldl_cons];refine PG f sl _ _ (fun t=>?_) t;rw[PM.CR,PM.CR];split
  ·rfl
  ·exact h t
theorem TL(f:PV->PV)(a:f .any=.any)(sl:List (Nat×PV))(t:Nat):RN (sl.map fun x=>(x.1,f x.2)) t=f (RN sl t):=by
 unfold RN ES;rw[PG f sl .leaf .leaf (fun t=>by rw[PM.CX];rfl) t];cases (sl.foldl (fun m x=>m.set x.1<|some x.2) PM.leaf).get t with
 |none=>exact a.symm
 |some x=>rfl
theorem bC(d:∀i j,i<N->f i=some j->j<N'/\ρ' j=ρ i){n:Nat}{o:Obj}{x:O}(h:VR F ρ N n o x):VR F ρ' N' n (QL f o) x:=by
 cases o with
 |arr fz e s l=>exact h
 |box ps=>obtain⟨cs,t,fz,a,b,c⟩:=h;exact⟨cs,t,fz,a,Eg d b,c⟩
 |tbox t ps=>obtain⟨cs,fz,a,b,c⟩:=h;exact⟨cs,fz,a,Eg d b,c⟩
 |lp g r ps asg body s n sl=>
  obtain⟨ls,a,b,c,k,q,m,u⟩:=h;refine⟨ls,a,b,c,k,q,m,fun t=>?_⟩;rw[TL (Fp f)<|by simp[Fp]];exact MX d<|u t
 |map ks vs l=>exact h
 |siter s p=>exact h
theorem S4(o:Obj):(QL f o).frozen=o.frozen:=by cases o<;>rfl
theorem Iy{st:AG}{base:Nat}:∀(n:Nat) (g acc:List Nat),(∀i∈acc,base<=i/\(st.obj i).isSome=true)->acc.Nodup->(∀i∈HP st base n g acc,base<=i/\(st.obj i).isSome=true)/\(HP st base n g acc).Nodup
 |0,_,acc,c,d=>⟨c,d⟩
 |n+1,[],acc,c,d=>⟨c,d⟩
 |n+1,i::g,acc,c,d=>by
  unfold HP;cases p:(zL i base||acc.any (zj i))with
  |true=>simp only[we];exact Iy n g acc c d
  |false=>
   simp only[wg];cases r:st.obj i with
   |none=>simp only;exact Iy n g acc c d
   |some o=>
    simp only;simp only[Bool.or_eq_false_iff]at p;have s:base<=i:=by
     rcases Nat.lt_or_ge i base with h|h
     ·have:=p.1;rw[Dq h]at this;cases this
     ·exact h
    have m:i∉acc:=by
     intro t;have:acc.any (zj i)=true:=zK.2 ⟨i,t,zR i⟩;rw[p.2]at this;cases this
    refine Iy n _ _ (fun j k=>?_) ?_
    ·rcases zo.1 k with k|k
     ·exact c j k
     ·cases zc.1 k;exact⟨s,by rw[r];rfl⟩
    ·rw[List.nodup_append];exact⟨d,by simp,fun a q b l=>by cases zc.1 l;exact fun e=>m<|e▸q⟩
theorem Nk{base:Nat}:∀(b:List Nat) (n i j:Nat),b.Nodup->OT base b n i=some j->(∃k,b[k]?=some i/\j=n+k)\/(i∉b/\i<base/\j=i)
 |[],n,i,j,_,h=>by
  unfold OT at h;cases l:zL i base with
  |false=>rw[l]at h;cases h
  |true=>rw[l]at h;cases h;exact .inr ⟨by simp,zp l,rfl⟩
 |a::b,n,i,j,m,h=>by
  unfold OT at h;rw[Bf]at h;by_cases e:i=a
  ·subst e;simp only[decide_true,we,zm]at h;exact .inl ⟨0,rfl,by omega⟩
  ·simp only[e,decide_false,wg]at h;have d:=List.nodup_cons.1 m;rcases Nk b (zx n 1) i j d.2 h with⟨k,c,g⟩|⟨c,g,o⟩
   ·exact .inl ⟨k+1,by simpa using c,by rw[g];show n+1+k=_;omega⟩
   ·exact .inr ⟨by simp[e,c],g,o⟩
theorem Wz(f:Nat->Option Nat)(base:Nat):∀(l:Ob) (j:Nat),AH (low f base l) j=if j<base then(AH l j).map (QL f)else none
 |[],j=>by simp[low,AH]
 |(i,o)::l,j=>by
  simp only[low];have b:=Wz f base l j;by_cases a:i<base
  ·rw[Dq a];simp only[we,AH,Bf];by_cases e:i=j
   ·subst e;simp[a]
   ·simp only[e,decide_false,wg];exact b
  ·have:zL i base=false:=by
    cases c:zL i base with
    |false=>rfl
    |true=>exact wh (zp c) a
   rw[this];simp only[wg,AH,Bf];rw[b];by_cases e:i=j
   ·subst e;simp[a]
   ·simp[e]
theorem S8{st:AG}(f:Nat->Option Nat):∀(a:List Nat) (n:Nat) (b:Ob) (j:Nat),(∀i∈a,(st.obj i).isSome=true)->AH (kept st f a n b) j=(if n<=j/\j<n+a.length then(a[j-n]?).bind fun i=>(st.obj i).map (QL f)else AH b j)
 |[],n,b,j,_=>by simp only[kept,List.length_nil];rw[wc<|by omega]
 |i::a,n,b,j,h=>by
  obtain⟨o,d⟩:=zz.1 (h i<|by simp);unfold kept;rw[d];simp only;rw[S8 f a (zx n 1) _ j<|fun k l=>h k<|by simp[l]];have g:zx n 1=n+1:=rfl;rw[g];by_cases c:n+1<=j/\j<n+1+a.length
  ·rw[wd c,wd<|by simp;omega];have:j-n=(j-(n+1))+1:=by omega
   rw[this];simp
  ·rw[wc c];simp only[AH,Bf];by_cases e:n=j
   ·subst e;rw[wd<|by simp];simp[d]
   ·rw[wc<|by simp;omega];simp[e]
theorem H6:∀(vs:List (Nat×PV)) (m:PM PV) (t:Nat) (p:PV),(vs.foldl (fun m x=>m.set x.1<|some x.2) m).get t=some p->(t,p)∈vs\/m.get t=some p
 |[],m,t,p,h=>.inr h
 |x::vs,m,t,p,h=>by
  rcases H6 vs _ t p h with a|a
  ·exact .inl<|List.mem_cons_of_mem _ a
  ·rw[PM.CR]at a;split at a
   ·rename_i e;cases a;exact .inl (by rw[e];exact List.mem_cons_self)
   ·exact .inr a
theorem W4{st:AG}{fr:Fr}{h:H}(w:Rel B h0 F ρ st fr h)(base:Nat)(L:List Nat)(_hb:base<=st.nx):
  ∃ρ',Rel B h0 F ρ' (canon base L st) fr h/\base<=(canon base L st).nx/\∀id,id<base->ρ' id=ρ id:=by
 generalize C:HP st base 100 (Jg ((L.map fun t=>(t,st.get t)).map (·.2))++MS base st.ob) []=ids;have E:=Iy (st:=st) (base:=base) 100 (Jg ((L.map fun t=>(t,st.get t)).map (·.2))++MS base st.ob) [] (fun i J=>by cases J) zk;rw[C]at E;obtain⟨G,D⟩:=E;let g:=OT base ids base
 let q:DM:=fun id=>if id<base then ρ id else(ids[id-base]?).bind ρ
 have A:∀id,id<base->q id=ρ id:=fun id h=>by show(if id<base then ρ id else _)=_;rw[wd h]
 have z:∀k i,ids[k]?=some i->q (base+k)=ρ i:=by
  intro k i r;show(if base+k<base then ρ (base+k)else(ids[base+k-base]?).bind ρ)=ρ i;rw[wc (by omega),Nat.add_sub_cancel_left,r];rfl
 have K:canon base L st=Ax st.n ((L.map fun t=>(t,st.get t)).map fun x=>(x.1,Fp g x.2)) (kept st g ids base<|low g base st.ob) (base+ids.length):=by
  rw[show g=OT base ids base from rfl, <-C];rfl
 have W:∀i j,i<st.nx->g i=some j->j<base+ids.length/\q j=ρ i:=by
  intro i j _ S;rcases Nk ids base i j D S with⟨k,d,rfl⟩|⟨_,y,rfl⟩
  ·have:=(zf.1 d).1;exact⟨by omega,z k i d⟩
  ·exact⟨by omega,A _ y⟩
 have I:∀j,AH (kept st g ids base<|low g base st.ob) j=if j<base then(AH st.ob j).map (QL g)else(ids[j-base]?).bind fun i=>(st.obj i).map (QL g):=by
  intro j;rw[S8 g ids base _ j<|fun i J=>(G i J).2,Wz];by_cases d:j<base
  ·rw[wc (by omega),wd d,wd d]
  ·by_cases y:j<base+ids.length
   ·rw[wd (by omega),wc d]
   ·rw[wc (by omega),wc d,wc d,List.getElem?_eq_none<|by omega];rfl
 have src:∀j o',AH (kept st g ids base<|low g base st.ob) j=some o'->∃i o,AH st.ob i=some o/\o'=QL g o/\q j=ρ i/\j<base+ids.length/\((j<base/\i=j)\/(base<=j/\ids[j-base]?=some i/\base<=i)):=by
  intro j o' v;rw[I]at v;by_cases d:j<base
  ·rw[wd d,zM]at v;obtain⟨o,y,rfl⟩:=v;exact⟨j,o,y,rfl,A j d,by omega,.inl ⟨d,rfl⟩⟩
  ·rw[wc d]at v;cases r:ids[j-base]? with
   |none=>rw[r]at v;cases v
   |some i=>
    rw[r]at v;simp only[Option.bind_some,zM]at v;obtain⟨o,y,rfl⟩:=v;have hlt:=(zf.1 r).1;have:=z (j-base) i r;rw[show base+(j-base)=j from by omega]at this;exact⟨i,o,y,rfl,this,by omega,.inr ⟨by omega,by first|exact r|rfl,(G i<|List.mem_of_getElem? r).1⟩⟩
 refine⟨q,?_,by rw[K];show base<=base+ids.length;omega,A⟩;rw[K];refine⟨⟨w.fp.n,fun t=>?_⟩,⟨fun j o' v=>?_,fun i j oi oj c m Z J v d y=>?_,w.sr.frz,fun id b m l=>?_,fun j v=>?_,w.sr.old,w.sr.lt,w.sr.le,w.sr.fo,w.sr.gl,fun c K=>?_⟩⟩
 ·generalize R:((L.map fun t=>(t,st.get t)).map fun x=>(x.1,Fp g x.2))=vs;show PR F q (base+ids.length) (((ES vs).get t).getD .any)<|fr.get t;cases Y:(ES vs).get t with
  |none=>show PR F q (base+ids.length) PV.any<|fr.get t;simp[PR]
  |some p=>
   show PR F q (base+ids.length) p<|fr.get t;rcases H6 vs .leaf t p Y with d|d
   ·rw[<-R]at d;simp only[List.map_map,zS,Function.comp]at d;obtain⟨s,_,y⟩:=d;cases y;exact MX W<|w.fp.slot _
   ·simp at d
 ·obtain⟨i,o,d,rfl,y,h3,_⟩:=src j o' v;obtain⟨b,m,x,k1,k2,k3,k4⟩:=w.sr.obj i o d;exact⟨b,m,x,y.trans k1,k2,bC W k3,by rw[S4];exact k4⟩
 ·obtain⟨a,o,O,_,P,_,M⟩:=src i oi J;obtain⟨a',o',g4,_,g5,_,g6⟩:=src j oj v;rw[P]at d;rw[g5]at y;have U:=w.sr.inj a a' o o' c m Z O g4 d y;subst U;rcases M with⟨e1,T⟩|⟨e1,T,e3⟩<;>rcases g6 with⟨f1,V⟩|⟨f1,V,f3⟩
  ·omega
  ·omega
  ·omega
  ·have i1:=zf.1 T;have i2:=zf.1 V;have:=(List.getElem?_inj i1.1 D).1<|T.trans V.symm;omega
 ·have l:(if id<base then ρ id else(ids[id-base]?).bind ρ)=some (b,m):=l;by_cases d:id<base
  ·rw[wd d]at l;exact⟨by show id<base+ids.length;omega,(w.sr.own id b m l).2⟩
  ·rw[wc d]at l;cases r:ids[id-base]? with
   |none=>rw[r]at l;cases l
   |some i=>
    rw[r]at l;have:=(zf.1 r).1;exact⟨by show id<base+ids.length;omega,(w.sr.own i b m l).2⟩
 ·have u:AH (kept st g ids base<|low g base st.ob) j=none:=v;rw[I]at u;show(if j<base then ρ j else(ids[j-base]?).bind ρ)=none;by_cases d:j<base
  ·rw[wd d]at u ⊢;exact w.sr.dead j (by simpa using u)
  ·rw[wc d]at u ⊢;cases r:ids[j-base]? with
   |none=>rfl
   |some i=>
    rw[r]at u;simp only[Option.bind_some,Option.map_eq_none_iff]at u ⊢;exact w.sr.dead i u
 ·obtain⟨O,P,M⟩:=w.sr.pn c K;refine⟨O,P,fun id m e=>?_⟩;have e:(if id<base then ρ id else(ids[id-base]?).bind ρ)=some (c,m):=e;by_cases d:id<base
  ·rw[wd d]at e;exact M id m e
  ·rw[wc d]at e;cases r:ids[id-base]? with
   |none=>rw[r]at e;cases e
   |some i=>rw[r]at e;exact M i m e
end
section
variable {B:Nat}{h0:H0}{X:AW}{F:Fz}{ρ:DM}{N:Nat}{h:H}
theorem PW(h0:H0)(a b:List Nat):(h0.pins a).pins b=h0.pins (b++a):=by unfold H0.pins;simp
theorem SR.Zh{ob:Ob}{ps:List Nat}(a:SR B (h0.pins ps) F ρ N ob h):SR B h0 F ρ N ob h:=
 ⟨a.obj,a.inj,a.frz,a.own,a.dead,a.old,a.lt,a.le,a.fo,a.gl,fun b c=>a.pn b<|List.mem_append_right _ c⟩
theorem SR.mark{ob:Ob}(a:SR B h0 F ρ N ob h):SR B (h0.pins [h.nx]) F ρ N ob (h.push<|.defd true):=by
 have i:∀b y,h.get b=some y->b≠h.nx:=fun b y p=>by have:=a.lt b y p;omega
 have g:∀b y,h.get b=some y->(h.push<|.defd true).get b=some y:=fun b y p=>by rw[H.Bz,wc<|i b y p];exact p
 refine⟨fun j oj u=>?_,a.inj,fun c cs d=>?_,a.own,a.dead,fun c d w=>?_,fun c z d=>?_,?_,a.fo,a.gl,fun c d=>?_⟩
 ·obtain⟨c,m,y,s,v,x⟩:=a.obj j oj u;exact⟨c,m,y,s,g c y v,x⟩
 ·obtain⟨t,fz,r⟩:=a.frz c cs d;exact⟨t,fz,g _ _ r⟩
 ·have:=a.le;rw[H.Bz,wc<|by omega];exact a.old c d w
 ·rw[H.Bz]at d;by_cases e:c=h.nx
  ·subst e;exact Nat.lt_succ_self _
  ·rw[wc e]at d;have:=a.lt c z d;show c<h.nx+1;omega
 ·have:=a.le;show B<=h.nx+1;omega
 ·rcases zo.1 d with d|d
  ·cases zc.1 d;refine⟨by rw[H.Bz,wd rfl],a.le,fun id n e=>?_⟩;by_cases k:∃o,AH ob id=some o
   ·obtain⟨o,A⟩:=k;obtain⟨c,m,y,l,q,_⟩:=a.obj id o A;rw[e]at l;cases l;exact i _ _ q rfl
   ·have:AH ob id=none:=by
     cases D:AH ob id with
     |none=>rfl
     |some o=>exact wh ⟨o,D⟩ k
    rw[a.dead id this]at e;cases e
  ·obtain⟨l,q,C⟩:=a.pn c d;exact⟨g _ _ l,q,C⟩
theorem SR.lP{ob:Ob}(d:SR B h0 F ρ N ob h){b:Nat}{x y:O}(s:∀id o n,AH ob id=some o->ρ id≠some (b,n))(u:F b=none)(v:h0.Yf B b)(t:b∉h0.pin)(r:h.get b=some x):SR B h0 F ρ N ob (h.put b y):=by
 refine⟨fun j oj p=>?_,d.inj,fun c cs a=>?_,d.own,d.dead,fun c a q=>?_,fun c w a=>?_,d.le,d.fo,d.gl,fun c a=>?_⟩
 ·obtain⟨c,m,y,g,i,l⟩:=d.obj j oj p;have:c≠b:=fun e=>s j oj m p<|e▸g
  exact⟨c,m,y,g,by rw[H.Bc,wc this];exact i,l⟩
 ·have:c≠b:=fun e=>by rw[e,u]at a;cases a
  rw[H.Bc,wc this];exact d.frz c cs a
 ·have:c≠b:=Mm v a q;rw[H.Bc,wc this];exact d.old c a q
 ·rw[H.Bc]at a;split at a
  ·rename_i e;subst e;exact d.lt _ _ r
  ·exact d.lt c w a
 ·obtain⟨g,i,l⟩:=d.pn c a;have k:c≠b:=fun e=>t<|e▸a
  exact⟨by rw[H.Bc,wc k];exact g,i,l⟩
theorem SR.leave{ob:Ob}:∀ {ps:List Nat} {h:H},ps.Nodup->(∀b∈ps,b∉h0.pin)->SR B (h0.pins ps) F ρ N ob h->∃a,E8 ps h=some a/\SR B h0 F ρ N ob a/\a.nx=h.nx/\∀b,b∉ps->a.get b=h.get b
 |[],h,_,_,d=>⟨h,rfl,d,rfl,fun _ _=>rfl⟩
 |p::ps,h,g,j,d=>by
  obtain⟨e,r,u⟩:=d.pn p (by simp[H0.pins]);rw[List.nodup_cons]at g;have i:SR B ((h0.pins ps).pins [p]) F ρ N ob h:=by rw[PW];exact d
  have m:SR B (h0.pins ps) F ρ N ob (h.put p<|.defd false):=by
   refine SR.lP i.Zh (fun id o n _=>u id n) ?_ (.inl r) ?_ e
   ·cases l:F p with
    |none=>rfl
    |some cs=>obtain⟨t,fz,k⟩:=d.frz p cs l;rw[e]at k;cases k
   ·intro h;rcases zo.1 h with h|h
    ·exact g.1 h
    ·exact j p (by simp) h
  obtain⟨a,w,v,q,s⟩:=SR.leave g.2 (fun b c=>j b<|by simp[c]) m;refine⟨a,?_,v,q,fun b c=>?_⟩
  ·show(match h.get p with|some (.defd true)=>E8 ps (h.put p<|.defd false)|_=>none)=_;rw[e];exact w
  ·simp only[zQ,not_or]at c;rw[s b c.2,H.Bc,wc c.1]
theorem cL{st:AG}{fr:Fr}(d:Rel B h0 F ρ st fr h)(base:Nat)(x:Nat×Sh):∃F1 I,Rel B h0 F1 I (jD base x st) fr h/\(jD base x st).nx=st.nx/\(∀id,id<base->I id=ρ id)/\∀b cs,F b=some cs->F1 b=some cs:=by
 have i:=d.fp.slot x.1;unfold jD;split
 case h_1=>
  rename_i w;rw[w]at i;simp only[PR]at i;exact⟨F,ρ,d.note (by rw[i];simp[PR,DC]),rfl,fun _ _=>rfl,fun _ _ h=>h⟩
 case h_4=>exact⟨F,ρ,d,rfl,fun _ _=>rfl,fun _ _ h=>h⟩
 case h_3=>
  rename_i id w;cases W:Nat.ble base id with
  |false=>exact⟨F,ρ,d,rfl,fun _ _=>rfl,fun _ _ h=>h⟩
  |true=>
  simp only[we];have W:=zp W;split
  case h_2=>exact⟨F,ρ,d,rfl,fun _ _=>rfl,fun _ _ h=>h⟩
  rename_i ps u;split
  case h_2=>exact⟨F,ρ,d,rfl,fun _ _=>rfl,fun _ _ h=>h⟩
  rename_i v hv;rw[w]at i;obtain⟨b,n,y,A,Z,h3,h7,-⟩:=d.sr.at u;obtain⟨cs,t,fz,rfl,h4,h5⟩:=h3;have O:F b=none:=h7 rfl;have a:∀c cs',F c=some cs'->(fun c=>if c=b then some cs else F c) c=some cs':=by
   intro c cs' k;have:c≠b:=fun e=>by rw[e,O]at k;cases k
   simp[this,k]
  have G:=(CF h4 hv);have V:=G.len;have q:Le F ρ st.nx (fun c=>if c=b then some cs else F c) (BB ρ id none) st.nx:=(Le.XT a).trans<|Le.MF id;have J:Le F (BB ρ id none) st.nx (fun c=>if c=b then some cs else F c) (BB ρ id none) st.nx:=Le.XT a;have g:=d.sr.del id;have C:∀j m,BB ρ id none j=some (b,m)->∀oj,AH (Fv st.ob id) j=some oj->False:=by
   intro j m p oj o;rw[DI]at o;split at o
   ·cases o
   ·rename_i Y;simp only[BB,Y,vf]at p;exact Y<|d.sr.inj j id oj _ b m n o u p A
  have R:SR B h0 (fun c=>if c=b then some cs else F c) (BB ρ id none) st.nx (Fv st.ob id) h:=by
   refine⟨fun j oj o=>?_,g.inj,fun c cs' k=>?_,g.own,g.dead,g.old,g.lt,g.le,fun c cs' k=>?_,g.gl,g.pn⟩
   ·obtain⟨c,m,z,p,L,U,g4,g5⟩:=g.obj j oj o;have K:c≠b:=fun E=>C j m (E▸p) oj o
    exact⟨c,m,z,p,L,U.mono J,fun e=>by simp[K,g4 e],fun e=>by obtain⟨a1,a2,a3,a4,a5⟩:=g5 e;exact⟨a1,a2,a3,a4,by simp[K,a5]⟩⟩
   ·split at k
    ·rename_i E;cases k;subst E;exact⟨_,_,Z⟩
    ·exact g.frz c cs' k
   ·split at k
    ·rename_i E;subst E;exact .inr (d.sr.own id c n A).2
    ·exact g.fo c cs' k
  have r:Rel B h0 (fun c=>if c=b then some cs else F c) (BB ρ id none) (st.N6 id) fr h:=⟨⟨d.fp.n,fun t=>(d.fp.slot t).mono q⟩,R⟩;refine⟨_,_,r.note ?_,rfl,fun j o=>by unfold BB;rw[wc<|by omega],a⟩;simp only[PR]at i ⊢;have P:=i.2 b n A;exact⟨b,0,cs,by rw[P],by simp,by omega,by rw[List.drop_zero,List.take_of_length_le<|by omega];exact G.mono a⟩
 rename_i id sz off len cap w;split
 case h_2=>exact⟨F,ρ,d,rfl,fun _ _=>rfl,fun _ _ h=>h⟩
 rename_i fz e s l u;cases hz:zj sz s.sz with
 |false=>exact⟨F,ρ,d,rfl,fun _ _=>rfl,fun _ _ h=>h⟩
 |true=>
 simp only[we];rw[w]at i;obtain⟨F1,p,L,U⟩:=LC d.sr i;have T:Bt st (.sl id sz off len cap)=st.setObj id (.arr true e s l):=by simp[Bt,u]
 rw[T]at p;have q:Le F ρ st.nx F1 ρ st.nx:=⟨L,fun _ _=>.inl rfl,zd _⟩;have D:off+len<=l.length:=by
  obtain⟨b,n,y,A,_,⟨_,_,_,_,_,h6⟩,-⟩:=d.sr.at u;simp only[PR]at i;rcases i.2 b n A with⟨a1,a2,_⟩|⟨a1,_,a3,_⟩
  ·omega
  ·omega
 have S:BM st (.sl id sz off len cap)=some (true,.dat (.list s)<|(l.drop off).take len):=by
  simp only[BM,u,hz,we,w4 D]
 have M:=U _ S;have r:Rel B h0 F1 ρ (st.setObj id<|.arr true e s l) fr h:=⟨⟨d.fp.n,fun t=>(d.fp.slot t).mono q⟩,p⟩;exact⟨F1,ρ,r.note<|M ρ _,rfl,fun _ _=>rfl,L⟩
theorem Su{fr:Fr}(base:Nat):∀(l:List (Nat×Sh)) {st:AG} {F:Fz} {ρ:DM},Rel B h0 F ρ st fr h->∃F1 a,Rel B h0 F1 a (jP base l st) fr h/\(jP base l st).nx=st.nx/\(∀id,id<base->a id=ρ id)/\∀b cs,F b=some cs->F1 b=some cs
 |[],st,F,ρ,e=>⟨F,ρ,e,rfl,fun _ _=>rfl,fun _ _ h=>h⟩
 |x::l,st,F,ρ,e=>by
  obtain⟨F1,a,g,i,d,k⟩:=cL e base x;obtain⟨F2,ρ2,h4,h5,h0'',h6⟩:=Su base l g;exact⟨F2,ρ2,h4,h5.trans i,fun id c=>(h0'' id c).trans<|d id c,fun b cs j=>h6 b cs<|k b cs j⟩
theorem OF{st:AG}{fr:Fr}{base:Nat}(i:Rel B h0 F ρ st fr h)(f:FuncId)(r:Nat)(g:base<=st.nx):
  ∃F1 ρ',Rel B h0 F1 ρ' (Ng X f r base st) fr h/\base<=(Ng X f r base st).nx/\(∀id,id<base->ρ' id=ρ id)/\∀b cs,F b=some cs->F1 b=some cs:=by
 obtain⟨F1,k,d,e,c,j⟩:=Su base (X.fz f r) i;obtain⟨ρ',g1,g2,g3⟩:=W4 d base (X.pl f r) (by rw[e];exact g);exact⟨F1,ρ',g1,g2,fun id a=>(g3 id a).trans<|c id a,j⟩
def F8(B:Nat)(h0:H0)(X:AW)(base n:Nat)(Q:PV->Ob->Prop)(k:DX->AG->Tr)(F:Fz)(ρ:DM)(h:H)(nd:Bool)(run:Nat->Nat->Option (List Det.X))(ds:List Nat):Prop:=
 ∃l M,(∀m,M<=m->∀q,M<=q->run m q=some l)/\(nd=false->∃x,l=[x])/\∀x∈l,∃ps,(x.ds=ps++ds/\ps.Nodup/\∀b∈ps,h.nx<=b)/\∃n',n'<=n/\∃a,Ev X Q n' (k x.e a)/\∃F' ρ',Rel B (h0.pins ps) F' ρ' a x.fr x.h/\base<=a.nx/\Le F ρ base F' ρ' base/\h.nx<=x.h.nx
theorem Le.low{F F':Fz}{ρ ρ':DM}{N N' base:Nat}(a:Le F ρ N F' ρ' N')(b:base<=N):Le F ρ base F' ρ' base:=
 ⟨a.fz,fun id h=>a.rho id<|zh h b,zd _⟩
theorem OC{nd ro:Bool}{d:Nat}{f:FuncId}{base:Nat}{rv:Option Nat}{ct:Bool}(hrv:ro=false->rv=none/\ct=true)(hcall:∀h0,EN B h0 X nd<|Cg X nd d)(hcallD:∀h0,EN B h0 X false<|Cg X false d){Q:PV->Ob->Prop}:∀(n:Nat) (c:Code) {h0:H0} {st:AG} {k:DX->AG->Tr} {F:Fz} {ρ:DM} {fr:Fr} {h:H} (ds:List Nat),base<=st.nx->Rel B h0 F ρ st fr h->
  Ev X Q n (exec X (Cg X nd d) (Cg X false d) nd ro d f base c st k)->F8 B h0 X base n Q k F ρ h nd (fun m q=>By X.C (Be X.C m) rv ct q c fr h ds) ds:=by
 intro n;induction n using Nat.strongRecOn with
 |_ n IH=>
 have one:∀ {h0:H0} {e:DX} {st:AG} {k:DX->AG->Tr} {F:Fz} {ρ:DM} {fr:Fr} {h:H} {ds:List Nat} {c:Code},base<=st.nx->Rel B h0 F ρ st fr h->Ev X Q n (k e st)->(∀m q,1<=q->By X.C (Be X.C m) rv ct q c fr h ds=some [⟨e,fr,h,ds⟩])->
   F8 B h0 X base n Q k F ρ h nd (fun m q=>By X.C (Be X.C m) rv ct q c fr h ds) ds:=by
  intro h0 e st k F ρ fr h ds c u v o hd;exact⟨[⟨e,fr,h,ds⟩],1,fun m _ q U=>hd m q U,fun _=>⟨_,rfl⟩,fun x z=>by
   cases zc.1 z;exact⟨[],⟨rfl,zk,fun _ u=>(by cases u)⟩,n,zd _,st,o,F,ρ,v,u,zr,zd _⟩⟩
 have D:∀ {q:Nat},1<=q->∃q',q=q'+1:=fun h=>⟨_,(Nat.succ_pred_eq_of_pos h).symm⟩
 have chain:∀ {h0:H0} {F:Fz} {ρ:DM} {h:H} {ds:List Nat} {k k2:DX->AG->Tr} {n1:Nat} {run:Nat->Nat->Option (List Det.X)} {run2:Nat->Nat->Det.X->Option (List Det.X)},n1<=n->F8 B h0 X base n1 Q k2 F ρ h nd run ds->
   (∀(x:Det.X) (ps:List Nat),∀n1',n1'<=n1->∀j,Ev X Q n1' (k2 x.e j)->∀F' ρ',Rel B (h0.pins ps) F' ρ' j x.fr x.h->base<=j.nx->F8 B (h0.pins ps) X base n Q k F' ρ' x.h nd (fun m q=>run2 m q x) x.ds)->
   F8 B h0 X base n Q k F ρ h nd (fun m q=>match run m q with|some l=>bl l (run2 m q)|none=>none) ds:=by
  rintro h0 F ρ h ds k k2 n1 run run2 Y ⟨l,M,G,h2,h3⟩ hnext;obtain⟨r,M2,R,g2,g3⟩:=JS (f:=run2) (P:=fun x=>∃ps,(x.ds=ps++ds/\ps.Nodup/\∀b∈ps,h.nx<=b)/\∃n',n'<=n/\∃j,Ev X Q n' (k x.e j)/\∃F' ρ',Rel B (h0.pins ps) F' ρ' j x.fr x.h/\base<=j.nx/\Le F ρ base F' ρ' base/\h.nx<=x.h.nx) h2 fun x z=>by
   obtain⟨T,⟨V,kn,kl⟩,n',k1,j,k2',F',ρ',k3,k4,k5,k6⟩:=h3 x z;obtain⟨r,M,j1,j2,j3⟩:=hnext x T n' k1 j k2' F' ρ' k3 k4;refine⟨r,M,j1,j2,fun y hy=>?_⟩;obtain⟨ps2,⟨i0,i0n,i0l⟩,W,i1,S,i2,F2,O,i3,i4,i5,i6⟩:=j3 y hy;refine⟨ps2++T,⟨by rw[i0,V,List.append_assoc],?_,fun b u=>?_⟩,W,i1,S,i2,F2,O,by rw[<-PW];exact i3,i4,k5.trans i5,zi k6 i6⟩
   ·rw[List.nodup_append];refine⟨i0n,kn,fun a ha b u e=>?_⟩;have G:=i0l a ha;have h2:=k3.sr.lt b _ (k3.sr.pn b<|List.mem_append_left _ u).1;omega
   ·rcases zo.1 u with u|u
    ·exact zi k6<|i0l b u
    ·exact kl b u
  exact⟨r,max M M2,fun m hm q U=>by simp only;rw[G m (by omega) q<|by omega];exact R m (by omega) q (by omega),g2,g3⟩
 have I:∀ {h0:H0} {F:Fz} {ρ:DM} {h:H} {ds:List Nat} {k:DX->AG->Tr} {run run':Nat->Nat->Option (List Det.X)},F8 B h0 X base n Q k F ρ h nd run ds->(∀m q,run' m (q+1)=run m q)->F8 B h0 X base n Q k F ρ h nd run' ds:=by
  rintro h0 F ρ h ds k run run' ⟨l,M,G,h2,h3⟩ o;refine⟨l,M+1,fun m hm q U=>?_,h2,h3⟩;obtain⟨q',rfl⟩:=D (show 1<=q by omega);rw[o];exact G m (by omega) q' (by omega)
 intro c;induction c with
 |skip=>
  intro h0 st k F ρ fr h ds u v o;exact one u v o (fun m q U=>by obtain⟨q',rfl⟩:=D U;rfl)
 |label l=>
  intro h0 st k F ρ fr h ds u v o;exact one u v o (fun m q U=>by obtain⟨q',rfl⟩:=D U;rfl)
 |exit i=>
  intro h0 st k F ρ fr h ds u v o;exact one u v o (fun m q U=>by obtain⟨q',rfl⟩:=D U;rfl)
 |ret=>
  intro h0 st k F ρ fr h ds u v o;exact one u v o (fun m q U=>by obtain⟨q',rfl⟩:=D U;rfl)
 |region id ops dr=>
  intro h0 st k F ρ fr h ds u v o;unfold exec at o;cases dr with
  |true=>
   simp only[we]at o;cases Z:(!ro||Hm ops (Ed ops))with
   |false=>rw[Z]at o;exact wh o zg
   |true=>
   rw[Z]at o;simp only[we]at o;have hdd:∀call,(bif ct then HG X.C call ops fr h else SH X.C call ops fr h)=HG X.C call ops fr h:=by
    intro call;cases hro:ro with
    |false=>rw[(hrv hro).2];rfl
    |true=>
     rw[hro]at Z;have Z:Hm ops (Ed ops)=true:=Z;cases ct with
     |true=>rfl
     |false=>simp only[wg,SH,Z,we]
   obtain⟨n',hn,j,p,F',ρ',fr',h',hw,M,hM⟩:=XU (hcallD h0) v o;refine⟨[⟨.normal,fr',h',ds⟩],M+1,fun m hm q U=>?_,fun _=>⟨_,rfl⟩,fun x z=>?_⟩
   ·obtain⟨q',rfl⟩:=D (show 1<=q by omega);have:=hM m (by omega);simp only[By,we];rw[hdd,this]
   ·cases zc.1 z;exact⟨[],⟨rfl,zk,fun _ u=>(by cases u)⟩,n',hn,j,p,F',ρ',hw.rel,zi u hw.le.n,hw.le.low u,hw.nx⟩
  |false=>
   simp only[wg]at o;obtain⟨r,M,hM,hone,hall⟩:=R4 (hcall h0) v o;refine⟨r.map fun x=>⟨.normal,x.1,x.2,ds⟩,M+1,fun m hm q U=>?_,fun e=>?_,fun x z=>?_⟩
   ·obtain⟨q',rfl⟩:=D (show 1<=q by omega);simp only[By,wg,hM m<|by omega]
   ·obtain⟨y,rfl⟩:=hone e;exact⟨_,rfl⟩
   ·obtain⟨y,hy,rfl⟩:=zS.1 z;obtain⟨n',hn,j,p,F',ρ',hw⟩:=hall y hy;exact⟨[],⟨rfl,zk,fun _ u=>(by cases u)⟩,n',hn,j,p,F',ρ',hw.rel,zi u hw.le.n,hw.le.low u,hw.nx⟩
 |seq a b iha ihb=>
  intro h0 st k F ρ fr h ds u v o;unfold exec at o;refine I (chain (run2:=fun m q x=>match x.e with| .normal=>By X.C (Be X.C m) rv ct q b x.fr x.h x.ds|_=>some [x]) (zd n) (iha ds u v o) fun x T n1 Y j p F' ρ' J K=>?_)<|fun m q=>rfl;obtain⟨e,L,G,A⟩:=x;cases e with
  |normal=>
   have rest:∀ {S:AG} {F2:Fz} {O:DM} {W:Nat},W<=n->Rel B (h0.pins T) F2 O S L G->base<=S.nx->(∀id,id<base->O id=ρ' id)->(∀b cs,F' b=some cs->F2 b=some cs)->Ev X Q W (exec X (Cg X nd d) (Cg X false d) nd ro d f base b S k)->
     F8 B (h0.pins T) X base n Q k F' ρ' G nd (fun m q=>By X.C (Be X.C m) rv ct q b L G A) A:=by
    intro S F2 O W hn2 hr2 hb2 hρ2 hF2 E;have hl0:Le F' ρ' base F2 O base:=⟨hF2,fun id hi=>.inl<|hρ2 id hi,zd _⟩;have hc:F8 B (h0.pins T) X base n Q k F2 O G nd (fun m q=>By X.C (Be X.C m) rv ct q b L G A) A:=by
     by_cases hlt:W<n
     ·obtain⟨l,M,G,h2,h3⟩:=IH W hlt b A hb2 hr2 E;exact⟨l,M,G,h2,fun x z=>by obtain⟨ps,V,W,k1,k2⟩:=h3 x z;exact⟨ps,V,W,by omega,k2⟩⟩
     ·have:W=n:=by omega
      subst this;exact ihb A hb2 hr2 E
    obtain⟨l,M,G,h2,h3⟩:=hc;exact⟨l,M,G,h2,fun x z=>by
     obtain⟨ps,V,n3,k1,st3,k2,F3,ρ3,k3,k4,k5,k6⟩:=h3 x z;exact⟨ps,V,n3,k1,st3,k2,F3,ρ3,k3,k4,hl0.trans k5,k6⟩⟩
   simp only at p;cases hct:X.ct f (CW b)with
   |false=>rw[hct]at p;exact rest Y J K (fun _ _=>rfl) (fun _ _ h=>h) p
   |true=>
    rw[hct]at p;simp only[we]at p;cases p with
    |cut p=>
     obtain⟨F2,ρ0,hr0,hb0,hρ0,hF⟩:=OF J f (CW b) K;exact rest Y hr0 hb0 hρ0 hF p
  |exit i=>exact⟨[⟨.exit i,L,G,A⟩],0,fun _ _ _ _=>rfl,fun _=>⟨_,rfl⟩,fun x z=>by cases zc.1 z;exact⟨[],⟨rfl,zk,fun _ u=>(by cases u)⟩,n1,Y,j,p,F',ρ',J,K,zr,zd _⟩⟩
  |ret=>exact⟨[⟨.ret,L,G,A⟩],0,fun _ _ _ _=>rfl,fun _=>⟨_,rfl⟩,fun x z=>by cases zc.1 z;exact⟨[],⟨rfl,zk,fun _ u=>(by cases u)⟩,n1,Y,j,p,F',ρ',J,K,zr,zd _⟩⟩
 |cond x a b iha ihb=>
  intro h0 st k F ρ fr h ds u v o;unfold exec at o;have go:∀ {t:Bool} {j:AG},ev X.C fr x=some (.bool t)->Rel B h0 F ρ j fr h->base<=j.nx->Ev X Q n (bif t then exec X (Cg X nd d) (Cg X false d) nd ro d f base a j k else exec X (Cg X nd d) (Cg X false d) nd ro d f base b j k)->F8 B h0 X base n Q k F ρ h nd (fun m q=>By X.C (Be X.C m) rv ct q (.cond x a b) fr h ds) ds:=by
   intro t j z J K o;cases t with
   |true=>exact I (iha ds K J o) (fun m q=>by simp only[By,z])
   |false=>exact I (ihb ds K J o) (fun m q=>by simp only[By,z])
  split at o
  case h_4=>exact wh o zg
  case h_3=>
   rename_i ht;obtain⟨y,R,g2⟩:=B2 (C:=X.C) v.fp ht;simp only[PR]at g2;obtain⟨t,rfl⟩:=g2;split at o
   case h_2=>exact wh o zg
   rename_i s;have hs:fr.get s=.bool t:=by simpa [ev]using R
   obtain⟨p,E⟩:=o.SW;cases t with
   |true=>exact go R (v.note<|by rw[hs];exact Ib _) u p
   |false=>exact go R (v.note<|by rw[hs];exact Ib _) u E
  case h_1=>
   rename_i t ht;obtain⟨y,R,g2⟩:=B2 (C:=X.C) v.fp ht;obtain rfl:=Nh g2;exact go R v u o
  case h_2=>
   rename_i t ht;obtain⟨y,R,g2⟩:=B2 (C:=X.C) v.fp ht;obtain rfl:=GY g2;split at o
   case h_1=>
    rename_i s;have hs:fr.get s=.bool t:=by simpa [ev]using R
    rcases o.Eo with⟨w,E⟩|⟨w,E⟩
    ·have w:t=true:=w;subst w;exact go R (v.note<|by rw[hs];exact Ib _) u E
    ·have w:t=false:=w;subst w;exact go R (v.note<|by rw[hs];exact Ib _) u E
   case h_2=>
    rcases o.Eo with⟨w,E⟩|⟨w,E⟩
    ·have w:t=true:=w;subst w;exact go R v u E
    ·have w:t=false:=w;subst w;exact go R v u E
 |block id b ih=>
  intro h0 st k F ρ fr h ds u v o;unfold exec at o;obtain⟨l,M,G,h2,h3⟩:=ih ds u v o;refine⟨l.map fun x=>match x.e with
    | .exit i=>bif zj i id then { x with e:=.normal }else x
    |_=>x,M+1,fun m hm q U=>?_,fun e=>?_,fun y hy=>?_⟩
  ·obtain⟨q',rfl⟩:=D (show 1<=q by omega);have R:=G m (by omega) q' (by omega);simp only at R;simp only[By,R];rfl
  ·obtain⟨y,rfl⟩:=h2 e;exact⟨_,rfl⟩
  ·obtain⟨⟨e,L,hh1,A⟩,z,rfl⟩:=zS.1 hy;obtain⟨ps,V,n1,k1,j,p,F',ρ',k3,k4,k5,k6⟩:=h3 _ z;cases e with
   |normal=>exact⟨ps,V,n1,k1,j,p,F',ρ',k3,k4,k5,k6⟩
   |ret=>exact⟨ps,V,n1,k1,j,p,F',ρ',k3,k4,k5,k6⟩
   |exit i=>
    simp only at p ⊢;cases hbe:zj i id with
    |true=>rw[hbe]at p;exact⟨ps,V,n1,k1,j,p,F',ρ',k3,k4,k5,k6⟩
    |false=>rw[hbe]at p;exact⟨ps,V,n1,k1,j,p,F',ρ',k3,k4,k5,k6⟩
 |loop b ih=>
  intro h0 st k F ρ fr h ds u v o;unfold exec at o;cases o with
  |@loop n0 _ _ _ _ _ _ _ _ o=>
  obtain⟨F0,ρ0,hr0,hb0,hρ0,hF0⟩:=OF v f (CW b) u;have hl0:Le F ρ base F0 ρ0 base:=⟨hF0,fun id hi=>.inl<|hρ0 id hi,zd _⟩;unfold body at o;have hbody:=IH n0 (Nat.lt_succ_self _) b ds hb0 hr0 o;have hch:F8 B h0 X base (n0+1) Q k F0 ρ0 h nd (fun m q=>match By X.C (Be X.C m) rv ct q b fr h ds with|some l=>bl l (fun x=>match x.e with| .normal=>By X.C (Be X.C m) rv ct q (.loop b) x.fr x.h x.ds|_=>some [x])|none=>none) ds:=by
   refine chain (run2:=fun m q x=>match x.e with| .normal=>By X.C (Be X.C m) rv ct q (.loop b) x.fr x.h x.ds|_=>some [x]) (Nat.le_succ n0) hbody fun x T n1 Y j p F' ρ' J K=>?_
   obtain⟨e,L,G,A⟩:=x;cases e with
   |normal=>
    have he1':Ev X Q n1 (exec X (Cg X nd d) (Cg X false d) nd ro d f base (.loop b) j k):=by unfold exec;exact p
    obtain⟨l,M,G,h2,h3⟩:=IH n1 (by omega) (.loop b) A K J he1';exact⟨l,M,G,h2,fun x z=>by obtain⟨ps,V,W,k1,k2⟩:=h3 x z;exact⟨ps,V,W,by omega,k2⟩⟩
   |exit i=>exact⟨[⟨.exit i,L,G,A⟩],0,fun _ _ _ _=>rfl,fun _=>⟨_,rfl⟩,fun x z=>by cases zc.1 z;exact⟨[],⟨rfl,zk,fun _ u=>(by cases u)⟩,n1,by omega,j,p,F',ρ',J,K,zr,zd _⟩⟩
   |ret=>exact⟨[⟨.ret,L,G,A⟩],0,fun _ _ _ _=>rfl,fun _=>⟨_,rfl⟩,fun x z=>by cases zc.1 z;exact⟨[],⟨rfl,zk,fun _ u=>(by cases u)⟩,n1,by omega,j,p,F',ρ',J,K,zr,zd _⟩⟩
  obtain⟨l,M,R,g2,g3⟩:=I (run':=fun m q=>By X.C (Be X.C m) rv ct q (.loop b) fr h ds) hch<|fun m q=>rfl;refine⟨l,M,R,g2,fun x z=>?_⟩;obtain⟨ps,V,W,k1,S,k2,F2,O,k3,k4,k5,k6⟩:=g3 x z;exact⟨ps,V,W,k1,S,k2,F2,O,k3,k4,hl0.trans k5,k6⟩
 |scope b ih=>
  intro h0 st k F ρ fr h ds u v o;unfold exec at o;exact I (ih ds u v o)<|fun m q=>rfl
 |rangeFunc g ps a b _ _=>
  intro h0 st k F ρ fr h ds u v o;unfold exec at o;exact wh o zg
 |goto l=>intro h0 st k F ρ fr h ds u v o;exact wh o zg
 |refuse s=>intro h0 st k F ρ fr h ds u v o;exact wh o zg
end
section
variable {B:Nat}{h0:H0}{X:AW}{F:Fz}{ρ:DM}{N:Nat}{st st':AG}{fr:Fr}{h:H}
theorem Kn:∀ {ps:List PV} {i t:Nat} {p:PV},(t,p)∈D1 ps i->∃k,t=i+k/\ps[k]?=some p
 |[],i,t,p,h=>by cases h
 |q::ps,i,t,p,h=>by
  unfold D1 at h;rcases zQ.1 h with h|h
  ·cases h;exact⟨0,rfl,rfl⟩
  ·obtain⟨k,a,b⟩:=Kn h;exact⟨k+1,by rw[a];show i+1+k=_;omega,by simpa using b⟩
theorem hZ{ps:List PV}{vs:List V}(c:A9 F ρ N ps vs)(n:Nat)(ob:Ob)(nx:Nat)(_hnx:nx=N):FP F ρ N (Ax (zx ps.length<|Nat.sub n ps.length) (D1 ps 0) ob nx) (Ly n vs):=by
 refine⟨by show ps.length+(n-ps.length)=vs.length+(n-vs.length);rw[c.len],fun t=>?_⟩;show PR F ρ N (((ES<|D1 ps 0).get t).getD .any) _;cases e:(ES<|D1 ps 0).get t with
 |none=>show PR F ρ N .any _;simp[PR]
 |some p=>
  show PR F ρ N p _;rcases H6 _ .leaf t p e with a|a
  ·obtain⟨k,j,g⟩:=Kn a;obtain rfl:t=k:=by omega
   obtain⟨v,b,i⟩:=c.get g;have d:=(zf.1 b).1;unfold Ly Fr.get;simp only;rw[KP,wd (by omega),Nat.sub_zero,b];exact i
  ·simp at a
theorem ZM{T:BR}{st s:AG}{t:TypeId}{a p:PV}(h:(Lz T st t a).To p s):s=st:=by
 unfold Lz at h;split at h
 case h_2=>exact wh h (by simp)
 split at h
 case h_4=>exact wh h (by simp)
 ·split at h
  case h_4=>exact wh h (by simp)
  case h_3=>simp only[JM]at h;exact h.2.symm
  ·simp only[JM]at h;exact h.2.symm
  ·rename_i c l _;cases b:(zj _ 0&&zj c.sz 1)with
   |false=>rw[b]at h;exact wh h (by simp)
   |true=>rw[b]at h;simp only[we,Nz]at h;exact h.2.2.symm
 ·split at h
  case h_2=>exact wh h (by simp)
  rename_i sz j off _ _ _ c l _;cases b:(zj sz c.sz)with
  |false=>rw[b]at h;exact wh h (by simp)
  |true=>rw[b]at h;simp only[we,Nz]at h;exact h.2.2.symm
 ·simp only[JM]at h;exact h.2.symm
theorem N9{Q:PV->Ob->Prop}{n:Nat}{t:Tr}:∀ {cs:List Bool},Ev X Q n (NN cs t)->(∀c∈cs,c=true)/\Ev X Q n t
 |[],h=>⟨fun c a=>(by cases a),h⟩
 |c::cs,h=>by
  unfold NN at h;rcases h.Eo with⟨a,b⟩|⟨_,b⟩
  ·obtain⟨i,g⟩:=N9 b;exact⟨fun d e=>by
    rcases zQ.1 e with rfl|e
    ·exact a
    ·exact i d e,g⟩
  ·exact wh b zg
theorem SB:∀ {l:List ResultVar} {ps:List PV} {F:Fz} {ρ:DM},Rel B h0 F ρ st fr h->ZC X.C.T st l=some ps->(∀c∈Kt X.C.T st l,c=true)->
  ∃vs F' ρ',MP X.C fr h l=some vs/\A9 F' ρ' st.nx ps vs/\Rel B h0 F' ρ' st fr h/\Le F ρ st.nx F' ρ' st.nx
 |[],ps,F,ρ,i,j,_=>by cases j;exact⟨[],F,ρ,rfl,by simp,i,zr⟩
 |r::l,ps,F,ρ,i,j,e=>by
  unfold ZC at j;split at j
  case h_2=>cases j
  rename_i p y g x;cases j;have key:∃v F1 d,WE X.C fr h r=some v/\PR F1 d st.nx p v/\Rel B h0 F1 d st fr h/\Le F ρ st.nx F1 d st.nx:=by
   cases r with
   |tmp t=>
    simp only[YE,zm]at g;subst g;exact⟨_,F,ρ,rfl,i.fp.slot t,i,zr⟩
   |cell a t=>
    have k:∃s,(Lz X.C.T st t<|st.get a).To p s:=by
     simp only[YE]at g;split at g
     case h_3=>cases g
     ·rename_i u s m;cases g;exact⟨s,by rw[m];exact .val⟩
     ·rename_i c u s m;cases g;refine⟨s,?_⟩;have:=e c (by unfold Kt;rw[m];exact List.mem_cons_self);rw[m,this];show(PO.Hv true p s).To p s;rw[BA];exact⟨rfl,rfl,rfl⟩
    obtain⟨s,k⟩:=k;have A:s=st:=ZM k;subst A;obtain⟨v',h',F',ρ',b,g2,g3,g4,g5,g6,g7,g8⟩:=cW (C:=X.C) i.sr (i.fp.slot a) k;cases o:Ex X.C.T h t (fr.get a)with
    |none=>rw[o]at b;rcases b with b|⟨b,_⟩<;>cases b
    |some w=>
     rw[o]at b;rcases b with b|⟨b,_⟩
     ·simp only[Bp,zm,OR.val.injEq]at b;obtain⟨rfl,rfl⟩:=b;exact⟨w,F',ρ',o,g2,⟨i.fp.mono g4,g3⟩,g4⟩
     ·cases b
  obtain⟨v,F1,d,E,D,z,G⟩:=key;obtain⟨vs,F2,ρ2,k5,k6,k7,k8⟩:=SB z x (fun c q=>e c (by
   cases r with
   |tmp t=>unfold Kt;exact q
   |cell a t=>
    unfold Kt;split
    ·exact List.mem_cons_of_mem _ q
    ·exact q))
  exact⟨v::vs,F2,ρ2,by simp[MP,E,k5],by simp only[AU];exact⟨D.mono k8,k6⟩,k7,G.trans k8⟩
theorem Ii{nd:Bool}{d:Nat}(J:∀h0,EN B h0 X nd<|Cg X nd d)(w:∀h0,EN B h0 X false<|Cg X false d)(hmg:X.C.mg=false){g:FuncId}(hsp:X.C.spec g=none)(K:X.C.prim g=none)(hno:X.sp g=none){Q:PV->Ob->Prop}{n:Nat}{args:List PV}{k:PV->AG->Tr}{args':List V}
  (D:Ev X Q n (enter X (Cg X nd d) (Cg X false d) nd d g args st k)) (hr:Rel B h0 F ρ st fr h) (ha:A9 F ρ st.nx args args'):
  (X.C.prim g=none/\∃i,X.C.fn g=some i)/\∃l M,(∀m,M<=m->Be X.C m (.fn g args') h=some l)/\(nd=false->∃x,l=[x])/\
   ∀x∈l,∃n',n'<=n/\∃r st',Ev X Q n' (k r st')/\∃F' ρ',PR F' ρ' st'.nx r x.1/\C4 B h0 F ρ st.nx h st' fr x.2 F' ρ'/\(∀sp,X.sp g=some sp->∀b,b<h.nx->x.2.get b=h.get b):=by
 unfold enter at D;split at D
 case h_1=>exact wh D zg
 rename_i i hi;cases hc:i.cert with
 |false=>rw[hc]at D;exact wh D zg
 |true=>
  rw[hc]at D;simp only[we]at D;have hr0:Rel B h0 F ρ (Ax (zx args.length<|Nat.sub i.ntmps args.length) (D1 args 0) st.ob st.nx) (Ly i.ntmps args') h:=⟨hZ ha i.ntmps st.ob st.nx rfl,hr.sr⟩;obtain⟨l,M,hM,O,S⟩:=OC (ro:=false) (rv:=none) (ct:=true) (fun _=>⟨rfl,rfl⟩) J w n i.body (st:=Ax (zx args.length<|Nat.sub i.ntmps args.length) (D1 args 0) st.ob st.nx) [] (zd st.nx) hr0 D;have fin:∀x∈l,∃(r:List (V×H)) (M:Nat),(∀m:Nat,M<=m->∀q:Nat,M<=q->(match x.e with
      | .exit _=>none
      |_=>match E8 x.ds x.h with
       |some a=>match NA X.C x.fr a i.results.toList with
        |some v=>some [(v,a)]
        |none=>none
       |none=>none)=some r)/\(nd=false->∃x,r=[x])/\∀x∈r,∃n',n'<=n/\∃r st',Ev X Q n' (k r st')/\∃F' ρ',PR F' ρ' st'.nx r x.1/\C4 B h0 F ρ st.nx h st' fr x.2 F' ρ'/\(∀sp,X.sp g=some sp->∀b,b<h.nx->x.2.get b=h.get b):=by
   intro x hx;obtain⟨ps,⟨I,A,hge⟩,n1,hn1,c,z,F1,ρ1,o,hb1,Z,E⟩:=S x hx;obtain⟨e,fr1,hx0,ds1⟩:=x;simp only at I z o E ⊢;obtain⟨a,hlv,hsr1,hnx1,_⟩:=SR.leave A (fun b hb hp=>by
    have k1:=hge b hb;have R:=hr.sr.lt b _ (hr.sr.pn b hp).1;omega) o.sr
   have hr1:Rel B h0 F1 ρ1 c fr1 a:=⟨o.fp,hsr1⟩;have hx1:h.nx<=a.nx:=by rw[hnx1];exact E
   rw[List.append_nil]at I;subst I;have go:(∀j,e≠ .exit j)->Ev X Q n1 (match ZC X.C.T c i.results.toList with|some vs=>NN (Kt X.C.T c i.results.toList) (k (Go.Pe.one vs) ⟨st.n,st.fr,c.ob,c.nx⟩)|none=>.fail)->
     ∃v',NA X.C fr1 a i.results.toList=some v'/\∃n',n'<=n/\∃r st',Ev X Q n' (k r st')/\∃F' ρ',PR F' ρ' st'.nx r v'/\C4 B h0 F ρ st.nx h st' fr a F' ρ'/\(∀sp,X.sp g=some sp->∀b,b<h.nx->a.get b=h.get b):=by
    intro hne s;split at s
    case h_2=>exact wh s zg
    rename_i ps hps;obtain⟨G,s⟩:=N9 s;obtain⟨vs,F2,ρ2,k1,R,k3,k4⟩:=SB hr1 hps G;have U:Le F ρ st.nx F2 ρ2 c.nx:=⟨fun b cs hb=>k4.fz _ _<|Z.fz _ _ hb,fun id hid=>by
     rcases k4.rho id (zh hid hb1)with e|e
     ·rw[e];exact Z.rho id hid
     ·exact .inr e,hb1⟩
    have Y:∃r',NA X.C fr1 a i.results.toList=some r'/\PR F2 ρ2 c.nx (Go.Pe.one ps) r':=by
     unfold NA;rw[k1];cases ps with
     |nil=>simp at R;subst R;exact⟨_,rfl,by simp[Go.Pe.one,PR]⟩
     |cons p ps=>
      simp only[A9]at R;obtain⟨v1,vs1,rfl,g1,L⟩:=R;cases ps with
      |nil=>simp at L;subst L;exact⟨_,rfl,g1⟩
      |cons q qs=>
       have g2':=L;simp only[A9]at L;obtain⟨v2,vs2,rfl,_,_⟩:=L;refine⟨_,rfl,?_⟩;show PR F2 ρ2 c.nx (.tup (p::q::qs)) _;unfold PR;exact⟨_,rfl,by simp only[AU];exact⟨g1,by simpa only[AU]using g2'⟩⟩
    obtain⟨r',q1,W⟩:=Y;exact⟨r',q1,n1,hn1,_,_,s,F2,ρ2,W,⟨⟨⟨hr.fp.n,fun t=>(hr.fp.slot t).mono U⟩,k3.sr⟩,U,hx1⟩,fun sp h=>(by rw[hno]at h;cases h)⟩
   cases e with
   |normal=>
    obtain⟨v',q1,W⟩:=go (fun j=>by simp) z;exact⟨[(v',a)],0,fun m _ q _=>(by simp only[hlv,q1]),fun _=>⟨_,rfl⟩,fun y hy=>by cases zc.1 hy;exact W⟩
   |ret=>
    obtain⟨v',q1,W⟩:=go (fun j=>by simp) z;exact⟨[(v',a)],0,fun m _ q _=>(by simp only[hlv,q1]),fun _=>⟨_,rfl⟩,fun y hy=>by cases zc.1 hy;exact W⟩
   |exit j=>exact wh z zg
  obtain⟨r,M2,g1,L,g3⟩:=JS (f:=fun _ _ (x:Det.X)=>match x.e with
      | .exit _=>none
      |_=>match E8 x.ds x.h with
       |some a=>match NA X.C x.fr a i.results.toList with
        |some v=>some [(v,a)]
        |none=>none
       |none=>none) (P:=fun x=>∃n',n'<=n/\∃r st',Ev X Q n' (k r st')/\∃F' ρ',PR F' ρ' st'.nx r x.1/\C4 B h0 F ρ st.nx h st' fr x.2 F' ρ'/\(∀sp,X.sp g=some sp->∀b,b<h.nx->x.2.get b=h.get b)) O fin
  refine⟨⟨K,i,hi⟩,r,max M M2+1,fun m hm=>?_,L,g3⟩;obtain⟨u,rfl⟩:∃u,m=u+1:=⟨m-1,by omega⟩;have hd:=hM u (by omega) u (by omega);have hg:=g1 u (by omega) u (by omega);simp only at hd;have:Be X.C (u+1) (.fn g args') h=(match By X.C (Be X.C u) none i.cert u i.body (Ly i.ntmps args') h []with
    |none=>none
    |some l=>match (bl l fun x=>match x.e with
     | .exit _=>none
     |_=>match E8 x.ds x.h with
      |some a=>match NA X.C x.fr a i.results.toList with
       |some v=>some [(v,a)]
       |none=>none
      |none=>none)with
     |some r=>some<|bif X.C.mg then OM h.nx r else r
     |none=>none):=by
   rw[Be];simp only[hsp,hi];rfl
  rw[this,hc,hd];simp only;have hg':(bl l fun x=>match x.e with
     | .exit _=>none
     |_=>match E8 x.ds x.h with
      |some a=>match NA X.C x.fr a i.results.toList with
       |some v=>some [(v,a)]
       |none=>none
      |none=>none)=some r:=hg
  rw[hg',hmg];rfl
theorem PI{nd:Bool}{d:Nat}(A:∀h0,EN B h0 X nd<|Cg X nd d)(o:∀h0,EN B h0 X false<|Cg X false d){id:Nat}{Q:PV->Ob->Prop}{n:Nat}{args:List PV}{k:PV->AG->Tr}{args':List V}
  (I:Ev X Q n (ZR X (Cg X nd d) (Cg X false d) nd d id args st k)) (hr:Rel B h0 F ρ st fr h) (ha:A9 F ρ st.nx args args'):
  ∃c,sJ X ρ h args' (.rnd id) c/\∃l M,(∀m,M<=m->Be X.C m c h=some l)/\(nd=false->∃x,l=[x])/\
   ∀x∈l,∃n',n'<=n/\∃r st',Ev X Q n' (k r st')/\∃F' ρ',PR F' ρ' st'.nx r x.1/\C4 B h0 F ρ st.nx h st' fr x.2 F' ρ':=by
 unfold ZR at I;split at I
 case h_2=>exact wh I zg
 rename_i f r ps asg b n0 sl hob;obtain⟨D,m0,y,k1,k2,⟨ls,rfl,rfl,rfl,rfl,⟨l1,l2⟩,rfl,l4⟩,-⟩:=hr.sr.at hob;cases U:zj args.length ls.ps.size with
 |false=>rw[U]at I;exact wh I zg
 |true=>
 rw[U]at I;simp only[we]at I;have hlen:args'.length=ls.ps.size:=by rw[<-ha.len];exact zl U
 have hid:id<st.nx:=(hr.sr.own _ _ _ k1).1;have hr0:Rel B h0 F ρ (Lu ls.ps.toList args<|Ax ls.fr.n sl st.ob st.nx) (FG ls.ps.toList args' ls.fr) h:=by
  have R:Rel B h0 F ρ (Ax ls.fr.n sl st.ob st.nx) ls.fr h:=⟨⟨rfl,fun t=>l4 t⟩,hr.sr⟩;have go:∀(ts:List Tmp) (g:List PV) (G:List V) (s:AG) (f:Fr),s.nx=st.nx->A9 F ρ st.nx g G->Rel B h0 F ρ s f h->Rel B h0 F ρ (Lu ts g s) (FG ts G f) h:=by
   intro ts;induction ts with
   |nil=>intro g G s f _ _ hs;cases g<;>exact hs
   |cons t ts ih=>
    intro g G s f hn hp hs;cases g with
    |nil=>simp only[BU]at hp;subst hp;exact hs
    |cons a g=>
     simp only[A9]at hp;obtain⟨v,vs,rfl,p1,p2⟩:=hp;simp only[Lu,FG];refine ih g vs _ _ ?_ p2 ?_
     ·cases zL t s.n<;>exact hn
     ·unfold Fr.XI;rw[show s.n=f.n from hs.fp.n];cases zL t f.n with
      |false=>exact hs
      |true=>exact hs.set (by rw[hn];exact p1)
  exact go _ _ _ _ _ rfl ha R
 have hnx0:st.nx<=(Lu ls.ps.toList args<|Ax ls.fr.n sl st.ob st.nx).nx:=by
  have go:∀(ts:List Tmp) (g:List PV) (s:AG),(Lu ts g s).nx=s.nx:=by
   intro ts;induction ts with
   |nil=>intro g s;cases g<;>rfl
   |cons t ts ih=>
    intro g s;cases g with
    |nil=>rfl
    |cons a g=>simp only[Lu];rw[ih];cases zL t s.n<;>rfl
  rw[go];exact zd _
 obtain⟨L,M1,hM1,P,Y⟩:=OC (ro:=true) (rv:=some D) (ct:=false) (fun e=>by cases e) A o n ls.asg [] hnx0 hr0 I;refine⟨_,⟨D,m0,ls,k1,k2,hlen,rfl⟩,?_⟩;have fin:∀x∈L,∃(r:List (V×H)) (M:Nat),(∀m:Nat,M<=m->∀q:Nat,M<=q->(match x.e,x.h.get D with
   | .normal,some (.loop l1)=>match l1.st with
    | .ready=>match By X.C (Be X.C m) (some D) false q ls.body x.fr (x.h.put D<|.loop { l1 with st:=.busy }) x.ds with
     |some l2=>bl l2 fun y=>match y.h.get D with
      |some (.loop l3)=>match y.e with
       | .normal=>some [(V.bool true,y.h.put D<|.loop { l3 with st:=.ready,pend:=none })]
       | .ret=>some [(V.bool false,y.h.put D<|.loop { l3 with st:=.done,pend:=some .ret })]
       | .exit i=>some [(V.bool false,y.h.put D<|.loop { l3 with st:=.done,pend:=some (.exit i) })]
      |_=>none
     |none=>none
    |_=>none
   |_,_=>none)=some r)/\(nd=false->∃x,r=[x])/\∀x∈r,∃n',n'<=n/\∃r st',Ev X Q n' (k r st')/\∃F' ρ',PR F' ρ' st'.nx r x.1/\C4 B h0 F ρ st.nx h st' fr x.2 F' ρ':=by
  intro x hx;obtain⟨ps1,_,n1,hn1,s,j,F1,ρ1,E,hb1,hl1,hx1⟩:=Y x hx;obtain⟨e,fr1,h1,ds1⟩:=x;simp only at j E hx1 ⊢;cases e with
  |exit i=>exact wh j zg
  |ret=>exact wh j zg
  |normal=>
  simp only at j;split at j
  case h_2=>exact wh j zg
  rename_i f' r' ps' asg' b' n' Z O;have hs1:SR B h0 F1 ρ1 s.nx s.ob h1:=E.sr.Zh;obtain⟨J,m1,y1,q1,q2,⟨u,rfl,rfl,rfl,rfl,⟨la1,la2⟩,rfl,la4⟩,-⟩:=hs1.at O;obtain⟨rfl,rfl⟩:J=D/\m1=m0:=by
   have:=hl1.at hid q1;rw[k1]at this;cases this;exact⟨rfl,rfl⟩
  have hr2:Rel B h0 F1 ρ1 (s.setObj id<|.lp f' r' u.ps u.asg u.body .busy u.fr.n Z) fr1 (h1.put J<|.loop { u with st:=.busy }):=
   ⟨⟨E.fp.n,fun t=>E.fp.slot t⟩,hs1.set O q1 q2 rfl rfl (o':=.lp f' r' u.ps u.asg u.body .busy u.fr.n Z) ⟨_,rfl,rfl,rfl,rfl,rfl,rfl,la4⟩⟩
  obtain⟨L2,M2,hM2,T,S⟩:=OC (ro:=true) (rv:=some J) (ct:=false) (fun e=>by cases e) A o n1 ls.body ds1 (show st.nx<=(s.setObj id<|.lp f' r' u.ps u.asg u.body .busy u.fr.n Z).nx from hb1) hr2 j;have fin2:∀y∈L2,∃(r:List (V×H)) (M:Nat),(∀m:Nat,M<=m->∀q:Nat,M<=q->(match y.h.get J with
    |some (.loop l3)=>match y.e with
     | .normal=>some [(V.bool true,y.h.put J<|.loop { l3 with st:=.ready,pend:=none })]
     | .ret=>some [(V.bool false,y.h.put J<|.loop { l3 with st:=.done,pend:=some .ret })]
     | .exit i=>some [(V.bool false,y.h.put J<|.loop { l3 with st:=.done,pend:=some (.exit i) })]
    |_=>none)=some r)/\(nd=false->∃x,r=[x])/\∀x∈r,∃n',n'<=n/\∃r st',Ev X Q n' (k r st')/\∃F' ρ',PR F' ρ' st'.nx r x.1/\C4 B h0 F ρ st.nx h st' fr x.2 F' ρ':=by
   intro y hy;obtain⟨ps2,_,n2,hn2,s2,p,F2,ρ2,hr3,hb2,hl2,hx2⟩:=S y hy;obtain⟨e2,fr2,h2,ds2⟩:=y;simp only at p hr3 hx2 ⊢;split at p
   case h_2=>exact wh p zg
   rename_i f2 r2 pp2 aa2 bb2 ss2 nn2 sl2 K;have hs3:SR B h0 F2 ρ2 s2.nx s2.ob h2:=hr3.sr.Zh;obtain⟨c2,m2,y2,w1,w2,⟨w,rfl,rfl,rfl,rfl,_,rfl,lb4⟩,-⟩:=hs3.at K;have W:Le F ρ st.nx F2 ρ2 s2.nx:=by
    have h:=hl1.trans hl2;exact⟨h.fz,h.rho,hb2⟩
   obtain⟨rfl,rfl⟩:c2=J/\m2=m1:=by
    have:=W.at hid w1;rw[k1]at this;cases this;exact⟨rfl,rfl⟩
   have hnx:h.nx<=h2.nx:=zi hx1 hx2;have done:∀(sb:wB) (lst:LoopState) (pe:Option Code) (rb:Bool),yF sb lst pe->Ev X Q n2 (k (.bl rb) ⟨st.n,st.fr,(s2.setObj id<|.lp f2 r2 w.ps w.asg w.body sb w.fr.n sl2).ob,s2.nx⟩)->
     ∃n',n'<=n/\∃r st',Ev X Q n' (k r st')/\∃F' ρ',PR F' ρ' st'.nx r (V.bool rb)/\C4 B h0 F ρ st.nx h st' fr (h2.put c2<|.loop { w with st:=lst,pend:=pe }) F' ρ':=by
    intro sb lst pe rb hlr he3;refine⟨n2,zi hn2 hn1,_,_,he3,F2,ρ2,Ib _,⟨⟨⟨hr.fp.n,fun t=>(hr.fp.slot t).mono W⟩,?_⟩,W,hnx⟩⟩;exact hs3.set K w1 w2 rfl rfl (o':=.lp f2 r2 w.ps w.asg w.body sb w.fr.n sl2) ⟨_,rfl,rfl,rfl,rfl,hlr,rfl,lb4⟩
   cases e2 with
   |normal=>exact⟨[(.bool true,h2.put c2<|.loop { w with st:=.ready,pend:=none })],0,fun m _ q _=>(by simp only[w2]),fun _=>⟨_,rfl⟩,fun z hz=>by cases zc.1 hz;exact done .ready _ _ true ⟨rfl,rfl⟩ p⟩
   |ret=>exact⟨[(.bool false,h2.put c2<|.loop { w with st:=.done,pend:=some .ret })],0,fun m _ q _=>(by simp only[w2]),fun _=>⟨_,rfl⟩,fun z hz=>by cases zc.1 hz;exact done .ret _ _ false ⟨rfl,rfl⟩ p⟩
   |exit i=>exact⟨[(.bool false,h2.put c2<|.loop { w with st:=.done,pend:=some (.exit i) })],0,fun m _ q _=>(by simp only[w2]),fun _=>⟨_,rfl⟩,fun z hz=>by cases zc.1 hz;exact done (.exit i) _ _ false ⟨rfl,rfl⟩ p⟩
  obtain⟨r,M3,j1,j2,j3⟩:=JS T fin2;refine⟨r,max M2 M3,fun m hm q hq=>?_,j2,j3⟩;have a1:=hM2 m (by omega) q (by omega);simp only at a1;have a2:=j1 m (by omega) q (by omega);simp only[q2,la1];rw[a1];exact a2
 obtain⟨r,M4,j1,j2,j3⟩:=JS P fin;refine⟨r,max M1 M4+1,fun m hm=>?_,j2,j3⟩;obtain⟨m',rfl⟩:∃m',m=m'+1:=⟨m-1,by omega⟩;have a1:=hM1 m' (by omega) m' (by omega);simp only at a1;have a2:=j1 m' (by omega) m' (by omega);rw[Be];simp only[Qr];rw[a1];exact a2
end
section
variable {B:Nat}{h0:H0}{X:AW}{F F1 F':Fz}{ρ:DM}{N:Nat}{st st':AG}{fr:Fr}{h h':H}
theorem Xu{p:PV}{v:V}(a:PR F ρ N p v):∃w,A9 F ρ N p.cells w/\(Kk p=true->v=.agg w)/\(Kk p=false->w=[v]):=by
 cases p with
 |agg l=>simp only[PR]at a;obtain⟨cs,rfl,b⟩:=a;exact⟨cs,b,fun _=>rfl,fun e=>by cases e⟩
 |_=>exact⟨[v],by simp only[zn,AU,BU,vc];exact a,fun e=>(by cases e),fun _=>rfl⟩
theorem PA{st:AG}{s:Sh}{p:PV}{x:s.T}{v:V}{w:List V}(a:E7 st s p=some (true,x))(k:Kk p=true->v=.agg w)(m:Kk p=false->w=[v])(l:∀xs,Dv st p.cells=some (true,xs)->LH F xs w):PC F (B1 s x) v:=by
 unfold E7 at a;cases b:(Kk p==s.O5)with
 |false=>rw[b]at a;cases a
 |true=>
  rw[b]at a;simp only[we]at a;split at a
  case h_2=>cases a
  rename_i c cs g;split at a
  case h_2=>cases a
  rename_i y o;simp only[zm,Prod.mk.injEq,ze]at a;obtain⟨⟨e,rfl⟩,rfl⟩:=a;have i:=LH.dc (fun ρ N=>PL (l cs g ρ N) e) o;have j:=PC.B1 i;have b:Kk p=s.O5:=by simpa using b
  cases d:s.O5 with
  |true=>rw[d]at b;rw[k b];exact j.1 d
  |false=>rw[d]at b;exact j.2 d v<|m b
theorem handed:∀ {ps:List PV} {vs:List V} {st:AG} {F:Fz},SR B h0 F ρ st.nx st.ob h->A9 F ρ st.nx ps vs->
  ∃F1,SR B h0 F1 ρ (Bg (ps.flatMap zn) st).nx (Bg (ps.flatMap zn) st).ob h/\(∀b cs,F b=some cs->F1 b=some cs)/\∀l i,D6 st l ps=some (true,i)->LH F1 (Ae l i) vs
 |[],vs,st,F,o,g=>⟨F,o,fun _ _ h=>h,fun l i e=>by
  have m:vs=[]:=by simpa using g
  subst m;match l,i,e with
  |[],_,_=>intro ρ' N';simp[Ae]
  |[a],_,e=>cases e
  |a::b::l,_,e=>cases e⟩
 |p::ps,vs,st,F,o,g=>by
  simp only[A9]at g;obtain⟨v,vs,rfl,s,r⟩:=g;obtain⟨w,c1,c2,c3⟩:=Xu s;obtain⟨F1,g1,g2,g3⟩:=HE o c1;have j:A9 F1 ρ (Bg p.cells st).nx ps vs:=by rw[(C8 p.cells st).1];exact r.mono<|Le.XT g2
  obtain⟨t,A,k,u⟩:=handed g1 j;rw[List.flatMap_cons,HH];refine⟨t,A,fun b cs D=>k b cs<|g2 b cs D,fun l i e=>?_⟩;match l,i,e with
  |[],_,e=>cases e
  |[a],i,e=>
   cases ps with
   |cons q E=>cases e
   |nil=>
    have m:vs=[]:=by simpa using r
    subst m;have:=(PA (st:=st) (F:=F1) (by simpa [D6]using e) c2 c3 g3).mono k;intro ρ' N';simp only[Ae,AU,BU,vc];exact this ρ' N'
  |a::b::l,i,e=>
   unfold D6 at e;split at e
   case h_2=>cases e
   rename_i c x d y z C;simp only[zm,Prod.mk.injEq,ze]at e;obtain⟨⟨rfl,rfl⟩,rfl⟩:=e;unfold Ae;exact LH.cons ((PA z c2 c3 g3).mono k) (u (b::l) y<|by rw[Lb<|LB p.cells st];exact C)
theorem SR.after{ob:Ob}(a:SR B h0 F ρ N ob h)(i:∀b,b<h.nx->h'.get b=h.get b)(r:h.nx<=h'.nx)(g:∀b o,h'.get b=some o->b<h'.nx)(q:∀b cs,F b=some cs->F' b=some cs)
  (l:∀b cs,F' b=some cs->F b=some cs\/h.nx<=b) (k:∀b cs,F' b=some cs->∃t fz,h'.get b=some (.cells cs t fz)):SR B h0 F' ρ N ob h':=by
 refine⟨fun id o A=>?_,a.inj,k,a.own,a.dead,fun b c v=>?_,g,zi a.le r,fun b cs c=>?_,a.gl,fun b c=>by obtain⟨m,w,C⟩:=a.pn b c;exact⟨by rw[i b<|a.lt b _ m];exact m,w,C⟩⟩
 ·obtain⟨b,n,x,d,p,z,u,D⟩:=a.obj id o A;have c:=a.lt b x p;refine⟨b,n,x,d,by rw[i b c];exact p,z.mono<|Le.XT (ρ:=ρ) q,fun e=>?_,fun e=>?_⟩
  ·cases y:F' b with
   |none=>rfl
   |some cs=>
    rcases l b cs y with j|j
    ·rw[u e]at j;cases j
    ·omega
  ·obtain⟨cs,t,fz,E,s⟩:=D e;exact⟨cs,t,fz,E,q _ _ s⟩
 ·rw[i b<|zh c a.le];exact a.old b c v
 ·rcases l b cs c with d|d
  ·exact a.fo b cs d
  ·exact .inr<|.inl<|zi a.le d
theorem SR.gh{ob:Ob}(d:SR B h0 F ρ N ob h):Gh h:=fun x e=>by
 obtain⟨a,b,c⟩:=d.gl x e;rw[d.old _ a b];exact c
structure QE(C:Ctx)(f:FuncId)(sp:Au):Prop where
 prim:C.prim f=none
 fn:∃i,C.fn f=some i
 run:∀(F:Fz) (h:H) (args:List V) (i:(Bw sp.ins).T),(∀b cs,F b=some cs->∃t fz,h.get b=some (.cells cs t fz))->(∀b o,h.get b=some o->b<h.nx)->Gh h->LH F (Ae sp.ins i) args->sp.pre i=true->
  ∃l M,(∀m,M<=m->Be C m (.fn f args) h=some l)/\(sp.nd=false->∃x,l=[x])/\∀x∈l,h.nx<=x.2.nx/\(∀b,b<h.nx->x.2.get b=h.get b)/\(∀b o,x.2.get b=some o->b<x.2.nx)/\
   ∃F':Fz,(∀b cs,F b=some cs->F' b=some cs)/\(∀b cs,F' b=some cs->F b=some cs\/h.nx<=b)/\(∀b cs,F' b=some cs->∃t fz,x.2.get b=some (.cells cs t fz))/\
    PC F' (one (Ae sp.outs (sp.f i))) x.1
structure nY(C:Ctx)(f:FuncId)(sp:Au):Prop where
 run:∃q,C.prim f=some q/\∀(F:Fz) (h:H) (args:List V) (i:(Bw sp.ins).T),LH F (Ae sp.ins i) args->sp.pre i=true->∃v,q args h=some (v,h)/\PC F (one (Ae sp.outs (sp.f i))) v
def Ag(C:Ctx)(f:FuncId)(sp:Au):Prop:=QE C f sp\/nY C f sp
theorem Ag.wU{C:Ctx}{f:FuncId}{sp:Au}(h:QE C f sp):Ag C f sp:=.inl h
theorem Ag.zero{C:Ctx}{f:FuncId}{sp:Au}(h:Ag C f sp)(b:C.prim f=none):QE C f sp:=by
 rcases h with h|⟨q,a,_⟩
 ·exact h
 ·rw[b]at a;cases a
theorem Ag.go{C:Ctx}{f:FuncId}{sp:Au}(ok:Ag C f sp)(F:Fz)(h:H)(args:List V)(i:(Bw sp.ins).T)(d:∀b cs,F b=some cs->∃t fz,h.get b=some (.cells cs t fz))(a:∀b o,h.get b=some o->b<h.nx)(g:Gh h)(k:LH F (Ae sp.ins i) args)(p:sp.pre i=true):
  ∃l,(((C.prim f=none/\∃i,C.fn f=some i)/\∃M,∀m,M<=m->Be C m (.fn f args) h=some l)\/∃q x,C.prim f=some q/\q args h=some x/\l=[x])/\(sp.nd=false->∃x,l=[x])/\∀x∈l,h.nx<=x.2.nx/\(∀b,b<h.nx->x.2.get b=h.get b)/\(∀b o,x.2.get b=some o->b<x.2.nx)/\
   ∃F':Fz,(∀b cs,F b=some cs->F' b=some cs)/\(∀b cs,F' b=some cs->F b=some cs\/h.nx<=b)/\(∀b cs,F' b=some cs->∃t fz,x.2.get b=some (.cells cs t fz))/\
    PC F' (one<|Ae sp.outs<|sp.f i) x.1:=by
 rcases ok with ok|⟨q,s,c⟩
 ·obtain⟨l,M,e,j,u⟩:=ok.run F h args i d a g k p;exact⟨l,.inl ⟨⟨ok.prim,ok.fn⟩,M,e⟩,j,u⟩
 ·obtain⟨v,e,j⟩:=c F h args i k p;refine⟨[(v,h)],.inr ⟨q,(v,h),s,e,rfl⟩,fun _=>⟨_,rfl⟩,fun x r=>?_⟩;cases zc.1 r;exact⟨zd _,fun _ _=>rfl,a,F,fun _ _ h=>h,fun _ _ h=>.inl h,d,j⟩
theorem DC.sc:∀ {s:Sh} {x:s.T} {cs:List V},s.sc=true->DC F s x cs->DC F' s x cs
 | .int _,_,_,_,h=>by simpa only[DC]using h
 | .bool,_,_,_,h=>by simpa only[DC]using h
 | .str,_,_,_,h=>by simpa only[DC]using h
 | .list s,l,_,e,h=>by cases e
 | .pair a b,x,_,e,h=>by
  simp only[DC]at h ⊢;simp only[Sh.sc,ze]at e;obtain⟨c,d,rfl,g,i⟩:=h;exact⟨c,d,rfl,g.sc e.1,i.sc e.2⟩
 | .unit,_,_,_,h=>by simpa only[DC]using h
 | .nlist s,l,_,e,h=>by cases e
 | .fnv,_,_,_,h=>by simpa only[DC]using h
 | .ptr _,_,_,e,_=>by cases e
theorem QI:∀ {s:Sh} {x:s.T} {cs:List V},s.sc=true->A9 F ρ N (flat s x) cs->LH F' (flat s x) cs
 | .int k,x,cs,_,h=>fun ρ' N'=>by
  simp only[flat,A9]at h ⊢;obtain⟨v,vs,rfl,g,rfl⟩:=h;exact⟨v,[],rfl,by simp only[PR]at g ⊢;exact g.sc rfl,rfl⟩
 | .bool,x,cs,_,h=>fun ρ' N'=>by
  simp only[flat,A9]at h ⊢;obtain⟨v,vs,rfl,g,rfl⟩:=h;exact⟨v,[],rfl,by simp only[PR]at g ⊢;exact g.sc rfl,rfl⟩
 | .str,x,cs,_,h=>fun ρ' N'=>by
  simp only[flat,A9]at h ⊢;obtain⟨v,vs,rfl,g,rfl⟩:=h;exact⟨v,[],rfl,by simp only[PR]at g ⊢;exact g.sc rfl,rfl⟩
 | .list s,x,cs,e,h=>by cases e
 | .pair a b,(x,y),cs,e,h=>fun ρ' N'=>by
  simp only[Sh.sc,ze]at e;have key:∀(ps i:List PV) (l:List V),A9 F ρ N (ps++i) l->∃c d,l=c++d/\A9 F ρ N ps c/\A9 F ρ N i d:=by
   intro ps;induction ps with
   |nil=>intro i l j;exact⟨[],l,rfl,by simp,j⟩
   |cons p ps o=>
    intro i l j;simp only[List.cons_append,A9]at j;obtain⟨v,vs,rfl,g,m⟩:=j;obtain⟨c,d,rfl,h3,h4⟩:=o i vs m;exact⟨v::c,d,rfl,by simp only[AU];exact⟨g,h3⟩,h4⟩
  obtain⟨c,d,rfl,g,m⟩:=key _ _ _ h;exact(QI e.1 g ρ' N').append<|QI e.2 m ρ' N'
 | .unit,_,cs,_,h=>fun ρ' N'=>by simpa [flat]using h
 | .nlist s,x,cs,e,h=>by cases e
 | .fnv,x,cs,_,h=>fun ρ' N'=>by
  simp only[flat,A9]at h ⊢;obtain⟨v,vs,rfl,g,rfl⟩:=h;refine⟨v,[],rfl,?_,rfl⟩;cases (x:Option Fn)<;>simp only[PR,BU]at g ⊢<;>exact g
 | .ptr _,_,_,e,_=>by cases e
theorem VT{s:Sh}{x:s.T}{v:V}(e:s.sc=true)(h:PC F (B1 s x) v):PC F' (B1 s x) v:=by
 intro ρ' N';have h:=h ρ' N';cases s with
 |pair a b=>
  unfold Pe.B1 PR at h ⊢;obtain⟨cs,rfl,c⟩:=h;exact⟨cs,rfl,QI e c ρ' N'⟩
 |unit=>unfold Pe.B1 PR at h ⊢;obtain⟨cs,rfl,c⟩:=h;exact⟨cs,rfl,by simpa using c⟩
 |int k=>unfold Pe.B1 PR at h ⊢;exact h.sc rfl
 |bool=>unfold Pe.B1 PR at h ⊢;exact h.sc rfl
 |str=>unfold Pe.B1 PR at h ⊢;exact h.sc rfl
 |list s=>cases e
 |nlist s=>cases e
 |ptr s=>cases e
 |fnv=>
  unfold Pe.B1 at h ⊢;cases (x:Option Fn)<;>simp only[PR,BU]at h ⊢<;>exact h
theorem WG:∀ {l:List Sh} {x:(Bw l).T} {vs:List V},l.all Sh.sc=true->LH F (Ae l x) vs->LH F' (Ae l x) vs
 |[],_,vs,_,h=>fun ρ' N'=>by have:=h ρ' N';simpa [Ae]using this
 |[a],x,vs,e,h=>fun ρ' N'=>by
  have d:=h ρ' N';simp only[Ae,A9]at d;obtain⟨v,i,rfl,k,rfl⟩:=d;simp only[zy,List.all_nil,zq]at e;simp only[Ae,AU,BU,vc];refine VT (F:=F) e (fun c g=>?_) ρ' N';have:=h c g;simpa only[Ae,AU,BU,vc]using this
 |a::b::l,x,vs,e,h=>by
  have d:=h (fun _=>none) 0;simp only[Ae,A9]at d;obtain⟨v,i,rfl,_,_⟩:=d;have j:a.sc=true/\(b::l).all Sh.sc=true:=by simpa [zy,Bool.and_assoc]using e
  unfold Ae at h ⊢;exact LH.cons (VT j.1 fun c g=>((AU ..).1<|h c g).1)<|WG j.2 fun c g=>((AU ..).1<|h c g).2
theorem OD{l:List Sh}{x:(Bw l).T}{v:V}:PC F (one<|Ae l x) v↔∃vs,LH F (Ae l x) vs/\v=(match vs with|[u]=>u|us=>.tup us):=by
 have c:∀ps:List PV,(∀u,ps≠[u])->(PC F (one ps) v↔∃vs,LH F ps vs/\v=(match vs with|[u]=>u|us=>.tup us)):=by
  intro ps g;have o:one ps=.tup ps:=by
   unfold one;split
   ·rename_i u;exact wh rfl (g u)
   ·rfl
  rw[o];constructor
  ·intro h;have d:=h (fun _=>none) 0;unfold PR at d;obtain⟨cs,rfl,k⟩:=d;refine⟨cs,fun ρ N=>?_,?_⟩
   ·have j:=h ρ N;unfold PR at j;obtain⟨cs',e,p⟩:=j;cases e;exact p
   ·have i:=k.len;split
    ·rename_i u;cases ps with
     |nil=>cases i
     |cons q m=>cases m with
      |nil=>exact wh rfl (g q)
      |cons _ _=>cases i
    ·rfl
  ·rintro⟨vs,d,rfl⟩ ρ N;unfold PR;have i:=(d ρ N).len;split
   ·rename_i u;cases ps with
    |nil=>cases i
    |cons q m=>cases m with
     |nil=>exact wh rfl (g q)
     |cons _ _=>cases i
   ·exact⟨_,rfl,d ρ N⟩
 match l,x with
 |[],x=>exact c [] (fun u e=>by cases e)
 |[a],x=>
  simp only[Ae,one];constructor
  ·intro h;exact⟨[v],fun ρ N=>by simp only[AU,BU,vc];exact h ρ N,rfl⟩
  ·rintro⟨vs,d,rfl⟩ ρ N;have k:=d ρ N;simp only[A9]at k;obtain⟨u,us,rfl,j,rfl⟩:=k;exact j
 |a::b::l,x=>
  refine c _<|fun u e=>?_;unfold Ae at e;cases l<;>cases e
theorem Xl{nd:Bool}{g:FuncId}{sp:Au}(_hsp:X.sp g=some sp)(E:Ag X.C g sp)(A:nd=false->sp.nd=false){Q:PV->Ob->Prop}{n:Nat}{args:List PV}{k:PV->AG->Tr}{args':List V}(v:Ev X Q n (Ze sp args st k))(a:Rel B h0 F ρ st fr h)(R:A9 F ρ st.nx args args'):
  ∃l,LX X ρ h args' (.fn g) l/\(nd=false->∃x,l=[x])/\
   ∀x∈l,∃n',n'<=n/\∃r st',Ev X Q n' (k r st')/\∃F' ρ',PR F' ρ' st'.nx r x.1/\C4 B h0 F ρ st.nx h st' fr x.2 F' ρ'/\(∀sp,X.sp g=some sp->∀b,b<h.nx->x.2.get b=h.get b):=by
 unfold Ze at v;split at v
 case h_2=>exact wh v zg
 rename_i c i Z;rcases v.Eo with⟨K,d⟩|⟨_,d⟩
 case inr=>exact wh d zg
 simp only[ze]at K;obtain⟨rfl,o⟩:=K;obtain⟨F1,g1,g2,g3⟩:=handed a.sr R;obtain⟨l,w,hone,hall⟩:=E.go F1 h args' i g1.frz a.sr.lt a.sr.gh (g3 _ i Z) o;have D:LX X ρ h args' (.fn g) l:=by
  rcases w with⟨m,M,w⟩|⟨q,x,m,z,rfl⟩
  ·exact .Be ⟨rfl,m⟩ w
  ·exact .prim m z
 refine⟨l,D,fun e=>hone<|A e,fun x O=>?_⟩;obtain⟨u,p,I,F',L,P,W,J⟩:=hall x O;refine⟨n,zd _,_,_,d,?_⟩;cases y:sp.outs.all Sh.sc with
 |true=>
  simp only[we];have Y:PC F (one<|Ae sp.outs<|sp.f i) x.1:=by
   obtain⟨vs,m,z⟩:=OD.1 J;exact OD.2 ⟨vs,WG y m,z⟩
  refine⟨F,ρ,Y ρ _,⟨⟨a.fp,?_⟩,zr,u⟩,fun _ _ b j=>p b j⟩;refine a.sr.after p u I (fun _ _ h=>h) (fun _ _ h=>.inl h)<|fun b cs j=>?_;obtain⟨t,fz,G⟩:=a.sr.frz b cs j;exact⟨t,fz,by rw[p b<|a.sr.lt b _ G];exact G⟩
 |false=>
  simp only[wg];obtain⟨T,U,S⟩:=C8 (args.flatMap zn) st;have s:Le F ρ st.nx F' ρ (Bg (args.flatMap zn) st).nx:=by
   rw[T];exact Le.XT fun b cs j=>L b cs<|g2 b cs j
  refine⟨F',ρ,J ρ _,⟨⟨⟨S.trans a.fp.n,fun t=>?_⟩,?_⟩,s,u⟩,fun _ _ b j=>p b j⟩
  ·have:(Bg (args.flatMap zn) st).get t=st.get t:=by unfold AG.get;rw[U]
   rw[this];exact(a.fp.slot t).mono s
  ·exact g1.after p u I L P W
structure Kc(C:Ctx)(f:FuncId)(w:WN):Prop where
 prim:C.prim f=none
 fn:∃i,C.fn f=some i
 len:∀i l,w.pre i l=true->(w.g i l).length=l.length
 run:∀(F:Fz) (h:H) (args:List V) (i:(Bw w.ins).T) (l:List w.el.T) (b:Nat) (cs:List V) (fz:Nat×Nat) (o:Nat),(∀b cs,F b=some cs->∃t fz,h.get b=some (.cells cs t fz))->(∀b o,h.get b=some o->b<h.nx)->Gh h->LH F (Ae w.ins i) args->w.pre i l=true->
  h.get b=some (.cells cs w.ty fz)->DN F w.el l cs->fz.2<=fz.1->F b=none->(o=0\/o=w.el.sz)->
  ∃x M,(∀m,M<=m->Be C m (.fn f (args++[.sl b 0 l.length l.length o])) h=some [x])/\x.1=.tup []/\h.nx<=x.2.nx/\(∀c,c<h.nx->c≠b->x.2.get c=h.get c)/\(∀c y,x.2.get c=some y->c<x.2.nx)/\
   ∃F':Fz,(∀b cs,F b=some cs->F' b=some cs)/\(∀b cs,F' b=some cs->F b=some cs\/h.nx<=b)/\(∀b cs,F' b=some cs->∃t fz,x.2.get b=some (.cells cs t fz))/\
    ∃cs' fz',x.2.get b=some (.cells cs' w.ty fz')/\DN F' w.el (w.g i l) cs'/\fz'.2<=fz'.1
 nils:∀(F:Fz) (h:H) (args:List V) (i:(Bw w.ins).T),(∀b cs,F b=some cs->∃t fz,h.get b=some (.cells cs t fz))->(∀b o,h.get b=some o->b<h.nx)->Gh h->LH F (Ae w.ins i) args->w.pre i []=true->
  ∃x M,(∀m,M<=m->Be C m (.fn f (args++[.nils])) h=some [x])/\x.1=.tup []/\h.nx<=x.2.nx/\(∀c,c<h.nx->x.2.get c=h.get c)/\(∀c y,x.2.get c=some y->c<x.2.nx)/\
   ∃F':Fz,(∀b cs,F b=some cs->F' b=some cs)/\(∀b cs,F' b=some cs->F b=some cs\/h.nx<=b)/\(∀b cs,F' b=some cs->∃t fz,x.2.get b=some (.cells cs t fz))
theorem A9.split:∀ {a b:List PV} {vs:List V},A9 F ρ N (a++b) vs->∃x y,vs=x++y/\A9 F ρ N a x/\A9 F ρ N b y
 |[],b,vs,h=>⟨[],vs,rfl,by simp,h⟩
 |p::a,b,vs,h=>by
  simp only[List.cons_append,A9]at h;obtain⟨v,vs,rfl,c,d⟩:=h;obtain⟨x,y,rfl,h3,h4⟩:=d.split;exact⟨v::x,y,rfl,by simp only[AU];exact⟨c,h3⟩,h4⟩
theorem SR.wrote{ob:Ob}(a:SR B h0 F ρ N ob h){id b n:Nat}{o o':Obj}{x':O}(E:AH ob id=some o)(w:ρ id=some (b,n))(K:b<h.nx)(C:F b=none)(x:o'.frozen=false)(D:h'.get b=some x')(J:VR F' ρ N n o' x')
  (A:∀c,c<h.nx->c≠b->h'.get c=h.get c) (T:h.nx<=h'.nx) (G:∀b o,h'.get b=some o->b<h'.nx) (S:∀b cs,F b=some cs->F' b=some cs)
  (M:∀b cs,F' b=some cs->F b=some cs\/h.nx<=b) (L:∀b cs,F' b=some cs->∃t fz,h'.get b=some (.cells cs t fz)):SR B h0 F' ρ N (Dl ob id o') h':=by
 have l:∀j,AH (Dl ob id o') j=if j=id then some o' else AH ob j:=fun j=>Gs _ _ _ _ (by rw[E];rfl)
 have g:∀c,c<h.nx->F c=none->F' c=none:=fun c p hn=>by
  cases q:F' c with
  |none=>rfl
  |some cs=>
   rcases M c cs q with r|r
   ·rw[hn]at r;cases r
   ·omega
 refine⟨fun j oj d=>?_,fun i j oi oj c m U hi d q r=>?_,L,a.own,fun j d=>?_,fun c p R=>?_,G,zi a.le T,fun c cs p=>?_,a.gl,fun c p=>?_⟩
 ·rw[l]at d;by_cases e:j=id
  ·subst e;simp only[wk,zm]at d;subst d;exact⟨b,n,x',w,D,J,fun _=>g b K C,fun e=>by rw[x]at e;cases e⟩
  ·rw[wc e]at d;obtain⟨c,m,y,q,r,h3,Z,h5⟩:=a.obj j oj d;have u:c≠b:=fun ec=>e<|a.inj j id oj o c m n d E q<|ec▸w
   have p:=a.lt c y r;refine⟨c,m,y,q,by rw[A c p u];exact r,h3.mono<|Le.XT (ρ:=ρ) S,fun e=>g c p<|Z e,fun e=>?_⟩;obtain⟨cs,t,fz,Y,W⟩:=h5 e;exact⟨cs,t,fz,Y,S _ _ W⟩
 ·have s:∀k ok,AH (Dl ob id o') k=some ok->∃V,AH ob k=some V:=by
   intro k ok I;rw[l]at I;by_cases e:k=id
   ·exact⟨o,e▸E⟩
   ·rw[wc e]at I;exact⟨ok,I⟩
  obtain⟨_,v⟩:=s i oi hi;obtain⟨_,z⟩:=s j oj d;exact a.inj i j _ _ c m U v z q r
 ·rw[l]at d;by_cases e:j=id
  ·rw[wd e]at d;cases d
  ·rw[wc e]at d;exact a.dead j d
 ·rw[A c (zh p a.le)<|Mm (a.own id b n w).2 p R];exact a.old c p R
 ·rcases M c cs p with q|q
  ·exact a.fo c cs q
  ·exact .inr<|.inl<|zi a.le q
 ·obtain⟨v,z,P⟩:=a.pn c p;have u:c≠b:=fun e=>P id n<|e▸w
  exact⟨by rw[A c (a.lt c _ v) u];exact v,z,P⟩
theorem rev_eq{α:Type}{a:List α}{x:α}{r:List α}(h:a.reverse=x::r):a=r.reverse++[x]:=by
 have:=wi List.reverse h;simpa using this
theorem Vg{nd:Bool}{g:FuncId}{w:WN}(J:X.sp g=none)(d:Kc X.C g w){Q:PV->Ob->Prop}{n:Nat}{args:List PV}{k:PV->AG->Tr}{args':List V}(j:Ev X Q n (Uz w args st k))(u:Rel B h0 F ρ st fr h)(R:A9 F ρ st.nx args args'):
  ∃l,LX X ρ h args' (.fn g) l/\(nd=false->∃x,l=[x])/\
   ∀x∈l,∃n',n'<=n/\∃r st',Ev X Q n' (k r st')/\∃F' ρ',PR F' ρ' st'.nx r x.1/\C4 B h0 F ρ st.nx h st' fr x.2 F' ρ'/\(∀sp,X.sp g=some sp->∀b,b<h.nx->x.2.get b=h.get b):=by
 unfold Uz at j;split at j
 ·rename_i id sz nn r q;rw[rev_eq q]at R;obtain⟨a1,a2,rfl,G,z⟩:=R.split;simp only[A9]at z;obtain⟨v,_,rfl,hv,rfl⟩:=z;obtain⟨F1,g1,g2,g3⟩:=handed u.sr G;split at j
  case h_2=>exact wh j zg
  rename_i c i t s l hi ho;cases D:zj t w.ty with
  |false=>rw[D]at j;exact wh j zg
  |true=>
  rw[D]at j;simp only[we]at j;have D:=zl D;split at j
  case h_2=>exact wh j zg
  rename_i l' T;obtain⟨e,rfl⟩:=Cp T;cases e;rcases j.Eo with⟨O,a⟩|⟨_,a⟩
  case inr=>exact wh a zg
  simp only[ze,w5]at O;obtain⟨⟨⟨rfl,p⟩,hn⟩,E⟩:=O;have E:=zl E;subst hn E D;obtain⟨e1,e2,e3⟩:=C8 (r.reverse.flatMap zn) st;obtain⟨b,m,x,h1,h2,⟨cs,fz,rfl,k1,k2,k3⟩,h4,_⟩:=g1.obj id _ ho;simp only[PR]at hv;obtain⟨o,ho',rfl⟩:∃o,(o=0\/o=w.el.sz)/\v=.sl b (0*w.el.sz) (List.length l) (List.length l) o:=by
   rcases hv.2 b m h1 with⟨_,_,g⟩|⟨_,e,_⟩
   ·exact g
   ·cases e
  rw[Nat.zero_mul];obtain⟨x,M,S,q1,P,W,U,F',I,Z,Y,cs',fz',f4,f5,f6⟩:=d.run F1 h a1 i l b cs fz o g1.frz u.sr.lt u.sr.gh (g3 _ i hi) p h2 k1 k2 (h4 rfl) ho';refine⟨[x],.Be ⟨rfl,d.prim,d.fn⟩ S,fun _=>⟨x,rfl⟩,fun y hy=>?_⟩;cases zc.1 hy;refine⟨n,zd _,_,_,a,F',ρ,?_,⟨⟨⟨e3.trans u.fp.n,fun t=>?_⟩,?_⟩,?_,P⟩,fun sp A=>by rw[J]at A;cases A⟩
  ·rw[q1];simp[PR]
  ·have:((Bg (r.reverse.flatMap zn) st).setObj id<|.arr false w.ty w.el<|w.g i l).get t=st.get t:=by
    show((Bg (r.reverse.flatMap zn) st).fr.get t).getD .any=_;rw[e2];rfl
   rw[this];refine(u.fp.slot t).mono ?_;show Le F ρ st.nx F' ρ (Bg (r.reverse.flatMap zn) st).nx;rw[e1];exact Le.XT fun b cs L=>I b cs<|g2 b cs L
  ·exact g1.wrote ho h1 (u.sr.lt _ _ h2) (h4 rfl) rfl f4 ⟨cs',fz',rfl,f5,f6,by rw[<-k3];exact d.len i l p⟩ W P U I Z Y
  ·show Le F ρ st.nx F' ρ (Bg (r.reverse.flatMap zn) st).nx;rw[e1];exact Le.XT fun b cs L=>I b cs<|g2 b cs L
 ·rename_i r q;rw[rev_eq q]at R;obtain⟨a1,a2,rfl,G,z⟩:=R.split;simp only[A9]at z;obtain⟨v,_,rfl,hv,rfl⟩:=z;simp only[PR]at hv;subst hv;obtain⟨F1,g1,g2,g3⟩:=handed u.sr G;split at j
  case h_2=>exact wh j zg
  rename_i c i hi;rcases j.Eo with⟨O,a⟩|⟨_,a⟩
  case inr=>exact wh a zg
  simp only[ze]at O;obtain⟨rfl,p⟩:=O;obtain⟨e1,e2,e3⟩:=C8 (r.reverse.flatMap zn) st;obtain⟨x,M,S,q1,P,W,U,F',I,Z,Y⟩:=d.nils F1 h a1 i g1.frz u.sr.lt u.sr.gh (g3 _ i hi) p;have K:Le F ρ st.nx F' ρ (Bg (r.reverse.flatMap zn) st).nx:=by
   rw[e1];exact Le.XT fun b cs L=>I b cs<|g2 b cs L
  refine⟨[x],.Be ⟨rfl,d.prim,d.fn⟩ S,fun _=>⟨x,rfl⟩,fun y hy=>?_⟩;cases zc.1 hy;refine⟨n,zd _,_,_,a,F',ρ,?_,⟨⟨⟨e3.trans u.fp.n,fun t=>?_⟩,?_⟩,K,P⟩,fun sp A=>by rw[J]at A;cases A⟩
  ·rw[q1];simp[PR]
  ·have:(Bg (r.reverse.flatMap zn) st).get t=st.get t:=by unfold AG.get;rw[e2]
   rw[this];exact(u.fp.slot t).mono K
  ·exact g1.after W P U I Z Y
 ·exact wh j zg
theorem Ka(m:X.C.mg=false)(i:∀g sp,X.sp g=some sp->Ag X.C g sp)(j:∀g w,X.ws g=some w->Kc X.C g w):∀(d:Nat) (nd:Bool) (h0:H0),EN B h0 X nd<|Cg X nd d
 |0,nd,h0=>by intro a;exact wh a zg
 |d+1,nd,h0=>by
  rename_i Q n W args st k;intro a F ρ fr h args' u t;unfold Cg at a;cases W with
  |rnd id=>exact wh a zg
  |fn g=>
  simp only at a;have conv:(∃l,LX X ρ h args' (.fn g) l/\(nd=false->∃x,l=[x])/\
   ∀x∈l,∃n',n'<=n/\∃r st',Ev X Q n' (k r st')/\∃F' ρ',PR F' ρ' st'.nx r x.1/\C4 B h0 F ρ st.nx h st' fr x.2 F' ρ'/\(∀sp,X.sp g=some sp->∀b,b<h.nx->x.2.get b=h.get b))->
   ∃l,LX X ρ h args' (.fn g) l/\(nd=false->∃x,l=[x])/\
   ∀x∈l,∃n',n'<=n/\∃r st',Ev X Q n' (k r st')/\∃F' ρ',PR F' ρ' st'.nx r x.1/\C4 B h0 F ρ st.nx h st' fr x.2 F' ρ'/\(∀J,pZ.fn g=.fn J->∀sp,X.sp J=some sp->∀b,b<h.nx->x.2.get b=h.get b):=by
   rintro⟨l,K,Z,V⟩;refine⟨l,K,Z,fun x A=>?_⟩;obtain⟨n',U,r,st',T,F',ρ',P,k4,L⟩:=V x A;exact⟨n',U,r,st',T,F',ρ',P,k4,fun J e=>by cases e;exact L⟩
  obtain⟨o,q⟩:∃o,X.sp g=o:=⟨_,rfl⟩;cases o with
  |some sp=>
   rw[q]at a;simp only at a;cases s:(nd|| !sp.nd)with
   |false=>rw[s]at a;exact wh a zg
   |true=>
    rw[s]at a;exact conv (Xl (nd:=nd) q (i g sp q) (fun e=>by rw[e]at s;simpa using s) a u t)
  |none=>
   rw[q]at a;simp only at a;obtain⟨ow,D⟩:∃o,X.ws g=o:=⟨_,rfl⟩;cases ow with
   |some w=>rw[D]at a;exact conv (Vg q (j g w D) a u t)
   |none=>
   rw[D]at a;simp only at a;cases c:X.esc.any (zj g)with
   |true=>
    rw[c]at a;simp only[we]at a;unfold rX at a;split at a
    case h_2=>exact wh a zg
    rename_i id off;cases p:Hu (st.obj id)with
    |false=>rw[p]at a;exact wh a zg
    |true=>
     rw[p]at a;simp only[we]at a;obtain⟨g',G,s⟩:=zK.1 c;have e:=zl s;subst e;have E:=X.escOk g G;obtain⟨o,ho⟩:=Ug p;obtain⟨b,n',z,q1,_⟩:=u.sr.at ho;simp only[A9]at t;obtain⟨x,_,rfl,A,rfl⟩:=t;have v:=A;simp only[PR]at v;obtain rfl:=v.2 b n' q1;exact conv ⟨[(.ptr b off,h)],.prim E rfl,fun _=>⟨_,rfl⟩,fun y Y=>by
      cases zc.1 Y;exact⟨n,zd _,_,st,a,F,ρ,A,C4.refl u,fun _ _ _ _=>rfl⟩⟩
   |false=>
   rw[c]at a;simp only[wg]at a;split at a
   case h_2=>exact wh a zg
   rename_i E I;obtain⟨O,l,M,R,g3,S⟩:=Ii (Ka m i j d nd) (Ka m i j d false) m I E q a u t;exact conv ⟨l,.Be ⟨rfl,O⟩ R,g3,S⟩
theorem OI{st:AG}:∀ {l:List Sh} {ps:List PV} {r:Bool×(Bw l).T},D6 st l ps=some r->l.length=ps.length
 |[],[],_,_=>rfl
 |[],_::_,_,h=>by cases h
 |[a],[p],_,_=>rfl
 |[a],[],_,h=>by cases h
 |[a],_::_::_,_,h=>by cases h
 |a::b::l,[],_,h=>by cases h
 |a::b::l,p::ps,_,h=>by
  unfold D6 at h;split at h
  case h_2=>cases h
  rename_i d c;have:=OI c;simp at this ⊢;exact this
def ID(outs:List Sh)(v:PV):List PV:=match outs with
 |[_]=>[v]
 |_=>match v with
  | .tup vs=>vs
  |_=>[v]
def NP(outs:List Sh)(v:PV)(ob:Ob):Option (Bool×(Bw outs).T):=D6 ⟨0,.leaf,ob,0⟩ outs<|ID outs v
def Ends(X:AW)(t:Tr)(Q:PV->Ob->Prop):Prop:=∃n,Ev X Q n t
def Ad(sp:Au)(i:(Bw sp.ins).T)(v:PV)(ob:Ob):Prop:=∃y,NP sp.outs v ob=some (true,y)/\y=sp.f i
theorem Xg(z:X.C.mg=false)(c:∀g sp,X.sp g=some sp->Ag X.C g sp)(I:∀g w,X.ws g=some w->Kc X.C g w){f:FuncId}{sp:Au}{d:Nat}(hsp:X.C.spec f=none)(m:X.C.prim f=none)(W:X.sp f=none)
  (Z:∀i,sp.pre i=true->Ends X (tree X sp.nd d f<|Ae sp.ins i) (Ad sp i)) (hfn:∃i,X.C.fn f=some i):Ag X.C f sp:=by
 refine .wU ⟨m,hfn,fun F h args i L O E A J=>?_⟩;obtain⟨n,he⟩:=Z i J;unfold tree at he;have hr:Rel h.nx ⟨h,F,[],fun _=>False⟩ F (fun _=>none) (Ax 0 [] [] 0) ⟨0,.leaf⟩ h:=by
  refine⟨⟨rfl,fun t=>?_⟩,⟨fun id o D=>(by cases D),fun id id' o o' b n n' D=>(by cases D),L,fun id b n k=>(by cases k),fun _ _=>rfl,fun _ _ _=>rfl,O,zd _,fun b cs k=>.inl k,fun x U=>⟨O _ _<|E x U,fun e=>e,E x U⟩,fun b k=>(by cases k)⟩⟩;show PR _ _ _ (((ES []).get t).getD .any) _;have:(ES []).get t=none:=PM.CX t;rw[this];simp[PR]
 obtain⟨_,l,M,hM,K,c⟩:=Ii (Ka z c I d sp.nd) (Ka z c I d false) z hsp m W he hr<|A _ _;refine⟨l,M,hM,K,fun x U=>?_⟩;obtain⟨n',hn,r,st',he',F',ρ',hp,hw,_⟩:=c x U;have hq:=he'.V8;obtain⟨y,hy,rfl⟩:=hq;have S:∀b,b<h.nx->x.2.get b=h.get b:=fun b k=>hw.rel.sr.old b k<|fun e=>e
 refine⟨hw.nx,S,hw.rel.sr.lt,?_⟩;have hvs:∃vs,A9 F' ρ' st'.nx (ID sp.outs r) vs/\((∃a,sp.outs=[a])->vs=[x.1])/\((∀a,sp.outs≠[a])->(∃s,r=.tup s)->x.1=.tup vs):=by
  unfold ID;split
  ·rename_i a v;exact⟨[x.1],by simp only[AU,BU,vc];exact hp,fun _=>rfl,fun j=>wh v<|j _⟩
  ·rename_i j;split
   ·rename_i s;simp only[PR]at hp;obtain⟨cs,e,h1⟩:=hp;exact⟨cs,h1,fun⟨a,v⟩=>wh v<|j a,fun _ _=>e⟩
   ·rename_i V;exact⟨[x.1],by simp only[AU,BU,vc];exact hp,fun _=>rfl,fun _ ⟨s,Y⟩=>wh Y<|V s⟩
 obtain⟨vs,q,P,R⟩:=hvs;obtain⟨F1,g1,g2,g3⟩:=handed (st:=st') hw.rel.sr q;have hob:∀id,DF (AG.obj ⟨0,.leaf,st'.ob,0⟩ id) (st'.obj id):=fun id=>DF.refl _
 have T:=g3 sp.outs _ (by rw[Lb hob];exact hy);refine⟨F1,fun b cs k=>g2 b cs<|hw.le.fz b cs k,fun b cs k=>(g1.fo b cs k).imp_right<|fun h=>h.resolve_right<|fun e=>e,g1.frz,OD.2 ⟨vs,T,?_⟩⟩;have p:sp.outs.length=(ID sp.outs r).length:=OI hy;have hl2:=q.len;by_cases D:∃a,sp.outs=[a]
 ·rw[P D]
 ·have j:∀a,sp.outs≠[a]:=fun a v=>D ⟨a,v⟩
  have G:sp.outs.length≠1:=fun e=>by
   obtain⟨a,v⟩:=List.length_eq_one_iff.1 e;exact j a v
  have ht:∃s,r=.tup s:=by
   cases r with
   |tup s=>exact⟨s,rfl⟩
   |_=>
    exfalso;apply G;rw[p];unfold ID;split<;>rfl
  rw[R j ht];split
  ·rename_i u;exact wh (p.trans hl2) G
  ·rfl
end
section
variable {X:AW}{Q Q':PV->Ob->Prop}
theorem Ends.leaf{v:PV}{ob:Ob}(h:Q v ob):Ends X (.leaf v ob) Q:=⟨0,.leaf h⟩
theorem Ends.ite{c:Bool}{a b:Tr}(d:c=true->Ends X a Q)(g:c=false->Ends X b Q):Ends X (.ite c a b) Q:=by
 cases c with
 |true=>obtain⟨n,h⟩:=d rfl;exact⟨n,.ite (fun _=>h)<|fun e=>by cases e⟩
 |false=>obtain⟨n,h⟩:=g rfl;exact⟨n,.ite (fun e=>by cases e)<|fun _=>h⟩
theorem Ends.tt{c:Bool}{a b:Tr}(d:c=true)(h:Ends X a Q):Ends X (.ite c a b) Q:=Ends.ite (fun _=>h) (fun e=>by rw[d]at e;cases e)
theorem Ends.ff{c:Bool}{a b:Tr}(d:c=false)(h:Ends X b Q):Ends X (.ite c a b) Q:=Ends.ite (fun e=>by rw[d]at e;cases e)<|fun _=>h
def stepT(X:AW):Tr->Tr
 | .loop nd ro d f base b st k=>body X nd ro d f base b st k
 | .cut nd ro d f base b st k=>AJ X nd ro d f base b st k
 |t=>t
theorem Ends.step{t:Tr}(h:Ends X (stepT X t) Q):Ends X t Q:=by
 cases t with
 |loop=>obtain⟨n,h⟩:=h;exact⟨n+1,.loop h⟩
 |cut=>obtain⟨n,h⟩:=h;exact⟨n,.cut h⟩
 |_=>exact h
theorem Ends.eq{t a:Tr}(e:t=a)(h:Ends X a Q):Ends X t Q:=e▸h
theorem Ends.Ah{t a:Tr}(e:stepT X t=a)(h:Ends X a Q):Ends X t Q:=Ends.step<|e▸h
def Tr.L:Tr->Tr
 | .ite _ a _=>a
 | .both a _=>a
 |t=>t
def Tr.R:Tr->Tr
 | .ite _ _ b=>b
 | .both _ b=>b
 |t=>t
def re:Tr->AG->Tr
 | .loop nd ro d f base b _ k,st=>.loop nd ro d f base b st k
 | .cut nd ro d f base b _ k,st=>.cut nd ro d f base b st k
 |t,_=>t
def Ua:List (FuncId×Au)->FuncId->Option Au
 |[],_=>none
 |(g,s)::l,f=>bif zj g f then some s else Ua l f
def vB:List (FuncId×List Nat)->FuncId->Nat->Bool
 |[],_,_=>false
 |(g,t)::l,f,r=>bif zj g f then t.any (zj r)else vB l f r
def tW:List (FuncId×List (Nat×List (Nat×Sh)))->FuncId->Nat->List (Nat×Sh)
 |[],_,_=>[]
 |(g,t)::l,f,r=>bif zj g f then fz1 t r else tW l f r
 where fz1:List (Nat×List (Nat×Sh))->Nat->List (Nat×Sh)
 |[],_=>[]
 |(i,s)::l,r=>bif zj i r then s else fz1 l r
def nL:List (FuncId×List (Nat×List Nat))->FuncId->Nat->List Nat
 |[],_,_=>[]
 |(g,t)::l,f,r=>bif zj g f then pl1 t r else nL l f r
 where pl1:List (Nat×List Nat)->Nat->List Nat
 |[],_=>[]
 |(i,s)::l,r=>bif zj i r then s else pl1 l r
end
section
open Go.Proofs.Tryz (prog)
def MN(C:Ctx)(q:Ur):Ctx:=⟨C.T,C.ng,C.fn,C.prim,q,false⟩
theorem SE{C:Ctx}{P:Program}(a:C.Ok P){q:Ur}(h:JQ P q):(MN C q).Ok P where
 T:=a.T
 fn:=a.fn
 prim:=a.prim
 spec:=h
theorem NF{C:Ctx}(a:FI C)(q:Ur):FI (MN C q):=a
def Bm:Ctx:=MN C7<|rR fmtS<|rR Yw<|rR Rv<|Ji A7
theorem pB:Bm.Ok prog:=SE WM<|QB jI<|QB aB<|QB UM yY
theorem XC:FI Bm:=NF JP _
def uX:List (FuncId×List (Nat×List Nat)):=
 [(9,[(16,[1,6]),(17,[1,6]),(15,[1,6]),(11,[1,5]),(12,[1,5]),(10,[1,5]),(5,[1,3]),(6,[1,3]),(4,[1,3]),(3,[1])]),
 (10,[(18,[1,2,3,8]),(16,[1,2,3,8]),(14,[1,2,3,7]),(12,[1,2,3,7]),(9,[1,2,3,4,5,6]),(7,[1,2,3,4,5,6]),(5,[1,2,3,4]),(3,[1,2,3,4])]),
 (11,[(10,[1,4]),(11,[1,4]),(9,[1,4]),(5,[1,3]),(6,[1,3]),(4,[1,3]),(3,[1])]),
 (12,[(5,[1,2,3,4]),(3,[1,2,3,4])]),
 (13,[(6,[1,4]),(7,[1,4]),(5,[1,4]),(4,[1])]),
 (14,[(20,[1,5,6]),(28,[1,5,6]),(26,[1,3,5,6]),(24,[1,3,5,6]),(21,[1,5,6]),(19,[1,5,6]),(17,[1]),(12,[1,4]),(13,[1,4]),(11,[1,4]),(10,[1]),(8,[1,3]),(6,[1,3]),(3,[1])]),
 (15,[(35,[14,94,95,96]),(34,[14,16,94,95,96]),(30,[14,94,95,96]),(29,[14,94,95,96]),(27,[1]),(23,[1,8,47,48,49]),(22,[1,8,10,47,48,49]),(17,[1,8,47,48,49]),(16,[1,8,47,48,49]),(14,[1]),(10,[1,26,27,28]),(6,[1,26,27,28]),(5,[1,26,27,28]),(4,[1])]),
 (16,[(38,[1,5,10]),(44,[1,5,10]),(42,[1,5,10,11]),(39,[1,5,10]),(37,[1,5,10]),(35,[1]),(33,[1]),(18,[1,5,6]),(30,[1,5,6,7]),(25,[1,5,6,7,8,9]),(26,[1,5,6,7,8,9]),(24,[1,5,6,7,8,9]),(23,[1,5,6,7,8]),(19,[1,5,6]),(17,[1,5,6]),(15,[1]),(13,[1]),(7,[1,3]),(8,[1,3]),(6,[1,3]),(5,[1]),(3,[1])]),
 (33,[(5,[0,1])]),
 (34,[(5,[0,1])]),
 (40,[(13,[6]),(10,[0,1,6]),(5,[0,1]),(3,[0,1])]),
 (50,[(6,[5,6,7]),(3,[5,6,7]),(2,[5,6,7])]),
 (52,[(3,[0,6,7]),(2,[0,6])]),
 (57,[(13,[3,11,12,13]),(12,[3,5,11,12,13]),(10,[3,5,11,12,13]),(6,[3,11,12,13]),(5,[3,11,12,13]),(3,[0])]),
 (58,[(5,[0,3]),(6,[0,3]),(4,[0,3]),(3,[0])]),
 (60,[(7,[0,3]),(13,[0,3,4]),(11,[0,3,4]),(8,[0,3]),(6,[0,3]),(5,[0]),(3,[0])]),
 (61,[(5,[0,1,5]),(6,[0,1,5]),(4,[0,1,5]),(3,[0,1])]),
 (62,[(16,[]),(11,[3,4]),(9,[3,4]),(7,[3,4]),(4,[0,3])]),
 (64,[(10,[30,31,32]),(6,[30,31,32]),(5,[30,31,32]),(4,[1])]),
 (67,[(14,[1,4]),(17,[1,4]),(15,[1,4]),(13,[1,4]),(12,[1]),(10,[1]),(8,[1,3]),(6,[1,3]),(4,[1,3])]),
 (91,[(15,[8,9]),(13,[6,8,9]),(10,[5,6,7]),(7,[5,6]),(4,[5])]),
 (93,[(9,[8,10]),(3,[2,3])]),
 (96,[(10,[3]),(7,[1,3,4]),(5,[1,3,4]),(3,[1])]),
 (97,[(7,[0,2,3,4,5]),(4,[0,2,3,4]),(3,[0,2,3,4])]),
 (98,[(2,[0,1]),(1,[0,1])]),
 (99,[(3,[0,1,5]),(2,[0,1,5])]),
 (122,[(9,[5,6,7]),(6,[5,6,7,8])]),
 (123,[(15,[5,23,24,25]),(14,[5,9,23,24,25]),(11,[5,6,7,23,24,25]),(7,[5,23,24,25]),(6,[5,23,24,25]),(4,[0])]),
 (126,[(11,[2,4]),(5,[0,2,3,4]),(4,[0,2,3,4])]),
 (128,[(3,[0,3]),(4,[0,3]),(2,[0,3])]),
 (130,[(2,[0,1]),(1,[0,1])]),
 (131,[(6,[0,1,7,8]),(3,[0,1,7,8]),(2,[0,1,7,8])]),
 (149,[(6,[0,2,3,4]),(5,[0,2,3,4]),(4,[0,2,3])]),
 (152,[(5,[0,3,4]),(3,[0,3,4])]),
 (154,[(15,[8,9,10,11,12,13]),(39,[8,9,10,11,12,13,14]),(35,[8,9,10,11,12,13,14,19,20]),(33,[8,9,10,11,12,13,14,19,20]),(20,[8,9,10,11,12,13,14,15,16]),(27,[8,9,10,11,12,13,14,15,16,18]),(21,[8,9,10,11,12,13,14,15,16]),(19,[8,9,10,11,12,13,14,15,16]),(16,[8,9,10,11,12,13]),(14,[8,9,10,11,12,13]),(11,[0,8,9,10,11]),(10,[0,8,9,10,11]),(6,[0,1]),(3,[0,1])]),
 (156,[(6,[0,1,5,6,7]),(4,[0,1,5,6,7])]),
 (157,[(7,[0,1,5]),(10,[0,1,5]),(8,[0,1,5]),(6,[0,1,5]),(5,[0,1]),(4,[])]),
 (158,[(5,[0,1,5,6,7]),(11,[0,1,5,6,7,8]),(6,[0,1,5,6,7]),(4,[0,1,5,6,7])]),
 (159,[(9,[0,1,5,6,7,8]),(7,[0,1,5,6,7,8]),(5,[0,1,5,6]),(3,[0,1,5,6])]),
 (168,[(6,[5,6,7]),(3,[5,6,7]),(2,[5,6,7])]),
 (170,[(3,[2,3,4]),(2,[2,3,4])]),
 (171,[(7,[6,7,8]),(3,[6,7,8]),(2,[6,7,8])]),
 (176,[(3,[1,2,4,5]),(6,[1,2,4,5]),(4,[1,2,4,5]),(2,[1,2,4,5])]),
 (181,[(8,[1,5,6,7,8,20,21,22,27,28,29]),(7,[1,5,6,7,8,20,21,22,27,28,29]),(4,[1,5,20,21,22]),(3,[1,5,20,21,22])]),
 (182,[(3,[0,3]),(4,[0,3]),(2,[0,3])]),
 (186,[(12,[0,1,5,6,21,22]),(11,[0,1,5,6,7,8,21,22]),(7,[0,1,5,6,21,22]),(6,[0,1,5,6,21,22]),(3,[0,1])]),
 (187,[(7,[0,1,5]),(11,[]),(8,[0,1,5]),(6,[0,1,5]),(5,[0,1]),(4,[])]),
 (188,[(10,[0,1,5,6,13,14]),(9,[0,1,5,6,7,8,13,14]),(5,[0,1,5,6,13,14]),(4,[0,1,5,6,13,14])]),
 (190,[(12,[4,5,14,15]),(6,[2,3,4,5]),(5,[4,5,6,7])]),
 (192,[(6,[0,1,6,7,8]),(4,[0,1,6,7,8])]),
 (193,[(2,[0]),(1,[0])]),
 (194,[(5,[0,1,2,7,9,10]),(4,[0,1,2,7,9,10])]),
 (206,[(20,[0]),(19,[6]),(16,[5,6,47,48,49]),(15,[5,6,8,47,48,49]),(11,[5,6,47,48,49]),(10,[5,6,47,48,49]),(8,[0,5])]),
 (209,[(3,[0,3]),(2,[0,3])]),
 (212,[(26,[9,11,12,13,96,97]),(22,[9,11,12,13,96,97]),(21,[9,11,12,13,96,97]),(19,[9,10,11,12,13,14]),(17,[9,10,11,12,13,14]),(11,[0,1]),(9,[0,1,6,7,8]),(7,[0,1,6,7,8]),(3,[0,1])]),
 (231,[(3,[0,2,4]),(7,[0,2,4,5]),(4,[0,2,4]),(2,[0,2,4])]),
 (232,[(3,[0,1]),(2,[0,1]),(1,[0,1])]),
 (233,[(3,[0,1]),(2,[0,1]),(1,[0,1])]),
 (246,[(25,[2,8,9,10,14,15,16,17,18]),(24,[2,8,9,10,14,15,16,17,18]),(18,[2,8,9,10,11,13,14,15,16]),(17,[2,8,9,10,11,13,14,15,16]),(7,[0,1,2]),(5,[0,1,2]),(3,[0,1,2])]),
 (248,[(8,[1,5,12,13,14]),(4,[1,5,12,13,14]),(3,[1,5,12,13,14])]),
 (249,[(29,[0,1,5,6,17,156,157]),(28,[0,1,5,6,17,156,157]),(26,[0,1,5,6]),(16,[0,1,5,6,11,12,104,105]),(15,[0,1,5,6,11,12,104,105]),(11,[0,1,5,6,7]),(9,[0,1,5,6,7]),(8,[0,1,5,6,7,8])])]
def pK:List FuncId:=[277]
theorem VA:∀g∈pK,Bm.prim g=some PK.noEsc.run:=fun g h=>by
 cases h with
 |head=>kernel_rfl
 |tail _ h=>cases h
def X7(l:List (FuncId×Au)):AW:=⟨Bm,Ua l,nL uX,fun _ _=>false,fun _ _=>[],fun _=>none,pK,VA⟩
def mB(cs:List (FuncId×List Nat))(fz:List (FuncId×List (Nat×List (Nat×Sh))))(t:List (FuncId×List (Nat×List Nat)))(l:List (FuncId×Au)):AW:=⟨Bm,Ua l,nL<|t++uX,vB cs,tW fz,fun _=>none,pK,VA⟩
end
end Go.Pe
namespace Go.Sp
def first:List Int->Int
 |[]=>0
 |x::l=>if x≠0 then x else first l
def BJ(c:Bool)(e:Int):Int:=bif c then e else 0
end Go.Sp
namespace Go.Pe
open Go.Det
abbrev i64:Sh:=.int .i64
abbrev sF:Sh:=.list<|.int .i64
def F7:Au:=⟨[sF],fun l=>decide (l.length<=1000000),[i64],fun l=>Sp.first l,false⟩
def HW:Au:=⟨[.bool,i64],fun _=>true,[i64],fun i=>Sp.BJ i.1 i.2,false⟩
def TG:AW:=X7 []
end Go.Pe
namespace Go.Sp
abbrev BX:=Z
def has(l:List BX)(x:BX):Bool:=decide (x∈l)
end Go.Sp
namespace Go.Pe
open Go.Det
section
open List Int Prod
namespace T52
def T(s:Z):Tr:=tree TG false 9 52<|Ae ([Sh.str]) s
def L1(v0 a:Z):Tr:=re ((T []))<|Ax 37 [(0,.dat Sh.str v0),(6,.ptr 0 0)] [(0,zu a 0)] 1
theorem Ap(s:Z):T s=L1 s s:=by kernel_rfl
def L2(v0 b:Z)(a:Nat):Tr:=re ((stepT TG<|L1 [] []).L.L.L)<|Ax 37 [(0,.dat Sh.str v0),(6,.ptr 0 0)] [(0,zu b a)] 1
theorem Al(v0 a:Z):stepT TG (L1 v0 a)=let b':=zx 0<|Ja a 0;let b:Tr:=.leaf (.bl false)<|[(0,zu a b')];let d:Tr:=.ite true b<|.ite (rune a 0 !=95) (.di (rune a 0<48) b<|.di (rune a 0>57) b<|L2 v0 a b')<|L2 v0 a b';let c:Tr:=.di (rune a 0>=65) (.ite (!decide (rune a 0<=90)) d<|L2 v0 a b') d;.di (0<length a) (.di (rune a 0>=97) (.di (rune a 0<=122) (L2 v0 a b') c) c) (.ite (!v0==[]) (.leaf (.dat Sh.bool<|decide ((length v0:Int)<=24))<|[(0,zu a 0)])<|.leaf (.bl false)<|[(0,zu a 0)]):=by kernel_rfl
theorem AK(v0 b:Z)(a:Nat):stepT TG (L2 v0 b a)=let b':=zx a<|Ja b a;let g:=[(0,zu b a)];let c:Tr:=.leaf (.bl false)<|[(0,zu b b')];let e:Tr:=.ite ((↑a:Int)==0) c<|.ite (rune b a !=95) (.di (rune b a<48) c<|.di (rune b a>57) c<|L2 v0 b b')<|L2 v0 b b';let d:Tr:=.di (rune b a>=65) (.ite (!decide (rune b a<=90)) e<|L2 v0 b b') e;.di (a<length b) (.di (rune b a>=97) (.di (rune b a<=122) (L2 v0 b b') d) d) (.ite (!v0==[]) (.leaf (.dat Sh.bool<|decide ((length v0:Int)<=24)) g)<|.leaf (.bl false) g):=by kernel_rfl
end T52
end
section
variable {X:AW}{Q:PV->Ob->Prop}
@[simp] theorem rJ:Ends X .fail Q↔False:=⟨fun⟨_,h⟩=>zg h,fun h=>h.elim⟩
@[simp] theorem Gr{v:PV}{ob:Ob}:Ends X (.leaf v ob) Q↔Q v ob:=⟨fun⟨_,h⟩=>h.V8,fun h=>.leaf h⟩
@[simp] theorem EF{c:Bool}{a b:Tr}:Ends X (.ite c a b) Q↔if c=true then Ends X a Q else Ends X b Q:=by
 constructor
 ·rintro⟨n,h⟩;rcases h.Eo with⟨d,h⟩|⟨d,h⟩
  ·rw[wd d];exact⟨n,h⟩
  ·rw[wc<|by simp[d]];exact⟨n,h⟩
 ·intro h;refine .ite (fun d=>?_)<|fun d=>?_
  ·rwa [wd d]at h
  ·rwa [wc<|by simp[d]]at h
theorem Ad.of{sp:Au}{i:(Bw sp.ins).T}{v:PV}{ob:Ob}{c:Bool}{y:(Bw sp.outs).T}(h:NP sp.outs v ob=some (c,y))(a:c=true)(b:y=sp.f i):Ad sp i v ob:=⟨y,by rw[h,a],b⟩
@[simp] theorem Ot(s:Sh)(x:List s.T):Kx (Sh.leaves<|.list s) [.dat (.list s) x]=(true,[.dat (.list s) x]):=rfl
theorem wr(x:Int)(a: -9223372036854775808<=x)(b:x<=9223372036854775807):IntKind.wrap .i64 x=x:=IntWalk.i64_in x ⟨a,b⟩
theorem drop_cons{α:Type}{l r:List α}{x d:α}{i:Nat}(h:l.drop i=x::r):i<l.length/\l.getD i d=x/\l.drop (i+1)=r:=by
 have a:i<l.length:=by
  rcases Nat.lt_or_ge i l.length with c|c
  ·exact c
  ·rw[List.drop_eq_nil_of_le c]at h;cases h
 have b:=List.drop_eq_getElem_cons a;rw[h]at b;simp only[zN]at b;exact⟨a,by simp[a,b.1],b.2.symm⟩
end
theorem RD:∀g sp,TG.sp g=some sp->Ag Bm g sp:=fun g sp h=>by cases h
abbrev D3(X:AW):Prop:=∀g sp,X.sp g=some sp->Ag Bm g sp
theorem LD{X:AW}(o:X.C=Bm)(b:∀g sp,X.sp g=some sp->Ag Bm g sp){f:FuncId}{sp:Au}{d:Nat}(j:Bm.spec f=none)(a:Bm.prim f=none)(k:X.sp f=none)
  (e:∀i,sp.pre i=true->Ends X (tree X sp.nd d f<|Ae sp.ins i) (Ad sp i)) (m:∃i,Bm.fn f=some i) (l:∀g w,X.ws g=some w->Kc Bm g w:=by intro _ _ h;cases h):Ag Bm f sp:=by
 have c:X.C.mg=false:=by rw[o];rfl
 rw[<-o]at*;exact Xg c b l j a k e m
theorem BI{α:Type}{o:Option α}(h:o.isSome=true):∃i,o=some i:=zz.1 h
theorem Cj{X:AW}(b:D3 X){f:FuncId}{sp:Au}(c:∀i,sp.pre i=true->Ends X (tree X sp.nd 9 f<|Ae sp.ins i) (Ad sp i))(l:X.C=Bm:=by rfl)(d:Bm.spec f=none:=by kernel_rfl)(a:Bm.prim f=none:=by kernel_rfl)(e:X.sp f=none:=by kernel_rfl)(k:(Bm.fn f).isSome=true:=by kernel_rfl)(j:∀g w,X.ws g=some w->Kc Bm g w:=by intro _ _ h;cases h):Ag Bm f sp:=LD l b d a e c (BI k) j
theorem drop_nil{α:Type}{l:List α}{i:Nat}(h:l.drop i=[])(a:i<=l.length):i=l.length:=by
 have:=wi List.length h;simp at this;omega
theorem Oz{α:Type}{l r:List α}{x:α}{i:Nat}(h:l.drop i=x::r):x∈l:=by
 have:x∈l.drop i:=by rw[h];simp
 exact List.mem_of_mem_drop this
theorem Nv(c:Int):zt c=true↔(97<=c/\c<=122)\/(65<=c/\c<=90)\/(48<=c/\c<=57)\/c=95:=by
 simp[zt,Sp.letter,or_assoc]
theorem Js(c:Int):Sp.letter c=true↔(97<=c/\c<=122)\/(65<=c/\c<=90):=by
 simp[Sp.letter]
namespace T52
variable {Q:PV->Ob->Prop}
theorem loop(s:Z)(b:s≠[]):∀(r:Z) (i:Nat),s.drop i=r->i<=s.length->1<=i->
  ((r.all fun c=>zt (c.toNat:Int))=false->∀ob,Q (.bl false) ob)->((r.all fun c=>zt (c.toNat:Int))=true->∀ob,Q (.dat .bool<|decide ((s.length:Int)<=24)) ob)->Ends TG (L2 s s i) Q
 |[],i,h,q,u,k,j=>by
  have:=drop_nil h q;refine Ends.Ah (AK ..) (Ends.ff (by simp;omega)<|Ends.tt (by simpa using b) ?_);exact Ends.leaf<|j rfl _
 |x::r,i,h,q,u,k,j=>by
  obtain⟨g,o,A⟩:=drop_cons (d:=0) h;refine Ends.Ah (AK ..) (Ends.tt (by simpa using g) ?_);have z:((i:Int)==0)=false:=by simp;omega
  simp only[EF,Gr,z,Bool.false_eq_true,vf,w5,Bool.not_eq_true',w9,bne_iff_ne,wm];have step:zt (x.toNat:Int)=true->Ja s i=1->Ends TG (L2 s s<|zx i<|Ja s i) Q:=by
   intro a v;rw[v];refine loop s b r (i+1) A g (by omega) (fun e=>k<|by simp[e]) (fun e=>j<|by simp[e];exact a)
  have no:zt (x.toNat:Int)=false->∀ob,Q (.bl false) ob:=fun a=>k (by simp[a])
  by_cases p:(s.getD i 0).toNat<128
  ·obtain⟨w,y⟩:=Tk g p;rw[w,o];have m:=Nv (x.toNat:Int);generalize ((x.toNat:Nat):Int)=c at m step no ⊢;by_cases a:zt c=true
   ·have:=m.1 a;repeat' split
    all_goals first|exact step a y|(exfalso;omega)
   ·have l:zt c=false:=by simpa using a
    have:¬_:=fun h=>a<|m.2 h
    repeat' split
    all_goals first|exact no l _|(exfalso;omega)
  ·have C:=Pw g (by omega);have t:zt (x.toNat:Int)=false:=by
    have:¬zt (x.toNat:Int)=true:=fun h=>by
     have:=(Nv _).1 h;rw[o]at p;omega
    simpa using this
   repeat' split
   all_goals first|exact no t _|(exfalso;omega)
end T52
theorem KQ{α:Type}{l r:List α}{x:α}{i:Nat}(h:l.drop i=x::r):l.take (i+1)=l.take i++[x]:=by
 have b:=(drop_cons (d:=x) h).1;have a:=(drop_cons (d:=x) h).2.1;rw[List.take_add_one];congr 1;have:l[i]?=some x:=by
  have e:=List.getElem?_eq_getElem b;rw[e];simp only[List.getD,e,Option.getD_some]at a;rw[a]
 rw[this];rfl
theorem AP{C:Ctx}:∀g sp,Ua [] g=some sp->Ag C g sp:=fun g sp h=>by cases h
theorem Ac{C:Ctx}{a:FuncId}{c:Au}{l:List (FuncId×Au)}(h0:Ag C a c)(d:∀g sp,Ua l g=some sp->Ag C g sp):∀g sp,Ua ((a,c)::l) g=some sp->Ag C g sp:=by
 intro g sp h;unfold Ua at h;cases b:zj a g with
 |true=>rw[b]at h;cases h;have:=zl b;subst this;exact h0
 |false=>rw[b]at h;exact d g sp h
theorem Gq{f:FuncId}{s t:List Sh}{g:(Bw s).T->(Bw t).T}{nd:Bool}(a:Bm.prim f=none)(b:∃i,Bm.fn f=some i):Ag Bm f ⟨s,fun _=>false,t,g,nd⟩:=
 .wU ⟨a,b,fun F h args i _ _ _ _ c=>by cases c⟩
theorem Dn{α:Type}(A B:List α)(x d:α){n:Nat}(h:A.length=n):(A++x::B).getD n d=x:=by
 subst h;simp[List.getD]
theorem C9{α:Type}(A B:List α)(x y:α){n:Nat}(h:A.length=n):(A++x::B).set n y=A++y::B:=by
 subst h;simp
end Go.Pe
namespace Go.Sp
open Go.Pe (Ec imax)
theorem bR(a b:Int):Ec a b=min a b:=by unfold Ec;split<;>omega
end Go.Sp
namespace Go.Sp
abbrev Am:Nat:=18446744073709551616
abbrev Br:=Int×List Int
def CD(l:List Int):Bool:=decide (l.length<=20000)&&l.all fun d=>decide (0<=d)&&decide (d<18446744073709551616)
def hW(l:List Int):Bool:=CD l&&decide (l.length<=9000)
def nF(l:List Int):Bool:=decide (l.getLast?≠some 0)
def B3(l:List Int):Bool:=CD l&&nF l
def Ao(l:List Int):Int:=val Am l
def BS(n:Int):List Int:=dg Am n
def u64(n:Int):Bool:=decide (0<=n)&&decide (n<18446744073709551616)
def CC(n:Int):Bool:=decide (-9223372036854775808<=n)&&decide (n<9223372036854775808)
def Af(n:Int):Int:=if n<0 then -n else n
theorem Aj(n:Int):Af n=(n.natAbs:Int):=by unfold Af;split<;>omega
def vI(a:Br):Int:=if a.2=[]then a.1 else if a.1<0 then -Ao a.2 else Ao a.2
def D8(a:Br):Bool:=CC a.1&&(decide (a.2=[])||(B3 a.2&&(decide (a.1=1)||decide (a.1= -1))&&decide (9223372036854775808<=Ao a.2)))
def CI(n:Int):Br:=if -9223372036854775808<n/\n<9223372036854775808 then(n,[])else(if n<0 then -1 else 1,BS<|Af n)
def Cv(n:Int):Int:=(CI n).1
def Ct(n:Int):List Int:=(CI n).2
def sg(neg:Bool)(v:Int):Int:=if neg=true then -v else v
def Hp(x y c:Int):Int:=(x+y+c) % 18446744073709551616
def Ni(x y c:Int):Int:=(x+y+c)/18446744073709551616
def RO(x y c:Int):Int:=(x-y-c) % 18446744073709551616
def O6(x y c:Int):Int:=if x<y+c then 1 else 0
def HJ(x y:Int):Int:=(x*y) % 18446744073709551616
def PU(x y:Int):Int:=(x*y)/18446744073709551616
def BY(a b:Int):Int:=if a<b then -1 else if a>b then 1 else 0
def OW(n:Int):Int:=if n<0 then -1 else if n>0 then 1 else 0
def GI(a b:Br):Br:=if a.2=[]/\b.2=[]/\CC (a.1+b.1)=true then(a.1+b.1,[])else CI<|vI a+vI b
def Fs(a:Br):Br:=if a.2=[]/\a.1≠ -9223372036854775808 then(-a.1,[])else CI<| -vI a
def SY(a:Br):Br:=if a.1<0 then Fs a else a
def Mg(a b:Br):Br:=GI a<|Fs b
def UO(a b:Br):Br:=CI<|vI a*vI b
def HI(a:Br):Int:=(Fs a).1
def HT(a:Br):List Int:=(Fs a).2
def Np(a:Br):Int:=(SY a).1
def MV(a:Br):List Int:=(SY a).2
def Lt(a b:Br):Int:=(GI a b).1
def LG(a b:Br):List Int:=(GI a b).2
def Zx(a b:Br):Int:=(Mg a b).1
def ZG(a b:Br):List Int:=(Mg a b).2
def Hl(a b:Br):Int:=(UO a b).1
def Hi(a b:Br):List Int:=(UO a b).2
end Go.Sp
namespace Go.Pe
open Sp
open Go.Det
abbrev B8:Sh:=.pair (.int .i64)<|.nlist<|.int .u64
abbrev u64:Sh:=.int .u64
abbrev CZ:Sh:=.list<|.int .u64
def U5:Au:=⟨[u64,u64,u64],fun i=>Sp.u64 i.1&&Sp.u64 i.2.1&&decide (0<=(i.2.2:Int))&&decide ((i.2.2:Int)<=1),[u64,u64],fun i=>(Hp i.1 i.2.1 i.2.2,Ni i.1 i.2.1 i.2.2),false⟩
def UY:Au:=⟨[u64,u64,u64],fun i=>Sp.u64 i.1&&Sp.u64 i.2.1&&decide (0<=(i.2.2:Int))&&decide ((i.2.2:Int)<=1),[u64,u64],fun i=>(RO i.1 i.2.1 i.2.2,O6 i.1 i.2.1 i.2.2),false⟩
def Rr:Au:=⟨[u64,u64],fun i=>Sp.u64 i.1&&Sp.u64 i.2,[u64,u64],fun i=>(PU i.1 i.2,HJ i.1 i.2),false⟩
def TO:Au:=⟨[i64],fun n=>CC n,[u64],fun n=>Af n,false⟩
def TZ:Au:=⟨[B8],fun a=>Sp.D8 a,[.bool,CZ],fun a=>(decide (Sp.vI a<0),BS<|Af<|Sp.vI a),false⟩
def YO:Au:=⟨[.bool,CZ],fun i=>B3 i.2,[B8],fun i=>(Cv<|Sp.sg i.1<|Ao i.2,Ct<|Sp.sg i.1<|Ao i.2),false⟩
def Ub:Au:=⟨[CZ],fun l=>CD l,[CZ],fun l=>At l,false⟩
def WI:Au:=⟨[CZ,CZ],fun i=>B3 i.1&&B3 i.2,[i64],fun i=>BY (Ao i.1)<|Ao i.2,false⟩
def bU:Au:=⟨[CZ,CZ],fun i=>Sp.hW i.1&&Sp.hW i.2,[CZ],fun i=>BS<|Ao i.1+Ao i.2,false⟩
def cD:Au:=⟨[CZ,CZ],fun i=>CD i.1&&CD i.2&&decide (Ao i.2<=Ao i.1),[CZ],fun i=>BS<|Ao i.1-Ao i.2,false⟩
def aX:Au:=⟨[CZ,CZ],fun i=>Sp.hW i.1&&Sp.hW i.2,[CZ],fun i=>BS<|Ao i.1*Ao i.2,false⟩
def ZO:AW:=X7 []
def Kl:AW:=X7 [(178,TO),(208,U5),(217,UY),(209,Ub),(177,Rr)]
def vH:AW:=X7 [(179,TZ),(180,YO),(186,bU),(188,cD),(187,WI),(181,aX),(177,Rr),(178,TO)]
end Go.Pe
