import Derived.Test.YtipkapecgjpnlaaGreatDoorX08
import Derived.ChangeSame
/- A part of a proof; no law is stated here. -/
noncomputable section
open List renaming mem_singleton -> zc, getElem?_eq_some_iff -> zm, all_cons -> zq, mem_map -> zz, range -> yb
open Nat renaming le_refl -> zd, beq -> zg, le_trans -> zh, eq_of_beq_eq_true -> zk, lt_of_lt_of_le -> zn, le_of_ble_eq_true -> zo, blt -> zx, add -> ye
open Bool renaming and_eq_true -> ze, and_true -> zp
open Go.Pe.Ev renaming AA -> zf
open Go.DataW renaming trod -> zi
open Go.Pe.PV renaming cells -> zj
open Option.some renaming injEq -> zl
open Go.Pe.Le renaming refl -> zr
open Go.Pe.Sh renaming pair -> zt
open Option renaming isSome_iff_exists -> zu, bind_some -> zw, map_eq_some_iff -> zy
open List.cons renaming injEq -> z6
open Go.Pe renaming apart -> z7
open Prod.mk renaming injEq -> z8
open Go.Det.V renaming beq -> yc
open Go.Det renaming X -> yd
namespace Go.Pe
open Go.Det
section
variable {B:Nat}{h0:H0}{F:Fz}{ρ:DU}{N:Nat}{X:AR}{st st':AI}{fr:Fr}{h h':H}{Q:PV->Ob->Prop}{n:Nat}
mutual
theorem Mq:∀v:V,yc v v=true
 | .bool b=>by simp[yc]
 | .int k n=>by simp[yc]
 | .str s=>by simp[yc]
 | .nilp=>rfl
 | .ptr a i=>by simp[yc]
 | .nils=>rfl
 | .sl a b c d e=>by simp[yc]
 | .esl=>rfl
 | .es0=>rfl
 | .junk=>rfl
 | .nilm=>rfl
 | .map a=>by simp[yc]
 | .yld a=>by simp[yc]
 | .nilf=>rfl
 | .nili=>rfl
 | .fn f a b=>by simp only[yc,FO a,FO b,zp,wk]
 | .iface t x=>by simp only[yc,Mq x,zp];simp
 | .agg a=>by exact FO a
 | .tup a=>by exact FO a
theorem FO:∀vs:List V,V.JI vs vs=true
 |[]=>rfl
 |v::vs=>by simp only[V.JI,Mq v,FO vs,zp]
end
theorem jU{T:BV}{t:TypeId}{a x:V}(c:EP T h t a=some x):∃b off o,a=.ptr b off/\h.get b=some o/\(∀g:H,g.get b=h.get b->EP T g t a=some x)/\
  ∀(g:H) cs t1 j t2 e,h.get b=some (.cells cs t1 j)->g.get b=some (.cells cs t2 e)->EP T g t a=some x:=by
 unfold EP at c;split at c
 case h_2=>cases c
 rename_i b off d i r p;have k:∃o,h.get b=some o:=by
  cases m:h.get b with
  |some o=>simp
  |none=>
   grind [rd]
 obtain⟨o,l⟩:=k;refine⟨b,off,o,rfl,l,fun g m=>?_,fun g cs t1 j t2 e q s=>?_⟩
 ·simp_all [EP,rd]
 ·unfold EP;grind [rd]
def SY(C:Ctx)(F:Fz)(bl:List Nat)(h:H)(fr:Fr)(o:Oper)(x:V):Prop:=
 ∀g:H,(∀b cs,F b=some cs->∃t fz,g.get b=some (.cells cs t fz))->(∀b∈bl,g.get b=h.get b)->∃z,GL C fr g o=some (.val x z)
theorem Vy:∀ {s:Sh} {x:s.T} {cs:List V} {b:Nat},DC F s x cs->V.map b∉cs
 | .int _,_,_,_,h,hm=>by grind [DC]
 | .bool,_,_,_,h,hm=>by grind [DC]
 | .str,_,_,_,h,hm=>by grind [DC]
 | .list s,l,_,_,h,hm=>by
  simp only[DC]at h;grind
 | .pair a b,x,_,_,h,hm=>by
  obtain⟨c,d,rfl,e,g⟩:=h;rcases List.mem_append.1 hm with hm|hm
  ·exact Vy e hm
  ·exact Vy g hm
 | .unit,_,_,_,h,hm=>by grind [DC]
 | .fnv,x,_,_,h,hm=>by simp only[DC]at h;grind
 | .ptr _,x,_,_,h,hm=>by simp only[DC]at h;grind
 | .nlist s,l,_,_,h,hm=>by
  simp only[DC]at h;grind
theorem V9{s:Sh}{x:s.T}{b:Nat}(a:PR F ρ N (.dat s x) (.map b)):False:=by
 exact Vy a<|zc.2 rfl
theorem VU{b:Nat}(a:PR F ρ N .nil (.map b)):False:=by
 grind [PR]
theorem gT(j:SR B h0 F ρ st.nx st.ob h){o:Oper}{c:Call}(g:o.op=.call c)(a:c.callee=.builtin .len){id sz off len:Nat}{cap:Option Nat}(e:Mn st c.args.toList=some [.sl id sz off len cap]){u:PV}{s:AI}
  (d:(pop o.op X.C.T st).To u s) {b:Nat} (l:PR F ρ st.nx (.sl id sz off len cap) (.map b)):False:=by
 rw[g]at d;simp only[pop,RE,e,a,I3,nV,Va,List.map_cons,List.map_nil,lz]at d;split at d;split at d
 case h_3=>
  cases i:Ia (st.obj id)with
  |false=>simp_all
  |true=>
   obtain⟨b',n,k⟩:=j.live i;grind [PR]
 all_goals first|(simp at d;done)|grind|(cases he)
theorem P4{T:BV}{ts:Array TypeId}{a:V}{g:H}(c:∀b,a≠ .map b)(h:H):Fu T g ts [a]=Fu T h ts [a]:=by
 unfold Fu;grind
theorem Zq(I:Rel B h0 F ρ st fr h){o:Oper}{x:V}(D:GL X.C fr h o=some (.val x h)){l:List Nat}(J:qN st o.op=some l)(hto:∃u s,(pop o.op X.C.T st).To u s):
  ∃bl,SY X.C F bl h fr o x/\∀b∈bl,b<h.nx/\∃id∈l,id<st.nx/\∀y,ρ id=some y->y.1=b:=by
 unfold qN at J;rw[CR]at D;unfold GG at D;split at J
 case h_5=>cases J
 case h_4 t y i ok r=>
  simp only[r]at D;have m:∀g,GL X.C fr g o=(match ev X.C fr y,ev X.C fr i with|some v,some u=>Bz g (Es X.C.T g t v u ok)|_,_=>none):=(by grind [CR,GG]);cases O:ev X.C fr y with
  |none=>grind
  |some a=>
   cases hi:ev X.C fr i with
   |none=>grind
   |some u=>
    rw[O,hi]at D;simp only at D;obtain⟨x',A,E⟩:=Gm D;cases E;have G:∀g:H,entries g a=entries h a->Es X.C.T g t a u ok=some x:=by
     grind [Es]
    split at J
    case h_3=>cases J
    case h_1=>
     rename_i id K;obtain⟨a',w,p⟩:=BY (C:=X.C) I.fp K;rw[O]at w;cases w;have hent:∃es,entries h a=some es:=by
      grind [Es]
     obtain⟨es,E⟩:=hent;cases J;by_cases L:∃b,a=.map b
     ·obtain⟨b,rfl⟩:=L;have R:∃ob,h.get b=some ob:=by
       cases M:h.get b with
       |none=>simp[entries,M]at E
       |some ob=>simp
      obtain⟨ob,R⟩:=R;simp only[PR]at p;refine⟨[b],fun g _ M=>⟨g,?_⟩,fun b' Y=>?_⟩
      ·rw[m,O,hi];simp only;rw[G g<|by simp_all [entries]];rfl
      ·cases zc.1 Y;refine⟨I.sr.lt b ob R,id,(by simp),p.1,fun z hz=>?_⟩;grind
     ·refine⟨[],fun g _ M=>⟨g,?_⟩,(by simp)⟩;rw[m,O,hi];simp only;rw[G g ?_];rfl;cases a<;>first|rfl|grind
    case h_2=>
     rename_i K;obtain⟨a',w,p⟩:=BY (C:=X.C) I.fp K;rw[O]at w;cases w;simp only[PR]at p;subst p;cases J;refine⟨[],fun g _ M=>⟨g,?_⟩,(by simp)⟩;rw[m,O,hi];simp only;rw[G g rfl];rfl
 case h_1 t y r=>
  simp only[r]at D;have m:∀g,GL X.C fr g o=(match ev X.C fr y with|some v=>Bz g (EP X.C.T g t v)|none=>none):=(by grind [CR,GG]);cases O:ev X.C fr y with
  |none=>grind
  |some a=>
   rw[O]at D;simp only at D;obtain⟨x',A,E⟩:=Gm D;cases E;obtain⟨b,off,ob,rfl,R,G,hfz⟩:=jU A;have hblt:=I.sr.lt b ob R;have live:∀id,id<st.nx->(∀z,ρ id=some z->z.1=b)->l=[id]->∃bl,SY X.C F bl h fr o x/\∀b∈bl,b<h.nx/\∃id∈l,id<st.nx/\∀y,ρ id=some y->y.1=b:=by
    rintro id hlt hid rfl;refine⟨[b],fun g _ M=>⟨g,?_⟩,fun b' Y=>?_⟩
    ·rw[m,O];simp only;rw[G g ah];rfl
    simp_all
   split at J
   case h_4=>cases J
   case h_1=>
    rename_i id Z K;obtain⟨a',w,p⟩:=BY (C:=X.C) I.fp K;grind [PR]
   case h_2=>
    rename_i id sz j Z K;obtain⟨a',w,p⟩:=BY (C:=X.C) I.fp K;grind [PR]
   case h_3=>
    rename_i s y' Z K;obtain⟨a',w,p⟩:=BY (C:=X.C) I.fp K;rw[O]at w;cases w;simp only[PR]at p;obtain⟨b',o',cs,E,hF,_⟩:=p;cases E;obtain⟨t1,f1,k1⟩:=I.sr.frz b cs hF;refine⟨[],fun g M _=>⟨g,?_⟩,(by simp)⟩;obtain⟨t2,f2,k2⟩:=M b cs hF;rw[m,O];simp only;rw[hfz g cs t1 f1 t2 f2 k1 k2];rfl
 case h_2 s d y r=>
  simp only[r]at D;have m:∀g,GL X.C fr g o=(match ev X.C fr y with|some v=>Bz g (FG X.C.T g s d v)|none=>none):=(by grind [CR,GG]);have fin:∀a,ev X.C fr y=some a->(∀g,FG X.C.T g s d a=FG X.C.T h s d a)->∃bl,SY X.C F bl h fr o x/\∀b∈bl,b<h.nx/\∃id∈l,id<st.nx/\∀y,ρ id=some y->y.1=b:=by
   intro a ha M;rw[ha]at D;simp only at D;obtain⟨x',A,E⟩:=Gm D;cases E;exact⟨[],fun g _ _=>⟨g,by rw[m,ha];simp only;rw[M,A];rfl⟩,(by simp)⟩
  split at J
  case h_3=>cases J
  case h_1=>
   rename_i k z K;obtain⟨a',w,p⟩:=BY (C:=X.C) I.fp K;simp only[PR,DC,z6,ve]at p;subst p;exact fin _ w fun g=>by
    unfold FG;grind
  case h_2=>
   rename_i z K;obtain⟨a',w,p⟩:=BY (C:=X.C) I.fp K;simp only[PR,DC,z6,ve]at p;subst p;exact fin _ w fun g=>by
    unfold FG;grind
 case h_3 c r=>
  simp only[r]at D;split at J
  case h_5=>cases J
  case h_4=>
   rename_i id q S;obtain⟨Aeg,w,p⟩:=EG (C:=X.C) I.fp S;simp only[BC]at p;obtain⟨a,as',rfl,p,rfl⟩:=p;have m:∀g,GL X.C fr g o=Bz g (Fu X.C.T g c.argTypes [a]):=fun g=>by rw[CR];unfold GG;simp only[r,q,w];rfl
   simp only[q,w,EU]at D;obtain⟨x',A,E⟩:=Gm D;cases E;cases J;by_cases L:∃b,a=.map b
   ·obtain⟨b,rfl⟩:=L;simp only[PR]at p;by_cases R:∃ob,h.get b=some ob
    ·obtain⟨ob,R⟩:=R;refine⟨[b],fun g _ M=>⟨g,?_⟩,fun b' Y=>?_⟩
     ·rw[m];have:Fu X.C.T g c.argTypes [.map b]=Fu X.C.T h c.argTypes [.map b]:=by
       unfold Fu;grind
      rw[this,A];rfl
     ·cases zc.1 Y;refine⟨I.sr.lt b ob R,id,(by simp),p.1,fun z hz=>?_⟩;grind
    ·have hnone:h.get b=none:=by
      cases M:h.get b with
      |none=>rfl
      |some ob=>grind
     refine⟨[],fun g _ _=>⟨g,?_⟩,(by simp)⟩;obtain⟨uu,s,U⟩:=hto;exfalso;rw[r]at U;simp only[pop,RE,S,q,I3,nV,Va,List.map_cons,List.map_nil,lz]at U;split at U
     case h_2=>simp at U
     rename_i t x _ E;cases E;split at U
     case h_5=>
      rename_i E;cases E;split at U
      case h_2=>simp at U
      rename_i ks vs l ho;obtain⟨b1,n1,o1,q1,q2,_⟩:=I.sr.at ho;grind
     all_goals first|(simp at U;done)|grind|(cases E)
   ·refine⟨[],fun g _ _=>⟨g,?_⟩,(by simp)⟩;rw[m,P4 ah h,A];rfl
  all_goals
   rename_i q S;obtain⟨Aeg,w,p⟩:=EG (C:=X.C) I.fp S;obtain⟨a,as',rfl,p,rfl⟩:=p;have m:∀g,GL X.C fr g o=Bz g (Fu X.C.T g c.argTypes [a]):=fun g=>by rw[CR];unfold GG;simp only[r,q,w];rfl
   simp only[q,w,EU]at D;have hnm:∀b,a≠ .map b:=by
    intro b e;subst e;first
     |exact V9 p
     |exact VU p
     |(obtain⟨u,s,U⟩:=hto
       exact gT I.sr r q S U p)
   obtain⟨x',A,E⟩:=Gm D;cases E;refine⟨[],fun g _ _=>⟨g,?_⟩,fun b R=>by cases R⟩;rw[m];rw[P4 hnm h,A];rfl
structure eP(C:Ctx)(F:Fz)(ρ:DU)(N:Nat)(h:H)(r:Nat×Option (List Nat))(c:Rc):Prop where
 i:c.i=r.1
 k:∀l,r.2=some l->∃bl,SY C F bl h c.f c.o c.v/\∀b∈bl,b<h.nx/\∃id∈l,id<N/\∀y,ρ id=some y->y.1=b
def Wb(C:Ctx)(F:Fz)(ρ:DU)(N:Nat)(h:H):Rs->List Rc->Prop
 |[],l=>l=[]
 |r::a,l=>∃c cs,l=c::cs/\eP C F ρ N h r c/\Wb C F ρ N h a cs
theorem eP.mono{F':Fz}{ρ':DU}{N':Nat}{r:Nat×Option (List Nat)}{c:Rc}(m:eP X.C F ρ N h r c)(d:Le F ρ N F' ρ' N')(A:h.nx<=h'.nx)
  (w:∀l,r.2=some l->∀b,b<h.nx->(∃id∈l,id<N/\∀y,ρ id=some y->y.1=b)->h'.get b=h.get b):eP X.C F' ρ' N' h' r c:=by
 refine⟨m.i,fun l e=>?_⟩;obtain⟨bl,p,q⟩:=m.k l e;refine⟨bl,fun g u x=>p g (fun b cs v=>u b cs<|d.fz b cs v)<|fun b a=>?_,fun b a=>?_⟩
 ·grind
 ·obtain⟨z,id,s,j,o⟩:=q b a;exact⟨ae,id,s,zn j d.n,fun y t=>o y<|d.at j t⟩
theorem Wb.mono{F':Fz}{ρ':DU}{N':Nat}(e:Le F ρ N F' ρ' N')(g:h.nx<=h'.nx)(i:∀b,b<h.nx->h'.get b=h.get b):∀ {a:Rs} {cs:List Rc},Wb X.C F ρ N h a cs->Wb X.C F' ρ' N' h' a cs
 |[],_,d=>d
 |r::a,_,d=>by
  obtain⟨c,cs,rfl,j,k⟩:=d;exact⟨c,cs,rfl,j.mono e g ah,Wb.mono e g i k⟩
theorem Wb.apart{F':Fz}{ρ':DU}{fr':Fr}{anc:Nat->Nat->Bool}{i:Nat}{t:Option (List Nat)}(p:Rel B h0 F ρ st fr h)(j:C0 B h0 F ρ st.nx h st' fr' h' F' ρ')
  (I:∀d,t=some d->∀b,b<h.nx->h'.get b=h.get b\/∃id∈d,∃m,ρ id=some (b,m)):
  ∀ {u:Rs} {cs:List Rc},Wb X.C F ρ st.nx h u cs->z7 anc i st t u=true->cs.all (still X.C anc i h')=true/\Wb X.C F' ρ' st'.nx h' (behind st t u) cs
 |[],_,E,_=>by
  cases E;exact⟨rfl,rfl⟩
 |r::u,_,E,x=>by
  obtain⟨c,cs,rfl,s,T⟩:=E;unfold z7 at x;rw[zq,ze]at x;obtain⟨h3,h4⟩:=Wb.apart p j I T (by exact x.2);have key:(T0 r.2 t&&K2 st r.2)=true->∀l,r.2=some l->∀b,b<h.nx->(∃id∈l,id<st.nx/\∀y,ρ id=some y->y.1=b)->h'.get b=h.get b:=by
   rintro q l g b S ⟨id,D,M,L⟩;simp only[ze,g]at q;have a:=List.all_eq_true.1 q.2 id D;obtain⟨v,K,G⟩:=p.sr.live a;obtain rfl:v=b:=L _ G;cases t with
   |none=>
    grind [T0]
   |some d=>
    rcases I d rfl v S with e|⟨id',Y,m,A⟩
    ·exact e
    ·obtain⟨o1,V⟩:=IB a;have w:∃o,AM st.ob id'=some o:=by
      cases O:AM st.ob id' with
      |some o=>simp
      |none=>rw[p.sr.dead id' O]at A;cases A
     obtain⟨o,w⟩:=w;obtain rfl:=p.sr.inj id id' o1 o v K m V w G A;grind [Nat.beq_refl,T0]
  refine⟨?_,c,cs,rfl,?_,h4⟩
  ·rw[zq,h3,zp];unfold still;rw[s.i];cases J:anc i r.1 with
   |true=>rfl
   |false=>
    have g:∃l,r.2=some l:=by
     cases U:r.2 with
     |some l=>simp
     |none=>grind [T0]
    obtain⟨l,g⟩:=g;obtain⟨bl,D,M⟩:=s.k l g;obtain⟨z,hz⟩:=D h' (fun b cs R=>j.rel.sr.frz b cs<|j.le.fz b cs R) ah;grind [Mq]
  ·show eP X.C F' ρ' st'.nx h' (bif T0 r.2 t&&K2 st r.2 then r else(r.1,none)) c;cases q:(T0 r.2 t&&K2 st r.2)with
   |true=>exact s.mono j.le j.nx<|key q
   |false=>
    exact⟨s.i,(by simp)⟩
theorem R2{C:Ctx}{o:Oper}(j:Cy o=true){r:OR}(a:GL C fr h o=some r):∃ob f,mJ C fr o=some (ob,f)/\r=.val (f h.nx) (h.push ob):=by
 rw[CR]at a;unfold GG at a;unfold Cy at j;unfold mJ;split at j
 case h_4=>cases j
 case h_1 t b=>
  simp only[b]at a ⊢;unfold Gy at a;cases c:C.T.inf t with
  |none=>rw[c]at a;cases a
  |some i=>rw[c]at a;cases a;exact⟨_,_,rfl,rfl⟩
 case h_2 t x b=>
  simp only[b]at a ⊢;cases d:ev C fr x with
  |none=>rw[d]at a;cases a
  |some y=>rw[d]at a;cases a;exact⟨_,_,rfl,rfl⟩
 case h_3 t n ps b=>
  simp only[b]at a ⊢;cases d:WI C fr ps.toList with
  |none=>grind
  |some y=>
   rw[d]at a;simp only at a ⊢;unfold Ey at a;unfold VK;split at a
   case h_2=>cases a
   rename_i e l;simp only[l];split at a
   case h_2=>cases a
   rename_i i c;simp only[c];cases k:(Nat.ble (n*i.size) 16777216&&zx 0 (i.zero.length)&&zg i.zero.length i.size)with
   |false=>rw[k]at a;cases a
   |true=>
    rw[k]at a;split at a
    case h_2=>cases a
    rename_i cs g;cases a;simp only[g];exact⟨_,_,rfl,rfl⟩
theorem Abr{T:BV}{call:Fv}{st:AI}{o:Oper}{k:AI->Tr}(a:Ed o=true):HN T call o st k=QU o.dst k (pop o.op T st):=by
 grind [Mp,Ed,HN]
theorem zT{call:Fv}(b:EZ B h0 X false call)(j:Rel B h0 F ρ st fr h){o:Oper}(m:Ed o=true){k:AI->Tr}(i:Ev X Q n (HN X.C.T call o st k)):
  ∃n',n'<=n/\∃a,Ev X Q n' (k a)/\∃F' ρ' x fr',GL X.C fr h o=some (.val x h)/\fr.put o.dst x=some fr'/\C0 B h0 F ρ st.nx h a fr' h F' ρ'/\∃u s,(pop o.op X.C.T st).To u s:=by
 obtain⟨l,c,g,d⟩:=HS b j i;obtain⟨⟨⟨x,h'⟩,rfl⟩,_⟩:=g.1 rfl;obtain⟨n',hn,a,he1,F',ρ',fr',hput,hw,_⟩:=d _<|zc.2 rfl;have p:∃u s,(pop o.op X.C.T st).To u s:=by
  grind [Abr,Je]
 cases c with
 |val e=>
  grind [rd_val]
 |skip e=>grind [rd_val]
 |call e _=>grind [rd_val]
 |round e _=>grind [rd_val]
 |alts e=>grind
theorem PX{call:Fv}(r:EZ B h0 X false call){ops:Array Oper}{anc:Nat->Nat->Bool}:∀ {L:List Nat} {n:Nat} {st:AI} {F:Fz} {ρ:DU} {fr:Fr} {h:H} {k:AI->Tr} {J:Rs} {cs:List Rc},Rel B h0 F ρ st fr h->Wb X.C F ρ st.nx h J cs->
  Ev X Q n (JO X.C.T X.sp call ops anc L st J k)->
  ∃n',n'<=n/\∃j,Ev X Q n' (k j)/\∃F' ρ' fr' h',C0 B h0 F ρ st.nx h j fr' h' F' ρ'/\∃M,∀m,M<=m->∃cs',UA X.C (AZ X.C m) ops anc L ⟨fr,h,cs⟩=some ⟨fr',h',cs'⟩
 |[],n,st,F,ρ,fr,h,k,J,cs,hr,_,c=>⟨n,zd _,st,c,F,ρ,fr,h,C0.refl hr,0,fun _ _=>⟨cs,rfl⟩⟩
 |i::is,n,st,F,ρ,fr,h,k,J,cs,hr,G,c=>by
  unfold JO at c;cases ho:ops[i]? with
  |none=>grind [zf]
  |some o=>
   rw[ho]at c;simp only at c;obtain⟨j,u,I,e2,R⟩:=MU hr c;rw[<-I]at G;have fin:∀ {n1:Nat} {e:AI} {F1:Fz} {v:DU} {s:Fr} {O:H} {rs2:Rs} {cs2:List Rc},n1<=n->C0 B h0 F ρ st.nx h e s O F1 v->Wb X.C F1 v e.nx O rs2 cs2->Ev X Q n1 (JO X.C.T X.sp call ops anc is e rs2 k)->
     (∃M,∀m,M<=m->∃x,HX X.C (AZ X.C m) ops anc i ⟨fr,h,cs⟩=some (x,⟨s,O,cs2⟩))->
     ∃n',n'<=n/\∃j,Ev X Q n' (k j)/\∃F' ρ' fr' h',C0 B h0 F ρ st.nx h j fr' h' F' ρ'/\∃M,∀m,M<=m->∃cs',UA X.C (AZ X.C m) ops anc (i::is) ⟨fr,h,cs⟩=some ⟨fr',h',cs'⟩:=by
    rintro n1 e F1 v s O rs2 cs2 w hw q p ⟨M1,hM1⟩;obtain⟨n2,hn2,st3,he3,F2,ρ2,fr2,h2,hw2,M2,hM2⟩:=PX r hw.rel q p;refine⟨n2,ae,st3,he3,F2,ρ2,fr2,h2,hw.trans hw2,max M1 M2,fun m hm=>?_⟩;obtain⟨x,hx⟩:=hM1 m ae;obtain⟨cs',hcs'⟩:=hM2 m ae;grind [UA]
   rcases R with⟨hw,c⟩|⟨hw,c⟩
   ·cases V:Ed o with
    |true=>
     rw[V]at c;simp only[we]at c;obtain⟨n1,w,e,p,F1,v,x,s,z,d,a,hto⟩:=zT r u V c;rw[I]at a;have q:Wb X.C F1 v e.nx h J cs:=G.mono (by rw[I];exact a.le) ae (by simp);cases hhd:Qm o with
     |false=>
      rw[hhd]at p;refine fin (cs2:=cs) w a q p ⟨0,fun m _=>⟨x,?_⟩⟩;unfold HX;grind
     |true=>
      rw[hhd]at p;refine fin (cs2:=⟨i,o,fr,x⟩::cs) (rs2:=(i,qN j o.op)::J) w a ⟨_,_,rfl,⟨rfl,fun l hl=>?_⟩,q⟩ p ⟨0,fun m _=>⟨x,?_⟩⟩
      ·obtain⟨bl,Z,Y⟩:=Zq u z hl hto;refine⟨bl,fun g hg hb=>Z g (fun b cs hF=>hg b cs<|a.le.fz b cs hF) hb,fun b hb=>?_⟩;obtain⟨j1,id,j2,j3,j4⟩:=Y b hb;rw[I]at j3;exact⟨j1,id,j2,zn j3 a.le.n,fun y hy=>j4 y<|a.le.at j3 hy⟩
      ·unfold HX;grind
    |false=>
     rw[V]at c;simp only[wg]at c;cases U:Cy o with
     |true=>
      rw[U]at c;simp only[we]at c;obtain⟨l,D,S,A⟩:=HS r u c;obtain⟨⟨⟨x,O⟩,rfl⟩,hna⟩:=S.1 rfl;obtain⟨n1,w,e,p,F1,v,s,d,a,_⟩:=A _<|zc.2 rfl;rw[I]at a;simp only at d a;have hv:∃ob f,mJ X.C fr o=some (ob,f)/\x=f h.nx/\O=h.push ob:=by
       cases D with
       |val z=>obtain⟨ob,f,Z,Y⟩:=R2 U z;grind
       |skip z=>grind [R2]
       |call z _=>grind [R2]
       |round z _=>grind [R2]
       |alts z=>grind
      obtain⟨ob1,f,Z,rfl,rfl⟩:=hv;have q:Wb X.C F1 v e.nx (h.push ob1) J cs:=G.mono (by rw[I];exact a.le) (by simp) (fun b hb=>by simp[Nat.ne_of_lt hb]);refine fin (cs2:=cs) w a q p ⟨0,fun m _=>⟨f h.nx,?_⟩⟩;unfold HX;grind
     |false=>
      rw[U]at c;simp only[wg]at c;cases E:(z7 anc i j (GY X.sp j o.op) J&&dE j o.op)with
      |false=>grind [zf]
      |true=>
       rw[E]at c;simp only[we]at c;simp only[ze]at E;obtain⟨K,hnr⟩:=E;obtain⟨l,D,S,A⟩:=HS r u c;obtain⟨⟨⟨x,O⟩,rfl⟩,hna⟩:=S.1 rfl;obtain⟨n1,w,e,p,F1,v,s,d,a,htch⟩:=A _<|zc.2 rfl;simp only at d a htch;obtain⟨Z,Y⟩:=Wb.apart u a htch G K;rw[I]at a;refine fin w a Y p ?_;have hh:∃M,∀m,M<=m->DN X.C (AZ X.C m) fr h o=some (x,O):=by
        cases D with
        |val z=>exact⟨0,(by grind [DN])⟩
        |skip z=>exact⟨0,(by grind [DN])⟩
        |alts z=>grind
        |round z _=>grind [dE]
        |@call g args _ M z hM=>exact⟨M,(by grind [DN])⟩
       obtain⟨M,hM⟩:=hh;refine⟨M,fun m hm=>⟨x,?_⟩⟩;unfold HX;grind
   ·cases hv:CG o with
    |false=>
     rw[hv]at c;unfold LI at c;split at c
     case h_2=>grind [zf]
     rename_i e d;obtain⟨s,g1,g2,g3,g4⟩:=u.put (x:=.tup []) (by simp[PR]) d;refine fin (cs2:=cs) ae ⟨g2,by rw[g3,I];exact zr,zd _⟩ ah c ⟨0,fun m _=>⟨.tup [],?_⟩⟩;unfold HX;grind
    |true=>
     rw[hv]at c;cases K:z7 anc i j (some []) J with
     |false=>grind [zf]
     |true=>
      rw[K]at c;unfold LI at c;split at c
      case h_2=>grind [zf]
      rename_i e d;obtain⟨s,g1,g2,g3,g4⟩:=u.put (x:=.tup []) (by simp[PR]) d;have a:C0 B h0 F ρ j.nx h e s h F ρ:=⟨g2,by rw[g3];exact zr,zd _⟩;obtain⟨Z,Y⟩:=Wb.apart (t:=some []) u a (by simp) G K;rw[I]at a;refine fin ae a Y c ⟨0,fun m _=>⟨.tup [],?_⟩⟩;unfold HX;grind
theorem ZM{call:Fv}(c:EZ B h0 X false call){ops:Array Oper}{k:AI->Tr}(j:Rel B h0 F ρ st fr h)(e:Ev X Q n (JO X.C.T X.sp call ops (Ek ops).a (Ek ops).ord st [] k)):
  ∃n',n'<=n/\∃b,Ev X Q n' (k b)/\∃F' ρ' fr' h',C0 B h0 F ρ st.nx h b fr' h' F' ρ'/\∃M,∀m,M<=m->Is X.C (AZ X.C m) ops fr h=some (fr',h'):=by
 obtain⟨n',g,b,d,F',ρ',fr',h',i,M,l⟩:=PX (cs:=[]) c j (by rfl) e;refine⟨n',g,b,d,F',ρ',fr',h',i,M,fun m o=>?_⟩;grind [Is]
end
section
variable {B:Nat}{h0:H0}{F:Fz}{ρ ρ':DU}{N N':Nat}{f:Nat->Option Nat}
mutual
theorem NQ(d:∀i j,i<N->f i=some j->j<N'/\ρ' j=ρ i):∀ {p:PV} {v:V},PR F ρ N p v->PR F ρ' N' (H8 f p) v
 | .any,_,_=>by simp[H8,PR]
 | .bl _,_,h=>by grind [H8,PR]
 | .ub,_,h=>by grind [H8,PR]
 | .dat _ _,_,h=>by grind [H8,PR]
 | .nil,_,h| .nilp,_,h| .nilm,_,h| .nilf,_,h| .nili,_,h=>by simpa only[H8,PR]using h
 | .Ef _ _ _,_,h=>by grind [H8,PR]
 | .agg l,_,h=>by obtain⟨cs,rfl,c⟩:=h;exact⟨cs,rfl,Ep d c⟩
 | .tup l,_,h=>by obtain⟨cs,rfl,c⟩:=h;exact⟨cs,rfl,Ep d c⟩
 | .fn g a b,_,h=>by obtain⟨x,y,rfl,c,e⟩:=h;exact⟨x,y,rfl,Ep d c,Ep d e⟩
 | .ptr i o,_,h=>by
  grind [H8,PR]
 | .eptr i _ _ _,_,h=>by
  grind [H8,PR]
 | .sl i _ _ _ _,_,h=>by
  grind [H8,PR]
 | .yl i,_,h=>by
  grind [H8,PR]
 | .mp i,_,h=>by
  grind [H8,PR]
theorem Ep(a:∀i j,i<N->f i=some j->j<N'/\ρ' j=ρ i):∀ {ps:List PV} {vs:List V},BC F ρ N ps vs->BC F ρ' N' (JQ f ps) vs
 |[],_,h=>by simpa [JQ]using h
 |p::ps,_,h=>by
  obtain⟨v,vs,rfl,b,c⟩:=h;simp only[JQ,BF];exact⟨NQ a b,Ep a c⟩
end
theorem QM(f:PV->PV):∀(sl:List (Nat×PV)) (m a:PM PV),(∀t,a.get t=(m.get t).map f)->∀t,((sl.map fun x=>(x.1,f x.2)).foldl (fun m x=>m.set x.1<|some x.2) a).get t=((sl.foldl (fun m x=>m.set x.1<|some x.2) m).get t).map f
 |[],_,_,h,t=>h t
 |x::sl,m,a,h,t=>by
  refine QM f sl _ _ (fun t=>?_) t;grind [PM.Cz]
theorem VI(f:PV->PV)(a:f .any=.any)(sl:List (Nat×PV))(t:Nat):Ov (sl.map fun x=>(x.1,f x.2)) t=f (Ov sl t):=by
 unfold Ov Ew;rw[QM f sl .leaf .leaf (by simp) t];cases (sl.foldl (fun m x=>m.set x.1<|some x.2) PM.leaf).get t with
 |none=>grind
 |some x=>rfl
theorem bD(q:∀i j,i<N->f i=some j->j<N'/\ρ' j=ρ i){n:Nat}{o:Obj}{x:O}(h:VE F ρ N n o x):VE F ρ' N' n (OV f o) x:=by
 cases o with
 |arr fz e s l=>exact h
 |box ps=>grind [Ep,VE,OV]
 |tbox t ps=>grind [Ep,VE,OV]
 |lp g r ps asg body s n sl=>
  obtain⟨ls,c,d,u,b,m,k,a⟩:=h;refine⟨ls,c,d,u,b,m,k,fun t=>?_⟩;rw[VI (H8 f)<|by rfl];exact NQ q<|a t
 |map ks vs l=>exact h
 |siter s p=>exact h
theorem TO(o:Obj):(OV f o).frozen=o.frozen:=by cases o<;>rfl
theorem JB{st:AI}{base:Nat}:∀(n:Nat) (c acc:List Nat),(∀i∈acc,base<=i/\(st.obj i).isSome=true)->acc.Nodup->(∀i∈IF st base n c acc,base<=i/\(st.obj i).isSome=true)/\(IF st base n c acc).Nodup
 |0,_,acc,a,b=>⟨a,b⟩
 |n+1,[],acc,a,b=>⟨a,b⟩
 |n+1,i::c,acc,a,b=>by
  unfold IF;cases l:(zx i base||acc.any (zg i))with
  |true=>exact JB n c acc a b
  |false=>
   cases g:st.obj i with
   |none=>exact JB n c acc a b
   |some o=>
    have e:base<=i:=by
     grind [Ds]
    have d:i∉acc:=by
     grind [Nat.beq_refl]
    refine JB n _ _ (fun j k=>?_) ?_
    ·grind
    grind
theorem NY{base:Nat}:∀(b:List Nat) (n i j:Nat),b.Nodup->P3 base b n i=some j->(∃k,b[k]?=some i/\j=n+k)\/(i∉b/\i<base/\j=i)
 |[],n,i,j,_,h=>by
  unfold P3 at h;cases m:zx i base with
  |false=>grind
  |true=>simp_all
 |a::b,n,i,j,l,h=>by
  unfold P3 at h;rw[Bo]at h;by_cases e:i=a
  ·simp_all
  ·simp only[e,decide_false,wg]at h;have c:=List.nodup_cons.1 l;rcases NY b (ye n 1) i j c.2 h with⟨k,d,g⟩|⟨d,g,o⟩
   ·exact .inl ⟨k+1,by grind,by grind⟩
   grind
theorem XG(f:Nat->Option Nat)(base:Nat):∀(l:Ob) (j:Nat),AM (low f base l) j=if j<base then(AM l j).map (OV f)else none
 |[],j=>by simp[low,AM]
 |(i,o)::l,j=>by
  simp only[low];have c:=XG f base l j;by_cases a:i<base
  ·rw[Ds a];simp only[we,AM,Bo];grind
  ·have:zx i base=false:=by
    cases b:zx i base with
    |false=>rfl
    |true=>exact wh (zo b) a
   rw[this];simp only[wg,AM,Bo];grind
theorem Ti{st:AI}(f:Nat->Option Nat):∀(a:List Nat) (n:Nat) (b:Ob) (j:Nat),(∀i∈a,(st.obj i).isSome=true)->AM (kept st f a n b) j=(if n<=j/\j<n+a.length then(a[j-n]?).bind fun i=>(st.obj i).map (OV f)else AM b j)
 |[],n,b,j,_=>by simp_all [kept,wc]
 |i::a,n,b,j,h=>by
  obtain⟨o,c⟩:=zu.1 (h i (by simp));unfold kept;rw[c];rw[Ti f a (ye n 1) _ j ah];by_cases d:n+1<=j/\j<n+1+a.length
  ·grind
  ·simp only[AM,Bo];grind
theorem Gi:∀(vs:List (Nat×PV)) (m:PM PV) (t:Nat) (p:PV),(vs.foldl (fun m x=>m.set x.1<|some x.2) m).get t=some p->(t,p)∈vs\/m.get t=some p
 |[],m,t,p,h=>.inr h
 |x::vs,m,t,p,h=>by
  rcases Gi vs _ t p h with h1|h1
  ·grind
  grind [PM.Cz]
theorem aE{st:AI}{fr:Fr}{h:H}(e:Rel B h0 F ρ st fr h)(base:Nat)(L:List Nat)(_hb:base<=st.nx):
  ∃ρ',Rel B h0 F ρ' (canon base L st) fr h/\base<=(canon base L st).nx/\∀id,id<base->ρ' id=ρ id:=by
 generalize u:IF st base 100 (JN ((L.map fun t=>(t,st.get t)).map (·.2))++P8 base st.ob) []=ids;have z:=JB (st:=st) (base:=base) 100 (JN ((L.map fun t=>(t,st.get t)).map (·.2))++P8 base st.ob) [] (by simp) List.nodup_nil;rw[u]at z;obtain⟨U,E⟩:=z;let g:=P3 base ids base
 let l:DU:=fun id=>if id<base then ρ id else(ids[id-base]?).bind ρ
 have A:∀id,id<base->l id=ρ id:=ah;have w:∀k i,ids[k]?=some i->l (base+k)=ρ i:=by
  grind
 have D:canon base L st=AB st.n ((L.map fun t=>(t,st.get t)).map fun x=>(x.1,H8 g x.2)) (kept st g ids base<|low g base st.ob) (base+ids.length):=by
  rw[show g=P3 base ids base from rfl, <-u];rfl
 have K:∀i j,i<st.nx->g i=some j->j<base+ids.length/\l j=ρ i:=by
  intro i j _ I;rcases NY ids base i j E I with⟨k,h1,rfl⟩|⟨_,r,rfl⟩
  ·grind
  grind
 have C:∀j,AM (kept st g ids base<|low g base st.ob) j=if j<base then(AM st.ob j).map (OV g)else(ids[j-base]?).bind fun i=>(st.obj i).map (OV g):=by
  intro j;rw[Ti g ids base _ j ah,XG];grind
 have src:∀j o',AM (kept st g ids base<|low g base st.ob) j=some o'->∃i o,AM st.ob i=some o/\o'=OV g o/\l j=ρ i/\j<base+ids.length/\((j<base/\i=j)\/(base<=j/\ids[j-base]?=some i/\base<=i)):=by
  intro j o' q;rw[C]at q;by_cases h1:j<base
  ·rw[wd h1,zy]at q;grind
  ·rw[wc h1]at q;cases y:ids[j-base]? with
   |none=>grind
   |some i=>
    rw[y]at q;simp only[zw,zy]at q;obtain⟨o,r,rfl⟩:=q;have hlt:=(zm.1 y).1;have:=w (j-base) i y;rw[show base+(j-base)=j from by omega]at this;exact⟨i,o,r,rfl,this,by omega,ah⟩
 refine⟨l,?_,by rw[D];show base<=base+ids.length;omega,A⟩;rw[D];refine⟨⟨e.fp.n,fun t=>?_⟩,⟨fun j o' q=>?_,fun i j oi oj c m Y hi q h1 r=>?_,e.sr.frz,fun id b m d=>?_,fun j q=>?_,e.sr.old,e.sr.lt,e.sr.le,e.sr.fo,e.sr.gl,fun c D=>?_⟩⟩
 ·generalize G:((L.map fun t=>(t,st.get t)).map fun x=>(x.1,H8 g x.2))=vs;show PR F l (base+ids.length) (((Ew vs).get t).getD .any)<|fr.get t;cases Z:(Ew vs).get t with
  |none=>grind [PR]
  |some p=>
   rcases Gi vs .leaf t p Z with h1|h1
   ·rw[<-G]at h1;simp only[List.map_map,zz,Function.comp]at h1;obtain⟨s,_,r⟩:=h1;cases r;exact NQ K (e.fp.slot _)
   simp_all
 ·obtain⟨i,o,h1,rfl,r,h3,_⟩:=src j o' q;obtain⟨b,m,x,k1,k2,k3,k4⟩:=e.sr.obj i o h1;exact⟨b,m,x,r.trans k1,k2,bD K k3,by rw[TO];exact k4⟩
 ·obtain⟨a,o,O,_,M,_,J⟩:=src i oi hi;obtain⟨a',o',g4,_,g5,_,g6⟩:=src j oj q;rw[M]at h1;rw[g5]at r;have R:=e.sr.inj a a' o o' c m Y O g4 h1 r;rcases J with⟨T,V⟩|⟨T,V,e3⟩<;>rcases g6 with⟨f1,S⟩|⟨f1,S,f3⟩
  ·omega
  ·omega
  ·omega
  grind [List.getElem?_inj]
 ·have d:(if id<base then ρ id else(ids[id-base]?).bind ρ)=some (b,m):=d;by_cases h1:id<base
  ·rw[wd h1]at d;exact⟨by show id<base+ids.length;omega,(e.sr.own id b m d).2⟩
  ·rw[wc h1]at d;cases y:ids[id-base]? with
   |none=>grind
   |some i=>
    rw[y]at d;have:=(zm.1 y).1;exact⟨by show id<base+ids.length;omega,(e.sr.own i b m d).2⟩
 ·have v:AM (kept st g ids base<|low g base st.ob) j=none:=q;rw[C]at v;show(if j<base then ρ j else(ids[j-base]?).bind ρ)=none;by_cases h1:j<base
  ·rw[wd h1]at v ⊢;exact e.sr.dead j (by simp_all)
  ·rw[wc h1]at v ⊢;cases y:ids[j-base]? with
   |none=>rfl
   |some i=>
    grind [Option.map_eq_none_iff]
 ·obtain⟨O,M,J⟩:=e.sr.pn c D;grind
end
section
variable {B:Nat}{h0:H0}{X:AR}{F:Fz}{ρ:DU}{N:Nat}{h:H}
theorem Ze(h0:H0)(a b:List Nat):(h0.pins a).pins b=h0.pins (b++a):=by unfold H0.pins;simp
theorem SR.cO{ob:Ob}{ps:List Nat}(a:SR B (h0.pins ps) F ρ N ob h):SR B h0 F ρ N ob h:=
 ⟨a.obj,a.inj,a.frz,a.own,a.dead,a.old,a.lt,a.le,a.fo,a.gl,fun b c=>a.pn b<|List.mem_append_right _ c⟩
theorem SR.mark{ob:Ob}(a:SR B h0 F ρ N ob h):SR B (h0.pins [h.nx]) F ρ N ob (h.push<|.defd true):=by
 have i:∀b y,h.get b=some y->b≠h.nx:=fun b y p=>by have:=a.lt b y p;omega
 have k:∀b y,h.get b=some y->(h.push<|.defd true).get b=some y:=(by simp_all);refine⟨fun j oj s=>?_,a.inj,fun c cs d=>?_,a.own,a.dead,fun c d l=>?_,fun c q d=>?_,?_,a.fo,a.gl,fun c d=>?_⟩
 ·obtain⟨c,m,y,w,x,C⟩:=a.obj j oj s;grind
 ·obtain⟨t,fz,D⟩:=a.frz c cs d;grind
 ·have:=a.le;rw[H.Cq,wc ae];exact a.old c d l
 ·rw[H.Cq]at d;by_cases e:c=h.nx
  ·simp_all
  ·rw[wc e]at d;have:=a.lt c q d;show c<h.nx+1;omega
 ·have:=a.le;show B<=h.nx+1;omega
 ·rcases List.mem_append.1 d with d|d
  ·cases zc.1 d;refine⟨by simp,a.le,fun id n e=>?_⟩;by_cases g:∃o,AM ob id=some o
   ·obtain⟨o,r⟩:=g;obtain⟨c,m,y,v,u,_⟩:=a.obj id o r;grind
   ·have:AM ob id=none:=by
     cases A:AM ob id with
     |none=>rfl
     |some o=>grind
    rw[a.dead id this]at e;cases e
  ·obtain⟨v,u,z⟩:=a.pn c d;grind
theorem SR.XD{ob:Ob}(a:SR B h0 F ρ N ob h){b:Nat}{x y:O}(v:∀id o n,AM ob id=some o->ρ id≠some (b,n))(w:F b=none)(p:h0.Zn B b)(u:b∉h0.pin)(r:h.get b=some x):SR B h0 F ρ N ob (h.put b y):=by
 refine⟨fun j oj q=>?_,a.inj,fun c cs d=>?_,a.own,a.dead,fun c d g=>?_,fun c t d=>?_,a.le,a.fo,a.gl,fun c d=>?_⟩
 ·obtain⟨c,m,y,k,s,i⟩:=a.obj j oj q;have:c≠b:=ah;exact⟨c,m,y,k,by simp_all,i⟩
 ·have:c≠b:=ah;rw[H.BT,wc this];exact a.frz c cs d
 ·have:c≠b:=ND p d g;rw[H.BT,wc this];exact a.old c d g
 ·rw[H.BT]at d;split at d
  ·rename_i e;subst e;exact a.lt _ _ r
  ·exact a.lt c t d
 ·obtain⟨k,s,i⟩:=a.pn c d;have l:c≠b:=ah;simp_all
theorem SR.leave{ob:Ob}:∀ {ps:List Nat} {h:H},ps.Nodup->(∀b∈ps,b∉h0.pin)->SR B (h0.pins ps) F ρ N ob h->∃c,FD ps h=some c/\SR B h0 F ρ N ob c/\c.nx=h.nx/\∀b,b∉ps->c.get b=h.get b
 |[],h,_,_,a=>⟨h,rfl,a,rfl,fun _ _=>rfl⟩
 |p::ps,h,e,r,a=>by
  obtain⟨l,g,m⟩:=a.pn p (by simp[H0.pins]);rw[List.nodup_cons]at e;have d:SR B ((h0.pins ps).pins [p]) F ρ N ob h:=by exact a
  have j:SR B (h0.pins ps) F ρ N ob (h.put p<|.defd false):=by
   refine SR.XD d.cO ah ?_ (.inl g) ?_ l
   ·cases i:F p with
    |none=>rfl
    |some cs=>obtain⟨t,fz,k⟩:=a.frz p cs i;grind
   grind [H0.pins]
  obtain⟨c,s,q,o,u⟩:=SR.leave e.2 ah j;simp_all [FD]
theorem iD{st:AI}{fr:Fr}(d:Rel B h0 F ρ st fr h)(base:Nat)(x:Nat×Sh):∃F1 A,Rel B h0 F1 A (mP base x st) fr h/\(mP base x st).nx=st.nx/\(∀id,id<base->A id=ρ id)/\∀b cs,F b=some cs->F1 b=some cs:=by
 have q:=d.fp.slot x.1;unfold mP;split
 case h_1=>
  rename_i u;rw[u]at q;exact⟨F,ρ,d.note (by rw[q];simp[PR,DC]),rfl,fun _ _=>rfl,fun _ _ h=>h⟩
 case h_4=>grind
 case h_3=>
  rename_i id u;cases T:Nat.ble base id with
  |false=>grind
  |true=>
  have T:=zo T;split
  case h_2=>grind
  rename_i ps w;split
  case h_2=>grind
  rename_i v Y;rw[u]at q;obtain⟨b,n,y,G,h2,h3,h7,-⟩:=d.sr.at w;obtain⟨cs,t,fz,rfl,h4,h5⟩:=h3;have hFb:F b=none:=h7 rfl;have a:∀c cs',F c=some cs'->(fun c=>if c=b then some cs else F c) c=some cs':=by
   grind
  have C:=(CI h4 Y);have S:=C.len;have o:Le F ρ st.nx (fun c=>if c=b then some cs else F c) (Bs ρ id none) st.nx:=(Le.Zs a).trans<|Le.Jj id;have r:Le F (Bs ρ id none) st.nx (fun c=>if c=b then some cs else F c) (Bs ρ id none) st.nx:=Le.Zs a;have g:=d.sr.del id;have U:∀j m,Bs ρ id none j=some (b,m)->∀oj,AM (F6 st.ob id) j=some oj->False:=by
   intro j m p oj k;rw[Dh]at k;split at k
   ·cases k
   ·rename_i V;simp only[Bs,V,vf]at p;exact V<|d.sr.inj j id oj _ b m n k w p G
  have O:SR B h0 (fun c=>if c=b then some cs else F c) (Bs ρ id none) st.nx (F6 st.ob id) h:=by
   refine⟨fun j oj k=>?_,g.inj,fun c cs' D=>?_,g.own,g.dead,g.old,g.lt,g.le,fun c cs' D=>?_,g.gl,g.pn⟩
   ·obtain⟨c,m,z,p,E,K,g4,g5⟩:=g.obj j oj k;exact⟨c,m,z,p,E,K.mono r,ah,ah⟩
   ·split at D
    ·grind
    ·exact g.frz c cs' D
   ·split at D
    ·rename_i Z;subst Z;exact .inr (d.sr.own id c n G).2
    ·exact g.fo c cs' D
  have i:Rel B h0 (fun c=>if c=b then some cs else F c) (Bs ρ id none) (st.FM id) fr h:=⟨⟨d.fp.n,fun t=>(d.fp.slot t).mono o⟩,O⟩;refine⟨_,_,i.note ?_,rfl,fun j k=>by unfold Bs;grind,a⟩;have L:=q.2 b n G;exact⟨b,0,cs,by rw[L],by simp,by omega,by rw[List.drop_zero,List.take_of_length_le ae];exact C.mono a⟩
 rename_i id sz off len cap u;split
 case h_2=>grind
 rename_i fz e s l w;cases hz:zg sz s.sz with
 |false=>grind
 |true=>
 rw[u]at q;obtain⟨F1,p,E,K⟩:=MF d.sr q;have I:Bx st (.sl id sz off len cap)=st.setObj id (.arr true e s l):=by simp[Bx,w]
 rw[I]at p;have o:Le F ρ st.nx F1 ρ st.nx:=⟨E,(by simp),zd _⟩;have R:off+len<=l.length:=by
  obtain⟨b,n,y,G,_,⟨_,_,_,_,_,h6⟩,-⟩:=d.sr.at w;grind [PR]
 have M:Cb st (.sl id sz off len cap)=some (true,.dat (.list s)<|(l.drop off).take len):=by
  simp_all [Cb]
 have J:=K _ M;have i:Rel B h0 F1 ρ (st.setObj id<|.arr true e s l) fr h:=⟨⟨d.fp.n,fun t=>(d.fp.slot t).mono o⟩,p⟩;exact⟨F1,ρ,i.note<|J ρ _,rfl,fun _ _=>rfl,E⟩
theorem Uu{fr:Fr}(base:Nat):∀(l:List (Nat×Sh)) {st:AI} {F:Fz} {ρ:DU},Rel B h0 F ρ st fr h->∃F1 a,Rel B h0 F1 a (eA base l st) fr h/\(eA base l st).nx=st.nx/\(∀id,id<base->a id=ρ id)/\∀b cs,F b=some cs->F1 b=some cs
 |[],st,F,ρ,c=>⟨F,ρ,c,rfl,fun _ _=>rfl,fun _ _ h=>h⟩
 |x::l,st,F,ρ,c=>by
  obtain⟨F1,a,d,g,e,i⟩:=iD c base x;obtain⟨F2,ρ2,h4,h5,h0'',h6⟩:=Uu base l d;grind [eA]
theorem N9{st:AI}{fr:Fr}{base:Nat}(e:Rel B h0 F ρ st fr h)(f:FuncId)(r:Nat)(g:base<=st.nx):
  ∃F1 ρ',Rel B h0 F1 ρ' (LY X f r base st) fr h/\base<=(LY X f r base st).nx/\(∀id,id<base->ρ' id=ρ id)/\∀b cs,F b=some cs->F1 b=some cs:=by
 obtain⟨F1,c,a,i,d,j⟩:=Uu base (X.fz f r) e;obtain⟨ρ',g1,g2,g3⟩:=aE a base (X.pl f r) ae;grind [LY]
def GA(B:Nat)(h0:H0)(X:AR)(base n:Nat)(Q:PV->Ob->Prop)(k:DX->AI->Tr)(F:Fz)(ρ:DU)(h:H)(nd:Bool)(run:Nat->Nat->Option (List yd))(ds:List Nat):Prop:=
 ∃l M,(∀m,M<=m->∀q,M<=q->run m q=some l)/\(nd=false->∃x,l=[x])/\∀x∈l,∃ps,(x.ds=ps++ds/\ps.Nodup/\∀b∈ps,h.nx<=b)/\∃n',n'<=n/\∃a,Ev X Q n' (k x.e a)/\∃F' ρ',Rel B (h0.pins ps) F' ρ' a x.fr x.h/\base<=a.nx/\Le F ρ base F' ρ' base/\h.nx<=x.h.nx
theorem Le.low{F F':Fz}{ρ ρ':DU}{N N' base:Nat}(a:Le F ρ N F' ρ' N')(b:base<=N):Le F ρ base F' ρ' base:=
 ⟨a.fz,fun id h=>a.rho id ae,zd _⟩
theorem Pm{nd ro:Bool}{d:Nat}{f:FuncId}{base:Nat}{rv:Option Nat}{ct:Bool}(hrv:ro=false->rv=none/\ct=true)(hcall:∀h0,EZ B h0 X nd<|B4 X nd d)(hcallD:∀h0,EZ B h0 X false<|B4 X false d){Q:PV->Ob->Prop}:∀(n:Nat) (c:Code) {h0:H0} {st:AI} {k:DX->AI->Tr} {F:Fz} {ρ:DU} {fr:Fr} {h:H} (ds:List Nat),base<=st.nx->Rel B h0 F ρ st fr h->
  Ev X Q n (exec X (B4 X nd d) (B4 X false d) nd ro d f base c st k)->GA B h0 X base n Q k F ρ h nd (fun m q=>Bj X.C (AZ X.C m) rv ct q c fr h ds) ds:=by
 intro n;induction n using Nat.strongRecOn with
 |_ n IH=>
 have one:∀ {h0:H0} {e:DX} {st:AI} {k:DX->AI->Tr} {F:Fz} {ρ:DU} {fr:Fr} {h:H} {ds:List Nat} {c:Code},base<=st.nx->Rel B h0 F ρ st fr h->Ev X Q n (k e st)->(∀m q,1<=q->Bj X.C (AZ X.C m) rv ct q c fr h ds=some [⟨e,fr,h,ds⟩])->
   GA B h0 X base n Q k F ρ h nd (fun m q=>Bj X.C (AZ X.C m) rv ct q c fr h ds) ds:=by
  intro h0 e st k F ρ fr h ds c A D v hd;exact⟨[⟨e,fr,h,ds⟩],1,ah,(by simp),fun x K=>by
   cases zc.1 K;exact⟨[],(by simp),n,zd _,st,v,F,ρ,D,A,zr,zd _⟩⟩
 have E:∀ {q:Nat},1<=q->∃q',q=q'+1:=fun h=>⟨_,(Nat.succ_pred_eq_of_pos h).symm⟩
 have chain:∀ {h0:H0} {F:Fz} {ρ:DU} {h:H} {ds:List Nat} {k k2:DX->AI->Tr} {n1:Nat} {run:Nat->Nat->Option (List yd)} {run2:Nat->Nat->yd->Option (List yd)},n1<=n->GA B h0 X base n1 Q k2 F ρ h nd run ds->
   (∀(x:yd) (ps:List Nat),∀n1',n1'<=n1->∀u,Ev X Q n1' (k2 x.e u)->∀F' ρ',Rel B (h0.pins ps) F' ρ' u x.fr x.h->base<=u.nx->GA B (h0.pins ps) X base n Q k F' ρ' x.h nd (fun m q=>run2 m q x) x.ds)->
   GA B h0 X base n Q k F ρ h nd (fun m q=>match run m q with|some l=>bl l (run2 m q)|none=>none) ds:=by
  rintro h0 F ρ h ds k k2 n1 run run2 hn1 ⟨l,M,h1,Z,h3⟩ hnext;obtain⟨r,M2,g1,g2,g3⟩:=Jf (f:=run2) (P:=fun x=>∃ps,(x.ds=ps++ds/\ps.Nodup/\∀b∈ps,h.nx<=b)/\∃n',n'<=n/\∃u,Ev X Q n' (k x.e u)/\∃F' ρ',Rel B (h0.pins ps) F' ρ' u x.fr x.h/\base<=u.nx/\Le F ρ base F' ρ' base/\h.nx<=x.h.nx) Z fun x K=>by
   obtain⟨ps1,⟨k0,kn,kl⟩,n',k1,u,k2',F',ρ',k3,k4,k5,k6⟩:=h3 x K;obtain⟨r,M,j1,j2,j3⟩:=hnext x ps1 n' k1 u k2' F' ρ' k3 k4;refine⟨r,M,j1,j2,fun y hy=>?_⟩;obtain⟨ps2,⟨i0,i0n,i0l⟩,n2,i1,T,i2,F2,R,i3,i4,i5,i6⟩:=j3 y hy;refine⟨ps2++ps1,⟨by grind,?_,fun b A=>?_⟩,n2,i1,T,i2,F2,R,by grind [Ze],i4,k5.trans i5,ae⟩
   ·rw[List.nodup_append];refine⟨i0n,kn,fun a ha b A e=>?_⟩;have h1:=i0l a ha;have Z:=k3.sr.lt b _ (k3.sr.pn b<|List.mem_append_left _ A).1;omega
   grind
  exact⟨r,max M M2,ah,g2,g3⟩
 have stepq:∀ {h0:H0} {F:Fz} {ρ:DU} {h:H} {ds:List Nat} {k:DX->AI->Tr} {run run':Nat->Nat->Option (List yd)},GA B h0 X base n Q k F ρ h nd run ds->(∀m q,run' m (q+1)=run m q)->GA B h0 X base n Q k F ρ h nd run' ds:=by
  rintro h0 F ρ h ds k run run' ⟨l,M,h1,Z,h3⟩ v;refine⟨l,M+1,fun m hm q U=>?_,Z,h3⟩;obtain⟨q',rfl⟩:=E (show 1<=q by omega);grind
 intro c;induction c with
 |skip=>
  intro h0 st k F ρ fr h ds A D v;exact one A D v (fun m q U=>by obtain⟨q',rfl⟩:=E U;rfl)
 |label l=>
  intro h0 st k F ρ fr h ds A D v;exact one A D v (fun m q U=>by obtain⟨q',rfl⟩:=E U;rfl)
 |exit i=>
  intro h0 st k F ρ fr h ds A D v;exact one A D v (fun m q U=>by obtain⟨q',rfl⟩:=E U;rfl)
 |ret=>
  intro h0 st k F ρ fr h ds A D v;exact one A D v (fun m q U=>by obtain⟨q',rfl⟩:=E U;rfl)
 |region id ops dr=>
  intro h0 st k F ρ fr h ds A D v;unfold exec at v;cases dr with
  |true=>
   simp only[we]at v;cases hst:(!ro||HZ ops (Ek ops))with
   |false=>grind [zf]
   |true=>
   rw[hst]at v;simp only[we]at v;have hdd:∀call,(bif ct then Is X.C call ops fr h else U3 X.C call ops fr h)=Is X.C call ops fr h:=by
    intro call;cases hro:ro with
    |false=>grind
    |true=>
     rw[hro]at hst;have hst:HZ ops (Ek ops)=true:=hst;simp_all [U3]
   obtain⟨n',hn,u,w,F',ρ',fr',h',J,M,hM⟩:=ZM (hcallD h0) D v;refine⟨[⟨.normal,fr',h',ds⟩],M+1,fun m hm q U=>?_,(by simp),fun x K=>?_⟩
   ·obtain⟨q',rfl⟩:=E (show 1<=q by omega);have:=hM m ae;simp only[Bj,we];grind
   ·cases zc.1 K;exact⟨[],(by simp),n',hn,u,w,F',ρ',J.rel,zh A J.le.n,J.le.low A,J.nx⟩
  |false=>
   simp only[wg]at v;obtain⟨r,M,hM,hone,hall⟩:=U1 (hcall h0) D v;refine⟨r.map fun x=>⟨.normal,x.1,x.2,ds⟩,M+1,fun m hm q U=>?_,fun e=>?_,fun x K=>?_⟩
   ·obtain⟨q',rfl⟩:=E (show 1<=q by omega);simp only[Bj,wg,hM m ae]
   ·obtain⟨y,rfl⟩:=hone e;simp
   ·obtain⟨y,hy,rfl⟩:=zz.1 K;obtain⟨n',hn,u,w,F',ρ',J⟩:=hall y hy;exact⟨[],(by simp),n',hn,u,w,F',ρ',J.rel,zh A J.le.n,J.le.low A,J.nx⟩
 |seq a b iha ihb=>
  intro h0 st k F ρ fr h ds A D v;unfold exec at v;refine stepq (chain (run2:=fun m q x=>match x.e with| .normal=>Bj X.C (AZ X.C m) rv ct q b x.fr x.h x.ds|_=>some [x]) ae (iha ds A D v) fun x ps1 n1 hn1 u w F' ρ' L Y=>?_)<|fun m q=>rfl;obtain⟨e,V,h1,I⟩:=x;cases e with
  |normal=>
   have rest:∀ {T:AI} {F2:Fz} {R:DU} {n2:Nat},n2<=n->Rel B (h0.pins ps1) F2 R T V h1->base<=T.nx->(∀id,id<base->R id=ρ' id)->(∀b cs,F' b=some cs->F2 b=some cs)->Ev X Q n2 (exec X (B4 X nd d) (B4 X false d) nd ro d f base b T k)->
     GA B (h0.pins ps1) X base n Q k F' ρ' h1 nd (fun m q=>Bj X.C (AZ X.C m) rv ct q b V h1 I) I:=by
    intro T F2 R n2 hn2 hr2 hb2 hρ2 hF2 G;have hl0:Le F' ρ' base F2 R base:=⟨hF2,ah,zd _⟩;have hc:GA B (h0.pins ps1) X base n Q k F2 R h1 nd (fun m q=>Bj X.C (AZ X.C m) rv ct q b V h1 I) I:=by
     by_cases hlt:n2<n
     ·obtain⟨l,M,h1,Z,h3⟩:=IH n2 hlt b I hb2 hr2 G;exact⟨l,M,h1,Z,ah⟩
     grind
    obtain⟨l,M,h1,Z,h3⟩:=hc;exact⟨l,M,h1,Z,fun x K=>by
     obtain⟨ps,k0,n3,k1,st3,k2,F3,ρ3,k3,k4,k5,k6⟩:=h3 x K;exact⟨ps,k0,n3,k1,st3,k2,F3,ρ3,k3,k4,hl0.trans k5,k6⟩⟩
   simp only at w;cases hct:X.ct f (By b)with
   |false=>grind
   |true=>
    rw[hct]at w;simp only[we]at w;cases w with
    |cut w=>
     obtain⟨F2,ρ0,hr0,hb0,hρ0,hF⟩:=N9 L f (By b) Y;exact rest hn1 hr0 hb0 hρ0 hF w
  |exit i=>exact⟨[⟨.exit i,V,h1,I⟩],0,(by simp),(by simp),fun x K=>by cases zc.1 K;exact⟨[],(by simp),n1,hn1,u,w,F',ρ',L,Y,zr,zd _⟩⟩
  |ret=>exact⟨[⟨.ret,V,h1,I⟩],0,(by simp),(by simp),fun x K=>by cases zc.1 K;exact⟨[],(by simp),n1,hn1,u,w,F',ρ',L,Y,zr,zd _⟩⟩
 |cond x a b iha ihb=>
  intro h0 st k F ρ fr h ds A D v;unfold exec at v;have go:∀ {t:Bool} {u:AI},ev X.C fr x=some (.bool t)->Rel B h0 F ρ u fr h->base<=u.nx->Ev X Q n (bif t then exec X (B4 X nd d) (B4 X false d) nd ro d f base a u k else exec X (B4 X nd d) (B4 X false d) nd ro d f base b u k)->GA B h0 X base n Q k F ρ h nd (fun m q=>Bj X.C (AZ X.C m) rv ct q (.cond x a b) fr h ds) ds:=by
   grind [Bj]
  split at v
  case h_4=>grind [zf]
  case h_3=>
   rename_i ht;obtain⟨y,g1,g2⟩:=BY (C:=X.C) D.fp ht;simp only[PR]at g2;obtain⟨t,rfl⟩:=g2;split at v
   case h_2=>grind [zf]
   rename_i s;have hs:fr.get s=.bool t:=by simpa [ev]using g1
   obtain⟨w,G⟩:=v.UR;cases t with
   |true=>exact go g1 (D.note<|by rw[hs];rfl) A w
   |false=>exact go g1 (D.note<|by rw[hs];rfl) A G
  case h_1=>
   rename_i t ht;obtain⟨y,g1,g2⟩:=BY (C:=X.C) D.fp ht;obtain rfl:=Pd g2;grind
  case h_2=>
   rename_i t ht;obtain⟨y,g1,g2⟩:=BY (C:=X.C) D.fp ht;obtain rfl:=Lf g2;split at v
   case h_1=>
    rename_i s;have hs:fr.get s=.bool t:=by simpa [ev]using g1
    rcases v.Ez with⟨S,G⟩|⟨S,G⟩
    ·have S:t=true:=S;subst S;exact go g1 (D.note<|by rw[hs];rfl) A G
    ·have S:t=false:=S;subst S;exact go g1 (D.note<|by rw[hs];rfl) A G
   case h_2=>
    rcases v.Ez with⟨S,G⟩|⟨S,G⟩
    ·grind
    grind
 |block id b ih=>
  intro h0 st k F ρ fr h ds A D v;unfold exec at v;obtain⟨l,M,h1,Z,h3⟩:=ih ds A D v;refine⟨l.map fun x=>match x.e with
    | .exit i=>bif zg i id then { x with e:=.normal }else x
    |_=>x,M+1,fun m hm q U=>?_,fun e=>?_,fun y hy=>?_⟩
  ·obtain⟨q',rfl⟩:=E (show 1<=q by omega);grind [Bj]
  ·grind
  grind
 |loop b ih=>
  intro h0 st k F ρ fr h ds A D v;unfold exec at v;cases v with
  |@loop n0 _ _ _ _ _ _ _ _ v=>
  obtain⟨F0,ρ0,hr0,hb0,hρ0,hF0⟩:=N9 D f (By b) A;have hl0:Le F ρ base F0 ρ0 base:=⟨hF0,ah,zd _⟩;unfold body at v;have hbody:=IH n0 (Nat.lt_succ_self _) b ds hb0 hr0 v;have hch:GA B h0 X base (n0+1) Q k F0 ρ0 h nd (fun m q=>match Bj X.C (AZ X.C m) rv ct q b fr h ds with|some l=>bl l (fun x=>match x.e with| .normal=>Bj X.C (AZ X.C m) rv ct q (.loop b) x.fr x.h x.ds|_=>some [x])|none=>none) ds:=by
   refine chain (run2:=fun m q x=>match x.e with| .normal=>Bj X.C (AZ X.C m) rv ct q (.loop b) x.fr x.h x.ds|_=>some [x]) ae hbody fun x ps1 n1 hn1 u w F' ρ' L Y=>?_
   obtain⟨e,V,h1,I⟩:=x;cases e with
   |normal=>
    have he1':Ev X Q n1 (exec X (B4 X nd d) (B4 X false d) nd ro d f base (.loop b) u k):=by unfold exec;exact w
    obtain⟨l,M,h1,Z,h3⟩:=IH n1 ae (.loop b) I Y L he1';exact⟨l,M,h1,Z,ah⟩
   |exit i=>exact⟨[⟨.exit i,V,h1,I⟩],0,(by simp),(by simp),fun x K=>by cases zc.1 K;exact⟨[],(by simp),n1,by omega,u,w,F',ρ',L,Y,zr,zd _⟩⟩
   |ret=>exact⟨[⟨.ret,V,h1,I⟩],0,(by simp),(by simp),fun x K=>by cases zc.1 K;exact⟨[],(by simp),n1,by omega,u,w,F',ρ',L,Y,zr,zd _⟩⟩
  obtain⟨l,M,g1,g2,g3⟩:=stepq (run':=fun m q=>Bj X.C (AZ X.C m) rv ct q (.loop b) fr h ds) hch<|fun m q=>rfl;refine⟨l,M,g1,g2,fun x K=>?_⟩;obtain⟨ps,k0,n2,k1,T,k2,F2,R,k3,k4,k5,k6⟩:=g3 x K;exact⟨ps,k0,n2,k1,T,k2,F2,R,k3,k4,hl0.trans k5,k6⟩
 |scope b ih=>
  intro h0 st k F ρ fr h ds A D v;unfold exec at v;exact stepq (ih ds A D v)<|fun m q=>rfl
 |rangeFunc g ps a b _ _=>
  intro h0 st k F ρ fr h ds A D v;unfold exec at v;cases hro:ro with
  |true=>grind [zf]
  |false=>
  rw[hro]at v;obtain⟨rfl,rfl⟩:=hrv hro;simp only[wg]at v;split at v
  case h_2=>grind [zf]
  rename_i gf first cap hg
  obtain⟨pq,hprim⟩:∃pq,X.C.prim gf=pq:=⟨_,rfl⟩;cases pq with
  |some q0=>grind [zf]
  |none=>
  rw[hprim]at v;simp only[Option.isSome_none,wg]at v;obtain⟨gv,g1,g2⟩:=BY (C:=X.C) D.fp hg;simp only[PR]at g2;obtain⟨fa,fb,rfl,f1,f2⟩:=g2;have L:=D.sr.mark;have hr2:=L.push (o:=.lp f (By b) ps a b .ready st.n<|KS X f (By b) st) (x:=.loop ⟨.ready,none,fr,ps,a,b,h.nx⟩) (n:=0) rfl
   ⟨_,rfl,rfl,rfl,rfl,⟨rfl,rfl⟩,D.fp.n.symm,fun t=>by
    have hl:=Le.new (F:=F) (ρ:=ρ) (N:=st.nx) ((h.push<|.defd true).nx,0);unfold Ov KS;cases hp:(Ew<|(X.pl f<|By b).map fun t=>(t,st.get t)).get t with
    |none=>simp[PR]
    |some p=>
     rcases Gi _ .leaf t p hp with h1|h1
     ·simp only[zz]at h1;obtain⟨s,_,Z⟩:=h1;cases Z;exact(D.fp.slot _).mono hl
     ·simp at h1⟩
  have hle2:Le F ρ st.nx F (Bs ρ st.nx<|some (h.nx+1,0)) (st.nx+1):=Le.new _;have hrel2:Rel B (h0.pins [h.nx]) F (Bs ρ st.nx<|some (h.nx+1,0)) (st.push<|.lp f (By b) ps a b .ready st.n<|KS X f (By b) st) fr ((h.push<|.defd true).push<|.loop ⟨.ready,none,fr,ps,a,b,h.nx⟩):=
   ⟨⟨D.fp.n,fun t=>(D.fp.slot t).mono hle2⟩,hr2⟩
  have hargs:BC F (Bs ρ st.nx<|some (h.nx+1,0)) (st.push<|.lp f (By b) ps a b .ready st.n<|KS X f (By b) st).nx (first++[.yl st.nx]++cap) (fa++[.yld<|h.nx+1 ]++fb):=by
   refine((f1.mono hle2).append ?_).append<|f2.mono hle2;simp only[BF,DB,ve,PR];exact⟨ae,(by grind [Bs])⟩
  obtain⟨l,hcd,hone,hall⟩:=hcall _ v hrel2 hargs;obtain⟨i,M,hfn,hM⟩:∃i M,X.C.fn gf=some i/\∀m,M<=m->AZ X.C m (.fn gf<|fa++[.yld<|h.nx+1 ]++fb) ((h.push<|.defd true).push<|.loop ⟨.ready,none,fr,ps,a,b,h.nx⟩)=some l:=by
   cases hcd with
   |AZ hc hM=>obtain⟨rfl,_,i,hfn⟩:=hc;exact⟨i,_,hfn,hM⟩
   |prim U _=>grind
  have hdc:H4 X.C ((h.push<|.defd true).push<|.loop ⟨.ready,none,fr,ps,a,b,h.nx⟩) (.fn (.func gf) fa fb) [.yld<|h.nx+1 ]=some (.enter gf<|fa++[.yld<|h.nx+1 ]++fb):=by
   grind [H4]
  have fin:∀x∈l,∃(r:List yd) (M:Nat),(∀m:Nat,M<=m->∀q:Nat,M<=q->(match x.2.get (h.nx+1)with
      |some (.loop ls)=>match ls.st,ls.pend with
       | .busy,_=>none
       |_,none=>some [⟨.normal,fr,x.2.put (h.nx+1)<|.loop { ls with st:=.exhausted },h.nx::ds⟩]
       |_,some c=>Bj X.C (AZ X.C m) none false q c fr (x.2.put (h.nx+1)<|.loop { ls with st:=.exhausted }) (h.nx::ds)
      |_=>none)=some r)/\(nd=false->∃x,r=[x])/\∀y∈r,∃ps,(y.ds=ps++ds/\ps.Nodup/\∀b∈ps,h.nx<=b)/\∃n',n'<=n/\∃u,Ev X Q n' (k y.e u)/\∃F' ρ',Rel B (h0.pins ps) F' ρ' u y.fr y.h/\base<=u.nx/\Le F ρ base F' ρ' base/\h.nx<=y.h.nx:=by
   intro x K;obtain⟨n1,hn1,r,st',w,F',ρ',_,J,_⟩:=hall x K;split at w
   case h_2=>grind [zf]
   rename_i f' r' ps' asg' body' s n' sl hob;obtain⟨bb,nn,y,k1,k2,⟨ls,rfl,-,-,-,hlp,-⟩,-⟩:=J.rel.sr.at hob;have hN:st.nx<st.nx+1:=ae;have kk:Bs ρ st.nx (some (h.nx+1,0)) st.nx=some (bb,nn):=J.le.at hN k1;simp only[Bs,wm,zl,z8]at kk;obtain⟨rfl,rfl⟩:=kk;have hpin:∀p∈(h0.pins [h.nx]).pin,h.nx+1≠p:=fun p hp e=>(J.rel.sr.pn p hp).2.2 _ _<|e▸k1
   have hdel:=J.rel.sr.del st.nx;have hput:∀z:O,Rel B (h0.pins [h.nx]) F' (Bs ρ' st.nx none) (st'.FM st.nx) fr (x.2.put (h.nx+1) z):=by
    intro z;have hl:Le F' ρ' st'.nx F' (Bs ρ' st.nx none) st'.nx:=Le.Jj _;refine⟨⟨J.rel.fp.n,fun t=>(J.rel.fp.slot t).mono hl⟩,?_⟩;refine hdel.XD (fun id o m ho e=>?_) ?_ (J.rel.sr.own _ _ _ k1).2 (fun hp=>hpin _ hp rfl) k2
    ·rw[Dh]at ho;split at ho
     ·cases ho
     ·rename_i hne;simp only[Bs,hne,vf]at e;exact hne<|J.rel.sr.inj id st.nx o _ _ m 0 ho hob e k1
    ·cases hF:F' (h.nx+1)with
     |none=>rfl
     |some cs=>obtain⟨t,fz,g⟩:=J.rel.sr.frz _ cs hF;rw[k2]at g;cases g
   have hbase:base<=(st'.FM st.nx).nx:=zh A<|zh (Nat.le_succ _) J.le.n;have hLe:Le F ρ base F' (Bs ρ' st.nx none) base:=by
    refine(hle2.low A).trans<|(J.le.low<|zh A<|Nat.le_succ _).trans ?_;exact(Le.Jj (F:=F') (ρ:=ρ') (N:=base) st.nx)
   have hnx:h.nx<=x.2.nx:=zh (by show h.nx<=h.nx+1+1;omega) J.nx;have done:∀ {e:DX} {z:O},Ev X Q n1 (k e<|st'.FM st.nx)->∃ps,((⟨e,fr,x.2.put (h.nx+1) z,h.nx::ds⟩:yd).ds=ps++ds/\ps.Nodup/\∀b∈ps,h.nx<=b)/\∃n',n'<=n/\∃u,Ev X Q n' (k e u)/\∃F' ρ',Rel B (h0.pins ps) F' ρ' u fr (x.2.put (h.nx+1) z)/\base<=u.nx/\Le F ρ base F' ρ' base/\h.nx<=(x.2.put (h.nx+1) z).nx:=by
    intro e z G;exact⟨[h.nx],⟨rfl,(by simp),fun b A=>by cases zc.1 A;exact zd _⟩,n1,hn1,_,G,F',_,hput z,hbase,hLe,hnx⟩
   obtain⟨lst,lpend,lfr,lps,lasg,lbody,ldb⟩:=ls;simp only at hlp;split at w
   case h_1=>
    obtain⟨rfl,rfl⟩:=hlp;exact⟨[⟨.normal,fr,x.2.put (h.nx+1)<|.loop ⟨.exhausted,none,lfr,lps,lasg,lbody,ldb⟩,h.nx::ds⟩],0,fun m _ q _=>(by simp only[k2]),fun _=>⟨_,rfl⟩,fun y hy=>by cases zc.1 hy;exact done w⟩
   case h_2=>
    obtain⟨rfl,rfl⟩:=hlp;exact⟨[⟨.ret,fr,x.2.put (h.nx+1)<|.loop ⟨.exhausted,some .ret,lfr,lps,lasg,lbody,ldb⟩,h.nx::ds⟩],1,fun m _ q U=>(by obtain⟨q',rfl⟩:=E U;simp only[k2,Bj]),fun _=>⟨_,rfl⟩,fun y hy=>by cases zc.1 hy;exact done w⟩
   case h_3=>
    rename_i j;obtain⟨rfl,rfl⟩:=hlp;exact⟨[⟨.exit j,fr,x.2.put (h.nx+1)<|.loop ⟨.exhausted,some<|.exit j,lfr,lps,lasg,lbody,ldb⟩,h.nx::ds⟩],1,fun m _ q U=>(by obtain⟨q',rfl⟩:=E U;simp only[k2,Bj]),fun _=>⟨_,rfl⟩,fun y hy=>by cases zc.1 hy;exact done w⟩
   case h_4=>exact wh w zf
  obtain⟨r,M2,j1,j2,j3⟩:=Jf hone fin;refine⟨r,max M M2+1,fun m hm q U=>?_,j2,j3⟩;obtain⟨q',rfl⟩:=E (show 1<=q by omega);have h1:=hM m ae;have Z:=j1 m ae q' ae;simp only[Bj,Ta,g1];show(match H4 X.C ((h.push<|.defd true).push<|.loop ⟨.ready,none,fr,ps,a,b,h.nx⟩) (.fn (.func gf) fa fb) [.yld<|h.nx+1 ]with|some (.enter f args)=>_|_=>none)=_;rw[hdc];simp only[h1];exact Z
 |goto l=>intro h0 st k F ρ fr h ds A D v;exact wh v zf
 |refuse s=>intro h0 st k F ρ fr h ds A D v;exact wh v zf
end
section
variable {B:Nat}{h0:H0}{X:AR}{F:Fz}{ρ:DU}{N:Nat}{st st':AI}{fr:Fr}{h:H}
theorem Ll:∀ {ps:List PV} {i t:Nat} {p:PV},(t,p)∈EI ps i->∃k,t=i+k/\ps[k]?=some p
 |[],i,t,p,h=>by cases h
 |q::ps,i,t,p,h=>by
  rcases List.mem_cons.1 h with h|h
  ·simp_all
  ·obtain⟨k,a,b⟩:=Ll h;exact⟨k+1,by grind,by grind⟩
theorem mN{ps:List PV}{vs:List V}(b:BC F ρ N ps vs)(n:Nat)(ob:Ob)(nx:Nat)(_hnx:nx=N):FP F ρ N (AB (ye ps.length<|Nat.sub n ps.length) (EI ps 0) ob nx) (JP n vs):=by
 refine⟨by show ps.length+(n-ps.length)=vs.length+(n-vs.length);rw[b.len],fun t=>?_⟩;show PR F ρ N (((Ew<|EI ps 0).get t).getD .any) _;cases d:(Ew<|EI ps 0).get t with
 |none=>grind [PR]
 |some p=>
  rcases Gi _ .leaf t p d with h1|h1
  ·obtain⟨k,i,e⟩:=Ll h1;obtain rfl:t=k:=ae
   obtain⟨v,a,c⟩:=b.get e;have g:=(zm.1 a).1;unfold JP Fr.get;rw[Ly,wd ae,Nat.sub_zero,a];exact c
  simp_all
theorem lD{T:BV}{st s:AI}{t:TypeId}{a p:PV}(h:(ML T st t a).To p s):s=st:=by
 unfold ML at h;split at h
 case h_2=>simp_all
 split at h
 case h_4=>simp_all
 ·split at h
  case h_4=>simp_all
  case h_3=>simp_all
  ·simp_all
  ·rename_i b l _;cases c:(zg _ 0&&zg b.sz 1)with
   |false=>rw[c]at h;simp_all
   |true=>simp_all
 ·split at h
  case h_2=>simp_all
  rename_i sz j off _ _ _ b l _;cases c:(zg sz b.sz)with
  |false=>simp_all
  |true=>simp_all
 simp_all
theorem Oi{Q:PV->Ob->Prop}{n:Nat}{t:Tr}:∀ {cs:List Bool},Ev X Q n (Ry cs t)->(∀c∈cs,c=true)/\Ev X Q n t
 |[],h=>⟨(by simp),h⟩
 |c::cs,h=>by
  rcases h.Ez with⟨d,a⟩|⟨_,a⟩
  ·obtain⟨b,e⟩:=Oi a;grind
  grind [zf]
theorem Uv:∀ {l:List ResultVar} {ps:List PV} {F:Fz} {ρ:DU},Rel B h0 F ρ st fr h->mD X.C.T st l=some ps->(∀c∈ME X.C.T st l,c=true)->
  ∃vs F' ρ',P6 X.C fr h l=some vs/\BC F' ρ' st.nx ps vs/\Rel B h0 F' ρ' st fr h/\Le F ρ st.nx F' ρ' st.nx
 |[],ps,F,ρ,g,j,_=>by cases j;exact⟨[],F,ρ,rfl,by simp,g,zr⟩
 |r::l,ps,F,ρ,g,j,e=>by
  unfold mD at j;split at j
  case h_2=>cases j
  rename_i p D i z;cases j;have key:∃v F1 d,Ya X.C fr h r=some v/\PR F1 d st.nx p v/\Rel B h0 F1 d st fr h/\Le F ρ st.nx F1 d st.nx:=by
   cases r with
   |tmp t=>
    simp only[dO,zl]at i;subst i;exact⟨_,F,ρ,rfl,g.fp.slot t,g,zr⟩
   |cell a t=>
    have k:∃s,(ML X.C.T st t<|st.get a).To p s:=by
     simp only[dO]at i;split at i
     case h_3=>cases i
     ·simp_all
     ·rename_i c u s y;cases i;refine⟨s,?_⟩;have:=e c (by grind [ME]);rw[y,this];show(PO.IZ true p s).To p s;simp
    obtain⟨s,k⟩:=k;have x:s=st:=lD k;subst x;obtain⟨v',h',F',ρ',b,g2,g3,g4,g5,g6,g7,g8⟩:=jL (C:=X.C) g.sr (g.fp.slot a) k;cases m:EP X.C.T h t (fr.get a)with
    |none=>rw[m]at b;rcases b with b|⟨b,_⟩<;>cases b
    |some w=>
     rw[m]at b;rcases b with b|⟨b,_⟩
     ·simp only[Bz,zl,OR.val.injEq]at b;obtain⟨rfl,rfl⟩:=b;exact⟨w,F',ρ',m,g2,⟨g.fp.mono g4,g3⟩,g4⟩
     ·cases b
  obtain⟨v,F1,d,A,q,o,G⟩:=key;obtain⟨vs,F2,ρ2,k5,k6,k7,k8⟩:=Uv o z (fun c E=>e c<|by
   cases r with
   |tmp t=>exact E
   |cell a t=>
    grind [ME])
  exact⟨v::vs,F2,ρ2,by simp[P6,A,k5],by simp only[BF];exact⟨q.mono k8,k6⟩,k7,G.trans k8⟩
theorem Jv{nd:Bool}{d:Nat}(A:∀h0,EZ B h0 X nd<|B4 X nd d)(s:∀h0,EZ B h0 X false<|B4 X false d)(hmg:X.C.mg=false){g:FuncId}(hsp:X.C.spec g=none)(hprim:X.C.prim g=none)(hno:X.sp g=none){Q:PV->Ob->Prop}{n:Nat}{args:List PV}{k:PV->AI->Tr}{args':List V}
  (J:Ev X Q n (enter X (B4 X nd d) (B4 X false d) nd d g args st k)) (K:Rel B h0 F ρ st fr h) (ha:BC F ρ st.nx args args'):
  (X.C.prim g=none/\∃i,X.C.fn g=some i)/\∃l M,(∀m,M<=m->AZ X.C m (.fn g args') h=some l)/\(nd=false->∃x,l=[x])/\
   ∀x∈l,∃n',n'<=n/\∃r st',Ev X Q n' (k r st')/\∃F' ρ',PR F' ρ' st'.nx r x.1/\C0 B h0 F ρ st.nx h st' fr x.2 F' ρ'/\(∀sp,X.sp g=some sp->∀b,b<h.nx->x.2.get b=h.get b):=by
 unfold enter at J;split at J
 case h_1=>grind [zf]
 rename_i i hi;cases hc:i.cert with
 |false=>grind [zf]
 |true=>
  rw[hc]at J;simp only[we]at J;have hr0:Rel B h0 F ρ (AB (ye args.length<|Nat.sub i.ntmps args.length) (EI args 0) st.ob st.nx) (JP i.ntmps args') h:=⟨mN ha i.ntmps st.ob st.nx rfl,K.sr⟩;obtain⟨l,M,hM,G,I⟩:=Pm (ro:=false) (rv:=none) (ct:=true) (by simp) A s n i.body (st:=AB (ye args.length<|Nat.sub i.ntmps args.length) (EI args 0) st.ob st.nx) [] (zd st.nx) hr0 J;have fin:∀x∈l,∃(r:List (V×H)) (M:Nat),(∀m:Nat,M<=m->∀q:Nat,M<=q->(match x.e with
      | .exit _=>none
      |_=>match FD x.ds x.h with
       |some c=>match OC X.C x.fr c i.results.toList with
        |some v=>some [(v,c)]
        |none=>none
       |none=>none)=some r)/\(nd=false->∃x,r=[x])/\∀x∈r,∃n',n'<=n/\∃r st',Ev X Q n' (k r st')/\∃F' ρ',PR F' ρ' st'.nx r x.1/\C0 B h0 F ρ st.nx h st' fr x.2 F' ρ'/\(∀sp,X.sp g=some sp->∀b,b<h.nx->x.2.get b=h.get b):=by
   intro x hx;obtain⟨ps,⟨hds,o,hge⟩,n1,hn1,a,E,F1,ρ1,w,U,D,hx1'⟩:=I x hx;obtain⟨e,fr1,hx0,ds1⟩:=x;obtain⟨c,hlv,hsr1,hnx1,_⟩:=SR.leave o (fun b hb hp=>by
    have k1:=hge b hb;have Z:=K.sr.lt b _ (K.sr.pn b hp).1;omega) w.sr
   have Y:Rel B h0 F1 ρ1 a fr1 c:=⟨w.fp,hsr1⟩;have hx1:h.nx<=c.nx:=ae
   have go:(∀j,e≠ .exit j)->Ev X Q n1 (match mD X.C.T a i.results.toList with|some vs=>Ry (ME X.C.T a i.results.toList) (k (Go.Pe.one vs) ⟨st.n,st.fr,a.ob,a.nx⟩)|none=>.fail)->
     ∃v',OC X.C fr1 c i.results.toList=some v'/\∃n',n'<=n/\∃r st',Ev X Q n' (k r st')/\∃F' ρ',PR F' ρ' st'.nx r v'/\C0 B h0 F ρ st.nx h st' fr c F' ρ'/\(∀sp,X.sp g=some sp->∀b,b<h.nx->c.get b=h.get b):=by
    intro hne u;split at u
    case h_2=>grind [zf]
    rename_i ps hps;obtain⟨y,u⟩:=Oi u;obtain⟨vs,F2,ρ2,k1,Z,k3,k4⟩:=Uv Y hps y;have L:Le F ρ st.nx F2 ρ2 a.nx:=⟨fun b cs hb=>k4.fz _ _<|D.fz _ _ hb,fun id hid=>by
     rcases k4.rho id ae with e|e
     ·rw[e];exact D.rho id hid
     grind,U⟩
    have O:∃R,OC X.C fr1 c i.results.toList=some R/\PR F2 ρ2 a.nx (Go.Pe.one ps) R:=by
     unfold OC;rw[k1];cases ps with
     |nil=>subst Z;exact⟨_,rfl,by simp[Go.Pe.one,PR]⟩
     |cons p ps=>
      obtain⟨v1,vs1,rfl,g1,S⟩:=Z;cases ps with
      |nil=>subst S;exact⟨_,rfl,g1⟩
      |cons q qs=>
       obtain⟨v2,vs2,rfl,_,_⟩:=S;refine⟨_,rfl,?_⟩;show PR F2 ρ2 a.nx (.tup (p::q::qs)) _;simp_all [PR]
    obtain⟨R,q1,q2⟩:=O;exact⟨R,q1,n1,hn1,_,_,u,F2,ρ2,q2,⟨⟨⟨K.fp.n,fun t=>(K.fp.slot t).mono L⟩,k3.sr⟩,L,hx1⟩,ah⟩
   cases e with
   |normal=>
    obtain⟨v',q1,q2⟩:=go (by simp) E;exact⟨[(v',c)],0,ah,(by simp),ah⟩
   |ret=>
    obtain⟨v',q1,q2⟩:=go (by simp) E;exact⟨[(v',c)],0,ah,(by simp),ah⟩
   |exit j=>grind [zf]
  obtain⟨r,M2,g1,S,g3⟩:=Jf (f:=fun _ _ (x:yd)=>match x.e with
      | .exit _=>none
      |_=>match FD x.ds x.h with
       |some c=>match OC X.C x.fr c i.results.toList with
        |some v=>some [(v,c)]
        |none=>none
       |none=>none) (P:=fun x=>∃n',n'<=n/\∃r st',Ev X Q n' (k r st')/\∃F' ρ',PR F' ρ' st'.nx r x.1/\C0 B h0 F ρ st.nx h st' fr x.2 F' ρ'/\(∀sp,X.sp g=some sp->∀b,b<h.nx->x.2.get b=h.get b)) G fin
  refine⟨ah,r,max M M2+1,fun m hm=>?_,S,g3⟩;obtain⟨z,rfl⟩:∃z,m=z+1:=⟨m-1,by omega⟩;have hg:=g1 z ae z ae;have:AZ X.C (z+1) (.fn g args') h=(match Bj X.C (AZ X.C z) none i.cert z i.body (JP i.ntmps args') h []with
    |none=>none
    |some l=>match (bl l fun x=>match x.e with
     | .exit _=>none
     |_=>match FD x.ds x.h with
      |some c=>match OC X.C x.fr c i.results.toList with
       |some v=>some [(v,c)]
       |none=>none
      |none=>none)with
     |some r=>some<|bif X.C.mg then LQ h.nx r else r
     |none=>none):=by
   rw[AZ];simp only[hsp,hi];rfl
  grind
theorem LD{nd:Bool}{d:Nat}(w:∀h0,EZ B h0 X nd<|B4 X nd d)(j:∀h0,EZ B h0 X false<|B4 X false d){id:Nat}{Q:PV->Ob->Prop}{n:Nat}{args:List PV}{k:PV->AI->Tr}{args':List V}
  (he:Ev X Q n (V8 X (B4 X nd d) (B4 X false d) nd d id args st k)) (hr:Rel B h0 F ρ st fr h) (ha:BC F ρ st.nx args args'):
  ∃c,Abm X ρ h args' (.rnd id) c/\∃l M,(∀m,M<=m->AZ X.C m c h=some l)/\(nd=false->∃x,l=[x])/\
   ∀x∈l,∃n',n'<=n/\∃r st',Ev X Q n' (k r st')/\∃F' ρ',PR F' ρ' st'.nx r x.1/\C0 B h0 F ρ st.nx h st' fr x.2 F' ρ':=by
 unfold V8 at he;split at he
 case h_2=>grind [zf]
 rename_i f r ps asg b n0 sl hob;obtain⟨A,m0,y,k1,k2,⟨ls,rfl,rfl,rfl,rfl,⟨l1,l2⟩,rfl,l4⟩,-⟩:=hr.sr.at hob;cases hsz:zg args.length ls.ps.size with
 |false=>grind [zf]
 |true=>
 rw[hsz]at he;simp only[we]at he;have hlen:args'.length=ls.ps.size:=by rw[<-ha.len];simp_all
 have hid:id<st.nx:=(hr.sr.own _ _ _ k1).1;have hr0:Rel B h0 F ρ (MD ls.ps.toList args<|AB ls.fr.n sl st.ob st.nx) (GX ls.ps.toList args' ls.fr) h:=by
  have Z:Rel B h0 F ρ (AB ls.fr.n sl st.ob st.nx) ls.fr h:=⟨⟨rfl,fun t=>l4 t⟩,hr.sr⟩;have go:∀(ts:List Tmp) (g:List PV) (G:List V) (s:AI) (f:Fr),s.nx=st.nx->BC F ρ st.nx g G->Rel B h0 F ρ s f h->Rel B h0 F ρ (MD ts g s) (GX ts G f) h:=by
   intro ts;induction ts with
   |nil=>intro g G s f _ _ hs;cases g<;>exact hs
   |cons t ts ih=>
    intro g G s f hn hp hs;cases g with
    |nil=>simp only[DB]at hp;subst hp;exact hs
    |cons a g=>
     simp only[BC]at hp;obtain⟨v,vs,rfl,p1,p2⟩:=hp;simp only[MD,GX];refine ih g vs _ _ ?_ p2 ?_
     ·cases zx t s.n<;>exact hn
     ·unfold Fr.aJ;rw[show s.n=f.n from hs.fp.n];cases zx t f.n with
      |false=>exact hs
      |true=>exact hs.set ah
  exact go _ _ _ _ _ rfl ha Z
 have hnx0:st.nx<=(MD ls.ps.toList args<|AB ls.fr.n sl st.ob st.nx).nx:=by
  have go:∀(ts:List Tmp) (g:List PV) (s:AI),(MD ts g s).nx=s.nx:=by
   intro ts;induction ts with
   |nil=>intro g s;rfl
   |cons t ts ih=>
    intro g s;cases g with
    |nil=>rfl
    |cons a g=>simp only[MD];rw[ih];cases zx t s.n<;>rfl
  rw[go];exact zd _
 obtain⟨L,M1,hM1,hone1,O⟩:=Pm (ro:=true) (rv:=some A) (ct:=false) (by simp) w j n ls.asg [] hnx0 hr0 he;refine⟨_,⟨A,m0,ls,k1,k2,hlen,rfl⟩,?_⟩;have fin:∀x∈L,∃(r:List (V×H)) (M:Nat),(∀m:Nat,M<=m->∀q:Nat,M<=q->(match x.e,x.h.get A with
   | .normal,some (.loop l1)=>match l1.st with
    | .ready=>match Bj X.C (AZ X.C m) (some A) false q ls.body x.fr (x.h.put A<|.loop { l1 with st:=.busy }) x.ds with
     |some l2=>bl l2 fun y=>match y.h.get A with
      |some (.loop T)=>match y.e with
       | .normal=>some [(V.bool true,y.h.put A<|.loop { T with st:=.ready,pend:=none })]
       | .ret=>some [(V.bool false,y.h.put A<|.loop { T with st:=.done,pend:=some .ret })]
       | .exit i=>some [(V.bool false,y.h.put A<|.loop { T with st:=.done,pend:=some (.exit i) })]
      |_=>none
     |none=>none
    |_=>none
   |_,_=>none)=some r)/\(nd=false->∃x,r=[x])/\∀x∈r,∃n',n'<=n/\∃r st',Ev X Q n' (k r st')/\∃F' ρ',PR F' ρ' st'.nx r x.1/\C0 B h0 F ρ st.nx h st' fr x.2 F' ρ':=by
  intro x hx;obtain⟨ps1,_,n1,hn1,s,E,F1,ρ1,D,hb1,hl1,hx1⟩:=O x hx;obtain⟨e,fr1,h1,ds1⟩:=x;simp only at E D hx1 ⊢;cases e with
  |exit i=>grind [zf]
  |ret=>grind [zf]
  |normal=>
  simp only at E;split at E
  case h_2=>grind [zf]
  rename_i f' r' ps' asg' b' n' U K;have hs1:SR B h0 F1 ρ1 s.nx s.ob h1:=D.sr.cO;obtain⟨I,m1,y1,q1,q2,⟨o,rfl,rfl,rfl,rfl,⟨la1,la2⟩,rfl,la4⟩,-⟩:=hs1.at K;obtain⟨rfl,rfl⟩:I=A/\m1=m0:=by
   have:=hl1.at hid q1;grind
  have hr2:Rel B h0 F1 ρ1 (s.setObj id<|.lp f' r' o.ps o.asg o.body .busy o.fr.n U) fr1 (h1.put I<|.loop { o with st:=.busy }):=
   ⟨⟨D.fp.n,fun t=>D.fp.slot t⟩,hs1.set K q1 q2 rfl rfl (o':=.lp f' r' o.ps o.asg o.body .busy o.fr.n U) ⟨_,rfl,rfl,rfl,rfl,rfl,rfl,la4⟩⟩
  obtain⟨L2,M2,hM2,R,Y⟩:=Pm (ro:=true) (rv:=some I) (ct:=false) (by simp) w j n1 ls.body ds1 (show st.nx<=(s.setObj id<|.lp f' r' o.ps o.asg o.body .busy o.fr.n U).nx from hb1) hr2 E;have fin2:∀y∈L2,∃(r:List (V×H)) (M:Nat),(∀m:Nat,M<=m->∀q:Nat,M<=q->(match y.h.get I with
    |some (.loop T)=>match y.e with
     | .normal=>some [(V.bool true,y.h.put I<|.loop { T with st:=.ready,pend:=none })]
     | .ret=>some [(V.bool false,y.h.put I<|.loop { T with st:=.done,pend:=some .ret })]
     | .exit i=>some [(V.bool false,y.h.put I<|.loop { T with st:=.done,pend:=some (.exit i) })]
    |_=>none)=some r)/\(nd=false->∃x,r=[x])/\∀x∈r,∃n',n'<=n/\∃r st',Ev X Q n' (k r st')/\∃F' ρ',PR F' ρ' st'.nx r x.1/\C0 B h0 F ρ st.nx h st' fr x.2 F' ρ':=by
   intro y hy;obtain⟨ps2,_,n2,hn2,s2,u,F2,ρ2,hr3,hb2,hl2,hx2⟩:=Y y hy;obtain⟨e2,fr2,h2,ds2⟩:=y;simp only at u hr3 hx2 ⊢;split at u
   case h_2=>grind [zf]
   rename_i f2 r2 pp2 aa2 bb2 ss2 nn2 sl2 J;have hs3:SR B h0 F2 ρ2 s2.nx s2.ob h2:=hr3.sr.cO;obtain⟨c2,m2,y2,w1,w2,⟨p,rfl,rfl,rfl,rfl,_,rfl,lb4⟩,-⟩:=hs3.at J;have hle:Le F ρ st.nx F2 ρ2 s2.nx:=by
    have h:=hl1.trans hl2;exact⟨h.fz,h.rho,hb2⟩
   obtain⟨rfl,rfl⟩:c2=I/\m2=m1:=by
    have:=hle.at hid w1;grind
   have hnx:h.nx<=h2.nx:=zh hx1 hx2;have done:∀(sb:LpS) (S:LoopState) (pe:Option Code) (rb:Bool),LpR sb S pe->Ev X Q n2 (k (.bl rb) ⟨st.n,st.fr,(s2.setObj id<|.lp f2 r2 p.ps p.asg p.body sb p.fr.n sl2).ob,s2.nx⟩)->
     ∃n',n'<=n/\∃r st',Ev X Q n' (k r st')/\∃F' ρ',PR F' ρ' st'.nx r (V.bool rb)/\C0 B h0 F ρ st.nx h st' fr (h2.put c2<|.loop { p with st:=S,pend:=pe }) F' ρ':=by
    intro sb S pe rb hlr he3;refine⟨n2,ae,_,_,he3,F2,ρ2,jY _,⟨⟨⟨hr.fp.n,fun t=>(hr.fp.slot t).mono hle⟩,?_⟩,hle,hnx⟩⟩;exact hs3.set J w1 w2 rfl rfl (o':=.lp f2 r2 p.ps p.asg p.body sb p.fr.n sl2) ⟨_,rfl,rfl,rfl,rfl,hlr,rfl,lb4⟩
   cases e2 with
   |normal=>exact⟨[(.bool true,h2.put c2<|.loop { p with st:=.ready,pend:=none })],0,ah,(by simp),fun z hz=>by cases zc.1 hz;exact done .ready _ _ true ⟨rfl,rfl⟩ u⟩
   |ret=>exact⟨[(.bool false,h2.put c2<|.loop { p with st:=.done,pend:=some .ret })],0,ah,(by simp),fun z hz=>by cases zc.1 hz;exact done .ret _ _ false ⟨rfl,rfl⟩ u⟩
   |exit i=>exact⟨[(.bool false,h2.put c2<|.loop { p with st:=.done,pend:=some (.exit i) })],0,ah,(by simp),fun z hz=>by cases zc.1 hz;exact done (.exit i) _ _ false ⟨rfl,rfl⟩ u⟩
  obtain⟨r,M3,j1,j2,j3⟩:=Jf R fin2;refine⟨r,max M2 M3,fun m hm q hq=>?_,j2,j3⟩;have a1:=hM2 m ae q ae;simp only at a1;have a2:=j1 m ae q ae;simp only[q2,la1];rw[a1];exact a2
 obtain⟨r,M4,j1,j2,j3⟩:=Jf hone1 fin;refine⟨r,max M1 M4+1,fun m hm=>?_,j2,j3⟩;obtain⟨m',rfl⟩:∃m',m=m'+1:=⟨m-1,by omega⟩;have a1:=hM1 m' ae m' ae;simp only at a1;have a2:=j1 m' ae m' ae;rw[AZ];simp only[SD];rw[a1];exact a2
end
section
variable {B:Nat}{h0:H0}{X:AR}{F F1 F':Fz}{ρ:DU}{N:Nat}{st st':AI}{fr:Fr}{h h':H}
theorem Z1{p:PV}{v:V}(a:PR F ρ N p v):∃w,BC F ρ N p.cells w/\(M0 p=true->v=.agg w)/\(M0 p=false->w=[v]):=by
 cases p with
 |agg l=>obtain⟨cs,rfl,b⟩:=a;exact⟨cs,b,fun _=>rfl,fun e=>by cases e⟩
 |_=>exact⟨[v],by simp only[zj,BF,DB,ve];exact a,fun e=>(by cases e),fun _=>rfl⟩
theorem Q9{st:AI}{s:Sh}{p:PV}{x:s.T}{v:V}{w:List V}(a:GZ st s p=some (true,x))(l:M0 p=true->v=.agg w)(m:M0 p=false->w=[v])(j:∀g,Dr st p.cells=some (true,g)->J1 F g w):PC F (BL s x) v:=by
 unfold GZ at a;cases i:(M0 p==s.MZ)with
 |false=>grind
 |true=>
  rw[i]at a;simp only[we]at a;split at a
  case h_2=>cases a
  rename_i c cs b;split at a
  case h_2=>cases a
  rename_i y k;simp only[zl,z8,ze]at a;obtain⟨⟨d,rfl⟩,rfl⟩:=a;have e:=J1.dc (fun ρ N=>QZ (j cs b ρ N) d) k;have q:=PC.BL e;cases o:s.MZ with
  |true=>grind
  |false=>grind
theorem handed:∀ {ps:List PV} {vs:List V} {st:AI} {F:Fz},SR B h0 F ρ st.nx st.ob h->BC F ρ st.nx ps vs->
  ∃F1,SR B h0 F1 ρ (Bl (ps.flatMap zj) st).nx (Bl (ps.flatMap zj) st).ob h/\(∀b cs,F b=some cs->F1 b=some cs)/\∀l i,C8 st l ps=some (true,i)->J1 F1 (Ae l i) vs
 |[],vs,st,F,j,o=>⟨F,j,fun _ _ h=>h,fun l i e=>by
  have g:vs=[]:=by simp_all
  subst g;match l,i,e with
  |[],_,_=>intro ρ' N';rfl
  |[a],_,e=>cases e
  |a::b::l,_,e=>cases e⟩
 |p::ps,vs,st,F,j,o=>by
  obtain⟨v,vs,rfl,s,t⟩:=o;obtain⟨w,c1,c2,c3⟩:=Z1 s;obtain⟨F1,g1,g2,g3⟩:=Ig j c1;have k:BC F1 ρ (Bl p.cells st).nx ps vs:=by rw[(Db p.cells st).1];exact t.mono<|Le.Zs g2
  obtain⟨z,u,m,A⟩:=handed g1 k;rw[List.flatMap_cons,IJ];refine⟨z,u,ah,fun l i e=>?_⟩;match l,i,e with
  |[],_,e=>cases e
  |[a],i,e=>
   cases ps with
   |cons q C=>cases e
   |nil=>
    have g:vs=[]:=by simp_all
    subst g;have:=(Q9 (st:=st) (F:=F1) (by simpa [C8]using e) c2 c3 g3).mono m;intro ρ' N';simp only[Ae,BF,DB,ve];exact this ρ' N'
  |a::b::l,i,e=>
   unfold C8 at e;split at e
   case h_2=>cases e
   rename_i c x d y r D;simp only[zl,z8,ze]at e;obtain⟨⟨rfl,rfl⟩,rfl⟩:=e;exact J1.cons ((Q9 r c2 c3 g3).mono m) (by grind [LN,MI])
theorem SR.after{ob:Ob}(a:SR B h0 F ρ N ob h)(i:∀b,b<h.nx->h'.get b=h.get b)(s:h.nx<=h'.nx)(g:∀b o,h'.get b=some o->b<h'.nx)(u:∀b cs,F b=some cs->F' b=some cs)
  (v:∀b cs,F' b=some cs->F b=some cs\/h.nx<=b) (d:∀b cs,F' b=some cs->∃t fz,h'.get b=some (.cells cs t fz)):SR B h0 F' ρ N ob h':=by
 refine⟨fun id o l=>?_,a.inj,d,a.own,a.dead,fun b c k=>?_,g,zh a.le s,fun b cs c=>?_,a.gl,fun b c=>by obtain⟨j,r,p⟩:=a.pn b c;exact⟨by rw[i b<|a.lt b _ j];exact j,r,p⟩⟩
 ·obtain⟨b,n,x,h1,m,q,w,y⟩:=a.obj id o l;have c:=a.lt b x m;refine⟨b,n,x,h1,by grind,q.mono<|Le.Zs (ρ:=ρ) u,fun e=>?_,fun e=>?_⟩
  ·cases z:F' b with
   |none=>rfl
   |some cs=>
    grind
  grind
 ·rw[i b<|zn c a.le];exact a.old b c k
 ·rcases v b cs c with h1|h1
  ·exact a.fo b cs h1
  ·exact .inr<|.inl<|zh a.le h1
theorem SR.gh{ob:Ob}(d:SR B h0 F ρ N ob h):Gh h:=fun x e=>by
 obtain⟨a,b,c⟩:=d.gl x e;rw[d.old _ a b];exact c
structure Rx(C:Ctx)(f:FuncId)(sp:Ap):Prop where
 prim:C.prim f=none
 fn:∃i,C.fn f=some i
 run:∀(F:Fz) (h:H) (args:List V) (i:(Bv sp.ins).T),(∀b cs,F b=some cs->∃t fz,h.get b=some (.cells cs t fz))->(∀b o,h.get b=some o->b<h.nx)->Gh h->J1 F (Ae sp.ins i) args->sp.pre i=true->
  ∃l M,(∀m,M<=m->AZ C m (.fn f args) h=some l)/\(sp.nd=false->∃x,l=[x])/\∀x∈l,h.nx<=x.2.nx/\(∀b,b<h.nx->x.2.get b=h.get b)/\(∀b o,x.2.get b=some o->b<x.2.nx)/\
   ∃F':Fz,(∀b cs,F b=some cs->F' b=some cs)/\(∀b cs,F' b=some cs->F b=some cs\/h.nx<=b)/\(∀b cs,F' b=some cs->∃t fz,x.2.get b=some (.cells cs t fz))/\
    PC F' (one (Ae sp.outs (sp.f i))) x.1
structure wH(C:Ctx)(f:FuncId)(sp:Ap):Prop where
 run:∃q,C.prim f=some q/\∀(F:Fz) (h:H) (args:List V) (i:(Bv sp.ins).T),J1 F (Ae sp.ins i) args->sp.pre i=true->∃v,q args h=some (v,h)/\PC F (one (Ae sp.outs (sp.f i))) v
def Af(C:Ctx)(f:FuncId)(sp:Ap):Prop:=Rx C f sp\/wH C f sp
theorem Af.of0{C:Ctx}{f:FuncId}{sp:Ap}(h:Rx C f sp):Af C f sp:=.inl h
theorem Af.zero{C:Ctx}{f:FuncId}{sp:Ap}(h:Af C f sp)(a:C.prim f=none):Rx C f sp:=by
 rcases h with h|⟨q,b,_⟩
 ·exact h
 grind
theorem Af.go{C:Ctx}{f:FuncId}{sp:Ap}(ok:Af C f sp)(F:Fz)(h:H)(args:List V)(i:(Bv sp.ins).T)(c:∀b cs,F b=some cs->∃t fz,h.get b=some (.cells cs t fz))(e:∀b o,h.get b=some o->b<h.nx)(d:Gh h)(p:J1 F (Ae sp.ins i) args)(k:sp.pre i=true):
  ∃l,(((C.prim f=none/\∃i,C.fn f=some i)/\∃M,∀m,M<=m->AZ C m (.fn f args) h=some l)\/∃q x,C.prim f=some q/\q args h=some x/\l=[x])/\(sp.nd=false->∃x,l=[x])/\∀x∈l,h.nx<=x.2.nx/\(∀b,b<h.nx->x.2.get b=h.get b)/\(∀b o,x.2.get b=some o->b<x.2.nx)/\
   ∃F':Fz,(∀b cs,F b=some cs->F' b=some cs)/\(∀b cs,F' b=some cs->F b=some cs\/h.nx<=b)/\(∀b cs,F' b=some cs->∃t fz,x.2.get b=some (.cells cs t fz))/\
    PC F' (one<|Ae sp.outs<|sp.f i) x.1:=by
 rcases ok with ok|⟨q,s,a⟩
 ·obtain⟨l,M,g,j,r⟩:=ok.run F h args i c e d p k;exact⟨l,.inl ⟨⟨ok.prim,ok.fn⟩,M,g⟩,j,r⟩
 ·obtain⟨v,g,j⟩:=a F h args i p k;refine⟨[(v,h)],ah,(by simp),fun x u=>?_⟩;grind
theorem DC.sc:∀ {s:Sh} {x:s.T} {cs:List V},s.sc=true->DC F s x cs->DC F' s x cs
 | .int _,_,_,_,h=>by simpa only[DC]using h
 | .bool,_,_,_,h=>by simpa only[DC]using h
 | .str,_,_,_,h=>by simpa only[DC]using h
 | .list s,l,_,e,h=>by cases e
 | .pair a b,x,_,e,h=>by
  simp only[Sh.sc,ze]at e;obtain⟨c,d,rfl,g,i⟩:=h;exact⟨c,d,rfl,g.sc e.1,i.sc e.2⟩
 | .unit,_,_,_,h=>by simpa only[DC]using h
 | .nlist s,l,_,e,h=>by cases e
 | .fnv,_,_,_,h=>by simpa only[DC]using h
 | .ptr _,_,_,e,_=>by cases e
theorem RV:∀ {s:Sh} {x:s.T} {cs:List V},s.sc=true->BC F ρ N (flat s x) cs->J1 F' (flat s x) cs
 | .int k,x,cs,_,h=>fun ρ' N'=>by
  obtain⟨v,vs,rfl,g,rfl⟩:=h;exact⟨v,[],rfl,by simp only[PR]at g ⊢;exact g.sc rfl,rfl⟩
 | .bool,x,cs,_,h=>fun ρ' N'=>by
  obtain⟨v,vs,rfl,g,rfl⟩:=h;exact⟨v,[],rfl,by simp only[PR]at g ⊢;exact g.sc rfl,rfl⟩
 | .str,x,cs,_,h=>fun ρ' N'=>by
  obtain⟨v,vs,rfl,g,rfl⟩:=h;exact⟨v,[],rfl,by simp only[PR]at g ⊢;exact g.sc rfl,rfl⟩
 | .list s,x,cs,e,h=>by cases e
 | .pair a b,(x,y),cs,e,h=>fun ρ' N'=>by
  simp only[Sh.sc,ze]at e;have key:∀(ps i:List PV) (l:List V),BC F ρ N (ps++i) l->∃c d,l=c++d/\BC F ρ N ps c/\BC F ρ N i d:=by
   intro ps;induction ps with
   |nil=>intro i l j;exact⟨[],l,rfl,by simp,j⟩
   |cons p ps o=>
    intro i l j;obtain⟨v,vs,rfl,g,m⟩:=j;obtain⟨c,d,rfl,h3,h4⟩:=o i vs m;exact⟨v::c,d,rfl,by simp_all,h4⟩
  obtain⟨c,d,rfl,g,m⟩:=key _ _ _ h;exact(RV e.1 g ρ' N').append<|RV e.2 m ρ' N'
 | .unit,_,cs,_,h=>fun ρ' N'=>by simpa [flat]using h
 | .nlist s,x,cs,e,h=>by cases e
 | .fnv,x,cs,_,h=>fun ρ' N'=>by
  simp only[flat,BC]at h ⊢;grind [PR,DB]
 | .ptr _,_,_,e,_=>by cases e
theorem XA{s:Sh}{x:s.T}{v:V}(e:s.sc=true)(h:PC F (BL s x) v):PC F' (BL s x) v:=by
 intro ρ' N';have h:=h ρ' N';cases s with
 |pair a b=>
  obtain⟨cs,rfl,c⟩:=h;exact⟨cs,rfl,RV e c ρ' N'⟩
 |unit=>simp_all [Pe.BL,PR]
 |int k=>unfold Pe.BL PR at h ⊢;exact h.sc rfl
 |bool=>unfold Pe.BL PR at h ⊢;exact h.sc rfl
 |str=>unfold Pe.BL PR at h ⊢;exact h.sc rfl
 |list s=>cases e
 |nlist s=>cases e
 |ptr s=>cases e
 |fnv=>
  unfold Pe.BL at h ⊢;grind [PR,DB]
theorem Xu:∀ {l:List Sh} {x:(Bv l).T} {vs:List V},l.all Sh.sc=true->J1 F (Ae l x) vs->J1 F' (Ae l x) vs
 |[],_,vs,_,h=>fun ρ' N'=>by have:=h ρ' N';simpa [Ae]using this
 |[a],x,vs,e,h=>fun ρ' N'=>by
  have i:=h ρ' N';obtain⟨v,g,rfl,k,rfl⟩:=i;simp only[zq,List.all_nil,zp]at e;simp only[Ae,BF,DB,ve];refine XA (F:=F) e (fun c d=>?_) ρ' N';have:=h c d;simp_all [Ae]
 |a::b::l,x,vs,e,h=>by
  have i:=h (fun _=>none) 0;obtain⟨v,g,rfl,_,_⟩:=i;have j:a.sc=true/\(b::l).all Sh.sc=true:=ah
  exact J1.cons (XA j.1 fun c d=>((BF ..).1<|h c d).1)<|Xu j.2 fun c d=>((BF ..).1<|h c d).2
theorem UO{l:List Sh}{x:(Bv l).T}{v:V}:PC F (one<|Ae l x) v↔∃vs,J1 F (Ae l x) vs/\v=(match vs with|[u]=>u|us=>.tup us):=by
 have c:∀ps:List PV,(∀u,ps≠[u])->(PC F (one ps) v↔∃vs,J1 F ps vs/\v=(match vs with|[u]=>u|us=>.tup us)):=by
  intro ps m;have k:one ps=.tup ps:=by
   simp_all [one]
  rw[k];constructor
  ·intro h;have d:=h (fun _=>none) 0;obtain⟨cs,rfl,g⟩:=d;refine⟨cs,fun ρ N=>?_,?_⟩
   ·have o:=h ρ N;grind [PR]
   ·have i:=g.len;split
    ·cases ps with
     |nil=>cases i
     |cons q j=>grind
    ·rfl
  ·rintro⟨vs,d,rfl⟩ ρ N;have i:=(d ρ N).len;split
   ·cases ps with
    |nil=>cases i
    |cons q j=>grind
   ·exact⟨_,rfl,d ρ N⟩
 match l,x with
 |[],x=>exact c [] (by simp)
 |[a],x=>
  simp only[Ae,one];constructor
  ·intro h;exact⟨[v],fun ρ N=>by simp only[BF,DB,ve];exact h ρ N,rfl⟩
  ·rintro⟨vs,d,rfl⟩ ρ N;have g:=d ρ N;simp only[BC]at g;grind
 |a::b::l,x=>
  refine c _<|fun u e=>?_;cases l<;>cases e
theorem aR{nd:Bool}{g:FuncId}{sp:Ap}(_hsp:X.sp g=some sp)(p:Af X.C g sp)(G:nd=false->sp.nd=false){Q:PV->Ob->Prop}{n:Nat}{args:List PV}{k:PV->AI->Tr}{args':List V}(o:Ev X Q n (dZ sp args st k))(a:Rel B h0 F ρ st fr h)(K:BC F ρ st.nx args args'):
  ∃l,My X ρ h args' (.fn g) l/\(nd=false->∃x,l=[x])/\
   ∀x∈l,∃n',n'<=n/\∃r st',Ev X Q n' (k r st')/\∃F' ρ',PR F' ρ' st'.nx r x.1/\C0 B h0 F ρ st.nx h st' fr x.2 F' ρ'/\(∀sp,X.sp g=some sp->∀b,b<h.nx->x.2.get b=h.get b):=by
 unfold dZ at o;split at o
 case h_2=>grind [zf]
 rename_i c i T;rcases o.Ez with⟨z,d⟩|⟨_,d⟩
 case inr=>grind [zf]
 simp only[ze]at z;obtain⟨rfl,e⟩:=z;obtain⟨F1,g1,g2,g3⟩:=handed a.sr K;obtain⟨l,v,hone,hall⟩:=p.go F1 h args' i g1.frz a.sr.lt a.sr.gh (g3 _ i T) e;have s:My X ρ h args' (.fn g) l:=by
  rcases v with⟨u,M,v⟩|⟨q,x,u,O,rfl⟩
  ·exact .AZ ⟨rfl,u⟩ v
  ·exact .prim u O
 refine⟨l,s,ah,fun x J=>?_⟩;obtain⟨m,y,w,F',U,L,D,I⟩:=hall x J;refine⟨n,zd _,_,_,d,?_⟩;cases A:sp.outs.all Sh.sc with
 |true=>
  have E:PC F (one<|Ae sp.outs<|sp.f i) x.1:=by
   grind [UO,Xu]
  refine⟨F,ρ,E ρ _,⟨⟨a.fp,?_⟩,zr,m⟩,ah⟩;refine a.sr.after y m w (by simp) ah<|fun b cs Z=>?_;grind
 |false=>
  simp only[wg];obtain⟨Y,R,S⟩:=Db (args.flatMap zj) st;have j:Le F ρ st.nx F' ρ (Bl (args.flatMap zj) st).nx:=by
   grind [Le.Zs]
  refine⟨F',ρ,I ρ _,⟨⟨⟨S.trans a.fp.n,fun t=>?_⟩,?_⟩,j,m⟩,ah⟩
  ·have:(Bl (args.flatMap zj) st).get t=st.get t:=by unfold AI.get;rw[R]
   rw[this];exact(a.fp.slot t).mono j
  ·exact g1.after y m w U L D
structure Fi(C:Ctx)(f:FuncId)(w:KW):Prop where
 prim:C.prim f=none
 fn:∃i,C.fn f=some i
 len:∀i l,w.pre i l=true->(w.g i l).length=l.length
 run:∀(F:Fz) (h:H) (args:List V) (i:(Bv w.ins).T) (l:List w.el.T) (b:Nat) (cs:List V) (fz:Nat×Nat) (o:Nat),(∀b cs,F b=some cs->∃t fz,h.get b=some (.cells cs t fz))->(∀b o,h.get b=some o->b<h.nx)->Gh h->J1 F (Ae w.ins i) args->w.pre i l=true->
  h.get b=some (.cells cs w.ty fz)->C9 F w.el l cs->fz.2<=fz.1->F b=none->(o=0\/o=w.el.sz)->
  ∃x M,(∀m,M<=m->AZ C m (.fn f (wj w.fst args (.sl b 0 l.length l.length o))) h=some [x])/\x.1=.tup []/\h.nx<=x.2.nx/\(∀c,c<h.nx->c≠b->x.2.get c=h.get c)/\(∀c y,x.2.get c=some y->c<x.2.nx)/\
   ∃F':Fz,(∀b cs,F b=some cs->F' b=some cs)/\(∀b cs,F' b=some cs->F b=some cs\/h.nx<=b)/\(∀b cs,F' b=some cs->∃t fz,x.2.get b=some (.cells cs t fz))/\
    ∃cs' fz',x.2.get b=some (.cells cs' w.ty fz')/\C9 F' w.el (w.g i l) cs'/\fz'.2<=fz'.1
 nils:∀(F:Fz) (h:H) (args:List V) (i:(Bv w.ins).T),(∀b cs,F b=some cs->∃t fz,h.get b=some (.cells cs t fz))->(∀b o,h.get b=some o->b<h.nx)->Gh h->J1 F (Ae w.ins i) args->w.pre i []=true->
  ∃x M,(∀m,M<=m->AZ C m (.fn f (wj w.fst args .nils)) h=some [x])/\x.1=.tup []/\h.nx<=x.2.nx/\(∀c,c<h.nx->x.2.get c=h.get c)/\(∀c y,x.2.get c=some y->c<x.2.nx)/\
   ∃F':Fz,(∀b cs,F b=some cs->F' b=some cs)/\(∀b cs,F' b=some cs->F b=some cs\/h.nx<=b)/\(∀b cs,F' b=some cs->∃t fz,x.2.get b=some (.cells cs t fz))
theorem BC.split:∀ {a b:List PV} {vs:List V},BC F ρ N (a++b) vs->∃x y,vs=x++y/\BC F ρ N a x/\BC F ρ N b y
 |[],b,vs,h=>⟨[],vs,rfl,by simp,h⟩
 |p::a,b,vs,h=>by
  obtain⟨v,vs,rfl,d,c⟩:=h;obtain⟨x,y,rfl,h3,h4⟩:=c.split;exact⟨v::x,y,rfl,by simp_all,h4⟩
theorem SR.wrote{ob:Ob}(a:SR B h0 F ρ N ob h){id b n:Nat}{o o':Obj}{x':O}(U:AM ob id=some o)(C:ρ id=some (b,n))(D:b<h.nx)(Z:F b=none)(M:o'.frozen=false)(K:h'.get b=some x')(I:VE F' ρ N n o' x')
  (A:∀c,c<h.nx->c≠b->h'.get c=h.get c) (L:h.nx<=h'.nx) (x:∀b o,h'.get b=some o->b<h'.nx) (S:∀b cs,F b=some cs->F' b=some cs)
  (T:∀b cs,F' b=some cs->F b=some cs\/h.nx<=b) (s:∀b cs,F' b=some cs->∃t fz,h'.get b=some (.cells cs t fz)):SR B h0 F' ρ N (DS ob id o') h':=by
 have l:∀j,AM (DS ob id o') j=if j=id then some o' else AM ob j:=(by grind [Hg])
 have w:∀c,c<h.nx->F c=none->F' c=none:=fun c g hn=>by
  cases h1:F' c with
  |none=>rfl
  |some cs=>
   grind
 refine⟨fun j oj d=>?_,fun i j oi oj c m V Y d h1 v=>?_,s,a.own,fun j d=>?_,fun c g z=>?_,x,zh a.le L,fun c cs g=>?_,a.gl,fun c g=>?_⟩
 ·rw[l]at d;by_cases e:j=id
  ·grind
  ·rw[wc e]at d;obtain⟨c,m,y,h1,v,R,h4,h5⟩:=a.obj j oj d;have q:c≠b:=fun J=>e<|a.inj j id oj o c m n d U h1<|J▸C
   have g:=a.lt c y v;refine⟨c,m,y,h1,by grind,R.mono<|Le.Zs (ρ:=ρ) S,ah,fun e=>?_⟩;grind
 ·have p:∀k ok,AM (DS ob id o') k=some ok->∃G,AM ob k=some G:=by
   grind
  obtain⟨_,r⟩:=p i oi Y;obtain⟨_,u⟩:=p j oj d;exact a.inj i j _ _ c m V r u h1 v
 ·rw[l]at d;by_cases e:j=id
  ·grind
  ·rw[wc e]at d;exact a.dead j d
 ·rw[A c (zn g a.le)<|ND (a.own id b n C).2 g z];exact a.old c g z
 ·rcases T c cs g with h1|h1
  ·exact a.fo c cs h1
  ·exact .inr<|.inl<|zh a.le h1
 ·obtain⟨r,u,E⟩:=a.pn c g;have q:c≠b:=ah;exact⟨by rw[A c (a.lt c _ r) q];exact r,u,E⟩
theorem fS{α:Type}{b:Bool}{a:List α}{x:α}{r:List α}(h:wsp b a=some (x,r)):a=wj b r x:=by
 unfold wsp at h;unfold wj;cases b with
 |true=>cases a with
  |nil=>cases h
  |cons y l=>cases h;rfl
 |false=>
  have h:(match a.reverse with|[]=>none|x::r=>some (x,r.reverse))=some (x,r):=h;cases e:a.reverse with
  |nil=>rw[e]at h;cases h
  |cons y l=>
   rw[e]at h;cases h;have:=wi List.reverse e;simpa using this
theorem BC.wj{b:Bool}{r:List PV}{x:PV}{vs:List V}(h:BC F ρ N (wj b r x) vs):∃a v,vs=Go.Pe.wj b a v/\BC F ρ N r a/\PR F ρ N x v:=by
 cases b with
 |true=>
  have h:BC F ρ N (x::r) vs:=h;simp only[BC]at h;obtain⟨v,a,rfl,c,d⟩:=h;exact⟨a,v,rfl,d,c⟩
 |false=>
  have h:BC F ρ N (r++[x]) vs:=h;obtain⟨a,y,rfl,c,d⟩:=h.split;obtain⟨v,_,rfl,hv,rfl⟩:=d;exact⟨a,v,rfl,c,hv⟩
theorem Wk{nd:Bool}{g:FuncId}{w:KW}(hno:X.sp g=none)(a:Fi X.C g w){Q:PV->Ob->Prop}{n:Nat}{args:List PV}{k:PV->AI->Tr}{args':List V}(z:Ev X Q n (VC w args st k))(p:Rel B h0 F ρ st fr h)(J:BC F ρ st.nx args args'):
  ∃l,My X ρ h args' (.fn g) l/\(nd=false->∃x,l=[x])/\
   ∀x∈l,∃n',n'<=n/\∃r st',Ev X Q n' (k r st')/\∃F' ρ',PR F' ρ' st'.nx r x.1/\C0 B h0 F ρ st.nx h st' fr x.2 F' ρ'/\(∀sp,X.sp g=some sp->∀b,b<h.nx->x.2.get b=h.get b):=by
 unfold VC at z;split at z
 ·rename_i id sz nn r q;rw[fS q]at J;obtain⟨a1,v,rfl,D,K⟩:=J.wj;obtain⟨F1,g1,g2,g3⟩:=handed p.sr D;split at z
  case h_2=>grind [zf]
  rename_i c i t s l U ho;cases u:zg t w.ty with
  |false=>grind [zf]
  |true=>
  rw[u]at z;have u:=zk u;split at z
  case h_2=>grind [zf]
  rename_i l' O;obtain⟨e,rfl⟩:=Cp O;cases e;rcases z.Ez with⟨G,j⟩|⟨_,j⟩
  case inr=>grind [zf]
  simp only[ze,w5]at G;obtain⟨⟨⟨rfl,d⟩,hn⟩,A⟩:=G;have A:=zk A;subst hn A u;obtain⟨e1,e2,e3⟩:=Db (r.flatMap zj) st;obtain⟨b,m,x,h1,h2,⟨cs,fz,rfl,k1,k2,k3⟩,h4,_⟩:=g1.obj id _ ho;simp only[PR]at K;obtain⟨o,ho',rfl⟩:∃o,(o=0\/o=w.el.sz)/\v=.sl b (0*w.el.sz) (List.length l) (List.length l) o:=by
   grind
  rw[Nat.zero_mul];obtain⟨x,M,T,q1,E,Z,S,F',f1,R,L,cs',fz',f4,f5,f6⟩:=a.run F1 h a1 i l b cs fz o g1.frz p.sr.lt p.sr.gh (g3 _ i U) d h2 k1 k2 (h4 rfl) ho';refine⟨[x],.AZ ⟨rfl,a.prim,a.fn⟩ T,(by simp),fun y Y=>?_⟩;cases zc.1 Y;refine⟨n,zd _,_,_,j,F',ρ,?_,⟨⟨⟨e3.trans p.fp.n,fun t=>?_⟩,?_⟩,?_,E⟩,ah⟩
  ·rw[q1];simp[PR]
  ·have:((Bl (r.flatMap zj) st).setObj id<|.arr false w.ty w.el<|w.g i l).get t=st.get t:=by
    show((Bl (r.flatMap zj) st).fr.get t).getD .any=_;rw[e2];rfl
   rw[this];refine(p.fp.slot t).mono ?_;show Le F ρ st.nx F' ρ (Bl (r.flatMap zj) st).nx;grind [Le.Zs]
  ·exact g1.wrote ho h1 (p.sr.lt _ _ h2) (h4 rfl) rfl f4 ⟨cs',fz',rfl,f5,f6,by rw[<-k3];exact a.len i l d⟩ Z E S f1 R L
  ·show Le F ρ st.nx F' ρ (Bl (r.flatMap zj) st).nx;grind [Le.Zs]
 ·rename_i r q;rw[fS q]at J;obtain⟨a1,v,rfl,D,K⟩:=J.wj;subst K;obtain⟨F1,g1,g2,g3⟩:=handed p.sr D;split at z
  case h_2=>grind [zf]
  rename_i c i U;rcases z.Ez with⟨G,j⟩|⟨_,j⟩
  case inr=>grind [zf]
  simp only[ze]at G;obtain⟨rfl,d⟩:=G;obtain⟨e1,e2,e3⟩:=Db (r.flatMap zj) st;obtain⟨x,M,T,q1,E,Z,S,F',f1,R,L⟩:=a.nils F1 h a1 i g1.frz p.sr.lt p.sr.gh (g3 _ i U) d;have I:Le F ρ st.nx F' ρ (Bl (r.flatMap zj) st).nx:=by
   grind [Le.Zs]
  refine⟨[x],.AZ ⟨rfl,a.prim,a.fn⟩ T,(by simp),fun y Y=>?_⟩;cases zc.1 Y;refine⟨n,zd _,_,_,j,F',ρ,?_,⟨⟨⟨e3.trans p.fp.n,fun t=>?_⟩,?_⟩,I,E⟩,ah⟩
  ·rw[q1];simp[PR]
  ·have:(Bl (r.flatMap zj) st).get t=st.get t:=by unfold AI.get;rw[e2]
   rw[this];exact(p.fp.slot t).mono I
  ·exact g1.after Z E S f1 R L
 grind [zf]
theorem G1(j:X.C.mg=false)(i:∀g sp,X.sp g=some sp->Af X.C g sp)(p:∀g w,X.ws g=some w->Fi X.C g w):∀(d:Nat) (nd:Bool) (h0:H0),EZ B h0 X nd<|B4 X nd d
 |0,nd,h0=>by intro a;exact wh a zf
 |d+1,nd,h0=>by
  rename_i Q n R args st k;intro a F ρ fr h args' q t;unfold B4 at a;cases R with
  |rnd id=>
   obtain⟨c,U,l,M,V,T,h4⟩:=LD (G1 j i p d nd) (G1 j i p d false) a q t;refine⟨l,.AZ U V,T,fun x E=>?_⟩;grind
  |fn g=>
  simp only at a;have conv:(∃l,My X ρ h args' (.fn g) l/\(nd=false->∃x,l=[x])/\
   ∀x∈l,∃n',n'<=n/\∃r st',Ev X Q n' (k r st')/\∃F' ρ',PR F' ρ' st'.nx r x.1/\C0 B h0 F ρ st.nx h st' fr x.2 F' ρ'/\(∀sp,X.sp g=some sp->∀b,b<h.nx->x.2.get b=h.get b))->
   ∃l,My X ρ h args' (.fn g) l/\(nd=false->∃x,l=[x])/\
   ∀x∈l,∃n',n'<=n/\∃r st',Ev X Q n' (k r st')/\∃F' ρ',PR F' ρ' st'.nx r x.1/\C0 B h0 F ρ st.nx h st' fr x.2 F' ρ'/\(∀K,xJ.fn g=.fn K->∀sp,X.sp K=some sp->∀b,b<h.nx->x.2.get b=h.get b):=by
   simp
  obtain⟨o,s⟩:∃o,X.sp g=o:=⟨_,rfl⟩;cases o with
  |some sp=>
   rw[s]at a;simp only at a;cases G:(nd|| !sp.nd)with
   |false=>grind [zf]
   |true=>
    rw[G]at a;exact conv (aR (nd:=nd) s (i g sp s) ah a q t)
  |none=>
   rw[s]at a;obtain⟨Y,I⟩:∃o,X.ws g=o:=⟨_,rfl⟩;cases Y with
   |some w=>rw[I]at a;exact conv (Wk s (p g w I) a q t)
   |none=>
   rw[I]at a;simp only at a;cases m:X.esc.any (zg g)with
   |true=>
    rw[m]at a;unfold AaO at a;split at a
    case h_2=>grind [zf]
    rename_i id off;cases u:Ia (st.obj id)with
    |false=>grind [zf]
    |true=>
     rw[u]at a;obtain⟨g',D,G⟩:=List.any_eq_true.1 m;have e:=zk G;subst e;have J:=X.escOk g D;obtain⟨o,ho⟩:=Vs u;obtain⟨b,n',z,q1,_⟩:=q.sr.at ho;obtain⟨x,_,rfl,E,rfl⟩:=t;have A:=E;obtain rfl:=A.2 b n' q1;exact conv ⟨[(.ptr b off,h)],.prim J rfl,(by simp),fun y Z=>by
      cases zc.1 Z;exact⟨n,zd _,_,st,a,F,ρ,E,C0.refl q,(by simp)⟩⟩
   |false=>
   rw[m]at a;split at a
   case h_2=>grind [zf]
   rename_i J v;obtain⟨g1,l,M,S,L,O⟩:=Jv (G1 j i p d nd) (G1 j i p d false) j v J s a q t;exact conv ⟨l,.AZ ⟨rfl,g1⟩ S,L,O⟩
theorem Oa{st:AI}:∀ {l:List Sh} {ps:List PV} {r:Bool×(Bv l).T},C8 st l ps=some r->l.length=ps.length
 |[],[],_,_=>rfl
 |[],_::_,_,h=>by cases h
 |[a],[p],_,_=>rfl
 |[a],[],_,h=>by cases h
 |[a],_::_::_,_,h=>by cases h
 |a::b::l,[],_,h=>by cases h
 |a::b::l,p::ps,_,h=>by
  unfold C8 at h;split at h
  case h_2=>cases h
  rename_i d c;have:=Oa c;grind
def Jy(outs:List Sh)(v:PV):List PV:=match outs with
 |[_]=>[v]
 |_=>match v with
  | .tup vs=>vs
  |_=>[v]
def MN(outs:List Sh)(v:PV)(ob:Ob):Option (Bool×(Bv outs).T):=C8 ⟨0,.leaf,ob,0⟩ outs<|Jy outs v
def Ends(X:AR)(t:Tr)(Q:PV->Ob->Prop):Prop:=∃n,Ev X Q n t
def Ad(sp:Ap)(i:(Bv sp.ins).T)(v:PV)(ob:Ob):Prop:=∃y,MN sp.outs v ob=some (true,y)/\y=sp.f i
theorem VY{v:PV}(h:dV v=true)(st st':AI):Cb st v=Cb st' v:=by
 cases v<;>first|rfl|cases h
theorem IA(st st':AI):∀ {l:List PV},l.all dV=true->Dr st l=Dr st' l
 |[],_=>rfl
 |v::l,h=>by
  rw[zq,ze]at h;unfold Dr;rw[VY h.1 st st',IA st st' h.2]
theorem Gv(st st':AI):∀ {l:List Sh} {ps:List PV},ps.all QW=true->C8 st l ps=C8 st' l ps
 |[],[],_=>rfl
 |[],_::_,_=>rfl
 |[_],[],_=>rfl
 |_::_::_,[],_=>rfl
 |[a],[p],h=>by
  grind [GZ,IA,C8,QW]
 |[_],_::_::_,_=>rfl
 |a::b::l,p::ps,h=>by
  rw[zq,ze]at h;unfold C8 GZ;rw[IA st st' h.1,Gv st st' h.2]
theorem xV{outs:List Sh}{v:PV}{ob:Ob}:MN outs v (gcO v ob)=MN outs v ob:=by
 unfold gcO;cases b:tU v with
 |false=>rfl
 |true=>
  unfold MN Jy;by_cases c:∃a,v=.tup a
  ·obtain⟨a,rfl⟩:=c;split
   ·rfl
   ·exact Gv _ _ b
  ·have e:QW v=true:=by
    cases v with
    |tup a=>grind
    |_=>exact b
   have d:[v].all QW=true:=ah
   split
   ·exact Gv _ _ d
   ·split
    ·grind
    grind [Gv]
theorem Zw(K:X.C.mg=false)(j:∀g sp,X.sp g=some sp->Af X.C g sp)(hws:∀g w,X.ws g=some w->Fi X.C g w){f:FuncId}{sp:Ap}{d:Nat}(J:X.C.spec f=none)(c:X.C.prim f=none)(L:X.sp f=none)
  (O:∀i,sp.pre i=true->Ends X (tree X sp.nd d f<|Ae sp.ins i) (Ad sp i)) (U:∃i,X.C.fn f=some i):Af X.C f sp:=by
 refine .of0 ⟨c,U,fun F h args i q E z m v=>?_⟩;obtain⟨n,he⟩:=O i v;have hr:Rel h.nx ⟨h,F,[],fun _=>False⟩ F (fun _=>none) (AB 0 [] [] 0) ⟨0,.leaf⟩ h:=by
  refine⟨⟨rfl,fun t=>?_⟩,⟨fun id o Z=>(by cases Z),(by simp),q,(by simp),fun _ _=>rfl,(by simp),E,zd _,ah,fun x I=>⟨E _ _<|z x I,fun e=>e,z x I⟩,(by simp)⟩⟩;show PR _ _ _ (((Ew []).get t).getD .any) _;grind [Ew,PM.C1,PR]
 obtain⟨_,l,M,hM,A,j⟩:=Jv (by grind [G1]) (by grind [G1]) K J c L he hr<|m _ _;refine⟨l,M,hM,A,fun x I=>?_⟩;obtain⟨n',hn,r,st',he',F',ρ',hp,hw,_⟩:=j x I;have hq:=he'.Yi;obtain⟨y,hy,rfl⟩:=hq;rw[xV]at hy;have p:∀b,b<h.nx->x.2.get b=h.get b:=fun b u=>hw.rel.sr.old b u<|fun e=>e
 refine⟨hw.nx,p,hw.rel.sr.lt,?_⟩;have T:∃vs,BC F' ρ' st'.nx (Jy sp.outs r) vs/\((∃a,sp.outs=[a])->vs=[x.1])/\((∀a,sp.outs≠[a])->(∃G,r=.tup G)->x.1=.tup vs):=by
  unfold Jy;split
  ·simp_all
  ·split
   ·grind [PR]
   ·exact⟨[x.1],by simp_all,fun _=>rfl,ah⟩
 obtain⟨vs,k,V,Y⟩:=T;obtain⟨F1,g1,g2,g3⟩:=handed (st:=st') hw.rel.sr k;have S:∀id,DT (AI.obj ⟨0,.leaf,st'.ob,0⟩ id) (st'.obj id):=fun id=>DT.refl _
 have D:=g3 sp.outs _ (by rw[LN S];exact hy);refine⟨F1,fun b cs u=>g2 b cs<|hw.le.fz b cs u,fun b cs u=>(g1.fo b cs u).imp_right<|fun h=>h.resolve_right<|fun e=>e,g1.frz,UO.2 ⟨vs,D,?_⟩⟩;have s:sp.outs.length=(Jy sp.outs r).length:=Oa hy;have hl2:=k.len;by_cases Z:∃a,sp.outs=[a]
 ·grind
 ·have R:sp.outs.length≠1:=(by grind [List.length_eq_one_iff]);have ht:∃G,r=.tup G:=by
   cases r with
   |tup G=>simp
   |_=>
    exfalso;apply R;rw[s];unfold Jy;split<;>rfl
  grind
end
section
variable {X:AR}{Q Q':PV->Ob->Prop}
theorem Ev.mono{n:Nat}{t:Tr}(d:Ev X Q n t):∀ {m:Nat},n<=m->Ev X Q m t:=by
 induction d with
 |leaf h=>exact fun _=>.leaf h
 |ite _ _ c i2=>exact fun a=>.ite ah ah
 |both _ _ c i2=>exact fun a=>.both (c a)<|i2 a
 |alts _ b=>exact fun a=>.alts ah
 |cut _ b=>exact fun a=>.cut<|b a
 |loop _ b=>
  intro m a;obtain⟨k,rfl⟩:∃k,m=k+1:=⟨m-1,by omega⟩;exact .loop ah
theorem Ends.leaf{v:PV}{ob:Ob}(h:Q v ob):Ends X (.leaf v ob) Q:=⟨0,.leaf h⟩
theorem Ends.ite{c:Bool}{a b:Tr}(d:c=true->Ends X a Q)(e:c=false->Ends X b Q):Ends X (.ite c a b) Q:=by
 cases c with
 |true=>obtain⟨n,h⟩:=d rfl;exact⟨n,.ite (fun _=>h)<|by simp⟩
 |false=>obtain⟨n,h⟩:=e rfl;exact⟨n,.ite (by simp)<|fun _=>h⟩
theorem Ends.tt{c:Bool}{a b:Tr}(d:c=true)(h:Ends X a Q):Ends X (.ite c a b) Q:=(by grind [Ends.ite])
theorem Ends.ff{c:Bool}{a b:Tr}(d:c=false)(h:Ends X b Q):Ends X (.ite c a b) Q:=(by grind [Ends.ite])
theorem Ends.both{a b:Tr}(c:Ends X a Q)(d:Ends X b Q):Ends X (.both a b) Q:=by
 obtain⟨n,c⟩:=c;obtain⟨m,d⟩:=d;exact⟨max n m,.both (c.mono ae)<|d.mono ae⟩
def stepT(X:AR):Tr->Tr
 | .loop nd ro d f base b st k=>body X nd ro d f base b st k
 | .cut nd ro d f base b st k=>AT X nd ro d f base b st k
 |t=>t
theorem Ends.step{t:Tr}(h:Ends X (stepT X t) Q):Ends X t Q:=by
 cases t with
 |loop=>obtain⟨n,h⟩:=h;exact⟨n+1,.loop h⟩
 |cut=>obtain⟨n,h⟩:=h;exact⟨n,.cut h⟩
 |_=>exact h
theorem Ends.eq{t a:Tr}(e:t=a)(h:Ends X a Q):Ends X t Q:=e▸h
theorem Ends.An{t a:Tr}(e:stepT X t=a)(h:Ends X a Q):Ends X t Q:=Ends.step<|e▸h
def Tr.L:Tr->Tr
 | .ite _ a _=>a
 | .both a _=>a
 |t=>t
def Tr.R:Tr->Tr
 | .ite _ _ b=>b
 | .both _ b=>b
 |t=>t
def re:Tr->AI->Tr
 | .loop nd ro d f base b _ k,st=>.loop nd ro d f base b st k
 | .cut nd ro d f base b _ k,st=>.cut nd ro d f base b st k
 |t,_=>t
def Kg(r:Nat):Code->Option (Array Tmp×Code×Code)
 | .rangeFunc _ ps a b=>bif zg (By b) r then some (ps,a,b)else Kg r b
 | .seq a b=>match Kg r a with
  |some x=>some x
  |none=>Kg r b
 | .cond _ a b=>match Kg r a with
  |some x=>some x
  |none=>Kg r b
 | .block _ b| .loop b| .scope b=>Kg r b
 |_=>none
def wP(C:Ctx)(f:FuncId)(r:Nat):Array Tmp×Code×Code:=match C.fn f with
 |some i=>(Kg r i.body).getD (#[],.skip,.skip)
 |none=>(#[],.skip,.skip)
def Abw(C:Ctx)(f:FuncId)(r:Nat):Array Tmp:=(wP C f r).1
def tF(C:Ctx)(f:FuncId)(r:Nat):Code:=(wP C f r).2.1
def kV(C:Ctx)(f:FuncId)(r:Nat):Code:=(wP C f r).2.2
def Ng:List (FuncId×Ap)->FuncId->Option Ap
 |[],_=>none
 |(g,s)::l,f=>bif zg g f then some s else Ng l f
def qW:List (FuncId×KW)->FuncId->Option KW
 |[],_=>none
 |(g,s)::l,f=>bif zg g f then some s else qW l f
theorem X5{C:Ctx}:∀ {l:List (FuncId×KW)},(∀x∈l,Fi C x.1 x.2)->∀g sp,qW l g=some sp->Fi C g sp
 |[],_,g,sp,h=>by cases h
 |(b,s)::l,c,g,sp,h=>by
  unfold qW at h;cases a:zg b g with
  |true=>
   simp_all
  |false=>rw[a]at h;exact X5 ah g sp h
def Aba:List (FuncId×List Nat)->FuncId->Nat->Bool
 |[],_,_=>false
 |(g,t)::l,f,r=>bif zg g f then t.any (zg r)else Aba l f r
def Aao:List (FuncId×List (Nat×List (Nat×Sh)))->FuncId->Nat->List (Nat×Sh)
 |[],_,_=>[]
 |(g,t)::l,f,r=>bif zg g f then fz1 t r else Aao l f r
 where fz1:List (Nat×List (Nat×Sh))->Nat->List (Nat×Sh)
 |[],_=>[]
 |(i,s)::l,r=>bif zg i r then s else fz1 l r
def wY:List (FuncId×List (Nat×List Nat))->FuncId->Nat->List Nat
 |[],_,_=>[]
 |(g,t)::l,f,r=>bif zg g f then pl1 t r else wY l f r
 where pl1:List (Nat×List Nat)->Nat->List Nat
 |[],_=>[]
 |(i,s)::l,r=>bif zg i r then s else pl1 l r
end
section
open Go.Proofs.Tryz (prog)
def OO(C:Ctx)(q:Te):Ctx:=⟨C.T,C.ng,C.fn,C.prim,q,false⟩
theorem UI{C:Ctx}{P:Program}(a:C.Ok P){q:Te}(h:Fh P q):(OO C q).Ok P where
 T:=a.T
 fn:=a.fn
 prim:=a.prim
 spec:=h
theorem Of{C:Ctx}(a:Du C)(q:Te):Du (OO C q):=a
class Srt where
 q:Option (List V->H->Option (V×H))
def Mw[Srt]:Te:=fun f=>bif zg f 147 then Srt.q else none
def A9[Srt]:Ctx:=OO C7<|gY Mw<|gY fmtS<|gY fD<|gY (Hj zZ)<|Hj A7
theorem mA[Srt](a:Fh prog Mw):A9.Ok prog:=UI PA<|HT a<|HT sA<|HT kR<|HT spR spA
theorem QL[Srt]:Du A9:=Of FI _
def Aa1:List (FuncId×List (Nat×List Nat)):=
 [(4,[(19,[5,7,13,14,15]),(17,[5,7,11,13,14,15]),(11,[0,5,7]),(9,[0,5,7,9,10,11,12]),(4,[0,1,5,7,8])]),
 (7,[(5,[0,3,4]),(3,[0,3,4])]),
 (9,[(5,[0,5]),(6,[0,5]),(4,[0,5]),(3,[0])]),
 (10,[(5,[0,3]),(11,[0,3,5]),(12,[0,3,5]),(10,[0,3,5]),(9,[0,3]),(6,[0,3]),(4,[0,3]),(3,[0])]),
 (11,[(11,[3,11,12,13]),(10,[3,5,11,12,13]),(6,[3,11,12,13]),(5,[3,11,12,13]),(3,[0])]),
 (13,[(7,[0,3,4,5]),(6,[0,3,4,5]),(5,[0,3,4]),(3,[0,3,4])]),
 (20,[(22,[10]),(19,[7,10,38,39,40]),(17,[7,10,12,14,38,39,40]),(13,[7,10,38,39,40]),(12,[7,10,38,39,40]),(7,[0,1,7,25,26,27]),(6,[0,1,7,25,26,27]),(4,[0,1])]),
 (21,[(3,[0,3]),(4,[0,3]),(2,[0,3])]),
 (22,[(12,[6]),(4,[0,1,6,7]),(8,[0,1,6,7,8]),(5,[0,1,6,7]),(3,[0,1,6,7])]),
 (24,[(3,[0,1,5]),(4,[0,1,5]),(2,[0,1,5])]),
 (47,[(6,[5,6,7]),(3,[5,6,7]),(2,[5,6,7])]),
 (51,[(5,[0,1,5]),(6,[0,1,5]),(4,[0,1,5]),(3,[0,1])]),
 (60,[(5,[0,1])]),
 (61,[(13,[6]),(10,[0,1,6]),(5,[0,1]),(3,[0,1])]),
 (64,[(6,[0,1,7,8]),(3,[0,1,7,8]),(2,[0,1,7,8])]),
 (82,[(3,[2,3,4])]),
 (86,[(9,[5,6,7]),(6,[5,6,7,8])]),
 (93,[(16,[]),(11,[3,4]),(9,[3,4]),(7,[3,4]),(4,[0,3])]),
 (97,[(21,[6,10,11]),(19,[6,10,11]),(18,[6,10]),(13,[3,5,6,7,9]),(11,[3,5,6,7,9]),(7,[3,4,5,6]),(6,[3,4,5,6]),(3,[1])]),
 (98,[(5,[0,1])]),
 (100,[(10,[3]),(7,[1,3,4]),(5,[1,3,4]),(3,[1])]),
 (101,[(7,[0,2,3,4,5]),(4,[0,2,3,4]),(3,[0,2,3,4])]),
 (102,[(15,[8,9]),(13,[6,8,9]),(10,[5,6,7]),(7,[5,6]),(4,[5])]),
 (104,[(9,[8,10]),(3,[2,3])]),
 (106,[(2,[0,1]),(1,[0,1])]),
 (107,[(3,[0,1,5]),(2,[0,1,5])]),
 (110,[(6,[5,6,7]),(3,[5,6,7]),(2,[5,6,7])]),
 (133,[(11,[2,4]),(5,[0,2,3,4]),(4,[0,2,3,4])]),
 (134,[(5,[2,3,4]),(3,[2,3,4])]),
 (143,[(3,[2,3,4]),(2,[2,3,4])]),
 (148,[(4,[0,5,6,7]),(2,[0,5,6,7]),(1,[0,5,6,7])]),
 (149,[(7,[3,6,7,8]),(4,[3,6,7,8]),(3,[3,6,7,8])]),
 (151,[(3,[0,3]),(4,[0,3]),(2,[0,3])]),
 (153,[(2,[0,1]),(1,[0,1])]),
 (158,[(26,[9,11,12,13,96,97]),(22,[9,11,12,13,96,97]),(21,[9,11,12,13,96,97]),(19,[9,10,11,12,13,14]),(17,[9,10,11,12,13,14]),(11,[0,1]),(9,[0,1,6,7,8]),(7,[0,1,6,7,8]),(3,[0,1])]),
 (165,[(5,[0,3,4]),(3,[0,3,4])]),
 (166,[(6,[0,2,3,4]),(5,[0,2,3,4]),(4,[0,2,3])]),
 (168,[(15,[8,9,10,11,12,13]),(39,[8,9,10,11,12,13,14]),(35,[8,9,10,11,12,13,14,19,20]),(33,[8,9,10,11,12,13,14,19,20]),(20,[8,9,10,11,12,13,14,15,16]),(27,[8,9,10,11,12,13,14,15,16,18]),(21,[8,9,10,11,12,13,14,15,16]),(19,[8,9,10,11,12,13,14,15,16]),(16,[8,9,10,11,12,13]),(14,[8,9,10,11,12,13]),(11,[0,8,9,10,11]),(10,[0,8,9,10,11]),(6,[0,1]),(3,[0,1])]),
 (169,[(9,[0,1,5,6,7,8]),(7,[0,1,5,6,7,8]),(5,[0,1,5,6]),(3,[0,1,5,6])]),
 (197,[(3,[1,2,4,5]),(6,[1,2,4,5]),(4,[1,2,4,5]),(2,[1,2,4,5])]),
 (200,[(3,[2,3,4])]),
 (204,[(8,[1,5,6,7,8,20,21,22,27,28,29]),(7,[1,5,6,7,8,20,21,22,27,28,29]),(4,[1,5,20,21,22]),(3,[1,5,20,21,22])]),
 (205,[(12,[0,1,5,6,21,22]),(11,[0,1,5,6,7,8,21,22]),(7,[0,1,5,6,21,22]),(6,[0,1,5,6,21,22]),(3,[0,1])]),
 (206,[(7,[0,1,5]),(11,[]),(8,[0,1,5]),(6,[0,1,5]),(5,[0,1]),(4,[])]),
 (207,[(10,[0,1,5,6,13,14]),(9,[0,1,5,6,7,8,13,14]),(5,[0,1,5,6,13,14]),(4,[0,1,5,6,13,14])]),
 (211,[(12,[4,5,14,15]),(6,[2,3,4,5]),(5,[4,5,6,7])]),
 (221,[(3,[2])]),
 (224,[(3,[0,3]),(4,[0,3]),(2,[0,3])]),
 (226,[(25,[2,8,9,10,14,15,16,17,18]),(24,[2,8,9,10,14,15,16,17,18]),(18,[2,8,9,10,11,13,14,15,16]),(17,[2,8,9,10,11,13,14,15,16]),(7,[0,1,2]),(5,[0,1,2]),(3,[0,1,2])]),
 (227,[(3,[0,3]),(2,[0,3])]),
 (229,[(8,[1,5,12,13,14]),(4,[1,5,12,13,14]),(3,[1,5,12,13,14])]),
 (230,[(29,[0,1,5,6,17,156,157]),(28,[0,1,5,6,17,156,157]),(26,[0,1,5,6]),(16,[0,1,5,6,11,12,104,105]),(15,[0,1,5,6,11,12,104,105]),(11,[0,1,5,6,7]),(9,[0,1,5,6,7]),(8,[0,1,5,6,7,8])]),
 (236,[(6,[0,1,5,6,7]),(4,[0,1,5,6,7])]),
 (237,[(7,[0,1,5]),(10,[0,1,5]),(8,[0,1,5]),(6,[0,1,5]),(5,[0,1]),(4,[])]),
 (238,[(5,[0,1,5,6,7]),(11,[0,1,5,6,7,8]),(6,[0,1,5,6,7]),(4,[0,1,5,6,7])]),
 (239,[(2,[0]),(1,[0])]),
 (240,[(6,[0,1,6,7,8]),(4,[0,1,6,7,8])]),
 (241,[(5,[0,1,2,7,9,10]),(4,[0,1,2,7,9,10])]),
 (253,[(20,[0]),(19,[6]),(16,[5,6,47,48,49]),(15,[5,6,8,47,48,49]),(11,[5,6,47,48,49]),(10,[5,6,47,48,49]),(8,[0,5])]),
 (259,[(3,[0,2,4]),(7,[0,2,4,5]),(4,[0,2,4]),(2,[0,2,4])]),
 (260,[(3,[0,1]),(2,[0,1]),(1,[0,1])]),
 (261,[(3,[0,1]),(2,[0,1]),(1,[0,1])])]
def xZ:List FuncId:=[282]
theorem Yr[Srt]:∀g∈xZ,A9.prim g=some PK.noEsc.run:=fun g h=>by
 cases h with
 |head=>kernel_rfl
 |tail _ h=>cases h
def X7[Srt](l:List (FuncId×Ap)):AR:=⟨A9,Ng l,wY Aa1,fun _ _=>false,fun _ _=>[],fun _=>none,xZ,Yr⟩
def cD[Srt](cs:List (FuncId×List Nat))(fz:List (FuncId×List (Nat×List (Nat×Sh))))(t:List (FuncId×List (Nat×List Nat)))(l:List (FuncId×Ap)):AR:=⟨A9,Ng l,wY<|t++Aa1,Aba cs,Aao fz,fun _=>none,xZ,Yr⟩
def AR.wr(X:AR)(l:List (FuncId×KW)):AR:={ X with ws:=qW l }
end
end Go.Pe
namespace Go.Sp
def first:List Int->Int
 |[]=>0
 |x::l=>if x≠0 then x else first l
def Hi(c:Bool)(e:Int):Int:=bif c then e else 0
end Go.Sp
namespace Go.Pe
open Go.Det
abbrev i64:Sh:=.int .i64
abbrev Adj:Sh:=.list<|.int .i64
def FE:Ap:=⟨[Adj],fun l=>decide (l.length<=1000000),[i64],fun l=>Sp.first l,false⟩
def Ks:Ap:=⟨[.bool,i64],fun _=>true,[i64],fun i=>Sp.Hi i.1 i.2,false⟩
end Go.Pe
namespace Go.Sp
abbrev Am:=Int×Int×Int×Z×Int×Int
abbrev Dj:Am:=(0,0,0,[],0,0)
def Ve(a b:Int):Int:=if a<b then -1 else if b<a then 1 else 0
def UW(a b:Am):Int:=first [Ve a.1 b.1,Ve a.2.1 b.2.1]
def De(a b:Am):Prop:=a.1<b.1\/a.1=b.1/\a.2.1<b.2.1
theorem Ug{a b:Am}:UW a b<0↔De a b:=by
 unfold UW De Ve first first first
 split<;>split<;>(try split)<;>(try split)<;>omega
theorem Uw{a:Am}:¬De a a:=by unfold De;omega
theorem VT{a b c:Am}(h:De a b)(k:De b c):De a c:=by unfold De at*;omega
theorem Ua{a b c:Am}(h:¬De a b)(k:¬De b c):¬De a c:=by unfold De at*;omega
end Go.Sp
namespace Go.Pe
open Go.Det
abbrev Az:Sh:=.pair i64<|.pair i64<|.pair i64<|.pair .str<|.pair i64 i64
def jD:Ap:=⟨[i64,i64],fun _=>true,[i64],fun i=>Sp.Ve i.1 i.2,false⟩
def yA:Ap:=⟨[Az,Az],fun _=>true,[i64],fun i=>Sp.UW i.1 i.2,false⟩
def cM[Srt]:AR:=X7 []
def Aau[Srt]:AR:=X7 [(150,jD),(149,FE)]
section
open List Int Prod
namespace T150
def T[Srt](a b:Int):Tr:=tree cM false 9 150<|Ae ([Sh.int IntKind.i64,Sh.int IntKind.i64]) (a,b)
theorem Ai[Srt](a b:Int):T a b=let d:Tr:=.leaf (.dat i64 (-1:Int)) [];let b':Tr:=.leaf (.dat i64 (0:Int)) [];let c:Tr:=.leaf (.dat i64 (1:Int)) [];.ite (a !=a) (.ite (b !=b) b' d) (.ite (b !=b) c<|.di (a<b) d<|.di (a>b) c b'):=by kernel_rfl
end T150
namespace T149
def T[Srt](l:List Int):Tr:=tree cM false 9 149<|Ae ([Sh.list i64]) l
def L1[Srt](v3:Int)(a:List Int)(c b:Int):Tr:=re ((T []))<|AB 18 [(3,.dat i64 v3),(6,.dat (Sh.list i64) a),(7,.dat i64 c),(8,.dat i64 b)] [] 0
theorem Ai[Srt](l:List Int):T l=L1 0 l ((length l:Int)) 0:=by kernel_rfl
theorem Ar[Srt](v3:Int)(b:List Int)(c a:Int):stepT cM (L1 v3 b c a)=.di (a<c) (.ck (decide (0<=a)&&decide (a<(length b:Int)))<|.ite (getD b (toNat a) 0 !=v3) (.leaf (.dat i64<|getD b (toNat a) 0) [])<|L1 v3 b c<|IntKind.wrap .i64<|a+1) (.leaf (.dat i64 v3) []):=by kernel_rfl
end T149
namespace T92
def T[Srt](a b:Int×Int×Int×Z×Int×Int):Tr:=tree Aau false 9 92<|Ae ([zt i64<|zt i64<|zt i64<|zt Sh.str<|zt i64 i64,zt i64<|zt i64<|zt i64<|zt Sh.str<|zt i64 i64]) (a,b)
theorem Ai[Srt](a b:Int×Int×Int×Z×Int×Int):T a b=.ck true (.ck true<|.ck (decide (2<=2)&&true&&decide (2<=1000000))<|.leaf (.dat i64<|Sp.first [Sp.Ve (fst a)<|fst b,Sp.Ve (fst<|snd a)<|fst<|snd b]) []):=by kernel_rfl
end T92
end
theorem Nk(k:IntKind)(a b:Int):Wa (.int k) a b=decide (a=b):=by
 show(a==b)=_;by_cases h:a=b<;>simp[h]
theorem GF{v:Sh}{q:IntKind}(x k:Int)(b:v.T):∀m:List (Int×v.T),D9 (.int q) v x (JH (.int q) v k b m)=if x=k then some b else D9 (.int q) v x m
 |[]=>by
  show(bif Wa (.int q) x k then some b else none)=_;rw[Nk];by_cases h:x=k<;>simp[h,D9]
 |(a,c)::m=>by
  show D9 (.int q) v x (bif Wa (.int q) k a then(k,b)::m else(a,c)::JH (.int q) v k b m)=_;rw[Nk];by_cases h:k=a
  ·subst h;simp only[decide_true,we];show(bif Wa (.int q) x k then some b else D9 (.int q) v x m)=if x=k then some b else(bif Wa (.int q) x k then some c else D9 (.int q) v x m)
   rw[Nk];by_cases d:x=k<;>simp[d]
  ·simp only[h,decide_false,wg];show(bif Wa (.int q) x a then some c else D9 (.int q) v x<|JH (.int q) v k b m)=if x=k then some b else(bif Wa (.int q) x a then some c else D9 (.int q) v x m)
   rw[Nk,GF x k b m];by_cases d:x=a
   ·subst d;simp[Ne.symm h]
   ·simp[d]
def Qh(m:List (Int×Bool))(p:Int->Prop):Prop:=∀x:Int,(D9 (.int .i64) .bool x m).getD false=true↔p x
theorem Qh.nil:Qh [] (fun _=>False):=fun x=>by simp[D9]
theorem Qh.add{m:List (Int×Bool)}{p:Int->Prop}(h:Qh m p)(k:Int):Qh (JH (.int .i64) .bool k true m) (fun x=>x=k\/p x):=fun x=>by
 rw[GF];by_cases e:x=k
 ·simp[e]
 ·rw[wc e,h x];simp[e]
theorem Qh.congr{m:List (Int×Bool)}{p q:Int->Prop}(h:Qh m p)(e:∀x,p x↔q x):Qh m q:=fun x=>(h x).trans<|e x
end Go.Pe
namespace Go.Sp
abbrev Lv:=Z
end Go.Sp
namespace Go.Pe
open Go.Det
section
variable {X:AR}{Q:PV->Ob->Prop}
@[simp] theorem Aaj:Ends X .fail Q↔False:=⟨fun⟨_,h⟩=>zf h,fun h=>h.elim⟩
@[simp] theorem QT{v:PV}{ob:Ob}:Ends X (.leaf v ob) Q↔Q v ob:=⟨fun⟨_,h⟩=>h.Yi,fun h=>.leaf h⟩
@[simp] theorem Ir{c:Bool}{a b:Tr}:Ends X (.ite c a b) Q↔if c=true then Ends X a Q else Ends X b Q:=by
 constructor
 ·rintro⟨n,h⟩;rcases h.Ez with⟨d,h⟩|⟨d,h⟩
  ·rw[wd d];exact⟨n,h⟩
  ·rw[wc<|by simp[d]];exact⟨n,h⟩
 ·intro h;refine .ite (fun d=>?_)<|fun d=>?_
  ·rwa [wd d]at h
  ·rwa [wc<|by simp[d]]at h
theorem Ad.of{sp:Ap}{i:(Bv sp.ins).T}{v:PV}{ob:Ob}{c:Bool}{y:(Bv sp.outs).T}(h:MN sp.outs v ob=some (c,y))(b:c=true)(a:y=sp.f i):Ad sp i v ob:=⟨y,by rw[h,b],a⟩
@[simp] theorem V0(s:Sh)(x:List s.T):Kl (Sh.leaves<|.list s) [.dat (.list s) x]=(true,[.dat (.list s) x]):=rfl
theorem wr(x:Int)(a: -9223372036854775808<=x)(b:x<=9223372036854775807):IntKind.wrap .i64 x=x:=IntWalk.i64_in x ⟨a,b⟩
theorem drop_cons{α:Type}{l r:List α}{x d:α}{i:Nat}(h:l.drop i=x::r):i<l.length/\l.getD i d=x/\l.drop (i+1)=r:=by
 have a:i<l.length:=by
  rcases Nat.lt_or_ge i l.length with h1|h1
  ·exact h1
  ·rw[List.drop_eq_nil_of_le h1]at h;cases h
 have b:=List.drop_eq_getElem_cons a;rw[h]at b;simp only[z6]at b;exact⟨a,by simp[a,b.1],b.2.symm⟩
end
abbrev Dn[Srt](X:AR):Prop:=∀g sp,X.sp g=some sp->Af A9 g sp
theorem Lq[Srt]{X:AR}(o:X.C=A9)(b:∀g sp,X.sp g=some sp->Af A9 g sp){f:FuncId}{sp:Ap}{d:Nat}(k:A9.spec f=none)(a:A9.prim f=none)(e:X.sp f=none)
  (j:∀i,sp.pre i=true->Ends X (tree X sp.nd d f<|Ae sp.ins i) (Ad sp i)) (l:∃i,A9.fn f=some i) (m:∀g w,X.ws g=some w->Fi A9 g w:=by intro _ _ h;cases h):Af A9 f sp:=by
 have c:X.C.mg=false:=by rw[o];rfl
 rw[<-o]at*;exact Zw c b m k a e j l
theorem Bn{α:Type}{o:Option α}(h:o.isSome=true):∃i,o=some i:=zu.1 h
theorem BM[Srt]{X:AR}(b:Dn X){f:FuncId}{sp:Ap}(d:∀i,sp.pre i=true->Ends X (tree X sp.nd 9 f<|Ae sp.ins i) (Ad sp i))(l:X.C=A9:=by rfl)(e:A9.spec f=none:=by kernel_rfl)(a:A9.prim f=none:=by kernel_rfl)(c:X.sp f=none:=by kernel_rfl)(j:(A9.fn f).isSome=true:=by kernel_rfl)(k:∀g w,X.ws g=some w->Fi A9 g w:=by intro _ _ h;cases h):Af A9 f sp:=Lq l b e a c d (Bn j) k
theorem drop_nil{α:Type}{l:List α}{i:Nat}(h:l.drop i=[])(a:i<=l.length):i=l.length:=by
 have:=wi List.length h;simp at this;omega
theorem kW{α:Type}{l r:List α}{x:α}{i:Nat}(h:l.drop i=x::r):x∈l:=by
 have:x∈l.drop i:=by rw[h];simp
 exact List.mem_of_mem_drop this
theorem aO{α:Type}{l r:List α}{x:α}{i:Nat}(h:l.drop i=x::r):l.take (i+1)=l.take i++[x]:=by
 have b:=(drop_cons (d:=x) h).1;have a:=(drop_cons (d:=x) h).2.1;rw[List.take_add_one];congr 1;have:l[i]?=some x:=by
  have e:=List.getElem?_eq_getElem b;rw[e];simp only[List.getD,e,Option.getD_some]at a;rw[a]
 rw[this];rfl
theorem AP{C:Ctx}:∀g sp,Ng [] g=some sp->Af C g sp:=fun g sp h=>by cases h
theorem Aa{C:Ctx}{b:FuncId}{c:Ap}{l:List (FuncId×Ap)}(h0:Af C b c)(d:∀g sp,Ng l g=some sp->Af C g sp):∀g sp,Ng ((b,c)::l) g=some sp->Af C g sp:=by
 intro g sp h;unfold Ng at h;cases a:zg b g with
 |true=>rw[a]at h;cases h;have:=zk a;subst this;exact h0
 |false=>rw[a]at h;exact d g sp h
open Go.Sp (Am)
theorem TS[Srt]:Dn cM:=fun g sp h=>by cases h
theorem T150.ok[Srt]:Af A9 150 jD:=by
 refine BM TS<|fun(i:Int×Int) _=>?_;obtain⟨a,b⟩:=i;have key:∀(v:Int) ob,v=Sp.Ve a b->Ad jD (a,b) (.dat i64 v) ob:=fun v ob h=>Ad.of rfl rfl h
 refine Ends.eq (T150.Ai a b) ?_;conv=>zeta
 simp only[Ir,QT,w5,bne_self_eq_false];unfold Sp.Ve at key;repeat' split
 all_goals first|(exfalso;simp_all;done)|(apply key;simp_all;done)|(apply key;simp_all;omega)
namespace T149
theorem loop[Srt]{Q:PV->Ob->Prop}(l:List Int)(g:l.length<=1000000)(a:∀ob,Q (.dat i64<|Sp.first l) ob):∀(r:List Int) (i:Nat),l.drop i=r->i<=l.length->Sp.first l=Sp.first r->Ends cM (L1 0 l ((l.length:Int)) (i:Int)) Q
 |[],i,h,c,e=>by
  have p:=drop_nil h c;refine Ends.An (Ar ..) (Ends.ff (w8 ae)<|Ends.leaf ?_);rw[e]at a;exact a _
 |x::r,i,h,c,e=>by
  obtain⟨j,k,o⟩:=drop_cons (d:=0) h;refine Ends.An (Ar ..) ?_;conv=>zeta
  have m:IntKind.wrap .i64 ((i:Int)+1)=((i+1:Nat):Int):=by rw[wr _ ae ae];omega
  rw[m,Int.toNat_natCast,k];refine Ends.tt (w4 ae) (Ends.tt ((ze _ _).mpr ⟨w4 ae,w4 ae⟩) ?_);by_cases b:x=0
  ·subst b;refine Ends.ff rfl (loop l g a r (i+1) o j ?_);rw[e];rfl
  ·have ex:Sp.first (x::r)=x:=by unfold Sp.first;rw[wd b]
   refine Ends.tt (by simpa using b)<|Ends.leaf ?_;rw[e,ex]at a;exact a _
theorem ok[Srt]:Af A9 149 FE:=by
 refine BM TS<|fun(l:List Int) hl=>?_;exact Ends.eq (Ai l)<|loop l (w6 hl) (fun ob=>Ad.of rfl rfl rfl) l 0 rfl (Nat.zero_le _) rfl
end T149
theorem gB[Srt]:Dn Aau:=Aa T150.ok<|Aa T149.ok AP
theorem T92.ok[Srt]:Af A9 92 yA:=by
 refine BM gB<|fun(i:Am×Am) _=>?_;obtain⟨a,b⟩:=i;exact Ends.eq (T92.Ai a b)<|Ends.tt rfl (Ends.tt rfl (Ends.tt rfl (Ends.leaf<|Ad.of rfl rfl rfl)))
end Go.Pe
namespace Go.Det
open Go.ChangeShapes Go.WideShapes Go.RowKit
theorem B0{α e:Type}{f g:α->Option e}:∀ {l:List α} {b:List e},l.mapM f=some b->(∀a∈l,∀y∈b,f a=some y->g a=some y)->l.mapM g=some b
 |[],b,h,_=>by grind
 |a::l,b,h,i=>by
  rw[List.mapM_cons]at h ⊢;cases d:f a with
  |none=>grind
  |some y=>
   rw[d]at h;cases c:l.mapM f with
   |none=>grind
   |some j=>
    rw[c]at h;cases h;rw[i a (by simp) y (by simp) d,B0 c ah];rfl
def kO(P:Program)(L:List TypeId)(t:TypeId):Bool:=match P.underlying t with
 |some (.pointer e)|some (.array _ e)|some (.map _ e)=>L.contains e
 |some (.slice e)=>L.contains e&&Nat.ble 1 (P.cellsOf e)
 |some (.struct fs)=>fs.toList.all fun f=>L.contains f.type
 |_=>true
def Kq(P:Program)(L:List TypeId):Bool:=L.all<|kO P L
section
variable {H:Type}{enc:TypeId×Value->H}{P:Program}{W W':World}
theorem qR{L:List TypeId}(h:Kq P L=true){t:TypeId}(a:t∈L):kO P L t=true:=List.all_eq_true.1 h t a
theorem V6(b:Below W.heap.size W W'){a:Addr}{v:Value}(h:W.cell? a=some v):W'.cell? a=some v:=by
 have c:a.block<W.heap.size:=by
  grind [World.cell?]
 unfold World.cell? at h ⊢;rw[b.block _ c];exact h
theorem Tn(b:Below W.heap.size W W'){a:Addr}{n:Nat}{cs:List Value}(h:W.cells? 0 a n=some cs):W'.cells? 0 a n=some cs:=by
 unfold World.cells? at h ⊢;grind [B0,V6]
theorem G5(d:Below W.heap.size W W'){b:Type}{a:Addr}{n:Nat}{f g:List Value->Option b}{y:b}(h:(W.cells? 0 a n).bind f=some y)(c:∀cs,f cs=some y->g cs=some y):(W'.cells? 0 a n).bind g=some y:=by
 cases e:W.cells? 0 a n with
 |none=>grind
 |some cs=>
  grind [Tn]
theorem OY(s:Below W.heap.size W W'){L:List TypeId}(z:Kq P L=true){sp:Nat->Bool}:∀(fuel:Nat) (t:TypeId) (cs:List Value) (x:DataW H×List MemPlace),t∈L->
  zi enc P W 0 (fun _=>true) true fuel t cs=some x->(∀p∈x.2,sp p.block=true)->zi enc P W' 0 sp true fuel t cs=some x
 |0,_,_,_,_,h,_=>by cases h
 |fuel+1,t,cs,x,E,h,I=>by
  have S:=OY s z (sp:=sp) fuel;have l:=qR z E;unfold kO at l;unfold zi at h ⊢;split at h<;>try simp only[reduceCtorEq]at h
  all_goals try exact h
  case h_6 e a m=>
   have c:e∈L:=ah
   cases w:(W.cells? 0 a<|P.cellsOf e).bind (zi enc P W 0 (fun _=>true) true fuel e)with
   |none=>grind
   |some y=>
    rw[w]at h;cases h;rw[G5 s w (g:=zi enc P W' 0 sp true fuel e) ah];rfl
  case h_8 e a len cap m=>
   have c:e∈L/\P.cellsOf e≠0:=by
    rw[m]at l;simp only[ze,List.contains_iff_mem]at l;have:=zo l.2;grind
   by_cases q:0<=a.block/\len<=cap/\cap<=maxLen
   ·rw[wd q]at h ⊢;have step:∀(i:Nat) (y:DataW H×List MemPlace),(W.cells? 0 (a.add<|i*P.cellsOf e)<|P.cellsOf e).bind (zi enc P W 0 (fun _=>true) true fuel e)=some y->(∀p∈y.2,sp p.block=true)->
      (W'.cells? 0 (a.add<|i*P.cellsOf e)<|P.cellsOf e).bind (zi enc P W' 0 sp true fuel e)=some y:=(by grind [G5])
    cases d:(yb len).mapM (fun i=>(W.cells? 0 (a.add<|i*P.cellsOf e)<|P.cellsOf e).bind<|zi enc P W 0 (fun _=>true) true fuel e)with
    |none=>grind
    |some o=>
     rw[d]at h;simp only[wm,zw]at h;cases A:(yb<|cap-len).mapM (fun j=>(W.cells? 0 (a.add<|(len+j)*P.cellsOf e)<|P.cellsOf e).bind<|zi enc P W 0 (fun _=>true) true fuel e)with
     |none=>grind
     |some D=>
      rw[A]at h;cases h;rw[B0 d ah];have K:=B0 A fun j _ y O G=>step (len+j) y G ah
      by_cases r:sp a.block=true
      ·grind
      ·have T:(o.length+D.length)*P.cellsOf e=0:=by
        rcases Nat.eq_zero_or_pos ((o.length+D.length)*P.cellsOf e)with h0|h0
        ·exact h0
        ·refine wh (I (.cell a.block<|a.off+0)<|List.mem_append_left _ ?_) r;simp only[MemPlace.row,zz,List.mem_range];exact⟨0,h0,rfl⟩
       grind [Nat.mul_eq_zero]
   grind
  case h_9 cs _ _ fs m=>
   have c:∀f∈fs.toList,f.type∈L:=by
    grind
   by_cases q:cs.length=P.cellsOf t
   ·rw[wd q]at h ⊢;cases d:fs.toList.mapM (fun f=>zi enc P W 0 (fun _=>true) true fuel f.type<|(cs.drop f.offset).take<|P.cellsOf f.type)with
    |none=>grind
    |some o=>
     grind [B0]
   grind
  case h_10 cs _ _ n e m=>
   have c:e∈L:=ah
   by_cases q:cs.length=P.cellsOf t
   ·rw[wd q]at h ⊢;cases d:(yb n).mapM (fun i=>zi enc P W 0 (fun _=>true) true fuel e<|(cs.drop<|i*P.cellsOf e).take<|P.cellsOf e)with
    |none=>grind
    |some o=>
     grind [B0]
   grind
  case h_14 k e b m=>
   have J:b<W.heap.size:=by
    grind
   rw[s.block _ J];split at h
   case h_2=>cases h
   rename_i es clock M;split at h
   case isFalse=>cases h
   cases d:(es.toList.mapM fun x=>(keyOf P k x.key).bind fun key=>if x.val.formed P e then(zi enc P W 0 (fun _=>true) true fuel e x.val.cells.toList).map fun y=>((key,y.1),y.2)else none)with
   |none=>grind
   |some o=>
    rw[d]at h;simp only[zw]at h;split at h
    case isFalse=>cases h
    rw[B0 d fun C _ y O v=>?_]
    ·grind
    ·cases l:keyOf P k C.key with
     |none=>grind
     |some key=>
      rw[l]at v;split at v
      case isFalse=>cases v
      cases R:zi enc P W 0 (fun _=>true) true fuel e C.val.cells.toList with
      |none=>grind
      |some u=>
       grind
theorem Wj(c:Below W.heap.size W W'){L:List TypeId}(e:Kq P L=true){sp:Nat->Bool}{t:TypeId}{v:Value}{d:DataW H}{p:List MemPlace}
  (g:t∈L) (h:DataW.Trod enc P W 0 (fun _=>true) true t v d p) (b:∀q∈p,sp q.block=true):DataW.Trod enc P W' 0 sp true t v d p:=by
 obtain⟨a,i⟩:=h;exact⟨a,(by grind [OY])⟩
theorem GJ(c:Below W.heap.size W W'){L:List TypeId}(e:Kq P L=true){sp:Nat->Bool}:∀ {ts:List TypeId} {vs:List Value} {ds:List (DataW H)} {p:List MemPlace},(∀t∈ts,t∈L)->
  DataW.TrodAll enc P W 0 (fun _=>true) true ts vs ds p->(∀q∈p,sp q.block=true)->DataW.TrodAll enc P W' 0 sp true ts vs ds p
 |[],vs,ds,p,_,h,_=>by
  obtain⟨rfl,rfl,rfl⟩:=trodAll_nil h;rfl
 |t::ts,vs,ds,p,m,h,k=>by
  obtain⟨v,i,d,j,a,b,rfl,rfl,rfl,l,g⟩:=trodAll_cons h;exact⟨a,b,(by grind [Wj]),GJ c e ah g ah,rfl⟩
theorem Rb{f:Func}{s:ChangeSpec}{apart fresh a g:Bool}{args:Array Value}{ds I:List (DataW H)}{c:List MemPlace}{tb:TypeId}
  (hW:DataW.Whole enc P f.params.toList s.vars apart W args.toList ds I c) (z:s.vars=[]) (A:f.resultTypes= #[tb]) (C:P.underlying tb=some .bool)
  (J:s.fn H ds={ results:=[.lit<|.bool true],args:=ds }) (v:Below W.heap.size W W') {L:List TypeId} (G:Kq P L=true) (y:f.params.toList.all L.contains=true):
  s.post enc P f apart fresh a g W args (.bool true) W':=by
 have i:=hW.lt;have y:∀t∈f.params.toList,t∈L:=ah;obtain⟨p,q,x,E,rfl,e,l⟩:=hW;have k:=E;rw[z]at k;obtain⟨rfl,rfl⟩:=trodVars_none k;simp only[List.append_nil]at i e l ⊢;have u:DataW.Whole enc P f.params.toList s.vars apart W args.toList ds [] p:=⟨p,[],x,E,by simp,e,l⟩;have m:∀(b:Nat) (sp:Nat->Bool) (D:Bool),DataW.TrodAll enc P W' b sp D f.resultTypes.toList ((Value.bool true).resultList f.resultTypes.size) [.lit<|.bool true] []:=by
  intro b sp D;rw[A];exact⟨[],[],shut_bool C true,rfl,rfl⟩
 have o:∀(j:Nat) (t:TypeId) (r:Value),f.resultTypes[j]?=some t->((Value.bool true).resultList f.resultTypes.size)[j]?=some r->Value.okWide P W' .any 0 t r:=by
  exact ok_one A rfl (okWide_bool_mk C true)
 have d:∀sp:Nat->Bool,DataW.TrodVars enc P W' sp s.vars [] []:=fun sp=>by rw[z];rfl
 refine⟨ds,[],p,[],p,[],u,?_,?_,?_,World.keptBut_mono (by simp) (v.frame (· ∈p)),fun _=>?_⟩
 ·grind
 ·grind [GJ]
 ·grind
 ·refine⟨o,_,_,([]++p)++[],⟨[]++p,[],trodAll_append (GJ v G y x<|by simp)<|m _ _ _,d _,rfl,?_,?_⟩,?_⟩
  ·intro b off w;have w:MemPlace.cell b off∈p:=ah
   rw[v.frozen<|show b<W.heap.size from i _ w];exact e b off w
  ·grind
  grind
end
def KI(k:Nat):Value->V
 | .bool b=>.bool b
 | .int q n=>.int q n
 | .string s=>.str s.data.toList
 | .pointer none=>.nilp
 | .slice none 0 0=>.nils
 | .slice (some _) 0 0=>.es0
 | .slice (some ⟨r,off,none⟩) len cap=>if r<k/\len<=cap then .sl r off len cap 0 else .junk
 | .map none=>.nilm
 | .nilFunc=>.nilf
 | .nilIface=>.nili
 |_=>.junk
def ZQ(W:World)(r:Nat):Nat:=match W.heap[r]? with
 |some (.cells c _ _)=>c.size
 |_=>0
def pW(W:World):Pl:=(yb W.heap.size).map fun r=>(r,ZQ W r)
theorem LB{W:World}{r:Nat}(h:r<W.heap.size):(pW W)[r]?=some (r,ZQ W r):=by
 simp[pW,h]
def Nd(W:World)(r:Nat):Option O:=match W.heap[r]? with
 |some (.cells c t _)=>if c.size=0 then none else some<|.cells (c.toList.map<|KI W.heap.size) t (0,c.size)
 |_=>none
def aA(W:World):Nat->H
 |0=>⟨.leaf,0⟩
 |n+1=>⟨(aA W n).m.set n<|Nd W n,n+1⟩
theorem pA(W:World):∀n,(aA W n).nx=n
 |0=>rfl
 |_+1=>rfl
theorem Uf(W:World):∀(n b:Nat),(aA W n).get b=if b<n then Nd W b else none
 |0,b=>by simp[aA,H.get]
 |n+1,b=>by
  have a:=Uf W n b;unfold H.get at a ⊢;simp only[aA,PM.Cz];grind
def hW(W:World):H:=aA W W.heap.size
theorem O4(W:World)(b:Nat):(hW W).get b=Nd W b:=by
 simp_all [hW,Uf,Nd]
theorem Kp{W:World}{v:Value}(h:(KI W.heap.size v).ok=true):Ac (pW W) (KI W.heap.size v) v:=by
 revert h;unfold KI;split<;>intro h
 case h_6=>simp_all [Ac]
 case h_7 r off len cap _=>
  split
  ·simp_all [Ac,LB]
  ·rename_i a;rw[wc a]at h;cases h
 case h_11=>cases h
 all_goals simp only[Ac]
 rfl
theorem R_W(W:World):R (pW W) (hW W) W:=by
 refine⟨by simp[pW,hW,pA],fun b o a=>?_,fun b b' o o' r n n' a l m p=>?_⟩
 ·rw[O4]at a;unfold Nd at a;split at a
  case h_2=>cases a
  rename_i c t fz g;split at a
  case isTrue=>cases a
  cases a;have e:b<W.heap.size:=ah;have j:ZQ W b=c.size:=by unfold ZQ;rw[g]
  refine⟨b,c.size,_,by rw[LB e,j],g,c,fz,rfl,rfl,by simp,⟨by simp,fun i d v s q k=>?_⟩,ae⟩;grind [Kp]
 grind [O4,Nd,LB]
theorem Xs{W W':World}{p':Pl}{h':H}(d:Ext (pW W) (hW W) W p' h' W'):RowKit.Below W.heap.size W W':=by
 refine⟨d.os,d.tape,d.out,d.size,fun k m=>?_⟩;by_cases l:Im (pW W) (hW W) k
 ·obtain⟨b,o,n,i,j⟩:=l;have a:=i;rw[O4]at a;unfold Nd at a;split at a
  case h_2=>cases a
  rename_i c t fz p;split at a
  case isTrue=>cases a
  cases a;have e:b<W.heap.size:=ah;have g:ZQ W b=c.size:=by unfold ZQ;rw[p]
  rw[LB e,g]at j;cases j;exact(d.lock _ m ⟨_,_,_,_,_,i,by rw[LB e,g],rfl,zd _,ae⟩).1
 ·exact d.same k m l
end Go.Det
