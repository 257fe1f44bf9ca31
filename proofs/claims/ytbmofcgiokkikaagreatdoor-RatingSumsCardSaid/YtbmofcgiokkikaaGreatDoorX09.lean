import Derived.Test.YtbmofcgiokkikaaGreatDoorX08
/- A part of a proof; no law is stated here. -/
noncomputable section
open Go.IntKind renaming wrap -> zc, u64 -> zd
open Bool renaming and_eq_true -> ze
open List renaming mem_singleton -> zf, getElem?_eq_some_iff -> zi, getD_eq_getElem?_getD -> zl, getElem?_eq_getElem -> zn, drop_eq_getElem_cons -> zu, mem_append -> yc, all_cons -> ye, mem_map -> yg
open Nat renaming le_refl -> zg, le_trans -> zm, beq -> zp, eq_of_beq_eq_true -> zt, le_of_ble_eq_true -> zw, add -> zx, blt -> z8, lt_or_ge -> yf, ble -> yi
open Go.Pe.Sh renaming int -> zh, list -> zj
open Int renaming eq_ofNat_of_zero_le -> zk, fdiv -> z7
open Go.Pe.Ev renaming AG -> zo
open Option.some renaming injEq -> zq
open Go.Pe.PV renaming cells -> zr
open List.cons renaming injEq -> zy
open Go.Sp renaming mark -> zz
open Option renaming isSome_iff_exists -> z6, map_eq_some_iff -> ya
open Go.Pe.Le renaming refl -> yb
open Prod.mk renaming injEq -> yd
open Go.Det renaming X -> yh
namespace Go.Pe
open Go.Det
section
variable {B:Nat}{h0:H0}{F:Fz}{ρ ρ':EA}{N N':Nat}{f:Nat->Option Nat}
mutual
theorem Ql(e:∀i j,i<N->f i=some j->j<N'/\ρ' j=ρ i):∀ {p:PV} {v:V},PR F ρ N p v->PR F ρ' N' (GR f p) v
 | .any,_,_=>by simp[GR,PR]
 | .bl _,_,h=>by simpa only[GR,PR]using h
 | .ub,_,h=>by simpa only[GR,PR]using h
 | .dat _ _,_,h=>by simpa only[GR,PR]using h
 | .nil,_,h| .nilp,_,h| .nilm,_,h| .nilf,_,h| .nili,_,h=>by simpa only[GR,PR]using h
 | .Bb _ _ _,_,h=>by simpa only[GR,PR]using h
 | .agg l,_,h=>by simp only[GR,PR]at h ⊢;obtain⟨cs,rfl,c⟩:=h;exact⟨cs,rfl,E6 e c⟩
 | .tup l,_,h=>by simp only[GR,PR]at h ⊢;obtain⟨cs,rfl,c⟩:=h;exact⟨cs,rfl,E6 e c⟩
 | .fn g a b,_,h=>by simp only[GR,PR]at h ⊢;obtain⟨x,y,rfl,c,d⟩:=h;exact⟨x,y,rfl,E6 e c,E6 e d⟩
 | .ptr i o,_,h=>by
  simp only[GR];cases k:f i with
  |none=>simp[PR]
  |some j=>
   simp only[PR]at h ⊢;obtain⟨c,d⟩:=e i j h.1 k;exact⟨c,fun b n m=>h.2 b n<|by rw[<-d];exact m⟩
 | .eptr i _ _ _,_,h=>by
  simp only[GR];cases k:f i with
  |none=>simp[PR]
  |some j=>
   simp only[PR]at h ⊢;obtain⟨c,d⟩:=e i j h.1 k;exact⟨c,fun b n m=>h.2 b n<|by rw[<-d];exact m⟩
 | .sl i _ _ _ _,_,h=>by
  simp only[GR];cases k:f i with
  |none=>simp[PR]
  |some j=>
   simp only[PR]at h ⊢;obtain⟨c,d⟩:=e i j h.1 k;exact⟨c,fun b n m=>h.2 b n<|by rw[<-d];exact m⟩
 | .yl i,_,h=>by
  simp only[GR];cases k:f i with
  |none=>simp[PR]
  |some j=>
   simp only[PR]at h ⊢;obtain⟨c,d⟩:=e i j h.1 k;exact⟨c,fun b n m=>h.2 b n<|by rw[<-d];exact m⟩
 | .mp i,_,h=>by
  simp only[GR];cases k:f i with
  |none=>simp[PR]
  |some j=>
   simp only[PR]at h ⊢;obtain⟨c,d⟩:=e i j h.1 k;exact⟨c,fun b n m=>h.2 b n<|by rw[<-d];exact m⟩
theorem E6(a:∀i j,i<N->f i=some j->j<N'/\ρ' j=ρ i):∀ {ps:List PV} {vs:List V},BJ F ρ N ps vs->BJ F ρ' N' (KN f ps) vs
 |[],_,h=>by simpa [KN]using h
 |p::ps,_,h=>by
  simp only[BJ]at h;obtain⟨v,vs,rfl,b,c⟩:=h;simp only[KN,Bo];exact⟨Ql a b,E6 a c⟩
end
theorem Se(f:PV->PV):∀(sl:List (Nat×PV)) (m a:PM PV),(∀t,a.get t=(m.get t).map f)->∀t,((sl.map fun x=>(x.1,f x.2)).foldl (fun m x=>m.set x.1<|some x.2) a).get t=((sl.foldl (fun m x=>m.set x.1<|some x.2) m).get t).map f
 |[],_,_,h,t=>h t
 |x::sl,m,a,h,t=>by
  simp only[List.map_cons,List.foldl_cons];refine Se f sl _ _ (fun t=>?_) t;rw[PM.Dz,PM.Dz];split
  ·rfl
  ·exact h t
theorem Xz(f:PV->PV)(a:f .any=.any)(sl:List (Nat×PV))(t:Nat):Qv (sl.map fun x=>(x.1,f x.2)) t=f (Qv sl t):=by
 unfold Qv Fl;rw[Se f sl .leaf .leaf (fun t=>by rw[PM.DY];rfl) t];cases (sl.foldl (fun m x=>m.set x.1<|some x.2) PM.leaf).get t with
 |none=>exact a.symm
 |some x=>rfl
theorem sO(d:∀i j,i<N->f i=some j->j<N'/\ρ' j=ρ i){n:Nat}{o:Obj}{x:O}(h:aI F ρ N n o x):aI F ρ' N' n (TW f o) x:=by
 cases o with
 |arr fz e s l=>exact h
 |box ps=>obtain⟨cs,t,fz,a,c,b⟩:=h;exact⟨cs,t,fz,a,E6 d c,b⟩
 |tbox t ps=>obtain⟨cs,fz,a,c,b⟩:=h;exact⟨cs,fz,a,E6 d c,b⟩
 |lp g r ps asg body s n sl=>
  obtain⟨ls,a,c,b,k,u,m,q⟩:=h;refine⟨ls,a,c,b,k,u,m,fun t=>?_⟩;rw[Xz (GR f)<|by simp[GR]];exact Ql d<|q t
 |map ks vs l=>exact h
 |siter s p=>exact h
theorem WC(o:Obj):(TW f o).frozen=o.frozen:=by cases o<;>rfl
theorem JW{st:AQ}{base:Nat}:∀(n:Nat) (g acc:List Nat),(∀i∈acc,base<=i/\(st.obj i).isSome=true)->acc.Nodup->(∀i∈JR st base n g acc,base<=i/\(st.obj i).isSome=true)/\(JR st base n g acc).Nodup
 |0,_,acc,c,d=>⟨c,d⟩
 |n+1,[],acc,c,d=>⟨c,d⟩
 |n+1,i::g,acc,c,d=>by
  unfold JR;cases p:(z8 i base||acc.any (zp i))with
  |true=>simp only[we];exact JW n g acc c d
  |false=>
   simp only[wg];cases t:st.obj i with
   |none=>simp only;exact JW n g acc c d
   |some o=>
    simp only;simp only[Bool.or_eq_false_iff]at p;have r:base<=i:=by
     rcases yf i base with h|h
     ·have:=p.1;rw[D1 h]at this;cases this
     ·exact h
    have m:i∉acc:=by
     intro q;have:acc.any (zp i)=true:=List.any_eq_true.2 ⟨i,q,Nat.beq_refl i⟩;rw[p.2]at this;cases this
    refine JW n _ _ (fun j k=>?_) ?_
    ·rcases yc.1 k with k|k
     ·exact c j k
     ·cases zf.1 k;exact⟨r,by rw[t];rfl⟩
    ·rw[List.nodup_append];exact⟨d,by simp,fun a s b l=>by cases zf.1 l;exact fun e=>m<|e▸s⟩
theorem QL{base:Nat}:∀(b:List Nat) (n i j:Nat),b.Nodup->Rf base b n i=some j->(∃k,b[k]?=some i/\j=n+k)\/(i∉b/\i<base/\j=i)
 |[],n,i,j,_,h=>by
  unfold Rf at h;cases g:z8 i base with
  |false=>rw[g]at h;cases h
  |true=>rw[g]at h;cases h;exact .inr ⟨by simp,zw g,rfl⟩
 |a::b,n,i,j,o,h=>by
  unfold Rf at h;rw[BA]at h;by_cases e:i=a
  ·subst e;simp only[decide_true,we,zq]at h;exact .inl ⟨0,rfl,by omega⟩
  ·simp only[e,decide_false,wg]at h;have d:=List.nodup_cons.1 o;rcases QL b (zx n 1) i j d.2 h with⟨k,c,l⟩|⟨c,l,m⟩
   ·exact .inl ⟨k+1,by simpa using c,by rw[l];show n+1+k=_;omega⟩
   ·exact .inr ⟨by simp[e,c],l,m⟩
theorem bL(f:Nat->Option Nat)(base:Nat):∀(l:Ob) (j:Nat),AS (low f base l) j=if j<base then(AS l j).map (TW f)else none
 |[],j=>by simp[low,AS]
 |(i,o)::l,j=>by
  simp only[low];have b:=bL f base l j;by_cases a:i<base
  ·rw[D1 a];simp only[we,AS,BA];by_cases e:i=j
   ·subst e;simp[a]
   ·simp only[e,decide_false,wg];exact b
  ·have:z8 i base=false:=by
    cases c:z8 i base with
    |false=>rfl
    |true=>exact wh (zw c) a
   rw[this];simp only[wg,AS,BA];rw[b];by_cases e:i=j
   ·subst e;simp[a]
   ·simp[e]
theorem VT{st:AQ}(f:Nat->Option Nat):∀(a:List Nat) (n:Nat) (b:Ob) (j:Nat),(∀i∈a,(st.obj i).isSome=true)->AS (kept st f a n b) j=(if n<=j/\j<n+a.length then(a[j-n]?).bind fun i=>(st.obj i).map (TW f)else AS b j)
 |[],n,b,j,_=>by simp only[kept,List.length_nil];rw[wc ae]
 |i::a,n,b,j,h=>by
  obtain⟨o,d⟩:=z6.1 (h i<|by simp);unfold kept;rw[d];simp only;rw[VT f a (zx n 1) _ j<|fun k g=>h k<|by simp[g]];have l:zx n 1=n+1:=rfl;rw[l];by_cases c:n+1<=j/\j<n+1+a.length
  ·rw[wd c,wd<|by simp;omega];have:j-n=(j-(n+1))+1:=ae
   rw[this];simp
  ·rw[wc c];simp only[AS,BA];by_cases e:n=j
   ·subst e;rw[wd<|by simp];simp[d]
   ·rw[wc<|by simp;omega];simp[e]
theorem GX:∀(vs:List (Nat×PV)) (m:PM PV) (t:Nat) (p:PV),(vs.foldl (fun m x=>m.set x.1<|some x.2) m).get t=some p->(t,p)∈vs\/m.get t=some p
 |[],m,t,p,h=>.inr h
 |x::vs,m,t,p,h=>by
  rcases GX vs _ t p h with a|a
  ·exact .inl<|List.mem_cons_of_mem _ a
  ·rw[PM.Dz]at a;split at a
   ·rename_i e;cases a;exact .inl (by rw[e];exact List.mem_cons_self)
   ·exact .inr a
theorem eG{st:AQ}{fr:Fr}{h:H}(hr:Rel B h0 F ρ st fr h)(base:Nat)(L:List Nat)(_hb:base<=st.nx):
  ∃ρ',Rel B h0 F ρ' (canon base L st) fr h/\base<=(canon base L st).nx/\∀id,id<base->ρ' id=ρ id:=by
 generalize A:JR st base 100 (KY ((L.map fun t=>(t,st.get t)).map (·.2))++P3 base st.ob) []=ids;have G:=JW (st:=st) (base:=base) 100 (KY ((L.map fun t=>(t,st.get t)).map (·.2))++P3 base st.ob) [] (fun i D=>by cases D) List.nodup_nil;rw[A]at G;obtain⟨I,E⟩:=G;let g:=Rf base ids base
 let r:EA:=fun id=>if id<base then ρ id else(ids[id-base]?).bind ρ
 have z:∀id,id<base->r id=ρ id:=fun id h=>by show(if id<base then ρ id else _)=_;rw[wd h]
 have y:∀k i,ids[k]?=some i->r (base+k)=ρ i:=by
  intro k i q;show(if base+k<base then ρ (base+k)else(ids[base+k-base]?).bind ρ)=ρ i;rw[wc ae,Nat.add_sub_cancel_left,q];rfl
 have K:canon base L st=Aw st.n ((L.map fun t=>(t,st.get t)).map fun x=>(x.1,GR g x.2)) (kept st g ids base<|low g base st.ob) (base+ids.length):=by
  rw[show g=Rf base ids base from rfl, <-A];rfl
 have V:∀i j,i<st.nx->g i=some j->j<base+ids.length/\r j=ρ i:=by
  intro i j _ S;rcases QL ids base i j E S with⟨k,d,rfl⟩|⟨_,w,rfl⟩
  ·have:=(zi.1 d).1;exact⟨by omega,y k i d⟩
  ·exact⟨by omega,z _ w⟩
 have C:∀j,AS (kept st g ids base<|low g base st.ob) j=if j<base then(AS st.ob j).map (TW g)else(ids[j-base]?).bind fun i=>(st.obj i).map (TW g):=by
  intro j;rw[VT g ids base _ j<|fun i D=>(I i D).2,bL];by_cases d:j<base
  ·rw[wc ae,wd d,wd d]
  ·by_cases w:j<base+ids.length
   ·rw[wd ae,wc d]
   ·rw[wc ae,wc d,wc d,List.getElem?_eq_none ae];rfl
 have src:∀j o',AS (kept st g ids base<|low g base st.ob) j=some o'->∃i o,AS st.ob i=some o/\o'=TW g o/\r j=ρ i/\j<base+ids.length/\((j<base/\i=j)\/(base<=j/\ids[j-base]?=some i/\base<=i)):=by
  intro j o' v;rw[C]at v;by_cases d:j<base
  ·rw[wd d,ya]at v;obtain⟨o,w,rfl⟩:=v;exact⟨j,o,w,rfl,z j d,by omega,.inl ⟨d,rfl⟩⟩
  ·rw[wc d]at v;cases q:ids[j-base]? with
   |none=>rw[q]at v;cases v
   |some i=>
    rw[q]at v;simp only[Option.bind_some,ya]at v;obtain⟨o,w,rfl⟩:=v;have hlt:=(zi.1 q).1;have:=y (j-base) i q;rw[show base+(j-base)=j from by omega]at this;exact⟨i,o,w,rfl,this,by omega,.inr ⟨by omega,by first|exact q|rfl,(I i<|List.mem_of_getElem? q).1⟩⟩
 refine⟨r,?_,by rw[K];show base<=base+ids.length;omega,z⟩;rw[K];refine⟨⟨hr.fp.n,fun t=>?_⟩,⟨fun j o' v=>?_,fun i j oi oj c m W D v d w=>?_,hr.sr.frz,fun id b m l=>?_,fun j v=>?_,hr.sr.old,hr.sr.lt,hr.sr.le,hr.sr.fo,hr.sr.gl,fun c K=>?_⟩⟩
 ·generalize O:((L.map fun t=>(t,st.get t)).map fun x=>(x.1,GR g x.2))=vs;show PR F r (base+ids.length) (((Fl vs).get t).getD .any)<|fr.get t;cases hp:(Fl vs).get t with
  |none=>show PR F r (base+ids.length) PV.any<|fr.get t;simp[PR]
  |some p=>
   show PR F r (base+ids.length) p<|fr.get t;rcases GX vs .leaf t p hp with d|d
   ·rw[<-O]at d;simp only[List.map_map,yg,Function.comp]at d;obtain⟨s,_,w⟩:=d;cases w;exact Ql V<|hr.fp.slot _
   ·simp at d
 ·obtain⟨i,o,d,rfl,w,h3,_⟩:=src j o' v;obtain⟨b,m,x,k1,k2,k3,k4⟩:=hr.sr.obj i o d;exact⟨b,m,x,w.trans k1,k2,sO V k3,by rw[WC];exact k4⟩
 ·obtain⟨a,o,U,_,R,_,J⟩:=src i oi D;obtain⟨a',o',g4,_,g5,_,g6⟩:=src j oj v;rw[R]at d;rw[g5]at w;have T:=hr.sr.inj a a' o o' c m W U g4 d w;subst T;rcases J with⟨Y,P⟩|⟨Y,P,e3⟩<;>rcases g6 with⟨Z,M⟩|⟨Z,M,f3⟩
  ·omega
  ·omega
  ·omega
  ·have i1:=zi.1 P;have i2:=zi.1 M;have:=(List.getElem?_inj i1.1 E).1<|P.trans M.symm;omega
 ·have l:(if id<base then ρ id else(ids[id-base]?).bind ρ)=some (b,m):=l;by_cases d:id<base
  ·rw[wd d]at l;exact⟨by show id<base+ids.length;omega,(hr.sr.own id b m l).2⟩
  ·rw[wc d]at l;cases q:ids[id-base]? with
   |none=>rw[q]at l;cases l
   |some i=>
    rw[q]at l;have:=(zi.1 q).1;exact⟨by show id<base+ids.length;omega,(hr.sr.own i b m l).2⟩
 ·have u:AS (kept st g ids base<|low g base st.ob) j=none:=v;rw[C]at u;show(if j<base then ρ j else(ids[j-base]?).bind ρ)=none;by_cases d:j<base
  ·rw[wd d]at u ⊢;exact hr.sr.dead j (by simpa using u)
  ·rw[wc d]at u ⊢;cases q:ids[j-base]? with
   |none=>rfl
   |some i=>
    rw[q]at u;simp only[Option.bind_some,Option.map_eq_none_iff]at u ⊢;exact hr.sr.dead i u
 ·obtain⟨U,R,J⟩:=hr.sr.pn c K;refine⟨U,R,fun id m e=>?_⟩;have e:(if id<base then ρ id else(ids[id-base]?).bind ρ)=some (c,m):=e;by_cases d:id<base
  ·rw[wd d]at e;exact J id m e
  ·rw[wc d]at e;cases q:ids[id-base]? with
   |none=>rw[q]at e;cases e
   |some i=>rw[q]at e;exact J i m e
end
section
variable {B:Nat}{h0:H0}{X:AL}{F:Fz}{ρ:EA}{N:Nat}{h:H}
theorem eQ(h0:H0)(a b:List Nat):(h0.pins a).pins b=h0.pins (b++a):=by unfold H0.pins;simp
theorem SR.sG{ob:Ob}{ps:List Nat}(hr:SR B (h0.pins ps) F ρ N ob h):SR B h0 F ρ N ob h:=
 ⟨hr.obj,hr.inj,hr.frz,hr.own,hr.dead,hr.old,hr.lt,hr.le,hr.fo,hr.gl,fun b a=>hr.pn b<|List.mem_append_right _ a⟩
theorem SR.mark{ob:Ob}(hr:SR B h0 F ρ N ob h):SR B (h0.pins [h.nx]) F ρ N ob (h.push<|.defd true):=by
 have g:∀b y,h.get b=some y->b≠h.nx:=fun b y r=>by have:=hr.lt b y r;omega
 have i:∀b y,h.get b=some y->(h.push<|.defd true).get b=some y:=(by simp_all);refine⟨fun j oj u=>?_,hr.inj,fun c cs a=>?_,hr.own,hr.dead,fun c a k=>?_,fun c p a=>?_,?_,hr.fo,hr.gl,fun c a=>?_⟩
 ·obtain⟨c,m,y,v,C,w⟩:=hr.obj j oj u;grind
 ·obtain⟨t,fz,x⟩:=hr.frz c cs a;grind
 ·have:=hr.le;rw[H.Ce,wc ae];exact hr.old c a k
 ·rw[H.Ce]at a;by_cases e:c=h.nx
  ·simp_all
  ·rw[wc e]at a;have:=hr.lt c p a;show c<h.nx+1;omega
 ·have:=hr.le;show B<=h.nx+1;omega
 ·rcases yc.1 a with a|a
  ·cases zf.1 a;refine⟨by simp,hr.le,fun id n e=>?_⟩;by_cases d:∃o,AS ob id=some o
   ·obtain⟨o,s⟩:=d;obtain⟨c,m,y,q,l,_⟩:=hr.obj id o s;grind
   ·have:AS ob id=none:=by
     cases z:AS ob id with
     |none=>rfl
     |some o=>grind
    rw[hr.dead id this]at e;cases e
  ·obtain⟨q,l,A⟩:=hr.pn c a;grind
theorem SR.ZK{ob:Ob}(hr:SR B h0 F ρ N ob h){b:Nat}{x y:O}(t:∀id o n,AS ob id=some o->ρ id≠some (b,n))(v:F b=none)(k:h0.dU B b)(u:b∉h0.pin)(p:h.get b=some x):SR B h0 F ρ N ob (h.put b y):=by
 refine⟨fun j oj s=>?_,hr.inj,fun c cs a=>?_,hr.own,hr.dead,fun c a d=>?_,fun c q a=>?_,hr.le,hr.fo,hr.gl,fun c a=>?_⟩
 ·obtain⟨c,m,y,g,l,i⟩:=hr.obj j oj s;have:c≠b:=ah;exact⟨c,m,y,g,by simp_all,i⟩
 ·have:c≠b:=ah;rw[H.B6,wc this];exact hr.frz c cs a
 ·have:c≠b:=OO k a d;rw[H.B6,wc this];exact hr.old c a d
 ·rw[H.B6]at a;split at a
  ·rename_i e;subst e;exact hr.lt _ _ p
  ·exact hr.lt c q a
 ·obtain⟨g,l,i⟩:=hr.pn c a;have r:c≠b:=ah;simp_all
theorem SR.leave{ob:Ob}:∀ {ps:List Nat} {h:H},ps.Nodup->(∀b∈ps,b∉h0.pin)->SR B (h0.pins ps) F ρ N ob h->∃a,Hs ps h=some a/\SR B h0 F ρ N ob a/\a.nx=h.nx/\∀b,b∉ps->a.get b=h.get b
 |[],h,_,_,hr=>⟨h,rfl,hr,rfl,fun _ _=>rfl⟩
 |p::ps,h,d,m,hr=>by
  obtain⟨g,e,o⟩:=hr.pn p (by simp[H0.pins]);rw[List.nodup_cons]at d;have c:SR B ((h0.pins ps).pins [p]) F ρ N ob h:=by exact hr
  have hp:SR B (h0.pins ps) F ρ N ob (h.put p<|.defd false):=by
   refine SR.ZK c.sG ah ?_ (.inl e) ?_ g
   ·cases i:F p with
    |none=>rfl
    |some cs=>obtain⟨t,fz,k⟩:=hr.frz p cs i;grind
   grind [H0.pins]
  obtain⟨a,q,l,n,j⟩:=SR.leave d.2 ah hp;simp_all [Hs]
theorem tT{st:AQ}{fr:Fr}(hr:Rel B h0 F ρ st fr h)(base:Nat)(x:Nat×Sh):∃F1 r,Rel B h0 F1 r (Aab base x st) fr h/\(Aab base x st).nx=st.nx/\(∀id,id<base->r id=ρ id)/\∀b cs,F b=some cs->F1 b=some cs:=by
 have p:=hr.fp.slot x.1;unfold Aab;split
 case h_1=>
  rename_i q;rw[q]at p;exact⟨F,ρ,hr.note (by rw[p];simp[PR,DC]),rfl,fun _ _=>rfl,fun _ _ h=>h⟩
 case h_4=>grind
 case h_3=>
  rename_i id q;cases R:yi base id with
  |false=>grind
  |true=>
  have R:=zw R;split
  case h_2=>grind
  rename_i ps C;split
  case h_2=>grind
  rename_i v U;rw[q]at p;obtain⟨b,n,y,D,h2,Y,V,-⟩:=hr.sr.at C;obtain⟨cs,t,fz,rfl,h4,h5⟩:=Y;have Z:F b=none:=V rfl;have a:∀c cs',F c=some cs'->(fun c=>if c=b then some cs else F c) c=some cs':=by
   grind
  have w:=(Df h4 U);have O:=w.len;have o:Le F ρ st.nx (fun c=>if c=b then some cs else F c) (BI ρ id none) st.nx:=(Le.gQ a).trans<|Le.JV id;have u:Le F (BI ρ id none) st.nx (fun c=>if c=b then some cs else F c) (BI ρ id none) st.nx:=Le.gQ a;have d:=hr.sr.del id;have T:∀j m,BI ρ id none j=some (b,m)->∀oj,AS (G1 st.ob id) j=some oj->False:=by
   intro j m k oj i;rw[DN]at i;split at i
   ·cases i
   ·rename_i S;simp only[BI,S,vf]at k;exact S<|hr.sr.inj j id oj _ b m n i C k D
  have G:SR B h0 (fun c=>if c=b then some cs else F c) (BI ρ id none) st.nx (G1 st.ob id) h:=by
   refine⟨fun j oj i=>?_,d.inj,fun c cs' A=>?_,d.own,d.dead,d.old,d.lt,d.le,fun c cs' A=>?_,d.gl,d.pn⟩
   ·obtain⟨c,m,z,k,E,M,g4,g5⟩:=d.obj j oj i;exact⟨c,m,z,k,E,M.mono u,ah,ah⟩
   ·split at A
    ·grind
    ·exact d.frz c cs' A
   ·split at A
    ·rename_i W;subst W;exact .inr (hr.sr.own id c n D).2
    ·exact d.fo c cs' A
  have g:Rel B h0 (fun c=>if c=b then some cs else F c) (BI ρ id none) (st.Gu id) fr h:=⟨⟨hr.fp.n,fun t=>(hr.fp.slot t).mono o⟩,G⟩;refine⟨_,_,g.note ?_,rfl,fun j i=>by unfold BI;grind,a⟩;have J:=p.2 b n D;exact⟨b,0,cs,by rw[J],by simp,by omega,by rw[List.drop_zero,List.take_of_length_le ae];exact w.mono a⟩
 rename_i id sz off len cap q;split
 case h_2=>grind
 rename_i fz e s l C;cases hz:zp sz s.sz with
 |false=>grind
 |true=>
 rw[q]at p;obtain⟨F1,k,E,M⟩:=NV hr.sr p;have I:BO st (.sl id sz off len cap)=st.setObj id (.arr true e s l):=by simp[BO,C]
 rw[I]at k;have o:Le F ρ st.nx F1 ρ st.nx:=⟨E,(by simp),zg _⟩;have P:off+len<=l.length:=by
  obtain⟨b,n,y,D,_,⟨_,_,_,_,_,h6⟩,-⟩:=hr.sr.at C;grind [PR]
 have L:B4 st (.sl id sz off len cap)=some (true,.dat (.list s)<|(l.drop off).take len):=by
  simp_all [B4]
 have K:=M _ L;have g:Rel B h0 F1 ρ (st.setObj id<|.arr true e s l) fr h:=⟨⟨hr.fp.n,fun t=>(hr.fp.slot t).mono o⟩,k⟩;exact⟨F1,ρ,g.note<|K ρ _,rfl,fun _ _=>rfl,E⟩
theorem Xh{fr:Fr}(base:Nat):∀(l:List (Nat×Sh)) {st:AQ} {F:Fz} {ρ:EA},Rel B h0 F ρ st fr h->∃F1 a,Rel B h0 F1 a (pA base l st) fr h/\(pA base l st).nx=st.nx/\(∀id,id<base->a id=ρ id)/\∀b cs,F b=some cs->F1 b=some cs
 |[],st,F,ρ,hr=>⟨F,ρ,hr,rfl,fun _ _=>rfl,fun _ _ h=>h⟩
 |x::l,st,F,ρ,hr=>by
  obtain⟨F1,a,c,g,d,e⟩:=tT hr base x;obtain⟨F2,ρ2,h4,h5,h0'',h6⟩:=Xh base l c;grind [pA]
theorem PA{st:AQ}{fr:Fr}{base:Nat}(hr:Rel B h0 F ρ st fr h)(f:FuncId)(r:Nat)(g:base<=st.nx):
  ∃F1 ρ',Rel B h0 F1 ρ' (Nf X f r base st) fr h/\base<=(Nf X f r base st).nx/\(∀id,id<base->ρ' id=ρ id)/\∀b cs,F b=some cs->F1 b=some cs:=by
 obtain⟨F1,d,a,i,c,e⟩:=Xh base (X.fz f r) hr;obtain⟨ρ',g1,g2,g3⟩:=eG a base (X.pl f r) ae;grind [Nf]
def Hn(B:Nat)(h0:H0)(X:AL)(base n:Nat)(Q:PV->Ob->Prop)(k:DX->AQ->Tr)(F:Fz)(ρ:EA)(h:H)(nd:Bool)(run:Nat->Nat->Option (List yh))(ds:List Nat):Prop:=
 ∃l M,(∀m,M<=m->∀q,M<=q->run m q=some l)/\(nd=false->∃x,l=[x])/\∀x∈l,∃ps,(x.ds=ps++ds/\ps.Nodup/\∀b∈ps,h.nx<=b)/\∃n',n'<=n/\∃a,Ev X Q n' (k x.e a)/\∃F' ρ',Rel B (h0.pins ps) F' ρ' a x.fr x.h/\base<=a.nx/\Le F ρ base F' ρ' base/\h.nx<=x.h.nx
theorem Le.low{F F':Fz}{ρ ρ':EA}{N N' base:Nat}(a:Le F ρ N F' ρ' N')(b:base<=N):Le F ρ base F' ρ' base:=
 ⟨a.fz,fun id h=>a.rho id ae,zg _⟩
theorem Po{nd ro:Bool}{d:Nat}{f:FuncId}{base:Nat}{rv:Option Nat}{ct:Bool}(hrv:ro=false->rv=none/\ct=true)(hcall:∀h0,FR B h0 X nd<|Cy X nd d)(hcallD:∀h0,FR B h0 X false<|Cy X false d){Q:PV->Ob->Prop}:∀(n:Nat) (c:Code) {h0:H0} {st:AQ} {k:DX->AQ->Tr} {F:Fz} {ρ:EA} {fr:Fr} {h:H} (ds:List Nat),base<=st.nx->Rel B h0 F ρ st fr h->
  Ev X Q n (exec X (Cy X nd d) (Cy X false d) nd ro d f base c st k)->Hn B h0 X base n Q k F ρ h nd (fun m q=>BP X.C (Bi X.C m) rv ct q c fr h ds) ds:=by
 intro n;induction n using Nat.strongRecOn with
 |_ n IH=>
 have one:∀ {h0:H0} {e:DX} {st:AQ} {k:DX->AQ->Tr} {F:Fz} {ρ:EA} {fr:Fr} {h:H} {ds:List Nat} {c:Code},base<=st.nx->Rel B h0 F ρ st fr h->Ev X Q n (k e st)->(∀m q,1<=q->BP X.C (Bi X.C m) rv ct q c fr h ds=some [⟨e,fr,h,ds⟩])->
   Hn B h0 X base n Q k F ρ h nd (fun m q=>BP X.C (Bi X.C m) rv ct q c fr h ds) ds:=by
  intro h0 e st k F ρ fr h ds c A hr v hd;exact⟨[⟨e,fr,h,ds⟩],1,ah,(by simp),fun x K=>by
   cases zf.1 K;exact⟨[],(by simp),n,zg _,st,v,F,ρ,hr,A,yb,zg _⟩⟩
 have D:∀ {q:Nat},1<=q->∃q',q=q'+1:=fun h=>⟨_,(Nat.succ_pred_eq_of_pos h).symm⟩
 have chain:∀ {h0:H0} {F:Fz} {ρ:EA} {h:H} {ds:List Nat} {k k2:DX->AQ->Tr} {n1:Nat} {run:Nat->Nat->Option (List yh)} {run2:Nat->Nat->yh->Option (List yh)},n1<=n->Hn B h0 X base n1 Q k2 F ρ h nd run ds->
   (∀(x:yh) (ps:List Nat),∀n1',n1'<=n1->∀u,Ev X Q n1' (k2 x.e u)->∀F' ρ',Rel B (h0.pins ps) F' ρ' u x.fr x.h->base<=u.nx->Hn B (h0.pins ps) X base n Q k F' ρ' x.h nd (fun m q=>run2 m q x) x.ds)->
   Hn B h0 X base n Q k F ρ h nd (fun m q=>match run m q with|some l=>bl l (run2 m q)|none=>none) ds:=by
  rintro h0 F ρ h ds k k2 n1 run run2 W ⟨l,M,E,Z,h3⟩ hnext;obtain⟨r,M2,g1,g2,g3⟩:=Kp (f:=run2) (P:=fun x=>∃ps,(x.ds=ps++ds/\ps.Nodup/\∀b∈ps,h.nx<=b)/\∃n',n'<=n/\∃u,Ev X Q n' (k x.e u)/\∃F' ρ',Rel B (h0.pins ps) F' ρ' u x.fr x.h/\base<=u.nx/\Le F ρ base F' ρ' base/\h.nx<=x.h.nx) Z fun x K=>by
   obtain⟨ps1,⟨k0,kn,kl⟩,n',k1,u,k2',F',ρ',k3,k4,k5,k6⟩:=h3 x K;obtain⟨r,M,j1,j2,j3⟩:=hnext x ps1 n' k1 u k2' F' ρ' k3 k4;refine⟨r,M,j1,j2,fun y hy=>?_⟩;obtain⟨ps2,⟨i0,i0n,i0l⟩,n2,i1,U,i2,F2,S,i3,i4,i5,i6⟩:=j3 y hy;refine⟨ps2++ps1,⟨by grind,?_,fun b A=>?_⟩,n2,i1,U,i2,F2,S,by grind [eQ],i4,k5.trans i5,ae⟩
   ·rw[List.nodup_append];refine⟨i0n,kn,fun a ha b A e=>?_⟩;have E:=i0l a ha;have Z:=k3.sr.lt b _ (k3.sr.pn b<|List.mem_append_left _ A).1;omega
   grind
  exact⟨r,max M M2,ah,g2,g3⟩
 have stepq:∀ {h0:H0} {F:Fz} {ρ:EA} {h:H} {ds:List Nat} {k:DX->AQ->Tr} {run run':Nat->Nat->Option (List yh)},Hn B h0 X base n Q k F ρ h nd run ds->(∀m q,run' m (q+1)=run m q)->Hn B h0 X base n Q k F ρ h nd run' ds:=by
  rintro h0 F ρ h ds k run run' ⟨l,M,E,Z,h3⟩ v;refine⟨l,M+1,fun m hm q V=>?_,Z,h3⟩;obtain⟨q',rfl⟩:=D (show 1<=q by omega);grind
 intro c;induction c with
 |skip=>
  intro h0 st k F ρ fr h ds A hr v;exact one A hr v (fun m q V=>by obtain⟨q',rfl⟩:=D V;rfl)
 |label l=>
  intro h0 st k F ρ fr h ds A hr v;exact one A hr v (fun m q V=>by obtain⟨q',rfl⟩:=D V;rfl)
 |exit i=>
  intro h0 st k F ρ fr h ds A hr v;exact one A hr v (fun m q V=>by obtain⟨q',rfl⟩:=D V;rfl)
 |ret=>
  intro h0 st k F ρ fr h ds A hr v;exact one A hr v (fun m q V=>by obtain⟨q',rfl⟩:=D V;rfl)
 |region id ops dr=>
  intro h0 st k F ρ fr h ds A hr v;unfold exec at v;cases dr with
  |true=>
   simp only[we]at v;cases hst:(!ro||IE ops (Ff ops))with
   |false=>grind [zo]
   |true=>
   rw[hst]at v;simp only[we]at v;have hdd:∀call,(bif ct then I8 X.C call ops fr h else Ww X.C call ops fr h)=I8 X.C call ops fr h:=by
    intro call;cases hro:ro with
    |false=>grind
    |true=>
     rw[hro]at hst;have hst:IE ops (Ff ops)=true:=hst;simp_all [Ww]
   obtain⟨n',hn,u,w,F',ρ',fr',h',J,M,hM⟩:=eH (hcallD h0) hr v;refine⟨[⟨.normal,fr',h',ds⟩],M+1,fun m hm q V=>?_,(by simp),fun x K=>?_⟩
   ·obtain⟨q',rfl⟩:=D (show 1<=q by omega);have:=hM m ae;simp only[BP,we];grind
   ·cases zf.1 K;exact⟨[],(by simp),n',hn,u,w,F',ρ',J.rel,zm A J.le.n,J.le.low A,J.nx⟩
  |false=>
   simp only[wg]at v;obtain⟨r,M,hM,hone,hall⟩:=W4 (hcall h0) hr v;refine⟨r.map fun x=>⟨.normal,x.1,x.2,ds⟩,M+1,fun m hm q V=>?_,fun e=>?_,fun x K=>?_⟩
   ·obtain⟨q',rfl⟩:=D (show 1<=q by omega);simp only[BP,wg,hM m ae]
   ·obtain⟨y,rfl⟩:=hone e;simp
   ·obtain⟨y,hy,rfl⟩:=yg.1 K;obtain⟨n',hn,u,w,F',ρ',J⟩:=hall y hy;exact⟨[],(by simp),n',hn,u,w,F',ρ',J.rel,zm A J.le.n,J.le.low A,J.nx⟩
 |seq a b iha ihb=>
  intro h0 st k F ρ fr h ds A hr v;unfold exec at v;refine stepq (chain (run2:=fun m q x=>match x.e with| .normal=>BP X.C (Bi X.C m) rv ct q b x.fr x.h x.ds|_=>some [x]) ae (iha ds A hr v) fun x ps1 n1 W u w F' ρ' R Y=>?_)<|fun m q=>rfl;obtain⟨e,T,E,G⟩:=x;cases e with
  |normal=>
   have rest:∀ {U:AQ} {F2:Fz} {S:EA} {n2:Nat},n2<=n->Rel B (h0.pins ps1) F2 S U T E->base<=U.nx->(∀id,id<base->S id=ρ' id)->(∀b cs,F' b=some cs->F2 b=some cs)->Ev X Q n2 (exec X (Cy X nd d) (Cy X false d) nd ro d f base b U k)->
     Hn B (h0.pins ps1) X base n Q k F' ρ' E nd (fun m q=>BP X.C (Bi X.C m) rv ct q b T E G) G:=by
    intro U F2 S n2 hn2 hr2 hb2 hρ2 hF2 I;have hl0:Le F' ρ' base F2 S base:=⟨hF2,ah,zg _⟩;have hc:Hn B (h0.pins ps1) X base n Q k F2 S E nd (fun m q=>BP X.C (Bi X.C m) rv ct q b T E G) G:=by
     by_cases hlt:n2<n
     ·obtain⟨l,M,E,Z,h3⟩:=IH n2 hlt b G hb2 hr2 I;exact⟨l,M,E,Z,ah⟩
     grind
    obtain⟨l,M,E,Z,h3⟩:=hc;exact⟨l,M,E,Z,fun x K=>by
     obtain⟨ps,k0,n3,k1,st3,k2,F3,ρ3,k3,k4,k5,k6⟩:=h3 x K;exact⟨ps,k0,n3,k1,st3,k2,F3,ρ3,k3,k4,hl0.trans k5,k6⟩⟩
   simp only at w;cases hct:X.ct f (BR b)with
   |false=>grind
   |true=>
    rw[hct]at w;simp only[we]at w;cases w with
    |cut w=>
     obtain⟨F2,ρ0,hr0,hb0,hρ0,hF⟩:=PA R f (BR b) Y;exact rest W hr0 hb0 hρ0 hF w
  |exit i=>exact⟨[⟨.exit i,T,E,G⟩],0,(by simp),(by simp),fun x K=>by cases zf.1 K;exact⟨[],(by simp),n1,W,u,w,F',ρ',R,Y,yb,zg _⟩⟩
  |ret=>exact⟨[⟨.ret,T,E,G⟩],0,(by simp),(by simp),fun x K=>by cases zf.1 K;exact⟨[],(by simp),n1,W,u,w,F',ρ',R,Y,yb,zg _⟩⟩
 |cond x a b iha ihb=>
  intro h0 st k F ρ fr h ds A hr v;unfold exec at v;have go:∀ {t:Bool} {u:AQ},ev X.C fr x=some (.bool t)->Rel B h0 F ρ u fr h->base<=u.nx->Ev X Q n (bif t then exec X (Cy X nd d) (Cy X false d) nd ro d f base a u k else exec X (Cy X nd d) (Cy X false d) nd ro d f base b u k)->Hn B h0 X base n Q k F ρ h nd (fun m q=>BP X.C (Bi X.C m) rv ct q (.cond x a b) fr h ds) ds:=by
   grind [BP]
  split at v
  case h_4=>grind [zo]
  case h_3=>
   rename_i ht;obtain⟨y,g1,g2⟩:=Cn (C:=X.C) hr.fp ht;simp only[PR]at g2;obtain⟨t,rfl⟩:=g2;split at v
   case h_2=>grind [zo]
   rename_i s;have hs:fr.get s=.bool t:=by simpa [ev]using g1
   obtain⟨w,I⟩:=v.VC;cases t with
   |true=>exact go g1 (hr.note<|by rw[hs];rfl) A w
   |false=>exact go g1 (hr.note<|by rw[hs];rfl) A I
  case h_1=>
   rename_i t ht;obtain⟨y,g1,g2⟩:=Cn (C:=X.C) hr.fp ht;obtain rfl:=Qc g2;grind
  case h_2=>
   rename_i t ht;obtain⟨y,g1,g2⟩:=Cn (C:=X.C) hr.fp ht;obtain rfl:=LJ g2;split at v
   case h_1=>
    rename_i s;have hs:fr.get s=.bool t:=by simpa [ev]using g1
    rcases v.Fh with⟨L,I⟩|⟨L,I⟩
    ·have L:t=true:=L;subst L;exact go g1 (hr.note<|by rw[hs];rfl) A I
    ·have L:t=false:=L;subst L;exact go g1 (hr.note<|by rw[hs];rfl) A I
   case h_2=>
    rcases v.Fh with⟨L,I⟩|⟨L,I⟩
    ·grind
    grind
 |block id b ih=>
  intro h0 st k F ρ fr h ds A hr v;unfold exec at v;obtain⟨l,M,E,Z,h3⟩:=ih ds A hr v;refine⟨l.map fun x=>match x.e with
    | .exit i=>bif zp i id then { x with e:=.normal }else x
    |_=>x,M+1,fun m hm q V=>?_,fun e=>?_,fun y hy=>?_⟩
  ·obtain⟨q',rfl⟩:=D (show 1<=q by omega);grind [BP]
  ·grind
  grind
 |loop b ih=>
  intro h0 st k F ρ fr h ds A hr v;unfold exec at v;cases v with
  |@loop n0 _ _ _ _ _ _ _ _ v=>
  obtain⟨F0,ρ0,hr0,hb0,hρ0,hF0⟩:=PA hr f (BR b) A;have hl0:Le F ρ base F0 ρ0 base:=⟨hF0,ah,zg _⟩;unfold body at v;have hbody:=IH n0 (Nat.lt_succ_self _) b ds hb0 hr0 v;have hch:Hn B h0 X base (n0+1) Q k F0 ρ0 h nd (fun m q=>match BP X.C (Bi X.C m) rv ct q b fr h ds with|some l=>bl l (fun x=>match x.e with| .normal=>BP X.C (Bi X.C m) rv ct q (.loop b) x.fr x.h x.ds|_=>some [x])|none=>none) ds:=by
   refine chain (run2:=fun m q x=>match x.e with| .normal=>BP X.C (Bi X.C m) rv ct q (.loop b) x.fr x.h x.ds|_=>some [x]) ae hbody fun x ps1 n1 W u w F' ρ' R Y=>?_
   obtain⟨e,T,E,G⟩:=x;cases e with
   |normal=>
    have he1':Ev X Q n1 (exec X (Cy X nd d) (Cy X false d) nd ro d f base (.loop b) u k):=by unfold exec;exact w
    obtain⟨l,M,E,Z,h3⟩:=IH n1 ae (.loop b) G Y R he1';exact⟨l,M,E,Z,ah⟩
   |exit i=>exact⟨[⟨.exit i,T,E,G⟩],0,(by simp),(by simp),fun x K=>by cases zf.1 K;exact⟨[],(by simp),n1,by omega,u,w,F',ρ',R,Y,yb,zg _⟩⟩
   |ret=>exact⟨[⟨.ret,T,E,G⟩],0,(by simp),(by simp),fun x K=>by cases zf.1 K;exact⟨[],(by simp),n1,by omega,u,w,F',ρ',R,Y,yb,zg _⟩⟩
  obtain⟨l,M,g1,g2,g3⟩:=stepq (run':=fun m q=>BP X.C (Bi X.C m) rv ct q (.loop b) fr h ds) hch<|fun m q=>rfl;refine⟨l,M,g1,g2,fun x K=>?_⟩;obtain⟨ps,k0,n2,k1,U,k2,F2,S,k3,k4,k5,k6⟩:=g3 x K;exact⟨ps,k0,n2,k1,U,k2,F2,S,k3,k4,hl0.trans k5,k6⟩
 |scope b ih=>
  intro h0 st k F ρ fr h ds A hr v;unfold exec at v;exact stepq (ih ds A hr v)<|fun m q=>rfl
 |rangeFunc g ps a b _ _=>
  intro h0 st k F ρ fr h ds A hr v;unfold exec at v;cases hro:ro with
  |true=>grind [zo]
  |false=>
  rw[hro]at v;obtain⟨rfl,rfl⟩:=hrv hro;simp only[wg]at v;split at v
  case h_2=>grind [zo]
  rename_i gf first cap hg
  obtain⟨pq,hprim⟩:∃pq,X.C.prim gf=pq:=⟨_,rfl⟩;cases pq with
  |some q0=>grind [zo]
  |none=>
  rw[hprim]at v;simp only[Option.isSome_none,wg]at v;obtain⟨gv,g1,g2⟩:=Cn (C:=X.C) hr.fp hg;simp only[PR]at g2;obtain⟨fa,fb,rfl,f1,f2⟩:=g2;have R:=hr.sr.mark;have hr2:=R.push (o:=.lp f (BR b) ps a b .ready st.n<|LR X f (BR b) st) (x:=.loop ⟨.ready,none,fr,ps,a,b,h.nx⟩) (n:=0) rfl
   ⟨_,rfl,rfl,rfl,rfl,⟨rfl,rfl⟩,hr.fp.n.symm,fun t=>by
    have hl:=Le.new (F:=F) (ρ:=ρ) (N:=st.nx) ((h.push<|.defd true).nx,0);unfold Qv LR;cases hp:(Fl<|(X.pl f<|BR b).map fun t=>(t,st.get t)).get t with
    |none=>simp[PR]
    |some p=>
     rcases GX _ .leaf t p hp with E|E
     ·simp only[yg]at E;obtain⟨s,_,Z⟩:=E;cases Z;exact(hr.fp.slot _).mono hl
     ·simp at E⟩
  have hle2:Le F ρ st.nx F (BI ρ st.nx<|some (h.nx+1,0)) (st.nx+1):=Le.new _;have hrel2:Rel B (h0.pins [h.nx]) F (BI ρ st.nx<|some (h.nx+1,0)) (st.push<|.lp f (BR b) ps a b .ready st.n<|LR X f (BR b) st) fr ((h.push<|.defd true).push<|.loop ⟨.ready,none,fr,ps,a,b,h.nx⟩):=
   ⟨⟨hr.fp.n,fun t=>(hr.fp.slot t).mono hle2⟩,hr2⟩
  have hargs:BJ F (BI ρ st.nx<|some (h.nx+1,0)) (st.push<|.lp f (BR b) ps a b .ready st.n<|LR X f (BR b) st).nx (first++[.yl st.nx]++cap) (fa++[.yld<|h.nx+1]++fb):=by
   refine((f1.mono hle2).append ?_).append<|f2.mono hle2;simp only[Bo,CH,ve,PR];exact⟨ae,(by grind [BI])⟩
  obtain⟨l,hcd,hone,hall⟩:=hcall _ v hrel2 hargs;obtain⟨i,M,hfn,hM⟩:∃i M,X.C.fn gf=some i/\∀m,M<=m->Bi X.C m (.fn gf<|fa++[.yld<|h.nx+1]++fb) ((h.push<|.defd true).push<|.loop ⟨.ready,none,fr,ps,a,b,h.nx⟩)=some l:=by
   cases hcd with
   |Bi hc hM=>obtain⟨rfl,_,i,hfn⟩:=hc;exact⟨i,_,hfn,hM⟩
   |prim V _=>grind
  have hdc:IG X.C ((h.push<|.defd true).push<|.loop ⟨.ready,none,fr,ps,a,b,h.nx⟩) (.fn (.func gf) fa fb) [.yld<|h.nx+1]=some (.enter gf<|fa++[.yld<|h.nx+1]++fb):=by
   grind [IG]
  have fin:∀x∈l,∃(r:List yh) (M:Nat),(∀m:Nat,M<=m->∀q:Nat,M<=q->(match x.2.get (h.nx+1)with
      |some (.loop ls)=>match ls.st,ls.pend with
       | .busy,_=>none
       |_,none=>some [⟨.normal,fr,x.2.put (h.nx+1)<|.loop { ls with st:=.exhausted },h.nx::ds⟩]
       |_,some c=>BP X.C (Bi X.C m) none false q c fr (x.2.put (h.nx+1)<|.loop { ls with st:=.exhausted }) (h.nx::ds)
      |_=>none)=some r)/\(nd=false->∃x,r=[x])/\∀y∈r,∃ps,(y.ds=ps++ds/\ps.Nodup/\∀b∈ps,h.nx<=b)/\∃n',n'<=n/\∃u,Ev X Q n' (k y.e u)/\∃F' ρ',Rel B (h0.pins ps) F' ρ' u y.fr y.h/\base<=u.nx/\Le F ρ base F' ρ' base/\h.nx<=y.h.nx:=by
   intro x K;obtain⟨n1,W,r,st',w,F',ρ',_,J,_⟩:=hall x K;split at w
   case h_2=>grind [zo]
   rename_i f' r' ps' asg' body' s n' sl hob;obtain⟨bb,nn,y,k1,k2,⟨ls,rfl,-,-,-,hlp,-⟩,-⟩:=J.rel.sr.at hob;have hN:st.nx<st.nx+1:=ae;have kk:BI ρ st.nx (some (h.nx+1,0)) st.nx=some (bb,nn):=J.le.at hN k1;simp only[BI,wk,zq,yd]at kk;obtain⟨rfl,rfl⟩:=kk;have hpin:∀p∈(h0.pins [h.nx]).pin,h.nx+1≠p:=fun p hp e=>(J.rel.sr.pn p hp).2.2 _ _<|e▸k1
   have hdel:=J.rel.sr.del st.nx;have hput:∀z:O,Rel B (h0.pins [h.nx]) F' (BI ρ' st.nx none) (st'.Gu st.nx) fr (x.2.put (h.nx+1) z):=by
    intro z;have hl:Le F' ρ' st'.nx F' (BI ρ' st.nx none) st'.nx:=Le.JV _;refine⟨⟨J.rel.fp.n,fun t=>(J.rel.fp.slot t).mono hl⟩,?_⟩;refine hdel.ZK (fun id o m ho e=>?_) ?_ (J.rel.sr.own _ _ _ k1).2 (fun hp=>hpin _ hp rfl) k2
    ·rw[DN]at ho;split at ho
     ·cases ho
     ·rename_i hne;simp only[BI,hne,vf]at e;exact hne<|J.rel.sr.inj id st.nx o _ _ m 0 ho hob e k1
    ·cases hF:F' (h.nx+1)with
     |none=>rfl
     |some cs=>obtain⟨t,fz,g⟩:=J.rel.sr.frz _ cs hF;rw[k2]at g;cases g
   have hbase:base<=(st'.Gu st.nx).nx:=zm A<|zm (Nat.le_succ _) J.le.n;have hLe:Le F ρ base F' (BI ρ' st.nx none) base:=by
    refine(hle2.low A).trans<|(J.le.low<|zm A<|Nat.le_succ _).trans ?_;exact(Le.JV (F:=F') (ρ:=ρ') (N:=base) st.nx)
   have hnx:h.nx<=x.2.nx:=zm (by show h.nx<=h.nx+1+1;omega) J.nx;have done:∀ {e:DX} {z:O},Ev X Q n1 (k e<|st'.Gu st.nx)->∃ps,((⟨e,fr,x.2.put (h.nx+1) z,h.nx::ds⟩:yh).ds=ps++ds/\ps.Nodup/\∀b∈ps,h.nx<=b)/\∃n',n'<=n/\∃u,Ev X Q n' (k e u)/\∃F' ρ',Rel B (h0.pins ps) F' ρ' u fr (x.2.put (h.nx+1) z)/\base<=u.nx/\Le F ρ base F' ρ' base/\h.nx<=(x.2.put (h.nx+1) z).nx:=by
    intro e z I;exact⟨[h.nx],⟨rfl,(by simp),fun b A=>by cases zf.1 A;exact zg _⟩,n1,W,_,I,F',_,hput z,hbase,hLe,hnx⟩
   obtain⟨lst,lpend,lfr,lps,lasg,lbody,ldb⟩:=ls;simp only at hlp;split at w
   case h_1=>
    obtain⟨rfl,rfl⟩:=hlp;exact⟨[⟨.normal,fr,x.2.put (h.nx+1)<|.loop ⟨.exhausted,none,lfr,lps,lasg,lbody,ldb⟩,h.nx::ds⟩],0,fun m _ q _=>(by simp only[k2]),fun _=>⟨_,rfl⟩,fun y hy=>by cases zf.1 hy;exact done w⟩
   case h_2=>
    obtain⟨rfl,rfl⟩:=hlp;exact⟨[⟨.ret,fr,x.2.put (h.nx+1)<|.loop ⟨.exhausted,some .ret,lfr,lps,lasg,lbody,ldb⟩,h.nx::ds⟩],1,fun m _ q V=>(by obtain⟨q',rfl⟩:=D V;simp only[k2,BP]),fun _=>⟨_,rfl⟩,fun y hy=>by cases zf.1 hy;exact done w⟩
   case h_3=>
    rename_i j;obtain⟨rfl,rfl⟩:=hlp;exact⟨[⟨.exit j,fr,x.2.put (h.nx+1)<|.loop ⟨.exhausted,some<|.exit j,lfr,lps,lasg,lbody,ldb⟩,h.nx::ds⟩],1,fun m _ q V=>(by obtain⟨q',rfl⟩:=D V;simp only[k2,BP]),fun _=>⟨_,rfl⟩,fun y hy=>by cases zf.1 hy;exact done w⟩
   case h_4=>exact wh w zo
  obtain⟨r,M2,j1,j2,j3⟩:=Kp hone fin;refine⟨r,max M M2+1,fun m hm q V=>?_,j2,j3⟩;obtain⟨q',rfl⟩:=D (show 1<=q by omega);have E:=hM m ae;have Z:=j1 m ae q' ae;simp only[BP,Up,g1];show(match IG X.C ((h.push<|.defd true).push<|.loop ⟨.ready,none,fr,ps,a,b,h.nx⟩) (.fn (.func gf) fa fb) [.yld<|h.nx+1]with|some (.enter f args)=>_|_=>none)=_;rw[hdc];simp only[E];exact Z
 |goto l=>intro h0 st k F ρ fr h ds A hr v;exact wh v zo
 |refuse s=>intro h0 st k F ρ fr h ds A hr v;exact wh v zo
end
section
variable {B:Nat}{h0:H0}{X:AL}{F:Fz}{ρ:EA}{N:Nat}{st st':AQ}{fr:Fr}{h:H}
theorem MN:∀ {ps:List PV} {i t:Nat} {p:PV},(t,p)∈FM ps i->∃k,t=i+k/\ps[k]?=some p
 |[],i,t,p,h=>by cases h
 |q::ps,i,t,p,h=>by
  rcases List.mem_cons.1 h with h|h
  ·simp_all
  ·obtain⟨k,a,b⟩:=MN h;exact⟨k+1,by grind,by grind⟩
theorem xG{ps:List PV}{vs:List V}(hp:BJ F ρ N ps vs)(n:Nat)(ob:Ob)(nx:Nat)(_hnx:nx=N):FP F ρ N (Aw (zx ps.length<|Nat.sub n ps.length) (FM ps 0) ob nx) (Ol n vs):=by
 refine⟨by show ps.length+(n-ps.length)=vs.length+(n-vs.length);rw[hp.len],fun t=>?_⟩;show PR F ρ N (((Fl<|FM ps 0).get t).getD .any) _;cases e:(Fl<|FM ps 0).get t with
 |none=>grind [PR]
 |some p=>
  rcases GX _ .leaf t p e with a|a
  ·obtain⟨k,i,d⟩:=MN a;obtain rfl:t=k:=ae
   obtain⟨v,b,g⟩:=hp.get d;have c:=(zi.1 b).1;unfold Ol Fr.get;rw[M8,wd ae,Nat.sub_zero,b];exact g
  simp_all
theorem jH{T:Cg}{st s:AQ}{t:TypeId}{a p:PV}(h:(NZ T st t a).To p s):s=st:=by
 unfold NZ at h;split at h
 case h_2=>simp_all
 split at h
 case h_4=>simp_all
 ·split at h
  case h_4=>simp_all
  case h_3=>simp_all
  ·simp_all
  ·rename_i b l _;cases c:(zp _ 0&&zp b.sz 1)with
   |false=>rw[c]at h;simp_all
   |true=>simp_all
 ·split at h
  case h_2=>simp_all
  rename_i sz j off _ _ _ b l _;cases c:(zp sz b.sz)with
  |false=>simp_all
  |true=>simp_all
 simp_all
theorem QH{Q:PV->Ob->Prop}{n:Nat}{t:Tr}:∀ {cs:List Bool},Ev X Q n (TX cs t)->(∀c∈cs,c=true)/\Ev X Q n t
 |[],h=>⟨(by simp),h⟩
 |c::cs,h=>by
  rcases h.Fh with⟨d,a⟩|⟨_,a⟩
  ·obtain⟨e,b⟩:=QH a;grind
  grind [zo]
theorem VB:∀ {i:List ResultVar} {ps:List PV} {F:Fz} {ρ:EA},Rel B h0 F ρ st fr h->tA X.C.T st i=some ps->(∀c∈N3 X.C.T st i,c=true)->
  ∃vs F' ρ',Rv X.C fr h i=some vs/\BJ F' ρ' st.nx ps vs/\Rel B h0 F' ρ' st fr h/\Le F ρ st.nx F' ρ' st.nx
 |[],ps,F,ρ,hr,hp,_=>by cases hp;exact⟨[],F,ρ,rfl,by simp,hr,yb⟩
 |r::i,ps,F,ρ,hr,hp,e=>by
  unfold tA at hp;split at hp
  case h_2=>cases hp
  rename_i p l g z;cases hp;have key:∃v F1 d,aR X.C fr h r=some v/\PR F1 d st.nx p v/\Rel B h0 F1 d st fr h/\Le F ρ st.nx F1 d st.nx:=by
   cases r with
   |tmp t=>
    simp only[iR,zq]at g;subst g;exact⟨_,F,ρ,rfl,hr.fp.slot t,hr,yb⟩
   |cell a t=>
    have j:∃s,(NZ X.C.T st t<|st.get a).To p s:=by
     simp only[iR]at g;split at g
     case h_3=>cases g
     ·simp_all
     ·rename_i c u s n;cases g;refine⟨s,?_⟩;have:=e c (by grind [N3]);rw[n,this];show(PO.IV true p s).To p s;simp
    obtain⟨s,j⟩:=j;have q:s=st:=jH j;subst q;obtain⟨v',h',F',ρ',b,g2,g3,g4,g5,g6,g7,g8⟩:=qL (C:=X.C) hr.sr (hr.fp.slot a) j;cases k:FC X.C.T h t (fr.get a)with
    |none=>rw[k]at b;rcases b with b|⟨b,_⟩<;>cases b
    |some w=>
     rw[k]at b;rcases b with b|⟨b,_⟩
     ·simp only[BU,zq,OR.val.injEq]at b;obtain⟨rfl,rfl⟩:=b;exact⟨w,F',ρ',k,g2,⟨hr.fp.mono g4,g3⟩,g4⟩
     ·cases b
  obtain⟨v,F1,d,A,o,y,m⟩:=key;obtain⟨vs,F2,ρ2,k5,k6,k7,k8⟩:=VB y z (fun c x=>e c<|by
   cases r with
   |tmp t=>exact x
   |cell a t=>
    grind [N3])
  exact⟨v::vs,F2,ρ2,by simp[Rv,A,k5],by simp only[Bo];exact⟨o.mono k8,k6⟩,k7,m.trans k8⟩
theorem Ke{nd:Bool}{d:Nat}(y:∀h0,FR B h0 X nd<|Cy X nd d)(s:∀h0,FR B h0 X false<|Cy X false d)(hmg:X.C.mg=false){g:FuncId}(hsp:X.C.spec g=none)(hprim:X.C.prim g=none)(hno:X.sp g=none){Q:PV->Ob->Prop}{n:Nat}{args:List PV}{k:PV->AQ->Tr}{args':List V}
  (D:Ev X Q n (enter X (Cy X nd d) (Cy X false d) nd d g args st k)) (hr:Rel B h0 F ρ st fr h) (ha:BJ F ρ st.nx args args'):
  (X.C.prim g=none/\∃i,X.C.fn g=some i)/\∃l M,(∀m,M<=m->Bi X.C m (.fn g args') h=some l)/\(nd=false->∃x,l=[x])/\
   ∀x∈l,∃n',n'<=n/\∃r st',Ev X Q n' (k r st')/\∃F' ρ',PR F' ρ' st'.nx r x.1/\DD B h0 F ρ st.nx h st' fr x.2 F' ρ'/\(∀sp,X.sp g=some sp->∀b,b<h.nx->x.2.get b=h.get b):=by
 unfold enter at D;split at D
 case h_1=>grind [zo]
 rename_i i hi;cases hc:i.cert with
 |false=>grind [zo]
 |true=>
  rw[hc]at D;simp only[we]at D;have Z:Rel B h0 F ρ (Aw (zx args.length<|Nat.sub i.ntmps args.length) (FM args 0) st.ob st.nx) (Ol i.ntmps args') h:=⟨xG ha i.ntmps st.ob st.nx rfl,hr.sr⟩;obtain⟨l,M,hM,E,K⟩:=Po (ro:=false) (rv:=none) (ct:=true) (by simp) y s n i.body (st:=Aw (zx args.length<|Nat.sub i.ntmps args.length) (FM args 0) st.ob st.nx) [] (zg st.nx) Z D;have fin:∀x∈l,∃(r:List (V×H)) (M:Nat),(∀m:Nat,M<=m->∀q:Nat,M<=q->(match x.e with
      | .exit _=>none
      |_=>match Hs x.ds x.h with
       |some a=>match RJ X.C x.fr a i.results.toList with
        |some v=>some [(v,a)]
        |none=>none
       |none=>none)=some r)/\(nd=false->∃x,r=[x])/\∀x∈r,∃n',n'<=n/\∃r st',Ev X Q n' (k r st')/\∃F' ρ',PR F' ρ' st'.nx r x.1/\DD B h0 F ρ st.nx h st' fr x.2 F' ρ'/\(∀sp,X.sp g=some sp->∀b,b<h.nx->x.2.get b=h.get b):=by
   intro x hx;obtain⟨ps,⟨hds,u,hge⟩,n1,S,c,I,F1,ρ1,w,W,J,hx1'⟩:=K x hx;obtain⟨e,fr1,hx0,ds1⟩:=x;obtain⟨a,hlv,hsr1,hnx1,_⟩:=SR.leave u (fun b U hp=>by
    have k1:=hge b U;have k2:=hr.sr.lt b _ (hr.sr.pn b hp).1;omega) w.sr
   have hr1:Rel B h0 F1 ρ1 c fr1 a:=⟨w.fp,hsr1⟩;have hx1:h.nx<=a.nx:=ae
   have go:(∀j,e≠ .exit j)->Ev X Q n1 (match tA X.C.T c i.results.toList with|some vs=>TX (N3 X.C.T c i.results.toList) (k (Go.Pe.one vs) ⟨st.n,st.fr,c.ob,c.nx⟩)|none=>.fail)->
     ∃v',RJ X.C fr1 a i.results.toList=some v'/\∃n',n'<=n/\∃r st',Ev X Q n' (k r st')/\∃F' ρ',PR F' ρ' st'.nx r v'/\DD B h0 F ρ st.nx h st' fr a F' ρ'/\(∀sp,X.sp g=some sp->∀b,b<h.nx->a.get b=h.get b):=by
    intro hne o;split at o
    case h_2=>grind [zo]
    rename_i ps Y;obtain⟨z,o⟩:=QH o;obtain⟨vs,F2,ρ2,k1,k2,k3,k4⟩:=VB hr1 Y z;have G:Le F ρ st.nx F2 ρ2 c.nx:=⟨fun b cs U=>k4.fz _ _<|J.fz _ _ U,fun id hid=>by
     rcases k4.rho id ae with e|e
     ·rw[e];exact J.rho id hid
     grind,W⟩
    have L:∃O,RJ X.C fr1 a i.results.toList=some O/\PR F2 ρ2 c.nx (Go.Pe.one ps) O:=by
     unfold RJ;rw[k1];cases ps with
     |nil=>subst k2;exact⟨_,rfl,by simp[Go.Pe.one,PR]⟩
     |cons p ps=>
      obtain⟨v1,vs1,rfl,g1,R⟩:=k2;cases ps with
      |nil=>subst R;exact⟨_,rfl,g1⟩
      |cons q qs=>
       obtain⟨v2,vs2,rfl,_,_⟩:=R;refine⟨_,rfl,?_⟩;show PR F2 ρ2 c.nx (.tup (p::q::qs)) _;simp_all [PR]
    obtain⟨O,q1,q2⟩:=L;exact⟨O,q1,n1,S,_,_,o,F2,ρ2,q2,⟨⟨⟨hr.fp.n,fun t=>(hr.fp.slot t).mono G⟩,k3.sr⟩,G,hx1⟩,ah⟩
   cases e with
   |normal=>
    obtain⟨v',q1,q2⟩:=go (by simp) I;exact⟨[(v',a)],0,ah,(by simp),ah⟩
   |ret=>
    obtain⟨v',q1,q2⟩:=go (by simp) I;exact⟨[(v',a)],0,ah,(by simp),ah⟩
   |exit j=>grind [zo]
  obtain⟨r,M2,g1,R,g3⟩:=Kp (f:=fun _ _ (x:yh)=>match x.e with
      | .exit _=>none
      |_=>match Hs x.ds x.h with
       |some a=>match RJ X.C x.fr a i.results.toList with
        |some v=>some [(v,a)]
        |none=>none
       |none=>none) (P:=fun x=>∃n',n'<=n/\∃r st',Ev X Q n' (k r st')/\∃F' ρ',PR F' ρ' st'.nx r x.1/\DD B h0 F ρ st.nx h st' fr x.2 F' ρ'/\(∀sp,X.sp g=some sp->∀b,b<h.nx->x.2.get b=h.get b)) E fin
  refine⟨ah,r,max M M2+1,fun m hm=>?_,R,g3⟩;obtain⟨A,rfl⟩:∃A,m=A+1:=⟨m-1,by omega⟩;have hg:=g1 A ae A ae;have:Bi X.C (A+1) (.fn g args') h=(match BP X.C (Bi X.C A) none i.cert A i.body (Ol i.ntmps args') h []with
    |none=>none
    |some l=>match (bl l fun x=>match x.e with
     | .exit _=>none
     |_=>match Hs x.ds x.h with
      |some a=>match RJ X.C x.fr a i.results.toList with
       |some v=>some [(v,a)]
       |none=>none
      |none=>none)with
     |some r=>some<|bif X.C.mg then Qp h.nx r else r
     |none=>none):=by
   rw[Bi];simp only[hsp,hi];rfl
  grind
theorem NN{nd:Bool}{d:Nat}(u:∀h0,FR B h0 X nd<|Cy X nd d)(j:∀h0,FR B h0 X false<|Cy X false d){id:Nat}{Q:PV->Ob->Prop}{n:Nat}{args:List PV}{k:PV->AQ->Tr}{args':List V}
  (he:Ev X Q n (Yy X (Cy X nd d) (Cy X false d) nd d id args st k)) (hr:Rel B h0 F ρ st fr h) (ha:BJ F ρ st.nx args args'):
  ∃c,Aew X ρ h args' (.rnd id) c/\∃l M,(∀m,M<=m->Bi X.C m c h=some l)/\(nd=false->∃x,l=[x])/\
   ∀x∈l,∃n',n'<=n/\∃r st',Ev X Q n' (k r st')/\∃F' ρ',PR F' ρ' st'.nx r x.1/\DD B h0 F ρ st.nx h st' fr x.2 F' ρ':=by
 unfold Yy at he;split at he
 case h_2=>grind [zo]
 rename_i f r ps asg b n0 sl hob;obtain⟨A,m0,y,k1,k2,⟨ls,rfl,rfl,rfl,rfl,⟨l1,l2⟩,rfl,l4⟩,-⟩:=hr.sr.at hob;cases hsz:zp args.length ls.ps.size with
 |false=>grind [zo]
 |true=>
 rw[hsz]at he;simp only[we]at he;have hlen:args'.length=ls.ps.size:=by rw[<-ha.len];simp_all
 have hid:id<st.nx:=(hr.sr.own _ _ _ k1).1;have hr0:Rel B h0 F ρ (N9 ls.ps.toList args<|Aw ls.fr.n sl st.ob st.nx) (Hz ls.ps.toList args' ls.fr) h:=by
  have R:Rel B h0 F ρ (Aw ls.fr.n sl st.ob st.nx) ls.fr h:=⟨⟨rfl,fun t=>l4 t⟩,hr.sr⟩;have go:∀(ts:List Tmp) (g:List PV) (D:List V) (s:AQ) (f:Fr),s.nx=st.nx->BJ F ρ st.nx g D->Rel B h0 F ρ s f h->Rel B h0 F ρ (N9 ts g s) (Hz ts D f) h:=by
   intro ts;induction ts with
   |nil=>intro g D s f _ _ hs;cases g<;>exact hs
   |cons t ts ih=>
    intro g D s f hn hp hs;cases g with
    |nil=>simp only[CH]at hp;subst hp;exact hs
    |cons a g=>
     simp only[BJ]at hp;obtain⟨v,vs,rfl,p1,p2⟩:=hp;simp only[N9,Hz];refine ih g vs _ _ ?_ p2 ?_
     ·cases z8 t s.n<;>exact hn
     ·unfold Fr.fW;rw[show s.n=f.n from hs.fp.n];cases z8 t f.n with
      |false=>exact hs
      |true=>exact hs.set ah
  exact go _ _ _ _ _ rfl ha R
 have hnx0:st.nx<=(N9 ls.ps.toList args<|Aw ls.fr.n sl st.ob st.nx).nx:=by
  have go:∀(ts:List Tmp) (g:List PV) (s:AQ),(N9 ts g s).nx=s.nx:=by
   intro ts;induction ts with
   |nil=>intro g s;rfl
   |cons t ts ih=>
    intro g s;cases g with
    |nil=>rfl
    |cons a g=>simp only[N9];rw[ih];cases z8 t s.n<;>rfl
  rw[go];exact zg _
 obtain⟨L,M1,hM1,U,O⟩:=Po (ro:=true) (rv:=some A) (ct:=false) (by simp) u j n ls.asg [] hnx0 hr0 he;refine⟨_,⟨A,m0,ls,k1,k2,hlen,rfl⟩,?_⟩;have fin:∀x∈L,∃(r:List (V×H)) (M:Nat),(∀m:Nat,M<=m->∀q:Nat,M<=q->(match x.e,x.h.get A with
   | .normal,some (.loop l1)=>match l1.st with
    | .ready=>match BP X.C (Bi X.C m) (some A) false q ls.body x.fr (x.h.put A<|.loop { l1 with st:=.busy }) x.ds with
     |some l2=>bl l2 fun y=>match y.h.get A with
      |some (.loop P)=>match y.e with
       | .normal=>some [(V.bool true,y.h.put A<|.loop { P with st:=.ready,pend:=none })]
       | .ret=>some [(V.bool false,y.h.put A<|.loop { P with st:=.done,pend:=some .ret })]
       | .exit i=>some [(V.bool false,y.h.put A<|.loop { P with st:=.done,pend:=some (.exit i) })]
      |_=>none
     |none=>none
    |_=>none
   |_,_=>none)=some r)/\(nd=false->∃x,r=[x])/\∀x∈r,∃n',n'<=n/\∃r st',Ev X Q n' (k r st')/\∃F' ρ',PR F' ρ' st'.nx r x.1/\DD B h0 F ρ st.nx h st' fr x.2 F' ρ':=by
  intro x hx;obtain⟨ps1,_,n1,hn1,s,E,F1,ρ1,G,hb1,hl1,hx1⟩:=O x hx;obtain⟨e,fr1,h1,ds1⟩:=x;simp only at E G hx1 ⊢;cases e with
  |exit i=>grind [zo]
  |ret=>grind [zo]
  |normal=>
  simp only at E;split at E
  case h_2=>grind [zo]
  rename_i f' r' ps' asg' b' n' sl' J;have hs1:SR B h0 F1 ρ1 s.nx s.ob h1:=G.sr.sG;obtain⟨I,m1,y1,q1,q2,⟨o,rfl,rfl,rfl,rfl,⟨la1,la2⟩,rfl,la4⟩,-⟩:=hs1.at J;obtain⟨rfl,rfl⟩:I=A/\m1=m0:=by
   have:=hl1.at hid q1;grind
  have hr2:Rel B h0 F1 ρ1 (s.setObj id<|.lp f' r' o.ps o.asg o.body .busy o.fr.n sl') fr1 (h1.put I<|.loop { o with st:=.busy }):=
   ⟨⟨G.fp.n,fun t=>G.fp.slot t⟩,hs1.set J q1 q2 rfl rfl (o':=.lp f' r' o.ps o.asg o.body .busy o.fr.n sl') ⟨_,rfl,rfl,rfl,rfl,rfl,rfl,la4⟩⟩
  obtain⟨L2,M2,hM2,Y,T⟩:=Po (ro:=true) (rv:=some I) (ct:=false) (by simp) u j n1 ls.body ds1 (show st.nx<=(s.setObj id<|.lp f' r' o.ps o.asg o.body .busy o.fr.n sl').nx from hb1) hr2 E;have fin2:∀y∈L2,∃(r:List (V×H)) (M:Nat),(∀m:Nat,M<=m->∀q:Nat,M<=q->(match y.h.get I with
    |some (.loop P)=>match y.e with
     | .normal=>some [(V.bool true,y.h.put I<|.loop { P with st:=.ready,pend:=none })]
     | .ret=>some [(V.bool false,y.h.put I<|.loop { P with st:=.done,pend:=some .ret })]
     | .exit i=>some [(V.bool false,y.h.put I<|.loop { P with st:=.done,pend:=some (.exit i) })]
    |_=>none)=some r)/\(nd=false->∃x,r=[x])/\∀x∈r,∃n',n'<=n/\∃r st',Ev X Q n' (k r st')/\∃F' ρ',PR F' ρ' st'.nx r x.1/\DD B h0 F ρ st.nx h st' fr x.2 F' ρ':=by
   intro y hy;obtain⟨ps2,_,n2,hn2,s2,w,F2,Z,hr3,hb2,hl2,hx2⟩:=T y hy;obtain⟨e2,fr2,h2,ds2⟩:=y;simp only at w hr3 hx2 ⊢;split at w
   case h_2=>grind [zo]
   rename_i f2 r2 pp2 aa2 bb2 ss2 nn2 sl2 K;have hs3:SR B h0 F2 Z s2.nx s2.ob h2:=hr3.sr.sG;obtain⟨c2,m2,y2,w1,w2,⟨p,rfl,rfl,rfl,rfl,_,rfl,lb4⟩,-⟩:=hs3.at K;have W:Le F ρ st.nx F2 Z s2.nx:=by
    have h:=hl1.trans hl2;exact⟨h.fz,h.rho,hb2⟩
   obtain⟨rfl,rfl⟩:c2=I/\m2=m1:=by
    have:=W.at hid w1;grind
   have hnx:h.nx<=h2.nx:=zm hx1 hx2;have done:∀(sb:LpS) (S:LoopState) (pe:Option Code) (rb:Bool),LpR sb S pe->Ev X Q n2 (k (.bl rb) ⟨st.n,st.fr,(s2.setObj id<|.lp f2 r2 p.ps p.asg p.body sb p.fr.n sl2).ob,s2.nx⟩)->
     ∃n',n'<=n/\∃r st',Ev X Q n' (k r st')/\∃F' ρ',PR F' ρ' st'.nx r (V.bool rb)/\DD B h0 F ρ st.nx h st' fr (h2.put c2<|.loop { p with st:=S,pend:=pe }) F' ρ':=by
    intro sb S pe rb hlr he3;refine⟨n2,ae,_,_,he3,F2,Z,oB _,⟨⟨⟨hr.fp.n,fun t=>(hr.fp.slot t).mono W⟩,?_⟩,W,hnx⟩⟩;exact hs3.set K w1 w2 rfl rfl (o':=.lp f2 r2 p.ps p.asg p.body sb p.fr.n sl2) ⟨_,rfl,rfl,rfl,rfl,hlr,rfl,lb4⟩
   cases e2 with
   |normal=>exact⟨[(.bool true,h2.put c2<|.loop { p with st:=.ready,pend:=none })],0,ah,(by simp),fun z hz=>by cases zf.1 hz;exact done .ready _ _ true ⟨rfl,rfl⟩ w⟩
   |ret=>exact⟨[(.bool false,h2.put c2<|.loop { p with st:=.done,pend:=some .ret })],0,ah,(by simp),fun z hz=>by cases zf.1 hz;exact done .ret _ _ false ⟨rfl,rfl⟩ w⟩
   |exit i=>exact⟨[(.bool false,h2.put c2<|.loop { p with st:=.done,pend:=some (.exit i) })],0,ah,(by simp),fun z hz=>by cases zf.1 hz;exact done (.exit i) _ _ false ⟨rfl,rfl⟩ w⟩
  obtain⟨r,M3,j1,j2,j3⟩:=Kp Y fin2;refine⟨r,max M2 M3,fun m hm q hq=>?_,j2,j3⟩;have a1:=hM2 m ae q ae;simp only at a1;have a2:=j1 m ae q ae;simp only[q2,la1];rw[a1];exact a2
 obtain⟨r,M4,j1,j2,j3⟩:=Kp U fin;refine⟨r,max M1 M4+1,fun m hm=>?_,j2,j3⟩;obtain⟨m',rfl⟩:∃m',m=m'+1:=⟨m-1,by omega⟩;have a1:=hM1 m' ae m' ae;simp only at a1;have a2:=j1 m' ae m' ae;rw[Bi];simp only[T5];rw[a1];exact a2
end
section
variable {B:Nat}{h0:H0}{X:AL}{F F1 F':Fz}{ρ:EA}{N:Nat}{st st':AQ}{fr:Fr}{h h':H}
theorem fO{p:PV}{v:V}(hp:PR F ρ N p v):∃w,BJ F ρ N p.cells w/\(Ni p=true->v=.agg w)/\(Ni p=false->w=[v]):=by
 cases p with
 |agg l=>obtain⟨cs,rfl,a⟩:=hp;exact⟨cs,a,fun _=>rfl,fun e=>by cases e⟩
 |_=>exact⟨[v],by simp only[zr,Bo,CH,ve];exact hp,fun e=>(by cases e),fun _=>rfl⟩
theorem S3{st:AQ}{s:Sh}{p:PV}{x:s.T}{v:V}{w:List V}(a:FG st s p=some (true,x))(k:Ni p=true->v=.agg w)(m:Ni p=false->w=[v])(g:∀xs,Dr st p.cells=some (true,xs)->Na F xs w):PC F (Cx s x) v:=by
 unfold FG at a;cases i:(Ni p==s.RV)with
 |false=>grind
 |true=>
  rw[i]at a;simp only[we]at a;split at a
  case h_2=>cases a
  rename_i c cs d;split at a
  case h_2=>cases a
  rename_i y j;simp only[zq,yd,ze]at a;obtain⟨⟨b,rfl⟩,rfl⟩:=a;have e:=Na.dc (fun ρ N=>S1 (g cs d ρ N) b) j;have l:=PC.Cx e;cases hp:s.RV with
  |true=>grind
  |false=>grind
theorem handed:∀ {ps:List PV} {vs:List V} {st:AQ} {F:Fz},SR B h0 F ρ st.nx st.ob h->BJ F ρ st.nx ps vs->
  ∃F1,SR B h0 F1 ρ (BB (ps.flatMap zr) st).nx (BB (ps.flatMap zr) st).ob h/\(∀b cs,F b=some cs->F1 b=some cs)/\∀l i,Dt st l ps=some (true,i)->Na F1 (Ag l i) vs
 |[],vs,st,F,hr,hp=>⟨F,hr,fun _ _ h=>h,fun l i e=>by
  have g:vs=[]:=by simp_all
  subst g;match l,i,e with
  |[],_,_=>intro ρ' N';rfl
  |[a],_,e=>cases e
  |a::b::l,_,e=>cases e⟩
 |p::ps,vs,st,F,hr,hp=>by
  obtain⟨v,vs,rfl,m,r⟩:=hp;obtain⟨w,c1,c2,c3⟩:=fO m;obtain⟨F1,g1,g2,g3⟩:=Jg hr c1;have j:BJ F1 ρ (BB p.cells st).nx ps vs:=by rw[(DM p.cells st).1];exact r.mono<|Le.gQ g2
  obtain⟨o,s,k,z⟩:=handed g1 j;rw[List.flatMap_cons,JM];refine⟨o,s,ah,fun l i e=>?_⟩;match l,i,e with
  |[],_,e=>cases e
  |[a],i,e=>
   cases ps with
   |cons q u=>cases e
   |nil=>
    have g:vs=[]:=by simp_all
    subst g;have:=(S3 (st:=st) (F:=F1) (by simpa [Dt]using e) c2 c3 g3).mono k;intro ρ' N';simp only[Ag,Bo,CH,ve];exact this ρ' N'
  |a::b::l,i,e=>
   unfold Dt at e;split at e
   case h_2=>cases e
   rename_i c x d y n t;simp only[zq,yd,ze]at e;obtain⟨⟨rfl,rfl⟩,rfl⟩:=e;exact Na.cons ((S3 n c2 c3 g3).mono k) (by grind [NK,NY])
theorem SR.after{ob:Ob}(hr:SR B h0 F ρ N ob h)(i:∀b,b<h.nx->h'.get b=h.get b)(p:h.nx<=h'.nx)(d:∀b o,h'.get b=some o->b<h'.nx)(r:∀b cs,F b=some cs->F' b=some cs)
  (q:∀b cs,F' b=some cs->F b=some cs\/h.nx<=b) (g:∀b cs,F' b=some cs->∃t fz,h'.get b=some (.cells cs t fz)):SR B h0 F' ρ N ob h':=by
 refine⟨fun id o s=>?_,hr.inj,g,hr.own,hr.dead,fun b a l=>?_,d,zm hr.le p,fun b cs a=>?_,hr.gl,fun b a=>by obtain⟨j,m,u⟩:=hr.pn b a;exact⟨by rw[i b<|hr.lt b _ j];exact j,m,u⟩⟩
 ·obtain⟨b,n,x,c,v,k,w,z⟩:=hr.obj id o s;have a:=hr.lt b x v;refine⟨b,n,x,c,by grind,k.mono<|Le.gQ (ρ:=ρ) r,fun e=>?_,fun e=>?_⟩
  ·cases y:F' b with
   |none=>rfl
   |some cs=>
    grind
  grind
 ·rw[i b<|Nat.lt_of_lt_of_le a hr.le];exact hr.old b a l
 ·rcases q b cs a with c|c
  ·exact hr.fo b cs c
  ·exact .inr<|.inl<|zm hr.le c
theorem SR.gh{ob:Ob}(hr:SR B h0 F ρ N ob h):Gh h:=fun x d=>by
 obtain⟨a,b,c⟩:=hr.gl x d;rw[hr.old _ a b];exact c
structure UF(C:Ctx)(f:FuncId)(sp:Am):Prop where
 prim:C.prim f=none
 fn:∃i,C.fn f=some i
 run:∀(F:Fz) (h:H) (args:List V) (i:(BE sp.ins).T),(∀b cs,F b=some cs->∃t fz,h.get b=some (.cells cs t fz))->(∀b o,h.get b=some o->b<h.nx)->Gh h->Na F (Ag sp.ins i) args->sp.pre i=true->
  ∃l M,(∀m,M<=m->Bi C m (.fn f args) h=some l)/\(sp.nd=false->∃x,l=[x])/\∀x∈l,h.nx<=x.2.nx/\(∀b,b<h.nx->x.2.get b=h.get b)/\(∀b o,x.2.get b=some o->b<x.2.nx)/\
   ∃F':Fz,(∀b cs,F b=some cs->F' b=some cs)/\(∀b cs,F' b=some cs->F b=some cs\/h.nx<=b)/\(∀b cs,F' b=some cs->∃t fz,x.2.get b=some (.cells cs t fz))/\
    PC F' (one (Ag sp.outs (sp.f i))) x.1
structure Acl(C:Ctx)(f:FuncId)(sp:Am):Prop where
 run:∃q,C.prim f=some q/\∀(F:Fz) (h:H) (args:List V) (i:(BE sp.ins).T),Na F (Ag sp.ins i) args->sp.pre i=true->∃v,q args h=some (v,h)/\PC F (one (Ag sp.outs (sp.f i))) v
def Af(C:Ctx)(f:FuncId)(sp:Am):Prop:=UF C f sp\/Acl C f sp
theorem Af.of0{C:Ctx}{f:FuncId}{sp:Am}(h:UF C f sp):Af C f sp:=.inl h
theorem Af.zero{C:Ctx}{f:FuncId}{sp:Am}(h:Af C f sp)(hp:C.prim f=none):UF C f sp:=by
 rcases h with h|⟨q,a,_⟩
 ·exact h
 grind
theorem Af.go{C:Ctx}{f:FuncId}{sp:Am}(ok:Af C f sp)(F:Fz)(h:H)(args:List V)(i:(BE sp.ins).T)(e:∀b cs,F b=some cs->∃t fz,h.get b=some (.cells cs t fz))(c:∀b o,h.get b=some o->b<h.nx)(d:Gh h)(j:Na F (Ag sp.ins i) args)(hp:sp.pre i=true):
  ∃l,(((C.prim f=none/\∃i,C.fn f=some i)/\∃M,∀m,M<=m->Bi C m (.fn f args) h=some l)\/∃q x,C.prim f=some q/\q args h=some x/\l=[x])/\(sp.nd=false->∃x,l=[x])/\∀x∈l,h.nx<=x.2.nx/\(∀b,b<h.nx->x.2.get b=h.get b)/\(∀b o,x.2.get b=some o->b<x.2.nx)/\
   ∃F':Fz,(∀b cs,F b=some cs->F' b=some cs)/\(∀b cs,F' b=some cs->F b=some cs\/h.nx<=b)/\(∀b cs,F' b=some cs->∃t fz,x.2.get b=some (.cells cs t fz))/\
    PC F' (one<|Ag sp.outs<|sp.f i) x.1:=by
 rcases ok with ok|⟨q,p,a⟩
 ·obtain⟨l,M,g,k,n⟩:=ok.run F h args i e c d j hp;exact⟨l,.inl ⟨⟨ok.prim,ok.fn⟩,M,g⟩,k,n⟩
 ·obtain⟨v,g,k⟩:=a F h args i j hp;refine⟨[(v,h)],ah,(by simp),fun x r=>?_⟩;grind
theorem DC.sc:∀ {s:Sh} {x:s.T} {cs:List V},s.sc=true->DC F s x cs->DC F' s x cs
 | .int _,_,_,_,h=>by simpa only[DC]using h
 | .bool,_,_,_,h=>by simpa only[DC]using h
 | .str,_,_,_,h=>by simpa only[DC]using h
 | .list s,l,_,e,h=>by cases e
 | .pair a b,x,_,e,h=>by
  simp only[Sh.sc,ze]at e;obtain⟨c,d,rfl,g,i⟩:=h;exact⟨c,d,rfl,g.sc e.1,i.sc e.2⟩
 | .unit,_,_,_,h=>by simpa only[DC]using h
 | .nlist s,l,_,e,h=>by cases e
 | .fnv,_,_,_,h=>by simpa only[DC]using h
 | .ptr _,_,_,e,_=>by cases e
theorem Tu:∀ {s:Sh} {x:s.T} {cs:List V},s.sc=true->BJ F ρ N (flat s x) cs->Na F' (flat s x) cs
 | .int k,x,cs,_,h=>fun ρ' N'=>by
  obtain⟨v,vs,rfl,g,rfl⟩:=h;exact⟨v,[],rfl,by simp only[PR]at g ⊢;exact g.sc rfl,rfl⟩
 | .bool,x,cs,_,h=>fun ρ' N'=>by
  obtain⟨v,vs,rfl,g,rfl⟩:=h;exact⟨v,[],rfl,by simp only[PR]at g ⊢;exact g.sc rfl,rfl⟩
 | .str,x,cs,_,h=>fun ρ' N'=>by
  obtain⟨v,vs,rfl,g,rfl⟩:=h;exact⟨v,[],rfl,by simp only[PR]at g ⊢;exact g.sc rfl,rfl⟩
 | .list s,x,cs,e,h=>by cases e
 | .pair a b,(x,y),cs,e,h=>fun ρ' N'=>by
  simp only[Sh.sc,ze]at e;have key:∀(ps i:List PV) (l:List V),BJ F ρ N (ps++i) l->∃c d,l=c++d/\BJ F ρ N ps c/\BJ F ρ N i d:=by
   intro ps;induction ps with
   |nil=>intro i l j;exact⟨[],l,rfl,by simp,j⟩
   |cons p ps n=>
    intro i l j;obtain⟨v,vs,rfl,g,m⟩:=j;obtain⟨c,d,rfl,h3,h4⟩:=n i vs m;exact⟨v::c,d,rfl,by simp_all,h4⟩
  obtain⟨c,d,rfl,g,m⟩:=key _ _ _ h;exact(Tu e.1 g ρ' N').append<|Tu e.2 m ρ' N'
 | .unit,_,cs,_,h=>fun ρ' N'=>by simpa [flat]using h
 | .nlist s,x,cs,e,h=>by cases e
 | .fnv,x,cs,_,h=>fun ρ' N'=>by
  simp only[flat,BJ]at h ⊢;grind [PR,CH]
 | .ptr _,_,_,e,_=>by cases e
theorem Zv{s:Sh}{x:s.T}{v:V}(e:s.sc=true)(h:PC F (Cx s x) v):PC F' (Cx s x) v:=by
 intro ρ' N';have h:=h ρ' N';cases s with
 |pair a b=>
  obtain⟨cs,rfl,c⟩:=h;exact⟨cs,rfl,Tu e c ρ' N'⟩
 |unit=>simp_all [Pe.Cx,PR]
 |int k=>unfold Pe.Cx PR at h ⊢;exact h.sc rfl
 |bool=>unfold Pe.Cx PR at h ⊢;exact h.sc rfl
 |str=>unfold Pe.Cx PR at h ⊢;exact h.sc rfl
 |list s=>cases e
 |nlist s=>cases e
 |ptr s=>cases e
 |fnv=>
  unfold Pe.Cx at h ⊢;grind [PR,CH]
theorem ZE:∀ {l:List Sh} {x:(BE l).T} {vs:List V},l.all Sh.sc=true->Na F (Ag l x) vs->Na F' (Ag l x) vs
 |[],_,vs,_,h=>fun ρ' N'=>by have:=h ρ' N';simpa [Ag]using this
 |[a],x,vs,e,h=>fun ρ' N'=>by
  have g:=h ρ' N';obtain⟨v,i,rfl,k,rfl⟩:=g;simp only[ye,List.all_nil,Bool.and_true]at e;simp only[Ag,Bo,CH,ve];refine Zv (F:=F) e (fun c d=>?_) ρ' N';have:=h c d;simp_all [Ag]
 |a::b::l,x,vs,e,h=>by
  have g:=h (fun _=>none) 0;obtain⟨v,i,rfl,_,_⟩:=g;have j:a.sc=true/\(b::l).all Sh.sc=true:=ah
  exact Na.cons (Zv j.1 fun c d=>((Bo ..).1<|h c d).1)<|ZE j.2 fun c d=>((Bo ..).1<|h c d).2
theorem Wl{l:List Sh}{x:(BE l).T}{v:V}:PC F (one<|Ag l x) v↔∃vs,Na F (Ag l x) vs/\v=(match vs with|[u]=>u|us=>.tup us):=by
 have c:∀ps:List PV,(∀u,ps≠[u])->(PC F (one ps) v↔∃vs,Na F ps vs/\v=(match vs with|[u]=>u|us=>.tup us)):=by
  intro ps k;have j:one ps=.tup ps:=by
   simp_all [one]
  rw[j];constructor
  ·intro h;have d:=h (fun _=>none) 0;obtain⟨cs,rfl,i⟩:=d;refine⟨cs,fun ρ N=>?_,?_⟩
   ·have n:=h ρ N;grind [PR]
   ·have g:=i.len;split
    ·cases ps with
     |nil=>cases g
     |cons q m=>grind
    ·rfl
  ·rintro⟨vs,d,rfl⟩ ρ N;have g:=(d ρ N).len;split
   ·cases ps with
    |nil=>cases g
    |cons q m=>grind
   ·exact⟨_,rfl,d ρ N⟩
 match l,x with
 |[],x=>exact c [] (by simp)
 |[a],x=>
  simp only[Ag,one];constructor
  ·intro h;exact⟨[v],fun ρ N=>by simp only[Bo,CH,ve];exact h ρ N,rfl⟩
  ·rintro⟨vs,d,rfl⟩ ρ N;have i:=d ρ N;simp only[BJ]at i;grind
 |a::b::l,x=>
  refine c _<|fun u e=>?_;cases l<;>cases e
theorem fE{nd:Bool}{g:FuncId}{sp:Am}(_hsp:X.sp g=some sp)(p:Af X.C g sp)(G:nd=false->sp.nd=false){Q:PV->Ob->Prop}{n:Nat}{args:List PV}{k:PV->AQ->Tr}{args':List V}(s:Ev X Q n (pB sp args st k))(hr:Rel B h0 F ρ st fr h)(P:BJ F ρ st.nx args args'):
  ∃l,Oj X ρ h args' (.fn g) l/\(nd=false->∃x,l=[x])/\
   ∀x∈l,∃n',n'<=n/\∃r st',Ev X Q n' (k r st')/\∃F' ρ',PR F' ρ' st'.nx r x.1/\DD B h0 F ρ st.nx h st' fr x.2 F' ρ'/\(∀sp,X.sp g=some sp->∀b,b<h.nx->x.2.get b=h.get b):=by
 unfold pB at s;split at s
 case h_2=>grind [zo]
 rename_i c i E;rcases s.Fh with⟨w,a⟩|⟨_,a⟩
 case inr=>grind [zo]
 simp only[ze]at w;obtain⟨rfl,d⟩:=w;obtain⟨F1,g1,g2,g3⟩:=handed hr.sr P;obtain⟨l,u,hone,hall⟩:=p.go F1 h args' i g1.frz hr.sr.lt hr.sr.gh (g3 _ i E) d;have o:Oj X ρ h args' (.fn g) l:=by
  rcases u with⟨m,M,u⟩|⟨q,x,m,S,rfl⟩
  ·exact .Bi ⟨rfl,m⟩ u
  ·exact .prim m S
 refine⟨l,o,ah,fun x D=>?_⟩;obtain⟨j,v,y,F',A,I,J,R⟩:=hall x D;refine⟨n,zg _,_,_,a,?_⟩;cases L:sp.outs.all Sh.sc with
 |true=>
  have z:PC F (one<|Ag sp.outs<|sp.f i) x.1:=by
   grind [Wl,ZE]
  refine⟨F,ρ,z ρ _,⟨⟨hr.fp,?_⟩,yb,j⟩,ah⟩;refine hr.sr.after v j y (by simp) ah<|fun b cs U=>?_;grind
 |false=>
  simp only[wg];obtain⟨T,K,O⟩:=DM (args.flatMap zr) st;have e:Le F ρ st.nx F' ρ (BB (args.flatMap zr) st).nx:=by
   grind [Le.gQ]
  refine⟨F',ρ,R ρ _,⟨⟨⟨O.trans hr.fp.n,fun t=>?_⟩,?_⟩,e,j⟩,ah⟩
  ·have:(BB (args.flatMap zr) st).get t=st.get t:=by unfold AQ.get;rw[K]
   rw[this];exact(hr.fp.slot t).mono e
  ·exact g1.after v j y A I J
structure ML(C:Ctx)(f:FuncId)(w:cT):Prop where
 prim:C.prim f=none
 fn:∃i,C.fn f=some i
 len:∀i l,w.pre i l=true->(w.g i l).length=l.length
 run:∀(F:Fz) (h:H) (args:List V) (i:(BE w.ins).T) (l:List w.el.T) (b:Nat) (cs:List V) (fz:Nat×Nat) (o:Nat),(∀b cs,F b=some cs->∃t fz,h.get b=some (.cells cs t fz))->(∀b o,h.get b=some o->b<h.nx)->Gh h->Na F (Ag w.ins i) args->w.pre i l=true->
  h.get b=some (.cells cs w.ty fz)->Ez F w.el l cs->fz.2<=fz.1->F b=none->(o=0\/o=w.el.sz)->
  ∃x M,(∀m,M<=m->Bi C m (.fn f (args++[.sl b 0 l.length l.length o])) h=some [x])/\x.1=.tup []/\h.nx<=x.2.nx/\(∀c,c<h.nx->c≠b->x.2.get c=h.get c)/\(∀c y,x.2.get c=some y->c<x.2.nx)/\
   ∃F':Fz,(∀b cs,F b=some cs->F' b=some cs)/\(∀b cs,F' b=some cs->F b=some cs\/h.nx<=b)/\(∀b cs,F' b=some cs->∃t fz,x.2.get b=some (.cells cs t fz))/\
    ∃cs' fz',x.2.get b=some (.cells cs' w.ty fz')/\Ez F' w.el (w.g i l) cs'/\fz'.2<=fz'.1
 nils:∀(F:Fz) (h:H) (args:List V) (i:(BE w.ins).T),(∀b cs,F b=some cs->∃t fz,h.get b=some (.cells cs t fz))->(∀b o,h.get b=some o->b<h.nx)->Gh h->Na F (Ag w.ins i) args->w.pre i []=true->
  ∃x M,(∀m,M<=m->Bi C m (.fn f (args++[.nils])) h=some [x])/\x.1=.tup []/\h.nx<=x.2.nx/\(∀c,c<h.nx->x.2.get c=h.get c)/\(∀c y,x.2.get c=some y->c<x.2.nx)/\
   ∃F':Fz,(∀b cs,F b=some cs->F' b=some cs)/\(∀b cs,F' b=some cs->F b=some cs\/h.nx<=b)/\(∀b cs,F' b=some cs->∃t fz,x.2.get b=some (.cells cs t fz))
theorem BJ.split:∀ {a b:List PV} {vs:List V},BJ F ρ N (a++b) vs->∃x y,vs=x++y/\BJ F ρ N a x/\BJ F ρ N b y
 |[],b,vs,h=>⟨[],vs,rfl,by simp,h⟩
 |p::a,b,vs,h=>by
  obtain⟨v,vs,rfl,d,c⟩:=h;obtain⟨x,y,rfl,h3,h4⟩:=c.split;exact⟨v::x,y,rfl,by simp_all,h4⟩
theorem SR.wrote{ob:Ob}(hr:SR B h0 F ρ N ob h){id b n:Nat}{o o':Obj}{x':O}(V:AS ob id=some o)(z:ρ id=some (b,n))(M:b<h.nx)(R:F b=none)(K:o'.frozen=false)(T:h'.get b=some x')(I:aI F' ρ N n o' x')
  (C:∀c,c<h.nx->c≠b->h'.get c=h.get c) (E:h.nx<=h'.nx) (u:∀b o,h'.get b=some o->b<h'.nx) (S:∀b cs,F b=some cs->F' b=some cs)
  (J:∀b cs,F' b=some cs->F b=some cs\/h.nx<=b) (s:∀b cs,F' b=some cs->∃t fz,h'.get b=some (.cells cs t fz)):SR B h0 F' ρ N (DZ ob id o') h':=by
 have p:∀j,AS (DZ ob id o') j=if j=id then some o' else AS ob j:=(by grind [Hv])
 have w:∀c,c<h.nx->F c=none->F' c=none:=fun c g hn=>by
  cases d:F' c with
  |none=>rfl
  |some cs=>
   grind
 refine⟨fun j oj a=>?_,fun i j oi oj c m D G a d x=>?_,s,hr.own,fun j a=>?_,fun c g A=>?_,u,zm hr.le E,fun c cs g=>?_,hr.gl,fun c g=>?_⟩
 ·rw[p]at a;by_cases e:j=id
  ·grind
  ·rw[wc e]at a;obtain⟨c,m,y,d,x,P,Z,Y⟩:=hr.obj j oj a;have q:c≠b:=fun L=>e<|hr.inj j id oj o c m n a V d<|L▸z
   have g:=hr.lt c y x;refine⟨c,m,y,d,by grind,P.mono<|Le.gQ (ρ:=ρ) S,ah,fun e=>?_⟩;grind
 ·have l:∀k ok,AS (DZ ob id o') k=some ok->∃U,AS ob k=some U:=by
   grind
  obtain⟨_,r⟩:=l i oi G;obtain⟨_,v⟩:=l j oj a;exact hr.inj i j _ _ c m D r v d x
 ·rw[p]at a;by_cases e:j=id
  ·grind
  ·rw[wc e]at a;exact hr.dead j a
 ·rw[C c (Nat.lt_of_lt_of_le g hr.le)<|OO (hr.own id b n z).2 g A];exact hr.old c g A
 ·rcases J c cs g with d|d
  ·exact hr.fo c cs d
  ·exact .inr<|.inl<|zm hr.le d
 ·obtain⟨r,v,W⟩:=hr.pn c g;have q:c≠b:=ah;exact⟨by rw[C c (hr.lt c _ r) q];exact r,v,W⟩
theorem rev_eq{α:Type}{a:List α}{x:α}{r:List α}(h:a.reverse=x::r):a=r.reverse++[x]:=by
 simp_all
theorem Y7{nd:Bool}{g:FuncId}{w:cT}(Z:X.sp g=none)(a:ML X.C g w){Q:PV->Ob->Prop}{n:Nat}{args:List PV}{k:PV->AQ->Tr}{args':List V}(u:Ev X Q n (XQ w args st k))(hr:Rel B h0 F ρ st fr h)(J:BJ F ρ st.nx args args'):
  ∃l,Oj X ρ h args' (.fn g) l/\(nd=false->∃x,l=[x])/\
   ∀x∈l,∃n',n'<=n/\∃r st',Ev X Q n' (k r st')/\∃F' ρ',PR F' ρ' st'.nx r x.1/\DD B h0 F ρ st.nx h st' fr x.2 F' ρ'/\(∀sp,X.sp g=some sp->∀b,b<h.nx->x.2.get b=h.get b):=by
 unfold XQ at u;split at u
 ·rename_i id sz nn r p;rw[rev_eq p]at J;obtain⟨a1,a2,rfl,D,z⟩:=J.split;obtain⟨v,_,rfl,hv,rfl⟩:=z;obtain⟨F1,g1,g2,g3⟩:=handed hr.sr D;split at u
  case h_2=>grind [zo]
  rename_i c i t s l L Y;cases q:zp t w.ty with
  |false=>grind [zo]
  |true=>
  rw[q]at u;have q:=zt q;split at u
  case h_2=>grind [zo]
  rename_i l' S;obtain⟨e,rfl⟩:=CU S;cases e;rcases u.Fh with⟨G,j⟩|⟨_,j⟩
  case inr=>grind [zo]
  simp only[ze,w5]at G;obtain⟨⟨⟨rfl,d⟩,hn⟩,A⟩:=G;have A:=zt A;subst hn A q;obtain⟨e1,e2,e3⟩:=DM (r.reverse.flatMap zr) st;obtain⟨b,m,x,h1,h2,⟨cs,fz,rfl,k1,k2,k3⟩,h4,_⟩:=g1.obj id _ Y;simp only[PR]at hv;obtain⟨o,ho',rfl⟩:∃o,(o=0\/o=w.el.sz)/\v=.sl b (0*w.el.sz) (List.length l) (List.length l) o:=by
   grind
  rw[Nat.zero_mul];obtain⟨x,M,T,q1,E,O,U,F',P,K,R,cs',fz',f4,f5,f6⟩:=a.run F1 h a1 i l b cs fz o g1.frz hr.sr.lt hr.sr.gh (g3 _ i L) d h2 k1 k2 (h4 rfl) ho';refine⟨[x],.Bi ⟨rfl,a.prim,a.fn⟩ T,(by simp),fun y W=>?_⟩;cases zf.1 W;refine⟨n,zg _,_,_,j,F',ρ,?_,⟨⟨⟨e3.trans hr.fp.n,fun t=>?_⟩,?_⟩,?_,E⟩,ah⟩
  ·rw[q1];simp[PR]
  ·have:((BB (r.reverse.flatMap zr) st).setObj id<|.arr false w.ty w.el<|w.g i l).get t=st.get t:=by
    show((BB (r.reverse.flatMap zr) st).fr.get t).getD .any=_;rw[e2];rfl
   rw[this];refine(hr.fp.slot t).mono ?_;show Le F ρ st.nx F' ρ (BB (r.reverse.flatMap zr) st).nx;grind [Le.gQ]
  ·exact g1.wrote Y h1 (hr.sr.lt _ _ h2) (h4 rfl) rfl f4 ⟨cs',fz',rfl,f5,f6,by rw[<-k3];exact a.len i l d⟩ O E U P K R
  ·show Le F ρ st.nx F' ρ (BB (r.reverse.flatMap zr) st).nx;grind [Le.gQ]
 ·rename_i r p;rw[rev_eq p]at J;obtain⟨a1,a2,rfl,D,z⟩:=J.split;obtain⟨v,_,rfl,hv,rfl⟩:=z;subst hv;obtain⟨F1,g1,g2,g3⟩:=handed hr.sr D;split at u
  case h_2=>grind [zo]
  rename_i c i L;rcases u.Fh with⟨G,j⟩|⟨_,j⟩
  case inr=>grind [zo]
  simp only[ze]at G;obtain⟨rfl,d⟩:=G;obtain⟨e1,e2,e3⟩:=DM (r.reverse.flatMap zr) st;obtain⟨x,M,T,q1,E,O,U,F',P,K,R⟩:=a.nils F1 h a1 i g1.frz hr.sr.lt hr.sr.gh (g3 _ i L) d;have I:Le F ρ st.nx F' ρ (BB (r.reverse.flatMap zr) st).nx:=by
   grind [Le.gQ]
  refine⟨[x],.Bi ⟨rfl,a.prim,a.fn⟩ T,(by simp),fun y W=>?_⟩;cases zf.1 W;refine⟨n,zg _,_,_,j,F',ρ,?_,⟨⟨⟨e3.trans hr.fp.n,fun t=>?_⟩,?_⟩,I,E⟩,ah⟩
  ·rw[q1];simp[PR]
  ·have:(BB (r.reverse.flatMap zr) st).get t=st.get t:=by unfold AQ.get;rw[e2]
   rw[this];exact(hr.fp.slot t).mono I
  ·exact g1.after O E U P K R
 grind [zo]
theorem HA(p:X.C.mg=false)(i:∀g sp,X.sp g=some sp->Af X.C g sp)(m:∀g w,X.ws g=some w->ML X.C g w):∀(d:Nat) (nd:Bool) (h0:H0),FR B h0 X nd<|Cy X nd d
 |0,nd,h0=>by intro a;exact wh a zo
 |d+1,nd,h0=>by
  rename_i Q n L args st k;intro a F ρ fr h args' hr t;unfold Cy at a;cases L with
  |rnd id=>
   obtain⟨c,J,l,M,V,O,W⟩:=NN (HA p i m d nd) (HA p i m d false) a hr t;refine⟨l,.Bi J V,O,fun x v=>?_⟩;grind
  |fn g=>
  simp only at a;have conv:(∃l,Oj X ρ h args' (.fn g) l/\(nd=false->∃x,l=[x])/\
   ∀x∈l,∃n',n'<=n/\∃r st',Ev X Q n' (k r st')/\∃F' ρ',PR F' ρ' st'.nx r x.1/\DD B h0 F ρ st.nx h st' fr x.2 F' ρ'/\(∀sp,X.sp g=some sp->∀b,b<h.nx->x.2.get b=h.get b))->
   ∃l,Oj X ρ h args' (.fn g) l/\(nd=false->∃x,l=[x])/\
   ∀x∈l,∃n',n'<=n/\∃r st',Ev X Q n' (k r st')/\∃F' ρ',PR F' ρ' st'.nx r x.1/\DD B h0 F ρ st.nx h st' fr x.2 F' ρ'/\(∀I,Cal.fn g=.fn I->∀sp,X.sp I=some sp->∀b,b<h.nx->x.2.get b=h.get b):=by
   simp
  obtain⟨o,q⟩:∃o,X.sp g=o:=⟨_,rfl⟩;cases o with
  |some sp=>
   rw[q]at a;simp only at a;cases D:(nd|| !sp.nd)with
   |false=>grind [zo]
   |true=>
    rw[D]at a;exact conv (fE (nd:=nd) q (i g sp q) ah a hr t)
  |none=>
   rw[q]at a;obtain⟨R,u⟩:∃o,X.ws g=o:=⟨_,rfl⟩;cases R with
   |some w=>rw[u]at a;exact conv (Y7 q (m g w u) a hr t)
   |none=>
   rw[u]at a;simp only at a;cases j:X.esc.any (zp g)with
   |true=>
    rw[j]at a;unfold Afp at a;split at a
    case h_2=>grind [zo]
    rename_i id off;cases s:IU (st.obj id)with
    |false=>grind [zo]
    |true=>
     rw[s]at a;obtain⟨Y,G,D⟩:=List.any_eq_true.1 j;have e:=zt D;subst e;have hp:=X.escOk g G;obtain⟨o,ho⟩:=YO s;obtain⟨b,n',z,q1,_⟩:=hr.sr.at ho;obtain⟨x,_,rfl,v,rfl⟩:=t;have A:=v;obtain rfl:=A.2 b n' q1;exact conv ⟨[(.ptr b off,h)],.prim hp rfl,(by simp),fun y U=>by
      cases zf.1 U;exact⟨n,zg _,_,st,a,F,ρ,v,DD.refl hr,(by simp)⟩⟩
   |false=>
   rw[j]at a;split at a
   case h_2=>grind [zo]
   rename_i hp E;obtain⟨S,l,M,P,T,K⟩:=Ke (HA p i m d nd) (HA p i m d false) p E hp q a hr t;exact conv ⟨l,.Bi ⟨rfl,S⟩ P,T,K⟩
theorem Ri{st:AQ}:∀ {l:List Sh} {ps:List PV} {r:Bool×(BE l).T},Dt st l ps=some r->l.length=ps.length
 |[],[],_,_=>rfl
 |[],_::_,_,h=>by cases h
 |[a],[p],_,_=>rfl
 |[a],[],_,h=>by cases h
 |[a],_::_::_,_,h=>by cases h
 |a::b::l,[],_,h=>by cases h
 |a::b::l,p::ps,_,h=>by
  unfold Dt at h;split at h
  case h_2=>cases h
  rename_i d c;have:=Ri c;grind
def H6(outs:List Sh)(v:PV):List PV:=match outs with
 |[_]=>[v]
 |_=>match v with
  | .tup vs=>vs
  |_=>[v]
def KQ(outs:List Sh)(v:PV)(ob:Ob):Option (Bool×(BE outs).T):=Dt ⟨0,.leaf,ob,0⟩ outs<|H6 outs v
def Ends(X:AL)(t:Tr)(Q:PV->Ob->Prop):Prop:=∃n,Ev X Q n t
def Ac(sp:Am)(i:(BE sp.ins).T)(v:PV)(ob:Ob):Prop:=∃y,KQ sp.outs v ob=some (true,y)/\y=sp.f i
theorem YY{v:PV}(h:kI v=true)(st st':AQ):B4 st v=B4 st' v:=by
 cases v<;>first|rfl|cases h
theorem Jr(st st':AQ):∀ {l:List PV},l.all kI=true->Dr st l=Dr st' l
 |[],_=>rfl
 |v::l,h=>by
  rw[ye,ze]at h;unfold Dr;rw[YY h.1 st st',Jr st st' h.2]
theorem G6(st st':AQ):∀ {l:List Sh} {ps:List PV},ps.all SU=true->Dt st l ps=Dt st' l ps
 |[],[],_=>rfl
 |[],_::_,_=>rfl
 |[_],[],_=>rfl
 |_::_::_,[],_=>rfl
 |[a],[p],h=>by
  grind [FG,Jr,Dt,SU]
 |[_],_::_::_,_=>rfl
 |a::b::l,p::ps,h=>by
  rw[ye,ze]at h;unfold Dt FG;rw[Jr st st' h.1,G6 st st' h.2]
theorem Acy{outs:List Sh}{v:PV}{ob:Ob}:KQ outs v (gcO v ob)=KQ outs v ob:=by
 unfold gcO;cases b:AaV v with
 |false=>rfl
 |true=>
  unfold KQ H6;by_cases d:∃a,v=.tup a
  ·obtain⟨a,rfl⟩:=d;split
   ·rfl
   ·exact G6 _ _ b
  ·have e:SU v=true:=by
    cases v with
    |tup a=>grind
    |_=>exact b
   have c:[v].all SU=true:=ah
   split
   ·exact G6 _ _ c
   ·split
    ·grind
    grind [G6]
theorem cX(T:X.C.mg=false)(k:∀g sp,X.sp g=some sp->Af X.C g sp)(Z:∀g w,X.ws g=some w->ML X.C g w){f:FuncId}{sp:Am}{d:Nat}(P:X.C.spec f=none)(c:X.C.prim f=none)(K:X.sp f=none)
  (S:∀i,sp.pre i=true->Ends X (tree X sp.nd d f<|Ag sp.ins i) (Ac sp i)) (L:∃i,X.C.fn f=some i):Af X.C f sp:=by
 refine .of0 ⟨c,L,fun F h args i z u p m E=>?_⟩;obtain⟨n,he⟩:=S i E;have hr:Rel h.nx ⟨h,F,[],fun _=>False⟩ F (fun _=>none) (Aw 0 [] [] 0) ⟨0,.leaf⟩ h:=by
  refine⟨⟨rfl,fun t=>?_⟩,⟨fun id o W=>(by cases W),(by simp),z,(by simp),fun _ _=>rfl,(by simp),u,zg _,ah,fun x G=>⟨u _ _<|p x G,fun e=>e,p x G⟩,(by simp)⟩⟩;show PR _ _ _ (((Fl []).get t).getD .any) _;grind [Fl,PM.DY,PR]
 obtain⟨_,l,M,hM,A,k⟩:=Ke (by grind [HA]) (by grind [HA]) T P c K he hr<|m _ _;refine⟨l,M,hM,A,fun x G=>?_⟩;obtain⟨n',hn,r,st',he',F',ρ',hp,hw,_⟩:=k x G;have Y:=he'.bV;obtain⟨y,hy,rfl⟩:=Y;rw[Acy]at hy;have v:∀b,b<h.nx->x.2.get b=h.get b:=fun b s=>hw.rel.sr.old b s<|fun e=>e
 refine⟨hw.nx,v,hw.rel.sr.lt,?_⟩;have R:∃vs,BJ F' ρ' st'.nx (H6 sp.outs r) vs/\((∃a,sp.outs=[a])->vs=[x.1])/\((∀a,sp.outs≠[a])->(∃I,r=.tup I)->x.1=.tup vs):=by
  unfold H6;split
  ·simp_all
  ·split
   ·grind [PR]
   ·exact⟨[x.1],by simp_all,fun _=>rfl,ah⟩
 obtain⟨vs,j,U,V⟩:=R;obtain⟨F1,g1,g2,g3⟩:=handed (st:=st') hw.rel.sr j;have J:∀id,Ep (AQ.obj ⟨0,.leaf,st'.ob,0⟩ id) (st'.obj id):=fun id=>Ep.refl _
 have D:=g3 sp.outs _ (by rw[NK J];exact hy);refine⟨F1,fun b cs s=>g2 b cs<|hw.le.fz b cs s,fun b cs s=>(g1.fo b cs s).imp_right<|fun h=>h.resolve_right<|fun e=>e,g1.frz,Wl.2 ⟨vs,D,?_⟩⟩;have q:sp.outs.length=(H6 sp.outs r).length:=Ri hy;have hl2:=j.len;by_cases W:∃a,sp.outs=[a]
 ·grind
 ·have O:sp.outs.length≠1:=(by grind [List.length_eq_one_iff]);have ht:∃I,r=.tup I:=by
   cases r with
   |tup I=>simp
   |_=>
    exfalso;apply O;rw[q];unfold H6;split<;>rfl
  grind
end
section
variable {X:AL}{Q Q':PV->Ob->Prop}
theorem Ends.leaf{v:PV}{ob:Ob}(h:Q v ob):Ends X (.leaf v ob) Q:=⟨0,.leaf h⟩
theorem Ends.ite{c:Bool}{a b:Tr}(d:c=true->Ends X a Q)(g:c=false->Ends X b Q):Ends X (.ite c a b) Q:=by
 cases c with
 |true=>obtain⟨n,h⟩:=d rfl;exact⟨n,.ite (fun _=>h)<|fun e=>by cases e⟩
 |false=>obtain⟨n,h⟩:=g rfl;exact⟨n,.ite (fun e=>by cases e)<|fun _=>h⟩
theorem Ends.tt{c:Bool}{a b:Tr}(d:c=true)(h:Ends X a Q):Ends X (.ite c a b) Q:=Ends.ite (fun _=>h) (fun e=>by rw[d]at e;cases e)
theorem Ends.ff{c:Bool}{a b:Tr}(d:c=false)(h:Ends X b Q):Ends X (.ite c a b) Q:=Ends.ite (fun e=>by rw[d]at e;cases e)<|fun _=>h
def stepT(X:AL):Tr->Tr
 | .loop nd ro d f base b st k=>body X nd ro d f base b st k
 | .cut nd ro d f base b st k=>AV X nd ro d f base b st k
 |t=>t
theorem Ends.step{t:Tr}(h:Ends X (stepT X t) Q):Ends X t Q:=by
 cases t with
 |loop=>obtain⟨n,h⟩:=h;exact⟨n+1,.loop h⟩
 |cut=>obtain⟨n,h⟩:=h;exact⟨n,.cut h⟩
 |_=>exact h
theorem Ends.eq{t a:Tr}(e:t=a)(h:Ends X a Q):Ends X t Q:=e▸h
theorem Ends.Ai{t a:Tr}(e:stepT X t=a)(h:Ends X a Q):Ends X t Q:=Ends.step<|e▸h
def Tr.L:Tr->Tr
 | .ite _ a _=>a
 | .both a _=>a
 |t=>t
def Tr.R:Tr->Tr
 | .ite _ _ b=>b
 | .both _ b=>b
 |t=>t
def re:Tr->AQ->Tr
 | .loop nd ro d f base b _ k,st=>.loop nd ro d f base b st k
 | .cut nd ro d f base b _ k,st=>.cut nd ro d f base b st k
 |t,_=>t
def K5(r:Nat):Code->Option (Array Tmp×Code×Code)
 | .rangeFunc _ ps a b=>bif zp (BR b) r then some (ps,a,b)else K5 r b
 | .seq a b=>match K5 r a with
  |some x=>some x
  |none=>K5 r b
 | .cond _ a b=>match K5 r a with
  |some x=>some x
  |none=>K5 r b
 | .block _ b| .loop b| .scope b=>K5 r b
 |_=>none
def AdM(C:Ctx)(f:FuncId)(r:Nat):Array Tmp×Code×Code:=match C.fn f with
 |some i=>(K5 r i.body).getD (#[],.skip,.skip)
 |none=>(#[],.skip,.skip)
def vW(C:Ctx)(f:FuncId)(r:Nat):Array Tmp:=(AdM C f r).1
def bK(C:Ctx)(f:FuncId)(r:Nat):Code:=(AdM C f r).2.1
def UQ(C:Ctx)(f:FuncId)(r:Nat):Code:=(AdM C f r).2.2
def Y3:List (FuncId×Am)->FuncId->Option Am
 |[],_=>none
 |(g,s)::l,f=>bif zp g f then some s else Y3 l f
def AfT:List (FuncId×List Nat)->FuncId->Nat->Bool
 |[],_,_=>false
 |(g,t)::l,f,r=>bif zp g f then t.any (zp r)else AfT l f r
def AeM:List (FuncId×List (Nat×List (Nat×Sh)))->FuncId->Nat->List (Nat×Sh)
 |[],_,_=>[]
 |(g,t)::l,f,r=>bif zp g f then fz1 t r else AeM l f r
 where fz1:List (Nat×List (Nat×Sh))->Nat->List (Nat×Sh)
 |[],_=>[]
 |(i,s)::l,r=>bif zp i r then s else fz1 l r
def Adf:List (FuncId×List (Nat×List Nat))->FuncId->Nat->List Nat
 |[],_,_=>[]
 |(g,t)::l,f,r=>bif zp g f then pl1 t r else Adf l f r
 where pl1:List (Nat×List Nat)->Nat->List Nat
 |[],_=>[]
 |(i,s)::l,r=>bif zp i r then s else pl1 l r
end
section
open Go.Proofs.Tryz (prog)
def Q1(C:Ctx)(q:Za):Ctx:=⟨C.T,C.ng,C.fn,C.prim,q,false⟩
theorem VM{C:Ctx}{P:Program}(a:C.Ok P){q:Za}(h:LG P q):(Q1 C q).Ok P where
 T:=a.T
 fn:=a.fn
 prim:=a.prim
 spec:=h
theorem Pv{C:Ctx}(a:G5 C)(q:Za):G5 (Q1 C q):=a
def A4:Ctx:=Q1 C7<|orS fmtS<|orS sL<|orS Tc<|K8 A7
theorem Ac1:A4.Ok prog:=VM cS<|TQ zM<|TQ rU<|TQ XB spA
theorem dH:G5 A4:=Pv Mn _
def Afg:List (FuncId×List (Nat×List Nat)):=
 [(3,[(14,[2,3,5,7,8,9,10,11,12,13]),(12,[2,3,5,6,7,8,9,10,11,12,13]),(7,[2,3,5,6]),(4,[2,3,5])]),
 (7,[(18,[1,2,3,8]),(16,[1,2,3,8]),(14,[1,2,3,7]),(12,[1,2,3,7]),(9,[1,2,3,4,5,6]),(7,[1,2,3,4,5,6]),(5,[1,2,3,4]),(3,[1,2,3,4])]),
 (9,[(16,[1,6]),(17,[1,6]),(15,[1,6]),(11,[1,5]),(12,[1,5]),(10,[1,5]),(5,[1,3]),(6,[1,3]),(4,[1,3]),(3,[1])]),
 (10,[(38,[1,5,10]),(44,[1,5,10]),(42,[1,5,10,11]),(39,[1,5,10]),(37,[1,5,10]),(35,[1]),(33,[1]),(18,[1,5,6]),(30,[1,5,6,7]),(25,[1,5,6,7,8,9]),(26,[1,5,6,7,8,9]),(24,[1,5,6,7,8,9]),(23,[1,5,6,7,8]),(19,[1,5,6]),(17,[1,5,6]),(15,[1]),(13,[1]),(7,[1,3]),(8,[1,3]),(6,[1,3]),(5,[1]),(3,[1])]),
 (11,[(11,[1,2,3,9]),(12,[1,2,3,9]),(10,[1,2,3,9]),(5,[1,2,3,7]),(6,[1,2,3,7]),(4,[1,2,3,7]),(3,[1,2,3])]),
 (14,[(17,[14,16]),(11,[10,12,13]),(8,[3,10]),(4,[1,2,3,11,12])]),
 (18,[(5,[1,2,4,5,11,12]),(3,[1,2,4,5,11,12])]),
 (30,[(5,[0,1])]),
 (37,[(5,[1,2,3,4]),(3,[1,2,3,4])]),
 (45,[(10,[1,4]),(11,[1,4]),(9,[1,4]),(5,[1,3]),(6,[1,3]),(4,[1,3]),(3,[1])]),
 (46,[(14,[1,4]),(17,[1,4]),(15,[1,4]),(13,[1,4]),(12,[1]),(10,[1]),(8,[1,3]),(6,[1,3]),(4,[1,3])]),
 (47,[(5,[0,1,5]),(6,[0,1,5]),(4,[0,1,5]),(3,[0,1])]),
 (48,[(20,[1,5,6]),(28,[1,5,6]),(26,[1,3,5,6]),(24,[1,3,5,6]),(21,[1,5,6]),(19,[1,5,6]),(17,[1]),(12,[1,4]),(13,[1,4]),(11,[1,4]),(10,[1]),(8,[1,3]),(6,[1,3]),(3,[1])]),
 (50,[(10,[2,3,8]),(11,[2,3,8]),(9,[2,3,8]),(5,[2,3,7]),(6,[2,3,7]),(4,[2,3,7]),(3,[2,3])]),
 (55,[(4,[7])]),
 (59,[(3,[2,3,4])]),
 (60,[(6,[5,6,7]),(3,[5,6,7]),(2,[5,6,7])]),
 (74,[(5,[0,1])]),
 (77,[(7,[4,5,6]),(13,[4,5,6,7]),(11,[4,5,6,7]),(8,[4,5,6]),(6,[4,5,6]),(3,[0])]),
 (78,[(16,[]),(11,[3,4]),(9,[3,4]),(7,[3,4]),(4,[0,3])]),
 (80,[(15,[8,9]),(13,[6,8,9]),(10,[5,6,7]),(7,[5,6]),(4,[5])]),
 (81,[(13,[6]),(10,[0,1,6]),(5,[0,1]),(3,[0,1])]),
 (83,[(9,[8,10]),(3,[2,3])]),
 (95,[(5,[6,8])]),
 (99,[(6,[8,10,11,12,13,14])]),
 (100,[(14,[6,7,10,40,41,42]),(13,[6,7,10,12,13,40,41,42]),(10,[6,7,10,40,41,42]),(9,[6,7,10,40,41,42]),(4,[1,3,6,7,21,22,23]),(3,[1,3,6,7,21,22,23])]),
 (111,[(5,[0,3]),(6,[0,3]),(4,[0,3]),(3,[0])]),
 (112,[(7,[0,3]),(13,[0,3,4]),(11,[0,3,4]),(8,[0,3]),(6,[0,3]),(5,[0]),(3,[0])]),
 (115,[(35,[14,94,95,96]),(34,[14,16,94,95,96]),(30,[14,94,95,96]),(29,[14,94,95,96]),(27,[1]),(23,[1,8,47,48,49]),(22,[1,8,10,47,48,49]),(17,[1,8,47,48,49]),(16,[1,8,47,48,49]),(14,[1]),(10,[1,26,27,28]),(6,[1,26,27,28]),(5,[1,26,27,28]),(4,[1])]),
 (120,[(5,[2,3,4]),(3,[2,3,4])]),
 (122,[(4,[0,1,2,3,8,9]),(2,[0,1,2,3,8,9]),(1,[0,1,2,3,8,9])]),
 (126,[(5,[0,1,5]),(6,[0,1,5]),(4,[0,1,5]),(3,[0,1])]),
 (128,[(8,[7,8,9,10,11]),(9,[7,8,9,10,11]),(7,[7,8,9,10,11]),(6,[7,8,9,10]),(4,[7,8,9,10])]),
 (135,[(10,[0,3,4,11,12,13]),(8,[0,3,4,5,7,8]),(6,[0,3,4,5,7,8]),(3,[0,3,4,11,12,13]),(2,[0,3,4,11,12,13])]),
 (138,[(6,[0,2,3,4]),(5,[0,2,3,4]),(4,[0,2,3])]),
 (139,[(3,[0,3]),(4,[0,3]),(2,[0,3])]),
 (141,[(2,[0,1]),(1,[0,1])]),
 (142,[(5,[0,3,4]),(3,[0,3,4])]),
 (143,[(7,[0,2,3,4,5]),(4,[0,2,3,4]),(3,[0,2,3,4])]),
 (144,[(2,[0,1]),(1,[0,1])]),
 (145,[(3,[0,1,5]),(2,[0,1,5])]),
 (147,[(15,[8,9,10,11,12,13]),(39,[8,9,10,11,12,13,14]),(35,[8,9,10,11,12,13,14,19,20]),(33,[8,9,10,11,12,13,14,19,20]),(20,[8,9,10,11,12,13,14,15,16]),(27,[8,9,10,11,12,13,14,15,16,18]),(21,[8,9,10,11,12,13,14,15,16]),(19,[8,9,10,11,12,13,14,15,16]),(16,[8,9,10,11,12,13]),(14,[8,9,10,11,12,13]),(11,[0,8,9,10,11]),(10,[0,8,9,10,11]),(6,[0,1]),(3,[0,1])]),
 (148,[(10,[3]),(7,[1,3,4]),(5,[1,3,4]),(3,[1])]),
 (150,[(6,[0,1,5,6,7]),(4,[0,1,5,6,7])]),
 (151,[(7,[0,1,5]),(10,[0,1,5]),(8,[0,1,5]),(6,[0,1,5]),(5,[0,1]),(4,[])]),
 (152,[(5,[0,1,5,6,7]),(11,[0,1,5,6,7,8]),(6,[0,1,5,6,7]),(4,[0,1,5,6,7])]),
 (153,[(9,[0,1,5,6,7,8]),(7,[0,1,5,6,7,8]),(5,[0,1,5,6]),(3,[0,1,5,6])]),
 (154,[(6,[0,1,7,8]),(3,[0,1,7,8]),(2,[0,1,7,8])]),
 (158,[(4,[1,4,5,9,10,11]),(3,[1,4,5,9,10,11])]),
 (160,[(11,[2,4]),(5,[0,2,3,4]),(4,[0,2,3,4])]),
 (163,[(9,[5,6,7]),(6,[5,6,7,8])]),
 (164,[(10,[30,31,32]),(6,[30,31,32]),(5,[30,31,32]),(4,[1])]),
 (166,[(3,[0,6,7]),(2,[0,6])]),
 (167,[(6,[1,4]),(7,[1,4]),(5,[1,4]),(4,[1])]),
 (168,[(6,[0,1,7,8]),(3,[0,1,7,8]),(2,[0,1,7,8])]),
 (170,[(21,[6,10,11]),(19,[6,10,11]),(18,[6,10]),(13,[3,5,6,7,9]),(11,[3,5,6,7,9]),(7,[3,4,5,6]),(6,[3,4,5,6]),(3,[1])]),
 (171,[(3,[2,3,4]),(2,[2,3,4])]),
 (172,[(3,[2,3,4])]),
 (175,[(12,[0,1,5,6,21,22]),(11,[0,1,5,6,7,8,21,22]),(7,[0,1,5,6,21,22]),(6,[0,1,5,6,21,22]),(3,[0,1])]),
 (176,[(7,[0,1,5]),(11,[]),(8,[0,1,5]),(6,[0,1,5]),(5,[0,1]),(4,[])]),
 (177,[(10,[0,1,5,6,13,14]),(9,[0,1,5,6,7,8,13,14]),(5,[0,1,5,6,13,14]),(4,[0,1,5,6,13,14])]),
 (180,[(8,[1,5,6,7,8,20,21,22,27,28,29]),(7,[1,5,6,7,8,20,21,22,27,28,29]),(4,[1,5,20,21,22]),(3,[1,5,20,21,22])]),
 (184,[(12,[4,5,14,15]),(6,[2,3,4,5]),(5,[4,5,6,7])]),
 (188,[(3,[0,3]),(4,[0,3]),(2,[0,3])]),
 (189,[(6,[0,1,6,7,8]),(4,[0,1,6,7,8])]),
 (190,[(2,[0]),(1,[0])]),
 (191,[(5,[0,1,2,7,9,10]),(4,[0,1,2,7,9,10])]),
 (199,[(3,[1,2,4,5]),(6,[1,2,4,5]),(4,[1,2,4,5]),(2,[1,2,4,5])]),
 (202,[(6,[5,6,7]),(3,[5,6,7]),(2,[5,6,7])]),
 (207,[(13,[3,11,12,13]),(12,[3,5,11,12,13]),(10,[3,5,11,12,13]),(6,[3,11,12,13]),(5,[3,11,12,13]),(3,[0])]),
 (210,[(26,[9,11,12,13,96,97]),(22,[9,11,12,13,96,97]),(21,[9,11,12,13,96,97]),(19,[9,10,11,12,13,14]),(17,[9,10,11,12,13,14]),(11,[0,1]),(9,[0,1,6,7,8]),(7,[0,1,6,7,8]),(3,[0,1])]),
 (217,[(3,[0,3]),(2,[0,3])]),
 (233,[(20,[0]),(19,[6]),(16,[5,6,47,48,49]),(15,[5,6,8,47,48,49]),(11,[5,6,47,48,49]),(10,[5,6,47,48,49]),(8,[0,5])]),
 (237,[(15,[5,23,24,25]),(14,[5,9,23,24,25]),(11,[5,6,7,23,24,25]),(7,[5,23,24,25]),(6,[5,23,24,25]),(4,[0])]),
 (239,[(25,[2,8,9,10,14,15,16,17,18]),(24,[2,8,9,10,14,15,16,17,18]),(18,[2,8,9,10,11,13,14,15,16]),(17,[2,8,9,10,11,13,14,15,16]),(7,[0,1,2]),(5,[0,1,2]),(3,[0,1,2])]),
 (241,[(8,[1,5,12,13,14]),(4,[1,5,12,13,14]),(3,[1,5,12,13,14])]),
 (242,[(29,[0,1,5,6,17,156,157]),(28,[0,1,5,6,17,156,157]),(26,[0,1,5,6]),(16,[0,1,5,6,11,12,104,105]),(15,[0,1,5,6,11,12,104,105]),(11,[0,1,5,6,7]),(9,[0,1,5,6,7]),(8,[0,1,5,6,7,8])]),
 (265,[(3,[0,2,4]),(7,[0,2,4,5]),(4,[0,2,4]),(2,[0,2,4])]),
 (266,[(3,[0,1]),(2,[0,1]),(1,[0,1])]),
 (267,[(3,[0,1]),(2,[0,1]),(1,[0,1])]),
 (270,[(7,[6,7,8]),(3,[6,7,8]),(2,[6,7,8])])]
def AbV:List FuncId:=[278]
theorem aE:∀g∈AbV,A4.prim g=some PK.noEsc.run:=fun g h=>by
 cases h with
 |head=>kernel_rfl
 |tail _ h=>cases h
def X7(l:List (FuncId×Am)):AL:=⟨A4,Y3 l,Adf Afg,fun _ _=>false,fun _ _=>[],fun _=>none,AbV,aE⟩
def Ur(cs:List (FuncId×List Nat))(fz:List (FuncId×List (Nat×List (Nat×Sh))))(t:List (FuncId×List (Nat×List Nat)))(l:List (FuncId×Am)):AL:=⟨A4,Y3 l,Adf<|t++Afg,AfT cs,AeM fz,fun _=>none,AbV,aE⟩
end
end Go.Pe
namespace Go.Sp
def first:List Int->Int
 |[]=>0
 |x::l=>if x≠0 then x else first l
def Cv(c:Bool)(e:Int):Int:=bif c then e else 0
end Go.Sp
namespace Go.Pe
open Go.Det
abbrev i64:Sh:=.int .i64
abbrev Ae0:Sh:=.list<|.int .i64
def Gq:Am:=⟨[Ae0],fun l=>decide (l.length<=1000000),[i64],fun l=>Sp.first l,false⟩
def G7:Am:=⟨[.bool,i64],fun _=>true,[i64],fun i=>Sp.Cv i.1 i.2,false⟩
def Xo:AL:=X7 []
end Go.Pe
namespace Go.Sp
abbrev Bx:=Z
def has(l:List Bx)(x:Bx):Bool:=decide (x∈l)
end Go.Sp
namespace Go.Pe
open Go.Det
section
open List Int Prod
namespace T166
def T(s:Z):Tr:=tree Xo false 9 166<|Ag ([Sh.str]) s
def L1(v0 a:Z):Tr:=re ((T []))<|Aw 37 [(0,.dat Sh.str v0),(6,.ptr 0 0)] [(0,Obj.siter a 0)] 1
theorem Aj(s:Z):T s=L1 s s:=by kernel_rfl
def L2(v0 b:Z)(a:Nat):Tr:=re ((stepT Xo<|L1 [] []).L.L.L)<|Aw 37 [(0,.dat Sh.str v0),(6,.ptr 0 0)] [(0,Obj.siter b a)] 1
theorem Ak(v0 a:Z):stepT Xo (L1 v0 a)=let b':=L2 v0 a<|zx 0<|KT a 0;let b:Tr:=.leaf (.bl false) [];let d:Tr:=.ite true b<|.ite (rune a 0 !=95) (.di (rune a 0<48) b<|.di (rune a 0>57) b b') b';let c:Tr:=.di (rune a 0>=65) (.ite (!decide (rune a 0<=90)) d b') d;.di (0<length a) (.di (rune a 0>=97) (.di (rune a 0<=122) b' c) c) (.ite (!v0==[]) (.leaf (.dat Sh.bool<|decide ((length v0:Int)<=24)) []) b):=by kernel_rfl
theorem Az(v0 b:Z)(a:Nat):stepT Xo (L2 v0 b a)=let b':=L2 v0 b<|zx a<|KT b a;let c:Tr:=.leaf (.bl false) [];let e:Tr:=.ite ((↑a:Int)==0) c<|.ite (rune b a !=95) (.di (rune b a<48) c<|.di (rune b a>57) c b') b';let d:Tr:=.di (rune b a>=65) (.ite (!decide (rune b a<=90)) e b') e;.di (a<length b) (.di (rune b a>=97) (.di (rune b a<=122) b' d) d) (.ite (!v0==[]) (.leaf (.dat Sh.bool<|decide ((length v0:Int)<=24)) []) c):=by kernel_rfl
end T166
end
section
variable {X:AL}{Q:PV->Ob->Prop}
@[simp] theorem Ad8:Ends X .fail Q↔False:=⟨fun⟨_,h⟩=>zo h,fun h=>h.elim⟩
@[simp] theorem HC{v:PV}{ob:Ob}:Ends X (.leaf v ob) Q↔Q v ob:=⟨fun⟨_,h⟩=>h.bV,fun h=>.leaf h⟩
@[simp] theorem FA{c:Bool}{a b:Tr}:Ends X (.ite c a b) Q↔if c=true then Ends X a Q else Ends X b Q:=by
 constructor
 ·rintro⟨n,h⟩;rcases h.Fh with⟨d,h⟩|⟨d,h⟩
  ·rw[wd d];exact⟨n,h⟩
  ·rw[wc<|by simp[d]];exact⟨n,h⟩
 ·intro h;refine .ite (fun d=>?_)<|fun d=>?_
  ·rwa [wd d]at h
  ·rwa [wc<|by simp[d]]at h
theorem Ac.of{sp:Am}{i:(BE sp.ins).T}{v:PV}{ob:Ob}{c:Bool}{y:(BE sp.outs).T}(h:KQ sp.outs v ob=some (c,y))(a:c=true)(b:y=sp.f i):Ac sp i v ob:=⟨y,by rw[h,a],b⟩
@[simp] theorem QG(s:Sh)(x:List s.T):L0 (Sh.leaves<|.list s) [.dat (.list s) x]=(true,[.dat (.list s) x]):=rfl
theorem wr(x:Int)(a: -9223372036854775808<=x)(b:x<=9223372036854775807):zc .i64 x=x:=IntWalk.i64_in x ⟨a,b⟩
theorem drop_cons{α:Type}{l r:List α}{x d:α}{i:Nat}(h:l.drop i=x::r):i<l.length/\l.getD i d=x/\l.drop (i+1)=r:=by
 have a:i<l.length:=by
  rcases yf i l.length with c|c
  ·exact c
  ·rw[List.drop_eq_nil_of_le c]at h;cases h
 have b:=zu a;rw[h]at b;simp only[zy]at b;exact⟨a,by simp[a,b.1],b.2.symm⟩
end
theorem Tg:∀g sp,Xo.sp g=some sp->Af A4 g sp:=fun g sp h=>by cases h
abbrev CE(X:AL):Prop:=∀g sp,X.sp g=some sp->Af A4 g sp
theorem HN{X:AL}(n:X.C=A4)(b:∀g sp,X.sp g=some sp->Af A4 g sp){f:FuncId}{sp:Am}{d:Nat}(k:A4.spec f=none)(a:A4.prim f=none)(j:X.sp f=none)
  (e:∀i,sp.pre i=true->Ends X (tree X sp.nd d f<|Ag sp.ins i) (Ac sp i)) (c:∃i,A4.fn f=some i) (m:∀g w,X.ws g=some w->ML A4 g w:=by intro _ _ h;cases h):Af A4 f sp:=by
 have l:X.C.mg=false:=by rw[n];rfl
 rw[<-n]at*;exact cX l b m k a j e c
theorem Bg{α:Type}{o:Option α}(h:o.isSome=true):∃i,o=some i:=z6.1 h
theorem BD{X:AL}(b:CE X){f:FuncId}{sp:Am}(d:∀i,sp.pre i=true->Ends X (tree X sp.nd 9 f<|Ag sp.ins i) (Ac sp i))(l:X.C=A4:=by rfl)(j:A4.spec f=none:=by kernel_rfl)(a:A4.prim f=none:=by kernel_rfl)(e:X.sp f=none:=by kernel_rfl)(c:(A4.fn f).isSome=true:=by kernel_rfl)(k:∀g w,X.ws g=some w->ML A4 g w:=by intro _ _ h;cases h):Af A4 f sp:=HN l b j a e d (Bg c) k
theorem drop_nil{α:Type}{l:List α}{i:Nat}(h:l.drop i=[])(a:i<=l.length):i=l.length:=by
 have:=wi List.length h;simp at this;omega
theorem QI{α:Type}{l r:List α}{x:α}{i:Nat}(h:l.drop i=x::r):x∈l:=by
 have:x∈l.drop i:=by rw[h];simp
 exact List.mem_of_mem_drop this
theorem Ra(c:Int):zz c=true↔(97<=c/\c<=122)\/(65<=c/\c<=90)\/(48<=c/\c<=57)\/c=95:=by
 simp[zz,Sp.letter,or_assoc]
theorem K4(c:Int):Sp.letter c=true↔(97<=c/\c<=122)\/(65<=c/\c<=90):=by
 simp[Sp.letter]
namespace T166
variable {Q:PV->Ob->Prop}
theorem loop(s:Z)(b:s≠[]):∀(r:Z) (i:Nat),s.drop i=r->i<=s.length->1<=i->
  ((r.all fun c=>zz (c.toNat:Int))=false->∀ob,Q (.bl false) ob)->((r.all fun c=>zz (c.toNat:Int))=true->∀ob,Q (.dat .bool<|decide ((s.length:Int)<=24)) ob)->Ends Xo (L2 s s i) Q
 |[],i,h,o,q,l,m=>by
  have:=drop_nil h o;refine Ends.Ai (Az ..) (Ends.ff (by simp;omega)<|Ends.tt (by simpa using b) ?_);exact Ends.leaf<|m rfl _
 |x::r,i,h,o,q,l,m=>by
  obtain⟨g,p,y⟩:=drop_cons (d:=0) h;refine Ends.Ai (Az ..) (Ends.tt (by simpa using g) ?_);have z:((i:Int)==0)=false:=by simp;omega
  simp only[FA,HC,z,Bool.false_eq_true,vf,w5,Bool.not_eq_true',w9,bne_iff_ne,wm];have step:zz (x.toNat:Int)=true->KT s i=1->Ends Xo (L2 s s<|zx i<|KT s i) Q:=by
   intro a t;rw[t];refine loop s b r (i+1) y g ae (fun e=>l<|by simp[e]) (fun e=>m<|by simp[e];exact a)
  have no:zz (x.toNat:Int)=false->∀ob,Q (.bl false) ob:=fun a=>l (by simp[a])
  by_cases n:(s.getD i 0).toNat<128
  ·obtain⟨u,w⟩:=Wi g n;rw[u,p];have j:=Ra (x.toNat:Int);generalize ((x.toNat:Nat):Int)=c at j step no ⊢;by_cases a:zz c=true
   ·have:=j.1 a;repeat' split
    all_goals first|exact step a w|(exfalso;omega)
   ·have k:zz c=false:=by simpa using a
    have:¬_:=fun h=>a<|j.2 h
    repeat' split
    all_goals first|exact no k _|(exfalso;omega)
  ·have hr:=SW g ae;have v:zz (x.toNat:Int)=false:=by
    have:¬zz (x.toNat:Int)=true:=fun h=>by
     have:=(Ra _).1 h;rw[p]at n;omega
    simpa using this
   repeat' split
   all_goals first|exact no v _|(exfalso;omega)
end T166
theorem Nw{α:Type}{l r:List α}{x:α}{i:Nat}(h:l.drop i=x::r):l.take (i+1)=l.take i++[x]:=by
 have b:=(drop_cons (d:=x) h).1;have a:=(drop_cons (d:=x) h).2.1;rw[List.take_add_one];congr 1;have:l[i]?=some x:=by
  have e:=zn b;rw[e];simp only[List.getD,e,Option.getD_some]at a;rw[a]
 rw[this];rfl
theorem Ay{C:Ctx}:∀g sp,Y3 [] g=some sp->Af C g sp:=fun g sp h=>by cases h
theorem Aa{C:Ctx}{b:FuncId}{c:Am}{l:List (FuncId×Am)}(h0:Af C b c)(d:∀g sp,Y3 l g=some sp->Af C g sp):∀g sp,Y3 ((b,c)::l) g=some sp->Af C g sp:=by
 intro g sp h;unfold Y3 at h;cases a:zp b g with
 |true=>rw[a]at h;cases h;have:=zt a;subst this;exact h0
 |false=>rw[a]at h;exact d g sp h
theorem HD{f:FuncId}{s t:List Sh}{g:(BE s).T->(BE t).T}{nd:Bool}(a:A4.prim f=none)(b:∃i,A4.fn f=some i):Af A4 f ⟨s,fun _=>false,t,g,nd⟩:=
 .of0 ⟨a,b,fun F h args i _ _ _ _ hp=>by cases hp⟩
theorem D3{α:Type}(A B:List α)(x d:α){n:Nat}(h:A.length=n):(A++x::B).getD n d=x:=by
 subst h;simp[List.getD]
theorem DQ{α:Type}(A B:List α)(x y:α){n:Nat}(h:A.length=n):(A++x::B).set n y=A++y::B:=by
 subst h;simp
end Go.Pe
namespace Go.Sp
open Go.Pe (Fa imax)
theorem tV(a b:Int):Fa a b=min a b:=by unfold Fa;split<;>omega
abbrev Ap:Nat:=18446744073709551616
abbrev AM:=Int×List Int
def De(l:List Int):Bool:=decide (l.length<=20000)&&l.all fun d=>decide (0<=d)&&decide (d<18446744073709551616)
def hW(l:List Int):Bool:=De l&&decide (l.length<=9000)
def nzW(l:List Int):Bool:=decide (l.getLast?≠some 0)
def Cz(l:List Int):Bool:=De l&&nzW l
def Av(l:List Int):Int:=val Ap l
def BF(n:Int):List Int:=dg Ap n
def u64(n:Int):Bool:=decide (0<=n)&&decide (n<18446744073709551616)
def Ct(n:Int):Bool:=decide (-9223372036854775808<=n)&&decide (n<9223372036854775808)
def Ah(n:Int):Int:=if n<0 then -n else n
theorem Al(n:Int):Ah n=(n.natAbs:Int):=by unfold Ah;split<;>omega
def vI(a:AM):Int:=if a.2=[]then a.1 else if a.1<0 then -Av a.2 else Av a.2
def Dy(a:AM):Bool:=Ct a.1&&(decide (a.2=[])||(Cz a.2&&(decide (a.1=1)||decide (a.1= -1))&&decide (9223372036854775808<=Av a.2)))
def Dh(n:Int):AM:=if -9223372036854775808<n/\n<9223372036854775808 then(n,[])else(if n<0 then -1 else 1,BF<|Ah n)
def C9(n:Int):Int:=(Dh n).1
def C8(n:Int):List Int:=(Dh n).2
def sg(neg:Bool)(v:Int):Int:=if neg=true then -v else v
def IF(x y c:Int):Int:=(x+y+c) % 18446744073709551616
def PL(x y c:Int):Int:=(x+y+c)/18446744073709551616
def Vg(x y c:Int):Int:=(x-y-c) % 18446744073709551616
def RF(x y c:Int):Int:=if x<y+c then 1 else 0
def IT(x y:Int):Int:=(x*y) % 18446744073709551616
def Sb(x y:Int):Int:=(x*y)/18446744073709551616
def Cp(a b:Int):Int:=if a<b then -1 else if a>b then 1 else 0
def Og(n:Int):Int:=if n<0 then -1 else if n>0 then 1 else 0
def EW(a b:AM):AM:=if a.2=[]/\b.2=[]/\Ct (a.1+b.1)=true then(a.1+b.1,[])else Dh<|vI a+vI b
def DA(a:AM):AM:=if a.2=[]/\a.1≠ -9223372036854775808 then(-a.1,[])else Dh<| -vI a
def Vj(a:AM):AM:=if a.1<0 then DA a else a
def Ot(a b:AM):AM:=EW a<|DA b
def FU(a b:AM):AM:=Dh<|vI a*vI b
def E0(a:AM):Int:=(DA a).1
def E1(a:AM):List Int:=(DA a).2
def Ru(a:AM):Int:=(Vj a).1
def QD(a:AM):List Int:=(Vj a).2
def KO(a b:AM):Int:=(EW a b).1
def KR(a b:AM):List Int:=(EW a b).2
def ZB(a b:AM):Int:=(Ot a b).1
def ZJ(a b:AM):List Int:=(Ot a b).2
def Fx(a b:AM):Int:=(FU a b).1
def Fy(a b:AM):List Int:=(FU a b).2
end Go.Sp
namespace Go.Pe
open Sp
open Go.Det
abbrev A3:Sh:=.pair (.int .i64)<|.nlist<|.int .u64
abbrev u64:Sh:=.int .u64
abbrev DG:Sh:=.list<|.int .u64
abbrev wU:Sh:=.nlist<|.int .u64
def YX:Am:=⟨[u64,u64,u64],fun i=>Sp.u64 i.1&&Sp.u64 i.2.1&&decide (0<=(i.2.2:Int))&&decide ((i.2.2:Int)<=1),[u64,u64],fun i=>(IF i.1 i.2.1 i.2.2,PL i.1 i.2.1 i.2.2),false⟩
def YM:Am:=⟨[u64,u64,u64],fun i=>Sp.u64 i.1&&Sp.u64 i.2.1&&decide (0<=(i.2.2:Int))&&decide ((i.2.2:Int)<=1),[u64,u64],fun i=>(Vg i.1 i.2.1 i.2.2,RF i.1 i.2.1 i.2.2),false⟩
def Td:Am:=⟨[u64,u64],fun i=>Sp.u64 i.1&&Sp.u64 i.2,[u64,u64],fun i=>(Sb i.1 i.2,IT i.1 i.2),false⟩
def YB:Am:=⟨[i64],fun n=>Ct n,[u64],fun n=>Ah n,false⟩
def Qq:Am:=⟨[A3],fun a=>Sp.Dy a,[.bool,DG],fun a=>(decide (Sp.vI a<0),BF<|Ah<|Sp.vI a),false⟩
def mD:Am:=⟨[.bool,DG],fun i=>Cz i.2,[A3],fun i=>(C9<|Sp.sg i.1<|Av i.2,C8<|Sp.sg i.1<|Av i.2),false⟩
def YV:Am:=⟨[DG],fun l=>De l,[DG],fun l=>AA l,false⟩
def bG:Am:=⟨[DG,DG],fun i=>Cz i.1&&Cz i.2,[i64],fun i=>Cp (Av i.1)<|Av i.2,false⟩
def sC:Am:=⟨[DG,DG],fun i=>Sp.hW i.1&&Sp.hW i.2,[DG],fun i=>BF<|Av i.1+Av i.2,false⟩
def sE:Am:=⟨[DG,DG],fun i=>De i.1&&De i.2&&decide (Av i.2<=Av i.1),[DG],fun i=>BF<|Av i.1-Av i.2,false⟩
def rK:Am:=⟨[DG,DG],fun i=>Sp.hW i.1&&Sp.hW i.2,[DG],fun i=>BF<|Av i.1*Av i.2,false⟩
def nD:AL:=X7 []
def LL:AL:=X7 [(179,YB),(216,YX),(218,YM),(217,YV),(178,Td)]
def XI2:AL:=X7 [(173,Qq),(174,mD),(175,sC),(177,sE),(176,bG),(180,rK),(178,Td),(179,YB)]
theorem Sa{F:Fz}{x y c:Int}{args:List V}(h:Na F (Ag [Pe.u64,Pe.u64,Pe.u64] (x,y,c)) args):args=[.int .u64 x,.int .u64 y,.int .u64 c]:=by
 have:=h (fun _=>none) 0;simp only[Ag,Cx,BJ]at this;obtain⟨a,l,rfl,e,b,j,rfl,i,d,k,rfl,g,rfl⟩:=this;simp only[PR,DC,zy,ve]at e i g;rw[e,i,g]
theorem A8{n:Int}(h:Sp.u64 n=true):0<=n/\n<18446744073709551616:=by
 unfold Sp.u64 at h;rw[ze,w5,w5]at h;exact h
namespace T216
theorem ok:Af A4 216 YX:=by
 refine .inr ⟨PK.add64.run,by kernel_rfl,fun F h args i k hp=>?_⟩;obtain⟨x,y,c⟩:=i;have hp:(Sp.u64 x&&Sp.u64 y&&decide (0<=c)&&decide (c<=1))=true:=hp;rw[ze,ze,ze,w5,w5]at hp;obtain⟨⟨⟨e,g⟩,c0⟩,j⟩:=hp;have e:=A8 e;have g:=A8 g;have:=Sa k;subst this;obtain⟨a,rfl⟩:=zk e.1;obtain⟨b,rfl⟩:=zk g.1;obtain⟨d,rfl⟩:=zk c0;have j:(d:Int)<=1:=j;have l:yi d 1=true:=Nat.ble_eq_true_of_le ae;refine⟨.tup [.int .u64<|.ofNat<|(a+b+d) % iH,.int .u64<|.ofNat<|(a+b+d)/iH],?_,fun ρ N=>?_⟩
 ·show(bif yi d 1 then _ else _)=_;rw[l];rfl
 ·show PR F ρ N (.tup [.dat Pe.u64<|IF a b d,.dat Pe.u64<|PL a b d]) _;simp only[PR,BJ];refine⟨_,rfl,_,_,rfl,?_,_,_,rfl,?_,rfl⟩<;>simp[DC,iH,IF,PL]
end T216
namespace T218
theorem ok:Af A4 218 YM:=by
 refine .inr ⟨PK.sub64.run,by kernel_rfl,fun F h args i n hp=>?_⟩;obtain⟨x,y,c⟩:=i;have hp:(Sp.u64 x&&Sp.u64 y&&decide (0<=c)&&decide (c<=1))=true:=hp;rw[ze,ze,ze,w5,w5]at hp;obtain⟨⟨⟨j,k⟩,c0⟩,l⟩:=hp;have j:=A8 j;have k:=A8 k;have:=Sa n;subst this;obtain⟨a,rfl⟩:=zk j.1;obtain⟨b,rfl⟩:=zk k.1;obtain⟨d,rfl⟩:=zk c0;have l:(d:Int)<=1:=l;have m:yi d 1=true:=Nat.ble_eq_true_of_le ae;refine⟨.tup [.int .u64<|.ofNat<|(a+iH-b-d) % iH,.int .u64<|.ofNat<|bif z8 a (b+d)then 1 else 0],?_,fun ρ N=>?_⟩
 ·show(bif yi d 1 then _ else _)=_;rw[m];rfl
 ·show PR F ρ N (.tup [.dat Pe.u64<|Vg a b d,.dat Pe.u64<|RF a b d]) _;simp only[PR,BJ];refine⟨_,rfl,_,_,rfl,?_,_,_,rfl,?_,rfl⟩
  ·simp only[DC,iH,Vg,zy,V.int.injEq,ve,true_and];have e:(((a+18446744073709551616-b-d) % 18446744073709551616:Nat):Int)=((a:Int)-b-d) % 18446744073709551616:=ae
   exact e
  ·simp only[DC,RF,zy,V.int.injEq,ve,true_and];rw[HE];by_cases g:a<b+d
   ·rw[wd ae];simp[g]
   ·rw[wc ae];simp[g]
end T218
end Go.Pe
namespace Go.Sp
theorem AK(b:Int):∀(l:List Int) (i:Nat),val b (l.take<|i+1)=val b (l.take i)+b^i*l.getD i 0
 |[],i=>by simp[val]
 |x::l,0=>by
  show x+b*val b (l.take 0)=0+b^0*x;simp[val]
 |x::l,i+1=>by
  have:=AK b l i;show x+b*val b (l.take<|i+1)=x+b*val b (l.take i)+b^(i+1)*l.getD i 0;rw[this,Int.mul_add,Int.pow_succ,Int.mul_comm (b^i) b,Int.mul_assoc,Int.add_assoc]
theorem IX{l:List Int}(h:De l=true):l.length<=20000/\AB Ap l:=by
 unfold De at h;rw[ze,w5,List.all_eq_true]at h;exact⟨h.1,fun d a=>by
  have:=h.2 d a;rw[ze,w5,w5]at this;exact this⟩
theorem ER{l:List Int}(a:l.length<=20000)(c:AB Ap l):De l=true:=by
 unfold De;rw[ze,w5,List.all_eq_true];exact⟨a,fun d b=>by
  have:=c d b;rw[ze,w5,w5];exact this⟩
theorem Z9{l:List Int}(h:hW l=true):l.length<=9000/\AB Ap l:=by
 unfold hW at h;rw[ze,w5]at h;exact⟨h.2,(IX h.1).2⟩
theorem A0{l:List Int}(h:AB Ap l)(i:Nat):u64 (l.getD i 0)=true:=by
 unfold u64;rw[ze,w5,w5];rcases yf i l.length with a|a
 ·have:l.getD i 0∈l:=by rw[zl,zn a];exact List.getElem_mem a
  exact h _ this
 ·rw[zl,List.getElem?_eq_none a];exact⟨by decide,by decide⟩
theorem A8{n:Int}(h:u64 n=true):0<=n/\n<18446744073709551616:=by
 unfold u64 at h;rw[ze,w5,w5]at h;exact h
theorem C3{n:Int}(a:0<=n)(b:n<18446744073709551616):u64 n=true:=by
 unfold u64;rw[ze,w5,w5];exact⟨a,b⟩
theorem Ex{l:List Int}{x:Int}(h:AB Ap l)(b:u64 x=true):AB Ap (l++[x]):=by
 intro d a;rw[yc,zf]at a;rcases a with a|rfl
 ·exact h d a
 ·exact A8 b
theorem MQ{x y c:Int}(a:u64 x=true)(b:u64 y=true)(d:0<=c/\c<=1):u64 (IF x y c)=true/\(0<=PL x y c/\PL x y c<=1)/\IF x y c+18446744073709551616*PL x y c=x+y+c:=by
 have:=A8 a;have:=A8 b;unfold IF PL;exact⟨C3 ae ae,⟨by omega,by omega⟩,by omega⟩
theorem HQ{x y c:Int}(a:u64 x=true)(b:u64 y=true)(d:0<=c/\c<=1):u64 (Vg x y c)=true/\(0<=RF x y c/\RF x y c<=1)/\Vg x y c-18446744073709551616*RF x y c=x-y-c:=by
 have:=A8 a;have:=A8 b;unfold Vg RF;refine⟨C3 ae ae,?_,?_⟩<;>split<;>omega
theorem Fv(l:List Int)(x:Int):val Ap (l++[x])=val Ap l+(Ap:Int)^l.length*x:=by
 rw[Dg];simp[val]
theorem LA(i:Nat)(c:Int):(Ap:Int)^(i+1)*c=(Ap:Int)^i*(18446744073709551616*c):=by
 rw[Int.pow_succ,Int.mul_assoc];rfl
theorem J2(p:List Int)(n i:Nat)(x:Int)(h:p.length=i)(a:i<n):(p++List.replicate (n-i) (0:Int)).set i x=(p++[x])++List.replicate (n-(i+1)) 0:=by
 have:n-i=(n-(i+1))+1:=ae
 rw[this,List.replicate_succ,Pe.DQ p _ 0 x h,List.append_assoc];rfl
theorem LX{l:List Int}(h:AB Ap l):AA l=BF (Av l):=Zu af h
end Go.Sp
namespace Go.Pe
open Sp
open Go.Det
section
open List Int Prod
namespace T179
def T(n:Int):Tr:=tree nD false 9 179<|Ag ([zh IntKind.i64]) n
theorem Aj(n:Int):T n=.di (n<0) (.leaf (.dat (zh zd)<|zc .u64<|zc .i64<|0-n) []) (.leaf (.dat (zh zd)<|zc .u64 n) []):=by kernel_rfl
end T179
namespace T173
def T(a:AM):Tr:=tree LL false 9 173<|Ag ([A3]) a
theorem Aj(a:AM):T a=.di (0<length (snd a)) (.leaf (.tup [.dat Sh.bool<|decide (fst a<0),.dat wU<|snd a]) []) (.ite (fst a==0) (.leaf (.tup [.bl false,.nil]) [])<|.ck (Ct<|fst a)<|.leaf (.tup [.dat Sh.bool<|decide (fst a<0),.sl (zx 0 1) 1 0 1 none])<|[(zx 0 1,.arr false 217 (zh zd) [Ah<|fst a]),(0,.box [.dat i64<|fst a,.dat wU<|snd a])]):=by kernel_rfl
end T173
namespace T174
def T(neg:Bool)(w:List Int):Tr:=tree LL false 9 174<|Ag ([Sh.bool,zj<|zh zd]) (neg,w)
theorem Aj(neg:Bool)(w:List Int):T neg w=let d:=decide (getD w 0 0<=9223372036854775807);let b:=(length w:Int);let e:=zj<|zh zd;let b':Tr:=.ite neg (.leaf (PV.agg [.dat i64 (-1:Int),.dat e w]) [])<|.leaf (PV.agg [.dat i64 (1:Int),.dat e w]) [];let a:=decide (0<b);let c:Tr:=.ite (b==1) (.ck a<|.ite d (.ck a<|.leaf (PV.agg [.dat i64<|zc .i64<|getD w 0 0,.nil]) []) b') b';.ite (b==0) (.leaf (PV.agg [.dat i64 (0:Int),.nil]) []) (.ite (b==1) (.ck a<|.ite d (.ite neg (.ck a<|.leaf (PV.agg [.dat i64<|zc .i64<|0-zc .i64 (getD w 0 0),.nil]) []) c) c) c):=by kernel_rfl
end T174
namespace T217
def T(w:List Int):Tr:=tree nD false 9 217<|Ag ([zj<|zh zd]) w
def L1(v0:List Int)(v3:Int):Tr:=re ((T []))<|Aw 21 [(0,.dat (zj<|zh zd) v0),(3,.dat i64 v3)] [] 0
theorem Aj(w:List Int):T w=L1 w ((length w:Int)):=by kernel_rfl
theorem Ak(v0:List Int)(v3:Int):stepT nD (L1 v0 v3)=let a:Tr:=.ck (decide (0<=v3)&&decide (0<=toNat v3)&&decide (toNat v3<=length v0))<|.leaf (.dat (zj<|zh zd)<|take (toNat v3) v0) [];let b':=zc .i64<|v3-1;.di (v3>0) (.ck (decide (0<=zc .i64 (v3-1))&&decide (zc .i64 (v3-1)<(length v0:Int)))<|.ite (getD v0 (toNat b') 0==0) (L1 v0 b') a) a:=by kernel_rfl
end T217
namespace T176
def T(a b:List Int):Tr:=tree nD false 9 176<|Ag ([zj<|zh zd,zj<|zh zd]) (a,b)
def L1(v0 v1:List Int)(v5:Int):Tr:=re ((T [] []).R)<|Aw 41 [(0,.dat (zj<|zh zd) v0),(1,.dat (zj<|zh zd) v1),(5,.dat i64 v5)] [] 0
theorem Aj(a b:List Int):T a b=let c:=(length a:Int);.ite (c !=(length b:Int)) (.di (c<(length b:Int)) (.leaf (.dat i64 (-1:Int)) [])<|.leaf (.dat i64 (1:Int)) []) (L1 a b<|zc .i64<|c-1):=by kernel_rfl
theorem Ak(v0 v1:List Int)(v5:Int):stepT nD (L1 v0 v1 v5)=let a:=decide (0<=v5)&&decide (v5<(length v0:Int));let b':=decide (0<=v5)&&decide (v5<(length v1:Int));.di (v5>=0) (.ck a<|.ck b'<|.ite (getD v0 (toNat v5) 0 !=getD v1 (toNat v5) 0) (.ck a<|.ck b'<|.di (getD v0 (toNat v5) 0<getD v1 (toNat v5) 0) (.leaf (.dat i64 (-1:Int)) [])<|.leaf (.dat i64 (1:Int)) [])<|L1 v0 v1<|zc .i64<|v5-1) (.leaf (.dat i64 (0:Int)) []):=by kernel_rfl
end T176
namespace T175
def T(x y:List Int):Tr:=tree LL false 9 175<|Ag ([zj<|zh zd,zj<|zh zd]) (x,y)
def L1(v0 v1:List Int)(b:Nat)(e a c:Int)(d:List Int):Tr:=re ((T [] []).L.L)<|Aw 54 [(0,.dat (zj<|zh zd) v0),(1,.dat (zj<|zh zd) v1),(5,.sl 0 1 0 b none),(6,.dat (zh zd) e),(21,.dat i64 a),(22,.dat i64 c)] [(0,.arr false 217 (zh zd) d)] 1
theorem Aj(x y:List Int):T x y=let a:=(length x:Int);let b':=(length y:Int);let c:=zc .i64<|b'+1;let b:=zc .i64<|a+1;.di (a<b') (.ck (decide (0<=zc .i64 (b'+1))&&decide (zc .i64 (b'+1)=zc .i64 (b'+1))&&decide (8*toNat c<=281474976710656)&&decide (zc .i64 (b'+1)<9223372036854775808))<|L1 y x (toNat c) 0 b' 0<|replicate (toNat c) 0) (.ck (decide (0<=zc .i64 (a+1))&&decide (zc .i64 (a+1)=zc .i64 (a+1))&&decide (8*toNat b<=281474976710656)&&decide (zc .i64 (a+1)<9223372036854775808))<|L1 x y (toNat b) 0 a 0<|replicate (toNat b) 0):=by kernel_rfl
theorem Ak(v0 v1:List Int)(b:Nat)(d c a:Int)(g:List Int):stepT LL (L1 v0 v1 b d c a g)=let e:=getD v0 (toNat a) 0;let b':=(length v0:Int);let j:=getD v1 (toNat a) 0;let l:=decide (0<=a)&&decide (a<(↑b:Int));let m:=decide ((0:Sh.T (BE [u64]))<=d);let p:=decide (d<=(1:Sh.T (BE [u64])));let n:=decide (toNat a<length g);let o:=decide (a<(length v1:Int));let k:=zc .i64<|a+1;let i:=set g (toNat b') d;let h':=decide (0<=a)&&decide (a<b');.di (a<c) (.ite o (.ck (decide (0<=a)&&o)<|.ck h'<|.ck (Sp.u64 e&&Sp.u64 j&&m&&p)<|.ck l<|.ck n<|L1 v0 v1 b (PL e j d) c k<|set g (toNat a)<|IF e j d)<|.ck h'<|.ck (Sp.u64 e&&Sp.u64 0&&m&&p)<|.ck l<|.ck n<|L1 v0 v1 b (PL e 0 d) c k<|set g (toNat a)<|IF e 0 d) (.ck (decide (0<=b')&&decide (b'<(↑b:Int)))<|.cd (toNat b'<length g)<|.ck (decide (0+b<=length i)&&true&&De (take b i))<|.leaf (.dat (zj<|zh zd)<|AA<|take b i) []):=by kernel_rfl
end T175
namespace T177
def T(x y:List Int):Tr:=tree LL false 9 177<|Ag ([zj<|zh zd,zj<|zh zd]) (x,y)
def L1(v0 v1:List Int)(a:Nat)(e b c:Int)(d:List Int):Tr:=re ((T [] []).L)<|Aw 41 [(0,.dat (zj<|zh zd) v0),(1,.dat (zj<|zh zd) v1),(5,.sl 0 1 0 a none),(6,.dat (zh zd) e),(13,.dat i64 b),(14,.dat i64 c)] [(0,.arr false 217 (zh zd) d)] 1
theorem Aj(x y:List Int):T x y=let a:=(length x:Int);.ck (decide (0<=a)&&decide (a=a)&&decide (8*toNat a<=281474976710656)&&decide (a<9223372036854775808)) (L1 x y (toNat a) 0 a 0<|replicate (toNat a) 0):=by kernel_rfl
theorem Ak(v0 v1:List Int)(b:Nat)(e c a:Int)(d:List Int):stepT LL (L1 v0 v1 b e c a d)=let g:=getD v0 (toNat a) 0;let b':=decide (0<=a)&&decide (a<(length v0:Int));let i:=getD v1 (toNat a) 0;let j:=decide (0<=a)&&decide (a<(↑b:Int));let m:=decide ((0:Sh.T (BE [u64]))<=e);let n:=decide (e<=(1:Sh.T (BE [u64])));let k:=decide (toNat a<length d);let h':=decide (a<(length v1:Int));let l:=zc .i64<|a+1;.di (a<c) (.ite h' (.ck (decide (0<=a)&&h')<|.ck b'<|.ck (Sp.u64 g&&Sp.u64 i&&m&&n)<|.ck j<|.ck k<|L1 v0 v1 b (RF g i e) c l<|set d (toNat a)<|Vg g i e)<|.ck b'<|.ck (Sp.u64 g&&Sp.u64 0&&m&&n)<|.ck j<|.ck k<|L1 v0 v1 b (RF g 0 e) c l<|set d (toNat a)<|Vg g 0 e) (.ck (decide (0+b<=length d)&&true&&De (take b d))<|.leaf (.dat (zj<|zh zd)<|AA<|take b d) []):=by kernel_rfl
end T177
namespace T178
def T(x y:Int):Tr:=tree nD false 9 178<|Ag ([zh zd,zh zd]) (x,y)
theorem Aj(x y:Int):T x y=let a:=zc .u64<|zc .u64 (z7 x (2^32)*Iv zd y 4294967295)+z7 (zc .u64<|Iv zd x 4294967295*Iv zd y 4294967295) (2^32);.ck true (.ck true<|.ck true<|.ck true<|.ck true<|.leaf (.tup [.dat (zh zd)<|zc .u64<|zc .u64 (zc .u64 (z7 x (2^32)*z7 y (2^32))+z7 a (2^32))+z7 (zc .u64<|Iv zd a 4294967295+zc .u64 (Iv zd x 4294967295*z7 y (2^32))) (2^32),.dat (zh zd)<|zc .u64<|x*y]) []):=by kernel_rfl
end T178
namespace T180
def T(x y:List Int):Tr:=tree LL false 9 180<|Ag ([zj<|zh zd,zj<|zh zd]) (x,y)
def L1(v1:List Int)(b:Nat)(v20:List Int)(a c:Int)(d:List Int):Tr:=re ((T [] []).L)<|Aw 80 [(1,.dat (zj<|zh zd) v1),(5,.sl 0 1 0 b none),(20,.dat (zj<|zh zd) v20),(21,.dat i64 a),(22,.dat i64 c)] [(0,.arr false 217 (zh zd) d)] 1
theorem Aj(x y:List Int):T x y=let a:=(length x:Int)+(length y:Int);let b':=zc .i64 a;.ck (decide (0<=zc .i64 a)&&decide (zc .i64 a=zc .i64 a)&&decide (8*toNat b'<=281474976710656)&&decide (zc .i64 a<9223372036854775808)) (L1 y (toNat b') x ((length x:Int)) 0<|replicate (toNat b') 0):=by kernel_rfl
def L2(v1:List Int)(b:Nat)(l j k:Int)(v20:List Int)(d e:Int)(c:List Int)(g a:Int)(i:List Int):Tr:=re ((stepT LL<|L1 [] 0 [] 0 0 []).L.L)<|Aw 80 [(1,.dat (zj<|zh zd) v1),(5,.sl 0 1 0 b none),(6,.dat i64 l),(7,.dat (zh zd) j),(8,.dat (zh zd) k),(20,.dat (zj<|zh zd) v20),(21,.dat i64 d),(22,.dat i64 e),(27,.dat (zj<|zh zd) c),(28,.dat i64 g),(29,.dat i64 a)] [(0,.arr false 217 (zh zd) i)] 1
theorem Ak(v1:List Int)(b:Nat)(v20:List Int)(c a:Int)(d:List Int):stepT LL (L1 v1 b v20 c a d)=.di (a<c) (.ck (decide (0<=a)&&decide (a<(length v20:Int)))<|L2 v1 b a (getD v20 (toNat a) 0) 0 v20 c a v1 ((length v1:Int)) 0 d) (.ck (decide (0+b<=length d)&&true&&De (take b d))<|.leaf (.dat (zj<|zh zd)<|AA<|take b d) []):=by kernel_rfl
theorem Az(v1:List Int)(b:Nat)(i k l:Int)(v20:List Int)(e d:Int)(c:List Int)(g a:Int)(j:List Int):stepT LL (L2 v1 b i k l v20 e d c g a j)=let b':=zc .i64<|i+a;let q:=getD c (toNat a) 0;let r:=decide (0<=zc .i64 (i+a))&&decide (zc .i64 (i+a)<(↑b:Int));let m:=i+(length v1:Int);let t:=decide ((0:Sh.T (BE [u64]))<=0);let h':=decide (0<=(1:Sh.T (BE [u64])));let n:=getD j (toNat b') 0;let s:=decide (toNat b'<length j);let o:=IT k q;let p:=IF o n 0;.di (a<g) (.ck (decide (0<=a)&&decide (a<(length c:Int)))<|.ck (Sp.u64 k&&Sp.u64 q)<|.ck r<|.ck s<|.ck (Sp.u64 o&&Sp.u64 n&&t&&h')<|.ck (Sp.u64 p&&Sp.u64 l&&t&&h')<|.ck r<|.ck s<|L2 v1 b i k (zc .u64<|zc .u64 (Sb k q+PL o n 0)+PL p l 0) v20 e d c g (zc .i64<|a+1)<|set j (toNat b')<|IF p l 0) (.ck (decide (0<=zc .i64 m)&&decide (zc .i64 m<(↑b:Int)))<|.cd (toNat (zc .i64 m)<length j)<|L1 v1 b v20 e (zc .i64<|d+1)<|set j (toNat<|zc .i64 m) l):=by kernel_rfl
end T180
end
theorem Kt:CE nD:=fun g sp h=>by cases h
theorem wu(x:Int)(a:0<=x)(b:x<=18446744073709551615):zc .u64 x=x:=IntWalk.u64_in x ⟨a,b⟩
theorem EN{n:Int}(h:Ct n=true): -9223372036854775808<=n/\n<9223372036854775808:=by
 unfold Ct at h;rw[ze,w5,w5]at h;exact h
namespace T179
theorem ok:Af A4 179 YB:=by
 refine BD Kt<|fun(n:Int) a=>?_;have a:=EN (n:=n) a;refine Ends.eq (Aj n)<|Ends.ite (fun c=>?_)<|fun c=>?_
 ·have c:=w6 c;refine Ends.leaf<|Ac.of rfl rfl ?_;show zc .u64 (zc .i64<|0-n)=Ah n;simp only[Al];rcases Int.lt_or_le (-9223372036854775808) n with h|h
  ·rw[wr _ ae ae,wu _ ae ae];omega
  ·have:n= -9223372036854775808:=ae
   subst this;decide+kernel
 ·have c:=w7 c;refine Ends.leaf<|Ac.of rfl rfl ?_;show zc .u64 n=Ah n;simp only[Al];rw[wu _ ae ae];omega
end T179
namespace T217
theorem Ar{Q:PV->Ob->Prop}(w:List Int)(e:w.length<=20000)(b:∀ob,Q (.dat DG<|AA w) ob):∀(i:Nat),i<=w.length->AA w=AA (w.take i)->Ends nD (L1 w i) Q
 |0,j,a=>by
  have a:AA w=[]:=a;rw[a]at b;refine Ends.Ai (Ak ..) (Ends.ff (by simp)<|Ends.tt (by simp)<|Ends.leaf<|b _)
 |i+1,j,a=>by
  have g:zc .i64 (((i+1:Nat):Int)-1)=(i:Int):=by rw[wr _ ae ae];omega
  have d:w.take (i+1)=w.take i++[w.getD i 0]:=by
   rw[List.take_add_one];congr 1;rw[zl,zn ae];rfl
  refine Ends.Ai (Ak ..) (Ends.tt (by simp<;>omega) ?_);rw[g,Int.toNat_natCast];refine Ends.tt (by simp<;>omega)<|Ends.ite (fun c=>?_)<|fun c=>?_
  ·have c:w.getD i 0=0:=by simpa using c
   refine Ar w e b i ae ?_;rw[a,d,c,Jz]
  ·have c:w.getD i 0≠0:=by simpa using c
   refine Ends.tt (by simp;omega)<|Ends.leaf ?_;have:AA w=w.take (i+1):=by rw[a,d,I7<|Z5 c]
   rw[this]at b;exact b _
theorem ok:Af A4 217 YV:=by
 refine BD Kt<|fun(w:List Int) hw=>?_;obtain⟨a,b⟩:=IX (l:=w) hw;refine Ends.eq (Aj w) (Ar w a (fun ob=>Ac.of rfl rfl rfl) w.length (zg _)<|by rw[List.take_length])
end T217
theorem FN{l:List Int}(h:Cz l=true):l.length<=20000/\AB Ap l/\Sp.nz l:=by
 unfold Cz at h;rw[ze]at h;have:=IX h.1;exact⟨this.1,this.2,by
  have:=h.2;unfold Sp.nzW at this;have:l.getLast?≠some 0:=w6 this;exact this⟩
namespace T176
theorem Ar{Q:PV->Ob->Prop}(a b:List Int)(l:AB Ap a)(k:AB Ap b)(n:a.length=b.length)(q:b.length<=20000)(g:∀ob,Q (.dat i64<|Cp (Av a)<|Av b) ob):∀(i:Nat),i<=a.length->a.drop i=b.drop i->Ends nD (L1 a b<|(i:Int)-1) Q
 |0,p,j=>by
  have j:a=b:=j;have:Cp (Av a) (Av b)=0:=by rw[j];unfold Cp;simp
  rw[this]at g;exact Ends.Ai (Ak ..) (Ends.ff (by simp)<|Ends.leaf<|g _)
 |i+1,p,j=>by
  have o:(((i+1:Nat):Int)-1)=(i:Int):=ae
  have m:a.drop i=a.getD i 0::a.drop (i+1):=by
   rw[zl,zn ae];exact zu ae
  have db:b.drop i=b.getD i 0::a.drop (i+1):=by
   rw[j,zl,zn ae];exact zu ae
  have r:=Sp.A8<|A0 l i;have s:=Sp.A8<|A0 k i;rw[o];refine Ends.Ai (Ak ..) (Ends.tt (by simp) ?_);rw[Int.toNat_natCast];refine Ends.tt (by simp;omega) (Ends.tt (by simp;omega) (Ends.ite (fun c=>Ends.tt (by simp;omega)<|Ends.tt (by simp;omega)<|Ends.ite (fun d=>?_)<|fun d=>?_)<|fun c=>?_))
  ·have d:=w6 d;have:=JX (b:=Ap) af l k m db d;have e:Cp (Av a) (Av b)= -1:=by unfold Cp;exact wd this
   rw[e]at g;exact Ends.leaf<|g _
  ·have d:=w7 d;have c:a.getD i 0≠b.getD i 0:=by simpa using c
   have:=JX (b:=Ap) af k l db m ae;have e:Cp (Av a) (Av b)=1:=by
    unfold Cp Av;rw[wc ae,wd ae]
   rw[e]at g;exact Ends.leaf<|g _
  ·have c:a.getD i 0=b.getD i 0:=by simpa using c
   rw[wr ((i:Int)-1) ae ae];exact Ar a b l k n q g i ae (by rw[m,db,c])
theorem ok:Af A4 176 bG:=by
 refine BD Kt<|fun(i:List Int×List Int) j=>?_;obtain⟨a,b⟩:=i;have j:(Cz a&&Cz b)=true:=j;rw[ze]at j;obtain⟨a1,a2,a3⟩:=FN j.1;obtain⟨b1,b2,b3⟩:=FN j.2;have g:∀ob,Ac bG (a,b) (.dat i64<|Cp (Av a)<|Av b) ob:=fun ob=>Ac.of rfl rfl rfl
 refine Ends.eq (Aj a b)<|Ends.ite (fun c=>Ends.ite (fun d=>?_)<|fun d=>?_)<|fun c=>?_
 ·have d:=w6 d;have e:Cp (Av a) (Av b)= -1:=by unfold Cp;exact wd (E8 af a2 b2 b3 ae)
  rw[e]at g;exact Ends.leaf<|g _
 ·have d:=w7 d;have c:(a.length:Int)≠b.length:=by simpa using c
  have:=E8 (b:=Ap) af b2 a2 a3 ae;have e:Cp (Av a) (Av b)=1:=by
   unfold Cp Av;rw[wc ae,wd ae]
  rw[e]at g;exact Ends.leaf<|g _
 ·have c:(a.length:Int)=b.length:=by simpa using c
  rw[wr _ ae ae];exact Ar a b a2 b2 ae b1 g a.length (zg _) (by rw[List.drop_length,show a.length=b.length by omega,List.drop_length])
end T176
end Go.Pe
