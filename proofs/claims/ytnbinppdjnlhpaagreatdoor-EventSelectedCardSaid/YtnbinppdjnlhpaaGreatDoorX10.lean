import Derived.Test.YtnbinppdjnlhpaaGreatDoorX09
import Derived.Test.YtnbinppdjnlhpaaGreatDoorX04
/- A part of a proof (no law is stated here). Made by program out of texts by AI agents. -/
open Option renaming getD → zc, some → zg
open Go.Pe.Ends renaming tt → zd, Af → zi, leaf → zk, ff → zm, ite → zx, eq → zT
open Go.IntKind renaming wrap → ze
open Int renaming toNat_natCast → zf, eq_ofNat_of_zero_le → zq, mul_le_mul_of_nonneg_left → zz, pow_succ → zZ, add_mul_emod_self_left → z6, mul_add → yh, mul_comm → yi
open Nat renaming add → zh, sub → zr, le_refl → zC, min_le_right → zS, min_eq_left → zX, beq_refl → zY, zero_le → z8, min_self → yb
open Go.Pe.Sh renaming bool → zj, list → zn
open Go.Fn renaming func → zl
open Bool renaming and_eq_true → zo, and_eq_false_iff → zL, not_eq_true' → zM, true_and → zV
open List renaming length_eq_zero_iff → zp, take_append_of_le_length → zt, filter_append → zu, getLast?_cons_cons → zw, getElem?_eq_getElem → zy, take_of_length_le → zB, length_filter_le → zE, drop_eq_getElem_cons → zF, filter_eq_self → zH, filter_cons_of_neg → zI, take_length → zN, mem_cons → zO, drop_eq_nil_of_le → zP, take_take → zQ, getD → zR, nil_append → zW, mem_singleton → z5, all_cons → z9, length_cons → ya, drop_of_length_le → yc, headD_cons → ye
open Go.Pe.PV renaming mp → zA, fn → zJ, cells → yg
open Go.Sp renaming letter → zD, first → zG, isName → zK, mark → zU, grow → z7
open Go.Pe.Ae renaming of → yd
open List.cons renaming injEq → yf
section
namespace Go.Pe
open Sp
open Go.Det
theorem Yt:∀n:Fin 201,∀j:Fin 9,decide ((2^j.1:Int)<Sp.size 8 n.1 1)=decide ((2^j.1:Int)<(n.1:Int)):=by decide+kernel
theorem T0{n:Int}(h1:1≤n)(h2:n≤200){j:Nat}(hj:j≤8):((2^j:Int)<Sp.size 8 n 1↔(2^j:Int)<n):=by
 have h:=Yt ⟨n.toNat,by omega⟩ ⟨j,by omega⟩;simp only at h;rw[show((n.toNat:Nat):Int)=n by omega]at h;simpa using h
namespace T25
set_option maxRecDepth 10000 in
theorem A1{Q:PV→Ob→Prop}(n:Int)(l:List Int)(hl:l.length≤400)(hb:Bd l):∀(r:List Int) (i:Nat) (acc:List Int),l.drop i=r→i≤l.length→acc.length≤2*i→Ends N0 (L1 n (acc++exp l.length r).length (acc++exp l.length r)) Q→
  Ends N0 (L4 n l.length acc.length i acc l) Q
 |[],i,acc,h,hi,ha,hq=>by
  have:=drop_nil h hi;refine zi (BA ..) (zm (by simp;omega) ?_);simpa [exp]using hq
 |x::r,i,acc,h,hi,ha,hq=>by
  obtain⟨h1,h2,h3⟩:=drop_cons (d:=0) h;have hx:=hb x (CO h);refine zi (BA ..) ?_;conv=>zeta
  refine zd (by simp<;>omega) (zd (by simp<;>omega) (zd (by simp<;>omega) (zd (by simp<;>omega) (zd (by simp<;>omega) (zd (by simp<;>omega) ?_)))));simp only[zf,h2];rw[wr (2*(l.length:Int)) (by omega) (by omega),wr (2*(l.length:Int)+1) (by omega) (by omega),wr (2*(l.length:Int)+1-x) (by omega) (by omega),wr _ (by omega) (by omega)];rw[show zh acc.length 2=(acc++[x,2*(l.length:Int)+1-x]).length from by simp];refine A1 n l hl hb r (i+1) _ h3 h1 (by simp;omega) ?_;simpa [exp]using hq
theorem AL{Q:PV→Ob→Prop}(n:Int)(l:List Int)(h1:1≤l.length)(hl:l.length≤400)(hb:Bd l)(hq:Ends N0 (L1 n (exp l.length l).length (exp l.length l)) Q):Ends N0 (L2 n l.length 0 l) Q:=by
 cases hc:l with
 |nil=>rw[hc]at h1;cases h1
 |cons x r=>
  rw[←hc];have hd:l.drop 0=x::r:=by rw[hc];rfl
  obtain⟨g1,g2,g3⟩:=drop_cons (d:=0) hd;have hx:=hb x (CO hd);refine zi (AN ..) ?_;conv=>zeta
  refine zd (by simp<;>omega) (zd (by simp<;>omega) (zd (by simp<;>omega) (zd (by simp<;>omega) (zd (by simp<;>omega) (zd (by simp<;>omega) ?_)))));simp only[Int.toNat_zero,g2];rw[wr (2*(l.length:Int)) (by omega) (by omega),wr (2*(l.length:Int)+1) (by omega) (by omega),wr (2*(l.length:Int)+1-x) (by omega) (by omega),wr _ (by omega) (by omega)];refine A1 n l hl hb r 1 [x,2*(l.length:Int)+1-x] g3 g1 (by simp) ?_;have:[x,2*(l.length:Int)+1-x]++exp l.length r=exp l.length l:=by
   rw[show exp l.length l=exp l.length (x::r)by rw[hc]];simp[exp]
  rw[this];exact hq
theorem Bb{Q:PV→Ob→Prop}(n:Int)(m:Nat)(hm:m≤1000):∀(r done:List Int),(done++r).length=m→Q (.sl 0 1 0 m none) [(0,.arr false 3 i64 (done++Dn n r))]→Ends N0 (L3 n m done.length (done++r)) Q
 |[],done,h,hq=>by
  refine zi (Bk ..) (zm (by simp at h ⊢;omega) ?_);simpa [Dn]using hq
 |x::r,done,h,hq=>by
  simp at h;have hg:(done++x::r).getD done.length 0=x:=by simp
  have hs:(done++x::r).set done.length 0=done++0::r:=by simp
  refine zi (Bk ..) ?_;conv=>zeta
  refine zd (by simp<;>omega) (zd (by simp<;>omega) (zd (by simp<;>omega) ?_));simp only[zf,hg,hs];rw[wr _ (by omega) (by omega),AI];by_cases hx:x>n
  ·rw[if_pos (by simpa using hx)];refine zd (by simp<;>omega) (zd (by simp<;>omega) ?_);have:=Bb (Q:=Q) n m hm r (done++[0]) (by simp;omega) (by simpa [Dn,hx]using hq);simpa using this
  ·rw[if_neg (by simpa using hx)];have:=Bb (Q:=Q) n m hm r (done++[x]) (by simp;omega) (by simpa [Dn,hx]using hq);simpa using this
theorem Aj{Q:PV→Ob→Prop}(n:Int)(hn1:1≤n)(hn:n≤200):∀(f j:Nat) (l:List Int),l.length=2^j→f+j=8→Bd l→(Q (.sl 0 1 0 (z7 f n l).length none) [(0,.arr false 3 i64 (Dn n (z7 f n l)))])→Ends N0 (L1 n l.length l) Q
 |0,j,l,h1,h2,hb,hq=>by
  obtain rfl:j=8:=by omega
  have hs:=T0 hn1 hn (zC 8);refine zi (Ai ..) (zd (by simpa using hn) (zm ?_ ?_))
  ·rw[h1];have:¬((2^8:Int)<Sp.size 8 n 1):=by rw[hs];omega
   simpa using this
  ·have:=Bb (Q:=Q) n l.length (by rw[h1];omega) l [] rfl (by simpa [z7]using hq);simpa using this
 |f+1,j,l,h1,h2,hb,hq=>by
  have hs:=T0 hn1 hn (show j≤8 by omega);have hp:1≤2^j:=Nat.one_le_two_pow;have hp2:2^j≤2^8:=Nat.pow_le_pow_right (by omega) (by omega);refine zi (Ai ..) (zd (by simpa using hn) ?_);rw[AI];have hcast:((l.length:Nat):Int)=(2^j:Int):=by rw[h1];simp
  rw[hcast];by_cases hc:(2^j:Int)<n
  ·rw[if_pos (by simpa using hs.2 hc)];refine AL n l (by omega) (by omega) hb (Aj n hn1 hn f (j+1) _ (by rw[IV,h1,Nat.pow_succ,Nat.mul_comm]) (by omega) (hb.exp (by omega)) ?_);have e:z7 (f+1) n l=z7 f n (exp l.length l):=by
    rw[z7,if_pos (by rw[hcast];exact hc)];rfl
   rw[e]at hq;exact hq
  ·rw[if_neg (by simpa using fun h=>hc (hs.1 h))];have:=Bb (Q:=Q) n l.length (by omega) l [] rfl (by simpa [z7,hcast,hc]using hq);simpa using this
theorem ok:Ad AR 25 CL:=by
 refine Av (X:=N0) rfl SZ (d:=9) (by kernel_rfl) (by kernel_rfl) (by kernel_rfl) (fun(n:Int) hn=>?_) (Ab (by kernel_rfl));have hn:1≤n∧n≤200:=by simpa [CL]using hn
 refine zT (Ap n) ?_;conv=>zeta
 refine Aj n hn.1 hn.2 8 0 [1] (by simp) (by omega) (by intro s hs;simp at hs;subst hs;simp) ?_;have hlen:(z7 8 n [1]).length=(Dn n (z7 8 n [1])).length:=by simp[Dn]
 rw[hlen];exact yd rfl (by simp) (by simp[CL,Sp.bracket])
end T25
theorem hH:∀g sp,nQ.sp g=some sp→Ad AR g sp:=Lp fun x hx=>by
 simp only[zO,List.mem_nil_iff,or_false]at hx;rcases hx with rfl|rfl|rfl|rfl|rfl|rfl|rfl|rfl|rfl|rfl|rfl|rfl|rfl|rfl|rfl
 ·exact T89.ok
 ·exact T23.ok
 ·exact T25.ok
 ·exact T87.ok
 ·exact T88.ok
 ·exact T92.ok
 ·exact T93.ok
 ·exact T95.ok
 ·exact T21.ok
 ·exact T22.ok
 ·exact T94.ok
 ·exact T27.ok
 ·exact T90.ok
 ·exact T91.ok
 ·exact T24.ok
theorem dZ{n a b:Int}(h:Sp.out n a b=0):a≤n∧n≤b:=by
 unfold Sp.out at h;split at h
 ·cases h
 ·split at h
  ·cases h
  ·omega
theorem UR:∀ {l:List Int},zG l=0→∀x∈l,x=0
 |[],_,x,hx=>by cases hx
 |y::l,h,x,hx=>by
  unfold zG at h
  by_cases hy:y=0
  ·rw[if_neg (by simpa using hy)]at h;rcases zO.1 hx with rfl|hx
   ·exact hy
   ·exact UR h x hx
  ·rw[if_pos hy]at h;exact absurd h hy
theorem T18.ok:Ad AR 18 Qm:=by
 refine Av (X:=nQ) rfl hH (d:=9) (by kernel_rfl) (by kernel_rfl) (by kernel_rfl) (fun(i:Int×Int) _=>?_) (Ab (by kernel_rfl));obtain⟨n,key⟩:=i;refine zT (T18.Ap n key) (zd rfl (zd rfl (zd rfl ?_)));rw[AI];by_cases h:Fe n key=0
 ·have h1:=UR (l:=[Sp.out n 0 200,Sp.out key 1 2147483646]) h;have h2:=dZ (h1 (Sp.out n 0 200) (by simp));have h3:=dZ (h1 (Sp.out key 1 2147483646) (by simp));rw[if_neg (by simpa [Fe]using h)];refine zd (by simp;omega) (zk (yd rfl rfl ?_));simp[Qm,G9,h]
 ·rw[if_pos (by simpa [Fe]using h)];refine zk (yd rfl rfl ?_);show([],Fe n key)=G9 n key;simp[G9,h]
theorem Sb:Ad AR 17 Pw:=by
 refine .oP ⟨by kernel_rfl,Ab (by kernel_rfl),fun F h args i _ hlt hargs _=>?_⟩;have ha:args=[]:=by
  have:=hargs (fun _=>none) 0;simpa [Ag,Pw]using this
 subst ha;refine⟨[(.bool true,h)],1,fun m hm=>?_,fun _=>⟨_,rfl⟩,fun x hx=>?_⟩
 ·obtain⟨m',rfl⟩:∃m',m=m'+1:=⟨m-1,by omega⟩;rw[Bf];rfl
 ·cases z5.1 hx;exact⟨zC _,fun _ _=>rfl,hlt,F,fun _ _ h=>h,fun _ _ h=>.inl h,by assumption,fun ρ N=>Dh _⟩
theorem T158.ok:Ad AR 158 DG:=by
 refine Av (X:=BW) rfl Cv (d:=9) (by kernel_rfl) (by kernel_rfl) rfl (fun(s:List UInt8) hl=>?_) (Ab (by kernel_rfl));have hl:s.length≤1000000:=by simpa [DG]using hl
 have hQ:∀v b,v=.bl b∨v=.dat .bool b→b=zK s→∀ob,Ae DG s v ob:=by
  rintro v b (rfl|rfl) hb ob
  ·exact yd rfl rfl hb
  ·exact yd rfl rfl hb
 refine zT (T158.Ap s) ?_;conv=>zeta
 refine zi (T158.Ai ..) ?_;conv=>zeta
 cases s with
 |nil=>
  refine zm (by simp) (zm (by simp) ?_);exact zk (hQ _ _ (.inl rfl) rfl _)
 |cons x r=>
  refine zd (by simp) ?_;simp only[AI,Bc,decide_eq_true_eq,zM,decide_eq_false_iff_not,bne_iff_ne,ne_eq,if_true];have step:zD (x.toNat:Int)=true→Io (x::r) 0=1→Ends BW (T158.L2 (x::r) (x::r) (zh 0 (Io (x::r) 0))) (Ae DG (x::r)):=by
   intro hm hw;rw[hw];refine T158.loop (x::r) (by simp) r 1 rfl (by simp) (by omega) (fun e=>hQ _ _ (.inl rfl) ?_) (fun e=>hQ _ _ (.inr rfl) ?_)
   ·simp[zK,e]
   ·simp only[zK,e,hm,Bool.and_true,ya];congr 1;apply propext;push_cast;omega
  have no:zD (x.toNat:Int)=false→∀ob,Ae DG (x::r) (.bl false) ob:=fun hm=>hQ _ _ (.inl rfl) (by simp[zK,hm])
  have g0:(x::r).getD 0 0=x:=rfl;by_cases hl:((x::r).getD 0 0).toNat<128
  ·obtain⟨e1,e2⟩:=QY (s:=x::r) (i:=0) (by simp) hl;rw[e1,g0];have mi:=It (x.toNat:Int);generalize ((x.toNat:Nat):Int)=c at mi step no ⊢;by_cases hm:zD c=true
   ·have:=mi.1 hm;repeat' split
    all_goals first|exact step hm e2|(exfalso;omega)
   ·have hm2:zD c=false:=by simpa using hm
    have:¬_:=fun h=>hm (mi.2 h)
    repeat' split
    all_goals first|exact no hm2 _|(exfalso;omega)
  ·have hr:=Ov (s:=x::r) (i:=0) (by simp) (by omega);have hx:zD (x.toNat:Int)=false:=by
    have:¬zD (x.toNat:Int)=true:=fun h=>by
     have:=(It _).1 h;rw[g0]at hl;omega
    simpa using this
   repeat' split
   all_goals first|exact no hx _|(exfalso;omega)
namespace T113
variable {Q:PV→Ob→Prop}
theorem loop(s:List UInt8)(hl:s.length≤24):∀(r:List UInt8) (i:Nat),s.drop i=r→i≤s.length→
  (((decide (1≤i)||zD ((r.headD 97).toNat:Int))&&(r.all fun c=>zU (c.toNat:Int)))=false→Q (.bl false) [])→(((decide (1≤i)||zD ((r.headD 97).toNat:Int))&&(r.all fun c=>zU (c.toNat:Int)))=true→Q (.bl true) [])→Ends BW (L1 s i) Q
 |[],i,h,hi,hf,ht=>by
  have:=drop_nil h hi;refine zi (Ai ..) (zm (by simp;omega) ?_);exact zk (ht (by simp;exact .inr (by decide)))
 |x::r,i,h,hi,hf,ht=>by
  obtain⟨g1,g2,g3⟩:=drop_cons (d:=0) h;refine zi (Ai ..) ?_;conv=>zeta
  simp only[zf,g2];rw[wr _ (by omega) (by omega)];have mi:=NN (x.toNat:Int);have li:=It (x.toNat:Int);have step:(1≤i∨zD (x.toNat:Int)=true)→zU (x.toNat:Int)=true→Ends BW (L1 s ((i:Int)+1)) Q:=by
   intro hm hk;have e:((i:Int)+1)=((i+1:Nat):Int):=by push_cast;rfl
   rw[e];refine loop s hl r (i+1) g3 g1 (fun e=>hf ?_) (fun e=>ht ?_)
   ·simp only[z9,hk,zV];have:(r.all fun c=>zU (c.toNat:Int))=false:=by simpa using e
    rw[this,Bool.and_false]
   ·have:(r.all fun c=>zU (c.toNat:Int))=true:=by simpa using e
    simp only[z9,hk,this,Bool.and_true,Bool.or_eq_true,decide_eq_true_eq,ye];exact hm
  have no:(¬(1≤i∨zD (x.toNat:Int)=true)∨zU (x.toNat:Int)=false)→Q (.bl false) []:=by
   intro hm;refine hf ?_;simp only[ye,z9];rcases hm with hm|hm
   ·have:(decide (1≤i)||zD (x.toNat:Int))=false:=by
     rw[Bool.eq_false_iff];intro h;apply hm;simpa using h
    rw[this,Bool.false_and]
   ·rw[hm,Bool.false_and,Bool.and_false]
  generalize ((x.toNat:Nat):Int)=c at mi li step no ⊢;by_cases hm:zU c=true
  ·have hm1:=mi.1 hm;by_cases hlt:1≤i∨zD c=true
   ·have hl2:1≤i∨(97≤c∧c≤122)∨(65≤c∧c≤90):=hlt.imp id li.1;repeat' (with_reducible refine zx (fun _=>?_) (fun _=>?_))
    all_goals first|with_reducible exact step hlt hm|(exfalso;simp only[decide_eq_true_eq,decide_eq_false_iff_not,zM,zo,zL,beq_iff_eq,beq_eq_false_iff_ne,ne_eq]at*;omega)
   ·have hl2:¬(1≤i∨(97≤c∧c≤122)∨(65≤c∧c≤90)):=fun h=>hlt (h.imp id li.2)
    repeat' (with_reducible refine zx (fun _=>?_) (fun _=>?_))
    all_goals first|with_reducible exact zk (no (.inl hlt))|(exfalso;simp only[decide_eq_true_eq,decide_eq_false_iff_not,zM,zo,zL,beq_iff_eq,beq_eq_false_iff_ne,ne_eq,Bool.not_eq_false']at*;omega)
  ·have hm2:zU c=false:=by simpa using hm
   have hm1:¬_:=fun h=>hm (mi.2 h)
   repeat' (with_reducible refine zx (fun _=>?_) (fun _=>?_))
   all_goals first|with_reducible exact zk (no (.inr hm2))|(exfalso;simp only[decide_eq_true_eq,decide_eq_false_iff_not,zM,zo,zL,beq_iff_eq,beq_eq_false_iff_ne,ne_eq,Bool.not_eq_false']at*;omega)
theorem ok:Ad AR 113 DG:=by
 refine Av (X:=BW) rfl Cv (d:=9) (by kernel_rfl) (by kernel_rfl) rfl (fun(s:List UInt8) hl=>?_) (Ab (by kernel_rfl));have hQ:∀b,b=zK s→Ae DG s (.bl b) []:=fun b hb=>yd rfl rfl hb
 refine zT (Ap s) ?_;conv=>zeta
 rw[AI];cases s with
 |nil=>rw[if_pos (by simp),Bc];exact hQ _ rfl
 |cons x r=>
  rw[if_neg (by simp;omega),AI];by_cases h:(x::r).length≤24
  ·rw[if_neg (by simp at h ⊢;omega)];have h23:decide (r.length≤23)=true:=by simp at h ⊢;omega
   have key:zK (x::r)=((decide (1≤0)||zD (((x::r).headD 97).toNat:Int))&&((x::r).all fun c=>zU (c.toNat:Int))):=by
    simp only[zK,h23,ye,z9,zV];cases hlx:zD (x.toNat:Int)with
    |false=>simp
    |true=>
     have:zU (x.toNat:Int)=true:=by unfold zU;rw[hlx];rfl
     simp[this]
   exact loop (x::r) h (x::r) 0 rfl (by simp) (fun e=>hQ _ (by rw[key];exact e.symm)) (fun e=>hQ _ (by rw[key];exact e.symm))
  ·rw[if_pos (by simp at h ⊢;omega),Bc];exact hQ _ (by simp only[zK];rw[decide_eq_false (by simp at h;omega)];rfl)
end T113
namespace T84
theorem loop{Q:PV→Ob→Prop}(l:List (List UInt8))(s:List UInt8)(hl:l.length≤1000000):∀(r:List (List UInt8)) (i:Nat),l.drop i=r→i≤l.length→Q (.bl (Sp.has r s)) []→Ends BW (L1 l s i) Q
 |[],i,h,hi,hq=>by
  have:=drop_nil h hi;exact zi (Ai ..) (zm (by simp;omega) (zk (by simpa [Sp.has]using hq)))
 |x::r,i,h,hi,hq=>by
  obtain⟨h1,h2,h3⟩:=drop_cons (d:=[]) h;refine zi (Ai ..) (zd (by simp<;>omega) (zd (by simp<;>omega) ?_));simp only[zf,h2,AI,Bc,beq_iff_eq];rw[wr _ (by omega) (by omega)];split
  ·rename_i e;subst e;simpa [Sp.has]using hq
  ·rename_i e;exact loop l s hl r (i+1) h3 h1 (by simpa [Sp.has,Ne.symm e]using hq)
theorem ok:Ad AR 84 bS:=by
 refine Av (X:=BW) rfl Cv (d:=9) (by kernel_rfl) (by kernel_rfl) rfl (fun⟨l,s⟩ hl=>?_) (Ab (by kernel_rfl));exact zT (Ap l s) (loop l s (by simpa [bS]using hl) l 0 rfl (z8 _) (yd rfl rfl rfl))
end T84
namespace T42
theorem loop{Q:PV→Ob→Prop}(a b:List (List UInt8))(hl:a.length≤1000000)(he:a.length=b.length):∀(r q:List (List UInt8)) (i:Nat),a.drop i=r→b.drop i=q→i≤a.length→Q (.bl (decide (r=q))) []→Ends BW (L1 a b i) Q
 |[],q,i,h,h',hi,hq=>by
  have:=drop_nil h hi;have hq0:q=[]:=by rw[←h'];exact zP (by omega)
  subst hq0;exact zi (Ai ..) (zm (by simp;omega) (zk (by simpa using hq)))
 |x::r,q,i,h,h',hi,hq=>by
  obtain⟨h1,h2,h3⟩:=drop_cons (d:=[]) h;cases q with
  |nil=>
   have:=congrArg List.length h';simp at this;omega
  |cons y q=>
   obtain⟨g1,g2,g3⟩:=drop_cons (d:=[]) h';refine zi (Ai ..) (zd (by simp<;>omega) (zd (by simp<;>omega) (zd (by simp<;>omega) ?_)));simp only[zf,h2,g2,AI,Bc,zM,beq_eq_false_iff_ne,ne_eq];rw[wr _ (by omega) (by omega)];split
   ·rename_i e;simpa [e]using hq
   ·rename_i e;have e:x=y:=by simpa using e
    subst e;exact loop a b hl he r q (i+1) h3 g3 h1 (by simpa using hq)
theorem ok:Ad AR 42 P9:=by
 refine Av (X:=BW) rfl Cv (d:=9) (by kernel_rfl) (by kernel_rfl) rfl (fun⟨a,b⟩ hl=>?_) (Ab (by kernel_rfl));refine zT (Ap a b) ?_;conv=>zeta
 rw[AI];by_cases h:a.length=b.length
 ·rw[if_neg (by simp[h])];exact loop a b (by simpa [P9]using hl) h a b 0 rfl rfl (z8 _) (yd rfl rfl rfl)
 ·rw[if_pos (by simp;omega),Bc];refine yd rfl rfl ?_;have:a≠b:=fun e=>h (by rw[e])
  simp[P9,Sp.eO,this]
end T42
namespace T35
theorem loop{Q:PV→Ob→Prop}(l:List (List UInt8))(hl:l.length≤300):∀(r:List (List UInt8)) (i:Nat),l.drop i=r→i≤l.length→Q (.bl (r.all fun s=>decide (s.length≤40))) []→Ends BW (L1 l i) Q
 |[],i,h,hi,hq=>by
  have:=drop_nil h hi;exact zi (Ai ..) (zm (by simp;omega) (zk (by simpa using hq)))
 |x::r,i,h,hi,hq=>by
  obtain⟨h1,h2,h3⟩:=drop_cons (d:=[]) h;refine zi (Ai ..) (zd (by simp<;>omega) (zd (by simp<;>omega) ?_));simp only[zf,h2,AI,Bc,decide_eq_true_eq];rw[wr _ (by omega) (by omega)];split
  ·rename_i e;have:decide (x.length≤40)=false:=decide_eq_false (by omega);simpa [this]using hq
  ·rename_i e;have:decide (x.length≤40)=true:=decide_eq_true (by omega);exact loop l hl r (i+1) h3 h1 (by simpa [this]using hq)
theorem ok:Ad AR 35 Jm:=by
 refine Av (X:=BW) rfl Cv (d:=9) (by kernel_rfl) (by kernel_rfl) rfl (fun(i:List (List UInt8)×Int) _=>?_) (Ab (by kernel_rfl));obtain⟨l,n⟩:=i;refine zT (Ap l n) ?_;conv=>zeta
 have hQ:∀b,b=Sp.Gj l n→Ae Jm (l,n) (.bl b) []:=fun b hb=>yd rfl rfl hb
 have go:¬((l.length:Int)>300)→¬((l.length:Int)>n∧(l.length:Int)≤200)→Ends BW (L1 l 0) (Ae Jm (l,n)):=by
  intro h1 h2;refine loop l (by omega) l 0 rfl (z8 _) (hQ _ ?_);unfold Sp.Gj;have:((decide ((l.length:Int)>n)&&decide (l.length≤200))||decide (300<l.length))=false:=by
   rw[Bool.or_eq_false_iff,zL];refine⟨?_,decide_eq_false (by omega)⟩;by_cases h:(l.length:Int)>n
   ·exact .inr (decide_eq_false (by omega))
   ·exact .inl (decide_eq_false h)
  rw[this];rfl
 have bad:((l.length:Int)>300)∨((l.length:Int)>n∧(l.length:Int)≤200)→Ae Jm (l,n) (.bl false) []:=by
  intro h;refine hQ _ ?_;unfold Sp.Gj;have:((decide ((l.length:Int)>n)&&decide (l.length≤200))||decide (300<l.length))=true:=by
   rw[Bool.or_eq_true,zo];rcases h with h|⟨h1,h2⟩
   ·exact .inr (decide_eq_true (by omega))
   ·exact .inl ⟨decide_eq_true h1,decide_eq_true (by omega)⟩
  rw[this];rfl
 simp only[AI,Bc,decide_eq_true_eq];repeat' split
 all_goals first|exact go (by omega) (by omega)|exact bad (by omega)
end T35
end Go.Pe
end
section
namespace Go.Pe
open Sp
open Go.Det
theorem aU{l:List (List UInt8)}(h:Y3 l=true):l.length≤300:=by simp[Y3]at h;exact h.1
theorem dI{l:List (List UInt8)}(h:Y3 l=true){x:List UInt8}(hx:x∈l):x.length≤40:=by simp[Y3]at h;exact h.2 x hx
theorem Bt{α:Type}{l r:List α}{x:α}{i:Nat}(h:l.drop i=x::r):l.take (i+1)=l.take i++[x]:=by
 have h1:=(drop_cons (d:=x) h).1;have h2:=(drop_cons (d:=x) h).2.1;rw[List.take_add_one];congr 1;have:l[i]?=some x:=by
  have e:=zy h1;rw[e];simp only[zR,e,Option.getD_some]at h2;rw[h2]
 rw[this];rfl
theorem Y6:∀g sp,kV.sp g=some sp→Ad AR g sp:=Lp fun x hx=>by
 simp only[pA,zO,List.mem_nil_iff,or_false]at hx;rcases hx with rfl|rfl|rfl|rfl|rfl|rfl|rfl|rfl|rfl|rfl|rfl|rfl|rfl|rfl|rfl|rfl
 ·exact T158.ok
 ·exact T113.ok
 ·exact T84.ok
 ·exact T42.ok
 ·exact T35.ok
 ·exact T87.ok
 ·exact T88.ok
 ·exact T92.ok
 ·exact T93.ok
 ·exact T95.ok
 ·exact T21.ok
 ·exact T22.ok
 ·exact T94.ok
 ·exact T27.ok
 ·exact T91.ok
 ·exact T25.ok
theorem N8{m:List (List UInt8×Bool)}{seen:List (List UInt8)}(hm:IE m (fun y=>y∈seen))(x:List UInt8):
  zG [Dk (!zK x) 8,Dk ((Bs .str .bool x m).getD false) 9]=C1 seen x:=by
 unfold C1;have h:=hm x;cases hn:zK x with
 |false=>simp[zG,Dk]
 |true=>
  cases hg:(Bs .str .bool x m).getD false with
  |false=>rw[hg]at h;simp at h;simp[zG,Dk,h]
  |true=>rw[hg]at h;simp at h;simp[zG,Dk,h]
theorem IE.next{m:List (List UInt8×Bool)}{seen:List (List UInt8)}(hm:IE m (fun y=>y∈seen))(x:List UInt8):IE (E4 .str .bool x true m) (fun y=>y∈seen++[x]):=
 (hm.add x).congr fun y=>by simp[or_comm]
namespace T112
theorem loop{Q:PV→Ob→Prop}(l:List (List UInt8))(n:Nat)(hl:Y3 l=true)(hn:n<l.length):∀(r:List (List UInt8)) (i:Nat),(l.take n).drop i=r→i≤n→Q (.dat i64 (if l.getD n []∈r then 9 else 0)) []→Ends kV (L1 l n i) Q
 |[],i,h,hi,hq=>by
  have:=drop_nil h (by simp;omega);simp at this;exact zi (Ai ..) (zm (by simp;omega) (zk (by simpa using hq)))
 |x::r,i,h,hi,hq=>by
  obtain⟨h1,h2,h3⟩:=drop_cons (d:=[]) h;have h1:i<n:=by simp at h1;omega
  have hll:=aU hl;have e:l.getD i []=x:=by
   rw[←h2];simp[zR,List.getElem?_take_of_lt h1]
  refine zi (Ai ..) (zd (by simp<;>omega) (zd (by simp;omega) (zd (by simp;omega) ?_)));simp only[zf,e,AI,Bc,beq_iff_eq];rw[wr _ (by omega) (by omega)];split
  ·rename_i e2;simpa [e2]using hq
  ·rename_i e2;refine loop l n hl hn r (i+1) h3 (by omega) ?_;have e3:¬l.getD n []=x:=fun h=>e2 h.symm
   simpa only[zO,e3,false_or]using hq
theorem ok:Ad AR 112 EI:=by
 refine Av (X:=kV) rfl Y6 (d:=9) (by kernel_rfl) (by kernel_rfl) (by kernel_rfl) (fun(i:List (List UInt8)×Int) hl=>?_) (Ab (by kernel_rfl));obtain⟨l,k⟩:=i;have hl0:(Y3 l&&decide (0≤k)&&decide (k<(l.length:Int)))=true:=hl;clear hl;simp only[zo,decide_eq_true_eq]at hl0;obtain⟨⟨hl,h1⟩,h2⟩:=hl0;obtain⟨n,rfl⟩:=zq h1;have h2:n<l.length:=by omega
 have hmem:l.getD n []∈l:=by
  have:l.getD n []=l[n]:=by simp[zR,h2]
  rw[this];exact List.getElem_mem _
 have hx:=dI hl hmem;have hQ:∀x,x=C1 (l.take n) (l.getD n [])→Ae EI (l,(n:Int)) (.dat i64 x) []:=fun x hx=>yd rfl rfl (by simpa [EI]using hx)
 refine zT (Ap l n) (zd (by simp;omega) ?_);simp only[zf];refine zd (decide_eq_true (by omega)) ?_;rw[AI,Bc];by_cases hi:zK (l.getD n [])=true
 ·rw[if_neg (by rw[hi];decide)];refine loop l n hl h2 _ 0 rfl (z8 _) (hQ _ ?_);rw[C1,if_pos hi];rfl
 ·rw[if_pos (by rw[Bool.not_eq_true _|>.mp hi];rfl)];exact hQ _ (by rw[C1,if_neg hi])
end T112
theorem gD{s:Sh}(hs:s.sz=1){id n:Nat}{tail:Ob}{fz:Bool}{t:TypeId}{o:List s.T}(hn:n=o.length):Df ⟨0,.leaf,(id,.arr fz t s o)::tail,0⟩ (.list s) (.sl id 1 0 n none)=some (true,o):=by
 subst hn;have h1:AE ((id,Obj.arr fz t s o)::tail) id=some (.arr fz t s o):=by unfold AE;rw[zY];rfl
 unfold Df;have h2:Dq ⟨0,.leaf,(id,.arr fz t s o)::tail,0⟩ (yg (.sl id 1 0 o.length none))=some (true,[.dat (.list s) o]):=by
  show(match Cb ⟨0,.leaf,(id,.arr fz t s o)::tail,0⟩ (.sl id 1 0 o.length none),some (true,[])with|some (c,x),some (d,xs)=>some (c&&d,x::xs)|_,_=>none)=_;have:Cb ⟨0,.leaf,(id,.arr fz t s o)::tail,0⟩ (.sl id 1 0 o.length none)=some (true,.dat (.list s) o):=by
   unfold Cb AF.obj;simp only[h1,hs,zY,cond_true];simp
  rw[this];rfl
 simp only[Ix,Sh.Mo];show(match Dq ⟨0,.leaf,(id,.arr fz t s o)::tail,0⟩ (yg (.sl id 1 0 o.length none))with|some (c,cs)=>_|none=>none)=_;rw[h2];have:Ck (.list s) [PV.dat (.list s) o]=some o:=by
  unfold Ck B6 Y4 DS;simp
 simp only[Gm,this,zV]
theorem UT{s:Sh}(hs:s.sz=1){id n:Nat}{tail:Ob}{fz:Bool}{t:TypeId}{o:List s.T}(hn:n=o.length):Oi [.list s] (.sl id 1 0 n none) ((id,.arr fz t s o)::tail)=some (true,o):=gD hs hn
theorem Ac{C:Ctx}{g0:FuncId}{s0:As}{l:List (FuncId×As)}(h0:Ad C g0 s0)(hl:∀g sp,Pk l g=some sp→Ad C g sp):∀g sp,Pk ((g0,s0)::l) g=some sp→Ad C g sp:=by
 intro g sp h;unfold Pk at h;cases h1:Nat.beq g0 g with
 |true=>rw[h1]at h;cases h;have:=Nat.eq_of_beq_eq_true h1;subst this;exact h0
 |false=>rw[h1]at h;exact hl g sp h
end Go.Pe
end
section
namespace Go.Sp
def ET(seen:List Int):List Int→Int
 |[]=>0
 |x::r=>if x<0 then 3 else if x∈seen then 9 else ET (seen++[x]) r
def My(known seen:List Int):List Int→Int
 |[]=>0
 |x::r=>if x∉known then 10 else if x∈seen then 9 else My known (seen++[x]) r
def P1(l r g:List Int):Int:=
 if l.length>200 then 5 else if ET [] l≠0 then ET [] l else
 if r.length>200 then 5 else if ET l r≠0 then ET l r else
 if g.length>200 then 5 else My (l++r) [] g
def stay(g l:List Int):List Int:=l.filter fun x=> !decide (x∈g)
def Ja(l r g:List Int):List Int:=stay g l++(stay g r).take (l.length-(stay g l).length)
def Mz(l r g:List Int):List Int:=(stay g r).drop (l.length-(stay g l).length)
def Sub(l r g:List Int):List Int×List Int×Int:=if P1 l r g≠0 then([],[],P1 l r g)else(Ja l r g,Mz l r g,0)
def lE(l r g:List Int):Bool:=decide (l.length≤300)&&decide (r.length≤300)&&decide (g.length≤300)
end Go.Sp
namespace Go.Pe
open Go.Det
noncomputable section
noncomputable def Zm:As:=⟨[Cq,Cq,Cq],fun i=>Sp.lE i.1 i.2.1 i.2.2,[Cq,Cq,i64],fun i=>Sp.Sub i.1 i.2.1 i.2.2,false⟩
noncomputable def Bq:AW:=eQ [(29,[16,27,29,30,31])] [] [(29,[(16,[0,1,2,9]),(27,[0,1,15]),(29,[0,1,19,20]),(30,[0,20,21]),(31,[20,21,22]),(26,[0,1,9,15,61,62,63]),(25,[0,1,9,15,17,61,62,63]),(21,[0,1,9,15,61,62,63]),(20,[0,1,9,15,61,62,63]),(18,[0,1,2,9]),(15,[0,1,2,9,26,27,28]),(14,[0,1,2,9,26,27,28,35,36,37]),(13,[0,1,2,9,13,26,27,28,35,36,37]),(9,[0,1,2,9,26,27,28,35,36,37]),(8,[0,1,2,9,26,27,28,35,36,37]),(7,[0,1,2,9,11,26,27,28]),(4,[0,1,2,9,26,27,28]),(3,[0,1,2,9,26,27,28])])] [(17,Pw),(92,Ir),(87,CD)]
end
end Go.Pe
end
section
namespace Go.Pe
open Sp
open Go.Det
noncomputable section
open List Int Prod
namespace T29
def T(l r g:List Int):Tr:=tree Bq false 9 29 (Ag ([zn i64,zn i64,zn i64]) (l,r,g))
def L1(v0 v1 v2:List Int)(v26n:Nat)(v27 v28:Int)(o1:List (List Int))(o0:List (Int×Bool)):Tr:=re ((T [] [] [])) (Al 109 [(0,.dat (zn i64) v0),(1,.dat (zn i64) v1),(2,.dat (zn i64) v2),(9,zA 0),(26,.sl 1 1 0 v26n none),(27,.dat i64 v27),(28,.dat i64 v28)] [(1,.arr false 24 (zn i64) o1),(0,Obj.map i64 zj o0)] 2)
theorem Ap(l r g:List Int):T l r g=L1 l r g 2 2 0 ([l,r]) []:=by kernel_rfl
def L2(v0 v1 v2:List Int)(v26n:Nat)(v27 v28:Int)(v35:List Int)(v36 v37:Int)(o1:List (List Int))(o0:List (Int×Bool)):Tr:=re ((stepT Bq (L1 [] [] [] 0 0 0 [] [])).L.L.L.R) (Al 109 [(0,.dat (zn i64) v0),(1,.dat (zn i64) v1),(2,.dat (zn i64) v2),(9,zA 0),(26,.sl 1 1 0 v26n none),(27,.dat i64 v27),(28,.dat i64 v28),(35,.dat (zn i64) v35),(36,.dat i64 v36),(37,.dat i64 v37)] [(1,.arr false 24 (zn i64) o1),(0,Obj.map i64 zj o0)] 2)
def L3(v0 v1 v2:List Int)(o0:List (Int×Bool)):Tr:=re ((stepT Bq (L1 [] [] [] 0 0 0 [] [])).R) (Al 109 [(0,.dat (zn i64) v0),(1,.dat (zn i64) v1),(2,.dat (zn i64) v2),(9,zA 0)] [(0,Obj.map i64 zj o0)] 1)
theorem Ai(v0 v1 v2:List Int)(v26n:Nat)(v27 v28:Int)(o1:List (List Int))(o0:List (Int×Bool)):stepT Bq (L1 v0 v1 v2 v26n v27 v28 o1 o0)=.ite (decide (v28<v27)) (.ite (decide (0≤v28)&&decide (v28<(↑v26n:Int))) (.ite (decide (toNat v28<length o1)) (.ite (decide ((↑(length (getD o1 (toNat v28) [])):Int)>200)) (.leaf (.tup [.nil,.nil,.dat i64 (5:Int)]) ([(1,.arr false 24 (zn i64) o1),(0,Obj.map i64 zj o0)])) (L2 v0 v1 v2 v26n v27 v28 (getD o1 (toNat v28) []) ((↑(length (getD o1 (toNat v28) [])):Int)) 0 o1 o0)) .fail) .fail) (L3 v0 v1 v2 o0):=by kernel_rfl
theorem AN(v0 v1 v2:List Int)(v26n:Nat)(v27 v28:Int)(v35:List Int)(v36 v37:Int)(o1:List (List Int))(o0:List (Int×Bool)):stepT Bq (L2 v0 v1 v2 v26n v27 v28 v35 v36 v37 o1 o0)=.ite (decide (v37<v36)) (.ite (decide (0≤v37)&&decide (v37<(length v35:Int))) (.ite true (.ite true (.ite (decide (2≤2)&&true&&decide (2≤1000000)) (.ite (zG [Dk (decide (getD v35 (toNat v37) 0<0)) 3,Dk (zc (Bs i64 zj (getD v35 (toNat v37) 0) o0) false) 9] !=0) (.leaf (.tup [.nil,.nil,.dat i64 (zG [Dk (decide (getD v35 (toNat v37) 0<0)) 3,Dk (zc (Bs i64 zj (getD v35 (toNat v37) 0) o0) false) 9])]) ([(2,.arr false 25 i64 [Dk (decide (getD v35 (toNat v37) 0<0)) 3,Dk (zc (Bs i64 zj (getD v35 (toNat v37) 0) o0) false) 9]),(1,.arr false 24 (zn i64) o1),(0,Obj.map i64 zj o0)])) (L2 v0 v1 v2 v26n v27 v28 v35 v36 (ze .i64 (v37+1)) o1 (E4 i64 zj (getD v35 (toNat v37) 0) true o0))) .fail) .fail) .fail) .fail) (L1 v0 v1 v2 v26n v27 (ze .i64 (v28+1)) o1 o0):=by kernel_rfl
def L4(v0 v1 v61:List Int)(v62 v63:Int)(o2:List (Int×Bool))(o0:List (Int×Bool)):Tr:=re ((stepT Bq (L3 [] [] [] [])).R) (Al 109 [(0,.dat (zn i64) v0),(1,.dat (zn i64) v1),(9,zA 0),(15,.ptr 1 0),(61,.dat (zn i64) v61),(62,.dat i64 v62),(63,.dat i64 v63)] [(2,Obj.map i64 zj o2),(1,.box [zA 2]),(0,Obj.map i64 zj o0)] 3)
theorem Bk(v0 v1 v2:List Int)(o0:List (Int×Bool)):stepT Bq (L3 v0 v1 v2 o0)=.ite (decide ((length v2:Int)>200)) (.leaf (.tup [.nil,.nil,.dat i64 (5:Int)]) ([(0,Obj.map i64 zj o0)])) (L4 v0 v1 v2 ((length v2:Int)) 0 [] o0):=by kernel_rfl
def L5(v0 v1:List Int)(o1:List (Int×Bool)):Tr:=re ((stepT Bq (L4 [] [] [] 0 0 [] [])).R) (Al 109 [(0,.dat (zn i64) v0),(1,.dat (zn i64) v1),(15,.ptr 0 0)] [(1,Obj.map i64 zj o1),(0,.box [zA 1])] 2)
theorem BA(v0 v1 v61:List Int)(v62 v63:Int)(o2:List (Int×Bool))(o0:List (Int×Bool)):stepT Bq (L4 v0 v1 v61 v62 v63 o2 o0)=.ite (decide (v63<v62)) (.ite (decide (0≤v63)&&decide (v63<(length v61:Int))) (.ite true (.ite true (.ite (decide (2≤2)&&true&&decide (2≤1000000)) (.ite (zG [Dk (!zc (Bs i64 zj (getD v61 (toNat v63) 0) o0) false) 10,Dk (zc (Bs i64 zj (getD v61 (toNat v63) 0) o2) false) 9] !=0) (.leaf (.tup [.nil,.nil,.dat i64 (zG [Dk (!zc (Bs i64 zj (getD v61 (toNat v63) 0) o0) false) 10,Dk (zc (Bs i64 zj (getD v61 (toNat v63) 0) o2) false) 9])]) ([(3,.arr false 25 i64 [Dk (!zc (Bs i64 zj (getD v61 (toNat v63) 0) o0) false) 10,Dk (zc (Bs i64 zj (getD v61 (toNat v63) 0) o2) false) 9]),(2,Obj.map i64 zj o2),(1,.box [zA 2]),(0,Obj.map i64 zj o0)])) (L4 v0 v1 v61 v62 (ze .i64 (v63+1)) (E4 i64 zj (getD v61 (toNat v63) 0) true o2) o0)) .fail) .fail) .fail) .fail) (L5 v0 v1 o2):=by kernel_rfl
def L6(v0 v1:List Int)(o1:List (Int×Bool))(v0n:Nat)(v7 v8:Int)(o3:List Int)(o1':List (Int×Bool)):Tr:=re ((stepT Bq (L5 v0 v1 o1)).L.L) (Al 19 [(0,.sl 3 1 0 v0n none),(1,zJ (zl 96) [] [.ptr 0 0]),(7,.dat i64 v7),(8,.dat i64 v8)] [(3,.arr false 3 i64 o3),(1,Obj.map i64 zj o1'),(0,.box [zA 1])] 4)
def L7(v0 v1:List Int)(o1:List (Int×Bool))(v7 v8:Int)(o1':List (Int×Bool)):Tr:=re ((stepT Bq (L5 v0 v1 o1)).R.L) (Al 19 [(0,.nil),(1,zJ (zl 96) [] [.ptr 0 0]),(7,.dat i64 v7),(8,.dat i64 v8)] [(1,Obj.map i64 zj o1'),(0,.box [zA 1])] 2)
def L8(v0 v1:List Int)(o1:List (Int×Bool))(v0n:Nat)(v7 v8:Int)(o3:List Int)(o1':List (Int×Bool)):Tr:=re ((stepT Bq (L5 v0 v1 o1)).R.R.L) (Al 19 [(0,.sl 3 1 0 v0n none),(1,zJ (zl 96) [] [.ptr 0 0]),(7,.dat i64 v7),(8,.dat i64 v8)] [(3,.arr false 3 i64 o3),(1,Obj.map i64 zj o1'),(0,.box [zA 1])] 4)
theorem CF(v0 v1:List Int)(o1:List (Int×Bool)):stepT Bq (L5 v0 v1 o1)=.ite (decide (0<length v0)) (.ite (decide ((2*(0+length v0)+1000)*8≤281474976710656)) (L6 v0 v1 o1 (zh 0 (length v0)) ((↑(zh 0 (length v0)):Int)) 0 ([]++v0) o1) .fail) (.both (L7 v0 v1 o1 0 0 o1) (.ite (decide ((2*(0+length v0)+1000)*8≤281474976710656)) (L8 v0 v1 o1 (zh 0 (length v0)) ((↑(zh 0 (length v0)):Int)) 0 ([]++v0) o1) .fail)):=by kernel_rfl
def L9(v0 v1:List Int)(v20n:Nat)(o2:List (Int×Bool))(o1:List Int):Tr:=re ((stepT Bq (L6 [] [] [] 0 0 0 [] [])).L.L.L.L.L) (Al 109 [(0,.dat (zn i64) v0),(1,.dat (zn i64) v1),(19,zJ (zl 96) [] [.ptr 0 0]),(20,.sl 1 1 0 v20n none)] [(2,Obj.map i64 zj o2),(1,.arr false 3 i64 o1),(0,.box [zA 2])] 3)
def Ns(v0 v1:List Int)(o1:List (Int×Bool))(v0n:Nat)(v5 v6:Int)(o3:List Int)(o1':List (Int×Bool)):Tr:=re ((stepT Bq (L6 v0 v1 o1 0 0 0 [] [])).L.L.L.L.R) (Al 42 [(0,.sl 3 1 0 v0n none),(1,zJ (zl 96) [] [.ptr 0 0]),(5,.dat i64 v5),(6,.dat i64 v6)] [(3,.arr false 3 i64 o3),(1,Obj.map i64 zj o1'),(0,.box [zA 1])] 4)
theorem C2(v0 v1:List Int)(o1:List (Int×Bool))(v0n:Nat)(v7 v8:Int)(o3:List Int)(o1':List (Int×Bool)):stepT Bq (L6 v0 v1 o1 v0n v7 v8 o3 o1')=.ite (decide (v8<v7)) (.ite (decide (0≤v8)&&decide (v8<(↑v0n:Int))) (.ite (decide (toNat v8<length o3)) (.ite (zc (Bs i64 zj (getD o3 (toNat v8) 0) o1') false) (.ite (v8==(-1)) (L9 v0 v1 (zh 0 (length v0)) o1' o3) (Ns v0 v1 o1 (zh 0 (length v0)) v8 (ze .i64 (v8+1)) o3 o1')) (L6 v0 v1 o1 v0n v7 (ze .i64 (v8+1)) o3 o1')) .fail) .fail) (.ite true (L9 v0 v1 (zh 0 (length v0)) o1' o3) (Ns v0 v1 o1 (zh 0 (length v0)) ((-1)) (ze .i64 ((-1)+1)) o3 o1')):=by kernel_rfl
def Wl(v0 v1:List Int)(o1:List (Int×Bool)):Tr:=re ((stepT Bq (L7 [] [] [] 0 0 [])).R.L) (Al 109 [(0,.dat (zn i64) v0),(1,.dat (zn i64) v1),(19,zJ (zl 96) [] [.ptr 0 0]),(20,.nil)] [(1,Obj.map i64 zj o1),(0,.box [zA 1])] 2)
def dL(v0 v1:List Int)(o1:List (Int×Bool))(v5 v6:Int)(o1':List (Int×Bool)):Tr:=re ((stepT Bq (L7 v0 v1 o1 0 0 [])).R.R) (Al 42 [(0,.nil),(1,zJ (zl 96) [] [.ptr 0 0]),(5,.dat i64 v5),(6,.dat i64 v6)] [(1,Obj.map i64 zj o1'),(0,.box [zA 1])] 2)
theorem Db(v0 v1:List Int)(o1:List (Int×Bool))(v7 v8:Int)(o1':List (Int×Bool)):stepT Bq (L7 v0 v1 o1 v7 v8 o1')=.ite (decide (v8<v7)) .fail (.ite true (Wl v0 v1 o1') (dL v0 v1 o1 ((-1)) (ze .i64 ((-1)+1)) o1')):=by kernel_rfl
def pE(v0 v1:List Int)(o1:List (Int×Bool))(v0n:Nat)(v5 v6:Int)(o3:List Int)(o1':List (Int×Bool)):Tr:=re ((stepT Bq (L8 v0 v1 o1 0 0 0 [] [])).L.L.L.L.R) (Al 42 [(0,.sl 3 1 0 v0n none),(1,zJ (zl 96) [] [.ptr 0 0]),(5,.dat i64 v5),(6,.dat i64 v6)] [(3,.arr false 3 i64 o3),(1,Obj.map i64 zj o1'),(0,.box [zA 1])] 4)
theorem EF(v0 v1:List Int)(o1:List (Int×Bool))(v0n:Nat)(v7 v8:Int)(o3:List Int)(o1':List (Int×Bool)):stepT Bq (L8 v0 v1 o1 v0n v7 v8 o3 o1')=.ite (decide (v8<v7)) (.ite (decide (0≤v8)&&decide (v8<(↑v0n:Int))) (.ite (decide (toNat v8<length o3)) (.ite (zc (Bs i64 zj (getD o3 (toNat v8) 0) o1') false) (.ite (v8==(-1)) (L9 v0 v1 (zh 0 (length v0)) o1' o3) (pE v0 v1 o1 (zh 0 (length v0)) v8 (ze .i64 (v8+1)) o3 o1')) (L8 v0 v1 o1 v0n v7 (ze .i64 (v8+1)) o3 o1')) .fail) .fail) (.ite true (L9 v0 v1 (zh 0 (length v0)) o1' o3) (pE v0 v1 o1 (zh 0 (length v0)) ((-1)) (ze .i64 ((-1)+1)) o3 o1')):=by kernel_rfl
def kE(v0 v1:List Int)(v20n:Nat)(o2:List (Int×Bool))(o1:List Int)(v0n:Nat)(v7 v8:Int)(o4:List Int)(o2':List (Int×Bool))(o1':List Int):Tr:=re ((stepT Bq (L9 v0 v1 v20n o2 o1)).L.L) (Al 19 [(0,.sl 4 1 0 v0n none),(1,zJ (zl 96) [] [.ptr 0 0]),(7,.dat i64 v7),(8,.dat i64 v8)] [(4,.arr false 3 i64 o4),(2,Obj.map i64 zj o2'),(1,.arr false 3 i64 o1'),(0,.box [zA 2])] 5)
def mZ(v0 v1:List Int)(v20n:Nat)(o2:List (Int×Bool))(o1:List Int)(v7 v8:Int)(o2':List (Int×Bool))(o1':List Int):Tr:=re ((stepT Bq (L9 v0 v1 v20n o2 o1)).R.L) (Al 19 [(0,.nil),(1,zJ (zl 96) [] [.ptr 0 0]),(7,.dat i64 v7),(8,.dat i64 v8)] [(2,Obj.map i64 zj o2'),(1,.arr false 3 i64 o1'),(0,.box [zA 2])] 3)
def mX(v0 v1:List Int)(v20n:Nat)(o2:List (Int×Bool))(o1:List Int)(v0n:Nat)(v7 v8:Int)(o4:List Int)(o2':List (Int×Bool))(o1':List Int):Tr:=re ((stepT Bq (L9 v0 v1 v20n o2 o1)).R.R.L) (Al 19 [(0,.sl 4 1 0 v0n none),(1,zJ (zl 96) [] [.ptr 0 0]),(7,.dat i64 v7),(8,.dat i64 v8)] [(4,.arr false 3 i64 o4),(2,Obj.map i64 zj o2'),(1,.arr false 3 i64 o1'),(0,.box [zA 2])] 5)
theorem Jl(v0 v1:List Int)(v20n:Nat)(o2:List (Int×Bool))(o1:List Int):stepT Bq (L9 v0 v1 v20n o2 o1)=.ite (decide (0<length v1)) (.ite (decide ((2*(0+length v1)+1000)*8≤281474976710656)) (kE v0 v1 v20n o2 o1 (zh 0 (length v1)) ((↑(zh 0 (length v1)):Int)) 0 ([]++v1) o2 o1) .fail) (.both (mZ v0 v1 v20n o2 o1 0 0 o2 o1) (.ite (decide ((2*(0+length v1)+1000)*8≤281474976710656)) (mX v0 v1 v20n o2 o1 (zh 0 (length v1)) ((↑(zh 0 (length v1)):Int)) 0 ([]++v1) o2 o1) .fail)):=by kernel_rfl
def jB(v0 v1:List Int)(v20n v20c:Nat)(o2:List (Int×Bool))(o1:List Int):Tr:=re ((stepT Bq (Ns [] [] [] 0 0 0 [] [])).R.L.L.L) (Al 109 [(0,.dat (zn i64) v0),(1,.dat (zn i64) v1),(19,zJ (zl 96) [] [.ptr 0 0]),(20,.sl 1 1 0 v20n (zg v20c))] [(2,Obj.map i64 zj o2),(1,.arr false 3 i64 o1),(0,.box [zA 2])] 3)
theorem Hx(v0 v1:List Int)(o1:List (Int×Bool))(v0n:Nat)(v5 v6:Int)(o3:List Int)(o1':List (Int×Bool)):stepT Bq (Ns v0 v1 o1 v0n v5 v6 o3 o1')=.ite (decide (v6<(↑v0n:Int))) (.ite (decide (0≤v6)&&decide (v6<(↑v0n:Int))) (.ite (decide (toNat v6<length o3)) (.ite (!zc (Bs i64 zj (getD o3 (toNat v6) 0) o1') false) (.ite (decide (0≤v5)&&decide (v5<(↑v0n:Int))) (.ite (decide (toNat v5<length o3)) (Ns v0 v1 o1 v0n (ze .i64 (v5+1)) (ze .i64 (v6+1)) (set o3 (toNat v5) (getD o3 (toNat v6) 0)) o1') .fail) .fail) (Ns v0 v1 o1 v0n v5 (ze .i64 (v6+1)) o3 o1')) .fail) .fail) (.ite (decide (0≤v5)&&true&&true&&decide (toNat v5≤v0n)&&decide (v0n≤zc none v0n)&&decide (zc none v0n≤zc none v0n)&&true) (.ite (decide (zh 0 (toNat v5)+zr v0n (toNat v5)≤length o3)) (.ite (decide (0≤v5)&&true&&decide (0≤toNat v5)&&decide (toNat v5≤zc none v0n)&&decide (zc none v0n≤zc none v0n)&&true) (jB v0 v1 (toNat v5) (zc none v0n) o1' (take (zh 0 (toNat v5)) o3++(replicate (zr v0n (toNat v5)) 0++drop (zh 0 (toNat v5)+zr v0n (toNat v5)) o3))) .fail) .fail) .fail):=by kernel_rfl
def kJ(v0 v1:List Int)(o1:List (Int×Bool))(v0n:Nat)(v7 v8:Int)(o3:List Int)(o1':List (Int×Bool)):Tr:=re ((stepT Bq (Wl v0 v1 o1)).L.L) (Al 19 [(0,.sl 3 1 0 v0n none),(1,zJ (zl 96) [] [.ptr 0 0]),(7,.dat i64 v7),(8,.dat i64 v8)] [(3,.arr false 3 i64 o3),(1,Obj.map i64 zj o1'),(0,.box [zA 1])] 4)
def mW(v0 v1:List Int)(o1:List (Int×Bool))(v7 v8:Int)(o1':List (Int×Bool)):Tr:=re ((stepT Bq (Wl v0 v1 o1)).R.L) (Al 19 [(0,.nil),(1,zJ (zl 96) [] [.ptr 0 0]),(7,.dat i64 v7),(8,.dat i64 v8)] [(1,Obj.map i64 zj o1'),(0,.box [zA 1])] 2)
def nB(v0 v1:List Int)(o1:List (Int×Bool))(v0n:Nat)(v7 v8:Int)(o3:List Int)(o1':List (Int×Bool)):Tr:=re ((stepT Bq (Wl v0 v1 o1)).R.R.L) (Al 19 [(0,.sl 3 1 0 v0n none),(1,zJ (zl 96) [] [.ptr 0 0]),(7,.dat i64 v7),(8,.dat i64 v8)] [(3,.arr false 3 i64 o3),(1,Obj.map i64 zj o1'),(0,.box [zA 1])] 4)
theorem QA(v0 v1:List Int)(o1:List (Int×Bool)):stepT Bq (Wl v0 v1 o1)=.ite (decide (0<length v1)) (.ite (decide ((2*(0+length v1)+1000)*8≤281474976710656)) (kJ v0 v1 o1 (zh 0 (length v1)) ((↑(zh 0 (length v1)):Int)) 0 ([]++v1) o1) .fail) (.both (mW v0 v1 o1 0 0 o1) (.ite (decide ((2*(0+length v1)+1000)*8≤281474976710656)) (nB v0 v1 o1 (zh 0 (length v1)) ((↑(zh 0 (length v1)):Int)) 0 ([]++v1) o1) .fail)):=by kernel_rfl
def cQ(v0:List Int)(v20n v21n:Nat)(o1 o0:List Int):Tr:=re ((stepT Bq (kE [] [] 0 [] [] 0 0 0 [] [] [])).L.L.L.L.L) (Al 109 [(0,.dat (zn i64) v0),(20,.sl 0 1 0 v20n none),(21,.sl 1 1 0 v21n none)] [(1,.arr false 3 i64 o1),(0,.arr false 3 i64 o0)] 2)
def eI(v0 v1:List Int)(v20n:Nat)(o2:List (Int×Bool))(o1:List Int)(v0n:Nat)(v5 v6:Int)(o4:List Int)(o2':List (Int×Bool))(o1':List Int):Tr:=re ((stepT Bq (kE v0 v1 v20n o2 o1 0 0 0 [] [] [])).L.L.L.L.R) (Al 42 [(0,.sl 4 1 0 v0n none),(1,zJ (zl 96) [] [.ptr 0 0]),(5,.dat i64 v5),(6,.dat i64 v6)] [(4,.arr false 3 i64 o4),(2,Obj.map i64 zj o2'),(1,.arr false 3 i64 o1'),(0,.box [zA 2])] 5)
theorem X4(v0 v1:List Int)(v20n:Nat)(o2:List (Int×Bool))(o1:List Int)(v0n:Nat)(v7 v8:Int)(o4:List Int)(o2':List (Int×Bool))(o1':List Int):stepT Bq (kE v0 v1 v20n o2 o1 v0n v7 v8 o4 o2' o1')=.ite (decide (v8<v7)) (.ite (decide (0≤v8)&&decide (v8<(↑v0n:Int))) (.ite (decide (toNat v8<length o4)) (.ite (zc (Bs i64 zj (getD o4 (toNat v8) 0) o2') false) (.ite (v8==(-1)) (cQ v0 v20n (zh 0 (length v1)) o4 o1') (eI v0 v1 v20n o2 o1 (zh 0 (length v1)) v8 (ze .i64 (v8+1)) o4 o2' o1')) (kE v0 v1 v20n o2 o1 v0n v7 (ze .i64 (v8+1)) o4 o2' o1')) .fail) .fail) (.ite true (cQ v0 v20n (zh 0 (length v1)) o4 o1') (eI v0 v1 v20n o2 o1 (zh 0 (length v1)) ((-1)) (ze .i64 ((-1)+1)) o4 o2' o1')):=by kernel_rfl
def kU(v0:List Int)(v20n:Nat)(o0:List Int):Tr:=re ((stepT Bq (mZ [] [] 0 [] [] 0 0 [] [])).R.L) (Al 109 [(0,.dat (zn i64) v0),(20,.sl 0 1 0 v20n none),(21,.nil)] [(0,.arr false 3 i64 o0)] 1)
def pN(v0 v1:List Int)(v20n:Nat)(o2:List (Int×Bool))(o1:List Int)(v5 v6:Int)(o2':List (Int×Bool))(o1':List Int):Tr:=re ((stepT Bq (mZ v0 v1 v20n o2 o1 0 0 [] [])).R.R) (Al 42 [(0,.nil),(1,zJ (zl 96) [] [.ptr 0 0]),(5,.dat i64 v5),(6,.dat i64 v6)] [(2,Obj.map i64 zj o2'),(1,.arr false 3 i64 o1'),(0,.box [zA 2])] 3)
theorem jH(v0 v1:List Int)(v20n:Nat)(o2:List (Int×Bool))(o1:List Int)(v7 v8:Int)(o2':List (Int×Bool))(o1':List Int):stepT Bq (mZ v0 v1 v20n o2 o1 v7 v8 o2' o1')=.ite (decide (v8<v7)) .fail (.ite true (kU v0 v20n o1') (pN v0 v1 v20n o2 o1 ((-1)) (ze .i64 ((-1)+1)) o2' o1')):=by kernel_rfl
def oS(v0 v1:List Int)(v20n:Nat)(o2:List (Int×Bool))(o1:List Int)(v0n:Nat)(v5 v6:Int)(o4:List Int)(o2':List (Int×Bool))(o1':List Int):Tr:=re ((stepT Bq (mX v0 v1 v20n o2 o1 0 0 0 [] [] [])).L.L.L.L.R) (Al 42 [(0,.sl 4 1 0 v0n none),(1,zJ (zl 96) [] [.ptr 0 0]),(5,.dat i64 v5),(6,.dat i64 v6)] [(4,.arr false 3 i64 o4),(2,Obj.map i64 zj o2'),(1,.arr false 3 i64 o1'),(0,.box [zA 2])] 5)
theorem fQ(v0 v1:List Int)(v20n:Nat)(o2:List (Int×Bool))(o1:List Int)(v0n:Nat)(v7 v8:Int)(o4:List Int)(o2':List (Int×Bool))(o1':List Int):stepT Bq (mX v0 v1 v20n o2 o1 v0n v7 v8 o4 o2' o1')=.ite (decide (v8<v7)) (.ite (decide (0≤v8)&&decide (v8<(↑v0n:Int))) (.ite (decide (toNat v8<length o4)) (.ite (zc (Bs i64 zj (getD o4 (toNat v8) 0) o2') false) (.ite (v8==(-1)) (cQ v0 v20n (zh 0 (length v1)) o4 o1') (oS v0 v1 v20n o2 o1 (zh 0 (length v1)) v8 (ze .i64 (v8+1)) o4 o2' o1')) (mX v0 v1 v20n o2 o1 v0n v7 (ze .i64 (v8+1)) o4 o2' o1')) .fail) .fail) (.ite true (cQ v0 v20n (zh 0 (length v1)) o4 o1') (oS v0 v1 v20n o2 o1 (zh 0 (length v1)) ((-1)) (ze .i64 ((-1)+1)) o4 o2' o1')):=by kernel_rfl
def kF(v0 v1:List Int)(v20n v20c:Nat)(o2:List (Int×Bool))(o1:List Int)(v0n:Nat)(v7 v8:Int)(o4:List Int)(o2':List (Int×Bool))(o1':List Int):Tr:=re ((stepT Bq (jB v0 v1 v20n v20c o2 o1)).L.L) (Al 19 [(0,.sl 4 1 0 v0n none),(1,zJ (zl 96) [] [.ptr 0 0]),(7,.dat i64 v7),(8,.dat i64 v8)] [(4,.arr false 3 i64 o4),(2,Obj.map i64 zj o2'),(1,.arr false 3 i64 o1'),(0,.box [zA 2])] 5)
def nD(v0 v1:List Int)(v20n v20c:Nat)(o2:List (Int×Bool))(o1:List Int)(v7 v8:Int)(o2':List (Int×Bool))(o1':List Int):Tr:=re ((stepT Bq (jB v0 v1 v20n v20c o2 o1)).R.L) (Al 19 [(0,.nil),(1,zJ (zl 96) [] [.ptr 0 0]),(7,.dat i64 v7),(8,.dat i64 v8)] [(2,Obj.map i64 zj o2'),(1,.arr false 3 i64 o1'),(0,.box [zA 2])] 3)
def nC(v0 v1:List Int)(v20n v20c:Nat)(o2:List (Int×Bool))(o1:List Int)(v0n:Nat)(v7 v8:Int)(o4:List Int)(o2':List (Int×Bool))(o1':List Int):Tr:=re ((stepT Bq (jB v0 v1 v20n v20c o2 o1)).R.R.L) (Al 19 [(0,.sl 4 1 0 v0n none),(1,zJ (zl 96) [] [.ptr 0 0]),(7,.dat i64 v7),(8,.dat i64 v8)] [(4,.arr false 3 i64 o4),(2,Obj.map i64 zj o2'),(1,.arr false 3 i64 o1'),(0,.box [zA 2])] 5)
theorem jA(v0 v1:List Int)(v20n v20c:Nat)(o2:List (Int×Bool))(o1:List Int):stepT Bq (jB v0 v1 v20n v20c o2 o1)=.ite (decide (0<length v1)) (.ite (decide ((2*(0+length v1)+1000)*8≤281474976710656)) (kF v0 v1 v20n v20c o2 o1 (zh 0 (length v1)) ((↑(zh 0 (length v1)):Int)) 0 ([]++v1) o2 o1) .fail) (.both (nD v0 v1 v20n v20c o2 o1 0 0 o2 o1) (.ite (decide ((2*(0+length v1)+1000)*8≤281474976710656)) (nC v0 v1 v20n v20c o2 o1 (zh 0 (length v1)) ((↑(zh 0 (length v1)):Int)) 0 ([]++v1) o2 o1) .fail)):=by kernel_rfl
def aO(v0:List Int)(v21n:Nat)(o0:List Int):Tr:=re ((stepT Bq (kJ [] [] [] 0 0 0 [] [])).L.L.L.L.L) (Al 109 [(0,.dat (zn i64) v0),(20,.nil),(21,.sl 0 1 0 v21n none)] [(0,.arr false 3 i64 o0)] 1)
def dW(v0 v1:List Int)(o1:List (Int×Bool))(v0n:Nat)(v5 v6:Int)(o3:List Int)(o1':List (Int×Bool)):Tr:=re ((stepT Bq (kJ v0 v1 o1 0 0 0 [] [])).L.L.L.L.R) (Al 42 [(0,.sl 3 1 0 v0n none),(1,zJ (zl 96) [] [.ptr 0 0]),(5,.dat i64 v5),(6,.dat i64 v6)] [(3,.arr false 3 i64 o3),(1,Obj.map i64 zj o1'),(0,.box [zA 1])] 4)
theorem Wp(v0 v1:List Int)(o1:List (Int×Bool))(v0n:Nat)(v7 v8:Int)(o3:List Int)(o1':List (Int×Bool)):stepT Bq (kJ v0 v1 o1 v0n v7 v8 o3 o1')=.ite (decide (v8<v7)) (.ite (decide (0≤v8)&&decide (v8<(↑v0n:Int))) (.ite (decide (toNat v8<length o3)) (.ite (zc (Bs i64 zj (getD o3 (toNat v8) 0) o1') false) (.ite (v8==(-1)) (aO v0 (zh 0 (length v1)) o3) (dW v0 v1 o1 (zh 0 (length v1)) v8 (ze .i64 (v8+1)) o3 o1')) (kJ v0 v1 o1 v0n v7 (ze .i64 (v8+1)) o3 o1')) .fail) .fail) (.ite true (aO v0 (zh 0 (length v1)) o3) (dW v0 v1 o1 (zh 0 (length v1)) ((-1)) (ze .i64 ((-1)+1)) o3 o1')):=by kernel_rfl
def mB(v0:List Int):Tr:=re ((stepT Bq (mW [] [] [] 0 0 [])).R.L) (Al 109 [(0,.dat (zn i64) v0),(20,.nil),(21,.nil)] [] 0)
def pU(v0 v1:List Int)(o1:List (Int×Bool))(v5 v6:Int)(o1':List (Int×Bool)):Tr:=re ((stepT Bq (mW v0 v1 o1 0 0 [])).R.R) (Al 42 [(0,.nil),(1,zJ (zl 96) [] [.ptr 0 0]),(5,.dat i64 v5),(6,.dat i64 v6)] [(1,Obj.map i64 zj o1'),(0,.box [zA 1])] 2)
theorem jR(v0 v1:List Int)(o1:List (Int×Bool))(v7 v8:Int)(o1':List (Int×Bool)):stepT Bq (mW v0 v1 o1 v7 v8 o1')=.ite (decide (v8<v7)) .fail (.ite true (mB v0) (pU v0 v1 o1 ((-1)) (ze .i64 ((-1)+1)) o1')):=by kernel_rfl
def pL(v0 v1:List Int)(o1:List (Int×Bool))(v0n:Nat)(v5 v6:Int)(o3:List Int)(o1':List (Int×Bool)):Tr:=re ((stepT Bq (nB v0 v1 o1 0 0 0 [] [])).L.L.L.L.R) (Al 42 [(0,.sl 3 1 0 v0n none),(1,zJ (zl 96) [] [.ptr 0 0]),(5,.dat i64 v5),(6,.dat i64 v6)] [(3,.arr false 3 i64 o3),(1,Obj.map i64 zj o1'),(0,.box [zA 1])] 4)
theorem iZ(v0 v1:List Int)(o1:List (Int×Bool))(v0n:Nat)(v7 v8:Int)(o3:List Int)(o1':List (Int×Bool)):stepT Bq (nB v0 v1 o1 v0n v7 v8 o3 o1')=.ite (decide (v8<v7)) (.ite (decide (0≤v8)&&decide (v8<(↑v0n:Int))) (.ite (decide (toNat v8<length o3)) (.ite (zc (Bs i64 zj (getD o3 (toNat v8) 0) o1') false) (.ite (v8==(-1)) (aO v0 (zh 0 (length v1)) o3) (pL v0 v1 o1 (zh 0 (length v1)) v8 (ze .i64 (v8+1)) o3 o1')) (nB v0 v1 o1 v0n v7 (ze .i64 (v8+1)) o3 o1')) .fail) .fail) (.ite true (aO v0 (zh 0 (length v1)) o3) (pL v0 v1 o1 (zh 0 (length v1)) ((-1)) (ze .i64 ((-1)+1)) o3 o1')):=by kernel_rfl
def oW(v20n v21n:Nat)(v22:Int)(o1 o0:List Int):Tr:=re ((stepT Bq (cQ [] 0 0 [] []))) (Al 109 [(20,.sl 0 1 0 v20n none),(21,.sl 1 1 0 v21n none),(22,.dat i64 v22)] [(1,.arr false 3 i64 o1),(0,.arr false 3 i64 o0)] 2)
theorem fN(v0:List Int)(v20n v21n:Nat)(o1 o0:List Int):stepT Bq (cQ v0 v20n v21n o1 o0)=oW v20n v21n (BE (ze .i64 ((length v0:Int)-(↑v20n:Int))) (↑v21n:Int)) o1 o0:=by kernel_rfl
def mG(v0:List Int)(v20n v21n v21c:Nat)(o1 o0:List Int):Tr:=re ((stepT Bq (eI [] [] 0 [] [] 0 0 0 [] [] [])).R.L.L.L) (Al 109 [(0,.dat (zn i64) v0),(20,.sl 0 1 0 v20n none),(21,.sl 1 1 0 v21n (zg v21c))] [(1,.arr false 3 i64 o1),(0,.arr false 3 i64 o0)] 2)
theorem YB(v0 v1:List Int)(v20n:Nat)(o2:List (Int×Bool))(o1:List Int)(v0n:Nat)(v5 v6:Int)(o4:List Int)(o2':List (Int×Bool))(o1':List Int):stepT Bq (eI v0 v1 v20n o2 o1 v0n v5 v6 o4 o2' o1')=.ite (decide (v6<(↑v0n:Int))) (.ite (decide (0≤v6)&&decide (v6<(↑v0n:Int))) (.ite (decide (toNat v6<length o4)) (.ite (!zc (Bs i64 zj (getD o4 (toNat v6) 0) o2') false) (.ite (decide (0≤v5)&&decide (v5<(↑v0n:Int))) (.ite (decide (toNat v5<length o4)) (eI v0 v1 v20n o2 o1 v0n (ze .i64 (v5+1)) (ze .i64 (v6+1)) (set o4 (toNat v5) (getD o4 (toNat v6) 0)) o2' o1') .fail) .fail) (eI v0 v1 v20n o2 o1 v0n v5 (ze .i64 (v6+1)) o4 o2' o1')) .fail) .fail) (.ite (decide (0≤v5)&&true&&true&&decide (toNat v5≤v0n)&&decide (v0n≤zc none v0n)&&decide (zc none v0n≤zc none v0n)&&true) (.ite (decide (zh 0 (toNat v5)+zr v0n (toNat v5)≤length o4)) (.ite (decide (0≤v5)&&true&&decide (0≤toNat v5)&&decide (toNat v5≤zc none v0n)&&decide (zc none v0n≤zc none v0n)&&true) (mG v0 v20n (toNat v5) (zc none v0n) (take (zh 0 (toNat v5)) o4++(replicate (zr v0n (toNat v5)) 0++drop (zh 0 (toNat v5)+zr v0n (toNat v5)) o4)) o1') .fail) .fail) .fail):=by kernel_rfl
def pB(v20n:Nat)(v22:Int)(o0:List Int):Tr:=re ((stepT Bq (kU [] 0 []))) (Al 109 [(20,.sl 0 1 0 v20n none),(21,.nil),(22,.dat i64 v22)] [(0,.arr false 3 i64 o0)] 1)
theorem jU(v0:List Int)(v20n:Nat)(o0:List Int):stepT Bq (kU v0 v20n o0)=pB v20n (BE (ze .i64 ((length v0:Int)-(↑v20n:Int))) 0) o0:=by kernel_rfl
def cS(v0:List Int)(v20n v20c v21n:Nat)(o1 o0:List Int):Tr:=re ((stepT Bq (kF [] [] 0 0 [] [] 0 0 0 [] [] [])).L.L.L.L.L) (Al 109 [(0,.dat (zn i64) v0),(20,.sl 0 1 0 v20n (zg v20c)),(21,.sl 1 1 0 v21n none)] [(1,.arr false 3 i64 o1),(0,.arr false 3 i64 o0)] 2)
def dQ(v0 v1:List Int)(v20n v20c:Nat)(o2:List (Int×Bool))(o1:List Int)(v0n:Nat)(v5 v6:Int)(o4:List Int)(o2':List (Int×Bool))(o1':List Int):Tr:=re ((stepT Bq (kF v0 v1 v20n v20c o2 o1 0 0 0 [] [] [])).L.L.L.L.R) (Al 42 [(0,.sl 4 1 0 v0n none),(1,zJ (zl 96) [] [.ptr 0 0]),(5,.dat i64 v5),(6,.dat i64 v6)] [(4,.arr false 3 i64 o4),(2,Obj.map i64 zj o2'),(1,.arr false 3 i64 o1'),(0,.box [zA 2])] 5)
theorem Xj(v0 v1:List Int)(v20n v20c:Nat)(o2:List (Int×Bool))(o1:List Int)(v0n:Nat)(v7 v8:Int)(o4:List Int)(o2':List (Int×Bool))(o1':List Int):stepT Bq (kF v0 v1 v20n v20c o2 o1 v0n v7 v8 o4 o2' o1')=.ite (decide (v8<v7)) (.ite (decide (0≤v8)&&decide (v8<(↑v0n:Int))) (.ite (decide (toNat v8<length o4)) (.ite (zc (Bs i64 zj (getD o4 (toNat v8) 0) o2') false) (.ite (v8==(-1)) (cS v0 v20n v20c (zh 0 (length v1)) o4 o1') (dQ v0 v1 v20n v20c o2 o1 (zh 0 (length v1)) v8 (ze .i64 (v8+1)) o4 o2' o1')) (kF v0 v1 v20n v20c o2 o1 v0n v7 (ze .i64 (v8+1)) o4 o2' o1')) .fail) .fail) (.ite true (cS v0 v20n v20c (zh 0 (length v1)) o4 o1') (dQ v0 v1 v20n v20c o2 o1 (zh 0 (length v1)) ((-1)) (ze .i64 ((-1)+1)) o4 o2' o1')):=by kernel_rfl
def lG(v0:List Int)(v20n v20c:Nat)(o0:List Int):Tr:=re ((stepT Bq (nD [] [] 0 0 [] [] 0 0 [] [])).R.L) (Al 109 [(0,.dat (zn i64) v0),(20,.sl 0 1 0 v20n (zg v20c)),(21,.nil)] [(0,.arr false 3 i64 o0)] 1)
def pV(v0 v1:List Int)(v20n v20c:Nat)(o2:List (Int×Bool))(o1:List Int)(v5 v6:Int)(o2':List (Int×Bool))(o1':List Int):Tr:=re ((stepT Bq (nD v0 v1 v20n v20c o2 o1 0 0 [] [])).R.R) (Al 42 [(0,.nil),(1,zJ (zl 96) [] [.ptr 0 0]),(5,.dat i64 v5),(6,.dat i64 v6)] [(2,Obj.map i64 zj o2'),(1,.arr false 3 i64 o1'),(0,.box [zA 2])] 3)
theorem jD(v0 v1:List Int)(v20n v20c:Nat)(o2:List (Int×Bool))(o1:List Int)(v7 v8:Int)(o2':List (Int×Bool))(o1':List Int):stepT Bq (nD v0 v1 v20n v20c o2 o1 v7 v8 o2' o1')=.ite (decide (v8<v7)) .fail (.ite true (lG v0 v20n v20c o1') (pV v0 v1 v20n v20c o2 o1 ((-1)) (ze .i64 ((-1)+1)) o2' o1')):=by kernel_rfl
def oT(v0 v1:List Int)(v20n v20c:Nat)(o2:List (Int×Bool))(o1:List Int)(v0n:Nat)(v5 v6:Int)(o4:List Int)(o2':List (Int×Bool))(o1':List Int):Tr:=re ((stepT Bq (nC v0 v1 v20n v20c o2 o1 0 0 0 [] [] [])).L.L.L.L.R) (Al 42 [(0,.sl 4 1 0 v0n none),(1,zJ (zl 96) [] [.ptr 0 0]),(5,.dat i64 v5),(6,.dat i64 v6)] [(4,.arr false 3 i64 o4),(2,Obj.map i64 zj o2'),(1,.arr false 3 i64 o1'),(0,.box [zA 2])] 5)
theorem fG(v0 v1:List Int)(v20n v20c:Nat)(o2:List (Int×Bool))(o1:List Int)(v0n:Nat)(v7 v8:Int)(o4:List Int)(o2':List (Int×Bool))(o1':List Int):stepT Bq (nC v0 v1 v20n v20c o2 o1 v0n v7 v8 o4 o2' o1')=.ite (decide (v8<v7)) (.ite (decide (0≤v8)&&decide (v8<(↑v0n:Int))) (.ite (decide (toNat v8<length o4)) (.ite (zc (Bs i64 zj (getD o4 (toNat v8) 0) o2') false) (.ite (v8==(-1)) (cS v0 v20n v20c (zh 0 (length v1)) o4 o1') (oT v0 v1 v20n v20c o2 o1 (zh 0 (length v1)) v8 (ze .i64 (v8+1)) o4 o2' o1')) (nC v0 v1 v20n v20c o2 o1 v0n v7 (ze .i64 (v8+1)) o4 o2' o1')) .fail) .fail) (.ite true (cS v0 v20n v20c (zh 0 (length v1)) o4 o1') (oT v0 v1 v20n v20c o2 o1 (zh 0 (length v1)) ((-1)) (ze .i64 ((-1)+1)) o4 o2' o1')):=by kernel_rfl
def pD(v21n:Nat)(v22:Int)(o0:List Int):Tr:=re ((stepT Bq (aO [] 0 []))) (Al 109 [(20,.nil),(21,.sl 0 1 0 v21n none),(22,.dat i64 v22)] [(0,.arr false 3 i64 o0)] 1)
theorem iE(v0:List Int)(v21n:Nat)(o0:List Int):stepT Bq (aO v0 v21n o0)=pD v21n (BE (ze .i64 ((length v0:Int)-0)) (↑v21n:Int)) o0:=by kernel_rfl
def lV(v0:List Int)(v21n v21c:Nat)(o0:List Int):Tr:=re ((stepT Bq (dW [] [] [] 0 0 0 [] [])).R.L.L.L) (Al 109 [(0,.dat (zn i64) v0),(20,.nil),(21,.sl 0 1 0 v21n (zg v21c))] [(0,.arr false 3 i64 o0)] 1)
theorem Yo(v0 v1:List Int)(o1:List (Int×Bool))(v0n:Nat)(v5 v6:Int)(o3:List Int)(o1':List (Int×Bool)):stepT Bq (dW v0 v1 o1 v0n v5 v6 o3 o1')=.ite (decide (v6<(↑v0n:Int))) (.ite (decide (0≤v6)&&decide (v6<(↑v0n:Int))) (.ite (decide (toNat v6<length o3)) (.ite (!zc (Bs i64 zj (getD o3 (toNat v6) 0) o1') false) (.ite (decide (0≤v5)&&decide (v5<(↑v0n:Int))) (.ite (decide (toNat v5<length o3)) (dW v0 v1 o1 v0n (ze .i64 (v5+1)) (ze .i64 (v6+1)) (set o3 (toNat v5) (getD o3 (toNat v6) 0)) o1') .fail) .fail) (dW v0 v1 o1 v0n v5 (ze .i64 (v6+1)) o3 o1')) .fail) .fail) (.ite (decide (0≤v5)&&true&&true&&decide (toNat v5≤v0n)&&decide (v0n≤zc none v0n)&&decide (zc none v0n≤zc none v0n)&&true) (.ite (decide (zh 0 (toNat v5)+zr v0n (toNat v5)≤length o3)) (.ite (decide (0≤v5)&&true&&decide (0≤toNat v5)&&decide (toNat v5≤zc none v0n)&&decide (zc none v0n≤zc none v0n)&&true) (lV v0 (toNat v5) (zc none v0n) (take (zh 0 (toNat v5)) o3++(replicate (zr v0n (toNat v5)) 0++drop (zh 0 (toNat v5)+zr v0n (toNat v5)) o3))) .fail) .fail) .fail):=by kernel_rfl
def pM(v22:Int):Tr:=re ((stepT Bq (mB []))) (Al 109 [(20,.nil),(21,.nil),(22,.dat i64 v22)] [] 0)
theorem fP(v0:List Int):stepT Bq (mB v0)=pM (BE (ze .i64 ((length v0:Int)-0)) 0):=by kernel_rfl
theorem eW(v20n v21n:Nat)(v22:Int)(o1 o0:List Int):stepT Bq (oW v20n v21n v22 o1 o0)=.ite (decide (0≤v22)&&true&&decide (0≤toNat v22)&&decide (toNat v22≤zc none v21n)&&decide (zc none v21n≤zc none v21n)&&true) (.ite (decide (0≤v22)&&true&&true&&decide (toNat v22≤v21n)&&decide (v21n≤zc none v21n)&&decide (zc none v21n≤zc none v21n)&&true) (.ite (decide (0+toNat v22≤length o1)&&true&&decide (v20n=length o0)&&decide ((2*(v20n+length (take (toNat v22) o1))+1000)*8≤281474976710656)) (.leaf (.tup [.sl 2 1 0 (zh v20n (length (take (toNat v22) o1))) none,.sl 1 1 (zh 0 (toNat v22)) (zr v21n (toNat v22)) (zg (zr (zc none v21n) (toNat v22))),.dat i64 (0:Int)]) ([(2,.arr false 3 i64 (o0++take (toNat v22) o1)),(1,.arr false 3 i64 o1)])) .fail) .fail) .fail:=by kernel_rfl
def oQ(v20n v21n v21c:Nat)(v22:Int)(o1 o0:List Int):Tr:=re ((stepT Bq (mG [] 0 0 0 [] []))) (Al 109 [(20,.sl 0 1 0 v20n none),(21,.sl 1 1 0 v21n (zg v21c)),(22,.dat i64 v22)] [(1,.arr false 3 i64 o1),(0,.arr false 3 i64 o0)] 2)
theorem iO(v0:List Int)(v20n v21n v21c:Nat)(o1 o0:List Int):stepT Bq (mG v0 v20n v21n v21c o1 o0)=oQ v20n v21n v21c (BE (ze .i64 ((length v0:Int)-(↑v20n:Int))) (↑v21n:Int)) o1 o0:=by kernel_rfl
theorem iP(v20n:Nat)(v22:Int)(o0:List Int):stepT Bq (pB v20n v22 o0)=.ite (decide (0≤v22)&&decide (0≤toNat v22)&&decide (toNat v22≤0)) (.ite (decide (0≤v22)&&true&&decide (toNat v22≤0)&&true) (.ite (decide (v20n=length o0)&&decide ((2*v20n+1000)*8≤281474976710656)) (.leaf (.tup [.sl 1 1 0 v20n none,.nil,.dat i64 (0:Int)]) ([(1,.arr false 3 i64 (o0++[]))])) .fail) .fail) .fail:=by kernel_rfl
def oV(v20n v20c v21n:Nat)(v22:Int)(o1 o0:List Int):Tr:=re ((stepT Bq (cS [] 0 0 0 [] []))) (Al 109 [(20,.sl 0 1 0 v20n (zg v20c)),(21,.sl 1 1 0 v21n none),(22,.dat i64 v22)] [(1,.arr false 3 i64 o1),(0,.arr false 3 i64 o0)] 2)
theorem hI(v0:List Int)(v20n v20c v21n:Nat)(o1 o0:List Int):stepT Bq (cS v0 v20n v20c v21n o1 o0)=oV v20n v20c v21n (BE (ze .i64 ((length v0:Int)-(↑v20n:Int))) (↑v21n:Int)) o1 o0:=by kernel_rfl
def mR(v0:List Int)(v20n v20c v21n v21c:Nat)(o1 o0:List Int):Tr:=re ((stepT Bq (dQ [] [] 0 0 [] [] 0 0 0 [] [] [])).R.L.L.L) (Al 109 [(0,.dat (zn i64) v0),(20,.sl 0 1 0 v20n (zg v20c)),(21,.sl 1 1 0 v21n (zg v21c))] [(1,.arr false 3 i64 o1),(0,.arr false 3 i64 o0)] 2)
theorem Wq(v0 v1:List Int)(v20n v20c:Nat)(o2:List (Int×Bool))(o1:List Int)(v0n:Nat)(v5 v6:Int)(o4:List Int)(o2':List (Int×Bool))(o1':List Int):stepT Bq (dQ v0 v1 v20n v20c o2 o1 v0n v5 v6 o4 o2' o1')=.ite (decide (v6<(↑v0n:Int))) (.ite (decide (0≤v6)&&decide (v6<(↑v0n:Int))) (.ite (decide (toNat v6<length o4)) (.ite (!zc (Bs i64 zj (getD o4 (toNat v6) 0) o2') false) (.ite (decide (0≤v5)&&decide (v5<(↑v0n:Int))) (.ite (decide (toNat v5<length o4)) (dQ v0 v1 v20n v20c o2 o1 v0n (ze .i64 (v5+1)) (ze .i64 (v6+1)) (set o4 (toNat v5) (getD o4 (toNat v6) 0)) o2' o1') .fail) .fail) (dQ v0 v1 v20n v20c o2 o1 v0n v5 (ze .i64 (v6+1)) o4 o2' o1')) .fail) .fail) (.ite (decide (0≤v5)&&true&&true&&decide (toNat v5≤v0n)&&decide (v0n≤zc none v0n)&&decide (zc none v0n≤zc none v0n)&&true) (.ite (decide (zh 0 (toNat v5)+zr v0n (toNat v5)≤length o4)) (.ite (decide (0≤v5)&&true&&decide (0≤toNat v5)&&decide (toNat v5≤zc none v0n)&&decide (zc none v0n≤zc none v0n)&&true) (mR v0 v20n v20c (toNat v5) (zc none v0n) (take (zh 0 (toNat v5)) o4++(replicate (zr v0n (toNat v5)) 0++drop (zh 0 (toNat v5)+zr v0n (toNat v5)) o4)) o1') .fail) .fail) .fail):=by kernel_rfl
def pH(v20n v20c:Nat)(v22:Int)(o0:List Int):Tr:=re ((stepT Bq (lG [] 0 0 []))) (Al 109 [(20,.sl 0 1 0 v20n (zg v20c)),(21,.nil),(22,.dat i64 v22)] [(0,.arr false 3 i64 o0)] 1)
theorem jO(v0:List Int)(v20n v20c:Nat)(o0:List Int):stepT Bq (lG v0 v20n v20c o0)=pH v20n v20c (BE (ze .i64 ((length v0:Int)-(↑v20n:Int))) 0) o0:=by kernel_rfl
theorem fK(v21n:Nat)(v22:Int)(o0:List Int):stepT Bq (pD v21n v22 o0)=.ite (decide (0≤v22)&&true&&decide (0≤toNat v22)&&decide (toNat v22≤zc none v21n)&&decide (zc none v21n≤zc none v21n)&&true) (.ite (decide (0≤v22)&&true&&true&&decide (toNat v22≤v21n)&&decide (v21n≤zc none v21n)&&decide (zc none v21n≤zc none v21n)&&true) (.ite (decide (0<length (take (toNat v22) o0))) (.ite (decide (0+toNat v22≤length o0)&&decide ((2*length (take (toNat v22) o0)+1000)*8≤281474976710656)) (.leaf (.tup [.sl 1 1 0 (length (take (toNat v22) o0)) none,.sl 0 1 (zh 0 (toNat v22)) (zr v21n (toNat v22)) (zg (zr (zc none v21n) (toNat v22))),.dat i64 (0:Int)]) ([(1,.arr false 3 i64 (take (toNat v22) o0)),(0,.arr false 3 i64 o0)])) .fail) (.ite (decide (0+toNat v22≤length o0)) (.leaf (.tup [.nil,.sl 0 1 (zh 0 (toNat v22)) (zr v21n (toNat v22)) (zg (zr (zc none v21n) (toNat v22))),.dat i64 (0:Int)]) ([(0,.arr false 3 i64 o0)])) .fail)) .fail) .fail:=by kernel_rfl
def pG(v21n v21c:Nat)(v22:Int)(o0:List Int):Tr:=re ((stepT Bq (lV [] 0 0 []))) (Al 109 [(20,.nil),(21,.sl 0 1 0 v21n (zg v21c)),(22,.dat i64 v22)] [(0,.arr false 3 i64 o0)] 1)
theorem gY(v0:List Int)(v21n v21c:Nat)(o0:List Int):stepT Bq (lV v0 v21n v21c o0)=pG v21n v21c (BE (ze .i64 ((length v0:Int)-0)) (↑v21n:Int)) o0:=by kernel_rfl
theorem fZ(v22:Int):stepT Bq (pM v22)=.ite (decide (0≤v22)&&decide (0≤toNat v22)&&decide (toNat v22≤0)) (.ite (decide (0≤v22)&&true&&decide (toNat v22≤0)&&true) (.leaf (.tup [.nil,.nil,.dat i64 (0:Int)]) []) .fail) .fail:=by kernel_rfl
theorem iK(v20n v21n v21c:Nat)(v22:Int)(o1 o0:List Int):stepT Bq (oQ v20n v21n v21c v22 o1 o0)=.ite (decide (0≤v22)&&true&&decide (0≤toNat v22)&&decide (toNat v22≤zc (zg v21c) v21n)&&decide (zc (zg v21c) v21n≤zc (zg v21c) v21n)&&true) (.ite (decide (0≤v22)&&true&&true&&decide (toNat v22≤v21n)&&decide (v21n≤zc (zg v21c) v21n)&&decide (zc (zg v21c) v21n≤zc (zg v21c) v21n)&&true) (.ite (decide (0+toNat v22≤length o1)&&true&&decide (v20n=length o0)&&decide ((2*(v20n+length (take (toNat v22) o1))+1000)*8≤281474976710656)) (.leaf (.tup [.sl 2 1 0 (zh v20n (length (take (toNat v22) o1))) none,.sl 1 1 (zh 0 (toNat v22)) (zr v21n (toNat v22)) (zg (zr (zc (zg v21c) v21n) (toNat v22))),.dat i64 (0:Int)]) ([(2,.arr false 3 i64 (o0++take (toNat v22) o1)),(1,.arr false 3 i64 o1)])) .fail) .fail) .fail:=by kernel_rfl
theorem gK(v20n v20c v21n:Nat)(v22:Int)(o1 o0:List Int):stepT Bq (oV v20n v20c v21n v22 o1 o0)=.ite (decide (0≤v22)&&true&&decide (0≤toNat v22)&&decide (toNat v22≤zc none v21n)&&decide (zc none v21n≤zc none v21n)&&true) (.ite (decide (0≤v22)&&true&&true&&decide (toNat v22≤v21n)&&decide (v21n≤zc none v21n)&&decide (zc none v21n≤zc none v21n)&&true) (.ite (decide (0+toNat v22≤length o1)&&decide (v20n+length (take (toNat v22) o1)≤v20c)&&decide (0+v20c≤length o0)) (.leaf (.tup [.sl 0 1 0 (zh v20n (length (take (toNat v22) o1))) (zg v20c),.sl 1 1 (zh 0 (toNat v22)) (zr v21n (toNat v22)) (zg (zr (zc none v21n) (toNat v22))),.dat i64 (0:Int)]) ([(1,.arr false 3 i64 o1),(0,.arr false 3 i64 (take (0+v20n) o0++(take (toNat v22) o1++drop (0+v20n+length (take (toNat v22) o1)) o0)))])) .fail) .fail) .fail:=by kernel_rfl
def oX(v20n v20c v21n v21c:Nat)(v22:Int)(o1 o0:List Int):Tr:=re ((stepT Bq (mR [] 0 0 0 0 [] []))) (Al 109 [(20,.sl 0 1 0 v20n (zg v20c)),(21,.sl 1 1 0 v21n (zg v21c)),(22,.dat i64 v22)] [(1,.arr false 3 i64 o1),(0,.arr false 3 i64 o0)] 2)
theorem iA(v0:List Int)(v20n v20c v21n v21c:Nat)(o1 o0:List Int):stepT Bq (mR v0 v20n v20c v21n v21c o1 o0)=oX v20n v20c v21n v21c (BE (ze .i64 ((length v0:Int)-(↑v20n:Int))) (↑v21n:Int)) o1 o0:=by kernel_rfl
theorem gT(v20n v20c:Nat)(v22:Int)(o0:List Int):stepT Bq (pH v20n v20c v22 o0)=.ite (decide (0≤v22)&&decide (0≤toNat v22)&&decide (toNat v22≤0)) (.ite (decide (0≤v22)&&true&&decide (toNat v22≤0)&&true) (.ite (decide (v20n≤v20c)&&decide (0+v20c≤length o0)) (.leaf (.tup [.sl 0 1 0 v20n (zg v20c),.nil,.dat i64 (0:Int)]) ([(0,.arr false 3 i64 (take (0+v20n) o0++([]++drop (0+v20n) o0)))])) .fail) .fail) .fail:=by kernel_rfl
theorem jQ(v21n v21c:Nat)(v22:Int)(o0:List Int):stepT Bq (pG v21n v21c v22 o0)=.ite (decide (0≤v22)&&true&&decide (0≤toNat v22)&&decide (toNat v22≤zc (zg v21c) v21n)&&decide (zc (zg v21c) v21n≤zc (zg v21c) v21n)&&true) (.ite (decide (0≤v22)&&true&&true&&decide (toNat v22≤v21n)&&decide (v21n≤zc (zg v21c) v21n)&&decide (zc (zg v21c) v21n≤zc (zg v21c) v21n)&&true) (.ite (decide (0<length (take (toNat v22) o0))) (.ite (decide (0+toNat v22≤length o0)&&decide ((2*length (take (toNat v22) o0)+1000)*8≤281474976710656)) (.leaf (.tup [.sl 1 1 0 (length (take (toNat v22) o0)) none,.sl 0 1 (zh 0 (toNat v22)) (zr v21n (toNat v22)) (zg (zr (zc (zg v21c) v21n) (toNat v22))),.dat i64 (0:Int)]) ([(1,.arr false 3 i64 (take (toNat v22) o0)),(0,.arr false 3 i64 o0)])) .fail) (.ite (decide (0+toNat v22≤length o0)) (.leaf (.tup [.nil,.sl 0 1 (zh 0 (toNat v22)) (zr v21n (toNat v22)) (zg (zr (zc (zg v21c) v21n) (toNat v22))),.dat i64 (0:Int)]) ([(0,.arr false 3 i64 o0)])) .fail)) .fail) .fail:=by kernel_rfl
theorem fU(v20n v20c v21n v21c:Nat)(v22:Int)(o1 o0:List Int):stepT Bq (oX v20n v20c v21n v21c v22 o1 o0)=.ite (decide (0≤v22)&&true&&decide (0≤toNat v22)&&decide (toNat v22≤zc (zg v21c) v21n)&&decide (zc (zg v21c) v21n≤zc (zg v21c) v21n)&&true) (.ite (decide (0≤v22)&&true&&true&&decide (toNat v22≤v21n)&&decide (v21n≤zc (zg v21c) v21n)&&decide (zc (zg v21c) v21n≤zc (zg v21c) v21n)&&true) (.ite (decide (0+toNat v22≤length o1)&&decide (v20n+length (take (toNat v22) o1)≤v20c)&&decide (0+v20c≤length o0)) (.leaf (.tup [.sl 0 1 0 (zh v20n (length (take (toNat v22) o1))) (zg v20c),.sl 1 1 (zh 0 (toNat v22)) (zr v21n (toNat v22)) (zg (zr (zc (zg v21c) v21n) (toNat v22))),.dat i64 (0:Int)]) ([(1,.arr false 3 i64 o1),(0,.arr false 3 i64 (take (0+v20n) o0++(take (toNat v22) o1++drop (0+v20n+length (take (toNat v22) o1)) o0)))])) .fail) .fail) .fail:=by kernel_rfl
end T29
end
end Go.Pe
end
section
namespace Go.Sp
end Go.Sp
namespace Go.Pe
open Go.Det
theorem El{s:Sh}(hs:s.sz=1){ob:Ob}{id off n:Nat}{c:Option Nat}{fz:Bool}{t:TypeId}{o:List s.T}(hg:AE ob id=some (.arr fz t s o))(hle:off+n≤o.length):
  Df ⟨0,.leaf,ob,0⟩ (.list s) (.sl id 1 off n c)=some (true,(o.drop off).take n):=by
 unfold Df;have h2:Dq ⟨0,.leaf,ob,0⟩ (yg (.sl id 1 off n c))=some (true,[.dat (.list s) ((o.drop off).take n)]):=by
  show(match Cb ⟨0,.leaf,ob,0⟩ (.sl id 1 off n c),some (true,[])with|some (c,x),some (d,xs)=>some (c&&d,x::xs)|_,_=>none)=_;have:Cb ⟨0,.leaf,ob,0⟩ (.sl id 1 off n c)=some (true,.dat (.list s) ((o.drop off).take n)):=by
   unfold Cb AF.obj;simp only[hg,hs,zY,cond_true];rw[decide_eq_true hle]
  rw[this];rfl
 simp only[Ix,Sh.Mo];show(match Dq ⟨0,.leaf,ob,0⟩ (yg (.sl id 1 off n c))with|some (c,cs)=>_|none=>none)=_;rw[h2];have:Ck (.list s) [PV.dat (.list s) ((o.drop off).take n)]=some ((o.drop off).take n):=by
  unfold Ck B6 Y4 DS;simp
 simp only[Gm,this,zV]
theorem Qb{s:Sh}(hs:s.sz=1){ob:Ob}{id n:Nat}{c:Option Nat}{fz:Bool}{t:TypeId}{o:List s.T}(hg:AE ob id=some (.arr fz t s o))(hle:n=o.length):
  Df ⟨0,.leaf,ob,0⟩ (.list s) (.sl id 1 0 n c)=some (true,o):=by
 rw[El hs hg (by omega),hle,List.drop_zero,zN]
theorem Jj{st:AF}{a b:Sh}{l:List Sh}{p:PV}{ps:List PV}{x:a.T}{y:(Bi (b::l)).T}(h1:Df st a p=some (true,x))(h2:Cn st (b::l) ps=some (true,y)):Cn st (a::b::l) (p::ps)=some (true,(x,y)):=by
 show(match Df st a p,Cn st (b::l) ps with|some (c,x),some (d,y)=>some (c&&d,(x,y))|_,_=>none)=_;rw[h1,h2];rfl
theorem Ff{st:AF}{s:Sh}:Df st (.list s) .nil=some (true,[]):=rfl
theorem bF:∀g sp,Bq.sp g=some sp→Ad AR g sp:=Ac Sb (Ac T92.ok (Ac T87.ok (fun g sp h=>by cases h)))
theorem iT{l r g:List Int}(h:Sp.lE l r g=true):l.length≤300∧r.length≤300∧g.length≤300:=by
 unfold Sp.lE at h;simp only[zo,decide_eq_true_eq]at h;exact⟨h.1.1,h.1.2,h.2⟩
end Go.Pe
namespace Go.Sp
end Go.Sp
namespace Go.Pe
open Go.Det
end Go.Pe
end
section
namespace Go.Sp
theorem Rk(g l:List Int):(stay g l).length≤l.length:=zE _ _
end Go.Sp
namespace Go.Pe
open Go.Det
section gen
variable {X:AW}{Q:PV→Ob→Prop}
theorem I0(l:List Int)(p:Int→Bool)(F:Int→Tr)(no:Tr)(yes:Int→Tr)
  (BJ:∀(i:Nat) (x:Int),i<l.length→l.getD i 0=x→(p x=true→Ends X (yes i) Q)→(p x=false→Ends X (F ((i+1:Nat):Int)) Q)→Ends X (F i) Q)
  (hend:Ends X no Q→Ends X (F l.length) Q) (hn:(∀x∈l,p x=false)→Ends X no Q)
  (hs:∀i:Nat,i<l.length→(∀x∈l.take i,p x=false)→p (l.getD i 0)=true→Ends X (yes i) Q):∀(s:List Int) (i:Nat),l.drop i=s→i≤l.length→(∀x∈l.take i,p x=false)→Ends X (F i) Q
 |[],i,h,hi,ht=>by
  have hi:=drop_nil h hi;subst hi;rw[zN]at ht;exact hend (hn ht)
 |x::s,i,h,hi,ht=>by
  obtain⟨h1,h2,h3⟩:=drop_cons (d:=0) h;refine BJ i x h1 h2 (fun hp=>hs i h1 ht (by rw[h2];exact hp)) (fun hp=>?_);refine I0 l p F no yes BJ hend hn hs s (i+1) h3 h1 ?_;rw[Bt h];intro y hy;rcases List.mem_append.1 hy with h|h
  ·exact ht y h
  ·rw[z5.1 h];exact hp
theorem HV(l:List Int)(p:Int→Bool)(D:Int→Int→List Int→Tr)
  (BJ:∀(w i:Nat) (arr:List Int) (x:Int),w<i→i<l.length→arr.length=l.length→arr.getD i 0=x→(p x=true→Ends X (D w ((i+1:Nat):Int) arr) Q)→(p x=false→Ends X (D ((w+1:Nat):Int) ((i+1:Nat):Int) (arr.set w x)) Q)→Ends X (D w i arr) Q)
  (hfin:∀arr,arr.length=l.length→arr.take (l.filter fun x=> !p x).length=(l.filter fun x=> !p x)→Ends X (D (l.filter fun x=> !p x).length l.length arr) Q):
  ∀(s:List Int) (w i:Nat) (arr:List Int),l.drop i=s→i≤l.length→w<i→arr.length=l.length→arr.drop i=s→arr.take w=(l.take i).filter (fun x=> !p x)→w=((l.take i).filter (fun x=> !p x)).length→Ends X (D w i arr) Q
 |[],w,i,arr,h,hi,hw,ha,hd,ht,hwl=>by
  have hi:=drop_nil h hi;subst hi;rw[zN]at ht hwl;subst hwl;exact hfin arr ha ht
 |x::s,w,i,arr,h,hi,hw,ha,hd,ht,hwl=>by
  obtain⟨h1,h2,h3⟩:=drop_cons (d:=0) h;obtain⟨g1,g2,g3⟩:=drop_cons (d:=0) hd;refine BJ w i arr x hw h1 ha g2 (fun hp=>?_) (fun hp=>?_)
  ·refine HV l p D BJ hfin s w (i+1) arr h3 h1 (by omega) ha g3 ?_ ?_
   ·rw[Bt h,zu,ht];simp[hp]
   ·rw[Bt h,zu,List.length_append, ←hwl];simp[hp]
  ·refine HV l p D BJ hfin s (w+1) (i+1) (arr.set w x) h3 h1 (by omega) (by simpa using ha) ?_ ?_ ?_
   ·rw[List.drop_set,if_pos (by omega)];exact g3
   ·rw[Bt h,zu, ←ht];have hwa:w<arr.length:=by omega
    have e:(arr.set w x).take (w+1)=arr.take w++[x]:=by
     rw[List.take_add_one,List.getElem?_set_self hwa,List.take_set_of_le (by omega)];rfl
    rw[e];simp[hp]
   ·rw[Bt h,zu,List.length_append, ←hwl];simp[hp]
end gen
theorem na(n:Nat):zh 0 n=n:=Nat.zero_add n
namespace T29
variable {Q:PV→Ob→Prop}
def Pm(m:List (Int×Bool))(x:Int):Bool:=(Bs (.int .i64) .bool x m).getD false
theorem c1(l r:List Int)(m:List (Int×Bool))(hs:l.length≤300)(hN:(∀x∈l,Pm m x=false)→Ends Bq (L9 l r l.length m l) Q)
  (hF:∀arr,arr.length=l.length→arr.take (l.filter fun x=> !Pm m x).length=(l.filter fun x=> !Pm m x)→Ends Bq (jB l r (l.filter fun x=> !Pm m x).length l.length m arr) Q)
  (h0:l=[]→Ends Bq (Wl l r m) Q):Ends Bq (L5 l r m) Q:=by
 refine zi (CF ..) ?_;conv=>zeta
 rw[na,zW];refine zx (fun c=>zd (by simp;omega) ?_) (fun c=>Ends.both ?_ (zd (by simp;omega) ?_))
 ·refine I0 l (Pm m) (fun i=>L6 l r m l.length l.length i l m) (L9 l r l.length m l) (fun i=>Ns l r m l.length i (i+1) l m) ?_ ?_ hN ?_ l 0 rfl (by omega) (by simp)
  ·intro i x h1 h2 hy hn;refine zi (C2 ..) (zd (by simp;omega) (zd (by simp;omega) (zd (by simp;omega) ?_)));simp only[zf,h2,na];rw[_root_.Go.Pe.wr ((i:Int)+1) (by omega) (by omega)];exact zx (fun c=>zm (by simp<;>omega) (hy c)) (fun c=>by have:=hn c;push_cast at this;exact this)
  ·intro h;refine zi (C2 ..) (zm (by simp) (zd rfl ?_));rw[na];exact h
  ·intro i h1 ht hp;have hsp:l.drop i=l.getD i 0::l.drop (i+1):=by
    rw[zF h1];congr 1;simp[zR,zy h1]
   have hfi:(l.take i).filter (fun x=> !Pm m x)=l.take i:=zH.2 (fun x hx=>by rw[ht x hx];rfl);have hfi1:(l.take (i+1)).filter (fun x=> !Pm m x)=l.take i:=by
    rw[Bt hsp,zu,hfi,zI (by show ¬(!Pm m (l.getD i 0))=true;rw[hp];simp)];simp
   refine HV l (Pm m) (fun w i a=>Ns l r m l.length w i a m) ?_ ?_ (l.drop (i+1)) i (i+1) l rfl (by omega) (by omega) rfl rfl hfi1.symm (by rw[hfi1];simp;omega)
   ·intro w k arr x h1 h2 h3 h4 hy hn;refine zi (Hx ..) (zd (by simp;omega) (zd (by simp;omega) (zd (by simp;omega) ?_)));simp only[zf,h4];rw[_root_.Go.Pe.wr ((k:Int)+1) (by omega) (by omega),_root_.Go.Pe.wr ((w:Int)+1) (by omega) (by omega)];refine zx (fun c=>zd (by simp;omega) (zd (by simp;omega) ?_)) (fun c=>?_)
    ·have:=hn (by simpa [Pm]using c);push_cast at this;exact this
    ·have:=hy (by simpa [Pm]using c);push_cast at this;exact this
   ·intro arr ha ht2;have hle:(l.filter fun x=> !Pm m x).length≤l.length:=zE _ _;generalize (l.filter fun x=> !Pm m x)=f at*;refine zi (Hx ..) (zm (by simp) (zd (by simp;omega) (zd (by simp;omega) (zd (by simp;omega) ?_))));refine hF _ ?_ ?_
    ·simp;omega
    ·simp only[zf,na];rw[zt (by simp;omega),zQ,yb,ht2]
 ·have e:l=[]:=zp.1 (by have:=of_decide_eq_false c;omega);exact zi (Db ..) (zm (by simp) (zd rfl (h0 e)))
 ·have e:l=[]:=zp.1 (by have:=of_decide_eq_false c;omega);refine zi (EF ..) (zm (by simp[e]) (zd rfl ?_));rw[na];exact hN (by rw[e];simp)
theorem c2(l r:List Int)(m:List (Int×Bool))(k:Nat)(o:List Int)(hs:r.length≤300)(hN:(∀x∈r,Pm m x=false)→Ends Bq (cQ l k r.length r o) Q)
  (hF:∀arr,arr.length=r.length→arr.take (r.filter fun x=> !Pm m x).length=(r.filter fun x=> !Pm m x)→Ends Bq (mG l k (r.filter fun x=> !Pm m x).length r.length arr o) Q)
  (h0:r=[]→Ends Bq (kU l k o) Q):Ends Bq (L9 l r k m o) Q:=by
 refine zi (Jl ..) ?_;conv=>zeta
 rw[na,zW];refine zx (fun c=>zd (by simp;omega) ?_) (fun c=>Ends.both ?_ (zd (by simp;omega) ?_))
 ·refine I0 r (Pm m) (fun i=>kE l r k m o r.length r.length i r m o) (cQ l k r.length r o) (fun i=>eI l r k m o r.length i (i+1) r m o) ?_ ?_ hN ?_ r 0 rfl (by omega) (by simp)
  ·intro i x h1 h2 hy hn;refine zi (X4 ..) (zd (by simp;omega) (zd (by simp;omega) (zd (by simp;omega) ?_)));simp only[zf,h2,na];rw[_root_.Go.Pe.wr ((i:Int)+1) (by omega) (by omega)];exact zx (fun c=>zm (by simp<;>omega) (hy c)) (fun c=>by have:=hn c;push_cast at this;exact this)
  ·intro h;refine zi (X4 ..) (zm (by simp) (zd rfl ?_));rw[na];exact h
  ·intro i h1 ht hp;have hsp:r.drop i=r.getD i 0::r.drop (i+1):=by
    rw[zF h1];congr 1;simp[zR,zy h1]
   have hfi:(r.take i).filter (fun x=> !Pm m x)=r.take i:=zH.2 (fun x hx=>by rw[ht x hx];rfl);have hfi1:(r.take (i+1)).filter (fun x=> !Pm m x)=r.take i:=by
    rw[Bt hsp,zu,hfi,zI (by show ¬(!Pm m (r.getD i 0))=true;rw[hp];simp)];simp
   refine HV r (Pm m) (fun w i a=>eI l r k m o r.length w i a m o) ?_ ?_ (r.drop (i+1)) i (i+1) r rfl (by omega) (by omega) rfl rfl hfi1.symm (by rw[hfi1];simp;omega)
   ·intro w k arr x h1 h2 h3 h4 hy hn;refine zi (YB ..) (zd (by simp;omega) (zd (by simp;omega) (zd (by simp;omega) ?_)));simp only[zf,h4];rw[_root_.Go.Pe.wr ((k:Int)+1) (by omega) (by omega),_root_.Go.Pe.wr ((w:Int)+1) (by omega) (by omega)];refine zx (fun c=>zd (by simp;omega) (zd (by simp;omega) ?_)) (fun c=>?_)
    ·have:=hn (by simpa [Pm]using c);push_cast at this;exact this
    ·have:=hy (by simpa [Pm]using c);push_cast at this;exact this
   ·intro arr ha ht2;have hle:(r.filter fun x=> !Pm m x).length≤r.length:=zE _ _;generalize (r.filter fun x=> !Pm m x)=f at*;refine zi (YB ..) (zm (by simp) (zd (by simp;omega) (zd (by simp;omega) (zd (by simp;omega) ?_))));refine hF _ ?_ ?_
    ·simp;omega
    ·simp only[zf,na];rw[zt (by simp;omega),zQ,yb,ht2]
 ·have e:r=[]:=zp.1 (by have:=of_decide_eq_false c;omega);exact zi (jH ..) (zm (by simp) (zd rfl (h0 e)))
 ·have e:r=[]:=zp.1 (by have:=of_decide_eq_false c;omega);refine zi (fQ ..) (zm (by simp[e]) (zd rfl ?_));rw[na];exact hN (by rw[e];simp)
theorem c3(l r:List Int)(m:List (Int×Bool))(hs:r.length≤300)(hN:(∀x∈r,Pm m x=false)→Ends Bq (aO l r.length r) Q)
  (hF:∀arr,arr.length=r.length→arr.take (r.filter fun x=> !Pm m x).length=(r.filter fun x=> !Pm m x)→Ends Bq (lV l (r.filter fun x=> !Pm m x).length r.length arr) Q)
  (h0:r=[]→Ends Bq (mB l) Q):Ends Bq (Wl l r m) Q:=by
 refine zi (QA ..) ?_;conv=>zeta
 rw[na,zW];refine zx (fun c=>zd (by simp;omega) ?_) (fun c=>Ends.both ?_ (zd (by simp;omega) ?_))
 ·refine I0 r (Pm m) (fun i=>kJ l r m r.length r.length i r m) (aO l r.length r) (fun i=>dW l r m r.length i (i+1) r m) ?_ ?_ hN ?_ r 0 rfl (by omega) (by simp)
  ·intro i x h1 h2 hy hn;refine zi (Wp ..) (zd (by simp;omega) (zd (by simp;omega) (zd (by simp;omega) ?_)));simp only[zf,h2,na];rw[_root_.Go.Pe.wr ((i:Int)+1) (by omega) (by omega)];exact zx (fun c=>zm (by simp<;>omega) (hy c)) (fun c=>by have:=hn c;push_cast at this;exact this)
  ·intro h;refine zi (Wp ..) (zm (by simp) (zd rfl ?_));rw[na];exact h
  ·intro i h1 ht hp;have hsp:r.drop i=r.getD i 0::r.drop (i+1):=by
    rw[zF h1];congr 1;simp[zR,zy h1]
   have hfi:(r.take i).filter (fun x=> !Pm m x)=r.take i:=zH.2 (fun x hx=>by rw[ht x hx];rfl);have hfi1:(r.take (i+1)).filter (fun x=> !Pm m x)=r.take i:=by
    rw[Bt hsp,zu,hfi,zI (by show ¬(!Pm m (r.getD i 0))=true;rw[hp];simp)];simp
   refine HV r (Pm m) (fun w i a=>dW l r m r.length w i a m) ?_ ?_ (r.drop (i+1)) i (i+1) r rfl (by omega) (by omega) rfl rfl hfi1.symm (by rw[hfi1];simp;omega)
   ·intro w k arr x h1 h2 h3 h4 hy hn;refine zi (Yo ..) (zd (by simp;omega) (zd (by simp;omega) (zd (by simp;omega) ?_)));simp only[zf,h4];rw[_root_.Go.Pe.wr ((k:Int)+1) (by omega) (by omega),_root_.Go.Pe.wr ((w:Int)+1) (by omega) (by omega)];refine zx (fun c=>zd (by simp;omega) (zd (by simp;omega) ?_)) (fun c=>?_)
    ·have:=hn (by simpa [Pm]using c);push_cast at this;exact this
    ·have:=hy (by simpa [Pm]using c);push_cast at this;exact this
   ·intro arr ha ht2;have hle:(r.filter fun x=> !Pm m x).length≤r.length:=zE _ _;generalize (r.filter fun x=> !Pm m x)=f at*;refine zi (Yo ..) (zm (by simp) (zd (by simp;omega) (zd (by simp;omega) (zd (by simp;omega) ?_))));refine hF _ ?_ ?_
    ·simp;omega
    ·simp only[zf,na];rw[zt (by simp;omega),zQ,yb,ht2]
 ·have e:r=[]:=zp.1 (by have:=of_decide_eq_false c;omega);exact zi (jR ..) (zm (by simp) (zd rfl (h0 e)))
 ·have e:r=[]:=zp.1 (by have:=of_decide_eq_false c;omega);refine zi (iZ ..) (zm (by simp[e]) (zd rfl ?_));rw[na];exact hN (by rw[e];simp)
theorem c4(l r:List Int)(m:List (Int×Bool))(k cc:Nat)(o:List Int)(hs:r.length≤300)(hN:(∀x∈r,Pm m x=false)→Ends Bq (cS l k cc r.length r o) Q)
  (hF:∀arr,arr.length=r.length→arr.take (r.filter fun x=> !Pm m x).length=(r.filter fun x=> !Pm m x)→Ends Bq (mR l k cc (r.filter fun x=> !Pm m x).length r.length arr o) Q)
  (h0:r=[]→Ends Bq (lG l k cc o) Q):Ends Bq (jB l r k cc m o) Q:=by
 refine zi (jA ..) ?_;conv=>zeta
 rw[na,zW];refine zx (fun c=>zd (by simp;omega) ?_) (fun c=>Ends.both ?_ (zd (by simp;omega) ?_))
 ·refine I0 r (Pm m) (fun i=>kF l r k cc m o r.length r.length i r m o) (cS l k cc r.length r o) (fun i=>dQ l r k cc m o r.length i (i+1) r m o) ?_ ?_ hN ?_ r 0 rfl (by omega) (by simp)
  ·intro i x h1 h2 hy hn;refine zi (Xj ..) (zd (by simp;omega) (zd (by simp;omega) (zd (by simp;omega) ?_)));simp only[zf,h2,na];rw[_root_.Go.Pe.wr ((i:Int)+1) (by omega) (by omega)];exact zx (fun c=>zm (by simp<;>omega) (hy c)) (fun c=>by have:=hn c;push_cast at this;exact this)
  ·intro h;refine zi (Xj ..) (zm (by simp) (zd rfl ?_));rw[na];exact h
  ·intro i h1 ht hp;have hsp:r.drop i=r.getD i 0::r.drop (i+1):=by
    rw[zF h1];congr 1;simp[zR,zy h1]
   have hfi:(r.take i).filter (fun x=> !Pm m x)=r.take i:=zH.2 (fun x hx=>by rw[ht x hx];rfl);have hfi1:(r.take (i+1)).filter (fun x=> !Pm m x)=r.take i:=by
    rw[Bt hsp,zu,hfi,zI (by show ¬(!Pm m (r.getD i 0))=true;rw[hp];simp)];simp
   refine HV r (Pm m) (fun w i a=>dQ l r k cc m o r.length w i a m o) ?_ ?_ (r.drop (i+1)) i (i+1) r rfl (by omega) (by omega) rfl rfl hfi1.symm (by rw[hfi1];simp;omega)
   ·intro w k arr x h1 h2 h3 h4 hy hn;refine zi (Wq ..) (zd (by simp;omega) (zd (by simp;omega) (zd (by simp;omega) ?_)));simp only[zf,h4];rw[_root_.Go.Pe.wr ((k:Int)+1) (by omega) (by omega),_root_.Go.Pe.wr ((w:Int)+1) (by omega) (by omega)];refine zx (fun c=>zd (by simp;omega) (zd (by simp;omega) ?_)) (fun c=>?_)
    ·have:=hn (by simpa [Pm]using c);push_cast at this;exact this
    ·have:=hy (by simpa [Pm]using c);push_cast at this;exact this
   ·intro arr ha ht2;have hle:(r.filter fun x=> !Pm m x).length≤r.length:=zE _ _;generalize (r.filter fun x=> !Pm m x)=f at*;refine zi (Wq ..) (zm (by simp) (zd (by simp;omega) (zd (by simp;omega) (zd (by simp;omega) ?_))));refine hF _ ?_ ?_
    ·simp;omega
    ·simp only[zf,na];rw[zt (by simp;omega),zQ,yb,ht2]
 ·have e:r=[]:=zp.1 (by have:=of_decide_eq_false c;omega);exact zi (jD ..) (zm (by simp) (zd rfl (h0 e)))
 ·have e:r=[]:=zp.1 (by have:=of_decide_eq_false c;omega);refine zi (fG ..) (zm (by simp[e]) (zd rfl ?_));rw[na];exact hN (by rw[e];simp)
end T29
end Go.Pe
end
section
namespace Go.Pe
open Sp
open Go.Det
theorem three{ob:Ob}{p q:PV}{a b a' b':List Int}(h1:Df ⟨0,.leaf,ob,0⟩ Cq p=some (true,a))(h2:Df ⟨0,.leaf,ob,0⟩ Cq q=some (true,b))(ha:a=a')(hb:b=b'):
  Cn ⟨0,.leaf,ob,0⟩ [Cq,Cq,i64] (Eu [Cq,Cq,i64] (.tup [p,q,.dat i64 0]))=some (true,(a',b',0)):=by
 subst ha hb;exact Jj h1 (Jj h2 rfl)
theorem Jc{l g:List Int}{m:List (Int×Bool)}(hm:FO m (fun x=>x∈g)):(l.filter fun x=> !T29.Pm m x)=Sp.stay g l:=by
 unfold Sp.stay;congr 1;funext x;have:=hm x;unfold T29.Pm;cases h:(Bs (.int .i64) .bool x m).getD false with
 |true=>rw[decide_eq_true (this.1 h)]
 |false=>rw[decide_eq_false (fun e=>by rw[this.2 e]at h;cases h)]
theorem Jr{l g:List Int}{m:List (Int×Bool)}(hm:FO m (fun x=>x∈g))(h:∀x∈l,T29.Pm m x=false):Sp.stay g l=l:=by
 rw[←Jc hm];exact zH.2 (fun x hx=>by rw[h x hx];rfl)
theorem YV(a b:Bool)(x y:Int)(hx:x≠0):zG [Dk a x,Dk b y]=if a=true then x else if b=true then y else 0:=by
 cases a<;>cases b<;>simp[zG,Dk,hx]
 all_goals (by_cases h:y=0<;>simp[h])
theorem No{T arr:List Int}{n:Nat}(h:arr.take n=T){k:Nat}(hk:k≤n):arr.take k=T.take k:=by
 rw[←h,zQ,zX hk]
theorem LJ{T arr:List Int}{n:Nat}(h:arr.take n=T)(k:Nat):(arr.drop k).take (n-k)=T.drop k:=by
 rw[←h,List.drop_take]
namespace T29
variable {Q:PV→Ob→Prop}
def Q3(Q:PV→Ob→Prop)(f e:List Int)(d:Nat):Prop:=∀v ob,Cn ⟨0,.leaf,ob,0⟩ [Cq,Cq,i64] (Eu [Cq,Cq,i64] v)=some (true,(f++e.take d,e.drop d,0))→Q v ob
theorem E7(a b c:Nat)(h:b≤a)(ha:a≤300):BE (ze .i64 ((a:Int)-(b:Int))) (c:Int)=((min (a-b) c:Nat):Int):=by
 rw[_root_.Go.Pe.wr _ (by omega) (by omega)];unfold BE;split<;>omega
theorem Qq(d:Nat)(e:List Int):e.take (min d e.length)=e.take d∧e.drop (min d e.length)=e.drop d:=by
 rcases Nat.le_total d e.length with h|h
 ·rw[zX h];exact⟨rfl,rfl⟩
 ·rw[Nat.min_eq_right h,zB (zC _),zB h,yc (zC _),yc h];exact⟨rfl,rfl⟩
theorem f21(l f e:List Int)(hl:l.length≤300)(hf:f.length≤l.length)(he:e.length≤300)(hq:Q3 Q f e (l.length-f.length)):Ends Bq (cQ l f.length e.length e f) Q:=by
 refine zi (fN ..) ?_;conv=>zeta
 rw[E7 _ _ _ hf hl];have hk:min (l.length-f.length) e.length≤e.length:=zS _ _;obtain⟨t1,t2⟩:=Qq (l.length-f.length) e;generalize min (l.length-f.length) e.length=k at*;refine zi (eW ..) (zd (by simp;omega) (zd (by simp;omega) (zd (by simp;omega) (zk (hq _ _ ?_)))));refine three (Qb rfl rfl (by simp)) (El rfl rfl (by simp;omega)) ?_ ?_
 ·rw[zf,t1]
 ·rw[zf,na];show(e.drop k).take (e.length-k)=_;rw[zB (by simp),t2]
theorem f35(l f e o:List Int)(c:Nat)(hl:l.length≤300)(hf:f.length≤l.length)(he:e.length≤300)(ho:o.take e.length=e)(hc:e.length≤c)(hoc:o.length=c)(hq:Q3 Q f e (l.length-f.length)):Ends Bq (mG l f.length e.length c o f) Q:=by
 refine zi (iO ..) ?_;conv=>zeta
 rw[E7 _ _ _ hf hl];have hk:min (l.length-f.length) e.length≤e.length:=zS _ _;obtain⟨t1,t2⟩:=Qq (l.length-f.length) e;generalize min (l.length-f.length) e.length=k at*;refine zi (iK ..) (zd (by simp;omega) (zd (by simp;omega) (zd (by simp;omega) (zk (hq _ _ ?_)))));refine three (Qb rfl rfl (by simp)) (El rfl rfl (by simp;omega)) ?_ ?_
 ·rw[zf,No ho hk,t1]
 ·rw[zf,na];show(o.drop k).take (e.length-k)=_;rw[LJ ho,t2]
theorem f23(l f:List Int)(hl:l.length≤300)(hf:f.length≤l.length)(hq:Q3 Q f [] (l.length-f.length)):Ends Bq (kU l f.length f) Q:=by
 refine zi (jU ..) ?_;conv=>zeta
 have:=E7 _ _ 0 hf hl;rw[show((0:Nat):Int)=0 from rfl]at this;rw[this,Nat.min_zero];refine zi (iP ..) (zd (by simp) (zd (by simp) (zd (by simp;omega) (zk (hq _ _ ?_)))));exact three (Qb rfl rfl (by simp)) Ff (by simp) (by simp)
theorem f29(e:List Int)(hq:Q3 Q [] e 0):Ends Bq (aO [] e.length e) Q:=by
 refine zi (iE ..) ?_;conv=>zeta
 have:=E7 0 0 e.length (zC _) (by omega);have e0:BE (ze .i64 ((([]:List Int).length:Int)-0)) (e.length:Int)=0:=by
  rw[show((([]:List Int).length:Int)-0)=((0:Nat):Int)-((0:Nat):Int)from rfl,this];simp
 rw[e0];refine zi (fK ..) (zd (by simp) (zd (by simp) (zm (by simp) (zd (by simp) (zk (hq _ _ ?_))))));refine three Ff (El rfl rfl (by simp)) (by simp) ?_;show(e.drop 0).take (e.length-0)=_;simp
theorem f43(e o:List Int)(c:Nat)(ho:o.take e.length=e)(hc:e.length≤c)(hoc:o.length=c)(hq:Q3 Q [] e 0):Ends Bq (lV [] e.length c o) Q:=by
 refine zi (gY ..) ?_;conv=>zeta
 have:=E7 0 0 e.length (zC _) (by omega);have e0:BE (ze .i64 ((([]:List Int).length:Int)-0)) (e.length:Int)=0:=by
  rw[show((([]:List Int).length:Int)-0)=((0:Nat):Int)-((0:Nat):Int)from rfl,this];simp
 rw[e0];refine zi (jQ ..) (zd (by simp) (zd (by simp;omega) (zm (by simp) (zd (by simp) (zk (hq _ _ ?_))))));refine three Ff (El rfl rfl (by simp;omega)) (by simp) ?_;show(o.drop 0).take (e.length-0)=_;simpa using ho
theorem f31(hq:Q3 Q [] [] 0):Ends Bq (mB []) Q:=by
 refine zi (fP ..) ?_;conv=>zeta
 have e0:BE (ze .i64 ((([]:List Int).length:Int)-0)) 0=0:=by rfl
 rw[e0];exact zi (fZ ..) (zd (by simp) (zd (by simp) (zk (hq _ _ (three Ff Ff (by simp) (by simp))))))
theorem QB{f a T:List Int}(ha:a.take f.length=f)(n:Nat)(hn:n=f.length+T.length)(s:List Int):((a.take (0+f.length)++(T++s)).drop 0).take n=f++T:=by
 subst hn;rw[Nat.zero_add,ha,List.drop_zero, ←List.append_assoc,zt (by simp),zB (by simp)]
theorem f37(l f e a:List Int)(c:Nat)(hl:l.length≤300)(hf:f.length≤l.length)(_he:e.length≤300)(ha:a.take f.length=f)(hac:a.length=c)(hc:c=l.length)(hq:Q3 Q f e (l.length-f.length)):Ends Bq (cS l f.length c e.length e a) Q:=by
 refine zi (hI ..) ?_;conv=>zeta
 rw[E7 _ _ _ hf hl];have hk:min (l.length-f.length) e.length≤e.length:=zS _ _;have hk2:min (l.length-f.length) e.length≤l.length-f.length:=Nat.min_le_left _ _;obtain⟨t1,t2⟩:=Qq (l.length-f.length) e;generalize min (l.length-f.length) e.length=k at*;refine zi (gK ..) (zd (by simp;omega) (zd (by simp;omega) (zd (by simp;omega) (zk (hq _ _ ?_)))));refine three (El rfl rfl (by simp;omega)) (El rfl rfl (by simp;omega)) ?_ ?_
 ·refine(QB ha _ rfl _).trans ?_;rw[zf,t1]
 ·rw[zf,na];show(e.drop k).take (e.length-k)=_;rw[zB (by simp),t2]
theorem f47(l f e a o:List Int)(c c2:Nat)(hl:l.length≤300)(hf:f.length≤l.length)(_he:e.length≤300)(ha:a.take f.length=f)(hac:a.length=c)(hc:c=l.length)(ho:o.take e.length=e)(hc2:e.length≤c2)(hoc:o.length=c2)(hq:Q3 Q f e (l.length-f.length)):Ends Bq (mR l f.length c e.length c2 o a) Q:=by
 refine zi (iA ..) ?_;conv=>zeta
 rw[E7 _ _ _ hf hl];have hk:min (l.length-f.length) e.length≤e.length:=zS _ _;have hk2:min (l.length-f.length) e.length≤l.length-f.length:=Nat.min_le_left _ _;obtain⟨t1,t2⟩:=Qq (l.length-f.length) e;generalize min (l.length-f.length) e.length=k at*;refine zi (fU ..) (zd (by simp;omega) (zd (by simp;omega) (zd (by simp;omega) (zk (hq _ _ ?_)))));refine three (El rfl rfl (by simp;omega)) (El rfl rfl (by simp;omega)) ?_ ?_
 ·refine(QB ha _ rfl _).trans ?_;rw[zf,No ho hk,t1]
 ·rw[zf,na];show(o.drop k).take (e.length-k)=_;rw[LJ ho,t2]
theorem f39(l f a:List Int)(c:Nat)(hl:l.length≤300)(hf:f.length≤l.length)(ha:a.take f.length=f)(hac:a.length=c)(hc:c=l.length)(hq:Q3 Q f [] (l.length-f.length)):Ends Bq (lG l f.length c a) Q:=by
 refine zi (jO ..) ?_;conv=>zeta
 have:=E7 _ _ 0 hf hl;rw[show((0:Nat):Int)=0 from rfl]at this;rw[this,Nat.min_zero];refine zi (gT ..) (zd (by simp) (zd (by simp) (zd (by simp;omega) (zk (hq _ _ ?_)))));refine three (El rfl rfl (by simp;omega)) Ff ?_ (by simp);rw[QB ha _ (by simp)];simp
theorem BF(l r g:List Int)(m:List (Int×Bool))(hm:FO m (fun x=>x∈g))(hl:l.length≤300)(hr:r.length≤300)(hq:Q3 Q (Sp.stay g l) (Sp.stay g r) (l.length-(Sp.stay g l).length)):Ends Bq (L5 l r m) Q:=by
 have sl:=Rk g l;have sr:=Rk g r;refine c1 l r m hl (fun hn=>?_) (fun a ha ht=>?_) (fun h=>?_)
 ·
  have hs:=Jr hm hn;rw[hs]at hq;refine c2 l r m l.length l hr (fun hn2=>?_) (fun o ho ht2=>?_) (fun h=>?_)
  ·rw[Jr hm hn2]at hq;exact f21 l l r hl (zC _) hr hq
  ·rw[Jc hm]at ht2 ⊢;exact f35 l l (Sp.stay g r) o r.length hl (zC _) (by omega) ht2 sr ho hq
  ·subst h;exact f23 l l hl (zC _) hq
 ·rw[Jc hm]at ht ⊢;refine c4 l r m (Sp.stay g l).length l.length a hr (fun hn2=>?_) (fun o ho ht2=>?_) (fun h=>?_)
  ·rw[Jr hm hn2]at hq;exact f37 l (Sp.stay g l) r a l.length hl sl hr ht ha rfl hq
  ·rw[Jc hm]at ht2 ⊢;exact f47 l (Sp.stay g l) (Sp.stay g r) a o l.length r.length hl sl (by omega) ht ha rfl ht2 sr ho hq
  ·subst h;exact f39 l (Sp.stay g l) a l.length hl sl ht ha rfl hq
 ·subst h;have e0:Sp.stay g []=[]:=rfl;rw[e0]at hq;refine c3 [] r m hr (fun hn2=>?_) (fun o ho ht2=>?_) (fun h=>?_)
  ·rw[Jr hm hn2]at hq;exact f29 r hq
  ·rw[Jc hm]at ht2 ⊢;exact f43 (Sp.stay g r) o r.length ht2 sr ho hq
  ·subst h;exact f31 hq
set_option maxRecDepth 10000 in
theorem A1(l r g:List Int)(m0:List (Int×Bool))(hm0:FO m0 (fun x=>x∈l++r))(hg:g.length≤300)(w:Int)(hE:w≠0→∀ob,Q (.tup [.nil,.nil,.dat i64 w]) ob)(hC:w=0→∀m,FO m (fun x=>x∈g)→Ends Bq (L5 l r m) Q):
  ∀(s:List Int) (i:Nat) (m:List (Int×Bool)),g.drop i=s→i≤g.length→FO m (fun x=>x∈g.take i)→My (l++r) (g.take i) s=w→Ends Bq (L4 l r g g.length i m m0) Q
 |[],i,m,h,hi,hm,hw=>by
  have hi:=drop_nil h hi;subst hi;rw[zN]at hm;exact zi (BA ..) (zm (by simp) (hC hw.symm m hm))
 |x::s,i,m,h,hi,hm,hw=>by
  obtain⟨h1,h2,h3⟩:=drop_cons (d:=0) h;refine zi (BA ..) (zd (by simp;omega) (zd (by simp;omega) (zd rfl (zd rfl (zd rfl ?_)))));simp only[zf,h2];rw[_root_.Go.Pe.wr ((i:Int)+1) (by omega) (by omega),YV _ _ _ _ (by decide)];unfold My at hw;have k0:=hm0 x;have k1:=hm x;by_cases hx:x∈l++r
  ·rw[if_neg (fun h=>h hx)]at hw;rw[if_neg (by rw[k0.2 hx];simp)];by_cases hy:x∈g.take i
   ·rw[if_pos hy]at hw;subst hw;rw[if_pos (k1.2 hy)];exact zd rfl (zk (hE (by decide) _))
   ·rw[if_neg hy]at hw;rw[if_neg (fun e=>hy (k1.1 e))];refine zm rfl (A1 l r g m0 hm0 hg w hE hC s (i+1) _ h3 h1 ?_ (by rw[Bt h];exact hw));refine(hm.add x).congr fun y=>?_
    rw[Bt h];simp;exact Or.comm
  ·rw[if_pos hx]at hw;subst hw;have:(Bs (.int .i64) .bool x m0).getD false=false:=by
    cases hh:(Bs (.int .i64) .bool x m0).getD false with
    |true=>exact absurd (k0.1 hh) hx
    |false=>rfl
   rw[if_pos (by rw[this];rfl)];exact zd rfl (zk (hE (by decide) _))
theorem Bb(l r g:List Int)(m0:List (Int×Bool))(hm0:FO m0 (fun x=>x∈l++r))(hg:g.length≤300)(w:Int)(hw:(if g.length>200 then 5 else My (l++r) [] g)=w)(hE:w≠0→∀ob,Q (.tup [.nil,.nil,.dat i64 w]) ob)(hC:w=0→∀m,FO m (fun x=>x∈g)→Ends Bq (L5 l r m) Q):
  Ends Bq (L3 l r g m0) Q:=by
 refine zi (Bk ..) (zx (fun c=>?_) (fun c=>?_))
 ·rw[if_pos (by simp at c;omega)]at hw;subst hw;exact zk (hE (by decide) _)
 ·rw[if_neg (by simp at c;omega)]at hw;exact A1 l r g m0 hm0 hg w hE hC g 0 [] rfl (by omega) (FO.nil.congr fun y=>by simp) hw
set_option maxRecDepth 10000 in
theorem AL(l r g:List Int)(k:Nat)(a seen:List Int)(ha:a.length≤300)(w:Int)(hw:ET seen a=w)(hE:w≠0→∀ob,Q (.tup [.nil,.nil,.dat i64 w]) ob)(hC:w=0→∀m,FO m (fun x=>x∈seen++a)→Ends Bq (L1 l r g 2 2 (ze .i64 ((k:Int)+1)) [l,r] m) Q):
  ∀(s:List Int) (i:Nat) (m:List (Int×Bool)),a.drop i=s→i≤a.length→FO m (fun x=>x∈seen++a.take i)→ET (seen++a.take i) s=w→Ends Bq (L2 l r g 2 2 k a a.length i [l,r] m) Q
 |[],i,m,h,hi,hm,hw=>by
  have hi:=drop_nil h hi;subst hi;rw[zN]at hm;exact zi (AN ..) (zm (by simp) (hC hw.symm m hm))
 |x::s,i,m,h,hi,hm,hw'=>by
  obtain⟨h1,h2,h3⟩:=drop_cons (d:=0) h;refine zi (AN ..) (zd (by simp;omega) (zd (by simp;omega) (zd rfl (zd rfl (zd rfl ?_)))));simp only[zf,h2];rw[_root_.Go.Pe.wr ((i:Int)+1) (by omega) (by omega),YV _ _ _ _ (by decide)];have e2:ET (seen++a.take i) (x::s)=if x<0 then 3 else if x∈seen++a.take i then 9 else ET (seen++a.take i++[x]) s:=rfl
  rw[e2]at hw';have k1:=hm x;by_cases hx:x<0
  ·rw[if_pos hx]at hw';subst hw';rw[if_pos (by simpa using hx)];exact zd rfl (zk (hE (by decide) _))
  ·rw[if_neg hx]at hw';rw[if_neg (by simpa using hx)];by_cases hy:x∈seen++a.take i
   ·rw[if_pos hy]at hw';subst hw';rw[if_pos (k1.2 hy)];exact zd rfl (zk (hE (by decide) _))
   ·rw[if_neg hy]at hw';rw[if_neg (fun e=>hy (k1.1 e))];refine zm rfl (AL l r g k a seen ha w hw hE hC s (i+1) _ h3 h1 ?_ (by rw[Bt h, ←List.append_assoc];exact hw'));refine(hm.add x).congr fun y=>?_
    rw[Bt h];simp;grind
theorem ok:Ad AR 29 Zm:=by
 refine Av (X:=Bq) rfl bF (d:=9) (by kernel_rfl) (by kernel_rfl) (by kernel_rfl) (fun(i:List Int×List Int×List Int) hi=>?_) (Ab (by kernel_rfl));obtain⟨l,r,g⟩:=i;obtain⟨hl,hr,hg⟩:=iT (l:=l) (r:=r) (g:=g) hi;refine zT (Ap l r g) ?_;conv=>zeta
 have hsub:∀w,w=P1 l r g→w≠0→∀ob,Ae Zm (l,r,g) (.tup [.nil,.nil,.dat i64 w]) ob:=by
  rintro w rfl hw ob;exact⟨([],[],P1 l r g),rfl,by show _=Sp.Sub l r g;unfold Sp.Sub;rw[if_pos hw]⟩
 have hfin:P1 l r g=0→Q3 (Ae Zm (l,r,g)) (Sp.stay g l) (Sp.stay g r) (l.length-(Sp.stay g l).length):=by
  intro h0 v ob h;exact⟨_,h,by show _=Sp.Sub l r g;unfold Sp.Sub;rw[if_neg (by simpa using h0)];rfl⟩
 have e0:([l,r]:List (List Int)).getD (0:Int).toNat []=l:=rfl;have e1:([l,r]:List (List Int)).getD (1:Int).toNat []=r:=rfl;refine zi (Ai ..) (zd rfl (zd rfl (zd rfl ?_)));rw[e0];unfold P1 at hsub hfin;refine zx (fun c=>?_) (fun c=>?_)
 ·rw[if_pos (by simp at c;omega)]at hsub;exact zk (hsub 5 rfl (by decide) _)
 rw[if_neg (by simp at c;omega)]at hsub hfin;refine AL l r g 0 l [] hl (ET [] l) rfl (fun hw=>hsub _ (by rw[if_pos hw]) hw) (fun hw m hm=>?_) l 0 [] rfl (by omega) (FO.nil.congr fun y=>by simp) rfl;rw[if_neg (by simpa using hw)]at hsub hfin;refine zi (Ai ..) (zd rfl (zd rfl (zd rfl ?_)));have e1':([l,r]:List (List Int)).getD (ze .i64 (((0:Nat):Int)+1)).toNat []=r:=rfl;rw[e1'];refine zx (fun c=>?_) (fun c=>?_)
 ·rw[if_pos (by simp at c;omega)]at hsub;exact zk (hsub 5 rfl (by decide) _)
 rw[if_neg (by simp at c;omega)]at hsub hfin;refine AL l r g 1 r l hr (ET l r) rfl (fun hw=>hsub _ (by rw[if_pos hw]) hw) (fun hw m hm=>?_) r 0 m rfl (by omega) (hm.congr fun y=>by simp) (by simp);rw[if_neg (by simpa using hw)]at hsub hfin;refine zi (Ai ..) (zm rfl ?_);exact Bb l r g m hm hg _ rfl (fun hw=>hsub _ rfl hw) (fun hw m hm=>BF l r g m hm hl hr (hfin hw))
end T29
end Go.Pe
end
section
namespace Go.Sp
def compare(a b:Int):Int:=if a<b then -1 else if a>b then 1 else 0
end Go.Sp
namespace Go.Pe
open Go.Det
noncomputable section
noncomputable def Nj:As:=⟨[i64,i64],fun _=>true,[i64],fun i=>Sp.compare i.1 i.2,false⟩
noncomputable def fW:As:=⟨[i64],fun _=>false,[i64],fun _=>0,false⟩
noncomputable def nE:List (FuncId×As):=[(87,CD),(92,Ir),(94,GS),(158,DG),(113,DG),(84,bS),(112,EI),(200,CD),(119,Nj)]
noncomputable def pR:AW:=X7 nE
end
end Go.Pe
end
section
namespace Go.Sp
def val(b:Int):List Int→Int
 |[]=>0
 |d::r=>d+b*val b r
def At(b:Int)(l:List Int):Prop:=∀d∈l,0≤d∧d<b
def nz(l:List Int):Prop:=l.getLast?≠some 0
def Sr(b:Nat):Nat→Nat→List Int
 |0,_=>[]
 |f+1,n=>if n=0 then[]else((n % b:Nat):Int)::Sr b f (n/b)
def dg(b:Nat)(n:Int):List Int:=Sr b n.toNat n.toNat
def Az:List Int→List Int
 |[]=>[]
 |d::r=>match Az r with
  |[]=>if d=0 then[]else[d]
  |s=>d::s
theorem Aw{b:Int}(hb:0≤b):∀ {l:List Int},At b l→0≤val b l
 |[],_=>Int.le_refl _
 |d::r,h=>by
  have h1:=(h d (by simp)).1;have h2:=Aw hb (l:=r) fun x hx=>h x (by simp[hx])
  have:=Int.mul_nonneg hb h2;unfold val;omega
theorem Cy(b:Int):∀(l r:List Int),val b (l++r)=val b l+b^l.length*val b r
 |[],r=>by simp[val]
 |d::l,r=>by
  rw[List.cons_append,val,Cy b l r,val,ya,zZ,yh,Int.add_assoc, ←Int.mul_assoc,yi b (b^l.length)]
theorem J3(b:Int):∀n,val b (List.replicate n 0)=0
 |0=>rfl
 |n+1=>by rw[List.replicate_succ,val,J3 b n];simp
theorem Bv{b:Int}(hb:0<b):∀ {l:List Int},At b l→val b l<b^l.length
 |[],_=>by simp[val]
 |d::r,h=>by
  have h1:=(h d (by simp)).2;have h2:=Bv hb (l:=r) fun x hx=>h x (by simp[hx])
  have h3:b*val b r≤b*(b^r.length-1):=zz (by omega) (by omega);rw[val,ya,zZ,yi (b^r.length) b];rw[Int.mul_sub,Int.mul_one]at h3;omega
theorem HI(b:Int):∀l,val b (Az l)=val b l
 |[]=>rfl
 |d::r=>by
  have ih:=HI b r;unfold Az;split
  ·rename_i h;rw[h]at ih;have ih:val b r=0:=ih.symm;split
   ·rename_i h0;show(0:Int)=d+b*val b r;rw[ih,h0];simp
   ·show d+b*(0:Int)=d+b*val b r;rw[ih]
  ·rw[val,val,ih]
theorem Gf{b:Int}:∀ {l:List Int},At b l→At b (Az l)
 |[],h=>h
 |d::r,h=>by
  have ih:=Gf (l:=r) fun x hx=>h x (by simp[hx])
  have hd:=h d (by simp);unfold Az;split
  ·split
   ·intro x hx;cases hx
   ·intro x hx;rw[z5.1 hx];exact hd
  ·rename_i s hs;intro x hx;rcases zO.1 hx with rfl|hx
   ·exact hd
   ·exact ih x hx
theorem I7:∀l:List Int,nz (Az l)
 |[]=>by simp[nz,Az]
 |d::r=>by
  have ih:=I7 r;unfold Az;split
  ·split
   ·simp[nz]
   ·rename_i h;simp[nz,h]
  ·rename_i s hs;unfold nz at ih ⊢;cases hr:Az r with
   |nil=>exact absurd hr hs
   |cons a t=>rw[hr]at ih;rw[zw];exact ih
theorem Hg:∀ {l:List Int},nz l→Az l=l
 |[],_=>rfl
 |d::r,h=>by
  unfold Az;cases r with
  |nil=>
   have:d≠0:=by simpa [nz]using h
   simp[Az,this]
  |cons a t=>
   have:nz (a::t):=by unfold nz at h ⊢;rwa [zw]at h
   rw[Hg this]
theorem Lo{b:Int}(hb:0<b):∀ {l:List Int},At b l→nz l→l≠[]→0<val b l
 |[],_,_,h=>absurd rfl h
 |d::r,h,hn,_=>by
  have h1:=(h d (by simp)).1;have hr:At b r:=fun x hx=>h x (by simp[hx])
  have h2:=Aw (by omega) hr;unfold val;cases r with
  |nil=>
   have:d≠0:=by simpa [nz]using hn
   simp[val];omega
  |cons a t=>
   have:=Lo hb hr (by unfold nz at hn ⊢;rwa [zw]at hn) (by simp);have:=Int.mul_pos hb this;omega
theorem val_inj{b:Int}(hb:0<b):∀ {l r:List Int},At b l→At b r→nz l→nz r→val b l=val b r→l=r
 |[],[],_,_,_,_,_=>rfl
 |[],x::r,_,h2,_,n2,h=>by have:=Lo hb h2 n2 (by simp);rw[←h]at this;simp[val]at this
 |x::l,[],h1,_,n1,_,h=>by have:=Lo hb h1 n1 (by simp);rw[h]at this;simp[val]at this
 |x::l,y::r,h1,h2,n1,n2,h=>by
  have a1:=h1 x (by simp);have a2:=h2 y (by simp);unfold val at h;have e1:x=y:=by
   have h3:(x+b*val b l) % b=(y+b*val b r) % b:=by rw[h]
   rw[z6,z6,Int.emod_eq_of_lt a1.1 a1.2,Int.emod_eq_of_lt a2.1 a2.2]at h3;exact h3
  subst e1;have e2:val b l=val b r:=by
   have h4:b*val b l=b*val b r:=by omega
   exact Int.eq_of_mul_eq_mul_left (by omega) h4
  have t1:∀ {x:Int} {l:List Int},nz (x::l)→nz l:=by
   intro x l hn;cases l with
   |nil=>simp[nz]
   |cons a t=>unfold nz at hn ⊢;rwa [zw]at hn
  rw[val_inj hb (fun z hz=>h1 z (by simp[hz])) (fun z hz=>h2 z (by simp[hz])) (t1 n1) (t1 n2) e2]
theorem Qt(b:Nat)(hb:2≤b):∀f n,n≤f→val b (Sr b f n)=n
 |0,n,h=>by simp[Sr,val];omega
 |f+1,n,h=>by
  unfold Sr;split
  ·rename_i h0;subst h0;rfl
  ·rename_i h0;have h1:n/b≤f:=by
    have:n/b<n:=Nat.div_lt_self (by omega) hb;omega
   rw[val,Qt b hb f (n/b) h1];have:=Nat.mod_add_div n b;have h2:((n % b+b*(n/b):Nat):Int)=(n:Int):=by rw[this]
   push_cast at h2 ⊢
   exact h2
theorem Rf(b:Nat)(hb:2≤b):∀f n,At b (Sr b f n)
 |0,n=>by intro x hx;cases hx
 |f+1,n=>by
  unfold Sr;split
  ·intro x hx;cases hx
  ·intro x hx;rcases zO.1 hx with rfl|hx
   ·have:=Nat.mod_lt n (show 0<b by omega);omega
   ·exact Rf b hb f (n/b) x hx
theorem YW(b:Nat)(hb:2≤b):∀f n,n≤f→nz (Sr b f n)
 |0,n,_=>by simp[Sr,nz]
 |f+1,n,h=>by
  unfold Sr;split
  ·simp[nz]
  ·rename_i h0;have h1:n/b≤f:=by
    have:n/b<n:=Nat.div_lt_self (by omega) hb;omega
   have ih:=YW b hb f (n/b) h1;cases hr:Sr b f (n/b)with
   |nil=>
    have hv:=Qt b hb f (n/b) h1;rw[hr]at hv;have hv:n/b=0:=by
     have:((n/b:Nat):Int)=0:=by rw[←hv];rfl
     exact_mod_cast this
    have h2:n % b=n:=Nat.mod_eq_of_lt ((Nat.div_eq_zero_iff_lt (by omega)).1 hv);simp[nz];omega
   |cons a t=>rw[hr]at ih;unfold nz at ih ⊢;rw[zw];exact ih
theorem Dv{b:Nat}(hb:2≤b){n:Int}(hn:0≤n):val b (dg b n)=n:=by
 unfold dg;rw[Qt b hb _ _ (zC _)];omega
theorem HT{b:Nat}(hb:2≤b)(n:Int):At b (dg b n):=Rf b hb _ _
theorem UW{b:Nat}(hb:2≤b)(n:Int):nz (dg b n):=YW b hb _ _ (zC _)
theorem KT{b:Nat}(hb:2≤b){l:List Int}(h1:At b l)(h2:nz l):l=dg b (val b l):=
 val_inj (by omega) h1 (HT hb _) h2 (UW hb _) (Dv hb (Aw (by omega) h1)).symm
theorem UI{b:Nat}(hb:2≤b){l:List Int}(h1:At b l):Az l=dg b (val b l):=by
 rw[←HI];exact KT hb (Gf h1) (I7 l)
theorem fD{b:Nat}(hb:2≤b){n:Int}(hn:0≤n):dg b n=[]↔n=0:=by
 constructor
 ·intro h;have:=Dv hb hn;rw[h]at this;simpa [val]using this.symm
 ·rintro rfl;rfl
end Go.Sp
end
section
namespace Go.Sp
theorem Ht:∀l:List Int,Az (l++[0])=Az l
 |[]=>rfl
 |d::r=>by
  rw[List.cons_append];unfold Az;rw[Ht r]
theorem Ue{l:List Int}{d:Int}(h:d≠0):nz (l++[d]):=by
 unfold nz;rw[List.getLast?_append];simp[h]
theorem cA{x:Int}{l:List Int}(hn:nz (x::l)):nz l:=by
 cases l with
 |nil=>simp[nz]
 |cons a t=>unfold nz at hn ⊢;rwa [zw]at hn
theorem CU{b:Int}(hb:0<b):∀ {l:List Int},At b l→nz l→l≠[]→b^(l.length-1)≤val b l
 |[],_,_,h=>absurd rfl h
 |[d],h,hn,_=>by
  have:=Lo hb h hn (by simp);simp at this ⊢;omega
 |d::e::r,h,hn,_=>by
  have h1:=(h d (by simp)).1;have ih:=CU hb (l:=e::r) (fun x hx=>h x (by simp[hx])) (cA hn) (by simp);have e1:(d::e::r).length-1=((e::r).length-1)+1:=by simp
  rw[e1,zZ,yi];have:=zz ih (show 0≤b by omega);unfold val;omega
theorem AP{b:Int}(hb:0<b):∀n:Nat,0<b^n
 |0=>by simp
 |n+1=>by rw[zZ];exact Int.mul_pos (AP hb n) hb
theorem AT{b:Int}(hb:1≤b){m n:Nat}(h:m≤n):b^m≤b^n:=by
 obtain⟨k,rfl⟩:=Nat.exists_eq_add_of_le h;induction k with
 |zero=>exact Int.le_refl _
 |succ k ih=>
  have:=ih (by omega);rw[show m+(k+1)=(m+k)+1 from rfl,zZ];have hp:=AP (show 0<b by omega) (m+k);have:=zz hb (show 0≤b^(m+k)by omega);rw[Int.mul_one]at this;omega
theorem DU{b:Int}(hb:2≤b){l r:List Int}(h1:At b l)(h2:At b r)(n2:nz r)(h:l.length<r.length):val b l<val b r:=by
 have a1:=Bv (by omega) h1;have a2:=CU (by omega) h2 n2 (by rintro rfl;simp at h);have:=AT (show 1≤b by omega) (show l.length≤r.length-1 by omega);omega
theorem AH{b:Int}{l:List Int}(h:At b l)(i:Nat):At b (l.take i):=fun d hd=>h d (List.mem_of_mem_take hd)
theorem FF{b:Int}{l:List Int}(h:At b l)(i:Nat):At b (l.drop i):=fun d hd=>h d (List.mem_of_mem_drop hd)
theorem Ca(b:Int)(l:List Int)(i:Nat)(h:i≤l.length):val b l=val b (l.take i)+b^i*val b (l.drop i):=by
 conv=>lhs;rw[←List.take_append_drop i l]
 rw[Cy,List.length_take,zX h]
theorem HZ{b:Int}(hb:2≤b){l r:List Int}{x y:Int}{s:List Int}{i:Nat}(h1:At b l)(hr:At b r)(hl:l.drop i=x::s)(hr2:r.drop i=y::s)(h:x<y):val b l<val b r:=by
 have i1:i≤l.length:=by
  rcases Nat.lt_or_ge l.length i with h|h
  ·rw[zP (by omega)]at hl;cases hl
  ·exact h
 have i2:i≤r.length:=by
  rcases Nat.lt_or_ge r.length i with h|h
  ·rw[zP (by omega)]at hr2;cases hr2
  ·exact h
 have a1:=Bv (by omega) (AH h1 i);have a2:=Aw (show 0≤b by omega) (AH hr i);rw[List.length_take,zX i1]at a1;rw[Ca b l i i1,Ca b r i i2,hl,hr2,show val b (x::s)=x+b*val b s from rfl,show val b (y::s)=y+b*val b s from rfl];have hp:=AP (show 0<b by omega) i;have e1:b^i*(x+b*val b s)=b^i*x+b^i*(b*val b s):=yh _ _ _;have e2:b^i*(y+b*val b s)=b^i*y+b^i*(b*val b s):=yh _ _ _;have e3:b^i*(x+1)≤b^i*y:=zz (by omega) (by omega);rw[yh,Int.mul_one]at e3;rw[e1,e2];omega
theorem Pq(b:Nat)(hb:2≤b):∀(k f n:Nat),n<b^k→(Sr b f n).length≤k
 |k,0,n,_=>by simp[Sr]
 |0,f+1,n,h=>by
  have:n=0:=by simpa using h
  subst this;simp[Sr]
 |k+1,f+1,n,h=>by
  unfold Sr;split
  ·simp
  ·have:n/b<b^k:=by
    rw[Nat.pow_succ]at h;exact Nat.div_lt_of_lt_mul (by rw[Nat.mul_comm];exact h)
   have:=Pq b hb k f (n/b) this;simp;omega
end Go.Sp
end
section
namespace Go.Pe
open Go.Det
noncomputable section
open List Int Prod
namespace T119
def T(a b:Int):Tr:=tree BW false 9 119 (Ag ([Sh.int IntKind.i64,Sh.int IntKind.i64]) (a,b))
theorem Ap(a b:Int):T a b=let a':Tr:=.leaf (.dat i64 (-1:Int)) [];let b':Tr:=.leaf (.dat i64 (0:Int)) [];let c':Tr:=.leaf (.dat i64 (1:Int)) [];.ite (a !=a) (.ite (b !=b) b' a') (.ite (b !=b) c' (.ite (decide (a<b)) a' (.ite (decide (a>b)) c' b'))):=by kernel_rfl
end T119
namespace T200
def T(l:List Int):Tr:=tree BW false 9 200 (Ag ([zn i64]) l)
def L1(v3:Int)(v6:List Int)(v7 v8:Int):Tr:=re ((T [])) (Al 18 [(3,.dat i64 v3),(6,.dat (zn i64) v6),(7,.dat i64 v7),(8,.dat i64 v8)] [] 0)
theorem Ap(l:List Int):T l=L1 0 l ((length l:Int)) 0:=by kernel_rfl
theorem Ai(v3:Int)(v6:List Int)(v7 v8:Int):stepT BW (L1 v3 v6 v7 v8)=.ite (decide (v8<v7)) (.ite (decide (0≤v8)&&decide (v8<(length v6:Int))) (.ite (getD v6 (toNat v8) 0 !=v3) (.leaf (.dat i64 (getD v6 (toNat v8) 0)) []) (L1 v3 v6 v7 (ze .i64 (v8+1)))) .fail) (.leaf (.dat i64 v3) []):=by kernel_rfl
end T200
end
namespace T119
theorem ok:Ad AR 119 Nj:=by
 refine Av (X:=BW) rfl Cv (d:=9) (by kernel_rfl) (by kernel_rfl) rfl (fun(i:Int×Int) _=>?_) (Ab (by kernel_rfl));obtain⟨a,b⟩:=i;have hQ:∀n,n=Sp.compare a b→∀ob,Ae Nj (a,b) (.dat i64 n) ob:=fun n hn ob=>yd rfl rfl hn
 refine zT (Ap a b) (zm (by simp) (zm (by simp) (zx (fun c=>zk (hQ _ ?_ _)) (fun c=>zx (fun c2=>zk (hQ _ ?_ _)) (fun c2=>zk (hQ _ ?_ _))))))
 ·unfold Sp.compare;rw[if_pos (of_decide_eq_true c)]
 ·unfold Sp.compare;rw[if_neg (of_decide_eq_false c),if_pos (of_decide_eq_true c2)]
 ·unfold Sp.compare;rw[if_neg (of_decide_eq_false c),if_neg (of_decide_eq_false c2)]
end T119
namespace T200
theorem loop{Q:PV→Ob→Prop}(l:List Int)(hl:l.length≤1000000):∀(r:List Int) (i:Nat),l.drop i=r→i≤l.length→Q (.dat i64 (zG r)) []→Ends BW (L1 0 l l.length i) Q
 |[],i,h,hi,hq=>by
  have:=drop_nil h hi;exact zi (Ai ..) (zm (by simp;omega) (zk hq))
 |x::r,i,h,hi,hq=>by
  obtain⟨h1,h2,h3⟩:=drop_cons (d:=0) h;refine zi (Ai ..) (zd (by simp<;>omega) (zd (by simp<;>omega) ?_));simp only[zf,h2];rw[wr ((i:Int)+1) (by omega) (by omega)];by_cases e:x=0
  ·subst e;exact zm rfl (loop l hl r (i+1) h3 h1 (by simpa [zG]using hq))
  ·exact zd (by simpa using e) (zk (by simpa [zG,e]using hq))
theorem ok:Ad AR 200 CD:=by
 refine Av (X:=BW) rfl Cv (d:=9) (by kernel_rfl) (by kernel_rfl) rfl (fun(l:List Int) hl=>?_) (Ab (by kernel_rfl));exact zT (Ap l) (loop l (by simpa [CD]using hl) l 0 rfl (z8 _) (yd rfl rfl rfl))
end T200
theorem T7:∀g sp,pR.sp g=some sp→Ad AR g sp:=
 Ac T87.ok (Ac T92.ok (Ac T94.ok (Ac T158.ok (Ac T113.ok (Ac T84.ok (Ac T112.ok (Ac T200.ok (Ac T119.ok (fun g sp h=>by cases h)))))))))
theorem bN{s:Sh}{sz:Nat}(hs:s.sz=sz){ob:Ob}{id n:Nat}{c:Option Nat}{fz:Bool}{t:TypeId}{o:List s.T}(hg:AE ob id=some (.arr fz t s o))(hle:n=o.length):
  Df ⟨0,.leaf,ob,0⟩ (.list s) (.sl id sz 0 n c)=some (true,o):=by
 subst hs hle;unfold Df;have h2:Dq ⟨0,.leaf,ob,0⟩ (yg (.sl id s.sz 0 o.length c))=some (true,[.dat (.list s) o]):=by
  show(match Cb ⟨0,.leaf,ob,0⟩ (.sl id s.sz 0 o.length c),some (true,[])with|some (c,x),some (d,xs)=>some (c&&d,x::xs)|_,_=>none)=_;have:Cb ⟨0,.leaf,ob,0⟩ (.sl id s.sz 0 o.length c)=some (true,.dat (.list s) o):=by
   unfold Cb AF.obj;simp only[hg,zY,cond_true];simp
  rw[this];rfl
 simp only[Ix,Sh.Mo];show(match Dq ⟨0,.leaf,ob,0⟩ (yg (.sl id s.sz 0 o.length c))with|some (c,cs)=>_|none=>none)=_;rw[h2];have:Ck (.list s) [PV.dat (.list s) o]=some o:=by
  unfold Ck B6 Y4 DS;simp
 simp only[Gm,this,zV]
theorem WI{s:Sh}{sz:Nat}(hs:s.sz=sz){id n:Nat}{tail:Ob}{fz:Bool}{t:TypeId}{o:List s.T}(hn:n=o.length):Oi [.list s] (.sl id sz 0 n none) ((id,.arr fz t s o)::tail)=some (true,o):=
 bN hs (by unfold AE;rw[zY];rfl) hn
theorem Vk(b:Int):Sp.NS 0 b=b:=rfl
end Go.Pe
end
section
namespace Go.Sp
end Go.Sp
end
section
namespace Go.Pe
open Go.Det
theorem CR{f:FuncId}{s t:List Sh}{g:(Bi s).T→(Bi t).T}{nd:Bool}(hprim:AR.prim f=none)(hfn:∃i,AR.fn f=some i):Ad AR f ⟨s,fun _=>false,t,g,nd⟩:=
 .oP ⟨hprim,hfn,fun F h args i _ _ _ hp=>by cases hp⟩
theorem F5{a b:Int}(h:Sp.NS a b=0):a=0∧b=0:=by
 unfold Sp.NS at h;by_cases e:a=0
 ·rw[if_pos e]at h;exact⟨e,h⟩
 ·rw[if_neg e]at h;exact absurd h e
theorem Cp{α:Type}(A B:List α)(x d:α){n:Nat}(h:A.length=n):(A++x::B).getD n d=x:=by
 subst h;simp[zR]
theorem Cw{α:Type}(A B:List α)(x y:α){n:Nat}(h:A.length=n):(A++x::B).set n y=A++y::B:=by
 subst h;simp
end Go.Pe
end
section
namespace Go.Sp
open Go.Pe (BE imax)
theorem Xq(a b:Int):BE a b=min a b:=by unfold BE;split<;>omega
end Go.Sp
end
section
namespace Go.Sp
end Go.Sp
namespace Go.Pe
open Go.Det
noncomputable section
end
end Go.Pe
end
section
namespace Go.Sp
abbrev An:Nat:=18446744073709551616
abbrev Bl:=Int×List Int
def Cs(l:List Int):Bool:=decide (l.length≤20000)&&l.all fun d=>decide (0≤d)&&decide (d<18446744073709551616)
def hW(l:List Int):Bool:=Cs l&&decide (l.length≤9000)
def fT(l:List Int):Bool:=decide (l.getLast?≠some 0)
def BV(l:List Int):Bool:=Cs l&&fT l
def Ao(l:List Int):Int:=val An l
def BL(n:Int):List Int:=dg An n
def u64(n:Int):Bool:=decide (0≤n)&&decide (n<18446744073709551616)
def GG(n:Int):Bool:=decide (-9223372036854775808≤n)&&decide (n<9223372036854775808)
def Ah(n:Int):Int:=if n<0 then -n else n
theorem Ar(n:Int):Ah n=(n.natAbs:Int):=by unfold Ah;split<;>omega
def vI(a:Bl):Int:=if a.2=[]then a.1 else if a.1<0 then -Ao a.2 else Ao a.2
def EY(a:Bl):Bool:=GG a.1&&(decide (a.2=[])||(BV a.2&&(decide (a.1=1)||decide (a.1= -1))&&decide (9223372036854775808≤Ao a.2)))
def Cr(n:Int):Bl:=if -9223372036854775808<n∧n<9223372036854775808 then(n,[])else(if n<0 then -1 else 1,BL (Ah n))
def Ch(n:Int):Int:=(Cr n).1
def Cf(n:Int):List Int:=(Cr n).2
def sg(neg:Bool)(v:Int):Int:=if neg=true then -v else v
def GO(x y c:Int):Int:=(x+y+c) % 18446744073709551616
def Nr(x y c:Int):Int:=(x+y+c)/18446744073709551616
def QG(x y c:Int):Int:=(x-y-c) % 18446744073709551616
def NR(x y c:Int):Int:=if x<y+c then 1 else 0
def G5(x y:Int):Int:=(x*y) % 18446744073709551616
def OL(x y:Int):Int:=(x*y)/18446744073709551616
def BB(a b:Int):Int:=if a<b then -1 else if a>b then 1 else 0
def Y5(n:Int):Int:=if n<0 then -1 else if n>0 then 1 else 0
def Gz(a b:Bl):Bl:=if a.2=[]∧b.2=[]∧GG (a.1+b.1)=true then(a.1+b.1,[])else Cr (vI a+vI b)
def E3(a:Bl):Bl:=if a.2=[]∧a.1≠ -9223372036854775808 then(-a.1,[])else Cr (-vI a)
def Q5(a:Bl):Bl:=if a.1<0 then E3 a else a
def K3(a b:Bl):Bl:=Gz a (E3 b)
def Tv(a b:Bl):Bl:=Cr (vI a*vI b)
def Hs(a:Bl):Int:=(E3 a).1
def HC(a:Bl):List Int:=(E3 a).2
def MW(a:Bl):Int:=(Q5 a).1
def Mu(a:Bl):List Int:=(Q5 a).2
def Kq(a b:Bl):Int:=(Gz a b).1
def Kx(a b:Bl):List Int:=(Gz a b).2
def Xn(a b:Bl):Int:=(K3 a b).1
def Yf(a b:Bl):List Int:=(K3 a b).2
def GL(a b:Bl):Int:=(Tv a b).1
def GI(a b:Bl):List Int:=(Tv a b).2
end Go.Sp
namespace Go.Pe
open Sp
open Go.Det
noncomputable section
abbrev B0:Sh:=.pair (.int .i64) (.nlist (.int .u64))
abbrev u64:Sh:=.int .u64
abbrev CS:Sh:=.list (.int .u64)
noncomputable def Sz:As:=⟨[u64,u64,u64],fun i=>Sp.u64 i.1&&Sp.u64 i.2.1&&decide (0≤(i.2.2:Int))&&decide ((i.2.2:Int)≤1),[u64,u64],fun i=>(GO i.1 i.2.1 i.2.2,Nr i.1 i.2.1 i.2.2),false⟩
noncomputable def SC:As:=⟨[u64,u64,u64],fun i=>Sp.u64 i.1&&Sp.u64 i.2.1&&decide (0≤(i.2.2:Int))&&decide ((i.2.2:Int)≤1),[u64,u64],fun i=>(QG i.1 i.2.1 i.2.2,NR i.1 i.2.1 i.2.2),false⟩
noncomputable def Pz:As:=⟨[u64,u64],fun i=>Sp.u64 i.1&&Sp.u64 i.2,[u64,u64],fun i=>(OL i.1 i.2,G5 i.1 i.2),false⟩
noncomputable def Sl:As:=⟨[i64],fun n=>GG n,[u64],fun n=>Ah n,false⟩
noncomputable def SK:As:=⟨[B0],fun a=>EY a,[.bool,CS],fun a=>(decide (Sp.vI a<0),BL (Ah (Sp.vI a))),false⟩
noncomputable def Wx:As:=⟨[.bool,CS],fun i=>BV i.2,[B0],fun i=>(Ch (Sp.sg i.1 (Ao i.2)),Cf (Sp.sg i.1 (Ao i.2))),false⟩
noncomputable def Tl:As:=⟨[CS],fun l=>Cs l,[CS],fun l=>Az l,false⟩
noncomputable def Un:As:=⟨[CS,CS],fun i=>BV i.1&&BV i.2,[i64],fun i=>BB (Ao i.1) (Ao i.2),false⟩
noncomputable def YK:As:=⟨[CS,CS],fun i=>Sp.hW i.1&&Sp.hW i.2,[CS],fun i=>BL (Ao i.1+Ao i.2),false⟩
noncomputable def XR:As:=⟨[CS,CS],fun i=>Cs i.1&&Cs i.2&&decide (Ao i.2≤Ao i.1),[CS],fun i=>BL (Ao i.1-Ao i.2),false⟩
noncomputable def Xa:As:=⟨[CS,CS],fun i=>Sp.hW i.1&&Sp.hW i.2,[CS],fun i=>BL (Ao i.1*Ao i.2),false⟩
noncomputable def Ro:AW:=X7 []
noncomputable def IN:AW:=X7 [(230,Sl),(294,Sz),(326,SC),(295,Tl),(229,Pz)]
noncomputable def jK:AW:=X7 [(231,SK),(232,Wx),(291,YK),(293,XR),(292,Un),(233,Xa),(229,Pz),(230,Sl)]
end
end Go.Pe
end
section
namespace Go.Pe
open Sp
open Go.Det
theorem OU{F:Fz}{x y c:Int}{args:List V}(h:Kv F (Ag [Pe.u64,Pe.u64,Pe.u64] (x,y,c)) args):args=[.int .u64 x,.int .u64 y,.int .u64 c]:=by
 have:=h (fun _=>none) 0;simp only[Ag,BY,A8]at this;obtain⟨a,as1,rfl,h1,b,as2,rfl,h2,d,as3,rfl,h3,rfl⟩:=this;simp only[PR,DC,yf,and_true]at h1 h2 h3;rw[h1,h2,h3]
theorem AV{n:Int}(h:Sp.u64 n=true):0≤n∧n<18446744073709551616:=by
 unfold Sp.u64 at h;rw[zo,decide_eq_true_eq,decide_eq_true_eq]at h;exact h
namespace T294
theorem ok:Ad AR 294 Sz:=by
 refine .inr ⟨PK.add64.run,by kernel_rfl,fun F h args i ha hp=>?_⟩;obtain⟨x,y,c⟩:=i;have hp:(Sp.u64 x&&Sp.u64 y&&decide (0≤c)&&decide (c≤1))=true:=hp;rw[zo,zo,zo,decide_eq_true_eq,decide_eq_true_eq]at hp;obtain⟨⟨⟨hx,hy⟩,c0⟩,c1⟩:=hp;have hx:=AV hx;have hy:=AV hy;have:=OU ha;subst this;obtain⟨a,rfl⟩:=zq hx.1;obtain⟨b,rfl⟩:=zq hy.1;obtain⟨d,rfl⟩:=zq c0;have c1:(d:Int)≤1:=c1;have hd:Nat.ble d 1=true:=Nat.ble_eq_true_of_le (by omega);refine⟨.tup [.int .u64 (.ofNat ((a+b+d) % Wm)),.int .u64 (.ofNat ((a+b+d)/Wm))],?_,fun ρ N=>?_⟩
 ·show(bif Nat.ble d 1 then _ else _)=_;rw[hd];rfl
 ·show PR F ρ N (.tup [.dat Pe.u64 (GO a b d),.dat Pe.u64 (Nr a b d)]) _;simp only[PR,A8];refine⟨_,rfl,_,_,rfl,?_,_,_,rfl,?_,rfl⟩<;>simp[DC,Wm,GO,Nr]
end T294
namespace T326
theorem ok:Ad AR 326 SC:=by
 refine .inr ⟨PK.sub64.run,by kernel_rfl,fun F h args i ha hp=>?_⟩;obtain⟨x,y,c⟩:=i;have hp:(Sp.u64 x&&Sp.u64 y&&decide (0≤c)&&decide (c≤1))=true:=hp;rw[zo,zo,zo,decide_eq_true_eq,decide_eq_true_eq]at hp;obtain⟨⟨⟨hx,hy⟩,c0⟩,c1⟩:=hp;have hx:=AV hx;have hy:=AV hy;have:=OU ha;subst this;obtain⟨a,rfl⟩:=zq hx.1;obtain⟨b,rfl⟩:=zq hy.1;obtain⟨d,rfl⟩:=zq c0;have c1:(d:Int)≤1:=c1;have hd:Nat.ble d 1=true:=Nat.ble_eq_true_of_le (by omega);refine⟨.tup [.int .u64 (.ofNat ((a+Wm-b-d) % Wm)),.int .u64 (.ofNat (bif Nat.blt a (b+d)then 1 else 0))],?_,fun ρ N=>?_⟩
 ·show(bif Nat.ble d 1 then _ else _)=_;rw[hd];rfl
 ·show PR F ρ N (.tup [.dat Pe.u64 (QG a b d),.dat Pe.u64 (NR a b d)]) _;simp only[PR,A8];refine⟨_,rfl,_,_,rfl,?_,_,_,rfl,?_,rfl⟩
  ·simp only[DC,Wm,QG,yf,V.int.injEq,and_true,true_and];have e:(((a+18446744073709551616-b-d) % 18446744073709551616:Nat):Int)=((a:Int)-b-d) % 18446744073709551616:=by omega
   exact e
  ·simp only[DC,NR,yf,V.int.injEq,and_true,true_and];rw[Fj];by_cases hlt:a<b+d
   ·rw[if_pos (by omega)];simp[hlt]
   ·rw[if_neg (by omega)];simp[hlt]
end T326
end Go.Pe
end
