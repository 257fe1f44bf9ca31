import Derived.Test.YtnbinppdjnlhpaaGreatDoorX15
import Derived.Test.YtnbinppdjnlhpaaGreatDoorX12
import Derived.Test.YtnbinppdjnlhpaaGreatDoorX10
import Derived.Test.YtnbinppdjnlhpaaGreatDoorX03
import Derived.ChangeSame
import Derived.Below
import Derived.Test.YtnbinppdjnlhpaaGreatDoorX09
/- A part of a proof (no law is stated here). Made by program out of texts by AI agents. -/
open Go.Pe.Ends renaming tt → zc, Af → ze, ite → zf, ff → zg, leaf → zk
open Int renaming toNat_natCast → zd
open List renaming take_of_length_le → zh, take_length → zl, mem_flatMap → zm, mem_append_right → zn, length_append → zr, all_eq_true → zx, drop_of_length_le → zy, sublist_cons_self → zz, append_nil → zB, Sublist → zC, getD → zD
open Go.DataW renaming trod → zi
open Option renaming bind_some → zj
open Nat renaming le_refl → zo, add → zt, zero_le → zu, min_le_right → zw
open Go.IntKind renaming wrap → zp
open Go.Sp renaming out → zq
open Array renaming getElem?_eq_none → zA
section
namespace Go.Pe
open Sp
open Go.Det
theorem bG:∀g sp,Gu.sp g=some sp→Ad AR g sp:=gL
namespace T52
variable {Q:PV→Ob→Prop}
noncomputable def F(l:List AK)(p:Int)(rule:List UInt8)(key:Int):List Int→List Int→Int→Tr
 |[],[],k=>L1 l p rule key l l.length k
 |e::E,[],k=>L2 l p rule key (e::E).length l l.length k (e::E)
 |[],o::O,k=>L3 l p rule key (o::O).length l l.length k (o::O)
 |e::E,o::O,k=>L5 l p rule key (e::E).length (o::O).length l l.length k (o::O) (e::E)
noncomputable def G(l:List AK)(p:Int)(rule:List UInt8)(o b:List Int):List Int→List Int→Int→Tr
 |[],[],k=>L7 l p rule o b b.length k
 |e::E,[],k=>L8 l p rule (e::E).length o b b.length k (e::E)
 |[],d::D,k=>L9 l p rule o (d::D).length b b.length k (d::D)
 |e::E,d::D,k=>Wl l p rule (e::E).length o (d::D).length b b.length k (d::D) (e::E)
noncomputable def H(p:Int):List Int→List Int→Tr
 |[],d=>Ns p d
 |e::E,d=>dL p (e::E).length d (e::E)
theorem hZ(l:List AK)(hl:l.length≤205)(p:Int)(rule:List UInt8)(key:Int)(i:Nat)(x:AK)(E O:List Int)(hi:i<l.length)(hx:l.getD i ([],[],false)=x)(hE:E.length≤i)(hO:O.length≤i)
  (h1:x.2.2=true→Ends Gu (F l p rule key (E++[(i:Int)]) O ((i:Int)+1)) Q) (h2:x.2.2=false→Ends Gu (F l p rule key E (O++[(i:Int)]) ((i:Int)+1)) Q):Ends Gu (F l p rule key E O i) Q:=by
 have c1:decide ((i:Int)<(l.length:Int))=true:=decide_eq_true (by omega);have c2:(decide ((0:Int)≤(i:Int))&&decide ((i:Int)<(l.length:Int)))=true:=by simp;omega
 have sn:∀(e:Int) (E:List Int),zt (e::E).length 1=(e::(E++[(i:Int)])).length:=fun e E=>by simp
 cases E with
 |nil=>
  cases O with
  |nil=>
   refine ze (Ai ..) (zc c1 (zc c2 ?_));rw[zd,hx,wr ((i:Int)+1) (by omega) (by omega)];exact zf (fun c=>zc (by simp) (h1 c)) (fun c=>zc (by simp) (h2 c))
  |cons o O=>
   refine ze (Bk ..) (zc c1 (zc c2 ?_));rw[zd,hx,wr ((i:Int)+1) (by omega) (by omega),sn];exact zf (fun c=>zc (by simp) (h1 c)) (fun c=>zc (by simp at hO ⊢;omega) (h2 c))
 |cons e E=>
  cases O with
  |nil=>
   refine ze (AN ..) (zc c1 (zc c2 ?_));rw[zd,hx,wr ((i:Int)+1) (by omega) (by omega),sn];exact zf (fun c=>zc (by simp at hE ⊢;omega) (h1 c)) (fun c=>zc (by simp) (h2 c))
  |cons o O=>
   refine ze (CF ..) (zc c1 (zc c2 ?_));rw[zd,hx,wr ((i:Int)+1) (by omega) (by omega),sn,sn];exact zf (fun c=>zc (by simp at hE ⊢;omega) (h1 c)) (fun c=>zc (by simp at hO ⊢;omega) (h2 c))
theorem kQ(l:List AK)(p:Int)(rule:List UInt8)(key:Int)(E O:List Int)(hO:O.length≤200)(k1:1≤key)(k2:key≤2147483646)(hq:Ends Gu (G l p rule O (Cg (O.length:Nat) key) E [] 0) Q):Ends Gu (F l p rule key E O l.length) Q:=by
 have c:(decide ((0:Int)≤(O.length:Int))&&decide ((O.length:Int)≤200)&&decide (1≤key)&&decide (key≤2147483646))=true:=by simp;omega
 cases E with
 |nil=>
  have go:Ends Gu (L4 l p rule key O) Q:=ze (BA ..) (zc c hq);cases O with
  |nil=>exact ze (Ai ..) (zg (by simp) go)
  |cons o O=>
   refine ze (Bk ..) (zg (by simp) ?_);rw[zl];exact go
 |cons e E=>
  have go:Ends Gu (L6 l p rule key (e::E).length O (e::E)) Q:=ze (C2 ..) (zc c hq);cases O with
  |nil=>exact ze (AN ..) (zg (by simp) go)
  |cons o O=>
   refine ze (CF ..) (zg (by simp) ?_);rw[zl];exact go
theorem jV(l:List AK)(p:Int)(rule:List UInt8)(o b E:List Int)(j:Nat)(x:Int)(D:List Int)(hb:b.length≤205)(hj:j<b.length)(hx:b.getD j 0=x)(h0:0≤x∧x<(o.length:Int))(hD:D.length≤j)(hq:Ends Gu (G l p rule o b E (D++[o.getD x.toNat 0]) ((j:Int)+1)) Q):Ends Gu (G l p rule o b E D j) Q:=by
 have c1:decide ((j:Int)<(b.length:Int))=true:=decide_eq_true (by omega);have c2:(decide ((0:Int)≤(j:Int))&&decide ((j:Int)<(b.length:Int)))=true:=by simp;omega
 have c3:(decide ((0:Int)≤x)&&decide (x<(o.length:Int)))=true:=by simp;omega
 have sn:∀(z e:Int) (E:List Int),zt (e::E).length 1=(e::(E++[z])).length:=fun z e E=>by simp
 cases E with
 |nil=>
  cases D with
  |nil=>
   refine ze (Db ..) (zc c1 (zc c2 ?_));rw[zd,hx,wr ((j:Int)+1) (by omega) (by omega)];exact zc c3 (zc (by simp) hq)
  |cons d D=>
   refine ze (Jl ..) (zc c1 (zc c2 ?_));rw[zd,hx,wr ((j:Int)+1) (by omega) (by omega),sn (o.getD x.toNat 0)];exact zc c3 (zc (by simp at hD ⊢;omega) hq)
 |cons e E=>
  cases D with
  |nil=>
   refine ze (EF ..) (zc c1 (zc c2 ?_));rw[zd,hx,wr ((j:Int)+1) (by omega) (by omega)];exact zc c3 (zc (by simp) hq)
  |cons d D=>
   refine ze (QA ..) (zc c1 (zc c2 ?_));rw[zd,hx,wr ((j:Int)+1) (by omega) (by omega),sn (o.getD x.toNat 0)];exact zc c3 (zc (by simp at hD ⊢;omega) hq)
theorem mI(l:List AK)(p:Int)(rule:List UInt8)(o b E D:List Int)(hD:NY l D=true)(hq:Ends Gu (H p E (if rule=MO then D7 l D else D)) Q):Ends Gu (G l p rule o b E D b.length) Q:=by
 have tk:List.take D.length (D7 l D)=D7 l D:=zh (by rw[J4];exact zo _);cases E with
 |nil=>
  cases D with
  |nil=>
   refine ze (Db ..) (zg (by simp) ?_);rw[T62.I4];refine zf (fun c=>zc hD ?_) (fun c=>?_)
   ·rw[if_pos (of_decide_eq_true c)]at hq;exact hq
   ·rw[if_neg (of_decide_eq_false c)]at hq;exact hq
  |cons d D=>
   refine ze (Jl ..) (zg (by simp) ?_);rw[T62.I4,zl,tk];refine zf (fun c=>zc (by rw[hD];simp) ?_) (fun c=>?_)
   ·rw[if_pos (of_decide_eq_true c)]at hq;exact hq
   ·rw[if_neg (of_decide_eq_false c)]at hq;exact hq
 |cons e E=>
  cases D with
  |nil=>
   refine ze (EF ..) (zg (by simp) ?_);rw[T62.I4];refine zf (fun c=>zc hD ?_) (fun c=>?_)
   ·rw[if_pos (of_decide_eq_true c)]at hq;exact hq
   ·rw[if_neg (of_decide_eq_false c)]at hq;exact hq
  |cons d D=>
   refine ze (QA ..) (zg (by simp) ?_);rw[T62.I4,zl,tk];refine zf (fun c=>zc (by rw[hD];simp) ?_) (fun c=>?_)
   ·rw[if_pos (of_decide_eq_true c)]at hq;exact hq
   ·rw[if_neg (of_decide_eq_false c)]at hq;exact hq
theorem Hj{p:Int}(h:0≤p)(n:Nat):BE p (n:Int)=((min p.toNat n:Nat):Int):=by unfold BE;split<;>omega
theorem YE{ob:Ob}{p q:PV}{a b a' b':List Int}(h1:Df ⟨0,.leaf,ob,0⟩ Cq p=some (true,a))(h2:Df ⟨0,.leaf,ob,0⟩ Cq q=some (true,b))(ha:a=a')(hb:b=b'):
  Cn ⟨0,.leaf,ob,0⟩ [Cq,Cq,i64] (Eu [Cq,Cq,i64] (.tup [p,q,.dat i64 0]))=some (true,(a',b',0)):=by
 subst ha hb;exact Jj h1 (Jj h2 rfl)
theorem Xe(d:Nat)(e:List Int):e.take (min d e.length)=e.take d∧e.drop (min d e.length)=e.drop d:=by
 rcases Nat.le_total d e.length with h|h
 ·rw[Nat.min_eq_left h];exact⟨rfl,rfl⟩
 ·rw[Nat.min_eq_right h,zh (zo _),zh h,zy (zo _),zy h];exact⟨rfl,rfl⟩
theorem parts(p n:Nat)(w:List Int)(hn:w.length=n){ob:Ob}{id:Nat}{t:TypeId}(hg:AE ob id=some (.arr false t i64 w)):
  Cn ⟨0,.leaf,ob,0⟩ [Cq,Cq,i64] (Eu [Cq,Cq,i64] (.tup [.sl id 1 0 (min p n) (some (min p n)),.sl id 1 (zt 0 (min p n)) (Nat.sub n (min p n)) (some (Nat.sub (Option.getD none n) (min p n))),.dat i64 0]))=some (true,(w.take p,w.drop p,0)):=by
 have hk:min p n≤n:=zw _ _;obtain⟨t1,t2⟩:=Xe p w;rw[hn]at t1 t2;generalize min p n=k at*;refine YE (El rfl hg (by omega)) (El rfl hg (by simp;omega)) ?_ ?_
 ·rw[List.drop_zero,t1]
 ·show(w.drop (0+k)).take (n-k)=_;rw[Nat.zero_add,zh (by simp;omega),t2]
theorem mF(p:Int)(h0:0≤p)(E d:List Int)(hl:E.length+d.length≤400)(hq:∀v ob,Oi [Cq,Cq,i64] v ob=some (true,((E++d).take p.toNat,(E++d).drop p.toNat,0))→Q v ob):Ends Gu (H p E d) Q:=by
 cases E with
 |nil=>
  refine ze (Hx ..) ?_;conv=>zeta
  have e0:=Hj h0 0;have e1:=Hj h0 d.length;rw[show((0:Nat):Int)=0 from rfl,Nat.min_zero]at e0;rw[e0,e1];have hk:min p.toNat d.length≤d.length:=zw _ _;simp only[zd];refine zf (fun c=>zc (by simp at hl ⊢;omega) (zc ?_ (zc (by simp<;>omega) (zk (hq _ _ (parts _ _ _ rfl rfl)))))) (fun c=>zc (by simp) (zc (by simp) (zk (hq _ _ ?_))))
  ·have:=of_decide_eq_true c;simp;omega
  ·have:d=[]:=by simpa using c
   subst this;exact YE Ff Ff (by simp) (by simp)
 |cons e E=>
  refine ze (eZ ..) ?_;conv=>zeta
  rw[show zt (e::E).length d.length=((e::E)++d).length by simp;omega];have e1:=Hj h0 ((e::E)++d).length;rw[e1];simp only[zd];have hk:min p.toNat ((e::E)++d).length≤((e::E)++d).length:=zw _ _;have hp:0<((e::E)++d).length:=by simp
  generalize hk2:min p.toNat ((e::E)++d).length=k at*;refine zc (by simp at hl ⊢;omega) (zc ?_ (zc ?_ (zk (hq _ _ (by subst hk2;exact parts _ _ _ rfl rfl)))))
  ·generalize ((e::E)++d).length=n at*;simp;omega
  ·generalize ((e::E)++d).length=n at*;simp;omega
theorem Yh(a b c d:Int):Sp.first [a,b,c,d]=NS a (NS b (NS c d)):=by
 unfold NS;simp only[Sp.first];by_cases h1:a=0<;>by_cases h2:b=0<;>by_cases h3:c=0<;>by_cases h4:d=0<;>simp[h1,h2,h3,h4]
theorem eG{k:Int}(h:zq k 0 200=0):0≤k∧k≤200:=by
 unfold zq at h;split at h
 ·cases h
 ·split at h
  ·cases h
  ·omega
theorem Aj(l:List AK)(p:Int)(rule:List UInt8)(key:Int)(hok:Zd l=true)(he:Di l p rule key=0):Ends Gu (L1 l p rule key l l.length 0) (Ae Lm (l,p,rule,key)):=by
 obtain⟨h1,h12⟩:=WH hok;have he0:=he;unfold Di at he;obtain⟨h2,he⟩:=F5 he;obtain⟨hp,he⟩:=F5 he;obtain⟨_,hk⟩:=F5 he;obtain⟨k1,k2⟩:=T62.ZA hk;obtain⟨p1,p2⟩:=eG hp;have h205:=(Ex h1).1;have h200:=(FB h2).1;have hx:=US l 0;have hbl:=ME (OQ 0 l).length key;have hlen:(EX l key).length≤12:=by rw[SP];omega
 have hd:(if rule=MO then D7 l (EX l key)else EX l key).length≤12:=by
  split
  ·rw[J4];exact hlen
  ·exact hlen
 refine J8 l (F l p rule key) (fun i x E O g1 g2 g3 g4 g5 g6=>hZ l h205 p rule key i x E O g1 g2 g3 g4 g5 g6) (Sg 0 l) (OQ 0 l) ?_ l 0 [] [] 0 rfl (zu _) rfl (zo _) (zo _) rfl rfl;refine kQ l p rule key _ _ (by omega) k1 k2 ?_;refine QR (OQ 0 l) _ (fun x hx=>Ha.1 ((Fc _ _).mem_iff.1 hx)) (G l p rule (OQ 0 l) _ (Sg 0 l)) (fun j x D g1 g2 g3 g4 g5=>jV l p rule _ _ _ j x D (by omega) g1 g2 g3 g4 g5) ?_ _ 0 [] 0 rfl (zu _) rfl (zo _) rfl;refine mI l p rule _ _ _ _ (cI h1 h2 (show(EX l key).length≤19 by omega) (fun y hy=>VC hy)) ?_;refine mF p p1 _ _ (show(Sg 0 l).length+(if rule=MO then D7 l (EX l key)else EX l key).length≤400 by omega) (fun v ob h=>⟨_,h,?_⟩);have hA:DW l p rule key=((D0 l rule key).take p.toNat,(D0 l rule key).drop p.toNat,0):=by unfold DW;exact if_neg (by simp[he0])
 exact hA.symm
theorem ok:Ad AR 52 Lm:=by
 refine Av (X:=Gu) rfl bG (d:=9) (by kernel_rfl) (by kernel_rfl) (by kernel_rfl) (fun(i:List AK×Int×List UInt8×Int) hi=>?_) (Ab (by kernel_rfl)) gP;obtain⟨l,p,rule,key⟩:=i;have hok:Zd l=true:=hi;have h1:=(WH hok).1;have hE:∀e ob,e=Di l p rule key→e≠0→Ae Lm (l,p,rule,key) (.tup [.nil,.nil,.dat i64 e]) ob:=fun e ob h1 h2=>by
  subst h1;refine⟨([],[],Di l p rule key),rfl,?_⟩;show _=DW l p rule key;unfold DW;rw[if_pos h2]
 refine Ends.eq (Ap l p rule key) (zc h1 (zc rfl (zf (fun c=>?_) (fun c=>?_))))
 ·have hb:¬rule=S6:=by rintro rfl;revert c;decide
  rw[T62.I4,Yh];have e:NS (A6 l) (NS (zq p 0 200) (NS (Dk (!decide (rule=MO)) 13) (zq key 1 2147483646)))=Di l p rule key:=by
   unfold Di;congr 3;by_cases h:rule=MO
   ·rw[decide_eq_true h,if_pos (.inr h)];rfl
   ·rw[decide_eq_false h,if_neg (fun e=>e.elim hb h)];rfl
  rw[e];exact zc rfl (zc rfl (zc rfl (zf (fun c=>zk (hE _ _ rfl (by simpa using c))) (fun c=>Aj l p rule key hok (by simpa using c)))))
 ·have hb:rule=S6:=by
   have:(rule==S6)=true:=by
    cases h:(rule==S6)with
    |true=>rfl
    |false=>rw[show(!rule==[98,97,108,108,111,116])= !(rule==S6)from rfl,h]at c;cases c
   exact eq_of_beq this
  rw[Yh];have e:NS (A6 l) (NS (zq p 0 200) (NS (Dk false 13) (zq key 1 2147483646)))=Di l p rule key:=by
   unfold Di;rw[if_pos (.inl hb)];rfl
  rw[e];exact zc rfl (zc rfl (zc rfl (zf (fun c=>zk (hE _ _ rfl (by simpa using c))) (fun c=>Aj l p rule key hok (by simpa using c)))))
end T52
theorem TB{l:List Sp.AK}{n:Int}(h:Sp.D6 l n=true):Sp.E2 l=true∧((l.length:Int)≤n∨200<l.length):=by
 unfold Sp.D6 at h;rw[Bool.and_eq_true,Bool.not_eq_true',Bool.or_eq_false_iff,Bool.and_eq_false_iff]at h;obtain⟨⟨h1,h2⟩,h3⟩:=h;have h2:=of_decide_eq_false h2;refine⟨by unfold Sp.E2;rw[decide_eq_true (by omega),h3];rfl,?_⟩;rcases h1 with h1|h1
 ·have:=of_decide_eq_false h1;left;omega
 ·have:=of_decide_eq_false h1;right;omega
abbrev YP:Sh:=.pair i64 (.pair .str i64)
end Go.Pe
end
section
namespace Go.Sp
def gb(g i:Int):Bool:=Go.Pe.EK .i64 (Int.fdiv (zp .i64 g) (2^Min.min (Int.toNat i) 64)) 1==1
def Hb(g:Int)(n:Nat):List Int:=(iota n).filter (gb g)
theorem SJ(g:Int)(n:Nat):Hb g (n+1)=if gb g n=true then Hb g n++[(n:Int)]else Hb g n:=by
 unfold Hb;rw[V4,List.filter_append];by_cases h:gb g n=true
 ·rw[if_pos h,List.filter_cons_of_pos h];rfl
 ·rw[if_neg h,List.filter_cons_of_neg h];simp
theorem O3(g:Int)(n:Nat):(Hb g n).length≤n:=by
 have:=List.length_filter_le (gb g) (iota n);rw[Ce]at this;exact this
theorem QK(g:Int)(n:Nat):(Hb g n).Nodup:=List.Pairwise.filter _ (EH n)
theorem VW{g:Int}{n:Nat}{x:Int}(h:x∈Hb g n):x∈iota n:=(List.mem_filter.1 h).1
end Go.Sp
namespace Go.Pe
open Sp
open Go.Det
theorem iU:∀g sp,JA.sp g=some sp→Ad AR g sp:=
 Ac Sb (Ac T50.ok (Ac T51.ok (Ac T22.ok (Ac T23.ok (Ac T53.ok (Ac T52.ok (Ac T18.ok (Ac T54.ok (Ac T55.ok (Ac T29.ok (fun g sp h=>by cases h)))))))))))
noncomputable def DR:As:=⟨[.list G7,YP,.int .u16],fun _=>true,[.bool],fun _=>true,false⟩
theorem OS{l:List AK}{p key:Int}{rule:List UInt8}(h2:A6 l=0)(hp:zq p 0 200=0)(hk:zq key 1 2147483646=0)(hr:rule=S6∨rule=MO):DW l p rule key=((D0 l rule key).take p.toNat,(D0 l rule key).drop p.toNat,0):=by
 have:Di l p rule key=0:=by unfold Di;rw[h2,hp,hk,if_pos hr];rfl
 unfold DW;exact if_neg (by simp[this])
namespace T8
variable {Q:PV→Ob→Prop}
theorem T2(all S:List Int)(hl:all.length≤300)(hS:S.length≤300)(hq:∀ob,Q (.dat .bool true) ob):∀(r:List Int) (k a:Nat),S.drop k=r→k≤S.length→a≤all.length→zC r (all.drop a)→(k=0∨a<all.length)→Ends JA (L9 all S a S S.length k) Q
 |[],k,a,h,hk,ha,hs,hc=>by
  have:=drop_nil h hk;refine ze (Jl ..) (zg (by simp;omega) (zf (fun _=>zc rfl (zk (hq _))) (fun c=>zc ?_ (zc rfl (zk (hq _))))));have c:S.length≠0:=fun e=>by rw[e]at c;cases c
  exact decide_eq_true (by omega)
 |x::r,k,a,h,hk,ha,hs,hc=>by
  obtain⟨g1,g2,g3⟩:=drop_cons (d:=0) h;refine ze (Jl ..) (zc (by simp;omega) (zc (by simp;omega) ?_));rw[zd,g2];have find:∀(w:List Int) (a:Nat),all.drop a=w→a≤all.length→zC (x::r) w→Ends JA (Ns all S a x S S.length k) Q:=by
   intro w;induction w with
   |nil=>intro a _ _ h2;cases h2
   |cons y w ih=>
    intro a h1 ha h2;obtain⟨e1,e2,e3⟩:=drop_cons (d:=0) h1;refine ze (Hx ..) (zc (by simp;omega) (zc (by simp;omega) ?_));rw[zd,e2,wr ((a:Int)+1) (by omega) (by omega),wr ((k:Int)+1) (by omega) (by omega)];refine zf (fun c=>?_) (fun c=>?_)
    ·have c:y≠x:=by simpa using c
     refine ih (a+1) e3 e1 ?_;cases h2 with
     |cons _ h=>exact h
     |cons_cons _ h=>exact absurd rfl c
    ·have c:y=x:=by simpa using c
     subst c;have h3:zC r w:=by
      cases h2 with
      |cons _ h=>exact(zz y r).trans h
      |cons_cons _ h=>exact h
     exact T2 all S hl hS hq r (k+1) a g3 g1 ha (by rw[h1];exact h3.trans (zz y w)) (.inr e1)
  exact find _ a rfl ha hs
theorem BN(l:List AK)(a b g:List Int)(h12:l.length≤12)(hp:(a++b).Perm (Sp.iota l.length))(hg:g.Nodup)(hm:∀x∈g,x∈Sp.iota l.length)(hgl:g.length≤l.length)(hq:∀ob,Q (.dat .bool true) ob):Ends JA (L7 l a b (a++b) g) Q:=by
 have hl:=hp.length_eq;rw[Ce,zr]at hl;have h0:P1 a b g=0:=V8 (by omega) hp hg hm (by omega);have hsub:Sp.Sub a b g=(Ja a b g,Mz a b g,0):=by unfold Sp.Sub;exact if_neg (by simp[h0])
 have hlen:=Zl hp hg hm;have hboth:=XY a b g;have hw:=IL (Km hp hg hm);have hst:=RB a b g;have hbl:=congrArg List.length hboth;have hst2:=(Km hp hg hm).length_eq;rw[Ce,zr]at hst2;rw[zr]at hbl;refine ze (Db ..) ?_;conv=>zeta
 rw[hsub];dsimp only
 generalize Ja a b g=S at*;generalize Mz a b g=R at*;have e1:List.take (zt (zt 0 S.length) R.length) ([]++S++R)=Sp.stay g (a++b):=by
  rw[←hboth];exact zh (by simp)
 rw[e1,wr _ (by omega) (by omega),show(l.length:Int)-(g.length:Int)=((l.length-g.length:Nat):Int)by omega,T52.Hj (by omega),zd];refine zc (by unfold lE;rw[decide_eq_true (by omega),decide_eq_true (by omega),decide_eq_true (by omega)];rfl) (zg rfl (zg (by rw[hlen];simp) (zc (by simp;omega) (zc (by simp;omega) (zc ?_ (zg (by rw[hw];rfl) ?_))))))
 ·rw[decide_eq_true (by simp),decide_eq_true (by omega),decide_eq_true (by omega),decide_eq_true (by omega),decide_eq_true (by omega)];rfl
 ·refine ze (EF ..) ?_;conv=>zeta
  exact T2 (a++b) S (by simp;omega) (by omega) hq S 0 0 rfl (zu _) (zu _) hst (.inl rfl)
noncomputable def D(l:List AK)(g:Int)(a b w:List Int):List Int→Int→Tr
 |[],k=>L5 l g a b w l.length k
 |d::r,k=>L6 l g a b w (d::r).length l.length k (d::r)
theorem YC(l:List AK)(g:Int)(a b w:List Int)(h12:l.length≤12)(hq:Ends JA (L7 l a b w (Hb g l.length)) Q):∀(k i:Nat),i+k=l.length→Ends JA (D l g a b w (Hb g i) i) Q
 |0,i,h=>by
  obtain rfl:i=l.length:=by omega
  cases hD:Hb g l.length with
  |nil=>rw[hD]at hq;exact ze (CF ..) (zg (by simp) hq)
  |cons d r=>
   rw[hD]at hq;refine ze (C2 ..) (zg (by simp) ?_);rw[zl];exact hq
 |k+1,i,h=>by
  have ih:=YC l g a b w h12 hq k (i+1) (by omega);have hle:=O3 g i;have hb:∀i:Int,(EK .i64 (Int.fdiv (zp .i64 g) (2^Min.min (Int.toNat i) 64)) 1==1)=Sp.gb g i:=fun _=>rfl
  have wi:zp .i64 ((i:Int)+1)=((i+1:Nat):Int):=by rw[wr _ (by omega) (by omega)];rfl
  rw[SJ]at ih;cases hD:Hb g i with
  |nil=>
   rw[hD]at ih;refine ze (CF ..) (zc (by simp;omega) (zc (by simp) ?_));rw[wi,hb];refine zf (fun c=>zc (by simp) ?_) (fun c=>?_)
   ·rw[if_pos c]at ih;exact ih
   ·rw[if_neg (by rw[c];decide)]at ih;exact ih
  |cons d r=>
   rw[hD]at ih hle;refine ze (C2 ..) (zc (by simp;omega) (zc (by simp) ?_));rw[wi,hb];refine zf (fun c=>zc (by simp at hle ⊢;omega) ?_) (fun c=>?_)
   ·rw[if_pos c]at ih;have e:zt (d::r).length 1=(d::(r++[(i:Int)])).length:=by simp
    rw[e];exact ih
   ·rw[if_neg (by rw[c];decide)]at ih;exact ih
theorem Bb(l:List AK)(g:Int)(a b w:List Int)(h1:E2 l=true)(h2:A6 l=0)(hw:∀x∈w,0≤x∧x<(l.length:Int))(hl:w.length≤300)(hc:Rd (JY l) w)(hq:Ends JA (L4 l g a b w) Q):∀(k i:Nat),i+k=w.length→Ends JA (L3 l g a b w ((i:Int)+1)) Q
 |0,i,h=>ze (Bk ..) (zg (by simp;omega) hq)
 |k+1,i,h=>by
  have ih:=Bb l g a b w h1 h2 hw hl hc hq k (i+1) (by omega);by_cases hi:i+1<w.length
  ·have hx:w.getD i 0∈w:=by
    have e:w.getD i 0=w[i]:=by simp[show i<w.length by omega]
    rw[e];exact List.getElem_mem _
   have hy:w.getD (i+1) 0∈w:=by
    have e:w.getD (i+1) 0=w[i+1]:=by simp[hi]
    rw[e];exact List.getElem_mem _
   have hR:=UU w i hc hi;obtain⟨x1,x2⟩:=hw _ hx;obtain⟨y1,y2⟩:=hw _ hy;obtain⟨p1,p2⟩:=XZ h1 h2 x1 x2;obtain⟨q1,q2⟩:=XZ h1 h2 y1 y2;have t1:((i:Int)+1).toNat=i+1:=by omega
   have e1:zp .i64 ((i:Int)+1-1)=(i:Int):=by rw[wr _ (by omega) (by omega)];omega
   have e2:zp .i64 ((i:Int)+1+1)=((i+1:Nat):Int)+1:=by rw[wr _ (by omega) (by omega)];omega
   refine ze (Bk ..) ?_;conv=>zeta
   simp only[e1,e2,t1,zd];generalize w.getD i 0=x at*;generalize w.getD (i+1) 0=y at*;have mx:(zD l x.toNat ([],[],false)).2.2=YZ l x:=rfl;have my:(zD l y.toNat ([],[],false)).2.2=YZ l y:=rfl;have nx:(zD l x.toNat ([],[],false)).2.1=Sp.ix l x:=rfl;have ny:(zD l y.toNat ([],[],false)).2.1=Sp.ix l y:=rfl;rw[mx,my,nx,ny];refine zc (by simp;omega) (zc (by simp;omega) (zc (by simp;omega) (zc (by simp;omega) (zc (by simp;omega) (zf (fun c=>?_) (fun c=>ih))))));have c:YZ l x=false:=by simpa using c
   rcases hR with hR|⟨r1,r2⟩
   ·rw[c]at hR;cases hR
   ·rw[r1];exact zg rfl (zc (Ak (Ee p1 p2).1 (Ee q1 q2).1) (zg (decide_eq_false r2) ih))
  ·exact ze (Bk ..) (zg (by simp;omega) hq)
theorem ok:Ad AR 8 DR:=by
 refine Av (X:=JA) rfl iU (d:=9) (by kernel_rfl) (by kernel_rfl) (by kernel_rfl) (fun(i:List AK×(Int×List UInt8×Int)×Int) _=>?_) (Ab (by kernel_rfl));obtain⟨l,c,g⟩:=i;have hQ:∀ob,Ae DR (l,c,g) (.dat .bool true) ob:=fun ob=>Ae.of rfl rfl rfl
 refine Ends.eq (Ap l c g) (zc rfl (zf (fun _=>zc rfl (zk (hQ _))) (fun e=>?_)));have e:D6 l 12=true:=by simpa using e
 obtain⟨h1,h12⟩:=TB e;refine zc h1 (zf (fun _=>zc rfl (zk (hQ _))) (fun e=>zc rfl (zf (fun _=>zc rfl (zk (hQ _))) (fun hp=>zc rfl (zf (fun _=>zc rfl (zk (hQ _))) (fun hk=>?_))))));have h2:A6 l=0:=by simpa using e
 have hp:zq c.1 0 200=0:=by simpa using hp
 have hk:zq c.2.2 1 2147483646=0:=by simpa using hk
 have h200:=(FB h2).1;have h12:l.length≤12:=by omega
 obtain⟨p1,p2⟩:=T52.eG hp;have hA:Zd l=true:=by
  unfold Zd;rw[h1,Bool.true_and,Bool.or_eq_true,decide_eq_true_eq,decide_eq_true_eq];omega
 have a1:=OS (l:=l) (rule:=[105,110,100,101,120]) h2 hp hk (.inr rfl);have a2:=OS (l:=l) (rule:=[98,97,108,108,111,116]) h2 hp hk (.inl rfl);have a3:G9 (l.length:Int) c.2.2=(Cg (l.length:Int) c.2.2,0):=by
  have:Fe (l.length:Int) c.2.2=0:=by
   unfold Fe;have:zq (l.length:Int) 0 200=0:=by unfold zq;rw[if_neg (by omega),if_neg (by omega)]
   rw[this,hk];rfl
  unfold G9;exact if_neg (by simp[this])
 refine zc h1 (zc hA (zc h1 (zc hA (zc rfl ?_))));rw[a1,a2,a3];dsimp only
 have n1:=OG l [105,110,100,101,120] c.2.2;have n2:=OG l [98,97,108,108,111,116] c.2.2;have w1:=II l [105,110,100,101,120] c.2.2;have w2:=II l [98,97,108,108,111,116] c.2.2;have w3:(Cg (l.length:Int) c.2.2++[]).Perm (Sp.iota l.length):=by rw[zB];exact Fc _ _
 have hch:=Ry l c.2.2;have n3:=ME l.length c.2.2;generalize hA1:D0 l [105,110,100,101,120] c.2.2=A at*;have hch:Rd (JY l) A:=by rw[←hA1];exact hch
 generalize D0 l [98,97,108,108,111,116] c.2.2=A' at*;have s1:A.take c.1.toNat++A.drop c.1.toNat=A:=List.take_append_drop _ _;have s2:A'.take c.1.toNat++A'.drop c.1.toNat=A':=List.take_append_drop _ _;have f1:=IL (by rw[s1];exact w1);have f2:=IL (by rw[s2];exact w2);have f3:=IL w3;have l1:(A.take c.1.toNat).length=min c.1.toNat l.length:=by rw[List.length_take,n1]
 have l2:(A'.take c.1.toNat).length=min c.1.toNat l.length:=by rw[List.length_take,n2]
 have l3:(A.drop c.1.toNat).length=l.length-c.1.toNat:=by rw[List.length_drop,n1]
 have l4:(A'.drop c.1.toNat).length=l.length-c.1.toNat:=by rw[List.length_drop,n2]
 generalize A.take c.1.toNat=a at*;generalize A.drop c.1.toNat=b at*;generalize A'.take c.1.toNat=a' at*;generalize A'.drop c.1.toNat=b' at*;subst s1;have e1:List.take (zt (zt 0 a.length) b.length) ([]++a++b)=a++b:=zh (by simp);refine ze (Ai ..) (zg rfl ?_);rw[T52.Hj p1,e1,f1,f2,f3];refine zg (by rw[l1];simp) (zg (by rw[l1,l2];simp) (zc (by simp;omega) (zg rfl (zc (by simp;omega) (zg rfl (zc (by simp;omega) (zg rfl (zc (by simp;omega) (zc (by simp;omega) ?_)))))))));refine ze (AN ..) ?_;conv=>zeta
 have:=Bb (Q:=Ae DR (l,c,g)) l g a b (a++b) h1 h2 (fun x hx=>Ha.1 (w1.mem_iff.1 hx)) (by rw[n1];omega) hch ?_ (a++b).length 0 (by omega)
 ·exact this
 ·refine ze (BA ..) ?_;conv=>zeta
  have hg:=O3 g l.length;exact YC l g a b (a++b) h12 (BN l a b _ h12 w1 (QK g _) (fun x hx=>VW hx) hg hQ) l.length 0 (by omega)
end T8
end Go.Pe
end
section
namespace Go.Det
open Go.ChangeShapes Go.WideShapes Go.RowKit
theorem BQ{α β:Type}{f g:α→Option β}:∀ {l:List α} {ys:List β},l.mapM f=some ys→(∀a∈l,∀y∈ys,f a=some y→g a=some y)→l.mapM g=some ys
 |[],ys,h,_=>by simpa using h
 |a::l,ys,h,hg=>by
  rw[List.mapM_cons]at h ⊢;cases hf:f a with
  |none=>rw[hf]at h;cases h
  |some y=>
   rw[hf]at h;cases hl:l.mapM f with
   |none=>rw[hl]at h;cases h
   |some zs=>
    rw[hl]at h;cases h;rw[hg a (by simp) y (by simp) hf,BQ hl (fun b hb z hz hfz=>hg b (by simp[hb]) z (by simp[hz]) hfz)];rfl
def Xm(P:Program)(L:List TypeId)(t:TypeId):Bool:=match P.underlying t with
 |some (.pointer e)|some (.array _ e)|some (.map _ e)=>L.contains e
 |some (.slice e)=>L.contains e&&Nat.ble 1 (P.cellsOf e)
 |some (.struct fs)=>fs.toList.all fun f=>L.contains f.type
 |_=>true
def Jv(P:Program)(L:List TypeId):Bool:=L.all (Xm P L)
section
variable {H:Type}{enc:TypeId×Value→H}{P:Program}{W W':World}
theorem cB{L:List TypeId}(h:Jv P L=true){t:TypeId}(ht:t∈L):Xm P L t=true:=zx.1 h t ht
theorem S1(hb:Below W.heap.size W W'){a:Addr}{v:Value}(h:W.cell? a=some v):W'.cell? a=some v:=by
 have hl:a.block<W.heap.size:=by
  unfold World.cell? at h;by_cases hh:a.block<W.heap.size
  ·exact hh
  ·rw[zA (by omega)]at h;cases h
 unfold World.cell? at h ⊢;rw[hb.block _ hl];exact h
theorem RN(hb:Below W.heap.size W W'){a:Addr}{n:Nat}{cs:List Value}(h:W.cells? 0 a n=some cs):W'.cells? 0 a n=some cs:=by
 unfold World.cells? at h ⊢;rw[if_pos (zu _)]at h ⊢;exact BQ h fun i _ v _ hv=>S1 hb hv
theorem FZ(hb:Below W.heap.size W W'){β:Type}{a:Addr}{n:Nat}{f g:List Value→Option β}{y:β}(h:(W.cells? 0 a n).bind f=some y)(hfg:∀cs,f cs=some y→g cs=some y):(W'.cells? 0 a n).bind g=some y:=by
 cases hc:W.cells? 0 a n with
 |none=>rw[hc]at h;cases h
 |some cs=>
  rw[hc]at h;rw[RN hb hc];exact hfg cs h
theorem Mq(hb:Below W.heap.size W W'){L:List TypeId}(hz:Jv P L=true){sp:Nat→Bool}:∀(fuel:Nat) (t:TypeId) (cs:List Value) (x:DataW H×List MemPlace),t∈L→
  zi enc P W 0 (fun _=>true) true fuel t cs=some x→(∀p∈x.2,sp p.block=true)→zi enc P W' 0 sp true fuel t cs=some x
 |0,_,_,_,_,h,_=>by cases h
 |fuel+1,t,cs,x,ht,h,hs=>by
  have ih:=Mq hb hz (sp:=sp) fuel;have hk:=cB hz ht;unfold Xm at hk;unfold zi at h ⊢;split at h<;>try simp only[reduceCtorEq]at h
  all_goals try exact h
  case h_6 e a hu=>
   have hke:e∈L:=by rw[hu]at hk;simpa using hk
   cases hm:(W.cells? 0 a (P.cellsOf e)).bind (zi enc P W 0 (fun _=>true) true fuel e)with
   |none=>rw[hm]at h;cases h
   |some y=>
    rw[hm]at h;cases h;rw[FZ hb hm (g:=zi enc P W' 0 sp true fuel e) (fun cs hc=>ih e cs y hke hc (fun p hp=>hs p (by simp[hp])))];rfl
  case h_8 e a len cap hu=>
   have hke:e∈L∧P.cellsOf e≠0:=by
    rw[hu]at hk;simp only[Bool.and_eq_true,List.contains_iff_mem]at hk;have:=Nat.le_of_ble_eq_true hk.2;exact⟨hk.1,by omega⟩
   by_cases hc:0≤a.block∧len≤cap∧cap≤maxLen
   ·rw[if_pos hc]at h ⊢;have step:∀(i:Nat) (y:DataW H×List MemPlace),(W.cells? 0 (a.add (i*P.cellsOf e)) (P.cellsOf e)).bind (zi enc P W 0 (fun _=>true) true fuel e)=some y→(∀p∈y.2,sp p.block=true)→
      (W'.cells? 0 (a.add (i*P.cellsOf e)) (P.cellsOf e)).bind (zi enc P W' 0 sp true fuel e)=some y:=fun i y hy hp=>FZ hb hy fun cs hc=>ih e cs y hke.1 hc hp
    cases h1:(List.range len).mapM (fun i=>(W.cells? 0 (a.add (i*P.cellsOf e)) (P.cellsOf e)).bind (zi enc P W 0 (fun _=>true) true fuel e))with
    |none=>rw[h1]at h;cases h
    |some ys=>
     rw[h1]at h;simp only[if_true,zj]at h;cases h2:(List.range (cap-len)).mapM (fun j=>(W.cells? 0 (a.add ((len+j)*P.cellsOf e)) (P.cellsOf e)).bind (zi enc P W 0 (fun _=>true) true fuel e))with
     |none=>rw[h2]at h;cases h
     |some zs=>
      rw[h2]at h;cases h;rw[BQ h1 fun i _ y hy hi=>step i y hi fun p hp=>hs p (zn _ (zm.2 ⟨y,List.mem_append_left _ hy,hp⟩))];have h2':=BQ h2 fun j _ y hy hj=>step (len+j) y hj fun p hp=>hs p (zn _ (zm.2 ⟨y,zn _ hy,hp⟩))
      by_cases hsp:sp a.block=true
      ·simp only[hsp,if_true,zj];rw[h2'];rfl
      ·have e0:(ys.length+zs.length)*P.cellsOf e=0:=by
        rcases Nat.eq_zero_or_pos ((ys.length+zs.length)*P.cellsOf e)with h0|h0
        ·exact h0
        ·refine absurd (hs (.cell a.block (a.off+0)) (List.mem_append_left _ ?_)) hsp;simp only[MemPlace.row,List.mem_map,List.mem_range];exact⟨0,h0,rfl⟩
       have e1:zs=[]:=by
        rcases Nat.mul_eq_zero.1 e0 with h0|h0
        ·exact List.length_eq_zero_iff.1 (by omega)
        ·exact absurd h0 hke.2
       subst e1;simp only[hsp,zj];rfl
   ·rw[if_neg hc]at h;cases h
  case h_9 cs _ _ fs hu=>
   have hke:∀f∈fs.toList,f.type∈L:=by
    rw[hu]at hk;intro f hf;have:=zx.1 hk f hf;simpa using this
   by_cases hc:cs.length=P.cellsOf t
   ·rw[if_pos hc]at h ⊢;cases h1:fs.toList.mapM (fun f=>zi enc P W 0 (fun _=>true) true fuel f.type ((cs.drop f.offset).take (P.cellsOf f.type)))with
    |none=>rw[h1]at h;cases h
    |some ys=>
     rw[h1]at h;cases h;rw[BQ h1 fun f hfm y hy hf=>ih _ _ y (hke f hfm) hf fun p hp=>hs p (zm.2 ⟨y,hy,hp⟩)];rfl
   ·rw[if_neg hc]at h;cases h
  case h_10 cs _ _ n e hu=>
   have hke:e∈L:=by rw[hu]at hk;simpa using hk
   by_cases hc:cs.length=P.cellsOf t
   ·rw[if_pos hc]at h ⊢;cases h1:(List.range n).mapM (fun i=>zi enc P W 0 (fun _=>true) true fuel e ((cs.drop (i*P.cellsOf e)).take (P.cellsOf e)))with
    |none=>rw[h1]at h;cases h
    |some ys=>
     rw[h1]at h;cases h;rw[BQ h1 fun f _ y hy hf=>ih _ _ y hke hf fun p hp=>hs p (zm.2 ⟨y,hy,hp⟩)];rfl
   ·rw[if_neg hc]at h;cases h
  case h_14 k e b hu=>
   have hke:e∈L:=by rw[hu]at hk;simpa using hk
   have hl:b<W.heap.size:=by
    by_cases hh:b<W.heap.size
    ·exact hh
    ·rw[zA (by omega)]at h;cases h
   rw[hb.block _ hl];split at h
   case h_2=>cases h
   rename_i es clock hes;simp only;split at h
   case isFalse=>cases h
   rename_i hcond;rw[if_pos hcond];cases h1:(es.toList.mapM fun x=>(keyOf P k x.key).bind fun key=>if x.val.formed P e then(zi enc P W 0 (fun _=>true) true fuel e x.val.cells.toList).map fun y=>((key,y.1),y.2)else none)with
   |none=>rw[h1]at h;cases h
   |some ys=>
    rw[h1]at h;simp only[zj]at h;split at h
    case isFalse=>cases h
    rename_i hri;cases h;rw[BQ h1 fun en _ y hy hf=>?_]
    ·simp only[zj];rw[if_pos hri]
    ·cases hk:keyOf P k en.key with
     |none=>rw[hk]at hf;cases hf
     |some key=>
      rw[hk]at hf;simp only[zj]at hf ⊢;split at hf
      case isFalse=>cases hf
      rename_i hfo;rw[if_pos hfo];cases htt:zi enc P W 0 (fun _=>true) true fuel e en.val.cells.toList with
      |none=>rw[htt]at hf;cases hf
      |some u=>
       rw[htt]at hf;cases hf;rw[ih _ _ u hke htt fun p hp=>hs p (by simp only[List.mem_cons,zm];exact .inr ⟨_,hy,hp⟩)];rfl
theorem Tw(hb:Below W.heap.size W W'){L:List TypeId}(hz:Jv P L=true){sp:Nat→Bool}{t:TypeId}{v:Value}{d:DataW H}{p:List MemPlace}
  (ht:t∈L) (h:DataW.Trod enc P W 0 (fun _=>true) true t v d p) (hs:∀q∈p,sp q.block=true):DataW.Trod enc P W' 0 sp true t v d p:=by
 obtain⟨fuel,hf⟩:=h;exact⟨fuel,Mq hb hz fuel t _ _ ht hf hs⟩
theorem Ft(hb:Below W.heap.size W W'){L:List TypeId}(hz:Jv P L=true){sp:Nat→Bool}:∀ {ts:List TypeId} {vs:List Value} {ds:List (DataW H)} {p:List MemPlace},(∀t∈ts,t∈L)→
  DataW.TrodAll enc P W 0 (fun _=>true) true ts vs ds p→(∀q∈p,sp q.block=true)→DataW.TrodAll enc P W' 0 sp true ts vs ds p
 |[],vs,ds,p,_,h,_=>by
  obtain⟨rfl,rfl,rfl⟩:=trodAll_nil h;rfl
 |t::ts,vs,ds,p,hl,h,hs=>by
  obtain⟨v,vs1,d,ds1,a,b,rfl,rfl,rfl,h1,h2⟩:=trodAll_cons h;exact⟨a,b,Tw hb hz (hl t (by simp)) h1 (fun q hq=>hs q (by simp[hq])),Ft hb hz (fun u hu=>hl u (by simp[hu])) h2 (fun q hq=>hs q (by simp[hq])),rfl⟩
theorem U8{f:Func}{s:ChangeSpec}{apart fresh handsOn again:Bool}{args:Array Value}{ds gs:List (DataW H)}{before:List MemPlace}{tb:TypeId}
  (hW:DataW.Whole enc P f.params.toList s.vars apart W args.toList ds gs before) (hv:s.vars=[]) (hr:f.resultTypes= #[tb]) (ht:P.underlying tb=some .bool)
  (hfn:s.fn H ds={ results:=[.lit (.bool true)],args:=ds }) (hb:Below W.heap.size W W') {L:List TypeId} (hz:Jv P L=true) (hl:f.params.toList.all L.contains=true):
  s.post enc P f apart fresh handsOn again W args (.bool true) W':=by
 have hlt:=hW.lt;have hl:∀t∈f.params.toList,t∈L:=fun t ht=>by have:=zx.1 hl t ht;simpa using this
 obtain⟨p,q,hA,hV,rfl,hfz,hnd⟩:=hW;have hV':=hV;rw[hv]at hV';obtain⟨rfl,rfl⟩:=trodVars_none hV';simp only[zB]at hlt hfz hnd ⊢;have hold:∀x∈p,(fun b=>decide (b<W.heap.size)) x.block=true:=fun x hx=>by simpa using hlt x hx
 have hW0:DataW.Whole enc P f.params.toList s.vars apart W args.toList ds [] p:=⟨p,[],hA,hV,by simp,hfz,hnd⟩;have hres:∀(b:Nat) (sp:Nat→Bool) (hd:Bool),DataW.TrodAll enc P W' b sp hd f.resultTypes.toList ((Value.bool true).resultList f.resultTypes.size) [.lit (.bool true)] []:=by
  intro b sp hd;rw[hr];exact⟨[],[],shut_bool ht true,rfl,rfl⟩
 have hok:∀(j:Nat) (t:TypeId) (r:Value),f.resultTypes[j]?=some t→((Value.bool true).resultList f.resultTypes.size)[j]?=some r→Value.okWide P W' .any 0 t r:=by
  exact ok_one hr rfl (okWide_bool_mk ht true)
 have hvars:∀sp:Nat→Bool,DataW.TrodVars enc P W' sp s.vars [] []:=fun sp=>by rw[hv];rfl
 have hfn:s.fn H (ds++[])={ results:=[.lit (.bool true)],args:=ds }:=by rw[zB];exact hfn
 refine⟨ds,[],p,[],p,[],hW0,?_,?_,?_,World.keptBut_mono (fun x hx=>⟨hx,.inr (.inl hx)⟩) (hb.frame (· ∈p)),fun _=>?_⟩
 ·rw[hfn];exact hres _ _ _
 ·rw[hfn];exact Ft hb hz hl hA hold
 ·rw[hfn];exact hvars _
 ·refine⟨hok,_,_,([]++p)++[],⟨[]++p,[],trodAll_append (Ft hb hz hl hA (fun _ _=>rfl)) (hres _ _ _),hvars _,rfl,?_,?_⟩,?_⟩
  ·intro b off hp;have hp:MemPlace.cell b off∈p:=by simpa using hp
   rw[hb.frozen (show b<W.heap.size from hlt _ hp)];exact hfz b off hp
  ·intro ha;simpa using hnd ha
  ·intro x hx _;simpa using hx
end
end Go.Det
end
section
namespace Go.Pe
open Go.Det Go.RowKit
noncomputable section
open Go.Proofs.Tryz (prog)
theorem XS{F':Fz}{v:V}(h:PC F' (.dat .bool true) v):v=.bool true:=by
 have:=h (fun _=>none) 0;simp only[PR,DC]at this;simpa using this
end
end Go.Pe
end
