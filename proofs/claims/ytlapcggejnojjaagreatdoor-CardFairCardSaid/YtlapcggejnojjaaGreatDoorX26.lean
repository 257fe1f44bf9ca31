import Derived.Test.YtlapcggejnojjaaGreatDoorX21
/- A part of a proof (no law is stated here). Made by program out of texts by AI agents. -/
open Go.Pe.Ends renaming tt → zc, ff → zd, ite → zg
open List renaming take_succ_eq_append_getElem → ze, getD → zh
open Go.Sp renaming tk → zf
open Int renaming toNat → zi
namespace Go.Pe
open Sp
open Go.Det
namespace T5
variable {Q:PV→Ob→Prop}
structure Fair(t:Int)(w L:List Int):Prop where
 ok:Sp.okW t w
 n:w.length≤20
 len:L.length=w.length
 sum:Ak L=t
 one:∀i:Int,0≤i→i<w.length→0≤zf L i∧zf L i≤999999999∧(zf L i=Int.tdiv (t*zf w i) (Ak w)∨(zf L i=Int.tdiv (t*zf w i) (Ak w)+1∧Int.tmod (t*zf w i) (Ak w)≠0))
 two:∀i k:Int,0≤k→k<i→i<w.length→(zf w i≤zf w k→zf L i≤zf L k)∧(zf w k<zf w i→zf L k≤zf L i)
variable (t:Int)(w L:List Int)(h:Fair t w L)
include h
theorem C2(n:Nat)(_:n=L.length)(s7:Int)(i:Nat)(hi:i<w.length)(hq:Ends SB (L2 t w L s7 (Ak w) (n:Int) ((i:Int)+1)) Q)(f:Nat):∀k:Nat,i-k=f→k≤i→Ends SB (L3 t w L s7 (Ak w) (i:Int) (k:Int) (n:Int) (i:Int)) Q:=by
 have h20:=h.n;have hl:=h.len;induction f with
 |zero=>
  intro k hf hk;have:k=i:=by omega
  subst this;refine Ends.An (BD ..) (zd (by simp) ?_);rw[wr ((k:Int)+1) (by omega) (by omega)];exact hq
 |succ f ih=>
  intro k hf hk;have next:=ih (k+1) (by omega) (by omega);obtain⟨t1,t2⟩:=h.two (i:Int) (k:Int) (by omega) (by omega) (by omega);unfold zf at t1 t2;have c1:∀(m:Nat) (l:List Int),m<l.length→(decide ((0:Int)≤(m:Int))&&decide ((m:Int)<(l.length:Int)))=true:=fun m l hm=>by simp;omega
  have kw:=c1 k w (by omega);have iw:=c1 i w (by omega);have kL:=c1 k L (by omega);have iL:=c1 i L (by omega);refine Ends.An (BD ..) ?_;conv=>zeta
  rw[wr ((k:Int)+1) (by omega) (by omega)];refine zc (decide_eq_true (by omega)) (zc kw (zc iw (zg (fun c=>zc kL (zc iL (zd ?_ (zc kw (zc iw (zd ?_ next)))))) (fun c=>zc kw (zc iw (zc ?_ (zc kL (zc iL (zd ?_ next)))))))))
  ·have c:=of_decide_eq_true c;exact decide_eq_false (by have:=t1 c;omega)
  ·have c:=of_decide_eq_true c;exact decide_eq_false (by omega)
  ·have c:=of_decide_eq_false c;exact decide_eq_true (by omega)
  ·have c:=of_decide_eq_false c;exact decide_eq_false (by have:=t2 (by omega);omega)
theorem Be(n:Nat)(hn:n=L.length)(hq:∀ob,Q (.dat .bool true) ob)(f:Nat):∀i:Nat,n-i=f→i≤n→Ends SB (L2 t w L t (Ak w) (n:Int) (i:Int)) Q:=by
 have h20:=h.n;have hl:=h.len;induction f with
 |zero=>
  intro i hf hi;exact Ends.An (AS ..) (zd (decide_eq_false (by omega)) (zc (by simp) (zc rfl (Ends.leaf (hq _)))))
 |succ f ih=>
  intro i hf hi;have hlt:i<w.length:=by omega
  have next:=C2 t w L h n hn t i hlt (Q:=Q) (ih (i+1) (by omega) (by omega)) i 0 (by omega) (Nat.zero_le _);obtain⟨o1,o2,o3⟩:=h.one (i:Int) (by omega) (by omega);have hm:=Ia (ws:=w) (j:=(i:Int)) (by omega) (by omega);obtain⟨b1,b2,b3,b4,b5,b6⟩:=Sp.Di h.ok hm;have ht:=h.ok.2.1;unfold zf at o1 o2 o3 b1 b2 b3 b4 b5 b6;have hs0:decide (Ak w≠0)=true:=decide_eq_true (by have:=h.ok.2.2.2;omega);have iw:(decide ((0:Int)≤(i:Int))&&decide ((i:Int)<(w.length:Int)))=true:=by simp;omega
  have iL:(decide ((0:Int)≤(i:Int))&&decide ((i:Int)<(L.length:Int)))=true:=by simp;omega
  refine Ends.An (AS ..) ?_;conv=>zeta
  generalize hy:zh L (zi (i:Int)) (0:Int)=y at*;generalize hx:zh w (zi (i:Int)) (0:Int)=x at*;rw[wr (t*x) (by omega) (by omega)];generalize hqv:Int.tdiv (t*x) (Ak w)=q at*;generalize hrv:Int.tmod (t*x) (Ak w)=r at*;rw[wr q (by omega) (by omega),wr (q+1) (by omega) (by omega)];have tail:Ends SB (.ite (decide ((0:Int)≤(i:Int))&&decide ((i:Int)<(L.length:Int))) (.ite (decide (y>q)) (.ite (decide ((0:Int)≤(i:Int))&&decide ((i:Int)<(w.length:Int))) (.ite (decide (Ak w≠0)) (.ite (r==(0:Int)) (.leaf (.bl false) []) (L3 t w L t (Ak w) (i:Int) 0 (n:Int) (i:Int))) .fail) .fail) (L3 t w L t (Ak w) (i:Int) 0 (n:Int) (i:Int))) .fail) Q:=by
   refine zc iL (zg (fun c=>zc iw (zc hs0 (zd ?_ next))) (fun _=>next));have c:=of_decide_eq_true c;rw[beq_eq_false_iff_ne];rcases o3 with k|k
   ·omega
   ·exact k.2
  refine zc (decide_eq_true (by omega)) (zc iw (zc hs0 (zc iL (zg (fun c=>zc iL (zd ?_ tail)) (fun _=>tail)))));have c:y≠q:=by simpa using c
  rw[bne_eq_false_iff_eq];rcases o3 with k|k
  ·exact absurd k c
  ·exact k.1
theorem Aq(n:Nat)(hn:n=L.length)(hq:∀ob,Q (.dat .bool true) ob)(f:Nat):∀(i:Nat) (a b:Int),n-i=f→i≤n→a=Ak (L.take i)→b=Ak (w.take i)→Ends SB (L1 t w L a b (n:Int) (i:Int)) Q:=by
 have h20:=h.n;have hl:=h.len;have hbnd:∀(l:List Int) (i:Nat),(∀x∈l,0≤x∧x≤999999999)→l.length≤20→0≤Ak (l.take i)∧Ak (l.take i)≤19999999980:=fun l i hx hll=>by
  have h1:=Ex (l:=l.take i) fun x hxx=>(hx x (List.mem_of_mem_take hxx)).1
  have h2:=FJ (s:=999999999) (l:=l.take i) fun x hxx=>(hx x (List.mem_of_mem_take hxx)).2
  have h3:(l.take i).length≤20:=by rw[List.length_take];omega
  omega
 have hLx:∀x∈L,0≤x∧x≤999999999:=fun x hx=>by
  obtain⟨j,hj,rfl⟩:=List.getElem_of_mem hx;have:=h.one (j:Int) (by omega) (by omega);unfold zf at this;simp[hj]at this;exact⟨this.1,this.2.1⟩
 induction f with
 |zero=>
  intro i a b hf hi ha hb;have e:i=n:=by omega
  subst e;have e1:L.take i=L:=by rw[hn,List.take_length]
  have e2:w.take i=w:=by rw[hn,hl,List.take_length]
  rw[e1,h.sum]at ha;rw[e2]at hb;subst ha hb;refine Ends.An (Ap ..) (zd (by simp) ?_);have:=Be a w L h i hn hq i 0 (by omega) (Nat.zero_le _);rw[←hn];exact this
 |succ f ih=>
  intro i a b hf hi ha hb;have hlt:i<L.length:=by omega
  have hlw:i<w.length:=by omega
  obtain⟨p1,p2⟩:=hbnd L (i+1) hLx (by omega);obtain⟨p3,p4⟩:=hbnd w (i+1) h.ok.2.2.1 (by omega);have s1:Ak (L.take (i+1))=a+L[i]:=by rw[ze hlt,Fh, ←ha];simp[Ak]
  have s2:Ak (w.take (i+1))=b+w[i]:=by rw[ze hlw,Fh, ←hb];simp[Ak]
  have g1:zh L (zi (i:Int)) (0:Int)=L[i]:=by simp[hlt]
  have g2:zh w (zi (i:Int)) (0:Int)=w[i]:=by simp[hlw]
  have hb1:=hLx _ (List.getElem_mem hlt);have iw:(decide ((0:Int)≤(i:Int))&&decide ((i:Int)<(w.length:Int)))=true:=by simp;omega
  have iL:(decide ((0:Int)≤(i:Int))&&decide ((i:Int)<(L.length:Int)))=true:=by simp;omega
  refine Ends.An (Ap ..) ?_;conv=>zeta
  rw[g1,g2,wr (a+L[i]) (by omega) (by omega),wr (b+w[i]) (by omega) (by omega),wr ((i:Int)+1) (by omega) (by omega)];exact zc (decide_eq_true (by omega)) (zc iL (zd (decide_eq_false (by omega)) (zc iL (zd (decide_eq_false (by omega)) (zc iw (zc iL (ih (i+1) _ _ (by omega) (by omega) s1.symm s2.symm)))))))
omit h in
theorem ok:Ac A4 5 G8:=by
 refine AJ (X:=SB) rfl W6 (d:=9) (by kernel_rfl) (by kernel_rfl) rfl (fun⟨(t:Int),(w:List Int)⟩ _=>?_) (Ad (by kernel_rfl));have fin:∀ob,Af G8 (t,w) (.dat .bool true) ob:=fun ob=>Af.of rfl rfl rfl
 have awk:∀ob,Ends SB (.ite true (.leaf (.dat .bool true) ob) .fail) (Af G8 (t,w)):=fun ob=>zc rfl (Ends.leaf (fin ob))
 refine Ends.eq (Ay t w) (zg (fun _=>awk _) (fun c=>zc (decide_eq_true ?_) (zg (fun _=>awk _) (fun d=>zg (fun _=>awk _) (fun e=>zg (fun _=>awk _) (fun f=>?_))))))
 ·have c:=of_decide_eq_false c;omega
 ·have c:=of_decide_eq_false c;have d:AO w=0:=by simpa using d
  have e:=of_decide_eq_false e;have f:=of_decide_eq_false f;have hl:w.length≤20:=by omega
  have hlen:EC w=true:=by unfold EC;simp[hl]
  have hE:A5 t w=0:=by
   unfold A5;have:EJ t=false:=by
    cases hb:EJ t with
    |false=>rfl
    |true=>rcases(Fm t).1 hb with k|k<;>omega
   rw[this,d];rfl
  have hok:=(Ja hE).1;obtain⟨k1,k2,k3,k4⟩:=Sp.fair hok;have hS:Ct t w=BC t w:=if_pos hE;have F:Fair t w (Ct t w):=by rw[hS];exact⟨hok,hl,k1,k2,k3,k4⟩
  refine zc hlen (zd (by simp[hE]) (zd (by simp[F.len]) ?_));exact Aq t w _ F _ rfl fin _ 0 0 0 rfl (Nat.zero_le _) rfl rfl
end T5
end Go.Pe
