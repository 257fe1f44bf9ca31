import Derived.Test.YtipkapecgjpnlaaGreatDoorX09
import Derived.Lib.Mul64
/- A part of a proof; no law is stated here. -/
noncomputable section
open Go.IntKind renaming wrap -> zc, u64 -> ze, i64 -> yp, wrap_i64 -> jg
open Bool renaming and_eq_true -> zd, true_and -> z7, false_eq_true -> qw, or_eq_true -> jj
open List renaming getD_eq_getElem?_getD -> zf, getElem?_eq_getElem -> zg, replicate -> zj, getElem?_take_of_lt -> zk, take_of_length_le -> zq, length_range -> zy, getElem?_eq_none -> yc, length_take -> ye, all_eq_true -> yf, getElem?_drop -> yg, length_map -> yj, getElem_mem -> yq, take_length -> yu, getElem?_eq_some_iff -> yv, drop_eq_getElem_cons -> yx, mem_singleton -> qe, drop_eq_nil_of_le -> qg, take_append_drop -> qj, getElem_map -> qk, cons_append -> ql, mem_of_getElem? -> qp, getElem?_map -> qy, append_assoc -> qz, length_drop -> jc, ext_getElem -> je, length_eq_zero_iff -> jf
open Go.Pe.Ends renaming tt -> zh, leaf -> zi, ite -> zl, eq -> yi, An -> qh, ff -> qo
open Int renaming mul_le_mul_of_nonneg_left -> zm, toNat_natCast -> zn, eq_ofNat_of_zero_le -> zp, lt_or_le -> zt, fdiv -> z6, lt_of_le_of_lt -> yb, mul_add -> yd, pow_succ -> yh, mul_nonneg -> qf, mul_le_mul_of_nonneg_right -> qm, mul_assoc -> qn, natCast_add -> qt, add_mul_emod_self_left -> qu, add_assoc -> q9, mul_comm -> jh, mul_sub -> jk
open Go.Pe.Sh renaming int -> zo, list -> zr
open Nat renaming eq_of_beq_eq_true -> zu, le_refl -> yn, beq -> qc, zero_le -> qx
open Option renaming getD_some -> zw
open Array renaming range -> zx, getElem?_eq_some_iff -> z8, getElem?_toList -> ym, getElem?_append_left -> yo, toList_inj -> yr, size_range -> yt, getElem?_eq_getElem -> yw, length_toList -> yy, getElem?_setIfInBounds -> qq
open Go.Pe.Ad renaming of -> zz
open Go.Sort renaming ahead -> yk
open Go.Pe.PV renaming agg -> yz
open Go.Lib renaming bitLen -> qd, half_mul_le -> qv
open BitVec renaming ofInt -> qi
open List.cons renaming injEq -> ji
variable {Q:Go.Pe.PV->Go.Pe.Ob->Prop}
namespace Go.Pe
open Go.Det
def FW(W:World):Fz:=fun b=>match (hW W).get b with
 |some (.cells cs _ _)=>some cs
 |_=>none
def R9:(s:Sh)->s.T->Prop
 | .int k,x=>k.min<=(x:Int)/\(x:Int)<=k.max
 | .bool,_=>True
 | .str,x=>(x:Z).length<=maxLen
 | .list s,l=>(l:List s.T).length<=maxLen/\∀x∈(l:List s.T),R9 s x
 | .pair a b,x=>R9 a x.1/\R9 b x.2
 | .unit,_=>True
 | .nlist _,_=>True
 | .fnv,_=>True
 | .ptr _,_=>True
def bG(P:Program)(f:TypeId->Option Sh):Nat->List Field->Option Sh
 |_,[]=>some .unit
 |o,[x]=>match f x.type with
  |some s=>bif qc x.offset o&&qc (P.cellsOf x.type) s.sz then some s else none
  |none=>none
 |o,x::y::l=>match f x.type with
  |some s=>bif qc x.offset o&&qc (P.cellsOf x.type) s.sz then(bG P f (o+s.sz) (y::l)).map (.pair s)else none
  |none=>none
def wA(P:Program):Nat->TypeId->Option Sh
 |0,_=>none
 |f+1,t=>match P.underlying t with
  |some (.int k)=>some<|.int k
  |some .bool=>some .bool
  |some .string=>some .str
  |some (.slice e)=>match wA P f e with
   |some s=>bif qc (P.cellsOf e) s.sz&&Nat.blt 0 s.sz then some (.list s)else none
   |none=>none
  |some (.struct fs)=>match bG P (wA P f) 0 fs.toList with
   |some s=>bif qc (P.cellsOf t) s.sz then some s else none
   |none=>none
  |_=>none
section
variable {H:Type}{enc:TypeId×Value->H}{P:Program}{W:World}
theorem cT{r:Nat}{c:Array Value}{t:TypeId}{fz:Nat×Nat}(h:W.heap[r]?=some (.cells c t fz))(h0:c.size≠0):FW W r=some (c.toList.map<|KI W.heap.size):=by
 simp_all [FW,O4,Nd]
theorem QK{a:Addr}{n:Nat}{cs:List Value}(h:W.cells? 0 a n=some cs)(j:0<n):
  ∃c t fz,W.heap[a.block]?=some (.cells c t fz)/\a.spot=none/\a.off+n<=c.size/\cs=(c.toList.drop a.off).take n:=by
 have m:=mapM_some_length h;have e:=mapM_some_get h;have h0:=e 0 0 (by simp[j]);have k:a.add 0=a:=by rfl
 obtain⟨v0,d⟩:∃v,cs[0]?=some v:=ah;rw[d]at h0;unfold World.cell? at h0;split at h0
 case h_2=>cases h0
 rename_i c t fz g;split at h0
 case isTrue=>cases h0
 have f:a.spot=none:=by simp_all
 have l:∀i,i<n->c[a.off+i]?=cs[i]?:=by
  grind [World.cell?,Addr.add]
 refine⟨c,t,fz,g,f,?_,?_⟩
 ·have:=l (n-1) ae;grind
 ·apply List.ext_getElem?;grind
theorem YF{α:Type}{p:Nat->α->Prop}:∀n:Nat,(∀i,i<n->∃x,p i x)->∃l:List α,l.length=n/\∀i (h:i<l.length),p i l[i]
 |0,_=>(by simp)
 |n+1,h=>by
  obtain⟨l,c,d⟩:=YF n fun i a=>h i ae
  obtain⟨x,e⟩:=h n ae;refine⟨l++[x],by simp[c],fun i a=>?_⟩;grind
end
open Go.Det Go.RowKit
section
open Go.Proofs.Tryz (prog)
theorem UB{F':Fz}{v:V}(h:PC F' (.dat .bool true) v):v=.bool true:=by
 have:=h (fun _=>none) 0;simp only[PR,DC]at this;simpa using this
def GW(W:World):Prop:=∀x∈C5,Nd W x.1=some x.2
theorem GW.h{W:World}(h:GW W):Gh (hW W):=fun x a=>by rw[O4];exact h x a
theorem GW.p{W:World}(h:GW W):Gp (pW W):=fun x i=>by
 have a:=h x i;unfold Nd at a;split at a
 case h_2=>cases a
 rename_i c t fz f;split at a
 case isTrue=>cases a
 have e:x.1<W.heap.size:=(z8.1 f).1;have g:ZQ W x.1=c.size:=by unfold ZQ;rw[f]
 rw[LB e,g];cases d:x.2 with
 |cells cs j fz'=>rw[d]at a;cases a;simp[osz]
 |_=>rw[d]at a;cases a
theorem IE[Srt](y:Fh prog Mw){f:FuncId}{sp:Ap}(ok:Af A9 f sp)(i:(Bv sp.ins).T)(a:sp.pre i=true){args:List V}{args':Array Value}{W:World}(c:GW W)(q:J1 (FW W) (Ae sp.ins i) args)
  (x:Au (pW W) args args'.toList) (d:∀F' v,PC F' (one<|Ae sp.outs<|sp.f i) v->v=.bool true) (B:A9.prim f=none:=by kernel_rfl):
  Calls prog f args' W fun e j=>e=.returned (.bool true)/\Below W.heap.size W j:=by
 obtain⟨l,M,z,_,A⟩:=(ok.zero B).run (FW W) (hW W) args i (fun b cs h=>by
  unfold FW at h;split at h
  case h_2=>cases h
  rename_i cs' t fz s;cases h;exact⟨t,fz,s⟩) (fun b o h=>(R_W W).lt h) c.h q a
 refine((EK (mA y) QL GD M).fn f args (hW W) l (z M<|yn _) (pW W) W args' (R_W W) c.p x).mono ?_;rintro e w' ⟨v,h',v',p',k,rfl,g,u⟩;obtain⟨_,_,_,F',_,_,_,m⟩:=A _ k;obtain rfl:=d F' v m;refine⟨?_,Xs u⟩;simp only[Ac]at g;rw[g]
open Go.Sort (grow)
abbrev rL:Srt:=⟨none⟩
theorem qS:Fh prog (@Mw rL):=fun f q h=>by
 unfold Mw rL at h;cases a:qc f 147 with
 |true=>rw[a]at h;cases h
 |false=>rw[a]at h;cases h
theorem grown_of{W a:World}(c:Below W.heap.size W a)(i:W.drawn<=a.drawn):∃q os,a=grow (W.drewN q) os:=by
 refine⟨a.drawn-W.drawn,a.heap.extract W.heap.size a.heap.size,?_⟩;have m:=c.size;have d:a.heap=W.heap++a.heap.extract W.heap.size a.heap.size:=by
  apply Array.ext_getElem?;intro k;by_cases h:k<W.heap.size
  ·rw[yo h];exact c.block k h
  ·rw[Array.getElem?_append_right ae,Array.getElem?_extract];by_cases j:k<a.heap.size
   ·rw[wd ae,show W.heap.size+(k-W.heap.size)=k by omega]
   ·rw[wc ae,Array.getElem?_eq_none ae]
 have e:=c.os;have f:=c.tape;have g:=c.output;obtain⟨s,t1,l,o1,u1⟩:=W;obtain⟨j,t2,d2,o2,u2⟩:=a;simp only at e f g d i;subst e f g;unfold grow World.drewN;simp only[World.mk.injEq];exact⟨d,trivial,by omega,trivial,trivial⟩
theorem Wv{S:Srt}(z:Fh prog (@Mw S)){f:FuncId}{sp:Ap}(ok:Af (@A9 S) f sp)(i:(Bv sp.ins).T)(a:sp.pre i=true){args:List V}{args':Array Value}{W:World}(c:GW W)(u:J1 (FW W) (Ae sp.ins i) args)
  (y:Au (pW W) args args'.toList) {r:Value} (d:∀F' v,PC F' (one<|Ae sp.outs<|sp.f i) v->∀p v',Ac p v v'->v'=r) (C:(@A9 S).prim f=none):
  Calls prog f args' W fun e k=>e=.returned r/\∃q os,k=grow (W.drewN q) os:=by
 letI:=S
 obtain⟨l,M,A,_,B⟩:=(ok.zero C).run (FW W) (hW W) args i (fun b cs h=>by
  unfold FW at h;split at h
  case h_2=>cases h
  rename_i cs' t fz x;cases h;exact⟨t,fz,x⟩) (fun b o h=>(R_W W).lt h) c.h u a
 refine((EK (mA z) QL GD M).fn f args (hW W) l (A M<|yn _) (pW W) W args' (R_W W) c.p y).mono ?_;rintro e w' ⟨v,h',v',p',m,rfl,j,g⟩;obtain⟨_,_,_,F',_,_,_,s⟩:=B _ m;exact⟨by rw[d F' v s p' v' j],grown_of (Xs g) g.dr⟩
def F0(h:H)(b:Nat):Fz:=fun c=>bif qc c b then none else match h.get c with
 |some (.cells cs _ _)=>some cs
 |_=>none
def Sh.il:Sh->Bool
 | .int _=>true
 | .str=>true
 | .pair a b=>a.il&&b.il
 |_=>false
section
variable {p:Pl}{h:H}{w W:World}{b r n:Nat}{o:O}
theorem later(F:R p h w)(G:p[b]?=some (r,n))(I:h.get b=some o)(e:∀j,j<w.heap.size->j≠r->W.heap[j]?=w.heap[j]?)(A:w.heap.size<=W.heap.size):∀(s:Sh) (x:s.T) (ds:List V) (vs:List Value),s.il=true->DC (F0 h b) s x ds->Au p ds vs->DC (FW W) s x (vs.map<|KI W.heap.size)
 | .int k,x,ds,vs,_,f,g=>by
  have f:ds=[.int k x]:=f;subst f;obtain⟨v,m,rfl,q,t⟩:=g;have t:m=[]:=t;have q:v=.int k x:=q;subst q t;rfl
 | .pair a c,x,ds,vs,C,f,g=>by
  simp only[Sh.il,zd]at C;simp only[DC]at f ⊢;obtain⟨u,z,rfl,K,L⟩:=f;have l:=g.length;rw[List.length_append]at l;have t1:Au p u (vs.take u.length):=Au.mk (by rw[ye];omega) fun i d v B y=>by
   have J:=(yv.1 B).1;rw[zk J]at y;obtain⟨v',E,D⟩:=g.get (i:=i) (d:=d) (by rw[List.getElem?_append_left J];exact B);rw[E]at y;cases y;exact D
  have t2:Au p z (vs.drop u.length):=Au.mk (by rw[jc];omega) fun i d v B y=>by
   rw[yg]at y;obtain⟨v',E,D⟩:=g.get (i:=u.length+i) (d:=d) (by rw[List.getElem?_append_right ae,Nat.add_sub_cancel_left];exact B);rw[E]at y;cases y;exact D
  exact⟨_,_,by rw[<-List.map_append,qj],later F G I e A a x.1 _ _ C.1 K t1,later F G I e A c x.2 _ _ C.2 L t2⟩
 | .str,x,ds,vs,_,f,g=>by
  have f:ds=[.str x]:=f;subst f;obtain⟨v,m,rfl,q,t⟩:=g;have t:m=[]:=t;have q:v=.string (bytesOf x):=q;subst q t;rfl
end
end
open Sp
section
open Go.Proofs.Tryz (prog)
open Go.Sort (grow putRow putCells pdq SWO)
open Go.Proofs (ltOf sortWorldK)
open Go.Sort (HoldsK flatK putRowK)
open Go.Sp (Am)
abbrev ix(n x:Nat):Nat:=if x<n then x else 0
def Qi(l:List Am)(x:Nat):Am:=l.getD (ix l.length x) (0,0,0,[],0,0)
def Yn(l:List Am)(x y:Nat):Int:=UW (Qi l x)<|Qi l y
def Dk(l:List Am):List Nat:=(pdq (ltOf<|Yn l) (zx l.length) 0 l.length (qd l.length) true true).toList
theorem Yf{l:List Am}:SWO (ltOf<|Yn l):=by
 have lt:∀x y,(ltOf (Yn l) x y=true↔De (Qi l x) (Qi l y)):=fun x y=>by
  unfold ltOf Yn;rw[w5];exact Ug
 refine⟨fun x=>?_,fun x y z a b=>?_,fun x y z a b=>?_⟩
 ·exact Bool.eq_false_iff.2 fun e=>Uw<|(lt x x).1 e
 ·rw[lt]at a b ⊢;exact VT a b
 ·have a:¬De (Qi l x) (Qi l y):=fun e=>by rw[(lt x y).2 e]at a;cases a
  have b:¬De (Qi l y) (Qi l z):=fun e=>by rw[(lt y z).2 e]at b;cases b
  refine Bool.eq_false_iff.2 fun e=>?_
  exact Ua a b<|(lt x z).1 e
theorem Eo{l:List Am}:(Dk l).Perm (List.range l.length)/\∀i j:Nat,i<j->j<l.length->¬UW (Qi l<|(Dk l).getD j 0) (Qi l<|(Dk l).getD i 0)<0:=by
 obtain⟨⟨a1,_,a3⟩,b⟩:=Go.Sort.pdq_sorts (ltOf<|Yn l) Yf (zx l.length) 0 l.length (qd l.length) true true (qx _) (by simp) (Or.inl rfl);have sz:(pdq (ltOf<|Yn l) (zx l.length) 0 l.length (qd l.length) true true).size=l.length:=by rw[a1];simp
 refine⟨?_,fun i j c e=>?_⟩
 ·have d:∀a:Array Nat,a.size=l.length->(a.extract 0 l.length).toList=a.toList:=fun a f=>by
   rw[<-f];simp
  rw[d _ sz,d _<|by simp]at a3;unfold Dk;simpa using a3
 ·have:=b i j (qx _) c e;unfold ltOf Yn at this;have g:∀k,k<l.length->(Dk l).getD k 0=(pdq (ltOf<|Yn l) (zx l.length) 0 l.length (qd l.length) true true)[k]! :=fun k m=>by
   unfold Dk;rw[zf,ym,getElem!_pos _ k ae,yw ae];rfl
  rw[g j e,g i ae];exact w7 this
def G7(cs:List V)(ks:List Nat):List V:=(List.range<|ks.length*6).map fun t=>cs.getD (ks.getD (t/6) 0*6+t % 6) .nils
structure fJ(h:H)(b n:Nat)(cs:List V)(fz:Nat×Nat)(l:List Am):Prop where
 n:l.length=n
 n0:0<l.length
 n1:l.length<=1000000
 d:C9 (F0 h b) Az l cs
 fz:fz.2<=fz.1
 gh:Gh h
open Classical in
def Ix:List V->H->Option (V×H)
 |[.nils,.fn (.func 92) [] []],h=>some (.tup [],h)
 |[.sl b 0 n _ _,.fn (.func 92) [] []],h=>if n=0 then some (.tup [],h)else match h.get b with
  |some (.cells cs t fz)=>if hx:∃l,fJ h b n cs fz l then some (.tup [],h.put b<|.cells (G7 cs<|Dk hx.choose) t fz)else none
  |_=>none
 |_,_=>none
instance srt1:Srt:=⟨some Ix⟩
theorem QI:(C5.all fun x=>match x.2 with| .cells cs _ fz=>(cs.all fun c=>match c with| .int _ _=>true|_=>false)&&(qc fz.1 0&&qc fz.2 cs.length)&&Nat.blt 0 cs.length|_=>false)=true:=by kernel_rfl
section
variable {p:Pl}{h:H}{w W:World}{b r n:Nat}{o:O}
theorem gC(D:R p h w)(s:Gp p)(u:Gh h)(M:p[b]?=some (r,n))(N:h.get b=some o)(v:∀x∈C5,x.1≠b)(a:∀j,j<w.heap.size->j≠r->W.heap[j]?=w.heap[j]?):GW W:=fun x f=>by
 have E:=u x f;have B:=s x f;obtain⟨T,n',y,C,z,L⟩:=D.obj x.1 _ E;rw[B]at C;cases C;have J:x.1≠r:=fun e=>v x f (D.inj x.1 b _ _ r _ _ E N (by rw[B,e]) M)
 have lt:x.1<w.heap.size:=(z8.1 z).1;have q:=yf.1 QI x f;obtain⟨i,ob⟩:=x;cases ob with
 |cells cs t fz=>
  simp only[zd]at q;obtain⟨⟨q1,d,g⟩,A⟩:=q;have d:=zu d;have g:=zu g;have A:0<cs.length:=Nat.le_of_ble_eq_true A;obtain⟨ca,fz',rfl,s1,s2,s3,_⟩:=L;have s1:ca.size=cs.length:=s1;unfold Nd;rw[a _ lt J,z];simp only;rw[wc ae];have e:ca.toList.map (KI W.heap.size)=cs:=by
   refine je (by rw[yj,yy,s1]) fun j K l=>?_
   have G:j<ca.toList.length:=by simpa using K
   have c:=yf.1 q1 cs[j]<|yq l;rw[qk];have I:(ca.toList.take cs.length)[j]?=some ca.toList[j]:=by rw[zk l,zg G]
   cases F:cs[j]with
   |int k m=>
    have:=s3.2 j _ _ (by rw[zg l,F]) I rfl;have this:ca.toList[j]=.int k m:=this;rw[this];rfl
   |_=>rw[F]at c;cases c
  rw[e,s1];obtain⟨U,S⟩:=fz;simp only at d g;rw[d,g]
 |_=>cases q
end
end
section
open Go.Proofs.Tryz (prog)
open Go.Sort (grow putRow putCells pdq SWO)
open Go.Proofs (ltOf sortWorldK CmpLays)
open Go.Sort (HoldsK flatK putRowK)
open Go.Sp (Am)
def fl1:V->Bool
 | .agg _| .tup _=>false
 |_=>true
theorem ZU{p:Pl}:∀ {d:V} {v:Value},Ac p d v->fl1 d=true->v.oneCell'=true
 | .bool _,_,h,_=>by simp only[Ac]at h;subst h;rfl
 | .int _ _,_,h,_=>by simp only[Ac]at h;subst h;rfl
 | .str _,_,h,_=>by simp only[Ac]at h;subst h;rfl
 | .nilp,_,h,_=>by simp only[Ac]at h;subst h;rfl
 | .ptr _ _,_,h,_=>by simp only[Ac]at h;obtain⟨_,_,_,rfl⟩:=h;rfl
 | .nils,_,h,_=>by simp only[Ac]at h;subst h;rfl
 | .sl _ _ _ _ _,_,h,_=>by simp only[Ac]at h;obtain⟨_,_,_,_,rfl,_⟩:=h;rfl
 | .esl,_,h,_=>by simp only[Ac]at h;obtain⟨_,_,rfl⟩:=h;rfl
 | .es0,_,h,_=>by simp only[Ac]at h;obtain⟨_,rfl⟩:=h;rfl
 | .junk,_,h,_=>by simp only[Ac]at h
 | .nilm,_,h,_=>by simp only[Ac]at h;subst h;rfl
 | .map _,_,h,_=>by simp only[Ac]at h;obtain⟨_,_,_,rfl⟩:=h;rfl
 | .fn _ _ _,_,h,_=>by simp only[Ac]at h;obtain⟨_,_,rfl,_⟩:=h;rfl
 | .yld _,_,h,_=>by simp only[Ac]at h;obtain⟨_,_,_,rfl⟩:=h;rfl
 | .nilf,_,h,_=>by simp only[Ac]at h;subst h;rfl
 | .iface _ _,_,h,_=>by simp only[Ac]at h;obtain⟨_,rfl,_⟩:=h;rfl
 | .nili,_,h,_=>by simp only[Ac]at h;subst h;rfl
theorem PJ{F:Fz}:∀(s:Sh) (x:s.T) (ds:List V),s.il=true->DC F s x ds->∀d∈ds,fl1 d=true
 | .int k,x,ds,_,e=>by
  have e:ds=[.int k x]:=e;subst e;intro d h;rw[qe.1 h];rfl
 | .pair a c,x,ds,f,e=>by
  simp only[Sh.il,zd]at f;simp only[DC]at e;obtain⟨u,z,rfl,i,g⟩:=e;intro d h;rcases List.mem_append.1 h with h|h
  ·exact PJ a x.1 u f.1 i d h
  ·exact PJ c x.2 z f.2 g d h
 | .str,x,ds,_,e=>by
  have e:ds=[.str x]:=e;subst e;intro d h;rw[qe.1 h];rfl
def F5(a:Array Value)(n x:Nat):List Value:=(a.toList.drop<|ix n x*6).take 6
theorem Qr{w:World}{r off:Nat}{d:Array Value}{c:Array Value}{t:TypeId}{fz:Nat×Nat}(h:w.heap[r]?=some (.cells c t fz)):(putRow id w r off d).heap=w.heap.setIfInBounds r (.cells (putCells id off d c) t fz):=by
 apply Array.ext_getElem?;intro k;show(w.heap.modify r _)[k]?=_;rw[Array.getElem?_modify,qq];by_cases e:r=k
 ·subst e;have a:r<w.heap.size:=(z8.1 h).1;rw[wd rfl,wd rfl,wd a,h];rfl
 ·rw[wc e,wc e]
theorem Df(off:Nat)(d c:Array Value)(i:Nat):(putCells id off d c)[i]?=c[i]?.map fun x=>if off<=i/\i<off+d.size then d[i-off]! else x:=by
 unfold putCells;rw[Array.getElem?_mapIdx];rfl
theorem zD{F:Fz}{x:Am}{ds:List V}(h:DC F Az x ds):∃s,ds[3]?=some (.str s):=by
 simp only[DC]at h;obtain⟨a,b,rfl,j,c,d,rfl,l,e,f,rfl,m,g,k,rfl,i,_⟩:=h;have j:a=[.int .i64 x.1]:=j;have l:c=[.int .i64 x.2.1]:=l;have m:e=[.int .i64 x.2.2.1]:=m;have i:g=[.str x.2.2.2.1]:=i;subst j l m i;exact⟨_,rfl⟩
theorem Yo:Fh prog Mw:=by
 intro f q hq p h w args args' v h' hr hgp ha B;unfold Mw srt1 at hq;cases hf:qc f 147 with
 |false=>rw[hf]at hq;cases hq
 |true=>
  rw[hf]at hq;cases hq;cases zu hf;have E:∀y p0 cap,args'= #[Value.slice p0 0 cap,y]->v=.tup []->h'=h->Calls prog 147 args' w fun e w'=>∃v0 p',e=.returned v0/\Ac p' v v0/\Ext p h w p' h' w':=by
   rintro y p0 cap rfl rfl rfl;refine(Go.Proofs.AnyF.slices_SortFunc_none vH p0 cap y w).mono ?_;rintro e w' ⟨rfl,rfl⟩;exact⟨_,p,rfl,by simp[Ac],Ext.refl hr⟩
  unfold Ix at B;split at B
  ·cases B;obtain⟨x,y,X,M,g2⟩:=ha.two;have:args'= #[x,y]:=yr.1 X;simp only[Ac]at M;subst M;exact E y none 0 this rfl rfl
  case h_3=>cases B
  rename_i b n c o;by_cases n0:n=0
  ·rw[wd n0]at B;cases B;obtain⟨x,y,X,M,g2⟩:=ha.two;have:args'= #[x,y]:=yr.1 X;simp only[Ac]at M;obtain⟨r,m,cp,k1,rfl,_⟩:=M;subst n0;exact E y _ cp this rfl rfl
  rw[wc n0]at B;split at B
  case h_2=>cases B
  rename_i cs t fz hg;split at B
  case isFalse=>cases B
  rename_i hx;have G:=hx.choose_spec;generalize hx.choose=l at*;cases B;obtain⟨Gn,n0,n1,Gd,Gfz,Ggh⟩:=G;subst Gn;obtain⟨x,y,X,M,g2⟩:=ha.two;have:args'= #[x,y]:=yr.1 X;subst this;simp only[Ac]at M g2;obtain⟨r,m,cp,k1,rfl,_,_,_,_⟩:=M;obtain⟨u,z,rfl,u1,z1⟩:=g2;have u1:u= #[]:=yr.1 (by simpa using u1);have z1:z= #[]:=yr.1 (by simpa using z1);subst u1 z1;obtain⟨r',m',ob,j1,j2,j3⟩:=hr.obj b _ hg;rw[k1]at j1;cases j1;obtain⟨ca,fz',rfl,s1,s2,s3,s4⟩:=j3;have hcl:cs.length=l.length*6:=Gd.1;have cal:ca.toList.length=m:=by rw[yy];exact s1
  have I:∀x,ix l.length x<l.length:=fun x=>by unfold ix;split<;>omega
  have T:∀x,(F5 ca l.length x).length=6:=fun x=>by
   have:=I x;unfold F5;rw[ye,jc];omega
  have R:∀j,j<cs.length->∃A:j<ca.toList.length,(cs.getD j .nils).ok=true->Ac p (cs.getD j .nils) ca.toList[j]:=fun j A=>by
   have Z:j<ca.toList.length:=ae
   refine⟨Z,fun K=>?_⟩;have a:cs[j]?=some (cs.getD j .nils):=by rw[zf,zg A];rfl
   exact s3.2 j _ _ a (by rw[zk A,zg Z]) K
  have eD:∀x,DC (F0 h b) Az (Qi l x) ((cs.drop<|ix l.length x*6).take 6):=fun x=>by
   have:=Gd.2 (ix l.length x)<|I x;unfold Qi;rw[zf,zg<|I x,zw];exact this
  have eR:∀x,Au p ((cs.drop<|ix l.length x*6).take 6) (F5 ca l.length x):=fun x=>by
   have V:=I x;refine Au.mk (by rw[T,ye,jc];omega) fun i d v a g=>?_
   have i4:i<6:=by
    have:=(yv.1 g).1;rw[T]at this;exact this
   have ok:=DC.ok (eD x) d<|qp a;rw[zk i4,yg]at a;unfold F5 at g;rw[zk i4,yg]at g;obtain⟨A,c1⟩:=R (ix l.length x*6+i) ae;have e3:cs.getD (ix l.length x*6+i) .nils=d:=by rw[zf,a];rfl
   rw[zg A]at g;cases g;rw[e3]at c1;exact c1 ok
  have h1:∀x,∀v∈F5 ca l.length x,v.oneCell'=true:=fun x v hv=>by
   obtain⟨i,V,rfl⟩:=List.getElem_of_mem hv;have X:=(eR x).length;have hi2:i<((cs.drop<|ix l.length x*6).take 6).length:=ae
   obtain⟨v',a,g⟩:=(eR x).get<|zg hi2;rw[zg V]at a;cases a;exact ZU g<|PJ Az _ _ rfl (eD x) _ (yq hi2)
  have rl:r<w.heap.size:=(z8.1 j2).1;have gne:∀x∈C5,x.1≠b:=fun x hx e=>by
   have a1:=Ggh x hx;rw[e,hg]at a1;have q:=yf.1 QI x hx;rw[<-Option.some.inj a1]at q;simp only[zd]at q;obtain⟨s,f1⟩:=zD<|eD 0;have e0:ix l.length 0=0:=by unfold ix;split<;>rfl
   rw[e0,Nat.zero_mul,List.drop_zero,zk af]at f1;have:=yf.1 q.1.1 _<|qp f1;cases this
  have flat:∀(D:Array Nat) (j:Nat),j<D.size*6->(flatK (F5 ca l.length) 6 D)[j]! =ca.toList.getD (ix l.length (D[j/6]!)*6+j % 6) default:=fun(D:Array Nat) j A=>by
   rw[Go.Sort.get_flatK _ _ _ j A];have h4:j % 6<(F5 ca l.length<|D[j/6]!).length:=by rw[T];exact Nat.mod_lt _ af
   rw[getElem!_pos (F5 ca l.length<|D[j/6]!) (j % 6) h4];have h5:ix l.length (D[j/6]!)*6+j % 6<ca.toList.length:=by
    have:=I<|D[j/6]!;omega
   rw[zf,zg h5,zw];simp only[F5,List.getElem_take,List.getElem_drop]
  have hH:HoldsK (F5 ca l.length) 6 w r 0 (zx l.length):=by
   intro j A;rw[Go.Sort.size_flatK,yt]at A;have a:ix l.length ((zx l.length)[j/6]!)=j/6:=by
    have:j/6<l.length:=ae
    rw[getElem!_pos _ _ (by rw[yt];exact this),Array.getElem_range];unfold ix;rw[wd this]
   have h5:j<ca.toList.length:=ae
   rw[flat _ j (by rw[yt];exact A),a,show j/6*6+j % 6=j by omega,zf,zg h5,zw];refine⟨?_,?_⟩
   ·unfold World.cell?;rw[j2];show ca[0+j]?=some _;rw[Nat.zero_add, <-ym,zg h5];rfl
   ·unfold World.frozen?;rw[j2];obtain⟨lo,V⟩:=fz';show(decide (lo<=0+j)&&decide (0+j<V))=false;rw[Bool.and_eq_false_iff,w9,w9];by_cases a:lo<=0+j
    ·refine .inr fun g=>?_
     have:=s4 (0+j) ae a g;omega
    ·exact .inl a
  have hcmp:CmpLays prog 92 #[] (F5 ca l.length) 6 (Yn l) r 0 (zx l.length).size w:=by
   intro C os dk _ x y;have F:∀j,j<w.heap.size->j≠r->(sortWorldK (F5 ca l.length) 6 w r 0 C dk os).heap[j]?=w.heap[j]?:=fun j h1 h2=>by
    show((putRow id (yk w C) r 0 _).heap++os)[j]?=_;have sz:(putRow id (yk w C) r 0<|flatK (F5 ca l.length) 6 dk).heap.size=w.heap.size:=Go.Sort.size_putRow ..;rw[yo (by rw[sz];exact h1),Qr (w:=yk w C) j2,qq,wc<|fun e=>h2 e.symm];rfl
   have hsz:w.heap.size<=(sortWorldK (F5 ca l.length) 6 w r 0 C dk os).heap.size:=by
    show _<=((putRow id (yk w C) r 0 _).heap++os).size;have sz:(putRow id (yk w C) r 0<|flatK (F5 ca l.length) 6 dk).heap.size=w.heap.size:=Go.Sort.size_putRow ..;rw[Array.size_append,sz];omega
   generalize sortWorldK (F5 ca l.length) 6 w r 0 C dk os=W at*;have L:=fun x=>later hr k1 hg F hsz Az (Qi l x) _ _ rfl (eD x) (eR x)
   have VV:∀x,Au (pW W) ((F5 ca l.length x).map<|KI W.heap.size) (F5 ca l.length x):=fun x=>Au.mk (by rw[yj]) fun i d v a g=>by
    have ok:=DC.ok (L x) d<|qp a;rw[qy,g]at a;cases a;exact Kp ok
   refine Wv (S:=rL) qS (@T92.ok rL) (Qi l x,Qi l y) rfl (args:=[.agg _,.agg _]) (gC hr hgp Ggh k1 hg gne F) (J1.cons ((PC.BL<|L x).1 rfl)<|J1.cons ((PC.BL<|L y).1 rfl)<|fun ρ N=>by simp only[BC]) ?_ ?_ ag
   ·show Au (pW W) _ [.agg _,.agg _];rw[Bb,Bb];exact⟨by simp only[Ac];exact⟨_,rfl,VV x⟩,by simp only[Ac];exact⟨_,rfl,VV y⟩,by simp⟩
   ·intro F' v hv p' v' Y;have hv:=hv (fun _=>none) 0;obtain rfl:=Cw hv;simp only[Ac]at Y;exact Y
  have J:=Go.Proofs.AnyQ.slices_SortFunc_eq (P:=prog) vH 6 (fun w=>Go.Proofs.Tryz.isAgg25 w) (fun w=>Go.Proofs.Tryz.sizeOf25 w) (F5 ca l.length) T h1 (Yn l) Yf 92 #[] r 0 cp (zx l.length) w (Go.Proofs.enters_of Go.Proofs.Tryz.func92 ag rfl) hcmp hH rl (by rw[yt];omega);rw[yt]at J;refine J.mono ?_;rintro e w' ⟨rfl,C,os,rfl⟩;have pf:=Eo (l:=l);have il:(Dk l).length=l.length:=by rw[pf.1.length_eq,zy]
  have im:∀k,k<l.length->(Dk l).getD k 0<l.length:=fun k T=>by
   rw[zf,zg ae,zw];exact List.mem_range.1<|pf.1.mem_iff.1<|yq _
  have ig:∀k,k<l.length->(pdq (ltOf<|Yn l) (zx l.length) 0 l.length (qd l.length) true true)[k]! =(Dk l).getD k 0:=fun k T=>by
   have:k<(pdq (ltOf<|Yn l) (zx l.length) 0 l.length (qd l.length) true true).size:=by
    rw[<-yy];show k<(Dk l).length;omega
   unfold Dk;rw[zf,ym,getElem!_pos _ k this,yw this];rfl
  have ds:(pdq (ltOf<|Yn l) (zx l.length) 0 l.length (qd l.length) true true).size=l.length:=by
   rw[<-yy];exact il
  generalize hD:pdq (ltOf<|Yn l) (zx l.length) 0 l.length (qd l.length) true true=D at*;have U:Ext p h w p (h.put b<|.cells (G7 cs<|Dk l) t fz) (putRow id (yk w C) r 0<|flatK (F5 ca l.length) 6 D):=by
   have pl:(G7 cs<|Dk l).length=l.length*6:=by unfold G7;rw[yj,zy,il]
   refine Ext.put hr hg k1 (x':=.cells (putCells id 0 (flatK (F5 ca l.length) 6 D) ca) t fz') ?_ (Qr (w:=yk w C) j2) rfl rfl rfl ?_ (by show w.drawn<=w.drawn+C;omega)
   ·refine⟨_,fz',rfl,by simp[putCells,s1],by rw[pl];omega,⟨?_,?_⟩,s4⟩
    ·have:(putCells id 0 (flatK (F5 ca l.length) 6 D) ca).toList.length=m:=by simp[putCells,s1]
     rw[ye,pl,this];omega
    ·intro i d v a g K;have V:i<l.length*6:=by
      have:=(yv.1 a).1;rw[pl]at this;exact this
     have i4:i/6<l.length:=ae
     have hix:(Dk l).getD (i/6) 0*6+i % 6<cs.length:=by
      have:=im (i/6) i4;omega
     have a:d=cs.getD ((Dk l).getD (i/6) 0*6+i % 6) .nils:=by
      unfold G7 at a;rw[qy,List.getElem?_range<|by rw[il];exact V]at a;exact(Option.some.inj a).symm
     rw[zk (by rw[pl];exact V),ym,Df]at g;have hic:i<ca.size:=ae
     rw[yw hic]at g;simp only[Option.map_some,Option.some.injEq]at g;rw[wd ⟨qx _,by rw[Go.Sort.size_flatK,ds];omega⟩,Nat.sub_zero,flat D i (by rw[ds];exact V),ig _ i4]at g;have e5:ix l.length ((Dk l).getD (i/6) 0)=(Dk l).getD (i/6) 0:=by
      unfold ix;rw[wd<|im _ i4]
     rw[e5]at g;obtain⟨A,c1⟩:=R _ hix;rw[zf,zg A,zw]at g;rw[<-g,a];rw[a]at K;exact c1 K
   ·intro cs2 t2 fz2 he T;cases he;unfold Lk at T;omega
  refine⟨_,p,rfl,by simp[Ac],U.trans<|Mr U.rel ⟨rfl,rfl,rfl,?_,fun j A=>?_⟩<|yn _⟩
  ·show _<=((putRow _ _ _ _ _).heap++os).size;rw[Array.size_append];exact Nat.le_add_right ..
  ·show((putRow _ _ _ _ _).heap++os)[j]?=_;exact yo A
end
end Go.Pe
namespace Go.Sp
def CQ(l:List Am):List Am:=(Go.Pe.Dk l).map<|Go.Pe.Qi l
def sZ(l:List Am):Bool:=decide (l.length<=1000000)
end Go.Sp
namespace Go.Pe
open Sp
open Go.Det
section
open Go.Sp (Am)
def fnB:Option Fn->Bool
 |some (.func g)=>qc g 92
 |_=>false
def PE:KW:=⟨[.fnv],25,Az,fun i l=>fnB i&&sZ l,fun _ l=>CQ l,true⟩
theorem C2(l:List Am):(CQ l).length=l.length:=by
 unfold CQ;rw[yj,(Eo (l:=l)).1.length_eq,zy]
theorem ZW(l:List Am):(CQ l).Perm l:=by
 have p:=(Eo (l:=l)).1.map<|Qi l;have e:(List.range l.length).map (Qi l)=l:=by
  refine je (by rw[yj,zy]) fun i c a=>?_
  rw[qk,List.getElem_range];unfold Qi ix;rw[wd a,zf,zg a,zw]
 rw[e]at p;exact p
theorem nF(l:List Am):(CQ l).Pairwise fun a b=>¬De b a:=by
 have e:=(Eo (l:=l)).2;have s:=C2 l;rw[List.pairwise_iff_getElem];intro i j d f c;have g:∀k (m:k<(CQ l).length),(CQ l)[k]=Qi l ((Dk l).getD k 0):=fun k m=>by
  simp only[CQ,qk];have il:(Dk l).length=l.length:=by rw[(Eo (l:=l)).1.length_eq,zy]
  rw[zf,zg ae];rfl
 have q:=e i j c ae;rw[<-g i d, <-g j f]at q;exact fun x=>q<|Ug.2 x
theorem Sx{F:Fz}:∀(s:Sh) (x y:s.T) (cs:List V),s.il=true->DC F s x cs->DC F s y cs->x=y
 | .int k,x,y,cs,_,f,d=>by
  have f:cs=[.int k x]:=f;have d:cs=[.int k y]:=d;rw[f]at d;cases d;rfl
 | .pair a c,x,y,cs,g,f,d=>by
  simp only[Sh.il,zd]at g;simp only[DC]at f d;obtain⟨u,z,rfl,i,j⟩:=f;obtain⟨u',z',e,f1,f2⟩:=d;obtain⟨rfl,rfl⟩:=List.append_inj e (by rw[i.len,f1.len]);exact Prod.ext (Sx a x.1 y.1 u g.1 i f1)<|Sx c x.2 y.2 z g.2 j f2
 | .str,x,y,cs,_,f,d=>by
  have f:cs=[.str x]:=f;have d:cs=[.str y]:=d;rw[f]at d;cases d;rfl
theorem kT{F:Fz}{a b:List Am}{cs:List V}(h:C9 F Az a cs)(k:C9 F Az b cs):a=b:=by
 have l:a.length=b.length:=by
  have:=h.1.symm.trans k.1;have e:Az.sz=6:=rfl;rw[e]at this;omega
 exact je l fun i c i2=>Sx Az _ _ _ rfl (h.2 i c) (k.2 i i2)
theorem ZX:Fi A9 147 PE where
 prim:=by kernel_rfl
 fn:=Bn ag
 len:=fun i (l:List Am) h=>C2 l
 run:=by
  intro F h args (i:Option Fn) (l:List Am) b cs fz o hF hlt hgh hargs a B hd hfz hFb ho;have a:(fnB i&&sZ l)=true:=a;rw[zd]at a;obtain⟨f,D⟩:=a;obtain rfl:i=some (.func 92):=by
   unfold fnB at f;split at f
   ·next g=>rw[zu f]
   ·cases f
  have J:args=[.fn (.func 92) [] []]:=by
   have:=hargs (fun _=>none) 0;simp only[Ae,PE,BC]at this;obtain⟨v,vs,rfl,q,rfl⟩:=this;have q:v=.fn (.func 92) [] []:=by simpa [PR,BL,DC]using q
   rw[q]
  subst J;have q:l.length<=1000000:=w6 D;by_cases R:l=[]
  ·subst R;refine⟨(.tup [],h),1,fun m K=>?_,rfl,yn _,fun c _ _=>rfl,hlt,F,fun _ _ h=>h,fun _ _ h=>.inl h,hF,cs,fz,B,?_,hfz⟩
   ·obtain⟨u,rfl⟩:∃u,m=u+1:=⟨m-1,by omega⟩;have C:A9.spec 147=some Ix:=rfl;rw[AZ];simp only[C];rfl
   ·have:CQ []=[]:=jf.1<|C2 [];show C9 F Az (CQ []) cs;rw[this];exact hd
  have n0:=List.length_pos_iff.2 R;have E:∀c A,F c=some A->F0 h b c=some A:=fun c A s=>by
   obtain⟨t,z,e⟩:=hF c A s;unfold F0;cases U:qc c b with
   |true=>rw[zu U,hFb]at s;cases s
   |false=>simp only[wg,e]
  have S:cs.length=l.length*6:=hd.1;have G:fJ h b l.length cs fz l:=⟨rfl,n0,q,⟨hd.1,fun i f=>(hd.2 i f).mono E⟩,hfz,hgh⟩;have M:=Eo (l:=l);have il:(Dk l).length=l.length:=by rw[M.1.length_eq,zy]
  have im:∀k,k<l.length->(Dk l).getD k 0<l.length:=fun k X=>by
   rw[zf,zg ae,zw];exact List.mem_range.1<|M.1.mem_iff.1<|yq _
  have B:h.get b=some (.cells cs 25 fz):=B;have run:Ix [.sl b 0 l.length l.length o,.fn (.func 92) [] []] h=some (.tup [],h.put b<|.cells (G7 cs<|Dk l) 25 fz):=by
   unfold Ix;simp only[B];rw[wc ae];have N:∃l',fJ h b l.length cs fz l':=⟨l,G⟩;rw[dif_pos N,kT N.choose_spec.d G.d]
  have pl:(G7 cs<|Dk l).length=l.length*6:=by unfold G7;rw[yj,zy,il]
  have nd:C9 F Az (CQ l) (G7 cs<|Dk l):=by
   refine⟨by rw[pl,C2 l];rfl,fun i f=>?_⟩;have f:i<l.length:=by rw[<-C2 l];exact f
   have k:=im i f;have T:(CQ l)[i]=l[(Dk l).getD i 0]:=by
    have e:(Dk l)[i]'ae=(Dk l).getD i 0:=by rw[zf,zg ae];rfl
    simp only[CQ,qk];rw[e];unfold Qi ix;rw[wd k,zf,zg k,zw]
   have V:((G7 cs<|Dk l).drop<|i*6).take 6=(cs.drop<|(Dk l).getD i 0*6).take 6:=by
    refine List.ext_getElem? fun j=>?_
    by_cases L:j<6
    ·rw[zk L,zk L,yg,yg];unfold G7;rw[qy,List.getElem?_range (by rw[il];omega),Option.map_some,show(i*6+j)/6=i by omega,show(i*6+j) % 6=j by omega,zf (l:=cs),zg ae];rfl
    ·rw[yc (by rw[ye];omega),yc<|by rw[ye];omega]
   show DC F Az (CQ l)[i]<|((G7 cs<|Dk l).drop<|i*6).take 6;rw[T,V];exact hd.2 _ k
  refine⟨(.tup [],h.put b<|.cells (G7 cs<|Dk l) 25 fz),1,fun m K=>?_,rfl,yn _,fun c _ s=>?_,fun c y I=>?_,F,fun _ _ h=>h,fun _ _ h=>.inl h,fun c A s=>?_,_,fz,?_,nd,hfz⟩
  ·obtain⟨u,rfl⟩:∃u,m=u+1:=⟨m-1,by omega⟩;have C:A9.spec 147=some Ix:=rfl;rw[AZ];simp only[C];show(match Ix [.sl b 0 l.length l.length o,.fn (.func 92) [] []] h with|some x=>some [x]|none=>none)=_;rw[run]
  ·rw[H.BT,wc s]
  ·rw[H.BT]at I;rw[H.yX];split at I
   ·next e=>rw[e];exact hlt _ _ B
   ·exact hlt _ _ I
  ·rw[H.BT];by_cases e:c=b
   ·subst e;rw[hFb]at s;cases s
   ·rw[wc e];exact hF c A s
  ·rw[H.BT,wd rfl];rfl
 nils:=by
  intro F h args (i:Option Fn) hF hlt hgh hargs a;have a:(fnB i&&sZ [])=true:=a;rw[zd]at a;obtain⟨f,_⟩:=a;obtain rfl:i=some (.func 92):=by
   unfold fnB at f;split at f
   ·next g=>rw[zu f]
   ·cases f
  have J:args=[.fn (.func 92) [] []]:=by
   have:=hargs (fun _=>none) 0;simp only[Ae,PE,BC]at this;obtain⟨v,vs,rfl,q,rfl⟩:=this;have q:v=.fn (.func 92) [] []:=by simpa [PR,BL,DC]using q
   rw[q]
  subst J;refine⟨(.tup [],h),1,fun m K=>?_,rfl,yn _,fun c _=>rfl,hlt,F,fun _ _ h=>h,fun _ _ h=>.inl h,hF⟩;obtain⟨u,rfl⟩:∃u,m=u+1:=⟨m-1,by omega⟩;have C:A9.spec 147=some Ix:=rfl;rw[AZ];simp only[C];rfl
end
end Go.Pe
namespace Go.Sp
def val(b:Int):List Int->Int
 |[]=>0
 |d::r=>d+b*val b r
def Aw(b:Int)(l:List Int):Prop:=∀d∈l,0<=d/\d<b
def nz(l:List Int):Prop:=l.getLast?≠some 0
def WC(b:Nat):Nat->Nat->List Int
 |0,_=>[]
 |f+1,n=>if n=0 then[]else((n % b:Nat):Int)::WC b f (n/b)
def dg(b:Nat)(n:Int):List Int:=WC b n.toNat n.toNat
def Ax:List Int->List Int
 |[]=>[]
 |d::r=>match Ax r with
  |[]=>if d=0 then[]else[d]
  |s=>d::s
theorem AD{b:Int}(a:0<=b):∀ {l:List Int},Aw b l->0<=val b l
 |[],_=>Int.le_refl _
 |d::r,h=>by
  have f:=(h d<|by simp).1;have c:=AD a (l:=r) fun x e=>h x (by simp[e])
  have:=qf a c;unfold val;omega
theorem CP(b:Int):∀(l r:List Int),val b (l++r)=val b l+b^l.length*val b r
 |[],r=>by simp[val]
 |d::l,r=>by
  rw[ql,val,CP b l r,val,List.length_cons,yh,yd,q9, <-qn,jh b<|b^l.length]
theorem Mt(b:Int):∀n,val b (zj n 0)=0
 |0=>rfl
 |n+1=>by rw[List.replicate_succ,val,Mt b n];simp
theorem Br{b:Int}(a:0<b):∀ {l:List Int},Aw b l->val b l<b^l.length
 |[],_=>by simp[val]
 |d::r,h=>by
  have e:=(h d<|by simp).2;have f:=Br a (l:=r) fun x c=>h x (by simp[c])
  have g:b*val b r<=b*(b^r.length-1):=zm ae ae;rw[val,List.length_cons,yh,jh (b^r.length) b];grind
theorem Jc(b:Int):∀l,val b (Ax l)=val b l
 |[]=>rfl
 |d::r=>by
  have a:=Jc b r;grind [Ax,val]
theorem Hl{b:Int}:∀ {l:List Int},Aw b l->Aw b (Ax l)
 |[],h=>h
 |d::r,h=>by
  have c:=Hl (l:=r) fun x a=>h x (by simp[a])
  have e:=h d (by simp);unfold Ax;split
  ·split
   ·grind
   ·intro x a;grind
  ·intro x a;rcases List.mem_cons.1 a with rfl|a
   ·exact e
   ·exact c x a
theorem Lm:∀l:List Int,nz<|Ax l
 |[]=>by simp[nz,Ax]
 |d::r=>by
  have a:=Lm r;grind [Ax,nz]
theorem IU:∀ {l:List Int},nz l->Ax l=l
 |[],_=>rfl
 |d::r,h=>by
  unfold Ax;cases r with
  |nil=>
   grind [nz,Ax]
  |cons a t=>
   have:nz (a::t):=by grind [nz]
   rw[IU this]
theorem I8{b:Int}(c:0<b):∀ {l:List Int},Aw b l->nz l->l≠[]->0<val b l
 |[],_,_,h=>wh rfl h
 |d::r,h,i,_=>by
  have g:=(h d<|by simp).1;have f:Aw b r:=fun x e=>h x (by simp[e])
  unfold val;cases r with
  |nil=>
   grind [nz,val]
  |cons a t=>
   have:=I8 c f (by grind [nz]) (by simp);have:=Int.mul_pos c this;omega
theorem val_inj{b:Int}(d:0<b):∀ {l r:List Int},Aw b l->Aw b r->nz l->nz r->val b l=val b r->l=r
 |[],[],_,_,_,_,_=>rfl
 |[],x::r,_,c,_,f,h=>by have:=I8 d c f (by simp);grind [val]
 |x::l,[],a,_,n1,_,h=>by have:=I8 d a n1 (by simp);grind [val]
 |x::l,y::r,a,c,n1,f,h=>by
  have a1:=a x (by simp);have a2:=c y (by simp);unfold val at h;have j:x=y:=by
   have g:(x+b*val b l) % b=(y+b*val b r) % b:=by rw[h]
   rw[qu,qu,Int.emod_eq_of_lt a1.1 a1.2,Int.emod_eq_of_lt a2.1 a2.2]at g;exact g
  subst j;have i:val b l=val b r:=by
   grind [Int.eq_of_mul_eq_mul_left]
  have t1:∀ {x:Int} {l:List Int},nz (x::l)->nz l:=by
   grind [nz]
  rw[val_inj d (fun z e=>a z<|by simp[e]) (fun z e=>c z<|by simp[e]) (t1 n1) (t1 f) i]
theorem SM(b:Nat)(a:2<=b):∀f n,n<=f->val b (WC b f n)=n
 |0,n,h=>by simp[WC,val];omega
 |f+1,n,h=>by
  unfold WC;split
  ·rename_i h0;subst h0;rfl
  ·have c:n/b<=f:=by
    have:n/b<n:=Nat.div_lt_self ae a;omega
   rw[val,SM b a f (n/b) c];have:=Nat.mod_add_div n b;omega
theorem Th(b:Nat)(c:2<=b):∀f n,Aw b<|WC b f n
 |0,n=>by intro x a;cases a
 |f+1,n=>by
  unfold WC;split
  ·intro x a;cases a
  ·intro x a;rcases List.mem_cons.1 a with rfl|a
   ·have:=Nat.mod_lt n (show 0<b by omega);omega
   ·exact Th b c f (n/b) x a
theorem cQ(b:Nat)(d:2<=b):∀f n,n<=f->nz (WC b f n)
 |0,n,_=>by simp[WC,nz]
 |f+1,n,h=>by
  unfold WC;split
  ·simp[nz]
  ·have e:n/b<=f:=by
    have:n/b<n:=Nat.div_lt_self ae d;omega
   have i:=cQ b d f (n/b) e;cases g:WC b f (n/b)with
   |nil=>
    have c:=SM b d f (n/b) e;rw[g]at c;have c:n/b=0:=by
     have:((n/b:Nat):Int)=0:=by rw[<-c];rfl
     omega
    have j:n % b=n:=Nat.mod_eq_of_lt ((Nat.div_eq_zero_iff_lt ae).1 c);simp[nz];omega
   |cons a t=>grind [nz]
theorem CU{b:Nat}(a:2<=b){n:Int}(c:0<=n):val b (dg b n)=n:=by
 unfold dg;rw[SM b a _ _ ae];omega
theorem HQ{b:Nat}(a:2<=b)(n:Int):Aw b (dg b n):=Th b a _ _
theorem Yc{b:Nat}(a:2<=b)(n:Int):nz (dg b n):=cQ b a _ _ ae
theorem Iw{b:Nat}(a:2<=b){l:List Int}(c:Aw b l)(d:nz l):l=dg b (val b l):=
 val_inj ae c (HQ a _) d (Yc a _) (by grind [CU,AD])
theorem Yp{b:Nat}(c:2<=b){l:List Int}(a:Aw b l):Ax l=dg b (val b l):=by
 rw[<-Jc];grind [Iw,Hl,Lm]
theorem jH{b:Nat}(a:2<=b){n:Int}(c:0<=n):dg b n=[]↔n=0:=by
 constructor
 ·grind [CU,val]
 ·rintro rfl;rfl
theorem Ie:∀l:List Int,Ax (l++[0])=Ax l
 |[]=>rfl
 |d::r=>by
  rw[ql];unfold Ax;rw[Ie r]
theorem Xk{l:List Int}{d:Int}(h:d≠0):nz (l++[d]):=by
 grind [nz]
theorem pO{x:Int}{l:List Int}(a:nz (x::l)):nz l:=by
 grind [nz]
theorem C6{b:Int}(c:0<b):∀ {l:List Int},Aw b l->nz l->l≠[]->b^(l.length-1)<=val b l
 |[],_,_,h=>wh rfl h
 |[d],h,a,_=>by
  have:=I8 c h a (by simp);simp at this ⊢;omega
 |d::e::r,h,a,_=>by
  have j:=(h d<|by simp).1;have f:=C6 c (l:=e::r) (fun x i=>h x<|by simp[i]) (pO a) (by simp);have g:(d::e::r).length-1=((e::r).length-1)+1:=by simp
  rw[g,yh,jh];have:=zm f (show 0<=b by omega);unfold val;omega
theorem Be{b:Int}(a:0<b):∀n:Nat,0<b^n
 |0=>by simp
 |n+1=>by rw[yh];exact Int.mul_pos (Be a n) a
theorem AN{b:Int}(a:1<=b){m n:Nat}(h:m<=n):b^m<=b^n:=by
 obtain⟨k,rfl⟩:=Nat.exists_eq_add_of_le h;induction k with
 |zero=>simp
 |succ k d=>
  rw[show m+(k+1)=(m+k)+1 from rfl,yh];have c:=Be (show 0<b by omega)<|m+k;have:=zm a (show 0<=b^(m+k)by omega);omega
theorem En{b:Int}(e:2<=b){l r:List Int}(a:Aw b l)(c:Aw b r)(d:nz r)(h:l.length<r.length):val b l<val b r:=by
 have a1:=Br ae a;have a2:=C6 ae c d ah;have:=AN (show 1<=b by omega) (show l.length<=r.length-1 by omega);omega
theorem AL{b:Int}{l:List Int}(h:Aw b l)(i:Nat):Aw b (l.take i):=fun d a=>h d ah
theorem Em{b:Int}{l:List Int}(h:Aw b l)(i:Nat):Aw b (l.drop i):=fun d a=>h d ah
theorem Co(b:Int)(l:List Int)(i:Nat)(h:i<=l.length):val b l=val b (l.take i)+b^i*val b (l.drop i):=by
 grind [qj,CP]
theorem Jt{b:Int}(g:2<=b){l r:List Int}{x y:Int}{s:List Int}{i:Nat}(f:Aw b l)(c:Aw b r)(e:l.drop i=x::s)(a:r.drop i=y::s)(h:x<y):val b l<val b r:=by
 have d:i<=l.length:=by
  grind [qg]
 have i2:i<=r.length:=by
  grind [qg]
 have a1:=Br ae<|AL f i;have a2:=AD ae<|AL c i;rw[Co b l i d,Co b r i i2,e,a,show val b (x::s)=x+b*val b s from rfl,show val b (y::s)=y+b*val b s from rfl];have k:=Be (show 0<b by omega) i;have j:b^i*(x+1)<=b^i*y:=zm ae ae;grind
theorem SP(b:Nat)(a:2<=b):∀(k f n:Nat),n<b^k->(WC b f n).length<=k
 |k,0,n,_=>by simp[WC]
 |0,f+1,n,h=>by
  grind [WC]
 |k+1,f+1,n,h=>by
  unfold WC;split
  ·simp
  ·have:n/b<b^k:=by
    simp_all [Nat.pow_succ,Nat.div_lt_of_lt_mul,Nat.mul_comm]
   have:=SP b a k f (n/b) this;grind
end Go.Sp
namespace Go.Pe
open Go.Det
theorem GN[Srt]{f:FuncId}{s t:List Sh}{g:(Bv s).T->(Bv t).T}{nd:Bool}(a:A9.prim f=none)(c:∃i,A9.fn f=some i):Af A9 f ⟨s,fun _=>false,t,g,nd⟩:=
 .of0 ⟨a,c,fun F h args i _ _ _ _ d=>by cases d⟩
theorem EC{α:Type}(A B:List α)(x d:α){n:Nat}(h:A.length=n):(A++x::B).getD n d=x:=by
 subst h;simp[List.getD]
theorem Da{α:Type}(A B:List α)(x y:α){n:Nat}(h:A.length=n):(A++x::B).set n y=A++y::B:=by
 subst h;simp
end Go.Pe
namespace Go.Sp
open Go.Pe (EO imax)
theorem fL(a b:Int):EO a b=min a b:=by unfold EO;split<;>omega
abbrev Ao:Nat:=18446744073709551616
abbrev AH:=Int×List Int
def CO(l:List Int):Bool:=decide (l.length<=20000)&&l.all fun d=>decide (0<=d)&&decide (d<18446744073709551616)
def hW(l:List Int):Bool:=CO l&&decide (l.length<=9000)
def vO(l:List Int):Bool:=decide (l.getLast?≠some 0)
def B3(l:List Int):Bool:=CO l&&vO l
def Aq(l:List Int):Int:=val Ao l
def BD(n:Int):List Int:=dg Ao n
def u64(n:Int):Bool:=decide (0<=n)&&decide (n<18446744073709551616)
def Ca(n:Int):Bool:=decide (-9223372036854775808<=n)&&decide (n<9223372036854775808)
def Ag(n:Int):Int:=if n<0 then -n else n
theorem Ah(n:Int):Ag n=(n.natAbs:Int):=by unfold Ag;split<;>omega
def vI(a:AH):Int:=if a.2=[]then a.1 else if a.1<0 then -Aq a.2 else Aq a.2
def Dx(a:AH):Bool:=Ca a.1&&(decide (a.2=[])||(B3 a.2&&(decide (a.1=1)||decide (a.1= -1))&&decide (9223372036854775808<=Aq a.2)))
def CJ(n:Int):AH:=if -9223372036854775808<n/\n<9223372036854775808 then(n,[])else(if n<0 then -1 else 1,BD<|Ag n)
def CF(n:Int):Int:=(CJ n).1
def CD(n:Int):List Int:=(CJ n).2
def sg(neg:Bool)(v:Int):Int:=if neg=true then -v else v
def H2(x y c:Int):Int:=(x+y+c) % 18446744073709551616
def Pv(x y c:Int):Int:=(x+y+c)/18446744073709551616
def Tf(x y c:Int):Int:=(x-y-c) % 18446744073709551616
def P9(x y c:Int):Int:=if x<y+c then 1 else 0
def H9(x y:Int):Int:=(x*y) % 18446744073709551616
def Qo(x y:Int):Int:=(x*y)/18446744073709551616
def B6(a b:Int):Int:=if a<b then -1 else if a>b then 1 else 0
def Ul(n:Int):Int:=if n<0 then -1 else if n>0 then 1 else 0
def Ee(a b:AH):AH:=if a.2=[]/\b.2=[]/\Ca (a.1+b.1)=true then(a.1+b.1,[])else CJ<|vI a+vI b
def CY(a:AH):AH:=if a.2=[]/\a.1≠ -9223372036854775808 then(-a.1,[])else CJ<| -vI a
def UL(a:AH):AH:=if a.1<0 then CY a else a
def Nb(a b:AH):AH:=Ee a<|CY b
def EV(a b:AH):AH:=CJ<|vI a*vI b
def Eh(a:AH):Int:=(CY a).1
def Ej(a:AH):List Int:=(CY a).2
def OE(a:AH):Int:=(UL a).1
def Ph(a:AH):List Int:=(UL a).2
def JW(a b:AH):Int:=(Ee a b).1
def JU(a b:AH):List Int:=(Ee a b).2
def XM(a b:AH):Int:=(Nb a b).1
def X3(a b:AH):List Int:=(Nb a b).2
def EH(a b:AH):Int:=(EV a b).1
def ET(a b:AH):List Int:=(EV a b).2
end Go.Sp
namespace Go.Pe
open Sp
open Go.Det
abbrev AY:Sh:=.pair (.int .i64)<|.nlist<|.int .u64
abbrev u64:Sh:=.int .u64
abbrev CZ:Sh:=.list<|.int .u64
abbrev wU:Sh:=.nlist<|.int .u64
def Vo:Ap:=⟨[u64,u64,u64],fun i=>Sp.u64 i.1&&Sp.u64 i.2.1&&decide (0<=(i.2.2:Int))&&decide ((i.2.2:Int)<=1),[u64,u64],fun i=>(H2 i.1 i.2.1 i.2.2,Pv i.1 i.2.1 i.2.2),false⟩
def WX:Ap:=⟨[u64,u64,u64],fun i=>Sp.u64 i.1&&Sp.u64 i.2.1&&decide (0<=(i.2.2:Int))&&decide ((i.2.2:Int)<=1),[u64,u64],fun i=>(Tf i.1 i.2.1 i.2.2,P9 i.1 i.2.1 i.2.2),false⟩
def Sf:Ap:=⟨[u64,u64],fun i=>Sp.u64 i.1&&Sp.u64 i.2,[u64,u64],fun i=>(Qo i.1 i.2,H9 i.1 i.2),false⟩
def V2:Ap:=⟨[i64],fun n=>Ca n,[u64],fun n=>Ag n,false⟩
def Sd:Ap:=⟨[AY],fun a=>Dx a,[.bool,CZ],fun a=>(decide (Sp.vI a<0),BD<|Ag<|Sp.vI a),false⟩
def lM:Ap:=⟨[.bool,CZ],fun i=>B3 i.2,[AY],fun i=>(CF<|Sp.sg i.1<|Aq i.2,CD<|Sp.sg i.1<|Aq i.2),false⟩
def VD:Ap:=⟨[CZ],fun l=>CO l,[CZ],fun l=>Ax l,false⟩
def XZ:Ap:=⟨[CZ,CZ],fun i=>B3 i.1&&B3 i.2,[i64],fun i=>B6 (Aq i.1)<|Aq i.2,false⟩
def eE:Ap:=⟨[CZ,CZ],fun i=>Sp.hW i.1&&Sp.hW i.2,[CZ],fun i=>BD<|Aq i.1+Aq i.2,false⟩
def kA:Ap:=⟨[CZ,CZ],fun i=>CO i.1&&CO i.2&&decide (Aq i.2<=Aq i.1),[CZ],fun i=>BD<|Aq i.1-Aq i.2,false⟩
def jI:Ap:=⟨[CZ,CZ],fun i=>Sp.hW i.1&&Sp.hW i.2,[CZ],fun i=>BD<|Aq i.1*Aq i.2,false⟩
def eI[Srt]:AR:=X7 []
def Lc[Srt]:AR:=X7 [(202,V2),(255,Vo),(256,WX),(227,VD),(201,Sf)]
def XI2[Srt]:AR:=X7 [(157,Sd),(203,lM),(205,eE),(207,kA),(206,XZ),(204,jI),(201,Sf),(202,V2)]
theorem QE{F:Fz}{x y c:Int}{args:List V}(h:J1 F (Ae [Pe.u64,Pe.u64,Pe.u64] (x,y,c)) args):args=[.int .u64 x,.int .u64 y,.int .u64 c]:=by
 have:=h (fun _=>none) 0;simp only[Ae,BL,BC]at this;obtain⟨a,i,rfl,e,b,j,rfl,f,d,k,rfl,g,rfl⟩:=this;simp only[PR,DC,ji,ve]at e f g;rw[e,f,g]
theorem A3{n:Int}(h:Sp.u64 n=true):0<=n/\n<18446744073709551616:=by
 unfold Sp.u64 at h;rw[zd,w5,w5]at h;exact h
namespace T255
theorem ok[Srt]:Af A9 255 Vo:=by
 refine .inr ⟨PK.add64.run,by kernel_rfl,fun F h args i l e=>?_⟩;obtain⟨x,y,c⟩:=i;have e:(Sp.u64 x&&Sp.u64 y&&decide (0<=c)&&decide (c<=1))=true:=e;rw[zd,zd,zd,w5,w5]at e;obtain⟨⟨⟨g,f⟩,c0⟩,j⟩:=e;have g:=A3 g;have f:=A3 f;have:=QE l;subst this;obtain⟨a,rfl⟩:=zp g.1;obtain⟨b,rfl⟩:=zp f.1;obtain⟨d,rfl⟩:=zp c0;have j:(d:Int)<=1:=j;have k:Nat.ble d 1=true:=Nat.ble_eq_true_of_le ae;refine⟨.tup [.int .u64<|.ofNat<|(a+b+d) % lJ,.int .u64<|.ofNat<|(a+b+d)/lJ],?_,fun ρ N=>?_⟩
 ·show(bif Nat.ble d 1 then _ else _)=_;rw[k];rfl
 ·show PR F ρ N (.tup [.dat Pe.u64<|H2 a b d,.dat Pe.u64<|Pv a b d]) _;simp only[PR,BC];refine⟨_,rfl,_,_,rfl,?_,_,_,rfl,?_,rfl⟩<;>simp[DC,lJ,H2,Pv]
end T255
namespace T256
theorem ok[Srt]:Af A9 256 WX:=by
 refine .inr ⟨PK.sub64.run,by kernel_rfl,fun F h args i q g=>?_⟩;obtain⟨x,y,c⟩:=i;have g:(Sp.u64 x&&Sp.u64 y&&decide (0<=c)&&decide (c<=1))=true:=g;rw[zd,zd,zd,w5,w5]at g;obtain⟨⟨⟨j,k⟩,c0⟩,l⟩:=g;have j:=A3 j;have k:=A3 k;have:=QE q;subst this;obtain⟨a,rfl⟩:=zp j.1;obtain⟨b,rfl⟩:=zp k.1;obtain⟨d,rfl⟩:=zp c0;have l:(d:Int)<=1:=l;have m:Nat.ble d 1=true:=Nat.ble_eq_true_of_le ae;refine⟨.tup [.int .u64<|.ofNat<|(a+lJ-b-d) % lJ,.int .u64<|.ofNat<|bif Nat.blt a (b+d)then 1 else 0],?_,fun ρ N=>?_⟩
 ·show(bif Nat.ble d 1 then _ else _)=_;rw[m];rfl
 ·show PR F ρ N (.tup [.dat Pe.u64<|Tf a b d,.dat Pe.u64<|P9 a b d]) _;simp only[PR,BC];refine⟨_,rfl,_,_,rfl,?_,_,_,rfl,?_,rfl⟩
  ·simp only[DC,lJ,Tf,ji,V.int.injEq,ve,true_and];have e:(((a+18446744073709551616-b-d) % 18446744073709551616:Nat):Int)=((a:Int)-b-d) % 18446744073709551616:=ae
   exact e
  ·simp only[DC,P9,ji,V.int.injEq,ve,true_and];rw[Gf];by_cases f:a<b+d
   ·rw[wd ae];simp[f]
   ·rw[wc ae];simp[f]
end T256
end Go.Pe
namespace Go.Sp
theorem AF(b:Int):∀(l:List Int) (i:Nat),val b (l.take<|i+1)=val b (l.take i)+b^i*l.getD i 0
 |[],i=>by simp[val]
 |x::l,0=>by
  show x+b*val b (l.take 0)=0+b^0*x;simp[val]
 |x::l,i+1=>by
  have:=AF b l i;show x+b*val b (l.take<|i+1)=x+b*val b (l.take i)+b^(i+1)*l.getD i 0;rw[this,yd,yh,jh (b^i) b,qn,q9]
theorem IW{l:List Int}(h:CO l=true):l.length<=20000/\Aw Ao l:=by
 unfold CO at h;rw[zd,w5,yf]at h;exact⟨h.1,fun d a=>by
  have:=h.2 d a;rw[zd,w5,w5]at this;exact this⟩
theorem Eb{l:List Int}(a:l.length<=20000)(c:Aw Ao l):CO l=true:=by
 unfold CO;rw[zd,w5,yf];exact⟨a,fun d e=>by
  have:=c d e;rw[zd,w5,w5];exact this⟩
theorem YE{l:List Int}(h:hW l=true):l.length<=9000/\Aw Ao l:=by
 unfold hW at h;rw[zd,w5]at h;exact⟨h.2,(IW h.1).2⟩
theorem AU{l:List Int}(h:Aw Ao l)(i:Nat):u64 (l.getD i 0)=true:=by
 unfold u64;rw[zd,w5,w5];rcases Nat.lt_or_ge i l.length with a|a
 ·have:l.getD i 0∈l:=by rw[zf,zg a];exact yq a
  exact h _ this
 ·rw[zf,yc a];exact⟨by decide,by decide⟩
theorem A3{n:Int}(h:u64 n=true):0<=n/\n<18446744073709551616:=by
 unfold u64 at h;rw[zd,w5,w5]at h;exact h
theorem CA{n:Int}(a:0<=n)(c:n<18446744073709551616):u64 n=true:=by
 unfold u64;rw[zd,w5,w5];exact⟨a,c⟩
theorem DR{l:List Int}{x:Int}(h:Aw Ao l)(c:u64 x=true):Aw Ao (l++[x]):=by
 intro d a;rw[List.mem_append,qe]at a;rcases a with a|rfl
 ·exact h d a
 ·exact A3 c
theorem Kn{x y c:Int}(a:u64 x=true)(d:u64 y=true)(e:0<=c/\c<=1):u64 (H2 x y c)=true/\(0<=Pv x y c/\Pv x y c<=1)/\H2 x y c+18446744073709551616*Pv x y c=x+y+c:=by
 have:=A3 a;have:=A3 d;unfold H2 Pv;exact⟨CA ae ae,⟨by omega,by omega⟩,by omega⟩
theorem G2{x y c:Int}(a:u64 x=true)(d:u64 y=true)(e:0<=c/\c<=1):u64 (Tf x y c)=true/\(0<=P9 x y c/\P9 x y c<=1)/\Tf x y c-18446744073709551616*P9 x y c=x-y-c:=by
 have:=A3 a;have:=A3 d;unfold Tf P9;refine⟨CA ae ae,?_,?_⟩<;>split<;>omega
theorem EF(l:List Int)(x:Int):val Ao (l++[x])=val Ao l+(Ao:Int)^l.length*x:=by
 rw[CP];simp[val]
theorem Kt(i:Nat)(c:Int):(Ao:Int)^(i+1)*c=(Ao:Int)^i*(18446744073709551616*c):=by
 rw[yh,qn];rfl
theorem I5(p:List Int)(n i:Nat)(x:Int)(h:p.length=i)(a:i<n):(p++zj (n-i) (0:Int)).set i x=(p++[x])++zj (n-(i+1)) 0:=by
 have:n-i=(n-(i+1))+1:=ae
 rw[this,List.replicate_succ,Pe.Da p _ 0 x h,qz];rfl
theorem KT{l:List Int}(h:Aw Ao l):Ax l=BD (Aq l):=Yp af h
end Go.Sp
namespace Go.Pe
open Sp
open Go.Det
section
open List Int Prod
namespace T202
def T[Srt](n:Int):Tr:=tree eI false 9 202<|Ae ([zo yp]) n
theorem Ai[Srt](n:Int):T n=.di (n<0) (.leaf (.dat (zo ze)<|zc .u64<|zc .i64<|0-n) []) (.leaf (.dat (zo ze)<|zc .u64 n) []):=by kernel_rfl
end T202
namespace T157
def T[Srt](a:AH):Tr:=tree Lc false 9 157<|Ae ([AY]) a
theorem Ai[Srt](a:AH):T a=.di (0<length (snd a)) (.leaf (.tup [.dat Sh.bool<|decide (fst a<0),.dat wU<|snd a]) []) (.ite (fst a==0) (.leaf (.tup [.bl false,.nil]) [])<|.ck (Ca<|fst a)<|.leaf (.tup [.dat Sh.bool<|decide (fst a<0),.sl (Nat.add 0 1) 1 0 1 none])<|[(Nat.add 0 1,.arr false 206 (zo ze) [Ag<|fst a]),(0,.box [.dat i64<|fst a,.dat wU<|snd a])]):=by kernel_rfl
end T157
namespace T203
def T[Srt](neg:Bool)(w:List Int):Tr:=tree Lc false 9 203<|Ae ([Sh.bool,zr<|zo ze]) (neg,w)
theorem Ai[Srt](neg:Bool)(w:List Int):T neg w=let f:=decide (getD w 0 0<=9223372036854775807);let a:=(length w:Int);let e:=zr<|zo ze;let b':Tr:=.ite neg (.leaf (yz [.dat i64 (-1:Int),.dat e w]) [])<|.leaf (yz [.dat i64 (1:Int),.dat e w]) [];let c:=decide (0<a);let d:Tr:=.ite (a==1) (.ck c<|.ite f (.ck c<|.leaf (yz [.dat i64<|zc .i64<|getD w 0 0,.nil]) []) b') b';.ite (a==0) (.leaf (yz [.dat i64 (0:Int),.nil]) []) (.ite (a==1) (.ck c<|.ite f (.ite neg (.ck c<|.leaf (yz [.dat i64<|zc .i64<|0-zc .i64 (getD w 0 0),.nil]) []) d) d) d):=by kernel_rfl
end T203
namespace T227
def T[Srt](w:List Int):Tr:=tree eI false 9 227<|Ae ([zr<|zo ze]) w
def L1[Srt](v0:List Int)(v3:Int):Tr:=re ((T []))<|AB 21 [(0,.dat (zr<|zo ze) v0),(3,.dat i64 v3)] [] 0
theorem Ai[Srt](w:List Int):T w=L1 w ((length w:Int)):=by kernel_rfl
theorem Ar[Srt](v0:List Int)(v3:Int):stepT eI (L1 v0 v3)=let a:Tr:=.ck (decide (0<=v3)&&decide (0<=toNat v3)&&decide (toNat v3<=length v0))<|.leaf (.dat (zr<|zo ze)<|take (toNat v3) v0) [];let b':=zc .i64<|v3-1;.di (v3>0) (.ck (decide (0<=zc .i64 (v3-1))&&decide (zc .i64 (v3-1)<(length v0:Int)))<|.ite (getD v0 (toNat b') 0==0) (L1 v0 b') a) a:=by kernel_rfl
end T227
namespace T206
def T[Srt](a b:List Int):Tr:=tree eI false 9 206<|Ae ([zr<|zo ze,zr<|zo ze]) (a,b)
def L1[Srt](v0 v1:List Int)(v5:Int):Tr:=re ((T [] []).R)<|AB 41 [(0,.dat (zr<|zo ze) v0),(1,.dat (zr<|zo ze) v1),(5,.dat i64 v5)] [] 0
theorem Ai[Srt](a b:List Int):T a b=let c:=(length a:Int);.ite (c !=(length b:Int)) (.di (c<(length b:Int)) (.leaf (.dat i64 (-1:Int)) [])<|.leaf (.dat i64 (1:Int)) []) (L1 a b<|zc .i64<|c-1):=by kernel_rfl
theorem Ar[Srt](v0 v1:List Int)(v5:Int):stepT eI (L1 v0 v1 v5)=let a:=decide (0<=v5)&&decide (v5<(length v0:Int));let b':=decide (0<=v5)&&decide (v5<(length v1:Int));.di (v5>=0) (.ck a<|.ck b'<|.ite (getD v0 (toNat v5) 0 !=getD v1 (toNat v5) 0) (.ck a<|.ck b'<|.di (getD v0 (toNat v5) 0<getD v1 (toNat v5) 0) (.leaf (.dat i64 (-1:Int)) [])<|.leaf (.dat i64 (1:Int)) [])<|L1 v0 v1<|zc .i64<|v5-1) (.leaf (.dat i64 (0:Int)) []):=by kernel_rfl
end T206
namespace T205
def T[Srt](x y:List Int):Tr:=tree Lc false 9 205<|Ae ([zr<|zo ze,zr<|zo ze]) (x,y)
def L1[Srt](v0 v1:List Int)(a:Nat)(e c d:Int)(f:List Int):Tr:=re ((T [] []).L.L)<|AB 54 [(0,.dat (zr<|zo ze) v0),(1,.dat (zr<|zo ze) v1),(5,.sl 0 1 0 a none),(6,.dat (zo ze) e),(21,.dat i64 c),(22,.dat i64 d)] [(0,.arr false 206 (zo ze) f)] 1
theorem Ai[Srt](x y:List Int):T x y=let a:=(length x:Int);let b':=(length y:Int);let d:=zc .i64<|b'+1;let c:=zc .i64<|a+1;.di (a<b') (.ck (decide (0<=zc .i64 (b'+1))&&decide (zc .i64 (b'+1)=zc .i64 (b'+1))&&decide (8*toNat d<=281474976710656)&&decide (zc .i64 (b'+1)<9223372036854775808))<|L1 y x (toNat d) 0 b' 0<|replicate (toNat d) 0) (.ck (decide (0<=zc .i64 (a+1))&&decide (zc .i64 (a+1)=zc .i64 (a+1))&&decide (8*toNat c<=281474976710656)&&decide (zc .i64 (a+1)<9223372036854775808))<|L1 x y (toNat c) 0 a 0<|replicate (toNat c) 0):=by kernel_rfl
theorem Ar[Srt](v0 v1:List Int)(c:Nat)(e d a:Int)(g:List Int):stepT Lc (L1 v0 v1 c e d a g)=let f:=getD v0 (toNat a) 0;let b':=(length v0:Int);let j:=getD v1 (toNat a) 0;let s:=decide (0<=a)&&decide (a<(↑c:Int));let m:=decide ((0:Sh.T (Bv [u64]))<=e);let l:=decide (e<=(1:Sh.T (Bv [u64])));let q:=decide (toNat a<length g);let k:=decide (a<(length v1:Int));let t:=zc .i64<|a+1;let i:=set g (toNat b') e;let h':=decide (0<=a)&&decide (a<b');.di (a<d) (.ite k (.ck (decide (0<=a)&&k)<|.ck h'<|.ck (Sp.u64 f&&Sp.u64 j&&m&&l)<|.ck s<|.ck q<|L1 v0 v1 c (Pv f j e) d t<|set g (toNat a)<|H2 f j e)<|.ck h'<|.ck (Sp.u64 f&&Sp.u64 0&&m&&l)<|.ck s<|.ck q<|L1 v0 v1 c (Pv f 0 e) d t<|set g (toNat a)<|H2 f 0 e) (.ck (decide (0<=b')&&decide (b'<(↑c:Int)))<|.cd (toNat b'<length g)<|.ck (decide (0+c<=length i)&&true&&CO (take c i))<|.leaf (.dat (zr<|zo ze)<|Ax<|take c i) []):=by kernel_rfl
end T205
namespace T207
def T[Srt](x y:List Int):Tr:=tree Lc false 9 207<|Ae ([zr<|zo ze,zr<|zo ze]) (x,y)
def L1[Srt](v0 v1:List Int)(a:Nat)(e c d:Int)(f:List Int):Tr:=re ((T [] []).L)<|AB 41 [(0,.dat (zr<|zo ze) v0),(1,.dat (zr<|zo ze) v1),(5,.sl 0 1 0 a none),(6,.dat (zo ze) e),(13,.dat i64 c),(14,.dat i64 d)] [(0,.arr false 206 (zo ze) f)] 1
theorem Ai[Srt](x y:List Int):T x y=let a:=(length x:Int);.ck (decide (0<=a)&&decide (a=a)&&decide (8*toNat a<=281474976710656)&&decide (a<9223372036854775808)) (L1 x y (toNat a) 0 a 0<|replicate (toNat a) 0):=by kernel_rfl
theorem Ar[Srt](v0 v1:List Int)(c:Nat)(e d a:Int)(f:List Int):stepT Lc (L1 v0 v1 c e d a f)=let g:=getD v0 (toNat a) 0;let b':=decide (0<=a)&&decide (a<(length v0:Int));let i:=getD v1 (toNat a) 0;let l:=decide (0<=a)&&decide (a<(↑c:Int));let m:=decide ((0:Sh.T (Bv [u64]))<=e);let j:=decide (e<=(1:Sh.T (Bv [u64])));let q:=decide (toNat a<length f);let h':=decide (a<(length v1:Int));let k:=zc .i64<|a+1;.di (a<d) (.ite h' (.ck (decide (0<=a)&&h')<|.ck b'<|.ck (Sp.u64 g&&Sp.u64 i&&m&&j)<|.ck l<|.ck q<|L1 v0 v1 c (P9 g i e) d k<|set f (toNat a)<|Tf g i e)<|.ck b'<|.ck (Sp.u64 g&&Sp.u64 0&&m&&j)<|.ck l<|.ck q<|L1 v0 v1 c (P9 g 0 e) d k<|set f (toNat a)<|Tf g 0 e) (.ck (decide (0+c<=length f)&&true&&CO (take c f))<|.leaf (.dat (zr<|zo ze)<|Ax<|take c f) []):=by kernel_rfl
end T207
namespace T201
def T[Srt](x y:Int):Tr:=tree eI false 9 201<|Ae ([zo ze,zo ze]) (x,y)
theorem Ai[Srt](x y:Int):T x y=let a:=zc .u64<|zc .u64 (z6 x (2^32)*HR ze y 4294967295)+z6 (zc .u64<|HR ze x 4294967295*HR ze y 4294967295) (2^32);.ck true (.ck true<|.ck true<|.ck true<|.ck true<|.leaf (.tup [.dat (zo ze)<|zc .u64<|zc .u64 (zc .u64 (z6 x (2^32)*z6 y (2^32))+z6 a (2^32))+z6 (zc .u64<|HR ze a 4294967295+zc .u64 (HR ze x 4294967295*z6 y (2^32))) (2^32),.dat (zo ze)<|zc .u64<|x*y]) []):=by kernel_rfl
end T201
namespace T204
def T[Srt](x y:List Int):Tr:=tree Lc false 9 204<|Ae ([zr<|zo ze,zr<|zo ze]) (x,y)
def L1[Srt](v1:List Int)(a:Nat)(v20:List Int)(c d:Int)(e:List Int):Tr:=re ((T [] []).L)<|AB 80 [(1,.dat (zr<|zo ze) v1),(5,.sl 0 1 0 a none),(20,.dat (zr<|zo ze) v20),(21,.dat i64 c),(22,.dat i64 d)] [(0,.arr false 206 (zo ze) e)] 1
theorem Ai[Srt](x y:List Int):T x y=let a:=(length x:Int)+(length y:Int);let b':=zc .i64 a;.ck (decide (0<=zc .i64 a)&&decide (zc .i64 a=zc .i64 a)&&decide (8*toNat b'<=281474976710656)&&decide (zc .i64 a<9223372036854775808)) (L1 y (toNat b') x ((length x:Int)) 0<|replicate (toNat b') 0):=by kernel_rfl
def L2[Srt](v1:List Int)(c:Nat)(k j i:Int)(v20:List Int)(e g:Int)(d:List Int)(a f:Int)(l:List Int):Tr:=re ((stepT Lc<|L1 [] 0 [] 0 0 []).L.L)<|AB 80 [(1,.dat (zr<|zo ze) v1),(5,.sl 0 1 0 c none),(6,.dat i64 k),(7,.dat (zo ze) j),(8,.dat (zo ze) i),(20,.dat (zr<|zo ze) v20),(21,.dat i64 e),(22,.dat i64 g),(27,.dat (zr<|zo ze) d),(28,.dat i64 a),(29,.dat i64 f)] [(0,.arr false 206 (zo ze) l)] 1
theorem Ar[Srt](v1:List Int)(c:Nat)(v20:List Int)(d a:Int)(e:List Int):stepT Lc (L1 v1 c v20 d a e)=.di (a<d) (.ck (decide (0<=a)&&decide (a<(length v20:Int)))<|L2 v1 c a (getD v20 (toNat a) 0) 0 v20 d a v1 ((length v1:Int)) 0 e) (.ck (decide (0+c<=length e)&&true&&CO (take c e))<|.leaf (.dat (zr<|zo ze)<|Ax<|take c e) []):=by kernel_rfl
theorem AO[Srt](v1:List Int)(c:Nat)(i l k:Int)(v20:List Int)(f e:Int)(d:List Int)(g a:Int)(j:List Int):stepT Lc (L2 v1 c i l k v20 f e d g a j)=let b':=zc .i64<|i+a;let u:=getD d (toNat a) 0;let x:=decide (0<=zc .i64 (i+a))&&decide (zc .i64 (i+a)<(↑c:Int));let m:=i+(length v1:Int);let v:=decide ((0:Sh.T (Bv [u64]))<=0);let h':=decide (0<=(1:Sh.T (Bv [u64])));let s:=getD j (toNat b') 0;let y:=decide (toNat b'<length j);let q:=H9 l u;let t:=H2 q s 0;.di (a<g) (.ck (decide (0<=a)&&decide (a<(length d:Int)))<|.ck (Sp.u64 l&&Sp.u64 u)<|.ck x<|.ck y<|.ck (Sp.u64 q&&Sp.u64 s&&v&&h')<|.ck (Sp.u64 t&&Sp.u64 k&&v&&h')<|.ck x<|.ck y<|L2 v1 c i l (zc .u64<|zc .u64 (Qo l u+Pv q s 0)+Pv t k 0) v20 f e d g (zc .i64<|a+1)<|set j (toNat b')<|H2 t k 0) (.ck (decide (0<=zc .i64 m)&&decide (zc .i64 m<(↑c:Int)))<|.cd (toNat (zc .i64 m)<length j)<|L1 v1 c v20 f (zc .i64<|e+1)<|set j (toNat<|zc .i64 m) k):=by kernel_rfl
end T204
end
theorem Ju[Srt]:Dn eI:=fun g sp h=>by cases h
theorem wu(x:Int)(a:0<=x)(c:x<=18446744073709551615):zc .u64 x=x:=IntWalk.u64_in x ⟨a,c⟩
theorem EA{n:Int}(h:Ca n=true): -9223372036854775808<=n/\n<9223372036854775808:=by
 unfold Ca at h;rw[zd,w5,w5]at h;exact h
namespace T202
theorem ok[Srt]:Af A9 202 V2:=by
 refine BM Ju<|fun(n:Int) a=>?_;have a:=EA (n:=n) a;refine yi (Ai n)<|zl (fun c=>?_)<|fun c=>?_
 ·have c:=w6 c;refine zi<|zz rfl rfl ?_;show zc .u64 (zc .i64<|0-n)=Ag n;simp only[Ah];rcases zt (-9223372036854775808) n with h|h
  ·rw[wr _ ae ae,wu _ ae ae];omega
  ·have:n= -9223372036854775808:=ae
   subst this;decide+kernel
 ·have c:=w7 c;refine zi<|zz rfl rfl ?_;show zc .u64 n=Ag n;simp only[Ah];rw[wu _ ae ae];omega
end T202
namespace T227
theorem As[Srt]{Q:PV->Ob->Prop}(w:List Int)(f:w.length<=20000)(d:∀ob,Q (.dat CZ<|Ax w) ob):∀(i:Nat),i<=w.length->Ax w=Ax (w.take i)->Ends eI (L1 w i) Q
 |0,g,a=>by
  have a:Ax w=[]:=a;rw[a]at d;refine qh (Ar ..) (qo (by simp)<|zh (by simp)<|zi<|d _)
 |i+1,g,a=>by
  have j:zc .i64 (((i+1:Nat):Int)-1)=(i:Int):=by rw[wr _ ae ae];omega
  have e:w.take (i+1)=w.take i++[w.getD i 0]:=by
   rw[List.take_add_one];congr 1;rw[zf,zg ae];rfl
  refine qh (Ar ..) (zh (by simp<;>omega) ?_);rw[j,zn];refine zh (by simp<;>omega)<|zl (fun c=>?_)<|fun c=>?_
  ·have c:w.getD i 0=0:=by simpa using c
   refine As w f d i ae ?_;rw[a,e,c,Ie]
  ·have c:w.getD i 0≠0:=by simpa using c
   refine zh (by simp;omega)<|zi ?_;have:Ax w=w.take (i+1):=by rw[a,e,IU<|Xk c]
   rw[this]at d;exact d _
theorem ok[Srt]:Af A9 227 VD:=by
 refine BM Ju<|fun(w:List Int) hw=>?_;obtain⟨a,c⟩:=IW (l:=w) hw;refine yi (Ai w) (As w a (fun ob=>zz rfl rfl rfl) w.length (yn _) (by rw[yu]))
end T227
theorem EM{l:List Int}(h:B3 l=true):l.length<=20000/\Aw Ao l/\Sp.nz l:=by
 unfold B3 at h;rw[zd]at h;have:=IW h.1;exact⟨this.1,this.2,by
  have:=h.2;unfold vO at this;have:l.getLast?≠some 0:=w6 this;exact this⟩
namespace T206
theorem As[Srt]{Q:PV->Ob->Prop}(a b:List Int)(j:Aw Ao a)(k:Aw Ao b)(q:a.length=b.length)(s:b.length<=20000)(f:∀ob,Q (.dat i64<|B6 (Aq a)<|Aq b) ob):∀(i:Nat),i<=a.length->a.drop i=b.drop i->Ends eI (L1 a b<|(i:Int)-1) Q
 |0,t,g=>by
  have g:a=b:=g;have:B6 (Aq a) (Aq b)=0:=by rw[g];unfold B6;simp
  rw[this]at f;exact qh (Ar ..) (qo (by simp)<|zi<|f _)
 |i+1,t,g=>by
  have m:(((i+1:Nat):Int)-1)=(i:Int):=ae
  have l:a.drop i=a.getD i 0::a.drop (i+1):=by
   rw[zf,zg ae];exact yx ae
  have db:b.drop i=b.getD i 0::a.drop (i+1):=by
   rw[g,zf,zg ae];exact yx ae
  have u:=Sp.A3<|AU j i;have v:=Sp.A3<|AU k i;rw[m];refine qh (Ar ..) (zh (by simp) ?_);rw[zn];refine zh (by simp;omega) (zh (by simp;omega) (zl (fun c=>zh (by simp;omega)<|zh (by simp;omega)<|zl (fun d=>?_)<|fun d=>?_)<|fun c=>?_))
  ·have d:=w6 d;have:=Jt (b:=Ao) af j k l db d;have e:B6 (Aq a) (Aq b)= -1:=by unfold B6;exact wd this
   rw[e]at f;exact zi<|f _
  ·have d:=w7 d;have c:a.getD i 0≠b.getD i 0:=by simpa using c
   have:=Jt (b:=Ao) af k j db l ae;have e:B6 (Aq a) (Aq b)=1:=by
    unfold B6 Aq;rw[wc ae,wd ae]
   rw[e]at f;exact zi<|f _
  ·have c:a.getD i 0=b.getD i 0:=by simpa using c
   rw[wr ((i:Int)-1) ae ae];exact As a b j k q s f i ae (by rw[l,db,c])
theorem ok[Srt]:Af A9 206 XZ:=by
 refine BM Ju<|fun(i:List Int×List Int) g=>?_;obtain⟨a,b⟩:=i;have g:(B3 a&&B3 b)=true:=g;rw[zd]at g;obtain⟨a1,a2,a3⟩:=EM g.1;obtain⟨b1,b2,b3⟩:=EM g.2;have f:∀ob,Ad XZ (a,b) (.dat i64<|B6 (Aq a)<|Aq b) ob:=fun ob=>zz rfl rfl rfl
 refine yi (Ai a b)<|zl (fun c=>zl (fun d=>?_)<|fun d=>?_)<|fun c=>?_
 ·have d:=w6 d;have e:B6 (Aq a) (Aq b)= -1:=by unfold B6;exact wd (En af a2 b2 b3 ae)
  rw[e]at f;exact zi<|f _
 ·have d:=w7 d;have c:(a.length:Int)≠b.length:=by simpa using c
  have:=En (b:=Ao) af b2 a2 a3 ae;have e:B6 (Aq a) (Aq b)=1:=by
   unfold B6 Aq;rw[wc ae,wd ae]
  rw[e]at f;exact zi<|f _
 ·have c:(a.length:Int)=b.length:=by simpa using c
  rw[wr _ ae ae];exact As a b a2 b2 ae b1 f a.length (yn _) (by rw[List.drop_length,show a.length=b.length by omega,List.drop_length])
end T206
theorem DK{a:AH}(h:Dx a=true):(-9223372036854775808<=a.1/\a.1<9223372036854775808)/\(a.2=[]\/(B3 a.2=true/\(a.1=1\/a.1= -1)/\9223372036854775808<=Aq a.2)):=by
 unfold Dx at h;rw[zd,jj,zd,zd,jj,w5,w5,w5,w5]at h;exact⟨EA h.1,h.2.imp id fun h=>⟨h.1.1,h.1.2,h.2⟩⟩
theorem val_one(d:Int):Sp.val Ao [d]=d:=by simp[Sp.val]
theorem yC{d:Int}(e:0<d)(c:d<18446744073709551616):[d]=BD d:=by
 have:=Iw (b:=Ao) (l:=[d]) af (fun x a=>by rw[qe]at a;subst a;exact⟨by omega,c⟩) (by unfold Sp.nz;simp;omega);rw[val_one]at this;exact this
theorem E5{s:Int}:Sp.vI (s,[])=s:=by unfold Sp.vI;exact wd rfl
namespace T157
theorem ok[Srt](f:∀g sp,Lc.sp g=some sp->Af A9 g sp):Af A9 157 Sd:=by
 refine Lq (X:=Lc) rfl f (d:=9) ag ag ag (fun(a:Int×List Int) ha=>?_) (Bn ag);obtain⟨k,j⟩:=DK (a:=a) ha;obtain⟨s,w⟩:=a;have k: -9223372036854775808<=s/\s<9223372036854775808:=k;refine yi (Ai (s,w))<|zl (fun c=>?_)<|fun c=>zl (fun d=>?_)<|fun d=>zh ?_ ?_
 ·have c:0<w.length:=w6 c;have e:w≠[]:=by rintro rfl;simp at c
  rcases j with j|⟨t,i,m⟩
  ·exact wh j e
  ·obtain⟨n1,l,q⟩:=EM t;have i:s=1\/s= -1:=i;have m:9223372036854775808<=Aq w:=m;have ev:Sp.vI (s,w)=if s<0 then -Aq w else Aq w:=by unfold Sp.vI;exact wc e
   have x:Ag (Sp.vI (s,w))=Aq w:=by rw[ev];simp only[Ah];split<;>omega
   have v:decide (Sp.vI (s,w)<0)=decide (s<0):=by
    rw[ev];rcases i with rfl|rfl<;>simp<;>omega
   refine zi<|zz rfl rfl ?_;show(decide (s<0),w)=(decide (Sp.vI (s,w)<0),BD<|Ag<|Sp.vI (s,w));rw[x,v,show w=BD (Aq w)from Iw af l q];congr 2;exact(CU (b:=Ao) af<|AD (b:=Ao) af l).symm
 all_goals
  have c:¬0<w.length:=w7 c;have u:w=[]:=jf.1 ae;subst u
 ·have d:s=0:=by simpa using d
  subst d;exact zi<|zz rfl rfl rfl
 ·show Ca s=true;unfold Ca;rw[zd,w5,w5];exact k
 ·have d:s≠0:=by simpa using d
  refine zi<|zz rfl rfl ?_;show(decide (s<0),[Ag s])=(decide (Sp.vI (s,[])<0),BD<|Ag<|Sp.vI (s,[]));rw[E5,yC (d:=Ag s) (by simp only[Ah];omega)<|by simp only[Ah];omega]
end T157
theorem B7{n:Int}(h: -9223372036854775808<n/\n<9223372036854775808):CJ n=(n,[]):=wd h
theorem RI{w:List Int}(neg:Bool)(a:Aw Ao w)(c:Sp.nz w)(d:9223372036854775808<=Aq w):CJ (if neg=true then -Aq w else Aq w)=(if neg=true then -1 else 1,w):=by
 have e:BD (Aq w)=w:=(Iw af a c).symm;cases neg with
 |true=>
  simp only[wm];unfold CJ;rw[wc ae,wd ae];rw[show Ag (-Aq w)=Aq w by simp only[Ah];omega,e]
 |false=>
  show CJ (Aq w)=(1,w);unfold CJ;rw[wc ae,wc ae];rw[show Ag (Aq w)=Aq w by simp only[Ah];omega,e]
namespace T203
theorem ok[Srt](f:∀g sp,Lc.sp g=some sp->Af A9 g sp):Af A9 203 lM:=by
 refine Lq (X:=Lc) rfl f (d:=9) ag ag ag (fun(i:Bool×List Int) hi=>?_) (Bn ag);obtain⟨neg,w⟩:=i;obtain⟨n1,n2,n3⟩:=EM (l:=w) hi;refine yi (Ai neg w) ?_;conv=>zeta
 cases w with
 |nil=>
  refine zh rfl (zi<|zz rfl rfl ?_);show _=CJ (if neg=true then -0 else 0);rw[show(if neg=true then(-0:Int)else 0)=0 by split<;>rfl,B7 ae]
 |cons d t=>
  cases t with
  |nil=>
   have k:=n2 d (by simp);have y:d≠0:=by intro h;subst h;exact n3 rfl
   have u:0<=d:=k.1;have x:d<18446744073709551616:=k.2;have ev:Aq [d]=d:=val_one d;refine qo rfl (zh rfl (zh rfl (zl (fun c=>?_)<|fun c=>?_)))
   ·have c:d<=9223372036854775807:=w6 c;have j:zc .i64 d=d:=wr _ ae ae;have v:zc .i64 (0-d)= -d:=by rw[wr _ ae ae];omega
    refine zl (fun n=>zh rfl (zi<|zz rfl rfl ?_))<|fun n=>zh rfl (zh rfl (zh (w4 c)<|zh rfl (zi<|zz rfl rfl ?_)))
    ·show(zc .i64<|0-zc .i64 d,[])=CJ (if neg=true then -Aq [d]else Aq [d]);rw[j,v,wd n,ev,B7 ae]
    ·show(zc .i64 d,[])=CJ (if neg=true then -Aq [d]else Aq [d]);subst n;rw[j,wc af,ev,B7 ae]
   ·have z:¬d<=9223372036854775807:=w7 c;have a:=RI neg n2 n3 (by rw[ev];omega);refine zh rfl (zh rfl (qo c<|zl (fun n=>zi<|zz rfl rfl ?_)<|fun n=>zi<|zz rfl rfl ?_))
    ·show(-1,[d])=CJ (if neg=true then -Aq [d]else Aq [d]);rw[a,wd n]
    ·show(1,[d])=CJ (if neg=true then -Aq [d]else Aq [d]);rw[a,n];rfl
  |cons e t=>
   have s:9223372036854775808<=Aq (d::e::t):=by
    have h:=C6 (b:=Ao) af n2 n3 (by simp);have m:=AN (b:=Ao) af (show 1<=(d::e::t).length-1 by simp);rw[Int.pow_one]at m;have:(9223372036854775808:Int)<=(Ao:Int):=af
    exact Int.le_trans this<|Int.le_trans m h
   have a:=RI neg n2 n3 s;have z0:(((d::e::t).length:Int)==0)=false:=by simp;omega
   have q:(((d::e::t).length:Int)==1)=false:=by simp;omega
   refine qo z0<|qo q<|qo q<|zl (fun n=>zi<|zz rfl rfl ?_)<|fun n=>zi<|zz rfl rfl ?_
   ·show(-1,d::e::t)=CJ (if neg=true then -Aq (d::e::t)else Aq (d::e::t));rw[a,wd n]
   ·show(1,d::e::t)=CJ (if neg=true then -Aq (d::e::t)else Aq (d::e::t));rw[a,n];rfl
end T203
namespace T205
theorem As[Srt](x y:List Int)(u:Aw Ao x)(B:Aw Ao y)(v:y.length<=x.length)(E:x.length<=9000)(s:∀ob,Q (.dat CZ<|BD<|Aq x+Aq y) ob):∀(k i:Nat) (p:List Int) (c:Int),i+k=x.length->p.length=i->Aw Ao p->(0<=c/\c<=1)->Sp.val Ao p+(Ao:Int)^i*c=Sp.val Ao (x.take i)+Sp.val Ao (y.take i)->
  Ends Lc (L1 x y (x.length+1) c x.length i<|p++zj (x.length+1-i) 0) Q
 |0,i,p,c,m,f,g,a,q=>by
  have m:i=x.length:=ae
  subst m;have F:x.length+1-x.length=1:=ae
  have es:(p++zj (x.length+1-x.length) (0:Int)).set x.length c=p++[c]:=by
   rw[F];exact Pe.Da p [] 0 c f
  have G:(p++[c]).take (x.length+1)=p++[c]:=zq (by simp;omega);have e:Aw Ao (p++[c]):=DR g (CA a.1 ae);have C:Aq (p++[c])=Aq x+Aq y:=by
   unfold Aq;rw[EF,f,q,yu,zq v]
  refine qh (Ar ..) (qo (by simp) ?_);rw[zn,es,G];refine zh (by simp<;>omega) (zh (by simp;omega)<|zh ?_<|zi ?_)
  ·rw[Eb (by simp;omega) e];simp;omega
  ·rw[KT e,C];exact s _
 |k+1,i,p,c,m,f,g,a,q=>by
  have j:=AU u i;have A:=AU B i;have t:(p++zj (x.length+1-i) (0:Int)).length=x.length+1:=by simp;omega
  have step:∀z,Sp.u64 z=true->z=y.getD i 0->Ends Lc (L1 x y (x.length+1) (Pv (x.getD i 0) z c) x.length (zc .i64<|(i:Int)+1)<|(p++zj (x.length+1-i) 0).set i<|H2 (x.getD i 0) z c) Q:=by
   intro z l D;obtain⟨a1,a2,a3⟩:=Kn j l a;rw[wr ((i:Int)+1) ae ae,I5 p (x.length+1) i _ f ae];refine As x y u B v E s k (i+1) (p++[H2 (x.getD i 0) z c]) _ ae (by simp;omega) (DR g a1) a2 ?_;rw[EF,f,Kt,AF _ x i,AF _ y i, <-D,q9, <-yd,a3,yd,yd];omega
  refine qh (Ar ..) (zh (by simp;omega) ?_);rw[zn];refine zl (fun d=>?_)<|fun d=>?_
  ·have d:=w6 d;refine zh (by simp;omega) (zh (by simp;omega)<|zh ?_<|zh (by simp;omega) (zh (w4<|by rw[t];omega)<|step _ A rfl));rw[j,A,z7,z7,zd];exact⟨w4 a.1,w4 a.2⟩
  ·have d:=w7 d;have l:y.getD i 0=0:=by rw[zf,yc ae];rfl
   refine zh (by simp;omega) (zh ?_ (zh (by simp;omega) (zh (w4<|by rw[t];omega)<|step _ rfl l.symm)));rw[j,show Sp.u64 0=true from rfl,z7,z7,zd];exact⟨w4 a.1,w4 a.2⟩
theorem start[Srt](x y:List Int)(f:Aw Ao x)(d:Aw Ao y)(a:y.length<=x.length)(e:x.length<=9000)(g:∀ob,Q (.dat CZ<|BD<|Aq x+Aq y) ob){t:Tr}:
  Ends Lc (.ite (decide ((0:Int)<=zc yp ((x.length:Int)+(1:Int)))&&decide (zc yp ((x.length:Int)+(1:Int))=zc yp ((x.length:Int)+(1:Int)))&&decide ((8:Nat)*Int.toNat (zc yp<|(x.length:Int)+(1:Int))<=(281474976710656:Nat))&&decide (zc yp ((x.length:Int)+(1:Int))<(9223372036854775808:Int)))
   (L1 x y (Int.toNat<|zc yp<|(x.length:Int)+(1:Int)) ((0:Int)) ((x.length:Int)) ((0:Int))<|zj (Int.toNat<|zc yp<|(x.length:Int)+(1:Int)) (0:Int)) t) Q:=by
 have c:zc .i64 ((x.length:Int)+1)=((x.length+1:Nat):Int):=by rw[wr _ ae ae];omega
 rw[c,zn];refine zh (by simp;omega) ?_;exact As x y f d a e g x.length 0 [] 0 ae rfl (fun _ h=>by cases h) ae (by simp[Sp.val])
theorem ok[Srt](a:∀g sp,Lc.sp g=some sp->Af A9 g sp):Af A9 205 eE:=by
 refine Lq (X:=Lc) rfl a (d:=9) ag ag ag (fun(i:List Int×List Int) e=>?_) (Bn ag);obtain⟨x,y⟩:=i;have e:(Sp.hW x&&Sp.hW y)=true:=e;rw[zd]at e;obtain⟨x1,x2⟩:=YE e.1;obtain⟨y1,y2⟩:=YE e.2;have f:∀ob,Ad eE (x,y) (.dat CZ<|BD<|Aq x+Aq y) ob:=fun ob=>zz rfl rfl rfl
 refine yi (Ai x y)<|zl (fun c=>?_)<|fun c=>?_
 ·have c:=w6 c;exact start y x y2 x2 ae y1 (by rw[Int.add_comm];exact f)
 ·have c:=w7 c;exact start x y x2 y2 ae x1 f
end T205
namespace T207
theorem bQ{b:Int}(c:0<b){l:List Int}{n:Nat}(h:Aw b l)(f:Sp.val b l<b^n):Sp.val b (l.take n)=Sp.val b l:=by
 rcases Nat.lt_or_ge n l.length with a|a
 ·have e:=Co b l n ae;have g:=AD ae<|AL h n;have i:=AD ae<|Em h n;rcases zt 0 (Sp.val b<|l.drop n)with d|d
  ·have:=zm (show 1<=Sp.val b (l.drop n)by omega)<|Int.le_of_lt<|Be c n;rw[Int.mul_one]at this;omega
  ·have:Sp.val b (l.drop n)=0:=ae
   rw[this,Int.mul_zero]at e;omega
 ·rw[zq a]
theorem As[Srt](x y:List Int)(l:Aw Ao x)(t:Aw Ao y)(A:Aq y<=Aq x)(E:x.length<=20000)(u:∀ob,Q (.dat CZ<|BD<|Aq x-Aq y) ob):∀(k i:Nat) (p:List Int) (c:Int),i+k=x.length->p.length=i->Aw Ao p->(0<=c/\c<=1)->Sp.val Ao p-(Ao:Int)^i*c=Sp.val Ao (x.take i)-Sp.val Ao (y.take i)->
  Ends Lc (L1 x y x.length c x.length i<|p++zj (x.length-i) 0) Q
 |0,i,p,c,s,j,g,f,a=>by
  have s:i=x.length:=ae
  subst s;have F:p++zj (x.length-x.length) (0:Int)=p:=by rw[Nat.sub_self];simp
  have I:p.take x.length=p:=zq ae;have J:Aq x<(Ao:Int)^x.length:=Br af l;have G:Aq p<(Ao:Int)^p.length:=Br af g;have C:Aq p=Aq x-Aq y:=by
   rw[yu,bQ af t<|show Sp.val Ao y<_ from yb A J]at a;have a:Aq p-(Ao:Int)^x.length*c=Aq x-Aq y:=a;rw[j]at G;rcases zt 0 c with h|h
   ·have:c=1:=ae
    subst this;rw[Int.mul_one]at a;omega
   ·have:c=0:=ae
    subst this;rw[Int.mul_zero]at a;omega
  rw[F];refine qh (Ar ..) (qo (by simp) ?_);rw[I];refine zh ?_<|zi ?_
  ·rw[Eb ae g];simp;omega
  ·rw[KT g,C];exact u _
 |k+1,i,p,c,s,j,g,f,a=>by
  have m:=AU l i;have B:=AU t i;have v:(p++zj (x.length-i) (0:Int)).length=x.length:=by simp;omega
  have step:∀z,Sp.u64 z=true->z=y.getD i 0->Ends Lc (L1 x y x.length (P9 (x.getD i 0) z c) x.length (zc .i64<|(i:Int)+1)<|(p++zj (x.length-i) 0).set i<|Tf (x.getD i 0) z c) Q:=by
   intro z q D;obtain⟨a1,a2,a3⟩:=Sp.G2 m q f;rw[wr ((i:Int)+1) ae ae,I5 p x.length i _ j ae];refine As x y l t A E u k (i+1) (p++[Tf (x.getD i 0) z c]) _ ae (by simp;omega) (DR g a1) a2 ?_;have e:(Ao:Int)^i*Tf (x.getD i 0) z c-(Ao:Int)^i*(18446744073709551616*P9 (x.getD i 0) z c)=(Ao:Int)^i*x.getD i 0-(Ao:Int)^i*z-(Ao:Int)^i*c:=by
    rw[<-jk,a3,jk,jk]
   rw[EF,j,Kt,AF _ x i,AF _ y i, <-D];omega
  refine qh (Ar ..) (zh (by simp;omega) ?_);rw[zn];refine zl (fun d=>?_)<|fun d=>?_
  ·have d:=w6 d;refine zh (by simp;omega) (zh (by simp;omega)<|zh ?_<|zh (by simp;omega) (zh (w4<|by rw[v];omega)<|step _ B rfl));rw[m,B,z7,z7,zd];exact⟨w4 f.1,w4 f.2⟩
  ·have d:=w7 d;have q:y.getD i 0=0:=by rw[zf,yc ae];rfl
   refine zh (by simp;omega) (zh ?_<|zh (by simp;omega) (zh (w4<|by rw[v];omega)<|step _ rfl q.symm));rw[m,show Sp.u64 0=true from rfl,z7,z7,zd];exact⟨w4 f.1,w4 f.2⟩
theorem ok[Srt](c:∀g sp,Lc.sp g=some sp->Af A9 g sp):Af A9 207 kA:=by
 refine Lq (X:=Lc) rfl c (d:=9) ag ag ag (fun(i:List Int×List Int) a=>?_) (Bn ag);obtain⟨x,y⟩:=i;have a:(CO x&&CO y&&decide (Aq y<=Aq x))=true:=a;rw[zd,zd,w5]at a;obtain⟨x1,x2⟩:=IW a.1.1;obtain⟨y1,y2⟩:=IW a.1.2;have e:∀ob,Ad kA (x,y) (.dat CZ<|BD<|Aq x-Aq y) ob:=fun ob=>zz rfl rfl rfl
 refine yi (Ai x y) ?_;conv=>zeta
 rw[zn];refine zh (by simp;omega) ?_;exact As x y x2 y2 a.2 x1 e x.length 0 [] 0 ae rfl (fun _ h=>by cases h) ae (by simp[Sp.val])
end T207
theorem KZ(n:Int):zc .u64 n=n % 18446744073709551616:=by simp[zc,IntKind.bits,IntKind.signed]
theorem Zl(n:Nat):z6 (n:Int) ((2:Int)^(32:Nat))=((n/4294967296:Nat):Int):=by
 rw[Int.fdiv_eq_ediv_of_nonneg _ af];rfl
theorem kF(n:Nat)(h:n<18446744073709551616):zc .u64 (n:Int)=n:=wu _ ae ae
theorem NS(n:Nat)(h:n<18446744073709551616):HR .u64 (n:Int) 4294967295=((n % 4294967296:Nat):Int):=by
 have e:(qi 64 (n:Int)&&&qi 64 4294967295).toNat=n % 4294967296:=by
  rw[BitVec.toNat_and];have a:(qi 64 (n:Int)).toNat=n:=by rw[BitVec.ofInt_natCast,BitVec.toNat_ofNat];exact Nat.mod_eq_of_lt h
  have c:(qi 64 4294967295).toNat=2^32-1:=af
  rw[a,c,Nat.and_two_pow_sub_one_eq_mod]
 show zc .u64 (((qi 64 (n:Int)&&&qi 64 4294967295).toNat:Nat):Int)=_;rw[e];exact kF _ ae
namespace T201
theorem ok[Srt]:Af A9 201 Sf:=by
 refine BM Ju<|fun(i:Int×Int) e=>?_;obtain⟨x,y⟩:=i;have e:(Sp.u64 x&&Sp.u64 y)=true:=e;rw[zd]at e;have g:=Sp.A3 e.1;have f:=Sp.A3 e.2;obtain⟨x,rfl⟩:=zp g.1;obtain⟨y,rfl⟩:=zp f.1;have g:x<18446744073709551616:=ae
 have f:y<18446744073709551616:=ae
 obtain⟨s,l,q,k⟩:=Go.Lib.mul64_hi x y g f;have u:=qv (a:=x/4294967296) (b:=y/4294967296) ae ae;have v:=qv (a:=x/4294967296) (b:=y % 4294967296) ae ae;have t:=qv (a:=x % 4294967296) (b:=y/4294967296) ae ae;refine yi (Ai (x:Int) (y:Int))<|zh rfl (zh rfl (zh rfl (zh rfl (zh rfl (zi<|zz rfl rfl ?_)))));refine Prod.ext ?_ ?_
 ·show zc ze (zc ze (zc ze (z6 (x:Int) ((2:Int)^(32:Nat))*z6 (y:Int) ((2:Int)^(32:Nat)))+z6 (zc ze<|zc ze (z6 (x:Int) ((2:Int)^(32:Nat))*HR ze (y:Int) (4294967295:Int))+z6 (zc ze<|HR ze (x:Int) (4294967295:Int)*HR ze (y:Int) (4294967295:Int)) ((2:Int)^(32:Nat))) ((2:Int)^(32:Nat)))+z6 (zc ze<|HR ze (zc ze<|zc ze (z6 (x:Int) ((2:Int)^(32:Nat))*HR ze (y:Int) (4294967295:Int))+z6 (zc ze<|HR ze (x:Int) (4294967295:Int)*HR ze (y:Int) (4294967295:Int)) ((2:Int)^(32:Nat))) (4294967295:Int)+zc ze (HR ze (x:Int) (4294967295:Int)*z6 (y:Int) ((2:Int)^(32:Nat)))) ((2:Int)^(32:Nat)))=Qo x y;have m:Qo x y=((x*y/18446744073709551616:Nat):Int):=by unfold Qo;omega
  rw[m, <-k];have j:x*y/18446744073709551616<18446744073709551616:=Nat.div_lt_of_lt_mul<|Nat.mul_lt_mul'' g f;rw[<-k]at j;simp only[Zl,NS x g,NS y f];simp only[<-Int.natCast_mul];generalize (x/4294967296)*(y/4294967296)=a at*;generalize (x/4294967296)*(y % 4294967296)=b at*;generalize (x % 4294967296)*(y/4294967296)=c at*;generalize (x % 4294967296)*(y % 4294967296)=d at*;rw[kF d ae,kF a ae,kF b ae,kF c ae,Zl, <-qt,kF _ l,Zl,NS _ l, <-qt, <-qt,kF _ q,Zl,kF (a+_) ae, <-qt,kF _ j]
 ·show zc .u64 ((x:Int)*y)=H9 x y;unfold H9;exact KZ _
end T201
theorem lF{x y o c:Int}(d:Sp.u64 x=true)(e:Sp.u64 y=true)(f:Sp.u64 o=true)(g:Sp.u64 c=true):
  Sp.u64 (H9 x y)=true/\Sp.u64 (H2 (H9 x y) o 0)=true/\Sp.u64 (H2 (H2 (H9 x y) o 0) c 0)=true/\
  zc .u64 (zc .u64 (Qo x y+Pv (H9 x y) o 0)+Pv (H2 (H9 x y) o 0) c 0)=(x*y+o+c)/18446744073709551616/\
  Sp.u64 ((x*y+o+c)/18446744073709551616)=true/\
  H2 (H2 (H9 x y) o 0) c 0+18446744073709551616*((x*y+o+c)/18446744073709551616)=x*y+o+c:=by
 have d:=Sp.A3 d;have e:=Sp.A3 e;have f:=Sp.A3 f;have g:=Sp.A3 g;have h0:0<=x*y:=qf d.1 e.1;have i:x*y<=18446744073709551615*18446744073709551615:=by
  have a:=zm (show y<=18446744073709551615 by omega) d.1;have b:=qm (show x<=18446744073709551615 by omega) (show(0:Int)<=18446744073709551615 by omega);omega
 unfold H9 Qo H2 Pv;generalize x*y=P at*;refine⟨CA ae ae,CA ae ae,CA ae ae,?_,CA ae ae,by omega⟩;rw[KZ,KZ];omega
namespace T204
theorem A1[Srt](x y:List Int)(n i:Nat)(Y:i<x.length)(U:n=x.length+y.length)(m:x.length<=9000)(t:y.length<=9000)(F:Aw Ao x)(C:Aw Ao y)(p:List Int)(X:p.length=i+y.length)(d:Aw Ao p)
  (E:∀q c,q.length=i+y.length->Aw Ao q->Sp.u64 c=true->Sp.val Ao q+(Ao:Int)^(i+y.length)*c=Sp.val Ao p+(Ao:Int)^i*(x.getD i 0*Sp.val Ao y)->Ends Lc (L1 y n x x.length ((i+1:Nat):Int)<|(q++[c])++zj (n-(i+y.length+1)) 0) Q):∀(k j:Nat) (q:List Int) (c:Int),j+k=y.length->q.length=i+j->Aw Ao q->Sp.u64 c=true->Sp.val Ao q+(Ao:Int)^(i+j)*c=Sp.val Ao (p.take<|i+j)+(Ao:Int)^i*(x.getD i 0*Sp.val Ao (y.take j))->
  Ends Lc (L2 y n i (x.getD i 0) c x x.length i y y.length j<|q++(p.drop (i+j)++zj (n-(i+y.length)) 0)) Q
 |0,j,q,c,g,a,l,e,D=>by
  have g:j=y.length:=ae
  subst g;have f:zc .i64 ((i:Int)+(y.length:Int))=((i+y.length:Nat):Int):=by rw[wr _ ae ae];omega
  have s:zc .i64 ((i:Int)+1)=((i+1:Nat):Int):=by rw[wr _ ae ae];omega
  have S:p.drop (i+y.length)=[]:=qg ae;refine qh (AO ..) (qo (by simp) ?_);rw[f,s,zn,S,List.nil_append,I5 q n _ c a ae];refine zh (by simp;omega) (zh (by simp;omega)<|E q c a l e ?_);rw[D,zq ae,yu]
 |k+1,j,q,c,g,a,l,e,D=>by
  have G:=AU F i;have B:=AU C j;have A:=AU d<|i+j;have u:p.drop (i+j)=p.getD (i+j) 0::p.drop (i+j+1):=by
   rw[zf,zg ae];exact yx ae
  have f:zc .i64 ((i:Int)+(j:Int))=((i+j:Nat):Int):=by rw[wr _ ae ae];omega
  have s:zc .i64 ((j:Int)+1)=((j+1:Nat):Int):=by rw[wr _ ae ae];omega
  have v:(q++(p.drop (i+j)++zj (n-(i+y.length)) (0:Int))).length=n:=by simp;omega
  have N:(q++(p.drop (i+j)++zj (n-(i+y.length)) (0:Int))).getD (i+j) 0=p.getD (i+j) 0:=by
   rw[u,ql];exact EC _ _ _ _ a
  have s1:∀z,(q++(p.drop (i+j)++zj (n-(i+y.length)) (0:Int))).set (i+j) z=(q++[z])++(p.drop (i+(j+1))++zj (n-(i+y.length)) 0):=by
   intro z;rw[u,ql,Da _ _ _ _ a,qz];rfl
  obtain⟨I,V,M,K,J,T⟩:=lF G B A e;refine qh (AO ..) (zh (by simp;omega) ?_);rw[f,s,zn,zn,N,s1,K];have t1:(decide ((0:Int)<=((i+j:Nat):Int))&&decide (((i+j:Nat):Int)<(n:Int)))=true:=by simp;omega
  refine zh (by simp;omega) (zh (by rw[G,B];rfl) (zh t1<|zh (w4<|by rw[v];omega)<|zh (by rw[I,A];rfl)<|zh (by rw[V,e];rfl)<|zh t1<|zh (w4<|by rw[v];omega) ?_));refine A1 x y n i Y U m t F C p X d E k (j+1) _ _ ae (by simp;omega) (DR l M) J ?_;have L:i+(j+1)=(i+j)+1:=ae
  have R:(Ao:Int)^i*(x.getD i 0*((Ao:Int)^j*y.getD j 0))=(Ao:Int)^(i+j)*(x.getD i 0*y.getD j 0):=by
   rw[Int.pow_add,qn,Int.mul_left_comm<|x.getD i 0]
  rw[L,EF,a,Kt,q9, <-yd,T,AF _ p<|i+j,AF _ y j,yd,yd,yd<|x.getD i 0,yd,R];omega
theorem As[Srt](x y:List Int)(n:Nat)(l:n=x.length+y.length)(e:x.length<=9000)(a:y.length<=9000)(v:Aw Ao x)(u:Aw Ao y)(s:∀ob,Q (.dat CZ<|BD<|Aq x*Aq y) ob):∀(k i:Nat) (p:List Int),i+k=x.length->p.length=i+y.length->Aw Ao p->Sp.val Ao p=Sp.val Ao (x.take i)*Sp.val Ao y->
  Ends Lc (L1 y n x x.length i<|p++zj (n-(i+y.length)) 0) Q
 |0,i,p,m,t,d,f=>by
  have m:i=x.length:=ae
  subst m;have A:p++zj (n-(x.length+y.length)) (0:Int)=p:=by rw[l,Nat.sub_self];simp
  have j:Aq p=Aq x*Aq y:=by
   rw[yu]at f;exact f
  rw[A];refine qh (Ar ..) (qo (by simp) ?_);rw[zq ae];refine zh ?_<|zi ?_
  ·rw[Eb ae d];simp;omega
  ·rw[KT d,j];exact s _
 |k+1,i,p,m,t,d,f=>by
  refine qh (Ar ..) (zh (by simp;omega) ?_);rw[zn];refine zh (by simp;omega) ?_;have h0:Sp.val Ao (p.take<|i+y.length)=Sp.val Ao p:=by rw[zq ae]
  have:=A1 (Q:=Q) x y n i ae l e a v u p t d (fun q c z g B j=>by
   have:=As x y n l e a v u s k (i+1) (q++[c]) ae (by simp;omega) (DR g B) (by
    rw[EF,z,j,f,AF,Int.add_mul,qn])
   rw[show i+1+y.length=i+y.length+1 by omega]at this;exact this) y.length 0 (p.take i) 0 ae (by simp;omega) (AL d i) rfl (by simp[Sp.val])
  rw[Nat.add_zero, <-qz,qj]at this;exact this
theorem ok[Srt](c:∀g sp,Lc.sp g=some sp->Af A9 g sp):Af A9 204 jI:=by
 refine Lq (X:=Lc) rfl c (d:=9) ag ag ag (fun(i:List Int×List Int) a=>?_) (Bn ag);obtain⟨x,y⟩:=i;have a:(Sp.hW x&&Sp.hW y)=true:=a;rw[zd]at a;obtain⟨x1,x2⟩:=YE a.1;obtain⟨y1,y2⟩:=YE a.2;have j:∀ob,Ad jI (x,y) (.dat CZ<|BD<|Aq x*Aq y) ob:=fun ob=>zz rfl rfl rfl
 have e:zc .i64 ((x.length:Int)+(y.length:Int))=((x.length+y.length:Nat):Int):=by rw[wr _ ae ae];omega
 refine yi (Ai x y) ?_;conv=>zeta
 rw[e,zn];refine zh (by simp;omega) ?_;have:=As x y (x.length+y.length) rfl x1 y1 x2 y2 j x.length 0 (zj y.length 0) ae (by simp) (fun d f=>by
  obtain⟨_,rfl⟩:=List.mem_replicate.1 f;exact⟨by decide,by decide⟩) (by rw[Mt];simp[Sp.val])
 rw[Nat.zero_add,List.replicate_append_replicate,show y.length+(x.length+y.length-y.length)=x.length+y.length by omega]at this;exact this
end T204
theorem Gg[Srt]:Dn Lc:=
 Aa T202.ok (Aa T255.ok<|Aa T256.ok<|Aa T227.ok<|Aa T201.ok AP)
theorem SX[Srt]:Dn XI2:=
 Aa (T157.ok Gg) (Aa (T203.ok Gg)<|Aa (T205.ok Gg)<|Aa (T207.ok Gg)<|Aa T206.ok<|Aa (T204.ok Gg)<|Aa T201.ok<|Aa T202.ok AP)
end Go.Pe
namespace Go.Sp
def Bd(a:AH):Bool:=Dx a&&decide (a.2.length<=9000)
def Zc(a b:AH):Int:=B6 (vI a)<|vI b
def ID(a:AH):Int:=Ul<|vI a
end Go.Sp
namespace Go.Pe
open Sp
open Go.Det
def UN:Ap:=⟨[AY],fun a=>Dx a,[AY],fun a=>(Eh a,Ej a),false⟩
def tL:Ap:=⟨[AY],fun a=>Dx a,[AY],fun a=>(OE a,Ph a),false⟩
def LJ:Ap:=⟨[AY],fun a=>Dx a,[i64],fun a=>ID a,false⟩
def Oy:Ap:=⟨[AY,AY],fun i=>Bd i.1&&Bd i.2,[AY],fun i=>(JW i.1 i.2,JU i.1 i.2),false⟩
def gQ:Ap:=⟨[AY,AY],fun i=>Bd i.1&&Bd i.2,[AY],fun i=>(XM i.1 i.2,X3 i.1 i.2),false⟩
def Qw:Ap:=⟨[AY,AY],fun i=>Bd i.1&&Bd i.2,[AY],fun i=>(EH i.1 i.2,ET i.1 i.2),false⟩
def cN:Ap:=⟨[AY,AY],fun i=>Bd i.1&&Bd i.2,[i64],fun i=>Zc i.1 i.2,false⟩
def XJ1[Srt]:AR:=X7 [(198,UN),(139,Oy)]
def XJ2[Srt]:AR:=X7 [(212,gQ),(199,LJ)]
section
open List Int Prod
namespace T198
def T[Srt](a:AH):Tr:=tree XI2 false 9 198<|Ae ([AY]) a
theorem Ai[Srt](a:AH):T a=let d:=BD<|Ag<|Sp.vI a;let b':=Sp.sg (!decide (Sp.vI a<0))<|Aq d;let c:Tr:=.ck (Dx a)<|.ck (B3 d)<|.leaf (yz [.dat i64<|CF b',.dat wU<|CD b']) [];.ite (!decide (0<length (snd a))) (.ite (fst a !=(-9223372036854775808)) (.leaf (yz [.dat i64<|zc .i64<|0-fst a,.nil]) []) c) c:=by kernel_rfl
end T198
namespace T139
def T[Srt](a b:AH):Tr:=tree XI2 false 9 139<|Ae ([AY,AY]) (a,b)
theorem Ai[Srt](a b:AH):T a b=let b':=BD<|Ag<|Sp.vI a;let c:=BD<|Ag<|Sp.vI b;let j:=BD<|Aq b'+Aq c;let h':=BD<|Aq b'-Aq c;let f:=BD<|Aq c-Aq b';let g:=Sp.sg (decide (Sp.vI a<0))<|Aq j;let i:=Sp.sg (decide (Sp.vI a<0))<|Aq h';let e:=Sp.sg (decide (Sp.vI b<0))<|Aq f;let d:Tr:=.ck (Dx a)<|.ck (Dx b)<|.ite (decide (Sp.vI a<0)==decide (Sp.vI b<0)) (.ck (Sp.hW b'&&Sp.hW c)<|.ck (B3 j)<|.leaf (yz [.dat i64<|CF g,.dat wU<|CD g]) [])<|.ck (B3 b'&&B3 c)<|.di (B6 (Aq b') (Aq c)>=0) (.ck (CO b'&&CO c&&decide (Aq c<=Aq b'))<|.ck (B3 h')<|.leaf (yz [.dat i64<|CF i,.dat wU<|CD i]) [])<|.ck (CO c&&CO b'&&decide (Aq b'<=Aq c))<|.ck (B3 f)<|.leaf (yz [.dat i64<|CF e,.dat wU<|CD e]) [];.ite (!decide (0<length (snd a))) (.ite (!decide (0<length (snd b))) (.ite (decide (zc .i64 (fst a+fst b)>fst a)==decide (fst b>0)) (.leaf (yz [.dat i64<|zc .i64<|fst a+fst b,.nil]) []) d) d) d:=by kernel_rfl
end T139
namespace T135
def T[Srt](a b:AH):Tr:=tree XI2 false 9 135<|Ae ([AY,AY]) (a,b)
theorem Ai[Srt](a b:AH):T a b=let d:=Ag<|fst a;let c:=Ag<|fst b;let f:=BD<|Ag<|Sp.vI a;let i:=BD<|Ag<|Sp.vI b;let b':=BD<|Aq f*Aq i;let g:=Sp.sg (!decide (Sp.vI a<0)==decide (Sp.vI b<0))<|Aq b';let e:Tr:=.ck (Dx a)<|.ck (Dx b)<|.ck (Sp.hW f&&Sp.hW i)<|.ck (B3 b')<|.leaf (yz [.dat i64<|CF g,.dat wU<|CD g]) [];.ite (!decide (0<length (snd a))) (.ite (!decide (0<length (snd b))) (.ck (Ca<|fst a)<|.ck (Ca<|fst b)<|.ck (Sp.u64 d&&Sp.u64 c)<|.ite (Qo d c==0) (.di (H9 d c<=9223372036854775807) (.ite (!decide (fst a<0)==decide (fst b<0)) (.leaf (yz [.dat i64<|zc .i64<|0-zc .i64 (H9 d c),.nil]) [])<|.leaf (yz [.dat i64<|zc .i64<|H9 d c,.nil]) []) e) e) e) e:=by kernel_rfl
end T135
namespace T210
def T[Srt](a:AH):Tr:=tree XJ1 false 9 210<|Ae ([AY]) a
theorem Ai[Srt](a:AH):T a=.di (fst a<0) (.ck (Dx a)<|.leaf (yz [.dat i64<|Eh a,.dat wU<|Ej a]) []) (.leaf (yz [.dat i64<|fst a,.dat wU<|snd a]) []):=by kernel_rfl
end T210
namespace T199
def T[Srt](a:AH):Tr:=tree eI false 9 199<|Ae ([AY]) a
theorem Ai[Srt](a:AH):T a=.leaf (.dat i64<|imax (-1)<|EO 1<|fst a) []:=by kernel_rfl
end T199
namespace T212
def T[Srt](a b:AH):Tr:=tree XJ1 false 9 212<|Ae ([AY,AY]) (a,b)
theorem Ai[Srt](a b:AH):T a b=.ck (Dx b) (.ck (Bd a&&Bd (Eh b,Ej b))<|.leaf (yz [.dat i64<|JW a (Eh b,Ej b),.dat wU<|JU a (Eh b,Ej b)]) []):=by kernel_rfl
end T212
namespace T144
def T[Srt](a b:AH):Tr:=tree XJ2 false 9 144<|Ae ([AY,AY]) (a,b)
theorem Ai[Srt](a b:AH):T a b=let c:Tr:=.ck (Bd a&&Bd b)<|.ck (Dx (XM a b,X3 a b))<|.leaf (.dat i64<|ID (XM a b,X3 a b)) [];.ite (!decide (0<length (snd a))) (.ite (!decide (0<length (snd b))) (.di (fst a<fst b) (.leaf (.dat i64 (-1:Int)) [])<|.di (fst a>fst b) (.leaf (.dat i64 (1:Int)) [])<|.leaf (.dat i64 (0:Int)) []) c) c:=by kernel_rfl
end T144
end
theorem Ye(k:Nat):((Ao^k:Nat):Int)=(Ao:Int)^k:=Int.natCast_pow ..
theorem Kj{n:Int}{k:Nat}(h0:0<=n)(h:n<(Ao:Int)^k):(BD n).length<=k:=by
 refine SP Ao af k n.toNat n.toNat ?_;rw[<-Ye]at h;generalize Ao^k=P at*;omega
theorem CT{n:Int}{k:Nat}(h0:0<=n)(h:n<(Ao:Int)^k)(e:k<=20000):B3 (BD n)=true/\CO (BD n)=true/\Aq (BD n)=n:=by
 have d:=Kj h0 h;have a:CO (BD n)=true:=Eb ae (HQ af n);have c:vO (BD n)=true:=by
  unfold vO;exact w4 (Yc af n)
 exact⟨by unfold B3;rw[a,c];rfl,a,CU af h0⟩
theorem BZ{a:AH}(h:Bd a=true):Dx a=true/\a.2.length<=9000:=by
 unfold Bd at h;rw[zd,w5]at h;exact h
theorem VR{s:Int}{w:List Int}(a:w≠[]):Sp.vI (s,w)=if s<0 then -Aq w else Aq w:=by unfold Sp.vI;exact wc a
theorem P2{a:AH}(h:Dx a=true):(a.2=[]/\Ag (Sp.vI a)<=9223372036854775808)\/(BD (Ag<|Sp.vI a)=a.2):=by
 obtain⟨g,c⟩:=DK h;obtain⟨s,w⟩:=a;have g: -9223372036854775808<=s/\s<9223372036854775808:=g;rcases c with c|⟨j,f,e⟩
 ·have c:w=[]:=c;subst c;refine .inl ⟨rfl,?_⟩;rw[E5];simp only[Ah];omega
 ·obtain⟨n1,m,i⟩:=EM (l:=w) j;have f:s=1\/s= -1:=f;have e:9223372036854775808<=Aq w:=e;have d:w≠[]:=by rintro rfl;exact wh e af
  refine .inr ?_;have k:Ag (Sp.vI (s,w))=Aq w:=by rw[VR d];simp only[Ah];split<;>omega
  rw[k];exact(Iw af m i).symm
theorem AK(n:Int):0<=Ag n:=by simp only[Ah];omega
theorem Io{a:AH}(h:Dx a=true){k:Nat}(g:a.2.length<=k)(d:1<=k):Ag (Sp.vI a)<(Ao:Int)^k:=by
 rcases P2 h with⟨_,c⟩|he
 ·have:=AN (b:=Ao) af d;rw[Int.pow_one]at this;have e:(9223372036854775808:Int)<(Ao:Int):=af
  exact yb c<|Int.lt_of_lt_of_le e this
 ·have f:=CU (b:=Ao) af<|AK<|Sp.vI a;have:=Br (b:=Ao) af (HQ (b:=Ao) af<|Ag<|Sp.vI a);rw[f,show Sp.dg Ao (Ag<|Sp.vI a)=a.2 from he]at this;exact Int.lt_of_lt_of_le this (AN af g)
theorem Mb{x y:Int}(f:0<=x)(g:x<(Ao:Int)^9000)(i:y<(Ao:Int)^9000):x+y<(Ao:Int)^9001/\x*y<(Ao:Int)^18000:=by
 have e:(Ao:Int)^9001=(Ao:Int)^9000*Ao:=yh ..;have d:(Ao:Int)^18000=(Ao:Int)^9000*(Ao:Int)^9000:=Int.pow_add _ 9000 9000;rw[e,d];generalize (Ao:Int)^9000=P at*;refine⟨?_,?_⟩
 ·show x+y<P*18446744073709551616;omega
 ·have a:=zm (show y<=P-1 by omega) f;have b:=qm (show x<=P-1 by omega) (show 0<=P-1 by omega);have c:(P-1)*(P-1)=P*P-P-P+1:=by
   rw[Int.sub_mul,jk];omega
  omega
theorem Dm(n:Bool)(v:Int):Sp.sg n v=if n=true then -v else v:=rfl
theorem Ci(n:Int):Sp.vI (CJ n)=n:=by
 unfold CJ;split
 ·exact E5
 ·have c:=CU (b:=Ao) af<|AK n;have a:BD (Ag n)≠[]:=by
   intro h;rw[show Sp.dg Ao (Ag n)=[]from h]at c;have:(0:Int)=Ag n:=c;simp only[Ah]at this;omega
  rw[VR a,show Aq (BD<|Ag n)=Ag n from c];simp only[Ah];split<;>split<;>omega
theorem Xy{a:AH}{c:Bool}(h:(!decide (0<a.2.length))=c):(c=true->a.2=[])/\(c=false->a.2≠[]):=by
 subst h;rcases a with⟨s,w⟩
 cases w<;>simp
theorem OS{a:AH}(h:(!decide (0<a.2.length))=true):a.2=[]:=(Xy h).1 rfl
theorem kG{a:AH}(h:(!decide (0<a.2.length))=false):a.2≠[]:=(Xy h).2 rfl
theorem Bu{a:AH}(h:a.2=[]):Sp.vI a=a.1:=by unfold Sp.vI;exact wd h
theorem words{a:AH}(h:Bd a=true):Dx a=true/\Sp.hW (BD<|Ag<|Sp.vI a)=true/\B3 (BD<|Ag<|Sp.vI a)=true/\CO (BD<|Ag<|Sp.vI a)=true/\Aq (BD<|Ag<|Sp.vI a)=Ag (Sp.vI a)/\Ag (Sp.vI a)<(Ao:Int)^9000:=by
 obtain⟨e,g⟩:=BZ h;have c:=Io e g ae;obtain⟨n,d,v⟩:=CT (AK _) c ae;have f:=Kj (AK _) c;refine⟨e,?_,n,d,v,c⟩;unfold Sp.hW;rw[d,z7];exact w4 f
theorem Ab{a b:Bool}(d:a=true)(c:b=true):(a&&b)=true:=by rw[d,c];rfl
theorem wn{i:Nat}(h:i<9223372036854775807):zc .i64 ((i:Int)+1)=((i+1:Nat):Int):=by rw[wr _ ae ae];omega
theorem ad{p q:Prop}[Decidable p][Decidable q](a:p)(b:q):(decide p&&decide q)=true:=Ab (w4 a)<|w4 b
theorem nb{i n:Nat}(h:i<n):(decide ((0:Int)<=(i:Int))&&decide ((i:Int)<(n:Int)))=true:=ad ae ae
theorem Kr(n:Int):Ul n=if n<0 then -1 else if n>0 then 1 else 0:=rfl
theorem yM{a:AH}(h:Dx a=true):imax (-1) (EO 1 a.1)=Ul (Sp.vI a):=by
 obtain⟨j,c⟩:=DK h;obtain⟨s,w⟩:=a;rcases c with c|⟨i,d,g⟩
 ·have c:w=[]:=c;subst c;rw[E5,Kr,fL];show imax (-1) (if (1:Int)<=s then 1 else s)=_;unfold imax;split<;>split<;>split<;>(try split)<;>omega
 ·have d:s=1\/s= -1:=d;have g:9223372036854775808<=Aq w:=g;have f:w≠[]:=by rintro rfl;exact wh g af
  rw[VR f,Kr];rcases d with rfl|rfl
  ·have e:(if (1:Int)<0 then -Aq w else Aq w)=Aq w:=wc af;rw[e,wc (show ¬Aq w<0 by omega),wd<|show Aq w>0 by omega];show imax (-1) (EO 1 1)=1;decide
  ·have e:(if (-1:Int)<0 then -Aq w else Aq w)= -Aq w:=wd af;rw[e,wd<|show -Aq w<0 by omega];show imax (-1) (EO 1<| -1)= -1;decide
namespace T198
theorem ok[Srt]:Af A9 198 UN:=by
 refine BM SX<|fun(a:Int×List Int) e=>?_;have e:Dx a=true:=e;have f:B3 (BD<|Ag<|Sp.vI a)=true/\Aq (BD<|Ag<|Sp.vI a)=Ag (Sp.vI a):=by
  refine⟨?_,CU af<|AK _⟩;rcases P2 e with⟨_,j⟩|he
  ·have:(9223372036854775808:Int)<(Ao:Int)^1:=af
   exact(CT (AK _) (yb j this) ae).1
  ·obtain⟨_,g⟩:=DK e;rw[he];rcases g with g|⟨k,_⟩
   ·rw[g];decide+kernel
   ·exact k
 have i:Sp.sg (!decide (Sp.vI a<0)) (Aq<|BD<|Ag<|Sp.vI a)= -Sp.vI a:=by
  rw[f.2,Dm,Ah];rcases zt (Sp.vI a) 0 with h|h
  ·rw[w4 h];simp;omega
  ·rw[w8 ae];simp;omega
 have l:=(DK e).1;refine yi (Ai a)<|zl (fun c=>zl (fun d=>zi<|zz rfl rfl ?_)<|fun d=>zh e<|zh f.1<|zi<|zz rfl rfl ?_)<|fun c=>zh e<|zh f.1<|zi<|zz rfl rfl ?_
 ·have c:=OS c;have d:a.1≠ -9223372036854775808:=by simpa using d
  show(zc .i64<|0-a.1,[])=CY a;unfold CY;rw[wd ⟨c,d⟩,wr _ ae ae,Int.zero_sub]
 ·have d:a.1= -9223372036854775808:=by simpa using d
  show CJ (Sp.sg (!decide (Sp.vI a<0))<|Aq<|BD<|Ag<|Sp.vI a)=CY a;unfold CY;rw[wc<|fun h=>h.2 d,i]
 ·have c:=kG c;show CJ (Sp.sg (!decide (Sp.vI a<0))<|Aq<|BD<|Ag<|Sp.vI a)=CY a;unfold CY;rw[wc<|fun h=>c h.1,i]
end T198
namespace T139
theorem ok[Srt]:Af A9 139 Oy:=by
 refine BM SX<|fun(i:(Int×List Int)×(Int×List Int)) q=>?_;obtain⟨a,b⟩:=i;have q:(Bd a&&Bd b)=true:=q;rw[zd]at q;obtain⟨a1,a2,a3,a4,a5,a6⟩:=words q.1;obtain⟨b1,b2,b3,b4,b5,b6⟩:=words q.2;have E:=(DK a1).1;have C:=(DK b1).1;have B:=AK<|Sp.vI a;have nb:=AK<|Sp.vI b;obtain⟨t1,_⟩:=Mb B a6 b6;have u:∀v ob,Ee a b=CJ v->Ad Oy (a,b) (.agg [.dat i64<|CF v,.dat (.nlist<|.int .u64)<|CD v]) ob:=fun v ob h=>zz rfl rfl (by
  show CJ v=Ee a b;rw[h])
 have mono:(Ao:Int)^9000<=(Ao:Int)^9001:=AN af ae;have l:decide (Sp.vI a<0)=decide (Sp.vI b<0)->Sp.sg (decide (Sp.vI a<0)) (Aq<|BD<|Aq (BD<|Ag<|Sp.vI a)+Aq (BD<|Ag<|Sp.vI b))=Sp.vI a+Sp.vI b:=by
  intro e;rw[a5,b5,show Aq (BD<|Ag (Sp.vI a)+Ag (Sp.vI b))=_ from CU af ae,Dm,Ah,Ah];rcases zt (Sp.vI a) 0 with h|h
  ·rw[w4 h]at e ⊢;have:=w6 e.symm;simp only[wm];omega
  ·rw[w8 ae]at e ⊢;have:=w7 e.symm;simp only[qw,vf];omega
 have j:decide (Sp.vI a<0)≠decide (Sp.vI b<0)->Ag (Sp.vI b)<=Ag (Sp.vI a)->Sp.sg (decide (Sp.vI a<0)) (Aq<|BD<|Aq (BD<|Ag<|Sp.vI a)-Aq (BD<|Ag<|Sp.vI b))=Sp.vI a+Sp.vI b:=by
  intro e z;rw[a5,b5,show Aq (BD<|Ag (Sp.vI a)-Ag (Sp.vI b))=_ from CU af ae,Dm,Ah,Ah];rcases zt (Sp.vI a) 0 with h|h
  ·rw[w4 h]at e ⊢;have:¬Sp.vI b<0:=fun h=>e (w4 h).symm
   simp only[wm];omega
  ·rw[w8 ae]at e ⊢;have:Sp.vI b<0:=by
    rcases zt (Sp.vI b) 0 with h|h
    ·exact h
    ·exact wh (w8 ae).symm e
   simp only[qw,vf];omega
 have k:decide (Sp.vI a<0)≠decide (Sp.vI b<0)->Ag (Sp.vI a)<=Ag (Sp.vI b)->Sp.sg (decide (Sp.vI b<0)) (Aq<|BD<|Aq (BD<|Ag<|Sp.vI b)-Aq (BD<|Ag<|Sp.vI a))=Sp.vI a+Sp.vI b:=by
  intro e z;rw[a5,b5,show Aq (BD<|Ag (Sp.vI b)-Ag (Sp.vI a))=_ from CU af ae,Dm,Ah,Ah];rcases zt (Sp.vI b) 0 with h|h
  ·rw[w4 h]at e ⊢;have:¬Sp.vI a<0:=fun h=>e<|w4 h
   simp only[wm];omega
  ·rw[w8<|show ¬Sp.vI b<0 by omega]at e ⊢;have:Sp.vI a<0:=by
    rcases zt (Sp.vI a) 0 with h|h
    ·exact h
    ·exact wh (w8 ae) e
   simp only[qw,vf];omega
 have n1:B3 (BD<|Aq (BD<|Ag<|Sp.vI a)+Aq (BD<|Ag<|Sp.vI b))=true:=by
  rw[a5,b5];exact(CT ae t1 ae).1
 have D:Ag (Sp.vI b)<=Ag (Sp.vI a)->B3 (BD<|Aq (BD<|Ag<|Sp.vI a)-Aq (BD<|Ag<|Sp.vI b))=true:=by
  intro h;rw[a5,b5];exact(CT ae (yb ae a6) ae).1
 have G:Ag (Sp.vI a)<=Ag (Sp.vI b)->B3 (BD<|Aq (BD<|Ag<|Sp.vI b)-Aq (BD<|Ag<|Sp.vI a))=true:=by
  intro h;rw[a5,b5];exact(CT ae (yb ae b6) ae).1
 have f:∀ {c:Bool},decide (B6 (Aq<|BD<|Ag<|Sp.vI a) (Aq<|BD<|Ag<|Sp.vI b)>=0)=c->(c=true->Ag (Sp.vI b)<=Ag (Sp.vI a))/\(c=false->Ag (Sp.vI a)<=Ag (Sp.vI b)):=by
  intro c h;subst h;rw[a5,b5,w5,w9];unfold B6;constructor
  ·intro h;split at h<;>omega
  ·intro h;split at h
   ·omega
   ·split at h<;>omega
 refine yi (Ai a b)<|zl (fun s=>zl (fun m=>zl (fun g=>zi<|zz rfl rfl ?_)<|fun g=>?_)<|fun m=>?_)<|fun s=>?_
 ·have s:=OS s;have m:=OS m;have t:zc .i64 (a.1+b.1)=a.1+b.1:=by
   rw[wk]at g;rcases zt (a.1+b.1) (-9223372036854775808)with h|h
   ·exfalso;have e:zc .i64 (a.1+b.1)=a.1+b.1+18446744073709551616:=by rw[jg];omega
    rw[e,w4 ae,w8 ae]at g;cases g
   ·rcases zt (a.1+b.1) 9223372036854775808 with y|y
    ·exact wr _ ae ae
    ·exfalso;have e:zc .i64 (a.1+b.1)=a.1+b.1-18446744073709551616:=by rw[jg];omega
     rw[e,w8 ae,w4 ae]at g;cases g
  have F:Ca (a.1+b.1)=true:=by
   have: -9223372036854775808<=zc .i64 (a.1+b.1)/\zc .i64 (a.1+b.1)<9223372036854775808:=by rw[jg];omega
   rw[t]at this;unfold Ca;rw[zd,w5,w5];exact this
  show(zc .i64<|a.1+b.1,[])=Ee a b;unfold Ee;rw[wd ⟨s,m,F⟩,t]
 all_goals
  have x:Ee a b=CJ (Sp.vI a+Sp.vI b):=by
   unfold Ee;refine wc<|fun h=>?_;obtain⟨I,y,A⟩:=h;first
    |exact kG s I
    |exact kG m y
    |(have A:=EA A
      have t:zc .i64 (a.1+b.1)=a.1+b.1:=wr _ ae ae;rw[t,beq_eq_false_iff_ne]at g;refine g ?_;rcases zt 0 b.1 with h|h
      ·rw[w4 (show a.1+b.1>a.1 by omega),w4 h]
      ·rw[w8 (show ¬a.1+b.1>a.1 by omega),w8<|show ¬b.1>0 by omega])
  refine zh a1<|zh b1<|zl (fun e=>zh (Ab a2 b2)<|zh n1<|zi<|u _ _ ?_)<|fun e=>zh (Ab a3 b3)<|zl (fun d=>zh ?_<|zh (D<|(f d).1 rfl)<|zi<|u _ _ ?_)<|fun d=>zh ?_<|zh (G<|(f d).2 rfl)<|zi<|u _ _ ?_
  ·rw[x];exact wi _ (l<|by simpa using e).symm
  ·refine Ab (Ab a4 b4)<|w4 ?_;rw[a5,b5];exact(f d).1 rfl
  ·rw[x];exact wi _ (j (by simpa using e)<|(f d).1 rfl).symm
  ·refine Ab (Ab b4 a4)<|w4 ?_;rw[a5,b5];exact(f d).2 rfl
  ·rw[x];exact wi _ (k (by simpa using e)<|(f d).2 rfl).symm
end T139
theorem Et{n:Int}(a: -9223372036854775808<=n)(c:n<9223372036854775808):Ca n=true:=by
 unfold Ca;rw[zd,w5,w5];exact⟨a,c⟩
theorem KR{n:Int}(h:Ca n=true):Dx (n,[])=true:=by
 unfold Dx;rw[h];rfl
theorem No{n:Int}{k:Nat}(h:Ag n<(Ao:Int)^k)(e:k<=20000):Dx (CJ n)=true/\(CJ n).2.length<=k:=by
 unfold CJ;split
 ·next c=>exact⟨KR (Et ae ae),qx _⟩
 ·next c=>
  obtain⟨n1,f,a⟩:=CT (AK n) h e;refine⟨?_,Kj (AK n) h⟩;have d:9223372036854775808<=Ag n:=by rw[Ah];omega
  unfold Dx;refine Ab (Et ?_ ?_) ?_
  ·show -9223372036854775808<=(if n<0 then -1 else 1);split<;>decide
  ·show(if n<0 then -1 else 1)<9223372036854775808;split<;>decide
  ·rw[jj];refine .inr (Ab (Ab n1 ?_)<|w4 (by show _<=Aq (BD<|Ag n);rw[a];exact d));show(decide ((if n<0 then(-1:Int)else 1)=1)||decide ((if n<0 then(-1:Int)else 1)= -1))=true;split<;>rfl
theorem Ib(a:AH):Sp.vI (CY a)= -Sp.vI a:=by
 unfold CY;split
 ·next h=>rw[E5,Bu h.1]
 ·exact Ci _
theorem Ic(n:Int):Ag (-n)=Ag n:=by rw[Ah,Ah];omega
theorem Wf{a:AH}(h:Dx a=true){k:Nat}(f:1<=k)(d:k<=20000)(e:a.2.length<=k):Dx (CY a)=true/\(CY a).2.length<=k:=by
 have g:=(DK h).1;unfold CY;split
 ·next c=>exact⟨KR (Et ae ae),qx _⟩
 ·exact No (by rw[Ic];exact Io h e f) d
theorem TE{a:AH}(h:Bd a=true):Bd (CY a)=true:=by
 obtain⟨d,c⟩:=BZ h;obtain⟨h3,h4⟩:=Wf d (k:=9000) ae ae c;unfold Bd;exact Ab h3<|w4 h4
theorem rT{a:AH}(h:Dx a=true):a.1<0↔Sp.vI a<0:=by
 obtain⟨_,c⟩:=DK h;obtain⟨s,w⟩:=a;rcases c with c|⟨_,f,e⟩
 ·have c:w=[]:=c;subst c;rw[E5]
 ·have f:s=1\/s= -1:=f;have e:9223372036854775808<=Aq w:=e;have d:w≠[]:=by rintro rfl;exact wh e af
  rw[VR d];show s<0↔_;split<;>omega
theorem Wn(a b:AH):Sp.vI (Ee a b)=Sp.vI a+Sp.vI b:=by
 unfold Ee;split
 ·next h=>rw[E5,Bu h.1,Bu h.2.1]
 ·exact Ci _
theorem mZ(x y:Int):Ag (x+y)<=Ag x+Ag y:=by
 rw[Ah,Ah,Ah];omega
theorem Jg(x y:Int):Ag (x*y)=Ag x*Ag y:=by
 rw[Ah,Ah,Ah,Int.natAbs_mul,Int.natCast_mul]
theorem bounds{a:AH}(h:Bd a=true):Ag (Sp.vI a)<(Ao:Int)^9000:=(words h).2.2.2.2.2
theorem RD{a b:AH}(d:Bd a=true)(c:Bd b=true):Dx (Ee a b)=true:=by
 unfold Ee;split
 ·next h=>exact KR h.2.2
 ·exact(No (yb (mZ _ _) (Mb (AK _) (bounds d)<|bounds c).1) ae).1
theorem jV(a b:AH):Sp.vI (Nb a b)=Sp.vI a-Sp.vI b:=by
 unfold Nb;rw[Wn,Ib];omega
theorem Dp(a b:AH):Sp.vI (EV a b)=Sp.vI a*Sp.vI b:=Ci _
theorem X8[Srt]:Dn XJ1:=
 Aa T198.ok (Aa T139.ok AP)
namespace T199
theorem ok[Srt]:Af A9 199 LJ:=by
 refine BM Ju<|fun(a:Int×List Int) c=>?_;have c:Dx a=true:=c;exact yi (Ai a)<|zi<|zz rfl rfl (yM c)
end T199
namespace T210
theorem ok[Srt]:Af A9 210 tL:=by
 refine BM X8<|fun(a:Int×List Int) d=>?_;have d:Dx a=true:=d;refine yi (Ai a)<|zl (fun c=>zh d<|zi<|zz rfl rfl ?_)<|fun c=>zi<|zz rfl rfl ?_
 ·show CY a=UL a;unfold UL;rw[wd<|w6 c]
 ·show a=UL a;unfold UL;rw[wc<|w7 c]
end T210
namespace T212
theorem ok[Srt]:Af A9 212 gQ:=by
 refine BM X8<|fun(i:(Int×List Int)×(Int×List Int)) c=>?_;obtain⟨a,b⟩:=i;have c:(Bd a&&Bd b)=true:=c;rw[zd]at c;exact yi (Ai a b)<|zh (BZ c.2).1<|zh (Ab c.1<|TE c.2)<|zi<|zz rfl rfl rfl
end T212
theorem sR[Srt]:Dn XJ2:=
 Aa T212.ok (Aa T199.ok AP)
theorem qK(x y:Int):Ul (x-y)=B6 x y:=by
 unfold Ul B6;split
 ·rw[wd ae]
 ·split
  ·rw[wc ae,wd ae]
  ·rw[wc ae,wc ae]
namespace T144
theorem ok[Srt]:Af A9 144 cN:=by
 refine BM sR<|fun(i:(Int×List Int)×(Int×List Int)) f=>?_;obtain⟨a,b⟩:=i;have f:(Bd a&&Bd b)=true:=f;have c:=f;rw[zd]at c;have g:Dx (Nb a b)=true:=by
  unfold Nb;exact RD c.1<|TE c.2
 have k:ID (Nb a b)=Zc a b:=by
  show Ul (Sp.vI<|Nb a b)=B6 (Sp.vI a) (Sp.vI b);rw[jV,qK]
 refine yi (Ai a b)<|zl (fun l=>zl (fun j=>zl (fun d=>zi<|zz rfl rfl ?_)<|fun d=>zl (fun e=>zi<|zz rfl rfl ?_)<|fun e=>zi<|zz rfl rfl ?_)<|fun j=>zh f<|zh g<|zi<|zz rfl rfl k)<|fun l=>zh f<|zh g<|zi<|zz rfl rfl k;all_goals
  have q:=Bu<|OS l;have m:=Bu<|OS j;show _=B6 (Sp.vI a) (Sp.vI b);rw[q,m];unfold B6
 ·rw[wd<|w6 d]
 ·rw[wc<|w7 d,wd<|w6 e]
 ·rw[wc<|w7 d,wc<|w7 e]
end T144
theorem R4(x y:Int):x*y=Sp.sg (!(decide (x<0)==decide (y<0))) (Ag x*Ag y):=by
 unfold Ag;rw[Dm];by_cases a:x<0<;>by_cases c:y<0<;>simp[a,c,Int.neg_mul,Int.mul_neg]
namespace T135
theorem ok[Srt]:Af A9 135 Qw:=by
 refine BM SX<|fun(i:(Int×List Int)×(Int×List Int)) k=>?_;obtain⟨a,b⟩:=i;have k:(Bd a&&Bd b)=true:=k;rw[zd]at k;obtain⟨a1,a2,a3,a4,a5,a6⟩:=words k.1;obtain⟨b1,b2,b3,b4,b5,b6⟩:=words k.2;have f:=(DK a1).1;have d:=(DK b1).1;have t:=AK<|Sp.vI a;have nb:=AK<|Sp.vI b;obtain⟨_,t2⟩:=Mb t a6 b6;have u:0<=Ag (Sp.vI a)*Ag (Sp.vI b):=qf t nb;have n1:B3 (BD<|Aq (BD<|Ag<|Sp.vI a)*Aq (BD<|Ag<|Sp.vI b))=true:=by
  rw[a5,b5];exact(CT u t2 ae).1
 have v:Sp.sg (!(decide (Sp.vI a<0)==decide (Sp.vI b<0))) (Aq<|BD<|Aq (BD<|Ag<|Sp.vI a)*Aq (BD<|Ag<|Sp.vI b))=Sp.vI a*Sp.vI b:=by
  rw[a5,b5,show Aq (BD<|Ag (Sp.vI a)*Ag (Sp.vI b))=_ from CU af u, <-R4]
 have x:∀ob,Ad Qw (a,b) (.agg [.dat i64<|CF<|Sp.sg (!(decide (Sp.vI a<0)==decide (Sp.vI b<0)))<|Aq<|BD<|Aq (BD<|Ag<|Sp.vI a)*Aq (BD<|Ag<|Sp.vI b),.dat (.nlist<|.int .u64)<|CD<|Sp.sg (!(decide (Sp.vI a<0)==decide (Sp.vI b<0)))<|Aq<|BD<|Aq (BD<|Ag<|Sp.vI a)*Aq (BD<|Ag<|Sp.vI b)]) ob:=fun ob=>zz rfl rfl (by
  show CJ _=CJ (Sp.vI a*Sp.vI b);rw[v])
 have y:Sp.u64 (Ag a.1)=true:=CA (AK _) (by rw[Ah];omega);have ub:Sp.u64 (Ag b.1)=true:=CA (AK _) (by rw[Ah];omega);refine yi (Ai a b)<|zl (fun s=>zl (fun l=>zh (Et f.1 f.2)<|zh (Et d.1 d.2)<|zh (Ab y ub)<|zl (fun g=>zl (fun j=>zl (fun c=>zi<|zz rfl rfl ?_)<|fun c=>zi<|zz rfl rfl ?_)<|fun j=>?_)<|fun g=>?_)<|fun l=>?_)<|fun s=>?_
 ·have m:=Bu<|OS s;have q:=Bu<|OS l;have g:(Ag a.1*Ag b.1)/18446744073709551616=0:=by simpa [Qo]using g
  have j:(Ag a.1*Ag b.1) % 18446744073709551616<=9223372036854775807:=w6 j;have p0:0<=Ag a.1*Ag b.1:=qf (AK _)<|AK _;have e:=R4 a.1 b.1;have c:(!(decide (a.1<0)==decide (b.1<0)))=true:=c;rw[c,Dm,wd rfl]at e;show(zc .i64<|0-zc .i64 ((Ag a.1*Ag b.1) % 18446744073709551616),[])=CJ (Sp.vI a*Sp.vI b);rw[m,q,e,B7 ae,wr ((Ag a.1*Ag b.1) % 18446744073709551616) ae ae,wr _ ae ae];congr 1;omega
 ·have m:=Bu<|OS s;have q:=Bu<|OS l;have g:(Ag a.1*Ag b.1)/18446744073709551616=0:=by simpa [Qo]using g
  have j:(Ag a.1*Ag b.1) % 18446744073709551616<=9223372036854775807:=w6 j;have p0:0<=Ag a.1*Ag b.1:=qf (AK _)<|AK _;have e:=R4 a.1 b.1;have c:(!(decide (a.1<0)==decide (b.1<0)))=false:=c;rw[c,Dm,wc af]at e;show(zc .i64<|(Ag a.1*Ag b.1) % 18446744073709551616,[])=CJ (Sp.vI a*Sp.vI b);rw[m,q,e,B7 ae,wr ((Ag a.1*Ag b.1) % 18446744073709551616) ae ae];congr 1;omega
 all_goals exact zh a1<|zh b1<|zh (Ab a2 b2)<|zh n1<|zi<|x _
end T135
end Go.Pe
namespace Go.Sp
def GC(n:Int):Int:=if n<=0 then 0 else(n.toNat.log2:Int)+1
def lz(n:Int):Int:=64-GC n
def dq(h l y:Int):Int:=(h*18446744073709551616+l)/y
def dr(h l y:Int):Int:=(h*18446744073709551616+l) % y
end Go.Sp
namespace Go.Pe
open Go.Det
def bY:Ap:=⟨[u64],fun n=>Sp.u64 n,[i64],fun n=>Sp.GC n,false⟩
def cLZ:Ap:=⟨[u64],fun n=>Sp.u64 n,[i64],fun n=>Sp.lz n,false⟩
def Rp:Ap:=⟨[u64,u64,u64],fun i=>Sp.u64 i.1&&Sp.u64 i.2.1&&Sp.u64 i.2.2&&decide ((i.1:Int)<i.2.2),[u64,u64],fun i=>(Sp.dq i.1 i.2.1 i.2.2,Sp.dr i.1 i.2.1 i.2.2),false⟩
def XD1[Srt]:AR:=X7 [(192,bY)]
def lL[Srt]:AR:=X7 [(228,cLZ)]
end Go.Pe
