import Derived.Test.YtjbmodoofdpgcaaGreatDoorX13
import Derived.Test.YtjbmodoofdpgcaaGreatDoorRows
import Derived.LaidByTextLater
import Derived.SevenTiedAt
import Derived.LaidSub
import Derived.LaidOnce
/- A part of a proof; no law is stated here. -/
noncomputable section
open Go.Pe.Ends renaming tt -> zc, leaf -> ze, ff -> zq, eq -> zt, ite -> zu, Av -> yw
open List renaming getElem?_eq_getElem -> zd, getD_eq_getElem?_getD -> zg, getElem?_take_of_lt -> zk, mem_cons_of_mem -> zm, mem_cons_self -> zw, getElem?_eq_some_iff -> yc, length_map -> ye, getElem?_drop -> yf, length_take -> yj, getElem_mem -> yk, all_eq_true -> ym, mem_of_getElem? -> yo, mem_singleton -> yr, length_drop -> yx
open Go.IntKind renaming wrap -> zf, i64 -> zh
open Bool renaming and_eq_true -> zi, true_and -> qf
open Classical renaming propDecidable -> zj, byContradiction -> yt
open Go.Sp renaming first -> zl, C6 -> yv
open Array renaming getElem?_eq_some_iff -> zn, range -> zr, length_toList -> zx, getElem?_toList -> z6, getElem?_append_left -> z7, size_range -> yb, getElem?_eq_getElem -> yd, getElem?_setIfInBounds -> yp, toList_inj -> yy
open Rat renaming intCast_le_intCast -> zo, intCast_eq_zero_iff -> yz, den_intCast -> qd
open Go.Pe.Sh renaming int -> zp, str -> yq, bool -> qc
open Option renaming getD_some -> zy
open Go.Sort renaming ahead -> zz
open Go.Pe.Ac renaming of -> z8
open Go.Lib renaming bitLen -> yg
open Nat renaming beq -> yh, eq_of_beq_eq_true -> yi, zero_le -> yu, le_refl -> qe
open Int renaming mul_le_mul_of_nonneg_right -> yn
namespace Go.Det
def Jm(k:Nat):Value->V
 | .bool b=>.bool b
 | .int q n=>.int q n
 | .string s=>.str s.data.toList
 | .pointer none=>.nilp
 | .slice none 0 0=>.nils
 | .slice (some _) 0 0=>.es0
 | .slice (some ⟨r,off,none⟩) len cap=>if r<k/\len<=cap then .sl r off len cap 0 else .junk
 | .map none=>.nilm
 | .nilFunc=>.nilf
 | .nilIface=>.nili
 |_=>.junk
def XH(W:World)(r:Nat):Nat:=match W.heap[r]? with
 |some (.cells c _ _)=>c.size
 |_=>0
def pW(W:World):Pl:=(List.range W.heap.size).map fun r=>(r,XH W r)
theorem Ld{W:World}{r:Nat}(h:r<W.heap.size):(pW W)[r]?=some (r,XH W r):=by
 simp[pW,h]
def Lc(W:World)(r:Nat):Option O:=match W.heap[r]? with
 |some (.cells c t _)=>if c.size=0 then none else some<|.cells (c.toList.map<|Jm W.heap.size) t (0,c.size)
 |_=>none
def XO(W:World):Nat->H
 |0=>⟨.leaf,0⟩
 |n+1=>⟨(XO W n).m.set n<|Lc W n,n+1⟩
theorem iU(W:World):∀n,(XO W n).nx=n
 |0=>rfl
 |_+1=>rfl
theorem Sm(W:World):∀(n b:Nat),(XO W n).get b=if b<n then Lc W b else none
 |0,b=>by simp[XO,H.get]
 |n+1,b=>by
  have a:=Sm W n b;unfold H.get at a ⊢;simp only[XO,PM.Cs];grind
def hW(W:World):H:=XO W W.heap.size
theorem K1(W:World)(b:Nat):(hW W).get b=Lc W b:=by
 simp_all [hW,Sm,Lc]
theorem Kq{W:World}{v:Value}(h:(Jm W.heap.size v).ok=true):Ab (pW W) (Jm W.heap.size v) v:=by
 revert h;unfold Jm;split<;>intro h
 case h_6=>simp_all [Ab]
 case h_7 r off len cap _=>
  split
  ·simp_all [Ab,Ld]
  ·rename_i a;rw[wc a]at h;cases h
 case h_11=>cases h
 all_goals simp only[Ab]
 rfl
theorem zE(W:World):R (pW W) (hW W) W:=by
 refine⟨by simp[pW,hW,iU],fun b o a=>?_,fun b b' o o' r n n' a k s l=>?_⟩
 ·rw[K1]at a;unfold Lc at a;split at a
  case h_2=>cases a
  rename_i c t fz f;split at a
  case isTrue=>cases a
  cases a;have e:b<W.heap.size:=ah;have g:XH W b=c.size:=by unfold XH;rw[f]
  refine⟨b,c.size,_,by rw[Ld e,g],f,c,fz,rfl,rfl,by simp,⟨by simp,fun i d v q m j=>?_⟩,ae⟩;grind [Kq]
 grind [K1,Lc,Ld]
theorem Vy{W g:World}{p':Pl}{h':H}(d:Ext (pW W) (hW W) W p' h' g):RowKit.Below W.heap.size W g:=by
 refine⟨d.os,d.tape,d.out,d.size,fun k f=>?_⟩;by_cases l:Im (pW W) (hW W) k
 ·obtain⟨b,o,n,m,i⟩:=l;have a:=m;rw[K1]at a;unfold Lc at a;split at a
  case h_2=>cases a
  rename_i c t fz q;split at a
  case isTrue=>cases a
  cases a;have e:b<W.heap.size:=ah;have j:XH W b=c.size:=by unfold XH;rw[q]
  rw[Ld e,j]at i;cases i;exact(d.lock _ f ⟨_,_,_,_,_,m,by rw[Ld e,j],rfl,qe _,ae⟩).1
 ·exact d.same k f l
end Go.Det
namespace Go.Pe
open Go.Det
def FW(W:World):Fz:=fun b=>match (hW W).get b with
 |some (.cells cs _ _)=>some cs
 |_=>none
def Q2:(s:Sh)->s.T->Prop
 | .int k,x=>k.min<=(x:Int)/\(x:Int)<=k.max
 | .bool,_=>True
 | .str,x=>(x:Rd).length<=maxLen
 | .list s,l=>(l:List s.T).length<=maxLen/\∀x∈(l:List s.T),Q2 s x
 | .pair a b,x=>Q2 a x.1/\Q2 b x.2
 | .unit,_=>True
 | .nlist _,_=>True
 | .fnv,_=>True
 | .ptr _,_=>True
def aJ(P:Program)(f:TypeId->Option Sh):Nat->List Field->Option Sh
 |_,[]=>some .unit
 |o,[x]=>match f x.type with
  |some s=>bif yh x.offset o&&yh (P.cellsOf x.type) s.sz then some s else none
  |none=>none
 |o,x::y::l=>match f x.type with
  |some s=>bif yh x.offset o&&yh (P.cellsOf x.type) s.sz then(aJ P f (o+s.sz) (y::l)).map (.pair s)else none
  |none=>none
def qP(P:Program):Nat->TypeId->Option Sh
 |0,_=>none
 |f+1,t=>match P.underlying t with
  |some (.int k)=>some<|.int k
  |some .bool=>some .bool
  |some .string=>some .str
  |some (.slice e)=>match qP P f e with
   |some s=>bif yh (P.cellsOf e) s.sz&&Nat.blt 0 s.sz then some (.list s)else none
   |none=>none
  |some (.struct fs)=>match aJ P (qP P f) 0 fs.toList with
   |some s=>bif yh (P.cellsOf t) s.sz then some s else none
   |none=>none
  |_=>none
section
variable {H:Type}{enc:TypeId×Value->H}{P:Program}{W:World}
theorem fG{r:Nat}{c:Array Value}{t:TypeId}{fz:Nat×Nat}(h:W.heap[r]?=some (.cells c t fz))(h0:c.size≠0):FW W r=some (c.toList.map<|Jm W.heap.size):=by
 simp_all [FW,K1,Lc]
theorem Pm{a:Addr}{n:Nat}{cs:List Value}(h:W.cells? 0 a n=some cs)(e:0<n):
  ∃c t fz,W.heap[a.block]?=some (.cells c t fz)/\a.spot=none/\a.off+n<=c.size/\cs=(c.toList.drop a.off).take n:=by
 have m:=mapM_some_length h;have j:=mapM_some_get h;have h0:=j 0 0 (by simp[e]);have g:a.add 0=a:=by rfl
 obtain⟨v0,d⟩:∃v,cs[0]?=some v:=ah;rw[d]at h0;unfold World.cell? at h0;split at h0
 case h_2=>cases h0
 rename_i c t fz l;split at h0
 case isTrue=>cases h0
 have f:a.spot=none:=by simp_all
 have k:∀i,i<n->c[a.off+i]?=cs[i]?:=by
  grind [World.cell?,Addr.add]
 refine⟨c,t,fz,l,f,?_,?_⟩
 ·have:=k (n-1) ae;grind
 ·apply List.ext_getElem?;grind
theorem Wo{α:Type}{p:Nat->α->Prop}:∀n:Nat,(∀i,i<n->∃x,p i x)->∃l:List α,l.length=n/\∀i (h:i<l.length),p i l[i]
 |0,_=>(by simp)
 |n+1,h=>by
  obtain⟨l,c,d⟩:=Wo n fun i a=>h i ae
  obtain⟨x,e⟩:=h n ae;refine⟨l++[x],by simp[c],fun i a=>?_⟩;grind
end
open Go.Det Go.RowKit
section
open Go.Proofs.Tryz (prog)
theorem Y9{F':Fz}{v:V}(h:PC F' (.dat .bool true) v):v=.bool true:=by
 have:=h (fun _=>none) 0;simp only[PR,DC]at this;simpa using this
def GW(W:World):Prop:=∀x∈C8,Lc W x.1=some x.2
theorem GW.h{W:World}(h:GW W):Gh (hW W):=fun x a=>by rw[K1];exact h x a
theorem GW.p{W:World}(h:GW W):Gp (pW W):=fun x i=>by
 have a:=h x i;unfold Lc at a;split at a
 case h_2=>cases a
 rename_i c t fz f;split at a
 case isTrue=>cases a
 have e:x.1<W.heap.size:=(zn.1 f).1;have g:XH W x.1=c.size:=by unfold XH;rw[f]
 rw[Ld e,g];cases d:x.2 with
 |cells cs j fz'=>rw[d]at a;cases a;simp[osz]
 |_=>rw[d]at a;cases a
theorem Nc[Srt](q:EO prog LG){f:FuncId}{sp:Aq}(ok:Ag Bh f sp)(i:(Bv sp.ins).T)(c:sp.pre i=true){args:List V}{args':Array Value}{W:World}(a:GW W)(z:JF (FW W) (Af sp.ins i) args)
  (u:An (pW W) args args'.toList) (d:∀F' v,PC F' (one<|Af sp.outs<|sp.f i) v->v=.bool true) (x:Bh.prim f=none:=by kernel_rfl):
  Calls prog f args' W fun e k=>e=.returned (.bool true)/\Below W.heap.size W k:=by
 obtain⟨l,M,B,_,m⟩:=(ok.zero x).run (FW W) (hW W) args i (fun b cs h=>by
  unfold FW at h;split at h
  case h_2=>cases h
  rename_i cs' t fz A;cases h;exact⟨t,fz,A⟩) (fun b o h=>(zE W).lt h) a.h z c
 refine((Ew (eL q) Pk F4 M).fn f args (hW W) l (B M<|qe _) (pW W) W args' (zE W) a.p u).mono ?_;rintro e w' ⟨v,h',v',p',s,rfl,g,j⟩;obtain⟨_,_,_,F',_,_,_,y⟩:=m _ s;obtain rfl:=d F' v y;refine⟨?_,Vy j⟩;simp only[Ab]at g;rw[g]
open Go.Sort (grow)
abbrev gU:Srt:=⟨none⟩
theorem mT:EO prog (@LG gU):=fun f q h=>by
 unfold LG gU at h;cases a:yh f 63 with
 |true=>rw[a]at h;cases h
 |false=>rw[a]at h;cases h
theorem grown_of{W a:World}(c:Below W.heap.size W a)(j:W.drawn<=a.drawn):∃q os,a=grow (W.drewN q) os:=by
 refine⟨a.drawn-W.drawn,a.heap.extract W.heap.size a.heap.size,?_⟩;have s:=c.size;have d:a.heap=W.heap++a.heap.extract W.heap.size a.heap.size:=by
  apply Array.ext_getElem?;intro k;by_cases h:k<W.heap.size
  ·rw[z7 h];exact c.block k h
  ·rw[Array.getElem?_append_right ae,Array.getElem?_extract];by_cases i:k<a.heap.size
   ·rw[wd ae,show W.heap.size+(k-W.heap.size)=k by omega]
   ·rw[wc ae,Array.getElem?_eq_none ae]
 have f:=c.os;have e:=c.tape;have g:=c.output;obtain⟨t,l,m,o1,u1⟩:=W;obtain⟨i,t2,d2,o2,u2⟩:=a;simp only at f e g d j;subst f e g;unfold grow World.drewN;simp only[World.mk.injEq];exact⟨d,trivial,by omega,trivial,trivial⟩
theorem TW{S:Srt}(s:EO prog (@LG S)){f:FuncId}{sp:Aq}(ok:Ag (@Bh S) f sp)(i:(Bv sp.ins).T)(c:sp.pre i=true){args:List V}{args':Array Value}{W:World}(a:GW W)(A:JF (FW W) (Af sp.ins i) args)
  (x:An (pW W) args args'.toList) {r:Value} (d:∀F' v,PC F' (one<|Af sp.outs<|sp.f i) v->∀p v',Ab p v v'->v'=r) (y:(@Bh S).prim f=none):
  Calls prog f args' W fun e j=>e=.returned r/\∃q os,j=grow (W.drewN q) os:=by
 letI:=S
 obtain⟨l,M,C,_,m⟩:=(ok.zero y).run (FW W) (hW W) args i (fun b cs h=>by
  unfold FW at h;split at h
  case h_2=>cases h
  rename_i cs' t fz B;cases h;exact⟨t,fz,B⟩) (fun b o h=>(zE W).lt h) a.h A c
 refine((Ew (eL s) Pk F4 M).fn f args (hW W) l (C M<|qe _) (pW W) W args' (zE W) a.p x).mono ?_;rintro e w' ⟨v,h',v',p',u,rfl,k,g⟩;obtain⟨_,_,_,F',_,_,_,z⟩:=m _ u;exact⟨by rw[d F' v z p' v' k],grown_of (Vy g) g.dr⟩
def F0(h:H)(b:Nat):Fz:=fun c=>bif yh c b then none else match h.get c with
 |some (.cells cs _ _)=>some cs
 |_=>none
theorem sK{h:H}{b c:Nat}{cs:List V}(e:F0 h b c=some cs):c≠b/\∃t fz,h.get c=some (.cells cs t fz):=by
 unfold F0 at e;cases a:yh c b with
 |true=>rw[a]at e;cases e
 |false=>
  rw[a]at e;refine⟨(fun x=>by rw[x,Nat.beq_refl]at a;cases a),?_⟩;simp only[wg]at e;split at e
  ·next cs' t fz d=>cases e;exact⟨t,fz,d⟩
  ·cases e
def Sh.il:Sh->Bool
 | .int _=>true
 | .nlist (.int _)=>true
 | .pair a b=>a.il&&b.il
 |_=>false
section
variable {p:Pl}{h:H}{w W:World}{b r n:Nat}{o:O}
theorem later(N:R p h w)(U:p[b]?=some (r,n))(Y:h.get b=some o)(f:∀j,j<w.heap.size->j≠r->W.heap[j]?=w.heap[j]?)(K:w.heap.size<=W.heap.size):∀(s:Sh) (x:s.T) (ds:List V) (vs:List Value),s.il=true->DC (F0 h b) s x ds->An p ds vs->DC (FW W) s x (vs.map<|Jm W.heap.size)
 | .int k,x,ds,vs,_,g,G=>by
  have g:ds=[.int k x]:=g;subst g;obtain⟨v,D,rfl,C,E⟩:=G;have E:D=[]:=E;have C:v=.int k x:=C;subst C E;rfl
 | .pair a c,x,ds,vs,Q,g,G=>by
  simp only[Sh.il,zi]at Q;simp only[DC]at g ⊢;obtain⟨u,z,rfl,d1,d2⟩:=g;have l:=G.length;rw[List.length_append]at l;have t1:An p u (vs.take u.length):=An.mk (by rw[yj];omega) fun i d v B A=>by
   have M:=(yc.1 B).1;rw[zk M]at A;obtain⟨v',L,F⟩:=G.get (i:=i) (d:=d) (by rw[List.getElem?_append_left M];exact B);rw[L]at A;cases A;exact F
  have t2:An p z (vs.drop u.length):=An.mk (by rw[yx];omega) fun i d v B A=>by
   rw[yf]at A;obtain⟨v',L,F⟩:=G.get (i:=u.length+i) (d:=d) (by rw[List.getElem?_append_right ae,Nat.add_sub_cancel_left];exact B);rw[L]at A;cases A;exact F
  exact⟨_,_,by rw[<-List.map_append,List.take_append_drop],later N U Y f K a x.1 _ _ Q.1 d1 t1,later N U Y f K c x.2 _ _ Q.2 d2 t2⟩
 | .nlist (.int k),(l:List Int),ds,vs,_,g,G=>by
  simp only[DC]at g ⊢;obtain⟨v,rfl,g⟩:=g;obtain⟨v',D,rfl,C,E⟩:=G;have E:D=[]:=E;subst E;refine⟨_,rfl,?_⟩;rcases g with⟨rfl,rfl⟩|⟨l0,b',off,cap,oo,S,rfl,hc,hF,I,_,X⟩
  ·have C:v'=.slice none 0 0:=C;subst C;exact .inl ⟨rfl,rfl⟩
  ·obtain⟨q,n',c,g1,rfl,g2,g3,_,_⟩:=C;obtain⟨nb,t,fz,hg⟩:=sK hF;obtain⟨r'',n'',y,k1,k2,k3⟩:=N.obj b' _ hg;rw[g1]at k1;cases k1;have ne:q≠r:=fun e=>nb<|N.inj b' b _ _ _ _ _ hg Y (e▸g1) U
   obtain⟨ca,fz',rfl,q1,q2,q3,_⟩:=k3;have q4:ca.toList.length=n':=by rw[zx];exact q1
   have lt:q<w.heap.size:=(zn.1 k2).1;have lp:0<l.length:=List.length_pos_iff.2 l0;have Z:(zp k).sz=1:=rfl;rw[Z,Nat.mul_one]at I;have hw:W.heap[q]?=some (.cells ca t fz'):=(f q lt ne).trans k2;have fw:FW W q=some (ca.toList.map<|Jm W.heap.size):=by
    unfold FW;rw[K1];unfold Lc;rw[hw];simp only;rw[wc ae]
   have tv:Jm W.heap.size (.slice (some ⟨q,off,none⟩) l.length c)=.sl q off l.length c 0:=by
    obtain⟨m,hm⟩:∃m,l.length=m+1:=⟨l.length-1,by omega⟩;rw[hm];show(if q<W.heap.size/\m+1<=c then V.sl q off (m+1) c 0 else V.junk)=_;rw[wd ⟨by omega,by omega⟩]
   refine .inr ⟨l0,q,off,c,0,_,tv,by omega,fw,by rw[Z,Nat.mul_one,ye,q4];omega,.inl rfl,fun i M=>?_⟩;have B:=X i M;rw[Z,Nat.mul_one]at B ⊢;have B:(S.drop<|off+i).take 1=[.int k l[i]]:=B;have A:S[off+i]?=some (.int k l[i]):=by
    have:=wi (fun l=>l[0]?) B;simpa [List.getElem?_take,yf]using this
   have J:off+i<ca.toList.length:=ae
   have L:(ca.toList.take S.length)[off+i]?=some ca.toList[off+i]:=by
    rw[zk ae,zd J]
   have F:=q3.2 (off+i) _ _ A L rfl;have F:ca.toList[off+i]=.int k l[i]:=F;show((ca.toList.map<|Jm W.heap.size).drop<|off+i).take 1=[.int k l[i]];rw[List.drop_eq_getElem_cons (by rw[ye];exact J),List.getElem_map,F];rfl
end
end
section
open Go.Proofs.Tryz (prog)
open Go.Sort (grow putRow putCells pdq SWO)
open Go.Proofs (ltOf sortWorldK)
open Go.Sort (HoldsK flatK putRowK)
open Go.Sp (Ai)
abbrev ix(n x:Nat):Nat:=if x<n then x else 0
def V1(l:List Ai)(x:Nat):Ai:=l.getD (ix l.length x) ((0,[]),0,[])
def VU(l:List Ai)(x y:Nat):Int:=Sp.Lx (V1 l x)<|V1 l y
def Hv(l:List Ai):List Nat:=(pdq (ltOf<|VU l) (zr l.length) 0 l.length (yg l.length) true true).toList
def wY(x:Ai):Prop:=∃X,RS 4000 x X
theorem GS{l:List Ai}(h0:0<l.length)(h:∀x∈l,wY x)(x:Nat):wY (V1 l x):=by
 have a:ix l.length x<l.length:=by unfold ix;split<;>omega
 have e:V1 l x=l[ix l.length x]:=by
  unfold V1;rw[zg,zd a,zy]
 rw[e];exact h _<|yk a
theorem WL{l:List Ai}(h0:0<l.length)(h:∀x∈l,wY x):SWO (ltOf<|VU l):=by
 have lt:∀x y X Y,RS 4000 (V1 l x) X->RS 4000 (V1 l y) Y->(ltOf (VU l) x y=true↔X<Y):=fun x y X Y c d=>by
  unfold ltOf VU;rw[w5];exact c.UC d
 refine⟨fun x=>?_,fun x y z a b=>?_,fun x y z a b=>?_⟩
 ·obtain⟨X,c⟩:=GS h0 h x;exact Bool.eq_false_iff.2 fun e=>Rat.lt_irrefl<|(lt x x X X c c).1 e
 ·obtain⟨X,c⟩:=GS h0 h x;obtain⟨Y,d⟩:=GS h0 h y;obtain⟨Z,hZ⟩:=GS h0 h z;rw[lt x y X Y c d]at a;rw[lt y z Y Z d hZ]at b;rw[lt x z X Z c hZ];grind
 ·obtain⟨X,c⟩:=GS h0 h x;obtain⟨Y,d⟩:=GS h0 h y;obtain⟨Z,hZ⟩:=GS h0 h z;have a:¬X<Y:=fun e=>by rw[(lt x y X Y c d).2 e]at a;cases a
  have b:¬Y<Z:=fun e=>by rw[(lt y z Y Z d hZ).2 e]at b;cases b
  refine Bool.eq_false_iff.2 fun e=>?_
  have e:=(lt x z X Z c hZ).1 e;grind
theorem Ua{l:List Ai}(h0:0<l.length)(h:∀x∈l,wY x):(Hv l).Perm (List.range l.length)/\∀i j:Nat,i<j->j<l.length->¬Sp.Lx (V1 l<|(Hv l).getD j 0) (V1 l<|(Hv l).getD i 0)<0:=by
 obtain⟨⟨a1,_,a3⟩,b⟩:=Go.Sort.pdq_sorts (ltOf<|VU l) (WL h0 h) (zr l.length) 0 l.length (yg l.length) true true (yu _) (by simp) (Or.inl rfl);have sz:(pdq (ltOf<|VU l) (zr l.length) 0 l.length (yg l.length) true true).size=l.length:=by rw[a1];simp
 refine⟨?_,fun i j c e=>?_⟩
 ·have d:∀a:Array Nat,a.size=l.length->(a.extract 0 l.length).toList=a.toList:=fun a f=>by
   rw[<-f];simp
  rw[d _ sz,d _<|by simp]at a3;unfold Hv;simpa using a3
 ·have:=b i j (yu _) c e;unfold ltOf VU at this;have g:∀k,k<l.length->(Hv l).getD k 0=(pdq (ltOf<|VU l) (zr l.length) 0 l.length (yg l.length) true true)[k]! :=fun k m=>by
   unfold Hv;rw[zg,z6,getElem!_pos _ k ae,yd ae];rfl
  rw[g j e,g i ae];exact w7 this
def R0(cs:List V)(ks:List Nat):List V:=(List.range<|ks.length*4).map fun t=>cs.getD (ks.getD (t/4) 0*4+t % 4) .nils
structure xK(h:H)(b n:Nat)(cs:List V)(fz:Nat×Nat)(l:List Ai):Prop where
 n:l.length=n
 n0:0<l.length
 n1:l.length<=1000000
 d:Dc (F0 h b) AR l cs
 ok:∀x∈l,wY x
 fz:fz.2<=fz.1
 gh:Gh h
open Classical in
def cR:List V->H->Option (V×H)
 |[.sl b 0 n _ _,.fn (.func 64) [] []],h=>match h.get b with
  |some (.cells cs t fz)=>if hx:∃l,xK h b n cs fz l then some (.tup [],h.put b<|.cells (R0 cs<|Hv hx.choose) t fz)else none
  |_=>none
 |_,_=>none
instance srt1:Srt:=⟨some cR⟩
theorem PF:(C8.all fun x=>match x.2 with| .cells cs _ fz=>(cs.all fun c=>match c with| .int _ _=>true|_=>false)&&(yh fz.1 0&&yh fz.2 cs.length)&&Nat.blt 0 cs.length|_=>false)=true:=by kernel_rfl
section
variable {p:Pl}{h:H}{w W:World}{b r n:Nat}{o:O}
theorem aE(E:R p h w)(s:Gp p)(v:Gh h)(I:p[b]?=some (r,n))(M:h.get b=some o)(l:∀x∈C8,x.1≠b)(a:∀j,j<w.heap.size->j≠r->W.heap[j]?=w.heap[j]?):GW W:=fun x f=>by
 have C:=v x f;have A:=s x f;obtain⟨T,n',y,z,D,N⟩:=E.obj x.1 _ C;rw[A]at z;cases z;have J:x.1≠r:=fun e=>l x f (E.inj x.1 b _ _ r _ _ C M (by rw[A,e]) I)
 have lt:x.1<w.heap.size:=(zn.1 D).1;have q:=ym.1 PF x f;obtain⟨i,ob⟩:=x;cases ob with
 |cells cs t fz=>
  simp only[zi]at q;obtain⟨⟨q1,d,g⟩,B⟩:=q;have d:=yi d;have g:=yi g;have B:0<cs.length:=Nat.le_of_ble_eq_true B;obtain⟨ca,fz',rfl,s1,s2,s3,_⟩:=N;have s1:ca.size=cs.length:=s1;unfold Lc;rw[a _ lt J,D];simp only;rw[wc ae];have e:ca.toList.map (Jm W.heap.size)=cs:=by
   refine List.ext_getElem (by rw[ye,zx,s1]) fun j L u=>?_
   have G:j<ca.toList.length:=by simpa using L
   have c:=ym.1 q1 cs[j]<|yk u;rw[List.getElem_map];have K:(ca.toList.take cs.length)[j]?=some ca.toList[j]:=by rw[zk u,zd G]
   cases F:cs[j]with
   |int k m=>
    have:=s3.2 j _ _ (by rw[zd u,F]) K rfl;have this:ca.toList[j]=.int k m:=this;rw[this];rfl
   |_=>rw[F]at c;cases c
  rw[e,s1];obtain⟨S,Q⟩:=fz;simp only at d g;rw[d,g]
 |_=>cases q
end
end
section
open Go.Proofs.Tryz (prog)
open Go.Sort (grow putRow putCells pdq SWO)
open Go.Proofs (ltOf sortWorldK CmpLays)
open Go.Sort (HoldsK flatK putRowK)
open Go.Sp (Ai)
def fl1:V->Bool
 | .agg _| .tup _=>false
 |_=>true
theorem W9{p:Pl}:∀ {d:V} {v:Value},Ab p d v->fl1 d=true->v.oneCell'=true
 | .bool _,_,h,_=>by simp only[Ab]at h;subst h;rfl
 | .int _ _,_,h,_=>by simp only[Ab]at h;subst h;rfl
 | .str _,_,h,_=>by simp only[Ab]at h;subst h;rfl
 | .nilp,_,h,_=>by simp only[Ab]at h;subst h;rfl
 | .ptr _ _,_,h,_=>by simp only[Ab]at h;obtain⟨_,_,_,rfl⟩:=h;rfl
 | .nils,_,h,_=>by simp only[Ab]at h;subst h;rfl
 | .sl _ _ _ _ _,_,h,_=>by simp only[Ab]at h;obtain⟨_,_,_,_,rfl,_⟩:=h;rfl
 | .esl,_,h,_=>by simp only[Ab]at h;obtain⟨_,_,rfl⟩:=h;rfl
 | .es0,_,h,_=>by simp only[Ab]at h;obtain⟨_,rfl⟩:=h;rfl
 | .junk,_,h,_=>by simp only[Ab]at h
 | .nilm,_,h,_=>by simp only[Ab]at h;subst h;rfl
 | .map _,_,h,_=>by simp only[Ab]at h;obtain⟨_,_,_,rfl⟩:=h;rfl
 | .fn _ _ _,_,h,_=>by simp only[Ab]at h;obtain⟨_,_,rfl,_⟩:=h;rfl
 | .yld _,_,h,_=>by simp only[Ab]at h;obtain⟨_,_,_,rfl⟩:=h;rfl
 | .nilf,_,h,_=>by simp only[Ab]at h;subst h;rfl
 | .iface _ _,_,h,_=>by simp only[Ab]at h;obtain⟨_,rfl,_⟩:=h;rfl
 | .nili,_,h,_=>by simp only[Ab]at h;subst h;rfl
theorem Ox{F:Fz}:∀(s:Sh) (x:s.T) (ds:List V),s.il=true->DC F s x ds->∀d∈ds,fl1 d=true
 | .int k,x,ds,_,e=>by
  have e:ds=[.int k x]:=e;subst e;intro d h;rw[yr.1 h];rfl
 | .pair a c,x,ds,f,e=>by
  simp only[Sh.il,zi]at f;simp only[DC]at e;obtain⟨u,z,rfl,g,i⟩:=e;intro d h;rcases List.mem_append.1 h with h|h
  ·exact Ox a x.1 u f.1 g d h
  ·exact Ox c x.2 z f.2 i d h
 | .nlist (.int k),l,ds,_,e=>by
  simp only[DC]at e;obtain⟨v,rfl,e⟩:=e;intro d h;rw[yr.1 h];rcases e with⟨_,rfl⟩|⟨_,b',off,cap,m,j,rfl,_⟩<;>rfl
def Fo(ca:Array Value)(n x:Nat):List Value:=(ca.toList.drop<|ix n x*4).take 4
theorem PZ{w:World}{r off:Nat}{d:Array Value}{c:Array Value}{t:TypeId}{fz:Nat×Nat}(h:w.heap[r]?=some (.cells c t fz)):(putRow id w r off d).heap=w.heap.setIfInBounds r (.cells (putCells id off d c) t fz):=by
 apply Array.ext_getElem?;intro k;show(w.heap.modify r _)[k]?=_;rw[Array.getElem?_modify,yp];by_cases e:r=k
 ·subst e;have a:r<w.heap.size:=(zn.1 h).1;rw[wd rfl,wd rfl,wd a,h];rfl
 ·rw[wc e,wc e]
theorem C4(off:Nat)(d c:Array Value)(i:Nat):(putCells id off d c)[i]?=c[i]?.map fun x=>if off<=i/\i<off+d.size then d[i-off]! else x:=by
 unfold putCells;rw[Array.getElem?_mapIdx];rfl
theorem eT{F:Fz}{x:Ai}{ds:List V}(h:DC F AR x ds):∃a b,ds[1]?=some a/\(a=.nils\/∃b' off len cap o,a=.sl b' off len cap o)/\b=a:=by
 simp only[DC]at h;obtain⟨u,z,rfl,⟨u1,u2,rfl,c,v,d,e⟩,_⟩:=h;have c:u1=[.int .i64 x.1.1]:=c;subst c d;refine⟨v,v,rfl,?_,rfl⟩;rcases e with⟨_,rfl⟩|⟨_,b',off,cap,g,f,rfl,_⟩
 ·exact .inl rfl
 ·exact .inr ⟨_,_,_,_,_,rfl⟩
theorem gL:EO prog LG:=by
 intro f q hq p h w args args' v h' hr hgp ha T;unfold LG srt1 at hq;cases hf:yh f 63 with
 |false=>rw[hf]at hq;cases hq
 |true=>
  rw[hf]at hq;cases hq;cases yi hf;unfold cR at T;split at T
  case h_2=>cases T
  rename_i b n c o;split at T
  case h_2=>cases T
  rename_i cs t fz V;split at T
  case isFalse=>cases T
  rename_i hx;have G:=hx.choose_spec;generalize hx.choose=l at*;cases T;obtain⟨Gn,n0,n1,Gd,F,Gfz,Ggh⟩:=G;subst Gn;obtain⟨x,y,hl,g1,g2⟩:=ha.two;have:args'= #[x,y]:=yy.1 hl;subst this;simp only[Ab]at g1 g2;obtain⟨r,m,cp,k1,rfl,_,_,_,_⟩:=g1;obtain⟨u,z,rfl,u1,z1⟩:=g2;have u1:u= #[]:=yy.1 (by simpa using u1);have z1:z= #[]:=yy.1 (by simpa using z1);subst u1 z1;obtain⟨r',m',ob,j1,j2,j3⟩:=hr.obj b _ V;rw[k1]at j1;cases j1;obtain⟨ca,fz',rfl,s1,s2,s3,s4⟩:=j3;have hcl:cs.length=l.length*4:=Gd.1;have cal:ca.toList.length=m:=by rw[zx];exact s1
  have C:∀x,ix l.length x<l.length:=fun x=>by unfold ix;split<;>omega
  have R:∀x,(Fo ca l.length x).length=4:=fun x=>by
   have:=C x;unfold Fo;rw[yj,yx];omega
  have Q:∀j,j<cs.length->∃A:j<ca.toList.length,(cs.getD j .nils).ok=true->Ab p (cs.getD j .nils) ca.toList[j]:=fun j A=>by
   have hj2:j<ca.toList.length:=ae
   refine⟨hj2,fun I=>?_⟩;have g:cs[j]?=some (cs.getD j .nils):=by rw[zg,zd A];rfl
   exact s3.2 j _ _ g (by rw[zk A,zd hj2]) I
  have eD:∀x,DC (F0 h b) AR (V1 l x) ((cs.drop<|ix l.length x*4).take 4):=fun x=>by
   have:=Gd.2 (ix l.length x)<|C x;unfold V1;rw[zg,zd<|C x,zy];exact this
  have eR:∀x,An p ((cs.drop<|ix l.length x*4).take 4) (Fo ca l.length x):=fun x=>by
   have M:=C x;refine An.mk (by rw[R,yj,yx];omega) fun i d v g s=>?_
   have i4:i<4:=by
    have:=(yc.1 s).1;rw[R]at this;exact this
   have ok:=DC.ok (eD x) d<|yo g;rw[zk i4,yf]at g;unfold Fo at s;rw[zk i4,yf]at s;obtain⟨A,c1⟩:=Q (ix l.length x*4+i) ae;have e3:cs.getD (ix l.length x*4+i) .nils=d:=by rw[zg,g];rfl
   rw[zd A]at s;cases s;rw[e3]at c1;exact c1 ok
  have h1:∀x,∀v∈Fo ca l.length x,v.oneCell'=true:=fun x v hv=>by
   obtain⟨i,M,rfl⟩:=List.getElem_of_mem hv;have hl:=(eR x).length;have hi2:i<((cs.drop<|ix l.length x*4).take 4).length:=ae
   obtain⟨v',g,s⟩:=(eR x).get<|zd hi2;rw[zd M]at g;cases g;exact W9 s<|Ox AR _ _ rfl (eD x) _ (yk hi2)
  have rl:r<w.heap.size:=(zn.1 j2).1;have gne:∀x∈C8,x.1≠b:=fun x hx e=>by
   have a1:=Ggh x hx;rw[e,V]at a1;have q:=ym.1 PF x hx;rw[<-Option.some.inj a1]at q;simp only[zi]at q;obtain⟨a,b',f1,f2,_⟩:=eT<|eD 0;have e0:ix l.length 0=0:=by unfold ix;split<;>rfl
   rw[e0,Nat.zero_mul,List.drop_zero,zk af]at f1;have:=ym.1 q.1.1 a<|yo f1;rcases f2 with rfl|⟨_,_,_,_,_,rfl⟩<;>cases this
  have flat:∀(D:Array Nat) (j:Nat),j<D.size*4->(flatK (Fo ca l.length) 4 D)[j]! =ca.toList.getD (ix l.length (D[j/4]!)*4+j % 4) default:=fun(D:Array Nat) j A=>by
   rw[Go.Sort.get_flatK _ _ _ j A];have h4:j % 4<(Fo ca l.length<|D[j/4]!).length:=by rw[R];exact Nat.mod_lt _ af
   rw[getElem!_pos (Fo ca l.length<|D[j/4]!) (j % 4) h4];have h5:ix l.length (D[j/4]!)*4+j % 4<ca.toList.length:=by
    have:=C<|D[j/4]!;omega
   rw[zg,zd h5,zy];simp only[Fo,List.getElem_take,List.getElem_drop]
  have hH:HoldsK (Fo ca l.length) 4 w r 0 (zr l.length):=by
   intro j A;rw[Go.Sort.size_flatK,yb]at A;have g:ix l.length ((zr l.length)[j/4]!)=j/4:=by
    have:j/4<l.length:=ae
    rw[getElem!_pos _ _ (by rw[yb];exact this),Array.getElem_range];unfold ix;rw[wd this]
   have h5:j<ca.toList.length:=ae
   rw[flat _ j (by rw[yb];exact A),g,show j/4*4+j % 4=j by omega,zg,zd h5,zy];refine⟨?_,?_⟩
   ·unfold World.cell?;rw[j2];show ca[0+j]?=some _;rw[Nat.zero_add, <-z6,zd h5];rfl
   ·unfold World.frozen?;rw[j2];obtain⟨lo,M⟩:=fz';show(decide (lo<=0+j)&&decide (0+j<M))=false;rw[Bool.and_eq_false_iff,w9,w9];by_cases g:lo<=0+j
    ·refine .inr fun s=>?_
     have:=s4 (0+j) ae g s;omega
    ·exact .inl g
  have Z:CmpLays prog 64 #[] (Fo ca l.length) 4 (VU l) r 0 (zr l.length).size w:=by
   intro B os U _ x y;have E:∀j,j<w.heap.size->j≠r->(sortWorldK (Fo ca l.length) 4 w r 0 B U os).heap[j]?=w.heap[j]?:=fun j h1 h2=>by
    show((putRow id (zz w B) r 0 _).heap++os)[j]?=_;have sz:(putRow id (zz w B) r 0<|flatK (Fo ca l.length) 4 U).heap.size=w.heap.size:=Go.Sort.size_putRow ..;rw[z7 (by rw[sz];exact h1),PZ (w:=zz w B) j2,yp,wc<|fun e=>h2 e.symm];rfl
   have hsz:w.heap.size<=(sortWorldK (Fo ca l.length) 4 w r 0 B U os).heap.size:=by
    show _<=((putRow id (zz w B) r 0 _).heap++os).size;have sz:(putRow id (zz w B) r 0<|flatK (Fo ca l.length) 4 U).heap.size=w.heap.size:=Go.Sort.size_putRow ..;rw[Array.size_append,sz];omega
   generalize sortWorldK (Fo ca l.length) 4 w r 0 B U os=W at*;have L:=fun x=>later hr k1 V E hsz AR (V1 l x) _ _ rfl (eD x) (eR x)
   have VV:∀x,An (pW W) ((Fo ca l.length x).map<|Jm W.heap.size) (Fo ca l.length x):=fun x=>An.mk (by rw[ye]) fun i d v g s=>by
    have ok:=DC.ok (L x) d<|yo g;rw[List.getElem?_map,s]at g;cases g;exact Kq ok
   obtain⟨X,hX⟩:=GS n0 F x;obtain⟨Y,hY⟩:=GS n0 F y;refine TW (S:=gU) mT (@T64.ok gU) (V1 l x,V1 l y) (Ad (hX.F6 af)<|hY.F6 af) (args:=[.agg _,.agg _]) (aE hr hgp Ggh k1 V gne E) (JF.cons ((PC.BN<|L x).1 rfl)<|JF.cons ((PC.BN<|L y).1 rfl)<|fun ρ N=>by simp only[BB]) ?_ ?_ ag
   ·show An (pW W) _ [.agg _,.agg _];rw[A4,A4];exact⟨by simp only[Ab];exact⟨_,rfl,VV x⟩,by simp only[Ab];exact⟨_,rfl,VV y⟩,by simp⟩
   ·intro F' v hv p' v' hr';have hv:=hv (fun _=>none) 0;obtain rfl:=CQ hv;simp only[Ab]at hr';exact hr'
  have J:=Go.Proofs.AnyQ.slices_SortFunc_eq (P:=prog) vT 4 (fun w=>Go.Proofs.Tryz.isAgg88 w) (fun w=>Go.Proofs.Tryz.sizeOf88 w) (Fo ca l.length) R h1 (VU l) (WL n0 F) 64 #[] r 0 cp (zr l.length) w (Go.Proofs.enters_of Go.Proofs.Tryz.func64 ag rfl) Z hH rl (by rw[yb];omega);rw[yb]at J;refine J.mono ?_;rintro e w' ⟨rfl,B,os,rfl⟩;have pf:=Ua n0 F;have il:(Hv l).length=l.length:=by rw[pf.1.length_eq,List.length_range]
  have im:∀k,k<l.length->(Hv l).getD k 0<l.length:=fun k R=>by
   rw[zg,zd ae,zy];exact List.mem_range.1<|pf.1.mem_iff.1<|yk _
  have ig:∀k,k<l.length->(pdq (ltOf<|VU l) (zr l.length) 0 l.length (yg l.length) true true)[k]! =(Hv l).getD k 0:=fun k R=>by
   have:k<(pdq (ltOf<|VU l) (zr l.length) 0 l.length (yg l.length) true true).size:=by
    rw[<-zx];show k<(Hv l).length;omega
   unfold Hv;rw[zg,z6,getElem!_pos _ k this,yd this];rfl
  have ds:(pdq (ltOf<|VU l) (zr l.length) 0 l.length (yg l.length) true true).size=l.length:=by
   rw[<-zx];exact il
  generalize hD:pdq (ltOf<|VU l) (zr l.length) 0 l.length (yg l.length) true true=D at*;have K:Ext p h w p (h.put b<|.cells (R0 cs<|Hv l) t fz) (putRow id (zz w B) r 0<|flatK (Fo ca l.length) 4 D):=by
   have pl:(R0 cs<|Hv l).length=l.length*4:=by unfold R0;rw[ye,List.length_range,il]
   refine Ext.put hr V k1 (x':=.cells (putCells id 0 (flatK (Fo ca l.length) 4 D) ca) t fz') ?_ (PZ (w:=zz w B) j2) rfl rfl rfl ?_ (by show w.drawn<=w.drawn+B;omega)
   ·refine⟨_,fz',rfl,by simp[putCells,s1],by rw[pl];omega,⟨?_,?_⟩,s4⟩
    ·have:(putCells id 0 (flatK (Fo ca l.length) 4 D) ca).toList.length=m:=by simp[putCells,s1]
     rw[yj,pl,this];omega
    ·intro i d v g s I;have M:i<l.length*4:=by
      have:=(yc.1 g).1;rw[pl]at this;exact this
     have i4:i/4<l.length:=ae
     have hix:(Hv l).getD (i/4) 0*4+i % 4<cs.length:=by
      have:=im (i/4) i4;omega
     have g:d=cs.getD ((Hv l).getD (i/4) 0*4+i % 4) .nils:=by
      unfold R0 at g;rw[List.getElem?_map,List.getElem?_range<|by rw[il];exact M]at g;exact(Option.some.inj g).symm
     rw[zk (by rw[pl];exact M),z6,C4]at s;have hic:i<ca.size:=ae
     rw[yd hic]at s;simp only[Option.map_some,Option.some.injEq]at s;rw[wd ⟨yu _,by rw[Go.Sort.size_flatK,ds];omega⟩,Nat.sub_zero,flat D i (by rw[ds];exact M),ig _ i4]at s;have e5:ix l.length ((Hv l).getD (i/4) 0)=(Hv l).getD (i/4) 0:=by
      unfold ix;rw[wd<|im _ i4]
     rw[e5]at s;obtain⟨A,c1⟩:=Q _ hix;rw[zg,zd A,zy]at s;rw[<-s,g];rw[g]at I;exact c1 I
   ·intro cs2 t2 fz2 he R;cases he;unfold Lk at R;omega
  refine⟨_,p,rfl,by simp[Ab],K.trans<|Lt K.rel ⟨rfl,rfl,rfl,?_,fun j A=>?_⟩<|qe _⟩
  ·show _<=((putRow _ _ _ _ _).heap++os).size;rw[Array.size_append];exact Nat.le_add_right ..
  ·show((putRow _ _ _ _ _).heap++os)[j]?=_;exact z7 A
end
end Go.Pe
namespace Go.Sp
def Gx(a:Hz)(d c:Int):Int:=if BG a≠0 then BG a else if AO a<(d:Rat)\/(c:Rat)<AO a then 3 else 0
def iF(n:Int):Ai:=((n,B7 n),(1,B7 1))
def TA(n:Int):Bool:=decide (-100000<n)&&decide (n<100000)
end Go.Sp
namespace Go.Pe
open Go.Det
abbrev Aaa:Sh:=.pair .str i64
def XT:Aq:=⟨[.str,i64,i64],fun i=>decide (List.length (α:=UInt8) i.1<=1000000)&&Sp.TA i.2.1&&Sp.TA i.2.2,[i64],fun i=>Sp.Gx i.1 i.2.1 i.2.2,false⟩
end Go.Pe
namespace Go.Sp
def Hc(a e bad c:Int):Bool:=if bad≠0 then decide (a=0)&&decide (e=bad)else decide (e=0)&&decide (a=c)
end Go.Sp
namespace Go.Pe
open Go.Det
def bJ:Aq:=⟨[AV],fun _=>true,[i64,.bool],fun a=>((a:Sp.AE).1,decide ((a:Sp.AE).2=[])),false⟩
def VR:Aq:=⟨[i64,i64,i64,i64],fun _=>true,[.bool],fun i=>Sp.Hc i.1 i.2.1 i.2.2.1 i.2.2.2,false⟩
end Go.Pe
namespace Go.Sp
def DK(q:Rat):Int:=(q+1/2).floor
def OkV(x:Ai):Prop:=∃X,Go.Pe.RS 2000 x X
def okV(x:Ai):Bool:=@decide (OkV x) (zj _)
theorem tV{x:Ai}(h:okV x=true):OkV x:=@w6 _ (zj _) h
theorem Zu{x:Ai}(h:OkV x):okV x=true:=@w4 _ (zj _) h
def CG(n a c:Int):Int:=if n<a\/c<n then 3 else 0
def rdQ(q:Rat)(p:Int):Rat:=(DK (q*p):Rat)/p
def qO(a:Ai)(p:Int):AE:=E5 (G1 (I8 a<|iF p)<|I7 (iF 1)<|iF 2).1 (G1 (I8 a<|iF p)<|I7 (iF 1)<|iF 2).2
def pX(a:Ai)(p:Int):Ai:=Tv (qO a p) (p,B7 p)
def vF(a:Ai)(p:Int):Int:=nS<|pX a p
def AaA(a:Ai)(p:Int):List Int:=nW<|pX a p
def zV(a:Ai)(p:Int):Int:=dS<|pX a p
def zP(a:Ai)(p:Int):List Int:=dW<|pX a p
def sT(x:Ai)(p:Int):Prop:=(∃X,Go.Pe.RS 2000 x X)/\1<=p/\p<=10
def jS(x:Ai)(p:Int):Bool:=@decide (sT x p) (zj _)
theorem mN{x:Ai}{p:Int}(h:jS x p=true):sT x p:=@w6 _ (zj _) h
theorem jK{x:Ai}{p:Int}(h:sT x p):jS x p=true:=@w4 _ (zj _) h
def qV(a:Ai):Int:=(pX a 1).1.1
def P6(a:Hz)(s:Int)(r:Hz)(p:Int):Int:=first [Gx a (-20) 60,CG s 55 155,Gx r 1 200,CG p 1 200]
def oX(a:Hz)(s:Int)(r:Hz)(p:Int):Rat:=AO a*s/100+AO r-p
def Z1(a:Hz)(s:Int)(r:Hz)(p:Int):Int:=if P6 a s r p≠0 then 0 else DK<|oX a s r p
def Gi(c p:Int):Int:=first [CG c (-99) 99,CG p 0 100]
def KI(c p:Int):Int:=if Gi c p≠0 then 0 else DK<|(c*p:Int)/100
def sI(s:Hz):Prop:=∃q,Nu 1300 s q/\(DK q).natAbs<1000000000
def ZB(s:Hz):Bool:=@decide (sI s) (zj _)
theorem kT{s:Hz}(h:ZB s=true):sI s:=@w6 _ (zj _) h
theorem W4{s:Hz}(h:sI s):ZB s=true:=@w4 _ (zj _) h
def UA(s:Hz):Bool:=GX s&&decide (s.length<=20)&&CP s&&decide ((Bg s).natAbs<1000000000)
end Go.Sp
namespace Go.Pe
open Sp
open Go.Det
def Aaj:Sh:=.pair i64<|.pair .str i64
def NJ:Aq:=⟨[i64,i64,i64],fun _=>true,[i64],fun i=>CG i.1 i.2.1 i.2.2,false⟩
def wK:Aq:=⟨[AR,i64],fun i=>jS i.1 i.2,[AR],fun i=>((vF i.1 i.2,AaA i.1 i.2),(zV i.1 i.2,zP i.1 i.2)),false⟩
def sQ:Aq:=⟨[AR],fun a=>Sp.okV a,[i64],fun a=>qV a,false⟩
def qL:Aq:=⟨[.str,i64,.str,i64],fun i=>decide (List.length (α:=UInt8) i.1<=1000000)&&decide (List.length (α:=UInt8) i.2.2.1<=1000000),[i64,i64],fun i=>(Z1 i.1 i.2.1 i.2.2.1 i.2.2.2,P6 i.1 i.2.1 i.2.2.1 i.2.2.2),false⟩
def rD:Aq:=⟨[i64,i64],fun _=>true,[i64,i64],fun i=>(KI i.1 i.2,Gi i.1 i.2),false⟩
def rX:Aq:=⟨[.str],fun s=>UA s,[i64,.bool],fun s=>(Bg s,true),false⟩
def vK:Aq:=⟨[.str],fun s=>ZB s,[i64],fun s=>DK<|AO s,false⟩
def xQ:Aq:=⟨[.str,i64,.str,i64],fun i=>decide (P6 i.1 i.2.1 i.2.2.1 i.2.2.2=0),[i64],fun i=>Z1 i.1 i.2.1 i.2.2.1 i.2.2.2,false⟩
def nT:Aq:=⟨[i64,i64],fun i=>decide (Gi i.1 i.2=0),[i64],fun i=>KI i.1 i.2,false⟩
def Us:Aq:=⟨[.str,Aaj,.pair i64 i64],fun _=>true,[.bool],fun _=>true,false⟩
def Ol:A0:=X7 []
def yH:A0:=X7 [(42,VK),(43,cF),(44,Wv),(46,S5),(165,dZ),(97,S8),(95,cE)]
def yK:A0:=X7 [(99,wK),(100,bJ)]
def uX:A0:=X7 [(61,Iw),(41,Zp),(43,cF),(64,oQ),(59,LW)]
def uL:A0:=X7 [(59,LW)]
def wD:A0:=X7 [(39,XT),(40,NJ),(38,HM),(41,Zp),(43,cF),(42,VK),(44,Wv),(46,S5),(47,nN),(45,sQ)]
def wL:A0:=X7 [(40,NJ),(38,HM),(43,cF),(44,Wv),(45,sQ)]
def xN:A0:=X7 [(48,Iw),(49,nE),(50,TV)]
def yB:A0:=X7 [(68,V5),(69,rX)]
def pS:A0:=X7 [(51,PB),(52,WE),(54,cN),(50,TV),(26,O9),(53,vK)]
def vW:A0:=X7 [(20,LW)]
def xA:A0:=X7 [(6,TY),(7,qL),(13,rD),(9,XT),(10,NJ),(8,HM),(11,VR),(12,xQ),(14,nT)]
def yV:A0:=X7 [(122,oA),(26,O9),(121,Vx),(51,PB)]
def vN:A0:=X7 [(109,Iz),(108,Rj)]
def dC:A0:=X7 [(123,QZ),(124,MD)]
section
open List Int Prod
namespace T3
def T(a:Rd)(c:Int×Rd×Int)(y:Int×Int):Tr:=tree xA false 9 3<|Af ([yq,Sh.pair i64 Aaa,Sh.pair i64 i64]) (a,c,y)
theorem Al(a:Rd)(c:Int×Rd×Int)(y:Int×Int):T a c y=let e:Tr:=.ck true<|.leaf (.dat qc true) [];let d:=Z1 a (fst c) (fst<|snd c)<|snd<|snd c;let i:=P6 a (fst c) (fst<|snd c)<|snd<|snd c;let k:=decide (length (fst<|snd c)<=1000000);let j:=imax (-99)<|CH 99<|fst y;let h':=imax 0<|CH 100<|snd y;let g:=decide (length a<=1000000);let f:Tr:=.ck true<|.ck true<|.ck true<|.ck true<|.ck true<|.ck true<|.ck true<|.ck (decide (2<=2)&&true&&decide (2<=1000000))<|.ck true<|.ck true<|.cd (Gi j h'=0)<|.ck true<|.leaf (.dat qc<|Hc (KI (fst y)<|snd y) (Gi (fst y)<|snd y) (zl [CG (fst y) (-99) 99,CG (snd y) 0 100])<|KI j h') [];let b':Tr:=.ite (zl [Gx a (-20) 60,CG (fst c) 55 155,Gx (fst<|snd c) 1 200,CG (snd<|snd c) 1 200]==0) (.cd (P6 a (fst c) (fst<|snd c) (snd<|snd c)=0)<|.ck true<|.ite (!Hc d i 0 d) (.leaf (.bl false) []) f) f;.ck true (.ite false e<|.di ((length a:Int)>20) e<|.di ((↑(length<|fst<|snd c):Int)>20) e<|.ck (g&&k)<|.ck (g&&TA (-20)&&TA 60)<|.ck true<|.ck (k&&TA 1&&TA 200)<|.ck true<|.ck (decide (4<=4)&&true&&decide (4<=1000000))<|.ite (zl [Gx a (-20) 60,CG (fst c) 55 155,Gx (fst<|snd c) 1 200,CG (snd<|snd c) 1 200] !=0) (.ck true<|.ite (!Hc d i (zl [Gx a (-20) 60,CG (fst c) 55 155,Gx (fst<|snd c) 1 200,CG (snd<|snd c) 1 200]) 0) (.leaf (.bl false) []) b') b'):=by kernel_rfl
end T3
namespace T9
def T(a:Rd)(c h:Int):Tr:=tree xN false 9 9<|Af ([yq,zp zh,zp zh]) (a,c,h)
theorem Al(a:Rd)(c h:Int):T a c h=let d:Tr:=.leaf (.dat i64<|BG a) [];let b':Tr:=.leaf (.dat i64 (3:Int)) [];.cd (length a<=1000000) (.ite (BG a==0) (.ck (QB c)<|.ck (Br a&&FV (N3 c))<|.di (X0 a (N3 c)<0) b'<|.ck (QB h)<|.ck (Br a&&FV (N3 h))<|.di (X0 a (N3 h)>0) b' d) d):=by kernel_rfl
end T9
namespace T69
def T(s:Rd):Tr:=tree dC false 9 69<|Af ([yq]) s
def L1(v5 c:Int)(d:Bool)(a:List Int):Tr:=re ((T []).L.R.R.L)<|AI 62 [(4,.ptr 0 0),(5,.dat i64 v5),(6,.dat i64 c)] [(0,.box [.dat qc d,.dat (Sh.list i64) a])] 1
theorem Al(s:Rd):T s=let a:Tr:=.leaf (.tup [.dat i64 (0:Int),.bl false]) [];.cd (length s<=1000000) (.ite (!GX s) a<|.di ((length s:Int)>20) a<|.ck (CP s)<|L1 0 (zf .i64<|(↑(length<|Du s):Int)-1) (EI s)<|Du s):=by kernel_rfl
theorem As(v5 c:Int)(e:Bool)(a:List Int):stepT dC (L1 v5 c e a)=let d:Tr:=.leaf (.tup [.dat i64 (0:Int),.bl false]) [];let f:=0-getD a (toNat c) 0;let l:=decide (v5<(-9223372036));let h':=zf .i64<|c-1;let i:=decide (v5>9223372036);let j:=L1 (zf .i64<|zf .i64 (v5*1000000000)+zf .i64 f) h' e a;let k:=L1 (zf .i64<|zf .i64 (v5*1000000000)+getD a (toNat c) 0) h' e a;let g:Tr:=.ite (v5==(-9223372036)) (.di (zf .i64 f<(-854775808)) d j) j;let b':Tr:=.ite (v5==(-9223372036)) (.di (getD a (toNat c) 0<(-854775808)) d k) k;.di (c>=0) (.ck (decide (0<=c)&&decide (c<(length a:Int)))<|.ite e (.ite i d<|.ite l d<|.ite (v5==9223372036) (.di (zf .i64 f>854775807) d g) g)<|.ite i d<|.ite l d<|.ite (v5==9223372036) (.di (getD a (toNat c) 0>854775807) d b') b') (.leaf (.tup [.dat i64 v5,.bl true]) []):=by kernel_rfl
end T69
namespace T68
def T(a u:Rd):Tr:=tree yV false 9 68<|Af ([yq,yq]) (a,u)
theorem Al(a u:Rd):T a u=let b':=([49,47,50]:Rd);let c:=F7 (HI a u) b';.ck (Br a&&XS u) (.ck (Br (HI a u)&&Br b')<|.ck (Br c)<|.ck (Br (Fg c)&&Br u)<|.leaf (.dat yq<|Ja (Fg c) u) []):=by kernel_rfl
end T68
namespace T50
def T(n:Int):Tr:=tree vN false 9 50<|Af ([zp zh]) n
theorem Al(n:Int):T n=.ck (B5 n) (.ck (Cb (Sp.rN n,Sp.rW n))<|.leaf (.dat yq<|FB (Sp.rN n,Sp.rW n)) []):=by kernel_rfl
end T50
namespace T53
def T(s:Rd):Tr:=tree yB false 9 53<|Af ([yq]) s
theorem Al(s:Rd):T s=.ck (jY s [(49:UInt8)]) (.ck (UA<|Yc s [(49:UInt8)])<|.leaf (.dat i64<|Bg<|Yc s [(49:UInt8)]) []):=by kernel_rfl
end T53
namespace T12
def T(a:Rd)(s:Int)(r:Rd)(p:Int):Tr:=tree pS false 9 12<|Af ([yq,zp zh,yq,zp zh]) (a,s,r,p)
theorem Al(a:Rd)(s:Int)(r:Rd)(p:Int):T a s r p=let b':=B4 s 100;let c:=F7 (Ja a b')<|Ll r<|N3 p;.ck (B5 s&&B5 100&&decide (100≠0)) (.ck (Br a&&Br b')<|.ck (QB p)<|.ck (Br r&&FV (N3 p))<|.ck (Br (Ja a b')&&Br (Ll r<|N3 p))<|.ck (ZB c)<|.leaf (.dat i64<|DK<|AO c) []):=by kernel_rfl
end T12
namespace T14
def T(c p:Int):Tr:=tree pS false 9 14<|Af ([zp zh,zp zh]) (c,p)
theorem Al(c p:Int):T c p=let a:=zf .i64<|c*p;.ck (B5 a&&B5 100&&decide (100≠0)) (.ck (ZB<|B4 a 100)<|.leaf (.dat i64<|DK<|AO<|B4 a 100) []):=by kernel_rfl
end T14
namespace T10
def T(n a h:Int):Tr:=tree vW false 9 10<|Af ([zp zh,zp zh,zp zh]) (n,a,h)
theorem Al(n a h:Int):T n a h=.di (n<a) (.ck true<|.leaf (.dat i64<|IA true 3) []) (.ck true<|.leaf (.dat i64<|IA (decide (n>h)) 3) []):=by kernel_rfl
end T10
namespace T20
def T(c:Bool)(e:Int):Tr:=tree Ol false 9 20<|Af ([qc,zp zh]) (c,e)
theorem Al(c:Bool)(e:Int):T c e=.ite c (.leaf (.dat i64 e) []) (.leaf (.dat i64 (0:Int)) []):=by kernel_rfl
end T20
namespace T8
def T(l:List Int):Tr:=tree Ol false 9 8<|Af ([Sh.list i64]) l
def L1(v0:List Int)(v3:Int):Tr:=re ((T []))<|AI 19 [(0,.dat (Sh.list i64) v0),(3,.dat i64 v3)] [] 0
theorem Al(l:List Int):T l=L1 l 0:=by kernel_rfl
theorem As(v0:List Int)(v3:Int):stepT Ol (L1 v0 v3)=let a:=decide (v3<(length v0:Int));.ite a (.ck (decide (0<=v3)&&a)<|.ite (getD v0 (toNat v3) 0 !=0) (.ck (decide (0<=v3)&&a)<|.leaf (.dat i64<|getD v0 (toNat v3) 0) [])<|L1 v0<|zf .i64<|v3+1) (.leaf (.dat i64 (0:Int)) []):=by kernel_rfl
end T8
namespace T11
def T(n e b w:Int):Tr:=tree Ol false 9 11<|Af ([zp zh,zp zh,zp zh,zp zh]) (n,e,b,w)
theorem Al(n e b w:Int):T n e b w=.ite (b !=0) (.ite (n==0) (.leaf (.dat qc<|e==b) [])<|.leaf (.bl false) []) (.ite (e==0) (.leaf (.dat qc<|n==w) [])<|.leaf (.bl false) []):=by kernel_rfl
end T11
namespace T7
def T(a:Rd)(s:Int)(r:Rd)(p:Int):Tr:=tree wD false 9 7<|Af ([yq,zp zh,yq,zp zh]) (a,s,r,p)
theorem Al(a:Rd)(s:Int)(r:Rd)(p:Int):T a s r p=let d:=((s,B7 s),1,B7 1);let e:=((100,B7 100),1,B7 1);let f:=((p,B7 p),1,B7 1);let c:=I7 (I8 (Tx a) d) e;let b':=RU (G1 c<|Tx r) f;.ck (decide (length a<=1000000)&&TA (-20)&&TA 60) (.ck true<|.ck (decide (length r<=1000000)&&TA 1&&TA 200)<|.ck true<|.ck (decide (4<=4)&&true&&decide (4<=1000000))<|.ite (zl [Gx a (-20) 60,CG s 55 155,Gx r 1 200,CG p 1 200] !=0) (.leaf (.tup [.dat i64 (0:Int),.dat i64<|zl [Gx a (-20) 60,CG s 55 155,Gx r 1 200,CG p 1 200]]) [])<|.ck (HD a)<|.ck true<|.ck (yv (Tx a)&&yv d)<|.ck true<|.ck (yv (I8 (Tx a) d)&&yv e&&decide (Sp.vI (100,B7 100)≠0))<|.ck (HD r)<|.ck (yv c&&yv (Tx r))<|.ck true<|.ck (yv (G1 c<|Tx r)&&yv f)<|.ck (Sp.okV b')<|.leaf (.tup [.dat i64<|qV b',.dat i64 (0:Int)]) []):=by kernel_rfl
end T7
namespace T13
def T(c p:Int):Tr:=tree wL false 9 13<|Af ([zp zh,zp zh]) (c,p)
theorem Al(c p:Int):T c p=let a:=((zf .i64<|c*p,B7<|zf .i64<|c*p),1,B7 1);let b':=((100,B7 100),1,B7 1);.ck true (.ck true<|.ck (decide (2<=2)&&true&&decide (2<=1000000))<|.ite (zl [CG c (-99) 99,CG p 0 100] !=0) (.leaf (.tup [.dat i64 (0:Int),.dat i64<|zl [CG c (-99) 99,CG p 0 100]]) [])<|.ck true<|.ck true<|.ck (yv a&&yv b'&&decide (Sp.vI (100,B7 100)≠0))<|.ck (Sp.okV<|I7 a b')<|.leaf (.tup [.dat i64<|qV<|I7 a b',.dat i64 (0:Int)]) []):=by kernel_rfl
end T13
namespace T99
def T(a:Ai)(p:Int):Tr:=tree yH false 9 99<|Af ([AR,zp zh]) (a,p)
theorem Al(a:Ai)(p:Int):T a p=let b':=I7 ((1,B7 1),1,B7 1) ((2,B7 2),1,B7 1);let d:=((p,B7 p),1,B7 1);let e:=Sh.nlist<|zp IntKind.u64;let c:=G1 (I8 a d) b';.ck true (.ck (yv a&&yv d)<|.ck true<|.ck true<|.ck true<|.ck (yv (I8 a d)&&yv b')<|.ck (yv c)<|.ck true<|.ck (Jy (uH c,uJ c) (p,B7 p))<|.leaf (PV.agg [.dat i64<|eA (uH c,uJ c) (p,B7 p),.dat e<|bX (uH c,uJ c) (p,B7 p),.dat i64<|eH (uH c,uJ c) (p,B7 p),.dat e<|dU (uH c,uJ c) (p,B7 p)]) []):=by kernel_rfl
end T99
namespace T45
def T(a:Ai):Tr:=tree yK false 9 45<|Af ([AR]) a
theorem Al(a:Ai):T a=.ck (jS a 1) (.ck true<|.leaf (.dat i64<|vF a 1) []):=by kernel_rfl
end T45
namespace T39
def T(a:Rd)(c h:Int):Tr:=tree uX false 9 39<|Af ([yq,zp zh,zp zh]) (a,c,h)
theorem Al(a:Rd)(c h:Int):T a c h=let d:=((c,B7 c),1,B7 1);let b':=((h,B7 h),1,B7 1);.cd (length a<=1000000) (.ite (BG a !=0) (.leaf (.dat i64<|BG a) [])<|.ck (HD a)<|.ck true<|.ck (Sp.F6 (Tx a)&&Sp.F6 d)<|.di (Lx (Tx a) d<0) (.ck true<|.leaf (.dat i64<|IA true 3) [])<|.ck true<|.ck (Sp.F6 (Tx a)&&Sp.F6 b')<|.ck true<|.leaf (.dat i64<|IA (decide (Lx (Tx a) b'>0)) 3) []):=by kernel_rfl
end T39
namespace T40
def T(n a h:Int):Tr:=tree uL false 9 40<|Af ([zp zh,zp zh,zp zh]) (n,a,h)
theorem Al(n a h:Int):T n a h=.di (n<a) (.ck true<|.leaf (.dat i64<|IA true 3) []) (.ck true<|.leaf (.dat i64<|IA (decide (n>h)) 3) []):=by kernel_rfl
end T40
namespace T59
def T(c:Bool)(e:Int):Tr:=tree Ol false 9 59<|Af ([qc,zp zh]) (c,e)
theorem Al(c:Bool)(e:Int):T c e=.ite c (.leaf (.dat i64 e) []) (.leaf (.dat i64 (0:Int)) []):=by kernel_rfl
end T59
namespace T38
def T(l:List Int):Tr:=tree Ol false 9 38<|Af ([Sh.list i64]) l
def L1(v5:List Int)(c a:Int):Tr:=re ((T []))<|AI 15 [(5,.dat (Sh.list i64) v5),(6,.dat i64 c),(7,.dat i64 a)] [] 0
theorem Al(l:List Int):T l=L1 l ((length l:Int)) 0:=by kernel_rfl
theorem As(v5:List Int)(c a:Int):stepT Ol (L1 v5 c a)=.di (a<c) (.ck (decide (0<=a)&&decide (a<(length v5:Int)))<|.ite (getD v5 (toNat a) 0 !=0) (.leaf (.dat i64<|getD v5 (toNat a) 0) [])<|L1 v5 c<|zf .i64<|a+1) (.leaf (.dat i64 (0:Int)) []):=by kernel_rfl
end T38
namespace T100
def T(a:Int×List Int):Tr:=tree Ol false 9 100<|Af ([AV]) a
theorem Al(a:Int×List Int):T a=.leaf (.tup [.dat i64<|fst a,.dat qc !decide (0<length (snd a))]) []:=by kernel_rfl
end T100
end
end Go.Pe
namespace Go.Sp
theorem Zb(n:Int):FB (rN n,rW n)=AX ((n:Int):Rat):=by rw[JP,Ps]
theorem KW{n:Int}{k:Nat}(h:n.natAbs<10^k)(a:1<=k):Nu k (AX (n:Rat)) (n:Rat):=by
 have c:10^1<=10^k:=Nat.pow_le_pow_right af a;refine⟨rfl,?_,?_⟩
 ·rw[Rat.num_intCast];exact h
 ·rw[qd];omega
theorem Nu.nz{k:Nat}{s:Rd}{q:Rat}(h:Nu k s q)(a:k<=1400)(h0:q≠0):XS s=true:=qA (h.FV a) fun e=>h0 ((h.Kd ae).1 e)
theorem IE{a:Hz}{d c:Int}(h:BG a=0):Gx a d c=if AO a<(d:Rat)\/(c:Rat)<AO a then 3 else 0:=by
 unfold Gx;rw[wc<|by rw[h];decide]
theorem MT{a:Hz}{d c:Int}(h:BG a≠0):Gx a d c=BG a:=by
 unfold Gx;rw[wd h]
theorem Rg{n:Int}(h:TA n=true):n.natAbs<10^6:=by
 unfold TA at h;rw[zi,w5,w5]at h;have:(10:Nat)^6=1000000:=rfl;omega
theorem Xr{v:Int}(h0:0<v)(h:v<1000000000):BA v=[v]:=by
 have d:Au B9 [v]:=fun x a=>by rw[yr.1 a];exact⟨by omega,h⟩
 have t:=En d;have e:Aj [v]=v:=by show v+(B9:Int)*0=v;omega
 rw[e]at t;rw[<-t];show(if v=0 then[]else[v])=[v];rw[wc ae]
theorem Nu.Fg{k:Nat}{s:Rd}{q:Rat}(h:Nu k s q):Nu k (Fg s) (q.floor:Rat):=⟨by unfold Sp.Fg;rw[h.rat,Ps],OH h.z⟩
theorem Z6{n:Int}{q:Rat}(h:(n:Rat)<=q):n<=DK q:=by
 unfold DK;exact Rat.le_floor_iff.2 ah
theorem aS{n:Int}{q:Rat}(h:q<=(n:Rat)):DK q<=n:=by
 refine Int.not_lt.1 fun x=>?_
 have y:((n+1:Int):Rat)<=q+1/2:=Rat.le_floor_iff.1 x;rw[Rat.intCast_add]at y;have:((1:Int):Rat)=1:=rfl;grind
theorem JE:∀ {l:List Int},first l=0->∀x∈l,x=0
 |[],_,x,a=>by cases a
 |y::l,h,x,a=>by
  unfold first at h
  split at h
  ·next c=>exact wh h c
  ·next c=>
   rcases List.mem_cons.1 a with rfl|a
   ·exact Classical.not_not.1 c
   ·exact JE h x a
theorem WX{a:Hz}{f e:Int}(h:Gx a f e=0):BG a=0/\(f:Rat)<=AO a/\AO a<=(e:Rat):=by
 by_cases c:BG a=0
 ·rw[IE c]at h;split at h
  ·cases h
  ·next d=>
   rw[not_or,Rat.not_lt,Rat.not_lt]at d;exact⟨c,d⟩
 ·rw[MT c]at h;exact wh h c
theorem IU{n a c:Int}(h:CG n a c=0):a<=n/\n<=c:=by
 unfold CG at h;split at h
 ·cases h
 ·omega
structure yS(a:Hz)(s:Int)(r:Hz)(p:Int):Prop where
 ca:BG a=0
 a1:(-20:Rat)<=AO a
 a2:AO a<=60
 s:55<=s/\s<=155
 cr:BG r=0
 r1:(1:Rat)<=AO r
 r2:AO r<=200
 p:1<=p/\p<=200
theorem Vu{a:Hz}{s:Int}{r:Hz}{p:Int}(h:P6 a s r p=0):yS a s r p:=by
 have z:=JE h;obtain⟨a1,a2,a3⟩:=WX<|z _<|zw ..;have s1:=IU<|z _<|zm _<|zw ..;obtain⟨r1,r2,r3⟩:=WX<|z _<|zm _<|zm _<|zw ..;have c:=IU<|z _<|zm _<|zm _<|zm _<|zw ..;exact⟨a1,a2,a3,s1,r1,r2,r3,c⟩
theorem pF{a:Hz}{s:Int}{r:Hz}{p:Int}(h:yS a s r p): -1000<=DK (oX a s r p)/\DK (oX a s r p)<=1000:=by
 have s1:((55:Int):Rat)<=(s:Rat):=zo.2 h.s.1;have s2:(s:Rat)<=((155:Int):Rat):=zo.2 h.s.2;have c:((1:Int):Rat)<=(p:Rat):=zo.2 h.p.1;have m:(p:Rat)<=((200:Int):Rat):=zo.2 h.p.2;have l:((55:Int):Rat)=55:=rfl;have g:((155:Int):Rat)=155:=rfl;have i:((1:Int):Rat)=1:=rfl;have j:((200:Int):Rat)=200:=rfl;have f:((1000:Int):Rat)=1000:=rfl;have k:((-1000:Int):Rat)= -1000:=rfl;have a1:=h.a1;have a2:=h.a2;have r1:=h.r1;have r2:=h.r2;have d:0<=(AO a+20)*(s:Rat):=Rat.mul_nonneg ah ah;have e:0<=(60-AO a)*(s:Rat):=Rat.mul_nonneg ah ah;unfold oX;refine⟨Z6 ?_,aS ?_⟩<;>grind
end Go.Sp
namespace Go.Pe
open Sp
open Go.Det
open Go.Sp (Ai)
theorem nC:RS 3 (I7 (Sp.iF 1)<|Sp.iF 2) (1/2):=by
 have o:RS 1 (Sp.iF 1) ((1:Int):Rat):=EC af af af;have t:RS 1 (Sp.iF 2) ((2:Int):Rat):=EC af af af;have d:=o.div t af af (by decide+kernel);have e:((1:Int):Rat)/((2:Int):Rat)=1/2:=by decide+kernel
 rw[e]at d;exact d.mono af
structure Rnd(k:Nat)(a:Ai)(q:Rat)(p:Int):Prop where
 P:RS 2 (Sp.iF p) (p:Rat)
 m:RS (k+2) (I8 a (Sp.iF p)) (q*p)
 s:RS (k+6) (G1 (I8 a (Sp.iF p)) (I7 (Sp.iF 1) (Sp.iF 2))) (q*p+1/2)
 j:Bd (qO a p)=true
 v:Sp.vI (qO a p)=DK (q*p)
 om:Jy (qO a p) (p,B7 p)=true
 r:RS (k+10) (pX a p) (Sp.rdQ q p)
theorem nF{k:Nat}{a:Ai}{q:Rat}{p:Int}(h:RS k a q)(d:k<=3000)(f:1<=p)(e:p<=10):Rnd k a q p:=by
 have P:RS 2 (Sp.iF p) (p:Rat):=EC ae af af;have m:=h.mul P ae af;have s:=m.add nC ae af;obtain⟨b,c⟩:=Xs s.r s.z ae;have i:B5 p=true:=ad ae ae;obtain⟨b1,b2⟩:=Q1 i;have p0:(p:Rat)≠0:=fun x=>by have:=yz.1 x;omega
 have j:Bd (qO a p)=true:=b;have v:Sp.vI (qO a p)=DK (q*p):=c;refine⟨P,m,s.mono ae,j,v,Ad (Ad j b1) (w4<|by rw[b2];omega),?_,?_⟩
 ·have r:=Ke j b1 (by rw[b2];omega);rw[b2,v,Rat.divInt_eq_div]at r;exact r
 ·exact((OH s.z).div P.z p0).mono ae
theorem bD{n:AE}(h:Dd n=true)(a:(Sp.vI n).natAbs<9223372036854775808):n.1=Sp.vI n:=by
 by_cases c:n.2=[]
 ·unfold Sp.vI;rw[wd c]
 ·exfalso;unfold Dd at h;simp only[zi,Bool.or_eq_true,w5,c,false_or]at h;obtain⟨_,⟨_,e⟩,d⟩:=h;unfold Sp.vI at a;rw[wc c]at a;split at a<;>omega
theorem oC{k:Nat}{a:Ai}{q:Rat}(h:RS k a q)(d:k<=3000)(c:(DK q).natAbs<9223372036854775808):qV a=DK q:=by
 have R:=nF (p:=1) h d af af;have e:q*((1:Int):Rat)=q:=by
  have:((1:Int):Rat)=1:=rfl;rw[this];grind
 have v:=R.v;rw[e]at v;have ok:Dd (qO a 1)=true:=((zi _ _).mp R.j).1;rw[<-bD ok (by rw[v];exact c)]at v;rw[<-v];unfold qV pX Tv KK;rw[wc af,wd af]
open Go.Sp (Ai Hz)
theorem Gt:DU Ol:=fun g sp h=>by cases h
namespace T38
theorem loop{Q:PV->Ob->Prop}(l:List Int)(j:l.length<=1000000)(a:∀ob,Q (.dat i64<|zl l) ob):∀(r:List Int) (i:Nat),l.drop i=r->i<=l.length->zl l=zl r->Ends Ol (L1 l ((l.length:Int)) (i:Int)) Q
 |[],i,h,f,e=>by
  have s:=drop_nil h f;refine yw (As ..) (zq (w8 ae)<|ze ?_);rw[e]at a;exact a _
 |x::r,i,h,f,e=>by
  obtain⟨q,g,m⟩:=drop_cons (d:=0) h;refine yw (As ..) ?_;conv=>zeta
  have k:=wn (i:=i) ae;rw[k,Int.toNat_natCast,g];refine zc (w4 ae) (zc (ad ae ae) ?_);by_cases c:x=0
  ·subst c;refine zq rfl (loop l j a r (i+1) m q ?_);rw[e];rfl
  ·have ex:zl (x::r)=x:=by unfold zl;rw[wd c]
   refine zc (by simpa using c)<|ze ?_;rw[e,ex]at a;exact a _
theorem ok:Ag Bh 38 HM:=by
 refine BX Gt<|fun(l:List Int) hl=>?_;exact zt (Al l)<|loop l (w6 hl) (fun ob=>z8 rfl rfl rfl) l 0 rfl (yu _) rfl
end T38
theorem T59.ok:Ag Bh 59 LW:=by
 refine BX Gt<|fun⟨c,e⟩ _=>?_;refine zt (T59.Al c e)<|zu (fun h=>ze<|z8 rfl rfl ?_)<|fun h=>ze<|z8 rfl rfl ?_
 ·show e=IA c e;rw[h];rfl
 ·show(0:Int)=IA c e;rw[h];rfl
theorem T100.ok:Ag Bh 100 bJ:=by
 refine BX Gt<|fun(a:AE) _=>?_;refine zt (T100.Al a)<|ze<|z8 rfl rfl ?_;show(a.1,!decide (0<a.2.length))=(a.1,decide (a.2=[]));cases a.2<;>rfl
theorem T97.ok:Ag Bh 97 S8:=T97n.ok
theorem dD:DU yH:=Aa T42.ok<|Aa T43.ok<|Aa T44.ok<|Aa T46.ok<|Aa T165.ok<|Aa T97.ok<|Aa T95.ok AT
theorem T99.ok:Ag Bh 99 wK:=by
 refine BX dD<|fun(i:Ai×Int) hi=>?_;obtain⟨a,p⟩:=i;obtain⟨⟨q,h⟩,p1,p2⟩:=mN hi;have R:=nF h af p1 p2;have o:RS 1 (Sp.iF 1) ((1:Int):Rat):=EC af af af;have t:RS 1 (Sp.iF 2) ((2:Int):Rat):=EC af af af;exact zt (T99.Al a p) (zc rfl (zc (h.uI R.P af af)<|zc rfl (zc rfl (zc (o.ok3 t af af<|by decide+kernel)<|zc (R.m.uI nC af af)<|zc (R.s.C6 af)<|zc rfl (zc R.om<|ze<|z8 rfl rfl rfl)))))
theorem cU:DU yK:=Aa T99.ok<|Aa T100.ok AT
theorem T45.ok:Ag Bh 45 sQ:=by
 refine BX cU<|fun(a:Ai) ha=>?_;exact zt (T45.Al a) (zc (jK ⟨tV ha,by decide,by decide⟩)<|zc rfl (ze<|z8 rfl rfl rfl))
theorem eQ:DU uX:=Aa T61.ok<|Aa T41.ok<|Aa T43.ok<|Aa T64.ok<|Aa T59.ok AT
theorem T39.ok:Ag Bh 39 XT:=by
 refine BX eQ<|fun(i:Hz×Int×Int) g=>?_;obtain⟨a,f,h⟩:=i;have g:(decide (a.length<=1000000)&&TA f&&TA h)=true:=g;rw[zi,zi,w5]at g;obtain⟨⟨hl,h1⟩,h2⟩:=g;have j:∀e ob,e=Gx a f h->Ac XT (a,f,h) (.dat i64 e) ob:=fun e ob x=>z8 rfl rfl x
 have L:=EC (n:=f) (Rg h1) af af;have H:=EC (n:=h) (Rg h2) af af;refine zt (T39.Al a f h)<|zc (w4 hl)<|zu (fun c=>ze<|j _ _ ?_)<|fun c=>?_
 ·have c:BG a≠0:=by simpa using c
  exact(MT c).symm
 ·have c:BG a=0:=by simpa using c
  obtain⟨o1,k⟩:=Up c;have A:=Y8 c;refine zc k (zc rfl (zc (Ad o1<|L.F6 af)<|zu (fun d=>zc rfl (ze<|j _ _ ?_))<|fun d=>zc rfl (zc (Ad o1<|H.F6 af)<|zc rfl (ze<|j _ _ ?_))))
  ·rw[IE c,wd<|.inl<|(A.UC L).1<|w6 d];rfl
  ·have d:=w7 d;rw[IE c];by_cases e:Lx (Tx a) ((h,B7 h),(1,B7 1))>0
   ·rw[wd<|.inr<|(A.fJ H).1 e];exact wi (fun b=>IA b 3)<|w4 e
   ·rw[wc<|not_or.2 ⟨fun x=>d<|(A.UC L).2 x,fun x=>e<|(A.fJ H).2 x⟩];exact wi (fun b=>IA b 3)<|w8 e
theorem fB:DU uL:=Aa T59.ok AT
theorem T40.ok:Ag Bh 40 NJ:=by
 refine BX fB<|fun(i:Int×Int×Int) _=>?_;obtain⟨n,a,h⟩:=i;have f:∀e ob,e=CG n a h->Ac NJ (n,a,h) (.dat i64 e) ob:=fun e ob x=>z8 rfl rfl x
 refine zt (T40.Al n a h)<|zu (fun c=>zc rfl (ze<|f _ _ ?_))<|fun c=>zc rfl (ze<|f _ _ ?_)
 ·unfold CG;rw[wd<|.inl<|w6 c];rfl
 ·have c:=w7 c;unfold CG IA;by_cases d:h<n
  ·rw[wd<|.inr d,w4 ae];rfl
  ·rw[wc ae,w8 ae];rfl
end Go.Pe
namespace Go.Sp
theorem oR{c p:Int}(h:Gi c p=0): -9900<=c*p/\c*p<=9900/\ -99<=DK ((c*p:Int)/100)/\DK ((c*p:Int)/100)<=99:=by
 have z:=JE h;have f:=IU<|z _<|zw ..;have a:=IU<|z _<|zm _<|zw ..;have i:c*p<=99*p:=yn f.2 a.1;have j: -99*p<=c*p:=yn f.1 a.1;have d: -9900<=c*p:=ae
 have e:c*p<=9900:=ae
 have q1:((-9900:Int):Rat)<=((c*p:Int):Rat):=zo.2 d;have l:((c*p:Int):Rat)<=((9900:Int):Rat):=zo.2 e;have g:((-9900:Int):Rat)= -9900:=rfl;have k:((9900:Int):Rat)=9900:=rfl;have m:((-99:Int):Rat)= -99:=rfl;have q:((99:Int):Rat)=99:=rfl;refine⟨d,e,Z6 ?_,aS ?_⟩<;>grind
end Go.Sp
namespace Go.Pe
open Sp
open Go.Det
open Go.Sp (Ai Hz)
theorem Ma:((100:Int):Rat)=100:=rfl
theorem dK:DU wD:=Aa T39.ok<|Aa T40.ok<|Aa T38.ok<|Aa T41.ok<|Aa T43.ok<|Aa T42.ok<|Aa T44.ok<|Aa T46.ok<|Aa T47.ok<|Aa T45.ok AT
theorem T7.ok:Ag Bh 7 qL:=by
 refine BX dK<|fun(i:Hz×Int×Hz×Int) d=>?_;obtain⟨a,s,r,p⟩:=i;have d:(decide (a.length<=1000000)&&decide (r.length<=1000000))=true:=d;rw[zi]at d;have f:∀v e ob,(v,e)=(Z1 a s r p,P6 a s r p)->Ac qL (a,s,r,p) (.tup [.dat i64 v,.dat i64 e]) ob:=fun v e ob h=>z8 rfl rfl h
 refine zt (T7.Al a s r p)<|zc (Ad (Ad d.1 rfl) rfl)<|zc rfl (zc (Ad (Ad d.2 rfl) rfl)<|zc rfl (zc rfl (zu (fun c=>ze<|f _ _ _ ?_)<|fun c=>?_)))
 ·have c:P6 a s r p≠0:=by
   have c:(P6 a s r p !=0)=true:=c;simpa using c
  unfold Z1;rw[wd c];rfl
 ·have c:P6 a s r p=0:=by
   have c:(P6 a s r p !=0)=false:=c;simpa using c
  have k:=Vu c;have A:RS 600 (Tx a) (AO a):=⟨Kz (Ds k.ca).1,(Ds k.ca).2⟩;have R:RS 600 (Tx r) (AO r):=⟨Kz (Ds k.cr).1,(Ds k.cr).2⟩;have S:RS 3 (Sp.iF s) (s:Rat):=EC (by have:=k.s;omega) af af;have H:RS 3 (Sp.iF 100) ((100:Int):Rat):=EC af af af;have P:RS 3 (Sp.iF p) (p:Rat):=EC (by have:=k.p;omega) af af;have h0:((100:Int):Rat)≠0:=by decide+kernel
  have M:=A.mul S af af;have D:=M.div H af af h0;have G:=D.add R af af;have B:=G.sub P af af;have g:=pF k;have v:=oC B af (by
   show(DK<|oX a s r p).natAbs<_;omega)
  have v:qV (RU (G1 (I7 (I8 (Tx a)<|Sp.iF s)<|Sp.iF 100)<|Tx r)<|Sp.iF p)=DK (oX a s r p):=v;refine zc (Up k.ca).2 (zc rfl (zc (A.uI S af af)<|zc rfl (zc (M.ok3 H af af h0)<|zc (Up k.cr).2<|zc (D.uI R af af)<|zc rfl (zc (G.uI P af af)<|zc (Zu ⟨_,B.mono af⟩)<|ze<|f _ _ _ ?_))));unfold Z1;rw[c,wc af];exact wi (·,(0:Int)) v
theorem cW:DU wL:=Aa T40.ok<|Aa T38.ok<|Aa T43.ok<|Aa T44.ok<|Aa T45.ok AT
theorem T13.ok:Ag Bh 13 rD:=by
 refine BX cW<|fun(i:Int×Int) _=>?_;obtain⟨c,p⟩:=i;have a:∀v e ob,(v,e)=(KI c p,Gi c p)->Ac rD (c,p) (.tup [.dat i64 v,.dat i64 e]) ob:=fun v e ob h=>z8 rfl rfl h
 refine zt (T13.Al c p)<|zc rfl (zc rfl (zc rfl (zu (fun k=>ze<|a _ _ _ ?_)<|fun k=>?_)))
 ·have k:Gi c p≠0:=by
   have k:(Gi c p !=0)=true:=k;simpa using k
  unfold KI;rw[wd k];rfl
 ·have k:Gi c p=0:=by
   have k:(Gi c p !=0)=false:=k;simpa using k
  obtain⟨f,g,d,j⟩:=oR k;rw[wr _ ae ae];have N:RS 4 (Sp.iF<|c*p) ((c*p:Int):Rat):=EC ae af af;have H:RS 3 (Sp.iF 100) ((100:Int):Rat):=EC af af af;have h0:((100:Int):Rat)≠0:=by decide+kernel
  have D:=N.div H af af h0;have v:=oC D af (by
   show(DK<|(c*p:Int)/100).natAbs<_;omega)
  have v:qV (I7 (Sp.iF<|c*p)<|Sp.iF 100)=DK ((c*p:Int)/100):=v;refine zc rfl (zc rfl (zc (N.ok3 H af af h0)<|zc (Zu ⟨_,D.mono af⟩)<|ze<|a _ _ _ ?_));unfold KI;rw[k,wc af];exact wi (·,(0:Int)) v
open Go.Sp (Hz)
namespace T8
theorem loop{Q:PV->Ob->Prop}(l:List Int)(j:l.length<=1000000)(a:∀ob,Q (.dat i64<|zl l) ob):∀(r:List Int) (i:Nat),l.drop i=r->i<=l.length->zl l=zl r->Ends Ol (L1 l (i:Int)) Q
 |[],i,h,f,e=>by
  have s:=drop_nil h f;refine yw (As ..) (zq (w8 ae)<|ze ?_);rw[e]at a;exact a _
 |x::r,i,h,f,e=>by
  obtain⟨q,g,m⟩:=drop_cons (d:=0) h;refine yw (As ..) ?_;conv=>zeta
  have k:=wn (i:=i) ae;rw[k,Int.toNat_natCast,g];refine zc (w4 ae) (zc (ad ae ae) ?_);by_cases c:x=0
  ·subst c;refine zq rfl (loop l j a r (i+1) m q ?_);rw[e];rfl
  ·have ex:zl (x::r)=x:=by unfold zl;rw[wd c]
   refine zc (by simpa using c) (zc (ad ae ae)<|ze ?_);rw[e,ex]at a;exact a _
theorem ok:Ag Bh 8 HM:=by
 refine BX Gt<|fun(l:List Int) hl=>?_;exact zt (Al l)<|loop l (w6 hl) (fun ob=>z8 rfl rfl rfl) l 0 rfl (yu _) rfl
end T8
theorem T20.ok:Ag Bh 20 LW:=by
 refine BX Gt<|fun⟨c,e⟩ _=>?_;refine zt (T20.Al c e)<|zu (fun h=>ze<|z8 rfl rfl ?_)<|fun h=>ze<|z8 rfl rfl ?_
 ·show e=IA c e;rw[h];rfl
 ·show(0:Int)=IA c e;rw[h];rfl
theorem cV:DU yV:=Aa T122.ok<|Aa T26.ok<|Aa T121.ok<|Aa T51.ok AT
theorem T68.ok:Ag Bh 68 V5:=by
 refine BX cV<|fun(i:Rd×Rd) c=>?_;obtain⟨a,u⟩:=i;have c:(Br a&&XS u&&Br (HI a u)&&Br (F7 (HI a u) [49,47,50])&&Br (Fg<|F7 (HI a u) [49,47,50]))=true:=c;simp only[zi]at c;obtain⟨⟨⟨⟨h1,h2⟩,h3⟩,h4⟩,h5⟩:=c;exact zt (T68.Al a u) (zc (Ad h1 h2)<|zc (Ad h3<|WC.num af)<|zc h4<|zc (Ad h5 (GM (Ug h2).1).1)<|ze<|z8 rfl rfl rfl)
theorem eB:DU vN:=Aa T109.ok<|Aa T108.ok AT
theorem T50.ok:Ag Bh 50 TV:=by
 refine BX eB<|fun(n:Int) c=>?_;have c:n.natAbs<9223372036854775808:=w6 c;have a:B5 n=true:=ad ae ae;refine zt (T50.Al n)<|zc a<|zc (Wm a)<|ze<|z8 rfl rfl ?_;exact Zb n
theorem YA:DU dC:=Aa T123.ok<|Aa T124.ok AT
namespace T69
theorem ok:Ag Bh 69 rX:=by
 refine BX YA<|fun(s:Rd) a=>?_;have a:UA s=true:=a;unfold UA at a;rw[zi,zi,zi,w5,w5]at a;obtain⟨⟨⟨w,l⟩,i⟩,r1⟩:=a;have d:∀(v:Int) ob,v=Bg s->Ac rX s (.tup [.dat i64 v,.bl true]) ob:=fun v ob e=>z8 rfl rfl (by rw[e];rfl)
 refine zt (Al s) (zc (w4 ae)<|zq (by rw[w];rfl) (zq (w8 ae)<|zc i ?_));have ad:=Ah<|Bg s;by_cases h:Bg s=0
 ·have c:Du s=[]:=by
   unfold Du Sp.rW;rw[h,show Ae 0=0 by rw[Ah];rfl];rfl
  rw[c];exact yw (As ..)<|zq rfl (ze<|d _ _ h.symm)
 ·have c:Du s=[Ae<|Bg s]:=by
   unfold Du Sp.rW;rw[Xr ae ae]
  have z:zf .i64 ((0:Int)*1000000000)=0:=rfl;rw[c];by_cases n:Bg s<0
  ·have g:EI s=true:=w4 n;rw[g];have f:zf .i64 (zf .i64 ((0:Int)*1000000000)+zf .i64 (0-Ae (Bg s)))=Bg s:=by
    rw[z,wr (0-Ae (Bg s)) ae ae,wr _ ae ae];omega
   refine yw (As ..)<|zc rfl (zc rfl (zc rfl (zq rfl (zq rfl (zq rfl (zq rfl ?_))))));show Ends dC (L1 (zf .i64<|zf .i64 ((0:Int)*1000000000)+zf .i64 (0-Ae (Bg s))) (zf .i64<|(0:Int)-1) true [Ae<|Bg s]) _;rw[f];exact yw (As ..)<|zq rfl (ze<|d _ _ rfl)
  ·have g:EI s=false:=w8 n;rw[g];have f:zf .i64 (zf .i64 ((0:Int)*1000000000)+Ae (Bg s))=Bg s:=by
    rw[z,wr _ ae ae];omega
   refine yw (As ..)<|zc rfl (zc rfl (zq rfl (zq rfl (zq rfl (zq rfl (zq rfl ?_))))));show Ends dC (L1 (zf .i64<|zf .i64 ((0:Int)*1000000000)+Ae (Bg s)) (zf .i64<|(0:Int)-1) false [Ae<|Bg s]) _;rw[f];exact yw (As ..)<|zq rfl (ze<|d _ _ rfl)
end T69
theorem UB:Sp.Nu 1 [49] 1:=by
 refine⟨by decide+kernel,?_⟩;unfold FX;decide+kernel
theorem wH{n:Int}(h:n.natAbs<1000000000):UA (AX (n:Rat))=true/\Bg (AX (n:Rat))=n:=by
 have e:AX (n:Rat)=Lib.itoa n:=by
  unfold AX;rw[qd,Rat.num_intCast,wd rfl]
 have r:=(D7 n).2.2.2;have z:FX 9 (n:Rat):=(KW (n:=n) (k:=9) ae af).z;have l:=J9 z af;have c:GX (AX (n:Rat))=true:=by
  unfold GX;rw[(Fc _).2.2,qd];rfl
 have b:CP (Lib.itoa n)=true:=by
  rw[e]at l;unfold CP;rw[w4 ae,qf];unfold Lib.itoa;by_cases n0:n<0
  ·rw[wd n0];exact CM _
  ·rw[wc n0,wc<|Ec<|CM _];exact CM _
 rw[<-e]at r b;refine⟨?_,r⟩;unfold UA;rw[r];exact Ad (Ad (Ad c<|w4 l) b)<|w4 h
theorem AaF{s:Hz}{q:Rat}(h:Sp.Nu 1300 s q)(c:(DK q).natAbs<1000000000):jY s [49]=true/\UA (Yc s [49])=true/\Bg (Yc s [49])=DK (AO s):=by
 have a:=h.HI UB (by decide+kernel);have ad:=a.F7 WC;have fl:=ad.Fg;have d:=fl.Ja UB;have e:((q/1+1/2).floor:Rat)*1=(DK q:Rat):=by
  unfold DK;rw[Rat.mul_one,show q/1=q by grind]
 have t:Yc s [49]=AX (DK q:Rat):=by
  show Ja (Fg<|F7 (HI s [49]) [49,47,50]) [49]=_;rw[d.t,e]
 obtain⟨f,z2⟩:=wH c;refine⟨?_,by rw[t];exact f,by rw[t,h.rat];exact z2⟩;unfold jY;rw[h.num af,a.num af,ad.num af,fl.num af,UB.nz af<|by decide+kernel];rfl
theorem YZ:DU yB:=Aa T68.ok<|Aa T69.ok AT
theorem T53.ok:Ag Bh 53 vK:=by
 refine BX YZ<|fun(s:Hz) hi=>?_;obtain⟨q,h,d⟩:=kT hi;obtain⟨a,b,c⟩:=AaF h d;exact zt (T53.Al s)<|zc a<|zc b<|ze<|z8 rfl rfl c
theorem Wh{n d:Int}{i j:Nat}(e:n.natAbs<10^i)(c:1<=i)(a:d.natAbs<10^j)(g:1<=j)(h0:d≠0):Sp.Nu (i+j) (B4 n d) ((n:Rat)/(d:Rat)):=by
 have f:(d:Rat)≠0:=fun x=>h0<|yz.1 x
 have z:=(KW e c).z.div (KW a g).z f;refine⟨?_,z⟩;unfold B4;rw[Rat.divInt_eq_div]
theorem Tg:DU pS:=Aa T51.ok<|Aa T52.ok<|Aa T54.ok<|Aa T50.ok<|Aa T26.ok<|Aa T53.ok AT
theorem T12.ok:Ag Bh 12 xQ:=by
 refine BX Tg<|fun(i:Hz×Int×Hz×Int) hi=>?_;obtain⟨a,s,r,p⟩:=i;have c:P6 a s r p=0:=w6 hi;have k:=Vu c;have A:=NU k.ca;have R:=NU k.cr;have ks:=k.s;have f:=k.p;have F:Sp.Nu 6 (B4 s 100) ((s:Rat)/((100:Int):Rat)):=Wh (i:=3) (j:=3) ae af af af af;have P:Sp.Nu 3 (N3 p) (p:Rat):=KW ae af;have M:=A.Ja F;have B:=R.Ll P;have G:=M.F7 B;have e:AO a*((s:Rat)/((100:Int):Rat))+(AO r-(p:Rat))=oX a s r p:=by
  unfold oX;rw[Ma];grind
 rw[e]at G;have g:=pF k;have d:B5 s=true:=ad ae ae;refine zt (T12.Al a s r p) (zc (Ad (Ad d rfl) rfl) (zc (Ad (A.num af)<|F.num af) (zc (w4 ae)<|zc (Ad (R.num af)<|P.FV af)<|zc (Ad (M.num af)<|B.num af)<|zc (W4 ⟨_,G.mono af,by omega⟩)<|ze<|z8 rfl rfl ?_)));show DK (AO _)=Z1 a s r p;unfold Z1;rw[G.rat,c,wc af]
theorem T14.ok:Ag Bh 14 nT:=by
 refine BX Tg<|fun(i:Int×Int) hi=>?_;obtain⟨c,p⟩:=i;have k:Gi c p=0:=w6 hi;obtain⟨b1,b2,b3,b4⟩:=oR k;have F:Sp.Nu 7 (B4 (c*p) 100) (((c*p:Int):Rat)/((100:Int):Rat)):=Wh (i:=4) (j:=3) ae af af af af;rw[Ma]at F;have a:B5 (c*p)=true:=ad ae ae;refine zt (T14.Al c p) ?_;conv=>zeta
 rw[wr _ ae ae];refine zc (Ad (Ad a rfl) rfl) (zc (W4 ⟨_,F.mono af,by omega⟩)<|ze<|z8 rfl rfl ?_);show DK (AO _)=KI c p;unfold KI;rw[F.rat,k,wc af]
theorem Z0:DU xN:=Aa T48.ok<|Aa T49.ok<|Aa T50.ok AT
theorem T9.ok:Ag Bh 9 XT:=by
 refine BX Z0<|fun(i:Hz×Int×Int) j=>?_;obtain⟨a,f,h⟩:=i;have j:(decide (a.length<=1000000)&&TA f&&TA h)=true:=j;rw[zi,zi,w5]at j;obtain⟨⟨hl,l⟩,k⟩:=j;have l:=Rg l;have k:=Rg k;have g:∀e ob,e=Gx a f h->Ac XT (a,f,h) (.dat i64 e) ob:=fun e ob x=>z8 rfl rfl x
 have L:Sp.Nu 6 (N3 f) (f:Rat):=KW l af;have H:Sp.Nu 6 (N3 h) (h:Rat):=KW k af;refine zt (T9.Al a f h)<|zc (w4 hl)<|zu (fun c=>?_)<|fun c=>ze<|g _ _ ?_
 ·have c:BG a=0:=by simpa using c
  have A:=NU c;have q:=A.cmp L;have m:=A.cmp H;refine zc (w4 ae) (zc (Ad (A.num af)<|L.FV af) (zu (fun d=>ze<|g _ _ ?_)<|fun d=>zc (w4 ae)<|zc (Ad (A.num af)<|H.FV af)<|zu (fun e=>ze<|g _ _ ?_)<|fun e=>ze<|g _ _ ?_))
  ·have d:=w6 d;rw[q]at d;have x:AO a<(f:Rat):=by
    refine yt fun x=>?_
    rw[wc x]at d;by_cases y:(f:Rat)<AO a
    ·rw[wd y]at d;omega
    ·rw[wc y]at d;omega
   rw[IE c,wd<|.inl x]
  ·have e:=w6 e;rw[m]at e;have y:(h:Rat)<AO a:=by
    refine yt fun y=>?_
    by_cases x:AO a<(h:Rat)
    ·rw[wd x]at e;omega
    ·rw[wc x,wc y]at e;omega
   rw[IE c,wd<|.inr y]
  ·have d:=w7 d;have e:=w7 e;rw[q]at d;rw[m]at e;rw[IE c,wc,c];rintro(x|x)
   ·rw[wd x]at d;omega
   ·have y:¬AO a<(h:Rat):=Rat.not_lt.2<|Rat.le_of_lt x;rw[wc y,wd x]at e;omega
 ·have c:BG a≠0:=by simpa using c
  exact(MT c).symm
theorem fK:DU vW:=Aa T20.ok AT
theorem T10.ok:Ag Bh 10 NJ:=by
 refine BX fK<|fun(i:Int×Int×Int) _=>?_;obtain⟨n,a,h⟩:=i;have f:∀e ob,e=CG n a h->Ac NJ (n,a,h) (.dat i64 e) ob:=fun e ob x=>z8 rfl rfl x
 refine zt (T10.Al n a h)<|zu (fun c=>zc rfl (ze<|f _ _ ?_))<|fun c=>zc rfl (ze<|f _ _ ?_)
 ·unfold CG;rw[wd<|.inl<|w6 c];rfl
 ·have c:=w7 c;unfold CG IA;by_cases d:h<n
  ·rw[wd<|.inr d,w4<|show n>h from d];rfl
  ·rw[wc ae,w8<|show ¬n>h from d];rfl
theorem T11.ok:Ag Bh 11 VR:=by
 refine BX Gt<|fun(i:Int×Int×Int×Int) _=>?_;obtain⟨n,e,b,w⟩:=i;have a:∀v ob,v=Hc n e b w->Ac VR (n,e,b,w) (.dat .bool v) ob:=fun v ob h=>z8 rfl rfl h
 have f:∀v ob,v=Hc n e b w->Ac VR (n,e,b,w) (.bl v) ob:=fun v ob h=>z8 rfl rfl h
 refine zt (T11.Al n e b w)<|zu (fun c=>zu (fun d=>ze<|a _ _ ?_)<|fun d=>ze<|f _ _ ?_)<|fun c=>zu (fun d=>ze<|a _ _ ?_)<|fun d=>ze<|f _ _ ?_
 ·have c:b≠0:=by simpa using c
  have d:n=0:=by simpa using d
  unfold Hc;rw[wd c,w4 d,qf];rfl
 ·have c:b≠0:=by simpa using c
  have d:¬n=0:=by simpa using d
  unfold Hc;rw[wd c,w8 d,Bool.false_and]
 ·have c:b=0:=by simpa using c
  have d:e=0:=by simpa using d
  unfold Hc;rw[wc ae,w4 d,qf];rfl
 ·have c:b=0:=by simpa using c
  have d:¬e=0:=by simpa using d
  unfold Hc;rw[wc ae,w8 d,Bool.false_and]
theorem YF:DU xA:=Aa ZF<|Aa T7.ok<|Aa T13.ok<|Aa T9.ok<|Aa T10.ok<|Aa T8.ok<|Aa T11.ok<|Aa T12.ok<|Aa T14.ok AT
abbrev Lq:Aq:=Us
theorem iG{e:Int}(h:e≠0):Hc 0 e e 0=true:=by
 unfold Hc;rw[wd h,w4 rfl,w4 rfl];rfl
theorem dN(n:Int):Hc n 0 0 n=true:=by
 unfold Hc;rw[wc af,w4 rfl,w4 rfl];rfl
theorem W3(a c n:Int)(h:a<=c):CG (imax a<|CH c n) a c=0:=by
 unfold CG;rw[wc];unfold imax CH;split<;>split<;>omega
theorem V2{d a n:Int}(h:CG n d a=0):imax d (CH a n)=n:=by
 unfold CG at h;by_cases c:n<d\/a<n
 ·rw[wd c]at h;cases h
 ·unfold imax CH;split<;>split<;>omega
theorem vL(c p:Int):Gi (imax (-99)<|CH 99 c) (imax 0<|CH 100 p)=0:=by
 unfold Gi;rw[W3 _ _ _ af,W3 _ _ _ af];rfl
theorem rI(c p:Int):Hc (KI c p) (Gi c p) (zl [CG c (-99) 99,CG p 0 100]) (KI (imax (-99)<|CH 99 c)<|imax 0<|CH 100 p)=true:=by
 show Hc (KI c p) (Gi c p) (Gi c p) _=true;by_cases k:Gi c p=0
 ·have d:CG c (-99) 99=0/\CG p 0 100=0:=by
   unfold Gi zl at k
   by_cases a:CG c (-99) 99=0
   ·rw[wc<|by simpa using a]at k;unfold zl at k
    by_cases b:CG p 0 100=0
    ·exact⟨a,b⟩
    ·rw[wd b]at k;exact wh k b
   ·rw[wd a]at k;exact wh k a
  rw[V2 d.1,V2 d.2,k];exact dN _
 ·have v:KI c p=0:=by unfold KI;rw[wd k]
  have w:∀e b w:Int,b≠0->e=b->Hc 0 e b w=true:=by
   intro e b w g f;unfold Hc;rw[wd g,w4 rfl,w4 f];rfl
  rw[v];exact w _ _ _ k rfl
theorem T3.ok:Ag Bh 3 Us:=by
 refine BX YF<|fun(i:Hz×(Int×Hz×Int)×(Int×Int)) _=>?_;obtain⟨a,c,y⟩:=i;have d:∀v ob,v=true->Ac Us (a,c,y) (.dat .bool v) ob:=fun v ob h=>z8 rfl rfl h
 refine zt (T3.Al a c y)<|zc rfl (zq rfl (zu (fun _=>zc rfl (ze<|d _ _ rfl))<|fun f=>zu (fun _=>zc rfl (ze<|d _ _ rfl))<|fun g=>?_));have f:=w7 f;have g:=w7 g;have e:decide (a.length<=1000000)=true:=w4 ae;have j:decide (c.2.1.length<=1000000)=true:=w4 ae;have P:=rI y.1 y.2;have l:decide (Gi (imax (-99)<|CH 99 y.1) (imax 0<|CH 100 y.2)=0)=true:=w4<|vL y.1 y.2;refine zc (Ad e j)<|zc (Ad (Ad e rfl) rfl)<|zc rfl (zc (Ad (Ad j rfl) rfl)<|zc rfl (zc rfl (zu (fun k=>?_)<|fun k=>?_)))
 ·have k:P6 a c.1 c.2.1 c.2.2≠0:=by
   have k:(P6 a c.1 c.2.1 c.2.2 !=0)=true:=k;simpa using k
  have v:Z1 a c.1 c.2.1 c.2.2=0:=by unfold Z1;rw[wd k]
  refine zc rfl (zq ?_<|zq ?_ ?_)
  ·show(!Hc (Z1 a c.1 c.2.1 c.2.2) (P6 a c.1 c.2.1 c.2.2) (P6 a c.1 c.2.1 c.2.2) 0)=false;rw[v,iG k];rfl
  ·show(P6 a c.1 c.2.1 c.2.2==0)=false;simpa using k
  ·exact zc rfl (zc rfl (zc rfl (zc rfl (zc rfl (zc rfl (zc rfl (zc rfl (zc rfl (zc rfl (zc l<|zc rfl (ze<|d _ _ P)))))))))))
 ·have k:P6 a c.1 c.2.1 c.2.2=0:=by
   have k:(P6 a c.1 c.2.1 c.2.2 !=0)=false:=k;simpa using k
  refine zc ?_<|zc (w4 k)<|zc rfl (zq ?_ ?_)
  ·show(P6 a c.1 c.2.1 c.2.2==0)=true;rw[k];rfl
  ·rw[k,dN];rfl
  ·exact zc rfl (zc rfl (zc rfl (zc rfl (zc rfl (zc rfl (zc rfl (zc rfl (zc rfl (zc rfl (zc l<|zc rfl (ze<|d _ _ P)))))))))))
end Go.Pe
namespace Go.Proofs.YtjbmodoofdpgcaaGreatDoor
open Go
set_option maxRecDepth 100000
theorem seatTie1:Tryz.prog.laidByTextLater [("math/bits.deBruijn32tab",Rows.laid_math_bits_deBruijn32tab),("math/bits.deBruijn64tab",Rows.laid_math_bits_deBruijn64tab),("internal/strconv.uint64pow10",Rows.laid_internal_strconv_uint64pow10),("unicode/utf8.acceptRanges",Rows.laid_unicode_utf8_acceptRanges),("strconv.ErrRange",Rows.laid_strconv_ErrRange),("strconv.ErrSyntax",Rows.laid_strconv_ErrSyntax)] [.data,.data,.data,.data,.sentinel,.sentinel] true:=
 Program.laidByTextLater_by_one 72 8 65 ag ag ag ag ag ag (fun _ _=>by kernel_rfl)
theorem noOwnUnsafe:Tryz.pinned.checked.prog.headLifts.contains "ownunsafe"=false:=by kernel_rfl
theorem fits1:Tryz.pinned.checked.prog.listedFits Rows.handicapCoursesRow.laid=true:=by
 unfold Program.listedFits;rw[noOwnUnsafe];kernel_rfl
theorem handicapCourses_row_tie:Rows.handicapCoursesRow.laidByTextAt .later Tryz.pinned [.data,.data,.data,.data,.sentinel,.sentinel,.pinned] true:=by
 refine OpenClaim.laidByTextAt_pinned rfl rfl seatTie1 rfl rfl rfl rfl (fun y a _e=>?_) fits1;simp only[Rows.handicapCoursesRow,List.zip_cons_cons,List.zip_nil_right,List.mem_cons,List.mem_nil_iff,or_false]at a;rcases a with rfl|rfl|rfl|rfl|rfl|rfl|rfl
 ·cases _e
 ·cases _e
 ·cases _e
 ·cases _e
 ·cases _e
 ·cases _e
 ·exact⟨by kernel_rfl,by kernel_rfl⟩
end Go.Proofs.YtjbmodoofdpgcaaGreatDoor
