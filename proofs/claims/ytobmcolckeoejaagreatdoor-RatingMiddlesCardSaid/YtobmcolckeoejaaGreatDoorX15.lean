import Derived.Test.YtobmcolckeoejaaGreatDoorX14
/- A part of a proof; no law is stated here. -/
noncomputable section
open List renaming getElem?_eq_getElem -> zc, getD_eq_getElem?_getD -> zd, getElem?_take_of_lt -> zi, all_eq_true -> zm, length_map -> zo, getElem_mem -> zq, length_range -> zw, length_take -> zx, getElem?_drop -> zy, mem_cons_self -> z6, mem_cons -> yc, getElem?_map -> yh, mem_cons_of_mem -> yk, length_drop -> yn, getElem_map -> yo, length_cons -> yq, getElem?_eq_some_iff -> yr, ext_getElem -> yx, mem_of_getElem? -> y7, length_pos_iff -> y9, pairwise_iff_getElem -> qd, length -> qe, countP_cons_of_pos -> ql, Perm -> qz
open Bool renaming and_eq_true -> ze, or_eq_false_iff -> yb, or_eq_true -> qo
open Classical renaming propDecidable -> zf, not_not -> yw
open Go.Pe.Ends renaming tt -> zg, leaf -> zj, ite -> zu, eq -> yy, An -> qg, ff -> qq
open Go.IntKind renaming wrap -> zh, i64 -> zn
open Go.Pe.Sh renaming list -> zk, str -> zr, bool -> ye, int -> yu
open Go.Sp renaming first -> zl, isName -> z8, B4 -> ym, pt -> qf, letter -> qm, B8 -> qp
open Option renaming getD_some -> zp
open Array renaming range -> zt, getElem?_eq_some_iff -> zz, length_toList -> yd, getElem?_toList -> yg, getElem?_append_left -> yj, size_range -> yp, getElem?_eq_getElem -> yt, getElem?_setIfInBounds -> y8, toList_inj -> qi
open Nat renaming eq_of_beq_eq_true -> z7, zero_le -> ya, le_refl -> yz, succ_lt_succ -> qj, beq -> qn
open Go.Sort renaming ahead -> yf
open Int renaming toNat_natCast -> yi, tdiv -> qy
open Go.Lib renaming bitLen -> yv
open Rat renaming le_of_mul_le_mul_right -> qc, not_lt -> qt, zero_add -> qu, ne_of_gt -> qv, le_trans -> qw
open Go.Pe.Ad renaming of -> qh
namespace Go.Pe
open Go.Det Go.RowKit
section
open Go.Proofs.Tryz (prog)
open Go.Sort (grow)
abbrev vJ:Srt:=⟨none⟩
theorem Aad:Hi prog (@NB vJ):=fun f q h=>by
 unfold NB vJ at h;cases a:qn f 95 with
 |true=>rw[a]at h;cases h
 |false=>rw[a]at h;cases h
theorem grown_of{W a:World}(c:Below W.heap.size W a)(i:W.drawn<=a.drawn):∃q os,a=grow (W.drewN q) os:=by
 refine⟨a.drawn-W.drawn,a.heap.extract W.heap.size a.heap.size,?_⟩;have m:=c.size;have e:a.heap=W.heap++a.heap.extract W.heap.size a.heap.size:=by
  apply Array.ext_getElem?;intro k;by_cases h:k<W.heap.size
  ·rw[yj h];exact c.block k h
  ·rw[Array.getElem?_append_right ae,Array.getElem?_extract];by_cases j:k<a.heap.size
   ·rw[wd ae,show W.heap.size+(k-W.heap.size)=k by omega]
   ·rw[wc ae,Array.getElem?_eq_none ae]
 have g:=c.os;have d:=c.tape;have f:=c.output;obtain⟨l,t1,s,o1,u1⟩:=W;obtain⟨j,t2,d2,o2,u2⟩:=a;simp only at g d f e i;subst g d f;unfold grow World.drewN;simp only[World.mk.injEq];exact⟨e,trivial,by omega,trivial,trivial⟩
theorem XL{S:Srt}(u:Hi prog (@NB S)){f:FuncId}{sp:Am}(ok:Af (@A5 S) f sp)(i:(BA sp.ins).T)(c:sp.pre i=true){args:List V}{args':Array Value}{W:World}(d:GW W)(y:KN (FW W) (Ag sp.ins i) args)
  (j:Aw (pW W) args args'.toList) {r:Value} (a:∀F' v,PC F' (one<|Ag sp.outs<|sp.f i) v->∀p v',Ae p v v'->v'=r) (hp:(@A5 S).prim f=none):
  Calls prog f args' W fun e A=>e=.returned r/\∃q os,A=grow (W.drewN q) os:=by
 letI:=S
 obtain⟨l,M,k,_,s⟩:=(ok.zero hp).run (FW W) (hW W) args i (fun b cs h=>by
  unfold FW at h;split at h
  case h_2=>cases h
  rename_i cs' t fz z;cases h;exact⟨t,fz,z⟩) (fun b o h=>(R_W W).lt h) d.h y c
 refine((Hs (mO u) RK Mr M).fn f args (hW W) l (k M<|yz _) (pW W) W args' (R_W W) d.p j).mono ?_;rintro e w' ⟨v,h',v',p',m,rfl,x,g⟩;obtain⟨_,_,_,F',_,_,_,hr⟩:=s _ m;exact⟨by rw[a F' v hr p' v' x],grown_of (cZ g) g.dr⟩
def F0(h:H)(b:Nat):Fz:=fun c=>bif qn c b then none else match h.get c with
 |some (.cells cs _ _)=>some cs
 |_=>none
theorem AcR{h:H}{b c:Nat}{cs:List V}(e:F0 h b c=some cs):c≠b/\∃t fz,h.get c=some (.cells cs t fz):=by
 unfold F0 at e;cases a:qn c b with
 |true=>rw[a]at e;cases e
 |false=>
  rw[a]at e;refine⟨(fun x=>by rw[x,Nat.beq_refl]at a;cases a),?_⟩;simp only[wg]at e;split at e
  ·next cs' t fz d=>cases e;exact⟨t,fz,d⟩
  ·cases e
def Sh.il:Sh->Bool
 | .int _=>true
 | .nlist (.int _)=>true
 | .pair a b=>a.il&&b.il
 |_=>false
section
variable {p:Pl}{h:H}{w W:World}{b r n:Nat}{o:O}
theorem later(hr:R p h w)(P:p[b]?=some (r,n))(Q:h.get b=some o)(f:∀j,j<w.heap.size->j≠r->W.heap[j]?=w.heap[j]?)(L:w.heap.size<=W.heap.size):∀(s:Sh) (x:s.T) (ds:List V) (vs:List Value),s.il=true->DC (F0 h b) s x ds->Aw p ds vs->DC (FW W) s x (vs.map<|Ku W.heap.size)
 | .int k,x,ds,vs,_,g,I=>by
  have g:ds=[.int k x]:=g;subst g;obtain⟨v,E,rfl,C,G⟩:=I;have G:E=[]:=G;have C:v=.int k x:=C;subst C G;rfl
 | .pair a c,x,ds,vs,Y,g,I=>by
  simp only[Sh.il,ze]at Y;simp only[DC]at g ⊢;obtain⟨u,z,rfl,d1,d2⟩:=g;have l:=I.length;rw[List.length_append]at l;have t1:Aw p u (vs.take u.length):=Aw.mk (by rw[zx];omega) fun i d v B A=>by
   have N:=(yr.1 B).1;rw[zi N]at A;obtain⟨v',M,F⟩:=I.get (i:=i) (d:=d) (by rw[List.getElem?_append_left N];exact B);rw[M]at A;cases A;exact F
  have t2:Aw p z (vs.drop u.length):=Aw.mk (by rw[yn];omega) fun i d v B A=>by
   rw[zy]at A;obtain⟨v',M,F⟩:=I.get (i:=u.length+i) (d:=d) (by rw[List.getElem?_append_right ae,Nat.add_sub_cancel_left];exact B);rw[M]at A;cases A;exact F
  exact⟨_,_,by rw[<-List.map_append,List.take_append_drop],later hr P Q f L a x.1 _ _ Y.1 d1 t1,later hr P Q f L c x.2 _ _ Y.2 d2 t2⟩
 | .nlist (.int k),(l:List Int),ds,vs,_,g,I=>by
  simp only[DC]at g ⊢;obtain⟨v,rfl,g⟩:=g;obtain⟨v',E,rfl,C,G⟩:=I;have G:E=[]:=G;subst G;refine⟨_,rfl,?_⟩;rcases g with⟨rfl,rfl⟩|⟨l0,b',off,cap,oo,S,rfl,hc,hF,J,_,U⟩
  ·have C:v'=.slice none 0 0:=C;subst C;exact .inl ⟨rfl,rfl⟩
  ·obtain⟨q,n',c,Z,rfl,g2,g3,_,_⟩:=C;obtain⟨nb,t,fz,hg⟩:=AcR hF;obtain⟨r'',n'',y,k1,k2,k3⟩:=hr.obj b' _ hg;rw[Z]at k1;cases k1;have ne:q≠r:=fun e=>nb<|hr.inj b' b _ _ _ _ _ hg Q (e▸Z) P
   obtain⟨D,fz',rfl,q1,q2,q3,_⟩:=k3;have q4:D.toList.length=n':=by rw[yd];exact q1
   have lt:q<w.heap.size:=(zz.1 k2).1;have lp:0<l.length:=y9.2 l0;have X:(yu k).sz=1:=rfl;rw[X,Nat.mul_one]at J;have hw:W.heap[q]?=some (.cells D t fz'):=(f q lt ne).trans k2;have fw:FW W q=some (D.toList.map<|Ku W.heap.size):=by
    unfold FW;rw[MP];unfold Mu;rw[hw];simp only;rw[wc ae]
   have tv:Ku W.heap.size (.slice (some ⟨q,off,none⟩) l.length c)=.sl q off l.length c 0:=by
    obtain⟨m,hm⟩:∃m,l.length=m+1:=⟨l.length-1,by omega⟩;rw[hm];show(if q<W.heap.size/\m+1<=c then V.sl q off (m+1) c 0 else V.junk)=_;rw[wd ⟨by omega,by omega⟩]
   refine .inr ⟨l0,q,off,c,0,_,tv,by omega,fw,by rw[X,Nat.mul_one,zo,q4];omega,.inl rfl,fun i N=>?_⟩;have B:=U i N;rw[X,Nat.mul_one]at B ⊢;have B:(S.drop<|off+i).take 1=[.int k l[i]]:=B;have A:S[off+i]?=some (.int k l[i]):=by
    have:=wi (fun l=>l[0]?) B;simpa [List.getElem?_take,zy]using this
   have K:off+i<D.toList.length:=ae
   have M:(D.toList.take S.length)[off+i]?=some D.toList[off+i]:=by
    rw[zi ae,zc K]
   have F:=q3.2 (off+i) _ _ A M rfl;have F:D.toList[off+i]=.int k l[i]:=F;show((D.toList.map<|Ku W.heap.size).drop<|off+i).take 1=[.int k l[i]];rw[List.drop_eq_getElem_cons (by rw[zo];exact K),yo,F];rfl
end
end
section
open Go.Proofs.Tryz (prog)
open Go.Sort (grow putRow putCells pdq SWO)
open Go.Proofs (ltOf sortWorldK)
open Go.Sort (HoldsK flatK putRowK)
open Go.Sp (Ab)
abbrev ix(n x:Nat):Nat:=if x<n then x else 0
def Se(l:List Ab)(x:Nat):Ab:=l.getD (ix l.length x) ((0,[]),0,[])
def bZ(l:List Ab)(x y:Nat):Int:=Sp.CW (Se l x)<|Se l y
def Dz(l:List Ab):List Nat:=(pdq (ltOf<|bZ l) (zt l.length) 0 l.length (yv l.length) true true).toList
def sY(x:Ab):Prop:=∃X,RS 4000 x X
theorem HY{l:List Ab}(h0:0<l.length)(h:∀x∈l,sY x)(x:Nat):sY (Se l x):=by
 have a:ix l.length x<l.length:=by unfold ix;split<;>omega
 have e:Se l x=l[ix l.length x]:=by
  unfold Se;rw[zd,zc a,zp]
 rw[e];exact h _<|zq a
theorem bD{l:List Ab}(h0:0<l.length)(h:∀x∈l,sY x):SWO (ltOf<|bZ l):=by
 have lt:∀x y X Y,RS 4000 (Se l x) X->RS 4000 (Se l y) Y->(ltOf (bZ l) x y=true↔X<Y):=fun x y X Y c d=>by
  unfold ltOf bZ;rw[w5];exact c.Us d
 refine⟨fun x=>?_,fun x y z a b=>?_,fun x y z a b=>?_⟩
 ·obtain⟨X,c⟩:=HY h0 h x;exact Bool.eq_false_iff.2 fun e=>Rat.lt_irrefl<|(lt x x X X c c).1 e
 ·obtain⟨X,c⟩:=HY h0 h x;obtain⟨Y,d⟩:=HY h0 h y;obtain⟨Z,hZ⟩:=HY h0 h z;rw[lt x y X Y c d]at a;rw[lt y z Y Z d hZ]at b;rw[lt x z X Z c hZ];grind
 ·obtain⟨X,c⟩:=HY h0 h x;obtain⟨Y,d⟩:=HY h0 h y;obtain⟨Z,hZ⟩:=HY h0 h z;have a:¬X<Y:=fun e=>by rw[(lt x y X Y c d).2 e]at a;cases a
  have b:¬Y<Z:=fun e=>by rw[(lt y z Y Z d hZ).2 e]at b;cases b
  refine Bool.eq_false_iff.2 fun e=>?_
  have e:=(lt x z X Z c hZ).1 e;grind
theorem Gt{l:List Ab}(h0:0<l.length)(h:∀x∈l,sY x):(Dz l).Perm (List.range l.length)/\∀i j:Nat,i<j->j<l.length->¬Sp.CW (Se l<|(Dz l).getD j 0) (Se l<|(Dz l).getD i 0)<0:=by
 obtain⟨⟨a1,_,a3⟩,b⟩:=Go.Sort.pdq_sorts (ltOf<|bZ l) (bD h0 h) (zt l.length) 0 l.length (yv l.length) true true (ya _) (by simp) (Or.inl rfl);have sz:(pdq (ltOf<|bZ l) (zt l.length) 0 l.length (yv l.length) true true).size=l.length:=by rw[a1];simp
 refine⟨?_,fun i j c e=>?_⟩
 ·have d:∀a:Array Nat,a.size=l.length->(a.extract 0 l.length).toList=a.toList:=fun a f=>by
   rw[<-f];simp
  rw[d _ sz,d _<|by simp]at a3;unfold Dz;simpa using a3
 ·have:=b i j (ya _) c e;unfold ltOf bZ at this;have g:∀k,k<l.length->(Dz l).getD k 0=(pdq (ltOf<|bZ l) (zt l.length) 0 l.length (yv l.length) true true)[k]! :=fun k m=>by
   unfold Dz;rw[zd,yg,getElem!_pos _ k ae,yt ae];rfl
  rw[g j e,g i ae];exact w7 this
def HF(cs:List V)(ks:List Nat):List V:=(List.range<|ks.length*4).map fun t=>cs.getD (ks.getD (t/4) 0*4+t % 4) .nils
structure pZ(h:H)(b n:Nat)(cs:List V)(fz:Nat×Nat)(l:List Ab):Prop where
 n:l.length=n
 n0:0<l.length
 n1:l.length<=1000000
 d:Dr (F0 h b) Ai l cs
 ok:∀x∈l,sY x
 fz:fz.2<=fz.1
 gh:Gh h
open Classical in
def MS:List V->H->Option (V×H)
 |[.sl b 0 n _ _,.fn (.func 81) [] []],h=>match h.get b with
  |some (.cells cs t fz)=>if hx:∃l,pZ h b n cs fz l then some (.tup [],h.put b<|.cells (HF cs<|Dz hx.choose) t fz)else none
  |_=>none
 |_,_=>none
instance srt1:Srt:=⟨some MS⟩
theorem Sy:(Fg.all fun x=>match x.2 with| .cells cs _ fz=>(cs.all fun c=>match c with| .int _ _=>true|_=>false)&&(qn fz.1 0&&qn fz.2 cs.length)&&Nat.blt 0 cs.length|_=>false)=true:=by kernel_rfl
section
variable {p:Pl}{h:H}{w W:World}{b r n:Nat}{o:O}
theorem tX(hr:R p h w)(u:Gp p)(s:Gh h)(I:p[b]?=some (r,n))(K:h.get b=some o)(l:∀x∈Fg,x.1≠b)(a:∀j,j<w.heap.size->j≠r->W.heap[j]?=w.heap[j]?):GW W:=fun x g=>by
 have z:=s x g;have C:=u x g;obtain⟨N,n',y,B,E,G⟩:=hr.obj x.1 _ z;rw[C]at B;cases B;have F:x.1≠r:=fun e=>l x g (hr.inj x.1 b _ _ r _ _ z K (by rw[C,e]) I)
 have lt:x.1<w.heap.size:=(zz.1 E).1;have q:=zm.1 Sy x g;obtain⟨i,ob⟩:=x;cases ob with
 |cells cs t fz=>
  simp only[ze]at q;obtain⟨⟨q1,f,d⟩,D⟩:=q;have f:=z7 f;have d:=z7 d;have D:0<cs.length:=Nat.le_of_ble_eq_true D;obtain⟨ca,fz',rfl,s1,s2,s3,_⟩:=G;have s1:ca.size=cs.length:=s1;unfold Mu;rw[a _ lt F,E];simp only;rw[wc ae];have e:ca.toList.map (Ku W.heap.size)=cs:=by
   refine yx (by rw[zo,yd,s1]) fun j L v=>?_
   have J:j<ca.toList.length:=by simpa using L
   have c:=zm.1 q1 cs[j]<|zq v;rw[yo];have M:(ca.toList.take cs.length)[j]?=some ca.toList[j]:=by rw[zi v,zc J]
   cases A:cs[j]with
   |int k m=>
    have:=s3.2 j _ _ (by rw[zc v,A]) M rfl;have this:ca.toList[j]=.int k m:=this;rw[this];rfl
   |_=>rw[A]at c;cases c
  rw[e,s1];obtain⟨Q,P⟩:=fz;simp only at f d;rw[f,d]
 |_=>cases q
end
end
section
open Go.Proofs.Tryz (prog)
open Go.Sort (grow putRow putCells pdq SWO)
open Go.Proofs (ltOf sortWorldK CmpLays)
open Go.Sort (HoldsK flatK putRowK)
open Go.Sp (Ab)
def fl1:V->Bool
 | .agg _| .tup _=>false
 |_=>true
theorem fU{p:Pl}:∀ {d:V} {v:Value},Ae p d v->fl1 d=true->v.oneCell'=true
 | .bool _,_,h,_=>by simp only[Ae]at h;subst h;rfl
 | .int _ _,_,h,_=>by simp only[Ae]at h;subst h;rfl
 | .str _,_,h,_=>by simp only[Ae]at h;subst h;rfl
 | .nilp,_,h,_=>by simp only[Ae]at h;subst h;rfl
 | .ptr _ _,_,h,_=>by simp only[Ae]at h;obtain⟨_,_,_,rfl⟩:=h;rfl
 | .nils,_,h,_=>by simp only[Ae]at h;subst h;rfl
 | .sl _ _ _ _ _,_,h,_=>by simp only[Ae]at h;obtain⟨_,_,_,_,rfl,_⟩:=h;rfl
 | .esl,_,h,_=>by simp only[Ae]at h;obtain⟨_,_,rfl⟩:=h;rfl
 | .es0,_,h,_=>by simp only[Ae]at h;obtain⟨_,rfl⟩:=h;rfl
 | .junk,_,h,_=>by simp only[Ae]at h
 | .nilm,_,h,_=>by simp only[Ae]at h;subst h;rfl
 | .map _,_,h,_=>by simp only[Ae]at h;obtain⟨_,_,_,rfl⟩:=h;rfl
 | .fn _ _ _,_,h,_=>by simp only[Ae]at h;obtain⟨_,_,rfl,_⟩:=h;rfl
 | .yld _,_,h,_=>by simp only[Ae]at h;obtain⟨_,_,_,rfl⟩:=h;rfl
 | .nilf,_,h,_=>by simp only[Ae]at h;subst h;rfl
 | .iface _ _,_,h,_=>by simp only[Ae]at h;obtain⟨_,rfl,_⟩:=h;rfl
 | .nili,_,h,_=>by simp only[Ae]at h;subst h;rfl
theorem QH{F:Fz}:∀(s:Sh) (x:s.T) (ds:List V),s.il=true->DC F s x ds->∀d∈ds,fl1 d=true
 | .int k,x,ds,_,e=>by
  have e:ds=[.int k x]:=e;subst e;intro d h;rw[List.mem_singleton.1 h];rfl
 | .pair a c,x,ds,f,e=>by
  simp only[Sh.il,ze]at f;simp only[DC]at e;obtain⟨u,z,rfl,i,g⟩:=e;intro d h;rcases List.mem_append.1 h with h|h
  ·exact QH a x.1 u f.1 i d h
  ·exact QH c x.2 z f.2 g d h
 | .nlist (.int k),l,ds,_,e=>by
  simp only[DC]at e;obtain⟨v,rfl,e⟩:=e;intro d h;rw[List.mem_singleton.1 h];rcases e with⟨_,rfl⟩|⟨_,b',off,cap,j,m,rfl,_⟩<;>rfl
def Gu(a:Array Value)(n x:Nat):List Value:=(a.toList.drop<|ix n x*4).take 4
theorem Sv{w:World}{r off:Nat}{d:Array Value}{c:Array Value}{t:TypeId}{fz:Nat×Nat}(h:w.heap[r]?=some (.cells c t fz)):(putRow id w r off d).heap=w.heap.setIfInBounds r (.cells (putCells id off d c) t fz):=by
 apply Array.ext_getElem?;intro k;show(w.heap.modify r _)[k]?=_;rw[Array.getElem?_modify,y8];by_cases e:r=k
 ·subst e;have a:r<w.heap.size:=(zz.1 h).1;rw[wd rfl,wd rfl,wd a,h];rfl
 ·rw[wc e,wc e]
theorem Ds(off:Nat)(d c:Array Value)(i:Nat):(putCells id off d c)[i]?=c[i]?.map fun x=>if off<=i/\i<off+d.size then d[i-off]! else x:=by
 unfold putCells;rw[Array.getElem?_mapIdx];rfl
theorem rC{F:Fz}{x:Ab}{ds:List V}(h:DC F Ai x ds):∃a b,ds[1]?=some a/\(a=.nils\/∃b' off len cap o,a=.sl b' off len cap o)/\b=a:=by
 simp only[DC]at h;obtain⟨u,z,rfl,⟨u1,u2,rfl,c,v,e,d⟩,_⟩:=h;have c:u1=[.int .i64 x.1.1]:=c;subst c e;refine⟨v,v,rfl,?_,rfl⟩;rcases d with⟨_,rfl⟩|⟨_,b',off,cap,f,g,rfl,_⟩
 ·exact .inl rfl
 ·exact .inr ⟨_,_,_,_,_,rfl⟩
theorem ZJ:Hi prog NB:=by
 intro f q hq p h w args args' v h' hr hgp ha Q;unfold NB srt1 at hq;cases hf:qn f 95 with
 |false=>rw[hf]at hq;cases hq
 |true=>
  rw[hf]at hq;cases hq;cases z7 hf;unfold MS at Q;split at Q
  case h_2=>cases Q
  rename_i b n c o;split at Q
  case h_2=>cases Q
  rename_i cs t fz hg;split at Q
  case isFalse=>cases Q
  rename_i U;have G:=U.choose_spec;generalize U.choose=l at*;cases Q;obtain⟨Gn,n0,n1,Gd,I,Gfz,Ggh⟩:=G;subst Gn;obtain⟨x,y,hl,g1,g2⟩:=ha.two;have:args'= #[x,y]:=qi.1 hl;subst this;simp only[Ae]at g1 g2;obtain⟨r,m,cp,k1,rfl,_,_,_,_⟩:=g1;obtain⟨u,z,rfl,u1,z1⟩:=g2;have u1:u= #[]:=qi.1 (by simpa using u1);have z1:z= #[]:=qi.1 (by simpa using z1);subst u1 z1;obtain⟨r',m',ob,j1,j2,j3⟩:=hr.obj b _ hg;rw[k1]at j1;cases j1;obtain⟨ca,fz',rfl,s1,s2,s3,s4⟩:=j3;have hcl:cs.length=l.length*4:=Gd.1;have cal:ca.toList.length=m:=by rw[yd];exact s1
  have E:∀x,ix l.length x<l.length:=fun x=>by unfold ix;split<;>omega
  have K:∀x,(Gu ca l.length x).length=4:=fun x=>by
   have:=E x;unfold Gu;rw[zx,yn];omega
  have R:∀j,j<cs.length->∃A:j<ca.toList.length,(cs.getD j .nils).ok=true->Ae p (cs.getD j .nils) ca.toList[j]:=fun j A=>by
   have hj2:j<ca.toList.length:=ae
   refine⟨hj2,fun F=>?_⟩;have g:cs[j]?=some (cs.getD j .nils):=by rw[zd,zc A];rfl
   exact s3.2 j _ _ g (by rw[zi A,zc hj2]) F
  have eD:∀x,DC (F0 h b) Ai (Se l x) ((cs.drop<|ix l.length x*4).take 4):=fun x=>by
   have:=Gd.2 (ix l.length x)<|E x;unfold Se;rw[zd,zc<|E x,zp];exact this
  have eR:∀x,Aw p ((cs.drop<|ix l.length x*4).take 4) (Gu ca l.length x):=fun x=>by
   have T:=E x;refine Aw.mk (by rw[K,zx,yn];omega) fun i d v g s=>?_
   have i4:i<4:=by
    have:=(yr.1 s).1;rw[K]at this;exact this
   have ok:=DC.ok (eD x) d<|y7 g;rw[zi i4,zy]at g;unfold Gu at s;rw[zi i4,zy]at s;obtain⟨A,c1⟩:=R (ix l.length x*4+i) ae;have e3:cs.getD (ix l.length x*4+i) .nils=d:=by rw[zd,g];rfl
   rw[zc A]at s;cases s;rw[e3]at c1;exact c1 ok
  have h1:∀x,∀v∈Gu ca l.length x,v.oneCell'=true:=fun x v Z=>by
   obtain⟨i,T,rfl⟩:=List.getElem_of_mem Z;have hl:=(eR x).length;have V:i<((cs.drop<|ix l.length x*4).take 4).length:=ae
   obtain⟨v',g,s⟩:=(eR x).get<|zc V;rw[zc T]at g;cases g;exact fU s<|QH Ai _ _ rfl (eD x) _ (zq V)
  have rl:r<w.heap.size:=(zz.1 j2).1;have gne:∀x∈Fg,x.1≠b:=fun x U e=>by
   have a1:=Ggh x U;rw[e,hg]at a1;have q:=zm.1 Sy x U;rw[<-Option.some.inj a1]at q;simp only[ze]at q;obtain⟨a,b',f1,f2,_⟩:=rC<|eD 0;have e0:ix l.length 0=0:=by unfold ix;split<;>rfl
   rw[e0,Nat.zero_mul,List.drop_zero,zi af]at f1;have:=zm.1 q.1.1 a<|y7 f1;rcases f2 with rfl|⟨_,_,_,_,_,rfl⟩<;>cases this
  have flat:∀(D:Array Nat) (j:Nat),j<D.size*4->(flatK (Gu ca l.length) 4 D)[j]! =ca.toList.getD (ix l.length (D[j/4]!)*4+j % 4) default:=fun(D:Array Nat) j A=>by
   rw[Go.Sort.get_flatK _ _ _ j A];have h4:j % 4<(Gu ca l.length<|D[j/4]!).length:=by rw[K];exact Nat.mod_lt _ af
   rw[getElem!_pos (Gu ca l.length<|D[j/4]!) (j % 4) h4];have h5:ix l.length (D[j/4]!)*4+j % 4<ca.toList.length:=by
    have:=E<|D[j/4]!;omega
   rw[zd,zc h5,zp];simp only[Gu,List.getElem_take,List.getElem_drop]
  have hH:HoldsK (Gu ca l.length) 4 w r 0 (zt l.length):=by
   intro j A;rw[Go.Sort.size_flatK,yp]at A;have g:ix l.length ((zt l.length)[j/4]!)=j/4:=by
    have:j/4<l.length:=ae
    rw[getElem!_pos _ _ (by rw[yp];exact this),Array.getElem_range];unfold ix;rw[wd this]
   have h5:j<ca.toList.length:=ae
   rw[flat _ j (by rw[yp];exact A),g,show j/4*4+j % 4=j by omega,zd,zc h5,zp];refine⟨?_,?_⟩
   ·unfold World.cell?;rw[j2];show ca[0+j]?=some _;rw[Nat.zero_add, <-yg,zc h5];rfl
   ·unfold World.frozen?;rw[j2];obtain⟨lo,T⟩:=fz';show(decide (lo<=0+j)&&decide (0+j<T))=false;rw[Bool.and_eq_false_iff,w9,w9];by_cases g:lo<=0+j
    ·refine .inr fun s=>?_
     have:=s4 (0+j) ae g s;omega
    ·exact .inl g
  have hcmp:CmpLays prog 81 #[] (Gu ca l.length) 4 (bZ l) r 0 (zt l.length).size w:=by
   intro B os dk _ x y;have C:∀j,j<w.heap.size->j≠r->(sortWorldK (Gu ca l.length) 4 w r 0 B dk os).heap[j]?=w.heap[j]?:=fun j h1 h2=>by
    show((putRow id (yf w B) r 0 _).heap++os)[j]?=_;have sz:(putRow id (yf w B) r 0<|flatK (Gu ca l.length) 4 dk).heap.size=w.heap.size:=Go.Sort.size_putRow ..;rw[yj (by rw[sz];exact h1),Sv (w:=yf w B) j2,y8,wc<|fun e=>h2 e.symm];rfl
   have hsz:w.heap.size<=(sortWorldK (Gu ca l.length) 4 w r 0 B dk os).heap.size:=by
    show _<=((putRow id (yf w B) r 0 _).heap++os).size;have sz:(putRow id (yf w B) r 0<|flatK (Gu ca l.length) 4 dk).heap.size=w.heap.size:=Go.Sort.size_putRow ..;rw[Array.size_append,sz];omega
   generalize sortWorldK (Gu ca l.length) 4 w r 0 B dk os=W at*;have L:=fun x=>later hr k1 hg C hsz Ai (Se l x) _ _ rfl (eD x) (eR x)
   have VV:∀x,Aw (pW W) ((Gu ca l.length x).map<|Ku W.heap.size) (Gu ca l.length x):=fun x=>Aw.mk (by rw[zo]) fun i d v g s=>by
    have ok:=DC.ok (L x) d<|y7 g;rw[yh,s]at g;cases g;exact Lr ok
   obtain⟨X,hX⟩:=HY n0 I x;obtain⟨Y,hY⟩:=HY n0 I y;refine XL (S:=vJ) Aad (@T81.ok vJ) (Se l x,Se l y) (Ac (hX.B8 af)<|hY.B8 af) (args:=[.agg _,.agg _]) (tX hr hgp Ggh k1 hg gne C) (KN.cons ((PC.B1<|L x).1 rfl)<|KN.cons ((PC.B1<|L y).1 rfl)<|fun ρ N=>by simp only[BE]) ?_ ?_ ag
   ·show Aw (pW W) _ [.agg _,.agg _];rw[Bh,Bh];exact⟨by simp only[Ae];exact⟨_,rfl,VV x⟩,by simp only[Ae];exact⟨_,rfl,VV y⟩,by simp⟩
   ·intro F' v Z p' v' hr';have Z:=Z (fun _=>none) 0;obtain rfl:=CH Z;simp only[Ae]at hr';exact hr'
  have J:=Go.Proofs.AnyQ.slices_SortFunc_eq (P:=prog) Afd 4 (fun w=>Go.Proofs.Tryz.isAgg63 w) (fun w=>Go.Proofs.Tryz.sizeOf63 w) (Gu ca l.length) K h1 (bZ l) (bD n0 I) 81 #[] r 0 cp (zt l.length) w (Go.Proofs.enters_of Go.Proofs.Tryz.func81 ag rfl) hcmp hH rl (by rw[yp];omega);rw[yp]at J;refine J.mono ?_;rintro e w' ⟨rfl,B,os,rfl⟩;have pf:=Gt n0 I;have il:(Dz l).length=l.length:=by rw[pf.1.length_eq,zw]
  have im:∀k,k<l.length->(Dz l).getD k 0<l.length:=fun k K=>by
   rw[zd,zc ae,zp];exact List.mem_range.1<|pf.1.mem_iff.1<|zq _
  have ig:∀k,k<l.length->(pdq (ltOf<|bZ l) (zt l.length) 0 l.length (yv l.length) true true)[k]! =(Dz l).getD k 0:=fun k K=>by
   have:k<(pdq (ltOf<|bZ l) (zt l.length) 0 l.length (yv l.length) true true).size:=by
    rw[<-yd];show k<(Dz l).length;omega
   unfold Dz;rw[zd,yg,getElem!_pos _ k this,yt this];rfl
  have ds:(pdq (ltOf<|bZ l) (zt l.length) 0 l.length (yv l.length) true true).size=l.length:=by
   rw[<-yd];exact il
  generalize hD:pdq (ltOf<|bZ l) (zt l.length) 0 l.length (yv l.length) true true=D at*;have M:Ext p h w p (h.put b<|.cells (HF cs<|Dz l) t fz) (putRow id (yf w B) r 0<|flatK (Gu ca l.length) 4 D):=by
   have pl:(HF cs<|Dz l).length=l.length*4:=by unfold HF;rw[zo,zw,il]
   refine Ext.put hr hg k1 (x':=.cells (putCells id 0 (flatK (Gu ca l.length) 4 D) ca) t fz') ?_ (Sv (w:=yf w B) j2) rfl rfl rfl ?_ (by show w.drawn<=w.drawn+B;omega)
   ·refine⟨_,fz',rfl,by simp[putCells,s1],by rw[pl];omega,⟨?_,?_⟩,s4⟩
    ·have:(putCells id 0 (flatK (Gu ca l.length) 4 D) ca).toList.length=m:=by simp[putCells,s1]
     rw[zx,pl,this];omega
    ·intro i d v g s F;have T:i<l.length*4:=by
      have:=(yr.1 g).1;rw[pl]at this;exact this
     have i4:i/4<l.length:=ae
     have hix:(Dz l).getD (i/4) 0*4+i % 4<cs.length:=by
      have:=im (i/4) i4;omega
     have g:d=cs.getD ((Dz l).getD (i/4) 0*4+i % 4) .nils:=by
      unfold HF at g;rw[yh,List.getElem?_range<|by rw[il];exact T]at g;exact(Option.some.inj g).symm
     rw[zi (by rw[pl];exact T),yg,Ds]at s;have hic:i<ca.size:=ae
     rw[yt hic]at s;simp only[Option.map_some,Option.some.injEq]at s;rw[wd ⟨ya _,by rw[Go.Sort.size_flatK,ds];omega⟩,Nat.sub_zero,flat D i (by rw[ds];exact T),ig _ i4]at s;have e5:ix l.length ((Dz l).getD (i/4) 0)=(Dz l).getD (i/4) 0:=by
      unfold ix;rw[wd<|im _ i4]
     rw[e5]at s;obtain⟨A,c1⟩:=R _ hix;rw[zd,zc A,zp]at s;rw[<-s,g];rw[g]at F;exact c1 F
   ·intro cs2 t2 fz2 he K;cases he;unfold Lk at K;omega
  refine⟨_,p,rfl,by simp[Ae],M.trans<|MC M.rel ⟨rfl,rfl,rfl,?_,fun j A=>?_⟩<|yz _⟩
  ·show _<=((putRow _ _ _ _ _).heap++os).size;rw[Array.size_append];exact Nat.le_add_right ..
  ·show((putRow _ _ _ _ _).heap++os)[j]?=_;exact yj A
end
end Go.Pe
namespace Go.Sp
def Ea(l:List Ab):List Ab:=(Go.Pe.Dz l).map<|Go.Pe.Se l
def Ri(l:List Ab):Bool:=@decide (l≠[]/\l.length<=1000000/\∀x∈l,Go.Pe.sY x) (zf _)
theorem UT{l:List Ab}(h:Ri l=true):l≠[]/\l.length<=1000000/\∀x∈l,Go.Pe.sY x:=@w6 _ (zf _) h
theorem Aaz{l:List Ab}(h:l≠[]/\l.length<=1000000/\∀x∈l,Go.Pe.sY x):Ri l=true:=@w4 _ (zf _) h
end Go.Sp
namespace Go.Pe
open Sp
open Go.Det
section
open Go.Sp (Ab)
def fnB:Option Fn->Bool
 |some (.func g)=>qn g 81
 |_=>false
def TL:Lj:=⟨[.fnv],63,Ai,fun i l=>fnB i&&Ri l,fun _ l=>Ea l,true⟩
theorem Pg{l:List Ab}(h:Ri l=true):(Ea l).length=l.length:=by
 obtain⟨h0,_,a⟩:=UT h;unfold Ea;rw[zo,(Gt (y9.2 h0) a).1.length_eq,zw]
theorem S8{F:Fz}:∀(s:Sh) (x y:s.T) (cs:List V),s.il=true->DC F s x cs->DC F s y cs->x=y
 | .int k,x,y,cs,_,f,d=>by
  have f:cs=[.int k x]:=f;have d:cs=[.int k y]:=d;rw[f]at d;cases d;rfl
 | .pair a c,x,y,cs,q,f,d=>by
  simp only[Sh.il,ze]at q;simp only[DC]at f d;obtain⟨u,z,rfl,C,L⟩:=f;obtain⟨u',z',e,f1,f2⟩:=d;obtain⟨rfl,rfl⟩:=List.append_inj e (by rw[C.len,f1.len]);exact Prod.ext (S8 a x.1 y.1 u q.1 C f1)<|S8 c x.2 y.2 z q.2 L f2
 | .nlist (.int k),(x:List Int),(y:List Int),cs,_,f,d=>by
  simp only[DC]at f d;obtain⟨v,rfl,f⟩:=f;obtain⟨v',e,d⟩:=d;cases e;rcases f with⟨rfl,rfl⟩|⟨l0,b',off,cap,E,N,rfl,P,M,A,_,l⟩
  ·rcases d with⟨rfl,_⟩|⟨_,b',off,cap,E,N,e,_⟩
   ·rfl
   ·cases e
  ·rcases d with⟨_,e⟩|⟨R,Q,B,t,D,I,e,J,j,m,_,g⟩
   ·cases e
   ·simp only[V.sl.injEq]at e;obtain⟨rfl,rfl,K,rfl,rfl⟩:=e;rw[M]at j;cases j;refine yx K fun i G i2=>?_
    have a:=l i G;have b:=g i i2;rw[a]at b;simpa using b
theorem pK{F:Fz}{a b:List Ab}{cs:List V}(h:Dr F Ai a cs)(k:Dr F Ai b cs):a=b:=by
 have l:a.length=b.length:=by
  have:=h.1.symm.trans k.1;have e:Ai.sz=4:=rfl;rw[e]at this;omega
 exact yx l fun i c i2=>S8 Ai _ _ _ rfl (h.2 i c) (k.2 i i2)
theorem iJ:FC A5 95 TL where
 prim:=by kernel_rfl
 fn:=Bd ag
 len:=fun i (l:List Ab) h=>by
  have h:(fnB i&&Ri l)=true:=h;rw[ze]at h;exact Pg h.2
 run:=by
  intro F h args (i:Option Fn) (l:List Ab) b cs fz o L A C f a I hd hfz hFb ho;have a:(fnB i&&Ri l)=true:=a;rw[ze]at a;obtain⟨q,u⟩:=a;obtain rfl:i=some (.func 81):=by
   unfold fnB at q;split at q
   ·next g=>rw[z7 q]
   ·cases q
  have X:args=[.fn (.func 81) [] []]:=by
   have:=f (fun _=>none) 0;simp only[Ag,TL,BE]at this;obtain⟨v,vs,rfl,D,rfl⟩:=this;have D:v=.fn (.func 81) [] []:=by simpa [PR,B1,DC]using D
   rw[D]
  subst X;have E:=UT u;obtain⟨h0,D,Q⟩:=E;have n0:=y9.2 h0;have J:∀c B,F c=some B->F0 h b c=some B:=fun c B s=>by
   obtain⟨t,z,e⟩:=L c B s;unfold F0;cases T:qn c b with
   |true=>rw[z7 T,hFb]at s;cases s
   |false=>simp only[wg,e]
  have V:cs.length=l.length*4:=hd.1;have G:pZ h b l.length cs fz l:=⟨rfl,n0,D,⟨hd.1,fun i q=>(hd.2 i q).mono J⟩,Q,hfz,C⟩;have P:=Gt n0 Q;have il:(Dz l).length=l.length:=by rw[P.1.length_eq,zw]
  have im:∀k,k<l.length->(Dz l).getD k 0<l.length:=fun k Z=>by
   rw[zd,zc ae,zp];exact List.mem_range.1<|P.1.mem_iff.1<|zq _
  have I:h.get b=some (.cells cs 63 fz):=I;have run:MS [.sl b 0 l.length l.length o,.fn (.func 81) [] []] h=some (.tup [],h.put b<|.cells (HF cs<|Dz l) 63 fz):=by
   unfold MS;simp only[I];have N:∃l',pZ h b l.length cs fz l':=⟨l,G⟩;rw[dif_pos N,pK N.choose_spec.d G.d]
  have pl:(HF cs<|Dz l).length=l.length*4:=by unfold HF;rw[zo,zw,il]
  have nd:Dr F Ai (Ea l) (HF cs<|Dz l):=by
   refine⟨by rw[pl,Pg u];rfl,fun i q=>?_⟩;have q:i<l.length:=by rw[<-Pg u];exact q
   have k:=im i q;have Y:(Ea l)[i]=l[(Dz l).getD i 0]:=by
    have e:(Dz l)[i]'ae=(Dz l).getD i 0:=by rw[zd,zc ae];rfl
    simp only[Ea,yo];rw[e];unfold Se ix;rw[wd k,zd,zc k,zp]
   have S:((HF cs<|Dz l).drop<|i*4).take 4=(cs.drop<|(Dz l).getD i 0*4).take 4:=by
    refine List.ext_getElem? fun j=>?_
    by_cases R:j<4
    ·rw[zi R,zi R,zy,zy];unfold HF;rw[yh,List.getElem?_range (by rw[il];omega),Option.map_some,show(i*4+j)/4=i by omega,show(i*4+j) % 4=j by omega,zd (l:=cs),zc ae];rfl
    ·rw[List.getElem?_eq_none (by rw[zx];omega),List.getElem?_eq_none<|by rw[zx];omega]
   show DC F Ai (Ea l)[i]<|((HF cs<|Dz l).drop<|i*4).take 4;rw[Y,S];exact hd.2 _ k
  refine⟨(.tup [],h.put b<|.cells (HF cs<|Dz l) 63 fz),1,fun m hm=>?_,rfl,yz _,fun c _ s=>?_,fun c y K=>?_,F,fun _ _ h=>h,fun _ _ h=>.inl h,fun c B s=>?_,_,fz,?_,nd,hfz⟩
  ·obtain⟨M,rfl⟩:∃M,m=M+1:=⟨m-1,by omega⟩;have U:A5.spec 95=some MS:=rfl;rw[Ba];simp only[U];show(match MS [.sl b 0 l.length l.length o,.fn (.func 81) [] []] h with|some x=>some [x]|none=>none)=_;rw[run]
  ·rw[H.B3,wc s]
  ·rw[H.B3]at K;rw[H.AdK];split at K
   ·next e=>rw[e];exact A _ _ I
   ·exact A _ _ K
  ·rw[H.B3];by_cases e:c=b
   ·subst e;rw[hFb]at s;cases s
   ·rw[wc e];exact L c B s
  ·rw[H.B3,wd rfl];rfl
 nils:=by
  intro F h args i L A C f a;have a:(fnB i&&Ri [])=true:=a;rw[ze]at a;exact wh rfl (UT a.2).1
end
end Go.Pe
namespace Go.Sp
def vG(p h n r:Rat):Rat:=if p<=h+r then p*h/(h+r)else h+(p-(h+r))*n/(n+r)
abbrev Fo:=BS×BS×BS×List BJ×List BJ
abbrev LX:=BS×Int
abbrev ED:=BS×BS×BS×BS×List LX
abbrev Ix:=BS×List Int
abbrev Bc:=List ED×List Ix×List Fo
def D9(a:BS)(d c:Int):Int:=if Av a≠0 then Av a else if Au a<(d:Rat)\/(c:Rat)<Au a then 3 else 0
def wI(seen:List BS):List BJ->Int
 |[]=>0
 |w::l=>if isName w.1=false then 8 else if has seen w.1=true then 9 else if Av w.2≠0 then Av w.2 else if Au w.2<0 then 3 else wI (w.1::seen) l
def Tn(l:List BJ):Int:=if 16<l.length then 5 else wI [] l
def bI:Option BS->List BJ->Int
 |_,[]=>0
 |none,p::l=>bI (some p.2) l
 |some y,p::l=>if Cf p.2 y<0 then 11 else bI (some p.2) l
def Rk(l:Fo):Int:=first [Cd (!isName l.1) 8,D9 l.2.1 1 10000,D9 l.2.2.1 1 10000,CN l.2.2.2.1]
def Xm(l:Fo):Int:=if Rk l≠0 then Rk l else if bI none l.2.2.2.1≠0 then bI none l.2.2.2.1 else Tn l.2.2.2.2
def xM:List LX->Int
 |[]=>0
 |o::l=>if isName o.1=false then 8 else if o.2<0\/10<o.2 then 3 else xM l
def fH(s:ED):Int:=first [D9 s.1 (-10000) 10000,D9 s.2.1 (-10000) 10000,D9 s.2.2.1 0 10000,D9 s.2.2.2.1 0 10000,Cd (decide (16<s.2.2.2.2.length)) 5]
def Tq(s:ED):Int:=if fH s≠0 then fH s else xM s.2.2.2.2
def LZ:List ED->Int
 |[]=>0
 |s::l=>if Tq s≠0 then Tq s else LZ l
def J9(l:List Int):Bool:=l.any fun n=>decide (n<1)||decide (10000<n)
def LC(n:Int)(seen:List BS):List Ix->Int
 |[]=>0
 |t::l=>if isName t.1=false then 8 else if has seen t.1=true then 9 else if (t.2.length:Int)≠n then 2 else if J9 t.2=true then 3 else LC n (t.1::seen) l
def Tj(seen:List BS):List Fo->Int
 |[]=>0
 |l::r=>if Xm l≠0 then Xm l else if has seen l.1=true then 9 else Tj (l.1::seen) r
def XR(c:Bc):Int:=if c.2.2=[]then 12 else if 8<c.2.2.length then 5 else Tj [] c.2.2
def Yt(c:Bc):Int:=if c.2.1=[]then 12 else if 8<c.2.1.length then 5 else if LC (c.1.length:Int) [] c.2.1≠0 then LC (c.1.length:Int) [] c.2.1 else XR c
def Va(c:Bc):Int:=if c.1=[]then 12 else if 36<c.1.length then 5 else if LZ c.1≠0 then LZ c.1 else Yt c
def Rv(l:List BJ)(n m:Nat):Bool:=l.all fun p=>decide (p.1.length<=n)&&decide (p.2.length<=m)
def Hy(l:Fo):Bool:=decide (l.1.length<=40)&&decide (l.2.1.length<=20)&&decide (l.2.2.1.length<=20)&&decide (l.2.2.2.1.length<=70)&&decide (l.2.2.2.2.length<=20)&&Rv l.2.2.2.1 20 20&&Rv l.2.2.2.2 40 20
def Gj(s:ED):Bool:=decide (s.1.length<=20)&&decide (s.2.1.length<=20)&&decide (s.2.2.1.length<=20)&&decide (s.2.2.2.1.length<=20)&&decide (s.2.2.2.2.length<=20)
def Na(t:Ix):Bool:=decide (t.1.length<=40)&&decide (t.2.length<=40)
def RD(c:Bc):Bool:=decide (c.1.length<=38)&&decide (c.2.1.length<=10)&&decide (c.2.2.length<=10)&&c.1.all Gj&&c.2.1.all Na&&c.2.2.all Hy
def Dy(c:Bc)(h:Int):ED:=c.1.getD h.toNat ([],[],[],[],[])
def Oi(c:Bc)(t h:Int):Int:=(c.2.1.getD t.toNat ([],[])).2.getD h.toNat 0
def Ft(c:Bc)(l:Int):Fo:=c.2.2.getD l.toNat ([],[],[],[],[])
def Yz(i n:Int):Bool:=decide (i<0)||decide (n<=i)
def N0(c:Bc)(b:Bool):Int:=if Va c≠0 then Va c else if b=true then 10 else 0
def dE(c:Bc)(t:Int):Bool:=Yz t (c.2.1.length:Int)
def eW(c:Bc)(h:Int):Bool:=Yz h (c.1.length:Int)
def fC(c:Bc)(l:Int):Bool:=Yz l (c.2.2.length:Int)
def Ahy(c:Bc)(t h:Int):Int:=N0 c<|dE c t||eW c h
def AfP(c:Bc)(t h l:Int):Int:=N0 c<|dE c t||(eW c h||fC c l)
def Ae7(c:Bc)(h l:Int):Int:=N0 c<|eW c h||fC c l
def plV(s:ED)(n:Int):Rat:=let p:=(n:Rat)+(Au s.1+Au s.2.1+Au s.2.2.1);if p<0 then 0 else p
def uO(c:Bc)(t h:Int):Rat:=plV (Dy c h)<|Oi c t h
def Aej(c:Bc)(t h l:Int):Rat:=vG (uO c t h) (Au (Ft c l).2.1) (Au (Ft c l).2.2.1)<|Au (Dy c h).2.2.2.1
def lookW:List BJ->BS->Rat
 |[],_=>0
 |w::l,k=>if w.1=k then Au w.2 else lookW l k
def obV(ws:List BJ):List LX->Rat
 |[]=>0
 |o::l=>lookW ws o.1*((o.2:Rat)/10)+obV ws l
def AeO(c:Bc)(h l:Int):Rat:=obV (Ft c l).2.2.2.2 (Dy c h).2.2.2.2
def W3(c:Bc)(t h l:Int):Rat:=U8 none (Agl (Ft c l).2.2.2.1) (Aej c t h l)+AeO c h l
def zF:Ab:=((0,Bo 0),(1,Bo 1))
def iF(n:Int):Ab:=((n,Bo n),(1,Bo 1))
def lL(c:Bc)(t h:Int):Ab:=BI (iF<|Oi c t h)<|BI (BI (BI zF<|BR (Dy c h).1)<|BR (Dy c h).2.1)<|BR (Dy c h).2.2.1
def TB(c:Bc)(t h:Int):Ab:=if Qk (lL c t h)<0 then zF else lL c t h
def Ks(c:Bc)(h:Int):Ab:=BR (Dy c h).2.2.2.1
def Iu(c:Bc)(l:Int):Ab:=BR (Ft c l).2.1
def WQ(c:Bc)(l:Int):Ab:=BR (Ft c l).2.2.1
def cR(c:Bc)(t h l:Int):Ab:=if CW (TB c t h) (BI (Iu c l)<|Ks c h)<=0 then Jb (Fq (TB c t h)<|Iu c l) (BI (Iu c l)<|Ks c h)else BI (Iu c l)<|Jb (Fq (E9 (TB c t h)<|BI (Iu c l)<|Ks c h)<|WQ c l)<|BI (WQ c l)<|Ks c h
def V7(ws:List BJ)(f:Ab):List LX->Ab
 |[]=>f
 |o::l=>match ws.find? fun w=>decide (w.1=o.1)with
  |some w=>V7 ws (BI f<|Fq (BR w.2)<|Sc (o.2,Bo o.2) (10,Bo 10)) l
  |none=>V7 ws f l
def obF(c:Bc)(h l:Int):Ab:=V7 (Ft c l).2.2.2.2 zF (Dy c h).2.2.2.2
def uQ:Option BJ->List BJ->Ab->Ab
 |none,[],_=>zF
 |some q,[],_=>BR q.2
 |o,p::l,x=>if CW x (BR p.1)>0 then uQ (some p) l x else match o with
  |none=>BR p.2
  |some q=>if CW x (BR p.1)=0 then BR p.2 else BI (BR q.2)<|Jb (Fq (E9 (BR p.2)<|BR q.2)<|E9 x<|BR q.1)<|E9 (BR p.1)<|BR q.1
def vlF(t:List BJ)(x:Ab):Ab:=uQ none t x
def rtF(c:Bc)(t h l:Int):Ab:=BI (vlF (Ft c l).2.2.2.1<|cR c t h l)<|obF c h l
def Ahk(c:Bc)(t h:Int):Int:=nS<|TB c t h
def Ahw(c:Bc)(t h:Int):List Int:=nW<|TB c t h
def AhC(c:Bc)(t h:Int):Int:=dS<|TB c t h
def AgS(c:Bc)(t h:Int):List Int:=dW<|TB c t h
def Ahe(c:Bc)(t h l:Int):Int:=nS<|cR c t h l
def AgI(c:Bc)(t h l:Int):List Int:=nW<|cR c t h l
def AgX(c:Bc)(t h l:Int):Int:=dS<|cR c t h l
def Ahr(c:Bc)(t h l:Int):List Int:=dW<|cR c t h l
def Ahu(c:Bc)(h l:Int):Int:=nS<|obF c h l
def Ahg(c:Bc)(h l:Int):List Int:=nW<|obF c h l
def AhH(c:Bc)(h l:Int):Int:=dS<|obF c h l
def Aht(c:Bc)(h l:Int):List Int:=dW<|obF c h l
def AhL(t:List BJ)(x:Ab):Int:=nS<|vlF t x
def Ag1(t:List BJ)(x:Ab):List Int:=nW<|vlF t x
def Ahz(t:List BJ)(x:Ab):Int:=dS<|vlF t x
def AhI(t:List BJ)(x:Ab):List Int:=dW<|vlF t x
def AgN(c:Bc)(t h l:Int):Int:=nS<|rtF c t h l
def AgF(c:Bc)(t h l:Int):List Int:=nW<|rtF c t h l
def AgH(c:Bc)(t h l:Int):Int:=dS<|rtF c t h l
def Ag9(c:Bc)(t h l:Int):List Int:=dW<|rtF c t h l
def V1(l:List (Int×Int)):Bool:=l.any fun p=>Yz p.1 p.2
def US(c:Bc)(l:List (Int×Int)):Int:=N0 c<|V1 l
def okP(c:Bc)(t h:Int):Bool:=RD c&&decide (Ahy c t h=0)
def iR(c:Bc)(t h l:Int):Bool:=RD c&&decide (AfP c t h l=0)
def okO(c:Bc)(h l:Int):Bool:=RD c&&decide (Ae7 c h l=0)
def Rf(n:Int):Bool:=decide (-100000<n)&&decide (n<100000)
end Go.Sp
namespace Go.Pe
open Sp
open Go.Det
abbrev Hy:Sh:=.pair .str<|.pair .str<|.pair .str<|.pair (.list Hb)<|.list Hb
abbrev eO:Sh:=.pair .str i64
abbrev Gj:Sh:=.pair .str<|.pair .str<|.pair .str<|.pair .str<|.list eO
abbrev Na:Sh:=.pair .str Adx
abbrev DG:Sh:=.pair (.list Gj)<|.pair (.list Na)<|.list Hy
def cNm:Am:=⟨[.str],fun _=>true,[.bool],fun s=>z8 s,false⟩
def vL:Am:=⟨[.str,i64,i64],fun i=>decide (qe (α:=UInt8) i.1<=1000000)&&Rf i.2.1&&Rf i.2.2,[i64],fun i=>D9 i.1 i.2.1 i.2.2,false⟩
def AdM:Am:=⟨[.list Hb],fun l=>Rv l 40 20,[i64],fun l=>Tn l,false⟩
def cLv:Am:=⟨[Hy],fun l=>Sp.Hy l,[i64],fun l=>Xm l,false⟩
def AdD:Am:=⟨[Gj],fun s=>Sp.Gj s,[i64],fun s=>Tq s,false⟩
def cCo:Am:=⟨[DG],fun c=>RD c,[i64],fun c=>Va c,false⟩
def Ug:Am:=⟨[DG,.list<|.pair i64 i64],fun i=>RD i.1&&decide (qe (α:=Int×Int) i.2<=1000),[i64],fun i=>US i.1 i.2,false⟩
def cPl:Am:=⟨[DG,i64,i64],fun i=>Sp.okP i.1 i.2.1 i.2.2,[Ai],fun i=>((Ahk i.1 i.2.1 i.2.2,Ahw i.1 i.2.1 i.2.2),(AhC i.1 i.2.1 i.2.2,AgS i.1 i.2.1 i.2.2)),false⟩
def cEf:Am:=⟨[DG,i64,i64,i64],fun i=>iR i.1 i.2.1 i.2.2.1 i.2.2.2,[Ai],fun i=>((Ahe i.1 i.2.1 i.2.2.1 i.2.2.2,AgI i.1 i.2.1 i.2.2.1 i.2.2.2),(AgX i.1 i.2.1 i.2.2.1 i.2.2.2,Ahr i.1 i.2.1 i.2.2.1 i.2.2.2)),false⟩
def cOb:Am:=⟨[DG,i64,i64],fun i=>Sp.okO i.1 i.2.1 i.2.2,[Ai],fun i=>((Ahu i.1 i.2.1 i.2.2,Ahg i.1 i.2.1 i.2.2),(AhH i.1 i.2.1 i.2.2,Aht i.1 i.2.1 i.2.2)),false⟩
def cRt:Am:=⟨[DG,i64,i64,i64],fun i=>iR i.1 i.2.1 i.2.2.1 i.2.2.2,[Ai],fun i=>((AgN i.1 i.2.1 i.2.2.1 i.2.2.2,AgF i.1 i.2.1 i.2.2.1 i.2.2.2),(AgH i.1 i.2.1 i.2.2.1 i.2.2.2,Ag9 i.1 i.2.1 i.2.2.1 i.2.2.2)),false⟩
def Agd[Srt]:AO:=X7 [(89,FL),(66,Jd),(81,Qt),(60,cF),(59,Hd)]
def uZ[Srt]:AO:=X7 [(152,cNm),(57,FR),(59,Hd),(89,FL),(66,Jd),(87,rH)]
def vU[Srt]:AO:=X7 [(152,cNm),(57,FR),(59,Hd),(193,vL),(195,aY),(66,Jd),(81,Qt),(196,AdM)]
def wW[Srt]:AO:=X7 [(152,cNm),(57,FR),(59,Hd),(193,vL)]
def Lx[Srt]:AO:=X7 [(58,TJ),(150,AdD),(152,cNm),(57,FR),(59,Hd),(153,cLv)]
def wQ[Srt]:AO:=X7 [(115,cCo),(59,Hd)]
def dO[Srt]:AO:=X7 []
end Go.Pe
namespace Go.Sp
def nTe(c:Bc):Int:=(c.2.1.length:Int)
def nLv(c:Bc):Int:=(c.2.2.length:Int)
end Go.Sp
namespace Go.Pe
open Go.Det
def Abv:Am:=⟨[DG,i64],fun _=>true,[.pair i64 i64],fun i=>(i.2,Sp.nTe i.1),false⟩
def bS:Am:=⟨[DG,i64],fun _=>true,[.pair i64 i64],fun i=>(i.2,Sp.nLv i.1),false⟩
def S7[Srt]:AO:=U9 [(65,[2])] [(65,[(2,[(3,DG),(7,Gj)])])] [(65,[(2,[1,2,3,6,7])])] [(66,Jd),(60,cF),(67,Hz),(87,rH)]
def rY[Srt]:AO:=U9 [(71,[4,6])] [(71,[(4,[(10,Ai),(11,Ai),(12,Ai),(13,Ai),(14,Ai)])])] [(71,[(4,[8,10,11,12,13,14]),(6,[8,10,11,12,13,14])])] [(65,cPl),(66,Jd),(81,Qt),(67,Hz),(61,cO),(74,Su),(68,RO)]
end Go.Pe
namespace Go.Sp
def fwP(l:List BJ)(d:Int):Bool:=l.all fun p=>Eb p.1 d&&Eb p.2 d
def fwW(l:List BJ)(d:Int):Bool:=l.all fun p=>Eb p.2 d
def yX(l:Fo)(n d:Int):Bool:=decide (l.1.length<=30)&&decide ((l.2.2.2.1.length:Int)<=n)&&decide ((l.2.2.2.2.length:Int)<=n)&&Eb l.2.1 d&&Eb l.2.2.1 d&&(fwP l.2.2.2.1 d&&fwW l.2.2.2.2 d)
def Aan(s:ED)(n d:Int):Bool:=decide ((s.2.2.2.2.length:Int)<=n)&&Eb s.1 d&&Eb s.2.1 d&&Eb s.2.2.1 d&&Eb s.2.2.2.1 d
def fwC(c:Bc)(n d:Int):Bool:=decide ((c.1.length:Int)<=n)&&decide ((c.2.1.length:Int)<=n)&&decide ((c.2.2.length:Int)<=n)&&(c.1.all (fun s=>Aan s n d)&&(c.2.2.all (fun l=>yX l n d)&&decide (Va c=0)))
theorem Bl(x:Int)(l:List Int):first (x::l)=0↔x=0/\first l=0:=by
 rw[first];by_cases h:x=0
 ·simp[h]
 ·simp[h]
theorem uD{b:Bool}{e:Int}(a:e≠0):Cd b e=0↔b=false:=by
 cases b
 ·exact⟨fun _=>rfl,fun _=>rfl⟩
 ·exact⟨fun h=>wh h a,fun h=>by cases h⟩
theorem FN{a:BS}{e c:Int}(h:D9 a e c=0):Av a=0/\(e:Rat)<=Au a/\Au a<=(c:Rat):=by
 unfold D9 at h;by_cases k:Av a=0
 ·rw[wc<|by simpa using k]at h;split at h
  ·exact wh h af
  ·next d=>
   rw[not_or]at d;exact⟨k,qt.1 d.1,qt.1 d.2⟩
 ·rw[wd k]at h;exact wh h k
structure fQ(s:ED):Prop where
 rise:Av s.1=0
 wind:Av s.2.1=0
 lay:Av s.2.2.1=0
 roll:Av s.2.2.2.1=0
 riseB:(-10000:Rat)<=Au s.1/\Au s.1<=10000
 windB:(-10000:Rat)<=Au s.2.1/\Au s.2.1<=10000
 layB:0<=Au s.2.2.1/\Au s.2.2.1<=10000
 rollB:0<=Au s.2.2.2.1/\Au s.2.2.2.1<=10000
 len:s.2.2.2.2.length<=16
 obs:∀o∈s.2.2.2.2,0<=o.2/\o.2<=10
theorem VE:∀ {l:List LX},xM l=0->∀o∈l,0<=o.2/\o.2<=10
 |[],_,o,a=>by cases a
 |x::l,h,o,a=>by
  unfold xM at h;split at h
  ·exact wh h af
  ·split at h
   ·exact wh h af
   ·next d=>
    rcases yc.1 a with rfl|a
    ·omega
    ·exact VE h o a
theorem iV{s:ED}(h:Tq s=0):fQ s:=by
 unfold Tq at h;by_cases k:fH s=0
 ·rw[wc<|by simpa using k]at h;unfold fH at k;rw[Bl,Bl,Bl,Bl,Bl]at k;obtain⟨f,d,c,e,a,_⟩:=k;rw[uD af]at a;have a:=w7 a;obtain⟨a1,a2,a3⟩:=FN f;obtain⟨b1,b2,b3⟩:=FN d;obtain⟨c1,c2,c3⟩:=FN c;obtain⟨d1,d2,d3⟩:=FN e;exact⟨a1,b1,c1,d1,⟨a2,a3⟩,⟨b2,b3⟩,⟨c2,c3⟩,⟨d2,d3⟩,by omega,VE h⟩
 ·rw[wd k]at h;exact wh h k
theorem Sm:∀ {l:List ED},LZ l=0->∀s∈l,Tq s=0
 |[],_,s,a=>by cases a
 |x::l,h,s,a=>by
  unfold LZ at h;by_cases k:Tq x=0
  ·rw[wc<|by simpa using k]at h;rcases yc.1 a with rfl|a
   ·exact k
   ·exact Sm h s a
  ·rw[wd k]at h;exact wh h k
theorem SM{n:Int}:∀ {l:List Ix} {seen:List BS},LC n seen l=0->∀t∈l,(t.2.length:Int)=n/\J9 t.2=false
 |[],_,_,t,a=>by cases a
 |x::l,seen,h,t,a=>by
  unfold LC at h;split at h
  ·exact wh h af
  ·split at h
   ·exact wh h af
   ·split at h
    ·exact wh h af
    ·next k=>
     split at h
     ·exact wh h af
     ·next d=>
      rcases yc.1 a with rfl|a
      ·exact⟨yw.1 k,by simpa using d⟩
      ·exact SM h t a
theorem YO{l:List Int}(h:J9 l=false):∀n∈l,1<=n/\n<=10000:=by
 intro n a;unfold J9 at h;rw[List.any_eq_false]at h;have:=h n a;rw[qo,w5,w5]at this;omega
theorem SB:∀ {l:List Fo} {seen:List BS},Tj seen l=0->∀x∈l,Xm x=0
 |[],_,_,x,a=>by cases a
 |y::l,seen,h,x,a=>by
  unfold Tj at h;by_cases k:Xm y=0
  ·rw[wc<|by simpa using k]at h;split at h
   ·exact wh h af
   ·rcases yc.1 a with rfl|a
    ·exact k
    ·exact SB h x a
  ·rw[wd k]at h;exact wh h k
theorem Vw:∀ {l:List BJ} {seen:List BS},wI seen l=0->(∀w∈l,Av w.2=0/\0<=Au w.2/\w.1∉seen)/\(l.map Prod.fst).Nodup
 |[],_,_=>⟨fun w hw=>(by cases hw),List.nodup_nil⟩
 |x::l,seen,h=>by
  unfold wI at h;split at h
  ·exact wh h af
  ·split at h
   ·exact wh h af
   ·next a=>
    have a:x.1∉seen:=by
     unfold has at a;simpa using a
    by_cases k:Av x.2=0
    ·rw[wc<|by simpa using k]at h;split at h
     ·exact wh h af
     ·next d=>
      obtain⟨c,i⟩:=Vw h;refine⟨fun w hw=>?_,?_⟩
      ·rcases yc.1 hw with rfl|hw
       ·exact⟨k,qt.1 d,a⟩
       ·obtain⟨j,g,m⟩:=c w hw;exact⟨j,g,fun x=>m<|yk _ x⟩
      ·rw[List.map_cons,List.nodup_cons];refine⟨fun f=>?_,i⟩;obtain⟨w,hw,e⟩:=List.mem_map.1 f;exact(c w hw).2.2 (by rw[e];exact z6 ..)
    ·rw[wd k]at h;exact wh h k
structure lT(l:Fo):Prop where
 head:Av l.2.1=0
 next:Av l.2.2.1=0
 headB:(1:Rat)<=Au l.2.1/\Au l.2.1<=10000
 nextB:(1:Rat)<=Au l.2.2.1/\Au l.2.2.1<=10000
 tab:CN l.2.2.2.1=0
 up:bI none l.2.2.2.1=0
 wlen:l.2.2.2.2.length<=16
 wts:∀w∈l.2.2.2.2,Av w.2=0/\0<=Au w.2
 one:(l.2.2.2.2.map Prod.fst).Nodup
theorem sA{l:Fo}(h:Xm l=0):lT l:=by
 unfold Xm at h;by_cases k:Rk l=0
 ·rw[wc<|by simpa using k]at h;by_cases u:bI none l.2.2.2.1=0
  ·rw[wc<|by simpa using u]at h;unfold Rk at k;rw[Bl,Bl,Bl,Bl]at k;obtain⟨_,g,f,i,_⟩:=k;obtain⟨a1,a2,a3⟩:=FN g;obtain⟨b1,b2,b3⟩:=FN f;unfold Tn at h;split at h
   ·exact wh h af
   ·next d=>
    obtain⟨a,e⟩:=Vw h;exact⟨a1,b1,⟨a2,a3⟩,⟨b2,b3⟩,i,u,by omega,fun w c=>⟨(a w c).1,(a w c).2.1⟩,e⟩
  ·rw[wd u]at h;exact wh h u
 ·rw[wd k]at h;exact wh h k
structure eG(c:Bc):Prop where
 s1:c.1≠[]/\c.1.length<=36
 t1:c.2.1≠[]/\c.2.1.length<=8
 l1:c.2.2≠[]/\c.2.2.length<=8
 st:∀s∈c.1,fQ s
 te:∀t∈c.2.1,t.2.length=c.1.length/\∀n∈t.2,1<=n/\n<=10000
 lv:∀l∈c.2.2,lT l
theorem WJ{c:Bc}(h:Va c=0):eG c:=by
 unfold Va at h;split at h
 ·exact wh h af
 next a1=>
 split at h
 ·exact wh h af
 next a2=>
 split at h
 ·next k=>exact wh h k
 next a3=>
 unfold Yt at h;split at h
 ·exact wh h af
 next j=>
 split at h
 ·exact wh h af
 next u=>
 split at h
 ·next k=>exact wh h k
 next a=>
 unfold XR at h;split at h
 ·exact wh h af
 next i=>
 split at h
 ·exact wh h af
 next m=>
 have a3:LZ c.1=0:=yw.1 a3;have a:LC (c.1.length:Int) [] c.2.1=0:=yw.1 a;refine⟨⟨a1,by omega⟩,⟨j,by omega⟩,⟨i,by omega⟩,fun s e=>iV<|Sm a3 s e,fun t g=>?_,fun l d=>sA<|SB h l d⟩;obtain⟨q,f⟩:=SM a t g;exact⟨by omega,YO f⟩
theorem HU{α:Type}{l:List α}{i:Nat}{d:α}(h:i<l.length):l.getD i d∈l:=by
 rw[zd,zc h];exact zq h
theorem Dl{i n:Int}(h:Yz i n=false):0<=i/\i<n:=by
 unfold Yz at h;rw[yb,w9,w9]at h;omega
theorem IY{c:Bc}{b:Bool}(h:N0 c b=0):Va c=0/\b=false:=by
 unfold N0 at h;split at h
 ·next k=>exact wh h k
 ·next k=>
  split at h
  ·exact wh h af
  ·next d=>exact⟨yw.1 k,by simpa using d⟩
theorem Pw{c:Bc}(h:RD c=true):c.1.length<=38/\c.2.1.length<=10/\c.2.2.length<=10/\(∀s∈c.1,Gj s=true)/\(∀t∈c.2.1,Na t=true)/\(∀l∈c.2.2,Hy l=true):=by
 unfold RD at h;rw[ze,ze,ze,ze,ze,w5,w5,w5,zm,zm,zm]at h;obtain⟨⟨⟨⟨⟨e,f⟩,a⟩,i⟩,d⟩,g⟩:=h;exact⟨e,f,a,i,d,g⟩
theorem aT{s:ED}(h:Gj s=true):s.1.length<=20/\s.2.1.length<=20/\s.2.2.1.length<=20/\s.2.2.2.1.length<=20/\s.2.2.2.2.length<=20:=by
 unfold Gj at h;rw[ze,ze,ze,ze,w5,w5,w5,w5,w5]at h;obtain⟨⟨⟨⟨d,e⟩,a⟩,f⟩,c⟩:=h;exact⟨d,e,a,f,c⟩
theorem T5{l:List BJ}{n m:Nat}(h:Rv l n m=true):∀p∈l,p.1.length<=n/\p.2.length<=m:=by
 intro p hp;unfold Rv at h;rw[zm]at h;have:=h p hp;rwa [ze,w5,w5]at this
structure Abe(l:Fo):Prop where
 name:l.1.length<=40
 head:l.2.1.length<=20
 next:l.2.2.1.length<=20
 tl:l.2.2.2.1.length<=70
 wl:l.2.2.2.2.length<=20
 tab:∀p∈l.2.2.2.1,p.1.length<=20/\p.2.length<=20
 wts:∀p∈l.2.2.2.2,p.1.length<=40/\p.2.length<=20
theorem ZZ{l:Fo}(h:Hy l=true):Abe l:=by
 unfold Hy at h;rw[ze,ze,ze,ze,ze,ze,w5,w5,w5,w5,w5]at h;obtain⟨⟨⟨⟨⟨⟨d,e⟩,a⟩,i⟩,c⟩,f⟩,g⟩:=h;exact⟨d,e,a,i,c,T5 f,T5 g⟩
theorem Z9{c:Bc}{h:Int}(a:eG c)(e:RD c=true)(d:eW c h=false):fQ (Dy c h)/\Gj (Dy c h)=true:=by
 obtain⟨h0,f⟩:=Dl d;have m:Dy c h∈c.1:=HU ae;exact⟨a.st _ m,(Pw e).2.2.2.1 _ m⟩
theorem xF{c:Bc}{l:Int}(a:eG c)(e:RD c=true)(d:fC c l=false):lT (Ft c l)/\Abe (Ft c l):=by
 obtain⟨h0,f⟩:=Dl d;have m:Ft c l∈c.2.2:=HU ae;exact⟨a.lv _ m,ZZ<|(Pw e).2.2.2.2.2 _ m⟩
theorem yO{c:Bc}{t h:Int}(a:eG c)(f:dE c t=false)(d:eW c h=false):1<=Oi c t h/\Oi c t h<=10000/\(c.2.1.getD t.toNat ([],[])).2.length=c.1.length:=by
 obtain⟨t0,t1⟩:=Dl f;obtain⟨h0,h1⟩:=Dl d;have m:c.2.1.getD t.toNat ([],[])∈c.2.1:=HU ae;obtain⟨e1,e2⟩:=a.te _ m;have e:Oi c t h∈(c.2.1.getD t.toNat ([],[])).2:=HU ae;have:=e2 _ e;exact⟨this.1,this.2,e1⟩
theorem sP(s:ED)(n:Int):plV s n=if (n:Rat)+(Au s.1+Au s.2.1+Au s.2.2.1)<0 then 0 else(n:Rat)+(Au s.1+Au s.2.1+Au s.2.2.1):=rfl
theorem Vf(ws:List BJ)(o:LX)(l:List LX):obV ws (o::l)=lookW ws o.1*((o.2:Rat)/10)+obV ws l:=by rw[obV]
theorem MT(k:BS):∀ws:List BJ,lookW ws k=match ws.find? fun w=>decide (w.1=k)with
  |some w=>Au w.2
  |none=>0
 |[]=>rfl
 |w::l=>by
  rw[lookW,List.find?_cons];by_cases h:w.1=k
  ·rw[wd h,w4 h]
  ·rw[wc h,w8 h];exact MT k l
end Go.Sp
namespace Go.Pe
open Sp
open Go.Det
open Go.Sp (Bc ED Fo BJ LX BS)
structure HoR(s:ED):Prop where
 rise:RS 20 (BR s.1) (Au s.1)
 wind:RS 20 (BR s.2.1) (Au s.2.1)
 lay:RS 20 (BR s.2.2.1) (Au s.2.2.1)
 roll:RS 20 (BR s.2.2.2.1) (Au s.2.2.2.1)
theorem rQ{s:ED}(h:fQ s)(k:Sp.Gj s=true):HoR s:=by
 obtain⟨e,c,a,d,_⟩:=aT k;exact⟨DZ h.rise e af,DZ h.wind c af,DZ h.lay a af,DZ h.roll d af⟩
structure LvR(l:Fo):Prop where
 head:RS 20 (BR l.2.1) (Au l.2.1)
 next:RS 20 (BR l.2.2.1) (Au l.2.2.1)
 hp:0<Au l.2.1
 np:0<Au l.2.2.1
 wts:∀w∈l.2.2.2.2,RS 20 (BR w.2) (Au w.2)
theorem W4:(0:Rat)<1:=by decide+kernel
theorem Ac7{l:Fo}(h:lT l)(k:Abe l):LvR l:=
 ⟨DZ h.head k.head af,DZ h.next k.next af,Std.lt_of_lt_of_le W4 h.headB.1,Std.lt_of_lt_of_le W4 h.nextB.1,fun w a=>DZ (h.wts w a).1 (k.wts w a).2 af⟩
structure AtP(c:Bc)(t h:Int):Prop where
 co:eG c
 sh:RD c=true
 t0:0<=t/\t<(c.2.1.length:Int)
 h0:0<=h/\h<(c.1.length:Int)
 te:1<=Oi c t h/\Oi c t h<=10000
 tl:(c.2.1.getD t.toNat ([],[])).2.length=c.1.length
 st:fQ (Dy c h)
 hr:HoR (Dy c h)
theorem X2{c:Bc}{t h:Int}(k:Sp.okP c t h=true):AtP c t h:=by
 unfold Sp.okP at k;rw[ze,w5]at k;obtain⟨sh,e⟩:=k;obtain⟨e1,e2⟩:=IY e;rw[yb]at e2;have co:=WJ e1;obtain⟨s1,s2⟩:=Z9 co sh e2.2;obtain⟨t1,t2,t3⟩:=yO co e2.1 e2.2;exact⟨co,sh,Dl e2.1,Dl e2.2,⟨t1,t2⟩,t3,s1,rQ s1 s2⟩
structure AtL(c:Bc)(l:Int):Prop where
 co:eG c
 sh:RD c=true
 l0:0<=l/\l<(c.2.2.length:Int)
 lv:lT (Ft c l)
 ls:Abe (Ft c l)
 lr:LvR (Ft c l)
theorem Zb{c:Bc}{t h l:Int}(k:iR c t h l=true):Sp.okP c t h=true/\Sp.okO c h l=true:=by
 unfold iR at k;rw[ze,w5]at k;obtain⟨sh,e⟩:=k;obtain⟨e1,e2⟩:=IY e;rw[yb,yb]at e2;have mk:∀b:Bool,b=false->N0 c b=0:=fun b a=>by
  unfold N0;rw[wc (by simpa using e1),a];rfl
 exact⟨Ac sh (w4<|mk _<|by rw[e2.1,e2.2.1];rfl),Ac sh<|w4<|mk _<|by rw[e2.2.1,e2.2.2];rfl⟩
theorem Pt{c:Bc}{h l:Int}(k:Sp.okO c h l=true):AtL c l/\(0<=h/\h<(c.1.length:Int))/\fQ (Dy c h)/\HoR (Dy c h):=by
 unfold Sp.okO at k;rw[ze,w5]at k;obtain⟨sh,e⟩:=k;obtain⟨e1,e2⟩:=IY e;rw[yb]at e2;have co:=WJ e1;obtain⟨l1,l2⟩:=xF co sh e2.2;obtain⟨s1,s2⟩:=Z9 co sh e2.1;exact⟨⟨co,sh,Dl e2.2,l1,l2,Ac7 l1 l2⟩,Dl e2.1,s1,rQ s1 s2⟩
theorem mK{n:Int}(h:1<=n/\n<=10000):RS 5 (Sp.iF n) (n:Rat):=FV ae af af
theorem pO{c:Bc}{t h:Int}(k:AtP c t h):RS 70 (lL c t h) ((Oi c t h:Rat)+(Au (Dy c h).1+Au (Dy c h).2.1+Au (Dy c h).2.2.1)):=by
 have z:RS 1 Sp.zF 0:=GJ;have a1:=z.add k.hr.rise af af;have a2:=a1.add k.hr.wind af af;have a3:=a2.add k.hr.lay af af;have a4:=(mK k.te).add a3 af af;rw[qu]at a4;exact a4.mono af
theorem AbO{c:Bc}{t h:Int}(k:AtP c t h):RS 70 (TB c t h) (uO c t h):=by
 have a:=pO k;unfold TB uO;rw[sP];by_cases s:Qk (lL c t h)<0
 ·rw[wd s,wd<|a.N1.1.1 s];exact(GJ).mono af
 ·rw[wc s,wc fun x=>s<|a.N1.1.2 x];exact a
theorem Ot{a b:Rat}(c:0<a)(d:0<=b):0<a+b:=ah
theorem AbR{c:Bc}{t h l:Int}(k:iR c t h l=true):RS 194 (cR c t h l) (Aej c t h l):=by
 obtain⟨kp,ko⟩:=Zb k;have P:=X2 kp;obtain⟨L,_,_,_⟩:=Pt ko;have p:=AbO P;have r:=P.hr.roll;have a:=P.st.rollB.1;have reach:=L.lr.head.add r af af;have e:=L.lr.next.add r af af;have h0:Au (Ft c l).2.1+Au (Dy c h).2.2.2.1≠0:=qv<|Ot L.lr.hp a;have n0:Au (Ft c l).2.2.1+Au (Dy c h).2.2.2.1≠0:=qv<|Ot L.lr.np a;unfold cR Aej vG Iu WQ Ks;by_cases s:CW (TB c t h) (BI (BR (Ft c l).2.1)<|BR (Dy c h).2.2.2.1)<=0
 ·rw[wd s,wd<|(p.Rb reach).1 s];exact((p.mul L.lr.head af af).div reach af af h0).mono af
 ·rw[wc s,wc fun x=>s<|(p.Rb reach).2 x];have d:=p.sub reach af af;have m:=d.mul L.lr.next af af;have q:=m.div e af af n0;exact(L.lr.head.add q af af).mono af
theorem PQ{n:Int}(h:0<=n/\n<=10):RS 2 (Sc (n,Bo n) (10,Bo 10)) ((n:Rat)/10):=by
 have a:Cv n=true:=by
  unfold Cv;exact ad ae ae
 obtain⟨a1,a2⟩:=GY a;obtain⟨b1,b2⟩:=GY (n:=10) rfl;have r:=JV a1 b1 (by rw[b2];decide);rw[a2,b2]at r;have e:Rat.divInt n 10=(n:Rat)/10:=by rw[Rat.divInt_eq_div];rfl
 rw[e]at r;exact⟨r,by rw[<-e];exact HI af ae af⟩
theorem uI{ws:List BJ}(e:∀w∈ws,RS 20 (BR w.2)<|Au w.2):∀ {l:List LX} {K:Nat} {f:Ab} {q:Rat},(∀o∈l,0<=o.2/\o.2<=10)->RS K f q->K+23*l.length<=4000->RS (K+23*l.length) (V7 ws f l) (q+Sp.obV ws l)
 |[],K,f,q,_,c,_=>by
  show RS K f<|q+0;rw[Rat.add_zero];exact c
 |o::l,K,f,q,g,c,s=>by
  rw[yq]at s ⊢;have j:=g o<|z6 ..;have i:=fun x k=>g x<|yk _ k
  rw[Vf,MT,V7];cases d:ws.find? fun w=>decide (w.1=o.1)with
  |none=>
   simp only;rw[Rat.zero_mul,qu];exact(uI e i c ae).mono ae
  |some w=>
   simp only;have t:=List.mem_of_find?_eq_some d;have m:=(e w t).mul (PQ j) af af;have a:=c.add m ae af;have:=uI e (l:=l) i a ae;rw[<-Rat.add_assoc];exact this.mono ae
theorem kW{c:Bc}{h l:Int}(k:Sp.okO c h l=true):RS 369 (Sp.obF c h l) (AeO c h l):=by
 obtain⟨L,_,S,_⟩:=Pt k;have:=uI L.lr.wts (K:=1) (f:=Sp.zF) (q:=0) S.obs GJ (by have:=S.len;omega);rw[qu]at this;exact this.mono (by have:=S.len;omega)
theorem AdU{u v a b:Rat}(h:a<b):u+(v-u)*(b-a)/(b-a)=v:=by
 have h0:b-a≠0:=Po h;rw[Rat.mul_div_cancel h0];grind
theorem tO{x:Ab}{X:Rat}{K:Nat}(f:RS K x X)(z:K<=2000):∀(l:List BJ) (o:Option BJ),(o=none->l≠[])->(∀q,o=some q->RS 20 (BR q.1) (Au q.1)/\RS 20 (BR q.2) (Au q.2))->(∀p∈l,p.1.length<=20/\p.2.length<=20)->E6 o l=0->RS (K+145) (uQ o l x) (U8 (o.map qf) (l.map qf) X)
 |[],none,h,_,_,_=>wh rfl (h rfl)
 |[],some q,_,g,_,_=>by
  rw[uQ];show RS _ _<|U8 (some<|qf q) [] X;rw[vC];exact(g q rfl).2.mono ae
 |p::l,none,_,_,j,u=>by
  obtain⟨s,v,t⟩:=Me u;obtain⟨l1,l2⟩:=j p<|z6 ..;have a:=DZ s l1 af;have i:=DZ v l2 af;show RS _ _<|U8 none (qf p::l.map qf) X;rw[Wi,uQ];by_cases c:CW x (BR p.1)>0
  ·rw[wd c,wd<|show(qf p).1<X from(f.Nk a).1 c];exact tO f z l (some p) (fun h=>by cases h) (fun q g=>by cases g;exact⟨a,i⟩) (fun y m=>j y<|yk _ m) t
  ·rw[wc c,wc<|show ¬(qf p).1<X from fun h=>c<|(f.Nk a).2 h];exact i.mono ae
 |p::l,some q,_,g,j,u=>by
  obtain⟨s,v,k,t⟩:=Ja u;obtain⟨l1,l2⟩:=j p<|z6 ..;obtain⟨q1,q2⟩:=g q rfl;have a:=DZ s l1 af;have i:=DZ v l2 af;show RS _ _<|U8 (some<|qf q) (qf p::l.map qf) X;rw[Vd,uQ];by_cases c:CW x (BR p.1)>0
  ·rw[wd c,wd<|show(qf p).1<X from(f.Nk a).1 c];exact tO f z l (some p) (fun h=>by cases h) (fun q g=>by cases g;exact⟨a,i⟩) (fun y m=>j y<|yk _ m) t
  ·rw[wc c,wc<|show ¬(qf p).1<X from fun h=>c<|(f.Nk a).2 h];by_cases d:CW x (BR p.1)=0
   ·rw[wd d];have e:X=(qf p).1:=(f.cmp_eq a).1 d;rw[e,AdU<|show(qf q).1<(qf p).1 from k];exact i.mono ae
   ·rw[wc d];have s1:=i.sub q2 af af;have s2:=f.sub q1 ae af;have s3:=s1.mul s2 af ae;have s4:=a.sub q1 af af;have s5:=s3.div s4 ae af<|Po k;exact(q2.add s5 af ae).mono ae
theorem Ab4{t:List BJ}{x:Ab}{X:Rat}{K:Nat}(f:RS K x X)(d:K<=2000)(i:CN t=0)(a:∀p∈t,p.1.length<=20/\p.2.length<=20):RS (K+145) (Sp.vlF t x) (U8 none (Agl t) X):=by
 obtain⟨e,_,c⟩:=GF i;exact tO f d t none (fun _=>e) (fun q g=>by cases g) a c
theorem Afl{c:Bc}{t h l:Int}(k:iR c t h l=true):RS 709 (Sp.rtF c t h l) (W3 c t h l):=by
 obtain⟨_,ko⟩:=Zb k;obtain⟨L,_,_,_⟩:=Pt ko;exact((Ab4 (AbR k) af L.lv.tab L.ls.tab).add (kW ko) af af).mono af
end Go.Pe
namespace Go.Sp
def OkY(t:List BJ)(x:Ab):Prop:=CN t=0/\(∀p∈t,p.1.length<=20/\p.2.length<=20)/\∃X,Go.Pe.RS 300 x X
def okY(t:List BJ)(x:Ab):Bool:=@decide (OkY t x) (zf _)
theorem AcF{t:List BJ}{x:Ab}(h:okY t x=true):OkY t x:=@w6 _ (zf _) h
theorem AcB{t:List BJ}{x:Ab}(h:OkY t x):okY t x=true:=@w4 _ (zf _) h
end Go.Sp
namespace Go.Pe
open Sp
open Go.Det
def AfW:Am:=⟨[.list Hb,Ai],fun i=>Sp.okY i.1 i.2,[Ai],fun i=>((AhL i.1 i.2,Ag1 i.1 i.2),(Ahz i.1 i.2,AhI i.1 i.2)),false⟩
def qG:Am:=⟨[Ai,Ai],fun i=>qp (i.1:Ab)&&qp (i.2:Ab),[.bool],fun i=>decide (CW (i.1:Ab) (i.2:Ab)=0),false⟩
def Ae8[Srt]:AO:=X7 [(81,Qt)]
def N7[Srt]:AO:=U9 [(72,[2,13])] [(72,[(2,[(3,DG)]),(13,[(12,eO),(13,Ai)])])] [(72,[(14,[6,7,10,40,41,42]),(13,[6,7,10,12,13,40,41,42]),(10,[6,7,10,40,41,42]),(9,[6,7,10,40,41,42]),(4,[1,3,6,7,21,22,23]),(3,[1,3,6,7,21,22,23]),(2,[1,2,3,6,7])])] [(66,Jd),(60,cF),(77,Rr),(121,bL),(74,Su),(67,Hz)]
def RB[Srt]:AO:=U9 [(131,[1,8,9])] [(131,[(1,[(3,Ai)]),(8,[(7,Ai),(8,Ai)]),(9,[(9,Ai),(10,Ai)])])] [(131,[(10,[0,3,4,11,12,13]),(8,[0,3,4,5,7,8]),(6,[0,3,4,5,7,8]),(3,[0,3,4,11,12,13]),(2,[0,3,4,11,12,13]),(1,[0,3,4]),(9,[3,4,7,8,9,10])])] [(66,Jd),(81,Qt),(170,qG),(67,Hz),(61,cO),(74,Su),(68,RO)]
def Ad0[Srt]:AO:=U9 [(73,[1])] [(73,[(1,[(4,DG)])])] [(73,[(1,[1,2,3,4,8])])] [(71,cEf),(72,cOb),(131,AfW),(67,Hz)]
end Go.Pe
namespace Go.Sp
def LP(c:Bc)(t l:Int):Int:=N0 c<|dE c t||fC c l
def suQ(c:Bc)(t l:Int):Nat->Nat->Rat
 |_,0=>0
 |i,k+1=>W3 c t (i:Int) l+suQ c t l (i+1) k
def exQ(c:Bc)(t l:Int):Rat:=suQ c t l 0 c.1.length
def suF(c:Bc)(t l:Int):Ab->Nat->Nat->Ab
 |f,_,0=>f
 |f,i,k+1=>suF c t l (BI f<|rtF c t (i:Int) l) (i+1) k
def Zn(c:Bc)(t l:Int):Ab:=suF c t l zF 0 c.1.length
def Ahs(c:Bc)(t l:Int):Int:=nS<|Zn c t l
def AgJ(c:Bc)(t l:Int):List Int:=nW<|Zn c t l
def Ahb(c:Bc)(t l:Int):Int:=dS<|Zn c t l
def Ag4(c:Bc)(t l:Int):List Int:=dW<|Zn c t l
def Afh(q:Rat):Int:=(q+1/2).floor
def Aec(q:Rat):Rat:=(Afh (q*10):Rat)/10
def hfF:Ab:=((1,Bo 1),(2,Bo 2))
def rnI(f:Ab):AJ:=FX (BI f hfF).1 (BI f hfF).2
def rnS(f:Ab):Int:=(rnI f).1
def rnW(f:Ab):List Int:=(rnI f).2
def wP(f:Ab):Ab:=Sc (rnI<|Fq f<|iF 10) (10,Bo 10)
def Ahn(f:Ab):Int:=nS<|wP f
def Ahj(f:Ab):List Int:=nW<|wP f
def Ag7(f:Ab):Int:=dS<|wP f
def Ahd(f:Ab):List Int:=dW<|wP f
def OkT(x:Ab):Prop:=∃X,Go.Pe.RS 3000 x X
def okT(x:Ab):Bool:=@decide (OkT x) (zf _)
theorem Adc{x:Ab}(h:okT x=true):OkT x:=@w6 _ (zf _) h
theorem AcE{x:Ab}(h:OkT x):okT x=true:=@w4 _ (zf _) h
def OkV(x:Ab):Prop:=∃X,Go.Pe.RS 2000 x X
def okV(x:Ab):Bool:=@decide (OkV x) (zf _)
theorem Ac6{x:Ab}(h:okV x=true):OkV x:=@w6 _ (zf _) h
theorem Adj{x:Ab}(h:OkV x):okV x=true:=@w4 _ (zf _) h
def wK(c:Bc):Bool:=RD c&&(decide (Va c≠0)||fwC c 6 4)
def Tt(c:Bc)(t l:Int):Bool:=RD c&&decide (LP c t l=0)&&fwC c 6 4
end Go.Sp
namespace Go.Pe
open Sp
open Go.Det
def cEx:Am:=⟨[DG,i64,i64],fun i=>Tt i.1 i.2.1 i.2.2,[Ai],fun i=>((Ahs i.1 i.2.1 i.2.2,AgJ i.1 i.2.1 i.2.2),(Ahb i.1 i.2.1 i.2.2,Ag4 i.1 i.2.1 i.2.2)),false⟩
def Abt:Am:=⟨[Ai],fun a=>Sp.okT a,[A0],fun a=>(Sp.rnS a,Sp.rnW a),false⟩
def AeL:Am:=⟨[Ai],fun a=>Sp.okV a,[Ai],fun a=>((Ahn a,Ahj a),(Ag7 a,Ahd a)),false⟩
def Qx[Srt]:AO:=X7 [(73,cRt),(60,cF),(67,Hz)]
def Afw[Srt]:AO:=X7 [(77,Rr),(67,Hz),(129,qF)]
def AeS[Srt]:AO:=X7 [(60,cF),(74,Su),(75,Abt),(77,Rr),(121,bL)]
end Go.Pe
namespace Go.Sp
def leB(a b:Rat):Bool:=decide (a<=b)
def D4(l:List Rat):List Rat:=l.mergeSort leB
theorem D1(l:List Rat):qz (D4 l) l:=List.mergeSort_perm ..
theorem Mk(l:List Rat):(D4 l).length=l.length:=List.length_mergeSort ..
theorem Il(l:List Rat):(D4 l).Pairwise fun a b=>a<=b:=by
 have:=List.pairwise_mergeSort (le:=leB) (fun a b c d e=>w4<|qw (w6 d)<|w6 e) (fun a b=>by
  rcases Rat.le_total (a:=a) (b:=b)with h|h
  ·rw[qo];exact .inl<|w4 h
  ·rw[qo];exact .inr<|w4 h) l
 exact this.imp fun h=>w6 h
theorem JM:∀ {a b:List Rat},a.Pairwise (fun x y=>x<=y)->b.Pairwise (fun x y=>x<=y)->qz a b->a=b:=fun c f hp=>
 List.Perm.eq_of_pairwise (fun _ _ _ _ d e=>Rat.le_antisymm d e) c f hp
theorem UF{a b:List Rat}(h:qz a b):D4 a=D4 b:=JM (Il a) (Il b)<|(D1 a).trans<|h.trans (D1 b).symm
theorem oK(c:Rat)(l:List Rat):D4 (l.map (· +c))=(D4 l).map (· +c):=
 JM (Il _) (List.pairwise_map.2<|(Il l).imp fun h=>Rat.add_le_add_right.2 h) ((D1 _).trans ((D1 l).map _).symm)
def pS(s:List Rat):Rat:=(s.getD ((s.length-1)/2) 0+s.getD (s.length/2) 0)/2
def Gc(l:List Rat):Rat:=pS<|D4 l
theorem qL{a b:List Rat}(h:qz a b):Gc a=Gc b:=by unfold Gc;rw[UF h]
theorem L0{s:List Rat}{i:Nat}(h:i<s.length)(c:Rat):(s.map (· +c)).getD i 0=s.getD i 0+c:=by
 rw[zd,zd,yh,zc h];rfl
theorem bT{l:List Rat}(h:0<l.length)(c:Rat):Gc (l.map (· +c))=Gc l+c:=by
 have a:=Mk l;unfold Gc pS;rw[oK,zo,L0 ae,L0 ae];grind
def RI(m:Rat)(l:List Rat):Nat:=l.countP fun x=>decide (x<=m)
def Sj(m:Rat)(l:List Rat):Nat:=l.countP fun x=>decide (m<=x)
theorem Y0{s:List Rat}(e:s.Pairwise fun a b=>a<=b){i j:Nat}(c:i<=j)(d:j<s.length):s.getD i 0<=s.getD j 0:=by
 rw[zd,zd,zc d,zc<|Nat.lt_of_le_of_lt c d];rcases Nat.lt_or_eq_of_le c with h|rfl
 ·exact qd.1 e i j ae d h
 ·exact Rat.le_refl
theorem Ac8{a b:Rat}(h:a<=b):a<=(a+b)/2/\(a+b)/2<=b:=by
 have d:(0:Rat)<2:=by decide+kernel
 have e:=Rat.div_mul_cancel (a:=a+b)<|qv d;constructor
 ·refine qc ?_ d;rw[e];have:=(Rat.add_le_add_left (c:=a)).2 h;grind
 ·refine qc ?_ d;rw[e];have:=(Rat.add_le_add_right (c:=b)).2 h;grind
theorem OZ{P:Rat->Bool}:∀(s:List Rat) (k:Nat),k<=s.length->(∀i,i<k->P (s.getD i 0)=true)->k<=s.countP P
 |_,0,_,_=>ya _
 |[],k+1,h,_=>by cases h
 |x::s,k+1,h,hp=>by
  have d:=OZ s k (Nat.le_of_succ_le_succ h) fun i c=>hp (i+1)<|qj c
  have a:P x=true:=hp 0<|Nat.succ_pos _;rw[ql a];omega
theorem KR{P:Rat->Bool}:∀(s:List Rat) (k:Nat),(∀i,k<=i->i<s.length->P (s.getD i 0)=true)->s.length-k<=s.countP P
 |[],_,_=>by rw[List.length_nil];omega
 |x::s,0,hp=>by
  have d:=KR s 0 fun i _ a=>hp (i+1) (ya _)<|qj a
  have c:P x=true:=hp 0 (yz _)<|Nat.succ_pos _;rw[ql c,yq];omega
 |x::s,k+1,hp=>by
  have d:=KR s k fun i e a=>hp (i+1) (Nat.succ_le_succ e)<|qj a
  have c:s.countP P<=(x::s).countP P:=by rw[List.countP_cons];omega
  rw[yq];omega
theorem pR{l:List Rat}(h:0<l.length):l.length<=2*RI (Gc l) l/\l.length<=2*Sj (Gc l) l:=by
 have d:=Mk l;have a:=Il l;have c:=Ac8 (Y0 a (show(l.length-1)/2<=l.length/2 by omega) ae);have j:Gc l=((D4 l).getD ((l.length-1)/2) 0+(D4 l).getD (l.length/2) 0)/2:=by unfold Gc pS;rw[d]
 rw[<-j]at c;have g:RI (Gc l) l=RI (Gc l) (D4 l):=((D1 l).countP_eq _).symm;have f:Sj (Gc l) l=Sj (Gc l) (D4 l):=((D1 l).countP_eq _).symm;have s:=OZ (P:=fun x=>decide (x<=Gc l)) (D4 l) ((l.length-1)/2+1) ae fun i q=>w4 (qw (Y0 a (show i<=(l.length-1)/2 by omega) ae) c.1)
 have m:=KR (P:=fun x=>decide (Gc l<=x)) (D4 l) (l.length/2) fun i e k=>w4<|qw c.2<|Y0 a e k
 rw[g,f];unfold RI Sj;omega
def zeF:Ab:=((0,[]),0,[])
def mX(v:List Ab):Ab:=List.getD v (Int.toNat<|zh .i64<|qy (zh .i64<|(↑(qe v):Int)-1) 2) ((0,[]),0,[])
def mY(v:List Ab):Ab:=List.getD v (Int.toNat<|zh .i64<|qy (↑(qe v):Int) 2) ((0,[]),0,[])
def mdF(l:List Ab):Ab:=Jb (BI ((Ea l).getD ((l.length-1)/2) zeF)<|(Ea l).getD (l.length/2) zeF)<|iF 2
def Yv(l:List Ab):Int:=nS<|mdF l
def Y2(l:List Ab):List Int:=nW<|mdF l
def Xo(l:List Ab):Int:=dS<|mdF l
def Za(l:List Ab):List Int:=dW<|mdF l
def AdS(l:List Ab):Prop:=l≠[]/\l.length<=1000000/\∀x∈l,∃X,Go.Pe.RS 1500 x X
def XA(l:List Ab):Bool:=@decide (AdS l) (zf _)
theorem vW{l:List Ab}(h:XA l=true):AdS l:=@w6 _ (zf _) h
theorem bO{l:List Ab}(h:AdS l):XA l=true:=@w4 _ (zf _) h
def mdR(l:List BS):BS:=AQ<|Gc<|l.map Au
def gD(l:List BS):Prop:=l≠[]/\l.length<=100000/\∀s∈l,∃q,Nu 600 s q
def rE(l:List BS):Bool:=@decide (gD l) (zf _)
theorem xU{l:List BS}(h:rE l=true):gD l:=@w6 _ (zf _) h
theorem wO{l:List BS}(h:gD l):rE l=true:=@w4 _ (zf _) h
def Ry(n:Int):Bool:=decide (n<1)||decide (999999999<n)
def Tx(l:List Int):Int:=if l=[]then 12 else if 256<l.length then 5 else if l.any Ry=true then 3 else 0
def wR(l:List Int):Rat:=Gc<|l.map fun(n:Int)=>(n:Rat)
def uH(c:Bc)(t l:Int)(s:List Int):Rat:=wR s-Aec (exQ c t l)
def Kw(c:Bc)(t l:Int)(s:List Int):Int:=if LP c t l≠0 then LP c t l else Tx s
def RC(c:Bc)(t l:Int)(s:List Int):BS:=Tu (Kw c t l s)<|uH c t l s
def Yy(c:Bc)(t l:Int)(s:List Int):Int:=TT (Kw c t l s)<|uH c t l s
end Go.Sp
namespace Go.Pe
open Sp
open Go.Det
def Ac1:Am:=⟨[.list Ai],fun l=>XA l,[Ai],fun l=>((Yv l,Y2 l),(Xo l,Za l)),false⟩
def qR:Am:=⟨[.list .str],fun l=>rE l,[.str],fun l=>Sp.mdR l,false⟩
def kA:Am:=⟨[DG,i64,i64,Adx],fun i=>wK i.1&&decide (qe (α:=Int) i.2.2.2<=1000000),[.str,i64],fun i=>(RC i.1 i.2.1 i.2.2.1 i.2.2.2,Yy i.1 i.2.1 i.2.2.1 i.2.2.2),false⟩
def rV:AO:=(U9 [(34,[3])] [(34,[(3,[(0,Ai)])])] [(34,[(3,[0,2])])] [(67,Hz),(60,cF),(68,RO)]).wr [(95,TL)]
def MU:AO:=X7 [(15,qI),(16,PF),(39,Acg)]
def AfI:AO:=X7 [(96,VX)]
def IL:AO:=U9 [(17,[4,14])] [(17,[(4,[(4,DG)]),(14,[(13,Ai)])])] [(17,[(4,[1,2,3,4]),(14,[1,2,4,13]),(11,[1,2,4,13,40,41,42]),(10,[1,2,4,13,40,41,42]),(8,[1,2,3,4])])] [(53,Abv),(54,bS),(52,Ug),(58,TJ),(59,Hd),(57,FR),(60,cF),(34,Ac1),(63,cEx),(62,AeL),(61,cO),(31,Ox)]
end Go.Pe
namespace Go.Sp
def Qy(l:List BS):Bool:=decide (l.length<=1000000)&&(l.all fun s=>decide (s.length<=1000000))&&(decide (BK l≠0)||l.all fun s=>decide (OS s<=500))
def J7(l:List BS):Rat:=Gc<|l.map Au
def DD(l:List BS):BS:=Tu (BK l)<|J7 l
def Rw(l:List BS):Int:=TT (BK l)<|J7 l
def Lf(l:List BS)(n k:Int):Bool:=decide ((l.length:Int)<=n)&&l.all fun s=>Eb s k
def EF:Bc:=([([49,48],[48],[48],[50,48],[([98,117,110,107,101,114],5),([119,97,116,101,114],2)]),([45,50,48],[53],[49,53],[48],[])],[([98,108,117,101],[410,150])],[([115,99,114,97,116,99,104],[50,52,48],[50,48,48],[([49,48,48],[51]),([53,48,48],[53])],[([98,117,110,107,101,114],[49,47,50]),([119,97,116,101,114],[49])]),([98,111,103,101,121],[49,56,48],[49,54,48],[([49,48,48],[51]),([53,48,48],[54])],[([119,97,116,101,114],[50])])])
end Go.Sp
namespace Go.Pe
open Go.Det
def AdO:Am:=⟨[.list .str],fun l=>Sp.Qy l,[.str,i64],fun l=>(Sp.DD l,Sp.Rw l),false⟩
def XJ:Am:=⟨[.list .str,i64,i64],fun i=>decide ((i.2.1:Int)<=1000000)&&(decide (0<=(i.2.2:Int))&&decide ((i.2.2:Int)<=1000)),[.bool],fun i=>Sp.Lf i.1 i.2.1 i.2.2,false⟩
def Zi:Am:=⟨[.list .str],fun _=>true,[.bool],fun _=>true,false⟩
def YY:Am:=⟨[.list .str,.str],fun _=>true,[.bool],fun _=>true,false⟩
def rA:AO:=X7 [(30,MY),(66,Jd),(60,cF),(67,Hz),(68,RO),(34,Ac1),(31,Ox)]
def Agb:AO:=X7 []
def Uq:AO:=X7 [(30,MY),(66,Jd),(60,cF),(67,Hz),(68,RO),(31,Ox),(93,qQ)]
def Aav:AO:=X7 [(89,FL),(58,TJ)]
def xG:AO:=X7 [(16,PF),(36,Abq),(38,mE)]
def jS:AO:=X7 [(14,Acx),(13,cP)]
def qT:AO:=X7 [(5,Ui),(6,MY),(7,cMn),(8,AdO),(9,RT),(10,AeK),(11,qR)]
def Gb:AO:=U9 [(4,[16,19,26])] [(4,[(19,[(11,.str),(12,.str)])])] [(4,[(19,[0,1,5,7,9,10,11,12]),(16,[0,1,5,7,9,10,11,12,13,64,65]),(10,[0,1,5,7,9,10,11,12,64,65]),(26,[0,1,5,7,9,10,14,16,18,20,22])])] [(5,Ui),(12,XJ),(13,cP),(8,AdO),(7,cMn),(14,Acx),(15,qI),(16,PF),(17,kA)]
open Sp
section
open List Int Prod
namespace T30
def T(l:List Rd):Tr:=tree Aav false 9 30<|Ag ([zk zr]) l
def L1(v0:List Rd)(v3 v4:Int):Tr:=re ((T []).L)<|Ay 24 [(0,.dat (zk zr) v0),(3,.dat i64 v3),(4,.dat i64 v4)] [] 0
theorem Ak(l:List Rd):T l=.ck true (L1 l (Bj (length l:Int) 256) 0):=by kernel_rfl
theorem Al(v0:List Rd)(v3 v4:Int):stepT Aav (L1 v0 v3 v4)=let a:=decide (v4<(length v0:Int));.ite a (.ite (v3==0) (.ck (decide (0<=v4)&&a)<|.cd (length (getD v0 (toNat v4) [])<=1000000)<|L1 v0 (Av<|getD v0 (toNat v4) [])<|zh .i64<|v4+1)<|.leaf (.dat i64 v3) []) (.leaf (.dat i64 v3) []):=by kernel_rfl
end T30
namespace T8
def T(l:List Rd):Tr:=tree rA false 9 8<|Ag ([zk zr]) l
def L1(l:List Rd)(a:Nat)(v9:List Rd)(c d:Int)(e:List Ab):Tr:=re ((T l).L.R.L)<|Ay 23 [(3,.sl 0 4 0 a none),(9,.dat (zk zr) v9),(10,.dat i64 c),(11,.dat i64 d)] [(0,.arr false 63 Ai e)] 1
theorem Ak(l:List Rd):T l=let a:=(length l:Int);.ck (decide (length l<=1000000)&&List.all l fun s=>decide (length s<=1000000)) (.ite (BK l !=0) (.leaf (.tup [.dat zr [],.dat i64<|BK l]) [])<|.ck (decide (0<=a)&&decide (a=a)&&decide (64*toNat a<=281474976710656)&&decide (a<9223372036854775808))<|L1 l (toNat a) l a 0<|replicate (toNat a) ((0,[]),0,[])):=by kernel_rfl
theorem Al(l:List Rd)(c:Nat)(v9:List Rd)(e a:Int)(d:List Ab):stepT rA (L1 l c v9 e a d)=let f:=((Yv<|take c d,Y2<|take c d),Xo<|take c d,Za<|take c d);let b':=getD v9 (toNat a) [];.di (a<e) (.ck (decide (0<=a)&&decide (a<(length v9:Int)))<|.ck (Dc b')<|.ck (decide (0<=a)&&decide (a<(↑c:Int)))<|.cd (toNat a<length d)<|L1 l c v9 e (zh .i64<|a+1)<|set d (toNat a)<|BR b') (.ck (decide (0+c<=length d)&&true&&XA (take c d))<|.ck (qp f)<|.leaf (.tup [.dat zr<|MZ f,.dat i64<|Mt f]) []):=by kernel_rfl
end T8
namespace T34
def T(l:List Ab):Tr:=tree rV false 9 34<|Ag ([zk Ai]) l
def L1(v0:List Ab)(c a:Int):Tr:=re ((T []).L.L.L)<|Ay 24 [(0,.dat (zk Ai) v0),(2,.ptr 0 0)] [(0,.box [.dat i64 c,.nil,.dat i64 a,.nil])] 1
theorem Ak(l:List Ab):T l=let a:Tr:=.cd ((3*(0+length l)+2000)*64<=562949953421312)<|.ck (Ri ([]++l)&&decide (Nat.add 0 (length l)=length ([]++l))&&true)<|L1 (take (Nat.add 0<|length l)<|Ea<|[]++l) 0 0;.di (0<length l) a (.both (.ck (Ri [])<|L1 [] 0 0) a):=by kernel_rfl
theorem Al(v0:List Ab)(g d:Int):stepT rV (L1 v0 g d)=let a:=BI (Sp.mX v0)<|Sp.mY v0;let b':=((2,Bo 2),1,Bo 1);let c:=(length v0:Int);let e:=Sh.nlist<|yu IntKind.u64;let f:=qy (zh .i64<|c-1) 2;.ck true (.ck (decide (0<=zh .i64 f)&&decide (zh .i64 f<c))<|.ck true<|.ck (decide (0<=zh .i64 (qy c 2))&&decide (zh .i64 (qy c 2)<c))<|.ck (ym (Sp.mX v0)&&ym (Sp.mY v0))<|.ck true<|.ck (ym a&&ym b'&&decide (Sp.vI (2,Bo 2)≠0))<|.leaf (PV.agg [.dat i64<|pU a b',.dat e<|tY a b',.dat i64<|rD a b',.dat e<|mJ a b']) []):=by kernel_rfl
end T34
namespace T39
def T(a:Rd):Tr:=tree AfI false 9 39<|Ag ([zr]) a
theorem Ak(a:Rd):T a=.ck (Bk a&&Bk [(49:UInt8),47,50]) (.leaf (.dat zr<|Nr a [(49:UInt8),47,50]) []):=by kernel_rfl
end T39
end
end Go.Pe
namespace Go.Sp
def HX(x:Ab):Rat:=Rat.divInt (vI x.1)<|vI x.2
end Go.Sp
namespace Go.Pe
open Sp
open Go.Det
open Go.Sp (Ab)
theorem RS.val{k:Nat}{x:Ab}{X:Rat}(h:RS k x X):X=HX x:=by
 unfold HX;rw[h.r.vn,h.r.vd];exact(Rat.num_divInt_den X).symm
theorem Qa{l:List Ab}(h0:0<l.length)(h:∀x∈l,sY x):(Ea l).Perm l:=by
 have p:=(Gt h0 h).1.map<|Se l;have e:(List.range l.length).map (Se l)=l:=by
  refine yx (by rw[zo,zw]) fun i c a=>?_
  rw[yo,List.getElem_range];unfold Se ix;rw[wd a,zd,zc a,zp]
 rw[e]at p;exact p
theorem xQ{l:List Ab}{K:Nat}(u:K<=4000)(h0:0<l.length)(h:∀x∈l,RS K x<|HX x):(Ea l).map HX=D4 (l.map HX):=by
 have ok:∀x∈l,sY x:=fun x s=>⟨_,(h x s).mono u⟩
 have p:=Qa h0 ok;obtain⟨t,m⟩:=Gt h0 ok;have il:(Dz l).length=l.length:=by rw[t.length_eq,zw]
 refine JM ?_ (Il _)<|(p.map _).trans (D1 _).symm;rw[List.pairwise_map,qd];intro i j e d c;have v:(Ea l).length=l.length:=p.length_eq;have g:∀k (f:k<(Ea l).length),(Ea l)[k]=Se l ((Dz l).getD k 0):=fun k f=>by
  simp only[Ea,yo];rw[zd,zc ae];rfl
 have q:=m i j c ae;rw[<-g i e, <-g j d]at q;have a:=h _<|p.mem_iff.1<|zq e;have b:=h _<|p.mem_iff.1<|zq d;rw[b.Us a]at q;exact qt.1 q
theorem ZY{l:List Ab}{K:Nat}(j:K<=1500)(h0:0<l.length)(h:∀x∈l,RS K x<|HX x):RS (K+K+2) (Sp.mdF l) (Gc<|l.map HX):=by
 have ok:∀x∈l,sY x:=fun x f=>⟨_,(h x f).mono ae⟩
 have p:=Qa h0 ok;have v:=xQ ae h0 h;have g:(Ea l).length=l.length:=p.length_eq;have d:∀k,k<l.length->RS K ((Ea l).getD k Sp.zeF) ((D4<|l.map HX).getD k 0):=fun k i=>by
  have c:k<(Ea l).length:=ae
  rw[<-v,zd,zd,yh,zc c];exact h _<|p.mem_iff.1<|zq c
 have a:=d ((l.length-1)/2) ae;have b:=d (l.length/2) ae;have t:RS 1 (Sp.iF 2) ((2:Int):Rat):=FV af af af;have r:=(a.add b ae ae).div t ae af (by decide+kernel);have e:Gc (l.map HX)=((D4<|l.map HX).getD ((l.length-1)/2) 0+(D4<|l.map HX).getD (l.length/2) 0)/((2:Int):Rat):=by
  unfold Gc pS;rw[Mk,zo];rfl
 rw[e];exact r
section
open List Int Prod
namespace T53
def T[Srt](c:Bc)(n:Int):Tr:=tree dO false 9 53<|Ag ([DG,yu zn]) (c,n)
theorem Ak[Srt](c:Bc)(n:Int):T c n=.leaf (PV.agg [.dat i64 n,.dat i64 (↑(length<|fst<|snd c):Int)]) []:=by kernel_rfl
end T53
namespace T54
def T[Srt](c:Bc)(n:Int):Tr:=tree dO false 9 54<|Ag ([DG,yu zn]) (c,n)
theorem Ak[Srt](c:Bc)(n:Int):T c n=.leaf (PV.agg [.dat i64 n,.dat i64 (↑(length<|snd<|snd c):Int)]) []:=by kernel_rfl
end T54
namespace T65
def T[Srt](c:Bc)(t h:Int):Tr:=tree S7 false 9 65<|Ag ([DG,yu zn,yu zn]) (c,t,h)
def L1[Srt](v1 v2:Int)(v3:Bc)(d:ED)(c a:Int):Tr:=re ((T ([],([],[])) 0 0).L)<|Ay 38 [(1,.dat i64 v1),(2,.dat i64 v2),(3,PV.BL DG v3 0),(6,.ptr 0 0),(7,PV.BL Gj d 0)] [(0,.box [.dat i64 c,.nil,.dat i64 a,.nil])] 1
theorem Ak[Srt](c:Bc)(t h:Int):T c t h=.ck (decide (0<=h)&&decide (h<(↑(length<|fst c):Int))) (L1 t h c ((getD (fst c) (toNat h) ([],[],[],[],[]))) 0 0):=by kernel_rfl
def L2[Srt](v1 v2:Int)(v3:Bc)(s:ED)(t g:Int)(j:Nat)(i l m:Int)(f:List Int)(c:Int)(e:List Int)(q d:Int)(o1:List Rd)(k:Int)(a:Int):Tr:=re ((stepT S7<|L1 v1 v2 v3 s t g).L.L.L.L)<|Ay 22 [(1,PV.fn (Go.Fn.func 66) [] []),(4,.ptr 2 0),(5,.ptr 3 0),(9,.sl 1 1 0 j none),(10,.dat i64 i),(11,.dat i64 l)] [(3,.box [.dat i64 m,.dat wU f,.dat i64 c,.dat wU e]),(2,.box [.dat i64 q,.nil,.dat i64 d,.nil]),(1,.arr false 24 zr o1),(0,.box [.dat i64 k,.nil,.dat i64 a,.nil])] 4
theorem Al[Srt](v1 v2:Int)(v3:Bc)(c:ED)(d a:Int):stepT S7 (L1 v1 v2 v3 c d a)=.ck (decide (0<=v1)&&decide (v1<(↑(length<|fst<|snd v3):Int))) (.ck (decide (0<=v2)&&decide (v2<(↑(length<|snd<|getD (fst<|snd v3) (toNat v1) ([],[])):Int)))<|.ck true<|.ck true<|L2 v1 v2 v3 c d a 3 3 0 0 (Bo 0) 1 (Bo 1) 0 0 ([fst c,fst<|snd c,fst<|snd<|snd c]) d a):=by kernel_rfl
theorem AL[Srt](v1 v2:Int)(v3:Bc)(x:ED)(y e:Int)(k:Nat)(l a u:Int)(d:List Int)(f:Int)(i:List Int)(v g:Int)(o1:List Rd)(m:Int)(c:Int):stepT S7 (L2 v1 v2 v3 x y e k l a u d f i v g o1 m c)=let b':=((u,d),f,i);let s:=snd<|getD (fst<|snd v3) (toNat v1) ([],[]);let t:=getD o1 (toNat a) [];let j:=((getD s (toNat v2) 0,Bo<|getD s (toNat v2) 0),1,Bo 1);let q:=BR t;.di (a<l) (.ck (decide (0<=a)&&decide (a<(↑k:Int)))<|.cd (toNat a<length o1)<|.ck (Dc t)<|.ck (ym b'&&ym q)<|L2 v1 v2 v3 x y e k l (zh .i64<|a+1) (Kh b' q) (Kt b' q) (Kd b' q) (Kq b' q) v g o1 m c) (.ck (ym j&&ym b')<|.ck (Sp.Da<|fst<|BI j b')<|.di (Qk (BI j b')<0) (.ck true<|.leaf (PV.agg [.dat i64 (0:Int),.dat wU<|Bo 0,.dat i64 (1:Int),.dat wU<|Bo 1]) [])<|.leaf (PV.agg [.dat i64<|Kh j b',.dat wU<|Kt j b',.dat i64<|Kd j b',.dat wU<|Kq j b']) []):=by kernel_rfl
end T65
namespace T71
def T[Srt](c:Bc)(t h l:Int):Tr:=tree rY false 9 71<|Ag ([DG,yu zn,yu zn,yu zn]) (c,t,h,l)
def L1[Srt](d e g c f:Ab)(i a:Int):Tr:=re ((T ([],([],[])) 0 0 0).L.L.L.L.L.L.L)<|Ay 60 [(8,.ptr 0 0),(10,PV.BL Ai d 0),(11,PV.BL Ai e 0),(12,PV.BL Ai g 0),(13,PV.BL Ai c 0),(14,PV.BL Ai f 0)] [(0,.box [.dat i64 i,.nil,.dat i64 a,.nil])] 1
theorem Ak[Srt](c:Bc)(t h l:Int):T c t h l=let a:=snd<|getD (snd<|snd c) (toNat l) ([],[],[],[],[]);let b':=fst<|snd<|snd<|snd<|getD (fst c) (toNat h) ([],[],[],[],[]);let d:=BR<|fst a;.ck (decide (0<=l)&&decide (l<(↑(length<|snd<|snd c):Int))) (.ck (decide (0<=h)&&decide (h<(↑(length<|fst c):Int)))<|.ck (Dc b')<|.ck (Sp.okP c t h)<|.ck (Dc<|fst a)<|.ck (Dc<|fst<|snd a)<|.ck (ym d&&ym (BR b'))<|L1 ((BR b')) ((TB c t h)) d ((BR<|fst<|snd a)) ((BI d<|BR b')) 0 0):=by kernel_rfl
def L2[Srt](d e g c f:Ab)(i a:Int):Tr:=re ((stepT rY<|L1 ((0,[]),(0,[])) ((0,[]),(0,[])) ((0,[]),(0,[])) ((0,[]),(0,[])) ((0,[]),(0,[])) 0 0).L.R)<|Ay 60 [(8,.ptr 0 0),(10,PV.BL Ai d 0),(11,PV.BL Ai e 0),(12,PV.BL Ai g 0),(13,PV.BL Ai c 0),(14,PV.BL Ai f 0)] [(0,.box [.dat i64 i,.nil,.dat i64 a,.nil])] 1
theorem Al[Srt](g c d f a:Ab)(j e:Int):stepT rY (L1 g c d f a j e)=let i:=Fq c d;.ck (qp c&&qp a) (.di (CW c a<=0) (.ck (ym c&&ym d)<|.ck (ym i&&ym a&&decide (Sp.vI (fst a)≠0))<|.leaf (PV.agg [.dat i64<|pU i a,.dat wU<|tY i a,.dat i64<|rD i a,.dat wU<|mJ i a]) [])<|L2 g c d f a j e):=by kernel_rfl
theorem AL[Srt](d f c a e:Ab)(k i:Int):stepT rY (L2 d f c a e k i)=let b':=E9 f e;let j:=BI a d;let g:=Jb (Fq b' a) j;.ck (ym f&&ym e) (.ck (ym b'&&ym a)<|.ck (ym a&&ym d)<|.ck (ym (Fq b' a)&&ym j&&decide (Sp.vI (fst j)≠0))<|.ck (ym c&&ym g)<|.leaf (PV.agg [.dat i64<|Kh c g,.dat wU<|Kt c g,.dat i64<|Kd c g,.dat wU<|Kq c g]) []):=by kernel_rfl
end T71
namespace T57
def T[Srt](l:List Int):Tr:=tree iP false 9 57<|Ag ([zk i64]) l
def L1[Srt](v5:List Int)(a c:Int):Tr:=re ((T []))<|Ay 15 [(5,.dat (zk i64) v5),(6,.dat i64 a),(7,.dat i64 c)] [] 0
theorem Ak[Srt](l:List Int):T l=L1 l ((length l:Int)) 0:=by kernel_rfl
theorem Al[Srt](v5:List Int)(c a:Int):stepT iP (L1 v5 c a)=.di (a<c) (.ck (decide (0<=a)&&decide (a<(length v5:Int)))<|.ite (getD v5 (toNat a) 0 !=0) (.leaf (.dat i64<|getD v5 (toNat a) 0) [])<|L1 v5 c<|zh .i64<|a+1) (.leaf (.dat i64 (0:Int)) []):=by kernel_rfl
end T57
namespace T59
def T[Srt](c:Bool)(e:Int):Tr:=tree iP false 9 59<|Ag ([ye,yu zn]) (c,e)
theorem Ak[Srt](c:Bool)(e:Int):T c e=.ite c (.leaf (.dat i64 e) []) (.leaf (.dat i64 (0:Int)) []):=by kernel_rfl
end T59
namespace T58
def T[Srt](n m:Int):Tr:=tree Afb false 9 58<|Ag ([yu zn,yu zn]) (n,m)
theorem Ak[Srt](n m:Int):T n m=.ck true (.ck true<|.ck (decide (2<=2)&&true&&decide (2<=1000000))<|.leaf (.dat i64<|zl [Cd (n==0) 12,Cd (decide (n>m)) 5]) []):=by kernel_rfl
end T58
namespace T31
def T[Srt](a:Ab):Tr:=tree Agh false 9 31<|Ag ([Ai]) a
theorem Ak[Srt](a:Ab):T a=let c:=((fst a),fst<|snd a,snd<|snd a);.ck (qp c) (.ite (Jn c) (.leaf (.tup [.dat zr [],.dat i64 (4:Int)]) [])<|.ck (qp c)<|.leaf (.tup [.dat zr<|Kl c,.dat i64 (0:Int)]) []):=by kernel_rfl
end T31
namespace T9
def T[Srt](a:Rd)(e b:Int)(w:Rd):Tr:=tree ZL false 9 9<|Ag ([zr,yu zn,yu zn,zr]) (a,e,b,w)
theorem Ak[Srt](a:Rd)(e b:Int)(w:Rd):T a e b w=let b':Tr:=.leaf (.bl false) [];let c:Tr:=.ite (e==0) (.leaf (.dat ye<|a==w) []) b';.ite (b==0) (.cd (length w<=1000000)<|.ite (Fl w !=0) (.ite (a==[]) (.leaf (.dat ye<|e==Fl w) []) b') c) (.ite (b !=0) (.ite (a==[]) (.leaf (.dat ye<|e==b) []) b') c):=by kernel_rfl
end T9
namespace T38
def T[Srt](n:Int):Tr:=tree AbH false 9 38<|Ag ([yu zn]) n
theorem Ak[Srt](n:Int):T n=.ck (Cv n) (.ck (C0 (Sp.rN n,Sp.rW n))<|.leaf (.dat zr<|Is (Sp.rN n,Sp.rW n)) []):=by kernel_rfl
end T38
end
namespace T57
theorem loop[Srt]{Q:PV->Ob->Prop}(l:List Int)(g:l.length<=1000000)(a:∀ob,Q (.dat i64<|zl l) ob):∀(r:List Int) (i:Nat),l.drop i=r->i<=l.length->zl l=zl r->Ends iP (L1 l ((l.length:Int)) (i:Int)) Q
 |[],i,h,f,e=>by
  have s:=drop_nil h f;refine qg (Al ..) (qq (w8 ae)<|zj ?_);rw[e]at a;exact a _
 |x::r,i,h,f,e=>by
  obtain⟨j,q,m⟩:=drop_cons (d:=0) h;refine qg (Al ..) ?_;conv=>zeta
  have k:=wn (i:=i) ae;rw[k,yi,q];refine zg (w4 ae) (zg (ad ae ae) ?_);by_cases c:x=0
  ·subst c;refine qq rfl (loop l g a r (i+1) m j ?_);rw[e];rfl
  ·have ex:zl (x::r)=x:=by unfold zl;rw[wd c]
   refine zg (by simpa using c)<|zj ?_;rw[e,ex]at a;exact a _
theorem ok[Srt]:Af A5 57 FR:=by
 refine BG Xv<|fun(l:List Int) hl=>?_;exact yy (Ak l)<|loop l (w6 hl) (fun ob=>qh rfl rfl rfl) l 0 rfl (ya _) rfl
end T57
theorem T59.ok[Srt]:Af A5 59 Hd:=by
 refine BG Xv<|fun⟨c,e⟩ _=>?_;refine yy (T59.Ak c e)<|zu (fun h=>zj<|qh rfl rfl ?_)<|fun h=>zj<|qh rfl rfl ?_
 ·show e=Cd c e;rw[h];rfl
 ·show(0:Int)=Cd c e;rw[h];rfl
theorem uL[Srt]:CL Afb:=Aa T57.ok<|Aa T59.ok AI
theorem count_eq(n m:Int):zl [Cd (n==0) 12,Cd (decide (n>m)) 5]=Bj n m:=by
 rw[JZ,FT,FT];unfold Bj;by_cases h:n=0
 ·subst h;rfl
 ·have e:(n==0)=false:=by simpa using h
  rw[e,wc (show ¬(if false=true then(12:Int)else 0)≠0 by decide),wc h];by_cases k:m<n
  ·rw[wd k,w4<|show n>m from k];rfl
  ·rw[wc k,w8<|show ¬n>m from k];rfl
theorem T58.ok[Srt]:Af A5 58 TJ:=by
 refine BG uL<|fun(i:Int×Int) _=>?_;obtain⟨n,m⟩:=i;refine yy (T58.Ak n m) ?_;conv=>zeta
 rw[count_eq];exact zg rfl (zg rfl (zg rfl (zj<|qh rfl rfl rfl)))
end Go.Pe
namespace Go.Sp
theorem mS(n:Int):Is (rN n,rW n)=AQ ((n:Int):Rat):=by rw[Qn,gM]
theorem jP{n:Int}{k:Nat}(h:n.natAbs<10^k)(a:1<=k):Nu k (AQ (n:Rat)) (n:Rat):=by
 have c:10^1<=10^k:=Nat.pow_le_pow_right af a;refine⟨rfl,?_,?_⟩
 ·rw[Rat.num_intCast];exact h
 ·rw[Rat.den_intCast];omega
theorem Nu.nz{k:Nat}{s:Rd}{q:Rat}(h:Nu k s q)(a:k<=1400)(h0:q≠0):mB s=true:=Ac9 (h.Gx a) fun e=>h0 ((h.LF ae).1 e)
theorem Zw:Nu 1 [48] 0:=by
 refine⟨by decide+kernel,?_⟩;unfold Cu;decide+kernel
theorem Vi{k:Nat}{q:Rat}(h:Cu k q):Nu k (AQ q) q:=⟨rfl,h⟩
theorem vZ(s:Rd):(A2 s).length<=s.length:=by
 unfold A2;split
 ·rw[yn];omega
 ·exact yz _
theorem zS(s:Rd):(AF s).length<=s.length:=by
 unfold AF;split
 ·rw[zx];omega
 ·exact yz _
theorem Aal(s:Rd):(AV s).length<=s.length:=by
 unfold AV;split
 ·rw[yn];omega
 ·exact ya _
theorem wZ{s:Rd}(h:Av s=0):OS s<=s.length:=by
 have c:=vZ<|AF s;have d:=zS s;have a:(Mv s).length<=s.length:=by
  unfold Mv;split
  ·exact Aal s
  ·cases s with
   |nil=>exact wh h (by decide+kernel)
   |cons x s=>exact Nat.succ_le_succ<|ya _
 unfold OS;omega
theorem qY{s:Rd}{n:Nat}(h:Eb s (n:Int)=true):OS s<=n:=by
 unfold Eb at h;rw[ze,ze,ze,w5,w5,w5,w5]at h;obtain⟨⟨_,a⟩,c⟩:=h;unfold OS;omega
end Go.Sp
namespace Go.Pe
open Sp
open Go.Det
theorem kK[Srt]:CL Agh:=Aa T90.ok<|Aa T91.ok AI
theorem T31.ok[Srt]:Af A5 31 Ox:=by
 refine BG kK<|fun(a:(Int×List Int)×(Int×List Int)) ha=>?_;refine yy (T31.Ak a)<|zg ha<|zu (fun c=>zj<|qh rfl rfl ?_)<|fun c=>zg ha<|zj<|qh rfl rfl ?_
 ·have c:Jn a=true:=c;show([],(4:Int))=(MZ a,Mt a);unfold MZ Mt;rw[wd c,wd c]
 ·have c:Jn a=false:=c;show(Kl a,(0:Int))=(MZ a,Mt a);unfold MZ Mt;rw[wc (by rw[c];decide),wc<|by rw[c];decide]
theorem dR[Srt]:CL ZL:=Aa T35.ok AI
theorem T9.ok[Srt]:Af A5 9 RT:=by
 refine BG dR<|fun(i:Rd×Int×Int×Rd) hi=>?_;obtain⟨a,e,bad,w⟩:=i;have g:∀v ob,v=FB a e w bad->Ad RT (a,e,bad,w) (.dat .bool v) ob:=fun v ob h=>qh rfl rfl h
 have f:∀v ob,v=FB a e w bad->Ad RT (a,e,bad,w) (.bl v) ob:=fun v ob h=>qh rfl rfl h
 have key:∀x:Int,x=(if bad=0 then Fl w else bad)->FB a e w bad=if x≠0 then decide (a=[])&&decide (e=x)else decide (e=0)&&decide (a=w):=by
  rintro x rfl;rfl
 have yes:∀(x:Int) ob,x=(if bad=0 then Fl w else bad)->x≠0->Ends ZL (.ite (a==[]) (.leaf (PV.dat ye<|e==x) ob)<|.leaf (PV.bl false) ob) (Ad RT (a,e,bad,w)):=fun x ob h h0=>by
  have k:=key x h;rw[wd h0]at k;refine zu (fun c=>zj<|g _ _ ?_)<|fun c=>zj<|f _ _ ?_
  ·have c:a=[]:=by simpa using c
   rw[k,w4 c,Bool.true_and];rfl
  ·have c:a≠[]:=by simpa using c
   rw[k,w8 c];rfl
 have no:∀(x:Int) ob,x=(if bad=0 then Fl w else bad)->x=0->Ends ZL (.ite (e==0) (.leaf (PV.dat ye<|a==w) ob)<|.leaf (PV.bl false) ob) (Ad RT (a,e,bad,w)):=fun x ob h h0=>by
  have k:=key x h;rw[wc<|by rw[h0];decide]at k;refine zu (fun c=>zj<|g _ _ ?_)<|fun c=>zj<|f _ _ ?_
  ·have c:e=0:=by simpa using c
   rw[k,w4 c,Bool.true_and];by_cases h:a=w
   ·rw[w4 h];simpa using h
   ·rw[w8 h];simpa using h
  ·have c:e≠0:=by simpa using c
   rw[k,w8 c];rfl
 refine yy (T9.Ak a e bad w)<|zu (fun c=>zg hi<|zu (fun d=>?_)<|fun d=>?_)<|fun c=>zu (fun d=>?_)<|fun d=>?_
 ·have c:bad=0:=by simpa using c
  exact yes _ _ (by rw[wd c]) (by simpa using d)
 ·have c:bad=0:=by simpa using c
  exact no _ _ (by rw[wd c]) (by simpa using d)
 ·have c:bad≠0:=by simpa using c
  exact yes _ _ (by rw[wc c]) c
 ·have c:bad≠0:=by simpa using c
  exact wh (by simpa using d) c
theorem fO[Srt]:CL AbH:=Aa T99.ok<|Aa T98.ok AI
theorem T38.ok[Srt]:Af A5 38 mE:=by
 refine BG fO<|fun(n:Int) c=>?_;have c:n.natAbs<9223372036854775808:=w6 c;have a:Cv n=true:=ad ae ae;refine yy (T38.Ak n)<|zg a<|zg (Z7 a)<|zj<|qh rfl rfl ?_;exact mS n
section
open List Int Prod
namespace T115
def T[Srt](c:Bc):Tr:=tree Lx false 9 115<|Ag ([DG]) c
def L1[Srt](f:List ED)(e d:Int)(g:List ED)(a:List Ix)(c:List Fo):Tr:=re ((T ([],([],[]))).L.R)<|Ay 116 [(1,.ptr 0 0),(26,.dat (zk Gj) f),(27,.dat i64 e),(28,.dat i64 d)] [(0,.box [.dat (zk Gj) g,.dat (zk Na) a,.dat (zk Hy) c])] 1
theorem Ak[Srt](c:Bc):T c=let a:=(↑(length<|fst c):Int);.ck true (.ite (Bj a 36 !=0) (.leaf (.dat i64<|Bj a 36) [])<|L1 (fst c) a 0 (fst c) (fst<|snd c)<|snd<|snd c):=by kernel_rfl
def L2[Srt](d:List Ix)(e f:Int)(o1:List (Rd×Bool))(g:List ED)(c:List Ix)(a:List Fo):Tr:=re ((stepT Lx<|L1 [] 0 0 [] [] []).R.L.R)<|Ay 116 [(1,.ptr 0 0),(8,PV.mp 1),(47,.dat (zk Na) d),(48,.dat i64 e),(49,.dat i64 f)] [(1,Obj.map zr ye o1),(0,.box [.dat (zk Gj) g,.dat (zk Na) c,.dat (zk Hy) a])] 2
theorem Al[Srt](e:List ED)(f c:Int)(g:List ED)(a:List Ix)(d:List Fo):stepT Lx (L1 e f c g a d)=let i:=getD e (toNat c) ([],[],[],[],[]);let b':=(length a:Int);.di (c<f) (.ck (decide (0<=c)&&decide (c<(length e:Int)))<|.ck (Sp.Gj i)<|.ite (Tq i !=0) (.leaf (.dat i64<|Tq i) [])<|L1 e f (zh .i64<|c+1) g a d) (.ck true<|.ite (Bj b' 8 !=0) (.leaf (.dat i64<|Bj b' 8) [])<|L2 a b' 0 [] g a d):=by kernel_rfl
def L3[Srt](i:List Ix)(k l:Int)(o1:List (Rd×Bool))(m:List ED)(f:List Ix)(e:List Fo)(v0:List Int)(t s:Int)(q:Rd)(d:List Int)(j:List (Rd×Bool))(g:List ED)(c:List Ix)(a:List Fo):Tr:=re ((stepT Lx<|L2 i k l o1 m f e).L.L)<|Ay 19 [(0,.dat (zk i64) v0),(1,PV.fn (Go.Fn.func 151) [] []),(7,.dat i64 t),(8,.dat i64 s)] [(2,.box [.dat zr q,.dat (zk i64) d]),(1,Obj.map zr ye j),(0,.box [.dat (zk Gj) g,.dat (zk Na) c,.dat (zk Hy) a])] 3
def L4[Srt](d:List Fo)(a c:Int)(e:List (Rd×Bool)):Tr:=re ((stepT Lx<|L2 [] 0 0 [] [] [] []).R.L.R)<|Ay 116 [(14,PV.mp 0),(94,.dat (zk Hy) d),(95,.dat i64 a),(96,.dat i64 c)] [(0,Obj.map zr ye e)] 1
theorem AL[Srt](e:List Ix)(f c:Int)(o1:List (Rd×Bool))(i:List ED)(d:List Ix)(a:List Fo):stepT Lx (L2 e f c o1 i d a)=let g:=getD e (toNat c) ([],[]);let b':=(length a:Int);.di (c<f) (.ck (decide (0<=c)&&decide (c<(length e:Int)))<|L3 e f c o1 i d a (snd g) ((↑(length<|snd g):Int)) 0 (fst g) (snd g) o1 i d a) (.ck true<|.ite (Bj b' 8 !=0) (.leaf (.dat i64<|Bj b' 8) [])<|L4 a b' 0 []):=by kernel_rfl
theorem BT[Srt](m:List Ix)(k l:Int)(o1:List (Rd×Bool))(z:List ED)(j:List Ix)(i:List Fo)(v0:List Int)(u e:Int)(q:Rd)(d:List Int)(g:List (Rd×Bool))(f:List ED)(c:List Ix)(a:List Fo):stepT Lx (L3 m k l o1 z j i v0 u e q d g f c a)=let b':=Option.getD (Ee zr ye q g) false;let t:=(length d:Int) !=(↑(length f):Int);let x:=L2 m k (zh .i64<|l+1) (He zr ye q true g) f c a;let s:=!z8 q;let y:=decide (4<=4)&&true&&decide (4<=1000000);let v:Tr:=.ck true<|.ck true<|.ck true<|.ck true<|.ck true<|.ck y<|.ite (zl [Cd s 8,Cd b' 9,Cd t 2,Cd (decide (e>=0)) 3] !=0) (.leaf (.dat i64<|zl [Cd s 8,Cd b' 9,Cd t 2,Cd (decide (e>=0)) 3]) []) x;.di (e<u) (.ck (decide (0<=e)&&decide (e<(length v0:Int)))<|.di (getD v0 (toNat e) 0<1) v<|.di (getD v0 (toNat e) 0>10000) v<|L3 m k l o1 z j i v0 u (zh .i64<|e+1) q d g f c a) (.ck true<|.ck true<|.ck true<|.ck true<|.ck true<|.ck y<|.ite (zl [Cd s 8,Cd b' 9,Cd t 2,Cd false 3] !=0) (.leaf (.dat i64<|zl [Cd s 8,Cd b' 9,Cd t 2,Cd false 3]) []) x):=by kernel_rfl
theorem BU[Srt](c:List Fo)(d a:Int)(f:List (Rd×Bool)):stepT Lx (L4 c d a f)=let e:=getD c (toNat a) ([],[],[],[],[]);let b':=Option.getD (Ee zr ye (fst e) f) false;.di (a<d) (.ck (decide (0<=a)&&decide (a<(length c:Int)))<|.ck (Sp.Hy e)<|.ck true<|.ck (decide (2<=2)&&true&&decide (2<=1000000))<|.ite (zl [Xm e,Cd b' 9] !=0) (.leaf (.dat i64<|zl [Xm e,Cd b' 9]) [])<|L4 c d (zh .i64<|a+1)<|He zr ye (fst e) true f) (.leaf (.dat i64 (0:Int)) []):=by kernel_rfl
end T115
namespace T52
def T[Srt](c:Bc)(l:List (Int×Int)):Tr:=tree wQ false 9 52<|Ag ([DG,zk<|Sh.pair i64 i64]) (c,l)
def L1[Srt](c:Bc)(l:List (Int×Int))(v0:List (Int×Int))(f e:Int)(g:List ED)(a:List Ix)(d:List Fo):Tr:=re ((T c l).L.R)<|Ay 19 [(0,.dat (zk<|Sh.pair i64 i64) v0),(1,PV.fn (Go.Fn.func 117) [] []),(7,.dat i64 f),(8,.dat i64 e)] [(0,.box [.dat (zk Gj) g,.dat (zk Na) a,.dat (zk Hy) d])] 1
theorem Ak[Srt](c:Bc)(l:List (Int×Int)):T c l=.ck (RD c) (.ite (Va c !=0) (.leaf (.dat i64<|Va c) [])<|L1 c l l ((length l:Int)) 0 (fst c) (fst<|snd c)<|snd<|snd c):=by kernel_rfl
theorem Al[Srt](c:Bc)(l:List (Int×Int))(v0:List (Int×Int))(f e:Int)(g:List ED)(d:List Ix)(a:List Fo):stepT wQ (L1 c l v0 f e g d a)=let i:Tr:=.ck true<|.leaf (.dat i64<|Cd (decide (e>=0)) 10) [];let b':=getD v0 (toNat e) (0,0);.di (e<f) (.ck (decide (0<=e)&&decide (e<(length v0:Int)))<|.di (fst b'<0) i<|.di (fst b'>=snd b') i<|L1 c l v0 f (zh .i64<|e+1) g d a) (.ck true<|.leaf (.dat i64<|Cd false 10) []):=by kernel_rfl
end T52
namespace T193
def T[Srt](a:Rd)(d c:Int):Tr:=tree Agd false 9 193<|Ag ([zr,yu zn,yu zn]) (a,d,c)
theorem Ak[Srt](a:Rd)(c d:Int):T a c d=let e:=((c,Bo c),1,Bo 1);let b':=((d,Bo d),1,Bo 1);.cd (length a<=1000000) (.ite (Av a !=0) (.leaf (.dat i64<|Av a) [])<|.ck (Dc a)<|.ck true<|.ck (qp (BR a)&&qp e)<|.di (CW (BR a) e<0) (.ck true<|.leaf (.dat i64<|Cd true 3) [])<|.ck true<|.ck (qp (BR a)&&qp b')<|.ck true<|.leaf (.dat i64<|Cd (decide (CW (BR a) b'>0)) 3) []):=by kernel_rfl
end T193
namespace T196
def T[Srt](l:List BJ):Tr:=tree uZ false 9 196<|Ag ([zk Hb]) l
def L1[Srt](d:List BJ)(c a:Int)(e:List (Rd×Bool)):Tr:=re ((T []).R)<|Ay 44 [(3,PV.mp 0),(11,.dat (zk Hb) d),(12,.dat i64 c),(13,.dat i64 a)] [(0,Obj.map zr ye e)] 1
theorem Ak[Srt](l:List BJ):T l=.di ((length l:Int)>16) (.leaf (.dat i64 (5:Int)) []) (L1 l ((length l:Int)) 0 []):=by kernel_rfl
theorem Al[Srt](d:List BJ)(e a:Int)(f:List (Rd×Bool)):stepT uZ (L1 d e a f)=let c:=getD d (toNat a) ([],[]);let b':=Option.getD (Ee zr ye (fst c) f) false;.di (a<e) (.ck (decide (0<=a)&&decide (a<(length d:Int)))<|.ck true<|.ck true<|.ck true<|.cd (length (snd c)<=1000000)<|.ck (decide (3<=3)&&true&&decide (3<=1000000))<|.ite (zl [Cd (!z8 (fst c)) 8,Cd b' 9,Av<|snd c] !=0) (.leaf (.dat i64<|zl [Cd (!z8 (fst c)) 8,Cd b' 9,Av<|snd c]) [])<|.ck (Dc<|snd c)<|.ck (Sp.Da (Ro<|snd c,Rz<|snd c))<|.di (Qk (BR<|snd c)<0) (.leaf (.dat i64 (3:Int)) [])<|L1 d e (zh .i64<|a+1)<|He zr ye (fst c) true f) (.leaf (.dat i64 (0:Int)) []):=by kernel_rfl
end T196
namespace T153
def T[Srt](l:Fo):Tr:=tree vU false 9 153<|Ag ([Hy]) l
def L1[Srt](v4:Int)(f e c:Rd)(d a:List BJ):Tr:=re ((T ([],([],([],([],[]))))).L.L.L.L.L.L.R)<|Ay 51 [(1,.ptr 0 0),(4,.dat i64 v4)] [(0,.box [.dat zr f,.dat zr e,.dat zr c,.dat (zk Hb) d,.dat (zk Hb) a])] 1
theorem Ak[Srt](l:Fo):T l=let a:=fst<|snd<|snd<|snd l;let b':=fst<|snd<|snd l;.ck true (.ck true<|.ck (decide (length (fst<|snd l)<=1000000)&&Rf 1&&Rf 10000)<|.ck (decide (length b'<=1000000)&&Rf 1&&Rf 10000)<|.ck (decide (length a<=1000)&&RA 1000000 a)<|.ck (decide (4<=4)&&true&&decide (4<=1000000))<|.ite (zl [Cd (!z8 (fst l)) 8,D9 (fst<|snd l) 1 10000,D9 b' 1 10000,CN a] !=0) (.leaf (.dat i64<|zl [Cd (!z8 (fst l)) 8,D9 (fst<|snd l) 1 10000,D9 b' 1 10000,CN a]) [])<|L1 1 (fst l) (fst<|snd l) b' a<|snd<|snd<|snd<|snd l):=by kernel_rfl
theorem Al[Srt](v4:Int)(i e d:Rd)(a c:List BJ):stepT vU (L1 v4 i e d a c)=let f:=snd<|getD a (toNat<|zh .i64<|v4-1) ([],[]);let b':=snd<|getD a (toNat v4) ([],[]);let g:=(length a:Int);.di (v4<g) (.ck (decide (0<=v4)&&decide (v4<g))<|.ck (decide (0<=zh .i64 (v4-1))&&decide (zh .i64 (v4-1)<g))<|.ck (Dc b')<|.ck (Dc f)<|.ck (qp (BR b')&&qp (BR f))<|.di (CW (BR b') (BR f)<0) (.leaf (.dat i64 (11:Int)) [])<|L1 (zh .i64<|v4+1) i e d a c) (.ck (Rv c 40 20)<|.leaf (.dat i64<|Tn c) []):=by kernel_rfl
end T153
namespace T150
def T[Srt](s:ED):Tr:=tree wW false 9 150<|Ag ([Gj]) s
def L1[Srt](a:List LX)(d c:Int):Tr:=re ((T ([],([],([],([],[]))))).L.L.L.L.L.L.R)<|Ay 56 [(30,.dat (zk eO) a),(31,.dat i64 d),(32,.dat i64 c)] [] 0
theorem Ak[Srt](s:ED):T s=let a:=snd<|snd<|snd s;let c:=fst<|snd<|snd s;let b':=(↑(length<|snd a):Int);.ck (decide (length (fst s)<=1000000)&&Rf (-10000)&&Rf 10000) (.ck (decide (length (fst<|snd s)<=1000000)&&Rf (-10000)&&Rf 10000)<|.ck (decide (length c<=1000000)&&Rf 0&&Rf 10000)<|.ck (decide (length (fst a)<=1000000)&&Rf 0&&Rf 10000)<|.ck true<|.ck (decide (5<=5)&&true&&decide (5<=1000000))<|.ite (zl [D9 (fst s) (-10000) 10000,D9 (fst<|snd s) (-10000) 10000,D9 c 0 10000,D9 (fst a) 0 10000,Cd (decide (b'>16)) 5] !=0) (.leaf (.dat i64<|zl [D9 (fst s) (-10000) 10000,D9 (fst<|snd s) (-10000) 10000,D9 c 0 10000,D9 (fst a) 0 10000,Cd (decide (b'>16)) 5]) [])<|L1 (snd a) b' 0):=by kernel_rfl
theorem Al[Srt](c:List LX)(d a:Int):stepT wW (L1 c d a)=let e:=getD c (toNat a) ([],0);let g:=decide (2<=2)&&true&&decide (2<=1000000);let f:=L1 c d<|zh .i64<|a+1;let b':=!z8 (fst e);.di (a<d) (.ck (decide (0<=a)&&decide (a<(length c:Int)))<|.ck true<|.ck true<|.di (snd e<0) (.ck true<|.ck g<|.ite (zl [Cd b' 8,Cd true 3] !=0) (.leaf (.dat i64<|zl [Cd b' 8,Cd true 3]) []) f)<|.ck true<|.ck g<|.ite (zl [Cd b' 8,Cd (decide (snd e>10)) 3] !=0) (.leaf (.dat i64<|zl [Cd b' 8,Cd (decide (snd e>10)) 3]) []) f) (.leaf (.dat i64 (0:Int)) []):=by kernel_rfl
end T150
end
theorem T152.uS[Srt]:Af A5 152 cNm:=by
 refine BG Xv<|fun(s:Rd) _=>?_;have d:∀v b,v=.bl b\/v=.dat .bool b->b=z8 s->∀ob,Ad cNm s v ob:=by
  rintro v b (rfl|rfl) k ob
  ·exact qh rfl rfl k
  ·exact qh rfl rfl k
 refine yy (T152.Ak s) ?_;conv=>zeta
 refine qg (T152.Al ..) ?_;conv=>zeta
 cases s with
 |nil=>
  refine qq (by simp) (qq (by simp) ?_);exact zj<|d _ _ (.inl rfl) rfl _
 |cons x r=>
  refine zg (by simp) ?_;simp only[Hk,Ns,w5,Bool.not_eq_true',w9,bne_iff_ne,vc,wm];have step:qm (x.toNat:Int)=true->Ki (x::r) 0=1->Ends iP (T152.L2 (x::r) (x::r)<|Nat.add 0<|Ki (x::r) 0) (Ad cNm (x::r)):=by
   intro a u;rw[u];refine T152.loop (x::r) (by simp) r 1 rfl (by simp) ae (fun e=>d _ _ (.inl rfl) ?_) (fun e=>d _ _ (.inr rfl) ?_)
   ·simp[z8,e]
   ·simp only[z8,e,a,Bool.and_true,yq];congr 1;apply propext;push_cast;omega
  have no:qm (x.toNat:Int)=false->∀ob,Ad cNm (x::r) (.bl false) ob:=fun a=>d _ _ (.inl rfl) (by simp[z8,a])
  have l:(x::r).getD 0 0=x:=rfl;by_cases j:((x::r).getD 0 0).toNat<128
  ·obtain⟨t,m⟩:=WT (s:=x::r) (i:=0) (by simp) j;rw[t,l];have f:=P3 (x.toNat:Int);generalize ((x.toNat:Nat):Int)=c at f step no ⊢;by_cases a:qm c=true
   ·have:=f.1 a;repeat' split
    all_goals first|exact step a m|(exfalso;omega)
   ·have g:qm c=false:=by simpa using a
    have:¬_:=fun h=>a<|f.2 h
    repeat' split
    all_goals first|exact no g _|(exfalso;omega)
  ·have hr:=Sq (s:=x::r) (i:=0) (by simp) ae;have q:qm (x.toNat:Int)=false:=by
    have:¬qm (x.toNat:Int)=true:=fun h=>by
     have:=(P3 _).1 h;rw[l]at j;omega
    simpa using this
   repeat' split
   all_goals first|exact no q _|(exfalso;omega)
end Go.Pe
namespace Go.Sp
theorem cS{a:BS}{d c:Int}(h:Av a=0):D9 a d c=if Au a<(d:Rat)\/(c:Rat)<Au a then 3 else 0:=by
 unfold D9;rw[wc<|by rw[h];decide]
theorem lV{a:BS}{d c:Int}(h:Av a≠0):D9 a d c=Av a:=by
 unfold D9;rw[wd h]
theorem sX{n:Int}(h:Rf n=true):n.natAbs<10^6:=by
 unfold Rf at h;rw[ze,w5,w5]at h;have:(10:Nat)^6=1000000:=rfl;omega
def wE(seen:List BS)(w:BJ):Int:=first [Cd (!isName w.1) 8,Cd (has seen w.1) 9,Av w.2]
theorem kQ(seen:List BS)(w:BJ)(l:List BJ):wI seen (w::l)=if wE seen w≠0 then wE seen w else if Au w.2<0 then 3 else wI (w.1::seen) l:=by
 have e:wE seen w=if isName w.1=false then 8 else if has seen w.1=true then 9 else Av w.2:=by
  unfold wE;rw[De,De,De,FT,FT];cases isName w.1
  ·rfl
  ·cases has seen w.1
   ·simp only[Bool.not_true,Bool.false_eq_true,vf,vc,not_true,ite_not];split
    ·next h=>rw[h];rfl
    ·rfl
   ·rfl
 rw[e,wI];cases isName w.1
 ·rfl
 ·cases has seen w.1
  ·rfl
  ·rfl
def oE(o:LX):Int:=first [Cd (!isName o.1) 8,Cd (decide (o.2<0\/10<o.2)) 3]
theorem nF(o:LX)(l:List LX):xM (o::l)=if oE o≠0 then oE o else xM l:=by
 have e:oE o=if isName o.1=false then 8 else if o.2<0\/10<o.2 then 3 else 0:=by
  unfold oE;rw[Go.Pe.JZ,FT,FT];cases isName o.1
  ·rfl
  ·by_cases h:o.2<0\/10<o.2
   ·rw[w4 h,wd h];rfl
   ·rw[w8 h,wc h];rfl
 rw[e,xM];cases isName o.1
 ·rfl
 ·by_cases h:o.2<0\/10<o.2
  ·simp only[wd h];rfl
  ·simp only[wc h];rfl
theorem S3:∀ {l:List BJ} {o:Option BJ},E6 o l=0->∀p∈l,Av p.1=0/\Av p.2=0
 |[],_,_,p,hp=>by cases hp
 |x::l,none,h,p,hp=>by
  obtain⟨a,b,c⟩:=Me h;rcases yc.1 hp with rfl|hp
  ·exact⟨a,b⟩
  ·exact S3 c p hp
 |x::l,some q,h,p,hp=>by
  obtain⟨a,b,_,c⟩:=Ja h;rcases yc.1 hp with rfl|hp
  ·exact⟨a,b⟩
  ·exact S3 c p hp
theorem jL(y:BS)(p:BJ)(l:List BJ):bI (some y) (p::l)=if Cf p.2 y<0 then 11 else bI (some p.2) l:=by rw[bI]
end Go.Sp
namespace Go.Pe
open Sp
open Go.Det
open Go.Sp (Bc ED Fo BJ LX BS Ix)
theorem Mm{m:List (BS×Bool)}{seen:List BS}(h:IK m (fun x=>x∈seen))(k:BS):(Ee .str .bool k m).getD false=Sp.has seen k:=by
 unfold Sp.has;by_cases e:k∈seen
 ·rw[w4 e];exact(h k).2 e
 ·rw[w8 e];cases c:(Ee .str .bool k m).getD false with
  |false=>rfl
  |true=>exact wh ((h k).1 c) e
theorem O6:IK [] (fun x=>x∈([]:List BS)):=IK.nil.congr fun _=>⟨fun h=>h.elim,fun h=>by cases h⟩
theorem PX{m:List (BS×Bool)}{seen:List BS}(h:IK m (fun x=>x∈seen))(k:BS):IK (He .str .bool k true m) (fun x=>x∈k::seen):=(h.add k).congr fun _=>yc.symm
theorem nX[Srt]:CL Agd:=Aa T89.ok<|Aa T66.ok<|Aa T81.ok<|Aa T60.ok<|Aa T59.ok AI
theorem T193.ok[Srt]:Af A5 193 vL:=by
 refine BG nX<|fun(i:BS×Int×Int) g=>?_;obtain⟨a,f,h⟩:=i;have g:(decide (a.length<=1000000)&&Rf f&&Rf h)=true:=g;rw[ze,ze,w5]at g;obtain⟨⟨hl,h1⟩,h2⟩:=g;have j:∀e ob,e=D9 a f h->Ad vL (a,f,h) (.dat i64 e) ob:=fun e ob x=>qh rfl rfl x
 have L:=FV (n:=f) (sX h1) af af;have H:=FV (n:=h) (sX h2) af af;refine yy (T193.Ak a f h)<|zg (w4 hl)<|zu (fun c=>zj<|j _ _ ?_)<|fun c=>?_
 ·have c:Av a≠0:=by simpa using c
  exact(lV c).symm
 ·have c:Av a=0:=by simpa using c
  obtain⟨o1,k⟩:=FU c;have A:=F7 c;refine zg k (zg rfl (zg (Ac o1<|L.B8 af)<|zu (fun d=>zg rfl (zj<|j _ _ ?_))<|fun d=>zg rfl (zg (Ac o1<|H.B8 af)<|zg rfl (zj<|j _ _ ?_))))
  ·rw[cS c,wd<|.inl<|(A.Us L).1<|w6 d];rfl
  ·have d:=w7 d;rw[cS c];by_cases e:CW (BR a) ((h,Bo h),(1,Bo 1))>0
   ·rw[wd<|.inr<|(A.Nk H).1 e];exact wi (fun b=>Cd b 3)<|w4 e
   ·rw[wc<|not_or.2 ⟨fun x=>d<|(A.Us L).2 x,fun x=>e<|(A.Nk H).2 x⟩];exact wi (fun b=>Cd b 3)<|w8 e
theorem oF[Srt]:CL uZ:=Aa T152.uS<|Aa T57.ok<|Aa T59.ok<|Aa T89.ok<|Aa T66.ok<|Aa T87.ok AI
namespace T196
theorem loop[Srt]{Q:PV->Ob->Prop}(l:List BJ)(k:l.length<=1000000)(g:∀p∈l,p.2.length<=1000000):∀(r:List BJ) (i:Nat) (m:List (BS×Bool)) (seen:List BS),l.drop i=r->i<=l.length->IK m (fun x=>x∈seen)->(∀ob,Q (.dat i64<|wI seen r) ob)->Ends uZ (L1 l (l.length:Int) (i:Int) m) Q
 |[],i,m,seen,h,j,e,a=>by
  have:=drop_nil h j;exact qg (Al ..) (qq (w8 ae)<|zj<|a _)
 |p::r,i,m,seen,h,j,e,a=>by
  obtain⟨v,t,q⟩:=drop_cons (d:=(([],[]):BJ)) h;have s:=g p (List.mem_of_mem_drop (by rw[h];exact z6 ..));have u:=wn (i:=i) ae;rw[kQ]at a;refine qg (Al ..) ?_;conv=>zeta
  rw[yi,t,u,Mm e];refine zg (w4 ae) (zg (ad ae ae)<|zg rfl (zg rfl (zg rfl (zg (w4 s)<|zg rfl (zu (fun c=>zj ?_)<|fun c=>?_)))))
  ·have c:Sp.wE seen p≠0:=by
    have c:(Sp.wE seen p !=0)=true:=c;simpa using c
   rw[wd c]at a;exact a _
  ·have c:Sp.wE seen p=0:=by
    have c:(Sp.wE seen p !=0)=false:=c;simpa using c
   rw[wc<|by rw[c];decide]at a;have f:Av p.2=0:=by
    unfold Sp.wE at c;rw[Bl,Bl,Bl]at c;exact c.2.2.1
   have A:=F7 f;refine zg (FU f).2<|zg A.Da<|zu (fun d=>zj ?_)<|fun d=>?_
   ·rw[wd<|A.N1.1.1<|w6 d]at a;exact a _
   ·rw[wc fun x=>w7 d<|A.N1.1.2 x]at a;exact loop l k g r (i+1) _ _ q v (PX e p.1) a
theorem ok[Srt]:Af A5 196 AdM:=by
 refine BG oF<|fun(l:List BJ) a=>?_;have a:Rv l 40 20=true:=a;have d:∀e ob,e=Tn l->Ad AdM l (.dat i64 e) ob:=fun e ob x=>qh rfl rfl x
 refine yy (Ak l)<|zu (fun c=>zj<|d _ _ ?_)<|fun c=>?_
 ·have c:=w6 c;unfold Tn;rw[wd ae]
 ·have c:=w7 c;have e:Tn l=wI [] l:=by
   unfold Tn;rw[wc ae]
  exact loop l ae (fun p hp=>by have:=(T5 a p hp).2;omega) l 0 [] [] rfl (ya _) O6 (fun ob=>d _ _ e.symm)
end T196
theorem pH[Srt]:CL vU:=Aa T152.uS<|Aa T57.ok<|Aa T59.ok<|Aa T193.ok<|Aa T195.ok<|Aa T66.ok<|Aa T81.ok<|Aa T196.ok AI
namespace T153
theorem loop[Srt]{Q:PV->Ob->Prop}(m e nx:BS)(t w:List BJ)(x:t.length<=1000)(c:∀p∈t,Av p.1=0/\Av p.2=0)(k:Rv w 40 20=true):∀(r:List BJ) (i:Nat),t.drop i=r->1<=i->i<=t.length->(∀ob,Q (.dat i64<|if bI (some (t.getD (i-1) ([],[])).2) r≠0 then bI (some (t.getD (i-1) ([],[])).2) r else Tn w) ob)->Ends vU (L1 (i:Int) m e nx t w) Q
 |[],i,h,u,l,a=>by
  have:=drop_nil h l;exact qg (Al ..) (qq (w8 ae)<|zg k<|zj<|a _)
 |p::r,i,h,u,l,a=>by
  obtain⟨A,g,y⟩:=drop_cons (d:=(([],[]):BJ)) h;have s:=c p (List.mem_of_mem_drop (by rw[h];exact z6 ..));have j:=c (t.getD (i-1) ([],[])) (HU ae);have z:=wn (i:=i) ae;have v:zh .i64 ((i:Int)-1)=((i-1:Nat):Int):=by rw[wr _ ae ae];omega
  rw[jL]at a;refine qg (Al ..) ?_;conv=>zeta
  rw[v,yi,yi,g,z];have o1:=FU s.2;have q:=FU j.2;have f:=Z4 s.2 j.2;refine zg (w4 ae) (zg (ad ae ae) (zg (ad ae ae)<|zg o1.2<|zg q.2<|zg (Ac o1.1 q.1)<|zu (fun d=>zj ?_)<|fun d=>?_))
  ·have d:CW (frS p.2) (frS (t.getD (i-1) ([],[])).2)<0:=w6 d;rw[f]at d;rw[wd d,wd af]at a;exact a _
  ·have d:¬CW (frS p.2) (frS (t.getD (i-1) ([],[])).2)<0:=w7 d;rw[f]at d;rw[wc d]at a;exact loop m e nx t w x c k r (i+1) y ae A (by rw[Nat.add_sub_cancel,g];exact a)
theorem ok[Srt]:Af A5 153 cLv:=by
 refine BG pH<|fun(l:Fo) hi=>?_;have a:=ZZ hi;have d:∀e ob,e=Xm l->Ad cLv l (.dat i64 e) ob:=fun e ob x=>qh rfl rfl x
 have hp:RA 1000000 l.2.2.2.1=true:=by
  unfold RA;rw[zm];intro p hp;have:=a.tab p hp;exact ad ae ae
 have a1:=a.head;have a2:=a.next;have a3:=a.tl;have k:Rv l.2.2.2.2 40 20=true:=by
  unfold Rv;rw[zm];intro p hp;have:=a.wts p hp;exact Ac (w4 this.1)<|w4 this.2
 refine yy (Ak l) (zg rfl (zg rfl (zg (Ac (Ac (w4 ae) rfl) rfl)<|zg (Ac (Ac (w4 ae) rfl) rfl)<|zg (Ac (w4 ae) hp)<|zg rfl (zu (fun c=>zj<|d _ _ ?_)<|fun c=>?_))))
 ·have c:(Rk l !=0)=true:=c;have c:Rk l≠0:=by simpa using c
  unfold Xm;rw[wd c];rfl
 ·have c:(Rk l !=0)=false:=c;have c:Rk l=0:=by simpa using c
  have ct:CN l.2.2.2.1=0:=by
   unfold Rk at c;rw[Bl,Bl,Bl,Bl]at c;exact c.2.2.2.1
  obtain⟨f,_,i⟩:=GF ct;have g:=S3 i;obtain⟨p,r,hr⟩:∃p r,l.2.2.2.1=p::r:=by
   cases e:l.2.2.2.1 with
   |nil=>exact wh e f
   |cons p r=>exact⟨p,r,rfl⟩
  have j:l.2.2.2.1.getD (1-1) ([],[])=p:=by rw[hr];rfl
  have up:bI none l.2.2.2.1=bI (some p.2) r:=by rw[hr,bI]
  refine loop _ _ _ _ _ ae g k r 1 (by rw[hr];rfl) ae (by rw[hr,yq];omega)<|fun ob=>d _ _ ?_;rw[j, <-up];exact(wc (c:=Rk l≠0)<|by rw[c];decide).symm
end T153
theorem kG[Srt]:CL wW:=Aa T152.uS<|Aa T57.ok<|Aa T59.ok<|Aa T193.ok AI
namespace T150
theorem loop[Srt]{Q:PV->Ob->Prop}(l:List LX)(f:l.length<=1000000):∀(r:List LX) (i:Nat),l.drop i=r->i<=l.length->(∀ob,Q (.dat i64<|xM r) ob)->Ends wW (L1 l (l.length:Int) (i:Int)) Q
 |[],i,h,j,a=>by
  have:=drop_nil h j;exact qg (Al ..) (qq (w8 ae)<|zj<|a _)
 |o::r,i,h,j,a=>by
  obtain⟨g,m,k⟩:=drop_cons (d:=(([],0):LX)) h;have q:=wn (i:=i) ae;rw[nF]at a;refine qg (Al ..) ?_;conv=>zeta
  rw[yi,m,q];refine zg (w4 ae) (zg (ad ae ae)<|zg rfl (zg rfl (zu (fun d=>zg rfl (zg rfl ?_))<|fun d=>zg rfl (zg rfl ?_))))
  ·have e:Sp.oE o=zl [Cd (!z8 o.1) 8,Cd true 3]:=by
    unfold Sp.oE;rw[w4<|.inl<|w6 d]
   rw[e]at a;refine zu (fun c=>zj ?_)<|fun c=>loop l f r (i+1) k g ?_
   ·rw[wd<|by simpa using c]at a;exact a _
   ·rw[wc<|by simpa using c]at a;exact a
  ·have e:Sp.oE o=zl [Cd (!z8 o.1) 8,Cd (decide (o.2>10)) 3]:=by
    unfold Sp.oE;have d:=w7 d;have:decide (o.2<0\/10<o.2)=decide (o.2>10):=by
     apply decide_eq_decide.2;omega
    rw[this]
   rw[e]at a;refine zu (fun c=>zj ?_)<|fun c=>loop l f r (i+1) k g ?_
   ·rw[wd<|by simpa using c]at a;exact a _
   ·rw[wc<|by simpa using c]at a;exact a
theorem ok[Srt]:Af A5 150 AdD:=by
 refine BG kG<|fun(s:ED) hi=>?_;obtain⟨a1,a2,a3,a4,a5⟩:=aT hi;have i:∀e ob,e=Tq s->Ad AdD s (.dat i64 e) ob:=fun e ob x=>qh rfl rfl x
 have d:∀ {a:BS} {f h:Int},a.length<=20->Rf f=true->Rf h=true->(decide (a.length<=1000000)&&Rf f&&Rf h)=true:=fun k x y=>Ac (Ac (w4 ae) x) y
 have g:fH s=zl [D9 s.1 (-10000) 10000,D9 s.2.1 (-10000) 10000,D9 s.2.2.1 0 10000,D9 s.2.2.2.1 0 10000,Cd (decide ((s.2.2.2.2.length:Int)>16)) 5]:=by
  unfold fH;have:decide (16<s.2.2.2.2.length)=decide ((s.2.2.2.2.length:Int)>16):=by
   apply decide_eq_decide.2;omega
  rw[this]
 refine yy (Ak s)<|zg (d a1 rfl rfl)<|zg (d a2 rfl rfl)<|zg (d a3 rfl rfl)<|zg (d a4 rfl rfl)<|zg rfl (zg rfl (zu (fun c=>zj<|i _ _ ?_)<|fun c=>?_))
 ·rw[<-g]at c ⊢;unfold Tq;rw[wd<|by simpa using c]
 ·rw[<-g]at c;have e:Tq s=xM s.2.2.2.2:=by
   unfold Tq;rw[wc<|by simpa using c]
  exact loop _ ae _ 0 rfl (ya _) (fun ob=>i _ _ e.symm)
end T150
end Go.Pe
