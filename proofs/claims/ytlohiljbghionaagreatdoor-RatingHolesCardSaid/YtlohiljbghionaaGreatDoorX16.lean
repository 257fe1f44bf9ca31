import Derived.Test.YtlohiljbghionaaGreatDoorX15
/- A part of a proof; no law is stated here. -/
noncomputable section
open Go.Pe.Ends renaming tt -> zc, leaf -> ze, Ai -> zi, ite -> zj, ff -> zn, eq -> zp
open Go.IntKind renaming wrap -> zd, i64 -> zt
open Go.Pe.Sh renaming str -> zf, list -> zg, bool -> z6, int -> yd
open Int renaming toNat_natCast -> zh
open List renaming mem_cons_self -> zk, mem_of_mem_drop -> zm, length_cons -> zr, any_cons -> zy, find?_cons -> yc, mem_of_find?_eq_some -> ye, all_cons -> yf, all_eq_true -> yg, headD_cons -> yi, mem_cons -> yj, map_cons -> yk
open Bool renaming and_eq_true -> zl, not_eq_true' -> z7, and_eq_false_iff -> ya, true_or -> ym
open Go.Sp renaming isName -> zo, first -> zq, letter -> zx, Nu -> z8, mark -> yb
open Nat renaming zero_le -> zu, add -> zz
open Go.Pe.Ad renaming of -> zw
open Go.Pe.PV renaming agg -> yh
variable {Q:Go.Pe.PV->Go.Pe.Ob->Prop}
namespace Go.Pe
open Sp
open Go.Det
section
open List Int Prod
namespace T15
def T(c:AL):Tr:=tree My false 9 15<|Ae ([Bn]) c
def L1(c:List BQ)(d e:Int)(f:List BQ)(a:List Cz)(b:List BM):Tr:=re ((T ([],([],[]))).L.R)<|Aw 116 [(1,.ptr 0 0),(26,.dat (zg BU) c),(27,.dat i64 d),(28,.dat i64 e)] [(0,.box [.dat (zg BU) f,.dat (zg Ds) a,.dat (zg Bx) b])] 1
theorem Aj(c:AL):T c=let a:=(↑(length<|fst c):Int);.ck true (.ite (C0 a 36 !=0) (.leaf (.dat i64<|C0 a 36) [])<|L1 (fst c) a 0 (fst c) (fst<|snd c)<|snd<|snd c):=by kernel_rfl
def L2(d:List Cz)(c e:Int)(o1:List (Z×Bool))(f:List BQ)(a:List Cz)(b:List BM):Tr:=re ((stepT My<|L1 [] 0 0 [] [] []).R.L.R)<|Aw 116 [(1,.ptr 0 0),(8,PV.mp 1),(47,.dat (zg Ds) d),(48,.dat i64 c),(49,.dat i64 e)] [(1,Obj.map zf z6 o1),(0,.box [.dat (zg BU) f,.dat (zg Ds) a,.dat (zg Bx) b])] 2
theorem Al(d:List BQ)(e b:Int)(g:List BQ)(a:List Cz)(c:List BM):stepT My (L1 d e b g a c)=let f:=getD d (toNat b) ([],[],[],[],[]);let b':=(length a:Int);.di (b<e) (.ck (decide (0<=b)&&decide (b<(length d:Int)))<|.ck (Sp.BU f)<|.ite (Lb f !=0) (.leaf (.dat i64<|Lb f) [])<|L1 d e (zd .i64<|b+1) g a c) (.ck true<|.ite (C0 b' 8 !=0) (.leaf (.dat i64<|C0 b' 8) [])<|L2 a b' 0 [] g a c):=by kernel_rfl
def L3(f:List Cz)(h g:Int)(o1:List (Z×Bool))(n:List BQ)(c:List Cz)(d:List BM)(v0:List Int)(l k:Int)(m:Z)(e:List Int)(j:List (Z×Bool))(i:List BQ)(b:List Cz)(a:List BM):Tr:=re ((stepT My<|L2 f h g o1 n c d).L.L)<|Aw 19 [(0,.dat (zg i64) v0),(1,PV.fn (Go.Fn.func 66) [] []),(7,.dat i64 l),(8,.dat i64 k)] [(2,.box [.dat zf m,.dat (zg i64) e]),(1,Obj.map zf z6 j),(0,.box [.dat (zg BU) i,.dat (zg Ds) b,.dat (zg Bx) a])] 3
def L4(c:List BM)(a b:Int)(d:List (Z×Bool)):Tr:=re ((stepT My<|L2 [] 0 0 [] [] [] []).R.L.R)<|Aw 116 [(14,PV.mp 0),(94,.dat (zg Bx) c),(95,.dat i64 a),(96,.dat i64 b)] [(0,Obj.map zf z6 d)] 1
theorem AG(d:List Cz)(e b:Int)(o1:List (Z×Bool))(g:List BQ)(c:List Cz)(a:List BM):stepT My (L2 d e b o1 g c a)=let f:=getD d (toNat b) ([],[]);let b':=(length a:Int);.di (b<e) (.ck (decide (0<=b)&&decide (b<(length d:Int)))<|L3 d e b o1 g c a (snd f) ((↑(length<|snd f):Int)) 0 (fst f) (snd f) o1 g c a) (.ck true<|.ite (C0 b' 8 !=0) (.leaf (.dat i64<|C0 b' 8) [])<|L4 a b' 0 []):=by kernel_rfl
theorem BA(i:List Cz)(k j:Int)(o1:List (Z×Bool))(r:List BQ)(g:List Cz)(h:List BM)(v0:List Int)(o f:Int)(l:Z)(c:List Int)(e:List (Z×Bool))(d:List BQ)(b:List Cz)(a:List BM):stepT My (L3 i k j o1 r g h v0 o f l c e d b a)=let b':=Option.getD (Ei zf z6 l e) false;let m:=(length c:Int) !=(↑(length d):Int);let p:=L2 i k (zd .i64<|j+1) (Hu zf z6 l true e) d b a;let n:=!zo l;let s:=decide (4<=4)&&true&&decide (4<=1000000);let q:Tr:=.ck true<|.ck true<|.ck true<|.ck true<|.ck true<|.ck s<|.ite (zq [Cq n 8,Cq b' 9,Cq m 2,Cq (decide (f>=0)) 3] !=0) (.leaf (.dat i64<|zq [Cq n 8,Cq b' 9,Cq m 2,Cq (decide (f>=0)) 3]) []) p;.di (f<o) (.ck (decide (0<=f)&&decide (f<(length v0:Int)))<|.di (getD v0 (toNat f) 0<1) q<|.di (getD v0 (toNat f) 0>10000) q<|L3 i k j o1 r g h v0 o (zd .i64<|f+1) l c e d b a) (.ck true<|.ck true<|.ck true<|.ck true<|.ck true<|.ck s<|.ite (zq [Cq n 8,Cq b' 9,Cq m 2,Cq false 3] !=0) (.leaf (.dat i64<|zq [Cq n 8,Cq b' 9,Cq m 2,Cq false 3]) []) p):=by kernel_rfl
theorem Ci(b:List BM)(c a:Int)(e:List (Z×Bool)):stepT My (L4 b c a e)=let d:=getD b (toNat a) ([],[],[],[],[]);let b':=Option.getD (Ei zf z6 (fst d) e) false;.di (a<c) (.ck (decide (0<=a)&&decide (a<(length b:Int)))<|.ck (Sp.Bx d)<|.ck true<|.ck (decide (2<=2)&&true&&decide (2<=1000000))<|.ite (zq [JG d,Cq b' 9] !=0) (.leaf (.dat i64<|zq [JG d,Cq b' 9]) [])<|L4 b c (zd .i64<|a+1)<|Hu zf z6 (fst d) true e) (.leaf (.dat i64 (0:Int)) []):=by kernel_rfl
end T15
namespace T68
def T(c:AL)(l:List (Int×Int)):Tr:=tree vV false 9 68<|Ae ([Bn,zg<|Sh.pair i64 i64]) (c,l)
def L1(c:AL)(l:List (Int×Int))(v0:List (Int×Int))(e d:Int)(f:List BQ)(a:List Cz)(b:List BM):Tr:=re ((T c l).L.R)<|Aw 19 [(0,.dat (zg<|Sh.pair i64 i64) v0),(1,PV.fn (Go.Fn.func 133) [] []),(7,.dat i64 e),(8,.dat i64 d)] [(0,.box [.dat (zg BU) f,.dat (zg Ds) a,.dat (zg Bx) b])] 1
theorem Aj(c:AL)(l:List (Int×Int)):T c l=.ck (Iy c) (.ite (N8 c !=0) (.leaf (.dat i64<|N8 c) [])<|L1 c l l ((length l:Int)) 0 (fst c) (fst<|snd c)<|snd<|snd c):=by kernel_rfl
theorem Al(c:AL)(l:List (Int×Int))(v0:List (Int×Int))(e d:Int)(g:List BQ)(a:List Cz)(b:List BM):stepT vV (L1 c l v0 e d g a b)=let f:Tr:=.ck true<|.leaf (.dat i64<|Cq (decide (d>=0)) 10) [];let b':=getD v0 (toNat d) (0,0);.di (d<e) (.ck (decide (0<=d)&&decide (d<(length v0:Int)))<|.di (fst b'<0) f<|.di (fst b'>=snd b') f<|L1 c l v0 e (zd .i64<|d+1) g a b) (.ck true<|.leaf (.dat i64<|Cq false 10) []):=by kernel_rfl
end T68
namespace T53
def T(a:Z)(lo b:Int):Tr:=tree AdG false 9 53<|Ae ([zf,yd zt,yd zt]) (a,lo,b)
theorem Aj(a:Z)(lo b:Int):T a lo b=let c:=((lo,Co lo),1,Co 1);let b':=((b,Co b),1,Co 1);.cd (length a<=1000000) (.ite (Ao a !=0) (.leaf (.dat i64<|Ao a) [])<|.ck (DR a)<|.ck true<|.ck (Sp.Cw (Cs a)&&Sp.Cw c)<|.di (Dm (Cs a) c<0) (.ck true<|.leaf (.dat i64<|Cq true 3) [])<|.ck true<|.ck (Sp.Cw (Cs a)&&Sp.Cw b')<|.ck true<|.leaf (.dat i64<|Cq (decide (Dm (Cs a) b'>0)) 3) []):=by kernel_rfl
end T53
namespace T57
def T(l:List A1):Tr:=tree qY false 9 57<|Ae ([zg B5]) l
def L1(c:List A1)(a b:Int)(d:List (Z×Bool)):Tr:=re ((T []).R)<|Aw 44 [(3,PV.mp 0),(11,.dat (zg B5) c),(12,.dat i64 a),(13,.dat i64 b)] [(0,Obj.map zf z6 d)] 1
theorem Aj(l:List A1):T l=.di ((length l:Int)>16) (.leaf (.dat i64 (5:Int)) []) (L1 l ((length l:Int)) 0 []):=by kernel_rfl
theorem Al(c:List A1)(d a:Int)(e:List (Z×Bool)):stepT qY (L1 c d a e)=let b:=getD c (toNat a) ([],[]);let b':=Option.getD (Ei zf z6 (fst b) e) false;.di (a<d) (.ck (decide (0<=a)&&decide (a<(length c:Int)))<|.ck true<|.ck true<|.ck true<|.cd (length (snd b)<=1000000)<|.ck (decide (3<=3)&&true&&decide (3<=1000000))<|.ite (zq [Cq (!zo (fst b)) 8,Cq b' 9,Ao<|snd b] !=0) (.leaf (.dat i64<|zq [Cq (!zo (fst b)) 8,Cq b' 9,Ao<|snd b]) [])<|.ck (DR<|snd b)<|.ck (Sp.Dt (RI<|snd b,RC<|snd b))<|.di (Pp (Cs<|snd b)<0) (.leaf (.dat i64 (3:Int)) [])<|L1 c d (zd .i64<|a+1)<|Hu zf z6 (fst b) true e) (.leaf (.dat i64 (0:Int)) []):=by kernel_rfl
end T57
namespace T13
def T(l:BM):Tr:=tree qX false 9 13<|Ae ([Bx]) l
def L1(v4:Int)(e a d:Z)(b c:List A1):Tr:=re ((T ([],([],([],([],[]))))).L.L.L.L.L.L.R)<|Aw 51 [(1,.ptr 0 0),(4,.dat i64 v4)] [(0,.box [.dat zf e,.dat zf a,.dat zf d,.dat (zg B5) b,.dat (zg B5) c])] 1
theorem Aj(l:BM):T l=let a:=fst<|snd<|snd<|snd l;let b':=fst<|snd<|snd l;.ck true (.ck true<|.ck (decide (length (fst<|snd l)<=1000000)&&GI 1&&GI 10000)<|.ck (decide (length b'<=1000000)&&GI 1&&GI 10000)<|.ck (decide (length a<=1000)&&GC 1000000 a)<|.ck (decide (4<=4)&&true&&decide (4<=1000000))<|.ite (zq [Cq (!zo (fst l)) 8,BL (fst<|snd l) 1 10000,BL b' 1 10000,BH a] !=0) (.leaf (.dat i64<|zq [Cq (!zo (fst l)) 8,BL (fst<|snd l) 1 10000,BL b' 1 10000,BH a]) [])<|L1 1 (fst l) (fst<|snd l) b' a<|snd<|snd<|snd<|snd l):=by kernel_rfl
theorem Al(v4:Int)(g c d:Z)(a b:List A1):stepT qX (L1 v4 g c d a b)=let e:=snd<|getD a (toNat<|zd .i64<|v4-1) ([],[]);let b':=snd<|getD a (toNat v4) ([],[]);let f:=(length a:Int);.di (v4<f) (.ck (decide (0<=v4)&&decide (v4<f))<|.ck (decide (0<=zd .i64 (v4-1))&&decide (zd .i64 (v4-1)<f))<|.ck (DR b')<|.ck (DR e)<|.ck (Sp.Cw (Cs b')&&Sp.Cw (Cs e))<|.di (Dm (Cs b') (Cs e)<0) (.leaf (.dat i64 (11:Int)) [])<|L1 (zd .i64<|v4+1) g c d a b) (.ck (IF b 40 20)<|.leaf (.dat i64<|N4 b) []):=by kernel_rfl
end T13
namespace T64
def T(s:BQ):Tr:=tree sM false 9 64<|Ae ([BU]) s
def L1(b:List ER)(c a:Int):Tr:=re ((T ([],([],([],([],[]))))).L.L.L.L.L.L.R)<|Aw 56 [(30,.dat (zg S1) b),(31,.dat i64 c),(32,.dat i64 a)] [] 0
theorem Aj(s:BQ):T s=let a:=snd<|snd<|snd s;let b:=fst<|snd<|snd s;let b':=(↑(length<|snd a):Int);.ck (decide (length (fst s)<=1000000)&&GI (-10000)&&GI 10000) (.ck (decide (length (fst<|snd s)<=1000000)&&GI (-10000)&&GI 10000)<|.ck (decide (length b<=1000000)&&GI 0&&GI 10000)<|.ck (decide (length (fst a)<=1000000)&&GI 0&&GI 10000)<|.ck true<|.ck (decide (5<=5)&&true&&decide (5<=1000000))<|.ite (zq [BL (fst s) (-10000) 10000,BL (fst<|snd s) (-10000) 10000,BL b 0 10000,BL (fst a) 0 10000,Cq (decide (b'>16)) 5] !=0) (.leaf (.dat i64<|zq [BL (fst s) (-10000) 10000,BL (fst<|snd s) (-10000) 10000,BL b 0 10000,BL (fst a) 0 10000,Cq (decide (b'>16)) 5]) [])<|L1 (snd a) b' 0):=by kernel_rfl
theorem Al(b:List ER)(c a:Int):stepT sM (L1 b c a)=let d:=getD b (toNat a) ([],0);let f:=decide (2<=2)&&true&&decide (2<=1000000);let e:=L1 b c<|zd .i64<|a+1;let b':=!zo (fst d);.di (a<c) (.ck (decide (0<=a)&&decide (a<(length b:Int)))<|.ck true<|.ck true<|.di (snd d<0) (.ck true<|.ck f<|.ite (zq [Cq b' 8,Cq true 3] !=0) (.leaf (.dat i64<|zq [Cq b' 8,Cq true 3]) []) e)<|.ck true<|.ck f<|.ite (zq [Cq b' 8,Cq (decide (snd d>10)) 3] !=0) (.leaf (.dat i64<|zq [Cq b' 8,Cq (decide (snd d>10)) 3]) []) e) (.leaf (.dat i64 (0:Int)) []):=by kernel_rfl
end T64
namespace T58
def T(s:Z):Tr:=tree WT false 9 58<|Ae ([zf]) s
def L1(v0:Z)(v3:Int):Tr:=re ((T []).R.R)<|Aw 56 [(0,.dat zf v0),(3,.dat i64 v3)] [] 0
theorem Aj(s:Z):T s=.di ((length s:Int)<1) (.leaf (.bl false) []) (.di ((length s:Int)>24) (.leaf (.bl false) [])<|L1 s 0):=by kernel_rfl
theorem Al(v0:Z)(v3:Int):stepT WT (L1 v0 v3)=let b':=(↑(UInt8.toNat<|getD v0 (toNat v3) (0:UInt8)):Int);let a:=L1 v0<|zd .i64<|v3+1;let b:Tr:=.leaf (.bl false) [];let c:=decide (v3<(length v0:Int));let e:Tr:=.ite (v3==0) b<|.di (b'>=48) (.di (b'<=57) a<|.ite (!b'==95) b a)<|.ite (!b'==95) b a;let d:Tr:=.di (b'>=65) (.ite (!decide (b'<=90)) e a) e;.ite c (.ck (decide (0<=v3)&&c)<|.di (b'>=97) (.di (b'<=122) a d) d) (.leaf (.bl true) []):=by kernel_rfl
end T58
end
theorem T52.okU:Af A8 52 eR:=by
 refine BR TT<|fun(s:Z) _=>?_;have d:∀v b,v=.bl b\/v=.dat .bool b->b=zo s->∀ob,Ad eR s v ob:=by
  rintro v b (rfl|rfl) k ob
  ·exact zw rfl rfl k
  ·exact zw rfl rfl k
 refine zp (T52.Aj s) ?_;conv=>zeta
 refine zi (T52.Al ..) ?_;conv=>zeta
 cases s with
 |nil=>
  refine zn (by simp) (zn (by simp) ?_);exact ze<|d _ _ (.inl rfl) rfl _
 |cons x r=>
  refine zc (by simp) ?_;simp only[Fu,HC,w5,z7,w9,bne_iff_ne,wm,wk];have step:zx (x.toNat:Int)=true->Kr (x::r) 0=1->Ends WT (T52.L2 (x::r) (x::r)<|zz 0<|Kr (x::r) 0) (Ad eR (x::r)):=by
   intro a p;rw[p];refine T52.loop (x::r) (by simp) r 1 rfl (by simp) ae (fun e=>d _ _ (.inl rfl) ?_) (fun e=>d _ _ (.inr rfl) ?_)
   ·simp[zo,e]
   ·simp only[zo,e,a,Bool.and_true,zr];congr 1;apply propext;push_cast;omega
  have no:zx (x.toNat:Int)=false->∀ob,Ad eR (x::r) (.bl false) ob:=fun a=>d _ _ (.inl rfl) (by simp[zo,a])
  have l:(x::r).getD 0 0=x:=rfl;by_cases j:((x::r).getD 0 0).toNat<128
  ·obtain⟨o,n⟩:=U4 (s:=x::r) (i:=0) (by simp) j;rw[o,l];have g:=KS (x.toNat:Int);generalize ((x.toNat:Nat):Int)=c at g step no ⊢;by_cases a:zx c=true
   ·have:=g.1 a;repeat' split
    all_goals first|exact step a n|(exfalso;omega)
   ·have f:zx c=false:=by simpa using a
    have:¬_:=fun h=>a<|g.2 h
    repeat' split
    all_goals first|exact no f _|(exfalso;omega)
  ·have hr:=Su (s:=x::r) (i:=0) (by simp) ae;have m:zx (x.toNat:Int)=false:=by
    have:¬zx (x.toNat:Int)=true:=fun h=>by
     have:=(KS _).1 h;rw[l]at j;omega
    simpa using this
   repeat' split
   all_goals first|exact no m _|(exfalso;omega)
namespace T58
theorem loop(s:Z)(p:s.length<=24):∀(r:Z) (i:Nat),s.drop i=r->i<=s.length->
  (((decide (1<=i)||zx ((r.headD 97).toNat:Int))&&(r.all fun c=>yb (c.toNat:Int)))=false->Q (.bl false) [])->(((decide (1<=i)||zx ((r.headD 97).toNat:Int))&&(r.all fun c=>yb (c.toNat:Int)))=true->Q (.bl true) [])->Ends WT (L1 s i) Q
 |[],i,h,n,k,g=>by
  have:=drop_nil h n;refine zi (Al ..) (zn (by simp;omega) ?_);exact ze (g<|by simp;exact .inr af)
 |x::r,i,h,n,k,g=>by
  obtain⟨q,o,t⟩:=drop_cons (d:=0) h;refine zi (Al ..) ?_;conv=>zeta
  simp only[zh,o];rw[wr _ ae ae];have l:=PJ (x.toNat:Int);have li:=KS (x.toNat:Int);have step:(1<=i\/zx (x.toNat:Int)=true)->yb (x.toNat:Int)=true->Ends WT (L1 s<|(i:Int)+1) Q:=by
   intro hm m;have e:((i:Int)+1)=((i+1:Nat):Int):=by push_cast;rfl
   rw[e];refine loop s p r (i+1) t q (fun e=>k ?_)<|fun e=>g ?_
   ·simp only[yf,m,Bool.true_and];have:(r.all fun c=>yb (c.toNat:Int))=false:=by simpa using e
    rw[this,Bool.and_false]
   ·have:(r.all fun c=>yb (c.toNat:Int))=true:=by simpa using e
    simp only[yf,m,this,Bool.and_true,Bool.or_eq_true,w5,yi];exact hm
  have no:(¬(1<=i\/zx (x.toNat:Int)=true)\/yb (x.toNat:Int)=false)->Q (.bl false) []:=by
   intro hm;refine k ?_;simp only[yi,yf];rcases hm with hm|hm
   ·have:(decide (1<=i)||zx (x.toNat:Int))=false:=by
     rw[Bool.eq_false_iff];intro h;apply hm;simpa using h
    rw[this,Bool.false_and]
   ·rw[hm,Bool.false_and,Bool.and_false]
  generalize ((x.toNat:Nat):Int)=c at l li step no ⊢;by_cases hm:yb c=true
  ·have f:=l.1 hm;by_cases a:1<=i\/zx c=true
   ·have j:1<=i\/(97<=c/\c<=122)\/(65<=c/\c<=90):=a.imp id li.1;repeat' (with_reducible refine zj (fun _=>?_)<|fun _=>?_)
    all_goals first|with_reducible exact step a hm|(exfalso;simp only[w5,w9,z7,zl,ya,wj,vc,wm]at*;omega)
   ·have j:¬(1<=i\/(97<=c/\c<=122)\/(65<=c/\c<=90)):=fun h=>a<|h.imp id li.2
    repeat' (with_reducible refine zj (fun _=>?_)<|fun _=>?_)
    all_goals first|with_reducible exact ze (no<|.inl a)|(exfalso;simp only[w5,w9,z7,zl,ya,wj,vc,wm,Bool.not_eq_false']at*;omega)
  ·have b:yb c=false:=by simpa using hm
   have f:¬_:=fun h=>hm<|l.2 h
   repeat' (with_reducible refine zj (fun _=>?_)<|fun _=>?_)
   all_goals first|with_reducible exact ze (no<|.inr b)|(exfalso;simp only[w5,w9,z7,zl,ya,wj,vc,wm,Bool.not_eq_false']at*;omega)
theorem ok:Af A8 58 eR:=by
 refine BR TT<|fun(s:Z) _=>?_;have a:∀b,b=zo s->Ad eR s (.bl b) []:=fun b g=>zw rfl rfl g
 refine zp (Aj s) ?_;conv=>zeta
 rw[Fu];cases s with
 |nil=>rw[wd (by simp),HC];exact a _ rfl
 |cons x r=>
  rw[wc (by simp;omega),Fu];by_cases h:(x::r).length<=24
  ·rw[wc<|by simp at h ⊢;omega];have f:decide (r.length<=23)=true:=by simp at h ⊢;omega
   have key:zo (x::r)=((decide (1<=0)||zx (((x::r).headD 97).toNat:Int))&&((x::r).all fun c=>yb (c.toNat:Int))):=by
    simp only[zo,f,yi,yf,Bool.true_and];cases d:zx (x.toNat:Int)with
    |false=>simp
    |true=>
     have:yb (x.toNat:Int)=true:=by unfold yb;rw[d];rfl
     simp[this]
   exact loop (x::r) h (x::r) 0 rfl (by simp) (fun e=>a _<|by rw[key];exact e.symm) (fun e=>a _<|by rw[key];exact e.symm)
  ·rw[wd (by simp at h ⊢;omega),HC];exact a _ (by simp only[zo];rw[w8<|by simp at h;omega];rfl)
end T58
end Go.Pe
namespace Go.Sp
theorem S8{a:BJ}{lo b:Int}(h:Ao a=0):BL a lo b=if Au a<(lo:Rat)\/(b:Rat)<Au a then 3 else 0:=by
 unfold BL;rw[wc<|by rw[h];decide]
theorem Vp{a:BJ}{lo b:Int}(h:Ao a≠0):BL a lo b=Ao a:=by
 unfold BL;rw[wd h]
theorem Tg{n:Int}(h:GI n=true):n.natAbs<10^6:=by
 unfold GI at h;rw[zl,w5,w5]at h;have:(10:Nat)^6=1000000:=rfl;omega
def wE(seen:List BJ)(w:A1):Int:=first [Cq (!isName w.1) 8,Cq (has seen w.1) 9,Ao w.2]
theorem nM(seen:List BJ)(w:A1)(l:List A1):YM seen (w::l)=if wE seen w≠0 then wE seen w else if Au w.2<0 then 3 else YM (w.1::seen) l:=by
 have e:wE seen w=if isName w.1=false then 8 else if has seen w.1=true then 9 else Ao w.2:=by
  unfold wE;rw[Bo,Bo,Bo,E1,E1];cases isName w.1
  ·rfl
  ·cases has seen w.1
   ·simp only[Bool.not_true,Bool.false_eq_true,vg,wm,not_true,ite_not];split
    ·next h=>rw[h];rfl
    ·rfl
   ·rfl
 rw[e,YM];cases isName w.1
 ·rfl
 ·cases has seen w.1
  ·rfl
  ·rfl
def oE(o:ER):Int:=first [Cq (!isName o.1) 8,Cq (decide (o.2<0\/10<o.2)) 3]
theorem fT(o:ER)(l:List ER):fB (o::l)=if oE o≠0 then oE o else fB l:=by
 have e:oE o=if isName o.1=false then 8 else if o.2<0\/10<o.2 then 3 else 0:=by
  unfold oE;rw[Go.Pe.JS,E1,E1];cases isName o.1
  ·rfl
  ·by_cases h:o.2<0\/10<o.2
   ·rw[w4 h,wd h];rfl
   ·rw[w8 h,wc h];rfl
 rw[e,fB];cases isName o.1
 ·rfl
 ·by_cases h:o.2<0\/10<o.2
  ·simp only[wd h];rfl
  ·simp only[wc h];rfl
theorem OT:∀ {l:List A1} {o:Option A1},DM o l=0->∀p∈l,Ao p.1=0/\Ao p.2=0
 |[],_,_,p,hp=>by cases hp
 |x::l,none,h,p,hp=>by
  obtain⟨a,b,c⟩:=Mz h;rcases yj.1 hp with rfl|hp
  ·exact⟨a,b⟩
  ·exact OT c p hp
 |x::l,some q,h,p,hp=>by
  obtain⟨a,b,_,c⟩:=I2 h;rcases yj.1 hp with rfl|hp
  ·exact⟨a,b⟩
  ·exact OT c p hp
theorem Wr(y:BJ)(p:A1)(l:List A1):Se (some y) (p::l)=if EI p.2 y<0 then 11 else Se (some p.2) l:=by rw[Se]
end Go.Sp
namespace Go.Pe
open Sp
open Go.Det
open Go.Sp (AL BQ BM A1 ER BJ Cz)
theorem LD{m:List (BJ×Bool)}{seen:List BJ}(h:IL m (fun x=>x∈seen))(k:BJ):(Ei .str .bool k m).getD false=Sp.has seen k:=by
 unfold Sp.has;by_cases e:k∈seen
 ·rw[w4 e];exact(h k).2 e
 ·rw[w8 e];cases c:(Ei .str .bool k m).getD false with
  |false=>rfl
  |true=>exact wh ((h k).1 c) e
theorem PG:IL [] (fun x=>x∈([]:List BJ)):=IL.nil.congr fun _=>⟨fun h=>h.elim,fun h=>by cases h⟩
theorem QS{m:List (BJ×Bool)}{seen:List BJ}(h:IL m (fun x=>x∈seen))(k:BJ):IL (Hu .str .bool k true m) (fun x=>x∈k::seen):=(h.add k).congr fun _=>yj.symm
theorem fP:CX AdG:=Aa T122.ok<|Aa T55.ok<|Aa T56.ok<|Aa T103.ok<|Aa T51.ok AE
theorem T53.ok:Af A8 53 Ve:=by
 refine BR fP<|fun(i:BJ×Int×Int) f=>?_;obtain⟨a,lo,h⟩:=i;have f:(decide (a.length<=1000000)&&GI lo&&GI h)=true:=f;rw[zl,zl,w5]at f;obtain⟨⟨hl,h1⟩,h2⟩:=f;have g:∀e ob,e=BL a lo h->Ad Ve (a,lo,h) (.dat i64 e) ob:=fun e ob x=>zw rfl rfl x
 have L:=UK (n:=lo) (Tg h1) af af;have H:=UK (n:=h) (Tg h2) af af;refine zp (T53.Aj a lo h)<|zc (w4 hl)<|zj (fun c=>ze<|g _ _ ?_)<|fun c=>?_
 ·have c:Ao a≠0:=by simpa using c
  exact(Vp c).symm
 ·have c:Ao a=0:=by simpa using c
  obtain⟨o1,j⟩:=Ih c;have A:=VF c;refine zc j (zc rfl (zc (Ab o1<|L.Cw af)<|zj (fun d=>zc rfl (ze<|g _ _ ?_))<|fun d=>zc rfl (zc (Ab o1<|H.Cw af)<|zc rfl (ze<|g _ _ ?_))))
  ·rw[S8 c,wd<|.inl<|(A.qM L).1<|w6 d];rfl
  ·have d:=w7 d;rw[S8 c];by_cases e:Dm (Cs a) ((h,Co h),(1,Co 1))>0
   ·rw[wd<|.inr<|(A.M7 H).1 e];exact wi (fun b=>Cq b 3)<|w4 e
   ·rw[wc<|not_or.2 ⟨fun x=>d<|(A.qM L).2 x,fun x=>e<|(A.M7 H).2 x⟩];exact wi (fun b=>Cq b 3)<|w8 e
theorem nA:CX qY:=Aa T52.okU<|Aa T50.ok<|Aa T51.ok<|Aa T122.ok<|Aa T55.ok<|Aa T115.ok AE
namespace T57
theorem loop{Q:PV->Ob->Prop}(l:List A1)(n:l.length<=1000000)(f:∀p∈l,p.2.length<=1000000):∀(r:List A1) (i:Nat) (m:List (BJ×Bool)) (seen:List BJ),l.drop i=r->i<=l.length->IL m (fun x=>x∈seen)->(∀ob,Q (.dat i64<|YM seen r) ob)->Ends qY (L1 l (l.length:Int) (i:Int) m) Q
 |[],i,m,seen,h,g,b,a=>by
  have:=drop_nil h g;exact zi (Al ..) (zn (w8 ae)<|ze<|a _)
 |p::r,i,m,seen,h,g,b,a=>by
  obtain⟨o,j,q⟩:=drop_cons (d:=(([],[]):A1)) h;have s:=f p (zm<|by rw[h];exact zk ..);have k:=wn (i:=i) ae;rw[nM]at a;refine zi (Al ..) ?_;conv=>zeta
  rw[zh,j,k,LD b];refine zc (w4 ae) (zc (ad ae ae)<|zc rfl (zc rfl (zc rfl (zc (w4 s)<|zc rfl (zj (fun c=>ze ?_)<|fun c=>?_)))))
  ·have c:Sp.wE seen p≠0:=by
    have c:(Sp.wE seen p !=0)=true:=c;simpa using c
   rw[wd c]at a;exact a _
  ·have c:Sp.wE seen p=0:=by
    have c:(Sp.wE seen p !=0)=false:=c;simpa using c
   rw[wc<|by rw[c];decide]at a;have e:Ao p.2=0:=by
    unfold Sp.wE at c;rw[Bq,Bq,Bq]at c;exact c.2.2.1
   have A:=VF e;refine zc (Ih e).2<|zc A.Dt<|zj (fun d=>ze ?_)<|fun d=>?_
   ·rw[wd<|A.NQ.1.1<|w6 d]at a;exact a _
   ·rw[wc fun x=>w7 d<|A.NQ.1.2 x]at a;exact loop l n f r (i+1) _ _ q o (QS b p.1) a
theorem ok:Af A8 57 Aa9:=by
 refine BR nA<|fun(l:List A1) a=>?_;have a:IF l 40 20=true:=a;have b:∀e ob,e=N4 l->Ad Aa9 l (.dat i64 e) ob:=fun e ob x=>zw rfl rfl x
 refine zp (Aj l)<|zj (fun c=>ze<|b _ _ ?_)<|fun c=>?_
 ·have c:=w6 c;unfold N4;rw[wd ae]
 ·have c:=w7 c;have e:N4 l=YM [] l:=by
   unfold N4;rw[wc ae]
  exact loop l ae (fun p hp=>by have:=(OP a p hp).2;omega) l 0 [] [] rfl (zu _) PG (fun ob=>b _ _ e.symm)
end T57
theorem jE:CX qX:=Aa T52.okU<|Aa T50.ok<|Aa T51.ok<|Aa T53.ok<|Aa T54.ok<|Aa T55.ok<|Aa T56.ok<|Aa T57.ok AE
namespace T13
theorem loop{Q:PV->Ob->Prop}(l g nx:BJ)(t w:List A1)(v:t.length<=1000)(b:∀p∈t,Ao p.1=0/\Ao p.2=0)(f:IF w 40 20=true):∀(r:List A1) (i:Nat),t.drop i=r->1<=i->i<=t.length->(∀ob,Q (.dat i64<|if Se (some (t.getD (i-1) ([],[])).2) r≠0 then Se (some (t.getD (i-1) ([],[])).2) r else N4 w) ob)->Ends qX (L1 (i:Int) l g nx t w) Q
 |[],i,h,u,k,a=>by
  have:=drop_nil h k;exact zi (Al ..) (zn (w8 ae)<|zc f<|ze<|a _)
 |p::r,i,h,u,k,a=>by
  obtain⟨q,c,x⟩:=drop_cons (d:=(([],[]):A1)) h;have s:=b p (zm<|by rw[h];exact zk ..);have j:=b (t.getD (i-1) ([],[])) (GY ae);have o:=wn (i:=i) ae;have n:zd .i64 ((i:Int)-1)=((i-1:Nat):Int):=by rw[wr _ ae ae];omega
  rw[Wr]at a;refine zi (Al ..) ?_;conv=>zeta
  rw[n,zh,zh,c,o];have o1:=Ih s.2;have e:=Ih j.2;have m:=ZJ s.2 j.2;refine zc (w4 ae) (zc (ad ae ae) (zc (ad ae ae)<|zc o1.2<|zc e.2<|zc (Ab o1.1 e.1)<|zj (fun d=>ze ?_)<|fun d=>?_))
  ·have d:Dm (zL p.2) (zL (t.getD (i-1) ([],[])).2)<0:=w6 d;rw[m]at d;rw[wd d,wd af]at a;exact a _
  ·have d:¬Dm (zL p.2) (zL (t.getD (i-1) ([],[])).2)<0:=w7 d;rw[m]at d;rw[wc d]at a;exact loop l g nx t w v b f r (i+1) x ae q (by rw[Nat.add_sub_cancel,c];exact a)
theorem ok:Af A8 13 cLv:=by
 refine BR jE<|fun(l:BM) hi=>?_;have a:=UJ hi;have b:∀e ob,e=JG l->Ad cLv l (.dat i64 e) ob:=fun e ob x=>zw rfl rfl x
 have hp:GC 1000000 l.2.2.2.1=true:=by
  unfold GC;rw[yg];intro p hp;have:=a.tab p hp;exact ad ae ae
 have a1:=a.head;have a2:=a.next;have a3:=a.tl;have g:IF l.2.2.2.2 40 20=true:=by
  unfold IF;rw[yg];intro p hp;have:=a.wts p hp;exact Ab (w4 this.1)<|w4 this.2
 refine zp (Aj l) (zc rfl (zc rfl (zc (Ab (Ab (w4 ae) rfl) rfl)<|zc (Ab (Ab (w4 ae) rfl) rfl)<|zc (Ab (w4 ae) hp)<|zc rfl (zj (fun c=>ze<|b _ _ ?_)<|fun c=>?_))))
 ·have c:(LK l !=0)=true:=c;have c:LK l≠0:=by simpa using c
  unfold JG;rw[wd c];rfl
 ·have c:(LK l !=0)=false:=c;have c:LK l=0:=by simpa using c
  have ct:BH l.2.2.2.1=0:=by
   unfold LK at c;rw[Bq,Bq,Bq,Bq]at c;exact c.2.2.2.1
  obtain⟨f,_,i⟩:=Fp ct;have h:=OT i;obtain⟨p,r,hr⟩:∃p r,l.2.2.2.1=p::r:=by
   cases e:l.2.2.2.1 with
   |nil=>exact wh e f
   |cons p r=>exact⟨p,r,rfl⟩
  have d:l.2.2.2.1.getD (1-1) ([],[])=p:=by rw[hr];rfl
  have up:Se none l.2.2.2.1=Se (some p.2) r:=by rw[hr,Se]
  refine loop _ _ _ _ _ ae h g r 1 (by rw[hr];rfl) ae (by rw[hr,zr];omega)<|fun ob=>b _ _ ?_;rw[d, <-up];exact(wc (c:=LK l≠0)<|by rw[c];decide).symm
end T13
theorem pR:CX sM:=Aa T52.okU<|Aa T50.ok<|Aa T51.ok<|Aa T53.ok AE
namespace T64
theorem loop{Q:PV->Ob->Prop}(l:List ER)(j:l.length<=1000000):∀(r:List ER) (i:Nat),l.drop i=r->i<=l.length->(∀ob,Q (.dat i64<|fB r) ob)->Ends sM (L1 l (l.length:Int) (i:Int)) Q
 |[],i,h,g,a=>by
  have:=drop_nil h g;exact zi (Al ..) (zn (w8 ae)<|ze<|a _)
 |o::r,i,h,g,a=>by
  obtain⟨b,k,f⟩:=drop_cons (d:=(([],0):ER)) h;have m:=wn (i:=i) ae;rw[fT]at a;refine zi (Al ..) ?_;conv=>zeta
  rw[zh,k,m];refine zc (w4 ae) (zc (ad ae ae)<|zc rfl (zc rfl (zj (fun d=>zc rfl (zc rfl ?_))<|fun d=>zc rfl (zc rfl ?_))))
  ·have e:Sp.oE o=zq [Cq (!zo o.1) 8,Cq true 3]:=by
    unfold Sp.oE;rw[w4<|.inl<|w6 d]
   rw[e]at a;refine zj (fun c=>ze ?_)<|fun c=>loop l j r (i+1) f b ?_
   ·rw[wd<|by simpa using c]at a;exact a _
   ·rw[wc<|by simpa using c]at a;exact a
  ·have e:Sp.oE o=zq [Cq (!zo o.1) 8,Cq (decide (o.2>10)) 3]:=by
    unfold Sp.oE;have d:=w7 d;have:decide (o.2<0\/10<o.2)=decide (o.2>10):=by
     apply decide_eq_decide.2;omega
    rw[this]
   rw[e]at a;refine zj (fun c=>ze ?_)<|fun c=>loop l j r (i+1) f b ?_
   ·rw[wd<|by simpa using c]at a;exact a _
   ·rw[wc<|by simpa using c]at a;exact a
theorem ok:Af A8 64 cS:=by
 refine BR pR<|fun(s:BQ) hi=>?_;obtain⟨a1,a2,a3,a4,a5⟩:=Ot hi;have d:∀e ob,e=Lb s->Ad cS s (.dat i64 e) ob:=fun e ob x=>zw rfl rfl x
 have b:∀ {a:BJ} {lo h:Int},a.length<=20->GI lo=true->GI h=true->(decide (a.length<=1000000)&&GI lo&&GI h)=true:=fun k x y=>Ab (Ab (w4 ae) x) y
 have f:SP s=zq [BL s.1 (-10000) 10000,BL s.2.1 (-10000) 10000,BL s.2.2.1 0 10000,BL s.2.2.2.1 0 10000,Cq (decide ((s.2.2.2.2.length:Int)>16)) 5]:=by
  unfold SP;have:decide (16<s.2.2.2.2.length)=decide ((s.2.2.2.2.length:Int)>16):=by
   apply decide_eq_decide.2;omega
  rw[this]
 refine zp (Aj s)<|zc (b a1 rfl rfl)<|zc (b a2 rfl rfl)<|zc (b a3 rfl rfl)<|zc (b a4 rfl rfl)<|zc rfl (zc rfl (zj (fun c=>ze<|d _ _ ?_)<|fun c=>?_))
 ·rw[<-f]at c ⊢;unfold Lb;rw[wd<|by simpa using c]
 ·rw[<-f]at c;have e:Lb s=fB s.2.2.2.2:=by
   unfold Lb;rw[wc<|by simpa using c]
  exact loop _ ae _ 0 rfl (zu _) (fun ob=>d _ _ e.symm)
end T64
end Go.Pe
namespace Go.Sp
theorem K8{α:Type}(l:List α)(m:Nat):C0 (l.length:Int) (m:Int)=if l=[]then 12 else if m<l.length then 5 else 0:=by
 unfold C0;cases l with
 |nil=>rfl
 |cons x l=>
  rw[wc (by rw[zr];omega),wc<|List.cons_ne_nil x l];by_cases h:m<(x::l).length
  ·rw[wd h,wd ae]
  ·rw[wc h,wc ae]
theorem cG(c:AL):N8 c=if C0 (c.1.length:Int) 36≠0 then C0 (c.1.length:Int) 36 else if I4 c.1≠0 then I4 c.1 else Tc c:=by
 have e:=K8 c.1 36;have e:C0 (c.1.length:Int) 36=if c.1=[]then 12 else if 36<c.1.length then 5 else 0:=e
 rw[e];unfold N8;by_cases h:c.1=[]
 ·rw[wd h,wd h,wd af]
 ·rw[wc h,wc h];by_cases k:36<c.1.length
  ·rw[wd k,wd k,wd af]
  ·rw[wc k,wc k];exact(wc<|fun x=>x rfl).symm
theorem Xw(c:AL):Tc c=if C0 (c.2.1.length:Int) 8≠0 then C0 (c.2.1.length:Int) 8 else if FV (c.1.length:Int) [] c.2.1≠0 then FV (c.1.length:Int) [] c.2.1 else Oe c:=by
 have e:=K8 c.2.1 8;have e:C0 (c.2.1.length:Int) 8=if c.2.1=[]then 12 else if 8<c.2.1.length then 5 else 0:=e
 rw[e];unfold Tc;by_cases h:c.2.1=[]
 ·rw[wd h,wd h,wd af]
 ·rw[wc h,wc h];by_cases k:8<c.2.1.length
  ·rw[wd k,wd k,wd af]
  ·rw[wc k,wc k];exact(wc<|fun x=>x rfl).symm
theorem YG(c:AL):Oe c=if C0 (c.2.2.length:Int) 8≠0 then C0 (c.2.2.length:Int) 8 else LQ [] c.2.2:=by
 have e:=K8 c.2.2 8;have e:C0 (c.2.2.length:Int) 8=if c.2.2=[]then 12 else if 8<c.2.2.length then 5 else 0:=e
 rw[e];unfold Oe;by_cases h:c.2.2=[]
 ·rw[wd h,wd h,wd af]
 ·rw[wc h,wc h];by_cases k:8<c.2.2.length
  ·rw[wd k,wd k,wd af]
  ·rw[wc k,wc k];exact(wc<|fun x=>x rfl).symm
theorem Sj(s:BQ)(l:List BQ):I4 (s::l)=if Lb s≠0 then Lb s else I4 l:=by rw[I4]
def tE(n:Int)(seen:List BJ)(t:Cz)(b:Bool):Int:=first [Cq (!isName t.1) 8,Cq (has seen t.1) 9,Cq ((t.2.length:Int) !=n) 2,Cq b 3]
theorem eP(n:Int)(seen:List BJ)(t:Cz)(l:List Cz):FV n seen (t::l)=if tE n seen t (Ex t.2)≠0 then tE n seen t (Ex t.2)else FV n (t.1::seen) l:=by
 rw[FV];unfold tE;rw[Bo,Bo,Bo,Bo,E1,E1,E1,E1];cases isName t.1
 ·rfl
 ·cases has seen t.1
  ·by_cases h:(t.2.length:Int)=n
   ·rw[show((t.2.length:Int) !=n)=false by simp[h]];cases Ex t.2
    ·rw[wc af,wc af,wc<|fun x=>x h];rfl
    ·rw[wc af,wc af,wc<|fun x=>x h];rfl
   ·rw[show((t.2.length:Int) !=n)=true by simp[h]];rw[wc af,wc af,wd h];rfl
  ·rfl
theorem cQ(seen:List BJ)(l:BM)(r:List BM):LQ seen (l::r)=if first [JG l,Cq (has seen l.1) 9]≠0 then first [JG l,Cq (has seen l.1) 9]else LQ (l.1::seen) r:=by
 rw[LQ,Go.Pe.JS,E1];cases has seen l.1<;>by_cases h:JG l=0<;>simp[h]
end Go.Sp
namespace Go.Pe
open Sp
open Go.Det
open Go.Sp (AL BQ BM A1 ER BJ Cz)
theorem oQ:CX My:=Aa T63.ok<|Aa T64.ok<|Aa T52.okU<|Aa T50.ok<|Aa T51.ok<|Aa T13.ok AE
namespace T15
theorem VS(l:List BM)(o:l.length<=1000000)(e:∀x∈l,Sp.Bx x=true):∀(r:List BM) (i:Nat) (m:List (BJ×Bool)) (seen:List BJ),l.drop i=r->i<=l.length->IL m (fun x=>x∈seen)->(∀ob,Q (.dat i64<|LQ seen r) ob)->Ends My (L4 l (l.length:Int) (i:Int) m) Q
 |[],i,m,seen,h,f,b,a=>by
  have:=drop_nil h f;exact zi (Ci ..) (zn (w8 ae)<|ze<|a _)
 |p::r,i,m,seen,h,f,b,a=>by
  obtain⟨g,j,n⟩:=drop_cons (d:=(([],[],[],[],[]):BM)) h;have s:=e p (zm<|by rw[h];exact zk ..);have k:=wn (i:=i) ae;rw[cQ]at a;refine zi (Ci ..) ?_;conv=>zeta
  rw[zh,j,k,LD b];refine zc (w4 ae) (zc (ad ae ae)<|zc s<|zc rfl (zc rfl (zj (fun c=>ze ?_)<|fun c=>?_)))
  ·have c:(zq [JG p,Cq (Sp.has seen p.1) 9] !=0)=true:=c;rw[wd<|by simpa using c]at a;exact a _
  ·have c:(zq [JG p,Cq (Sp.has seen p.1) 9] !=0)=false:=c;rw[wc<|by simpa using c]at a;exact VS l o e r (i+1) _ _ n g (QS b p.1) a
theorem Jc{o:List Cz}{l k:Int}{o1:List (BJ×Bool)}{y:List BQ}{g:List Cz}{p:List BM}(t:Cz)(A:t.2.length<=1000000)(m:List (BJ×Bool))(seen:List BJ)(s:IL m (fun x=>x∈seen))(S:List BQ)(q:List Cz)(V:List BM):∀(r:List Int) (j:Nat),t.2.drop j=r->j<=t.2.length->
  (∀ob,Sp.tE (S.length:Int) seen t (Ex r)≠0->Q (.dat i64<|Sp.tE (S.length:Int) seen t<|Ex r) ob)->(Sp.tE (S.length:Int) seen t (Ex r)=0->Ends My (L2 o l (zd .i64<|k+1) (Hu .str .bool t.1 true m) S q V) Q)->
  Ends My (L3 o l k o1 y g p t.2 (t.2.length:Int) (j:Int) t.1 t.2 m S q V) Q
 |[],j,h,u,b,a=>by
  have:=drop_nil h u;refine zi (BA ..) (zn (w8 ae) ?_);rw[LD s];refine zc rfl (zc rfl (zc rfl (zc rfl (zc rfl (zc rfl (zj (fun c=>ze ?_)<|fun c=>?_))))))
  ·have c:(Sp.tE (S.length:Int) seen t (Ex []) !=0)=true:=c;exact b _ (by simpa using c)
  ·have c:(Sp.tE (S.length:Int) seen t (Ex []) !=0)=false:=c;exact a (by simpa using c)
 |n::r,j,h,u,b,a=>by
  obtain⟨z,v,C⟩:=drop_cons (d:=(0:Int)) h;have w:=wn (i:=j) ae;have B:decide ((j:Int)>=0)=true:=w4 ae;have f:Ex (n::r)=((decide (n<1)||decide (10000<n))||Ex r):=by unfold Ex;rw[zy]
  refine zi (BA ..) ?_;conv=>zeta
  rw[zh,v,w,B,LD s];refine zc (w4 ae) (zc (Ab (by first|rfl|exact w4 ae)<|w4 ae)<|zj (fun d=>?_)<|fun d=>zj (fun e=>?_)<|fun e=>?_)
  ·rw[d,ym,ym]at f;rw[f]at b a;refine zc rfl (zc rfl (zc rfl (zc rfl (zc rfl (zc rfl (zj (fun c=>ze ?_)<|fun c=>?_))))))
   ·have c:(Sp.tE (S.length:Int) seen t true !=0)=true:=c;exact b _ (by simpa using c)
   ·have c:(Sp.tE (S.length:Int) seen t true !=0)=false:=c;exact a (by simpa using c)
  ·have e:decide (10000<n)=true:=e;rw[e,Bool.or_true,ym]at f;rw[f]at b a;refine zc rfl (zc rfl (zc rfl (zc rfl (zc rfl (zc rfl (zj (fun c=>ze ?_)<|fun c=>?_))))))
   ·have c:(Sp.tE (S.length:Int) seen t true !=0)=true:=c;exact b _ (by simpa using c)
   ·have c:(Sp.tE (S.length:Int) seen t true !=0)=false:=c;exact a (by simpa using c)
  ·have e:decide (10000<n)=false:=e;rw[d,e,Bool.false_or,Bool.false_or]at f;rw[f]at b a;exact Jc t A m seen s S q V r (j+1) C z b a
theorem EA(c:AL)(e:Iy c=true):∀(r:List Cz) (i:Nat) (m:List (BJ×Bool)) (seen:List BJ),c.2.1.drop i=r->i<=c.2.1.length->IL m (fun x=>x∈seen)->
  (∀ob,Q (.dat i64<|if FV (c.1.length:Int) seen r≠0 then FV (c.1.length:Int) seen r else Oe c) ob)->Ends My (L2 c.2.1 (c.2.1.length:Int) (i:Int) m c.1 c.2.1 c.2.2) Q
 |[],i,m,seen,h,f,b,a=>by
  have:=drop_nil h f;have a:∀ob,Q (.dat i64<|Oe c) ob:=fun ob=>by
   have:=a ob;rwa [show FV (c.1.length:Int) seen []=0 from rfl,wc<|fun x=>x rfl]at this
  rw[YG]at a;refine zi (AG ..) (zn (w8 ae)<|zc rfl (zj (fun d=>ze ?_)<|fun d=>?_))
  ·rw[wd<|by simpa using d]at a;exact a _
  ·rw[wc<|by simpa using d]at a;have s:=Na e;exact VS c.2.2 (by have:=s.2.2.1;omega) s.2.2.2.2.2 c.2.2 0 [] [] rfl (zu _) PG a
 |t::r,i,m,seen,h,f,b,a=>by
  obtain⟨g,j,n⟩:=drop_cons (d:=(([],[]):Cz)) h;have s:=Na e;have st:=s.2.2.2.2.1 t (zm<|by rw[h];exact zk ..);have st:(decide (t.1.length<=40)&&decide (t.2.length<=40))=true:=st;rw[zl,w5,w5]at st;have o:=s.2.1;have l:=wn (i:=i) ae;rw[eP]at a;refine zi (AG ..) ?_;conv=>zeta
  rw[zh,j];refine zc (w4 ae) (zc (ad ae ae) ?_);refine Jc t ae m seen b c.1 c.2.1 c.2.2 t.2 0 rfl (zu _) (fun ob d=>?_) (fun d=>?_)
  ·rw[wd d,wd d]at a;exact a _
  ·have k:¬Sp.tE (c.1.length:Int) seen t (Ex t.2)≠0:=fun x=>x d
   rw[wc k]at a;rw[l];exact EA c e r (i+1) _ _ n g (QS b t.1) a
theorem Fv(c:AL)(b:Iy c=true):∀(r:List BQ) (i:Nat),c.1.drop i=r->i<=c.1.length->
  (∀ob,Q (.dat i64<|if I4 r≠0 then I4 r else Tc c) ob)->Ends My (L1 c.1 (c.1.length:Int) (i:Int) c.1 c.2.1 c.2.2) Q
 |[],i,h,e,a=>by
  have:=drop_nil h e;have a:∀ob,Q (.dat i64<|Tc c) ob:=fun ob=>by
   have:=a ob;rwa [show I4 []=0 from rfl,wc<|fun x=>x rfl]at this
  rw[Xw]at a;refine zi (Al ..) (zn (w8 ae)<|zc rfl (zj (fun d=>ze ?_)<|fun d=>?_))
  ·rw[wd<|by simpa using d]at a;exact a _
  ·rw[wc<|by simpa using d]at a;exact EA c b c.2.1 0 [] [] rfl (zu _) PG a
 |p::r,i,h,e,a=>by
  obtain⟨f,j,l⟩:=drop_cons (d:=(([],[],[],[],[]):BQ)) h;have s:=Na b;have sp:=s.2.2.2.1 p (zm<|by rw[h];exact zk ..);have m:=s.1;have k:=wn (i:=i) ae;rw[Sj]at a;refine zi (Al ..) ?_;conv=>zeta
  rw[zh,j,k];refine zc (w4 ae) (zc (ad ae ae)<|zc sp<|zj (fun d=>ze ?_)<|fun d=>?_)
  ·have d:(Lb p !=0)=true:=d;have d:Lb p≠0:=by simpa using d
   rw[wd d,wd d]at a;exact a _
  ·have d:(Lb p !=0)=false:=d;have g:¬Lb p≠0:=by simpa using d
   rw[wc g]at a;exact Fv c b r (i+1) l f a
theorem ok:Af A8 15 cCo:=by
 refine BR oQ<|fun(c:AL) a=>?_;have a:Iy c=true:=a;have b:∀e ob,e=N8 c->Ad cCo c (.dat i64 e) ob:=fun e ob x=>zw rfl rfl x
 have e:=cG c;refine zp (Aj c)<|zc rfl (zj (fun d=>ze<|b _ _ ?_)<|fun d=>?_)
 ·rw[wd<|by simpa using d]at e;exact e.symm
 ·rw[wc<|by simpa using d]at e;exact Fv c a c.1 0 rfl (zu _) (fun ob=>b _ _ e.symm)
end T15
open Go.Sp (AL BQ BM A1 ER BJ)
theorem T69.ok:Af A8 69 Aaf:=by
 refine GP (X:=FG) rfl (fun g sp h=>by cases h) (d:=9) ag ag ag (fun(i:AL×Int) _=>?_) (Bd ag);exact zp (T69.Aj i.1 i.2)<|ze<|zw rfl rfl rfl
theorem T70.ok:Af A8 70 iP:=by
 refine GP (X:=FG) rfl (fun g sp h=>by cases h) (d:=9) ag ag ag (fun(i:AL×Int) _=>?_) (Bd ag);exact zp (T70.Aj i.1 i.2)<|ze<|zw rfl rfl rfl
theorem T73.ok:Af A8 73 YX:=by
 refine GP (X:=FG) rfl (fun g sp h=>by cases h) (d:=9) ag ag ag (fun(i:AL×Int) _=>?_) (Bd ag);exact zp (T73.Aj i.1 i.2)<|ze<|zw rfl rfl rfl
theorem La{i:Int}{n:Nat}(h:0<=i/\i<(n:Int)):(decide ((0:Int)<=i)&&decide (i<(n:Int)))=true:=Ab (w4 h.1)<|w4 h.2
theorem Ee{s:BJ}(h:Ao s=0):DR s=true:=(D7 (CU h).1).2.2.2.2.2.2.1
theorem pM:CX TN:=Aa T55.ok<|Aa T103.ok<|Aa T75.ok<|Aa T115.ok AE
namespace T72
theorem ok:Af A8 72 cPl:=by
 refine BR pM<|fun(i:AL×Int×Int) hi=>?_;obtain⟨c,t,h⟩:=i;have P:=S9 hi;have z:RS 1 Sp.zF 0:=Md;have a1:=z.add P.hr.rise af af;have a2:=a1.add P.hr.wind af af;have a3:=a2.add P.hr.lay af af;have b:=(gZ P).Dt;have g:0<=h/\h<((c.2.1.getD t.toNat ([],[])).2.length:Int):=by rw[P.tl];exact P.h0
 obtain⟨s,a⟩:∃s,s=BF c h:=⟨_,rfl⟩;have fin:∀f:Ag,f=Cd (Cd (Cd Sp.zF<|Cs s.1)<|Cs s.2.1) (Cs s.2.2.1)->Ends TN (L2 t h c s 0 0 3 3 3 f.1.1 f.1.2 f.2.1 f.2.2 0 0 [s.1,s.2.1,s.2.2.1] 0 0) (Ad cPl (c,t,h)):=fun f d=>by
  have e:Cd (Sp.iF<|Hd c t h) f=oZ c t h:=by rw[d,a];rfl
  refine zi (AG ..) (zn rfl (zc (by rw[a]at d;rw[<-d]at a3;exact(pL P.te).Ui a3 af af)<|zc (by rw[<-e]at b;exact b)<|zj (fun s=>zc rfl (ze<|zw rfl rfl ?_))<|fun s=>ze<|zw rfl rfl ?_))
  ·have s:Pp (Cd (Sp.iF<|Hd c t h) f)<0:=w6 s;rw[e]at s;show Sp.zF=UM c t h;unfold UM;rw[wd s]
  ·have s:¬Pp (Cd (Sp.iF<|Hd c t h) f)<0:=w7 s;rw[e]at s;show Cd (Sp.iF<|Hd c t h) f=UM c t h;rw[e];unfold UM;rw[wc s]
 rw[<-a]at a1 a2 a3;have s2:∀f:Ag,f=Cd (Cd Sp.zF<|Cs s.1) (Cs s.2.1)->Ends TN (L2 t h c s 0 0 3 3 2 f.1.1 f.1.2 f.2.1 f.2.2 0 0 [s.1,s.2.1,s.2.2.1] 0 0) (Ad cPl (c,t,h)):=fun f d=>by
  rw[<-d]at a2 fin;refine zi (AG ..) (zc rfl (zc rfl (zc rfl (zc (by rw[a];exact Ee P.st.lay)<|zc (a2.Ui (by rw[a];exact P.hr.lay) af af) ?_))));exact fin (Cd f<|Cs s.2.2.1) rfl
 have s1:∀f:Ag,f=Cd Sp.zF (Cs s.1)->Ends TN (L2 t h c s 0 0 3 3 1 f.1.1 f.1.2 f.2.1 f.2.2 0 0 [s.1,s.2.1,s.2.2.1] 0 0) (Ad cPl (c,t,h)):=fun f d=>by
  rw[<-d]at a1 s2;refine zi (AG ..) (zc rfl (zc rfl (zc rfl (zc (by rw[a];exact Ee P.st.wind)<|zc (a1.Ui (by rw[a];exact P.hr.wind) af af) ?_))));exact s2 (Cd f<|Cs s.2.1) rfl
 refine zp (Aj c t h)<|zc (La P.h0)<|zi (Al ..)<|zc (La P.t0)<|zc (La g)<|zc rfl (zc rfl ?_);show Ends TN (L2 t h c (BF c h) 0 0 3 3 0 0 (Co 0) 1 (Co 1) 0 0 [(BF c h).1,(BF c h).2.1,(BF c h).2.2.1] 0 0) _;rw[<-a];refine zi (AG ..) (zc rfl (zc rfl (zc rfl (zc (by rw[a];exact Ee P.st.rise)<|zc (z.Ui (by rw[a];exact P.hr.rise) af af) ?_))));exact s1 (Cd Sp.zF<|Cs s.1) rfl
end T72
theorem fZ:CX jH:=Aa T72.ok<|Aa T55.ok<|Aa T56.ok<|Aa T75.ok<|Aa T74.ok<|Aa T102.ok<|Aa T76.ok AE
structure AtA(c:AL)(t h l:Int):Prop where
 P:AtP c t h
 L:AtL c l
 kp:Sp.okP c t h=true
 ko:Sp.okO c h l=true
 h0:Au (CW c l).2.1+Au (BF c h).2.2.2.1≠0
 n0:Au (CW c l).2.2.1+Au (BF c h).2.2.2.1≠0
theorem TD{c:AL}{t h l:Int}(k:Yw c t h l=true):AtA c t h l:=by
 obtain⟨kp,ko⟩:=Yp k;have P:=S9 kp;obtain⟨L,_,_,_⟩:=MW ko;have a:=P.st.rollB.1;exact⟨P,L,kp,ko,Rat.ne_of_gt<|OS L.lr.hp a,Rat.ne_of_gt<|OS L.lr.np a⟩
namespace T79
theorem ok:Af A8 79 cEf:=by
 refine BR fZ<|fun(i:AL×Int×Int×Int) hi=>?_;obtain⟨c,t,h,l⟩:=i;obtain⟨P,L,kp,ko,h0,n0⟩:=TD hi;have p:=oP P;have r:=P.hr.roll;have reach:=L.lr.head.add r af af;have a:=L.lr.next.add r af af;have d:=p.sub reach af af;have m:=d.mul L.lr.next af af;have q:=m.div a af af n0;have b:=p.mul L.lr.head af af;refine zp (Aj c t h l) (zc (La L.l0) (zc (La P.h0)<|zc (Ee P.st.roll)<|zc kp<|zc (Ee L.lv.head)<|zc (Ee L.lv.next)<|zc (L.lr.head.Ui r af af) ?_));refine zi (Al ..) (zc (Ab (p.Cw af)<|reach.Cw af)<|zj (fun s=>?_)<|fun s=>?_)
 ·have s:Dm (UM c t h) (Cd (Iu c l)<|Km c h)<=0:=w6 s;refine zc (p.Ui L.lr.head af af) (zc (b.ok3 reach af af h0)<|ze<|zw rfl rfl ?_);show K1 (GF (UM c t h)<|Iu c l) (Cd (Iu c l)<|Km c h)=Zf c t h l;unfold Zf;rw[wd s]
 ·have s:¬Dm (UM c t h) (Cd (Iu c l)<|Km c h)<=0:=w7 s;refine zi (AG ..) (zc (p.Ui reach af af)<|zc (d.Ui L.lr.next af af)<|zc (L.lr.next.Ui r af af)<|zc (m.ok3 a af af n0)<|zc (L.lr.head.Ui q af af)<|ze<|zw rfl rfl ?_);show Cd (Iu c l) (K1 (GF (Gu (UM c t h)<|Cd (Iu c l)<|Km c h)<|Wv c l)<|Cd (Wv c l)<|Km c h)=Zf c t h l;unfold Zf;rw[wc s]
end T79
theorem gA:CX vV:=Aa T15.ok<|Aa T51.ok AE
namespace T68
theorem loop{Q:PV->Ob->Prop}{k:List BQ}{v:List Cz}{m:List BM}(c:AL)(l:List (Int×Int))(q:l.length<=1000)(f:∀ob,Q (.dat i64<|Cq (Us l) 10) ob):∀(r:List (Int×Int)) (i:Nat),l.drop i=r->i<=l.length->Us l=Us r->Ends vV (L1 c l l (l.length:Int) (i:Int) k v m) Q
 |[],i,h,j,e=>by
  have:=drop_nil h j;rw[e]at f;exact zi (Al ..) (zn (w8 ae)<|zc rfl (ze<|f _))
 |p::r,i,h,j,e=>by
  obtain⟨s,n,u⟩:=drop_cons (d:=((0,0):Int×Int)) h;have o:=wn (i:=i) ae;have g:Us (p::r)=(decide (p.1<0)||decide (p.2<=p.1)||Us r):=zy;have t:decide ((i:Int)>=0)=true:=w4 ae;refine zi (Al ..) ?_;conv=>zeta
  rw[zh,n,o,t];refine zc (w4 ae) (zc (Ab rfl (w4 ae))<|zj (fun a=>zc rfl (ze ?_))<|fun a=>zj (fun b=>zc rfl (ze ?_))<|fun b=>?_)
  ·rw[e,g,show decide (p.1<0)=true from a]at f;exact f _
  ·rw[e,g,show decide (p.2<=p.1)=true from b,Bool.or_true]at f;exact f _
  ·exact loop c l q f r (i+1) u s (by rw[e,g,show decide (p.1<0)=false from a,show decide (p.2<=p.1)=false from b];rfl)
theorem ok:Af A8 68 TQ:=by
 refine BR gA<|fun(i:AL×List (Int×Int)) a=>?_;obtain⟨c,l⟩:=i;have a:(Iy c&&decide (l.length<=1000))=true:=a;rw[zl,w5]at a;have b:∀v ob,v=Ns c l->Ad TQ (c,l) (.dat i64 v) ob:=fun v ob e=>zw rfl rfl e
 refine zp (Aj c l)<|zc a.1<|zj (fun k=>ze<|b _ _ ?_)<|fun k=>?_
 ·have k:N8 c≠0:=by simpa using k
  show N8 c=Ns c l;unfold Ns Kd;rw[wd k]
 ·have k:¬N8 c≠0:=by simpa using k
  refine loop c l a.2 (fun ob=>b _ _ ?_) l 0 rfl (zu _) rfl;unfold Ns Kd Cq;rw[wc k];cases Us l<;>rfl
end T68
theorem AeW(c:AL)(t h l:Int):Ns c [(t,Sp.nTe c),(h,Sp.nHo c),(l,Sp.nLv c)]=KU c t h l:=by
 unfold Ns Us KU eI Q1 N7;rw[zy,zy,zy,List.any_nil,Bool.or_false];rfl
theorem T106.ok:Af A8 106 VT:=by
 refine GP (X:=FG) rfl (fun g sp h=>by cases h) (d:=9) ag ag ag (fun(n:Int) _=>?_) (Bd ag);refine zp (T106.Aj n)<|ze<|zw rfl rfl ?_;show(n,([]:List Int))=(n,Co n);rw[Ea]
theorem pA:CX AdB:=Aa T56.ok AE
theorem T191.ok:Af A8 191 kD:=by
 refine BR pA<|fun(i:Ag×Ag) hi=>?_;exact zp (T191.Aj i.1 i.2)<|zc hi<|ze<|zw rfl rfl rfl
theorem gT:CX Od:=Aa T55.ok<|Aa T103.ok<|Aa T106.ok<|Aa T140.ok<|Aa T102.ok<|Aa T75.ok AE
def bK(m:List (BJ×Ag))(ws:List A1):Prop:=∀k:BJ,Ei .str Av k m=(ws.find? fun w=>decide (w.1=k)).map fun w=>Cs w.2
theorem bK.add{m:List (BJ×Ag)}{ws:List A1}(h:bK m ws)(w:A1)(b:∀v∈ws,v.1≠w.1):bK (Hu .str Av w.1 (Cs w.2) m) (ws++[w]):=fun k=>by
 have e:=G6 (v:=Av) k w.1 (Cs w.2) m;rw[e,List.find?_append];by_cases c:k=w.1
 ·rw[wd c,List.find?_eq_none.2 (fun v a=>by rw[c];simpa using b v a),yc,w4 c.symm];rfl
 ·rw[wc c,h k,yc,w8<|fun x=>c x.symm];cases ws.find? fun w=>decide (w.1=k)<;>rfl
namespace T86
theorem Fv{v1:Int}{v3:AL}{l f:Int}(ws:List A1)(j:ws.length<=16)(n:∀w∈ws,Ao w.2=0)(a:(ws.map Prod.fst).Nodup)(b:0<=v1/\v1<(v3.1.length:Int))(k:∀m,bK m ws->Ends Od (L3 (BF v3 v1).2.2.2.2 ((BF v3 v1).2.2.2.2.length:Int) 0 0 (Co 0) 1 (Co 1) m l f) Q):∀(r:List A1) (i:Nat) (m:List (BJ×Ag)) (d:List A1),ws.drop i=r->i<=ws.length->ws=d++r->bK m d->Ends Od (L2 v1 v3 ws (ws.length:Int) (i:Int) m l f) Q
 |[],i,m,d,h,o,c,g=>by
  have:=drop_nil h o;rw[List.append_nil]at c;rw[<-c]at g;exact zi (AG ..) (zn (w8 ae)<|zc rfl (zc (La b)<|k m g))
 |p::r,i,m,d,h,o,c,g=>by
  obtain⟨s,q,y⟩:=drop_cons (d:=(([],[]):A1)) h;have u:=wn (i:=i) ae;have x:=n p (zm<|by rw[h];exact zk ..);refine zi (AG ..) ?_;conv=>zeta
  rw[zh,q,u];refine zc (w4 ae) (zc (La ae)<|zc (Ee x) ?_);refine Fv ws j n a b k r (i+1) _ (d++[p]) y s (by rw[c,List.append_assoc];rfl)<|g.add p fun v t e=>?_;rw[c,List.map_append,List.nodup_append]at a;exact a.2.2 v.1 (List.mem_map.2 ⟨v,t,rfl⟩) p.1 (by rw[yk];exact zk ..) e
theorem EA{E p:Int}{m:List (BJ×Ag)}(ws:List A1)(u:∀w∈ws,RS 20 (Cs w.2)<|Au w.2)(s:bK m ws)(l:List ER)(c:l.length<=16)(k:∀o∈l,0<=o.2/\o.2<=10)(F:Ag)(g:∀ob,Q (.agg [.dat i64 F.1.1,.dat (.nlist u64) F.1.2,.dat i64 F.2.1,.dat (.nlist u64) F.2.2]) ob):∀(r:List ER) (i K:Nat) (f:Ag) (q:Rat),l.drop i=r->i<=l.length->RS K f q->K+23*r.length<=4000->V4 ws f r=F->Ends Od (L3 l (l.length:Int) (i:Int) f.1.1 f.1.2 f.2.1 f.2.2 m E p) Q
 |[],i,K,f,q,h,B,j,y,e=>by
  have:=drop_nil h B;have e:f=F:=e;rw[<-e]at g;exact zi (BA ..) (zn (w8 ae)<|ze<|g _)
 |o::r,i,K,f,q,h,B,j,y,e=>by
  obtain⟨z,C,A⟩:=drop_cons (d:=(([],0):ER)) h;have v:=wn (i:=i) ae;have D:=k o (zm<|by rw[h];exact zk ..);rw[zr]at y;refine zi (BA ..) ?_;conv=>zeta
  rw[zh,C,v,s o.1];refine zc (w4 ae) (zc (La ae) ?_);rw[V4]at e;cases a:ws.find? fun w=>decide (w.1=o.1)with
  |none=>
   rw[a]at e;exact zc rfl (EA ws u s l c k F g r (i+1) K f q A z j ae e)
  |some w=>
   rw[a]at e;have e:V4 ws (Cd f<|GF (Cs w.2)<|S7 (o.2,Co o.2) (10,Co 10)) r=F:=e;have b:=u w<|ye a;have t:=QQ D;have x:=b.mul t af af;have ad:=j.add x ae af;have n1:Cn o.2=true:=Go.Pe.ad ae ae;have mk:KZ (o.2,Co o.2) (10,Co 10)=true:=Ab (Ab (HM n1).1 (HM (n:=10) rfl).1) (w4<|by rw[(HM (n:=10) rfl).2];decide);refine zn rfl (zi (Ci ..)<|zc rfl (zc rfl (zc mk<|zc (b.Ui t af af)<|zc (j.Ui x ae af) ?_)));rw[v];exact EA ws u s l c k F g r (i+1) _ (Cd f<|GF (Cs w.2)<|S7 (o.2,Co o.2) (10,Co 10)) _ A z ad ae e
theorem ok:Af A8 86 cOb:=by
 refine BR gT<|fun(i:AL×Int×Int) hi=>?_;obtain⟨c,h,l⟩:=i;obtain⟨L,h0,S,_⟩:=MW (c:=c) (h:=h) (l:=l) hi;refine zp (Aj c h l)<|zi (Al ..)<|zc (La L.l0) ?_;refine Fv (CW c l).2.2.2.2 L.lv.wlen (fun w b=>(L.lv.wts w b).1) L.lv.one h0 (fun m a=>?_) (CW c l).2.2.2.2 0 [] [] rfl (zu _) rfl (fun k=>rfl);exact EA (CW c l).2.2.2.2 L.lr.wts a (BF c h).2.2.2.2 S.len S.obs (vW c h l) (fun ob=>zw rfl rfl rfl) (BF c h).2.2.2.2 0 1 Sp.zF 0 rfl (zu _) Md (by have:=S.len;omega) rfl
end T86
theorem nT:CX RB:=Aa T55.ok<|Aa T56.ok<|Aa T191.ok<|Aa T75.ok<|Aa T74.ok<|Aa T102.ok<|Aa T76.ok AE
theorem mB(o:Option A1)(p:A1)(l:List A1)(x:Ag):qW o (p::l) x=if Dm x (Cs p.1)>0 then qW (some p) l x else match o with
  |none=>Cs p.2
  |some q=>if Dm x (Cs p.1)=0 then Cs p.2 else Cd (Cs q.2) (K1 (GF (Gu (Cs p.2)<|Cs q.2)<|Gu x<|Cs q.1)<|Gu (Cs p.1)<|Cs q.1):=by
 cases o<;>rw[qW]
namespace T151
theorem loop{I u:Int}(t:List A1)(w:t.length<=64)(g:t≠[])(C:∀p∈t,p.1.length<=20/\p.2.length<=20)(x:Ag)(X:Rat)(j:RS 300 x X)(F:Ag)(f:∀ob,Q (.agg [.dat i64 F.1.1,.dat (.nlist u64) F.1.2,.dat i64 F.2.1,.dat (.nlist u64) F.2.2]) ob):∀(r:List A1) (i:Nat) (o:Option A1),t.drop i=r->i<=t.length->(o=none->i=0)->(∀q,o=some q->1<=i/\t.getD (i-1) ([],[])=q/\Ao q.1=0/\Ao q.2=0/\q.1.length<=20/\q.2.length<=20)->DM o r=0->qW o r x=F->Ends RB (L2 t x t (t.length:Int) (i:Int) I u) Q
 |[],i,o,h,H,h0,v,l,e=>by
  have U:=drop_nil h H;cases o with
  |none=>
   have:=h0 rfl;exact wh (List.eq_nil_of_length_eq_zero ae) g
  |some q=>
   obtain⟨m,k,_,J,_,_⟩:=v q rfl;have e:Cs q.2=F:=e;have s:zd .i64 ((t.length:Int)-1)=((i-1:Nat):Int):=by rw[wr _ ae ae];omega
   refine zi (AG ..) (zn (w8 ae) ?_);rw[s,zh,k];rw[<-e]at f;exact zc (La ae)<|zc (Ee J)<|ze<|f _
 |p::r,i,o,h,H,h0,v,l,e=>by
  obtain⟨P,B,N⟩:=drop_cons (d:=(([],[]):A1)) h;have O:=wn (i:=i) ae;obtain⟨l1,l2⟩:=C p (zm<|by rw[h];exact zk ..);have K:Ao p.1=0/\Ao p.2=0/\DM (some p) r=0:=by
   cases o with
   |none=>exact Mz l
   |some q=>obtain⟨a,b,_,c⟩:=I2 l;exact⟨a,b,c⟩
  obtain⟨m,k,L⟩:=K;have n:=Em m l1 af;have G:=Em k l2 af;rw[mB]at e;refine zi (AG ..) ?_;conv=>zeta
  rw[zh,B,O];refine zc (w4 ae) (zc (La ae)<|zc (Ee m)<|zc (Ee k)<|zc (Ab (j.Cw af)<|n.Cw af)<|zj (fun c=>?_)<|fun c=>?_)
  ·rw[wd<|w6 c]at e;exact loop t w g C x X j F f r (i+1) (some p) N P (fun y=>by cases y) (fun q y=>by cases y;exact⟨by omega,by rw[Nat.add_sub_cancel];exact B,m,k,l1,l2⟩) L e
  ·rw[wc<|w7 c]at e;cases o with
   |none=>
    have z:=h0 rfl;have e:Cs p.2=F:=e;rw[<-e]at f;exact zc (by rw[z];rfl)<|ze<|f _
   |some q=>
    obtain⟨T,M,D,E,R,S⟩:=v q rfl;have q1:=Em D R af;have A:=Em E S af;obtain⟨_,_,hlt,_⟩:=I2 l;have e:(if Dm x (Cs p.1)=0 then Cs p.2 else Cd (Cs q.2)<|K1 (GF (Gu (Cs p.2)<|Cs q.2)<|Gu x<|Cs q.1)<|Gu (Cs p.1)<|Cs q.1)=F:=e;refine zn (by simp;omega) (zc (Ab (j.Cw af)<|n.Cw af)<|zj (fun d=>?_)<|fun d=>?_)
    ·rw[wd<|w6 d]at e;rw[<-e]at f;exact ze<|f _
    ·rw[wc<|w7 d]at e;rw[<-e]at f;have s:zd .i64 ((i:Int)-1)=((i-1:Nat):Int):=by rw[wr _ ae ae];omega
     have s1:=G.sub A af af;have s2:=j.sub q1 af af;have s3:=s1.mul s2 af af;have s4:=n.sub q1 af af;have s5:=s3.div s4 af af<|P0 hlt;refine zi (BA ..) ?_;conv=>zeta
     rw[s,zh,M];refine zc (La ae) (zc (La ae)<|zc (Ee D)<|zc (Ee E) (zi (Ci ..)<|zc (G.Ui A af af)<|zc (j.Ui q1 af af)<|zc (s1.Ui s2 af af)<|zc (n.Ui q1 af af)<|zc (s3.ok3 s4 af af<|P0 hlt)<|zc (A.Ui s5 af af)<|ze<|f _))
theorem ok:Af A8 151 AcI:=by
 refine BR nT<|fun(i:List A1×Ag) hi=>?_;obtain⟨t,x⟩:=i;obtain⟨ht,hl,X,hx⟩:=AaA (t:=t) (x:=x) hi;obtain⟨hne,h64,h0⟩:=Fp ht;refine zp (Aj t x)<|zi (Al ..) ?_;exact loop t h64 hne hl x X hx (Sp.vlF t x) (fun ob=>zw rfl rfl rfl) t 0 none rfl (zu _) (fun _=>rfl) (fun q y=>by cases y) h0 rfl
end T151
theorem mI:CX Abb:=Aa T79.ok<|Aa T86.ok<|Aa T151.ok<|Aa T75.ok AE
theorem T87.ok:Af A8 87 cRt:=by
 refine BR mI<|fun(i:AL×Int×Int×Int) hi=>?_;obtain⟨c,t,h,l⟩:=i;obtain⟨P,L,kp,ko,h0,n0⟩:=TD (c:=c) (t:=t) (h:=h) (l:=l) hi;have a:=kQ (c:=c) (t:=t) (h:=h) (l:=l) hi;have v:=pJ a af L.lv.tab L.ls.tab;have o:=Pk ko;have b:Sp.okY (CW c l).2.2.2.1 (Zf c t h l)=true:=AbK ⟨L.lv.tab,L.ls.tab,_,a.mono af⟩;exact zp (T87.Aj c t h l) (zi (T87.Al ..) (zc (La L.l0)<|zc hi<|zc b<|zc ko<|zc (v.Ui o af af)<|ze<|zw rfl rfl rfl))
theorem UQ:CX AaU:=Aa T69.ok<|Aa T70.ok<|Aa T73.ok<|Aa T68.ok<|Aa T71.ok<|Aa T86.ok<|Aa T87.ok AE
theorem Ae5(c:AL)(h l:Int):Ns c [(h,Sp.nHo c),(l,Sp.nLv c)]=HD c h l:=by
 unfold Ns Us HD Q1 N7;rw[zy,zy,List.any_nil,Bool.or_false];rfl
theorem T27.ok:Af A8 27 Adr:=by
 refine BR UQ<|fun(i:AL×Int×Int) a=>?_;obtain⟨c,h,l⟩:=i;have a:Iy c=true:=a;refine zp (T27.Aj c h l) ?_;conv=>zeta
 rw[Ae5];refine zc rfl (zc rfl (zc (Ab rfl (Ab a rfl))<|zj (fun k=>ze<|zw rfl rfl ?_)<|fun k=>?_))
 ·have k:HD c h l≠0:=by simpa using k
  show(([]:BJ),HD c h l)=(fF c h l,Of c h l);unfold fF Of fD fG;rw[wd k,wd k]
 ·have k:HD c h l=0:=by simpa using k
  have ko:Sp.okO c h l=true:=Ab a<|w4 k;have p:=Pk ko;exact zc ko (zc (p.Cw af)<|ze<|zw rfl rfl (zW p k))
theorem T28.ok:Af A8 28 cHo:=by
 refine BR UQ<|fun(i:AL×Int×Int×Int) a=>?_;obtain⟨c,t,h,l⟩:=i;have a:Iy c=true:=a;refine zp (T28.Aj c t h l) ?_;conv=>zeta
 rw[AeW];refine zc rfl (zc rfl (zc rfl (zc (Ab rfl (Ab a rfl))<|zj (fun k=>ze<|zw rfl rfl ?_)<|fun k=>?_)))
 ·have k:KU c t h l≠0:=by simpa using k
  show(([]:BJ),KU c t h l)=(YN c t h l,Z8 c t h l);unfold YN Z8 fD fG;rw[wd k,wd k]
 ·have k:KU c t h l=0:=by simpa using k
  have kp:Yw c t h l=true:=Ab a<|w4 k;have p:=zS kp;exact zc kp (zc (p.Cw af)<|ze<|zw rfl rfl (zW p k))
section
open List Int Prod
namespace T83
def T(s:Z):Tr:=tree rX false 9 83<|Ae ([zf]) s
def L1(v5 b:Int)(c:Bool)(a:List Int):Tr:=re ((T []).L.R.R.L)<|Aw 62 [(4,.ptr 0 0),(5,.dat i64 v5),(6,.dat i64 b)] [(0,.box [.dat z6 c,.dat (zg i64) a])] 1
theorem Aj(s:Z):T s=let a:Tr:=.leaf (.tup [.dat i64 (0:Int),.bl false]) [];.cd (length s<=1000000) (.ite (!KL s) a<|.di ((length s:Int)>20) a<|.ck (DZ s)<|L1 0 (zd .i64<|(↑(length<|Eg s):Int)-1) (Gi s)<|Eg s):=by kernel_rfl
theorem Al(v5 b:Int)(d:Bool)(a:List Int):stepT rX (L1 v5 b d a)=let c:Tr:=.leaf (.tup [.dat i64 (0:Int),.bl false]) [];let e:=0-getD a (toNat b) 0;let g:=decide (v5<(-9223372036));let h':=zd .i64<|b-1;let j:=decide (v5>9223372036);let f:=L1 (zd .i64<|zd .i64 (v5*1000000000)+zd .i64 e) h' d a;let i:=L1 (zd .i64<|zd .i64 (v5*1000000000)+getD a (toNat b) 0) h' d a;let h:Tr:=.ite (v5==(-9223372036)) (.di (zd .i64 e<(-854775808)) c f) f;let b':Tr:=.ite (v5==(-9223372036)) (.di (getD a (toNat b) 0<(-854775808)) c i) i;.di (b>=0) (.ck (decide (0<=b)&&decide (b<(length a:Int)))<|.ite d (.ite j c<|.ite g c<|.ite (v5==9223372036) (.di (zd .i64 e>854775807) c h) h)<|.ite j c<|.ite g c<|.ite (v5==9223372036) (.di (getD a (toNat b) 0>854775807) c b') b') (.leaf (.tup [.dat i64 v5,.bl true]) []):=by kernel_rfl
end T83
namespace T24
def T(c:AL)(t h:Int):Tr:=tree AdL false 9 24<|Ae ([Bn,yd zt,yd zt]) (c,t,h)
theorem Aj(c:AL)(t h:Int):T c t h=let a:=getD (fst c) (toNat h) ([],[],[],[],[]);let e:=snd<|getD (fst<|snd c) (toNat t) ([],[]);let b:=CC (fst<|snd a)<|fst<|snd<|snd a;let d:=getD e (toNat h) 0;let b':=CC (XZ d)<|CC (fst a) b;.ck (decide (0<=h)&&decide (h<(↑(length<|fst c):Int))) (.ck (decide (0<=t)&&decide (t<(↑(length<|fst<|snd c):Int)))<|.ck (decide (0<=h)&&decide (h<(↑(length e):Int)))<|.ck (XL d)<|.ck (Be (fst<|snd a)&&Be (fst<|snd<|snd a))<|.ck (Be (fst a)&&Be b)<|.ck (Be (XZ d)&&Be (CC (fst a) b))<|.ck (Be b'&&Df [(48:UInt8)])<|.di (EI b' [(48:UInt8)]>=0) (.leaf (.dat zf b') [])<|.leaf (.dat zf [(48:UInt8)]) []):=by kernel_rfl
end T24
namespace T26
def T(c:AL)(t h l:Int):Tr:=tree Aeg false 9 26<|Ae ([Bn,yd zt,yd zt,yd zt]) (c,t,h,l)
theorem Aj(c:AL)(t h l:Int):T c t h l=let a:=snd<|getD (snd<|snd c) (toNat l) ([],[],[],[],[]);let b':=fst<|snd<|snd<|snd<|getD (fst c) (toNat h) ([],[],[],[],[]);let b:=XG c t h;let d:=CC (fst a) b';let e:=fst<|snd a;let f:=FH (G7 b d) e;let g:=CC e b';let h':=Be b&&Df d;.ck (decide (0<=l)&&decide (l<(↑(length<|snd<|snd c):Int))) (.ck (decide (0<=h)&&decide (h<(↑(length<|fst c):Int)))<|.ck (Sp.okP c t h)<|.ck (Be (fst a)&&Be b')<|.ck h'<|.di (EI b d<=0) (.ck (Be b&&Be (fst a))<|.ck (Be (FH b<|fst a)&&aE d)<|.leaf (.dat zf<|K0 (FH b<|fst a) d) [])<|.ck h'<|.ck (Be (G7 b d)&&Be e)<|.ck (Be e&&Be b')<|.ck (Be f&&aE g)<|.ck (Be (fst a)&&Be (K0 f g))<|.leaf (.dat zf<|CC (fst a)<|K0 f g) []):=by kernel_rfl
end T26
end
end Go.Pe
namespace Go.Sp
theorem eN{v:Int}(h0:0<v)(h:v<1000000000):BS v=[v]:=by
 have d:Az B9 [v]:=fun x a=>by rw[List.mem_singleton.1 a];exact⟨by omega,h⟩
 have t:=FD d;have e:An [v]=v:=by show v+(B9:Int)*0=v;omega
 rw[e]at t;rw[<-t];show(if v=0 then[]else[v])=[v];rw[wc ae]
theorem Gr{s:Z}(h:Ao s=0)(a:s.length<=20):Nu 20 s (Au s):=HI h a af
end Go.Sp
namespace Go.Pe
open Sp
open Go.Det
open Go.Sp (AL BQ BM A1 ER BJ)
theorem kG:CX rX:=Aa T148.ok<|Aa T149.ok AE
namespace T83
theorem ok:Af A8 83 Xd:=by
 refine BR kG<|fun(s:Z) a=>?_;have a:Abj s=true:=a;unfold Abj at a;rw[zl,zl,zl,zl,w5,w5,w5]at a;obtain⟨⟨⟨⟨w,l⟩,j⟩,k⟩,g⟩:=a;have i:Gi s=false:=w8 ae;have d:Ah (BO s)=BO s:=by rw[Ak];omega
 have c:∀(v:Int) ob,v=BO s->Ad Xd s (.tup [.dat i64 v,.bl true]) ob:=fun v ob e=>zw rfl rfl (by rw[e];rfl)
 refine zp (Aj s) (zc (w4 ae) (zn (by rw[w];rfl)<|zn (w8 ae)<|zc j ?_));rw[i];by_cases h:BO s=0
 ·have b:Eg s=[]:=by
   unfold Eg Sp.rW;rw[d,h];rfl
  rw[b];exact zi (Al ..)<|zn rfl (ze<|c _ _ h.symm)
 ·have b:Eg s=[BO s]:=by
   unfold Eg Sp.rW;rw[d,eN ae g]
  rw[b];have f:zd .i64 (zd .i64 ((0:Int)*1000000000)+BO s)=BO s:=by
   rw[show zd .i64 ((0:Int)*1000000000)=0 from rfl,Int.zero_add];exact wr _ ae ae
  refine zi (Al ..)<|zc rfl (zc rfl (zn rfl (zn rfl (zn rfl (zn rfl (zn rfl ?_))))));show Ends rX (L1 (zd .i64<|zd .i64 ((0:Int)*1000000000)+BO s) (zd .i64<|(0:Int)-1) false [BO s]) _;rw[f];exact zi (Al ..)<|zn rfl (ze<|c _ _ rfl)
end T83
theorem qH:CX AdL:=Aa T35.ok<|Aa T33.ok<|Aa T36.ok AE
structure HoN(c:AL)(t h:Int):Prop where
 rise:z8 20 (BF c h).1 (Au (BF c h).1)
 wind:z8 20 (BF c h).2.1 (Au (BF c h).2.1)
 lay:z8 20 (BF c h).2.2.1 (Au (BF c h).2.2.1)
 roll:z8 20 (BF c h).2.2.2.1 (Au (BF c h).2.2.2.1)
 te:z8 5 (XZ (Hd c t h)) (Hd c t h:Rat)
 pl:z8 70 (XG c t h) (LG c t h)
theorem AeI{c:AL}{h:Int}(co:XN c)(sh:Iy c=true)(h0:0<=h/\h<(c.1.length:Int)):Sp.BU (BF c h)=true:=by
 refine(TX co sh ?_).2;unfold Q1 KP;rw[w8 ae,w8 ae];rfl
theorem mU{c:AL}{t h:Int}(P:AtP c t h):HoN c t h:=by
 have s:=P.sh;obtain⟨a,b,e,d,_⟩:=Ot<|AeI P.co s P.h0;exact⟨Gr P.st.rise a,Gr P.st.wind b,Gr P.st.lay e,Gr P.st.roll d,XU (by have:=P.te;omega) af,⟨rfl,(oP P).z⟩⟩
theorem T24.ok:Af A8 24 Ad5:=by
 refine BR qH<|fun(i:AL×Int×Int) hi=>?_;obtain⟨c,t,h⟩:=i;have P:AtP c t h:=S9 hi;have N:=mU P;have e:0<=h/\h<((c.2.1.getD t.toNat ([],[])).2.length:Int):=by rw[P.tl];exact P.h0
 have wl:=N.wind.CC N.lay;have a:=N.rise.CC wl;have p:=N.te.CC a;have f:XL (Hd c t h)=true:=w4 (by have:=P.te;omega);have d:=p.cmp OF;have eq:(Hd c t h:Rat)+(Au (BF c h).1+(Au (BF c h).2.1+Au (BF c h).2.2.1))=(Hd c t h:Rat)+(Au (BF c h).1+Au (BF c h).2.1+Au (BF c h).2.2.1):=by rw[Rat.add_assoc<|Au (BF c h).1]
 have b:LG c t h=_:=jJ _ _;rw[<-eq]at b;refine zp (T24.Aj c t h) (zc (La P.h0)<|zc (La P.t0)<|zc (La e)<|zc f<|zc (Ab (N.wind.num af)<|N.lay.num af)<|zc (Ab (N.rise.num af)<|wl.num af)<|zc (Ab (N.te.num af)<|a.num af)<|zc (Ab (p.num af)<|OF.Df af)<|zj (fun k=>ze<|zw rfl rfl ?_)<|fun k=>ze<|zw rfl rfl ?_)
 ·have k:=w6 k;show CC (XZ<|Hd c t h) (CC (BF c h).1<|CC (BF c h).2.1 (BF c h).2.2.1)=AP (LG c t h);rw[b,wc ?_, <-p.t];intro x;have k:0<=EI (CC (XZ<|Hd c t h)<|CC (BF c h).1<|CC (BF c h).2.1 (BF c h).2.2.1) [48]:=k;rw[d,wd x]at k;exact wh k af
 ·have k:=w7 k;show[48]=AP (LG c t h);rw[b,wd ?_]
  ·exact OF.t
  ·have k:¬0<=EI (CC (XZ<|Hd c t h)<|CC (BF c h).1<|CC (BF c h).2.1 (BF c h).2.2.1) [48]:=k;rw[d]at k;by_cases x:(Hd c t h:Rat)+(Au (BF c h).1+(Au (BF c h).2.1+Au (BF c h).2.2.1))<0
   ·exact x
   ·rw[wc x]at k;exact wh (by split<;>decide) k
theorem fN:CX Aeg:=Aa T24.ok<|Aa T33.ok<|Aa T37.ok<|Aa T34.ok<|Aa T82.ok<|Aa T36.ok<|Aa T38.ok<|Aa T84.ok<|Aa T85.ok<|Aa T83.ok AE
structure LvN(c:AL)(l:Int):Prop where
 head:z8 20 (CW c l).2.1 (Au (CW c l).2.1)
 next:z8 20 (CW c l).2.2.1 (Au (CW c l).2.2.1)
theorem Aa4{c:AL}{l:Int}(L:AtL c l):LvN c l:=⟨Gr L.lv.head L.ls.head,Gr L.lv.next L.ls.next⟩
theorem T26.ok:Af A8 26 Adm:=by
 refine BR fN<|fun(i:AL×Int×Int×Int) hi=>?_;obtain⟨c,t,h,l⟩:=i;obtain⟨P,L,kp,ko,h0,n0⟩:=TD (c:=c) (t:=t) (h:=h) (l:=l) hi;have N:=mU P;have V:=Aa4 L;have fr:=V.head.CC N.roll;have a:=V.next.CC N.roll;have e:=N.pl.cmp fr;have b:=N.pl.FH V.head;have q1:=b.K0 fr h0;have d:=N.pl.G7 fr;have m:=d.FH V.next;have q:=m.K0 a n0;have r:=V.head.CC q;refine zp (T26.Aj c t h l) (zc (La L.l0) (zc (La P.h0)<|zc kp<|zc (Ab (V.head.num af)<|N.roll.num af)<|zc (Ab (N.pl.num af)<|fr.Df af)<|zj (fun k=>?_)<|fun k=>?_))
 ·have k:=w6 k;have k:EI (XG c t h) (CC (CW c l).2.1 (BF c h).2.2.2.1)<=0:=k;refine zc (Ab (N.pl.num af)<|V.head.num af) (zc (Ab (b.num af)<|fr.nz af h0)<|ze<|zw rfl rfl ?_);show K0 (FH (XG c t h) (CW c l).2.1) (CC (CW c l).2.1 (BF c h).2.2.2.1)=AP (RE c t h l);unfold RE vF;rw[wd ?_]
  ·exact q1.t
  ·refine Rat.not_lt.1 fun x=>?_
   rw[e,wc<|Rat.not_lt.2<|Rat.le_of_lt x,wd x]at k;exact wh k af
 ·have k:=w7 k;have k:¬EI (XG c t h) (CC (CW c l).2.1 (BF c h).2.2.2.1)<=0:=k;refine zc (Ab (N.pl.num af)<|fr.Df af) (zc (Ab (d.num af)<|V.next.num af) (zc (Ab (V.next.num af)<|N.roll.num af)<|zc (Ab (m.num af)<|a.nz af n0)<|zc (Ab (V.head.num af)<|q.num af)<|ze<|zw rfl rfl ?_));show CC (CW c l).2.1 (K0 (FH (G7 (XG c t h)<|CC (CW c l).2.1 (BF c h).2.2.2.1) (CW c l).2.2.1)<|CC (CW c l).2.2.1 (BF c h).2.2.2.1)=AP (RE c t h l);unfold RE vF;rw[wc ?_]
  ·exact r.t
  ·intro x;refine k ?_;rw[e];by_cases y:LG c t h<Au (CW c l).2.1+Au (BF c h).2.2.2.1
   ·rw[wd y];decide
   ·rw[wc y,wc<|Rat.not_lt.2 x];decide
theorem T88.okW:Af A8 88 Uy:=by
 refine BR rY<|fun(i:List A1×BJ) b=>?_;obtain⟨t,x⟩:=i;have b:(decide (t.length<=1000)&&GC 100 t&&decide (XD t x=0))=true:=b;rw[zl,zl,w5,w5]at b;obtain⟨⟨_,hl⟩,he⟩:=b;obtain⟨ht,hcx⟩:=bI he;obtain⟨hne,h64,h0⟩:=Fp ht;have nx:=Mx hcx;have d:∀ob,Ad Uy (t,x) (.dat .str<|AP<|LH t x) ob:=fun ob=>zw rfl rfl rfl
 obtain⟨p,r,rfl⟩:∃p r,t=p::r:=by
  cases t with
  |nil=>exact wh rfl hne
  |cons p r=>exact⟨p,r,rfl⟩
 obtain⟨h,j,g⟩:=Mz h0;obtain⟨l1,l2⟩:=Mh hl p<|zk ..;have e:=HI h l1 af;have f:=HI j l2 af;have a:LH (p::r) x=if Au p.1<Au x then Rw (some<|Sp.pt p) (r.map Sp.pt) (Au x)else Au p.2:=by
  rw[fU,yk,V1];rfl
 refine zp (T88.Aj (p::r) x) ?_;conv=>zeta
 rw[show(p::r).getD 0 ([],[])=p from rfl];refine zc (w4<|by rw[zr];omega) (zc (Ab (nx.num af)<|e.Df af) (zj (fun c=>zc (w4<|by rw[zr];omega)<|ze ?_)<|fun c=>?_))
 ·have c:=(Sp.HT _ _).1<|w6 c;rw[wc c]at a;rw[a, <-f.t]at d;exact d _
 ·have c:Au p.1<Au x:=by
   have:=w7 c;rw[Sp.HT]at this;exact Classical.not_not.1 this
  rw[wd c]at a;exact T88.Ar (p::r) x h64 hl nx d r 1 p rfl af (by rw[zr];omega) rfl e f g a
theorem nG:CX Oc:=Aa T40.ok<|Aa T34.ok<|Aa T33.ok AE
theorem Wx{n:Int}(h:0<=n/\n<=10):z8 2 (CT n 10) ((n:Rat)/10):=by
 have e:Rat.divInt n 10=(n:Rat)/10:=by rw[Rat.divInt_eq_div];rfl
 exact⟨by unfold CT;rw[e],(QQ h).z⟩
namespace T29
def step(ws:List A1)(o:ER)(v:BJ):BJ:=match ws.find? fun w=>decide (w.1=o.1)with
 |some w=>CC v<|FH w.2<|CT o.2 10
 |none=>v
theorem skip{v:BJ}{s:BQ}{lv:BM}{i:Nat}{o:ER}(p:i<s.2.2.2.2.length)(c:s.2.2.2.2.getD i ([],0)=o)(a:lv.2.2.2.2.length<=16)(f:Ends Oc (L2 v s lv<|zd .i64<|(i:Int)+1) Q):∀(r:List A1) (k:Nat),lv.2.2.2.2.drop k=r->k<=lv.2.2.2.2.length->(∀w∈r,w.1≠o.1)->Ends Oc (L3 v s lv (i:Int) (k:Int)) Q
 |[],k,h,e,b=>by
  have:=drop_nil h e;exact zi (BA ..) (zn (w8 ae) f)
 |w::r,k,h,e,b=>by
  obtain⟨m,g,q⟩:=drop_cons (d:=(([],[]):A1)) h;have l:=wn (i:=k) ae;have n:=b w<|zk ..;refine zi (BA ..) ?_;conv=>zeta
  rw[zh,zh,g,c,l];exact zc (w4 ae) (zc (La ae) (zc (La ae)<|zn (by simpa using n)<|skip p c a f r (k+1) q m fun x j=>b x<|List.mem_cons_of_mem _ j))
set_option maxRecDepth 100000 in
theorem inner{v:BJ}{s:BQ}{lv:BM}{i K:Nat}{o:ER}{q:Rat}(l:i<s.2.2.2.2.length)(f:s.2.2.2.2.getD i ([],0)=o)(p:0<=o.2/\o.2<=10)(u:z8 K v q)(E:K<=1990)(a:lv.2.2.2.2.length<=16)(C:∀w∈lv.2.2.2.2,z8 20 w.2<|Au w.2):∀(r:List A1) (k:Nat),lv.2.2.2.2.drop k=r->k<=lv.2.2.2.2.length->(r.map Prod.fst).Nodup->Ends Oc (L2 (step r o v) s lv<|zd .i64<|(i:Int)+1) Q->Ends Oc (L3 v s lv (i:Int) (k:Int)) Q
 |[],k,h,A,g,b=>skip l f a b [] k h A fun x j=>by cases j
 |w::r,k,h,A,g,b=>by
  obtain⟨B,n,D⟩:=drop_cons (d:=(([],[]):A1)) h;have y:=wn (i:=k) ae;have z:=C w (zm<|by rw[h];exact zk ..);rw[yk,List.nodup_cons]at g;by_cases c:w.1=o.1
  ·have es:step (w::r) o v=CC v (FH w.2<|CT o.2 10):=by
    unfold step;rw[yc,w4 c]
   rw[es]at b;have t:=Wx p;have m:=z.FH t;have n1:Cn o.2=true:=ad ae ae;refine zi (BA ..) ?_;conv=>zeta
   rw[zh,zh,n,f,y];refine zc (w4 ae) (zc (La ae)<|zc (La ae)<|zc (by simpa using c)<|zc (La ae) (zc (La ae)<|zc (Ab (Ab n1 rfl) rfl)<|zc (Ab (z.num af)<|t.num af)<|zc (Ab (u.num ae)<|m.num af) ?_));exact skip l f a b r (k+1) D B fun x j e=>g.1 (by rw[c, <-e];exact List.mem_map.2 ⟨x,j,rfl⟩)
  ·have es:step (w::r) o v=step r o v:=by
    unfold step;rw[yc,w8 c]
   rw[es]at b;refine zi (BA ..) ?_;conv=>zeta
   rw[zh,zh,n,f,y];exact zc (w4 ae) (zc (La ae)<|zc (La ae)<|zn (by simpa using c)<|inner l f p u E a C r (k+1) D B g.2 b)
theorem sF{ws:List A1}(c:∀w∈ws,z8 20 w.2<|Au w.2){o:ER}(d:0<=o.2/\o.2<=10){K:Nat}{v:BJ}{q:Rat}(a:z8 K v q):z8 (K+23) (step ws o v) (q+Sp.lookW ws o.1*((o.2:Rat)/10)):=by
 unfold step;rw[M5];cases b:ws.find? fun w=>decide (w.1=o.1)with
 |none=>
  show z8 _ v<|q+0*_;rw[Rat.zero_mul,Rat.add_zero];exact a.mono ae
 |some w=>
  exact(a.CC<|(c w<|ye b).FH<|Wx d).mono ae
theorem outer{s:BQ}{lv:BM}(g:s.2.2.2.2.length<=16)(a:lv.2.2.2.2.length<=16)(j:∀w∈lv.2.2.2.2,z8 20 w.2<|Au w.2)(b:(lv.2.2.2.2.map Prod.fst).Nodup)(m:∀o∈s.2.2.2.2,0<=o.2/\o.2<=10)(F:Rat)(f:∀ob,Q (.dat .str<|AP F) ob):∀(r:List ER) (i K:Nat) (v:BJ) (q:Rat),s.2.2.2.2.drop i=r->i<=s.2.2.2.2.length->z8 K v q->K+23*r.length<=1990->q+Sp.obV lv.2.2.2.2 r=F->Ends Oc (L2 v s lv (i:Int)) Q
 |[],i,K,v,q,h,p,c,l,e=>by
  have:=drop_nil h p;have e:q+0=F:=e;rw[Rat.add_zero]at e;rw[<-e, <-c.t]at f;exact zi (AG ..) (zn (w8 ae)<|ze<|f _)
 |o::r,i,K,v,q,h,p,c,l,e=>by
  obtain⟨n,u,y⟩:=drop_cons (d:=(([],0):ER)) h;have x:=wn (i:=i) ae;have k:=m o (zm<|by rw[h];exact zk ..);rw[zr]at l;rw[VJ, <-Rat.add_assoc]at e;have nx:=outer g a j b m F f r (i+1) _ _ _ y n (sF j k c) ae e;rw[<-x]at nx;exact zi (AG ..) (zc (w4 ae)<|inner n u k c ae a j lv.2.2.2.2 0 rfl (zu _) b nx)
theorem ok:Af A8 29 AbM:=by
 refine BR nG<|fun(i:AL×Int×Int) hi=>?_;obtain⟨c,h,l⟩:=i;obtain⟨L,h0,S,_⟩:=MW (c:=c) (h:=h) (l:=l) hi;refine zp (Aj c h l)<|zc (La h0)<|zc (La L.l0)<|zi (Al ..) ?_;exact outer (s:=BF c h) (lv:=CW c l) S.len L.lv.wlen (fun w a=>Gr (L.lv.wts w a).1 (L.ls.wts w a).2) L.lv.one S.obs (Ys c h l) (fun ob=>zw rfl rfl rfl) (BF c h).2.2.2.2 0 1 [48] 0 rfl (zu _) OF (by have:=S.len;omega) (Rat.zero_add _)
end T29
theorem jS:CX AbC:=Aa T88.okW<|Aa T26.ok<|Aa T29.ok<|Aa T33.ok AE
theorem T30.ok:Af A8 30 Ad9:=by
 refine BR jS<|fun(i:AL×Int×Int×Int) hi=>?_;obtain⟨c,t,h,l⟩:=i;obtain⟨P,L,kp,ko,h0,n0⟩:=TD (c:=c) (t:=t) (h:=h) (l:=l) hi;have d:=kQ (c:=c) (t:=t) (h:=h) (l:=l) hi;have v:=pJ d af L.lv.tab L.ls.tab;have o:=Pk ko;have b:z8 194 (Sp.efR c t h l) (RE c t h l):=⟨rfl,d.z⟩;have no:z8 369 (Sp.obR c h l) (Ys c h l):=⟨rfl,o.z⟩;have a:z8 (194+145) (kT (CW c l).2.2.2.1<|Sp.efR c t h l) (Rw none (Abv (CW c l).2.2.2.1)<|RE c t h l):=⟨by unfold kT LH;rw[b.rat];rfl,v.z⟩;have lp:GC 100 (CW c l).2.2.2.1=true:=by
  unfold GC;rw[yg];intro p hp;have:=L.ls.tab p hp;exact ad ae ae
 have ev:XD (CW c l).2.2.2.1 (Sp.efR c t h l)=0:=by
  unfold XD;rw[wc<|by rw[L.lv.tab];decide];exact b.check af
 have tl:=L.ls.tl;refine zp (T30.Aj c t h l) (zi (T30.Al ..)<|zc (La L.l0) (zc hi<|zc (Ab (Ab (w4<|show(CW c l).2.2.2.1.length<=1000 by omega) lp)<|w4 ev)<|zc ko<|zc (Ab (a.num af)<|no.num af)<|ze<|zw rfl rfl ?_));exact(a.CC no).t
section
open List Int Prod
namespace T21
def T(i n:Int):Tr:=tree FG false 9 21<|Ae ([yd zt,yd zt]) (i,n)
theorem Aj(i n:Int):T i n=.di (i<0) (.leaf (.bl true) []) (.leaf (.dat z6<|decide (i>=n)) []):=by kernel_rfl
end T21
namespace T20
def T(b:Bool)(e:Int):Tr:=tree FG false 9 20<|Ae ([z6,yd zt]) (b,e)
theorem Aj(b:Bool)(e:Int):T b e=.ite b (.leaf (.dat i64 e) []) (.leaf (.dat i64 (0:Int)) []):=by kernel_rfl
end T20
end
section
open List Int Prod
namespace T11
def T(l:BM):Tr:=tree FG false 9 11<|Ae ([Bx]) l
def L1(v3:Int)(e b d:Z)(a c:List A1):Tr:=re ((T ([],([],([],([],[]))))).R.R.R.R.R)<|Aw 83 [(1,.ptr 0 0),(3,.dat i64 v3)] [(0,.box [.dat zf e,.dat zf b,.dat zf d,.dat (zg B5) a,.dat (zg B5) c])] 1
theorem Aj(l:BM):T l=let a:Tr:=.leaf (.bl false) [];let b':=snd<|snd<|snd l;.di ((↑(length<|fst l):Int)>40) a (.di ((↑(length<|fst<|snd l):Int)>20) a<|.di ((↑(length<|fst<|snd<|snd l):Int)>20) a<|.di ((↑(length<|fst b'):Int)>70) a<|.di ((↑(length<|snd b'):Int)>20) a<|L1 0 (fst l) (fst<|snd l) (fst<|snd<|snd l) (fst b')<|snd b'):=by kernel_rfl
def L2(v4:Int)(e a d:Z)(b c:List A1):Tr:=re ((stepT FG<|L1 0 [] [] [] [] []).R)<|Aw 83 [(1,.ptr 0 0),(4,.dat i64 v4)] [(0,.box [.dat zf e,.dat zf a,.dat zf d,.dat (zg B5) b,.dat (zg B5) c])] 1
theorem Al(v3:Int)(f b d:Z)(a c:List A1):stepT FG (L1 v3 f b d a c)=let e:=decide (v3<(length a:Int));let b':=getD a (toNat v3) ([],[]);.ite e (.ck (decide (0<=v3)&&e)<|.di ((↑(length<|fst b'):Int)>20) (.leaf (.bl false) [])<|.ck (decide (0<=v3)&&e)<|.di ((↑(length<|snd b'):Int)>20) (.leaf (.bl false) [])<|L1 (zd .i64<|v3+1) f b d a c) (L2 0 f b d a c):=by kernel_rfl
theorem AG(v4:Int)(f b c:Z)(d a:List A1):stepT FG (L2 v4 f b c d a)=let e:=decide (v4<(length a:Int));let b':=getD a (toNat v4) ([],[]);.ite e (.ck (decide (0<=v4)&&e)<|.di ((↑(length<|fst b'):Int)>40) (.leaf (.bl false) [])<|.ck (decide (0<=v4)&&e)<|.di ((↑(length<|snd b'):Int)>20) (.leaf (.bl false) [])<|L2 (zd .i64<|v4+1) f b c d a) (.leaf (.bl true) []):=by kernel_rfl
end T11
namespace T9
def T(c:AL):Tr:=tree Rz false 9 9<|Ae ([Bn]) c
def L1(v3:Int)(c:List BQ)(a:List Cz)(b:List BM):Tr:=re ((T ([],([],[]))).R.R.R)<|Aw 102 [(1,.ptr 0 0),(3,.dat i64 v3)] [(0,.box [.dat (zg BU) c,.dat (zg Ds) a,.dat (zg Bx) b])] 1
theorem Aj(c:AL):T c=let a:Tr:=.leaf (.bl false) [];.di ((↑(length<|fst c):Int)>38) a (.di ((↑(length<|fst<|snd c):Int)>10) a<|.di ((↑(length<|snd<|snd c):Int)>10) a<|L1 0 (fst c) (fst<|snd c)<|snd<|snd c):=by kernel_rfl
def L2(v5:Int)(c:List BQ)(a:List Cz)(b:List BM):Tr:=re ((stepT Rz<|L1 0 [] [] []).R)<|Aw 102 [(1,.ptr 0 0),(5,.dat i64 v5)] [(0,.box [.dat (zg BU) c,.dat (zg Ds) a,.dat (zg Bx) b])] 1
theorem Al(v3:Int)(c:List BQ)(a:List Cz)(b:List BM):stepT Rz (L1 v3 c a b)=let e:=getD c (toNat v3) ([],[],[],[],[]);let b':Tr:=.leaf (.bl false) [];let f:=decide (v3<(length c:Int));let d:=snd<|snd e;.ite f (.ck (decide (0<=v3)&&f)<|.di ((↑(length<|fst e):Int)>20) b'<|.di ((↑(length<|fst<|snd e):Int)>20) b'<|.di ((↑(length<|fst d):Int)>20) b'<|.di ((↑(length<|fst<|snd d):Int)>20) b'<|.di ((↑(length<|snd<|snd d):Int)>20) b'<|L1 (zd .i64<|v3+1) c a b) (L2 0 c a b):=by kernel_rfl
def L3(c:Int)(d:List BQ)(a:List Cz)(b:List BM):Tr:=re ((stepT Rz<|L2 0 [] [] []).R)<|Aw 102 [(1,.ptr 0 0),(6,.dat i64 c)] [(0,.box [.dat (zg BU) d,.dat (zg Ds) a,.dat (zg Bx) b])] 1
theorem AG(v5:Int)(d:List BQ)(a:List Cz)(b:List BM):stepT Rz (L2 v5 d a b)=let c:=decide (v5<(length a:Int));let b':=getD a (toNat v5) ([],[]);.ite c (.ck (decide (0<=v5)&&c)<|.di ((↑(length<|fst b'):Int)>40) (.leaf (.bl false) [])<|.ck (decide (0<=v5)&&c)<|.di ((↑(length<|snd b'):Int)>40) (.leaf (.bl false) [])<|L2 (zd .i64<|v5+1) d a b) (L3 0 d a b):=by kernel_rfl
theorem BA(c:Int)(e:List BQ)(b:List Cz)(a:List BM):stepT Rz (L3 c e b a)=let d:=decide (c<(length a:Int));.ite d (.ck (decide (0<=c)&&d)<|.ck true<|.ite (!Sp.Bx (getD a (toNat c) ([],[],[],[],[]))) (.leaf (.bl false) [])<|L3 (zd .i64<|c+1) e b a) (.leaf (.bl true) []):=by kernel_rfl
end T9
namespace T12
def T(l:BM):Tr:=tree FG false 9 12<|Ae ([Bx]) l
def L1(v4:Int)(j i d:Z)(b:List A1)(o1 g e k a f:Z)(h c:List A1):Tr:=re ((T ([],([],([],([],[]))))))<|Aw 40 [(1,.ptr 0 0),(2,.ptr 1 0),(3,.ptr 2 0),(4,.dat i64 v4)] [(2,.box [.dat zf j,.dat zf i,.dat zf d,.dat (zg B5) b,.nil]),(1,.box [.dat zf o1,.dat zf g,.dat zf e,.nil,.nil]),(0,.box [.dat zf k,.dat zf a,.dat zf f,.dat (zg B5) h,.dat (zg B5) c])] 3
theorem Aj(l:BM):T l=L1 0 (fst l) (fst<|snd l) (fst<|snd<|snd l) (fst<|snd<|snd<|snd l) [] [] [] (fst l) (fst<|snd l) (fst<|snd<|snd l) (fst<|snd<|snd<|snd l) (snd<|snd<|snd<|snd l):=by kernel_rfl
def L2(v4:Int)(m:List A1)(k i d:Z)(b:List A1)(j:Nat)(o1 g e l a f:Z)(h c:List A1):Tr:=re ((stepT FG<|L1 0 [] [] [] [] [] [] [] [] [] [] [] []).L.L.L.L)<|Aw 40 [(1,.ptr 0 0),(2,.ptr 1 0),(3,.ptr 2 0),(4,.dat i64 v4)] [(3,.arr false 101 B5 m),(2,.box [.dat zf k,.dat zf i,.dat zf d,.dat (zg B5) b,.sl 3 2 0 j none]),(1,.box [.dat zf o1,.dat zf g,.dat zf e,.nil,.nil]),(0,.box [.dat zf l,.dat zf a,.dat zf f,.dat (zg B5) h,.dat (zg B5) c])] 4
theorem Al(v4:Int)(j d c:Z)(b:List A1)(o1 h f l e g:Z)(i a:List A1):stepT FG (L1 v4 j d c b o1 h f l e g i a)=let k:=decide (v4<(length a:Int));.ite k (.ck (decide (0<=v4)&&k)<|.ck (decide (0<=v4)&&k)<|.ck (aa 32)<|L2 (zd .i64<|v4+1) ([(getD a (toNat v4) ([],[]))]) j d c b 1 o1 h f l e g i a) (.leaf (yh [.dat zf j,.dat zf d,.dat zf c,.dat (zg B5) b,.nil]) []):=by kernel_rfl
theorem AG(v4:Int)(l:List A1)(k d c:Z)(a:List A1)(e:Nat)(o1 j i n f g:Z)(h b:List A1):stepT FG (L2 v4 l k d c a e o1 j i n f g h b)=let m:=decide (v4<(length b:Int));let b':=zg B5;.ite m (.ck (decide (0<=v4)&&m)<|.ck (decide (0<=v4)&&m)<|.ck (ac e (length l) 32)<|L2 (zd .i64<|v4+1) (l++[(getD b (toNat v4) ([],[]))]) k d c a (zz e 1) o1 j i n f g h b) (.leaf (yh [.dat zf k,.dat zf d,.dat zf c,.dat b' a,.sl 3 2 0 e none])<|[(3,.arr false 101 B5 l),(2,.box [.dat zf k,.dat zf d,.dat zf c,.dat b' a,.sl 3 2 0 e none]),(1,.box [.dat zf k,.dat zf d,.dat zf c,.dat b' a,.sl 3 2 0 e none]),(0,.box [.dat zf n,.dat zf f,.dat zf g,.dat b' h,.dat b' b])]):=by kernel_rfl
end T12
namespace T10
def T(c:AL):Tr:=tree B1 false 9 10<|Ae ([Bn]) c
def L1(v1:AL):Tr:=re ((T ([],([],[]))))<|Aw 128 [(1,PV.Bc Bn v1 0),(2,.ptr 0 0),(3,.ptr 1 0)] [(1,.box [.nil,.nil,.nil]),(0,.box [.nil,.nil,.nil])] 2
theorem Aj(c:AL):T c=L1 c:=by kernel_rfl
def L2(v1:AL)(v4:Int):Tr:=re ((stepT B1<|L1 ([],([],[]))))<|Aw 128 [(1,PV.Bc Bn v1 0),(2,.ptr 0 0),(3,.ptr 1 0),(4,.dat i64 v4)] [(1,.box [.nil,.nil,.nil]),(0,.box [.nil,.nil,.nil])] 2
theorem Al(v1:AL):stepT B1 (L1 v1)=L2 v1 0:=by kernel_rfl
def L3(v1:AL)(v4 d:Int)(e a c b:Z):Tr:=re ((stepT B1<|L2 ([],([],[])) 0).L.L.L.L.L)<|Aw 128 [(1,PV.Bc Bn v1 0),(2,.ptr 0 0),(3,.ptr 1 0),(4,.dat i64 v4),(5,.ptr 2 0),(6,.dat i64 d)] [(2,.box [.dat zf e,.dat zf a,.dat zf c,.dat zf b,.nil]),(1,.box [.nil,.nil,.nil]),(0,.box [.nil,.nil,.nil])] 3
def L4(v1:AL)(a:Int):Tr:=re ((stepT B1<|L2 ([],([],[])) 0).R)<|Aw 128 [(1,PV.Bc Bn v1 0),(2,.ptr 0 0),(3,.ptr 1 0),(7,.dat i64 a)] [(1,.box [.nil,.nil,.nil]),(0,.box [.nil,.nil,.nil])] 2
theorem AG(v1:AL)(v4:Int):stepT B1 (L2 v1 v4)=let b':=getD (fst v1) (toNat v4) ([],[],[],[],[]);let b:=decide (v4<(↑(length<|fst v1):Int));let a:=decide (0<=v4)&&b;.ite b (.ck a<|.ck a<|.ck a<|.ck a<|L3 v1 v4 0 (fst b') (fst<|snd b') (fst<|snd<|snd b')<|fst<|snd<|snd<|snd b') (L4 v1 0):=by kernel_rfl
def L5(v1:AL)(v4 f:Int)(g:List ER)(e c b a:Z)(d:Nat):Tr:=re ((stepT B1<|L3 ([],([],[])) 0 0 [] [] [] []).L.L.L.L.L.L.L)<|Aw 128 [(1,PV.Bc Bn v1 0),(2,.ptr 0 0),(3,.ptr 1 0),(4,.dat i64 v4),(5,.ptr 2 0),(6,.dat i64 f)] [(3,.arr false 99 S1 g),(2,.box [.dat zf e,.dat zf c,.dat zf b,.dat zf a,.sl 3 2 0 d none]),(1,.box [.nil,.nil,.nil]),(0,.box [.nil,.nil,.nil])] 4
def L6(v1:AL)(v4:Int)(b:List BQ)(a:Nat):Tr:=re ((stepT B1<|L3 ([],([],[])) 0 0 [] [] [] []).L.R.L)<|Aw 128 [(1,PV.Bc Bn v1 0),(2,.ptr 0 0),(3,.ptr 1 0),(4,.dat i64 v4)] [(2,.arr false 97 BU b),(1,.box [.sl 2 5 0 a none,.nil,.nil]),(0,.box [.nil,.nil,.nil])] 3
theorem BA(v1:AL)(v4 d:Int)(e c b a:Z):stepT B1 (L3 v1 v4 d e c b a)=let g:=snd<|snd<|snd<|snd<|getD (fst v1) (toNat v4) ([],[],[],[],[]);let b':=decide (0<=v4)&&decide (v4<(↑(length<|fst v1):Int));let f:=decide (d<(↑(length g):Int));.ck b' (.ite f (.ck b'<|.ck (decide (0<=d)&&f)<|.ck b'<|.ck (decide (0<=d)&&f)<|.ck (aa 24)<|L5 v1 v4 (zd .i64<|d+1) ([(getD g (toNat d) ([],0))]) e c b a 1)<|.ck (aa 88)<|L6 v1 (zd .i64<|v4+1) ([(e,c,b,a,[])]) 1):=by kernel_rfl
def L7(v1:AL)(c:Int)(b:List Cz)(a:Nat):Tr:=re ((stepT B1<|L4 ([],([],[])) 0).L.L.L.L)<|Aw 128 [(1,PV.Bc Bn v1 0),(2,.ptr 0 0),(3,.ptr 1 0),(7,.dat i64 c)] [(2,.arr false 98 Ds b),(1,.box [.nil,.sl 2 2 0 a none,.nil]),(0,.box [.nil,.nil,.nil])] 3
def L8(v1:AL)(a:Int):Tr:=re ((stepT B1<|L4 ([],([],[])) 0).R)<|Aw 128 [(1,PV.Bc Bn v1 0),(2,.ptr 0 0),(3,.ptr 1 0),(8,.dat i64 a)] [(1,.box [.nil,.nil,.nil]),(0,.box [.nil,.nil,.nil])] 2
theorem Ci(v1:AL)(a:Int):stepT B1 (L4 v1 a)=let b:=decide (a<(↑(length<|fst<|snd v1):Int));.ite b (.ck (decide (0<=a)&&b)<|.ck (decide (0<=a)&&b)<|.ck (aa 40)<|L7 v1 (zd .i64<|a+1) ([(getD (fst<|snd v1) (toNat a) ([],[]))]) 1) (L8 v1 0):=by kernel_rfl
theorem EO(v1:AL)(v4 e:Int)(f:List ER)(g d c b:Z)(a:Nat):stepT B1 (L5 v1 v4 e f g d c b a)=let i:=snd<|snd<|snd<|snd<|getD (fst v1) (toNat v4) ([],[],[],[],[]);let b':=decide (0<=v4)&&decide (v4<(↑(length<|fst v1):Int));let h:=decide (e<(↑(length i):Int));.ck b' (.ite h (.ck b'<|.ck (decide (0<=e)&&h)<|.ck b'<|.ck (decide (0<=e)&&h)<|.ck (ac a (length f) 24)<|L5 v1 v4 (zd .i64<|e+1) (f++[(getD i (toNat e) ([],0))]) g d c b<|zz a 1)<|.ck (decide (0+a<=length f)&&true)<|.ck (aa 88)<|L6 v1 (zd .i64<|v4+1) ([(g,d,c,b,take a f)]) 1):=by kernel_rfl
def L9(v1:AL)(v4 f:Int)(g:List BQ)(e c b a:Z)(d:Nat):Tr:=re ((stepT B1<|L6 ([],([],[])) 0 [] 0).L.L.L.L.L)<|Aw 128 [(1,PV.Bc Bn v1 0),(2,.ptr 0 0),(3,.ptr 1 0),(4,.dat i64 v4),(5,.ptr 2 0),(6,.dat i64 f)] [(3,.arr false 97 BU g),(2,.box [.dat zf e,.dat zf c,.dat zf b,.dat zf a,.nil]),(1,.box [.sl 3 5 0 d none,.nil,.nil]),(0,.box [.nil,.nil,.nil])] 4
def L10(v1:AL)(c:Int)(b:List BQ)(a:Nat):Tr:=re ((stepT B1<|L6 ([],([],[])) 0 [] 0).R)<|Aw 128 [(1,PV.Bc Bn v1 0),(2,.ptr 0 0),(3,.ptr 1 0),(7,.dat i64 c)] [(2,.arr false 97 BU b),(1,.box [.sl 2 5 0 a none,.nil,.nil]),(0,.box [.nil,.nil,.nil])] 3
theorem EX(v1:AL)(v4:Int)(c:List BQ)(a:Nat):stepT B1 (L6 v1 v4 c a)=let b':=getD (fst v1) (toNat v4) ([],[],[],[],[]);let d:=decide (v4<(↑(length<|fst v1):Int));let b:=decide (0<=v4)&&d;.ite d (.ck b<|.ck b<|.ck b<|.ck b<|L9 v1 v4 0 c (fst b') (fst<|snd b') (fst<|snd<|snd b') (fst<|snd<|snd<|snd b') a) (L10 v1 0 c a):=by kernel_rfl
def L11(v1:AL)(b:Int)(c:List Cz)(a:Nat):Tr:=re ((stepT B1<|L7 ([],([],[])) 0 [] 0).R)<|Aw 128 [(1,PV.Bc Bn v1 0),(2,.ptr 0 0),(3,.ptr 1 0),(8,.dat i64 b)] [(2,.arr false 98 Ds c),(1,.box [.nil,.sl 2 2 0 a none,.nil]),(0,.box [.nil,.nil,.nil])] 3
theorem D5(v1:AL)(b:Int)(c:List Cz)(a:Nat):stepT B1 (L7 v1 b c a)=let d:=decide (b<(↑(length<|fst<|snd v1):Int));.ite d (.ck (decide (0<=b)&&d)<|.ck (decide (0<=b)&&d)<|.ck (ac a (length c) 40)<|L7 v1 (zd .i64<|b+1) (c++[(getD (fst<|snd v1) (toNat b) ([],[]))])<|zz a 1) (L11 v1 0 c a):=by kernel_rfl
def L12(v1:AL)(b:Int)(c:List BM)(a:Nat):Tr:=re ((stepT B1<|L8 ([],([],[])) 0).L.L.L.L)<|Aw 128 [(1,PV.Bc Bn v1 0),(2,.ptr 0 0),(3,.ptr 1 0),(8,.dat i64 b)] [(2,.arr false 43 Bx c),(1,.box [.nil,.nil,.sl 2 5 0 a none]),(0,.box [.nil,.nil,.nil])] 3
theorem Ho(v1:AL)(a:Int):stepT B1 (L8 v1 a)=let b:=getD (snd<|snd v1) (toNat a) ([],[],[],[],[]);let b':=decide (a<(↑(length<|snd<|snd v1):Int));.ite b' (.ck (decide (0<=a)&&b')<|.ck (fJ b)<|.ck (aa 96)<|L12 v1 (zd .i64<|a+1) ([b]) 1) (.leaf (yh [.nil,.nil,.nil]) []):=by kernel_rfl
def L13(v1:AL)(v4 h:Int)(g:List ER)(i:List BQ)(f c b a:Z)(e d:Nat):Tr:=re ((stepT B1<|L9 ([],([],[])) 0 0 [] [] [] [] [] 0).L.L.L.L.L.L.L)<|Aw 128 [(1,PV.Bc Bn v1 0),(2,.ptr 0 0),(3,.ptr 1 0),(4,.dat i64 v4),(5,.ptr 2 0),(6,.dat i64 h)] [(4,.arr false 99 S1 g),(3,.arr false 97 BU i),(2,.box [.dat zf f,.dat zf c,.dat zf b,.dat zf a,.sl 4 2 0 e none]),(1,.box [.sl 3 5 0 d none,.nil,.nil]),(0,.box [.nil,.nil,.nil])] 5
theorem lX(v1:AL)(v4 e:Int)(f:List BQ)(g d c a:Z)(b:Nat):stepT B1 (L9 v1 v4 e f g d c a b)=let i:=snd<|snd<|snd<|snd<|getD (fst v1) (toNat v4) ([],[],[],[],[]);let b':=decide (0<=v4)&&decide (v4<(↑(length<|fst v1):Int));let h:=decide (e<(↑(length i):Int));.ck b' (.ite h (.ck b'<|.ck (decide (0<=e)&&h)<|.ck b'<|.ck (decide (0<=e)&&h)<|.ck (aa 24)<|L13 v1 v4 (zd .i64<|e+1) ([(getD i (toNat e) ([],0))]) f g d c a 1 b)<|.ck (ac b (length f) 88)<|L6 v1 (zd .i64<|v4+1) (f++[(g,d,c,a,[])])<|zz b 1):=by kernel_rfl
def L14(v1:AL)(c:Int)(e:List Cz)(d:List BQ)(b a:Nat):Tr:=re ((stepT B1<|L10 ([],([],[])) 0 [] 0).L.L.L.L)<|Aw 128 [(1,PV.Bc Bn v1 0),(2,.ptr 0 0),(3,.ptr 1 0),(7,.dat i64 c)] [(3,.arr false 98 Ds e),(2,.arr false 97 BU d),(1,.box [.sl 2 5 0 b none,.sl 3 2 0 a none,.nil]),(0,.box [.nil,.nil,.nil])] 4
def L15(v1:AL)(b:Int)(c:List BQ)(a:Nat):Tr:=re ((stepT B1<|L10 ([],([],[])) 0 [] 0).R)<|Aw 128 [(1,PV.Bc Bn v1 0),(2,.ptr 0 0),(3,.ptr 1 0),(8,.dat i64 b)] [(2,.arr false 97 BU c),(1,.box [.sl 2 5 0 a none,.nil,.nil]),(0,.box [.nil,.nil,.nil])] 3
theorem Tt(v1:AL)(b:Int)(c:List BQ)(a:Nat):stepT B1 (L10 v1 b c a)=let d:=decide (b<(↑(length<|fst<|snd v1):Int));.ite d (.ck (decide (0<=b)&&d)<|.ck (decide (0<=b)&&d)<|.ck (aa 40)<|L14 v1 (zd .i64<|b+1) ([(getD (fst<|snd v1) (toNat b) ([],[]))]) c a 1) (L15 v1 0 c a):=by kernel_rfl
def L16(v1:AL)(c:Int)(e:List BM)(d:List Cz)(b a:Nat):Tr:=re ((stepT B1<|L11 ([],([],[])) 0 [] 0).L.L.L.L)<|Aw 128 [(1,PV.Bc Bn v1 0),(2,.ptr 0 0),(3,.ptr 1 0),(8,.dat i64 c)] [(3,.arr false 43 Bx e),(2,.arr false 98 Ds d),(1,.box [.nil,.sl 2 2 0 b none,.sl 3 5 0 a none]),(0,.box [.nil,.nil,.nil])] 4
theorem jP(v1:AL)(b:Int)(c:List Cz)(a:Nat):stepT B1 (L11 v1 b c a)=let d:=getD (snd<|snd v1) (toNat b) ([],[],[],[],[]);let b':=decide (b<(↑(length<|snd<|snd v1):Int));.ite b' (.ck (decide (0<=b)&&b')<|.ck (fJ d)<|.ck (aa 96)<|L16 v1 (zd .i64<|b+1) ([d]) c a 1) (.leaf (yh [.nil,.sl 2 2 0 a none,.nil])<|[(2,.arr false 98 Ds c),(1,.box [.nil,.sl 2 2 0 a none,.nil]),(0,.box [.nil,.sl 2 2 0 a none,.nil])]):=by kernel_rfl
theorem fY(v1:AL)(b:Int)(c:List BM)(a:Nat):stepT B1 (L12 v1 b c a)=let d:=getD (snd<|snd v1) (toNat b) ([],[],[],[],[]);let b':=decide (b<(↑(length<|snd<|snd v1):Int));.ite b' (.ck (decide (0<=b)&&b')<|.ck (fJ d)<|.ck (ac a (length c) 96)<|L12 v1 (zd .i64<|b+1) (c++[d])<|zz a 1) (.leaf (yh [.nil,.nil,.sl 2 5 0 a none])<|[(2,.arr false 43 Bx c),(1,.box [.nil,.nil,.sl 2 5 0 a none]),(0,.box [.nil,.nil,.sl 2 5 0 a none])]):=by kernel_rfl
theorem kB(v1:AL)(v4 f:Int)(g:List ER)(h:List BQ)(i e d b:Z)(a c:Nat):stepT B1 (L13 v1 v4 f g h i e d b a c)=let k:=snd<|snd<|snd<|snd<|getD (fst v1) (toNat v4) ([],[],[],[],[]);let b':=decide (0<=v4)&&decide (v4<(↑(length<|fst v1):Int));let j:=decide (f<(↑(length k):Int));.ck b' (.ite j (.ck b'<|.ck (decide (0<=f)&&j)<|.ck b'<|.ck (decide (0<=f)&&j)<|.ck (ac a (length g) 24)<|L13 v1 v4 (zd .i64<|f+1) (g++[(getD k (toNat f) ([],0))]) h i e d b (zz a 1) c)<|.ck (decide (0+a<=length g)&&true)<|.ck (ac c (length h) 88)<|L6 v1 (zd .i64<|v4+1) (h++[(i,e,d,b,take a g)])<|zz c 1):=by kernel_rfl
def L17(v1:AL)(c:Int)(e:List Cz)(d:List BQ)(b a:Nat):Tr:=re ((stepT B1<|L14 ([],([],[])) 0 [] [] 0 0).R)<|Aw 128 [(1,PV.Bc Bn v1 0),(2,.ptr 0 0),(3,.ptr 1 0),(8,.dat i64 c)] [(3,.arr false 98 Ds e),(2,.arr false 97 BU d),(1,.box [.sl 2 5 0 b none,.sl 3 2 0 a none,.nil]),(0,.box [.nil,.nil,.nil])] 4
theorem jD(v1:AL)(c:Int)(d:List Cz)(f:List BQ)(b a:Nat):stepT B1 (L14 v1 c d f b a)=let e:=decide (c<(↑(length<|fst<|snd v1):Int));.ite e (.ck (decide (0<=c)&&e)<|.ck (decide (0<=c)&&e)<|.ck (ac a (length d) 40)<|L14 v1 (zd .i64<|c+1) (d++[(getD (fst<|snd v1) (toNat c) ([],[]))]) f b<|zz a 1) (L17 v1 0 d f b a):=by kernel_rfl
def L18(v1:AL)(c:Int)(e:List BM)(d:List BQ)(b a:Nat):Tr:=re ((stepT B1<|L15 ([],([],[])) 0 [] 0).L.L.L.L)<|Aw 128 [(1,PV.Bc Bn v1 0),(2,.ptr 0 0),(3,.ptr 1 0),(8,.dat i64 c)] [(3,.arr false 43 Bx e),(2,.arr false 97 BU d),(1,.box [.sl 2 5 0 b none,.nil,.sl 3 5 0 a none]),(0,.box [.nil,.nil,.nil])] 4
theorem nH(v1:AL)(b:Int)(c:List BQ)(a:Nat):stepT B1 (L15 v1 b c a)=let d:=getD (snd<|snd v1) (toNat b) ([],[],[],[],[]);let b':=decide (b<(↑(length<|snd<|snd v1):Int));.ite b' (.ck (decide (0<=b)&&b')<|.ck (fJ d)<|.ck (aa 96)<|L18 v1 (zd .i64<|b+1) ([d]) c a 1) (.leaf (yh [.sl 2 5 0 a none,.nil,.nil])<|[(2,.arr false 97 BU c),(1,.box [.sl 2 5 0 a none,.nil,.nil]),(0,.box [.sl 2 5 0 a none,.nil,.nil])]):=by kernel_rfl
theorem qR(v1:AL)(c:Int)(d:List BM)(e:List Cz)(b a:Nat):stepT B1 (L16 v1 c d e b a)=let f:=getD (snd<|snd v1) (toNat c) ([],[],[],[],[]);let b':=decide (c<(↑(length<|snd<|snd v1):Int));.ite b' (.ck (decide (0<=c)&&b')<|.ck (fJ f)<|.ck (ac a (length d) 96)<|L16 v1 (zd .i64<|c+1) (d++[f]) e b<|zz a 1) (.leaf (yh [.nil,.sl 2 2 0 b none,.sl 3 5 0 a none])<|[(3,.arr false 43 Bx d),(2,.arr false 98 Ds e),(1,.box [.nil,.sl 2 2 0 b none,.sl 3 5 0 a none]),(0,.box [.nil,.sl 2 2 0 b none,.sl 3 5 0 a none])]):=by kernel_rfl
def L19(v1:AL)(d:Int)(e:List BM)(g:List Cz)(f:List BQ)(c a b:Nat):Tr:=re ((stepT B1<|L17 ([],([],[])) 0 [] [] 0 0).L.L.L.L)<|Aw 128 [(1,PV.Bc Bn v1 0),(2,.ptr 0 0),(3,.ptr 1 0),(8,.dat i64 d)] [(4,.arr false 43 Bx e),(3,.arr false 98 Ds g),(2,.arr false 97 BU f),(1,.box [.sl 2 5 0 c none,.sl 3 2 0 a none,.sl 4 5 0 b none]),(0,.box [.nil,.nil,.nil])] 5
theorem iK(v1:AL)(c:Int)(e:List Cz)(d:List BQ)(b a:Nat):stepT B1 (L17 v1 c e d b a)=let f:=getD (snd<|snd v1) (toNat c) ([],[],[],[],[]);let b':=decide (c<(↑(length<|snd<|snd v1):Int));.ite b' (.ck (decide (0<=c)&&b')<|.ck (fJ f)<|.ck (aa 96)<|L19 v1 (zd .i64<|c+1) ([f]) e d b a 1) (.leaf (yh [.sl 2 5 0 b none,.sl 3 2 0 a none,.nil])<|[(3,.arr false 98 Ds e),(2,.arr false 97 BU d),(1,.box [.sl 2 5 0 b none,.sl 3 2 0 a none,.nil]),(0,.box [.sl 2 5 0 b none,.sl 3 2 0 a none,.nil])]):=by kernel_rfl
theorem oM(v1:AL)(c:Int)(d:List BM)(e:List BQ)(b a:Nat):stepT B1 (L18 v1 c d e b a)=let f:=getD (snd<|snd v1) (toNat c) ([],[],[],[],[]);let b':=decide (c<(↑(length<|snd<|snd v1):Int));.ite b' (.ck (decide (0<=c)&&b')<|.ck (fJ f)<|.ck (ac a (length d) 96)<|L18 v1 (zd .i64<|c+1) (d++[f]) e b<|zz a 1) (.leaf (yh [.sl 2 5 0 b none,.nil,.sl 3 5 0 a none])<|[(3,.arr false 43 Bx d),(2,.arr false 97 BU e),(1,.box [.sl 2 5 0 b none,.nil,.sl 3 5 0 a none]),(0,.box [.sl 2 5 0 b none,.nil,.sl 3 5 0 a none])]):=by kernel_rfl
theorem qK(v1:AL)(d:Int)(e:List BM)(g:List Cz)(f:List BQ)(c b a:Nat):stepT B1 (L19 v1 d e g f c b a)=let h:=getD (snd<|snd v1) (toNat d) ([],[],[],[],[]);let b':=decide (d<(↑(length<|snd<|snd v1):Int));.ite b' (.ck (decide (0<=d)&&b')<|.ck (fJ h)<|.ck (ac a (length e) 96)<|L19 v1 (zd .i64<|d+1) (e++[h]) g f c b<|zz a 1) (.leaf (yh [.sl 2 5 0 c none,.sl 3 2 0 b none,.sl 4 5 0 a none])<|[(4,.arr false 43 Bx e),(3,.arr false 98 Ds g),(2,.arr false 97 BU f),(1,.box [.sl 2 5 0 c none,.sl 3 2 0 b none,.sl 4 5 0 a none]),(0,.box [.sl 2 5 0 c none,.sl 3 2 0 b none,.sl 4 5 0 a none])]):=by kernel_rfl
end T10
namespace T59
def T(a:Z)(lo b:Int):Tr:=tree Adh false 9 59<|Ae ([zf,yd zt,yd zt]) (a,lo,b)
theorem Aj(a:Z)(lo b:Int):T a lo b=let d:Tr:=.leaf (.dat i64<|Ao a) [];let b':=FQ (Sp.rN lo,Sp.rW lo);let e:=FQ (Sp.rN b,Sp.rW b);let c:Tr:=.leaf (.dat i64 (3:Int)) [];.cd (length a<=1000000) (.ite (Ao a==0) (.ck (Cn lo)<|.ck (CA (Sp.rN lo,Sp.rW lo))<|.ck (Be a&&Df b')<|.di (EI a b'<0) c<|.ck (Cn b)<|.ck (CA (Sp.rN b,Sp.rW b))<|.ck (Be a&&Df e)<|.di (EI a e>0) c d) d):=by kernel_rfl
end T59
namespace T61
def T(s:Z)(l:List Z):Tr:=tree wF false 9 61<|Ae ([zf,zg zf]) (s,l)
def L1(v0:Z)(v1:List Z)(v5:Int):Tr:=re ((T [] []).L.R)<|Aw 21 [(0,.dat zf v0),(1,.dat (zg zf) v1),(5,.dat i64 v5)] [] 0
theorem Aj(s:Z)(l:List Z):T s l=.ck true (.ite (!zo s) (.leaf (.dat i64 (8:Int)) [])<|L1 s l 0):=by kernel_rfl
theorem Al(v0:Z)(v1:List Z)(v5:Int):stepT wF (L1 v0 v1 v5)=let a:=decide (v5<(length v1:Int));.ite a (.ck (decide (0<=v5)&&a)<|.ite (getD v1 (toNat v5) []==v0) (.leaf (.dat i64 (9:Int)) [])<|L1 v0 v1<|zd .i64<|v5+1) (.leaf (.dat i64 (0:Int)) []):=by kernel_rfl
end T61
namespace T14
def T(l:BM):Tr:=tree Rv false 9 14<|Ae ([Bx]) l
def L1(v4:Int)(e a d:Z)(b c:List A1):Tr:=re ((T ([],([],([],([],[]))))).L.R.L.L.L.L.L.R)<|Aw 101 [(1,.ptr 0 0),(4,.dat i64 v4)] [(0,.box [.dat zf e,.dat zf a,.dat zf d,.dat (zg B5) b,.dat (zg B5) c])] 1
theorem Aj(l:BM):T l=let b:=fst<|snd<|snd<|snd l;let a:=fst<|snd<|snd l;let d:=BL (fst<|snd l) 1 10000==0;let b':=L1 1 (fst l) (fst<|snd l) a b<|snd<|snd<|snd<|snd l;let c:Tr:=.ck (decide (length b<=1000)&&GC 1000000 b)<|.ite (BH b !=0) (.leaf (.dat i64<|BH b) []) b';.ck true (.ite (!zo (fst l)) (.leaf (.dat i64 (8:Int)) [])<|.ck (decide (length (fst<|snd l)<=1000000)&&GI 1&&GI 10000)<|.ite d (.ck (decide (length a<=1000000)&&GI 1&&GI 10000)<|.ite (BL a 1 10000==0) c<|.ite (BL a 1 10000 !=0) (.leaf (.dat i64<|BL a 1 10000) []) b')<|.ite d c<|.ite (BL (fst<|snd l) 1 10000 !=0) (.leaf (.dat i64<|BL (fst<|snd l) 1 10000) []) b'):=by kernel_rfl
def L2(e:Int)(f b d:Z)(a c:List A1):Tr:=re ((stepT Rv<|L1 0 [] [] [] [] []).R.R)<|Aw 101 [(1,.ptr 0 0),(5,.nil),(6,.dat i64 e)] [(0,.box [.dat zf f,.dat zf b,.dat zf d,.dat (zg B5) a,.dat (zg B5) c])] 1
theorem Al(v4:Int)(f c d:Z)(a b:List A1):stepT Rv (L1 v4 f c d a b)=let g:=snd<|getD a (toNat<|zd .i64<|v4-1) ([],[]);let b':=snd<|getD a (toNat v4) ([],[]);let e:=(length a:Int);.di (v4<e) (.ck (decide (0<=v4)&&decide (v4<e))<|.ck (decide (0<=zd .i64 (v4-1))&&decide (zd .i64 (v4-1)<e))<|.ck (Be b'&&Df g)<|.di (EI b' g<0) (.leaf (.dat i64 (11:Int)) [])<|L1 (zd .i64<|v4+1) f c d a b) (.di ((length b:Int)>16) (.leaf (.dat i64 (5:Int)) [])<|L2 0 f c d a b):=by kernel_rfl
def L3(e:Nat)(f:Int)(o1:List Z)(g b d:Z)(a c:List A1):Tr:=re ((stepT Rv<|L2 0 [] [] [] [] []).L.L.L.L.L.L.L.L.L.L.R.L.L)<|Aw 101 [(1,.ptr 0 0),(5,.sl 1 1 0 e none),(6,.dat i64 f)] [(1,.arr false 9 zf o1),(0,.box [.dat zf g,.dat zf b,.dat zf d,.dat (zg B5) a,.dat (zg B5) c])] 2
theorem AG(f:Int)(l b c:Z)(d a:List A1):stepT Rv (L2 f l b c d a)=let b':=getD a (toNat f) ([],[]);let m:=decide (f<(length a:Int));let e:=decide (0<=f)&&m;let h:=decide (length (snd b')<=1000000);let h':=decide (FT (snd b')<0);let g:Tr:=.ck e<|.ck (aa 16)<|L3 1 (zd .i64<|f+1) ([fst b']) l b c d a;let i:Tr:=.ite (Ao (snd b') !=0) (.leaf (.dat i64<|Ao<|snd b') []) g;let k:Tr:=.ite (Kb (fst b') [] !=0) (.leaf (.dat i64<|Kb (fst b') []) []) g;let j:Tr:=.ite true (.leaf (.dat i64 (3:Int)) []) g;.ite m (.ck e<|.cd (0<=1000)<|.ite (Kb (fst b') []==0) (.ck e<|.ck h<|.ite (Ao (snd b')==0) (.ck e<|.ck h<|.ite h' j i) i)<|.ite (Kb (fst b') []==0) (.ck e<|.ck h<|.ite h' j k) k) (.leaf (.dat i64 (0:Int)) []):=by kernel_rfl
theorem BA(a:Nat)(g:Int)(o1:List Z)(l c d:Z)(e b:List A1):stepT Rv (L3 a g o1 l c d e b)=let b':=getD b (toNat g) ([],[]);let j:=decide (g<(length b:Int));let f:=decide (0<=g)&&j;let h:=decide (length (snd b')<=1000000);let h':=Kb (fst b') (take a o1)==0;let m:=decide (FT (snd b')<0);let i:Tr:=.ck f<|.ck (ac a (length o1) 16)<|L3 (zz a 1) (zd .i64<|g+1) (o1++[fst b']) l c d e b;let n:Tr:=.ite (Kb (fst b') (take a o1) !=0) (.leaf (.dat i64<|Kb (fst b')<|take a o1) []) i;let k:Tr:=.ite (Ao (snd b') !=0) (.leaf (.dat i64<|Ao<|snd b') []) i;let o:Tr:=.ite true (.leaf (.dat i64 (3:Int)) []) i;.ite j (.ck f<|.ck (decide (0+a<=length o1)&&true&&decide (length (take a o1)<=1000))<|.ite h' (.ck f<|.ck h<|.ite (Ao (snd b')==0) (.ck f<|.ck h<|.ite m o k) k)<|.ite h' (.ck f<|.ck h<|.ite m o n) n) (.leaf (.dat i64 (0:Int)) []):=by kernel_rfl
end T14
namespace T67
def T(s:BQ):Tr:=tree xN false 9 67<|Ae ([BU]) s
def L1(v4:Int)(e b d a:Z)(c:List ER):Tr:=re ((T ([],([],([],([],[]))))).L.L.L.L.L.L.L.R.R)<|Aw 61 [(1,.ptr 0 0),(4,.dat i64 v4)] [(0,.box [.dat zf e,.dat zf b,.dat zf d,.dat zf a,.dat (zg S1) c])] 1
theorem Aj(s:BQ):T s=let a:=snd<|snd<|snd s;let b:=fst<|snd<|snd s;let d:=BL (fst s) (-10000) 10000==0;let e:=BL (fst<|snd s) (-10000) 10000==0;let c:Tr:=.di ((↑(length<|snd a):Int)>16) (.leaf (.dat i64 (5:Int)) [])<|L1 0 (fst s) (fst<|snd s) b (fst a)<|snd a;let b':Tr:=.ck (decide (length (fst a)<=1000000)&&GI 0&&GI 10000)<|.ite (BL (fst a) 0 10000 !=0) (.leaf (.dat i64<|BL (fst a) 0 10000) []) c;let f:Tr:=.ck (decide (length b<=1000000)&&GI 0&&GI 10000)<|.ite (BL b 0 10000==0) b'<|.ite (BL b 0 10000 !=0) (.leaf (.dat i64<|BL b 0 10000) []) c;.ck (decide (length (fst s)<=1000000)&&GI (-10000)&&GI 10000) (.ite d (.ck (decide (length (fst<|snd s)<=1000000)&&GI (-10000)&&GI 10000)<|.ite e f<|.ite e b'<|.ite (BL (fst<|snd s) (-10000) 10000 !=0) (.leaf (.dat i64<|BL (fst<|snd s) (-10000) 10000) []) c)<|.ite d f<|.ite d b'<|.ite (BL (fst s) (-10000) 10000 !=0) (.leaf (.dat i64<|BL (fst s) (-10000) 10000) []) c):=by kernel_rfl
theorem Al(v4:Int)(h b c d:Z)(a:List ER):stepT xN (L1 v4 h b c d a)=let b':=getD a (toNat v4) ([],0);let g:=decide (v4<(length a:Int));let f:Tr:=.leaf (.dat i64 (3:Int)) [];let e:=decide (0<=v4)&&g;.ite g (.ck e<|.ck true<|.ite (!zo (fst b')) (.leaf (.dat i64 (8:Int)) [])<|.ck e<|.di (snd b'<0) f<|.ck e<|.di (snd b'>10) f<|L1 (zd .i64<|v4+1) h b c d a) (.leaf (.dat i64 (0:Int)) []):=by kernel_rfl
end T67
namespace T16
def T(c:AL):Tr:=tree E0 false 9 16<|Ae ([Bn]) c
def L1(v3:Int)(c:List BQ)(a:List Cz)(b:List BM):Tr:=re ((T ([],([],[]))).R.R)<|Aw 147 [(1,.ptr 0 0),(3,.dat i64 v3)] [(0,.box [.dat (zg BU) c,.dat (zg Ds) a,.dat (zg Bx) b])] 1
theorem Aj(c:AL):T c=.ite ((↑(length<|fst c):Int)==0) (.leaf (.dat i64 (12:Int)) []) (.di ((↑(length<|fst c):Int)>36) (.leaf (.dat i64 (5:Int)) [])<|L1 0 (fst c) (fst<|snd c)<|snd<|snd c):=by kernel_rfl
def L2(c:Int)(d:List BQ)(a:List Cz)(b:List BM):Tr:=re ((stepT E0<|L1 0 [] [] []).R.R.R)<|Aw 147 [(1,.ptr 0 0),(5,.nil),(6,.dat i64 c)] [(0,.box [.dat (zg BU) d,.dat (zg Ds) a,.dat (zg Bx) b])] 1
theorem Al(v3:Int)(c:List BQ)(a:List Cz)(b:List BM):stepT E0 (L1 v3 c a b)=let d:=getD c (toNat v3) ([],[],[],[],[]);let b':=decide (v3<(length c:Int));.ite b' (.ck (decide (0<=v3)&&b')<|.ck (Sp.BU d)<|.ite (Lb d !=0) (.leaf (.dat i64<|Lb d) [])<|L1 (zd .i64<|v3+1) c a b) (.ite ((length a:Int)==0) (.leaf (.dat i64 (12:Int)) [])<|.di ((length a:Int)>8) (.leaf (.dat i64 (5:Int)) [])<|L2 0 c a b):=by kernel_rfl
def L3(e d v9:Int)(o1:Z)(c:List Int)(f:List BQ)(a:List Cz)(b:List BM):Tr:=re ((stepT E0<|L2 0 [] [] []).L.L.L.L.L)<|Aw 147 [(1,.ptr 0 0),(5,.nil),(6,.dat i64 e),(7,.ptr 1 0),(8,.dat i64 d),(9,.dat i64 v9)] [(1,.box [.dat zf o1,.dat (zg i64) c]),(0,.box [.dat (zg BU) f,.dat (zg Ds) a,.dat (zg Bx) b])] 2
def L4(c:Int)(d:List BQ)(a:List Cz)(b:List BM):Tr:=re ((stepT E0<|L2 0 [] [] []).R.R.R)<|Aw 147 [(1,.ptr 0 0),(5,.nil),(10,.dat i64 c)] [(0,.box [.dat (zg BU) d,.dat (zg Ds) a,.dat (zg Bx) b])] 1
theorem AG(d:Int)(e:List BQ)(a:List Cz)(b:List BM):stepT E0 (L2 d e a b)=let c:=getD a (toNat d) ([],[]);let f:=decide (d<(length a:Int));let b':=L3 d (Kb (fst c) []) 0 (fst c) (snd c) e a b;.ite f (.ck (decide (0<=d)&&f)<|.cd (0<=1000)<|.ite (Kb (fst c) []==0) (.ite ((↑(length<|snd c):Int) !=(length e:Int)) (L3 d 2 0 (fst c) (snd c) e a b) b') b') (.ite ((length b:Int)==0) (.leaf (.dat i64 (12:Int)) [])<|.di ((length b:Int)>8) (.leaf (.dat i64 (5:Int)) [])<|L4 0 e a b):=by kernel_rfl
def L5(c:Nat)(d:Int)(o1:List Z)(e:List BQ)(a:List Cz)(b:List BM):Tr:=re ((stepT E0<|L3 0 0 0 [] [] [] [] []).L.R.R.L)<|Aw 147 [(1,.ptr 0 0),(5,.sl 1 1 0 c none),(6,.dat i64 d)] [(1,.arr false 9 zf o1),(0,.box [.dat (zg BU) e,.dat (zg Ds) a,.dat (zg Bx) b])] 2
theorem BA(e d v9:Int)(o1:Z)(a:List Int)(f:List BQ)(b:List Cz)(c:List BM):stepT E0 (L3 e d v9 o1 a f b c)=let i:Tr:=.ite (d !=0) (.leaf (.dat i64 d) [])<|.ck (aa 16)<|L5 1 (zd .i64<|e+1) [o1] f b c;let g:=decide (v9<(length a:Int));let h:=zd .i64<|v9+1;let b':=L3 e 3 h o1 a f b c;.ite g (.ite (d==0) (.ck (decide (0<=v9)&&g)<|.di (getD a (toNat v9) 0<1) b'<|.ck (decide (0<=v9)&&g)<|.di (getD a (toNat v9) 0>10000) b'<|L3 e d h o1 a f b c) i) i:=by kernel_rfl
def L6(c:Nat)(d:Int)(o1:List Z)(e:List BQ)(a:List Cz)(b:List BM):Tr:=re ((stepT E0<|L4 0 [] [] []).L.L.L.L.L.L.R.L.L)<|Aw 147 [(1,.ptr 0 0),(5,.sl 1 1 0 c none),(10,.dat i64 d)] [(1,.arr false 9 zf o1),(0,.box [.dat (zg BU) e,.dat (zg Ds) a,.dat (zg Bx) b])] 2
theorem Ci(b:Int)(g:List BQ)(c:List Cz)(a:List BM):stepT E0 (L4 b g c a)=let d:=getD a (toNat b) ([],[],[],[],[]);let f:=decide (b<(length a:Int));let e:=decide (0<=b)&&f;let b':Tr:=.ck e<|.ck (aa 16)<|L6 1 (zd .i64<|b+1) ([fst d]) g c a;.ite f (.ck e<|.ck (Pm d)<|.ite (JG d==0) (.ck e<|.cd (0<=1000)<|.ite (Kb (fst d) [] !=0) (.leaf (.dat i64<|Kb (fst d) []) []) b')<|.ite (JG d !=0) (.leaf (.dat i64<|JG d) []) b') (.leaf (.dat i64 (0:Int)) []):=by kernel_rfl
def L7(d:Nat)(g e v9:Int)(f:Z)(c:List Int)(o1:List Z)(h:List BQ)(a:List Cz)(b:List BM):Tr:=re ((stepT E0<|L5 0 0 [] [] [] []).L.L.L.L.L)<|Aw 147 [(1,.ptr 0 0),(5,.sl 1 1 0 d none),(6,.dat i64 g),(7,.ptr 2 0),(8,.dat i64 e),(9,.dat i64 v9)] [(2,.box [.dat zf f,.dat (zg i64) c]),(1,.arr false 9 zf o1),(0,.box [.dat (zg BU) h,.dat (zg Ds) a,.dat (zg Bx) b])] 3
theorem EO(c:Nat)(e:Int)(o1:List Z)(f:List BQ)(a:List Cz)(b:List BM):stepT E0 (L5 c e o1 f a b)=let d:=getD a (toNat e) ([],[]);let g:=decide (e<(length a:Int));let b':=L7 c e (Kb (fst d)<|take c o1) 0 (fst d) (snd d) o1 f a b;.ite g (.ck (decide (0<=e)&&g)<|.ck (decide (0+c<=length o1)&&true&&decide (length (take c o1)<=1000))<|.ite (Kb (fst d) (take c o1)==0) (.ite ((↑(length<|snd d):Int) !=(length f:Int)) (L7 c e 2 0 (fst d) (snd d) o1 f a b) b') b') (.ite ((length b:Int)==0) (.leaf (.dat i64 (12:Int)) [])<|.di ((length b:Int)>8) (.leaf (.dat i64 (5:Int)) [])<|L4 0 f a b):=by kernel_rfl
theorem EX(a:Nat)(c:Int)(o1:List Z)(h:List BQ)(d:List Cz)(b:List BM):stepT E0 (L6 a c o1 h d b)=let b':=getD b (toNat c) ([],[],[],[],[]);let f:=decide (c<(length b:Int));let e:=decide (0<=c)&&f;let g:Tr:=.ck e<|.ck (ac a (length o1) 16)<|L6 (zz a 1) (zd .i64<|c+1) (o1++[fst b']) h d b;.ite f (.ck e<|.ck (Pm b')<|.ite (JG b'==0) (.ck e<|.ck (decide (0+a<=length o1)&&true&&decide (length (take a o1)<=1000))<|.ite (Kb (fst b') (take a o1) !=0) (.leaf (.dat i64<|Kb (fst b')<|take a o1) []) g)<|.ite (JG b' !=0) (.leaf (.dat i64<|JG b') []) g) (.leaf (.dat i64 (0:Int)) []):=by kernel_rfl
theorem D5(d:Nat)(g e v9:Int)(f:Z)(a:List Int)(o1:List Z)(h:List BQ)(b:List Cz)(c:List BM):stepT E0 (L7 d g e v9 f a o1 h b c)=let k:Tr:=.ite (e !=0) (.leaf (.dat i64 e) [])<|.ck (ac d (length o1) 16)<|L5 (zz d 1) (zd .i64<|g+1) (o1++[f]) h b c;let i:=decide (v9<(length a:Int));let j:=zd .i64<|v9+1;let b':=L7 d g 3 j f a o1 h b c;.ite i (.ite (e==0) (.ck (decide (0<=v9)&&i)<|.di (getD a (toNat v9) 0<1) b'<|.ck (decide (0<=v9)&&i)<|.di (getD a (toNat v9) 0>10000) b'<|L7 d g e j f a o1 h b c) k) k:=by kernel_rfl
end T16
end
end Go.Pe
