import Derived.Test.YtbmofcgiokkikaaGreatDoorX15
/- A part of a proof; no law is stated here. -/
noncomputable section
open Go.Pe.Ends renaming tt -> zc, leaf -> zg, ite -> zh, Ah -> zk, ff -> zl, eq -> zx
open Go.IntKind renaming wrap -> zd, i64 -> zu, u64 -> z6
open Go.Pe.Sh renaming str -> ze, list -> zf, pair -> zi, int -> zz, nlist -> yg
open Int renaming toNat_natCast -> zj
open Bool renaming and_eq_true -> zm, not_eq_true' -> z8, and_eq_false_iff -> ya, true_or -> yi
open List renaming mem_cons_self -> zn, mem_of_mem_drop -> zp, length_cons -> zr, mem_cons -> yc, all_cons -> ye, all_eq_true -> yf, headD_cons -> yh
open Go.Sp renaming isName -> zo, letter -> zq, first -> zw, mark -> yb
open Nat renaming add -> zt, zero_le -> zy
open Go.Pe.Ac renaming of -> z7
open Go.Pe.PV renaming agg -> yd
variable {Q:Go.Pe.PV->Go.Pe.Ob->Prop}
namespace Go.Pe
open Sp
open Go.Det
section
open List Int Prod
namespace T204
def T[Srt](a:Rd)(lo b:Int):Tr:=tree AgA false 9 204<|Ag ([ze,zz zu,zz zu]) (a,lo,b)
theorem Aj[Srt](a:Rd)(lo b:Int):T a lo b=let c:=((lo,BI lo),1,BI 1);let b':=((b,BI b),1,BI 1);.cd (length a<=1000000) (.ite (Ap a !=0) (.leaf (.dat i64<|Ap a) [])<|.ck (DS a)<|.ck true<|.ck (Sp.CA (Cw a)&&Sp.CA c)<|.di (Dh (Cw a) c<0) (.ck true<|.leaf (.dat i64<|Cb true 3) [])<|.ck true<|.ck (Sp.CA (Cw a)&&Sp.CA b')<|.ck true<|.leaf (.dat i64<|Cb (decide (Dh (Cw a) b'>0)) 3) []):=by kernel_rfl
end T204
namespace T207
def T[Srt](l:List AW):Tr:=tree Abl false 9 207<|Ag ([zf B8]) l
def L1[Srt](b:List AW)(c a:Int)(d:List (Rd×Bool)):Tr:=re ((T []).R)<|Ax 44 [(3,PV.mp 0),(11,.dat (zf B8) b),(12,.dat i64 c),(13,.dat i64 a)] [(0,Obj.map ze Sh.bool d)] 1
theorem Aj[Srt](l:List AW):T l=.di ((length l:Int)>16) (.leaf (.dat i64 (5:Int)) []) (L1 l ((length l:Int)) 0 []):=by kernel_rfl
theorem Ak[Srt](c:List AW)(d a:Int)(e:List (Rd×Bool)):stepT Abl (L1 c d a e)=let b:=getD c (toNat a) ([],[]);let b':=Option.getD (EB ze Sh.bool (fst b) e) false;.di (a<d) (.ck (decide (0<=a)&&decide (a<(length c:Int)))<|.ck true<|.ck true<|.ck true<|.cd (length (snd b)<=1000000)<|.ck (decide (3<=3)&&true&&decide (3<=1000000))<|.ite (zw [Cb (!zo (fst b)) 8,Cb b' 9,Ap<|snd b] !=0) (.leaf (.dat i64<|zw [Cb (!zo (fst b)) 8,Cb b' 9,Ap<|snd b]) [])<|.ck (DS<|snd b)<|.ck (Sp.Ds (Sg<|snd b,Sf<|snd b))<|.di (Q7 (Cw<|snd b)<0) (.leaf (.dat i64 (3:Int)) [])<|L1 c d (zd .i64<|a+1)<|H4 ze Sh.bool (fst b) true e) (.leaf (.dat i64 (0:Int)) []):=by kernel_rfl
end T207
namespace T167
def T[Srt](l:Bq):Tr:=tree Aat false 9 167<|Ag ([Bk]) l
def L1[Srt](v4:Int)(e c b:Rd)(a d:List AW):Tr:=re ((T ([],([],([],([],[]))))).L.L.L.L.L.L.R)<|Ax 51 [(1,.ptr 0 0),(4,.dat i64 v4)] [(0,.box [.dat ze e,.dat ze c,.dat ze b,.dat (zf B8) a,.dat (zf B8) d])] 1
theorem Aj[Srt](l:Bq):T l=let a:=fst<|snd<|snd<|snd l;let b':=fst<|snd<|snd l;.ck true (.ck true<|.ck (decide (length (fst<|snd l)<=1000000)&&Hi 1&&Hi 10000)<|.ck (decide (length b'<=1000000)&&Hi 1&&Hi 10000)<|.ck (decide (length a<=1000)&&GY 1000000 a)<|.ck (decide (4<=4)&&true&&decide (4<=1000000))<|.ite (zw [Cb (!zo (fst l)) 8,BO (fst<|snd l) 1 10000,BO b' 1 10000,BL a] !=0) (.leaf (.dat i64<|zw [Cb (!zo (fst l)) 8,BO (fst<|snd l) 1 10000,BO b' 1 10000,BL a]) [])<|L1 1 (fst l) (fst<|snd l) b' a<|snd<|snd<|snd<|snd l):=by kernel_rfl
theorem Ak[Srt](v4:Int)(g d c:Rd)(a b:List AW):stepT Aat (L1 v4 g d c a b)=let f:=snd<|getD a (toNat<|zd .i64<|v4-1) ([],[]);let b':=snd<|getD a (toNat v4) ([],[]);let e:=(length a:Int);.di (v4<e) (.ck (decide (0<=v4)&&decide (v4<e))<|.ck (decide (0<=zd .i64 (v4-1))&&decide (zd .i64 (v4-1)<e))<|.ck (DS b')<|.ck (DS f)<|.ck (Sp.CA (Cw b')&&Sp.CA (Cw f))<|.di (Dh (Cw b') (Cw f)<0) (.leaf (.dat i64 (11:Int)) [])<|L1 (zd .i64<|v4+1) g d c a b) (.ck (HB b 40 20)<|.leaf (.dat i64<|OQ b) []):=by kernel_rfl
end T167
namespace T164
def T[Srt](s:Bs):Tr:=tree AbB false 9 164<|Ag ([Bw]) s
def L1[Srt](c:List Ey)(b a:Int):Tr:=re ((T ([],([],([],([],[]))))).L.L.L.L.L.L.R)<|Ax 56 [(30,.dat (zf UK) c),(31,.dat i64 b),(32,.dat i64 a)] [] 0
theorem Aj[Srt](s:Bs):T s=let a:=snd<|snd<|snd s;let b:=fst<|snd<|snd s;let b':=(↑(length<|snd a):Int);.ck (decide (length (fst s)<=1000000)&&Hi (-10000)&&Hi 10000) (.ck (decide (length (fst<|snd s)<=1000000)&&Hi (-10000)&&Hi 10000)<|.ck (decide (length b<=1000000)&&Hi 0&&Hi 10000)<|.ck (decide (length (fst a)<=1000000)&&Hi 0&&Hi 10000)<|.ck true<|.ck (decide (5<=5)&&true&&decide (5<=1000000))<|.ite (zw [BO (fst s) (-10000) 10000,BO (fst<|snd s) (-10000) 10000,BO b 0 10000,BO (fst a) 0 10000,Cb (decide (b'>16)) 5] !=0) (.leaf (.dat i64<|zw [BO (fst s) (-10000) 10000,BO (fst<|snd s) (-10000) 10000,BO b 0 10000,BO (fst a) 0 10000,Cb (decide (b'>16)) 5]) [])<|L1 (snd a) b' 0):=by kernel_rfl
theorem Ak[Srt](b:List Ey)(c a:Int):stepT AbB (L1 b c a)=let d:=getD b (toNat a) ([],0);let e:=decide (2<=2)&&true&&decide (2<=1000000);let f:=L1 b c<|zd .i64<|a+1;let b':=!zo (fst d);.di (a<c) (.ck (decide (0<=a)&&decide (a<(length b:Int)))<|.ck true<|.ck true<|.di (snd d<0) (.ck true<|.ck e<|.ite (zw [Cb b' 8,Cb true 3] !=0) (.leaf (.dat i64<|zw [Cb b' 8,Cb true 3]) []) f)<|.ck true<|.ck e<|.ite (zw [Cb b' 8,Cb (decide (snd d>10)) 3] !=0) (.leaf (.dat i64<|zw [Cb b' 8,Cb (decide (snd d>10)) 3]) []) f) (.leaf (.dat i64 (0:Int)) []):=by kernel_rfl
end T164
namespace T111
def T[Srt](s:Rd):Tr:=tree XR false 9 111<|Ag ([ze]) s
def L1[Srt](v0:Rd)(v3:Int):Tr:=re ((T []).R.R)<|Ax 56 [(0,.dat ze v0),(3,.dat i64 v3)] [] 0
theorem Aj[Srt](s:Rd):T s=.di ((length s:Int)<1) (.leaf (.bl false) []) (.di ((length s:Int)>24) (.leaf (.bl false) [])<|L1 s 0):=by kernel_rfl
theorem Ak[Srt](v0:Rd)(v3:Int):stepT XR (L1 v0 v3)=let b':=(↑(UInt8.toNat<|getD v0 (toNat v3) (0:UInt8)):Int);let a:=L1 v0<|zd .i64<|v3+1;let b:Tr:=.leaf (.bl false) [];let e:=decide (v3<(length v0:Int));let c:Tr:=.ite (v3==0) b<|.di (b'>=48) (.di (b'<=57) a<|.ite (!b'==95) b a)<|.ite (!b'==95) b a;let d:Tr:=.di (b'>=65) (.ite (!decide (b'<=90)) c a) c;.ite e (.ck (decide (0<=v3)&&e)<|.di (b'>=97) (.di (b'<=122) a d) d) (.leaf (.bl true) []):=by kernel_rfl
end T111
end
theorem T166.okU[Srt]:Af AY 166 jC:=by
 refine BA Uc<|fun(s:Rd) _=>?_;have d:∀v b,v=.bl b\/v=.dat .bool b->b=zo s->∀ob,Ac jC s v ob:=by
  rintro v b (rfl|rfl) j ob
  ·exact z7 rfl rfl j
  ·exact z7 rfl rfl j
 refine zx (T166.Aj s) ?_;conv=>zeta
 refine zk (T166.Ak ..) ?_;conv=>zeta
 cases s with
 |nil=>
  refine zl (by simp) (zl (by simp) ?_);exact zg<|d _ _ (.inl rfl) rfl _
 |cons x r=>
  refine zc (by simp) ?_;simp only[FB,HV,w5,z8,w9,bne_iff_ne,vc,wm];have step:zq (x.toNat:Int)=true->KV (x::r) 0=1->Ends XR (T166.L2 (x::r) (x::r)<|zt 0<|KV (x::r) 0) (Ac jC (x::r)):=by
   intro a n;rw[n];refine T166.loop (x::r) (by simp) r 1 rfl (by simp) ae (fun e=>d _ _ (.inl rfl) ?_) (fun e=>d _ _ (.inr rfl) ?_)
   ·simp[zo,e]
   ·simp only[zo,e,a,Bool.and_true,zr];congr 1;apply propext;push_cast;omega
  have no:zq (x.toNat:Int)=false->∀ob,Ac jC (x::r) (.bl false) ob:=fun a=>d _ _ (.inl rfl) (by simp[zo,a])
  have l:(x::r).getD 0 0=x:=rfl;by_cases k:((x::r).getD 0 0).toNat<128
  ·obtain⟨o,m⟩:=Xo (s:=x::r) (i:=0) (by simp) k;rw[o,l];have f:=Lw (x.toNat:Int);generalize ((x.toNat:Nat):Int)=c at f step no ⊢;by_cases a:zq c=true
   ·have:=f.1 a;repeat' split
    all_goals first|exact step a m|(exfalso;omega)
   ·have g:zq c=false:=by simpa using a
    have:¬_:=fun h=>a<|f.2 h
    repeat' split
    all_goals first|exact no g _|(exfalso;omega)
  ·have hr:=SO (s:=x::r) (i:=0) (by simp) ae;have p:zq (x.toNat:Int)=false:=by
    have:¬zq (x.toNat:Int)=true:=fun h=>by
     have:=(Lw _).1 h;rw[l]at k;omega
    simpa using this
   repeat' split
   all_goals first|exact no p _|(exfalso;omega)
namespace T111
theorem loop[Srt](s:Rd)(p:s.length<=24):∀(r:Rd) (i:Nat),s.drop i=r->i<=s.length->
  (((decide (1<=i)||zq ((r.headD 97).toNat:Int))&&(r.all fun c=>yb (c.toNat:Int)))=false->Q (.bl false) [])->(((decide (1<=i)||zq ((r.headD 97).toNat:Int))&&(r.all fun c=>yb (c.toNat:Int)))=true->Q (.bl true) [])->Ends XR (L1 s i) Q
 |[],i,h,n,k,f=>by
  have:=drop_nil h n;refine zk (Ak ..) (zl (by simp;omega) ?_);exact zg (f<|by simp;exact .inr af)
 |x::r,i,h,n,k,f=>by
  obtain⟨t,o,q⟩:=drop_cons (d:=0) h;refine zk (Ak ..) ?_;conv=>zeta
  simp only[zj,o];rw[wr _ ae ae];have b:=QM (x.toNat:Int);have li:=Lw (x.toNat:Int);have step:(1<=i\/zq (x.toNat:Int)=true)->yb (x.toNat:Int)=true->Ends XR (L1 s<|(i:Int)+1) Q:=by
   intro hm m;have e:((i:Int)+1)=((i+1:Nat):Int):=by push_cast;rfl
   rw[e];refine loop s p r (i+1) q t (fun e=>k ?_)<|fun e=>f ?_
   ·simp only[ye,m,Bool.true_and];have:(r.all fun c=>yb (c.toNat:Int))=false:=by simpa using e
    rw[this,Bool.and_false]
   ·have:(r.all fun c=>yb (c.toNat:Int))=true:=by simpa using e
    simp only[ye,m,this,Bool.and_true,Bool.or_eq_true,w5,yh];exact hm
  have no:(¬(1<=i\/zq (x.toNat:Int)=true)\/yb (x.toNat:Int)=false)->Q (.bl false) []:=by
   intro hm;refine k ?_;simp only[yh,ye];rcases hm with hm|hm
   ·have:(decide (1<=i)||zq (x.toNat:Int))=false:=by
     rw[Bool.eq_false_iff];intro h;apply hm;simpa using h
    rw[this,Bool.false_and]
   ·rw[hm,Bool.false_and,Bool.and_false]
  generalize ((x.toNat:Nat):Int)=c at b li step no ⊢;by_cases hm:yb c=true
  ·have j:=b.1 hm;by_cases a:1<=i\/zq c=true
   ·have g:1<=i\/(97<=c/\c<=122)\/(65<=c/\c<=90):=a.imp id li.1;repeat' (with_reducible refine zh (fun _=>?_)<|fun _=>?_)
    all_goals first|with_reducible exact step a hm|(exfalso;simp only[w5,w9,z8,zm,ya,wk,ve,vc]at*;omega)
   ·have g:¬(1<=i\/(97<=c/\c<=122)\/(65<=c/\c<=90)):=fun h=>a<|h.imp id li.2
    repeat' (with_reducible refine zh (fun _=>?_)<|fun _=>?_)
    all_goals first|with_reducible exact zg (no<|.inl a)|(exfalso;simp only[w5,w9,z8,zm,ya,wk,ve,vc,Bool.not_eq_false']at*;omega)
  ·have l:yb c=false:=by simpa using hm
   have j:¬_:=fun h=>hm<|b.2 h
   repeat' (with_reducible refine zh (fun _=>?_)<|fun _=>?_)
   all_goals first|with_reducible exact zg (no<|.inr l)|(exfalso;simp only[w5,w9,z8,zm,ya,wk,ve,vc,Bool.not_eq_false']at*;omega)
theorem ok[Srt]:Af AY 111 jC:=by
 refine BA Uc<|fun(s:Rd) _=>?_;have a:∀b,b=zo s->Ac jC s (.bl b) []:=fun b g=>z7 rfl rfl g
 refine zx (Aj s) ?_;conv=>zeta
 rw[FB];cases s with
 |nil=>rw[wd (by simp),HV];exact a _ rfl
 |cons x r=>
  rw[wc (by simp;omega),FB];by_cases h:(x::r).length<=24
  ·rw[wc<|by simp at h ⊢;omega];have d:decide (r.length<=23)=true:=by simp at h ⊢;omega
   have key:zo (x::r)=((decide (1<=0)||zq (((x::r).headD 97).toNat:Int))&&((x::r).all fun c=>yb (c.toNat:Int))):=by
    simp only[zo,d,yh,ye,Bool.true_and];cases f:zq (x.toNat:Int)with
    |false=>simp
    |true=>
     have:yb (x.toNat:Int)=true:=by unfold yb;rw[f];rfl
     simp[this]
   exact loop (x::r) h (x::r) 0 rfl (by simp) (fun e=>a _<|by rw[key];exact e.symm) (fun e=>a _<|by rw[key];exact e.symm)
  ·rw[wd (by simp at h ⊢;omega),HV];exact a _ (by simp only[zo];rw[w8<|by simp at h;omega];rfl)
end T111
end Go.Pe
namespace Go.Sp
theorem Um{a:Bf}{lo b:Int}(h:Ap a=0):BO a lo b=if Ao a<(lo:Rat)\/(b:Rat)<Ao a then 3 else 0:=by
 unfold BO;rw[wc<|by rw[h];decide]
theorem Wa{a:Bf}{lo b:Int}(h:Ap a≠0):BO a lo b=Ap a:=by
 unfold BO;rw[wd h]
theorem Ut{n:Int}(h:Hi n=true):n.natAbs<10^6:=by
 unfold Hi at h;rw[zm,w5,w5]at h;have:(10:Nat)^6=1000000:=rfl;omega
def wE(seen:List Bf)(w:AW):Int:=first [Cb (!isName w.1) 8,Cb (has seen w.1) 9,Ap w.2]
theorem vW(seen:List Bf)(w:AW)(l:List AW):dT seen (w::l)=if wE seen w≠0 then wE seen w else if Ao w.2<0 then 3 else dT (w.1::seen) l:=by
 have e:wE seen w=if isName w.1=false then 8 else if has seen w.1=true then 9 else Ap w.2:=by
  unfold wE;rw[Bt,Bt,Bt,E8,E8];cases isName w.1
  ·rfl
  ·cases has seen w.1
   ·simp only[Bool.not_true,Bool.false_eq_true,vg,vc,not_true,ite_not];split
    ·next h=>rw[h];rfl
    ·rfl
   ·rfl
 rw[e,dT];cases isName w.1
 ·rfl
 ·cases has seen w.1
  ·rfl
  ·rfl
def oE(o:Ey):Int:=first [Cb (!isName o.1) 8,Cb (decide (o.2<0\/10<o.2)) 3]
theorem jT(o:Ey)(l:List Ey):jQ (o::l)=if oE o≠0 then oE o else jQ l:=by
 have e:oE o=if isName o.1=false then 8 else if o.2<0\/10<o.2 then 3 else 0:=by
  unfold oE;rw[Go.Pe.Km,E8,E8];cases isName o.1
  ·rfl
  ·by_cases h:o.2<0\/10<o.2
   ·rw[w4 h,wd h];rfl
   ·rw[w8 h,wc h];rfl
 rw[e,jQ];cases isName o.1
 ·rfl
 ·by_cases h:o.2<0\/10<o.2
  ·simp only[wd h];rfl
  ·simp only[wc h];rfl
theorem Pu:∀ {l:List AW} {o:Option AW},Dz o l=0->∀p∈l,Ap p.1=0/\Ap p.2=0
 |[],_,_,p,hp=>by cases hp
 |x::l,none,h,p,hp=>by
  obtain⟨a,b,c⟩:=Jo h;rcases yc.1 hp with rfl|hp
  ·exact⟨a,b⟩
  ·exact Pu c p hp
 |x::l,some q,h,p,hp=>by
  obtain⟨a,b,_,c⟩:=HN h;rcases yc.1 hp with rfl|hp
  ·exact⟨a,b⟩
  ·exact Pu c p hp
theorem Xr(y:Bf)(p:AW)(l:List AW):Tv (some y) (p::l)=if Eu p.2 y<0 then 11 else Tv (some p.2) l:=by rw[Tv]
end Go.Sp
namespace Go.Pe
open Sp
open Go.Det
open Go.Sp (AF Bs Bq AW Ey Bf B7)
theorem LF{m:List (Bf×Bool)}{seen:List Bf}(h:I6 m (fun x=>x∈seen))(k:Bf):(EB .str .bool k m).getD false=Sp.has seen k:=by
 unfold Sp.has;by_cases e:k∈seen
 ·rw[w4 e];exact(h k).2 e
 ·rw[w8 e];cases c:(EB .str .bool k m).getD false with
  |false=>rfl
  |true=>exact wh ((h k).1 c) e
theorem RD:I6 [] (fun x=>x∈([]:List Bf)):=I6.nil.congr fun _=>⟨fun h=>h.elim,fun h=>by cases h⟩
theorem Rt{m:List (Bf×Bool)}{seen:List Bf}(h:I6 m (fun x=>x∈seen))(k:Bf):I6 (H4 .str .bool k true m) (fun x=>x∈k::seen):=(h.add k).congr fun _=>yc.symm
theorem lU[Srt]:Cv AgA:=Aa T163.ok<|Aa T96.ok<|Aa T73.ok<|Aa T57.ok<|Aa T91.ok AB
theorem T204.ok[Srt]:Af AY 204 VJ:=by
 refine BA lU<|fun(i:Bf×Int×Int) f=>?_;obtain⟨a,lo,h⟩:=i;have f:(decide (a.length<=1000000)&&Hi lo&&Hi h)=true:=f;rw[zm,zm,w5]at f;obtain⟨⟨hl,h1⟩,h2⟩:=f;have g:∀e ob,e=BO a lo h->Ac VJ (a,lo,h) (.dat i64 e) ob:=fun e ob x=>z7 rfl rfl x
 have L:=Hw (n:=lo) (Ut h1) af af;have H:=Hw (n:=h) (Ut h2) af af;refine zx (T204.Aj a lo h)<|zc (w4 hl)<|zh (fun c=>zg<|g _ _ ?_)<|fun c=>?_
 ·have c:Ap a≠0:=by simpa using c
  exact(Wa c).symm
 ·have c:Ap a=0:=by simpa using c
  obtain⟨o1,j⟩:=Ic c;have A:=W8 c;refine zc j (zc rfl (zc (Ab o1<|L.CA af)<|zh (fun d=>zc rfl (zg<|g _ _ ?_))<|fun d=>zc rfl (zc (Ab o1<|H.CA af)<|zc rfl (zg<|g _ _ ?_))))
  ·rw[Um c,wd<|.inl<|(A.Uo L).1<|w6 d];rfl
  ·have d:=w7 d;rw[Um c];by_cases e:Dh (Cw a) ((h,BI h),(1,BI 1))>0
   ·rw[wd<|.inr<|(A.NU H).1 e];exact wi (fun b=>Cb b 3)<|w4 e
   ·rw[wc<|not_or.2 ⟨fun x=>d<|(A.Uo L).2 x,fun x=>e<|(A.NU H).2 x⟩];exact wi (fun b=>Cb b 3)<|w8 e
theorem oZ[Srt]:Cv Abl:=Aa T166.okU<|Aa T60.ok<|Aa T91.ok<|Aa T163.ok<|Aa T96.ok<|Aa T106.ok AB
namespace T207
theorem loop[Srt]{Q:PV->Ob->Prop}(l:List AW)(j:l.length<=1000000)(f:∀p∈l,p.2.length<=1000000):∀(r:List AW) (i:Nat) (m:List (Bf×Bool)) (seen:List Bf),l.drop i=r->i<=l.length->I6 m (fun x=>x∈seen)->(∀ob,Q (.dat i64<|dT seen r) ob)->Ends Abl (L1 l (l.length:Int) (i:Int) m) Q
 |[],i,m,seen,h,g,b,a=>by
  have:=drop_nil h g;exact zk (Ak ..) (zl (w8 ae)<|zg<|a _)
 |p::r,i,m,seen,h,g,b,a=>by
  obtain⟨n,o,k⟩:=drop_cons (d:=(([],[]):AW)) h;have s:=f p (zp<|by rw[h];exact zn ..);have q:=wn (i:=i) ae;rw[vW]at a;refine zk (Ak ..) ?_;conv=>zeta
  rw[zj,o,q,LF b];refine zc (w4 ae) (zc (ad ae ae)<|zc rfl (zc rfl (zc rfl (zc (w4 s)<|zc rfl (zh (fun c=>zg ?_)<|fun c=>?_)))))
  ·have c:Sp.wE seen p≠0:=by
    have c:(Sp.wE seen p !=0)=true:=c;simpa using c
   rw[wd c]at a;exact a _
  ·have c:Sp.wE seen p=0:=by
    have c:(Sp.wE seen p !=0)=false:=c;simpa using c
   rw[wc<|by rw[c];decide]at a;have e:Ap p.2=0:=by
    unfold Sp.wE at c;rw[Br,Br,Br]at c;exact c.2.2.1
   have A:=W8 e;refine zc (Ic e).2<|zc A.Ds<|zh (fun d=>zg ?_)<|fun d=>?_
   ·rw[wd<|A.Oy.1.1<|w6 d]at a;exact a _
   ·rw[wc fun x=>w7 d<|A.Oy.1.2 x]at a;exact loop l j f r (i+1) _ _ k n (Rt b p.1) a
theorem ok[Srt]:Af AY 207 AeS:=by
 refine BA oZ<|fun(l:List AW) a=>?_;have a:HB l 40 20=true:=a;have b:∀e ob,e=OQ l->Ac AeS l (.dat i64 e) ob:=fun e ob x=>z7 rfl rfl x
 refine zx (Aj l)<|zh (fun c=>zg<|b _ _ ?_)<|fun c=>?_
 ·have c:=w6 c;unfold OQ;rw[wd ae]
 ·have c:=w7 c;have e:OQ l=dT [] l:=by
   unfold OQ;rw[wc ae]
  exact loop l ae (fun p hp=>by have:=(Px a p hp).2;omega) l 0 [] [] rfl (zy _) RD (fun ob=>b _ _ e.symm)
end T207
theorem wK[Srt]:Cv Aat:=Aa T166.okU<|Aa T60.ok<|Aa T91.ok<|Aa T204.ok<|Aa T206.ok<|Aa T96.ok<|Aa T73.ok<|Aa T207.ok AB
namespace T167
theorem loop[Srt]{Q:PV->Ob->Prop}(g c nx:Bf)(t w:List AW)(o:t.length<=1000)(b:∀p∈t,Ap p.1=0/\Ap p.2=0)(f:HB w 40 20=true):∀(r:List AW) (i:Nat),t.drop i=r->1<=i->i<=t.length->(∀ob,Q (.dat i64<|if Tv (some (t.getD (i-1) ([],[])).2) r≠0 then Tv (some (t.getD (i-1) ([],[])).2) r else OQ w) ob)->Ends Aat (L1 (i:Int) g c nx t w) Q
 |[],i,h,n,l,a=>by
  have:=drop_nil h l;exact zk (Ak ..) (zl (w8 ae)<|zc f<|zg<|a _)
 |p::r,i,h,n,l,a=>by
  obtain⟨v,m,u⟩:=drop_cons (d:=(([],[]):AW)) h;have s:=b p (zp (by rw[h];exact zn ..));have j:=b (t.getD (i-1) ([],[])) (Fb ae);have x:=wn (i:=i) ae;have q:zd .i64 ((i:Int)-1)=((i-1:Nat):Int):=by rw[wr _ ae ae];omega
  rw[Xr]at a;refine zk (Ak ..) ?_;conv=>zeta
  rw[q,zj,zj,m,x];have o1:=Ic s.2;have e:=Ic j.2;have k:=Z8 s.2 j.2;refine zc (w4 ae) (zc (ad ae ae) (zc (ad ae ae)<|zc o1.2<|zc e.2<|zc (Ab o1.1 e.1)<|zh (fun d=>zg ?_)<|fun d=>?_))
  ·have d:Dh (frS p.2) (frS (t.getD (i-1) ([],[])).2)<0:=w6 d;rw[k]at d;rw[wd d,wd af]at a;exact a _
  ·have d:¬Dh (frS p.2) (frS (t.getD (i-1) ([],[])).2)<0:=w7 d;rw[k]at d;rw[wc d]at a;exact loop g c nx t w o b f r (i+1) u ae v (by rw[Nat.add_sub_cancel,m];exact a)
theorem ok[Srt]:Af AY 167 cLv:=by
 refine BA wK<|fun(l:Bq) hi=>?_;have a:=U9 hi;have b:∀e ob,e=Ke l->Ac cLv l (.dat i64 e) ob:=fun e ob x=>z7 rfl rfl x
 have hp:GY 1000000 l.2.2.2.1=true:=by
  unfold GY;rw[yf];intro p hp;have:=a.tab p hp;exact ad ae ae
 have a1:=a.head;have a2:=a.next;have a3:=a.tl;have g:HB l.2.2.2.2 40 20=true:=by
  unfold HB;rw[yf];intro p hp;have:=a.wts p hp;exact Ab (w4 this.1)<|w4 this.2
 refine zx (Aj l) (zc rfl (zc rfl (zc (Ab (Ab (w4 ae) rfl) rfl)<|zc (Ab (Ab (w4 ae) rfl) rfl)<|zc (Ab (w4 ae) hp)<|zc rfl (zh (fun c=>zg<|b _ _ ?_)<|fun c=>?_))))
 ·have c:(Mr l !=0)=true:=c;have c:Mr l≠0:=by simpa using c
  unfold Ke;rw[wd c];rfl
 ·have c:(Mr l !=0)=false:=c;have c:Mr l=0:=by simpa using c
  have ct:BL l.2.2.2.1=0:=by
   unfold Mr at c;rw[Br,Br,Br,Br]at c;exact c.2.2.2.1
  obtain⟨d,_,i⟩:=Er ct;have f:=Pu i;obtain⟨p,r,hr⟩:∃p r,l.2.2.2.1=p::r:=by
   cases e:l.2.2.2.1 with
   |nil=>exact wh e d
   |cons p r=>exact⟨p,r,rfl⟩
  have h:l.2.2.2.1.getD (1-1) ([],[])=p:=by rw[hr];rfl
  have up:Tv none l.2.2.2.1=Tv (some p.2) r:=by rw[hr,Tv]
  refine loop _ _ _ _ _ ae f g r 1 (by rw[hr];rfl) ae (by rw[hr,zr];omega)<|fun ob=>b _ _ ?_;rw[h, <-up];exact(wc (c:=Mr l≠0)<|by rw[c];decide).symm
end T167
theorem vY[Srt]:Cv AbB:=Aa T166.okU<|Aa T60.ok<|Aa T91.ok<|Aa T204.ok AB
namespace T164
theorem loop[Srt]{Q:PV->Ob->Prop}(l:List Ey)(f:l.length<=1000000):∀(r:List Ey) (i:Nat),l.drop i=r->i<=l.length->(∀ob,Q (.dat i64<|jQ r) ob)->Ends AbB (L1 l (l.length:Int) (i:Int)) Q
 |[],i,h,j,a=>by
  have:=drop_nil h j;exact zk (Ak ..) (zl (w8 ae)<|zg<|a _)
 |o::r,i,h,j,a=>by
  obtain⟨b,k,g⟩:=drop_cons (d:=(([],0):Ey)) h;have m:=wn (i:=i) ae;rw[jT]at a;refine zk (Ak ..) ?_;conv=>zeta
  rw[zj,k,m];refine zc (w4 ae) (zc (ad ae ae)<|zc rfl (zc rfl (zh (fun d=>zc rfl (zc rfl ?_))<|fun d=>zc rfl (zc rfl ?_))))
  ·have e:Sp.oE o=zw [Cb (!zo o.1) 8,Cb true 3]:=by
    unfold Sp.oE;rw[w4<|.inl<|w6 d]
   rw[e]at a;refine zh (fun c=>zg ?_)<|fun c=>loop l f r (i+1) g b ?_
   ·rw[wd<|by simpa using c]at a;exact a _
   ·rw[wc<|by simpa using c]at a;exact a
  ·have e:Sp.oE o=zw [Cb (!zo o.1) 8,Cb (decide (o.2>10)) 3]:=by
    unfold Sp.oE;have d:=w7 d;have:decide (o.2<0\/10<o.2)=decide (o.2>10):=by
     apply decide_eq_decide.2;omega
    rw[this]
   rw[e]at a;refine zh (fun c=>zg ?_)<|fun c=>loop l f r (i+1) g b ?_
   ·rw[wd<|by simpa using c]at a;exact a _
   ·rw[wc<|by simpa using c]at a;exact a
theorem ok[Srt]:Af AY 164 fC:=by
 refine BA vY<|fun(s:Bs) hi=>?_;obtain⟨a1,a2,a3,a4,a5⟩:=O1 hi;have d:∀e ob,e=LC s->Ac fC s (.dat i64 e) ob:=fun e ob x=>z7 rfl rfl x
 have b:∀ {a:Bf} {lo h:Int},a.length<=20->Hi lo=true->Hi h=true->(decide (a.length<=1000000)&&Hi lo&&Hi h)=true:=fun k x y=>Ab (Ab (w4 ae) x) y
 have f:Ua s=zw [BO s.1 (-10000) 10000,BO s.2.1 (-10000) 10000,BO s.2.2.1 0 10000,BO s.2.2.2.1 0 10000,Cb (decide ((s.2.2.2.2.length:Int)>16)) 5]:=by
  unfold Ua;have:decide (16<s.2.2.2.2.length)=decide ((s.2.2.2.2.length:Int)>16):=by
   apply decide_eq_decide.2;omega
  rw[this]
 refine zx (Aj s)<|zc (b a1 rfl rfl)<|zc (b a2 rfl rfl)<|zc (b a3 rfl rfl)<|zc (b a4 rfl rfl)<|zc rfl (zc rfl (zh (fun c=>zg<|d _ _ ?_)<|fun c=>?_))
 ·rw[<-f]at c ⊢;unfold LC;rw[wd<|by simpa using c]
 ·rw[<-f]at c;have e:LC s=jQ s.2.2.2.2:=by
   unfold LC;rw[wc<|by simpa using c]
  exact loop _ ae _ 0 rfl (zy _) (fun ob=>d _ _ e.symm)
end T164
end Go.Pe
namespace Go.Sp
theorem Lb{α:Type}(l:List α)(m:Nat):BJ (l.length:Int) (m:Int)=if l=[]then 12 else if m<l.length then 5 else 0:=by
 unfold BJ;cases l with
 |nil=>rfl
 |cons x l=>
  rw[wc (by rw[zr];omega),wc<|List.cons_ne_nil x l];by_cases h:m<(x::l).length
  ·rw[wd h,wd ae]
  ·rw[wc h,wc ae]
theorem fM(c:AF):N6 c=if BJ (c.1.length:Int) 36≠0 then BJ (c.1.length:Int) 36 else if Jn c.1≠0 then Jn c.1 else US c:=by
 have e:=Lb c.1 36;have e:BJ (c.1.length:Int) 36=if c.1=[]then 12 else if 36<c.1.length then 5 else 0:=e
 rw[e];unfold N6;by_cases h:c.1=[]
 ·rw[wd h,wd h,wd af]
 ·rw[wc h,wc h];by_cases k:36<c.1.length
  ·rw[wd k,wd k,wd af]
  ·rw[wc k,wc k];exact(wc<|fun x=>x rfl).symm
theorem Zt(c:AF):US c=if BJ (c.2.1.length:Int) 8≠0 then BJ (c.2.1.length:Int) 8 else if F9 (c.1.length:Int) [] c.2.1≠0 then F9 (c.1.length:Int) [] c.2.1 else OE c:=by
 have e:=Lb c.2.1 8;have e:BJ (c.2.1.length:Int) 8=if c.2.1=[]then 12 else if 8<c.2.1.length then 5 else 0:=e
 rw[e];unfold US;by_cases h:c.2.1=[]
 ·rw[wd h,wd h,wd af]
 ·rw[wc h,wc h];by_cases k:8<c.2.1.length
  ·rw[wd k,wd k,wd af]
  ·rw[wc k,wc k];exact(wc<|fun x=>x rfl).symm
theorem Ys(c:AF):OE c=if BJ (c.2.2.length:Int) 8≠0 then BJ (c.2.2.length:Int) 8 else MQ [] c.2.2:=by
 have e:=Lb c.2.2 8;have e:BJ (c.2.2.length:Int) 8=if c.2.2=[]then 12 else if 8<c.2.2.length then 5 else 0:=e
 rw[e];unfold OE;by_cases h:c.2.2=[]
 ·rw[wd h,wd h,wd af]
 ·rw[wc h,wc h];by_cases k:8<c.2.2.length
  ·rw[wd k,wd k,wd af]
  ·rw[wc k,wc k];exact(wc<|fun x=>x rfl).symm
theorem Th(s:Bs)(l:List Bs):Jn (s::l)=if LC s≠0 then LC s else Jn l:=by rw[Jn]
def tE(n:Int)(seen:List Bf)(t:B7)(b:Bool):Int:=first [Cb (!isName t.1) 8,Cb (has seen t.1) 9,Cb ((t.2.length:Int) !=n) 2,Cb b 3]
theorem eU(n:Int)(seen:List Bf)(t:B7)(l:List B7):F9 n seen (t::l)=if tE n seen t (Ew t.2)≠0 then tE n seen t (Ew t.2)else F9 n (t.1::seen) l:=by
 rw[F9];unfold tE;rw[Bt,Bt,Bt,Bt,E8,E8,E8,E8];cases isName t.1
 ·rfl
 ·cases has seen t.1
  ·by_cases h:(t.2.length:Int)=n
   ·rw[show((t.2.length:Int) !=n)=false by simp[h]];cases Ew t.2
    ·rw[wc af,wc af,wc<|fun x=>x h];rfl
    ·rw[wc af,wc af,wc<|fun x=>x h];rfl
   ·rw[show((t.2.length:Int) !=n)=true by simp[h]];rw[wc af,wc af,wd h];rfl
  ·rfl
theorem gE(seen:List Bf)(l:Bq)(r:List Bq):MQ seen (l::r)=if first [Ke l,Cb (has seen l.1) 9]≠0 then first [Ke l,Cb (has seen l.1) 9]else MQ (l.1::seen) r:=by
 rw[MQ,Go.Pe.Km,E8];cases has seen l.1<;>by_cases h:Ke l=0<;>simp[h]
end Go.Sp
namespace Go.Pe
open Sp
open Go.Det
open Go.Sp (AF Bs Bq AW Ey Bf B7)
theorem tU[Srt]:Cv LP:=Aa T90.ok<|Aa T164.ok<|Aa T166.okU<|Aa T60.ok<|Aa T91.ok<|Aa T167.ok AB
namespace T115
theorem W4[Srt](l:List Bq)(j:l.length<=1000000)(e:∀x∈l,Sp.Bk x=true):∀(r:List Bq) (i:Nat) (m:List (Bf×Bool)) (seen:List Bf),l.drop i=r->i<=l.length->I6 m (fun x=>x∈seen)->(∀ob,Q (.dat i64<|MQ seen r) ob)->Ends LP (L4 l (l.length:Int) (i:Int) m) Q
 |[],i,m,seen,h,f,b,a=>by
  have:=drop_nil h f;exact zk (B1 ..) (zl (w8 ae)<|zg<|a _)
 |p::r,i,m,seen,h,f,b,a=>by
  obtain⟨g,n,k⟩:=drop_cons (d:=(([],[],[],[],[]):Bq)) h;have s:=e p (zp<|by rw[h];exact zn ..);have o:=wn (i:=i) ae;rw[gE]at a;refine zk (B1 ..) ?_;conv=>zeta
  rw[zj,n,o,LF b];refine zc (w4 ae) (zc (ad ae ae)<|zc s<|zc rfl (zc rfl (zh (fun c=>zg ?_)<|fun c=>?_)))
  ·have c:(zw [Ke p,Cb (Sp.has seen p.1) 9] !=0)=true:=c;rw[wd<|by simpa using c]at a;exact a _
  ·have c:(zw [Ke p,Cb (Sp.has seen p.1) 9] !=0)=false:=c;rw[wc<|by simpa using c]at a;exact W4 l j e r (i+1) _ _ k g (Rt b p.1) a
theorem Jy[Srt]{o:List B7}{l k:Int}{o1:List (Bf×Bool)}{z:List Bs}{g:List B7}{p:List Bq}(t:B7)(v:t.2.length<=1000000)(m:List (Bf×Bool))(seen:List Bf)(s:I6 m (fun x=>x∈seen))(S:List Bs)(q:List B7)(V:List Bq):∀(r:List Int) (j:Nat),t.2.drop j=r->j<=t.2.length->
  (∀ob,Sp.tE (S.length:Int) seen t (Ew r)≠0->Q (.dat i64<|Sp.tE (S.length:Int) seen t<|Ew r) ob)->(Sp.tE (S.length:Int) seen t (Ew r)=0->Ends LP (L2 o l (zd .i64<|k+1) (H4 .str .bool t.1 true m) S q V) Q)->
  Ends LP (L3 o l k o1 z g p t.2 (t.2.length:Int) (j:Int) t.1 t.2 m S q V) Q
 |[],j,h,u,a,b=>by
  have:=drop_nil h u;refine zk (Be ..) (zl (w8 ae) ?_);rw[LF s];refine zc rfl (zc rfl (zc rfl (zc rfl (zc rfl (zc rfl (zh (fun c=>zg ?_)<|fun c=>?_))))))
  ·have c:(Sp.tE (S.length:Int) seen t (Ew []) !=0)=true:=c;exact a _ (by simpa using c)
  ·have c:(Sp.tE (S.length:Int) seen t (Ew []) !=0)=false:=c;exact b (by simpa using c)
 |n::r,j,h,u,a,b=>by
  obtain⟨A,B,y⟩:=drop_cons (d:=(0:Int)) h;have C:=wn (i:=j) ae;have w:decide ((j:Int)>=0)=true:=w4 ae;have f:Ew (n::r)=((decide (n<1)||decide (10000<n))||Ew r):=by unfold Ew;rw[List.any_cons]
  refine zk (Be ..) ?_;conv=>zeta
  rw[zj,B,C,w,LF s];refine zc (w4 ae) (zc (Ab (by first|rfl|exact w4 ae)<|w4 ae)<|zh (fun d=>?_)<|fun d=>zh (fun e=>?_)<|fun e=>?_)
  ·rw[d,yi,yi]at f;rw[f]at a b;refine zc rfl (zc rfl (zc rfl (zc rfl (zc rfl (zc rfl (zh (fun c=>zg ?_)<|fun c=>?_))))))
   ·have c:(Sp.tE (S.length:Int) seen t true !=0)=true:=c;exact a _ (by simpa using c)
   ·have c:(Sp.tE (S.length:Int) seen t true !=0)=false:=c;exact b (by simpa using c)
  ·have e:decide (10000<n)=true:=e;rw[e,Bool.or_true,yi]at f;rw[f]at a b;refine zc rfl (zc rfl (zc rfl (zc rfl (zc rfl (zc rfl (zh (fun c=>zg ?_)<|fun c=>?_))))))
   ·have c:(Sp.tE (S.length:Int) seen t true !=0)=true:=c;exact a _ (by simpa using c)
   ·have c:(Sp.tE (S.length:Int) seen t true !=0)=false:=c;exact b (by simpa using c)
  ·have e:decide (10000<n)=false:=e;rw[d,e,Bool.false_or,Bool.false_or]at f;rw[f]at a b;exact Jy t v m seen s S q V r (j+1) y A a b
theorem Dk[Srt](c:AF)(b:Ki c=true):∀(r:List B7) (i:Nat) (m:List (Bf×Bool)) (seen:List Bf),c.2.1.drop i=r->i<=c.2.1.length->I6 m (fun x=>x∈seen)->
  (∀ob,Q (.dat i64<|if F9 (c.1.length:Int) seen r≠0 then F9 (c.1.length:Int) seen r else OE c) ob)->Ends LP (L2 c.2.1 (c.2.1.length:Int) (i:Int) m c.1 c.2.1 c.2.2) Q
 |[],i,m,seen,h,f,e,a=>by
  have:=drop_nil h f;have a:∀ob,Q (.dat i64<|OE c) ob:=fun ob=>by
   have:=a ob;rwa [show F9 (c.1.length:Int) seen []=0 from rfl,wc<|fun x=>x rfl]at this
  rw[Ys]at a;refine zk (Az ..) (zl (w8 ae)<|zc rfl (zh (fun d=>zg ?_)<|fun d=>?_))
  ·rw[wd<|by simpa using d]at a;exact a _
  ·rw[wc<|by simpa using d]at a;have s:=NH b;exact W4 c.2.2 (by have:=s.2.2.1;omega) s.2.2.2.2.2 c.2.2 0 [] [] rfl (zy _) RD a
 |t::r,i,m,seen,h,f,e,a=>by
  obtain⟨j,l,k⟩:=drop_cons (d:=(([],[]):B7)) h;have s:=NH b;have st:=s.2.2.2.2.1 t (zp<|by rw[h];exact zn ..);have st:(decide (t.1.length<=40)&&decide (t.2.length<=40))=true:=st;rw[zm,w5,w5]at st;have o:=s.2.1;have n:=wn (i:=i) ae;rw[eU]at a;refine zk (Az ..) ?_;conv=>zeta
  rw[zj,l];refine zc (w4 ae) (zc (ad ae ae) ?_);refine Jy t ae m seen e c.1 c.2.1 c.2.2 t.2 0 rfl (zy _) (fun ob d=>?_) (fun d=>?_)
  ·rw[wd d,wd d]at a;exact a _
  ·have g:¬Sp.tE (c.1.length:Int) seen t (Ew t.2)≠0:=fun x=>x d
   rw[wc g]at a;rw[n];exact Dk c b r (i+1) _ _ k j (Rt e t.1) a
theorem Dx[Srt](c:AF)(b:Ki c=true):∀(r:List Bs) (i:Nat),c.1.drop i=r->i<=c.1.length->
  (∀ob,Q (.dat i64<|if Jn r≠0 then Jn r else US c) ob)->Ends LP (L1 c.1 (c.1.length:Int) (i:Int) c.1 c.2.1 c.2.2) Q
 |[],i,h,e,a=>by
  have:=drop_nil h e;have a:∀ob,Q (.dat i64<|US c) ob:=fun ob=>by
   have:=a ob;rwa [show Jn []=0 from rfl,wc<|fun x=>x rfl]at this
  rw[Zt]at a;refine zk (Ak ..) (zl (w8 ae)<|zc rfl (zh (fun d=>zg ?_)<|fun d=>?_))
  ·rw[wd<|by simpa using d]at a;exact a _
  ·rw[wc<|by simpa using d]at a;exact Dk c b c.2.1 0 [] [] rfl (zy _) RD a
 |p::r,i,h,e,a=>by
  obtain⟨g,k,j⟩:=drop_cons (d:=(([],[],[],[],[]):Bs)) h;have s:=NH b;have sp:=s.2.2.2.1 p (zp (by rw[h];exact zn ..));have m:=s.1;have l:=wn (i:=i) ae;rw[Th]at a;refine zk (Ak ..) ?_;conv=>zeta
  rw[zj,k,l];refine zc (w4 ae) (zc (ad ae ae)<|zc sp<|zh (fun d=>zg ?_)<|fun d=>?_)
  ·have d:(LC p !=0)=true:=d;have d:LC p≠0:=by simpa using d
   rw[wd d,wd d]at a;exact a _
  ·have d:(LC p !=0)=false:=d;have f:¬LC p≠0:=by simpa using d
   rw[wc f]at a;exact Dx c b r (i+1) j g a
theorem ok[Srt]:Af AY 115 cCo:=by
 refine BA tU<|fun(c:AF) a=>?_;have a:Ki c=true:=a;have b:∀e ob,e=N6 c->Ac cCo c (.dat i64 e) ob:=fun e ob x=>z7 rfl rfl x
 have e:=fM c;refine zx (Aj c)<|zc rfl (zh (fun d=>zg<|b _ _ ?_)<|fun d=>?_)
 ·rw[wd<|by simpa using d]at e;exact e.symm
 ·rw[wc<|by simpa using d]at e;exact Dx c a c.1 0 rfl (zy _) (fun ob=>b _ _ e.symm)
end T115
open Go.Sp (AF Bs Bq AW Ey Bf)
theorem T52.ok[Srt]:Af AY 52 Acq:=by
 refine He (X:=GK) rfl (fun g sp h=>by cases h) (d:=9) ag ag ag (fun(i:AF×Int) _=>?_) (Bd ag);exact zx (T52.Aj i.1 i.2)<|zg<|z7 rfl rfl rfl
theorem T53.ok[Srt]:Af AY 53 Z0:=by
 refine He (X:=GK) rfl (fun g sp h=>by cases h) (d:=9) ag ag ag (fun(i:AF×Int) _=>?_) (Bd ag);exact zx (T53.Aj i.1 i.2)<|zg<|z7 rfl rfl rfl
theorem G8{i:Int}{n:Nat}(h:0<=i/\i<(n:Int)):(decide ((0:Int)<=i)&&decide (i<(n:Int)))=true:=Ab (w4 h.1)<|w4 h.2
theorem Eb{s:Bf}(h:Ap s=0):DS s=true:=(Ea (C1 h).1).2.2.2.2.2.2.1
theorem kU[Srt]:Cv T2:=Aa T96.ok<|Aa T57.ok<|Aa T59.ok<|Aa T106.ok AB
namespace T95
theorem ok[Srt]:Af AY 95 cPl:=by
 refine BA kU<|fun(i:AF×Int×Int) hi=>?_;obtain⟨c,t,h⟩:=i;have P:=UO hi;have z:RS 1 Sp.zF 0:=IJ;have a1:=z.add P.hr.rise af af;have a2:=a1.add P.hr.wind af af;have a3:=a2.add P.hr.lay af af;have b:=(oU P).Ds;have g:0<=h/\h<((c.2.1.getD t.toNat ([],[])).2.length:Int):=by rw[P.tl];exact P.h0
 obtain⟨s,a⟩:∃s,s=BE c h:=⟨_,rfl⟩;have fin:∀f:Ad,f=B2 (B2 (B2 Sp.zF<|Cw s.1)<|Cw s.2.1) (Cw s.2.2.1)->Ends T2 (L2 t h c s 0 0 3 3 3 f.1.1 f.1.2 f.2.1 f.2.2 0 0 [s.1,s.2.1,s.2.2.1] 0 0) (Ac cPl (c,t,h)):=fun f d=>by
  have e:B2 (Sp.iF<|Hq c t h) f=oF c t h:=by rw[d,a];rfl
  refine zk (Az ..) (zl rfl (zc (by rw[a]at d;rw[<-d]at a3;exact(sX P.te).PA a3 af af)<|zc (by rw[<-e]at b;exact b)<|zh (fun s=>zc rfl (zg<|z7 rfl rfl ?_))<|fun s=>zg<|z7 rfl rfl ?_))
  ·have s:Q7 (B2 (Sp.iF<|Hq c t h) f)<0:=w6 s;rw[e]at s;show Sp.zF=TW c t h;unfold TW;rw[wd s]
  ·have s:¬Q7 (B2 (Sp.iF<|Hq c t h) f)<0:=w7 s;rw[e]at s;show B2 (Sp.iF<|Hq c t h) f=TW c t h;rw[e];unfold TW;rw[wc s]
 rw[<-a]at a1 a2 a3;have s2:∀f:Ad,f=B2 (B2 Sp.zF<|Cw s.1) (Cw s.2.1)->Ends T2 (L2 t h c s 0 0 3 3 2 f.1.1 f.1.2 f.2.1 f.2.2 0 0 [s.1,s.2.1,s.2.2.1] 0 0) (Ac cPl (c,t,h)):=fun f d=>by
  rw[<-d]at a2 fin;refine zk (Az ..) (zc rfl (zc rfl (zc rfl (zc (by rw[a];exact Eb P.st.lay)<|zc (a2.PA (by rw[a];exact P.hr.lay) af af) ?_))));exact fin (B2 f<|Cw s.2.2.1) rfl
 have s1:∀f:Ad,f=B2 Sp.zF (Cw s.1)->Ends T2 (L2 t h c s 0 0 3 3 1 f.1.1 f.1.2 f.2.1 f.2.2 0 0 [s.1,s.2.1,s.2.2.1] 0 0) (Ac cPl (c,t,h)):=fun f d=>by
  rw[<-d]at a1 s2;refine zk (Az ..) (zc rfl (zc rfl (zc rfl (zc (by rw[a];exact Eb P.st.wind)<|zc (a1.PA (by rw[a];exact P.hr.wind) af af) ?_))));exact s2 (B2 f<|Cw s.2.1) rfl
 refine zx (Aj c t h)<|zc (G8 P.h0)<|zk (Ak ..)<|zc (G8 P.t0)<|zc (G8 g)<|zc rfl (zc rfl ?_);show Ends T2 (L2 t h c (BE c h) 0 0 3 3 0 0 (BI 0) 1 (BI 1) 0 0 [(BE c h).1,(BE c h).2.1,(BE c h).2.2.1] 0 0) _;rw[<-a];refine zk (Az ..) (zc rfl (zc rfl (zc rfl (zc (by rw[a];exact Eb P.st.rise)<|zc (z.PA (by rw[a];exact P.hr.rise) af af) ?_))));exact s1 (B2 Sp.zF<|Cw s.1) rfl
end T95
theorem kB[Srt]:Cv rA:=Aa T95.ok<|Aa T96.ok<|Aa T73.ok<|Aa T59.ok<|Aa T64.ok<|Aa T65.ok<|Aa T97.ok AB
structure AtA(c:AF)(t h l:Int):Prop where
 P:AtP c t h
 L:AtL c l
 kp:Sp.okP c t h=true
 ko:Sp.okO c h l=true
 h0:Ao (CU c l).2.1+Ao (BE c h).2.2.2.1≠0
 n0:Ao (CU c l).2.2.1+Ao (BE c h).2.2.2.1≠0
theorem Qj{c:AF}{t h l:Int}(k:XO c t h l=true):AtA c t h l:=by
 obtain⟨kp,ko⟩:=YD k;have P:=UO kp;obtain⟨L,_,_,_⟩:=No ko;have a:=P.st.rollB.1;exact⟨P,L,kp,ko,Rat.ne_of_gt<|Pm L.lr.hp a,Rat.ne_of_gt<|Pm L.lr.np a⟩
namespace T99
theorem ok[Srt]:Af AY 99 cEf:=by
 refine BA kB<|fun(i:AF×Int×Int×Int) hi=>?_;obtain⟨c,t,h,l⟩:=i;obtain⟨P,L,kp,ko,h0,n0⟩:=Qj hi;have p:=mI P;have r:=P.hr.roll;have reach:=L.lr.head.add r af af;have a:=L.lr.next.add r af af;have d:=p.sub reach af af;have m:=d.mul L.lr.next af af;have q:=m.div a af af n0;have b:=p.mul L.lr.head af af;refine zx (Aj c t h l) (zc (G8 L.l0)<|zc (G8 P.h0)<|zc (Eb P.st.roll)<|zc kp<|zc (Eb L.lv.head)<|zc (Eb L.lv.next)<|zc (L.lr.head.PA r af af) ?_);refine zk (Ak ..) (zc (Ab (p.CA af)<|reach.CA af)<|zh (fun s=>?_)<|fun s=>?_)
 ·have s:Dh (TW c t h) (B2 (IX c l)<|K0 c h)<=0:=w6 s;refine zc (p.PA L.lr.head af af) (zc (b.ok3 reach af af h0)<|zg<|z7 rfl rfl ?_);show KJ (FV (TW c t h)<|IX c l) (B2 (IX c l)<|K0 c h)=aQ c t h l;unfold aQ;rw[wd s]
 ·have s:¬Dh (TW c t h) (B2 (IX c l)<|K0 c h)<=0:=w7 s;refine zk (Az ..) (zc (p.PA reach af af)<|zc (d.PA L.lr.next af af)<|zc (L.lr.next.PA r af af)<|zc (m.ok3 a af af n0)<|zc (L.lr.head.PA q af af)<|zg<|z7 rfl rfl ?_);show B2 (IX c l) (KJ (FV (Fu (TW c t h)<|B2 (IX c l)<|K0 c h)<|VW c l)<|B2 (VW c l)<|K0 c h)=aQ c t h l;unfold aQ;rw[wc s]
end T99
theorem sN[Srt]:Cv xK:=Aa T115.ok<|Aa T91.ok AB
namespace T51
theorem loop[Srt]{Q:PV->Ob->Prop}{k:List Bs}{m:List B7}{q:List Bq}(c:AF)(l:List (Int×Int))(o:l.length<=1000)(f:∀ob,Q (.dat i64<|Cb (WG l) 10) ob):∀(r:List (Int×Int)) (i:Nat),l.drop i=r->i<=l.length->WG l=WG r->Ends xK (L1 c l l (l.length:Int) (i:Int) k m q) Q
 |[],i,h,j,e=>by
  have:=drop_nil h j;rw[e]at f;exact zk (Ak ..) (zl (w8 ae)<|zc rfl (zg<|f _))
 |p::r,i,h,j,e=>by
  obtain⟨t,u,s⟩:=drop_cons (d:=((0,0):Int×Int)) h;have v:=wn (i:=i) ae;have g:WG (p::r)=(decide (p.1<0)||decide (p.2<=p.1)||WG r):=List.any_cons;have n:decide ((i:Int)>=0)=true:=w4 ae;refine zk (Ak ..) ?_;conv=>zeta
  rw[zj,u,v,n];refine zc (w4 ae) (zc (Ab rfl (w4 ae))<|zh (fun a=>zc rfl (zg ?_))<|fun a=>zh (fun b=>zc rfl (zg ?_))<|fun b=>?_)
  ·rw[e,g,show decide (p.1<0)=true from a]at f;exact f _
  ·rw[e,g,show decide (p.2<=p.1)=true from b,Bool.or_true]at f;exact f _
  ·exact loop c l o f r (i+1) s t (by rw[e,g,show decide (p.1<0)=false from a,show decide (p.2<=p.1)=false from b];rfl)
theorem ok[Srt]:Af AY 51 UA:=by
 refine BA sN<|fun(i:AF×List (Int×Int)) a=>?_;obtain⟨c,l⟩:=i;have a:(Ki c&&decide (l.length<=1000))=true:=a;rw[zm,w5]at a;have b:∀v ob,v=U8 c l->Ac UA (c,l) (.dat i64 v) ob:=fun v ob e=>z7 rfl rfl e
 refine zx (Aj c l)<|zc a.1<|zh (fun k=>zg<|b _ _ ?_)<|fun k=>?_
 ·have k:N6 c≠0:=by simpa using k
  show N6 c=U8 c l;unfold U8 Jq;rw[wd k]
 ·have k:¬N6 c≠0:=by simpa using k
  refine loop c l a.2 (fun ob=>b _ _ ?_) l 0 rfl (zy _) rfl;unfold U8 Jq Cb;rw[wc k];cases WG l<;>rfl
end T51
open Go.Sp (Ad)
theorem oA:Cv nU:=Aa T59.ok<|Aa T57.ok<|Aa T97.ok AB
theorem Aag:∀g w,nU.ws g=some w->Gi AY g w:=cC (l:=[(156,Uq)]) fun x a=>by
 cases List.mem_singleton.1 a;exact fN
theorem T92.ok:Af AY 92 Ag2:=by
 refine He (X:=nU) rfl oA (d:=9) ag ag ag (fun(l:List Ad) hi=>?_) (Bd ag) Aag;obtain⟨l0,l1,n⟩:=AaU hi;have n0:0<l.length:=List.length_pos_iff.2 l0;have f:∀x∈l,RS 1500 x (La x):=fun x e=>by
  obtain⟨X,h⟩:=n x e;rw[<-h.val];exact h
 have ok:Sa l=true:=Aa9 ⟨l0,l1,fun x e=>⟨_,(f x e).mono af⟩⟩;have p:=P6 n0 fun x e=>⟨_,(f x e).mono af⟩
 have sl:(Ex l).length=l.length:=p.length_eq;have j:List.take (zt 0 l.length) (Ex<|[]++l)=Ex l:=List.take_of_length_le (by rw[List.nil_append,sl];exact Nat.le_of_eq (Nat.zero_add _).symm);have i:zd .i64 (Int.tdiv (zd .i64<|((Ex l).length:Int)-1) 2)=(((l.length-1)/2:Nat):Int):=by
  rw[sl,wr ((l.length:Int)-1) ae ae,show(l.length:Int)-1=((l.length-1:Nat):Int)by omega];show zd .i64 (((l.length-1)/2:Nat):Int)=_;exact wr _ ae ae
 have g:zd .i64 (Int.tdiv ((Ex l).length:Int) 2)=((l.length/2:Nat):Int):=by
  rw[sl];show zd .i64 ((l.length/2:Nat):Int)=_;exact wr _ ae ae
 have m:Sp.mX (Ex l)=(Ex l).getD ((l.length-1)/2) Sp.zeF:=by unfold Sp.mX;rw[i];rfl
 have o:Sp.mY (Ex l)=(Ex l).getD (l.length/2) Sp.zeF:=by unfold Sp.mY;rw[g];rfl
 have c:∀k,k<l.length->RS 1500 ((Ex l).getD k Sp.zeF) (La<|(Ex l).getD k Sp.zeF):=fun k q=>by
  rw[List.getD_eq_getElem?_getD,List.getElem?_eq_getElem ae,Option.getD_some];exact f _<|p.mem_iff.1<|List.getElem_mem _
 have a:=c ((l.length-1)/2) ae;have b:=c (l.length/2) ae;have t:RS 1 (Sp.iF 2) ((2:Int):Rat):=Hw af af af;have s:=a.add b af af;refine zx (T92.Aj l) (zc (w4 n0)<|zc (w4 ae)<|zc (Ab (Ab ok<|w4<|Nat.zero_add _) rfl) ?_);rw[j];refine zk (T92.Ak ..) ?_;conv=>zeta
 rw[i,g,m,o,sl];exact zc rfl (zc (G8 ae)<|zc rfl (zc (G8 ae)<|zc (a.PA b af af)<|zc rfl (zc (s.ok3 t af af<|by decide+kernel)<|zg<|z7 rfl rfl rfl)))
section
open List Int Prod
namespace T55
def T[Srt](c:AF)(t l:Int):Tr:=tree QK false 9 55<|Ag ([Ba,zz zu,zz zu]) (c,t,l)
def L1[Srt](c:AF)(t l n v9 p k:Int)(j:List Bs)(f:List B7)(g:List Bq)(m:Int)(e:List Int)(b:Int)(h:List Int)(o1 i:Int)(o:List Bs)(d:List B7)(a:List Bq):Tr:=re ((T c t l).L)<|Ax 22 [(0,PV.yl 6),(1,.ptr 3 0),(2,.ptr 4 0),(3,.ptr 5 0),(8,.dat i64 n),(9,.dat i64 v9)] [(6,Obj.lp 55 4 (AfW (AL.C QK) 55 4) (Acw (AL.C QK) 55 4) (nE (AL.C QK) 55 4) LpS.ready 21 [(7,.ptr (zt (zt 0 1) 1) 0)]),(5,.box [.dat i64 p]),(4,.box [.dat i64 k]),(3,.box [.dat (zf Bw) j,.dat (zf CY) f,.dat (zf Bk) g]),(2,.box [.dat i64 m,.dat (yg<|zz z6) e,.dat i64 b,.dat (yg<|zz z6) h]),(1,.box [.dat i64 o1,.nil,.dat i64 i,.nil]),(0,.box [.dat (zf Bw) o,.dat (zf CY) d,.dat (zf Bk) a])] 7
theorem Aj[Srt](c:AF)(t l:Int):T c t l=.ck true (L1 c t l ((↑(length<|fst c):Int)) 0 l t (fst c) (fst<|snd c) (snd<|snd c) 0 (BI 0) 1 (BI 1) 0 0 (fst c) (fst<|snd c)<|snd<|snd c):=by kernel_rfl
def L2[Srt](c:AF)(t l n v9 p k:Int)(j:List Bs)(f:List B7)(g:List Bq)(m:Int)(e:List Int)(b:Int)(h:List Int)(o1 i:Int)(o:List Bs)(d:List B7)(a:List Bq):Tr:=re ((stepT QK<|L1 c t l 0 0 0 0 [] [] [] 0 [] 0 [] 0 0 [] [] []).L.L.L)<|Ax 22 [(0,PV.yl 6),(1,.ptr 3 0),(2,.ptr 4 0),(3,.ptr 5 0),(8,.dat i64 n),(9,.dat i64 v9)] [(6,Obj.lp 55 4 (AfW (AL.C QK) 55 4) (Acw (AL.C QK) 55 4) (nE (AL.C QK) 55 4) LpS.ready 21 [(7,.ptr 2 0)]),(5,.box [.dat i64 p]),(4,.box [.dat i64 k]),(3,.box [.dat (zf Bw) j,.dat (zf CY) f,.dat (zf Bk) g]),(2,.box [.dat i64 m,.dat (yg<|zz z6) e,.dat i64 b,.dat (yg<|zz z6) h]),(1,.box [.dat i64 o1,.nil,.dat i64 i,.nil]),(0,.box [.dat (zf Bw) o,.dat (zf CY) d,.dat (zf Bk) a])] 7
theorem Az[Srt](c:AF)(t l p v9 n m:Int)(k:List Bs)(a:List B7)(b:List Bq)(o:Int)(e:List Int)(d:Int)(f:List Int)(o1 i:Int)(r:List Bs)(h:List B7)(g:List Bq):stepT QK (L2 c t l p v9 n m k a b o e d f o1 i r h g)=let j:=Sp.rtF (k,a,b) m v9 n;let b':=((o,e),d,f);let q:=yg<|zz z6;.di (v9<p) (.ck (XO (k,a,b) m v9 n)<|.ck (Sp.Ck b'&&Sp.Ck j)<|L2 c t l p (zd .i64<|v9+1) n m k a b (LG b' j) (Mm b' j) (Mw b' j) (LJ b' j) o1 i r h g) (.leaf (yd [.dat i64 o,.dat q e,.dat i64 d,.dat q f]) []):=by kernel_rfl
end T55
namespace T66
def T[Srt](a:Ad):Tr:=tree Af6 false 9 66<|Ag ([An]) a
theorem Aj[Srt](a:Ad):T a=let b':=((1,BI 1),2,BI 2);let b:=B2 a b';.ck true (.ck true<|.ck (Sp.Ck a&&Sp.Ck b')<|.ck (Sp.Ck b)<|.leaf (yd [.dat i64<|Sp.flS b,.dat (yg<|zz z6)<|Sp.flW b]) []):=by kernel_rfl
end T66
namespace T56
def T[Srt](a:Ad):Tr:=tree AgL false 9 56<|Ag ([An]) a
theorem Aj[Srt](a:Ad):T a=let b':=((10,BI 10),1,BI 1);let d:=yg<|zz z6;let c:=FV a b';let b:=(Sp.rnS c,Sp.rnW c);.ck true (.ck (Sp.Ck a&&Sp.Ck b')<|.ck (Sp.okT c)<|.ck true<|.ck (Js b (10,BI 10))<|.leaf (yd [.dat i64<|rR b (10,BI 10),.dat d<|vB b (10,BI 10),.dat i64<|uW b (10,BI 10),.dat d<|wC b (10,BI 10)]) []):=by kernel_rfl
end T56
namespace T50
def T[Srt](l:Rd×Rd×Rd×List (Rd×Rd)×List (Rd×Rd))(n d:Int):Tr:=tree YG false 9 50<|Ag ([zi ze<|zi ze<|zi ze<|zi (zf<|zi ze ze)<|zf<|zi ze ze,zz zu,zz zu]) (l,n,d)
def L1[Srt](v2 e:Int)(f c b:Rd)(a:List (Rd×Rd))(d:List (Rd×Rd)):Tr:=re ((T ([],([],([],([],[])))) 0 0).R.R.R.L.R.L.R)<|Ax 84 [(2,.dat i64 v2),(3,.ptr 0 0),(7,.dat i64 e)] [(0,.box [.dat ze f,.dat ze c,.dat ze b,.dat (zf<|zi ze ze) a,.dat (zf<|zi ze ze) d])] 1
theorem Aj[Srt](l:Rd×Rd×Rd×List (Rd×Rd)×List (Rd×Rd))(n d:Int):T l n d=let a:Tr:=.leaf (.bl false) [];let b':=snd<|snd<|snd l;let b:=decide (0<=d)&&decide (d<=1000);.di ((↑(length<|fst l):Int)>30) a (.di ((↑(length<|fst b'):Int)>n) a<|.di ((↑(length<|snd b'):Int)>n) a<|.ck b<|.ite (!Sp.Cm (fst<|snd l) d) a<|.ck b<|.ite (!Sp.Cm (fst<|snd<|snd l) d) a<|L1 d 0 (fst l) (fst<|snd l) (fst<|snd<|snd l) (fst b')<|snd b'):=by kernel_rfl
def L2[Srt](v2 e:Int)(f c b:Rd)(a:List (Rd×Rd))(d:List (Rd×Rd)):Tr:=re ((stepT YG<|L1 0 0 [] [] [] [] []).R)<|Ax 84 [(2,.dat i64 v2),(3,.ptr 0 0),(8,.dat i64 e)] [(0,.box [.dat ze f,.dat ze c,.dat ze b,.dat (zf<|zi ze ze) a,.dat (zf<|zi ze ze) d])] 1
theorem Ak[Srt](v2 e:Int)(g c b:Rd)(a:List (Rd×Rd))(d:List (Rd×Rd)):stepT YG (L1 v2 e g c b a d)=let f:=decide (e<(length a:Int));let b':=decide (0<=v2)&&decide (v2<=1000);let h:=getD a (toNat e) ([],[]);.ite f (.ck (decide (0<=e)&&f)<|.ck b'<|.ite (!Sp.Cm (fst h) v2) (.leaf (.bl false) [])<|.ck (decide (0<=e)&&f)<|.ck b'<|.ite (!Sp.Cm (snd h) v2) (.leaf (.bl false) [])<|L1 v2 (zd .i64<|e+1) g c b a d) (L2 v2 0 g c b a d):=by kernel_rfl
theorem Az[Srt](v2 e:Int)(g c b:Rd)(d:List (Rd×Rd))(a:List (Rd×Rd)):stepT YG (L2 v2 e g c b d a)=let f:=decide (e<(length a:Int));.ite f (.ck (decide (0<=e)&&f)<|.ck (decide (0<=v2)&&decide (v2<=1000))<|.ite (!Sp.Cm (snd<|getD a (toNat e) ([],[])) v2) (.leaf (.bl false) [])<|L2 v2 (zd .i64<|e+1) g c b d a) (.leaf (.bl true) []):=by kernel_rfl
end T50
namespace T11
def T[Srt](c:List (Rd×Rd×Rd×Rd×List (Rd×Int))×List (Rd×List Int)×List (Rd×Rd×Rd×List (Rd×Rd)×List (Rd×Rd)))(n d:Int):Tr:=tree ZF false 9 11<|Ag ([zi (zf<|zi ze<|zi ze<|zi ze<|zi ze<|zf<|zi ze i64)<|zi (zf<|zi ze<|zf i64)<|zf<|zi ze<|zi ze<|zi ze<|zi (zf<|zi ze ze)<|zf<|zi ze ze,zz zu,zz zu]) (c,n,d)
def L1[Srt](v1 v2 c:Int)(d:List (Rd×Rd×Rd×Rd×List (Rd×Int)))(b:List (Rd×List Int))(a:List (Rd×Rd×Rd×List (Rd×Rd)×List (Rd×Rd))):Tr:=re ((T ([],([],[])) 0 0).R.R.R)<|Ax 93 [(1,.dat i64 v1),(2,.dat i64 v2),(3,.ptr 0 0),(7,.dat i64 c)] [(0,.box [.dat (zf<|zi ze<|zi ze<|zi ze<|zi ze<|zf<|zi ze i64) d,.dat (zf<|zi ze<|zf i64) b,.dat (zf<|zi ze<|zi ze<|zi ze<|zi (zf<|zi ze ze)<|zf<|zi ze ze) a])] 1
theorem Aj[Srt](c:List (Rd×Rd×Rd×Rd×List (Rd×Int))×List (Rd×List Int)×List (Rd×Rd×Rd×List (Rd×Rd)×List (Rd×Rd)))(n d:Int):T c n d=let a:Tr:=.leaf (.bl false) [];.di ((↑(length<|fst c):Int)>n) a (.di ((↑(length<|fst<|snd c):Int)>n) a<|.di ((↑(length<|snd<|snd c):Int)>n) a<|L1 n d 0 (fst c) (fst<|snd c)<|snd<|snd c):=by kernel_rfl
def L2[Srt](v1 v2 v9:Int)(c:List (Rd×Rd×Rd×Rd×List (Rd×Int)))(b:List (Rd×List Int))(a:List (Rd×Rd×Rd×List (Rd×Rd)×List (Rd×Rd))):Tr:=re ((stepT ZF<|L1 0 0 0 [] [] []).R)<|Ax 93 [(1,.dat i64 v1),(2,.dat i64 v2),(3,.ptr 0 0),(9,.dat i64 v9)] [(0,.box [.dat (zf<|zi ze<|zi ze<|zi ze<|zi ze<|zf<|zi ze i64) c,.dat (zf<|zi ze<|zf i64) b,.dat (zf<|zi ze<|zi ze<|zi ze<|zi (zf<|zi ze ze)<|zf<|zi ze ze) a])] 1
theorem Ak[Srt](v1 v2 c:Int)(e:List (Rd×Rd×Rd×Rd×List (Rd×Int)))(b:List (Rd×List Int))(a:List (Rd×Rd×Rd×List (Rd×Rd)×List (Rd×Rd))):stepT ZF (L1 v1 v2 c e b a)=let f:=getD e (toNat c) ([],[],[],[],[]);let b':=decide (0<=v2)&&decide (v2<=1000);let d:Tr:=.leaf (.bl false) [];let h:=decide (c<(length e:Int));let g:=snd<|snd f;.ite h (.ck (decide (0<=c)&&h)<|.di ((↑(length<|snd<|snd g):Int)>v1) d<|.ck b'<|.ite (!Cm (fst f) v2) d<|.ck b'<|.ite (!Cm (fst<|snd f) v2) d<|.ck b'<|.ite (!Cm (fst g) v2) d<|.ck b'<|.ite (!Cm (fst<|snd g) v2) d<|L1 v1 v2 (zd .i64<|c+1) e b a) (L2 v1 v2 0 e b a):=by kernel_rfl
theorem Az[Srt](v1 v2 v9:Int)(c:List (Rd×Rd×Rd×Rd×List (Rd×Int)))(b:List (Rd×List Int))(a:List (Rd×Rd×Rd×List (Rd×Rd)×List (Rd×Rd))):stepT ZF (L2 v1 v2 v9 c b a)=let e:=getD a (toNat v9) ([],[],[],[],[]);let b':=decide (v9<(length a:Int));let d:=snd<|snd e;.ite b' (.ck (decide (0<=v9)&&b')<|.ck (jR v1 v2)<|.ite (!EU (fst e,fst<|snd e,fst d,fst<|snd d,snd<|snd d) v1 v2) (.leaf (.bl false) [])<|L2 v1 v2 (zd .i64<|v9+1) c b a) (.ck (aV (c,b,a))<|.leaf (.dat Sh.bool<|N6 (c,b,a)==0) []):=by kernel_rfl
end T11
namespace T45
def T[Srt](l:Bq):Tr:=tree GK false 9 45<|Ag ([Bk]) l
def L1[Srt](v3:Int)(e c b:Rd)(a d:List AW):Tr:=re ((T ([],([],([],([],[]))))).R.R.R.R.R)<|Ax 83 [(1,.ptr 0 0),(3,.dat i64 v3)] [(0,.box [.dat ze e,.dat ze c,.dat ze b,.dat (zf B8) a,.dat (zf B8) d])] 1
theorem Aj[Srt](l:Bq):T l=let a:Tr:=.leaf (.bl false) [];let b':=snd<|snd<|snd l;.di ((↑(length<|fst l):Int)>40) a (.di ((↑(length<|fst<|snd l):Int)>20) a<|.di ((↑(length<|fst<|snd<|snd l):Int)>20) a<|.di ((↑(length<|fst b'):Int)>70) a<|.di ((↑(length<|snd b'):Int)>20) a<|L1 0 (fst l) (fst<|snd l) (fst<|snd<|snd l) (fst b')<|snd b'):=by kernel_rfl
def L2[Srt](v4:Int)(e c b:Rd)(a d:List AW):Tr:=re ((stepT GK<|L1 0 [] [] [] [] []).R)<|Ax 83 [(1,.ptr 0 0),(4,.dat i64 v4)] [(0,.box [.dat ze e,.dat ze c,.dat ze b,.dat (zf B8) a,.dat (zf B8) d])] 1
theorem Ak[Srt](v3:Int)(f c b:Rd)(a d:List AW):stepT GK (L1 v3 f c b a d)=let e:=decide (v3<(length a:Int));let b':=getD a (toNat v3) ([],[]);.ite e (.ck (decide (0<=v3)&&e)<|.di ((↑(length<|fst b'):Int)>20) (.leaf (.bl false) [])<|.ck (decide (0<=v3)&&e)<|.di ((↑(length<|snd b'):Int)>20) (.leaf (.bl false) [])<|L1 (zd .i64<|v3+1) f c b a d) (L2 0 f c b a d):=by kernel_rfl
theorem Az[Srt](v4:Int)(f c b:Rd)(d a:List AW):stepT GK (L2 v4 f c b d a)=let e:=decide (v4<(length a:Int));let b':=getD a (toNat v4) ([],[]);.ite e (.ck (decide (0<=v4)&&e)<|.di ((↑(length<|fst b'):Int)>40) (.leaf (.bl false) [])<|.ck (decide (0<=v4)&&e)<|.di ((↑(length<|snd b'):Int)>20) (.leaf (.bl false) [])<|L2 (zd .i64<|v4+1) f c b d a) (.leaf (.bl true) []):=by kernel_rfl
end T45
namespace T9
def T[Srt](c:AF):Tr:=tree R9 false 9 9<|Ag ([Ba]) c
def L1[Srt](v3:Int)(c:List Bs)(b:List B7)(a:List Bq):Tr:=re ((T ([],([],[]))).R.R.R)<|Ax 102 [(1,.ptr 0 0),(3,.dat i64 v3)] [(0,.box [.dat (zf Bw) c,.dat (zf CY) b,.dat (zf Bk) a])] 1
theorem Aj[Srt](c:AF):T c=let a:Tr:=.leaf (.bl false) [];.di ((↑(length<|fst c):Int)>38) a (.di ((↑(length<|fst<|snd c):Int)>10) a<|.di ((↑(length<|snd<|snd c):Int)>10) a<|L1 0 (fst c) (fst<|snd c)<|snd<|snd c):=by kernel_rfl
def L2[Srt](v5:Int)(c:List Bs)(b:List B7)(a:List Bq):Tr:=re ((stepT R9<|L1 0 [] [] []).R)<|Ax 102 [(1,.ptr 0 0),(5,.dat i64 v5)] [(0,.box [.dat (zf Bw) c,.dat (zf CY) b,.dat (zf Bk) a])] 1
theorem Ak[Srt](v3:Int)(c:List Bs)(b:List B7)(a:List Bq):stepT R9 (L1 v3 c b a)=let e:=getD c (toNat v3) ([],[],[],[],[]);let b':Tr:=.leaf (.bl false) [];let f:=decide (v3<(length c:Int));let d:=snd<|snd e;.ite f (.ck (decide (0<=v3)&&f)<|.di ((↑(length<|fst e):Int)>20) b'<|.di ((↑(length<|fst<|snd e):Int)>20) b'<|.di ((↑(length<|fst d):Int)>20) b'<|.di ((↑(length<|fst<|snd d):Int)>20) b'<|.di ((↑(length<|snd<|snd d):Int)>20) b'<|L1 (zd .i64<|v3+1) c b a) (L2 0 c b a):=by kernel_rfl
def L3[Srt](c:Int)(d:List Bs)(b:List B7)(a:List Bq):Tr:=re ((stepT R9<|L2 0 [] [] []).R)<|Ax 102 [(1,.ptr 0 0),(6,.dat i64 c)] [(0,.box [.dat (zf Bw) d,.dat (zf CY) b,.dat (zf Bk) a])] 1
theorem Az[Srt](v5:Int)(c:List Bs)(a:List B7)(b:List Bq):stepT R9 (L2 v5 c a b)=let d:=decide (v5<(length a:Int));let b':=getD a (toNat v5) ([],[]);.ite d (.ck (decide (0<=v5)&&d)<|.di ((↑(length<|fst b'):Int)>40) (.leaf (.bl false) [])<|.ck (decide (0<=v5)&&d)<|.di ((↑(length<|snd b'):Int)>40) (.leaf (.bl false) [])<|L2 (zd .i64<|v5+1) c a b) (L3 0 c a b):=by kernel_rfl
theorem Be[Srt](c:Int)(d:List Bs)(b:List B7)(a:List Bq):stepT R9 (L3 c d b a)=let e:=decide (c<(length a:Int));.ite e (.ck (decide (0<=c)&&e)<|.ck true<|.ite (!Sp.Bk (getD a (toNat c) ([],[],[],[],[]))) (.leaf (.bl false) [])<|L3 (zd .i64<|c+1) d b a) (.leaf (.bl true) []):=by kernel_rfl
end T9
namespace T37
def T[Srt](l:Bq):Tr:=tree GK false 9 37<|Ag ([Bk]) l
def L1[Srt](v4:Int)(j g c:Rd)(e:List AW)(o1 h b k d a:Rd)(f i:List AW):Tr:=re ((T ([],([],([],([],[]))))))<|Ax 40 [(1,.ptr 0 0),(2,.ptr 1 0),(3,.ptr 2 0),(4,.dat i64 v4)] [(2,.box [.dat ze j,.dat ze g,.dat ze c,.dat (zf B8) e,.nil]),(1,.box [.dat ze o1,.dat ze h,.dat ze b,.nil,.nil]),(0,.box [.dat ze k,.dat ze d,.dat ze a,.dat (zf B8) f,.dat (zf B8) i])] 3
theorem Aj[Srt](l:Bq):T l=L1 0 (fst l) (fst<|snd l) (fst<|snd<|snd l) (fst<|snd<|snd<|snd l) [] [] [] (fst l) (fst<|snd l) (fst<|snd<|snd l) (fst<|snd<|snd<|snd l) (snd<|snd<|snd<|snd l):=by kernel_rfl
def L2[Srt](v4:Int)(k:List AW)(l g c:Rd)(e:List AW)(j:Nat)(o1 h b m d a:Rd)(f i:List AW):Tr:=re ((stepT GK<|L1 0 [] [] [] [] [] [] [] [] [] [] [] []).L.L.L.L)<|Ax 40 [(1,.ptr 0 0),(2,.ptr 1 0),(3,.ptr 2 0),(4,.dat i64 v4)] [(3,.arr false 157 B8 k),(2,.box [.dat ze l,.dat ze g,.dat ze c,.dat (zf B8) e,.sl 3 2 0 j none]),(1,.box [.dat ze o1,.dat ze h,.dat ze b,.nil,.nil]),(0,.box [.dat ze m,.dat ze d,.dat ze a,.dat (zf B8) f,.dat (zf B8) i])] 4
theorem Ak[Srt](v4:Int)(k d b:Rd)(c:List AW)(o1 i f l g e:Rd)(h a:List AW):stepT GK (L1 v4 k d b c o1 i f l g e h a)=let j:=decide (v4<(length a:Int));.ite j (.ck (decide (0<=v4)&&j)<|.ck (decide (0<=v4)&&j)<|.ck (aa 32)<|L2 (zd .i64<|v4+1) ([(getD a (toNat v4) ([],[]))]) k d b c 1 o1 i f l g e h a) (.leaf (yd [.dat ze k,.dat ze d,.dat ze b,.dat (zf B8) c,.nil]) []):=by kernel_rfl
theorem Az[Srt](v4:Int)(l:List AW)(k c a:Rd)(b:List AW)(e:Nat)(o1 j i n g f:Rd)(h d:List AW):stepT GK (L2 v4 l k c a b e o1 j i n g f h d)=let m:=decide (v4<(length d:Int));let b':=zf B8;.ite m (.ck (decide (0<=v4)&&m)<|.ck (decide (0<=v4)&&m)<|.ck (ac e (length l) 32)<|L2 (zd .i64<|v4+1) (l++[(getD d (toNat v4) ([],[]))]) k c a b (zt e 1) o1 j i n g f h d) (.leaf (yd [.dat ze k,.dat ze c,.dat ze a,.dat b' b,.sl 3 2 0 e none])<|[(3,.arr false 157 B8 l),(2,.box [.dat ze k,.dat ze c,.dat ze a,.dat b' b,.sl 3 2 0 e none]),(1,.box [.dat ze k,.dat ze c,.dat ze a,.dat b' b,.sl 3 2 0 e none]),(0,.box [.dat ze n,.dat ze g,.dat ze f,.dat b' h,.dat b' d])]):=by kernel_rfl
end T37
namespace T7
def T[Srt](c:AF):Tr:=tree B3 false 9 7<|Ag ([Ba]) c
def L1[Srt](v1:AF):Tr:=re ((T ([],([],[]))))<|Ax 128 [(1,PV.A8 Ba v1 0),(2,.ptr 0 0),(3,.ptr 1 0)] [(1,.box [.nil,.nil,.nil]),(0,.box [.nil,.nil,.nil])] 2
theorem Aj[Srt](c:AF):T c=L1 c:=by kernel_rfl
def L2[Srt](v1:AF)(v4:Int):Tr:=re ((stepT B3<|L1 ([],([],[]))))<|Ax 128 [(1,PV.A8 Ba v1 0),(2,.ptr 0 0),(3,.ptr 1 0),(4,.dat i64 v4)] [(1,.box [.nil,.nil,.nil]),(0,.box [.nil,.nil,.nil])] 2
theorem Ak[Srt](v1:AF):stepT B3 (L1 v1)=L2 v1 0:=by kernel_rfl
def L3[Srt](v1:AF)(v4 d:Int)(e a b c:Rd):Tr:=re ((stepT B3<|L2 ([],([],[])) 0).L.L.L.L.L)<|Ax 128 [(1,PV.A8 Ba v1 0),(2,.ptr 0 0),(3,.ptr 1 0),(4,.dat i64 v4),(5,.ptr 2 0),(6,.dat i64 d)] [(2,.box [.dat ze e,.dat ze a,.dat ze b,.dat ze c,.nil]),(1,.box [.nil,.nil,.nil]),(0,.box [.nil,.nil,.nil])] 3
def L4[Srt](v1:AF)(a:Int):Tr:=re ((stepT B3<|L2 ([],([],[])) 0).R)<|Ax 128 [(1,PV.A8 Ba v1 0),(2,.ptr 0 0),(3,.ptr 1 0),(7,.dat i64 a)] [(1,.box [.nil,.nil,.nil]),(0,.box [.nil,.nil,.nil])] 2
theorem Az[Srt](v1:AF)(v4:Int):stepT B3 (L2 v1 v4)=let b':=getD (fst v1) (toNat v4) ([],[],[],[],[]);let b:=decide (v4<(↑(length<|fst v1):Int));let a:=decide (0<=v4)&&b;.ite b (.ck a<|.ck a<|.ck a<|.ck a<|L3 v1 v4 0 (fst b') (fst<|snd b') (fst<|snd<|snd b')<|fst<|snd<|snd<|snd b') (L4 v1 0):=by kernel_rfl
def L5[Srt](v1:AF)(v4 g:Int)(e:List Ey)(f c a b:Rd)(d:Nat):Tr:=re ((stepT B3<|L3 ([],([],[])) 0 0 [] [] [] []).L.L.L.L.L.L.L)<|Ax 128 [(1,PV.A8 Ba v1 0),(2,.ptr 0 0),(3,.ptr 1 0),(4,.dat i64 v4),(5,.ptr 2 0),(6,.dat i64 g)] [(3,.arr false 84 UK e),(2,.box [.dat ze f,.dat ze c,.dat ze a,.dat ze b,.sl 3 2 0 d none]),(1,.box [.nil,.nil,.nil]),(0,.box [.nil,.nil,.nil])] 4
def L6[Srt](v1:AF)(v4:Int)(b:List Bs)(a:Nat):Tr:=re ((stepT B3<|L3 ([],([],[])) 0 0 [] [] [] []).L.R.L)<|Ax 128 [(1,PV.A8 Ba v1 0),(2,.ptr 0 0),(3,.ptr 1 0),(4,.dat i64 v4)] [(2,.arr false 81 Bw b),(1,.box [.sl 2 5 0 a none,.nil,.nil]),(0,.box [.nil,.nil,.nil])] 3
theorem Be[Srt](v1:AF)(v4 d:Int)(e b a c:Rd):stepT B3 (L3 v1 v4 d e b a c)=let g:=snd<|snd<|snd<|snd<|getD (fst v1) (toNat v4) ([],[],[],[],[]);let b':=decide (0<=v4)&&decide (v4<(↑(length<|fst v1):Int));let f:=decide (d<(↑(length g):Int));.ck b' (.ite f (.ck b'<|.ck (decide (0<=d)&&f)<|.ck b'<|.ck (decide (0<=d)&&f)<|.ck (aa 24)<|L5 v1 v4 (zd .i64<|d+1) ([(getD g (toNat d) ([],0))]) e b a c 1)<|.ck (aa 88)<|L6 v1 (zd .i64<|v4+1) ([(e,b,a,c,[])]) 1):=by kernel_rfl
def L7[Srt](v1:AF)(b:Int)(c:List B7)(a:Nat):Tr:=re ((stepT B3<|L4 ([],([],[])) 0).L.L.L.L)<|Ax 128 [(1,PV.A8 Ba v1 0),(2,.ptr 0 0),(3,.ptr 1 0),(7,.dat i64 b)] [(2,.arr false 87 CY c),(1,.box [.nil,.sl 2 2 0 a none,.nil]),(0,.box [.nil,.nil,.nil])] 3
def L8[Srt](v1:AF)(a:Int):Tr:=re ((stepT B3<|L4 ([],([],[])) 0).R)<|Ax 128 [(1,PV.A8 Ba v1 0),(2,.ptr 0 0),(3,.ptr 1 0),(8,.dat i64 a)] [(1,.box [.nil,.nil,.nil]),(0,.box [.nil,.nil,.nil])] 2
theorem B1[Srt](v1:AF)(a:Int):stepT B3 (L4 v1 a)=let b:=decide (a<(↑(length<|fst<|snd v1):Int));.ite b (.ck (decide (0<=a)&&b)<|.ck (decide (0<=a)&&b)<|.ck (aa 40)<|L7 v1 (zd .i64<|a+1) ([(getD (fst<|snd v1) (toNat a) ([],[]))]) 1) (L8 v1 0):=by kernel_rfl
theorem D0[Srt](v1:AF)(v4 e:Int)(f:List Ey)(h d b c:Rd)(a:Nat):stepT B3 (L5 v1 v4 e f h d b c a)=let i:=snd<|snd<|snd<|snd<|getD (fst v1) (toNat v4) ([],[],[],[],[]);let b':=decide (0<=v4)&&decide (v4<(↑(length<|fst v1):Int));let g:=decide (e<(↑(length i):Int));.ck b' (.ite g (.ck b'<|.ck (decide (0<=e)&&g)<|.ck b'<|.ck (decide (0<=e)&&g)<|.ck (ac a (length f) 24)<|L5 v1 v4 (zd .i64<|e+1) (f++[(getD i (toNat e) ([],0))]) h d b c<|zt a 1)<|.ck (decide (0+a<=length f)&&true)<|.ck (aa 88)<|L6 v1 (zd .i64<|v4+1) ([(h,d,b,c,take a f)]) 1):=by kernel_rfl
def L9[Srt](v1:AF)(v4 g:Int)(e:List Bs)(f c a b:Rd)(d:Nat):Tr:=re ((stepT B3<|L6 ([],([],[])) 0 [] 0).L.L.L.L.L)<|Ax 128 [(1,PV.A8 Ba v1 0),(2,.ptr 0 0),(3,.ptr 1 0),(4,.dat i64 v4),(5,.ptr 2 0),(6,.dat i64 g)] [(3,.arr false 81 Bw e),(2,.box [.dat ze f,.dat ze c,.dat ze a,.dat ze b,.nil]),(1,.box [.sl 3 5 0 d none,.nil,.nil]),(0,.box [.nil,.nil,.nil])] 4
def L10[Srt](v1:AF)(b:Int)(c:List Bs)(a:Nat):Tr:=re ((stepT B3<|L6 ([],([],[])) 0 [] 0).R)<|Ax 128 [(1,PV.A8 Ba v1 0),(2,.ptr 0 0),(3,.ptr 1 0),(7,.dat i64 b)] [(2,.arr false 81 Bw c),(1,.box [.sl 2 5 0 a none,.nil,.nil]),(0,.box [.nil,.nil,.nil])] 3
theorem EW[Srt](v1:AF)(v4:Int)(c:List Bs)(a:Nat):stepT B3 (L6 v1 v4 c a)=let b':=getD (fst v1) (toNat v4) ([],[],[],[],[]);let d:=decide (v4<(↑(length<|fst v1):Int));let b:=decide (0<=v4)&&d;.ite d (.ck b<|.ck b<|.ck b<|.ck b<|L9 v1 v4 0 c (fst b') (fst<|snd b') (fst<|snd<|snd b') (fst<|snd<|snd<|snd b') a) (L10 v1 0 c a):=by kernel_rfl
def L11[Srt](v1:AF)(b:Int)(c:List B7)(a:Nat):Tr:=re ((stepT B3<|L7 ([],([],[])) 0 [] 0).R)<|Ax 128 [(1,PV.A8 Ba v1 0),(2,.ptr 0 0),(3,.ptr 1 0),(8,.dat i64 b)] [(2,.arr false 87 CY c),(1,.box [.nil,.sl 2 2 0 a none,.nil]),(0,.box [.nil,.nil,.nil])] 3
theorem DY[Srt](v1:AF)(b:Int)(c:List B7)(a:Nat):stepT B3 (L7 v1 b c a)=let d:=decide (b<(↑(length<|fst<|snd v1):Int));.ite d (.ck (decide (0<=b)&&d)<|.ck (decide (0<=b)&&d)<|.ck (ac a (length c) 40)<|L7 v1 (zd .i64<|b+1) (c++[(getD (fst<|snd v1) (toNat b) ([],[]))])<|zt a 1) (L11 v1 0 c a):=by kernel_rfl
def L12[Srt](v1:AF)(b:Int)(c:List Bq)(a:Nat):Tr:=re ((stepT B3<|L8 ([],([],[])) 0).L.L.L.L)<|Ax 128 [(1,PV.A8 Ba v1 0),(2,.ptr 0 0),(3,.ptr 1 0),(8,.dat i64 b)] [(2,.arr false 91 Bk c),(1,.box [.nil,.nil,.sl 2 5 0 a none]),(0,.box [.nil,.nil,.nil])] 3
theorem HG[Srt](v1:AF)(a:Int):stepT B3 (L8 v1 a)=let b:=getD (snd<|snd v1) (toNat a) ([],[],[],[],[]);let b':=decide (a<(↑(length<|snd<|snd v1):Int));.ite b' (.ck (decide (0<=a)&&b')<|.ck (jN b)<|.ck (aa 96)<|L12 v1 (zd .i64<|a+1) ([b]) 1) (.leaf (yd [.nil,.nil,.nil]) []):=by kernel_rfl
def L13[Srt](v1:AF)(v4 i:Int)(g:List Ey)(f:List Bs)(h c a b:Rd)(e d:Nat):Tr:=re ((stepT B3<|L9 ([],([],[])) 0 0 [] [] [] [] [] 0).L.L.L.L.L.L.L)<|Ax 128 [(1,PV.A8 Ba v1 0),(2,.ptr 0 0),(3,.ptr 1 0),(4,.dat i64 v4),(5,.ptr 2 0),(6,.dat i64 i)] [(4,.arr false 84 UK g),(3,.arr false 81 Bw f),(2,.box [.dat ze h,.dat ze c,.dat ze a,.dat ze b,.sl 4 2 0 e none]),(1,.box [.sl 3 5 0 d none,.nil,.nil]),(0,.box [.nil,.nil,.nil])] 5
theorem vE[Srt](v1:AF)(v4 e:Int)(f:List Bs)(h c a b:Rd)(d:Nat):stepT B3 (L9 v1 v4 e f h c a b d)=let i:=snd<|snd<|snd<|snd<|getD (fst v1) (toNat v4) ([],[],[],[],[]);let b':=decide (0<=v4)&&decide (v4<(↑(length<|fst v1):Int));let g:=decide (e<(↑(length i):Int));.ck b' (.ite g (.ck b'<|.ck (decide (0<=e)&&g)<|.ck b'<|.ck (decide (0<=e)&&g)<|.ck (aa 24)<|L13 v1 v4 (zd .i64<|e+1) ([(getD i (toNat e) ([],0))]) f h c a b 1 d)<|.ck (ac d (length f) 88)<|L6 v1 (zd .i64<|v4+1) (f++[(h,c,a,b,[])])<|zt d 1):=by kernel_rfl
def L14[Srt](v1:AF)(d:Int)(c:List B7)(e:List Bs)(b a:Nat):Tr:=re ((stepT B3<|L10 ([],([],[])) 0 [] 0).L.L.L.L)<|Ax 128 [(1,PV.A8 Ba v1 0),(2,.ptr 0 0),(3,.ptr 1 0),(7,.dat i64 d)] [(3,.arr false 87 CY c),(2,.arr false 81 Bw e),(1,.box [.sl 2 5 0 b none,.sl 3 2 0 a none,.nil]),(0,.box [.nil,.nil,.nil])] 4
def L15[Srt](v1:AF)(b:Int)(c:List Bs)(a:Nat):Tr:=re ((stepT B3<|L10 ([],([],[])) 0 [] 0).R)<|Ax 128 [(1,PV.A8 Ba v1 0),(2,.ptr 0 0),(3,.ptr 1 0),(8,.dat i64 b)] [(2,.arr false 81 Bw c),(1,.box [.sl 2 5 0 a none,.nil,.nil]),(0,.box [.nil,.nil,.nil])] 3
theorem TU[Srt](v1:AF)(b:Int)(d:List Bs)(a:Nat):stepT B3 (L10 v1 b d a)=let c:=decide (b<(↑(length<|fst<|snd v1):Int));.ite c (.ck (decide (0<=b)&&c)<|.ck (decide (0<=b)&&c)<|.ck (aa 40)<|L14 v1 (zd .i64<|b+1) ([(getD (fst<|snd v1) (toNat b) ([],[]))]) d a 1) (L15 v1 0 d a):=by kernel_rfl
def L16[Srt](v1:AF)(d:Int)(c:List Bq)(e:List B7)(b a:Nat):Tr:=re ((stepT B3<|L11 ([],([],[])) 0 [] 0).L.L.L.L)<|Ax 128 [(1,PV.A8 Ba v1 0),(2,.ptr 0 0),(3,.ptr 1 0),(8,.dat i64 d)] [(3,.arr false 91 Bk c),(2,.arr false 87 CY e),(1,.box [.nil,.sl 2 2 0 b none,.sl 3 5 0 a none]),(0,.box [.nil,.nil,.nil])] 4
theorem oS[Srt](v1:AF)(b:Int)(c:List B7)(a:Nat):stepT B3 (L11 v1 b c a)=let d:=getD (snd<|snd v1) (toNat b) ([],[],[],[],[]);let b':=decide (b<(↑(length<|snd<|snd v1):Int));.ite b' (.ck (decide (0<=b)&&b')<|.ck (jN d)<|.ck (aa 96)<|L16 v1 (zd .i64<|b+1) ([d]) c a 1) (.leaf (yd [.nil,.sl 2 2 0 a none,.nil])<|[(2,.arr false 87 CY c),(1,.box [.nil,.sl 2 2 0 a none,.nil]),(0,.box [.nil,.sl 2 2 0 a none,.nil])]):=by kernel_rfl
theorem qR[Srt](v1:AF)(b:Int)(c:List Bq)(a:Nat):stepT B3 (L12 v1 b c a)=let d:=getD (snd<|snd v1) (toNat b) ([],[],[],[],[]);let b':=decide (b<(↑(length<|snd<|snd v1):Int));.ite b' (.ck (decide (0<=b)&&b')<|.ck (jN d)<|.ck (ac a (length c) 96)<|L12 v1 (zd .i64<|b+1) (c++[d])<|zt a 1) (.leaf (yd [.nil,.nil,.sl 2 5 0 a none])<|[(2,.arr false 91 Bk c),(1,.box [.nil,.nil,.sl 2 5 0 a none]),(0,.box [.nil,.nil,.sl 2 5 0 a none])]):=by kernel_rfl
theorem sZ[Srt](v1:AF)(v4 f:Int)(g:List Ey)(h:List Bs)(j d b c:Rd)(a e:Nat):stepT B3 (L13 v1 v4 f g h j d b c a e)=let k:=snd<|snd<|snd<|snd<|getD (fst v1) (toNat v4) ([],[],[],[],[]);let b':=decide (0<=v4)&&decide (v4<(↑(length<|fst v1):Int));let i:=decide (f<(↑(length k):Int));.ck b' (.ite i (.ck b'<|.ck (decide (0<=f)&&i)<|.ck b'<|.ck (decide (0<=f)&&i)<|.ck (ac a (length g) 24)<|L13 v1 v4 (zd .i64<|f+1) (g++[(getD k (toNat f) ([],0))]) h j d b c (zt a 1) e)<|.ck (decide (0+a<=length g)&&true)<|.ck (ac e (length h) 88)<|L6 v1 (zd .i64<|v4+1) (h++[(j,d,b,c,take a g)])<|zt e 1):=by kernel_rfl
def L17[Srt](v1:AF)(d:Int)(c:List B7)(e:List Bs)(b a:Nat):Tr:=re ((stepT B3<|L14 ([],([],[])) 0 [] [] 0 0).R)<|Ax 128 [(1,PV.A8 Ba v1 0),(2,.ptr 0 0),(3,.ptr 1 0),(8,.dat i64 d)] [(3,.arr false 87 CY c),(2,.arr false 81 Bw e),(1,.box [.sl 2 5 0 b none,.sl 3 2 0 a none,.nil]),(0,.box [.nil,.nil,.nil])] 4
theorem vN[Srt](v1:AF)(c:Int)(d:List B7)(f:List Bs)(b a:Nat):stepT B3 (L14 v1 c d f b a)=let e:=decide (c<(↑(length<|fst<|snd v1):Int));.ite e (.ck (decide (0<=c)&&e)<|.ck (decide (0<=c)&&e)<|.ck (ac a (length d) 40)<|L14 v1 (zd .i64<|c+1) (d++[(getD (fst<|snd v1) (toNat c) ([],[]))]) f b<|zt a 1) (L17 v1 0 d f b a):=by kernel_rfl
def L18[Srt](v1:AF)(d:Int)(c:List Bq)(e:List Bs)(b a:Nat):Tr:=re ((stepT B3<|L15 ([],([],[])) 0 [] 0).L.L.L.L)<|Ax 128 [(1,PV.A8 Ba v1 0),(2,.ptr 0 0),(3,.ptr 1 0),(8,.dat i64 d)] [(3,.arr false 91 Bk c),(2,.arr false 81 Bw e),(1,.box [.sl 2 5 0 b none,.nil,.sl 3 5 0 a none]),(0,.box [.nil,.nil,.nil])] 4
theorem pH[Srt](v1:AF)(b:Int)(c:List Bs)(a:Nat):stepT B3 (L15 v1 b c a)=let d:=getD (snd<|snd v1) (toNat b) ([],[],[],[],[]);let b':=decide (b<(↑(length<|snd<|snd v1):Int));.ite b' (.ck (decide (0<=b)&&b')<|.ck (jN d)<|.ck (aa 96)<|L18 v1 (zd .i64<|b+1) ([d]) c a 1) (.leaf (yd [.sl 2 5 0 a none,.nil,.nil])<|[(2,.arr false 81 Bw c),(1,.box [.sl 2 5 0 a none,.nil,.nil]),(0,.box [.sl 2 5 0 a none,.nil,.nil])]):=by kernel_rfl
theorem mE[Srt](v1:AF)(c:Int)(d:List Bq)(e:List B7)(b a:Nat):stepT B3 (L16 v1 c d e b a)=let f:=getD (snd<|snd v1) (toNat c) ([],[],[],[],[]);let b':=decide (c<(↑(length<|snd<|snd v1):Int));.ite b' (.ck (decide (0<=c)&&b')<|.ck (jN f)<|.ck (ac a (length d) 96)<|L16 v1 (zd .i64<|c+1) (d++[f]) e b<|zt a 1) (.leaf (yd [.nil,.sl 2 2 0 b none,.sl 3 5 0 a none])<|[(3,.arr false 91 Bk d),(2,.arr false 87 CY e),(1,.box [.nil,.sl 2 2 0 b none,.sl 3 5 0 a none]),(0,.box [.nil,.sl 2 2 0 b none,.sl 3 5 0 a none])]):=by kernel_rfl
def L19[Srt](v1:AF)(e:Int)(f:List Bq)(d:List B7)(g:List Bs)(c a b:Nat):Tr:=re ((stepT B3<|L17 ([],([],[])) 0 [] [] 0 0).L.L.L.L)<|Ax 128 [(1,PV.A8 Ba v1 0),(2,.ptr 0 0),(3,.ptr 1 0),(8,.dat i64 e)] [(4,.arr false 91 Bk f),(3,.arr false 87 CY d),(2,.arr false 81 Bw g),(1,.box [.sl 2 5 0 c none,.sl 3 2 0 a none,.sl 4 5 0 b none]),(0,.box [.nil,.nil,.nil])] 5
theorem lL[Srt](v1:AF)(c:Int)(d:List B7)(e:List Bs)(b a:Nat):stepT B3 (L17 v1 c d e b a)=let f:=getD (snd<|snd v1) (toNat c) ([],[],[],[],[]);let b':=decide (c<(↑(length<|snd<|snd v1):Int));.ite b' (.ck (decide (0<=c)&&b')<|.ck (jN f)<|.ck (aa 96)<|L19 v1 (zd .i64<|c+1) ([f]) d e b a 1) (.leaf (yd [.sl 2 5 0 b none,.sl 3 2 0 a none,.nil])<|[(3,.arr false 87 CY d),(2,.arr false 81 Bw e),(1,.box [.sl 2 5 0 b none,.sl 3 2 0 a none,.nil]),(0,.box [.sl 2 5 0 b none,.sl 3 2 0 a none,.nil])]):=by kernel_rfl
theorem lH[Srt](v1:AF)(c:Int)(d:List Bq)(e:List Bs)(b a:Nat):stepT B3 (L18 v1 c d e b a)=let f:=getD (snd<|snd v1) (toNat c) ([],[],[],[],[]);let b':=decide (c<(↑(length<|snd<|snd v1):Int));.ite b' (.ck (decide (0<=c)&&b')<|.ck (jN f)<|.ck (ac a (length d) 96)<|L18 v1 (zd .i64<|c+1) (d++[f]) e b<|zt a 1) (.leaf (yd [.sl 2 5 0 b none,.nil,.sl 3 5 0 a none])<|[(3,.arr false 91 Bk d),(2,.arr false 81 Bw e),(1,.box [.sl 2 5 0 b none,.nil,.sl 3 5 0 a none]),(0,.box [.sl 2 5 0 b none,.nil,.sl 3 5 0 a none])]):=by kernel_rfl
theorem nN[Srt](v1:AF)(d:Int)(e:List Bq)(f:List B7)(g:List Bs)(c b a:Nat):stepT B3 (L19 v1 d e f g c b a)=let h:=getD (snd<|snd v1) (toNat d) ([],[],[],[],[]);let b':=decide (d<(↑(length<|snd<|snd v1):Int));.ite b' (.ck (decide (0<=d)&&b')<|.ck (jN h)<|.ck (ac a (length e) 96)<|L19 v1 (zd .i64<|d+1) (e++[h]) f g c b<|zt a 1) (.leaf (yd [.sl 2 5 0 c none,.sl 3 2 0 b none,.sl 4 5 0 a none])<|[(4,.arr false 91 Bk e),(3,.arr false 87 CY f),(2,.arr false 81 Bw g),(1,.box [.sl 2 5 0 c none,.sl 3 2 0 b none,.sl 4 5 0 a none]),(0,.box [.sl 2 5 0 c none,.sl 3 2 0 b none,.sl 4 5 0 a none])]):=by kernel_rfl
end T7
namespace T110
def T[Srt](a:Rd)(lo b:Int):Tr:=tree Af9 false 9 110<|Ag ([ze,zz zu,zz zu]) (a,lo,b)
theorem Aj[Srt](a:Rd)(lo b:Int):T a lo b=let d:Tr:=.leaf (.dat i64<|Ap a) [];let b':=F8 (Sp.rN lo,Sp.rW lo);let c:=F8 (Sp.rN b,Sp.rW b);let e:Tr:=.leaf (.dat i64 (3:Int)) [];.cd (length a<=1000000) (.ite (Ap a==0) (.ck (Cn lo)<|.ck (CG (Sp.rN lo,Sp.rW lo))<|.ck (AU a&&C0 b')<|.di (Eu a b'<0) e<|.ck (Cn b)<|.ck (CG (Sp.rN b,Sp.rW b))<|.ck (AU a&&C0 c)<|.di (Eu a c>0) e d) d):=by kernel_rfl
end T110
namespace T47
def T[Srt](s:Rd)(l:List Rd):Tr:=tree zP false 9 47<|Ag ([ze,zf ze]) (s,l)
def L1[Srt](v0:Rd)(v1:List Rd)(v5:Int):Tr:=re ((T [] []).L.R)<|Ax 21 [(0,.dat ze v0),(1,.dat (zf ze) v1),(5,.dat i64 v5)] [] 0
theorem Aj[Srt](s:Rd)(l:List Rd):T s l=.ck true (.ite (!zo s) (.leaf (.dat i64 (8:Int)) [])<|L1 s l 0):=by kernel_rfl
theorem Ak[Srt](v0:Rd)(v1:List Rd)(v5:Int):stepT zP (L1 v0 v1 v5)=let a:=decide (v5<(length v1:Int));.ite a (.ck (decide (0<=v5)&&a)<|.ite (getD v1 (toNat v5) []==v0) (.leaf (.dat i64 (9:Int)) [])<|L1 v0 v1<|zd .i64<|v5+1) (.leaf (.dat i64 (0:Int)) []):=by kernel_rfl
end T47
namespace T48
def T[Srt](l:Bq):Tr:=tree RZ false 9 48<|Ag ([Bk]) l
def L1[Srt](v4:Int)(e c b:Rd)(a d:List AW):Tr:=re ((T ([],([],([],([],[]))))).L.R.L.L.L.L.L.R)<|Ax 101 [(1,.ptr 0 0),(4,.dat i64 v4)] [(0,.box [.dat ze e,.dat ze c,.dat ze b,.dat (zf B8) a,.dat (zf B8) d])] 1
theorem Aj[Srt](l:Bq):T l=let a:=fst<|snd<|snd<|snd l;let b:=fst<|snd<|snd l;let d:=BO (fst<|snd l) 1 10000==0;let b':=L1 1 (fst l) (fst<|snd l) b a<|snd<|snd<|snd<|snd l;let c:Tr:=.ck (decide (length a<=1000)&&GY 1000000 a)<|.ite (BL a !=0) (.leaf (.dat i64<|BL a) []) b';.ck true (.ite (!zo (fst l)) (.leaf (.dat i64 (8:Int)) [])<|.ck (decide (length (fst<|snd l)<=1000000)&&Hi 1&&Hi 10000)<|.ite d (.ck (decide (length b<=1000000)&&Hi 1&&Hi 10000)<|.ite (BO b 1 10000==0) c<|.ite (BO b 1 10000 !=0) (.leaf (.dat i64<|BO b 1 10000) []) b')<|.ite d c<|.ite (BO (fst<|snd l) 1 10000 !=0) (.leaf (.dat i64<|BO (fst<|snd l) 1 10000) []) b'):=by kernel_rfl
def L2[Srt](f:Int)(e c b:Rd)(a d:List AW):Tr:=re ((stepT RZ<|L1 0 [] [] [] [] []).R.R)<|Ax 101 [(1,.ptr 0 0),(5,.nil),(6,.dat i64 f)] [(0,.box [.dat ze e,.dat ze c,.dat ze b,.dat (zf B8) a,.dat (zf B8) d])] 1
theorem Ak[Srt](v4:Int)(f d c:Rd)(a b:List AW):stepT RZ (L1 v4 f d c a b)=let g:=snd<|getD a (toNat<|zd .i64<|v4-1) ([],[]);let b':=snd<|getD a (toNat v4) ([],[]);let e:=(length a:Int);.di (v4<e) (.ck (decide (0<=v4)&&decide (v4<e))<|.ck (decide (0<=zd .i64 (v4-1))&&decide (zd .i64 (v4-1)<e))<|.ck (AU b'&&C0 g)<|.di (Eu b' g<0) (.leaf (.dat i64 (11:Int)) [])<|L1 (zd .i64<|v4+1) f d c a b) (.di ((length b:Int)>16) (.leaf (.dat i64 (5:Int)) [])<|L2 0 f d c a b):=by kernel_rfl
def L3[Srt](e:Nat)(g:Int)(o1:List Rd)(f c b:Rd)(a d:List AW):Tr:=re ((stepT RZ<|L2 0 [] [] [] [] []).L.L.L.L.L.L.L.L.L.L.R.L.L)<|Ax 101 [(1,.ptr 0 0),(5,.sl 1 1 0 e none),(6,.dat i64 g)] [(1,.arr false 9 ze o1),(0,.box [.dat ze f,.dat ze c,.dat ze b,.dat (zf B8) a,.dat (zf B8) d])] 2
theorem Az[Srt](f:Int)(k c b:Rd)(d a:List AW):stepT RZ (L2 f k c b d a)=let b':=getD a (toNat f) ([],[]);let j:=decide (f<(length a:Int));let e:=decide (0<=f)&&j;let h:=decide (length (snd b')<=1000000);let h':=decide (F6 (snd b')<0);let g:Tr:=.ck e<|.ck (aa 16)<|L3 1 (zd .i64<|f+1) ([fst b']) k c b d a;let i:Tr:=.ite (Ap (snd b') !=0) (.leaf (.dat i64<|Ap<|snd b') []) g;let m:Tr:=.ite (KL (fst b') [] !=0) (.leaf (.dat i64<|KL (fst b') []) []) g;let l:Tr:=.ite true (.leaf (.dat i64 (3:Int)) []) g;.ite j (.ck e<|.cd (0<=1000)<|.ite (KL (fst b') []==0) (.ck e<|.ck h<|.ite (Ap (snd b')==0) (.ck e<|.ck h<|.ite h' l i) i)<|.ite (KL (fst b') []==0) (.ck e<|.ck h<|.ite h' l m) m) (.leaf (.dat i64 (0:Int)) []):=by kernel_rfl
theorem Be[Srt](a:Nat)(f:Int)(o1:List Rd)(k c e:Rd)(d b:List AW):stepT RZ (L3 a f o1 k c e d b)=let b':=getD b (toNat f) ([],[]);let n:=decide (f<(length b:Int));let g:=decide (0<=f)&&n;let i:=decide (length (snd b')<=1000000);let h':=KL (fst b') (take a o1)==0;let j:=decide (F6 (snd b')<0);let h:Tr:=.ck g<|.ck (ac a (length o1) 16)<|L3 (zt a 1) (zd .i64<|f+1) (o1++[fst b']) k c e d b;let m:Tr:=.ite (KL (fst b') (take a o1) !=0) (.leaf (.dat i64<|KL (fst b')<|take a o1) []) h;let l:Tr:=.ite (Ap (snd b') !=0) (.leaf (.dat i64<|Ap<|snd b') []) h;let o:Tr:=.ite true (.leaf (.dat i64 (3:Int)) []) h;.ite n (.ck g<|.ck (decide (0+a<=length o1)&&true&&decide (length (take a o1)<=1000))<|.ite h' (.ck g<|.ck i<|.ite (Ap (snd b')==0) (.ck g<|.ck i<|.ite j o l) l)<|.ite h' (.ck g<|.ck i<|.ite j o m) m) (.leaf (.dat i64 (0:Int)) []):=by kernel_rfl
end T48
namespace T46
def T[Srt](s:Bs):Tr:=tree yA false 9 46<|Ag ([Bw]) s
def L1[Srt](v4:Int)(e c b a:Rd)(d:List Ey):Tr:=re ((T ([],([],([],([],[]))))).L.L.L.L.L.L.L.R.R)<|Ax 61 [(1,.ptr 0 0),(4,.dat i64 v4)] [(0,.box [.dat ze e,.dat ze c,.dat ze b,.dat ze a,.dat (zf UK) d])] 1
theorem Aj[Srt](s:Bs):T s=let a:=snd<|snd<|snd s;let b:=fst<|snd<|snd s;let d:=BO (fst s) (-10000) 10000==0;let f:=BO (fst<|snd s) (-10000) 10000==0;let c:Tr:=.di ((↑(length<|snd a):Int)>16) (.leaf (.dat i64 (5:Int)) [])<|L1 0 (fst s) (fst<|snd s) b (fst a)<|snd a;let b':Tr:=.ck (decide (length (fst a)<=1000000)&&Hi 0&&Hi 10000)<|.ite (BO (fst a) 0 10000 !=0) (.leaf (.dat i64<|BO (fst a) 0 10000) []) c;let e:Tr:=.ck (decide (length b<=1000000)&&Hi 0&&Hi 10000)<|.ite (BO b 0 10000==0) b'<|.ite (BO b 0 10000 !=0) (.leaf (.dat i64<|BO b 0 10000) []) c;.ck (decide (length (fst s)<=1000000)&&Hi (-10000)&&Hi 10000) (.ite d (.ck (decide (length (fst<|snd s)<=1000000)&&Hi (-10000)&&Hi 10000)<|.ite f e<|.ite f b'<|.ite (BO (fst<|snd s) (-10000) 10000 !=0) (.leaf (.dat i64<|BO (fst<|snd s) (-10000) 10000) []) c)<|.ite d e<|.ite d b'<|.ite (BO (fst s) (-10000) 10000 !=0) (.leaf (.dat i64<|BO (fst s) (-10000) 10000) []) c):=by kernel_rfl
theorem Ak[Srt](v4:Int)(h c b d:Rd)(a:List Ey):stepT yA (L1 v4 h c b d a)=let b':=getD a (toNat v4) ([],0);let g:=decide (v4<(length a:Int));let f:Tr:=.leaf (.dat i64 (3:Int)) [];let e:=decide (0<=v4)&&g;.ite g (.ck e<|.ck true<|.ite (!zo (fst b')) (.leaf (.dat i64 (8:Int)) [])<|.ck e<|.di (snd b'<0) f<|.ck e<|.di (snd b'>10) f<|L1 (zd .i64<|v4+1) h c b d a) (.leaf (.dat i64 (0:Int)) []):=by kernel_rfl
end T46
namespace T10
def T[Srt](c:AF):Tr:=tree E1 false 9 10<|Ag ([Ba]) c
def L1[Srt](v3:Int)(c:List Bs)(b:List B7)(a:List Bq):Tr:=re ((T ([],([],[]))).R.R)<|Ax 147 [(1,.ptr 0 0),(3,.dat i64 v3)] [(0,.box [.dat (zf Bw) c,.dat (zf CY) b,.dat (zf Bk) a])] 1
theorem Aj[Srt](c:AF):T c=.ite ((↑(length<|fst c):Int)==0) (.leaf (.dat i64 (12:Int)) []) (.di ((↑(length<|fst c):Int)>36) (.leaf (.dat i64 (5:Int)) [])<|L1 0 (fst c) (fst<|snd c)<|snd<|snd c):=by kernel_rfl
def L2[Srt](c:Int)(d:List Bs)(b:List B7)(a:List Bq):Tr:=re ((stepT E1<|L1 0 [] [] []).R.R.R)<|Ax 147 [(1,.ptr 0 0),(5,.nil),(6,.dat i64 c)] [(0,.box [.dat (zf Bw) d,.dat (zf CY) b,.dat (zf Bk) a])] 1
theorem Ak[Srt](v3:Int)(c:List Bs)(a:List B7)(b:List Bq):stepT E1 (L1 v3 c a b)=let d:=getD c (toNat v3) ([],[],[],[],[]);let b':=decide (v3<(length c:Int));.ite b' (.ck (decide (0<=v3)&&b')<|.ck (Sp.Bw d)<|.ite (LC d !=0) (.leaf (.dat i64<|LC d) [])<|L1 (zd .i64<|v3+1) c a b) (.ite ((length a:Int)==0) (.leaf (.dat i64 (12:Int)) [])<|.di ((length a:Int)>8) (.leaf (.dat i64 (5:Int)) [])<|L2 0 c a b):=by kernel_rfl
def L3[Srt](f d v9:Int)(o1:Rd)(b:List Int)(e:List Bs)(c:List B7)(a:List Bq):Tr:=re ((stepT E1<|L2 0 [] [] []).L.L.L.L.L)<|Ax 147 [(1,.ptr 0 0),(5,.nil),(6,.dat i64 f),(7,.ptr 1 0),(8,.dat i64 d),(9,.dat i64 v9)] [(1,.box [.dat ze o1,.dat (zf i64) b]),(0,.box [.dat (zf Bw) e,.dat (zf CY) c,.dat (zf Bk) a])] 2
def L4[Srt](c:Int)(d:List Bs)(b:List B7)(a:List Bq):Tr:=re ((stepT E1<|L2 0 [] [] []).R.R.R)<|Ax 147 [(1,.ptr 0 0),(5,.nil),(10,.dat i64 c)] [(0,.box [.dat (zf Bw) d,.dat (zf CY) b,.dat (zf Bk) a])] 1
theorem Az[Srt](d:Int)(e:List Bs)(b:List B7)(a:List Bq):stepT E1 (L2 d e b a)=let c:=getD b (toNat d) ([],[]);let f:=decide (d<(length b:Int));let b':=L3 d (KL (fst c) []) 0 (fst c) (snd c) e b a;.ite f (.ck (decide (0<=d)&&f)<|.cd (0<=1000)<|.ite (KL (fst c) []==0) (.ite ((↑(length<|snd c):Int) !=(length e:Int)) (L3 d 2 0 (fst c) (snd c) e b a) b') b') (.ite ((length a:Int)==0) (.leaf (.dat i64 (12:Int)) [])<|.di ((length a:Int)>8) (.leaf (.dat i64 (5:Int)) [])<|L4 0 e b a):=by kernel_rfl
def L5[Srt](c:Nat)(e:Int)(o1:List Rd)(d:List Bs)(b:List B7)(a:List Bq):Tr:=re ((stepT E1<|L3 0 0 0 [] [] [] [] []).L.R.R.L)<|Ax 147 [(1,.ptr 0 0),(5,.sl 1 1 0 c none),(6,.dat i64 e)] [(1,.arr false 9 ze o1),(0,.box [.dat (zf Bw) d,.dat (zf CY) b,.dat (zf Bk) a])] 2
theorem Be[Srt](f d v9:Int)(o1:Rd)(a:List Int)(e:List Bs)(c:List B7)(b:List Bq):stepT E1 (L3 f d v9 o1 a e c b)=let h:Tr:=.ite (d !=0) (.leaf (.dat i64 d) [])<|.ck (aa 16)<|L5 1 (zd .i64<|f+1) [o1] e c b;let g:=decide (v9<(length a:Int));let i:=zd .i64<|v9+1;let b':=L3 f 3 i o1 a e c b;.ite g (.ite (d==0) (.ck (decide (0<=v9)&&g)<|.di (getD a (toNat v9) 0<1) b'<|.ck (decide (0<=v9)&&g)<|.di (getD a (toNat v9) 0>10000) b'<|L3 f d i o1 a e c b) h) h:=by kernel_rfl
def L6[Srt](d:Nat)(c:Int)(o1:List Rd)(e:List Bs)(b:List B7)(a:List Bq):Tr:=re ((stepT E1<|L4 0 [] [] []).L.L.L.L.L.L.R.L.L)<|Ax 147 [(1,.ptr 0 0),(5,.sl 1 1 0 d none),(10,.dat i64 c)] [(1,.arr false 9 ze o1),(0,.box [.dat (zf Bw) e,.dat (zf CY) b,.dat (zf Bk) a])] 2
theorem B1[Srt](b:Int)(g:List Bs)(c:List B7)(a:List Bq):stepT E1 (L4 b g c a)=let d:=getD a (toNat b) ([],[],[],[],[]);let f:=decide (b<(length a:Int));let e:=decide (0<=b)&&f;let b':Tr:=.ck e<|.ck (aa 16)<|L6 1 (zd .i64<|b+1) ([fst d]) g c a;.ite f (.ck e<|.ck (Mk d)<|.ite (Ke d==0) (.ck e<|.cd (0<=1000)<|.ite (KL (fst d) [] !=0) (.leaf (.dat i64<|KL (fst d) []) []) b')<|.ite (Ke d !=0) (.leaf (.dat i64<|Ke d) []) b') (.leaf (.dat i64 (0:Int)) []):=by kernel_rfl
def L7[Srt](d:Nat)(h f v9:Int)(e:Rd)(c:List Int)(o1:List Rd)(g:List Bs)(b:List B7)(a:List Bq):Tr:=re ((stepT E1<|L5 0 0 [] [] [] []).L.L.L.L.L)<|Ax 147 [(1,.ptr 0 0),(5,.sl 1 1 0 d none),(6,.dat i64 h),(7,.ptr 2 0),(8,.dat i64 f),(9,.dat i64 v9)] [(2,.box [.dat ze e,.dat (zf i64) c]),(1,.arr false 9 ze o1),(0,.box [.dat (zf Bw) g,.dat (zf CY) b,.dat (zf Bk) a])] 3
theorem D0[Srt](c:Nat)(e:Int)(o1:List Rd)(f:List Bs)(b:List B7)(a:List Bq):stepT E1 (L5 c e o1 f b a)=let d:=getD b (toNat e) ([],[]);let g:=decide (e<(length b:Int));let b':=L7 c e (KL (fst d)<|take c o1) 0 (fst d) (snd d) o1 f b a;.ite g (.ck (decide (0<=e)&&g)<|.ck (decide (0+c<=length o1)&&true&&decide (length (take c o1)<=1000))<|.ite (KL (fst d) (take c o1)==0) (.ite ((↑(length<|snd d):Int) !=(length f:Int)) (L7 c e 2 0 (fst d) (snd d) o1 f b a) b') b') (.ite ((length a:Int)==0) (.leaf (.dat i64 (12:Int)) [])<|.di ((length a:Int)>8) (.leaf (.dat i64 (5:Int)) [])<|L4 0 f b a):=by kernel_rfl
theorem EW[Srt](a:Nat)(c:Int)(o1:List Rd)(h:List Bs)(d:List B7)(b:List Bq):stepT E1 (L6 a c o1 h d b)=let b':=getD b (toNat c) ([],[],[],[],[]);let f:=decide (c<(length b:Int));let e:=decide (0<=c)&&f;let g:Tr:=.ck e<|.ck (ac a (length o1) 16)<|L6 (zt a 1) (zd .i64<|c+1) (o1++[fst b']) h d b;.ite f (.ck e<|.ck (Mk b')<|.ite (Ke b'==0) (.ck e<|.ck (decide (0+a<=length o1)&&true&&decide (length (take a o1)<=1000))<|.ite (KL (fst b') (take a o1) !=0) (.leaf (.dat i64<|KL (fst b')<|take a o1) []) g)<|.ite (Ke b' !=0) (.leaf (.dat i64<|Ke b') []) g) (.leaf (.dat i64 (0:Int)) []):=by kernel_rfl
theorem DY[Srt](d:Nat)(h e v9:Int)(f:Rd)(a:List Int)(o1:List Rd)(g:List Bs)(c:List B7)(b:List Bq):stepT E1 (L7 d h e v9 f a o1 g c b)=let j:Tr:=.ite (e !=0) (.leaf (.dat i64 e) [])<|.ck (ac d (length o1) 16)<|L5 (zt d 1) (zd .i64<|h+1) (o1++[f]) g c b;let i:=decide (v9<(length a:Int));let k:=zd .i64<|v9+1;let b':=L7 d h 3 k f a o1 g c b;.ite i (.ite (e==0) (.ck (decide (0<=v9)&&i)<|.di (getD a (toNat v9) 0<1) b'<|.ck (decide (0<=v9)&&i)<|.di (getD a (toNat v9) 0>10000) b'<|L7 d h e k f a o1 g c b) j) j:=by kernel_rfl
end T10
end
end Go.Pe
namespace Go.Sp
theorem q0{x:Int}(h:x=0):(x==0)=true:=by simpa using h
theorem q1{x:Int}(h:x≠0):(x==0)=false:=by simpa using h
theorem n0{x:Int}(h:x=0):(x !=0)=false:=by simpa using h
theorem n1{x:Int}(h:x≠0):(x !=0)=true:=by simpa using h
theorem WH{a:Bf}{n:Int}:Eu a (AO (n:Rat))=if Ao a<(n:Rat)then -1 else if (n:Rat)<Ao a then 1 else 0:=by
 unfold Eu;rw[DH]
theorem UT(s:Bf)(l:List Bf):KL s l=if isName s=false then 8 else if s∈l then 9 else 0:=by
 unfold KL has;by_cases h:s∈l
 ·rw[w4 h,wd h,wd rfl]
 ·rw[w8 h,wc h];cases isName s<;>rfl
theorem Xe{s:Bf}{l:List Bf}(h:isName s=true):KL s l=if s∈l then 9 else 0:=by rw[UT,h];rfl
theorem AaS{s:Bf}{l:List Bf}(h:isName s=false):KL s l=8:=by rw[UT,h];rfl
theorem xT(s:Bs):Ua s=if BO s.1 (-10000) 10000≠0 then BO s.1 (-10000) 10000 else if BO s.2.1 (-10000) 10000≠0 then BO s.2.1 (-10000) 10000 else if BO s.2.2.1 0 10000≠0 then BO s.2.2.1 0 10000 else if BO s.2.2.2.1 0 10000≠0 then BO s.2.2.2.1 0 10000 else if 16<s.2.2.2.2.length then 5 else 0:=by
 unfold Ua;rw[Bt,Bt,Bt,Bt,Bt,E8];by_cases h:16<s.2.2.2.2.length
 ·rw[w4 h,wd h];rfl
 ·rw[w8 h,wc h];rfl
end Go.Sp
namespace Go.Pe
open Sp
open Go.Det
open Go.Sp (AF Bs Bq AW Ey Bf B7 q0 q1 n0 n1)
theorem qN[Srt]:Cv Af9:=Aa T78.ok<|Aa T32.ok<|Aa T143.ok<|Aa T148.ok AB
theorem Ps{n:Int}(h:Hi n=true):Cn n=true:=by
 unfold Hi at h;rw[zm,w5,w5]at h;exact ad ae ae
theorem T110.ok[Srt]:Af AY 110 VJ:=by
 refine BA qN<|fun(i:Bf×Int×Int) f=>?_;obtain⟨a,lo,h⟩:=i;have f:(decide (a.length<=1000000)&&Hi lo&&Hi h)=true:=f;rw[zm,zm,w5]at f;obtain⟨⟨hl,h1⟩,h2⟩:=f;have b:∀e ob,e=BO a lo h->Ac VJ (a,lo,h) (.dat i64 e) ob:=fun e ob x=>z7 rfl rfl x
 have L:=T3 (n:=lo) (Ut h1) af;have H:=T3 (n:=h) (Ut h2) af;refine zx (T110.Aj a lo h) ?_;conv=>zeta
 rw[PE,PE,WH,WH];refine zc (w4 hl)<|zh (fun c=>?_)<|fun c=>zg<|b _ _ ?_
 ·have c:Ap a=0:=by simpa using c
  have nb:=(C1 c).1;refine zc (Ps h1) (zc (O6<|Ps h1)<|zc (Ab nb<|L.C0 af)<|zh (fun d=>zg<|b _ _ ?_)<|fun d=>zc (Ps h2)<|zc (O6<|Ps h2)<|zc (Ab nb<|H.C0 af)<|zh (fun e=>zg<|b _ _ ?_)<|fun e=>zg<|b _ _ ?_);all_goals rw[Um c]
  ·have d:=w6 d;by_cases k:Ao a<(lo:Rat)
   ·rw[wd<|.inl k]
   ·rw[wc k]at d;split at d<;>exact wh d af
  ·have e:=w6 e;by_cases k:(h:Rat)<Ao a
   ·rw[wd<|.inr k]
   ·rw[wc k]at e;split at e<;>exact wh e af
  ·have d:=w7 d;have e:=w7 e;rw[wc,c];rintro(k|k)
   ·rw[wd k]at d;exact d af
   ·by_cases g:Ao a<(h:Rat)
    ·exact wh (Std.lt_trans k g) ah
    ·rw[wc g,wd k]at e;exact e af
 ·have c:Ap a≠0:=by simpa using c
  exact(Wa c).symm
theorem tT[Srt]:Cv zP:=Aa T111.ok AB
namespace T47
theorem loop[Srt]{Q:PV->Ob->Prop}(s:Bf)(l:List Bf)(g:l.length<=1000):∀(r:List Bf) (i:Nat),l.drop i=r->i<=l.length->(∀ob,Q (.dat i64<|if s∈r then 9 else 0) ob)->Ends zP (L1 s l (i:Int)) Q
 |[],i,h,b,a=>by
  have:=drop_nil h b;exact zk (Ak ..) (zl (w8 ae)<|zg<|a _)
 |x::r,i,h,b,a=>by
  obtain⟨f,m,j⟩:=drop_cons (d:=([]:Rd)) h;have n:=wn (i:=i) ae;refine zk (Ak ..) ?_;conv=>zeta
  rw[zj,m,n];refine zc (w4 ae) (zc (ad ae ae)<|zh (fun c=>zg ?_)<|fun c=>loop s l g r (i+1) j f ?_)
  ·have c:x=s:=by simpa using c
   rw[wd<|by rw[c];exact zn ..]at a;exact a _
  ·have c:x≠s:=by simpa using c
   have e:(s∈x::r)=(s∈r):=by
    apply propext;rw[yc];exact⟨fun k=>k.resolve_left fun k=>c k.symm,.inr⟩
   simp only[e]at a;exact a
theorem ok[Srt]:Af AY 47 T0:=by
 refine BA tT<|fun(i:Bf×List Bf) a=>?_;obtain⟨s,l⟩:=i;have a:decide (l.length<=1000)=true:=a;have b:∀e ob,e=KL s l->Ac T0 (s,l) (.dat i64 e) ob:=fun e ob x=>z7 rfl rfl x
 refine zx (Aj s l)<|zc rfl (zh (fun c=>zg<|b _ _ ?_)<|fun c=>?_)
 ·exact(AaS<|by simpa using c).symm
 ·exact loop s l (w6 a) l 0 rfl (zy _) (fun ob=>b _ _ (Xe<|by simpa using c).symm)
end T47
theorem rC[Srt]:Cv yA:=Aa T110.ok<|Aa T111.ok AB
namespace T46
theorem loop[Srt]{Q:PV->Ob->Prop}(a b c d:Bf)(l:List Ey)(m:l.length<=1000000):∀(r:List Ey) (i:Nat),l.drop i=r->i<=l.length->(∀ob,Q (.dat i64<|jQ r) ob)->Ends yA (L1 (i:Int) a b c d l) Q
 |[],i,h,j,f=>by
  have:=drop_nil h j;exact zk (Ak ..) (zl (w8 ae)<|zg<|f _)
 |o::r,i,h,j,f=>by
  obtain⟨k,q,p⟩:=drop_cons (d:=(([],0):Ey)) h;have s:=wn (i:=i) ae;have g:=nb (i:=i) (n:=l.length) ae;rw[jQ]at f;refine zk (Ak ..) ?_;conv=>zeta
  rw[zj,q,s];refine zc (w4 ae)<|zc g<|zc rfl (zh (fun c=>zg ?_)<|fun c=>zc g<|zh (fun d=>zg ?_)<|fun d=>zc g<|zh (fun e=>zg ?_)<|fun e=>loop _ _ _ _ l m r (i+1) p k ?_)
  ·rw[wd<|by simpa using c]at f;exact f _
  ·rw[wc (by simpa using c),wd<|.inl<|w6 d]at f;exact f _
  ·rw[wc (by simpa using c),wd<|.inr<|w6 e]at f;exact f _
  ·rw[wc (by simpa using c),wc<|not_or.2 ⟨w7 d,w7 e⟩]at f;exact f
theorem ok[Srt]:Af AY 46 fC:=by
 refine BA rC<|fun(s:Bs) hi=>?_;obtain⟨a1,a2,a3,a4,a5⟩:=O1 hi;have i:∀e ob,e=LC s->Ac fC s (.dat i64 e) ob:=fun e ob x=>z7 rfl rfl x
 have l:∀ {a:Bf} {lo h:Int},a.length<=20->Hi lo=true->Hi h=true->(decide (a.length<=1000000)&&Hi lo&&Hi h)=true:=fun k x y=>Ab (Ab (w4 ae) x) y
 have b:=xT s;have bad:∀x:Int,x≠0->Ua s=x->x=LC s:=fun x h k=>by
  unfold LC;rw[k,wd h]
 refine zx (Aj s) ?_;conv=>zeta
 by_cases d:BO s.1 (-10000) 10000=0
 ·rw[wc<|fun x=>x d]at b;refine zc (l a1 rfl rfl)<|zc (q0 d)<|zc (l a2 rfl rfl) ?_;by_cases f:BO s.2.1 (-10000) 10000=0
  ·rw[wc<|fun x=>x f]at b;refine zc (q0 f)<|zc (l a3 rfl rfl) ?_;by_cases g:BO s.2.2.1 0 10000=0
   ·rw[wc<|fun x=>x g]at b;refine zc (q0 g)<|zc (l a4 rfl rfl) ?_;by_cases j:BO s.2.2.2.1 0 10000=0
    ·rw[wc<|fun x=>x j]at b;refine zl (n0 j)<|zh (fun c=>zg<|i _ _ ?_)<|fun c=>?_
     ·have c:=w6 c;rw[wd ae]at b;exact bad 5 af b
     ·have c:=w7 c;rw[wc ae]at b;have e:LC s=jQ s.2.2.2.2:=by
       unfold LC;rw[wc<|fun x=>x b]
      exact loop _ _ _ _ _ ae _ 0 rfl (zy _) (fun ob=>i _ _ e.symm)
    ·rw[wd j]at b;exact zc (n1 j)<|zg<|i _ _<|bad _ j b
   ·rw[wd g]at b;exact zl (q1 g)<|zc (n1 g)<|zg<|i _ _<|bad _ g b
  ·rw[wd f]at b;exact zl (q1 f)<|zl (q1 f)<|zc (n1 f)<|zg<|i _ _<|bad _ f b
 ·rw[wd d]at b;exact zc (l a1 rfl rfl)<|zl (q1 d)<|zl (q1 d)<|zl (q1 d)<|zc (n1 d)<|zg<|i _ _<|bad _ d b
end T46
end Go.Pe
namespace Go.Sp
theorem cS(l:Bq):Mr l=if isName l.1=false then 8 else if BO l.2.1 1 10000≠0 then BO l.2.1 1 10000 else if BO l.2.2.1 1 10000≠0 then BO l.2.2.1 1 10000 else BL l.2.2.2.1:=by
 unfold Mr;rw[Bt,Bt,Bt,Bt,E8];have t:(if BL l.2.2.2.1≠0 then BL l.2.2.2.1 else first [])=BL l.2.2.2.1:=by
  by_cases h:BL l.2.2.2.1=0
  ·rw[h];rfl
  ·rw[wd h]
 rw[t];cases isName l.1
 ·rfl
 ·rfl
theorem O3{u:Bf}(h:Ap u=0):F6 u<0↔Ao u<0:=by
 have t:=(Ny h).1;have k:=NN<|Ao u;rw[t]at k;rw[k, <-(neg_num<|Ao u).1];unfold Oy;constructor
 ·intro x;split at x
  ·omega
  ·split at x<;>omega
 ·intro x;rw[wd x];decide
theorem sC{seen:List Bf}{w:AW}{l:List AW}{o:List Bf}(h:∀x,x∈o↔x∈seen):dT seen (w::l)=if KL w.1 o≠0 then KL w.1 o else if Ap w.2≠0 then Ap w.2 else if Ao w.2<0 then 3 else dT (w.1::seen) l:=by
 rw[dT,UT];unfold has;cases isName w.1
 ·rfl
 ·by_cases k:w.1∈o
  ·rw[w4<|(h _).1 k,wd k];rfl
  ·rw[w8<|fun x=>k<|(h _).2 x,wc k];rfl
theorem P7{o seen:List Bf}(h:∀x,x∈o↔x∈seen)(k:Bf):∀x,x∈o++[k]↔x∈k::seen:=fun x=>by
 rw[List.mem_append,List.mem_singleton,yc,h x];exact Or.comm
end Go.Sp
namespace Go.Pe
open Sp
open Go.Det
open Go.Sp (AF Bs Bq AW Ey Bf B7 q0 q1 n0 n1)
theorem mN[Srt]:Cv RZ:=Aa T111.ok<|Aa T110.ok<|Aa T112.ok<|Aa T32.ok<|Aa T47.ok<|Aa T78.ok<|Aa T87.ok AB
theorem jD{C:Ctx}{f:FuncId}{ins outs:List Sh}{p q:(By ins).T->Bool}{g:(By ins).T->(By outs).T}{nd:Bool}(h:Af C f ⟨ins,p,outs,g,nd⟩)(j:∀i,q i=true->p i=true):Af C f ⟨ins,q,outs,g,nd⟩:=by
 rcases h with h|⟨x,k,hr⟩
 ·exact .inl ⟨h.prim,h.fn,fun F m args i a b c d e=>h.run F m args i a b c d<|j i e⟩
 ·exact .inr ⟨x,k,fun F m args i a e=>hr F m args i a<|j i e⟩
namespace T48
theorem Jy[Srt](m j nx:Bf)(t w:List AW)(y:w.length<=16)(l:∀p∈w,p.2.length<=1000000):∀(r:List AW) (i n:Nat) (o seen:List Bf),w.drop i=r->i<=w.length->n=o.length->n=i->(∀x,x∈o↔x∈seen)->(∀ob,Q (.dat i64<|dT seen r) ob)->Ends RZ (L3 n (i:Int) o m j nx t w) Q
 |[],i,n,o,seen,h,q,f,b,g,a=>by
  have:=drop_nil h q;exact zk (Be ..) (zl (w8 ae)<|zg<|a _)
 |p::r,i,n,o,seen,h,q,f,b,g,a=>by
  obtain⟨z,A,v⟩:=drop_cons (d:=(([],[]):AW)) h;have s:=l p (zp<|by rw[h];exact zn ..);have B:=wn (i:=i) ae;have e:=nb (i:=i) (n:=w.length) ae;have tk:List.take n o=o:=by rw[f,List.take_length]
  rw[sC g]at a;refine zk (Be ..) ?_;conv=>zeta
  rw[zj,A,B,tk];have pn:(decide (0+n<=o.length)&&true&&decide (o.length<=1000))=true:=Ab (Ab (w4 ae) rfl) (w4 ae);have u:(decide (1<=1)&&true&&decide (n=o.length)&&decide ((3*(n+1)+2000)*16<=562949953421312))=true:=Ab (Ab (Ab rfl rfl)<|w4 f) (w4 ae);refine zc (w4 ae)<|zc e<|zc pn ?_;by_cases c:KL p.1 o=0
  ·rw[wc<|fun x=>x c]at a;refine zc (q0 c)<|zc e<|zc (w4 s) ?_;by_cases d:Ap p.2=0
   ·rw[wc<|fun x=>x d]at a;refine zc (q0 d)<|zc e<|zc (w4 s)<|zh (fun k=>zc rfl (zg ?_))<|fun k=>zl (n0 d)<|zc e<|zc u ?_
    ·rw[wd<|(O3 d).1<|w6 k]at a;exact a _
    ·rw[wc fun x=>w7 k<|(O3 d).2 x]at a;exact Jy m j nx t w y l r (i+1) (zt n 1) (o++[p.1]) (p.1::seen) v z (by rw[List.length_append,f];rfl) (by rw[b]) (P7 g p.1) a
   ·rw[wd d]at a;exact zl (q1 d)<|zc (n1 d)<|zg<|a _
  ·rw[wd c]at a;exact zl (q1 c)<|zl (q1 c)<|zc (n1 c)<|zg<|a _
theorem Dk[Srt](g e nx:Bf)(t w:List AW)(i:w.length<=16)(f:∀p∈w,p.2.length<=1000000)(a:∀ob,Q (.dat i64<|dT [] w) ob):Ends RZ (L2 0 g e nx t w) Q:=by
 cases w with
 |nil=>exact zk (Az ..)<|zl rfl (zg<|a _)
 |cons p r=>
  have s:=f p<|zn ..;have l:zd .i64 ((0:Int)+1)=((1:Nat):Int):=rfl;have j:(p::r).getD (Int.toNat 0) ([],[])=p:=rfl;have b:(decide ((0:Int)<=(0:Int))&&decide ((0:Int)<((p::r).length:Int)))=true:=Ab rfl (w4<|by rw[zr];omega);have m:∀x:Bf,x∈([]:List Bf)↔x∈([]:List Bf):=fun x=>Iff.rfl
  rw[sC m]at a;refine zk (Az ..) ?_;conv=>zeta
  rw[j,l];have h:(decide (1<=1)&&decide (0<1)&&decide ((3*1+2000)*16<=562949953421312))=true:=Ab (Ab rfl rfl) (w4 ae);refine zc (w4<|by rw[zr];omega)<|zc b<|zc rfl ?_;by_cases c:KL p.1 []=0
  ·rw[wc<|fun x=>x c]at a;refine zc (q0 c)<|zc b<|zc (w4 s) ?_;by_cases d:Ap p.2=0
   ·rw[wc<|fun x=>x d]at a;refine zc (q0 d)<|zc b<|zc (w4 s)<|zh (fun k=>zc rfl (zg ?_))<|fun k=>zl (n0 d)<|zc b<|zc h ?_
    ·rw[wd<|(O3 d).1<|w6 k]at a;exact a _
    ·rw[wc fun x=>w7 k<|(O3 d).2 x]at a;exact Jy g e nx t (p::r) i f r 1 1 [p.1] [p.1] rfl (by rw[zr];omega) rfl rfl (fun x=>Iff.rfl) a
   ·rw[wd d]at a;exact zl (q1 d)<|zc (n1 d)<|zg<|a _
  ·rw[wd c]at a;exact zl (q1 c)<|zl (q1 c)<|zc (n1 c)<|zg<|a _
theorem Dx[Srt](f b nx:Bf)(t w:List AW)(m:t.length<=1000)(e:∀p∈t,Ap p.1=0/\Ap p.2=0)(g:∀p∈w,p.2.length<=1000000):∀(r:List AW) (i:Nat),t.drop i=r->1<=i->i<=t.length->(∀ob,Q (.dat i64<|if Tv (some (t.getD (i-1) ([],[])).2) r≠0 then Tv (some (t.getD (i-1) ([],[])).2) r else OQ w) ob)->Ends RZ (L1 (i:Int) f b nx t w) Q
 |[],i,h,l,j,a=>by
  have:=drop_nil h j;have a:∀ob,Q (.dat i64<|OQ w) ob:=fun ob=>by
   have:=a ob;rwa [show Tv (some (t.getD (i-1) ([],[])).2) []=0 from rfl,wc<|fun x=>x rfl]at this
  unfold OQ at a;refine zk (Ak ..) (zl (w8 ae)<|zh (fun c=>zg ?_)<|fun c=>?_)
  ·have c:=w6 c;rw[wd ae]at a;exact a _
  ·have c:=w7 c;rw[wc ae]at a;exact Dk f b nx t w ae g a
 |p::r,i,h,l,j,a=>by
  obtain⟨q,k,o⟩:=drop_cons (d:=(([],[]):AW)) h;have s:=e p (zp<|by rw[h];exact zn ..);have u:=e (t.getD (i-1) ([],[])) (Fb ae);have v:=wn (i:=i) ae;have n:zd .i64 ((i:Int)-1)=((i-1:Nat):Int):=by rw[wr _ ae ae];omega
  rw[Xr]at a;refine zk (Ak ..) ?_;conv=>zeta
  rw[n,zj,zj,k,v];refine zc (w4 ae) (zc (ad ae ae)<|zc (ad ae ae)<|zc (Ab (C1 s.2).1<|(LR u.2).C0 af)<|zh (fun d=>zg ?_)<|fun d=>?_)
  ·rw[wd<|w6 d,wd af]at a;exact a _
  ·rw[wc<|w7 d]at a;exact Dx f b nx t w m e g r (i+1) o ae q (by rw[Nat.add_sub_cancel,k];exact a)
theorem okM[Srt]:Af AY 48 AeF:=by
 refine BA mN<|fun(l:Bq) hi=>?_;have i:=zR hi;have j:∀e ob,e=Ke l->Ac AeF l (.dat i64 e) ob:=fun e ob x=>z7 rfl rfl x
 have hp:GY 1000000 l.2.2.2.1=true:=by
  unfold GY;rw[yf];intro p hp;have:=i.tab p hp;exact ad ae ae
 have a1:=i.head;have a2:=i.next;have a3:=i.tl;have o:∀p∈l.2.2.2.2,p.2.length<=1000000:=fun p hp=>by have:=i.wts p hp;omega
 have m:∀ {a:Bf},a.length<=20->(decide (a.length<=1000000)&&Hi 1&&Hi 10000)=true:=fun k=>Ab (Ab (w4 ae) rfl) rfl
 have pt:(decide (l.2.2.2.1.length<=1000)&&GY 1000000 l.2.2.2.1)=true:=Ab (w4 ae) hp;have b:=cS l;have bad:∀x:Int,x≠0->Mr l=x->x=Ke l:=fun x h k=>by
  unfold Ke;rw[k,wd h]
 refine zx (Aj l)<|zc rfl (zh (fun c=>zg<|j _ _ ?_)<|fun c=>zc (m a1) ?_)
 ·have c:zo l.1=false:=by simpa using c
  rw[wd c]at b;exact bad 8 af b
 have c:¬zo l.1=false:=by simpa using c
 rw[wc c]at b;by_cases f:BO l.2.1 1 10000=0
 ·rw[wc<|fun x=>x f]at b;refine zc (q0 f)<|zc (m a2) ?_;by_cases g:BO l.2.2.1 1 10000=0
  ·rw[wc<|fun x=>x g]at b;refine zc (q0 g) (zc pt (zh (fun d=>zg<|j _ _<|bad _ (by simpa using d) b)<|fun d=>?_));have ct:BL l.2.2.2.1=0:=by simpa using d
   rw[ct]at b;obtain⟨n,_,s⟩:=Er ct;obtain⟨p,r,hr⟩:∃p r,l.2.2.2.1=p::r:=by
    cases e:l.2.2.2.1 with
    |nil=>exact wh e n
    |cons p r=>exact⟨p,r,rfl⟩
   have q:l.2.2.2.1.getD (1-1) ([],[])=p:=by rw[hr];rfl
   have up:Tv none l.2.2.2.1=Tv (some p.2) r:=by rw[hr,Tv]
   refine Dx _ _ _ _ _ ae (Pu s) o r 1 (by rw[hr];rfl) ae (by rw[hr,zr];omega)<|fun ob=>j _ _ ?_;rw[q, <-up];exact(wc (c:=Mr l≠0)<|fun x=>x b).symm
  ·rw[wd g]at b;exact zl (q1 g)<|zc (n1 g)<|zg<|j _ _<|bad _ g b
 ·rw[wd f]at b;exact zl (q1 f)<|zl (q1 f)<|zc (n1 f)<|zg<|j _ _<|bad _ f b
end T48
end Go.Pe
