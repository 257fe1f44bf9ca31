import Derived.Test.YtipkapecgjpnlaaGreatDoorX09
import Derived.ChangeSame
import Derived.Test.YtipkapecgjpnlaaGreatDoorRows
import Derived.LaidByTextLater
import Derived.SevenTiedAt
import Derived.LaidSub
import Derived.LaidOnce
/- A part of a proof; no law is stated here. -/
noncomputable section
open Go.Pe.Ends renaming tt -> Za, leaf -> Zc, ite -> Ze, AO -> Zi, ff -> Zk, eq -> Zn
open List renaming getD_eq_getElem?_getD -> Zb, getElem?_eq_getElem -> Zd, mem_cons_self -> Zg, length_map -> Zl, drop_eq_getElem_cons -> Zo, mem_cons_of_mem -> Zp, length_take -> Zr, append_nil -> Zu, mem_of_mem_drop -> Zw, take_succ_eq_append_getElem -> ZB, drop_zero -> ZF, getElem?_map -> ZG, mem_cons -> ZH, take_of_length_le -> ZK, drop_of_length_le -> ZL, range -> ZO, map_nil -> ZP, getD -> ZS
open Int renaming toNat_natCast -> Zf, mul_le_mul_of_nonneg_left -> ZC, add_zero -> ZQ, toNat -> ZT
open Go.IntKind renaming i64 -> Zh, wrap -> Zt
open Go.Sp renaming first -> Zj
open Go.DataW renaming trod -> Zm
open Bool renaming and_eq_true -> Zq, true_and -> Zx, false_and -> ZE
open Go.Pe.Ak renaming of -> Zs
open Nat renaming zero_le -> Zv, le_refl -> Zy, beq_refl -> ZJ, beq -> ZR
open Go.Pe.Sh renaming list -> Zz, int -> ZA, bool -> ZN
open Go.OpenClaim renaming laidByTextAt_pinned -> ZD
open Go.Pe.Obj renaming arr -> ZI
open Go.World renaming cell? -> ZM
namespace Go.Pe
open Go.Det
section
open List Int Prod
namespace T112
def T(l:List Int):Tr:=tree Bl false 9 112<|Af ([Zz i64]) l
def L1(v5:List Int)(b a:Int):Tr:=re ((T []))<|Ba 15 [(5,.dat (Zz i64) v5),(6,.dat i64 b),(7,.dat i64 a)] [] 0
theorem AF(l:List Int):T l=L1 l ((length l:Int)) 0:=by kernel_rfl
theorem As(v5:List Int)(b a:Int):stepT Bl (L1 v5 b a)=.di (a<b) (.ck (decide (0<=a)&&decide (a<(length v5:Int)))<|.ite (getD v5 (toNat a) 0 !=0) (.leaf (.dat i64<|getD v5 (toNat a) 0) [])<|L1 v5 b<|Zt .i64<|a+1) (.leaf (.dat i64 (0:Int)) []):=by kernel_rfl
end T112
namespace T113
def T(c:Bool)(e:Int):Tr:=tree Bl false 9 113<|Af ([ZN,ZA Zh]) (c,e)
theorem AF(c:Bool)(e:Int):T c e=.ite c (.leaf (.dat i64 e) []) (.leaf (.dat i64 (0:Int)) []):=by kernel_rfl
end T113
namespace T47
def T(l:List Int):Tr:=tree Bl false 9 47<|Af ([Zz i64]) l
def L1(v5:List Int)(b a:Int):Tr:=re ((T []))<|Ba 15 [(5,.dat (Zz i64) v5),(6,.dat i64 b),(7,.dat i64 a)] [] 0
theorem AF(l:List Int):T l=L1 l ((length l:Int)) 0:=by kernel_rfl
theorem As(v5:List Int)(b a:Int):stepT Bl (L1 v5 b a)=.di (a<b) (.ck (decide (0<=a)&&decide (a<(length v5:Int)))<|.ite (getD v5 (toNat a) 0 !=0) (.leaf (.dat i64<|getD v5 (toNat a) 0) [])<|L1 v5 b<|Zt .i64<|a+1) (.leaf (.dat i64 (0:Int)) []):=by kernel_rfl
end T47
namespace T48
def T(c:Bool)(e:Int):Tr:=tree Bl false 9 48<|Af ([ZN,ZA Zh]) (c,e)
theorem AF(c:Bool)(e:Int):T c e=.ite c (.leaf (.dat i64 e) []) (.leaf (.dat i64 (0:Int)) []):=by kernel_rfl
end T48
namespace T56
def T(n a h:Int):Tr:=tree Xj false 9 56<|Af ([ZA Zh,ZA Zh,ZA Zh]) (n,a,h)
theorem AF(n a h:Int):T n a h=.di (n<a) (.ck true<|.leaf (.dat i64<|Sp.Cv true 3) []) (.ck true<|.leaf (.dat i64<|Sp.Cv (decide (n>h)) 3) []):=by kernel_rfl
end T56
namespace T21
def T(l:List Int):Tr:=tree Bl false 9 21<|Af ([Zz i64]) l
def L1(v0:List Int)(v3:Int):Tr:=re ((T []))<|Ba 19 [(0,.dat (Zz i64) v0),(3,.dat i64 v3)] [] 0
theorem AF(l:List Int):T l=L1 l 0:=by kernel_rfl
theorem As(v0:List Int)(v3:Int):stepT Bl (L1 v0 v3)=let a:=decide (v3<(length v0:Int));.ite a (.ck (decide (0<=v3)&&a)<|.ite (getD v0 (toNat v3) 0 !=0) (.ck (decide (0<=v3)&&a)<|.leaf (.dat i64<|getD v0 (toNat v3) 0) [])<|L1 v0<|Zt .i64<|v3+1) (.leaf (.dat i64 (0:Int)) []):=by kernel_rfl
end T21
namespace T25
def T(c:Bool)(e:Int):Tr:=tree Bl false 9 25<|Af ([ZN,ZA Zh]) (c,e)
theorem AF(c:Bool)(e:Int):T c e=.ite c (.leaf (.dat i64 e) []) (.leaf (.dat i64 (0:Int)) []):=by kernel_rfl
end T25
namespace T31
def T(n a h:Int):Tr:=tree WA false 9 31<|Af ([ZA Zh,ZA Zh,ZA Zh]) (n,a,h)
theorem AF(n a h:Int):T n a h=.di (n<a) (.ck true<|.leaf (.dat i64<|Sp.Cv true 3) []) (.ck true<|.leaf (.dat i64<|Sp.Cv (decide (n>h)) 3) []):=by kernel_rfl
end T31
namespace T30
def T(n e b w:Int):Tr:=tree Bl false 9 30<|Af ([ZA Zh,ZA Zh,ZA Zh,ZA Zh]) (n,e,b,w)
theorem AF(n e b w:Int):T n e b w=.ite (b !=0) (.ite (n==0) (.leaf (.dat ZN<|e==b) [])<|.leaf (.bl false) []) (.ite (e==0) (.leaf (.dat ZN<|n==w) [])<|.leaf (.bl false) []):=by kernel_rfl
end T30
namespace T46
def T(a b:List Int):Tr:=tree Bl false 9 46<|Af ([Zz i64,Zz i64]) (a,b)
def L1(v0 v1:List Int)(v5:Int):Tr:=re ((T [] []).R)<|Ba 26 [(0,.dat (Zz i64) v0),(1,.dat (Zz i64) v1),(5,.dat i64 v5)] [] 0
theorem AF(a b:List Int):T a b=.ite ((length a:Int) !=(length b:Int)) (.leaf (.bl false) []) (L1 a b 0):=by kernel_rfl
theorem As(v0 v1:List Int)(v5:Int):stepT Bl (L1 v0 v1 v5)=let a:=decide (v5<(length v0:Int));.ite a (.ck (decide (0<=v5)&&a)<|.ck (decide (0<=v5)&&decide (v5<(length v1:Int)))<|.ite (getD v0 (toNat v5) 0 !=getD v1 (toNat v5) 0) (.leaf (.bl false) [])<|L1 v0 v1<|Zt .i64<|v5+1) (.leaf (.bl true) []):=by kernel_rfl
end T46
namespace T29
def T(l:List Int)(e b:Int)(w:List Int):Tr:=tree Xt false 9 29<|Af ([Zz i64,ZA Zh,ZA Zh,Zz i64]) (l,e,b,w)
theorem AF(l:List Int)(e b:Int)(w:List Int):T l e b w=.ite (b !=0) (.ite ((length l:Int)==0) (.leaf (.dat ZN<|e==b) [])<|.leaf (.bl false) []) (.ite (e==0) (.cd (length l<=1000000)<|.leaf (.dat ZN<|decide (l=w)) [])<|.leaf (.bl false) []):=by kernel_rfl
end T29
end
open Sp
theorem KY{s:Sh}{sz:Nat}(f:s.sz=sz){id n:Nat}{tail:Ob}{fz:Bool}{t:TypeId}{o:List s.T}(g:n=o.length):G7 [.list s] (.sl id sz 0 n none) ((id,.arr fz t s o)::tail)=some (true,o):=by
 subst g f;have a:Aj ((id,ZI fz t s o)::tail) id=some (.arr fz t s o):=by unfold Aj;rw[ZJ];rfl
 show Dz ⟨0,.leaf,(id,.arr fz t s o)::tail,0⟩ (.list s) (.sl id s.sz 0 o.length none)=some (true,o);unfold Dz;have e:Bt ⟨0,.leaf,(id,.arr fz t s o)::tail,0⟩ (PV.cells<|.sl id s.sz 0 o.length none)=some (true,[.dat (.list s) o]):=by
  show(match AV ⟨0,.leaf,(id,.arr fz t s o)::tail,0⟩ (.sl id s.sz 0 o.length none),some (true,[])with|some (c,x),some (d,b)=>some (c&&d,x::b)|_,_=>none)=_;have:AV ⟨0,.leaf,(id,.arr fz t s o)::tail,0⟩ (.sl id s.sz 0 o.length none)=some (true,.dat (.list s) o):=by
   unfold AV Ag.obj;simp only[a,ZJ,wc];simp
  rw[this];rfl
 simp only[Hn,Sh.Ho];show(match Bt ⟨0,.leaf,(id,.arr fz t s o)::tail,0⟩ (PV.cells<|.sl id s.sz 0 o.length none)with|some (c,cs)=>_|none=>none)=_;rw[e];have:Bp (.list s) [PV.dat (.list s) o]=some o:=by
  unfold Bp A2 TB Cc;simp
 simp only[Io,this,Zx]
theorem Ua{s:Sh}{sz:Nat}(g:s.sz=sz){id n:Nat}{tail:Ob}{fz:Bool}{t:TypeId}{o:List s.T}{e:Int}(i:n=o.length):G7 [.list s,i64] (.tup [.sl id sz 0 n none,.dat i64 e]) ((id,.arr fz t s o)::tail)=some (true,(o,e)):=by
 subst i g;have a:Aj ((id,ZI fz t s o)::tail) id=some (.arr fz t s o):=by unfold Aj;rw[ZJ];rfl
 have h0:Dz ⟨0,.leaf,(id,.arr fz t s o)::tail,0⟩ (.list s) (.sl id s.sz 0 o.length none)=some (true,o):=by
  unfold Dz;have f:Bt ⟨0,.leaf,(id,.arr fz t s o)::tail,0⟩ (PV.cells<|.sl id s.sz 0 o.length none)=some (true,[.dat (.list s) o]):=by
   show(match AV ⟨0,.leaf,(id,.arr fz t s o)::tail,0⟩ (.sl id s.sz 0 o.length none),some (true,[])with|some (c,x),some (d,b)=>some (c&&d,x::b)|_,_=>none)=_;have:AV ⟨0,.leaf,(id,.arr fz t s o)::tail,0⟩ (.sl id s.sz 0 o.length none)=some (true,.dat (.list s) o):=by
    unfold AV Ag.obj;simp only[a,ZJ,wc];simp
   rw[this];rfl
  simp only[Hn,Sh.Ho];show(match Bt ⟨0,.leaf,(id,.arr fz t s o)::tail,0⟩ (PV.cells<|.sl id s.sz 0 o.length none)with|some (c,cs)=>_|none=>none)=_;rw[f];have:Bp (.list s) [PV.dat (.list s) o]=some o:=by
   unfold Bp A2 TB Cc;simp
  simp only[Io,this,Zx]
 unfold G7 DT;simp only;unfold Bm;rw[h0];rfl
theorem BC:Jx Bl:=fun g sp h=>by cases h
namespace T47
theorem loop{Q:PV->Ob->Prop}(l:List Int)(n:l.length<=1000000)(a:∀ob,Q (.dat i64<|Zj l) ob):∀(r:List Int) (i:Nat),l.drop i=r->i<=l.length->Zj l=Zj r->Ends Bl (L1 l ((l.length:Int)) (i:Int)) Q
 |[],i,h,f,e=>by
  have he:=drop_nil h f;refine Zi (As ..) (Zk (w8 a8)<|Zc ?_);rw[e]at a;exact a _
 |x::r,i,h,f,e=>by
  obtain⟨g,k,o⟩:=drop_cons (d:=0) h;refine Zi (As ..) ?_;conv=>zeta
  have j:=wn (i:=i) a8;rw[j,Zf,k];refine Za (w4 a8) (Za (ad a8 a8) ?_);by_cases b:x=0
  ·subst b;refine Zk rfl (loop l n a r (i+1) o g ?_);rw[e];rfl
  ·have ex:Zj (x::r)=x:=by unfold Zj;rw[wb b]
   refine Za (by simpa using b)<|Zc ?_;rw[e,ex]at a;exact a _
theorem ok:Al Cd 47 CG:=by
 refine Fy BC<|fun(l:List Int) hl=>?_;exact Zn (AF l)<|loop l (w6 hl) (fun ob=>Zs rfl rfl rfl) l 0 rfl (Zv _) rfl
end T47
namespace T112
theorem loop{Q:PV->Ob->Prop}(l:List Int)(n:l.length<=1000000)(a:∀ob,Q (.dat i64<|Zj l) ob):∀(r:List Int) (i:Nat),l.drop i=r->i<=l.length->Zj l=Zj r->Ends Bl (L1 l ((l.length:Int)) (i:Int)) Q
 |[],i,h,f,e=>by
  have he:=drop_nil h f;refine Zi (As ..) (Zk (w8 a8)<|Zc ?_);rw[e]at a;exact a _
 |x::r,i,h,f,e=>by
  obtain⟨g,k,o⟩:=drop_cons (d:=0) h;refine Zi (As ..) ?_;conv=>zeta
  have j:=wn (i:=i) a8;rw[j,Zf,k];refine Za (w4 a8) (Za (ad a8 a8) ?_);by_cases b:x=0
  ·subst b;refine Zk rfl (loop l n a r (i+1) o g ?_);rw[e];rfl
  ·have ex:Zj (x::r)=x:=by unfold Zj;rw[wb b]
   refine Za (by simpa using b)<|Zc ?_;rw[e,ex]at a;exact a _
theorem ok:Al Cd 112 CG:=by
 refine Fy BC<|fun(l:List Int) hl=>?_;exact Zn (AF l)<|loop l (w6 hl) (fun ob=>Zs rfl rfl rfl) l 0 rfl (Zv _) rfl
end T112
namespace T21
theorem loop{Q:PV->Ob->Prop}(l:List Int)(n:l.length<=1000000)(a:∀ob,Q (.dat i64<|Zj l) ob):∀(r:List Int) (i:Nat),l.drop i=r->i<=l.length->Zj l=Zj r->Ends Bl (L1 l (i:Int)) Q
 |[],i,h,f,e=>by
  have he:=drop_nil h f;refine Zi (As ..) (Zk (w8 a8)<|Zc ?_);rw[e]at a;exact a _
 |x::r,i,h,f,e=>by
  obtain⟨g,k,o⟩:=drop_cons (d:=0) h;refine Zi (As ..) ?_;conv=>zeta
  have j:=wn (i:=i) a8;rw[j,Zf,k];refine Za (w4 a8) (Za (ad a8 a8) ?_);by_cases b:x=0
  ·subst b;refine Zk rfl (loop l n a r (i+1) o g ?_);rw[e];rfl
  ·have ex:Zj (x::r)=x:=by unfold Zj;rw[wb b]
   refine Za (by simpa using b) (Za (ad a8 a8)<|Zc ?_);rw[e,ex]at a;exact a _
theorem ok:Al Cd 21 CG:=by
 refine Fy BC<|fun(l:List Int) hl=>?_;exact Zn (AF l)<|loop l (w6 hl) (fun ob=>Zs rfl rfl rfl) l 0 rfl (Zv _) rfl
end T21
theorem T48.ok:Al Cd 48 Ec:=by
 refine Fy BC<|fun⟨c,e⟩ _=>?_;refine Zn (T48.AF c e)<|Ze (fun h=>Zc<|Zs rfl rfl ?_)<|fun h=>Zc<|Zs rfl rfl ?_
 ·show e=Cv c e;rw[h];rfl
 ·show(0:Int)=Cv c e;rw[h];rfl
theorem T113.ok:Al Cd 113 Ec:=by
 refine Fy BC<|fun⟨c,e⟩ _=>?_;refine Zn (T113.AF c e)<|Ze (fun h=>Zc<|Zs rfl rfl ?_)<|fun h=>Zc<|Zs rfl rfl ?_
 ·show e=Cv c e;rw[h];rfl
 ·show(0:Int)=Cv c e;rw[h];rfl
theorem T25.ok:Al Cd 25 Ec:=by
 refine Fy BC<|fun⟨c,e⟩ _=>?_;refine Zn (T25.AF c e)<|Ze (fun h=>Zc<|Zs rfl rfl ?_)<|fun h=>Zc<|Zs rfl rfl ?_
 ·show e=Cv c e;rw[h];rfl
 ·show(0:Int)=Cv c e;rw[h];rfl
theorem RX:Jx Xj:=Ai T48.ok BB
theorem T56.ok:Al Cd 56 JD:=by
 refine Fy RX<|fun(i:Int×Int×Int) _=>?_;obtain⟨n,a,h⟩:=i;have b:∀e ob,e=Cb n a h->Ak JD (n,a,h) (.dat i64 e) ob:=fun e ob x=>Zs rfl rfl x
 refine Zn (T56.AF n a h)<|Ze (fun c=>Za rfl (Zc<|b _ _ ?_))<|fun c=>Za rfl (Zc<|b _ _ ?_)
 ·unfold Cb;rw[wb<|.inl<|w6 c];rfl
 ·have c:=w7 c;unfold Cb Cv;by_cases d:h<n
  ·rw[wb<|.inr d,w4 a8];rfl
  ·rw[wa a8,w8 a8];rfl
theorem R4:Jx WA:=Ai T25.ok BB
theorem T31.ok:Al Cd 31 JD:=by
 refine Fy R4<|fun(i:Int×Int×Int) _=>?_;obtain⟨n,a,h⟩:=i;have b:∀e ob,e=Cb n a h->Ak JD (n,a,h) (.dat i64 e) ob:=fun e ob x=>Zs rfl rfl x
 refine Zn (T31.AF n a h)<|Ze (fun c=>Za rfl (Zc<|b _ _ ?_))<|fun c=>Za rfl (Zc<|b _ _ ?_)
 ·unfold Cb;rw[wb<|.inl<|w6 c];rfl
 ·have c:=w7 c;unfold Cb Cv;by_cases d:h<n
  ·rw[wb<|.inr d,w4<|show n>h from d];rfl
  ·rw[wa a8,w8<|show ¬n>h from d];rfl
theorem T30.ok:Al Cd 30 Ow:=by
 refine Fy BC<|fun(i:Int×Int×Int×Int) _=>?_;obtain⟨n,e,b,w⟩:=i;have a:∀v ob,v=Hu n e b w->Ak Ow (n,e,b,w) (.dat .bool v) ob:=fun v ob h=>Zs rfl rfl h
 have f:∀v ob,v=Hu n e b w->Ak Ow (n,e,b,w) (.bl v) ob:=fun v ob h=>Zs rfl rfl h
 refine Zn (T30.AF n e b w)<|Ze (fun c=>Ze (fun d=>Zc<|a _ _ ?_)<|fun d=>Zc<|f _ _ ?_)<|fun c=>Ze (fun d=>Zc<|a _ _ ?_)<|fun d=>Zc<|f _ _ ?_
 ·have c:b≠0:=by simpa using c
  have d:n=0:=by simpa using d
  unfold Hu;rw[wb c,w4 d,Zx];rfl
 ·have c:b≠0:=by simpa using c
  have d:¬n=0:=by simpa using d
  unfold Hu;rw[wb c,w8 d,ZE]
 ·have c:b=0:=by simpa using c
  have d:e=0:=by simpa using d
  unfold Hu;rw[wa a8,w4 d,Zx];rfl
 ·have c:b=0:=by simpa using c
  have d:¬e=0:=by simpa using d
  unfold Hu;rw[wa a8,w8 d,ZE]
namespace T46
variable {Q:PV->Ob->Prop}
theorem loop(a b:List Int)(q:a.length<=1000000)(g:a.length=b.length)(f:a=b->∀ob,Q (.bl true) ob)(o:a≠b->∀ob,Q (.bl false) ob):∀(k i:Nat),i+k=a.length->(∀j,j<i->a.getD j 0=b.getD j 0)->Ends Bl (L1 a b (i:Int)) Q
 |0,i,h,d=>by
  refine Zi (As ..) (Zk (w8 a8)<|Zc<|f ?_ _);refine List.ext_getElem g fun j r t=>?_
  have:=d j a8;rw[Zb,Zd r,Zb,Zd t]at this;exact this
 |k+1,i,h,d=>by
  have s:=wn (i:=i) a8;have bd:∀n:Nat,i<n->(decide ((0:Int)<=(i:Int))&&decide ((i:Int)<(n:Int)))=true:=fun n v=>ad a8 a8
  refine Zi (As ..) ?_;conv=>zeta
  rw[s,Zf];refine Za (w4 a8) (Za (bd _ a8) (Za (bd _ a8)<|Ze (fun z=>Zc<|o ?_ _)<|fun z=>loop a b q g f o k (i+1) a8 fun j u=>?_))
  ·rintro rfl;simp at z
  ·have z:a.getD i 0=b.getD i 0:=by simpa using z
   by_cases e:j=i
   ·rw[e];exact z
   ·exact d j a8
theorem ok:Al Cd 46 NI:=by
 refine Fy BC<|fun(i:List Int×List Int) d=>?_;obtain⟨a,b⟩:=i;have d:a.length<=1000000:=w6 d;have f:∀v ob,v=decide (a=b)->Ak NI (a,b) (.bl v) ob:=fun v ob e=>Zs rfl rfl e
 refine Zn (AF a b)<|Ze (fun z=>Zc<|f _ _ ?_)<|fun z=>?_
 ·refine(w8 fun e=>?_).symm;subst e;simp at z
 ·have z:a.length=b.length:=by
   have z:(a.length:Int)=(b.length:Int):=by simpa using z
   omega
  exact loop a b d z (fun e ob=>f _ _ (w4 e).symm) (fun e ob=>f _ _ (w8 e).symm) a.length 0 a8 (fun j h=>we h a8)
end T46
theorem Qr:Jx Xt:=Ai T46.ok BB
theorem T29.ok:Al Cd 29 T2:=by
 refine Fy Qr<|fun(i:List Int×Int×Int×List Int) a=>?_;obtain⟨h,e,b,w⟩:=i;have a:decide (h.length<=1000000)=true:=a;have f:∀v ob,v=Gk h e b w->Ak T2 (h,e,b,w) (.dat .bool v) ob:=fun v ob x=>Zs rfl rfl x
 have g:∀v ob,v=Gk h e b w->Ak T2 (h,e,b,w) (.bl v) ob:=fun v ob x=>Zs rfl rfl x
 refine Zn (T29.AF h e b w)<|Ze (fun c=>Ze (fun d=>Zc<|f _ _ ?_)<|fun d=>Zc<|g _ _ ?_)<|fun c=>Ze (fun d=>Za a<|Zc<|f _ _ ?_)<|fun d=>Zc<|g _ _ ?_
 ·have c:b≠0:=by simpa using c
  have d:h=[]:=by simpa using d
  unfold Gk;rw[wb c,w4 d,Zx];rfl
 ·have c:b≠0:=by simpa using c
  have d:¬h=[]:=by simpa using d
  unfold Gk;rw[wb c,w8 d,ZE]
 ·have c:b=0:=by simpa using c
  have d:e=0:=by simpa using d
  unfold Gk;rw[wa a8,w4 d,Zx]
 ·have c:b=0:=by simpa using c
  have d:¬e=0:=by simpa using d
  unfold Gk;rw[wa a8,w8 d,ZE]
end Go.Pe
namespace Go.Sp
theorem DI{a b:Int}(h:a≠0):first [a,b]=a:=by unfold first;rw[wb h]
theorem HU(b:Int):first [0,b]=b:=by
 unfold first first first
 by_cases h:b=0
 ·subst h;rfl
 ·rw[wa aa,wb h]
theorem CR{h:List (Int×Int)}{c:Int}(k:AZ h c=0):Ap h=0/\ -99<=c/\c<=99:=by
 unfold AZ at k;by_cases a:Ap h=0
 ·rw[a,HU]at k;unfold Cb at k;split at k
  ·cases k
  ·exact⟨a,by omega,by omega⟩
 ·rw[DI a]at k;exact we k a
theorem HE{h:List (Int×Int)}{c:Int}(k:Fh h c=true):Ap h=0/\ -99<=c/\c<=99:=by
 unfold Fh at k;rw[Zq,Zq,w5,w5,w5]at k;exact⟨k.1.1,k.1.2,k.2⟩
theorem Ko{h:List (Int×Int)}{c:Int}(a:Ap h=0)(b: -99<=c)(d:c<=99):Fh h c=true:=by
 unfold Fh;rw[w4 a,w4 b,w4 d];rfl
theorem N3{h:List (Int×Int)}{c:Int}{i:Nat}(b:i<h.length){x:Int×Int}(a:h.getD i (0,0)=x):(Be h c).getD i 0=Bb h.length c x.2:=by
 rw[Zb,Zd b]at a;have a:h[i]=x:=a;unfold Be;rw[Zb,ZG,Zd b,a];rfl
theorem Lc{x:Int×Y}{m:Int}(b:0<=x.1/\x.1<=99)(a: -95<=m/\m<=108): -95<=Ck x m/\Ck x m<=108:=by
 unfold Ck;split
 ·exact a
 ·split<;>omega
theorem EW{x:Int×Y}(h:Cf x=0):0<=x.1/\x.1<=99:=by
 unfold Cf at h;split at h
 ·split at h
  ·cases h
  ·omega
 ·split at h
  ·split at h
   ·omega
   ·cases h
  ·cases h
theorem DY:∀ {l:List (Int×Y)},Dd l=0->∀x∈l,Cf x=0
 |[],_,x,a=>by cases a
 |y::l,h,x,a=>by
  rw[Dd]at h;split at h
  ·next c=>
   rcases ZH.1 a with rfl|a
   ·exact c
   ·exact DY h x a
  ·next c=>exact we h c
theorem D2{h:List (Int×Int)}{p:Y}{l:List (Int×Y)}(k:A0 h p l=0):Ap h=0/\l.length=h.length/\Dd l=0:=by
 have z:∀ {l:List Int},first l=0->∀x∈l,x=0:=by
  intro l;induction l with
  |nil=>intro _ x f;cases f
  |cons y l g=>
   intro h x f;unfold first at h
   split at h
   ·next c=>exact we h c
   ·next c=>
    rcases ZH.1 f with rfl|f
    ·exact Classical.not_not.1 c
    ·exact g h x f
 have z:=z k;have a:=z _<|Zg ..;have b:=z _<|Zp _<|Zp _<|Zg ..;have d:=z _<|Zp _<|Zp _<|Zp _<|Zg ..;refine⟨a,?_,d⟩;by_cases e:l.length=h.length
 ·exact e
 ·rw[w4 e]at b;cases b
end Go.Sp
namespace Go.Pe
open Sp
open Go.Det
namespace T115
variable {Q:PV->Ob->Prop}{h:List (Int×Int)}{c:Int}
theorem loop(H:Bo h)(f: -99<=c/\c<=99)(a:Q (.sl 0 1 0 (Be h c).length none) [(0,ZI false 3 i64<|Be h c)]):∀(r:List (Int×Int)) (i:Nat) (o:List Int),h.drop i=r->i<=h.length->o.length=i->o++r.map (fun x=>Bb h.length c x.2)=Be h c->Ends Bl (L2 (c/h.length) (c % h.length) o.length h (h.length:Int) (i:Int) o) Q
 |[],i,o,g,j,b,e=>by
  have he:=drop_nil g j;refine Zi (BV ..) (Zk (w8 a8)<|Zc ?_);rw[<-e,ZP,Zu]at a;exact a
 |x::r,i,o,g,j,b,e=>by
  obtain⟨t,w,y⟩:=drop_cons (d:=((0:Int),(0:Int))) g;have u:=H.le;have bd:=Ci (n:=(h.length:Int)) (x:=x.2) (by have:=H.pos;omega) f;have q:=wn (i:=i) a8;have cap:(decide ((1:Nat)<=(1:Nat))&&true&&decide (o.length=o.length)&&decide ((3*(o.length+1)+2000)*8<=562949953421312))=true:=by
   rw[w4 (show(1:Nat)<=1 by omega),w4 rfl,w4 a8];rfl
  have s:∀v:Int,(o++[v]).length=Nat.add o.length 1:=fun v=>by simp
  have nx:=loop H f a r (i+1) (o++[Bb h.length c x.2]) y t (by simp[b]) (by rw[<-e];simp);rw[s]at nx;refine Zi (BV ..) ?_;conv=>zeta
  rw[q,Zf,w];refine Za (w4 a8) (Za (ad a8 a8)<|Ze (fun k=>Za cap ?_)<|fun k=>Za cap ?_)
  ·have k:x.2<=c % h.length:=w6 k;have v:Bb h.length c x.2=c/h.length+1:=by unfold Bb;rw[wb k]
   rw[wr (c/h.length+1) a8 a8, <-v];exact nx
  ·have k:¬x.2<=c % h.length:=w7 k;have v:Bb h.length c x.2=c/h.length:=by unfold Bb;rw[wa k];omega
   rw[v]at nx;exact nx
theorem start(H:Bo h)(a: -99<=c/\c<=99)(b:Q (.sl 0 1 0 (Be h c).length none) [(0,ZI false 3 i64<|Be h c)]):Ends Bl (L1 (c/h.length) (c % h.length) h (h.length:Int) 0) Q:=by
 have d:=H.pos;have e:=H.le;cases h with
 |nil=>cases d
 |cons x t=>
  have bd:=Ci (n:=(((x::t).length:Nat):Int)) (x:=x.2) a8 a;have nx:=loop H a b t 1 [Bb (x::t).length c x.2] rfl (by simp) rfl rfl;refine Zi (As ..) (Za (w4 a8) (Za (Br rfl (w4 a8))<|Ze (fun k=>Za rfl ?_)<|fun k=>Za rfl ?_))
  ·have k:x.2<=c % (x::t).length:=w6 k;have v:Bb (x::t).length c x.2=c/(x::t).length+1:=by unfold Bb;rw[wb k]
   rw[wr (c/((x::t).length:Int)+1) a8 a8, <-v];exact nx
  ·have k:¬x.2<=c % (x::t).length:=w7 k;have v:Bb (x::t).length c x.2=c/(x::t).length:=by unfold Bb;rw[wa k];omega
   rw[v]at nx;exact nx
theorem ok:Al Cd 115 O4:=by
 refine Fy BC<|fun(i:List (Int×Int)×Int) e=>?_;obtain⟨h,c⟩:=i;have e:Fh h c=true:=e;obtain⟨k1,k2,k3⟩:=HE e;have H:=CY k1;have o:=H.pos;have f:=H.le;have d:(0:Int)<h.length:=a8
 have fl:=Rr (a:=c) d;have q: -99<=c/(h.length:Int):=by
  refine Int.le_ediv_of_mul_le d ?_;have:=ZC (show 1<=(h.length:Int)by omega) (show(0:Int)<=99 by decide);omega
 have n:c/(h.length:Int)<=99:=by
  refine Int.ediv_le_of_le_mul d ?_;have:=ZC (show 1<=(h.length:Int)by omega) (show(0:Int)<=99 by decide);omega
 have r:=Int.mul_ediv_add_emod c (h.length:Int);have j:=Int.emod_nonneg c (show(h.length:Int)≠0 by omega);have g:=Int.emod_lt_of_pos c d;have st:=start (Q:=Ak O4 (h,c)) H ⟨k2,k3⟩<|Zs (KY rfl rfl) rfl rfl;have b:Zt .i64 (c-Zt .i64 (c/(h.length:Int)*(h.length:Int)))=c % h.length:=by
  rw[Int.mul_comm,wr ((h.length:Int)*(c/h.length)) a8 a8,wr _ a8 a8];omega
 refine Zn (AF h c) (Za (w4 a8)<|Za (w4 a8)<|Ze (fun k=>?_)<|fun k=>?_)
 ·rw[wb<|w6 k]at fl;rw[wr (Int.tdiv c h.length) a8 a8,fl,wr (c/(h.length:Int)) a8 a8,b];exact st
 ·rw[wa<|w7 k]at fl;rw[fl,wr (c/(h.length:Int)) a8 a8,b];exact st
end T115
theorem RF:Jx WB:=Ai T66.ok<|Ai T115.ok<|Ai T112.ok<|Ai T113.ok BB
namespace T68
theorem ok:Al Cd 68 Oj:=by
 refine Fy RF<|fun(i:List (Int×Int)×Int) f=>?_;obtain⟨h,c⟩:=i;have f:decide (h.length<=1000000)=true:=f;have g:∀(e:Int) ob,e≠0->e=AZ h c->Ak Oj (h,c) (.tup [.nil,.dat i64 e]) ob:=fun e ob k r=>Zs rfl rfl (by
  show(([]:List Int),e)=(Lt h c,AZ h c);unfold Lt;rw[<-r,wa k])
 have j:∀ob,AZ h c=0->Ak Oj (h,c) (.tup [.dat Jp<|Be h c,.dat i64 0]) ob:=fun ob r=>Zs rfl rfl (by
  show(Be h c,(0:Int))=(Lt h c,AZ h c);unfold Lt;rw[r,wb rfl])
 have w0:Zt .i64 ((0:Int)-99)= -99:=rfl;refine Zn (AF h c)<|Za f ?_;rw[w0];refine Ze (fun a=>Za rfl (Za rfl ?_))<|fun a=>Za rfl (Za rfl ?_)
 ·have a:c< -99:=w6 a;have e:Zj [Ap h,Cv true 3]=AZ h c:=by unfold AZ Cb;rw[wb<|.inl a];rfl
  rw[e];refine Ze (fun b=>Zc<|g _ _ (by simpa using b) rfl)<|fun b=>?_;have b:AZ h c=0:=by simpa using b
  have:=CR b;omega
 ·have a:¬c< -99:=w7 a;have e:Zj [Ap h,Cv (decide (c>99)) 3]=AZ h c:=by
   unfold AZ Cb;by_cases d:99<c
   ·rw[wb<|.inr d,w4<|show c>99 from d];rfl
   ·rw[wa a8,w8<|show ¬c>99 from d];rfl
  rw[e];refine Ze (fun b=>Zc<|g _ _ (by simpa using b) rfl)<|fun b=>?_;have b:AZ h c=0:=by simpa using b
  obtain⟨x,y,z⟩:=CR b;exact Za (Ko x y z)<|Zc<|j _ b
end T68
theorem Ry:Jx NP:=Ai T66.ok<|Ai T68.ok<|Ai T47.ok<|Ai T56.ok BB
namespace T26
variable {Q:PV->Ob->Prop}{h:List (Int×Int)}{c:Int}
theorem loop(H:Bo h)(f: -99<=c/\c<=99)(a:Q (.tup [.sl 0 1 0 (Ax h c).length none,.dat i64 0]) [(0,ZI false 3 i64<|Ax h c)]):∀(r:List (Int×Int)) (i:Nat) (o:List Int),h.drop i=r->i<=h.length->o.length=i->o++r.map (fun x=>x.1+2+Bb h.length c x.2)=Ax h c->Ends NP (L2 (Be h c) o.length h (h.length:Int) (i:Int) o) Q
 |[],i,o,g,j,b,e=>by
  have he:=drop_nil g j;refine Zi (BV ..) (Zk (w8 a8)<|Zc ?_);rw[<-e,ZP,Zu]at a;exact a
 |x::r,i,o,g,j,b,e=>by
  obtain⟨k,q,w⟩:=drop_cons (d:=((0:Int),(0:Int))) g;have u:=H.le;have y:=H.all x (Zw (i:=i)<|by rw[g];exact Zg ..);have bd:=Ci (n:=(h.length:Int)) (x:=x.2) (by have:=H.pos;omega) f;have gl:(Be h c).length=h.length:=Zl ..;have s:=wn (i:=i) a8;have cap:(decide ((1:Nat)<=(1:Nat))&&true&&decide (o.length=o.length)&&decide ((3*(o.length+1)+2000)*8<=562949953421312))=true:=by
   rw[w4 (show(1:Nat)<=1 by omega),w4 rfl,w4 a8];rfl
  have t:∀v:Int,(o++[v]).length=Nat.add o.length 1:=fun v=>by simp
  have nx:=loop H f a r (i+1) (o++[x.1+2+Bb h.length c x.2]) w k (by simp[b]) (by rw[<-e];simp);rw[t]at nx;refine Zi (BV ..) ?_;conv=>zeta
  rw[s,Zf,q,N3 k q,wr (x.1+2) a8 a8,wr (x.1+2+Bb h.length c x.2) a8 a8];exact Za (w4 a8) (Za (ad a8 a8)<|Za (ad a8 a8)<|Za cap nx)
theorem start(H:Bo h)(a: -99<=c/\c<=99)(b:Q (.tup [.sl 0 1 0 (Ax h c).length none,.dat i64 0]) [(0,ZI false 3 i64<|Ax h c)]):Ends NP (L1 (Be h c) h (h.length:Int) 0) Q:=by
 have d:=H.pos;have e:=H.le;have gl:(Be h c).length=h.length:=Zl ..;cases h with
 |nil=>cases d
 |cons x t=>
  have f:=H.all x<|Zg ..;have bd:=Ci (n:=(((x::t).length:Nat):Int)) (x:=x.2) a8 a;have nx:=loop H a b t 1 [x.1+2+Bb (x::t).length c x.2] rfl (by simp) rfl rfl;have v:ZS (Be (x::t) c) (ZT 0) 0=Bb (x::t).length c x.2:=rfl;refine Zi (As ..) ?_;conv=>zeta
  rw[show ZS (x::t) (ZT 0) ((0:Int),(0:Int))=x from rfl,v,wr (x.1+2) a8 a8,wr (x.1+2+Bb (x::t).length c x.2) a8 a8];exact Za (w4 a8) (Za (Br rfl (w4 a8)) (Za (Br rfl (w4 a8))<|Za rfl nx))
theorem ok:Al Cd 26 TQ:=by
 refine Fy Ry<|fun(i:List (Int×Int)×Int) b=>?_;obtain⟨h,c⟩:=i;have b:decide (h.length<=1000000)=true:=b;have e:Zj [Ap h,Cb c (-99) 99]=AZ h c:=rfl
 refine Zn (AF h c)<|Za b<|Za rfl (Za rfl ?_);rw[e];refine Ze (fun a=>Zc<|Zs rfl rfl ?_)<|fun a=>?_
 ·have a:AZ h c≠0:=by simpa using a
  show(([]:List Int),AZ h c)=(Db h c,AZ h c);unfold Db;rw[wa a]
 ·have a:AZ h c=0:=by simpa using a
  obtain⟨j,d,f⟩:=CR a;have g:Lt h c=Be h c:=by unfold Lt;rw[wb a]
  rw[g];refine Za b (Zk (by rw[a];rfl)<|start (CY j) ⟨d,f⟩<|Zs (Ua rfl rfl) rfl ?_);show(Ax h c,(0:Int))=(Db h c,AZ h c);unfold Db;rw[a,wb rfl]
end T26
theorem Lh(a b:Int):imax a b=max a b:=by unfold imax;split<;>omega
theorem OQ(a b:Int):Pz a b=min a b:=by unfold Pz;split<;>omega
theorem QE:Jx TD:=Ai T69.ok<|Ai T26.ok BB
namespace T27
variable {Q:PV->Ob->Prop}{m:List Int}{l:List (Int×Y)}
theorem loop(A:l.length<=45)(y:m.length=l.length)(w:∀x∈l,0<=x.1/\x.1<=99)(u:∀v∈m,-95<=v/\v<=108)(j:∀ob,Q (.tup [.dat i64<|BN l m,.dat i64 0]) ob):∀(r:List (Int×Y)) (i:Nat) (s:Int),l.drop i=r->i<=l.length-> -200*(i:Int)<=s/\s<=200*(i:Int)->s+BN r (m.drop i)=BN l m->Ends TD (L1 m s l (l.length:Int) (i:Int)) Q
 |[],i,s,g,q,G,e=>by
  have he:=drop_nil g q;have e:s+0=BN l m:=e;refine Zi (As ..) (Zk (w8 a8)<|Zc ?_);rw[<-e,ZQ]at j;exact j _
 |x::r,i,s,g,q,G,e=>by
  obtain⟨E,F,I⟩:=drop_cons (d:=((0:Int),([]:Y))) g;have f:i<m.length:=a8
  have B:m.drop i=m[i]::m.drop (i+1):=Zo f;have mg:m.getD i 0=m[i]:=by rw[Zb,Zd f];rfl
  have D:=w x (Zw (i:=i)<|by rw[g];exact Zg ..);have C:=u m[i]<|List.getElem_mem f;have t:=Lc D C;rw[B]at e;have e:s+(Ck x m[i]+BN r (m.drop<|i+1))=BN l m:=e;have z:=wn (i:=i) a8;have nx:=loop A y w u j r (i+1) (s+Ck x m[i]) I E a8 a8;have k:=nb (i:=i) (n:=m.length) a8;refine Zi (As ..) ?_;conv=>zeta
  rw[z,Zf,F,mg];refine Za (w4 a8) (Za (ad a8 a8)<|Ze (fun a=>Za k ?_)<|fun a=>Ze (fun b=>Za k ?_)<|fun b=>Za k ?_)
  ·have a:x.2=[120]:=by simpa using a
   have o:Ck x m[i]=m[i]:=by unfold Ck;rw[wb a]
   rw[o]at nx;rw[wr _ a8 a8];exact nx
  ·have a:¬x.2=[120]:=by simpa using a
   have b:x.2=[45]:=by simpa using b
   have o:Ck x m[i]=max 1 (m[i]-2):=by unfold Ck;rw[wa a,wb b]
   rw[o]at nx t;rw[wr (m[i]-2) a8 a8,Lh,wr _ a8 a8];exact nx
  ·have a:¬x.2=[120]:=by simpa using a
   have b:¬x.2=[45]:=by simpa using b
   have o:Ck x m[i]=min x.1 m[i]:=by unfold Ck;rw[wa a,wa b]
   rw[o]at nx t;rw[OQ,wr _ a8 a8];exact nx
theorem ok:Al Cd 27 Uo:=by
 refine Fy QE<|fun(i:List (Int×Int)×(Y×List (Int×Y))×Int) d=>?_;obtain⟨h,⟨p,l⟩,c⟩:=i;have d:(decide (h.length<=45)&&decide (p.length<=100)&&decide (l.length<=45))=true:=d;have j:=d;rw[Zq,Zq,w5,w5,w5]at j;have f:∀(v e:Int) ob,(v,e)=(CB h p l c,B9 h p l c)->Ak Uo (h,(p,l),c) (.tup [.dat i64 v,.dat i64 e]) ob:=fun v e ob k=>Zs rfl rfl k
 refine Zn (AF h (p,l) c) (Za d<|Ze (fun a=>Zc<|f _ _ _ ?_)<|fun a=>Za (w4 a8)<|Ze (fun b=>Zc<|f _ _ _ ?_)<|fun b=>?_)
 ·have a:A0 h p l≠0:=by simpa using a
  have e:B9 h p l c=A0 h p l:=DI a;unfold CB;rw[e,wa a]
 ·have a:A0 h p l=0:=by simpa using a
  have b:AZ h c≠0:=by simpa using b
  have e:B9 h p l c=AZ h c:=by
   unfold B9 AZ;rw[a,(D2 a).1]
  unfold CB;rw[e,wa b]
 ·have a:A0 h p l=0:=by simpa using a
  have b:AZ h c=0:=by simpa using b
  obtain⟨n,o,q⟩:=CR b;obtain⟨_,j1,j2⟩:=D2 a;have H:=CY n;have e:B9 h p l c=0:=by
   have:B9 h p l c=AZ h c:=by
    unfold B9 AZ;rw[a,n]
   rw[this,b]
  have g:Db h c=Ax h c:=by unfold Db;rw[wb b]
  rw[g];refine loop j.2 (by unfold Ax;rw[Zl,j1]) (fun x r=>EW<|DY j2 x r) (EZ H ⟨o,q⟩) (fun ob=>f _ _ _ ?_) l 0 0 rfl (Zv _) ⟨by omega,by omega⟩ (by rw[ZF];omega);unfold CB;rw[e,wb rfl]
end T27
end Go.Pe
namespace Go.Sp
def GN(h:List (Int×Int))(c:Int)(K i:Nat):List Int:=(CH h c<|K+1).take i++(CH h c K).drop i
theorem QS(h:List (Int×Int))(c:Int)(K:Nat):GN h c K 0=CH h c K:=by
 unfold GN;rw[List.take_zero,ZF,List.nil_append]
theorem UB(h:List (Int×Int))(c:Int)(K:Nat):GN h c K h.length=CH h c (K+1):=by
 unfold GN;rw[ZK (by rw[Bx];exact Zy _),ZL (by rw[Bx];exact Zy _),Zu]
theorem Uw(h:List (Int×Int))(c:Int)(K i:Nat):(GN h c K i).length=h.length:=by
 unfold GN;rw[List.length_append,Zr,List.length_drop,Bx,Bx];omega
theorem Og{α:Type}(a b:List α)(d:α)(i:Nat)(e:a.length=b.length)(f:i<b.length):(a.take i++b.drop i).getD i d=b.getD i d:=by
 rw[Zb,List.getElem?_append_right (by rw[Zr];omega),Zr,Zb,List.getElem?_drop,show i+(i-min i a.length)=i by omega]
theorem N8{α:Type}(a b:List α)(d:α)(i:Nat)(e:a.length=b.length)(g:i<b.length):(a.take i++b.drop i).set i (a.getD i d)=a.take (i+1)++b.drop (i+1):=by
 have f:i<a.length:=a8
 rw[List.set_append_right _ _ (by rw[Zr];omega),Zr,show i-min i a.length=0 by omega,Zo g,List.set_cons_zero,ZB f,List.append_assoc];rw[Zb,Zd f];rfl
theorem LR{α:Type}(a b:List α)(d:α)(i:Nat)(e:a.length=b.length)(f:i<b.length)(k:a.getD i d=b.getD i d):a.take i++b.drop i=a.take (i+1)++b.drop (i+1):=by
 have g:i<a.length:=a8
 have k:a[i]=b[i]:=by
  rw[Zb,Zd g,Zb,Zd f]at k;exact k
 rw[Zo f,ZB g,List.append_assoc,k];rfl
theorem TF(h:List (Int×Int))(c:Int)(K i:Nat)(a:i<h.length):(GN h c K i).getD i 0=(CH h c K).getD i 0:=Og _ _ _ _ (by rw[Bx,Bx]) (by rw[Bx];exact a)
theorem OU(h:List (Int×Int))(c:Int)(K i:Nat)(a:i<h.length):(GN h c K i).set i ((CH h c<|K+1).getD i 0)=GN h c K (i+1):=N8 _ _ _ _ (by rw[Bx,Bx]) (by rw[Bx];exact a)
theorem RO(h:List (Int×Int))(c:Int)(K i:Nat)(a:i<h.length)(k:(CH h c<|K+1).getD i 0=(CH h c K).getD i 0):GN h c K i=GN h c K (i+1):=LR _ _ _ _ (by rw[Bx,Bx]) (by rw[Bx];exact a) k
theorem Gt(n x:Int):∀K:Nat,0<=En n x K/\En n x K<=K
 |0=>by unfold En;omega
 |K+1=>by
  have:=Gt n x K;rw[En];split<;>omega
theorem PD(h:List (Int×Int))(c:Int)(K i:Nat): -(K:Int)<=(CH h c K).getD i 0/\(CH h c K).getD i 0<=K:=by
 unfold CH;rw[Zb,ZG];cases h[i]? with
 |none=>show -(K:Int)<=0/\(0:Int)<=K;omega
 |some x=>
  show -(K:Int)<=(if c<0 then _ else _)/\(if c<0 then _ else _)<=(K:Int);have a:=Gt h.length (h.length+1-x.2) K;have b:=Gt h.length x.2 K;split<;>omega
def CA(l:List CP)(i:Nat):List CP:=(AI l).take i++l.drop i
theorem A5(l:List CP):(AI l).length=l.length:=(Oh l).len
theorem Sr(l:List CP)(i:Nat):(CA l i).length=l.length:=by
 unfold CA;rw[List.length_append,Zr,List.length_drop,A5];omega
theorem JF(l:List CP):CA l 0=l:=by unfold CA;rw[List.take_zero,ZF];rfl
theorem H2(l:List CP):CA l l.length=AI l:=by
 unfold CA;rw[ZK (by rw[A5];exact Zy _),ZL<|Zy _,Zu]
theorem SD{l:List CP}{i:Nat}(a:i<l.length)(d:CP):(CA l i).getD i d=l.getD i d:=Og _ _ _ _ (A5 l) a
def Jn(l:List CP)(i:Nat):Bool:=decide (((CA l i).getD 0 (0,[])).1=(l.getD 0 (0,[])).1)
theorem I4{l:List CP}{i:Nat}(a:i<l.length):(AI l).getD i (0,[])=JL (Jn l i) (l.getD i (0,[])):=by
 cases l with
 |nil=>cases a
 |cons x l=>
  cases i with
  |zero=>
   unfold Jn;rw[JF,w4 rfl];rfl
  |succ i=>
   have a:i<l.length:=by simpa using a
   have e:Jn (x::l) (i+1)=decide (JL true x=x):=by
    unfold Jn CA;show decide ((JL true x).1=x.1)=_;rw[decide_eq_decide];constructor
    ·intro k;unfold JL at*;split at k
     ·have k:x.1+1=x.1:=k;omega
     ·next c=>rw[wa c]
    ·intro k;rw[k]
   rw[e];show(l.map _).getD i (0,[])=JL _ (l.getD i (0,[]));rw[Zb,ZG,Zd a,Zb,Zd a];rfl
theorem QM{l:List CP}{i:Nat}(a:i<l.length){y:CP}(h:y=JL (Jn l i) (l.getD i (0,[]))):(CA l i).set i y=CA l (i+1):=by
 have:=N8 (AI l) l ((0,[]):CP) i (A5 l) a;rw[I4 a, <-h]at this;exact this
theorem PB{l:List CP}{i:Nat}(a:i<l.length)(h:JL (Jn l i) (l.getD i (0,[]))=l.getD i (0,[])):CA l i=CA l (i+1):=LR _ _ _ _ (A5 l) a (by rw[I4 a,h])
theorem JW(m:List Int)(i:Nat)(a:i<m.length):K5 (m.take<|i+1)=K5 (m.take i)+m.getD i 0:=by
 induction m generalizing i with
 |nil=>cases a
 |cons x m b=>
  cases i with
  |zero=>show x+0=0+x;omega
  |succ i=>
   have:=b i (by simpa using a);show x+K5 (m.take<|i+1)=x+K5 (m.take i)+m.getD i 0;omega
theorem CS(m:List CP)(i:Nat)(a:i<m.length):Bh (m.take<|i+1)=Bh (m.take i)+(m.getD i (0,[])).1:=by
 induction m generalizing i with
 |nil=>cases a
 |cons x m b=>
  cases i with
  |zero=>show x.1+0=0+x.1;omega
  |succ i=>
   have:=b i (by simpa using a);show x.1+Bh (m.take<|i+1)=x.1+Bh (m.take i)+(m.getD i (0,[])).1;omega
theorem Mn(v:Int)(m:List (Int×Int))(i:Nat)(a:i<m.length):Ke v (m.take<|i+1)=Ke v (m.take i)+if (m.getD i (0,0)).2=v then 1 else 0:=by
 induction m generalizing i with
 |nil=>cases a
 |cons x m b=>
  cases i with
  |zero=>show(if x.2=v then(1:Int)else 0)+0=0+(if x.2=v then 1 else 0);omega
  |succ i=>
   have:=b i (by simpa using a);show(if x.2=v then(1:Int)else 0)+Ke v (m.take<|i+1)=(if x.2=v then(1:Int)else 0)+Ke v (m.take i)+_;rw[this];show _=_+(if (m.getD i (0,0)).2=v then(1:Int)else 0);omega
end Go.Sp
namespace Go.Pe
open Sp
open Go.Det
theorem Ek{i n:Int}(h:0<=i/\i<n):(decide ((0:Int)<=i)&&decide (i<n))=true:=Br (w4 h.1)<|w4 h.2
namespace T70
variable {Q:PV->Ob->Prop}{h:List (Int×Int)}{c:Int}
theorem inner(H:Bo h)(u: -99<=c/\c<=99){K:Nat}(t:K<c.natAbs)(k:Ends Bl (L1 h c h.length ((K+1:Nat):Int)<|CH h c<|K+1) Q){x:Int}(s:x=if c<0 then(h.length:Int)+1-((K:Int) % h.length+1)else(K:Int) % h.length+1):∀(r:List (Int×Int)) (i:Nat),h.drop i=r->i<=h.length->Ends Bl (L2 h c h.length (K:Int) x (i:Int)<|GN h c K i) Q
 |[],i,g,o=>by
  have he:=drop_nil g o;subst he;have j:=wn (i:=K) a8;refine Zi (BV ..) (Zk (w8 a8) ?_);rw[UB,j];exact k
 |y::r,i,g,o=>by
  obtain⟨a,q,w⟩:=drop_cons (d:=((0:Int),(0:Int))) g;have v:=H.le;have j:=wn (i:=i) a8;have nx:=inner H u t k s r (i+1) w a;have st:=RU h c K i a q;rw[<-s]at st;have bd:=PD h c K i;have z:=Uw h c K i;have b:=Ek (i:=(i:Int)) (n:=(h.length:Int)) a8;have f:decide (i<(GN h c K i).length)=true:=w4 a8;refine Zi (BV ..) ?_;conv=>zeta
  rw[j,Zf,q,TF h c K i a];refine Za (w4 a8)<|Za b<|Ze (fun e=>?_)<|fun e=>?_
  ·have e:y.2=x:=by simpa using e
   rw[wb e]at st;by_cases p:0<c
   ·rw[wa a8]at st;refine Za (w4 p)<|Za b<|Za f<|Za b<|Za f ?_;rw[wr ((CH h c K).getD i 0+1) a8 a8, <-st,OU h c K i a];exact nx
   ·rw[wb a8]at st;refine Zk (w8 p)<|Za b<|Za f<|Za b<|Za f ?_;rw[wr ((CH h c K).getD i 0-1) a8 a8,show(CH h c K).getD i 0-1=(CH h c<|K+1).getD i 0 by omega,OU h c K i a];exact nx
  ·have e:¬y.2=x:=by simpa using e
   rw[wa e,ZQ]at st;rw[RO h c K i a st];exact nx
theorem loop(H:Bo h)(d: -99<=c/\c<=99)(b:Q (.sl 0 1 0 h.length none) [(0,ZI false 3 i64<|Be h c)]):∀(f K:Nat),K+f=c.natAbs->Ends Bl (L1 h c h.length (K:Int)<|CH h c K) Q
 |f,K,a=>by
  have k:=H.pos;have i:=H.le;have im:imax c (Zt .i64<|(0:Int)-c)=(c.natAbs:Int):=by
   rw[wr ((0:Int)-c) a8 a8,Lh];omega
  refine Zi (As ..) ?_;conv=>zeta
  rw[im];cases f with
  |zero=>
   have a:K=c.natAbs:=a;subst a;refine Zk (w8 a8)<|Zc ?_;rw[QN H];exact b
  |succ f=>
   have g:K<c.natAbs:=a8
   have nx:=loop H d b f (K+1) a8;have m:Int.tmod (K:Int) (h.length:Int)=(K:Int) % h.length:=Int.tmod_eq_emod_of_nonneg a8;have n:=Int.emod_nonneg (K:Int) (show(h.length:Int)≠0 by omega);have j:=Int.emod_lt_of_pos (K:Int) (show(0:Int)<h.length by omega);rw[m,wr ((K:Int) % h.length+1) a8 a8,wr ((h.length:Int)+1) a8 a8,wr ((h.length:Int)+1-((K:Int) % h.length+1)) a8 a8];have st:=fun x e=>inner H d g nx (x:=x) e h 0 rfl (Zv _)
   rw[QS]at st;refine Za (w4 a8) (Za (w4 a8)<|Ze (fun s=>?_)<|fun s=>?_)
   ·have s:=w6 s;exact st _ (by rw[wb s])
   ·have s:=w7 s;exact st _ (by rw[wa s])
theorem ok:Al Cd 70 O4:=by
 refine Fy BC<|fun(i:List (Int×Int)×Int) a=>?_;obtain⟨h,c⟩:=i;have a:Fh h c=true:=a;obtain⟨k1,k2,k3⟩:=HE a;have H:=CY k1;have b:=H.le;have gl:(Be h c).length=h.length:=Zl ..;have st:=loop (Q:=Ak O4 (h,c)) H ⟨k2,k3⟩ (Zs (KY rfl gl.symm) rfl rfl) c.natAbs 0 a8;rw[Qo]at st;refine Zn (AF h c) ?_;conv=>zeta
 rw[Zf];exact Za (Br (Br (Br (w4 a8)<|w4 rfl)<|w4 a8)<|w4 a8) st
end T70
theorem Rb:Jx P0:=Ai T70.ok BB
namespace T32
variable {Q:PV->Ob->Prop}{h:List (Int×Int)}{c:Int}
theorem loop(H:Bo h)(f: -99<=c/\c<=99)(a:Q (.sl 0 1 0 (Ax h c).length none) [(0,ZI false 3 i64<|Ax h c)]):∀(r:List (Int×Int)) (i:Nat) (o:List Int),h.drop i=r->i<=h.length->o.length=i->o++r.map (fun x=>x.1+2+Bb h.length c x.2)=Ax h c->Ends P0 (L2 h (Be h c) o.length (i:Int) o) Q
 |[],i,o,g,j,b,e=>by
  have he:=drop_nil g j;refine Zi (BV ..) (Zk (w8 a8)<|Zc ?_);rw[<-e,ZP,Zu]at a;exact a
 |x::r,i,o,g,j,b,e=>by
  obtain⟨k,q,w⟩:=drop_cons (d:=((0:Int),(0:Int))) g;have u:=H.le;have y:=H.all x (Zw (i:=i)<|by rw[g];exact Zg ..);have bd:=Ci (n:=(h.length:Int)) (x:=x.2) (by have:=H.pos;omega) f;have gl:(Be h c).length=h.length:=Zl ..;have s:=wn (i:=i) a8;have cap:(decide ((1:Nat)<=(1:Nat))&&true&&decide (o.length=o.length)&&decide ((3*(o.length+1)+2000)*8<=562949953421312))=true:=by
   rw[w4 (show(1:Nat)<=1 by omega),w4 rfl,w4 a8];rfl
  have t:∀v:Int,(o++[v]).length=Nat.add o.length 1:=fun v=>by simp
  have nx:=loop H f a r (i+1) (o++[x.1+2+Bb h.length c x.2]) w k (by simp[b]) (by rw[<-e];simp);rw[t]at nx;refine Zi (BV ..) ?_;conv=>zeta
  rw[s,Zf,q,N3 k q,wr (x.1+2) a8 a8,wr (x.1+2+Bb h.length c x.2) a8 a8];exact Za (w4 a8) (Za (Ek a8) (Za (Ek a8)<|Za cap nx))
theorem ok:Al Cd 32 N5:=by
 refine Fy Rb<|fun(i:List (Int×Int)×Int) a=>?_;obtain⟨h,c⟩:=i;have a:Fh h c=true:=a;obtain⟨k1,k2,k3⟩:=HE a;have H:=CY k1;have b:=H.pos;have d:=H.le;have gl:(Be h c).length=h.length:=Zl ..;refine Zn (AF h c)<|Za a ?_;cases h with
 |nil=>cases b
 |cons x t=>
  have e:=H.all x<|Zg ..;have bd:=Ci (n:=(((x::t).length:Nat):Int)) (x:=x.2) a8 ⟨k2,k3⟩;have nx:=loop (Q:=Ak N5 (x::t,c)) H ⟨k2,k3⟩ (Zs (KY rfl rfl) rfl rfl) t 1 [x.1+2+Bb (x::t).length c x.2] rfl (by simp) rfl rfl;have v:ZS (Be (x::t) c) (ZT 0) 0=Bb (x::t).length c x.2:=rfl;refine Zi (As ..) ?_;conv=>zeta
  rw[show ZS (x::t) (ZT 0) ((0:Int),(0:Int))=x from rfl,v,wr (x.1+2) a8 a8,wr (x.1+2+Bb (x::t).length c x.2) a8 a8];exact Za (w4 a8) (Za (Ek a8)<|Za (Ek a8)<|Za rfl nx)
end T32
theorem QV:Jx TT:=Ai T32.ok BB
namespace T34
variable {Q:PV->Ob->Prop}{m:List Int}{l:List (Int×Y)}{h:List (Int×Int)}{p:Y}
theorem loop(A:l.length<=45)(y:m.length=l.length)(C:h.length=l.length)(w:∀x∈l,0<=x.1/\x.1<=99)(u:∀v∈m,-95<=v/\v<=108)(j:∀ob,Q (.dat i64<|BN l m) ob):∀(r:List (Int×Y)) (i:Nat) (s:Int),l.drop i=r->i<=l.length-> -200*(i:Int)<=s/\s<=200*(i:Int)->s+BN r (m.drop i)=BN l m->Ends TT (L1 h m s (i:Int) p l) Q
 |[],i,s,g,q,I,e=>by
  have he:=drop_nil g q;have e:s+0=BN l m:=e;refine Zi (As ..) (Zk (w8 a8)<|Zc ?_);rw[<-e,ZQ]at j;exact j _
 |x::r,i,s,g,q,I,e=>by
  obtain⟨F,G,J⟩:=drop_cons (d:=((0:Int),([]:Y))) g;have f:i<m.length:=a8
  have B:m.drop i=m[i]::m.drop (i+1):=Zo f;have mg:m.getD i 0=m[i]:=by rw[Zb,Zd f];rfl
  have E:=w x (Zw (i:=i)<|by rw[g];exact Zg ..);have D:=u m[i]<|List.getElem_mem f;have t:=Lc E D;rw[B]at e;have e:s+(Ck x m[i]+BN r (m.drop<|i+1))=BN l m:=e;have z:=wn (i:=i) a8;have nx:=loop A y C w u j r (i+1) (s+Ck x m[i]) J F a8 a8;have k:=Ek (i:=(i:Int)) (n:=(m.length:Int)) a8;have bl:=Ek (i:=(i:Int)) (n:=(l.length:Int)) a8;refine Zi (As ..) ?_;conv=>zeta
  rw[z,Zf,G,mg];refine Za (w4 a8)<|Za bl<|Ze (fun a=>Za k ?_)<|fun a=>Ze (fun b=>Za k ?_)<|fun b=>Za k<|Za bl ?_
  ·have a:x.2=[120]:=by simpa using a
   have o:Ck x m[i]=m[i]:=by unfold Ck;rw[wb a]
   rw[o]at nx;rw[wr _ a8 a8];exact nx
  ·have a:¬x.2=[120]:=by simpa using a
   have b:x.2=[45]:=by simpa using b
   have o:Ck x m[i]=max 1 (m[i]-2):=by unfold Ck;rw[wa a,wb b]
   rw[o]at nx t;rw[wr (m[i]-2) a8 a8,Lh,wr _ a8 a8];exact nx
  ·have a:¬x.2=[120]:=by simpa using a
   have b:¬x.2=[45]:=by simpa using b
   have o:Ck x m[i]=min m[i] x.1:=by unfold Ck;rw[wa a,wa b];omega
   rw[o]at nx t;rw[OQ,wr _ a8 a8];exact nx
theorem ok:Al Cd 34 UU:=by
 refine Fy QV<|fun(i:List (Int×Int)×(Y×List (Int×Y))×Int) a=>?_;obtain⟨h,⟨p,l⟩,c⟩:=i;have a:(Fh h c&&decide (A0 h p l=0))=true:=a;rw[Zq,w5]at a;obtain⟨k1,k2,k3⟩:=HE a.1;obtain⟨_,j1,j2⟩:=D2 a.2;have H:=CY k1;have b:=H.le;refine Zn (AF h (p,l) c)<|Za a.1 ?_;exact loop a8 (by unfold Ax;rw[Zl,j1]) j1.symm (fun x d=>EW<|DY j2 x d) (EZ H ⟨k2,k3⟩) (fun ob=>Zs rfl rfl rfl) l 0 0 rfl (Zv _) ⟨by omega,by omega⟩ (by rw[ZF];omega)
end T34
end Go.Pe
namespace Go.Sp
theorem LJ{h:List (Int×Int)}(k:Ap h≠0)(p:Y)(l:List (Int×Y)):A0 h p l=Ap h:=by unfold A0 first;rw[wb k]
theorem M8{h:List (Int×Int)}(k:Ap h≠0)(p:Y)(l:List (Int×Y))(c:Int):B9 h p l c=Ap h:=by
 unfold B9;rw[LJ k];exact DI k
theorem EN{h:List (Int×Int)}(k:Ap h=0)(c:Int):AZ h c=Cb c (-99) 99:=by unfold AZ;rw[k,HU]
theorem Rg(h:List (Int×Int))(c:Int):(Db h c).length<=h.length:=by
 unfold Db;split
 ·unfold Ax;rw[Zl];exact Zy _
 ·exact Zv _
theorem RY{h:List (Int×Int)}{c:Int}(k:AZ h c≠0):Db h c=[]:=by unfold Db;rw[wa k]
theorem Kl{h:List (Int×Int)}{c:Int}(k:AZ h c=0):Db h c=Ax h c:=by unfold Db;rw[wb k]
theorem RI{h:List (Int×Int)}{p:Y}{l:List (Int×Y)}{c:Int}(k:B9 h p l c≠0):CB h p l c=0:=by unfold CB;rw[wa k]
theorem SZ{h:List (Int×Int)}{p:Y}{l:List (Int×Y)}{c:Int}(k:B9 h p l c=0):A0 h p l=0/\Cb c (-99) 99=0:=by
 unfold B9 at k;by_cases a:A0 h p l=0
 ·rw[a,HU]at k;exact⟨a,k⟩
 ·rw[DI a]at k;exact we k a
end Go.Sp
namespace Go.Pe
open Sp
open Go.Det
theorem Sa(n e b w:Int)(h:if b≠0 then n=0/\e=b else e=0/\n=w):Hu n e b w=true:=by
 unfold Hu;split at h
 ·next c=>rw[wb c,w4 h.1,w4 h.2];rfl
 ·next c=>rw[wa c,w4 h.1,w4 h.2];rfl
theorem QD(n:List Int)(e b:Int)(w:List Int)(h:if b≠0 then n=[]/\e=b else e=0/\n=w):Gk n e b w=true:=by
 unfold Gk;split at h
 ·next c=>rw[wb c,w4 h.1,w4 h.2];rfl
 ·next c=>rw[wa c,w4 h.1,w4 h.2];rfl
theorem Qt:Jx RM:=Ai Lr<|Ai T26.ok<|Ai T27.ok<|Ai T28.ok<|Ai T33.ok<|Ai T29.ok<|Ai T30.ok<|Ai T31.ok<|Ai T21.ok<|Ai T32.ok<|Ai T34.ok BB
namespace T5
variable {Q:PV->Ob->Prop}{h:List (Int×Int)}{c:Int}{p:Y}{l:List (Int×Y)}
theorem Wi(f:∀ob,Q (.dat .bool true) ob)(g:h.length<=40)(k:Ap h=0):Ends RM (tl h p l c) Q:=by
 have d:∀(b:Bool) ob,b=true->Q (.dat .bool b) ob:=fun b ob e=>by rw[e];exact f ob
 refine Za (w4 a8)<|Za rfl (Ze (fun e=>Za rfl (Zc<|d _ _ ?_))<|fun e=>?_)
 ·have e:Zj [A0 h p l,Cb c (-99) 99]≠0:=by simpa using e
  have e:B9 h p l c≠0:=e;refine Sa _ _ _ _ ?_;show if B9 h p l c≠0 then _ else _
  rw[wb e];exact⟨RI e,rfl⟩
 ·have e:Zj [A0 h p l,Cb c (-99) 99]=0:=by simpa using e
  have e:B9 h p l c=0:=e;obtain⟨a,b⟩:=SZ e;have b:AZ h c=0:=by rw[EN k];exact b
  obtain⟨x,y,z⟩:=CR b;refine Za (Br (Ko x y z)<|w4 a)<|Za rfl (Zc<|d _ _<|Sa _ _ _ _ ?_);rw[wa aa];refine⟨e,?_⟩;unfold CB;rw[wb e];rfl
theorem main(o:∀ob,Q (.bl true) ob)(a:∀ob,Q (.dat .bool true) ob)(s:h.length<=40)(A:l.length<=40)(w:p.length<=40):∀(r:List (Int×Y)) (i:Nat),l.drop i=r->i<=l.length->Ends RM (L1 h c (i:Int) p l) Q
 |x::r,i,g,q=>by
  obtain⟨v,C,B⟩:=drop_cons (d:=((0:Int),([]:Y))) g;have u:=wn (i:=i) a8;refine Zi (As ..) ?_;conv=>zeta
  rw[u];exact Za (w4 a8) (Za (Ek a8)<|Ze (fun _=>Zc<|o _)<|fun _=>main o a s A w r (i+1) B v)
 |[],i,g,q=>by
  have he:=drop_nil g q;have t:∀(b:Bool) ob,b=true->Q (.dat .bool b) ob:=fun b ob e=>by rw[e];exact a ob
  have f:decide ((Db h c).length<=1000000)=true:=w4 (by have:=Rg h c;omega);refine Zi (As ..) (Zk (w8 a8)<|Za (w4 a8)<|Za (Br (ad a8 a8)<|w4 a8)<|Za (w4 a8)<|Ze (fun k=>?_)<|fun k=>Za rfl ?_)
  ·have k:Ap h≠0:=by simpa using k
   have le:AZ h c=Ap h:=DI k;have n:=M8 k p l c;refine Za f<|Za (QD _ _ _ _ ?_)<|Za rfl (Zc<|t _ _<|Sa _ _ _ _ ?_)
   ·rw[wb k];exact⟨RY (by rw[le];exact k),le⟩
   ·rw[wb k];exact⟨RI (by rw[n];exact k),n⟩
  ·have k:Ap h=0:=by simpa using k
   have le:=EN k c;have ad:=Wi (p:=p) (l:=l) (c:=c) a s k;refine Ze (fun e=>?_)<|fun e=>?_
   ·have e:Cb c (-99) 99≠0:=by simpa using e
    have j:Gk (Db h c) (AZ h c) (Cb c (-99) 99) []=true:=QD _ _ _ _ (by rw[wb e];exact⟨RY (by rw[le];exact e),le⟩);exact Za f (Zk (by rw[j];rfl)<|Zk (by simpa using e) ad)
   ·have e:Cb c (-99) 99=0:=by simpa using e
    have b:AZ h c=0:=by rw[le];exact e
    obtain⟨x,y,z⟩:=CR b;have j:Gk (Db h c) (AZ h c) 0 (Ax h c)=true:=QD _ _ _ _ (by rw[wa aa];exact⟨b,Kl b⟩);exact Za (by rw[e];rfl) (Za (Ko x y z)<|Za f<|Zk (by rw[j];rfl) ad)
theorem ok:Al Cd 5 Kw:=by
 refine Fy Qt<|fun(i:List (Int×Int)×(Y×List (Int×Y))×Int) _=>?_;obtain⟨h,⟨p,l⟩,c⟩:=i;have e:∀ob,Ak Kw (h,(p,l),c) (.dat .bool true) ob:=fun ob=>Zs rfl rfl rfl
 have f:∀ob,Ak Kw (h,(p,l),c) (.bl true) ob:=fun ob=>Zs rfl rfl rfl
 refine Zn (AF h (p,l) c)<|Za rfl (Zk rfl (Ze (fun _=>Za rfl (Zc<|e _))<|fun a=>Ze (fun _=>Za rfl (Zc<|e _))<|fun b=>Ze (fun _=>Za rfl (Zc<|e _))<|fun d=>?_));have a:=w7 a;have b:=w7 b;have d:=w7 d;have b:¬(l.length:Int)>40:=b;have d:¬(p.length:Int)>40:=d;exact main f e a8 a8 a8 l 0 rfl (Zv _)
end T5
abbrev II:Ay:=Kw
end Go.Pe
namespace Go.Det
open Go.ChangeShapes Go.WideShapes Go.RowKit
theorem AS{α d:Type}{f g:α->Option d}:∀ {l:List α} {b:List d},l.mapM f=some b->(∀a∈l,∀y∈b,f a=some y->g a=some y)->l.mapM g=some b
 |[],b,h,_=>by grind
 |a::l,b,h,j=>by
  rw[List.mapM_cons]at h ⊢;cases i:f a with
  |none=>grind
  |some y=>
   rw[i]at h;cases e:l.mapM f with
   |none=>grind
   |some k=>
    rw[e]at h;cases h;rw[j a (by simp) y (by simp) i,AS e ae];rfl
def Qh(P:Program)(L:List TypeId)(t:TypeId):Bool:=match P.underlying t with
 |some (.pointer e)|some (.array _ e)|some (.map _ e)=>L.contains e
 |some (.slice e)=>L.contains e&&Nat.ble 1 (P.cellsOf e)
 |some (.struct fs)=>fs.toList.all fun f=>L.contains f.type
 |_=>true
def Gf(P:Program)(L:List TypeId):Bool:=L.all<|Qh P L
section
variable {H:Type}{enc:TypeId×Value->H}{P:Program}{W W':World}
theorem TU{L:List TypeId}(h:Gf P L=true){t:TypeId}(a:t∈L):Qh P L t=true:=List.all_eq_true.1 h t a
theorem NO(d:Below W.heap.size W W'){a:Addr}{v:Value}(h:W.cell? a=some v):W'.cell? a=some v:=by
 have b:a.block<W.heap.size:=by
  grind [ZM]
 unfold ZM at h ⊢;rw[d.block _ b];exact h
theorem Mq(b:Below W.heap.size W W'){a:Addr}{n:Nat}{cs:List Value}(h:W.cells? 0 a n=some cs):W'.cells? 0 a n=some cs:=by
 unfold World.cells? at h ⊢;grind [AS,NO]
theorem DM(e:Below W.heap.size W W'){b:Type}{a:Addr}{n:Nat}{f g:List Value->Option b}{y:b}(h:(W.cells? 0 a n).bind f=some y)(d:∀cs,f cs=some y->g cs=some y):(W'.cells? 0 a n).bind g=some y:=by
 cases i:W.cells? 0 a n with
 |none=>grind
 |some cs=>
  grind [Mq]
theorem HW(w:Below W.heap.size W W'){L:List TypeId}(C:Gf P L=true){sp:Nat->Bool}:∀(fuel:Nat) (t:TypeId) (cs:List Value) (x:DataW H×List MemPlace),t∈L->
  Zm enc P W 0 (fun _=>true) true fuel t cs=some x->(∀p∈x.2,sp p.block=true)->Zm enc P W' 0 sp true fuel t cs=some x
 |0,_,_,_,_,h,_=>by cases h
 |fuel+1,t,cs,x,G,h,M=>by
  have S:=HW w C (sp:=sp) fuel;have q:=TU C G;unfold Qh at q;unfold Zm at h ⊢;split at h<;>try simp only[reduceCtorEq]at h
  all_goals try exact h
  case h_6 e a v=>
   have d:e∈L:=ae
   cases B:(W.cells? 0 a<|P.cellsOf e).bind (Zm enc P W 0 (fun _=>true) true fuel e)with
   |none=>grind
   |some y=>
    rw[B]at h;cases h;rw[DM w B (g:=Zm enc P W' 0 sp true fuel e) ae];rfl
  case h_8 e a len cap v=>
   have d:e∈L/\P.cellsOf e≠0:=by
    rw[v]at q;simp only[Zq,List.contains_iff_mem]at q;have:=Nat.le_of_ble_eq_true q.2;grind
   by_cases r:0<=a.block/\len<=cap/\cap<=maxLen
   ·rw[wb r]at h ⊢;have step:∀(i:Nat) (y:DataW H×List MemPlace),(W.cells? 0 (a.add<|i*P.cellsOf e)<|P.cellsOf e).bind (Zm enc P W 0 (fun _=>true) true fuel e)=some y->(∀p∈y.2,sp p.block=true)->
      (W'.cells? 0 (a.add<|i*P.cellsOf e)<|P.cellsOf e).bind (Zm enc P W' 0 sp true fuel e)=some y:=(by grind [DM])
    cases o:(ZO len).mapM (fun i=>(W.cells? 0 (a.add<|i*P.cellsOf e)<|P.cellsOf e).bind<|Zm enc P W 0 (fun _=>true) true fuel e)with
    |none=>grind
    |some s=>
     rw[o]at h;simp only[wi,Option.bind_some]at h;cases D:(ZO<|cap-len).mapM (fun j=>(W.cells? 0 (a.add<|(len+j)*P.cellsOf e)<|P.cellsOf e).bind<|Zm enc P W 0 (fun _=>true) true fuel e)with
     |none=>grind
     |some E=>
      rw[D]at h;cases h;rw[AS o ae];have J:=AS D fun j _ y N K=>step (len+j) y K ae
      by_cases A:sp a.block=true
      ·grind
      ·have T:(s.length+E.length)*P.cellsOf e=0:=by
        rcases Nat.eq_zero_or_pos ((s.length+E.length)*P.cellsOf e)with h0|h0
        ·exact h0
        ·refine we (M (.cell a.block<|a.off+0)<|List.mem_append_left _ ?_) A;simp only[MemPlace.row,List.mem_map,List.mem_range];exact⟨0,h0,rfl⟩
       grind [Nat.mul_eq_zero]
   grind
  case h_9 cs _ _ fs v=>
   have d:∀f∈fs.toList,f.type∈L:=by
    grind
   by_cases r:cs.length=P.cellsOf t
   ·rw[wb r]at h ⊢;cases o:fs.toList.mapM (fun f=>Zm enc P W 0 (fun _=>true) true fuel f.type<|(cs.drop f.offset).take<|P.cellsOf f.type)with
    |none=>grind
    |some s=>
     grind [AS]
   grind
  case h_10 cs _ _ n e v=>
   have d:e∈L:=ae
   by_cases r:cs.length=P.cellsOf t
   ·rw[wb r]at h ⊢;cases o:(ZO n).mapM (fun i=>Zm enc P W 0 (fun _=>true) true fuel e<|(cs.drop<|i*P.cellsOf e).take<|P.cellsOf e)with
    |none=>grind
    |some s=>
     grind [AS]
   grind
  case h_14 k e b v=>
   have I:b<W.heap.size:=by
    grind
   rw[w.block _ I];split at h
   case h_2=>cases h
   rename_i es clock R;split at h
   case isFalse=>cases h
   cases o:(es.toList.mapM fun x=>(keyOf P k x.key).bind fun key=>if x.val.formed P e then(Zm enc P W 0 (fun _=>true) true fuel e x.val.cells.toList).map fun y=>((key,y.1),y.2)else none)with
   |none=>grind
   |some s=>
    rw[o]at h;simp only[Option.bind_some]at h;split at h
    case isFalse=>cases h
    rw[AS o fun F _ y N z=>?_]
    ·grind
    ·cases q:keyOf P k F.key with
     |none=>grind
     |some key=>
      rw[q]at z;split at z
      case isFalse=>cases z
      cases O:Zm enc P W 0 (fun _=>true) true fuel e F.val.cells.toList with
      |none=>grind
      |some u=>
       grind
theorem MK(e:Below W.heap.size W W'){L:List TypeId}(i:Gf P L=true){sp:Nat->Bool}{t:TypeId}{v:Value}{d:DataW H}{p:List MemPlace}
  (g:t∈L) (h:DataW.Trod enc P W 0 (fun _=>true) true t v d p) (f:∀q∈p,sp q.block=true):DataW.Trod enc P W' 0 sp true t v d p:=by
 obtain⟨a,b⟩:=h;exact⟨a,(by grind [HW])⟩
theorem Dq(g:Below W.heap.size W W'){L:List TypeId}(e:Gf P L=true){sp:Nat->Bool}:∀ {ts:List TypeId} {vs:List Value} {ds:List (DataW H)} {p:List MemPlace},(∀t∈ts,t∈L)->
  DataW.TrodAll enc P W 0 (fun _=>true) true ts vs ds p->(∀q∈p,sp q.block=true)->DataW.TrodAll enc P W' 0 sp true ts vs ds p
 |[],vs,ds,p,_,h,_=>by
  obtain⟨rfl,rfl,rfl⟩:=trodAll_nil h;rfl
 |t::ts,vs,ds,p,n,h,o=>by
  obtain⟨v,i,d,j,a,b,rfl,rfl,rfl,k,f⟩:=trodAll_cons h;exact⟨a,b,(by grind [MK]),Dq g e ae f ae,rfl⟩
theorem JN{f:Func}{s:ChangeSpec}{apart fresh a e:Bool}{args:Array Value}{ds I:List (DataW H)}{d:List MemPlace}{tb:TypeId}
  (hW:DataW.Whole enc P f.params.toList s.vars apart W args.toList ds I d) (B:s.vars=[]) (D:f.resultTypes= #[tb]) (A:P.underlying tb=some .bool)
  (G:s.fn H ds={ results:=[.lit<|.bool true],args:=ds }) (w:Below W.heap.size W W') {L:List TypeId} (J:Gf P L=true) (C:f.params.toList.all L.contains=true):
  s.post enc P f apart fresh a e W args (.bool true) W':=by
 have o:=hW.lt;have C:∀t∈f.params.toList,t∈L:=ae;obtain⟨p,q,E,F,rfl,g,n⟩:=hW;have k:=F;rw[B]at k;obtain⟨rfl,rfl⟩:=trodVars_none k;simp only[Zu]at o g n ⊢;have v:DataW.Whole enc P f.params.toList s.vars apart W args.toList ds [] p:=⟨p,[],E,F,by simp,g,n⟩;have u:∀(b:Nat) (sp:Nat->Bool) (z:Bool),DataW.TrodAll enc P W' b sp z f.resultTypes.toList ((Value.bool true).resultList f.resultTypes.size) [.lit<|.bool true] []:=by
  intro b sp z;rw[D];exact⟨[],[],shut_bool A true,rfl,rfl⟩
 have y:∀(j:Nat) (t:TypeId) (r:Value),f.resultTypes[j]?=some t->((Value.bool true).resultList f.resultTypes.size)[j]?=some r->Value.okWide P W' .any 0 t r:=by
  exact ok_one D rfl (okWide_bool_mk A true)
 have i:∀sp:Nat->Bool,DataW.TrodVars enc P W' sp s.vars [] []:=fun sp=>by rw[B];rfl
 refine⟨ds,[],p,[],p,[],v,?_,?_,?_,World.keptBut_mono (by simp) (w.frame (· ∈p)),fun _=>?_⟩
 ·grind
 ·grind [Dq]
 ·grind
 ·refine⟨y,_,_,([]++p)++[],⟨[]++p,[],trodAll_append (Dq w J C E<|by simp)<|u _ _ _,i _,rfl,?_,?_⟩,?_⟩
  ·intro b off x;have x:MemPlace.cell b off∈p:=ae
   rw[w.frozen<|show b<W.heap.size from o _ x];exact g b off x
  ·grind
  grind
end
def G9(k:Nat):Value->V
 | .bool b=>.bool b
 | .int q n=>.int q n
 | .string s=>.str s.data.toList
 | .pointer none=>.nilp
 | .slice none 0 0=>.nils
 | .slice (some _) 0 0=>.es0
 | .slice (some ⟨r,off,none⟩) len cap=>if r<k/\len<=cap then .sl r off len cap 0 else .junk
 | .map none=>.nilm
 | .nilFunc=>.nilf
 | .nilIface=>.nili
 |_=>.junk
def UD(W:World)(r:Nat):Nat:=match W.heap[r]? with
 |some (.cells c _ _)=>c.size
 |_=>0
def pW(W:World):Pl:=(ZO W.heap.size).map fun r=>(r,UD W r)
theorem GF{W:World}{r:Nat}(h:r<W.heap.size):(pW W)[r]?=some (r,UD W r):=by
 simp[pW,h]
def H8(W:World)(r:Nat):Option O:=match W.heap[r]? with
 |some (.cells c t _)=>if c.size=0 then none else some<|.cells (c.toList.map<|G9 W.heap.size) t (0,c.size)
 |_=>none
def O6(W:World):Nat->H
 |0=>⟨.leaf,0⟩
 |n+1=>⟨(O6 W n).m.set n<|H8 W n,n+1⟩
theorem Tx(W:World):∀n,(O6 W n).nx=n
 |0=>rfl
 |_+1=>rfl
theorem Ln(W:World):∀(n b:Nat),(O6 W n).get b=if b<n then H8 W b else none
 |0,b=>by simp[O6,H.get]
 |n+1,b=>by
  have a:=Ln W n b;unfold H.get at a ⊢;simp only[O6,PM.Bd];grind
def hW(W:World):H:=O6 W W.heap.size
theorem Iz(W:World)(b:Nat):(hW W).get b=H8 W b:=by
 simp_all [hW,Ln,H8]
theorem HG{W:World}{v:Value}(h:(G9 W.heap.size v).ok=true):Aa (pW W) (G9 W.heap.size v) v:=by
 revert h;unfold G9;split<;>intro h
 case h_6=>simp_all [Aa]
 case h_7 r off len cap _=>
  split
  ·simp_all [Aa,GF]
  ·rename_i a;rw[wa a]at h;cases h
 case h_11=>cases h
 all_goals simp only[Aa]
 rfl
theorem Yw(W:World):R (pW W) (hW W) W:=by
 refine⟨by simp[pW,hW,Tx],fun b o a=>?_,fun b b' o o' r n n' a k q u=>?_⟩
 ·rw[Iz]at a;unfold H8 at a;split at a
  case h_2=>cases a
  rename_i c t fz f;split at a
  case isTrue=>cases a
  cases a;have e:b<W.heap.size:=ae;have j:UD W b=c.size:=by unfold UD;rw[f]
  refine⟨b,c.size,_,by rw[GF e,j],f,c,fz,rfl,rfl,by simp,⟨by simp,fun i d v s w g=>?_⟩,a8⟩;grind [HG]
 grind [Iz,H8,GF]
theorem T8{W W':World}{p':Pl}{h':H}(he:Ext (pW W) (hW W) W p' h' W'):RowKit.Below W.heap.size W W':=by
 refine⟨he.os,he.tape,he.out,he.size,fun k j=>?_⟩;by_cases f:Im (pW W) (hW W) k
 ·obtain⟨b,o,n,g,i⟩:=f;have a:=g;rw[Iz]at a;unfold H8 at a;split at a
  case h_2=>cases a
  rename_i c t fz q;split at a
  case isTrue=>cases a
  cases a;have d:b<W.heap.size:=ae;have e:UD W b=c.size:=by unfold UD;rw[q]
  rw[GF d,e]at i;cases i;exact(he.lock _ j ⟨_,_,_,_,_,g,by rw[GF d,e],rfl,Zy _,a8⟩).1
 ·exact he.same k j f
end Go.Det
namespace Go.Pe
open Go.Det
def FW(W:World):Fz:=fun b=>match (hW W).get b with
 |some (.cells cs _ _)=>some cs
 |_=>none
def Kb:(s:Sh)->s.T->Prop
 | .int k,x=>k.min<=(x:Int)/\(x:Int)<=k.max
 | .bool,_=>True
 | .str,x=>(x:Y).length<=maxLen
 | .list s,l=>(l:List s.T).length<=maxLen/\∀x∈(l:List s.T),Kb s x
 | .pair a b,x=>Kb a x.1/\Kb b x.2
 | .unit,_=>True
 | .nlist _,_=>True
 | .fnv,_=>True
 | .ptr _,_=>True
def SI(P:Program)(f:TypeId->Option Sh):Nat->List Field->Option Sh
 |_,[]=>some .unit
 |o,[x]=>match f x.type with
  |some s=>bif ZR x.offset o&&ZR (P.cellsOf x.type) s.sz then some s else none
  |none=>none
 |o,x::y::l=>match f x.type with
  |some s=>bif ZR x.offset o&&ZR (P.cellsOf x.type) s.sz then(SI P f (o+s.sz) (y::l)).map (.pair s)else none
  |none=>none
def VU(P:Program):Nat->TypeId->Option Sh
 |0,_=>none
 |f+1,t=>match P.underlying t with
  |some (.int k)=>some<|.int k
  |some .bool=>some .bool
  |some .string=>some .str
  |some (.slice e)=>match VU P f e with
   |some s=>bif ZR (P.cellsOf e) s.sz&&Nat.blt 0 s.sz then some (.list s)else none
   |none=>none
  |some (.struct fs)=>match SI P (VU P f) 0 fs.toList with
   |some s=>bif ZR (P.cellsOf t) s.sz then some s else none
   |none=>none
  |_=>none
section
variable {H:Type}{enc:TypeId×Value->H}{P:Program}{W:World}
theorem QG{r:Nat}{c:Array Value}{t:TypeId}{fz:Nat×Nat}(h:W.heap[r]?=some (.cells c t fz))(h0:c.size≠0):FW W r=some (c.toList.map<|G9 W.heap.size):=by
 simp_all [FW,Iz,H8]
theorem JR{a:Addr}{n:Nat}{cs:List Value}(h:W.cells? 0 a n=some cs)(k:0<n):
  ∃c t fz,W.heap[a.block]?=some (.cells c t fz)/\a.spot=none/\a.off+n<=c.size/\cs=(c.toList.drop a.off).take n:=by
 have o:=mapM_some_length h;have d:=mapM_some_get h;have h0:=d 0 0 (by simp[k]);have e:a.add 0=a:=by rfl
 obtain⟨v0,b⟩:∃v,cs[0]?=some v:=ae;rw[b]at h0;unfold ZM at h0;split at h0
 case h_2=>cases h0
 rename_i c t fz f;split at h0
 case isTrue=>cases h0
 have j:a.spot=none:=by simp_all
 have g:∀i,i<n->c[a.off+i]?=cs[i]?:=by
  grind [ZM,Addr.add]
 refine⟨c,t,fz,f,j,?_,?_⟩
 ·have:=g (n-1) a8;grind
 ·apply List.ext_getElem?;grind
theorem OO{α:Type}{p:Nat->α->Prop}:∀n:Nat,(∀i,i<n->∃x,p i x)->∃l:List α,l.length=n/\∀i (h:i<l.length),p i l[i]
 |0,_=>(by simp)
 |n+1,h=>by
  obtain⟨l,b,e⟩:=OO n fun i a=>h i a8
  obtain⟨x,d⟩:=h n a8;refine⟨l++[x],by simp[b],fun i a=>?_⟩;grind
end
open Go.Det Go.RowKit
section
open Go.Proofs.Tryz (prog)
theorem Lj{F':Fz}{v:V}(h:PC F' (.dat .bool true) v):v=.bool true:=by
 have:=h (fun _=>none) 0;simp only[PR,DC]at this;simpa using this
def GW(W:World):Prop:=∀x∈BW,H8 W x.1=some x.2
theorem GW.h{W:World}(h:GW W):Gh (hW W):=fun x a=>by rw[Iz];exact h x a
theorem GW.p{W:World}(h:GW W):Gp (pW W):=fun x f=>by
 have a:=h x f;unfold H8 at a;split at a
 case h_2=>cases a
 rename_i c t fz e;split at a
 case isTrue=>cases a
 have d:x.1<W.heap.size:=(Array.getElem?_eq_some_iff.1 e).1;have g:UD W x.1=c.size:=by unfold UD;rw[e]
 rw[GF d,g];cases b:x.2 with
 |cells cs i fz'=>rw[b]at a;cases a;simp[Yk]
 |_=>rw[b]at a;cases a
theorem EI{f:FuncId}{sp:Ay}(ok:Al Cd f sp)(i:(Bn sp.ins).T)(d:sp.pre i=true){args:List V}{args':Array Value}{W:World}(g:GW W)(r:Hv (FW W) (Af sp.ins i) args)
  (n:Ac (pW W) args args'.toList) (a:∀F' v,PC F' (one<|Af sp.outs<|sp.f i) v->v=.bool true) (q:Cd.prim f=none:=by kernel_rfl):
  Calls prog f args' W fun e W'=>e=.returned (.bool true)/\Below W.heap.size W W':=by
 obtain⟨l,M,w,_,x⟩:=(ok.zero q).run (FW W) (hW W) args i (fun b cs h=>by
  unfold FW at h;split at h
  case h_2=>cases h
  rename_i cs' t fz k;cases h;exact⟨t,fz,k⟩) (fun b o h=>(Yw W).lt h) g.h r d
 refine((CT V9 PL D0 M).fn f args (hW W) l (w M<|Zy _) (pW W) W args' (Yw W) g.p n).mono ?_;rintro e w' ⟨v,h',v',p',u,rfl,j,y⟩;obtain⟨_,_,_,F',_,_,_,s⟩:=x _ u;obtain rfl:=a F' v s;refine⟨?_,T8 y⟩;simp only[Aa]at j;rw[j]
end
end Go.Pe
namespace Go.Proofs.YtipkapecgjpnlaaGreatDoor
open Go
set_option maxRecDepth 100000
theorem seatTie1:Tryz.prog.laidByTextLater [("math/bits.deBruijn32tab",Rows.laid_math_bits_deBruijn32tab),("math/bits.deBruijn64tab",Rows.laid_math_bits_deBruijn64tab),("internal/strconv.uint64pow10",Rows.laid_internal_strconv_uint64pow10),("unicode/utf8.acceptRanges",Rows.laid_unicode_utf8_acceptRanges),("strconv.ErrRange",Rows.laid_strconv_ErrRange),("strconv.ErrSyntax",Rows.laid_strconv_ErrSyntax)] [.data,.data,.data,.data,.sentinel,.sentinel] true:=
 Program.laidByTextLater_by_one 72 8 65 ac ac ac ac ac ac (fun _ _=>by kernel_rfl)
theorem noOwnUnsafe:Tryz.pinned.checked.prog.headLifts.contains "ownunsafe"=false:=by kernel_rfl
theorem fits1:Tryz.pinned.checked.prog.listedFits Rows.handicapCardsRow.laid=true:=by
 unfold Program.listedFits;rw[noOwnUnsafe];kernel_rfl
theorem handicapCards_row_tie:Rows.handicapCardsRow.laidByTextAt .later Tryz.pinned [.data,.data,.data,.data,.sentinel,.sentinel,.pinned] true:=by
 refine ZD rfl rfl seatTie1 rfl rfl rfl rfl (fun y a _e=>?_) fits1;simp only[Rows.handicapCardsRow,List.zip_cons_cons,List.zip_nil_right,ZH,List.mem_nil_iff,or_false]at a;rcases a with rfl|rfl|rfl|rfl|rfl|rfl|rfl
 ·cases _e
 ·cases _e
 ·cases _e
 ·cases _e
 ·cases _e
 ·cases _e
 ·exact⟨by kernel_rfl,by kernel_rfl⟩
theorem handicapRounds_row_tie:Rows.handicapRoundsRow.laidByTextAt .later Tryz.pinned [.data,.data,.data,.data,.sentinel,.sentinel,.pinned] true:=by
 refine ZD rfl rfl seatTie1 rfl rfl rfl rfl (fun y a _e=>?_) fits1;simp only[Rows.handicapRoundsRow,List.zip_cons_cons,List.zip_nil_right,ZH,List.mem_nil_iff,or_false]at a;rcases a with rfl|rfl|rfl|rfl|rfl|rfl|rfl
 ·cases _e
 ·cases _e
 ·cases _e
 ·cases _e
 ·cases _e
 ·cases _e
 ·exact⟨by kernel_rfl,by kernel_rfl⟩
end Go.Proofs.YtipkapecgjpnlaaGreatDoor
