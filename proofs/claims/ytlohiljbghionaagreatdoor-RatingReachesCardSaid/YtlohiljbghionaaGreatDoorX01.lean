import Derived.Scope
import Derived.Laws.Sem
import Derived.KernelRfl
import Derived.Laws.Strings
/- A part of a proof; no law is stated here. -/
abbrev Z:=List UInt8
abbrev w4:=@decide_eq_true
abbrev w5:=@decide_eq_true_eq
abbrev w6:=@of_decide_eq_true
abbrev w7:=@of_decide_eq_false
abbrev w8:=@decide_eq_false
abbrev w9:=@decide_eq_false_iff_not
abbrev wc:=@if_neg
abbrev wd:=@if_pos
abbrev we:=@cond_true
abbrev wg:=@cond_false
abbrev wh:=@absurd
abbrev wi:=@congrArg
abbrev wj:=@beq_iff_eq
abbrev wk:=@if_true
abbrev wm:=@ne_eq
abbrev vc:=@beq_eq_false_iff_ne
abbrev ve:=@and_true
abbrev vf:=@and_self
abbrev vg:=@if_false
noncomputable section
open Go.Result renaming andThen_ok -> zc
open Go.Sem renaming run_bind -> zd, run_pure -> ze
open List renaming getElem?_eq_some_iff -> zf, getElem?_append_left -> zi, getElem?_take_of_lt -> zk, getLast?_cons_cons -> zo, getElem?_range -> z8, getElem?_eq_getElem -> ya, getElem?_map -> yc, getD -> yf, mem_cons -> yg, mem_cons_of_mem -> yh, getElem?_drop -> yn, mem_cons_self -> yo, length_cons -> yu, length_take -> yv, rec -> yw, length_eq_zero_iff -> yx, drop_eq_nil_of_le -> yz
open Nat renaming le_refl -> zg, beq -> zt, ble -> zu, le_of_ble_eq_true -> yd, ble_eq_true_of_le -> ye, ble_eq -> yq, blt -> y7, min_eq_left -> y9, zero_le -> qd, add -> qe, ne_of_lt -> qh, add_zero -> qj
open Option.some renaming injEq -> zh
open Array renaming getElem?_setIfInBounds_ne -> zj, getElem?_eq_some_iff -> zx, getElem?_push -> yj, ext_getElem? -> yp
open Go.Value renaming cells -> zl
open Bool renaming false_eq_true -> zm, and_eq_true -> zw
open Option renaming map_eq_some_iff -> zn, isSome_none -> z6, map_some -> yi, getD_some -> yy
open Go.Instr renaming sliceAt -> zp, sliceBounds -> zr, sureAddr -> yb, slice -> yt
open Int renaming mul_le_mul_of_nonneg_left -> zq, ofNat_eq_natCast -> zy, toNat_natCast -> z7, pow_succ -> yk, add_mul_emod_self_left -> ym, mul_add -> qc, mul_comm -> qg
open BitVec renaming ofInt -> zz
open UInt8 renaming ofNat -> yr
open Go.Op renaming bytesLess -> y8, equal -> qi
open ByteArray renaming ext -> qf
theorem ae{p:Prop}(h:p:=by omega):p:=h
theorem af{p:Prop}(h:p:=by decide):p:=h
theorem ag{p:Prop}(h:p:=by kernel_rfl):p:=h
namespace Go.Sp
def val(b:Int):List Int->Int
 |[]=>0
 |d::r=>d+b*val b r
def Aw(b:Int)(l:List Int):Prop:=∀d∈l,0<=d/\d<b
def nz(l:List Int):Prop:=l.getLast?≠some 0
def X3(b:Nat):Nat->Nat->List Int
 |0,_=>[]
 |f+1,n=>if n=0 then[]else((n % b:Nat):Int)::X3 b f (n/b)
def dg(b:Nat)(n:Int):List Int:=X3 b n.toNat n.toNat
def Ax:List Int->List Int
 |[]=>[]
 |d::r=>match Ax r with
  |[]=>if d=0 then[]else[d]
  |s=>d::s
theorem AD{b:Int}(a:0<=b):∀ {l:List Int},Aw b l->0<=val b l
 |[],_=>Int.le_refl _
 |d::r,h=>by
  have f:=(h d<|by simp).1;have e:=AD a (l:=r) fun x c=>h x (by simp[c])
  have:=Int.mul_nonneg a e;unfold val;omega
theorem Da(b:Int):∀(l r:List Int),val b (l++r)=val b l+b^l.length*val b r
 |[],r=>by simp[val]
 |d::l,r=>by
  rw[List.cons_append,val,Da b l r,val,yu,yk,qc,Int.add_assoc, <-Int.mul_assoc,qg b<|b^l.length]
theorem Mg(b:Int):∀n,val b (List.replicate n 0)=0
 |0=>rfl
 |n+1=>by rw[List.replicate_succ,val,Mg b n];simp
theorem Bs{b:Int}(c:0<b):∀ {l:List Int},Aw b l->val b l<b^l.length
 |[],_=>by simp[val]
 |d::r,h=>by
  have f:=(h d<|by simp).2;have g:=Bs c (l:=r) fun x e=>h x (by simp[e])
  have a:b*val b r<=b*(b^r.length-1):=zq ae ae;rw[val,yu,yk,qg (b^r.length) b];rw[Int.mul_sub,Int.mul_one]at a;omega
theorem JF(b:Int):∀l,val b (Ax l)=val b l
 |[]=>rfl
 |d::r=>by
  have a:=JF b r;unfold Ax;split
  ·rename_i h;rw[h]at a;have a:val b r=0:=a.symm;split
   ·rename_i h0;show(0:Int)=d+b*val b r;rw[a,h0];simp
   ·show d+b*(0:Int)=d+b*val b r;rw[a]
  ·rw[val,val,a]
theorem HA{b:Int}:∀ {l:List Int},Aw b l->Aw b (Ax l)
 |[],h=>h
 |d::r,h=>by
  have e:=HA (l:=r) fun x a=>h x (by simp[a])
  have c:=h d (by simp);unfold Ax;split
  ·split
   ·intro x a;cases a
   ·intro x a;rw[List.mem_singleton.1 a];exact c
  ·rename_i s f;intro x a;rcases yg.1 a with rfl|a
   ·exact c
   ·exact e x a
theorem LX:∀l:List Int,nz<|Ax l
 |[]=>by simp[nz,Ax]
 |d::r=>by
  have b:=LX r;unfold Ax;split
  ·split
   ·simp[nz]
   ·rename_i h;simp[nz,h]
  ·rename_i s c;unfold nz at b ⊢;cases hr:Ax r with
   |nil=>exact wh hr c
   |cons a t=>rw[hr]at b;rw[zo];exact b
theorem Iy:∀ {l:List Int},nz l->Ax l=l
 |[],_=>rfl
 |d::r,h=>by
  unfold Ax;cases r with
  |nil=>
   have:d≠0:=by simpa [nz]using h
   simp[Ax,this]
  |cons a t=>
   have:nz (a::t):=by unfold nz at h ⊢;rwa [zo]at h
   rw[Iy this]
theorem Jk{b:Int}(e:0<b):∀ {l:List Int},Aw b l->nz l->l≠[]->0<val b l
 |[],_,_,h=>wh rfl h
 |d::r,h,c,_=>by
  have g:=(h d<|by simp).1;have hr:Aw b r:=fun x f=>h x (by simp[f])
  have i:=AD ae hr;unfold val;cases r with
  |nil=>
   have:d≠0:=by simpa [nz]using c
   simp[val];omega
  |cons a t=>
   have:=Jk e hr (by unfold nz at c ⊢;rwa [zo]at c) (by simp);have:=Int.mul_pos e this;omega
theorem val_inj{b:Int}(e:0<b):∀ {l r:List Int},Aw b l->Aw b r->nz l->nz r->val b l=val b r->l=r
 |[],[],_,_,_,_,_=>rfl
 |[],x::r,_,d,_,f,h=>by have:=Jk e d f (by simp);rw[<-h]at this;simp[val]at this
 |x::l,[],c,_,n1,_,h=>by have:=Jk e c n1 (by simp);rw[h]at this;simp[val]at this
 |x::l,y::r,c,d,n1,f,h=>by
  have a1:=c x (by simp);have a2:=d y (by simp);unfold val at h;have n:x=y:=by
   have i:(x+b*val b l) % b=(y+b*val b r) % b:=by rw[h]
   rw[ym,ym,Int.emod_eq_of_lt a1.1 a1.2,Int.emod_eq_of_lt a2.1 a2.2]at i;exact i
  subst n;have k:val b l=val b r:=by
   have m:b*val b l=b*val b r:=ae
   exact Int.eq_of_mul_eq_mul_left ae m
  have t1:∀ {x:Int} {l:List Int},nz (x::l)->nz l:=by
   intro x l j;cases l with
   |nil=>simp[nz]
   |cons a t=>unfold nz at j ⊢;rwa [zo]at j
  rw[val_inj e (fun z g=>c z<|by simp[g]) (fun z g=>d z<|by simp[g]) (t1 n1) (t1 f) k]
theorem Sz(b:Nat)(a:2<=b):∀f n,n<=f->val b (X3 b f n)=n
 |0,n,h=>by simp[X3,val];omega
 |f+1,n,h=>by
  unfold X3;split
  ·rename_i h0;subst h0;rfl
  ·rename_i h0;have d:n/b<=f:=by
    have:n/b<n:=Nat.div_lt_self ae a;omega
   rw[val,Sz b a f (n/b) d];have:=Nat.mod_add_div n b;have c:((n % b+b*(n/b):Nat):Int)=(n:Int):=by rw[this]
   push_cast at c ⊢
   exact c
theorem UN(b:Nat)(c:2<=b):∀f n,Aw b<|X3 b f n
 |0,n=>by intro x a;cases a
 |f+1,n=>by
  unfold X3;split
  ·intro x a;cases a
  ·intro x a;rcases yg.1 a with rfl|a
   ·have:=Nat.mod_lt n (show 0<b by omega);omega
   ·exact UN b c f (n/b) x a
theorem gG(b:Nat)(d:2<=b):∀f n,n<=f->nz (X3 b f n)
 |0,n,_=>by simp[X3,nz]
 |f+1,n,h=>by
  unfold X3;split
  ·simp[nz]
  ·rename_i h0;have g:n/b<=f:=by
    have:n/b<n:=Nat.div_lt_self ae d;omega
   have e:=gG b d f (n/b) g;cases hr:X3 b f (n/b)with
   |nil=>
    have c:=Sz b d f (n/b) g;rw[hr]at c;have c:n/b=0:=by
     have:((n/b:Nat):Int)=0:=by rw[<-c];rfl
     exact_mod_cast this
    have i:n % b=n:=Nat.mod_eq_of_lt ((Nat.div_eq_zero_iff_lt ae).1 c);simp[nz];omega
   |cons a t=>rw[hr]at e;unfold nz at e ⊢;rw[zo];exact e
theorem C9{b:Nat}(a:2<=b){n:Int}(c:0<=n):val b (dg b n)=n:=by
 unfold dg;rw[Sz b a _ _<|zg _];omega
theorem FO{b:Nat}(a:2<=b)(n:Int):Aw b (dg b n):=UN b a _ _
theorem Yj{b:Nat}(a:2<=b)(n:Int):nz (dg b n):=gG b a _ _<|zg _
theorem Jc{b:Nat}(a:2<=b){l:List Int}(c:Aw b l)(d:nz l):l=dg b (val b l):=
 val_inj ae c (FO a _) d (Yj a _) (C9 a<|AD ae c).symm
theorem YD{b:Nat}(c:2<=b){l:List Int}(a:Aw b l):Ax l=dg b (val b l):=by
 rw[<-JF];exact Jc c (HA a)<|LX l
theorem zX{b:Nat}(c:2<=b){n:Int}(a:0<=n):dg b n=[]↔n=0:=by
 constructor
 ·intro h;have:=C9 c a;rw[h]at this;simpa [val]using this.symm
 ·rintro rfl;rfl
theorem IM:∀l:List Int,Ax (l++[0])=Ax l
 |[]=>rfl
 |d::r=>by
  rw[List.cons_append];unfold Ax;rw[IM r]
theorem YS{l:List Int}{d:Int}(h:d≠0):nz (l++[d]):=by
 unfold nz;rw[List.getLast?_append];simp[h]
theorem uG{x:Int}{l:List Int}(b:nz (x::l)):nz l:=by
 cases l with
 |nil=>simp[nz]
 |cons a t=>unfold nz at b ⊢;rwa [zo]at b
theorem Dw{b:Int}(c:0<b):∀ {l:List Int},Aw b l->nz l->l≠[]->b^(l.length-1)<=val b l
 |[],_,_,h=>wh rfl h
 |[d],h,a,_=>by
  have:=Jk c h a (by simp);simp at this ⊢;omega
 |d::e::r,h,a,_=>by
  have j:=(h d<|by simp).1;have i:=Dw c (l:=e::r) (fun x f=>h x<|by simp[f]) (uG a) (by simp);have g:(d::e::r).length-1=((e::r).length-1)+1:=by simp
  rw[g,yk,qg];have:=zq i (show 0<=b by omega);unfold val;omega
theorem AR{b:Int}(a:0<b):∀n:Nat,0<b^n
 |0=>by simp
 |n+1=>by rw[yk];exact Int.mul_pos (AR a n) a
theorem AM{b:Int}(a:1<=b){m n:Nat}(h:m<=n):b^m<=b^n:=by
 obtain⟨k,rfl⟩:=Nat.exists_eq_add_of_le h;induction k with
 |zero=>exact Int.le_refl _
 |succ k c=>
  have:=c ae;rw[show m+(k+1)=(m+k)+1 from rfl,yk];have hp:=AR (show 0<b by omega)<|m+k;have:=zq a (show 0<=b^(m+k)by omega);rw[Int.mul_one]at this;omega
theorem E2{b:Int}(e:2<=b){l r:List Int}(a:Aw b l)(c:Aw b r)(d:nz r)(h:l.length<r.length):val b l<val b r:=by
 have a1:=Bs ae a;have a2:=Dw ae c d (by rintro rfl;simp at h);have:=AM (show 1<=b by omega) (show l.length<=r.length-1 by omega);omega
theorem AQ{b:Int}{l:List Int}(h:Aw b l)(i:Nat):Aw b (l.take i):=fun d a=>h d<|List.mem_of_mem_take a
theorem E1{b:Int}{l:List Int}(h:Aw b l)(i:Nat):Aw b (l.drop i):=fun d a=>h d<|List.mem_of_mem_drop a
theorem Cq(b:Int)(l:List Int)(i:Nat)(h:i<=l.length):val b l=val b (l.take i)+b^i*val b (l.drop i):=by
 conv=>lhs;rw[<-List.take_append_drop i l]
 rw[Da,yv,y9 h]
theorem Jx{b:Int}(k:2<=b){l r:List Int}{x y:Int}{s:List Int}{i:Nat}(e:Aw b l)(hr:Aw b r)(c:l.drop i=x::s)(a:r.drop i=y::s)(h:x<y):val b l<val b r:=by
 have d:i<=l.length:=by
  rcases Nat.lt_or_ge l.length i with h|h
  ·rw[yz ae]at c;cases c
  ·exact h
 have i2:i<=r.length:=by
  rcases Nat.lt_or_ge r.length i with h|h
  ·rw[yz ae]at a;cases a
  ·exact h
 have a1:=Bs ae<|AQ e i;have a2:=AD (show 0<=b by omega)<|AQ hr i;rw[yv,y9 d]at a1;rw[Cq b l i d,Cq b r i i2,c,a,show val b (x::s)=x+b*val b s from rfl,show val b (y::s)=y+b*val b s from rfl];have hp:=AR (show 0<b by omega) i;have j:b^i*(x+b*val b s)=b^i*x+b^i*(b*val b s):=qc _ _ _;have g:b^i*(y+b*val b s)=b^i*y+b^i*(b*val b s):=qc _ _ _;have f:b^i*(x+1)<=b^i*y:=zq ae ae;rw[qc,Int.mul_one]at f;rw[j,g];omega
theorem N9(b:Nat)(a:2<=b):∀(k f n:Nat),n<b^k->(X3 b f n).length<=k
 |k,0,n,_=>by simp[X3]
 |0,f+1,n,h=>by
  have:n=0:=by simpa using h
  subst this;simp[X3]
 |k+1,f+1,n,h=>by
  unfold X3;split
  ·simp
  ·have:n/b<b^k:=by
    rw[Nat.pow_succ]at h;exact Nat.div_lt_of_lt_mul (by rw[Nat.mul_comm];exact h)
   have:=N9 b a k f (n/b) this;simp;omega
end Go.Sp
namespace Go.Det
section
inductive PM (α:Type) where
 |leaf
 |node (l:PM α) (v:Option α) (r:PM α)
inductive Hd where
 |here
 |l (p:Hd)
 |r (p:Hd)
variable {α:Type}
def wX(f:Nat):Nat->Hd:=
 @Nat.rec (fun _=>Nat->Hd) (fun _=>.here) (fun _ a i=>bif zt i 0 then .here else bif zt (Nat.mod i 2) 1 then .l (a<|Nat.div i 2)else .r<|a<|Nat.sub (Nat.div i 2) 1) f
def pth(i:Nat):Hd:=wX i i
def Hd.get(p:Hd):PM α->Option α:=
 @Hd.rec (fun _=>PM α->Option α)
  (fun m=>@PM.rec α (fun _=>Option α) none (fun _ v _ _ _=>v) m)
  (fun _ a m=>@PM.rec α (fun _=>Option α) none (fun l _ _ _ _=>a l) m)
  (fun _ a m=>@PM.rec α (fun _=>Option α) none (fun _ _ r _ _=>a r) m) p
def Hd.set(p:Hd):PM α->Option α->PM α:=
 @Hd.rec (fun _=>PM α->Option α->PM α)
  (fun m v=>@PM.rec α (fun _=>PM α) (.node .leaf v .leaf) (fun l _ r _ _=>.node l v r) m)
  (fun _ a m v=>@PM.rec α (fun _=>PM α) (.node (a .leaf v) none .leaf) (fun l x r _ _=>.node (a l v) x r) m)
  (fun _ a m v=>@PM.rec α (fun _=>PM α) (.node .leaf none<|a .leaf v) (fun l x r _ _=>.node l x<|a r v) m) p
def PM.get(m:PM α)(i:Nat):Option α:=(pth i).get m
def PM.set(m:PM α)(i:Nat)(v:Option α):PM α:=(pth i).set m v
theorem Bp(a b:Nat):zt a b=decide (a=b):=by
 by_cases h:a=b
 ·subst h;simp
 ·rw[w8 h];cases e:zt a b with
  |false=>rfl
  |true=>exact wh (Nat.eq_of_beq_eq_true e) h
def Hd.num:Hd->Nat
 | .here=>0
 | .l p=>2*p.num+1
 | .r p=>2*(p.num+1)
theorem LO:∀(f i:Nat),i<=f->(wX f i).num=i
 |0,i,h=>by cases Nat.le_zero.1 h;rfl
 |f+1,i,h=>by
  show Hd.num (bif zt i 0 then .here else bif zt (i % 2) 1 then .l (wX f<|i/2)else .r<|wX f<|i/2-1)=i;simp only[Bp];by_cases h0:i=0
  ·subst h0;rfl
  ·by_cases a:i % 2=1
   ·simp only[h0,a,decide_false,decide_true,wg,we,Hd.num];rw[LO f (i/2) ae];omega
   ·simp only[h0,a,decide_false,wg,Hd.num];rw[LO f (i/2-1) ae];omega
theorem wI{i j:Nat}(h:pth i=pth j):i=j:=by
 have:=wi Hd.num h;unfold pth at this;rwa [LO i i<|zg _,LO j j<|zg _]at this
theorem Hd.Du(p:Hd):p.get (.leaf:PM α)=none:=by cases p<;>rfl
theorem Hd.get_set_same:∀(p:Hd) (m:PM α) (v:Option α),p.get (p.set m v)=v
 | .here,m,v=>by cases m<;>rfl
 | .l p,m,v=>by
  cases m with
  |leaf=>exact Hd.get_set_same p .leaf v
  |node l x r=>exact Hd.get_set_same p l v
 | .r p,m,v=>by
  cases m with
  |leaf=>exact Hd.get_set_same p .leaf v
  |node l x r=>exact Hd.get_set_same p r v
theorem Hd.FZ:∀(p q:Hd) (m:PM α) (v:Option α),q≠p->q.get (p.set m v)=q.get m
 | .here,.here,m,v,h=>wh rfl h
 | .here,.l q,m,v,_=>by
  cases m with
  |leaf=>exact q.Du
  |node l x r=>rfl
 | .here,.r q,m,v,_=>by
  cases m with
  |leaf=>exact q.Du
  |node l x r=>rfl
 | .l p,.here,m,v,_=>by cases m<;>rfl
 | .r p,.here,m,v,_=>by cases m<;>rfl
 | .l p,.r q,m,v,_=>by
  cases m with
  |leaf=>exact q.Du
  |node l x r=>rfl
 | .r p,.l q,m,v,_=>by
  cases m with
  |leaf=>exact q.Du
  |node l x r=>rfl
 | .l p,.l q,m,v,h=>by
  have h':q≠p:=fun e=>h (by rw[e])
  cases m with
  |leaf=>exact(Hd.FZ p q .leaf v h').trans q.Du
  |node l x r=>exact Hd.FZ p q l v h'
 | .r p,.r q,m,v,h=>by
  have h':q≠p:=fun e=>h (by rw[e])
  cases m with
  |leaf=>exact(Hd.FZ p q .leaf v h').trans q.Du
  |node l x r=>exact Hd.FZ p q r v h'
@[simp] theorem PM.Dm(m:PM α)(i:Nat)(v:Option α)(j:Nat):(m.set i v).get j=if j=i then v else m.get j:=by
 unfold PM.get PM.set;by_cases e:j=i
 ·subst e;rw[wd rfl];exact Hd.get_set_same _ _ _
 ·rw[wc e];exact Hd.FZ _ _ _ _<|fun h=>e<|wI h
@[simp] theorem PM.Du(j:Nat):(PM.leaf:PM α).get j=none:=Hd.Du _
def EN(l:List α):Nat:=@yw α (fun _=>Nat) 0 (fun _ _ a=>qe a 1) l
theorem Db(l:List α):EN l=l.length:=by
 induction l with
 |nil=>rfl
 |cons a l b=>show qe (EN l) 1=_;rw[b];rfl
def JX(n:Nat):List α->List α:=
 @Nat.rec (fun _=>List α->List α) (fun l=>l) (fun _ b l=>@yw α (fun _=>List α) [] (fun _ a _=>b a) l) n
theorem Pa:∀(n:Nat) (l:List α),JX n l=l.drop n
 |0,_l=>rfl
 |_n+1,[]=>rfl
 |n+1,_a::l=>Pa n l
def YR(n:Nat):List α->List α:=
 @Nat.rec (fun _=>List α->List α) (fun _=>[]) (fun _ c l=>@yw α (fun _=>List α) [] (fun a b _=>a::c b) l) n
theorem OB:∀(n:Nat) (l:List α),YR n l=l.take n
 |0,_l=>rfl
 |_n+1,[]=>rfl
 |n+1,a::l=>wi (a:: ·)<|OB n l
def Ka(vs:List α):List α->List α:=
 @yw α (fun _=>List α->List α) (fun l=>l) (fun v _ b l=>@yw α (fun _=>List α) [] (fun _ a _=>v::b a) l) vs
def CE(n:Nat)(vs:List α):List α->List α:=
 @Nat.rec (fun _=>List α->List α) (fun l=>Ka vs l) (fun _ c l=>@yw α (fun _=>List α) [] (fun a b _=>a::c b) l) n
def KZ(f:α->Bool)(l:List α):Bool:=@yw α (fun _=>Bool) true (fun a _ b=>bif f a then b else false) l
theorem FL(f:α->Bool):∀l:List α,KZ f l=l.all f
 |[]=>rfl
 |a::l=>by
  show(bif f a then KZ f l else false)=_;rw[FL f l,List.all_cons];cases f a<;>rfl
inductive V where
 |bool (b:Bool)
 |int (k:IntKind) (n:Int)
 |str (s:Z)
 |nilp
 |ptr (b off:Nat)
 |nils
 |sl (b off len cap o:Nat)
 |esl
 |es0
 |junk
 |nilm
 |map (b:Nat)
 |fn (f:Fn) (first captured:List V)
 |yld (b:Nat)
 |nilf
 |iface (t:TypeId) (v:V)
 |nili
 |agg (cs:List V)
 |tup (vs:List V)
 deriving Inhabited
abbrev Pl:=List<|Nat×Nat
def bytesOf(s:Z):ByteArray:=⟨s.toArray⟩
mutual
def Ac(p:Pl):V->Value->Prop
 | .bool b,v=>v=.bool b
 | .int k n,v=>v=.int k n
 | .str s,v=>v=.string (bytesOf s)
 | .nilp,v=>v=.pointer none
 | .ptr b off,v=>∃r n,p[b]?=some (r,n)/\v=.pointer (some ⟨r,off,none⟩)
 | .nils,v=>v=.slice none 0 0
 | .sl b off len cap o,v=>∃r n c,p[b]?=some (r,n)/\v=.slice (some ⟨r,off,none⟩) len c/\len<=cap/\cap<=c/\(o=0->c=cap)/\(o≠0->off+c*o<=n)
 | .esl,v=>∃a c,v=.slice (some a) 0 c
 | .es0,v=>∃a,v=.slice (some a) 0 0
 | .junk,_=>False
 | .nilm,v=>v=.map none
 | .map b,v=>∃r n,p[b]?=some (r,n)/\v=.map (some r)
 | .fn f first captured,v=>∃x y,v=.func f x y/\At p first x.toList/\At p captured y.toList
 | .yld b,v=>∃r n,p[b]?=some (r,n)/\v=.func (.yield r) #[] #[]
 | .nilf,v=>v=.nilFunc
 | .iface t x,v=>∃y,v=.iface t y/\Ac p x y
 | .nili,v=>v=.nilIface
 | .agg cs,v=>∃x,v=.agg x/\At p cs x.toList
 | .tup cs,v=>∃x,v=.tuple x/\At p cs x.toList
def At(p:Pl):List V->List Value->Prop
 |[],l=>l=[]
 |d::ds,l=>∃v vs,l=v::vs/\Ac p d v/\At p ds vs
end
@[simp] theorem G7(p:Pl)(l:List Value):At p [] l↔l=[]:=by simp[At]
@[simp] theorem Bh(p:Pl)(d:V)(ds:List V)(v:Value)(vs:List Value):At p (d::ds) (v::vs)↔Ac p d v/\At p ds vs:=by
 simp only[At];constructor
 ·rintro⟨_,_,h,a,b⟩;cases h;exact⟨a,b⟩
 ·rintro⟨a,b⟩;exact⟨v,vs,rfl,a,b⟩
@[simp] theorem mE(p:Pl)(d:V)(ds:List V):¬At p (d::ds) []:=by
 simp[At]
theorem At.length{p:Pl}:∀ {ds:List V} {vs:List Value},At p ds vs->ds.length=vs.length
 |[],vs,h=>by simp at h;simp[h]
 |d::ds,[],h=>by simp at h
 |d::ds,v::vs,h=>by simp at h;simp[h.2.length]
theorem At.get{p:Pl}:∀ {ds:List V} {vs:List Value},At p ds vs->∀ {i:Nat} {d:V},ds[i]?=some d->∃v,vs[i]?=some v/\Ac p d v
 |[],vs,_,i,d,a=>by simp at a
 |d::ds,[],h,_,_,_=>by simp at h
 |d::ds,v::vs,h,i,x,a=>by
  simp at h;cases i with
  |zero=>simp at a;subst a;exact⟨v,rfl,h.1⟩
  |succ i=>simp at a;simpa using h.2.get a
theorem At.mk{p:Pl}:∀ {ds:List V} {vs:List Value},ds.length=vs.length->(∀(i:Nat) d v,ds[i]?=some d->vs[i]?=some v->Ac p d v)->At p ds vs
 |[],[],_,_=>by simp
 |[],_::_,h,_=>by simp at h
 |_::_,[],h,_=>by simp at h
 |d::ds,v::vs,h,a=>by
  simp at h;rw[Bh];exact⟨a 0 d v rfl rfl,At.mk h<|fun i c v' b e=>a (i+1) c v' (by simpa using b)<|by simpa using e⟩
theorem At.append{p:Pl}:∀ {a:List V} {x:List Value} {b:List V} {y:List Value},At p a x->At p b y->At p (a++b) (x++y)
 |[],x,b,y,h,h'=>by simp at h;subst h;simpa using h'
 |d::ds,[],_,_,h,_=>by simp at h
 |d::ds,v::vs,b,y,h,h'=>by simp at h;simp[h.1,h.2.append h']
theorem At.take{p:Pl}:∀ {a:List V} {x:List Value} (n:Nat),At p a x->At p (a.take n) (x.take n)
 |[],x,n,h=>by simp at h;subst h;simp
 |d::ds,[],_,h=>by simp at h
 |d::ds,v::vs,0,h=>by simp
 |d::ds,v::vs,n+1,h=>by simp at h;simp[h.1,h.2.take n]
theorem At.drop{p:Pl}:∀ {a:List V} {x:List Value} (n:Nat),At p a x->At p (a.drop n) (x.drop n)
 |[],x,n,h=>by simp at h;subst h;simp
 |d::ds,[],_,h=>by simp at h
 |d::ds,v::vs,0,h=>by simpa using h
 |d::ds,v::vs,n+1,h=>by simp at h;simpa using h.2.drop n
theorem At.set{p:Pl}:∀ {a:List V} {x:List Value} (i:Nat) {d:V} {v:Value},At p a x->Ac p d v->At p (a.set i d) (x.set i v)
 |[],x,n,_,_,h,_=>by simp at h;subst h;simp
 |d::ds,[],_,_,_,h,_=>by simp at h
 |d::ds,v::vs,0,_,_,h,h'=>by simp at h;simp[h.2,h']
 |d::ds,v::vs,n+1,_,_,h,h'=>by simp at h;simp[h.1,h.2.set n h']
mutual
theorem Ac.mono{p:Pl}(q:Pl):∀ {d:V} {v:Value},Ac p d v->Ac (p++q) d v
 | .bool _,_,h=>by simpa [Ac]using h
 | .int _ _,_,h=>by simpa [Ac]using h
 | .str _,_,h=>by simpa [Ac]using h
 | .nilp,_,h=>by simpa [Ac]using h
 | .ptr b off,v,h=>by
  simp only[Ac]at h ⊢;obtain⟨r,n,e,g⟩:=h;exact⟨r,n,by rw[zi (by have:=(zf.1 e).1;omega)];exact e,g⟩
 | .nils,_,h=>by simpa [Ac]using h
 | .sl b off len cap o,v,h=>by
  simp only[Ac]at h ⊢;obtain⟨r,n,c,e,g⟩:=h;exact⟨r,n,c,by rw[zi (by have:=(zf.1 e).1;omega)];exact e,g⟩
 | .esl,_,h=>by simpa [Ac]using h
 | .es0,_,h=>by simpa [Ac]using h
 | .junk,_,h=>by simp[Ac]at h
 | .nilm,_,h=>by simpa [Ac]using h
 | .map b,v,h=>by
  simp only[Ac]at h ⊢;obtain⟨r,n,e,g⟩:=h;exact⟨r,n,by rw[zi (by have:=(zf.1 e).1;omega)];exact e,g⟩
 | .fn f a b,v,h=>by
  simp only[Ac]at h ⊢;obtain⟨x,y,rfl,e,g⟩:=h;exact⟨x,y,rfl,At.mono q e,At.mono q g⟩
 | .yld b,v,h=>by
  simp only[Ac]at h ⊢;obtain⟨r,n,e,g⟩:=h;exact⟨r,n,by rw[zi (by have:=(zf.1 e).1;omega)];exact e,g⟩
 | .nilf,_,h=>by simpa [Ac]using h
 | .iface t x,v,h=>by
  simp only[Ac]at h ⊢;obtain⟨y,rfl,e⟩:=h;exact⟨y,rfl,Ac.mono q e⟩
 | .nili,_,h=>by simpa [Ac]using h
 | .agg cs,v,h=>by
  simp only[Ac]at h ⊢;obtain⟨x,rfl,e⟩:=h;exact⟨x,rfl,At.mono q e⟩
 | .tup cs,v,h=>by
  simp only[Ac]at h ⊢;obtain⟨x,rfl,e⟩:=h;exact⟨x,rfl,At.mono q e⟩
theorem At.mono{p:Pl}(q:Pl):∀ {ds:List V} {vs:List Value},At p ds vs->At (p++q) ds vs
 |[],_,h=>by simpa using h
 |_::_,[],h=>by simp at h
 |d::ds,v::vs,h=>by simp only[Bh]at h ⊢;exact⟨Ac.mono q h.1,At.mono q h.2⟩
end
structure Fr where
 n:Nat
 m:PM V
def Fr.get(f:Fr)(t:Nat):V:=(f.m.get t).getD<|.tup []
def Fr.put(f:Fr)(d:Option Nat)(v:V):Option Fr:=
 match d with
 |none=>some f
 |some t=>bif y7 t f.n then some ⟨f.n,f.m.set t<|some v⟩else none
def Fq(p:Pl)(f:Fr)(tmps:Array Value):Prop:=f.n=tmps.size/\∀t,Ac p (f.get t)<|tmps.getD t undef
def CM(p:Pl)(f:Fr)(a:Act):Prop:=f.n=a.tmps.size/\∀t,Ac p (f.get t)<|a.tmps.getD t undef
theorem Fq.mono{p:Pl}(q:Pl){f:Fr}{tmps:Array Value}(h:Fq p f tmps):Fq (p++q) f tmps:=⟨h.1,fun t=>(h.2 t).mono q⟩
structure LS where
 st:LoopState
 pend:Option Code
 fr:Fr
 ps:Array Tmp
 asg:Code
 body:Code
 db:Nat
inductive O where
 |cells (cs:List V) (elem:TypeId) (fz:Nat×Nat)
 |map (es:List (V×V×Nat)) (clock:Nat)
 |siter (s:Z) (pos:Nat)
 |miter (b:Option Nat) (since:Nat) (seen:List Nat) (last:Nat)
 |loop (l:LS)
 |defd (open_:Bool)
structure H where
 m:PM O
 nx:Nat
def H.get(h:H)(b:Nat):Option O:=h.m.get b
def H.push(h:H)(o:O):H:=⟨h.m.set h.nx<|some o,h.nx+1⟩
def H.put(h:H)(b:Nat)(o:O):H:=⟨h.m.set b<|some o,h.nx⟩
def H.kill(h:H)(b:Nat):H:=⟨h.m.set b none,h.nx⟩
@[simp] theorem H.BI(h:H)(o:O)(b:Nat):(h.push o).get b=if b=h.nx then some o else h.get b:=by simp[H.push,H.get]
@[simp] theorem H.Bm(h:H)(b:Nat)(o:O)(j:Nat):(h.put b o).get j=if j=b then some o else h.get j:=by simp[H.put,H.get]
@[simp] theorem H.Ch(h:H)(b:Nat)(j:Nat):(h.kill b).get j=if j=b then none else h.get j:=by simp[H.kill,H.get]
@[simp] theorem H.AdU(h:H)(o:O):(h.push o).nx=h.nx+1:=rfl
@[simp] theorem H.AeD(h:H)(b:Nat)(o:O):(h.put b o).nx=h.nx:=rfl
@[simp] theorem H.ZU(h:H)(b:Nat):(h.kill b).nx=h.nx:=rfl
inductive DQ (p:Pl):List (V×V×Nat)->List MapEntry->Prop
 |nil:DQ p [] []
 |cons {k v:V} {b:Nat} {es:List (V×V×Nat)} {e:MapEntry} {l:List MapEntry}:Ac p k e.key->Ac p v e.val->e.born=b->DQ p es l->DQ p ((k,v,b)::es) (e::l)
def V.ok:V->Bool
 | .junk=>false
 |_=>true
def ED(p:Pl)(cs:List V)(vs:List Value):Prop:=cs.length=vs.length/\∀(i:Nat) d v,cs[i]?=some d->vs[i]?=some v->d.ok=true->Ac p d v
theorem At.toC{p:Pl}{cs:List V}{vs:List Value}(h:At p cs vs):ED p cs vs:=⟨h.length,fun i d v b e _=>by
 obtain⟨u,a,c⟩:=h.get b;rw[e]at a;cases a;exact c⟩
theorem ED.get{p:Pl}{cs:List V}{vs:List Value}(h:ED p cs vs){i:Nat}{d:V}(b:cs[i]?=some d)(c:d.ok=true):∃v,vs[i]?=some v/\Ac p d v:=by
 have a:i<vs.length:=by rw[<-h.1];exact(zf.1 b).1
 exact⟨vs[i],ya a,h.2 i d _ b (ya a) c⟩
theorem ED.drop{p:Pl}{cs:List V}{vs:List Value}(h:ED p cs vs)(n:Nat):ED p (cs.drop n) (vs.drop n):=
 ⟨by simp[h.1],fun i d v a b=>h.2 (n+i) d v (by rwa [yn]at a)<|by rwa [yn]at b⟩
theorem ED.take{p:Pl}{cs:List V}{vs:List Value}(h:ED p cs vs)(n:Nat):ED p (cs.take n) (vs.take n):=
 ⟨by simp[h.1],fun i d v a b=>by
  have c:i<n:=by have:=(zf.1 a).1;simp at this;omega
  rw[zk c]at a b;exact h.2 i d v a b⟩
theorem ED.NL{p:Pl}{cs:List V}{vs:List Value}(h:ED p cs vs)(b:∀d∈cs,d.ok=true):At p cs vs:=
 At.mk h.1 fun i d v a c=>h.2 i d v a c<|b d<|List.mem_of_getElem? a
def G8(p:Pl)(n:Nat):O->Obj->Prop
 | .cells cs t fz,o=>∃(c:Array Value) (fz':Nat×Nat),o=.cells c t fz'/\c.size=n/\cs.length<=n/\ED p cs (c.toList.take cs.length)/\∀i,i<n->fz'.1<=i->i<fz'.2->fz.1<=i/\i<fz.2
 | .map es clock,o=>∃l:Array MapEntry,o=.map l clock/\DQ p es l.toList
 | .siter s pos,o=>o=.stringIter (bytesOf s) pos
 | .miter none since seen last,o=>o=.mapIter none since seen.toArray last
 | .miter (some b) since seen last,o=>∃r m,p[b]?=some (r,m)/\o=.mapIter (some r) since seen.toArray last
 | .loop l,o=>∃(fn:FuncId) (tmps:Array Value) (r m:Nat),Fq p l.fr tmps/\p[l.db]?=some (r,m)/\o=.loop { state:=l.st,pending:=l.pend,fn,tmps,params:=l.ps,assign:=l.asg,body:=l.body,defers:=r }
 | .defd op,o=>o=.deferred (bif op then some []else none)
theorem ED.mono{p:Pl}(q:Pl){cs:List V}{vs:List Value}(h:ED p cs vs):ED (p++q) cs vs:=⟨h.1,fun i d v a c b=>(h.2 i d v a c b).mono q⟩
theorem DQ.mono{p:Pl}(q:Pl){es:List (V×V×Nat)}{l:List MapEntry}(h:DQ p es l):DQ (p++q) es l:=by
 induction h with
 |nil=>exact .nil
 |cons a d b _ c=>exact .cons (a.mono q) (d.mono q) b c
theorem G8.mono{p:Pl}(q:Pl){n:Nat}{o:O}{x:Obj}(h:G8 p n o x):G8 (p++q) n o x:=by
 cases o with
 |cells cs t fz=>obtain⟨c,fz',a,d,f,e,g⟩:=h;exact⟨c,fz',a,d,f,e.mono q,g⟩
 |map es i=>obtain⟨l,a,d⟩:=h;exact⟨l,a,d.mono q⟩
 |siter s pos=>exact h
 |miter b since seen last=>
  cases b with
  |none=>exact h
  |some b=>
   obtain⟨r,m,a,d⟩:=h;exact⟨r,m,by rw[zi (zf.1 a).1];exact a,d⟩
 |loop l=>
  obtain⟨fn,tmps,r,m,h0,a,d⟩:=h;exact⟨fn,tmps,r,m,h0.mono q,by rw[zi (zf.1 a).1];exact a,d⟩
 |defd _=>exact h
structure R(p:Pl)(h:H)(w:World):Prop where
 len:p.length=h.nx
 obj:∀b o,h.get b=some o->∃r n x,p[b]?=some (r,n)/\w.heap[r]?=some x/\G8 p n o x
 inj:∀b b' o o' r n n',h.get b=some o->h.get b'=some o'->p[b]?=some (r,n)->p[b']?=some (r,n')->b=b'
def Im(p:Pl)(h:H)(r:Nat):Prop:=∃b o n,h.get b=some o/\p[b]?=some (r,n)
def Lk(n:Nat)(fz:Nat×Nat):Prop:=fz.1=0/\n<=fz.2/\0<fz.2
def Lkd(p:Pl)(h:H)(r:Nat):Prop:=∃b n cs t fz,h.get b=some (.cells cs t fz)/\p[b]?=some (r,n)/\Lk n fz
structure Ext(p:Pl)(h:H)(w:World)(p':Pl)(h':H)(w':World):Prop where
 pre:∃q,p'=p++q
 rel:R p' h' w'
 size:w.heap.size<=w'.heap.size
 same:∀r,r<w.heap.size->¬Im p h r->w'.heap[r]?=w.heap[r]?
 im:∀r,Im p' h' r->Im p h r\/w.heap.size<=r
 os:w'.os=w.os
 out:w'.output=w.output
 tape:w'.tape=w.tape
 lock:∀r,r<w.heap.size->Lkd p h r->w'.heap[r]?=w.heap[r]?/\(Lkd p' h' r\/¬Im p' h' r)
theorem Ext.refl{p:Pl}{h:H}{w:World}(hr:R p h w):Ext p h w p h w:=
 ⟨⟨[],by simp⟩,hr,zg _,fun _ _ _=>rfl,fun _ h=>.inl h,rfl,rfl,rfl,fun _ _ h=>⟨rfl,.inl h⟩⟩
theorem Ext.trans{p j i:Pl}{h e d:H}{w k g:World}(a:Ext p h w j e k)(b:Ext j e k i d g):Ext p h w i d g:=by
 obtain⟨q,u⟩:=a.pre;obtain⟨q',hq'⟩:=b.pre;refine⟨⟨q++q',by rw[hq',u,List.append_assoc]⟩,b.rel,Nat.le_trans a.size b.size,fun r hr n=>?_,fun r hr=>?_,b.os.trans a.os,b.out.trans a.out,b.tape.trans a.tape,fun r m t=>?_⟩
 ·rw[b.same r (Nat.lt_of_lt_of_le hr a.size) ?_,a.same r hr n];intro c;rcases a.im r c with l|l
  ·exact n l
  ·omega
 ·rcases b.im r hr with c|c
  ·exact a.im r c
  ·exact .inr<|Nat.le_trans a.size c
 ·obtain⟨o,c⟩:=a.lock r m t;have f:=Nat.lt_of_lt_of_le m a.size;rcases c with c|c
  ·obtain⟨s,l⟩:=b.lock r f c;exact⟨s.trans o,l⟩
  ·refine⟨(b.same r f c).trans o,.inr fun v=>?_⟩;rcases b.im r v with l|l
   ·exact c l
   ·omega
theorem Ext.mG{p p':Pl}{h h':H}{w w':World}(e:Ext p h w p' h' w'){d:V}{v:Value}(a:Ac p d v):Ac p' d v:=by
 obtain⟨q,rfl⟩:=e.pre;exact a.mono q
theorem Ext.drew{p:Pl}{h:H}{w:World}(hr:R p h w)(n:Nat):Ext p h w p h { w with drawn:=n }:=
 ⟨⟨[],by simp⟩,⟨hr.len,hr.obj,hr.inj⟩,zg _,fun _ _ _=>rfl,fun _ h=>.inl h,rfl,rfl,rfl,fun _ _ h=>⟨rfl,.inl h⟩⟩
theorem R.lt{p:Pl}{h:H}{w:World}(hr:R p h w){b:Nat}{o:O}(c:h.get b=some o):b<h.nx:=by
 obtain⟨r,n,x,a,_⟩:=hr.obj b o c;have:=(zf.1 a).1;have:=hr.len;omega
theorem R.Zp{p:Pl}{h:H}{w:World}(hr:R p h w){r:Nat}(d:Im p h r):r<w.heap.size:=by
 obtain⟨b,o,n,a,c⟩:=d;obtain⟨r',n',x,h3,h4,_⟩:=hr.obj b o a;rw[c]at h3;cases h3;exact(zx.1 h4).1
theorem Ext.push{p:Pl}{h:H}{w:World}(hr:R p h w){o:O}{x:Obj}{n:Nat}(D:G8 p n o x):
  Ext p h w (p++[(w.heap.size,n)]) (h.push o) { w with heap:=w.heap.push x }:=by
 have J:∀b o',h.get b=some o'->b≠h.nx:=fun b o' d=>by have:=hr.lt d;omega
 have f:(p++[(w.heap.size,n)])[h.nx]?=some (w.heap.size,n):=by rw[<-hr.len];simp
 have a:∀b,b<h.nx->(p++[(w.heap.size,n)])[b]?=p[b]?:=fun b d=>zi (by rw[hr.len];exact d)
 refine⟨⟨_,rfl⟩,⟨by simp[hr.len],fun b o' d=>?_,fun b b' k j r m A d s i g=>?_⟩,by simp,fun r l _=>?_,fun r G=>?_,rfl,rfl,rfl,fun r l F=>?_⟩
 ·rw[H.BI]at d;by_cases e:b=h.nx
  ·subst e;simp at d;subst d;exact⟨_,_,x,f,by simp,D.mono _⟩
  ·rw[wc e]at d;obtain⟨r,m,y,i,g,I⟩:=hr.obj b o' d;refine⟨r,m,y,by rw[a b<|hr.lt d];exact i,?_,I.mono _⟩;have:=(zx.1 g).1;simp[yj,qh this,g]
 ·have key:∀c o' r m,(h.push o).get c=some o'->(p++[(w.heap.size,n)])[c]?=some (r,m)->(c=h.nx/\r=w.heap.size)\/(h.get c=some o'/\p[c]?=some (r,m)/\r<w.heap.size):=by
   intro c o' r m q hp;rw[H.BI]at q;by_cases e:c=h.nx
   ·subst e;rw[f]at hp;cases hp;exact .inl ⟨rfl,rfl⟩
   ·rw[wc e]at q;rw[a c<|hr.lt q]at hp;exact .inr ⟨q,hp,hr.Zp ⟨c,o',m,q,hp⟩⟩
  rcases key b k r m d i with⟨C,z⟩|⟨C,z,L⟩<;>rcases key b' j r A s g with⟨B,v⟩|⟨B,v,M⟩
  ·omega
  ·omega
  ·omega
  ·exact hr.inj b b' k j r m A C B z v
 ·simp[yj,qh l]
 ·obtain⟨b,o',m,i,g⟩:=G;rw[H.BI]at i;by_cases e:b=h.nx
  ·subst e;rw[f]at g;cases g;exact .inr<|zg _
  ·rw[wc e]at i;rw[a b<|hr.lt i]at g;exact .inl ⟨b,o',m,i,g⟩
 ·refine⟨by simp[yj,qh l],.inl ?_⟩;obtain⟨b,m,cs,t,fz,u,K,E⟩:=F;refine⟨b,m,cs,t,fz,?_,?_,E⟩
  ·rw[H.BI,wc<|J b _ u];exact u
  ·rw[a b<|hr.lt u];exact K
theorem Ext.put{p:Pl}{h:H}{w w':World}(hr:R p h w){b r n:Nat}{o o':O}{x':Obj}(j:h.get b=some o)(hp:p[b]?=some (r,n))(I:G8 p n o' x')
  (l:w'.heap=w.heap.setIfInBounds r x') (z:w'.os=w.os) (E:w'.output=w.output) (L:w'.tape=w.tape)
  (Q:∀cs t fz,o=.cells cs t fz->Lk n fz->w.heap[r]?=some x'/\∃cs' A,o'=.cells cs' A fz:=by intro _ _ _ h;cases h):Ext p h w p (h.put b o') w':=by
 have u:r<w.heap.size:=hr.Zp ⟨b,o,n,j,hp⟩;refine⟨⟨[],by simp⟩,⟨hr.len,fun c f a=>?_,fun c F f k s m S a D z E=>?_⟩,by simp[l],fun s N G=>?_,fun s K=>?_,z,E,L,fun s N J=>?_⟩
 ·rw[H.Bm]at a;by_cases e:c=b
  ·subst e;simp at a;subst a;exact⟨r,n,x',hp,by rw[l];simp[u],I⟩
  ·rw[wc e]at a;obtain⟨s,m,y,g,q,M⟩:=hr.obj c f a;refine⟨s,m,y,g,?_,M⟩;have d:r≠s:=fun C=>e<|hr.inj c b f o s m n a j g<|C▸hp
   rw[l,zj d];exact q
 ·have i:∀c f,(h.put b o').get c=some f->∃k,h.get c=some k:=by
   intro c f a;rw[H.Bm]at a;by_cases e:c=b
   ·exact⟨o,e▸j⟩
   ·rw[wc e]at a;exact⟨f,a⟩
  obtain⟨_,g⟩:=i c f a;obtain⟨_,q⟩:=i F k D;exact hr.inj c F _ _ s m S g q z E
 ·have d:r≠s:=fun e=>G<|e▸⟨b,o,n,j,hp⟩
  rw[l,zj d]
 ·obtain⟨c,f,m,g,q⟩:=K;rw[H.Bm]at g;by_cases e:c=b
  ·subst e;exact .inl ⟨c,o,m,j,q⟩
  ·rw[wc e]at g;exact .inl ⟨c,f,m,g,q⟩
 ·obtain⟨c,m,cs,t,fz,v,x,B⟩:=J;by_cases e:c=b
  ·subst e;rw[hp]at x;cases x;rw[j]at v;cases v;obtain⟨g,cs',A,rfl⟩:=Q cs t fz rfl B;refine⟨?_,.inl ⟨c,n,cs',A,fz,by rw[H.Bm,wd rfl],hp,B⟩⟩;rw[l,g];simp[u]
  ·have d:r≠s:=fun C=>e<|hr.inj c b _ o s m n v j x<|C▸hp
   refine⟨by rw[l,zj d],.inl ⟨c,m,cs,t,fz,by rw[H.Bm,wc e];exact v,x,B⟩⟩
theorem R.kill{p:Pl}{h:H}{w:World}(hr:R p h w)(b:Nat):R p (h.kill b) w:=by
 have sub:∀c o,(h.kill b).get c=some o->h.get c=some o:=by
  intro c o a;rw[H.Ch]at a;split at a
  ·cases a
  ·exact a
 exact⟨hr.len,fun c o a=>hr.obj c o<|sub c o a,fun c e o o' r n n' a d=>hr.inj c e o o' r n n' (sub c o a)<|sub e o' d⟩
theorem Ext.kill{p:Pl}{h:H}{w:World}(hr:R p h w)(b:Nat):Ext p h w p (h.kill b) w:=by
 refine⟨⟨[],by simp⟩,hr.kill b,zg _,fun _ _ _=>rfl,fun r x=>?_,rfl,rfl,rfl,fun r v u=>⟨rfl,?_⟩⟩
 ·obtain⟨c,o,n,a,k⟩:=x;rw[H.Ch]at a;split at a
  ·cases a
  ·exact .inl ⟨c,o,n,a,k⟩
 ·obtain⟨c,m,cs,t,fz,g,i,s⟩:=u;by_cases e:c=b
  ·subst e;refine .inr ?_;rintro⟨j,o',l,d,q⟩;rw[H.Ch]at d;split at d
   ·cases d
   ·rename_i f;exact f<|hr.inj j c _ _ r l m d g q i
  ·exact .inl ⟨c,m,cs,t,fz,by rw[H.Ch,wc e];exact g,i,s⟩
theorem Ext.move{p:Pl}{h:H}{w w':World}(hr:R p h w){b r n:Nat}{o o':O}{x':Obj}(q:h.get b=some o)(hp:p[b]?=some (r,n))(Q:G8 p n o' x')
  (A:w'.heap=w.heap.setIfInBounds r x') (U:w'.os=w.os) (g2:w'.output=w.output) (W:w'.tape=w.tape) (X:∀cs t fz,o=.cells cs t fz->¬Lk n fz):Ext p h w (p++[(r,n)]) ((h.kill b).push o') w':=by
 have F:r<w.heap.size:=hr.Zp ⟨b,o,n,q,hp⟩;have i:(p++[(r,n)])[h.nx]?=some (r,n):=by rw[<-hr.len];simp
 have a:∀b,b<h.nx->(p++[(r,n)])[b]?=p[b]?:=fun b q=>zi (by rw[hr.len];exact q)
 have g:∀c d,((h.kill b).push o').get c=some d->(c=h.nx/\d=o')\/(c≠b/\c<h.nx/\h.get c=some d):=by
  intro c d f;rw[H.BI,H.ZU,H.Ch]at f;by_cases e:c=h.nx
  ·rw[wd e]at f;cases f;exact .inl ⟨e,rfl⟩
  ·rw[wc e]at f;by_cases k:c=b
   ·rw[wd k]at f;cases f
   ·rw[wc k]at f;exact .inr ⟨k,hr.lt f,f⟩
 have E:∀c d s m,c≠b->h.get c=some d->p[c]?=some (s,m)->r≠s:=fun c d s m f Y I e=>f<|hr.inj c b d o s m n Y q I<|e▸hp
 refine⟨⟨_,rfl⟩,⟨by simp[hr.len],fun c d f=>?_,fun c B d v s m Z f J x z=>?_⟩,by simp[A],fun s I N=>?_,fun s V=>?_,U,g2,W,fun s I S=>?_⟩
 ·rcases g c d f with⟨rfl,rfl⟩|⟨D,k,u⟩
  ·exact⟨r,n,x',i,by rw[A];simp[F],Q.mono _⟩
  ·obtain⟨s,m,y,l,j,C⟩:=hr.obj c d u;refine⟨s,m,y,by rw[a c k];exact l,?_,C.mono _⟩;rw[A,zj<|E c d s m D u l];exact j
 ·rcases g c d f with⟨rfl,rfl⟩|⟨D,k,u⟩<;>rcases g B v J with⟨rfl,rfl⟩|⟨f1,L,M⟩
  ·rfl
  ·rw[i]at x;cases x;rw[a B L]at z;exact wh rfl (E B v _ _ f1 M z)
  ·rw[i]at z;cases z;rw[a c k]at x;exact wh rfl (E c d _ _ D u x)
  ·rw[a c k]at x;rw[a B L]at z;exact hr.inj c B d v s m Z u M x z
 ·have K:r≠s:=fun e=>N<|e▸⟨b,o,n,q,hp⟩
  rw[A,zj K]
 ·obtain⟨c,d,m,l,j⟩:=V;rcases g c d l with⟨rfl,rfl⟩|⟨D,k,u⟩
  ·rw[i]at j;cases j;exact .inl ⟨b,o,n,q,hp⟩
  ·rw[a c k]at j;exact .inl ⟨c,d,m,u,j⟩
 ·obtain⟨c,m,cs,t,fz,l,j,C⟩:=S;by_cases e:c=b
  ·subst e;rw[hp]at j;cases j;rw[q]at l;cases l;exact wh C<|X cs t fz rfl
  ·have G:=hr.lt l;refine⟨by rw[A,zj<|E c _ s m e l j],.inl ⟨c,m,cs,t,fz,?_,by rw[a c G];exact j,C⟩⟩;rw[H.BI,H.ZU,wc ae,H.Ch,wc e];exact l
end
def Adm(l:List Nat):List V:=l.map fun n=>.int .u64<|.ofNat n
def Gr:List (Nat×O):=[(5,.cells (Adm [1,10,100,1000,10000,100000,1000000,10000000,100000000,1000000000,10000000000,100000000000,1000000000000,10000000000000,100000000000000,1000000000000000,10000000000000000,100000000000000000,1000000000000000000,10000000000000000000]) 320 (0,20))]
mutual
def V.flat:V->Bool
 | .bool _| .int _ _| .str _| .nilp| .nils| .nilm| .nilf| .nili=>true
 | .agg l| .tup l=>V.Iw l
 |_=>false
def V.Iw:List V->Bool
 |[]=>true
 |v::vs=>v.flat&&V.Iw vs
end
mutual
theorem V.Df{p q:Pl}:∀ {v:V} {v':Value},v.flat=true->Ac p v v'->Ac q v v'
 | .bool _,_,_,h| .int _ _,_,_,h| .str _,_,_,h| .nilp,_,_,h| .nils,_,_,h| .nilm,_,_,h| .nilf,_,_,h| .nili,_,_,h=>by simpa [Ac]using h
 | .agg l,_,a,h=>by
  simp only[Ac]at h ⊢;obtain⟨x,rfl,b⟩:=h;exact⟨x,rfl,V.Ji (by simpa [V.flat]using a) b⟩
 | .tup l,_,a,h=>by
  simp only[Ac]at h ⊢;obtain⟨x,rfl,b⟩:=h;exact⟨x,rfl,V.Ji (by simpa [V.flat]using a) b⟩
 | .ptr _ _,_,a,_| .sl _ _ _ _ _,_,a,_| .map _,_,a,_| .fn _ _ _,_,a,_| .yld _,_,a,_| .iface _ _,_,a,_=>by simp[V.flat]at a
theorem V.Ji{p q:Pl}:∀ {v:List V} {v':List Value},V.Iw v=true->At p v v'->At q v v'
 |[],_,_,h=>by simpa using h
 |_::_,[],_,h=>by simp at h
 |v::vs,x::xs,a,h=>by
  simp only[V.Iw,zw]at a;rw[Bh]at h ⊢;exact⟨V.Df a.1 h.1,V.Ji a.2 h.2⟩
end
def osz:O->Nat
 | .cells cs _ _=>cs.length
 |_=>0
def gin(g:Nat):List (Nat×O)->Bool
 |[]=>false
 |(i,_)::l=>bif zt i g then true else gin g l
def hGm:List (Nat×O)->PM O
 |[]=>.leaf
 |(i,o)::l=>(hGm l).set i<|some o
def KX:List (Nat×O)->Nat
 |[]=>0
 |(i,_)::l=>bif zu (i+1) (KX l)then KX l else i+1
def hG:H:=⟨hGm Gr,KX Gr⟩
def gok:List (Nat×O)->Bool
 |[]=>true
 |(_,.cells cs _ (a,b))::l=>V.Iw cs&&zt a 0&&zt b cs.length&&y7 0 b&&gok l
 |_=>false
theorem Yn:gok Gr=true:=by kernel_rfl
theorem YE{g:Nat}:∀ {l:List (Nat×O)},gin g l=true->∃o,(g,o)∈l
 |[],h=>by cases h
 |(i,o)::l,h=>by
  unfold gin at h;cases a:zt i g with
  |true=>cases Nat.eq_of_beq_eq_true a;exact⟨o,yo⟩
  |false=>
   rw[a]at h;obtain⟨o',b⟩:=YE h;exact⟨o',yh _ b⟩
theorem T5:∀ {l:List (Nat×O)},gok l=true->∀x∈l,∃cs t,x.2=.cells cs t (0,cs.length)/\V.Iw cs=true/\0<cs.length
 |[],_,x,c=>by cases c
 |(i,.cells cs t (a,b))::l,h,x,c=>by
  simp only[gok,zw]at h;obtain⟨⟨⟨⟨f,e⟩,d⟩,g⟩,j⟩:=h;rcases yg.1 c with rfl|c
  ·have e:a=0:=by simpa using e
   have d:b=cs.length:=by simpa using d
   subst e d;exact⟨cs,t,rfl,f,Nat.lt_of_succ_le<|yd g⟩
  ·exact T5 j x c
theorem Ll:∀ {l:List (Nat×O)} {b:Nat} {o:O},(hGm l).get b=some o->(b,o)∈l
 |[],b,o,h=>by simp[hGm]at h
 |(i,o')::l,b,o,h=>by
  simp only[hGm,PM.Dm]at h;by_cases e:b=i
  ·subst e;rw[wd rfl]at h;cases h;exact yo
  ·rw[wc e]at h;exact yh _<|Ll h
theorem Y3{n:Nat}:∀ {l:List (Nat×O)},(∀x∈l,x.1<n)->KX l<=n
 |[],_=>qd _
 |(i,o)::l,h=>by
  have b:=h (i,o) yo;have c:=Y3 (l:=l) fun x a=>h x<|yh _ a
  unfold KX;cases zu (i+1) (KX l)<;>simp<;>omega
theorem Tv:∀ {l:List (Nat×O)},∀x∈l,x.1<KX l
 |[],x,a=>by cases a
 |(i,o)::l,x,a=>by
  unfold KX;rcases yg.1 a with rfl|a
  ·cases b:zu (i+1) (KX l)with
   |true=>have:=yd b;simp;omega
   |false=>simp
  ·have:=Tv (l:=l) x a;cases b:zu (i+1) (KX l)with
   |true=>simp;exact this
   |false=>
    have:¬(i+1<=KX l):=fun h=>by rw[ye h]at b;cases b
    simp;omega
def Gp(p:Pl):Prop:=∀x∈Gr,p[x.1]?=some (x.1,osz x.2)
def Gh(h:H):Prop:=∀x∈Gr,h.get x.1=some x.2
theorem Gp.app{p:Pl}(h:Gp p)(q:Pl):Gp (p++q):=fun x a=>by
 have:=h x a;rw[zi (zf.1 this).1];exact this
theorem Gp.top{p:Pl}(h:Gp p):KX Gr<=p.length:=Y3 fun x a=>(zf.1<|h x a).1
theorem Gp.take{p:Pl}(h:Gp p):Gp (p.take<|KX Gr):=fun x a=>by
 rw[zk<|Tv x a];exact h x a
theorem ED.flat{p q:Pl}{cs:List V}{vs:List Value}(c:V.Iw cs=true)(h:ED p cs vs):ED q cs vs:=
 ⟨h.1,fun i d v b f e=>V.Df (by
  have:=List.mem_of_getElem? b;clear h b f e;induction cs with
  |nil=>cases this
  |cons a cs g=>
   simp only[V.Iw,zw]at c;rcases yg.1 this with rfl|h
   ·exact c.1
   ·exact g c.2 h)<|h.2 i d v b f e⟩
theorem Aas{p:Pl}{h:H}{w:World}(hr:R p h w)(hp:Gp p)(q:Gh h):R (p.take<|KX Gr) hG w:=by
 refine⟨by rw[yv,y9 hp.top];rfl,fun b o f=>?_,fun b b' o o' r n n' f g a d=>?_⟩
 ·have i:=Ll f;obtain⟨cs,t,e,l,u⟩:=T5 Yn _ i;obtain⟨r,n,x,a,d,h3⟩:=hr.obj b o<|q _ i;refine⟨r,n,x,by rw[zk<|Tv _ i];exact a,d,?_⟩;simp only at e;subst e;simp only[G8]at h3 ⊢;obtain⟨c,fz',k1,k2,k3,k4,k5⟩:=h3;exact⟨c,fz',k1,k2,k3,k4.flat l,k5⟩
 ·have s:=Ll f;have m:=Ll g;have k:=hp.take _ s;have j:=hp.take _ m;simp only at k j;rw[k]at a;rw[j]at d;cases a;cases d;rfl
theorem Ext.Gr{p:Pl}{w w':World}{p':Pl}{h':H}(hp:Gp p)(f:Ext p hG w p' h' w')(r:Nat)(hr:r<w.heap.size):w'.heap[r]?=w.heap[r]?:=by
 by_cases g:Im p hG r
 ·obtain⟨b,o,n,c,a⟩:=g;have d:=Ll c;obtain⟨cs,t,e,hf,hl⟩:=T5 Yn _ d;simp only at e;subst e;have:=hp _ d;simp only at this;rw[this]at a;cases a;exact(f.lock _ hr ⟨_,_,_,_,_,c,this,rfl,zg _,hl⟩).1
 ·exact f.same r hr g
section
variable {p:Pl}
def V.cells:V->List V
 | .agg cs=>cs
 |v=>[v]
theorem Ac.cells{d:V}{v:Value}(b:Ac p d v):At p d.cells v.cells.toList:=by
 cases d<;>simp only[V.cells]<;>simp only[Ac]at b
 case agg cs=>obtain⟨x,rfl,e⟩:=b;exact e
 case bool=>subst b;simp[zl,Ac]
 case int=>subst b;simp[zl,Ac]
 case str=>subst b;simp[zl,Ac]
 case nilp=>subst b;simp[zl,Ac]
 case nils=>subst b;simp[zl,Ac]
 case nilm=>subst b;simp[zl,Ac]
 case nilf=>subst b;simp[zl,Ac]
 case nili=>subst b;simp[zl,Ac]
 case ptr=>obtain⟨r,n,e,rfl⟩:=b;simp[zl,Ac,e]
 case esl=>obtain⟨a,c,rfl⟩:=b;simp[zl,Ac]
 case es0=>obtain⟨a,rfl⟩:=b;simp[zl,Ac]
 case sl=>obtain⟨r,n,c,e,rfl,f⟩:=b;simp only[zl,Bh,G7,ve];simp only[Ac];exact⟨r,n,c,e,rfl,f⟩
 case map=>obtain⟨r,n,e,rfl⟩:=b;simp[zl,Ac,e]
 case yld=>obtain⟨r,n,e,rfl⟩:=b;simp[zl,Ac,e]
 case fn=>obtain⟨x,y,rfl,e,f⟩:=b;simp only[zl,Bh,G7,ve];simp only[Ac];exact⟨x,y,rfl,e,f⟩
 case iface=>obtain⟨y,rfl,e⟩:=b;simp[zl,Ac];exact e
 case tup=>obtain⟨x,rfl,e⟩:=b;simp[zl,Ac];exact e
end
structure TI where
 size:Nat
 bytes:Nat
 zv:V
def TI.zero(i:TI):List V:=i.zv.cells
inductive FK where
 |bool
 |str
 |int (k:IntKind)
def FK.ok:FK->V->Bool
 | .bool,.bool _=>true
 | .str,.str _=>true
 | .int k,.int a _=>k==a
 |_,_=>false
def fit:List FK->List V->Bool
 |[],[]=>true
 |k::ks,v::vs=>bif k.ok v then fit ks vs else false
 |_,_=>false
structure B6 where
 und:TypeId->Option TypeDesc
 inf:TypeId->Option TI
 flat:TypeId->Option (List FK)
 mth:TypeId->String->Option FuncId
def DN:V->V->Option Bool
 | .bool a,.bool b=>some<|a==b
 | .int k a,.int c b=>if k=c then some (a==b)else none
 | .str a,.str b=>some<|a==b
 |_,_=>none
def BY:List V->List V->Option Bool
 |[],[]=>some true
 |a::c,b::d=>
  match DN a b with
  |some true=>BY c d
  |some false=>if c.length=d.length then some false else none
  |none=>none
 |_,_=>none
structure B6.Ok(T:B6)(P:Program):Prop where
 und:∀t d,T.und t=some d->P.underlying t=some d
 inf:∀t i,T.inf t=some i->∃j v,P.info? t=some j/\j.size=i.size/\j.bytes=i.bytes/\j.zero=some v/\∀p,Ac p i.zv v
 flat:∀t ks,T.flat t=some ks->∀(p:Pl) (x y:List V) (x' y':Array Value) (r:Bool) (w:World),fit ks x=true->fit ks y=true->At p x x'.toList->At p y y'.toList->BY x y=some r->
  (qi t (.agg x') (.agg y')).run P w=.ok r w
 guard:∀t ks,T.flat t=some ks->P.eqGuardType P.depth t=false
 key:∀t ks,T.flat t=some ks->∀(p:Pl) (x:List V) (x':Array Value) (b:Bool) (w:World),fit ks x=true->At p x x'.toList->(Instr.checkKey b 10000 t (.agg x')).run P w=.ok () w
 kind:∀t ks,T.flat t=some ks->∃fs,T.und t=some (.struct fs)
 mth:∀t name f,T.mth t name=some f->∃j m d,P.info? t=some j/\j.methods.find? (·.name==name)=some m/\m.path= #[]/\m.func=some (f,false)/\P.underlying t=some d/\∀e,d≠ .pointer e
section
variable {T:B6}{P:Program}{p:Pl}{h:H}{w:World}
theorem Ay(b:T.Ok P){t:TypeId}{d:TypeDesc}(a:T.und t=some d):(underlying t).run P w=.ok d w:=by
 unfold underlying;simp[b.und t d a]
theorem Bw(b:T.Ok P){t:TypeId}{i:TI}(c:T.inf t=some i):(sizeOf t).run P w=.ok i.size w:=by
 obtain⟨j,v,a,d,_⟩:=b.inf t i c;unfold sizeOf typeInfo;simp[a,d]
theorem Qa(c:T.Ok P){t:TypeId}{i:TI}(d:T.inf t=some i):∃j,(∀w,(typeInfo t).run P w=.ok j w)/\j.bytes=i.bytes/\j.size=i.size:=by
 obtain⟨j,v,a,e,b,_⟩:=c.inf t i d;exact⟨j,fun w=>by unfold typeInfo;simp[a],b,e⟩
theorem EM(d:T.Ok P){t:TypeId}{i:TI}(e:T.inf t=some i):∃v,(∀w,(zeroValue t).run P w=.ok v w)/\∀p,At p i.zero v.cells.toList:=by
 obtain⟨j,v,a,g,f,b,c⟩:=d.inf t i e;exact⟨v,fun w=>by unfold zeroValue typeInfo;simp[a,b],fun p=>(c p).cells⟩
theorem Abq(d:T.Ok P){t:TypeId}{i:TI}(e:T.inf t=some i):∃v,(∀w,(zeroValue t).run P w=.ok v w)/\∀p,Ac p i.zv v:=by
 obtain⟨j,v,a,g,f,b,c⟩:=d.inf t i e;exact⟨v,fun w=>by unfold zeroValue typeInfo;simp[a,b],c⟩
def D8:TypeDesc->Bool
 | .struct _| .array _ _=>true
 |_=>false
theorem RQ(b:T.Ok P){t:TypeId}{d:TypeDesc}(a:T.und t=some d):(isAgg t).run P w=.ok (D8 d) w:=by
 unfold isAgg;rw[zd,Ay b a];cases d<;>simp[D8]
def V.one:V->Bool
 | .agg _| .tup _| .junk=>false
 |_=>true
theorem V.Mt{d:V}(h:d.one=true):d.ok=true:=by cases d<;>first|rfl|cases h
theorem Ac.one{d:V}{v:Value}(b:Ac p d v)(e:d.one=true):v.oneCell'=true:=by
 cases d<;>simp only[V.one]at e<;>simp only[Ac]at b
 case agg|tup=>cases e
 case ptr=>obtain⟨r,n,_,rfl⟩:=b;rfl
 case esl=>obtain⟨a,c,rfl⟩:=b;rfl
 case es0=>obtain⟨a,rfl⟩:=b;rfl
 case sl=>obtain⟨r,n,c,_,rfl,_⟩:=b;rfl
 case map=>obtain⟨r,n,_,rfl⟩:=b;rfl
 case yld=>obtain⟨r,n,_,rfl⟩:=b;rfl
 case fn=>obtain⟨x,y,rfl,_,_⟩:=b;rfl
 case iface=>obtain⟨y,rfl,_⟩:=b;rfl
 all_goals subst b;rfl
@[simp] theorem Addr.H2(r off n:Nat):Addr.add ⟨r,off,none⟩ n=⟨r,off+n,none⟩:=by
 unfold Addr.add;split<;>simp_all
def rd0(h:H)(b off n:Nat):Option (List V):=
 match h.get b with
 |some (.cells cs _ _)=>if off+n<=cs.length/\((cs.drop off).take n).all V.ok=true then some ((cs.drop off).take n)else none
 |_=>none
def rd(h:H)(b off n:Nat):Option (List V):=
 match h.get b with
 |some (.cells cs _ _)=>bif zu (qe off n) (EN cs)&&KZ V.ok (YR n<|JX off cs)then some (YR n<|JX off cs)else none
 |_=>none
theorem YI:rd=rd0:=by
 funext h b off n
 unfold rd rd0;split
 ·rename_i cs _ _ _;rw[Db,OB,Pa,FL];by_cases e:off+n<=cs.length
  ·rw[show zu (qe off n) cs.length=true from ye e];cases c:((cs.drop off).take n).all V.ok with
   |true=>rw[wd ⟨e,rfl⟩];rfl
   |false=>rw[wc<|by simp];rfl
  ·rw[wc<|fun h=>e h.1,show zu (qe off n) cs.length=false from by cases a:zu (qe off n) cs.length with|false=>rfl|true=>exact wh (yd a) e];rfl
 ·rfl
theorem cell_of(hr:R p h w){b:Nat}{cs:List V}{t:TypeId}{fz:Nat×Nat}(f:h.get b=some (.cells cs t fz)):
  ∃r n c fz',p[b]?=some (r,n)/\w.heap[r]?=some (.cells c t fz')/\c.size=n/\cs.length<=n/\ED p cs (c.toList.take cs.length)/\(∀i,w.cell? ⟨r,i,none⟩=c[i]?)/\
   ∀i,i<n->fz'.1<=i->i<fz'.2->fz.1<=i/\i<fz.2:=by
 obtain⟨r,n,x,d,a,c,fz',e,j,k,g,l⟩:=hr.obj b _ f;subst e;exact⟨r,n,c,fz',d,a,j,k,g,fun i=>by simp[World.cell?,a],l⟩
theorem J4{a:Addr}{v:Value}(b:w.cell? a=some v):(load a).run P w=.ok v w:=by simp[b]
theorem run_loadCellsFrom{a:Addr}:∀(n i:Nat) (b:Array Value) (vs:List Value),vs.length=n->(∀j v,vs[j]?=some v->w.cell? (a.add<|i+j)=some v)->
  (loadCellsFrom a i n b).run P w=.ok (b++vs.toArray) w
 |0,i,b,vs,c,_=>by
  have:vs=[]:=yx.1 c;subst this;simp[loadCellsFrom]
 |n+1,i,b,[],c,_=>by simp at c
 |n+1,i,b,v::vs,c,d=>by
  unfold loadCellsFrom;rw[zd,J4 (a:=a.add i) (by have:=d 0 v rfl;simpa using this)];simp only[zc];rw[run_loadCellsFrom n (i+1) (b.push v) vs (by simpa using c) (fun j u e=>by
   have:=d (j+1) u (by simpa using e);rwa [show i+(j+1)=i+1+j from by omega]at this)]
  simp
theorem run_loadCells(hr:R p h w){b off n:Nat}{xs:List V}(f:rd h b off n=some xs):
  ∃r m vs,p[b]?=some (r,m)/\(loadCells ⟨r,off,none⟩ n).run P w=.ok vs.toArray w/\At p xs vs/\vs.length=n/\∀i v,vs[i]?=some v->w.cell? ⟨r,off+i,none⟩=some v:=by
 rw[YI]at f;unfold rd0 at f;split at f
 case h_2=>cases f
 rename_i cs t fz q;split at f
 case isFalse=>cases f
 rename_i k;obtain⟨k,l⟩:=k;cases f;obtain⟨r,m,c,_,h1,h2,h3,h4,x,h6,_⟩:=cell_of hr q;have o:At p ((cs.drop off).take n) ((c.toList.take cs.length).drop off|>.take n):=((x.drop off).take n).NL fun d s=>List.all_eq_true.1 l d s
 have e:((c.toList.take cs.length).drop off|>.take n).length=n:=by simp;omega
 have a:∀i v,((c.toList.take cs.length).drop off|>.take n)[i]?=some v->w.cell? ⟨r,off+i,none⟩=some v:=by
  intro i v g;have u:i<n:=by have:=(zf.1 g).1;omega
  rw[h6];rw[zk u,yn,zk ae]at g;simpa using g
 refine⟨r,m,_,h1,?_,o,e,a⟩;unfold loadCells;rw[run_loadCellsFrom n 0 #[] _ e (fun j v g=>by simpa using a j v g)];simp
def Ft(T:B6)(h:H)(t:TypeId)(a:V):Option V:=
 match a,T.und t,T.inf t with
 | .ptr b off,some d,some i=>
  bif D8 d then(rd h b off i.size).map .agg
  else match rd h b off 1 with
   |some (v::_)=>some v
   |_=>none
 |_,_,_=>none
theorem U8(q:T.Ok P)(hr:R p h w){t:TypeId}{a v:V}{l:Value}(k:Ac p a l)(c:Ft T h t a=some v):
  ∃v',(Instr.loadAt t l).run P w=.ok v' w/\Ac p v v':=by
 unfold Ft at c;split at c
 case h_2=>cases c
 rename_i b off d i x y;simp only[Ac]at k;obtain⟨r,n,hp,rfl⟩:=k;unfold Instr.loadAt yb;simp only[zd,ze,zc];unfold loadVar;simp only[zd];rw[RQ q x];simp only[zc];cases f:D8 d with
 |true=>
  simp only[f,we]at c;rw[zn]at c;obtain⟨xs,j,rfl⟩:=c;obtain⟨A,m,vs,e,o,g,_⟩:=run_loadCells (P:=P) hr j;rw[hp]at e;cases e;simp only[wk,zd,Bw q y,zc,o,ze];exact⟨_,rfl,by simp only[Ac];exact⟨_,rfl,by simpa using g⟩⟩
 |false=>
  simp only[f,wg]at c;split at c
  case h_2=>cases c
  rename_i v0 tl j;cases c;obtain⟨A,m,vs,e,o,g,s,z⟩:=run_loadCells (P:=P) hr j;rw[hp]at e;cases e;cases vs with
  |nil=>simp at s
  |cons u B=>
   simp at g;simp only[zm,vg];have:=z 0 u rfl;rw[J4<|by simpa using this];exact⟨u,rfl,g.1⟩
def GU:List V->Nat->List V->List V
 |cs,_,[]=>cs
 |cs,off,v::vs=>GU (cs.set off v) (off+1) vs
@[simp] theorem GA:∀(vs:List V) (cs:List V) (off:Nat),(GU cs off vs).length=cs.length
 |[],_,_=>rfl
 |v::vs,cs,off=>by simp[GU,GA vs]
def clear(fz:Nat×Nat)(off n:Nat):Bool:=zu fz.2 off||zu (off+n) fz.1||zu fz.2 fz.1
def wr0(h:H)(b off:Nat)(vs:List V):Option H:=
 match h.get b with
 |some (.cells cs t fz)=>bif zu (off+vs.length) cs.length&&clear fz off vs.length&&vs.all V.one then some (h.put b<|.cells (GU cs off vs) t fz)else none
 |_=>none
theorem Mp(a:V):∀(vs cs:List V) (off:Nat),GU (a::cs) (off+1) vs=a::GU cs off vs
 |[],cs,off=>rfl
 |v::vs,cs,off=>by
  show GU ((a::cs).set (off+1) v) (off+1+1) vs=a::GU (cs.set off v) (off+1) vs;rw[List.set_cons_succ,Mp a vs]
theorem Ow:∀(vs:List V) (off:Nat),GU [] off vs=[]
 |[],_=>rfl
 |v::vs,off=>by show GU ([].set off v) (off+1) vs=[];rw[List.set_nil,Ow vs]
theorem Vk:∀(vs cs:List V),Ka vs cs=GU cs 0 vs
 |[],cs=>rfl
 |v::vs,[]=>(Ow _ _).symm
 |v::vs,c::cs=>by
  show v::Ka vs cs=GU ((c::cs).set 0 v) (0+1) vs;rw[List.set_cons_zero,Mp,Vk vs cs]
theorem JJ(vs:List V):∀(off:Nat) (cs:List V),CE off vs cs=GU cs off vs
 |0,cs=>Vk vs cs
 |off+1,[]=>(Ow _ _).symm
 |off+1,c::cs=>by rw[Mp];exact wi (c:: ·)<|JJ vs off cs
def wr(h:H)(b off:Nat)(vs:List V):Option H:=
 match h.get b with
 |some (.cells cs t fz)=>bif zu (qe off<|EN vs) (EN cs)&&clear fz off (EN vs)&&KZ V.one vs then some (h.put b<|.cells (CE off vs cs) t fz)else none
 |_=>none
theorem AcK:wr=wr0:=by
 funext h b off vs
 unfold wr wr0;split
 ·rw[Db,Db,FL,JJ];rfl
 ·rfl
theorem LY(a:Array Obj)(i:Nat)(x:Obj)(j:Nat):(a.setIfInBounds i x)[j]?=if i=j/\j<a.size then some x else a[j]?:=by
 by_cases e:i=j
 ·subst e;by_cases h:i<a.size
  ·simp[h]
  ·simp[h]
 ·rw[zj e];simp[e]
theorem oV{a:Array Obj}{i:Nat}{x:Obj}(h:a[i]?=some x):a.setIfInBounds i x=a:=by
 apply yp;intro j;rw[LY];split
 ·rename_i e;rw[<-e.1,h]
 ·rfl
theorem set_set(a:Array Obj)(i:Nat)(x y:Obj):(a.setIfInBounds i x).setIfInBounds i y=a.setIfInBounds i y:=by
 apply yp;intro j;simp only[LY,Array.size_setIfInBounds];split<;>simp_all
theorem QD{a:Array Obj}{i:Nat}{f:Obj->Obj}{x:Obj}(h:a[i]?=some x):a.modify i f=a.setIfInBounds i (f x):=by
 apply yp;intro j;rw[LY,Array.getElem?_modify];by_cases e:i=j
 ·subst e;have:=(zx.1 h).1;rw[wd rfl,h,wd ⟨rfl,this⟩];rfl
 ·simp[e]
theorem setCell_eq{w:World}{r off:Nat}{c:Array Value}{t:TypeId}{fz:Nat×Nat}(v:Value)(a:w.heap[r]?=some (.cells c t fz)):
  w.setCell ⟨r,off,none⟩ v={ w with heap:=w.heap.setIfInBounds r (.cells (c.setIfInBounds off v) t fz) }:=by
 unfold World.setCell;rw[QD a];rfl
theorem Gb{r:Nat}{t:TypeId}{fz:Nat×Nat}:∀(vs:List Value) (w:World) (c:Array Value) (off i:Nat),w.heap[r]?=some (.cells c t fz)->off+i+vs.length<=c.size->
  (∀v∈vs,v.oneCell'=true)->(∀j,i<=j->j<i+vs.length->¬(fz.1<=off+j/\off+j<fz.2))->
  ∃g:Array Value,(storeCells ⟨r,off,none⟩ vs i).run P w=.ok () { w with heap:=w.heap.setIfInBounds r (.cells g t fz) }/\g.size=c.size/\
   g.toList=(List.range c.size).map (fun j=>if off+i<=j/\j<off+i+vs.length then vs.getD (j-(off+i)) default else c.toList.getD j default)
 |[],w,c,off,i,d,_,_,_=>by
  refine⟨c,?_,rfl,?_⟩
  ·simp only[storeCells,ze,oV d]
  ·apply List.ext_getElem (by simp);intro j l y;have E:j<c.size:=by simpa using l
   simp only[List.getElem_map,List.getElem_range,List.length_nil,qj];rw[wc ae];simp[yf,E]
 |v::vs,w,c,off,i,d,m,a,f=>by
  simp at m;have b:w.cell? ⟨r,off+i,none⟩=some (c[off+i]'ae):=by simp[World.cell?,d]
  have o:w.frozen? ⟨r,off+i,none⟩=false:=by
   simp only[World.frozen?,d];have:=f i (zg _) (by simp);rw[Bool.eq_false_iff];intro D;apply this;simpa using D
  have k:=setCell_eq (off:=off+i) v d;have n:=(zx.1 d).1;obtain⟨g,l,y,C⟩:=Gb vs { w with heap:=w.heap.setIfInBounds r (.cells (c.setIfInBounds (off+i) v) t fz) } (c.setIfInBounds (off+i) v) off (i+1)
   (by rw[LY,wd ⟨rfl,n⟩]) (by simp;omega) (fun u B=>a u<|by simp[B]) (fun j z A=>f j ae<|by simp;omega)
  refine⟨g,?_,by simpa using y,?_⟩
  ·unfold storeCells;rw[zd,Addr.H2,run_store P w _ v .plain<|a v<|by simp];simp only[b,o,zm,vg,zc,k,l,set_set]
  ·rw[C];apply List.ext_getElem (by simp);intro j s F;simp at s;simp only[List.getElem_map,List.getElem_range,yu];by_cases e:j=off+i
   ·subst e;rw[wc ae,wd ae];simp[yf,s]
   ·by_cases q:off+(i+1)<=j/\j<off+(i+1)+vs.length
    ·rw[wd q,wd ae];have:j-(off+i)=(j-(off+(i+1)))+1:=ae
     rw[this];simp[yf]
    ·rw[wc q,wc ae];simp only[yf,Array.toList_setIfInBounds];rw[List.getElem?_set_ne<|fun x=>e x.symm]
theorem QT:∀(vs cs:List V) (off j:Nat),off+vs.length<=cs.length->(GU cs off vs)[j]?=if off<=j/\j<off+vs.length then vs[j-off]? else cs[j]?
 |[],cs,off,j,_=>by rw[wc<|by simp only[List.length_nil];omega];rfl
 |v::vs,cs,off,j,a=>by
  simp at a;unfold GU;rw[QT vs (cs.set off v) (off+1) j<|by simp;omega];by_cases e:j=off
  ·subst e;rw[wc ae,wd<|by simp];have:j<cs.length:=ae
   simp[this]
  ·by_cases b:off+1<=j/\j<off+1+vs.length
   ·rw[wd b,wd<|by simp;omega];have:j-off=(j-(off+1))+1:=ae
    rw[this];simp
   ·rw[wc b,wc (by simp;omega),List.getElem?_set_ne<|fun x=>e x.symm]
theorem Ti(hr:R p h w){b off:Nat}{xs:List V}{vs:List Value}(x:At p xs vs){h':H}(k:wr h b off xs=some h'):
  ∃r m w',p[b]?=some (r,m)/\(storeCells ⟨r,off,none⟩ vs).run P w=.ok () w'/\Ext p h w p h' w':=by
 rw[AcK]at k;unfold wr0 at k;split at k
 case h_2=>cases k
 rename_i cs t fz D;cases q:(zu (off+xs.length) cs.length&&clear fz off xs.length&&xs.all V.one)with
 |false=>simp[q]at k
 |true=>
  simp only[q,we,zh]at k;subst k;simp only[zw,yq,List.all_eq_true]at q;obtain⟨⟨Y,E⟩,J⟩:=q;obtain⟨r,m,c,fz',h1,h2,h3,h4,h5,h6,h7⟩:=cell_of hr D;have W:=x.length;have l:∀v∈vs,v.oneCell'=true:=by
   intro v f;obtain⟨i,n⟩:=List.mem_iff_getElem?.1 f;have S:=(zf.1 n).1;obtain⟨u,a,g⟩:=x.get (i:=i) (d:=xs[i]'ae) (by simp);rw[n]at a;cases a;exact g.one<|J _<|List.getElem_mem _
  have y:∀j,0<=j->j<0+vs.length->¬(fz'.1<=off+j/\off+j<fz'.2):=by
   rintro j _ B ⟨L,Q⟩;have:=h7 (off+j) ae L Q;simp only[clear,Bool.or_eq_true,yq]at E;omega
  obtain⟨G,K,X,F⟩:=Gb (P:=P) vs w c off 0 h2 ae l y;refine⟨r,m,_,h1,K,Ext.put hr D h1 ?_ rfl rfl rfl rfl (fun M t1 N O C=>?_)⟩
  case refine_2=>
   cases O;refine⟨?_,_,_,rfl⟩;obtain⟨l1,U,Z⟩:=C;simp only[clear,Bool.or_eq_true,yq]at E;have I:xs.length=0:=ae
   have A:vs=[]:=yx.1 ae;subst A;have z:G=c:=by
    apply Array.ext';apply List.ext_getElem?;intro j;rw[F];by_cases B:j<c.size
    ·rw[yc,z8 B];simp only[yi];rw[wc<|by simp];simp[yf,B]
    ·rw[List.getElem?_eq_none (by simp;omega),List.getElem?_eq_none<|by simp;omega]
   rw[z];exact h2
  refine⟨G,fz',rfl,by omega,by simpa using h4,?_,h7⟩;rw[GA];refine⟨by simp;omega,?_⟩;intro i d v o f s;rw[QT xs cs off i ae]at o;have n:i<cs.length:=by
   have:=(zf.1 f).1;simp at this;omega
  rw[zk n,F]at f;simp only[qj,yc]at f;rw[z8 ae]at f;simp only[yi,zh]at f;by_cases e:off<=i/\i<off+xs.length
  ·rw[wd e]at o;rw[wd ae]at f;obtain⟨u,a,g⟩:=x.get o;simp only[yf,a,yy]at f;exact f▸g
  ·rw[wc e]at o;rw[wc ae]at f;obtain⟨u,a,g⟩:=h5.get o s;rw[zk n]at a;simp only[yf,a,yy]at f;exact f▸g
def HP(T:B6)(h:H)(t:TypeId)(a x:V):Option H:=
 match a,T.inf t with
 | .ptr b off,some i=>bif zt x.cells.length i.size then wr h b off x.cells else none
 |_,_=>none
theorem dU(k:T.Ok P)(hr:R p h w){t:TypeId}{a x:V}{g x':Value}(f:Ac p a g)(d:Ac p x x'){h':H}(c:HP T h t a x=some h'):
  ∃w',(Instr.storeAt t g x').run P w=.ok () w'/\Ext p h w p h' w':=by
 unfold HP at c;split at c
 case h_2=>cases c
 rename_i b off i l;rw[Bp]at c;by_cases e:x.cells.length=i.size
 ·simp only[e,decide_true,we]at c;simp only[Ac]at f;obtain⟨r,n,hp,rfl⟩:=f;obtain⟨r',m,w',h1,h2,h3⟩:=Ti (P:=P) hr d.cells c;rw[hp]at h1;cases h1;refine⟨w',?_,h3⟩;have j:=d.cells.length;unfold Instr.storeAt yb;simp only[zd,ze,zc];unfold storeVar;have:x'.cells.size=i.size:=by rw[<-e,j];simp
  simp only[zd,Bw k l,zc,this,wm,not_true_eq_false,vg];exact h2
 ·simp[e]at c
theorem Cv(t:TypeId)(c:Array Value):(newRow t c).run P w=.ok ⟨w.heap.size,0,none⟩ { w with heap:=w.heap.push (.cells c t) }:=by
 unfold newRow;simp
def IC(h:H)(t:TypeId)(cs:List V):H:=h.push<|.cells cs t (0,0)
theorem Oc(hr:R p h w)(t:TypeId){xs:List V}{c:Array Value}(a:At p xs c.toList):
  ∃n,Ext p h w (p++[(w.heap.size,n)]) (IC h t xs) { w with heap:=w.heap.push (.cells c t) }/\(p++[(w.heap.size,n)])[h.nx]?=some (w.heap.size,n)/\n=c.size:=by
 refine⟨c.size,Ext.push hr ⟨c,(0,0),rfl,rfl,by have:=a.length;simp at this;omega,?_,fun i _ b d=>⟨b,d⟩⟩,by rw[<-hr.len];simp,rfl⟩;have:=a.length;rw[List.take_of_length_le<|by simp at this ⊢;omega];exact a.toC
def G2(T:B6)(h:H)(t:TypeId):Option (V×H):=(T.inf t).map fun i=>(.ptr h.nx 0,IC h t i.zero)
theorem bQ(c:T.Ok P)(hr:R p h w){t:TypeId}{v:V}{h':H}(b:G2 T h t=some (v,h')):
  ∃v' p' w',(Instr.alloc t true<|.tuple #[]).run P w=.ok v' w'/\Ac p' v v'/\Ext p h w p' h' w':=by
 unfold G2 at b;rw[zn]at b;obtain⟨i,d,a⟩:=b;cases a;obtain⟨z,hz,hzr⟩:=EM c d;obtain⟨n,a,hp,_⟩:=Oc hr t<|hzr p;refine⟨.pointer<|some ⟨w.heap.size,0,none⟩,_,_,?_,?_,a⟩
 ·unfold Instr.alloc;simp only[zd,hz,zc];unfold newVar;simp only[Cv,zc,ze]
 ·simp only[Ac];exact⟨_,_,hp,rfl⟩
def aS(h:H)(t:TypeId)(x:V):V×H:=(.ptr h.nx 0,IC h t x.cells)
theorem vQ(hr:R p h w){t:TypeId}{x:V}{x':Value}(b:Ac p x x'):
  ∃v' p' w',(Instr.box t x').run P w=.ok v' w'/\Ac p' (aS h t x).1 v'/\Ext p h w p' (aS h t x).2 w':=by
 obtain⟨n,a,hp,_⟩:=Oc hr t b.cells;refine⟨.pointer<|some ⟨w.heap.size,0,none⟩,_,_,?_,?_,a⟩
 ·unfold Instr.box newVar;simp only[zd,Cv,zc,ze]
 ·simp only[aS,Ac];exact⟨_,_,hp,rfl⟩
def Vj(op:BinOp)(x y:Z):Option V:=
 match op with
 | .add=>if x.length+y.length<=4611686018427387904 then some (.str<|x++y)else none
 | .eql=>some<|.bool<|x==y
 | .neq=>some<|.bool !(x==y)
 | .lss=>some<|.bool<|y8 x y
 | .leq=>some<|.bool<|y8 x y||x==y
 | .gtr=>some<|.bool !(y8 x y||x==y)
 | .geq=>some<|.bool !y8 x y
 |_=>none
theorem FX(s:Z):(bytesOf s).toList=s:=ByteArray.toList_mk s
theorem BE(s:Z):(bytesOf s).size=s.length:=by simp[bytesOf,ByteArray.size]
theorem Pf(x y:Z):bytesOf x++bytesOf y=bytesOf (x++y):=by
 apply qf;simp[bytesOf]
theorem uJ{op:BinOp}{x y:Z}{v:V}(a:Vj op x y=some v):
  ∃v',(Op.stringOp op (bytesOf x)<|bytesOf y).run P w=.ok v' w/\Ac p v v':=by
 unfold Op.stringOp;simp only[FX,BE];cases op<;>simp only[Vj]at a
 case add=>
  split at a
  ·cases a;rename_i b;rw[wc<|by simp[IntKind.max,IntKind.signed,IntKind.bits];omega];exact⟨_,ze ..,by simp[Ac,Pf]⟩
  ·cases a
 all_goals first
  |(cases a;done)
  |(cases a;exact⟨_,ze ..,by simp[Ac]⟩)
def OV(op:BinOp)(k:IntKind)(a b:Int):Option V:=
 match op with
 | .add=>some<|.int k<|k.wrap<|a+b
 | .sub=>some<|.int k<|k.wrap<|a-b
 | .mul=>some<|.int k<|k.wrap<|a*b
 | .quo=>if b=0 then none else some<|.int k<|k.wrap<|a.tdiv b
 | .rem=>if b=0 then none else some<|.int k<|a.tmod b
 | .and=>some<|.int k<|k.wrap (zz k.bits a&&&zz k.bits b).toNat
 | .or=>some<|.int k<|k.wrap (zz k.bits a|||zz k.bits b).toNat
 | .xor=>some<|.int k<|k.wrap (zz k.bits a^^^zz k.bits b).toNat
 | .andNot=>some<|.int k<|k.wrap (zz k.bits a&&& ~~~zz k.bits b).toNat
 | .eql=>some<|.bool<|a==b
 | .neq=>some<|.bool<|a !=b
 | .lss=>some<|.bool<|a<b
 | .leq=>some<|.bool<|a<=b
 | .gtr=>some<|.bool<|a>b
 | .geq=>some<|.bool<|a>=b
 |_=>none
def bV(op:BinOp)(k:IntKind)(a b:Int):Option V:=
 if b<0 then none else
 match op with
 | .shl=>some<|.int k<|k.wrap<|a*2^(min b.toNat k.bits)
 | .shr=>some<|.int k<|a.fdiv<|2^(min b.toNat k.bits)
 |_=>none
def M5(ks:Option (List FK))(xs a:List V):Option Bool:=
 match ks with
 |some ks=>bif fit ks xs&&fit ks a then BY xs a else none
 |none=>none
theorem HQ{ks:Option (List FK)}{xs b:List V}{r:Bool}(h:M5 ks xs b=some r):∃l,ks=some l/\fit l xs=true/\fit l b=true/\BY xs b=some r:=by
 unfold M5 at h;split at h
 case h_2=>cases h
 rename_i l;cases a:(fit l xs&&fit l b)with
 |false=>simp[a]at h
 |true=>simp only[a,we]at h;simp only[zw]at a;exact⟨l,rfl,a.1,a.2,h⟩
def Bu(T:B6)(t:TypeId)(x y:V):Option Bool:=
 match T.und t,x,y with
 |some .bool,.bool a,.bool b=>some<|a==b
 |some (.pointer _),.nilp,y=>match y with| .nilp=>some true| .ptr .. =>some false|_=>none
 |some (.pointer _),.ptr ..,.nilp=>some false
 |some (.pointer e),.ptr a i,.ptr b j=>if a=b then match T.inf e with|some c=>if c.size≠0 then some (i==j)else none|_=>none else none
 |some (.interface _),.iface ..,.nili=>some false
 |some (.interface _),.nili,.iface .. =>some false
 |some (.slice _),.nils,y=>match y with| .nils=>some true| .sl .. =>some false| .esl=>some false| .es0=>some false|_=>none
 |some (.slice _),.sl ..,.nils=>some false
 |some (.slice _),.esl,.nils=>some false
 |some (.slice _),.es0,.nils=>some false
 |some (.map _ _),.nilm,y=>match y with| .nilm=>some true| .map .. =>some false|_=>none
 |some (.map _ _),.map ..,.nilm=>some false
 |some (.func ..),.nilf,.nilf=>some true
 |some (.func ..),.fn ..,.nilf=>some false
 |some (.func ..),.nilf,.fn .. =>some false
 |_,.agg xs,.agg d=>M5 (T.flat t) xs d
 |_,_,_=>none
def Mr(T:B6)(op:BinOp)(t:TypeId)(x y:V):Option V:=
 match op,x,y with
 | .shl,.int k a,.int _ b=>bV .shl k a b
 | .shr,.int k a,.int _ b=>bV .shr k a b
 |op,.int k a,.int c b=>if k=c then OV op k a b else none
 |op,.str a,.str b=>Vj op a b
 | .eql,x,y=>(Bu T t x y).map fun b=>.bool b
 | .neq,x,y=>(Bu T t x y).map fun b=>.bool !b
 |_,_,_=>none
theorem uU{op:BinOp}{k:IntKind}{a b:Int}{v:V}(d:op≠ .shl/\op≠ .shr)(c:OV op k a b=some v)(t:TypeId):
  ∃v',(binOp op t (.int k a)<|.int k b).run P w=.ok v' w/\Ac p v v':=by
 cases op<;>simp only[OV]at c<;>simp only[binOp,wm,not_true_eq_false,vg,Op.intArith,Op.intDiv,Op.intBits,Op.intCmp]
 case quo|rem=>
  split at c
  ·cases c
  ·rename_i e;cases c;rw[wc e];exact⟨_,ze ..,by simp[Ac]⟩
 case shl=>exact wh rfl d.1
 case shr=>exact wh rfl d.2
 all_goals (cases c;exact⟨_,ze ..,by simp[Ac]⟩)
theorem RW(j:T.Ok P){t:TypeId}{x y:V}{x' y':Value}(c:Ac p x x')(b:Ac p y y'){r:Bool}(a:Bu T t x y=some r):
  (qi t x' y').run P w=.ok r w:=by
 unfold Bu at a;split at a
 case h_16=>
  rename_i xs m;obtain⟨l,f,d,n,k⟩:=HQ a;simp only[Ac]at c b;obtain⟨u,rfl,g⟩:=c;obtain⟨v,rfl,hv⟩:=b;exact j.flat t l f p xs m u v r w d n g hv k
 case h_17=>cases a
 all_goals (rename_i g;simp only[Ac]at c b;unfold qi Op.maxDepth Op.equalIn;rw[zd,Ay j g];simp only[zc])
 case h_1=>subst c b;cases a;simp
 case h_2=>subst c;split at a<;>first|(cases a;done)|(cases a;simp only[Ac]at b;first|(subst b;simp;done)|(obtain⟨_,_,_,rfl⟩:=b;simp))
 case h_3=>obtain⟨_,_,_,rfl⟩:=c;subst b;cases a;simp
 case h_4=>
  split at a
  case isFalse=>cases a
  rename_i e;subst e;split at a
  case h_2=>cases a
  rename_i s i;split at a
  case isFalse=>cases a
  rename_i o;cases a;obtain⟨q,n1,f,rfl⟩:=c;obtain⟨r2,n2,d,rfl⟩:=b;rw[f]at d;cases d;simp only[zd,Bw j i,zc,o,wm,not_false_eq_true,wk];unfold sameAddr;simp only[beq_self_eq_true,wk,ze];congr 1;rw[Bool.eq_iff_iff];simp
 case h_5=>obtain⟨_,rfl,_⟩:=c;subst b;cases a;simp
 case h_6=>obtain⟨_,rfl,_⟩:=b;subst c;cases a;simp
 case h_7=>subst c;split at a<;>first|(cases a;done)|(cases a;simp only[Ac]at b;first|(subst b;simp;done)|(obtain⟨_,_,_,_,rfl,_⟩:=b;simp;done)|(obtain⟨_,_,rfl⟩:=b;simp;done)|(obtain⟨_,rfl⟩:=b;simp;done))
 case h_8=>obtain⟨_,_,_,_,rfl,_⟩:=c;subst b;cases a;simp
 case h_9=>obtain⟨_,_,rfl⟩:=c;subst b;cases a;simp
 case h_10=>obtain⟨_,rfl⟩:=c;subst b;cases a;simp
 case h_11=>subst c;split at a<;>first|(cases a;done)|(cases a;simp only[Ac]at b;first|(subst b;simp;done)|(obtain⟨_,_,_,rfl⟩:=b;simp))
 case h_12=>obtain⟨_,_,_,rfl⟩:=c;subst b;cases a;simp
 case h_13=>subst c b;cases a;simp
 case h_14=>obtain⟨_,_,rfl,_⟩:=c;subst b;cases a;simp
 case h_15=>obtain⟨_,_,rfl,_⟩:=b;subst c;cases a;simp
def Sd:V->Bool
 | .int .. | .str _| .tup _=>false
 |_=>true
theorem Lp{t:TypeId}{x y:V}{r:Bool}(a:Bu T t x y=some r):Sd x=true:=by
 unfold Bu at a;split at a<;>first|rfl|(cases a)
theorem N0{t:TypeId}{x:V}{x' y':Value}(a:Ac p x x')(hp:Sd x=true):
  binOp .eql t x' y'=(do pure (.bool<|<-qi t x' y'))/\binOp .neq t x' y'=(do pure (.bool<|!(<-qi t x' y'))):=by
 cases x<;>simp only[Sd]at hp<;>simp only[Ac]at a
 case int|str|tup=>cases hp
 case ptr=>obtain⟨_,_,_,rfl⟩:=a;cases y'<;>exact⟨rfl,rfl⟩
 case esl=>obtain⟨_,_,rfl⟩:=a;cases y'<;>exact⟨rfl,rfl⟩
 case es0=>obtain⟨_,rfl⟩:=a;cases y'<;>exact⟨rfl,rfl⟩
 case sl=>obtain⟨_,_,_,_,rfl,_⟩:=a;cases y'<;>exact⟨rfl,rfl⟩
 case map=>obtain⟨_,_,_,rfl⟩:=a;cases y'<;>exact⟨rfl,rfl⟩
 case yld=>obtain⟨_,_,_,rfl⟩:=a;cases y'<;>exact⟨rfl,rfl⟩
 case fn=>obtain⟨_,_,rfl,_⟩:=a;cases y'<;>exact⟨rfl,rfl⟩
 case iface=>obtain⟨_,rfl,_⟩:=a;cases y'<;>exact⟨rfl,rfl⟩
 case agg=>obtain⟨_,rfl,_⟩:=a;cases y'<;>exact⟨rfl,rfl⟩
 all_goals (subst a;cases y'<;>exact⟨rfl,rfl⟩)
theorem sM(i:T.Ok P){op:BinOp}{t:TypeId}{x y:V}{x' y':Value}(c:Ac p x x')(d:Ac p y y'){v:V}(a:Mr T op t x y=some v):
  ∃v',(binOp op t x' y').run P w=.ok v' w/\Ac p v v':=by
 unfold Mr at a;split at a
 case h_1=>
  simp only[Ac]at c d;subst c d;unfold bV at a;split at a
  ·cases a
  ·rename_i g;cases a;simp only[binOp,Op.shift,wc g];exact⟨_,ze ..,by simp[Ac]⟩
 case h_2=>
  simp only[Ac]at c d;subst c d;unfold bV at a;split at a
  ·cases a
  ·rename_i g;cases a;simp only[binOp,Op.shift,wc g];exact⟨_,ze ..,by simp[Ac]⟩
 case h_3=>
  rename_i f j;split at a
  ·rename_i e;subst e;simp only[Ac]at c d;subst c d;refine uU ⟨?_,?_⟩ a t
   ·intro e;subst e;simp at f
   ·intro e;subst e;simp at j
  ·cases a
 case h_4=>
  simp only[Ac]at c d;subst c d;have:=uJ (P:=P) (p:=p) (w:=w) a;cases op<;>simpa only[binOp]using this
 case h_5=>
  rw[zn]at a;obtain⟨b,f,rfl⟩:=a;rw[(N0 c<|Lp f).1];simp only[zd,RW i c d f,zc];exact⟨_,ze ..,by simp[Ac]⟩
 case h_6=>
  rw[zn]at a;obtain⟨b,f,rfl⟩:=a;rw[(N0 c<|Lp f).2];simp only[zd,RW i c d f,zc];exact⟨_,ze ..,by simp[Ac]⟩
 case h_7=>cases a
theorem VK{a:V}{c:Value}(b:Ac p a c)(h:a≠ .nili):c≠ .nilIface:=by
 intro e;subst e;cases a<;>simp only[Ac]at b<;>first|exact h rfl|(simp at b;done)|(obtain⟨_,_,_,_,b,_⟩:=b;cases b;done)|(obtain⟨_,_,_,b⟩:=b;cases b;done)|(obtain⟨_,_,b,_⟩:=b;cases b;done)|(obtain⟨_,b,_⟩:=b;cases b;done)
theorem kA{a:V}{c:Array Value}(b:Ac p a (.agg c)):∃xs,a=.agg xs/\At p xs c.toList:=by
 cases a<;>simp only[Ac]at b<;>first|(simp at b;done)|(obtain⟨_,_,_,_,b,_⟩:=b;cases b;done)|(obtain⟨_,_,_,b⟩:=b;cases b;done)|(obtain⟨_,_,b,_⟩:=b;cases b;done)|(obtain⟨_,b,h⟩:=b;cases b<;>exact⟨_,rfl,h⟩)
theorem P9{op:BinOp}{t:TypeId}{x y:Operand}{c b':Value}(a:op≠ .eql)(b:op≠ .neq):eqGuard op t x y c b'=pure ():=by
 cases op<;>first|rfl|exact wh rfl a|exact wh rfl b
theorem bU{op:BinOp}{t:TypeId}{x y:Operand}{a b':Value}(h0:a≠ .nilIface\/b'≠ .nilIface)(f:(∃c d,a=.agg c/\b'=.agg d)->P.eqGuardType P.depth t=false):
  (eqGuard op t x y a b').run P w=.ok () w:=by
 by_cases b:op=.eql\/op=.neq
 ·have:eqGuard op t x y a b'=eqGuard .eql t x y a b':=by rcases b with rfl|rfl<;>rfl
  rw[this];unfold eqGuard;simp only[Bool.not_true,zm,vg];split
  ·simp at h0
  ·have:=f ⟨_,_,rfl,rfl⟩;simp[this]
  ·rfl
 ·rw[P9 (fun e=>b<|.inl e)<|fun e=>b<|.inr e];rfl
theorem aQ(u:T.Ok P){op:BinOp}{t:TypeId}{x y:Operand}{a b:V}{o b':Value}(k:Ac p a o)(s:Ac p b b'){v:V}(m:Mr T op t a b=some v):
  (eqGuard op t x y o b').run P w=.ok () w:=by
 by_cases f:op=.eql\/op=.neq
 ·refine bU ?_ ?_
  ·by_cases n:a=.nili
   ·by_cases i:b=.nili
    ·subst n i;have:Bu T t .nili .nili=none:=by unfold Bu;split<;>simp_all
     rcases f with rfl|rfl<;>simp[Mr,this]at m
    ·exact .inr<|VK s i
   ·exact .inl<|VK k n
  ·rintro⟨c,d,rfl,rfl⟩;obtain⟨xs,rfl,g⟩:=kA k;obtain⟨ys,rfl,h2⟩:=kA s;have q:Bu T t (.agg xs) (.agg ys)=M5 (T.flat t) xs ys:=by unfold Bu;split<;>simp_all
   cases j:M5 (T.flat t) xs ys with
   |some r=>obtain⟨l,g,_⟩:=HQ j;exact u.guard t l g
   |none=>
    rw[j]at q;rcases f with rfl|rfl<;>simp[Mr,q]at m
 ·rw[P9 (fun e=>f<|.inl e)<|fun e=>f<|.inr e];rfl
def dun(op:UnOp)(x:V):Option V:=
 match op,x with
 | .neg,.int k n=>some<|.int k<|k.wrap<|0-n
 | .xor,.int k n=>OV .xor k (if k.signed then -1 else k.max) n
 | .not,.bool b=>some<|.bool !b
 |_,_=>none
theorem Aah{op:UnOp}{x:V}{x':Value}(b:Ac p x x'){v:V}(a:dun op x=some v):∃v',(Op.unary op x').run P w=.ok v' w/\Ac p v v':=by
 unfold dun at a;split at a
 case h_1=>simp only[Ac]at b;subst b;cases a;exact⟨_,rfl,by simp[Ac]⟩
 case h_2=> 
  simp only[Ac]at b;subst b;simp only[OV,zh]at a;subst a;exact⟨_,rfl,by simp[Ac]⟩
 case h_3=>simp only[Ac]at b;subst b;cases a;exact⟨_,rfl,by simp[Ac]⟩
 case h_4=>cases a
def yJ:V->Option UInt8
 | .int .u8 (.ofNat n)=>some<|yr n
 |_=>none
def bytes?:List V->Option Z
 |[]=>some []
 |v::vs=>
  match yJ v,bytes? vs with
  |some b,some a=>some (b::a)
  |_,_=>none
def F9(T:B6)(h:H)(src dst:TypeId)(x:V):Option V:=
 match T.und src,T.und dst,x with
 |some _,some<|.int k,.int _ n=>some<|.int k<|k.wrap n
 |some _,some .string,.str s=>some<|.str s
 |some (.slice e),some .string,.nils=>match T.und e with|some (.int .u8)=>some (.str [])|_=>none
 |some (.slice e),some .string,.sl b off len _ _=>
  match T.und e with
  |some (.int .u8)=>match rd h b off len with
   |some cs=>(bytes? cs).map .str
   |none=>none
  |_=>none
 |_,_,_=>none
theorem Nf{f:Value->ByteArray->Sem (ForInStep ByteArray)}(m:∀n s,f (.int .u8 n) s=pure (ForInStep.yield<|s.push<|yr n.toNat)):
  ∀(cs:List V) (vs:List Value) (k:Z) (a:Z),At p cs vs->bytes? cs=some k->
  ∀w,(forIn vs (bytesOf a) f).run P w=.ok (bytesOf<|a++k) w
 |[],vs,k,a,d,g,w=>by
  simp at d;simp[bytes?]at g;subst d g;simp[forIn]
 |c::cs,[],_,_,d,_,_=>by simp at d
 |c::cs,v::vs,k,a,d,g,w=>by
  simp only[Bh]at d;unfold bytes? at g;split at g
  case h_2=>cases g
  rename_i b tl j l;cases g;unfold yJ at j;split at j
  case h_2=>cases j
  rename_i n;cases j;have i:=d.1;simp only[Ac]at i;subst i;rw[List.forIn_cons,m];simp only[zd,ze,zc];have:=Nf m cs vs tl (a++[yr n]) d.2 l w;have e:(bytesOf a).push (yr (Int.ofNat n).toNat)=bytesOf (a++[yr n]):=by
   apply qf;simp[bytesOf,ByteArray.push]
  rw[e,this];simp
theorem kN(b:T.Ok P)(hr:R p h w){src dst:TypeId}{x:V}{x':Value}(d:Ac p x x'){v:V}(a:F9 T h src dst x=some v):
  ∃v',(convert src dst x').run P w=.ok v' w/\Ac p v v':=by
 unfold F9 at a;split at a
 case h_1=>
  rename_i f g;simp only[Ac]at d;subst d;cases a;unfold convert;simp only[zd,Ay b f,Ay b g,zc];exact⟨_,rfl,by simp[Ac]⟩
 case h_2=>
  rename_i f g;simp only[Ac]at d;subst d;cases a;unfold convert;simp only[zd,Ay b f,Ay b g,zc];exact⟨_,rfl,by simp[Ac]⟩
 case h_3=>
  rename_i f g;simp only[Ac]at d;subst d;split at a
  case h_2=>cases a
  rename_i i;cases a;unfold convert;simp only[zd,Ay b f,Ay b g,Ay b i,zc];exact⟨_,rfl,by simp[Ac,bytesOf];rfl⟩
 case h_4=>
  rename_i f g;simp only[Ac]at d;split at a
  case h_2=>cases a
  rename_i i;split at a
  case h_2=>cases a
  rename_i cs j;rw[zn]at a;obtain⟨l,k,rfl⟩:=a;obtain⟨r,n,c,g1,rfl,g2⟩:=d;obtain⟨r',m,vs,k1,k2,k3,_⟩:=run_loadCells (P:=P) hr j;rw[g1]at k1;cases k1;refine⟨.string<|bytesOf l,?_,by simp[Ac]⟩;unfold convert;simp only[zd,Ay b f,Ay b g,Ay b i,zc];unfold Conv.bytesToString;simp only[zd,k2,zc];simp only[List.forIn_toArray];have e:ByteArray.empty=bytesOf []:=rfl;rw[e,Nf (P:=P) (fun n s=>rfl) cs vs l [] k3 k w];simp
 case h_5=>cases a
def Lg(T:B6)(t:TypeId)(cs:List V)(off:Nat):Option V:=
 match T.und t,T.inf t with
 |some d,some i=>bif D8 d then some (.agg<|(cs.drop off).take i.size)else cs[off]?
 |_,_=>none
theorem V1(e:T.Ok P){t:TypeId}{cs:List V}{c:Array Value}{off:Nat}(f:At p cs c.toList){v:V}(a:Lg T t cs off=some v):
  ∃v',(part t c off).run P w=.ok v' w/\Ac p v v':=by
 unfold Lg at a;split at a
 case h_2=>cases a
 rename_i d i g k;unfold part;simp only[zd,RQ e g,zc];cases b:D8 d with
 |true=>
  simp only[b,we,zh]at a;subst a;simp only[wk,zd,Bw e k,zc];refine⟨_,ze ..,?_⟩;simp only[Ac];refine⟨_,rfl,?_⟩;have:(c.extract off<|off+i.size).toList=(c.toList.drop off).take i.size:=by
   rw[Array.toList_extract];simp[List.extract]
  rw[this];exact(f.drop off).take i.size
 |false=>
  simp only[b,wg]at a;obtain⟨u,j,l⟩:=f.get a;have:c[off]?=some u:=by simpa using j
  simp only[zm,vg,this];exact⟨u,rfl,l⟩
def Ks(T:B6)(t:TypeId)(x:V)(f:Nat):Option V:=
 match T.und t,x with
 |some (.struct fs),.agg cs=>match fs[f]? with
  |some a=>Lg T a.type cs a.offset
  |none=>none
 |_,_=>none
theorem aJ(d:T.Ok P){t:TypeId}{x:V}{x':Value}{f:Nat}(b:Ac p x x'){v:V}(a:Ks T t x f=some v):
  ∃v',(Instr.field t x' f).run P w=.ok v' w/\Ac p v v':=by
 unfold Ks at a;split at a
 case h_2=>cases a
 rename_i fs cs e;split at a
 case h_2=>cases a
 rename_i j g;simp only[Ac]at b;obtain⟨c,rfl,i⟩:=b;unfold Instr.field;simp only[zd,Ay d e,zc,g];unfold asAgg;simp only[ze,zc];exact V1 d i a
def Kx(T:B6)(t:TypeId)(x:V)(f:Nat):Option V:=
 match T.und t,x with
 |some (.struct fs),.ptr b off=>match fs[f]? with
  |some a=>match T.inf a.type with
   |some i=>if i.size=0 then none else some<|.ptr b<|off+a.offset
   |none=>none
  |none=>none
 |_,_=>none
theorem bJ(d:T.Ok P){t:TypeId}{x:V}{x':Value}{f:Nat}(c:Ac p x x'){v:V}(a:Kx T t x f=some v):
  ∃v',(Instr.fieldAt t x' f).run P w=.ok v' w/\Ac p v v':=by
 unfold Kx at a;split at a
 case h_2=>cases a
 rename_i fs b off e;split at a
 case h_2=>cases a
 rename_i l j;split at a
 case h_2=>cases a
 rename_i i g;split at a
 case isTrue=>cases a
 rename_i k;cases a;simp only[Ac]at c;obtain⟨r,n,hp,rfl⟩:=c;unfold Instr.fieldAt;simp only[zd,Ay d e,zc,j];unfold yb fieldPlace;simp only[ze,zc,zd,Bw d g,k,vg,Addr.H2];exact⟨_,rfl,by simp only[Ac];exact⟨_,_,hp,rfl⟩⟩
def Dk(T:B6)(t:TypeId)(x c:V):Option V:=
 match T.und t,x,c with
 |some (.slice e),.sl b off len _ _,.int _ i=>
  match T.inf e,i with
  |some a,.ofNat n=>bif y7 n len then some (.ptr b<|off+n*a.size)else none
  |_,_=>none
 |some (.array len e),.ptr b off,.int _ i=>
  match T.inf e,i with
  |some a,.ofNat n=>bif y7 n len then some (.ptr b<|off+n*a.size)else none
  |_,_=>none
 |_,_,_=>none
theorem Ht(a b:Nat):y7 a b=decide (a<b):=by
 rw[Bool.eq_iff_iff];simp[Nat.blt_eq]
theorem Z3(q:T.Ok P){t:TypeId}{x y:V}{x' j:Value}(l:Ac p x x')(g:Ac p y j){v:V}(a:Dk T t x y=some v):
  ∃v',(Instr.indexAt t x' j).run P w=.ok v' w/\Ac p v v':=by
 unfold Dk at a;split at a
 case h_3=>cases a
 case h_1=>
  rename_i e b off len cap o k i s;split at a
  case h_2=>cases a
  rename_i z n u;rw[Ht]at a;by_cases f:n<len
  ·simp only[f,decide_true,we,zh]at a;subst a;simp only[Ac]at l g;obtain⟨r,m,c,hp,rfl,_⟩:=l;subst g;unfold Instr.indexAt asIntOf;have d:(0:Int)<=(n:Int)/\(n:Int)<(len:Int):=⟨by simp,by simpa using f⟩;simp only[zd,ze,Ay q s,zc,d,vf,wk,Bw q u,Addr.H2,zy,z7];exact⟨_,rfl,by simp only[Ac];exact⟨_,_,hp,rfl⟩⟩
  ·simp[f]at a
 case h_2=>
  rename_i len e b off k i s;split at a
  case h_2=>cases a
  rename_i z n u;rw[Ht]at a;by_cases f:n<len
  ·simp only[f,decide_true,we,zh]at a;subst a;simp only[Ac]at l g;obtain⟨r,m,hp,rfl⟩:=l;subst g;unfold Instr.indexAt asIntOf yb;have d:(0:Int)<=(n:Int)/\(n:Int)<(len:Int):=⟨by simp,by simpa using f⟩;simp only[zd,ze,Ay q s,zc,d,vf,wk,Bw q u,Addr.H2,zy,z7];exact⟨_,rfl,by simp only[Ac];exact⟨_,_,hp,rfl⟩⟩
  ·simp[f]at a
def H7(T:B6)(t:TypeId)(x a:V):Option V:=
 match T.und t,x,a with
 |some .string,.str s,.int _ (.ofNat n)=>match s[n]? with
  |some b=>some<|.int .u8 b.toNat
  |none=>none
 |some (.array len e),.agg cs,.int _ (.ofNat n)=>
  match T.inf e with
  |some c=>bif y7 n len then Lg T e cs (n*c.size)else none
  |_=>none
 |_,_,_=>none
theorem dT(l:T.Ok P){t:TypeId}{x r:V}{x' i:Value}(j:Ac p x x')(d:Ac p r i){v:V}(a:H7 T t x r=some v):
  ∃v',(Instr.index t x' i).run P w=.ok v' w/\Ac p v v':=by
 unfold H7 at a;split at a
 case h_3=>cases a
 case h_1=>
  rename_i s k n m;split at a
  case h_2=>cases a
  rename_i b o;cases a;simp only[Ac]at j d;subst j d;unfold Instr.index asIntOf;have e:(bytesOf s)[n]?=some b:=by
   have u:=(zf.1 o).1;have q:=(zf.1 o).2;rw[getElem?_pos (bytesOf s) n<|by rw[BE];exact u];congr 1
  simp only[zd,ze,Ay l m,zc,zy,Int.natCast_nonneg,wk,z7,e];exact⟨_,rfl,by simp[Ac]⟩
 case h_2=>
  rename_i len e cs k n m;split at a
  case h_2=>cases a
  rename_i z q;rw[Ht]at a;by_cases g:n<len
  ·simp only[g,decide_true,we]at a;simp only[Ac]at j d;obtain⟨c,rfl,y⟩:=j;subst d;unfold Instr.index asIntOf;have f:(0:Int)<=(n:Int)/\(n:Int)<(len:Int):=⟨by simp,by simpa using g⟩;simp only[zd,ze,Ay l m,zc,f,vf,wk,Bw l q,zy,z7];exact V1 l y a
  ·simp[g]at a
def He(x:V)(i:Nat):Option V:=
 match x with
 | .tup vs=>vs[i]?
 |_=>none
theorem UF{x:V}{x':Value}{i:Nat}(b:Ac p x x'){v:V}(a:He x i=some v):∃v',(Instr.extract x' i).run P w=.ok v' w/\Ac p v v':=by
 unfold He at a;split at a
 case h_2=>cases a
 simp only[Ac]at b;obtain⟨c,rfl,d⟩:=b;obtain⟨u,h1,h2⟩:=d.get a;unfold Instr.extract;have:c[i]?=some u:=by simpa using h1
 simp only[this];exact⟨u,rfl,h2⟩
def CL(x:Option V)(y Hb:Nat):Option Nat:=
 match x with
 |none=>some Hb
 |some (.int _<|.ofNat n)=>bif zu n y then some n else none
 |_=>none
def JY(mx:Option V)(o:Nat):Nat:=match mx with|some _=>0|none=>o
def nA(a mx:Option V):Option Nat:=match a,mx with
 |none,some _=>none
 |_,_=>CL a 0 0
def Qz(mx:Option V):Bool:=match mx with
 |some _=>true
 |none=>false
def DJ(T:B6)(t:TypeId)(x:V)(lo a mx:Option V):Option V:=
 match T.und t,x with
 |some .string,.str s=>
  match mx,CL a s.length s.length with
  |none,some h=>match CL lo h 0 with
   |some l=>some<|.str<|(s.drop l).take<|h-l
   |none=>none
  |_,_=>none
 |some (.slice e),.sl b off len cap o=>
  match T.inf e,CL mx cap cap with
  |some c,some m=>match (match a,mx with|none,some _=>none|_,_=>CL a m len)with
   |some h=>match CL lo h 0 with
    |some l=>
     let o':=JY mx o
     bif zt m l then(bif zt o' 0 then some (.sl b off (h-l) (m-l) 0)else some .esl)
     else bif zt o' 0||zt o' c.size then some (.sl b (off+l*c.size) (h-l) (m-l) o')else none
    |none=>none
   |none=>none
  |_,_=>none
 |some (.slice e),.nils=>
  match CL mx 0 0,nA a mx,T.inf e with
  |some _,some h,some _=>match CL lo h 0 with
   |some _=>some .nils
   |none=>none
  |_,_,_=>none
 |some (.slice e),.esl=>
  match CL mx 0 0,nA a mx,T.inf e with
  |some _,some h,some _=>match CL lo h 0 with
   |some _=>some<|bif Qz mx then .es0 else .esl
   |none=>none
  |_,_,_=>none
 |some (.slice e),.es0=>
  match CL mx 0 0,nA a mx,T.inf e with
  |some _,some h,some _=>match CL lo h 0 with
   |some _=>some .es0
   |none=>none
  |_,_,_=>none
 |some (.array n e),.ptr b off=>
  match T.inf e,mx,CL a n n with
  |some c,none,some h=>match CL lo h 0 with
   |some l=>bif zt n l then some (.sl b off (h-l) (n-l) 0)else some<|.sl b (off+l*c.size) (h-l) (n-l) 0
   |none=>none
  |_,_,_=>none
 |_,_=>none
def Gc(p:Pl):Option V->Option Value->Prop
 |none,x=>x=none
 |some d,x=>∃v,x=some v/\Ac p d v
theorem B1{x:Option V}{x':Option Value}{y z n y':Nat}(f:Gc p x x')(a:CL x y z=some n)(j:y<=y'):
  (x=none/\x'=none/\n=z)\/(∃d u,x=some d/\x'=some u/\n<=y/\∀b (P:Program) (w:World),(Instr.sliceBound u y' b).run P w=.ok n w):=by
 cases x with
 |none=>simp only[Gc]at f;subst f;simp only[CL,zh]at a;exact .inl ⟨rfl,rfl,a.symm⟩
 |some d=>
  simp only[Gc]at f;obtain⟨u,rfl,g⟩:=f;refine .inr ⟨d,u,rfl,rfl,?_⟩;unfold CL at a;split at a
  case h_1=>rename_i e;cases e
  case h_3=>cases a
  rename_i k m e;cases e;by_cases c:m<=y
  ·simp only[ye c,we,zh]at a;subst a;simp only[Ac]at g;subst g;refine⟨c,fun b P w=>?_⟩;unfold Instr.sliceBound asIntOf;have i:(0:Int)<=(m:Int)/\(m:Int)<=(y':Int):=⟨by simp,by omega⟩;simp only[zd,ze,zc,zy,i,vf,wk,z7]
  ·have:zu m y=false:=by rw[Bool.eq_false_iff];simpa [yq]using c
   simp[this]at a
theorem I6{lo a mx:Option V}{n k j:Option Value}(i:Gc p lo n)(g:Gc p a k)(b:Gc p mx j){m h l:Nat}(v:CL mx 0 0=some m)(e:nA a mx=some h)(q:CL lo h 0=some l)(c:Nat):
  (zr true 0 c n k j).run P w=.ok (0,0,bif Qz mx then 0 else c) w:=by
 unfold nA at e;have h0:h=0:=by
  have:CL a 0 0=some h:=by
   cases mx with
   |none=>cases a<;>simpa using e
   |some d=>cases a with
    |none=>simp at e
    |some _=>simpa using e
  rcases B1 g this (zg _)with⟨_,_,rfl⟩|⟨_,_,_,_,h,_⟩<;>omega
 subst h0;have l0:l=0:=by rcases B1 i q (zg _)with⟨_,_,rfl⟩|⟨_,_,_,_,h,_⟩<;>omega
 subst l0;unfold zr;cases mx with
 |none=>
  have f:CL a 0 0=some 0:=by cases a<;>simpa using e
  simp only[Gc]at b;subst b;rcases B1 g f (qd c)with⟨_,rfl,_⟩|⟨_,u,_,rfl,_,t⟩<;>rcases B1 i q (zg _)with⟨_,rfl,_⟩|⟨_,u2,_,rfl,_,o⟩
  all_goals simp only[Qz,wg,z6,zm,vg,zd,ze,zc,wk, *]
 |some d=>
  cases a with
  |none=>simp at e
  |some r=>
   have f:CL (some r) 0 0=some 0:=by simpa using e
   rcases B1 b v (qd c)with⟨h,_,_⟩|⟨_,y,_,rfl,s,x⟩
   ·cases h
   ·obtain rfl:m=0:=ae
    rcases B1 g f (zg _)with⟨h,_,_⟩|⟨_,u,_,rfl,_,t⟩
    ·cases h
    ·rcases B1 i q (zg _)with⟨_,rfl,_⟩|⟨_,u2,_,rfl,_,o⟩
     all_goals simp only[Qz,we,Option.isSome_some,zd,ze,zc,wk, *]
theorem cG(C:T.Ok P){t:TypeId}{x:V}{lo Z mx:Option V}{x':Value}{I G N:Option Value}(L:Ac p x x')(q:Gc p lo I)(i:Gc p Z G)(z:Gc p mx N)
  {v:V} (f:DJ T t x lo Z mx=some v):∃v',(zp t x' I G N).run P w=.ok v' w/\Ac p v v':=by
 unfold DJ at f;split at f
 case h_7=>cases f
 case h_1=>
  rename_i s y;split at f
  case h_2=>cases f
  rename_i j g;split at f
  case h_2=>cases f
  rename_i l F;cases f;simp only[Gc]at z;subst z;simp only[Ac]at L;subst L;refine⟨.string<|bytesOf<|(s.drop l).take<|j-l,?_,by simp[Ac]⟩;unfold zp;simp only[zd,Ay C y,zc];unfold yt;simp only[zd,Ay C y,zc,z6,zm,vg,BE];unfold zr;have e:(bytesOf s).extract l j=bytesOf ((s.drop l).take<|j-l):=by
   apply qf;simp[bytesOf,List.extract]
  rcases B1 i g (zg _)with⟨_,rfl,rfl⟩|⟨_,u,_,rfl,_,hu⟩<;>rcases B1 q F (zg _)with⟨_,rfl,rfl⟩|⟨_,u2,_,rfl,_,U⟩
  all_goals simp only[z6,zm,vg,zd,ze,zc, *]
 case h_2=>
  rename_i e b off len cap o y;split at f
  case h_2=>cases f
  rename_i X m W hm;split at f
  case h_2=>cases f
  rename_i j g;split at f
  case h_2=>cases f
  rename_i l F;simp only[Ac]at L;obtain⟨r,n,c,hp,rfl,hlen,O,ho1,ho2⟩:=L;obtain⟨J,gm2,hhm,R,hbounds⟩:∃J,((mx=none/\J=c/\m=cap)\/(mx≠none/\J=m))/\j<=m/\l<=j/\(zr true len c I G N).run P w=.ok (l,j,J) w:=by
   have R:l<=j:=by
    rcases B1 q F (zg _)with⟨_,_,rfl⟩|⟨_,_,_,_,h,_⟩
    ·exact qd _
    ·exact h
   rcases B1 z hm O with⟨rfl,rfl,rfl⟩|⟨dm,um,rfl,rfl,hm1,hum⟩
   ·have A:CL Z m len=some j:=by cases Z<;>simpa using g
    refine⟨c,.inl ⟨rfl,rfl,rfl⟩,?_,R,?_⟩
    ·rcases B1 i A O with⟨_,_,rfl⟩|⟨_,_,_,_,h,_⟩
     ·exact hlen
     ·exact h
    ·unfold zr;rcases B1 i A O with⟨_,rfl,rfl⟩|⟨_,u,_,rfl,_,hu⟩<;>rcases B1 q F (zg _)with⟨_,rfl,rfl⟩|⟨_,u2,_,rfl,_,U⟩
     all_goals simp only[z6,zm,vg,zd,ze,zc,wk, *]
   ·cases Z with
    |none=>simp at g
    |some dh=>
     have A:CL (some dh) m len=some j:=by simpa using g
     refine⟨m,.inr ⟨by simp,rfl⟩,?_,R,?_⟩
     ·rcases B1 i A (zg _)with⟨h,_⟩|⟨_,_,_,_,h,_⟩
      ·cases h
      ·exact h
     ·unfold zr;rcases B1 i A (zg _)with⟨h,_,_⟩|⟨_,u,_,rfl,_,hu⟩
      ·cases h
      ·rcases B1 q F (zg _)with⟨_,rfl,rfl⟩|⟨_,u2,_,rfl,_,U⟩
       all_goals simp only[Option.isSome_some,zd,ze,zc,wk, *]
  have gm1:m<=J:=by rcases gm2 with⟨_,y,h2⟩|⟨_,y⟩<;>omega
  have B:(zp t (.slice (some ⟨r,off,none⟩) len c) I G N).run P w=.ok (.slice (if J=l then some ⟨r,off,none⟩else some ⟨r,off+l*X.size,none⟩) (j-l)<|J-l) w:=by
   unfold zp;simp only[zd,Ay C y,zc];unfold yt;simp only[zd,Ay C y,zc,hbounds,Bw C W,ze];congr 2;split<;>simp
  refine⟨_,B,?_⟩;simp only[Bp]at f;by_cases E:m=l
  ·simp only[E,decide_true,we]at f;by_cases K:JY mx o=0
   ·simp only[K,decide_true,we,zh]at f;subst f;have hm':J=l:=by
     rcases gm2 with⟨Q,Y,k3⟩|⟨Q,Y⟩
     ·subst Q;simp only[JY]at K;have:=ho1 K;omega
     ·omega
    simp only[hm',wk,Ac];exact⟨r,n,_,hp,rfl,by omega,by omega,fun _=>by omega,by simp⟩
   ·simp only[K,decide_false,wg,zh]at f;subst f;have S:j-l=0:=ae
    simp only[S,Ac];by_cases hm2:J=l
    ·exact⟨_,_,by rw[wd hm2]⟩
    ·exact⟨_,_,by rw[wc hm2]⟩
  ·simp only[E,decide_false,wg]at f;by_cases K:JY mx o=0\/JY mx o=X.size
   ·have D:(decide (JY mx o=0)||decide (JY mx o=X.size))=true:=by simpa using K
    simp only[D,we,zh]at f;subst f;have hne:J≠l:=ae
    simp only[hne,vg,Ac];refine⟨r,n,_,hp,rfl,by omega,by omega,fun k=>?_,fun k=>?_⟩
    ·rcases gm2 with⟨Q,Y,k3⟩|⟨Q,Y⟩
     ·subst Q;simp only[JY]at k;have:=ho1 k;omega
     ·omega
    ·rcases gm2 with⟨Q,Y,k3⟩|⟨Q,Y⟩
     ·subst Q;simp only[JY]at k K ⊢;rcases K with K|K
      ·exact wh K k
      ·have:=ho2 k;subst Y;rw[<-K];have e:off+l*o+(J-l)*o=off+J*o:=by
        rw[Nat.sub_mul];have:l*o<=J*o:=Nat.mul_le_mul_right _ ae;omega
       omega
     ·cases mx with
      |none=>exact wh rfl Q
      |some d=>simp[JY]at k
   ·have D:(decide (JY mx o=0)||decide (JY mx o=X.size))=false:=by
     simpa using K
    simp[D]at f
 case h_3=>
  rename_i e y;split at f
  case h_2=>cases f
  rename_i mm j tz M g S;split at f
  case h_2=>cases f
  rename_i l F;cases f;simp only[Ac]at L;subst L;refine⟨.slice none 0 0,?_,by simp[Ac]⟩;unfold zp;simp only[zd,Ay C y,zc];unfold yt;simp only[zd,Ay C y,zc,I6 (P:=P) (w:=w) q i z M g F 0];cases mx<;>simp[Qz,Bw C S]
 case h_4=>
  rename_i e y;split at f
  case h_2=>cases f
  rename_i mm j tz M g S;split at f
  case h_2=>cases f
  rename_i l F;simp only[Ac]at L;obtain⟨a,c,rfl⟩:=L;have B:∃a',(zp t (.slice (some a) 0 c) I G N).run P w=.ok (.slice (some a') 0<|bif Qz mx then 0 else c) w:=by
   unfold zp;simp only[zd,Ay C y,zc];unfold yt;simp only[zd,Ay C y,zc,I6 (P:=P) (w:=w) q i z M g F c];simp only[Bw C S,zc,ze,Nat.sub_zero,Nat.sub_self];split
   ·exact⟨_,rfl⟩
   ·exact⟨_,rfl⟩
  obtain⟨a',ha'⟩:=B;refine⟨_,ha',?_⟩;cases f;cases mx with
  |none=>simp only[Qz,wg,Ac];exact⟨_,_,rfl⟩
  |some d=>simp only[Qz,we,Ac];exact⟨_,rfl⟩
 case h_5=>
  rename_i e y;split at f
  case h_2=>cases f
  rename_i mm j tz M g S;split at f
  case h_2=>cases f
  rename_i l F;cases f;simp only[Ac]at L;obtain⟨a,rfl⟩:=L;refine⟨.slice (some a) 0 0,?_,by simp only[Ac];exact⟨_,rfl⟩⟩;unfold zp;simp only[zd,Ay C y,zc];unfold yt;simp only[zd,Ay C y,zc,I6 (P:=P) (w:=w) q i z M g F 0];cases mx<;>simp[Qz,Bw C S]
 case h_6=>
  rename_i nn e b off y;split at f
  case h_2=>cases f
  rename_i X j W g;split at f
  case h_2=>cases f
  rename_i l F;simp only[Gc]at z;subst z;simp only[Ac]at L;obtain⟨r,n,hp,rfl⟩:=L;have R:l<=j:=by rcases B1 q F (zg _)with⟨_,_,rfl⟩|⟨_,_,_,_,h,_⟩<;>omega
  have hhn:j<=nn:=by rcases B1 i g (zg _)with⟨_,_,rfl⟩|⟨_,_,_,_,h,_⟩<;>omega
  have B:(zp t (.pointer<|some ⟨r,off,none⟩) I G none).run P w=.ok (.slice (some<|if nn=l then⟨r,off,none⟩else⟨r,off+l*X.size,none⟩) (j-l)<|nn-l) w:=by
   unfold zp;simp only[zd,Ay C y,zc];unfold yb zr;rcases B1 i g (zg _)with⟨_,rfl,rfl⟩|⟨_,u,_,rfl,_,hu⟩<;>rcases B1 q F (zg _)with⟨_,rfl,rfl⟩|⟨_,u2,_,rfl,_,U⟩
   all_goals simp only[z6,zm,vg,zd,ze,zc,Bw C W,Addr.H2, *]
  refine⟨_,B,?_⟩;simp only[Bp]at f;by_cases E:nn=l
  ·simp only[E,decide_true,we,zh]at f;subst f;simp only[E,wk,Ac];exact⟨r,n,_,hp,rfl,by omega,by omega,fun _=>by omega,by simp⟩
  ·simp only[E,decide_false,wg,zh]at f;subst f;simp only[E,vg,Ac];exact⟨r,n,_,hp,rfl,by omega,by omega,fun _=>by omega,by simp⟩
def i64(n:Nat):V:=.int .i64<|.ofNat n
def Gj(T:B6)(h:H)(ts:Array TypeId)(args:List V):Option V:=
 match ts[0]?,args with
 |some t,[x]=>
  match T.und t,x with
  |some .string,.str s=>some<|i64 s.length
  |some (.array n _),_=>some<|i64 n
  |some (.slice _),.sl _ _ len _ _=>some<|i64 len
  |some (.slice _),.nils=>some<|i64 0
  |some (.slice _),.esl=>some<|i64 0
  |some (.slice _),.es0=>some<|i64 0
  |some (.map _ _),.nilm=>some<|i64 0
  |some (.map _ _),.map b=>match h.get b with
   |some (.map es _)=>some<|i64 es.length
   |_=>none
  |_,_=>none
 |_,_=>none
theorem At.one{ds:V}{l:List Value}(a:At p [ds] l):∃v,l=[v]/\Ac p ds v:=by
 match l,a with
 |[v],h=>exact⟨v,rfl,by simpa using h⟩
 |[],h=>simp at h
 |_::_::_,h=>simp at h
theorem At.two{d e:V}{l:List Value}(a:At p [d,e] l):∃v u,l=[v,u]/\Ac p d v/\Ac p e u:=by
 match l,a with
 |[v,u],h=>exact⟨v,u,rfl,by simpa using h⟩
 |[],h=>simp at h
 |[_],h=>simp at h
 |_::_::_::_,h=>simp at h
theorem DQ.length{es:List (V×V×Nat)}{l:List MapEntry}(h:DQ p es l):es.length=l.length:=by
 induction h with
 |nil=>rfl
 |cons _ _ _ _ a=>simp[a]
theorem qF(s:T.Ok P)(hr:R p h w){ts:Array TypeId}{t:TypeId}{args:List V}{args':Array Value}(g:At p args args'.toList){v:V}(a:Gj T h ts args=some v):
  ∃v',(Builtin.len_ ts t args').run P w=.ok v' w/\Ac p v v':=by
 unfold Gj at a;split at a
 case h_2=>cases a
 rename_i t0 x m;obtain⟨x',c,b⟩:=g.one;have d:args'[0]?=some x':=by rw[<-Array.getElem?_toList,c];rfl
 unfold Builtin.len_;simp only[m,d];split at a
 case h_9=>cases a
 all_goals (rename_i j;simp only[zd,Ay s j,zc];try simp only[Ac]at b)
 case h_1=>subst b;cases a;exact⟨_,ze ..,by simp[i64,Ac,goInt,BE]⟩
 case h_2=>cases a;exact⟨_,ze ..,by simp[i64,Ac,goInt]⟩
 case h_3=>obtain⟨_,_,_,_,rfl,_⟩:=b;cases a;exact⟨_,ze ..,by simp[i64,Ac,goInt]⟩
 case h_4=>subst b;cases a;exact⟨_,ze ..,by simp[i64,Ac,goInt]⟩
 case h_5=>obtain⟨_,_,rfl⟩:=b;cases a;exact⟨_,ze ..,by simp[i64,Ac,goInt]⟩
 case h_6=>obtain⟨_,rfl⟩:=b;cases a;exact⟨_,ze ..,by simp[i64,Ac,goInt]⟩
 case h_7=>subst b;cases a;exact⟨_,ze ..,by simp[i64,Ac,goInt]⟩
 case h_8=>
  obtain⟨r,n,hp,rfl⟩:=b;split at a
  case h_2=>cases a
  rename_i es u f;cases a;obtain⟨y,n',o,e,q,l,k,i⟩:=hr.obj _ _ f;rw[hp]at e;cases e;subst k;refine⟨goInt l.size,?_,?_⟩
  ·simp[getObj,Sem.run,q]
  ·have:=i.length;simp only[i64,Ac,goInt];congr 1;simp at this;exact wi Int.ofNat this.symm
def fF(a b:V):Option V:=
 match a,b with
 | .int k x,.int _ y=>some<|.int k<|if y>x then y else x
 |_,_=>none
def oW(a b:V):Option V:=
 match a,b with
 | .int k x,.int _ y=>some<|.int k<|if y<x then y else x
 |_,_=>none
def dfold(f:V->V->Option V):V->List V->Option V
 |x,[]=>some x
 |x,y::a=>match f x y with
  |some z=>dfold f z a
  |none=>none
theorem QG{f:V->V->Option V}{g:Value->Value->Sem Value}(j:∀ {a b c:V} {n b':Value},Ac p a n->Ac p b b'->f a b=some c->∃m,(g n b').run P w=.ok m w/\Ac p c m):
  ∀(k:List V) (e:List Value) (x:V) (x':Value),Ac p x x'->At p k e->∀ {v:V},dfold f x k=some v->∃v',(e.foldlM g x').run P w=.ok v' w/\Ac p v v'
 |[],e,x,x',l,d,v,i=>by
  simp at d;subst d;cases i;exact⟨x',by simp,l⟩
 |y::k,[],_,_,_,d,_,_=>by simp at d
 |y::k,y'::e,x,x',l,d,v,i=>by
  simp only[Bh]at d;unfold dfold at i;split at i
  case h_2=>cases i
  rename_i z r;obtain⟨s,o,q⟩:=j l d.1 r;obtain⟨v',h3,h4⟩:=QG j k e z s q d.2 i;exact⟨v',by rw[List.foldlM_cons,zd,o];exact h3,h4⟩
def GJ(f:V->V->Option V)(args:List V):Option V:=
 match args with
 |[]=>none
 |x::a=>dfold f x a
theorem sG{ts:Array TypeId}{t:TypeId}{args:List V}{args':Array Value}(d:At p args args'.toList){v:V}(f:GJ fF args=some v):
  ∃v',(Builtin.max_ ts t args').run P w=.ok v' w/\Ac p v v':=by
 unfold GJ at f;split at f
 case h_1=>cases f
 rename_i x l;unfold Builtin.max_;cases j:args'.toList with
 |nil=>rw[j]at d;simp at d
 |cons x' g=>
  rw[j]at d;simp only[Bh]at d;refine QG (fun {a b c m b'} i k e=>?_) l g x x' d.1 d.2 f;unfold fF at e;split at e
  case h_2=>cases e
  simp only[Ac]at i k;subst i k;cases e;exact⟨_,rfl,by simp[Ac]⟩
theorem tV{ts:Array TypeId}{t:TypeId}{args:List V}{args':Array Value}(d:At p args args'.toList){v:V}(f:GJ oW args=some v):
  ∃v',(Builtin.min_ ts t args').run P w=.ok v' w/\Ac p v v':=by
 unfold GJ at f;split at f
 case h_1=>cases f
 rename_i x l;unfold Builtin.min_;cases j:args'.toList with
 |nil=>rw[j]at d;simp at d
 |cons x' g=>
  rw[j]at d;simp only[Bh]at d;refine QG (fun {a b c m b'} i k e=>?_) l g x x' d.1 d.2 f;unfold oW at e;split at e
  case h_2=>cases e
  simp only[Ac]at i k;subst i k;cases e;exact⟨_,rfl,by simp[Ac]⟩
def I8(place:Nat->Option (Nat×Nat))(cells:List V):List (Nat×V)->Option (List V)
 |[]=>some cells
 |(i,v)::a=>
  match place i with
  |none=>none
  |some (off,size)=>bif zt v.cells.length size&&zu (off+size) cells.length then I8 place (GU cells off v.cells) a else none
theorem UG:∀(xs:List V) (vs:List Value) (cs:List V) (c:Array Value) (off:Nat),At p xs vs->At p cs c.toList->
  ∀k,At p (GU cs (off+k) xs) ((vs.zipIdx k).foldl (fun cs (c,j)=>cs.setIfInBounds (off+j) c) c).toList
 |[],vs,cs,c,off,a,b,k=>by simp at a;subst a;simpa [GU]using b
 |x::xs,[],_,_,_,a,_,_=>by simp at a
 |x::xs,v::vs,cs,c,off,a,b,k=>by
  simp only[Bh]at a;simp only[GU,List.zipIdx_cons,List.foldl_cons];have:=UG xs vs (cs.set (off+k) x) (c.setIfInBounds (off+k) v) off a.2 (by simpa using b.set (off+k) a.1)<|k+1;rwa [show off+k+1=off+(k+1)from by omega]
inductive U7 (p:Pl):List (Nat×V)->List (Nat×Value)->Prop
 |nil:U7 p [] []
 |cons {i:Nat} {v:V} {v':Value} {l:List (Nat×V)} {l':List (Nat×Value)}:Ac p v v'->U7 p l l'->U7 p ((i,v)::l) ((i,v')::l')
theorem LZ{place:Nat->Option (Nat×Nat)}:∀ {l:List (Nat×V)} {l':List (Nat×Value)},U7 p l l'->∀ {cs:List V} {c:Array Value} {out:List V},At p cs c.toList->I8 place cs l=some out->
  ∃o,Instr.fill place c l'=some o/\At p out o.toList:=by
 intro l l' m;induction m with
 |nil=>intro cs c out d b;cases b;exact⟨c,rfl,d⟩
 |@cons i v v' l l' k m n=>
  intro cs c out d b;unfold I8 at b;split at b
  case h_1=>cases b
  rename_i off size g;cases a:(zt v.cells.length size&&zu (off+size) cs.length)with
  |false=>simp[a]at b
  |true=>
   simp only[a,we]at b;simp only[zw,yq,Bp,w5]at a;have f:=k.cells.length;have j:=d.length;have e:v'.cells.size=size:=by simp at f;omega
   unfold Instr.fill;simp only[g];rw[wc<|by simp at j;simp[e];omega];refine n ?_ b;have:=UG (p:=p) v.cells v'.cells.toList cs c off k.cells d 0;simp only[qj]at this;rw[<-Array.foldl_toList,Array.toList_zipIdx];exact this
def Ke(T:B6)(t:TypeId)(a:List (Nat×V)):Option V:=
 match T.inf t,T.und t with
 |some i,some (.struct fs)=>
  match fs.toList.mapM (fun f=>(T.inf f.type).map fun j=>(f.offset,j.size))with
  |some pl=>(I8 (fun i=>pl[i]?) i.zero a).map .agg
  |none=>none
 |some i,some (.array _ e)=>match T.inf e with
  |some j=>(I8 (fun i=>some (i*j.size,j.size)) i.zero a).map .agg
  |none=>none
 |_,_=>none
theorem run_places(c:T.Ok P):∀ {fs:List Field} {pl:List (Nat×Nat)},fs.mapM (fun f=>(T.inf f.type).map fun j=>(f.offset,j.size))=some pl->
  ∀w,(fs.mapM<|fun f=>(do pure (f.offset, <-sizeOf f.type):Sem (Nat×Nat))).run P w=.ok pl w
 |[],pl,h,w=>by simp at h;subst h;simp
 |f::fs,pl,h,w=>by
  rw[List.mapM_cons]at h;cases a:T.inf f.type with
  |none=>simp[a]at h
  |some j=>
   cases b:fs.mapM (fun f=>(T.inf f.type).map fun j=>(f.offset,j.size))with
   |none=>simp[a,b]at h
   |some d=>
    simp[a,b]at h;subst h;rw[List.mapM_cons];simp only[zd,Bw c a,zc,ze,run_places c b]
theorem dF(d:T.Ok P){t:TypeId}{c:List (Nat×V)}{a:Array (Nat×Value)}(hp:U7 p c a.toList){v:V}(b:Ke T t c=some v):
  ∃v',(Instr.build t a).run P w=.ok v' w/\Ac p v v':=by
 unfold Ke at b;split at b
 case h_3=>cases b
 case h_1=>
  rename_i i fs s r;split at b
  case h_2=>cases b
  rename_i pl q;rw[zn]at b;obtain⟨out,m,rfl⟩:=b;obtain⟨z,hz,hzr⟩:=EM d s;have g:(fs.mapM<|fun f=>(do pure (f.offset, <-sizeOf f.type):Sem (Nat×Nat))).run P w=.ok pl.toArray w:=by
   rw[Array.mapM_eq_mapM_toList];simp only[Sem.run_map,run_places d q,zc]
  obtain⟨o,k,l⟩:=LZ (p:=p) (place:=fun i=>pl.toArray[i]?) hp (hzr p) (out:=out) (by simpa using m);refine⟨.agg o,?_,by simp only[Ac];exact⟨_,rfl,l⟩⟩;unfold Instr.build;simp only[zd,hz,zc,Ay d r];rw[g];simp only[zc,k,ze]
 case h_2=>
  rename_i i n e s r;split at b
  case h_2=>cases b
  rename_i j u;rw[zn]at b;obtain⟨out,m,rfl⟩:=b;obtain⟨z,hz,hzr⟩:=EM d s;obtain⟨o,k,l⟩:=LZ (p:=p) (place:=fun i=>some (i*j.size,j.size)) hp (hzr p) m;refine⟨.agg o,?_,by simp only[Ac];exact⟨_,rfl,l⟩⟩;unfold Instr.build;simp only[zd,hz,zc,Ay d r,Bw d u,k,ze]
def Ff(z:List V)(n:Nat):List V:=(List.range n).map fun i=>z.getD (i % z.length)<|.tup []
theorem Jz{z:List V}{c:Array Value}(m:At p z c.toList)(b:0<z.length)(n:Nat):At p (Ff z n) ((Array.range n).map<|fun i=>c[i % c.size]!).toList:=by
 have j:=m.length;simp at j;apply At.mk (by simp[Ff]);intro i d v f g;have l:i<n:=by have:=(zf.1 f).1;simpa [Ff]using this
 simp only[Ff,yc,z8 l,yi,zh]at f;simp only[Array.toList_map,Array.toList_range,yc,z8 l,yi,zh]at g;have k:i % z.length<z.length:=Nat.mod_lt _ b;obtain⟨u,e,o⟩:=m.get (i:=i % z.length) (d:=z[i % z.length]) (by simp[k]);subst f g;simp only[yf,k,ya,yy];rw[j]at e;have a:i % c.size<c.size:=Nat.mod_lt _ ae;simp[a]at e;rw[getElem!_pos c (i % c.size) a,e];exact o
def E9(T:B6)(h:H)(t:TypeId)(len:Nat)(a:List (Nat×V)):Option (V×H):=
 match T.und t with
 |some (.slice e)=>match T.inf e with
  |some i=>
   bif zu (len*i.size) 16777216&&y7 0 (i.zero.length)&&zt i.zero.length i.size then
    match I8 (fun k=>some (k*i.size,i.size)) (Ff i.zero<|len*i.size) a with
    |some cs=>some (.sl h.nx 0 len len 0,IC h e cs)
    |none=>none
   else none
  |none=>none
 |_=>none
theorem Xy(l:T.Ok P)(hr:R p h w){t:TypeId}{len:Nat}{c:List (Nat×V)}{b:Array (Nat×Value)}(hp:U7 p c b.toList){v:V}{h':H}
  (d:E9 T h t len c=some (v,h')):∃v' p' w',(Instr.buildSlice t len b).run P w=.ok v' w'/\Ac p' v v'/\Ext p h w p' h' w':=by
 unfold E9 at d;split at d
 case h_2=>cases d
 rename_i e s;split at d
 case h_2=>cases d
 rename_i i q;cases a:(zu (len*i.size) 16777216&&y7 0 (i.zero.length)&&zt i.zero.length i.size)with
 |false=>simp[a]at d
 |true=>
  simp only[a,we]at d;simp only[zw,yq,Nat.blt_eq,Bp,w5]at a;obtain⟨⟨B,u⟩,A⟩:=a;split at d
  case h_2=>cases d
  rename_i cs g;cases d;obtain⟨z,r,f⟩:=EM l q;have j:=(f p).length;simp at j;obtain⟨o,h1,h2⟩:=LZ (p:=p) (place:=fun k=>some (k*i.size,i.size)) hp (Jz (f p) u<|len*i.size) g;obtain⟨n,he,hpn,hn⟩:=Oc hr e h2;refine⟨.slice (some ⟨w.heap.size,0,none⟩) len len,_,_,?_,?_,he⟩
  ·unfold Instr.buildSlice;simp only[zd,Ay l s,zc,Bw l q];rw[wc ae];by_cases h0:len*i.size=0
   ·rw[wd h0];simp only[zd,ze,zc];have y:(Array.map (fun x=>(#[]:Array Value)[x % (#[]:Array Value).size]!)<|Array.range<|len*i.size)=Array.map (fun m=>z.cells[m % z.cells.size]!) (Array.range<|len*i.size):=by simp[h0]
    rw[y,h1];simp only[zd,Cv,zc,ze]
   ·simp only[h0,vg,zd,r,zc,ze,h1,Cv]
  ·simp only[Ac];exact⟨_,n,len,hpn,rfl,zg _,zg _,fun _=>rfl,by simp⟩
end
end Go.Det
