import Derived.Scope
import Derived.Laws.Sem
import Derived.KernelRfl
import Derived.Laws.Strings
/- A part of a proof; no law is stated here. -/
abbrev Z:=List UInt8
abbrev w4:=@decide_eq_true
abbrev w5:=@decide_eq_true_eq
abbrev w6:=@of_decide_eq_true
abbrev w7:=@of_decide_eq_false
abbrev w8:=@decide_eq_false
abbrev w9:=@decide_eq_false_iff_not
abbrev wc:=@if_neg
abbrev wd:=@if_pos
abbrev we:=@cond_true
abbrev wg:=@cond_false
abbrev wh:=@absurd
abbrev wi:=@congrArg
abbrev wj:=@beq_iff_eq
abbrev wk:=@if_true
abbrev wm:=@ne_eq
abbrev vc:=@beq_eq_false_iff_ne
abbrev ve:=@and_true
abbrev vf:=@and_self
abbrev vg:=@if_false
noncomputable section
open Go.Result renaming andThen_ok -> zc
open Go.Sem renaming run_bind -> zd, run_pure -> ze
open List renaming getElem?_eq_some_iff -> zf, getElem?_append_left -> zi, getElem?_take_of_lt -> zk, getLast?_cons_cons -> zo, getElem?_range -> z8, getElem?_eq_getElem -> ya, getElem?_map -> yc, getD -> yf, mem_cons -> yg, mem_cons_of_mem -> yh, getElem?_drop -> yn, mem_cons_self -> yo, length_cons -> yu, length_take -> yv, rec -> yw, length_eq_zero_iff -> yx, drop_eq_nil_of_le -> yz
open Nat renaming le_refl -> zg, beq -> zt, ble -> zu, le_of_ble_eq_true -> yd, ble_eq_true_of_le -> ye, ble_eq -> yq, blt -> y7, min_eq_left -> y9, zero_le -> qd, add -> qe, ne_of_lt -> qh, add_zero -> qj
open Option.some renaming injEq -> zh
open Array renaming getElem?_setIfInBounds_ne -> zj, getElem?_eq_some_iff -> zx, getElem?_push -> yj, ext_getElem? -> yp
open Go.Value renaming cells -> zl
open Bool renaming false_eq_true -> zm, and_eq_true -> zw
open Option renaming map_eq_some_iff -> zn, isSome_none -> z6, map_some -> yi, getD_some -> yy
open Go.Instr renaming sliceAt -> zp, sliceBounds -> zr, sureAddr -> yb, slice -> yt
open Int renaming mul_le_mul_of_nonneg_left -> zq, ofNat_eq_natCast -> zy, toNat_natCast -> z7, pow_succ -> yk, add_mul_emod_self_left -> ym, mul_add -> qc, mul_comm -> qg
open BitVec renaming ofInt -> zz
open UInt8 renaming ofNat -> yr
open Go.Op renaming bytesLess -> y8, equal -> qi
open ByteArray renaming ext -> qf
theorem ae{p:Prop}(h:p:=by omega):p:=h
theorem af{p:Prop}(h:p:=by decide):p:=h
theorem ag{p:Prop}(h:p:=by kernel_rfl):p:=h
namespace Go.Sp
def val(b:Int):List Int->Int
 |[]=>0
 |d::r=>d+b*val b r
def Az(b:Int)(l:List Int):Prop:=∀d∈l,0<=d/\d<b
def nz(l:List Int):Prop:=l.getLast?≠some 0
def YH(b:Nat):Nat->Nat->List Int
 |0,_=>[]
 |f+1,n=>if n=0 then[]else((n % b:Nat):Int)::YH b f (n/b)
def dg(b:Nat)(n:Int):List Int:=YH b n.toNat n.toNat
def Ay:List Int->List Int
 |[]=>[]
 |d::r=>match Ay r with
  |[]=>if d=0 then[]else[d]
  |s=>d::s
theorem AD{b:Int}(a:0<=b):∀ {l:List Int},Az b l->0<=val b l
 |[],_=>Int.le_refl _
 |d::r,h=>by
  have f:=(h d<|by simp).1;have c:=AD a (l:=r) fun x e=>h x (by simp[e])
  have:=Int.mul_nonneg a c;unfold val;omega
theorem De(b:Int):∀(l r:List Int),val b (l++r)=val b l+b^l.length*val b r
 |[],r=>by simp[val]
 |d::l,r=>by
  rw[List.cons_append,val,De b l r,val,yu,yk,qc,Int.add_assoc, <-Int.mul_assoc,qg b<|b^l.length]
theorem Nr(b:Int):∀n,val b (List.replicate n 0)=0
 |0=>rfl
 |n+1=>by rw[List.replicate_succ,val,Nr b n];simp
theorem Bz{b:Int}(e:0<b):∀ {l:List Int},Az b l->val b l<b^l.length
 |[],_=>by simp[val]
 |d::r,h=>by
  have g:=(h d<|by simp).2;have f:=Bz e (l:=r) fun x a=>h x (by simp[a])
  have c:b*val b r<=b*(b^r.length-1):=zq ae ae;rw[val,yu,yk,qg (b^r.length) b];rw[Int.mul_sub,Int.mul_one]at c;omega
theorem JR(b:Int):∀l,val b (Ay l)=val b l
 |[]=>rfl
 |d::r=>by
  have a:=JR b r;unfold Ay;split
  ·rename_i h;rw[h]at a;have a:val b r=0:=a.symm;split
   ·rename_i h0;show(0:Int)=d+b*val b r;rw[a,h0];simp
   ·show d+b*(0:Int)=d+b*val b r;rw[a]
  ·rw[val,val,a]
theorem Ir{b:Int}:∀ {l:List Int},Az b l->Az b (Ay l)
 |[],h=>h
 |d::r,h=>by
  have e:=Ir (l:=r) fun x a=>h x (by simp[a])
  have c:=h d (by simp);unfold Ay;split
  ·split
   ·intro x a;cases a
   ·intro x a;rw[List.mem_singleton.1 a];exact c
  ·rename_i s f;intro x a;rcases yg.1 a with rfl|a
   ·exact c
   ·exact e x a
theorem Lh:∀l:List Int,nz<|Ay l
 |[]=>by simp[nz,Ay]
 |d::r=>by
  have b:=Lh r;unfold Ay;split
  ·split
   ·simp[nz]
   ·rename_i h;simp[nz,h]
  ·rename_i s c;unfold nz at b ⊢;cases hr:Ay r with
   |nil=>exact wh hr c
   |cons a t=>rw[hr]at b;rw[zo];exact b
theorem Jw:∀ {l:List Int},nz l->Ay l=l
 |[],_=>rfl
 |d::r,h=>by
  unfold Ay;cases r with
  |nil=>
   have:d≠0:=by simpa [nz]using h
   simp[Ay,this]
  |cons a t=>
   have:nz (a::t):=by unfold nz at h ⊢;rwa [zo]at h
   rw[Jw this]
theorem J7{b:Int}(e:0<b):∀ {l:List Int},Az b l->nz l->l≠[]->0<val b l
 |[],_,_,h=>wh rfl h
 |d::r,h,c,_=>by
  have i:=(h d<|by simp).1;have hr:Az b r:=fun x f=>h x (by simp[f])
  have g:=AD ae hr;unfold val;cases r with
  |nil=>
   have:d≠0:=by simpa [nz]using c
   simp[val];omega
  |cons a t=>
   have:=J7 e hr (by unfold nz at c ⊢;rwa [zo]at c) (by simp);have:=Int.mul_pos e this;omega
theorem val_inj{b:Int}(g:0<b):∀ {l r:List Int},Az b l->Az b r->nz l->nz r->val b l=val b r->l=r
 |[],[],_,_,_,_,_=>rfl
 |[],x::r,_,c,_,f,h=>by have:=J7 g c f (by simp);rw[<-h]at this;simp[val]at this
 |x::l,[],d,_,n1,_,h=>by have:=J7 g d n1 (by simp);rw[h]at this;simp[val]at this
 |x::l,y::r,d,c,n1,f,h=>by
  have a1:=d x (by simp);have a2:=c y (by simp);unfold val at h;have n:x=y:=by
   have j:(x+b*val b l) % b=(y+b*val b r) % b:=by rw[h]
   rw[ym,ym,Int.emod_eq_of_lt a1.1 a1.2,Int.emod_eq_of_lt a2.1 a2.2]at j;exact j
  subst n;have m:val b l=val b r:=by
   have k:b*val b l=b*val b r:=ae
   exact Int.eq_of_mul_eq_mul_left ae k
  have t1:∀ {x:Int} {l:List Int},nz (x::l)->nz l:=by
   intro x l i;cases l with
   |nil=>simp[nz]
   |cons a t=>unfold nz at i ⊢;rwa [zo]at i
  rw[val_inj g (fun z e=>d z<|by simp[e]) (fun z e=>c z<|by simp[e]) (t1 n1) (t1 f) m]
theorem T3(b:Nat)(c:2<=b):∀f n,n<=f->val b (YH b f n)=n
 |0,n,h=>by simp[YH,val];omega
 |f+1,n,h=>by
  unfold YH;split
  ·rename_i h0;subst h0;rfl
  ·rename_i h0;have d:n/b<=f:=by
    have:n/b<n:=Nat.div_lt_self ae c;omega
   rw[val,T3 b c f (n/b) d];have:=Nat.mod_add_div n b;have a:((n % b+b*(n/b):Nat):Int)=(n:Int):=by rw[this]
   push_cast at a ⊢
   exact a
theorem V6(b:Nat)(c:2<=b):∀f n,Az b<|YH b f n
 |0,n=>by intro x a;cases a
 |f+1,n=>by
  unfold YH;split
  ·intro x a;cases a
  ·intro x a;rcases yg.1 a with rfl|a
   ·have:=Nat.mod_lt n (show 0<b by omega);omega
   ·exact V6 b c f (n/b) x a
theorem gD(b:Nat)(e:2<=b):∀f n,n<=f->nz (YH b f n)
 |0,n,_=>by simp[YH,nz]
 |f+1,n,h=>by
  unfold YH;split
  ·simp[nz]
  ·rename_i h0;have g:n/b<=f:=by
    have:n/b<n:=Nat.div_lt_self ae e;omega
   have d:=gD b e f (n/b) g;cases hr:YH b f (n/b)with
   |nil=>
    have c:=T3 b e f (n/b) g;rw[hr]at c;have c:n/b=0:=by
     have:((n/b:Nat):Int)=0:=by rw[<-c];rfl
     exact_mod_cast this
    have i:n % b=n:=Nat.mod_eq_of_lt ((Nat.div_eq_zero_iff_lt ae).1 c);simp[nz];omega
   |cons a t=>rw[hr]at d;unfold nz at d ⊢;rw[zo];exact d
theorem Db{b:Nat}(a:2<=b){n:Int}(c:0<=n):val b (dg b n)=n:=by
 unfold dg;rw[T3 b a _ _<|zg _];omega
theorem F6{b:Nat}(a:2<=b)(n:Int):Az b (dg b n):=V6 b a _ _
theorem aO{b:Nat}(a:2<=b)(n:Int):nz (dg b n):=gD b a _ _<|zg _
theorem Jt{b:Nat}(a:2<=b){l:List Int}(c:Az b l)(d:nz l):l=dg b (val b l):=
 val_inj ae c (F6 a _) d (aO a _) (Db a<|AD ae c).symm
theorem Zn{b:Nat}(c:2<=b){l:List Int}(a:Az b l):Ay l=dg b (val b l):=by
 rw[<-JR];exact Jt c (Ir a)<|Lh l
theorem oD{b:Nat}(c:2<=b){n:Int}(a:0<=n):dg b n=[]↔n=0:=by
 constructor
 ·intro h;have:=Db c a;rw[h]at this;simpa [val]using this.symm
 ·rintro rfl;rfl
theorem IW:∀l:List Int,Ay (l++[0])=Ay l
 |[]=>rfl
 |d::r=>by
  rw[List.cons_append];unfold Ay;rw[IW r]
theorem YL{l:List Int}{d:Int}(h:d≠0):nz (l++[d]):=by
 unfold nz;rw[List.getLast?_append];simp[h]
theorem xO{x:Int}{l:List Int}(b:nz (x::l)):nz l:=by
 cases l with
 |nil=>simp[nz]
 |cons a t=>unfold nz at b ⊢;rwa [zo]at b
theorem DF{b:Int}(c:0<b):∀ {l:List Int},Az b l->nz l->l≠[]->b^(l.length-1)<=val b l
 |[],_,_,h=>wh rfl h
 |[d],h,a,_=>by
  have:=J7 c h a (by simp);simp at this ⊢;omega
 |d::e::r,h,a,_=>by
  have j:=(h d<|by simp).1;have i:=DF c (l:=e::r) (fun x f=>h x<|by simp[f]) (xO a) (by simp);have g:(d::e::r).length-1=((e::r).length-1)+1:=by simp
  rw[g,yk,qg];have:=zq i (show 0<=b by omega);unfold val;omega
theorem AU{b:Int}(a:0<b):∀n:Nat,0<b^n
 |0=>by simp
 |n+1=>by rw[yk];exact Int.mul_pos (AU a n) a
theorem AQ{b:Int}(c:1<=b){m n:Nat}(h:m<=n):b^m<=b^n:=by
 obtain⟨k,rfl⟩:=Nat.exists_eq_add_of_le h;induction k with
 |zero=>exact Int.le_refl _
 |succ k a=>
  have:=a ae;rw[show m+(k+1)=(m+k)+1 from rfl,yk];have hp:=AU (show 0<b by omega)<|m+k;have:=zq c (show 0<=b^(m+k)by omega);rw[Int.mul_one]at this;omega
theorem E6{b:Int}(e:2<=b){l r:List Int}(c:Az b l)(a:Az b r)(d:nz r)(h:l.length<r.length):val b l<val b r:=by
 have a1:=Bz ae c;have a2:=DF ae a d (by rintro rfl;simp at h);have:=AQ (show 1<=b by omega) (show l.length<=r.length-1 by omega);omega
theorem AS{b:Int}{l:List Int}(h:Az b l)(i:Nat):Az b (l.take i):=fun d a=>h d<|List.mem_of_mem_take a
theorem E9{b:Int}{l:List Int}(h:Az b l)(i:Nat):Az b (l.drop i):=fun d a=>h d<|List.mem_of_mem_drop a
theorem Cy(b:Int)(l:List Int)(i:Nat)(h:i<=l.length):val b l=val b (l.take i)+b^i*val b (l.drop i):=by
 conv=>lhs;rw[<-List.take_append_drop i l]
 rw[De,yv,y9 h]
theorem JY{b:Int}(k:2<=b){l r:List Int}{x y:Int}{s:List Int}{i:Nat}(g:Az b l)(hr:Az b r)(c:l.drop i=x::s)(a:r.drop i=y::s)(h:x<y):val b l<val b r:=by
 have d:i<=l.length:=by
  rcases Nat.lt_or_ge l.length i with h|h
  ·rw[yz ae]at c;cases c
  ·exact h
 have i2:i<=r.length:=by
  rcases Nat.lt_or_ge r.length i with h|h
  ·rw[yz ae]at a;cases a
  ·exact h
 have a1:=Bz ae<|AS g i;have a2:=AD (show 0<=b by omega)<|AS hr i;rw[yv,y9 d]at a1;rw[Cy b l i d,Cy b r i i2,c,a,show val b (x::s)=x+b*val b s from rfl,show val b (y::s)=y+b*val b s from rfl];have hp:=AU (show 0<b by omega) i;have f:b^i*(x+b*val b s)=b^i*x+b^i*(b*val b s):=qc _ _ _;have e:b^i*(y+b*val b s)=b^i*y+b^i*(b*val b s):=qc _ _ _;have j:b^i*(x+1)<=b^i*y:=zq ae ae;rw[qc,Int.mul_one]at j;rw[f,e];omega
theorem Oy(b:Nat)(a:2<=b):∀(k f n:Nat),n<b^k->(YH b f n).length<=k
 |k,0,n,_=>by simp[YH]
 |0,f+1,n,h=>by
  have:n=0:=by simpa using h
  subst this;simp[YH]
 |k+1,f+1,n,h=>by
  unfold YH;split
  ·simp
  ·have:n/b<b^k:=by
    rw[Nat.pow_succ]at h;exact Nat.div_lt_of_lt_mul (by rw[Nat.mul_comm];exact h)
   have:=Oy b a k f (n/b) this;simp;omega
end Go.Sp
namespace Go.Det
section
inductive PM (α:Type) where
 |leaf
 |node (l:PM α) (v:Option α) (r:PM α)
inductive Hy where
 |here
 |l (p:Hy)
 |r (p:Hy)
variable {α:Type}
def uE(f:Nat):Nat->Hy:=
 @Nat.rec (fun _=>Nat->Hy) (fun _=>.here) (fun _ a i=>bif zt i 0 then .here else bif zt (Nat.mod i 2) 1 then .l (a<|Nat.div i 2)else .r<|a<|Nat.sub (Nat.div i 2) 1) f
def pth(i:Nat):Hy:=uE i i
def Hy.get(p:Hy):PM α->Option α:=
 @Hy.rec (fun _=>PM α->Option α)
  (fun m=>@PM.rec α (fun _=>Option α) none (fun _ v _ _ _=>v) m)
  (fun _ a m=>@PM.rec α (fun _=>Option α) none (fun l _ _ _ _=>a l) m)
  (fun _ a m=>@PM.rec α (fun _=>Option α) none (fun _ _ r _ _=>a r) m) p
def Hy.set(p:Hy):PM α->Option α->PM α:=
 @Hy.rec (fun _=>PM α->Option α->PM α)
  (fun m v=>@PM.rec α (fun _=>PM α) (.node .leaf v .leaf) (fun l _ r _ _=>.node l v r) m)
  (fun _ a m v=>@PM.rec α (fun _=>PM α) (.node (a .leaf v) none .leaf) (fun l x r _ _=>.node (a l v) x r) m)
  (fun _ a m v=>@PM.rec α (fun _=>PM α) (.node .leaf none<|a .leaf v) (fun l x r _ _=>.node l x<|a r v) m) p
def PM.get(m:PM α)(i:Nat):Option α:=(pth i).get m
def PM.set(m:PM α)(i:Nat)(v:Option α):PM α:=(pth i).set m v
theorem Bw(a b:Nat):zt a b=decide (a=b):=by
 by_cases h:a=b
 ·subst h;simp
 ·rw[w8 h];cases e:zt a b with
  |false=>rfl
  |true=>exact wh (Nat.eq_of_beq_eq_true e) h
def Hy.num:Hy->Nat
 | .here=>0
 | .l p=>2*p.num+1
 | .r p=>2*(p.num+1)
theorem Ms:∀(f i:Nat),i<=f->(uE f i).num=i
 |0,i,h=>by cases Nat.le_zero.1 h;rfl
 |f+1,i,h=>by
  show Hy.num (bif zt i 0 then .here else bif zt (i % 2) 1 then .l (uE f<|i/2)else .r<|uE f<|i/2-1)=i;simp only[Bw];by_cases h0:i=0
  ·subst h0;rfl
  ·by_cases a:i % 2=1
   ·simp only[h0,a,decide_false,decide_true,wg,we,Hy.num];rw[Ms f (i/2) ae];omega
   ·simp only[h0,a,decide_false,wg,Hy.num];rw[Ms f (i/2-1) ae];omega
theorem wV{i j:Nat}(h:pth i=pth j):i=j:=by
 have:=wi Hy.num h;unfold pth at this;rwa [Ms i i<|zg _,Ms j j<|zg _]at this
theorem Hy.DB(p:Hy):p.get (.leaf:PM α)=none:=by cases p<;>rfl
theorem Hy.get_set_same:∀(p:Hy) (m:PM α) (v:Option α),p.get (p.set m v)=v
 | .here,m,v=>by cases m<;>rfl
 | .l p,m,v=>by
  cases m with
  |leaf=>exact Hy.get_set_same p .leaf v
  |node l x r=>exact Hy.get_set_same p l v
 | .r p,m,v=>by
  cases m with
  |leaf=>exact Hy.get_set_same p .leaf v
  |node l x r=>exact Hy.get_set_same p r v
theorem Hy.Gw:∀(p q:Hy) (m:PM α) (v:Option α),q≠p->q.get (p.set m v)=q.get m
 | .here,.here,m,v,h=>wh rfl h
 | .here,.l q,m,v,_=>by
  cases m with
  |leaf=>exact q.DB
  |node l x r=>rfl
 | .here,.r q,m,v,_=>by
  cases m with
  |leaf=>exact q.DB
  |node l x r=>rfl
 | .l p,.here,m,v,_=>by cases m<;>rfl
 | .r p,.here,m,v,_=>by cases m<;>rfl
 | .l p,.r q,m,v,_=>by
  cases m with
  |leaf=>exact q.DB
  |node l x r=>rfl
 | .r p,.l q,m,v,_=>by
  cases m with
  |leaf=>exact q.DB
  |node l x r=>rfl
 | .l p,.l q,m,v,h=>by
  have h':q≠p:=fun e=>h (by rw[e])
  cases m with
  |leaf=>exact(Hy.Gw p q .leaf v h').trans q.DB
  |node l x r=>exact Hy.Gw p q l v h'
 | .r p,.r q,m,v,h=>by
  have h':q≠p:=fun e=>h (by rw[e])
  cases m with
  |leaf=>exact(Hy.Gw p q .leaf v h').trans q.DB
  |node l x r=>exact Hy.Gw p q r v h'
@[simp] theorem PM.Dq(m:PM α)(i:Nat)(v:Option α)(j:Nat):(m.set i v).get j=if j=i then v else m.get j:=by
 unfold PM.get PM.set;by_cases e:j=i
 ·subst e;rw[wd rfl];exact Hy.get_set_same _ _ _
 ·rw[wc e];exact Hy.Gw _ _ _ _<|fun h=>e<|wV h
@[simp] theorem PM.DB(j:Nat):(PM.leaf:PM α).get j=none:=Hy.DB _
def ET(l:List α):Nat:=@yw α (fun _=>Nat) 0 (fun _ _ a=>qe a 1) l
theorem Da(l:List α):ET l=l.length:=by
 induction l with
 |nil=>rfl
 |cons a l b=>show qe (ET l) 1=_;rw[b];rfl
def Kj(n:Nat):List α->List α:=
 @Nat.rec (fun _=>List α->List α) (fun l=>l) (fun _ b l=>@yw α (fun _=>List α) [] (fun _ a _=>b a) l) n
theorem QO:∀(n:Nat) (l:List α),Kj n l=l.drop n
 |0,_l=>rfl
 |_n+1,[]=>rfl
 |n+1,_a::l=>QO n l
def Zr(n:Nat):List α->List α:=
 @Nat.rec (fun _=>List α->List α) (fun _=>[]) (fun _ c l=>@yw α (fun _=>List α) [] (fun a b _=>a::c b) l) n
theorem Qh:∀(n:Nat) (l:List α),Zr n l=l.take n
 |0,_l=>rfl
 |_n+1,[]=>rfl
 |n+1,a::l=>wi (a:: ·)<|Qh n l
def Kh(vs:List α):List α->List α:=
 @yw α (fun _=>List α->List α) (fun l=>l) (fun v _ b l=>@yw α (fun _=>List α) [] (fun _ a _=>v::b a) l) vs
def CJ(n:Nat)(vs:List α):List α->List α:=
 @Nat.rec (fun _=>List α->List α) (fun l=>Kh vs l) (fun _ c l=>@yw α (fun _=>List α) [] (fun a b _=>a::c b) l) n
def LZ(f:α->Bool)(l:List α):Bool:=@yw α (fun _=>Bool) true (fun a _ b=>bif f a then b else false) l
theorem F4(f:α->Bool):∀l:List α,LZ f l=l.all f
 |[]=>rfl
 |a::l=>by
  show(bif f a then LZ f l else false)=_;rw[F4 f l,List.all_cons];cases f a<;>rfl
inductive V where
 |bool (b:Bool)
 |int (k:IntKind) (n:Int)
 |str (s:Z)
 |nilp
 |ptr (b off:Nat)
 |nils
 |sl (b off len cap o:Nat)
 |esl
 |es0
 |junk
 |nilm
 |map (b:Nat)
 |fn (f:Fn) (first captured:List V)
 |yld (b:Nat)
 |nilf
 |iface (t:TypeId) (v:V)
 |nili
 |agg (cs:List V)
 |tup (vs:List V)
 deriving Inhabited
abbrev Pl:=List<|Nat×Nat
def bytesOf(s:Z):ByteArray:=⟨s.toArray⟩
mutual
def Ac(p:Pl):V->Value->Prop
 | .bool b,v=>v=.bool b
 | .int k n,v=>v=.int k n
 | .str s,v=>v=.string (bytesOf s)
 | .nilp,v=>v=.pointer none
 | .ptr b off,v=>∃r n,p[b]?=some (r,n)/\v=.pointer (some ⟨r,off,none⟩)
 | .nils,v=>v=.slice none 0 0
 | .sl b off len cap o,v=>∃r n c,p[b]?=some (r,n)/\v=.slice (some ⟨r,off,none⟩) len c/\len<=cap/\cap<=c/\(o=0->c=cap)/\(o≠0->off+c*o<=n)
 | .esl,v=>∃a c,v=.slice (some a) 0 c
 | .es0,v=>∃a,v=.slice (some a) 0 0
 | .junk,_=>False
 | .nilm,v=>v=.map none
 | .map b,v=>∃r n,p[b]?=some (r,n)/\v=.map (some r)
 | .fn f first captured,v=>∃x y,v=.func f x y/\Ax p first x.toList/\Ax p captured y.toList
 | .yld b,v=>∃r n,p[b]?=some (r,n)/\v=.func (.yield r) #[] #[]
 | .nilf,v=>v=.nilFunc
 | .iface t x,v=>∃y,v=.iface t y/\Ac p x y
 | .nili,v=>v=.nilIface
 | .agg cs,v=>∃x,v=.agg x/\Ax p cs x.toList
 | .tup cs,v=>∃x,v=.tuple x/\Ax p cs x.toList
def Ax(p:Pl):List V->List Value->Prop
 |[],l=>l=[]
 |d::ds,l=>∃v vs,l=v::vs/\Ac p d v/\Ax p ds vs
end
@[simp] theorem HA(p:Pl)(l:List Value):Ax p [] l↔l=[]:=by simp[Ax]
@[simp] theorem Bk(p:Pl)(d:V)(ds:List V)(v:Value)(vs:List Value):Ax p (d::ds) (v::vs)↔Ac p d v/\Ax p ds vs:=by
 simp only[Ax];constructor
 ·rintro⟨_,_,h,b,a⟩;cases h;exact⟨b,a⟩
 ·rintro⟨b,a⟩;exact⟨v,vs,rfl,b,a⟩
@[simp] theorem pZ(p:Pl)(d:V)(ds:List V):¬Ax p (d::ds) []:=by
 simp[Ax]
theorem Ax.length{p:Pl}:∀ {ds:List V} {vs:List Value},Ax p ds vs->ds.length=vs.length
 |[],vs,h=>by simp at h;simp[h]
 |d::ds,[],h=>by simp at h
 |d::ds,v::vs,h=>by simp at h;simp[h.2.length]
theorem Ax.get{p:Pl}:∀ {ds:List V} {vs:List Value},Ax p ds vs->∀ {i:Nat} {d:V},ds[i]?=some d->∃v,vs[i]?=some v/\Ac p d v
 |[],vs,_,i,d,a=>by simp at a
 |d::ds,[],h,_,_,_=>by simp at h
 |d::ds,v::vs,h,i,x,a=>by
  simp at h;cases i with
  |zero=>simp at a;subst a;exact⟨v,rfl,h.1⟩
  |succ i=>simp at a;simpa using h.2.get a
theorem Ax.mk{p:Pl}:∀ {ds:List V} {vs:List Value},ds.length=vs.length->(∀(i:Nat) d v,ds[i]?=some d->vs[i]?=some v->Ac p d v)->Ax p ds vs
 |[],[],_,_=>by simp
 |[],_::_,h,_=>by simp at h
 |_::_,[],h,_=>by simp at h
 |d::ds,v::vs,h,a=>by
  simp at h;rw[Bk];exact⟨a 0 d v rfl rfl,Ax.mk h<|fun i e v' c b=>a (i+1) e v' (by simpa using c)<|by simpa using b⟩
theorem Ax.append{p:Pl}:∀ {a:List V} {x:List Value} {b:List V} {y:List Value},Ax p a x->Ax p b y->Ax p (a++b) (x++y)
 |[],x,b,y,h,h'=>by simp at h;subst h;simpa using h'
 |d::ds,[],_,_,h,_=>by simp at h
 |d::ds,v::vs,b,y,h,h'=>by simp at h;simp[h.1,h.2.append h']
theorem Ax.take{p:Pl}:∀ {a:List V} {x:List Value} (n:Nat),Ax p a x->Ax p (a.take n) (x.take n)
 |[],x,n,h=>by simp at h;subst h;simp
 |d::ds,[],_,h=>by simp at h
 |d::ds,v::vs,0,h=>by simp
 |d::ds,v::vs,n+1,h=>by simp at h;simp[h.1,h.2.take n]
theorem Ax.drop{p:Pl}:∀ {a:List V} {x:List Value} (n:Nat),Ax p a x->Ax p (a.drop n) (x.drop n)
 |[],x,n,h=>by simp at h;subst h;simp
 |d::ds,[],_,h=>by simp at h
 |d::ds,v::vs,0,h=>by simpa using h
 |d::ds,v::vs,n+1,h=>by simp at h;simpa using h.2.drop n
theorem Ax.set{p:Pl}:∀ {a:List V} {x:List Value} (i:Nat) {d:V} {v:Value},Ax p a x->Ac p d v->Ax p (a.set i d) (x.set i v)
 |[],x,n,_,_,h,_=>by simp at h;subst h;simp
 |d::ds,[],_,_,_,h,_=>by simp at h
 |d::ds,v::vs,0,_,_,h,h'=>by simp at h;simp[h.2,h']
 |d::ds,v::vs,n+1,_,_,h,h'=>by simp at h;simp[h.1,h.2.set n h']
mutual
theorem Ac.mono{p:Pl}(q:Pl):∀ {d:V} {v:Value},Ac p d v->Ac (p++q) d v
 | .bool _,_,h=>by simpa [Ac]using h
 | .int _ _,_,h=>by simpa [Ac]using h
 | .str _,_,h=>by simpa [Ac]using h
 | .nilp,_,h=>by simpa [Ac]using h
 | .ptr b off,v,h=>by
  simp only[Ac]at h ⊢;obtain⟨r,n,e,g⟩:=h;exact⟨r,n,by rw[zi (by have:=(zf.1 e).1;omega)];exact e,g⟩
 | .nils,_,h=>by simpa [Ac]using h
 | .sl b off len cap o,v,h=>by
  simp only[Ac]at h ⊢;obtain⟨r,n,c,e,g⟩:=h;exact⟨r,n,c,by rw[zi (by have:=(zf.1 e).1;omega)];exact e,g⟩
 | .esl,_,h=>by simpa [Ac]using h
 | .es0,_,h=>by simpa [Ac]using h
 | .junk,_,h=>by simp[Ac]at h
 | .nilm,_,h=>by simpa [Ac]using h
 | .map b,v,h=>by
  simp only[Ac]at h ⊢;obtain⟨r,n,e,g⟩:=h;exact⟨r,n,by rw[zi (by have:=(zf.1 e).1;omega)];exact e,g⟩
 | .fn f a b,v,h=>by
  simp only[Ac]at h ⊢;obtain⟨x,y,rfl,e,g⟩:=h;exact⟨x,y,rfl,Ax.mono q e,Ax.mono q g⟩
 | .yld b,v,h=>by
  simp only[Ac]at h ⊢;obtain⟨r,n,e,g⟩:=h;exact⟨r,n,by rw[zi (by have:=(zf.1 e).1;omega)];exact e,g⟩
 | .nilf,_,h=>by simpa [Ac]using h
 | .iface t x,v,h=>by
  simp only[Ac]at h ⊢;obtain⟨y,rfl,e⟩:=h;exact⟨y,rfl,Ac.mono q e⟩
 | .nili,_,h=>by simpa [Ac]using h
 | .agg cs,v,h=>by
  simp only[Ac]at h ⊢;obtain⟨x,rfl,e⟩:=h;exact⟨x,rfl,Ax.mono q e⟩
 | .tup cs,v,h=>by
  simp only[Ac]at h ⊢;obtain⟨x,rfl,e⟩:=h;exact⟨x,rfl,Ax.mono q e⟩
theorem Ax.mono{p:Pl}(q:Pl):∀ {ds:List V} {vs:List Value},Ax p ds vs->Ax (p++q) ds vs
 |[],_,h=>by simpa using h
 |_::_,[],h=>by simp at h
 |d::ds,v::vs,h=>by simp only[Bk]at h ⊢;exact⟨Ac.mono q h.1,Ax.mono q h.2⟩
end
structure Fr where
 n:Nat
 m:PM V
def Fr.get(f:Fr)(t:Nat):V:=(f.m.get t).getD<|.tup []
def Fr.put(f:Fr)(d:Option Nat)(v:V):Option Fr:=
 match d with
 |none=>some f
 |some t=>bif y7 t f.n then some ⟨f.n,f.m.set t<|some v⟩else none
def FE(p:Pl)(f:Fr)(tmps:Array Value):Prop:=f.n=tmps.size/\∀t,Ac p (f.get t)<|tmps.getD t undef
def CR(p:Pl)(f:Fr)(a:Act):Prop:=f.n=a.tmps.size/\∀t,Ac p (f.get t)<|a.tmps.getD t undef
theorem FE.mono{p:Pl}(q:Pl){f:Fr}{tmps:Array Value}(h:FE p f tmps):FE (p++q) f tmps:=⟨h.1,fun t=>(h.2 t).mono q⟩
structure LS where
 st:LoopState
 pend:Option Code
 fr:Fr
 ps:Array Tmp
 asg:Code
 body:Code
 db:Nat
inductive O where
 |cells (cs:List V) (elem:TypeId) (fz:Nat×Nat)
 |map (es:List (V×V×Nat)) (clock:Nat)
 |siter (s:Z) (pos:Nat)
 |miter (b:Option Nat) (since:Nat) (seen:List Nat) (last:Nat)
 |loop (l:LS)
 |defd (open_:Bool)
structure H where
 m:PM O
 nx:Nat
def H.get(h:H)(b:Nat):Option O:=h.m.get b
def H.push(h:H)(o:O):H:=⟨h.m.set h.nx<|some o,h.nx+1⟩
def H.put(h:H)(b:Nat)(o:O):H:=⟨h.m.set b<|some o,h.nx⟩
def H.kill(h:H)(b:Nat):H:=⟨h.m.set b none,h.nx⟩
@[simp] theorem H.BV(h:H)(o:O)(b:Nat):(h.push o).get b=if b=h.nx then some o else h.get b:=by simp[H.push,H.get]
@[simp] theorem H.Bt(h:H)(b:Nat)(o:O)(j:Nat):(h.put b o).get j=if j=b then some o else h.get j:=by simp[H.put,H.get]
@[simp] theorem H.Cr(h:H)(b:Nat)(j:Nat):(h.kill b).get j=if j=b then none else h.get j:=by simp[H.kill,H.get]
@[simp] theorem H.AeH(h:H)(o:O):(h.push o).nx=h.nx+1:=rfl
@[simp] theorem H.Ae3(h:H)(b:Nat)(o:O):(h.put b o).nx=h.nx:=rfl
@[simp] theorem H.ZX(h:H)(b:Nat):(h.kill b).nx=h.nx:=rfl
inductive DW (p:Pl):List (V×V×Nat)->List MapEntry->Prop
 |nil:DW p [] []
 |cons {k v:V} {b:Nat} {es:List (V×V×Nat)} {e:MapEntry} {l:List MapEntry}:Ac p k e.key->Ac p v e.val->e.born=b->DW p es l->DW p ((k,v,b)::es) (e::l)
def V.ok:V->Bool
 | .junk=>false
 |_=>true
def EM(p:Pl)(cs:List V)(vs:List Value):Prop:=cs.length=vs.length/\∀(i:Nat) d v,cs[i]?=some d->vs[i]?=some v->d.ok=true->Ac p d v
theorem Ax.toC{p:Pl}{cs:List V}{vs:List Value}(h:Ax p cs vs):EM p cs vs:=⟨h.length,fun i d v c b _=>by
 obtain⟨u,a,e⟩:=h.get c;rw[b]at a;cases a;exact e⟩
theorem EM.get{p:Pl}{cs:List V}{vs:List Value}(h:EM p cs vs){i:Nat}{d:V}(a:cs[i]?=some d)(c:d.ok=true):∃v,vs[i]?=some v/\Ac p d v:=by
 have b:i<vs.length:=by rw[<-h.1];exact(zf.1 a).1
 exact⟨vs[i],ya b,h.2 i d _ a (ya b) c⟩
theorem EM.drop{p:Pl}{cs:List V}{vs:List Value}(h:EM p cs vs)(n:Nat):EM p (cs.drop n) (vs.drop n):=
 ⟨by simp[h.1],fun i d v b a=>h.2 (n+i) d v (by rwa [yn]at b)<|by rwa [yn]at a⟩
theorem EM.take{p:Pl}{cs:List V}{vs:List Value}(h:EM p cs vs)(n:Nat):EM p (cs.take n) (vs.take n):=
 ⟨by simp[h.1],fun i d v a b=>by
  have c:i<n:=by have:=(zf.1 a).1;simp at this;omega
  rw[zk c]at a b;exact h.2 i d v a b⟩
theorem EM.ON{p:Pl}{cs:List V}{vs:List Value}(h:EM p cs vs)(c:∀d∈cs,d.ok=true):Ax p cs vs:=
 Ax.mk h.1 fun i d v a b=>h.2 i d v a b<|c d<|List.mem_of_getElem? a
def Hl(p:Pl)(n:Nat):O->Obj->Prop
 | .cells cs t fz,o=>∃(c:Array Value) (fz':Nat×Nat),o=.cells c t fz'/\c.size=n/\cs.length<=n/\EM p cs (c.toList.take cs.length)/\∀i,i<n->fz'.1<=i->i<fz'.2->fz.1<=i/\i<fz.2
 | .map es clock,o=>∃l:Array MapEntry,o=.map l clock/\DW p es l.toList
 | .siter s pos,o=>o=.stringIter (bytesOf s) pos
 | .miter none since seen last,o=>o=.mapIter none since seen.toArray last
 | .miter (some b) since seen last,o=>∃r m,p[b]?=some (r,m)/\o=.mapIter (some r) since seen.toArray last
 | .loop l,o=>∃(fn:FuncId) (tmps:Array Value) (r m:Nat),FE p l.fr tmps/\p[l.db]?=some (r,m)/\o=.loop { state:=l.st,pending:=l.pend,fn,tmps,params:=l.ps,assign:=l.asg,body:=l.body,defers:=r }
 | .defd op,o=>o=.deferred (bif op then some []else none)
theorem EM.mono{p:Pl}(q:Pl){cs:List V}{vs:List Value}(h:EM p cs vs):EM (p++q) cs vs:=⟨h.1,fun i d v b a c=>(h.2 i d v b a c).mono q⟩
theorem DW.mono{p:Pl}(q:Pl){es:List (V×V×Nat)}{l:List MapEntry}(h:DW p es l):DW (p++q) es l:=by
 induction h with
 |nil=>exact .nil
 |cons b a c _ d=>exact .cons (b.mono q) (a.mono q) c d
theorem Hl.mono{p:Pl}(q:Pl){n:Nat}{o:O}{x:Obj}(h:Hl p n o x):Hl (p++q) n o x:=by
 cases o with
 |cells cs t fz=>obtain⟨c,fz',a,d,g,e,f⟩:=h;exact⟨c,fz',a,d,g,e.mono q,f⟩
 |map es i=>obtain⟨l,a,d⟩:=h;exact⟨l,a,d.mono q⟩
 |siter s pos=>exact h
 |miter b since seen last=>
  cases b with
  |none=>exact h
  |some b=>
   obtain⟨r,m,a,d⟩:=h;exact⟨r,m,by rw[zi (zf.1 a).1];exact a,d⟩
 |loop l=>
  obtain⟨fn,tmps,r,m,h0,a,d⟩:=h;exact⟨fn,tmps,r,m,h0.mono q,by rw[zi (zf.1 a).1];exact a,d⟩
 |defd _=>exact h
structure R(p:Pl)(h:H)(w:World):Prop where
 len:p.length=h.nx
 obj:∀b o,h.get b=some o->∃r n x,p[b]?=some (r,n)/\w.heap[r]?=some x/\Hl p n o x
 inj:∀b b' o o' r n n',h.get b=some o->h.get b'=some o'->p[b]?=some (r,n)->p[b']?=some (r,n')->b=b'
def Im(p:Pl)(h:H)(r:Nat):Prop:=∃b o n,h.get b=some o/\p[b]?=some (r,n)
def Lk(n:Nat)(fz:Nat×Nat):Prop:=fz.1=0/\n<=fz.2/\0<fz.2
def Lkd(p:Pl)(h:H)(r:Nat):Prop:=∃b n cs t fz,h.get b=some (.cells cs t fz)/\p[b]?=some (r,n)/\Lk n fz
structure Ext(p:Pl)(h:H)(w:World)(p':Pl)(h':H)(w':World):Prop where
 pre:∃q,p'=p++q
 rel:R p' h' w'
 size:w.heap.size<=w'.heap.size
 same:∀r,r<w.heap.size->¬Im p h r->w'.heap[r]?=w.heap[r]?
 im:∀r,Im p' h' r->Im p h r\/w.heap.size<=r
 os:w'.os=w.os
 out:w'.output=w.output
 tape:w'.tape=w.tape
 lock:∀r,r<w.heap.size->Lkd p h r->w'.heap[r]?=w.heap[r]?/\(Lkd p' h' r\/¬Im p' h' r)
theorem Ext.refl{p:Pl}{h:H}{w:World}(hr:R p h w):Ext p h w p h w:=
 ⟨⟨[],by simp⟩,hr,zg _,fun _ _ _=>rfl,fun _ h=>.inl h,rfl,rfl,rfl,fun _ _ h=>⟨rfl,.inl h⟩⟩
theorem Ext.trans{p j e:Pl}{h f k:H}{w g i:World}(a:Ext p h w j f g)(b:Ext j f g e k i):Ext p h w e k i:=by
 obtain⟨q,s⟩:=a.pre;obtain⟨q',hq'⟩:=b.pre;refine⟨⟨q++q',by rw[hq',s,List.append_assoc]⟩,b.rel,Nat.le_trans a.size b.size,fun r hr n=>?_,fun r hr=>?_,b.os.trans a.os,b.out.trans a.out,b.tape.trans a.tape,fun r m v=>?_⟩
 ·rw[b.same r (Nat.lt_of_lt_of_le hr a.size) ?_,a.same r hr n];intro c;rcases a.im r c with l|l
  ·exact n l
  ·omega
 ·rcases b.im r hr with c|c
  ·exact a.im r c
  ·exact .inr<|Nat.le_trans a.size c
 ·obtain⟨o,c⟩:=a.lock r m v;have d:=Nat.lt_of_lt_of_le m a.size;rcases c with c|c
  ·obtain⟨t,l⟩:=b.lock r d c;exact⟨t.trans o,l⟩
  ·refine⟨(b.same r d c).trans o,.inr fun u=>?_⟩;rcases b.im r u with l|l
   ·exact c l
   ·omega
theorem Ext.kE{p p':Pl}{h h':H}{w w':World}(e:Ext p h w p' h' w'){d:V}{v:Value}(a:Ac p d v):Ac p' d v:=by
 obtain⟨q,rfl⟩:=e.pre;exact a.mono q
theorem Ext.drew{p:Pl}{h:H}{w:World}(hr:R p h w)(n:Nat):Ext p h w p h { w with drawn:=n }:=
 ⟨⟨[],by simp⟩,⟨hr.len,hr.obj,hr.inj⟩,zg _,fun _ _ _=>rfl,fun _ h=>.inl h,rfl,rfl,rfl,fun _ _ h=>⟨rfl,.inl h⟩⟩
theorem R.lt{p:Pl}{h:H}{w:World}(hr:R p h w){b:Nat}{o:O}(c:h.get b=some o):b<h.nx:=by
 obtain⟨r,n,x,a,_⟩:=hr.obj b o c;have:=(zf.1 a).1;have:=hr.len;omega
theorem R.YK{p:Pl}{h:H}{w:World}(hr:R p h w){r:Nat}(a:Im p h r):r<w.heap.size:=by
 obtain⟨b,o,n,d,c⟩:=a;obtain⟨r',n',x,h3,h4,_⟩:=hr.obj b o d;rw[c]at h3;cases h3;exact(zx.1 h4).1
theorem Ext.push{p:Pl}{h:H}{w:World}(hr:R p h w){o:O}{x:Obj}{n:Nat}(G:Hl p n o x):
  Ext p h w (p++[(w.heap.size,n)]) (h.push o) { w with heap:=w.heap.push x }:=by
 have D:∀b o',h.get b=some o'->b≠h.nx:=fun b o' d=>by have:=hr.lt d;omega
 have f:(p++[(w.heap.size,n)])[h.nx]?=some (w.heap.size,n):=by rw[<-hr.len];simp
 have a:∀b,b<h.nx->(p++[(w.heap.size,n)])[b]?=p[b]?:=fun b d=>zi (by rw[hr.len];exact d)
 refine⟨⟨_,rfl⟩,⟨by simp[hr.len],fun b o' d=>?_,fun b b' i k r m C d u j g=>?_⟩,by simp,fun r l _=>?_,fun r J=>?_,rfl,rfl,rfl,fun r l F=>?_⟩
 ·rw[H.BV]at d;by_cases e:b=h.nx
  ·subst e;simp at d;subst d;exact⟨_,_,x,f,by simp,G.mono _⟩
  ·rw[wc e]at d;obtain⟨r,m,y,j,g,K⟩:=hr.obj b o' d;refine⟨r,m,y,by rw[a b<|hr.lt d];exact j,?_,K.mono _⟩;have:=(zx.1 g).1;simp[yj,qh this,g]
 ·have key:∀c o' r m,(h.push o).get c=some o'->(p++[(w.heap.size,n)])[c]?=some (r,m)->(c=h.nx/\r=w.heap.size)\/(h.get c=some o'/\p[c]?=some (r,m)/\r<w.heap.size):=by
   intro c o' r m q hp;rw[H.BV]at q;by_cases e:c=h.nx
   ·subst e;rw[f]at hp;cases hp;exact .inl ⟨rfl,rfl⟩
   ·rw[wc e]at q;rw[a c<|hr.lt q]at hp;exact .inr ⟨q,hp,hr.YK ⟨c,o',m,q,hp⟩⟩
  rcases key b i r m d j with⟨z,v⟩|⟨z,v,M⟩<;>rcases key b' k r C u g with⟨B,A⟩|⟨B,A,L⟩
  ·omega
  ·omega
  ·omega
  ·exact hr.inj b b' i k r m C z B v A
 ·simp[yj,qh l]
 ·obtain⟨b,o',m,j,g⟩:=J;rw[H.BV]at j;by_cases e:b=h.nx
  ·subst e;rw[f]at g;cases g;exact .inr<|zg _
  ·rw[wc e]at j;rw[a b<|hr.lt j]at g;exact .inl ⟨b,o',m,j,g⟩
 ·refine⟨by simp[yj,qh l],.inl ?_⟩;obtain⟨b,m,cs,t,fz,s,E,I⟩:=F;refine⟨b,m,cs,t,fz,?_,?_,I⟩
  ·rw[H.BV,wc<|D b _ s];exact s
  ·rw[a b<|hr.lt s];exact E
theorem Ext.put{p:Pl}{h:H}{w w':World}(hr:R p h w){b r n:Nat}{o o':O}{x':Obj}(j:h.get b=some o)(hp:p[b]?=some (r,n))(J:Hl p n o' x')
  (q:w'.heap=w.heap.setIfInBounds r x') (D:w'.os=w.os) (A:w'.output=w.output) (S:w'.tape=w.tape)
  (K:∀cs t fz,o=.cells cs t fz->Lk n fz->w.heap[r]?=some x'/\∃cs' B,o'=.cells cs' B fz:=by intro _ _ _ h;cases h):Ext p h w p (h.put b o') w':=by
 have u:r<w.heap.size:=hr.YK ⟨b,o,n,j,hp⟩;refine⟨⟨[],by simp⟩,⟨hr.len,fun c f a=>?_,fun c F f k s m Q a z D A=>?_⟩,by simp[q],fun s G L=>?_,fun s M=>?_,D,A,S,fun s G I=>?_⟩
 ·rw[H.Bt]at a;by_cases e:c=b
  ·subst e;simp at a;subst a;exact⟨r,n,x',hp,by rw[q];simp[u],J⟩
  ·rw[wc e]at a;obtain⟨s,m,y,g,l,N⟩:=hr.obj c f a;refine⟨s,m,y,g,?_,N⟩;have d:r≠s:=fun C=>e<|hr.inj c b f o s m n a j g<|C▸hp
   rw[q,zj d];exact l
 ·have i:∀c f,(h.put b o').get c=some f->∃k,h.get c=some k:=by
   intro c f a;rw[H.Bt]at a;by_cases e:c=b
   ·exact⟨o,e▸j⟩
   ·rw[wc e]at a;exact⟨f,a⟩
  obtain⟨_,g⟩:=i c f a;obtain⟨_,l⟩:=i F k z;exact hr.inj c F _ _ s m Q g l D A
 ·have d:r≠s:=fun e=>L<|e▸⟨b,o,n,j,hp⟩
  rw[q,zj d]
 ·obtain⟨c,f,m,g,l⟩:=M;rw[H.Bt]at g;by_cases e:c=b
  ·subst e;exact .inl ⟨c,o,m,j,l⟩
  ·rw[wc e]at g;exact .inl ⟨c,f,m,g,l⟩
 ·obtain⟨c,m,cs,t,fz,v,x,E⟩:=I;by_cases e:c=b
  ·subst e;rw[hp]at x;cases x;rw[j]at v;cases v;obtain⟨g,cs',B,rfl⟩:=K cs t fz rfl E;refine⟨?_,.inl ⟨c,n,cs',B,fz,by rw[H.Bt,wd rfl],hp,E⟩⟩;rw[q,g];simp[u]
  ·have d:r≠s:=fun C=>e<|hr.inj c b _ o s m n v j x<|C▸hp
   refine⟨by rw[q,zj d],.inl ⟨c,m,cs,t,fz,by rw[H.Bt,wc e];exact v,x,E⟩⟩
theorem R.kill{p:Pl}{h:H}{w:World}(hr:R p h w)(b:Nat):R p (h.kill b) w:=by
 have sub:∀c o,(h.kill b).get c=some o->h.get c=some o:=by
  intro c o a;rw[H.Cr]at a;split at a
  ·cases a
  ·exact a
 exact⟨hr.len,fun c o a=>hr.obj c o<|sub c o a,fun c e o o' r n n' a d=>hr.inj c e o o' r n n' (sub c o a)<|sub e o' d⟩
theorem Ext.kill{p:Pl}{h:H}{w:World}(hr:R p h w)(b:Nat):Ext p h w p (h.kill b) w:=by
 refine⟨⟨[],by simp⟩,hr.kill b,zg _,fun _ _ _=>rfl,fun r u=>?_,rfl,rfl,rfl,fun r s v=>⟨rfl,?_⟩⟩
 ·obtain⟨c,o,n,d,j⟩:=u;rw[H.Cr]at d;split at d
  ·cases d
  ·exact .inl ⟨c,o,n,d,j⟩
 ·obtain⟨c,m,cs,t,fz,g,i,q⟩:=v;by_cases e:c=b
  ·subst e;refine .inr ?_;rintro⟨l,o',x,a,k⟩;rw[H.Cr]at a;split at a
   ·cases a
   ·rename_i f;exact f<|hr.inj l c _ _ r x m a g k i
  ·exact .inl ⟨c,m,cs,t,fz,by rw[H.Cr,wc e];exact g,i,q⟩
theorem Ext.move{p:Pl}{h:H}{w w':World}(hr:R p h w){b r n:Nat}{o o':O}{x':Obj}(q:h.get b=some o)(hp:p[b]?=some (r,n))(U:Hl p n o' x')
  (A:w'.heap=w.heap.setIfInBounds r x') (W:w'.os=w.os) (Q:w'.output=w.output) (g3:w'.tape=w.tape) (V:∀cs t fz,o=.cells cs t fz->¬Lk n fz):Ext p h w (p++[(r,n)]) ((h.kill b).push o') w':=by
 have K:r<w.heap.size:=hr.YK ⟨b,o,n,q,hp⟩;have g:(p++[(r,n)])[h.nx]?=some (r,n):=by rw[<-hr.len];simp
 have a:∀b,b<h.nx->(p++[(r,n)])[b]?=p[b]?:=fun b q=>zi (by rw[hr.len];exact q)
 have i:∀c d,((h.kill b).push o').get c=some d->(c=h.nx/\d=o')\/(c≠b/\c<h.nx/\h.get c=some d):=by
  intro c d f;rw[H.BV,H.ZX,H.Cr]at f;by_cases e:c=h.nx
  ·rw[wd e]at f;cases f;exact .inl ⟨e,rfl⟩
  ·rw[wc e]at f;by_cases l:c=b
   ·rw[wd l]at f;cases f
   ·rw[wc l]at f;exact .inr ⟨l,hr.lt f,f⟩
 have E:∀c d s m,c≠b->h.get c=some d->p[c]?=some (s,m)->r≠s:=fun c d s m f N G e=>f<|hr.inj c b d o s m n N q G<|e▸hp
 refine⟨⟨_,rfl⟩,⟨by simp[hr.len],fun c d f=>?_,fun c B d v s m m' f F z x=>?_⟩,by simp[A],fun s G Y=>?_,fun s Z=>?_,W,Q,g3,fun s G S=>?_⟩
 ·rcases i c d f with⟨rfl,rfl⟩|⟨C,l,u⟩
  ·exact⟨r,n,x',g,by rw[A];simp[K],U.mono _⟩
  ·obtain⟨s,m,y,k,j,D⟩:=hr.obj c d u;refine⟨s,m,y,by rw[a c l];exact k,?_,D.mono _⟩;rw[A,zj<|E c d s m C u k];exact j
 ·rcases i c d f with⟨rfl,rfl⟩|⟨C,l,u⟩<;>rcases i B v F with⟨rfl,rfl⟩|⟨X,L,M⟩
  ·rfl
  ·rw[g]at z;cases z;rw[a B L]at x;exact wh rfl (E B v _ _ X M x)
  ·rw[g]at x;cases x;rw[a c l]at z;exact wh rfl (E c d _ _ C u z)
  ·rw[a c l]at z;rw[a B L]at x;exact hr.inj c B d v s m m' u M z x
 ·have I:r≠s:=fun e=>Y<|e▸⟨b,o,n,q,hp⟩
  rw[A,zj I]
 ·obtain⟨c,d,m,k,j⟩:=Z;rcases i c d k with⟨rfl,rfl⟩|⟨C,l,u⟩
  ·rw[g]at j;cases j;exact .inl ⟨b,o,n,q,hp⟩
  ·rw[a c l]at j;exact .inl ⟨c,d,m,u,j⟩
 ·obtain⟨c,m,cs,t,fz,k,j,D⟩:=S;by_cases e:c=b
  ·subst e;rw[hp]at j;cases j;rw[q]at k;cases k;exact wh D<|V cs t fz rfl
  ·have J:=hr.lt k;refine⟨by rw[A,zj<|E c _ s m e k j],.inl ⟨c,m,cs,t,fz,?_,by rw[a c J];exact j,D⟩⟩;rw[H.BV,H.ZX,wc ae,H.Cr,wc e];exact k
end
def Aee(l:List Nat):List V:=l.map fun n=>.int .u64<|.ofNat n
def GB:List (Nat×O):=[(5,.cells (Aee [1,10,100,1000,10000,100000,1000000,10000000,100000000,1000000000,10000000000,100000000000,1000000000000,10000000000000,100000000000000,1000000000000000,10000000000000000,100000000000000000,1000000000000000000,10000000000000000000]) 320 (0,20))]
mutual
def V.flat:V->Bool
 | .bool _| .int _ _| .str _| .nilp| .nils| .nilm| .nilf| .nili=>true
 | .agg l| .tup l=>V.Je l
 |_=>false
def V.Je:List V->Bool
 |[]=>true
 |v::vs=>v.flat&&V.Je vs
end
mutual
theorem V.Dh{p q:Pl}:∀ {v:V} {v':Value},v.flat=true->Ac p v v'->Ac q v v'
 | .bool _,_,_,h| .int _ _,_,_,h| .str _,_,_,h| .nilp,_,_,h| .nils,_,_,h| .nilm,_,_,h| .nilf,_,_,h| .nili,_,_,h=>by simpa [Ac]using h
 | .agg l,_,a,h=>by
  simp only[Ac]at h ⊢;obtain⟨x,rfl,b⟩:=h;exact⟨x,rfl,V.JJ (by simpa [V.flat]using a) b⟩
 | .tup l,_,a,h=>by
  simp only[Ac]at h ⊢;obtain⟨x,rfl,b⟩:=h;exact⟨x,rfl,V.JJ (by simpa [V.flat]using a) b⟩
 | .ptr _ _,_,a,_| .sl _ _ _ _ _,_,a,_| .map _,_,a,_| .fn _ _ _,_,a,_| .yld _,_,a,_| .iface _ _,_,a,_=>by simp[V.flat]at a
theorem V.JJ{p q:Pl}:∀ {v:List V} {v':List Value},V.Je v=true->Ax p v v'->Ax q v v'
 |[],_,_,h=>by simpa using h
 |_::_,[],_,h=>by simp at h
 |v::vs,x::xs,a,h=>by
  simp only[V.Je,zw]at a;rw[Bk]at h ⊢;exact⟨V.Dh a.1 h.1,V.JJ a.2 h.2⟩
end
def osz:O->Nat
 | .cells cs _ _=>cs.length
 |_=>0
def gin(g:Nat):List (Nat×O)->Bool
 |[]=>false
 |(i,_)::l=>bif zt i g then true else gin g l
def hGm:List (Nat×O)->PM O
 |[]=>.leaf
 |(i,o)::l=>(hGm l).set i<|some o
def L0:List (Nat×O)->Nat
 |[]=>0
 |(i,_)::l=>bif zu (i+1) (L0 l)then L0 l else i+1
def hG:H:=⟨hGm GB,L0 GB⟩
def gok:List (Nat×O)->Bool
 |[]=>true
 |(_,.cells cs _ (a,b))::l=>V.Je cs&&zt a 0&&zt b cs.length&&y7 0 b&&gok l
 |_=>false
theorem aL:gok GB=true:=by kernel_rfl
theorem YJ{g:Nat}:∀ {l:List (Nat×O)},gin g l=true->∃o,(g,o)∈l
 |[],h=>by cases h
 |(i,o)::l,h=>by
  unfold gin at h;cases a:zt i g with
  |true=>cases Nat.eq_of_beq_eq_true a;exact⟨o,yo⟩
  |false=>
   rw[a]at h;obtain⟨o',b⟩:=YJ h;exact⟨o',yh _ b⟩
theorem S2:∀ {l:List (Nat×O)},gok l=true->∀x∈l,∃cs t,x.2=.cells cs t (0,cs.length)/\V.Je cs=true/\0<cs.length
 |[],_,x,c=>by cases c
 |(i,.cells cs t (a,b))::l,h,x,c=>by
  simp only[gok,zw]at h;obtain⟨⟨⟨⟨f,d⟩,e⟩,g⟩,j⟩:=h;rcases yg.1 c with rfl|c
  ·have d:a=0:=by simpa using d
   have e:b=cs.length:=by simpa using e
   subst d e;exact⟨cs,t,rfl,f,Nat.lt_of_succ_le<|yd g⟩
  ·exact S2 j x c
theorem Lz:∀ {l:List (Nat×O)} {b:Nat} {o:O},(hGm l).get b=some o->(b,o)∈l
 |[],b,o,h=>by simp[hGm]at h
 |(i,o')::l,b,o,h=>by
  simp only[hGm,PM.Dq]at h;by_cases e:b=i
  ·subst e;rw[wd rfl]at h;cases h;exact yo
  ·rw[wc e]at h;exact yh _<|Lz h
theorem YY{n:Nat}:∀ {l:List (Nat×O)},(∀x∈l,x.1<n)->L0 l<=n
 |[],_=>qd _
 |(i,o)::l,h=>by
  have c:=h (i,o) yo;have b:=YY (l:=l) fun x a=>h x<|yh _ a
  unfold L0;cases zu (i+1) (L0 l)<;>simp<;>omega
theorem Ud:∀ {l:List (Nat×O)},∀x∈l,x.1<L0 l
 |[],x,a=>by cases a
 |(i,o)::l,x,a=>by
  unfold L0;rcases yg.1 a with rfl|a
  ·cases b:zu (i+1) (L0 l)with
   |true=>have:=yd b;simp;omega
   |false=>simp
  ·have:=Ud (l:=l) x a;cases b:zu (i+1) (L0 l)with
   |true=>simp;exact this
   |false=>
    have:¬(i+1<=L0 l):=fun h=>by rw[ye h]at b;cases b
    simp;omega
def Gp(p:Pl):Prop:=∀x∈GB,p[x.1]?=some (x.1,osz x.2)
def Gh(h:H):Prop:=∀x∈GB,h.get x.1=some x.2
theorem Gp.app{p:Pl}(h:Gp p)(q:Pl):Gp (p++q):=fun x a=>by
 have:=h x a;rw[zi (zf.1 this).1];exact this
theorem Gp.top{p:Pl}(h:Gp p):L0 GB<=p.length:=YY fun x a=>(zf.1<|h x a).1
theorem Gp.take{p:Pl}(h:Gp p):Gp (p.take<|L0 GB):=fun x a=>by
 rw[zk<|Ud x a];exact h x a
theorem EM.flat{p q:Pl}{cs:List V}{vs:List Value}(c:V.Je cs=true)(h:EM p cs vs):EM q cs vs:=
 ⟨h.1,fun i d v b e f=>V.Dh (by
  have:=List.mem_of_getElem? b;clear h b e f;induction cs with
  |nil=>cases this
  |cons a cs g=>
   simp only[V.Je,zw]at c;rcases yg.1 this with rfl|h
   ·exact c.1
   ·exact g c.2 h)<|h.2 i d v b e f⟩
theorem AbI{p:Pl}{h:H}{w:World}(hr:R p h w)(hp:Gp p)(l:Gh h):R (p.take<|L0 GB) hG w:=by
 refine⟨by rw[yv,y9 hp.top];rfl,fun b o i=>?_,fun b b' o o' r n n' i g d a=>?_⟩
 ·have f:=Lz i;obtain⟨cs,t,e,q,u⟩:=S2 aL _ f;obtain⟨r,n,x,d,a,h3⟩:=hr.obj b o<|l _ f;refine⟨r,n,x,by rw[zk<|Ud _ f];exact d,a,?_⟩;simp only at e;subst e;simp only[Hl]at h3 ⊢;obtain⟨c,fz',k1,k2,k3,k4,k5⟩:=h3;exact⟨c,fz',k1,k2,k3,k4.flat q,k5⟩
 ·have m:=Lz i;have s:=Lz g;have k:=hp.take _ m;have j:=hp.take _ s;simp only at k j;rw[k]at d;rw[j]at a;cases d;cases a;rfl
theorem Ext.GB{p:Pl}{w w':World}{p':Pl}{h':H}(hp:Gp p)(c:Ext p hG w p' h' w')(r:Nat)(hr:r<w.heap.size):w'.heap[r]?=w.heap[r]?:=by
 by_cases d:Im p hG r
 ·obtain⟨b,o,n,g,f⟩:=d;have a:=Lz g;obtain⟨cs,t,e,hf,hl⟩:=S2 aL _ a;simp only at e;subst e;have:=hp _ a;simp only at this;rw[this]at f;cases f;exact(c.lock _ hr ⟨_,_,_,_,_,g,this,rfl,zg _,hl⟩).1
 ·exact c.same r hr d
section
variable {p:Pl}
def V.cells:V->List V
 | .agg cs=>cs
 |v=>[v]
theorem Ac.cells{d:V}{v:Value}(b:Ac p d v):Ax p d.cells v.cells.toList:=by
 cases d<;>simp only[V.cells]<;>simp only[Ac]at b
 case agg cs=>obtain⟨x,rfl,e⟩:=b;exact e
 case bool=>subst b;simp[zl,Ac]
 case int=>subst b;simp[zl,Ac]
 case str=>subst b;simp[zl,Ac]
 case nilp=>subst b;simp[zl,Ac]
 case nils=>subst b;simp[zl,Ac]
 case nilm=>subst b;simp[zl,Ac]
 case nilf=>subst b;simp[zl,Ac]
 case nili=>subst b;simp[zl,Ac]
 case ptr=>obtain⟨r,n,e,rfl⟩:=b;simp[zl,Ac,e]
 case esl=>obtain⟨a,c,rfl⟩:=b;simp[zl,Ac]
 case es0=>obtain⟨a,rfl⟩:=b;simp[zl,Ac]
 case sl=>obtain⟨r,n,c,e,rfl,f⟩:=b;simp only[zl,Bk,HA,ve];simp only[Ac];exact⟨r,n,c,e,rfl,f⟩
 case map=>obtain⟨r,n,e,rfl⟩:=b;simp[zl,Ac,e]
 case yld=>obtain⟨r,n,e,rfl⟩:=b;simp[zl,Ac,e]
 case fn=>obtain⟨x,y,rfl,e,f⟩:=b;simp only[zl,Bk,HA,ve];simp only[Ac];exact⟨x,y,rfl,e,f⟩
 case iface=>obtain⟨y,rfl,e⟩:=b;simp[zl,Ac];exact e
 case tup=>obtain⟨x,rfl,e⟩:=b;simp[zl,Ac];exact e
end
structure TI where
 size:Nat
 bytes:Nat
 zv:V
def TI.zero(i:TI):List V:=i.zv.cells
inductive FK where
 |bool
 |str
 |int (k:IntKind)
def FK.ok:FK->V->Bool
 | .bool,.bool _=>true
 | .str,.str _=>true
 | .int k,.int a _=>k==a
 |_,_=>false
def fit:List FK->List V->Bool
 |[],[]=>true
 |k::ks,v::vs=>bif k.ok v then fit ks vs else false
 |_,_=>false
structure Ce where
 und:TypeId->Option TypeDesc
 inf:TypeId->Option TI
 flat:TypeId->Option (List FK)
 mth:TypeId->String->Option FuncId
def DT:V->V->Option Bool
 | .bool a,.bool b=>some<|a==b
 | .int k a,.int c b=>if k=c then some (a==b)else none
 | .str a,.str b=>some<|a==b
 |_,_=>none
def B6:List V->List V->Option Bool
 |[],[]=>some true
 |a::c,b::d=>
  match DT a b with
  |some true=>B6 c d
  |some false=>if c.length=d.length then some false else none
  |none=>none
 |_,_=>none
structure Ce.Ok(T:Ce)(P:Program):Prop where
 und:∀t d,T.und t=some d->P.underlying t=some d
 inf:∀t i,T.inf t=some i->∃j v,P.info? t=some j/\j.size=i.size/\j.bytes=i.bytes/\j.zero=some v/\∀p,Ac p i.zv v
 flat:∀t ks,T.flat t=some ks->∀(p:Pl) (x y:List V) (x' y':Array Value) (r:Bool) (w:World),fit ks x=true->fit ks y=true->Ax p x x'.toList->Ax p y y'.toList->B6 x y=some r->
  (qi t (.agg x') (.agg y')).run P w=.ok r w
 guard:∀t ks,T.flat t=some ks->P.eqGuardType P.depth t=false
 key:∀t ks,T.flat t=some ks->∀(p:Pl) (x:List V) (x':Array Value) (b:Bool) (w:World),fit ks x=true->Ax p x x'.toList->(Instr.checkKey b 10000 t (.agg x')).run P w=.ok () w
 kind:∀t ks,T.flat t=some ks->∃fs,T.und t=some (.struct fs)
 mth:∀t name f,T.mth t name=some f->∃j m d,P.info? t=some j/\j.methods.find? (·.name==name)=some m/\m.path= #[]/\m.func=some (f,false)/\P.underlying t=some d/\∀e,d≠ .pointer e
section
variable {T:Ce}{P:Program}{p:Pl}{h:H}{w:World}
theorem AA(a:T.Ok P){t:TypeId}{d:TypeDesc}(b:T.und t=some d):(underlying t).run P w=.ok d w:=by
 unfold underlying;simp[a.und t d b]
theorem BE(a:T.Ok P){t:TypeId}{i:TI}(d:T.inf t=some i):(sizeOf t).run P w=.ok i.size w:=by
 obtain⟨j,v,c,b,_⟩:=a.inf t i d;unfold sizeOf typeInfo;simp[c,b]
theorem Px(a:T.Ok P){t:TypeId}{i:TI}(d:T.inf t=some i):∃j,(∀w,(typeInfo t).run P w=.ok j w)/\j.bytes=i.bytes/\j.size=i.size:=by
 obtain⟨j,v,c,b,e,_⟩:=a.inf t i d;exact⟨j,fun w=>by unfold typeInfo;simp[c],e,b⟩
theorem EH(a:T.Ok P){t:TypeId}{i:TI}(e:T.inf t=some i):∃v,(∀w,(zeroValue t).run P w=.ok v w)/\∀p,Ax p i.zero v.cells.toList:=by
 obtain⟨j,v,b,f,g,d,c⟩:=a.inf t i e;exact⟨v,fun w=>by unfold zeroValue typeInfo;simp[b,d],fun p=>(c p).cells⟩
theorem AbR(a:T.Ok P){t:TypeId}{i:TI}(e:T.inf t=some i):∃v,(∀w,(zeroValue t).run P w=.ok v w)/\∀p,Ac p i.zv v:=by
 obtain⟨j,v,b,f,g,d,c⟩:=a.inf t i e;exact⟨v,fun w=>by unfold zeroValue typeInfo;simp[b,d],c⟩
def Ek:TypeDesc->Bool
 | .struct _| .array _ _=>true
 |_=>false
theorem RQ(a:T.Ok P){t:TypeId}{d:TypeDesc}(b:T.und t=some d):(isAgg t).run P w=.ok (Ek d) w:=by
 unfold isAgg;rw[zd,AA a b];cases d<;>simp[Ek]
def V.one:V->Bool
 | .agg _| .tup _| .junk=>false
 |_=>true
theorem V.MX{d:V}(h:d.one=true):d.ok=true:=by cases d<;>first|rfl|cases h
theorem Ac.one{d:V}{v:Value}(b:Ac p d v)(e:d.one=true):v.oneCell'=true:=by
 cases d<;>simp only[V.one]at e<;>simp only[Ac]at b
 case agg|tup=>cases e
 case ptr=>obtain⟨r,n,_,rfl⟩:=b;rfl
 case esl=>obtain⟨a,c,rfl⟩:=b;rfl
 case es0=>obtain⟨a,rfl⟩:=b;rfl
 case sl=>obtain⟨r,n,c,_,rfl,_⟩:=b;rfl
 case map=>obtain⟨r,n,_,rfl⟩:=b;rfl
 case yld=>obtain⟨r,n,_,rfl⟩:=b;rfl
 case fn=>obtain⟨x,y,rfl,_,_⟩:=b;rfl
 case iface=>obtain⟨y,rfl,_⟩:=b;rfl
 all_goals subst b;rfl
@[simp] theorem Addr.H2(r off n:Nat):Addr.add ⟨r,off,none⟩ n=⟨r,off+n,none⟩:=by
 unfold Addr.add;split<;>simp_all
def rd0(h:H)(b off n:Nat):Option (List V):=
 match h.get b with
 |some (.cells cs _ _)=>if off+n<=cs.length/\((cs.drop off).take n).all V.ok=true then some ((cs.drop off).take n)else none
 |_=>none
def rd(h:H)(b off n:Nat):Option (List V):=
 match h.get b with
 |some (.cells cs _ _)=>bif zu (qe off n) (ET cs)&&LZ V.ok (Zr n<|Kj off cs)then some (Zr n<|Kj off cs)else none
 |_=>none
theorem Zz:rd=rd0:=by
 funext h b off n
 unfold rd rd0;split
 ·rename_i cs _ _ _;rw[Da,Qh,QO,F4];by_cases e:off+n<=cs.length
  ·rw[show zu (qe off n) cs.length=true from ye e];cases c:((cs.drop off).take n).all V.ok with
   |true=>rw[wd ⟨e,rfl⟩];rfl
   |false=>rw[wc<|by simp];rfl
  ·rw[wc<|fun h=>e h.1,show zu (qe off n) cs.length=false from by cases a:zu (qe off n) cs.length with|false=>rfl|true=>exact wh (yd a) e];rfl
 ·rfl
theorem cell_of(hr:R p h w){b:Nat}{cs:List V}{t:TypeId}{fz:Nat×Nat}(l:h.get b=some (.cells cs t fz)):
  ∃r n c fz',p[b]?=some (r,n)/\w.heap[r]?=some (.cells c t fz')/\c.size=n/\cs.length<=n/\EM p cs (c.toList.take cs.length)/\(∀i,w.cell? ⟨r,i,none⟩=c[i]?)/\
   ∀i,i<n->fz'.1<=i->i<fz'.2->fz.1<=i/\i<fz.2:=by
 obtain⟨r,n,x,d,a,c,fz',k,e,j,f,g⟩:=hr.obj b _ l;subst k;exact⟨r,n,c,fz',d,a,e,j,f,fun i=>by simp[World.cell?,a],g⟩
theorem Ko{a:Addr}{v:Value}(b:w.cell? a=some v):(load a).run P w=.ok v w:=by simp[b]
theorem run_loadCellsFrom{a:Addr}:∀(n i:Nat) (b:Array Value) (vs:List Value),vs.length=n->(∀j v,vs[j]?=some v->w.cell? (a.add<|i+j)=some v)->
  (loadCellsFrom a i n b).run P w=.ok (b++vs.toArray) w
 |0,i,b,vs,c,_=>by
  have:vs=[]:=yx.1 c;subst this;simp[loadCellsFrom]
 |n+1,i,b,[],c,_=>by simp at c
 |n+1,i,b,v::vs,c,d=>by
  unfold loadCellsFrom;rw[zd,Ko (a:=a.add i) (by have:=d 0 v rfl;simpa using this)];simp only[zc];rw[run_loadCellsFrom n (i+1) (b.push v) vs (by simpa using c) (fun j u e=>by
   have:=d (j+1) u (by simpa using e);rwa [show i+(j+1)=i+1+j from by omega]at this)]
  simp
theorem run_loadCells(hr:R p h w){b off n:Nat}{xs:List V}(f:rd h b off n=some xs):
  ∃r m vs,p[b]?=some (r,m)/\(loadCells ⟨r,off,none⟩ n).run P w=.ok vs.toArray w/\Ax p xs vs/\vs.length=n/\∀i v,vs[i]?=some v->w.cell? ⟨r,off+i,none⟩=some v:=by
 rw[Zz]at f;unfold rd0 at f;split at f
 case h_2=>cases f
 rename_i cs t fz x;split at f
 case isFalse=>cases f
 rename_i k;obtain⟨k,l⟩:=k;cases f;obtain⟨r,m,c,_,h1,h2,h3,h4,u,h6,_⟩:=cell_of hr x;have o:Ax p ((cs.drop off).take n) ((c.toList.take cs.length).drop off|>.take n):=((u.drop off).take n).ON fun d q=>List.all_eq_true.1 l d q
 have e:((c.toList.take cs.length).drop off|>.take n).length=n:=by simp;omega
 have a:∀i v,((c.toList.take cs.length).drop off|>.take n)[i]?=some v->w.cell? ⟨r,off+i,none⟩=some v:=by
  intro i v g;have s:i<n:=by have:=(zf.1 g).1;omega
  rw[h6];rw[zk s,yn,zk ae]at g;simpa using g
 refine⟨r,m,_,h1,?_,o,e,a⟩;unfold loadCells;rw[run_loadCellsFrom n 0 #[] _ e (fun j v g=>by simpa using a j v g)];simp
def Fl(T:Ce)(h:H)(t:TypeId)(a:V):Option V:=
 match a,T.und t,T.inf t with
 | .ptr b off,some d,some i=>
  bif Ek d then(rd h b off i.size).map .agg
  else match rd h b off 1 with
   |some (v::_)=>some v
   |_=>none
 |_,_,_=>none
theorem Wd(o:T.Ok P)(hr:R p h w){t:TypeId}{a v:V}{q:Value}(l:Ac p a q)(c:Fl T h t a=some v):
  ∃v',(Instr.loadAt t q).run P w=.ok v' w/\Ac p v v':=by
 unfold Fl at c;split at c
 case h_2=>cases c
 rename_i b off d i y z;simp only[Ac]at l;obtain⟨r,n,hp,rfl⟩:=l;unfold Instr.loadAt yb;simp only[zd,ze,zc];unfold loadVar;simp only[zd];rw[RQ o y];simp only[zc];cases e:Ek d with
 |true=>
  simp only[e,we]at c;rw[zn]at c;obtain⟨xs,j,rfl⟩:=c;obtain⟨s,m,vs,f,k,g,_⟩:=run_loadCells (P:=P) hr j;rw[hp]at f;cases f;simp only[wk,zd,BE o z,zc,k,ze];exact⟨_,rfl,by simp only[Ac];exact⟨_,rfl,by simpa using g⟩⟩
 |false=>
  simp only[e,wg]at c;split at c
  case h_2=>cases c
  rename_i v0 tl j;cases c;obtain⟨s,m,vs,f,k,g,x,A⟩:=run_loadCells (P:=P) hr j;rw[hp]at f;cases f;cases vs with
  |nil=>simp at x
  |cons u B=>
   simp at g;simp only[zm,vg];have:=A 0 u rfl;rw[Ko<|by simpa using this];exact⟨u,rfl,g.1⟩
def Hc:List V->Nat->List V->List V
 |cs,_,[]=>cs
 |cs,off,v::vs=>Hc (cs.set off v) (off+1) vs
@[simp] theorem GX:∀(vs:List V) (cs:List V) (off:Nat),(Hc cs off vs).length=cs.length
 |[],_,_=>rfl
 |v::vs,cs,off=>by simp[Hc,GX vs]
def clear(fz:Nat×Nat)(off n:Nat):Bool:=zu fz.2 off||zu (off+n) fz.1||zu fz.2 fz.1
def wr0(h:H)(b off:Nat)(vs:List V):Option H:=
 match h.get b with
 |some (.cells cs t fz)=>bif zu (off+vs.length) cs.length&&clear fz off vs.length&&vs.all V.one then some (h.put b<|.cells (Hc cs off vs) t fz)else none
 |_=>none
theorem MM(a:V):∀(vs cs:List V) (off:Nat),Hc (a::cs) (off+1) vs=a::Hc cs off vs
 |[],cs,off=>rfl
 |v::vs,cs,off=>by
  show Hc ((a::cs).set (off+1) v) (off+1+1) vs=a::Hc (cs.set off v) (off+1) vs;rw[List.set_cons_succ,MM a vs]
theorem Qn:∀(vs:List V) (off:Nat),Hc [] off vs=[]
 |[],_=>rfl
 |v::vs,off=>by show Hc ([].set off v) (off+1) vs=[];rw[List.set_nil,Qn vs]
theorem WO:∀(vs cs:List V),Kh vs cs=Hc cs 0 vs
 |[],cs=>rfl
 |v::vs,[]=>(Qn _ _).symm
 |v::vs,c::cs=>by
  show v::Kh vs cs=Hc ((c::cs).set 0 v) (0+1) vs;rw[List.set_cons_zero,MM,WO vs cs]
theorem JQ(vs:List V):∀(off:Nat) (cs:List V),CJ off vs cs=Hc cs off vs
 |0,cs=>WO vs cs
 |off+1,[]=>(Qn _ _).symm
 |off+1,c::cs=>by rw[MM];exact wi (c:: ·)<|JQ vs off cs
def wr(h:H)(b off:Nat)(vs:List V):Option H:=
 match h.get b with
 |some (.cells cs t fz)=>bif zu (qe off<|ET vs) (ET cs)&&clear fz off (ET vs)&&LZ V.one vs then some (h.put b<|.cells (CJ off vs cs) t fz)else none
 |_=>none
theorem Aeo:wr=wr0:=by
 funext h b off vs
 unfold wr wr0;split
 ·rw[Da,Da,F4,JQ];rfl
 ·rfl
theorem Mc(a:Array Obj)(i:Nat)(x:Obj)(j:Nat):(a.setIfInBounds i x)[j]?=if i=j/\j<a.size then some x else a[j]?:=by
 by_cases e:i=j
 ·subst e;by_cases h:i<a.size
  ·simp[h]
  ·simp[h]
 ·rw[zj e];simp[e]
theorem jW{a:Array Obj}{i:Nat}{x:Obj}(h:a[i]?=some x):a.setIfInBounds i x=a:=by
 apply yp;intro j;rw[Mc];split
 ·rename_i e;rw[<-e.1,h]
 ·rfl
theorem set_set(a:Array Obj)(i:Nat)(x y:Obj):(a.setIfInBounds i x).setIfInBounds i y=a.setIfInBounds i y:=by
 apply yp;intro j;simp only[Mc,Array.size_setIfInBounds];split<;>simp_all
theorem PF{a:Array Obj}{i:Nat}{f:Obj->Obj}{x:Obj}(h:a[i]?=some x):a.modify i f=a.setIfInBounds i (f x):=by
 apply yp;intro j;rw[Mc,Array.getElem?_modify];by_cases e:i=j
 ·subst e;have:=(zx.1 h).1;rw[wd rfl,h,wd ⟨rfl,this⟩];rfl
 ·simp[e]
theorem setCell_eq{w:World}{r off:Nat}{c:Array Value}{t:TypeId}{fz:Nat×Nat}(v:Value)(a:w.heap[r]?=some (.cells c t fz)):
  w.setCell ⟨r,off,none⟩ v={ w with heap:=w.heap.setIfInBounds r (.cells (c.setIfInBounds off v) t fz) }:=by
 unfold World.setCell;rw[PF a];rfl
theorem Gs{r:Nat}{t:TypeId}{fz:Nat×Nat}:∀(vs:List Value) (w:World) (c:Array Value) (off i:Nat),w.heap[r]?=some (.cells c t fz)->off+i+vs.length<=c.size->
  (∀v∈vs,v.oneCell'=true)->(∀j,i<=j->j<i+vs.length->¬(fz.1<=off+j/\off+j<fz.2))->
  ∃k:Array Value,(storeCells ⟨r,off,none⟩ vs i).run P w=.ok () { w with heap:=w.heap.setIfInBounds r (.cells k t fz) }/\k.size=c.size/\
   k.toList=(List.range c.size).map (fun j=>if off+i<=j/\j<off+i+vs.length then vs.getD (j-(off+i)) default else c.toList.getD j default)
 |[],w,c,off,i,d,_,_,_=>by
  refine⟨c,?_,rfl,?_⟩
  ·simp only[storeCells,ze,jW d]
  ·apply List.ext_getElem (by simp);intro j m q;have z:j<c.size:=by simpa using m
   simp only[List.getElem_map,List.getElem_range,List.length_nil,qj];rw[wc ae];simp[yf,z]
 |v::vs,w,c,off,i,d,l,a,f=>by
  simp at l;have b:w.cell? ⟨r,off+i,none⟩=some (c[off+i]'ae):=by simp[World.cell?,d]
  have o:w.frozen? ⟨r,off+i,none⟩=false:=by
   simp only[World.frozen?,d];have:=f i (zg _) (by simp);rw[Bool.eq_false_iff];intro B;apply this;simpa using B
  have g:=setCell_eq (off:=off+i) v d;have n:=(zx.1 d).1;obtain⟨k,m,q,E⟩:=Gs vs { w with heap:=w.heap.setIfInBounds r (.cells (c.setIfInBounds (off+i) v) t fz) } (c.setIfInBounds (off+i) v) off (i+1)
   (by rw[Mc,wd ⟨rfl,n⟩]) (by simp;omega) (fun u D=>a u<|by simp[D]) (fun j C A=>f j ae<|by simp;omega)
  refine⟨k,?_,by simpa using q,?_⟩
  ·unfold storeCells;rw[zd,Addr.H2,run_store P w _ v .plain<|a v<|by simp];simp only[b,o,zm,vg,zc,g,m,set_set]
  ·rw[E];apply List.ext_getElem (by simp);intro j y F;simp at y;simp only[List.getElem_map,List.getElem_range,yu];by_cases e:j=off+i
   ·subst e;rw[wc ae,wd ae];simp[yf,y]
   ·by_cases s:off+(i+1)<=j/\j<off+(i+1)+vs.length
    ·rw[wd s,wd ae];have:j-(off+i)=(j-(off+(i+1)))+1:=ae
     rw[this];simp[yf]
    ·rw[wc s,wc ae];simp only[yf,Array.toList_setIfInBounds];rw[List.getElem?_set_ne<|fun x=>e x.symm]
theorem Qv:∀(vs cs:List V) (off j:Nat),off+vs.length<=cs.length->(Hc cs off vs)[j]?=if off<=j/\j<off+vs.length then vs[j-off]? else cs[j]?
 |[],cs,off,j,_=>by rw[wc<|by simp only[List.length_nil];omega];rfl
 |v::vs,cs,off,j,a=>by
  simp at a;unfold Hc;rw[Qv vs (cs.set off v) (off+1) j<|by simp;omega];by_cases e:j=off
  ·subst e;rw[wc ae,wd<|by simp];have:j<cs.length:=ae
   simp[this]
  ·by_cases b:off+1<=j/\j<off+1+vs.length
   ·rw[wd b,wd<|by simp;omega];have:j-off=(j-(off+1))+1:=ae
    rw[this];simp
   ·rw[wc b,wc (by simp;omega),List.getElem?_set_ne<|fun x=>e x.symm]
theorem Ub(hr:R p h w){b off:Nat}{xs:List V}{vs:List Value}(x:Ax p xs vs){h':H}(k:wr h b off xs=some h'):
  ∃r m w',p[b]?=some (r,m)/\(storeCells ⟨r,off,none⟩ vs).run P w=.ok () w'/\Ext p h w p h' w':=by
 rw[Aeo]at k;unfold wr0 at k;split at k
 case h_2=>cases k
 rename_i cs t fz D;cases q:(zu (off+xs.length) cs.length&&clear fz off xs.length&&xs.all V.one)with
 |false=>simp[q]at k
 |true=>
  simp only[q,we,zh]at k;subst k;simp only[zw,yq,List.all_eq_true]at q;obtain⟨⟨W,G⟩,M⟩:=q;obtain⟨r,m,c,fz',h1,h2,h3,h4,h5,h6,h7⟩:=cell_of hr D;have X:=x.length;have l:∀v∈vs,v.oneCell'=true:=by
   intro v f;obtain⟨i,o⟩:=List.mem_iff_getElem?.1 f;have L:=(zf.1 o).1;obtain⟨u,a,g⟩:=x.get (i:=i) (d:=xs[i]'ae) (by simp);rw[o]at a;cases a;exact g.one<|M _<|List.getElem_mem _
  have z:∀j,0<=j->j<0+vs.length->¬(fz'.1<=off+j/\off+j<fz'.2):=by
   rintro j _ C ⟨I,J⟩;have:=h7 (off+j) ae I J;simp only[clear,Bool.or_eq_true,yq]at G;omega
  obtain⟨E,Q,U,F⟩:=Gs (P:=P) vs w c off 0 h2 ae l z;refine⟨r,m,_,h1,Q,Ext.put hr D h1 ?_ rfl rfl rfl rfl (fun S t1 O K A=>?_)⟩
  case refine_2=>
   cases K;refine⟨?_,_,_,rfl⟩;obtain⟨l1,Z,Y⟩:=A;simp only[clear,Bool.or_eq_true,yq]at G;have N:xs.length=0:=ae
   have B:vs=[]:=yx.1 ae;subst B;have y:E=c:=by
    apply Array.ext';apply List.ext_getElem?;intro j;rw[F];by_cases C:j<c.size
    ·rw[yc,z8 C];simp only[yi];rw[wc<|by simp];simp[yf,C]
    ·rw[List.getElem?_eq_none (by simp;omega),List.getElem?_eq_none<|by simp;omega]
   rw[y];exact h2
  refine⟨E,fz',rfl,by omega,by simpa using h4,?_,h7⟩;rw[GX];refine⟨by simp;omega,?_⟩;intro i d v n f s;rw[Qv xs cs off i ae]at n;have o:i<cs.length:=by
   have:=(zf.1 f).1;simp at this;omega
  rw[zk o,F]at f;simp only[qj,yc]at f;rw[z8 ae]at f;simp only[yi,zh]at f;by_cases e:off<=i/\i<off+xs.length
  ·rw[wd e]at n;rw[wd ae]at f;obtain⟨u,a,g⟩:=x.get n;simp only[yf,a,yy]at f;exact f▸g
  ·rw[wc e]at n;rw[wc ae]at f;obtain⟨u,a,g⟩:=h5.get n s;rw[zk o]at a;simp only[yf,a,yy]at f;exact f▸g
def H8(T:Ce)(h:H)(t:TypeId)(a x:V):Option H:=
 match a,T.inf t with
 | .ptr b off,some i=>bif zt x.cells.length i.size then wr h b off x.cells else none
 |_,_=>none
theorem cH(j:T.Ok P)(hr:R p h w){t:TypeId}{a x:V}{f x':Value}(g:Ac p a f)(d:Ac p x x'){h':H}(c:H8 T h t a x=some h'):
  ∃w',(Instr.storeAt t f x').run P w=.ok () w'/\Ext p h w p h' w':=by
 unfold H8 at c;split at c
 case h_2=>cases c
 rename_i b off i k;rw[Bw]at c;by_cases e:x.cells.length=i.size
 ·simp only[e,decide_true,we]at c;simp only[Ac]at g;obtain⟨r,n,hp,rfl⟩:=g;obtain⟨r',m,w',h1,h2,h3⟩:=Ub (P:=P) hr d.cells c;rw[hp]at h1;cases h1;refine⟨w',?_,h3⟩;have l:=d.cells.length;unfold Instr.storeAt yb;simp only[zd,ze,zc];unfold storeVar;have:x'.cells.size=i.size:=by rw[<-e,l];simp
  simp only[zd,BE j k,zc,this,wm,not_true_eq_false,vg];exact h2
 ·simp[e]at c
theorem CD(t:TypeId)(c:Array Value):(newRow t c).run P w=.ok ⟨w.heap.size,0,none⟩ { w with heap:=w.heap.push (.cells c t) }:=by
 unfold newRow;simp
def Jn(h:H)(t:TypeId)(cs:List V):H:=h.push<|.cells cs t (0,0)
theorem OE(hr:R p h w)(t:TypeId){xs:List V}{c:Array Value}(a:Ax p xs c.toList):
  ∃n,Ext p h w (p++[(w.heap.size,n)]) (Jn h t xs) { w with heap:=w.heap.push (.cells c t) }/\(p++[(w.heap.size,n)])[h.nx]?=some (w.heap.size,n)/\n=c.size:=by
 refine⟨c.size,Ext.push hr ⟨c,(0,0),rfl,rfl,by have:=a.length;simp at this;omega,?_,fun i _ d b=>⟨d,b⟩⟩,by rw[<-hr.len];simp,rfl⟩;have:=a.length;rw[List.take_of_length_le<|by simp at this ⊢;omega];exact a.toC
def Ha(T:Ce)(h:H)(t:TypeId):Option (V×H):=(T.inf t).map fun i=>(.ptr h.nx 0,Jn h t i.zero)
theorem cP(c:T.Ok P)(hr:R p h w){t:TypeId}{v:V}{h':H}(b:Ha T h t=some (v,h')):
  ∃v' p' w',(Instr.alloc t true<|.tuple #[]).run P w=.ok v' w'/\Ac p' v v'/\Ext p h w p' h' w':=by
 unfold Ha at b;rw[zn]at b;obtain⟨i,d,a⟩:=b;cases a;obtain⟨z,hz,hzr⟩:=EH c d;obtain⟨n,a,hp,_⟩:=OE hr t<|hzr p;refine⟨.pointer<|some ⟨w.heap.size,0,none⟩,_,_,?_,?_,a⟩
 ·unfold Instr.alloc;simp only[zd,hz,zc];unfold newVar;simp only[CD,zc,ze]
 ·simp only[Ac];exact⟨_,_,hp,rfl⟩
def bY(h:H)(t:TypeId)(x:V):V×H:=(.ptr h.nx 0,Jn h t x.cells)
theorem xR(hr:R p h w){t:TypeId}{x:V}{x':Value}(b:Ac p x x'):
  ∃v' p' w',(Instr.box t x').run P w=.ok v' w'/\Ac p' (bY h t x).1 v'/\Ext p h w p' (bY h t x).2 w':=by
 obtain⟨n,a,hp,_⟩:=OE hr t b.cells;refine⟨.pointer<|some ⟨w.heap.size,0,none⟩,_,_,?_,?_,a⟩
 ·unfold Instr.box newVar;simp only[zd,CD,zc,ze]
 ·simp only[bY,Ac];exact⟨_,_,hp,rfl⟩
def VM(op:BinOp)(x y:Z):Option V:=
 match op with
 | .add=>if x.length+y.length<=4611686018427387904 then some (.str<|x++y)else none
 | .eql=>some<|.bool<|x==y
 | .neq=>some<|.bool !(x==y)
 | .lss=>some<|.bool<|y8 x y
 | .leq=>some<|.bool<|y8 x y||x==y
 | .gtr=>some<|.bool !(y8 x y||x==y)
 | .geq=>some<|.bool !y8 x y
 |_=>none
theorem Gv(s:Z):(bytesOf s).toList=s:=ByteArray.toList_mk s
theorem BP(s:Z):(bytesOf s).size=s.length:=by simp[bytesOf,ByteArray.size]
theorem QM(x y:Z):bytesOf x++bytesOf y=bytesOf (x++y):=by
 apply qf;simp[bytesOf]
theorem tH{op:BinOp}{x y:Z}{v:V}(a:VM op x y=some v):
  ∃v',(Op.stringOp op (bytesOf x)<|bytesOf y).run P w=.ok v' w/\Ac p v v':=by
 unfold Op.stringOp;simp only[Gv,BP];cases op<;>simp only[VM]at a
 case add=>
  split at a
  ·cases a;rename_i b;rw[wc<|by simp[IntKind.max,IntKind.signed,IntKind.bits];omega];exact⟨_,ze ..,by simp[Ac,QM]⟩
  ·cases a
 all_goals first
  |(cases a;done)
  |(cases a;exact⟨_,ze ..,by simp[Ac]⟩)
def Qt(op:BinOp)(k:IntKind)(a b:Int):Option V:=
 match op with
 | .add=>some<|.int k<|k.wrap<|a+b
 | .sub=>some<|.int k<|k.wrap<|a-b
 | .mul=>some<|.int k<|k.wrap<|a*b
 | .quo=>if b=0 then none else some<|.int k<|k.wrap<|a.tdiv b
 | .rem=>if b=0 then none else some<|.int k<|a.tmod b
 | .and=>some<|.int k<|k.wrap (zz k.bits a&&&zz k.bits b).toNat
 | .or=>some<|.int k<|k.wrap (zz k.bits a|||zz k.bits b).toNat
 | .xor=>some<|.int k<|k.wrap (zz k.bits a^^^zz k.bits b).toNat
 | .andNot=>some<|.int k<|k.wrap (zz k.bits a&&& ~~~zz k.bits b).toNat
 | .eql=>some<|.bool<|a==b
 | .neq=>some<|.bool<|a !=b
 | .lss=>some<|.bool<|a<b
 | .leq=>some<|.bool<|a<=b
 | .gtr=>some<|.bool<|a>b
 | .geq=>some<|.bool<|a>=b
 |_=>none
def cE(op:BinOp)(k:IntKind)(a b:Int):Option V:=
 if b<0 then none else
 match op with
 | .shl=>some<|.int k<|k.wrap<|a*2^(min b.toNat k.bits)
 | .shr=>some<|.int k<|a.fdiv<|2^(min b.toNat k.bits)
 |_=>none
def NT(ks:Option (List FK))(xs a:List V):Option Bool:=
 match ks with
 |some ks=>bif fit ks xs&&fit ks a then B6 xs a else none
 |none=>none
theorem H4{ks:Option (List FK)}{xs b:List V}{r:Bool}(h:NT ks xs b=some r):∃l,ks=some l/\fit l xs=true/\fit l b=true/\B6 xs b=some r:=by
 unfold NT at h;split at h
 case h_2=>cases h
 rename_i l;cases a:(fit l xs&&fit l b)with
 |false=>simp[a]at h
 |true=>simp only[a,we]at h;simp only[zw]at a;exact⟨l,rfl,a.1,a.2,h⟩
def BD(T:Ce)(t:TypeId)(x y:V):Option Bool:=
 match T.und t,x,y with
 |some .bool,.bool a,.bool b=>some<|a==b
 |some (.pointer _),.nilp,y=>match y with| .nilp=>some true| .ptr .. =>some false|_=>none
 |some (.pointer _),.ptr ..,.nilp=>some false
 |some (.pointer e),.ptr a i,.ptr b j=>if a=b then match T.inf e with|some d=>if d.size≠0 then some (i==j)else none|_=>none else none
 |some (.interface _),.iface ..,.nili=>some false
 |some (.interface _),.nili,.iface .. =>some false
 |some (.slice _),.nils,y=>match y with| .nils=>some true| .sl .. =>some false| .esl=>some false| .es0=>some false|_=>none
 |some (.slice _),.sl ..,.nils=>some false
 |some (.slice _),.esl,.nils=>some false
 |some (.slice _),.es0,.nils=>some false
 |some (.map _ _),.nilm,y=>match y with| .nilm=>some true| .map .. =>some false|_=>none
 |some (.map _ _),.map ..,.nilm=>some false
 |some (.func ..),.nilf,.nilf=>some true
 |some (.func ..),.fn ..,.nilf=>some false
 |some (.func ..),.nilf,.fn .. =>some false
 |_,.agg xs,.agg c=>NT (T.flat t) xs c
 |_,_,_=>none
def MI(T:Ce)(op:BinOp)(t:TypeId)(x y:V):Option V:=
 match op,x,y with
 | .shl,.int k a,.int _ b=>cE .shl k a b
 | .shr,.int k a,.int _ b=>cE .shr k a b
 |op,.int k a,.int c b=>if k=c then Qt op k a b else none
 |op,.str a,.str b=>VM op a b
 | .eql,x,y=>(BD T t x y).map fun b=>.bool b
 | .neq,x,y=>(BD T t x y).map fun b=>.bool !b
 |_,_,_=>none
theorem uF{op:BinOp}{k:IntKind}{a b:Int}{v:V}(d:op≠ .shl/\op≠ .shr)(c:Qt op k a b=some v)(t:TypeId):
  ∃v',(binOp op t (.int k a)<|.int k b).run P w=.ok v' w/\Ac p v v':=by
 cases op<;>simp only[Qt]at c<;>simp only[binOp,wm,not_true_eq_false,vg,Op.intArith,Op.intDiv,Op.intBits,Op.intCmp]
 case quo|rem=>
  split at c
  ·cases c
  ·rename_i e;cases c;rw[wc e];exact⟨_,ze ..,by simp[Ac]⟩
 case shl=>exact wh rfl d.1
 case shr=>exact wh rfl d.2
 all_goals (cases c;exact⟨_,ze ..,by simp[Ac]⟩)
theorem Sx(g:T.Ok P){t:TypeId}{x y:V}{x' y':Value}(c:Ac p x x')(b:Ac p y y'){r:Bool}(a:BD T t x y=some r):
  (qi t x' y').run P w=.ok r w:=by
 unfold BD at a;split at a
 case h_16=>
  rename_i xs m;obtain⟨l,i,d,o,n⟩:=H4 a;simp only[Ac]at c b;obtain⟨u,rfl,j⟩:=c;obtain⟨v,rfl,hv⟩:=b;exact g.flat t l i p xs m u v r w d o j hv n
 case h_17=>cases a
 all_goals (rename_i j;simp only[Ac]at c b;unfold qi Op.maxDepth Op.equalIn;rw[zd,AA g j];simp only[zc])
 case h_1=>subst c b;cases a;simp
 case h_2=>subst c;split at a<;>first|(cases a;done)|(cases a;simp only[Ac]at b;first|(subst b;simp;done)|(obtain⟨_,_,_,rfl⟩:=b;simp))
 case h_3=>obtain⟨_,_,_,rfl⟩:=c;subst b;cases a;simp
 case h_4=>
  split at a
  case isFalse=>cases a
  rename_i e;subst e;split at a
  case h_2=>cases a
  rename_i s f;split at a
  case isFalse=>cases a
  rename_i k;cases a;obtain⟨q,n1,i,rfl⟩:=c;obtain⟨r2,n2,d,rfl⟩:=b;rw[i]at d;cases d;simp only[zd,BE g f,zc,k,wm,not_false_eq_true,wk];unfold sameAddr;simp only[beq_self_eq_true,wk,ze];congr 1;rw[Bool.eq_iff_iff];simp
 case h_5=>obtain⟨_,rfl,_⟩:=c;subst b;cases a;simp
 case h_6=>obtain⟨_,rfl,_⟩:=b;subst c;cases a;simp
 case h_7=>subst c;split at a<;>first|(cases a;done)|(cases a;simp only[Ac]at b;first|(subst b;simp;done)|(obtain⟨_,_,_,_,rfl,_⟩:=b;simp;done)|(obtain⟨_,_,rfl⟩:=b;simp;done)|(obtain⟨_,rfl⟩:=b;simp;done))
 case h_8=>obtain⟨_,_,_,_,rfl,_⟩:=c;subst b;cases a;simp
 case h_9=>obtain⟨_,_,rfl⟩:=c;subst b;cases a;simp
 case h_10=>obtain⟨_,rfl⟩:=c;subst b;cases a;simp
 case h_11=>subst c;split at a<;>first|(cases a;done)|(cases a;simp only[Ac]at b;first|(subst b;simp;done)|(obtain⟨_,_,_,rfl⟩:=b;simp))
 case h_12=>obtain⟨_,_,_,rfl⟩:=c;subst b;cases a;simp
 case h_13=>subst c b;cases a;simp
 case h_14=>obtain⟨_,_,rfl,_⟩:=c;subst b;cases a;simp
 case h_15=>obtain⟨_,_,rfl,_⟩:=b;subst c;cases a;simp
def Uf:V->Bool
 | .int .. | .str _| .tup _=>false
 |_=>true
theorem LP{t:TypeId}{x y:V}{r:Bool}(a:BD T t x y=some r):Uf x=true:=by
 unfold BD at a;split at a<;>first|rfl|(cases a)
theorem Oh{t:TypeId}{x:V}{x' y':Value}(a:Ac p x x')(hp:Uf x=true):
  binOp .eql t x' y'=(do pure (.bool<|<-qi t x' y'))/\binOp .neq t x' y'=(do pure (.bool<|!(<-qi t x' y'))):=by
 cases x<;>simp only[Uf]at hp<;>simp only[Ac]at a
 case int|str|tup=>cases hp
 case ptr=>obtain⟨_,_,_,rfl⟩:=a;cases y'<;>exact⟨rfl,rfl⟩
 case esl=>obtain⟨_,_,rfl⟩:=a;cases y'<;>exact⟨rfl,rfl⟩
 case es0=>obtain⟨_,rfl⟩:=a;cases y'<;>exact⟨rfl,rfl⟩
 case sl=>obtain⟨_,_,_,_,rfl,_⟩:=a;cases y'<;>exact⟨rfl,rfl⟩
 case map=>obtain⟨_,_,_,rfl⟩:=a;cases y'<;>exact⟨rfl,rfl⟩
 case yld=>obtain⟨_,_,_,rfl⟩:=a;cases y'<;>exact⟨rfl,rfl⟩
 case fn=>obtain⟨_,_,rfl,_⟩:=a;cases y'<;>exact⟨rfl,rfl⟩
 case iface=>obtain⟨_,rfl,_⟩:=a;cases y'<;>exact⟨rfl,rfl⟩
 case agg=>obtain⟨_,rfl,_⟩:=a;cases y'<;>exact⟨rfl,rfl⟩
 all_goals (subst a;cases y'<;>exact⟨rfl,rfl⟩)
theorem uX(i:T.Ok P){op:BinOp}{t:TypeId}{x y:V}{x' y':Value}(c:Ac p x x')(d:Ac p y y'){v:V}(a:MI T op t x y=some v):
  ∃v',(binOp op t x' y').run P w=.ok v' w/\Ac p v v':=by
 unfold MI at a;split at a
 case h_1=>
  simp only[Ac]at c d;subst c d;unfold cE at a;split at a
  ·cases a
  ·rename_i g;cases a;simp only[binOp,Op.shift,wc g];exact⟨_,ze ..,by simp[Ac]⟩
 case h_2=>
  simp only[Ac]at c d;subst c d;unfold cE at a;split at a
  ·cases a
  ·rename_i g;cases a;simp only[binOp,Op.shift,wc g];exact⟨_,ze ..,by simp[Ac]⟩
 case h_3=>
  rename_i f j;split at a
  ·rename_i e;subst e;simp only[Ac]at c d;subst c d;refine uF ⟨?_,?_⟩ a t
   ·intro e;subst e;simp at f
   ·intro e;subst e;simp at j
  ·cases a
 case h_4=>
  simp only[Ac]at c d;subst c d;have:=tH (P:=P) (p:=p) (w:=w) a;cases op<;>simpa only[binOp]using this
 case h_5=>
  rw[zn]at a;obtain⟨b,f,rfl⟩:=a;rw[(Oh c<|LP f).1];simp only[zd,Sx i c d f,zc];exact⟨_,ze ..,by simp[Ac]⟩
 case h_6=>
  rw[zn]at a;obtain⟨b,f,rfl⟩:=a;rw[(Oh c<|LP f).2];simp only[zd,Sx i c d f,zc];exact⟨_,ze ..,by simp[Ac]⟩
 case h_7=>cases a
theorem VH{a:V}{c:Value}(b:Ac p a c)(h:a≠ .nili):c≠ .nilIface:=by
 intro e;subst e;cases a<;>simp only[Ac]at b<;>first|exact h rfl|(simp at b;done)|(obtain⟨_,_,_,_,b,_⟩:=b;cases b;done)|(obtain⟨_,_,_,b⟩:=b;cases b;done)|(obtain⟨_,_,b,_⟩:=b;cases b;done)|(obtain⟨_,b,_⟩:=b;cases b;done)
theorem oV{a:V}{c:Array Value}(b:Ac p a (.agg c)):∃xs,a=.agg xs/\Ax p xs c.toList:=by
 cases a<;>simp only[Ac]at b<;>first|(simp at b;done)|(obtain⟨_,_,_,_,b,_⟩:=b;cases b;done)|(obtain⟨_,_,_,b⟩:=b;cases b;done)|(obtain⟨_,_,b,_⟩:=b;cases b;done)|(obtain⟨_,b,h⟩:=b;cases b<;>exact⟨_,rfl,h⟩)
theorem Qs{op:BinOp}{t:TypeId}{x y:Operand}{a b':Value}(c:op≠ .eql)(b:op≠ .neq):eqGuard op t x y a b'=pure ():=by
 cases op<;>first|rfl|exact wh rfl c|exact wh rfl b
theorem bO{op:BinOp}{t:TypeId}{x y:Operand}{a b':Value}(h0:a≠ .nilIface\/b'≠ .nilIface)(f:(∃c d,a=.agg c/\b'=.agg d)->P.eqGuardType P.depth t=false):
  (eqGuard op t x y a b').run P w=.ok () w:=by
 by_cases b:op=.eql\/op=.neq
 ·have:eqGuard op t x y a b'=eqGuard .eql t x y a b':=by rcases b with rfl|rfl<;>rfl
  rw[this];unfold eqGuard;simp only[Bool.not_true,zm,vg];split
  ·simp at h0
  ·have:=f ⟨_,_,rfl,rfl⟩;simp[this]
  ·rfl
 ·rw[Qs (fun e=>b<|.inl e)<|fun e=>b<|.inr e];rfl
theorem cW(u:T.Ok P){op:BinOp}{t:TypeId}{x y:Operand}{a b:V}{n b':Value}(k:Ac p a n)(j:Ac p b b'){v:V}(o:MI T op t a b=some v):
  (eqGuard op t x y n b').run P w=.ok () w:=by
 by_cases f:op=.eql\/op=.neq
 ·refine bO ?_ ?_
  ·by_cases m:a=.nili
   ·by_cases s:b=.nili
    ·subst m s;have:BD T t .nili .nili=none:=by unfold BD;split<;>simp_all
     rcases f with rfl|rfl<;>simp[MI,this]at o
    ·exact .inr<|VH j s
   ·exact .inl<|VH k m
  ·rintro⟨c,d,rfl,rfl⟩;obtain⟨xs,rfl,g⟩:=oV k;obtain⟨ys,rfl,h2⟩:=oV j;have i:BD T t (.agg xs) (.agg ys)=NT (T.flat t) xs ys:=by unfold BD;split<;>simp_all
   cases q:NT (T.flat t) xs ys with
   |some r=>obtain⟨l,g,_⟩:=H4 q;exact u.guard t l g
   |none=>
    rw[q]at i;rcases f with rfl|rfl<;>simp[MI,i]at o
 ·rw[Qs (fun e=>f<|.inl e)<|fun e=>f<|.inr e];rfl
def dun(op:UnOp)(x:V):Option V:=
 match op,x with
 | .neg,.int k n=>some<|.int k<|k.wrap<|0-n
 | .xor,.int k n=>Qt .xor k (if k.signed then -1 else k.max) n
 | .not,.bool b=>some<|.bool !b
 |_,_=>none
theorem AbF{op:UnOp}{x:V}{x':Value}(b:Ac p x x'){v:V}(a:dun op x=some v):∃v',(Op.unary op x').run P w=.ok v' w/\Ac p v v':=by
 unfold dun at a;split at a
 case h_1=>simp only[Ac]at b;subst b;cases a;exact⟨_,rfl,by simp[Ac]⟩
 case h_2=> 
  simp only[Ac]at b;subst b;simp only[Qt,zh]at a;subst a;exact⟨_,rfl,by simp[Ac]⟩
 case h_3=>simp only[Ac]at b;subst b;cases a;exact⟨_,rfl,by simp[Ac]⟩
 case h_4=>cases a
def yX:V->Option UInt8
 | .int .u8 (.ofNat n)=>some<|yr n
 |_=>none
def bytes?:List V->Option Z
 |[]=>some []
 |v::vs=>
  match yX v,bytes? vs with
  |some b,some a=>some (b::a)
  |_,_=>none
def Gy(T:Ce)(h:H)(src dst:TypeId)(x:V):Option V:=
 match T.und src,T.und dst,x with
 |some _,some<|.int k,.int _ n=>some<|.int k<|k.wrap n
 |some _,some .string,.str s=>some<|.str s
 |some (.slice e),some .string,.nils=>match T.und e with|some (.int .u8)=>some (.str [])|_=>none
 |some (.slice e),some .string,.sl b off len _ _=>
  match T.und e with
  |some (.int .u8)=>match rd h b off len with
   |some cs=>(bytes? cs).map .str
   |none=>none
  |_=>none
 |_,_,_=>none
theorem Nt{f:Value->ByteArray->Sem (ForInStep ByteArray)}(m:∀n s,f (.int .u8 n) s=pure (ForInStep.yield<|s.push<|yr n.toNat)):
  ∀(cs:List V) (vs:List Value) (j:Z) (a:Z),Ax p cs vs->bytes? cs=some j->
  ∀w,(forIn vs (bytesOf a) f).run P w=.ok (bytesOf<|a++j) w
 |[],vs,j,a,d,g,w=>by
  simp at d;simp[bytes?]at g;subst d g;simp[forIn]
 |c::cs,[],_,_,d,_,_=>by simp at d
 |c::cs,v::vs,j,a,d,g,w=>by
  simp only[Bk]at d;unfold bytes? at g;split at g
  case h_2=>cases g
  rename_i b tl k l;cases g;unfold yX at k;split at k
  case h_2=>cases k
  rename_i n;cases k;have i:=d.1;simp only[Ac]at i;subst i;rw[List.forIn_cons,m];simp only[zd,ze,zc];have:=Nt m cs vs tl (a++[yr n]) d.2 l w;have e:(bytesOf a).push (yr (Int.ofNat n).toNat)=bytesOf (a++[yr n]):=by
   apply qf;simp[bytesOf,ByteArray.push]
  rw[e,this];simp
theorem iX(b:T.Ok P)(hr:R p h w){src dst:TypeId}{x:V}{x':Value}(d:Ac p x x'){v:V}(a:Gy T h src dst x=some v):
  ∃v',(convert src dst x').run P w=.ok v' w/\Ac p v v':=by
 unfold Gy at a;split at a
 case h_1=>
  rename_i g f;simp only[Ac]at d;subst d;cases a;unfold convert;simp only[zd,AA b g,AA b f,zc];exact⟨_,rfl,by simp[Ac]⟩
 case h_2=>
  rename_i g f;simp only[Ac]at d;subst d;cases a;unfold convert;simp only[zd,AA b g,AA b f,zc];exact⟨_,rfl,by simp[Ac]⟩
 case h_3=>
  rename_i g f;simp only[Ac]at d;subst d;split at a
  case h_2=>cases a
  rename_i k;cases a;unfold convert;simp only[zd,AA b g,AA b f,AA b k,zc];exact⟨_,rfl,by simp[Ac,bytesOf];rfl⟩
 case h_4=>
  rename_i g f;simp only[Ac]at d;split at a
  case h_2=>cases a
  rename_i k;split at a
  case h_2=>cases a
  rename_i cs i;rw[zn]at a;obtain⟨l,j,rfl⟩:=a;obtain⟨r,n,c,g1,rfl,g2⟩:=d;obtain⟨r',m,vs,k1,k2,k3,_⟩:=run_loadCells (P:=P) hr i;rw[g1]at k1;cases k1;refine⟨.string<|bytesOf l,?_,by simp[Ac]⟩;unfold convert;simp only[zd,AA b g,AA b f,AA b k,zc];unfold Conv.bytesToString;simp only[zd,k2,zc];simp only[List.forIn_toArray];have e:ByteArray.empty=bytesOf []:=rfl;rw[e,Nt (P:=P) (fun n s=>rfl) cs vs l [] k3 j w];simp
 case h_5=>cases a
def LM(T:Ce)(t:TypeId)(cs:List V)(off:Nat):Option V:=
 match T.und t,T.inf t with
 |some d,some i=>bif Ek d then some (.agg<|(cs.drop off).take i.size)else cs[off]?
 |_,_=>none
theorem Vz(e:T.Ok P){t:TypeId}{cs:List V}{c:Array Value}{off:Nat}(f:Ax p cs c.toList){v:V}(a:LM T t cs off=some v):
  ∃v',(part t c off).run P w=.ok v' w/\Ac p v v':=by
 unfold LM at a;split at a
 case h_2=>cases a
 rename_i d i j g;unfold part;simp only[zd,RQ e j,zc];cases b:Ek d with
 |true=>
  simp only[b,we,zh]at a;subst a;simp only[wk,zd,BE e g,zc];refine⟨_,ze ..,?_⟩;simp only[Ac];refine⟨_,rfl,?_⟩;have:(c.extract off<|off+i.size).toList=(c.toList.drop off).take i.size:=by
   rw[Array.toList_extract];simp[List.extract]
  rw[this];exact(f.drop off).take i.size
 |false=>
  simp only[b,wg]at a;obtain⟨u,l,k⟩:=f.get a;have:c[off]?=some u:=by simpa using l
  simp only[zm,vg,this];exact⟨u,rfl,k⟩
def K3(T:Ce)(t:TypeId)(x:V)(f:Nat):Option V:=
 match T.und t,x with
 |some (.struct fs),.agg cs=>match fs[f]? with
  |some a=>LM T a.type cs a.offset
  |none=>none
 |_,_=>none
theorem dR(b:T.Ok P){t:TypeId}{x:V}{x':Value}{f:Nat}(d:Ac p x x'){v:V}(a:K3 T t x f=some v):
  ∃v',(Instr.field t x' f).run P w=.ok v' w/\Ac p v v':=by
 unfold K3 at a;split at a
 case h_2=>cases a
 rename_i fs cs g;split at a
 case h_2=>cases a
 rename_i j e;simp only[Ac]at d;obtain⟨c,rfl,i⟩:=d;unfold Instr.field;simp only[zd,AA b g,zc,e];unfold asAgg;simp only[ze,zc];exact Vz b i a
def Kx(T:Ce)(t:TypeId)(x:V)(f:Nat):Option V:=
 match T.und t,x with
 |some (.struct fs),.ptr b off=>match fs[f]? with
  |some a=>match T.inf a.type with
   |some i=>if i.size=0 then none else some<|.ptr b<|off+a.offset
   |none=>none
  |none=>none
 |_,_=>none
theorem dH(c:T.Ok P){t:TypeId}{x:V}{x':Value}{f:Nat}(d:Ac p x x'){v:V}(a:Kx T t x f=some v):
  ∃v',(Instr.fieldAt t x' f).run P w=.ok v' w/\Ac p v v':=by
 unfold Kx at a;split at a
 case h_2=>cases a
 rename_i fs b off g;split at a
 case h_2=>cases a
 rename_i l e;split at a
 case h_2=>cases a
 rename_i i k;split at a
 case isTrue=>cases a
 rename_i j;cases a;simp only[Ac]at d;obtain⟨r,n,hp,rfl⟩:=d;unfold Instr.fieldAt;simp only[zd,AA c g,zc,e];unfold yb fieldPlace;simp only[ze,zc,zd,BE c k,j,vg,Addr.H2];exact⟨_,rfl,by simp only[Ac];exact⟨_,_,hp,rfl⟩⟩
def Dn(T:Ce)(t:TypeId)(x c:V):Option V:=
 match T.und t,x,c with
 |some (.slice e),.sl b off len _ _,.int _ i=>
  match T.inf e,i with
  |some a,.ofNat n=>bif y7 n len then some (.ptr b<|off+n*a.size)else none
  |_,_=>none
 |some (.array len e),.ptr b off,.int _ i=>
  match T.inf e,i with
  |some a,.ofNat n=>bif y7 n len then some (.ptr b<|off+n*a.size)else none
  |_,_=>none
 |_,_,_=>none
theorem HH(a b:Nat):y7 a b=decide (a<b):=by
 rw[Bool.eq_iff_iff];simp[Nat.blt_eq]
theorem eV(l:T.Ok P){t:TypeId}{x y:V}{x' j:Value}(q:Ac p x x')(g:Ac p y j){v:V}(a:Dn T t x y=some v):
  ∃v',(Instr.indexAt t x' j).run P w=.ok v' w/\Ac p v v':=by
 unfold Dn at a;split at a
 case h_3=>cases a
 case h_1=>
  rename_i e b off len cap o k i u;split at a
  case h_2=>cases a
  rename_i z n s;rw[HH]at a;by_cases f:n<len
  ·simp only[f,decide_true,we,zh]at a;subst a;simp only[Ac]at q g;obtain⟨r,m,c,hp,rfl,_⟩:=q;subst g;unfold Instr.indexAt asIntOf;have d:(0:Int)<=(n:Int)/\(n:Int)<(len:Int):=⟨by simp,by simpa using f⟩;simp only[zd,ze,AA l u,zc,d,vf,wk,BE l s,Addr.H2,zy,z7];exact⟨_,rfl,by simp only[Ac];exact⟨_,_,hp,rfl⟩⟩
  ·simp[f]at a
 case h_2=>
  rename_i len e b off k i u;split at a
  case h_2=>cases a
  rename_i z n s;rw[HH]at a;by_cases f:n<len
  ·simp only[f,decide_true,we,zh]at a;subst a;simp only[Ac]at q g;obtain⟨r,m,hp,rfl⟩:=q;subst g;unfold Instr.indexAt asIntOf yb;have d:(0:Int)<=(n:Int)/\(n:Int)<(len:Int):=⟨by simp,by simpa using f⟩;simp only[zd,ze,AA l u,zc,d,vf,wk,BE l s,Addr.H2,zy,z7];exact⟨_,rfl,by simp only[Ac];exact⟨_,_,hp,rfl⟩⟩
  ·simp[f]at a
def Ia(T:Ce)(t:TypeId)(x a:V):Option V:=
 match T.und t,x,a with
 |some .string,.str s,.int _ (.ofNat n)=>match s[n]? with
  |some b=>some<|.int .u8 b.toNat
  |none=>none
 |some (.array len e),.agg cs,.int _ (.ofNat n)=>
  match T.inf e with
  |some c=>bif y7 n len then LM T e cs (n*c.size)else none
  |_=>none
 |_,_,_=>none
theorem dZ(j:T.Ok P){t:TypeId}{x q:V}{x' i:Value}(l:Ac p x x')(d:Ac p q i){v:V}(a:Ia T t x q=some v):
  ∃v',(Instr.index t x' i).run P w=.ok v' w/\Ac p v v':=by
 unfold Ia at a;split at a
 case h_3=>cases a
 case h_1=>
  rename_i s k n m;split at a
  case h_2=>cases a
  rename_i b r;cases a;simp only[Ac]at l d;subst l d;unfold Instr.index asIntOf;have e:(bytesOf s)[n]?=some b:=by
   have u:=(zf.1 r).1;have o:=(zf.1 r).2;rw[getElem?_pos (bytesOf s) n<|by rw[BP];exact u];congr 1
  simp only[zd,ze,AA j m,zc,zy,Int.natCast_nonneg,wk,z7,e];exact⟨_,rfl,by simp[Ac]⟩
 case h_2=>
  rename_i len e cs k n m;split at a
  case h_2=>cases a
  rename_i z o;rw[HH]at a;by_cases g:n<len
  ·simp only[g,decide_true,we]at a;simp only[Ac]at l d;obtain⟨c,rfl,y⟩:=l;subst d;unfold Instr.index asIntOf;have f:(0:Int)<=(n:Int)/\(n:Int)<(len:Int):=⟨by simp,by simpa using g⟩;simp only[zd,ze,AA j m,zc,f,vf,wk,BE j o,zy,z7];exact Vz j y a
  ·simp[g]at a
def HF(x:V)(i:Nat):Option V:=
 match x with
 | .tup vs=>vs[i]?
 |_=>none
theorem Wm{x:V}{x':Value}{i:Nat}(b:Ac p x x'){v:V}(a:HF x i=some v):∃v',(Instr.extract x' i).run P w=.ok v' w/\Ac p v v':=by
 unfold HF at a;split at a
 case h_2=>cases a
 simp only[Ac]at b;obtain⟨c,rfl,d⟩:=b;obtain⟨u,h1,h2⟩:=d.get a;unfold Instr.extract;have:c[i]?=some u:=by simpa using h1
 simp only[this];exact⟨u,rfl,h2⟩
def CO(x:Option V)(y Hv:Nat):Option Nat:=
 match x with
 |none=>some Hv
 |some (.int _<|.ofNat n)=>bif zu n y then some n else none
 |_=>none
def Ki(mx:Option V)(o:Nat):Nat:=match mx with|some _=>0|none=>o
def lJ(a mx:Option V):Option Nat:=match a,mx with
 |none,some _=>none
 |_,_=>CO a 0 0
def Qy(mx:Option V):Bool:=match mx with
 |some _=>true
 |none=>false
def DP(T:Ce)(t:TypeId)(x:V)(lo a mx:Option V):Option V:=
 match T.und t,x with
 |some .string,.str s=>
  match mx,CO a s.length s.length with
  |none,some h=>match CO lo h 0 with
   |some l=>some<|.str<|(s.drop l).take<|h-l
   |none=>none
  |_,_=>none
 |some (.slice e),.sl b off len cap o=>
  match T.inf e,CO mx cap cap with
  |some c,some m=>match (match a,mx with|none,some _=>none|_,_=>CO a m len)with
   |some h=>match CO lo h 0 with
    |some l=>
     let o':=Ki mx o
     bif zt m l then(bif zt o' 0 then some (.sl b off (h-l) (m-l) 0)else some .esl)
     else bif zt o' 0||zt o' c.size then some (.sl b (off+l*c.size) (h-l) (m-l) o')else none
    |none=>none
   |none=>none
  |_,_=>none
 |some (.slice e),.nils=>
  match CO mx 0 0,lJ a mx,T.inf e with
  |some _,some h,some _=>match CO lo h 0 with
   |some _=>some .nils
   |none=>none
  |_,_,_=>none
 |some (.slice e),.esl=>
  match CO mx 0 0,lJ a mx,T.inf e with
  |some _,some h,some _=>match CO lo h 0 with
   |some _=>some<|bif Qy mx then .es0 else .esl
   |none=>none
  |_,_,_=>none
 |some (.slice e),.es0=>
  match CO mx 0 0,lJ a mx,T.inf e with
  |some _,some h,some _=>match CO lo h 0 with
   |some _=>some .es0
   |none=>none
  |_,_,_=>none
 |some (.array n e),.ptr b off=>
  match T.inf e,mx,CO a n n with
  |some c,none,some h=>match CO lo h 0 with
   |some l=>bif zt n l then some (.sl b off (h-l) (n-l) 0)else some<|.sl b (off+l*c.size) (h-l) (n-l) 0
   |none=>none
  |_,_,_=>none
 |_,_=>none
def Ge(p:Pl):Option V->Option Value->Prop
 |none,x=>x=none
 |some d,x=>∃v,x=some v/\Ac p d v
theorem B7{x:Option V}{x':Option Value}{y z n y':Nat}(f:Ge p x x')(b:CO x y z=some n)(j:y<=y'):
  (x=none/\x'=none/\n=z)\/(∃d u,x=some d/\x'=some u/\n<=y/\∀a (P:Program) (w:World),(Instr.sliceBound u y' a).run P w=.ok n w):=by
 cases x with
 |none=>simp only[Ge]at f;subst f;simp only[CO,zh]at b;exact .inl ⟨rfl,rfl,b.symm⟩
 |some d=>
  simp only[Ge]at f;obtain⟨u,rfl,g⟩:=f;refine .inr ⟨d,u,rfl,rfl,?_⟩;unfold CO at b;split at b
  case h_1=>rename_i e;cases e
  case h_3=>cases b
  rename_i k m e;cases e;by_cases c:m<=y
  ·simp only[ye c,we,zh]at b;subst b;simp only[Ac]at g;subst g;refine⟨c,fun a P w=>?_⟩;unfold Instr.sliceBound asIntOf;have i:(0:Int)<=(m:Int)/\(m:Int)<=(y':Int):=⟨by simp,by omega⟩;simp only[zd,ze,zc,zy,i,vf,wk,z7]
  ·have:zu m y=false:=by rw[Bool.eq_false_iff];simpa [yq]using c
   simp[this]at b
theorem Js{lo a mx:Option V}{k n j:Option Value}(e:Ge p lo k)(i:Ge p a n)(g:Ge p mx j){m h l:Nat}(r:CO mx 0 0=some m)(b:lJ a mx=some h)(o:CO lo h 0=some l)(c:Nat):
  (zr true 0 c k n j).run P w=.ok (0,0,bif Qy mx then 0 else c) w:=by
 unfold lJ at b;have h0:h=0:=by
  have:CO a 0 0=some h:=by
   cases mx with
   |none=>cases a<;>simpa using b
   |some d=>cases a with
    |none=>simp at b
    |some _=>simpa using b
  rcases B7 i this (zg _)with⟨_,_,rfl⟩|⟨_,_,_,_,h,_⟩<;>omega
 subst h0;have l0:l=0:=by rcases B7 e o (zg _)with⟨_,_,rfl⟩|⟨_,_,_,_,h,_⟩<;>omega
 subst l0;unfold zr;cases mx with
 |none=>
  have f:CO a 0 0=some 0:=by cases a<;>simpa using b
  simp only[Ge]at g;subst g;rcases B7 i f (qd c)with⟨_,rfl,_⟩|⟨_,u,_,rfl,_,t⟩<;>rcases B7 e o (zg _)with⟨_,rfl,_⟩|⟨_,u2,_,rfl,_,q⟩
  all_goals simp only[Qy,wg,z6,zm,vg,zd,ze,zc,wk, *]
 |some d=>
  cases a with
  |none=>simp at b
  |some x=>
   have f:CO (some x) 0 0=some 0:=by simpa using b
   rcases B7 g r (qd c)with⟨h,_,_⟩|⟨_,y,_,rfl,v,s⟩
   ·cases h
   ·obtain rfl:m=0:=ae
    rcases B7 i f (zg _)with⟨h,_,_⟩|⟨_,u,_,rfl,_,t⟩
    ·cases h
    ·rcases B7 e o (zg _)with⟨_,rfl,_⟩|⟨_,u2,_,rfl,_,q⟩
     all_goals simp only[Qy,we,Option.isSome_some,zd,ze,zc,wk, *]
theorem bX(C:T.Ok P){t:TypeId}{x:V}{lo hi mx:Option V}{x':Value}{G I M:Option Value}(L:Ac p x x')(j:Ge p lo G)(i:Ge p hi I)(B:Ge p mx M)
  {v:V} (f:DP T t x lo hi mx=some v):∃v',(zp t x' G I M).run P w=.ok v' w/\Ac p v v':=by
 unfold DP at f;split at f
 case h_7=>cases f
 case h_1=>
  rename_i s y;split at f
  case h_2=>cases f
  rename_i q g;split at f
  case h_2=>cases f
  rename_i l F;cases f;simp only[Ge]at B;subst B;simp only[Ac]at L;subst L;refine⟨.string<|bytesOf<|(s.drop l).take<|q-l,?_,by simp[Ac]⟩;unfold zp;simp only[zd,AA C y,zc];unfold yt;simp only[zd,AA C y,zc,z6,zm,vg,BP];unfold zr;have e:(bytesOf s).extract l q=bytesOf ((s.drop l).take<|q-l):=by
   apply qf;simp[bytesOf,List.extract]
  rcases B7 i g (zg _)with⟨_,rfl,rfl⟩|⟨_,u,_,rfl,_,hu⟩<;>rcases B7 j F (zg _)with⟨_,rfl,rfl⟩|⟨_,u2,_,rfl,_,S⟩
  all_goals simp only[z6,zm,vg,zd,ze,zc, *]
 case h_2=>
  rename_i e b off len cap o y;split at f
  case h_2=>cases f
  rename_i Y m W hm;split at f
  case h_2=>cases f
  rename_i q g;split at f
  case h_2=>cases f
  rename_i l F;simp only[Ac]at L;obtain⟨r,n,c,hp,rfl,Z,O,ho1,ho2⟩:=L;obtain⟨K,gm2,hhm,R,hbounds⟩:∃K,((mx=none/\K=c/\m=cap)\/(mx≠none/\K=m))/\q<=m/\l<=q/\(zr true len c G I M).run P w=.ok (l,q,K) w:=by
   have R:l<=q:=by
    rcases B7 j F (zg _)with⟨_,_,rfl⟩|⟨_,_,_,_,h,_⟩
    ·exact qd _
    ·exact h
   rcases B7 B hm O with⟨rfl,rfl,rfl⟩|⟨dm,um,rfl,rfl,hm1,hum⟩
   ·have z:CO hi m len=some q:=by cases hi<;>simpa using g
    refine⟨c,.inl ⟨rfl,rfl,rfl⟩,?_,R,?_⟩
    ·rcases B7 i z O with⟨_,_,rfl⟩|⟨_,_,_,_,h,_⟩
     ·exact Z
     ·exact h
    ·unfold zr;rcases B7 i z O with⟨_,rfl,rfl⟩|⟨_,u,_,rfl,_,hu⟩<;>rcases B7 j F (zg _)with⟨_,rfl,rfl⟩|⟨_,u2,_,rfl,_,S⟩
     all_goals simp only[z6,zm,vg,zd,ze,zc,wk, *]
   ·cases hi with
    |none=>simp at g
    |some dh=>
     have z:CO (some dh) m len=some q:=by simpa using g
     refine⟨m,.inr ⟨by simp,rfl⟩,?_,R,?_⟩
     ·rcases B7 i z (zg _)with⟨h,_⟩|⟨_,_,_,_,h,_⟩
      ·cases h
      ·exact h
     ·unfold zr;rcases B7 i z (zg _)with⟨h,_,_⟩|⟨_,u,_,rfl,_,hu⟩
      ·cases h
      ·rcases B7 j F (zg _)with⟨_,rfl,rfl⟩|⟨_,u2,_,rfl,_,S⟩
       all_goals simp only[Option.isSome_some,zd,ze,zc,wk, *]
  have gm1:m<=K:=by rcases gm2 with⟨_,y,h2⟩|⟨_,y⟩<;>omega
  have A:(zp t (.slice (some ⟨r,off,none⟩) len c) G I M).run P w=.ok (.slice (if K=l then some ⟨r,off,none⟩else some ⟨r,off+l*Y.size,none⟩) (q-l)<|K-l) w:=by
   unfold zp;simp only[zd,AA C y,zc];unfold yt;simp only[zd,AA C y,zc,hbounds,BE C W,ze];congr 2;split<;>simp
  refine⟨_,A,?_⟩;simp only[Bw]at f;by_cases D:m=l
  ·simp only[D,decide_true,we]at f;by_cases J:Ki mx o=0
   ·simp only[J,decide_true,we,zh]at f;subst f;have hm':K=l:=by
     rcases gm2 with⟨Q,X,k3⟩|⟨Q,X⟩
     ·subst Q;simp only[Ki]at J;have:=ho1 J;omega
     ·omega
    simp only[hm',wk,Ac];exact⟨r,n,_,hp,rfl,by omega,by omega,fun _=>by omega,by simp⟩
   ·simp only[J,decide_false,wg,zh]at f;subst f;have U:q-l=0:=ae
    simp only[U,Ac];by_cases hm2:K=l
    ·exact⟨_,_,by rw[wd hm2]⟩
    ·exact⟨_,_,by rw[wc hm2]⟩
  ·simp only[D,decide_false,wg]at f;by_cases J:Ki mx o=0\/Ki mx o=Y.size
   ·have E:(decide (Ki mx o=0)||decide (Ki mx o=Y.size))=true:=by simpa using J
    simp only[E,we,zh]at f;subst f;have hne:K≠l:=ae
    simp only[hne,vg,Ac];refine⟨r,n,_,hp,rfl,by omega,by omega,fun k=>?_,fun k=>?_⟩
    ·rcases gm2 with⟨Q,X,k3⟩|⟨Q,X⟩
     ·subst Q;simp only[Ki]at k;have:=ho1 k;omega
     ·omega
    ·rcases gm2 with⟨Q,X,k3⟩|⟨Q,X⟩
     ·subst Q;simp only[Ki]at k J ⊢;rcases J with J|J
      ·exact wh J k
      ·have:=ho2 k;subst X;rw[<-J];have e:off+l*o+(K-l)*o=off+K*o:=by
        rw[Nat.sub_mul];have:l*o<=K*o:=Nat.mul_le_mul_right _ ae;omega
       omega
     ·cases mx with
      |none=>exact wh rfl Q
      |some d=>simp[Ki]at k
   ·have E:(decide (Ki mx o=0)||decide (Ki mx o=Y.size))=false:=by
     simpa using J
    simp[E]at f
 case h_3=>
  rename_i e y;split at f
  case h_2=>cases f
  rename_i mm q tz N g U;split at f
  case h_2=>cases f
  rename_i l F;cases f;simp only[Ac]at L;subst L;refine⟨.slice none 0 0,?_,by simp[Ac]⟩;unfold zp;simp only[zd,AA C y,zc];unfold yt;simp only[zd,AA C y,zc,Js (P:=P) (w:=w) j i B N g F 0];cases mx<;>simp[Qy,BE C U]
 case h_4=>
  rename_i e y;split at f
  case h_2=>cases f
  rename_i mm q tz N g U;split at f
  case h_2=>cases f
  rename_i l F;simp only[Ac]at L;obtain⟨a,c,rfl⟩:=L;have A:∃a',(zp t (.slice (some a) 0 c) G I M).run P w=.ok (.slice (some a') 0<|bif Qy mx then 0 else c) w:=by
   unfold zp;simp only[zd,AA C y,zc];unfold yt;simp only[zd,AA C y,zc,Js (P:=P) (w:=w) j i B N g F c];simp only[BE C U,zc,ze,Nat.sub_zero,Nat.sub_self];split
   ·exact⟨_,rfl⟩
   ·exact⟨_,rfl⟩
  obtain⟨a',ha'⟩:=A;refine⟨_,ha',?_⟩;cases f;cases mx with
  |none=>simp only[Qy,wg,Ac];exact⟨_,_,rfl⟩
  |some d=>simp only[Qy,we,Ac];exact⟨_,rfl⟩
 case h_5=>
  rename_i e y;split at f
  case h_2=>cases f
  rename_i mm q tz N g U;split at f
  case h_2=>cases f
  rename_i l F;cases f;simp only[Ac]at L;obtain⟨a,rfl⟩:=L;refine⟨.slice (some a) 0 0,?_,by simp only[Ac];exact⟨_,rfl⟩⟩;unfold zp;simp only[zd,AA C y,zc];unfold yt;simp only[zd,AA C y,zc,Js (P:=P) (w:=w) j i B N g F 0];cases mx<;>simp[Qy,BE C U]
 case h_6=>
  rename_i nn e b off y;split at f
  case h_2=>cases f
  rename_i Y q W g;split at f
  case h_2=>cases f
  rename_i l F;simp only[Ge]at B;subst B;simp only[Ac]at L;obtain⟨r,n,hp,rfl⟩:=L;have R:l<=q:=by rcases B7 j F (zg _)with⟨_,_,rfl⟩|⟨_,_,_,_,h,_⟩<;>omega
  have hhn:q<=nn:=by rcases B7 i g (zg _)with⟨_,_,rfl⟩|⟨_,_,_,_,h,_⟩<;>omega
  have A:(zp t (.pointer<|some ⟨r,off,none⟩) G I none).run P w=.ok (.slice (some<|if nn=l then⟨r,off,none⟩else⟨r,off+l*Y.size,none⟩) (q-l)<|nn-l) w:=by
   unfold zp;simp only[zd,AA C y,zc];unfold yb zr;rcases B7 i g (zg _)with⟨_,rfl,rfl⟩|⟨_,u,_,rfl,_,hu⟩<;>rcases B7 j F (zg _)with⟨_,rfl,rfl⟩|⟨_,u2,_,rfl,_,S⟩
   all_goals simp only[z6,zm,vg,zd,ze,zc,BE C W,Addr.H2, *]
  refine⟨_,A,?_⟩;simp only[Bw]at f;by_cases D:nn=l
  ·simp only[D,decide_true,we,zh]at f;subst f;simp only[D,wk,Ac];exact⟨r,n,_,hp,rfl,by omega,by omega,fun _=>by omega,by simp⟩
  ·simp only[D,decide_false,wg,zh]at f;subst f;simp only[D,vg,Ac];exact⟨r,n,_,hp,rfl,by omega,by omega,fun _=>by omega,by simp⟩
def i64(n:Nat):V:=.int .i64<|.ofNat n
def Gn(T:Ce)(h:H)(ts:Array TypeId)(args:List V):Option V:=
 match ts[0]?,args with
 |some t,[x]=>
  match T.und t,x with
  |some .string,.str s=>some<|i64 s.length
  |some (.array n _),_=>some<|i64 n
  |some (.slice _),.sl _ _ len _ _=>some<|i64 len
  |some (.slice _),.nils=>some<|i64 0
  |some (.slice _),.esl=>some<|i64 0
  |some (.slice _),.es0=>some<|i64 0
  |some (.map _ _),.nilm=>some<|i64 0
  |some (.map _ _),.map b=>match h.get b with
   |some (.map es _)=>some<|i64 es.length
   |_=>none
  |_,_=>none
 |_,_=>none
theorem Ax.one{ds:V}{l:List Value}(a:Ax p [ds] l):∃v,l=[v]/\Ac p ds v:=by
 match l,a with
 |[v],h=>exact⟨v,rfl,by simpa using h⟩
 |[],h=>simp at h
 |_::_::_,h=>simp at h
theorem Ax.two{d e:V}{l:List Value}(a:Ax p [d,e] l):∃v u,l=[v,u]/\Ac p d v/\Ac p e u:=by
 match l,a with
 |[v,u],h=>exact⟨v,u,rfl,by simpa using h⟩
 |[],h=>simp at h
 |[_],h=>simp at h
 |_::_::_::_,h=>simp at h
theorem DW.length{es:List (V×V×Nat)}{l:List MapEntry}(h:DW p es l):es.length=l.length:=by
 induction h with
 |nil=>rfl
 |cons _ _ _ _ a=>simp[a]
theorem rF(j:T.Ok P)(hr:R p h w){ts:Array TypeId}{t:TypeId}{args:List V}{args':Array Value}(g:Ax p args args'.toList){v:V}(a:Gn T h ts args=some v):
  ∃v',(Builtin.len_ ts t args').run P w=.ok v' w/\Ac p v v':=by
 unfold Gn at a;split at a
 case h_2=>cases a
 rename_i t0 x m;obtain⟨x',d,b⟩:=g.one;have c:args'[0]?=some x':=by rw[<-Array.getElem?_toList,d];rfl
 unfold Builtin.len_;simp only[m,c];split at a
 case h_9=>cases a
 all_goals (rename_i q;simp only[zd,AA j q,zc];try simp only[Ac]at b)
 case h_1=>subst b;cases a;exact⟨_,ze ..,by simp[i64,Ac,goInt,BP]⟩
 case h_2=>cases a;exact⟨_,ze ..,by simp[i64,Ac,goInt]⟩
 case h_3=>obtain⟨_,_,_,_,rfl,_⟩:=b;cases a;exact⟨_,ze ..,by simp[i64,Ac,goInt]⟩
 case h_4=>subst b;cases a;exact⟨_,ze ..,by simp[i64,Ac,goInt]⟩
 case h_5=>obtain⟨_,_,rfl⟩:=b;cases a;exact⟨_,ze ..,by simp[i64,Ac,goInt]⟩
 case h_6=>obtain⟨_,rfl⟩:=b;cases a;exact⟨_,ze ..,by simp[i64,Ac,goInt]⟩
 case h_7=>subst b;cases a;exact⟨_,ze ..,by simp[i64,Ac,goInt]⟩
 case h_8=>
  obtain⟨r,n,hp,rfl⟩:=b;split at a
  case h_2=>cases a
  rename_i es y i;cases a;obtain⟨u,n',o,e,f,l,s,k⟩:=hr.obj _ _ i;rw[hp]at e;cases e;subst s;refine⟨goInt l.size,?_,?_⟩
  ·simp[getObj,Sem.run,f]
  ·have:=k.length;simp only[i64,Ac,goInt];congr 1;simp at this;exact wi Int.ofNat this.symm
def lO(a b:V):Option V:=
 match a,b with
 | .int k x,.int _ y=>some<|.int k<|if y>x then y else x
 |_,_=>none
def fV(a b:V):Option V:=
 match a,b with
 | .int k x,.int _ y=>some<|.int k<|if y<x then y else x
 |_,_=>none
def dfold(f:V->V->Option V):V->List V->Option V
 |x,[]=>some x
 |x,y::a=>match f x y with
  |some z=>dfold f z a
  |none=>none
theorem Q7{f:V->V->Option V}{g:Value->Value->Sem Value}(j:∀ {a b c:V} {n b':Value},Ac p a n->Ac p b b'->f a b=some c->∃m,(g n b').run P w=.ok m w/\Ac p c m):
  ∀(k:List V) (e:List Value) (x:V) (x':Value),Ac p x x'->Ax p k e->∀ {v:V},dfold f x k=some v->∃v',(e.foldlM g x').run P w=.ok v' w/\Ac p v v'
 |[],e,x,x',l,d,v,i=>by
  simp at d;subst d;cases i;exact⟨x',by simp,l⟩
 |y::k,[],_,_,_,d,_,_=>by simp at d
 |y::k,y'::e,x,x',l,d,v,i=>by
  simp only[Bk]at d;unfold dfold at i;split at i
  case h_2=>cases i
  rename_i z r;obtain⟨s,q,o⟩:=j l d.1 r;obtain⟨v',h3,h4⟩:=Q7 j k e z s o d.2 i;exact⟨v',by rw[List.foldlM_cons,zd,q];exact h3,h4⟩
def GK(f:V->V->Option V)(args:List V):Option V:=
 match args with
 |[]=>none
 |x::a=>dfold f x a
theorem wY{ts:Array TypeId}{t:TypeId}{args:List V}{args':Array Value}(d:Ax p args args'.toList){v:V}(e:GK lO args=some v):
  ∃v',(Builtin.max_ ts t args').run P w=.ok v' w/\Ac p v v':=by
 unfold GK at e;split at e
 case h_1=>cases e
 rename_i x l;unfold Builtin.max_;cases j:args'.toList with
 |nil=>rw[j]at d;simp at d
 |cons x' g=>
  rw[j]at d;simp only[Bk]at d;refine Q7 (fun {a b c m b'} k i f=>?_) l g x x' d.1 d.2 e;unfold lO at f;split at f
  case h_2=>cases f
  simp only[Ac]at k i;subst k i;cases f;exact⟨_,rfl,by simp[Ac]⟩
theorem yA{ts:Array TypeId}{t:TypeId}{args:List V}{args':Array Value}(d:Ax p args args'.toList){v:V}(e:GK fV args=some v):
  ∃v',(Builtin.min_ ts t args').run P w=.ok v' w/\Ac p v v':=by
 unfold GK at e;split at e
 case h_1=>cases e
 rename_i x l;unfold Builtin.min_;cases j:args'.toList with
 |nil=>rw[j]at d;simp at d
 |cons x' g=>
  rw[j]at d;simp only[Bk]at d;refine Q7 (fun {a b c m b'} k i f=>?_) l g x x' d.1 d.2 e;unfold fV at f;split at f
  case h_2=>cases f
  simp only[Ac]at k i;subst k i;cases f;exact⟨_,rfl,by simp[Ac]⟩
def IX(place:Nat->Option (Nat×Nat))(cells:List V):List (Nat×V)->Option (List V)
 |[]=>some cells
 |(i,v)::a=>
  match place i with
  |none=>none
  |some (off,size)=>bif zt v.cells.length size&&zu (off+size) cells.length then IX place (Hc cells off v.cells) a else none
theorem WD:∀(xs:List V) (vs:List Value) (cs:List V) (c:Array Value) (off:Nat),Ax p xs vs->Ax p cs c.toList->
  ∀k,Ax p (Hc cs (off+k) xs) ((vs.zipIdx k).foldl (fun cs (c,j)=>cs.setIfInBounds (off+j) c) c).toList
 |[],vs,cs,c,off,a,b,k=>by simp at a;subst a;simpa [Hc]using b
 |x::xs,[],_,_,_,a,_,_=>by simp at a
 |x::xs,v::vs,cs,c,off,a,b,k=>by
  simp only[Bk]at a;simp only[Hc,List.zipIdx_cons,List.foldl_cons];have:=WD xs vs (cs.set (off+k) x) (c.setIfInBounds (off+k) v) off a.2 (by simpa using b.set (off+k) a.1)<|k+1;rwa [show off+k+1=off+(k+1)from by omega]
inductive V5 (p:Pl):List (Nat×V)->List (Nat×Value)->Prop
 |nil:V5 p [] []
 |cons {i:Nat} {v:V} {v':Value} {l:List (Nat×V)} {l':List (Nat×Value)}:Ac p v v'->V5 p l l'->V5 p ((i,v)::l) ((i,v')::l')
theorem Lt{place:Nat->Option (Nat×Nat)}:∀ {l:List (Nat×V)} {l':List (Nat×Value)},V5 p l l'->∀ {cs:List V} {c:Array Value} {out:List V},Ax p cs c.toList->IX place cs l=some out->
  ∃o,Instr.fill place c l'=some o/\Ax p out o.toList:=by
 intro l l' m;induction m with
 |nil=>intro cs c out d b;cases b;exact⟨c,rfl,d⟩
 |@cons i v v' l l' k m n=>
  intro cs c out d b;unfold IX at b;split at b
  case h_1=>cases b
  rename_i off size e;cases a:(zt v.cells.length size&&zu (off+size) cs.length)with
  |false=>simp[a]at b
  |true=>
   simp only[a,we]at b;simp only[zw,yq,Bw,w5]at a;have j:=k.cells.length;have g:=d.length;have f:v'.cells.size=size:=by simp at j;omega
   unfold Instr.fill;simp only[e];rw[wc<|by simp at g;simp[f];omega];refine n ?_ b;have:=WD (p:=p) v.cells v'.cells.toList cs c off k.cells d 0;simp only[qj]at this;rw[<-Array.foldl_toList,Array.toList_zipIdx];exact this
def KT(T:Ce)(t:TypeId)(a:List (Nat×V)):Option V:=
 match T.inf t,T.und t with
 |some i,some (.struct fs)=>
  match fs.toList.mapM (fun f=>(T.inf f.type).map fun j=>(f.offset,j.size))with
  |some pl=>(IX (fun i=>pl[i]?) i.zero a).map .agg
  |none=>none
 |some i,some (.array _ e)=>match T.inf e with
  |some j=>(IX (fun i=>some (i*j.size,j.size)) i.zero a).map .agg
  |none=>none
 |_,_=>none
theorem run_places(c:T.Ok P):∀ {fs:List Field} {pl:List (Nat×Nat)},fs.mapM (fun f=>(T.inf f.type).map fun j=>(f.offset,j.size))=some pl->
  ∀w,(fs.mapM<|fun f=>(do pure (f.offset, <-sizeOf f.type):Sem (Nat×Nat))).run P w=.ok pl w
 |[],pl,h,w=>by simp at h;subst h;simp
 |f::fs,pl,h,w=>by
  rw[List.mapM_cons]at h;cases a:T.inf f.type with
  |none=>simp[a]at h
  |some j=>
   cases b:fs.mapM (fun f=>(T.inf f.type).map fun j=>(f.offset,j.size))with
   |none=>simp[a,b]at h
   |some d=>
    simp[a,b]at h;subst h;rw[List.mapM_cons];simp only[zd,BE c a,zc,ze,run_places c b]
theorem bD(d:T.Ok P){t:TypeId}{b:List (Nat×V)}{a:Array (Nat×Value)}(hp:V5 p b a.toList){v:V}(c:KT T t b=some v):
  ∃v',(Instr.build t a).run P w=.ok v' w/\Ac p v v':=by
 unfold KT at c;split at c
 case h_3=>cases c
 case h_1=>
  rename_i i fs r q;split at c
  case h_2=>cases c
  rename_i pl m;rw[zn]at c;obtain⟨out,s,rfl⟩:=c;obtain⟨z,hz,hzr⟩:=EH d r;have g:(fs.mapM<|fun f=>(do pure (f.offset, <-sizeOf f.type):Sem (Nat×Nat))).run P w=.ok pl.toArray w:=by
   rw[Array.mapM_eq_mapM_toList];simp only[Sem.run_map,run_places d m,zc]
  obtain⟨o,l,k⟩:=Lt (p:=p) (place:=fun i=>pl.toArray[i]?) hp (hzr p) (out:=out) (by simpa using s);refine⟨.agg o,?_,by simp only[Ac];exact⟨_,rfl,k⟩⟩;unfold Instr.build;simp only[zd,hz,zc,AA d q];rw[g];simp only[zc,l,ze]
 case h_2=>
  rename_i i n e r q;split at c
  case h_2=>cases c
  rename_i j u;rw[zn]at c;obtain⟨out,s,rfl⟩:=c;obtain⟨z,hz,hzr⟩:=EH d r;obtain⟨o,l,k⟩:=Lt (p:=p) (place:=fun i=>some (i*j.size,j.size)) hp (hzr p) s;refine⟨.agg o,?_,by simp only[Ac];exact⟨_,rfl,k⟩⟩;unfold Instr.build;simp only[zd,hz,zc,AA d q,BE d u,l,ze]
def Fy(z:List V)(n:Nat):List V:=(List.range n).map fun i=>z.getD (i % z.length)<|.tup []
theorem J5{z:List V}{c:Array Value}(k:Ax p z c.toList)(b:0<z.length)(n:Nat):Ax p (Fy z n) ((Array.range n).map<|fun i=>c[i % c.size]!).toList:=by
 have l:=k.length;simp at l;apply Ax.mk (by simp[Fy]);intro i d v f m;have j:i<n:=by have:=(zf.1 f).1;simpa [Fy]using this
 simp only[Fy,yc,z8 j,yi,zh]at f;simp only[Array.toList_map,Array.toList_range,yc,z8 j,yi,zh]at m;have g:i % z.length<z.length:=Nat.mod_lt _ b;obtain⟨u,e,o⟩:=k.get (i:=i % z.length) (d:=z[i % z.length]) (by simp[g]);subst f m;simp only[yf,g,ya,yy];rw[l]at e;have a:i % c.size<c.size:=Nat.mod_lt _ ae;simp[a]at e;rw[getElem!_pos c (i % c.size) a,e];exact o
def Fe(T:Ce)(h:H)(t:TypeId)(len:Nat)(a:List (Nat×V)):Option (V×H):=
 match T.und t with
 |some (.slice e)=>match T.inf e with
  |some i=>
   bif zu (len*i.size) 16777216&&y7 0 (i.zero.length)&&zt i.zero.length i.size then
    match IX (fun k=>some (k*i.size,i.size)) (Fy i.zero<|len*i.size) a with
    |some cs=>some (.sl h.nx 0 len len 0,Jn h e cs)
    |none=>none
   else none
  |none=>none
 |_=>none
theorem X3(g:T.Ok P)(hr:R p h w){t:TypeId}{len:Nat}{c:List (Nat×V)}{b:Array (Nat×Value)}(hp:V5 p c b.toList){v:V}{h':H}
  (d:Fe T h t len c=some (v,h')):∃v' p' w',(Instr.buildSlice t len b).run P w=.ok v' w'/\Ac p' v v'/\Ext p h w p' h' w':=by
 unfold Fe at d;split at d
 case h_2=>cases d
 rename_i e s;split at d
 case h_2=>cases d
 rename_i i q;cases a:(zu (len*i.size) 16777216&&y7 0 (i.zero.length)&&zt i.zero.length i.size)with
 |false=>simp[a]at d
 |true=>
  simp only[a,we]at d;simp only[zw,yq,Nat.blt_eq,Bw,w5]at a;obtain⟨⟨A,y⟩,B⟩:=a;split at d
  case h_2=>cases d
  rename_i cs j;cases d;obtain⟨z,u,f⟩:=EH g q;have m:=(f p).length;simp at m;obtain⟨o,h1,h2⟩:=Lt (p:=p) (place:=fun k=>some (k*i.size,i.size)) hp (J5 (f p) y<|len*i.size) j;obtain⟨n,he,hpn,hn⟩:=OE hr e h2;refine⟨.slice (some ⟨w.heap.size,0,none⟩) len len,_,_,?_,?_,he⟩
  ·unfold Instr.buildSlice;simp only[zd,AA g s,zc,BE g q];rw[wc ae];by_cases h0:len*i.size=0
   ·rw[wd h0];simp only[zd,ze,zc];have r:(Array.map (fun x=>(#[]:Array Value)[x % (#[]:Array Value).size]!)<|Array.range<|len*i.size)=Array.map (fun l=>z.cells[l % z.cells.size]!) (Array.range<|len*i.size):=by simp[h0]
    rw[r,h1];simp only[zd,CD,zc,ze]
   ·simp only[h0,vg,zd,u,zc,ze,h1,CD]
  ·simp only[Ac];exact⟨_,n,len,hpn,rfl,zg _,zg _,fun _=>rfl,by simp⟩
end
end Go.Det
