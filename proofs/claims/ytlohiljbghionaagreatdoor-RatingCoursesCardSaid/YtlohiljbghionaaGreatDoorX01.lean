import Derived.Scope
import Derived.Laws.Sem
import Derived.KernelRfl
import Derived.Laws.Strings
/- A part of a proof (no law is stated here). Made by program out of texts by AI agents. -/
abbrev Z:=List UInt8
abbrev w4:=@decide_eq_true
abbrev w5:=@decide_eq_true_eq
abbrev w6:=@of_decide_eq_true
abbrev w7:=@of_decide_eq_false
abbrev w8:=@decide_eq_false
abbrev w9:=@decide_eq_false_iff_not
abbrev wc:=@if_neg
abbrev wd:=@if_pos
abbrev we:=@cond_true
abbrev wg:=@cond_false
abbrev wh:=@absurd
abbrev wi:=@congrArg
abbrev wj:=@beq_iff_eq
abbrev wk:=@if_true
abbrev wm:=@ne_eq
abbrev wn:=@beq_eq_false_iff_ne
abbrev vc:=@and_true
abbrev ve:=@and_self
abbrev vf:=@if_false
noncomputable section
open Go.Result renaming andThen_ok -> zc
open Go.Sem renaming run_bind -> zd, run_pure -> ze
open List renaming getElem?_eq_some_iff -> zf, getElem?_append_left -> zi, getElem?_take_of_lt -> zk, getLast?_cons_cons -> zo, getElem?_range -> zM, getElem?_eq_getElem -> zN, getElem?_map -> zP, getD -> zS, mem_cons -> zT, mem_cons_of_mem -> zU, getElem?_drop -> zZ, mem_cons_self -> z6, length_cons -> yc, length_take -> yd, rec -> ye, length_eq_zero_iff -> yf, drop_eq_nil_of_le -> yh
open Nat renaming le_refl -> zg, beq -> zt, ble -> zu, le_of_ble_eq_true -> zQ, ble_eq_true_of_le -> zR, ble_eq -> z8, blt -> yi, min_eq_left -> yk, zero_le -> yn, add -> yo, ne_of_lt -> yr, add_zero -> yu
open Option.some renaming injEq -> zh
open Array renaming getElem?_setIfInBounds_ne -> zj, getElem?_eq_some_iff -> zx, getElem?_push -> zW, ext_getElem? -> z7
open Go.Value renaming cells -> zl
open Bool renaming false_eq_true -> zm, and_eq_true -> zw
open Option renaming map_eq_some_iff -> zn, isSome_none -> zK, map_some -> zV, getD_some -> yg
open Go.Instr renaming sliceAt -> zp, sliceBounds -> zr, sureAddr -> zO, slice -> yb
open Int renaming mul_le_mul_of_nonneg_left -> zq, ofNat_eq_natCast -> zy, toNat_natCast -> zL, pow_succ -> zX, add_mul_emod_self_left -> zY, mul_add -> ym, mul_comm -> yq
open BitVec renaming ofInt -> zz
open UInt8 renaming ofNat -> ya
open Go.Op renaming bytesLess -> yj, equal -> yt
open ByteArray renaming ext -> yp
namespace Go.Sp
def val(b:Int):List Int->Int
 |[]=>0
 |d::r=>d+b*val b r
def Av(b:Int)(l:List Int):Prop:=∀d∈l,0<=d/\d<b
def nz(l:List Int):Prop:=l.getLast?≠some 0
def T4(b:Nat):Nat->Nat->List Int
 |0,_=>[]
 |f+1,n=>if n=0 then[]else((n % b:Nat):Int)::T4 b f (n/b)
def dg(b:Nat)(n:Int):List Int:=T4 b n.toNat n.toNat
def At:List Int->List Int
 |[]=>[]
 |d::r=>match At r with
  |[]=>if d=0 then[]else[d]
  |s=>d::s
theorem Az{b:Int}(a:0<=b):∀ {l:List Int},Av b l->0<=val b l
 |[],_=>Int.le_refl _
 |d::r,h=>by
  have f:=(h d<|by simp).1;have e:=Az a (l:=r) fun x c=>h x (by simp[c])
  have:=Int.mul_nonneg a e;unfold val;omega
theorem CH(b:Int):∀(l r:List Int),val b (l++r)=val b l+b^l.length*val b r
 |[],r=>by simp[val]
 |d::l,r=>by
  rw[List.cons_append,val,CH b l r,val,yc,zX,ym,Int.add_assoc, <-Int.mul_assoc,yq b<|b^l.length]
theorem K1(b:Int):∀n,val b (List.replicate n 0)=0
 |0=>rfl
 |n+1=>by rw[List.replicate_succ,val,K1 b n];simp
theorem Bl{b:Int}(e:0<b):∀ {l:List Int},Av b l->val b l<b^l.length
 |[],_=>by simp[val]
 |d::r,h=>by
  have f:=(h d<|by simp).2;have g:=Bl e (l:=r) fun x a=>h x (by simp[a])
  have c:b*val b r<=b*(b^r.length-1):=zq (by omega) (by omega);rw[val,yc,zX,yq (b^r.length) b];rw[Int.mul_sub,Int.mul_one]at c;omega
theorem Ij(b:Int):∀l,val b (At l)=val b l
 |[]=>rfl
 |d::r=>by
  have a:=Ij b r;unfold At;split
  ·rename_i h;rw[h]at a;have a:val b r=0:=a.symm;split
   ·rename_i h0;show(0:Int)=d+b*val b r;rw[a,h0];simp
   ·show d+b*(0:Int)=d+b*val b r;rw[a]
  ·rw[val,val,a]
theorem GS{b:Int}:∀ {l:List Int},Av b l->Av b (At l)
 |[],h=>h
 |d::r,h=>by
  have e:=GS (l:=r) fun x a=>h x (by simp[a])
  have c:=h d (by simp);unfold At;split
  ·split
   ·intro x a;cases a
   ·intro x a;rw[List.mem_singleton.1 a];exact c
  ·rename_i s f;intro x a;rcases zT.1 a with rfl|a
   ·exact c
   ·exact e x a
theorem Km:∀l:List Int,nz<|At l
 |[]=>by simp[nz,At]
 |d::r=>by
  have b:=Km r;unfold At;split
  ·split
   ·simp[nz]
   ·rename_i h;simp[nz,h]
  ·rename_i s e;unfold nz at b ⊢;cases c:At r with
   |nil=>exact wh c e
   |cons a t=>rw[c]at b;rw[zo];exact b
theorem H3:∀ {l:List Int},nz l->At l=l
 |[],_=>rfl
 |d::r,h=>by
  unfold At;cases r with
  |nil=>
   have:d≠0:=by simpa [nz]using h
   simp[At,this]
  |cons a t=>
   have:nz (a::t):=by unfold nz at h ⊢;rwa [zo]at h
   rw[H3 this]
theorem Ik{b:Int}(f:0<b):∀ {l:List Int},Av b l->nz l->l≠[]->0<val b l
 |[],_,_,h=>wh rfl h
 |d::r,h,c,_=>by
  have i:=(h d<|by simp).1;have e:Av b r:=fun x g=>h x (by simp[g])
  have j:=Az (by omega) e;unfold val;cases r with
  |nil=>
   have:d≠0:=by simpa [nz]using c
   simp[val];omega
  |cons a t=>
   have:=Ik f e (by unfold nz at c ⊢;rwa [zo]at c) (by simp);have:=Int.mul_pos f this;omega
theorem val_inj{b:Int}(f:0<b):∀ {l r:List Int},Av b l->Av b r->nz l->nz r->val b l=val b r->l=r
 |[],[],_,_,_,_,_=>rfl
 |[],x::r,_,d,_,g,h=>by have:=Ik f d g (by simp);rw[<-h]at this;simp[val]at this
 |x::l,[],c,_,n1,_,h=>by have:=Ik f c n1 (by simp);rw[h]at this;simp[val]at this
 |x::l,y::r,c,d,n1,g,h=>by
  have a1:=c x (by simp);have a2:=d y (by simp);unfold val at h;have o:x=y:=by
   have k:(x+b*val b l) % b=(y+b*val b r) % b:=by rw[h]
   rw[zY,zY,Int.emod_eq_of_lt a1.1 a1.2,Int.emod_eq_of_lt a2.1 a2.2]at k;exact k
  subst o;have m:val b l=val b r:=by
   have n:b*val b l=b*val b r:=by omega
   exact Int.eq_of_mul_eq_mul_left (by omega) n
  have i:∀ {x:Int} {l:List Int},nz (x::l)->nz l:=by
   intro x l j;cases l with
   |nil=>simp[nz]
   |cons a t=>unfold nz at j ⊢;rwa [zo]at j
  rw[val_inj f (fun z e=>c z<|by simp[e]) (fun z e=>d z<|by simp[e]) (i n1) (i g) m]
theorem Rk(b:Nat)(c:2<=b):∀f n,n<=f->val b (T4 b f n)=n
 |0,n,h=>by simp[T4,val];omega
 |f+1,n,h=>by
  unfold T4;split
  ·rename_i h0;subst h0;rfl
  ·rename_i h0;have d:n/b<=f:=by
    have:n/b<n:=Nat.div_lt_self (by omega) c;omega
   rw[val,Rk b c f (n/b) d];have:=Nat.mod_add_div n b;have a:((n % b+b*(n/b):Nat):Int)=(n:Int):=by rw[this]
   push_cast at a ⊢
   exact a
theorem Sg(b:Nat)(c:2<=b):∀f n,Av b<|T4 b f n
 |0,n=>by intro x a;cases a
 |f+1,n=>by
  unfold T4;split
  ·intro x a;cases a
  ·intro x a;rcases zT.1 a with rfl|a
   ·have:=Nat.mod_lt n (show 0<b by omega);omega
   ·exact Sg b c f (n/b) x a
theorem YT(b:Nat)(d:2<=b):∀f n,n<=f->nz (T4 b f n)
 |0,n,_=>by simp[T4,nz]
 |f+1,n,h=>by
  unfold T4;split
  ·simp[nz]
  ·rename_i h0;have g:n/b<=f:=by
    have:n/b<n:=Nat.div_lt_self (by omega) d;omega
   have e:=YT b d f (n/b) g;cases i:T4 b f (n/b)with
   |nil=>
    have c:=Rk b d f (n/b) g;rw[i]at c;have c:n/b=0:=by
     have:((n/b:Nat):Int)=0:=by rw[<-c];rfl
     exact_mod_cast this
    have j:n % b=n:=Nat.mod_eq_of_lt ((Nat.div_eq_zero_iff_lt<|by omega).1 c);simp[nz];omega
   |cons a t=>rw[i]at e;unfold nz at e ⊢;rw[zo];exact e
theorem C1{b:Nat}(a:2<=b){n:Int}(c:0<=n):val b (dg b n)=n:=by
 unfold dg;rw[Rk b a _ _<|zg _];omega
theorem G9{b:Nat}(a:2<=b)(n:Int):Av b (dg b n):=Sg b a _ _
theorem WL{b:Nat}(a:2<=b)(n:Int):nz (dg b n):=YT b a _ _<|zg _
theorem I3{b:Nat}(a:2<=b){l:List Int}(c:Av b l)(d:nz l):l=dg b (val b l):=
 val_inj (by omega) c (G9 a _) d (WL a _) (C1 a<|Az (by omega) c).symm
theorem Wi{b:Nat}(c:2<=b){l:List Int}(a:Av b l):At l=dg b (val b l):=by
 rw[<-Ij];exact I3 c (GS a)<|Km l
theorem pH{b:Nat}(a:2<=b){n:Int}(c:0<=n):dg b n=[]↔n=0:=by
 constructor
 ·intro h;have:=C1 a c;rw[h]at this;simpa [val]using this.symm
 ·rintro rfl;rfl
theorem Hw:∀l:List Int,At (l++[0])=At l
 |[]=>rfl
 |d::r=>by
  rw[List.cons_append];unfold At;rw[Hw r]
theorem Wl{l:List Int}{d:Int}(h:d≠0):nz (l++[d]):=by
 unfold nz;rw[List.getLast?_append];simp[h]
theorem fQ{x:Int}{l:List Int}(b:nz (x::l)):nz l:=by
 cases l with
 |nil=>simp[nz]
 |cons a t=>unfold nz at b ⊢;rwa [zo]at b
theorem C2{b:Int}(c:0<b):∀ {l:List Int},Av b l->nz l->l≠[]->b^(l.length-1)<=val b l
 |[],_,_,h=>wh rfl h
 |[d],h,a,_=>by
  have:=Ik c h a (by simp);simp at this ⊢;omega
 |d::e::r,h,a,_=>by
  have j:=(h d<|by simp).1;have i:=C2 c (l:=e::r) (fun x f=>h x<|by simp[f]) (fQ a) (by simp);have g:(d::e::r).length-1=((e::r).length-1)+1:=by simp
  rw[g,zX,yq];have:=zq i (show 0<=b by omega);unfold val;omega
theorem AN{b:Int}(a:0<b):∀n:Nat,0<b^n
 |0=>by simp
 |n+1=>by rw[zX];exact Int.mul_pos (AN a n) a
theorem AM{b:Int}(c:1<=b){m n:Nat}(h:m<=n):b^m<=b^n:=by
 obtain⟨k,rfl⟩:=Nat.exists_eq_add_of_le h;induction k with
 |zero=>exact Int.le_refl _
 |succ k a=>
  have:=a (by omega);rw[show m+(k+1)=(m+k)+1 from rfl,zX];have d:=AN (show 0<b by omega)<|m+k;have:=zq c (show 0<=b^(m+k)by omega);rw[Int.mul_one]at this;omega
theorem Ei{b:Int}(e:2<=b){l r:List Int}(a:Av b l)(c:Av b r)(d:nz r)(h:l.length<r.length):val b l<val b r:=by
 have a1:=Bl (by omega) a;have a2:=C2 (by omega) c d (by rintro rfl;simp at h);have:=AM (show 1<=b by omega) (show l.length<=r.length-1 by omega);omega
theorem AL{b:Int}{l:List Int}(h:Av b l)(i:Nat):Av b (l.take i):=fun d a=>h d<|List.mem_of_mem_take a
theorem Eb{b:Int}{l:List Int}(h:Av b l)(i:Nat):Av b (l.drop i):=fun d a=>h d<|List.mem_of_mem_drop a
theorem Ck(b:Int)(l:List Int)(i:Nat)(h:i<=l.length):val b l=val b (l.take i)+b^i*val b (l.drop i):=by
 conv=>lhs;rw[<-List.take_append_drop i l]
 rw[CH,yd,yk h]
theorem Iv{b:Int}(n:2<=b){l r:List Int}{x y:Int}{s:List Int}{i:Nat}(e:Av b l)(k:Av b r)(c:l.drop i=x::s)(a:r.drop i=y::s)(h:x<y):val b l<val b r:=by
 have d:i<=l.length:=by
  rcases Nat.lt_or_ge l.length i with h|h
  ·rw[yh<|by omega]at c;cases c
  ·exact h
 have i2:i<=r.length:=by
  rcases Nat.lt_or_ge r.length i with h|h
  ·rw[yh<|by omega]at a;cases a
  ·exact h
 have a1:=Bl (by omega)<|AL e i;have a2:=Az (show 0<=b by omega)<|AL k i;rw[yd,yk d]at a1;rw[Ck b l i d,Ck b r i i2,c,a,show val b (x::s)=x+b*val b s from rfl,show val b (y::s)=y+b*val b s from rfl];have m:=AN (show 0<b by omega) i;have g:b^i*(x+b*val b s)=b^i*x+b^i*(b*val b s):=ym _ _ _;have j:b^i*(y+b*val b s)=b^i*y+b^i*(b*val b s):=ym _ _ _;have f:b^i*(x+1)<=b^i*y:=zq (by omega) (by omega);rw[ym,Int.mul_one]at f;rw[g,j];omega
theorem Q9(b:Nat)(a:2<=b):∀(k f n:Nat),n<b^k->(T4 b f n).length<=k
 |k,0,n,_=>by simp[T4]
 |0,f+1,n,h=>by
  have:n=0:=by simpa using h
  subst this;simp[T4]
 |k+1,f+1,n,h=>by
  unfold T4;split
  ·simp
  ·have:n/b<b^k:=by
    rw[Nat.pow_succ]at h;exact Nat.div_lt_of_lt_mul (by rw[Nat.mul_comm];exact h)
   have:=Q9 b a k f (n/b) this;simp;omega
end Go.Sp
namespace Go.Det
section
inductive PM (α:Type) where
 |leaf
 |node (l:PM α) (v:Option α) (r:PM α)
inductive Gv where
 |here
 |l (p:Gv)
 |r (p:Gv)
variable {α:Type}
def gF(f:Nat):Nat->Gv:=
 @Nat.rec (fun _=>Nat->Gv) (fun _=>.here) (fun _ a i=>bif zt i 0 then .here else bif zt (Nat.mod i 2) 1 then .l (a<|Nat.div i 2)else .r<|a<|Nat.sub (Nat.div i 2) 1) f
def tM(i:Nat):Gv:=gF i i
def Gv.get(p:Gv):PM α->Option α:=
 @Gv.rec (fun _=>PM α->Option α)
  (fun m=>@PM.rec α (fun _=>Option α) none (fun _ v _ _ _=>v) m)
  (fun _ a m=>@PM.rec α (fun _=>Option α) none (fun l _ _ _ _=>a l) m)
  (fun _ a m=>@PM.rec α (fun _=>Option α) none (fun _ _ r _ _=>a r) m) p
def Gv.set(p:Gv):PM α->Option α->PM α:=
 @Gv.rec (fun _=>PM α->Option α->PM α)
  (fun m v=>@PM.rec α (fun _=>PM α) (.node .leaf v .leaf) (fun l _ r _ _=>.node l v r) m)
  (fun _ a m v=>@PM.rec α (fun _=>PM α) (.node (a .leaf v) none .leaf) (fun l x r _ _=>.node (a l v) x r) m)
  (fun _ a m v=>@PM.rec α (fun _=>PM α) (.node .leaf none<|a .leaf v) (fun l x r _ _=>.node l x<|a r v) m) p
def PM.get(m:PM α)(i:Nat):Option α:=(tM i).get m
def PM.set(m:PM α)(i:Nat)(v:Option α):PM α:=(tM i).set m v
theorem Bf(a b:Nat):zt a b=decide (a=b):=by
 by_cases h:a=b
 ·subst h;simp
 ·rw[w8 h];cases e:zt a b with
  |false=>rfl
  |true=>exact wh (Nat.eq_of_beq_eq_true e) h
def Gv.num:Gv->Nat
 | .here=>0
 | .l p=>2*p.num+1
 | .r p=>2*(p.num+1)
theorem Ko:∀(f i:Nat),i<=f->(gF f i).num=i
 |0,i,h=>by cases Nat.le_zero.1 h;rfl
 |f+1,i,h=>by
  show Gv.num (bif zt i 0 then .here else bif zt (i % 2) 1 then .l (gF f<|i/2)else .r<|gF f<|i/2-1)=i;simp only[Bf];by_cases h0:i=0
  ·subst h0;rfl
  ·by_cases a:i % 2=1
   ·simp only[h0,a,decide_false,decide_true,wg,we,Gv.num];rw[Ko f (i/2)<|by omega];omega
   ·simp only[h0,a,decide_false,wg,Gv.num];rw[Ko f (i/2-1)<|by omega];omega
theorem kO{i j:Nat}(h:tM i=tM j):i=j:=by
 have:=wi Gv.num h;unfold tM at this;rwa [Ko i i<|zg _,Ko j j<|zg _]at this
theorem Gv.CX(p:Gv):p.get (.leaf:PM α)=none:=by cases p<;>rfl
theorem Gv.get_set_same:∀(p:Gv) (m:PM α) (v:Option α),p.get (p.set m v)=v
 | .here,m,v=>by cases m<;>rfl
 | .l p,m,v=>by
  cases m with
  |leaf=>exact Gv.get_set_same p .leaf v
  |node l x r=>exact Gv.get_set_same p l v
 | .r p,m,v=>by
  cases m with
  |leaf=>exact Gv.get_set_same p .leaf v
  |node l x r=>exact Gv.get_set_same p r v
theorem Gv.E2:∀(p q:Gv) (m:PM α) (v:Option α),q≠p->q.get (p.set m v)=q.get m
 | .here,.here,m,v,h=>wh rfl h
 | .here,.l q,m,v,_=>by
  cases m with
  |leaf=>exact q.CX
  |node l x r=>rfl
 | .here,.r q,m,v,_=>by
  cases m with
  |leaf=>exact q.CX
  |node l x r=>rfl
 | .l p,.here,m,v,_=>by cases m<;>rfl
 | .r p,.here,m,v,_=>by cases m<;>rfl
 | .l p,.r q,m,v,_=>by
  cases m with
  |leaf=>exact q.CX
  |node l x r=>rfl
 | .r p,.l q,m,v,_=>by
  cases m with
  |leaf=>exact q.CX
  |node l x r=>rfl
 | .l p,.l q,m,v,h=>by
  have h':q≠p:=fun e=>h (by rw[e])
  cases m with
  |leaf=>exact(Gv.E2 p q .leaf v h').trans q.CX
  |node l x r=>exact Gv.E2 p q l v h'
 | .r p,.r q,m,v,h=>by
  have h':q≠p:=fun e=>h (by rw[e])
  cases m with
  |leaf=>exact(Gv.E2 p q .leaf v h').trans q.CX
  |node l x r=>exact Gv.E2 p q r v h'
@[simp] theorem PM.CR(m:PM α)(i:Nat)(v:Option α)(j:Nat):(m.set i v).get j=if j=i then v else m.get j:=by
 unfold PM.get PM.set;by_cases e:j=i
 ·subst e;rw[wd rfl];exact Gv.get_set_same _ _ _
 ·rw[wc e];exact Gv.E2 _ _ _ _<|fun h=>e<|kO h
@[simp] theorem PM.CX(j:Nat):(PM.leaf:PM α).get j=none:=Gv.CX _
def EC(l:List α):Nat:=@ye α (fun _=>Nat) 0 (fun _ _ a=>yo a 1) l
theorem CQ(l:List α):EC l=l.length:=by
 induction l with
 |nil=>rfl
 |cons a l b=>show yo (EC l) 1=_;rw[b];rfl
def I8(n:Nat):List α->List α:=
 @Nat.rec (fun _=>List α->List α) (fun l=>l) (fun _ b l=>@ye α (fun _=>List α) [] (fun _ a _=>b a) l) n
theorem Nf:∀(n:Nat) (l:List α),I8 n l=l.drop n
 |0,_l=>rfl
 |_n+1,[]=>rfl
 |n+1,_a::l=>Nf n l
def Vu(n:Nat):List α->List α:=
 @Nat.rec (fun _=>List α->List α) (fun _=>[]) (fun _ c l=>@ye α (fun _=>List α) [] (fun a b _=>a::c b) l) n
theorem Nq:∀(n:Nat) (l:List α),Vu n l=l.take n
 |0,_l=>rfl
 |_n+1,[]=>rfl
 |n+1,a::l=>wi (a:: ·)<|Nq n l
def I2(vs:List α):List α->List α:=
 @ye α (fun _=>List α->List α) (fun l=>l) (fun v _ b l=>@ye α (fun _=>List α) [] (fun _ a _=>v::b a) l) vs
def Ch(n:Nat)(vs:List α):List α->List α:=
 @Nat.rec (fun _=>List α->List α) (fun l=>I2 vs l) (fun _ c l=>@ye α (fun _=>List α) [] (fun a b _=>a::c b) l) n
def J2(f:α->Bool)(l:List α):Bool:=@ye α (fun _=>Bool) true (fun a _ b=>bif f a then b else false) l
theorem EX(f:α->Bool):∀l:List α,J2 f l=l.all f
 |[]=>rfl
 |a::l=>by
  show(bif f a then J2 f l else false)=_;rw[EX f l,List.all_cons];cases f a<;>rfl
inductive V where
 |bool (b:Bool)
 |int (k:IntKind) (n:Int)
 |str (s:Z)
 |nilp
 |ptr (b off:Nat)
 |nils
 |sl (b off len cap o:Nat)
 |esl
 |es0
 |junk
 |nilm
 |map (b:Nat)
 |fn (f:Fn) (first captured:List V)
 |yld (b:Nat)
 |nilf
 |iface (t:TypeId) (v:V)
 |nili
 |agg (cs:List V)
 |tup (vs:List V)
 deriving Inhabited
abbrev Pl:=List<|Nat×Nat
def bytesOf(s:Z):ByteArray:=⟨s.toArray⟩
mutual
def Ab(p:Pl):V->Value->Prop
 | .bool b,v=>v=.bool b
 | .int k n,v=>v=.int k n
 | .str s,v=>v=.string (bytesOf s)
 | .nilp,v=>v=.pointer none
 | .ptr b off,v=>∃r n,p[b]?=some (r,n)/\v=.pointer (some ⟨r,off,none⟩)
 | .nils,v=>v=.slice none 0 0
 | .sl b off len cap o,v=>∃r n c,p[b]?=some (r,n)/\v=.slice (some ⟨r,off,none⟩) len c/\len<=cap/\cap<=c/\(o=0->c=cap)/\(o≠0->off+c*o<=n)
 | .esl,v=>∃a c,v=.slice (some a) 0 c
 | .es0,v=>∃a,v=.slice (some a) 0 0
 | .junk,_=>False
 | .nilm,v=>v=.map none
 | .map b,v=>∃r n,p[b]?=some (r,n)/\v=.map (some r)
 | .fn f first captured,v=>∃x y,v=.func f x y/\Aq p first x.toList/\Aq p captured y.toList
 | .yld b,v=>∃r n,p[b]?=some (r,n)/\v=.func (.yield r) #[] #[]
 | .nilf,v=>v=.nilFunc
 | .iface t x,v=>∃y,v=.iface t y/\Ab p x y
 | .nili,v=>v=.nilIface
 | .agg cs,v=>∃x,v=.agg x/\Aq p cs x.toList
 | .tup cs,v=>∃x,v=.tuple x/\Aq p cs x.toList
def Aq(p:Pl):List V->List Value->Prop
 |[],l=>l=[]
 |d::ds,l=>∃v vs,l=v::vs/\Ab p d v/\Aq p ds vs
end
@[simp] theorem Gb(p:Pl)(l:List Value):Aq p [] l↔l=[]:=by simp[Aq]
@[simp] theorem A5(p:Pl)(d:V)(ds:List V)(v:Value)(vs:List Value):Aq p (d::ds) (v::vs)↔Ab p d v/\Aq p ds vs:=by
 simp only[Aq];constructor
 ·rintro⟨_,_,h,a,b⟩;cases h;exact⟨a,b⟩
 ·rintro⟨a,b⟩;exact⟨v,vs,rfl,a,b⟩
@[simp] theorem ZW(p:Pl)(d:V)(ds:List V):¬Aq p (d::ds) []:=by
 simp[Aq]
theorem Aq.length{p:Pl}:∀ {ds:List V} {vs:List Value},Aq p ds vs->ds.length=vs.length
 |[],vs,h=>by simp at h;simp[h]
 |d::ds,[],h=>by simp at h
 |d::ds,v::vs,h=>by simp at h;simp[h.2.length]
theorem Aq.get{p:Pl}:∀ {ds:List V} {vs:List Value},Aq p ds vs->∀ {i:Nat} {d:V},ds[i]?=some d->∃v,vs[i]?=some v/\Ab p d v
 |[],vs,_,i,d,a=>by simp at a
 |d::ds,[],h,_,_,_=>by simp at h
 |d::ds,v::vs,h,i,x,a=>by
  simp at h;cases i with
  |zero=>simp at a;subst a;exact⟨v,rfl,h.1⟩
  |succ i=>simp at a;simpa using h.2.get a
theorem Aq.mk{p:Pl}:∀ {ds:List V} {vs:List Value},ds.length=vs.length->(∀(i:Nat) d v,ds[i]?=some d->vs[i]?=some v->Ab p d v)->Aq p ds vs
 |[],[],_,_=>by simp
 |[],_::_,h,_=>by simp at h
 |_::_,[],h,_=>by simp at h
 |d::ds,v::vs,h,a=>by
  simp at h;rw[A5];exact⟨a 0 d v rfl rfl,Aq.mk h<|fun i b v' c e=>a (i+1) b v' (by simpa using c)<|by simpa using e⟩
theorem Aq.append{p:Pl}:∀ {a:List V} {x:List Value} {b:List V} {y:List Value},Aq p a x->Aq p b y->Aq p (a++b) (x++y)
 |[],x,b,y,h,h'=>by simp at h;subst h;simpa using h'
 |d::ds,[],_,_,h,_=>by simp at h
 |d::ds,v::vs,b,y,h,h'=>by simp at h;simp[h.1,h.2.append h']
theorem Aq.take{p:Pl}:∀ {a:List V} {x:List Value} (n:Nat),Aq p a x->Aq p (a.take n) (x.take n)
 |[],x,n,h=>by simp at h;subst h;simp
 |d::ds,[],_,h=>by simp at h
 |d::ds,v::vs,0,h=>by simp
 |d::ds,v::vs,n+1,h=>by simp at h;simp[h.1,h.2.take n]
theorem Aq.drop{p:Pl}:∀ {a:List V} {x:List Value} (n:Nat),Aq p a x->Aq p (a.drop n) (x.drop n)
 |[],x,n,h=>by simp at h;subst h;simp
 |d::ds,[],_,h=>by simp at h
 |d::ds,v::vs,0,h=>by simpa using h
 |d::ds,v::vs,n+1,h=>by simp at h;simpa using h.2.drop n
theorem Aq.set{p:Pl}:∀ {a:List V} {x:List Value} (i:Nat) {d:V} {v:Value},Aq p a x->Ab p d v->Aq p (a.set i d) (x.set i v)
 |[],x,n,_,_,h,_=>by simp at h;subst h;simp
 |d::ds,[],_,_,_,h,_=>by simp at h
 |d::ds,v::vs,0,_,_,h,h'=>by simp at h;simp[h.2,h']
 |d::ds,v::vs,n+1,_,_,h,h'=>by simp at h;simp[h.1,h.2.set n h']
mutual
theorem Ab.mono{p:Pl}(q:Pl):∀ {d:V} {v:Value},Ab p d v->Ab (p++q) d v
 | .bool _,_,h=>by simpa [Ab]using h
 | .int _ _,_,h=>by simpa [Ab]using h
 | .str _,_,h=>by simpa [Ab]using h
 | .nilp,_,h=>by simpa [Ab]using h
 | .ptr b off,v,h=>by
  simp only[Ab]at h ⊢;obtain⟨r,n,e,g⟩:=h;exact⟨r,n,by rw[zi (by have:=(zf.1 e).1;omega)];exact e,g⟩
 | .nils,_,h=>by simpa [Ab]using h
 | .sl b off len cap o,v,h=>by
  simp only[Ab]at h ⊢;obtain⟨r,n,c,e,g⟩:=h;exact⟨r,n,c,by rw[zi (by have:=(zf.1 e).1;omega)];exact e,g⟩
 | .esl,_,h=>by simpa [Ab]using h
 | .es0,_,h=>by simpa [Ab]using h
 | .junk,_,h=>by simp[Ab]at h
 | .nilm,_,h=>by simpa [Ab]using h
 | .map b,v,h=>by
  simp only[Ab]at h ⊢;obtain⟨r,n,e,g⟩:=h;exact⟨r,n,by rw[zi (by have:=(zf.1 e).1;omega)];exact e,g⟩
 | .fn f a b,v,h=>by
  simp only[Ab]at h ⊢;obtain⟨x,y,rfl,e,g⟩:=h;exact⟨x,y,rfl,Aq.mono q e,Aq.mono q g⟩
 | .yld b,v,h=>by
  simp only[Ab]at h ⊢;obtain⟨r,n,e,g⟩:=h;exact⟨r,n,by rw[zi (by have:=(zf.1 e).1;omega)];exact e,g⟩
 | .nilf,_,h=>by simpa [Ab]using h
 | .iface t x,v,h=>by
  simp only[Ab]at h ⊢;obtain⟨y,rfl,e⟩:=h;exact⟨y,rfl,Ab.mono q e⟩
 | .nili,_,h=>by simpa [Ab]using h
 | .agg cs,v,h=>by
  simp only[Ab]at h ⊢;obtain⟨x,rfl,e⟩:=h;exact⟨x,rfl,Aq.mono q e⟩
 | .tup cs,v,h=>by
  simp only[Ab]at h ⊢;obtain⟨x,rfl,e⟩:=h;exact⟨x,rfl,Aq.mono q e⟩
theorem Aq.mono{p:Pl}(q:Pl):∀ {ds:List V} {vs:List Value},Aq p ds vs->Aq (p++q) ds vs
 |[],_,h=>by simpa using h
 |_::_,[],h=>by simp at h
 |d::ds,v::vs,h=>by simp only[A5]at h ⊢;exact⟨Ab.mono q h.1,Aq.mono q h.2⟩
end
structure Fr where
 n:Nat
 m:PM V
def Fr.get(f:Fr)(t:Nat):V:=(f.m.get t).getD<|.tup []
def Fr.put(f:Fr)(d:Option Nat)(v:V):Option Fr:=
 match d with
 |none=>some f
 |some t=>bif yi t f.n then some ⟨f.n,f.m.set t<|some v⟩else none
def EA(p:Pl)(f:Fr)(tmps:Array Value):Prop:=f.n=tmps.size/\∀t,Ab p (f.get t)<|tmps.getD t undef
def Cr(p:Pl)(f:Fr)(a:Act):Prop:=f.n=a.tmps.size/\∀t,Ab p (f.get t)<|a.tmps.getD t undef
theorem EA.mono{p:Pl}(q:Pl){f:Fr}{tmps:Array Value}(h:EA p f tmps):EA (p++q) f tmps:=⟨h.1,fun t=>(h.2 t).mono q⟩
structure LS where
 st:LoopState
 pend:Option Code
 fr:Fr
 ps:Array Tmp
 asg:Code
 body:Code
 db:Nat
inductive O where
 |cells (cs:List V) (elem:TypeId) (fz:Nat×Nat)
 |map (es:List (V×V×Nat)) (clock:Nat)
 |siter (s:Z) (pos:Nat)
 |miter (b:Option Nat) (since:Nat) (seen:List Nat) (last:Nat)
 |loop (l:LS)
 |defd (open_:Bool)
structure H where
 m:PM O
 nx:Nat
def H.get(h:H)(b:Nat):Option O:=h.m.get b
def H.push(h:H)(o:O):H:=⟨h.m.set h.nx<|some o,h.nx+1⟩
def H.put(h:H)(b:Nat)(o:O):H:=⟨h.m.set b<|some o,h.nx⟩
def H.kill(h:H)(b:Nat):H:=⟨h.m.set b none,h.nx⟩
@[simp] theorem H.Bz(h:H)(o:O)(b:Nat):(h.push o).get b=if b=h.nx then some o else h.get b:=by simp[H.push,H.get]
@[simp] theorem H.Bc(h:H)(b:Nat)(o:O)(j:Nat):(h.put b o).get j=if j=b then some o else h.get j:=by simp[H.put,H.get]
@[simp] theorem H.B0(h:H)(b:Nat)(j:Nat):(h.kill b).get j=if j=b then none else h.get j:=by simp[H.kill,H.get]
@[simp] theorem H.vU(h:H)(o:O):(h.push o).nx=h.nx+1:=rfl
@[simp] theorem H.wN(h:H)(b:Nat)(o:O):(h.put b o).nx=h.nx:=rfl
@[simp] theorem H.VE(h:H)(b:Nat):(h.kill b).nx=h.nx:=rfl
inductive Di (p:Pl):List (V×V×Nat)->List MapEntry->Prop
 |nil:Di p [] []
 |cons {k v:V} {b:Nat} {es:List (V×V×Nat)} {e:MapEntry} {l:List MapEntry}:Ab p k e.key->Ab p v e.val->e.born=b->Di p es l->Di p ((k,v,b)::es) (e::l)
def V.ok:V->Bool
 | .junk=>false
 |_=>true
def DP(p:Pl)(cs:List V)(vs:List Value):Prop:=cs.length=vs.length/\∀(i:Nat) d v,cs[i]?=some d->vs[i]?=some v->d.ok=true->Ab p d v
theorem Aq.uT{p:Pl}{cs:List V}{vs:List Value}(h:Aq p cs vs):DP p cs vs:=⟨h.length,fun i d v b e _=>by
 obtain⟨u,a,c⟩:=h.get b;rw[e]at a;cases a;exact c⟩
theorem DP.get{p:Pl}{cs:List V}{vs:List Value}(h:DP p cs vs){i:Nat}{d:V}(b:cs[i]?=some d)(c:d.ok=true):∃v,vs[i]?=some v/\Ab p d v:=by
 have a:i<vs.length:=by rw[<-h.1];exact(zf.1 b).1
 exact⟨vs[i],zN a,h.2 i d _ b (zN a) c⟩
theorem DP.drop{p:Pl}{cs:List V}{vs:List Value}(h:DP p cs vs)(n:Nat):DP p (cs.drop n) (vs.drop n):=
 ⟨by simp[h.1],fun i d v a b=>h.2 (n+i) d v (by rwa [zZ]at a)<|by rwa [zZ]at b⟩
theorem DP.take{p:Pl}{cs:List V}{vs:List Value}(h:DP p cs vs)(n:Nat):DP p (cs.take n) (vs.take n):=
 ⟨by simp[h.1],fun i d v a b=>by
  have c:i<n:=by have:=(zf.1 a).1;simp at this;omega
  rw[zk c]at a b;exact h.2 i d v a b⟩
theorem DP.Mn{p:Pl}{cs:List V}{vs:List Value}(h:DP p cs vs)(c:∀d∈cs,d.ok=true):Aq p cs vs:=
 Aq.mk h.1 fun i d v a b=>h.2 i d v a b<|c d<|List.mem_of_getElem? a
def GD(p:Pl)(n:Nat):O->Obj->Prop
 | .cells cs t fz,o=>∃(c:Array Value) (fz':Nat×Nat),o=.cells c t fz'/\c.size=n/\cs.length<=n/\DP p cs (c.toList.take cs.length)/\∀i,i<n->fz'.1<=i->i<fz'.2->fz.1<=i/\i<fz.2
 | .map es clock,o=>∃l:Array MapEntry,o=.map l clock/\Di p es l.toList
 | .siter s pos,o=>o=.stringIter (bytesOf s) pos
 | .miter none since seen last,o=>o=.mapIter none since seen.toArray last
 | .miter (some b) since seen last,o=>∃r m,p[b]?=some (r,m)/\o=.mapIter (some r) since seen.toArray last
 | .loop l,o=>∃(fn:FuncId) (tmps:Array Value) (r m:Nat),EA p l.fr tmps/\p[l.db]?=some (r,m)/\o=.loop { state:=l.st,pending:=l.pend,fn,tmps,params:=l.ps,assign:=l.asg,body:=l.body,defers:=r }
 | .defd op,o=>o=.deferred (bif op then some []else none)
theorem DP.mono{p:Pl}(q:Pl){cs:List V}{vs:List Value}(h:DP p cs vs):DP (p++q) cs vs:=⟨h.1,fun i d v a c b=>(h.2 i d v a c b).mono q⟩
theorem Di.mono{p:Pl}(q:Pl){es:List (V×V×Nat)}{l:List MapEntry}(h:Di p es l):Di (p++q) es l:=by
 induction h with
 |nil=>exact .nil
 |cons a d c _ b=>exact .cons (a.mono q) (d.mono q) c b
theorem GD.mono{p:Pl}(q:Pl){n:Nat}{o:O}{x:Obj}(h:GD p n o x):GD (p++q) n o x:=by
 cases o with
 |cells cs t fz=>obtain⟨c,fz',a,d,f,e,g⟩:=h;exact⟨c,fz',a,d,f,e.mono q,g⟩
 |map es i=>obtain⟨l,a,d⟩:=h;exact⟨l,a,d.mono q⟩
 |siter s pos=>exact h
 |miter b since seen last=>
  cases b with
  |none=>exact h
  |some b=>
   obtain⟨r,m,a,d⟩:=h;exact⟨r,m,by rw[zi (zf.1 a).1];exact a,d⟩
 |loop l=>
  obtain⟨fn,tmps,r,m,h0,a,d⟩:=h;exact⟨fn,tmps,r,m,h0.mono q,by rw[zi (zf.1 a).1];exact a,d⟩
 |defd _=>exact h
structure R(p:Pl)(h:H)(w:World):Prop where
 len:p.length=h.nx
 obj:∀b o,h.get b=some o->∃r n x,p[b]?=some (r,n)/\w.heap[r]?=some x/\GD p n o x
 inj:∀b b' o o' r n n',h.get b=some o->h.get b'=some o'->p[b]?=some (r,n)->p[b']?=some (r,n')->b=b'
def Im(p:Pl)(h:H)(r:Nat):Prop:=∃b o n,h.get b=some o/\p[b]?=some (r,n)
def Lk(n:Nat)(fz:Nat×Nat):Prop:=fz.1=0/\n<=fz.2/\0<fz.2
def xO(p:Pl)(h:H)(r:Nat):Prop:=∃b n cs t fz,h.get b=some (.cells cs t fz)/\p[b]?=some (r,n)/\Lk n fz
structure Ext(p:Pl)(h:H)(w:World)(p':Pl)(h':H)(w':World):Prop where
 pre:∃q,p'=p++q
 rel:R p' h' w'
 size:w.heap.size<=w'.heap.size
 same:∀r,r<w.heap.size->¬Im p h r->w'.heap[r]?=w.heap[r]?
 im:∀r,Im p' h' r->Im p h r\/w.heap.size<=r
 os:w'.os=w.os
 out:w'.output=w.output
 tape:w'.tape=w.tape
 lock:∀r,r<w.heap.size->xO p h r->w'.heap[r]?=w.heap[r]?/\(xO p' h' r\/¬Im p' h' r)
theorem Ext.refl{p:Pl}{h:H}{w:World}(a:R p h w):Ext p h w p h w:=
 ⟨⟨[],by simp⟩,a,zg _,fun _ _ _=>rfl,fun _ h=>.inl h,rfl,rfl,rfl,fun _ _ h=>⟨rfl,.inl h⟩⟩
theorem Ext.trans{p k f:Pl}{h d g:H}{w e i:World}(a:Ext p h w k d e)(b:Ext k d e f g i):Ext p h w f g i:=by
 obtain⟨q,u⟩:=a.pre;obtain⟨q',hq'⟩:=b.pre;refine⟨⟨q++q',by rw[hq',u,List.append_assoc]⟩,b.rel,Nat.le_trans a.size b.size,fun r n o=>?_,fun r n=>?_,b.os.trans a.os,b.out.trans a.out,b.tape.trans a.tape,fun r m v=>?_⟩
 ·rw[b.same r (Nat.lt_of_lt_of_le n a.size) ?_,a.same r n o];intro c;rcases a.im r c with l|l
  ·exact o l
  ·omega
 ·rcases b.im r n with c|c
  ·exact a.im r c
  ·exact .inr<|Nat.le_trans a.size c
 ·obtain⟨s,c⟩:=a.lock r m v;have j:=Nat.lt_of_lt_of_le m a.size;rcases c with c|c
  ·obtain⟨t,l⟩:=b.lock r j c;exact⟨t.trans s,l⟩
  ·refine⟨(b.same r j c).trans s,.inr fun x=>?_⟩;rcases b.im r x with l|l
   ·exact c l
   ·omega
theorem Ext.bZ{p p':Pl}{h h':H}{w w':World}(e:Ext p h w p' h' w'){d:V}{v:Value}(a:Ab p d v):Ab p' d v:=by
 obtain⟨q,rfl⟩:=e.pre;exact a.mono q
theorem Ext.drew{p:Pl}{h:H}{w:World}(a:R p h w)(n:Nat):Ext p h w p h { w with drawn:=n }:=
 ⟨⟨[],by simp⟩,⟨a.len,a.obj,a.inj⟩,zg _,fun _ _ _=>rfl,fun _ h=>.inl h,rfl,rfl,rfl,fun _ _ h=>⟨rfl,.inl h⟩⟩
theorem R.lt{p:Pl}{h:H}{w:World}(a:R p h w){b:Nat}{o:O}(d:h.get b=some o):b<h.nx:=by
 obtain⟨r,n,x,c,_⟩:=a.obj b o d;have:=(zf.1 c).1;have:=a.len;omega
theorem R.Wr{p:Pl}{h:H}{w:World}(a:R p h w){r:Nat}(d:Im p h r):r<w.heap.size:=by
 obtain⟨b,o,n,c,e⟩:=d;obtain⟨r',n',x,h3,h4,_⟩:=a.obj b o c;rw[e]at h3;cases h3;exact(zx.1 h4).1
theorem Ext.push{p:Pl}{h:H}{w:World}(g:R p h w){o:O}{x:Obj}{n:Nat}(I:GD p n o x):
  Ext p h w (p++[(w.heap.size,n)]) (h.push o) { w with heap:=w.heap.push x }:=by
 have F:∀b o',h.get b=some o'->b≠h.nx:=fun b o' d=>by have:=g.lt d;omega
 have f:(p++[(w.heap.size,n)])[h.nx]?=some (w.heap.size,n):=by rw[<-g.len];simp
 have a:∀b,b<h.nx->(p++[(w.heap.size,n)])[b]?=p[b]?:=fun b d=>zi (by rw[g.len];exact d)
 refine⟨⟨_,rfl⟩,⟨by simp[g.len],fun b o' d=>?_,fun b b' l k r m A d v j i=>?_⟩,by simp,fun r q _=>?_,fun r M=>?_,rfl,rfl,rfl,fun r q K=>?_⟩
 ·rw[H.Bz]at d;by_cases e:b=h.nx
  ·subst e;simp at d;subst d;exact⟨_,_,x,f,by simp,I.mono _⟩
  ·rw[wc e]at d;obtain⟨r,m,y,j,i,L⟩:=g.obj b o' d;refine⟨r,m,y,by rw[a b<|g.lt d];exact j,?_,L.mono _⟩;have:=(zx.1 i).1;simp[zW,yr this,i]
 ·have key:∀c o' r m,(h.push o).get c=some o'->(p++[(w.heap.size,n)])[c]?=some (r,m)->(c=h.nx/\r=w.heap.size)\/(h.get c=some o'/\p[c]?=some (r,m)/\r<w.heap.size):=by
   intro c o' r m u s;rw[H.Bz]at u;by_cases e:c=h.nx
   ·subst e;rw[f]at s;cases s;exact .inl ⟨rfl,rfl⟩
   ·rw[wc e]at u;rw[a c<|g.lt u]at s;exact .inr ⟨u,s,g.Wr ⟨c,o',m,u,s⟩⟩
  rcases key b l r m d j with⟨B,C⟩|⟨B,C,N⟩<;>rcases key b' k r A v i with⟨D,E⟩|⟨D,E,Q⟩
  ·omega
  ·omega
  ·omega
  ·exact g.inj b b' l k r m A B D C E
 ·simp[zW,yr q]
 ·obtain⟨b,o',m,j,i⟩:=M;rw[H.Bz]at j;by_cases e:b=h.nx
  ·subst e;rw[f]at i;cases i;exact .inr<|zg _
  ·rw[wc e]at j;rw[a b<|g.lt j]at i;exact .inl ⟨b,o',m,j,i⟩
 ·refine⟨by simp[zW,yr q],.inl ?_⟩;obtain⟨b,m,cs,t,fz,z,J,G⟩:=K;refine⟨b,m,cs,t,fz,?_,?_,G⟩
  ·rw[H.Bz,wc<|F b _ z];exact z
  ·rw[a b<|g.lt z];exact J
theorem Ext.put{p:Pl}{h:H}{w w':World}(v:R p h w){b r n:Nat}{o o':O}{x':Obj}(l:h.get b=some o)(j:p[b]?=some (r,n))(L:GD p n o' x')
  (q:w'.heap=w.heap.setIfInBounds r x') (B:w'.os=w.os) (C:w'.output=w.output) (S:w'.tape=w.tape)
  (M:∀cs t fz,o=.cells cs t fz->Lk n fz->w.heap[r]?=some x'/\∃cs' F,o'=.cells cs' F fz:=by intro _ _ _ h;cases h):Ext p h w p (h.put b o') w':=by
 have x:r<w.heap.size:=v.Wr ⟨b,o,n,l,j⟩;refine⟨⟨[],by simp⟩,⟨v.len,fun c g a=>?_,fun c I g k s m J a E B C=>?_⟩,by simp[q],fun s K Q=>?_,fun s U=>?_,B,C,S,fun s K N=>?_⟩
 ·rw[H.Bc]at a;by_cases e:c=b
  ·subst e;simp at a;subst a;exact⟨r,n,x',j,by rw[q];simp[x],L⟩
  ·rw[wc e]at a;obtain⟨s,m,y,f,u,V⟩:=v.obj c g a;refine⟨s,m,y,f,?_,V⟩;have d:r≠s:=fun G=>e<|v.inj c b g o s m n a l f<|G▸j
   rw[q,zj d];exact u
 ·have i:∀c g,(h.put b o').get c=some g->∃k,h.get c=some k:=by
   intro c g a;rw[H.Bc]at a;by_cases e:c=b
   ·exact⟨o,e▸l⟩
   ·rw[wc e]at a;exact⟨g,a⟩
  obtain⟨_,f⟩:=i c g a;obtain⟨_,u⟩:=i I k E;exact v.inj c I _ _ s m J f u B C
 ·have d:r≠s:=fun e=>Q<|e▸⟨b,o,n,l,j⟩
  rw[q,zj d]
 ·obtain⟨c,g,m,f,u⟩:=U;rw[H.Bc]at f;by_cases e:c=b
  ·subst e;exact .inl ⟨c,o,m,l,u⟩
  ·rw[wc e]at f;exact .inl ⟨c,g,m,f,u⟩
 ·obtain⟨c,m,cs,t,fz,A,z,D⟩:=N;by_cases e:c=b
  ·subst e;rw[j]at z;cases z;rw[l]at A;cases A;obtain⟨f,cs',F,rfl⟩:=M cs t fz rfl D;refine⟨?_,.inl ⟨c,n,cs',F,fz,by rw[H.Bc,wd rfl],j,D⟩⟩;rw[q,f];simp[x]
  ·have d:r≠s:=fun G=>e<|v.inj c b _ o s m n A l z<|G▸j
   refine⟨by rw[q,zj d],.inl ⟨c,m,cs,t,fz,by rw[H.Bc,wc e];exact A,z,D⟩⟩
theorem R.kill{p:Pl}{h:H}{w:World}(d:R p h w)(b:Nat):R p (h.kill b) w:=by
 have sub:∀c o,(h.kill b).get c=some o->h.get c=some o:=by
  intro c o a;rw[H.B0]at a;split at a
  ·cases a
  ·exact a
 exact⟨d.len,fun c o a=>d.obj c o<|sub c o a,fun c f o o' r n n' a e=>d.inj c f o o' r n n' (sub c o a)<|sub f o' e⟩
theorem Ext.kill{p:Pl}{h:H}{w:World}(g:R p h w)(b:Nat):Ext p h w p (h.kill b) w:=by
 refine⟨⟨[],by simp⟩,g.kill b,zg _,fun _ _ _=>rfl,fun r y=>?_,rfl,rfl,rfl,fun r k x=>⟨rfl,?_⟩⟩
 ·obtain⟨c,o,n,a,q⟩:=y;rw[H.B0]at a;split at a
  ·cases a
  ·exact .inl ⟨c,o,n,a,q⟩
 ·obtain⟨c,m,cs,t,fz,j,i,s⟩:=x;by_cases e:c=b
  ·subst e;refine .inr ?_;rintro⟨l,o',v,d,u⟩;rw[H.B0]at d;split at d
   ·cases d
   ·rename_i f;exact f<|g.inj l c _ _ r v m d j u i
  ·exact .inl ⟨c,m,cs,t,fz,by rw[H.B0,wc e];exact j,i,s⟩
theorem Ext.move{p:Pl}{h:H}{w w':World}(q:R p h w){b r n:Nat}{o o':O}{x':Obj}(x:h.get b=some o)(C:p[b]?=some (r,n))(X:GD p n o' x')
  (B:w'.heap=w.heap.setIfInBounds r x') (U:w'.os=w.os) (V:w'.output=w.output) (g3:w'.tape=w.tape) (Y:∀cs t fz,o=.cells cs t fz->¬Lk n fz):Ext p h w (p++[(r,n)]) ((h.kill b).push o') w':=by
 have L:r<w.heap.size:=q.Wr ⟨b,o,n,x,C⟩;have g:(p++[(r,n)])[h.nx]?=some (r,n):=by rw[<-q.len];simp
 have a:∀b,b<h.nx->(p++[(r,n)])[b]?=p[b]?:=fun b x=>zi (by rw[q.len];exact x)
 have i:∀c d,((h.kill b).push o').get c=some d->(c=h.nx/\d=o')\/(c≠b/\c<h.nx/\h.get c=some d):=by
  intro c d f;rw[H.Bz,H.VE,H.B0]at f;by_cases e:c=h.nx
  ·rw[wd e]at f;cases f;exact .inl ⟨e,rfl⟩
  ·rw[wc e]at f;by_cases l:c=b
   ·rw[wd l]at f;cases f
   ·rw[wc l]at f;exact .inr ⟨l,q.lt f,f⟩
 have G:∀c d s m,c≠b->h.get c=some d->p[c]?=some (s,m)->r≠s:=fun c d s m f S J e=>f<|q.inj c b d o s m n S x J<|e▸C
 refine⟨⟨_,rfl⟩,⟨by simp[q.len],fun c d f=>?_,fun c D d u s m W f K z A=>?_⟩,by simp[B],fun s J hn=>?_,fun s hi=>?_,U,V,g3,fun s J Z=>?_⟩
 ·rcases i c d f with⟨rfl,rfl⟩|⟨F,l,v⟩
  ·exact⟨r,n,x',g,by rw[B];simp[L],X.mono _⟩
  ·obtain⟨s,m,y,k,j,E⟩:=q.obj c d v;refine⟨s,m,y,by rw[a c l];exact k,?_,E.mono _⟩;rw[B,zj<|G c d s m F v k];exact j
 ·rcases i c d f with⟨rfl,rfl⟩|⟨F,l,v⟩<;>rcases i D u K with⟨rfl,rfl⟩|⟨f1,Q,N⟩
  ·rfl
  ·rw[g]at z;cases z;rw[a D Q]at A;exact wh rfl (G D u _ _ f1 N A)
  ·rw[g]at A;cases A;rw[a c l]at z;exact wh rfl (G c d _ _ F v z)
  ·rw[a c l]at z;rw[a D Q]at A;exact q.inj c D d u s m W v N z A
 ·have M:r≠s:=fun e=>hn<|e▸⟨b,o,n,x,C⟩
  rw[B,zj M]
 ·obtain⟨c,d,m,k,j⟩:=hi;rcases i c d k with⟨rfl,rfl⟩|⟨F,l,v⟩
  ·rw[g]at j;cases j;exact .inl ⟨b,o,n,x,C⟩
  ·rw[a c l]at j;exact .inl ⟨c,d,m,v,j⟩
 ·obtain⟨c,m,cs,t,fz,k,j,E⟩:=Z;by_cases e:c=b
  ·subst e;rw[C]at j;cases j;rw[x]at k;cases k;exact wh E<|Y cs t fz rfl
  ·have I:=q.lt k;refine⟨by rw[B,zj<|G c _ s m e k j],.inl ⟨c,m,cs,t,fz,?_,by rw[a c I];exact j,E⟩⟩;rw[H.Bz,H.VE,wc (by omega),H.B0,wc e];exact k
end
def uV(l:List Nat):List V:=l.map fun n=>.int .u64<|.ofNat n
def F5:List (Nat×O):=[(5,.cells (uV [1,10,100,1000,10000,100000,1000000,10000000,100000000,1000000000,10000000000,100000000000,1000000000000,10000000000000,100000000000000,1000000000000000,10000000000000000,100000000000000000,1000000000000000000,10000000000000000000]) 320 (0,20))]
mutual
def V.flat:V->Bool
 | .bool _| .int _ _| .str _| .nilp| .nils| .nilm| .nilf| .nili=>true
 | .agg l| .tup l=>V.HX l
 |_=>false
def V.HX:List V->Bool
 |[]=>true
 |v::vs=>v.flat&&V.HX vs
end
mutual
theorem V.CM{p q:Pl}:∀ {v:V} {v':Value},v.flat=true->Ab p v v'->Ab q v v'
 | .bool _,_,_,h| .int _ _,_,_,h| .str _,_,_,h| .nilp,_,_,h| .nils,_,_,h| .nilm,_,_,h| .nilf,_,_,h| .nili,_,_,h=>by simpa [Ab]using h
 | .agg l,_,a,h=>by
  simp only[Ab]at h ⊢;obtain⟨x,rfl,b⟩:=h;exact⟨x,rfl,V.Is (by simpa [V.flat]using a) b⟩
 | .tup l,_,a,h=>by
  simp only[Ab]at h ⊢;obtain⟨x,rfl,b⟩:=h;exact⟨x,rfl,V.Is (by simpa [V.flat]using a) b⟩
 | .ptr _ _,_,a,_| .sl _ _ _ _ _,_,a,_| .map _,_,a,_| .fn _ _ _,_,a,_| .yld _,_,a,_| .iface _ _,_,a,_=>by simp[V.flat]at a
theorem V.Is{p q:Pl}:∀ {v:List V} {v':List Value},V.HX v=true->Aq p v v'->Aq q v v'
 |[],_,_,h=>by simpa using h
 |_::_,[],_,h=>by simp at h
 |v::vs,x::xs,a,h=>by
  simp only[V.HX,zw]at a;rw[A5]at h ⊢;exact⟨V.CM a.1 h.1,V.Is a.2 h.2⟩
end
def yS:O->Nat
 | .cells cs _ _=>cs.length
 |_=>0
def uP(g:Nat):List (Nat×O)->Bool
 |[]=>false
 |(i,_)::l=>bif zt i g then true else uP g l
def tC:List (Nat×O)->PM O
 |[]=>.leaf
 |(i,o)::l=>(tC l).set i<|some o
def Ki:List (Nat×O)->Nat
 |[]=>0
 |(i,_)::l=>bif zu (i+1) (Ki l)then Ki l else i+1
def hG:H:=⟨tC F5,Ki F5⟩
def vO:List (Nat×O)->Bool
 |[]=>true
 |(_,.cells cs _ (a,b))::l=>V.HX cs&&zt a 0&&zt b cs.length&&yi 0 b&&vO l
 |_=>false
theorem VJ:vO F5=true:=by kernel_rfl
theorem VD{g:Nat}:∀ {l:List (Nat×O)},uP g l=true->∃o,(g,o)∈l
 |[],h=>by cases h
 |(i,o)::l,h=>by
  unfold uP at h;cases a:zt i g with
  |true=>cases Nat.eq_of_beq_eq_true a;exact⟨o,z6⟩
  |false=>
   rw[a]at h;obtain⟨o',b⟩:=VD h;exact⟨o',zU _ b⟩
theorem Qm:∀ {l:List (Nat×O)},vO l=true->∀x∈l,∃cs t,x.2=.cells cs t (0,cs.length)/\V.HX cs=true/\0<cs.length
 |[],_,x,c=>by cases c
 |(i,.cells cs t (a,b))::l,h,x,c=>by
  simp only[vO,zw]at h;obtain⟨⟨⟨⟨f,d⟩,e⟩,g⟩,j⟩:=h;rcases zT.1 c with rfl|c
  ·have d:a=0:=by simpa using d
   have e:b=cs.length:=by simpa using e
   subst d e;exact⟨cs,t,rfl,f,Nat.lt_of_succ_le<|zQ g⟩
  ·exact Qm j x c
theorem Ks:∀ {l:List (Nat×O)} {b:Nat} {o:O},(tC l).get b=some o->(b,o)∈l
 |[],b,o,h=>by simp[tC]at h
 |(i,o')::l,b,o,h=>by
  simp only[tC,PM.CR]at h;by_cases e:b=i
  ·subst e;rw[wd rfl]at h;cases h;exact z6
  ·rw[wc e]at h;exact zU _<|Ks h
theorem Vy{n:Nat}:∀ {l:List (Nat×O)},(∀x∈l,x.1<n)->Ki l<=n
 |[],_=>yn _
 |(i,o)::l,h=>by
  have b:=h (i,o) z6;have c:=Vy (l:=l) fun x a=>h x<|zU _ a
  unfold Ki;cases zu (i+1) (Ki l)<;>simp<;>omega
theorem Rq:∀ {l:List (Nat×O)},∀x∈l,x.1<Ki l
 |[],x,a=>by cases a
 |(i,o)::l,x,a=>by
  unfold Ki;rcases zT.1 a with rfl|a
  ·cases b:zu (i+1) (Ki l)with
   |true=>have:=zQ b;simp;omega
   |false=>simp
  ·have:=Rq (l:=l) x a;cases b:zu (i+1) (Ki l)with
   |true=>simp;exact this
   |false=>
    have:¬(i+1<=Ki l):=fun h=>by rw[zR h]at b;cases b
    simp;omega
def Gp(p:Pl):Prop:=∀x∈F5,p[x.1]?=some (x.1,yS x.2)
def Gh(h:H):Prop:=∀x∈F5,h.get x.1=some x.2
theorem Gp.app{p:Pl}(h:Gp p)(q:Pl):Gp (p++q):=fun x a=>by
 have:=h x a;rw[zi (zf.1 this).1];exact this
theorem Gp.top{p:Pl}(h:Gp p):Ki F5<=p.length:=Vy fun x a=>(zf.1<|h x a).1
theorem Gp.take{p:Pl}(h:Gp p):Gp (p.take<|Ki F5):=fun x a=>by
 rw[zk<|Rq x a];exact h x a
theorem DP.flat{p q:Pl}{cs:List V}{vs:List Value}(c:V.HX cs=true)(h:DP p cs vs):DP q cs vs:=
 ⟨h.1,fun i d v b f e=>V.CM (by
  have:=List.mem_of_getElem? b;clear h b f e;induction cs with
  |nil=>cases this
  |cons a cs g=>
   simp only[V.HX,zw]at c;rcases zT.1 this with rfl|h
   ·exact c.1
   ·exact g c.2 h)<|h.2 i d v b f e⟩
theorem qG{p:Pl}{h:H}{w:World}(u:R p h w)(i:Gp p)(v:Gh h):R (p.take<|Ki F5) hG w:=by
 refine⟨by rw[yd,yk i.top];rfl,fun b o j=>?_,fun b b' o o' r n n' j f a d=>?_⟩
 ·have g:=Ks j;obtain⟨cs,t,e,m,y⟩:=Qm VJ _ g;obtain⟨r,n,x,a,d,h3⟩:=u.obj b o<|v _ g;refine⟨r,n,x,by rw[zk<|Rq _ g];exact a,d,?_⟩;simp only at e;subst e;simp only[GD]at h3 ⊢;obtain⟨c,fz',k1,k2,k3,k4,k5⟩:=h3;exact⟨c,fz',k1,k2,k3,k4.flat m,k5⟩
 ·have s:=Ks j;have q:=Ks f;have l:=i.take _ s;have k:=i.take _ q;simp only at l k;rw[l]at a;rw[k]at d;cases a;cases d;rfl
theorem Ext.F5{p:Pl}{w w':World}{p':Pl}{h':H}(j:Gp p)(g:Ext p hG w p' h' w')(r:Nat)(a:r<w.heap.size):w'.heap[r]?=w.heap[r]?:=by
 by_cases i:Im p hG r
 ·obtain⟨b,o,n,f,d⟩:=i;have c:=Ks f;obtain⟨cs,t,e,hf,hl⟩:=Qm VJ _ c;simp only at e;subst e;have:=j _ c;simp only at this;rw[this]at d;cases d;exact(g.lock _ a ⟨_,_,_,_,_,f,this,rfl,zg _,hl⟩).1
 ·exact g.same r a i
section
variable {p:Pl}
def V.cells:V->List V
 | .agg cs=>cs
 |v=>[v]
theorem Ab.cells{d:V}{v:Value}(b:Ab p d v):Aq p d.cells v.cells.toList:=by
 cases d<;>simp only[V.cells]<;>simp only[Ab]at b
 case agg cs=>obtain⟨x,rfl,e⟩:=b;exact e
 case bool=>subst b;simp[zl,Ab]
 case int=>subst b;simp[zl,Ab]
 case str=>subst b;simp[zl,Ab]
 case nilp=>subst b;simp[zl,Ab]
 case nils=>subst b;simp[zl,Ab]
 case nilm=>subst b;simp[zl,Ab]
 case nilf=>subst b;simp[zl,Ab]
 case nili=>subst b;simp[zl,Ab]
 case ptr=>obtain⟨r,n,e,rfl⟩:=b;simp[zl,Ab,e]
 case esl=>obtain⟨a,c,rfl⟩:=b;simp[zl,Ab]
 case es0=>obtain⟨a,rfl⟩:=b;simp[zl,Ab]
 case sl=>obtain⟨r,n,c,e,rfl,f⟩:=b;simp only[zl,A5,Gb,vc];simp only[Ab];exact⟨r,n,c,e,rfl,f⟩
 case map=>obtain⟨r,n,e,rfl⟩:=b;simp[zl,Ab,e]
 case yld=>obtain⟨r,n,e,rfl⟩:=b;simp[zl,Ab,e]
 case fn=>obtain⟨x,y,rfl,e,f⟩:=b;simp only[zl,A5,Gb,vc];simp only[Ab];exact⟨x,y,rfl,e,f⟩
 case iface=>obtain⟨y,rfl,e⟩:=b;simp[zl,Ab];exact e
 case tup=>obtain⟨x,rfl,e⟩:=b;simp[zl,Ab];exact e
end
structure TI where
 size:Nat
 bytes:Nat
 zv:V
def TI.zero(i:TI):List V:=i.zv.cells
inductive FK where
 |bool
 |str
 |int (k:IntKind)
def FK.ok:FK->V->Bool
 | .bool,.bool _=>true
 | .str,.str _=>true
 | .int k,.int a _=>k==a
 |_,_=>false
def fit:List FK->List V->Bool
 |[],[]=>true
 |k::ks,v::vs=>bif k.ok v then fit ks vs else false
 |_,_=>false
structure BR where
 und:TypeId->Option TypeDesc
 inf:TypeId->Option TI
 flat:TypeId->Option (List FK)
 mth:TypeId->String->Option FuncId
def Dj:V->V->Option Bool
 | .bool a,.bool b=>some<|a==b
 | .int k a,.int c b=>if k=c then some (a==b)else none
 | .str a,.str b=>some<|a==b
 |_,_=>none
def BK:List V->List V->Option Bool
 |[],[]=>some true
 |a::c,b::d=>
  match Dj a b with
  |some true=>BK c d
  |some false=>if c.length=d.length then some false else none
  |none=>none
 |_,_=>none
structure BR.Ok(T:BR)(P:Program):Prop where
 und:∀t d,T.und t=some d->P.underlying t=some d
 inf:∀t i,T.inf t=some i->∃j v,P.info? t=some j/\j.size=i.size/\j.bytes=i.bytes/\j.zero=some v/\∀p,Ab p i.zv v
 flat:∀t ks,T.flat t=some ks->∀(p:Pl) (x y:List V) (x' y':Array Value) (r:Bool) (w:World),fit ks x=true->fit ks y=true->Aq p x x'.toList->Aq p y y'.toList->BK x y=some r->
  (yt t (.agg x') (.agg y')).run P w=.ok r w
 guard:∀t ks,T.flat t=some ks->P.eqGuardType P.depth t=false
 key:∀t ks,T.flat t=some ks->∀(p:Pl) (x:List V) (x':Array Value) (b:Bool) (w:World),fit ks x=true->Aq p x x'.toList->(Instr.checkKey b 10000 t (.agg x')).run P w=.ok () w
 kind:∀t ks,T.flat t=some ks->∃fs,T.und t=some (.struct fs)
 mth:∀t name f,T.mth t name=some f->∃j m d,P.info? t=some j/\j.methods.find? (·.name==name)=some m/\m.path= #[]/\m.func=some (f,false)/\P.underlying t=some d/\∀e,d≠ .pointer e
section
variable {T:BR}{P:Program}{p:Pl}{h:H}{w:World}
theorem Aw(b:T.Ok P){t:TypeId}{d:TypeDesc}(a:T.und t=some d):(underlying t).run P w=.ok d w:=by
 unfold underlying;simp[b.und t d a]
theorem Bo(b:T.Ok P){t:TypeId}{i:TI}(a:T.inf t=some i):(sizeOf t).run P w=.ok i.size w:=by
 obtain⟨j,v,c,d,_⟩:=b.inf t i a;unfold sizeOf typeInfo;simp[c,d]
theorem ND(b:T.Ok P){t:TypeId}{i:TI}(a:T.inf t=some i):∃j,(∀w,(typeInfo t).run P w=.ok j w)/\j.bytes=i.bytes/\j.size=i.size:=by
 obtain⟨j,v,c,e,d,_⟩:=b.inf t i a;exact⟨j,fun w=>by unfold typeInfo;simp[c],d,e⟩
theorem DO(b:T.Ok P){t:TypeId}{i:TI}(a:T.inf t=some i):∃v,(∀w,(zeroValue t).run P w=.ok v w)/\∀p,Aq p i.zero v.cells.toList:=by
 obtain⟨j,v,c,g,f,d,e⟩:=b.inf t i a;exact⟨v,fun w=>by unfold zeroValue typeInfo;simp[c,d],fun p=>(e p).cells⟩
theorem nP(b:T.Ok P){t:TypeId}{i:TI}(a:T.inf t=some i):∃v,(∀w,(zeroValue t).run P w=.ok v w)/\∀p,Ab p i.zv v:=by
 obtain⟨j,v,c,g,f,d,e⟩:=b.inf t i a;exact⟨v,fun w=>by unfold zeroValue typeInfo;simp[c,d],e⟩
def DB:TypeDesc->Bool
 | .struct _| .array _ _=>true
 |_=>false
theorem Pp(b:T.Ok P){t:TypeId}{d:TypeDesc}(a:T.und t=some d):(isAgg t).run P w=.ok (DB d) w:=by
 unfold isAgg;rw[zd,Aw b a];cases d<;>simp[DB]
def V.one:V->Bool
 | .agg _| .tup _| .junk=>false
 |_=>true
theorem V.KN{d:V}(h:d.one=true):d.ok=true:=by cases d<;>first|rfl|cases h
theorem Ab.one{d:V}{v:Value}(b:Ab p d v)(e:d.one=true):v.oneCell'=true:=by
 cases d<;>simp only[V.one]at e<;>simp only[Ab]at b
 case agg|tup=>cases e
 case ptr=>obtain⟨r,n,_,rfl⟩:=b;rfl
 case esl=>obtain⟨a,c,rfl⟩:=b;rfl
 case es0=>obtain⟨a,rfl⟩:=b;rfl
 case sl=>obtain⟨r,n,c,_,rfl,_⟩:=b;rfl
 case map=>obtain⟨r,n,_,rfl⟩:=b;rfl
 case yld=>obtain⟨r,n,_,rfl⟩:=b;rfl
 case fn=>obtain⟨x,y,rfl,_,_⟩:=b;rfl
 case iface=>obtain⟨y,rfl,_⟩:=b;rfl
 all_goals subst b;rfl
@[simp] theorem Addr.G5(r off n:Nat):Addr.add ⟨r,off,none⟩ n=⟨r,off+n,none⟩:=by
 unfold Addr.add;split<;>simp_all
def rI(h:H)(b off n:Nat):Option (List V):=
 match h.get b with
 |some (.cells cs _ _)=>if off+n<=cs.length/\((cs.drop off).take n).all V.ok=true then some ((cs.drop off).take n)else none
 |_=>none
def rd(h:H)(b off n:Nat):Option (List V):=
 match h.get b with
 |some (.cells cs _ _)=>bif zu (yo off n) (EC cs)&&J2 V.ok (Vu n<|I8 off cs)then some (Vu n<|I8 off cs)else none
 |_=>none
theorem Vp:rd=rI:=by
 funext h b off n
 unfold rd rI;split
 ·rename_i cs _ _ _;rw[CQ,Nq,Nf,EX];by_cases e:off+n<=cs.length
  ·rw[show zu (yo off n) cs.length=true from zR e];cases c:((cs.drop off).take n).all V.ok with
   |true=>rw[wd ⟨e,rfl⟩];rfl
   |false=>rw[wc<|by simp];rfl
  ·rw[wc<|fun h=>e h.1,show zu (yo off n) cs.length=false from by cases a:zu (yo off n) cs.length with|false=>rfl|true=>exact wh (zQ a) e];rfl
 ·rfl
theorem cell_of(g:R p h w){b:Nat}{cs:List V}{t:TypeId}{fz:Nat×Nat}(f:h.get b=some (.cells cs t fz)):
  ∃r n c fz',p[b]?=some (r,n)/\w.heap[r]?=some (.cells c t fz')/\c.size=n/\cs.length<=n/\DP p cs (c.toList.take cs.length)/\(∀i,w.cell? ⟨r,i,none⟩=c[i]?)/\
   ∀i,i<n->fz'.1<=i->i<fz'.2->fz.1<=i/\i<fz.2:=by
 obtain⟨r,n,x,d,a,c,fz',j,e,l,k,m⟩:=g.obj b _ f;subst j;exact⟨r,n,c,fz',d,a,e,l,k,fun i=>by simp[World.cell?,a],m⟩
theorem I5{a:Addr}{v:Value}(b:w.cell? a=some v):(load a).run P w=.ok v w:=by simp[b]
theorem run_loadCellsFrom{a:Addr}:∀(n i:Nat) (b:Array Value) (vs:List Value),vs.length=n->(∀j v,vs[j]?=some v->w.cell? (a.add<|i+j)=some v)->
  (loadCellsFrom a i n b).run P w=.ok (b++vs.toArray) w
 |0,i,b,vs,c,_=>by
  have:vs=[]:=yf.1 c;subst this;simp[loadCellsFrom]
 |n+1,i,b,[],c,_=>by simp at c
 |n+1,i,b,v::vs,c,d=>by
  unfold loadCellsFrom;rw[zd,I5 (a:=a.add i) (by have:=d 0 v rfl;simpa using this)];simp only[zc];rw[run_loadCellsFrom n (i+1) (b.push v) vs (by simpa using c) (fun j u e=>by
   have:=d (j+1) u (by simpa using e);rwa [show i+(j+1)=i+1+j from by omega]at this)]
  simp
theorem run_loadCells(u:R p h w){b off n:Nat}{xs:List V}(f:rd h b off n=some xs):
  ∃r m vs,p[b]?=some (r,m)/\(loadCells ⟨r,off,none⟩ n).run P w=.ok vs.toArray w/\Aq p xs vs/\vs.length=n/\∀i v,vs[i]?=some v->w.cell? ⟨r,off+i,none⟩=some v:=by
 rw[Vp]at f;unfold rI at f;split at f
 case h_2=>cases f
 rename_i cs t fz s;split at f
 case isFalse=>cases f
 rename_i k;obtain⟨k,l⟩:=k;cases f;obtain⟨r,m,c,_,h1,h2,h3,h4,x,h6,_⟩:=cell_of u s;have o:Aq p ((cs.drop off).take n) ((c.toList.take cs.length).drop off|>.take n):=((x.drop off).take n).Mn fun d q=>List.all_eq_true.1 l d q
 have e:((c.toList.take cs.length).drop off|>.take n).length=n:=by simp;omega
 have a:∀i v,((c.toList.take cs.length).drop off|>.take n)[i]?=some v->w.cell? ⟨r,off+i,none⟩=some v:=by
  intro i v g;have y:i<n:=by have:=(zf.1 g).1;omega
  rw[h6];rw[zk y,zZ,zk<|by omega]at g;simpa using g
 refine⟨r,m,_,h1,?_,o,e,a⟩;unfold loadCells;rw[run_loadCellsFrom n 0 #[] _ e (fun j v g=>by simpa using a j v g)];simp
def Ex(T:BR)(h:H)(t:TypeId)(a:V):Option V:=
 match a,T.und t,T.inf t with
 | .ptr b off,some d,some i=>
  bif DB d then(rd h b off i.size).map .agg
  else match rd h b off 1 with
   |some (v::_)=>some v
   |_=>none
 |_,_,_=>none
theorem SU(k:T.Ok P)(x:R p h w){t:TypeId}{a v:V}{s:Value}(l:Ab p a s)(c:Ex T h t a=some v):
  ∃v',(Instr.loadAt t s).run P w=.ok v' w/\Ab p v v':=by
 unfold Ex at c;split at c
 case h_2=>cases c
 rename_i b off d i A C;simp only[Ab]at l;obtain⟨r,n,q,rfl⟩:=l;unfold Instr.loadAt zO;simp only[zd,ze,zc];unfold loadVar;simp only[zd];rw[Pp k A];simp only[zc];cases f:DB d with
 |true=>
  simp only[f,we]at c;rw[zn]at c;obtain⟨xs,j,rfl⟩:=c;obtain⟨y,m,vs,e,o,g,_⟩:=run_loadCells (P:=P) x j;rw[q]at e;cases e;simp only[wk,zd,Bo k C,zc,o,ze];exact⟨_,rfl,by simp only[Ab];exact⟨_,rfl,by simpa using g⟩⟩
 |false=>
  simp only[f,wg]at c;split at c
  case h_2=>cases c
  rename_i v0 tl j;cases c;obtain⟨y,m,vs,e,o,g,z,B⟩:=run_loadCells (P:=P) x j;rw[q]at e;cases e;cases vs with
  |nil=>simp at z
  |cons u D=>
   simp at g;simp only[zm,vf];have:=B 0 u rfl;rw[I5<|by simpa using this];exact⟨u,rfl,g.1⟩
def FO:List V->Nat->List V->List V
 |cs,_,[]=>cs
 |cs,off,v::vs=>FO (cs.set off v) (off+1) vs
@[simp] theorem Fu:∀(vs:List V) (cs:List V) (off:Nat),(FO cs off vs).length=cs.length
 |[],_,_=>rfl
 |v::vs,cs,off=>by simp[FO,Fu vs]
def clear(fz:Nat×Nat)(off n:Nat):Bool:=zu fz.2 off||zu (off+n) fz.1||zu fz.2 fz.1
def wP(h:H)(b off:Nat)(vs:List V):Option H:=
 match h.get b with
 |some (.cells cs t fz)=>bif zu (off+vs.length) cs.length&&clear fz off vs.length&&vs.all V.one then some (h.put b<|.cells (FO cs off vs) t fz)else none
 |_=>none
theorem K0(a:V):∀(vs cs:List V) (off:Nat),FO (a::cs) (off+1) vs=a::FO cs off vs
 |[],cs,off=>rfl
 |v::vs,cs,off=>by
  show FO ((a::cs).set (off+1) v) (off+1+1) vs=a::FO (cs.set off v) (off+1) vs;rw[List.set_cons_succ,K0 a vs]
theorem M0:∀(vs:List V) (off:Nat),FO [] off vs=[]
 |[],_=>rfl
 |v::vs,off=>by show FO ([].set off v) (off+1) vs=[];rw[List.set_nil,M0 vs]
theorem Tw:∀(vs cs:List V),I2 vs cs=FO cs 0 vs
 |[],cs=>rfl
 |v::vs,[]=>(M0 _ _).symm
 |v::vs,c::cs=>by
  show v::I2 vs cs=FO ((c::cs).set 0 v) (0+1) vs;rw[List.set_cons_zero,K0,Tw vs cs]
theorem Il(vs:List V):∀(off:Nat) (cs:List V),Ch off vs cs=FO cs off vs
 |0,cs=>Tw vs cs
 |off+1,[]=>(M0 _ _).symm
 |off+1,c::cs=>by rw[K0];exact wi (c:: ·)<|Il vs off cs
def wr(h:H)(b off:Nat)(vs:List V):Option H:=
 match h.get b with
 |some (.cells cs t fz)=>bif zu (yo off<|EC vs) (EC cs)&&clear fz off (EC vs)&&J2 V.one vs then some (h.put b<|.cells (Ch off vs cs) t fz)else none
 |_=>none
theorem rV:wr=wP:=by
 funext h b off vs
 unfold wr wP;split
 ·rw[CQ,CQ,EX,Il];rfl
 ·rfl
theorem J6(a:Array Obj)(i:Nat)(x:Obj)(j:Nat):(a.setIfInBounds i x)[j]?=if i=j/\j<a.size then some x else a[j]?:=by
 by_cases e:i=j
 ·subst e;by_cases h:i<a.size
  ·simp[h]
  ·simp[h]
 ·rw[zj e];simp[e]
theorem dH{a:Array Obj}{i:Nat}{x:Obj}(h:a[i]?=some x):a.setIfInBounds i x=a:=by
 apply z7;intro j;rw[J6];split
 ·rename_i e;rw[<-e.1,h]
 ·rfl
theorem set_set(a:Array Obj)(i:Nat)(x y:Obj):(a.setIfInBounds i x).setIfInBounds i y=a.setIfInBounds i y:=by
 apply z7;intro j;simp only[J6,Array.size_setIfInBounds];split<;>simp_all
theorem NB{a:Array Obj}{i:Nat}{f:Obj->Obj}{x:Obj}(h:a[i]?=some x):a.modify i f=a.setIfInBounds i (f x):=by
 apply z7;intro j;rw[J6,Array.getElem?_modify];by_cases e:i=j
 ·subst e;have:=(zx.1 h).1;rw[wd rfl,h,wd ⟨rfl,this⟩];rfl
 ·simp[e]
theorem setCell_eq{w:World}{r off:Nat}{c:Array Value}{t:TypeId}{fz:Nat×Nat}(v:Value)(a:w.heap[r]?=some (.cells c t fz)):
  w.setCell ⟨r,off,none⟩ v={ w with heap:=w.heap.setIfInBounds r (.cells (c.setIfInBounds off v) t fz) }:=by
 unfold World.setCell;rw[NB a];rfl
theorem Fo{r:Nat}{t:TypeId}{fz:Nat×Nat}:∀(vs:List Value) (w:World) (c:Array Value) (off i:Nat),w.heap[r]?=some (.cells c t fz)->off+i+vs.length<=c.size->
  (∀v∈vs,v.oneCell'=true)->(∀j,i<=j->j<i+vs.length->¬(fz.1<=off+j/\off+j<fz.2))->
  ∃g:Array Value,(storeCells ⟨r,off,none⟩ vs i).run P w=.ok () { w with heap:=w.heap.setIfInBounds r (.cells g t fz) }/\g.size=c.size/\
   g.toList=(List.range c.size).map (fun j=>if off+i<=j/\j<off+i+vs.length then vs.getD (j-(off+i)) default else c.toList.getD j default)
 |[],w,c,off,i,d,_,_,_=>by
  refine⟨c,?_,rfl,?_⟩
  ·simp only[storeCells,ze,dH d]
  ·apply List.ext_getElem (by simp);intro j l s;have A:j<c.size:=by simpa using l
   simp only[List.getElem_map,List.getElem_range,List.length_nil,yu];rw[wc<|by omega];simp[zS,A]
 |v::vs,w,c,off,i,d,n,a,f=>by
  simp at n;have b:w.cell? ⟨r,off+i,none⟩=some (c[off+i]'(by omega)):=by simp[World.cell?,d]
  have o:w.frozen? ⟨r,off+i,none⟩=false:=by
   simp only[World.frozen?,d];have:=f i (zg _) (by simp);rw[Bool.eq_false_iff];intro E;apply this;simpa using E
  have k:=setCell_eq (off:=off+i) v d;have m:=(zx.1 d).1;obtain⟨g,l,s,D⟩:=Fo vs { w with heap:=w.heap.setIfInBounds r (.cells (c.setIfInBounds (off+i) v) t fz) } (c.setIfInBounds (off+i) v) off (i+1)
   (by rw[J6,wd ⟨rfl,m⟩]) (by simp;omega) (fun u C=>a u<|by simp[C]) (fun j z B=>f j (by omega)<|by simp;omega)
  refine⟨g,?_,by simpa using s,?_⟩
  ·unfold storeCells;rw[zd,Addr.G5,run_store P w _ v .plain<|a v<|by simp];simp only[b,o,zm,vf,zc,k,l,set_set]
  ·rw[D];apply List.ext_getElem (by simp);intro j q F;simp at q;simp only[List.getElem_map,List.getElem_range,yc];by_cases e:j=off+i
   ·subst e;rw[wc (by omega),wd<|by omega];simp[zS,q]
   ·by_cases y:off+(i+1)<=j/\j<off+(i+1)+vs.length
    ·rw[wd y,wd<|by omega];have:j-(off+i)=(j-(off+(i+1)))+1:=by omega
     rw[this];simp[zS]
    ·rw[wc y,wc<|by omega];simp only[zS,Array.toList_setIfInBounds];rw[List.getElem?_set_ne<|fun x=>e x.symm]
theorem OX:∀(vs cs:List V) (off j:Nat),off+vs.length<=cs.length->(FO cs off vs)[j]?=if off<=j/\j<off+vs.length then vs[j-off]? else cs[j]?
 |[],cs,off,j,_=>by rw[wc<|by simp only[List.length_nil];omega];rfl
 |v::vs,cs,off,j,a=>by
  simp at a;unfold FO;rw[OX vs (cs.set off v) (off+1) j<|by simp;omega];by_cases e:j=off
  ·subst e;rw[wc (by omega),wd<|by simp];have:j<cs.length:=by omega
   simp[this]
  ·by_cases b:off+1<=j/\j<off+1+vs.length
   ·rw[wd b,wd<|by simp;omega];have:j-off=(j-(off+1))+1:=by omega
    rw[this];simp
   ·rw[wc b,wc (by simp;omega),List.getElem?_set_ne<|fun x=>e x.symm]
theorem Rb(F:R p h w){b off:Nat}{xs:List V}{vs:List Value}(s:Aq p xs vs){h':H}(k:wr h b off xs=some h'):
  ∃r m w',p[b]?=some (r,m)/\(storeCells ⟨r,off,none⟩ vs).run P w=.ok () w'/\Ext p h w p h' w':=by
 rw[rV]at k;unfold wP at k;split at k
 case h_2=>cases k
 rename_i cs t fz E;cases q:(zu (off+xs.length) cs.length&&clear fz off xs.length&&xs.all V.one)with
 |false=>simp[q]at k
 |true=>
  simp only[q,we,zh]at k;subst k;simp only[zw,z8,List.all_eq_true]at q;obtain⟨⟨c1,G⟩,Q⟩:=q;obtain⟨r,m,c,fz',h1,h2,h3,h4,h5,h6,h7⟩:=cell_of F E;have hl:=s.length;have n:∀v∈vs,v.oneCell'=true:=by
   intro v f;obtain⟨i,o⟩:=List.mem_iff_getElem?.1 f;have J:=(zf.1 o).1;obtain⟨u,a,g⟩:=s.get (i:=i) (d:=xs[i]'(by omega)) (by simp);rw[o]at a;cases a;exact g.one<|Q _<|List.getElem_mem _
  have x:∀j,0<=j->j<0+vs.length->¬(fz'.1<=off+j/\off+j<fz'.2):=by
   rintro j _ z ⟨O,M⟩;have:=h7 (off+j) (by omega) O M;simp only[clear,Bool.or_eq_true,z8]at G;omega
  obtain⟨D,K,X,I⟩:=Fo (P:=P) vs w c off 0 h2 (by omega) n x;refine⟨r,m,_,h1,K,Ext.put F E h1 ?_ rfl rfl rfl rfl (fun S W U L A=>?_)⟩
  case refine_2=>
   cases L;refine⟨?_,_,_,rfl⟩;obtain⟨Y,l2,Z⟩:=A;simp only[clear,Bool.or_eq_true,z8]at G;have N:xs.length=0:=by omega
   have C:vs=[]:=yf.1 (by omega);subst C;have B:D=c:=by
    apply Array.ext';apply List.ext_getElem?;intro j;rw[I];by_cases z:j<c.size
    ·rw[zP,zM z];simp only[zV];rw[wc<|by simp];simp[zS,z]
    ·rw[List.getElem?_eq_none (by simp;omega),List.getElem?_eq_none<|by simp;omega]
   rw[B];exact h2
  refine⟨D,fz',rfl,by omega,by simpa using h4,?_,h7⟩;rw[Fu];refine⟨by simp;omega,?_⟩;intro i d v l f y;rw[OX xs cs off i<|by omega]at l;have o:i<cs.length:=by
   have:=(zf.1 f).1;simp at this;omega
  rw[zk o,I]at f;simp only[yu,zP]at f;rw[zM<|by omega]at f;simp only[zV,zh]at f;by_cases e:off<=i/\i<off+xs.length
  ·rw[wd e]at l;rw[wd<|by omega]at f;obtain⟨u,a,g⟩:=s.get l;simp only[zS,a,yg]at f;exact f▸g
  ·rw[wc e]at l;rw[wc<|by omega]at f;obtain⟨u,a,g⟩:=h5.get l y;rw[zk o]at a;simp only[zS,a,yg]at f;exact f▸g
def GH(T:BR)(h:H)(t:TypeId)(a x:V):Option H:=
 match a,T.inf t with
 | .ptr b off,some i=>bif zt x.cells.length i.size then wr h b off x.cells else none
 |_,_=>none
theorem XR(j:T.Ok P)(l:R p h w){t:TypeId}{a x:V}{g x':Value}(f:Ab p a g)(d:Ab p x x'){h':H}(c:GH T h t a x=some h'):
  ∃w',(Instr.storeAt t g x').run P w=.ok () w'/\Ext p h w p h' w':=by
 unfold GH at c;split at c
 case h_2=>cases c
 rename_i b off i q;rw[Bf]at c;by_cases e:x.cells.length=i.size
 ·simp only[e,decide_true,we]at c;simp only[Ab]at f;obtain⟨r,n,k,rfl⟩:=f;obtain⟨r',m,w',h1,h2,h3⟩:=Rb (P:=P) l d.cells c;rw[k]at h1;cases h1;refine⟨w',?_,h3⟩;have o:=d.cells.length;unfold Instr.storeAt zO;simp only[zd,ze,zc];unfold storeVar;have:x'.cells.size=i.size:=by rw[<-e,o];simp
  simp only[zd,Bo j q,zc,this,wm,not_true_eq_false,vf];exact h2
 ·simp[e]at c
theorem B6(t:TypeId)(c:Array Value):(newRow t c).run P w=.ok ⟨w.heap.size,0,none⟩ { w with heap:=w.heap.push (.cells c t) }:=by
 unfold newRow;simp
def H9(h:H)(t:TypeId)(cs:List V):H:=h.push<|.cells cs t (0,0)
theorem MK(b:R p h w)(t:TypeId){xs:List V}{c:Array Value}(a:Aq p xs c.toList):
  ∃n,Ext p h w (p++[(w.heap.size,n)]) (H9 h t xs) { w with heap:=w.heap.push (.cells c t) }/\(p++[(w.heap.size,n)])[h.nx]?=some (w.heap.size,n)/\n=c.size:=by
 refine⟨c.size,Ext.push b ⟨c,(0,0),rfl,rfl,by have:=a.length;simp at this;omega,?_,fun i _ d e=>⟨d,e⟩⟩,by rw[<-b.len];simp,rfl⟩;have:=a.length;rw[List.take_of_length_le<|by simp at this ⊢;omega];exact a.uT
def F4(T:BR)(h:H)(t:TypeId):Option (V×H):=(T.inf t).map fun i=>(.ptr h.nx 0,H9 h t i.zero)
theorem Xp(c:T.Ok P)(d:R p h w){t:TypeId}{v:V}{h':H}(a:F4 T h t=some (v,h')):
  ∃v' p' w',(Instr.alloc t true<|.tuple #[]).run P w=.ok v' w'/\Ab p' v v'/\Ext p h w p' h' w':=by
 unfold F4 at a;rw[zn]at a;obtain⟨i,e,b⟩:=a;cases b;obtain⟨z,hz,hzr⟩:=DO c e;obtain⟨n,b,hp,_⟩:=MK d t<|hzr p;refine⟨.pointer<|some ⟨w.heap.size,0,none⟩,_,_,?_,?_,b⟩
 ·unfold Instr.alloc;simp only[zd,hz,zc];unfold newVar;simp only[B6,zc,ze]
 ·simp only[Ab];exact⟨_,_,hp,rfl⟩
def X1(h:H)(t:TypeId)(x:V):V×H:=(.ptr h.nx 0,H9 h t x.cells)
theorem jK(b:R p h w){t:TypeId}{x:V}{x':Value}(a:Ab p x x'):
  ∃v' p' w',(Instr.box t x').run P w=.ok v' w'/\Ab p' (X1 h t x).1 v'/\Ext p h w p' (X1 h t x).2 w':=by
 obtain⟨n,d,c,_⟩:=MK b t a.cells;refine⟨.pointer<|some ⟨w.heap.size,0,none⟩,_,_,?_,?_,d⟩
 ·unfold Instr.box newVar;simp only[zd,B6,zc,ze]
 ·simp only[X1,Ab];exact⟨_,_,c,rfl⟩
def SF(op:BinOp)(x y:Z):Option V:=
 match op with
 | .add=>if x.length+y.length<=4611686018427387904 then some (.str<|x++y)else none
 | .eql=>some<|.bool<|x==y
 | .neq=>some<|.bool !(x==y)
 | .lss=>some<|.bool<|yj x y
 | .leq=>some<|.bool<|yj x y||x==y
 | .gtr=>some<|.bool !(yj x y||x==y)
 | .geq=>some<|.bool !yj x y
 |_=>none
theorem Fl(s:Z):(bytesOf s).toList=s:=ByteArray.toList_mk s
theorem Bv(s:Z):(bytesOf s).size=s.length:=by simp[bytesOf,ByteArray.size]
theorem NK(x y:Z):bytesOf x++bytesOf y=bytesOf (x++y):=by
 apply yp;simp[bytesOf]
theorem gX{op:BinOp}{x y:Z}{v:V}(a:SF op x y=some v):
  ∃v',(Op.stringOp op (bytesOf x)<|bytesOf y).run P w=.ok v' w/\Ab p v v':=by
 unfold Op.stringOp;simp only[Fl,Bv];cases op<;>simp only[SF]at a
 case add=>
  split at a
  ·cases a;rename_i b;rw[wc<|by simp[IntKind.max,IntKind.signed,IntKind.bits];omega];exact⟨_,ze ..,by simp[Ab,NK]⟩
  ·cases a
 all_goals first
  |(cases a;done)
  |(cases a;exact⟨_,ze ..,by simp[Ab]⟩)
def O4(op:BinOp)(k:IntKind)(a b:Int):Option V:=
 match op with
 | .add=>some<|.int k<|k.wrap<|a+b
 | .sub=>some<|.int k<|k.wrap<|a-b
 | .mul=>some<|.int k<|k.wrap<|a*b
 | .quo=>if b=0 then none else some<|.int k<|k.wrap<|a.tdiv b
 | .rem=>if b=0 then none else some<|.int k<|a.tmod b
 | .and=>some<|.int k<|k.wrap (zz k.bits a&&&zz k.bits b).toNat
 | .or=>some<|.int k<|k.wrap (zz k.bits a|||zz k.bits b).toNat
 | .xor=>some<|.int k<|k.wrap (zz k.bits a^^^zz k.bits b).toNat
 | .andNot=>some<|.int k<|k.wrap (zz k.bits a&&& ~~~zz k.bits b).toNat
 | .eql=>some<|.bool<|a==b
 | .neq=>some<|.bool<|a !=b
 | .lss=>some<|.bool<|a<b
 | .leq=>some<|.bool<|a<=b
 | .gtr=>some<|.bool<|a>b
 | .geq=>some<|.bool<|a>=b
 |_=>none
def Xi(op:BinOp)(k:IntKind)(a b:Int):Option V:=
 if b<0 then none else
 match op with
 | .shl=>some<|.int k<|k.wrap<|a*2^(min b.toNat k.bits)
 | .shr=>some<|.int k<|a.fdiv<|2^(min b.toNat k.bits)
 |_=>none
def LW(ks:Option (List FK))(xs a:List V):Option Bool:=
 match ks with
 |some ks=>bif fit ks xs&&fit ks a then BK xs a else none
 |none=>none
theorem G8{ks:Option (List FK)}{xs b:List V}{r:Bool}(h:LW ks xs b=some r):∃l,ks=some l/\fit l xs=true/\fit l b=true/\BK xs b=some r:=by
 unfold LW at h;split at h
 case h_2=>cases h
 rename_i l;cases a:(fit l xs&&fit l b)with
 |false=>simp[a]at h
 |true=>simp only[a,we]at h;simp only[zw]at a;exact⟨l,rfl,a.1,a.2,h⟩
def Bk(T:BR)(t:TypeId)(x y:V):Option Bool:=
 match T.und t,x,y with
 |some .bool,.bool a,.bool b=>some<|a==b
 |some (.pointer _),.nilp,y=>match y with| .nilp=>some true| .ptr .. =>some false|_=>none
 |some (.pointer _),.ptr ..,.nilp=>some false
 |some (.pointer e),.ptr a i,.ptr b j=>if a=b then match T.inf e with|some c=>if c.size≠0 then some (i==j)else none|_=>none else none
 |some (.interface _),.iface ..,.nili=>some false
 |some (.interface _),.nili,.iface .. =>some false
 |some (.slice _),.nils,y=>match y with| .nils=>some true| .sl .. =>some false| .esl=>some false| .es0=>some false|_=>none
 |some (.slice _),.sl ..,.nils=>some false
 |some (.slice _),.esl,.nils=>some false
 |some (.slice _),.es0,.nils=>some false
 |some (.map _ _),.nilm,y=>match y with| .nilm=>some true| .map .. =>some false|_=>none
 |some (.map _ _),.map ..,.nilm=>some false
 |some (.func ..),.nilf,.nilf=>some true
 |some (.func ..),.fn ..,.nilf=>some false
 |some (.func ..),.nilf,.fn .. =>some false
 |_,.agg xs,.agg d=>LW (T.flat t) xs d
 |_,_,_=>none
def K5(T:BR)(op:BinOp)(t:TypeId)(x y:V):Option V:=
 match op,x,y with
 | .shl,.int k a,.int _ b=>Xi .shl k a b
 | .shr,.int k a,.int _ b=>Xi .shr k a b
 |op,.int k a,.int c b=>if k=c then O4 op k a b else none
 |op,.str a,.str b=>SF op a b
 | .eql,x,y=>(Bk T t x y).map fun b=>.bool b
 | .neq,x,y=>(Bk T t x y).map fun b=>.bool !b
 |_,_,_=>none
theorem gK{op:BinOp}{k:IntKind}{a b:Int}{v:V}(d:op≠ .shl/\op≠ .shr)(c:O4 op k a b=some v)(t:TypeId):
  ∃v',(binOp op t (.int k a)<|.int k b).run P w=.ok v' w/\Ab p v v':=by
 cases op<;>simp only[O4]at c<;>simp only[binOp,wm,not_true_eq_false,vf,Op.intArith,Op.intDiv,Op.intBits,Op.intCmp]
 case quo|rem=>
  split at c
  ·cases c
  ·rename_i e;cases c;rw[wc e];exact⟨_,ze ..,by simp[Ab]⟩
 case shl=>exact wh rfl d.1
 case shr=>exact wh rfl d.2
 all_goals (cases c;exact⟨_,ze ..,by simp[Ab]⟩)
theorem PE(f:T.Ok P){t:TypeId}{x y:V}{x' y':Value}(c:Ab p x x')(b:Ab p y y'){r:Bool}(a:Bk T t x y=some r):
  (yt t x' y').run P w=.ok r w:=by
 unfold Bk at a;split at a
 case h_16=>
  rename_i xs m;obtain⟨l,g,d,o,n⟩:=G8 a;simp only[Ab]at c b;obtain⟨u,rfl,j⟩:=c;obtain⟨v,rfl,hv⟩:=b;exact f.flat t l g p xs m u v r w d o j hv n
 case h_17=>cases a
 all_goals (rename_i j;simp only[Ab]at c b;unfold yt Op.maxDepth Op.equalIn;rw[zd,Aw f j];simp only[zc])
 case h_1=>subst c b;cases a;simp
 case h_2=>subst c;split at a<;>first|(cases a;done)|(cases a;simp only[Ab]at b;first|(subst b;simp;done)|(obtain⟨_,_,_,rfl⟩:=b;simp))
 case h_3=>obtain⟨_,_,_,rfl⟩:=c;subst b;cases a;simp
 case h_4=>
  split at a
  case isFalse=>cases a
  rename_i e;subst e;split at a
  case h_2=>cases a
  rename_i q i;split at a
  case isFalse=>cases a
  rename_i k;cases a;obtain⟨s,n1,g,rfl⟩:=c;obtain⟨r2,n2,d,rfl⟩:=b;rw[g]at d;cases d;simp only[zd,Bo f i,zc,k,wm,not_false_eq_true,wk];unfold sameAddr;simp only[beq_self_eq_true,wk,ze];congr 1;rw[Bool.eq_iff_iff];simp
 case h_5=>obtain⟨_,rfl,_⟩:=c;subst b;cases a;simp
 case h_6=>obtain⟨_,rfl,_⟩:=b;subst c;cases a;simp
 case h_7=>subst c;split at a<;>first|(cases a;done)|(cases a;simp only[Ab]at b;first|(subst b;simp;done)|(obtain⟨_,_,_,_,rfl,_⟩:=b;simp;done)|(obtain⟨_,_,rfl⟩:=b;simp;done)|(obtain⟨_,rfl⟩:=b;simp;done))
 case h_8=>obtain⟨_,_,_,_,rfl,_⟩:=c;subst b;cases a;simp
 case h_9=>obtain⟨_,_,rfl⟩:=c;subst b;cases a;simp
 case h_10=>obtain⟨_,rfl⟩:=c;subst b;cases a;simp
 case h_11=>subst c;split at a<;>first|(cases a;done)|(cases a;simp only[Ab]at b;first|(subst b;simp;done)|(obtain⟨_,_,_,rfl⟩:=b;simp))
 case h_12=>obtain⟨_,_,_,rfl⟩:=c;subst b;cases a;simp
 case h_13=>subst c b;cases a;simp
 case h_14=>obtain⟨_,_,rfl,_⟩:=c;subst b;cases a;simp
 case h_15=>obtain⟨_,_,rfl,_⟩:=b;subst c;cases a;simp
def Rd:V->Bool
 | .int .. | .str _| .tup _=>false
 |_=>true
theorem Kf{t:TypeId}{x y:V}{r:Bool}(a:Bk T t x y=some r):Rd x=true:=by
 unfold Bk at a;split at a<;>first|rfl|(cases a)
theorem Mk{t:TypeId}{x:V}{x' y':Value}(a:Ab p x x')(b:Rd x=true):
  binOp .eql t x' y'=(do pure (.bool<|<-yt t x' y'))/\binOp .neq t x' y'=(do pure (.bool<|!(<-yt t x' y'))):=by
 cases x<;>simp only[Rd]at b<;>simp only[Ab]at a
 case int|str|tup=>cases b
 case ptr=>obtain⟨_,_,_,rfl⟩:=a;cases y'<;>exact⟨rfl,rfl⟩
 case esl=>obtain⟨_,_,rfl⟩:=a;cases y'<;>exact⟨rfl,rfl⟩
 case es0=>obtain⟨_,rfl⟩:=a;cases y'<;>exact⟨rfl,rfl⟩
 case sl=>obtain⟨_,_,_,_,rfl,_⟩:=a;cases y'<;>exact⟨rfl,rfl⟩
 case map=>obtain⟨_,_,_,rfl⟩:=a;cases y'<;>exact⟨rfl,rfl⟩
 case yld=>obtain⟨_,_,_,rfl⟩:=a;cases y'<;>exact⟨rfl,rfl⟩
 case fn=>obtain⟨_,_,rfl,_⟩:=a;cases y'<;>exact⟨rfl,rfl⟩
 case iface=>obtain⟨_,rfl,_⟩:=a;cases y'<;>exact⟨rfl,rfl⟩
 case agg=>obtain⟨_,rfl,_⟩:=a;cases y'<;>exact⟨rfl,rfl⟩
 all_goals (subst a;cases y'<;>exact⟨rfl,rfl⟩)
theorem hO(i:T.Ok P){op:BinOp}{t:TypeId}{x y:V}{x' y':Value}(c:Ab p x x')(d:Ab p y y'){v:V}(a:K5 T op t x y=some v):
  ∃v',(binOp op t x' y').run P w=.ok v' w/\Ab p v v':=by
 unfold K5 at a;split at a
 case h_1=>
  simp only[Ab]at c d;subst c d;unfold Xi at a;split at a
  ·cases a
  ·rename_i g;cases a;simp only[binOp,Op.shift,wc g];exact⟨_,ze ..,by simp[Ab]⟩
 case h_2=>
  simp only[Ab]at c d;subst c d;unfold Xi at a;split at a
  ·cases a
  ·rename_i g;cases a;simp only[binOp,Op.shift,wc g];exact⟨_,ze ..,by simp[Ab]⟩
 case h_3=>
  rename_i f j;split at a
  ·rename_i e;subst e;simp only[Ab]at c d;subst c d;refine gK ⟨?_,?_⟩ a t
   ·intro e;subst e;simp at f
   ·intro e;subst e;simp at j
  ·cases a
 case h_4=>
  simp only[Ab]at c d;subst c d;have:=gX (P:=P) (p:=p) (w:=w) a;cases op<;>simpa only[binOp]using this
 case h_5=>
  rw[zn]at a;obtain⟨b,f,rfl⟩:=a;rw[(Mk c<|Kf f).1];simp only[zd,PE i c d f,zc];exact⟨_,ze ..,by simp[Ab]⟩
 case h_6=>
  rw[zn]at a;obtain⟨b,f,rfl⟩:=a;rw[(Mk c<|Kf f).2];simp only[zd,PE i c d f,zc];exact⟨_,ze ..,by simp[Ab]⟩
 case h_7=>cases a
theorem SN{a:V}{c:Value}(b:Ab p a c)(h:a≠ .nili):c≠ .nilIface:=by
 intro e;subst e;cases a<;>simp only[Ab]at b<;>first|exact h rfl|(simp at b;done)|(obtain⟨_,_,_,_,b,_⟩:=b;cases b;done)|(obtain⟨_,_,_,b⟩:=b;cases b;done)|(obtain⟨_,_,b,_⟩:=b;cases b;done)|(obtain⟨_,b,_⟩:=b;cases b;done)
theorem YP{a:V}{c:Array Value}(b:Ab p a (.agg c)):∃xs,a=.agg xs/\Aq p xs c.toList:=by
 cases a<;>simp only[Ab]at b<;>first|(simp at b;done)|(obtain⟨_,_,_,_,b,_⟩:=b;cases b;done)|(obtain⟨_,_,_,b⟩:=b;cases b;done)|(obtain⟨_,_,b,_⟩:=b;cases b;done)|(obtain⟨_,b,h⟩:=b;cases b<;>exact⟨_,rfl,h⟩)
theorem M7{op:BinOp}{t:TypeId}{x y:Operand}{a b':Value}(b:op≠ .eql)(c:op≠ .neq):eqGuard op t x y a b'=pure ():=by
 cases op<;>first|rfl|exact wh rfl b|exact wh rfl c
theorem WV{op:BinOp}{t:TypeId}{x y:Operand}{a b':Value}(h0:a≠ .nilIface\/b'≠ .nilIface)(f:(∃c d,a=.agg c/\b'=.agg d)->P.eqGuardType P.depth t=false):
  (eqGuard op t x y a b').run P w=.ok () w:=by
 by_cases b:op=.eql\/op=.neq
 ·have:eqGuard op t x y a b'=eqGuard .eql t x y a b':=by rcases b with rfl|rfl<;>rfl
  rw[this];unfold eqGuard;simp only[Bool.not_true,zm,vf];split
  ·simp at h0
  ·have:=f ⟨_,_,rfl,rfl⟩;simp[this]
  ·rfl
 ·rw[M7 (fun e=>b<|.inl e)<|fun e=>b<|.inr e];rfl
theorem Xx(u:T.Ok P){op:BinOp}{t:TypeId}{x y:Operand}{a b:V}{q b':Value}(i:Ab p a q)(o:Ab p b b'){v:V}(m:K5 T op t a b=some v):
  (eqGuard op t x y q b').run P w=.ok () w:=by
 by_cases f:op=.eql\/op=.neq
 ·refine WV ?_ ?_
  ·by_cases g:a=.nili
   ·by_cases s:b=.nili
    ·subst g s;have:Bk T t .nili .nili=none:=by unfold Bk;split<;>simp_all
     rcases f with rfl|rfl<;>simp[K5,this]at m
    ·exact .inr<|SN o s
   ·exact .inl<|SN i g
  ·rintro⟨c,d,rfl,rfl⟩;obtain⟨xs,rfl,j⟩:=YP i;obtain⟨ys,rfl,h2⟩:=YP o;have n:Bk T t (.agg xs) (.agg ys)=LW (T.flat t) xs ys:=by unfold Bk;split<;>simp_all
   cases k:LW (T.flat t) xs ys with
   |some r=>obtain⟨l,j,_⟩:=G8 k;exact u.guard t l j
   |none=>
    rw[k]at n;rcases f with rfl|rfl<;>simp[K5,n]at m
 ·rw[M7 (fun e=>f<|.inl e)<|fun e=>f<|.inr e];rfl
def uR(op:UnOp)(x:V):Option V:=
 match op,x with
 | .neg,.int k n=>some<|.int k<|k.wrap<|0-n
 | .xor,.int k n=>O4 .xor k (if k.signed then -1 else k.max) n
 | .not,.bool b=>some<|.bool !b
 |_,_=>none
theorem qA{op:UnOp}{x:V}{x':Value}(b:Ab p x x'){v:V}(a:uR op x=some v):∃v',(Op.unary op x').run P w=.ok v' w/\Ab p v v':=by
 unfold uR at a;split at a
 case h_1=>simp only[Ab]at b;subst b;cases a;exact⟨_,rfl,by simp[Ab]⟩
 case h_2=> 
  simp only[Ab]at b;subst b;simp only[O4,zh]at a;subst a;exact⟨_,rfl,by simp[Ab]⟩
 case h_3=>simp only[Ab]at b;subst b;cases a;exact⟨_,rfl,by simp[Ab]⟩
 case h_4=>cases a
def nC:V->Option UInt8
 | .int .u8 (.ofNat n)=>some<|ya n
 |_=>none
def bytes?:List V->Option Z
 |[]=>some []
 |v::vs=>
  match nC v,bytes? vs with
  |some b,some a=>some (b::a)
  |_,_=>none
def Fc(T:BR)(h:H)(src dst:TypeId)(x:V):Option V:=
 match T.und src,T.und dst,x with
 |some _,some<|.int k,.int _ n=>some<|.int k<|k.wrap n
 |some _,some .string,.str s=>some<|.str s
 |some (.slice e),some .string,.nils=>match T.und e with|some (.int .u8)=>some (.str [])|_=>none
 |some (.slice e),some .string,.sl b off len _ _=>
  match T.und e with
  |some (.int .u8)=>match rd h b off len with
   |some cs=>(bytes? cs).map .str
   |none=>none
  |_=>none
 |_,_,_=>none
theorem LO{f:Value->ByteArray->Sem (ForInStep ByteArray)}(m:∀n s,f (.int .u8 n) s=pure (ForInStep.yield<|s.push<|ya n.toNat)):
  ∀(cs:List V) (vs:List Value) (j:Z) (a:Z),Aq p cs vs->bytes? cs=some j->
  ∀w,(forIn vs (bytesOf a) f).run P w=.ok (bytesOf<|a++j) w
 |[],vs,j,a,d,g,w=>by
  simp at d;simp[bytes?]at g;subst d g;simp[forIn]
 |c::cs,[],_,_,d,_,_=>by simp at d
 |c::cs,v::vs,j,a,d,g,w=>by
  simp only[A5]at d;unfold bytes? at g;split at g
  case h_2=>cases g
  rename_i b tl k l;cases g;unfold nC at k;split at k
  case h_2=>cases k
  rename_i n;cases k;have i:=d.1;simp only[Ab]at i;subst i;rw[List.forIn_cons,m];simp only[zd,ze,zc];have:=LO m cs vs tl (a++[ya n]) d.2 l w;have e:(bytesOf a).push (ya (Int.ofNat n).toNat)=bytesOf (a++[ya n]):=by
   apply yp;simp[bytesOf,ByteArray.push]
  rw[e,this];simp
theorem ZE(b:T.Ok P)(o:R p h w){src dst:TypeId}{x:V}{x':Value}(d:Ab p x x'){v:V}(a:Fc T h src dst x=some v):
  ∃v',(convert src dst x').run P w=.ok v' w/\Ab p v v':=by
 unfold Fc at a;split at a
 case h_1=>
  rename_i f g;simp only[Ab]at d;subst d;cases a;unfold convert;simp only[zd,Aw b f,Aw b g,zc];exact⟨_,rfl,by simp[Ab]⟩
 case h_2=>
  rename_i f g;simp only[Ab]at d;subst d;cases a;unfold convert;simp only[zd,Aw b f,Aw b g,zc];exact⟨_,rfl,by simp[Ab]⟩
 case h_3=>
  rename_i f g;simp only[Ab]at d;subst d;split at a
  case h_2=>cases a
  rename_i k;cases a;unfold convert;simp only[zd,Aw b f,Aw b g,Aw b k,zc];exact⟨_,rfl,by simp[Ab,bytesOf];rfl⟩
 case h_4=>
  rename_i f g;simp only[Ab]at d;split at a
  case h_2=>cases a
  rename_i k;split at a
  case h_2=>cases a
  rename_i cs j;rw[zn]at a;obtain⟨l,i,rfl⟩:=a;obtain⟨r,n,c,g1,rfl,g2⟩:=d;obtain⟨r',m,vs,k1,k2,k3,_⟩:=run_loadCells (P:=P) o j;rw[g1]at k1;cases k1;refine⟨.string<|bytesOf l,?_,by simp[Ab]⟩;unfold convert;simp only[zd,Aw b f,Aw b g,Aw b k,zc];unfold Conv.bytesToString;simp only[zd,k2,zc];simp only[List.forIn_toArray];have e:ByteArray.empty=bytesOf []:=rfl;rw[e,LO (P:=P) (fun n s=>rfl) cs vs l [] k3 i w];simp
 case h_5=>cases a
def Kd(T:BR)(t:TypeId)(cs:List V)(off:Nat):Option V:=
 match T.und t,T.inf t with
 |some d,some i=>bif DB d then some (.agg<|(cs.drop off).take i.size)else cs[off]?
 |_,_=>none
theorem RZ(e:T.Ok P){t:TypeId}{cs:List V}{c:Array Value}{off:Nat}(f:Aq p cs c.toList){v:V}(a:Kd T t cs off=some v):
  ∃v',(part t c off).run P w=.ok v' w/\Ab p v v':=by
 unfold Kd at a;split at a
 case h_2=>cases a
 rename_i d i g k;unfold part;simp only[zd,Pp e g,zc];cases b:DB d with
 |true=>
  simp only[b,we,zh]at a;subst a;simp only[wk,zd,Bo e k,zc];refine⟨_,ze ..,?_⟩;simp only[Ab];refine⟨_,rfl,?_⟩;have:(c.extract off<|off+i.size).toList=(c.toList.drop off).take i.size:=by
   rw[Array.toList_extract];simp[List.extract]
  rw[this];exact(f.drop off).take i.size
 |false=>
  simp only[b,wg]at a;obtain⟨u,l,j⟩:=f.get a;have:c[off]?=some u:=by simpa using l
  simp only[zm,vf,this];exact⟨u,rfl,j⟩
def Jm(T:BR)(t:TypeId)(x:V)(f:Nat):Option V:=
 match T.und t,x with
 |some (.struct fs),.agg cs=>match fs[f]? with
  |some a=>Kd T a.type cs a.offset
  |none=>none
 |_,_=>none
theorem Xh(d:T.Ok P){t:TypeId}{x:V}{x':Value}{f:Nat}(b:Ab p x x'){v:V}(a:Jm T t x f=some v):
  ∃v',(Instr.field t x' f).run P w=.ok v' w/\Ab p v v':=by
 unfold Jm at a;split at a
 case h_2=>cases a
 rename_i fs cs e;split at a
 case h_2=>cases a
 rename_i j g;simp only[Ab]at b;obtain⟨c,rfl,i⟩:=b;unfold Instr.field;simp only[zd,Aw d e,zc,g];unfold asAgg;simp only[ze,zc];exact RZ d i a
def Jt(T:BR)(t:TypeId)(x:V)(f:Nat):Option V:=
 match T.und t,x with
 |some (.struct fs),.ptr b off=>match fs[f]? with
  |some a=>match T.inf a.type with
   |some i=>if i.size=0 then none else some<|.ptr b<|off+a.offset
   |none=>none
  |none=>none
 |_,_=>none
theorem XP(d:T.Ok P){t:TypeId}{x:V}{x':Value}{f:Nat}(c:Ab p x x'){v:V}(a:Jt T t x f=some v):
  ∃v',(Instr.fieldAt t x' f).run P w=.ok v' w/\Ab p v v':=by
 unfold Jt at a;split at a
 case h_2=>cases a
 rename_i fs b off e;split at a
 case h_2=>cases a
 rename_i m j;split at a
 case h_2=>cases a
 rename_i i l;split at a
 case isTrue=>cases a
 rename_i g;cases a;simp only[Ab]at c;obtain⟨r,n,k,rfl⟩:=c;unfold Instr.fieldAt;simp only[zd,Aw d e,zc,j];unfold zO fieldPlace;simp only[ze,zc,zd,Bo d l,g,vf,Addr.G5];exact⟨_,rfl,by simp only[Ab];exact⟨_,_,k,rfl⟩⟩
def CO(T:BR)(t:TypeId)(x c:V):Option V:=
 match T.und t,x,c with
 |some (.slice e),.sl b off len _ _,.int _ i=>
  match T.inf e,i with
  |some a,.ofNat n=>bif yi n len then some (.ptr b<|off+n*a.size)else none
  |_,_=>none
 |some (.array len e),.ptr b off,.int _ i=>
  match T.inf e,i with
  |some a,.ofNat n=>bif yi n len then some (.ptr b<|off+n*a.size)else none
  |_,_=>none
 |_,_,_=>none
theorem Gz(a b:Nat):yi a b=decide (a<b):=by
 rw[Bool.eq_iff_iff];simp[Nat.blt_eq]
theorem Xm(q:T.Ok P){t:TypeId}{x z:V}{x' j:Value}(l:Ab p x x')(g:Ab p z j){v:V}(d:CO T t x z=some v):
  ∃v',(Instr.indexAt t x' j).run P w=.ok v' w/\Ab p v v':=by
 unfold CO at d;split at d
 case h_3=>cases d
 case h_1=>
  rename_i e b off len cap o k i s;split at d
  case h_2=>cases d
  rename_i A n u;rw[Gz]at d;by_cases a:n<len
  ·simp only[a,decide_true,we,zh]at d;subst d;simp only[Ab]at l g;obtain⟨r,m,c,y,rfl,_⟩:=l;subst g;unfold Instr.indexAt asIntOf;have f:(0:Int)<=(n:Int)/\(n:Int)<(len:Int):=⟨by simp,by simpa using a⟩;simp only[zd,ze,Aw q s,zc,f,ve,wk,Bo q u,Addr.G5,zy,zL];exact⟨_,rfl,by simp only[Ab];exact⟨_,_,y,rfl⟩⟩
  ·simp[a]at d
 case h_2=>
  rename_i len e b off k i s;split at d
  case h_2=>cases d
  rename_i A n u;rw[Gz]at d;by_cases a:n<len
  ·simp only[a,decide_true,we,zh]at d;subst d;simp only[Ab]at l g;obtain⟨r,m,y,rfl⟩:=l;subst g;unfold Instr.indexAt asIntOf zO;have f:(0:Int)<=(n:Int)/\(n:Int)<(len:Int):=⟨by simp,by simpa using a⟩;simp only[zd,ze,Aw q s,zc,f,ve,wk,Bo q u,Addr.G5,zy,zL];exact⟨_,rfl,by simp only[Ab];exact⟨_,_,y,rfl⟩⟩
  ·simp[a]at d
def GN(T:BR)(t:TypeId)(x c:V):Option V:=
 match T.und t,x,c with
 |some .string,.str s,.int _ (.ofNat n)=>match s[n]? with
  |some b=>some<|.int .u8 b.toNat
  |none=>none
 |some (.array len e),.agg cs,.int _ (.ofNat n)=>
  match T.inf e with
  |some a=>bif yi n len then Kd T e cs (n*a.size)else none
  |_=>none
 |_,_,_=>none
theorem XK(l:T.Ok P){t:TypeId}{x q:V}{x' i:Value}(j:Ab p x x')(d:Ab p q i){v:V}(a:GN T t x q=some v):
  ∃v',(Instr.index t x' i).run P w=.ok v' w/\Ab p v v':=by
 unfold GN at a;split at a
 case h_3=>cases a
 case h_1=>
  rename_i s k n m;split at a
  case h_2=>cases a
  rename_i b r;cases a;simp only[Ab]at j d;subst j d;unfold Instr.index asIntOf;have e:(bytesOf s)[n]?=some b:=by
   have y:=(zf.1 r).1;have o:=(zf.1 r).2;rw[getElem?_pos (bytesOf s) n<|by rw[Bv];exact y];congr 1
  simp only[zd,ze,Aw l m,zc,zy,Int.natCast_nonneg,wk,zL,e];exact⟨_,rfl,by simp[Ab]⟩
 case h_2=>
  rename_i len e cs k n m;split at a
  case h_2=>cases a
  rename_i z o;rw[Gz]at a;by_cases f:n<len
  ·simp only[f,decide_true,we]at a;simp only[Ab]at j d;obtain⟨c,rfl,u⟩:=j;subst d;unfold Instr.index asIntOf;have g:(0:Int)<=(n:Int)/\(n:Int)<(len:Int):=⟨by simp,by simpa using f⟩;simp only[zd,ze,Aw l m,zc,g,ve,wk,Bo l o,zy,zL];exact RZ l u a
  ·simp[f]at a
def Gk(x:V)(i:Nat):Option V:=
 match x with
 | .tup vs=>vs[i]?
 |_=>none
theorem Sr{x:V}{x':Value}{i:Nat}(b:Ab p x x'){v:V}(a:Gk x i=some v):∃v',(Instr.extract x' i).run P w=.ok v' w/\Ab p v v':=by
 unfold Gk at a;split at a
 case h_2=>cases a
 simp only[Ab]at b;obtain⟨c,rfl,d⟩:=b;obtain⟨u,h1,h2⟩:=d.get a;unfold Instr.extract;have:c[i]?=some u:=by simpa using h1
 simp only[this];exact⟨u,rfl,h2⟩
def Cn(x:Option V)(y GB:Nat):Option Nat:=
 match x with
 |none=>some GB
 |some (.int _<|.ofNat n)=>bif zu n y then some n else none
 |_=>none
def Jc(mx:Option V)(o:Nat):Nat:=match mx with|some _=>0|none=>o
def aI(a mx:Option V):Option Nat:=match a,mx with
 |none,some _=>none
 |_,_=>Cn a 0 0
def N4(mx:Option V):Bool:=match mx with
 |some _=>true
 |none=>false
def Dg(T:BR)(t:TypeId)(x:V)(lo a mx:Option V):Option V:=
 match T.und t,x with
 |some .string,.str s=>
  match mx,Cn a s.length s.length with
  |none,some h=>match Cn lo h 0 with
   |some l=>some<|.str<|(s.drop l).take<|h-l
   |none=>none
  |_,_=>none
 |some (.slice e),.sl b off len cap o=>
  match T.inf e,Cn mx cap cap with
  |some c,some m=>match (match a,mx with|none,some _=>none|_,_=>Cn a m len)with
   |some h=>match Cn lo h 0 with
    |some l=>
     let o':=Jc mx o
     bif zt m l then(bif zt o' 0 then some (.sl b off (h-l) (m-l) 0)else some .esl)
     else bif zt o' 0||zt o' c.size then some (.sl b (off+l*c.size) (h-l) (m-l) o')else none
    |none=>none
   |none=>none
  |_,_=>none
 |some (.slice e),.nils=>
  match Cn mx 0 0,aI a mx,T.inf e with
  |some _,some h,some _=>match Cn lo h 0 with
   |some _=>some .nils
   |none=>none
  |_,_,_=>none
 |some (.slice e),.esl=>
  match Cn mx 0 0,aI a mx,T.inf e with
  |some _,some h,some _=>match Cn lo h 0 with
   |some _=>some<|bif N4 mx then .es0 else .esl
   |none=>none
  |_,_,_=>none
 |some (.slice e),.es0=>
  match Cn mx 0 0,aI a mx,T.inf e with
  |some _,some h,some _=>match Cn lo h 0 with
   |some _=>some .es0
   |none=>none
  |_,_,_=>none
 |some (.array n e),.ptr b off=>
  match T.inf e,mx,Cn a n n with
  |some c,none,some h=>match Cn lo h 0 with
   |some l=>bif zt n l then some (.sl b off (h-l) (n-l) 0)else some<|.sl b (off+l*c.size) (h-l) (n-l) 0
   |none=>none
  |_,_,_=>none
 |_,_=>none
def E9(p:Pl):Option V->Option Value->Prop
 |none,x=>x=none
 |some d,x=>∃v,x=some v/\Ab p d v
theorem BN{x:Option V}{x':Option Value}{y z n y':Nat}(f:E9 p x x')(b:Cn x y z=some n)(j:y<=y'):
  (x=none/\x'=none/\n=z)\/(∃d u,x=some d/\x'=some u/\n<=y/\∀a (P:Program) (w:World),(Instr.sliceBound u y' a).run P w=.ok n w):=by
 cases x with
 |none=>simp only[E9]at f;subst f;simp only[Cn,zh]at b;exact .inl ⟨rfl,rfl,b.symm⟩
 |some d=>
  simp only[E9]at f;obtain⟨u,rfl,g⟩:=f;refine .inr ⟨d,u,rfl,rfl,?_⟩;unfold Cn at b;split at b
  case h_1=>rename_i e;cases e
  case h_3=>cases b
  rename_i k m e;cases e;by_cases c:m<=y
  ·simp only[zR c,we,zh]at b;subst b;simp only[Ab]at g;subst g;refine⟨c,fun a P w=>?_⟩;unfold Instr.sliceBound asIntOf;have i:(0:Int)<=(m:Int)/\(m:Int)<=(y':Int):=⟨by simp,by omega⟩;simp only[zd,ze,zc,zy,i,ve,wk,zL]
  ·have:zu m y=false:=by rw[Bool.eq_false_iff];simpa [z8]using c
   simp[this]at b
theorem HZ{lo a mx:Option V}{n j k:Option Value}(f:E9 p lo n)(g:E9 p a j)(b:E9 p mx k){m h l:Nat}(s:Cn mx 0 0=some m)(i:aI a mx=some h)(q:Cn lo h 0=some l)(c:Nat):
  (zr true 0 c n j k).run P w=.ok (0,0,bif N4 mx then 0 else c) w:=by
 unfold aI at i;have h0:h=0:=by
  have:Cn a 0 0=some h:=by
   cases mx with
   |none=>cases a<;>simpa using i
   |some d=>cases a with
    |none=>simp at i
    |some _=>simpa using i
  rcases BN g this (zg _)with⟨_,_,rfl⟩|⟨_,_,_,_,h,_⟩<;>omega
 subst h0;have r:l=0:=by rcases BN f q (zg _)with⟨_,_,rfl⟩|⟨_,_,_,_,h,_⟩<;>omega
 subst r;unfold zr;cases mx with
 |none=>
  have e:Cn a 0 0=some 0:=by cases a<;>simpa using i
  simp only[E9]at b;subst b;rcases BN g e (yn c)with⟨_,rfl,_⟩|⟨_,u,_,rfl,_,x⟩<;>rcases BN f q (zg _)with⟨_,rfl,_⟩|⟨_,u2,_,rfl,_,o⟩
  all_goals simp only[N4,wg,zK,zm,vf,zd,ze,zc,wk, *]
 |some d=>
  cases a with
  |none=>simp at i
  |some v=>
   have e:Cn (some v) 0 0=some 0:=by simpa using i
   rcases BN b s (yn c)with⟨h,_,_⟩|⟨_,z,_,rfl,y,t⟩
   ·cases h
   ·obtain rfl:m=0:=by omega
    rcases BN g e (zg _)with⟨h,_,_⟩|⟨_,u,_,rfl,_,x⟩
    ·cases h
    ·rcases BN f q (zg _)with⟨_,rfl,_⟩|⟨_,u2,_,rfl,_,o⟩
     all_goals simp only[N4,we,Option.isSome_some,zd,ze,zc,wk, *]
theorem X0(C:T.Ok P){t:TypeId}{x:V}{lo hi mx:Option V}{x':Value}{G K N:Option Value}(L:Ab p x x')(q:E9 p lo G)(i:E9 p hi K)(B:E9 p mx N)
  {v:V} (f:Dg T t x lo hi mx=some v):∃v',(zp t x' G K N).run P w=.ok v' w/\Ab p v v':=by
 unfold Dg at f;split at f
 case h_7=>cases f
 case h_1=>
  rename_i s y;split at f
  case h_2=>cases f
  rename_i j g;split at f
  case h_2=>cases f
  rename_i l F;cases f;simp only[E9]at B;subst B;simp only[Ab]at L;subst L;refine⟨.string<|bytesOf<|(s.drop l).take<|j-l,?_,by simp[Ab]⟩;unfold zp;simp only[zd,Aw C y,zc];unfold yb;simp only[zd,Aw C y,zc,zK,zm,vf,Bv];unfold zr;have e:(bytesOf s).extract l j=bytesOf ((s.drop l).take<|j-l):=by
   apply yp;simp[bytesOf,List.extract]
  rcases BN i g (zg _)with⟨_,rfl,rfl⟩|⟨_,u,_,rfl,_,hu⟩<;>rcases BN q F (zg _)with⟨_,rfl,rfl⟩|⟨_,u2,_,rfl,_,S⟩
  all_goals simp only[zK,zm,vf,zd,ze,zc, *]
 case h_2=>
  rename_i e b off len cap o y;split at f
  case h_2=>cases f
  rename_i X m W hm;split at f
  case h_2=>cases f
  rename_i j g;split at f
  case h_2=>cases f
  rename_i l F;simp only[Ab]at L;obtain⟨r,n,c,hp,rfl,hlen,O,ho1,ho2⟩:=L;obtain⟨I,gm2,hhm,Q,hbounds⟩:∃I,((mx=none/\I=c/\m=cap)\/(mx≠none/\I=m))/\j<=m/\l<=j/\(zr true len c G K N).run P w=.ok (l,j,I) w:=by
   have Q:l<=j:=by
    rcases BN q F (zg _)with⟨_,_,rfl⟩|⟨_,_,_,_,h,_⟩
    ·exact yn _
    ·exact h
   rcases BN B hm O with⟨rfl,rfl,rfl⟩|⟨dm,um,rfl,rfl,hm1,hum⟩
   ·have A:Cn hi m len=some j:=by cases hi<;>simpa using g
    refine⟨c,.inl ⟨rfl,rfl,rfl⟩,?_,Q,?_⟩
    ·rcases BN i A O with⟨_,_,rfl⟩|⟨_,_,_,_,h,_⟩
     ·exact hlen
     ·exact h
    ·unfold zr;rcases BN i A O with⟨_,rfl,rfl⟩|⟨_,u,_,rfl,_,hu⟩<;>rcases BN q F (zg _)with⟨_,rfl,rfl⟩|⟨_,u2,_,rfl,_,S⟩
     all_goals simp only[zK,zm,vf,zd,ze,zc,wk, *]
   ·cases hi with
    |none=>simp at g
    |some dh=>
     have A:Cn (some dh) m len=some j:=by simpa using g
     refine⟨m,.inr ⟨by simp,rfl⟩,?_,Q,?_⟩
     ·rcases BN i A (zg _)with⟨h,_⟩|⟨_,_,_,_,h,_⟩
      ·cases h
      ·exact h
     ·unfold zr;rcases BN i A (zg _)with⟨h,_,_⟩|⟨_,u,_,rfl,_,hu⟩
      ·cases h
      ·rcases BN q F (zg _)with⟨_,rfl,rfl⟩|⟨_,u2,_,rfl,_,S⟩
       all_goals simp only[Option.isSome_some,zd,ze,zc,wk, *]
  have gm1:m<=I:=by rcases gm2 with⟨_,y,h2⟩|⟨_,y⟩<;>omega
  have z:(zp t (.slice (some ⟨r,off,none⟩) len c) G K N).run P w=.ok (.slice (if I=l then some ⟨r,off,none⟩else some ⟨r,off+l*X.size,none⟩) (j-l)<|I-l) w:=by
   unfold zp;simp only[zd,Aw C y,zc];unfold yb;simp only[zd,Aw C y,zc,hbounds,Bo C W,ze];congr 2;split<;>simp
  refine⟨_,z,?_⟩;simp only[Bf]at f;by_cases D:m=l
  ·simp only[D,decide_true,we]at f;by_cases J:Jc mx o=0
   ·simp only[J,decide_true,we,zh]at f;subst f;have hm':I=l:=by
     rcases gm2 with⟨R,Y,k3⟩|⟨R,Y⟩
     ·subst R;simp only[Jc]at J;have:=ho1 J;omega
     ·omega
    simp only[hm',wk,Ab];exact⟨r,n,_,hp,rfl,by omega,by omega,fun _=>by omega,by simp⟩
   ·simp only[J,decide_false,wg,zh]at f;subst f;have U:j-l=0:=by omega
    simp only[U,Ab];by_cases Z:I=l
    ·exact⟨_,_,by rw[wd Z]⟩
    ·exact⟨_,_,by rw[wc Z]⟩
  ·simp only[D,decide_false,wg]at f;by_cases J:Jc mx o=0\/Jc mx o=X.size
   ·have E:(decide (Jc mx o=0)||decide (Jc mx o=X.size))=true:=by simpa using J
    simp only[E,we,zh]at f;subst f;have hne:I≠l:=by omega
    simp only[hne,vf,Ab];refine⟨r,n,_,hp,rfl,by omega,by omega,fun k=>?_,fun k=>?_⟩
    ·rcases gm2 with⟨R,Y,k3⟩|⟨R,Y⟩
     ·subst R;simp only[Jc]at k;have:=ho1 k;omega
     ·omega
    ·rcases gm2 with⟨R,Y,k3⟩|⟨R,Y⟩
     ·subst R;simp only[Jc]at k J ⊢;rcases J with J|J
      ·exact wh J k
      ·have:=ho2 k;subst Y;rw[<-J];have e:off+l*o+(I-l)*o=off+I*o:=by
        rw[Nat.sub_mul];have:l*o<=I*o:=Nat.mul_le_mul_right _ (by omega);omega
       omega
     ·cases mx with
      |none=>exact wh rfl R
      |some d=>simp[Jc]at k
   ·have E:(decide (Jc mx o=0)||decide (Jc mx o=X.size))=false:=by
     simpa using J
    simp[E]at f
 case h_3=>
  rename_i e y;split at f
  case h_2=>cases f
  rename_i mm j tz M g U;split at f
  case h_2=>cases f
  rename_i l F;cases f;simp only[Ab]at L;subst L;refine⟨.slice none 0 0,?_,by simp[Ab]⟩;unfold zp;simp only[zd,Aw C y,zc];unfold yb;simp only[zd,Aw C y,zc,HZ (P:=P) (w:=w) q i B M g F 0];cases mx<;>simp[N4,Bo C U]
 case h_4=>
  rename_i e y;split at f
  case h_2=>cases f
  rename_i mm j tz M g U;split at f
  case h_2=>cases f
  rename_i l F;simp only[Ab]at L;obtain⟨a,c,rfl⟩:=L;have z:∃a',(zp t (.slice (some a) 0 c) G K N).run P w=.ok (.slice (some a') 0<|bif N4 mx then 0 else c) w:=by
   unfold zp;simp only[zd,Aw C y,zc];unfold yb;simp only[zd,Aw C y,zc,HZ (P:=P) (w:=w) q i B M g F c];simp only[Bo C U,zc,ze,Nat.sub_zero,Nat.sub_self];split
   ·exact⟨_,rfl⟩
   ·exact⟨_,rfl⟩
  obtain⟨a',ha'⟩:=z;refine⟨_,ha',?_⟩;cases f;cases mx with
  |none=>simp only[N4,wg,Ab];exact⟨_,_,rfl⟩
  |some d=>simp only[N4,we,Ab];exact⟨_,rfl⟩
 case h_5=>
  rename_i e y;split at f
  case h_2=>cases f
  rename_i mm j tz M g U;split at f
  case h_2=>cases f
  rename_i l F;cases f;simp only[Ab]at L;obtain⟨a,rfl⟩:=L;refine⟨.slice (some a) 0 0,?_,by simp only[Ab];exact⟨_,rfl⟩⟩;unfold zp;simp only[zd,Aw C y,zc];unfold yb;simp only[zd,Aw C y,zc,HZ (P:=P) (w:=w) q i B M g F 0];cases mx<;>simp[N4,Bo C U]
 case h_6=>
  rename_i nn e b off y;split at f
  case h_2=>cases f
  rename_i X j W g;split at f
  case h_2=>cases f
  rename_i l F;simp only[E9]at B;subst B;simp only[Ab]at L;obtain⟨r,n,hp,rfl⟩:=L;have Q:l<=j:=by rcases BN q F (zg _)with⟨_,_,rfl⟩|⟨_,_,_,_,h,_⟩<;>omega
  have hhn:j<=nn:=by rcases BN i g (zg _)with⟨_,_,rfl⟩|⟨_,_,_,_,h,_⟩<;>omega
  have z:(zp t (.pointer<|some ⟨r,off,none⟩) G K none).run P w=.ok (.slice (some<|if nn=l then⟨r,off,none⟩else⟨r,off+l*X.size,none⟩) (j-l)<|nn-l) w:=by
   unfold zp;simp only[zd,Aw C y,zc];unfold zO zr;rcases BN i g (zg _)with⟨_,rfl,rfl⟩|⟨_,u,_,rfl,_,hu⟩<;>rcases BN q F (zg _)with⟨_,rfl,rfl⟩|⟨_,u2,_,rfl,_,S⟩
   all_goals simp only[zK,zm,vf,zd,ze,zc,Bo C W,Addr.G5, *]
  refine⟨_,z,?_⟩;simp only[Bf]at f;by_cases D:nn=l
  ·simp only[D,decide_true,we,zh]at f;subst f;simp only[D,wk,Ab];exact⟨r,n,_,hp,rfl,by omega,by omega,fun _=>by omega,by simp⟩
  ·simp only[D,decide_false,wg,zh]at f;subst f;simp only[D,vf,Ab];exact⟨r,n,_,hp,rfl,by omega,by omega,fun _=>by omega,by simp⟩
def i64(n:Nat):V:=.int .i64<|.ofNat n
def Fm(T:BR)(h:H)(ts:Array TypeId)(args:List V):Option V:=
 match ts[0]?,args with
 |some t,[x]=>
  match T.und t,x with
  |some .string,.str s=>some<|i64 s.length
  |some (.array n _),_=>some<|i64 n
  |some (.slice _),.sl _ _ len _ _=>some<|i64 len
  |some (.slice _),.nils=>some<|i64 0
  |some (.slice _),.esl=>some<|i64 0
  |some (.slice _),.es0=>some<|i64 0
  |some (.map _ _),.nilm=>some<|i64 0
  |some (.map _ _),.map b=>match h.get b with
   |some (.map es _)=>some<|i64 es.length
   |_=>none
  |_,_=>none
 |_,_=>none
theorem Aq.one{ds:V}{l:List Value}(a:Aq p [ds] l):∃v,l=[v]/\Ab p ds v:=by
 match l,a with
 |[v],h=>exact⟨v,rfl,by simpa using h⟩
 |[],h=>simp at h
 |_::_::_,h=>simp at h
theorem Aq.two{d e:V}{l:List Value}(a:Aq p [d,e] l):∃v u,l=[v,u]/\Ab p d v/\Ab p e u:=by
 match l,a with
 |[v,u],h=>exact⟨v,u,rfl,by simpa using h⟩
 |[],h=>simp at h
 |[_],h=>simp at h
 |_::_::_::_,h=>simp at h
theorem Di.length{es:List (V×V×Nat)}{l:List MapEntry}(h:Di p es l):es.length=l.length:=by
 induction h with
 |nil=>rfl
 |cons _ _ _ _ a=>simp[a]
theorem jS(g:T.Ok P)(s:R p h w){ts:Array TypeId}{t:TypeId}{args:List V}{args':Array Value}(i:Aq p args args'.toList){v:V}(a:Fm T h ts args=some v):
  ∃v',(Builtin.len_ ts t args').run P w=.ok v' w/\Ab p v v':=by
 unfold Fm at a;split at a
 case h_2=>cases a
 rename_i t0 x f;obtain⟨x',d,b⟩:=i.one;have c:args'[0]?=some x':=by rw[<-Array.getElem?_toList,d];rfl
 unfold Builtin.len_;simp only[f,c];split at a
 case h_9=>cases a
 all_goals (rename_i u;simp only[zd,Aw g u,zc];try simp only[Ab]at b)
 case h_1=>subst b;cases a;exact⟨_,ze ..,by simp[i64,Ab,goInt,Bv]⟩
 case h_2=>cases a;exact⟨_,ze ..,by simp[i64,Ab,goInt]⟩
 case h_3=>obtain⟨_,_,_,_,rfl,_⟩:=b;cases a;exact⟨_,ze ..,by simp[i64,Ab,goInt]⟩
 case h_4=>subst b;cases a;exact⟨_,ze ..,by simp[i64,Ab,goInt]⟩
 case h_5=>obtain⟨_,_,rfl⟩:=b;cases a;exact⟨_,ze ..,by simp[i64,Ab,goInt]⟩
 case h_6=>obtain⟨_,rfl⟩:=b;cases a;exact⟨_,ze ..,by simp[i64,Ab,goInt]⟩
 case h_7=>subst b;cases a;exact⟨_,ze ..,by simp[i64,Ab,goInt]⟩
 case h_8=>
  obtain⟨r,n,k,rfl⟩:=b;split at a
  case h_2=>cases a
  rename_i es z q;cases a;obtain⟨A,n',o,e,j,l,y,m⟩:=s.obj _ _ q;rw[k]at e;cases e;subst y;refine⟨goInt l.size,?_,?_⟩
  ·simp[getObj,Sem.run,j]
  ·have:=m.length;simp only[i64,Ab,goInt];congr 1;simp at this;exact wi Int.ofNat this.symm
def YL(a b:V):Option V:=
 match a,b with
 | .int k x,.int _ y=>some<|.int k<|if y>x then y else x
 |_,_=>none
def Z0(a b:V):Option V:=
 match a,b with
 | .int k x,.int _ y=>some<|.int k<|if y<x then y else x
 |_,_=>none
def dfold(f:V->V->Option V):V->List V->Option V
 |x,[]=>some x
 |x,y::a=>match f x y with
  |some z=>dfold f z a
  |none=>none
theorem O0{f:V->V->Option V}{g:Value->Value->Sem Value}(j:∀ {a b c:V} {n b':Value},Ab p a n->Ab p b b'->f a b=some c->∃m,(g n b').run P w=.ok m w/\Ab p c m):
  ∀(k:List V) (e:List Value) (x:V) (x':Value),Ab p x x'->Aq p k e->∀ {v:V},dfold f x k=some v->∃v',(e.foldlM g x').run P w=.ok v' w/\Ab p v v'
 |[],e,x,x',l,d,v,i=>by
  simp at d;subst d;cases i;exact⟨x',by simp,l⟩
 |y::k,[],_,_,_,d,_,_=>by simp at d
 |y::k,y'::e,x,x',l,d,v,i=>by
  simp only[A5]at d;unfold dfold at i;split at i
  case h_2=>cases i
  rename_i z r;obtain⟨s,o,q⟩:=j l d.1 r;obtain⟨v',h3,h4⟩:=O0 j k e z s q d.2 i;exact⟨v',by rw[List.foldlM_cons,zd,o];exact h3,h4⟩
def FB(f:V->V->Option V)(args:List V):Option V:=
 match args with
 |[]=>none
 |x::a=>dfold f x a
theorem lH{ts:Array TypeId}{t:TypeId}{args:List V}{args':Array Value}(d:Aq p args args'.toList){v:V}(e:FB YL args=some v):
  ∃v',(Builtin.max_ ts t args').run P w=.ok v' w/\Ab p v v':=by
 unfold FB at e;split at e
 case h_1=>cases e
 rename_i x l;unfold Builtin.max_;cases k:args'.toList with
 |nil=>rw[k]at d;simp at d
 |cons x' g=>
  rw[k]at d;simp only[A5]at d;refine O0 (fun {a b c m b'} i j f=>?_) l g x x' d.1 d.2 e;unfold YL at f;split at f
  case h_2=>cases f
  simp only[Ab]at i j;subst i j;cases f;exact⟨_,rfl,by simp[Ab]⟩
theorem lO{ts:Array TypeId}{t:TypeId}{args:List V}{args':Array Value}(d:Aq p args args'.toList){v:V}(e:FB Z0 args=some v):
  ∃v',(Builtin.min_ ts t args').run P w=.ok v' w/\Ab p v v':=by
 unfold FB at e;split at e
 case h_1=>cases e
 rename_i x l;unfold Builtin.min_;cases k:args'.toList with
 |nil=>rw[k]at d;simp at d
 |cons x' g=>
  rw[k]at d;simp only[A5]at d;refine O0 (fun {a b c m b'} i j f=>?_) l g x x' d.1 d.2 e;unfold Z0 at f;split at f
  case h_2=>cases f
  simp only[Ab]at i j;subst i j;cases f;exact⟨_,rfl,by simp[Ab]⟩
def Ie(place:Nat->Option (Nat×Nat))(cells:List V):List (Nat×V)->Option (List V)
 |[]=>some cells
 |(i,v)::a=>
  match place i with
  |none=>none
  |some (off,size)=>bif zt v.cells.length size&&zu (off+size) cells.length then Ie place (FO cells off v.cells) a else none
theorem Sn:∀(xs:List V) (vs:List Value) (cs:List V) (c:Array Value) (off:Nat),Aq p xs vs->Aq p cs c.toList->
  ∀k,Aq p (FO cs (off+k) xs) ((vs.zipIdx k).foldl (fun cs (c,j)=>cs.setIfInBounds (off+j) c) c).toList
 |[],vs,cs,c,off,a,b,k=>by simp at a;subst a;simpa [FO]using b
 |x::xs,[],_,_,_,a,_,_=>by simp at a
 |x::xs,v::vs,cs,c,off,a,b,k=>by
  simp only[A5]at a;simp only[FO,List.zipIdx_cons,List.foldl_cons];have:=Sn xs vs (cs.set (off+k) x) (c.setIfInBounds (off+k) v) off a.2 (by simpa using b.set (off+k) a.1)<|k+1;rwa [show off+k+1=off+(k+1)from by omega]
inductive SL (p:Pl):List (Nat×V)->List (Nat×Value)->Prop
 |nil:SL p [] []
 |cons {i:Nat} {v:V} {v':Value} {l:List (Nat×V)} {l':List (Nat×Value)}:Ab p v v'->SL p l l'->SL p ((i,v)::l) ((i,v')::l')
theorem J7{place:Nat->Option (Nat×Nat)}:∀ {l:List (Nat×V)} {l':List (Nat×Value)},SL p l l'->∀ {cs:List V} {c:Array Value} {out:List V},Aq p cs c.toList->Ie place cs l=some out->
  ∃o,Instr.fill place c l'=some o/\Aq p out o.toList:=by
 intro l l' m;induction m with
 |nil=>intro cs c out d b;cases b;exact⟨c,rfl,d⟩
 |@cons i v v' l l' k m n=>
  intro cs c out d b;unfold Ie at b;split at b
  case h_1=>cases b
  rename_i off size f;cases a:(zt v.cells.length size&&zu (off+size) cs.length)with
  |false=>simp[a]at b
  |true=>
   simp only[a,we]at b;simp only[zw,z8,Bf,w5]at a;have j:=k.cells.length;have g:=d.length;have e:v'.cells.size=size:=by simp at j;omega
   unfold Instr.fill;simp only[f];rw[wc<|by simp at g;simp[e];omega];refine n ?_ b;have:=Sn (p:=p) v.cells v'.cells.toList cs c off k.cells d 0;simp only[yu]at this;rw[<-Array.foldl_toList,Array.toList_zipIdx];exact this
def Jj(T:BR)(t:TypeId)(a:List (Nat×V)):Option V:=
 match T.inf t,T.und t with
 |some i,some (.struct fs)=>
  match fs.toList.mapM (fun f=>(T.inf f.type).map fun j=>(f.offset,j.size))with
  |some pl=>(Ie (fun i=>pl[i]?) i.zero a).map .agg
  |none=>none
 |some i,some (.array _ e)=>match T.inf e with
  |some j=>(Ie (fun i=>some (i*j.size,j.size)) i.zero a).map .agg
  |none=>none
 |_,_=>none
theorem run_places(c:T.Ok P):∀ {fs:List Field} {pl:List (Nat×Nat)},fs.mapM (fun f=>(T.inf f.type).map fun j=>(f.offset,j.size))=some pl->
  ∀w,(fs.mapM<|fun f=>(do pure (f.offset, <-sizeOf f.type):Sem (Nat×Nat))).run P w=.ok pl w
 |[],pl,h,w=>by simp at h;subst h;simp
 |f::fs,pl,h,w=>by
  rw[List.mapM_cons]at h;cases a:T.inf f.type with
  |none=>simp[a]at h
  |some j=>
   cases b:fs.mapM (fun f=>(T.inf f.type).map fun j=>(f.offset,j.size))with
   |none=>simp[a,b]at h
   |some d=>
    simp[a,b]at h;subst h;rw[List.mapM_cons];simp only[zd,Bo c a,zc,ze,run_places c b]
theorem W8(d:T.Ok P){t:TypeId}{b:List (Nat×V)}{a:Array (Nat×Value)}(u:SL p b a.toList){v:V}(c:Jj T t b=some v):
  ∃v',(Instr.build t a).run P w=.ok v' w/\Ab p v v':=by
 unfold Jj at c;split at c
 case h_3=>cases c
 case h_1=>
  rename_i i fs s q;split at c
  case h_2=>cases c
  rename_i pl m;rw[zn]at c;obtain⟨out,r,rfl⟩:=c;obtain⟨z,hz,hzr⟩:=DO d s;have g:(fs.mapM<|fun f=>(do pure (f.offset, <-sizeOf f.type):Sem (Nat×Nat))).run P w=.ok pl.toArray w:=by
   rw[Array.mapM_eq_mapM_toList];simp only[Sem.run_map,run_places d m,zc]
  obtain⟨o,k,l⟩:=J7 (p:=p) (place:=fun i=>pl.toArray[i]?) u (hzr p) (out:=out) (by simpa using r);refine⟨.agg o,?_,by simp only[Ab];exact⟨_,rfl,l⟩⟩;unfold Instr.build;simp only[zd,hz,zc,Aw d q];rw[g];simp only[zc,k,ze]
 case h_2=>
  rename_i i n e s q;split at c
  case h_2=>cases c
  rename_i j x;rw[zn]at c;obtain⟨out,r,rfl⟩:=c;obtain⟨z,hz,hzr⟩:=DO d s;obtain⟨o,k,l⟩:=J7 (p:=p) (place:=fun i=>some (i*j.size,j.size)) u (hzr p) r;refine⟨.agg o,?_,by simp only[Ab];exact⟨_,rfl,l⟩⟩;unfold Instr.build;simp only[zd,hz,zc,Aw d q,Bo d x,k,ze]
def Es(z:List V)(n:Nat):List V:=(List.range n).map fun i=>z.getD (i % z.length)<|.tup []
theorem IE{z:List V}{c:Array Value}(k:Aq p z c.toList)(a:0<z.length)(n:Nat):Aq p (Es z n) ((Array.range n).map<|fun i=>c[i % c.size]!).toList:=by
 have g:=k.length;simp at g;apply Aq.mk (by simp[Es]);intro i d v f m;have l:i<n:=by have:=(zf.1 f).1;simpa [Es]using this
 simp only[Es,zP,zM l,zV,zh]at f;simp only[Array.toList_map,Array.toList_range,zP,zM l,zV,zh]at m;have j:i % z.length<z.length:=Nat.mod_lt _ a;obtain⟨u,e,o⟩:=k.get (i:=i % z.length) (d:=z[i % z.length]) (by simp[j]);subst f m;simp only[zS,j,zN,yg];rw[g]at e;have b:i % c.size<c.size:=Nat.mod_lt _ (by omega);simp[b]at e;rw[getElem!_pos c (i % c.size) b,e];exact o
def En(T:BR)(h:H)(t:TypeId)(len:Nat)(a:List (Nat×V)):Option (V×H):=
 match T.und t with
 |some (.slice e)=>match T.inf e with
  |some i=>
   bif zu (len*i.size) 16777216&&yi 0 (i.zero.length)&&zt i.zero.length i.size then
    match Ie (fun k=>some (k*i.size,i.size)) (Es i.zero<|len*i.size) a with
    |some cs=>some (.sl h.nx 0 len len 0,H9 h e cs)
    |none=>none
   else none
  |none=>none
 |_=>none
theorem UF(g:T.Ok P)(u:R p h w){t:TypeId}{len:Nat}{c:List (Nat×V)}{b:Array (Nat×Value)}(s:SL p c b.toList){v:V}{h':H}
  (d:En T h t len c=some (v,h')):∃v' p' w',(Instr.buildSlice t len b).run P w=.ok v' w'/\Ab p' v v'/\Ext p h w p' h' w':=by
 unfold En at d;split at d
 case h_2=>cases d
 rename_i e y;split at d
 case h_2=>cases d
 rename_i i q;cases a:(zu (len*i.size) 16777216&&yi 0 (i.zero.length)&&zt i.zero.length i.size)with
 |false=>simp[a]at d
 |true=>
  simp only[a,we]at d;simp only[zw,z8,Nat.blt_eq,Bf,w5]at a;obtain⟨⟨D,A⟩,C⟩:=a;split at d
  case h_2=>cases d
  rename_i cs j;cases d;obtain⟨z,r,f⟩:=DO g q;have m:=(f p).length;simp at m;obtain⟨o,h1,h2⟩:=J7 (p:=p) (place:=fun k=>some (k*i.size,i.size)) s (IE (f p) A<|len*i.size) j;obtain⟨n,he,hpn,hn⟩:=MK u e h2;refine⟨.slice (some ⟨w.heap.size,0,none⟩) len len,_,_,?_,?_,he⟩
  ·unfold Instr.buildSlice;simp only[zd,Aw g y,zc,Bo g q];rw[wc<|by omega];by_cases h0:len*i.size=0
   ·rw[wd h0];simp only[zd,ze,zc];have B:(Array.map (fun x=>(#[]:Array Value)[x % (#[]:Array Value).size]!)<|Array.range<|len*i.size)=Array.map (fun l=>z.cells[l % z.cells.size]!) (Array.range<|len*i.size):=by simp[h0]
    rw[B,h1];simp only[zd,B6,zc,ze]
   ·simp only[h0,vf,zd,r,zc,ze,h1,B6]
  ·simp only[Ab];exact⟨_,n,len,hpn,rfl,zg _,zg _,fun _=>rfl,by simp⟩
end
end Go.Det
