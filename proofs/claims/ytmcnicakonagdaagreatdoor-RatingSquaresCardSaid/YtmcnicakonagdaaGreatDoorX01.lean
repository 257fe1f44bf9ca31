import Derived.Scope
import Derived.Laws.Sem
import Derived.KernelRfl
import Derived.Laws.Strings
/- A part of a proof (no law is stated here). Made by program out of texts by AI agents. -/
abbrev w4:=@decide_eq_true
abbrev w5:=@decide_eq_true_eq
abbrev w6:=@of_decide_eq_true
abbrev w7:=@of_decide_eq_false
abbrev w8:=@decide_eq_false
abbrev w9:=@decide_eq_false_iff_not
abbrev wc:=@if_neg
abbrev wd:=@if_pos
abbrev we:=@cond_true
abbrev wg:=@cond_false
abbrev wh:=@absurd
abbrev wi:=@congrArg
abbrev wj:=@beq_iff_eq
abbrev wk:=@if_true
abbrev wm:=@ne_eq
abbrev wn:=@and_true
abbrev vc:=@and_self
abbrev ve:=@if_false
noncomputable section
open Go.Result renaming andThen_ok -> zc
open Go.Sem renaming run_bind -> zd, run_pure -> ze
open List renaming getElem?_eq_some_iff -> zf, getElem?_append_left -> zi, getElem?_take_of_lt -> zk, getLast?_cons_cons -> zo, getElem?_range -> z8, getElem?_eq_getElem -> ya, getElem?_map -> yc, getD -> yf, mem_cons -> yg, mem_cons_of_mem -> yh, getElem?_drop -> yo, mem_cons_self -> yp, length_cons -> yv, length_take -> yw, rec -> yx, length_eq_zero_iff -> yy, drop_eq_nil_of_le -> y7
open Nat renaming le_refl -> zg, beq -> zt, ble -> zu, le_of_ble_eq_true -> yd, ble_eq_true_of_le -> ye, ble_eq -> yr, blt -> y8, min_eq_left -> qc, zero_le -> qe, add -> qf, ne_of_lt -> qi, add_zero -> qk
open Option.some renaming injEq -> zh
open Array renaming getElem?_setIfInBounds_ne -> zj, getElem?_eq_some_iff -> zx, getElem?_push -> yj, ext_getElem? -> yq
open Go.Value renaming cells -> zl
open Bool renaming false_eq_true -> zm, and_eq_true -> zw
open Option renaming map_eq_some_iff -> zn, isSome_none -> z6, map_some -> yi, getD_some -> yz
open Go.Instr renaming sliceAt -> zp, sliceBounds -> zr, sureAddr -> yb, slice -> yu
open Int renaming mul_le_mul_of_nonneg_left -> zq, ofNat_eq_natCast -> zy, toNat_natCast -> z7, pow_succ -> yk, add_mul_emod_self_left -> yn, mul_add -> qd, mul_comm -> qh
open BitVec renaming ofInt -> zz
open UInt8 renaming ofNat -> yt
open Go.Op renaming bytesLess -> y9, equal -> qj
open ByteArray renaming ext -> qg
namespace Go.Sp
def val(b:Int):List Int->Int
 |[]=>0
 |d::r=>d+b*val b r
def Aw(b:Int)(l:List Int):Prop:=∀d∈l,0<=d/\d<b
def nz(l:List Int):Prop:=l.getLast?≠some 0
def Wb(b:Nat):Nat->Nat->List Int
 |0,_=>[]
 |f+1,n=>if n=0 then[]else((n % b:Nat):Int)::Wb b f (n/b)
def dg(b:Nat)(n:Int):List Int:=Wb b n.toNat n.toNat
def Av:List Int->List Int
 |[]=>[]
 |d::r=>match Av r with
  |[]=>if d=0 then[]else[d]
  |s=>d::s
theorem AA{b:Int}(hb:0<=b):∀ {l:List Int},Aw b l->0<=val b l
 |[],_=>Int.le_refl _
 |d::r,h=>by
  have h1:=(h d (by simp)).1;have h2:=AA hb (l:=r) fun x hx=>h x (by simp[hx])
  have:=Int.mul_nonneg hb h2;unfold val;omega
theorem CX(b:Int):∀(l r:List Int),val b (l++r)=val b l+b^l.length*val b r
 |[],r=>by simp[val]
 |d::l,r=>by
  rw[List.cons_append,val,CX b l r,val,yv,yk,qd,Int.add_assoc, <-Int.mul_assoc,qh b (b^l.length)]
theorem ME(b:Int):∀n,val b (List.replicate n 0)=0
 |0=>rfl
 |n+1=>by rw[List.replicate_succ,val,ME b n];simp
theorem Bu{b:Int}(hb:0<b):∀ {l:List Int},Aw b l->val b l<b^l.length
 |[],_=>by simp[val]
 |d::r,h=>by
  have h1:=(h d (by simp)).2;have h2:=Bu hb (l:=r) fun x hx=>h x (by simp[hx])
  have h3:b*val b r<=b*(b^r.length-1):=zq (by omega) (by omega);rw[val,yv,yk,qh (b^r.length) b];rw[Int.mul_sub,Int.mul_one]at h3;omega
theorem Jp(b:Int):∀l,val b (Av l)=val b l
 |[]=>rfl
 |d::r=>by
  have ih:=Jp b r;unfold Av;split
  ·rename_i h;rw[h]at ih;have ih:val b r=0:=ih.symm;split
   ·rename_i h0;show(0:Int)=d+b*val b r;rw[ih,h0];simp
   ·show d+b*(0:Int)=d+b*val b r;rw[ih]
  ·rw[val,val,ih]
theorem HN{b:Int}:∀ {l:List Int},Aw b l->Aw b (Av l)
 |[],h=>h
 |d::r,h=>by
  have ih:=HN (l:=r) fun x hx=>h x (by simp[hx])
  have hd:=h d (by simp);unfold Av;split
  ·split
   ·intro x hx;cases hx
   ·intro x hx;rw[List.mem_singleton.1 hx];exact hd
  ·rename_i s hs;intro x hx;rcases yg.1 hx with rfl|hx
   ·exact hd
   ·exact ih x hx
theorem Lg:∀l:List Int,nz (Av l)
 |[]=>by simp[nz,Av]
 |d::r=>by
  have ih:=Lg r;unfold Av;split
  ·split
   ·simp[nz]
   ·rename_i h;simp[nz,h]
  ·rename_i s hs;unfold nz at ih ⊢;cases hr:Av r with
   |nil=>exact wh hr hs
   |cons a t=>rw[hr]at ih;rw[zo];exact ih
theorem Iz:∀ {l:List Int},nz l->Av l=l
 |[],_=>rfl
 |d::r,h=>by
  unfold Av;cases r with
  |nil=>
   have:d≠0:=by simpa [nz]using h
   simp[Av,this]
  |cons a t=>
   have:nz (a::t):=by unfold nz at h ⊢;rwa [zo]at h
   rw[Iz this]
theorem Jm{b:Int}(hb:0<b):∀ {l:List Int},Aw b l->nz l->l≠[]->0<val b l
 |[],_,_,h=>wh rfl h
 |d::r,h,hn,_=>by
  have h1:=(h d (by simp)).1;have hr:Aw b r:=fun x hx=>h x (by simp[hx])
  have h2:=AA (by omega) hr;unfold val;cases r with
  |nil=>
   have:d≠0:=by simpa [nz]using hn
   simp[val];omega
  |cons a t=>
   have:=Jm hb hr (by unfold nz at hn ⊢;rwa [zo]at hn) (by simp);have:=Int.mul_pos hb this;omega
theorem val_inj{b:Int}(hb:0<b):∀ {l r:List Int},Aw b l->Aw b r->nz l->nz r->val b l=val b r->l=r
 |[],[],_,_,_,_,_=>rfl
 |[],x::r,_,h2,_,n2,h=>by have:=Jm hb h2 n2 (by simp);rw[<-h]at this;simp[val]at this
 |x::l,[],h1,_,n1,_,h=>by have:=Jm hb h1 n1 (by simp);rw[h]at this;simp[val]at this
 |x::l,y::r,h1,h2,n1,n2,h=>by
  have a1:=h1 x (by simp);have a2:=h2 y (by simp);unfold val at h;have e1:x=y:=by
   have h3:(x+b*val b l) % b=(y+b*val b r) % b:=by rw[h]
   rw[yn,yn,Int.emod_eq_of_lt a1.1 a1.2,Int.emod_eq_of_lt a2.1 a2.2]at h3;exact h3
  subst e1;have e2:val b l=val b r:=by
   have h4:b*val b l=b*val b r:=by omega
   exact Int.eq_of_mul_eq_mul_left (by omega) h4
  have t1:∀ {x:Int} {l:List Int},nz (x::l)->nz l:=by
   intro x l hn;cases l with
   |nil=>simp[nz]
   |cons a t=>unfold nz at hn ⊢;rwa [zo]at hn
  rw[val_inj hb (fun z hz=>h1 z (by simp[hz])) (fun z hz=>h2 z (by simp[hz])) (t1 n1) (t1 n2) e2]
theorem Sf(b:Nat)(hb:2<=b):∀f n,n<=f->val b (Wb b f n)=n
 |0,n,h=>by simp[Wb,val];omega
 |f+1,n,h=>by
  unfold Wb;split
  ·rename_i h0;subst h0;rfl
  ·rename_i h0;have h1:n/b<=f:=by
    have:n/b<n:=Nat.div_lt_self (by omega) hb;omega
   rw[val,Sf b hb f (n/b) h1];have:=Nat.mod_add_div n b;have h2:((n % b+b*(n/b):Nat):Int)=(n:Int):=by rw[this]
   push_cast at h2 ⊢
   exact h2
theorem Ub(b:Nat)(hb:2<=b):∀f n,Aw b (Wb b f n)
 |0,n=>by intro x hx;cases hx
 |f+1,n=>by
  unfold Wb;split
  ·intro x hx;cases hx
  ·intro x hx;rcases yg.1 hx with rfl|hx
   ·have:=Nat.mod_lt n (show 0<b by omega);omega
   ·exact Ub b hb f (n/b) x hx
theorem fH(b:Nat)(hb:2<=b):∀f n,n<=f->nz (Wb b f n)
 |0,n,_=>by simp[Wb,nz]
 |f+1,n,h=>by
  unfold Wb;split
  ·simp[nz]
  ·rename_i h0;have h1:n/b<=f:=by
    have:n/b<n:=Nat.div_lt_self (by omega) hb;omega
   have ih:=fH b hb f (n/b) h1;cases hr:Wb b f (n/b)with
   |nil=>
    have hv:=Sf b hb f (n/b) h1;rw[hr]at hv;have hv:n/b=0:=by
     have:((n/b:Nat):Int)=0:=by rw[<-hv];rfl
     exact_mod_cast this
    have h2:n % b=n:=Nat.mod_eq_of_lt ((Nat.div_eq_zero_iff_lt (by omega)).1 hv);simp[nz];omega
   |cons a t=>rw[hr]at ih;unfold nz at ih ⊢;rw[zo];exact ih
theorem CV{b:Nat}(hb:2<=b){n:Int}(hn:0<=n):val b (dg b n)=n:=by
 unfold dg;rw[Sf b hb _ _ (zg _)];omega
theorem Fp{b:Nat}(hb:2<=b)(n:Int):Aw b (dg b n):=Ub b hb _ _
theorem Xj{b:Nat}(hb:2<=b)(n:Int):nz (dg b n):=fH b hb _ _ (zg _)
theorem Ix{b:Nat}(hb:2<=b){l:List Int}(h1:Aw b l)(h2:nz l):l=dg b (val b l):=
 val_inj (by omega) h1 (Fp hb _) h2 (Xj hb _) (CV hb (AA (by omega) h1)).symm
theorem XO{b:Nat}(hb:2<=b){l:List Int}(h1:Aw b l):Av l=dg b (val b l):=by
 rw[<-Jp];exact Ix hb (HN h1) (Lg l)
theorem xP{b:Nat}(hb:2<=b){n:Int}(hn:0<=n):dg b n=[]↔n=0:=by
 constructor
 ·intro h;have:=CV hb hn;rw[h]at this;simpa [val]using this.symm
 ·rintro rfl;rfl
theorem Is:∀l:List Int,Av (l++[0])=Av l
 |[]=>rfl
 |d::r=>by
  rw[List.cons_append];unfold Av;rw[Is r]
theorem Yu{l:List Int}{d:Int}(h:d≠0):nz (l++[d]):=by
 unfold nz;rw[List.getLast?_append];simp[h]
theorem lM{x:Int}{l:List Int}(hn:nz (x::l)):nz l:=by
 cases l with
 |nil=>simp[nz]
 |cons a t=>unfold nz at hn ⊢;rwa [zo]at hn
theorem Dk{b:Int}(hb:0<b):∀ {l:List Int},Aw b l->nz l->l≠[]->b^(l.length-1)<=val b l
 |[],_,_,h=>wh rfl h
 |[d],h,hn,_=>by
  have:=Jm hb h hn (by simp);simp at this ⊢;omega
 |d::e::r,h,hn,_=>by
  have h1:=(h d (by simp)).1;have ih:=Dk hb (l:=e::r) (fun x hx=>h x (by simp[hx])) (lM hn) (by simp);have e1:(d::e::r).length-1=((e::r).length-1)+1:=by simp
  rw[e1,yk,qh];have:=zq ih (show 0<=b by omega);unfold val;omega
theorem AO{b:Int}(hb:0<b):∀n:Nat,0<b^n
 |0=>by simp
 |n+1=>by rw[yk];exact Int.mul_pos (AO hb n) hb
theorem AL{b:Int}(hb:1<=b){m n:Nat}(h:m<=n):b^m<=b^n:=by
 obtain⟨k,rfl⟩:=Nat.exists_eq_add_of_le h;induction k with
 |zero=>exact Int.le_refl _
 |succ k ih=>
  have:=ih (by omega);rw[show m+(k+1)=(m+k)+1 from rfl,yk];have hp:=AO (show 0<b by omega) (m+k);have:=zq hb (show 0<=b^(m+k)by omega);rw[Int.mul_one]at this;omega
theorem EJ{b:Int}(hb:2<=b){l r:List Int}(h1:Aw b l)(h2:Aw b r)(n2:nz r)(h:l.length<r.length):val b l<val b r:=by
 have a1:=Bu (by omega) h1;have a2:=Dk (by omega) h2 n2 (by rintro rfl;simp at h);have:=AL (show 1<=b by omega) (show l.length<=r.length-1 by omega);omega
theorem AM{b:Int}{l:List Int}(h:Aw b l)(i:Nat):Aw b (l.take i):=fun d hd=>h d (List.mem_of_mem_take hd)
theorem EH{b:Int}{l:List Int}(h:Aw b l)(i:Nat):Aw b (l.drop i):=fun d hd=>h d (List.mem_of_mem_drop hd)
theorem Cj(b:Int)(l:List Int)(i:Nat)(h:i<=l.length):val b l=val b (l.take i)+b^i*val b (l.drop i):=by
 conv=>lhs;rw[<-List.take_append_drop i l]
 rw[CX,yw,qc h]
theorem I8{b:Int}(hb:2<=b){l r:List Int}{x y:Int}{s:List Int}{i:Nat}(h1:Aw b l)(hr:Aw b r)(hl:l.drop i=x::s)(hr2:r.drop i=y::s)(h:x<y):val b l<val b r:=by
 have i1:i<=l.length:=by
  rcases Nat.lt_or_ge l.length i with h|h
  ·rw[y7 (by omega)]at hl;cases hl
  ·exact h
 have i2:i<=r.length:=by
  rcases Nat.lt_or_ge r.length i with h|h
  ·rw[y7 (by omega)]at hr2;cases hr2
  ·exact h
 have a1:=Bu (by omega) (AM h1 i);have a2:=AA (show 0<=b by omega) (AM hr i);rw[yw,qc i1]at a1;rw[Cj b l i i1,Cj b r i i2,hl,hr2,show val b (x::s)=x+b*val b s from rfl,show val b (y::s)=y+b*val b s from rfl];have hp:=AO (show 0<b by omega) i;have e1:b^i*(x+b*val b s)=b^i*x+b^i*(b*val b s):=qd _ _ _;have e2:b^i*(y+b*val b s)=b^i*y+b^i*(b*val b s):=qd _ _ _;have e3:b^i*(x+1)<=b^i*y:=zq (by omega) (by omega);rw[qd,Int.mul_one]at e3;rw[e1,e2];omega
theorem NB(b:Nat)(hb:2<=b):∀(k f n:Nat),n<b^k->(Wb b f n).length<=k
 |k,0,n,_=>by simp[Wb]
 |0,f+1,n,h=>by
  have:n=0:=by simpa using h
  subst this;simp[Wb]
 |k+1,f+1,n,h=>by
  unfold Wb;split
  ·simp
  ·have:n/b<b^k:=by
    rw[Nat.pow_succ]at h;exact Nat.div_lt_of_lt_mul (by rw[Nat.mul_comm];exact h)
   have:=NB b hb k f (n/b) this;simp;omega
end Go.Sp
namespace Go.Det
section
inductive PM (α:Type) where
 |leaf
 |node (l:PM α) (v:Option α) (r:PM α)
inductive GP where
 |here
 |l (p:GP)
 |r (p:GP)
variable {α:Type}
def rS(f:Nat):Nat->GP:=
 @Nat.rec (fun _=>Nat->GP) (fun _=>.here) (fun _ ih i=>bif zt i 0 then .here else bif zt (Nat.mod i 2) 1 then .l (ih (Nat.div i 2))else .r (ih (Nat.sub (Nat.div i 2) 1))) f
def zD(i:Nat):GP:=rS i i
def GP.get(p:GP):PM α->Option α:=
 @GP.rec (fun _=>PM α->Option α)
  (fun m=>@PM.rec α (fun _=>Option α) none (fun _ v _ _ _=>v) m)
  (fun _ ih m=>@PM.rec α (fun _=>Option α) none (fun l _ _ _ _=>ih l) m)
  (fun _ ih m=>@PM.rec α (fun _=>Option α) none (fun _ _ r _ _=>ih r) m) p
def GP.set(p:GP):PM α->Option α->PM α:=
 @GP.rec (fun _=>PM α->Option α->PM α)
  (fun m v=>@PM.rec α (fun _=>PM α) (.node .leaf v .leaf) (fun l _ r _ _=>.node l v r) m)
  (fun _ ih m v=>@PM.rec α (fun _=>PM α) (.node (ih .leaf v) none .leaf) (fun l x r _ _=>.node (ih l v) x r) m)
  (fun _ ih m v=>@PM.rec α (fun _=>PM α) (.node .leaf none (ih .leaf v)) (fun l x r _ _=>.node l x (ih r v)) m) p
def PM.get(m:PM α)(i:Nat):Option α:=(zD i).get m
def PM.set(m:PM α)(i:Nat)(v:Option α):PM α:=(zD i).set m v
theorem Br(a b:Nat):zt a b=decide (a=b):=by
 by_cases h:a=b
 ·subst h;simp
 ·rw[w8 h];cases e:zt a b with
  |false=>rfl
  |true=>exact wh (Nat.eq_of_beq_eq_true e) h
def GP.num:GP->Nat
 | .here=>0
 | .l p=>2*p.num+1
 | .r p=>2*(p.num+1)
theorem K9:∀(f i:Nat),i<=f->(rS f i).num=i
 |0,i,h=>by cases Nat.le_zero.1 h;rfl
 |f+1,i,h=>by
  show GP.num (bif zt i 0 then .here else bif zt (i % 2) 1 then .l (rS f (i/2))else .r (rS f (i/2-1)))=i;simp only[Br];by_cases h0:i=0
  ·subst h0;rfl
  ·by_cases h1:i % 2=1
   ·simp only[h0,h1,decide_false,decide_true,wg,we,GP.num];rw[K9 f (i/2) (by omega)];omega
   ·simp only[h0,h1,decide_false,wg,GP.num];rw[K9 f (i/2-1) (by omega)];omega
theorem mD{i j:Nat}(h:zD i=zD j):i=j:=by
 have:=wi GP.num h;unfold zD at this;rwa [K9 i i (zg _),K9 j j (zg _)]at this
theorem GP.Di(p:GP):p.get (.leaf:PM α)=none:=by cases p<;>rfl
theorem GP.get_set_same:∀(p:GP) (m:PM α) (v:Option α),p.get (p.set m v)=v
 | .here,m,v=>by cases m<;>rfl
 | .l p,m,v=>by
  cases m with
  |leaf=>exact GP.get_set_same p .leaf v
  |node l x r=>exact GP.get_set_same p l v
 | .r p,m,v=>by
  cases m with
  |leaf=>exact GP.get_set_same p .leaf v
  |node l x r=>exact GP.get_set_same p r v
theorem GP.FZ:∀(p q:GP) (m:PM α) (v:Option α),q≠p->q.get (p.set m v)=q.get m
 | .here,.here,m,v,h=>wh rfl h
 | .here,.l q,m,v,_=>by
  cases m with
  |leaf=>exact q.Di
  |node l x r=>rfl
 | .here,.r q,m,v,_=>by
  cases m with
  |leaf=>exact q.Di
  |node l x r=>rfl
 | .l p,.here,m,v,_=>by cases m<;>rfl
 | .r p,.here,m,v,_=>by cases m<;>rfl
 | .l p,.r q,m,v,_=>by
  cases m with
  |leaf=>exact q.Di
  |node l x r=>rfl
 | .r p,.l q,m,v,_=>by
  cases m with
  |leaf=>exact q.Di
  |node l x r=>rfl
 | .l p,.l q,m,v,h=>by
  have h':q≠p:=fun e=>h (by rw[e])
  cases m with
  |leaf=>exact(GP.FZ p q .leaf v h').trans q.Di
  |node l x r=>exact GP.FZ p q l v h'
 | .r p,.r q,m,v,h=>by
  have h':q≠p:=fun e=>h (by rw[e])
  cases m with
  |leaf=>exact(GP.FZ p q .leaf v h').trans q.Di
  |node l x r=>exact GP.FZ p q r v h'
@[simp] theorem PM.Db(m:PM α)(i:Nat)(v:Option α)(j:Nat):(m.set i v).get j=if j=i then v else m.get j:=by
 unfold PM.get PM.set;by_cases e:j=i
 ·subst e;rw[wd rfl];exact GP.get_set_same _ _ _
 ·rw[wc e];exact GP.FZ _ _ _ _ (fun h=>e (mD h))
@[simp] theorem PM.Di(j:Nat):(PM.leaf:PM α).get j=none:=GP.Di _
def Ez(l:List α):Nat:=@yx α (fun _=>Nat) 0 (fun _ _ ih=>qf ih 1) l
theorem CZ(l:List α):Ez l=l.length:=by
 induction l with
 |nil=>rfl
 |cons a l ih=>show qf (Ez l) 1=_;rw[ih];rfl
def JF(n:Nat):List α->List α:=
 @Nat.rec (fun _=>List α->List α) (fun l=>l) (fun _ ih l=>@yx α (fun _=>List α) [] (fun _ AcJ _=>ih AcJ) l) n
theorem OJ:∀(n:Nat) (l:List α),JF n l=l.drop n
 |0,_l=>rfl
 |_n+1,[]=>rfl
 |n+1,_a::l=>OJ n l
def XY(n:Nat):List α->List α:=
 @Nat.rec (fun _=>List α->List α) (fun _=>[]) (fun _ ih l=>@yx α (fun _=>List α) [] (fun a AcJ _=>a::ih AcJ) l) n
theorem Oe:∀(n:Nat) (l:List α),XY n l=l.take n
 |0,_l=>rfl
 |_n+1,[]=>rfl
 |n+1,a::l=>wi (a:: ·) (Oe n l)
def JK(vs:List α):List α->List α:=
 @yx α (fun _=>List α->List α) (fun l=>l) (fun v _ ih l=>@yx α (fun _=>List α) [] (fun _ AcJ _=>v::ih AcJ) l) vs
def Cv(n:Nat)(vs:List α):List α->List α:=
 @Nat.rec (fun _=>List α->List α) (fun l=>JK vs l) (fun _ ih l=>@yx α (fun _=>List α) [] (fun a AcJ _=>a::ih AcJ) l) n
def Lx(f:α->Bool)(l:List α):Bool:=@yx α (fun _=>Bool) true (fun a _ ih=>bif f a then ih else false) l
theorem Fo(f:α->Bool):∀l:List α,Lx f l=l.all f
 |[]=>rfl
 |a::l=>by
  show(bif f a then Lx f l else false)=_;rw[Fo f l,List.all_cons];cases f a<;>rfl
inductive V where
 |bool (b:Bool)
 |int (k:IntKind) (n:Int)
 |str (s:List UInt8)
 |nilp
 |ptr (b off:Nat)
 |nils
 |sl (b off len cap o:Nat)
 |esl
 |es0
 |junk
 |nilm
 |map (b:Nat)
 |fn (f:Fn) (first captured:List V)
 |yld (b:Nat)
 |nilf
 |iface (t:TypeId) (v:V)
 |nili
 |agg (cs:List V)
 |tup (vs:List V)
 deriving Inhabited
abbrev Pl:=List (Nat×Nat)
def bytesOf(s:List UInt8):ByteArray:=⟨s.toArray⟩
mutual
def Ac(p:Pl):V->Value->Prop
 | .bool b,v=>v=.bool b
 | .int k n,v=>v=.int k n
 | .str s,v=>v=.string (bytesOf s)
 | .nilp,v=>v=.pointer none
 | .ptr b off,v=>∃r n,p[b]?=some (r,n)/\v=.pointer (some ⟨r,off,none⟩)
 | .nils,v=>v=.slice none 0 0
 | .sl b off len cap o,v=>∃r n c,p[b]?=some (r,n)/\v=.slice (some ⟨r,off,none⟩) len c/\len<=cap/\cap<=c/\(o=0->c=cap)/\(o≠0->off+c*o<=n)
 | .esl,v=>∃a c,v=.slice (some a) 0 c
 | .es0,v=>∃a,v=.slice (some a) 0 0
 | .junk,_=>False
 | .nilm,v=>v=.map none
 | .map b,v=>∃r n,p[b]?=some (r,n)/\v=.map (some r)
 | .fn f first captured,v=>∃x y,v=.func f x y/\As p first x.toList/\As p captured y.toList
 | .yld b,v=>∃r n,p[b]?=some (r,n)/\v=.func (.yield r) #[] #[]
 | .nilf,v=>v=.nilFunc
 | .iface t x,v=>∃y,v=.iface t y/\Ac p x y
 | .nili,v=>v=.nilIface
 | .agg cs,v=>∃x,v=.agg x/\As p cs x.toList
 | .tup cs,v=>∃x,v=.tuple x/\As p cs x.toList
def As(p:Pl):List V->List Value->Prop
 |[],l=>l=[]
 |d::ds,l=>∃v vs,l=v::vs/\Ac p d v/\As p ds vs
end
@[simp] theorem GV(p:Pl)(l:List Value):As p [] l↔l=[]:=by simp[As]
@[simp] theorem Bg(p:Pl)(d:V)(ds:List V)(v:Value)(vs:List Value):As p (d::ds) (v::vs)↔Ac p d v/\As p ds vs:=by
 simp only[As];constructor
 ·rintro⟨_,_,h,h1,h2⟩;cases h;exact⟨h1,h2⟩
 ·rintro⟨h1,h2⟩;exact⟨v,vs,rfl,h1,h2⟩
@[simp] theorem bR(p:Pl)(d:V)(ds:List V):¬As p (d::ds) []:=by
 simp[As]
theorem As.length{p:Pl}:∀ {ds:List V} {vs:List Value},As p ds vs->ds.length=vs.length
 |[],vs,h=>by simp at h;simp[h]
 |d::ds,[],h=>by simp at h
 |d::ds,v::vs,h=>by simp at h;simp[h.2.length]
theorem As.get{p:Pl}:∀ {ds:List V} {vs:List Value},As p ds vs->∀ {i:Nat} {d:V},ds[i]?=some d->∃v,vs[i]?=some v/\Ac p d v
 |[],vs,_,i,d,hd=>by simp at hd
 |d::ds,[],h,_,_,_=>by simp at h
 |d::ds,v::vs,h,i,x,hd=>by
  simp at h;cases i with
  |zero=>simp at hd;subst hd;exact⟨v,rfl,h.1⟩
  |succ i=>simp at hd;simpa using h.2.get hd
theorem As.mk{p:Pl}:∀ {ds:List V} {vs:List Value},ds.length=vs.length->(∀(i:Nat) d v,ds[i]?=some d->vs[i]?=some v->Ac p d v)->As p ds vs
 |[],[],_,_=>by simp
 |[],_::_,h,_=>by simp at h
 |_::_,[],h,_=>by simp at h
 |d::ds,v::vs,h,hh=>by
  simp at h;rw[Bg];exact⟨hh 0 d v rfl rfl,As.mk h (fun i d' v' h1 h2=>hh (i+1) d' v' (by simpa using h1) (by simpa using h2))⟩
theorem As.append{p:Pl}:∀ {a:List V} {x:List Value} {b:List V} {y:List Value},As p a x->As p b y->As p (a++b) (x++y)
 |[],x,b,y,h,h'=>by simp at h;subst h;simpa using h'
 |d::ds,[],_,_,h,_=>by simp at h
 |d::ds,v::vs,b,y,h,h'=>by simp at h;simp[h.1,h.2.append h']
theorem As.take{p:Pl}:∀ {a:List V} {x:List Value} (n:Nat),As p a x->As p (a.take n) (x.take n)
 |[],x,n,h=>by simp at h;subst h;simp
 |d::ds,[],_,h=>by simp at h
 |d::ds,v::vs,0,h=>by simp
 |d::ds,v::vs,n+1,h=>by simp at h;simp[h.1,h.2.take n]
theorem As.drop{p:Pl}:∀ {a:List V} {x:List Value} (n:Nat),As p a x->As p (a.drop n) (x.drop n)
 |[],x,n,h=>by simp at h;subst h;simp
 |d::ds,[],_,h=>by simp at h
 |d::ds,v::vs,0,h=>by simpa using h
 |d::ds,v::vs,n+1,h=>by simp at h;simpa using h.2.drop n
theorem As.set{p:Pl}:∀ {a:List V} {x:List Value} (i:Nat) {d:V} {v:Value},As p a x->Ac p d v->As p (a.set i d) (x.set i v)
 |[],x,n,_,_,h,_=>by simp at h;subst h;simp
 |d::ds,[],_,_,_,h,_=>by simp at h
 |d::ds,v::vs,0,_,_,h,h'=>by simp at h;simp[h.2,h']
 |d::ds,v::vs,n+1,_,_,h,h'=>by simp at h;simp[h.1,h.2.set n h']
mutual
theorem Ac.mono{p:Pl}(q:Pl):∀ {d:V} {v:Value},Ac p d v->Ac (p++q) d v
 | .bool _,_,h=>by simpa [Ac]using h
 | .int _ _,_,h=>by simpa [Ac]using h
 | .str _,_,h=>by simpa [Ac]using h
 | .nilp,_,h=>by simpa [Ac]using h
 | .ptr b off,v,h=>by
  simp only[Ac]at h ⊢;obtain⟨r,n,h1,h2⟩:=h;exact⟨r,n,by rw[zi (by have:=(zf.1 h1).1;omega)];exact h1,h2⟩
 | .nils,_,h=>by simpa [Ac]using h
 | .sl b off len cap o,v,h=>by
  simp only[Ac]at h ⊢;obtain⟨r,n,c,h1,h2⟩:=h;exact⟨r,n,c,by rw[zi (by have:=(zf.1 h1).1;omega)];exact h1,h2⟩
 | .esl,_,h=>by simpa [Ac]using h
 | .es0,_,h=>by simpa [Ac]using h
 | .junk,_,h=>by simp[Ac]at h
 | .nilm,_,h=>by simpa [Ac]using h
 | .map b,v,h=>by
  simp only[Ac]at h ⊢;obtain⟨r,n,h1,h2⟩:=h;exact⟨r,n,by rw[zi (by have:=(zf.1 h1).1;omega)];exact h1,h2⟩
 | .fn f a b,v,h=>by
  simp only[Ac]at h ⊢;obtain⟨x,y,rfl,h1,h2⟩:=h;exact⟨x,y,rfl,As.mono q h1,As.mono q h2⟩
 | .yld b,v,h=>by
  simp only[Ac]at h ⊢;obtain⟨r,n,h1,h2⟩:=h;exact⟨r,n,by rw[zi (by have:=(zf.1 h1).1;omega)];exact h1,h2⟩
 | .nilf,_,h=>by simpa [Ac]using h
 | .iface t x,v,h=>by
  simp only[Ac]at h ⊢;obtain⟨y,rfl,h1⟩:=h;exact⟨y,rfl,Ac.mono q h1⟩
 | .nili,_,h=>by simpa [Ac]using h
 | .agg cs,v,h=>by
  simp only[Ac]at h ⊢;obtain⟨x,rfl,h1⟩:=h;exact⟨x,rfl,As.mono q h1⟩
 | .tup cs,v,h=>by
  simp only[Ac]at h ⊢;obtain⟨x,rfl,h1⟩:=h;exact⟨x,rfl,As.mono q h1⟩
theorem As.mono{p:Pl}(q:Pl):∀ {ds:List V} {vs:List Value},As p ds vs->As (p++q) ds vs
 |[],_,h=>by simpa using h
 |_::_,[],h=>by simp at h
 |d::ds,v::vs,h=>by simp only[Bg]at h ⊢;exact⟨Ac.mono q h.1,As.mono q h.2⟩
end
structure Fr where
 n:Nat
 m:PM V
def Fr.get(f:Fr)(t:Nat):V:=(f.m.get t).getD (.tup [])
def Fr.put(f:Fr)(d:Option Nat)(v:V):Option Fr:=
 match d with
 |none=>some f
 |some t=>bif y8 t f.n then some ⟨f.n,f.m.set t (some v)⟩else none
def E3(p:Pl)(f:Fr)(tmps:Array Value):Prop:=f.n=tmps.size/\∀t,Ac p (f.get t) (tmps.getD t undef)
def Cz(p:Pl)(f:Fr)(a:Act):Prop:=f.n=a.tmps.size/\∀t,Ac p (f.get t) (a.tmps.getD t undef)
theorem E3.mono{p:Pl}(q:Pl){f:Fr}{tmps:Array Value}(h:E3 p f tmps):E3 (p++q) f tmps:=⟨h.1,fun t=>(h.2 t).mono q⟩
structure LS where
 st:LoopState
 pend:Option Code
 fr:Fr
 ps:Array Tmp
 asg:Code
 body:Code
 db:Nat
inductive O where
 |cells (cs:List V) (elem:TypeId) (fz:Nat×Nat)
 |map (es:List (V×V×Nat)) (clock:Nat)
 |siter (s:List UInt8) (pos:Nat)
 |miter (b:Option Nat) (since:Nat) (seen:List Nat) (last:Nat)
 |loop (l:LS)
 |defd (open_:Bool)
structure H where
 m:PM O
 nx:Nat
def H.get(h:H)(b:Nat):Option O:=h.m.get b
def H.push(h:H)(o:O):H:=⟨h.m.set h.nx (some o),h.nx+1⟩
def H.put(h:H)(b:Nat)(o:O):H:=⟨h.m.set b (some o),h.nx⟩
def H.kill(h:H)(b:Nat):H:=⟨h.m.set b none,h.nx⟩
@[simp] theorem H.BK(h:H)(o:O)(b:Nat):(h.push o).get b=if b=h.nx then some o else h.get b:=by simp[H.push,H.get]
@[simp] theorem H.Bq(h:H)(b:Nat)(o:O)(j:Nat):(h.put b o).get j=if j=b then some o else h.get j:=by simp[H.put,H.get]
@[simp] theorem H.Cb(h:H)(b:Nat)(j:Nat):(h.kill b).get j=if j=b then none else h.get j:=by simp[H.kill,H.get]
@[simp] theorem H.Aa9(h:H)(o:O):(h.push o).nx=h.nx+1:=rfl
@[simp] theorem H.Abz(h:H)(b:Nat)(o:O):(h.put b o).nx=h.nx:=rfl
@[simp] theorem H.X6(h:H)(b:Nat):(h.kill b).nx=h.nx:=rfl
inductive DL (p:Pl):List (V×V×Nat)->List MapEntry->Prop
 |nil:DL p [] []
 |cons {k v:V} {b:Nat} {es:List (V×V×Nat)} {e:MapEntry} {l:List MapEntry}:Ac p k e.key->Ac p v e.val->e.born=b->DL p es l->DL p ((k,v,b)::es) (e::l)
def V.ok:V->Bool
 | .junk=>false
 |_=>true
def Ee(p:Pl)(cs:List V)(vs:List Value):Prop:=cs.length=vs.length/\∀(i:Nat) d v,cs[i]?=some d->vs[i]?=some v->d.ok=true->Ac p d v
theorem As.toC{p:Pl}{cs:List V}{vs:List Value}(h:As p cs vs):Ee p cs vs:=⟨h.length,fun i d v h1 h2 _=>by
 obtain⟨u,h3,h4⟩:=h.get h1;rw[h2]at h3;cases h3;exact h4⟩
theorem Ee.get{p:Pl}{cs:List V}{vs:List Value}(h:Ee p cs vs){i:Nat}{d:V}(hi:cs[i]?=some d)(hd:d.ok=true):∃v,vs[i]?=some v/\Ac p d v:=by
 have hl:i<vs.length:=by rw[<-h.1];exact(zf.1 hi).1
 exact⟨vs[i],ya hl,h.2 i d _ hi (ya hl) hd⟩
theorem Ee.drop{p:Pl}{cs:List V}{vs:List Value}(h:Ee p cs vs)(n:Nat):Ee p (cs.drop n) (vs.drop n):=
 ⟨by simp[h.1],fun i d v h1 h2=>h.2 (n+i) d v (by rwa [yo]at h1) (by rwa [yo]at h2)⟩
theorem Ee.take{p:Pl}{cs:List V}{vs:List Value}(h:Ee p cs vs)(n:Nat):Ee p (cs.take n) (vs.take n):=
 ⟨by simp[h.1],fun i d v h1 h2=>by
  have hi:i<n:=by have:=(zf.1 h1).1;simp at this;omega
  rw[zk hi]at h1 h2;exact h.2 i d v h1 h2⟩
theorem Ee.NK{p:Pl}{cs:List V}{vs:List Value}(h:Ee p cs vs)(hk:∀d∈cs,d.ok=true):As p cs vs:=
 As.mk h.1 fun i d v h1 h2=>h.2 i d v h1 h2 (hk d (List.mem_of_getElem? h1))
def Hg(p:Pl)(n:Nat):O->Obj->Prop
 | .cells cs t fz,o=>∃(c:Array Value) (fz':Nat×Nat),o=.cells c t fz'/\c.size=n/\cs.length<=n/\Ee p cs (c.toList.take cs.length)/\∀i,i<n->fz'.1<=i->i<fz'.2->fz.1<=i/\i<fz.2
 | .map es clock,o=>∃l:Array MapEntry,o=.map l clock/\DL p es l.toList
 | .siter s pos,o=>o=.stringIter (bytesOf s) pos
 | .miter none since seen last,o=>o=.mapIter none since seen.toArray last
 | .miter (some b) since seen last,o=>∃r m,p[b]?=some (r,m)/\o=.mapIter (some r) since seen.toArray last
 | .loop l,o=>∃(fn:FuncId) (tmps:Array Value) (r m:Nat),E3 p l.fr tmps/\p[l.db]?=some (r,m)/\o=.loop { state:=l.st,pending:=l.pend,fn,tmps,params:=l.ps,assign:=l.asg,body:=l.body,defers:=r }
 | .defd op,o=>o=.deferred (bif op then some []else none)
theorem Ee.mono{p:Pl}(q:Pl){cs:List V}{vs:List Value}(h:Ee p cs vs):Ee (p++q) cs vs:=⟨h.1,fun i d v h1 h2 h3=>(h.2 i d v h1 h2 h3).mono q⟩
theorem DL.mono{p:Pl}(q:Pl){es:List (V×V×Nat)}{l:List MapEntry}(h:DL p es l):DL (p++q) es l:=by
 induction h with
 |nil=>exact .nil
 |cons h1 h2 h3 _ ih=>exact .cons (h1.mono q) (h2.mono q) h3 ih
theorem Hg.mono{p:Pl}(q:Pl){n:Nat}{o:O}{x:Obj}(h:Hg p n o x):Hg (p++q) n o x:=by
 cases o with
 |cells cs t fz=>obtain⟨c,fz',h1,h2,h3,h4,h5⟩:=h;exact⟨c,fz',h1,h2,h3,h4.mono q,h5⟩
 |map es cl=>obtain⟨l,h1,h2⟩:=h;exact⟨l,h1,h2.mono q⟩
 |siter s pos=>exact h
 |miter b since seen last=>
  cases b with
  |none=>exact h
  |some b=>
   obtain⟨r,m,h1,h2⟩:=h;exact⟨r,m,by rw[zi (zf.1 h1).1];exact h1,h2⟩
 |loop l=>
  obtain⟨fn,tmps,r,m,h0,h1,h2⟩:=h;exact⟨fn,tmps,r,m,h0.mono q,by rw[zi (zf.1 h1).1];exact h1,h2⟩
 |defd _=>exact h
structure R(p:Pl)(h:H)(w:World):Prop where
 len:p.length=h.nx
 obj:∀b o,h.get b=some o->∃r n x,p[b]?=some (r,n)/\w.heap[r]?=some x/\Hg p n o x
 inj:∀b b' o o' r n n',h.get b=some o->h.get b'=some o'->p[b]?=some (r,n)->p[b']?=some (r,n')->b=b'
def Im(p:Pl)(h:H)(r:Nat):Prop:=∃b o n,h.get b=some o/\p[b]?=some (r,n)
def Lk(n:Nat)(fz:Nat×Nat):Prop:=fz.1=0/\n<=fz.2/\0<fz.2
def Lkd(p:Pl)(h:H)(r:Nat):Prop:=∃b n cs t fz,h.get b=some (.cells cs t fz)/\p[b]?=some (r,n)/\Lk n fz
structure Ext(p:Pl)(h:H)(w:World)(p':Pl)(h':H)(w':World):Prop where
 pre:∃q,p'=p++q
 rel:R p' h' w'
 size:w.heap.size<=w'.heap.size
 same:∀r,r<w.heap.size->¬Im p h r->w'.heap[r]?=w.heap[r]?
 im:∀r,Im p' h' r->Im p h r\/w.heap.size<=r
 os:w'.os=w.os
 out:w'.output=w.output
 tape:w'.tape=w.tape
 lock:∀r,r<w.heap.size->Lkd p h r->w'.heap[r]?=w.heap[r]?/\(Lkd p' h' r\/¬Im p' h' r)
theorem Ext.refl{p:Pl}{h:H}{w:World}(hr:R p h w):Ext p h w p h w:=
 ⟨⟨[],by simp⟩,hr,zg _,fun _ _ _=>rfl,fun _ h=>.inl h,rfl,rfl,rfl,fun _ _ h=>⟨rfl,.inl h⟩⟩
theorem Ext.trans{p p₁ p₂:Pl}{h h₁ h₂:H}{w w₁ w₂:World}(a:Ext p h w p₁ h₁ w₁)(b:Ext p₁ h₁ w₁ p₂ h₂ w₂):Ext p h w p₂ h₂ w₂:=by
 obtain⟨q,hq⟩:=a.pre;obtain⟨q',hq'⟩:=b.pre;refine⟨⟨q++q',by rw[hq',hq,List.append_assoc]⟩,b.rel,Nat.le_trans a.size b.size,fun r hr hn=>?_,fun r hr=>?_,b.os.trans a.os,b.out.trans a.out,b.tape.trans a.tape,fun r hlt hl=>?_⟩
 ·rw[b.same r (Nat.lt_of_lt_of_le hr a.size) ?_,a.same r hr hn];intro h1;rcases a.im r h1 with h2|h2
  ·exact hn h2
  ·omega
 ·rcases b.im r hr with h1|h1
  ·exact a.im r h1
  ·exact .inr (Nat.le_trans a.size h1)
 ·obtain⟨e1,h1⟩:=a.lock r hlt hl;have hlt1:=Nat.lt_of_lt_of_le hlt a.size;rcases h1 with h1|h1
  ·obtain⟨e2,h2⟩:=b.lock r hlt1 h1;exact⟨e2.trans e1,h2⟩
  ·refine⟨(b.same r hlt1 h1).trans e1,.inr fun hi=>?_⟩;rcases b.im r hi with h2|h2
   ·exact h1 h2
   ·omega
theorem Ext.dX{p p':Pl}{h h':H}{w w':World}(e:Ext p h w p' h' w'){d:V}{v:Value}(hv:Ac p d v):Ac p' d v:=by
 obtain⟨q,rfl⟩:=e.pre;exact hv.mono q
theorem Ext.drew{p:Pl}{h:H}{w:World}(hr:R p h w)(n:Nat):Ext p h w p h { w with drawn:=n }:=
 ⟨⟨[],by simp⟩,⟨hr.len,hr.obj,hr.inj⟩,zg _,fun _ _ _=>rfl,fun _ h=>.inl h,rfl,rfl,rfl,fun _ _ h=>⟨rfl,.inl h⟩⟩
theorem R.lt{p:Pl}{h:H}{w:World}(hr:R p h w){b:Nat}{o:O}(hb:h.get b=some o):b<h.nx:=by
 obtain⟨r,n,x,h1,_⟩:=hr.obj b o hb;have:=(zf.1 h1).1;have:=hr.len;omega
theorem R.YG{p:Pl}{h:H}{w:World}(hr:R p h w){r:Nat}(hi:Im p h r):r<w.heap.size:=by
 obtain⟨b,o,n,h1,h2⟩:=hi;obtain⟨r',n',x,h3,h4,_⟩:=hr.obj b o h1;rw[h2]at h3;cases h3;exact(zx.1 h4).1
theorem Ext.push{p:Pl}{h:H}{w:World}(hr:R p h w){o:O}{x:Obj}{n:Nat}(ho:Hg p n o x):
  Ext p h w (p++[(w.heap.size,n)]) (h.push o) { w with heap:=w.heap.push x }:=by
 have hg:∀b o',h.get b=some o'->b≠h.nx:=fun b o' hb=>by have:=hr.lt hb;omega
 have hnew:(p++[(w.heap.size,n)])[h.nx]?=some (w.heap.size,n):=by rw[<-hr.len];simp
 have hold:∀b,b<h.nx->(p++[(w.heap.size,n)])[b]?=p[b]?:=fun b hb=>zi (by rw[hr.len];exact hb)
 refine⟨⟨_,rfl⟩,⟨by simp[hr.len],fun b o' hb=>?_,fun b b' o₁ o₂ r m m' hb hb' h1 h2=>?_⟩,by simp,fun r hlt _=>?_,fun r hi=>?_,rfl,rfl,rfl,fun r hlt hl=>?_⟩
 ·rw[H.BK]at hb;by_cases e:b=h.nx
  ·subst e;simp at hb;subst hb;exact⟨_,_,x,hnew,by simp,ho.mono _⟩
  ·rw[wc e]at hb;obtain⟨r,m,y,h1,h2,h3⟩:=hr.obj b o' hb;refine⟨r,m,y,by rw[hold b (hr.lt hb)];exact h1,?_,h3.mono _⟩;have:=(zx.1 h2).1;simp[yj,qi this,h2]
 ·have key:∀c o' r m,(h.push o).get c=some o'->(p++[(w.heap.size,n)])[c]?=some (r,m)->(c=h.nx/\r=w.heap.size)\/(h.get c=some o'/\p[c]?=some (r,m)/\r<w.heap.size):=by
   intro c o' r m hc hp;rw[H.BK]at hc;by_cases e:c=h.nx
   ·subst e;rw[hnew]at hp;cases hp;exact .inl ⟨rfl,rfl⟩
   ·rw[wc e]at hc;rw[hold c (hr.lt hc)]at hp;exact .inr ⟨hc,hp,hr.YG ⟨c,o',m,hc,hp⟩⟩
  rcases key b o₁ r m hb h1 with⟨e1,e2⟩|⟨e1,e2,e3⟩<;>rcases key b' o₂ r m' hb' h2 with⟨f1,f2⟩|⟨f1,f2,f3⟩
  ·omega
  ·omega
  ·omega
  ·exact hr.inj b b' o₁ o₂ r m m' e1 f1 e2 f2
 ·simp[yj,qi hlt]
 ·obtain⟨b,o',m,h1,h2⟩:=hi;rw[H.BK]at h1;by_cases e:b=h.nx
  ·subst e;rw[hnew]at h2;cases h2;exact .inr (zg _)
  ·rw[wc e]at h1;rw[hold b (hr.lt h1)]at h2;exact .inl ⟨b,o',m,h1,h2⟩
 ·refine⟨by simp[yj,qi hlt],.inl ?_⟩;obtain⟨b,m,cs,t,fz,k1,k2,k3⟩:=hl;refine⟨b,m,cs,t,fz,?_,?_,k3⟩
  ·rw[H.BK,wc (hg b _ k1)];exact k1
  ·rw[hold b (hr.lt k1)];exact k2
theorem Ext.put{p:Pl}{h:H}{w w':World}(hr:R p h w){b r n:Nat}{o o':O}{x':Obj}(hb:h.get b=some o)(hp:p[b]?=some (r,n))(ho:Hg p n o' x')
  (hw:w'.heap=w.heap.setIfInBounds r x') (h1:w'.os=w.os) (h2:w'.output=w.output) (h3:w'.tape=w.tape)
  (hk:∀cs t fz,o=.cells cs t fz->Lk n fz->w.heap[r]?=some x'/\∃cs' t',o'=.cells cs' t' fz:=by intro _ _ _ h;cases h):Ext p h w p (h.put b o') w':=by
 have hlt:r<w.heap.size:=hr.YG ⟨b,o,n,hb,hp⟩;refine⟨⟨[],by simp⟩,⟨hr.len,fun c oc hc=>?_,fun c c' oc oc' s m m' hc hc' h1 h2=>?_⟩,by simp[hw],fun s hs hn=>?_,fun s hi=>?_,h1,h2,h3,fun s hs hl=>?_⟩
 ·rw[H.Bq]at hc;by_cases e:c=b
  ·subst e;simp at hc;subst hc;exact⟨r,n,x',hp,by rw[hw];simp[hlt],ho⟩
  ·rw[wc e]at hc;obtain⟨s,m,y,g1,g2,g3⟩:=hr.obj c oc hc;refine⟨s,m,y,g1,?_,g3⟩;have hne:r≠s:=fun e'=>e (hr.inj c b oc o s m n hc hb g1 (e'▸hp))
   rw[hw,zj hne];exact g2
 ·have get':∀c oc,(h.put b o').get c=some oc->∃oc',h.get c=some oc':=by
   intro c oc hc;rw[H.Bq]at hc;by_cases e:c=b
   ·exact⟨o,e▸hb⟩
   ·rw[wc e]at hc;exact⟨oc,hc⟩
  obtain⟨_,g1⟩:=get' c oc hc;obtain⟨_,g2⟩:=get' c' oc' hc';exact hr.inj c c' _ _ s m m' g1 g2 h1 h2
 ·have hne:r≠s:=fun e=>hn (e▸⟨b,o,n,hb,hp⟩)
  rw[hw,zj hne]
 ·obtain⟨c,oc,m,g1,g2⟩:=hi;rw[H.Bq]at g1;by_cases e:c=b
  ·subst e;exact .inl ⟨c,o,m,hb,g2⟩
  ·rw[wc e]at g1;exact .inl ⟨c,oc,m,g1,g2⟩
 ·obtain⟨c,m,cs,t,fz,k1,k2,k3⟩:=hl;by_cases e:c=b
  ·subst e;rw[hp]at k2;cases k2;rw[hb]at k1;cases k1;obtain⟨g1,cs',t',rfl⟩:=hk cs t fz rfl k3;refine⟨?_,.inl ⟨c,n,cs',t',fz,by rw[H.Bq,wd rfl],hp,k3⟩⟩;rw[hw,g1];simp[hlt]
  ·have hne:r≠s:=fun e'=>e (hr.inj c b _ o s m n k1 hb k2 (e'▸hp))
   refine⟨by rw[hw,zj hne],.inl ⟨c,m,cs,t,fz,by rw[H.Bq,wc e];exact k1,k2,k3⟩⟩
theorem R.kill{p:Pl}{h:H}{w:World}(hr:R p h w)(b:Nat):R p (h.kill b) w:=by
 have sub:∀c o,(h.kill b).get c=some o->h.get c=some o:=by
  intro c o hc;rw[H.Cb]at hc;split at hc
  ·cases hc
  ·exact hc
 exact⟨hr.len,fun c o hc=>hr.obj c o (sub c o hc),fun c c' o o' r n n' hc hc'=>hr.inj c c' o o' r n n' (sub c o hc) (sub c' o' hc')⟩
theorem Ext.kill{p:Pl}{h:H}{w:World}(hr:R p h w)(b:Nat):Ext p h w p (h.kill b) w:=by
 refine⟨⟨[],by simp⟩,hr.kill b,zg _,fun _ _ _=>rfl,fun r hi=>?_,rfl,rfl,rfl,fun r hlt hl=>⟨rfl,?_⟩⟩
 ·obtain⟨c,o,n,h1,h2⟩:=hi;rw[H.Cb]at h1;split at h1
  ·cases h1
  ·exact .inl ⟨c,o,n,h1,h2⟩
 ·obtain⟨c,m,cs,t,fz,k1,k2,k3⟩:=hl;by_cases e:c=b
  ·subst e;refine .inr ?_;rintro⟨c',o',m',g1,g2⟩;rw[H.Cb]at g1;split at g1
   ·cases g1
   ·rename_i hne;exact hne (hr.inj c' c _ _ r m' m g1 k1 g2 k2)
  ·exact .inl ⟨c,m,cs,t,fz,by rw[H.Cb,wc e];exact k1,k2,k3⟩
theorem Ext.move{p:Pl}{h:H}{w w':World}(hr:R p h w){b r n:Nat}{o o':O}{x':Obj}(hb:h.get b=some o)(hp:p[b]?=some (r,n))(ho:Hg p n o' x')
  (hw:w'.heap=w.heap.setIfInBounds r x') (g1:w'.os=w.os) (g2:w'.output=w.output) (g3:w'.tape=w.tape) (hk:∀cs t fz,o=.cells cs t fz->¬Lk n fz):Ext p h w (p++[(r,n)]) ((h.kill b).push o') w':=by
 have hlt:r<w.heap.size:=hr.YG ⟨b,o,n,hb,hp⟩;have hnew:(p++[(r,n)])[h.nx]?=some (r,n):=by rw[<-hr.len];simp
 have hold:∀b,b<h.nx->(p++[(r,n)])[b]?=p[b]?:=fun b hb=>zi (by rw[hr.len];exact hb)
 have get':∀c oc,((h.kill b).push o').get c=some oc->(c=h.nx/\oc=o')\/(c≠b/\c<h.nx/\h.get c=some oc):=by
  intro c oc hc;rw[H.BK,H.X6,H.Cb]at hc;by_cases e:c=h.nx
  ·rw[wd e]at hc;cases hc;exact .inl ⟨e,rfl⟩
  ·rw[wc e]at hc;by_cases e2:c=b
   ·rw[wd e2]at hc;cases hc
   ·rw[wc e2]at hc;exact .inr ⟨e2,hr.lt hc,hc⟩
 have ne:∀c oc s m,c≠b->h.get c=some oc->p[c]?=some (s,m)->r≠s:=fun c oc s m hc hg hs e=>hc (hr.inj c b oc o s m n hg hb hs (e▸hp))
 refine⟨⟨_,rfl⟩,⟨by simp[hr.len],fun c oc hc=>?_,fun c c' oc oc' s m m' hc hc' h1 h2=>?_⟩,by simp[hw],fun s hs hn=>?_,fun s hi=>?_,g1,g2,g3,fun s hs hl=>?_⟩
 ·rcases get' c oc hc with⟨rfl,rfl⟩|⟨e1,e2,e3⟩
  ·exact⟨r,n,x',hnew,by rw[hw];simp[hlt],ho.mono _⟩
  ·obtain⟨s,m,y,k1,k2,k3⟩:=hr.obj c oc e3;refine⟨s,m,y,by rw[hold c e2];exact k1,?_,k3.mono _⟩;rw[hw,zj (ne c oc s m e1 e3 k1)];exact k2
 ·rcases get' c oc hc with⟨rfl,rfl⟩|⟨e1,e2,e3⟩<;>rcases get' c' oc' hc' with⟨rfl,rfl⟩|⟨f1,f2,f3⟩
  ·rfl
  ·rw[hnew]at h1;cases h1;rw[hold c' f2]at h2;exact wh rfl (ne c' oc' _ _ f1 f3 h2)
  ·rw[hnew]at h2;cases h2;rw[hold c e2]at h1;exact wh rfl (ne c oc _ _ e1 e3 h1)
  ·rw[hold c e2]at h1;rw[hold c' f2]at h2;exact hr.inj c c' oc oc' s m m' e3 f3 h1 h2
 ·have hne:r≠s:=fun e=>hn (e▸⟨b,o,n,hb,hp⟩)
  rw[hw,zj hne]
 ·obtain⟨c,oc,m,k1,k2⟩:=hi;rcases get' c oc k1 with⟨rfl,rfl⟩|⟨e1,e2,e3⟩
  ·rw[hnew]at k2;cases k2;exact .inl ⟨b,o,n,hb,hp⟩
  ·rw[hold c e2]at k2;exact .inl ⟨c,oc,m,e3,k2⟩
 ·obtain⟨c,m,cs,t,fz,k1,k2,k3⟩:=hl;by_cases e:c=b
  ·subst e;rw[hp]at k2;cases k2;rw[hb]at k1;cases k1;exact wh k3 (hk cs t fz rfl)
  ·have hlc:=hr.lt k1;refine⟨by rw[hw,zj (ne c _ s m e k1 k2)],.inl ⟨c,m,cs,t,fz,?_,by rw[hold c hlc];exact k2,k3⟩⟩;rw[H.BK,H.X6,wc (by omega),H.Cb,wc e];exact k1
end
def Aaw(l:List Nat):List V:=l.map fun n=>.int .u64 (.ofNat n)
def Ga:List (Nat×O):=[(5,.cells (Aaw [1,10,100,1000,10000,100000,1000000,10000000,100000000,1000000000,10000000000,100000000000,1000000000000,10000000000000,100000000000000,1000000000000000,10000000000000000,100000000000000000,1000000000000000000,10000000000000000000]) 322 (0,20))]
mutual
def V.flat:V->Bool
 | .bool _| .int _ _| .str _| .nilp| .nils| .nilm| .nilf| .nili=>true
 | .agg l| .tup l=>V.IL l
 |_=>false
def V.IL:List V->Bool
 |[]=>true
 |v::vs=>v.flat&&V.IL vs
end
mutual
theorem V.C4{p q:Pl}:∀ {v:V} {v':Value},v.flat=true->Ac p v v'->Ac q v v'
 | .bool _,_,_,h| .int _ _,_,_,h| .str _,_,_,h| .nilp,_,_,h| .nils,_,_,h| .nilm,_,_,h| .nilf,_,_,h| .nili,_,_,h=>by simpa [Ac]using h
 | .agg l,_,hf,h=>by
  simp only[Ac]at h ⊢;obtain⟨x,rfl,h1⟩:=h;exact⟨x,rfl,V.Jn (by simpa [V.flat]using hf) h1⟩
 | .tup l,_,hf,h=>by
  simp only[Ac]at h ⊢;obtain⟨x,rfl,h1⟩:=h;exact⟨x,rfl,V.Jn (by simpa [V.flat]using hf) h1⟩
 | .ptr _ _,_,hf,_| .sl _ _ _ _ _,_,hf,_| .map _,_,hf,_| .fn _ _ _,_,hf,_| .yld _,_,hf,_| .iface _ _,_,hf,_=>by simp[V.flat]at hf
theorem V.Jn{p q:Pl}:∀ {v:List V} {v':List Value},V.IL v=true->As p v v'->As q v v'
 |[],_,_,h=>by simpa using h
 |_::_,[],_,h=>by simp at h
 |v::vs,x::xs,hf,h=>by
  simp only[V.IL,zw]at hf;rw[Bg]at h ⊢;exact⟨V.C4 hf.1 h.1,V.Jn hf.2 h.2⟩
end
def osz:O->Nat
 | .cells cs _ _=>cs.length
 |_=>0
def gin(g:Nat):List (Nat×O)->Bool
 |[]=>false
 |(i,_)::l=>bif zt i g then true else gin g l
def zR:List (Nat×O)->PM O
 |[]=>.leaf
 |(i,o)::l=>(zR l).set i (some o)
def Ko:List (Nat×O)->Nat
 |[]=>0
 |(i,_)::l=>bif zu (i+1) (Ko l)then Ko l else i+1
def hG:H:=⟨zR Ga,Ko Ga⟩
def gok:List (Nat×O)->Bool
 |[]=>true
 |(_,.cells cs _ (a,b))::l=>V.IL cs&&zt a 0&&zt b cs.length&&y8 0 b&&gok l
 |_=>false
theorem YB:gok Ga=true:=by kernel_rfl
theorem Xm{g:Nat}:∀ {l:List (Nat×O)},gin g l=true->∃o,(g,o)∈l
 |[],h=>by cases h
 |(i,o)::l,h=>by
  unfold gin at h;cases hb:zt i g with
  |true=>cases Nat.eq_of_beq_eq_true hb;exact⟨o,yp⟩
  |false=>
   rw[hb]at h;obtain⟨o',ho⟩:=Xm h;exact⟨o',yh _ ho⟩
theorem Su:∀ {l:List (Nat×O)},gok l=true->∀x∈l,∃cs t,x.2=.cells cs t (0,cs.length)/\V.IL cs=true/\0<cs.length
 |[],_,x,hx=>by cases hx
 |(i,.cells cs t (a,b))::l,h,x,hx=>by
  simp only[gok,zw]at h;obtain⟨⟨⟨⟨h1,h2⟩,h3⟩,h4⟩,h5⟩:=h;rcases yg.1 hx with rfl|hx
  ·have h2:a=0:=by simpa using h2
   have h3:b=cs.length:=by simpa using h3
   subst h2 h3;exact⟨cs,t,rfl,h1,Nat.lt_of_succ_le (yd h4)⟩
  ·exact Su h5 x hx
theorem KX:∀ {l:List (Nat×O)} {b:Nat} {o:O},(zR l).get b=some o->(b,o)∈l
 |[],b,o,h=>by simp[zR]at h
 |(i,o')::l,b,o,h=>by
  simp only[zR,PM.Db]at h;by_cases e:b=i
  ·subst e;rw[wd rfl]at h;cases h;exact yp
  ·rw[wc e]at h;exact yh _ (KX h)
theorem Yq{n:Nat}:∀ {l:List (Nat×O)},(∀x∈l,x.1<n)->Ko l<=n
 |[],_=>qe _
 |(i,o)::l,h=>by
  have h1:=h (i,o) yp;have h2:=Yq (l:=l) fun x hx=>h x (yh _ hx)
  unfold Ko;cases zu (i+1) (Ko l)<;>simp<;>omega
theorem RW:∀ {l:List (Nat×O)},∀x∈l,x.1<Ko l
 |[],x,hx=>by cases hx
 |(i,o)::l,x,hx=>by
  unfold Ko;rcases yg.1 hx with rfl|hx
  ·cases hb:zu (i+1) (Ko l)with
   |true=>have:=yd hb;simp;omega
   |false=>simp
  ·have:=RW (l:=l) x hx;cases hb:zu (i+1) (Ko l)with
   |true=>simp;exact this
   |false=>
    have:¬(i+1<=Ko l):=fun h=>by rw[ye h]at hb;cases hb
    simp;omega
def Gp(p:Pl):Prop:=∀x∈Ga,p[x.1]?=some (x.1,osz x.2)
def Gh(h:H):Prop:=∀x∈Ga,h.get x.1=some x.2
theorem Gp.app{p:Pl}(h:Gp p)(q:Pl):Gp (p++q):=fun x hx=>by
 have:=h x hx;rw[zi (zf.1 this).1];exact this
theorem Gp.top{p:Pl}(h:Gp p):Ko Ga<=p.length:=Yq fun x hx=>(zf.1 (h x hx)).1
theorem Gp.take{p:Pl}(h:Gp p):Gp (p.take (Ko Ga)):=fun x hx=>by
 rw[zk (RW x hx)];exact h x hx
theorem Ee.flat{p q:Pl}{cs:List V}{vs:List Value}(hf:V.IL cs=true)(h:Ee p cs vs):Ee q cs vs:=
 ⟨h.1,fun i d v h1 h2 h3=>V.C4 (by
  have:=List.mem_of_getElem? h1;clear h h1 h2 h3;induction cs with
  |nil=>cases this
  |cons a cs ih=>
   simp only[V.IL,zw]at hf;rcases yg.1 this with rfl|h
   ·exact hf.1
   ·exact ih hf.2 h) (h.2 i d v h1 h2 h3)⟩
theorem uM{p:Pl}{h:H}{w:World}(hr:R p h w)(hp:Gp p)(hh:Gh h):R (p.take (Ko Ga)) hG w:=by
 refine⟨by rw[yw,qc hp.top];rfl,fun b o hb=>?_,fun b b' o o' r n n' hb hb' h1 h2=>?_⟩
 ·have hm:=KX hb;obtain⟨cs,t,e,hf,hl⟩:=Su YB _ hm;obtain⟨r,n,x,h1,h2,h3⟩:=hr.obj b o (hh _ hm);refine⟨r,n,x,by rw[zk (RW _ hm)];exact h1,h2,?_⟩;simp only at e;subst e;simp only[Hg]at h3 ⊢;obtain⟨c,fz',k1,k2,k3,k4,k5⟩:=h3;exact⟨c,fz',k1,k2,k3,k4.flat hf,k5⟩
 ·have m1:=KX hb;have m2:=KX hb';have e1:=hp.take _ m1;have e2:=hp.take _ m2;simp only at e1 e2;rw[e1]at h1;rw[e2]at h2;cases h1;cases h2;rfl
theorem Ext.Ga{p:Pl}{w w':World}{p':Pl}{h':H}(hp:Gp p)(h2:Ext p hG w p' h' w')(r:Nat)(hr:r<w.heap.size):w'.heap[r]?=w.heap[r]?:=by
 by_cases hi:Im p hG r
 ·obtain⟨b,o,n,h3,h4⟩:=hi;have hm:=KX h3;obtain⟨cs,t,e,hf,hl⟩:=Su YB _ hm;simp only at e;subst e;have:=hp _ hm;simp only at this;rw[this]at h4;cases h4;exact(h2.lock _ hr ⟨_,_,_,_,_,h3,this,rfl,zg _,hl⟩).1
 ·exact h2.same r hr hi
section
variable {p:Pl}
def V.cells:V->List V
 | .agg cs=>cs
 |v=>[v]
theorem Ac.cells{d:V}{v:Value}(hv:Ac p d v):As p d.cells v.cells.toList:=by
 cases d<;>simp only[V.cells]<;>simp only[Ac]at hv
 case agg cs=>obtain⟨x,rfl,h1⟩:=hv;exact h1
 case bool=>subst hv;simp[zl,Ac]
 case int=>subst hv;simp[zl,Ac]
 case str=>subst hv;simp[zl,Ac]
 case nilp=>subst hv;simp[zl,Ac]
 case nils=>subst hv;simp[zl,Ac]
 case nilm=>subst hv;simp[zl,Ac]
 case nilf=>subst hv;simp[zl,Ac]
 case nili=>subst hv;simp[zl,Ac]
 case ptr=>obtain⟨r,n,h1,rfl⟩:=hv;simp[zl,Ac,h1]
 case esl=>obtain⟨a,c,rfl⟩:=hv;simp[zl,Ac]
 case es0=>obtain⟨a,rfl⟩:=hv;simp[zl,Ac]
 case sl=>obtain⟨r,n,c,h1,rfl,h2⟩:=hv;simp only[zl,Bg,GV,wn];simp only[Ac];exact⟨r,n,c,h1,rfl,h2⟩
 case map=>obtain⟨r,n,h1,rfl⟩:=hv;simp[zl,Ac,h1]
 case yld=>obtain⟨r,n,h1,rfl⟩:=hv;simp[zl,Ac,h1]
 case fn=>obtain⟨x,y,rfl,h1,h2⟩:=hv;simp only[zl,Bg,GV,wn];simp only[Ac];exact⟨x,y,rfl,h1,h2⟩
 case iface=>obtain⟨y,rfl,h1⟩:=hv;simp[zl,Ac];exact h1
 case tup=>obtain⟨x,rfl,h1⟩:=hv;simp[zl,Ac];exact h1
end
structure TI where
 size:Nat
 bytes:Nat
 zv:V
def TI.zero(i:TI):List V:=i.zv.cells
inductive FK where
 |bool
 |str
 |int (k:IntKind)
def FK.ok:FK->V->Bool
 | .bool,.bool _=>true
 | .str,.str _=>true
 | .int k,.int k' _=>k==k'
 |_,_=>false
def fit:List FK->List V->Bool
 |[],[]=>true
 |k::ks,v::vs=>bif k.ok v then fit ks vs else false
 |_,_=>false
structure B3 where
 und:TypeId->Option TypeDesc
 inf:TypeId->Option TI
 flat:TypeId->Option (List FK)
 mth:TypeId->String->Option FuncId
def DK:V->V->Option Bool
 | .bool a,.bool b=>some (a==b)
 | .int k a,.int k' b=>if k=k' then some (a==b)else none
 | .str a,.str b=>some (a==b)
 |_,_=>none
def BU:List V->List V->Option Bool
 |[],[]=>some true
 |a::AcJ,b::bs=>
  match DK a b with
  |some true=>BU AcJ bs
  |some false=>if AcJ.length=bs.length then some false else none
  |none=>none
 |_,_=>none
structure B3.Ok(T:B3)(P:Program):Prop where
 und:∀t d,T.und t=some d->P.underlying t=some d
 inf:∀t i,T.inf t=some i->∃j v,P.info? t=some j/\j.size=i.size/\j.bytes=i.bytes/\j.zero=some v/\∀p,Ac p i.zv v
 flat:∀t ks,T.flat t=some ks->∀(p:Pl) (x y:List V) (x' y':Array Value) (r:Bool) (w:World),fit ks x=true->fit ks y=true->As p x x'.toList->As p y y'.toList->BU x y=some r->
  (qj t (.agg x') (.agg y')).run P w=.ok r w
 guard:∀t ks,T.flat t=some ks->P.eqGuardType P.depth t=false
 key:∀t ks,T.flat t=some ks->∀(p:Pl) (x:List V) (x':Array Value) (b:Bool) (w:World),fit ks x=true->As p x x'.toList->(Instr.checkKey b 10000 t (.agg x')).run P w=.ok () w
 kind:∀t ks,T.flat t=some ks->∃fs,T.und t=some (.struct fs)
 mth:∀t name f,T.mth t name=some f->∃j m d,P.info? t=some j/\j.methods.find? (·.name==name)=some m/\m.path= #[]/\m.func=some (f,false)/\P.underlying t=some d/\∀e,d≠ .pointer e
section
variable {T:B3}{P:Program}{p:Pl}{h:H}{w:World}
theorem Ax(hT:T.Ok P){t:TypeId}{d:TypeDesc}(ht:T.und t=some d):(underlying t).run P w=.ok d w:=by
 unfold underlying;simp[hT.und t d ht]
theorem By(hT:T.Ok P){t:TypeId}{i:TI}(ht:T.inf t=some i):(sizeOf t).run P w=.ok i.size w:=by
 obtain⟨j,v,h1,h2,_⟩:=hT.inf t i ht;unfold sizeOf typeInfo;simp[h1,h2]
theorem Pq(hT:T.Ok P){t:TypeId}{i:TI}(ht:T.inf t=some i):∃j,(∀w,(typeInfo t).run P w=.ok j w)/\j.bytes=i.bytes/\j.size=i.size:=by
 obtain⟨j,v,h1,h2,h3,_⟩:=hT.inf t i ht;exact⟨j,fun w=>by unfold typeInfo;simp[h1],h3,h2⟩
theorem Er(hT:T.Ok P){t:TypeId}{i:TI}(ht:T.inf t=some i):∃v,(∀w,(zeroValue t).run P w=.ok v w)/\∀p,As p i.zero v.cells.toList:=by
 obtain⟨j,v,h1,h2,h3,h4,h5⟩:=hT.inf t i ht;exact⟨v,fun w=>by unfold zeroValue typeInfo;simp[h1,h4],fun p=>(h5 p).cells⟩
theorem uX(hT:T.Ok P){t:TypeId}{i:TI}(ht:T.inf t=some i):∃v,(∀w,(zeroValue t).run P w=.ok v w)/\∀p,Ac p i.zv v:=by
 obtain⟨j,v,h1,h2,h3,h4,h5⟩:=hT.inf t i ht;exact⟨v,fun w=>by unfold zeroValue typeInfo;simp[h1,h4],h5⟩
def DW:TypeDesc->Bool
 | .struct _| .array _ _=>true
 |_=>false
theorem Q5(hT:T.Ok P){t:TypeId}{d:TypeDesc}(ht:T.und t=some d):(isAgg t).run P w=.ok (DW d) w:=by
 unfold isAgg;rw[zd,Ax hT ht];cases d<;>simp[DW]
def V.one:V->Bool
 | .agg _| .tup _| .junk=>false
 |_=>true
theorem V.Mj{d:V}(h:d.one=true):d.ok=true:=by cases d<;>first|rfl|cases h
theorem Ac.one{d:V}{v:Value}(hv:Ac p d v)(h1:d.one=true):v.oneCell'=true:=by
 cases d<;>simp only[V.one]at h1<;>simp only[Ac]at hv
 case agg|tup=>cases h1
 case ptr=>obtain⟨r,n,_,rfl⟩:=hv;rfl
 case esl=>obtain⟨a,c,rfl⟩:=hv;rfl
 case es0=>obtain⟨a,rfl⟩:=hv;rfl
 case sl=>obtain⟨r,n,c,_,rfl,_⟩:=hv;rfl
 case map=>obtain⟨r,n,_,rfl⟩:=hv;rfl
 case yld=>obtain⟨r,n,_,rfl⟩:=hv;rfl
 case fn=>obtain⟨x,y,rfl,_,_⟩:=hv;rfl
 case iface=>obtain⟨y,rfl,_⟩:=hv;rfl
 all_goals subst hv;rfl
@[simp] theorem Addr.Hm(r off n:Nat):Addr.add ⟨r,off,none⟩ n=⟨r,off+n,none⟩:=by
 unfold Addr.add;split<;>simp_all
def yK(h:H)(b off n:Nat):Option (List V):=
 match h.get b with
 |some (.cells cs _ _)=>if off+n<=cs.length/\((cs.drop off).take n).all V.ok=true then some ((cs.drop off).take n)else none
 |_=>none
def rd(h:H)(b off n:Nat):Option (List V):=
 match h.get b with
 |some (.cells cs _ _)=>bif zu (qf off n) (Ez cs)&&Lx V.ok (XY n (JF off cs))then some (XY n (JF off cs))else none
 |_=>none
theorem Yn:rd=yK:=by
 funext h b off n
 unfold rd yK;split
 ·rename_i cs _ _ _;rw[CZ,Oe,OJ,Fo];by_cases e:off+n<=cs.length
  ·rw[show zu (qf off n) cs.length=true from ye e];cases e2:((cs.drop off).take n).all V.ok with
   |true=>rw[wd ⟨e,rfl⟩];rfl
   |false=>rw[wc (by simp)];rfl
  ·rw[wc (fun h=>e h.1),show zu (qf off n) cs.length=false from by cases hc:zu (qf off n) cs.length with|false=>rfl|true=>exact wh (yd hc) e];rfl
 ·rfl
theorem cell_of(hr:R p h w){b:Nat}{cs:List V}{t:TypeId}{fz:Nat×Nat}(hb:h.get b=some (.cells cs t fz)):
  ∃r n c fz',p[b]?=some (r,n)/\w.heap[r]?=some (.cells c t fz')/\c.size=n/\cs.length<=n/\Ee p cs (c.toList.take cs.length)/\(∀i,w.cell? ⟨r,i,none⟩=c[i]?)/\
   ∀i,i<n->fz'.1<=i->i<fz'.2->fz.1<=i/\i<fz.2:=by
 obtain⟨r,n,x,h1,h2,c,fz',h3,h4,h5,h6,h7⟩:=hr.obj b _ hb;subst h3;exact⟨r,n,c,fz',h1,h2,h4,h5,h6,fun i=>by simp[World.cell?,h2],h7⟩
theorem JG{a:Addr}{v:Value}(hc:w.cell? a=some v):(load a).run P w=.ok v w:=by simp[hc]
theorem run_loadCellsFrom{a:Addr}:∀(n i:Nat) (acc:Array Value) (vs:List Value),vs.length=n->(∀j v,vs[j]?=some v->w.cell? (a.add (i+j))=some v)->
  (loadCellsFrom a i n acc).run P w=.ok (acc++vs.toArray) w
 |0,i,acc,vs,hl,_=>by
  have:vs=[]:=yy.1 hl;subst this;simp[loadCellsFrom]
 |n+1,i,acc,[],hl,_=>by simp at hl
 |n+1,i,acc,v::vs,hl,hc=>by
  unfold loadCellsFrom;rw[zd,JG (a:=a.add i) (by have:=hc 0 v rfl;simpa using this)];simp only[zc];rw[run_loadCellsFrom n (i+1) (acc.push v) vs (by simpa using hl) (fun j u hj=>by
   have:=hc (j+1) u (by simpa using hj);rwa [show i+(j+1)=i+1+j from by omega]at this)]
  simp
theorem run_loadCells(hr:R p h w){b off n:Nat}{xs:List V}(hx:rd h b off n=some xs):
  ∃r m vs,p[b]?=some (r,m)/\(loadCells ⟨r,off,none⟩ n).run P w=.ok vs.toArray w/\As p xs vs/\vs.length=n/\∀i v,vs[i]?=some v->w.cell? ⟨r,off+i,none⟩=some v:=by
 rw[Yn]at hx;unfold yK at hx;split at hx
 case h_2=>cases hx
 rename_i cs t fz hb;split at hx
 case isFalse=>cases hx
 rename_i hle;obtain⟨hle,hok⟩:=hle;cases hx;obtain⟨r,m,c,_,h1,h2,h3,h4,h5,h6,_⟩:=cell_of hr hb;have hvs:As p ((cs.drop off).take n) ((c.toList.take cs.length).drop off|>.take n):=((h5.drop off).take n).NK fun d hd=>List.all_eq_true.1 hok d hd
 have hlen:((c.toList.take cs.length).drop off|>.take n).length=n:=by simp;omega
 have hcell:∀i v,((c.toList.take cs.length).drop off|>.take n)[i]?=some v->w.cell? ⟨r,off+i,none⟩=some v:=by
  intro i v hv;have hi:i<n:=by have:=(zf.1 hv).1;omega
  rw[h6];rw[zk hi,yo,zk (by omega)]at hv;simpa using hv
 refine⟨r,m,_,h1,?_,hvs,hlen,hcell⟩;unfold loadCells;rw[run_loadCellsFrom n 0 #[] _ hlen (fun j v hv=>by simpa using hcell j v hv)];simp
def E5(T:B3)(h:H)(t:TypeId)(a:V):Option V:=
 match a,T.und t,T.inf t with
 | .ptr b off,some d,some i=>
  bif DW d then(rd h b off i.size).map .agg
  else match rd h b off 1 with
   |some (v::_)=>some v
   |_=>none
 |_,_,_=>none
theorem UF(hT:T.Ok P)(hr:R p h w){t:TypeId}{a v:V}{a':Value}(ha:Ac p a a')(hd:E5 T h t a=some v):
  ∃v',(Instr.loadAt t a').run P w=.ok v' w/\Ac p v v':=by
 unfold E5 at hd;split at hd
 case h_2=>cases hd
 rename_i b off d i hu hi;simp only[Ac]at ha;obtain⟨r,n,hp,rfl⟩:=ha;unfold Instr.loadAt yb;simp only[zd,ze,zc];unfold loadVar;simp only[zd];rw[Q5 hT hu];simp only[zc];cases hag:DW d with
 |true=>
  simp only[hag,we]at hd;rw[zn]at hd;obtain⟨xs,hx,rfl⟩:=hd;obtain⟨r',m,vs,h1,h2,h3,_⟩:=run_loadCells (P:=P) hr hx;rw[hp]at h1;cases h1;simp only[wk,zd,By hT hi,zc,h2,ze];exact⟨_,rfl,by simp only[Ac];exact⟨_,rfl,by simpa using h3⟩⟩
 |false=>
  simp only[hag,wg]at hd;split at hd
  case h_2=>cases hd
  rename_i v0 tl hx;cases hd;obtain⟨r',m,vs,h1,h2,h3,h4,h5⟩:=run_loadCells (P:=P) hr hx;rw[hp]at h1;cases h1;cases vs with
  |nil=>simp at h4
  |cons u us=>
   simp at h3;simp only[zm,ve];have:=h5 0 u rfl;rw[JG (by simpa using this)];exact⟨u,rfl,h3.1⟩
def GN:List V->Nat->List V->List V
 |cs,_,[]=>cs
 |cs,off,v::vs=>GN (cs.set off v) (off+1) vs
@[simp] theorem Gy:∀(vs:List V) (cs:List V) (off:Nat),(GN cs off vs).length=cs.length
 |[],_,_=>rfl
 |v::vs,cs,off=>by simp[GN,Gy vs]
def clear(fz:Nat×Nat)(off n:Nat):Bool:=zu fz.2 off||zu (off+n) fz.1||zu fz.2 fz.1
def wr0(h:H)(b off:Nat)(vs:List V):Option H:=
 match h.get b with
 |some (.cells cs t fz)=>bif zu (off+vs.length) cs.length&&clear fz off vs.length&&vs.all V.one then some (h.put b (.cells (GN cs off vs) t fz))else none
 |_=>none
theorem Mw(a:V):∀(vs cs:List V) (off:Nat),GN (a::cs) (off+1) vs=a::GN cs off vs
 |[],cs,off=>rfl
 |v::vs,cs,off=>by
  show GN ((a::cs).set (off+1) v) (off+1+1) vs=a::GN (cs.set off v) (off+1) vs;rw[List.set_cons_succ,Mw a vs]
theorem OX:∀(vs:List V) (off:Nat),GN [] off vs=[]
 |[],_=>rfl
 |v::vs,off=>by show GN ([].set off v) (off+1) vs=[];rw[List.set_nil,OX vs]
theorem UT:∀(vs cs:List V),JK vs cs=GN cs 0 vs
 |[],cs=>rfl
 |v::vs,[]=>(OX _ _).symm
 |v::vs,c::cs=>by
  show v::JK vs cs=GN ((c::cs).set 0 v) (0+1) vs;rw[List.set_cons_zero,Mw,UT vs cs]
theorem Jd(vs:List V):∀(off:Nat) (cs:List V),Cv off vs cs=GN cs off vs
 |0,cs=>UT vs cs
 |off+1,[]=>(OX _ _).symm
 |off+1,c::cs=>by rw[Mw];exact wi (c:: ·) (Jd vs off cs)
def wr(h:H)(b off:Nat)(vs:List V):Option H:=
 match h.get b with
 |some (.cells cs t fz)=>bif zu (qf off (Ez vs)) (Ez cs)&&clear fz off (Ez vs)&&Lx V.one vs then some (h.put b (.cells (Cv off vs cs) t fz))else none
 |_=>none
theorem yZ:wr=wr0:=by
 funext h b off vs
 unfold wr wr0;split
 ·rw[CZ,CZ,Fo,Jd];rfl
 ·rfl
theorem Ln(a:Array Obj)(i:Nat)(x:Obj)(j:Nat):(a.setIfInBounds i x)[j]?=if i=j/\j<a.size then some x else a[j]?:=by
 by_cases e:i=j
 ·subst e;by_cases h:i<a.size
  ·simp[h]
  ·simp[h]
 ·rw[zj e];simp[e]
theorem cY{a:Array Obj}{i:Nat}{x:Obj}(h:a[i]?=some x):a.setIfInBounds i x=a:=by
 apply yq;intro j;rw[Ln];split
 ·rename_i e;rw[<-e.1,h]
 ·rfl
theorem set_set(a:Array Obj)(i:Nat)(x y:Obj):(a.setIfInBounds i x).setIfInBounds i y=a.setIfInBounds i y:=by
 apply yq;intro j;simp only[Ln,Array.size_setIfInBounds];split<;>simp_all
theorem PJ{a:Array Obj}{i:Nat}{f:Obj->Obj}{x:Obj}(h:a[i]?=some x):a.modify i f=a.setIfInBounds i (f x):=by
 apply yq;intro j;rw[Ln,Array.getElem?_modify];by_cases e:i=j
 ·subst e;have:=(zx.1 h).1;rw[wd rfl,h,wd ⟨rfl,this⟩];rfl
 ·simp[e]
theorem setCell_eq{w:World}{r off:Nat}{c:Array Value}{t:TypeId}{fz:Nat×Nat}(v:Value)(hb:w.heap[r]?=some (.cells c t fz)):
  w.setCell ⟨r,off,none⟩ v={ w with heap:=w.heap.setIfInBounds r (.cells (c.setIfInBounds off v) t fz) }:=by
 unfold World.setCell;rw[PJ hb];rfl
theorem FR{r:Nat}{t:TypeId}{fz:Nat×Nat}:∀(vs:List Value) (w:World) (c:Array Value) (off i:Nat),w.heap[r]?=some (.cells c t fz)->off+i+vs.length<=c.size->
  (∀v∈vs,v.oneCell'=true)->(∀j,i<=j->j<i+vs.length->¬(fz.1<=off+j/\off+j<fz.2))->
  ∃c':Array Value,(storeCells ⟨r,off,none⟩ vs i).run P w=.ok () { w with heap:=w.heap.setIfInBounds r (.cells c' t fz) }/\c'.size=c.size/\
   c'.toList=(List.range c.size).map (fun j=>if off+i<=j/\j<off+i+vs.length then vs.getD (j-(off+i)) default else c.toList.getD j default)
 |[],w,c,off,i,hb,_,_,_=>by
  refine⟨c,?_,rfl,?_⟩
  ·simp only[storeCells,ze,cY hb]
  ·apply List.ext_getElem (by simp);intro j h1 h2;have hj:j<c.size:=by simpa using h1
   simp only[List.getElem_map,List.getElem_range,List.length_nil,qk];rw[wc (by omega)];simp[yf,hj]
 |v::vs,w,c,off,i,hb,hle,hone,hfz=>by
  simp at hle;have hcell:w.cell? ⟨r,off+i,none⟩=some (c[off+i]'(by omega)):=by simp[World.cell?,hb]
  have hfr:w.frozen? ⟨r,off+i,none⟩=false:=by
   simp only[World.frozen?,hb];have:=hfz i (zg _) (by simp);rw[Bool.eq_false_iff];intro hh;apply this;simpa using hh
  have hset:=setCell_eq (off:=off+i) v hb;have hlt:=(zx.1 hb).1;obtain⟨c',h1,h2,h3⟩:=FR vs { w with heap:=w.heap.setIfInBounds r (.cells (c.setIfInBounds (off+i) v) t fz) } (c.setIfInBounds (off+i) v) off (i+1)
   (by rw[Ln,wd ⟨rfl,hlt⟩]) (by simp;omega) (fun u hu=>hone u (by simp[hu])) (fun j hj1 hj2=>hfz j (by omega) (by simp;omega))
  refine⟨c',?_,by simpa using h2,?_⟩
  ·unfold storeCells;rw[zd,Addr.Hm,run_store P w _ v .plain (hone v (by simp))];simp only[hcell,hfr,zm,ve,zc,hset,h1,set_set]
  ·rw[h3];apply List.ext_getElem (by simp);intro j g1 g2;simp at g1;simp only[List.getElem_map,List.getElem_range,yv];by_cases e:j=off+i
   ·subst e;rw[wc (by omega),wd (by omega)];simp[yf,g1]
   ·by_cases e2:off+(i+1)<=j/\j<off+(i+1)+vs.length
    ·rw[wd e2,wd (by omega)];have:j-(off+i)=(j-(off+(i+1)))+1:=by omega
     rw[this];simp[yf]
    ·rw[wc e2,wc (by omega)];simp only[yf,Array.toList_setIfInBounds];rw[List.getElem?_set_ne (fun x=>e x.symm)]
theorem Qc:∀(vs cs:List V) (off j:Nat),off+vs.length<=cs.length->(GN cs off vs)[j]?=if off<=j/\j<off+vs.length then vs[j-off]? else cs[j]?
 |[],cs,off,j,_=>by rw[wc (by simp only[List.length_nil];omega)];rfl
 |v::vs,cs,off,j,hle=>by
  simp at hle;unfold GN;rw[Qc vs (cs.set off v) (off+1) j (by simp;omega)];by_cases e:j=off
  ·subst e;rw[wc (by omega),wd (by simp)];have:j<cs.length:=by omega
   simp[this]
  ·by_cases e2:off+1<=j/\j<off+1+vs.length
   ·rw[wd e2,wd (by simp;omega)];have:j-off=(j-(off+1))+1:=by omega
    rw[this];simp
   ·rw[wc e2,wc (by simp;omega),List.getElem?_set_ne (fun x=>e x.symm)]
theorem S5(hr:R p h w){b off:Nat}{xs:List V}{vs:List Value}(hx:As p xs vs){h':H}(hw:wr h b off xs=some h'):
  ∃r m w',p[b]?=some (r,m)/\(storeCells ⟨r,off,none⟩ vs).run P w=.ok () w'/\Ext p h w p h' w':=by
 rw[yZ]at hw;unfold wr0 at hw;split at hw
 case h_2=>cases hw
 rename_i cs t fz hb;cases hc:(zu (off+xs.length) cs.length&&clear fz off xs.length&&xs.all V.one)with
 |false=>simp[hc]at hw
 |true=>
  simp only[hc,we,zh]at hw;subst hw;simp only[zw,yr,List.all_eq_true]at hc;obtain⟨⟨c1,c2⟩,c3⟩:=hc;obtain⟨r,m,c,fz',h1,h2,h3,h4,h5,h6,h7⟩:=cell_of hr hb;have hl:=hx.length;have hone:∀v∈vs,v.oneCell'=true:=by
   intro v hv;obtain⟨i,hi⟩:=List.mem_iff_getElem?.1 hv;have hi':=(zf.1 hi).1;obtain⟨u,hu1,hu2⟩:=hx.get (i:=i) (d:=xs[i]'(by omega)) (by simp);rw[hi]at hu1;cases hu1;exact hu2.one (c3 _ (List.getElem_mem _))
  have hfz:∀j,0<=j->j<0+vs.length->¬(fz'.1<=off+j/\off+j<fz'.2):=by
   rintro j _ hj ⟨k1,k2⟩;have:=h7 (off+j) (by omega) k1 k2;simp only[clear,Bool.or_eq_true,yr]at c2;omega
  obtain⟨c',g1,g2,g3⟩:=FR (P:=P) vs w c off 0 h2 (by omega) hone hfz;refine⟨r,m,_,h1,g1,Ext.put hr hb h1 ?_ rfl rfl rfl rfl (fun cs1 t1 fz1 e1 hlk=>?_)⟩
  case refine_2=>
   cases e1;refine⟨?_,_,_,rfl⟩;obtain⟨l1,l2,l3⟩:=hlk;simp only[clear,Bool.or_eq_true,yr]at c2;have hx0:xs.length=0:=by omega
   have hv0:vs=[]:=yy.1 (by omega);subst hv0;have hcc:c'=c:=by
    apply Array.ext';apply List.ext_getElem?;intro j;rw[g3];by_cases hj:j<c.size
    ·rw[yc,z8 hj];simp only[yi];rw[wc (by simp)];simp[yf,hj]
    ·rw[List.getElem?_eq_none (by simp;omega),List.getElem?_eq_none (by simp;omega)]
   rw[hcc];exact h2
  refine⟨c',fz',rfl,by omega,by simpa using h4,?_,h7⟩;rw[Gy];refine⟨by simp;omega,?_⟩;intro i d v hd hv hok;rw[Qc xs cs off i (by omega)]at hd;have hi:i<cs.length:=by
   have:=(zf.1 hv).1;simp at this;omega
  rw[zk hi,g3]at hv;simp only[qk,yc]at hv;rw[z8 (by omega)]at hv;simp only[yi,zh]at hv;by_cases e:off<=i/\i<off+xs.length
  ·rw[wd e]at hd;rw[wd (by omega)]at hv;obtain⟨u,hu1,hu2⟩:=hx.get hd;simp only[yf,hu1,yz]at hv;exact hv▸hu2
  ·rw[wc e]at hd;rw[wc (by omega)]at hv;obtain⟨u,hu1,hu2⟩:=h5.get hd hok;rw[zk hi]at hu1;simp only[yf,hu1,yz]at hv;exact hv▸hu2
def Hr(T:B3)(h:H)(t:TypeId)(a x:V):Option H:=
 match a,T.inf t with
 | .ptr b off,some i=>bif zt x.cells.length i.size then wr h b off x.cells else none
 |_,_=>none
theorem Y4(hT:T.Ok P)(hr:R p h w){t:TypeId}{a x:V}{a' x':Value}(ha:Ac p a a')(hx:Ac p x x'){h':H}(hd:Hr T h t a x=some h'):
  ∃w',(Instr.storeAt t a' x').run P w=.ok () w'/\Ext p h w p h' w':=by
 unfold Hr at hd;split at hd
 case h_2=>cases hd
 rename_i b off i hi;rw[Br]at hd;by_cases e:x.cells.length=i.size
 ·simp only[e,decide_true,we]at hd;simp only[Ac]at ha;obtain⟨r,n,hp,rfl⟩:=ha;obtain⟨r',m,w',h1,h2,h3⟩:=S5 (P:=P) hr hx.cells hd;rw[hp]at h1;cases h1;refine⟨w',?_,h3⟩;have hl:=hx.cells.length;unfold Instr.storeAt yb;simp only[zd,ze,zc];unfold storeVar;have:x'.cells.size=i.size:=by rw[<-e,hl];simp
  simp only[zd,By hT hi,zc,this,wm,not_true_eq_false,ve];exact h2
 ·simp[e]at hd
theorem Cq(t:TypeId)(c:Array Value):(newRow t c).run P w=.ok ⟨w.heap.size,0,none⟩ { w with heap:=w.heap.push (.cells c t) }:=by
 unfold newRow;simp
def Ii(h:H)(t:TypeId)(cs:List V):H:=h.push (.cells cs t (0,0))
theorem NG(hr:R p h w)(t:TypeId){xs:List V}{c:Array Value}(hx:As p xs c.toList):
  ∃n,Ext p h w (p++[(w.heap.size,n)]) (Ii h t xs) { w with heap:=w.heap.push (.cells c t) }/\(p++[(w.heap.size,n)])[h.nx]?=some (w.heap.size,n)/\n=c.size:=by
 refine⟨c.size,Ext.push hr ⟨c,(0,0),rfl,rfl,by have:=hx.length;simp at this;omega,?_,fun i _ h1 h2=>⟨h1,h2⟩⟩,by rw[<-hr.len];simp,rfl⟩;have:=hx.length;rw[List.take_of_length_le (by simp at this ⊢;omega)];exact hx.toC
def GJ(T:B3)(h:H)(t:TypeId):Option (V×H):=(T.inf t).map fun i=>(.ptr h.nx 0,Ii h t i.zero)
theorem Zy(hT:T.Ok P)(hr:R p h w){t:TypeId}{v:V}{h':H}(hd:GJ T h t=some (v,h')):
  ∃v' p' w',(Instr.alloc t true (.tuple #[])).run P w=.ok v' w'/\Ac p' v v'/\Ext p h w p' h' w':=by
 unfold GJ at hd;rw[zn]at hd;obtain⟨i,hi,he⟩:=hd;cases he;obtain⟨z,hz,hzr⟩:=Er hT hi;obtain⟨n,he,hp,_⟩:=NG hr t (hzr p);refine⟨.pointer (some ⟨w.heap.size,0,none⟩),_,_,?_,?_,he⟩
 ·unfold Instr.alloc;simp only[zd,hz,zc];unfold newVar;simp only[Cq,zc,ze]
 ·simp only[Ac];exact⟨_,_,hp,rfl⟩
def ZK(h:H)(t:TypeId)(x:V):V×H:=(.ptr h.nx 0,Ii h t x.cells)
theorem lL(hr:R p h w){t:TypeId}{x:V}{x':Value}(hx:Ac p x x'):
  ∃v' p' w',(Instr.box t x').run P w=.ok v' w'/\Ac p' (ZK h t x).1 v'/\Ext p h w p' (ZK h t x).2 w':=by
 obtain⟨n,he,hp,_⟩:=NG hr t hx.cells;refine⟨.pointer (some ⟨w.heap.size,0,none⟩),_,_,?_,?_,he⟩
 ·unfold Instr.box newVar;simp only[zd,Cq,zc,ze]
 ·simp only[ZK,Ac];exact⟨_,_,hp,rfl⟩
def T6(op:BinOp)(x y:List UInt8):Option V:=
 match op with
 | .add=>if x.length+y.length<=4611686018427387904 then some (.str (x++y))else none
 | .eql=>some (.bool (x==y))
 | .neq=>some (.bool !(x==y))
 | .lss=>some (.bool (y9 x y))
 | .leq=>some (.bool (y9 x y||x==y))
 | .gtr=>some (.bool !(y9 x y||x==y))
 | .geq=>some (.bool !y9 x y)
 |_=>none
theorem FN(s:List UInt8):(bytesOf s).toList=s:=ByteArray.toList_mk s
theorem BF(s:List UInt8):(bytesOf s).size=s.length:=by simp[bytesOf,ByteArray.size]
theorem PU(x y:List UInt8):bytesOf x++bytesOf y=bytesOf (x++y):=by
 apply qg;simp[bytesOf]
theorem lJ{op:BinOp}{x y:List UInt8}{v:V}(hd:T6 op x y=some v):
  ∃v',(Op.stringOp op (bytesOf x) (bytesOf y)).run P w=.ok v' w/\Ac p v v':=by
 unfold Op.stringOp;simp only[FN,BF];cases op<;>simp only[T6]at hd
 case add=>
  split at hd
  ·cases hd;rename_i hle;rw[wc (by simp[IntKind.max,IntKind.signed,IntKind.bits];omega)];exact⟨_,ze ..,by simp[Ac,PU]⟩
  ·cases hd
 all_goals first
  |(cases hd;done)
  |(cases hd;exact⟨_,ze ..,by simp[Ac]⟩)
def Pw(op:BinOp)(k:IntKind)(a b:Int):Option V:=
 match op with
 | .add=>some (.int k (k.wrap (a+b)))
 | .sub=>some (.int k (k.wrap (a-b)))
 | .mul=>some (.int k (k.wrap (a*b)))
 | .quo=>if b=0 then none else some (.int k (k.wrap (a.tdiv b)))
 | .rem=>if b=0 then none else some (.int k (a.tmod b))
 | .and=>some (.int k (k.wrap (zz k.bits a&&&zz k.bits b).toNat))
 | .or=>some (.int k (k.wrap (zz k.bits a|||zz k.bits b).toNat))
 | .xor=>some (.int k (k.wrap (zz k.bits a^^^zz k.bits b).toNat))
 | .andNot=>some (.int k (k.wrap (zz k.bits a&&& ~~~zz k.bits b).toNat))
 | .eql=>some (.bool (a==b))
 | .neq=>some (.bool (a !=b))
 | .lss=>some (.bool (a<b))
 | .leq=>some (.bool (a<=b))
 | .gtr=>some (.bool (a>b))
 | .geq=>some (.bool (a>=b))
 |_=>none
def ZU(op:BinOp)(k:IntKind)(a b:Int):Option V:=
 if b<0 then none else
 match op with
 | .shl=>some (.int k (k.wrap (a*2^(min b.toNat k.bits))))
 | .shr=>some (.int k (a.fdiv (2^(min b.toNat k.bits))))
 |_=>none
def MT(ks:Option (List FK))(xs ys:List V):Option Bool:=
 match ks with
 |some ks=>bif fit ks xs&&fit ks ys then BU xs ys else none
 |none=>none
theorem HU{ks:Option (List FK)}{xs ys:List V}{r:Bool}(h:MT ks xs ys=some r):∃l,ks=some l/\fit l xs=true/\fit l ys=true/\BU xs ys=some r:=by
 unfold MT at h;split at h
 case h_2=>cases h
 rename_i l;cases hf:(fit l xs&&fit l ys)with
 |false=>simp[hf]at h
 |true=>simp only[hf,we]at h;simp only[zw]at hf;exact⟨l,rfl,hf.1,hf.2,h⟩
def Bx(T:B3)(t:TypeId)(x y:V):Option Bool:=
 match T.und t,x,y with
 |some .bool,.bool a,.bool b=>some (a==b)
 |some (.pointer _),.nilp,y=>match y with| .nilp=>some true| .ptr .. =>some false|_=>none
 |some (.pointer _),.ptr ..,.nilp=>some false
 |some (.pointer e),.ptr a i,.ptr b j=>if a=b then match T.inf e with|some ti=>if ti.size≠0 then some (i==j)else none|_=>none else none
 |some (.interface _),.iface ..,.nili=>some false
 |some (.interface _),.nili,.iface .. =>some false
 |some (.slice _),.nils,y=>match y with| .nils=>some true| .sl .. =>some false| .esl=>some false| .es0=>some false|_=>none
 |some (.slice _),.sl ..,.nils=>some false
 |some (.slice _),.esl,.nils=>some false
 |some (.slice _),.es0,.nils=>some false
 |some (.map _ _),.nilm,y=>match y with| .nilm=>some true| .map .. =>some false|_=>none
 |some (.map _ _),.map ..,.nilm=>some false
 |some (.func ..),.nilf,.nilf=>some true
 |some (.func ..),.fn ..,.nilf=>some false
 |some (.func ..),.nilf,.fn .. =>some false
 |_,.agg xs,.agg ys=>MT (T.flat t) xs ys
 |_,_,_=>none
def LQ(T:B3)(op:BinOp)(t:TypeId)(x y:V):Option V:=
 match op,x,y with
 | .shl,.int k a,.int _ b=>ZU .shl k a b
 | .shr,.int k a,.int _ b=>ZU .shr k a b
 |op,.int k a,.int k' b=>if k=k' then Pw op k a b else none
 |op,.str a,.str b=>T6 op a b
 | .eql,x,y=>(Bx T t x y).map fun b=>.bool b
 | .neq,x,y=>(Bx T t x y).map fun b=>.bool !b
 |_,_,_=>none
theorem sB{op:BinOp}{k:IntKind}{a b:Int}{v:V}(hs:op≠ .shl/\op≠ .shr)(hd:Pw op k a b=some v)(t:TypeId):
  ∃v',(binOp op t (.int k a) (.int k b)).run P w=.ok v' w/\Ac p v v':=by
 cases op<;>simp only[Pw]at hd<;>simp only[binOp,wm,not_true_eq_false,ve,Op.intArith,Op.intDiv,Op.intBits,Op.intCmp]
 case quo|rem=>
  split at hd
  ·cases hd
  ·rename_i hb;cases hd;rw[wc hb];exact⟨_,ze ..,by simp[Ac]⟩
 case shl=>exact wh rfl hs.1
 case shr=>exact wh rfl hs.2
 all_goals (cases hd;exact⟨_,ze ..,by simp[Ac]⟩)
theorem QR(hT:T.Ok P){t:TypeId}{x y:V}{x' y':Value}(hx:Ac p x x')(hy:Ac p y y'){r:Bool}(hd:Bx T t x y=some r):
  (qj t x' y').run P w=.ok r w:=by
 unfold Bx at hd;split at hd
 case h_16=>
  rename_i xs ys;obtain⟨l,h1,h2,h3,h4⟩:=HU hd;simp only[Ac]at hx hy;obtain⟨u,rfl,hu⟩:=hx;obtain⟨v,rfl,hv⟩:=hy;exact hT.flat t l h1 p xs ys u v r w h2 h3 hu hv h4
 case h_17=>cases hd
 all_goals (rename_i hu;simp only[Ac]at hx hy;unfold qj Op.maxDepth Op.equalIn;rw[zd,Ax hT hu];simp only[zc])
 case h_1=>subst hx hy;cases hd;simp
 case h_2=>subst hx;split at hd<;>first|(cases hd;done)|(cases hd;simp only[Ac]at hy;first|(subst hy;simp;done)|(obtain⟨_,_,_,rfl⟩:=hy;simp))
 case h_3=>obtain⟨_,_,_,rfl⟩:=hx;subst hy;cases hd;simp
 case h_4=>
  split at hd
  case isFalse=>cases hd
  rename_i e;subst e;split at hd
  case h_2=>cases hd
  rename_i ti hti;split at hd
  case isFalse=>cases hd
  rename_i hs;cases hd;obtain⟨r1,n1,h1,rfl⟩:=hx;obtain⟨r2,n2,h2,rfl⟩:=hy;rw[h1]at h2;cases h2;simp only[zd,By hT hti,zc,hs,wm,not_false_eq_true,wk];unfold sameAddr;simp only[beq_self_eq_true,wk,ze];congr 1;rw[Bool.eq_iff_iff];simp
 case h_5=>obtain⟨_,rfl,_⟩:=hx;subst hy;cases hd;simp
 case h_6=>obtain⟨_,rfl,_⟩:=hy;subst hx;cases hd;simp
 case h_7=>subst hx;split at hd<;>first|(cases hd;done)|(cases hd;simp only[Ac]at hy;first|(subst hy;simp;done)|(obtain⟨_,_,_,_,rfl,_⟩:=hy;simp;done)|(obtain⟨_,_,rfl⟩:=hy;simp;done)|(obtain⟨_,rfl⟩:=hy;simp;done))
 case h_8=>obtain⟨_,_,_,_,rfl,_⟩:=hx;subst hy;cases hd;simp
 case h_9=>obtain⟨_,_,rfl⟩:=hx;subst hy;cases hd;simp
 case h_10=>obtain⟨_,rfl⟩:=hx;subst hy;cases hd;simp
 case h_11=>subst hx;split at hd<;>first|(cases hd;done)|(cases hd;simp only[Ac]at hy;first|(subst hy;simp;done)|(obtain⟨_,_,_,rfl⟩:=hy;simp))
 case h_12=>obtain⟨_,_,_,rfl⟩:=hx;subst hy;cases hd;simp
 case h_13=>subst hx hy;cases hd;simp
 case h_14=>obtain⟨_,_,rfl,_⟩:=hx;subst hy;cases hd;simp
 case h_15=>obtain⟨_,_,rfl,_⟩:=hy;subst hx;cases hd;simp
def SN:V->Bool
 | .int .. | .str _| .tup _=>false
 |_=>true
theorem Lq{t:TypeId}{x y:V}{r:Bool}(hd:Bx T t x y=some r):SN x=true:=by
 unfold Bx at hd;split at hd<;>first|rfl|(cases hd)
theorem Nx{t:TypeId}{x:V}{x' y':Value}(hx:Ac p x x')(hp:SN x=true):
  binOp .eql t x' y'=(do pure (.bool (<-qj t x' y')))/\binOp .neq t x' y'=(do pure (.bool (!(<-qj t x' y')))):=by
 cases x<;>simp only[SN]at hp<;>simp only[Ac]at hx
 case int|str|tup=>cases hp
 case ptr=>obtain⟨_,_,_,rfl⟩:=hx;cases y'<;>exact⟨rfl,rfl⟩
 case esl=>obtain⟨_,_,rfl⟩:=hx;cases y'<;>exact⟨rfl,rfl⟩
 case es0=>obtain⟨_,rfl⟩:=hx;cases y'<;>exact⟨rfl,rfl⟩
 case sl=>obtain⟨_,_,_,_,rfl,_⟩:=hx;cases y'<;>exact⟨rfl,rfl⟩
 case map=>obtain⟨_,_,_,rfl⟩:=hx;cases y'<;>exact⟨rfl,rfl⟩
 case yld=>obtain⟨_,_,_,rfl⟩:=hx;cases y'<;>exact⟨rfl,rfl⟩
 case fn=>obtain⟨_,_,rfl,_⟩:=hx;cases y'<;>exact⟨rfl,rfl⟩
 case iface=>obtain⟨_,rfl,_⟩:=hx;cases y'<;>exact⟨rfl,rfl⟩
 case agg=>obtain⟨_,rfl,_⟩:=hx;cases y'<;>exact⟨rfl,rfl⟩
 all_goals (subst hx;cases y'<;>exact⟨rfl,rfl⟩)
theorem lK(hT:T.Ok P){op:BinOp}{t:TypeId}{x y:V}{x' y':Value}(hx:Ac p x x')(hy:Ac p y y'){v:V}(hd:LQ T op t x y=some v):
  ∃v',(binOp op t x' y').run P w=.ok v' w/\Ac p v v':=by
 unfold LQ at hd;split at hd
 case h_1=>
  simp only[Ac]at hx hy;subst hx hy;unfold ZU at hd;split at hd
  ·cases hd
  ·rename_i hb;cases hd;simp only[binOp,Op.shift,wc hb];exact⟨_,ze ..,by simp[Ac]⟩
 case h_2=>
  simp only[Ac]at hx hy;subst hx hy;unfold ZU at hd;split at hd
  ·cases hd
  ·rename_i hb;cases hd;simp only[binOp,Op.shift,wc hb];exact⟨_,ze ..,by simp[Ac]⟩
 case h_3=>
  rename_i h1 h2;split at hd
  ·rename_i e;subst e;simp only[Ac]at hx hy;subst hx hy;refine sB ⟨?_,?_⟩ hd t
   ·intro e;subst e;simp at h1
   ·intro e;subst e;simp at h2
  ·cases hd
 case h_4=>
  simp only[Ac]at hx hy;subst hx hy;have:=lJ (P:=P) (p:=p) (w:=w) hd;cases op<;>simpa only[binOp]using this
 case h_5=>
  rw[zn]at hd;obtain⟨b,h1,rfl⟩:=hd;rw[(Nx hx (Lq h1)).1];simp only[zd,QR hT hx hy h1,zc];exact⟨_,ze ..,by simp[Ac]⟩
 case h_6=>
  rw[zn]at hd;obtain⟨b,h1,rfl⟩:=hd;rw[(Nx hx (Lq h1)).2];simp only[zd,QR hT hx hy h1,zc];exact⟨_,ze ..,by simp[Ac]⟩
 case h_7=>cases hd
theorem TT{a:V}{a':Value}(hx:Ac p a a')(h:a≠ .nili):a'≠ .nilIface:=by
 intro e;subst e;cases a<;>simp only[Ac]at hx<;>first|exact h rfl|(simp at hx;done)|(obtain⟨_,_,_,_,hx,_⟩:=hx;cases hx;done)|(obtain⟨_,_,_,hx⟩:=hx;cases hx;done)|(obtain⟨_,_,hx,_⟩:=hx;cases hx;done)|(obtain⟨_,hx,_⟩:=hx;cases hx;done)
theorem gO{a:V}{c:Array Value}(hx:Ac p a (.agg c)):∃xs,a=.agg xs/\As p xs c.toList:=by
 cases a<;>simp only[Ac]at hx<;>first|(simp at hx;done)|(obtain⟨_,_,_,_,hx,_⟩:=hx;cases hx;done)|(obtain⟨_,_,_,hx⟩:=hx;cases hx;done)|(obtain⟨_,_,hx,_⟩:=hx;cases hx;done)|(obtain⟨_,hx,h⟩:=hx;cases hx<;>exact⟨_,rfl,h⟩)
theorem O3{op:BinOp}{t:TypeId}{x y:Operand}{a' b':Value}(h1:op≠ .eql)(h2:op≠ .neq):eqGuard op t x y a' b'=pure ():=by
 cases op<;>first|rfl|exact wh rfl h1|exact wh rfl h2
theorem Zm{op:BinOp}{t:TypeId}{x y:Operand}{a' b':Value}(h0:a'≠ .nilIface\/b'≠ .nilIface)(h1:(∃c d,a'=.agg c/\b'=.agg d)->P.eqGuardType P.depth t=false):
  (eqGuard op t x y a' b').run P w=.ok () w:=by
 by_cases e1:op=.eql\/op=.neq
 ·have:eqGuard op t x y a' b'=eqGuard .eql t x y a' b':=by rcases e1 with rfl|rfl<;>rfl
  rw[this];unfold eqGuard;simp only[Bool.not_true,zm,ve];split
  ·simp at h0
  ·have:=h1 ⟨_,_,rfl,rfl⟩;simp[this]
  ·rfl
 ·rw[O3 (fun e=>e1 (.inl e)) (fun e=>e1 (.inr e))];rfl
theorem ZW(hT:T.Ok P){op:BinOp}{t:TypeId}{x y:Operand}{a b:V}{a' b':Value}(hx:Ac p a a')(hy:Ac p b b'){v:V}(hd:LQ T op t a b=some v):
  (eqGuard op t x y a' b').run P w=.ok () w:=by
 by_cases e1:op=.eql\/op=.neq
 ·refine Zm ?_ ?_
  ·by_cases e2:a=.nili
   ·by_cases e3:b=.nili
    ·subst e2 e3;have:Bx T t .nili .nili=none:=by unfold Bx;split<;>simp_all
     rcases e1 with rfl|rfl<;>simp[LQ,this]at hd
    ·exact .inr (TT hy e3)
   ·exact .inl (TT hx e2)
  ·rintro⟨c,d,rfl,rfl⟩;obtain⟨xs,rfl,h1⟩:=gO hx;obtain⟨ys,rfl,h2⟩:=gO hy;have he:Bx T t (.agg xs) (.agg ys)=MT (T.flat t) xs ys:=by unfold Bx;split<;>simp_all
   cases hf:MT (T.flat t) xs ys with
   |some r=>obtain⟨l,h1,_⟩:=HU hf;exact hT.guard t l h1
   |none=>
    rw[hf]at he;rcases e1 with rfl|rfl<;>simp[LQ,he]at hd
 ·rw[O3 (fun e=>e1 (.inl e)) (fun e=>e1 (.inr e))];rfl
def zZ(op:UnOp)(x:V):Option V:=
 match op,x with
 | .neg,.int k n=>some (.int k (k.wrap (0-n)))
 | .xor,.int k n=>Pw .xor k (if k.signed then -1 else k.max) n
 | .not,.bool b=>some (.bool !b)
 |_,_=>none
theorem wK{op:UnOp}{x:V}{x':Value}(hx:Ac p x x'){v:V}(hd:zZ op x=some v):∃v',(Op.unary op x').run P w=.ok v' w/\Ac p v v':=by
 unfold zZ at hd;split at hd
 case h_1=>simp only[Ac]at hx;subst hx;cases hd;exact⟨_,rfl,by simp[Ac]⟩
 case h_2=> 
  simp only[Ac]at hx;subst hx;simp only[Pw,zh]at hd;subst hd;exact⟨_,rfl,by simp[Ac]⟩
 case h_3=>simp only[Ac]at hx;subst hx;cases hd;exact⟨_,rfl,by simp[Ac]⟩
 case h_4=>cases hd
def tV:V->Option UInt8
 | .int .u8 (.ofNat n)=>some (yt n)
 |_=>none
def bytes?:List V->Option (List UInt8)
 |[]=>some []
 |v::vs=>
  match tV v,bytes? vs with
  |some b,some bs=>some (b::bs)
  |_,_=>none
def FQ(T:B3)(h:H)(src dst:TypeId)(x:V):Option V:=
 match T.und src,T.und dst,x with
 |some _,some (.int k),.int _ n=>some (.int k (k.wrap n))
 |some _,some .string,.str s=>some (.str s)
 |some (.slice e),some .string,.nils=>match T.und e with|some (.int .u8)=>some (.str [])|_=>none
 |some (.slice e),some .string,.sl b off len _ _=>
  match T.und e with
  |some (.int .u8)=>match rd h b off len with
   |some cs=>(bytes? cs).map .str
   |none=>none
  |_=>none
 |_,_,_=>none
theorem M0{f:Value->ByteArray->Sem (ForInStep ByteArray)}(hf:∀n s,f (.int .u8 n) s=pure (ForInStep.yield (s.push (yt n.toNat)))):
  ∀(cs:List V) (vs:List Value) (bs:List UInt8) (acc:List UInt8),As p cs vs->bytes? cs=some bs->
  ∀w,(forIn vs (bytesOf acc) f).run P w=.ok (bytesOf (acc++bs)) w
 |[],vs,bs,acc,hv,hm,w=>by
  simp at hv;simp[bytes?]at hm;subst hv hm;simp[forIn]
 |c::cs,[],_,_,hv,_,_=>by simp at hv
 |c::cs,v::vs,bs,acc,hv,hm,w=>by
  simp only[Bg]at hv;unfold bytes? at hm;split at hm
  case h_2=>cases hm
  rename_i b tl hc hcs;cases hm;unfold tV at hc;split at hc
  case h_2=>cases hc
  rename_i n;cases hc;have hv1:=hv.1;simp only[Ac]at hv1;subst hv1;rw[List.forIn_cons,hf];simp only[zd,ze,zc];have:=M0 hf cs vs tl (acc++[yt n]) hv.2 hcs w;have e:(bytesOf acc).push (yt (Int.ofNat n).toNat)=bytesOf (acc++[yt n]):=by
   apply qg;simp[bytesOf,ByteArray.push]
  rw[e,this];simp
theorem jA(hT:T.Ok P)(hr:R p h w){src dst:TypeId}{x:V}{x':Value}(hx:Ac p x x'){v:V}(hd:FQ T h src dst x=some v):
  ∃v',(convert src dst x').run P w=.ok v' w/\Ac p v v':=by
 unfold FQ at hd;split at hd
 case h_1=>
  rename_i h1 h2;simp only[Ac]at hx;subst hx;cases hd;unfold convert;simp only[zd,Ax hT h1,Ax hT h2,zc];exact⟨_,rfl,by simp[Ac]⟩
 case h_2=>
  rename_i h1 h2;simp only[Ac]at hx;subst hx;cases hd;unfold convert;simp only[zd,Ax hT h1,Ax hT h2,zc];exact⟨_,rfl,by simp[Ac]⟩
 case h_3=>
  rename_i h1 h2;simp only[Ac]at hx;subst hx;split at hd
  case h_2=>cases hd
  rename_i h3;cases hd;unfold convert;simp only[zd,Ax hT h1,Ax hT h2,Ax hT h3,zc];exact⟨_,rfl,by simp[Ac,bytesOf];rfl⟩
 case h_4=>
  rename_i h1 h2;simp only[Ac]at hx;split at hd
  case h_2=>cases hd
  rename_i h3;split at hd
  case h_2=>cases hd
  rename_i cs hcs;rw[zn]at hd;obtain⟨bs,hbs,rfl⟩:=hd;obtain⟨r,n,c,g1,rfl,g2⟩:=hx;obtain⟨r',m,vs,k1,k2,k3,_⟩:=run_loadCells (P:=P) hr hcs;rw[g1]at k1;cases k1;refine⟨.string (bytesOf bs),?_,by simp[Ac]⟩;unfold convert;simp only[zd,Ax hT h1,Ax hT h2,Ax hT h3,zc];unfold Conv.bytesToString;simp only[zd,k2,zc];simp only[List.forIn_toArray];have e:ByteArray.empty=bytesOf []:=rfl;rw[e,M0 (P:=P) (fun n s=>rfl) cs vs bs [] k3 hbs w];simp
 case h_5=>cases hd
def LO(T:B3)(t:TypeId)(cs:List V)(off:Nat):Option V:=
 match T.und t,T.inf t with
 |some d,some i=>bif DW d then some (.agg ((cs.drop off).take i.size))else cs[off]?
 |_,_=>none
theorem Tz(hT:T.Ok P){t:TypeId}{cs:List V}{c:Array Value}{off:Nat}(hc:As p cs c.toList){v:V}(hd:LO T t cs off=some v):
  ∃v',(part t c off).run P w=.ok v' w/\Ac p v v':=by
 unfold LO at hd;split at hd
 case h_2=>cases hd
 rename_i d i h1 h2;unfold part;simp only[zd,Q5 hT h1,zc];cases hag:DW d with
 |true=>
  simp only[hag,we,zh]at hd;subst hd;simp only[wk,zd,By hT h2,zc];refine⟨_,ze ..,?_⟩;simp only[Ac];refine⟨_,rfl,?_⟩;have:(c.extract off (off+i.size)).toList=(c.toList.drop off).take i.size:=by
   rw[Array.toList_extract];simp[List.extract]
  rw[this];exact(hc.drop off).take i.size
 |false=>
  simp only[hag,wg]at hd;obtain⟨u,h3,h4⟩:=hc.get hd;have:c[off]?=some u:=by simpa using h3
  simp only[zm,ve,this];exact⟨u,rfl,h4⟩
def Kj(T:B3)(t:TypeId)(x:V)(f:Nat):Option V:=
 match T.und t,x with
 |some (.struct fs),.agg cs=>match fs[f]? with
  |some fd=>LO T fd.type cs fd.offset
  |none=>none
 |_,_=>none
theorem ZG(hT:T.Ok P){t:TypeId}{x:V}{x':Value}{f:Nat}(hx:Ac p x x'){v:V}(hd:Kj T t x f=some v):
  ∃v',(Instr.field t x' f).run P w=.ok v' w/\Ac p v v':=by
 unfold Kj at hd;split at hd
 case h_2=>cases hd
 rename_i fs cs h1;split at hd
 case h_2=>cases hd
 rename_i fd h2;simp only[Ac]at hx;obtain⟨c,rfl,hc⟩:=hx;unfold Instr.field;simp only[zd,Ax hT h1,zc,h2];unfold asAgg;simp only[ze,zc];exact Tz hT hc hd
def Kc(T:B3)(t:TypeId)(x:V)(f:Nat):Option V:=
 match T.und t,x with
 |some (.struct fs),.ptr b off=>match fs[f]? with
  |some fd=>match T.inf fd.type with
   |some i=>if i.size=0 then none else some (.ptr b (off+fd.offset))
   |none=>none
  |none=>none
 |_,_=>none
theorem Z5(hT:T.Ok P){t:TypeId}{x:V}{x':Value}{f:Nat}(hx:Ac p x x'){v:V}(hd:Kc T t x f=some v):
  ∃v',(Instr.fieldAt t x' f).run P w=.ok v' w/\Ac p v v':=by
 unfold Kc at hd;split at hd
 case h_2=>cases hd
 rename_i fs b off h1;split at hd
 case h_2=>cases hd
 rename_i fd h2;split at hd
 case h_2=>cases hd
 rename_i i h3;split at hd
 case isTrue=>cases hd
 rename_i h4;cases hd;simp only[Ac]at hx;obtain⟨r,n,hp,rfl⟩:=hx;unfold Instr.fieldAt;simp only[zd,Ax hT h1,zc,h2];unfold yb fieldPlace;simp only[ze,zc,zd,By hT h3,h4,ve,Addr.Hm];exact⟨_,rfl,by simp only[Ac];exact⟨_,_,hp,rfl⟩⟩
def C8(T:B3)(t:TypeId)(x ix:V):Option V:=
 match T.und t,x,ix with
 |some (.slice e),.sl b off len _ _,.int _ i=>
  match T.inf e,i with
  |some ti,.ofNat n=>bif y8 n len then some (.ptr b (off+n*ti.size))else none
  |_,_=>none
 |some (.array len e),.ptr b off,.int _ i=>
  match T.inf e,i with
  |some ti,.ofNat n=>bif y8 n len then some (.ptr b (off+n*ti.size))else none
  |_,_=>none
 |_,_,_=>none
theorem GX(a b:Nat):y8 a b=decide (a<b):=by
 rw[Bool.eq_iff_iff];simp[Nat.blt_eq]
theorem ZY(hT:T.Ok P){t:TypeId}{x ix:V}{x' ix':Value}(hx:Ac p x x')(hix:Ac p ix ix'){v:V}(hd:C8 T t x ix=some v):
  ∃v',(Instr.indexAt t x' ix').run P w=.ok v' w/\Ac p v v':=by
 unfold C8 at hd;split at hd
 case h_3=>cases hd
 case h_1=>
  rename_i e b off len cap o k i h1;split at hd
  case h_2=>cases hd
  rename_i ti n h2;rw[GX]at hd;by_cases hlt:n<len
  ·simp only[hlt,decide_true,we,zh]at hd;subst hd;simp only[Ac]at hx hix;obtain⟨r,m,c,hp,rfl,_⟩:=hx;subst hix;unfold Instr.indexAt asIntOf;have hcond:(0:Int)<=(n:Int)/\(n:Int)<(len:Int):=⟨by simp,by simpa using hlt⟩;simp only[zd,ze,Ax hT h1,zc,hcond,vc,wk,By hT h2,Addr.Hm,zy,z7];exact⟨_,rfl,by simp only[Ac];exact⟨_,_,hp,rfl⟩⟩
  ·simp[hlt]at hd
 case h_2=>
  rename_i len e b off k i h1;split at hd
  case h_2=>cases hd
  rename_i ti n h2;rw[GX]at hd;by_cases hlt:n<len
  ·simp only[hlt,decide_true,we,zh]at hd;subst hd;simp only[Ac]at hx hix;obtain⟨r,m,hp,rfl⟩:=hx;subst hix;unfold Instr.indexAt asIntOf yb;have hcond:(0:Int)<=(n:Int)/\(n:Int)<(len:Int):=⟨by simp,by simpa using hlt⟩;simp only[zd,ze,Ax hT h1,zc,hcond,vc,wk,By hT h2,Addr.Hm,zy,z7];exact⟨_,rfl,by simp only[Ac];exact⟨_,_,hp,rfl⟩⟩
  ·simp[hlt]at hd
def HM(T:B3)(t:TypeId)(x ix:V):Option V:=
 match T.und t,x,ix with
 |some .string,.str s,.int _ (.ofNat n)=>match s[n]? with
  |some b=>some (.int .u8 b.toNat)
  |none=>none
 |some (.array len e),.agg cs,.int _ (.ofNat n)=>
  match T.inf e with
  |some ti=>bif y8 n len then LO T e cs (n*ti.size)else none
  |_=>none
 |_,_,_=>none
theorem Zh(hT:T.Ok P){t:TypeId}{x ix:V}{x' ix':Value}(hx:Ac p x x')(hix:Ac p ix ix'){v:V}(hd:HM T t x ix=some v):
  ∃v',(Instr.index t x' ix').run P w=.ok v' w/\Ac p v v':=by
 unfold HM at hd;split at hd
 case h_3=>cases hd
 case h_1=>
  rename_i s k n h1;split at hd
  case h_2=>cases hd
  rename_i b hb;cases hd;simp only[Ac]at hx hix;subst hx hix;unfold Instr.index asIntOf;have e:(bytesOf s)[n]?=some b:=by
   have hn:=(zf.1 hb).1;have h2:=(zf.1 hb).2;rw[getElem?_pos (bytesOf s) n (by rw[BF];exact hn)];congr 1
  simp only[zd,ze,Ax hT h1,zc,zy,Int.natCast_nonneg,wk,z7,e];exact⟨_,rfl,by simp[Ac]⟩
 case h_2=>
  rename_i len e cs k n h1;split at hd
  case h_2=>cases hd
  rename_i ti h2;rw[GX]at hd;by_cases hlt:n<len
  ·simp only[hlt,decide_true,we]at hd;simp only[Ac]at hx hix;obtain⟨c,rfl,hc⟩:=hx;subst hix;unfold Instr.index asIntOf;have hcond:(0:Int)<=(n:Int)/\(n:Int)<(len:Int):=⟨by simp,by simpa using hlt⟩;simp only[zd,ze,Ax hT h1,zc,hcond,vc,wk,By hT h2,zy,z7];exact Tz hT hc hd
  ·simp[hlt]at hd
def G6(x:V)(i:Nat):Option V:=
 match x with
 | .tup vs=>vs[i]?
 |_=>none
theorem Vs{x:V}{x':Value}{i:Nat}(hx:Ac p x x'){v:V}(hd:G6 x i=some v):∃v',(Instr.extract x' i).run P w=.ok v' w/\Ac p v v':=by
 unfold G6 at hd;split at hd
 case h_2=>cases hd
 simp only[Ac]at hx;obtain⟨c,rfl,hc⟩:=hx;obtain⟨u,h1,h2⟩:=hc.get hd;unfold Instr.extract;have:c[i]?=some u:=by simpa using h1
 simp only[this];exact⟨u,rfl,h2⟩
def Hk(x:Option V)(y G4:Nat):Option Nat:=
 match x with
 |none=>some G4
 |some (.int _ (.ofNat n))=>bif zu n y then some n else none
 |_=>none
def JI(mx:Option V)(o:Nat):Nat:=match mx with|some _=>0|none=>o
def fL(hi mx:Option V):Option Nat:=match hi,mx with
 |none,some _=>none
 |_,_=>Hk hi 0 0
def PX(mx:Option V):Bool:=match mx with
 |some _=>true
 |none=>false
def Dz(T:B3)(t:TypeId)(x:V)(lo hi mx:Option V):Option V:=
 match T.und t,x with
 |some .string,.str s=>
  match mx,Hk hi s.length s.length with
  |none,some h=>match Hk lo h 0 with
   |some l=>some (.str ((s.drop l).take (h-l)))
   |none=>none
  |_,_=>none
 |some (.slice e),.sl b off len cap o=>
  match T.inf e,Hk mx cap cap with
  |some ti,some m=>match (match hi,mx with|none,some _=>none|_,_=>Hk hi m len)with
   |some h=>match Hk lo h 0 with
    |some l=>
     let o':=JI mx o
     bif zt m l then(bif zt o' 0 then some (.sl b off (h-l) (m-l) 0)else some .esl)
     else bif zt o' 0||zt o' ti.size then some (.sl b (off+l*ti.size) (h-l) (m-l) o')else none
    |none=>none
   |none=>none
  |_,_=>none
 |some (.slice e),.nils=>
  match Hk mx 0 0,fL hi mx,T.inf e with
  |some _,some h,some _=>match Hk lo h 0 with
   |some _=>some .nils
   |none=>none
  |_,_,_=>none
 |some (.slice e),.esl=>
  match Hk mx 0 0,fL hi mx,T.inf e with
  |some _,some h,some _=>match Hk lo h 0 with
   |some _=>some (bif PX mx then .es0 else .esl)
   |none=>none
  |_,_,_=>none
 |some (.slice e),.es0=>
  match Hk mx 0 0,fL hi mx,T.inf e with
  |some _,some h,some _=>match Hk lo h 0 with
   |some _=>some .es0
   |none=>none
  |_,_,_=>none
 |some (.array n e),.ptr b off=>
  match T.inf e,mx,Hk hi n n with
  |some ti,none,some h=>match Hk lo h 0 with
   |some l=>bif zt n l then some (.sl b off (h-l) (n-l) 0)else some (.sl b (off+l*ti.size) (h-l) (n-l) 0)
   |none=>none
  |_,_,_=>none
 |_,_=>none
def FI(p:Pl):Option V->Option Value->Prop
 |none,x=>x=none
 |some d,x=>∃v,x=some v/\Ac p d v
theorem BW{x:Option V}{x':Option Value}{y z n y':Nat}(hx:FI p x x')(hb:Hk x y z=some n)(hy:y<=y'):
  (x=none/\x'=none/\n=z)\/(∃d u,x=some d/\x'=some u/\n<=y/\∀code (P:Program) (w:World),(Instr.sliceBound u y' code).run P w=.ok n w):=by
 cases x with
 |none=>simp only[FI]at hx;subst hx;simp only[Hk,zh]at hb;exact .inl ⟨rfl,rfl,hb.symm⟩
 |some d=>
  simp only[FI]at hx;obtain⟨u,rfl,hu⟩:=hx;refine .inr ⟨d,u,rfl,rfl,?_⟩;unfold Hk at hb;split at hb
  case h_1=>rename_i e;cases e
  case h_3=>cases hb
  rename_i k m e;cases e;by_cases hle:m<=y
  ·simp only[ye hle,we,zh]at hb;subst hb;simp only[Ac]at hu;subst hu;refine⟨hle,fun code P w=>?_⟩;unfold Instr.sliceBound asIntOf;have hc:(0:Int)<=(m:Int)/\(m:Int)<=(y':Int):=⟨by simp,by omega⟩;simp only[zd,ze,zc,zy,hc,vc,wk,z7]
  ·have:zu m y=false:=by rw[Bool.eq_false_iff];simpa [yr]using hle
   simp[this]at hb
theorem Ij{lo hi mx:Option V}{lo' hi' mx':Option Value}(hlo:FI p lo lo')(hhi:FI p hi hi')(hmx:FI p mx mx'){m h l:Nat}(hm:Hk mx 0 0=some m)(hh:fL hi mx=some h)(hl:Hk lo h 0=some l)(c:Nat):
  (zr true 0 c lo' hi' mx').run P w=.ok (0,0,bif PX mx then 0 else c) w:=by
 unfold fL at hh;have h0:h=0:=by
  have:Hk hi 0 0=some h:=by
   cases mx with
   |none=>cases hi<;>simpa using hh
   |some d=>cases hi with
    |none=>simp at hh
    |some _=>simpa using hh
  rcases BW hhi this (zg _)with⟨_,_,rfl⟩|⟨_,_,_,_,h,_⟩<;>omega
 subst h0;have l0:l=0:=by rcases BW hlo hl (zg _)with⟨_,_,rfl⟩|⟨_,_,_,_,h,_⟩<;>omega
 subst l0;unfold zr;cases mx with
 |none=>
  have hh':Hk hi 0 0=some 0:=by cases hi<;>simpa using hh
  simp only[FI]at hmx;subst hmx;rcases BW hhi hh' (qe c)with⟨_,rfl,_⟩|⟨_,u,_,rfl,_,hu⟩<;>rcases BW hlo hl (zg _)with⟨_,rfl,_⟩|⟨_,u2,_,rfl,_,hu2⟩
  all_goals simp only[PX,wg,z6,zm,ve,zd,ze,zc,wk, *]
 |some d=>
  cases hi with
  |none=>simp at hh
  |some dh=>
   have hh':Hk (some dh) 0 0=some 0:=by simpa using hh
   rcases BW hmx hm (qe c)with⟨h,_,_⟩|⟨_,um,_,rfl,hm0,hum⟩
   ·cases h
   ·obtain rfl:m=0:=by omega
    rcases BW hhi hh' (zg _)with⟨h,_,_⟩|⟨_,u,_,rfl,_,hu⟩
    ·cases h
    ·rcases BW hlo hl (zg _)with⟨_,rfl,_⟩|⟨_,u2,_,rfl,_,hu2⟩
     all_goals simp only[PX,we,Option.isSome_some,zd,ze,zc,wk, *]
theorem Zd(hT:T.Ok P){t:TypeId}{x:V}{lo hi mx:Option V}{x':Value}{lo' hi' mx':Option Value}(hx:Ac p x x')(hlo:FI p lo lo')(hhi:FI p hi hi')(hmx:FI p mx mx')
  {v:V} (hd:Dz T t x lo hi mx=some v):∃v',(zp t x' lo' hi' mx').run P w=.ok v' w/\Ac p v v':=by
 unfold Dz at hd;split at hd
 case h_7=>cases hd
 case h_1=>
  rename_i s h1;split at hd
  case h_2=>cases hd
  rename_i hh hhb;split at hd
  case h_2=>cases hd
  rename_i l hl;cases hd;simp only[FI]at hmx;subst hmx;simp only[Ac]at hx;subst hx;refine⟨.string (bytesOf ((s.drop l).take (hh-l))),?_,by simp[Ac]⟩;unfold zp;simp only[zd,Ax hT h1,zc];unfold yu;simp only[zd,Ax hT h1,zc,z6,zm,ve,BF];unfold zr;have e:(bytesOf s).extract l hh=bytesOf ((s.drop l).take (hh-l)):=by
   apply qg;simp[bytesOf,List.extract]
  rcases BW hhi hhb (zg _)with⟨_,rfl,rfl⟩|⟨_,u,_,rfl,_,hu⟩<;>rcases BW hlo hl (zg _)with⟨_,rfl,rfl⟩|⟨_,u2,_,rfl,_,hu2⟩
  all_goals simp only[z6,zm,ve,zd,ze,zc, *]
 case h_2=>
  rename_i e b off len cap o h1;split at hd
  case h_2=>cases hd
  rename_i ti m hti hm;split at hd
  case h_2=>cases hd
  rename_i hh hhb;split at hd
  case h_2=>cases hd
  rename_i l hl;simp only[Ac]at hx;obtain⟨r,n,c,hp,rfl,hlen,hcap,ho1,ho2⟩:=hx;obtain⟨m',gm2,hhm,hlh,hbounds⟩:∃m',((mx=none/\m'=c/\m=cap)\/(mx≠none/\m'=m))/\hh<=m/\l<=hh/\(zr true len c lo' hi' mx').run P w=.ok (l,hh,m') w:=by
   have hlh:l<=hh:=by
    rcases BW hlo hl (zg _)with⟨_,_,rfl⟩|⟨_,_,_,_,h,_⟩
    ·exact qe _
    ·exact h
   rcases BW hmx hm hcap with⟨rfl,rfl,rfl⟩|⟨dm,um,rfl,rfl,hm1,hum⟩
   ·have hhb':Hk hi m len=some hh:=by cases hi<;>simpa using hhb
    refine⟨c,.inl ⟨rfl,rfl,rfl⟩,?_,hlh,?_⟩
    ·rcases BW hhi hhb' hcap with⟨_,_,rfl⟩|⟨_,_,_,_,h,_⟩
     ·exact hlen
     ·exact h
    ·unfold zr;rcases BW hhi hhb' hcap with⟨_,rfl,rfl⟩|⟨_,u,_,rfl,_,hu⟩<;>rcases BW hlo hl (zg _)with⟨_,rfl,rfl⟩|⟨_,u2,_,rfl,_,hu2⟩
     all_goals simp only[z6,zm,ve,zd,ze,zc,wk, *]
   ·cases hi with
    |none=>simp at hhb
    |some dh=>
     have hhb':Hk (some dh) m len=some hh:=by simpa using hhb
     refine⟨m,.inr ⟨by simp,rfl⟩,?_,hlh,?_⟩
     ·rcases BW hhi hhb' (zg _)with⟨h,_⟩|⟨_,_,_,_,h,_⟩
      ·cases h
      ·exact h
     ·unfold zr;rcases BW hhi hhb' (zg _)with⟨h,_,_⟩|⟨_,u,_,rfl,_,hu⟩
      ·cases h
      ·rcases BW hlo hl (zg _)with⟨_,rfl,rfl⟩|⟨_,u2,_,rfl,_,hu2⟩
       all_goals simp only[Option.isSome_some,zd,ze,zc,wk, *]
  have gm1:m<=m':=by rcases gm2 with⟨_,h1,h2⟩|⟨_,h1⟩<;>omega
  have hrun:(zp t (.slice (some ⟨r,off,none⟩) len c) lo' hi' mx').run P w=.ok (.slice (if m'=l then some ⟨r,off,none⟩else some ⟨r,off+l*ti.size,none⟩) (hh-l) (m'-l)) w:=by
   unfold zp;simp only[zd,Ax hT h1,zc];unfold yu;simp only[zd,Ax hT h1,zc,hbounds,By hT hti,ze];congr 2;split<;>simp
  refine⟨_,hrun,?_⟩;simp only[Br]at hd;by_cases hml:m=l
  ·simp only[hml,decide_true,we]at hd;by_cases ho:JI mx o=0
   ·simp only[ho,decide_true,we,zh]at hd;subst hd;have hm':m'=l:=by
     rcases gm2 with⟨k1,k2,k3⟩|⟨k1,k2⟩
     ·subst k1;simp only[JI]at ho;have:=ho1 ho;omega
     ·omega
    simp only[hm',wk,Ac];exact⟨r,n,_,hp,rfl,by omega,by omega,fun _=>by omega,by simp⟩
   ·simp only[ho,decide_false,wg,zh]at hd;subst hd;have hz:hh-l=0:=by omega
    simp only[hz,Ac];by_cases hm2:m'=l
    ·exact⟨_,_,by rw[wd hm2]⟩
    ·exact⟨_,_,by rw[wc hm2]⟩
  ·simp only[hml,decide_false,wg]at hd;by_cases ho:JI mx o=0\/JI mx o=ti.size
   ·have hcond:(decide (JI mx o=0)||decide (JI mx o=ti.size))=true:=by simpa using ho
    simp only[hcond,we,zh]at hd;subst hd;have hne:m'≠l:=by omega
    simp only[hne,ve,Ac];refine⟨r,n,_,hp,rfl,by omega,by omega,fun k=>?_,fun k=>?_⟩
    ·rcases gm2 with⟨k1,k2,k3⟩|⟨k1,k2⟩
     ·subst k1;simp only[JI]at k;have:=ho1 k;omega
     ·omega
    ·rcases gm2 with⟨k1,k2,k3⟩|⟨k1,k2⟩
     ·subst k1;simp only[JI]at k ho ⊢;rcases ho with ho|ho
      ·exact wh ho k
      ·have:=ho2 k;subst k2;rw[<-ho];have e:off+l*o+(m'-l)*o=off+m'*o:=by
        rw[Nat.sub_mul];have:l*o<=m'*o:=Nat.mul_le_mul_right _ (by omega);omega
       omega
     ·cases mx with
      |none=>exact wh rfl k1
      |some d=>simp[JI]at k
   ·have hcond:(decide (JI mx o=0)||decide (JI mx o=ti.size))=false:=by
     simpa using ho
    simp[hcond]at hd
 case h_3=>
  rename_i e h1;split at hd
  case h_2=>cases hd
  rename_i mm hh tz hmb hhb hz;split at hd
  case h_2=>cases hd
  rename_i l hl;cases hd;simp only[Ac]at hx;subst hx;refine⟨.slice none 0 0,?_,by simp[Ac]⟩;unfold zp;simp only[zd,Ax hT h1,zc];unfold yu;simp only[zd,Ax hT h1,zc,Ij (P:=P) (w:=w) hlo hhi hmx hmb hhb hl 0];cases mx<;>simp[PX,By hT hz]
 case h_4=>
  rename_i e h1;split at hd
  case h_2=>cases hd
  rename_i mm hh tz hmb hhb hz;split at hd
  case h_2=>cases hd
  rename_i l hl;simp only[Ac]at hx;obtain⟨a,c,rfl⟩:=hx;have hrun:∃a',(zp t (.slice (some a) 0 c) lo' hi' mx').run P w=.ok (.slice (some a') 0 (bif PX mx then 0 else c)) w:=by
   unfold zp;simp only[zd,Ax hT h1,zc];unfold yu;simp only[zd,Ax hT h1,zc,Ij (P:=P) (w:=w) hlo hhi hmx hmb hhb hl c];simp only[By hT hz,zc,ze,Nat.sub_zero,Nat.sub_self];split
   ·exact⟨_,rfl⟩
   ·exact⟨_,rfl⟩
  obtain⟨a',ha'⟩:=hrun;refine⟨_,ha',?_⟩;cases hd;cases mx with
  |none=>simp only[PX,wg,Ac];exact⟨_,_,rfl⟩
  |some d=>simp only[PX,we,Ac];exact⟨_,rfl⟩
 case h_5=>
  rename_i e h1;split at hd
  case h_2=>cases hd
  rename_i mm hh tz hmb hhb hz;split at hd
  case h_2=>cases hd
  rename_i l hl;cases hd;simp only[Ac]at hx;obtain⟨a,rfl⟩:=hx;refine⟨.slice (some a) 0 0,?_,by simp only[Ac];exact⟨_,rfl⟩⟩;unfold zp;simp only[zd,Ax hT h1,zc];unfold yu;simp only[zd,Ax hT h1,zc,Ij (P:=P) (w:=w) hlo hhi hmx hmb hhb hl 0];cases mx<;>simp[PX,By hT hz]
 case h_6=>
  rename_i nn e b off h1;split at hd
  case h_2=>cases hd
  rename_i ti hh hti hhb;split at hd
  case h_2=>cases hd
  rename_i l hl;simp only[FI]at hmx;subst hmx;simp only[Ac]at hx;obtain⟨r,n,hp,rfl⟩:=hx;have hlh:l<=hh:=by rcases BW hlo hl (zg _)with⟨_,_,rfl⟩|⟨_,_,_,_,h,_⟩<;>omega
  have hhn:hh<=nn:=by rcases BW hhi hhb (zg _)with⟨_,_,rfl⟩|⟨_,_,_,_,h,_⟩<;>omega
  have hrun:(zp t (.pointer (some ⟨r,off,none⟩)) lo' hi' none).run P w=.ok (.slice (some (if nn=l then⟨r,off,none⟩else⟨r,off+l*ti.size,none⟩)) (hh-l) (nn-l)) w:=by
   unfold zp;simp only[zd,Ax hT h1,zc];unfold yb zr;rcases BW hhi hhb (zg _)with⟨_,rfl,rfl⟩|⟨_,u,_,rfl,_,hu⟩<;>rcases BW hlo hl (zg _)with⟨_,rfl,rfl⟩|⟨_,u2,_,rfl,_,hu2⟩
   all_goals simp only[z6,zm,ve,zd,ze,zc,By hT hti,Addr.Hm, *]
  refine⟨_,hrun,?_⟩;simp only[Br]at hd;by_cases hml:nn=l
  ·simp only[hml,decide_true,we,zh]at hd;subst hd;simp only[hml,wk,Ac];exact⟨r,n,_,hp,rfl,by omega,by omega,fun _=>by omega,by simp⟩
  ·simp only[hml,decide_false,wg,zh]at hd;subst hd;simp only[hml,ve,Ac];exact⟨r,n,_,hp,rfl,by omega,by omega,fun _=>by omega,by simp⟩
def i64(n:Nat):V:=.int .i64 (.ofNat n)
def FB(T:B3)(h:H)(ts:Array TypeId)(args:List V):Option V:=
 match ts[0]?,args with
 |some t,[x]=>
  match T.und t,x with
  |some .string,.str s=>some (i64 s.length)
  |some (.array n _),_=>some (i64 n)
  |some (.slice _),.sl _ _ len _ _=>some (i64 len)
  |some (.slice _),.nils=>some (i64 0)
  |some (.slice _),.esl=>some (i64 0)
  |some (.slice _),.es0=>some (i64 0)
  |some (.map _ _),.nilm=>some (i64 0)
  |some (.map _ _),.map b=>match h.get b with
   |some (.map es _)=>some (i64 es.length)
   |_=>none
  |_,_=>none
 |_,_=>none
theorem As.one{ds:V}{l:List Value}(hl:As p [ds] l):∃v,l=[v]/\Ac p ds v:=by
 match l,hl with
 |[v],h=>exact⟨v,rfl,by simpa using h⟩
 |[],h=>simp at h
 |_::_::_,h=>simp at h
theorem As.two{d e:V}{l:List Value}(hl:As p [d,e] l):∃v u,l=[v,u]/\Ac p d v/\Ac p e u:=by
 match l,hl with
 |[v,u],h=>exact⟨v,u,rfl,by simpa using h⟩
 |[],h=>simp at h
 |[_],h=>simp at h
 |_::_::_::_,h=>simp at h
theorem DL.length{es:List (V×V×Nat)}{l:List MapEntry}(h:DL p es l):es.length=l.length:=by
 induction h with
 |nil=>rfl
 |cons _ _ _ _ ih=>simp[ih]
theorem nD(hT:T.Ok P)(hr:R p h w){ts:Array TypeId}{t:TypeId}{args:List V}{args':Array Value}(ha:As p args args'.toList){v:V}(hd:FB T h ts args=some v):
  ∃v',(Builtin.len_ ts t args').run P w=.ok v' w/\Ac p v v':=by
 unfold FB at hd;split at hd
 case h_2=>cases hd
 rename_i t0 x ht;obtain⟨x',hx',hx⟩:=ha.one;have ha0:args'[0]?=some x':=by rw[<-Array.getElem?_toList,hx'];rfl
 unfold Builtin.len_;simp only[ht,ha0];split at hd
 case h_9=>cases hd
 all_goals (rename_i hu;simp only[zd,Ax hT hu,zc];try simp only[Ac]at hx)
 case h_1=>subst hx;cases hd;exact⟨_,ze ..,by simp[i64,Ac,goInt,BF]⟩
 case h_2=>cases hd;exact⟨_,ze ..,by simp[i64,Ac,goInt]⟩
 case h_3=>obtain⟨_,_,_,_,rfl,_⟩:=hx;cases hd;exact⟨_,ze ..,by simp[i64,Ac,goInt]⟩
 case h_4=>subst hx;cases hd;exact⟨_,ze ..,by simp[i64,Ac,goInt]⟩
 case h_5=>obtain⟨_,_,rfl⟩:=hx;cases hd;exact⟨_,ze ..,by simp[i64,Ac,goInt]⟩
 case h_6=>obtain⟨_,rfl⟩:=hx;cases hd;exact⟨_,ze ..,by simp[i64,Ac,goInt]⟩
 case h_7=>subst hx;cases hd;exact⟨_,ze ..,by simp[i64,Ac,goInt]⟩
 case h_8=>
  obtain⟨r,n,hp,rfl⟩:=hx;split at hd
  case h_2=>cases hd
  rename_i es cl hb;cases hd;obtain⟨r',n',o,h1,h2,l,h3,h4⟩:=hr.obj _ _ hb;rw[hp]at h1;cases h1;subst h3;refine⟨goInt l.size,?_,?_⟩
  ·simp[getObj,Sem.run,h2]
  ·have:=h4.length;simp only[i64,Ac,goInt];congr 1;simp at this;exact wi Int.ofNat this.symm
def kL(a b:V):Option V:=
 match a,b with
 | .int k x,.int _ y=>some (.int k (if y>x then y else x))
 |_,_=>none
def dK(a b:V):Option V:=
 match a,b with
 | .int k x,.int _ y=>some (.int k (if y<x then y else x))
 |_,_=>none
def dfold(f:V->V->Option V):V->List V->Option V
 |x,[]=>some x
 |x,y::ys=>match f x y with
  |some z=>dfold f z ys
  |none=>none
theorem PA{f:V->V->Option V}{g:Value->Value->Sem Value}(hfg:∀ {a b c:V} {a' b':Value},Ac p a a'->Ac p b b'->f a b=some c->∃c',(g a' b').run P w=.ok c' w/\Ac p c c'):
  ∀(ys:List V) (ys':List Value) (x:V) (x':Value),Ac p x x'->As p ys ys'->∀ {v:V},dfold f x ys=some v->∃v',(ys'.foldlM g x').run P w=.ok v' w/\Ac p v v'
 |[],ys',x,x',hx,hys,v,hd=>by
  simp at hys;subst hys;cases hd;exact⟨x',by simp,hx⟩
 |y::ys,[],_,_,_,hys,_,_=>by simp at hys
 |y::ys,y'::ys',x,x',hx,hys,v,hd=>by
  simp only[Bg]at hys;unfold dfold at hd;split at hd
  case h_2=>cases hd
  rename_i z hz;obtain⟨z',h1,h2⟩:=hfg hx hys.1 hz;obtain⟨v',h3,h4⟩:=PA hfg ys ys' z z' h2 hys.2 hd;exact⟨v',by rw[List.foldlM_cons,zd,h1];exact h3,h4⟩
def Gm(f:V->V->Option V)(args:List V):Option V:=
 match args with
 |[]=>none
 |x::ys=>dfold f x ys
theorem qH{ts:Array TypeId}{t:TypeId}{args:List V}{args':Array Value}(ha:As p args args'.toList){v:V}(hd:Gm kL args=some v):
  ∃v',(Builtin.max_ ts t args').run P w=.ok v' w/\Ac p v v':=by
 unfold Gm at hd;split at hd
 case h_1=>cases hd
 rename_i x ys;unfold Builtin.max_;cases hl:args'.toList with
 |nil=>rw[hl]at ha;simp at ha
 |cons x' ys'=>
  rw[hl]at ha;simp only[Bg]at ha;refine PA (fun {a b c a' b'} h1 h2 h3=>?_) ys ys' x x' ha.1 ha.2 hd;unfold kL at h3;split at h3
  case h_2=>cases h3
  simp only[Ac]at h1 h2;subst h1 h2;cases h3;exact⟨_,rfl,by simp[Ac]⟩
theorem qQ{ts:Array TypeId}{t:TypeId}{args:List V}{args':Array Value}(ha:As p args args'.toList){v:V}(hd:Gm dK args=some v):
  ∃v',(Builtin.min_ ts t args').run P w=.ok v' w/\Ac p v v':=by
 unfold Gm at hd;split at hd
 case h_1=>cases hd
 rename_i x ys;unfold Builtin.min_;cases hl:args'.toList with
 |nil=>rw[hl]at ha;simp at ha
 |cons x' ys'=>
  rw[hl]at ha;simp only[Bg]at ha;refine PA (fun {a b c a' b'} h1 h2 h3=>?_) ys ys' x x' ha.1 ha.2 hd;unfold dK at h3;split at h3
  case h_2=>cases h3
  simp only[Ac]at h1 h2;subst h1 h2;cases h3;exact⟨_,rfl,by simp[Ac]⟩
def IA(place:Nat->Option (Nat×Nat))(cells:List V):List (Nat×V)->Option (List V)
 |[]=>some cells
 |(i,v)::rest=>
  match place i with
  |none=>none
  |some (off,size)=>bif zt v.cells.length size&&zu (off+size) cells.length then IA place (GN cells off v.cells) rest else none
theorem Uk:∀(xs:List V) (vs:List Value) (cs:List V) (c:Array Value) (off:Nat),As p xs vs->As p cs c.toList->
  ∀k,As p (GN cs (off+k) xs) ((vs.zipIdx k).foldl (fun cs (c,j)=>cs.setIfInBounds (off+j) c) c).toList
 |[],vs,cs,c,off,hx,hc,k=>by simp at hx;subst hx;simpa [GN]using hc
 |x::xs,[],_,_,_,hx,_,_=>by simp at hx
 |x::xs,v::vs,cs,c,off,hx,hc,k=>by
  simp only[Bg]at hx;simp only[GN,List.zipIdx_cons,List.foldl_cons];have:=Uk xs vs (cs.set (off+k) x) (c.setIfInBounds (off+k) v) off hx.2 (by simpa using hc.set (off+k) hx.1) (k+1);rwa [show off+k+1=off+(k+1)from by omega]
inductive Ty (p:Pl):List (Nat×V)->List (Nat×Value)->Prop
 |nil:Ty p [] []
 |cons {i:Nat} {v:V} {v':Value} {l:List (Nat×V)} {l':List (Nat×Value)}:Ac p v v'->Ty p l l'->Ty p ((i,v)::l) ((i,v')::l')
theorem LN{place:Nat->Option (Nat×Nat)}:∀ {l:List (Nat×V)} {l':List (Nat×Value)},Ty p l l'->∀ {cs:List V} {c:Array Value} {out:List V},As p cs c.toList->IA place cs l=some out->
  ∃o,Instr.fill place c l'=some o/\As p out o.toList:=by
 intro l l' hl;induction hl with
 |nil=>intro cs c out hc hd;cases hd;exact⟨c,rfl,hc⟩
 |@cons i v v' l l' hv hl ih=>
  intro cs c out hc hd;unfold IA at hd;split at hd
  case h_1=>cases hd
  rename_i off size hpl;cases hcond:(zt v.cells.length size&&zu (off+size) cs.length)with
  |false=>simp[hcond]at hd
  |true=>
   simp only[hcond,we]at hd;simp only[zw,yr,Br,w5]at hcond;have hvl:=hv.cells.length;have hcl:=hc.length;have hsz:v'.cells.size=size:=by simp at hvl;omega
   unfold Instr.fill;simp only[hpl];rw[wc (by simp at hcl;simp[hsz];omega)];refine ih ?_ hd;have:=Uk (p:=p) v.cells v'.cells.toList cs c off hv.cells hc 0;simp only[qk]at this;rw[<-Array.foldl_toList,Array.toList_zipIdx];exact this
def J9(T:B3)(t:TypeId)(parts:List (Nat×V)):Option V:=
 match T.inf t,T.und t with
 |some i,some (.struct fs)=>
  match fs.toList.mapM (fun f=>(T.inf f.type).map fun j=>(f.offset,j.size))with
  |some pl=>(IA (fun i=>pl[i]?) i.zero parts).map .agg
  |none=>none
 |some i,some (.array _ e)=>match T.inf e with
  |some j=>(IA (fun i=>some (i*j.size,j.size)) i.zero parts).map .agg
  |none=>none
 |_,_=>none
theorem run_places(hT:T.Ok P):∀ {fs:List Field} {pl:List (Nat×Nat)},fs.mapM (fun f=>(T.inf f.type).map fun j=>(f.offset,j.size))=some pl->
  ∀w,(fs.mapM (fun f=>(do pure (f.offset, <-sizeOf f.type):Sem (Nat×Nat)))).run P w=.ok pl w
 |[],pl,h,w=>by simp at h;subst h;simp
 |f::fs,pl,h,w=>by
  rw[List.mapM_cons]at h;cases hf:T.inf f.type with
  |none=>simp[hf]at h
  |some j=>
   cases hm:fs.mapM (fun f=>(T.inf f.type).map fun j=>(f.offset,j.size))with
   |none=>simp[hf,hm]at h
   |some pl'=>
    simp[hf,hm]at h;subst h;rw[List.mapM_cons];simp only[zd,By hT hf,zc,ze,run_places hT hm]
theorem Z2(hT:T.Ok P){t:TypeId}{parts:List (Nat×V)}{parts':Array (Nat×Value)}(hp:Ty p parts parts'.toList){v:V}(hd:J9 T t parts=some v):
  ∃v',(Instr.build t parts').run P w=.ok v' w/\Ac p v v':=by
 unfold J9 at hd;split at hd
 case h_3=>cases hd
 case h_1=>
  rename_i i fs hi hu;split at hd
  case h_2=>cases hd
  rename_i pl hpl;rw[zn]at hd;obtain⟨out,ho,rfl⟩:=hd;obtain⟨z,hz,hzr⟩:=Er hT hi;have hpl':(fs.mapM (fun f=>(do pure (f.offset, <-sizeOf f.type):Sem (Nat×Nat)))).run P w=.ok pl.toArray w:=by
   rw[Array.mapM_eq_mapM_toList];simp only[Sem.run_map,run_places hT hpl,zc]
  obtain⟨o,h1,h2⟩:=LN (p:=p) (place:=fun i=>pl.toArray[i]?) hp (hzr p) (out:=out) (by simpa using ho);refine⟨.agg o,?_,by simp only[Ac];exact⟨_,rfl,h2⟩⟩;unfold Instr.build;simp only[zd,hz,zc,Ax hT hu];rw[hpl'];simp only[zc,h1,ze]
 case h_2=>
  rename_i i n e hi hu;split at hd
  case h_2=>cases hd
  rename_i j hj;rw[zn]at hd;obtain⟨out,ho,rfl⟩:=hd;obtain⟨z,hz,hzr⟩:=Er hT hi;obtain⟨o,h1,h2⟩:=LN (p:=p) (place:=fun i=>some (i*j.size,j.size)) hp (hzr p) ho;refine⟨.agg o,?_,by simp only[Ac];exact⟨_,rfl,h2⟩⟩;unfold Instr.build;simp only[zd,hz,zc,Ax hT hu,By hT hj,h1,ze]
def E2(z:List V)(n:Nat):List V:=(List.range n).map fun i=>z.getD (i % z.length) (.tup [])
theorem Jj{z:List V}{c:Array Value}(hz:As p z c.toList)(hpos:0<z.length)(n:Nat):As p (E2 z n) ((Array.range n).map (fun i=>c[i % c.size]!)).toList:=by
 have hl:=hz.length;simp at hl;apply As.mk (by simp[E2]);intro i d v hd hv;have hi:i<n:=by have:=(zf.1 hd).1;simpa [E2]using this
 simp only[E2,yc,z8 hi,yi,zh]at hd;simp only[Array.toList_map,Array.toList_range,yc,z8 hi,yi,zh]at hv;have hm:i % z.length<z.length:=Nat.mod_lt _ hpos;obtain⟨u,h1,h2⟩:=hz.get (i:=i % z.length) (d:=z[i % z.length]) (by simp[hm]);subst hd hv;simp only[yf,hm,ya,yz];rw[hl]at h1;have hm':i % c.size<c.size:=Nat.mod_lt _ (by omega);simp[hm']at h1;rw[getElem!_pos c (i % c.size) hm',h1];exact h2
def EU(T:B3)(h:H)(t:TypeId)(len:Nat)(parts:List (Nat×V)):Option (V×H):=
 match T.und t with
 |some (.slice e)=>match T.inf e with
  |some i=>
   bif zu (len*i.size) 16777216&&y8 0 (i.zero.length)&&zt i.zero.length i.size then
    match IA (fun k=>some (k*i.size,i.size)) (E2 i.zero (len*i.size)) parts with
    |some cs=>some (.sl h.nx 0 len len 0,Ii h e cs)
    |none=>none
   else none
  |none=>none
 |_=>none
theorem Xa(hT:T.Ok P)(hr:R p h w){t:TypeId}{len:Nat}{parts:List (Nat×V)}{parts':Array (Nat×Value)}(hp:Ty p parts parts'.toList){v:V}{h':H}
  (hd:EU T h t len parts=some (v,h')):∃v' p' w',(Instr.buildSlice t len parts').run P w=.ok v' w'/\Ac p' v v'/\Ext p h w p' h' w':=by
 unfold EU at hd;split at hd
 case h_2=>cases hd
 rename_i e hu;split at hd
 case h_2=>cases hd
 rename_i i hi;cases hcond:(zu (len*i.size) 16777216&&y8 0 (i.zero.length)&&zt i.zero.length i.size)with
 |false=>simp[hcond]at hd
 |true=>
  simp only[hcond,we]at hd;simp only[zw,yr,Nat.blt_eq,Br,w5]at hcond;obtain⟨⟨c1,c2⟩,c3⟩:=hcond;split at hd
  case h_2=>cases hd
  rename_i cs hcs;cases hd;obtain⟨z,hz,hzr⟩:=Er hT hi;have hzl:=(hzr p).length;simp at hzl;obtain⟨o,h1,h2⟩:=LN (p:=p) (place:=fun k=>some (k*i.size,i.size)) hp (Jj (hzr p) c2 (len*i.size)) hcs;obtain⟨n,he,hpn,hn⟩:=NG hr e h2;refine⟨.slice (some ⟨w.heap.size,0,none⟩) len len,_,_,?_,?_,he⟩
  ·unfold Instr.buildSlice;simp only[zd,Ax hT hu,zc,By hT hi];rw[wc (by omega)];by_cases h0:len*i.size=0
   ·rw[wd h0];simp only[zd,ze,zc];have e1:(Array.map (fun x=>(#[]:Array Value)[x % (#[]:Array Value).size]!) (Array.range (len*i.size)))=Array.map (fun i_1=>z.cells[i_1 % z.cells.size]!) (Array.range (len*i.size)):=by simp[h0]
    rw[e1,h1];simp only[zd,Cq,zc,ze]
   ·simp only[h0,ve,zd,hz,zc,ze,h1,Cq]
  ·simp only[Ac];exact⟨_,n,len,hpn,rfl,zg _,zg _,fun _=>rfl,by simp⟩
end
end Go.Det
