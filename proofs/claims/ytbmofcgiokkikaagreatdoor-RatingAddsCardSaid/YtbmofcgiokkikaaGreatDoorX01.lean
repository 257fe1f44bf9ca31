import Derived.Scope
import Derived.Laws.Sem
import Derived.KernelRfl
import Derived.Laws.Strings
import Derived.IntWalk
/- A part of a proof; no law is stated here. -/
abbrev Z:=List UInt8
abbrev w4:=@decide_eq_true
abbrev w5:=@decide_eq_true_eq
abbrev w6:=@of_decide_eq_true
abbrev w7:=@of_decide_eq_false
abbrev w8:=@decide_eq_false
abbrev w9:=@decide_eq_false_iff_not
abbrev wc:=@if_neg
abbrev wd:=@if_pos
abbrev we:=@cond_true
abbrev wg:=@cond_false
abbrev wh:=@absurd
abbrev wi:=@congrArg
abbrev wj:=@beq_iff_eq
abbrev wk:=@if_true
abbrev wm:=@ne_eq
abbrev vc:=@beq_eq_false_iff_ne
abbrev ve:=@and_true
abbrev vf:=@if_false
noncomputable section
open Go.Result renaming andThen_ok -> zc
open Go.Sem renaming run_bind -> zd, run_pure -> zf
open Option.some renaming injEq -> ze
open Nat renaming beq -> zh, le_refl -> zi, ble -> zl, mul_le_mul_right -> z7, blt -> ya, ble_eq -> yb, le_trans -> yw
open Option renaming map_eq_some_iff -> zj
open Go.Value renaming cells -> zk
open Go.Builtin renaming firstCells -> zm, zeroCells -> zp, append_ -> zy, nextslicecap -> z8, lenOf -> yh
open List renaming getElem?_eq_some_iff -> zn, getElem?_take_of_lt -> zq, mem_cons -> ym, length_cons -> yn, rec -> yo, getElem?_cons_zero -> yp, getElem?_cons_succ -> yq, drop_eq_nil_of_le -> yr
open Bool renaming and_eq_true -> zo, false_eq_true -> zz, or_eq_true -> yu
open Go.Instr renaming sliceAt -> zr, sliceBounds -> zu, sureAddr -> yf, slice -> yk
open Int renaming mul_le_mul_of_nonneg_left -> zt, ofNat_eq_natCast -> z6, toNat_natCast -> ye, pow_succ -> yi, add_mul_emod_self_left -> yj, mul_comm -> yv
open BitVec renaming ofInt -> yc
open Prod.mk renaming injEq -> yd
open Array renaming getElem?_toList -> yg
open Go.Op renaming bytesLess -> yt, equal -> yx
theorem ae{p:Prop}(h:p:=by omega):p:=h
theorem af{p:Prop}(h:p:=by decide):p:=h
theorem ag{p:Prop}(h:p:=by kernel_rfl):p:=h
theorem ah{p:Prop}(h:p:=by grind):p:=h
namespace Go.Sp
def val(b:Int):List Int->Int
 |[]=>0
 |d::r=>d+b*val b r
def AD(b:Int)(l:List Int):Prop:=∀d∈l,0<=d/\d<b
def nz(l:List Int):Prop:=l.getLast?≠some 0
def bT(b:Nat):Nat->Nat->List Int
 |0,_=>[]
 |f+1,n=>if n=0 then[]else((n % b:Nat):Int)::bT b f (n/b)
def dg(b:Nat)(n:Int):List Int:=bT b n.toNat n.toNat
def AE:List Int->List Int
 |[]=>[]
 |d::r=>match AE r with
  |[]=>if d=0 then[]else[d]
  |s=>d::s
theorem AJ{b:Int}(a:0<=b):∀ {l:List Int},AD b l->0<=val b l
 |[],_=>Int.le_refl _
 |d::r,h=>by
  have g:=(h d<|by simp).1;have f:=AJ a (l:=r) fun x c=>h x (by simp[c])
  have:=Int.mul_nonneg a f;unfold val;omega
theorem Dm(b:Int):∀(l r:List Int),val b (l++r)=val b l+b^l.length*val b r
 |[],r=>by simp[val]
 |d::l,r=>by
  rw[List.cons_append,val,Dm b l r,val,yn,yi,Int.mul_add,Int.add_assoc, <-Int.mul_assoc,yv b<|b^l.length]
theorem Oq(b:Int):∀n,val b (List.replicate n 0)=0
 |0=>rfl
 |n+1=>by rw[List.replicate_succ,val,Oq b n];simp
theorem BD{b:Int}(c:0<b):∀ {l:List Int},AD b l->val b l<b^l.length
 |[],_=>by simp[val]
 |d::r,h=>by
  have k:=(h d<|by simp).2;have g:=BD c (l:=r) fun x a=>h x (by simp[a])
  have f:b*val b r<=b*(b^r.length-1):=zt ae ae;rw[val,yn,yi,yv (b^r.length) b];grind
theorem KP(b:Int):∀l,val b (AE l)=val b l
 |[]=>rfl
 |d::r=>by
  have a:=KP b r;grind [AE,val]
theorem Ja{b:Int}:∀ {l:List Int},AD b l->AD b (AE l)
 |[],h=>h
 |d::r,h=>by
  have c:=Ja (l:=r) fun x a=>h x (by simp[a])
  have f:=h d (by simp);unfold AE;split
  ·split
   ·grind
   ·intro x a;grind
  ·intro x a;rcases ym.1 a with rfl|a
   ·exact f
   ·exact c x a
theorem Nn:∀l:List Int,nz<|AE l
 |[]=>by simp[nz,AE]
 |d::r=>by
  have a:=Nn r;grind [AE,nz]
theorem JV:∀ {l:List Int},nz l->AE l=l
 |[],_=>rfl
 |d::r,h=>by
  unfold AE;cases r with
  |nil=>
   grind [nz,AE]
  |cons a t=>
   have:nz (a::t):=by grind [nz]
   rw[JV this]
theorem Kz{b:Int}(c:0<b):∀ {l:List Int},AD b l->nz l->l≠[]->0<val b l
 |[],_,_,h=>wh rfl h
 |d::r,h,g,_=>by
  have k:=(h d<|by simp).1;have hr:AD b r:=fun x f=>h x (by simp[f])
  unfold val;cases r with
  |nil=>
   grind [nz,val]
  |cons a t=>
   have:=Kz c hr (by grind [nz]) (by simp);have:=Int.mul_pos c this;omega
theorem val_inj{b:Int}(f:0<b):∀ {l r:List Int},AD b l->AD b r->nz l->nz r->val b l=val b r->l=r
 |[],[],_,_,_,_,_=>rfl
 |[],x::r,_,c,_,g,h=>by have:=Kz f c g (by simp);grind [val]
 |x::l,[],a,_,n1,_,h=>by have:=Kz f a n1 (by simp);grind [val]
 |x::l,y::r,a,c,n1,g,h=>by
  have a1:=a x (by simp);have a2:=c y (by simp);unfold val at h;have m:x=y:=by
   have k:(x+b*val b l) % b=(y+b*val b r) % b:=by rw[h]
   rw[yj,yj,Int.emod_eq_of_lt a1.1 a1.2,Int.emod_eq_of_lt a2.1 a2.2]at k;exact k
  subst m;have o:val b l=val b r:=by
   grind [Int.eq_of_mul_eq_mul_left]
  have t1:∀ {x:Int} {l:List Int},nz (x::l)->nz l:=by
   grind [nz]
  rw[val_inj f (fun z d=>a z<|by simp[d]) (fun z d=>c z<|by simp[d]) (t1 n1) (t1 g) o]
theorem Vg(b:Nat)(a:2<=b):∀f n,n<=f->val b (bT b f n)=n
 |0,n,h=>by simp[bT,val];omega
 |f+1,n,h=>by
  unfold bT;split
  ·rename_i h0;subst h0;rfl
  ·have c:n/b<=f:=by
    have:n/b<n:=Nat.div_lt_self ae a;omega
   rw[val,Vg b a f (n/b) c];have:=Nat.mod_add_div n b;omega
theorem X2(b:Nat)(c:2<=b):∀f n,AD b<|bT b f n
 |0,n=>by intro x a;cases a
 |f+1,n=>by
  unfold bT;split
  ·intro x a;cases a
  ·intro x a;rcases ym.1 a with rfl|a
   ·have:=Nat.mod_lt n (show 0<b by omega);omega
   ·exact X2 b c f (n/b) x a
theorem nB(b:Nat)(d:2<=b):∀f n,n<=f->nz (bT b f n)
 |0,n,_=>by simp[bT,nz]
 |f+1,n,h=>by
  unfold bT;split
  ·simp[nz]
  ·have g:n/b<=f:=by
    have:n/b<n:=Nat.div_lt_self ae d;omega
   have k:=nB b d f (n/b) g;cases hr:bT b f (n/b)with
   |nil=>
    have c:=Vg b d f (n/b) g;rw[hr]at c;have c:n/b=0:=by
     have:((n/b:Nat):Int)=0:=by rw[<-c];rfl
     omega
    have l:n % b=n:=Nat.mod_eq_of_lt ((Nat.div_eq_zero_iff_lt ae).1 c);simp[nz];omega
   |cons a t=>grind [nz]
theorem Du{b:Nat}(a:2<=b){n:Int}(c:0<=n):val b (dg b n)=n:=by
 unfold dg;rw[Vg b a _ _ ae];omega
theorem Gz{b:Nat}(a:2<=b)(n:Int):AD b (dg b n):=X2 b a _ _
theorem cQ{b:Nat}(a:2<=b)(n:Int):nz (dg b n):=nB b a _ _ ae
theorem JO{b:Nat}(a:2<=b){l:List Int}(c:AD b l)(d:nz l):l=dg b (val b l):=
 val_inj ae c (Gz a _) d (cQ a _) (by grind [Du,AJ])
theorem fU{b:Nat}(a:2<=b){l:List Int}(c:AD b l):AE l=dg b (val b l):=by
 rw[<-KP];grind [JO,Ja,Nn]
theorem oB{b:Nat}(a:2<=b){n:Int}(c:0<=n):dg b n=[]↔n=0:=by
 constructor
 ·grind [Du,val]
 ·rintro rfl;rfl
theorem Kd:∀l:List Int,AE (l++[0])=AE l
 |[]=>rfl
 |d::r=>by
  rw[List.cons_append];unfold AE;rw[Kd r]
theorem hH{l:List Int}{d:Int}(h:d≠0):nz (l++[d]):=by
 grind [nz]
theorem AbV{x:Int}{l:List Int}(a:nz (x::l)):nz l:=by
 grind [nz]
theorem DP{b:Int}(c:0<b):∀ {l:List Int},AD b l->nz l->l≠[]->b^(l.length-1)<=val b l
 |[],_,_,h=>wh rfl h
 |[d],h,a,_=>by
  have:=Kz c h a (by simp);simp at this ⊢;omega
 |d::e::r,h,a,_=>by
  have m:=(h d<|by simp).1;have g:=DP c (l:=e::r) (fun x f=>h x<|by simp[f]) (AbV a) (by simp);have k:(d::e::r).length-1=((e::r).length-1)+1:=by simp
  rw[k,yi,yv];have:=zt g (show 0<=b by omega);unfold val;omega
theorem Bn{b:Int}(a:0<b):∀n:Nat,0<b^n
 |0=>by simp
 |n+1=>by rw[yi];exact Int.mul_pos (Bn a n) a
theorem AY{b:Int}(a:1<=b){m n:Nat}(h:m<=n):b^m<=b^n:=by
 obtain⟨k,rfl⟩:=Nat.exists_eq_add_of_le h;induction k with
 |zero=>simp
 |succ k c=>
  rw[show m+(k+1)=(m+k)+1 from rfl,yi];have hp:=Bn (show 0<b by omega)<|m+k;have:=zt a (show 0<=b^(m+k)by omega);omega
theorem Ft{b:Int}(f:2<=b){l r:List Int}(a:AD b l)(d:AD b r)(c:nz r)(h:l.length<r.length):val b l<val b r:=by
 have a1:=BD ae a;have a2:=DP ae d c ah;have:=AY (show 1<=b by omega) (show l.length<=r.length-1 by omega);omega
theorem AW{b:Int}{l:List Int}(h:AD b l)(i:Nat):AD b (l.take i):=fun d a=>h d ah
theorem Fy{b:Int}{l:List Int}(h:AD b l)(i:Nat):AD b (l.drop i):=fun d a=>h d ah
theorem CG(b:Int)(l:List Int)(i:Nat)(h:i<=l.length):val b l=val b (l.take i)+b^i*val b (l.drop i):=by
 grind [List.take_append_drop,Dm]
theorem Kx{b:Int}(k:2<=b){l r:List Int}{x y:Int}{s:List Int}{i:Nat}(f:AD b l)(hr:AD b r)(d:l.drop i=x::s)(a:r.drop i=y::s)(h:x<y):val b l<val b r:=by
 have c:i<=l.length:=by
  grind [yr]
 have i2:i<=r.length:=by
  grind [yr]
 have a1:=BD ae<|AW f i;have a2:=AJ ae<|AW hr i;rw[CG b l i c,CG b r i i2,d,a,show val b (x::s)=x+b*val b s from rfl,show val b (y::s)=y+b*val b s from rfl];have hp:=Bn (show 0<b by omega) i;have g:b^i*(x+1)<=b^i*y:=zt ae ae;grind
theorem PQ(b:Nat)(a:2<=b):∀(k f n:Nat),n<b^k->(bT b f n).length<=k
 |k,0,n,_=>by simp[bT]
 |0,f+1,n,h=>by
  grind [bT]
 |k+1,f+1,n,h=>by
  unfold bT;split
  ·simp
  ·have:n/b<b^k:=by
    simp_all [Nat.pow_succ,Nat.div_lt_of_lt_mul,Nat.mul_comm]
   have:=PQ b a k f (n/b) this;grind
end Go.Sp
namespace Go.Det
section
inductive PM (α:Type) where
 |leaf
 |node (l:PM α) (v:Option α) (r:PM α)
inductive IA where
 |here
 |l (p:IA)
 |r (p:IA)
variable {α:Type}
def Ab4(f:Nat):Nat->IA:=
 @Nat.rec (fun _=>Nat->IA) (fun _=>.here) (fun _ a i=>bif zh i 0 then .here else bif zh (Nat.mod i 2) 1 then .l (a<|Nat.div i 2)else .r<|a<|Nat.sub (Nat.div i 2) 1) f
def pth(i:Nat):IA:=Ab4 i i
def IA.get(p:IA):PM α->Option α:=
 @IA.rec (fun _=>PM α->Option α)
  (fun m=>@PM.rec α (fun _=>Option α) none (fun _ v _ _ _=>v) m)
  (fun _ a m=>@PM.rec α (fun _=>Option α) none (fun l _ _ _ _=>a l) m)
  (fun _ a m=>@PM.rec α (fun _=>Option α) none (fun _ _ r _ _=>a r) m) p
def IA.set(p:IA):PM α->Option α->PM α:=
 @IA.rec (fun _=>PM α->Option α->PM α)
  (fun m v=>@PM.rec α (fun _=>PM α) (.node .leaf v .leaf) (fun l _ r _ _=>.node l v r) m)
  (fun _ a m v=>@PM.rec α (fun _=>PM α) (.node (a .leaf v) none .leaf) (fun l x r _ _=>.node (a l v) x r) m)
  (fun _ a m v=>@PM.rec α (fun _=>PM α) (.node .leaf none<|a .leaf v) (fun l x r _ _=>.node l x<|a r v) m) p
def PM.get(m:PM α)(i:Nat):Option α:=(pth i).get m
def PM.set(m:PM α)(i:Nat)(v:Option α):PM α:=(pth i).set m v
theorem Bz(a b:Nat):zh a b=decide (a=b):=by
 by_cases h:a=b
 ·simp_all
 grind [Nat.eq_of_beq_eq_true]
def IA.num:IA->Nat
 | .here=>0
 | .l p=>2*p.num+1
 | .r p=>2*(p.num+1)
theorem So:∀(f i:Nat),i<=f->(Ab4 f i).num=i
 |0,i,h=>by cases ae;rfl
 |f+1,i,h=>by
  show IA.num (bif zh i 0 then .here else bif zh (i % 2) 1 then .l (Ab4 f<|i/2)else .r<|Ab4 f<|i/2-1)=i;simp only[Bz];by_cases h0:i=0
  ·subst h0;rfl
  ·by_cases a:i % 2=1
   ·simp only[h0,a,decide_false,decide_true,wg,we,IA.num];rw[So f (i/2) ae];omega
   ·simp only[h0,a,decide_false,wg,IA.num];rw[So f (i/2-1) ae];omega
theorem AaQ{i j:Nat}(h:pth i=pth j):i=j:=by
 have:=wi IA.num h;unfold pth at this;simp_all [So]
theorem IA.ES(p:IA):p.get (.leaf:PM α)=none:=by cases p<;>rfl
theorem IA.get_set_same:∀(p:IA) (m:PM α) (v:Option α),p.get (p.set m v)=v
 | .here,m,v=>by cases m<;>rfl
 | .l p,m,v=>by
  cases m with
  |leaf=>exact IA.get_set_same p .leaf v
  |node l x r=>exact IA.get_set_same p l v
 | .r p,m,v=>by
  cases m with
  |leaf=>exact IA.get_set_same p .leaf v
  |node l x r=>exact IA.get_set_same p r v
theorem IA.GP:∀(p q:IA) (m:PM α) (v:Option α),q≠p->q.get (p.set m v)=q.get m
 | .here,.here,m,v,h=>wh rfl h
 | .here,.l q,m,v,_=>by
  cases m with
  |leaf=>exact q.ES
  |node l x r=>rfl
 | .here,.r q,m,v,_=>by
  cases m with
  |leaf=>exact q.ES
  |node l x r=>rfl
 | .l p,.here,m,v,_=>by cases m<;>rfl
 | .r p,.here,m,v,_=>by cases m<;>rfl
 | .l p,.r q,m,v,_=>by
  cases m with
  |leaf=>exact q.ES
  |node l x r=>rfl
 | .r p,.l q,m,v,_=>by
  cases m with
  |leaf=>exact q.ES
  |node l x r=>rfl
 | .l p,.l q,m,v,h=>by
  have h':q≠p:=ah;cases m with
  |leaf=>exact(IA.GP p q .leaf v h').trans q.ES
  |node l x r=>exact IA.GP p q l v h'
 | .r p,.r q,m,v,h=>by
  have h':q≠p:=ah;cases m with
  |leaf=>exact(IA.GP p q .leaf v h').trans q.ES
  |node l x r=>exact IA.GP p q r v h'
@[simp] theorem PM.DZ(m:PM α)(i:Nat)(v:Option α)(j:Nat):(m.set i v).get j=if j=i then v else m.get j:=by
 unfold PM.get PM.set;by_cases e:j=i
 ·simp_all [IA.get_set_same]
 ·grind [IA.GP,AaQ]
@[simp] theorem PM.ES(j:Nat):(PM.leaf:PM α).get j=none:=IA.ES _
def Fb(l:List α):Nat:=@yo α (fun _=>Nat) 0 (fun _ _ a=>Nat.add a 1) l
theorem DF(l:List α):Fb l=l.length:=by
 induction l with
 |nil=>rfl
 |cons a l b=>simp_all [Fb]
def Lr(n:Nat):List α->List α:=
 @Nat.rec (fun _=>List α->List α) (fun l=>l) (fun _ b l=>@yo α (fun _=>List α) [] (fun _ a _=>b a) l) n
theorem Sk:∀(n:Nat) (l:List α),Lr n l=l.drop n
 |0,_l=>rfl
 |_n+1,[]=>rfl
 |n+1,_a::l=>Sk n l
def fA(n:Nat):List α->List α:=
 @Nat.rec (fun _=>List α->List α) (fun _=>[]) (fun _ c l=>@yo α (fun _=>List α) [] (fun a b _=>a::c b) l) n
theorem RD:∀(n:Nat) (l:List α),fA n l=l.take n
 |0,_l=>rfl
 |_n+1,[]=>rfl
 |n+1,a::l=>wi (a:: ·)<|RD n l
def Lq(vs:List α):List α->List α:=
 @yo α (fun _=>List α->List α) (fun l=>l) (fun v _ b l=>@yo α (fun _=>List α) [] (fun _ a _=>v::b a) l) vs
def CR(n:Nat)(vs:List α):List α->List α:=
 @Nat.rec (fun _=>List α->List α) (fun l=>Lq vs l) (fun _ c l=>@yo α (fun _=>List α) [] (fun a b _=>a::c b) l) n
def Np(f:α->Bool)(l:List α):Bool:=@yo α (fun _=>Bool) true (fun a _ b=>bif f a then b else false) l
theorem GC(f:α->Bool):∀l:List α,Np f l=l.all f
 |[]=>rfl
 |a::l=>by
  show(bif f a then Np f l else false)=_;rw[GC f l,List.all_cons];simp
inductive V where
 |bool (b:Bool)
 |int (k:IntKind) (n:Int)
 |str (s:Z)
 |nilp
 |ptr (b off:Nat)
 |nils
 |sl (b off len cap o:Nat)
 |esl
 |es0
 |junk
 |nilm
 |map (b:Nat)
 |fn (f:Fn) (first captured:List V)
 |yld (b:Nat)
 |nilf
 |iface (t:TypeId) (v:V)
 |nili
 |agg (cs:List V)
 |tup (vs:List V)
 deriving Inhabited
abbrev Pl:=List<|Nat×Nat
def bytesOf(s:Z):ByteArray:=⟨s.toArray⟩
mutual
def Ag(p:Pl):V->Value->Prop
 | .bool b,v=>v=.bool b
 | .int k n,v=>v=.int k n
 | .str s,v=>v=.string (bytesOf s)
 | .nilp,v=>v=.pointer none
 | .ptr b off,v=>∃r n,p[b]?=some (r,n)/\v=.pointer (some ⟨r,off,none⟩)
 | .nils,v=>v=.slice none 0 0
 | .sl b off len cap o,v=>∃r n c,p[b]?=some (r,n)/\v=.slice (some ⟨r,off,none⟩) len c/\len<=cap/\cap<=c/\(o=0->c=cap)/\(o≠0->off+c*o<=n)
 | .esl,v=>∃a c,v=.slice (some a) 0 c
 | .es0,v=>∃a,v=.slice (some a) 0 0
 | .junk,_=>False
 | .nilm,v=>v=.map none
 | .map b,v=>∃r n,p[b]?=some (r,n)/\v=.map (some r)
 | .fn f first captured,v=>∃x y,v=.func f x y/\AB p first x.toList/\AB p captured y.toList
 | .yld b,v=>∃r n,p[b]?=some (r,n)/\v=.func (.yield r) #[] #[]
 | .nilf,v=>v=.nilFunc
 | .iface t x,v=>∃y,v=.iface t y/\Ag p x y
 | .nili,v=>v=.nilIface
 | .agg cs,v=>∃x,v=.agg x/\AB p cs x.toList
 | .tup cs,v=>∃x,v=.tuple x/\AB p cs x.toList
def AB(p:Pl):List V->List Value->Prop
 |[],l=>l=[]
 |d::ds,l=>∃v vs,l=v::vs/\Ag p d v/\AB p ds vs
end
@[simp] theorem KO(p:Pl)(l:List Value):AB p [] l↔l=[]:=by rfl
@[simp] theorem BE(p:Pl)(d:V)(ds:List V)(v:Value)(vs:List Value):AB p (d::ds) (v::vs)↔Ag p d v/\AB p ds vs:=by
 simp only[AB];grind
@[simp] theorem yQ(p:Pl)(d:V)(ds:List V):¬AB p (d::ds) []:=by
 simp[AB]
theorem AB.length{p:Pl}:∀ {ds:List V} {vs:List Value},AB p ds vs->ds.length=vs.length
 |[],vs,h=>by simp_all
 |d::ds,[],h=>by simp at h
 |d::ds,v::vs,h=>by simp at h;simp[h.2.length]
theorem AB.get{p:Pl}:∀ {ds:List V} {vs:List Value},AB p ds vs->∀ {i:Nat} {d:V},ds[i]?=some d->∃v,vs[i]?=some v/\Ag p d v
 |[],vs,_,i,d,a=>by grind
 |d::ds,[],h,_,_,_=>by simp at h
 |d::ds,v::vs,h,i,x,a=>by
  simp at h;cases i with
  |zero=>grind
  |succ i=>simpa using h.2.get a
theorem AB.mk{p:Pl}:∀ {ds:List V} {vs:List Value},ds.length=vs.length->(∀(i:Nat) d v,ds[i]?=some d->vs[i]?=some v->Ag p d v)->AB p ds vs
 |[],[],_,_=>by simp
 |[],_::_,h,_=>by simp at h
 |_::_,[],h,_=>by simp at h
 |d::ds,v::vs,h,a=>by
  simp at h;rw[BE];exact⟨a 0 d v rfl rfl,AB.mk h<|fun i b v' f c=>a (i+1) b v' ah ah⟩
theorem AB.append{p:Pl}:∀ {a:List V} {x:List Value} {b:List V} {y:List Value},AB p a x->AB p b y->AB p (a++b) (x++y)
 |[],x,b,y,h,h'=>by simp_all
 |d::ds,[],_,_,h,_=>by simp at h
 |d::ds,v::vs,b,y,h,h'=>by simp at h;simp[h.1,h.2.append h']
theorem AB.take{p:Pl}:∀ {a:List V} {x:List Value} (n:Nat),AB p a x->AB p (a.take n) (x.take n)
 |[],x,n,h=>by simp_all
 |d::ds,[],_,h=>by simp at h
 |d::ds,v::vs,0,h=>by simp
 |d::ds,v::vs,n+1,h=>by simp at h;simp[h.1,h.2.take n]
theorem AB.drop{p:Pl}:∀ {a:List V} {x:List Value} (n:Nat),AB p a x->AB p (a.drop n) (x.drop n)
 |[],x,n,h=>by simp_all
 |d::ds,[],_,h=>by simp at h
 |d::ds,v::vs,0,h=>by grind
 |d::ds,v::vs,n+1,h=>by simp at h;simpa using h.2.drop n
theorem AB.set{p:Pl}:∀ {a:List V} {x:List Value} (i:Nat) {d:V} {v:Value},AB p a x->Ag p d v->AB p (a.set i d) (x.set i v)
 |[],x,n,_,_,h,_=>by simp_all
 |d::ds,[],_,_,_,h,_=>by simp at h
 |d::ds,v::vs,0,_,_,h,h'=>by simp_all
 |d::ds,v::vs,n+1,_,_,h,h'=>by simp at h;simp[h.1,h.2.set n h']
mutual
theorem Ag.mono{p:Pl}(q:Pl):∀ {d:V} {v:Value},Ag p d v->Ag (p++q) d v
 | .bool _,_,h=>by simpa [Ag]using h
 | .int _ _,_,h=>by simpa [Ag]using h
 | .str _,_,h=>by simpa [Ag]using h
 | .nilp,_,h=>by simpa [Ag]using h
 | .ptr b off,v,h=>by
  grind [Ag]
 | .nils,_,h=>by simpa [Ag]using h
 | .sl b off len cap o,v,h=>by
  grind [Ag]
 | .esl,_,h=>by simpa [Ag]using h
 | .es0,_,h=>by simpa [Ag]using h
 | .junk,_,h=>by simp[Ag]at h
 | .nilm,_,h=>by simpa [Ag]using h
 | .map b,v,h=>by
  grind [Ag]
 | .fn f a b,v,h=>by
  obtain⟨x,y,rfl,c,g⟩:=h;exact⟨x,y,rfl,AB.mono q c,AB.mono q g⟩
 | .yld b,v,h=>by
  grind [Ag]
 | .nilf,_,h=>by simpa [Ag]using h
 | .iface t x,v,h=>by
  simp only[Ag]at h ⊢;obtain⟨y,rfl,c⟩:=h;simp_all [Ag.mono]
 | .nili,_,h=>by simpa [Ag]using h
 | .agg cs,v,h=>by
  simp only[Ag]at h ⊢;obtain⟨x,rfl,c⟩:=h;simp_all [AB.mono]
 | .tup cs,v,h=>by
  simp only[Ag]at h ⊢;obtain⟨x,rfl,c⟩:=h;simp_all [AB.mono]
theorem AB.mono{p:Pl}(q:Pl):∀ {ds:List V} {vs:List Value},AB p ds vs->AB (p++q) ds vs
 |[],_,h=>by simp_all
 |_::_,[],h=>by simp at h
 |d::ds,v::vs,h=>by simp only[BE]at h ⊢;exact⟨Ag.mono q h.1,AB.mono q h.2⟩
end
structure Fr where
 n:Nat
 m:PM V
def Fr.get(f:Fr)(t:Nat):V:=(f.m.get t).getD<|.tup []
def Fr.put(f:Fr)(d:Option Nat)(v:V):Option Fr:=
 match d with
 |none=>some f
 |some t=>bif ya t f.n then some ⟨f.n,f.m.set t<|some v⟩else none
def Ff(p:Pl)(f:Fr)(tmps:Array Value):Prop:=f.n=tmps.size/\∀t,Ag p (f.get t)<|tmps.getD t undef
def CS(p:Pl)(f:Fr)(a:Act):Prop:=f.n=a.tmps.size/\∀t,Ag p (f.get t)<|a.tmps.getD t undef
theorem Ff.mono{p:Pl}(q:Pl){f:Fr}{tmps:Array Value}(h:Ff p f tmps):Ff (p++q) f tmps:=⟨h.1,fun t=>(h.2 t).mono q⟩
structure LS where
 st:LoopState
 pend:Option Code
 fr:Fr
 ps:Array Tmp
 asg:Code
 body:Code
 db:Nat
inductive O where
 |cells (cs:List V) (elem:TypeId) (fz:Nat×Nat)
 |map (es:List (V×V×Nat)) (clock:Nat)
 |siter (s:Z) (pos:Nat)
 |miter (b:Option Nat) (since:Nat) (seen:List Nat) (last:Nat)
 |loop (l:LS)
 |defd (open_:Bool)
structure H where
 m:PM O
 nx:Nat
def H.get(h:H)(b:Nat):Option O:=h.m.get b
def H.push(h:H)(o:O):H:=⟨h.m.set h.nx<|some o,h.nx+1⟩
def H.put(h:H)(b:Nat)(o:O):H:=⟨h.m.set b<|some o,h.nx⟩
def H.kill(h:H)(b:Nat):H:=⟨h.m.set b none,h.nx⟩
@[simp] theorem H.C2(h:H)(o:O)(b:Nat):(h.push o).get b=if b=h.nx then some o else h.get b:=by simp[H.push,H.get]
@[simp] theorem H.C1(h:H)(b:Nat)(o:O)(j:Nat):(h.put b o).get j=if j=b then some o else h.get j:=by simp[H.put,H.get]
@[simp] theorem H.Ea(h:H)(b:Nat)(j:Nat):(h.kill b).get j=if j=b then none else h.get j:=by simp[H.kill,H.get]
@[simp] theorem H.Aix(h:H)(o:O):(h.push o).nx=h.nx+1:=rfl
@[simp] theorem H.AjF(h:H)(b:Nat)(o:O):(h.put b o).nx=h.nx:=rfl
@[simp] theorem H.fM(h:H)(b:Nat):(h.kill b).nx=h.nx:=rfl
inductive Ec (p:Pl):List (V×V×Nat)->List MapEntry->Prop
 |nil:Ec p [] []
 |cons {k v:V} {b:Nat} {es:List (V×V×Nat)} {e:MapEntry} {l:List MapEntry}:Ag p k e.key->Ag p v e.val->e.born=b->Ec p es l->Ec p ((k,v,b)::es) (e::l)
def V.ok:V->Bool
 | .junk=>false
 |_=>true
def E2(p:Pl)(cs:List V)(vs:List Value):Prop:=cs.length=vs.length/\∀(i:Nat) d v,cs[i]?=some d->vs[i]?=some v->d.ok=true->Ag p d v
theorem AB.toC{p:Pl}{cs:List V}{vs:List Value}(h:AB p cs vs):E2 p cs vs:=⟨h.length,fun i d v a c _=>by
 obtain⟨u,b,f⟩:=h.get a;grind⟩
theorem E2.get{p:Pl}{cs:List V}{vs:List Value}(h:E2 p cs vs){i:Nat}{d:V}(a:cs[i]?=some d)(b:d.ok=true):∃v,vs[i]?=some v/\Ag p d v:=by
 have c:i<vs.length:=by rw[<-h.1];grind
 exact⟨vs[i],(by simp),h.2 i d _ a (by simp) b⟩
theorem E2.drop{p:Pl}{cs:List V}{vs:List Value}(h:E2 p cs vs)(n:Nat):E2 p (cs.drop n) (vs.drop n):=
 ⟨by simp[h.1],fun i d v b a=>h.2 (n+i) d v ah ah⟩
theorem E2.take{p:Pl}{cs:List V}{vs:List Value}(h:E2 p cs vs)(n:Nat):E2 p (cs.take n) (vs.take n):=
 ⟨by simp[h.1],fun i d v b a=>by
  have c:i<n:=ah
  rw[zq c]at b a;exact h.2 i d v b a⟩
theorem E2.Pq{p:Pl}{cs:List V}{vs:List Value}(h:E2 p cs vs)(c:∀d∈cs,d.ok=true):AB p cs vs:=
 AB.mk h.1 fun i d v b a=>h.2 i d v b a ah
def Mt(p:Pl)(n:Nat):O->Obj->Prop
 | .cells cs t fz,o=>∃(c:Array Value) (fz':Nat×Nat),o=.cells c t fz'/\c.size=n/\cs.length<=n/\E2 p cs (c.toList.take cs.length)/\∀i,i<n->fz'.1<=i->i<fz'.2->fz.1<=i/\i<fz.2
 | .map es clock,o=>∃l:Array MapEntry,o=.map l clock/\Ec p es l.toList
 | .siter s pos,o=>o=.stringIter (bytesOf s) pos
 | .miter none since seen last,o=>o=.mapIter none since seen.toArray last
 | .miter (some b) since seen last,o=>∃r m,p[b]?=some (r,m)/\o=.mapIter (some r) since seen.toArray last
 | .loop l,o=>∃(fn:FuncId) (tmps:Array Value) (r m:Nat),Ff p l.fr tmps/\p[l.db]?=some (r,m)/\o=.loop { state:=l.st,pending:=l.pend,fn,tmps,params:=l.ps,assign:=l.asg,body:=l.body,defers:=r }
 | .defd op,o=>o=.deferred (bif op then some []else none)
theorem E2.mono{p:Pl}(q:Pl){cs:List V}{vs:List Value}(h:E2 p cs vs):E2 (p++q) cs vs:=⟨h.1,fun i d v c b a=>(h.2 i d v c b a).mono q⟩
theorem Ec.mono{p:Pl}(q:Pl){es:List (V×V×Nat)}{l:List MapEntry}(h:Ec p es l):Ec (p++q) es l:=by
 induction h with
 |nil=>exact .nil
 |cons d c b _ a=>exact .cons (d.mono q) (c.mono q) b a
theorem Mt.mono{p:Pl}(q:Pl){n:Nat}{o:O}{x:Obj}(h:Mt p n o x):Mt (p++q) n o x:=by
 cases o with
 |cells cs t fz=>obtain⟨c,fz',d,a,g,f,k⟩:=h;exact⟨c,fz',d,a,g,f.mono q,k⟩
 |map es u=>obtain⟨l,d,a⟩:=h;exact⟨l,d,a.mono q⟩
 |siter s pos=>exact h
 |miter b since seen last=>
  cases b with
  |none=>exact h
  |some b=>
   obtain⟨r,m,d,a⟩:=h;exact⟨r,m,by grind,a⟩
 |loop l=>
  obtain⟨fn,tmps,r,m,h0,d,a⟩:=h;exact⟨fn,tmps,r,m,h0.mono q,by grind,a⟩
 |defd _=>exact h
structure R(p:Pl)(h:H)(w:World):Prop where
 len:p.length=h.nx
 obj:∀b o,h.get b=some o->∃r n x,p[b]?=some (r,n)/\w.heap[r]?=some x/\Mt p n o x
 inj:∀b b' o o' r n n',h.get b=some o->h.get b'=some o'->p[b]?=some (r,n)->p[b']?=some (r,n')->b=b'
def Im(p:Pl)(h:H)(r:Nat):Prop:=∃b o n,h.get b=some o/\p[b]?=some (r,n)
def Lk(n:Nat)(fz:Nat×Nat):Prop:=fz.1=0/\n<=fz.2/\0<fz.2
def Lkd(p:Pl)(h:H)(r:Nat):Prop:=∃b n cs t fz,h.get b=some (.cells cs t fz)/\p[b]?=some (r,n)/\Lk n fz
structure Ext(p:Pl)(h:H)(w:World)(p':Pl)(h':H)(w':World):Prop where
 pre:∃q,p'=p++q
 rel:R p' h' w'
 size:w.heap.size<=w'.heap.size
 same:∀r,r<w.heap.size->¬Im p h r->w'.heap[r]?=w.heap[r]?
 im:∀r,Im p' h' r->Im p h r\/w.heap.size<=r
 os:w'.os=w.os
 out:w'.output=w.output
 tape:w'.tape=w.tape
 lock:∀r,r<w.heap.size->Lkd p h r->w'.heap[r]?=w.heap[r]?/\(Lkd p' h' r\/¬Im p' h' r)
theorem Ext.refl{p:Pl}{h:H}{w:World}(hr:R p h w):Ext p h w p h w:=
 ⟨(by simp),hr,zi _,(by simp),ah,rfl,rfl,rfl,ah⟩
theorem Ext.trans{p m o:Pl}{h l d:H}{w g k:World}(a:Ext p h w m l g)(b:Ext m l g o d k):Ext p h w o d k:=by
 obtain⟨q,B⟩:=a.pre;obtain⟨q',hq'⟩:=b.pre;refine⟨ah,b.rel,yw a.size b.size,fun r hr y=>?_,fun r hr=>?_,b.os.trans a.os,b.out.trans a.out,b.tape.trans a.tape,fun r s x=>?_⟩
 ·rw[b.same r (Nat.lt_of_lt_of_le hr a.size) ?_,a.same r hr y];intro c;rcases a.im r c with u|u
  ·grind
  ·omega
 ·rcases b.im r hr with c|c
  ·exact a.im r c
  ·exact .inr<|yw a.size c
 ·obtain⟨v,c⟩:=a.lock r s x;have f:=Nat.lt_of_lt_of_le s a.size;rcases c with c|c
  ·obtain⟨C,u⟩:=b.lock r f c;grind
  ·refine⟨(b.same r f c).trans v,.inr fun A=>?_⟩;rcases b.im r A with u|u
   ·grind
   ·omega
theorem Ext.rR{p p':Pl}{h h':H}{w w':World}(e:Ext p h w p' h' w'){d:V}{v:Value}(a:Ag p d v):Ag p' d v:=by
 obtain⟨q,rfl⟩:=e.pre;exact a.mono q
theorem Ext.drew{p:Pl}{h:H}{w:World}(hr:R p h w)(n:Nat):Ext p h w p h { w with drawn:=n }:=
 ⟨(by simp),⟨hr.len,hr.obj,hr.inj⟩,zi _,(by simp),ah,rfl,rfl,rfl,ah⟩
theorem R.lt{p:Pl}{h:H}{w:World}(hr:R p h w){b:Nat}{o:O}(a:h.get b=some o):b<h.nx:=by
 obtain⟨r,n,x,c,_⟩:=hr.obj b o a;have:=(zn.1 c).1;have:=hr.len;omega
theorem R.cL{p:Pl}{h:H}{w:World}(hr:R p h w){r:Nat}(c:Im p h r):r<w.heap.size:=by
 obtain⟨b,o,n,a,d⟩:=c;obtain⟨r',n',x,h3,h4,_⟩:=hr.obj b o a;grind
theorem Ext.push{p:Pl}{h:H}{w:World}(hr:R p h w){o:O}{x:Obj}{n:Nat}(K:Mt p n o x):
  Ext p h w (p++[(w.heap.size,n)]) (h.push o) { w with heap:=w.heap.push x }:=by
 have Q:∀b o',h.get b=some o'->b≠h.nx:=fun b o' a=>by have:=hr.lt a;omega
 have q:(p++[(w.heap.size,n)])[h.nx]?=some (w.heap.size,n):=by rw[<-hr.len];simp
 have g:∀b,b<h.nx->(p++[(w.heap.size,n)])[b]?=p[b]?:=ah;refine⟨⟨_,rfl⟩,⟨by simp[hr.len],fun b o' a=>?_,fun b b' d f r m D a u k l=>?_⟩,by simp,fun r v _=>?_,fun r J=>?_,rfl,rfl,rfl,fun r v I=>?_⟩
 ·rw[H.C2]at a;by_cases e:b=h.nx
  ·subst e;simp at a;subst a;exact⟨_,_,x,q,by simp,K.mono _⟩
  ·rw[wc e]at a;obtain⟨r,m,y,k,l,G⟩:=hr.obj b o' a;refine⟨r,m,y,by grind,?_,G.mono _⟩;grind
 ·have key:∀c o' r m,(h.push o).get c=some o'->(p++[(w.heap.size,n)])[c]?=some (r,m)->(c=h.nx/\r=w.heap.size)\/(h.get c=some o'/\p[c]?=some (r,m)/\r<w.heap.size):=by
   intro c o' r m s hp;rw[H.C2]at s;by_cases e:c=h.nx
   ·grind
   ·rw[wc e]at s;rw[g c<|hr.lt s]at hp;exact .inr ⟨s,hp,hr.cL ⟨c,o',m,s,hp⟩⟩
  rcases key b d r m a k with⟨A,E⟩|⟨A,E,L⟩<;>rcases key b' f r D u l with⟨C,B⟩|⟨C,B,M⟩
  ·omega
  ·omega
  ·omega
  ·exact hr.inj b b' d f r m D A C E B
 ·grind
 ·obtain⟨b,o',m,k,l⟩:=J;rw[H.C2]at k;by_cases e:b=h.nx
  ·grind
  ·rw[wc e]at k;rw[g b<|hr.lt k]at l;exact .inl ⟨b,o',m,k,l⟩
 ·refine⟨by grind,.inl ?_⟩;obtain⟨b,m,cs,t,fz,N,S,F⟩:=I;refine⟨b,m,cs,t,fz,?_,?_,F⟩
  ·simp_all
  grind
theorem Ext.put{p:Pl}{h:H}{w w':World}(hr:R p h w){b r n:Nat}{o o':O}{x':Obj}(l:h.get b=some o)(hp:p[b]?=some (r,n))(S:Mt p n o' x')
  (J:w'.heap=w.heap.setIfInBounds r x') (D:w'.os=w.os) (A:w'.output=w.output) (K:w'.tape=w.tape)
  (I:∀cs t fz,o=.cells cs t fz->Lk n fz->w.heap[r]?=some x'/\∃cs' F,o'=.cells cs' F fz:=by intro _ _ _ h;cases h):Ext p h w p (h.put b o') w':=by
 have Q:r<w.heap.size:=hr.cL ⟨b,o,n,l,hp⟩;refine⟨(by simp),⟨hr.len,fun c d a=>?_,fun c G d k s m V a E D A=>?_⟩,by simp[J],fun s U M=>?_,fun s N=>?_,D,A,K,fun s U L=>?_⟩
 ·rw[H.C1]at a;by_cases e:c=b
  ·subst e;simp at a;subst a;exact⟨r,n,x',hp,by grind,S⟩
  ·rw[wc e]at a;obtain⟨s,m,y,f,q,W⟩:=hr.obj c d a;have u:r≠s:=fun B=>e<|hr.inj c b d o s m n a l f<|B▸hp
   grind
 ·have g:∀c d,(h.put b o').get c=some d->∃k,h.get c=some k:=by
   intro c d a;rw[H.C1]at a;grind
  obtain⟨_,f⟩:=g c d a;obtain⟨_,q⟩:=g G k E;exact hr.inj c G _ _ s m V f q D A
 ·have u:r≠s:=fun e=>M<|e▸⟨b,o,n,l,hp⟩
  grind
 ·obtain⟨c,d,m,f,q⟩:=N;rw[H.C1]at f;by_cases e:c=b
  ·subst e;exact .inl ⟨c,o,m,l,q⟩
  ·rw[wc e]at f;exact .inl ⟨c,d,m,f,q⟩
 ·obtain⟨c,m,cs,t,fz,C,v,x⟩:=L;by_cases e:c=b
  ·subst e;rw[hp]at v;cases v;rw[l]at C;cases C;obtain⟨f,cs',F,rfl⟩:=I cs t fz rfl x;refine⟨?_,.inl ⟨c,n,cs',F,fz,by simp,hp,x⟩⟩;grind
  ·have u:r≠s:=fun B=>e<|hr.inj c b _ o s m n C l v<|B▸hp
   refine⟨by grind,.inl ⟨c,m,cs,t,fz,by simp_all,v,x⟩⟩
theorem R.kill{p:Pl}{h:H}{w:World}(hr:R p h w)(b:Nat):R p (h.kill b) w:=by
 have sub:∀c o,(h.kill b).get c=some o->h.get c=some o:=by
  simp
 exact⟨hr.len,fun c o a=>hr.obj c o<|sub c o a,fun c f o o' r n n' a d=>hr.inj c f o o' r n n' (sub c o a) ah⟩
theorem Ext.kill{p:Pl}{h:H}{w:World}(hr:R p h w)(b:Nat):Ext p h w p (h.kill b) w:=by
 refine⟨(by simp),hr.kill b,zi _,(by simp),fun r y=>?_,rfl,rfl,rfl,fun r k u=>⟨rfl,?_⟩⟩
 ·obtain⟨c,o,n,d,x⟩:=y;rw[H.Ea]at d;split at d
  ·cases d
  ·exact .inl ⟨c,o,n,d,x⟩
 ·obtain⟨c,m,cs,t,fz,A,g,s⟩:=u;by_cases e:c=b
  ·subst e;refine .inr ?_;rintro⟨q,o',v,a,l⟩;rw[H.Ea]at a;split at a
   ·cases a
   ·rename_i f;exact f<|hr.inj q c _ _ r v m a A l g
  ·exact .inl ⟨c,m,cs,t,fz,by simp_all,g,s⟩
theorem Ext.move{p:Pl}{h:H}{w w':World}(hr:R p h w){b r n:Nat}{o o':O}{x':Obj}(A:h.get b=some o)(hp:p[b]?=some (r,n))(Z:Mt p n o' x')
  (K:w'.heap=w.heap.setIfInBounds r x') (J:w'.os=w.os) (X:w'.output=w.output) (S:w'.tape=w.tape) (hk:∀cs t fz,o=.cells cs t fz->¬Lk n fz):Ext p h w (p++[(r,n)]) ((h.kill b).push o') w':=by
 have W:r<w.heap.size:=hr.cL ⟨b,o,n,A,hp⟩;have k:(p++[(r,n)])[h.nx]?=some (r,n):=by rw[<-hr.len];simp
 have f:∀b,b<h.nx->(p++[(r,n)])[b]?=p[b]?:=ah;have d:∀c a,((h.kill b).push o').get c=some a->(c=h.nx/\a=o')\/(c≠b/\c<h.nx/\h.get c=some a):=by
  intro c a g;rw[H.C2,H.fM,H.Ea]at g;by_cases e:c=h.nx
  ·grind
  ·rw[wc e]at g;by_cases l:c=b
   ·grind
   ·rw[wc l]at g;exact .inr ⟨l,hr.lt g,g⟩
 have ne:∀c a s m,c≠b->h.get c=some a->p[c]?=some (s,m)->r≠s:=fun c a s m g hg D e=>g<|hr.inj c b a o s m n hg A D<|e▸hp
 refine⟨⟨_,rfl⟩,⟨by simp[hr.len],fun c a g=>?_,fun c B a v s m m' g E I G=>?_⟩,by simp[K],fun s D Q=>?_,fun s U=>?_,J,X,S,fun s D M=>?_⟩
 ·rcases d c a g with⟨rfl,rfl⟩|⟨F,l,u⟩
  ·exact⟨r,n,x',k,by grind,Z.mono _⟩
  ·obtain⟨s,m,y,x,q,C⟩:=hr.obj c a u;refine⟨s,m,y,by grind,?_,C.mono _⟩;grind
 ·rcases d c a g with⟨rfl,rfl⟩|⟨F,l,u⟩<;>rcases d B v E with⟨rfl,rfl⟩|⟨f1,N,L⟩
  ·rfl
  ·grind
  ·grind
  ·rw[f c l]at I;rw[f B N]at G;exact hr.inj c B a v s m m' u L I G
 ·have Y:r≠s:=fun e=>Q<|e▸⟨b,o,n,A,hp⟩
  grind
 ·obtain⟨c,a,m,x,q⟩:=U;rcases d c a x with⟨rfl,rfl⟩|⟨F,l,u⟩
  ·rw[k]at q;cases q;exact .inl ⟨b,o,n,A,hp⟩
  ·rw[f c l]at q;exact .inl ⟨c,a,m,u,q⟩
 ·obtain⟨c,m,cs,t,fz,x,q,C⟩:=M;by_cases e:c=b
  ·grind
  ·have V:=hr.lt x;refine⟨by grind,.inl ⟨c,m,cs,t,fz,?_,by grind,C⟩⟩;rw[H.C2,H.fM,wc ae,H.Ea,wc e];exact x
end
def Aiv(l:List Nat):List V:=l.map fun n=>.int .u64<|.ofNat n
def Hd:List (Nat×O):=[(5,.cells (Aiv [1,10,100,1000,10000,100000,1000000,10000000,100000000,1000000000,10000000000,100000000000,1000000000000,10000000000000,100000000000000,1000000000000000,10000000000000000,100000000000000000,1000000000000000000,10000000000000000000]) 325 (0,20))]
mutual
def V.flat:V->Bool
 | .bool _| .int _ _| .str _| .nilp| .nils| .nilm| .nilf| .nili=>true
 | .agg l| .tup l=>V.Kj l
 |_=>false
def V.Kj:List V->Bool
 |[]=>true
 |v::vs=>v.flat&&V.Kj vs
end
mutual
theorem V.Dx{p q:Pl}:∀ {v:V} {v':Value},v.flat=true->Ag p v v'->Ag q v v'
 | .bool _,_,_,h| .int _ _,_,_,h| .str _,_,_,h| .nilp,_,_,h| .nils,_,_,h| .nilm,_,_,h| .nilf,_,_,h| .nili,_,_,h=>by simpa [Ag]using h
 | .agg l,_,a,h=>by
  obtain⟨x,rfl,b⟩:=h;exact⟨x,rfl,V.KL (by simpa [V.flat]using a) b⟩
 | .tup l,_,a,h=>by
  obtain⟨x,rfl,b⟩:=h;exact⟨x,rfl,V.KL (by simpa [V.flat]using a) b⟩
 | .ptr _ _,_,a,_| .sl _ _ _ _ _,_,a,_| .map _,_,a,_| .fn _ _ _,_,a,_| .yld _,_,a,_| .iface _ _,_,a,_=>by simp[V.flat]at a
theorem V.KL{p q:Pl}:∀ {v:List V} {v':List Value},V.Kj v=true->AB p v v'->AB q v v'
 |[],_,_,h=>by simp_all
 |_::_,[],_,h=>by simp at h
 |v::vs,x::b,a,h=>by
  simp only[V.Kj,zo]at a;rw[BE]at h ⊢;exact⟨V.Dx a.1 h.1,V.KL a.2 h.2⟩
end
def osz:O->Nat
 | .cells cs _ _=>cs.length
 |_=>0
def gin(g:Nat):List (Nat×O)->Bool
 |[]=>false
 |(i,_)::l=>bif zh i g then true else gin g l
def hGm:List (Nat×O)->PM O
 |[]=>.leaf
 |(i,o)::l=>(hGm l).set i<|some o
def QZ:List (Nat×O)->Nat
 |[]=>0
 |(i,_)::l=>bif zl (i+1) (QZ l)then QZ l else i+1
def hG:H:=⟨hGm Hd,QZ Hd⟩
def gok:List (Nat×O)->Bool
 |[]=>true
 |(_,.cells cs _ (a,b))::l=>V.Kj cs&&zh a 0&&zh b cs.length&&ya 0 b&&gok l
 |_=>false
theorem gY:gok Hd=true:=by rfl
theorem gA{g:Nat}:∀ {l:List (Nat×O)},gin g l=true->∃o,(g,o)∈l
 |[],h=>by cases h
 |(i,o)::l,h=>by
  unfold gin at h;cases a:zh i g with
  |true=>simp_all
  |false=>
   rw[a]at h;obtain⟨o',b⟩:=gA h;grind
theorem Vf:∀ {l:List (Nat×O)},gok l=true->∀x∈l,∃cs t,x.2=.cells cs t (0,cs.length)/\V.Kj cs=true/\0<cs.length
 |[],_,x,c=>by cases c
 |(i,.cells cs t (a,b))::l,h,x,c=>by
  simp only[gok,zo]at h;obtain⟨⟨⟨⟨k,f⟩,d⟩,m⟩,g⟩:=h;rcases ym.1 c with rfl|c
  ·have f:a=0:=by simp_all
   have d:b=cs.length:=by simp_all
   subst f d;exact⟨cs,t,rfl,k,(by simp_all)⟩
  ·exact Vf g x c
theorem Nr:∀ {l:List (Nat×O)} {b:Nat} {o:O},(hGm l).get b=some o->(b,o)∈l
 |[],b,o,h=>by simp[hGm]at h
 |(i,o')::l,b,o,h=>by
  simp only[hGm,PM.DZ]at h;by_cases e:b=i
  ·grind
  ·rw[wc e]at h;exact List.mem_cons_of_mem _<|Nr h
theorem hZ{n:Nat}:∀ {l:List (Nat×O)},(∀x∈l,x.1<n)->QZ l<=n
 |[],_=>Nat.zero_le _
 |(i,o)::l,h=>by
  have c:=h (i,o) (by simp);have b:=hZ (l:=l) fun x a=>h x ah
  grind [QZ]
theorem Wh:∀ {l:List (Nat×O)},∀x∈l,x.1<QZ l
 |[],x,a=>by cases a
 |(i,o)::l,x,a=>by
  unfold QZ;rcases ym.1 a with rfl|a
  ·cases b:zl (i+1) (QZ l)with
   |true=>have:=Nat.le_of_ble_eq_true b;grind
   |false=>simp
  ·have:=Wh (l:=l) x a;grind [Nat.ble_eq_true_of_le]
def Gp(p:Pl):Prop:=∀x∈Hd,p[x.1]?=some (x.1,osz x.2)
def Gh(h:H):Prop:=∀x∈Hd,h.get x.1=some x.2
theorem Gp.app{p:Pl}(h:Gp p)(q:Pl):Gp (p++q):=fun x a=>by
 have:=h x a;grind
theorem Gp.top{p:Pl}(h:Gp p):QZ Hd<=p.length:=hZ fun x a=>(zn.1<|h x a).1
theorem Gp.take{p:Pl}(h:Gp p):Gp (p.take<|QZ Hd):=fun x a=>by
 rw[zq<|Wh x a];exact h x a
theorem E2.flat{p q:Pl}{cs:List V}{vs:List Value}(g:V.Kj cs=true)(h:E2 p cs vs):E2 q cs vs:=
 ⟨h.1,fun i d v b f c=>V.Dx (by
  have:=List.mem_of_getElem? b;clear h b f c;induction cs with
  |nil=>grind
  |cons a cs k=>
   simp only[V.Kj,zo]at g;grind)<|h.2 i d v b f c⟩
theorem Afo{p:Pl}{h:H}{w:World}(hr:R p h w)(hp:Gp p)(q:Gh h):R (p.take<|QZ Hd) hG w:=by
 refine⟨by rw[List.length_take,Nat.min_eq_left hp.top];rfl,fun b o f=>?_,fun b b' o o' r n n' f a g k=>?_⟩
 ·have d:=Nr f;obtain⟨cs,t,e,l,u⟩:=Vf gY _ d;obtain⟨r,n,x,g,k,h3⟩:=hr.obj b o<|q _ d;refine⟨r,n,x,by rw[zq<|Wh _ d];exact g,k,?_⟩;subst e;obtain⟨c,fz',k1,k2,k3,k4,k5⟩:=h3;exact⟨c,fz',k1,k2,k3,k4.flat l,k5⟩
 ·have s:=Nr f;have m:=Nr a;have v:=hp.take _ s;have y:=hp.take _ m;grind
theorem Ext.Hd{p:Pl}{w w':World}{p':Pl}{h':H}(hp:Gp p)(d:Ext p hG w p' h' w')(r:Nat)(hr:r<w.heap.size):w'.heap[r]?=w.heap[r]?:=by
 by_cases g:Im p hG r
 ·obtain⟨b,o,n,a,f⟩:=g;have c:=Nr a;obtain⟨cs,t,e,hf,hl⟩:=Vf gY _ c;subst e;have:=hp _ c;rw[this]at f;cases f;exact(d.lock _ hr ⟨_,_,_,_,_,a,this,rfl,zi _,hl⟩).1
 ·exact d.same r hr g
section
variable {p:Pl}
def V.cells:V->List V
 | .agg cs=>cs
 |v=>[v]
theorem Ag.cells{d:V}{v:Value}(b:Ag p d v):AB p d.cells v.cells.toList:=by
 cases d<;>simp only[V.cells]<;>simp only[Ag]at b
 case agg cs=>obtain⟨x,rfl,f⟩:=b;exact f
 case bool=>simp_all [zk,Ag]
 case int=>simp_all [zk,Ag]
 case str=>simp_all [zk,Ag]
 case nilp=>simp_all [zk,Ag]
 case nils=>simp_all [zk,Ag]
 case nilm=>simp_all [zk,Ag]
 case nilf=>simp_all [zk,Ag]
 case nili=>simp_all [zk,Ag]
 case ptr=>obtain⟨r,n,f,rfl⟩:=b;simp[zk,Ag,f]
 case esl=>obtain⟨a,c,rfl⟩:=b;simp[zk,Ag]
 case es0=>obtain⟨a,rfl⟩:=b;simp[zk,Ag]
 case sl=>obtain⟨r,n,c,f,rfl,g⟩:=b;simp only[zk,BE,KO,ve];simp only[Ag];grind
 case map=>obtain⟨r,n,f,rfl⟩:=b;simp[zk,Ag,f]
 case yld=>obtain⟨r,n,f,rfl⟩:=b;simp[zk,Ag,f]
 case fn=>obtain⟨x,y,rfl,f,g⟩:=b;simp only[zk,BE,KO,ve];simp only[Ag];grind
 case iface=>obtain⟨y,rfl,f⟩:=b;simp_all [zk,Ag]
 case tup=>obtain⟨x,rfl,f⟩:=b;simp_all [zk,Ag]
end
structure TI where
 size:Nat
 bytes:Nat
 zv:V
def TI.zero(i:TI):List V:=i.zv.cells
inductive FK where
 |bool
 |str
 |int (k:IntKind)
def FK.ok:FK->V->Bool
 | .bool,.bool _=>true
 | .str,.str _=>true
 | .int k,.int a _=>k==a
 |_,_=>false
def fit:List FK->List V->Bool
 |[],[]=>true
 |k::ks,v::vs=>bif k.ok v then fit ks vs else false
 |_,_=>false
structure Co where
 und:TypeId->Option TypeDesc
 inf:TypeId->Option TI
 flat:TypeId->Option (List FK)
 mth:TypeId->String->Option FuncId
def EP:V->V->Option Bool
 | .bool a,.bool b=>some<|a==b
 | .int k a,.int c b=>if k=c then some (a==b)else none
 | .str a,.str b=>some<|a==b
 |_,_=>none
def Ch:List V->List V->Option Bool
 |[],[]=>some true
 |a::c,b::d=>
  match EP a b with
  |some true=>Ch c d
  |some false=>if c.length=d.length then some false else none
  |none=>none
 |_,_=>none
structure Co.Ok(T:Co)(P:Program):Prop where
 und:∀t d,T.und t=some d->P.underlying t=some d
 inf:∀t i,T.inf t=some i->∃j v,P.info? t=some j/\j.size=i.size/\j.bytes=i.bytes/\j.zero=some v/\∀p,Ag p i.zv v
 flat:∀t ks,T.flat t=some ks->∀(p:Pl) (x y:List V) (x' y':Array Value) (r:Bool) (w:World),fit ks x=true->fit ks y=true->AB p x x'.toList->AB p y y'.toList->Ch x y=some r->
  (yx t (.agg x') (.agg y')).run P w=.ok r w
 guard:∀t ks,T.flat t=some ks->P.eqGuardType P.depth t=false
 key:∀t ks,T.flat t=some ks->∀(p:Pl) (x:List V) (x':Array Value) (b:Bool) (w:World),fit ks x=true->AB p x x'.toList->(Instr.checkKey b 10000 t (.agg x')).run P w=.ok () w
 kind:∀t ks,T.flat t=some ks->∃fs,T.und t=some (.struct fs)
 mth:∀t name f,T.mth t name=some f->∃j m d,P.info? t=some j/\j.methods.find? (·.name==name)=some m/\m.path= #[]/\m.func=some (f,false)/\P.underlying t=some d/\∀e,d≠ .pointer e
section
variable {T:Co}{P:Program}{p:Pl}{h:H}{w:World}
theorem AF(b:T.Ok P){t:TypeId}{d:TypeDesc}(a:T.und t=some d):(underlying t).run P w=.ok d w:=by
 unfold underlying;simp[b.und t d a]
theorem BK(b:T.Ok P){t:TypeId}{i:TI}(a:T.inf t=some i):(sizeOf t).run P w=.ok i.size w:=by
 obtain⟨j,v,d,c,_⟩:=b.inf t i a;simp_all [sizeOf,typeInfo]
theorem SA(b:T.Ok P){t:TypeId}{i:TI}(a:T.inf t=some i):∃j,(∀w,(typeInfo t).run P w=.ok j w)/\j.bytes=i.bytes/\j.size=i.size:=by
 obtain⟨j,v,f,d,c,_⟩:=b.inf t i a;simp_all [typeInfo]
theorem E1(c:T.Ok P){t:TypeId}{i:TI}(a:T.inf t=some i):∃v,(∀w,(zeroValue t).run P w=.ok v w)/\∀p,AB p i.zero v.cells.toList:=by
 obtain⟨j,v,g,f,d,k,b⟩:=c.inf t i a;exact⟨v,(by simp_all [zeroValue,typeInfo]),fun p=>(b p).cells⟩
theorem Afs(b:T.Ok P){t:TypeId}{i:TI}(a:T.inf t=some i):∃v,(∀w,(zeroValue t).run P w=.ok v w)/\∀p,Ag p i.zv v:=by
 obtain⟨j,v,g,f,c,k,d⟩:=b.inf t i a;simp_all [zeroValue,typeInfo]
def EK:TypeDesc->Bool
 | .struct _| .array _ _=>true
 |_=>false
theorem TT(b:T.Ok P){t:TypeId}{d:TypeDesc}(a:T.und t=some d):(isAgg t).run P w=.ok (EK d) w:=by
 unfold isAgg;rw[zd,AF b a];cases d<;>simp[EK]
def V.one:V->Bool
 | .agg _| .tup _| .junk=>false
 |_=>true
theorem V.OH{d:V}(h:d.one=true):d.ok=true:=by cases d<;>first|rfl|cases h
theorem Ag.one{d:V}{v:Value}(b:Ag p d v)(f:d.one=true):v.oneCell'=true:=by
 cases d<;>simp only[V.one]at f<;>simp only[Ag]at b
 case agg|tup=>cases f
 case ptr=>obtain⟨r,n,_,rfl⟩:=b;rfl
 case esl=>obtain⟨a,c,rfl⟩:=b;rfl
 case es0=>obtain⟨a,rfl⟩:=b;rfl
 case sl=>obtain⟨r,n,c,_,rfl,_⟩:=b;rfl
 case map=>obtain⟨r,n,_,rfl⟩:=b;rfl
 case yld=>obtain⟨r,n,_,rfl⟩:=b;rfl
 case fn=>obtain⟨x,y,rfl,_,_⟩:=b;rfl
 case iface=>obtain⟨y,rfl,_⟩:=b;rfl
 all_goals subst b;rfl
@[simp] theorem Addr.Of(r off n:Nat):Addr.add ⟨r,off,none⟩ n=⟨r,off+n,none⟩:=by
 unfold Addr.add;simp
def rd0(h:H)(b off n:Nat):Option (List V):=
 match h.get b with
 |some (.cells cs _ _)=>if off+n<=cs.length/\((cs.drop off).take n).all V.ok=true then some ((cs.drop off).take n)else none
 |_=>none
def rd(h:H)(b off n:Nat):Option (List V):=
 match h.get b with
 |some (.cells cs _ _)=>bif zl (Nat.add off n) (Fb cs)&&Np V.ok (fA n<|Lr off cs)then some (fA n<|Lr off cs)else none
 |_=>none
theorem eL:rd=rd0:=by
 funext h b off n
 unfold rd rd0;split
 ·rw[DF,RD,Sk,GC];simp
 ·rfl
theorem cell_of(hr:R p h w){b:Nat}{cs:List V}{t:TypeId}{fz:Nat×Nat}(a:h.get b=some (.cells cs t fz)):
  ∃r n c fz',p[b]?=some (r,n)/\w.heap[r]?=some (.cells c t fz')/\c.size=n/\cs.length<=n/\E2 p cs (c.toList.take cs.length)/\(∀i,w.cell? ⟨r,i,none⟩=c[i]?)/\
   ∀i,i<n->fz'.1<=i->i<fz'.2->fz.1<=i/\i<fz.2:=by
 obtain⟨r,n,x,k,o,c,fz',m,l,d,f,g⟩:=hr.obj b _ a;grind [World.cell?]
theorem S6{a:Addr}{v:Value}(b:w.cell? a=some v):(load a).run P w=.ok v w:=by simp[b]
theorem run_loadCellsFrom{a:Addr}:∀(n i:Nat) (b:Array Value) (vs:List Value),vs.length=n->(∀j v,vs[j]?=some v->w.cell? (a.add<|i+j)=some v)->
  (loadCellsFrom a i n b).run P w=.ok (b++vs.toArray) w
 |0,i,b,vs,c,_=>by
  simp_all [loadCellsFrom]
 |n+1,i,b,[],c,_=>by grind
 |n+1,i,b,v::vs,c,d=>by
  unfold loadCellsFrom;rw[zd,S6 (a:=a.add i) (by have:=d 0 v rfl;simpa using this)];simp only[zc];rw[run_loadCellsFrom n (i+1) (b.push v) vs ah (fun j u f=>by
   have:=d (j+1) u ah;grind)]
  simp
theorem run_loadCells(hr:R p h w){b off n:Nat}{k:List V}(d:rd h b off n=some k):
  ∃r m vs,p[b]?=some (r,m)/\(loadCells ⟨r,off,none⟩ n).run P w=.ok vs.toArray w/\AB p k vs/\vs.length=n/\∀i v,vs[i]?=some v->w.cell? ⟨r,off+i,none⟩=some v:=by
 rw[eL]at d;unfold rd0 at d;split at d
 case h_2=>cases d
 rename_i cs t fz q;split at d
 case isFalse=>cases d
 cases d;obtain⟨r,m,c,_,o,y,x,u,l,s,_⟩:=cell_of hr q;have g:AB p ((cs.drop off).take n) ((c.toList.take cs.length).drop off|>.take n):=((l.drop off).take n).Pq ah;have a:((c.toList.take cs.length).drop off|>.take n).length=n:=ah
 have f:∀i v,((c.toList.take cs.length).drop off|>.take n)[i]?=some v->w.cell? ⟨r,off+i,none⟩=some v:=by
  grind
 refine⟨r,m,_,o,?_,g,a,f⟩;unfold loadCells;rw[run_loadCellsFrom n 0 #[] _ a (by simp_all)];simp
def F4(T:Co)(h:H)(t:TypeId)(a:V):Option V:=
 match a,T.und t,T.inf t with
 | .ptr b off,some d,some i=>
  bif EK d then(rd h b off i.size).map .agg
  else match rd h b off 1 with
   |some (v::_)=>some v
   |_=>none
 |_,_,_=>none
theorem X3(q:T.Ok P)(hr:R p h w){t:TypeId}{a v:V}{x:Value}(l:Ag p a x)(c:F4 T h t a=some v):
  ∃v',(Instr.loadAt t x).run P w=.ok v' w/\Ag p v v':=by
 unfold F4 at c;split at c
 case h_2=>cases c
 rename_i b off d i y A;simp only[Ag]at l;obtain⟨r,n,hp,rfl⟩:=l;unfold Instr.loadAt yf;simp only[zd,zf,zc];unfold loadVar;simp only[zd];rw[TT q y];simp only[zc];cases f:EK d with
 |true=>
  simp only[f,we]at c;rw[zj]at c;obtain⟨D,k,rfl⟩:=c;obtain⟨C,m,vs,g,s,o,_⟩:=run_loadCells (P:=P) hr k;rw[hp]at g;cases g;simp only[wk,zd,BK q A,zc,s,zf];simp_all [Ag]
 |false=>
  simp only[f,wg]at c;split at c
  case h_2=>cases c
  rename_i v0 tl k;cases c;obtain⟨C,m,vs,g,s,o,E,B⟩:=run_loadCells (P:=P) hr k;rw[hp]at g;cases g;cases vs with
  |nil=>grind
  |cons u F=>
   simp at o;simp only[zz,vf];have:=B 0 u rfl;simp_all
def Ie:List V->Nat->List V->List V
 |cs,_,[]=>cs
 |cs,off,v::vs=>Ie (cs.set off v) (off+1) vs
@[simp] theorem JQ:∀(vs:List V) (cs:List V) (off:Nat),(Ie cs off vs).length=cs.length
 |[],_,_=>rfl
 |v::vs,cs,off=>by simp[Ie,JQ vs]
def clear(fz:Nat×Nat)(off n:Nat):Bool:=zl fz.2 off||zl (off+n) fz.1||zl fz.2 fz.1
def wr0(h:H)(b off:Nat)(vs:List V):Option H:=
 match h.get b with
 |some (.cells cs t fz)=>bif zl (off+vs.length) cs.length&&clear fz off vs.length&&vs.all V.one then some (h.put b<|.cells (Ie cs off vs) t fz)else none
 |_=>none
theorem Oa(a:V):∀(vs cs:List V) (off:Nat),Ie (a::cs) (off+1) vs=a::Ie cs off vs
 |[],cs,off=>rfl
 |v::vs,cs,off=>by
  show Ie ((a::cs).set (off+1) v) (off+1+1) vs=a::Ie (cs.set off v) (off+1) vs;rw[List.set_cons_succ,Oa a vs]
theorem QB:∀(vs:List V) (off:Nat),Ie [] off vs=[]
 |[],_=>rfl
 |v::vs,off=>by show Ie ([].set off v) (off+1) vs=[];rw[List.set_nil,QB vs]
theorem WN:∀(vs cs:List V),Lq vs cs=Ie cs 0 vs
 |[],cs=>rfl
 |v::vs,[]=>(QB _ _).symm
 |v::vs,c::cs=>by
  show v::Lq vs cs=Ie ((c::cs).set 0 v) (0+1) vs;rw[List.set_cons_zero,Oa,WN vs cs]
theorem KN(vs:List V):∀(off:Nat) (cs:List V),CR off vs cs=Ie cs off vs
 |0,cs=>WN vs cs
 |off+1,[]=>(QB _ _).symm
 |off+1,c::cs=>by rw[Oa];exact wi (c:: ·)<|KN vs off cs
def wr(h:H)(b off:Nat)(vs:List V):Option H:=
 match h.get b with
 |some (.cells cs t fz)=>bif zl (Nat.add off<|Fb vs) (Fb cs)&&clear fz off (Fb vs)&&Np V.one vs then some (h.put b<|.cells (CR off vs cs) t fz)else none
 |_=>none
theorem Ahp:wr=wr0:=by
 grind [wr,wr0,DF,GC,KN]
theorem xR(a:Array Obj)(i:Nat)(x:Obj)(j:Nat):(a.setIfInBounds i x)[j]?=if i=j/\j<a.size then some x else a[j]?:=by
 grind
theorem sI{a:Array Obj}{i:Nat}{x:Obj}(h:a[i]?=some x):a.setIfInBounds i x=a:=by
 grind
theorem Sz{a:Array Obj}{i:Nat}{f:Obj->Obj}{x:Obj}(h:a[i]?=some x):a.modify i f=a.setIfInBounds i (f x):=by
 grind
theorem setCell_eq{w:World}{r off:Nat}{c:Array Value}{t:TypeId}{fz:Nat×Nat}(v:Value)(a:w.heap[r]?=some (.cells c t fz)):
  w.setCell ⟨r,off,none⟩ v={ w with heap:=w.heap.setIfInBounds r (.cells (c.setIfInBounds off v) t fz) }:=by
 grind [World.setCell,Sz]
theorem G7{r:Nat}{t:TypeId}{fz:Nat×Nat}:∀(vs:List Value) (w:World) (c:Array Value) (off i:Nat),w.heap[r]?=some (.cells c t fz)->off+i+vs.length<=c.size->
  (∀v∈vs,v.oneCell'=true)->(∀j,i<=j->j<i+vs.length->¬(fz.1<=off+j/\off+j<fz.2))->
  ∃a:Array Value,(storeCells ⟨r,off,none⟩ vs i).run P w=.ok () { w with heap:=w.heap.setIfInBounds r (.cells a t fz) }/\a.size=c.size/\
   a.toList=(List.range c.size).map (fun j=>if off+i<=j/\j<off+i+vs.length then vs.getD (j-(off+i)) default else c.toList.getD j default)
 |[],w,c,off,i,b,_,_,_=>by
  refine⟨c,?_,rfl,?_⟩
  ·simp_all [storeCells,sI]
  ·apply List.ext_getElem (by simp);grind
 |v::vs,w,c,off,i,b,g,m,f=>by
  simp at g;have k:w.cell? ⟨r,off+i,none⟩=some (c[off+i]'ae):=by simp[World.cell?,b]
  have q:w.frozen? ⟨r,off+i,none⟩=false:=by
   simp_all [World.frozen?]
  have l:=setCell_eq (off:=off+i) v b;have d:=(Array.getElem?_eq_some_iff.1 b).1;obtain⟨a,A,B,s⟩:=G7 vs { w with heap:=w.heap.setIfInBounds r (.cells (c.setIfInBounds (off+i) v) t fz) } (c.setIfInBounds (off+i) v) off (i+1)
   (by rw[xR,wd ⟨rfl,d⟩]) ah ah (fun j u x=>f j ae ah)
  refine⟨a,?_,by grind,?_⟩
  ·simp_all [storeCells,run_store]
  ·rw[s];apply List.ext_getElem (by simp);intro j o y;simp at o;simp only[List.getElem_map,List.getElem_range,yn];grind
theorem R0:∀(vs cs:List V) (off j:Nat),off+vs.length<=cs.length->(Ie cs off vs)[j]?=if off<=j/\j<off+vs.length then vs[j-off]? else cs[j]?
 |[],cs,off,j,_=>by rw[wc<|by simp];rfl
 |v::vs,cs,off,j,a=>by
  unfold Ie;rw[R0 vs (cs.set off v) (off+1) j ah];grind
theorem Uw(hr:R p h w){b off:Nat}{f:List V}{vs:List Value}(q:AB p f vs){h':H}(k:wr h b off f=some h'):
  ∃r m w',p[b]?=some (r,m)/\(storeCells ⟨r,off,none⟩ vs).run P w=.ok () w'/\Ext p h w p h' w':=by
 rw[Ahp]at k;unfold wr0 at k;split at k
 case h_2=>cases k
 rename_i cs t fz E;cases A:(zl (off+f.length) cs.length&&clear fz off f.length&&f.all V.one)with
 |false=>grind
 |true=>
  simp only[A,we,ze]at k;subst k;simp only[zo,yb,List.all_eq_true]at A;obtain⟨⟨Q,B⟩,Z⟩:=A;obtain⟨r,m,c,fz',h1,h2,h3,h4,h5,h6,h7⟩:=cell_of hr E;have U:=q.length;have l:∀v∈vs,v.oneCell'=true:=by
   intro v C;obtain⟨i,F⟩:=List.mem_iff_getElem?.1 C;have J:=(zn.1 F).1;obtain⟨u,a,g⟩:=q.get (i:=i) (d:=f[i]'ae) (by simp);rw[F]at a;cases a;exact g.one ah
  have x:∀j,0<=j->j<0+vs.length->¬(fz'.1<=off+j/\off+j<fz'.2):=by
   rintro j _ O ⟨L,M⟩;have:=h7 (off+j) ae L M;simp only[clear,yu,yb]at B;omega
  obtain⟨D,G,Y,W⟩:=G7 (P:=P) vs w c off 0 h2 ae l x;refine⟨r,m,_,h1,G,Ext.put hr E h1 ?_ rfl rfl rfl rfl (fun N t1 I S y=>?_)⟩
  case refine_2=>
   obtain⟨l1,X,l3⟩:=y;simp only[clear,yu,yb]at B;have K:D=c:=by
    apply Array.ext';apply List.ext_getElem?;grind
   grind
  refine⟨D,fz',rfl,by omega,by simp_all,?_,h7⟩;refine⟨by simp;omega,?_⟩;intro i d v o C s;rw[R0 f cs off i ae]at o;by_cases e:off<=i/\i<off+f.length
  ·rw[wd e]at o;obtain⟨u,a,g⟩:=q.get o;grind
  ·rw[wc e]at o;obtain⟨u,a,g⟩:=h5.get o s;grind
def I9(T:Co)(h:H)(t:TypeId)(a x:V):Option H:=
 match a,T.inf t with
 | .ptr b off,some i=>bif zh x.cells.length i.size then wr h b off x.cells else none
 |_,_=>none
theorem lW(k:T.Ok P)(hr:R p h w){t:TypeId}{a x:V}{f x':Value}(g:Ag p a f)(d:Ag p x x'){h':H}(c:I9 T h t a x=some h'):
  ∃w',(Instr.storeAt t f x').run P w=.ok () w'/\Ext p h w p h' w':=by
 unfold I9 at c;split at c
 case h_2=>cases c
 rename_i b off i l;rw[Bz]at c;by_cases e:x.cells.length=i.size
 ·simp only[e,decide_true,we]at c;obtain⟨r,n,hp,rfl⟩:=g;obtain⟨r',m,w',h1,h2,h3⟩:=Uw (P:=P) hr d.cells c;rw[hp]at h1;cases h1;refine⟨w',?_,h3⟩;have o:=d.cells.length;unfold Instr.storeAt yf;unfold storeVar;have:x'.cells.size=i.size:=ah
  simp only[zd,BK k l,zc,this,wm,not_true_eq_false,vf];exact h2
 grind
theorem C4(t:TypeId)(c:Array Value):(newRow t c).run P w=.ok ⟨w.heap.size,0,none⟩ { w with heap:=w.heap.push (.cells c t) }:=by
 rfl
def JB(h:H)(t:TypeId)(cs:List V):H:=h.push<|.cells cs t (0,0)
theorem PX(hr:R p h w)(t:TypeId){b:List V}{c:Array Value}(a:AB p b c.toList):
  ∃n,Ext p h w (p++[(w.heap.size,n)]) (JB h t b) { w with heap:=w.heap.push (.cells c t) }/\(p++[(w.heap.size,n)])[h.nx]?=some (w.heap.size,n)/\n=c.size:=by
 refine⟨c.size,Ext.push hr ⟨c,(0,0),rfl,rfl,by have:=a.length;grind,?_,ae⟩,by rw[<-hr.len];simp,rfl⟩;have:=a.length;rw[List.take_of_length_le ae];exact a.toC
def HM(T:Co)(h:H)(t:TypeId):Option (V×H):=(T.inf t).map fun i=>(.ptr h.nx 0,JB h t i.zero)
theorem kG(c:T.Ok P)(hr:R p h w){t:TypeId}{v:V}{h':H}(b:HM T h t=some (v,h')):
  ∃v' p' w',(Instr.alloc t true<|.tuple #[]).run P w=.ok v' w'/\Ag p' v v'/\Ext p h w p' h' w':=by
 unfold HM at b;rw[zj]at b;obtain⟨i,d,a⟩:=b;cases a;obtain⟨z,hz,hzr⟩:=E1 c d;obtain⟨n,a,hp,_⟩:=PX hr t<|hzr p;refine⟨.pointer<|some ⟨w.heap.size,0,none⟩,_,_,?_,?_,a⟩
 ·grind [Instr.alloc,zd,zc,newVar,C4,zf]
 simp_all [Ag]
def kF(h:H)(t:TypeId)(x:V):V×H:=(.ptr h.nx 0,JB h t x.cells)
theorem AbF(hr:R p h w){t:TypeId}{x:V}{x':Value}(a:Ag p x x'):
  ∃v' p' w',(Instr.box t x').run P w=.ok v' w'/\Ag p' (kF h t x).1 v'/\Ext p h w p' (kF h t x).2 w':=by
 obtain⟨n,b,hp,_⟩:=PX hr t a.cells;refine⟨.pointer<|some ⟨w.heap.size,0,none⟩,_,_,?_,?_,b⟩
 ·rfl
 simp_all [kF,Ag]
def Xr(op:BinOp)(x y:Z):Option V:=
 match op with
 | .add=>if x.length+y.length<=4611686018427387904 then some (.str<|x++y)else none
 | .eql=>some<|.bool<|x==y
 | .neq=>some<|.bool !(x==y)
 | .lss=>some<|.bool<|yt x y
 | .leq=>some<|.bool<|yt x y||x==y
 | .gtr=>some<|.bool !(yt x y||x==y)
 | .geq=>some<|.bool !yt x y
 |_=>none
theorem Jw(s:Z):(bytesOf s).toList=s:=ByteArray.toList_mk s
theorem Cb(s:Z):(bytesOf s).size=s.length:=by rfl
theorem Ru(x y:Z):bytesOf x++bytesOf y=bytesOf (x++y):=by
 rfl
theorem Abj{op:BinOp}{x y:Z}{v:V}(a:Xr op x y=some v):
  ∃v',(Op.stringOp op (bytesOf x)<|bytesOf y).run P w=.ok v' w/\Ag p v v':=by
 unfold Op.stringOp;simp only[Jw,Cb];cases op<;>simp only[Xr]at a
 case add=>
  split at a
  ·cases a;rw[wc<|by grind [IntKind.max,IntKind.bits]];simp_all [Ag,Ru]
  grind
 all_goals first
  |(cases a;done)
  |(cases a;exact⟨_,zf ..,by simp[Ag]⟩)
def Rd(op:BinOp)(k:IntKind)(a b:Int):Option V:=
 match op with
 | .add=>some<|.int k<|k.wrap<|a+b
 | .sub=>some<|.int k<|k.wrap<|a-b
 | .mul=>some<|.int k<|k.wrap<|a*b
 | .quo=>if b=0 then none else some<|.int k<|k.wrap<|a.tdiv b
 | .rem=>if b=0 then none else some<|.int k<|a.tmod b
 | .and=>some<|.int k<|k.wrap (yc k.bits a&&&yc k.bits b).toNat
 | .or=>some<|.int k<|k.wrap (yc k.bits a|||yc k.bits b).toNat
 | .xor=>some<|.int k<|k.wrap (yc k.bits a^^^yc k.bits b).toNat
 | .andNot=>some<|.int k<|k.wrap (yc k.bits a&&& ~~~yc k.bits b).toNat
 | .eql=>some<|.bool<|a==b
 | .neq=>some<|.bool<|a !=b
 | .lss=>some<|.bool<|a<b
 | .leq=>some<|.bool<|a<=b
 | .gtr=>some<|.bool<|a>b
 | .geq=>some<|.bool<|a>=b
 |_=>none
def kZ(op:BinOp)(k:IntKind)(a b:Int):Option V:=
 if b<0 then none else
 match op with
 | .shl=>some<|.int k<|k.wrap<|a*2^(min b.toNat k.bits)
 | .shr=>some<|.int k<|a.fdiv<|2^(min b.toNat k.bits)
 |_=>none
def Q3(ks:Option (List FK))(a b:List V):Option Bool:=
 match ks with
 |some ks=>bif fit ks a&&fit ks b then Ch a b else none
 |none=>none
theorem Jb{ks:Option (List FK)}{a b:List V}{r:Bool}(h:Q3 ks a b=some r):∃l,ks=some l/\fit l a=true/\fit l b=true/\Ch a b=some r:=by
 unfold Q3 at h;grind
def BH(T:Co)(t:TypeId)(x y:V):Option Bool:=
 match T.und t,x,y with
 |some .bool,.bool a,.bool b=>some<|a==b
 |some (.pointer _),.nilp,y=>match y with| .nilp=>some true| .ptr .. =>some false|_=>none
 |some (.pointer _),.ptr ..,.nilp=>some false
 |some (.pointer e),.ptr a i,.ptr b j=>if a=b then match T.inf e with|some c=>if c.size≠0 then some (i==j)else none|_=>none else none
 |some (.interface _),.iface ..,.nili=>some false
 |some (.interface _),.nili,.iface .. =>some false
 |some (.slice _),.nils,y=>match y with| .nils=>some true| .sl .. =>some false| .esl=>some false| .es0=>some false|_=>none
 |some (.slice _),.sl ..,.nils=>some false
 |some (.slice _),.esl,.nils=>some false
 |some (.slice _),.es0,.nils=>some false
 |some (.map _ _),.nilm,y=>match y with| .nilm=>some true| .map .. =>some false|_=>none
 |some (.map _ _),.map ..,.nilm=>some false
 |some (.func ..),.nilf,.nilf=>some true
 |some (.func ..),.fn ..,.nilf=>some false
 |some (.func ..),.nilf,.fn .. =>some false
 |_,.agg d,.agg f=>Q3 (T.flat t) d f
 |_,_,_=>none
def LZ(T:Co)(op:BinOp)(t:TypeId)(x y:V):Option V:=
 match op,x,y with
 | .shl,.int k a,.int _ b=>kZ .shl k a b
 | .shr,.int k a,.int _ b=>kZ .shr k a b
 |op,.int k a,.int c b=>if k=c then Rd op k a b else none
 |op,.str a,.str b=>Xr op a b
 | .eql,x,y=>(BH T t x y).map fun b=>.bool b
 | .neq,x,y=>(BH T t x y).map fun b=>.bool !b
 |_,_,_=>none
theorem Acj{op:BinOp}{k:IntKind}{a b:Int}{v:V}(d:op≠ .shl/\op≠ .shr)(c:Rd op k a b=some v)(t:TypeId):
  ∃v',(binOp op t (.int k a)<|.int k b).run P w=.ok v' w/\Ag p v v':=by
 cases op<;>simp only[Rd]at c<;>simp only[binOp,wm,not_true_eq_false,vf,Op.intArith,Op.intDiv,Op.intBits,Op.intCmp]
 case quo|rem=>
  split at c
  ·cases c
  ·cases c;simp_all [Ag]
 case shl=>grind
 case shr=>grind
 all_goals (cases c;exact⟨_,zf ..,by simp[Ag]⟩)
theorem Tw(g:T.Ok P){t:TypeId}{x y:V}{x' y':Value}(c:Ag p x x')(b:Ag p y y'){r:Bool}(a:BH T t x y=some r):
  (yx t x' y').run P w=.ok r w:=by
 unfold BH at a;split at a
 case h_16=>
  rename_i o q;obtain⟨l,m,d,A,s⟩:=Jb a;simp only[Ag]at c b;obtain⟨u,rfl,k⟩:=c;obtain⟨v,rfl,hv⟩:=b;exact g.flat t l m p o q u v r w d A k hv s
 case h_17=>cases a
 all_goals (rename_i k;simp only[Ag]at c b;unfold yx Op.maxDepth Op.equalIn;rw[zd,AF g k];simp only[zc])
 case h_1=>simp_all
 case h_2=>subst c;split at a<;>first|(cases a;done)|(cases a;simp only[Ag]at b;first|(subst b;rfl)|(obtain⟨_,_,_,rfl⟩:=b;simp))
 case h_3=>obtain⟨_,_,_,rfl⟩:=c;simp_all
 case h_4=>
  split at a
  case isFalse=>cases a
  rename_i e;subst e;split at a
  case h_2=>cases a
  rename_i C f;split at a
  case isFalse=>cases a
  rename_i B;cases a;obtain⟨D,n1,m,rfl⟩:=c;obtain⟨r2,n2,d,rfl⟩:=b;rw[m]at d;cases d;simp only[zd,BK g f,zc,B,wm,not_false_eq_true,wk];unfold sameAddr;simp only[beq_self_eq_true,wk,zf];congr 1;grind
 case h_5=>obtain⟨_,rfl,_⟩:=c;simp_all
 case h_6=>obtain⟨_,rfl,_⟩:=b;simp_all
 case h_7=>subst c;split at a<;>first|(cases a;done)|(cases a;simp only[Ag]at b;first|(subst b;rfl)|(obtain⟨_,_,_,_,rfl,_⟩:=b;rfl)|(obtain⟨_,_,rfl⟩:=b;simp;done)|(obtain⟨_,rfl⟩:=b;simp;done))
 case h_8=>obtain⟨_,_,_,_,rfl,_⟩:=c;simp_all
 case h_9=>obtain⟨_,_,rfl⟩:=c;simp_all
 case h_10=>obtain⟨_,rfl⟩:=c;simp_all
 case h_11=>subst c;split at a<;>first|(cases a;done)|(cases a;simp only[Ag]at b;first|(subst b;rfl)|(obtain⟨_,_,_,rfl⟩:=b;simp))
 case h_12=>obtain⟨_,_,_,rfl⟩:=c;simp_all
 case h_13=>simp_all
 case h_14=>obtain⟨_,_,rfl,_⟩:=c;simp_all
 case h_15=>obtain⟨_,_,rfl,_⟩:=b;simp_all
def Vw:V->Bool
 | .int .. | .str _| .tup _=>false
 |_=>true
theorem Nq{t:TypeId}{x y:V}{r:Bool}(a:BH T t x y=some r):Vw x=true:=by
 unfold BH at a;split at a<;>first|rfl|grind
theorem P1{t:TypeId}{x:V}{x' y':Value}(a:Ag p x x')(hp:Vw x=true):
  binOp .eql t x' y'=(do pure (.bool<|<-yx t x' y'))/\binOp .neq t x' y'=(do pure (.bool<|!(<-yx t x' y'))):=by
 cases x<;>simp only[Vw]at hp<;>simp only[Ag]at a
 case int|str|tup=>cases hp
 case ptr=>obtain⟨_,_,_,rfl⟩:=a;cases y'<;>exact⟨rfl,rfl⟩
 case esl=>obtain⟨_,_,rfl⟩:=a;cases y'<;>exact⟨rfl,rfl⟩
 case es0=>obtain⟨_,rfl⟩:=a;cases y'<;>exact⟨rfl,rfl⟩
 case sl=>obtain⟨_,_,_,_,rfl,_⟩:=a;cases y'<;>exact⟨rfl,rfl⟩
 case map=>obtain⟨_,_,_,rfl⟩:=a;cases y'<;>exact⟨rfl,rfl⟩
 case yld=>obtain⟨_,_,_,rfl⟩:=a;cases y'<;>exact⟨rfl,rfl⟩
 case fn=>obtain⟨_,_,rfl,_⟩:=a;cases y'<;>exact⟨rfl,rfl⟩
 case iface=>obtain⟨_,rfl,_⟩:=a;cases y'<;>exact⟨rfl,rfl⟩
 case agg=>obtain⟨_,rfl,_⟩:=a;cases y'<;>exact⟨rfl,rfl⟩
 all_goals (subst a;cases y'<;>exact⟨rfl,rfl⟩)
theorem Acb(g:T.Ok P){op:BinOp}{t:TypeId}{x y:V}{x' y':Value}(d:Ag p x x')(f:Ag p y y'){v:V}(a:LZ T op t x y=some v):
  ∃v',(binOp op t x' y').run P w=.ok v' w/\Ag p v v':=by
 unfold LZ at a;split at a
 case h_1=>
  unfold kZ at a;split at a
  ·cases a
  ·cases a;simp_all [binOp,Op.shift,wc,Ag]
 case h_2=>
  unfold kZ at a;split at a
  ·cases a
  ·cases a;simp_all [binOp,Op.shift,wc,Ag]
 case h_3=>
  simp_all [Ag,Acj]
 case h_4=>
  simp_all [Ag,Abj,binOp]
 case h_5=>
  rw[zj]at a;obtain⟨b,c,rfl⟩:=a;rw[(P1 d<|Nq c).1];simp only[zd,Tw g d f c,zc];simp_all [Ag]
 case h_6=>
  rw[zj]at a;obtain⟨b,c,rfl⟩:=a;rw[(P1 d<|Nq c).2];simp only[zd,Tw g d f c,zc];simp_all [Ag]
 grind
theorem YP{a:V}{c:Value}(b:Ag p a c)(h:a≠ .nili):c≠ .nilIface:=by
 intro e;subst e;cases a<;>simp only[Ag]at b<;>first|exact h rfl|(simp at b;done)|(done)|(done)|(done)|(done)
theorem pE{a:V}{c:Array Value}(d:Ag p a (.agg c)):∃b,a=.agg b/\AB p b c.toList:=by
 cases a<;>simp only[Ag]at d<;>first|(done)|grind|grind|grind|grind
theorem QX{op:BinOp}{t:TypeId}{x y:Operand}{b b':Value}(a:op≠ .eql)(c:op≠ .neq):eqGuard op t x y b b'=pure ():=by
 cases op<;>first|rfl|exact wh rfl a|grind
theorem iN{op:BinOp}{t:TypeId}{x y:Operand}{a b':Value}(h0:a≠ .nilIface\/b'≠ .nilIface)(f:(∃c d,a=.agg c/\b'=.agg d)->P.eqGuardType P.depth t=false):
  (eqGuard op t x y a b').run P w=.ok () w:=by
 by_cases b:op=.eql\/op=.neq
 ·have:eqGuard op t x y a b'=eqGuard .eql t x y a b':=by rcases b with rfl|rfl<;>rfl
  rw[this];unfold eqGuard;simp only[Bool.not_true,zz,vf];split
  ·grind
  ·simp_all
  ·rfl
 simp_all [QX]
theorem lH(C:T.Ok P){op:BinOp}{t:TypeId}{x y:Operand}{a b:V}{o b':Value}(u:Ag p a o)(B:Ag p b b'){v:V}(s:LZ T op t a b=some v):
  (eqGuard op t x y o b').run P w=.ok () w:=by
 by_cases q:op=.eql\/op=.neq
 ·refine iN ?_ ?_
  ·by_cases D:a=.nili
   ·by_cases A:b=.nili
    ·subst D A;have:BH T t .nili .nili=none:=by simp_all [BH]
     rcases q with rfl|rfl<;>simp[LZ,this]at s
    grind [YP]
   grind [YP]
  ·rintro⟨c,d,rfl,rfl⟩;obtain⟨f,rfl,k⟩:=pE u;obtain⟨ys,rfl,h2⟩:=pE B;have m:BH T t (.agg f) (.agg ys)=Q3 (T.flat t) f ys:=by simp_all [BH]
   cases g:Q3 (T.flat t) f ys with
   |some r=>obtain⟨l,k,_⟩:=Jb g;exact C.guard t l k
   |none=>
    rw[g]at m;rcases q with rfl|rfl<;>simp[LZ,m]at s
 simp_all [QX]
def dun(op:UnOp)(x:V):Option V:=
 match op,x with
 | .neg,.int k n=>some<|.int k<|k.wrap<|0-n
 | .xor,.int k n=>Rd .xor k (if k.signed then -1 else k.max) n
 | .not,.bool b=>some<|.bool !b
 |_,_=>none
theorem Agi{op:UnOp}{x:V}{x':Value}(b:Ag p x x'){v:V}(a:dun op x=some v):∃v',(Op.unary op x').run P w=.ok v' w/\Ag p v v':=by
 unfold dun at a;split at a
 case h_1=>subst b;cases a;exact⟨_,rfl,by rfl⟩
 case h_2=> 
  subst b;simp only[Rd,ze]at a;subst a;exact⟨_,rfl,by rfl⟩
 case h_3=>subst b;cases a;exact⟨_,rfl,by rfl⟩
 grind
def AdL:V->Option UInt8
 | .int .u8 (.ofNat n)=>some<|UInt8.ofNat n
 |_=>none
def bytes?:List V->Option Z
 |[]=>some []
 |v::vs=>
  match AdL v,bytes? vs with
  |some b,some a=>some (b::a)
  |_,_=>none
def GU(T:Co)(h:H)(src dst:TypeId)(x:V):Option V:=
 match T.und src,T.und dst,x with
 |some _,some<|.int k,.int _ n=>some<|.int k<|k.wrap n
 |some _,some .string,.str s=>some<|.str s
 |some (.slice e),some .string,.nils=>match T.und e with|some (.int .u8)=>some (.str [])|_=>none
 |some (.slice e),some .string,.sl b off len _ _=>
  match T.und e with
  |some (.int .u8)=>match rd h b off len with
   |some cs=>(bytes? cs).map .str
   |none=>none
  |_=>none
 |_,_,_=>none
theorem OV{f:Value->ByteArray->Sem (ForInStep ByteArray)}(q:∀n s,f (.int .u8 n) s=pure (ForInStep.yield<|s.push<|UInt8.ofNat n.toNat)):
  ∀(cs:List V) (vs:List Value) (g:Z) (a:Z),AB p cs vs->bytes? cs=some g->
  ∀w,(forIn vs (bytesOf a) f).run P w=.ok (bytesOf<|a++g) w
 |[],vs,g,a,d,k,w=>by
  simp_all [bytes?]
 |c::cs,[],_,_,d,_,_=>by simp at d
 |c::cs,v::vs,g,a,d,k,w=>by
  simp only[BE]at d;unfold bytes? at k;split at k
  case h_2=>cases k
  rename_i b tl o m;unfold AdL at o;split at o
  case h_2=>cases o
  rename_i n;have l:=d.1;simp only[Ag]at l;have:=OV q cs vs tl (a++[UInt8.ofNat n]) d.2 m w;grind [bytesOf,ByteArray.push]
theorem wX(b:T.Ok P)(hr:R p h w){src dst:TypeId}{x:V}{x':Value}(g:Ag p x x'){v:V}(a:GU T h src dst x=some v):
  ∃v',(convert src dst x').run P w=.ok v' w/\Ag p v v':=by
 unfold GU at a;split at a
 case h_1=>
  rename_i f d;subst g;cases a;unfold convert;simp only[zd,AF b f,AF b d,zc];exact⟨_,rfl,by rfl⟩
 case h_2=>
  rename_i f d;cases a;unfold convert;simp only[zd,AF b f,AF b d,zc];simp_all [Ag]
 case h_3=>
  rename_i f d;subst g;split at a
  case h_2=>cases a
  rename_i k;cases a;unfold convert;simp only[zd,AF b f,AF b d,AF b k,zc];exact⟨_,rfl,by rfl⟩
 case h_4=>
  rename_i f d;split at a
  case h_2=>cases a
  rename_i k;split at a
  case h_2=>cases a
  rename_i cs o;rw[zj]at a;obtain⟨q,l,rfl⟩:=a;obtain⟨r,n,c,g1,rfl,g2⟩:=g;obtain⟨r',m,vs,k1,k2,k3,_⟩:=run_loadCells (P:=P) hr o;rw[g1]at k1;cases k1;refine⟨.string<|bytesOf q,?_,by rfl⟩;unfold convert;simp only[zd,AF b f,AF b d,AF b k,zc];unfold Conv.bytesToString;simp only[zd,k2,zc];simp only[List.forIn_toArray];have e:ByteArray.empty=bytesOf []:=rfl;rw[e,OV (P:=P) (by simp) cs vs q [] k3 l w];simp
 grind
def MJ(T:Co)(t:TypeId)(cs:List V)(off:Nat):Option V:=
 match T.und t,T.inf t with
 |some d,some i=>bif EK d then some (.agg<|(cs.drop off).take i.size)else cs[off]?
 |_,_=>none
theorem Yd(f:T.Ok P){t:TypeId}{cs:List V}{c:Array Value}{off:Nat}(g:AB p cs c.toList){v:V}(a:MJ T t cs off=some v):
  ∃v',(part t c off).run P w=.ok v' w/\Ag p v v':=by
 unfold MJ at a;split at a
 case h_2=>cases a
 rename_i d i k l;unfold part;simp only[zd,TT f k,zc];cases b:EK d with
 |true=>
  simp only[b,we,ze]at a;subst a;simp only[wk,zd,BK f l,zc];refine⟨_,(by rfl),?_⟩;refine⟨_,rfl,?_⟩;have:(c.extract off<|off+i.size).toList=(c.toList.drop off).take i.size:=by
   simp
  rw[this];exact(g.drop off).take i.size
 |false=>
  simp only[b,wg]at a;obtain⟨u,o,m⟩:=g.get a;simp_all
def Mc(T:Co)(t:TypeId)(x:V)(f:Nat):Option V:=
 match T.und t,x with
 |some (.struct fs),.agg cs=>match fs[f]? with
  |some a=>MJ T a.type cs a.offset
  |none=>none
 |_,_=>none
theorem mO(b:T.Ok P){t:TypeId}{x:V}{x':Value}{f:Nat}(d:Ag p x x'){v:V}(a:Mc T t x f=some v):
  ∃v',(Instr.field t x' f).run P w=.ok v' w/\Ag p v v':=by
 unfold Mc at a;split at a
 case h_2=>cases a
 rename_i fs cs g;split at a
 case h_2=>cases a
 rename_i m k;obtain⟨c,rfl,l⟩:=d;unfold Instr.field;simp only[zd,AF b g,zc,k];exact Yd b l a
def LD(T:Co)(t:TypeId)(x:V)(f:Nat):Option V:=
 match T.und t,x with
 |some (.struct fs),.ptr b off=>match fs[f]? with
  |some a=>match T.inf a.type with
   |some i=>if i.size=0 then none else some<|.ptr b<|off+a.offset
   |none=>none
  |none=>none
 |_,_=>none
theorem lG(c:T.Ok P){t:TypeId}{x:V}{x':Value}{f:Nat}(d:Ag p x x'){v:V}(a:LD T t x f=some v):
  ∃v',(Instr.fieldAt t x' f).run P w=.ok v' w/\Ag p v v':=by
 unfold LD at a;split at a
 case h_2=>cases a
 rename_i fs b off g;split at a
 case h_2=>cases a
 rename_i o m;split at a
 case h_2=>cases a
 rename_i i l;split at a
 case isTrue=>cases a
 rename_i k;cases a;obtain⟨r,n,hp,rfl⟩:=d;unfold Instr.fieldAt;simp only[zd,AF c g,zc,m];unfold yf fieldPlace;simp only[zf,zc,zd,BK c l,k,vf,Addr.Of];simp_all [Ag]
def Gi(T:Co)(t:TypeId)(x c:V):Option V:=
 match T.und t,x,c with
 |some (.slice e),.sl b off len _ _,.int _ i=>
  match T.inf e,i with
  |some a,.ofNat n=>bif ya n len then some (.ptr b<|off+n*a.size)else none
  |_,_=>none
 |some (.array len e),.ptr b off,.int _ i=>
  match T.inf e,i with
  |some a,.ofNat n=>bif ya n len then some (.ptr b<|off+n*a.size)else none
  |_,_=>none
 |_,_,_=>none
theorem H4(a b:Nat):ya a b=decide (a<b):=by
 rw[Bool.eq_iff_iff];simp
theorem mI(s:T.Ok P){t:TypeId}{x A:V}{x' l:Value}(q:Ag p x x')(g:Ag p A l){v:V}(f:Gi T t x A=some v):
  ∃v',(Instr.indexAt t x' l).run P w=.ok v' w/\Ag p v v':=by
 unfold Gi at f;split at f
 case h_3=>cases f
 case h_1=>
  rename_i e b off len cap o k i u;split at f
  case h_2=>cases f
  rename_i B n y;rw[H4]at f;by_cases a:n<len
  ·simp only[a,decide_true,we,ze]at f;subst f;simp only[Ag]at q g;obtain⟨r,m,c,hp,rfl,_⟩:=q;subst g;unfold Instr.indexAt asIntOf;have d:(0:Int)<=(n:Int)/\(n:Int)<(len:Int):=⟨by simp,by simpa using a⟩;simp only[zd,zf,AF s u,zc,d,and_self,wk,BK s y,Addr.Of,z6,ye];exact⟨_,rfl,by simp only[Ag];exact⟨_,_,hp,rfl⟩⟩
  ·simp[a]at f
 case h_2=>
  rename_i len e b off k i u;split at f
  case h_2=>cases f
  rename_i B n y;rw[H4]at f;by_cases a:n<len
  ·simp only[a,decide_true,we,ze]at f;subst f;simp only[Ag]at q g;obtain⟨r,m,hp,rfl⟩:=q;subst g;unfold Instr.indexAt asIntOf yf;have d:(0:Int)<=(n:Int)/\(n:Int)<(len:Int):=⟨by simp,by simpa using a⟩;simp only[zd,zf,AF s u,zc,d,and_self,wk,BK s y,Addr.Of,z6,ye];exact⟨_,rfl,by simp only[Ag];exact⟨_,_,hp,rfl⟩⟩
  ·simp[a]at f
def Kb(T:Co)(t:TypeId)(x a:V):Option V:=
 match T.und t,x,a with
 |some .string,.str s,.int _ (.ofNat n)=>match s[n]? with
  |some b=>some<|.int .u8 b.toNat
  |none=>none
 |some (.array len e),.agg cs,.int _ (.ofNat n)=>
  match T.inf e with
  |some c=>bif ya n len then MJ T e cs (n*c.size)else none
  |_=>none
 |_,_,_=>none
theorem kO(o:T.Ok P){t:TypeId}{x u:V}{x' l:Value}(m:Ag p x x')(d:Ag p u l){v:V}(a:Kb T t x u=some v):
  ∃v',(Instr.index t x' l).run P w=.ok v' w/\Ag p v v':=by
 unfold Kb at a;split at a
 case h_3=>cases a
 case h_1=>
  rename_i s k n q;split at a
  case h_2=>cases a
  rename_i b r;cases a;simp only[Ag]at m d;subst m d;unfold Instr.index asIntOf;have e:(bytesOf s)[n]?=some b:=by
   have B:=(zn.1 r).1;have y:=(zn.1 r).2;rw[getElem?_pos (bytesOf s) n<|by rw[Cb];exact B];congr 1
  simp only[zd,zf,AF o q,zc,z6,Int.natCast_nonneg,wk,ye,e];exact⟨_,rfl,by simp[Ag]⟩
 case h_2=>
  rename_i len e cs k n q;split at a
  case h_2=>cases a
  rename_i C y;rw[H4]at a;by_cases f:n<len
  ·simp only[f,decide_true,we]at a;simp only[Ag]at m d;obtain⟨c,rfl,A⟩:=m;subst d;unfold Instr.index asIntOf;have g:(0:Int)<=(n:Int)/\(n:Int)<(len:Int):=⟨by simp,by simpa using f⟩;simp only[zd,zf,AF o q,zc,g,and_self,wk,BK o y,z6,ye];exact Yd o A a
  ·simp[f]at a
def Ir(x:V)(i:Nat):Option V:=
 match x with
 | .tup vs=>vs[i]?
 |_=>none
theorem WQ{x:V}{x':Value}{i:Nat}(b:Ag p x x'){v:V}(a:Ir x i=some v):∃v',(Instr.extract x' i).run P w=.ok v' w/\Ag p v v':=by
 unfold Ir at a;split at a
 case h_2=>cases a
 obtain⟨c,rfl,d⟩:=b;obtain⟨u,h1,h2⟩:=d.get a;simp_all [Instr.extract]
def Fq(x:Option V)(y IP:Nat):Option Nat:=
 match x with
 |none=>some IP
 |some (.int _<|.ofNat n)=>bif zl n y then some n else none
 |_=>none
def NO(mx:Option V)(o:Nat):Nat:=match mx with|some _=>0|none=>o
def sL(a mx:Option V):Option Nat:=match a,mx with
 |none,some _=>none
 |_,_=>Fq a 0 0
def Re(mx:Option V):Bool:=match mx with
 |some _=>true
 |none=>false
def Ex(T:Co)(t:TypeId)(x:V)(lo a mx:Option V):Option V:=
 match T.und t,x with
 |some .string,.str s=>
  match mx,Fq a s.length s.length with
  |none,some h=>match Fq lo h 0 with
   |some l=>some<|.str<|(s.drop l).take<|h-l
   |none=>none
  |_,_=>none
 |some (.slice e),.sl b off len cap o=>
  match T.inf e,Fq mx cap cap with
  |some c,some m=>match (match a,mx with|none,some _=>none|_,_=>Fq a m len)with
   |some h=>match Fq lo h 0 with
    |some l=>
     let o':=NO mx o
     bif zh m l then(bif zh o' 0 then some (.sl b off (h-l) (m-l) 0)else some .esl)
     else bif zh o' 0||zh o' c.size then some (.sl b (off+l*c.size) (h-l) (m-l) o')else none
    |none=>none
   |none=>none
  |_,_=>none
 |some (.slice e),.nils=>
  match Fq mx 0 0,sL a mx,T.inf e with
  |some _,some h,some _=>match Fq lo h 0 with
   |some _=>some .nils
   |none=>none
  |_,_,_=>none
 |some (.slice e),.esl=>
  match Fq mx 0 0,sL a mx,T.inf e with
  |some _,some h,some _=>match Fq lo h 0 with
   |some _=>some<|bif Re mx then .es0 else .esl
   |none=>none
  |_,_,_=>none
 |some (.slice e),.es0=>
  match Fq mx 0 0,sL a mx,T.inf e with
  |some _,some h,some _=>match Fq lo h 0 with
   |some _=>some .es0
   |none=>none
  |_,_,_=>none
 |some (.array n e),.ptr b off=>
  match T.inf e,mx,Fq a n n with
  |some c,none,some h=>match Fq lo h 0 with
   |some l=>bif zh n l then some (.sl b off (h-l) (n-l) 0)else some<|.sl b (off+l*c.size) (h-l) (n-l) 0
   |none=>none
  |_,_,_=>none
 |_,_=>none
def Is(p:Pl):Option V->Option Value->Prop
 |none,x=>x=none
 |some d,x=>∃v,x=some v/\Ag p d v
theorem Ct{x:Option V}{x':Option Value}{y z n y':Nat}(f:Is p x x')(b:Fq x y z=some n)(l:y<=y'):
  (x=none/\x'=none/\n=z)\/(∃d u,x=some d/\x'=some u/\n<=y/\∀a (P:Program) (w:World),(Instr.sliceBound u y' a).run P w=.ok n w):=by
 cases x with
 |none=>simp_all [Is,Fq]
 |some d=>
  obtain⟨u,rfl,g⟩:=f;unfold Fq at b;split at b
  case h_1=>grind
  case h_3=>cases b
  rename_i k m e;cases e;by_cases c:m<=y
  ·simp only[Nat.ble_eq_true_of_le c,we,ze]at b;simp only[Ag]at g;unfold Instr.sliceBound asIntOf;have o:(0:Int)<=(m:Int)/\(m:Int)<=(y':Int):=ae;simp_all
  ·have:zl m y=false:=by simp_all [Bool.eq_false_iff]
   grind
theorem Kk{lo o mx:Option V}{g f k:Option Value}(r:Is p lo g)(a:Is p o f)(q:Is p mx k){m h l:Nat}(B:Fq mx 0 0=some m)(y:sL o mx=some h)(v:Fq lo h 0=some l)(c:Nat):
  (zu true 0 c g f k).run P w=.ok (0,0,bif Re mx then 0 else c) w:=by
 unfold sL at y;have h0:h=0:=by
  have:Fq o 0 0=some h:=by
   grind
  rcases Ct a this (zi _)with⟨_,_,rfl⟩|⟨_,_,_,_,h,_⟩<;>omega
 subst h0;unfold zu;cases mx with
 |none=>
  have b:Fq o 0 0=some 0:=ah
  simp only[Is]at q;rcases Ct a b (Nat.zero_le c)with⟨_,rfl,_⟩|⟨_,u,_,rfl,_,D⟩<;>rcases Ct r v (zi _)with⟨_,rfl,_⟩|⟨_,u2,_,rfl,_,s⟩
  all_goals simp_all [Re]
 |some d=>
  cases o with
  |none=>grind
  |some C=>
   have b:Fq (some C) 0 0=some 0:=ae
   rcases Ct q B (Nat.zero_le c)with⟨h,_,_⟩|⟨_,E,_,rfl,A,x⟩
   ·cases h
   ·obtain rfl:m=0:=ae
    rcases Ct a b ae with⟨h,_,_⟩|⟨_,u,_,rfl,_,D⟩
    ·cases h
    ·rcases Ct r v ae with⟨_,rfl,_⟩|⟨_,u2,_,rfl,_,s⟩
     all_goals simp_all [Re]
theorem lN(E:T.Ok P){t:TypeId}{x:V}{lo hi mx:Option V}{x':Value}{I K N:Option Value}(M:Ag p x x')(y:Is p lo I)(q:Is p hi K)(B:Is p mx N)
  {v:V} (f:Ex T t x lo hi mx=some v):∃v',(zr t x' I K N).run P w=.ok v' w/\Ag p v v':=by
 unfold Ex at f;split at f
 case h_7=>cases f
 case h_1=>
  rename_i s F;split at f
  case h_2=>cases f
  rename_i A g;split at f
  case h_2=>cases f
  rename_i l G;cases f;simp only[Is]at B;subst B;simp only[Ag]at M;subst M;refine⟨.string<|bytesOf<|(s.drop l).take<|A-l,?_,by rfl⟩;unfold zr;simp only[zd,AF E F,zc];unfold yk;simp only[zd,AF E F,zc,Option.isSome_none,zz,vf,Cb];unfold zu;have e:(bytesOf s).extract l A=bytesOf ((s.drop l).take<|A-l):=by
   apply ByteArray.ext;simp_all [bytesOf]
  rcases Ct q g (zi _)with⟨_,rfl,rfl⟩|⟨_,u,_,rfl,_,hu⟩<;>rcases Ct y G (zi _)with⟨_,rfl,rfl⟩|⟨_,u2,_,rfl,_,W⟩
  all_goals simp_all
 case h_2=>
  rename_i e b off len cap o F;split at f
  case h_2=>cases f
  rename_i Z m U hm;split at f
  case h_2=>cases f
  rename_i A g;split at f
  case h_2=>cases f
  rename_i l G;simp only[Ag]at M;obtain⟨r,n,c,hp,rfl,hlen,Q,ho1,ho2⟩:=M;obtain⟨L,gm2,hhm,R,hbounds⟩:∃L,((mx=none/\L=c/\m=cap)\/(mx≠none/\L=m))/\A<=m/\l<=A/\(zu true len c I K N).run P w=.ok (l,A,L) w:=by
   have R:l<=A:=by
    rcases Ct y G (zi _)with⟨_,_,rfl⟩|⟨_,_,_,_,h,_⟩
    ·omega
    omega
   rcases Ct B hm Q with⟨rfl,rfl,rfl⟩|⟨dm,um,rfl,rfl,hm1,hum⟩
   ·have C:Fq hi m len=some A:=ah
    refine⟨c,(by simp),?_,R,?_⟩
    ·rcases Ct q C Q with⟨_,_,rfl⟩|⟨_,_,_,_,h,_⟩
     ·omega
     omega
    ·unfold zu;rcases Ct q C Q with⟨_,rfl,rfl⟩|⟨_,u,_,rfl,_,hu⟩<;>rcases Ct y G (zi _)with⟨_,rfl,rfl⟩|⟨_,u2,_,rfl,_,W⟩
     all_goals simp_all
   ·cases hi with
    |none=>grind
    |some dh=>
     have C:Fq (some dh) m len=some A:=ae
     refine⟨m,(by simp),?_,R,?_⟩
     ·rcases Ct q C ae with⟨h,_⟩|⟨_,_,_,_,h,_⟩
      ·cases h
      omega
     ·unfold zu;rcases Ct q C (zi _)with⟨h,_,_⟩|⟨_,u,_,rfl,_,hu⟩
      ·cases h
      ·rcases Ct y G (zi _)with⟨_,rfl,rfl⟩|⟨_,u2,_,rfl,_,W⟩
       all_goals simp_all
  have gm1:m<=L:=ae
  have D:(zr t (.slice (some ⟨r,off,none⟩) len c) I K N).run P w=.ok (.slice (if L=l then some ⟨r,off,none⟩else some ⟨r,off+l*Z.size,none⟩) (A-l)<|L-l) w:=by
   unfold zr;simp only[zd,AF E F,zc];unfold yk;simp only[zd,AF E F,zc,hbounds,BK E U,zf];simp
  refine⟨_,D,?_⟩;simp only[Bz]at f;by_cases J:m=l
  ·simp only[J,decide_true,we]at f;by_cases S:NO mx o=0
   ·simp only[S,decide_true,we,ze]at f;subst f;have hm':L=l:=by
     grind [NO]
    simp_all [Ag]
   ·simp only[S,decide_false,wg,ze]at f;subst f;have Y:A-l=0:=ae
    simp only[Y,Ag];grind
  ·simp only[J,decide_false,wg]at f;by_cases S:NO mx o=0\/NO mx o=Z.size
   ·have X:(decide (NO mx o=0)||decide (NO mx o=Z.size))=true:=ah
    simp only[X,we,ze]at f;subst f;have hne:L≠l:=ae
    simp only[hne,vf,Ag];refine⟨r,n,_,hp,rfl,by omega,by omega,fun k=>?_,fun k=>?_⟩
    ·grind [NO]
    ·rcases gm2 with⟨k1,k2,k3⟩|⟨k1,k2⟩
     ·subst k1;simp only[NO]at k S ⊢;rcases S with S|S
      ·omega
      ·have:=ho2 k;subst k2;rw[<-S];have e:off+l*o+(L-l)*o=off+L*o:=by
        rw[Nat.sub_mul];have:l*o<=L*o:=z7 _ ae;omega
       omega
     ·cases mx with
      |none=>grind
      |some d=>simp[NO]at k
   grind
 case h_3=>
  rename_i e F;split at f
  case h_2=>cases f
  rename_i mm A tz O g Y;split at f
  case h_2=>cases f
  rename_i l G;cases f;simp only[Ag]at M;subst M;refine⟨.slice none 0 0,?_,by rfl⟩;unfold zr;simp only[zd,AF E F,zc];unfold yk;simp only[zd,AF E F,zc,Kk (P:=P) (w:=w) y q B O g G 0];cases mx<;>simp[Re,BK E Y]
 case h_4=>
  rename_i e F;split at f
  case h_2=>cases f
  rename_i mm A tz O g Y;split at f
  case h_2=>cases f
  rename_i l G;simp only[Ag]at M;obtain⟨a,c,rfl⟩:=M;have D:∃a',(zr t (.slice (some a) 0 c) I K N).run P w=.ok (.slice (some a') 0<|bif Re mx then 0 else c) w:=by
   unfold zr;simp only[zd,AF E F,zc];unfold yk;simp only[zd,AF E F,zc,Kk (P:=P) (w:=w) y q B O g G c];simp only[BK E Y,zc,zf,Nat.sub_zero,Nat.sub_self];split
   ·simp
   simp
  obtain⟨a',ha'⟩:=D;refine⟨_,ha',?_⟩;cases f;cases mx with
  |none=>simp_all [Re,Ag]
  |some d=>simp_all [Re,Ag]
 case h_5=>
  rename_i e F;split at f
  case h_2=>cases f
  rename_i mm A tz O g Y;split at f
  case h_2=>cases f
  rename_i l G;cases f;simp only[Ag]at M;obtain⟨a,rfl⟩:=M;refine⟨.slice (some a) 0 0,?_,by simp_all [Ag]⟩;unfold zr;simp only[zd,AF E F,zc];unfold yk;simp only[zd,AF E F,zc,Kk (P:=P) (w:=w) y q B O g G 0];cases mx<;>simp[Re,BK E Y]
 case h_6=>
  rename_i nn e b off F;split at f
  case h_2=>cases f
  rename_i Z A U g;split at f
  case h_2=>cases f
  rename_i l G;simp only[Is]at B;subst B;simp only[Ag]at M;obtain⟨r,n,hp,rfl⟩:=M;have R:l<=A:=by rcases Ct y G (zi _)with⟨_,_,rfl⟩|⟨_,_,_,_,h,_⟩<;>omega
  have hhn:A<=nn:=by rcases Ct q g (zi _)with⟨_,_,rfl⟩|⟨_,_,_,_,h,_⟩<;>omega
  have D:(zr t (.pointer<|some ⟨r,off,none⟩) I K none).run P w=.ok (.slice (some<|if nn=l then⟨r,off,none⟩else⟨r,off+l*Z.size,none⟩) (A-l)<|nn-l) w:=by
   unfold zr;simp only[zd,AF E F,zc];unfold yf zu;rcases Ct q g (zi _)with⟨_,rfl,rfl⟩|⟨_,u,_,rfl,_,hu⟩<;>rcases Ct y G (zi _)with⟨_,rfl,rfl⟩|⟨_,u2,_,rfl,_,W⟩
   all_goals simp only[Option.isSome_none,zz,vf,zd,zf,zc,BK E U,Addr.Of, *]
  refine⟨_,D,?_⟩;simp only[Bz]at f;by_cases J:nn=l
  ·simp only[J,decide_true,we,ze]at f;subst f;simp_all [Ag]
  ·simp only[J,decide_false,wg,ze]at f;subst f;simp only[J,vf,Ag];grind
def i64(n:Nat):V:=.int .i64<|.ofNat n
def Ha(T:Co)(h:H)(ts:Array TypeId)(args:List V):Option V:=
 match ts[0]?,args with
 |some t,[x]=>
  match T.und t,x with
  |some .string,.str s=>some<|i64 s.length
  |some (.array n _),_=>some<|i64 n
  |some (.slice _),.sl _ _ len _ _=>some<|i64 len
  |some (.slice _),.nils=>some<|i64 0
  |some (.slice _),.esl=>some<|i64 0
  |some (.slice _),.es0=>some<|i64 0
  |some (.map _ _),.nilm=>some<|i64 0
  |some (.map _ _),.map b=>match h.get b with
   |some (.map es _)=>some<|i64 es.length
   |_=>none
  |_,_=>none
 |_,_=>none
theorem AB.one{ds:V}{l:List Value}(a:AB p [ds] l):∃v,l=[v]/\Ag p ds v:=by
 match l,a with
 |[v],h=>simp_all
 |[],h=>simp at h
 |_::_::_,h=>simp at h
theorem AB.two{d e:V}{l:List Value}(a:AB p [d,e] l):∃v u,l=[v,u]/\Ag p d v/\Ag p e u:=by
 match l,a with
 |[v,u],h=>exact⟨v,u,rfl,by simp_all⟩
 |[],h=>simp at h
 |[_],h=>simp at h
 |_::_::_::_,h=>simp at h
theorem Ec.length{es:List (V×V×Nat)}{l:List MapEntry}(h:Ec p es l):es.length=l.length:=by
 induction h with
 |nil=>rfl
 |cons _ _ _ _ a=>simp[a]
theorem AcW(u:T.Ok P)(hr:R p h w){ts:Array TypeId}{t:TypeId}{args:List V}{args':Array Value}(g:AB p args args'.toList){v:V}(a:Ha T h ts args=some v):
  ∃v',(Builtin.len_ ts t args').run P w=.ok v' w/\Ag p v v':=by
 unfold Ha at a;split at a
 case h_2=>cases a
 rename_i t0 x q;obtain⟨x',d,b⟩:=g.one;have c:args'[0]?=some x':=by rw[<-yg,d];rfl
 unfold Builtin.len_;simp only[q,c];split at a
 case h_9=>cases a
 all_goals (rename_i y;simp only[zd,AF u y,zc];try simp only[Ag]at b)
 case h_1=>cases a;simp_all [i64,Ag,goInt,Cb]
 case h_2=>cases a;simp_all [i64,Ag,goInt]
 case h_3=>obtain⟨_,_,_,_,rfl,_⟩:=b;cases a;simp_all [i64,Ag,goInt]
 case h_4=>cases a;simp_all [i64,Ag,goInt]
 case h_5=>obtain⟨_,_,rfl⟩:=b;cases a;simp_all [i64,Ag,goInt]
 case h_6=>obtain⟨_,rfl⟩:=b;cases a;simp_all [i64,Ag,goInt]
 case h_7=>cases a;simp_all [i64,Ag,goInt]
 case h_8=>
  obtain⟨r,n,hp,rfl⟩:=b;split at a
  case h_2=>cases a
  rename_i es B s;cases a;obtain⟨C,n',o,f,A,l,m,k⟩:=hr.obj _ _ s;rw[hp]at f;cases f;subst m;refine⟨goInt l.size,?_,?_⟩
  ·simp[getObj,Sem.run,A]
  ·have:=k.length;simp only[i64,Ag,goInt];grind
def nM(a b:V):Option V:=
 match a,b with
 | .int k x,.int _ y=>some<|.int k<|if y>x then y else x
 |_,_=>none
def Ac6(a b:V):Option V:=
 match a,b with
 | .int k x,.int _ y=>some<|.int k<|if y<x then y else x
 |_,_=>none
def dfold(f:V->V->Option V):V->List V->Option V
 |x,[]=>some x
 |x,y::a=>match f x y with
  |some z=>dfold f z a
  |none=>none
theorem Sl{f:V->V->Option V}{g:Value->Value->Sem Value}(m:∀ {a b c:V} {s b':Value},Ag p a s->Ag p b b'->f a b=some c->∃r,(g s b').run P w=.ok r w/\Ag p c r):
  ∀(o:List V) (k:List Value) (x:V) (x':Value),Ag p x x'->AB p o k->∀ {v:V},dfold f x o=some v->∃v',(k.foldlM g x').run P w=.ok v' w/\Ag p v v'
 |[],k,x,x',q,d,v,l=>by
  cases l;simp_all
 |y::o,[],_,_,_,d,_,_=>by simp at d
 |y::o,y'::k,x,x',q,d,v,l=>by
  simp only[BE]at d;unfold dfold at l;split at l
  case h_2=>cases l
  rename_i z A;obtain⟨u,C,B⟩:=m q d.1 A;obtain⟨v',h3,h4⟩:=Sl m o k z u B d.2 l;simp_all
def HB(f:V->V->Option V)(args:List V):Option V:=
 match args with
 |[]=>none
 |x::a=>dfold f x a
theorem AbY{ts:Array TypeId}{t:TypeId}{args:List V}{args':Array Value}(d:AB p args args'.toList){v:V}(g:HB nM args=some v):
  ∃v',(Builtin.max_ ts t args').run P w=.ok v' w/\Ag p v v':=by
 unfold HB at g;split at g
 case h_1=>cases g
 rename_i x l;unfold Builtin.max_;cases m:args'.toList with
 |nil=>simp_all
 |cons x' k=>
  rw[m]at d;simp only[BE]at d;refine Sl (fun {a b c r b'} q o f=>?_) l k x x' d.1 d.2 g;unfold nM at f;split at f
  case h_2=>cases f
  subst q o;cases f;exact⟨_,rfl,by rfl⟩
theorem AaZ{ts:Array TypeId}{t:TypeId}{args:List V}{args':Array Value}(d:AB p args args'.toList){v:V}(g:HB Ac6 args=some v):
  ∃v',(Builtin.min_ ts t args').run P w=.ok v' w/\Ag p v v':=by
 unfold HB at g;split at g
 case h_1=>cases g
 rename_i x l;unfold Builtin.min_;cases m:args'.toList with
 |nil=>simp_all
 |cons x' k=>
  rw[m]at d;simp only[BE]at d;refine Sl (fun {a b c r b'} q o f=>?_) l k x x' d.1 d.2 g;unfold Ac6 at f;split at f
  case h_2=>cases f
  subst q o;cases f;exact⟨_,rfl,by rfl⟩
def JC(place:Nat->Option (Nat×Nat))(cells:List V):List (Nat×V)->Option (List V)
 |[]=>some cells
 |(i,v)::a=>
  match place i with
  |none=>none
  |some (off,size)=>bif zh v.cells.length size&&zl (off+size) cells.length then JC place (Ie cells off v.cells) a else none
theorem Xw:∀(b:List V) (vs:List Value) (cs:List V) (c:Array Value) (off:Nat),AB p b vs->AB p cs c.toList->
  ∀k,AB p (Ie cs (off+k) b) ((vs.zipIdx k).foldl (fun cs (c,j)=>cs.setIfInBounds (off+j) c) c).toList
 |[],vs,cs,c,off,a,d,k=>by simp_all [Ie]
 |x::b,[],_,_,_,a,_,_=>by simp at a
 |x::b,v::vs,cs,c,off,a,d,k=>by
  simp only[BE]at a;simp only[Ie,List.zipIdx_cons,List.foldl_cons];have:=Xw b vs (cs.set (off+k) x) (c.setIfInBounds (off+k) v) off a.2 (by simpa using d.set (off+k) a.1)<|k+1;omega
inductive WK (p:Pl):List (Nat×V)->List (Nat×Value)->Prop
 |nil:WK p [] []
 |cons {i:Nat} {v:V} {v':Value} {l:List (Nat×V)} {l':List (Nat×Value)}:Ag p v v'->WK p l l'->WK p ((i,v)::l) ((i,v')::l')
theorem No{place:Nat->Option (Nat×Nat)}:∀ {l:List (Nat×V)} {l':List (Nat×Value)},WK p l l'->∀ {cs:List V} {c:Array Value} {out:List V},AB p cs c.toList->JC place cs l=some out->
  ∃o,Instr.fill place c l'=some o/\AB p out o.toList:=by
 intro l l' g;induction g with
 |nil=>intro cs c out d b;cases b;exact⟨c,rfl,d⟩
 |@cons i v v' l l' f g r=>
  intro cs c out d b;unfold JC at b;split at b
  case h_1=>cases b
  rename_i off size q;cases a:(zh v.cells.length size&&zl (off+size) cs.length)with
  |false=>grind
  |true=>
   simp only[zo,yb,Bz,w5]at a;have m:=f.cells.length;have k:=d.length;unfold Instr.fill;have:=Xw (p:=p) v.cells v'.cells.toList cs c off f.cells d 0;grind [Array.toList_zipIdx]
def LI(T:Co)(t:TypeId)(a:List (Nat×V)):Option V:=
 match T.inf t,T.und t with
 |some i,some (.struct fs)=>
  match fs.toList.mapM (fun f=>(T.inf f.type).map fun j=>(f.offset,j.size))with
  |some pl=>(JC (fun i=>pl[i]?) i.zero a).map .agg
  |none=>none
 |some i,some (.array _ e)=>match T.inf e with
  |some j=>(JC (fun i=>some (i*j.size,j.size)) i.zero a).map .agg
  |none=>none
 |_,_=>none
theorem run_places(c:T.Ok P):∀ {fs:List Field} {pl:List (Nat×Nat)},fs.mapM (fun f=>(T.inf f.type).map fun j=>(f.offset,j.size))=some pl->
  ∀w,(fs.mapM<|fun f=>(do pure (f.offset, <-sizeOf f.type):Sem (Nat×Nat))).run P w=.ok pl w
 |[],pl,h,w=>by simp_all
 |f::fs,pl,h,w=>by
  cases a:T.inf f.type with
  |none=>grind
  |some j=>
   cases b:fs.mapM (fun f=>(T.inf f.type).map fun j=>(f.offset,j.size))with
   |none=>grind
   |some d=>
    simp[a,b]at h;subst h;rw[List.mapM_cons];simp only[zd,BK c a,zc,zf,run_places c b]
theorem iY(d:T.Ok P){t:TypeId}{c:List (Nat×V)}{a:Array (Nat×Value)}(hp:WK p c a.toList){v:V}(b:LI T t c=some v):
  ∃v',(Instr.build t a).run P w=.ok v' w/\Ag p v v':=by
 unfold LI at b;split at b
 case h_3=>cases b
 case h_1=>
  rename_i i fs l k;split at b
  case h_2=>cases b
  rename_i pl g;rw[zj]at b;obtain⟨out,m,rfl⟩:=b;obtain⟨z,hz,hzr⟩:=E1 d l;have r:(fs.mapM<|fun f=>(do pure (f.offset, <-sizeOf f.type):Sem (Nat×Nat))).run P w=.ok pl.toArray w:=by
   rw[Array.mapM_eq_mapM_toList];simp only[Sem.run_map,run_places d g,zc]
  obtain⟨o,q,u⟩:=No (p:=p) (place:=fun i=>pl.toArray[i]?) hp (hzr p) (out:=out) ah;refine⟨.agg o,?_,by simp_all [Ag]⟩;unfold Instr.build;simp only[zd,hz,zc,AF d k];simp_all
 case h_2=>
  rename_i i n e l k;split at b
  case h_2=>cases b
  rename_i j s;rw[zj]at b;obtain⟨out,m,rfl⟩:=b;obtain⟨z,hz,hzr⟩:=E1 d l;obtain⟨o,q,u⟩:=No (p:=p) (place:=fun i=>some (i*j.size,j.size)) hp (hzr p) m;refine⟨.agg o,?_,by simp_all [Ag]⟩;unfold Instr.build;simp only[zd,hz,zc,AF d k,BK d s,q,zf]
def Gq(z:List V)(n:Nat):List V:=(List.range n).map fun i=>z.getD (i % z.length)<|.tup []
theorem K8{z:List V}{c:Array Value}(b:AB p z c.toList)(a:0<z.length)(n:Nat):AB p (Gq z n) ((Array.range n).map<|fun i=>c[i % c.size]!).toList:=by
 have l:=b.length;apply AB.mk (by simp[Gq]);intro i d v g m;have k:i<n:=ah
 simp only[Gq,List.getElem?_map,List.getElem?_range k,Option.map_some,ze]at g;have f:i % z.length<z.length:=Nat.mod_lt _ a;obtain⟨u,o,q⟩:=b.get (i:=i % z.length) (d:=z[i % z.length]) (by simp[f]);grind
def FC(T:Co)(h:H)(t:TypeId)(len:Nat)(a:List (Nat×V)):Option (V×H):=
 match T.und t with
 |some (.slice e)=>match T.inf e with
  |some i=>
   bif zl (len*i.size) 16777216&&ya 0 (i.zero.length)&&zh i.zero.length i.size then
    match JC (fun k=>some (k*i.size,i.size)) (Gq i.zero<|len*i.size) a with
    |some cs=>some (.sl h.nx 0 len len 0,JB h e cs)
    |none=>none
   else none
  |none=>none
 |_=>none
theorem bR(g:T.Ok P)(hr:R p h w){t:TypeId}{len:Nat}{c:List (Nat×V)}{b:Array (Nat×Value)}(hp:WK p c b.toList){v:V}{h':H}
  (d:FC T h t len c=some (v,h')):∃v' p' w',(Instr.buildSlice t len b).run P w=.ok v' w'/\Ag p' v v'/\Ext p h w p' h' w':=by
 unfold FC at d;split at d
 case h_2=>cases d
 rename_i e r;split at d
 case h_2=>cases d
 rename_i i m;cases a:(zl (len*i.size) 16777216&&ya 0 (i.zero.length)&&zh i.zero.length i.size)with
 |false=>grind
 |true=>
  simp only[a,we]at d;simp only[zo,yb,Nat.blt_eq,Bz,w5]at a;obtain⟨⟨x,q⟩,u⟩:=a;split at d
  case h_2=>cases d
  rename_i cs l;cases d;obtain⟨z,s,f⟩:=E1 g m;obtain⟨o,h1,h2⟩:=No (p:=p) (place:=fun k=>some (k*i.size,i.size)) hp (K8 (f p) q<|len*i.size) l;obtain⟨n,he,hpn,hn⟩:=PX hr e h2;refine⟨.slice (some ⟨w.heap.size,0,none⟩) len len,_,_,?_,?_,he⟩
  ·unfold Instr.buildSlice;simp only[zd,AF g r,zc,BK g m];by_cases h0:len*i.size=0
   ·grind [zd,zf,zc,C4]
   simp_all [C4]
  simp_all [Ag]
def Q0(T:Co)(h:H)(t:TypeId)(len cap:V):Option (V×H):=
 match T.und t,len,cap with
 |some (.slice e),.int _<|.ofNat l,.int _ (.ofNat c)=>
  match T.inf e with
  |some i=>
   bif zl l c&&ya c 9223372036854775808&&zl (i.bytes*c) 281474976710656&&ya 0 i.zero.length&&zh i.zero.length i.size then
    some (.sl h.nx 0 l c 0,JB h e<|Gq i.zero<|c*i.size)
   else none
  |none=>none
 |_,_,_=>none
theorem wrap_small(c:Nat)(h:c<9223372036854775808):IntKind.i64.wrap (c:Int)=c:=IntWalk.i64_in _ ae
theorem zW(g:T.Ok P)(hr:R p h w){t:TypeId}{len cap:V}{d b:Value}(r:Ag p len d)(x:Ag p cap b){v:V}{h':H}(f:Q0 T h t len cap=some (v,h')):
  ∃v' p' w',(Instr.makeSlice t d b).run P w=.ok v' w'/\Ag p' v v'/\Ext p h w p' h' w':=by
 unfold Q0 at f;split at f
 case h_2=>cases f
 rename_i e k l y c s;split at f
 case h_2=>cases f
 rename_i i m;cases a:(zl l c&&ya c 9223372036854775808&&zl (i.bytes*c) 281474976710656&&ya 0 i.zero.length&&zh i.zero.length i.size)with
 |false=>grind
 |true=>
  simp only[a,we,ze,yd]at f;obtain⟨rfl,rfl⟩:=f;simp only[zo,yb,Nat.blt_eq,Bz,w5]at a;obtain⟨⟨⟨⟨c1,c2⟩,c3⟩,c4⟩,c5⟩:=a;subst r x;obtain⟨z,hz,hzr⟩:=E1 g m;obtain⟨j,hj,hjb,_⟩:=SA g m;obtain⟨n,he,hpn,hn⟩:=PX hr e<|K8 (hzr p) c4<|c*i.size;refine⟨.slice (some ⟨w.heap.size,0,none⟩) l c,_,_,?_,?_,he⟩
  ·unfold Instr.makeSlice asInt asIntOf;simp only[zd,zf,AF g s,zc,hj,z6,wrap_small c c2,wrap_small l ae,hjb];have o:(i.bytes:Int)*(c:Int)=((i.bytes*c:Nat):Int):=(by rfl);rw[o];generalize i.bytes*c=q at c3 o ⊢;have u:¬((decide ((c:Int)<0)||decide ((q:Int)>2^48))||decide ((l:Int)<0)||decide ((l:Int)>(c:Int)))=true:=by
    grind
   rw[wc u];simp only[zd,zc,run_askRoom,BK g m,ye];by_cases h0:c*i.size=0
   ·grind [zd,zf,zc,C4]
   simp_all [C4]
  simp_all [Ag]
def src(h:H)(size:Nat)(x:V)(n:Nat):Option (List V):=
 match x with
 | .nils=>some []
 | .esl=>bif zh n 0 then some []else none
 | .es0=>bif zh n 0 then some []else none
 | .sl b off _ _ _=>rd h b off<|n*size
 | .str s=>some<|(s.take n).map fun c=>.int .u8 c.toNat
 |_=>none
def Ra:V->Option Nat
 | .nils=>some 0
 | .esl=>some 0
 | .es0=>some 0
 | .sl _ _ len _ _=>some len
 | .str s=>some s.length
 |_=>none
theorem Qy{x:V}{x':Value}(b:Ag p x x'){n:Nat}(a:Ra x=some n):(yh x').run P w=.ok n w:=by
 unfold Ra at a;split at a
 case h_1=>subst b;cases a;rfl
 case h_2=>obtain⟨_,_,rfl⟩:=b;cases a;rfl
 case h_3=>obtain⟨_,rfl⟩:=b;cases a;rfl
 case h_4=>obtain⟨_,_,_,_,rfl,_⟩:=b;cases a;rfl
 case h_5=>simp_all [Ag,yh,Cb]
 grind
theorem MN(hr:R p h w){size n:Nat}{x:V}{x':Value}(d:Ag p x x'){cs:List V}(b:src h size x n=some cs):
  ∃vs:List Value,(zm size n x').run P w=.ok vs.toArray w/\AB p cs vs:=by
 unfold src at b;split at b
 case h_6=>cases b
 case h_1=>subst d;cases b;exact⟨[],rfl,by simp⟩
 case h_2=>
  obtain⟨a,c,rfl⟩:=d;rw[Bz]at b;by_cases e:n=0
  ·simp_all [zm,loadCells,loadCellsFrom]
  grind
 case h_3=>
  obtain⟨a,rfl⟩:=d;rw[Bz]at b;by_cases e:n=0
  ·simp_all [zm,loadCells,loadCellsFrom]
  grind
 case h_4=>
  obtain⟨r,m,c,hp,rfl,_⟩:=d;obtain⟨r',m',vs,h1,h2,h3,_⟩:=run_loadCells (P:=P) hr b;rw[hp]at h1;cases h1;exact⟨vs,h2,h3⟩
 case h_5=>
  rename_i s;simp only[Ag]at d;refine⟨(s.take n).map fun c=>.int .u8 c.toNat,?_,?_⟩
  ·simp_all [zm,bytesOf]
  grind [AB.mk,Ag]
theorem bO(a c:Nat)(h:c<a):2*z8 a c<=3*a+2000:=by
 unfold z8;grind [Builtin.growBy]
def isInt:TypeDesc->Bool
 | .int _=>true
 |_=>false
def RP:V->Bool
 | .str _=>false
 |_=>true
def Hl(T:Co)(h:H)(ts:Array TypeId)(args:List V):Option (V×H):=
 match ts[0]?,ts[1]?,args with
 |some t,some tx,[s,x]=>
  match T.und t,T.und tx,Ra x with
  |some (.slice e),some dx,some n=>
   match T.inf e,isInt dx with
   |some i,false=>
    bif ya 0 i.bytes&&ya 0 i.size&&zh i.zero.length i.size&&(zh i.size 1||RP x)then
     match src h i.size x n with
     |some new=>
      match s with
      | .nils=>
       bif zh n 0 then some (.nils,h)
       else bif zl ((3*n+2000)*i.bytes) 562949953421312 then some (.sl h.nx 0 n n i.size,JB h e new)else none
      | .es0=>
       bif zh n 0 then some (.es0,h)
       else bif zl ((3*n+2000)*i.bytes) 562949953421312 then some (.sl h.nx 0 n n i.size,JB h e new)else none
      | .esl=>bif zh n 0 then some (.esl,h)else none
      | .sl b off len cap o=>
       bif zl (len+n) cap then(wr h b (off+len*i.size) new).map fun h'=>(.sl b off (len+n) cap o,h')
       else bif zl ((3*(len+n)+2000)*i.bytes) 562949953421312 then
        match src h i.size s len with
        |some old=>
         bif zh o 0 then some (.sl h.nx 0 (len+n) (len+n) i.size,JB h e<|old++new)
         else
          match h.get b with
          |some (.cells _ te fz)=>
           bif zh off 0&&zh o i.size&&zh te e&&zl fz.2 fz.1&&new.all V.one then some (.sl h.nx 0 (len+n) (len+n) i.size,(h.kill b).push<|.cells (old++new) e (0,0))
           else none
          |_=>none
        |none=>none
       else none
      |_=>none
     |none=>none
    else none
   |_,_=>none
  |_,_,_=>none
 |_,_,_=>none
theorem TL{old new:List V}{vo vn:List Value}(b:AB p old vo)(c:AB p new vn)(a:Array Value):
  AB p (old++new) ((vo.toArray++vn.toArray++a).toList.take (old++new).length):=by
 have l1:=b.length;have d:=c.length;have:((vo.toArray++vn.toArray++a).toList.take (old++new).length)=vo++vn:=by
  grind
 rw[this];exact b.append c
section
variable {ts:Array TypeId}{t t0 tx e:TypeId}{dx:TypeDesc}{i:TI}{n:Nat}{x' z:Value}{j:TypeInfo}
theorem RK(o:T.Ok P)(m:ts[0]?=some t0)(k:ts[1]?=some tx)(q:T.und t0=some (.slice e))(l:T.und tx=some dx)(f:isInt dx=false)
  (s:T.inf e=some i) (r:∀w,(yh x').run P w=.ok n w) (base:Option Addr) (d c:Nat) (g:d+n<=c):
  (zy ts t #[.slice base d c,x']).run P w=((zm i.size n x').run P w).andThen fun new w'=>((match base with|some a=>storeCells (a.add<|d*i.size) new.toList|none=>pure ():Sem Unit).run P w').andThen fun _ w'=>.ok (.slice base (d+n) c) w':=by
 unfold zy;cases dx<;>first|(cases f;done)|skip
 all_goals
  simp only[m,k,List.getElem?_toArray,yp,yq,zd,AF o q,AF o l,BK o s,zc,zf,zz,vf,r,g,wk,Bool.not_false];cases base with
  |none=>rfl
  |some b=>simp only[zd,zf]
theorem TV(f:T.Ok P)(s:ts[0]?=some t0)(q:ts[1]?=some tx)(E:T.und t0=some (.slice e))(r:T.und tx=some dx)(o:isInt dx=false)
  (v:T.inf e=some i) (u:0<i.bytes) (x:∀w,(zeroValue e).run P w=.ok z w) (F:∀w,(yh x').run P w=.ok n w) (base:Option Addr) (a c:Nat) (g:c<a+n)
  (b:(3*(a+n)+2000)*i.bytes<=562949953421312):
  ∃m,a+n<=m/\(zy ts t #[.slice base a c,x']).run P w=((zm i.size a<|.slice base a c).run P { w with drawn:=w.drawn+1 }).andThen fun old w'=>
   ((zm i.size n x').run P w').andThen fun new w'=>
    .ok (.slice (some ⟨w'.heap.size,0,none⟩) (a+n) m) { w' with heap:=w'.heap.push (.cells (old++new++zp z.cells (m-(a+n))) e) }:=by
 obtain⟨j,y,k,C⟩:=SA f v;have l:=bO (a+n) c g;have d:2*z8 (a+n) c*i.bytes<=562949953421312:=yw (z7 _ l) b;rw[Nat.mul_assoc]at d;have B:z8 (a+n) c*i.bytes<=281474976710656:=ae
 refine⟨(Question.appendCap (a+n) c e).cut<|w.tape w.drawn<|.appendCap (a+n) c e,by simp[Question.cut],?_⟩;unfold zy;have A:¬(a+n<=c):=ae
 have G:¬(z8 (a+n) c*i.bytes>2^48):=ae
 have D:¬(i.bytes=0):=ae
 cases dx<;>first|(cases o;done)|skip
 all_goals
  simp only[s,q,List.getElem?_toArray,yp,yq,zd,AF f E,AF f r,BK f v,zc,zf,zz,vf,F,Bool.not_false,wk,
   A,y,k,D,or_self,and_false,G,run_choose,Question.forced,run_askRoom,x,C4]
end
theorem J8(z:Array Value)(n:Nat):(zp z n).size=n*z.size:=by simp[zp]
theorem RT{size n:Nat}{x:V}{cs:List V}(b:Ra x=some n)(c:size=1\/∀s,x≠ .str s)(a:src h size x n=some cs):cs.length=n*size:=by
 unfold src at a;split at a
 case h_6=>cases a
 case h_1=>cases a;cases b;simp
 case h_2=>
  cases b;grind
 case h_3=>
  cases b;grind
 case h_4=>
  rw[eL]at a;grind [rd0]
 case h_5=>
  cases b;grind
theorem bI(hT:T.Ok P)(hr:R p h w){ts:Array TypeId}{t:TypeId}{args:List V}{args':Array Value}(ha:AB p args args'.toList){v:V}{h':H}(a:Hl T h ts args=some (v,h')):
  ∃v' p' w',(zy ts t args').run P w=.ok v' w'/\Ag p' v v'/\Ext p h w p' h' w':=by
 unfold Hl at a;split at a
 case h_2=>cases a
 rename_i t0 tx s x L K;obtain⟨s',x',D,Q,hx⟩:=ha.two;have ha0:args'[0]?=some s':=by rw[<-yg,D];rfl
 have ha1:args'[1]?=some x':=by rw[<-yg,D];rfl
 split at a
 case h_2=>cases a
 rename_i e dx n hu F J;split at a
 case h_2=>cases a
 rename_i i hi E;cases y:(ya 0 i.bytes&&ya 0 i.size&&zh i.zero.length i.size&&(zh i.size 1||RP x))with
 |false=>grind
 |true=>
  simp only[y,we]at a;simp only[zo,Nat.blt_eq,Bz,w5,yu]at y;obtain⟨⟨⟨c1,c2⟩,c3⟩,c4⟩:=y;have c5:i.size=1\/∀s,x≠ .str s:=c4.imp id (fun h s e=>by subst e;cases h);split at a
  case h_2=>cases a
  rename_i new B;have hnl:=RT J c5 B;obtain⟨vn,U,A⟩:=MN (P:=P) hr hx B;obtain⟨j,hj,hjb,hjs⟩:=SA hT hi;obtain⟨z,hz,hzr⟩:=E1 hT hi;have hzl:=(hzr p).length;simp at hzl;have hne:args'= #[s',x']:=ah
  subst hne;have g:∀w,(yh x').run P w=.ok n w:=fun w=>Qy hx J
  have C:∀(base:Option Addr) (c:Nat),n=0->(zy ts t #[.slice base 0 c,x']).run P w=.ok (.slice base 0 c) w:=by
   intro base c h0;rw[RK hT L K hu F E hi g base 0 c ae,U];have hv0:vn=[]:=by
    simp_all
   subst hv0;cases base<;>simp[h0,storeCells]
  have some0:∀(base:Option Addr),¬n=0->(3*n+2000)*i.bytes<=562949953421312->∃v' p' w',(zy ts t #[.slice base 0 0,x']).run P w=.ok v' w'/\Ag p' (.sl h.nx 0 n n i.size) v'/\Ext p h w p' (JB h e new) w':=by
   intro base h0 hb;obtain⟨l,hnc,M⟩:=TV (w:=w) (t:=t) hT L K hu F E hi c1 hz g base 0 0 ae ah;simp only[Nat.zero_add]at M hnc;have f:=Ext.drew hr<|w.drawn+1;obtain⟨vn',hvn',hvnr'⟩:=MN (P:=P) f.rel hx B;have G:=Ext.push (n:=l*i.size) f.rel (o:=.cells new e (0,0)) (x:=.cells (#[]++vn'.toArray++zp z.cells (l-n)) e) ?_
   ·refine⟨.slice (some ⟨w.heap.size,0,none⟩) n l,_,_,?_,?_,f.trans G⟩
    ·rw[M];have hf:∀w,(zm i.size 0<|Value.slice base 0 0).run P w=.ok #[] w:=by
      intro w;cases base<;>simp[zm,loadCells,loadCellsFrom]
     grind [zc]
    ·simp only[Ag];refine⟨w.heap.size,l*i.size,l,by rw[<-hr.len];simp,rfl,zi _,by omega,ae,ae⟩
   ·have hl:=hvnr'.length;have hsz:(#[]++vn'.toArray++zp z.cells (l-n)).size=l*i.size:=by
     simp_all [J8,Nat.sub_mul,z7]
    refine⟨_,(0,0),rfl,hsz,?_,?_,ae⟩
    ·grind
    ·have:=TL (p:=p) (old:=[]) (vo:=[]) (by simp) hvnr'<|zp z.cells<|l-n;simpa using this.toC
  split at a
  case h_5=>cases a
  case h_1=>
   simp only[Ag]at Q;subst Q;rw[Bz]at a;by_cases h0:n=0
   ·simp only[h0,decide_true,we,ze,yd]at a;obtain⟨rfl,rfl⟩:=a;exact⟨.slice none 0 0,p,w,ah,by rfl,Ext.refl hr⟩
   ·simp only[h0,decide_false,wg]at a;cases hb:zl ((3*n+2000)*i.bytes) 562949953421312 with
    |false=>grind
    |true=>
     simp_all
  case h_2=>
   simp only[Ag]at Q;obtain⟨a0,rfl⟩:=Q;rw[Bz]at a;by_cases h0:n=0
   ·simp only[h0,decide_true,we,ze,yd]at a;obtain⟨rfl,rfl⟩:=a;exact⟨_,p,w,C (some a0) 0 h0,by simp[Ag],Ext.refl hr⟩
   ·simp only[h0,decide_false,wg]at a;cases hb:zl ((3*n+2000)*i.bytes) 562949953421312 with
    |false=>grind
    |true=>
     simp_all
  case h_3=>
   simp only[Ag]at Q;obtain⟨a0,c0,rfl⟩:=Q;rw[Bz]at a;by_cases h0:n=0
   ·simp only[h0,decide_true,we,ze,yd]at a;obtain⟨rfl,rfl⟩:=a;exact⟨_,p,w,C (some a0) c0 h0,by simp[Ag],Ext.refl hr⟩
   grind
  case h_4=>
   rename_i b off len cap o;simp only[Ag]at Q;obtain⟨r,m,c,hp,rfl,hlen,hcap,ho1,ho2⟩:=Q;cases hle:zl (len+n) cap with
   |true=>
    simp only[hle,we,zj,yd]at a;obtain⟨h1,hw,rfl,rfl⟩:=a;rw[yb]at hle;obtain⟨r',m',w',g1,g2,g3⟩:=Uw (P:=P) hr A hw;rw[hp]at g1;cases g1;refine⟨.slice (some ⟨r,off,none⟩) (len+n) c,p,w',?_,?_,g3⟩
    ·rw[RK hT L K hu F E hi g _ len c ae,U];simp_all
    ·simp only[Ag];grind
   |false=>
    simp only[hle,wg]at a;have hle':¬(len+n<=cap):=by grind [yb]
    cases hb:zl ((3*(len+n)+2000)*i.bytes) 562949953421312 with
    |false=>grind
    |true=>
     simp only[hb,we]at a;rw[yb]at hb;split at a
     case h_2=>cases a
     rename_i old I;have hol:=RT (x:=.sl b off len cap o) (n:=len) rfl (by simp) I;have Z:∀q:Pl,(∃q',q=p++q')->Ag q (.sl b off len cap o) (.slice (some ⟨r,off,none⟩) len c):=by
      rintro q ⟨q',rfl⟩;exact Ag.mono q' (by simp_all)
     have fresh:∀(_:c<len+n) (h2:H),R p h2 { w with drawn:=w.drawn+1 }->h2.nx=h.nx->
       ∃v' p' w',(zy ts t #[.slice (some ⟨r,off,none⟩) len c,x']).run P w=.ok v' w'/\Ag p' (.sl h.nx 0 (len+n) (len+n) i.size) v'/\
        Ext p h2 { w with drawn:=w.drawn+1 } p' (h2.push<|.cells (old++new) e (0,0)) w':=by
      intro hlt h2 hr2 hnx;obtain⟨l,hnc,M⟩:=TV (w:=w) (t:=t) hT L K hu F E hi c1 hz g (some ⟨r,off,none⟩) len c hlt hb;have f:=Ext.drew hr<|w.drawn+1;obtain⟨vn',hvn',hvnr'⟩:=MN (P:=P) f.rel hx B;obtain⟨vo',hvo',hvor'⟩:=MN (P:=P) (x:=.sl b off len cap o) f.rel (Z p<|by simp) I;have hl:=hvnr'.length;have hl2:=hvor'.length;have hsz:(vo'.toArray++vn'.toArray++zp z.cells (l-(len+n))).size=l*i.size:=by
       have e1:vn'.length=n*i.size:=ae
       have e2:vo'.length=len*i.size:=ae
       simp only[Array.size_append,J8,List.size_toArray,e1,e2, <-hzl,c3,Nat.sub_mul,Nat.add_mul];have:(len+n)*i.size<=l*i.size:=z7 _ ae;grind
      have G:=Ext.push (n:=l*i.size) hr2 (o:=.cells (old++new) e (0,0)) (x:=.cells (vo'.toArray++vn'.toArray++zp z.cells (l-(len+n))) e)
       ⟨_,(0,0),rfl,hsz,by grind,(TL hvor' hvnr' _).toC,ae⟩
      refine⟨.slice (some ⟨w.heap.size,0,none⟩) (len+n) l,_,_,?_,?_,G⟩
      ·grind [zc]
      ·simp only[Ag];refine⟨w.heap.size,l*i.size,l,?_,rfl,zi _,by omega,ae,ae⟩;rw[<-hnx, <-hr2.len];simp
     rw[Bz]at a;by_cases h0:o=0
     ·simp only[h0,decide_true,we,ze,yd]at a;obtain⟨rfl,rfl⟩:=a;have:=ho1 h0;have f:=Ext.drew hr<|w.drawn+1;obtain⟨v',p',w',k1,k2,k3⟩:=fresh ae h f.rel rfl;exact⟨v',p',w',k1,k2,f.trans k3⟩
     ·simp only[h0,decide_false,wg]at a;split at a
      case h_2=>cases a
      rename_i cs te fz hbk;cases X:(zh off 0&&zh o i.size&&zh te e&&zl fz.2 fz.1&&new.all V.one)with
      |false=>grind
      |true=>
       simp only[X,we,ze,yd]at a;obtain⟨rfl,rfl⟩:=a;simp only[zo,yb,Bz,w5,List.all_eq_true]at X;obtain⟨⟨⟨⟨rfl,rfl⟩,rfl⟩,d4⟩,d5⟩:=X;by_cases S:len+n<=c
       ·
        obtain⟨r',m',cc,fz',g1,g2,g3,g4,g5,g6,g7⟩:=cell_of hr hbk;rw[hp]at g1;cases g1;have hm:=ho2 h0;have hl:=A.length;have hone:∀v∈vn,v.oneCell'=true:=by
         intro v hv;obtain⟨k,Y⟩:=List.mem_iff_getElem?.1 hv;have hk':=(zn.1 Y).1;obtain⟨u,O,hu2⟩:=A.get (i:=k) (d:=new[k]'ae) (by simp);rw[Y]at O;cases O;exact hu2.one ah
        have hbnd:len*i.size+n*i.size<=c*i.size:=by rw[<-Nat.add_mul];simp_all [z7]
        obtain⟨cc',k1,k2,k3⟩:=G7 (P:=P) vn w cc (len*i.size) 0 g2 ae hone (by
         grind)
        have hrd:old=cs.take (len*i.size)/\len*i.size<=cs.length:=by
         unfold src at I;simp_all [eL,rd0]
        refine⟨.slice (some ⟨r,0,none⟩) (len+n) c,p++[(r,m)],{ w with heap:=w.heap.setIfInBounds r (.cells cc' te fz') },?_,?_,Ext.move hr (o':=.cells (old++new) te (0,0)) hbk hp ⟨cc',fz',rfl,by omega,?_,?_,?_⟩ rfl rfl rfl rfl (fun _ _ _ e1 hlk=>by cases e1;obtain⟨l1,_,l3⟩:=hlk;omega)⟩
        ·rw[RK hT L K hu F E hi g _ len c S,U];simp_all
        ·simp only[Ag];exact⟨r,m,c,by rw[<-hr.len];simp,rfl,zi _,S,ae,fun _=>hm⟩
        ·grind
        ·refine⟨?_,?_⟩
         ·grind
         ·intro k d v N W hokk;have hkl:k<(old++new).length:=ah;rw[zq hkl,k3]at W;rw[List.length_append,hol,hnl]at hkl;simp only[Nat.add_zero,List.getElem?_map]at W;rw[List.getElem?_range ae]at W;by_cases Y:k<len*i.size
          ·rw[List.getElem?_append_left ae,hrd.1,zq Y]at N;obtain⟨u,O,hu2⟩:=g5.get N hokk;grind
          ·rw[List.getElem?_append_right ae,hol]at N;obtain⟨u,O,hu2⟩:=A.get N;grind
        grind
       ·have Y:=Ext.kill hr b;have f:=Ext.drew Y.rel<|w.drawn+1;obtain⟨v',p',w',k1,k2,k3⟩:=fresh ae (h.kill b) f.rel rfl;exact⟨v',p',w',k1,k2,(Y.trans f).trans k3⟩
end
end Go.Det
