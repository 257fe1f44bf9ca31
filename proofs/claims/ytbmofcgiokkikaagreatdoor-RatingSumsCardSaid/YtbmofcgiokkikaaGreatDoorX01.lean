import Derived.Scope
import Derived.Laws.Sem
import Derived.KernelRfl
import Derived.Laws.Strings
import Derived.IntWalk
/- A part of a proof; no law is stated here. -/
abbrev Z:=List UInt8
abbrev w4:=@decide_eq_true
abbrev w5:=@decide_eq_true_eq
abbrev w6:=@of_decide_eq_true
abbrev w7:=@of_decide_eq_false
abbrev w8:=@decide_eq_false
abbrev w9:=@decide_eq_false_iff_not
abbrev wc:=@if_neg
abbrev wd:=@if_pos
abbrev we:=@cond_true
abbrev wg:=@cond_false
abbrev wh:=@absurd
abbrev wi:=@congrArg
abbrev wj:=@beq_iff_eq
abbrev wk:=@if_true
abbrev wm:=@ne_eq
abbrev vc:=@beq_eq_false_iff_ne
abbrev ve:=@and_true
abbrev vf:=@if_false
noncomputable section
open Go.Result renaming andThen_ok -> zc
open Go.Sem renaming run_bind -> zd, run_pure -> zf
open Option.some renaming injEq -> ze
open Nat renaming beq -> zg, le_refl -> zh, ble -> zk, mul_le_mul_right -> zy, blt -> z6, ble_eq -> z7, le_trans -> yt
open Option renaming map_eq_some_iff -> zi
open Go.Value renaming cells -> zj
open Go.Builtin renaming firstCells -> zl, zeroCells -> zo, append_ -> zu, nextslicecap -> zz, lenOf -> ye
open List renaming getElem?_eq_some_iff -> zm, getElem?_take_of_lt -> zp, mem_cons -> yi, length_cons -> yj, rec -> yk, getElem?_cons_zero -> ym, getElem?_cons_succ -> yn, drop_eq_nil_of_le -> yo
open Bool renaming and_eq_true -> zn, false_eq_true -> zw, or_eq_true -> yq
open Go.Instr renaming sliceAt -> zq, sliceBounds -> zt, sureAddr -> yc, slice -> yh
open Int renaming mul_le_mul_of_nonneg_left -> zr, ofNat_eq_natCast -> zx, toNat_natCast -> yb, pow_succ -> yf, add_mul_emod_self_left -> yg, mul_comm -> yr
open BitVec renaming ofInt -> z8
open Prod.mk renaming injEq -> ya
open Array renaming getElem?_toList -> yd
open Go.Op renaming bytesLess -> yp, equal -> yu
theorem ae{p:Prop}(h:p:=by omega):p:=h
theorem af{p:Prop}(h:p:=by decide):p:=h
theorem ag{p:Prop}(h:p:=by kernel_rfl):p:=h
theorem ah{p:Prop}(h:p:=by grind):p:=h
namespace Go.Sp
def val(b:Int):List Int->Int
 |[]=>0
 |d::r=>d+b*val b r
def AB(b:Int)(l:List Int):Prop:=∀d∈l,0<=d/\d<b
def nz(l:List Int):Prop:=l.getLast?≠some 0
def YJ(b:Nat):Nat->Nat->List Int
 |0,_=>[]
 |f+1,n=>if n=0 then[]else((n % b:Nat):Int)::YJ b f (n/b)
def dg(b:Nat)(n:Int):List Int:=YJ b n.toNat n.toNat
def AA:List Int->List Int
 |[]=>[]
 |d::r=>match AA r with
  |[]=>if d=0 then[]else[d]
  |s=>d::s
theorem AJ{b:Int}(a:0<=b):∀ {l:List Int},AB b l->0<=val b l
 |[],_=>Int.le_refl _
 |d::r,h=>by
  have g:=(h d<|by simp).1;have f:=AJ a (l:=r) fun x c=>h x (by simp[c])
  have:=Int.mul_nonneg a f;unfold val;omega
theorem Dg(b:Int):∀(l r:List Int),val b (l++r)=val b l+b^l.length*val b r
 |[],r=>by simp[val]
 |d::l,r=>by
  rw[List.cons_append,val,Dg b l r,val,yj,yf,Int.mul_add,Int.add_assoc, <-Int.mul_assoc,yr b<|b^l.length]
theorem Nz(b:Int):∀n,val b (List.replicate n 0)=0
 |0=>rfl
 |n+1=>by rw[List.replicate_succ,val,Nz b n];simp
theorem BC{b:Int}(a:0<b):∀ {l:List Int},AB b l->val b l<b^l.length
 |[],_=>by simp[val]
 |d::r,h=>by
  have f:=(h d<|by simp).2;have k:=BC a (l:=r) fun x c=>h x (by simp[c])
  have g:b*val b r<=b*(b^r.length-1):=zr ae ae;rw[val,yj,yf,yr (b^r.length) b];grind
theorem Kb(b:Int):∀l,val b (AA l)=val b l
 |[]=>rfl
 |d::r=>by
  have a:=Kb b r;grind [AA,val]
theorem Ig{b:Int}:∀ {l:List Int},AB b l->AB b (AA l)
 |[],h=>h
 |d::r,h=>by
  have c:=Ig (l:=r) fun x a=>h x (by simp[a])
  have f:=h d (by simp);unfold AA;split
  ·split
   ·grind
   ·intro x a;grind
  ·intro x a;rcases yi.1 a with rfl|a
   ·exact f
   ·exact c x a
theorem MI:∀l:List Int,nz<|AA l
 |[]=>by simp[nz,AA]
 |d::r=>by
  have a:=MI r;grind [AA,nz]
theorem I7:∀ {l:List Int},nz l->AA l=l
 |[],_=>rfl
 |d::r,h=>by
  unfold AA;cases r with
  |nil=>
   grind [nz,AA]
  |cons a t=>
   have:nz (a::t):=by grind [nz]
   rw[I7 this]
theorem J9{b:Int}(c:0<b):∀ {l:List Int},AB b l->nz l->l≠[]->0<val b l
 |[],_,_,h=>wh rfl h
 |d::r,h,k,_=>by
  have g:=(h d<|by simp).1;have hr:AB b r:=fun x f=>h x (by simp[f])
  unfold val;cases r with
  |nil=>
   grind [nz,val]
  |cons a t=>
   have:=J9 c hr (by grind [nz]) (by simp);have:=Int.mul_pos c this;omega
theorem val_inj{b:Int}(f:0<b):∀ {l r:List Int},AB b l->AB b r->nz l->nz r->val b l=val b r->l=r
 |[],[],_,_,_,_,_=>rfl
 |[],x::r,_,c,_,d,h=>by have:=J9 f c d (by simp);grind [val]
 |x::l,[],a,_,n1,_,h=>by have:=J9 f a n1 (by simp);grind [val]
 |x::l,y::r,a,c,n1,d,h=>by
  have a1:=a x (by simp);have a2:=c y (by simp);unfold val at h;have m:x=y:=by
   have k:(x+b*val b l) % b=(y+b*val b r) % b:=by rw[h]
   rw[yg,yg,Int.emod_eq_of_lt a1.1 a1.2,Int.emod_eq_of_lt a2.1 a2.2]at k;exact k
  subst m;have o:val b l=val b r:=by
   grind [Int.eq_of_mul_eq_mul_left]
  have t1:∀ {x:Int} {l:List Int},nz (x::l)->nz l:=by
   grind [nz]
  rw[val_inj f (fun z g=>a z<|by simp[g]) (fun z g=>c z<|by simp[g]) (t1 n1) (t1 d) o]
theorem Uh(b:Nat)(a:2<=b):∀f n,n<=f->val b (YJ b f n)=n
 |0,n,h=>by simp[YJ,val];omega
 |f+1,n,h=>by
  unfold YJ;split
  ·rename_i h0;subst h0;rfl
  ·have c:n/b<=f:=by
    have:n/b<n:=Nat.div_lt_self ae a;omega
   rw[val,Uh b a f (n/b) c];have:=Nat.mod_add_div n b;omega
theorem VU(b:Nat)(c:2<=b):∀f n,AB b<|YJ b f n
 |0,n=>by intro x a;cases a
 |f+1,n=>by
  unfold YJ;split
  ·intro x a;cases a
  ·intro x a;rcases yi.1 a with rfl|a
   ·have:=Nat.mod_lt n (show 0<b by omega);omega
   ·exact VU b c f (n/b) x a
theorem oT(b:Nat)(d:2<=b):∀f n,n<=f->nz (YJ b f n)
 |0,n,_=>by simp[YJ,nz]
 |f+1,n,h=>by
  unfold YJ;split
  ·simp[nz]
  ·have g:n/b<=f:=by
    have:n/b<n:=Nat.div_lt_self ae d;omega
   have k:=oT b d f (n/b) g;cases hr:YJ b f (n/b)with
   |nil=>
    have c:=Uh b d f (n/b) g;rw[hr]at c;have c:n/b=0:=by
     have:((n/b:Nat):Int)=0:=by rw[<-c];rfl
     omega
    have l:n % b=n:=Nat.mod_eq_of_lt ((Nat.div_eq_zero_iff_lt ae).1 c);simp[nz];omega
   |cons a t=>grind [nz]
theorem Dj{b:Nat}(a:2<=b){n:Int}(c:0<=n):val b (dg b n)=n:=by
 unfold dg;rw[Uh b a _ _ ae];omega
theorem Gg{b:Nat}(a:2<=b)(n:Int):AB b (dg b n):=VU b a _ _
theorem Zn{b:Nat}(a:2<=b)(n:Int):nz (dg b n):=oT b a _ _ ae
theorem Jf{b:Nat}(a:2<=b){l:List Int}(c:AB b l)(d:nz l):l=dg b (val b l):=
 val_inj ae c (Gg a _) d (Zn a _) (by grind [Dj,AJ])
theorem Zu{b:Nat}(c:2<=b){l:List Int}(a:AB b l):AA l=dg b (val b l):=by
 rw[<-Kb];grind [Jf,Ig,MI]
theorem rM{b:Nat}(c:2<=b){n:Int}(a:0<=n):dg b n=[]↔n=0:=by
 constructor
 ·grind [Dj,val]
 ·rintro rfl;rfl
theorem Jz:∀l:List Int,AA (l++[0])=AA l
 |[]=>rfl
 |d::r=>by
  rw[List.cons_append];unfold AA;rw[Jz r]
theorem Z5{l:List Int}{d:Int}(h:d≠0):nz (l++[d]):=by
 grind [nz]
theorem xU{x:Int}{l:List Int}(a:nz (x::l)):nz l:=by
 grind [nz]
theorem DE{b:Int}(c:0<b):∀ {l:List Int},AB b l->nz l->l≠[]->b^(l.length-1)<=val b l
 |[],_,_,h=>wh rfl h
 |[d],h,a,_=>by
  have:=J9 c h a (by simp);simp at this ⊢;omega
 |d::e::r,h,a,_=>by
  have m:=(h d<|by simp).1;have k:=DE c (l:=e::r) (fun x g=>h x<|by simp[g]) (xU a) (by simp);have f:(d::e::r).length-1=((e::r).length-1)+1:=by simp
  rw[f,yf,yr];have:=zr k (show 0<=b by omega);unfold val;omega
theorem AU{b:Int}(a:0<b):∀n:Nat,0<b^n
 |0=>by simp
 |n+1=>by rw[yf];exact Int.mul_pos (AU a n) a
theorem AP{b:Int}(a:1<=b){m n:Nat}(h:m<=n):b^m<=b^n:=by
 obtain⟨k,rfl⟩:=Nat.exists_eq_add_of_le h;induction k with
 |zero=>simp
 |succ k c=>
  rw[show m+(k+1)=(m+k)+1 from rfl,yf];have hp:=AU (show 0<b by omega)<|m+k;have:=zr a (show 0<=b^(m+k)by omega);omega
theorem E8{b:Int}(f:2<=b){l r:List Int}(a:AB b l)(d:AB b r)(c:nz r)(h:l.length<r.length):val b l<val b r:=by
 have a1:=BC ae a;have a2:=DE ae d c ah;have:=AP (show 1<=b by omega) (show l.length<=r.length-1 by omega);omega
theorem AT{b:Int}{l:List Int}(h:AB b l)(i:Nat):AB b (l.take i):=fun d a=>h d ah
theorem Fg{b:Int}{l:List Int}(h:AB b l)(i:Nat):AB b (l.drop i):=fun d a=>h d ah
theorem CA(b:Int)(l:List Int)(i:Nat)(h:i<=l.length):val b l=val b (l.take i)+b^i*val b (l.drop i):=by
 grind [List.take_append_drop,Dg]
theorem JX{b:Int}(g:2<=b){l r:List Int}{x y:Int}{s:List Int}{i:Nat}(c:AB b l)(hr:AB b r)(d:l.drop i=x::s)(a:r.drop i=y::s)(h:x<y):val b l<val b r:=by
 have f:i<=l.length:=by
  grind [yo]
 have i2:i<=r.length:=by
  grind [yo]
 have a1:=BC ae<|AT c i;have a2:=AJ ae<|AT hr i;rw[CA b l i f,CA b r i i2,d,a,show val b (x::s)=x+b*val b s from rfl,show val b (y::s)=y+b*val b s from rfl];have hp:=AU (show 0<b by omega) i;have k:b^i*(x+1)<=b^i*y:=zr ae ae;grind
theorem OV(b:Nat)(a:2<=b):∀(k f n:Nat),n<b^k->(YJ b f n).length<=k
 |k,0,n,_=>by simp[YJ]
 |0,f+1,n,h=>by
  grind [YJ]
 |k+1,f+1,n,h=>by
  unfold YJ;split
  ·simp
  ·have:n/b<b^k:=by
    simp_all [Nat.pow_succ,Nat.div_lt_of_lt_mul,Nat.mul_comm]
   have:=OV b a k f (n/b) this;grind
end Go.Sp
namespace Go.Det
section
inductive PM (α:Type) where
 |leaf
 |node (l:PM α) (v:Option α) (r:PM α)
inductive HL where
 |here
 |l (p:HL)
 |r (p:HL)
variable {α:Type}
def yB(f:Nat):Nat->HL:=
 @Nat.rec (fun _=>Nat->HL) (fun _=>.here) (fun _ a i=>bif zg i 0 then .here else bif zg (Nat.mod i 2) 1 then .l (a<|Nat.div i 2)else .r<|a<|Nat.sub (Nat.div i 2) 1) f
def pth(i:Nat):HL:=yB i i
def HL.get(p:HL):PM α->Option α:=
 @HL.rec (fun _=>PM α->Option α)
  (fun m=>@PM.rec α (fun _=>Option α) none (fun _ v _ _ _=>v) m)
  (fun _ a m=>@PM.rec α (fun _=>Option α) none (fun l _ _ _ _=>a l) m)
  (fun _ a m=>@PM.rec α (fun _=>Option α) none (fun _ _ r _ _=>a r) m) p
def HL.set(p:HL):PM α->Option α->PM α:=
 @HL.rec (fun _=>PM α->Option α->PM α)
  (fun m v=>@PM.rec α (fun _=>PM α) (.node .leaf v .leaf) (fun l _ r _ _=>.node l v r) m)
  (fun _ a m v=>@PM.rec α (fun _=>PM α) (.node (a .leaf v) none .leaf) (fun l x r _ _=>.node (a l v) x r) m)
  (fun _ a m v=>@PM.rec α (fun _=>PM α) (.node .leaf none<|a .leaf v) (fun l x r _ _=>.node l x<|a r v) m) p
def PM.get(m:PM α)(i:Nat):Option α:=(pth i).get m
def PM.set(m:PM α)(i:Nat)(v:Option α):PM α:=(pth i).set m v
theorem BA(a b:Nat):zg a b=decide (a=b):=by
 by_cases h:a=b
 ·simp_all
 grind [Nat.eq_of_beq_eq_true]
def HL.num:HL->Nat
 | .here=>0
 | .l p=>2*p.num+1
 | .r p=>2*(p.num+1)
theorem Rh:∀(f i:Nat),i<=f->(yB f i).num=i
 |0,i,h=>by cases ae;rfl
 |f+1,i,h=>by
  show HL.num (bif zg i 0 then .here else bif zg (i % 2) 1 then .l (yB f<|i/2)else .r<|yB f<|i/2-1)=i;simp only[BA];by_cases h0:i=0
  ·subst h0;rfl
  ·by_cases a:i % 2=1
   ·simp only[h0,a,decide_false,decide_true,wg,we,HL.num];rw[Rh f (i/2) ae];omega
   ·simp only[h0,a,decide_false,wg,HL.num];rw[Rh f (i/2-1) ae];omega
theorem vL{i j:Nat}(h:pth i=pth j):i=j:=by
 have:=wi HL.num h;unfold pth at this;simp_all [Rh]
theorem HL.DY(p:HL):p.get (.leaf:PM α)=none:=by cases p<;>rfl
theorem HL.get_set_same:∀(p:HL) (m:PM α) (v:Option α),p.get (p.set m v)=v
 | .here,m,v=>by cases m<;>rfl
 | .l p,m,v=>by
  cases m with
  |leaf=>exact HL.get_set_same p .leaf v
  |node l x r=>exact HL.get_set_same p l v
 | .r p,m,v=>by
  cases m with
  |leaf=>exact HL.get_set_same p .leaf v
  |node l x r=>exact HL.get_set_same p r v
theorem HL.GH:∀(p q:HL) (m:PM α) (v:Option α),q≠p->q.get (p.set m v)=q.get m
 | .here,.here,m,v,h=>wh rfl h
 | .here,.l q,m,v,_=>by
  cases m with
  |leaf=>exact q.DY
  |node l x r=>rfl
 | .here,.r q,m,v,_=>by
  cases m with
  |leaf=>exact q.DY
  |node l x r=>rfl
 | .l p,.here,m,v,_=>by cases m<;>rfl
 | .r p,.here,m,v,_=>by cases m<;>rfl
 | .l p,.r q,m,v,_=>by
  cases m with
  |leaf=>exact q.DY
  |node l x r=>rfl
 | .r p,.l q,m,v,_=>by
  cases m with
  |leaf=>exact q.DY
  |node l x r=>rfl
 | .l p,.l q,m,v,h=>by
  have h':q≠p:=ah;cases m with
  |leaf=>exact(HL.GH p q .leaf v h').trans q.DY
  |node l x r=>exact HL.GH p q l v h'
 | .r p,.r q,m,v,h=>by
  have h':q≠p:=ah;cases m with
  |leaf=>exact(HL.GH p q .leaf v h').trans q.DY
  |node l x r=>exact HL.GH p q r v h'
@[simp] theorem PM.Dz(m:PM α)(i:Nat)(v:Option α)(j:Nat):(m.set i v).get j=if j=i then v else m.get j:=by
 unfold PM.get PM.set;by_cases e:j=i
 ·simp_all [HL.get_set_same]
 ·grind [HL.GH,vL]
@[simp] theorem PM.DY(j:Nat):(PM.leaf:PM α).get j=none:=HL.DY _
def EY(l:List α):Nat:=@yk α (fun _=>Nat) 0 (fun _ _ a=>Nat.add a 1) l
theorem Dw(l:List α):EY l=l.length:=by
 induction l with
 |nil=>rfl
 |cons a l b=>simp_all [EY]
def KL(n:Nat):List α->List α:=
 @Nat.rec (fun _=>List α->List α) (fun l=>l) (fun _ b l=>@yk α (fun _=>List α) [] (fun _ a _=>b a) l) n
theorem Qt:∀(n:Nat) (l:List α),KL n l=l.drop n
 |0,_l=>rfl
 |_n+1,[]=>rfl
 |n+1,_a::l=>Qt n l
def aD(n:Nat):List α->List α:=
 @Nat.rec (fun _=>List α->List α) (fun _=>[]) (fun _ c l=>@yk α (fun _=>List α) [] (fun a b _=>a::c b) l) n
theorem Rb:∀(n:Nat) (l:List α),aD n l=l.take n
 |0,_l=>rfl
 |_n+1,[]=>rfl
 |n+1,a::l=>wi (a:: ·)<|Rb n l
def KM(vs:List α):List α->List α:=
 @yk α (fun _=>List α->List α) (fun l=>l) (fun v _ b l=>@yk α (fun _=>List α) [] (fun _ a _=>v::b a) l) vs
def CN(n:Nat)(vs:List α):List α->List α:=
 @Nat.rec (fun _=>List α->List α) (fun l=>KM vs l) (fun _ c l=>@yk α (fun _=>List α) [] (fun a b _=>a::c b) l) n
def Mz(f:α->Bool)(l:List α):Bool:=@yk α (fun _=>Bool) true (fun a _ b=>bif f a then b else false) l
theorem Gf(f:α->Bool):∀l:List α,Mz f l=l.all f
 |[]=>rfl
 |a::l=>by
  show(bif f a then Mz f l else false)=_;rw[Gf f l,List.all_cons];simp
inductive V where
 |bool (b:Bool)
 |int (k:IntKind) (n:Int)
 |str (s:Z)
 |nilp
 |ptr (b off:Nat)
 |nils
 |sl (b off len cap o:Nat)
 |esl
 |es0
 |junk
 |nilm
 |map (b:Nat)
 |fn (f:Fn) (first captured:List V)
 |yld (b:Nat)
 |nilf
 |iface (t:TypeId) (v:V)
 |nili
 |agg (cs:List V)
 |tup (vs:List V)
 deriving Inhabited
abbrev Pl:=List<|Nat×Nat
def bytesOf(s:Z):ByteArray:=⟨s.toArray⟩
mutual
def Ad(p:Pl):V->Value->Prop
 | .bool b,v=>v=.bool b
 | .int k n,v=>v=.int k n
 | .str s,v=>v=.string (bytesOf s)
 | .nilp,v=>v=.pointer none
 | .ptr b off,v=>∃r n,p[b]?=some (r,n)/\v=.pointer (some ⟨r,off,none⟩)
 | .nils,v=>v=.slice none 0 0
 | .sl b off len cap o,v=>∃r n c,p[b]?=some (r,n)/\v=.slice (some ⟨r,off,none⟩) len c/\len<=cap/\cap<=c/\(o=0->c=cap)/\(o≠0->off+c*o<=n)
 | .esl,v=>∃a c,v=.slice (some a) 0 c
 | .es0,v=>∃a,v=.slice (some a) 0 0
 | .junk,_=>False
 | .nilm,v=>v=.map none
 | .map b,v=>∃r n,p[b]?=some (r,n)/\v=.map (some r)
 | .fn f first captured,v=>∃x y,v=.func f x y/\Ax p first x.toList/\Ax p captured y.toList
 | .yld b,v=>∃r n,p[b]?=some (r,n)/\v=.func (.yield r) #[] #[]
 | .nilf,v=>v=.nilFunc
 | .iface t x,v=>∃y,v=.iface t y/\Ad p x y
 | .nili,v=>v=.nilIface
 | .agg cs,v=>∃x,v=.agg x/\Ax p cs x.toList
 | .tup cs,v=>∃x,v=.tuple x/\Ax p cs x.toList
def Ax(p:Pl):List V->List Value->Prop
 |[],l=>l=[]
 |d::ds,l=>∃v vs,l=v::vs/\Ad p d v/\Ax p ds vs
end
@[simp] theorem Hx(p:Pl)(l:List Value):Ax p [] l↔l=[]:=by rfl
@[simp] theorem Bu(p:Pl)(d:V)(ds:List V)(v:Value)(vs:List Value):Ax p (d::ds) (v::vs)↔Ad p d v/\Ax p ds vs:=by
 simp only[Ax];grind
@[simp] theorem tD(p:Pl)(d:V)(ds:List V):¬Ax p (d::ds) []:=by
 simp[Ax]
theorem Ax.length{p:Pl}:∀ {ds:List V} {vs:List Value},Ax p ds vs->ds.length=vs.length
 |[],vs,h=>by simp_all
 |d::ds,[],h=>by simp at h
 |d::ds,v::vs,h=>by simp at h;simp[h.2.length]
theorem Ax.get{p:Pl}:∀ {ds:List V} {vs:List Value},Ax p ds vs->∀ {i:Nat} {d:V},ds[i]?=some d->∃v,vs[i]?=some v/\Ad p d v
 |[],vs,_,i,d,a=>by grind
 |d::ds,[],h,_,_,_=>by simp at h
 |d::ds,v::vs,h,i,x,a=>by
  simp at h;cases i with
  |zero=>grind
  |succ i=>simpa using h.2.get a
theorem Ax.mk{p:Pl}:∀ {ds:List V} {vs:List Value},ds.length=vs.length->(∀(i:Nat) d v,ds[i]?=some d->vs[i]?=some v->Ad p d v)->Ax p ds vs
 |[],[],_,_=>by simp
 |[],_::_,h,_=>by simp at h
 |_::_,[],h,_=>by simp at h
 |d::ds,v::vs,h,a=>by
  simp at h;rw[Bu];exact⟨a 0 d v rfl rfl,Ax.mk h<|fun i b v' c f=>a (i+1) b v' ah ah⟩
theorem Ax.append{p:Pl}:∀ {a:List V} {x:List Value} {b:List V} {y:List Value},Ax p a x->Ax p b y->Ax p (a++b) (x++y)
 |[],x,b,y,h,h'=>by simp_all
 |d::ds,[],_,_,h,_=>by simp at h
 |d::ds,v::vs,b,y,h,h'=>by simp at h;simp[h.1,h.2.append h']
theorem Ax.take{p:Pl}:∀ {a:List V} {x:List Value} (n:Nat),Ax p a x->Ax p (a.take n) (x.take n)
 |[],x,n,h=>by simp_all
 |d::ds,[],_,h=>by simp at h
 |d::ds,v::vs,0,h=>by simp
 |d::ds,v::vs,n+1,h=>by simp at h;simp[h.1,h.2.take n]
theorem Ax.drop{p:Pl}:∀ {a:List V} {x:List Value} (n:Nat),Ax p a x->Ax p (a.drop n) (x.drop n)
 |[],x,n,h=>by simp_all
 |d::ds,[],_,h=>by simp at h
 |d::ds,v::vs,0,h=>by grind
 |d::ds,v::vs,n+1,h=>by simp at h;simpa using h.2.drop n
theorem Ax.set{p:Pl}:∀ {a:List V} {x:List Value} (i:Nat) {d:V} {v:Value},Ax p a x->Ad p d v->Ax p (a.set i d) (x.set i v)
 |[],x,n,_,_,h,_=>by simp_all
 |d::ds,[],_,_,_,h,_=>by simp at h
 |d::ds,v::vs,0,_,_,h,h'=>by simp_all
 |d::ds,v::vs,n+1,_,_,h,h'=>by simp at h;simp[h.1,h.2.set n h']
mutual
theorem Ad.mono{p:Pl}(q:Pl):∀ {d:V} {v:Value},Ad p d v->Ad (p++q) d v
 | .bool _,_,h=>by simpa [Ad]using h
 | .int _ _,_,h=>by simpa [Ad]using h
 | .str _,_,h=>by simpa [Ad]using h
 | .nilp,_,h=>by simpa [Ad]using h
 | .ptr b off,v,h=>by
  grind [Ad]
 | .nils,_,h=>by simpa [Ad]using h
 | .sl b off len cap o,v,h=>by
  grind [Ad]
 | .esl,_,h=>by simpa [Ad]using h
 | .es0,_,h=>by simpa [Ad]using h
 | .junk,_,h=>by simp[Ad]at h
 | .nilm,_,h=>by simpa [Ad]using h
 | .map b,v,h=>by
  grind [Ad]
 | .fn f a b,v,h=>by
  obtain⟨x,y,rfl,c,g⟩:=h;exact⟨x,y,rfl,Ax.mono q c,Ax.mono q g⟩
 | .yld b,v,h=>by
  grind [Ad]
 | .nilf,_,h=>by simpa [Ad]using h
 | .iface t x,v,h=>by
  simp only[Ad]at h ⊢;obtain⟨y,rfl,c⟩:=h;simp_all [Ad.mono]
 | .nili,_,h=>by simpa [Ad]using h
 | .agg cs,v,h=>by
  simp only[Ad]at h ⊢;obtain⟨x,rfl,c⟩:=h;simp_all [Ax.mono]
 | .tup cs,v,h=>by
  simp only[Ad]at h ⊢;obtain⟨x,rfl,c⟩:=h;simp_all [Ax.mono]
theorem Ax.mono{p:Pl}(q:Pl):∀ {ds:List V} {vs:List Value},Ax p ds vs->Ax (p++q) ds vs
 |[],_,h=>by simp_all
 |_::_,[],h=>by simp at h
 |d::ds,v::vs,h=>by simp only[Bu]at h ⊢;exact⟨Ad.mono q h.1,Ax.mono q h.2⟩
end
structure Fr where
 n:Nat
 m:PM V
def Fr.get(f:Fr)(t:Nat):V:=(f.m.get t).getD<|.tup []
def Fr.put(f:Fr)(d:Option Nat)(v:V):Option Fr:=
 match d with
 |none=>some f
 |some t=>bif z6 t f.n then some ⟨f.n,f.m.set t<|some v⟩else none
def EZ(p:Pl)(f:Fr)(tmps:Array Value):Prop:=f.n=tmps.size/\∀t,Ad p (f.get t)<|tmps.getD t undef
def CO(p:Pl)(f:Fr)(a:Act):Prop:=f.n=a.tmps.size/\∀t,Ad p (f.get t)<|a.tmps.getD t undef
theorem EZ.mono{p:Pl}(q:Pl){f:Fr}{tmps:Array Value}(h:EZ p f tmps):EZ (p++q) f tmps:=⟨h.1,fun t=>(h.2 t).mono q⟩
structure LS where
 st:LoopState
 pend:Option Code
 fr:Fr
 ps:Array Tmp
 asg:Code
 body:Code
 db:Nat
inductive O where
 |cells (cs:List V) (elem:TypeId) (fz:Nat×Nat)
 |map (es:List (V×V×Nat)) (clock:Nat)
 |siter (s:Z) (pos:Nat)
 |miter (b:Option Nat) (since:Nat) (seen:List Nat) (last:Nat)
 |loop (l:LS)
 |defd (open_:Bool)
structure H where
 m:PM O
 nx:Nat
def H.get(h:H)(b:Nat):Option O:=h.m.get b
def H.push(h:H)(o:O):H:=⟨h.m.set h.nx<|some o,h.nx+1⟩
def H.put(h:H)(b:Nat)(o:O):H:=⟨h.m.set b<|some o,h.nx⟩
def H.kill(h:H)(b:Nat):H:=⟨h.m.set b none,h.nx⟩
@[simp] theorem H.Ce(h:H)(o:O)(b:Nat):(h.push o).get b=if b=h.nx then some o else h.get b:=by simp[H.push,H.get]
@[simp] theorem H.B6(h:H)(b:Nat)(o:O)(j:Nat):(h.put b o).get j=if j=b then some o else h.get j:=by simp[H.put,H.get]
@[simp] theorem H.C6(h:H)(b:Nat)(j:Nat):(h.kill b).get j=if j=b then none else h.get j:=by simp[H.kill,H.get]
@[simp] theorem H.Agt(h:H)(o:O):(h.push o).nx=h.nx+1:=rfl
@[simp] theorem H.AgL(h:H)(b:Nat)(o:O):(h.put b o).nx=h.nx:=rfl
@[simp] theorem H.Z0(h:H)(b:Nat):(h.kill b).nx=h.nx:=rfl
inductive D2 (p:Pl):List (V×V×Nat)->List MapEntry->Prop
 |nil:D2 p [] []
 |cons {k v:V} {b:Nat} {es:List (V×V×Nat)} {e:MapEntry} {l:List MapEntry}:Ad p k e.key->Ad p v e.val->e.born=b->D2 p es l->D2 p ((k,v,b)::es) (e::l)
def V.ok:V->Bool
 | .junk=>false
 |_=>true
def EO(p:Pl)(cs:List V)(vs:List Value):Prop:=cs.length=vs.length/\∀(i:Nat) d v,cs[i]?=some d->vs[i]?=some v->d.ok=true->Ad p d v
theorem Ax.toC{p:Pl}{cs:List V}{vs:List Value}(h:Ax p cs vs):EO p cs vs:=⟨h.length,fun i d v a f _=>by
 obtain⟨u,b,c⟩:=h.get a;grind⟩
theorem EO.get{p:Pl}{cs:List V}{vs:List Value}(h:EO p cs vs){i:Nat}{d:V}(a:cs[i]?=some d)(b:d.ok=true):∃v,vs[i]?=some v/\Ad p d v:=by
 have c:i<vs.length:=by rw[<-h.1];grind
 exact⟨vs[i],(by simp),h.2 i d _ a (by simp) b⟩
theorem EO.drop{p:Pl}{cs:List V}{vs:List Value}(h:EO p cs vs)(n:Nat):EO p (cs.drop n) (vs.drop n):=
 ⟨by simp[h.1],fun i d v a b=>h.2 (n+i) d v ah ah⟩
theorem EO.take{p:Pl}{cs:List V}{vs:List Value}(h:EO p cs vs)(n:Nat):EO p (cs.take n) (vs.take n):=
 ⟨by simp[h.1],fun i d v a b=>by
  have c:i<n:=ah
  rw[zp c]at a b;exact h.2 i d v a b⟩
theorem EO.OS{p:Pl}{cs:List V}{vs:List Value}(h:EO p cs vs)(c:∀d∈cs,d.ok=true):Ax p cs vs:=
 Ax.mk h.1 fun i d v a b=>h.2 i d v a b ah
def Mp(p:Pl)(n:Nat):O->Obj->Prop
 | .cells cs t fz,o=>∃(c:Array Value) (fz':Nat×Nat),o=.cells c t fz'/\c.size=n/\cs.length<=n/\EO p cs (c.toList.take cs.length)/\∀i,i<n->fz'.1<=i->i<fz'.2->fz.1<=i/\i<fz.2
 | .map es clock,o=>∃l:Array MapEntry,o=.map l clock/\D2 p es l.toList
 | .siter s pos,o=>o=.stringIter (bytesOf s) pos
 | .miter none since seen last,o=>o=.mapIter none since seen.toArray last
 | .miter (some b) since seen last,o=>∃r m,p[b]?=some (r,m)/\o=.mapIter (some r) since seen.toArray last
 | .loop l,o=>∃(fn:FuncId) (tmps:Array Value) (r m:Nat),EZ p l.fr tmps/\p[l.db]?=some (r,m)/\o=.loop { state:=l.st,pending:=l.pend,fn,tmps,params:=l.ps,assign:=l.asg,body:=l.body,defers:=r }
 | .defd op,o=>o=.deferred (bif op then some []else none)
theorem EO.mono{p:Pl}(q:Pl){cs:List V}{vs:List Value}(h:EO p cs vs):EO (p++q) cs vs:=⟨h.1,fun i d v a c b=>(h.2 i d v a c b).mono q⟩
theorem D2.mono{p:Pl}(q:Pl){es:List (V×V×Nat)}{l:List MapEntry}(h:D2 p es l):D2 (p++q) es l:=by
 induction h with
 |nil=>exact .nil
 |cons a d b _ c=>exact .cons (a.mono q) (d.mono q) b c
theorem Mp.mono{p:Pl}(q:Pl){n:Nat}{o:O}{x:Obj}(h:Mp p n o x):Mp (p++q) n o x:=by
 cases o with
 |cells cs t fz=>obtain⟨c,fz',d,a,g,k,f⟩:=h;exact⟨c,fz',d,a,g,k.mono q,f⟩
 |map es u=>obtain⟨l,d,a⟩:=h;exact⟨l,d,a.mono q⟩
 |siter s pos=>exact h
 |miter b since seen last=>
  cases b with
  |none=>exact h
  |some b=>
   obtain⟨r,m,d,a⟩:=h;exact⟨r,m,by grind,a⟩
 |loop l=>
  obtain⟨fn,tmps,r,m,h0,d,a⟩:=h;exact⟨fn,tmps,r,m,h0.mono q,by grind,a⟩
 |defd _=>exact h
structure R(p:Pl)(h:H)(w:World):Prop where
 len:p.length=h.nx
 obj:∀b o,h.get b=some o->∃r n x,p[b]?=some (r,n)/\w.heap[r]?=some x/\Mp p n o x
 inj:∀b b' o o' r n n',h.get b=some o->h.get b'=some o'->p[b]?=some (r,n)->p[b']?=some (r,n')->b=b'
def Im(p:Pl)(h:H)(r:Nat):Prop:=∃b o n,h.get b=some o/\p[b]?=some (r,n)
def Lk(n:Nat)(fz:Nat×Nat):Prop:=fz.1=0/\n<=fz.2/\0<fz.2
def Lkd(p:Pl)(h:H)(r:Nat):Prop:=∃b n cs t fz,h.get b=some (.cells cs t fz)/\p[b]?=some (r,n)/\Lk n fz
structure Ext(p:Pl)(h:H)(w:World)(p':Pl)(h':H)(w':World):Prop where
 pre:∃q,p'=p++q
 rel:R p' h' w'
 size:w.heap.size<=w'.heap.size
 same:∀r,r<w.heap.size->¬Im p h r->w'.heap[r]?=w.heap[r]?
 im:∀r,Im p' h' r->Im p h r\/w.heap.size<=r
 os:w'.os=w.os
 out:w'.output=w.output
 tape:w'.tape=w.tape
 lock:∀r,r<w.heap.size->Lkd p h r->w'.heap[r]?=w.heap[r]?/\(Lkd p' h' r\/¬Im p' h' r)
theorem Ext.refl{p:Pl}{h:H}{w:World}(hr:R p h w):Ext p h w p h w:=
 ⟨(by simp),hr,zh _,(by simp),ah,rfl,rfl,rfl,ah⟩
theorem Ext.trans{p g o:Pl}{h k f:H}{w d l:World}(a:Ext p h w g k d)(b:Ext g k d o f l):Ext p h w o f l:=by
 obtain⟨q,B⟩:=a.pre;obtain⟨q',hq'⟩:=b.pre;refine⟨ah,b.rel,yt a.size b.size,fun r hr A=>?_,fun r hr=>?_,b.os.trans a.os,b.out.trans a.out,b.tape.trans a.tape,fun r s v=>?_⟩
 ·rw[b.same r (Nat.lt_of_lt_of_le hr a.size) ?_,a.same r hr A];intro c;rcases a.im r c with u|u
  ·grind
  ·omega
 ·rcases b.im r hr with c|c
  ·exact a.im r c
  ·exact .inr<|yt a.size c
 ·obtain⟨x,c⟩:=a.lock r s v;have m:=Nat.lt_of_lt_of_le s a.size;rcases c with c|c
  ·obtain⟨C,u⟩:=b.lock r m c;grind
  ·refine⟨(b.same r m c).trans x,.inr fun y=>?_⟩;rcases b.im r y with u|u
   ·grind
   ·omega
theorem Ext.kH{p p':Pl}{h h':H}{w w':World}(e:Ext p h w p' h' w'){d:V}{v:Value}(a:Ad p d v):Ad p' d v:=by
 obtain⟨q,rfl⟩:=e.pre;exact a.mono q
theorem Ext.drew{p:Pl}{h:H}{w:World}(hr:R p h w)(n:Nat):Ext p h w p h { w with drawn:=n }:=
 ⟨(by simp),⟨hr.len,hr.obj,hr.inj⟩,zh _,(by simp),ah,rfl,rfl,rfl,ah⟩
theorem R.lt{p:Pl}{h:H}{w:World}(hr:R p h w){b:Nat}{o:O}(c:h.get b=some o):b<h.nx:=by
 obtain⟨r,n,x,a,_⟩:=hr.obj b o c;have:=(zm.1 a).1;have:=hr.len;omega
theorem R.aF{p:Pl}{h:H}{w:World}(hr:R p h w){r:Nat}(c:Im p h r):r<w.heap.size:=by
 obtain⟨b,o,n,a,d⟩:=c;obtain⟨r',n',x,h3,h4,_⟩:=hr.obj b o a;grind
theorem Ext.push{p:Pl}{h:H}{w:World}(hr:R p h w){o:O}{x:Obj}{n:Nat}(J:Mp p n o x):
  Ext p h w (p++[(w.heap.size,n)]) (h.push o) { w with heap:=w.heap.push x }:=by
 have L:∀b o',h.get b=some o'->b≠h.nx:=fun b o' a=>by have:=hr.lt a;omega
 have l:(p++[(w.heap.size,n)])[h.nx]?=some (w.heap.size,n):=by rw[<-hr.len];simp
 have f:∀b,b<h.nx->(p++[(w.heap.size,n)])[b]?=p[b]?:=ah;refine⟨⟨_,rfl⟩,⟨by simp[hr.len],fun b o' a=>?_,fun b b' d g r m A a u k s=>?_⟩,by simp,fun r v _=>?_,fun r G=>?_,rfl,rfl,rfl,fun r v F=>?_⟩
 ·rw[H.Ce]at a;by_cases e:b=h.nx
  ·subst e;simp at a;subst a;exact⟨_,_,x,l,by simp,J.mono _⟩
  ·rw[wc e]at a;obtain⟨r,m,y,k,s,I⟩:=hr.obj b o' a;refine⟨r,m,y,by grind,?_,I.mono _⟩;grind
 ·have key:∀c o' r m,(h.push o).get c=some o'->(p++[(w.heap.size,n)])[c]?=some (r,m)->(c=h.nx/\r=w.heap.size)\/(h.get c=some o'/\p[c]?=some (r,m)/\r<w.heap.size):=by
   intro c o' r m q hp;rw[H.Ce]at q;by_cases e:c=h.nx
   ·grind
   ·rw[wc e]at q;rw[f c<|hr.lt q]at hp;exact .inr ⟨q,hp,hr.aF ⟨c,o',m,q,hp⟩⟩
  rcases key b d r m a k with⟨B,E⟩|⟨B,E,N⟩<;>rcases key b' g r A u s with⟨D,C⟩|⟨D,C,Q⟩
  ·omega
  ·omega
  ·omega
  ·exact hr.inj b b' d g r m A B D E C
 ·grind
 ·obtain⟨b,o',m,k,s⟩:=G;rw[H.Ce]at k;by_cases e:b=h.nx
  ·grind
  ·rw[wc e]at k;rw[f b<|hr.lt k]at s;exact .inl ⟨b,o',m,k,s⟩
 ·refine⟨by grind,.inl ?_⟩;obtain⟨b,m,cs,t,fz,S,M,K⟩:=F;refine⟨b,m,cs,t,fz,?_,?_,K⟩
  ·simp_all
  grind
theorem Ext.put{p:Pl}{h:H}{w w':World}(hr:R p h w){b r n:Nat}{o o':O}{x':Obj}(l:h.get b=some o)(hp:p[b]?=some (r,n))(U:Mp p n o' x')
  (J:w'.heap=w.heap.setIfInBounds r x') (x:w'.os=w.os) (E:w'.output=w.output) (Q:w'.tape=w.tape)
  (I:∀cs t fz,o=.cells cs t fz->Lk n fz->w.heap[r]?=some x'/\∃cs' A,o'=.cells cs' A fz:=by intro _ _ _ h;cases h):Ext p h w p (h.put b o') w':=by
 have N:r<w.heap.size:=hr.aF ⟨b,o,n,l,hp⟩;refine⟨(by simp),⟨hr.len,fun c d a=>?_,fun c G d k s m K a C x E=>?_⟩,by simp[J],fun s S V=>?_,fun s M=>?_,x,E,Q,fun s S L=>?_⟩
 ·rw[H.B6]at a;by_cases e:c=b
  ·subst e;simp at a;subst a;exact⟨r,n,x',hp,by grind,U⟩
  ·rw[wc e]at a;obtain⟨s,m,y,g,u,W⟩:=hr.obj c d a;have q:r≠s:=fun B=>e<|hr.inj c b d o s m n a l g<|B▸hp
   grind
 ·have f:∀c d,(h.put b o').get c=some d->∃k,h.get c=some k:=by
   intro c d a;rw[H.B6]at a;grind
  obtain⟨_,g⟩:=f c d a;obtain⟨_,u⟩:=f G k C;exact hr.inj c G _ _ s m K g u x E
 ·have q:r≠s:=fun e=>V<|e▸⟨b,o,n,l,hp⟩
  grind
 ·obtain⟨c,d,m,g,u⟩:=M;rw[H.B6]at g;by_cases e:c=b
  ·subst e;exact .inl ⟨c,o,m,l,u⟩
  ·rw[wc e]at g;exact .inl ⟨c,d,m,g,u⟩
 ·obtain⟨c,m,cs,t,fz,F,v,D⟩:=L;by_cases e:c=b
  ·subst e;rw[hp]at v;cases v;rw[l]at F;cases F;obtain⟨g,cs',A,rfl⟩:=I cs t fz rfl D;refine⟨?_,.inl ⟨c,n,cs',A,fz,by simp,hp,D⟩⟩;grind
  ·have q:r≠s:=fun B=>e<|hr.inj c b _ o s m n F l v<|B▸hp
   refine⟨by grind,.inl ⟨c,m,cs,t,fz,by simp_all,v,D⟩⟩
theorem R.kill{p:Pl}{h:H}{w:World}(hr:R p h w)(b:Nat):R p (h.kill b) w:=by
 have sub:∀c o,(h.kill b).get c=some o->h.get c=some o:=by
  simp
 exact⟨hr.len,fun c o a=>hr.obj c o<|sub c o a,fun c d o o' r n n' a f=>hr.inj c d o o' r n n' (sub c o a) ah⟩
theorem Ext.kill{p:Pl}{h:H}{w:World}(hr:R p h w)(b:Nat):Ext p h w p (h.kill b) w:=by
 refine⟨(by simp),hr.kill b,zh _,(by simp),fun r u=>?_,rfl,rfl,rfl,fun r k s=>⟨rfl,?_⟩⟩
 ·obtain⟨c,o,n,a,y⟩:=u;rw[H.C6]at a;split at a
  ·cases a
  ·exact .inl ⟨c,o,n,a,y⟩
 ·obtain⟨c,m,cs,t,fz,A,g,x⟩:=s;by_cases e:c=b
  ·subst e;refine .inr ?_;rintro⟨v,o',q,d,l⟩;rw[H.C6]at d;split at d
   ·cases d
   ·rename_i f;exact f<|hr.inj v c _ _ r q m d A l g
  ·exact .inl ⟨c,m,cs,t,fz,by simp_all,g,x⟩
theorem Ext.move{p:Pl}{h:H}{w w':World}(hr:R p h w){b r n:Nat}{o o':O}{x':Obj}(A:h.get b=some o)(hp:p[b]?=some (r,n))(Z:Mp p n o' x')
  (J:w'.heap=w.heap.setIfInBounds r x') (Y:w'.os=w.os) (V:w'.output=w.output) (g3:w'.tape=w.tape) (hk:∀cs t fz,o=.cells cs t fz->¬Lk n fz):Ext p h w (p++[(r,n)]) ((h.kill b).push o') w':=by
 have U:r<w.heap.size:=hr.aF ⟨b,o,n,A,hp⟩;have k:(p++[(r,n)])[h.nx]?=some (r,n):=by rw[<-hr.len];simp
 have f:∀b,b<h.nx->(p++[(r,n)])[b]?=p[b]?:=ah;have d:∀c a,((h.kill b).push o').get c=some a->(c=h.nx/\a=o')\/(c≠b/\c<h.nx/\h.get c=some a):=by
  intro c a g;rw[H.Ce,H.Z0,H.C6]at g;by_cases e:c=h.nx
  ·grind
  ·rw[wc e]at g;by_cases l:c=b
   ·grind
   ·rw[wc l]at g;exact .inr ⟨l,hr.lt g,g⟩
 have ne:∀c a s m,c≠b->h.get c=some a->p[c]?=some (s,m)->r≠s:=fun c a s m g K C e=>g<|hr.inj c b a o s m n K A C<|e▸hp
 refine⟨⟨_,rfl⟩,⟨by simp[hr.len],fun c a g=>?_,fun c D a u s m L g B F I=>?_⟩,by simp[J],fun s C hn=>?_,fun s S=>?_,Y,V,g3,fun s C M=>?_⟩
 ·rcases d c a g with⟨rfl,rfl⟩|⟨G,l,v⟩
  ·exact⟨r,n,x',k,by grind,Z.mono _⟩
  ·obtain⟨s,m,y,x,q,E⟩:=hr.obj c a v;refine⟨s,m,y,by grind,?_,E.mono _⟩;grind
 ·rcases d c a g with⟨rfl,rfl⟩|⟨G,l,v⟩<;>rcases d D u B with⟨rfl,rfl⟩|⟨f1,N,X⟩
  ·rfl
  ·grind
  ·grind
  ·rw[f c l]at F;rw[f D N]at I;exact hr.inj c D a u s m L v X F I
 ·have Q:r≠s:=fun e=>hn<|e▸⟨b,o,n,A,hp⟩
  grind
 ·obtain⟨c,a,m,x,q⟩:=S;rcases d c a x with⟨rfl,rfl⟩|⟨G,l,v⟩
  ·rw[k]at q;cases q;exact .inl ⟨b,o,n,A,hp⟩
  ·rw[f c l]at q;exact .inl ⟨c,a,m,v,q⟩
 ·obtain⟨c,m,cs,t,fz,x,q,E⟩:=M;by_cases e:c=b
  ·grind
  ·have W:=hr.lt x;refine⟨by grind,.inl ⟨c,m,cs,t,fz,?_,by grind,E⟩⟩;rw[H.Ce,H.Z0,wc ae,H.C6,wc e];exact x
end
def AeL(l:List Nat):List V:=l.map fun n=>.int .u64<|.ofNat n
def GP:List (Nat×O):=[(5,.cells (AeL [1,10,100,1000,10000,100000,1000000,10000000,100000000,1000000000,10000000000,100000000000,1000000000000,10000000000000,100000000000000,1000000000000000,10000000000000000,100000000000000000,1000000000000000000,10000000000000000000]) 325 (0,20))]
mutual
def V.flat:V->Bool
 | .bool _| .int _ _| .str _| .nilp| .nils| .nilm| .nilf| .nili=>true
 | .agg l| .tup l=>V.Jc l
 |_=>false
def V.Jc:List V->Bool
 |[]=>true
 |v::vs=>v.flat&&V.Jc vs
end
mutual
theorem V.Dl{p q:Pl}:∀ {v:V} {v':Value},v.flat=true->Ad p v v'->Ad q v v'
 | .bool _,_,_,h| .int _ _,_,_,h| .str _,_,_,h| .nilp,_,_,h| .nils,_,_,h| .nilm,_,_,h| .nilf,_,_,h| .nili,_,_,h=>by simpa [Ad]using h
 | .agg l,_,a,h=>by
  obtain⟨x,rfl,b⟩:=h;exact⟨x,rfl,V.Ki (by simpa [V.flat]using a) b⟩
 | .tup l,_,a,h=>by
  obtain⟨x,rfl,b⟩:=h;exact⟨x,rfl,V.Ki (by simpa [V.flat]using a) b⟩
 | .ptr _ _,_,a,_| .sl _ _ _ _ _,_,a,_| .map _,_,a,_| .fn _ _ _,_,a,_| .yld _,_,a,_| .iface _ _,_,a,_=>by simp[V.flat]at a
theorem V.Ki{p q:Pl}:∀ {v:List V} {v':List Value},V.Jc v=true->Ax p v v'->Ax q v v'
 |[],_,_,h=>by simp_all
 |_::_,[],_,h=>by simp at h
 |v::vs,x::xs,a,h=>by
  simp only[V.Jc,zn]at a;rw[Bu]at h ⊢;exact⟨V.Dl a.1 h.1,V.Ki a.2 h.2⟩
end
def osz:O->Nat
 | .cells cs _ _=>cs.length
 |_=>0
def gin(g:Nat):List (Nat×O)->Bool
 |[]=>false
 |(i,_)::l=>bif zg i g then true else gin g l
def hGm:List (Nat×O)->PM O
 |[]=>.leaf
 |(i,o)::l=>(hGm l).set i<|some o
def PZ:List (Nat×O)->Nat
 |[]=>0
 |(i,_)::l=>bif zk (i+1) (PZ l)then PZ l else i+1
def hG:H:=⟨hGm GP,PZ GP⟩
def gok:List (Nat×O)->Bool
 |[]=>true
 |(_,.cells cs _ (a,b))::l=>V.Jc cs&&zg a 0&&zg b cs.length&&z6 0 b&&gok l
 |_=>false
theorem Zz:gok GP=true:=by rfl
theorem aU{g:Nat}:∀ {l:List (Nat×O)},gin g l=true->∃o,(g,o)∈l
 |[],h=>by cases h
 |(i,o)::l,h=>by
  unfold gin at h;cases a:zg i g with
  |true=>simp_all
  |false=>
   rw[a]at h;obtain⟨o',b⟩:=aU h;grind
theorem Ut:∀ {l:List (Nat×O)},gok l=true->∀x∈l,∃cs t,x.2=.cells cs t (0,cs.length)/\V.Jc cs=true/\0<cs.length
 |[],_,x,c=>by cases c
 |(i,.cells cs t (a,b))::l,h,x,c=>by
  simp only[gok,zn]at h;obtain⟨⟨⟨⟨g,f⟩,d⟩,m⟩,k⟩:=h;rcases yi.1 c with rfl|c
  ·have f:a=0:=by simp_all
   have d:b=cs.length:=by simp_all
   subst f d;exact⟨cs,t,rfl,g,(by simp_all)⟩
  ·exact Ut k x c
theorem LB:∀ {l:List (Nat×O)} {b:Nat} {o:O},(hGm l).get b=some o->(b,o)∈l
 |[],b,o,h=>by simp[hGm]at h
 |(i,o')::l,b,o,h=>by
  simp only[hGm,PM.Dz]at h;by_cases e:b=i
  ·grind
  ·rw[wc e]at h;exact List.mem_cons_of_mem _<|LB h
theorem cJ{n:Nat}:∀ {l:List (Nat×O)},(∀x∈l,x.1<n)->PZ l<=n
 |[],_=>Nat.zero_le _
 |(i,o)::l,h=>by
  have a:=h (i,o) (by simp);have c:=cJ (l:=l) fun x b=>h x ah
  grind [PZ]
theorem U9:∀ {l:List (Nat×O)},∀x∈l,x.1<PZ l
 |[],x,a=>by cases a
 |(i,o)::l,x,a=>by
  unfold PZ;rcases yi.1 a with rfl|a
  ·cases b:zk (i+1) (PZ l)with
   |true=>have:=Nat.le_of_ble_eq_true b;grind
   |false=>simp
  ·have:=U9 (l:=l) x a;grind [Nat.ble_eq_true_of_le]
def Gp(p:Pl):Prop:=∀x∈GP,p[x.1]?=some (x.1,osz x.2)
def Gh(h:H):Prop:=∀x∈GP,h.get x.1=some x.2
theorem Gp.app{p:Pl}(h:Gp p)(q:Pl):Gp (p++q):=fun x a=>by
 have:=h x a;grind
theorem Gp.top{p:Pl}(h:Gp p):PZ GP<=p.length:=cJ fun x a=>(zm.1<|h x a).1
theorem Gp.take{p:Pl}(h:Gp p):Gp (p.take<|PZ GP):=fun x a=>by
 rw[zp<|U9 x a];exact h x a
theorem EO.flat{p q:Pl}{cs:List V}{vs:List Value}(g:V.Jc cs=true)(h:EO p cs vs):EO q cs vs:=
 ⟨h.1,fun i d v b f c=>V.Dl (by
  have:=List.mem_of_getElem? b;clear h b f c;induction cs with
  |nil=>grind
  |cons a cs k=>
   simp only[V.Jc,zn]at g;grind)<|h.2 i d v b f c⟩
theorem AcO{p:Pl}{h:H}{w:World}(hr:R p h w)(hp:Gp p)(s:Gh h):R (p.take<|PZ GP) hG w:=by
 refine⟨by rw[List.length_take,Nat.min_eq_left hp.top];rfl,fun b o f=>?_,fun b b' o o' r n n' f a g k=>?_⟩
 ·have d:=LB f;obtain⟨cs,t,e,q,u⟩:=Ut Zz _ d;obtain⟨r,n,x,g,k,h3⟩:=hr.obj b o<|s _ d;refine⟨r,n,x,by rw[zp<|U9 _ d];exact g,k,?_⟩;subst e;obtain⟨c,fz',k1,k2,k3,k4,k5⟩:=h3;exact⟨c,fz',k1,k2,k3,k4.flat q,k5⟩
 ·have m:=LB f;have l:=LB a;have v:=hp.take _ m;have y:=hp.take _ l;grind
theorem Ext.GP{p:Pl}{w w':World}{p':Pl}{h':H}(hp:Gp p)(g:Ext p hG w p' h' w')(r:Nat)(hr:r<w.heap.size):w'.heap[r]?=w.heap[r]?:=by
 by_cases c:Im p hG r
 ·obtain⟨b,o,n,a,d⟩:=c;have f:=LB a;obtain⟨cs,t,e,hf,hl⟩:=Ut Zz _ f;subst e;have:=hp _ f;rw[this]at d;cases d;exact(g.lock _ hr ⟨_,_,_,_,_,a,this,rfl,zh _,hl⟩).1
 ·exact g.same r hr c
section
variable {p:Pl}
def V.cells:V->List V
 | .agg cs=>cs
 |v=>[v]
theorem Ad.cells{d:V}{v:Value}(f:Ad p d v):Ax p d.cells v.cells.toList:=by
 cases d<;>simp only[V.cells]<;>simp only[Ad]at f
 case agg cs=>obtain⟨x,rfl,b⟩:=f;exact b
 case bool=>simp_all [zj,Ad]
 case int=>simp_all [zj,Ad]
 case str=>simp_all [zj,Ad]
 case nilp=>simp_all [zj,Ad]
 case nils=>simp_all [zj,Ad]
 case nilm=>simp_all [zj,Ad]
 case nilf=>simp_all [zj,Ad]
 case nili=>simp_all [zj,Ad]
 case ptr=>obtain⟨r,n,b,rfl⟩:=f;simp[zj,Ad,b]
 case esl=>obtain⟨a,c,rfl⟩:=f;simp[zj,Ad]
 case es0=>obtain⟨a,rfl⟩:=f;simp[zj,Ad]
 case sl=>obtain⟨r,n,c,b,rfl,g⟩:=f;simp only[zj,Bu,Hx,ve];simp only[Ad];grind
 case map=>obtain⟨r,n,b,rfl⟩:=f;simp[zj,Ad,b]
 case yld=>obtain⟨r,n,b,rfl⟩:=f;simp[zj,Ad,b]
 case fn=>obtain⟨x,y,rfl,b,g⟩:=f;simp only[zj,Bu,Hx,ve];simp only[Ad];grind
 case iface=>obtain⟨y,rfl,b⟩:=f;simp_all [zj,Ad]
 case tup=>obtain⟨x,rfl,b⟩:=f;simp_all [zj,Ad]
end
structure TI where
 size:Nat
 bytes:Nat
 zv:V
def TI.zero(i:TI):List V:=i.zv.cells
inductive FK where
 |bool
 |str
 |int (k:IntKind)
def FK.ok:FK->V->Bool
 | .bool,.bool _=>true
 | .str,.str _=>true
 | .int k,.int a _=>k==a
 |_,_=>false
def fit:List FK->List V->Bool
 |[],[]=>true
 |k::ks,v::vs=>bif k.ok v then fit ks vs else false
 |_,_=>false
structure Cg where
 und:TypeId->Option TypeDesc
 inf:TypeId->Option TI
 flat:TypeId->Option (List FK)
 mth:TypeId->String->Option FuncId
def EU:V->V->Option Bool
 | .bool a,.bool b=>some<|a==b
 | .int k a,.int c b=>if k=c then some (a==b)else none
 | .str a,.str b=>some<|a==b
 |_,_=>none
def B8:List V->List V->Option Bool
 |[],[]=>some true
 |a::c,b::d=>
  match EU a b with
  |some true=>B8 c d
  |some false=>if c.length=d.length then some false else none
  |none=>none
 |_,_=>none
structure Cg.Ok(T:Cg)(P:Program):Prop where
 und:∀t d,T.und t=some d->P.underlying t=some d
 inf:∀t i,T.inf t=some i->∃j v,P.info? t=some j/\j.size=i.size/\j.bytes=i.bytes/\j.zero=some v/\∀p,Ad p i.zv v
 flat:∀t ks,T.flat t=some ks->∀(p:Pl) (x y:List V) (x' y':Array Value) (r:Bool) (w:World),fit ks x=true->fit ks y=true->Ax p x x'.toList->Ax p y y'.toList->B8 x y=some r->
  (yu t (.agg x') (.agg y')).run P w=.ok r w
 guard:∀t ks,T.flat t=some ks->P.eqGuardType P.depth t=false
 key:∀t ks,T.flat t=some ks->∀(p:Pl) (x:List V) (x':Array Value) (b:Bool) (w:World),fit ks x=true->Ax p x x'.toList->(Instr.checkKey b 10000 t (.agg x')).run P w=.ok () w
 kind:∀t ks,T.flat t=some ks->∃fs,T.und t=some (.struct fs)
 mth:∀t name f,T.mth t name=some f->∃j m d,P.info? t=some j/\j.methods.find? (·.name==name)=some m/\m.path= #[]/\m.func=some (f,false)/\P.underlying t=some d/\∀e,d≠ .pointer e
section
variable {T:Cg}{P:Program}{p:Pl}{h:H}{w:World}
theorem AE(b:T.Ok P){t:TypeId}{d:TypeDesc}(a:T.und t=some d):(underlying t).run P w=.ok d w:=by
 unfold underlying;simp[b.und t d a]
theorem BK(b:T.Ok P){t:TypeId}{i:TI}(a:T.inf t=some i):(sizeOf t).run P w=.ok i.size w:=by
 obtain⟨j,v,c,d,_⟩:=b.inf t i a;simp_all [sizeOf,typeInfo]
theorem PE(b:T.Ok P){t:TypeId}{i:TI}(a:T.inf t=some i):∃j,(∀w,(typeInfo t).run P w=.ok j w)/\j.bytes=i.bytes/\j.size=i.size:=by
 obtain⟨j,v,c,f,d,_⟩:=b.inf t i a;simp_all [typeInfo]
theorem EP(c:T.Ok P){t:TypeId}{i:TI}(a:T.inf t=some i):∃v,(∀w,(zeroValue t).run P w=.ok v w)/\∀p,Ax p i.zero v.cells.toList:=by
 obtain⟨j,v,d,k,f,g,b⟩:=c.inf t i a;exact⟨v,(by simp_all [zeroValue,typeInfo]),fun p=>(b p).cells⟩
theorem AbS(b:T.Ok P){t:TypeId}{i:TI}(a:T.inf t=some i):∃v,(∀w,(zeroValue t).run P w=.ok v w)/\∀p,Ad p i.zv v:=by
 obtain⟨j,v,c,k,d,f,g⟩:=b.inf t i a;simp_all [zeroValue,typeInfo]
def EV:TypeDesc->Bool
 | .struct _| .array _ _=>true
 |_=>false
theorem Sn(b:T.Ok P){t:TypeId}{d:TypeDesc}(a:T.und t=some d):(isAgg t).run P w=.ok (EV d) w:=by
 unfold isAgg;rw[zd,AE b a];cases d<;>simp[EV]
def V.one:V->Bool
 | .agg _| .tup _| .junk=>false
 |_=>true
theorem V.NC{d:V}(h:d.one=true):d.ok=true:=by cases d<;>first|rfl|cases h
theorem Ad.one{d:V}{v:Value}(b:Ad p d v)(f:d.one=true):v.oneCell'=true:=by
 cases d<;>simp only[V.one]at f<;>simp only[Ad]at b
 case agg|tup=>cases f
 case ptr=>obtain⟨r,n,_,rfl⟩:=b;rfl
 case esl=>obtain⟨a,c,rfl⟩:=b;rfl
 case es0=>obtain⟨a,rfl⟩:=b;rfl
 case sl=>obtain⟨r,n,c,_,rfl,_⟩:=b;rfl
 case map=>obtain⟨r,n,_,rfl⟩:=b;rfl
 case yld=>obtain⟨r,n,_,rfl⟩:=b;rfl
 case fn=>obtain⟨x,y,rfl,_,_⟩:=b;rfl
 case iface=>obtain⟨y,rfl,_⟩:=b;rfl
 all_goals subst b;rfl
@[simp] theorem Addr.NL(r off n:Nat):Addr.add ⟨r,off,none⟩ n=⟨r,off+n,none⟩:=by
 unfold Addr.add;simp
def rd0(h:H)(b off n:Nat):Option (List V):=
 match h.get b with
 |some (.cells cs _ _)=>if off+n<=cs.length/\((cs.drop off).take n).all V.ok=true then some ((cs.drop off).take n)else none
 |_=>none
def rd(h:H)(b off n:Nat):Option (List V):=
 match h.get b with
 |some (.cells cs _ _)=>bif zk (Nat.add off n) (EY cs)&&Mz V.ok (aD n<|KL off cs)then some (aD n<|KL off cs)else none
 |_=>none
theorem aJ:rd=rd0:=by
 funext h b off n
 unfold rd rd0;split
 ·rw[Dw,Rb,Qt,Gf];simp
 ·rfl
theorem cell_of(hr:R p h w){b:Nat}{cs:List V}{t:TypeId}{fz:Nat×Nat}(a:h.get b=some (.cells cs t fz)):
  ∃r n c fz',p[b]?=some (r,n)/\w.heap[r]?=some (.cells c t fz')/\c.size=n/\cs.length<=n/\EO p cs (c.toList.take cs.length)/\(∀i,w.cell? ⟨r,i,none⟩=c[i]?)/\
   ∀i,i<n->fz'.1<=i->i<fz'.2->fz.1<=i/\i<fz.2:=by
 obtain⟨r,n,x,d,o,c,fz',f,g,m,k,l⟩:=hr.obj b _ a;grind [World.cell?]
theorem RP{a:Addr}{v:Value}(b:w.cell? a=some v):(load a).run P w=.ok v w:=by simp[b]
theorem run_loadCellsFrom{a:Addr}:∀(n i:Nat) (b:Array Value) (vs:List Value),vs.length=n->(∀j v,vs[j]?=some v->w.cell? (a.add<|i+j)=some v)->
  (loadCellsFrom a i n b).run P w=.ok (b++vs.toArray) w
 |0,i,b,vs,d,_=>by
  simp_all [loadCellsFrom]
 |n+1,i,b,[],d,_=>by grind
 |n+1,i,b,v::vs,d,c=>by
  unfold loadCellsFrom;rw[zd,RP (a:=a.add i) (by have:=c 0 v rfl;simpa using this)];simp only[zc];rw[run_loadCellsFrom n (i+1) (b.push v) vs ah (fun j u f=>by
   have:=c (j+1) u ah;grind)]
  simp
theorem run_loadCells(hr:R p h w){b off n:Nat}{xs:List V}(d:rd h b off n=some xs):
  ∃r m vs,p[b]?=some (r,m)/\(loadCells ⟨r,off,none⟩ n).run P w=.ok vs.toArray w/\Ax p xs vs/\vs.length=n/\∀i v,vs[i]?=some v->w.cell? ⟨r,off+i,none⟩=some v:=by
 rw[aJ]at d;unfold rd0 at d;split at d
 case h_2=>cases d
 rename_i cs t fz l;split at d
 case isFalse=>cases d
 cases d;obtain⟨r,m,c,_,k,x,q,s,o,u,_⟩:=cell_of hr l;have g:Ax p ((cs.drop off).take n) ((c.toList.take cs.length).drop off|>.take n):=((o.drop off).take n).OS ah;have a:((c.toList.take cs.length).drop off|>.take n).length=n:=ah
 have f:∀i v,((c.toList.take cs.length).drop off|>.take n)[i]?=some v->w.cell? ⟨r,off+i,none⟩=some v:=by
  grind
 refine⟨r,m,_,k,?_,g,a,f⟩;unfold loadCells;rw[run_loadCellsFrom n 0 #[] _ a (by simp_all)];simp
def FC(T:Cg)(h:H)(t:TypeId)(a:V):Option V:=
 match a,T.und t,T.inf t with
 | .ptr b off,some d,some i=>
  bif EV d then(rd h b off i.size).map .agg
  else match rd h b off 1 with
   |some (v::_)=>some v
   |_=>none
 |_,_,_=>none
theorem VY(x:T.Ok P)(hr:R p h w){t:TypeId}{a v:V}{o:Value}(q:Ad p a o)(c:FC T h t a=some v):
  ∃v',(Instr.loadAt t o).run P w=.ok v' w/\Ad p v v':=by
 unfold FC at c;split at c
 case h_2=>cases c
 rename_i b off d i C y;simp only[Ad]at q;obtain⟨r,n,hp,rfl⟩:=q;unfold Instr.loadAt yc;simp only[zd,zf,zc];unfold loadVar;simp only[zd];rw[Sn x C];simp only[zc];cases g:EV d with
 |true=>
  simp only[g,we]at c;rw[zi]at c;obtain⟨xs,k,rfl⟩:=c;obtain⟨B,m,vs,f,s,l,_⟩:=run_loadCells (P:=P) hr k;rw[hp]at f;cases f;simp only[wk,zd,BK x y,zc,s,zf];simp_all [Ad]
 |false=>
  simp only[g,wg]at c;split at c
  case h_2=>cases c
  rename_i v0 tl k;cases c;obtain⟨B,m,vs,f,s,l,E,A⟩:=run_loadCells (P:=P) hr k;rw[hp]at f;cases f;cases vs with
  |nil=>grind
  |cons u D=>
   simp at l;simp only[zw,vf];have:=A 0 u rfl;simp_all
def Hj:List V->Nat->List V->List V
 |cs,_,[]=>cs
 |cs,off,v::vs=>Hj (cs.set off v) (off+1) vs
@[simp] theorem Jy:∀(vs:List V) (cs:List V) (off:Nat),(Hj cs off vs).length=cs.length
 |[],_,_=>rfl
 |v::vs,cs,off=>by simp[Hj,Jy vs]
def clear(fz:Nat×Nat)(off n:Nat):Bool:=zk fz.2 off||zk (off+n) fz.1||zk fz.2 fz.1
def wr0(h:H)(b off:Nat)(vs:List V):Option H:=
 match h.get b with
 |some (.cells cs t fz)=>bif zk (off+vs.length) cs.length&&clear fz off vs.length&&vs.all V.one then some (h.put b<|.cells (Hj cs off vs) t fz)else none
 |_=>none
theorem Nq(a:V):∀(vs cs:List V) (off:Nat),Hj (a::cs) (off+1) vs=a::Hj cs off vs
 |[],cs,off=>rfl
 |v::vs,cs,off=>by
  show Hj ((a::cs).set (off+1) v) (off+1+1) vs=a::Hj (cs.set off v) (off+1) vs;rw[List.set_cons_succ,Nq a vs]
theorem Qe:∀(vs:List V) (off:Nat),Hj [] off vs=[]
 |[],_=>rfl
 |v::vs,off=>by show Hj ([].set off v) (off+1) vs=[];rw[List.set_nil,Qe vs]
theorem VJ:∀(vs cs:List V),KM vs cs=Hj cs 0 vs
 |[],cs=>rfl
 |v::vs,[]=>(Qe _ _).symm
 |v::vs,c::cs=>by
  show v::KM vs cs=Hj ((c::cs).set 0 v) (0+1) vs;rw[List.set_cons_zero,Nq,VJ vs cs]
theorem Kj(vs:List V):∀(off:Nat) (cs:List V),CN off vs cs=Hj cs off vs
 |0,cs=>VJ vs cs
 |off+1,[]=>(Qe _ _).symm
 |off+1,c::cs=>by rw[Nq];exact wi (c:: ·)<|Kj vs off cs
def wr(h:H)(b off:Nat)(vs:List V):Option H:=
 match h.get b with
 |some (.cells cs t fz)=>bif zk (Nat.add off<|EY vs) (EY cs)&&clear fz off (EY vs)&&Mz V.one vs then some (h.put b<|.cells (CN off vs cs) t fz)else none
 |_=>none
theorem AfB:wr=wr0:=by
 grind [wr,wr0,Dw,Gf,Kj]
theorem nA(a:Array Obj)(i:Nat)(x:Obj)(j:Nat):(a.setIfInBounds i x)[j]?=if i=j/\j<a.size then some x else a[j]?:=by
 grind
theorem kA{a:Array Obj}{i:Nat}{x:Obj}(h:a[i]?=some x):a.setIfInBounds i x=a:=by
 grind
theorem P7{a:Array Obj}{i:Nat}{f:Obj->Obj}{x:Obj}(h:a[i]?=some x):a.modify i f=a.setIfInBounds i (f x):=by
 grind
theorem setCell_eq{w:World}{r off:Nat}{c:Array Value}{t:TypeId}{fz:Nat×Nat}(v:Value)(a:w.heap[r]?=some (.cells c t fz)):
  w.setCell ⟨r,off,none⟩ v={ w with heap:=w.heap.setIfInBounds r (.cells (c.setIfInBounds off v) t fz) }:=by
 grind [World.setCell,P7]
theorem Gt{r:Nat}{t:TypeId}{fz:Nat×Nat}:∀(vs:List Value) (w:World) (c:Array Value) (off i:Nat),w.heap[r]?=some (.cells c t fz)->off+i+vs.length<=c.size->
  (∀v∈vs,v.oneCell'=true)->(∀j,i<=j->j<i+vs.length->¬(fz.1<=off+j/\off+j<fz.2))->
  ∃a:Array Value,(storeCells ⟨r,off,none⟩ vs i).run P w=.ok () { w with heap:=w.heap.setIfInBounds r (.cells a t fz) }/\a.size=c.size/\
   a.toList=(List.range c.size).map (fun j=>if off+i<=j/\j<off+i+vs.length then vs.getD (j-(off+i)) default else c.toList.getD j default)
 |[],w,c,off,i,b,_,_,_=>by
  refine⟨c,?_,rfl,?_⟩
  ·simp_all [storeCells,kA]
  ·apply List.ext_getElem (by simp);grind
 |v::vs,w,c,off,i,b,g,l,k=>by
  simp at g;have f:w.cell? ⟨r,off+i,none⟩=some (c[off+i]'ae):=by simp[World.cell?,b]
  have u:w.frozen? ⟨r,off+i,none⟩=false:=by
   simp_all [World.frozen?]
  have m:=setCell_eq (off:=off+i) v b;have d:=(Array.getElem?_eq_some_iff.1 b).1;obtain⟨a,y,B,o⟩:=Gt vs { w with heap:=w.heap.setIfInBounds r (.cells (c.setIfInBounds (off+i) v) t fz) } (c.setIfInBounds (off+i) v) off (i+1)
   (by rw[nA,wd ⟨rfl,d⟩]) ah ah (fun j s q=>k j ae ah)
  refine⟨a,?_,by grind,?_⟩
  ·simp_all [storeCells,run_store]
  ·rw[o];apply List.ext_getElem (by simp);intro j x A;simp at x;simp only[List.getElem_map,List.getElem_range,yj];grind
theorem Px:∀(vs cs:List V) (off j:Nat),off+vs.length<=cs.length->(Hj cs off vs)[j]?=if off<=j/\j<off+vs.length then vs[j-off]? else cs[j]?
 |[],cs,off,j,_=>by rw[wc<|by simp];rfl
 |v::vs,cs,off,j,a=>by
  unfold Hj;rw[Px vs (cs.set off v) (off+1) j ah];grind
theorem TO(hr:R p h w){b off:Nat}{xs:List V}{vs:List Value}(o:Ax p xs vs){h':H}(g:wr h b off xs=some h'):
  ∃r m w',p[b]?=some (r,m)/\(storeCells ⟨r,off,none⟩ vs).run P w=.ok () w'/\Ext p h w p h' w':=by
 rw[AfB]at g;unfold wr0 at g;split at g
 case h_2=>cases g
 rename_i cs t fz D;cases x:(zk (off+xs.length) cs.length&&clear fz off xs.length&&xs.all V.one)with
 |false=>grind
 |true=>
  simp only[x,we,ze]at g;subst g;simp only[zn,z7,List.all_eq_true]at x;obtain⟨⟨U,A⟩,W⟩:=x;obtain⟨r,m,c,fz',h1,h2,h3,h4,h5,h6,h7⟩:=cell_of hr D;have O:=o.length;have l:∀v∈vs,v.oneCell'=true:=by
   intro v B;obtain⟨i,C⟩:=List.mem_iff_getElem?.1 B;have K:=(zm.1 C).1;obtain⟨u,a,f⟩:=o.get (i:=i) (d:=xs[i]'ae) (by simp);rw[C]at a;cases a;exact f.one ah
  have q:∀j,0<=j->j<0+vs.length->¬(fz'.1<=off+j/\off+j<fz'.2):=by
   rintro j _ S ⟨M,G⟩;have:=h7 (off+j) ae M G;simp only[clear,yq,z7]at A;omega
  obtain⟨E,L,X,Z⟩:=Gt (P:=P) vs w c off 0 h2 ae l q;refine⟨r,m,_,h1,L,Ext.put hr D h1 ?_ rfl rfl rfl rfl (fun J t1 I Q y=>?_)⟩
  case refine_2=>
   obtain⟨l1,Y,N⟩:=y;simp only[clear,yq,z7]at A;have F:E=c:=by
    apply Array.ext';apply List.ext_getElem?;grind
   grind
  refine⟨E,fz',rfl,by omega,by simp_all,?_,h7⟩;refine⟨by simp;omega,?_⟩;intro i d v k B s;rw[Px xs cs off i ae]at k;by_cases e:off<=i/\i<off+xs.length
  ·rw[wd e]at k;obtain⟨u,a,f⟩:=o.get k;grind
  ·rw[wc e]at k;obtain⟨u,a,f⟩:=h5.get k s;grind
def H4(T:Cg)(h:H)(t:TypeId)(a x:V):Option H:=
 match a,T.inf t with
 | .ptr b off,some i=>bif zg x.cells.length i.size then wr h b off x.cells else none
 |_,_=>none
theorem gK(l:T.Ok P)(hr:R p h w){t:TypeId}{a x:V}{f x':Value}(k:Ad p a f)(d:Ad p x x'){h':H}(c:H4 T h t a x=some h'):
  ∃w',(Instr.storeAt t f x').run P w=.ok () w'/\Ext p h w p h' w':=by
 unfold H4 at c;split at c
 case h_2=>cases c
 rename_i b off i g;rw[BA]at c;by_cases e:x.cells.length=i.size
 ·simp only[e,decide_true,we]at c;obtain⟨r,n,hp,rfl⟩:=k;obtain⟨r',m,w',h1,h2,h3⟩:=TO (P:=P) hr d.cells c;rw[hp]at h1;cases h1;refine⟨w',?_,h3⟩;have o:=d.cells.length;unfold Instr.storeAt yc;unfold storeVar;have:x'.cells.size=i.size:=ah
  simp only[zd,BK l g,zc,this,wm,not_true_eq_false,vf];exact h2
 grind
theorem CY(t:TypeId)(c:Array Value):(newRow t c).run P w=.ok ⟨w.heap.size,0,none⟩ { w with heap:=w.heap.push (.cells c t) }:=by
 rfl
def Ja(h:H)(t:TypeId)(cs:List V):H:=h.push<|.cells cs t (0,0)
theorem OW(hr:R p h w)(t:TypeId){xs:List V}{c:Array Value}(a:Ax p xs c.toList):
  ∃n,Ext p h w (p++[(w.heap.size,n)]) (Ja h t xs) { w with heap:=w.heap.push (.cells c t) }/\(p++[(w.heap.size,n)])[h.nx]?=some (w.heap.size,n)/\n=c.size:=by
 refine⟨c.size,Ext.push hr ⟨c,(0,0),rfl,rfl,by have:=a.length;grind,?_,ae⟩,by rw[<-hr.len];simp,rfl⟩;have:=a.length;rw[List.take_of_length_le ae];exact a.toC
def Ho(T:Cg)(h:H)(t:TypeId):Option (V×H):=(T.inf t).map fun i=>(.ptr h.nx 0,Ja h t i.zero)
theorem gC(d:T.Ok P)(hr:R p h w){t:TypeId}{v:V}{h':H}(b:Ho T h t=some (v,h')):
  ∃v' p' w',(Instr.alloc t true<|.tuple #[]).run P w=.ok v' w'/\Ad p' v v'/\Ext p h w p' h' w':=by
 unfold Ho at b;rw[zi]at b;obtain⟨i,c,a⟩:=b;cases a;obtain⟨z,hz,hzr⟩:=EP d c;obtain⟨n,a,hp,_⟩:=OW hr t<|hzr p;refine⟨.pointer<|some ⟨w.heap.size,0,none⟩,_,_,?_,?_,a⟩
 ·grind [Instr.alloc,zd,zc,newVar,CY,zf]
 simp_all [Ad]
def fB(h:H)(t:TypeId)(x:V):V×H:=(.ptr h.nx 0,Ja h t x.cells)
theorem zJ(hr:R p h w){t:TypeId}{x:V}{x':Value}(b:Ad p x x'):
  ∃v' p' w',(Instr.box t x').run P w=.ok v' w'/\Ad p' (fB h t x).1 v'/\Ext p h w p' (fB h t x).2 w':=by
 obtain⟨n,a,hp,_⟩:=OW hr t b.cells;refine⟨.pointer<|some ⟨w.heap.size,0,none⟩,_,_,?_,?_,a⟩
 ·rfl
 simp_all [fB,Ad]
def Vw(op:BinOp)(x y:Z):Option V:=
 match op with
 | .add=>if x.length+y.length<=4611686018427387904 then some (.str<|x++y)else none
 | .eql=>some<|.bool<|x==y
 | .neq=>some<|.bool !(x==y)
 | .lss=>some<|.bool<|yp x y
 | .leq=>some<|.bool<|yp x y||x==y
 | .gtr=>some<|.bool !(yp x y||x==y)
 | .geq=>some<|.bool !yp x y
 |_=>none
theorem GI(s:Z):(bytesOf s).toList=s:=ByteArray.toList_mk s
theorem BV(s:Z):(bytesOf s).size=s.length:=by rfl
theorem Rx(x y:Z):bytesOf x++bytesOf y=bytesOf (x++y):=by
 rfl
theorem uO{op:BinOp}{x y:Z}{v:V}(a:Vw op x y=some v):
  ∃v',(Op.stringOp op (bytesOf x)<|bytesOf y).run P w=.ok v' w/\Ad p v v':=by
 unfold Op.stringOp;simp only[GI,BV];cases op<;>simp only[Vw]at a
 case add=>
  split at a
  ·cases a;rw[wc<|by grind [IntKind.max,IntKind.bits]];simp_all [Ad,Rx]
  grind
 all_goals first
  |(cases a;done)
  |(cases a;exact⟨_,zf ..,by simp[Ad]⟩)
def Qr(op:BinOp)(k:IntKind)(a b:Int):Option V:=
 match op with
 | .add=>some<|.int k<|k.wrap<|a+b
 | .sub=>some<|.int k<|k.wrap<|a-b
 | .mul=>some<|.int k<|k.wrap<|a*b
 | .quo=>if b=0 then none else some<|.int k<|k.wrap<|a.tdiv b
 | .rem=>if b=0 then none else some<|.int k<|a.tmod b
 | .and=>some<|.int k<|k.wrap (z8 k.bits a&&&z8 k.bits b).toNat
 | .or=>some<|.int k<|k.wrap (z8 k.bits a|||z8 k.bits b).toNat
 | .xor=>some<|.int k<|k.wrap (z8 k.bits a^^^z8 k.bits b).toNat
 | .andNot=>some<|.int k<|k.wrap (z8 k.bits a&&& ~~~z8 k.bits b).toNat
 | .eql=>some<|.bool<|a==b
 | .neq=>some<|.bool<|a !=b
 | .lss=>some<|.bool<|a<b
 | .leq=>some<|.bool<|a<=b
 | .gtr=>some<|.bool<|a>b
 | .geq=>some<|.bool<|a>=b
 |_=>none
def gM(op:BinOp)(k:IntKind)(a b:Int):Option V:=
 if b<0 then none else
 match op with
 | .shl=>some<|.int k<|k.wrap<|a*2^(min b.toNat k.bits)
 | .shr=>some<|.int k<|a.fdiv<|2^(min b.toNat k.bits)
 |_=>none
def Ps(ks:Option (List FK))(xs a:List V):Option Bool:=
 match ks with
 |some ks=>bif fit ks xs&&fit ks a then B8 xs a else none
 |none=>none
theorem H2{ks:Option (List FK)}{xs a:List V}{r:Bool}(h:Ps ks xs a=some r):∃l,ks=some l/\fit l xs=true/\fit l a=true/\B8 xs a=some r:=by
 unfold Ps at h;grind
def BG(T:Cg)(t:TypeId)(x y:V):Option Bool:=
 match T.und t,x,y with
 |some .bool,.bool a,.bool b=>some<|a==b
 |some (.pointer _),.nilp,y=>match y with| .nilp=>some true| .ptr .. =>some false|_=>none
 |some (.pointer _),.ptr ..,.nilp=>some false
 |some (.pointer e),.ptr a i,.ptr b j=>if a=b then match T.inf e with|some d=>if d.size≠0 then some (i==j)else none|_=>none else none
 |some (.interface _),.iface ..,.nili=>some false
 |some (.interface _),.nili,.iface .. =>some false
 |some (.slice _),.nils,y=>match y with| .nils=>some true| .sl .. =>some false| .esl=>some false| .es0=>some false|_=>none
 |some (.slice _),.sl ..,.nils=>some false
 |some (.slice _),.esl,.nils=>some false
 |some (.slice _),.es0,.nils=>some false
 |some (.map _ _),.nilm,y=>match y with| .nilm=>some true| .map .. =>some false|_=>none
 |some (.map _ _),.map ..,.nilm=>some false
 |some (.func ..),.nilf,.nilf=>some true
 |some (.func ..),.fn ..,.nilf=>some false
 |some (.func ..),.nilf,.fn .. =>some false
 |_,.agg xs,.agg c=>Ps (T.flat t) xs c
 |_,_,_=>none
def Ll(T:Cg)(op:BinOp)(t:TypeId)(x y:V):Option V:=
 match op,x,y with
 | .shl,.int k a,.int _ b=>gM .shl k a b
 | .shr,.int k a,.int _ b=>gM .shr k a b
 |op,.int k a,.int c b=>if k=c then Qr op k a b else none
 |op,.str a,.str b=>Vw op a b
 | .eql,x,y=>(BG T t x y).map fun b=>.bool b
 | .neq,x,y=>(BG T t x y).map fun b=>.bool !b
 |_,_,_=>none
theorem vV{op:BinOp}{k:IntKind}{a b:Int}{v:V}(d:op≠ .shl/\op≠ .shr)(c:Qr op k a b=some v)(t:TypeId):
  ∃v',(binOp op t (.int k a)<|.int k b).run P w=.ok v' w/\Ad p v v':=by
 cases op<;>simp only[Qr]at c<;>simp only[binOp,wm,not_true_eq_false,vf,Op.intArith,Op.intDiv,Op.intBits,Op.intCmp]
 case quo|rem=>
  split at c
  ·cases c
  ·cases c;simp_all [Ad]
 case shl=>grind
 case shr=>grind
 all_goals (cases c;exact⟨_,zf ..,by simp[Ad]⟩)
theorem R9(m:T.Ok P){t:TypeId}{x y:V}{x' y':Value}(c:Ad p x x')(b:Ad p y y'){r:Bool}(a:BG T t x y=some r):
  (yu t x' y').run P w=.ok r w:=by
 unfold BG at a;split at a
 case h_16=>
  rename_i xs o;obtain⟨l,f,d,q,A⟩:=H2 a;simp only[Ad]at c b;obtain⟨u,rfl,g⟩:=c;obtain⟨v,rfl,hv⟩:=b;exact m.flat t l f p xs o u v r w d q g hv A
 case h_17=>cases a
 all_goals (rename_i g;simp only[Ad]at c b;unfold yu Op.maxDepth Op.equalIn;rw[zd,AE m g];simp only[zc])
 case h_1=>simp_all
 case h_2=>subst c;split at a<;>first|(cases a;done)|(cases a;simp only[Ad]at b;first|(subst b;rfl)|(obtain⟨_,_,_,rfl⟩:=b;simp))
 case h_3=>obtain⟨_,_,_,rfl⟩:=c;simp_all
 case h_4=>
  split at a
  case isFalse=>cases a
  rename_i e;subst e;split at a
  case h_2=>cases a
  rename_i C k;split at a
  case isFalse=>cases a
  rename_i s;cases a;obtain⟨B,n1,f,rfl⟩:=c;obtain⟨r2,n2,d,rfl⟩:=b;rw[f]at d;cases d;simp only[zd,BK m k,zc,s,wm,not_false_eq_true,wk];unfold sameAddr;simp only[beq_self_eq_true,wk,zf];congr 1;grind
 case h_5=>obtain⟨_,rfl,_⟩:=c;simp_all
 case h_6=>obtain⟨_,rfl,_⟩:=b;simp_all
 case h_7=>subst c;split at a<;>first|(cases a;done)|(cases a;simp only[Ad]at b;first|(subst b;rfl)|(obtain⟨_,_,_,_,rfl,_⟩:=b;rfl)|(obtain⟨_,_,rfl⟩:=b;simp;done)|(obtain⟨_,rfl⟩:=b;simp;done))
 case h_8=>obtain⟨_,_,_,_,rfl,_⟩:=c;simp_all
 case h_9=>obtain⟨_,_,rfl⟩:=c;simp_all
 case h_10=>obtain⟨_,rfl⟩:=c;simp_all
 case h_11=>subst c;split at a<;>first|(cases a;done)|(cases a;simp only[Ad]at b;first|(subst b;rfl)|(obtain⟨_,_,_,rfl⟩:=b;simp))
 case h_12=>obtain⟨_,_,_,rfl⟩:=c;simp_all
 case h_13=>simp_all
 case h_14=>obtain⟨_,_,rfl,_⟩:=c;simp_all
 case h_15=>obtain⟨_,_,rfl,_⟩:=b;simp_all
def UD:V->Bool
 | .int .. | .str _| .tup _=>false
 |_=>true
theorem Mw{t:TypeId}{x y:V}{r:Bool}(a:BG T t x y=some r):UD x=true:=by
 unfold BG at a;split at a<;>first|rfl|grind
theorem O2{t:TypeId}{x:V}{x' y':Value}(a:Ad p x x')(hp:UD x=true):
  binOp .eql t x' y'=(do pure (.bool<|<-yu t x' y'))/\binOp .neq t x' y'=(do pure (.bool<|!(<-yu t x' y'))):=by
 cases x<;>simp only[UD]at hp<;>simp only[Ad]at a
 case int|str|tup=>cases hp
 case ptr=>obtain⟨_,_,_,rfl⟩:=a;cases y'<;>exact⟨rfl,rfl⟩
 case esl=>obtain⟨_,_,rfl⟩:=a;cases y'<;>exact⟨rfl,rfl⟩
 case es0=>obtain⟨_,rfl⟩:=a;cases y'<;>exact⟨rfl,rfl⟩
 case sl=>obtain⟨_,_,_,_,rfl,_⟩:=a;cases y'<;>exact⟨rfl,rfl⟩
 case map=>obtain⟨_,_,_,rfl⟩:=a;cases y'<;>exact⟨rfl,rfl⟩
 case yld=>obtain⟨_,_,_,rfl⟩:=a;cases y'<;>exact⟨rfl,rfl⟩
 case fn=>obtain⟨_,_,rfl,_⟩:=a;cases y'<;>exact⟨rfl,rfl⟩
 case iface=>obtain⟨_,rfl,_⟩:=a;cases y'<;>exact⟨rfl,rfl⟩
 case agg=>obtain⟨_,rfl,_⟩:=a;cases y'<;>exact⟨rfl,rfl⟩
 all_goals (subst a;cases y'<;>exact⟨rfl,rfl⟩)
theorem xR(g:T.Ok P){op:BinOp}{t:TypeId}{x y:V}{x' y':Value}(d:Ad p x x')(f:Ad p y y'){v:V}(a:Ll T op t x y=some v):
  ∃v',(binOp op t x' y').run P w=.ok v' w/\Ad p v v':=by
 unfold Ll at a;split at a
 case h_1=>
  unfold gM at a;split at a
  ·cases a
  ·cases a;simp_all [binOp,Op.shift,wc,Ad]
 case h_2=>
  unfold gM at a;split at a
  ·cases a
  ·cases a;simp_all [binOp,Op.shift,wc,Ad]
 case h_3=>
  simp_all [Ad,vV]
 case h_4=>
  simp_all [Ad,uO,binOp]
 case h_5=>
  rw[zi]at a;obtain⟨b,c,rfl⟩:=a;rw[(O2 d<|Mw c).1];simp only[zd,R9 g d f c,zc];simp_all [Ad]
 case h_6=>
  rw[zi]at a;obtain⟨b,c,rfl⟩:=a;rw[(O2 d<|Mw c).2];simp only[zd,R9 g d f c,zc];simp_all [Ad]
 grind
theorem Xn{a:V}{c:Value}(b:Ad p a c)(h:a≠ .nili):c≠ .nilIface:=by
 intro e;subst e;cases a<;>simp only[Ad]at b<;>first|exact h rfl|(simp at b;done)|(done)|(done)|(done)|(done)
theorem nC{a:V}{c:Array Value}(b:Ad p a (.agg c)):∃xs,a=.agg xs/\Ax p xs c.toList:=by
 cases a<;>simp only[Ad]at b<;>first|(done)|grind|grind|grind|grind
theorem Qz{op:BinOp}{t:TypeId}{x y:Operand}{b b':Value}(a:op≠ .eql)(c:op≠ .neq):eqGuard op t x y b b'=pure ():=by
 cases op<;>first|rfl|exact wh rfl a|grind
theorem eZ{op:BinOp}{t:TypeId}{x y:Operand}{a b':Value}(h0:a≠ .nilIface\/b'≠ .nilIface)(f:(∃c d,a=.agg c/\b'=.agg d)->P.eqGuardType P.depth t=false):
  (eqGuard op t x y a b').run P w=.ok () w:=by
 by_cases b:op=.eql\/op=.neq
 ·have:eqGuard op t x y a b'=eqGuard .eql t x y a b':=by rcases b with rfl|rfl<;>rfl
  rw[this];unfold eqGuard;simp only[Bool.not_true,zw,vf];split
  ·grind
  ·simp_all
  ·rfl
 simp_all [Qz]
theorem fV(C:T.Ok P){op:BinOp}{t:TypeId}{x y:Operand}{a b:V}{m b':Value}(u:Ad p a m)(B:Ad p b b'){v:V}(q:Ll T op t a b=some v):
  (eqGuard op t x y m b').run P w=.ok () w:=by
 by_cases k:op=.eql\/op=.neq
 ·refine eZ ?_ ?_
  ·by_cases s:a=.nili
   ·by_cases A:b=.nili
    ·subst s A;have:BG T t .nili .nili=none:=by simp_all [BG]
     rcases k with rfl|rfl<;>simp[Ll,this]at q
    grind [Xn]
   grind [Xn]
  ·rintro⟨c,d,rfl,rfl⟩;obtain⟨xs,rfl,f⟩:=nC u;obtain⟨ys,rfl,h2⟩:=nC B;have g:BG T t (.agg xs) (.agg ys)=Ps (T.flat t) xs ys:=by simp_all [BG]
   cases o:Ps (T.flat t) xs ys with
   |some r=>obtain⟨l,f,_⟩:=H2 o;exact C.guard t l f
   |none=>
    rw[o]at g;rcases k with rfl|rfl<;>simp[Ll,g]at q
 simp_all [Qz]
def dun(op:UnOp)(x:V):Option V:=
 match op,x with
 | .neg,.int k n=>some<|.int k<|k.wrap<|0-n
 | .xor,.int k n=>Qr .xor k (if k.signed then -1 else k.max) n
 | .not,.bool b=>some<|.bool !b
 |_,_=>none
theorem Adi{op:UnOp}{x:V}{x':Value}(b:Ad p x x'){v:V}(a:dun op x=some v):∃v',(Op.unary op x').run P w=.ok v' w/\Ad p v v':=by
 unfold dun at a;split at a
 case h_1=>subst b;cases a;exact⟨_,rfl,by rfl⟩
 case h_2=> 
  subst b;simp only[Qr,ze]at a;subst a;exact⟨_,rfl,by rfl⟩
 case h_3=>subst b;cases a;exact⟨_,rfl,by rfl⟩
 grind
def AaU:V->Option UInt8
 | .int .u8 (.ofNat n)=>some<|UInt8.ofNat n
 |_=>none
def bytes?:List V->Option Z
 |[]=>some []
 |v::vs=>
  match AaU v,bytes? vs with
  |some b,some a=>some (b::a)
  |_,_=>none
def Gz(T:Cg)(h:H)(src dst:TypeId)(x:V):Option V:=
 match T.und src,T.und dst,x with
 |some _,some<|.int k,.int _ n=>some<|.int k<|k.wrap n
 |some _,some .string,.str s=>some<|.str s
 |some (.slice e),some .string,.nils=>match T.und e with|some (.int .u8)=>some (.str [])|_=>none
 |some (.slice e),some .string,.sl b off len _ _=>
  match T.und e with
  |some (.int .u8)=>match rd h b off len with
   |some cs=>(bytes? cs).map .str
   |none=>none
  |_=>none
 |_,_,_=>none
theorem Of{f:Value->ByteArray->Sem (ForInStep ByteArray)}(q:∀n s,f (.int .u8 n) s=pure (ForInStep.yield<|s.push<|UInt8.ofNat n.toNat)):
  ∀(cs:List V) (vs:List Value) (k:Z) (a:Z),Ax p cs vs->bytes? cs=some k->
  ∀w,(forIn vs (bytesOf a) f).run P w=.ok (bytesOf<|a++k) w
 |[],vs,k,a,d,g,w=>by
  simp_all [bytes?]
 |c::cs,[],_,_,d,_,_=>by simp at d
 |c::cs,v::vs,k,a,d,g,w=>by
  simp only[Bu]at d;unfold bytes? at g;split at g
  case h_2=>cases g
  rename_i b tl m o;unfold AaU at m;split at m
  case h_2=>cases m
  rename_i n;have l:=d.1;simp only[Ad]at l;have:=Of q cs vs tl (a++[UInt8.ofNat n]) d.2 o w;grind [bytesOf,ByteArray.push]
theorem nN(b:T.Ok P)(hr:R p h w){src dst:TypeId}{x:V}{x':Value}(g:Ad p x x'){v:V}(a:Gz T h src dst x=some v):
  ∃v',(convert src dst x').run P w=.ok v' w/\Ad p v v':=by
 unfold Gz at a;split at a
 case h_1=>
  rename_i d f;subst g;cases a;unfold convert;simp only[zd,AE b d,AE b f,zc];exact⟨_,rfl,by rfl⟩
 case h_2=>
  rename_i d f;cases a;unfold convert;simp only[zd,AE b d,AE b f,zc];simp_all [Ad]
 case h_3=>
  rename_i d f;subst g;split at a
  case h_2=>cases a
  rename_i o;cases a;unfold convert;simp only[zd,AE b d,AE b f,AE b o,zc];exact⟨_,rfl,by rfl⟩
 case h_4=>
  rename_i d f;split at a
  case h_2=>cases a
  rename_i o;split at a
  case h_2=>cases a
  rename_i cs l;rw[zi]at a;obtain⟨q,k,rfl⟩:=a;obtain⟨r,n,c,g1,rfl,g2⟩:=g;obtain⟨r',m,vs,k1,k2,k3,_⟩:=run_loadCells (P:=P) hr l;rw[g1]at k1;cases k1;refine⟨.string<|bytesOf q,?_,by rfl⟩;unfold convert;simp only[zd,AE b d,AE b f,AE b o,zc];unfold Conv.bytesToString;simp only[zd,k2,zc];simp only[List.forIn_toArray];have e:ByteArray.empty=bytesOf []:=rfl;rw[e,Of (P:=P) (by simp) cs vs q [] k3 k w];simp
 grind
def MJ(T:Cg)(t:TypeId)(cs:List V)(off:Nat):Option V:=
 match T.und t,T.inf t with
 |some d,some i=>bif EV d then some (.agg<|(cs.drop off).take i.size)else cs[off]?
 |_,_=>none
theorem Wx(g:T.Ok P){t:TypeId}{cs:List V}{c:Array Value}{off:Nat}(f:Ax p cs c.toList){v:V}(a:MJ T t cs off=some v):
  ∃v',(part t c off).run P w=.ok v' w/\Ad p v v':=by
 unfold MJ at a;split at a
 case h_2=>cases a
 rename_i d i k l;unfold part;simp only[zd,Sn g k,zc];cases b:EV d with
 |true=>
  simp only[b,we,ze]at a;subst a;simp only[wk,zd,BK g l,zc];refine⟨_,(by rfl),?_⟩;refine⟨_,rfl,?_⟩;have:(c.extract off<|off+i.size).toList=(c.toList.drop off).take i.size:=by
   simp
  rw[this];exact(f.drop off).take i.size
 |false=>
  simp only[b,wg]at a;obtain⟨u,m,o⟩:=f.get a;simp_all
def Ld(T:Cg)(t:TypeId)(x:V)(f:Nat):Option V:=
 match T.und t,x with
 |some (.struct fs),.agg cs=>match fs[f]? with
  |some a=>MJ T a.type cs a.offset
  |none=>none
 |_,_=>none
theorem fT(b:T.Ok P){t:TypeId}{x:V}{x':Value}{f:Nat}(g:Ad p x x'){v:V}(a:Ld T t x f=some v):
  ∃v',(Instr.field t x' f).run P w=.ok v' w/\Ad p v v':=by
 unfold Ld at a;split at a
 case h_2=>cases a
 rename_i fs cs d;split at a
 case h_2=>cases a
 rename_i m l;obtain⟨c,rfl,k⟩:=g;unfold Instr.field;simp only[zd,AE b d,zc,l];exact Wx b k a
def K9(T:Cg)(t:TypeId)(x:V)(f:Nat):Option V:=
 match T.und t,x with
 |some (.struct fs),.ptr b off=>match fs[f]? with
  |some a=>match T.inf a.type with
   |some i=>if i.size=0 then none else some<|.ptr b<|off+a.offset
   |none=>none
  |none=>none
 |_,_=>none
theorem gS(c:T.Ok P){t:TypeId}{x:V}{x':Value}{f:Nat}(l:Ad p x x'){v:V}(a:K9 T t x f=some v):
  ∃v',(Instr.fieldAt t x' f).run P w=.ok v' w/\Ad p v v':=by
 unfold K9 at a;split at a
 case h_2=>cases a
 rename_i fs b off d;split at a
 case h_2=>cases a
 rename_i o m;split at a
 case h_2=>cases a
 rename_i i g;split at a
 case isTrue=>cases a
 rename_i k;cases a;obtain⟨r,n,hp,rfl⟩:=l;unfold Instr.fieldAt;simp only[zd,AE c d,zc,m];unfold yc fieldPlace;simp only[zf,zc,zd,BK c g,k,vf,Addr.NL];simp_all [Ad]
def FY(T:Cg)(t:TypeId)(x c:V):Option V:=
 match T.und t,x,c with
 |some (.slice e),.sl b off len _ _,.int _ i=>
  match T.inf e,i with
  |some a,.ofNat n=>bif z6 n len then some (.ptr b<|off+n*a.size)else none
  |_,_=>none
 |some (.array len e),.ptr b off,.int _ i=>
  match T.inf e,i with
  |some a,.ofNat n=>bif z6 n len then some (.ptr b<|off+n*a.size)else none
  |_,_=>none
 |_,_,_=>none
theorem HE(a b:Nat):z6 a b=decide (a<b):=by
 rw[Bool.eq_iff_iff];simp
theorem hH(s:T.Ok P){t:TypeId}{x A:V}{x' l:Value}(q:Ad p x x')(g:Ad p A l){v:V}(d:FY T t x A=some v):
  ∃v',(Instr.indexAt t x' l).run P w=.ok v' w/\Ad p v v':=by
 unfold FY at d;split at d
 case h_3=>cases d
 case h_1=>
  rename_i e b off len cap o k i u;split at d
  case h_2=>cases d
  rename_i B n y;rw[HE]at d;by_cases a:n<len
  ·simp only[a,decide_true,we,ze]at d;subst d;simp only[Ad]at q g;obtain⟨r,m,c,hp,rfl,_⟩:=q;subst g;unfold Instr.indexAt asIntOf;have f:(0:Int)<=(n:Int)/\(n:Int)<(len:Int):=⟨by simp,by simpa using a⟩;simp only[zd,zf,AE s u,zc,f,and_self,wk,BK s y,Addr.NL,zx,yb];exact⟨_,rfl,by simp only[Ad];exact⟨_,_,hp,rfl⟩⟩
  ·simp[a]at d
 case h_2=>
  rename_i len e b off k i u;split at d
  case h_2=>cases d
  rename_i B n y;rw[HE]at d;by_cases a:n<len
  ·simp only[a,decide_true,we,ze]at d;subst d;simp only[Ad]at q g;obtain⟨r,m,hp,rfl⟩:=q;subst g;unfold Instr.indexAt asIntOf yc;have f:(0:Int)<=(n:Int)/\(n:Int)<(len:Int):=⟨by simp,by simpa using a⟩;simp only[zd,zf,AE s u,zc,f,and_self,wk,BK s y,Addr.NL,zx,yb];exact⟨_,rfl,by simp only[Ad];exact⟨_,_,hp,rfl⟩⟩
  ·simp[a]at d
def Jq(T:Cg)(t:TypeId)(x a:V):Option V:=
 match T.und t,x,a with
 |some .string,.str s,.int _ (.ofNat n)=>match s[n]? with
  |some b=>some<|.int .u8 b.toNat
  |none=>none
 |some (.array len e),.agg cs,.int _ (.ofNat n)=>
  match T.inf e with
  |some c=>bif z6 n len then MJ T e cs (n*c.size)else none
  |_=>none
 |_,_,_=>none
theorem gY(o:T.Ok P){t:TypeId}{x r:V}{x' l:Value}(m:Ad p x x')(d:Ad p r l){v:V}(a:Jq T t x r=some v):
  ∃v',(Instr.index t x' l).run P w=.ok v' w/\Ad p v v':=by
 unfold Jq at a;split at a
 case h_3=>cases a
 case h_1=>
  rename_i s k n q;split at a
  case h_2=>cases a
  rename_i b u;cases a;simp only[Ad]at m d;subst m d;unfold Instr.index asIntOf;have e:(bytesOf s)[n]?=some b:=by
   have A:=(zm.1 u).1;have y:=(zm.1 u).2;rw[getElem?_pos (bytesOf s) n<|by rw[BV];exact A];congr 1
  simp only[zd,zf,AE o q,zc,zx,Int.natCast_nonneg,wk,yb,e];exact⟨_,rfl,by simp[Ad]⟩
 case h_2=>
  rename_i len e cs k n q;split at a
  case h_2=>cases a
  rename_i C y;rw[HE]at a;by_cases f:n<len
  ·simp only[f,decide_true,we]at a;simp only[Ad]at m d;obtain⟨c,rfl,B⟩:=m;subst d;unfold Instr.index asIntOf;have g:(0:Int)<=(n:Int)/\(n:Int)<(len:Int):=⟨by simp,by simpa using f⟩;simp only[zd,zf,AE o q,zc,g,and_self,wk,BK o y,zx,yb];exact Wx o B a
  ·simp[f]at a
def HS(x:V)(i:Nat):Option V:=
 match x with
 | .tup vs=>vs[i]?
 |_=>none
theorem Vn{x:V}{x':Value}{i:Nat}(d:Ad p x x'){v:V}(a:HS x i=some v):∃v',(Instr.extract x' i).run P w=.ok v' w/\Ad p v v':=by
 unfold HS at a;split at a
 case h_2=>cases a
 obtain⟨c,rfl,b⟩:=d;obtain⟨u,h1,h2⟩:=b.get a;simp_all [Instr.extract]
def C4(x:Option V)(y Iq:Nat):Option Nat:=
 match x with
 |none=>some Iq
 |some (.int _<|.ofNat n)=>bif zk n y then some n else none
 |_=>none
def NH(mx:Option V)(o:Nat):Nat:=match mx with|some _=>0|none=>o
def tF(a mx:Option V):Option Nat:=match a,mx with
 |none,some _=>none
 |_,_=>C4 a 0 0
def Pm(mx:Option V):Bool:=match mx with
 |some _=>true
 |none=>false
def En(T:Cg)(t:TypeId)(x:V)(lo a mx:Option V):Option V:=
 match T.und t,x with
 |some .string,.str s=>
  match mx,C4 a s.length s.length with
  |none,some h=>match C4 lo h 0 with
   |some l=>some<|.str<|(s.drop l).take<|h-l
   |none=>none
  |_,_=>none
 |some (.slice e),.sl b off len cap o=>
  match T.inf e,C4 mx cap cap with
  |some c,some m=>match (match a,mx with|none,some _=>none|_,_=>C4 a m len)with
   |some h=>match C4 lo h 0 with
    |some l=>
     let o':=NH mx o
     bif zg m l then(bif zg o' 0 then some (.sl b off (h-l) (m-l) 0)else some .esl)
     else bif zg o' 0||zg o' c.size then some (.sl b (off+l*c.size) (h-l) (m-l) o')else none
    |none=>none
   |none=>none
  |_,_=>none
 |some (.slice e),.nils=>
  match C4 mx 0 0,tF a mx,T.inf e with
  |some _,some h,some _=>match C4 lo h 0 with
   |some _=>some .nils
   |none=>none
  |_,_,_=>none
 |some (.slice e),.esl=>
  match C4 mx 0 0,tF a mx,T.inf e with
  |some _,some h,some _=>match C4 lo h 0 with
   |some _=>some<|bif Pm mx then .es0 else .esl
   |none=>none
  |_,_,_=>none
 |some (.slice e),.es0=>
  match C4 mx 0 0,tF a mx,T.inf e with
  |some _,some h,some _=>match C4 lo h 0 with
   |some _=>some .es0
   |none=>none
  |_,_,_=>none
 |some (.array n e),.ptr b off=>
  match T.inf e,mx,C4 a n n with
  |some c,none,some h=>match C4 lo h 0 with
   |some l=>bif zg n l then some (.sl b off (h-l) (n-l) 0)else some<|.sl b (off+l*c.size) (h-l) (n-l) 0
   |none=>none
  |_,_,_=>none
 |_,_=>none
def HM(p:Pl):Option V->Option Value->Prop
 |none,x=>x=none
 |some d,x=>∃v,x=some v/\Ad p d v
theorem Cj{x:Option V}{x':Option Value}{y z n y':Nat}(f:HM p x x')(b:C4 x y z=some n)(o:y<=y'):
  (x=none/\x'=none/\n=z)\/(∃d u,x=some d/\x'=some u/\n<=y/\∀a (P:Program) (w:World),(Instr.sliceBound u y' a).run P w=.ok n w):=by
 cases x with
 |none=>simp_all [HM,C4]
 |some d=>
  obtain⟨u,rfl,g⟩:=f;unfold C4 at b;split at b
  case h_1=>grind
  case h_3=>cases b
  rename_i k m e;cases e;by_cases c:m<=y
  ·simp only[Nat.ble_eq_true_of_le c,we,ze]at b;simp only[Ad]at g;unfold Instr.sliceBound asIntOf;have l:(0:Int)<=(m:Int)/\(m:Int)<=(y':Int):=ae;simp_all
  ·have:zk m y=false:=by simp_all [Bool.eq_false_iff]
   grind
theorem I1{lo q mx:Option V}{r g o:Option Value}(f:HM p lo r)(a:HM p q g)(k:HM p mx o){m h l:Nat}(y:C4 mx 0 0=some m)(C:tF q mx=some h)(v:C4 lo h 0=some l)(c:Nat):
  (zt true 0 c r g o).run P w=.ok (0,0,bif Pm mx then 0 else c) w:=by
 unfold tF at C;have h0:h=0:=by
  have:C4 q 0 0=some h:=by
   grind
  rcases Cj a this (zh _)with⟨_,_,rfl⟩|⟨_,_,_,_,h,_⟩<;>omega
 subst h0;unfold zt;cases mx with
 |none=>
  have b:C4 q 0 0=some 0:=ah
  simp only[HM]at k;rcases Cj a b (Nat.zero_le c)with⟨_,rfl,_⟩|⟨_,u,_,rfl,_,A⟩<;>rcases Cj f v (zh _)with⟨_,rfl,_⟩|⟨_,u2,_,rfl,_,s⟩
  all_goals simp_all [Pm]
 |some d=>
  cases q with
  |none=>grind
  |some x=>
   have b:C4 (some x) 0 0=some 0:=ae
   rcases Cj k y (Nat.zero_le c)with⟨h,_,_⟩|⟨_,E,_,rfl,D,B⟩
   ·cases h
   ·obtain rfl:m=0:=ae
    rcases Cj a b ae with⟨h,_,_⟩|⟨_,u,_,rfl,_,A⟩
    ·cases h
    ·rcases Cj f v ae with⟨_,rfl,_⟩|⟨_,u2,_,rfl,_,s⟩
     all_goals simp_all [Pm]
theorem eS(F:T.Ok P){t:TypeId}{x:V}{lo hi mx:Option V}{x':Value}{I K N:Option Value}(L:Ad p x x')(y:HM p lo I)(q:HM p hi K)(D:HM p mx N)
  {v:V} (f:En T t x lo hi mx=some v):∃v',(zq t x' I K N).run P w=.ok v' w/\Ad p v v':=by
 unfold En at f;split at f
 case h_7=>cases f
 case h_1=>
  rename_i s E;split at f
  case h_2=>cases f
  rename_i A g;split at f
  case h_2=>cases f
  rename_i l G;cases f;simp only[HM]at D;subst D;simp only[Ad]at L;subst L;refine⟨.string<|bytesOf<|(s.drop l).take<|A-l,?_,by rfl⟩;unfold zq;simp only[zd,AE F E,zc];unfold yh;simp only[zd,AE F E,zc,Option.isSome_none,zw,vf,BV];unfold zt;have e:(bytesOf s).extract l A=bytesOf ((s.drop l).take<|A-l):=by
   apply ByteArray.ext;simp_all [bytesOf]
  rcases Cj q g (zh _)with⟨_,rfl,rfl⟩|⟨_,u,_,rfl,_,hu⟩<;>rcases Cj y G (zh _)with⟨_,rfl,rfl⟩|⟨_,u2,_,rfl,_,X⟩
  all_goals simp_all
 case h_2=>
  rename_i e b off len cap o E;split at f
  case h_2=>cases f
  rename_i Z m Y hm;split at f
  case h_2=>cases f
  rename_i A g;split at f
  case h_2=>cases f
  rename_i l G;simp only[Ad]at L;obtain⟨r,n,c,hp,rfl,hlen,O,ho1,ho2⟩:=L;obtain⟨M,gm2,hhm,R,hbounds⟩:∃M,((mx=none/\M=c/\m=cap)\/(mx≠none/\M=m))/\A<=m/\l<=A/\(zt true len c I K N).run P w=.ok (l,A,M) w:=by
   have R:l<=A:=by
    rcases Cj y G (zh _)with⟨_,_,rfl⟩|⟨_,_,_,_,h,_⟩
    ·omega
    omega
   rcases Cj D hm O with⟨rfl,rfl,rfl⟩|⟨dm,um,rfl,rfl,hm1,hum⟩
   ·have C:C4 hi m len=some A:=ah
    refine⟨c,(by simp),?_,R,?_⟩
    ·rcases Cj q C O with⟨_,_,rfl⟩|⟨_,_,_,_,h,_⟩
     ·omega
     omega
    ·unfold zt;rcases Cj q C O with⟨_,rfl,rfl⟩|⟨_,u,_,rfl,_,hu⟩<;>rcases Cj y G (zh _)with⟨_,rfl,rfl⟩|⟨_,u2,_,rfl,_,X⟩
     all_goals simp_all
   ·cases hi with
    |none=>grind
    |some dh=>
     have C:C4 (some dh) m len=some A:=ae
     refine⟨m,(by simp),?_,R,?_⟩
     ·rcases Cj q C ae with⟨h,_⟩|⟨_,_,_,_,h,_⟩
      ·cases h
      omega
     ·unfold zt;rcases Cj q C (zh _)with⟨h,_,_⟩|⟨_,u,_,rfl,_,hu⟩
      ·cases h
      ·rcases Cj y G (zh _)with⟨_,rfl,rfl⟩|⟨_,u2,_,rfl,_,X⟩
       all_goals simp_all
  have gm1:m<=M:=ae
  have B:(zq t (.slice (some ⟨r,off,none⟩) len c) I K N).run P w=.ok (.slice (if M=l then some ⟨r,off,none⟩else some ⟨r,off+l*Z.size,none⟩) (A-l)<|M-l) w:=by
   unfold zq;simp only[zd,AE F E,zc];unfold yh;simp only[zd,AE F E,zc,hbounds,BK F Y,zf];simp
  refine⟨_,B,?_⟩;simp only[BA]at f;by_cases J:m=l
  ·simp only[J,decide_true,we]at f;by_cases S:NH mx o=0
   ·simp only[S,decide_true,we,ze]at f;subst f;have hm':M=l:=by
     grind [NH]
    simp_all [Ad]
   ·simp only[S,decide_false,wg,ze]at f;subst f;have U:A-l=0:=ae
    simp only[U,Ad];grind
  ·simp only[J,decide_false,wg]at f;by_cases S:NH mx o=0\/NH mx o=Z.size
   ·have W:(decide (NH mx o=0)||decide (NH mx o=Z.size))=true:=ah
    simp only[W,we,ze]at f;subst f;have hne:M≠l:=ae
    simp only[hne,vf,Ad];refine⟨r,n,_,hp,rfl,by omega,by omega,fun k=>?_,fun k=>?_⟩
    ·grind [NH]
    ·rcases gm2 with⟨k1,k2,k3⟩|⟨k1,k2⟩
     ·subst k1;simp only[NH]at k S ⊢;rcases S with S|S
      ·omega
      ·have:=ho2 k;subst k2;rw[<-S];have e:off+l*o+(M-l)*o=off+M*o:=by
        rw[Nat.sub_mul];have:l*o<=M*o:=zy _ ae;omega
       omega
     ·cases mx with
      |none=>grind
      |some d=>simp[NH]at k
   grind
 case h_3=>
  rename_i e E;split at f
  case h_2=>cases f
  rename_i mm A tz Q g U;split at f
  case h_2=>cases f
  rename_i l G;cases f;simp only[Ad]at L;subst L;refine⟨.slice none 0 0,?_,by rfl⟩;unfold zq;simp only[zd,AE F E,zc];unfold yh;simp only[zd,AE F E,zc,I1 (P:=P) (w:=w) y q D Q g G 0];cases mx<;>simp[Pm,BK F U]
 case h_4=>
  rename_i e E;split at f
  case h_2=>cases f
  rename_i mm A tz Q g U;split at f
  case h_2=>cases f
  rename_i l G;simp only[Ad]at L;obtain⟨a,c,rfl⟩:=L;have B:∃a',(zq t (.slice (some a) 0 c) I K N).run P w=.ok (.slice (some a') 0<|bif Pm mx then 0 else c) w:=by
   unfold zq;simp only[zd,AE F E,zc];unfold yh;simp only[zd,AE F E,zc,I1 (P:=P) (w:=w) y q D Q g G c];simp only[BK F U,zc,zf,Nat.sub_zero,Nat.sub_self];split
   ·simp
   simp
  obtain⟨a',ha'⟩:=B;refine⟨_,ha',?_⟩;cases f;cases mx with
  |none=>simp_all [Pm,Ad]
  |some d=>simp_all [Pm,Ad]
 case h_5=>
  rename_i e E;split at f
  case h_2=>cases f
  rename_i mm A tz Q g U;split at f
  case h_2=>cases f
  rename_i l G;cases f;simp only[Ad]at L;obtain⟨a,rfl⟩:=L;refine⟨.slice (some a) 0 0,?_,by simp_all [Ad]⟩;unfold zq;simp only[zd,AE F E,zc];unfold yh;simp only[zd,AE F E,zc,I1 (P:=P) (w:=w) y q D Q g G 0];cases mx<;>simp[Pm,BK F U]
 case h_6=>
  rename_i nn e b off E;split at f
  case h_2=>cases f
  rename_i Z A Y g;split at f
  case h_2=>cases f
  rename_i l G;simp only[HM]at D;subst D;simp only[Ad]at L;obtain⟨r,n,hp,rfl⟩:=L;have R:l<=A:=by rcases Cj y G (zh _)with⟨_,_,rfl⟩|⟨_,_,_,_,h,_⟩<;>omega
  have hhn:A<=nn:=by rcases Cj q g (zh _)with⟨_,_,rfl⟩|⟨_,_,_,_,h,_⟩<;>omega
  have B:(zq t (.pointer<|some ⟨r,off,none⟩) I K none).run P w=.ok (.slice (some<|if nn=l then⟨r,off,none⟩else⟨r,off+l*Z.size,none⟩) (A-l)<|nn-l) w:=by
   unfold zq;simp only[zd,AE F E,zc];unfold yc zt;rcases Cj q g (zh _)with⟨_,rfl,rfl⟩|⟨_,u,_,rfl,_,hu⟩<;>rcases Cj y G (zh _)with⟨_,rfl,rfl⟩|⟨_,u2,_,rfl,_,X⟩
   all_goals simp only[Option.isSome_none,zw,vf,zd,zf,zc,BK F Y,Addr.NL, *]
  refine⟨_,B,?_⟩;simp only[BA]at f;by_cases J:nn=l
  ·simp only[J,decide_true,we,ze]at f;subst f;simp_all [Ad]
  ·simp only[J,decide_false,wg,ze]at f;subst f;simp only[J,vf,Ad];grind
def i64(n:Nat):V:=.int .i64<|.ofNat n
def GK(T:Cg)(h:H)(ts:Array TypeId)(args:List V):Option V:=
 match ts[0]?,args with
 |some t,[x]=>
  match T.und t,x with
  |some .string,.str s=>some<|i64 s.length
  |some (.array n _),_=>some<|i64 n
  |some (.slice _),.sl _ _ len _ _=>some<|i64 len
  |some (.slice _),.nils=>some<|i64 0
  |some (.slice _),.esl=>some<|i64 0
  |some (.slice _),.es0=>some<|i64 0
  |some (.map _ _),.nilm=>some<|i64 0
  |some (.map _ _),.map b=>match h.get b with
   |some (.map es _)=>some<|i64 es.length
   |_=>none
  |_,_=>none
 |_,_=>none
theorem Ax.one{ds:V}{l:List Value}(a:Ax p [ds] l):∃v,l=[v]/\Ad p ds v:=by
 match l,a with
 |[v],h=>simp_all
 |[],h=>simp at h
 |_::_::_,h=>simp at h
theorem Ax.two{d e:V}{l:List Value}(a:Ax p [d,e] l):∃v u,l=[v,u]/\Ad p d v/\Ad p e u:=by
 match l,a with
 |[v,u],h=>exact⟨v,u,rfl,by simp_all⟩
 |[],h=>simp at h
 |[_],h=>simp at h
 |_::_::_::_,h=>simp at h
theorem D2.length{es:List (V×V×Nat)}{l:List MapEntry}(h:D2 p es l):es.length=l.length:=by
 induction h with
 |nil=>rfl
 |cons _ _ _ _ a=>simp[a]
theorem zG(A:T.Ok P)(hr:R p h w){ts:Array TypeId}{t:TypeId}{args:List V}{args':Array Value}(y:Ax p args args'.toList){v:V}(a:GK T h ts args=some v):
  ∃v',(Builtin.len_ ts t args').run P w=.ok v' w/\Ad p v v':=by
 unfold GK at a;split at a
 case h_2=>cases a
 rename_i t0 x s;obtain⟨x',c,b⟩:=y.one;have d:args'[0]?=some x':=by rw[<-yd,c];rfl
 unfold Builtin.len_;simp only[s,d];split at a
 case h_9=>cases a
 all_goals (rename_i u;simp only[zd,AE A u,zc];try simp only[Ad]at b)
 case h_1=>cases a;simp_all [i64,Ad,goInt,BV]
 case h_2=>cases a;simp_all [i64,Ad,goInt]
 case h_3=>obtain⟨_,_,_,_,rfl,_⟩:=b;cases a;simp_all [i64,Ad,goInt]
 case h_4=>cases a;simp_all [i64,Ad,goInt]
 case h_5=>obtain⟨_,_,rfl⟩:=b;cases a;simp_all [i64,Ad,goInt]
 case h_6=>obtain⟨_,rfl⟩:=b;cases a;simp_all [i64,Ad,goInt]
 case h_7=>cases a;simp_all [i64,Ad,goInt]
 case h_8=>
  obtain⟨r,n,hp,rfl⟩:=b;split at a
  case h_2=>cases a
  rename_i es B g;cases a;obtain⟨C,n',o,f,k,l,m,q⟩:=hr.obj _ _ g;rw[hp]at f;cases f;subst m;refine⟨goInt l.size,?_,?_⟩
  ·simp[getObj,Sem.run,k]
  ·have:=q.length;simp only[i64,Ad,goInt];grind
def rG(a b:V):Option V:=
 match a,b with
 | .int k x,.int _ y=>some<|.int k<|if y>x then y else x
 |_,_=>none
def rB(a b:V):Option V:=
 match a,b with
 | .int k x,.int _ y=>some<|.int k<|if y<x then y else x
 |_,_=>none
def dfold(f:V->V->Option V):V->List V->Option V
 |x,[]=>some x
 |x,y::a=>match f x y with
  |some z=>dfold f z a
  |none=>none
theorem Pr{f:V->V->Option V}{g:Value->Value->Sem Value}(o:∀ {a b c:V} {r b':Value},Ad p a r->Ad p b b'->f a b=some c->∃s,(g r b').run P w=.ok s w/\Ad p c s):
  ∀(m:List V) (k:List Value) (x:V) (x':Value),Ad p x x'->Ax p m k->∀ {v:V},dfold f x m=some v->∃v',(k.foldlM g x').run P w=.ok v' w/\Ad p v v'
 |[],k,x,x',q,d,v,l=>by
  cases l;simp_all
 |y::m,[],_,_,_,d,_,_=>by simp at d
 |y::m,y'::k,x,x',q,d,v,l=>by
  simp only[Bu]at d;unfold dfold at l;split at l
  case h_2=>cases l
  rename_i z A;obtain⟨u,C,B⟩:=o q d.1 A;obtain⟨v',h3,h4⟩:=Pr o m k z u B d.2 l;simp_all
def Hf(f:V->V->Option V)(args:List V):Option V:=
 match args with
 |[]=>none
 |x::a=>dfold f x a
theorem vX{ts:Array TypeId}{t:TypeId}{args:List V}{args':Array Value}(g:Ax p args args'.toList){v:V}(d:Hf rG args=some v):
  ∃v',(Builtin.max_ ts t args').run P w=.ok v' w/\Ad p v v':=by
 unfold Hf at d;split at d
 case h_1=>cases d
 rename_i x m;unfold Builtin.max_;cases o:args'.toList with
 |nil=>simp_all
 |cons x' k=>
  rw[o]at g;simp only[Bu]at g;refine Pr (fun {a b c r b'} l q f=>?_) m k x x' g.1 g.2 d;unfold rG at f;split at f
  case h_2=>cases f
  subst l q;cases f;exact⟨_,rfl,by rfl⟩
theorem xN{ts:Array TypeId}{t:TypeId}{args:List V}{args':Array Value}(g:Ax p args args'.toList){v:V}(d:Hf rB args=some v):
  ∃v',(Builtin.min_ ts t args').run P w=.ok v' w/\Ad p v v':=by
 unfold Hf at d;split at d
 case h_1=>cases d
 rename_i x m;unfold Builtin.min_;cases o:args'.toList with
 |nil=>simp_all
 |cons x' k=>
  rw[o]at g;simp only[Bu]at g;refine Pr (fun {a b c r b'} l q f=>?_) m k x x' g.1 g.2 d;unfold rB at f;split at f
  case h_2=>cases f
  subst l q;cases f;exact⟨_,rfl,by rfl⟩
def Je(place:Nat->Option (Nat×Nat))(cells:List V):List (Nat×V)->Option (List V)
 |[]=>some cells
 |(i,v)::a=>
  match place i with
  |none=>none
  |some (off,size)=>bif zg v.cells.length size&&zk (off+size) cells.length then Je place (Hj cells off v.cells) a else none
theorem Vk:∀(xs:List V) (vs:List Value) (cs:List V) (c:Array Value) (off:Nat),Ax p xs vs->Ax p cs c.toList->
  ∀k,Ax p (Hj cs (off+k) xs) ((vs.zipIdx k).foldl (fun cs (c,j)=>cs.setIfInBounds (off+j) c) c).toList
 |[],vs,cs,c,off,a,b,k=>by simp_all [Hj]
 |x::xs,[],_,_,_,a,_,_=>by simp at a
 |x::xs,v::vs,cs,c,off,a,b,k=>by
  simp only[Bu]at a;simp only[Hj,List.zipIdx_cons,List.foldl_cons];have:=Vk xs vs (cs.set (off+k) x) (c.setIfInBounds (off+k) v) off a.2 (by simpa using b.set (off+k) a.1)<|k+1;omega
inductive V7 (p:Pl):List (Nat×V)->List (Nat×Value)->Prop
 |nil:V7 p [] []
 |cons {i:Nat} {v:V} {v':Value} {l:List (Nat×V)} {l':List (Nat×Value)}:Ad p v v'->V7 p l l'->V7 p ((i,v)::l) ((i,v')::l')
theorem Mu{place:Nat->Option (Nat×Nat)}:∀ {l:List (Nat×V)} {l':List (Nat×Value)},V7 p l l'->∀ {cs:List V} {c:Array Value} {out:List V},Ax p cs c.toList->Je place cs l=some out->
  ∃o,Instr.fill place c l'=some o/\Ax p out o.toList:=by
 intro l l' g;induction g with
 |nil=>intro cs c out d b;cases b;exact⟨c,rfl,d⟩
 |@cons i v v' l l' f g r=>
  intro cs c out d b;unfold Je at b;split at b
  case h_1=>cases b
  rename_i off size m;cases a:(zg v.cells.length size&&zk (off+size) cs.length)with
  |false=>grind
  |true=>
   simp only[zn,z7,BA,w5]at a;have q:=f.cells.length;have k:=d.length;unfold Instr.fill;have:=Vk (p:=p) v.cells v'.cells.toList cs c off f.cells d 0;grind [Array.toList_zipIdx]
def Lf(T:Cg)(t:TypeId)(a:List (Nat×V)):Option V:=
 match T.inf t,T.und t with
 |some i,some (.struct fs)=>
  match fs.toList.mapM (fun f=>(T.inf f.type).map fun j=>(f.offset,j.size))with
  |some pl=>(Je (fun i=>pl[i]?) i.zero a).map .agg
  |none=>none
 |some i,some (.array _ e)=>match T.inf e with
  |some j=>(Je (fun i=>some (i*j.size,j.size)) i.zero a).map .agg
  |none=>none
 |_,_=>none
theorem run_places(c:T.Ok P):∀ {fs:List Field} {pl:List (Nat×Nat)},fs.mapM (fun f=>(T.inf f.type).map fun j=>(f.offset,j.size))=some pl->
  ∀w,(fs.mapM<|fun f=>(do pure (f.offset, <-sizeOf f.type):Sem (Nat×Nat))).run P w=.ok pl w
 |[],pl,h,w=>by simp_all
 |f::fs,pl,h,w=>by
  cases a:T.inf f.type with
  |none=>grind
  |some j=>
   cases b:fs.mapM (fun f=>(T.inf f.type).map fun j=>(f.offset,j.size))with
   |none=>grind
   |some d=>
    simp[a,b]at h;subst h;rw[List.mapM_cons];simp only[zd,BK c a,zc,zf,run_places c b]
theorem eF(d:T.Ok P){t:TypeId}{b:List (Nat×V)}{a:Array (Nat×Value)}(hp:V7 p b a.toList){v:V}(c:Lf T t b=some v):
  ∃v',(Instr.build t a).run P w=.ok v' w/\Ad p v v':=by
 unfold Lf at c;split at c
 case h_3=>cases c
 case h_1=>
  rename_i i fs l k;split at c
  case h_2=>cases c
  rename_i pl g;rw[zi]at c;obtain⟨out,r,rfl⟩:=c;obtain⟨z,hz,hzr⟩:=EP d l;have q:(fs.mapM<|fun f=>(do pure (f.offset, <-sizeOf f.type):Sem (Nat×Nat))).run P w=.ok pl.toArray w:=by
   rw[Array.mapM_eq_mapM_toList];simp only[Sem.run_map,run_places d g,zc]
  obtain⟨o,m,u⟩:=Mu (p:=p) (place:=fun i=>pl.toArray[i]?) hp (hzr p) (out:=out) ah;refine⟨.agg o,?_,by simp_all [Ad]⟩;unfold Instr.build;simp only[zd,hz,zc,AE d k];simp_all
 case h_2=>
  rename_i i n e l k;split at c
  case h_2=>cases c
  rename_i j s;rw[zi]at c;obtain⟨out,r,rfl⟩:=c;obtain⟨z,hz,hzr⟩:=EP d l;obtain⟨o,m,u⟩:=Mu (p:=p) (place:=fun i=>some (i*j.size,j.size)) hp (hzr p) r;refine⟨.agg o,?_,by simp_all [Ad]⟩;unfold Instr.build;simp only[zd,hz,zc,AE d k,BK d s,m,zf]
def F6(z:List V)(n:Nat):List V:=(List.range n).map fun i=>z.getD (i % z.length)<|.tup []
theorem J5{z:List V}{c:Array Value}(b:Ax p z c.toList)(a:0<z.length)(n:Nat):Ax p (F6 z n) ((Array.range n).map<|fun i=>c[i % c.size]!).toList:=by
 have o:=b.length;apply Ax.mk (by simp[F6]);intro i d v g m;have f:i<n:=ah
 simp only[F6,List.getElem?_map,List.getElem?_range f,Option.map_some,ze]at g;have k:i % z.length<z.length:=Nat.mod_lt _ a;obtain⟨u,l,q⟩:=b.get (i:=i % z.length) (d:=z[i % z.length]) (by simp[k]);grind
def Fj(T:Cg)(h:H)(t:TypeId)(len:Nat)(a:List (Nat×V)):Option (V×H):=
 match T.und t with
 |some (.slice e)=>match T.inf e with
  |some i=>
   bif zk (len*i.size) 16777216&&z6 0 (i.zero.length)&&zg i.zero.length i.size then
    match Je (fun k=>some (k*i.size,i.size)) (F6 i.zero<|len*i.size) a with
    |some cs=>some (.sl h.nx 0 len len 0,Ja h e cs)
    |none=>none
   else none
  |none=>none
 |_=>none
theorem Y8(l:T.Ok P)(hr:R p h w){t:TypeId}{len:Nat}{c:List (Nat×V)}{b:Array (Nat×Value)}(hp:V7 p c b.toList){v:V}{h':H}
  (d:Fj T h t len c=some (v,h')):∃v' p' w',(Instr.buildSlice t len b).run P w=.ok v' w'/\Ad p' v v'/\Ext p h w p' h' w':=by
 unfold Fj at d;split at d
 case h_2=>cases d
 rename_i e r;split at d
 case h_2=>cases d
 rename_i i m;cases a:(zk (len*i.size) 16777216&&z6 0 (i.zero.length)&&zg i.zero.length i.size)with
 |false=>grind
 |true=>
  simp only[a,we]at d;simp only[zn,z7,Nat.blt_eq,BA,w5]at a;obtain⟨⟨s,q⟩,u⟩:=a;split at d
  case h_2=>cases d
  rename_i cs g;cases d;obtain⟨z,x,f⟩:=EP l m;obtain⟨o,h1,h2⟩:=Mu (p:=p) (place:=fun k=>some (k*i.size,i.size)) hp (J5 (f p) q<|len*i.size) g;obtain⟨n,he,hpn,hn⟩:=OW hr e h2;refine⟨.slice (some ⟨w.heap.size,0,none⟩) len len,_,_,?_,?_,he⟩
  ·unfold Instr.buildSlice;simp only[zd,AE l r,zc,BK l m];by_cases h0:len*i.size=0
   ·grind [zd,zf,zc,CY]
   simp_all [CY]
  simp_all [Ad]
def Qx(T:Cg)(h:H)(t:TypeId)(len cap:V):Option (V×H):=
 match T.und t,len,cap with
 |some (.slice e),.int _<|.ofNat l,.int _ (.ofNat c)=>
  match T.inf e with
  |some i=>
   bif zk l c&&z6 c 9223372036854775808&&zk (i.bytes*c) 281474976710656&&z6 0 i.zero.length&&zg i.zero.length i.size then
    some (.sl h.nx 0 l c 0,Ja h e<|F6 i.zero<|c*i.size)
   else none
  |none=>none
 |_,_,_=>none
theorem wrap_small(c:Nat)(h:c<9223372036854775808):IntKind.i64.wrap (c:Int)=c:=IntWalk.i64_in _ ae
theorem mQ(g:T.Ok P)(hr:R p h w){t:TypeId}{len cap:V}{d b:Value}(r:Ad p len d)(x:Ad p cap b){v:V}{h':H}(f:Qx T h t len cap=some (v,h')):
  ∃v' p' w',(Instr.makeSlice t d b).run P w=.ok v' w'/\Ad p' v v'/\Ext p h w p' h' w':=by
 unfold Qx at f;split at f
 case h_2=>cases f
 rename_i e k l y c s;split at f
 case h_2=>cases f
 rename_i i m;cases a:(zk l c&&z6 c 9223372036854775808&&zk (i.bytes*c) 281474976710656&&z6 0 i.zero.length&&zg i.zero.length i.size)with
 |false=>grind
 |true=>
  simp only[a,we,ze,ya]at f;obtain⟨rfl,rfl⟩:=f;simp only[zn,z7,Nat.blt_eq,BA,w5]at a;obtain⟨⟨⟨⟨c1,c2⟩,c3⟩,c4⟩,c5⟩:=a;subst r x;obtain⟨z,hz,hzr⟩:=EP g m;obtain⟨j,hj,hjb,_⟩:=PE g m;obtain⟨n,he,hpn,hn⟩:=OW hr e<|J5 (hzr p) c4<|c*i.size;refine⟨.slice (some ⟨w.heap.size,0,none⟩) l c,_,_,?_,?_,he⟩
  ·unfold Instr.makeSlice asInt asIntOf;simp only[zd,zf,AE g s,zc,hj,zx,wrap_small c c2,wrap_small l ae,hjb];have o:(i.bytes:Int)*(c:Int)=((i.bytes*c:Nat):Int):=(by rfl);rw[o];generalize i.bytes*c=q at c3 o ⊢;have u:¬((decide ((c:Int)<0)||decide ((q:Int)>2^48))||decide ((l:Int)<0)||decide ((l:Int)>(c:Int)))=true:=by
    grind
   rw[wc u];simp only[zd,zc,run_askRoom,BK g m,yb];by_cases h0:c*i.size=0
   ·grind [zd,zf,zc,CY]
   simp_all [CY]
  simp_all [Ad]
def src(h:H)(size:Nat)(x:V)(n:Nat):Option (List V):=
 match x with
 | .nils=>some []
 | .esl=>bif zg n 0 then some []else none
 | .es0=>bif zg n 0 then some []else none
 | .sl b off _ _ _=>rd h b off<|n*size
 | .str s=>some<|(s.take n).map fun c=>.int .u8 c.toNat
 |_=>none
def Qu:V->Option Nat
 | .nils=>some 0
 | .esl=>some 0
 | .es0=>some 0
 | .sl _ _ len _ _=>some len
 | .str s=>some s.length
 |_=>none
theorem QM{x:V}{x':Value}(b:Ad p x x'){n:Nat}(a:Qu x=some n):(ye x').run P w=.ok n w:=by
 unfold Qu at a;split at a
 case h_1=>subst b;cases a;rfl
 case h_2=>obtain⟨_,_,rfl⟩:=b;cases a;rfl
 case h_3=>obtain⟨_,rfl⟩:=b;cases a;rfl
 case h_4=>obtain⟨_,_,_,_,rfl,_⟩:=b;cases a;rfl
 case h_5=>simp_all [Ad,ye,BV]
 grind
theorem Ms(hr:R p h w){size n:Nat}{x:V}{x':Value}(d:Ad p x x'){cs:List V}(b:src h size x n=some cs):
  ∃vs:List Value,(zl size n x').run P w=.ok vs.toArray w/\Ax p cs vs:=by
 unfold src at b;split at b
 case h_6=>cases b
 case h_1=>subst d;cases b;exact⟨[],rfl,by simp⟩
 case h_2=>
  obtain⟨a,c,rfl⟩:=d;rw[BA]at b;by_cases e:n=0
  ·simp_all [zl,loadCells,loadCellsFrom]
  grind
 case h_3=>
  obtain⟨a,rfl⟩:=d;rw[BA]at b;by_cases e:n=0
  ·simp_all [zl,loadCells,loadCellsFrom]
  grind
 case h_4=>
  obtain⟨r,m,c,hp,rfl,_⟩:=d;obtain⟨r',m',vs,h1,h2,h3,_⟩:=run_loadCells (P:=P) hr b;rw[hp]at h1;cases h1;exact⟨vs,h2,h3⟩
 case h_5=>
  rename_i s;simp only[Ad]at d;refine⟨(s.take n).map fun c=>.int .u8 c.toNat,?_,?_⟩
  ·simp_all [zl,bytesOf]
  grind [Ax.mk,Ad]
theorem Yi(a c:Nat)(h:c<a):2*zz a c<=3*a+2000:=by
 unfold zz;grind [Builtin.growBy]
def isInt:TypeDesc->Bool
 | .int _=>true
 |_=>false
def Rl:V->Bool
 | .str _=>false
 |_=>true
def Ha(T:Cg)(h:H)(ts:Array TypeId)(args:List V):Option (V×H):=
 match ts[0]?,ts[1]?,args with
 |some t,some tx,[s,x]=>
  match T.und t,T.und tx,Qu x with
  |some (.slice e),some dx,some n=>
   match T.inf e,isInt dx with
   |some i,false=>
    bif z6 0 i.bytes&&z6 0 i.size&&zg i.zero.length i.size&&(zg i.size 1||Rl x)then
     match src h i.size x n with
     |some new=>
      match s with
      | .nils=>
       bif zg n 0 then some (.nils,h)
       else bif zk ((3*n+2000)*i.bytes) 562949953421312 then some (.sl h.nx 0 n n i.size,Ja h e new)else none
      | .es0=>
       bif zg n 0 then some (.es0,h)
       else bif zk ((3*n+2000)*i.bytes) 562949953421312 then some (.sl h.nx 0 n n i.size,Ja h e new)else none
      | .esl=>bif zg n 0 then some (.esl,h)else none
      | .sl b off len cap o=>
       bif zk (len+n) cap then(wr h b (off+len*i.size) new).map fun h'=>(.sl b off (len+n) cap o,h')
       else bif zk ((3*(len+n)+2000)*i.bytes) 562949953421312 then
        match src h i.size s len with
        |some old=>
         bif zg o 0 then some (.sl h.nx 0 (len+n) (len+n) i.size,Ja h e<|old++new)
         else
          match h.get b with
          |some (.cells _ te fz)=>
           bif zg off 0&&zg o i.size&&zg te e&&zk fz.2 fz.1&&new.all V.one then some (.sl h.nx 0 (len+n) (len+n) i.size,(h.kill b).push<|.cells (old++new) e (0,0))
           else none
          |_=>none
        |none=>none
       else none
      |_=>none
     |none=>none
    else none
   |_,_=>none
  |_,_,_=>none
 |_,_,_=>none
theorem SQ{old new:List V}{vo vn:List Value}(b:Ax p old vo)(c:Ax p new vn)(a:Array Value):
  Ax p (old++new) ((vo.toArray++vn.toArray++a).toList.take (old++new).length):=by
 have l1:=b.length;have d:=c.length;have:((vo.toArray++vn.toArray++a).toList.take (old++new).length)=vo++vn:=by
  grind
 rw[this];exact b.append c
section
variable {ts:Array TypeId}{t t0 tx e:TypeId}{dx:TypeDesc}{i:TI}{n:Nat}{x' z:Value}{j:TypeInfo}
theorem Q4(o:T.Ok P)(g:ts[0]?=some t0)(f:ts[1]?=some tx)(q:T.und t0=some (.slice e))(k:T.und tx=some dx)(l:isInt dx=false)
  (r:T.inf e=some i) (s:∀w,(ye x').run P w=.ok n w) (base:Option Addr) (d c:Nat) (m:d+n<=c):
  (zu ts t #[.slice base d c,x']).run P w=((zl i.size n x').run P w).andThen fun new w'=>((match base with|some a=>storeCells (a.add<|d*i.size) new.toList|none=>pure ():Sem Unit).run P w').andThen fun _ w'=>.ok (.slice base (d+n) c) w':=by
 unfold zu;cases dx<;>first|(cases l;done)|skip
 all_goals
  simp only[g,f,List.getElem?_toArray,ym,yn,zd,AE o q,AE o k,BK o r,zc,zf,zw,vf,s,m,wk,Bool.not_false];cases base with
  |none=>rfl
  |some b=>simp only[zd,zf]
theorem Sd(f:T.Ok P)(l:ts[0]?=some t0)(k:ts[1]?=some tx)(C:T.und t0=some (.slice e))(o:T.und tx=some dx)(r:isInt dx=false)
  (u:T.inf e=some i) (v:0<i.bytes) (D:∀w,(zeroValue e).run P w=.ok z w) (F:∀w,(ye x').run P w=.ok n w) (base:Option Addr) (a c:Nat) (g:c<a+n)
  (d:(3*(a+n)+2000)*i.bytes<=562949953421312):
  ∃m,a+n<=m/\(zu ts t #[.slice base a c,x']).run P w=((zl i.size a<|.slice base a c).run P { w with drawn:=w.drawn+1 }).andThen fun old w'=>
   ((zl i.size n x').run P w').andThen fun new w'=>
    .ok (.slice (some ⟨w'.heap.size,0,none⟩) (a+n) m) { w' with heap:=w'.heap.push (.cells (old++new++zo z.cells (m-(a+n))) e) }:=by
 obtain⟨j,B,s,x⟩:=PE f u;have q:=Yi (a+n) c g;have b:2*zz (a+n) c*i.bytes<=562949953421312:=yt (zy _ q) d;rw[Nat.mul_assoc]at b;have G:zz (a+n) c*i.bytes<=281474976710656:=ae
 refine⟨(Question.appendCap (a+n) c e).cut<|w.tape w.drawn<|.appendCap (a+n) c e,by simp[Question.cut],?_⟩;unfold zu;have y:¬(a+n<=c):=ae
 have E:¬(zz (a+n) c*i.bytes>2^48):=ae
 have A:¬(i.bytes=0):=ae
 cases dx<;>first|(cases r;done)|skip
 all_goals
  simp only[l,k,List.getElem?_toArray,ym,yn,zd,AE f C,AE f o,BK f u,zc,zf,zw,vf,F,Bool.not_false,wk,
   y,B,s,A,or_self,and_false,E,run_choose,Question.forced,run_askRoom,D,CY]
end
theorem JE(z:Array Value)(n:Nat):(zo z n).size=n*z.size:=by simp[zo]
theorem P6{size n:Nat}{x:V}{cs:List V}(b:Qu x=some n)(c:size=1\/∀s,x≠ .str s)(a:src h size x n=some cs):cs.length=n*size:=by
 unfold src at a;split at a
 case h_6=>cases a
 case h_1=>cases a;cases b;simp
 case h_2=>
  cases b;grind
 case h_3=>
  cases b;grind
 case h_4=>
  rw[aJ]at a;grind [rd0]
 case h_5=>
  cases b;grind
theorem Zg(hT:T.Ok P)(hr:R p h w){ts:Array TypeId}{t:TypeId}{args:List V}{args':Array Value}(ha:Ax p args args'.toList){v:V}{h':H}(a:Ha T h ts args=some (v,h')):
  ∃v' p' w',(zu ts t args').run P w=.ok v' w'/\Ad p' v v'/\Ext p h w p' h' w':=by
 unfold Ha at a;split at a
 case h_2=>cases a
 rename_i t0 tx s x J I;obtain⟨s',x',E,S,hx⟩:=ha.two;have ha0:args'[0]?=some s':=by rw[<-yd,E];rfl
 have ha1:args'[1]?=some x':=by rw[<-yd,E];rfl
 split at a
 case h_2=>cases a
 rename_i e dx n hu D M;split at a
 case h_2=>cases a
 rename_i i hi F;cases y:(z6 0 i.bytes&&z6 0 i.size&&zg i.zero.length i.size&&(zg i.size 1||Rl x))with
 |false=>grind
 |true=>
  simp only[y,we]at a;simp only[zn,Nat.blt_eq,BA,w5,yq]at y;obtain⟨⟨⟨c1,c2⟩,c3⟩,c4⟩:=y;have c5:i.size=1\/∀s,x≠ .str s:=c4.imp id (fun h s e=>by subst e;cases h);split at a
  case h_2=>cases a
  rename_i new A;have hnl:=P6 M c5 A;obtain⟨vn,Z,B⟩:=Ms (P:=P) hr hx A;obtain⟨j,hj,hjb,hjs⟩:=PE hT hi;obtain⟨z,hz,hzr⟩:=EP hT hi;have hzl:=(hzr p).length;simp at hzl;have hne:args'= #[s',x']:=ah
  subst hne;have g:∀w,(ye x').run P w=.ok n w:=fun w=>QM hx M
  have K:∀(base:Option Addr) (c:Nat),n=0->(zu ts t #[.slice base 0 c,x']).run P w=.ok (.slice base 0 c) w:=by
   intro base c h0;rw[Q4 hT J I hu D F hi g base 0 c ae,Z];have hv0:vn=[]:=by
    simp_all
   subst hv0;cases base<;>simp[h0,storeCells]
  have some0:∀(base:Option Addr),¬n=0->(3*n+2000)*i.bytes<=562949953421312->∃v' p' w',(zu ts t #[.slice base 0 0,x']).run P w=.ok v' w'/\Ad p' (.sl h.nx 0 n n i.size) v'/\Ext p h w p' (Ja h e new) w':=by
   intro base h0 hb;obtain⟨l,hnc,L⟩:=Sd (w:=w) (t:=t) hT J I hu D F hi c1 hz g base 0 0 ae ah;simp only[Nat.zero_add]at L hnc;have f:=Ext.drew hr<|w.drawn+1;obtain⟨vn',hvn',hvnr'⟩:=Ms (P:=P) f.rel hx A;have C:=Ext.push (n:=l*i.size) f.rel (o:=.cells new e (0,0)) (x:=.cells (#[]++vn'.toArray++zo z.cells (l-n)) e) ?_
   ·refine⟨.slice (some ⟨w.heap.size,0,none⟩) n l,_,_,?_,?_,f.trans C⟩
    ·rw[L];have hf:∀w,(zl i.size 0<|Value.slice base 0 0).run P w=.ok #[] w:=by
      intro w;cases base<;>simp[zl,loadCells,loadCellsFrom]
     grind [zc]
    ·simp only[Ad];refine⟨w.heap.size,l*i.size,l,by rw[<-hr.len];simp,rfl,zh _,by omega,ae,ae⟩
   ·have hl:=hvnr'.length;have W:(#[]++vn'.toArray++zo z.cells (l-n)).size=l*i.size:=by
     simp_all [JE,Nat.sub_mul,zy]
    refine⟨_,(0,0),rfl,W,?_,?_,ae⟩
    ·grind
    ·have:=SQ (p:=p) (old:=[]) (vo:=[]) (by simp) hvnr'<|zo z.cells<|l-n;simpa using this.toC
  split at a
  case h_5=>cases a
  case h_1=>
   simp only[Ad]at S;subst S;rw[BA]at a;by_cases h0:n=0
   ·simp only[h0,decide_true,we,ze,ya]at a;obtain⟨rfl,rfl⟩:=a;exact⟨.slice none 0 0,p,w,ah,by rfl,Ext.refl hr⟩
   ·simp only[h0,decide_false,wg]at a;cases hb:zk ((3*n+2000)*i.bytes) 562949953421312 with
    |false=>grind
    |true=>
     simp_all
  case h_2=>
   simp only[Ad]at S;obtain⟨a0,rfl⟩:=S;rw[BA]at a;by_cases h0:n=0
   ·simp only[h0,decide_true,we,ze,ya]at a;obtain⟨rfl,rfl⟩:=a;exact⟨_,p,w,K (some a0) 0 h0,by simp[Ad],Ext.refl hr⟩
   ·simp only[h0,decide_false,wg]at a;cases hb:zk ((3*n+2000)*i.bytes) 562949953421312 with
    |false=>grind
    |true=>
     simp_all
  case h_3=>
   simp only[Ad]at S;obtain⟨a0,c0,rfl⟩:=S;rw[BA]at a;by_cases h0:n=0
   ·simp only[h0,decide_true,we,ze,ya]at a;obtain⟨rfl,rfl⟩:=a;exact⟨_,p,w,K (some a0) c0 h0,by simp[Ad],Ext.refl hr⟩
   grind
  case h_4=>
   rename_i b off len cap o;simp only[Ad]at S;obtain⟨r,m,c,hp,rfl,hlen,hcap,ho1,ho2⟩:=S;cases hle:zk (len+n) cap with
   |true=>
    simp only[hle,we,zi,ya]at a;obtain⟨h1,hw,rfl,rfl⟩:=a;rw[z7]at hle;obtain⟨r',m',w',g1,g2,g3⟩:=TO (P:=P) hr B hw;rw[hp]at g1;cases g1;refine⟨.slice (some ⟨r,off,none⟩) (len+n) c,p,w',?_,?_,g3⟩
    ·rw[Q4 hT J I hu D F hi g _ len c ae,Z];simp_all
    ·simp only[Ad];grind
   |false=>
    simp only[hle,wg]at a;have hle':¬(len+n<=cap):=by grind [z7]
    cases hb:zk ((3*(len+n)+2000)*i.bytes) 562949953421312 with
    |false=>grind
    |true=>
     simp only[hb,we]at a;rw[z7]at hb;split at a
     case h_2=>cases a
     rename_i old G;have hol:=P6 (x:=.sl b off len cap o) (n:=len) rfl (by simp) G;have X:∀q:Pl,(∃q',q=p++q')->Ad q (.sl b off len cap o) (.slice (some ⟨r,off,none⟩) len c):=by
      rintro q ⟨q',rfl⟩;exact Ad.mono q' (by simp_all)
     have fresh:∀(_:c<len+n) (h2:H),R p h2 { w with drawn:=w.drawn+1 }->h2.nx=h.nx->
       ∃v' p' w',(zu ts t #[.slice (some ⟨r,off,none⟩) len c,x']).run P w=.ok v' w'/\Ad p' (.sl h.nx 0 (len+n) (len+n) i.size) v'/\
        Ext p h2 { w with drawn:=w.drawn+1 } p' (h2.push<|.cells (old++new) e (0,0)) w':=by
      intro hlt h2 hr2 hnx;obtain⟨l,hnc,L⟩:=Sd (w:=w) (t:=t) hT J I hu D F hi c1 hz g (some ⟨r,off,none⟩) len c hlt hb;have f:=Ext.drew hr<|w.drawn+1;obtain⟨vn',hvn',hvnr'⟩:=Ms (P:=P) f.rel hx A;obtain⟨vo',hvo',hvor'⟩:=Ms (P:=P) (x:=.sl b off len cap o) f.rel (X p<|by simp) G;have hl:=hvnr'.length;have hl2:=hvor'.length;have W:(vo'.toArray++vn'.toArray++zo z.cells (l-(len+n))).size=l*i.size:=by
       have e1:vn'.length=n*i.size:=ae
       have e2:vo'.length=len*i.size:=ae
       simp only[Array.size_append,JE,List.size_toArray,e1,e2, <-hzl,c3,Nat.sub_mul,Nat.add_mul];have:(len+n)*i.size<=l*i.size:=zy _ ae;grind
      have C:=Ext.push (n:=l*i.size) hr2 (o:=.cells (old++new) e (0,0)) (x:=.cells (vo'.toArray++vn'.toArray++zo z.cells (l-(len+n))) e)
       ⟨_,(0,0),rfl,W,by grind,(SQ hvor' hvnr' _).toC,ae⟩
      refine⟨.slice (some ⟨w.heap.size,0,none⟩) (len+n) l,_,_,?_,?_,C⟩
      ·grind [zc]
      ·simp only[Ad];refine⟨w.heap.size,l*i.size,l,?_,rfl,zh _,by omega,ae,ae⟩;rw[<-hnx, <-hr2.len];simp
     rw[BA]at a;by_cases h0:o=0
     ·simp only[h0,decide_true,we,ze,ya]at a;obtain⟨rfl,rfl⟩:=a;have:=ho1 h0;have f:=Ext.drew hr<|w.drawn+1;obtain⟨v',p',w',k1,k2,k3⟩:=fresh ae h f.rel rfl;exact⟨v',p',w',k1,k2,f.trans k3⟩
     ·simp only[h0,decide_false,wg]at a;split at a
      case h_2=>cases a
      rename_i cs te fz hbk;cases Y:(zg off 0&&zg o i.size&&zg te e&&zk fz.2 fz.1&&new.all V.one)with
      |false=>grind
      |true=>
       simp only[Y,we,ze,ya]at a;obtain⟨rfl,rfl⟩:=a;simp only[zn,z7,BA,w5,List.all_eq_true]at Y;obtain⟨⟨⟨⟨rfl,rfl⟩,rfl⟩,d4⟩,d5⟩:=Y;by_cases Q:len+n<=c
       ·
        obtain⟨r',m',cc,fz',g1,g2,g3,g4,g5,g6,g7⟩:=cell_of hr hbk;rw[hp]at g1;cases g1;have hm:=ho2 h0;have hl:=B.length;have hone:∀v∈vn,v.oneCell'=true:=by
         intro v hv;obtain⟨k,U⟩:=List.mem_iff_getElem?.1 hv;have hk':=(zm.1 U).1;obtain⟨u,O,hu2⟩:=B.get (i:=k) (d:=new[k]'ae) (by simp);rw[U]at O;cases O;exact hu2.one ah
        have hbnd:len*i.size+n*i.size<=c*i.size:=by rw[<-Nat.add_mul];simp_all [zy]
        obtain⟨cc',k1,k2,k3⟩:=Gt (P:=P) vn w cc (len*i.size) 0 g2 ae hone (by
         grind)
        have hrd:old=cs.take (len*i.size)/\len*i.size<=cs.length:=by
         unfold src at G;simp_all [aJ,rd0]
        refine⟨.slice (some ⟨r,0,none⟩) (len+n) c,p++[(r,m)],{ w with heap:=w.heap.setIfInBounds r (.cells cc' te fz') },?_,?_,Ext.move hr (o':=.cells (old++new) te (0,0)) hbk hp ⟨cc',fz',rfl,by omega,?_,?_,?_⟩ rfl rfl rfl rfl (fun _ _ _ e1 hlk=>by cases e1;obtain⟨l1,_,l3⟩:=hlk;omega)⟩
        ·rw[Q4 hT J I hu D F hi g _ len c Q,Z];simp_all
        ·simp only[Ad];exact⟨r,m,c,by rw[<-hr.len];simp,rfl,zh _,Q,ae,fun _=>hm⟩
        ·grind
        ·refine⟨?_,?_⟩
         ·grind
         ·intro k d v N hvk hokk;have hkl:k<(old++new).length:=ah;rw[zp hkl,k3]at hvk;rw[List.length_append,hol,hnl]at hkl;simp only[Nat.add_zero,List.getElem?_map]at hvk;rw[List.getElem?_range ae]at hvk;by_cases U:k<len*i.size
          ·rw[List.getElem?_append_left ae,hrd.1,zp U]at N;obtain⟨u,O,hu2⟩:=g5.get N hokk;grind
          ·rw[List.getElem?_append_right ae,hol]at N;obtain⟨u,O,hu2⟩:=B.get N;grind
        grind
       ·have U:=Ext.kill hr b;have f:=Ext.drew U.rel<|w.drawn+1;obtain⟨v',p',w',k1,k2,k3⟩:=fresh ae (h.kill b) f.rel rfl;exact⟨v',p',w',k1,k2,(U.trans f).trans k3⟩
end
end Go.Det
