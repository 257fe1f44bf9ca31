import Derived.Scope
import Derived.Laws.Sem
import Derived.KernelRfl
import Derived.Laws.Strings
import Derived.IntWalk
/- A part of a proof; no law is stated here. -/
abbrev Z:=List UInt8
abbrev w4:=@decide_eq_true
abbrev w5:=@decide_eq_true_eq
abbrev w6:=@of_decide_eq_true
abbrev w7:=@of_decide_eq_false
abbrev w8:=@decide_eq_false
abbrev w9:=@decide_eq_false_iff_not
abbrev wc:=@if_neg
abbrev wd:=@if_pos
abbrev we:=@cond_true
abbrev wg:=@cond_false
abbrev wh:=@absurd
abbrev wi:=@congrArg
abbrev wk:=@beq_iff_eq
abbrev wm:=@if_true
abbrev vc:=@ne_eq
abbrev ve:=@and_true
abbrev vf:=@if_false
noncomputable section
open Go.Result renaming andThen_ok -> zc
open Go.Sem renaming run_bind -> zd, run_pure -> zf, run -> yw
open Option.some renaming injEq -> ze
open Nat renaming le_refl -> zg, beq -> zh, ble -> zk, mul_le_mul_right -> zz, blt -> z7, ble_eq -> z8, le_trans -> yr
open Option renaming map_eq_some_iff -> zi
open Go.Value renaming cells -> zj
open Go.Builtin renaming firstCells -> zl, zeroCells -> zo, append_ -> zu, nextslicecap -> z6, lenOf -> yj
open List renaming getElem?_eq_some_iff -> zm, getElem?_take_of_lt -> zq, getElem?_cons_zero -> yd, getElem?_cons_succ -> ye, getElem?_toArray -> yh, rec -> yq
open Bool renaming and_eq_true -> zn, false_eq_true -> zp, or_eq_true -> yv
open Go.Instr renaming sliceAt -> zr, sliceBounds -> zt, sameBits -> zx, sureAddr -> yf, findAsking -> yi, findNow -> yk, checkKey -> ym, slice -> yn, sameNow -> yo, findKey -> yp, lookup -> yu
open Prod.mk renaming injEq -> zw
open Int renaming ofNat_eq_natCast -> zy, toNat_natCast -> yc
open BitVec renaming ofInt -> yb
open Array renaming getElem?_toList -> yg
open Go.Op renaming bytesLess -> yt, equal -> yx
theorem ae{p:Prop}(h:p:=by omega):p:=h
theorem af{p:Prop}(h:p:=by decide):p:=h
theorem ag{p:Prop}(h:p:=by kernel_rfl):p:=h
theorem ah{p:Prop}(h:p:=by grind):p:=h
namespace Go.Det
section
inductive PM (α:Type) where
 |leaf
 |node (l:PM α) (v:Option α) (r:PM α)
inductive G8 where
 |here
 |l (p:G8)
 |r (p:G8)
variable {α:Type}
def oQ(f:Nat):Nat->G8:=
 @Nat.rec (fun _=>Nat->G8) (fun _=>.here) (fun _ a i=>bif zh i 0 then .here else bif zh (Nat.mod i 2) 1 then .l (a<|Nat.div i 2)else .r<|a<|Nat.sub (Nat.div i 2) 1) f
def pth(i:Nat):G8:=oQ i i
def G8.get(p:G8):PM α->Option α:=
 @G8.rec (fun _=>PM α->Option α)
  (fun m=>@PM.rec α (fun _=>Option α) none (fun _ v _ _ _=>v) m)
  (fun _ a m=>@PM.rec α (fun _=>Option α) none (fun l _ _ _ _=>a l) m)
  (fun _ a m=>@PM.rec α (fun _=>Option α) none (fun _ _ r _ _=>a r) m) p
def G8.set(p:G8):PM α->Option α->PM α:=
 @G8.rec (fun _=>PM α->Option α->PM α)
  (fun m v=>@PM.rec α (fun _=>PM α) (.node .leaf v .leaf) (fun l _ r _ _=>.node l v r) m)
  (fun _ a m v=>@PM.rec α (fun _=>PM α) (.node (a .leaf v) none .leaf) (fun l x r _ _=>.node (a l v) x r) m)
  (fun _ a m v=>@PM.rec α (fun _=>PM α) (.node .leaf none<|a .leaf v) (fun l x r _ _=>.node l x<|a r v) m) p
def PM.get(m:PM α)(i:Nat):Option α:=(pth i).get m
def PM.set(m:PM α)(i:Nat)(v:Option α):PM α:=(pth i).set m v
theorem Bo(a b:Nat):zh a b=decide (a=b):=by
 by_cases h:a=b
 ·simp_all
 grind [Nat.eq_of_beq_eq_true]
def G8.num:G8->Nat
 | .here=>0
 | .l p=>2*p.num+1
 | .r p=>2*(p.num+1)
theorem OW:∀(f i:Nat),i<=f->(oQ f i).num=i
 |0,i,h=>by cases ae;rfl
 |f+1,i,h=>by
  show G8.num (bif zh i 0 then .here else bif zh (i % 2) 1 then .l (oQ f<|i/2)else .r<|oQ f<|i/2-1)=i;simp only[Bo];by_cases h0:i=0
  ·subst h0;rfl
  ·by_cases a:i % 2=1
   ·simp only[h0,a,decide_false,decide_true,wg,we,G8.num];rw[OW f (i/2) ae];omega
   ·simp only[h0,a,decide_false,wg,G8.num];rw[OW f (i/2-1) ae];omega
theorem rU{i j:Nat}(h:pth i=pth j):i=j:=by
 have:=wi G8.num h;unfold pth at this;simp_all [OW]
theorem G8.C1(p:G8):p.get (.leaf:PM α)=none:=by cases p<;>rfl
theorem G8.get_set_same:∀(p:G8) (m:PM α) (v:Option α),p.get (p.set m v)=v
 | .here,m,v=>by cases m<;>rfl
 | .l p,m,v=>by
  cases m with
  |leaf=>exact G8.get_set_same p .leaf v
  |node l x r=>exact G8.get_set_same p l v
 | .r p,m,v=>by
  cases m with
  |leaf=>exact G8.get_set_same p .leaf v
  |node l x r=>exact G8.get_set_same p r v
theorem G8.FA:∀(p q:G8) (m:PM α) (v:Option α),q≠p->q.get (p.set m v)=q.get m
 | .here,.here,m,v,h=>wh rfl h
 | .here,.l q,m,v,_=>by
  cases m with
  |leaf=>exact q.C1
  |node l x r=>rfl
 | .here,.r q,m,v,_=>by
  cases m with
  |leaf=>exact q.C1
  |node l x r=>rfl
 | .l p,.here,m,v,_=>by cases m<;>rfl
 | .r p,.here,m,v,_=>by cases m<;>rfl
 | .l p,.r q,m,v,_=>by
  cases m with
  |leaf=>exact q.C1
  |node l x r=>rfl
 | .r p,.l q,m,v,_=>by
  cases m with
  |leaf=>exact q.C1
  |node l x r=>rfl
 | .l p,.l q,m,v,h=>by
  have h':q≠p:=ah;cases m with
  |leaf=>exact(G8.FA p q .leaf v h').trans q.C1
  |node l x r=>exact G8.FA p q l v h'
 | .r p,.r q,m,v,h=>by
  have h':q≠p:=ah;cases m with
  |leaf=>exact(G8.FA p q .leaf v h').trans q.C1
  |node l x r=>exact G8.FA p q r v h'
@[simp] theorem PM.Cz(m:PM α)(i:Nat)(v:Option α)(j:Nat):(m.set i v).get j=if j=i then v else m.get j:=by
 unfold PM.get PM.set;by_cases e:j=i
 ·simp_all [G8.get_set_same]
 ·grind [G8.FA,rU]
@[simp] theorem PM.C1(j:Nat):(PM.leaf:PM α).get j=none:=G8.C1 _
def Fm(l:List α):Nat:=@yq α (fun _=>Nat) 0 (fun _ _ a=>Nat.add a 1) l
theorem DF(l:List α):Fm l=l.length:=by
 induction l with
 |nil=>rfl
 |cons a l b=>simp_all [Fm]
def JX(n:Nat):List α->List α:=
 @Nat.rec (fun _=>List α->List α) (fun l=>l) (fun _ b l=>@yq α (fun _=>List α) [] (fun _ a _=>b a) l) n
theorem N6:∀(n:Nat) (l:List α),JX n l=l.drop n
 |0,_l=>rfl
 |_n+1,[]=>rfl
 |n+1,_a::l=>N6 n l
def X6(n:Nat):List α->List α:=
 @Nat.rec (fun _=>List α->List α) (fun _=>[]) (fun _ c l=>@yq α (fun _=>List α) [] (fun a b _=>a::c b) l) n
theorem Oo:∀(n:Nat) (l:List α),X6 n l=l.take n
 |0,_l=>rfl
 |_n+1,[]=>rfl
 |n+1,a::l=>wi (a:: ·)<|Oo n l
def JR(vs:List α):List α->List α:=
 @yq α (fun _=>List α->List α) (fun l=>l) (fun v _ b l=>@yq α (fun _=>List α) [] (fun _ a _=>v::b a) l) vs
def Ch(n:Nat)(vs:List α):List α->List α:=
 @Nat.rec (fun _=>List α->List α) (fun l=>JR vs l) (fun _ c l=>@yq α (fun _=>List α) [] (fun a b _=>a::c b) l) n
def Lt(f:α->Bool)(l:List α):Bool:=@yq α (fun _=>Bool) true (fun a _ b=>bif f a then b else false) l
theorem Fp(f:α->Bool):∀l:List α,Lt f l=l.all f
 |[]=>rfl
 |a::l=>by
  show(bif f a then Lt f l else false)=_;rw[Fp f l,List.all_cons];simp
inductive V where
 |bool (b:Bool)
 |int (k:IntKind) (n:Int)
 |str (s:Z)
 |nilp
 |ptr (b off:Nat)
 |nils
 |sl (b off len cap o:Nat)
 |esl
 |es0
 |junk
 |nilm
 |map (b:Nat)
 |fn (f:Fn) (first captured:List V)
 |yld (b:Nat)
 |nilf
 |iface (t:TypeId) (v:V)
 |nili
 |agg (cs:List V)
 |tup (vs:List V)
 deriving Inhabited
abbrev Pl:=List<|Nat×Nat
def bytesOf(s:Z):ByteArray:=⟨s.toArray⟩
mutual
def Ac(p:Pl):V->Value->Prop
 | .bool b,v=>v=.bool b
 | .int k n,v=>v=.int k n
 | .str s,v=>v=.string (bytesOf s)
 | .nilp,v=>v=.pointer none
 | .ptr b off,v=>∃r n,p[b]?=some (r,n)/\v=.pointer (some ⟨r,off,none⟩)
 | .nils,v=>v=.slice none 0 0
 | .sl b off len cap o,v=>∃r n c,p[b]?=some (r,n)/\v=.slice (some ⟨r,off,none⟩) len c/\len<=cap/\cap<=c/\(o=0->c=cap)/\(o≠0->off+c*o<=n)
 | .esl,v=>∃a c,v=.slice (some a) 0 c
 | .es0,v=>∃a,v=.slice (some a) 0 0
 | .junk,_=>False
 | .nilm,v=>v=.map none
 | .map b,v=>∃r n,p[b]?=some (r,n)/\v=.map (some r)
 | .fn f first captured,v=>∃x y,v=.func f x y/\Au p first x.toList/\Au p captured y.toList
 | .yld b,v=>∃r n,p[b]?=some (r,n)/\v=.func (.yield r) #[] #[]
 | .nilf,v=>v=.nilFunc
 | .iface t x,v=>∃y,v=.iface t y/\Ac p x y
 | .nili,v=>v=.nilIface
 | .agg cs,v=>∃x,v=.agg x/\Au p cs x.toList
 | .tup cs,v=>∃x,v=.tuple x/\Au p cs x.toList
def Au(p:Pl):List V->List Value->Prop
 |[],l=>l=[]
 |d::ds,l=>∃v vs,l=v::vs/\Ac p d v/\Au p ds vs
end
@[simp] theorem Jh(p:Pl)(l:List Value):Au p [] l↔l=[]:=by rfl
@[simp] theorem Bb(p:Pl)(d:V)(ds:List V)(v:Value)(vs:List Value):Au p (d::ds) (v::vs)↔Ac p d v/\Au p ds vs:=by
 simp only[Au];grind
@[simp] theorem iN(p:Pl)(d:V)(ds:List V):¬Au p (d::ds) []:=by
 simp[Au]
theorem Au.length{p:Pl}:∀ {ds:List V} {vs:List Value},Au p ds vs->ds.length=vs.length
 |[],vs,h=>by simp_all
 |d::ds,[],h=>by simp at h
 |d::ds,v::vs,h=>by simp at h;simp[h.2.length]
theorem Au.get{p:Pl}:∀ {ds:List V} {vs:List Value},Au p ds vs->∀ {i:Nat} {d:V},ds[i]?=some d->∃v,vs[i]?=some v/\Ac p d v
 |[],vs,_,i,d,a=>by grind
 |d::ds,[],h,_,_,_=>by simp at h
 |d::ds,v::vs,h,i,x,a=>by
  simp at h;cases i with
  |zero=>grind
  |succ i=>simpa using h.2.get a
theorem Au.mk{p:Pl}:∀ {ds:List V} {vs:List Value},ds.length=vs.length->(∀(i:Nat) d v,ds[i]?=some d->vs[i]?=some v->Ac p d v)->Au p ds vs
 |[],[],_,_=>by simp
 |[],_::_,h,_=>by simp at h
 |_::_,[],h,_=>by simp at h
 |d::ds,v::vs,h,a=>by
  simp at h;rw[Bb];exact⟨a 0 d v rfl rfl,Au.mk h<|fun i b v' c f=>a (i+1) b v' ah ah⟩
theorem Au.append{p:Pl}:∀ {a:List V} {x:List Value} {b:List V} {y:List Value},Au p a x->Au p b y->Au p (a++b) (x++y)
 |[],x,b,y,h,h'=>by simp_all
 |d::ds,[],_,_,h,_=>by simp at h
 |d::ds,v::vs,b,y,h,h'=>by simp at h;simp[h.1,h.2.append h']
theorem Au.take{p:Pl}:∀ {a:List V} {x:List Value} (n:Nat),Au p a x->Au p (a.take n) (x.take n)
 |[],x,n,h=>by simp_all
 |d::ds,[],_,h=>by simp at h
 |d::ds,v::vs,0,h=>by simp
 |d::ds,v::vs,n+1,h=>by simp at h;simp[h.1,h.2.take n]
theorem Au.drop{p:Pl}:∀ {a:List V} {x:List Value} (n:Nat),Au p a x->Au p (a.drop n) (x.drop n)
 |[],x,n,h=>by simp_all
 |d::ds,[],_,h=>by simp at h
 |d::ds,v::vs,0,h=>by grind
 |d::ds,v::vs,n+1,h=>by simp at h;simpa using h.2.drop n
theorem Au.set{p:Pl}:∀ {a:List V} {x:List Value} (i:Nat) {d:V} {v:Value},Au p a x->Ac p d v->Au p (a.set i d) (x.set i v)
 |[],x,n,_,_,h,_=>by simp_all
 |d::ds,[],_,_,_,h,_=>by simp at h
 |d::ds,v::vs,0,_,_,h,h'=>by simp_all
 |d::ds,v::vs,n+1,_,_,h,h'=>by simp at h;simp[h.1,h.2.set n h']
mutual
theorem Ac.mono{p:Pl}(q:Pl):∀ {d:V} {v:Value},Ac p d v->Ac (p++q) d v
 | .bool _,_,h=>by simpa [Ac]using h
 | .int _ _,_,h=>by simpa [Ac]using h
 | .str _,_,h=>by simpa [Ac]using h
 | .nilp,_,h=>by simpa [Ac]using h
 | .ptr b off,v,h=>by
  grind [Ac]
 | .nils,_,h=>by simpa [Ac]using h
 | .sl b off len cap o,v,h=>by
  grind [Ac]
 | .esl,_,h=>by simpa [Ac]using h
 | .es0,_,h=>by simpa [Ac]using h
 | .junk,_,h=>by simp[Ac]at h
 | .nilm,_,h=>by simpa [Ac]using h
 | .map b,v,h=>by
  grind [Ac]
 | .fn f a b,v,h=>by
  obtain⟨x,y,rfl,c,g⟩:=h;exact⟨x,y,rfl,Au.mono q c,Au.mono q g⟩
 | .yld b,v,h=>by
  grind [Ac]
 | .nilf,_,h=>by simpa [Ac]using h
 | .iface t x,v,h=>by
  simp only[Ac]at h ⊢;obtain⟨y,rfl,c⟩:=h;simp_all [Ac.mono]
 | .nili,_,h=>by simpa [Ac]using h
 | .agg cs,v,h=>by
  simp only[Ac]at h ⊢;obtain⟨x,rfl,c⟩:=h;simp_all [Au.mono]
 | .tup cs,v,h=>by
  simp only[Ac]at h ⊢;obtain⟨x,rfl,c⟩:=h;simp_all [Au.mono]
theorem Au.mono{p:Pl}(q:Pl):∀ {ds:List V} {vs:List Value},Au p ds vs->Au (p++q) ds vs
 |[],_,h=>by simp_all
 |_::_,[],h=>by simp at h
 |d::ds,v::vs,h=>by simp only[Bb]at h ⊢;exact⟨Ac.mono q h.1,Au.mono q h.2⟩
end
structure Fr where
 n:Nat
 m:PM V
def Fr.get(f:Fr)(t:Nat):V:=(f.m.get t).getD<|.tup []
def Fr.put(f:Fr)(d:Option Nat)(v:V):Option Fr:=
 match d with
 |none=>some f
 |some t=>bif z7 t f.n then some ⟨f.n,f.m.set t<|some v⟩else none
def Ei(p:Pl)(f:Fr)(tmps:Array Value):Prop:=f.n=tmps.size/\∀t,Ac p (f.get t)<|tmps.getD t undef
def Cg(p:Pl)(f:Fr)(a:Act):Prop:=f.n=a.tmps.size/\∀t,Ac p (f.get t)<|a.tmps.getD t undef
theorem Ei.mono{p:Pl}(q:Pl){f:Fr}{tmps:Array Value}(h:Ei p f tmps):Ei (p++q) f tmps:=⟨h.1,fun t=>(h.2 t).mono q⟩
structure LS where
 st:LoopState
 pend:Option Code
 fr:Fr
 ps:Array Tmp
 asg:Code
 body:Code
 db:Nat
inductive O where
 |cells (cs:List V) (elem:TypeId) (fz:Nat×Nat)
 |map (es:List (V×V×Nat)) (clock:Nat)
 |siter (s:Z) (pos:Nat)
 |miter (b:Option Nat) (since:Nat) (seen:List Nat) (last:Nat)
 |loop (l:LS)
 |defd (open_:Bool)
structure H where
 m:PM O
 nx:Nat
def H.get(h:H)(b:Nat):Option O:=h.m.get b
def H.push(h:H)(o:O):H:=⟨h.m.set h.nx<|some o,h.nx+1⟩
def H.put(h:H)(b:Nat)(o:O):H:=⟨h.m.set b<|some o,h.nx⟩
def H.kill(h:H)(b:Nat):H:=⟨h.m.set b none,h.nx⟩
@[simp] theorem H.Cq(h:H)(o:O)(b:Nat):(h.push o).get b=if b=h.nx then some o else h.get b:=by simp[H.push,H.get]
@[simp] theorem H.BT(h:H)(b:Nat)(o:O)(j:Nat):(h.put b o).get j=if j=b then some o else h.get j:=by simp[H.put,H.get]
@[simp] theorem H.Dv(h:H)(b:Nat)(j:Nat):(h.kill b).get j=if j=b then none else h.get j:=by simp[H.kill,H.get]
@[simp] theorem H.Acz(h:H)(o:O):(h.push o).nx=h.nx+1:=rfl
@[simp] theorem H.yX(h:H)(b:Nat)(o:O):(h.put b o).nx=h.nx:=rfl
@[simp] theorem H.XY(h:H)(b:Nat):(h.kill b).nx=h.nx:=rfl
inductive Dw (p:Pl):List (V×V×Nat)->List MapEntry->Prop
 |nil:Dw p [] []
 |cons {k v:V} {b:Nat} {es:List (V×V×Nat)} {e:MapEntry} {l:List MapEntry}:Ac p k e.key->Ac p v e.val->e.born=b->Dw p es l->Dw p ((k,v,b)::es) (e::l)
def V.ok:V->Bool
 | .junk=>false
 |_=>true
def D0(p:Pl)(cs:List V)(vs:List Value):Prop:=cs.length=vs.length/\∀(i:Nat) d v,cs[i]?=some d->vs[i]?=some v->d.ok=true->Ac p d v
theorem Au.toC{p:Pl}{cs:List V}{vs:List Value}(h:Au p cs vs):D0 p cs vs:=⟨h.length,fun i d v a c _=>by
 obtain⟨u,f,b⟩:=h.get a;grind⟩
theorem D0.get{p:Pl}{cs:List V}{vs:List Value}(h:D0 p cs vs){i:Nat}{d:V}(a:cs[i]?=some d)(b:d.ok=true):∃v,vs[i]?=some v/\Ac p d v:=by
 have c:i<vs.length:=by rw[<-h.1];grind
 exact⟨vs[i],(by simp),h.2 i d _ a (by simp) b⟩
theorem D0.drop{p:Pl}{cs:List V}{vs:List Value}(h:D0 p cs vs)(n:Nat):D0 p (cs.drop n) (vs.drop n):=
 ⟨by simp[h.1],fun i d v a b=>h.2 (n+i) d v ah ah⟩
theorem D0.take{p:Pl}{cs:List V}{vs:List Value}(h:D0 p cs vs)(n:Nat):D0 p (cs.take n) (vs.take n):=
 ⟨by simp[h.1],fun i d v a b=>by
  have c:i<n:=ah
  rw[zq c]at a b;exact h.2 i d v a b⟩
theorem D0.KI{p:Pl}{cs:List V}{vs:List Value}(h:D0 p cs vs)(c:∀d∈cs,d.ok=true):Au p cs vs:=
 Au.mk h.1 fun i d v a b=>h.2 i d v a b ah
def JM(p:Pl)(n:Nat):O->Obj->Prop
 | .cells cs t fz,o=>∃(c:Array Value) (fz':Nat×Nat),o=.cells c t fz'/\c.size=n/\cs.length<=n/\D0 p cs (c.toList.take cs.length)/\∀i,i<n->fz'.1<=i->i<fz'.2->fz.1<=i/\i<fz.2
 | .map es clock,o=>∃l:Array MapEntry,o=.map l clock/\Dw p es l.toList
 | .siter s pos,o=>o=.stringIter (bytesOf s) pos
 | .miter none since seen last,o=>o=.mapIter none since seen.toArray last
 | .miter (some b) since seen last,o=>∃r m,p[b]?=some (r,m)/\o=.mapIter (some r) since seen.toArray last
 | .loop l,o=>∃(fn:FuncId) (tmps:Array Value) (r m:Nat),Ei p l.fr tmps/\p[l.db]?=some (r,m)/\o=.loop { state:=l.st,pending:=l.pend,fn,tmps,params:=l.ps,assign:=l.asg,body:=l.body,defers:=r }
 | .defd op,o=>o=.deferred (bif op then some []else none)
theorem D0.mono{p:Pl}(q:Pl){cs:List V}{vs:List Value}(h:D0 p cs vs):D0 (p++q) cs vs:=⟨h.1,fun i d v a b c=>(h.2 i d v a b c).mono q⟩
theorem Dw.mono{p:Pl}(q:Pl){es:List (V×V×Nat)}{l:List MapEntry}(h:Dw p es l):Dw (p++q) es l:=by
 induction h with
 |nil=>exact .nil
 |cons b c d _ a=>exact .cons (b.mono q) (c.mono q) d a
theorem JM.mono{p:Pl}(q:Pl){n:Nat}{o:O}{x:Obj}(h:JM p n o x):JM (p++q) n o x:=by
 cases o with
 |cells cs t fz=>obtain⟨c,fz',d,a,g,f,k⟩:=h;exact⟨c,fz',d,a,g,f.mono q,k⟩
 |map es u=>obtain⟨l,d,a⟩:=h;exact⟨l,d,a.mono q⟩
 |siter s pos=>exact h
 |miter b since seen last=>
  cases b with
  |none=>exact h
  |some b=>
   obtain⟨r,m,d,a⟩:=h;exact⟨r,m,by grind,a⟩
 |loop l=>
  obtain⟨fn,tmps,r,m,h0,d,a⟩:=h;exact⟨fn,tmps,r,m,h0.mono q,by grind,a⟩
 |defd _=>exact h
structure R(p:Pl)(h:H)(w:World):Prop where
 len:p.length=h.nx
 obj:∀b o,h.get b=some o->∃r n x,p[b]?=some (r,n)/\w.heap[r]?=some x/\JM p n o x
 inj:∀b b' o o' r n n',h.get b=some o->h.get b'=some o'->p[b]?=some (r,n)->p[b']?=some (r,n')->b=b'
def Im(p:Pl)(h:H)(r:Nat):Prop:=∃b o n,h.get b=some o/\p[b]?=some (r,n)
def Lk(n:Nat)(fz:Nat×Nat):Prop:=fz.1=0/\n<=fz.2/\0<fz.2
def Lkd(p:Pl)(h:H)(r:Nat):Prop:=∃b n cs t fz,h.get b=some (.cells cs t fz)/\p[b]?=some (r,n)/\Lk n fz
structure Ext(p:Pl)(h:H)(w:World)(p':Pl)(h':H)(w':World):Prop where
 pre:∃q,p'=p++q
 rel:R p' h' w'
 size:w.heap.size<=w'.heap.size
 same:∀r,r<w.heap.size->¬Im p h r->w'.heap[r]?=w.heap[r]?
 im:∀r,Im p' h' r->Im p h r\/w.heap.size<=r
 os:w'.os=w.os
 out:w'.output=w.output
 tape:w'.tape=w.tape
 lock:∀r,r<w.heap.size->Lkd p h r->w'.heap[r]?=w.heap[r]?/\(Lkd p' h' r\/¬Im p' h' r)
 dr:w.drawn<=w'.drawn
theorem Ext.refl{p:Pl}{h:H}{w:World}(a:R p h w):Ext p h w p h w:=
 ⟨(by simp),a,zg _,(by simp),ah,rfl,rfl,rfl,ah,zg _⟩
theorem Ext.trans{p c f:Pl}{h m g:H}{w l k:World}(a:Ext p h w c m l)(b:Ext c m l f g k):Ext p h w f g k:=by
 obtain⟨q,C⟩:=a.pre;obtain⟨q',hq'⟩:=b.pre;refine⟨ah,b.rel,yr a.size b.size,fun r u x=>?_,fun r u=>?_,b.os.trans a.os,b.out.trans a.out,b.tape.trans a.tape,fun r o v=>?_,yr a.dr b.dr⟩
 ·rw[b.same r (Nat.lt_of_lt_of_le u a.size) ?_,a.same r u x];intro h1;rcases a.im r h1 with s|s
  ·grind
  ·omega
 ·rcases b.im r u with h1|h1
  ·exact a.im r h1
  ·exact .inr<|yr a.size h1
 ·obtain⟨A,h1⟩:=a.lock r o v;have d:=Nat.lt_of_lt_of_le o a.size;rcases h1 with h1|h1
  ·obtain⟨B,s⟩:=b.lock r d h1;grind
  ·refine⟨(b.same r d h1).trans A,.inr fun y=>?_⟩;rcases b.im r y with s|s
   ·grind
   ·omega
theorem Ext.jN{p p':Pl}{h h':H}{w w':World}(e:Ext p h w p' h' w'){d:V}{v:Value}(a:Ac p d v):Ac p' d v:=by
 obtain⟨q,rfl⟩:=e.pre;exact a.mono q
theorem Ext.drew{p:Pl}{h:H}{w:World}(a:R p h w)(n:Nat)(b:w.drawn<=n:=by omega):Ext p h w p h { w with drawn:=n }:=
 ⟨(by simp),⟨a.len,a.obj,a.inj⟩,zg _,(by simp),ah,rfl,rfl,rfl,ah,b⟩
theorem R.lt{p:Pl}{h:H}{w:World}(a:R p h w){b:Nat}{o:O}(c:h.get b=some o):b<h.nx:=by
 obtain⟨r,n,x,d,_⟩:=a.obj b o c;have:=(zm.1 d).1;have:=a.len;omega
theorem R.Xg{p:Pl}{h:H}{w:World}(d:R p h w){r:Nat}(a:Im p h r):r<w.heap.size:=by
 obtain⟨b,o,n,c,f⟩:=a;obtain⟨r',n',x,h3,h4,_⟩:=d.obj b o c;grind
theorem Ext.push{p:Pl}{h:H}{w:World}(f:R p h w){o:O}{x:Obj}{n:Nat}(L:JM p n o x):
  Ext p h w (p++[(w.heap.size,n)]) (h.push o) { w with heap:=w.heap.push x }:=by
 have S:∀b o',h.get b=some o'->b≠h.nx:=fun b o' a=>by have:=f.lt a;omega
 have q:(p++[(w.heap.size,n)])[h.nx]?=some (w.heap.size,n):=by rw[<-f.len];simp
 have d:∀b,b<h.nx->(p++[(w.heap.size,n)])[b]?=p[b]?:=ah;refine⟨⟨_,rfl⟩,⟨by simp[f.len],fun b o' a=>?_,fun b b' g k r m F a A l s=>?_⟩,by simp,fun r B _=>?_,fun r M=>?_,rfl,rfl,rfl,fun r B K=>?_,zg _⟩
 ·rw[H.Cq]at a;by_cases e:b=h.nx
  ·subst e;simp at a;subst a;exact⟨_,_,x,q,by simp,L.mono _⟩
  ·rw[wc e]at a;obtain⟨r,m,y,l,s,J⟩:=f.obj b o' a;refine⟨r,m,y,by grind,?_,J.mono _⟩;grind
 ·have key:∀c o' r m,(h.push o).get c=some o'->(p++[(w.heap.size,n)])[c]?=some (r,m)->(c=h.nx/\r=w.heap.size)\/(h.get c=some o'/\p[c]?=some (r,m)/\r<w.heap.size):=by
   intro c o' r m u v;rw[H.Cq]at u;by_cases e:c=h.nx
   ·grind
   ·rw[wc e]at u;rw[d c<|f.lt u]at v;exact .inr ⟨u,v,f.Xg ⟨c,o',m,u,v⟩⟩
  rcases key b g r m a l with⟨D,E⟩|⟨D,E,U⟩<;>rcases key b' k r F A s with⟨G,C⟩|⟨G,C,N⟩
  ·omega
  ·omega
  ·omega
  ·exact f.inj b b' g k r m F D G E C
 ·grind
 ·obtain⟨b,o',m,l,s⟩:=M;rw[H.Cq]at l;by_cases e:b=h.nx
  ·grind
  ·rw[wc e]at l;rw[d b<|f.lt l]at s;exact .inl ⟨b,o',m,l,s⟩
 ·refine⟨by grind,.inl ?_⟩;obtain⟨b,m,cs,t,fz,V,Q,I⟩:=K;refine⟨b,m,cs,t,fz,?_,?_,I⟩
  ·simp_all
  grind
theorem Ext.put{p:Pl}{h:H}{w w':World}(q:R p h w){b r n:Nat}{o o':O}{x':Obj}(u:h.get b=some o)(l:p[b]?=some (r,n))(S:JM p n o' x')
  (U:w'.heap=w.heap.setIfInBounds r x') (F:w'.os=w.os) (G:w'.output=w.output) (L:w'.tape=w.tape)
  (X:∀cs t fz,o=.cells cs t fz->Lk n fz->w.heap[r]?=some x'/\∃cs' D,o'=.cells cs' D fz:=by intro _ _ _ h;cases h) (K:w.drawn<=w'.drawn:=by exact Nat.le_refl _):Ext p h w p (h.put b o') w':=by
 have Y:r<w.heap.size:=q.Xg ⟨b,o,n,u,l⟩;refine⟨(by simp),⟨q.len,fun c d a=>?_,fun c J d k s m V a C F G=>?_⟩,by simp[U],fun s M Q=>?_,fun s W=>?_,F,G,L,fun s M N=>?_,K⟩
 ·rw[H.BT]at a;by_cases e:c=b
  ·subst e;simp at a;subst a;exact⟨r,n,x',l,by grind,S⟩
  ·rw[wc e]at a;obtain⟨s,m,y,g,v,Z⟩:=q.obj c d a;have x:r≠s:=fun E=>e<|q.inj c b d o s m n a u g<|E▸l
   grind
 ·have f:∀c d,(h.put b o').get c=some d->∃k,h.get c=some k:=by
   intro c d a;rw[H.BT]at a;grind
  obtain⟨_,g⟩:=f c d a;obtain⟨_,v⟩:=f J k C;exact q.inj c J _ _ s m V g v F G
 ·have x:r≠s:=fun e=>Q<|e▸⟨b,o,n,u,l⟩
  grind
 ·obtain⟨c,d,m,g,v⟩:=W;rw[H.BT]at g;by_cases e:c=b
  ·subst e;exact .inl ⟨c,o,m,u,v⟩
  ·rw[wc e]at g;exact .inl ⟨c,d,m,g,v⟩
 ·obtain⟨c,m,cs,t,fz,I,A,B⟩:=N;by_cases e:c=b
  ·subst e;rw[l]at A;cases A;rw[u]at I;cases I;obtain⟨g,cs',D,rfl⟩:=X cs t fz rfl B;refine⟨?_,.inl ⟨c,n,cs',D,fz,by simp,l,B⟩⟩;grind
  ·have x:r≠s:=fun E=>e<|q.inj c b _ o s m n I u A<|E▸l
   refine⟨by grind,.inl ⟨c,m,cs,t,fz,by simp_all,A,B⟩⟩
theorem R.kill{p:Pl}{h:H}{w:World}(d:R p h w)(b:Nat):R p (h.kill b) w:=by
 have sub:∀c o,(h.kill b).get c=some o->h.get c=some o:=by
  simp
 exact⟨d.len,fun c o a=>d.obj c o<|sub c o a,fun c f o o' r n n' a g=>d.inj c f o o' r n n' (sub c o a) ah⟩
theorem Ext.kill{p:Pl}{h:H}{w:World}(g:R p h w)(b:Nat):Ext p h w p (h.kill b) w:=by
 refine⟨(by simp),g.kill b,zg _,(by simp),fun r x=>?_,rfl,rfl,rfl,fun r B l=>⟨rfl,?_⟩,zg _⟩
 ·obtain⟨c,o,n,a,q⟩:=x;rw[H.Dv]at a;split at a
  ·cases a
  ·exact .inl ⟨c,o,n,a,q⟩
 ·obtain⟨c,m,cs,t,fz,v,k,s⟩:=l;by_cases e:c=b
  ·subst e;refine .inr ?_;rintro⟨y,o',u,d,A⟩;rw[H.Dv]at d;split at d
   ·cases d
   ·rename_i f;exact f<|g.inj y c _ _ r u m d v A k
  ·exact .inl ⟨c,m,cs,t,fz,by simp_all,k,s⟩
theorem Ext.move{p:Pl}{h:H}{w w':World}(l:R p h w){b r n:Nat}{o o':O}{x':Obj}(B:h.get b=some o)(C:p[b]?=some (r,n))(X:JM p n o' x')
  (Z:w'.heap=w.heap.setIfInBounds r x') (g1:w'.os=w.os) (U:w'.output=w.output) (M:w'.tape=w.tape) (hk:∀cs t fz,o=.cells cs t fz->¬Lk n fz) (L:w.drawn<=w'.drawn:=by exact Nat.le_refl _):Ext p h w (p++[(r,n)]) ((h.kill b).push o') w':=by
 have hlt:r<w.heap.size:=l.Xg ⟨b,o,n,B,C⟩;have k:(p++[(r,n)])[h.nx]?=some (r,n):=by rw[<-l.len];simp
 have f:∀b,b<h.nx->(p++[(r,n)])[b]?=p[b]?:=ah;have d:∀c a,((h.kill b).push o').get c=some a->(c=h.nx/\a=o')\/(c≠b/\c<h.nx/\h.get c=some a):=by
  intro c a g;rw[H.Cq,H.XY,H.Dv]at g;by_cases e:c=h.nx
  ·grind
  ·rw[wc e]at g;by_cases q:c=b
   ·grind
   ·rw[wc q]at g;exact .inr ⟨q,l.lt g,g⟩
 have ne:∀c a s m,c≠b->h.get c=some a->p[c]?=some (s,m)->r≠s:=fun c a s m g S F e=>g<|l.inj c b a o s m n S B F<|e▸C
 refine⟨⟨_,rfl⟩,⟨by simp[l.len],fun c a g=>?_,fun c G a v s m m' g E J K=>?_⟩,by simp[Z],fun s F W=>?_,fun s hi=>?_,g1,U,M,fun s F V=>?_,L⟩
 ·rcases d c a g with⟨rfl,rfl⟩|⟨I,q,x⟩
  ·exact⟨r,n,x',k,by grind,X.mono _⟩
  ·obtain⟨s,m,y,A,u,D⟩:=l.obj c a x;refine⟨s,m,y,by grind,?_,D.mono _⟩;grind
 ·rcases d c a g with⟨rfl,rfl⟩|⟨I,q,x⟩<;>rcases d G v E with⟨rfl,rfl⟩|⟨f1,Q,N⟩
  ·rfl
  ·grind
  ·grind
  ·rw[f c q]at J;rw[f G Q]at K;exact l.inj c G a v s m m' x N J K
 ·have Y:r≠s:=fun e=>W<|e▸⟨b,o,n,B,C⟩
  grind
 ·obtain⟨c,a,m,A,u⟩:=hi;rcases d c a A with⟨rfl,rfl⟩|⟨I,q,x⟩
  ·rw[k]at u;cases u;exact .inl ⟨b,o,n,B,C⟩
  ·rw[f c q]at u;exact .inl ⟨c,a,m,x,u⟩
 ·obtain⟨c,m,cs,t,fz,A,u,D⟩:=V;by_cases e:c=b
  ·grind
  ·have hlc:=l.lt A;refine⟨by grind,.inl ⟨c,m,cs,t,fz,?_,by grind,D⟩⟩;rw[H.Cq,H.XY,wc ae,H.Dv,wc e];exact A
end
def Aa9(l:List Nat):List V:=l.map fun n=>.int .u64<|.ofNat n
def C5:List (Nat×O):=[(3,.cells (Aa9 [1,10,100,1000,10000,100000,1000000,10000000,100000000,1000000000,10000000000,100000000000,1000000000000,10000000000000,100000000000000,1000000000000000,10000000000000000,100000000000000000,1000000000000000000,10000000000000000000]) 334 (0,20))]
mutual
def V.flat:V->Bool
 | .bool _| .int _ _| .str _| .nilp| .nils| .nilm| .nilf| .nili=>true
 | .agg l| .tup l=>V.E9 l
 |_=>false
def V.E9:List V->Bool
 |[]=>true
 |v::vs=>v.flat&&V.E9 vs
end
mutual
theorem V.CB{p q:Pl}:∀ {v:V} {v':Value},v.flat=true->Ac p v v'->Ac q v v'
 | .bool _,_,_,h| .int _ _,_,_,h| .str _,_,_,h| .nilp,_,_,h| .nils,_,_,h| .nilm,_,_,h| .nilf,_,_,h| .nili,_,_,h=>by simpa [Ac]using h
 | .agg l,_,a,h=>by
  obtain⟨x,rfl,b⟩:=h;exact⟨x,rfl,V.GS (by simpa [V.flat]using a) b⟩
 | .tup l,_,a,h=>by
  obtain⟨x,rfl,b⟩:=h;exact⟨x,rfl,V.GS (by simpa [V.flat]using a) b⟩
 | .ptr _ _,_,a,_| .sl _ _ _ _ _,_,a,_| .map _,_,a,_| .fn _ _ _,_,a,_| .yld _,_,a,_| .iface _ _,_,a,_=>by simp[V.flat]at a
theorem V.GS{p q:Pl}:∀ {v:List V} {v':List Value},V.E9 v=true->Au p v v'->Au q v v'
 |[],_,_,h=>by simp_all
 |_::_,[],_,h=>by simp at h
 |v::vs,x::b,a,h=>by
  simp only[V.E9,zn]at a;rw[Bb]at h ⊢;exact⟨V.CB a.1 h.1,V.GS a.2 h.2⟩
end
def osz:O->Nat
 | .cells cs _ _=>cs.length
 |_=>0
def gin(g:Nat):List (Nat×O)->Bool
 |[]=>false
 |(i,_)::l=>bif zh i g then true else gin g l
def hGm:List (Nat×O)->PM O
 |[]=>.leaf
 |(i,o)::l=>(hGm l).set i<|some o
def O7:List (Nat×O)->Nat
 |[]=>0
 |(i,_)::l=>bif zk (i+1) (O7 l)then O7 l else i+1
def hG:H:=⟨hGm C5,O7 C5⟩
def gok:List (Nat×O)->Bool
 |[]=>true
 |(_,.cells cs _ (a,b))::l=>V.E9 cs&&zh a 0&&zh b cs.length&&z7 0 b&&gok l
 |_=>false
theorem XT:gok C5=true:=by rfl
theorem Xq{g:Nat}:∀ {l:List (Nat×O)},gin g l=true->∃o,(g,o)∈l
 |[],h=>by cases h
 |(i,o)::l,h=>by
  unfold gin at h;cases a:zh i g with
  |true=>simp_all
  |false=>
   rw[a]at h;obtain⟨o',b⟩:=Xq h;grind
theorem Rn:∀ {l:List (Nat×O)},gok l=true->∀x∈l,∃cs t,x.2=.cells cs t (0,cs.length)/\V.E9 cs=true/\0<cs.length
 |[],_,x,c=>by cases c
 |(i,.cells cs t (a,b))::l,h,x,c=>by
  simp only[gok,zn]at h;obtain⟨⟨⟨⟨g,d⟩,f⟩,m⟩,k⟩:=h;rcases List.mem_cons.1 c with rfl|c
  ·have d:a=0:=by simp_all
   have f:b=cs.length:=by simp_all
   subst d f;exact⟨cs,t,rfl,g,(by simp_all)⟩
  ·exact Rn k x c
theorem Kv:∀ {l:List (Nat×O)} {b:Nat} {o:O},(hGm l).get b=some o->(b,o)∈l
 |[],b,o,h=>by simp[hGm]at h
 |(i,o')::l,b,o,h=>by
  simp only[hGm,PM.Cz]at h;by_cases e:b=i
  ·grind
  ·rw[wc e]at h;exact List.mem_cons_of_mem _<|Kv h
theorem YP{n:Nat}:∀ {l:List (Nat×O)},(∀x∈l,x.1<n)->O7 l<=n
 |[],_=>Nat.zero_le _
 |(i,o)::l,h=>by
  have a:=h (i,o) (by simp);have b:=YP (l:=l) fun x c=>h x ah
  grind [O7]
theorem RL:∀ {l:List (Nat×O)},∀x∈l,x.1<O7 l
 |[],x,a=>by cases a
 |(i,o)::l,x,a=>by
  unfold O7;rcases List.mem_cons.1 a with rfl|a
  ·cases b:zk (i+1) (O7 l)with
   |true=>have:=Nat.le_of_ble_eq_true b;grind
   |false=>simp
  ·have:=RL (l:=l) x a;grind [Nat.ble_eq_true_of_le]
def Gp(p:Pl):Prop:=∀x∈C5,p[x.1]?=some (x.1,osz x.2)
def Gh(h:H):Prop:=∀x∈C5,h.get x.1=some x.2
theorem Gp.app{p:Pl}(h:Gp p)(q:Pl):Gp (p++q):=fun x a=>by
 have:=h x a;grind
theorem Gp.top{p:Pl}(h:Gp p):O7 C5<=p.length:=YP fun x a=>(zm.1<|h x a).1
theorem Gp.take{p:Pl}(h:Gp p):Gp (p.take<|O7 C5):=fun x a=>by
 rw[zq<|RL x a];exact h x a
theorem D0.flat{p q:Pl}{cs:List V}{vs:List Value}(g:V.E9 cs=true)(h:D0 p cs vs):D0 q cs vs:=
 ⟨h.1,fun i d v b c f=>V.CB (by
  have:=List.mem_of_getElem? b;clear h b c f;induction cs with
  |nil=>grind
  |cons a cs k=>
   simp only[V.E9,zn]at g;grind)<|h.2 i d v b c f⟩
theorem wT{p:Pl}{h:H}{w:World}(s:R p h w)(f:Gp p)(u:Gh h):R (p.take<|O7 C5) hG w:=by
 refine⟨by rw[List.length_take,Nat.min_eq_left f.top];rfl,fun b o a=>?_,fun b b' o o' r n n' a g k l=>?_⟩
 ·have d:=Kv a;obtain⟨cs,t,e,v,y⟩:=Rn XT _ d;obtain⟨r,n,x,k,l,h3⟩:=s.obj b o<|u _ d;refine⟨r,n,x,by rw[zq<|RL _ d];exact k,l,?_⟩;subst e;obtain⟨c,fz',k1,k2,k3,k4,k5⟩:=h3;exact⟨c,fz',k1,k2,k3,k4.flat v,k5⟩
 ·have m:=Kv a;have q:=Kv g;have B:=f.take _ m;have A:=f.take _ q;grind
theorem Ext.C5{p:Pl}{w w':World}{p':Pl}{h':H}(l:Gp p)(c:Ext p hG w p' h' w')(r:Nat)(k:r<w.heap.size):w'.heap[r]?=w.heap[r]?:=by
 by_cases f:Im p hG r
 ·obtain⟨b,o,n,d,a⟩:=f;have g:=Kv d;obtain⟨cs,t,e,hf,hl⟩:=Rn XT _ g;subst e;have:=l _ g;rw[this]at a;cases a;exact(c.lock _ k ⟨_,_,_,_,_,d,this,rfl,zg _,hl⟩).1
 ·exact c.same r k f
section
variable {p:Pl}
def V.cells:V->List V
 | .agg cs=>cs
 |v=>[v]
theorem Ac.cells{d:V}{v:Value}(b:Ac p d v):Au p d.cells v.cells.toList:=by
 cases d<;>simp only[V.cells]<;>simp only[Ac]at b
 case agg cs=>obtain⟨x,rfl,f⟩:=b;exact f
 case bool=>simp_all [zj,Ac]
 case int=>simp_all [zj,Ac]
 case str=>simp_all [zj,Ac]
 case nilp=>simp_all [zj,Ac]
 case nils=>simp_all [zj,Ac]
 case nilm=>simp_all [zj,Ac]
 case nilf=>simp_all [zj,Ac]
 case nili=>simp_all [zj,Ac]
 case ptr=>obtain⟨r,n,f,rfl⟩:=b;simp[zj,Ac,f]
 case esl=>obtain⟨a,c,rfl⟩:=b;simp[zj,Ac]
 case es0=>obtain⟨a,rfl⟩:=b;simp[zj,Ac]
 case sl=>obtain⟨r,n,c,f,rfl,g⟩:=b;simp only[zj,Bb,Jh,ve];simp only[Ac];grind
 case map=>obtain⟨r,n,f,rfl⟩:=b;simp[zj,Ac,f]
 case yld=>obtain⟨r,n,f,rfl⟩:=b;simp[zj,Ac,f]
 case fn=>obtain⟨x,y,rfl,f,g⟩:=b;simp only[zj,Bb,Jh,ve];simp only[Ac];grind
 case iface=>obtain⟨y,rfl,f⟩:=b;simp_all [zj,Ac]
 case tup=>obtain⟨x,rfl,f⟩:=b;simp_all [zj,Ac]
end
structure TI where
 size:Nat
 bytes:Nat
 zv:V
def TI.zero(i:TI):List V:=i.zv.cells
inductive FK where
 |bool
 |str
 |int (k:IntKind)
def FK.ok:FK->V->Bool
 | .bool,.bool _=>true
 | .str,.str _=>true
 | .int k,.int a _=>k==a
 |_,_=>false
def fit:List FK->List V->Bool
 |[],[]=>true
 |k::ks,v::vs=>bif k.ok v then fit ks vs else false
 |_,_=>false
structure BV where
 und:TypeId->Option TypeDesc
 inf:TypeId->Option TI
 flat:TypeId->Option (List FK)
 mth:TypeId->String->Option FuncId
def D2:V->V->Option Bool
 | .bool a,.bool b=>some<|a==b
 | .int k a,.int c b=>if k=c then some (a==b)else none
 | .str a,.str b=>some<|a==b
 |_,_=>none
def BO:List V->List V->Option Bool
 |[],[]=>some true
 |a::c,b::d=>
  match D2 a b with
  |some true=>BO c d
  |some false=>if c.length=d.length then some false else none
  |none=>none
 |_,_=>none
structure BV.Ok(T:BV)(P:Program):Prop where
 und:∀t d,T.und t=some d->P.underlying t=some d
 inf:∀t i,T.inf t=some i->∃j v,P.info? t=some j/\j.size=i.size/\j.bytes=i.bytes/\j.zero=some v/\∀p,Ac p i.zv v
 flat:∀t ks,T.flat t=some ks->∀(p:Pl) (x y:List V) (x' y':Array Value) (r:Bool) (w:World),fit ks x=true->fit ks y=true->Au p x x'.toList->Au p y y'.toList->BO x y=some r->
  (yx t (.agg x') (.agg y')).run P w=.ok r w
 guard:∀t ks,T.flat t=some ks->P.eqGuardType P.depth t=false
 key:∀t ks,T.flat t=some ks->∀(p:Pl) (x:List V) (x':Array Value) (b:Bool) (w:World),fit ks x=true->Au p x x'.toList->(ym b 10000 t (.agg x')).run P w=.ok () w
 kind:∀t ks,T.flat t=some ks->∃fs,T.und t=some (.struct fs)
 mth:∀t name f,T.mth t name=some f->∃j m d,P.info? t=some j/\j.methods.find? (·.name==name)=some m/\m.path= #[]/\m.func=some (f,false)/\P.underlying t=some d/\∀e,d≠ .pointer e
section
variable {T:BV}{P:Program}{p:Pl}{h:H}{w:World}
theorem Ay(a:T.Ok P){t:TypeId}{d:TypeDesc}(b:T.und t=some d):(underlying t).run P w=.ok d w:=by
 unfold underlying;simp[a.und t d b]
theorem Bt(a:T.Ok P){t:TypeId}{i:TI}(b:T.inf t=some i):(sizeOf t).run P w=.ok i.size w:=by
 obtain⟨j,v,c,d,_⟩:=a.inf t i b;simp_all [sizeOf,typeInfo]
theorem Po(a:T.Ok P){t:TypeId}{i:TI}(b:T.inf t=some i):∃j,(∀w,(typeInfo t).run P w=.ok j w)/\j.bytes=i.bytes/\j.size=i.size:=by
 obtain⟨j,v,c,d,f,_⟩:=a.inf t i b;simp_all [typeInfo]
theorem DY(b:T.Ok P){t:TypeId}{i:TI}(c:T.inf t=some i):∃v,(∀w,(zeroValue t).run P w=.ok v w)/\∀p,Au p i.zero v.cells.toList:=by
 obtain⟨j,v,f,g,k,d,a⟩:=b.inf t i c;exact⟨v,(by simp_all [zeroValue,typeInfo]),fun p=>(a p).cells⟩
theorem xP(a:T.Ok P){t:TypeId}{i:TI}(b:T.inf t=some i):∃v,(∀w,(zeroValue t).run P w=.ok v w)/\∀p,Ac p i.zv v:=by
 obtain⟨j,v,f,g,k,d,c⟩:=a.inf t i b;simp_all [zeroValue,typeInfo]
def DZ:TypeDesc->Bool
 | .struct _| .array _ _=>true
 |_=>false
theorem Rg(a:T.Ok P){t:TypeId}{d:TypeDesc}(b:T.und t=some d):(isAgg t).run P w=.ok (DZ d) w:=by
 unfold isAgg;rw[zd,Ay a b];cases d<;>simp[DZ]
def V.one:V->Bool
 | .agg _| .tup _| .junk=>false
 |_=>true
theorem V.Ml{d:V}(h:d.one=true):d.ok=true:=by cases d<;>first|rfl|cases h
theorem Ac.one{d:V}{v:Value}(b:Ac p d v)(f:d.one=true):v.oneCell'=true:=by
 cases d<;>simp only[V.one]at f<;>simp only[Ac]at b
 case agg|tup=>cases f
 case ptr=>obtain⟨r,n,_,rfl⟩:=b;rfl
 case esl=>obtain⟨a,c,rfl⟩:=b;rfl
 case es0=>obtain⟨a,rfl⟩:=b;rfl
 case sl=>obtain⟨r,n,c,_,rfl,_⟩:=b;rfl
 case map=>obtain⟨r,n,_,rfl⟩:=b;rfl
 case yld=>obtain⟨r,n,_,rfl⟩:=b;rfl
 case fn=>obtain⟨x,y,rfl,_,_⟩:=b;rfl
 case iface=>obtain⟨y,rfl,_⟩:=b;rfl
 all_goals subst b;rfl
@[simp] theorem Addr.LG(r off n:Nat):Addr.add ⟨r,off,none⟩ n=⟨r,off+n,none⟩:=by
 unfold Addr.add;simp
def rd0(h:H)(b off n:Nat):Option (List V):=
 match h.get b with
 |some (.cells cs _ _)=>if off+n<=cs.length/\((cs.drop off).take n).all V.ok=true then some ((cs.drop off).take n)else none
 |_=>none
def rd(h:H)(b off n:Nat):Option (List V):=
 match h.get b with
 |some (.cells cs _ _)=>bif zk (Nat.add off n) (Fm cs)&&Lt V.ok (X6 n<|JX off cs)then some (X6 n<|JX off cs)else none
 |_=>none
theorem YK:rd=rd0:=by
 funext h b off n
 unfold rd rd0;split
 ·rw[DF,Oo,N6,Fp];simp
 ·rfl
theorem cell_of(d:R p h w){b:Nat}{cs:List V}{t:TypeId}{fz:Nat×Nat}(a:h.get b=some (.cells cs t fz)):
  ∃r n c fz',p[b]?=some (r,n)/\w.heap[r]?=some (.cells c t fz')/\c.size=n/\cs.length<=n/\D0 p cs (c.toList.take cs.length)/\(∀i,w.cell? ⟨r,i,none⟩=c[i]?)/\
   ∀i,i<n->fz'.1<=i->i<fz'.2->fz.1<=i/\i<fz.2:=by
 obtain⟨r,n,x,k,l,c,fz',q,g,o,m,f⟩:=d.obj b _ a;grind [World.cell?]
theorem Ql{a:Addr}{v:Value}(b:w.cell? a=some v):(load a).run P w=.ok v w:=by simp[b]
theorem run_loadCellsFrom{a:Addr}:∀(n i:Nat) (b:Array Value) (vs:List Value),vs.length=n->(∀j v,vs[j]?=some v->w.cell? (a.add<|i+j)=some v)->
  (loadCellsFrom a i n b).run P w=.ok (b++vs.toArray) w
 |0,i,b,vs,c,_=>by
  simp_all [loadCellsFrom]
 |n+1,i,b,[],c,_=>by grind
 |n+1,i,b,v::vs,c,d=>by
  unfold loadCellsFrom;rw[zd,Ql (a:=a.add i) (by have:=d 0 v rfl;simpa using this)];simp only[zc];rw[run_loadCellsFrom n (i+1) (b.push v) vs ah (fun j u f=>by
   have:=d (j+1) u ah;grind)]
  simp
theorem run_loadCells(q:R p h w){b off n:Nat}{k:List V}(f:rd h b off n=some k):
  ∃r m vs,p[b]?=some (r,m)/\(loadCells ⟨r,off,none⟩ n).run P w=.ok vs.toArray w/\Au p k vs/\vs.length=n/\∀i v,vs[i]?=some v->w.cell? ⟨r,off+i,none⟩=some v:=by
 rw[YK]at f;unfold rd0 at f;split at f
 case h_2=>cases f
 rename_i cs t fz l;split at f
 case isFalse=>cases f
 cases f;obtain⟨r,m,c,_,o,x,A,u,s,y,_⟩:=cell_of q l;have g:Au p ((cs.drop off).take n) ((c.toList.take cs.length).drop off|>.take n):=((s.drop off).take n).KI ah;have a:((c.toList.take cs.length).drop off|>.take n).length=n:=ah
 have d:∀i v,((c.toList.take cs.length).drop off|>.take n)[i]?=some v->w.cell? ⟨r,off+i,none⟩=some v:=by
  grind
 refine⟨r,m,_,o,?_,g,a,d⟩;unfold loadCells;rw[run_loadCellsFrom n 0 #[] _ a (by simp_all)];simp
def EP(T:BV)(h:H)(t:TypeId)(a:V):Option V:=
 match a,T.und t,T.inf t with
 | .ptr b off,some d,some i=>
  bif DZ d then(rd h b off i.size).map .agg
  else match rd h b off 1 with
   |some (v::_)=>some v
   |_=>none
 |_,_,_=>none
theorem TY(s:T.Ok P)(l:R p h w){t:TypeId}{a v:V}{y:Value}(q:Ac p a y)(c:EP T h t a=some v):
  ∃v',(Instr.loadAt t y).run P w=.ok v' w/\Ac p v v':=by
 unfold EP at c;split at c
 case h_2=>cases c
 rename_i b off d i C E;simp only[Ac]at q;obtain⟨r,n,A,rfl⟩:=q;unfold Instr.loadAt yf;simp only[zd,zf,zc];unfold loadVar;simp only[zd];rw[Rg s C];simp only[zc];cases f:DZ d with
 |true=>
  simp only[f,we]at c;rw[zi]at c;obtain⟨I,k,rfl⟩:=c;obtain⟨B,m,vs,g,x,o,_⟩:=run_loadCells (P:=P) l k;rw[A]at g;cases g;simp only[wm,zd,Bt s E,zc,x,zf];simp_all [Ac]
 |false=>
  simp only[f,wg]at c;split at c
  case h_2=>cases c
  rename_i v0 tl k;cases c;obtain⟨B,m,vs,g,x,o,F,D⟩:=run_loadCells (P:=P) l k;rw[A]at g;cases g;cases vs with
  |nil=>grind
  |cons u G=>
   simp at o;simp only[zp,vf];have:=D 0 u rfl;simp_all
def GO:List V->Nat->List V->List V
 |cs,_,[]=>cs
 |cs,off,v::vs=>GO (cs.set off v) (off+1) vs
@[simp] theorem Ip:∀(vs:List V) (cs:List V) (off:Nat),(GO cs off vs).length=cs.length
 |[],_,_=>rfl
 |v::vs,cs,off=>by simp[GO,Ip vs]
def clear(fz:Nat×Nat)(off n:Nat):Bool:=zk fz.2 off||zk (off+n) fz.1||zk fz.2 fz.1
def wr0(h:H)(b off:Nat)(vs:List V):Option H:=
 match h.get b with
 |some (.cells cs t fz)=>bif zk (off+vs.length) cs.length&&clear fz off vs.length&&vs.all V.one then some (h.put b<|.cells (GO cs off vs) t fz)else none
 |_=>none
theorem L0(a:V):∀(vs cs:List V) (off:Nat),GO (a::cs) (off+1) vs=a::GO cs off vs
 |[],cs,off=>rfl
 |v::vs,cs,off=>by
  show GO ((a::cs).set (off+1) v) (off+1+1) vs=a::GO (cs.set off v) (off+1) vs;rw[List.set_cons_succ,L0 a vs]
theorem NT:∀(vs:List V) (off:Nat),GO [] off vs=[]
 |[],_=>rfl
 |v::vs,off=>by show GO ([].set off v) (off+1) vs=[];rw[List.set_nil,NT vs]
theorem Un:∀(vs cs:List V),JR vs cs=GO cs 0 vs
 |[],cs=>rfl
 |v::vs,[]=>(NT _ _).symm
 |v::vs,c::cs=>by
  show v::JR vs cs=GO ((c::cs).set 0 v) (0+1) vs;rw[List.set_cons_zero,L0,Un vs cs]
theorem Jb(vs:List V):∀(off:Nat) (cs:List V),Ch off vs cs=GO cs off vs
 |0,cs=>Un vs cs
 |off+1,[]=>(NT _ _).symm
 |off+1,c::cs=>by rw[L0];exact wi (c:: ·)<|Jb vs off cs
def wr(h:H)(b off:Nat)(vs:List V):Option H:=
 match h.get b with
 |some (.cells cs t fz)=>bif zk (Nat.add off<|Fm vs) (Fm cs)&&clear fz off (Fm vs)&&Lt V.one vs then some (h.put b<|.cells (Ch off vs cs) t fz)else none
 |_=>none
theorem Ab8:wr=wr0:=by
 grind [wr,wr0,DF,Fp,Jb]
theorem eT(a:Array Obj)(i:Nat)(x:Obj)(j:Nat):(a.setIfInBounds i x)[j]?=if i=j/\j<a.size then some x else a[j]?:=by
 grind
theorem lY{a:Array Obj}{i:Nat}{x:Obj}(h:a[i]?=some x):a.setIfInBounds i x=a:=by
 grind
theorem Ot{a:Array Obj}{i:Nat}{f:Obj->Obj}{x:Obj}(h:a[i]?=some x):a.modify i f=a.setIfInBounds i (f x):=by
 grind
theorem setCell_eq{w:World}{r off:Nat}{c:Array Value}{t:TypeId}{fz:Nat×Nat}(v:Value)(a:w.heap[r]?=some (.cells c t fz)):
  w.setCell ⟨r,off,none⟩ v={ w with heap:=w.heap.setIfInBounds r (.cells (c.setIfInBounds off v) t fz) }:=by
 grind [World.setCell,Ot]
theorem FX{r:Nat}{t:TypeId}{fz:Nat×Nat}:∀(vs:List Value) (w:World) (c:Array Value) (off i:Nat),w.heap[r]?=some (.cells c t fz)->off+i+vs.length<=c.size->
  (∀v∈vs,v.oneCell'=true)->(∀j,i<=j->j<i+vs.length->¬(fz.1<=off+j/\off+j<fz.2))->
  ∃a:Array Value,(storeCells ⟨r,off,none⟩ vs i).run P w=.ok () { w with heap:=w.heap.setIfInBounds r (.cells a t fz) }/\a.size=c.size/\
   a.toList=(List.range c.size).map (fun j=>if off+i<=j/\j<off+i+vs.length then vs.getD (j-(off+i)) default else c.toList.getD j default)
 |[],w,c,off,i,b,_,_,_=>by
  refine⟨c,?_,rfl,?_⟩
  ·simp_all [storeCells,lY]
  ·apply List.ext_getElem (by simp);grind
 |v::vs,w,c,off,i,b,g,l,f=>by
  simp at g;have d:w.cell? ⟨r,off+i,none⟩=some (c[off+i]'ae):=by simp[World.cell?,b]
  have q:w.frozen? ⟨r,off+i,none⟩=false:=by
   simp_all [World.frozen?]
  have m:=setCell_eq (off:=off+i) v b;have k:=(Array.getElem?_eq_some_iff.1 b).1;obtain⟨a,y,A,x⟩:=FX vs { w with heap:=w.heap.setIfInBounds r (.cells (c.setIfInBounds (off+i) v) t fz) } (c.setIfInBounds (off+i) v) off (i+1)
   (by rw[eT,wd ⟨rfl,k⟩]) ah ah (fun j o s=>f j ae ah)
  refine⟨a,?_,by grind,?_⟩
  ·simp_all [storeCells,run_store]
  ·rw[x];apply List.ext_getElem (by simp);intro j u B;simp at u;simp only[List.getElem_map,List.getElem_range,List.length_cons];grind
theorem NW:∀(vs cs:List V) (off j:Nat),off+vs.length<=cs.length->(GO cs off vs)[j]?=if off<=j/\j<off+vs.length then vs[j-off]? else cs[j]?
 |[],cs,off,j,_=>by rw[wc<|by simp];rfl
 |v::vs,cs,off,j,a=>by
  unfold GO;rw[NW vs (cs.set off v) (off+1) j ah];grind
theorem RA(D:R p h w){b off:Nat}{f:List V}{vs:List Value}(y:Au p f vs){h':H}(k:wr h b off f=some h'):
  ∃r m w',p[b]?=some (r,m)/\(storeCells ⟨r,off,none⟩ vs).run P w=.ok () w'/\Ext p h w p h' w':=by
 rw[Ab8]at k;unfold wr0 at k;split at k
 case h_2=>cases k
 rename_i cs t fz E;cases A:(zk (off+f.length) cs.length&&clear fz off f.length&&f.all V.one)with
 |false=>grind
 |true=>
  simp only[A,we,ze]at k;subst k;simp only[zn,z8,List.all_eq_true]at A;obtain⟨⟨c1,B⟩,c3⟩:=A;obtain⟨r,m,c,fz',h1,h2,h3,h4,h5,h6,h7⟩:=cell_of D E;have Z:=y.length;have o:∀v∈vs,v.oneCell'=true:=by
   intro v C;obtain⟨i,G⟩:=List.mem_iff_getElem?.1 C;have N:=(zm.1 G).1;obtain⟨u,a,g⟩:=y.get (i:=i) (d:=f[i]'ae) (by simp);rw[G]at a;cases a;exact g.one ah
  have s:∀j,0<=j->j<0+vs.length->¬(fz'.1<=off+j/\off+j<fz'.2):=by
   rintro j _ U ⟨L,K⟩;have:=h7 (off+j) ae L K;simp only[clear,yv,z8]at B;omega
  obtain⟨F,M,W,Q⟩:=FX (P:=P) vs w c off 0 h2 ae o s;refine⟨r,m,_,h1,M,Ext.put D E h1 ?_ rfl rfl rfl rfl (fun O t1 J S x=>?_)⟩
  case refine_2=>
   obtain⟨X,l2,Y⟩:=x;simp only[clear,yv,z8]at B;have I:F=c:=by
    apply Array.ext';apply List.ext_getElem?;grind
   grind
  refine⟨F,fz',rfl,by omega,by simp_all,?_,h7⟩;refine⟨by simp;omega,?_⟩;intro i d v l C q;rw[NW f cs off i ae]at l;by_cases e:off<=i/\i<off+f.length
  ·rw[wd e]at l;obtain⟨u,a,g⟩:=y.get l;grind
  ·rw[wc e]at l;obtain⟨u,a,g⟩:=h5.get l q;grind
def HJ(T:BV)(h:H)(t:TypeId)(a x:V):Option H:=
 match a,T.inf t with
 | .ptr b off,some i=>bif zh x.cells.length i.size then wr h b off x.cells else none
 |_,_=>none
theorem Z4(g:T.Ok P)(k:R p h w){t:TypeId}{a x:V}{d x':Value}(q:Ac p a d)(f:Ac p x x'){h':H}(c:HJ T h t a x=some h'):
  ∃w',(Instr.storeAt t d x').run P w=.ok () w'/\Ext p h w p h' w':=by
 unfold HJ at c;split at c
 case h_2=>cases c
 rename_i b off i o;rw[Bo]at c;by_cases e:x.cells.length=i.size
 ·simp only[e,decide_true,we]at c;obtain⟨r,n,l,rfl⟩:=q;obtain⟨r',m,w',h1,h2,h3⟩:=RA (P:=P) k f.cells c;rw[l]at h1;cases h1;refine⟨w',?_,h3⟩;have s:=f.cells.length;unfold Instr.storeAt yf;unfold storeVar;have:x'.cells.size=i.size:=ah
  simp only[zd,Bt g o,zc,this,vc,not_true_eq_false,vf];exact h2
 grind
theorem Cv(t:TypeId)(c:Array Value):(newRow t c).run P w=.ok ⟨w.heap.size,0,none⟩ { w with heap:=w.heap.push (.cells c t) }:=by
 rfl
def IV(h:H)(t:TypeId)(cs:List V):H:=h.push<|.cells cs t (0,0)
theorem Nn(d:R p h w)(t:TypeId){b:List V}{c:Array Value}(a:Au p b c.toList):
  ∃n,Ext p h w (p++[(w.heap.size,n)]) (IV h t b) { w with heap:=w.heap.push (.cells c t) }/\(p++[(w.heap.size,n)])[h.nx]?=some (w.heap.size,n)/\n=c.size:=by
 refine⟨c.size,Ext.push d ⟨c,(0,0),rfl,rfl,by have:=a.length;grind,?_,ae⟩,by rw[<-d.len];simp,rfl⟩;have:=a.length;rw[List.take_of_length_le ae];exact a.toC
def Gy(T:BV)(h:H)(t:TypeId):Option (V×H):=(T.inf t).map fun i=>(.ptr h.nx 0,IV h t i.zero)
theorem Y8(c:T.Ok P)(f:R p h w){t:TypeId}{v:V}{h':H}(b:Gy T h t=some (v,h')):
  ∃v' p' w',(Instr.alloc t true<|.tuple #[]).run P w=.ok v' w'/\Ac p' v v'/\Ext p h w p' h' w':=by
 unfold Gy at b;rw[zi]at b;obtain⟨i,d,a⟩:=b;cases a;obtain⟨z,hz,hzr⟩:=DY c d;obtain⟨n,a,hp,_⟩:=Nn f t<|hzr p;refine⟨.pointer<|some ⟨w.heap.size,0,none⟩,_,_,?_,?_,a⟩
 ·grind [Instr.alloc,zd,zc,newVar,Cv,zf]
 simp_all [Ac]
def Zh(h:H)(t:TypeId)(x:V):V×H:=(.ptr h.nx 0,IV h t x.cells)
theorem rD(c:R p h w){t:TypeId}{x:V}{x':Value}(b:Ac p x x'):
  ∃v' p' w',(Instr.box t x').run P w=.ok v' w'/\Ac p' (Zh h t x).1 v'/\Ext p h w p' (Zh h t x).2 w':=by
 obtain⟨n,a,d,_⟩:=Nn c t b.cells;refine⟨.pointer<|some ⟨w.heap.size,0,none⟩,_,_,?_,?_,a⟩
 ·rfl
 simp_all [Zh,Ac]
def Uc(op:BinOp)(x y:Z):Option V:=
 match op with
 | .add=>if x.length+y.length<=4611686018427387904 then some (.str<|x++y)else none
 | .eql=>some<|.bool<|x==y
 | .neq=>some<|.bool !(x==y)
 | .lss=>some<|.bool<|yt x y
 | .leq=>some<|.bool<|yt x y||x==y
 | .gtr=>some<|.bool !(yt x y||x==y)
 | .geq=>some<|.bool !yt x y
 |_=>none
theorem IN(s:Z):(bytesOf s).toList=s:=ByteArray.toList_mk s
theorem BU(s:Z):(bytesOf s).size=s.length:=by rfl
theorem PQ(x y:Z):bytesOf x++bytesOf y=bytesOf (x++y):=by
 rfl
theorem rX{op:BinOp}{x y:Z}{v:V}(a:Uc op x y=some v):
  ∃v',(Op.stringOp op (bytesOf x)<|bytesOf y).run P w=.ok v' w/\Ac p v v':=by
 unfold Op.stringOp;simp only[IN,BU];cases op<;>simp only[Uc]at a
 case add=>
  split at a
  ·cases a;rw[wc<|by grind [IntKind.max,IntKind.bits]];simp_all [Ac,PQ]
  grind
 all_goals first
  |(cases a;done)
  |(cases a;exact⟨_,zf ..,by simp[Ac]⟩)
def Oz(op:BinOp)(k:IntKind)(a b:Int):Option V:=
 match op with
 | .add=>some<|.int k<|k.wrap<|a+b
 | .sub=>some<|.int k<|k.wrap<|a-b
 | .mul=>some<|.int k<|k.wrap<|a*b
 | .quo=>if b=0 then none else some<|.int k<|k.wrap<|a.tdiv b
 | .rem=>if b=0 then none else some<|.int k<|a.tmod b
 | .and=>some<|.int k<|k.wrap (yb k.bits a&&&yb k.bits b).toNat
 | .or=>some<|.int k<|k.wrap (yb k.bits a|||yb k.bits b).toNat
 | .xor=>some<|.int k<|k.wrap (yb k.bits a^^^yb k.bits b).toNat
 | .andNot=>some<|.int k<|k.wrap (yb k.bits a&&& ~~~yb k.bits b).toNat
 | .eql=>some<|.bool<|a==b
 | .neq=>some<|.bool<|a !=b
 | .lss=>some<|.bool<|a<b
 | .leq=>some<|.bool<|a<=b
 | .gtr=>some<|.bool<|a>b
 | .geq=>some<|.bool<|a>=b
 |_=>none
def ZV(op:BinOp)(k:IntKind)(a b:Int):Option V:=
 if b<0 then none else
 match op with
 | .shl=>some<|.int k<|k.wrap<|a*2^(min b.toNat k.bits)
 | .shr=>some<|.int k<|a.fdiv<|2^(min b.toNat k.bits)
 |_=>none
def OD(ks:Option (List FK))(a b:List V):Option Bool:=
 match ks with
 |some ks=>bif fit ks a&&fit ks b then BO a b else none
 |none=>none
theorem Hn{ks:Option (List FK)}{a b:List V}{r:Bool}(h:OD ks a b=some r):∃l,ks=some l/\fit l a=true/\fit l b=true/\BO a b=some r:=by
 unfold OD at h;grind
def Bq(T:BV)(t:TypeId)(x y:V):Option Bool:=
 match T.und t,x,y with
 |some .bool,.bool a,.bool b=>some<|a==b
 |some (.pointer _),.nilp,y=>match y with| .nilp=>some true| .ptr .. =>some false|_=>none
 |some (.pointer _),.ptr ..,.nilp=>some false
 |some (.pointer e),.ptr a i,.ptr b j=>if a=b then match T.inf e with|some f=>if f.size≠0 then some (i==j)else none|_=>none else none
 |some (.interface _),.iface ..,.nili=>some false
 |some (.interface _),.nili,.iface .. =>some false
 |some (.slice _),.nils,y=>match y with| .nils=>some true| .sl .. =>some false| .esl=>some false| .es0=>some false|_=>none
 |some (.slice _),.sl ..,.nils=>some false
 |some (.slice _),.esl,.nils=>some false
 |some (.slice _),.es0,.nils=>some false
 |some (.map _ _),.nilm,y=>match y with| .nilm=>some true| .map .. =>some false|_=>none
 |some (.map _ _),.map ..,.nilm=>some false
 |some (.func ..),.nilf,.nilf=>some true
 |some (.func ..),.fn ..,.nilf=>some false
 |some (.func ..),.nilf,.fn .. =>some false
 |_,.agg c,.agg d=>OD (T.flat t) c d
 |_,_,_=>none
def Kh(T:BV)(op:BinOp)(t:TypeId)(x y:V):Option V:=
 match op,x,y with
 | .shl,.int k a,.int _ b=>ZV .shl k a b
 | .shr,.int k a,.int _ b=>ZV .shr k a b
 |op,.int k a,.int c b=>if k=c then Oz op k a b else none
 |op,.str a,.str b=>Uc op a b
 | .eql,x,y=>(Bq T t x y).map fun b=>.bool b
 | .neq,x,y=>(Bq T t x y).map fun b=>.bool !b
 |_,_,_=>none
theorem qX{op:BinOp}{k:IntKind}{a b:Int}{v:V}(d:op≠ .shl/\op≠ .shr)(c:Oz op k a b=some v)(t:TypeId):
  ∃v',(binOp op t (.int k a)<|.int k b).run P w=.ok v' w/\Ac p v v':=by
 cases op<;>simp only[Oz]at c<;>simp only[binOp,vc,not_true_eq_false,vf,Op.intArith,Op.intDiv,Op.intBits,Op.intCmp]
 case quo|rem=>
  split at c
  ·cases c
  ·cases c;simp_all [Ac]
 case shl=>grind
 case shr=>grind
 all_goals (cases c;exact⟨_,zf ..,by simp[Ac]⟩)
theorem Q7(g:T.Ok P){t:TypeId}{x y:V}{x' y':Value}(c:Ac p x x')(b:Ac p y y'){r:Bool}(a:Bq T t x y=some r):
  (yx t x' y').run P w=.ok r w:=by
 unfold Bq at a;split at a
 case h_16=>
  rename_i s B;obtain⟨l,k,d,q,o⟩:=Hn a;simp only[Ac]at c b;obtain⟨u,rfl,f⟩:=c;obtain⟨v,rfl,hv⟩:=b;exact g.flat t l k p s B u v r w d q f hv o
 case h_17=>cases a
 all_goals (rename_i f;simp only[Ac]at c b;unfold yx Op.maxDepth Op.equalIn;rw[zd,Ay g f];simp only[zc])
 case h_1=>simp_all
 case h_2=>subst c;split at a<;>first|(cases a;done)|(cases a;simp only[Ac]at b;first|(subst b;rfl)|(obtain⟨_,_,_,rfl⟩:=b;simp))
 case h_3=>obtain⟨_,_,_,rfl⟩:=c;simp_all
 case h_4=>
  split at a
  case isFalse=>cases a
  rename_i e;subst e;split at a
  case h_2=>cases a
  rename_i C m;split at a
  case isFalse=>cases a
  rename_i A;cases a;obtain⟨r1,n1,k,rfl⟩:=c;obtain⟨r2,n2,d,rfl⟩:=b;rw[k]at d;cases d;simp only[zd,Bt g m,zc,A,vc,not_false_eq_true,wm];unfold sameAddr;simp only[beq_self_eq_true,wm,zf];congr 1;grind
 case h_5=>obtain⟨_,rfl,_⟩:=c;simp_all
 case h_6=>obtain⟨_,rfl,_⟩:=b;simp_all
 case h_7=>subst c;split at a<;>first|(cases a;done)|(cases a;simp only[Ac]at b;first|(subst b;rfl)|(obtain⟨_,_,_,_,rfl,_⟩:=b;rfl)|(obtain⟨_,_,rfl⟩:=b;simp;done)|(obtain⟨_,rfl⟩:=b;simp;done))
 case h_8=>obtain⟨_,_,_,_,rfl,_⟩:=c;simp_all
 case h_9=>obtain⟨_,_,rfl⟩:=c;simp_all
 case h_10=>obtain⟨_,rfl⟩:=c;simp_all
 case h_11=>subst c;split at a<;>first|(cases a;done)|(cases a;simp only[Ac]at b;first|(subst b;rfl)|(obtain⟨_,_,_,rfl⟩:=b;simp))
 case h_12=>obtain⟨_,_,_,rfl⟩:=c;simp_all
 case h_13=>simp_all
 case h_14=>obtain⟨_,_,rfl,_⟩:=c;simp_all
 case h_15=>obtain⟨_,_,rfl,_⟩:=b;simp_all
def SA:V->Bool
 | .int .. | .str _| .tup _=>false
 |_=>true
theorem K8{t:TypeId}{x y:V}{r:Bool}(a:Bq T t x y=some r):SA x=true:=by
 unfold Bq at a;split at a<;>first|rfl|grind
theorem NG{t:TypeId}{x:V}{x' y':Value}(a:Ac p x x')(b:SA x=true):
  binOp .eql t x' y'=(do pure (.bool<|<-yx t x' y'))/\binOp .neq t x' y'=(do pure (.bool<|!(<-yx t x' y'))):=by
 cases x<;>simp only[SA]at b<;>simp only[Ac]at a
 case int|str|tup=>cases b
 case ptr=>obtain⟨_,_,_,rfl⟩:=a;cases y'<;>exact⟨rfl,rfl⟩
 case esl=>obtain⟨_,_,rfl⟩:=a;cases y'<;>exact⟨rfl,rfl⟩
 case es0=>obtain⟨_,rfl⟩:=a;cases y'<;>exact⟨rfl,rfl⟩
 case sl=>obtain⟨_,_,_,_,rfl,_⟩:=a;cases y'<;>exact⟨rfl,rfl⟩
 case map=>obtain⟨_,_,_,rfl⟩:=a;cases y'<;>exact⟨rfl,rfl⟩
 case yld=>obtain⟨_,_,_,rfl⟩:=a;cases y'<;>exact⟨rfl,rfl⟩
 case fn=>obtain⟨_,_,rfl,_⟩:=a;cases y'<;>exact⟨rfl,rfl⟩
 case iface=>obtain⟨_,rfl,_⟩:=a;cases y'<;>exact⟨rfl,rfl⟩
 case agg=>obtain⟨_,rfl,_⟩:=a;cases y'<;>exact⟨rfl,rfl⟩
 all_goals (subst a;cases y'<;>exact⟨rfl,rfl⟩)
theorem nY(f:T.Ok P){op:BinOp}{t:TypeId}{x y:V}{x' y':Value}(d:Ac p x x')(g:Ac p y y'){v:V}(a:Kh T op t x y=some v):
  ∃v',(binOp op t x' y').run P w=.ok v' w/\Ac p v v':=by
 unfold Kh at a;split at a
 case h_1=>
  unfold ZV at a;split at a
  ·cases a
  ·cases a;simp_all [binOp,Op.shift,wc,Ac]
 case h_2=>
  unfold ZV at a;split at a
  ·cases a
  ·cases a;simp_all [binOp,Op.shift,wc,Ac]
 case h_3=>
  simp_all [Ac,qX]
 case h_4=>
  simp_all [Ac,rX,binOp]
 case h_5=>
  rw[zi]at a;obtain⟨b,c,rfl⟩:=a;rw[(NG d<|K8 c).1];simp only[zd,Q7 f d g c,zc];simp_all [Ac]
 case h_6=>
  rw[zi]at a;obtain⟨b,c,rfl⟩:=a;rw[(NG d<|K8 c).2];simp only[zd,Q7 f d g c,zc];simp_all [Ac]
 grind
theorem TF{a:V}{c:Value}(b:Ac p a c)(h:a≠ .nili):c≠ .nilIface:=by
 intro e;subst e;cases a<;>simp only[Ac]at b<;>first|exact h rfl|(simp at b;done)|(done)|(done)|(done)|(done)
theorem fI{a:V}{c:Array Value}(d:Ac p a (.agg c)):∃b,a=.agg b/\Au p b c.toList:=by
 cases a<;>simp only[Ac]at d<;>first|(done)|grind|grind|grind|grind
theorem PG{op:BinOp}{t:TypeId}{x y:Operand}{b b':Value}(a:op≠ .eql)(c:op≠ .neq):eqGuard op t x y b b'=pure ():=by
 cases op<;>first|rfl|exact wh rfl a|grind
theorem Zg{op:BinOp}{t:TypeId}{x y:Operand}{a b':Value}(h0:a≠ .nilIface\/b'≠ .nilIface)(f:(∃c d,a=.agg c/\b'=.agg d)->P.eqGuardType P.depth t=false):
  (eqGuard op t x y a b').run P w=.ok () w:=by
 by_cases b:op=.eql\/op=.neq
 ·have:eqGuard op t x y a b'=eqGuard .eql t x y a b':=by rcases b with rfl|rfl<;>rfl
  rw[this];unfold eqGuard;simp only[Bool.not_true,zp,vf];split
  ·grind
  ·simp_all
  ·rfl
 simp_all [PG]
theorem Z8(u:T.Ok P){op:BinOp}{t:TypeId}{x y:Operand}{a b:V}{m b':Value}(D:Ac p a m)(C:Ac p b b'){v:V}(q:Kh T op t a b=some v):
  (eqGuard op t x y m b').run P w=.ok () w:=by
 by_cases o:op=.eql\/op=.neq
 ·refine Zg ?_ ?_
  ·by_cases A:a=.nili
   ·by_cases B:b=.nili
    ·subst A B;have:Bq T t .nili .nili=none:=by simp_all [Bq]
     rcases o with rfl|rfl<;>simp[Kh,this]at q
    grind [TF]
   grind [TF]
  ·rintro⟨c,d,rfl,rfl⟩;obtain⟨f,rfl,k⟩:=fI D;obtain⟨ys,rfl,h2⟩:=fI C;have g:Bq T t (.agg f) (.agg ys)=OD (T.flat t) f ys:=by simp_all [Bq]
   cases s:OD (T.flat t) f ys with
   |some r=>obtain⟨l,k,_⟩:=Hn s;exact u.guard t l k
   |none=>
    rw[s]at g;rcases o with rfl|rfl<;>simp[Kh,g]at q
 simp_all [PG]
def dun(op:UnOp)(x:V):Option V:=
 match op,x with
 | .neg,.int k n=>some<|.int k<|k.wrap<|0-n
 | .xor,.int k n=>Oz .xor k (if k.signed then -1 else k.max) n
 | .not,.bool b=>some<|.bool !b
 |_,_=>none
theorem wQ{op:UnOp}{x:V}{x':Value}(b:Ac p x x'){v:V}(a:dun op x=some v):∃v',(Op.unary op x').run P w=.ok v' w/\Ac p v v':=by
 unfold dun at a;split at a
 case h_1=>subst b;cases a;exact⟨_,rfl,by rfl⟩
 case h_2=> 
  subst b;simp only[Oz,ze]at a;subst a;exact⟨_,rfl,by rfl⟩
 case h_3=>subst b;cases a;exact⟨_,rfl,by rfl⟩
 grind
def vA:V->Option UInt8
 | .int .u8 (.ofNat n)=>some<|UInt8.ofNat n
 |_=>none
def bytes?:List V->Option Z
 |[]=>some []
 |v::vs=>
  match vA v,bytes? vs with
  |some b,some a=>some (b::a)
  |_,_=>none
def FG(T:BV)(h:H)(src dst:TypeId)(x:V):Option V:=
 match T.und src,T.und dst,x with
 |some _,some<|.int k,.int _ n=>some<|.int k<|k.wrap n
 |some _,some .string,.str s=>some<|.str s
 |some (.slice e),some .string,.nils=>match T.und e with|some (.int .u8)=>some (.str [])|_=>none
 |some (.slice e),some .string,.sl b off len _ _=>
  match T.und e with
  |some (.int .u8)=>match rd h b off len with
   |some cs=>(bytes? cs).map .str
   |none=>none
  |_=>none
 |_,_,_=>none
theorem MK{f:Value->ByteArray->Sem (ForInStep ByteArray)}(q:∀n s,f (.int .u8 n) s=pure (ForInStep.yield<|s.push<|UInt8.ofNat n.toNat)):
  ∀(cs:List V) (vs:List Value) (g:Z) (a:Z),Au p cs vs->bytes? cs=some g->
  ∀w,(forIn vs (bytesOf a) f).run P w=.ok (bytesOf<|a++g) w
 |[],vs,g,a,d,k,w=>by
  simp_all [bytes?]
 |c::cs,[],_,_,d,_,_=>by simp at d
 |c::cs,v::vs,g,a,d,k,w=>by
  simp only[Bb]at d;unfold bytes? at k;split at k
  case h_2=>cases k
  rename_i b tl o l;unfold vA at o;split at o
  case h_2=>cases o
  rename_i n;have m:=d.1;simp only[Ac]at m;have:=MK q cs vs tl (a++[UInt8.ofNat n]) d.2 l w;grind [bytesOf,ByteArray.push]
theorem gP(b:T.Ok P)(s:R p h w){src dst:TypeId}{x:V}{x':Value}(l:Ac p x x'){v:V}(a:FG T h src dst x=some v):
  ∃v',(convert src dst x').run P w=.ok v' w/\Ac p v v':=by
 unfold FG at a;split at a
 case h_1=>
  rename_i d f;subst l;cases a;unfold convert;simp only[zd,Ay b d,Ay b f,zc];exact⟨_,rfl,by rfl⟩
 case h_2=>
  rename_i d f;cases a;unfold convert;simp only[zd,Ay b d,Ay b f,zc];simp_all [Ac]
 case h_3=>
  rename_i d f;subst l;split at a
  case h_2=>cases a
  rename_i o;cases a;unfold convert;simp only[zd,Ay b d,Ay b f,Ay b o,zc];exact⟨_,rfl,by rfl⟩
 case h_4=>
  rename_i d f;split at a
  case h_2=>cases a
  rename_i o;split at a
  case h_2=>cases a
  rename_i cs g;rw[zi]at a;obtain⟨q,k,rfl⟩:=a;obtain⟨r,n,c,g1,rfl,g2⟩:=l;obtain⟨r',m,vs,k1,k2,k3,_⟩:=run_loadCells (P:=P) s g;rw[g1]at k1;cases k1;refine⟨.string<|bytesOf q,?_,by rfl⟩;unfold convert;simp only[zd,Ay b d,Ay b f,Ay b o,zc];unfold Conv.bytesToString;simp only[zd,k2,zc];simp only[List.forIn_toArray];have e:ByteArray.empty=bytesOf []:=rfl;rw[e,MK (P:=P) (by simp) cs vs q [] k3 k w];simp
 grind
def KM(T:BV)(t:TypeId)(cs:List V)(off:Nat):Option V:=
 match T.und t,T.inf t with
 |some d,some i=>bif DZ d then some (.agg<|(cs.drop off).take i.size)else cs[off]?
 |_,_=>none
theorem UH(f:T.Ok P){t:TypeId}{cs:List V}{c:Array Value}{off:Nat}(g:Au p cs c.toList){v:V}(a:KM T t cs off=some v):
  ∃v',(part t c off).run P w=.ok v' w/\Ac p v v':=by
 unfold KM at a;split at a
 case h_2=>cases a
 rename_i d i k l;unfold part;simp only[zd,Rg f k,zc];cases b:DZ d with
 |true=>
  simp only[b,we,ze]at a;subst a;simp only[wm,zd,Bt f l,zc];refine⟨_,(by rfl),?_⟩;refine⟨_,rfl,?_⟩;have:(c.extract off<|off+i.size).toList=(c.toList.drop off).take i.size:=by
   simp
  rw[this];exact(g.drop off).take i.size
 |false=>
  simp only[b,wg]at a;obtain⟨u,o,m⟩:=g.get a;simp_all
def J8(T:BV)(t:TypeId)(x:V)(f:Nat):Option V:=
 match T.und t,x with
 |some (.struct fs),.agg cs=>match fs[f]? with
  |some a=>KM T a.type cs a.offset
  |none=>none
 |_,_=>none
theorem ZT(b:T.Ok P){t:TypeId}{x:V}{x':Value}{f:Nat}(l:Ac p x x'){v:V}(a:J8 T t x f=some v):
  ∃v',(Instr.field t x' f).run P w=.ok v' w/\Ac p v v':=by
 unfold J8 at a;split at a
 case h_2=>cases a
 rename_i fs cs d;split at a
 case h_2=>cases a
 rename_i m g;obtain⟨c,rfl,k⟩:=l;unfold Instr.field;simp only[zd,Ay b d,zc,g];exact UH b k a
def Ki(T:BV)(t:TypeId)(x:V)(f:Nat):Option V:=
 match T.und t,x with
 |some (.struct fs),.ptr b off=>match fs[f]? with
  |some a=>match T.inf a.type with
   |some i=>if i.size=0 then none else some<|.ptr b<|off+a.offset
   |none=>none
  |none=>none
 |_,_=>none
theorem Za(c:T.Ok P){t:TypeId}{x:V}{x':Value}{f:Nat}(l:Ac p x x'){v:V}(a:Ki T t x f=some v):
  ∃v',(Instr.fieldAt t x' f).run P w=.ok v' w/\Ac p v v':=by
 unfold Ki at a;split at a
 case h_2=>cases a
 rename_i fs b off k;split at a
 case h_2=>cases a
 rename_i o g;split at a
 case h_2=>cases a
 rename_i i m;split at a
 case isTrue=>cases a
 rename_i d;cases a;obtain⟨r,n,q,rfl⟩:=l;unfold Instr.fieldAt;simp only[zd,Ay c k,zc,g];unfold yf fieldPlace;simp only[zf,zc,zd,Bt c m,d,vf,Addr.LG];simp_all [Ac]
def E2(T:BV)(t:TypeId)(x ix:V):Option V:=
 match T.und t,x,ix with
 |some (.slice e),.sl b off len _ _,.int _ i=>
  match T.inf e,i with
  |some a,.ofNat n=>bif z7 n len then some (.ptr b<|off+n*a.size)else none
  |_,_=>none
 |some (.array len e),.ptr b off,.int _ i=>
  match T.inf e,i with
  |some a,.ofNat n=>bif z7 n len then some (.ptr b<|off+n*a.size)else none
  |_,_=>none
 |_,_,_=>none
theorem Gf(a b:Nat):z7 a b=decide (a<b):=by
 rw[Bool.eq_iff_iff];simp
theorem aM(q:T.Ok P){t:TypeId}{x ix:V}{x' l:Value}(s:Ac p x x')(g:Ac p ix l){v:V}(d:E2 T t x ix=some v):
  ∃v',(Instr.indexAt t x' l).run P w=.ok v' w/\Ac p v v':=by
 unfold E2 at d;split at d
 case h_3=>cases d
 case h_1=>
  rename_i e b off len cap o k i u;split at d
  case h_2=>cases d
  rename_i B n y;rw[Gf]at d;by_cases f:n<len
  ·simp only[f,decide_true,we,ze]at d;subst d;simp only[Ac]at s g;obtain⟨r,m,c,A,rfl,_⟩:=s;subst g;unfold Instr.indexAt asIntOf;have a:(0:Int)<=(n:Int)/\(n:Int)<(len:Int):=⟨by simp,by simpa using f⟩;simp only[zd,zf,Ay q u,zc,a,and_self,wm,Bt q y,Addr.LG,zy,yc];exact⟨_,rfl,by simp only[Ac];exact⟨_,_,A,rfl⟩⟩
  ·simp[f]at d
 case h_2=>
  rename_i len e b off k i u;split at d
  case h_2=>cases d
  rename_i B n y;rw[Gf]at d;by_cases f:n<len
  ·simp only[f,decide_true,we,ze]at d;subst d;simp only[Ac]at s g;obtain⟨r,m,A,rfl⟩:=s;subst g;unfold Instr.indexAt asIntOf yf;have a:(0:Int)<=(n:Int)/\(n:Int)<(len:Int):=⟨by simp,by simpa using f⟩;simp only[zd,zf,Ay q u,zc,a,and_self,wm,Bt q y,Addr.LG,zy,yc];exact⟨_,rfl,by simp only[Ac];exact⟨_,_,A,rfl⟩⟩
  ·simp[f]at d
def IL(T:BV)(t:TypeId)(x ix:V):Option V:=
 match T.und t,x,ix with
 |some .string,.str s,.int _ (.ofNat n)=>match s[n]? with
  |some b=>some<|.int .u8 b.toNat
  |none=>none
 |some (.array len e),.agg cs,.int _ (.ofNat n)=>
  match T.inf e with
  |some a=>bif z7 n len then KM T e cs (n*a.size)else none
  |_=>none
 |_,_,_=>none
theorem aF(m:T.Ok P){t:TypeId}{x ix:V}{x' l:Value}(o:Ac p x x')(d:Ac p ix l){v:V}(a:IL T t x ix=some v):
  ∃v',(Instr.index t x' l).run P w=.ok v' w/\Ac p v v':=by
 unfold IL at a;split at a
 case h_3=>cases a
 case h_1=>
  rename_i s k n q;split at a
  case h_2=>cases a
  rename_i b r;cases a;simp only[Ac]at o d;subst o d;unfold Instr.index asIntOf;have e:(bytesOf s)[n]?=some b:=by
   have y:=(zm.1 r).1;have u:=(zm.1 r).2;rw[getElem?_pos (bytesOf s) n<|by rw[BU];exact y];congr 1
  simp only[zd,zf,Ay m q,zc,zy,Int.natCast_nonneg,wm,yc,e];exact⟨_,rfl,by simp[Ac]⟩
 case h_2=>
  rename_i len e cs k n q;split at a
  case h_2=>cases a
  rename_i B u;rw[Gf]at a;by_cases f:n<len
  ·simp only[f,decide_true,we]at a;simp only[Ac]at o d;obtain⟨c,rfl,A⟩:=o;subst d;unfold Instr.index asIntOf;have g:(0:Int)<=(n:Int)/\(n:Int)<(len:Int):=⟨by simp,by simpa using f⟩;simp only[zd,zf,Ay m q,zc,g,and_self,wm,Bt m u,zy,yc];exact UH m A a
  ·simp[f]at a
def GP(x:V)(i:Nat):Option V:=
 match x with
 | .tup vs=>vs[i]?
 |_=>none
theorem Tt{x:V}{x':Value}{i:Nat}(d:Ac p x x'){v:V}(a:GP x i=some v):∃v',(Instr.extract x' i).run P w=.ok v' w/\Ac p v v':=by
 unfold GP at a;split at a
 case h_2=>cases a
 obtain⟨c,rfl,b⟩:=d;obtain⟨u,h1,h2⟩:=b.get a;simp_all [Instr.extract]
def Jo(x:Option V)(y HA:Nat):Option Nat:=
 match x with
 |none=>some HA
 |some (.int _<|.ofNat n)=>bif zk n y then some n else none
 |_=>none
def Ms(mx:Option V)(o:Nat):Nat:=match mx with|some _=>0|none=>o
def iI(a mx:Option V):Option Nat:=match a,mx with
 |none,some _=>none
 |_,_=>Jo a 0 0
def ON(mx:Option V):Bool:=match mx with
 |some _=>true
 |none=>false
def DH(T:BV)(t:TypeId)(x:V)(c a mx:Option V):Option V:=
 match T.und t,x with
 |some .string,.str s=>
  match mx,Jo a s.length s.length with
  |none,some h=>match Jo c h 0 with
   |some l=>some<|.str<|(s.drop l).take<|h-l
   |none=>none
  |_,_=>none
 |some (.slice e),.sl b off len cap o=>
  match T.inf e,Jo mx cap cap with
  |some d,some m=>match (match a,mx with|none,some _=>none|_,_=>Jo a m len)with
   |some h=>match Jo c h 0 with
    |some l=>
     let o':=Ms mx o
     bif zh m l then(bif zh o' 0 then some (.sl b off (h-l) (m-l) 0)else some .esl)
     else bif zh o' 0||zh o' d.size then some (.sl b (off+l*d.size) (h-l) (m-l) o')else none
    |none=>none
   |none=>none
  |_,_=>none
 |some (.slice e),.nils=>
  match Jo mx 0 0,iI a mx,T.inf e with
  |some _,some h,some _=>match Jo c h 0 with
   |some _=>some .nils
   |none=>none
  |_,_,_=>none
 |some (.slice e),.esl=>
  match Jo mx 0 0,iI a mx,T.inf e with
  |some _,some h,some _=>match Jo c h 0 with
   |some _=>some<|bif ON mx then .es0 else .esl
   |none=>none
  |_,_,_=>none
 |some (.slice e),.es0=>
  match Jo mx 0 0,iI a mx,T.inf e with
  |some _,some h,some _=>match Jo c h 0 with
   |some _=>some .es0
   |none=>none
  |_,_,_=>none
 |some (.array n e),.ptr b off=>
  match T.inf e,mx,Jo a n n with
  |some d,none,some h=>match Jo c h 0 with
   |some l=>bif zh n l then some (.sl b off (h-l) (n-l) 0)else some<|.sl b (off+l*d.size) (h-l) (n-l) 0
   |none=>none
  |_,_,_=>none
 |_,_=>none
def G0(p:Pl):Option V->Option Value->Prop
 |none,x=>x=none
 |some d,x=>∃v,x=some v/\Ac p d v
theorem BX{x:Option V}{x':Option Value}{y z n y':Nat}(g:G0 p x x')(b:Jo x y z=some n)(l:y<=y'):
  (x=none/\x'=none/\n=z)\/(∃d u,x=some d/\x'=some u/\n<=y/\∀a (P:Program) (w:World),(Instr.sliceBound u y' a).run P w=.ok n w):=by
 cases x with
 |none=>simp_all [G0,Jo]
 |some d=>
  obtain⟨u,rfl,f⟩:=g;unfold Jo at b;split at b
  case h_1=>grind
  case h_3=>cases b
  rename_i k m e;cases e;by_cases c:m<=y
  ·simp only[Nat.ble_eq_true_of_le c,we,ze]at b;simp only[Ac]at f;unfold Instr.sliceBound asIntOf;have o:(0:Int)<=(m:Int)/\(m:Int)<=(y':Int):=ae;simp_all
  ·have:zk m y=false:=by simp_all [Bool.eq_false_iff]
   grind
theorem Ij{x o mx:Option V}{g q r:Option Value}(k:G0 p x g)(b:G0 p o q)(f:G0 p mx r){m h l:Nat}(A:Jo mx 0 0=some m)(B:iI o mx=some h)(v:Jo x h 0=some l)(c:Nat):
  (zt true 0 c g q r).run P w=.ok (0,0,bif ON mx then 0 else c) w:=by
 unfold iI at B;have h0:h=0:=by
  have:Jo o 0 0=some h:=by
   grind
  rcases BX b this (zg _)with⟨_,_,rfl⟩|⟨_,_,_,_,h,_⟩<;>omega
 subst h0;unfold zt;cases mx with
 |none=>
  have a:Jo o 0 0=some 0:=ah
  simp only[G0]at f;rcases BX b a (Nat.zero_le c)with⟨_,rfl,_⟩|⟨_,u,_,rfl,_,y⟩<;>rcases BX k v (zg _)with⟨_,rfl,_⟩|⟨_,u2,_,rfl,_,s⟩
  all_goals simp_all [ON]
 |some d=>
  cases o with
  |none=>grind
  |some E=>
   have a:Jo (some E) 0 0=some 0:=ae
   rcases BX f A (Nat.zero_le c)with⟨h,_,_⟩|⟨_,F,_,rfl,D,C⟩
   ·cases h
   ·obtain rfl:m=0:=ae
    rcases BX b a ae with⟨h,_,_⟩|⟨_,u,_,rfl,_,y⟩
    ·cases h
    ·rcases BX k v ae with⟨_,rfl,_⟩|⟨_,u2,_,rfl,_,s⟩
     all_goals simp_all [ON]
theorem ZI(E:T.Ok P){t:TypeId}{x:V}{lo hi mx:Option V}{x':Value}{J K N:Option Value}(M:Ac p x x')(A:G0 p lo J)(q:G0 p hi K)(C:G0 p mx N)
  {v:V} (f:DH T t x lo hi mx=some v):∃v',(zr t x' J K N).run P w=.ok v' w/\Ac p v v':=by
 unfold DH at f;split at f
 case h_7=>cases f
 case h_1=>
  rename_i s F;split at f
  case h_2=>cases f
  rename_i y g;split at f
  case h_2=>cases f
  rename_i l G;cases f;simp only[G0]at C;subst C;simp only[Ac]at M;subst M;refine⟨.string<|bytesOf<|(s.drop l).take<|y-l,?_,by rfl⟩;unfold zr;simp only[zd,Ay E F,zc];unfold yn;simp only[zd,Ay E F,zc,Option.isSome_none,zp,vf,BU];unfold zt;have e:(bytesOf s).extract l y=bytesOf ((s.drop l).take<|y-l):=by
   apply ByteArray.ext;simp_all [bytesOf]
  rcases BX q g (zg _)with⟨_,rfl,rfl⟩|⟨_,u,_,rfl,_,hu⟩<;>rcases BX A G (zg _)with⟨_,rfl,rfl⟩|⟨_,u2,_,rfl,_,X⟩
  all_goals simp_all
 case h_2=>
  rename_i e b off len cap o F;split at f
  case h_2=>cases f
  rename_i Z m Y hm;split at f
  case h_2=>cases f
  rename_i y g;split at f
  case h_2=>cases f
  rename_i l G;simp only[Ac]at M;obtain⟨r,n,c,hp,rfl,hlen,Q,ho1,ho2⟩:=M;obtain⟨L,gm2,hhm,R,hbounds⟩:∃L,((mx=none/\L=c/\m=cap)\/(mx≠none/\L=m))/\y<=m/\l<=y/\(zt true len c J K N).run P w=.ok (l,y,L) w:=by
   have R:l<=y:=by
    rcases BX A G (zg _)with⟨_,_,rfl⟩|⟨_,_,_,_,h,_⟩
    ·omega
    omega
   rcases BX C hm Q with⟨rfl,rfl,rfl⟩|⟨dm,um,rfl,rfl,hm1,hum⟩
   ·have B:Jo hi m len=some y:=ah
    refine⟨c,(by simp),?_,R,?_⟩
    ·rcases BX q B Q with⟨_,_,rfl⟩|⟨_,_,_,_,h,_⟩
     ·omega
     omega
    ·unfold zt;rcases BX q B Q with⟨_,rfl,rfl⟩|⟨_,u,_,rfl,_,hu⟩<;>rcases BX A G (zg _)with⟨_,rfl,rfl⟩|⟨_,u2,_,rfl,_,X⟩
     all_goals simp_all
   ·cases hi with
    |none=>grind
    |some dh=>
     have B:Jo (some dh) m len=some y:=ae
     refine⟨m,(by simp),?_,R,?_⟩
     ·rcases BX q B ae with⟨h,_⟩|⟨_,_,_,_,h,_⟩
      ·cases h
      omega
     ·unfold zt;rcases BX q B (zg _)with⟨h,_,_⟩|⟨_,u,_,rfl,_,hu⟩
      ·cases h
      ·rcases BX A G (zg _)with⟨_,rfl,rfl⟩|⟨_,u2,_,rfl,_,X⟩
       all_goals simp_all
  have gm1:m<=L:=ae
  have D:(zr t (.slice (some ⟨r,off,none⟩) len c) J K N).run P w=.ok (.slice (if L=l then some ⟨r,off,none⟩else some ⟨r,off+l*Z.size,none⟩) (y-l)<|L-l) w:=by
   unfold zr;simp only[zd,Ay E F,zc];unfold yn;simp only[zd,Ay E F,zc,hbounds,Bt E Y,zf];simp
  refine⟨_,D,?_⟩;simp only[Bo]at f;by_cases I:m=l
  ·simp only[I,decide_true,we]at f;by_cases S:Ms mx o=0
   ·simp only[S,decide_true,we,ze]at f;subst f;have hm':L=l:=by
     grind [Ms]
    simp_all [Ac]
   ·simp only[S,decide_false,wg,ze]at f;subst f;have W:y-l=0:=ae
    simp only[W,Ac];grind
  ·simp only[I,decide_false,wg]at f;by_cases S:Ms mx o=0\/Ms mx o=Z.size
   ·have U:(decide (Ms mx o=0)||decide (Ms mx o=Z.size))=true:=ah
    simp only[U,we,ze]at f;subst f;have hne:L≠l:=ae
    simp only[hne,vf,Ac];refine⟨r,n,_,hp,rfl,by omega,by omega,fun k=>?_,fun k=>?_⟩
    ·grind [Ms]
    ·rcases gm2 with⟨k1,k2,k3⟩|⟨k1,k2⟩
     ·subst k1;simp only[Ms]at k S ⊢;rcases S with S|S
      ·omega
      ·have:=ho2 k;subst k2;rw[<-S];have e:off+l*o+(L-l)*o=off+L*o:=by
        rw[Nat.sub_mul];have:l*o<=L*o:=zz _ ae;omega
       omega
     ·cases mx with
      |none=>grind
      |some d=>simp[Ms]at k
   grind
 case h_3=>
  rename_i e F;split at f
  case h_2=>cases f
  rename_i mm y tz O g W;split at f
  case h_2=>cases f
  rename_i l G;cases f;simp only[Ac]at M;subst M;refine⟨.slice none 0 0,?_,by rfl⟩;unfold zr;simp only[zd,Ay E F,zc];unfold yn;simp only[zd,Ay E F,zc,Ij (P:=P) (w:=w) A q C O g G 0];cases mx<;>simp[ON,Bt E W]
 case h_4=>
  rename_i e F;split at f
  case h_2=>cases f
  rename_i mm y tz O g W;split at f
  case h_2=>cases f
  rename_i l G;simp only[Ac]at M;obtain⟨a,c,rfl⟩:=M;have D:∃a',(zr t (.slice (some a) 0 c) J K N).run P w=.ok (.slice (some a') 0<|bif ON mx then 0 else c) w:=by
   unfold zr;simp only[zd,Ay E F,zc];unfold yn;simp only[zd,Ay E F,zc,Ij (P:=P) (w:=w) A q C O g G c];simp only[Bt E W,zc,zf,Nat.sub_zero,Nat.sub_self];split
   ·simp
   simp
  obtain⟨a',ha'⟩:=D;refine⟨_,ha',?_⟩;cases f;cases mx with
  |none=>simp_all [ON,Ac]
  |some d=>simp_all [ON,Ac]
 case h_5=>
  rename_i e F;split at f
  case h_2=>cases f
  rename_i mm y tz O g W;split at f
  case h_2=>cases f
  rename_i l G;cases f;simp only[Ac]at M;obtain⟨a,rfl⟩:=M;refine⟨.slice (some a) 0 0,?_,by simp_all [Ac]⟩;unfold zr;simp only[zd,Ay E F,zc];unfold yn;simp only[zd,Ay E F,zc,Ij (P:=P) (w:=w) A q C O g G 0];cases mx<;>simp[ON,Bt E W]
 case h_6=>
  rename_i nn e b off F;split at f
  case h_2=>cases f
  rename_i Z y Y g;split at f
  case h_2=>cases f
  rename_i l G;simp only[G0]at C;subst C;simp only[Ac]at M;obtain⟨r,n,hp,rfl⟩:=M;have R:l<=y:=by rcases BX A G (zg _)with⟨_,_,rfl⟩|⟨_,_,_,_,h,_⟩<;>omega
  have hhn:y<=nn:=by rcases BX q g (zg _)with⟨_,_,rfl⟩|⟨_,_,_,_,h,_⟩<;>omega
  have D:(zr t (.pointer<|some ⟨r,off,none⟩) J K none).run P w=.ok (.slice (some<|if nn=l then⟨r,off,none⟩else⟨r,off+l*Z.size,none⟩) (y-l)<|nn-l) w:=by
   unfold zr;simp only[zd,Ay E F,zc];unfold yf zt;rcases BX q g (zg _)with⟨_,rfl,rfl⟩|⟨_,u,_,rfl,_,hu⟩<;>rcases BX A G (zg _)with⟨_,rfl,rfl⟩|⟨_,u2,_,rfl,_,X⟩
   all_goals simp only[Option.isSome_none,zp,vf,zd,zf,zc,Bt E Y,Addr.LG, *]
  refine⟨_,D,?_⟩;simp only[Bo]at f;by_cases I:nn=l
  ·simp only[I,decide_true,we,ze]at f;subst f;simp_all [Ac]
  ·simp only[I,decide_false,wg,ze]at f;subst f;simp only[I,vf,Ac];grind
def i64(n:Nat):V:=.int .i64<|.ofNat n
def Fu(T:BV)(h:H)(ts:Array TypeId)(args:List V):Option V:=
 match ts[0]?,args with
 |some t,[x]=>
  match T.und t,x with
  |some .string,.str s=>some<|i64 s.length
  |some (.array n _),_=>some<|i64 n
  |some (.slice _),.sl _ _ len _ _=>some<|i64 len
  |some (.slice _),.nils=>some<|i64 0
  |some (.slice _),.esl=>some<|i64 0
  |some (.slice _),.es0=>some<|i64 0
  |some (.map _ _),.nilm=>some<|i64 0
  |some (.map _ _),.map b=>match h.get b with
   |some (.map es _)=>some<|i64 es.length
   |_=>none
  |_,_=>none
 |_,_=>none
theorem Au.one{ds:V}{l:List Value}(a:Au p [ds] l):∃v,l=[v]/\Ac p ds v:=by
 match l,a with
 |[v],h=>simp_all
 |[],h=>simp at h
 |_::_::_,h=>simp at h
theorem Au.two{d e:V}{l:List Value}(a:Au p [d,e] l):∃v u,l=[v,u]/\Ac p d v/\Ac p e u:=by
 match l,a with
 |[v,u],h=>exact⟨v,u,rfl,by simp_all⟩
 |[],h=>simp at h
 |[_],h=>simp at h
 |_::_::_::_,h=>simp at h
theorem Dw.length{es:List (V×V×Nat)}{l:List MapEntry}(h:Dw p es l):es.length=l.length:=by
 induction h with
 |nil=>rfl
 |cons _ _ _ _ a=>simp[a]
theorem rJ(y:T.Ok P)(k:R p h w){ts:Array TypeId}{t:TypeId}{args:List V}{args':Array Value}(s:Au p args args'.toList){v:V}(a:Fu T h ts args=some v):
  ∃v',(Builtin.len_ ts t args').run P w=.ok v' w/\Ac p v v':=by
 unfold Fu at a;split at a
 case h_2=>cases a
 rename_i t0 x m;obtain⟨x',c,b⟩:=s.one;have d:args'[0]?=some x':=by rw[<-yg,c];rfl
 unfold Builtin.len_;simp only[m,d];split at a
 case h_9=>cases a
 all_goals (rename_i u;simp only[zd,Ay y u,zc];try simp only[Ac]at b)
 case h_1=>cases a;simp_all [i64,Ac,goInt,BU]
 case h_2=>cases a;simp_all [i64,Ac,goInt]
 case h_3=>obtain⟨_,_,_,_,rfl,_⟩:=b;cases a;simp_all [i64,Ac,goInt]
 case h_4=>cases a;simp_all [i64,Ac,goInt]
 case h_5=>obtain⟨_,_,rfl⟩:=b;cases a;simp_all [i64,Ac,goInt]
 case h_6=>obtain⟨_,rfl⟩:=b;cases a;simp_all [i64,Ac,goInt]
 case h_7=>cases a;simp_all [i64,Ac,goInt]
 case h_8=>
  obtain⟨r,n,C,rfl⟩:=b;split at a
  case h_2=>cases a
  rename_i es E A;cases a;obtain⟨D,n',o,f,B,l,q,g⟩:=k.obj _ _ A;rw[C]at f;cases f;subst q;refine⟨goInt l.size,?_,?_⟩
  ·simp[getObj,yw,B]
  ·have:=g.length;simp only[i64,Ac,goInt];grind
def dJ(a b:V):Option V:=
 match a,b with
 | .int k x,.int _ y=>some<|.int k<|if y>x then y else x
 |_,_=>none
def rQ(a b:V):Option V:=
 match a,b with
 | .int k x,.int _ y=>some<|.int k<|if y<x then y else x
 |_,_=>none
def dfold(f:V->V->Option V):V->List V->Option V
 |x,[]=>some x
 |x,y::a=>match f x y with
  |some z=>dfold f z a
  |none=>none
theorem PY{f:V->V->Option V}{g:Value->Value->Sem Value}(o:∀ {a b c:V} {q b':Value},Ac p a q->Ac p b b'->f a b=some c->∃r,(g q b').run P w=.ok r w/\Ac p c r):
  ∀(m:List V) (k:List Value) (x:V) (x':Value),Ac p x x'->Au p m k->∀ {v:V},dfold f x m=some v->∃v',(k.foldlM g x').run P w=.ok v' w/\Ac p v v'
 |[],k,x,x',s,d,v,l=>by
  cases l;simp_all
 |y::m,[],_,_,_,d,_,_=>by simp at d
 |y::m,y'::k,x,x',s,d,v,l=>by
  simp only[Bb]at d;unfold dfold at l;split at l
  case h_2=>cases l
  rename_i z u;obtain⟨A,C,B⟩:=o s d.1 u;obtain⟨v',h3,h4⟩:=PY o m k z A B d.2 l;simp_all
def Ge(f:V->V->Option V)(args:List V):Option V:=
 match args with
 |[]=>none
 |x::a=>dfold f x a
theorem oY{ts:Array TypeId}{t:TypeId}{args:List V}{args':Array Value}(g:Au p args args'.toList){v:V}(d:Ge dJ args=some v):
  ∃v',(Builtin.max_ ts t args').run P w=.ok v' w/\Ac p v v':=by
 unfold Ge at d;split at d
 case h_1=>cases d
 rename_i x o;unfold Builtin.max_;cases l:args'.toList with
 |nil=>simp_all
 |cons x' k=>
  rw[l]at g;simp only[Bb]at g;refine PY (fun {a b c r b'} m q f=>?_) o k x x' g.1 g.2 d;unfold dJ at f;split at f
  case h_2=>cases f
  subst m q;cases f;exact⟨_,rfl,by rfl⟩
theorem mX{ts:Array TypeId}{t:TypeId}{args:List V}{args':Array Value}(g:Au p args args'.toList){v:V}(d:Ge rQ args=some v):
  ∃v',(Builtin.min_ ts t args').run P w=.ok v' w/\Ac p v v':=by
 unfold Ge at d;split at d
 case h_1=>cases d
 rename_i x o;unfold Builtin.min_;cases l:args'.toList with
 |nil=>simp_all
 |cons x' k=>
  rw[l]at g;simp only[Bb]at g;refine PY (fun {a b c r b'} m q f=>?_) o k x x' g.1 g.2 d;unfold rQ at f;split at f
  case h_2=>cases f
  subst m q;cases f;exact⟨_,rfl,by rfl⟩
def Iz(place:Nat->Option (Nat×Nat))(cells:List V):List (Nat×V)->Option (List V)
 |[]=>some cells
 |(i,v)::a=>
  match place i with
  |none=>none
  |some (off,size)=>bif zh v.cells.length size&&zk (off+size) cells.length then Iz place (GO cells off v.cells) a else none
theorem UC:∀(b:List V) (vs:List Value) (cs:List V) (c:Array Value) (off:Nat),Au p b vs->Au p cs c.toList->
  ∀k,Au p (GO cs (off+k) b) ((vs.zipIdx k).foldl (fun cs (c,j)=>cs.setIfInBounds (off+j) c) c).toList
 |[],vs,cs,c,off,a,d,k=>by simp_all [GO]
 |x::b,[],_,_,_,a,_,_=>by simp at a
 |x::b,v::vs,cs,c,off,a,d,k=>by
  simp only[Bb]at a;simp only[GO,List.zipIdx_cons,List.foldl_cons];have:=UC b vs (cs.set (off+k) x) (c.setIfInBounds (off+k) v) off a.2 (by simpa using d.set (off+k) a.1)<|k+1;omega
inductive Uh (p:Pl):List (Nat×V)->List (Nat×Value)->Prop
 |nil:Uh p [] []
 |cons {i:Nat} {v:V} {v':Value} {l:List (Nat×V)} {l':List (Nat×Value)}:Ac p v v'->Uh p l l'->Uh p ((i,v)::l) ((i,v')::l')
theorem Ld{place:Nat->Option (Nat×Nat)}:∀ {l:List (Nat×V)} {l':List (Nat×Value)},Uh p l l'->∀ {cs:List V} {c:Array Value} {out:List V},Au p cs c.toList->Iz place cs l=some out->
  ∃o,Instr.fill place c l'=some o/\Au p out o.toList:=by
 intro l l' f;induction f with
 |nil=>intro cs c out d b;cases b;exact⟨c,rfl,d⟩
 |@cons i v v' l l' g f r=>
  intro cs c out d b;unfold Iz at b;split at b
  case h_1=>cases b
  rename_i off size k;cases a:(zh v.cells.length size&&zk (off+size) cs.length)with
  |false=>grind
  |true=>
   simp only[zn,z8,Bo,w5]at a;have m:=g.cells.length;have q:=d.length;unfold Instr.fill;have:=UC (p:=p) v.cells v'.cells.toList cs c off g.cells d 0;grind [Array.toList_zipIdx]
def Kb(T:BV)(t:TypeId)(a:List (Nat×V)):Option V:=
 match T.inf t,T.und t with
 |some i,some (.struct fs)=>
  match fs.toList.mapM (fun f=>(T.inf f.type).map fun j=>(f.offset,j.size))with
  |some pl=>(Iz (fun i=>pl[i]?) i.zero a).map .agg
  |none=>none
 |some i,some (.array _ e)=>match T.inf e with
  |some j=>(Iz (fun i=>some (i*j.size,j.size)) i.zero a).map .agg
  |none=>none
 |_,_=>none
theorem run_places(a:T.Ok P):∀ {fs:List Field} {pl:List (Nat×Nat)},fs.mapM (fun f=>(T.inf f.type).map fun j=>(f.offset,j.size))=some pl->
  ∀w,(fs.mapM<|fun f=>(do pure (f.offset, <-sizeOf f.type):Sem (Nat×Nat))).run P w=.ok pl w
 |[],pl,h,w=>by simp_all
 |f::fs,pl,h,w=>by
  cases b:T.inf f.type with
  |none=>grind
  |some j=>
   cases c:fs.mapM (fun f=>(T.inf f.type).map fun j=>(f.offset,j.size))with
   |none=>grind
   |some d=>
    simp[b,c]at h;subst h;rw[List.mapM_cons];simp only[zd,Bt a b,zc,zf,run_places a c]
theorem Zt(d:T.Ok P){t:TypeId}{b:List (Nat×V)}{a:Array (Nat×Value)}(r:Uh p b a.toList){v:V}(c:Kb T t b=some v):
  ∃v',(Instr.build t a).run P w=.ok v' w/\Ac p v v':=by
 unfold Kb at c;split at c
 case h_3=>cases c
 case h_1=>
  rename_i i fs l g;split at c
  case h_2=>cases c
  rename_i pl k;rw[zi]at c;obtain⟨out,q,rfl⟩:=c;obtain⟨z,hz,hzr⟩:=DY d l;have s:(fs.mapM<|fun f=>(do pure (f.offset, <-sizeOf f.type):Sem (Nat×Nat))).run P w=.ok pl.toArray w:=by
   rw[Array.mapM_eq_mapM_toList];simp only[Sem.run_map,run_places d k,zc]
  obtain⟨o,m,u⟩:=Ld (p:=p) (place:=fun i=>pl.toArray[i]?) r (hzr p) (out:=out) ah;refine⟨.agg o,?_,by simp_all [Ac]⟩;unfold Instr.build;simp only[zd,hz,zc,Ay d g];simp_all
 case h_2=>
  rename_i i n e l g;split at c
  case h_2=>cases c
  rename_i j x;rw[zi]at c;obtain⟨out,q,rfl⟩:=c;obtain⟨z,hz,hzr⟩:=DY d l;obtain⟨o,m,u⟩:=Ld (p:=p) (place:=fun i=>some (i*j.size,j.size)) r (hzr p) q;refine⟨.agg o,?_,by simp_all [Ac]⟩;unfold Instr.build;simp only[zd,hz,zc,Ay d g,Bt d x,m,zf]
def E7(z:List V)(n:Nat):List V:=(List.range n).map fun i=>z.getD (i % z.length)<|.tup []
theorem Jp{z:List V}{c:Array Value}(b:Au p z c.toList)(a:0<z.length)(n:Nat):Au p (E7 z n) ((Array.range n).map<|fun i=>c[i % c.size]!).toList:=by
 have q:=b.length;apply Au.mk (by simp[E7]);intro i d v g l;have f:i<n:=ah
 simp only[E7,List.getElem?_map,List.getElem?_range f,Option.map_some,ze]at g;have k:i % z.length<z.length:=Nat.mod_lt _ a;obtain⟨u,m,o⟩:=b.get (i:=i % z.length) (d:=z[i % z.length]) (by simp[k]);grind
def Ey(T:BV)(h:H)(t:TypeId)(len:Nat)(a:List (Nat×V)):Option (V×H):=
 match T.und t with
 |some (.slice e)=>match T.inf e with
  |some i=>
   bif zk (len*i.size) 16777216&&z7 0 (i.zero.length)&&zh i.zero.length i.size then
    match Iz (fun k=>some (k*i.size,i.size)) (E7 i.zero<|len*i.size) a with
    |some cs=>some (.sl h.nx 0 len len 0,IV h e cs)
    |none=>none
   else none
  |none=>none
 |_=>none
theorem V7(f:T.Ok P)(s:R p h w){t:TypeId}{len:Nat}{c:List (Nat×V)}{b:Array (Nat×Value)}(u:Uh p c b.toList){v:V}{h':H}
  (d:Ey T h t len c=some (v,h')):∃v' p' w',(Instr.buildSlice t len b).run P w=.ok v' w'/\Ac p' v v'/\Ext p h w p' h' w':=by
 unfold Ey at d;split at d
 case h_2=>cases d
 rename_i e q;split at d
 case h_2=>cases d
 rename_i i m;cases a:(zk (len*i.size) 16777216&&z7 0 (i.zero.length)&&zh i.zero.length i.size)with
 |false=>grind
 |true=>
  simp only[a,we]at d;simp only[zn,z8,Nat.blt_eq,Bo,w5]at a;obtain⟨⟨A,r⟩,y⟩:=a;split at d
  case h_2=>cases d
  rename_i cs g;cases d;obtain⟨z,x,l⟩:=DY f m;obtain⟨o,h1,h2⟩:=Ld (p:=p) (place:=fun k=>some (k*i.size,i.size)) u (Jp (l p) r<|len*i.size) g;obtain⟨n,he,hpn,hn⟩:=Nn s e h2;refine⟨.slice (some ⟨w.heap.size,0,none⟩) len len,_,_,?_,?_,he⟩
  ·unfold Instr.buildSlice;simp only[zd,Ay f q,zc,Bt f m];by_cases h0:len*i.size=0
   ·grind [zd,zf,zc,Cv]
   simp_all [Cv]
  simp_all [Ac]
def Pr(T:BV)(h:H)(t:TypeId)(len cap:V):Option (V×H):=
 match T.und t,len,cap with
 |some (.slice e),.int _<|.ofNat l,.int _ (.ofNat c)=>
  match T.inf e with
  |some i=>
   bif zk l c&&z7 c 9223372036854775808&&zk (i.bytes*c) 281474976710656&&z7 0 i.zero.length&&zh i.zero.length i.size then
    some (.sl h.nx 0 l c 0,IV h e<|E7 i.zero<|c*i.size)
   else none
  |none=>none
 |_,_,_=>none
theorem wrap_small(c:Nat)(h:c<9223372036854775808):IntKind.i64.wrap (c:Int)=c:=IntWalk.i64_in _ ae
theorem iG(g:T.Ok P)(x:R p h w){t:TypeId}{len cap:V}{d b:Value}(s:Ac p len d)(y:Ac p cap b){v:V}{h':H}(f:Pr T h t len cap=some (v,h')):
  ∃v' p' w',(Instr.makeSlice t d b).run P w=.ok v' w'/\Ac p' v v'/\Ext p h w p' h' w':=by
 unfold Pr at f;split at f
 case h_2=>cases f
 rename_i e k l A c r;split at f
 case h_2=>cases f
 rename_i i m;cases a:(zk l c&&z7 c 9223372036854775808&&zk (i.bytes*c) 281474976710656&&z7 0 i.zero.length&&zh i.zero.length i.size)with
 |false=>grind
 |true=>
  simp only[a,we,ze,zw]at f;obtain⟨rfl,rfl⟩:=f;simp only[zn,z8,Nat.blt_eq,Bo,w5]at a;obtain⟨⟨⟨⟨c1,c2⟩,c3⟩,c4⟩,c5⟩:=a;subst s y;obtain⟨z,hz,hzr⟩:=DY g m;obtain⟨j,hj,hjb,_⟩:=Po g m;obtain⟨n,he,hpn,hn⟩:=Nn x e<|Jp (hzr p) c4<|c*i.size;refine⟨.slice (some ⟨w.heap.size,0,none⟩) l c,_,_,?_,?_,he⟩
  ·unfold Instr.makeSlice asInt asIntOf;simp only[zd,zf,Ay g r,zc,hj,zy,wrap_small c c2,wrap_small l ae,hjb];have o:(i.bytes:Int)*(c:Int)=((i.bytes*c:Nat):Int):=(by rfl);rw[o];generalize i.bytes*c=q at c3 o ⊢;have u:¬((decide ((c:Int)<0)||decide ((q:Int)>2^48))||decide ((l:Int)<0)||decide ((l:Int)>(c:Int)))=true:=by
    grind
   rw[wc u];simp only[zd,zc,run_askRoom,Bt g m,yc];by_cases h0:c*i.size=0
   ·grind [zd,zf,zc,Cv]
   simp_all [Cv]
  simp_all [Ac]
def src(h:H)(size:Nat)(x:V)(n:Nat):Option (List V):=
 match x with
 | .nils=>some []
 | .esl=>bif zh n 0 then some []else none
 | .es0=>bif zh n 0 then some []else none
 | .sl b off _ _ _=>rd h b off<|n*size
 | .str s=>some<|(s.take n).map fun c=>.int .u8 c.toNat
 |_=>none
def Pa:V->Option Nat
 | .nils=>some 0
 | .esl=>some 0
 | .es0=>some 0
 | .sl _ _ len _ _=>some len
 | .str s=>some s.length
 |_=>none
theorem Pz{x:V}{x':Value}(b:Ac p x x'){n:Nat}(a:Pa x=some n):(yj x').run P w=.ok n w:=by
 unfold Pa at a;split at a
 case h_1=>subst b;cases a;rfl
 case h_2=>obtain⟨_,_,rfl⟩:=b;cases a;rfl
 case h_3=>obtain⟨_,rfl⟩:=b;cases a;rfl
 case h_4=>obtain⟨_,_,_,_,rfl,_⟩:=b;cases a;rfl
 case h_5=>simp_all [Ac,yj,BU]
 grind
theorem KU(f:R p h w){size n:Nat}{x:V}{x':Value}(d:Ac p x x'){cs:List V}(b:src h size x n=some cs):
  ∃vs:List Value,(zl size n x').run P w=.ok vs.toArray w/\Au p cs vs:=by
 unfold src at b;split at b
 case h_6=>cases b
 case h_1=>subst d;cases b;exact⟨[],rfl,by simp⟩
 case h_2=>
  obtain⟨a,c,rfl⟩:=d;rw[Bo]at b;by_cases e:n=0
  ·simp_all [zl,loadCells,loadCellsFrom]
  grind
 case h_3=>
  obtain⟨a,rfl⟩:=d;rw[Bo]at b;by_cases e:n=0
  ·simp_all [zl,loadCells,loadCellsFrom]
  grind
 case h_4=>
  obtain⟨r,m,c,g,rfl,_⟩:=d;obtain⟨r',m',vs,h1,h2,h3,_⟩:=run_loadCells (P:=P) f b;rw[g]at h1;cases h1;exact⟨vs,h2,h3⟩
 case h_5=>
  rename_i s;simp only[Ac]at d;refine⟨(s.take n).map fun c=>.int .u8 c.toNat,?_,?_⟩
  ·simp_all [zl,bytesOf]
  grind [Au.mk,Ac]
theorem Vx(a c:Nat)(h:c<a):2*z6 a c<=3*a+2000:=by
 unfold z6;grind [Builtin.growBy]
def isInt:TypeDesc->Bool
 | .int _=>true
 |_=>false
def OJ:V->Bool
 | .str _=>false
 |_=>true
def Gc(T:BV)(h:H)(ts:Array TypeId)(args:List V):Option (V×H):=
 match ts[0]?,ts[1]?,args with
 |some t,some tx,[s,x]=>
  match T.und t,T.und tx,Pa x with
  |some (.slice e),some dx,some n=>
   match T.inf e,isInt dx with
   |some i,false=>
    bif z7 0 i.bytes&&z7 0 i.size&&zh i.zero.length i.size&&(zh i.size 1||OJ x)then
     match src h i.size x n with
     |some new=>
      match s with
      | .nils=>
       bif zh n 0 then some (.nils,h)
       else bif zk ((3*n+2000)*i.bytes) 562949953421312 then some (.sl h.nx 0 n n i.size,IV h e new)else none
      | .es0=>
       bif zh n 0 then some (.es0,h)
       else bif zk ((3*n+2000)*i.bytes) 562949953421312 then some (.sl h.nx 0 n n i.size,IV h e new)else none
      | .esl=>bif zh n 0 then some (.esl,h)else none
      | .sl b off len cap o=>
       bif zk (len+n) cap then(wr h b (off+len*i.size) new).map fun h'=>(.sl b off (len+n) cap o,h')
       else bif zk ((3*(len+n)+2000)*i.bytes) 562949953421312 then
        match src h i.size s len with
        |some old=>
         bif zh o 0 then some (.sl h.nx 0 (len+n) (len+n) i.size,IV h e<|old++new)
         else
          match h.get b with
          |some (.cells _ a fz)=>
           bif zh off 0&&zh o i.size&&zh a e&&zk fz.2 fz.1&&new.all V.one then some (.sl h.nx 0 (len+n) (len+n) i.size,(h.kill b).push<|.cells (old++new) e (0,0))
           else none
          |_=>none
        |none=>none
       else none
      |_=>none
     |none=>none
    else none
   |_,_=>none
  |_,_,_=>none
 |_,_,_=>none
theorem Qn{old new:List V}{vo vn:List Value}(b:Au p old vo)(c:Au p new vn)(a:Array Value):
  Au p (old++new) ((vo.toArray++vn.toArray++a).toList.take (old++new).length):=by
 have d:=b.length;have f:=c.length;have:((vo.toArray++vn.toArray++a).toList.take (old++new).length)=vo++vn:=by
  grind
 rw[this];exact b.append c
section
variable {ts:Array TypeId}{t t0 tx e:TypeId}{dx:TypeDesc}{i:TI}{n:Nat}{x' z:Value}{j:TypeInfo}
theorem O3(f:T.Ok P)(k:ts[0]?=some t0)(g:ts[1]?=some tx)(q:T.und t0=some (.slice e))(m:T.und tx=some dx)(l:isInt dx=false)
  (s:T.inf e=some i) (r:∀w,(yj x').run P w=.ok n w) (base:Option Addr) (d c:Nat) (o:d+n<=c):
  (zu ts t #[.slice base d c,x']).run P w=((zl i.size n x').run P w).andThen fun new w'=>((match base with|some a=>storeCells (a.add<|d*i.size) new.toList|none=>pure ():Sem Unit).run P w').andThen fun _ w'=>.ok (.slice base (d+n) c) w':=by
 unfold zu;cases dx<;>first|(cases l;done)|skip
 all_goals
  simp only[k,g,yh,yd,ye,zd,Ay f q,Ay f m,Bt f s,zc,zf,zp,vf,r,o,wm,Bool.not_false];cases base with
  |none=>rfl
  |some b=>simp only[zd,zf]
theorem QJ(f:T.Ok P)(l:ts[0]?=some t0)(k:ts[1]?=some tx)(x:T.und t0=some (.slice e))(o:T.und tx=some dx)(m:isInt dx=false)
  (v:T.inf e=some i) (u:0<i.bytes) (y:∀w,(zeroValue e).run P w=.ok z w) (B:∀w,(yj x').run P w=.ok n w) (base:Option Addr) (a c:Nat) (s:c<a+n)
  (b:(3*(a+n)+2000)*i.bytes<=562949953421312):
  ∃g,a+n<=g/\(zu ts t #[.slice base a c,x']).run P w=((zl i.size a<|.slice base a c).run P { w with drawn:=w.drawn+1 }).andThen fun old w'=>
   ((zl i.size n x').run P w').andThen fun new w'=>
    .ok (.slice (some ⟨w'.heap.size,0,none⟩) (a+n) g) { w' with heap:=w'.heap.push (.cells (old++new++zo z.cells (g-(a+n))) e) }:=by
 obtain⟨j,D,r,F⟩:=Po f v;have q:=Vx (a+n) c s;have d:2*z6 (a+n) c*i.bytes<=562949953421312:=yr (zz _ q) b;rw[Nat.mul_assoc]at d;have E:z6 (a+n) c*i.bytes<=281474976710656:=ae
 refine⟨(Question.appendCap (a+n) c e).cut<|w.tape w.drawn<|.appendCap (a+n) c e,by simp[Question.cut],?_⟩;unfold zu;have A:¬(a+n<=c):=ae
 have C:¬(z6 (a+n) c*i.bytes>2^48):=ae
 have G:¬(i.bytes=0):=ae
 cases dx<;>first|(cases m;done)|skip
 all_goals
  simp only[l,k,yh,yd,ye,zd,Ay f x,Ay f o,Bt f v,zc,zf,zp,vf,B,Bool.not_false,wm,
   A,D,r,G,or_self,and_false,C,run_choose,Question.forced,run_askRoom,y,Cv]
end
theorem Ii(z:Array Value)(n:Nat):(zo z n).size=n*z.size:=by simp[zo]
theorem Og{size n:Nat}{x:V}{cs:List V}(b:Pa x=some n)(c:size=1\/∀s,x≠ .str s)(a:src h size x n=some cs):cs.length=n*size:=by
 unfold src at a;split at a
 case h_6=>cases a
 case h_1=>cases a;cases b;simp
 case h_2=>
  cases b;grind
 case h_3=>
  cases b;grind
 case h_4=>
  rw[YK]at a;grind [rd0]
 case h_5=>
  cases b;grind
theorem VA(X:T.Ok P)(C:R p h w){ts:Array TypeId}{t:TypeId}{args:List V}{args':Array Value}(ha:Au p args args'.toList){v:V}{h':H}(a:Gc T h ts args=some (v,h')):
  ∃v' p' w',(zu ts t args').run P w=.ok v' w'/\Ac p' v v'/\Ext p h w p' h' w':=by
 unfold Gc at a;split at a
 case h_2=>cases a
 rename_i t0 tx s x L J;obtain⟨s',x',G,U,hx⟩:=ha.two;have ha0:args'[0]?=some s':=by rw[<-yg,G];rfl
 have ha1:args'[1]?=some x':=by rw[<-yg,G];rfl
 split at a
 case h_2=>cases a
 rename_i e dx n hu M K;split at a
 case h_2=>cases a
 rename_i i hi F;cases y:(z7 0 i.bytes&&z7 0 i.size&&zh i.zero.length i.size&&(zh i.size 1||OJ x))with
 |false=>grind
 |true=>
  simp only[y,we]at a;simp only[zn,Nat.blt_eq,Bo,w5,yv]at y;obtain⟨⟨⟨c1,c2⟩,c3⟩,c4⟩:=y;have c5:i.size=1\/∀s,x≠ .str s:=c4.imp id (fun h s e=>by subst e;cases h);split at a
  case h_2=>cases a
  rename_i new A;have hnl:=Og K c5 A;obtain⟨vn,W,B⟩:=KU (P:=P) C hx A;obtain⟨j,hj,hjb,hjs⟩:=Po X hi;obtain⟨z,hz,hzr⟩:=DY X hi;have hzl:=(hzr p).length;simp at hzl;have hne:args'= #[s',x']:=ah
  subst hne;have g:∀w,(yj x').run P w=.ok n w:=fun w=>Pz hx K
  have E:∀(base:Option Addr) (c:Nat),n=0->(zu ts t #[.slice base 0 c,x']).run P w=.ok (.slice base 0 c) w:=by
   intro base c h0;rw[O3 X L J hu M F hi g base 0 c ae,W];have hv0:vn=[]:=by
    simp_all
   subst hv0;cases base<;>simp[h0,storeCells]
  have some0:∀(base:Option Addr),¬n=0->(3*n+2000)*i.bytes<=562949953421312->∃v' p' w',(zu ts t #[.slice base 0 0,x']).run P w=.ok v' w'/\Ac p' (.sl h.nx 0 n n i.size) v'/\Ext p h w p' (IV h e new) w':=by
   intro base h0 hb;obtain⟨l,hnc,N⟩:=QJ (w:=w) (t:=t) X L J hu M F hi c1 hz g base 0 0 ae ah;simp only[Nat.zero_add]at N hnc;have f:=Ext.drew C<|w.drawn+1;obtain⟨vn',hvn',hvnr'⟩:=KU (P:=P) f.rel hx A;have I:=Ext.push (n:=l*i.size) f.rel (o:=.cells new e (0,0)) (x:=.cells (#[]++vn'.toArray++zo z.cells (l-n)) e) ?_
   ·refine⟨.slice (some ⟨w.heap.size,0,none⟩) n l,_,_,?_,?_,f.trans I⟩
    ·rw[N];have hf:∀w,(zl i.size 0<|Value.slice base 0 0).run P w=.ok #[] w:=by
      intro w;cases base<;>simp[zl,loadCells,loadCellsFrom]
     grind [zc]
    ·simp only[Ac];refine⟨w.heap.size,l*i.size,l,by rw[<-C.len];simp,rfl,zg _,by omega,ae,ae⟩
   ·have hl:=hvnr'.length;have hsz:(#[]++vn'.toArray++zo z.cells (l-n)).size=l*i.size:=by
     simp_all [Ii,Nat.sub_mul,zz]
    refine⟨_,(0,0),rfl,hsz,?_,?_,ae⟩
    ·grind
    ·have:=Qn (p:=p) (old:=[]) (vo:=[]) (by simp) hvnr'<|zo z.cells<|l-n;simpa using this.toC
  split at a
  case h_5=>cases a
  case h_1=>
   simp only[Ac]at U;subst U;rw[Bo]at a;by_cases h0:n=0
   ·simp only[h0,decide_true,we,ze,zw]at a;obtain⟨rfl,rfl⟩:=a;exact⟨.slice none 0 0,p,w,ah,by rfl,Ext.refl C⟩
   ·simp only[h0,decide_false,wg]at a;cases hb:zk ((3*n+2000)*i.bytes) 562949953421312 with
    |false=>grind
    |true=>
     simp_all
  case h_2=>
   simp only[Ac]at U;obtain⟨a0,rfl⟩:=U;rw[Bo]at a;by_cases h0:n=0
   ·simp only[h0,decide_true,we,ze,zw]at a;obtain⟨rfl,rfl⟩:=a;exact⟨_,p,w,E (some a0) 0 h0,by simp[Ac],Ext.refl C⟩
   ·simp only[h0,decide_false,wg]at a;cases hb:zk ((3*n+2000)*i.bytes) 562949953421312 with
    |false=>grind
    |true=>
     simp_all
  case h_3=>
   simp only[Ac]at U;obtain⟨a0,c0,rfl⟩:=U;rw[Bo]at a;by_cases h0:n=0
   ·simp only[h0,decide_true,we,ze,zw]at a;obtain⟨rfl,rfl⟩:=a;exact⟨_,p,w,E (some a0) c0 h0,by simp[Ac],Ext.refl C⟩
   grind
  case h_4=>
   rename_i b off len cap o;simp only[Ac]at U;obtain⟨r,m,c,hp,rfl,hlen,hcap,ho1,ho2⟩:=U;cases hle:zk (len+n) cap with
   |true=>
    simp only[hle,we,zi,zw]at a;obtain⟨h1,hw,rfl,rfl⟩:=a;rw[z8]at hle;obtain⟨r',m',w',g1,g2,g3⟩:=RA (P:=P) C B hw;rw[hp]at g1;cases g1;refine⟨.slice (some ⟨r,off,none⟩) (len+n) c,p,w',?_,?_,g3⟩
    ·rw[O3 X L J hu M F hi g _ len c ae,W];simp_all
    ·simp only[Ac];grind
   |false=>
    simp only[hle,wg]at a;have hle':¬(len+n<=cap):=by grind [z8]
    cases hb:zk ((3*(len+n)+2000)*i.bytes) 562949953421312 with
    |false=>grind
    |true=>
     simp only[hb,we]at a;rw[z8]at hb;split at a
     case h_2=>cases a
     rename_i old D;have hol:=Og (x:=.sl b off len cap o) (n:=len) rfl (by simp) D;have hsrel:∀q:Pl,(∃q',q=p++q')->Ac q (.sl b off len cap o) (.slice (some ⟨r,off,none⟩) len c):=by
      rintro q ⟨q',rfl⟩;exact Ac.mono q' (by simp_all)
     have fresh:∀(_:c<len+n) (h2:H),R p h2 { w with drawn:=w.drawn+1 }->h2.nx=h.nx->
       ∃v' p' w',(zu ts t #[.slice (some ⟨r,off,none⟩) len c,x']).run P w=.ok v' w'/\Ac p' (.sl h.nx 0 (len+n) (len+n) i.size) v'/\
        Ext p h2 { w with drawn:=w.drawn+1 } p' (h2.push<|.cells (old++new) e (0,0)) w':=by
      intro hlt h2 hr2 hnx;obtain⟨l,hnc,N⟩:=QJ (w:=w) (t:=t) X L J hu M F hi c1 hz g (some ⟨r,off,none⟩) len c hlt hb;have f:=Ext.drew C<|w.drawn+1;obtain⟨vn',hvn',hvnr'⟩:=KU (P:=P) f.rel hx A;obtain⟨vo',hvo',hvor'⟩:=KU (P:=P) (x:=.sl b off len cap o) f.rel (hsrel p<|by simp) D;have hl:=hvnr'.length;have hl2:=hvor'.length;have hsz:(vo'.toArray++vn'.toArray++zo z.cells (l-(len+n))).size=l*i.size:=by
       have e1:vn'.length=n*i.size:=ae
       have e2:vo'.length=len*i.size:=ae
       simp only[Array.size_append,Ii,List.size_toArray,e1,e2, <-hzl,c3,Nat.sub_mul,Nat.add_mul];have:(len+n)*i.size<=l*i.size:=zz _ ae;grind
      have I:=Ext.push (n:=l*i.size) hr2 (o:=.cells (old++new) e (0,0)) (x:=.cells (vo'.toArray++vn'.toArray++zo z.cells (l-(len+n))) e)
       ⟨_,(0,0),rfl,hsz,by grind,(Qn hvor' hvnr' _).toC,ae⟩
      refine⟨.slice (some ⟨w.heap.size,0,none⟩) (len+n) l,_,_,?_,?_,I⟩
      ·grind [zc]
      ·simp only[Ac];refine⟨w.heap.size,l*i.size,l,?_,rfl,zg _,by omega,ae,ae⟩;rw[<-hnx, <-hr2.len];simp
     rw[Bo]at a;by_cases h0:o=0
     ·simp only[h0,decide_true,we,ze,zw]at a;obtain⟨rfl,rfl⟩:=a;have:=ho1 h0;have f:=Ext.drew C<|w.drawn+1;obtain⟨v',p',w',k1,k2,k3⟩:=fresh ae h f.rel rfl;exact⟨v',p',w',k1,k2,f.trans k3⟩
     ·simp only[h0,decide_false,wg]at a;split at a
      case h_2=>cases a
      rename_i cs te fz hbk;cases Y:(zh off 0&&zh o i.size&&zh te e&&zk fz.2 fz.1&&new.all V.one)with
      |false=>grind
      |true=>
       simp only[Y,we,ze,zw]at a;obtain⟨rfl,rfl⟩:=a;simp only[zn,z8,Bo,w5,List.all_eq_true]at Y;obtain⟨⟨⟨⟨rfl,rfl⟩,rfl⟩,d4⟩,d5⟩:=Y;by_cases S:len+n<=c
       ·
        obtain⟨r',m',cc,fz',g1,g2,g3,g4,g5,g6,g7⟩:=cell_of C hbk;rw[hp]at g1;cases g1;have hm:=ho2 h0;have hl:=B.length;have hone:∀v∈vn,v.oneCell'=true:=by
         intro v hv;obtain⟨k,hk⟩:=List.mem_iff_getElem?.1 hv;have hk':=(zm.1 hk).1;obtain⟨u,O,Z⟩:=B.get (i:=k) (d:=new[k]'ae) (by simp);rw[hk]at O;cases O;exact Z.one ah
        have hbnd:len*i.size+n*i.size<=c*i.size:=by rw[<-Nat.add_mul];simp_all [zz]
        obtain⟨cc',k1,k2,k3⟩:=FX (P:=P) vn w cc (len*i.size) 0 g2 ae hone (by
         grind)
        have hrd:old=cs.take (len*i.size)/\len*i.size<=cs.length:=by
         unfold src at D;simp_all [YK,rd0]
        refine⟨.slice (some ⟨r,0,none⟩) (len+n) c,p++[(r,m)],{ w with heap:=w.heap.setIfInBounds r (.cells cc' te fz') },?_,?_,Ext.move C (o':=.cells (old++new) te (0,0)) hbk hp ⟨cc',fz',rfl,by omega,?_,?_,?_⟩ rfl rfl rfl rfl (fun _ _ _ e1 hlk=>by cases e1;obtain⟨l1,_,l3⟩:=hlk;omega)⟩
        ·rw[O3 X L J hu M F hi g _ len c S,W];simp_all
        ·simp only[Ac];exact⟨r,m,c,by rw[<-C.len];simp,rfl,zg _,S,ae,fun _=>hm⟩
        ·grind
        ·refine⟨?_,?_⟩
         ·grind
         ·intro k d v Q hvk hokk;have hkl:k<(old++new).length:=ah;rw[zq hkl,k3]at hvk;rw[List.length_append,hol,hnl]at hkl;simp only[Nat.add_zero,List.getElem?_map]at hvk;rw[List.getElem?_range ae]at hvk;by_cases hk:k<len*i.size
          ·rw[List.getElem?_append_left ae,hrd.1,zq hk]at Q;obtain⟨u,O,Z⟩:=g5.get Q hokk;grind
          ·rw[List.getElem?_append_right ae,hol]at Q;obtain⟨u,O,Z⟩:=B.get Q;grind
        grind
       ·have hk:=Ext.kill C b;have f:=Ext.drew hk.rel<|w.drawn+1;obtain⟨v',p',w',k1,k2,k3⟩:=fresh ae (h.kill b) f.rel rfl;exact⟨v',p',w',k1,k2,(hk.trans f).trans k3⟩
def jR(T:BV)(h:H)(ts:Array TypeId)(args:List V):Option (V×H):=
 match ts[0]?,args with
 |some t,[d,x]=>
  match T.und t,Pa d,Pa x with
  |some (.slice e),some a,some n=>
   match T.inf e with
   |some i=>
    match src h i.size x (Nat.min n a)with
    |some new=>
     match d with
     | .nils=>some (i64<|Nat.min n a,h)
     | .sl b off _ _ _=>(wr h b off new).map fun h'=>(i64<|Nat.min n a,h')
     |_=>none
    |none=>none
   |none=>none
  |_,_,_=>none
 |_,_=>none
theorem fP(s:T.Ok P)(o:R p h w){ts:Array TypeId}{t:TypeId}{args:List V}{args':Array Value}(D:Au p args args'.toList){v:V}{h':H}(a:jR T h ts args=some (v,h')):
  ∃v' p' w',(Builtin.copy_ ts t args').run P w=.ok v' w'/\Ac p' v v'/\Ext p h w p' h' w':=by
 unfold jR at a;split at a
 case h_2=>cases a
 rename_i t0 d x y;obtain⟨F,x',A,l,q⟩:=D.two;have u:args'= #[F,x']:=ah
 subst u;split at a
 case h_2=>cases a
 rename_i e I n E b B;split at a
 case h_2=>cases a
 rename_i i C;split at a
 case h_2=>cases a
 rename_i new f;obtain⟨vn,k,g⟩:=KU (P:=P) o q f;unfold Builtin.copy_;simp only[y,yh,yd,ye,zd,Ay s E,zc];split at a
 case h_3=>cases a
 case h_1=>
  subst l;simp only[Pa,ze]at b;subst b;cases a;simp only[zd,Pz q B,Bt s C,zc,k];refine⟨_,p,w,(by rfl),?_,Ext.refl o⟩;rfl
 case h_2=>
  simp only[Pa,ze]at b;subst b;obtain⟨r,m,c,G,rfl,_⟩:=l;rw[zi]at a;obtain⟨h1,hw,he⟩:=a;cases he;obtain⟨r',m',w',g1,g2,g3⟩:=RA (P:=P) o g hw;rw[G]at g1;cases g1;simp only[zd,Pz q B,Bt s C,zc,k,g2];refine⟨_,p,w',(by rfl),?_,g3⟩;rfl
def Sb(T:BV)(h:H)(t:TypeId)(x:V):Option (V×H):=
 match T.und t,x with
 |some .string,.str s=>some (.ptr h.nx 0,h.push<|.siter s 0)
 |_,_=>none
theorem aS(d:T.Ok P)(b:R p h w){t:TypeId}{x:V}{x':Value}(g:Ac p x x'){v:V}{h':H}(a:Sb T h t x=some (v,h')):
  ∃v' p' w',(Instr.range t x').run P w=.ok v' w'/\Ac p' v v'/\Ext p h w p' h' w':=by
 unfold Sb at a;split at a
 case h_2=>cases a
 rename_i s c;cases a;subst g;have f:=Ext.push (n:=0) b (o:=.siter s 0) (x:=.stringIter (bytesOf s) 0) rfl;refine⟨.pointer<|some ⟨w.heap.size,0,none⟩,_,_,?_,?_,f⟩
 ·unfold Instr.range;simp only[zd,Ay d c,zc,zf,run_newObj]
 ·exact⟨w.heap.size,0,by rw[<-b.len];simp,rfl⟩
def MT(h:H)(c:V)(a:Bool):Option (V×H):=
 match c,a with
 | .ptr b 0,true=>
  match h.get b with
  |some (.siter s pos)=>
   bif z7 pos s.length then
    some (.tup [.bool true,i64 pos,.int .i32 (Utf8.decode (bytesOf s) pos).1],h.put b<|.siter s<|pos+(Utf8.decode (bytesOf s) pos).2)
   else some (.tup [.bool false],h)
  |_=>none
 |_,_=>none
theorem bJ(f:R p h w){g:V}{d:Value}{a:Bool}{t:TypeId}(q:Ac p g d){v:V}{h':H}(b:MT h g a=some (v,h')):
  ∃v' p' w',(Instr.next d a t).run P w=.ok v' w'/\Ac p' v v'/\Ext p h w p' h' w':=by
 unfold MT at b;split at b
 case h_2=>cases b
 obtain⟨r,n,o,rfl⟩:=q;split at b
 case h_2=>cases b
 rename_i s pos k;obtain⟨y,n',x,l,m,u⟩:=f.obj _ _ k;rw[o]at l;cases l;subst u;rw[Gf]at b;unfold Instr.next;simp only[zd,getObj,yw,m,zc,BU];by_cases c:pos<s.length
 ·simp only[c,decide_true,we,ze,zw]at b;obtain⟨rfl,rfl⟩:=b;simp only[c,wm,zd,setObj,yw,m,zc];refine⟨_,p,_,zf ..,?_,Ext.put f k o (o':=.siter s<|pos+(Utf8.decode (bytesOf s) pos).2) rfl rfl rfl rfl rfl⟩;simp[Ac,i64,goInt]
 ·simp only[c,decide_false,wg,ze,zw]at b;obtain⟨rfl,rfl⟩:=b;simp only[c,vf];exact⟨_,p,w,(by rfl),by simp[Ac],Ext.refl f⟩
def IY(h:H)(r:Option V):Option (V×H):=
 match r with
 |none=>some (.map h.nx,h.push<|.map [] 0)
 |some _=>none
theorem U6(c:R p h w){t:TypeId}{r:Option V}{b:Option Value}(f:G0 p r b){v:V}{h':H}(a:IY h r=some (v,h')):
  ∃v' p' w',(Instr.makeMap t b).run P w=.ok v' w'/\Ac p' v v'/\Ext p h w p' h' w':=by
 unfold IY at a;split at a
 case h_2=>cases a
 cases a;subst f;have d:=Ext.push (n:=0) c (o:=.map [] 0) (x:=.map #[] 0) ⟨#[],rfl,.nil⟩;refine⟨.map<|some w.heap.size,_,_,?_,?_,d⟩
 ·rfl
 ·exact⟨w.heap.size,0,by rw[<-c.len];simp,rfl⟩
def jA(T:BV)(c:TypeId)(a b:V):Option Bool:=
 match T.und c,a,b with
 |some (.int _),.int k x,.int d y=>if k=d then some (x==y)else none
 |some .string,.str x,.str y=>some<|x==y
 |some .bool,.bool x,.bool y=>some<|x==y
 |_,_,_=>none
def KK(T:BV)(b:TypeId)(k:V):List (V×V×Nat)->Nat->Option (Option<|Nat×V)
 |[],_=>some none
 |(a,v,_)::es,i=>
  match jA T b k a with
  |some true=>some<|some (i,v)
  |some false=>KK T b k es<|i+1
  |none=>none
def plainKey:V->Bool
 | .int .. | .str _| .bool _=>true
 |_=>false
theorem bytes_beq(x y:ByteArray):(x==y)=(x.data==y.data):=rfl
theorem Yh{k:TypeId}{a b:V}{g b':Value}(o:Ac p a g)(m:Ac p b b'){r:Bool}(f:jA T k a b=some r){d:TypeDesc}(l:T.und k=some d):
  yo d g b'=some r/\(r=true->g=b'):=by
 unfold jA at f;split at f
 case h_1=>
  grind [Ac,yo]
 case h_2=>
  rename_i c;rw[l]at c;simp only[Ac]at o m;cases f;simp_all [yo,bytes_beq,bytesOf]
 case h_3=>
  rename_i c;rw[l]at c;cases c;subst o m;cases f;exact⟨rfl,(by simp)⟩
 grind
theorem eK{m:TypeId}{k:V}{f:Value}(x:Ac p k f){d:TypeDesc}(o:T.und m=some d):
  ∀ {es:List (V×V×Nat)} {l:List MapEntry},Dw p es l->∀ {i:Nat} {r:Option (Nat×V)},KK T m k es i=some r->
  ∃g,yk d f l i=some g/\(match r with|none=>g=none|some (j,v)=>∃v',g=some (j,v')/\Ac p v v'/\i<=j/\∃e,l[j-i]?=some e/\e.key=f):=by
 intro es l q;induction q with
 |nil=>intro i r c;simp only[KK,ze]at c;subst c;exact⟨none,rfl,rfl⟩
 |@cons a v b es e l s A B _ y=>
  intro i r c;unfold KK at c;split at c
  case h_1=>
   rename_i u;cases c;obtain⟨D,C⟩:=Yh x s u o;simp_all [yk]
  case h_2=>
   grind [Yh,yk]
  grind
theorem run_checkKey{k:V}{f:Value}(q:Ac p k f)(c:plainKey k=true)(g:T.Ok P){a:TypeId}{d:TypeDesc}(l:T.und a=some d)(m:DZ d=false)(r:∀o,d≠ .interface o)(b:Bool):
  (ym b 10000 a f).run P w=.ok () w:=by
 unfold ym;rw[zd,Ay g l];cases k<;>simp only[plainKey]at c<;>simp only[Ac]at q
 case bool|int|str=>
  cases d<;>first|rfl|(cases m;done)|grind
 all_goals cases c
def iL:TypeDesc->Bool
 | .int _| .string| .bool=>true
 |_=>false
theorem ZJ{d:TypeDesc}(h:iL d=true):DZ d=false/\∀a,d≠ .interface a:=by
 cases d<;>first|(cases h;done)|exact⟨rfl,fun a e=>by cases e⟩
theorem Qk{k:V}{a:Value}(c:Ac p k a)(b:plainKey k=true):zx 10000 a a=true:=by
 cases k<;>simp only[plainKey]at b<;>simp only[Ac]at c
 case bool=>grind [zx]
 case int=>grind [zx]
 case str=>grind [zx,bytes_beq]
 all_goals cases b
theorem TW{a b:V}{c b':Value}(f:Ac p a c)(d:Ac p b b')(h:D2 a b=some true):c=b':=by
 unfold D2 at h;grind [Ac]
theorem Kx:∀ {c d:List V} {x y:List Value},Au p c x->Au p d y->BO c d=some true->x=y
 |[],[],x,y,g,f,_=>by simp_all
 |[],_::_,_,_,_,_,h=>by simp[BO]at h
 |_::_,[],_,_,_,_,h=>by simp[BO]at h
 |a::k,b::q,x,y,g,f,h=>by
  obtain⟨u,r,rfl,l,m⟩:=g;obtain⟨v,vs,rfl,h3,h4⟩:=f;unfold BO at h;split at h
  case h_1=>
   rename_i o;rw[TW l h3 o,Kx m h4 h]
  case h_2=>grind
  grind
theorem Tv:∀ {ks:List FK} {c:List V} {x:List Value},fit ks c=true->Au p c x->(x.zip x).all (fun(a,b)=>zx 9999 a b)=true
 |[],[],x,_,f=>by simp_all
 |[],_::_,_,h,_=>by simp[fit]at h
 |_::_,[],_,h,_=>by simp_all
 |k::ks,v::vs,x,h,f=>by
  obtain⟨u,m,rfl,o,g⟩:=f;unfold fit at h;cases d:k.ok v with
  |false=>grind
  |true=>
   simp only[d,we]at h;have l:=Tv h g;simp only[List.zip_cons_cons,List.all_cons,l,Bool.and_true];unfold FK.ok at d;grind [Ac,zx,bytes_beq]
def NP(ks:List FK)(k:List V):List (V×V×Nat)->Nat->Option (Option<|Nat×V)
 |[],_=>some none
 |(a,v,_)::es,i=>
  match a with
  | .agg b=>match OD (some ks) k b with
   |some true=>some<|some (i,v)
   |some false=>NP ks k es<|i+1
   |none=>none
  |_=>none
def IP(T:BV)(a:TypeId)(d:TypeDesc)(k:V):Bool:=
 match k with
 | .agg b=>match T.flat a with
  |some ks=>fit ks b
  |none=>false
 |k=>plainKey k&&iL d
def JZ(T:BV)(a:TypeId)(k:V)(es:List (V×V×Nat)):Option (Option<|Nat×V):=
 match k with
 | .agg b=>match T.flat a with
  |some ks=>NP ks b es 0
  |none=>none
 |k=>KK T a k es 0
theorem P1(B:T.Ok P){f:TypeId}{ks:List FK}(E:T.flat f=some ks){g:List V}{x:Array Value}(A:Au p g x.toList):
  ∀ {es:List (V×V×Nat)} {l:List MapEntry},Dw p es l->∀ {i:Nat} {r:Option (Nat×V)},NP ks g es i=some r->
  ∃d,(yi f (.agg x) l i).run P w=.ok d w/\(match r with|none=>d=none|some (j,v)=>∃v',d=some (j,v')/\Ac p v v'/\i<=j/\∃e,l[j-i]?=some e/\e.key=.agg x):=by
 intro es l F;induction F with
 |nil=>intro i r c;simp only[NP,ze]at c;subst c;exact⟨none,rfl,rfl⟩
 |@cons a v b es e l k I J _ G=>
  intro i r c;unfold NP at c;split at c
  case h_2=>cases c
  rename_i C;obtain⟨y,D,k⟩:=k;split at c
  case h_3=>cases c
  case h_1=>
   rename_i s;cases c;obtain⟨l',o,u,q,m⟩:=Hn s;cases o;refine⟨some (i,e.val),?_,e.val,rfl,I,zg _,e,by simp,?_⟩
   ·simp only[yi,zd,D,B.flat f ks E p g C x y true w u q A k m,zc,wm,zf]
   grind [Kx,Array.toList_inj]
  case h_2=>
   rename_i s;obtain⟨l',o,u,q,m⟩:=Hn s;cases o;obtain⟨d,k1,k2⟩:=G c;refine⟨d,?_,?_⟩
   ·simp only[yi,zd,D,B.flat f ks E p g C x y false w u q A k m,zc,zp,vf];exact k1
   ·cases r with
    |none=>exact k2
    |some K=>
     grind
theorem Jn(g:T.Ok P){c:TypeId}{d:TypeDesc}(r:T.und c=some d){k:V}{f:Value}(o:Ac p k f)(a:IP T c d k=true)(b:Bool):
  (ym b 10000 c f).run P w=.ok () w:=by
 unfold IP at a;split at a
 case h_1=>
  rename_i l;split at a
  case h_2=>cases a
  rename_i ks m;obtain⟨x,rfl,q⟩:=o;exact g.key c ks m p l x b w a q
 case h_2=>
  grind [ZJ,run_checkKey]
theorem Wg{c:TypeId}{d:TypeDesc}{k:V}{b:Value}(f:Ac p k b)(a:IP T c d k=true):zx 10000 b b=true:=by
 unfold IP at a;split at a
 case h_1=>
  split at a
  case h_2=>cases a
  obtain⟨x,rfl,g⟩:=f;have:=Tv a g;simp_all [zx]
 case h_2=>
  grind [Qk]
def entries(h:H)(m:V):Option (List<|V×V×Nat):=
 match m with
 | .nilm=>some []
 | .map b=>match h.get b with
  |some (.map es _)=>some es
  |_=>none
 |_=>none
def Es(T:BV)(h:H)(t:TypeId)(m k:V)(ok:Bool):Option V:=
 match T.und t with
 |some (.map a e)=>
  match T.und a,entries h m with
  |some d,some es=>
   bif IP T a d k then
    match JZ T a k es with
    |some (some (_,v))=>some<|bif ok then .tup [v,.bool true]else v
    |some none=>match T.inf e with
     |some i=>some<|bif ok then .tup [i.zv,.bool false]else i.zv
     |none=>none
    |none=>none
   else none
  |_,_=>none
 |_=>none
theorem LO(q:R p h w){m:V}{c:Value}(k:Ac p m c){es:List (V×V×Nat)}(a:entries h m=some es):
  (c=.map none/\es=[])\/∃r l d b n,m=.map b/\c=.map (some r)/\p[b]?=some (r,n)/\h.get b=some (.map es d)/\w.heap[r]?=some (.map l d)/\Dw p es l.toList:=by
 unfold entries at a;split at a
 case h_1=>simp_all [Ac]
 case h_2=>
  simp only[Ac]at k;split at a
  case h_2=>cases a
  rename_i g d f;obtain⟨x,n',o,u,v,l,y,s⟩:=q.obj _ _ f;grind
 grind
theorem run_findKey(g:T.Ok P){b:TypeId}{k:V}{m:Value}(y:Ac p k m){d:TypeDesc}(f:T.und b=some d){es:List (V×V×Nat)}{l:List MapEntry}(s:Dw p es l)
  {r:Option (Nat×V)} (c:JZ T b k es=some r):
  ∃a,(yp b m l).run P w=.ok a w/\(match r with|none=>a=none|some (j,v)=>∃v',a=some (j,v')/\Ac p v v'/\∃e,l[j]?=some e/\e.key=m):=by
 by_cases o:∃q,k=.agg q
 ·obtain⟨q,rfl⟩:=o;simp only[JZ]at c;cases A:T.flat b with
  |none=>grind
  |some ks=>
   simp only[A]at c;obtain⟨x,rfl,D⟩:=y;obtain⟨a,u,B⟩:=P1 (P:=P) (w:=w) g A D s c;refine⟨a,?_,?_⟩
   ·unfold yp;simp only[zd,Ay g f,zc];cases l with
    |nil=>grind [yk,yi]
    |cons e l=>grind [yk,yo]
   grind
 ·have C:JZ T b k es=KK T b k es 0:=by cases k<;>first|rfl|grind
  rw[C]at c;obtain⟨a,u,B⟩:=eK y f s c;refine⟨a,?_,?_⟩
  ·unfold yp;simp only[zd,Ay g f,zc,u,zf]
  grind
theorem VM(f:T.Ok P)(G:R p h w){t:TypeId}{m k:V}{u q:Value}{ok:Bool}(F:Ac p m u)(s:Ac p k q){v:V}(a:Es T h t m k ok=some v):
  ∃v',(yu t u q ok).run P w=.ok v' w/\Ac p v v':=by
 unfold Es at a;split at a
 case h_2=>cases a
 rename_i C e D;split at a
 case h_2=>cases a
 rename_i d es c y;cases B:IP T C d k with
 |false=>grind
 |true=>
  simp only[B,we]at a;obtain⟨l,g,o⟩:∃l:List MapEntry,Dw p es l/\(yu t u q ok).run P w=((yp C q l).run P w).andThen fun r w'=>
    match r with
    |some (_,v)=>.ok (if ok then .tuple #[v,.bool true]else v) w'
    |none=>((zeroValue e).run P w').andThen fun z w'=>.ok (if ok then .tuple #[z,.bool false]else z) w':=by
   rcases LO G F y with⟨rfl,rfl⟩|⟨r,l,Q,b,n,rfl,rfl,O,N,K,E⟩
   ·refine⟨[],.nil,?_⟩;unfold yu;simp only[zd,Ay f D,zc,zf,Jn f c s B];congr 1;funext r w'
    cases r<;>simp
   ·refine⟨l.toList,E,?_⟩;unfold yu;simp only[zd,Ay f D,zc,zf,Jn f c s B,getObj,yw,K];congr 1;funext r w'
    cases r<;>simp
  rw[o];split at a
  case h_3=>cases a
  case h_1=>
   rename_i j v0 A;cases a;obtain⟨J,x,v',rfl,M,_⟩:=run_findKey (P:=P) (w:=w) f s c g A;simp only[x,zc];cases ok
   ·grind
   simp_all [Ac]
  case h_2=>
   rename_i A;split at a
   case h_2=>cases a
   rename_i i L;cases a;obtain⟨J,x,I⟩:=run_findKey (P:=P) (w:=w) f s c g A;subst I;obtain⟨z,hz,hzr⟩:=xP f L;simp only[x,zc,hz];cases ok
   ·grind
   simp_all [Ac]
def WG(es:List (V×V×Nat))(i:Nat)(k v:V):List (V×V×Nat):=es.modify i fun e=>(k,v,e.2.2)
theorem Dw.modify{es:List (V×V×Nat)}{l:List MapEntry}(f:Dw p es l){k v:V}{c v':Value}(s:Ac p k c)(o:Ac p v v')(i:Nat):
  Dw p (WG es i k v) (l.modify i fun e=>{ e with key:=c,val:=v' }):=by
 unfold WG;induction f generalizing i with
 |nil=>simp;exact .nil
 |@cons a x b es e l q r d m g=>
  cases i with
  |zero=>simp;exact .cons s o d m
  |succ i=>simp;exact .cons q r d<|g i
theorem Dw.snoc{es:List (V×V×Nat)}{l:List MapEntry}(a:Dw p es l){k v:V}{e:MapEntry}(m:Ac p k e.key)(c:Ac p v e.val):Dw p (es++[(k,v,e.born)]) (l++[e]):=by
 induction a with
 |nil=>exact .cons m c rfl .nil
 |cons d f g _ b=>exact .cons d f g b
def Hs(T:BV)(h:H)(t:TypeId)(m k v:V):Option H:=
 match T.und t,m with
 |some (.map a _),.map b=>
  match T.und a,h.get b with
  |some d,some (.map es c)=>
   bif IP T a d k then
    match JZ T a k es with
    |some (some (i,_))=>some<|h.put b<|.map (WG es i k v) c
    |some none=>some<|h.put b<|.map (es++[(k,v,c)])<|c+1
    |none=>none
   else none
  |_,_=>none
 |_,_=>none
theorem VX(u:T.Ok P)(A:R p h w){t:TypeId}{m k v:V}{I o v':Value}(G:Ac p m I)(f:Ac p k o)(F:Ac p v v'){h':H}(a:Hs T h t m k v=some h'):
  ∃w',(Instr.mapUpdate t I o v').run P w=.ok () w'/\Ext p h w p h' w':=by
 unfold Hs at a;split at a
 case h_2=>cases a
 rename_i K e b O;split at a
 case h_2=>cases a
 rename_i d es y c x;cases E:IP T K d k with
 |false=>grind
 |true=>
  simp only[E,we]at a;rcases LO (es:=es) A G (by simp only[entries,x])with⟨rfl,_⟩|⟨r,l,Q,b',n,L,rfl,J,q,B,s⟩
  ·simp[Ac]at G
  ·cases L;rw[x]at q;cases q;unfold Instr.mapUpdate;simp only[zd,Ay u O,zc,Jn u c f E,getObj,yw,B];split at a
   case h_3=>cases a
   case h_1=>
    rename_i j v0 D;cases a;obtain⟨N,C,v1,rfl,S,W,X,U⟩:=run_findKey (P:=P) (w:=w) u f c s D;simp only[C,zc];have g:(l[j]?.map (·.key)).getD o=o:=by
     grind
    rw[g];unfold Instr.keyThatStays;simp only[Wg f E,wm,zd,zf,zc,setObj,yw,B];refine⟨_,rfl,Ext.put A x J (o':=.map (WG es j k v) y) ⟨_,rfl,?_⟩ rfl rfl rfl rfl⟩;have:=s.modify f F j;grind
   case h_2=>
    rename_i D;cases a;obtain⟨N,C,M⟩:=run_findKey (P:=P) (w:=w) u f c s D;subst M;simp only[C,zc,setObj,yw,B];refine⟨_,rfl,Ext.put A x J (o':=.map (es++[(k,v,y)])<|y+1) ⟨_,rfl,?_⟩ rfl rfl rfl rfl⟩;have:=s.snoc (e:={ key:=o,val:=v',born:=y }) f F;grind
end
end Go.Det
