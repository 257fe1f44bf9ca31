import Derived.Scope
import Derived.Laws.Sem
import Derived.KernelRfl
import Derived.Laws.Strings
import Derived.IntWalk
/- A part of a proof; no law is stated here. -/
abbrev Rd:=List UInt8
abbrev w4:=@decide_eq_true
abbrev w5:=@decide_eq_true_eq
abbrev w6:=@of_decide_eq_true
abbrev w7:=@of_decide_eq_false
abbrev w8:=@decide_eq_false
abbrev w9:=@decide_eq_false_iff_not
abbrev wc:=@if_neg
abbrev wd:=@if_pos
abbrev we:=@cond_true
abbrev wg:=@cond_false
abbrev wh:=@absurd
abbrev wi:=@congrArg
abbrev wk:=@beq_iff_eq
abbrev wm:=@if_true
abbrev vc:=@ne_eq
abbrev ve:=@and_true
abbrev vf:=@if_false
noncomputable section
open Go.Result renaming andThen_ok -> zc
open Go.Sem renaming run_bind -> zd, run_pure -> zf, run -> yw
open Option.some renaming injEq -> ze
open Nat renaming le_refl -> zg, beq -> zh, ble -> zk, mul_le_mul_right -> zz, blt -> z7, ble_eq -> z8, le_trans -> yr
open Option renaming map_eq_some_iff -> zi
open Go.Value renaming cells -> zj
open Go.Builtin renaming firstCells -> zl, zeroCells -> zo, append_ -> zu, nextslicecap -> z6, lenOf -> yj
open List renaming getElem?_eq_some_iff -> zm, getElem?_take_of_lt -> zq, getElem?_cons_zero -> yd, getElem?_cons_succ -> ye, getElem?_toArray -> yh, rec -> yq
open Bool renaming and_eq_true -> zn, false_eq_true -> zp, or_eq_true -> yv
open Go.Instr renaming sliceAt -> zr, sliceBounds -> zt, sameBits -> zx, sureAddr -> yf, findAsking -> yi, findNow -> yk, checkKey -> ym, slice -> yn, sameNow -> yo, findKey -> yp, lookup -> yu
open Prod.mk renaming injEq -> zw
open Int renaming ofNat_eq_natCast -> zy, toNat_natCast -> yc
open BitVec renaming ofInt -> yb
open Array renaming getElem?_toList -> yg
open Go.Op renaming bytesLess -> yt, equal -> yx
theorem ae{p:Prop}(h:p:=by omega):p:=h
theorem af{p:Prop}(h:p:=by decide):p:=h
theorem ag{p:Prop}(h:p:=by kernel_rfl):p:=h
theorem ah{p:Prop}(h:p:=by grind):p:=h
namespace Go.Det
section
inductive PM (α:Type) where
 |leaf
 |node (l:PM α) (v:Option α) (r:PM α)
inductive F9 where
 |here
 |l (p:F9)
 |r (p:F9)
variable {α:Type}
def gE(f:Nat):Nat->F9:=
 @Nat.rec (fun _=>Nat->F9) (fun _=>.here) (fun _ a i=>bif zh i 0 then .here else bif zh (Nat.mod i 2) 1 then .l (a<|Nat.div i 2)else .r<|a<|Nat.sub (Nat.div i 2) 1) f
def uQ(i:Nat):F9:=gE i i
def F9.get(p:F9):PM α->Option α:=
 @F9.rec (fun _=>PM α->Option α)
  (fun m=>@PM.rec α (fun _=>Option α) none (fun _ v _ _ _=>v) m)
  (fun _ a m=>@PM.rec α (fun _=>Option α) none (fun l _ _ _ _=>a l) m)
  (fun _ a m=>@PM.rec α (fun _=>Option α) none (fun _ _ r _ _=>a r) m) p
def F9.set(p:F9):PM α->Option α->PM α:=
 @F9.rec (fun _=>PM α->Option α->PM α)
  (fun m v=>@PM.rec α (fun _=>PM α) (.node .leaf v .leaf) (fun l _ r _ _=>.node l v r) m)
  (fun _ a m v=>@PM.rec α (fun _=>PM α) (.node (a .leaf v) none .leaf) (fun l x r _ _=>.node (a l v) x r) m)
  (fun _ a m v=>@PM.rec α (fun _=>PM α) (.node .leaf none<|a .leaf v) (fun l x r _ _=>.node l x<|a r v) m) p
def PM.get(m:PM α)(i:Nat):Option α:=(uQ i).get m
def PM.set(m:PM α)(i:Nat)(v:Option α):PM α:=(uQ i).set m v
theorem Bj(a b:Nat):zh a b=decide (a=b):=by
 by_cases h:a=b
 ·simp_all
 grind [Nat.eq_of_beq_eq_true]
def F9.num:F9->Nat
 | .here=>0
 | .l p=>2*p.num+1
 | .r p=>2*(p.num+1)
theorem Nh:∀(f i:Nat),i<=f->(gE f i).num=i
 |0,i,h=>by cases ae;rfl
 |f+1,i,h=>by
  show F9.num (bif zh i 0 then .here else bif zh (i % 2) 1 then .l (gE f<|i/2)else .r<|gE f<|i/2-1)=i;simp only[Bj];by_cases h0:i=0
  ·subst h0;rfl
  ·by_cases a:i % 2=1
   ·simp only[h0,a,decide_false,decide_true,wg,we,F9.num];rw[Nh f (i/2) ae];omega
   ·simp only[h0,a,decide_false,wg,F9.num];rw[Nh f (i/2-1) ae];omega
theorem kA{i j:Nat}(h:uQ i=uQ j):i=j:=by
 have:=wi F9.num h;unfold uQ at this;simp_all [Nh]
theorem F9.CS(p:F9):p.get (.leaf:PM α)=none:=by cases p<;>rfl
theorem F9.get_set_same:∀(p:F9) (m:PM α) (v:Option α),p.get (p.set m v)=v
 | .here,m,v=>by cases m<;>rfl
 | .l p,m,v=>by
  cases m with
  |leaf=>exact F9.get_set_same p .leaf v
  |node l x r=>exact F9.get_set_same p l v
 | .r p,m,v=>by
  cases m with
  |leaf=>exact F9.get_set_same p .leaf v
  |node l x r=>exact F9.get_set_same p r v
theorem F9.E9:∀(p q:F9) (m:PM α) (v:Option α),q≠p->q.get (p.set m v)=q.get m
 | .here,.here,m,v,h=>wh rfl h
 | .here,.l q,m,v,_=>by
  cases m with
  |leaf=>exact q.CS
  |node l x r=>rfl
 | .here,.r q,m,v,_=>by
  cases m with
  |leaf=>exact q.CS
  |node l x r=>rfl
 | .l p,.here,m,v,_=>by cases m<;>rfl
 | .r p,.here,m,v,_=>by cases m<;>rfl
 | .l p,.r q,m,v,_=>by
  cases m with
  |leaf=>exact q.CS
  |node l x r=>rfl
 | .r p,.l q,m,v,_=>by
  cases m with
  |leaf=>exact q.CS
  |node l x r=>rfl
 | .l p,.l q,m,v,h=>by
  have h':q≠p:=ah;cases m with
  |leaf=>exact(F9.E9 p q .leaf v h').trans q.CS
  |node l x r=>exact F9.E9 p q l v h'
 | .r p,.r q,m,v,h=>by
  have h':q≠p:=ah;cases m with
  |leaf=>exact(F9.E9 p q .leaf v h').trans q.CS
  |node l x r=>exact F9.E9 p q r v h'
@[simp] theorem PM.Cs(m:PM α)(i:Nat)(v:Option α)(j:Nat):(m.set i v).get j=if j=i then v else m.get j:=by
 unfold PM.get PM.set;by_cases e:j=i
 ·simp_all [F9.get_set_same]
 ·grind [F9.E9,kA]
@[simp] theorem PM.CS(j:Nat):(PM.leaf:PM α).get j=none:=F9.CS _
def ET(l:List α):Nat:=@yq α (fun _=>Nat) 0 (fun _ _ a=>Nat.add a 1) l
theorem Dm(l:List α):ET l=l.length:=by
 induction l with
 |nil=>rfl
 |cons a l b=>simp_all [ET]
def Jg(n:Nat):List α->List α:=
 @Nat.rec (fun _=>List α->List α) (fun l=>l) (fun _ b l=>@yq α (fun _=>List α) [] (fun _ a _=>b a) l) n
theorem MZ:∀(n:Nat) (l:List α),Jg n l=l.drop n
 |0,_l=>rfl
 |_n+1,[]=>rfl
 |n+1,_a::l=>MZ n l
def VL(n:Nat):List α->List α:=
 @Nat.rec (fun _=>List α->List α) (fun _=>[]) (fun _ c l=>@yq α (fun _=>List α) [] (fun a b _=>a::c b) l) n
theorem N7:∀(n:Nat) (l:List α),VL n l=l.take n
 |0,_l=>rfl
 |_n+1,[]=>rfl
 |n+1,a::l=>wi (a:: ·)<|N7 n l
def Jc(vs:List α):List α->List α:=
 @yq α (fun _=>List α->List α) (fun l=>l) (fun v _ b l=>@yq α (fun _=>List α) [] (fun _ a _=>v::b a) l) vs
def Ce(n:Nat)(vs:List α):List α->List α:=
 @Nat.rec (fun _=>List α->List α) (fun l=>Jc vs l) (fun _ c l=>@yq α (fun _=>List α) [] (fun a b _=>a::c b) l) n
def Kb(f:α->Bool)(l:List α):Bool:=@yq α (fun _=>Bool) true (fun a _ b=>bif f a then b else false) l
theorem EU(f:α->Bool):∀l:List α,Kb f l=l.all f
 |[]=>rfl
 |a::l=>by
  show(bif f a then Kb f l else false)=_;rw[EU f l,List.all_cons];simp
inductive V where
 |bool (b:Bool)
 |int (k:IntKind) (n:Int)
 |str (s:Rd)
 |nilp
 |ptr (b off:Nat)
 |nils
 |sl (b off len cap o:Nat)
 |esl
 |es0
 |junk
 |nilm
 |map (b:Nat)
 |fn (f:Fn) (first captured:List V)
 |yld (b:Nat)
 |nilf
 |iface (t:TypeId) (v:V)
 |nili
 |agg (cs:List V)
 |tup (vs:List V)
 deriving Inhabited
abbrev Pl:=List<|Nat×Nat
def bytesOf(s:Rd):ByteArray:=⟨s.toArray⟩
mutual
def Ab(p:Pl):V->Value->Prop
 | .bool b,v=>v=.bool b
 | .int k n,v=>v=.int k n
 | .str s,v=>v=.string (bytesOf s)
 | .nilp,v=>v=.pointer none
 | .ptr b off,v=>∃r n,p[b]?=some (r,n)/\v=.pointer (some ⟨r,off,none⟩)
 | .nils,v=>v=.slice none 0 0
 | .sl b off len cap o,v=>∃r n c,p[b]?=some (r,n)/\v=.slice (some ⟨r,off,none⟩) len c/\len<=cap/\cap<=c/\(o=0->c=cap)/\(o≠0->off+c*o<=n)
 | .esl,v=>∃a c,v=.slice (some a) 0 c
 | .es0,v=>∃a,v=.slice (some a) 0 0
 | .junk,_=>False
 | .nilm,v=>v=.map none
 | .map b,v=>∃r n,p[b]?=some (r,n)/\v=.map (some r)
 | .fn f first captured,v=>∃x y,v=.func f x y/\An p first x.toList/\An p captured y.toList
 | .yld b,v=>∃r n,p[b]?=some (r,n)/\v=.func (.yield r) #[] #[]
 | .nilf,v=>v=.nilFunc
 | .iface t x,v=>∃y,v=.iface t y/\Ab p x y
 | .nili,v=>v=.nilIface
 | .agg cs,v=>∃x,v=.agg x/\An p cs x.toList
 | .tup cs,v=>∃x,v=.tuple x/\An p cs x.toList
def An(p:Pl):List V->List Value->Prop
 |[],l=>l=[]
 |d::ds,l=>∃v vs,l=v::vs/\Ab p d v/\An p ds vs
end
@[simp] theorem IL(p:Pl)(l:List Value):An p [] l↔l=[]:=by rfl
@[simp] theorem A4(p:Pl)(d:V)(ds:List V)(v:Value)(vs:List Value):An p (d::ds) (v::vs)↔Ab p d v/\An p ds vs:=by
 simp only[An];grind
@[simp] theorem Zf(p:Pl)(d:V)(ds:List V):¬An p (d::ds) []:=by
 simp[An]
theorem An.length{p:Pl}:∀ {ds:List V} {vs:List Value},An p ds vs->ds.length=vs.length
 |[],vs,h=>by simp_all
 |d::ds,[],h=>by simp at h
 |d::ds,v::vs,h=>by simp at h;simp[h.2.length]
theorem An.get{p:Pl}:∀ {ds:List V} {vs:List Value},An p ds vs->∀ {i:Nat} {d:V},ds[i]?=some d->∃v,vs[i]?=some v/\Ab p d v
 |[],vs,_,i,d,a=>by grind
 |d::ds,[],h,_,_,_=>by simp at h
 |d::ds,v::vs,h,i,x,a=>by
  simp at h;cases i with
  |zero=>grind
  |succ i=>simpa using h.2.get a
theorem An.mk{p:Pl}:∀ {ds:List V} {vs:List Value},ds.length=vs.length->(∀(i:Nat) d v,ds[i]?=some d->vs[i]?=some v->Ab p d v)->An p ds vs
 |[],[],_,_=>by simp
 |[],_::_,h,_=>by simp at h
 |_::_,[],h,_=>by simp at h
 |d::ds,v::vs,h,a=>by
  simp at h;rw[A4];exact⟨a 0 d v rfl rfl,An.mk h<|fun i b v' f c=>a (i+1) b v' ah ah⟩
theorem An.append{p:Pl}:∀ {a:List V} {x:List Value} {b:List V} {y:List Value},An p a x->An p b y->An p (a++b) (x++y)
 |[],x,b,y,h,h'=>by simp_all
 |d::ds,[],_,_,h,_=>by simp at h
 |d::ds,v::vs,b,y,h,h'=>by simp at h;simp[h.1,h.2.append h']
theorem An.take{p:Pl}:∀ {a:List V} {x:List Value} (n:Nat),An p a x->An p (a.take n) (x.take n)
 |[],x,n,h=>by simp_all
 |d::ds,[],_,h=>by simp at h
 |d::ds,v::vs,0,h=>by simp
 |d::ds,v::vs,n+1,h=>by simp at h;simp[h.1,h.2.take n]
theorem An.drop{p:Pl}:∀ {a:List V} {x:List Value} (n:Nat),An p a x->An p (a.drop n) (x.drop n)
 |[],x,n,h=>by simp_all
 |d::ds,[],_,h=>by simp at h
 |d::ds,v::vs,0,h=>by grind
 |d::ds,v::vs,n+1,h=>by simp at h;simpa using h.2.drop n
theorem An.set{p:Pl}:∀ {a:List V} {x:List Value} (i:Nat) {d:V} {v:Value},An p a x->Ab p d v->An p (a.set i d) (x.set i v)
 |[],x,n,_,_,h,_=>by simp_all
 |d::ds,[],_,_,_,h,_=>by simp at h
 |d::ds,v::vs,0,_,_,h,h'=>by simp_all
 |d::ds,v::vs,n+1,_,_,h,h'=>by simp at h;simp[h.1,h.2.set n h']
mutual
theorem Ab.mono{p:Pl}(q:Pl):∀ {d:V} {v:Value},Ab p d v->Ab (p++q) d v
 | .bool _,_,h=>by simpa [Ab]using h
 | .int _ _,_,h=>by simpa [Ab]using h
 | .str _,_,h=>by simpa [Ab]using h
 | .nilp,_,h=>by simpa [Ab]using h
 | .ptr b off,v,h=>by
  grind [Ab]
 | .nils,_,h=>by simpa [Ab]using h
 | .sl b off len cap o,v,h=>by
  grind [Ab]
 | .esl,_,h=>by simpa [Ab]using h
 | .es0,_,h=>by simpa [Ab]using h
 | .junk,_,h=>by simp[Ab]at h
 | .nilm,_,h=>by simpa [Ab]using h
 | .map b,v,h=>by
  grind [Ab]
 | .fn f a b,v,h=>by
  obtain⟨x,y,rfl,c,g⟩:=h;exact⟨x,y,rfl,An.mono q c,An.mono q g⟩
 | .yld b,v,h=>by
  grind [Ab]
 | .nilf,_,h=>by simpa [Ab]using h
 | .iface t x,v,h=>by
  simp only[Ab]at h ⊢;obtain⟨y,rfl,c⟩:=h;simp_all [Ab.mono]
 | .nili,_,h=>by simpa [Ab]using h
 | .agg cs,v,h=>by
  simp only[Ab]at h ⊢;obtain⟨x,rfl,c⟩:=h;simp_all [An.mono]
 | .tup cs,v,h=>by
  simp only[Ab]at h ⊢;obtain⟨x,rfl,c⟩:=h;simp_all [An.mono]
theorem An.mono{p:Pl}(q:Pl):∀ {ds:List V} {vs:List Value},An p ds vs->An (p++q) ds vs
 |[],_,h=>by simp_all
 |_::_,[],h=>by simp at h
 |d::ds,v::vs,h=>by simp only[A4]at h ⊢;exact⟨Ab.mono q h.1,An.mono q h.2⟩
end
structure Fr where
 n:Nat
 m:PM V
def Fr.get(f:Fr)(t:Nat):V:=(f.m.get t).getD<|.tup []
def Fr.put(f:Fr)(d:Option Nat)(v:V):Option Fr:=
 match d with
 |none=>some f
 |some t=>bif z7 t f.n then some ⟨f.n,f.m.set t<|some v⟩else none
def D2(p:Pl)(f:Fr)(tmps:Array Value):Prop:=f.n=tmps.size/\∀t,Ab p (f.get t)<|tmps.getD t undef
def Cd(p:Pl)(f:Fr)(a:Act):Prop:=f.n=a.tmps.size/\∀t,Ab p (f.get t)<|a.tmps.getD t undef
theorem D2.mono{p:Pl}(q:Pl){f:Fr}{tmps:Array Value}(h:D2 p f tmps):D2 (p++q) f tmps:=⟨h.1,fun t=>(h.2 t).mono q⟩
structure LS where
 st:LoopState
 pend:Option Code
 fr:Fr
 ps:Array Tmp
 asg:Code
 body:Code
 db:Nat
inductive O where
 |cells (cs:List V) (elem:TypeId) (fz:Nat×Nat)
 |map (es:List (V×V×Nat)) (clock:Nat)
 |siter (s:Rd) (pos:Nat)
 |miter (b:Option Nat) (since:Nat) (seen:List Nat) (last:Nat)
 |loop (l:LS)
 |defd (open_:Bool)
structure H where
 m:PM O
 nx:Nat
def H.get(h:H)(b:Nat):Option O:=h.m.get b
def H.push(h:H)(o:O):H:=⟨h.m.set h.nx<|some o,h.nx+1⟩
def H.put(h:H)(b:Nat)(o:O):H:=⟨h.m.set b<|some o,h.nx⟩
def H.kill(h:H)(b:Nat):H:=⟨h.m.set b none,h.nx⟩
@[simp] theorem H.Ci(h:H)(o:O)(b:Nat):(h.push o).get b=if b=h.nx then some o else h.get b:=by simp[H.push,H.get]
@[simp] theorem H.Cn(h:H)(b:Nat)(o:O)(j:Nat):(h.put b o).get j=if j=b then some o else h.get j:=by simp[H.put,H.get]
@[simp] theorem H.De(h:H)(b:Nat)(j:Nat):(h.kill b).get j=if j=b then none else h.get j:=by simp[H.kill,H.get]
@[simp] theorem H.yZ(h:H)(o:O):(h.push o).nx=h.nx+1:=rfl
@[simp] theorem H.Aay(h:H)(b:Nat)(o:O):(h.put b o).nx=h.nx:=rfl
@[simp] theorem H.VF(h:H)(b:Nat):(h.kill b).nx=h.nx:=rfl
inductive Dj (p:Pl):List (V×V×Nat)->List MapEntry->Prop
 |nil:Dj p [] []
 |cons {k v:V} {b:Nat} {es:List (V×V×Nat)} {e:MapEntry} {l:List MapEntry}:Ab p k e.key->Ab p v e.val->e.born=b->Dj p es l->Dj p ((k,v,b)::es) (e::l)
def V.ok:V->Bool
 | .junk=>false
 |_=>true
def DM(p:Pl)(cs:List V)(vs:List Value):Prop:=cs.length=vs.length/\∀(i:Nat) d v,cs[i]?=some d->vs[i]?=some v->d.ok=true->Ab p d v
theorem An.uU{p:Pl}{cs:List V}{vs:List Value}(h:An p cs vs):DM p cs vs:=⟨h.length,fun i d v a b _=>by
 obtain⟨u,f,c⟩:=h.get a;grind⟩
theorem DM.get{p:Pl}{cs:List V}{vs:List Value}(h:DM p cs vs){i:Nat}{d:V}(b:cs[i]?=some d)(a:d.ok=true):∃v,vs[i]?=some v/\Ab p d v:=by
 have c:i<vs.length:=by rw[<-h.1];grind
 exact⟨vs[i],(by simp),h.2 i d _ b (by simp) a⟩
theorem DM.drop{p:Pl}{cs:List V}{vs:List Value}(h:DM p cs vs)(n:Nat):DM p (cs.drop n) (vs.drop n):=
 ⟨by simp[h.1],fun i d v b a=>h.2 (n+i) d v ah ah⟩
theorem DM.take{p:Pl}{cs:List V}{vs:List Value}(h:DM p cs vs)(n:Nat):DM p (cs.take n) (vs.take n):=
 ⟨by simp[h.1],fun i d v b a=>by
  have c:i<n:=ah
  rw[zq c]at b a;exact h.2 i d v b a⟩
theorem DM.Jm{p:Pl}{cs:List V}{vs:List Value}(h:DM p cs vs)(c:∀d∈cs,d.ok=true):An p cs vs:=
 An.mk h.1 fun i d v b a=>h.2 i d v b a ah
def I9(p:Pl)(n:Nat):O->Obj->Prop
 | .cells cs t fz,o=>∃(c:Array Value) (fz':Nat×Nat),o=.cells c t fz'/\c.size=n/\cs.length<=n/\DM p cs (c.toList.take cs.length)/\∀i,i<n->fz'.1<=i->i<fz'.2->fz.1<=i/\i<fz.2
 | .map es clock,o=>∃l:Array MapEntry,o=.map l clock/\Dj p es l.toList
 | .siter s pos,o=>o=.stringIter (bytesOf s) pos
 | .miter none since seen last,o=>o=.mapIter none since seen.toArray last
 | .miter (some b) since seen last,o=>∃r m,p[b]?=some (r,m)/\o=.mapIter (some r) since seen.toArray last
 | .loop l,o=>∃(fn:FuncId) (tmps:Array Value) (r m:Nat),D2 p l.fr tmps/\p[l.db]?=some (r,m)/\o=.loop { state:=l.st,pending:=l.pend,fn,tmps,params:=l.ps,assign:=l.asg,body:=l.body,defers:=r }
 | .defd op,o=>o=.deferred (bif op then some []else none)
theorem DM.mono{p:Pl}(q:Pl){cs:List V}{vs:List Value}(h:DM p cs vs):DM (p++q) cs vs:=⟨h.1,fun i d v c a b=>(h.2 i d v c a b).mono q⟩
theorem Dj.mono{p:Pl}(q:Pl){es:List (V×V×Nat)}{l:List MapEntry}(h:Dj p es l):Dj (p++q) es l:=by
 induction h with
 |nil=>exact .nil
 |cons d a c _ b=>exact .cons (d.mono q) (a.mono q) c b
theorem I9.mono{p:Pl}(q:Pl){n:Nat}{o:O}{x:Obj}(h:I9 p n o x):I9 (p++q) n o x:=by
 cases o with
 |cells cs t fz=>obtain⟨c,fz',d,a,f,k,g⟩:=h;exact⟨c,fz',d,a,f,k.mono q,g⟩
 |map es u=>obtain⟨l,d,a⟩:=h;exact⟨l,d,a.mono q⟩
 |siter s pos=>exact h
 |miter b since seen last=>
  cases b with
  |none=>exact h
  |some b=>
   obtain⟨r,m,d,a⟩:=h;exact⟨r,m,by grind,a⟩
 |loop l=>
  obtain⟨fn,tmps,r,m,h0,d,a⟩:=h;exact⟨fn,tmps,r,m,h0.mono q,by grind,a⟩
 |defd _=>exact h
structure R(p:Pl)(h:H)(w:World):Prop where
 len:p.length=h.nx
 obj:∀b o,h.get b=some o->∃r n x,p[b]?=some (r,n)/\w.heap[r]?=some x/\I9 p n o x
 inj:∀b b' o o' r n n',h.get b=some o->h.get b'=some o'->p[b]?=some (r,n)->p[b']?=some (r,n')->b=b'
def Im(p:Pl)(h:H)(r:Nat):Prop:=∃b o n,h.get b=some o/\p[b]?=some (r,n)
def Lk(n:Nat)(fz:Nat×Nat):Prop:=fz.1=0/\n<=fz.2/\0<fz.2
def Lkd(p:Pl)(h:H)(r:Nat):Prop:=∃b n cs t fz,h.get b=some (.cells cs t fz)/\p[b]?=some (r,n)/\Lk n fz
structure Ext(p:Pl)(h:H)(w:World)(p':Pl)(h':H)(w':World):Prop where
 pre:∃q,p'=p++q
 rel:R p' h' w'
 size:w.heap.size<=w'.heap.size
 same:∀r,r<w.heap.size->¬Im p h r->w'.heap[r]?=w.heap[r]?
 im:∀r,Im p' h' r->Im p h r\/w.heap.size<=r
 os:w'.os=w.os
 out:w'.output=w.output
 tape:w'.tape=w.tape
 lock:∀r,r<w.heap.size->Lkd p h r->w'.heap[r]?=w.heap[r]?/\(Lkd p' h' r\/¬Im p' h' r)
 dr:w.drawn<=w'.drawn
theorem Ext.refl{p:Pl}{h:H}{w:World}(a:R p h w):Ext p h w p h w:=
 ⟨(by simp),a,zg _,(by simp),ah,rfl,rfl,rfl,ah,zg _⟩
theorem Ext.trans{p g k:Pl}{h m c:H}{w l f:World}(a:Ext p h w g m l)(b:Ext g m l k c f):Ext p h w k c f:=by
 obtain⟨q,C⟩:=a.pre;obtain⟨q',hq'⟩:=b.pre;refine⟨ah,b.rel,yr a.size b.size,fun r u x=>?_,fun r u=>?_,b.os.trans a.os,b.out.trans a.out,b.tape.trans a.tape,fun r o v=>?_,yr a.dr b.dr⟩
 ·rw[b.same r (Nat.lt_of_lt_of_le u a.size) ?_,a.same r u x];intro h1;rcases a.im r h1 with s|s
  ·grind
  ·omega
 ·rcases b.im r u with h1|h1
  ·exact a.im r h1
  ·exact .inr<|yr a.size h1
 ·obtain⟨y,h1⟩:=a.lock r o v;have d:=Nat.lt_of_lt_of_le o a.size;rcases h1 with h1|h1
  ·obtain⟨B,s⟩:=b.lock r d h1;grind
  ·refine⟨(b.same r d h1).trans y,.inr fun A=>?_⟩;rcases b.im r A with s|s
   ·grind
   ·omega
theorem Ext.cH{p p':Pl}{h h':H}{w w':World}(e:Ext p h w p' h' w'){d:V}{v:Value}(a:Ab p d v):Ab p' d v:=by
 obtain⟨q,rfl⟩:=e.pre;exact a.mono q
theorem Ext.drew{p:Pl}{h:H}{w:World}(a:R p h w)(n:Nat)(b:w.drawn<=n:=by omega):Ext p h w p h { w with drawn:=n }:=
 ⟨(by simp),⟨a.len,a.obj,a.inj⟩,zg _,(by simp),ah,rfl,rfl,rfl,ah,b⟩
theorem R.lt{p:Pl}{h:H}{w:World}(a:R p h w){b:Nat}{o:O}(c:h.get b=some o):b<h.nx:=by
 obtain⟨r,n,x,d,_⟩:=a.obj b o c;have:=(zm.1 d).1;have:=a.len;omega
theorem R.V3{p:Pl}{h:H}{w:World}(a:R p h w){r:Nat}(c:Im p h r):r<w.heap.size:=by
 obtain⟨b,o,n,d,f⟩:=c;obtain⟨r',n',x,h3,h4,_⟩:=a.obj b o d;grind
theorem Ext.push{p:Pl}{h:H}{w:World}(g:R p h w){o:O}{x:Obj}{n:Nat}(L:I9 p n o x):
  Ext p h w (p++[(w.heap.size,n)]) (h.push o) { w with heap:=w.heap.push x }:=by
 have V:∀b o',h.get b=some o'->b≠h.nx:=fun b o' a=>by have:=g.lt a;omega
 have s:(p++[(w.heap.size,n)])[h.nx]?=some (w.heap.size,n):=by rw[<-g.len];simp
 have f:∀b,b<h.nx->(p++[(w.heap.size,n)])[b]?=p[b]?:=ah;refine⟨⟨_,rfl⟩,⟨by simp[g.len],fun b o' a=>?_,fun b b' d k r m G a v l q=>?_⟩,by simp,fun r B _=>?_,fun r K=>?_,rfl,rfl,rfl,fun r B I=>?_,zg _⟩
 ·rw[H.Ci]at a;by_cases e:b=h.nx
  ·subst e;simp at a;subst a;exact⟨_,_,x,s,by simp,L.mono _⟩
  ·rw[wc e]at a;obtain⟨r,m,y,l,q,J⟩:=g.obj b o' a;refine⟨r,m,y,by grind,?_,J.mono _⟩;grind
 ·have key:∀c o' r m,(h.push o).get c=some o'->(p++[(w.heap.size,n)])[c]?=some (r,m)->(c=h.nx/\r=w.heap.size)\/(h.get c=some o'/\p[c]?=some (r,m)/\r<w.heap.size):=by
   intro c o' r m u A;rw[H.Ci]at u;by_cases e:c=h.nx
   ·grind
   ·rw[wc e]at u;rw[f c<|g.lt u]at A;exact .inr ⟨u,A,g.V3 ⟨c,o',m,u,A⟩⟩
  rcases key b d r m a l with⟨E,D⟩|⟨E,D,U⟩<;>rcases key b' k r G v q with⟨C,F⟩|⟨C,F,S⟩
  ·omega
  ·omega
  ·omega
  ·exact g.inj b b' d k r m G E C D F
 ·grind
 ·obtain⟨b,o',m,l,q⟩:=K;rw[H.Ci]at l;by_cases e:b=h.nx
  ·grind
  ·rw[wc e]at l;rw[f b<|g.lt l]at q;exact .inl ⟨b,o',m,l,q⟩
 ·refine⟨by grind,.inl ?_⟩;obtain⟨b,m,cs,t,fz,Q,N,M⟩:=I;refine⟨b,m,cs,t,fz,?_,?_,M⟩
  ·simp_all
  grind
theorem Ext.put{p:Pl}{h:H}{w w':World}(q:R p h w){b r n:Nat}{o o':O}{x':Obj}(u:h.get b=some o)(l:p[b]?=some (r,n))(X:I9 p n o' x')
  (S:w'.heap=w.heap.setIfInBounds r x') (I:w'.os=w.os) (E:w'.output=w.output) (M:w'.tape=w.tape)
  (L:∀cs t fz,o=.cells cs t fz->Lk n fz->w.heap[r]?=some x'/\∃cs' B,o'=.cells cs' B fz:=by intro _ _ _ h;cases h) (Y:w.drawn<=w'.drawn:=by exact Nat.le_refl _):Ext p h w p (h.put b o') w':=by
 have W:r<w.heap.size:=q.V3 ⟨b,o,n,u,l⟩;refine⟨(by simp),⟨q.len,fun c d a=>?_,fun c J d k s m U a D I E=>?_⟩,by simp[S],fun s Q N=>?_,fun s V=>?_,I,E,M,fun s Q K=>?_,Y⟩
 ·rw[H.Cn]at a;by_cases e:c=b
  ·subst e;simp at a;subst a;exact⟨r,n,x',l,by grind,X⟩
  ·rw[wc e]at a;obtain⟨s,m,y,g,v,Z⟩:=q.obj c d a;have x:r≠s:=fun F=>e<|q.inj c b d o s m n a u g<|F▸l
   grind
 ·have f:∀c d,(h.put b o').get c=some d->∃k,h.get c=some k:=by
   intro c d a;rw[H.Cn]at a;grind
  obtain⟨_,g⟩:=f c d a;obtain⟨_,v⟩:=f J k D;exact q.inj c J _ _ s m U g v I E
 ·have x:r≠s:=fun e=>N<|e▸⟨b,o,n,u,l⟩
  grind
 ·obtain⟨c,d,m,g,v⟩:=V;rw[H.Cn]at g;by_cases e:c=b
  ·subst e;exact .inl ⟨c,o,m,u,v⟩
  ·rw[wc e]at g;exact .inl ⟨c,d,m,g,v⟩
 ·obtain⟨c,m,cs,t,fz,C,A,G⟩:=K;by_cases e:c=b
  ·subst e;rw[l]at A;cases A;rw[u]at C;cases C;obtain⟨g,cs',B,rfl⟩:=L cs t fz rfl G;refine⟨?_,.inl ⟨c,n,cs',B,fz,by simp,l,G⟩⟩;grind
  ·have x:r≠s:=fun F=>e<|q.inj c b _ o s m n C u A<|F▸l
   refine⟨by grind,.inl ⟨c,m,cs,t,fz,by simp_all,A,G⟩⟩
theorem R.kill{p:Pl}{h:H}{w:World}(a:R p h w)(b:Nat):R p (h.kill b) w:=by
 have sub:∀c o,(h.kill b).get c=some o->h.get c=some o:=by
  simp
 exact⟨a.len,fun c o d=>a.obj c o<|sub c o d,fun c f o o' r n n' d g=>a.inj c f o o' r n n' (sub c o d) ah⟩
theorem Ext.kill{p:Pl}{h:H}{w:World}(k:R p h w)(b:Nat):Ext p h w p (h.kill b) w:=by
 refine⟨(by simp),k.kill b,zg _,(by simp),fun r v=>?_,rfl,rfl,rfl,fun r x s=>⟨rfl,?_⟩,zg _⟩
 ·obtain⟨c,o,n,d,l⟩:=v;rw[H.De]at d;split at d
  ·cases d
  ·exact .inl ⟨c,o,n,d,l⟩
 ·obtain⟨c,m,cs,t,fz,A,g,B⟩:=s;by_cases e:c=b
  ·subst e;refine .inr ?_;rintro⟨y,o',u,a,q⟩;rw[H.De]at a;split at a
   ·cases a
   ·rename_i f;exact f<|k.inj y c _ _ r u m a A q g
  ·exact .inl ⟨c,m,cs,t,fz,by simp_all,g,B⟩
theorem Ext.move{p:Pl}{h:H}{w w':World}(l:R p h w){b r n:Nat}{o o':O}{x':Obj}(C:h.get b=some o)(B:p[b]?=some (r,n))(ho:I9 p n o' x')
  (V:w'.heap=w.heap.setIfInBounds r x') (W:w'.os=w.os) (L:w'.output=w.output) (Z:w'.tape=w.tape) (hk:∀cs t fz,o=.cells cs t fz->¬Lk n fz) (h4:w.drawn<=w'.drawn:=by exact Nat.le_refl _):Ext p h w (p++[(r,n)]) ((h.kill b).push o') w':=by
 have hlt:r<w.heap.size:=l.V3 ⟨b,o,n,C,B⟩;have k:(p++[(r,n)])[h.nx]?=some (r,n):=by rw[<-l.len];simp
 have f:∀b,b<h.nx->(p++[(r,n)])[b]?=p[b]?:=ah;have d:∀c a,((h.kill b).push o').get c=some a->(c=h.nx/\a=o')\/(c≠b/\c<h.nx/\h.get c=some a):=by
  intro c a g;rw[H.Ci,H.VF,H.De]at g;by_cases e:c=h.nx
  ·grind
  ·rw[wc e]at g;by_cases q:c=b
   ·grind
   ·rw[wc q]at g;exact .inr ⟨q,l.lt g,g⟩
 have ne:∀c a s m,c≠b->h.get c=some a->p[c]?=some (s,m)->r≠s:=fun c a s m g hg F e=>g<|l.inj c b a o s m n hg C F<|e▸B
 refine⟨⟨_,rfl⟩,⟨by simp[l.len],fun c a g=>?_,fun c D a x s m Y g E K J=>?_⟩,by simp[V],fun s F S=>?_,fun s hi=>?_,W,L,Z,fun s F M=>?_,h4⟩
 ·rcases d c a g with⟨rfl,rfl⟩|⟨I,q,A⟩
  ·exact⟨r,n,x',k,by grind,ho.mono _⟩
  ·obtain⟨s,m,y,v,u,G⟩:=l.obj c a A;refine⟨s,m,y,by grind,?_,G.mono _⟩;grind
 ·rcases d c a g with⟨rfl,rfl⟩|⟨I,q,A⟩<;>rcases d D x E with⟨rfl,rfl⟩|⟨f1,X,U⟩
  ·rfl
  ·grind
  ·grind
  ·rw[f c q]at K;rw[f D X]at J;exact l.inj c D a x s m Y A U K J
 ·have Q:r≠s:=fun e=>S<|e▸⟨b,o,n,C,B⟩
  grind
 ·obtain⟨c,a,m,v,u⟩:=hi;rcases d c a v with⟨rfl,rfl⟩|⟨I,q,A⟩
  ·rw[k]at u;cases u;exact .inl ⟨b,o,n,C,B⟩
  ·rw[f c q]at u;exact .inl ⟨c,a,m,A,u⟩
 ·obtain⟨c,m,cs,t,fz,v,u,G⟩:=M;by_cases e:c=b
  ·grind
  ·have N:=l.lt v;refine⟨by grind,.inl ⟨c,m,cs,t,fz,?_,by grind,G⟩⟩;rw[H.Ci,H.VF,wc ae,H.De,wc e];exact v
end
def wP(l:List Nat):List V:=l.map fun n=>.int .u64<|.ofNat n
def C8:List (Nat×O):=[(5,.cells (wP [1,10,100,1000,10000,100000,1000000,10000000,100000000,1000000000,10000000000,100000000000,1000000000000,10000000000000,100000000000000,1000000000000000,10000000000000000,100000000000000000,1000000000000000000,10000000000000000000]) 326 (0,20))]
mutual
def V.flat:V->Bool
 | .bool _| .int _ _| .str _| .nilp| .nils| .nilm| .nilf| .nili=>true
 | .agg l| .tup l=>V.EK l
 |_=>false
def V.EK:List V->Bool
 |[]=>true
 |v::vs=>v.flat&&V.EK vs
end
mutual
theorem V.Cu{p q:Pl}:∀ {v:V} {v':Value},v.flat=true->Ab p v v'->Ab q v v'
 | .bool _,_,_,h| .int _ _,_,_,h| .str _,_,_,h| .nilp,_,_,h| .nils,_,_,h| .nilm,_,_,h| .nilf,_,_,h| .nili,_,_,h=>by simpa [Ab]using h
 | .agg l,_,a,h=>by
  obtain⟨x,rfl,b⟩:=h;exact⟨x,rfl,V.Ga (by simpa [V.flat]using a) b⟩
 | .tup l,_,a,h=>by
  obtain⟨x,rfl,b⟩:=h;exact⟨x,rfl,V.Ga (by simpa [V.flat]using a) b⟩
 | .ptr _ _,_,a,_| .sl _ _ _ _ _,_,a,_| .map _,_,a,_| .fn _ _ _,_,a,_| .yld _,_,a,_| .iface _ _,_,a,_=>by simp[V.flat]at a
theorem V.Ga{p q:Pl}:∀ {v:List V} {v':List Value},V.EK v=true->An p v v'->An q v v'
 |[],_,_,h=>by simp_all
 |_::_,[],_,h=>by simp at h
 |v::vs,x::b,a,h=>by
  simp only[V.EK,zn]at a;rw[A4]at h ⊢;exact⟨V.Cu a.1 h.1,V.Ga a.2 h.2⟩
end
def osz:O->Nat
 | .cells cs _ _=>cs.length
 |_=>0
def wS(g:Nat):List (Nat×O)->Bool
 |[]=>false
 |(i,_)::l=>bif zh i g then true else wS g l
def vC:List (Nat×O)->PM O
 |[]=>.leaf
 |(i,o)::l=>(vC l).set i<|some o
def N5:List (Nat×O)->Nat
 |[]=>0
 |(i,_)::l=>bif zk (i+1) (N5 l)then N5 l else i+1
def hG:H:=⟨vC C8,N5 C8⟩
def yX:List (Nat×O)->Bool
 |[]=>true
 |(_,.cells cs _ (a,b))::l=>V.EK cs&&zh a 0&&zh b cs.length&&z7 0 b&&yX l
 |_=>false
theorem VJ:yX C8=true:=by rfl
theorem VW{g:Nat}:∀ {l:List (Nat×O)},wS g l=true->∃o,(g,o)∈l
 |[],h=>by cases h
 |(i,o)::l,h=>by
  unfold wS at h;cases a:zh i g with
  |true=>simp_all
  |false=>
   rw[a]at h;obtain⟨o',b⟩:=VW h;grind
theorem Rn:∀ {l:List (Nat×O)},yX l=true->∀x∈l,∃cs t,x.2=.cells cs t (0,cs.length)/\V.EK cs=true/\0<cs.length
 |[],_,x,c=>by cases c
 |(i,.cells cs t (a,b))::l,h,x,c=>by
  simp only[yX,zn]at h;obtain⟨⟨⟨⟨k,d⟩,f⟩,m⟩,g⟩:=h;rcases List.mem_cons.1 c with rfl|c
  ·have d:a=0:=by simp_all
   have f:b=cs.length:=by simp_all
   subst d f;exact⟨cs,t,rfl,k,(by simp_all)⟩
  ·exact Rn g x c
theorem JX:∀ {l:List (Nat×O)} {b:Nat} {o:O},(vC l).get b=some o->(b,o)∈l
 |[],b,o,h=>by simp[vC]at h
 |(i,o')::l,b,o,h=>by
  simp only[vC,PM.Cs]at h;by_cases e:b=i
  ·grind
  ·rw[wc e]at h;exact List.mem_cons_of_mem _<|JX h
theorem V9{n:Nat}:∀ {l:List (Nat×O)},(∀x∈l,x.1<n)->N5 l<=n
 |[],_=>Nat.zero_le _
 |(i,o)::l,h=>by
  have c:=h (i,o) (by simp);have a:=V9 (l:=l) fun x b=>h x ah
  grind [N5]
theorem Qf:∀ {l:List (Nat×O)},∀x∈l,x.1<N5 l
 |[],x,a=>by cases a
 |(i,o)::l,x,a=>by
  unfold N5;rcases List.mem_cons.1 a with rfl|a
  ·cases b:zk (i+1) (N5 l)with
   |true=>have:=Nat.le_of_ble_eq_true b;grind
   |false=>simp
  ·have:=Qf (l:=l) x a;grind [Nat.ble_eq_true_of_le]
def Gp(p:Pl):Prop:=∀x∈C8,p[x.1]?=some (x.1,osz x.2)
def Gh(h:H):Prop:=∀x∈C8,h.get x.1=some x.2
theorem Gp.app{p:Pl}(h:Gp p)(q:Pl):Gp (p++q):=fun x a=>by
 have:=h x a;grind
theorem Gp.top{p:Pl}(h:Gp p):N5 C8<=p.length:=V9 fun x a=>(zm.1<|h x a).1
theorem Gp.take{p:Pl}(h:Gp p):Gp (p.take<|N5 C8):=fun x a=>by
 rw[zq<|Qf x a];exact h x a
theorem DM.flat{p q:Pl}{cs:List V}{vs:List Value}(g:V.EK cs=true)(h:DM p cs vs):DM q cs vs:=
 ⟨h.1,fun i d v b c f=>V.Cu (by
  have:=List.mem_of_getElem? b;clear h b c f;induction cs with
  |nil=>grind
  |cons a cs k=>
   simp only[V.EK,zn]at g;grind)<|h.2 i d v b c f⟩
theorem tK{p:Pl}{h:H}{w:World}(v:R p h w)(d:Gp p)(m:Gh h):R (p.take<|N5 C8) hG w:=by
 refine⟨by rw[List.length_take,Nat.min_eq_left d.top];rfl,fun b o g=>?_,fun b b' o o' r n n' g f l k=>?_⟩
 ·have a:=JX g;obtain⟨cs,t,e,u,y⟩:=Rn VJ _ a;obtain⟨r,n,x,l,k,h3⟩:=v.obj b o<|m _ a;refine⟨r,n,x,by rw[zq<|Qf _ a];exact l,k,?_⟩;subst e;obtain⟨c,fz',k1,k2,k3,k4,k5⟩:=h3;exact⟨c,fz',k1,k2,k3,k4.flat u,k5⟩
 ·have q:=JX g;have s:=JX f;have B:=d.take _ q;have A:=d.take _ s;grind
theorem Ext.C8{p:Pl}{w w':World}{p':Pl}{h':H}(l:Gp p)(c:Ext p hG w p' h' w')(r:Nat)(a:r<w.heap.size):w'.heap[r]?=w.heap[r]?:=by
 by_cases f:Im p hG r
 ·obtain⟨b,o,n,k,g⟩:=f;have d:=JX k;obtain⟨cs,t,e,hf,hl⟩:=Rn VJ _ d;subst e;have:=l _ d;rw[this]at g;cases g;exact(c.lock _ a ⟨_,_,_,_,_,k,this,rfl,zg _,hl⟩).1
 ·exact c.same r a f
section
variable {p:Pl}
def V.cells:V->List V
 | .agg cs=>cs
 |v=>[v]
theorem Ab.cells{d:V}{v:Value}(b:Ab p d v):An p d.cells v.cells.toList:=by
 cases d<;>simp only[V.cells]<;>simp only[Ab]at b
 case agg cs=>obtain⟨x,rfl,f⟩:=b;exact f
 case bool=>simp_all [zj,Ab]
 case int=>simp_all [zj,Ab]
 case str=>simp_all [zj,Ab]
 case nilp=>simp_all [zj,Ab]
 case nils=>simp_all [zj,Ab]
 case nilm=>simp_all [zj,Ab]
 case nilf=>simp_all [zj,Ab]
 case nili=>simp_all [zj,Ab]
 case ptr=>obtain⟨r,n,f,rfl⟩:=b;simp[zj,Ab,f]
 case esl=>obtain⟨a,c,rfl⟩:=b;simp[zj,Ab]
 case es0=>obtain⟨a,rfl⟩:=b;simp[zj,Ab]
 case sl=>obtain⟨r,n,c,f,rfl,g⟩:=b;simp only[zj,A4,IL,ve];simp only[Ab];grind
 case map=>obtain⟨r,n,f,rfl⟩:=b;simp[zj,Ab,f]
 case yld=>obtain⟨r,n,f,rfl⟩:=b;simp[zj,Ab,f]
 case fn=>obtain⟨x,y,rfl,f,g⟩:=b;simp only[zj,A4,IL,ve];simp only[Ab];grind
 case iface=>obtain⟨y,rfl,f⟩:=b;simp_all [zj,Ab]
 case tup=>obtain⟨x,rfl,f⟩:=b;simp_all [zj,Ab]
end
structure TI where
 size:Nat
 bytes:Nat
 zv:V
def TI.zero(i:TI):List V:=i.zv.cells
inductive FK where
 |bool
 |str
 |int (k:IntKind)
def FK.ok:FK->V->Bool
 | .bool,.bool _=>true
 | .str,.str _=>true
 | .int k,.int a _=>k==a
 |_,_=>false
def fit:List FK->List V->Bool
 |[],[]=>true
 |k::ks,v::vs=>bif k.ok v then fit ks vs else false
 |_,_=>false
structure BP where
 und:TypeId->Option TypeDesc
 inf:TypeId->Option TI
 flat:TypeId->Option (List FK)
 mth:TypeId->String->Option FuncId
def DI:V->V->Option Bool
 | .bool a,.bool b=>some<|a==b
 | .int k a,.int c b=>if k=c then some (a==b)else none
 | .str a,.str b=>some<|a==b
 |_,_=>none
def BH:List V->List V->Option Bool
 |[],[]=>some true
 |a::c,b::d=>
  match DI a b with
  |some true=>BH c d
  |some false=>if c.length=d.length then some false else none
  |none=>none
 |_,_=>none
structure BP.Ok(T:BP)(P:Program):Prop where
 und:∀t d,T.und t=some d->P.underlying t=some d
 inf:∀t i,T.inf t=some i->∃j v,P.info? t=some j/\j.size=i.size/\j.bytes=i.bytes/\j.zero=some v/\∀p,Ab p i.zv v
 flat:∀t ks,T.flat t=some ks->∀(p:Pl) (x y:List V) (x' y':Array Value) (r:Bool) (w:World),fit ks x=true->fit ks y=true->An p x x'.toList->An p y y'.toList->BH x y=some r->
  (yx t (.agg x') (.agg y')).run P w=.ok r w
 guard:∀t ks,T.flat t=some ks->P.eqGuardType P.depth t=false
 key:∀t ks,T.flat t=some ks->∀(p:Pl) (x:List V) (x':Array Value) (b:Bool) (w:World),fit ks x=true->An p x x'.toList->(ym b 10000 t (.agg x')).run P w=.ok () w
 kind:∀t ks,T.flat t=some ks->∃fs,T.und t=some (.struct fs)
 mth:∀t name f,T.mth t name=some f->∃j m d,P.info? t=some j/\j.methods.find? (·.name==name)=some m/\m.path= #[]/\m.func=some (f,false)/\P.underlying t=some d/\∀e,d≠ .pointer e
section
variable {T:BP}{P:Program}{p:Pl}{h:H}{w:World}
theorem Ax(a:T.Ok P){t:TypeId}{d:TypeDesc}(b:T.und t=some d):(underlying t).run P w=.ok d w:=by
 unfold underlying;simp[a.und t d b]
theorem Bo(b:T.Ok P){t:TypeId}{i:TI}(a:T.inf t=some i):(sizeOf t).run P w=.ok i.size w:=by
 obtain⟨j,v,d,c,_⟩:=b.inf t i a;simp_all [sizeOf,typeInfo]
theorem NR(b:T.Ok P){t:TypeId}{i:TI}(a:T.inf t=some i):∃j,(∀w,(typeInfo t).run P w=.ok j w)/\j.bytes=i.bytes/\j.size=i.size:=by
 obtain⟨j,v,f,c,d,_⟩:=b.inf t i a;simp_all [typeInfo]
theorem DO(b:T.Ok P){t:TypeId}{i:TI}(a:T.inf t=some i):∃v,(∀w,(zeroValue t).run P w=.ok v w)/\∀p,An p i.zero v.cells.toList:=by
 obtain⟨j,v,k,d,g,f,c⟩:=b.inf t i a;exact⟨v,(by simp_all [zeroValue,typeInfo]),fun p=>(c p).cells⟩
theorem tM(b:T.Ok P){t:TypeId}{i:TI}(a:T.inf t=some i):∃v,(∀w,(zeroValue t).run P w=.ok v w)/\∀p,Ab p i.zv v:=by
 obtain⟨j,v,k,c,g,d,f⟩:=b.inf t i a;simp_all [zeroValue,typeInfo]
def DP:TypeDesc->Bool
 | .struct _| .array _ _=>true
 |_=>false
theorem PH(a:T.Ok P){t:TypeId}{d:TypeDesc}(b:T.und t=some d):(isAgg t).run P w=.ok (DP d) w:=by
 unfold isAgg;rw[zd,Ax a b];cases d<;>simp[DP]
def V.one:V->Bool
 | .agg _| .tup _| .junk=>false
 |_=>true
theorem V.KL{d:V}(h:d.one=true):d.ok=true:=by cases d<;>first|rfl|cases h
theorem Ab.one{d:V}{v:Value}(b:Ab p d v)(f:d.one=true):v.oneCell'=true:=by
 cases d<;>simp only[V.one]at f<;>simp only[Ab]at b
 case agg|tup=>cases f
 case ptr=>obtain⟨r,n,_,rfl⟩:=b;rfl
 case esl=>obtain⟨a,c,rfl⟩:=b;rfl
 case es0=>obtain⟨a,rfl⟩:=b;rfl
 case sl=>obtain⟨r,n,c,_,rfl,_⟩:=b;rfl
 case map=>obtain⟨r,n,_,rfl⟩:=b;rfl
 case yld=>obtain⟨r,n,_,rfl⟩:=b;rfl
 case fn=>obtain⟨x,y,rfl,_,_⟩:=b;rfl
 case iface=>obtain⟨y,rfl,_⟩:=b;rfl
 all_goals subst b;rfl
@[simp] theorem Addr.Ly(r off n:Nat):Addr.add ⟨r,off,none⟩ n=⟨r,off+n,none⟩:=by
 unfold Addr.add;simp
def uC(h:H)(b off n:Nat):Option (List V):=
 match h.get b with
 |some (.cells cs _ _)=>if off+n<=cs.length/\((cs.drop off).take n).all V.ok=true then some ((cs.drop off).take n)else none
 |_=>none
def rd(h:H)(b off n:Nat):Option (List V):=
 match h.get b with
 |some (.cells cs _ _)=>bif zk (Nat.add off n) (ET cs)&&Kb V.ok (VL n<|Jg off cs)then some (VL n<|Jg off cs)else none
 |_=>none
theorem Wj:rd=uC:=by
 funext h b off n
 unfold rd uC;split
 ·rw[Dm,N7,MZ,EU];simp
 ·rfl
theorem cell_of(a:R p h w){b:Nat}{cs:List V}{t:TypeId}{fz:Nat×Nat}(d:h.get b=some (.cells cs t fz)):
  ∃r n c fz',p[b]?=some (r,n)/\w.heap[r]?=some (.cells c t fz')/\c.size=n/\cs.length<=n/\DM p cs (c.toList.take cs.length)/\(∀i,w.cell? ⟨r,i,none⟩=c[i]?)/\
   ∀i,i<n->fz'.1<=i->i<fz'.2->fz.1<=i/\i<fz.2:=by
 obtain⟨r,n,x,o,f,c,fz',m,l,g,k,q⟩:=a.obj b _ d;grind [World.cell?]
theorem O2{a:Addr}{v:Value}(b:w.cell? a=some v):(load a).run P w=.ok v w:=by simp[b]
theorem run_loadCellsFrom{a:Addr}:∀(n i:Nat) (b:Array Value) (vs:List Value),vs.length=n->(∀j v,vs[j]?=some v->w.cell? (a.add<|i+j)=some v)->
  (loadCellsFrom a i n b).run P w=.ok (b++vs.toArray) w
 |0,i,b,vs,c,_=>by
  simp_all [loadCellsFrom]
 |n+1,i,b,[],c,_=>by grind
 |n+1,i,b,v::vs,c,d=>by
  unfold loadCellsFrom;rw[zd,O2 (a:=a.add i) (by have:=d 0 v rfl;simpa using this)];simp only[zc];rw[run_loadCellsFrom n (i+1) (b.push v) vs ah (fun j u f=>by
   have:=d (j+1) u ah;grind)]
  simp
theorem run_loadCells(q:R p h w){b off n:Nat}{k:List V}(d:rd h b off n=some k):
  ∃r m vs,p[b]?=some (r,m)/\(loadCells ⟨r,off,none⟩ n).run P w=.ok vs.toArray w/\An p k vs/\vs.length=n/\∀i v,vs[i]?=some v->w.cell? ⟨r,off+i,none⟩=some v:=by
 rw[Wj]at d;unfold uC at d;split at d
 case h_2=>cases d
 rename_i cs t fz s;split at d
 case isFalse=>cases d
 cases d;obtain⟨r,m,c,_,o,u,A,y,l,x,_⟩:=cell_of q s;have g:An p ((cs.drop off).take n) ((c.toList.take cs.length).drop off|>.take n):=((l.drop off).take n).Jm ah;have a:((c.toList.take cs.length).drop off|>.take n).length=n:=ah
 have f:∀i v,((c.toList.take cs.length).drop off|>.take n)[i]?=some v->w.cell? ⟨r,off+i,none⟩=some v:=by
  grind
 refine⟨r,m,_,o,?_,g,a,f⟩;unfold loadCells;rw[run_loadCellsFrom n 0 #[] _ a (by simp_all)];simp
def Eu(T:BP)(h:H)(t:TypeId)(a:V):Option V:=
 match a,T.und t,T.inf t with
 | .ptr b off,some d,some i=>
  bif DP d then(rd h b off i.size).map .agg
  else match rd h b off 1 with
   |some (v::_)=>some v
   |_=>none
 |_,_,_=>none
theorem SV(o:T.Ok P)(A:R p h w){t:TypeId}{a v:V}{l:Value}(x:Ab p a l)(c:Eu T h t a=some v):
  ∃v',(Instr.loadAt t l).run P w=.ok v' w/\Ab p v v':=by
 unfold Eu at c;split at c
 case h_2=>cases c
 rename_i b off d i C D;simp only[Ab]at x;obtain⟨r,n,y,rfl⟩:=x;unfold Instr.loadAt yf;simp only[zd,zf,zc];unfold loadVar;simp only[zd];rw[PH o C];simp only[zc];cases f:DP d with
 |true=>
  simp only[f,we]at c;rw[zi]at c;obtain⟨G,k,rfl⟩:=c;obtain⟨E,m,vs,g,s,q,_⟩:=run_loadCells (P:=P) A k;rw[y]at g;cases g;simp only[wm,zd,Bo o D,zc,s,zf];simp_all [Ab]
 |false=>
  simp only[f,wg]at c;split at c
  case h_2=>cases c
  rename_i v0 I k;cases c;obtain⟨E,m,vs,g,s,q,J,B⟩:=run_loadCells (P:=P) A k;rw[y]at g;cases g;cases vs with
  |nil=>grind
  |cons u F=>
   simp at q;simp only[zp,vf];have:=B 0 u rfl;simp_all
def Gv:List V->Nat->List V->List V
 |cs,_,[]=>cs
 |cs,off,v::vs=>Gv (cs.set off v) (off+1) vs
@[simp] theorem HA:∀(vs:List V) (cs:List V) (off:Nat),(Gv cs off vs).length=cs.length
 |[],_,_=>rfl
 |v::vs,cs,off=>by simp[Gv,HA vs]
def clear(fz:Nat×Nat)(off n:Nat):Bool:=zk fz.2 off||zk (off+n) fz.1||zk fz.2 fz.1
def wr0(h:H)(b off:Nat)(vs:List V):Option H:=
 match h.get b with
 |some (.cells cs t fz)=>bif zk (off+vs.length) cs.length&&clear fz off vs.length&&vs.all V.one then some (h.put b<|.cells (Gv cs off vs) t fz)else none
 |_=>none
theorem K0(a:V):∀(vs cs:List V) (off:Nat),Gv (a::cs) (off+1) vs=a::Gv cs off vs
 |[],cs,off=>rfl
 |v::vs,cs,off=>by
  show Gv ((a::cs).set (off+1) v) (off+1+1) vs=a::Gv (cs.set off v) (off+1) vs;rw[List.set_cons_succ,K0 a vs]
theorem NC:∀(vs:List V) (off:Nat),Gv [] off vs=[]
 |[],_=>rfl
 |v::vs,off=>by show Gv ([].set off v) (off+1) vs=[];rw[List.set_nil,NC vs]
theorem SH:∀(vs cs:List V),Jc vs cs=Gv cs 0 vs
 |[],cs=>rfl
 |v::vs,[]=>(NC _ _).symm
 |v::vs,c::cs=>by
  show v::Jc vs cs=Gv ((c::cs).set 0 v) (0+1) vs;rw[List.set_cons_zero,K0,SH vs cs]
theorem IF(vs:List V):∀(off:Nat) (cs:List V),Ce off vs cs=Gv cs off vs
 |0,cs=>SH vs cs
 |off+1,[]=>(NC _ _).symm
 |off+1,c::cs=>by rw[K0];exact wi (c:: ·)<|IF vs off cs
def wr(h:H)(b off:Nat)(vs:List V):Option H:=
 match h.get b with
 |some (.cells cs t fz)=>bif zk (Nat.add off<|ET vs) (ET cs)&&clear fz off (ET vs)&&Kb V.one vs then some (h.put b<|.cells (Ce off vs cs) t fz)else none
 |_=>none
theorem yQ:wr=wr0:=by
 grind [wr,wr0,Dm,EU,IF]
theorem bV(a:Array Obj)(i:Nat)(x:Obj)(j:Nat):(a.setIfInBounds i x)[j]?=if i=j/\j<a.size then some x else a[j]?:=by
 grind
theorem fP{a:Array Obj}{i:Nat}{x:Obj}(h:a[i]?=some x):a.setIfInBounds i x=a:=by
 grind
theorem MM{a:Array Obj}{i:Nat}{f:Obj->Obj}{x:Obj}(h:a[i]?=some x):a.modify i f=a.setIfInBounds i (f x):=by
 grind
theorem setCell_eq{w:World}{r off:Nat}{c:Array Value}{t:TypeId}{fz:Nat×Nat}(v:Value)(a:w.heap[r]?=some (.cells c t fz)):
  w.setCell ⟨r,off,none⟩ v={ w with heap:=w.heap.setIfInBounds r (.cells (c.setIfInBounds off v) t fz) }:=by
 grind [World.setCell,MM]
theorem E8{r:Nat}{t:TypeId}{fz:Nat×Nat}:∀(vs:List Value) (w:World) (c:Array Value) (off i:Nat),w.heap[r]?=some (.cells c t fz)->off+i+vs.length<=c.size->
  (∀v∈vs,v.oneCell'=true)->(∀j,i<=j->j<i+vs.length->¬(fz.1<=off+j/\off+j<fz.2))->
  ∃a:Array Value,(storeCells ⟨r,off,none⟩ vs i).run P w=.ok () { w with heap:=w.heap.setIfInBounds r (.cells a t fz) }/\a.size=c.size/\
   a.toList=(List.range c.size).map (fun j=>if off+i<=j/\j<off+i+vs.length then vs.getD (j-(off+i)) default else c.toList.getD j default)
 |[],w,c,off,i,b,_,_,_=>by
  refine⟨c,?_,rfl,?_⟩
  ·simp_all [storeCells,fP]
  ·apply List.ext_getElem (by simp);grind
 |v::vs,w,c,off,i,b,d,m,k=>by
  simp at d;have g:w.cell? ⟨r,off+i,none⟩=some (c[off+i]'ae):=by simp[World.cell?,b]
  have x:w.frozen? ⟨r,off+i,none⟩=false:=by
   simp_all [World.frozen?]
  have l:=setCell_eq (off:=off+i) v b;have f:=(Array.getElem?_eq_some_iff.1 b).1;obtain⟨a,B,y,u⟩:=E8 vs { w with heap:=w.heap.setIfInBounds r (.cells (c.setIfInBounds (off+i) v) t fz) } (c.setIfInBounds (off+i) v) off (i+1)
   (by rw[bV,wd ⟨rfl,f⟩]) ah ah (fun j o s=>k j ae ah)
  refine⟨a,?_,by grind,?_⟩
  ·simp_all [storeCells,run_store]
  ·rw[u];apply List.ext_getElem (by simp);intro j q A;simp at q;simp only[List.getElem_map,List.getElem_range,List.length_cons];grind
theorem OT:∀(vs cs:List V) (off j:Nat),off+vs.length<=cs.length->(Gv cs off vs)[j]?=if off<=j/\j<off+vs.length then vs[j-off]? else cs[j]?
 |[],cs,off,j,_=>by rw[wc<|by simp];rfl
 |v::vs,cs,off,j,a=>by
  unfold Gv;rw[OT vs (cs.set off v) (off+1) j ah];grind
theorem Qd(E:R p h w){b off:Nat}{f:List V}{vs:List Value}(q:An p f vs){h':H}(k:wr h b off f=some h'):
  ∃r m w',p[b]?=some (r,m)/\(storeCells ⟨r,off,none⟩ vs).run P w=.ok () w'/\Ext p h w p h' w':=by
 rw[yQ]at k;unfold wr0 at k;split at k
 case h_2=>cases k
 rename_i cs t fz G;cases A:(zk (off+f.length) cs.length&&clear fz off f.length&&f.all V.one)with
 |false=>grind
 |true=>
  simp only[A,we,ze]at k;subst k;simp only[zn,z8,List.all_eq_true]at A;obtain⟨⟨Y,D⟩,W⟩:=A;obtain⟨r,m,c,fz',h1,h2,h3,h4,h5,h6,h7⟩:=cell_of E G;have S:=q.length;have l:∀v∈vs,v.oneCell'=true:=by
   intro v B;obtain⟨i,F⟩:=List.mem_iff_getElem?.1 B;have M:=(zm.1 F).1;obtain⟨u,a,g⟩:=q.get (i:=i) (d:=f[i]'ae) (by simp);rw[F]at a;cases a;exact g.one ah
  have s:∀j,0<=j->j<0+vs.length->¬(fz'.1<=off+j/\off+j<fz'.2):=by
   rintro j _ hj ⟨L,J⟩;have:=h7 (off+j) ae L J;simp only[clear,yv,z8]at D;omega
  obtain⟨C,N,Q,g3⟩:=E8 (P:=P) vs w c off 0 h2 ae l s;refine⟨r,m,_,h1,N,Ext.put E G h1 ?_ rfl rfl rfl rfl (fun K U O X x=>?_)⟩
  case refine_2=>
   obtain⟨l1,Z,l3⟩:=x;simp only[clear,yv,z8]at D;have I:C=c:=by
    apply Array.ext';apply List.ext_getElem?;grind
   grind
  refine⟨C,fz',rfl,by omega,by simp_all,?_,h7⟩;refine⟨by simp;omega,?_⟩;intro i d v o B y;rw[OT f cs off i ae]at o;by_cases e:off<=i/\i<off+f.length
  ·rw[wd e]at o;obtain⟨u,a,g⟩:=q.get o;grind
  ·rw[wc e]at o;obtain⟨u,a,g⟩:=h5.get o y;grind
def Hl(T:BP)(h:H)(t:TypeId)(a x:V):Option H:=
 match a,T.inf t with
 | .ptr b off,some i=>bif zh x.cells.length i.size then wr h b off x.cells else none
 |_,_=>none
theorem Xt(q:T.Ok P)(l:R p h w){t:TypeId}{a x:V}{d x':Value}(g:Ab p a d)(f:Ab p x x'){h':H}(c:Hl T h t a x=some h'):
  ∃w',(Instr.storeAt t d x').run P w=.ok () w'/\Ext p h w p h' w':=by
 unfold Hl at c;split at c
 case h_2=>cases c
 rename_i b off i o;rw[Bj]at c;by_cases e:x.cells.length=i.size
 ·simp only[e,decide_true,we]at c;obtain⟨r,n,k,rfl⟩:=g;obtain⟨r',m,w',h1,h2,h3⟩:=Qd (P:=P) l f.cells c;rw[k]at h1;cases h1;refine⟨w',?_,h3⟩;have s:=f.cells.length;unfold Instr.storeAt yf;unfold storeVar;have:x'.cells.size=i.size:=ah
  simp only[zd,Bo q o,zc,this,vc,not_true_eq_false,vf];exact h2
 grind
theorem Cp(t:TypeId)(c:Array Value):(newRow t c).run P w=.ok ⟨w.heap.size,0,none⟩ { w with heap:=w.heap.push (.cells c t) }:=by
 rfl
def HV(h:H)(t:TypeId)(cs:List V):H:=h.push<|.cells cs t (0,0)
theorem Mx(b:R p h w)(t:TypeId){d:List V}{c:Array Value}(a:An p d c.toList):
  ∃n,Ext p h w (p++[(w.heap.size,n)]) (HV h t d) { w with heap:=w.heap.push (.cells c t) }/\(p++[(w.heap.size,n)])[h.nx]?=some (w.heap.size,n)/\n=c.size:=by
 refine⟨c.size,Ext.push b ⟨c,(0,0),rfl,rfl,by have:=a.length;grind,?_,ae⟩,by rw[<-b.len];simp,rfl⟩;have:=a.length;rw[List.take_of_length_le ae];exact a.uU
def FR(T:BP)(h:H)(t:TypeId):Option (V×H):=(T.inf t).map fun i=>(.ptr h.nx 0,HV h t i.zero)
theorem XG(f:T.Ok P)(c:R p h w){t:TypeId}{v:V}{h':H}(a:FR T h t=some (v,h')):
  ∃v' p' w',(Instr.alloc t true<|.tuple #[]).run P w=.ok v' w'/\Ab p' v v'/\Ext p h w p' h' w':=by
 unfold FR at a;rw[zi]at a;obtain⟨i,d,b⟩:=a;cases b;obtain⟨z,hz,hzr⟩:=DO f d;obtain⟨n,b,hp,_⟩:=Mx c t<|hzr p;refine⟨.pointer<|some ⟨w.heap.size,0,none⟩,_,_,?_,?_,b⟩
 ·grind [Instr.alloc,zd,zc,newVar,Cp,zf]
 simp_all [Ab]
def Xi(h:H)(t:TypeId)(x:V):V×H:=(.ptr h.nx 0,HV h t x.cells)
theorem jB(a:R p h w){t:TypeId}{x:V}{x':Value}(b:Ab p x x'):
  ∃v' p' w',(Instr.box t x').run P w=.ok v' w'/\Ab p' (Xi h t x).1 v'/\Ext p h w p' (Xi h t x).2 w':=by
 obtain⟨n,c,d,_⟩:=Mx a t b.cells;refine⟨.pointer<|some ⟨w.heap.size,0,none⟩,_,_,?_,?_,c⟩
 ·rfl
 simp_all [Xi,Ab]
def Sc(op:BinOp)(x y:Rd):Option V:=
 match op with
 | .add=>if x.length+y.length<=4611686018427387904 then some (.str<|x++y)else none
 | .eql=>some<|.bool<|x==y
 | .neq=>some<|.bool !(x==y)
 | .lss=>some<|.bool<|yt x y
 | .leq=>some<|.bool<|yt x y||x==y
 | .gtr=>some<|.bool !(yt x y||x==y)
 | .geq=>some<|.bool !yt x y
 |_=>none
theorem HO(s:Rd):(bytesOf s).toList=s:=ByteArray.toList_mk s
theorem BL(s:Rd):(bytesOf s).size=s.length:=by rfl
theorem Og(x y:Rd):bytesOf x++bytesOf y=bytesOf (x++y):=by
 rfl
theorem gD{op:BinOp}{x y:Rd}{v:V}(a:Sc op x y=some v):
  ∃v',(Op.stringOp op (bytesOf x)<|bytesOf y).run P w=.ok v' w/\Ab p v v':=by
 unfold Op.stringOp;simp only[HO,BL];cases op<;>simp only[Sc]at a
 case add=>
  split at a
  ·cases a;rw[wc<|by grind [IntKind.max,IntKind.bits]];simp_all [Ab,Og]
  grind
 all_goals first
  |(cases a;done)
  |(cases a;exact⟨_,zf ..,by simp[Ab]⟩)
def Ot(op:BinOp)(k:IntKind)(a b:Int):Option V:=
 match op with
 | .add=>some<|.int k<|k.wrap<|a+b
 | .sub=>some<|.int k<|k.wrap<|a-b
 | .mul=>some<|.int k<|k.wrap<|a*b
 | .quo=>if b=0 then none else some<|.int k<|k.wrap<|a.tdiv b
 | .rem=>if b=0 then none else some<|.int k<|a.tmod b
 | .and=>some<|.int k<|k.wrap (yb k.bits a&&&yb k.bits b).toNat
 | .or=>some<|.int k<|k.wrap (yb k.bits a|||yb k.bits b).toNat
 | .xor=>some<|.int k<|k.wrap (yb k.bits a^^^yb k.bits b).toNat
 | .andNot=>some<|.int k<|k.wrap (yb k.bits a&&& ~~~yb k.bits b).toNat
 | .eql=>some<|.bool<|a==b
 | .neq=>some<|.bool<|a !=b
 | .lss=>some<|.bool<|a<b
 | .leq=>some<|.bool<|a<=b
 | .gtr=>some<|.bool<|a>b
 | .geq=>some<|.bool<|a>=b
 |_=>none
def Yt(op:BinOp)(k:IntKind)(a b:Int):Option V:=
 if b<0 then none else
 match op with
 | .shl=>some<|.int k<|k.wrap<|a*2^(min b.toNat k.bits)
 | .shr=>some<|.int k<|a.fdiv<|2^(min b.toNat k.bits)
 |_=>none
def Nz(ks:Option (List FK))(a b:List V):Option Bool:=
 match ks with
 |some ks=>bif fit ks a&&fit ks b then BH a b else none
 |none=>none
theorem GO{ks:Option (List FK)}{a b:List V}{r:Bool}(h:Nz ks a b=some r):∃l,ks=some l/\fit l a=true/\fit l b=true/\BH a b=some r:=by
 unfold Nz at h;grind
def Bm(T:BP)(t:TypeId)(x y:V):Option Bool:=
 match T.und t,x,y with
 |some .bool,.bool a,.bool b=>some<|a==b
 |some (.pointer _),.nilp,y=>match y with| .nilp=>some true| .ptr .. =>some false|_=>none
 |some (.pointer _),.ptr ..,.nilp=>some false
 |some (.pointer e),.ptr a i,.ptr b j=>if a=b then match T.inf e with|some f=>if f.size≠0 then some (i==j)else none|_=>none else none
 |some (.interface _),.iface ..,.nili=>some false
 |some (.interface _),.nili,.iface .. =>some false
 |some (.slice _),.nils,y=>match y with| .nils=>some true| .sl .. =>some false| .esl=>some false| .es0=>some false|_=>none
 |some (.slice _),.sl ..,.nils=>some false
 |some (.slice _),.esl,.nils=>some false
 |some (.slice _),.es0,.nils=>some false
 |some (.map _ _),.nilm,y=>match y with| .nilm=>some true| .map .. =>some false|_=>none
 |some (.map _ _),.map ..,.nilm=>some false
 |some (.func ..),.nilf,.nilf=>some true
 |some (.func ..),.fn ..,.nilf=>some false
 |some (.func ..),.nilf,.fn .. =>some false
 |_,.agg c,.agg d=>Nz (T.flat t) c d
 |_,_,_=>none
def Jv(T:BP)(op:BinOp)(t:TypeId)(x y:V):Option V:=
 match op,x,y with
 | .shl,.int k a,.int _ b=>Yt .shl k a b
 | .shr,.int k a,.int _ b=>Yt .shr k a b
 |op,.int k a,.int c b=>if k=c then Ot op k a b else none
 |op,.str a,.str b=>Sc op a b
 | .eql,x,y=>(Bm T t x y).map fun b=>.bool b
 | .neq,x,y=>(Bm T t x y).map fun b=>.bool !b
 |_,_,_=>none
theorem gJ{op:BinOp}{k:IntKind}{a b:Int}{v:V}(d:op≠ .shl/\op≠ .shr)(c:Ot op k a b=some v)(t:TypeId):
  ∃v',(binOp op t (.int k a)<|.int k b).run P w=.ok v' w/\Ab p v v':=by
 cases op<;>simp only[Ot]at c<;>simp only[binOp,vc,not_true_eq_false,vf,Op.intArith,Op.intDiv,Op.intBits,Op.intCmp]
 case quo|rem=>
  split at c
  ·cases c
  ·cases c;simp_all [Ab]
 case shl=>grind
 case shr=>grind
 all_goals (cases c;exact⟨_,zf ..,by simp[Ab]⟩)
theorem PA(f:T.Ok P){t:TypeId}{x y:V}{x' y':Value}(c:Ab p x x')(b:Ab p y y'){r:Bool}(a:Bm T t x y=some r):
  (yx t x' y').run P w=.ok r w:=by
 unfold Bm at a;split at a
 case h_16=>
  rename_i s q;obtain⟨l,m,d,o,B⟩:=GO a;simp only[Ab]at c b;obtain⟨u,rfl,k⟩:=c;obtain⟨v,rfl,hv⟩:=b;exact f.flat t l m p s q u v r w d o k hv B
 case h_17=>cases a
 all_goals (rename_i k;simp only[Ab]at c b;unfold yx Op.maxDepth Op.equalIn;rw[zd,Ax f k];simp only[zc])
 case h_1=>simp_all
 case h_2=>subst c;split at a<;>first|(cases a;done)|(cases a;simp only[Ab]at b;first|(subst b;rfl)|(obtain⟨_,_,_,rfl⟩:=b;simp))
 case h_3=>obtain⟨_,_,_,rfl⟩:=c;simp_all
 case h_4=>
  split at a
  case isFalse=>cases a
  rename_i e;subst e;split at a
  case h_2=>cases a
  rename_i C g;split at a
  case isFalse=>cases a
  rename_i A;cases a;obtain⟨r1,n1,m,rfl⟩:=c;obtain⟨r2,n2,d,rfl⟩:=b;rw[m]at d;cases d;simp only[zd,Bo f g,zc,A,vc,not_false_eq_true,wm];unfold sameAddr;simp only[beq_self_eq_true,wm,zf];congr 1;grind
 case h_5=>obtain⟨_,rfl,_⟩:=c;simp_all
 case h_6=>obtain⟨_,rfl,_⟩:=b;simp_all
 case h_7=>subst c;split at a<;>first|(cases a;done)|(cases a;simp only[Ab]at b;first|(subst b;rfl)|(obtain⟨_,_,_,_,rfl,_⟩:=b;rfl)|(obtain⟨_,_,rfl⟩:=b;simp;done)|(obtain⟨_,rfl⟩:=b;simp;done))
 case h_8=>obtain⟨_,_,_,_,rfl,_⟩:=c;simp_all
 case h_9=>obtain⟨_,_,rfl⟩:=c;simp_all
 case h_10=>obtain⟨_,rfl⟩:=c;simp_all
 case h_11=>subst c;split at a<;>first|(cases a;done)|(cases a;simp only[Ab]at b;first|(subst b;rfl)|(obtain⟨_,_,_,rfl⟩:=b;simp))
 case h_12=>obtain⟨_,_,_,rfl⟩:=c;simp_all
 case h_13=>simp_all
 case h_14=>obtain⟨_,_,rfl,_⟩:=c;simp_all
 case h_15=>obtain⟨_,_,rfl,_⟩:=b;simp_all
def Qy:V->Bool
 | .int .. | .str _| .tup _=>false
 |_=>true
theorem J3{t:TypeId}{x y:V}{r:Bool}(a:Bm T t x y=some r):Qy x=true:=by
 unfold Bm at a;split at a<;>first|rfl|grind
theorem Mz{t:TypeId}{x:V}{x' y':Value}(a:Ab p x x')(b:Qy x=true):
  binOp .eql t x' y'=(do pure (.bool<|<-yx t x' y'))/\binOp .neq t x' y'=(do pure (.bool<|!(<-yx t x' y'))):=by
 cases x<;>simp only[Qy]at b<;>simp only[Ab]at a
 case int|str|tup=>cases b
 case ptr=>obtain⟨_,_,_,rfl⟩:=a;cases y'<;>exact⟨rfl,rfl⟩
 case esl=>obtain⟨_,_,rfl⟩:=a;cases y'<;>exact⟨rfl,rfl⟩
 case es0=>obtain⟨_,rfl⟩:=a;cases y'<;>exact⟨rfl,rfl⟩
 case sl=>obtain⟨_,_,_,_,rfl,_⟩:=a;cases y'<;>exact⟨rfl,rfl⟩
 case map=>obtain⟨_,_,_,rfl⟩:=a;cases y'<;>exact⟨rfl,rfl⟩
 case yld=>obtain⟨_,_,_,rfl⟩:=a;cases y'<;>exact⟨rfl,rfl⟩
 case fn=>obtain⟨_,_,rfl,_⟩:=a;cases y'<;>exact⟨rfl,rfl⟩
 case iface=>obtain⟨_,rfl,_⟩:=a;cases y'<;>exact⟨rfl,rfl⟩
 case agg=>obtain⟨_,rfl,_⟩:=a;cases y'<;>exact⟨rfl,rfl⟩
 all_goals (subst a;cases y'<;>exact⟨rfl,rfl⟩)
theorem iR(f:T.Ok P){op:BinOp}{t:TypeId}{x y:V}{x' y':Value}(d:Ab p x x')(g:Ab p y y'){v:V}(a:Jv T op t x y=some v):
  ∃v',(binOp op t x' y').run P w=.ok v' w/\Ab p v v':=by
 unfold Jv at a;split at a
 case h_1=>
  unfold Yt at a;split at a
  ·cases a
  ·cases a;simp_all [binOp,Op.shift,wc,Ab]
 case h_2=>
  unfold Yt at a;split at a
  ·cases a
  ·cases a;simp_all [binOp,Op.shift,wc,Ab]
 case h_3=>
  simp_all [Ab,gJ]
 case h_4=>
  simp_all [Ab,gD,binOp]
 case h_5=>
  rw[zi]at a;obtain⟨b,c,rfl⟩:=a;rw[(Mz d<|J3 c).1];simp only[zd,PA f d g c,zc];simp_all [Ab]
 case h_6=>
  rw[zi]at a;obtain⟨b,c,rfl⟩:=a;rw[(Mz d<|J3 c).2];simp only[zd,PA f d g c,zc];simp_all [Ab]
 grind
theorem SX{a:V}{b:Value}(c:Ab p a b)(h:a≠ .nili):b≠ .nilIface:=by
 intro e;subst e;cases a<;>simp only[Ab]at c<;>first|exact h rfl|(simp at c;done)|(done)|(done)|(done)|(done)
theorem Zk{a:V}{c:Array Value}(d:Ab p a (.agg c)):∃b,a=.agg b/\An p b c.toList:=by
 cases a<;>simp only[Ab]at d<;>first|(done)|grind|grind|grind|grind
theorem M0{op:BinOp}{t:TypeId}{x y:Operand}{a b':Value}(b:op≠ .eql)(c:op≠ .neq):eqGuard op t x y a b'=pure ():=by
 cases op<;>first|rfl|exact wh rfl b|grind
theorem Xo{op:BinOp}{t:TypeId}{x y:Operand}{a b':Value}(h0:a≠ .nilIface\/b'≠ .nilIface)(f:(∃c d,a=.agg c/\b'=.agg d)->P.eqGuardType P.depth t=false):
  (eqGuard op t x y a b').run P w=.ok () w:=by
 by_cases b:op=.eql\/op=.neq
 ·have:eqGuard op t x y a b'=eqGuard .eql t x y a b':=by rcases b with rfl|rfl<;>rfl
  rw[this];unfold eqGuard;simp only[Bool.not_true,zp,vf];split
  ·grind
  ·simp_all
  ·rfl
 simp_all [M0]
theorem Yn(C:T.Ok P){op:BinOp}{t:TypeId}{x y:Operand}{a b:V}{g b':Value}(u:Ab p a g)(D:Ab p b b'){v:V}(s:Jv T op t a b=some v):
  (eqGuard op t x y g b').run P w=.ok () w:=by
 by_cases q:op=.eql\/op=.neq
 ·refine Xo ?_ ?_
  ·by_cases A:a=.nili
   ·by_cases B:b=.nili
    ·subst A B;have:Bm T t .nili .nili=none:=by simp_all [Bm]
     rcases q with rfl|rfl<;>simp[Jv,this]at s
    grind [SX]
   grind [SX]
  ·rintro⟨c,d,rfl,rfl⟩;obtain⟨f,rfl,m⟩:=Zk u;obtain⟨ys,rfl,h2⟩:=Zk D;have k:Bm T t (.agg f) (.agg ys)=Nz (T.flat t) f ys:=by simp_all [Bm]
   cases o:Nz (T.flat t) f ys with
   |some r=>obtain⟨l,m,_⟩:=GO o;exact C.guard t l m
   |none=>
    rw[o]at k;rcases q with rfl|rfl<;>simp[Jv,k]at s
 simp_all [M0]
def yT(op:UnOp)(x:V):Option V:=
 match op,x with
 | .neg,.int k n=>some<|.int k<|k.wrap<|0-n
 | .xor,.int k n=>Ot .xor k (if k.signed then -1 else k.max) n
 | .not,.bool b=>some<|.bool !b
 |_,_=>none
theorem qH{op:UnOp}{x:V}{x':Value}(b:Ab p x x'){v:V}(a:yT op x=some v):∃v',(Op.unary op x').run P w=.ok v' w/\Ab p v v':=by
 unfold yT at a;split at a
 case h_1=>subst b;cases a;exact⟨_,rfl,by rfl⟩
 case h_2=> 
  subst b;simp only[Ot,ze]at a;subst a;exact⟨_,rfl,by rfl⟩
 case h_3=>subst b;cases a;exact⟨_,rfl,by rfl⟩
 grind
def nV:V->Option UInt8
 | .int .u8 (.ofNat n)=>some<|UInt8.ofNat n
 |_=>none
def bytes?:List V->Option Rd
 |[]=>some []
 |v::vs=>
  match nV v,bytes? vs with
  |some b,some a=>some (b::a)
  |_,_=>none
def E1(T:BP)(h:H)(src dst:TypeId)(x:V):Option V:=
 match T.und src,T.und dst,x with
 |some _,some<|.int k,.int _ n=>some<|.int k<|k.wrap n
 |some _,some .string,.str s=>some<|.str s
 |some (.slice e),some .string,.nils=>match T.und e with|some (.int .u8)=>some (.str [])|_=>none
 |some (.slice e),some .string,.sl b off len _ _=>
  match T.und e with
  |some (.int .u8)=>match rd h b off len with
   |some cs=>(bytes? cs).map .str
   |none=>none
  |_=>none
 |_,_,_=>none
theorem LN{f:Value->ByteArray->Sem (ForInStep ByteArray)}(q:∀n s,f (.int .u8 n) s=pure (ForInStep.yield<|s.push<|UInt8.ofNat n.toNat)):
  ∀(cs:List V) (vs:List Value) (k:Rd) (a:Rd),An p cs vs->bytes? cs=some k->
  ∀w,(forIn vs (bytesOf a) f).run P w=.ok (bytesOf<|a++k) w
 |[],vs,k,a,d,g,w=>by
  simp_all [bytes?]
 |c::cs,[],_,_,d,_,_=>by simp at d
 |c::cs,v::vs,k,a,d,g,w=>by
  simp only[A4]at d;unfold bytes? at g;split at g
  case h_2=>cases g
  rename_i b r l m;unfold nV at l;split at l
  case h_2=>cases l
  rename_i n;have o:=d.1;simp only[Ab]at o;have:=LN q cs vs r (a++[UInt8.ofNat n]) d.2 m w;grind [bytesOf,ByteArray.push]
theorem ZM(b:T.Ok P)(s:R p h w){src dst:TypeId}{x:V}{x':Value}(g:Ab p x x'){v:V}(a:E1 T h src dst x=some v):
  ∃v',(convert src dst x').run P w=.ok v' w/\Ab p v v':=by
 unfold E1 at a;split at a
 case h_1=>
  rename_i f d;subst g;cases a;unfold convert;simp only[zd,Ax b f,Ax b d,zc];exact⟨_,rfl,by rfl⟩
 case h_2=>
  rename_i f d;cases a;unfold convert;simp only[zd,Ax b f,Ax b d,zc];simp_all [Ab]
 case h_3=>
  rename_i f d;subst g;split at a
  case h_2=>cases a
  rename_i k;cases a;unfold convert;simp only[zd,Ax b f,Ax b d,Ax b k,zc];exact⟨_,rfl,by rfl⟩
 case h_4=>
  rename_i f d;split at a
  case h_2=>cases a
  rename_i k;split at a
  case h_2=>cases a
  rename_i cs l;rw[zi]at a;obtain⟨q,o,rfl⟩:=a;obtain⟨r,n,c,g1,rfl,g2⟩:=g;obtain⟨r',m,vs,k1,k2,k3,_⟩:=run_loadCells (P:=P) s l;rw[g1]at k1;cases k1;refine⟨.string<|bytesOf q,?_,by rfl⟩;unfold convert;simp only[zd,Ax b f,Ax b d,Ax b k,zc];unfold Conv.bytesToString;simp only[zd,k2,zc];simp only[List.forIn_toArray];have e:ByteArray.empty=bytesOf []:=rfl;rw[e,LN (P:=P) (by simp) cs vs q [] k3 o w];simp
 grind
def J1(T:BP)(t:TypeId)(cs:List V)(off:Nat):Option V:=
 match T.und t,T.inf t with
 |some d,some i=>bif DP d then some (.agg<|(cs.drop off).take i.size)else cs[off]?
 |_,_=>none
theorem Td(g:T.Ok P){t:TypeId}{cs:List V}{c:Array Value}{off:Nat}(f:An p cs c.toList){v:V}(a:J1 T t cs off=some v):
  ∃v',(part t c off).run P w=.ok v' w/\Ab p v v':=by
 unfold J1 at a;split at a
 case h_2=>cases a
 rename_i d i l k;unfold part;simp only[zd,PH g l,zc];cases b:DP d with
 |true=>
  simp only[b,we,ze]at a;subst a;simp only[wm,zd,Bo g k,zc];refine⟨_,(by rfl),?_⟩;refine⟨_,rfl,?_⟩;have:(c.extract off<|off+i.size).toList=(c.toList.drop off).take i.size:=by
   simp
  rw[this];exact(f.drop off).take i.size
 |false=>
  simp only[b,wg]at a;obtain⟨u,o,m⟩:=f.get a;simp_all
def JA(T:BP)(t:TypeId)(x:V)(f:Nat):Option V:=
 match T.und t,x with
 |some (.struct fs),.agg cs=>match fs[f]? with
  |some a=>J1 T a.type cs a.offset
  |none=>none
 |_,_=>none
theorem Xj(b:T.Ok P){t:TypeId}{x:V}{x':Value}{f:Nat}(g:Ab p x x'){v:V}(a:JA T t x f=some v):
  ∃v',(Instr.field t x' f).run P w=.ok v' w/\Ab p v v':=by
 unfold JA at a;split at a
 case h_2=>cases a
 rename_i fs cs k;split at a
 case h_2=>cases a
 rename_i m d;obtain⟨c,rfl,l⟩:=g;unfold Instr.field;simp only[zd,Ax b k,zc,d];exact Td b l a
def Jt(T:BP)(t:TypeId)(x:V)(f:Nat):Option V:=
 match T.und t,x with
 |some (.struct fs),.ptr b off=>match fs[f]? with
  |some a=>match T.inf a.type with
   |some i=>if i.size=0 then none else some<|.ptr b<|off+a.offset
   |none=>none
  |none=>none
 |_,_=>none
theorem XZ(c:T.Ok P){t:TypeId}{x:V}{x':Value}{f:Nat}(g:Ab p x x'){v:V}(a:Jt T t x f=some v):
  ∃v',(Instr.fieldAt t x' f).run P w=.ok v' w/\Ab p v v':=by
 unfold Jt at a;split at a
 case h_2=>cases a
 rename_i fs b off k;split at a
 case h_2=>cases a
 rename_i q d;split at a
 case h_2=>cases a
 rename_i i m;split at a
 case isTrue=>cases a
 rename_i l;cases a;obtain⟨r,n,o,rfl⟩:=g;unfold Instr.fieldAt;simp only[zd,Ax c k,zc,d];unfold yf fieldPlace;simp only[zf,zc,zd,Bo c m,l,vf,Addr.Ly];simp_all [Ab]
def ED(T:BP)(t:TypeId)(x ix:V):Option V:=
 match T.und t,x,ix with
 |some (.slice e),.sl b off len _ _,.int _ i=>
  match T.inf e,i with
  |some a,.ofNat n=>bif z7 n len then some (.ptr b<|off+n*a.size)else none
  |_,_=>none
 |some (.array len e),.ptr b off,.int _ i=>
  match T.inf e,i with
  |some a,.ofNat n=>bif z7 n len then some (.ptr b<|off+n*a.size)else none
  |_,_=>none
 |_,_,_=>none
theorem FL(a b:Nat):z7 a b=decide (a<b):=by
 rw[Bool.eq_iff_iff];simp
theorem Xu(s:T.Ok P){t:TypeId}{x ix:V}{x' l:Value}(q:Ab p x x')(g:Ab p ix l){v:V}(d:ED T t x ix=some v):
  ∃v',(Instr.indexAt t x' l).run P w=.ok v' w/\Ab p v v':=by
 unfold ED at d;split at d
 case h_3=>cases d
 case h_1=>
  rename_i e b off len cap o k i y;split at d
  case h_2=>cases d
  rename_i B n u;rw[FL]at d;by_cases f:n<len
  ·simp only[f,decide_true,we,ze]at d;subst d;simp only[Ab]at q g;obtain⟨r,m,c,A,rfl,_⟩:=q;subst g;unfold Instr.indexAt asIntOf;have a:(0:Int)<=(n:Int)/\(n:Int)<(len:Int):=⟨by simp,by simpa using f⟩;simp only[zd,zf,Ax s y,zc,a,and_self,wm,Bo s u,Addr.Ly,zy,yc];exact⟨_,rfl,by simp only[Ab];exact⟨_,_,A,rfl⟩⟩
  ·simp[f]at d
 case h_2=>
  rename_i len e b off k i y;split at d
  case h_2=>cases d
  rename_i B n u;rw[FL]at d;by_cases f:n<len
  ·simp only[f,decide_true,we,ze]at d;subst d;simp only[Ab]at q g;obtain⟨r,m,A,rfl⟩:=q;subst g;unfold Instr.indexAt asIntOf yf;have a:(0:Int)<=(n:Int)/\(n:Int)<(len:Int):=⟨by simp,by simpa using f⟩;simp only[zd,zf,Ax s y,zc,a,and_self,wm,Bo s u,Addr.Ly,zy,yc];exact⟨_,rfl,by simp only[Ab];exact⟨_,_,A,rfl⟩⟩
  ·simp[f]at d
def H6(T:BP)(t:TypeId)(x ix:V):Option V:=
 match T.und t,x,ix with
 |some .string,.str s,.int _ (.ofNat n)=>match s[n]? with
  |some b=>some<|.int .u8 b.toNat
  |none=>none
 |some (.array len e),.agg cs,.int _ (.ofNat n)=>
  match T.inf e with
  |some a=>bif z7 n len then J1 T e cs (n*a.size)else none
  |_=>none
 |_,_,_=>none
theorem Xh(o:T.Ok P){t:TypeId}{x ix:V}{x' l:Value}(m:Ab p x x')(d:Ab p ix l){v:V}(a:H6 T t x ix=some v):
  ∃v',(Instr.index t x' l).run P w=.ok v' w/\Ab p v v':=by
 unfold H6 at a;split at a
 case h_3=>cases a
 case h_1=>
  rename_i s k n q;split at a
  case h_2=>cases a
  rename_i b u;cases a;simp only[Ab]at m d;subst m d;unfold Instr.index asIntOf;have e:(bytesOf s)[n]?=some b:=by
   have A:=(zm.1 u).1;have r:=(zm.1 u).2;rw[getElem?_pos (bytesOf s) n<|by rw[BL];exact A];congr 1
  simp only[zd,zf,Ax o q,zc,zy,Int.natCast_nonneg,wm,yc,e];exact⟨_,rfl,by simp[Ab]⟩
 case h_2=>
  rename_i len e cs k n q;split at a
  case h_2=>cases a
  rename_i B r;rw[FL]at a;by_cases g:n<len
  ·simp only[g,decide_true,we]at a;simp only[Ab]at m d;obtain⟨c,rfl,y⟩:=m;subst d;unfold Instr.index asIntOf;have f:(0:Int)<=(n:Int)/\(n:Int)<(len:Int):=⟨by simp,by simpa using g⟩;simp only[zd,zf,Ax o q,zc,f,and_self,wm,Bo o r,zy,yc];exact Td o y a
  ·simp[g]at a
def Gu(x:V)(i:Nat):Option V:=
 match x with
 | .tup vs=>vs[i]?
 |_=>none
theorem SC{x:V}{x':Value}{i:Nat}(b:Ab p x x'){v:V}(a:Gu x i=some v):∃v',(Instr.extract x' i).run P w=.ok v' w/\Ab p v v':=by
 unfold Gu at a;split at a
 case h_2=>cases a
 obtain⟨c,rfl,d⟩:=b;obtain⟨u,h1,h2⟩:=d.get a;simp_all [Instr.extract]
def Iq(x:Option V)(y GN:Nat):Option Nat:=
 match x with
 |none=>some GN
 |some (.int _<|.ofNat n)=>bif zk n y then some n else none
 |_=>none
def K9(mx:Option V)(o:Nat):Nat:=match mx with|some _=>0|none=>o
def aZ(a mx:Option V):Option Nat:=match a,mx with
 |none,some _=>none
 |_,_=>Iq a 0 0
def Ov(mx:Option V):Bool:=match mx with
 |some _=>true
 |none=>false
def Dt(T:BP)(t:TypeId)(x:V)(c a mx:Option V):Option V:=
 match T.und t,x with
 |some .string,.str s=>
  match mx,Iq a s.length s.length with
  |none,some h=>match Iq c h 0 with
   |some l=>some<|.str<|(s.drop l).take<|h-l
   |none=>none
  |_,_=>none
 |some (.slice e),.sl b off len cap o=>
  match T.inf e,Iq mx cap cap with
  |some d,some m=>match (match a,mx with|none,some _=>none|_,_=>Iq a m len)with
   |some h=>match Iq c h 0 with
    |some l=>
     let o':=K9 mx o
     bif zh m l then(bif zh o' 0 then some (.sl b off (h-l) (m-l) 0)else some .esl)
     else bif zh o' 0||zh o' d.size then some (.sl b (off+l*d.size) (h-l) (m-l) o')else none
    |none=>none
   |none=>none
  |_,_=>none
 |some (.slice e),.nils=>
  match Iq mx 0 0,aZ a mx,T.inf e with
  |some _,some h,some _=>match Iq c h 0 with
   |some _=>some .nils
   |none=>none
  |_,_,_=>none
 |some (.slice e),.esl=>
  match Iq mx 0 0,aZ a mx,T.inf e with
  |some _,some h,some _=>match Iq c h 0 with
   |some _=>some<|bif Ov mx then .es0 else .esl
   |none=>none
  |_,_,_=>none
 |some (.slice e),.es0=>
  match Iq mx 0 0,aZ a mx,T.inf e with
  |some _,some h,some _=>match Iq c h 0 with
   |some _=>some .es0
   |none=>none
  |_,_,_=>none
 |some (.array n e),.ptr b off=>
  match T.inf e,mx,Iq a n n with
  |some d,none,some h=>match Iq c h 0 with
   |some l=>bif zh n l then some (.sl b off (h-l) (n-l) 0)else some<|.sl b (off+l*d.size) (h-l) (n-l) 0
   |none=>none
  |_,_,_=>none
 |_,_=>none
def GC(p:Pl):Option V->Option Value->Prop
 |none,x=>x=none
 |some d,x=>∃v,x=some v/\Ab p d v
theorem BS{x:Option V}{x':Option Value}{y z n y':Nat}(f:GC p x x')(b:Iq x y z=some n)(o:y<=y'):
  (x=none/\x'=none/\n=z)\/(∃d u,x=some d/\x'=some u/\n<=y/\∀a (P:Program) (w:World),(Instr.sliceBound u y' a).run P w=.ok n w):=by
 cases x with
 |none=>simp_all [GC,Iq]
 |some d=>
  obtain⟨u,rfl,g⟩:=f;unfold Iq at b;split at b
  case h_1=>grind
  case h_3=>cases b
  rename_i k m e;cases e;by_cases c:m<=y
  ·simp only[Nat.ble_eq_true_of_le c,we,ze]at b;simp only[Ab]at g;unfold Instr.sliceBound asIntOf;have l:(0:Int)<=(m:Int)/\(m:Int)<=(y':Int):=ae;simp_all
  ·have:zk m y=false:=by simp_all [Bool.eq_false_iff]
   grind
theorem HR{x k mx:Option V}{g r f:Option Value}(q:GC p x g)(b:GC p k r)(o:GC p mx f){m h l:Nat}(B:Iq mx 0 0=some m)(A:aZ k mx=some h)(v:Iq x h 0=some l)(c:Nat):
  (zt true 0 c g r f).run P w=.ok (0,0,bif Ov mx then 0 else c) w:=by
 unfold aZ at A;have h0:h=0:=by
  have:Iq k 0 0=some h:=by
   grind
  rcases BS b this (zg _)with⟨_,_,rfl⟩|⟨_,_,_,_,h,_⟩<;>omega
 subst h0;unfold zt;cases mx with
 |none=>
  have a:Iq k 0 0=some 0:=ah
  simp only[GC]at o;rcases BS b a (Nat.zero_le c)with⟨_,rfl,_⟩|⟨_,u,_,rfl,_,C⟩<;>rcases BS q v (zg _)with⟨_,rfl,_⟩|⟨_,u2,_,rfl,_,s⟩
  all_goals simp_all [Ov]
 |some d=>
  cases k with
  |none=>grind
  |some D=>
   have a:Iq (some D) 0 0=some 0:=ae
   rcases BS o B (Nat.zero_le c)with⟨h,_,_⟩|⟨_,F,_,rfl,E,y⟩
   ·cases h
   ·obtain rfl:m=0:=ae
    rcases BS b a ae with⟨h,_,_⟩|⟨_,u,_,rfl,_,C⟩
    ·cases h
    ·rcases BS q v ae with⟨_,rfl,_⟩|⟨_,u2,_,rfl,_,s⟩
     all_goals simp_all [Ov]
theorem Yr(E:T.Ok P){t:TypeId}{x:V}{lo hi mx:Option V}{x':Value}{K I N:Option Value}(M:Ab p x x')(A:GC p lo K)(q:GC p hi I)(C:GC p mx N)
  {v:V} (f:Dt T t x lo hi mx=some v):∃v',(zr t x' K I N).run P w=.ok v' w/\Ab p v v':=by
 unfold Dt at f;split at f
 case h_7=>cases f
 case h_1=>
  rename_i s F;split at f
  case h_2=>cases f
  rename_i y g;split at f
  case h_2=>cases f
  rename_i l G;cases f;simp only[GC]at C;subst C;simp only[Ab]at M;subst M;refine⟨.string<|bytesOf<|(s.drop l).take<|y-l,?_,by rfl⟩;unfold zr;simp only[zd,Ax E F,zc];unfold yn;simp only[zd,Ax E F,zc,Option.isSome_none,zp,vf,BL];unfold zt;have e:(bytesOf s).extract l y=bytesOf ((s.drop l).take<|y-l):=by
   apply ByteArray.ext;simp_all [bytesOf]
  rcases BS q g (zg _)with⟨_,rfl,rfl⟩|⟨_,u,_,rfl,_,hu⟩<;>rcases BS A G (zg _)with⟨_,rfl,rfl⟩|⟨_,u2,_,rfl,_,U⟩
  all_goals simp_all
 case h_2=>
  rename_i e b off len cap o F;split at f
  case h_2=>cases f
  rename_i Z m Y hm;split at f
  case h_2=>cases f
  rename_i y g;split at f
  case h_2=>cases f
  rename_i l G;simp only[Ab]at M;obtain⟨r,n,c,hp,rfl,hlen,O,ho1,ho2⟩:=M;obtain⟨L,gm2,hhm,R,hbounds⟩:∃L,((mx=none/\L=c/\m=cap)\/(mx≠none/\L=m))/\y<=m/\l<=y/\(zt true len c K I N).run P w=.ok (l,y,L) w:=by
   have R:l<=y:=by
    rcases BS A G (zg _)with⟨_,_,rfl⟩|⟨_,_,_,_,h,_⟩
    ·omega
    omega
   rcases BS C hm O with⟨rfl,rfl,rfl⟩|⟨dm,um,rfl,rfl,hm1,hum⟩
   ·have D:Iq hi m len=some y:=ah
    refine⟨c,(by simp),?_,R,?_⟩
    ·rcases BS q D O with⟨_,_,rfl⟩|⟨_,_,_,_,h,_⟩
     ·omega
     omega
    ·unfold zt;rcases BS q D O with⟨_,rfl,rfl⟩|⟨_,u,_,rfl,_,hu⟩<;>rcases BS A G (zg _)with⟨_,rfl,rfl⟩|⟨_,u2,_,rfl,_,U⟩
     all_goals simp_all
   ·cases hi with
    |none=>grind
    |some dh=>
     have D:Iq (some dh) m len=some y:=ae
     refine⟨m,(by simp),?_,R,?_⟩
     ·rcases BS q D ae with⟨h,_⟩|⟨_,_,_,_,h,_⟩
      ·cases h
      omega
     ·unfold zt;rcases BS q D (zg _)with⟨h,_,_⟩|⟨_,u,_,rfl,_,hu⟩
      ·cases h
      ·rcases BS A G (zg _)with⟨_,rfl,rfl⟩|⟨_,u2,_,rfl,_,U⟩
       all_goals simp_all
  have gm1:m<=L:=ae
  have B:(zr t (.slice (some ⟨r,off,none⟩) len c) K I N).run P w=.ok (.slice (if L=l then some ⟨r,off,none⟩else some ⟨r,off+l*Z.size,none⟩) (y-l)<|L-l) w:=by
   unfold zr;simp only[zd,Ax E F,zc];unfold yn;simp only[zd,Ax E F,zc,hbounds,Bo E Y,zf];simp
  refine⟨_,B,?_⟩;simp only[Bj]at f;by_cases J:m=l
  ·simp only[J,decide_true,we]at f;by_cases S:K9 mx o=0
   ·simp only[S,decide_true,we,ze]at f;subst f;have hm':L=l:=by
     grind [K9]
    simp_all [Ab]
   ·simp only[S,decide_false,wg,ze]at f;subst f;have W:y-l=0:=ae
    simp only[W,Ab];grind
  ·simp only[J,decide_false,wg]at f;by_cases S:K9 mx o=0\/K9 mx o=Z.size
   ·have X:(decide (K9 mx o=0)||decide (K9 mx o=Z.size))=true:=ah
    simp only[X,we,ze]at f;subst f;have hne:L≠l:=ae
    simp only[hne,vf,Ab];refine⟨r,n,_,hp,rfl,by omega,by omega,fun k=>?_,fun k=>?_⟩
    ·grind [K9]
    ·rcases gm2 with⟨k1,k2,k3⟩|⟨k1,k2⟩
     ·subst k1;simp only[K9]at k S ⊢;rcases S with S|S
      ·omega
      ·have:=ho2 k;subst k2;rw[<-S];have e:off+l*o+(L-l)*o=off+L*o:=by
        rw[Nat.sub_mul];have:l*o<=L*o:=zz _ ae;omega
       omega
     ·cases mx with
      |none=>grind
      |some d=>simp[K9]at k
   grind
 case h_3=>
  rename_i e F;split at f
  case h_2=>cases f
  rename_i mm y tz Q g W;split at f
  case h_2=>cases f
  rename_i l G;cases f;simp only[Ab]at M;subst M;refine⟨.slice none 0 0,?_,by rfl⟩;unfold zr;simp only[zd,Ax E F,zc];unfold yn;simp only[zd,Ax E F,zc,HR (P:=P) (w:=w) A q C Q g G 0];cases mx<;>simp[Ov,Bo E W]
 case h_4=>
  rename_i e F;split at f
  case h_2=>cases f
  rename_i mm y tz Q g W;split at f
  case h_2=>cases f
  rename_i l G;simp only[Ab]at M;obtain⟨a,c,rfl⟩:=M;have B:∃a',(zr t (.slice (some a) 0 c) K I N).run P w=.ok (.slice (some a') 0<|bif Ov mx then 0 else c) w:=by
   unfold zr;simp only[zd,Ax E F,zc];unfold yn;simp only[zd,Ax E F,zc,HR (P:=P) (w:=w) A q C Q g G c];simp only[Bo E W,zc,zf,Nat.sub_zero,Nat.sub_self];split
   ·simp
   simp
  obtain⟨a',ha'⟩:=B;refine⟨_,ha',?_⟩;cases f;cases mx with
  |none=>simp_all [Ov,Ab]
  |some d=>simp_all [Ov,Ab]
 case h_5=>
  rename_i e F;split at f
  case h_2=>cases f
  rename_i mm y tz Q g W;split at f
  case h_2=>cases f
  rename_i l G;cases f;simp only[Ab]at M;obtain⟨a,rfl⟩:=M;refine⟨.slice (some a) 0 0,?_,by simp_all [Ab]⟩;unfold zr;simp only[zd,Ax E F,zc];unfold yn;simp only[zd,Ax E F,zc,HR (P:=P) (w:=w) A q C Q g G 0];cases mx<;>simp[Ov,Bo E W]
 case h_6=>
  rename_i nn e b off F;split at f
  case h_2=>cases f
  rename_i Z y Y g;split at f
  case h_2=>cases f
  rename_i l G;simp only[GC]at C;subst C;simp only[Ab]at M;obtain⟨r,n,hp,rfl⟩:=M;have R:l<=y:=by rcases BS A G (zg _)with⟨_,_,rfl⟩|⟨_,_,_,_,h,_⟩<;>omega
  have hhn:y<=nn:=by rcases BS q g (zg _)with⟨_,_,rfl⟩|⟨_,_,_,_,h,_⟩<;>omega
  have B:(zr t (.pointer<|some ⟨r,off,none⟩) K I none).run P w=.ok (.slice (some<|if nn=l then⟨r,off,none⟩else⟨r,off+l*Z.size,none⟩) (y-l)<|nn-l) w:=by
   unfold zr;simp only[zd,Ax E F,zc];unfold yf zt;rcases BS q g (zg _)with⟨_,rfl,rfl⟩|⟨_,u,_,rfl,_,hu⟩<;>rcases BS A G (zg _)with⟨_,rfl,rfl⟩|⟨_,u2,_,rfl,_,U⟩
   all_goals simp only[Option.isSome_none,zp,vf,zd,zf,zc,Bo E Y,Addr.Ly, *]
  refine⟨_,B,?_⟩;simp only[Bj]at f;by_cases J:nn=l
  ·simp only[J,decide_true,we,ze]at f;subst f;simp_all [Ab]
  ·simp only[J,decide_false,wg,ze]at f;subst f;simp only[J,vf,Ab];grind
def i64(n:Nat):V:=.int .i64<|.ofNat n
def E6(T:BP)(h:H)(ts:Array TypeId)(args:List V):Option V:=
 match ts[0]?,args with
 |some t,[x]=>
  match T.und t,x with
  |some .string,.str s=>some<|i64 s.length
  |some (.array n _),_=>some<|i64 n
  |some (.slice _),.sl _ _ len _ _=>some<|i64 len
  |some (.slice _),.nils=>some<|i64 0
  |some (.slice _),.esl=>some<|i64 0
  |some (.slice _),.es0=>some<|i64 0
  |some (.map _ _),.nilm=>some<|i64 0
  |some (.map _ _),.map b=>match h.get b with
   |some (.map es _)=>some<|i64 es.length
   |_=>none
  |_,_=>none
 |_,_=>none
theorem An.one{ds:V}{l:List Value}(a:An p [ds] l):∃v,l=[v]/\Ab p ds v:=by
 match l,a with
 |[v],h=>simp_all
 |[],h=>simp at h
 |_::_::_,h=>simp at h
theorem An.two{d e:V}{l:List Value}(a:An p [d,e] l):∃v u,l=[v,u]/\Ab p d v/\Ab p e u:=by
 match l,a with
 |[v,u],h=>exact⟨v,u,rfl,by simp_all⟩
 |[],h=>simp at h
 |[_],h=>simp at h
 |_::_::_::_,h=>simp at h
theorem Dj.length{es:List (V×V×Nat)}{l:List MapEntry}(h:Dj p es l):es.length=l.length:=by
 induction h with
 |nil=>rfl
 |cons _ _ _ _ a=>simp[a]
theorem mB(g:T.Ok P)(A:R p h w){ts:Array TypeId}{t:TypeId}{args:List V}{args':Array Value}(s:An p args args'.toList){v:V}(a:E6 T h ts args=some v):
  ∃v',(Builtin.len_ ts t args').run P w=.ok v' w/\Ab p v v':=by
 unfold E6 at a;split at a
 case h_2=>cases a
 rename_i t0 x q;obtain⟨x',d,b⟩:=s.one;have c:args'[0]?=some x':=by rw[<-yg,d];rfl
 unfold Builtin.len_;simp only[q,c];split at a
 case h_9=>cases a
 all_goals (rename_i u;simp only[zd,Ax g u,zc];try simp only[Ab]at b)
 case h_1=>cases a;simp_all [i64,Ab,goInt,BL]
 case h_2=>cases a;simp_all [i64,Ab,goInt]
 case h_3=>obtain⟨_,_,_,_,rfl,_⟩:=b;cases a;simp_all [i64,Ab,goInt]
 case h_4=>cases a;simp_all [i64,Ab,goInt]
 case h_5=>obtain⟨_,_,rfl⟩:=b;cases a;simp_all [i64,Ab,goInt]
 case h_6=>obtain⟨_,rfl⟩:=b;cases a;simp_all [i64,Ab,goInt]
 case h_7=>cases a;simp_all [i64,Ab,goInt]
 case h_8=>
  obtain⟨r,n,y,rfl⟩:=b;split at a
  case h_2=>cases a
  rename_i es D B;cases a;obtain⟨E,n',o,f,m,l,k,C⟩:=A.obj _ _ B;rw[y]at f;cases f;subst k;refine⟨goInt l.size,?_,?_⟩
  ·simp[getObj,yw,m]
  ·have:=C.length;simp only[i64,Ab,goInt];grind
def ZU(a b:V):Option V:=
 match a,b with
 | .int k x,.int _ y=>some<|.int k<|if y>x then y else x
 |_,_=>none
def gQ(a b:V):Option V:=
 match a,b with
 | .int k x,.int _ y=>some<|.int k<|if y<x then y else x
 |_,_=>none
def dfold(f:V->V->Option V):V->List V->Option V
 |x,[]=>some x
 |x,y::a=>match f x y with
  |some z=>dfold f z a
  |none=>none
theorem NX{f:V->V->Option V}{g:Value->Value->Sem Value}(m:∀ {a b c:V} {q b':Value},Ab p a q->Ab p b b'->f a b=some c->∃s,(g q b').run P w=.ok s w/\Ab p c s):
  ∀(o:List V) (k:List Value) (x:V) (x':Value),Ab p x x'->An p o k->∀ {v:V},dfold f x o=some v->∃v',(k.foldlM g x').run P w=.ok v' w/\Ab p v v'
 |[],k,x,x',r,d,v,l=>by
  cases l;simp_all
 |y::o,[],_,_,_,d,_,_=>by simp at d
 |y::o,y'::k,x,x',r,d,v,l=>by
  simp only[A4]at d;unfold dfold at l;split at l
  case h_2=>cases l
  rename_i z B;obtain⟨A,C,u⟩:=m r d.1 B;obtain⟨v',h3,h4⟩:=NX m o k z A u d.2 l;simp_all
def FG(f:V->V->Option V)(args:List V):Option V:=
 match args with
 |[]=>none
 |x::a=>dfold f x a
theorem kP{ts:Array TypeId}{t:TypeId}{args:List V}{args':Array Value}(f:An p args args'.toList){v:V}(g:FG ZU args=some v):
  ∃v',(Builtin.max_ ts t args').run P w=.ok v' w/\Ab p v v':=by
 unfold FG at g;split at g
 case h_1=>cases g
 rename_i x m;unfold Builtin.max_;cases l:args'.toList with
 |nil=>simp_all
 |cons x' k=>
  rw[l]at f;simp only[A4]at f;refine NX (fun {a b c r b'} q o d=>?_) m k x x' f.1 f.2 g;unfold ZU at d;split at d
  case h_2=>cases d
  subst q o;cases d;exact⟨_,rfl,by rfl⟩
theorem mV{ts:Array TypeId}{t:TypeId}{args:List V}{args':Array Value}(f:An p args args'.toList){v:V}(g:FG gQ args=some v):
  ∃v',(Builtin.min_ ts t args').run P w=.ok v' w/\Ab p v v':=by
 unfold FG at g;split at g
 case h_1=>cases g
 rename_i x m;unfold Builtin.min_;cases l:args'.toList with
 |nil=>simp_all
 |cons x' k=>
  rw[l]at f;simp only[A4]at f;refine NX (fun {a b c r b'} q o d=>?_) m k x x' f.1 f.2 g;unfold gQ at d;split at d
  case h_2=>cases d
  subst q o;cases d;exact⟨_,rfl,by rfl⟩
def HX(place:Nat->Option (Nat×Nat))(cells:List V):List (Nat×V)->Option (List V)
 |[]=>some cells
 |(i,v)::a=>
  match place i with
  |none=>none
  |some (off,size)=>bif zh v.cells.length size&&zk (off+size) cells.length then HX place (Gv cells off v.cells) a else none
theorem SN:∀(b:List V) (vs:List Value) (cs:List V) (c:Array Value) (off:Nat),An p b vs->An p cs c.toList->
  ∀k,An p (Gv cs (off+k) b) ((vs.zipIdx k).foldl (fun cs (c,j)=>cs.setIfInBounds (off+j) c) c).toList
 |[],vs,cs,c,off,a,d,k=>by simp_all [Gv]
 |x::b,[],_,_,_,a,_,_=>by simp at a
 |x::b,v::vs,cs,c,off,a,d,k=>by
  simp only[A4]at a;simp only[Gv,List.zipIdx_cons,List.foldl_cons];have:=SN b vs (cs.set (off+k) x) (c.setIfInBounds (off+k) v) off a.2 (by simpa using d.set (off+k) a.1)<|k+1;omega
inductive RW (p:Pl):List (Nat×V)->List (Nat×Value)->Prop
 |nil:RW p [] []
 |cons {i:Nat} {v:V} {v':Value} {l:List (Nat×V)} {l':List (Nat×Value)}:Ab p v v'->RW p l l'->RW p ((i,v)::l) ((i,v')::l')
theorem Kw{place:Nat->Option (Nat×Nat)}:∀ {l:List (Nat×V)} {l':List (Nat×Value)},RW p l l'->∀ {cs:List V} {c:Array Value} {out:List V},An p cs c.toList->HX place cs l=some out->
  ∃o,Instr.fill place c l'=some o/\An p out o.toList:=by
 intro l l' f;induction f with
 |nil=>intro cs c out d b;cases b;exact⟨c,rfl,d⟩
 |@cons i v v' l l' g f r=>
  intro cs c out d b;unfold HX at b;split at b
  case h_1=>cases b
  rename_i off size q;cases a:(zh v.cells.length size&&zk (off+size) cs.length)with
  |false=>grind
  |true=>
   simp only[zn,z8,Bj,w5]at a;have k:=g.cells.length;have m:=d.length;unfold Instr.fill;have:=SN (p:=p) v.cells v'.cells.toList cs c off g.cells d 0;grind [Array.toList_zipIdx]
def JB(T:BP)(t:TypeId)(a:List (Nat×V)):Option V:=
 match T.inf t,T.und t with
 |some i,some (.struct fs)=>
  match fs.toList.mapM (fun f=>(T.inf f.type).map fun j=>(f.offset,j.size))with
  |some pl=>(HX (fun i=>pl[i]?) i.zero a).map .agg
  |none=>none
 |some i,some (.array _ e)=>match T.inf e with
  |some j=>(HX (fun i=>some (i*j.size,j.size)) i.zero a).map .agg
  |none=>none
 |_,_=>none
theorem run_places(b:T.Ok P):∀ {fs:List Field} {pl:List (Nat×Nat)},fs.mapM (fun f=>(T.inf f.type).map fun j=>(f.offset,j.size))=some pl->
  ∀w,(fs.mapM<|fun f=>(do pure (f.offset, <-sizeOf f.type):Sem (Nat×Nat))).run P w=.ok pl w
 |[],pl,h,w=>by simp_all
 |f::fs,pl,h,w=>by
  cases c:T.inf f.type with
  |none=>grind
  |some j=>
   cases a:fs.mapM (fun f=>(T.inf f.type).map fun j=>(f.offset,j.size))with
   |none=>grind
   |some d=>
    simp[c,a]at h;subst h;rw[List.mapM_cons];simp only[zd,Bo b c,zc,zf,run_places b a]
theorem XU(d:T.Ok P){t:TypeId}{b:List (Nat×V)}{a:Array (Nat×Value)}(q:RW p b a.toList){v:V}(c:JB T t b=some v):
  ∃v',(Instr.build t a).run P w=.ok v' w/\Ab p v v':=by
 unfold JB at c;split at c
 case h_3=>cases c
 case h_1=>
  rename_i i fs l g;split at c
  case h_2=>cases c
  rename_i pl k;rw[zi]at c;obtain⟨out,s,rfl⟩:=c;obtain⟨z,hz,hzr⟩:=DO d l;have r:(fs.mapM<|fun f=>(do pure (f.offset, <-sizeOf f.type):Sem (Nat×Nat))).run P w=.ok pl.toArray w:=by
   rw[Array.mapM_eq_mapM_toList];simp only[Sem.run_map,run_places d k,zc]
  obtain⟨o,m,u⟩:=Kw (p:=p) (place:=fun i=>pl.toArray[i]?) q (hzr p) (out:=out) ah;refine⟨.agg o,?_,by simp_all [Ab]⟩;unfold Instr.build;simp only[zd,hz,zc,Ax d g];simp_all
 case h_2=>
  rename_i i n e l g;split at c
  case h_2=>cases c
  rename_i j x;rw[zi]at c;obtain⟨out,s,rfl⟩:=c;obtain⟨z,hz,hzr⟩:=DO d l;obtain⟨o,m,u⟩:=Kw (p:=p) (place:=fun i=>some (i*j.size,j.size)) q (hzr p) s;refine⟨.agg o,?_,by simp_all [Ab]⟩;unfold Instr.build;simp only[zd,hz,zc,Ax d g,Bo d x,m,zf]
def EL(z:List V)(n:Nat):List V:=(List.range n).map fun i=>z.getD (i % z.length)<|.tup []
theorem IZ{z:List V}{c:Array Value}(b:An p z c.toList)(a:0<z.length)(n:Nat):An p (EL z n) ((Array.range n).map<|fun i=>c[i % c.size]!).toList:=by
 have o:=b.length;apply An.mk (by simp[EL]);intro i d v f q;have g:i<n:=ah
 simp only[EL,List.getElem?_map,List.getElem?_range g,Option.map_some,ze]at f;have k:i % z.length<z.length:=Nat.mod_lt _ a;obtain⟨u,l,m⟩:=b.get (i:=i % z.length) (d:=z[i % z.length]) (by simp[k]);grind
def Ef(T:BP)(h:H)(t:TypeId)(len:Nat)(a:List (Nat×V)):Option (V×H):=
 match T.und t with
 |some (.slice e)=>match T.inf e with
  |some i=>
   bif zk (len*i.size) 16777216&&z7 0 (i.zero.length)&&zh i.zero.length i.size then
    match HX (fun k=>some (k*i.size,i.size)) (EL i.zero<|len*i.size) a with
    |some cs=>some (.sl h.nx 0 len len 0,HV h e cs)
    |none=>none
   else none
  |none=>none
 |_=>none
theorem TB(g:T.Ok P)(u:R p h w){t:TypeId}{len:Nat}{c:List (Nat×V)}{b:Array (Nat×Value)}(s:RW p c b.toList){v:V}{h':H}
  (d:Ef T h t len c=some (v,h')):∃v' p' w',(Instr.buildSlice t len b).run P w=.ok v' w'/\Ab p' v v'/\Ext p h w p' h' w':=by
 unfold Ef at d;split at d
 case h_2=>cases d
 rename_i e r;split at d
 case h_2=>cases d
 rename_i i m;cases a:(zk (len*i.size) 16777216&&z7 0 (i.zero.length)&&zh i.zero.length i.size)with
 |false=>grind
 |true=>
  simp only[a,we]at d;simp only[zn,z8,Nat.blt_eq,Bj,w5]at a;obtain⟨⟨A,q⟩,x⟩:=a;split at d
  case h_2=>cases d
  rename_i cs l;cases d;obtain⟨z,y,f⟩:=DO g m;obtain⟨o,h1,h2⟩:=Kw (p:=p) (place:=fun k=>some (k*i.size,i.size)) s (IZ (f p) q<|len*i.size) l;obtain⟨n,he,hpn,hn⟩:=Mx u e h2;refine⟨.slice (some ⟨w.heap.size,0,none⟩) len len,_,_,?_,?_,he⟩
  ·unfold Instr.buildSlice;simp only[zd,Ax g r,zc,Bo g m];by_cases h0:len*i.size=0
   ·grind [zd,zf,zc,Cp]
   simp_all [Cp]
  simp_all [Ab]
def Nf(T:BP)(h:H)(t:TypeId)(len cap:V):Option (V×H):=
 match T.und t,len,cap with
 |some (.slice e),.int _<|.ofNat l,.int _ (.ofNat c)=>
  match T.inf e with
  |some i=>
   bif zk l c&&z7 c 9223372036854775808&&zk (i.bytes*c) 281474976710656&&z7 0 i.zero.length&&zh i.zero.length i.size then
    some (.sl h.nx 0 l c 0,HV h e<|EL i.zero<|c*i.size)
   else none
  |none=>none
 |_,_,_=>none
theorem wrap_small(c:Nat)(h:c<9223372036854775808):IntKind.i64.wrap (c:Int)=c:=IntWalk.i64_in _ ae
theorem eI(g:T.Ok P)(u:R p h w){t:TypeId}{len cap:V}{b d:Value}(r:Ab p len b)(y:Ab p cap d){v:V}{h':H}(f:Nf T h t len cap=some (v,h')):
  ∃v' p' w',(Instr.makeSlice t b d).run P w=.ok v' w'/\Ab p' v v'/\Ext p h w p' h' w':=by
 unfold Nf at f;split at f
 case h_2=>cases f
 rename_i e k l A c s;split at f
 case h_2=>cases f
 rename_i i m;cases a:(zk l c&&z7 c 9223372036854775808&&zk (i.bytes*c) 281474976710656&&z7 0 i.zero.length&&zh i.zero.length i.size)with
 |false=>grind
 |true=>
  simp only[a,we,ze,zw]at f;obtain⟨rfl,rfl⟩:=f;simp only[zn,z8,Nat.blt_eq,Bj,w5]at a;obtain⟨⟨⟨⟨c1,c2⟩,c3⟩,c4⟩,c5⟩:=a;subst r y;obtain⟨z,hz,hzr⟩:=DO g m;obtain⟨j,hj,hjb,_⟩:=NR g m;obtain⟨n,he,hpn,hn⟩:=Mx u e<|IZ (hzr p) c4<|c*i.size;refine⟨.slice (some ⟨w.heap.size,0,none⟩) l c,_,_,?_,?_,he⟩
  ·unfold Instr.makeSlice asInt asIntOf;simp only[zd,zf,Ax g s,zc,hj,zy,wrap_small c c2,wrap_small l ae,hjb];have o:(i.bytes:Int)*(c:Int)=((i.bytes*c:Nat):Int):=(by rfl);rw[o];generalize i.bytes*c=q at c3 o ⊢;have x:¬((decide ((c:Int)<0)||decide ((q:Int)>2^48))||decide ((l:Int)<0)||decide ((l:Int)>(c:Int)))=true:=by
    grind
   rw[wc x];simp only[zd,zc,run_askRoom,Bo g m,yc];by_cases h0:c*i.size=0
   ·grind [zd,zf,zc,Cp]
   simp_all [Cp]
  simp_all [Ab]
def src(h:H)(size:Nat)(x:V)(n:Nat):Option (List V):=
 match x with
 | .nils=>some []
 | .esl=>bif zh n 0 then some []else none
 | .es0=>bif zh n 0 then some []else none
 | .sl b off _ _ _=>rd h b off<|n*size
 | .str s=>some<|(s.take n).map fun c=>.int .u8 c.toNat
 |_=>none
def NL:V->Option Nat
 | .nils=>some 0
 | .esl=>some 0
 | .es0=>some 0
 | .sl _ _ len _ _=>some len
 | .str s=>some s.length
 |_=>none
theorem NK{x:V}{x':Value}(b:Ab p x x'){n:Nat}(a:NL x=some n):(yj x').run P w=.ok n w:=by
 unfold NL at a;split at a
 case h_1=>subst b;cases a;rfl
 case h_2=>obtain⟨_,_,rfl⟩:=b;cases a;rfl
 case h_3=>obtain⟨_,rfl⟩:=b;cases a;rfl
 case h_4=>obtain⟨_,_,_,_,rfl,_⟩:=b;cases a;rfl
 case h_5=>simp_all [Ab,yj,BL]
 grind
theorem JN(g:R p h w){size n:Nat}{x:V}{x':Value}(d:Ab p x x'){cs:List V}(b:src h size x n=some cs):
  ∃vs:List Value,(zl size n x').run P w=.ok vs.toArray w/\An p cs vs:=by
 unfold src at b;split at b
 case h_6=>cases b
 case h_1=>subst d;cases b;exact⟨[],rfl,by simp⟩
 case h_2=>
  obtain⟨a,c,rfl⟩:=d;rw[Bj]at b;by_cases e:n=0
  ·simp_all [zl,loadCells,loadCellsFrom]
  grind
 case h_3=>
  obtain⟨a,rfl⟩:=d;rw[Bj]at b;by_cases e:n=0
  ·simp_all [zl,loadCells,loadCellsFrom]
  grind
 case h_4=>
  obtain⟨r,m,c,f,rfl,_⟩:=d;obtain⟨r',m',vs,h1,h2,h3,_⟩:=run_loadCells (P:=P) g b;rw[f]at h1;cases h1;exact⟨vs,h2,h3⟩
 case h_5=>
  rename_i s;simp only[Ab]at d;refine⟨(s.take n).map fun c=>.int .u8 c.toNat,?_,?_⟩
  ·simp_all [zl,bytesOf]
  grind [An.mk,Ab]
theorem U1(a c:Nat)(h:c<a):2*z6 a c<=3*a+2000:=by
 unfold z6;grind [Builtin.growBy]
def isInt:TypeDesc->Bool
 | .int _=>true
 |_=>false
def Nb:V->Bool
 | .str _=>false
 |_=>true
def FJ(T:BP)(h:H)(ts:Array TypeId)(args:List V):Option (V×H):=
 match ts[0]?,ts[1]?,args with
 |some t,some tx,[s,x]=>
  match T.und t,T.und tx,NL x with
  |some (.slice e),some dx,some n=>
   match T.inf e,isInt dx with
   |some i,false=>
    bif z7 0 i.bytes&&z7 0 i.size&&zh i.zero.length i.size&&(zh i.size 1||Nb x)then
     match src h i.size x n with
     |some new=>
      match s with
      | .nils=>
       bif zh n 0 then some (.nils,h)
       else bif zk ((3*n+2000)*i.bytes) 562949953421312 then some (.sl h.nx 0 n n i.size,HV h e new)else none
      | .es0=>
       bif zh n 0 then some (.es0,h)
       else bif zk ((3*n+2000)*i.bytes) 562949953421312 then some (.sl h.nx 0 n n i.size,HV h e new)else none
      | .esl=>bif zh n 0 then some (.esl,h)else none
      | .sl b off len cap o=>
       bif zk (len+n) cap then(wr h b (off+len*i.size) new).map fun h'=>(.sl b off (len+n) cap o,h')
       else bif zk ((3*(len+n)+2000)*i.bytes) 562949953421312 then
        match src h i.size s len with
        |some old=>
         bif zh o 0 then some (.sl h.nx 0 (len+n) (len+n) i.size,HV h e<|old++new)
         else
          match h.get b with
          |some (.cells _ a fz)=>
           bif zh off 0&&zh o i.size&&zh a e&&zk fz.2 fz.1&&new.all V.one then some (.sl h.nx 0 (len+n) (len+n) i.size,(h.kill b).push<|.cells (old++new) e (0,0))
           else none
          |_=>none
        |none=>none
       else none
      |_=>none
     |none=>none
    else none
   |_,_=>none
  |_,_,_=>none
 |_,_,_=>none
theorem Pj{old new:List V}{vo vn:List Value}(c:An p old vo)(b:An p new vn)(a:Array Value):
  An p (old++new) ((vo.toArray++vn.toArray++a).toList.take (old++new).length):=by
 have f:=c.length;have d:=b.length;have:((vo.toArray++vn.toArray++a).toList.take (old++new).length)=vo++vn:=by
  grind
 rw[this];exact c.append b
section
variable {ts:Array TypeId}{t t0 tx e:TypeId}{dx:TypeDesc}{i:TI}{n:Nat}{x' z:Value}{j:TypeInfo}
theorem ND(o:T.Ok P)(k:ts[0]?=some t0)(l:ts[1]?=some tx)(q:T.und t0=some (.slice e))(f:T.und tx=some dx)(m:isInt dx=false)
  (r:T.inf e=some i) (s:∀w,(yj x').run P w=.ok n w) (base:Option Addr) (d c:Nat) (g:d+n<=c):
  (zu ts t #[.slice base d c,x']).run P w=((zl i.size n x').run P w).andThen fun new w'=>((match base with|some a=>storeCells (a.add<|d*i.size) new.toList|none=>pure ():Sem Unit).run P w').andThen fun _ w'=>.ok (.slice base (d+n) c) w':=by
 unfold zu;cases dx<;>first|(cases m;done)|skip
 all_goals
  simp only[k,l,yh,yd,ye,zd,Ax o q,Ax o f,Bo o r,zc,zf,zp,vf,s,g,wm,Bool.not_false];cases base with
  |none=>rfl
  |some b=>simp only[zd,zf]
theorem Pf(f:T.Ok P)(l:ts[0]?=some t0)(m:ts[1]?=some tx)(y:T.und t0=some (.slice e))(g:T.und tx=some dx)(q:isInt dx=false)
  (v:T.inf e=some i) (u:0<i.bytes) (B:∀w,(zeroValue e).run P w=.ok z w) (E:∀w,(yj x').run P w=.ok n w) (base:Option Addr) (a c:Nat) (o:c<a+n)
  (d:(3*(a+n)+2000)*i.bytes<=562949953421312):
  ∃r,a+n<=r/\(zu ts t #[.slice base a c,x']).run P w=((zl i.size a<|.slice base a c).run P { w with drawn:=w.drawn+1 }).andThen fun old w'=>
   ((zl i.size n x').run P w').andThen fun new w'=>
    .ok (.slice (some ⟨w'.heap.size,0,none⟩) (a+n) r) { w' with heap:=w'.heap.push (.cells (old++new++zo z.cells (r-(a+n))) e) }:=by
 obtain⟨j,G,k,C⟩:=NR f v;have s:=U1 (a+n) c o;have b:2*z6 (a+n) c*i.bytes<=562949953421312:=yr (zz _ s) d;rw[Nat.mul_assoc]at b;have A:z6 (a+n) c*i.bytes<=281474976710656:=ae
 refine⟨(Question.appendCap (a+n) c e).cut<|w.tape w.drawn<|.appendCap (a+n) c e,by simp[Question.cut],?_⟩;unfold zu;have F:¬(a+n<=c):=ae
 have x:¬(z6 (a+n) c*i.bytes>2^48):=ae
 have D:¬(i.bytes=0):=ae
 cases dx<;>first|(cases q;done)|skip
 all_goals
  simp only[l,m,yh,yd,ye,zd,Ax f y,Ax f g,Bo f v,zc,zf,zp,vf,E,Bool.not_false,wm,
   F,G,k,D,or_self,and_false,x,run_choose,Question.forced,run_askRoom,B,Cp]
end
theorem HY(z:Array Value)(n:Nat):(zo z n).size=n*z.size:=by simp[zo]
theorem Oa{size n:Nat}{x:V}{cs:List V}(b:NL x=some n)(c:size=1\/∀s,x≠ .str s)(a:src h size x n=some cs):cs.length=n*size:=by
 unfold src at a;split at a
 case h_6=>cases a
 case h_1=>cases a;cases b;simp
 case h_2=>
  cases b;grind
 case h_3=>
  cases b;grind
 case h_4=>
  rw[Wj]at a;grind [uC]
 case h_5=>
  cases b;grind
theorem Vl(X:T.Ok P)(C:R p h w){ts:Array TypeId}{t:TypeId}{args:List V}{args':Array Value}(ha:An p args args'.toList){v:V}{h':H}(a:FJ T h ts args=some (v,h')):
  ∃v' p' w',(zu ts t args').run P w=.ok v' w'/\Ab p' v v'/\Ext p h w p' h' w':=by
 unfold FJ at a;split at a
 case h_2=>cases a
 rename_i t0 tx s x F I;obtain⟨s',x',L,S,hx⟩:=ha.two;have ha0:args'[0]?=some s':=by rw[<-yg,L];rfl
 have ha1:args'[1]?=some x':=by rw[<-yg,L];rfl
 split at a
 case h_2=>cases a
 rename_i e dx n hu M G;split at a
 case h_2=>cases a
 rename_i i Y N;cases y:(z7 0 i.bytes&&z7 0 i.size&&zh i.zero.length i.size&&(zh i.size 1||Nb x))with
 |false=>grind
 |true=>
  simp only[y,we]at a;simp only[zn,Nat.blt_eq,Bj,w5,yv]at y;obtain⟨⟨⟨c1,c2⟩,c3⟩,c4⟩:=y;have c5:i.size=1\/∀s,x≠ .str s:=c4.imp id (fun h s e=>by subst e;cases h);split at a
  case h_2=>cases a
  rename_i new A;have hnl:=Oa G c5 A;obtain⟨vn,Z,B⟩:=JN (P:=P) C hx A;obtain⟨j,hj,hjb,hjs⟩:=NR X Y;obtain⟨z,hz,hzr⟩:=DO X Y;have hzl:=(hzr p).length;simp at hzl;have hne:args'= #[s',x']:=ah
  subst hne;have g:∀w,(yj x').run P w=.ok n w:=fun w=>NK hx G
  have J:∀(base:Option Addr) (c:Nat),n=0->(zu ts t #[.slice base 0 c,x']).run P w=.ok (.slice base 0 c) w:=by
   intro base c h0;rw[ND X F I hu M N Y g base 0 c ae,Z];have hv0:vn=[]:=by
    simp_all
   subst hv0;cases base<;>simp[h0,storeCells]
  have some0:∀(base:Option Addr),¬n=0->(3*n+2000)*i.bytes<=562949953421312->∃v' p' w',(zu ts t #[.slice base 0 0,x']).run P w=.ok v' w'/\Ab p' (.sl h.nx 0 n n i.size) v'/\Ext p h w p' (HV h e new) w':=by
   intro base h0 hb;obtain⟨l,hnc,D⟩:=Pf (w:=w) (t:=t) X F I hu M N Y c1 hz g base 0 0 ae ah;simp only[Nat.zero_add]at D hnc;have f:=Ext.drew C<|w.drawn+1;obtain⟨vn',hvn',hvnr'⟩:=JN (P:=P) f.rel hx A;have K:=Ext.push (n:=l*i.size) f.rel (o:=.cells new e (0,0)) (x:=.cells (#[]++vn'.toArray++zo z.cells (l-n)) e) ?_
   ·refine⟨.slice (some ⟨w.heap.size,0,none⟩) n l,_,_,?_,?_,f.trans K⟩
    ·rw[D];have hf:∀w,(zl i.size 0<|Value.slice base 0 0).run P w=.ok #[] w:=by
      intro w;cases base<;>simp[zl,loadCells,loadCellsFrom]
     grind [zc]
    ·simp only[Ab];refine⟨w.heap.size,l*i.size,l,by rw[<-C.len];simp,rfl,zg _,by omega,ae,ae⟩
   ·have hl:=hvnr'.length;have hsz:(#[]++vn'.toArray++zo z.cells (l-n)).size=l*i.size:=by
     simp_all [HY,Nat.sub_mul,zz]
    refine⟨_,(0,0),rfl,hsz,?_,?_,ae⟩
    ·grind
    ·have:=Pj (p:=p) (old:=[]) (vo:=[]) (by simp) hvnr'<|zo z.cells<|l-n;simpa using this.uU
  split at a
  case h_5=>cases a
  case h_1=>
   simp only[Ab]at S;subst S;rw[Bj]at a;by_cases h0:n=0
   ·simp only[h0,decide_true,we,ze,zw]at a;obtain⟨rfl,rfl⟩:=a;exact⟨.slice none 0 0,p,w,ah,by rfl,Ext.refl C⟩
   ·simp only[h0,decide_false,wg]at a;cases hb:zk ((3*n+2000)*i.bytes) 562949953421312 with
    |false=>grind
    |true=>
     simp_all
  case h_2=>
   simp only[Ab]at S;obtain⟨a0,rfl⟩:=S;rw[Bj]at a;by_cases h0:n=0
   ·simp only[h0,decide_true,we,ze,zw]at a;obtain⟨rfl,rfl⟩:=a;exact⟨_,p,w,J (some a0) 0 h0,by simp[Ab],Ext.refl C⟩
   ·simp only[h0,decide_false,wg]at a;cases hb:zk ((3*n+2000)*i.bytes) 562949953421312 with
    |false=>grind
    |true=>
     simp_all
  case h_3=>
   simp only[Ab]at S;obtain⟨a0,c0,rfl⟩:=S;rw[Bj]at a;by_cases h0:n=0
   ·simp only[h0,decide_true,we,ze,zw]at a;obtain⟨rfl,rfl⟩:=a;exact⟨_,p,w,J (some a0) c0 h0,by simp[Ab],Ext.refl C⟩
   grind
  case h_4=>
   rename_i b off len cap o;simp only[Ab]at S;obtain⟨r,m,c,hp,rfl,hlen,hcap,ho1,ho2⟩:=S;cases hle:zk (len+n) cap with
   |true=>
    simp only[hle,we,zi,zw]at a;obtain⟨h1,hw,rfl,rfl⟩:=a;rw[z8]at hle;obtain⟨r',m',w',g1,g2,g3⟩:=Qd (P:=P) C B hw;rw[hp]at g1;cases g1;refine⟨.slice (some ⟨r,off,none⟩) (len+n) c,p,w',?_,?_,g3⟩
    ·rw[ND X F I hu M N Y g _ len c ae,Z];simp_all
    ·simp only[Ab];grind
   |false=>
    simp only[hle,wg]at a;have hle':¬(len+n<=cap):=by grind [z8]
    cases hb:zk ((3*(len+n)+2000)*i.bytes) 562949953421312 with
    |false=>grind
    |true=>
     simp only[hb,we]at a;rw[z8]at hb;split at a
     case h_2=>cases a
     rename_i old E;have hol:=Oa (x:=.sl b off len cap o) (n:=len) rfl (by simp) E;have hsrel:∀q:Pl,(∃q',q=p++q')->Ab q (.sl b off len cap o) (.slice (some ⟨r,off,none⟩) len c):=by
      rintro q ⟨q',rfl⟩;exact Ab.mono q' (by simp_all)
     have fresh:∀(_:c<len+n) (h2:H),R p h2 { w with drawn:=w.drawn+1 }->h2.nx=h.nx->
       ∃v' p' w',(zu ts t #[.slice (some ⟨r,off,none⟩) len c,x']).run P w=.ok v' w'/\Ab p' (.sl h.nx 0 (len+n) (len+n) i.size) v'/\
        Ext p h2 { w with drawn:=w.drawn+1 } p' (h2.push<|.cells (old++new) e (0,0)) w':=by
      intro hlt h2 hr2 hnx;obtain⟨l,hnc,D⟩:=Pf (w:=w) (t:=t) X F I hu M N Y c1 hz g (some ⟨r,off,none⟩) len c hlt hb;have f:=Ext.drew C<|w.drawn+1;obtain⟨vn',hvn',hvnr'⟩:=JN (P:=P) f.rel hx A;obtain⟨vo',hvo',hvor'⟩:=JN (P:=P) (x:=.sl b off len cap o) f.rel (hsrel p<|by simp) E;have hl:=hvnr'.length;have hl2:=hvor'.length;have hsz:(vo'.toArray++vn'.toArray++zo z.cells (l-(len+n))).size=l*i.size:=by
       have e1:vn'.length=n*i.size:=ae
       have e2:vo'.length=len*i.size:=ae
       simp only[Array.size_append,HY,List.size_toArray,e1,e2, <-hzl,c3,Nat.sub_mul,Nat.add_mul];have:(len+n)*i.size<=l*i.size:=zz _ ae;grind
      have K:=Ext.push (n:=l*i.size) hr2 (o:=.cells (old++new) e (0,0)) (x:=.cells (vo'.toArray++vn'.toArray++zo z.cells (l-(len+n))) e)
       ⟨_,(0,0),rfl,hsz,by grind,(Pj hvor' hvnr' _).uU,ae⟩
      refine⟨.slice (some ⟨w.heap.size,0,none⟩) (len+n) l,_,_,?_,?_,K⟩
      ·grind [zc]
      ·simp only[Ab];refine⟨w.heap.size,l*i.size,l,?_,rfl,zg _,by omega,ae,ae⟩;rw[<-hnx, <-hr2.len];simp
     rw[Bj]at a;by_cases h0:o=0
     ·simp only[h0,decide_true,we,ze,zw]at a;obtain⟨rfl,rfl⟩:=a;have:=ho1 h0;have f:=Ext.drew C<|w.drawn+1;obtain⟨v',p',w',k1,k2,k3⟩:=fresh ae h f.rel rfl;exact⟨v',p',w',k1,k2,f.trans k3⟩
     ·simp only[h0,decide_false,wg]at a;split at a
      case h_2=>cases a
      rename_i cs te fz hbk;cases hc2:(zh off 0&&zh o i.size&&zh te e&&zk fz.2 fz.1&&new.all V.one)with
      |false=>grind
      |true=>
       simp only[hc2,we,ze,zw]at a;obtain⟨rfl,rfl⟩:=a;simp only[zn,z8,Bj,w5,List.all_eq_true]at hc2;obtain⟨⟨⟨⟨rfl,rfl⟩,rfl⟩,d4⟩,d5⟩:=hc2;by_cases U:len+n<=c
       ·
        obtain⟨r',m',cc,fz',g1,g2,g3,g4,g5,g6,g7⟩:=cell_of C hbk;rw[hp]at g1;cases g1;have hm:=ho2 h0;have hl:=B.length;have hone:∀v∈vn,v.oneCell'=true:=by
         intro v hv;obtain⟨k,hk⟩:=List.mem_iff_getElem?.1 hv;have hk':=(zm.1 hk).1;obtain⟨u,O,W⟩:=B.get (i:=k) (d:=new[k]'ae) (by simp);rw[hk]at O;cases O;exact W.one ah
        have hbnd:len*i.size+n*i.size<=c*i.size:=by rw[<-Nat.add_mul];simp_all [zz]
        obtain⟨cc',k1,k2,k3⟩:=E8 (P:=P) vn w cc (len*i.size) 0 g2 ae hone (by
         grind)
        have hrd:old=cs.take (len*i.size)/\len*i.size<=cs.length:=by
         unfold src at E;simp_all [Wj,uC]
        refine⟨.slice (some ⟨r,0,none⟩) (len+n) c,p++[(r,m)],{ w with heap:=w.heap.setIfInBounds r (.cells cc' te fz') },?_,?_,Ext.move C (o':=.cells (old++new) te (0,0)) hbk hp ⟨cc',fz',rfl,by omega,?_,?_,?_⟩ rfl rfl rfl rfl (fun _ _ _ e1 hlk=>by cases e1;obtain⟨l1,_,l3⟩:=hlk;omega)⟩
        ·rw[ND X F I hu M N Y g _ len c U,Z];simp_all
        ·simp only[Ab];exact⟨r,m,c,by rw[<-C.len];simp,rfl,zg _,U,ae,fun _=>hm⟩
        ·grind
        ·refine⟨?_,?_⟩
         ·grind
         ·intro k d v Q hvk hokk;have hkl:k<(old++new).length:=ah;rw[zq hkl,k3]at hvk;rw[List.length_append,hol,hnl]at hkl;simp only[Nat.add_zero,List.getElem?_map]at hvk;rw[List.getElem?_range ae]at hvk;by_cases hk:k<len*i.size
          ·rw[List.getElem?_append_left ae,hrd.1,zq hk]at Q;obtain⟨u,O,W⟩:=g5.get Q hokk;grind
          ·rw[List.getElem?_append_right ae,hol]at Q;obtain⟨u,O,W⟩:=B.get Q;grind
        grind
       ·have hk:=Ext.kill C b;have f:=Ext.drew hk.rel<|w.drawn+1;obtain⟨v',p',w',k1,k2,k3⟩:=fresh ae (h.kill b) f.rel rfl;exact⟨v',p',w',k1,k2,(hk.trans f).trans k3⟩
def aL(T:BP)(h:H)(ts:Array TypeId)(args:List V):Option (V×H):=
 match ts[0]?,args with
 |some t,[d,x]=>
  match T.und t,NL d,NL x with
  |some (.slice e),some a,some n=>
   match T.inf e with
   |some i=>
    match src h i.size x (Nat.min n a)with
    |some new=>
     match d with
     | .nils=>some (i64<|Nat.min n a,h)
     | .sl b off _ _ _=>(wr h b off new).map fun h'=>(i64<|Nat.min n a,h')
     |_=>none
    |none=>none
   |none=>none
  |_,_,_=>none
 |_,_=>none
theorem fU(s:T.Ok P)(y:R p h w){ts:Array TypeId}{t:TypeId}{args:List V}{args':Array Value}(E:An p args args'.toList){v:V}{h':H}(a:aL T h ts args=some (v,h')):
  ∃v' p' w',(Builtin.copy_ ts t args').run P w=.ok v' w'/\Ab p' v v'/\Ext p h w p' h' w':=by
 unfold aL at a;split at a
 case h_2=>cases a
 rename_i t0 d x A;obtain⟨D,x',u,k,o⟩:=E.two;have q:args'= #[D,x']:=ah
 subst q;split at a
 case h_2=>cases a
 rename_i e I n F b B;split at a
 case h_2=>cases a
 rename_i i C;split at a
 case h_2=>cases a
 rename_i new f;obtain⟨vn,g,l⟩:=JN (P:=P) y o f;unfold Builtin.copy_;simp only[A,yh,yd,ye,zd,Ax s F,zc];split at a
 case h_3=>cases a
 case h_1=>
  subst k;simp only[NL,ze]at b;subst b;cases a;simp only[zd,NK o B,Bo s C,zc,g];refine⟨_,p,w,(by rfl),?_,Ext.refl y⟩;rfl
 case h_2=>
  simp only[NL,ze]at b;subst b;obtain⟨r,m,c,G,rfl,_⟩:=k;rw[zi]at a;obtain⟨h1,hw,he⟩:=a;cases he;obtain⟨r',m',w',g1,g2,g3⟩:=Qd (P:=P) y l hw;rw[G]at g1;cases g1;simp only[zd,NK o B,Bo s C,zc,g,g2];refine⟨_,p,w',(by rfl),?_,g3⟩;rfl
def QX(T:BP)(h:H)(t:TypeId)(x:V):Option (V×H):=
 match T.und t,x with
 |some .string,.str s=>some (.ptr h.nx 0,h.push<|.siter s 0)
 |_,_=>none
theorem Yf(d:T.Ok P)(b:R p h w){t:TypeId}{x:V}{x':Value}(c:Ab p x x'){v:V}{h':H}(a:QX T h t x=some (v,h')):
  ∃v' p' w',(Instr.range t x').run P w=.ok v' w'/\Ab p' v v'/\Ext p h w p' h' w':=by
 unfold QX at a;split at a
 case h_2=>cases a
 rename_i s f;cases a;subst c;have g:=Ext.push (n:=0) b (o:=.siter s 0) (x:=.stringIter (bytesOf s) 0) rfl;refine⟨.pointer<|some ⟨w.heap.size,0,none⟩,_,_,?_,?_,g⟩
 ·unfold Instr.range;simp only[zd,Ax d f,zc,zf,run_newObj]
 ·exact⟨w.heap.size,0,by rw[<-b.len];simp,rfl⟩
def LF(h:H)(c:V)(a:Bool):Option (V×H):=
 match c,a with
 | .ptr b 0,true=>
  match h.get b with
  |some (.siter s pos)=>
   bif z7 pos s.length then
    some (.tup [.bool true,i64 pos,.int .i32 (Utf8.decode (bytesOf s) pos).1],h.put b<|.siter s<|pos+(Utf8.decode (bytesOf s) pos).2)
   else some (.tup [.bool false],h)
  |_=>none
 |_,_=>none
theorem ZC(f:R p h w){k:V}{d:Value}{a:Bool}{t:TypeId}(q:Ab p k d){v:V}{h':H}(b:LF h k a=some (v,h')):
  ∃v' p' w',(Instr.next d a t).run P w=.ok v' w'/\Ab p' v v'/\Ext p h w p' h' w':=by
 unfold LF at b;split at b
 case h_2=>cases b
 obtain⟨r,n,m,rfl⟩:=q;split at b
 case h_2=>cases b
 rename_i s pos o;obtain⟨y,n',x,l,g,u⟩:=f.obj _ _ o;rw[m]at l;cases l;subst u;rw[FL]at b;unfold Instr.next;simp only[zd,getObj,yw,g,zc,BL];by_cases c:pos<s.length
 ·simp only[c,decide_true,we,ze,zw]at b;obtain⟨rfl,rfl⟩:=b;simp only[c,wm,zd,setObj,yw,g,zc];refine⟨_,p,_,zf ..,?_,Ext.put f o m (o':=.siter s<|pos+(Utf8.decode (bytesOf s) pos).2) rfl rfl rfl rfl rfl⟩;simp[Ab,i64,goInt]
 ·simp only[c,decide_false,wg,ze,zw]at b;obtain⟨rfl,rfl⟩:=b;simp only[c,vf];exact⟨_,p,w,(by rfl),by simp[Ab],Ext.refl f⟩
def Ig(h:H)(r:Option V):Option (V×H):=
 match r with
 |none=>some (.map h.nx,h.push<|.map [] 0)
 |some _=>none
theorem RR(b:R p h w){t:TypeId}{r:Option V}{c:Option Value}(d:GC p r c){v:V}{h':H}(a:Ig h r=some (v,h')):
  ∃v' p' w',(Instr.makeMap t c).run P w=.ok v' w'/\Ab p' v v'/\Ext p h w p' h' w':=by
 unfold Ig at a;split at a
 case h_2=>cases a
 cases a;subst d;have f:=Ext.push (n:=0) b (o:=.map [] 0) (x:=.map #[] 0) ⟨#[],rfl,.nil⟩;refine⟨.map<|some w.heap.size,_,_,?_,?_,f⟩
 ·rfl
 ·exact⟨w.heap.size,0,by rw[<-b.len];simp,rfl⟩
def ZG(T:BP)(d:TypeId)(a b:V):Option Bool:=
 match T.und d,a,b with
 |some (.int _),.int k x,.int c y=>if k=c then some (x==y)else none
 |some .string,.str x,.str y=>some<|x==y
 |some .bool,.bool x,.bool y=>some<|x==y
 |_,_,_=>none
def JH(T:BP)(b:TypeId)(k:V):List (V×V×Nat)->Nat->Option (Option<|Nat×V)
 |[],_=>some none
 |(a,v,_)::es,i=>
  match ZG T b k a with
  |some true=>some<|some (i,v)
  |some false=>JH T b k es<|i+1
  |none=>none
def plainKey:V->Bool
 | .int .. | .str _| .bool _=>true
 |_=>false
theorem bytes_beq(x y:ByteArray):(x==y)=(x.data==y.data):=rfl
theorem VO{m:TypeId}{a b:V}{g b':Value}(k:Ab p a g)(l:Ab p b b'){r:Bool}(f:ZG T m a b=some r){d:TypeDesc}(o:T.und m=some d):
  yo d g b'=some r/\(r=true->g=b'):=by
 unfold ZG at f;split at f
 case h_1=>
  grind [Ab,yo]
 case h_2=>
  rename_i c;rw[o]at c;simp only[Ab]at k l;cases f;simp_all [yo,bytes_beq,bytesOf]
 case h_3=>
  rename_i c;rw[o]at c;cases c;subst k l;cases f;exact⟨rfl,(by simp)⟩
 grind
theorem Zo{m:TypeId}{k:V}{f:Value}(o:Ab p k f){d:TypeDesc}(q:T.und m=some d):
  ∀ {es:List (V×V×Nat)} {l:List MapEntry},Dj p es l->∀ {i:Nat} {r:Option (Nat×V)},JH T m k es i=some r->
  ∃g,yk d f l i=some g/\(match r with|none=>g=none|some (j,v)=>∃v',g=some (j,v')/\Ab p v v'/\i<=j/\∃e,l[j-i]?=some e/\e.key=f):=by
 intro es l x;induction x with
 |nil=>intro i r c;simp only[JH,ze]at c;subst c;exact⟨none,rfl,rfl⟩
 |@cons a v b es e l s A D _ B=>
  intro i r c;unfold JH at c;split at c
  case h_1=>
   rename_i u;cases c;obtain⟨C,y⟩:=VO o s u q;simp_all [yk]
  case h_2=>
   grind [VO,yk]
  grind
theorem run_checkKey{k:V}{a:Value}(l:Ab p k a)(f:plainKey k=true)(m:T.Ok P){c:TypeId}{d:TypeDesc}(q:T.und c=some d)(g:DP d=false)(r:∀o,d≠ .interface o)(b:Bool):
  (ym b 10000 c a).run P w=.ok () w:=by
 unfold ym;rw[zd,Ax m q];cases k<;>simp only[plainKey]at f<;>simp only[Ab]at l
 case bool|int|str=>
  cases d<;>first|rfl|(cases g;done)|grind
 all_goals cases f
def fA:TypeDesc->Bool
 | .int _| .string| .bool=>true
 |_=>false
theorem X2{d:TypeDesc}(h:fA d=true):DP d=false/\∀a,d≠ .interface a:=by
 cases d<;>first|(cases h;done)|exact⟨rfl,fun a e=>by cases e⟩
theorem OY{k:V}{a:Value}(c:Ab p k a)(b:plainKey k=true):zx 10000 a a=true:=by
 cases k<;>simp only[plainKey]at b<;>simp only[Ab]at c
 case bool=>grind [zx]
 case int=>grind [zx]
 case str=>grind [zx,bytes_beq]
 all_goals cases b
theorem Tn{a b:V}{c b':Value}(f:Ab p a c)(d:Ab p b b')(h:DI a b=some true):c=b':=by
 unfold DI at h;grind [Ab]
theorem JK:∀ {c g:List V} {x y:List Value},An p c x->An p g y->BH c g=some true->x=y
 |[],[],x,y,d,f,_=>by simp_all
 |[],_::_,_,_,_,_,h=>by simp[BH]at h
 |_::_,[],_,_,_,_,h=>by simp[BH]at h
 |a::m,b::q,x,y,d,f,h=>by
  obtain⟨u,r,rfl,o,k⟩:=d;obtain⟨v,vs,rfl,h3,h4⟩:=f;unfold BH at h;split at h
  case h_1=>
   rename_i l;rw[Tn o h3 l,JK k h4 h]
  case h_2=>grind
  grind
theorem Ta:∀ {ks:List FK} {c:List V} {x:List Value},fit ks c=true->An p c x->(x.zip x).all (fun(a,b)=>zx 9999 a b)=true
 |[],[],x,_,d=>by simp_all
 |[],_::_,_,h,_=>by simp[fit]at h
 |_::_,[],_,h,_=>by simp_all
 |k::ks,v::vs,x,h,d=>by
  obtain⟨u,o,rfl,m,g⟩:=d;unfold fit at h;cases f:k.ok v with
  |false=>grind
  |true=>
   simp only[f,we]at h;have l:=Ta h g;simp only[List.zip_cons_cons,List.all_cons,l,Bool.and_true];unfold FK.ok at f;grind [Ab,zx,bytes_beq]
def M8(ks:List FK)(k:List V):List (V×V×Nat)->Nat->Option (Option<|Nat×V)
 |[],_=>some none
 |(a,v,_)::es,i=>
  match a with
  | .agg b=>match Nz (some ks) k b with
   |some true=>some<|some (i,v)
   |some false=>M8 ks k es<|i+1
   |none=>none
  |_=>none
def Ij(T:BP)(b:TypeId)(d:TypeDesc)(k:V):Bool:=
 match k with
 | .agg a=>match T.flat b with
  |some ks=>fit ks a
  |none=>false
 |k=>plainKey k&&fA d
def Jz(T:BP)(a:TypeId)(k:V)(es:List (V×V×Nat)):Option (Option<|Nat×V):=
 match k with
 | .agg b=>match T.flat a with
  |some ks=>M8 ks b es 0
  |none=>none
 |k=>JH T a k es 0
theorem OD(C:T.Ok P){f:TypeId}{ks:List FK}(B:T.flat f=some ks){k:List V}{x:Array Value}(A:An p k x.toList):
  ∀ {es:List (V×V×Nat)} {l:List MapEntry},Dj p es l->∀ {i:Nat} {r:Option (Nat×V)},M8 ks k es i=some r->
  ∃d,(yi f (.agg x) l i).run P w=.ok d w/\(match r with|none=>d=none|some (j,v)=>∃v',d=some (j,v')/\Ab p v v'/\i<=j/\∃e,l[j-i]?=some e/\e.key=.agg x):=by
 intro es l I;induction I with
 |nil=>intro i r c;simp only[M8,ze]at c;subst c;exact⟨none,rfl,rfl⟩
 |@cons a v b es e l g F J _ G=>
  intro i r c;unfold M8 at c;split at c
  case h_2=>cases c
  rename_i D;obtain⟨y,E,g⟩:=g;split at c
  case h_3=>cases c
  case h_1=>
   rename_i u;cases c;obtain⟨l',o,q,m,s⟩:=GO u;cases o;refine⟨some (i,e.val),?_,e.val,rfl,F,zg _,e,by simp,?_⟩
   ·simp only[yi,zd,E,C.flat f ks B p k D x y true w q m A g s,zc,wm,zf]
   grind [JK,Array.toList_inj]
  case h_2=>
   rename_i u;obtain⟨l',o,q,m,s⟩:=GO u;cases o;obtain⟨d,k1,k2⟩:=G c;refine⟨d,?_,?_⟩
   ·simp only[yi,zd,E,C.flat f ks B p k D x y false w q m A g s,zc,zp,vf];exact k1
   ·cases r with
    |none=>exact k2
    |some K=>
     grind
theorem IC(o:T.Ok P){c:TypeId}{d:TypeDesc}(r:T.und c=some d){k:V}{f:Value}(m:Ab p k f)(a:Ij T c d k=true)(b:Bool):
  (ym b 10000 c f).run P w=.ok () w:=by
 unfold Ij at a;split at a
 case h_1=>
  rename_i g;split at a
  case h_2=>cases a
  rename_i ks q;obtain⟨x,rfl,l⟩:=m;exact o.key c ks q p g x b w a l
 case h_2=>
  grind [X2,run_checkKey]
theorem U8{g:TypeId}{d:TypeDesc}{k:V}{b:Value}(f:Ab p k b)(a:Ij T g d k=true):zx 10000 b b=true:=by
 unfold Ij at a;split at a
 case h_1=>
  split at a
  case h_2=>cases a
  obtain⟨x,rfl,c⟩:=f;have:=Ta a c;simp_all [zx]
 case h_2=>
  grind [OY]
def entries(h:H)(m:V):Option (List<|V×V×Nat):=
 match m with
 | .nilm=>some []
 | .map b=>match h.get b with
  |some (.map es _)=>some es
  |_=>none
 |_=>none
def Ei(T:BP)(h:H)(t:TypeId)(m k:V)(ok:Bool):Option V:=
 match T.und t with
 |some (.map a e)=>
  match T.und a,entries h m with
  |some d,some es=>
   bif Ij T a d k then
    match Jz T a k es with
    |some (some (_,v))=>some<|bif ok then .tup [v,.bool true]else v
    |some none=>match T.inf e with
     |some i=>some<|bif ok then .tup [i.zv,.bool false]else i.zv
     |none=>none
    |none=>none
   else none
  |_,_=>none
 |_=>none
theorem Lf(k:R p h w){m:V}{d:Value}(f:Ab p m d){es:List (V×V×Nat)}(a:entries h m=some es):
  (d=.map none/\es=[])\/∃r l c b n,m=.map b/\d=.map (some r)/\p[b]?=some (r,n)/\h.get b=some (.map es c)/\w.heap[r]?=some (.map l c)/\Dj p es l.toList:=by
 unfold entries at a;split at a
 case h_1=>simp_all [Ab]
 case h_2=>
  simp only[Ab]at f;split at a
  case h_2=>cases a
  rename_i g c q;obtain⟨u,n',o,y,s,l,x,v⟩:=k.obj _ _ q;grind
 grind
theorem run_findKey(o:T.Ok P){b:TypeId}{k:V}{f:Value}(s:Ab p k f){d:TypeDesc}(m:T.und b=some d){es:List (V×V×Nat)}{l:List MapEntry}(A:Dj p es l)
  {r:Option (Nat×V)} (c:Jz T b k es=some r):
  ∃a,(yp b f l).run P w=.ok a w/\(match r with|none=>a=none|some (j,v)=>∃v',a=some (j,v')/\Ab p v v'/\∃e,l[j]?=some e/\e.key=f):=by
 by_cases g:∃q,k=.agg q
 ·obtain⟨q,rfl⟩:=g;simp only[Jz]at c;cases y:T.flat b with
  |none=>grind
  |some ks=>
   simp only[y]at c;obtain⟨x,rfl,C⟩:=s;obtain⟨a,u,B⟩:=OD (P:=P) (w:=w) o y C A c;refine⟨a,?_,?_⟩
   ·unfold yp;simp only[zd,Ax o m,zc];cases l with
    |nil=>grind [yk,yi]
    |cons e l=>grind [yk,yo]
   grind
 ·have D:Jz T b k es=JH T b k es 0:=by cases k<;>first|rfl|grind
  rw[D]at c;obtain⟨a,u,B⟩:=Zo s m A c;refine⟨a,?_,?_⟩
  ·unfold yp;simp only[zd,Ax o m,zc,u,zf]
  grind
theorem TQ(f:T.Ok P)(I:R p h w){t:TypeId}{m k:V}{A q:Value}{ok:Bool}(F:Ab p m A)(s:Ab p k q){v:V}(a:Ei T h t m k ok=some v):
  ∃v',(yu t A q ok).run P w=.ok v' w/\Ab p v v':=by
 unfold Ei at a;split at a
 case h_2=>cases a
 rename_i C e D;split at a
 case h_2=>cases a
 rename_i d es c u;cases B:Ij T C d k with
 |false=>grind
 |true=>
  simp only[B,we]at a;obtain⟨l,o,g⟩:∃l:List MapEntry,Dj p es l/\(yu t A q ok).run P w=((yp C q l).run P w).andThen fun r w'=>
    match r with
    |some (_,v)=>.ok (if ok then .tuple #[v,.bool true]else v) w'
    |none=>((zeroValue e).run P w').andThen fun z w'=>.ok (if ok then .tuple #[z,.bool false]else z) w':=by
   rcases Lf I F u with⟨rfl,rfl⟩|⟨r,l,M,b,n,rfl,rfl,N,O,G,L⟩
   ·refine⟨[],.nil,?_⟩;unfold yu;simp only[zd,Ax f D,zc,zf,IC f c s B];congr 1;funext r w'
    cases r<;>simp
   ·refine⟨l.toList,L,?_⟩;unfold yu;simp only[zd,Ax f D,zc,zf,IC f c s B,getObj,yw,G];congr 1;funext r w'
    cases r<;>simp
  rw[g];split at a
  case h_3=>cases a
  case h_1=>
   rename_i j v0 x;cases a;obtain⟨K,y,v',rfl,Q,_⟩:=run_findKey (P:=P) (w:=w) f s c o x;simp only[y,zc];cases ok
   ·grind
   simp_all [Ab]
  case h_2=>
   rename_i x;split at a
   case h_2=>cases a
   rename_i i J;cases a;obtain⟨K,y,E⟩:=run_findKey (P:=P) (w:=w) f s c o x;subst E;obtain⟨z,hz,hzr⟩:=tM f J;simp only[y,zc,hz];cases ok
   ·grind
   simp_all [Ab]
def UX(es:List (V×V×Nat))(i:Nat)(k v:V):List (V×V×Nat):=es.modify i fun e=>(k,v,e.2.2)
theorem Dj.modify{es:List (V×V×Nat)}{l:List MapEntry}(s:Dj p es l){k v:V}{c v':Value}(g:Ab p k c)(o:Ab p v v')(i:Nat):
  Dj p (UX es i k v) (l.modify i fun e=>{ e with key:=c,val:=v' }):=by
 unfold UX;induction s generalizing i with
 |nil=>simp;exact .nil
 |@cons a x b es e l q f d r m=>
  cases i with
  |zero=>simp;exact .cons g o d r
  |succ i=>simp;exact .cons q f d<|m i
theorem Dj.snoc{es:List (V×V×Nat)}{l:List MapEntry}(f:Dj p es l){k v:V}{e:MapEntry}(c:Ab p k e.key)(m:Ab p v e.val):Dj p (es++[(k,v,e.born)]) (l++[e]):=by
 induction f with
 |nil=>exact .cons c m rfl .nil
 |cons a b g _ d=>exact .cons a b g d
def Hd(T:BP)(h:H)(t:TypeId)(m k v:V):Option H:=
 match T.und t,m with
 |some (.map c _),.map b=>
  match T.und c,h.get b with
  |some d,some (.map es a)=>
   bif Ij T c d k then
    match Jz T c k es with
    |some (some (i,_))=>some<|h.put b<|.map (UX es i k v) a
    |some none=>some<|h.put b<|.map (es++[(k,v,a)])<|a+1
    |none=>none
   else none
  |_,_=>none
 |_,_=>none
theorem Vf(s:T.Ok P)(D:R p h w){t:TypeId}{m k v:V}{J g v':Value}(G:Ab p m J)(f:Ab p k g)(F:Ab p v v'){h':H}(a:Hd T h t m k v=some h'):
  ∃w',(Instr.mapUpdate t J g v').run P w=.ok () w'/\Ext p h w p h' w':=by
 unfold Hd at a;split at a
 case h_2=>cases a
 rename_i K e b O;split at a
 case h_2=>cases a
 rename_i d es u c x;cases E:Ij T K d k with
 |false=>grind
 |true=>
  simp only[E,we]at a;rcases Lf (es:=es) D G (by simp only[entries,x])with⟨rfl,_⟩|⟨r,l,L,b',n,N,rfl,I,o,C,y⟩
  ·simp[Ab]at G
  ·cases N;rw[x]at o;cases o;unfold Instr.mapUpdate;simp only[zd,Ax s O,zc,IC s c f E,getObj,yw,C];split at a
   case h_3=>cases a
   case h_1=>
    rename_i j v0 A;cases a;obtain⟨Q,B,v1,rfl,X,W,U,S⟩:=run_findKey (P:=P) (w:=w) s f c y A;simp only[B,zc];have q:(l[j]?.map (·.key)).getD g=g:=by
     grind
    rw[q];unfold Instr.keyThatStays;simp only[U8 f E,wm,zd,zf,zc,setObj,yw,C];refine⟨_,rfl,Ext.put D x I (o':=.map (UX es j k v) u) ⟨_,rfl,?_⟩ rfl rfl rfl rfl⟩;have:=y.modify f F j;grind
   case h_2=>
    rename_i A;cases a;obtain⟨Q,B,M⟩:=run_findKey (P:=P) (w:=w) s f c y A;subst M;simp only[B,zc,setObj,yw,C];refine⟨_,rfl,Ext.put D x I (o':=.map (es++[(k,v,u)])<|u+1) ⟨_,rfl,?_⟩ rfl rfl rfl rfl⟩;have:=y.snoc (e:={ key:=g,val:=v',born:=u }) f F;grind
end
end Go.Det
