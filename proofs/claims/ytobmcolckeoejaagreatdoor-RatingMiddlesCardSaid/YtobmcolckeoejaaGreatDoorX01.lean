import Derived.Scope
import Derived.Laws.Sem
import Derived.KernelRfl
import Derived.Laws.Strings
import Derived.IntWalk
/- A part of a proof; no law is stated here. -/
abbrev Rd:=List UInt8
abbrev w4:=@decide_eq_true
abbrev w5:=@decide_eq_true_eq
abbrev w6:=@of_decide_eq_true
abbrev w7:=@of_decide_eq_false
abbrev w8:=@decide_eq_false
abbrev w9:=@decide_eq_false_iff_not
abbrev wc:=@if_neg
abbrev wd:=@if_pos
abbrev we:=@cond_true
abbrev wg:=@cond_false
abbrev wh:=@absurd
abbrev wi:=@congrArg
abbrev wk:=@beq_iff_eq
abbrev wm:=@if_true
abbrev vc:=@ne_eq
abbrev ve:=@and_true
abbrev vf:=@if_false
noncomputable section
open Go.Result renaming andThen_ok -> zc
open Go.Sem renaming run_bind -> zd, run_pure -> zf, run -> yv
open Option.some renaming injEq -> ze
open Nat renaming le_refl -> zg, beq -> zh, ble -> zk, mul_le_mul_right -> zz, blt -> z7, ble_eq -> z8, le_trans -> yq
open Option renaming map_eq_some_iff -> zi
open Go.Value renaming cells -> zj
open Go.Builtin renaming firstCells -> zl, zeroCells -> zo, append_ -> zu, nextslicecap -> z6, lenOf -> yi
open List renaming getElem?_eq_some_iff -> zm, getElem?_take_of_lt -> zq, getElem?_cons_zero -> yc, getElem?_cons_succ -> yd, getElem?_toArray -> yg, rec -> yp
open Bool renaming and_eq_true -> zn, false_eq_true -> zp, or_eq_true -> yu
open Go.Instr renaming sliceAt -> zr, sliceBounds -> zt, sameBits -> zx, sureAddr -> ye, findAsking -> yh, findNow -> yj, checkKey -> yk, slice -> ym, sameNow -> yn, findKey -> yo, lookup -> yt
open Prod.mk renaming injEq -> zw
open Int renaming ofNat_eq_natCast -> zy, toNat_natCast -> yb
open BitVec renaming ofInt -> ya
open Array renaming getElem?_toList -> yf
open Go.Op renaming bytesLess -> yr, equal -> yw
theorem ae{p:Prop}(h:p:=by omega):p:=h
theorem af{p:Prop}(h:p:=by decide):p:=h
theorem ag{p:Prop}(h:p:=by kernel_rfl):p:=h
theorem ah{p:Prop}(h:p:=by grind):p:=h
namespace Go.Det
section
inductive PM (α:Type) where
 |leaf
 |node (l:PM α) (v:Option α) (r:PM α)
inductive Hx where
 |here
 |l (p:Hx)
 |r (p:Hx)
variable {α:Type}
def wD(f:Nat):Nat->Hx:=
 @Nat.rec (fun _=>Nat->Hx) (fun _=>.here) (fun _ a i=>bif zh i 0 then .here else bif zh (Nat.mod i 2) 1 then .l (a<|Nat.div i 2)else .r<|a<|Nat.sub (Nat.div i 2) 1) f
def pth(i:Nat):Hx:=wD i i
def Hx.get(p:Hx):PM α->Option α:=
 @Hx.rec (fun _=>PM α->Option α)
  (fun m=>@PM.rec α (fun _=>Option α) none (fun _ v _ _ _=>v) m)
  (fun _ a m=>@PM.rec α (fun _=>Option α) none (fun l _ _ _ _=>a l) m)
  (fun _ a m=>@PM.rec α (fun _=>Option α) none (fun _ _ r _ _=>a r) m) p
def Hx.set(p:Hx):PM α->Option α->PM α:=
 @Hx.rec (fun _=>PM α->Option α->PM α)
  (fun m v=>@PM.rec α (fun _=>PM α) (.node .leaf v .leaf) (fun l _ r _ _=>.node l v r) m)
  (fun _ a m v=>@PM.rec α (fun _=>PM α) (.node (a .leaf v) none .leaf) (fun l x r _ _=>.node (a l v) x r) m)
  (fun _ a m v=>@PM.rec α (fun _=>PM α) (.node .leaf none<|a .leaf v) (fun l x r _ _=>.node l x<|a r v) m) p
def PM.get(m:PM α)(i:Nat):Option α:=(pth i).get m
def PM.set(m:PM α)(i:Nat)(v:Option α):PM α:=(pth i).set m v
theorem Bn(a b:Nat):zh a b=decide (a=b):=by
 by_cases h:a=b
 ·simp_all
 grind [Nat.eq_of_beq_eq_true]
def Hx.num:Hx->Nat
 | .here=>0
 | .l p=>2*p.num+1
 | .r p=>2*(p.num+1)
theorem QI:∀(f i:Nat),i<=f->(wD f i).num=i
 |0,i,h=>by cases ae;rfl
 |f+1,i,h=>by
  show Hx.num (bif zh i 0 then .here else bif zh (i % 2) 1 then .l (wD f<|i/2)else .r<|wD f<|i/2-1)=i;simp only[Bn];by_cases h0:i=0
  ·subst h0;rfl
  ·by_cases a:i % 2=1
   ·simp only[h0,a,decide_false,decide_true,wg,we,Hx.num];rw[QI f (i/2) ae];omega
   ·simp only[h0,a,decide_false,wg,Hx.num];rw[QI f (i/2-1) ae];omega
theorem xP{i j:Nat}(h:pth i=pth j):i=j:=by
 have:=wi Hx.num h;unfold pth at this;simp_all [QI]
theorem Hx.Ep(p:Hx):p.get (.leaf:PM α)=none:=by cases p<;>rfl
theorem Hx.get_set_same:∀(p:Hx) (m:PM α) (v:Option α),p.get (p.set m v)=v
 | .here,m,v=>by cases m<;>rfl
 | .l p,m,v=>by
  cases m with
  |leaf=>exact Hx.get_set_same p .leaf v
  |node l x r=>exact Hx.get_set_same p l v
 | .r p,m,v=>by
  cases m with
  |leaf=>exact Hx.get_set_same p .leaf v
  |node l x r=>exact Hx.get_set_same p r v
theorem Hx.Gr:∀(p q:Hx) (m:PM α) (v:Option α),q≠p->q.get (p.set m v)=q.get m
 | .here,.here,m,v,h=>wh rfl h
 | .here,.l q,m,v,_=>by
  cases m with
  |leaf=>exact q.Ep
  |node l x r=>rfl
 | .here,.r q,m,v,_=>by
  cases m with
  |leaf=>exact q.Ep
  |node l x r=>rfl
 | .l p,.here,m,v,_=>by cases m<;>rfl
 | .r p,.here,m,v,_=>by cases m<;>rfl
 | .l p,.r q,m,v,_=>by
  cases m with
  |leaf=>exact q.Ep
  |node l x r=>rfl
 | .r p,.l q,m,v,_=>by
  cases m with
  |leaf=>exact q.Ep
  |node l x r=>rfl
 | .l p,.l q,m,v,h=>by
  have h':q≠p:=ah;cases m with
  |leaf=>exact(Hx.Gr p q .leaf v h').trans q.Ep
  |node l x r=>exact Hx.Gr p q l v h'
 | .r p,.r q,m,v,h=>by
  have h':q≠p:=ah;cases m with
  |leaf=>exact(Hx.Gr p q .leaf v h').trans q.Ep
  |node l x r=>exact Hx.Gr p q r v h'
@[simp] theorem PM.Dv(m:PM α)(i:Nat)(v:Option α)(j:Nat):(m.set i v).get j=if j=i then v else m.get j:=by
 unfold PM.get PM.set;by_cases e:j=i
 ·simp_all [Hx.get_set_same]
 ·grind [Hx.Gr,xP]
@[simp] theorem PM.Ep(j:Nat):(PM.leaf:PM α).get j=none:=Hx.Ep _
def FE(l:List α):Nat:=@yp α (fun _=>Nat) 0 (fun _ _ a=>Nat.add a 1) l
theorem DN(l:List α):FE l=l.length:=by
 induction l with
 |nil=>rfl
 |cons a l b=>simp_all [FE]
def Kk(n:Nat):List α->List α:=
 @Nat.rec (fun _=>List α->List α) (fun l=>l) (fun _ b l=>@yp α (fun _=>List α) [] (fun _ a _=>b a) l) n
theorem QD:∀(n:Nat) (l:List α),Kk n l=l.drop n
 |0,_l=>rfl
 |_n+1,[]=>rfl
 |n+1,_a::l=>QD n l
def bY(n:Nat):List α->List α:=
 @Nat.rec (fun _=>List α->List α) (fun _=>[]) (fun _ c l=>@yp α (fun _=>List α) [] (fun a b _=>a::c b) l) n
theorem PA:∀(n:Nat) (l:List α),bY n l=l.take n
 |0,_l=>rfl
 |_n+1,[]=>rfl
 |n+1,a::l=>wi (a:: ·)<|PA n l
def Ke(vs:List α):List α->List α:=
 @yp α (fun _=>List α->List α) (fun l=>l) (fun v _ b l=>@yp α (fun _=>List α) [] (fun _ a _=>v::b a) l) vs
def CA(n:Nat)(vs:List α):List α->List α:=
 @Nat.rec (fun _=>List α->List α) (fun l=>Ke vs l) (fun _ c l=>@yp α (fun _=>List α) [] (fun a b _=>a::c b) l) n
def Mb(f:α->Bool)(l:List α):Bool:=@yp α (fun _=>Bool) true (fun a _ b=>bif f a then b else false) l
theorem FF(f:α->Bool):∀l:List α,Mb f l=l.all f
 |[]=>rfl
 |a::l=>by
  show(bif f a then Mb f l else false)=_;rw[FF f l,List.all_cons];simp
inductive V where
 |bool (b:Bool)
 |int (k:IntKind) (n:Int)
 |str (s:Rd)
 |nilp
 |ptr (b off:Nat)
 |nils
 |sl (b off len cap o:Nat)
 |esl
 |es0
 |junk
 |nilm
 |map (b:Nat)
 |fn (f:Fn) (first captured:List V)
 |yld (b:Nat)
 |nilf
 |iface (t:TypeId) (v:V)
 |nili
 |agg (cs:List V)
 |tup (vs:List V)
 deriving Inhabited
abbrev Pl:=List<|Nat×Nat
def bytesOf(s:Rd):ByteArray:=⟨s.toArray⟩
mutual
def Ae(p:Pl):V->Value->Prop
 | .bool b,v=>v=.bool b
 | .int k n,v=>v=.int k n
 | .str s,v=>v=.string (bytesOf s)
 | .nilp,v=>v=.pointer none
 | .ptr b off,v=>∃r n,p[b]?=some (r,n)/\v=.pointer (some ⟨r,off,none⟩)
 | .nils,v=>v=.slice none 0 0
 | .sl b off len cap o,v=>∃r n c,p[b]?=some (r,n)/\v=.slice (some ⟨r,off,none⟩) len c/\len<=cap/\cap<=c/\(o=0->c=cap)/\(o≠0->off+c*o<=n)
 | .esl,v=>∃a c,v=.slice (some a) 0 c
 | .es0,v=>∃a,v=.slice (some a) 0 0
 | .junk,_=>False
 | .nilm,v=>v=.map none
 | .map b,v=>∃r n,p[b]?=some (r,n)/\v=.map (some r)
 | .fn f first captured,v=>∃x y,v=.func f x y/\Aw p first x.toList/\Aw p captured y.toList
 | .yld b,v=>∃r n,p[b]?=some (r,n)/\v=.func (.yield r) #[] #[]
 | .nilf,v=>v=.nilFunc
 | .iface t x,v=>∃y,v=.iface t y/\Ae p x y
 | .nili,v=>v=.nilIface
 | .agg cs,v=>∃x,v=.agg x/\Aw p cs x.toList
 | .tup cs,v=>∃x,v=.tuple x/\Aw p cs x.toList
def Aw(p:Pl):List V->List Value->Prop
 |[],l=>l=[]
 |d::ds,l=>∃v vs,l=v::vs/\Ae p d v/\Aw p ds vs
end
@[simp] theorem JI(p:Pl)(l:List Value):Aw p [] l↔l=[]:=by rfl
@[simp] theorem Bh(p:Pl)(d:V)(ds:List V)(v:Value)(vs:List Value):Aw p (d::ds) (v::vs)↔Ae p d v/\Aw p ds vs:=by
 simp only[Aw];grind
@[simp] theorem nI(p:Pl)(d:V)(ds:List V):¬Aw p (d::ds) []:=by
 simp[Aw]
theorem Aw.length{p:Pl}:∀ {ds:List V} {vs:List Value},Aw p ds vs->ds.length=vs.length
 |[],vs,h=>by simp_all
 |d::ds,[],h=>by simp at h
 |d::ds,v::vs,h=>by simp at h;simp[h.2.length]
theorem Aw.get{p:Pl}:∀ {ds:List V} {vs:List Value},Aw p ds vs->∀ {i:Nat} {d:V},ds[i]?=some d->∃v,vs[i]?=some v/\Ae p d v
 |[],vs,_,i,d,a=>by grind
 |d::ds,[],h,_,_,_=>by simp at h
 |d::ds,v::vs,h,i,x,a=>by
  simp at h;cases i with
  |zero=>grind
  |succ i=>simpa using h.2.get a
theorem Aw.mk{p:Pl}:∀ {ds:List V} {vs:List Value},ds.length=vs.length->(∀(i:Nat) d v,ds[i]?=some d->vs[i]?=some v->Ae p d v)->Aw p ds vs
 |[],[],_,_=>by simp
 |[],_::_,h,_=>by simp at h
 |_::_,[],h,_=>by simp at h
 |d::ds,v::vs,h,a=>by
  simp at h;rw[Bh];exact⟨a 0 d v rfl rfl,Aw.mk h<|fun i b v' c f=>a (i+1) b v' ah ah⟩
theorem Aw.append{p:Pl}:∀ {a:List V} {x:List Value} {b:List V} {y:List Value},Aw p a x->Aw p b y->Aw p (a++b) (x++y)
 |[],x,b,y,h,h'=>by simp_all
 |d::ds,[],_,_,h,_=>by simp at h
 |d::ds,v::vs,b,y,h,h'=>by simp at h;simp[h.1,h.2.append h']
theorem Aw.take{p:Pl}:∀ {a:List V} {x:List Value} (n:Nat),Aw p a x->Aw p (a.take n) (x.take n)
 |[],x,n,h=>by simp_all
 |d::ds,[],_,h=>by simp at h
 |d::ds,v::vs,0,h=>by simp
 |d::ds,v::vs,n+1,h=>by simp at h;simp[h.1,h.2.take n]
theorem Aw.drop{p:Pl}:∀ {a:List V} {x:List Value} (n:Nat),Aw p a x->Aw p (a.drop n) (x.drop n)
 |[],x,n,h=>by simp_all
 |d::ds,[],_,h=>by simp at h
 |d::ds,v::vs,0,h=>by grind
 |d::ds,v::vs,n+1,h=>by simp at h;simpa using h.2.drop n
theorem Aw.set{p:Pl}:∀ {a:List V} {x:List Value} (i:Nat) {d:V} {v:Value},Aw p a x->Ae p d v->Aw p (a.set i d) (x.set i v)
 |[],x,n,_,_,h,_=>by simp_all
 |d::ds,[],_,_,_,h,_=>by simp at h
 |d::ds,v::vs,0,_,_,h,h'=>by simp_all
 |d::ds,v::vs,n+1,_,_,h,h'=>by simp at h;simp[h.1,h.2.set n h']
mutual
theorem Ae.mono{p:Pl}(q:Pl):∀ {d:V} {v:Value},Ae p d v->Ae (p++q) d v
 | .bool _,_,h=>by simpa [Ae]using h
 | .int _ _,_,h=>by simpa [Ae]using h
 | .str _,_,h=>by simpa [Ae]using h
 | .nilp,_,h=>by simpa [Ae]using h
 | .ptr b off,v,h=>by
  grind [Ae]
 | .nils,_,h=>by simpa [Ae]using h
 | .sl b off len cap o,v,h=>by
  grind [Ae]
 | .esl,_,h=>by simpa [Ae]using h
 | .es0,_,h=>by simpa [Ae]using h
 | .junk,_,h=>by simp[Ae]at h
 | .nilm,_,h=>by simpa [Ae]using h
 | .map b,v,h=>by
  grind [Ae]
 | .fn f a b,v,h=>by
  obtain⟨x,y,rfl,c,g⟩:=h;exact⟨x,y,rfl,Aw.mono q c,Aw.mono q g⟩
 | .yld b,v,h=>by
  grind [Ae]
 | .nilf,_,h=>by simpa [Ae]using h
 | .iface t x,v,h=>by
  simp only[Ae]at h ⊢;obtain⟨y,rfl,c⟩:=h;simp_all [Ae.mono]
 | .nili,_,h=>by simpa [Ae]using h
 | .agg cs,v,h=>by
  simp only[Ae]at h ⊢;obtain⟨x,rfl,c⟩:=h;simp_all [Aw.mono]
 | .tup cs,v,h=>by
  simp only[Ae]at h ⊢;obtain⟨x,rfl,c⟩:=h;simp_all [Aw.mono]
theorem Aw.mono{p:Pl}(q:Pl):∀ {ds:List V} {vs:List Value},Aw p ds vs->Aw (p++q) ds vs
 |[],_,h=>by simp_all
 |_::_,[],h=>by simp at h
 |d::ds,v::vs,h=>by simp only[Bh]at h ⊢;exact⟨Ae.mono q h.1,Aw.mono q h.2⟩
end
structure Fr where
 n:Nat
 m:PM V
def Fr.get(f:Fr)(t:Nat):V:=(f.m.get t).getD<|.tup []
def Fr.put(f:Fr)(d:Option Nat)(v:V):Option Fr:=
 match d with
 |none=>some f
 |some t=>bif z7 t f.n then some ⟨f.n,f.m.set t<|some v⟩else none
def EE(p:Pl)(f:Fr)(tmps:Array Value):Prop:=f.n=tmps.size/\∀t,Ae p (f.get t)<|tmps.getD t undef
def Cx(p:Pl)(f:Fr)(a:Act):Prop:=f.n=a.tmps.size/\∀t,Ae p (f.get t)<|a.tmps.getD t undef
theorem EE.mono{p:Pl}(q:Pl){f:Fr}{tmps:Array Value}(h:EE p f tmps):EE (p++q) f tmps:=⟨h.1,fun t=>(h.2 t).mono q⟩
structure LS where
 st:LoopState
 pend:Option Code
 fr:Fr
 ps:Array Tmp
 asg:Code
 body:Code
 db:Nat
inductive O where
 |cells (cs:List V) (elem:TypeId) (fz:Nat×Nat)
 |map (es:List (V×V×Nat)) (clock:Nat)
 |siter (s:Rd) (pos:Nat)
 |miter (b:Option Nat) (since:Nat) (seen:List Nat) (last:Nat)
 |loop (l:LS)
 |defd (open_:Bool)
structure H where
 m:PM O
 nx:Nat
def H.get(h:H)(b:Nat):Option O:=h.m.get b
def H.push(h:H)(o:O):H:=⟨h.m.set h.nx<|some o,h.nx+1⟩
def H.put(h:H)(b:Nat)(o:O):H:=⟨h.m.set b<|some o,h.nx⟩
def H.kill(h:H)(b:Nat):H:=⟨h.m.set b none,h.nx⟩
@[simp] theorem H.CE(h:H)(o:O)(b:Nat):(h.push o).get b=if b=h.nx then some o else h.get b:=by simp[H.push,H.get]
@[simp] theorem H.B3(h:H)(b:Nat)(o:O)(j:Nat):(h.put b o).get j=if j=b then some o else h.get j:=by simp[H.put,H.get]
@[simp] theorem H.DL(h:H)(b:Nat)(j:Nat):(h.kill b).get j=if j=b then none else h.get j:=by simp[H.kill,H.get]
@[simp] theorem H.Agy(h:H)(o:O):(h.push o).nx=h.nx+1:=rfl
@[simp] theorem H.AdK(h:H)(b:Nat)(o:O):(h.put b o).nx=h.nx:=rfl
@[simp] theorem H.Z5(h:H)(b:Nat):(h.kill b).nx=h.nx:=rfl
inductive DI (p:Pl):List (V×V×Nat)->List MapEntry->Prop
 |nil:DI p [] []
 |cons {k v:V} {b:Nat} {es:List (V×V×Nat)} {e:MapEntry} {l:List MapEntry}:Ae p k e.key->Ae p v e.val->e.born=b->DI p es l->DI p ((k,v,b)::es) (e::l)
def V.ok:V->Bool
 | .junk=>false
 |_=>true
def Eo(p:Pl)(cs:List V)(vs:List Value):Prop:=cs.length=vs.length/\∀(i:Nat) d v,cs[i]?=some d->vs[i]?=some v->d.ok=true->Ae p d v
theorem Aw.toC{p:Pl}{cs:List V}{vs:List Value}(h:Aw p cs vs):Eo p cs vs:=⟨h.length,fun i d v a c _=>by
 obtain⟨u,b,f⟩:=h.get a;grind⟩
theorem Eo.get{p:Pl}{cs:List V}{vs:List Value}(h:Eo p cs vs){i:Nat}{d:V}(b:cs[i]?=some d)(a:d.ok=true):∃v,vs[i]?=some v/\Ae p d v:=by
 have c:i<vs.length:=by rw[<-h.1];grind
 exact⟨vs[i],(by simp),h.2 i d _ b (by simp) a⟩
theorem Eo.drop{p:Pl}{cs:List V}{vs:List Value}(h:Eo p cs vs)(n:Nat):Eo p (cs.drop n) (vs.drop n):=
 ⟨by simp[h.1],fun i d v a b=>h.2 (n+i) d v ah ah⟩
theorem Eo.take{p:Pl}{cs:List V}{vs:List Value}(h:Eo p cs vs)(n:Nat):Eo p (cs.take n) (vs.take n):=
 ⟨by simp[h.1],fun i d v a b=>by
  have c:i<n:=ah
  rw[zq c]at a b;exact h.2 i d v a b⟩
theorem Eo.Ku{p:Pl}{cs:List V}{vs:List Value}(h:Eo p cs vs)(c:∀d∈cs,d.ok=true):Aw p cs vs:=
 Aw.mk h.1 fun i d v a b=>h.2 i d v a b ah
def Li(p:Pl)(n:Nat):O->Obj->Prop
 | .cells cs t fz,o=>∃(c:Array Value) (fz':Nat×Nat),o=.cells c t fz'/\c.size=n/\cs.length<=n/\Eo p cs (c.toList.take cs.length)/\∀i,i<n->fz'.1<=i->i<fz'.2->fz.1<=i/\i<fz.2
 | .map es clock,o=>∃l:Array MapEntry,o=.map l clock/\DI p es l.toList
 | .siter s pos,o=>o=.stringIter (bytesOf s) pos
 | .miter none since seen last,o=>o=.mapIter none since seen.toArray last
 | .miter (some b) since seen last,o=>∃r m,p[b]?=some (r,m)/\o=.mapIter (some r) since seen.toArray last
 | .loop l,o=>∃(fn:FuncId) (tmps:Array Value) (r m:Nat),EE p l.fr tmps/\p[l.db]?=some (r,m)/\o=.loop { state:=l.st,pending:=l.pend,fn,tmps,params:=l.ps,assign:=l.asg,body:=l.body,defers:=r }
 | .defd op,o=>o=.deferred (bif op then some []else none)
theorem Eo.mono{p:Pl}(q:Pl){cs:List V}{vs:List Value}(h:Eo p cs vs):Eo (p++q) cs vs:=⟨h.1,fun i d v b c a=>(h.2 i d v b c a).mono q⟩
theorem DI.mono{p:Pl}(q:Pl){es:List (V×V×Nat)}{l:List MapEntry}(h:DI p es l):DI (p++q) es l:=by
 induction h with
 |nil=>exact .nil
 |cons c d a _ b=>exact .cons (c.mono q) (d.mono q) a b
theorem Li.mono{p:Pl}(q:Pl){n:Nat}{o:O}{x:Obj}(h:Li p n o x):Li (p++q) n o x:=by
 cases o with
 |cells cs t fz=>obtain⟨c,fz',d,a,f,k,g⟩:=h;exact⟨c,fz',d,a,f,k.mono q,g⟩
 |map es u=>obtain⟨l,d,a⟩:=h;exact⟨l,d,a.mono q⟩
 |siter s pos=>exact h
 |miter b since seen last=>
  cases b with
  |none=>exact h
  |some b=>
   obtain⟨r,m,d,a⟩:=h;exact⟨r,m,by grind,a⟩
 |loop l=>
  obtain⟨fn,tmps,r,m,h0,d,a⟩:=h;exact⟨fn,tmps,r,m,h0.mono q,by grind,a⟩
 |defd _=>exact h
structure R(p:Pl)(h:H)(w:World):Prop where
 len:p.length=h.nx
 obj:∀b o,h.get b=some o->∃r n x,p[b]?=some (r,n)/\w.heap[r]?=some x/\Li p n o x
 inj:∀b b' o o' r n n',h.get b=some o->h.get b'=some o'->p[b]?=some (r,n)->p[b']?=some (r,n')->b=b'
def Im(p:Pl)(h:H)(r:Nat):Prop:=∃b o n,h.get b=some o/\p[b]?=some (r,n)
def Lk(n:Nat)(fz:Nat×Nat):Prop:=fz.1=0/\n<=fz.2/\0<fz.2
def Lkd(p:Pl)(h:H)(r:Nat):Prop:=∃b n cs t fz,h.get b=some (.cells cs t fz)/\p[b]?=some (r,n)/\Lk n fz
structure Ext(p:Pl)(h:H)(w:World)(p':Pl)(h':H)(w':World):Prop where
 pre:∃q,p'=p++q
 rel:R p' h' w'
 size:w.heap.size<=w'.heap.size
 same:∀r,r<w.heap.size->¬Im p h r->w'.heap[r]?=w.heap[r]?
 im:∀r,Im p' h' r->Im p h r\/w.heap.size<=r
 os:w'.os=w.os
 out:w'.output=w.output
 tape:w'.tape=w.tape
 lock:∀r,r<w.heap.size->Lkd p h r->w'.heap[r]?=w.heap[r]?/\(Lkd p' h' r\/¬Im p' h' r)
 dr:w.drawn<=w'.drawn
theorem Ext.refl{p:Pl}{h:H}{w:World}(hr:R p h w):Ext p h w p h w:=
 ⟨(by simp),hr,zg _,(by simp),ah,rfl,rfl,rfl,ah,zg _⟩
theorem Ext.trans{p d l:Pl}{h m k:H}{w g c:World}(a:Ext p h w d m g)(b:Ext d m g l k c):Ext p h w l k c:=by
 obtain⟨q,B⟩:=a.pre;obtain⟨q',hq'⟩:=b.pre;refine⟨ah,b.rel,yq a.size b.size,fun r hr x=>?_,fun r hr=>?_,b.os.trans a.os,b.out.trans a.out,b.tape.trans a.tape,fun r o u=>?_,yq a.dr b.dr⟩
 ·rw[b.same r (Nat.lt_of_lt_of_le hr a.size) ?_,a.same r hr x];intro h1;rcases a.im r h1 with s|s
  ·grind
  ·omega
 ·rcases b.im r hr with h1|h1
  ·exact a.im r h1
  ·exact .inr<|yq a.size h1
 ·obtain⟨v,h1⟩:=a.lock r o u;have f:=Nat.lt_of_lt_of_le o a.size;rcases h1 with h1|h1
  ·obtain⟨A,s⟩:=b.lock r f h1;grind
  ·refine⟨(b.same r f h1).trans v,.inr fun y=>?_⟩;rcases b.im r y with s|s
   ·grind
   ·omega
theorem Ext.qJ{p p':Pl}{h h':H}{w w':World}(e:Ext p h w p' h' w'){d:V}{v:Value}(a:Ae p d v):Ae p' d v:=by
 obtain⟨q,rfl⟩:=e.pre;exact a.mono q
theorem Ext.drew{p:Pl}{h:H}{w:World}(hr:R p h w)(n:Nat)(a:w.drawn<=n:=by omega):Ext p h w p h { w with drawn:=n }:=
 ⟨(by simp),⟨hr.len,hr.obj,hr.inj⟩,zg _,(by simp),ah,rfl,rfl,rfl,ah,a⟩
theorem R.lt{p:Pl}{h:H}{w:World}(hr:R p h w){b:Nat}{o:O}(c:h.get b=some o):b<h.nx:=by
 obtain⟨r,n,x,a,_⟩:=hr.obj b o c;have:=(zm.1 a).1;have:=hr.len;omega
theorem R.aW{p:Pl}{h:H}{w:World}(hr:R p h w){r:Nat}(c:Im p h r):r<w.heap.size:=by
 obtain⟨b,o,n,a,d⟩:=c;obtain⟨r',n',x,h3,h4,_⟩:=hr.obj b o a;grind
theorem Ext.push{p:Pl}{h:H}{w:World}(hr:R p h w){o:O}{x:Obj}{n:Nat}(J:Li p n o x):
  Ext p h w (p++[(w.heap.size,n)]) (h.push o) { w with heap:=w.heap.push x }:=by
 have S:∀b o',h.get b=some o'->b≠h.nx:=fun b o' a=>by have:=hr.lt a;omega
 have s:(p++[(w.heap.size,n)])[h.nx]?=some (w.heap.size,n):=by rw[<-hr.len];simp
 have f:∀b,b<h.nx->(p++[(w.heap.size,n)])[b]?=p[b]?:=ah;refine⟨⟨_,rfl⟩,⟨by simp[hr.len],fun b o' a=>?_,fun b b' g d r m C a u k q=>?_⟩,by simp,fun r v _=>?_,fun r K=>?_,rfl,rfl,rfl,fun r v F=>?_,zg _⟩
 ·rw[H.CE]at a;by_cases e:b=h.nx
  ·subst e;simp at a;subst a;exact⟨_,_,x,s,by simp,J.mono _⟩
  ·rw[wc e]at a;obtain⟨r,m,y,k,q,G⟩:=hr.obj b o' a;refine⟨r,m,y,by grind,?_,G.mono _⟩;grind
 ·have key:∀c o' r m,(h.push o).get c=some o'->(p++[(w.heap.size,n)])[c]?=some (r,m)->(c=h.nx/\r=w.heap.size)\/(h.get c=some o'/\p[c]?=some (r,m)/\r<w.heap.size):=by
   intro c o' r m l hp;rw[H.CE]at l;by_cases e:c=h.nx
   ·grind
   ·rw[wc e]at l;rw[f c<|hr.lt l]at hp;exact .inr ⟨l,hp,hr.aW ⟨c,o',m,l,hp⟩⟩
  rcases key b g r m a k with⟨D,A⟩|⟨D,A,M⟩<;>rcases key b' d r C u q with⟨E,B⟩|⟨E,B,N⟩
  ·omega
  ·omega
  ·omega
  ·exact hr.inj b b' g d r m C D E A B
 ·grind
 ·obtain⟨b,o',m,k,q⟩:=K;rw[H.CE]at k;by_cases e:b=h.nx
  ·grind
  ·rw[wc e]at k;rw[f b<|hr.lt k]at q;exact .inl ⟨b,o',m,k,q⟩
 ·refine⟨by grind,.inl ?_⟩;obtain⟨b,m,cs,t,fz,L,Q,I⟩:=F;refine⟨b,m,cs,t,fz,?_,?_,I⟩
  ·simp_all
  grind
theorem Ext.put{p:Pl}{h:H}{w w':World}(hr:R p h w){b r n:Nat}{o o':O}{x':Obj}(l:h.get b=some o)(hp:p[b]?=some (r,n))(Q:Li p n o' x')
  (U:w'.heap=w.heap.setIfInBounds r x') (x:w'.os=w.os) (B:w'.output=w.output) (K:w'.tape=w.tape)
  (J:∀cs t fz,o=.cells cs t fz->Lk n fz->w.heap[r]?=some x'/\∃cs' D,o'=.cells cs' D fz:=by intro _ _ _ h;cases h) (S:w.drawn<=w'.drawn:=by exact Nat.le_refl _):Ext p h w p (h.put b o') w':=by
 have W:r<w.heap.size:=hr.aW ⟨b,o,n,l,hp⟩;refine⟨(by simp),⟨hr.len,fun c d a=>?_,fun c G d k s m N a E x B=>?_⟩,by simp[U],fun s M L=>?_,fun s V=>?_,x,B,K,fun s M I=>?_,S⟩
 ·rw[H.B3]at a;by_cases e:c=b
  ·subst e;simp at a;subst a;exact⟨r,n,x',hp,by grind,Q⟩
  ·rw[wc e]at a;obtain⟨s,m,y,g,u,X⟩:=hr.obj c d a;have q:r≠s:=fun F=>e<|hr.inj c b d o s m n a l g<|F▸hp
   grind
 ·have f:∀c d,(h.put b o').get c=some d->∃k,h.get c=some k:=by
   intro c d a;rw[H.B3]at a;grind
  obtain⟨_,g⟩:=f c d a;obtain⟨_,u⟩:=f G k E;exact hr.inj c G _ _ s m N g u x B
 ·have q:r≠s:=fun e=>L<|e▸⟨b,o,n,l,hp⟩
  grind
 ·obtain⟨c,d,m,g,u⟩:=V;rw[H.B3]at g;by_cases e:c=b
  ·subst e;exact .inl ⟨c,o,m,l,u⟩
  ·rw[wc e]at g;exact .inl ⟨c,d,m,g,u⟩
 ·obtain⟨c,m,cs,t,fz,A,v,C⟩:=I;by_cases e:c=b
  ·subst e;rw[hp]at v;cases v;rw[l]at A;cases A;obtain⟨g,cs',D,rfl⟩:=J cs t fz rfl C;refine⟨?_,.inl ⟨c,n,cs',D,fz,by simp,hp,C⟩⟩;grind
  ·have q:r≠s:=fun F=>e<|hr.inj c b _ o s m n A l v<|F▸hp
   refine⟨by grind,.inl ⟨c,m,cs,t,fz,by simp_all,v,C⟩⟩
theorem R.kill{p:Pl}{h:H}{w:World}(hr:R p h w)(b:Nat):R p (h.kill b) w:=by
 have sub:∀c o,(h.kill b).get c=some o->h.get c=some o:=by
  simp
 exact⟨hr.len,fun c o a=>hr.obj c o<|sub c o a,fun c d o o' r n n' a f=>hr.inj c d o o' r n n' (sub c o a) ah⟩
theorem Ext.kill{p:Pl}{h:H}{w:World}(hr:R p h w)(b:Nat):Ext p h w p (h.kill b) w:=by
 refine⟨(by simp),hr.kill b,zg _,(by simp),fun r x=>?_,rfl,rfl,rfl,fun r A k=>⟨rfl,?_⟩,zg _⟩
 ·obtain⟨c,o,n,a,v⟩:=x;rw[H.DL]at a;split at a
  ·cases a
  ·exact .inl ⟨c,o,n,a,v⟩
 ·obtain⟨c,m,cs,t,fz,s,g,y⟩:=k;by_cases e:c=b
  ·subst e;refine .inr ?_;rintro⟨u,o',l,d,q⟩;rw[H.DL]at d;split at d
   ·cases d
   ·rename_i f;exact f<|hr.inj u c _ _ r l m d s q g
  ·exact .inl ⟨c,m,cs,t,fz,by simp_all,g,y⟩
theorem Ext.move{p:Pl}{h:H}{w w':World}(hr:R p h w){b r n:Nat}{o o':O}{x':Obj}(A:h.get b=some o)(hp:p[b]?=some (r,n))(V:Li p n o' x')
  (Z:w'.heap=w.heap.setIfInBounds r x') (Y:w'.os=w.os) (W:w'.output=w.output) (M:w'.tape=w.tape) (hk:∀cs t fz,o=.cells cs t fz->¬Lk n fz) (X:w.drawn<=w'.drawn:=by exact Nat.le_refl _):Ext p h w (p++[(r,n)]) ((h.kill b).push o') w':=by
 have hlt:r<w.heap.size:=hr.aW ⟨b,o,n,A,hp⟩;have k:(p++[(r,n)])[h.nx]?=some (r,n):=by rw[<-hr.len];simp
 have g:∀b,b<h.nx->(p++[(r,n)])[b]?=p[b]?:=ah;have d:∀c a,((h.kill b).push o').get c=some a->(c=h.nx/\a=o')\/(c≠b/\c<h.nx/\h.get c=some a):=by
  intro c a f;rw[H.CE,H.Z5,H.DL]at f;by_cases e:c=h.nx
  ·grind
  ·rw[wc e]at f;by_cases l:c=b
   ·grind
   ·rw[wc l]at f;exact .inr ⟨l,hr.lt f,f⟩
 have ne:∀c a s m,c≠b->h.get c=some a->p[c]?=some (s,m)->r≠s:=fun c a s m f hg C e=>f<|hr.inj c b a o s m n hg A C<|e▸hp
 refine⟨⟨_,rfl⟩,⟨by simp[hr.len],fun c a f=>?_,fun c E a u s m U f D F G=>?_⟩,by simp[Z],fun s C L=>?_,fun s hi=>?_,Y,W,M,fun s C J=>?_,X⟩
 ·rcases d c a f with⟨rfl,rfl⟩|⟨I,l,x⟩
  ·exact⟨r,n,x',k,by grind,V.mono _⟩
  ·obtain⟨s,m,y,v,q,B⟩:=hr.obj c a x;refine⟨s,m,y,by grind,?_,B.mono _⟩;grind
 ·rcases d c a f with⟨rfl,rfl⟩|⟨I,l,x⟩<;>rcases d E u D with⟨rfl,rfl⟩|⟨f1,N,Q⟩
  ·rfl
  ·grind
  ·grind
  ·rw[g c l]at F;rw[g E N]at G;exact hr.inj c E a u s m U x Q F G
 ·have K:r≠s:=fun e=>L<|e▸⟨b,o,n,A,hp⟩
  grind
 ·obtain⟨c,a,m,v,q⟩:=hi;rcases d c a v with⟨rfl,rfl⟩|⟨I,l,x⟩
  ·rw[k]at q;cases q;exact .inl ⟨b,o,n,A,hp⟩
  ·rw[g c l]at q;exact .inl ⟨c,a,m,x,q⟩
 ·obtain⟨c,m,cs,t,fz,v,q,B⟩:=J;by_cases e:c=b
  ·grind
  ·have S:=hr.lt v;refine⟨by grind,.inl ⟨c,m,cs,t,fz,?_,by grind,B⟩⟩;rw[H.CE,H.Z5,wc ae,H.DL,wc e];exact v
end
def Afp(l:List Nat):List V:=l.map fun n=>.int .u64<|.ofNat n
def Fg:List (Nat×O):=[(5,.cells (Afp [1,10,100,1000,10000,100000,1000000,10000000,100000000,1000000000,10000000000,100000000000,1000000000000,10000000000000,100000000000000,1000000000000000,10000000000000000,100000000000000000,1000000000000000000,10000000000000000000]) 279 (0,20))]
mutual
def V.flat:V->Bool
 | .bool _| .int _ _| .str _| .nilp| .nils| .nilm| .nilf| .nili=>true
 | .agg l| .tup l=>V.IF l
 |_=>false
def V.IF:List V->Bool
 |[]=>true
 |v::vs=>v.flat&&V.IF vs
end
mutual
theorem V.C4{p q:Pl}:∀ {v:V} {v':Value},v.flat=true->Ae p v v'->Ae q v v'
 | .bool _,_,_,h| .int _ _,_,_,h| .str _,_,_,h| .nilp,_,_,h| .nils,_,_,h| .nilm,_,_,h| .nilf,_,_,h| .nili,_,_,h=>by simpa [Ae]using h
 | .agg l,_,a,h=>by
  obtain⟨x,rfl,b⟩:=h;exact⟨x,rfl,V.JQ (by simpa [V.flat]using a) b⟩
 | .tup l,_,a,h=>by
  obtain⟨x,rfl,b⟩:=h;exact⟨x,rfl,V.JQ (by simpa [V.flat]using a) b⟩
 | .ptr _ _,_,a,_| .sl _ _ _ _ _,_,a,_| .map _,_,a,_| .fn _ _ _,_,a,_| .yld _,_,a,_| .iface _ _,_,a,_=>by simp[V.flat]at a
theorem V.JQ{p q:Pl}:∀ {v:List V} {v':List Value},V.IF v=true->Aw p v v'->Aw q v v'
 |[],_,_,h=>by simp_all
 |_::_,[],_,h=>by simp at h
 |v::vs,x::b,a,h=>by
  simp only[V.IF,zn]at a;rw[Bh]at h ⊢;exact⟨V.C4 a.1 h.1,V.JQ a.2 h.2⟩
end
def osz:O->Nat
 | .cells cs _ _=>cs.length
 |_=>0
def gin(g:Nat):List (Nat×O)->Bool
 |[]=>false
 |(i,_)::l=>bif zh i g then true else gin g l
def hGm:List (Nat×O)->PM O
 |[]=>.leaf
 |(i,o)::l=>(hGm l).set i<|some o
def O3:List (Nat×O)->Nat
 |[]=>0
 |(i,_)::l=>bif zk (i+1) (O3 l)then O3 l else i+1
def hG:H:=⟨hGm Fg,O3 Fg⟩
def gok:List (Nat×O)->Bool
 |[]=>true
 |(_,.cells cs _ (a,b))::l=>V.IF cs&&zh a 0&&zh b cs.length&&z7 0 b&&gok l
 |_=>false
theorem Zv:gok Fg=true:=by rfl
theorem cY{g:Nat}:∀ {l:List (Nat×O)},gin g l=true->∃o,(g,o)∈l
 |[],h=>by cases h
 |(i,o)::l,h=>by
  unfold gin at h;cases a:zh i g with
  |true=>simp_all
  |false=>
   rw[a]at h;obtain⟨o',b⟩:=cY h;grind
theorem TG:∀ {l:List (Nat×O)},gok l=true->∀x∈l,∃cs t,x.2=.cells cs t (0,cs.length)/\V.IF cs=true/\0<cs.length
 |[],_,x,c=>by cases c
 |(i,.cells cs t (a,b))::l,h,x,c=>by
  simp only[gok,zn]at h;obtain⟨⟨⟨⟨k,f⟩,d⟩,m⟩,g⟩:=h;rcases List.mem_cons.1 c with rfl|c
  ·have f:a=0:=by simp_all
   have d:b=cs.length:=by simp_all
   subst f d;exact⟨cs,t,rfl,k,(by simp_all)⟩
  ·exact TG g x c
theorem K8:∀ {l:List (Nat×O)} {b:Nat} {o:O},(hGm l).get b=some o->(b,o)∈l
 |[],b,o,h=>by simp[hGm]at h
 |(i,o')::l,b,o,h=>by
  simp only[hGm,PM.Dv]at h;by_cases e:b=i
  ·grind
  ·rw[wc e]at h;exact List.mem_cons_of_mem _<|K8 h
theorem aJ{n:Nat}:∀ {l:List (Nat×O)},(∀x∈l,x.1<n)->O3 l<=n
 |[],_=>Nat.zero_le _
 |(i,o)::l,h=>by
  have a:=h (i,o) (by simp);have b:=aJ (l:=l) fun x c=>h x ah
  grind [O3]
theorem Tk:∀ {l:List (Nat×O)},∀x∈l,x.1<O3 l
 |[],x,a=>by cases a
 |(i,o)::l,x,a=>by
  unfold O3;rcases List.mem_cons.1 a with rfl|a
  ·cases b:zk (i+1) (O3 l)with
   |true=>have:=Nat.le_of_ble_eq_true b;grind
   |false=>simp
  ·have:=Tk (l:=l) x a;grind [Nat.ble_eq_true_of_le]
def Gp(p:Pl):Prop:=∀x∈Fg,p[x.1]?=some (x.1,osz x.2)
def Gh(h:H):Prop:=∀x∈Fg,h.get x.1=some x.2
theorem Gp.app{p:Pl}(h:Gp p)(q:Pl):Gp (p++q):=fun x a=>by
 have:=h x a;grind
theorem Gp.top{p:Pl}(h:Gp p):O3 Fg<=p.length:=aJ fun x a=>(zm.1<|h x a).1
theorem Gp.take{p:Pl}(h:Gp p):Gp (p.take<|O3 Fg):=fun x a=>by
 rw[zq<|Tk x a];exact h x a
theorem Eo.flat{p q:Pl}{cs:List V}{vs:List Value}(g:V.IF cs=true)(h:Eo p cs vs):Eo q cs vs:=
 ⟨h.1,fun i d v b f c=>V.C4 (by
  have:=List.mem_of_getElem? b;clear h b f c;induction cs with
  |nil=>grind
  |cons a cs k=>
   simp only[V.IF,zn]at g;grind)<|h.2 i d v b f c⟩
theorem AcV{p:Pl}{h:H}{w:World}(hr:R p h w)(hp:Gp p)(l:Gh h):R (p.take<|O3 Fg) hG w:=by
 refine⟨by rw[List.length_take,Nat.min_eq_left hp.top];rfl,fun b o f=>?_,fun b b' o o' r n n' f d g k=>?_⟩
 ·have a:=K8 f;obtain⟨cs,t,e,m,u⟩:=TG Zv _ a;obtain⟨r,n,x,g,k,h3⟩:=hr.obj b o<|l _ a;refine⟨r,n,x,by rw[zq<|Tk _ a];exact g,k,?_⟩;subst e;obtain⟨c,fz',k1,k2,k3,k4,k5⟩:=h3;exact⟨c,fz',k1,k2,k3,k4.flat m,k5⟩
 ·have q:=K8 f;have s:=K8 d;have y:=hp.take _ q;have v:=hp.take _ s;grind
theorem Ext.Fg{p:Pl}{w w':World}{p':Pl}{h':H}(hp:Gp p)(c:Ext p hG w p' h' w')(r:Nat)(hr:r<w.heap.size):w'.heap[r]?=w.heap[r]?:=by
 by_cases g:Im p hG r
 ·obtain⟨b,o,n,a,d⟩:=g;have f:=K8 a;obtain⟨cs,t,e,hf,hl⟩:=TG Zv _ f;subst e;have:=hp _ f;rw[this]at d;cases d;exact(c.lock _ hr ⟨_,_,_,_,_,a,this,rfl,zg _,hl⟩).1
 ·exact c.same r hr g
section
variable {p:Pl}
def V.cells:V->List V
 | .agg cs=>cs
 |v=>[v]
theorem Ae.cells{d:V}{v:Value}(f:Ae p d v):Aw p d.cells v.cells.toList:=by
 cases d<;>simp only[V.cells]<;>simp only[Ae]at f
 case agg cs=>obtain⟨x,rfl,b⟩:=f;exact b
 case bool=>simp_all [zj,Ae]
 case int=>simp_all [zj,Ae]
 case str=>simp_all [zj,Ae]
 case nilp=>simp_all [zj,Ae]
 case nils=>simp_all [zj,Ae]
 case nilm=>simp_all [zj,Ae]
 case nilf=>simp_all [zj,Ae]
 case nili=>simp_all [zj,Ae]
 case ptr=>obtain⟨r,n,b,rfl⟩:=f;simp[zj,Ae,b]
 case esl=>obtain⟨a,c,rfl⟩:=f;simp[zj,Ae]
 case es0=>obtain⟨a,rfl⟩:=f;simp[zj,Ae]
 case sl=>obtain⟨r,n,c,b,rfl,g⟩:=f;simp only[zj,Bh,JI,ve];simp only[Ae];grind
 case map=>obtain⟨r,n,b,rfl⟩:=f;simp[zj,Ae,b]
 case yld=>obtain⟨r,n,b,rfl⟩:=f;simp[zj,Ae,b]
 case fn=>obtain⟨x,y,rfl,b,g⟩:=f;simp only[zj,Bh,JI,ve];simp only[Ae];grind
 case iface=>obtain⟨y,rfl,b⟩:=f;simp_all [zj,Ae]
 case tup=>obtain⟨x,rfl,b⟩:=f;simp_all [zj,Ae]
end
structure TI where
 size:Nat
 bytes:Nat
 zv:V
def TI.zero(i:TI):List V:=i.zv.cells
inductive FK where
 |bool
 |str
 |int (k:IntKind)
def FK.ok:FK->V->Bool
 | .bool,.bool _=>true
 | .str,.str _=>true
 | .int k,.int a _=>k==a
 |_,_=>false
def fit:List FK->List V->Bool
 |[],[]=>true
 |k::ks,v::vs=>bif k.ok v then fit ks vs else false
 |_,_=>false
structure B6 where
 und:TypeId->Option TypeDesc
 inf:TypeId->Option TI
 flat:TypeId->Option (List FK)
 mth:TypeId->String->Option FuncId
def Es:V->V->Option Bool
 | .bool a,.bool b=>some<|a==b
 | .int k a,.int c b=>if k=c then some (a==b)else none
 | .str a,.str b=>some<|a==b
 |_,_=>none
def BX:List V->List V->Option Bool
 |[],[]=>some true
 |a::c,b::d=>
  match Es a b with
  |some true=>BX c d
  |some false=>if c.length=d.length then some false else none
  |none=>none
 |_,_=>none
structure B6.Ok(T:B6)(P:Program):Prop where
 und:∀t d,T.und t=some d->P.underlying t=some d
 inf:∀t i,T.inf t=some i->∃j v,P.info? t=some j/\j.size=i.size/\j.bytes=i.bytes/\j.zero=some v/\∀p,Ae p i.zv v
 flat:∀t ks,T.flat t=some ks->∀(p:Pl) (x y:List V) (x' y':Array Value) (r:Bool) (w:World),fit ks x=true->fit ks y=true->Aw p x x'.toList->Aw p y y'.toList->BX x y=some r->
  (yw t (.agg x') (.agg y')).run P w=.ok r w
 guard:∀t ks,T.flat t=some ks->P.eqGuardType P.depth t=false
 key:∀t ks,T.flat t=some ks->∀(p:Pl) (x:List V) (x':Array Value) (b:Bool) (w:World),fit ks x=true->Aw p x x'.toList->(yk b 10000 t (.agg x')).run P w=.ok () w
 kind:∀t ks,T.flat t=some ks->∃fs,T.und t=some (.struct fs)
 mth:∀t name f,T.mth t name=some f->∃j m d,P.info? t=some j/\j.methods.find? (·.name==name)=some m/\m.path= #[]/\m.func=some (f,false)/\P.underlying t=some d/\∀e,d≠ .pointer e
section
variable {T:B6}{P:Program}{p:Pl}{h:H}{w:World}
theorem AA(b:T.Ok P){t:TypeId}{d:TypeDesc}(a:T.und t=some d):(underlying t).run P w=.ok d w:=by
 unfold underlying;simp[b.und t d a]
theorem Bw(a:T.Ok P){t:TypeId}{i:TI}(b:T.inf t=some i):(sizeOf t).run P w=.ok i.size w:=by
 obtain⟨j,v,c,d,_⟩:=a.inf t i b;simp_all [sizeOf,typeInfo]
theorem QT(a:T.Ok P){t:TypeId}{i:TI}(b:T.inf t=some i):∃j,(∀w,(typeInfo t).run P w=.ok j w)/\j.bytes=i.bytes/\j.size=i.size:=by
 obtain⟨j,v,d,f,c,_⟩:=a.inf t i b;simp_all [typeInfo]
theorem Er(a:T.Ok P){t:TypeId}{i:TI}(c:T.inf t=some i):∃v,(∀w,(zeroValue t).run P w=.ok v w)/\∀p,Aw p i.zero v.cells.toList:=by
 obtain⟨j,v,f,g,d,k,b⟩:=a.inf t i c;exact⟨v,(by simp_all [zeroValue,typeInfo]),fun p=>(b p).cells⟩
theorem AdH(a:T.Ok P){t:TypeId}{i:TI}(b:T.inf t=some i):∃v,(∀w,(zeroValue t).run P w=.ok v w)/\∀p,Ae p i.zv v:=by
 obtain⟨j,v,f,g,c,k,d⟩:=a.inf t i b;simp_all [zeroValue,typeInfo]
def Ed:TypeDesc->Bool
 | .struct _| .array _ _=>true
 |_=>false
theorem SO(b:T.Ok P){t:TypeId}{d:TypeDesc}(a:T.und t=some d):(isAgg t).run P w=.ok (Ed d) w:=by
 unfold isAgg;rw[zd,AA b a];cases d<;>simp[Ed]
def V.one:V->Bool
 | .agg _| .tup _| .junk=>false
 |_=>true
theorem V.MO{d:V}(h:d.one=true):d.ok=true:=by cases d<;>first|rfl|cases h
theorem Ae.one{d:V}{v:Value}(b:Ae p d v)(f:d.one=true):v.oneCell'=true:=by
 cases d<;>simp only[V.one]at f<;>simp only[Ae]at b
 case agg|tup=>cases f
 case ptr=>obtain⟨r,n,_,rfl⟩:=b;rfl
 case esl=>obtain⟨a,c,rfl⟩:=b;rfl
 case es0=>obtain⟨a,rfl⟩:=b;rfl
 case sl=>obtain⟨r,n,c,_,rfl,_⟩:=b;rfl
 case map=>obtain⟨r,n,_,rfl⟩:=b;rfl
 case yld=>obtain⟨r,n,_,rfl⟩:=b;rfl
 case fn=>obtain⟨x,y,rfl,_,_⟩:=b;rfl
 case iface=>obtain⟨y,rfl,_⟩:=b;rfl
 all_goals subst b;rfl
@[simp] theorem Addr.Nb(r off n:Nat):Addr.add ⟨r,off,none⟩ n=⟨r,off+n,none⟩:=by
 unfold Addr.add;simp
def rd0(h:H)(b off n:Nat):Option (List V):=
 match h.get b with
 |some (.cells cs _ _)=>if off+n<=cs.length/\((cs.drop off).take n).all V.ok=true then some ((cs.drop off).take n)else none
 |_=>none
def rd(h:H)(b off n:Nat):Option (List V):=
 match h.get b with
 |some (.cells cs _ _)=>bif zk (Nat.add off n) (FE cs)&&Mb V.ok (bY n<|Kk off cs)then some (bY n<|Kk off cs)else none
 |_=>none
theorem ZG:rd=rd0:=by
 funext h b off n
 unfold rd rd0;split
 ·rw[DN,PA,QD,FF];simp
 ·rfl
theorem cell_of(hr:R p h w){b:Nat}{cs:List V}{t:TypeId}{fz:Nat×Nat}(a:h.get b=some (.cells cs t fz)):
  ∃r n c fz',p[b]?=some (r,n)/\w.heap[r]?=some (.cells c t fz')/\c.size=n/\cs.length<=n/\Eo p cs (c.toList.take cs.length)/\(∀i,w.cell? ⟨r,i,none⟩=c[i]?)/\
   ∀i,i<n->fz'.1<=i->i<fz'.2->fz.1<=i/\i<fz.2:=by
 obtain⟨r,n,x,f,m,c,fz',k,l,d,g,o⟩:=hr.obj b _ a;grind [World.cell?]
theorem Rp{a:Addr}{v:Value}(b:w.cell? a=some v):(load a).run P w=.ok v w:=by simp[b]
theorem run_loadCellsFrom{a:Addr}:∀(n i:Nat) (b:Array Value) (vs:List Value),vs.length=n->(∀j v,vs[j]?=some v->w.cell? (a.add<|i+j)=some v)->
  (loadCellsFrom a i n b).run P w=.ok (b++vs.toArray) w
 |0,i,b,vs,c,_=>by
  simp_all [loadCellsFrom]
 |n+1,i,b,[],c,_=>by grind
 |n+1,i,b,v::vs,c,d=>by
  unfold loadCellsFrom;rw[zd,Rp (a:=a.add i) (by have:=d 0 v rfl;simpa using this)];simp only[zc];rw[run_loadCellsFrom n (i+1) (b.push v) vs ah (fun j u f=>by
   have:=d (j+1) u ah;grind)]
  simp
theorem run_loadCells(hr:R p h w){b off n:Nat}{k:List V}(d:rd h b off n=some k):
  ∃r m vs,p[b]?=some (r,m)/\(loadCells ⟨r,off,none⟩ n).run P w=.ok vs.toArray w/\Aw p k vs/\vs.length=n/\∀i v,vs[i]?=some v->w.cell? ⟨r,off+i,none⟩=some v:=by
 rw[ZG]at d;unfold rd0 at d;split at d
 case h_2=>cases d
 rename_i cs t fz q;split at d
 case isFalse=>cases d
 cases d;obtain⟨r,m,c,_,o,y,u,x,l,s,_⟩:=cell_of hr q;have g:Aw p ((cs.drop off).take n) ((c.toList.take cs.length).drop off|>.take n):=((l.drop off).take n).Ku ah;have a:((c.toList.take cs.length).drop off|>.take n).length=n:=ah
 have f:∀i v,((c.toList.take cs.length).drop off|>.take n)[i]?=some v->w.cell? ⟨r,off+i,none⟩=some v:=by
  grind
 refine⟨r,m,_,o,?_,g,a,f⟩;unfold loadCells;rw[run_loadCellsFrom n 0 #[] _ a (by simp_all)];simp
def Fe(T:B6)(h:H)(t:TypeId)(a:V):Option V:=
 match a,T.und t,T.inf t with
 | .ptr b off,some d,some i=>
  bif Ed d then(rd h b off i.size).map .agg
  else match rd h b off 1 with
   |some (v::_)=>some v
   |_=>none
 |_,_,_=>none
theorem Xg(x:T.Ok P)(hr:R p h w){t:TypeId}{a v:V}{o:Value}(l:Ae p a o)(c:Fe T h t a=some v):
  ∃v',(Instr.loadAt t o).run P w=.ok v' w/\Ae p v v':=by
 unfold Fe at c;split at c
 case h_2=>cases c
 rename_i b off d i A C;simp only[Ae]at l;obtain⟨r,n,hp,rfl⟩:=l;unfold Instr.loadAt ye;simp only[zd,zf,zc];unfold loadVar;simp only[zd];rw[SO x A];simp only[zc];cases g:Ed d with
 |true=>
  simp only[g,we]at c;rw[zi]at c;obtain⟨E,k,rfl⟩:=c;obtain⟨y,m,vs,f,s,q,_⟩:=run_loadCells (P:=P) hr k;rw[hp]at f;cases f;simp only[wm,zd,Bw x C,zc,s,zf];simp_all [Ae]
 |false=>
  simp only[g,wg]at c;split at c
  case h_2=>cases c
  rename_i v0 tl k;cases c;obtain⟨y,m,vs,f,s,q,F,B⟩:=run_loadCells (P:=P) hr k;rw[hp]at f;cases f;cases vs with
  |nil=>grind
  |cons u D=>
   simp at q;simp only[zp,vf];have:=B 0 u rfl;simp_all
def HA:List V->Nat->List V->List V
 |cs,_,[]=>cs
 |cs,off,v::vs=>HA (cs.set off v) (off+1) vs
@[simp] theorem IJ:∀(vs:List V) (cs:List V) (off:Nat),(HA cs off vs).length=cs.length
 |[],_,_=>rfl
 |v::vs,cs,off=>by simp[HA,IJ vs]
def clear(fz:Nat×Nat)(off n:Nat):Bool:=zk fz.2 off||zk (off+n) fz.1||zk fz.2 fz.1
def wr0(h:H)(b off:Nat)(vs:List V):Option H:=
 match h.get b with
 |some (.cells cs t fz)=>bif zk (off+vs.length) cs.length&&clear fz off vs.length&&vs.all V.one then some (h.put b<|.cells (HA cs off vs) t fz)else none
 |_=>none
theorem ML(a:V):∀(vs cs:List V) (off:Nat),HA (a::cs) (off+1) vs=a::HA cs off vs
 |[],cs,off=>rfl
 |v::vs,cs,off=>by
  show HA ((a::cs).set (off+1) v) (off+1+1) vs=a::HA (cs.set off v) (off+1) vs;rw[List.set_cons_succ,ML a vs]
theorem Qd:∀(vs:List V) (off:Nat),HA [] off vs=[]
 |[],_=>rfl
 |v::vs,off=>by show HA ([].set off v) (off+1) vs=[];rw[List.set_nil,Qd vs]
theorem V3:∀(vs cs:List V),Ke vs cs=HA cs 0 vs
 |[],cs=>rfl
 |v::vs,[]=>(Qd _ _).symm
 |v::vs,c::cs=>by
  show v::Ke vs cs=HA ((c::cs).set 0 v) (0+1) vs;rw[List.set_cons_zero,ML,V3 vs cs]
theorem JR(vs:List V):∀(off:Nat) (cs:List V),CA off vs cs=HA cs off vs
 |0,cs=>V3 vs cs
 |off+1,[]=>(Qd _ _).symm
 |off+1,c::cs=>by rw[ML];exact wi (c:: ·)<|JR vs off cs
def wr(h:H)(b off:Nat)(vs:List V):Option H:=
 match h.get b with
 |some (.cells cs t fz)=>bif zk (Nat.add off<|FE vs) (FE cs)&&clear fz off (FE vs)&&Mb V.one vs then some (h.put b<|.cells (CA off vs cs) t fz)else none
 |_=>none
theorem AeF:wr=wr0:=by
 grind [wr,wr0,DN,FF,JR]
theorem kE(a:Array Obj)(i:Nat)(x:Obj)(j:Nat):(a.setIfInBounds i x)[j]?=if i=j/\j<a.size then some x else a[j]?:=by
 grind
theorem mZ{a:Array Obj}{i:Nat}{x:Obj}(h:a[i]?=some x):a.setIfInBounds i x=a:=by
 grind
theorem Pd{a:Array Obj}{i:Nat}{f:Obj->Obj}{x:Obj}(h:a[i]?=some x):a.modify i f=a.setIfInBounds i (f x):=by
 grind
theorem setCell_eq{w:World}{r off:Nat}{c:Array Value}{t:TypeId}{fz:Nat×Nat}(v:Value)(a:w.heap[r]?=some (.cells c t fz)):
  w.setCell ⟨r,off,none⟩ v={ w with heap:=w.heap.setIfInBounds r (.cells (c.setIfInBounds off v) t fz) }:=by
 grind [World.setCell,Pd]
theorem Gq{r:Nat}{t:TypeId}{fz:Nat×Nat}:∀(vs:List Value) (w:World) (c:Array Value) (off i:Nat),w.heap[r]?=some (.cells c t fz)->off+i+vs.length<=c.size->
  (∀v∈vs,v.oneCell'=true)->(∀j,i<=j->j<i+vs.length->¬(fz.1<=off+j/\off+j<fz.2))->
  ∃a:Array Value,(storeCells ⟨r,off,none⟩ vs i).run P w=.ok () { w with heap:=w.heap.setIfInBounds r (.cells a t fz) }/\a.size=c.size/\
   a.toList=(List.range c.size).map (fun j=>if off+i<=j/\j<off+i+vs.length then vs.getD (j-(off+i)) default else c.toList.getD j default)
 |[],w,c,off,i,b,_,_,_=>by
  refine⟨c,?_,rfl,?_⟩
  ·simp_all [storeCells,mZ]
  ·apply List.ext_getElem (by simp);grind
 |v::vs,w,c,off,i,b,f,m,g=>by
  simp at f;have k:w.cell? ⟨r,off+i,none⟩=some (c[off+i]'ae):=by simp[World.cell?,b]
  have q:w.frozen? ⟨r,off+i,none⟩=false:=by
   simp_all [World.frozen?]
  have l:=setCell_eq (off:=off+i) v b;have d:=(Array.getElem?_eq_some_iff.1 b).1;obtain⟨a,y,B,s⟩:=Gq vs { w with heap:=w.heap.setIfInBounds r (.cells (c.setIfInBounds (off+i) v) t fz) } (c.setIfInBounds (off+i) v) off (i+1)
   (by rw[kE,wd ⟨rfl,d⟩]) ah ah (fun j o x=>g j ae ah)
  refine⟨a,?_,by grind,?_⟩
  ·simp_all [storeCells,run_store]
  ·rw[s];apply List.ext_getElem (by simp);intro j u A;simp at u;simp only[List.getElem_map,List.getElem_range,List.length_cons];grind
theorem Q8:∀(vs cs:List V) (off j:Nat),off+vs.length<=cs.length->(HA cs off vs)[j]?=if off<=j/\j<off+vs.length then vs[j-off]? else cs[j]?
 |[],cs,off,j,_=>by rw[wc<|by simp];rfl
 |v::vs,cs,off,j,a=>by
  unfold HA;rw[Q8 vs (cs.set off v) (off+1) j ah];grind
theorem Uj(hr:R p h w){b off:Nat}{f:List V}{vs:List Value}(y:Aw p f vs){h':H}(k:wr h b off f=some h'):
  ∃r m w',p[b]?=some (r,m)/\(storeCells ⟨r,off,none⟩ vs).run P w=.ok () w'/\Ext p h w p h' w':=by
 rw[AeF]at k;unfold wr0 at k;split at k
 case h_2=>cases k
 rename_i cs t fz B;cases q:(zk (off+f.length) cs.length&&clear fz off f.length&&f.all V.one)with
 |false=>grind
 |true=>
  simp only[q,we,ze]at k;subst k;simp only[zn,z8,List.all_eq_true]at q;obtain⟨⟨Q,C⟩,Z⟩:=q;obtain⟨r,m,c,fz',h1,h2,h3,h4,h5,h6,h7⟩:=cell_of hr B;have O:=y.length;have o:∀v∈vs,v.oneCell'=true:=by
   intro v D;obtain⟨i,F⟩:=List.mem_iff_getElem?.1 D;have G:=(zm.1 F).1;obtain⟨u,a,g⟩:=y.get (i:=i) (d:=f[i]'ae) (by simp);rw[F]at a;cases a;exact g.one ah
  have s:∀j,0<=j->j<0+vs.length->¬(fz'.1<=off+j/\off+j<fz'.2):=by
   rintro j _ Y ⟨I,M⟩;have:=h7 (off+j) ae I M;simp only[clear,yu,z8]at C;omega
  obtain⟨E,L,W,S⟩:=Gq (P:=P) vs w c off 0 h2 ae o s;refine⟨r,m,_,h1,L,Ext.put hr B h1 ?_ rfl rfl rfl rfl (fun J t1 K X A=>?_)⟩
  case refine_2=>
   obtain⟨l1,U,l3⟩:=A;simp only[clear,yu,z8]at C;have N:E=c:=by
    apply Array.ext';apply List.ext_getElem?;grind
   grind
  refine⟨E,fz',rfl,by omega,by simp_all,?_,h7⟩;refine⟨by simp;omega,?_⟩;intro i d v l D x;rw[Q8 f cs off i ae]at l;by_cases e:off<=i/\i<off+f.length
  ·rw[wd e]at l;obtain⟨u,a,g⟩:=y.get l;grind
  ·rw[wc e]at l;obtain⟨u,a,g⟩:=h5.get l x;grind
def HZ(T:B6)(h:H)(t:TypeId)(a x:V):Option H:=
 match a,T.inf t with
 | .ptr b off,some i=>bif zh x.cells.length i.size then wr h b off x.cells else none
 |_,_=>none
theorem eU(k:T.Ok P)(hr:R p h w){t:TypeId}{a x:V}{f x':Value}(g:Ae p a f)(d:Ae p x x'){h':H}(c:HZ T h t a x=some h'):
  ∃w',(Instr.storeAt t f x').run P w=.ok () w'/\Ext p h w p h' w':=by
 unfold HZ at c;split at c
 case h_2=>cases c
 rename_i b off i l;rw[Bn]at c;by_cases e:x.cells.length=i.size
 ·simp only[e,decide_true,we]at c;obtain⟨r,n,hp,rfl⟩:=g;obtain⟨r',m,w',h1,h2,h3⟩:=Uj (P:=P) hr d.cells c;rw[hp]at h1;cases h1;refine⟨w',?_,h3⟩;have o:=d.cells.length;unfold Instr.storeAt ye;unfold storeVar;have:x'.cells.size=i.size:=ah
  simp only[zd,Bw k l,zc,this,vc,not_true_eq_false,vf];exact h2
 grind
theorem CI(t:TypeId)(c:Array Value):(newRow t c).run P w=.ok ⟨w.heap.size,0,none⟩ { w with heap:=w.heap.push (.cells c t) }:=by
 rfl
def II(h:H)(t:TypeId)(cs:List V):H:=h.push<|.cells cs t (0,0)
theorem Ol(hr:R p h w)(t:TypeId){b:List V}{c:Array Value}(a:Aw p b c.toList):
  ∃n,Ext p h w (p++[(w.heap.size,n)]) (II h t b) { w with heap:=w.heap.push (.cells c t) }/\(p++[(w.heap.size,n)])[h.nx]?=some (w.heap.size,n)/\n=c.size:=by
 refine⟨c.size,Ext.push hr ⟨c,(0,0),rfl,rfl,by have:=a.length;grind,?_,ae⟩,by rw[<-hr.len];simp,rfl⟩;have:=a.length;rw[List.take_of_length_le ae];exact a.toC
def G8(T:B6)(h:H)(t:TypeId):Option (V×H):=(T.inf t).map fun i=>(.ptr h.nx 0,II h t i.zero)
theorem dU(c:T.Ok P)(hr:R p h w){t:TypeId}{v:V}{h':H}(a:G8 T h t=some (v,h')):
  ∃v' p' w',(Instr.alloc t true<|.tuple #[]).run P w=.ok v' w'/\Ae p' v v'/\Ext p h w p' h' w':=by
 unfold G8 at a;rw[zi]at a;obtain⟨i,d,b⟩:=a;cases b;obtain⟨z,hz,hzr⟩:=Er c d;obtain⟨n,b,hp,_⟩:=Ol hr t<|hzr p;refine⟨.pointer<|some ⟨w.heap.size,0,none⟩,_,_,?_,?_,b⟩
 ·grind [Instr.alloc,zd,zc,newVar,CI,zf]
 simp_all [Ae]
def gN(h:H)(t:TypeId)(x:V):V×H:=(.ptr h.nx 0,II h t x.cells)
theorem vS(hr:R p h w){t:TypeId}{x:V}{x':Value}(a:Ae p x x'):
  ∃v' p' w',(Instr.box t x').run P w=.ok v' w'/\Ae p' (gN h t x).1 v'/\Ext p h w p' (gN h t x).2 w':=by
 obtain⟨n,b,hp,_⟩:=Ol hr t a.cells;refine⟨.pointer<|some ⟨w.heap.size,0,none⟩,_,_,?_,?_,b⟩
 ·rfl
 simp_all [gN,Ae]
def We(op:BinOp)(x y:Rd):Option V:=
 match op with
 | .add=>if x.length+y.length<=4611686018427387904 then some (.str<|x++y)else none
 | .eql=>some<|.bool<|x==y
 | .neq=>some<|.bool !(x==y)
 | .lss=>some<|.bool<|yr x y
 | .leq=>some<|.bool<|yr x y||x==y
 | .gtr=>some<|.bool !(yr x y||x==y)
 | .geq=>some<|.bool !yr x y
 |_=>none
theorem Jm(s:Rd):(bytesOf s).toList=s:=ByteArray.toList_mk s
theorem BZ(s:Rd):(bytesOf s).size=s.length:=by rfl
theorem QP(x y:Rd):bytesOf x++bytesOf y=bytesOf (x++y):=by
 rfl
theorem xR{op:BinOp}{x y:Rd}{v:V}(a:We op x y=some v):
  ∃v',(Op.stringOp op (bytesOf x)<|bytesOf y).run P w=.ok v' w/\Ae p v v':=by
 unfold Op.stringOp;simp only[Jm,BZ];cases op<;>simp only[We]at a
 case add=>
  split at a
  ·cases a;rw[wc<|by grind [IntKind.max,IntKind.bits]];simp_all [Ae,QP]
  grind
 all_goals first
  |(cases a;done)
  |(cases a;exact⟨_,zf ..,by simp[Ae]⟩)
def OT(op:BinOp)(k:IntKind)(a b:Int):Option V:=
 match op with
 | .add=>some<|.int k<|k.wrap<|a+b
 | .sub=>some<|.int k<|k.wrap<|a-b
 | .mul=>some<|.int k<|k.wrap<|a*b
 | .quo=>if b=0 then none else some<|.int k<|k.wrap<|a.tdiv b
 | .rem=>if b=0 then none else some<|.int k<|a.tmod b
 | .and=>some<|.int k<|k.wrap (ya k.bits a&&&ya k.bits b).toNat
 | .or=>some<|.int k<|k.wrap (ya k.bits a|||ya k.bits b).toNat
 | .xor=>some<|.int k<|k.wrap (ya k.bits a^^^ya k.bits b).toNat
 | .andNot=>some<|.int k<|k.wrap (ya k.bits a&&& ~~~ya k.bits b).toNat
 | .eql=>some<|.bool<|a==b
 | .neq=>some<|.bool<|a !=b
 | .lss=>some<|.bool<|a<b
 | .leq=>some<|.bool<|a<=b
 | .gtr=>some<|.bool<|a>b
 | .geq=>some<|.bool<|a>=b
 |_=>none
def gG(op:BinOp)(k:IntKind)(a b:Int):Option V:=
 if b<0 then none else
 match op with
 | .shl=>some<|.int k<|k.wrap<|a*2^(min b.toNat k.bits)
 | .shr=>some<|.int k<|a.fdiv<|2^(min b.toNat k.bits)
 |_=>none
def O7(ks:Option (List FK))(a b:List V):Option Bool:=
 match ks with
 |some ks=>bif fit ks a&&fit ks b then BX a b else none
 |none=>none
theorem HW{ks:Option (List FK)}{a b:List V}{r:Bool}(h:O7 ks a b=some r):∃l,ks=some l/\fit l a=true/\fit l b=true/\BX a b=some r:=by
 unfold O7 at h;grind
def Bt(T:B6)(t:TypeId)(x y:V):Option Bool:=
 match T.und t,x,y with
 |some .bool,.bool a,.bool b=>some<|a==b
 |some (.pointer _),.nilp,y=>match y with| .nilp=>some true| .ptr .. =>some false|_=>none
 |some (.pointer _),.ptr ..,.nilp=>some false
 |some (.pointer e),.ptr a i,.ptr b j=>if a=b then match T.inf e with|some c=>if c.size≠0 then some (i==j)else none|_=>none else none
 |some (.interface _),.iface ..,.nili=>some false
 |some (.interface _),.nili,.iface .. =>some false
 |some (.slice _),.nils,y=>match y with| .nils=>some true| .sl .. =>some false| .esl=>some false| .es0=>some false|_=>none
 |some (.slice _),.sl ..,.nils=>some false
 |some (.slice _),.esl,.nils=>some false
 |some (.slice _),.es0,.nils=>some false
 |some (.map _ _),.nilm,y=>match y with| .nilm=>some true| .map .. =>some false|_=>none
 |some (.map _ _),.map ..,.nilm=>some false
 |some (.func ..),.nilf,.nilf=>some true
 |some (.func ..),.fn ..,.nilf=>some false
 |some (.func ..),.nilf,.fn .. =>some false
 |_,.agg d,.agg f=>O7 (T.flat t) d f
 |_,_,_=>none
def K2(T:B6)(op:BinOp)(t:TypeId)(x y:V):Option V:=
 match op,x,y with
 | .shl,.int k a,.int _ b=>gG .shl k a b
 | .shr,.int k a,.int _ b=>gG .shr k a b
 |op,.int k a,.int c b=>if k=c then OT op k a b else none
 |op,.str a,.str b=>We op a b
 | .eql,x,y=>(Bt T t x y).map fun b=>.bool b
 | .neq,x,y=>(Bt T t x y).map fun b=>.bool !b
 |_,_,_=>none
theorem Aao{op:BinOp}{k:IntKind}{a b:Int}{v:V}(d:op≠ .shl/\op≠ .shr)(c:OT op k a b=some v)(t:TypeId):
  ∃v',(binOp op t (.int k a)<|.int k b).run P w=.ok v' w/\Ae p v v':=by
 cases op<;>simp only[OT]at c<;>simp only[binOp,vc,not_true_eq_false,vf,Op.intArith,Op.intDiv,Op.intBits,Op.intCmp]
 case quo|rem=>
  split at c
  ·cases c
  ·cases c;simp_all [Ae]
 case shl=>grind
 case shr=>grind
 all_goals (cases c;exact⟨_,zf ..,by simp[Ae]⟩)
theorem Sa(m:T.Ok P){t:TypeId}{x y:V}{x' y':Value}(c:Ae p x x')(b:Ae p y y'){r:Bool}(a:Bt T t x y=some r):
  (yw t x' y').run P w=.ok r w:=by
 unfold Bt at a;split at a
 case h_16=>
  rename_i q B;obtain⟨l,f,d,o,A⟩:=HW a;simp only[Ae]at c b;obtain⟨u,rfl,g⟩:=c;obtain⟨v,rfl,hv⟩:=b;exact m.flat t l f p q B u v r w d o g hv A
 case h_17=>cases a
 all_goals (rename_i g;simp only[Ae]at c b;unfold yw Op.maxDepth Op.equalIn;rw[zd,AA m g];simp only[zc])
 case h_1=>simp_all
 case h_2=>subst c;split at a<;>first|(cases a;done)|(cases a;simp only[Ae]at b;first|(subst b;rfl)|(obtain⟨_,_,_,rfl⟩:=b;simp))
 case h_3=>obtain⟨_,_,_,rfl⟩:=c;simp_all
 case h_4=>
  split at a
  case isFalse=>cases a
  rename_i e;subst e;split at a
  case h_2=>cases a
  rename_i C k;split at a
  case isFalse=>cases a
  rename_i s;cases a;obtain⟨D,n1,f,rfl⟩:=c;obtain⟨r2,n2,d,rfl⟩:=b;rw[f]at d;cases d;simp only[zd,Bw m k,zc,s,vc,not_false_eq_true,wm];unfold sameAddr;simp only[beq_self_eq_true,wm,zf];congr 1;grind
 case h_5=>obtain⟨_,rfl,_⟩:=c;simp_all
 case h_6=>obtain⟨_,rfl,_⟩:=b;simp_all
 case h_7=>subst c;split at a<;>first|(cases a;done)|(cases a;simp only[Ae]at b;first|(subst b;rfl)|(obtain⟨_,_,_,_,rfl,_⟩:=b;rfl)|(obtain⟨_,_,rfl⟩:=b;simp;done)|(obtain⟨_,rfl⟩:=b;simp;done))
 case h_8=>obtain⟨_,_,_,_,rfl,_⟩:=c;simp_all
 case h_9=>obtain⟨_,_,rfl⟩:=c;simp_all
 case h_10=>obtain⟨_,rfl⟩:=c;simp_all
 case h_11=>subst c;split at a<;>first|(cases a;done)|(cases a;simp only[Ae]at b;first|(subst b;rfl)|(obtain⟨_,_,_,rfl⟩:=b;simp))
 case h_12=>obtain⟨_,_,_,rfl⟩:=c;simp_all
 case h_13=>simp_all
 case h_14=>obtain⟨_,_,rfl,_⟩:=c;simp_all
 case h_15=>obtain⟨_,_,rfl,_⟩:=b;simp_all
def Ut:V->Bool
 | .int .. | .str _| .tup _=>false
 |_=>true
theorem K4{t:TypeId}{x y:V}{r:Bool}(a:Bt T t x y=some r):Ut x=true:=by
 unfold Bt at a;split at a<;>first|rfl|grind
theorem OI{t:TypeId}{x:V}{x' y':Value}(a:Ae p x x')(hp:Ut x=true):
  binOp .eql t x' y'=(do pure (.bool<|<-yw t x' y'))/\binOp .neq t x' y'=(do pure (.bool<|!(<-yw t x' y'))):=by
 cases x<;>simp only[Ut]at hp<;>simp only[Ae]at a
 case int|str|tup=>cases hp
 case ptr=>obtain⟨_,_,_,rfl⟩:=a;cases y'<;>exact⟨rfl,rfl⟩
 case esl=>obtain⟨_,_,rfl⟩:=a;cases y'<;>exact⟨rfl,rfl⟩
 case es0=>obtain⟨_,rfl⟩:=a;cases y'<;>exact⟨rfl,rfl⟩
 case sl=>obtain⟨_,_,_,_,rfl,_⟩:=a;cases y'<;>exact⟨rfl,rfl⟩
 case map=>obtain⟨_,_,_,rfl⟩:=a;cases y'<;>exact⟨rfl,rfl⟩
 case yld=>obtain⟨_,_,_,rfl⟩:=a;cases y'<;>exact⟨rfl,rfl⟩
 case fn=>obtain⟨_,_,rfl,_⟩:=a;cases y'<;>exact⟨rfl,rfl⟩
 case iface=>obtain⟨_,rfl,_⟩:=a;cases y'<;>exact⟨rfl,rfl⟩
 case agg=>obtain⟨_,rfl,_⟩:=a;cases y'<;>exact⟨rfl,rfl⟩
 all_goals (subst a;cases y'<;>exact⟨rfl,rfl⟩)
theorem Aba(g:T.Ok P){op:BinOp}{t:TypeId}{x y:V}{x' y':Value}(d:Ae p x x')(f:Ae p y y'){v:V}(a:K2 T op t x y=some v):
  ∃v',(binOp op t x' y').run P w=.ok v' w/\Ae p v v':=by
 unfold K2 at a;split at a
 case h_1=>
  unfold gG at a;split at a
  ·cases a
  ·cases a;simp_all [binOp,Op.shift,wc,Ae]
 case h_2=>
  unfold gG at a;split at a
  ·cases a
  ·cases a;simp_all [binOp,Op.shift,wc,Ae]
 case h_3=>
  simp_all [Ae,Aao]
 case h_4=>
  simp_all [Ae,xR,binOp]
 case h_5=>
  rw[zi]at a;obtain⟨b,c,rfl⟩:=a;rw[(OI d<|K4 c).1];simp only[zd,Sa g d f c,zc];simp_all [Ae]
 case h_6=>
  rw[zi]at a;obtain⟨b,c,rfl⟩:=a;rw[(OI d<|K4 c).2];simp only[zd,Sa g d f c,zc];simp_all [Ae]
 grind
theorem Ws{a:V}{c:Value}(b:Ae p a c)(h:a≠ .nili):c≠ .nilIface:=by
 intro e;subst e;cases a<;>simp only[Ae]at b<;>first|exact h rfl|(simp at b;done)|(done)|(done)|(done)|(done)
theorem rP{a:V}{c:Array Value}(d:Ae p a (.agg c)):∃b,a=.agg b/\Aw p b c.toList:=by
 cases a<;>simp only[Ae]at d<;>first|(done)|grind|grind|grind|grind
theorem OX{op:BinOp}{t:TypeId}{x y:Operand}{b b':Value}(a:op≠ .eql)(c:op≠ .neq):eqGuard op t x y b b'=pure ():=by
 cases op<;>first|rfl|exact wh rfl a|grind
theorem eV{op:BinOp}{t:TypeId}{x y:Operand}{a b':Value}(h0:a≠ .nilIface\/b'≠ .nilIface)(f:(∃c d,a=.agg c/\b'=.agg d)->P.eqGuardType P.depth t=false):
  (eqGuard op t x y a b').run P w=.ok () w:=by
 by_cases b:op=.eql\/op=.neq
 ·have:eqGuard op t x y a b'=eqGuard .eql t x y a b':=by rcases b with rfl|rfl<;>rfl
  rw[this];unfold eqGuard;simp only[Bool.not_true,zp,vf];split
  ·grind
  ·simp_all
  ·rfl
 simp_all [OX]
theorem iK(C:T.Ok P){op:BinOp}{t:TypeId}{x y:Operand}{a b:V}{o b':Value}(A:Ae p a o)(u:Ae p b b'){v:V}(g:K2 T op t a b=some v):
  (eqGuard op t x y o b').run P w=.ok () w:=by
 by_cases q:op=.eql\/op=.neq
 ·refine eV ?_ ?_
  ·by_cases B:a=.nili
   ·by_cases D:b=.nili
    ·subst B D;have:Bt T t .nili .nili=none:=by simp_all [Bt]
     rcases q with rfl|rfl<;>simp[K2,this]at g
    grind [Ws]
   grind [Ws]
  ·rintro⟨c,d,rfl,rfl⟩;obtain⟨f,rfl,k⟩:=rP A;obtain⟨ys,rfl,h2⟩:=rP u;have m:Bt T t (.agg f) (.agg ys)=O7 (T.flat t) f ys:=by simp_all [Bt]
   cases s:O7 (T.flat t) f ys with
   |some r=>obtain⟨l,k,_⟩:=HW s;exact C.guard t l k
   |none=>
    rw[s]at m;rcases q with rfl|rfl<;>simp[K2,m]at g
 simp_all [OX]
def dun(op:UnOp)(x:V):Option V:=
 match op,x with
 | .neg,.int k n=>some<|.int k<|k.wrap<|0-n
 | .xor,.int k n=>OT .xor k (if k.signed then -1 else k.max) n
 | .not,.bool b=>some<|.bool !b
 |_,_=>none
theorem AcM{op:UnOp}{x:V}{x':Value}(b:Ae p x x'){v:V}(a:dun op x=some v):∃v',(Op.unary op x').run P w=.ok v' w/\Ae p v v':=by
 unfold dun at a;split at a
 case h_1=>subst b;cases a;exact⟨_,rfl,by rfl⟩
 case h_2=> 
  subst b;simp only[OT,ze]at a;subst a;exact⟨_,rfl,by rfl⟩
 case h_3=>subst b;cases a;exact⟨_,rfl,by rfl⟩
 grind
def AbC:V->Option UInt8
 | .int .u8 (.ofNat n)=>some<|UInt8.ofNat n
 |_=>none
def bytes?:List V->Option Rd
 |[]=>some []
 |v::vs=>
  match AbC v,bytes? vs with
  |some b,some a=>some (b::a)
  |_,_=>none
def F6(T:B6)(h:H)(src dst:TypeId)(x:V):Option V:=
 match T.und src,T.und dst,x with
 |some _,some<|.int k,.int _ n=>some<|.int k<|k.wrap n
 |some _,some .string,.str s=>some<|.str s
 |some (.slice e),some .string,.nils=>match T.und e with|some (.int .u8)=>some (.str [])|_=>none
 |some (.slice e),some .string,.sl b off len _ _=>
  match T.und e with
  |some (.int .u8)=>match rd h b off len with
   |some cs=>(bytes? cs).map .str
   |none=>none
  |_=>none
 |_,_,_=>none
theorem ND{f:Value->ByteArray->Sem (ForInStep ByteArray)}(q:∀n s,f (.int .u8 n) s=pure (ForInStep.yield<|s.push<|UInt8.ofNat n.toNat)):
  ∀(cs:List V) (vs:List Value) (g:Rd) (a:Rd),Aw p cs vs->bytes? cs=some g->
  ∀w,(forIn vs (bytesOf a) f).run P w=.ok (bytesOf<|a++g) w
 |[],vs,g,a,d,k,w=>by
  simp_all [bytes?]
 |c::cs,[],_,_,d,_,_=>by simp at d
 |c::cs,v::vs,g,a,d,k,w=>by
  simp only[Bh]at d;unfold bytes? at k;split at k
  case h_2=>cases k
  rename_i b tl m o;unfold AbC at m;split at m
  case h_2=>cases m
  rename_i n;have l:=d.1;simp only[Ae]at l;have:=ND q cs vs tl (a++[UInt8.ofNat n]) d.2 o w;grind [bytesOf,ByteArray.push]
theorem oO(b:T.Ok P)(hr:R p h w){src dst:TypeId}{x:V}{x':Value}(l:Ae p x x'){v:V}(a:F6 T h src dst x=some v):
  ∃v',(convert src dst x').run P w=.ok v' w/\Ae p v v':=by
 unfold F6 at a;split at a
 case h_1=>
  rename_i d f;subst l;cases a;unfold convert;simp only[zd,AA b d,AA b f,zc];exact⟨_,rfl,by rfl⟩
 case h_2=>
  rename_i d f;cases a;unfold convert;simp only[zd,AA b d,AA b f,zc];simp_all [Ae]
 case h_3=>
  rename_i d f;subst l;split at a
  case h_2=>cases a
  rename_i k;cases a;unfold convert;simp only[zd,AA b d,AA b f,AA b k,zc];exact⟨_,rfl,by rfl⟩
 case h_4=>
  rename_i d f;split at a
  case h_2=>cases a
  rename_i k;split at a
  case h_2=>cases a
  rename_i cs g;rw[zi]at a;obtain⟨q,o,rfl⟩:=a;obtain⟨r,n,c,g1,rfl,g2⟩:=l;obtain⟨r',m,vs,k1,k2,k3,_⟩:=run_loadCells (P:=P) hr g;rw[g1]at k1;cases k1;refine⟨.string<|bytesOf q,?_,by rfl⟩;unfold convert;simp only[zd,AA b d,AA b f,AA b k,zc];unfold Conv.bytesToString;simp only[zd,k2,zc];simp only[List.forIn_toArray];have e:ByteArray.empty=bytesOf []:=rfl;rw[e,ND (P:=P) (by simp) cs vs q [] k3 o w];simp
 grind
def Ld(T:B6)(t:TypeId)(cs:List V)(off:Nat):Option V:=
 match T.und t,T.inf t with
 |some d,some i=>bif Ed d then some (.agg<|(cs.drop off).take i.size)else cs[off]?
 |_,_=>none
theorem WX(g:T.Ok P){t:TypeId}{cs:List V}{c:Array Value}{off:Nat}(f:Aw p cs c.toList){v:V}(a:Ld T t cs off=some v):
  ∃v',(part t c off).run P w=.ok v' w/\Ae p v v':=by
 unfold Ld at a;split at a
 case h_2=>cases a
 rename_i d i k l;unfold part;simp only[zd,SO g k,zc];cases b:Ed d with
 |true=>
  simp only[b,we,ze]at a;subst a;simp only[wm,zd,Bw g l,zc];refine⟨_,(by rfl),?_⟩;refine⟨_,rfl,?_⟩;have:(c.extract off<|off+i.size).toList=(c.toList.drop off).take i.size:=by
   simp
  rw[this];exact(f.drop off).take i.size
 |false=>
  simp only[b,wg]at a;obtain⟨u,o,m⟩:=f.get a;simp_all
def KW(T:B6)(t:TypeId)(x:V)(f:Nat):Option V:=
 match T.und t,x with
 |some (.struct fs),.agg cs=>match fs[f]? with
  |some a=>Ld T a.type cs a.offset
  |none=>none
 |_,_=>none
theorem eL(b:T.Ok P){t:TypeId}{x:V}{x':Value}{f:Nat}(g:Ae p x x'){v:V}(a:KW T t x f=some v):
  ∃v',(Instr.field t x' f).run P w=.ok v' w/\Ae p v v':=by
 unfold KW at a;split at a
 case h_2=>cases a
 rename_i fs cs d;split at a
 case h_2=>cases a
 rename_i m l;obtain⟨c,rfl,k⟩:=g;unfold Instr.field;simp only[zd,AA b d,zc,l];exact WX b k a
def KU(T:B6)(t:TypeId)(x:V)(f:Nat):Option V:=
 match T.und t,x with
 |some (.struct fs),.ptr b off=>match fs[f]? with
  |some a=>match T.inf a.type with
   |some i=>if i.size=0 then none else some<|.ptr b<|off+a.offset
   |none=>none
  |none=>none
 |_,_=>none
theorem eK(c:T.Ok P){t:TypeId}{x:V}{x':Value}{f:Nat}(g:Ae p x x'){v:V}(a:KU T t x f=some v):
  ∃v',(Instr.fieldAt t x' f).run P w=.ok v' w/\Ae p v v':=by
 unfold KU at a;split at a
 case h_2=>cases a
 rename_i fs b off d;split at a
 case h_2=>cases a
 rename_i o m;split at a
 case h_2=>cases a
 rename_i i l;split at a
 case isTrue=>cases a
 rename_i k;cases a;obtain⟨r,n,hp,rfl⟩:=g;unfold Instr.fieldAt;simp only[zd,AA c d,zc,m];unfold ye fieldPlace;simp only[zf,zc,zd,Bw c l,k,vf,Addr.Nb];simp_all [Ae]
def Fs(T:B6)(t:TypeId)(x ix:V):Option V:=
 match T.und t,x,ix with
 |some (.slice e),.sl b off len _ _,.int _ i=>
  match T.inf e,i with
  |some a,.ofNat n=>bif z7 n len then some (.ptr b<|off+n*a.size)else none
  |_,_=>none
 |some (.array len e),.ptr b off,.int _ i=>
  match T.inf e,i with
  |some a,.ofNat n=>bif z7 n len then some (.ptr b<|off+n*a.size)else none
  |_,_=>none
 |_,_,_=>none
theorem Hu(a b:Nat):z7 a b=decide (a<b):=by
 rw[Bool.eq_iff_iff];simp
theorem gK(s:T.Ok P){t:TypeId}{x ix:V}{x' l:Value}(q:Ae p x x')(g:Ae p ix l){v:V}(a:Fs T t x ix=some v):
  ∃v',(Instr.indexAt t x' l).run P w=.ok v' w/\Ae p v v':=by
 unfold Fs at a;split at a
 case h_3=>cases a
 case h_1=>
  rename_i e b off len cap o k i u;split at a
  case h_2=>cases a
  rename_i A n y;rw[Hu]at a;by_cases f:n<len
  ·simp only[f,decide_true,we,ze]at a;subst a;simp only[Ae]at q g;obtain⟨r,m,c,hp,rfl,_⟩:=q;subst g;unfold Instr.indexAt asIntOf;have d:(0:Int)<=(n:Int)/\(n:Int)<(len:Int):=⟨by simp,by simpa using f⟩;simp only[zd,zf,AA s u,zc,d,and_self,wm,Bw s y,Addr.Nb,zy,yb];exact⟨_,rfl,by simp only[Ae];exact⟨_,_,hp,rfl⟩⟩
  ·simp[f]at a
 case h_2=>
  rename_i len e b off k i u;split at a
  case h_2=>cases a
  rename_i A n y;rw[Hu]at a;by_cases f:n<len
  ·simp only[f,decide_true,we,ze]at a;subst a;simp only[Ae]at q g;obtain⟨r,m,hp,rfl⟩:=q;subst g;unfold Instr.indexAt asIntOf ye;have d:(0:Int)<=(n:Int)/\(n:Int)<(len:Int):=⟨by simp,by simpa using f⟩;simp only[zd,zf,AA s u,zc,d,and_self,wm,Bw s y,Addr.Nb,zy,yb];exact⟨_,rfl,by simp only[Ae];exact⟨_,_,hp,rfl⟩⟩
  ·simp[f]at a
def Jg(T:B6)(t:TypeId)(x ix:V):Option V:=
 match T.und t,x,ix with
 |some .string,.str s,.int _ (.ofNat n)=>match s[n]? with
  |some b=>some<|.int .u8 b.toNat
  |none=>none
 |some (.array len e),.agg cs,.int _ (.ofNat n)=>
  match T.inf e with
  |some a=>bif z7 n len then Ld T e cs (n*a.size)else none
  |_=>none
 |_,_,_=>none
theorem dT(o:T.Ok P){t:TypeId}{x ix:V}{x' l:Value}(m:Ae p x x')(d:Ae p ix l){v:V}(a:Jg T t x ix=some v):
  ∃v',(Instr.index t x' l).run P w=.ok v' w/\Ae p v v':=by
 unfold Jg at a;split at a
 case h_3=>cases a
 case h_1=>
  rename_i s k n q;split at a
  case h_2=>cases a
  rename_i b u;cases a;simp only[Ae]at m d;subst m d;unfold Instr.index asIntOf;have e:(bytesOf s)[n]?=some b:=by
   have A:=(zm.1 u).1;have r:=(zm.1 u).2;rw[getElem?_pos (bytesOf s) n<|by rw[BZ];exact A];congr 1
  simp only[zd,zf,AA o q,zc,zy,Int.natCast_nonneg,wm,yb,e];exact⟨_,rfl,by simp[Ae]⟩
 case h_2=>
  rename_i len e cs k n q;split at a
  case h_2=>cases a
  rename_i B r;rw[Hu]at a;by_cases g:n<len
  ·simp only[g,decide_true,we]at a;simp only[Ae]at m d;obtain⟨c,rfl,y⟩:=m;subst d;unfold Instr.index asIntOf;have f:(0:Int)<=(n:Int)/\(n:Int)<(len:Int):=⟨by simp,by simpa using g⟩;simp only[zd,zf,AA o q,zc,f,and_self,wm,Bw o r,zy,yb];exact WX o y a
  ·simp[g]at a
def Hn(x:V)(i:Nat):Option V:=
 match x with
 | .tup vs=>vs[i]?
 |_=>none
theorem Vs{x:V}{x':Value}{i:Nat}(b:Ae p x x'){v:V}(a:Hn x i=some v):∃v',(Instr.extract x' i).run P w=.ok v' w/\Ae p v v':=by
 unfold Hn at a;split at a
 case h_2=>cases a
 obtain⟨c,rfl,d⟩:=b;obtain⟨u,h1,h2⟩:=d.get a;simp_all [Instr.extract]
def JA(x:Option V)(y HN:Nat):Option Nat:=
 match x with
 |none=>some HN
 |some (.int _<|.ofNat n)=>bif zk n y then some n else none
 |_=>none
def Mx(mx:Option V)(o:Nat):Nat:=match mx with|some _=>0|none=>o
def sU(a mx:Option V):Option Nat:=match a,mx with
 |none,some _=>none
 |_,_=>JA a 0 0
def QE(mx:Option V):Bool:=match mx with
 |some _=>true
 |none=>false
def DY(T:B6)(t:TypeId)(x:V)(c a mx:Option V):Option V:=
 match T.und t,x with
 |some .string,.str s=>
  match mx,JA a s.length s.length with
  |none,some h=>match JA c h 0 with
   |some l=>some<|.str<|(s.drop l).take<|h-l
   |none=>none
  |_,_=>none
 |some (.slice e),.sl b off len cap o=>
  match T.inf e,JA mx cap cap with
  |some d,some m=>match (match a,mx with|none,some _=>none|_,_=>JA a m len)with
   |some h=>match JA c h 0 with
    |some l=>
     let o':=Mx mx o
     bif zh m l then(bif zh o' 0 then some (.sl b off (h-l) (m-l) 0)else some .esl)
     else bif zh o' 0||zh o' d.size then some (.sl b (off+l*d.size) (h-l) (m-l) o')else none
    |none=>none
   |none=>none
  |_,_=>none
 |some (.slice e),.nils=>
  match JA mx 0 0,sU a mx,T.inf e with
  |some _,some h,some _=>match JA c h 0 with
   |some _=>some .nils
   |none=>none
  |_,_,_=>none
 |some (.slice e),.esl=>
  match JA mx 0 0,sU a mx,T.inf e with
  |some _,some h,some _=>match JA c h 0 with
   |some _=>some<|bif QE mx then .es0 else .esl
   |none=>none
  |_,_,_=>none
 |some (.slice e),.es0=>
  match JA mx 0 0,sU a mx,T.inf e with
  |some _,some h,some _=>match JA c h 0 with
   |some _=>some .es0
   |none=>none
  |_,_,_=>none
 |some (.array n e),.ptr b off=>
  match T.inf e,mx,JA a n n with
  |some d,none,some h=>match JA c h 0 with
   |some l=>bif zh n l then some (.sl b off (h-l) (n-l) 0)else some<|.sl b (off+l*d.size) (h-l) (n-l) 0
   |none=>none
  |_,_,_=>none
 |_,_=>none
def HD(p:Pl):Option V->Option Value->Prop
 |none,x=>x=none
 |some d,x=>∃v,x=some v/\Ae p d v
theorem Cb{x:Option V}{x':Option Value}{y z n y':Nat}(f:HD p x x')(b:JA x y z=some n)(l:y<=y'):
  (x=none/\x'=none/\n=z)\/(∃d u,x=some d/\x'=some u/\n<=y/\∀a (P:Program) (w:World),(Instr.sliceBound u y' a).run P w=.ok n w):=by
 cases x with
 |none=>simp_all [HD,JA]
 |some d=>
  obtain⟨u,rfl,g⟩:=f;unfold JA at b;split at b
  case h_1=>grind
  case h_3=>cases b
  rename_i k m e;cases e;by_cases c:m<=y
  ·simp only[Nat.ble_eq_true_of_le c,we,ze]at b;simp only[Ae]at g;unfold Instr.sliceBound asIntOf;have o:(0:Int)<=(m:Int)/\(m:Int)<=(y':Int):=ae;simp_all
  ·have:zk m y=false:=by simp_all [Bool.eq_false_iff]
   grind
theorem IT{v r mx:Option V}{q f k:Option Value}(o:HD p v q)(a:HD p r f)(g:HD p mx k){m h l:Nat}(C:JA mx 0 0=some m)(A:sU r mx=some h)(x:JA v h 0=some l)(c:Nat):
  (zt true 0 c q f k).run P w=.ok (0,0,bif QE mx then 0 else c) w:=by
 unfold sU at A;have h0:h=0:=by
  have:JA r 0 0=some h:=by
   grind
  rcases Cb a this (zg _)with⟨_,_,rfl⟩|⟨_,_,_,_,h,_⟩<;>omega
 subst h0;unfold zt;cases mx with
 |none=>
  have b:JA r 0 0=some 0:=ah
  simp only[HD]at g;rcases Cb a b (Nat.zero_le c)with⟨_,rfl,_⟩|⟨_,u,_,rfl,_,y⟩<;>rcases Cb o x (zg _)with⟨_,rfl,_⟩|⟨_,u2,_,rfl,_,s⟩
  all_goals simp_all [QE]
 |some d=>
  cases r with
  |none=>grind
  |some B=>
   have b:JA (some B) 0 0=some 0:=ae
   rcases Cb g C (Nat.zero_le c)with⟨h,_,_⟩|⟨_,F,_,rfl,D,E⟩
   ·cases h
   ·obtain rfl:m=0:=ae
    rcases Cb a b ae with⟨h,_,_⟩|⟨_,u,_,rfl,_,y⟩
    ·cases h
    ·rcases Cb o x ae with⟨_,rfl,_⟩|⟨_,u2,_,rfl,_,s⟩
     all_goals simp_all [QE]
theorem gO(F:T.Ok P){t:TypeId}{x:V}{lo hi mx:Option V}{x':Value}{K I N:Option Value}(M:Ae p x x')(A:HD p lo K)(q:HD p hi I)(D:HD p mx N)
  {v:V} (f:DY T t x lo hi mx=some v):∃v',(zr t x' K I N).run P w=.ok v' w/\Ae p v v':=by
 unfold DY at f;split at f
 case h_7=>cases f
 case h_1=>
  rename_i s E;split at f
  case h_2=>cases f
  rename_i y g;split at f
  case h_2=>cases f
  rename_i l G;cases f;simp only[HD]at D;subst D;simp only[Ae]at M;subst M;refine⟨.string<|bytesOf<|(s.drop l).take<|y-l,?_,by rfl⟩;unfold zr;simp only[zd,AA F E,zc];unfold ym;simp only[zd,AA F E,zc,Option.isSome_none,zp,vf,BZ];unfold zt;have e:(bytesOf s).extract l y=bytesOf ((s.drop l).take<|y-l):=by
   apply ByteArray.ext;simp_all [bytesOf]
  rcases Cb q g (zg _)with⟨_,rfl,rfl⟩|⟨_,u,_,rfl,_,hu⟩<;>rcases Cb A G (zg _)with⟨_,rfl,rfl⟩|⟨_,u2,_,rfl,_,Y⟩
  all_goals simp_all
 case h_2=>
  rename_i e b off len cap o E;split at f
  case h_2=>cases f
  rename_i Z m W hm;split at f
  case h_2=>cases f
  rename_i y g;split at f
  case h_2=>cases f
  rename_i l G;simp only[Ae]at M;obtain⟨r,n,c,hp,rfl,hlen,Q,ho1,ho2⟩:=M;obtain⟨L,gm2,hhm,R,hbounds⟩:∃L,((mx=none/\L=c/\m=cap)\/(mx≠none/\L=m))/\y<=m/\l<=y/\(zt true len c K I N).run P w=.ok (l,y,L) w:=by
   have R:l<=y:=by
    rcases Cb A G (zg _)with⟨_,_,rfl⟩|⟨_,_,_,_,h,_⟩
    ·omega
    omega
   rcases Cb D hm Q with⟨rfl,rfl,rfl⟩|⟨dm,um,rfl,rfl,hm1,hum⟩
   ·have B:JA hi m len=some y:=ah
    refine⟨c,(by simp),?_,R,?_⟩
    ·rcases Cb q B Q with⟨_,_,rfl⟩|⟨_,_,_,_,h,_⟩
     ·omega
     omega
    ·unfold zt;rcases Cb q B Q with⟨_,rfl,rfl⟩|⟨_,u,_,rfl,_,hu⟩<;>rcases Cb A G (zg _)with⟨_,rfl,rfl⟩|⟨_,u2,_,rfl,_,Y⟩
     all_goals simp_all
   ·cases hi with
    |none=>grind
    |some dh=>
     have B:JA (some dh) m len=some y:=ae
     refine⟨m,(by simp),?_,R,?_⟩
     ·rcases Cb q B ae with⟨h,_⟩|⟨_,_,_,_,h,_⟩
      ·cases h
      omega
     ·unfold zt;rcases Cb q B (zg _)with⟨h,_,_⟩|⟨_,u,_,rfl,_,hu⟩
      ·cases h
      ·rcases Cb A G (zg _)with⟨_,rfl,rfl⟩|⟨_,u2,_,rfl,_,Y⟩
       all_goals simp_all
  have gm1:m<=L:=ae
  have C:(zr t (.slice (some ⟨r,off,none⟩) len c) K I N).run P w=.ok (.slice (if L=l then some ⟨r,off,none⟩else some ⟨r,off+l*Z.size,none⟩) (y-l)<|L-l) w:=by
   unfold zr;simp only[zd,AA F E,zc];unfold ym;simp only[zd,AA F E,zc,hbounds,Bw F W,zf];simp
  refine⟨_,C,?_⟩;simp only[Bn]at f;by_cases J:m=l
  ·simp only[J,decide_true,we]at f;by_cases S:Mx mx o=0
   ·simp only[S,decide_true,we,ze]at f;subst f;have hm':L=l:=by
     grind [Mx]
    simp_all [Ae]
   ·simp only[S,decide_false,wg,ze]at f;subst f;have U:y-l=0:=ae
    simp only[U,Ae];grind
  ·simp only[J,decide_false,wg]at f;by_cases S:Mx mx o=0\/Mx mx o=Z.size
   ·have X:(decide (Mx mx o=0)||decide (Mx mx o=Z.size))=true:=ah
    simp only[X,we,ze]at f;subst f;have hne:L≠l:=ae
    simp only[hne,vf,Ae];refine⟨r,n,_,hp,rfl,by omega,by omega,fun k=>?_,fun k=>?_⟩
    ·grind [Mx]
    ·rcases gm2 with⟨k1,k2,k3⟩|⟨k1,k2⟩
     ·subst k1;simp only[Mx]at k S ⊢;rcases S with S|S
      ·omega
      ·have:=ho2 k;subst k2;rw[<-S];have e:off+l*o+(L-l)*o=off+L*o:=by
        rw[Nat.sub_mul];have:l*o<=L*o:=zz _ ae;omega
       omega
     ·cases mx with
      |none=>grind
      |some d=>simp[Mx]at k
   grind
 case h_3=>
  rename_i e E;split at f
  case h_2=>cases f
  rename_i mm y tz O g U;split at f
  case h_2=>cases f
  rename_i l G;cases f;simp only[Ae]at M;subst M;refine⟨.slice none 0 0,?_,by rfl⟩;unfold zr;simp only[zd,AA F E,zc];unfold ym;simp only[zd,AA F E,zc,IT (P:=P) (w:=w) A q D O g G 0];cases mx<;>simp[QE,Bw F U]
 case h_4=>
  rename_i e E;split at f
  case h_2=>cases f
  rename_i mm y tz O g U;split at f
  case h_2=>cases f
  rename_i l G;simp only[Ae]at M;obtain⟨a,c,rfl⟩:=M;have C:∃a',(zr t (.slice (some a) 0 c) K I N).run P w=.ok (.slice (some a') 0<|bif QE mx then 0 else c) w:=by
   unfold zr;simp only[zd,AA F E,zc];unfold ym;simp only[zd,AA F E,zc,IT (P:=P) (w:=w) A q D O g G c];simp only[Bw F U,zc,zf,Nat.sub_zero,Nat.sub_self];split
   ·simp
   simp
  obtain⟨a',ha'⟩:=C;refine⟨_,ha',?_⟩;cases f;cases mx with
  |none=>simp_all [QE,Ae]
  |some d=>simp_all [QE,Ae]
 case h_5=>
  rename_i e E;split at f
  case h_2=>cases f
  rename_i mm y tz O g U;split at f
  case h_2=>cases f
  rename_i l G;cases f;simp only[Ae]at M;obtain⟨a,rfl⟩:=M;refine⟨.slice (some a) 0 0,?_,by simp_all [Ae]⟩;unfold zr;simp only[zd,AA F E,zc];unfold ym;simp only[zd,AA F E,zc,IT (P:=P) (w:=w) A q D O g G 0];cases mx<;>simp[QE,Bw F U]
 case h_6=>
  rename_i nn e b off E;split at f
  case h_2=>cases f
  rename_i Z y W g;split at f
  case h_2=>cases f
  rename_i l G;simp only[HD]at D;subst D;simp only[Ae]at M;obtain⟨r,n,hp,rfl⟩:=M;have R:l<=y:=by rcases Cb A G (zg _)with⟨_,_,rfl⟩|⟨_,_,_,_,h,_⟩<;>omega
  have hhn:y<=nn:=by rcases Cb q g (zg _)with⟨_,_,rfl⟩|⟨_,_,_,_,h,_⟩<;>omega
  have C:(zr t (.pointer<|some ⟨r,off,none⟩) K I none).run P w=.ok (.slice (some<|if nn=l then⟨r,off,none⟩else⟨r,off+l*Z.size,none⟩) (y-l)<|nn-l) w:=by
   unfold zr;simp only[zd,AA F E,zc];unfold ye zt;rcases Cb q g (zg _)with⟨_,rfl,rfl⟩|⟨_,u,_,rfl,_,hu⟩<;>rcases Cb A G (zg _)with⟨_,rfl,rfl⟩|⟨_,u2,_,rfl,_,Y⟩
   all_goals simp only[Option.isSome_none,zp,vf,zd,zf,zc,Bw F W,Addr.Nb, *]
  refine⟨_,C,?_⟩;simp only[Bn]at f;by_cases J:nn=l
  ·simp only[J,decide_true,we,ze]at f;subst f;simp_all [Ae]
  ·simp only[J,decide_false,wg,ze]at f;subst f;simp only[J,vf,Ae];grind
def i64(n:Nat):V:=.int .i64<|.ofNat n
def Gi(T:B6)(h:H)(ts:Array TypeId)(args:List V):Option V:=
 match ts[0]?,args with
 |some t,[x]=>
  match T.und t,x with
  |some .string,.str s=>some<|i64 s.length
  |some (.array n _),_=>some<|i64 n
  |some (.slice _),.sl _ _ len _ _=>some<|i64 len
  |some (.slice _),.nils=>some<|i64 0
  |some (.slice _),.esl=>some<|i64 0
  |some (.slice _),.es0=>some<|i64 0
  |some (.map _ _),.nilm=>some<|i64 0
  |some (.map _ _),.map b=>match h.get b with
   |some (.map es _)=>some<|i64 es.length
   |_=>none
  |_,_=>none
 |_,_=>none
theorem Aw.one{ds:V}{l:List Value}(a:Aw p [ds] l):∃v,l=[v]/\Ae p ds v:=by
 match l,a with
 |[v],h=>simp_all
 |[],h=>simp at h
 |_::_::_,h=>simp at h
theorem Aw.two{d e:V}{l:List Value}(a:Aw p [d,e] l):∃v u,l=[v,u]/\Ae p d v/\Ae p e u:=by
 match l,a with
 |[v,u],h=>exact⟨v,u,rfl,by simp_all⟩
 |[],h=>simp at h
 |[_],h=>simp at h
 |_::_::_::_,h=>simp at h
theorem DI.length{es:List (V×V×Nat)}{l:List MapEntry}(h:DI p es l):es.length=l.length:=by
 induction h with
 |nil=>rfl
 |cons _ _ _ _ a=>simp[a]
theorem vE(A:T.Ok P)(hr:R p h w){ts:Array TypeId}{t:TypeId}{args:List V}{args':Array Value}(g:Aw p args args'.toList){v:V}(a:Gi T h ts args=some v):
  ∃v',(Builtin.len_ ts t args').run P w=.ok v' w/\Ae p v v':=by
 unfold Gi at a;split at a
 case h_2=>cases a
 rename_i t0 x k;obtain⟨x',d,b⟩:=g.one;have c:args'[0]?=some x':=by rw[<-yf,d];rfl
 unfold Builtin.len_;simp only[k,c];split at a
 case h_9=>cases a
 all_goals (rename_i m;simp only[zd,AA A m,zc];try simp only[Ae]at b)
 case h_1=>cases a;simp_all [i64,Ae,goInt,BZ]
 case h_2=>cases a;simp_all [i64,Ae,goInt]
 case h_3=>obtain⟨_,_,_,_,rfl,_⟩:=b;cases a;simp_all [i64,Ae,goInt]
 case h_4=>cases a;simp_all [i64,Ae,goInt]
 case h_5=>obtain⟨_,_,rfl⟩:=b;cases a;simp_all [i64,Ae,goInt]
 case h_6=>obtain⟨_,rfl⟩:=b;cases a;simp_all [i64,Ae,goInt]
 case h_7=>cases a;simp_all [i64,Ae,goInt]
 case h_8=>
  obtain⟨r,n,hp,rfl⟩:=b;split at a
  case h_2=>cases a
  rename_i es C u;cases a;obtain⟨B,n',o,f,s,l,q,y⟩:=hr.obj _ _ u;rw[hp]at f;cases f;subst q;refine⟨goInt l.size,?_,?_⟩
  ·simp[getObj,yv,s]
  ·have:=y.length;simp only[i64,Ae,goInt];grind
def sT(a b:V):Option V:=
 match a,b with
 | .int k x,.int _ y=>some<|.int k<|if y>x then y else x
 |_,_=>none
def Aa9(a b:V):Option V:=
 match a,b with
 | .int k x,.int _ y=>some<|.int k<|if y<x then y else x
 |_,_=>none
def dfold(f:V->V->Option V):V->List V->Option V
 |x,[]=>some x
 |x,y::a=>match f x y with
  |some z=>dfold f z a
  |none=>none
theorem QW{f:V->V->Option V}{g:Value->Value->Sem Value}(m:∀ {a b c:V} {r b':Value},Ae p a r->Ae p b b'->f a b=some c->∃s,(g r b').run P w=.ok s w/\Ae p c s):
  ∀(o:List V) (k:List Value) (x:V) (x':Value),Ae p x x'->Aw p o k->∀ {v:V},dfold f x o=some v->∃v',(k.foldlM g x').run P w=.ok v' w/\Ae p v v'
 |[],k,x,x',q,d,v,l=>by
  cases l;simp_all
 |y::o,[],_,_,_,d,_,_=>by simp at d
 |y::o,y'::k,x,x',q,d,v,l=>by
  simp only[Bh]at d;unfold dfold at l;split at l
  case h_2=>cases l
  rename_i z u;obtain⟨B,C,A⟩:=m q d.1 u;obtain⟨v',h3,h4⟩:=QW m o k z B A d.2 l;simp_all
def GN(f:V->V->Option V)(args:List V):Option V:=
 match args with
 |[]=>none
 |x::a=>dfold f x a
theorem Abh{ts:Array TypeId}{t:TypeId}{args:List V}{args':Array Value}(d:Aw p args args'.toList){v:V}(f:GN sT args=some v):
  ∃v',(Builtin.max_ ts t args').run P w=.ok v' w/\Ae p v v':=by
 unfold GN at f;split at f
 case h_1=>cases f
 rename_i x q;unfold Builtin.max_;cases l:args'.toList with
 |nil=>simp_all
 |cons x' k=>
  rw[l]at d;simp only[Bh]at d;refine QW (fun {a b c r b'} m o g=>?_) q k x x' d.1 d.2 f;unfold sT at g;split at g
  case h_2=>cases g
  subst m o;cases g;exact⟨_,rfl,by rfl⟩
theorem AaO{ts:Array TypeId}{t:TypeId}{args:List V}{args':Array Value}(d:Aw p args args'.toList){v:V}(f:GN Aa9 args=some v):
  ∃v',(Builtin.min_ ts t args').run P w=.ok v' w/\Ae p v v':=by
 unfold GN at f;split at f
 case h_1=>cases f
 rename_i x q;unfold Builtin.min_;cases l:args'.toList with
 |nil=>simp_all
 |cons x' k=>
  rw[l]at d;simp only[Bh]at d;refine QW (fun {a b c r b'} m o g=>?_) q k x x' d.1 d.2 f;unfold Aa9 at g;split at g
  case h_2=>cases g
  subst m o;cases g;exact⟨_,rfl,by rfl⟩
def Jk(place:Nat->Option (Nat×Nat))(cells:List V):List (Nat×V)->Option (List V)
 |[]=>some cells
 |(i,v)::a=>
  match place i with
  |none=>none
  |some (off,size)=>bif zh v.cells.length size&&zk (off+size) cells.length then Jk place (HA cells off v.cells) a else none
theorem WB:∀(b:List V) (vs:List Value) (cs:List V) (c:Array Value) (off:Nat),Aw p b vs->Aw p cs c.toList->
  ∀k,Aw p (HA cs (off+k) b) ((vs.zipIdx k).foldl (fun cs (c,j)=>cs.setIfInBounds (off+j) c) c).toList
 |[],vs,cs,c,off,a,d,k=>by simp_all [HA]
 |x::b,[],_,_,_,a,_,_=>by simp at a
 |x::b,v::vs,cs,c,off,a,d,k=>by
  simp only[Bh]at a;simp only[HA,List.zipIdx_cons,List.foldl_cons];have:=WB b vs (cs.set (off+k) x) (c.setIfInBounds (off+k) v) off a.2 (by simpa using d.set (off+k) a.1)<|k+1;omega
inductive W8 (p:Pl):List (Nat×V)->List (Nat×Value)->Prop
 |nil:W8 p [] []
 |cons {i:Nat} {v:V} {v':Value} {l:List (Nat×V)} {l':List (Nat×Value)}:Ae p v v'->W8 p l l'->W8 p ((i,v)::l) ((i,v')::l')
theorem LQ{place:Nat->Option (Nat×Nat)}:∀ {l:List (Nat×V)} {l':List (Nat×Value)},W8 p l l'->∀ {cs:List V} {c:Array Value} {out:List V},Aw p cs c.toList->Jk place cs l=some out->
  ∃o,Instr.fill place c l'=some o/\Aw p out o.toList:=by
 intro l l' f;induction f with
 |nil=>intro cs c out d b;cases b;exact⟨c,rfl,d⟩
 |@cons i v v' l l' g f r=>
  intro cs c out d b;unfold Jk at b;split at b
  case h_1=>cases b
  rename_i off size m;cases a:(zh v.cells.length size&&zk (off+size) cs.length)with
  |false=>grind
  |true=>
   simp only[zn,z8,Bn,w5]at a;have q:=g.cells.length;have k:=d.length;unfold Instr.fill;have:=WB (p:=p) v.cells v'.cells.toList cs c off g.cells d 0;grind [Array.toList_zipIdx]
def KX(T:B6)(t:TypeId)(a:List (Nat×V)):Option V:=
 match T.inf t,T.und t with
 |some i,some (.struct fs)=>
  match fs.toList.mapM (fun f=>(T.inf f.type).map fun j=>(f.offset,j.size))with
  |some pl=>(Jk (fun i=>pl[i]?) i.zero a).map .agg
  |none=>none
 |some i,some (.array _ e)=>match T.inf e with
  |some j=>(Jk (fun i=>some (i*j.size,j.size)) i.zero a).map .agg
  |none=>none
 |_,_=>none
theorem run_places(a:T.Ok P):∀ {fs:List Field} {pl:List (Nat×Nat)},fs.mapM (fun f=>(T.inf f.type).map fun j=>(f.offset,j.size))=some pl->
  ∀w,(fs.mapM<|fun f=>(do pure (f.offset, <-sizeOf f.type):Sem (Nat×Nat))).run P w=.ok pl w
 |[],pl,h,w=>by simp_all
 |f::fs,pl,h,w=>by
  cases c:T.inf f.type with
  |none=>grind
  |some j=>
   cases b:fs.mapM (fun f=>(T.inf f.type).map fun j=>(f.offset,j.size))with
   |none=>grind
   |some d=>
    simp[c,b]at h;subst h;rw[List.mapM_cons];simp only[zd,Bw a c,zc,zf,run_places a b]
theorem fS(d:T.Ok P){t:TypeId}{c:List (Nat×V)}{a:Array (Nat×Value)}(hp:W8 p c a.toList){v:V}(b:KX T t c=some v):
  ∃v',(Instr.build t a).run P w=.ok v' w/\Ae p v v':=by
 unfold KX at b;split at b
 case h_3=>cases b
 case h_1=>
  rename_i i fs l g;split at b
  case h_2=>cases b
  rename_i pl k;rw[zi]at b;obtain⟨out,r,rfl⟩:=b;obtain⟨z,hz,hzr⟩:=Er d l;have m:(fs.mapM<|fun f=>(do pure (f.offset, <-sizeOf f.type):Sem (Nat×Nat))).run P w=.ok pl.toArray w:=by
   rw[Array.mapM_eq_mapM_toList];simp only[Sem.run_map,run_places d k,zc]
  obtain⟨o,q,u⟩:=LQ (p:=p) (place:=fun i=>pl.toArray[i]?) hp (hzr p) (out:=out) ah;refine⟨.agg o,?_,by simp_all [Ae]⟩;unfold Instr.build;simp only[zd,hz,zc,AA d g];simp_all
 case h_2=>
  rename_i i n e l g;split at b
  case h_2=>cases b
  rename_i j s;rw[zi]at b;obtain⟨out,r,rfl⟩:=b;obtain⟨z,hz,hzr⟩:=Er d l;obtain⟨o,q,u⟩:=LQ (p:=p) (place:=fun i=>some (i*j.size,j.size)) hp (hzr p) r;refine⟨.agg o,?_,by simp_all [Ae]⟩;unfold Instr.build;simp only[zd,hz,zc,AA d g,Bw d s,q,zf]
def FA(z:List V)(n:Nat):List V:=(List.range n).map fun i=>z.getD (i % z.length)<|.tup []
theorem JB{z:List V}{c:Array Value}(b:Aw p z c.toList)(a:0<z.length)(n:Nat):Aw p (FA z n) ((Array.range n).map<|fun i=>c[i % c.size]!).toList:=by
 have l:=b.length;apply Aw.mk (by simp[FA]);intro i d v f o;have k:i<n:=ah
 simp only[FA,List.getElem?_map,List.getElem?_range k,Option.map_some,ze]at f;have g:i % z.length<z.length:=Nat.mod_lt _ a;obtain⟨u,m,q⟩:=b.get (i:=i % z.length) (d:=z[i % z.length]) (by simp[g]);grind
def EV(T:B6)(h:H)(t:TypeId)(len:Nat)(a:List (Nat×V)):Option (V×H):=
 match T.und t with
 |some (.slice e)=>match T.inf e with
  |some i=>
   bif zk (len*i.size) 16777216&&z7 0 (i.zero.length)&&zh i.zero.length i.size then
    match Jk (fun k=>some (k*i.size,i.size)) (FA i.zero<|len*i.size) a with
    |some cs=>some (.sl h.nx 0 len len 0,II h e cs)
    |none=>none
   else none
  |none=>none
 |_=>none
theorem Xp(g:T.Ok P)(hr:R p h w){t:TypeId}{len:Nat}{c:List (Nat×V)}{b:Array (Nat×Value)}(hp:W8 p c b.toList){v:V}{h':H}
  (d:EV T h t len c=some (v,h')):∃v' p' w',(Instr.buildSlice t len b).run P w=.ok v' w'/\Ae p' v v'/\Ext p h w p' h' w':=by
 unfold EV at d;split at d
 case h_2=>cases d
 rename_i e r;split at d
 case h_2=>cases d
 rename_i i m;cases a:(zk (len*i.size) 16777216&&z7 0 (i.zero.length)&&zh i.zero.length i.size)with
 |false=>grind
 |true=>
  simp only[a,we]at d;simp only[zn,z8,Nat.blt_eq,Bn,w5]at a;obtain⟨⟨u,q⟩,x⟩:=a;split at d
  case h_2=>cases d
  rename_i cs f;cases d;obtain⟨z,s,l⟩:=Er g m;obtain⟨o,h1,h2⟩:=LQ (p:=p) (place:=fun k=>some (k*i.size,i.size)) hp (JB (l p) q<|len*i.size) f;obtain⟨n,he,hpn,hn⟩:=Ol hr e h2;refine⟨.slice (some ⟨w.heap.size,0,none⟩) len len,_,_,?_,?_,he⟩
  ·unfold Instr.buildSlice;simp only[zd,AA g r,zc,Bw g m];by_cases h0:len*i.size=0
   ·grind [zd,zf,zc,CI]
   simp_all [CI]
  simp_all [Ae]
def Pb(T:B6)(h:H)(t:TypeId)(len cap:V):Option (V×H):=
 match T.und t,len,cap with
 |some (.slice e),.int _<|.ofNat l,.int _ (.ofNat c)=>
  match T.inf e with
  |some i=>
   bif zk l c&&z7 c 9223372036854775808&&zk (i.bytes*c) 281474976710656&&z7 0 i.zero.length&&zh i.zero.length i.size then
    some (.sl h.nx 0 l c 0,II h e<|FA i.zero<|c*i.size)
   else none
  |none=>none
 |_,_,_=>none
theorem wrap_small(c:Nat)(h:c<9223372036854775808):IntKind.i64.wrap (c:Int)=c:=IntWalk.i64_in _ ae
theorem nR(g:T.Ok P)(hr:R p h w){t:TypeId}{len cap:V}{d b:Value}(r:Ae p len d)(s:Ae p cap b){v:V}{h':H}(f:Pb T h t len cap=some (v,h')):
  ∃v' p' w',(Instr.makeSlice t d b).run P w=.ok v' w'/\Ae p' v v'/\Ext p h w p' h' w':=by
 unfold Pb at f;split at f
 case h_2=>cases f
 rename_i e k l y c u;split at f
 case h_2=>cases f
 rename_i i m;cases a:(zk l c&&z7 c 9223372036854775808&&zk (i.bytes*c) 281474976710656&&z7 0 i.zero.length&&zh i.zero.length i.size)with
 |false=>grind
 |true=>
  simp only[a,we,ze,zw]at f;obtain⟨rfl,rfl⟩:=f;simp only[zn,z8,Nat.blt_eq,Bn,w5]at a;obtain⟨⟨⟨⟨c1,c2⟩,c3⟩,c4⟩,c5⟩:=a;subst r s;obtain⟨z,hz,hzr⟩:=Er g m;obtain⟨j,hj,hjb,_⟩:=QT g m;obtain⟨n,he,hpn,hn⟩:=Ol hr e<|JB (hzr p) c4<|c*i.size;refine⟨.slice (some ⟨w.heap.size,0,none⟩) l c,_,_,?_,?_,he⟩
  ·unfold Instr.makeSlice asInt asIntOf;simp only[zd,zf,AA g u,zc,hj,zy,wrap_small c c2,wrap_small l ae,hjb];have o:(i.bytes:Int)*(c:Int)=((i.bytes*c:Nat):Int):=(by rfl);rw[o];generalize i.bytes*c=q at c3 o ⊢;have x:¬((decide ((c:Int)<0)||decide ((q:Int)>2^48))||decide ((l:Int)<0)||decide ((l:Int)>(c:Int)))=true:=by
    grind
   rw[wc x];simp only[zd,zc,run_askRoom,Bw g m,yb];by_cases h0:c*i.size=0
   ·grind [zd,zf,zc,CI]
   simp_all [CI]
  simp_all [Ae]
def src(h:H)(size:Nat)(x:V)(n:Nat):Option (List V):=
 match x with
 | .nils=>some []
 | .esl=>bif zh n 0 then some []else none
 | .es0=>bif zh n 0 then some []else none
 | .sl b off _ _ _=>rd h b off<|n*size
 | .str s=>some<|(s.take n).map fun c=>.int .u8 c.toNat
 |_=>none
def QU:V->Option Nat
 | .nils=>some 0
 | .esl=>some 0
 | .es0=>some 0
 | .sl _ _ len _ _=>some len
 | .str s=>some s.length
 |_=>none
theorem Pj{x:V}{x':Value}(b:Ae p x x'){n:Nat}(a:QU x=some n):(yi x').run P w=.ok n w:=by
 unfold QU at a;split at a
 case h_1=>subst b;cases a;rfl
 case h_2=>obtain⟨_,_,rfl⟩:=b;cases a;rfl
 case h_3=>obtain⟨_,rfl⟩:=b;cases a;rfl
 case h_4=>obtain⟨_,_,_,_,rfl,_⟩:=b;cases a;rfl
 case h_5=>simp_all [Ae,yi,BZ]
 grind
theorem Ml(hr:R p h w){size n:Nat}{x:V}{x':Value}(d:Ae p x x'){cs:List V}(b:src h size x n=some cs):
  ∃vs:List Value,(zl size n x').run P w=.ok vs.toArray w/\Aw p cs vs:=by
 unfold src at b;split at b
 case h_6=>cases b
 case h_1=>subst d;cases b;exact⟨[],rfl,by simp⟩
 case h_2=>
  obtain⟨a,c,rfl⟩:=d;rw[Bn]at b;by_cases e:n=0
  ·simp_all [zl,loadCells,loadCellsFrom]
  grind
 case h_3=>
  obtain⟨a,rfl⟩:=d;rw[Bn]at b;by_cases e:n=0
  ·simp_all [zl,loadCells,loadCellsFrom]
  grind
 case h_4=>
  obtain⟨r,m,c,hp,rfl,_⟩:=d;obtain⟨r',m',vs,h1,h2,h3,_⟩:=run_loadCells (P:=P) hr b;rw[hp]at h1;cases h1;exact⟨vs,h2,h3⟩
 case h_5=>
  rename_i s;simp only[Ae]at d;refine⟨(s.take n).map fun c=>.int .u8 c.toNat,?_,?_⟩
  ·simp_all [zl,bytesOf]
  grind [Aw.mk,Ae]
theorem YF(a c:Nat)(h:c<a):2*z6 a c<=3*a+2000:=by
 unfold z6;grind [Builtin.growBy]
def isInt:TypeDesc->Bool
 | .int _=>true
 |_=>false
def PS:V->Bool
 | .str _=>false
 |_=>true
def GX(T:B6)(h:H)(ts:Array TypeId)(args:List V):Option (V×H):=
 match ts[0]?,ts[1]?,args with
 |some t,some tx,[s,x]=>
  match T.und t,T.und tx,QU x with
  |some (.slice e),some dx,some n=>
   match T.inf e,isInt dx with
   |some i,false=>
    bif z7 0 i.bytes&&z7 0 i.size&&zh i.zero.length i.size&&(zh i.size 1||PS x)then
     match src h i.size x n with
     |some new=>
      match s with
      | .nils=>
       bif zh n 0 then some (.nils,h)
       else bif zk ((3*n+2000)*i.bytes) 562949953421312 then some (.sl h.nx 0 n n i.size,II h e new)else none
      | .es0=>
       bif zh n 0 then some (.es0,h)
       else bif zk ((3*n+2000)*i.bytes) 562949953421312 then some (.sl h.nx 0 n n i.size,II h e new)else none
      | .esl=>bif zh n 0 then some (.esl,h)else none
      | .sl b off len cap o=>
       bif zk (len+n) cap then(wr h b (off+len*i.size) new).map fun h'=>(.sl b off (len+n) cap o,h')
       else bif zk ((3*(len+n)+2000)*i.bytes) 562949953421312 then
        match src h i.size s len with
        |some old=>
         bif zh o 0 then some (.sl h.nx 0 (len+n) (len+n) i.size,II h e<|old++new)
         else
          match h.get b with
          |some (.cells _ te fz)=>
           bif zh off 0&&zh o i.size&&zh te e&&zk fz.2 fz.1&&new.all V.one then some (.sl h.nx 0 (len+n) (len+n) i.size,(h.kill b).push<|.cells (old++new) e (0,0))
           else none
          |_=>none
        |none=>none
       else none
      |_=>none
     |none=>none
    else none
   |_,_=>none
  |_,_,_=>none
 |_,_,_=>none
theorem Sf{old new:List V}{vo vn:List Value}(b:Aw p old vo)(c:Aw p new vn)(a:Array Value):
  Aw p (old++new) ((vo.toArray++vn.toArray++a).toList.take (old++new).length):=by
 have l1:=b.length;have d:=c.length;have:((vo.toArray++vn.toArray++a).toList.take (old++new).length)=vo++vn:=by
  grind
 rw[this];exact b.append c
section
variable {ts:Array TypeId}{t t0 tx e:TypeId}{dx:TypeDesc}{i:TI}{n:Nat}{x' z:Value}{j:TypeInfo}
theorem Pc(l:T.Ok P)(g:ts[0]?=some t0)(m:ts[1]?=some tx)(q:T.und t0=some (.slice e))(f:T.und tx=some dx)(o:isInt dx=false)
  (s:T.inf e=some i) (r:∀w,(yi x').run P w=.ok n w) (base:Option Addr) (d c:Nat) (k:d+n<=c):
  (zu ts t #[.slice base d c,x']).run P w=((zl i.size n x').run P w).andThen fun new w'=>((match base with|some a=>storeCells (a.add<|d*i.size) new.toList|none=>pure ():Sem Unit).run P w').andThen fun _ w'=>.ok (.slice base (d+n) c) w':=by
 unfold zu;cases dx<;>first|(cases o;done)|skip
 all_goals
  simp only[g,m,yg,yc,yd,zd,AA l q,AA l f,Bw l s,zc,zf,zp,vf,r,k,wm,Bool.not_false];cases base with
  |none=>rfl
  |some b=>simp only[zd,zf]
theorem Sd(f:T.Ok P)(k:ts[0]?=some t0)(o:ts[1]?=some tx)(B:T.und t0=some (.slice e))(g:T.und tx=some dx)(q:isInt dx=false)
  (v:T.inf e=some i) (u:0<i.bytes) (x:∀w,(zeroValue e).run P w=.ok z w) (G:∀w,(yi x').run P w=.ok n w) (base:Option Addr) (a c:Nat) (r:c<a+n)
  (d:(3*(a+n)+2000)*i.bytes<=562949953421312):
  ∃m,a+n<=m/\(zu ts t #[.slice base a c,x']).run P w=((zl i.size a<|.slice base a c).run P { w with drawn:=w.drawn+1 }).andThen fun old w'=>
   ((zl i.size n x').run P w').andThen fun new w'=>
    .ok (.slice (some ⟨w'.heap.size,0,none⟩) (a+n) m) { w' with heap:=w'.heap.push (.cells (old++new++zo z.cells (m-(a+n))) e) }:=by
 obtain⟨j,D,l,A⟩:=QT f v;have s:=YF (a+n) c r;have b:2*z6 (a+n) c*i.bytes<=562949953421312:=yq (zz _ s) d;rw[Nat.mul_assoc]at b;have E:z6 (a+n) c*i.bytes<=281474976710656:=ae
 refine⟨(Question.appendCap (a+n) c e).cut<|w.tape w.drawn<|.appendCap (a+n) c e,by simp[Question.cut],?_⟩;unfold zu;have y:¬(a+n<=c):=ae
 have F:¬(z6 (a+n) c*i.bytes>2^48):=ae
 have C:¬(i.bytes=0):=ae
 cases dx<;>first|(cases q;done)|skip
 all_goals
  simp only[k,o,yg,yc,yd,zd,AA f B,AA f g,Bw f v,zc,zf,zp,vf,G,Bool.not_false,wm,
   y,D,l,C,or_self,and_false,F,run_choose,Question.forced,run_askRoom,x,CI]
end
theorem IQ(z:Array Value)(n:Nat):(zo z n).size=n*z.size:=by simp[zo]
theorem O4{size n:Nat}{x:V}{cs:List V}(b:QU x=some n)(c:size=1\/∀s,x≠ .str s)(a:src h size x n=some cs):cs.length=n*size:=by
 unfold src at a;split at a
 case h_6=>cases a
 case h_1=>cases a;cases b;simp
 case h_2=>
  cases b;grind
 case h_3=>
  cases b;grind
 case h_4=>
  rw[ZG]at a;grind [rd0]
 case h_5=>
  cases b;grind
theorem X0(hT:T.Ok P)(hr:R p h w){ts:Array TypeId}{t:TypeId}{args:List V}{args':Array Value}(ha:Aw p args args'.toList){v:V}{h':H}(a:GX T h ts args=some (v,h')):
  ∃v' p' w',(zu ts t args').run P w=.ok v' w'/\Ae p' v v'/\Ext p h w p' h' w':=by
 unfold GX at a;split at a
 case h_2=>cases a
 rename_i t0 tx s x L D;obtain⟨s',x',G,S,hx⟩:=ha.two;have ha0:args'[0]?=some s':=by rw[<-yf,G];rfl
 have ha1:args'[1]?=some x':=by rw[<-yf,G];rfl
 split at a
 case h_2=>cases a
 rename_i e dx n hu E I;split at a
 case h_2=>cases a
 rename_i i hi M;cases y:(z7 0 i.bytes&&z7 0 i.size&&zh i.zero.length i.size&&(zh i.size 1||PS x))with
 |false=>grind
 |true=>
  simp only[y,we]at a;simp only[zn,Nat.blt_eq,Bn,w5,yu]at y;obtain⟨⟨⟨c1,c2⟩,c3⟩,c4⟩:=y;have c5:i.size=1\/∀s,x≠ .str s:=c4.imp id (fun h s e=>by subst e;cases h);split at a
  case h_2=>cases a
  rename_i new A;have hnl:=O4 I c5 A;obtain⟨vn,Y,B⟩:=Ml (P:=P) hr hx A;obtain⟨j,hj,hjb,hjs⟩:=QT hT hi;obtain⟨z,hz,hzr⟩:=Er hT hi;have hzl:=(hzr p).length;simp at hzl;have hne:args'= #[s',x']:=ah
  subst hne;have g:∀w,(yi x').run P w=.ok n w:=fun w=>Pj hx I
  have J:∀(base:Option Addr) (c:Nat),n=0->(zu ts t #[.slice base 0 c,x']).run P w=.ok (.slice base 0 c) w:=by
   intro base c h0;rw[Pc hT L D hu E M hi g base 0 c ae,Y];have hv0:vn=[]:=by
    simp_all
   subst hv0;cases base<;>simp[h0,storeCells]
  have some0:∀(base:Option Addr),¬n=0->(3*n+2000)*i.bytes<=562949953421312->∃v' p' w',(zu ts t #[.slice base 0 0,x']).run P w=.ok v' w'/\Ae p' (.sl h.nx 0 n n i.size) v'/\Ext p h w p' (II h e new) w':=by
   intro base h0 hb;obtain⟨l,hnc,K⟩:=Sd (w:=w) (t:=t) hT L D hu E M hi c1 hz g base 0 0 ae ah;simp only[Nat.zero_add]at K hnc;have f:=Ext.drew hr<|w.drawn+1;obtain⟨vn',hvn',hvnr'⟩:=Ml (P:=P) f.rel hx A;have F:=Ext.push (n:=l*i.size) f.rel (o:=.cells new e (0,0)) (x:=.cells (#[]++vn'.toArray++zo z.cells (l-n)) e) ?_
   ·refine⟨.slice (some ⟨w.heap.size,0,none⟩) n l,_,_,?_,?_,f.trans F⟩
    ·rw[K];have hf:∀w,(zl i.size 0<|Value.slice base 0 0).run P w=.ok #[] w:=by
      intro w;cases base<;>simp[zl,loadCells,loadCellsFrom]
     grind [zc]
    ·simp only[Ae];refine⟨w.heap.size,l*i.size,l,by rw[<-hr.len];simp,rfl,zg _,by omega,ae,ae⟩
   ·have hl:=hvnr'.length;have hsz:(#[]++vn'.toArray++zo z.cells (l-n)).size=l*i.size:=by
     simp_all [IQ,Nat.sub_mul,zz]
    refine⟨_,(0,0),rfl,hsz,?_,?_,ae⟩
    ·grind
    ·have:=Sf (p:=p) (old:=[]) (vo:=[]) (by simp) hvnr'<|zo z.cells<|l-n;simpa using this.toC
  split at a
  case h_5=>cases a
  case h_1=>
   simp only[Ae]at S;subst S;rw[Bn]at a;by_cases h0:n=0
   ·simp only[h0,decide_true,we,ze,zw]at a;obtain⟨rfl,rfl⟩:=a;exact⟨.slice none 0 0,p,w,ah,by rfl,Ext.refl hr⟩
   ·simp only[h0,decide_false,wg]at a;cases hb:zk ((3*n+2000)*i.bytes) 562949953421312 with
    |false=>grind
    |true=>
     simp_all
  case h_2=>
   simp only[Ae]at S;obtain⟨a0,rfl⟩:=S;rw[Bn]at a;by_cases h0:n=0
   ·simp only[h0,decide_true,we,ze,zw]at a;obtain⟨rfl,rfl⟩:=a;exact⟨_,p,w,J (some a0) 0 h0,by simp[Ae],Ext.refl hr⟩
   ·simp only[h0,decide_false,wg]at a;cases hb:zk ((3*n+2000)*i.bytes) 562949953421312 with
    |false=>grind
    |true=>
     simp_all
  case h_3=>
   simp only[Ae]at S;obtain⟨a0,c0,rfl⟩:=S;rw[Bn]at a;by_cases h0:n=0
   ·simp only[h0,decide_true,we,ze,zw]at a;obtain⟨rfl,rfl⟩:=a;exact⟨_,p,w,J (some a0) c0 h0,by simp[Ae],Ext.refl hr⟩
   grind
  case h_4=>
   rename_i b off len cap o;simp only[Ae]at S;obtain⟨r,m,c,hp,rfl,hlen,hcap,ho1,ho2⟩:=S;cases W:zk (len+n) cap with
   |true=>
    simp only[W,we,zi,zw]at a;obtain⟨h1,hw,rfl,rfl⟩:=a;rw[z8]at W;obtain⟨r',m',w',g1,g2,g3⟩:=Uj (P:=P) hr B hw;rw[hp]at g1;cases g1;refine⟨.slice (some ⟨r,off,none⟩) (len+n) c,p,w',?_,?_,g3⟩
    ·rw[Pc hT L D hu E M hi g _ len c ae,Y];simp_all
    ·simp only[Ae];grind
   |false=>
    simp only[W,wg]at a;have hle':¬(len+n<=cap):=by grind [z8]
    cases hb:zk ((3*(len+n)+2000)*i.bytes) 562949953421312 with
    |false=>grind
    |true=>
     simp only[hb,we]at a;rw[z8]at hb;split at a
     case h_2=>cases a
     rename_i old C;have hol:=O4 (x:=.sl b off len cap o) (n:=len) rfl (by simp) C;have Z:∀q:Pl,(∃q',q=p++q')->Ae q (.sl b off len cap o) (.slice (some ⟨r,off,none⟩) len c):=by
      rintro q ⟨q',rfl⟩;exact Ae.mono q' (by simp_all)
     have fresh:∀(_:c<len+n) (h2:H),R p h2 { w with drawn:=w.drawn+1 }->h2.nx=h.nx->
       ∃v' p' w',(zu ts t #[.slice (some ⟨r,off,none⟩) len c,x']).run P w=.ok v' w'/\Ae p' (.sl h.nx 0 (len+n) (len+n) i.size) v'/\
        Ext p h2 { w with drawn:=w.drawn+1 } p' (h2.push<|.cells (old++new) e (0,0)) w':=by
      intro hlt h2 hr2 hnx;obtain⟨l,hnc,K⟩:=Sd (w:=w) (t:=t) hT L D hu E M hi c1 hz g (some ⟨r,off,none⟩) len c hlt hb;have f:=Ext.drew hr<|w.drawn+1;obtain⟨vn',hvn',hvnr'⟩:=Ml (P:=P) f.rel hx A;obtain⟨vo',hvo',hvor'⟩:=Ml (P:=P) (x:=.sl b off len cap o) f.rel (Z p<|by simp) C;have hl:=hvnr'.length;have hl2:=hvor'.length;have hsz:(vo'.toArray++vn'.toArray++zo z.cells (l-(len+n))).size=l*i.size:=by
       have e1:vn'.length=n*i.size:=ae
       have e2:vo'.length=len*i.size:=ae
       simp only[Array.size_append,IQ,List.size_toArray,e1,e2, <-hzl,c3,Nat.sub_mul,Nat.add_mul];have:(len+n)*i.size<=l*i.size:=zz _ ae;grind
      have F:=Ext.push (n:=l*i.size) hr2 (o:=.cells (old++new) e (0,0)) (x:=.cells (vo'.toArray++vn'.toArray++zo z.cells (l-(len+n))) e)
       ⟨_,(0,0),rfl,hsz,by grind,(Sf hvor' hvnr' _).toC,ae⟩
      refine⟨.slice (some ⟨w.heap.size,0,none⟩) (len+n) l,_,_,?_,?_,F⟩
      ·grind [zc]
      ·simp only[Ae];refine⟨w.heap.size,l*i.size,l,?_,rfl,zg _,by omega,ae,ae⟩;rw[<-hnx, <-hr2.len];simp
     rw[Bn]at a;by_cases h0:o=0
     ·simp only[h0,decide_true,we,ze,zw]at a;obtain⟨rfl,rfl⟩:=a;have:=ho1 h0;have f:=Ext.drew hr<|w.drawn+1;obtain⟨v',p',w',k1,k2,k3⟩:=fresh ae h f.rel rfl;exact⟨v',p',w',k1,k2,f.trans k3⟩
     ·simp only[h0,decide_false,wg]at a;split at a
      case h_2=>cases a
      rename_i cs te fz hbk;cases X:(zh off 0&&zh o i.size&&zh te e&&zk fz.2 fz.1&&new.all V.one)with
      |false=>grind
      |true=>
       simp only[X,we,ze,zw]at a;obtain⟨rfl,rfl⟩:=a;simp only[zn,z8,Bn,w5,List.all_eq_true]at X;obtain⟨⟨⟨⟨rfl,rfl⟩,rfl⟩,d4⟩,d5⟩:=X;by_cases Q:len+n<=c
       ·
        obtain⟨r',m',cc,fz',g1,g2,g3,g4,g5,g6,g7⟩:=cell_of hr hbk;rw[hp]at g1;cases g1;have hm:=ho2 h0;have hl:=B.length;have hone:∀v∈vn,v.oneCell'=true:=by
         intro v hv;obtain⟨k,U⟩:=List.mem_iff_getElem?.1 hv;have hk':=(zm.1 U).1;obtain⟨u,O,hu2⟩:=B.get (i:=k) (d:=new[k]'ae) (by simp);rw[U]at O;cases O;exact hu2.one ah
        have hbnd:len*i.size+n*i.size<=c*i.size:=by rw[<-Nat.add_mul];simp_all [zz]
        obtain⟨cc',k1,k2,k3⟩:=Gq (P:=P) vn w cc (len*i.size) 0 g2 ae hone (by
         grind)
        have hrd:old=cs.take (len*i.size)/\len*i.size<=cs.length:=by
         unfold src at C;simp_all [ZG,rd0]
        refine⟨.slice (some ⟨r,0,none⟩) (len+n) c,p++[(r,m)],{ w with heap:=w.heap.setIfInBounds r (.cells cc' te fz') },?_,?_,Ext.move hr (o':=.cells (old++new) te (0,0)) hbk hp ⟨cc',fz',rfl,by omega,?_,?_,?_⟩ rfl rfl rfl rfl (fun _ _ _ e1 hlk=>by cases e1;obtain⟨l1,_,l3⟩:=hlk;omega)⟩
        ·rw[Pc hT L D hu E M hi g _ len c Q,Y];simp_all
        ·simp only[Ae];exact⟨r,m,c,by rw[<-hr.len];simp,rfl,zg _,Q,ae,fun _=>hm⟩
        ·grind
        ·refine⟨?_,?_⟩
         ·grind
         ·intro k d v N hvk hokk;have hkl:k<(old++new).length:=ah;rw[zq hkl,k3]at hvk;rw[List.length_append,hol,hnl]at hkl;simp only[Nat.add_zero,List.getElem?_map]at hvk;rw[List.getElem?_range ae]at hvk;by_cases U:k<len*i.size
          ·rw[List.getElem?_append_left ae,hrd.1,zq U]at N;obtain⟨u,O,hu2⟩:=g5.get N hokk;grind
          ·rw[List.getElem?_append_right ae,hol]at N;obtain⟨u,O,hu2⟩:=B.get N;grind
        grind
       ·have U:=Ext.kill hr b;have f:=Ext.drew U.rel<|w.drawn+1;obtain⟨v',p',w',k1,k2,k3⟩:=fresh ae (h.kill b) f.rel rfl;exact⟨v',p',w',k1,k2,(U.trans f).trans k3⟩
def uN(T:B6)(h:H)(ts:Array TypeId)(args:List V):Option (V×H):=
 match ts[0]?,args with
 |some t,[d,x]=>
  match T.und t,QU d,QU x with
  |some (.slice e),some a,some n=>
   match T.inf e with
   |some i=>
    match src h i.size x (Nat.min n a)with
    |some new=>
     match d with
     | .nils=>some (i64<|Nat.min n a,h)
     | .sl b off _ _ _=>(wr h b off new).map fun h'=>(i64<|Nat.min n a,h')
     |_=>none
    |none=>none
   |none=>none
  |_,_,_=>none
 |_,_=>none
theorem oN(y:T.Ok P)(hr:R p h w){ts:Array TypeId}{t:TypeId}{args:List V}{args':Array Value}(C:Aw p args args'.toList){v:V}{h':H}(a:uN T h ts args=some (v,h')):
  ∃v' p' w',(Builtin.copy_ ts t args').run P w=.ok v' w'/\Ae p' v v'/\Ext p h w p' h' w':=by
 unfold uN at a;split at a
 case h_2=>cases a
 rename_i t0 d x s;obtain⟨E,x',q,g,u⟩:=C.two;have o:args'= #[E,x']:=ah
 subst o;split at a
 case h_2=>cases a
 rename_i e F n D b A;split at a
 case h_2=>cases a
 rename_i i B;split at a
 case h_2=>cases a
 rename_i new l;obtain⟨vn,k,f⟩:=Ml (P:=P) hr u l;unfold Builtin.copy_;simp only[s,yg,yc,yd,zd,AA y D,zc];split at a
 case h_3=>cases a
 case h_1=>
  subst g;simp only[QU,ze]at b;subst b;cases a;simp only[zd,Pj u A,Bw y B,zc,k];refine⟨_,p,w,(by rfl),?_,Ext.refl hr⟩;rfl
 case h_2=>
  simp only[QU,ze]at b;subst b;obtain⟨r,m,c,hp,rfl,_⟩:=g;rw[zi]at a;obtain⟨h1,hw,he⟩:=a;cases he;obtain⟨r',m',w',g1,g2,g3⟩:=Uj (P:=P) hr f hw;rw[hp]at g1;cases g1;simp only[zd,Pj u A,Bw y B,zc,k,g2];refine⟨_,p,w',(by rfl),?_,g3⟩;rfl
def TX(T:B6)(h:H)(t:TypeId)(x:V):Option (V×H):=
 match T.und t,x with
 |some .string,.str s=>some (.ptr h.nx 0,h.push<|.siter s 0)
 |_,_=>none
theorem fJ(b:T.Ok P)(hr:R p h w){t:TypeId}{x:V}{x':Value}(c:Ae p x x'){v:V}{h':H}(a:TX T h t x=some (v,h')):
  ∃v' p' w',(Instr.range t x').run P w=.ok v' w'/\Ae p' v v'/\Ext p h w p' h' w':=by
 unfold TX at a;split at a
 case h_2=>cases a
 rename_i s f;cases a;subst c;have d:=Ext.push (n:=0) hr (o:=.siter s 0) (x:=.stringIter (bytesOf s) 0) rfl;refine⟨.pointer<|some ⟨w.heap.size,0,none⟩,_,_,?_,?_,d⟩
 ·unfold Instr.range;simp only[zd,AA b f,zc,zf,run_newObj]
 ·exact⟨w.heap.size,0,by rw[<-hr.len];simp,rfl⟩
def NF(h:H)(c:V)(a:Bool):Option (V×H):=
 match c,a with
 | .ptr b 0,true=>
  match h.get b with
  |some (.siter s pos)=>
   bif z7 pos s.length then
    some (.tup [.bool true,i64 pos,.int .i32 (Utf8.decode (bytesOf s) pos).1],h.put b<|.siter s<|pos+(Utf8.decode (bytesOf s) pos).2)
   else some (.tup [.bool false],h)
  |_=>none
 |_,_=>none
theorem lY(hr:R p h w){g:V}{d:Value}{a:Bool}{t:TypeId}(m:Ae p g d){v:V}{h':H}(b:NF h g a=some (v,h')):
  ∃v' p' w',(Instr.next d a t).run P w=.ok v' w'/\Ae p' v v'/\Ext p h w p' h' w':=by
 unfold NF at b;split at b
 case h_2=>cases b
 obtain⟨r,n,hp,rfl⟩:=m;split at b
 case h_2=>cases b
 rename_i s pos l;obtain⟨q,n',x,f,k,o⟩:=hr.obj _ _ l;rw[hp]at f;cases f;subst o;rw[Hu]at b;unfold Instr.next;simp only[zd,getObj,yv,k,zc,BZ];by_cases c:pos<s.length
 ·simp only[c,decide_true,we,ze,zw]at b;obtain⟨rfl,rfl⟩:=b;simp only[c,wm,zd,setObj,yv,k,zc];refine⟨_,p,_,zf ..,?_,Ext.put hr l hp (o':=.siter s<|pos+(Utf8.decode (bytesOf s) pos).2) rfl rfl rfl rfl rfl⟩;simp[Ae,i64,goInt]
 ·simp only[c,decide_false,wg,ze,zw]at b;obtain⟨rfl,rfl⟩:=b;simp only[c,vf];exact⟨_,p,w,(by rfl),by simp[Ae],Ext.refl hr⟩
def IP(h:H)(r:Option V):Option (V×H):=
 match r with
 |none=>some (.map h.nx,h.push<|.map [] 0)
 |some _=>none
theorem VG(hr:R p h w){t:TypeId}{r:Option V}{b:Option Value}(c:HD p r b){v:V}{h':H}(a:IP h r=some (v,h')):
  ∃v' p' w',(Instr.makeMap t b).run P w=.ok v' w'/\Ae p' v v'/\Ext p h w p' h' w':=by
 unfold IP at a;split at a
 case h_2=>cases a
 cases a;subst c;have d:=Ext.push (n:=0) hr (o:=.map [] 0) (x:=.map #[] 0) ⟨#[],rfl,.nil⟩;refine⟨.map<|some w.heap.size,_,_,?_,?_,d⟩
 ·rfl
 ·exact⟨w.heap.size,0,by rw[<-hr.len];simp,rfl⟩
def nV(T:B6)(d:TypeId)(a b:V):Option Bool:=
 match T.und d,a,b with
 |some (.int _),.int k x,.int c y=>if k=c then some (x==y)else none
 |some .string,.str x,.str y=>some<|x==y
 |some .bool,.bool x,.bool y=>some<|x==y
 |_,_,_=>none
def Lm(T:B6)(b:TypeId)(k:V):List (V×V×Nat)->Nat->Option (Option<|Nat×V)
 |[],_=>some none
 |(a,v,_)::es,i=>
  match nV T b k a with
  |some true=>some<|some (i,v)
  |some false=>Lm T b k es<|i+1
  |none=>none
def plainKey:V->Bool
 | .int .. | .str _| .bool _=>true
 |_=>false
theorem bytes_beq(x y:ByteArray):(x==y)=(x.data==y.data):=rfl
theorem Zq{l:TypeId}{a b:V}{g b':Value}(k:Ae p a g)(m:Ae p b b'){r:Bool}(f:nV T l a b=some r){d:TypeDesc}(o:T.und l=some d):
  yn d g b'=some r/\(r=true->g=b'):=by
 unfold nV at f;split at f
 case h_1=>
  grind [Ae,yn]
 case h_2=>
  rename_i c;rw[o]at c;simp only[Ae]at k m;cases f;simp_all [yn,bytes_beq,bytesOf]
 case h_3=>
  rename_i c;rw[o]at c;cases c;subst k m;cases f;exact⟨rfl,(by simp)⟩
 grind
theorem tH{m:TypeId}{k:V}{f:Value}(s:Ae p k f){d:TypeDesc}(x:T.und m=some d):
  ∀ {es:List (V×V×Nat)} {l:List MapEntry},DI p es l->∀ {i:Nat} {r:Option (Nat×V)},Lm T m k es i=some r->
  ∃g,yj d f l i=some g/\(match r with|none=>g=none|some (j,v)=>∃v',g=some (j,v')/\Ae p v v'/\i<=j/\∃e,l[j-i]?=some e/\e.key=f):=by
 intro es l q;induction q with
 |nil=>intro i r c;simp only[Lm,ze]at c;subst c;exact⟨none,rfl,rfl⟩
 |@cons a v b es e l o C B _ y=>
  intro i r c;unfold Lm at c;split at c
  case h_1=>
   rename_i u;cases c;obtain⟨D,A⟩:=Zq s o u x;simp_all [yj]
  case h_2=>
   grind [Zq,yj]
  grind
theorem run_checkKey{k:V}{a:Value}(m:Ae p k a)(hp:plainKey k=true)(f:T.Ok P){c:TypeId}{d:TypeDesc}(o:T.und c=some d)(l:Ed d=false)(q:∀g,d≠ .interface g)(b:Bool):
  (yk b 10000 c a).run P w=.ok () w:=by
 unfold yk;rw[zd,AA f o];cases k<;>simp only[plainKey]at hp<;>simp only[Ae]at m
 case bool|int|str=>
  cases d<;>first|rfl|(cases l;done)|grind
 all_goals cases hp
def lH:TypeDesc->Bool
 | .int _| .string| .bool=>true
 |_=>false
theorem gL{d:TypeDesc}(h:lH d=true):Ed d=false/\∀a,d≠ .interface a:=by
 cases d<;>first|(cases h;done)|exact⟨rfl,fun a e=>by cases e⟩
theorem Rt{k:V}{a:Value}(b:Ae p k a)(hp:plainKey k=true):zx 10000 a a=true:=by
 cases k<;>simp only[plainKey]at hp<;>simp only[Ae]at b
 case bool=>grind [zx]
 case int=>grind [zx]
 case str=>grind [zx,bytes_beq]
 all_goals cases hp
theorem Wn{a b:V}{c b':Value}(d:Ae p a c)(f:Ae p b b')(h:Es a b=some true):c=b':=by
 unfold Es at h;grind [Ae]
theorem Ma:∀ {f g:List V} {x y:List Value},Aw p f x->Aw p g y->BX f g=some true->x=y
 |[],[],x,y,d,c,_=>by simp_all
 |[],_::_,_,_,_,_,h=>by simp[BX]at h
 |_::_,[],_,_,_,_,h=>by simp[BX]at h
 |a::m,b::r,x,y,d,c,h=>by
  obtain⟨u,q,rfl,k,o⟩:=d;obtain⟨v,vs,rfl,h3,h4⟩:=c;unfold BX at h;split at h
  case h_1=>
   rename_i l;rw[Wn k h3 l,Ma o h4 h]
  case h_2=>grind
  grind
theorem Xe:∀ {ks:List FK} {f:List V} {x:List Value},fit ks f=true->Aw p f x->(x.zip x).all (fun(a,b)=>zx 9999 a b)=true
 |[],[],x,_,c=>by simp_all
 |[],_::_,_,h,_=>by simp[fit]at h
 |_::_,[],_,h,_=>by simp_all
 |k::ks,v::vs,x,h,c=>by
  obtain⟨u,m,rfl,o,l⟩:=c;unfold fit at h;cases d:k.ok v with
  |false=>grind
  |true=>
   simp only[d,we]at h;have g:=Xe h l;simp only[List.zip_cons_cons,List.all_cons,g,Bool.and_true];unfold FK.ok at d;grind [Ae,zx,bytes_beq]
def QV(ks:List FK)(k:List V):List (V×V×Nat)->Nat->Option (Option<|Nat×V)
 |[],_=>some none
 |(a,v,_)::es,i=>
  match a with
  | .agg b=>match O7 (some ks) k b with
   |some true=>some<|some (i,v)
   |some false=>QV ks k es<|i+1
   |none=>none
  |_=>none
def Js(T:B6)(a:TypeId)(d:TypeDesc)(k:V):Bool:=
 match k with
 | .agg b=>match T.flat a with
  |some ks=>fit ks b
  |none=>false
 |k=>plainKey k&&lH d
def KM(T:B6)(a:TypeId)(k:V)(es:List (V×V×Nat)):Option (Option<|Nat×V):=
 match k with
 | .agg b=>match T.flat a with
  |some ks=>QV ks b es 0
  |none=>none
 |k=>Lm T a k es 0
theorem QA(D:T.Ok P){g:TypeId}{ks:List FK}(B:T.flat g=some ks){k:List V}{x:Array Value}(C:Aw p k x.toList):
  ∀ {es:List (V×V×Nat)} {l:List MapEntry},DI p es l->∀ {i:Nat} {r:Option (Nat×V)},QV ks k es i=some r->
  ∃d,(yh g (.agg x) l i).run P w=.ok d w/\(match r with|none=>d=none|some (j,v)=>∃v',d=some (j,v')/\Ae p v v'/\i<=j/\∃e,l[j-i]?=some e/\e.key=.agg x):=by
 intro es l I;induction I with
 |nil=>intro i r c;simp only[QV,ze]at c;subst c;exact⟨none,rfl,rfl⟩
 |@cons a v b es e l f G J _ F=>
  intro i r c;unfold QV at c;split at c
  case h_2=>cases c
  rename_i E;obtain⟨y,A,f⟩:=f;split at c
  case h_3=>cases c
  case h_1=>
   rename_i m;cases c;obtain⟨l',s,u,q,o⟩:=HW m;cases s;refine⟨some (i,e.val),?_,e.val,rfl,G,zg _,e,by simp,?_⟩
   ·simp only[yh,zd,A,D.flat g ks B p k E x y true w u q C f o,zc,wm,zf]
   grind [Ma,Array.toList_inj]
  case h_2=>
   rename_i m;obtain⟨l',s,u,q,o⟩:=HW m;cases s;obtain⟨d,k1,k2⟩:=F c;refine⟨d,?_,?_⟩
   ·simp only[yh,zd,A,D.flat g ks B p k E x y false w u q C f o,zc,zp,vf];exact k1
   ·cases r with
    |none=>exact k2
    |some K=>
     grind
theorem JU(g:T.Ok P){c:TypeId}{d:TypeDesc}(r:T.und c=some d){k:V}{f:Value}(m:Ae p k f)(a:Js T c d k=true)(b:Bool):
  (yk b 10000 c f).run P w=.ok () w:=by
 unfold Js at a;split at a
 case h_1=>
  rename_i o;split at a
  case h_2=>cases a
  rename_i ks q;obtain⟨x,rfl,l⟩:=m;exact g.key c ks q p o x b w a l
 case h_2=>
  grind [gL,run_checkKey]
theorem Yk{c:TypeId}{d:TypeDesc}{k:V}{b:Value}(g:Ae p k b)(a:Js T c d k=true):zx 10000 b b=true:=by
 unfold Js at a;split at a
 case h_1=>
  split at a
  case h_2=>cases a
  obtain⟨x,rfl,f⟩:=g;have:=Xe a f;simp_all [zx]
 case h_2=>
  grind [Rt]
def entries(h:H)(m:V):Option (List<|V×V×Nat):=
 match m with
 | .nilm=>some []
 | .map b=>match h.get b with
  |some (.map es _)=>some es
  |_=>none
 |_=>none
def ES(T:B6)(h:H)(t:TypeId)(m k:V)(ok:Bool):Option V:=
 match T.und t with
 |some (.map a e)=>
  match T.und a,entries h m with
  |some d,some es=>
   bif Js T a d k then
    match KM T a k es with
    |some (some (_,v))=>some<|bif ok then .tup [v,.bool true]else v
    |some none=>match T.inf e with
     |some i=>some<|bif ok then .tup [i.zv,.bool false]else i.zv
     |none=>none
    |none=>none
   else none
  |_,_=>none
 |_=>none
theorem Ms(hr:R p h w){m:V}{d:Value}(f:Ae p m d){es:List (V×V×Nat)}(a:entries h m=some es):
  (d=.map none/\es=[])\/∃r l c b n,m=.map b/\d=.map (some r)/\p[b]?=some (r,n)/\h.get b=some (.map es c)/\w.heap[r]?=some (.map l c)/\DI p es l.toList:=by
 unfold entries at a;split at a
 case h_1=>simp_all [Ae]
 case h_2=>
  simp only[Ae]at f;split at a
  case h_2=>cases a
  rename_i g c k;obtain⟨s,n',o,q,x,l,u,v⟩:=hr.obj _ _ k;grind
 grind
theorem run_findKey(o:T.Ok P){b:TypeId}{k:V}{f:Value}(u:Ae p k f){d:TypeDesc}(m:T.und b=some d){es:List (V×V×Nat)}{l:List MapEntry}(s:DI p es l)
  {r:Option (Nat×V)} (c:KM T b k es=some r):
  ∃a,(yo b f l).run P w=.ok a w/\(match r with|none=>a=none|some (j,v)=>∃v',a=some (j,v')/\Ae p v v'/\∃e,l[j]?=some e/\e.key=f):=by
 by_cases g:∃A,k=.agg A
 ·obtain⟨A,rfl⟩:=g;simp only[KM]at c;cases y:T.flat b with
  |none=>grind
  |some ks=>
   simp only[y]at c;obtain⟨x,rfl,B⟩:=u;obtain⟨a,q,D⟩:=QA (P:=P) (w:=w) o y B s c;refine⟨a,?_,?_⟩
   ·unfold yo;simp only[zd,AA o m,zc];cases l with
    |nil=>grind [yj,yh]
    |cons e l=>grind [yj,yn]
   grind
 ·have C:KM T b k es=Lm T b k es 0:=by cases k<;>first|rfl|grind
  rw[C]at c;obtain⟨a,q,D⟩:=tH u m s c;refine⟨a,?_,?_⟩
  ·unfold yo;simp only[zd,AA o m,zc,q,zf]
  grind
theorem XP(f:T.Ok P)(hr:R p h w){t:TypeId}{m k:V}{B q:Value}{ok:Bool}(F:Ae p m B)(s:Ae p k q){v:V}(a:ES T h t m k ok=some v):
  ∃v',(yt t B q ok).run P w=.ok v' w/\Ae p v v':=by
 unfold ES at a;split at a
 case h_2=>cases a
 rename_i C e D;split at a
 case h_2=>cases a
 rename_i d es c u;cases x:Js T C d k with
 |false=>grind
 |true=>
  simp only[x,we]at a;obtain⟨l,o,g⟩:∃l:List MapEntry,DI p es l/\(yt t B q ok).run P w=((yo C q l).run P w).andThen fun r w'=>
    match r with
    |some (_,v)=>.ok (if ok then .tuple #[v,.bool true]else v) w'
    |none=>((zeroValue e).run P w').andThen fun z w'=>.ok (if ok then .tuple #[z,.bool false]else z) w':=by
   rcases Ms hr F u with⟨rfl,rfl⟩|⟨r,l,N,b,n,rfl,rfl,hp,M,I,G⟩
   ·refine⟨[],.nil,?_⟩;unfold yt;simp only[zd,AA f D,zc,zf,JU f c s x];congr 1;funext r w'
    cases r<;>simp
   ·refine⟨l.toList,G,?_⟩;unfold yt;simp only[zd,AA f D,zc,zf,JU f c s x,getObj,yv,I];congr 1;funext r w'
    cases r<;>simp
  rw[g];split at a
  case h_3=>cases a
  case h_1=>
   rename_i j v0 y;cases a;obtain⟨E,A,v',rfl,L,_⟩:=run_findKey (P:=P) (w:=w) f s c o y;simp only[A,zc];cases ok
   ·grind
   simp_all [Ae]
  case h_2=>
   rename_i y;split at a
   case h_2=>cases a
   rename_i i J;cases a;obtain⟨E,A,K⟩:=run_findKey (P:=P) (w:=w) f s c o y;subst K;obtain⟨z,hz,hzr⟩:=AdH f J;simp only[A,zc,hz];cases ok
   ·grind
   simp_all [Ae]
def XY(es:List (V×V×Nat))(i:Nat)(k v:V):List (V×V×Nat):=es.modify i fun e=>(k,v,e.2.2)
theorem DI.modify{es:List (V×V×Nat)}{l:List MapEntry}(m:DI p es l){k v:V}{c v':Value}(o:Ae p k c)(r:Ae p v v')(i:Nat):
  DI p (XY es i k v) (l.modify i fun e=>{ e with key:=c,val:=v' }):=by
 unfold XY;induction m generalizing i with
 |nil=>simp;exact .nil
 |@cons a x b es e l g s d q f=>
  cases i with
  |zero=>simp;exact .cons o r d q
  |succ i=>simp;exact .cons g s d<|f i
theorem DI.snoc{es:List (V×V×Nat)}{l:List MapEntry}(g:DI p es l){k v:V}{e:MapEntry}(m:Ae p k e.key)(d:Ae p v e.val):DI p (es++[(k,v,e.born)]) (l++[e]):=by
 induction g with
 |nil=>exact .cons m d rfl .nil
 |cons c f a _ b=>exact .cons c f a b
def H2(T:B6)(h:H)(t:TypeId)(m k v:V):Option H:=
 match T.und t,m with
 |some (.map c _),.map b=>
  match T.und c,h.get b with
  |some d,some (.map es a)=>
   bif Js T c d k then
    match KM T c k es with
    |some (some (i,_))=>some<|h.put b<|.map (XY es i k v) a
    |some none=>some<|h.put b<|.map (es++[(k,v,a)])<|a+1
    |none=>none
   else none
  |_,_=>none
 |_,_=>none
theorem Y6(y:T.Ok P)(hr:R p h w){t:TypeId}{m k v:V}{F g v':Value}(E:Ae p m F)(f:Ae p k g)(G:Ae p v v'){h':H}(a:H2 T h t m k v=some h'):
  ∃w',(Instr.mapUpdate t F g v').run P w=.ok () w'/\Ext p h w p h' w':=by
 unfold H2 at a;split at a
 case h_2=>cases a
 rename_i J e b K;split at a
 case h_2=>cases a
 rename_i d es u c s;cases A:Js T J d k with
 |false=>grind
 |true=>
  simp only[A,we]at a;rcases Ms (es:=es) hr E (by simp only[entries,s])with⟨rfl,_⟩|⟨r,l,L,b',n,M,rfl,hp,o,D,x⟩
  ·simp[Ae]at E
  ·cases M;rw[s]at o;cases o;unfold Instr.mapUpdate;simp only[zd,AA y K,zc,JU y c f A,getObj,yv,D];split at a
   case h_3=>cases a
   case h_1=>
    rename_i j v0 B;cases a;obtain⟨I,C,v1,rfl,S,Q,U,O⟩:=run_findKey (P:=P) (w:=w) y f c x B;simp only[C,zc];have q:(l[j]?.map (·.key)).getD g=g:=by
     grind
    rw[q];unfold Instr.keyThatStays;simp only[Yk f A,wm,zd,zf,zc,setObj,yv,D];refine⟨_,rfl,Ext.put hr s hp (o':=.map (XY es j k v) u) ⟨_,rfl,?_⟩ rfl rfl rfl rfl⟩;have:=x.modify f G j;grind
   case h_2=>
    rename_i B;cases a;obtain⟨I,C,N⟩:=run_findKey (P:=P) (w:=w) y f c x B;subst N;simp only[C,zc,setObj,yv,D];refine⟨_,rfl,Ext.put hr s hp (o':=.map (es++[(k,v,u)])<|u+1) ⟨_,rfl,?_⟩ rfl rfl rfl rfl⟩;have:=x.snoc (e:={ key:=g,val:=v',born:=u }) f G;grind
end
end Go.Det
