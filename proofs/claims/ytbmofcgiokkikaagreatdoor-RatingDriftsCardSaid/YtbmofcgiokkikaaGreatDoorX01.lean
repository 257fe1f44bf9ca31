import Derived.Scope
import Derived.Laws.Sem
import Derived.KernelRfl
import Derived.Laws.Strings
import Derived.IntWalk
/- A part of a proof; no law is stated here. -/
abbrev Rd:=List UInt8
abbrev w4:=@decide_eq_true
abbrev w5:=@decide_eq_true_eq
abbrev w6:=@of_decide_eq_true
abbrev w7:=@of_decide_eq_false
abbrev w8:=@decide_eq_false
abbrev w9:=@decide_eq_false_iff_not
abbrev wc:=@if_neg
abbrev wd:=@if_pos
abbrev we:=@cond_true
abbrev wg:=@cond_false
abbrev wh:=@absurd
abbrev wi:=@congrArg
abbrev wk:=@beq_iff_eq
abbrev wm:=@if_true
abbrev vc:=@ne_eq
abbrev ve:=@beq_eq_false_iff_ne
abbrev vf:=@and_true
abbrev vg:=@if_false
noncomputable section
open Go.Result renaming andThen_ok -> zc
open Go.Sem renaming run_bind -> zd, run_pure -> zf, run -> yv
open Option.some renaming injEq -> ze
open Nat renaming le_refl -> zg, beq -> zh, ble -> zk, mul_le_mul_right -> zz, blt -> z7, ble_eq -> z8, le_trans -> yq
open Option renaming map_eq_some_iff -> zi
open Go.Value renaming cells -> zj
open Go.Builtin renaming firstCells -> zl, zeroCells -> zo, append_ -> zu, nextslicecap -> z6, lenOf -> yi
open List renaming getElem?_eq_some_iff -> zm, getElem?_take_of_lt -> zq, getElem?_cons_zero -> yc, getElem?_cons_succ -> yd, getElem?_toArray -> yg, rec -> yp
open Bool renaming and_eq_true -> zn, false_eq_true -> zp, or_eq_true -> yu
open Go.Instr renaming sliceAt -> zr, sliceBounds -> zt, sameBits -> zx, sureAddr -> ye, findAsking -> yh, findNow -> yj, checkKey -> yk, slice -> ym, sameNow -> yn, findKey -> yo, lookup -> yt
open Prod.mk renaming injEq -> zw
open Int renaming ofNat_eq_natCast -> zy, toNat_natCast -> yb
open BitVec renaming ofInt -> ya
open Array renaming getElem?_toList -> yf
open Go.Op renaming bytesLess -> yr, equal -> yw
theorem ae{p:Prop}(h:p:=by omega):p:=h
theorem af{p:Prop}(h:p:=by decide):p:=h
theorem ag{p:Prop}(h:p:=by kernel_rfl):p:=h
theorem ah{p:Prop}(h:p:=by grind):p:=h
namespace Go.Det
section
inductive PM (α:Type) where
 |leaf
 |node (l:PM α) (v:Option α) (r:PM α)
inductive H5 where
 |here
 |l (p:H5)
 |r (p:H5)
variable {α:Type}
def yL(f:Nat):Nat->H5:=
 @Nat.rec (fun _=>Nat->H5) (fun _=>.here) (fun _ a i=>bif zh i 0 then .here else bif zh (Nat.mod i 2) 1 then .l (a<|Nat.div i 2)else .r<|a<|Nat.sub (Nat.div i 2) 1) f
def pth(i:Nat):H5:=yL i i
def H5.get(p:H5):PM α->Option α:=
 @H5.rec (fun _=>PM α->Option α)
  (fun m=>@PM.rec α (fun _=>Option α) none (fun _ v _ _ _=>v) m)
  (fun _ a m=>@PM.rec α (fun _=>Option α) none (fun l _ _ _ _=>a l) m)
  (fun _ a m=>@PM.rec α (fun _=>Option α) none (fun _ _ r _ _=>a r) m) p
def H5.set(p:H5):PM α->Option α->PM α:=
 @H5.rec (fun _=>PM α->Option α->PM α)
  (fun m v=>@PM.rec α (fun _=>PM α) (.node .leaf v .leaf) (fun l _ r _ _=>.node l v r) m)
  (fun _ a m v=>@PM.rec α (fun _=>PM α) (.node (a .leaf v) none .leaf) (fun l x r _ _=>.node (a l v) x r) m)
  (fun _ a m v=>@PM.rec α (fun _=>PM α) (.node .leaf none<|a .leaf v) (fun l x r _ _=>.node l x<|a r v) m) p
def PM.get(m:PM α)(i:Nat):Option α:=(pth i).get m
def PM.set(m:PM α)(i:Nat)(v:Option α):PM α:=(pth i).set m v
theorem Bx(a b:Nat):zh a b=decide (a=b):=by
 by_cases h:a=b
 ·simp_all
 grind [Nat.eq_of_beq_eq_true]
def H5.num:H5->Nat
 | .here=>0
 | .l p=>2*p.num+1
 | .r p=>2*(p.num+1)
theorem Rz:∀(f i:Nat),i<=f->(yL f i).num=i
 |0,i,h=>by cases ae;rfl
 |f+1,i,h=>by
  show H5.num (bif zh i 0 then .here else bif zh (i % 2) 1 then .l (yL f<|i/2)else .r<|yL f<|i/2-1)=i;simp only[Bx];by_cases h0:i=0
  ·subst h0;rfl
  ·by_cases a:i % 2=1
   ·simp only[h0,a,decide_false,decide_true,wg,we,H5.num];rw[Rz f (i/2) ae];omega
   ·simp only[h0,a,decide_false,wg,H5.num];rw[Rz f (i/2-1) ae];omega
theorem Aaa{i j:Nat}(h:pth i=pth j):i=j:=by
 have:=wi H5.num h;unfold pth at this;simp_all [Rz]
theorem H5.ER(p:H5):p.get (.leaf:PM α)=none:=by cases p<;>rfl
theorem H5.get_set_same:∀(p:H5) (m:PM α) (v:Option α),p.get (p.set m v)=v
 | .here,m,v=>by cases m<;>rfl
 | .l p,m,v=>by
  cases m with
  |leaf=>exact H5.get_set_same p .leaf v
  |node l x r=>exact H5.get_set_same p l v
 | .r p,m,v=>by
  cases m with
  |leaf=>exact H5.get_set_same p .leaf v
  |node l x r=>exact H5.get_set_same p r v
theorem H5.GS:∀(p q:H5) (m:PM α) (v:Option α),q≠p->q.get (p.set m v)=q.get m
 | .here,.here,m,v,h=>wh rfl h
 | .here,.l q,m,v,_=>by
  cases m with
  |leaf=>exact q.ER
  |node l x r=>rfl
 | .here,.r q,m,v,_=>by
  cases m with
  |leaf=>exact q.ER
  |node l x r=>rfl
 | .l p,.here,m,v,_=>by cases m<;>rfl
 | .r p,.here,m,v,_=>by cases m<;>rfl
 | .l p,.r q,m,v,_=>by
  cases m with
  |leaf=>exact q.ER
  |node l x r=>rfl
 | .r p,.l q,m,v,_=>by
  cases m with
  |leaf=>exact q.ER
  |node l x r=>rfl
 | .l p,.l q,m,v,h=>by
  have h':q≠p:=ah;cases m with
  |leaf=>exact(H5.GS p q .leaf v h').trans q.ER
  |node l x r=>exact H5.GS p q l v h'
 | .r p,.r q,m,v,h=>by
  have h':q≠p:=ah;cases m with
  |leaf=>exact(H5.GS p q .leaf v h').trans q.ER
  |node l x r=>exact H5.GS p q r v h'
@[simp] theorem PM.DI(m:PM α)(i:Nat)(v:Option α)(j:Nat):(m.set i v).get j=if j=i then v else m.get j:=by
 unfold PM.get PM.set;by_cases e:j=i
 ·simp_all [H5.get_set_same]
 ·grind [H5.GS,Aaa]
@[simp] theorem PM.ER(j:Nat):(PM.leaf:PM α).get j=none:=H5.ER _
def Ge(l:List α):Nat:=@yp α (fun _=>Nat) 0 (fun _ _ a=>Nat.add a 1) l
theorem D7(l:List α):Ge l=l.length:=by
 induction l with
 |nil=>rfl
 |cons a l b=>simp_all [Ge]
def K4(n:Nat):List α->List α:=
 @Nat.rec (fun _=>List α->List α) (fun l=>l) (fun _ b l=>@yp α (fun _=>List α) [] (fun _ a _=>b a) l) n
theorem PQ:∀(n:Nat) (l:List α),K4 n l=l.drop n
 |0,_l=>rfl
 |_n+1,[]=>rfl
 |n+1,_a::l=>PQ n l
def ZN(n:Nat):List α->List α:=
 @Nat.rec (fun _=>List α->List α) (fun _=>[]) (fun _ c l=>@yp α (fun _=>List α) [] (fun a b _=>a::c b) l) n
theorem RN:∀(n:Nat) (l:List α),ZN n l=l.take n
 |0,_l=>rfl
 |_n+1,[]=>rfl
 |n+1,a::l=>wi (a:: ·)<|RN n l
def KR(vs:List α):List α->List α:=
 @yp α (fun _=>List α->List α) (fun l=>l) (fun v _ b l=>@yp α (fun _=>List α) [] (fun _ a _=>v::b a) l) vs
def CL(n:Nat)(vs:List α):List α->List α:=
 @Nat.rec (fun _=>List α->List α) (fun l=>KR vs l) (fun _ c l=>@yp α (fun _=>List α) [] (fun a b _=>a::c b) l) n
def LK(f:α->Bool)(l:List α):Bool:=@yp α (fun _=>Bool) true (fun a _ b=>bif f a then b else false) l
theorem Gb(f:α->Bool):∀l:List α,LK f l=l.all f
 |[]=>rfl
 |a::l=>by
  show(bif f a then LK f l else false)=_;rw[Gb f l,List.all_cons];simp
inductive V where
 |bool (b:Bool)
 |int (k:IntKind) (n:Int)
 |str (s:Rd)
 |nilp
 |ptr (b off:Nat)
 |nils
 |sl (b off len cap o:Nat)
 |esl
 |es0
 |junk
 |nilm
 |map (b:Nat)
 |fn (f:Fn) (first captured:List V)
 |yld (b:Nat)
 |nilf
 |iface (t:TypeId) (v:V)
 |nili
 |agg (cs:List V)
 |tup (vs:List V)
 deriving Inhabited
abbrev Pl:=List<|Nat×Nat
def bytesOf(s:Rd):ByteArray:=⟨s.toArray⟩
mutual
def Ae(p:Pl):V->Value->Prop
 | .bool b,v=>v=.bool b
 | .int k n,v=>v=.int k n
 | .str s,v=>v=.string (bytesOf s)
 | .nilp,v=>v=.pointer none
 | .ptr b off,v=>∃r n,p[b]?=some (r,n)/\v=.pointer (some ⟨r,off,none⟩)
 | .nils,v=>v=.slice none 0 0
 | .sl b off len cap o,v=>∃r n c,p[b]?=some (r,n)/\v=.slice (some ⟨r,off,none⟩) len c/\len<=cap/\cap<=c/\(o=0->c=cap)/\(o≠0->off+c*o<=n)
 | .esl,v=>∃a c,v=.slice (some a) 0 c
 | .es0,v=>∃a,v=.slice (some a) 0 0
 | .junk,_=>False
 | .nilm,v=>v=.map none
 | .map b,v=>∃r n,p[b]?=some (r,n)/\v=.map (some r)
 | .fn f first captured,v=>∃x y,v=.func f x y/\Ay p first x.toList/\Ay p captured y.toList
 | .yld b,v=>∃r n,p[b]?=some (r,n)/\v=.func (.yield r) #[] #[]
 | .nilf,v=>v=.nilFunc
 | .iface t x,v=>∃y,v=.iface t y/\Ae p x y
 | .nili,v=>v=.nilIface
 | .agg cs,v=>∃x,v=.agg x/\Ay p cs x.toList
 | .tup cs,v=>∃x,v=.tuple x/\Ay p cs x.toList
def Ay(p:Pl):List V->List Value->Prop
 |[],l=>l=[]
 |d::ds,l=>∃v vs,l=v::vs/\Ae p d v/\Ay p ds vs
end
@[simp] theorem J4(p:Pl)(l:List Value):Ay p [] l↔l=[]:=by rfl
@[simp] theorem Bm(p:Pl)(d:V)(ds:List V)(v:Value)(vs:List Value):Ay p (d::ds) (v::vs)↔Ae p d v/\Ay p ds vs:=by
 simp only[Ay];grind
@[simp] theorem mT(p:Pl)(d:V)(ds:List V):¬Ay p (d::ds) []:=by
 simp[Ay]
theorem Ay.length{p:Pl}:∀ {ds:List V} {vs:List Value},Ay p ds vs->ds.length=vs.length
 |[],vs,h=>by simp_all
 |d::ds,[],h=>by simp at h
 |d::ds,v::vs,h=>by simp at h;simp[h.2.length]
theorem Ay.get{p:Pl}:∀ {ds:List V} {vs:List Value},Ay p ds vs->∀ {i:Nat} {d:V},ds[i]?=some d->∃v,vs[i]?=some v/\Ae p d v
 |[],vs,_,i,d,a=>by grind
 |d::ds,[],h,_,_,_=>by simp at h
 |d::ds,v::vs,h,i,x,a=>by
  simp at h;cases i with
  |zero=>grind
  |succ i=>simpa using h.2.get a
theorem Ay.mk{p:Pl}:∀ {ds:List V} {vs:List Value},ds.length=vs.length->(∀(i:Nat) d v,ds[i]?=some d->vs[i]?=some v->Ae p d v)->Ay p ds vs
 |[],[],_,_=>by simp
 |[],_::_,h,_=>by simp at h
 |_::_,[],h,_=>by simp at h
 |d::ds,v::vs,h,a=>by
  simp at h;rw[Bm];exact⟨a 0 d v rfl rfl,Ay.mk h<|fun i b v' c f=>a (i+1) b v' ah ah⟩
theorem Ay.append{p:Pl}:∀ {a:List V} {x:List Value} {b:List V} {y:List Value},Ay p a x->Ay p b y->Ay p (a++b) (x++y)
 |[],x,b,y,h,h'=>by simp_all
 |d::ds,[],_,_,h,_=>by simp at h
 |d::ds,v::vs,b,y,h,h'=>by simp at h;simp[h.1,h.2.append h']
theorem Ay.take{p:Pl}:∀ {a:List V} {x:List Value} (n:Nat),Ay p a x->Ay p (a.take n) (x.take n)
 |[],x,n,h=>by simp_all
 |d::ds,[],_,h=>by simp at h
 |d::ds,v::vs,0,h=>by simp
 |d::ds,v::vs,n+1,h=>by simp at h;simp[h.1,h.2.take n]
theorem Ay.drop{p:Pl}:∀ {a:List V} {x:List Value} (n:Nat),Ay p a x->Ay p (a.drop n) (x.drop n)
 |[],x,n,h=>by simp_all
 |d::ds,[],_,h=>by simp at h
 |d::ds,v::vs,0,h=>by grind
 |d::ds,v::vs,n+1,h=>by simp at h;simpa using h.2.drop n
theorem Ay.set{p:Pl}:∀ {a:List V} {x:List Value} (i:Nat) {d:V} {v:Value},Ay p a x->Ae p d v->Ay p (a.set i d) (x.set i v)
 |[],x,n,_,_,h,_=>by simp_all
 |d::ds,[],_,_,_,h,_=>by simp at h
 |d::ds,v::vs,0,_,_,h,h'=>by simp_all
 |d::ds,v::vs,n+1,_,_,h,h'=>by simp at h;simp[h.1,h.2.set n h']
mutual
theorem Ae.mono{p:Pl}(q:Pl):∀ {d:V} {v:Value},Ae p d v->Ae (p++q) d v
 | .bool _,_,h=>by simpa [Ae]using h
 | .int _ _,_,h=>by simpa [Ae]using h
 | .str _,_,h=>by simpa [Ae]using h
 | .nilp,_,h=>by simpa [Ae]using h
 | .ptr b off,v,h=>by
  grind [Ae]
 | .nils,_,h=>by simpa [Ae]using h
 | .sl b off len cap o,v,h=>by
  grind [Ae]
 | .esl,_,h=>by simpa [Ae]using h
 | .es0,_,h=>by simpa [Ae]using h
 | .junk,_,h=>by simp[Ae]at h
 | .nilm,_,h=>by simpa [Ae]using h
 | .map b,v,h=>by
  grind [Ae]
 | .fn f a b,v,h=>by
  obtain⟨x,y,rfl,c,g⟩:=h;exact⟨x,y,rfl,Ay.mono q c,Ay.mono q g⟩
 | .yld b,v,h=>by
  grind [Ae]
 | .nilf,_,h=>by simpa [Ae]using h
 | .iface t x,v,h=>by
  simp only[Ae]at h ⊢;obtain⟨y,rfl,c⟩:=h;simp_all [Ae.mono]
 | .nili,_,h=>by simpa [Ae]using h
 | .agg cs,v,h=>by
  simp only[Ae]at h ⊢;obtain⟨x,rfl,c⟩:=h;simp_all [Ay.mono]
 | .tup cs,v,h=>by
  simp only[Ae]at h ⊢;obtain⟨x,rfl,c⟩:=h;simp_all [Ay.mono]
theorem Ay.mono{p:Pl}(q:Pl):∀ {ds:List V} {vs:List Value},Ay p ds vs->Ay (p++q) ds vs
 |[],_,h=>by simp_all
 |_::_,[],h=>by simp at h
 |d::ds,v::vs,h=>by simp only[Bm]at h ⊢;exact⟨Ae.mono q h.1,Ay.mono q h.2⟩
end
structure Fr where
 n:Nat
 m:PM V
def Fr.get(f:Fr)(t:Nat):V:=(f.m.get t).getD<|.tup []
def Fr.put(f:Fr)(d:Option Nat)(v:V):Option Fr:=
 match d with
 |none=>some f
 |some t=>bif z7 t f.n then some ⟨f.n,f.m.set t<|some v⟩else none
def EY(p:Pl)(f:Fr)(tmps:Array Value):Prop:=f.n=tmps.size/\∀t,Ae p (f.get t)<|tmps.getD t undef
def CN(p:Pl)(f:Fr)(a:Act):Prop:=f.n=a.tmps.size/\∀t,Ae p (f.get t)<|a.tmps.getD t undef
theorem EY.mono{p:Pl}(q:Pl){f:Fr}{tmps:Array Value}(h:EY p f tmps):EY (p++q) f tmps:=⟨h.1,fun t=>(h.2 t).mono q⟩
structure LS where
 st:LoopState
 pend:Option Code
 fr:Fr
 ps:Array Tmp
 asg:Code
 body:Code
 db:Nat
inductive O where
 |cells (cs:List V) (elem:TypeId) (fz:Nat×Nat)
 |map (es:List (V×V×Nat)) (clock:Nat)
 |siter (s:Rd) (pos:Nat)
 |miter (b:Option Nat) (since:Nat) (seen:List Nat) (last:Nat)
 |loop (l:LS)
 |defd (open_:Bool)
structure H where
 m:PM O
 nx:Nat
def H.get(h:H)(b:Nat):Option O:=h.m.get b
def H.push(h:H)(o:O):H:=⟨h.m.set h.nx<|some o,h.nx+1⟩
def H.put(h:H)(b:Nat)(o:O):H:=⟨h.m.set b<|some o,h.nx⟩
def H.kill(h:H)(b:Nat):H:=⟨h.m.set b none,h.nx⟩
@[simp] theorem H.CW(h:H)(o:O)(b:Nat):(h.push o).get b=if b=h.nx then some o else h.get b:=by simp[H.push,H.get]
@[simp] theorem H.Cf(h:H)(b:Nat)(o:O)(j:Nat):(h.put b o).get j=if j=b then some o else h.get j:=by simp[H.put,H.get]
@[simp] theorem H.DZ(h:H)(b:Nat)(j:Nat):(h.kill b).get j=if j=b then none else h.get j:=by simp[H.kill,H.get]
@[simp] theorem H.AhF(h:H)(o:O):(h.push o).nx=h.nx+1:=rfl
@[simp] theorem H.Ad1(h:H)(b:Nat)(o:O):(h.put b o).nx=h.nx:=rfl
@[simp] theorem H.aF(h:H)(b:Nat):(h.kill b).nx=h.nx:=rfl
inductive D2 (p:Pl):List (V×V×Nat)->List MapEntry->Prop
 |nil:D2 p [] []
 |cons {k v:V} {b:Nat} {es:List (V×V×Nat)} {e:MapEntry} {l:List MapEntry}:Ae p k e.key->Ae p v e.val->e.born=b->D2 p es l->D2 p ((k,v,b)::es) (e::l)
def V.ok:V->Bool
 | .junk=>false
 |_=>true
def ED(p:Pl)(cs:List V)(vs:List Value):Prop:=cs.length=vs.length/\∀(i:Nat) d v,cs[i]?=some d->vs[i]?=some v->d.ok=true->Ae p d v
theorem Ay.toC{p:Pl}{cs:List V}{vs:List Value}(h:Ay p cs vs):ED p cs vs:=⟨h.length,fun i d v a b _=>by
 obtain⟨u,f,c⟩:=h.get a;grind⟩
theorem ED.get{p:Pl}{cs:List V}{vs:List Value}(h:ED p cs vs){i:Nat}{d:V}(b:cs[i]?=some d)(a:d.ok=true):∃v,vs[i]?=some v/\Ae p d v:=by
 have c:i<vs.length:=by rw[<-h.1];grind
 exact⟨vs[i],(by simp),h.2 i d _ b (by simp) a⟩
theorem ED.drop{p:Pl}{cs:List V}{vs:List Value}(h:ED p cs vs)(n:Nat):ED p (cs.drop n) (vs.drop n):=
 ⟨by simp[h.1],fun i d v a b=>h.2 (n+i) d v ah ah⟩
theorem ED.take{p:Pl}{cs:List V}{vs:List Value}(h:ED p cs vs)(n:Nat):ED p (cs.take n) (vs.take n):=
 ⟨by simp[h.1],fun i d v a b=>by
  have c:i<n:=ah
  rw[zq c]at a b;exact h.2 i d v a b⟩
theorem ED.KP{p:Pl}{cs:List V}{vs:List Value}(h:ED p cs vs)(c:∀d∈cs,d.ok=true):Ay p cs vs:=
 Ay.mk h.1 fun i d v a b=>h.2 i d v a b ah
def LM(p:Pl)(n:Nat):O->Obj->Prop
 | .cells cs t fz,o=>∃(c:Array Value) (fz':Nat×Nat),o=.cells c t fz'/\c.size=n/\cs.length<=n/\ED p cs (c.toList.take cs.length)/\∀i,i<n->fz'.1<=i->i<fz'.2->fz.1<=i/\i<fz.2
 | .map es clock,o=>∃l:Array MapEntry,o=.map l clock/\D2 p es l.toList
 | .siter s pos,o=>o=.stringIter (bytesOf s) pos
 | .miter none since seen last,o=>o=.mapIter none since seen.toArray last
 | .miter (some b) since seen last,o=>∃r m,p[b]?=some (r,m)/\o=.mapIter (some r) since seen.toArray last
 | .loop l,o=>∃(fn:FuncId) (tmps:Array Value) (r m:Nat),EY p l.fr tmps/\p[l.db]?=some (r,m)/\o=.loop { state:=l.st,pending:=l.pend,fn,tmps,params:=l.ps,assign:=l.asg,body:=l.body,defers:=r }
 | .defd op,o=>o=.deferred (bif op then some []else none)
theorem ED.mono{p:Pl}(q:Pl){cs:List V}{vs:List Value}(h:ED p cs vs):ED (p++q) cs vs:=⟨h.1,fun i d v a b c=>(h.2 i d v a b c).mono q⟩
theorem D2.mono{p:Pl}(q:Pl){es:List (V×V×Nat)}{l:List MapEntry}(h:D2 p es l):D2 (p++q) es l:=by
 induction h with
 |nil=>exact .nil
 |cons a c d _ b=>exact .cons (a.mono q) (c.mono q) d b
theorem LM.mono{p:Pl}(q:Pl){n:Nat}{o:O}{x:Obj}(h:LM p n o x):LM (p++q) n o x:=by
 cases o with
 |cells cs t fz=>obtain⟨c,fz',d,a,k,g,f⟩:=h;exact⟨c,fz',d,a,k,g.mono q,f⟩
 |map es u=>obtain⟨l,d,a⟩:=h;exact⟨l,d,a.mono q⟩
 |siter s pos=>exact h
 |miter b since seen last=>
  cases b with
  |none=>exact h
  |some b=>
   obtain⟨r,m,d,a⟩:=h;exact⟨r,m,by grind,a⟩
 |loop l=>
  obtain⟨fn,tmps,r,m,h0,d,a⟩:=h;exact⟨fn,tmps,r,m,h0.mono q,by grind,a⟩
 |defd _=>exact h
structure R(p:Pl)(h:H)(w:World):Prop where
 len:p.length=h.nx
 obj:∀b o,h.get b=some o->∃r n x,p[b]?=some (r,n)/\w.heap[r]?=some x/\LM p n o x
 inj:∀b b' o o' r n n',h.get b=some o->h.get b'=some o'->p[b]?=some (r,n)->p[b']?=some (r,n')->b=b'
def Im(p:Pl)(h:H)(r:Nat):Prop:=∃b o n,h.get b=some o/\p[b]?=some (r,n)
def Lk(n:Nat)(fz:Nat×Nat):Prop:=fz.1=0/\n<=fz.2/\0<fz.2
def Lkd(p:Pl)(h:H)(r:Nat):Prop:=∃b n cs t fz,h.get b=some (.cells cs t fz)/\p[b]?=some (r,n)/\Lk n fz
structure Ext(p:Pl)(h:H)(w:World)(p':Pl)(h':H)(w':World):Prop where
 pre:∃q,p'=p++q
 rel:R p' h' w'
 size:w.heap.size<=w'.heap.size
 same:∀r,r<w.heap.size->¬Im p h r->w'.heap[r]?=w.heap[r]?
 im:∀r,Im p' h' r->Im p h r\/w.heap.size<=r
 os:w'.os=w.os
 out:w'.output=w.output
 tape:w'.tape=w.tape
 lock:∀r,r<w.heap.size->Lkd p h r->w'.heap[r]?=w.heap[r]?/\(Lkd p' h' r\/¬Im p' h' r)
 dr:w.drawn<=w'.drawn
theorem Ext.refl{p:Pl}{h:H}{w:World}(hr:R p h w):Ext p h w p h w:=
 ⟨(by simp),hr,zg _,(by simp),ah,rfl,rfl,rfl,ah,zg _⟩
theorem Ext.trans{p l f:Pl}{h k g:H}{w m d:World}(a:Ext p h w l k m)(b:Ext l k m f g d):Ext p h w f g d:=by
 obtain⟨q,A⟩:=a.pre;obtain⟨q',hq'⟩:=b.pre;refine⟨ah,b.rel,yq a.size b.size,fun r hr y=>?_,fun r hr=>?_,b.os.trans a.os,b.out.trans a.out,b.tape.trans a.tape,fun r o u=>?_,yq a.dr b.dr⟩
 ·rw[b.same r (Nat.lt_of_lt_of_le hr a.size) ?_,a.same r hr y];intro h1;rcases a.im r h1 with s|s
  ·grind
  ·omega
 ·rcases b.im r hr with h1|h1
  ·exact a.im r h1
  ·exact .inr<|yq a.size h1
 ·obtain⟨x,h1⟩:=a.lock r o u;have c:=Nat.lt_of_lt_of_le o a.size;rcases h1 with h1|h1
  ·obtain⟨B,s⟩:=b.lock r c h1;grind
  ·refine⟨(b.same r c h1).trans x,.inr fun v=>?_⟩;rcases b.im r v with s|s
   ·grind
   ·omega
theorem Ext.jS{p p':Pl}{h h':H}{w w':World}(e:Ext p h w p' h' w'){d:V}{v:Value}(a:Ae p d v):Ae p' d v:=by
 obtain⟨q,rfl⟩:=e.pre;exact a.mono q
theorem Ext.drew{p:Pl}{h:H}{w:World}(hr:R p h w)(n:Nat)(a:w.drawn<=n:=by omega):Ext p h w p h { w with drawn:=n }:=
 ⟨(by simp),⟨hr.len,hr.obj,hr.inj⟩,zg _,(by simp),ah,rfl,rfl,rfl,ah,a⟩
theorem R.lt{p:Pl}{h:H}{w:World}(hr:R p h w){b:Nat}{o:O}(c:h.get b=some o):b<h.nx:=by
 obtain⟨r,n,x,a,_⟩:=hr.obj b o c;have:=(zm.1 a).1;have:=hr.len;omega
theorem R.aB{p:Pl}{h:H}{w:World}(hr:R p h w){r:Nat}(c:Im p h r):r<w.heap.size:=by
 obtain⟨b,o,n,a,d⟩:=c;obtain⟨r',n',x,h3,h4,_⟩:=hr.obj b o a;grind
theorem Ext.push{p:Pl}{h:H}{w:World}(hr:R p h w){o:O}{x:Obj}{n:Nat}(J:LM p n o x):
  Ext p h w (p++[(w.heap.size,n)]) (h.push o) { w with heap:=w.heap.push x }:=by
 have S:∀b o',h.get b=some o'->b≠h.nx:=fun b o' a=>by have:=hr.lt a;omega
 have s:(p++[(w.heap.size,n)])[h.nx]?=some (w.heap.size,n):=by rw[<-hr.len];simp
 have g:∀b,b<h.nx->(p++[(w.heap.size,n)])[b]?=p[b]?:=ah;refine⟨⟨_,rfl⟩,⟨by simp[hr.len],fun b o' a=>?_,fun b b' d f r m C a u k q=>?_⟩,by simp,fun r v _=>?_,fun r I=>?_,rfl,rfl,rfl,fun r v F=>?_,zg _⟩
 ·rw[H.CW]at a;by_cases e:b=h.nx
  ·subst e;simp at a;subst a;exact⟨_,_,x,s,by simp,J.mono _⟩
  ·rw[wc e]at a;obtain⟨r,m,y,k,q,K⟩:=hr.obj b o' a;refine⟨r,m,y,by grind,?_,K.mono _⟩;grind
 ·have key:∀c o' r m,(h.push o).get c=some o'->(p++[(w.heap.size,n)])[c]?=some (r,m)->(c=h.nx/\r=w.heap.size)\/(h.get c=some o'/\p[c]?=some (r,m)/\r<w.heap.size):=by
   intro c o' r m l hp;rw[H.CW]at l;by_cases e:c=h.nx
   ·grind
   ·rw[wc e]at l;rw[g c<|hr.lt l]at hp;exact .inr ⟨l,hp,hr.aB ⟨c,o',m,l,hp⟩⟩
  rcases key b d r m a k with⟨E,A⟩|⟨E,A,L⟩<;>rcases key b' f r C u q with⟨D,B⟩|⟨D,B,M⟩
  ·omega
  ·omega
  ·omega
  ·exact hr.inj b b' d f r m C E D A B
 ·grind
 ·obtain⟨b,o',m,k,q⟩:=I;rw[H.CW]at k;by_cases e:b=h.nx
  ·grind
  ·rw[wc e]at k;rw[g b<|hr.lt k]at q;exact .inl ⟨b,o',m,k,q⟩
 ·refine⟨by grind,.inl ?_⟩;obtain⟨b,m,cs,t,fz,N,Q,G⟩:=F;refine⟨b,m,cs,t,fz,?_,?_,G⟩
  ·simp_all
  grind
theorem Ext.put{p:Pl}{h:H}{w w':World}(hr:R p h w){b r n:Nat}{o o':O}{x':Obj}(l:h.get b=some o)(hp:p[b]?=some (r,n))(U:LM p n o' x')
  (M:w'.heap=w.heap.setIfInBounds r x') (x:w'.os=w.os) (E:w'.output=w.output) (W:w'.tape=w.tape)
  (N:∀cs t fz,o=.cells cs t fz->Lk n fz->w.heap[r]?=some x'/\∃cs' F,o'=.cells cs' F fz:=by intro _ _ _ h;cases h) (Q:w.drawn<=w'.drawn:=by exact Nat.le_refl _):Ext p h w p (h.put b o') w':=by
 have L:r<w.heap.size:=hr.aB ⟨b,o,n,l,hp⟩;refine⟨(by simp),⟨hr.len,fun c d a=>?_,fun c G d k s m K a D x E=>?_⟩,by simp[M],fun s J V=>?_,fun s S=>?_,x,E,W,fun s J I=>?_,Q⟩
 ·rw[H.Cf]at a;by_cases e:c=b
  ·subst e;simp at a;subst a;exact⟨r,n,x',hp,by grind,U⟩
  ·rw[wc e]at a;obtain⟨s,m,y,g,u,X⟩:=hr.obj c d a;have q:r≠s:=fun B=>e<|hr.inj c b d o s m n a l g<|B▸hp
   grind
 ·have f:∀c d,(h.put b o').get c=some d->∃k,h.get c=some k:=by
   intro c d a;rw[H.Cf]at a;grind
  obtain⟨_,g⟩:=f c d a;obtain⟨_,u⟩:=f G k D;exact hr.inj c G _ _ s m K g u x E
 ·have q:r≠s:=fun e=>V<|e▸⟨b,o,n,l,hp⟩
  grind
 ·obtain⟨c,d,m,g,u⟩:=S;rw[H.Cf]at g;by_cases e:c=b
  ·subst e;exact .inl ⟨c,o,m,l,u⟩
  ·rw[wc e]at g;exact .inl ⟨c,d,m,g,u⟩
 ·obtain⟨c,m,cs,t,fz,C,v,A⟩:=I;by_cases e:c=b
  ·subst e;rw[hp]at v;cases v;rw[l]at C;cases C;obtain⟨g,cs',F,rfl⟩:=N cs t fz rfl A;refine⟨?_,.inl ⟨c,n,cs',F,fz,by simp,hp,A⟩⟩;grind
  ·have q:r≠s:=fun B=>e<|hr.inj c b _ o s m n C l v<|B▸hp
   refine⟨by grind,.inl ⟨c,m,cs,t,fz,by simp_all,v,A⟩⟩
theorem R.kill{p:Pl}{h:H}{w:World}(hr:R p h w)(b:Nat):R p (h.kill b) w:=by
 have sub:∀c o,(h.kill b).get c=some o->h.get c=some o:=by
  simp
 exact⟨hr.len,fun c o a=>hr.obj c o<|sub c o a,fun c d o o' r n n' a f=>hr.inj c d o o' r n n' (sub c o a) ah⟩
theorem Ext.kill{p:Pl}{h:H}{w:World}(hr:R p h w)(b:Nat):Ext p h w p (h.kill b) w:=by
 refine⟨(by simp),hr.kill b,zg _,(by simp),fun r y=>?_,rfl,rfl,rfl,fun r k s=>⟨rfl,?_⟩,zg _⟩
 ·obtain⟨c,o,n,a,u⟩:=y;rw[H.DZ]at a;split at a
  ·cases a
  ·exact .inl ⟨c,o,n,a,u⟩
 ·obtain⟨c,m,cs,t,fz,l,g,x⟩:=s;by_cases e:c=b
  ·subst e;refine .inr ?_;rintro⟨q,o',v,d,A⟩;rw[H.DZ]at d;split at d
   ·cases d
   ·rename_i f;exact f<|hr.inj q c _ _ r v m d l A g
  ·exact .inl ⟨c,m,cs,t,fz,by simp_all,g,x⟩
theorem Ext.move{p:Pl}{h:H}{w w':World}(hr:R p h w){b r n:Nat}{o o':O}{x':Obj}(A:h.get b=some o)(hp:p[b]?=some (r,n))(ho:LM p n o' x')
  (V:w'.heap=w.heap.setIfInBounds r x') (W:w'.os=w.os) (g2:w'.output=w.output) (Q:w'.tape=w.tape) (hk:∀cs t fz,o=.cells cs t fz->¬Lk n fz) (X:w.drawn<=w'.drawn:=by exact Nat.le_refl _):Ext p h w (p++[(r,n)]) ((h.kill b).push o') w':=by
 have S:r<w.heap.size:=hr.aB ⟨b,o,n,A,hp⟩;have k:(p++[(r,n)])[h.nx]?=some (r,n):=by rw[<-hr.len];simp
 have g:∀b,b<h.nx->(p++[(r,n)])[b]?=p[b]?:=ah;have d:∀c a,((h.kill b).push o').get c=some a->(c=h.nx/\a=o')\/(c≠b/\c<h.nx/\h.get c=some a):=by
  intro c a f;rw[H.CW,H.aF,H.DZ]at f;by_cases e:c=h.nx
  ·grind
  ·rw[wc e]at f;by_cases l:c=b
   ·grind
   ·rw[wc l]at f;exact .inr ⟨l,hr.lt f,f⟩
 have ne:∀c a s m,c≠b->h.get c=some a->p[c]?=some (s,m)->r≠s:=fun c a s m f U B e=>f<|hr.inj c b a o s m n U A B<|e▸hp
 refine⟨⟨_,rfl⟩,⟨by simp[hr.len],fun c a f=>?_,fun c E a x s m N f D F G=>?_⟩,by simp[V],fun s B hn=>?_,fun s Y=>?_,W,g2,Q,fun s B L=>?_,X⟩
 ·rcases d c a f with⟨rfl,rfl⟩|⟨I,l,u⟩
  ·exact⟨r,n,x',k,by grind,ho.mono _⟩
  ·obtain⟨s,m,y,v,q,C⟩:=hr.obj c a u;refine⟨s,m,y,by grind,?_,C.mono _⟩;grind
 ·rcases d c a f with⟨rfl,rfl⟩|⟨I,l,u⟩<;>rcases d E x D with⟨rfl,rfl⟩|⟨f1,M,K⟩
  ·rfl
  ·grind
  ·grind
  ·rw[g c l]at F;rw[g E M]at G;exact hr.inj c E a x s m N u K F G
 ·have J:r≠s:=fun e=>hn<|e▸⟨b,o,n,A,hp⟩
  grind
 ·obtain⟨c,a,m,v,q⟩:=Y;rcases d c a v with⟨rfl,rfl⟩|⟨I,l,u⟩
  ·rw[k]at q;cases q;exact .inl ⟨b,o,n,A,hp⟩
  ·rw[g c l]at q;exact .inl ⟨c,a,m,u,q⟩
 ·obtain⟨c,m,cs,t,fz,v,q,C⟩:=L;by_cases e:c=b
  ·grind
  ·have Z:=hr.lt v;refine⟨by grind,.inl ⟨c,m,cs,t,fz,?_,by grind,C⟩⟩;rw[H.CW,H.aF,wc ae,H.DZ,wc e];exact v
end
def Ahu(l:List Nat):List V:=l.map fun n=>.int .u64<|.ofNat n
def FI:List (Nat×O):=[(5,.cells (Ahu [1,10,100,1000,10000,100000,1000000,10000000,100000000,1000000000,10000000000,100000000000,1000000000000,10000000000000,100000000000000,1000000000000000,10000000000000000,100000000000000000,1000000000000000000,10000000000000000000]) 325 (0,20))]
mutual
def V.flat:V->Bool
 | .bool _| .int _ _| .str _| .nilp| .nils| .nilm| .nilf| .nili=>true
 | .agg l| .tup l=>V.Jm l
 |_=>false
def V.Jm:List V->Bool
 |[]=>true
 |v::vs=>v.flat&&V.Jm vs
end
mutual
theorem V.Dj{p q:Pl}:∀ {v:V} {v':Value},v.flat=true->Ae p v v'->Ae q v v'
 | .bool _,_,_,h| .int _ _,_,_,h| .str _,_,_,h| .nilp,_,_,h| .nils,_,_,h| .nilm,_,_,h| .nilf,_,_,h| .nili,_,_,h=>by simpa [Ae]using h
 | .agg l,_,a,h=>by
  obtain⟨x,rfl,b⟩:=h;exact⟨x,rfl,V.Kz (by simpa [V.flat]using a) b⟩
 | .tup l,_,a,h=>by
  obtain⟨x,rfl,b⟩:=h;exact⟨x,rfl,V.Kz (by simpa [V.flat]using a) b⟩
 | .ptr _ _,_,a,_| .sl _ _ _ _ _,_,a,_| .map _,_,a,_| .fn _ _ _,_,a,_| .yld _,_,a,_| .iface _ _,_,a,_=>by simp[V.flat]at a
theorem V.Kz{p q:Pl}:∀ {v:List V} {v':List Value},V.Jm v=true->Ay p v v'->Ay q v v'
 |[],_,_,h=>by simp_all
 |_::_,[],_,h=>by simp at h
 |v::vs,x::b,a,h=>by
  simp only[V.Jm,zn]at a;rw[Bm]at h ⊢;exact⟨V.Dj a.1 h.1,V.Kz a.2 h.2⟩
end
def osz:O->Nat
 | .cells cs _ _=>cs.length
 |_=>0
def gin(g:Nat):List (Nat×O)->Bool
 |[]=>false
 |(i,_)::l=>bif zh i g then true else gin g l
def hGm:List (Nat×O)->PM O
 |[]=>.leaf
 |(i,o)::l=>(hGm l).set i<|some o
def Rv:List (Nat×O)->Nat
 |[]=>0
 |(i,_)::l=>bif zk (i+1) (Rv l)then Rv l else i+1
def hG:H:=⟨hGm FI,Rv FI⟩
def gok:List (Nat×O)->Bool
 |[]=>true
 |(_,.cells cs _ (a,b))::l=>V.Jm cs&&zh a 0&&zh b cs.length&&z7 0 b&&gok l
 |_=>false
theorem dF:gok FI=true:=by rfl
theorem aG{g:Nat}:∀ {l:List (Nat×O)},gin g l=true->∃o,(g,o)∈l
 |[],h=>by cases h
 |(i,o)::l,h=>by
  unfold gin at h;cases a:zh i g with
  |true=>simp_all
  |false=>
   rw[a]at h;obtain⟨o',b⟩:=aG h;grind
theorem U7:∀ {l:List (Nat×O)},gok l=true->∀x∈l,∃cs t,x.2=.cells cs t (0,cs.length)/\V.Jm cs=true/\0<cs.length
 |[],_,x,c=>by cases c
 |(i,.cells cs t (a,b))::l,h,x,c=>by
  simp only[gok,zn]at h;obtain⟨⟨⟨⟨g,d⟩,f⟩,m⟩,k⟩:=h;rcases List.mem_cons.1 c with rfl|c
  ·have d:a=0:=by simp_all
   have f:b=cs.length:=by simp_all
   subst d f;exact⟨cs,t,rfl,g,(by simp_all)⟩
  ·exact U7 k x c
theorem Mg:∀ {l:List (Nat×O)} {b:Nat} {o:O},(hGm l).get b=some o->(b,o)∈l
 |[],b,o,h=>by simp[hGm]at h
 |(i,o')::l,b,o,h=>by
  simp only[hGm,PM.DI]at h;by_cases e:b=i
  ·grind
  ·rw[wc e]at h;exact List.mem_cons_of_mem _<|Mg h
theorem bP{n:Nat}:∀ {l:List (Nat×O)},(∀x∈l,x.1<n)->Rv l<=n
 |[],_=>Nat.zero_le _
 |(i,o)::l,h=>by
  have a:=h (i,o) (by simp);have b:=bP (l:=l) fun x c=>h x ah
  grind [Rv]
theorem Uh:∀ {l:List (Nat×O)},∀x∈l,x.1<Rv l
 |[],x,a=>by cases a
 |(i,o)::l,x,a=>by
  unfold Rv;rcases List.mem_cons.1 a with rfl|a
  ·cases b:zk (i+1) (Rv l)with
   |true=>have:=Nat.le_of_ble_eq_true b;grind
   |false=>simp
  ·have:=Uh (l:=l) x a;grind [Nat.ble_eq_true_of_le]
def Gp(p:Pl):Prop:=∀x∈FI,p[x.1]?=some (x.1,osz x.2)
def Gh(h:H):Prop:=∀x∈FI,h.get x.1=some x.2
theorem Gp.app{p:Pl}(h:Gp p)(q:Pl):Gp (p++q):=fun x a=>by
 have:=h x a;grind
theorem Gp.top{p:Pl}(h:Gp p):Rv FI<=p.length:=bP fun x a=>(zm.1<|h x a).1
theorem Gp.take{p:Pl}(h:Gp p):Gp (p.take<|Rv FI):=fun x a=>by
 rw[zq<|Uh x a];exact h x a
theorem ED.flat{p q:Pl}{cs:List V}{vs:List Value}(g:V.Jm cs=true)(h:ED p cs vs):ED q cs vs:=
 ⟨h.1,fun i d v b c f=>V.Dj (by
  have:=List.mem_of_getElem? b;clear h b c f;induction cs with
  |nil=>grind
  |cons a cs k=>
   simp only[V.Jm,zn]at g;grind)<|h.2 i d v b c f⟩
theorem AdU{p:Pl}{h:H}{w:World}(hr:R p h w)(hp:Gp p)(m:Gh h):R (p.take<|Rv FI) hG w:=by
 refine⟨by rw[List.length_take,Nat.min_eq_left hp.top];rfl,fun b o a=>?_,fun b b' o o' r n n' a f g k=>?_⟩
 ·have d:=Mg a;obtain⟨cs,t,e,q,v⟩:=U7 dF _ d;obtain⟨r,n,x,g,k,h3⟩:=hr.obj b o<|m _ d;refine⟨r,n,x,by rw[zq<|Uh _ d];exact g,k,?_⟩;subst e;obtain⟨c,fz',k1,k2,k3,k4,k5⟩:=h3;exact⟨c,fz',k1,k2,k3,k4.flat q,k5⟩
 ·have l:=Mg a;have s:=Mg f;have y:=hp.take _ l;have u:=hp.take _ s;grind
theorem Ext.FI{p:Pl}{w w':World}{p':Pl}{h':H}(hp:Gp p)(a:Ext p hG w p' h' w')(r:Nat)(hr:r<w.heap.size):w'.heap[r]?=w.heap[r]?:=by
 by_cases f:Im p hG r
 ·obtain⟨b,o,n,g,c⟩:=f;have d:=Mg g;obtain⟨cs,t,e,hf,hl⟩:=U7 dF _ d;subst e;have:=hp _ d;rw[this]at c;cases c;exact(a.lock _ hr ⟨_,_,_,_,_,g,this,rfl,zg _,hl⟩).1
 ·exact a.same r hr f
section
variable {p:Pl}
def V.cells:V->List V
 | .agg cs=>cs
 |v=>[v]
theorem Ae.cells{d:V}{v:Value}(f:Ae p d v):Ay p d.cells v.cells.toList:=by
 cases d<;>simp only[V.cells]<;>simp only[Ae]at f
 case agg cs=>obtain⟨x,rfl,b⟩:=f;exact b
 case bool=>simp_all [zj,Ae]
 case int=>simp_all [zj,Ae]
 case str=>simp_all [zj,Ae]
 case nilp=>simp_all [zj,Ae]
 case nils=>simp_all [zj,Ae]
 case nilm=>simp_all [zj,Ae]
 case nilf=>simp_all [zj,Ae]
 case nili=>simp_all [zj,Ae]
 case ptr=>obtain⟨r,n,b,rfl⟩:=f;simp[zj,Ae,b]
 case esl=>obtain⟨a,c,rfl⟩:=f;simp[zj,Ae]
 case es0=>obtain⟨a,rfl⟩:=f;simp[zj,Ae]
 case sl=>obtain⟨r,n,c,b,rfl,g⟩:=f;simp only[zj,Bm,J4,vf];simp only[Ae];grind
 case map=>obtain⟨r,n,b,rfl⟩:=f;simp[zj,Ae,b]
 case yld=>obtain⟨r,n,b,rfl⟩:=f;simp[zj,Ae,b]
 case fn=>obtain⟨x,y,rfl,b,g⟩:=f;simp only[zj,Bm,J4,vf];simp only[Ae];grind
 case iface=>obtain⟨y,rfl,b⟩:=f;simp_all [zj,Ae]
 case tup=>obtain⟨x,rfl,b⟩:=f;simp_all [zj,Ae]
end
structure TI where
 size:Nat
 bytes:Nat
 zv:V
def TI.zero(i:TI):List V:=i.zv.cells
inductive FK where
 |bool
 |str
 |int (k:IntKind)
def FK.ok:FK->V->Bool
 | .bool,.bool _=>true
 | .str,.str _=>true
 | .int k,.int a _=>k==a
 |_,_=>false
def fit:List FK->List V->Bool
 |[],[]=>true
 |k::ks,v::vs=>bif k.ok v then fit ks vs else false
 |_,_=>false
structure Cj where
 und:TypeId->Option TypeDesc
 inf:TypeId->Option TI
 flat:TypeId->Option (List FK)
 mth:TypeId->String->Option FuncId
def EK:V->V->Option Bool
 | .bool a,.bool b=>some<|a==b
 | .int k a,.int c b=>if k=c then some (a==b)else none
 | .str a,.str b=>some<|a==b
 |_,_=>none
def Ca:List V->List V->Option Bool
 |[],[]=>some true
 |a::c,b::d=>
  match EK a b with
  |some true=>Ca c d
  |some false=>if c.length=d.length then some false else none
  |none=>none
 |_,_=>none
structure Cj.Ok(T:Cj)(P:Program):Prop where
 und:∀t d,T.und t=some d->P.underlying t=some d
 inf:∀t i,T.inf t=some i->∃j v,P.info? t=some j/\j.size=i.size/\j.bytes=i.bytes/\j.zero=some v/\∀p,Ae p i.zv v
 flat:∀t ks,T.flat t=some ks->∀(p:Pl) (x y:List V) (x' y':Array Value) (r:Bool) (w:World),fit ks x=true->fit ks y=true->Ay p x x'.toList->Ay p y y'.toList->Ca x y=some r->
  (yw t (.agg x') (.agg y')).run P w=.ok r w
 guard:∀t ks,T.flat t=some ks->P.eqGuardType P.depth t=false
 key:∀t ks,T.flat t=some ks->∀(p:Pl) (x:List V) (x':Array Value) (b:Bool) (w:World),fit ks x=true->Ay p x x'.toList->(yk b 10000 t (.agg x')).run P w=.ok () w
 kind:∀t ks,T.flat t=some ks->∃fs,T.und t=some (.struct fs)
 mth:∀t name f,T.mth t name=some f->∃j m d,P.info? t=some j/\j.methods.find? (·.name==name)=some m/\m.path= #[]/\m.func=some (f,false)/\P.underlying t=some d/\∀e,d≠ .pointer e
section
variable {T:Cj}{P:Program}{p:Pl}{h:H}{w:World}
theorem AE(b:T.Ok P){t:TypeId}{d:TypeDesc}(a:T.und t=some d):(underlying t).run P w=.ok d w:=by
 unfold underlying;simp[b.und t d a]
theorem BH(b:T.Ok P){t:TypeId}{i:TI}(a:T.inf t=some i):(sizeOf t).run P w=.ok i.size w:=by
 obtain⟨j,v,c,d,_⟩:=b.inf t i a;simp_all [sizeOf,typeInfo]
theorem PS(b:T.Ok P){t:TypeId}{i:TI}(a:T.inf t=some i):∃j,(∀w,(typeInfo t).run P w=.ok j w)/\j.bytes=i.bytes/\j.size=i.size:=by
 obtain⟨j,v,c,d,f,_⟩:=b.inf t i a;simp_all [typeInfo]
theorem EL(c:T.Ok P){t:TypeId}{i:TI}(a:T.inf t=some i):∃v,(∀w,(zeroValue t).run P w=.ok v w)/\∀p,Ay p i.zero v.cells.toList:=by
 obtain⟨j,v,d,f,k,g,b⟩:=c.inf t i a;exact⟨v,(by simp_all [zeroValue,typeInfo]),fun p=>(b p).cells⟩
theorem Adq(b:T.Ok P){t:TypeId}{i:TI}(a:T.inf t=some i):∃v,(∀w,(zeroValue t).run P w=.ok v w)/\∀p,Ae p i.zv v:=by
 obtain⟨j,v,c,d,k,f,g⟩:=b.inf t i a;simp_all [zeroValue,typeInfo]
def EE:TypeDesc->Bool
 | .struct _| .array _ _=>true
 |_=>false
theorem S3(b:T.Ok P){t:TypeId}{d:TypeDesc}(a:T.und t=some d):(isAgg t).run P w=.ok (EE d) w:=by
 unfold isAgg;rw[zd,AE b a];cases d<;>simp[EE]
def V.one:V->Bool
 | .agg _| .tup _| .junk=>false
 |_=>true
theorem V.Nt{d:V}(h:d.one=true):d.ok=true:=by cases d<;>first|rfl|cases h
theorem Ae.one{d:V}{v:Value}(b:Ae p d v)(f:d.one=true):v.oneCell'=true:=by
 cases d<;>simp only[V.one]at f<;>simp only[Ae]at b
 case agg|tup=>cases f
 case ptr=>obtain⟨r,n,_,rfl⟩:=b;rfl
 case esl=>obtain⟨a,c,rfl⟩:=b;rfl
 case es0=>obtain⟨a,rfl⟩:=b;rfl
 case sl=>obtain⟨r,n,c,_,rfl,_⟩:=b;rfl
 case map=>obtain⟨r,n,_,rfl⟩:=b;rfl
 case yld=>obtain⟨r,n,_,rfl⟩:=b;rfl
 case fn=>obtain⟨x,y,rfl,_,_⟩:=b;rfl
 case iface=>obtain⟨y,rfl,_⟩:=b;rfl
 all_goals subst b;rfl
@[simp] theorem Addr.NT(r off n:Nat):Addr.add ⟨r,off,none⟩ n=⟨r,off+n,none⟩:=by
 unfold Addr.add;simp
def rd0(h:H)(b off n:Nat):Option (List V):=
 match h.get b with
 |some (.cells cs _ _)=>if off+n<=cs.length/\((cs.drop off).take n).all V.ok=true then some ((cs.drop off).take n)else none
 |_=>none
def rd(h:H)(b off n:Nat):Option (List V):=
 match h.get b with
 |some (.cells cs _ _)=>bif zk (Nat.add off n) (Ge cs)&&LK V.ok (ZN n<|K4 off cs)then some (ZN n<|K4 off cs)else none
 |_=>none
theorem bX:rd=rd0:=by
 funext h b off n
 unfold rd rd0;split
 ·rw[D7,RN,PQ,Gb];simp
 ·rfl
theorem cell_of(hr:R p h w){b:Nat}{cs:List V}{t:TypeId}{fz:Nat×Nat}(a:h.get b=some (.cells cs t fz)):
  ∃r n c fz',p[b]?=some (r,n)/\w.heap[r]?=some (.cells c t fz')/\c.size=n/\cs.length<=n/\ED p cs (c.toList.take cs.length)/\(∀i,w.cell? ⟨r,i,none⟩=c[i]?)/\
   ∀i,i<n->fz'.1<=i->i<fz'.2->fz.1<=i/\i<fz.2:=by
 obtain⟨r,n,x,d,g,c,fz',o,k,l,f,m⟩:=hr.obj b _ a;grind [World.cell?]
theorem R1{a:Addr}{v:Value}(b:w.cell? a=some v):(load a).run P w=.ok v w:=by simp[b]
theorem run_loadCellsFrom{a:Addr}:∀(n i:Nat) (b:Array Value) (vs:List Value),vs.length=n->(∀j v,vs[j]?=some v->w.cell? (a.add<|i+j)=some v)->
  (loadCellsFrom a i n b).run P w=.ok (b++vs.toArray) w
 |0,i,b,vs,c,_=>by
  simp_all [loadCellsFrom]
 |n+1,i,b,[],c,_=>by grind
 |n+1,i,b,v::vs,c,d=>by
  unfold loadCellsFrom;rw[zd,R1 (a:=a.add i) (by have:=d 0 v rfl;simpa using this)];simp only[zc];rw[run_loadCellsFrom n (i+1) (b.push v) vs ah (fun j u f=>by
   have:=d (j+1) u ah;grind)]
  simp
theorem run_loadCells(hr:R p h w){b off n:Nat}{k:List V}(f:rd h b off n=some k):
  ∃r m vs,p[b]?=some (r,m)/\(loadCells ⟨r,off,none⟩ n).run P w=.ok vs.toArray w/\Ay p k vs/\vs.length=n/\∀i v,vs[i]?=some v->w.cell? ⟨r,off+i,none⟩=some v:=by
 rw[bX]at f;unfold rd0 at f;split at f
 case h_2=>cases f
 rename_i cs t fz o;split at f
 case isFalse=>cases f
 cases f;obtain⟨r,m,c,_,l,u,y,x,q,s,_⟩:=cell_of hr o;have g:Ay p ((cs.drop off).take n) ((c.toList.take cs.length).drop off|>.take n):=((q.drop off).take n).KP ah;have a:((c.toList.take cs.length).drop off|>.take n).length=n:=ah
 have d:∀i v,((c.toList.take cs.length).drop off|>.take n)[i]?=some v->w.cell? ⟨r,off+i,none⟩=some v:=by
  grind
 refine⟨r,m,_,l,?_,g,a,d⟩;unfold loadCells;rw[run_loadCellsFrom n 0 #[] _ a (by simp_all)];simp
def FH(T:Cj)(h:H)(t:TypeId)(a:V):Option V:=
 match a,T.und t,T.inf t with
 | .ptr b off,some d,some i=>
  bif EE d then(rd h b off i.size).map .agg
  else match rd h b off 1 with
   |some (v::_)=>some v
   |_=>none
 |_,_,_=>none
theorem Wd(x:T.Ok P)(hr:R p h w){t:TypeId}{a v:V}{o:Value}(l:Ae p a o)(c:FH T h t a=some v):
  ∃v',(Instr.loadAt t o).run P w=.ok v' w/\Ae p v v':=by
 unfold FH at c;split at c
 case h_2=>cases c
 rename_i b off d i y C;simp only[Ae]at l;obtain⟨r,n,hp,rfl⟩:=l;unfold Instr.loadAt ye;simp only[zd,zf,zc];unfold loadVar;simp only[zd];rw[S3 x y];simp only[zc];cases g:EE d with
 |true=>
  simp only[g,we]at c;rw[zi]at c;obtain⟨F,k,rfl⟩:=c;obtain⟨B,m,vs,f,q,s,_⟩:=run_loadCells (P:=P) hr k;rw[hp]at f;cases f;simp only[wm,zd,BH x C,zc,q,zf];simp_all [Ae]
 |false=>
  simp only[g,wg]at c;split at c
  case h_2=>cases c
  rename_i v0 tl k;cases c;obtain⟨B,m,vs,f,q,s,E,A⟩:=run_loadCells (P:=P) hr k;rw[hp]at f;cases f;cases vs with
  |nil=>grind
  |cons u D=>
   simp at s;simp only[zp,vg];have:=A 0 u rfl;simp_all
def HJ:List V->Nat->List V->List V
 |cs,_,[]=>cs
 |cs,off,v::vs=>HJ (cs.set off v) (off+1) vs
@[simp] theorem Jz:∀(vs:List V) (cs:List V) (off:Nat),(HJ cs off vs).length=cs.length
 |[],_,_=>rfl
 |v::vs,cs,off=>by simp[HJ,Jz vs]
def clear(fz:Nat×Nat)(off n:Nat):Bool:=zk fz.2 off||zk (off+n) fz.1||zk fz.2 fz.1
def wr0(h:H)(b off:Nat)(vs:List V):Option H:=
 match h.get b with
 |some (.cells cs t fz)=>bif zk (off+vs.length) cs.length&&clear fz off vs.length&&vs.all V.one then some (h.put b<|.cells (HJ cs off vs) t fz)else none
 |_=>none
theorem Nf(a:V):∀(vs cs:List V) (off:Nat),HJ (a::cs) (off+1) vs=a::HJ cs off vs
 |[],cs,off=>rfl
 |v::vs,cs,off=>by
  show HJ ((a::cs).set (off+1) v) (off+1+1) vs=a::HJ (cs.set off v) (off+1) vs;rw[List.set_cons_succ,Nf a vs]
theorem Ql:∀(vs:List V) (off:Nat),HJ [] off vs=[]
 |[],_=>rfl
 |v::vs,off=>by show HJ ([].set off v) (off+1) vs=[];rw[List.set_nil,Ql vs]
theorem WN:∀(vs cs:List V),KR vs cs=HJ cs 0 vs
 |[],cs=>rfl
 |v::vs,[]=>(Ql _ _).symm
 |v::vs,c::cs=>by
  show v::KR vs cs=HJ ((c::cs).set 0 v) (0+1) vs;rw[List.set_cons_zero,Nf,WN vs cs]
theorem Kn(vs:List V):∀(off:Nat) (cs:List V),CL off vs cs=HJ cs off vs
 |0,cs=>WN vs cs
 |off+1,[]=>(Ql _ _).symm
 |off+1,c::cs=>by rw[Nf];exact wi (c:: ·)<|Kn vs off cs
def wr(h:H)(b off:Nat)(vs:List V):Option H:=
 match h.get b with
 |some (.cells cs t fz)=>bif zk (Nat.add off<|Ge vs) (Ge cs)&&clear fz off (Ge vs)&&LK V.one vs then some (h.put b<|.cells (CL off vs cs) t fz)else none
 |_=>none
theorem Af3:wr=wr0:=by
 grind [wr,wr0,D7,Gb,Kn]
theorem qV(a:Array Obj)(i:Nat)(x:Obj)(j:Nat):(a.setIfInBounds i x)[j]?=if i=j/\j<a.size then some x else a[j]?:=by
 grind
theorem nT{a:Array Obj}{i:Nat}{x:Obj}(h:a[i]?=some x):a.setIfInBounds i x=a:=by
 grind
theorem Qw{a:Array Obj}{i:Nat}{f:Obj->Obj}{x:Obj}(h:a[i]?=some x):a.modify i f=a.setIfInBounds i (f x):=by
 grind
theorem setCell_eq{w:World}{r off:Nat}{c:Array Value}{t:TypeId}{fz:Nat×Nat}(v:Value)(a:w.heap[r]?=some (.cells c t fz)):
  w.setCell ⟨r,off,none⟩ v={ w with heap:=w.heap.setIfInBounds r (.cells (c.setIfInBounds off v) t fz) }:=by
 grind [World.setCell,Qw]
theorem GM{r:Nat}{t:TypeId}{fz:Nat×Nat}:∀(vs:List Value) (w:World) (c:Array Value) (off i:Nat),w.heap[r]?=some (.cells c t fz)->off+i+vs.length<=c.size->
  (∀v∈vs,v.oneCell'=true)->(∀j,i<=j->j<i+vs.length->¬(fz.1<=off+j/\off+j<fz.2))->
  ∃a:Array Value,(storeCells ⟨r,off,none⟩ vs i).run P w=.ok () { w with heap:=w.heap.setIfInBounds r (.cells a t fz) }/\a.size=c.size/\
   a.toList=(List.range c.size).map (fun j=>if off+i<=j/\j<off+i+vs.length then vs.getD (j-(off+i)) default else c.toList.getD j default)
 |[],w,c,off,i,b,_,_,_=>by
  refine⟨c,?_,rfl,?_⟩
  ·simp_all [storeCells,nT]
  ·apply List.ext_getElem (by simp);grind
 |v::vs,w,c,off,i,b,f,l,k=>by
  simp at f;have g:w.cell? ⟨r,off+i,none⟩=some (c[off+i]'ae):=by simp[World.cell?,b]
  have u:w.frozen? ⟨r,off+i,none⟩=false:=by
   simp_all [World.frozen?]
  have m:=setCell_eq (off:=off+i) v b;have d:=(Array.getElem?_eq_some_iff.1 b).1;obtain⟨a,y,A,x⟩:=GM vs { w with heap:=w.heap.setIfInBounds r (.cells (c.setIfInBounds (off+i) v) t fz) } (c.setIfInBounds (off+i) v) off (i+1)
   (by rw[qV,wd ⟨rfl,d⟩]) ah ah (fun j o s=>k j ae ah)
  refine⟨a,?_,by grind,?_⟩
  ·simp_all [storeCells,run_store]
  ·rw[x];apply List.ext_getElem (by simp);intro j q B;simp at q;simp only[List.getElem_map,List.getElem_range,List.length_cons];grind
theorem Qp:∀(vs cs:List V) (off j:Nat),off+vs.length<=cs.length->(HJ cs off vs)[j]?=if off<=j/\j<off+vs.length then vs[j-off]? else cs[j]?
 |[],cs,off,j,_=>by rw[wc<|by simp];rfl
 |v::vs,cs,off,j,a=>by
  unfold HJ;rw[Qp vs (cs.set off v) (off+1) j ah];grind
theorem T8(hr:R p h w){b off:Nat}{f:List V}{vs:List Value}(A:Ay p f vs){h':H}(k:wr h b off f=some h'):
  ∃r m w',p[b]?=some (r,m)/\(storeCells ⟨r,off,none⟩ vs).run P w=.ok () w'/\Ext p h w p h' w':=by
 rw[Af3]at k;unfold wr0 at k;split at k
 case h_2=>cases k
 rename_i cs t fz B;cases q:(zk (off+f.length) cs.length&&clear fz off f.length&&f.all V.one)with
 |false=>grind
 |true=>
  simp only[q,we,ze]at k;subst k;simp only[zn,z8,List.all_eq_true]at q;obtain⟨⟨Q,E⟩,X⟩:=q;obtain⟨r,m,c,fz',h1,h2,h3,h4,h5,h6,h7⟩:=cell_of hr B;have S:=A.length;have l:∀v∈vs,v.oneCell'=true:=by
   intro v C;obtain⟨i,F⟩:=List.mem_iff_getElem?.1 C;have I:=(zm.1 F).1;obtain⟨u,a,g⟩:=A.get (i:=i) (d:=f[i]'ae) (by simp);rw[F]at a;cases a;exact g.one ah
  have x:∀j,0<=j->j<0+vs.length->¬(fz'.1<=off+j/\off+j<fz'.2):=by
   rintro j _ Z ⟨K,J⟩;have:=h7 (off+j) ae K J;simp only[clear,yu,z8]at E;omega
  obtain⟨D,L,O,W⟩:=GM (P:=P) vs w c off 0 h2 ae l x;refine⟨r,m,_,h1,L,Ext.put hr B h1 ?_ rfl rfl rfl rfl (fun M t1 N e1 s=>?_)⟩
  case refine_2=>
   obtain⟨l1,Y,U⟩:=s;simp only[clear,yu,z8]at E;have G:D=c:=by
    apply Array.ext';apply List.ext_getElem?;grind
   grind
  refine⟨D,fz',rfl,by omega,by simp_all,?_,h7⟩;refine⟨by simp;omega,?_⟩;intro i d v o C y;rw[Qp f cs off i ae]at o;by_cases e:off<=i/\i<off+f.length
  ·rw[wd e]at o;obtain⟨u,a,g⟩:=A.get o;grind
  ·rw[wc e]at o;obtain⟨u,a,g⟩:=h5.get o y;grind
def Iy(T:Cj)(h:H)(t:TypeId)(a x:V):Option H:=
 match a,T.inf t with
 | .ptr b off,some i=>bif zh x.cells.length i.size then wr h b off x.cells else none
 |_,_=>none
theorem jF(g:T.Ok P)(hr:R p h w){t:TypeId}{a x:V}{d x':Value}(k:Ae p a d)(f:Ae p x x'){h':H}(c:Iy T h t a x=some h'):
  ∃w',(Instr.storeAt t d x').run P w=.ok () w'/\Ext p h w p h' w':=by
 unfold Iy at c;split at c
 case h_2=>cases c
 rename_i b off i l;rw[Bx]at c;by_cases e:x.cells.length=i.size
 ·simp only[e,decide_true,we]at c;obtain⟨r,n,hp,rfl⟩:=k;obtain⟨r',m,w',h1,h2,h3⟩:=T8 (P:=P) hr f.cells c;rw[hp]at h1;cases h1;refine⟨w',?_,h3⟩;have o:=f.cells.length;unfold Instr.storeAt ye;unfold storeVar;have:x'.cells.size=i.size:=ah
  simp only[zd,BH g l,zc,this,vc,not_true_eq_false,vg];exact h2
 grind
theorem CZ(t:TypeId)(c:Array Value):(newRow t c).run P w=.ok ⟨w.heap.size,0,none⟩ { w with heap:=w.heap.push (.cells c t) }:=by
 rfl
def JI(h:H)(t:TypeId)(cs:List V):H:=h.push<|.cells cs t (0,0)
theorem Pp(hr:R p h w)(t:TypeId){b:List V}{c:Array Value}(a:Ay p b c.toList):
  ∃n,Ext p h w (p++[(w.heap.size,n)]) (JI h t b) { w with heap:=w.heap.push (.cells c t) }/\(p++[(w.heap.size,n)])[h.nx]?=some (w.heap.size,n)/\n=c.size:=by
 refine⟨c.size,Ext.push hr ⟨c,(0,0),rfl,rfl,by have:=a.length;grind,?_,ae⟩,by rw[<-hr.len];simp,rfl⟩;have:=a.length;rw[List.take_of_length_le ae];exact a.toC
def Hr(T:Cj)(h:H)(t:TypeId):Option (V×H):=(T.inf t).map fun i=>(.ptr h.nx 0,JI h t i.zero)
theorem iE(d:T.Ok P)(hr:R p h w){t:TypeId}{v:V}{h':H}(b:Hr T h t=some (v,h')):
  ∃v' p' w',(Instr.alloc t true<|.tuple #[]).run P w=.ok v' w'/\Ae p' v v'/\Ext p h w p' h' w':=by
 unfold Hr at b;rw[zi]at b;obtain⟨i,c,a⟩:=b;cases a;obtain⟨z,hz,hzr⟩:=EL d c;obtain⟨n,a,hp,_⟩:=Pp hr t<|hzr p;refine⟨.pointer<|some ⟨w.heap.size,0,none⟩,_,_,?_,?_,a⟩
 ·grind [Instr.alloc,zd,zc,newVar,CZ,zf]
 simp_all [Ae]
def gK(h:H)(t:TypeId)(x:V):V×H:=(.ptr h.nx 0,JI h t x.cells)
theorem Abx(hr:R p h w){t:TypeId}{x:V}{x':Value}(b:Ae p x x'):
  ∃v' p' w',(Instr.box t x').run P w=.ok v' w'/\Ae p' (gK h t x).1 v'/\Ext p h w p' (gK h t x).2 w':=by
 obtain⟨n,a,hp,_⟩:=Pp hr t b.cells;refine⟨.pointer<|some ⟨w.heap.size,0,none⟩,_,_,?_,?_,a⟩
 ·rfl
 simp_all [gK,Ae]
def XK(op:BinOp)(x y:Rd):Option V:=
 match op with
 | .add=>if x.length+y.length<=4611686018427387904 then some (.str<|x++y)else none
 | .eql=>some<|.bool<|x==y
 | .neq=>some<|.bool !(x==y)
 | .lss=>some<|.bool<|yr x y
 | .leq=>some<|.bool<|yr x y||x==y
 | .gtr=>some<|.bool !(yr x y||x==y)
 | .geq=>some<|.bool !yr x y
 |_=>none
theorem I7(s:Rd):(bytesOf s).toList=s:=ByteArray.toList_mk s
theorem Ch(s:Rd):(bytesOf s).size=s.length:=by rfl
theorem Q6(x y:Rd):bytesOf x++bytesOf y=bytesOf (x++y):=by
 rfl
theorem AaA{op:BinOp}{x y:Rd}{v:V}(a:XK op x y=some v):
  ∃v',(Op.stringOp op (bytesOf x)<|bytesOf y).run P w=.ok v' w/\Ae p v v':=by
 unfold Op.stringOp;simp only[I7,Ch];cases op<;>simp only[XK]at a
 case add=>
  split at a
  ·cases a;rw[wc<|by grind [IntKind.max,IntKind.bits]];simp_all [Ae,Q6]
  grind
 all_goals first
  |(cases a;done)
  |(cases a;exact⟨_,zf ..,by simp[Ae]⟩)
def PU(op:BinOp)(k:IntKind)(a b:Int):Option V:=
 match op with
 | .add=>some<|.int k<|k.wrap<|a+b
 | .sub=>some<|.int k<|k.wrap<|a-b
 | .mul=>some<|.int k<|k.wrap<|a*b
 | .quo=>if b=0 then none else some<|.int k<|k.wrap<|a.tdiv b
 | .rem=>if b=0 then none else some<|.int k<|a.tmod b
 | .and=>some<|.int k<|k.wrap (ya k.bits a&&&ya k.bits b).toNat
 | .or=>some<|.int k<|k.wrap (ya k.bits a|||ya k.bits b).toNat
 | .xor=>some<|.int k<|k.wrap (ya k.bits a^^^ya k.bits b).toNat
 | .andNot=>some<|.int k<|k.wrap (ya k.bits a&&& ~~~ya k.bits b).toNat
 | .eql=>some<|.bool<|a==b
 | .neq=>some<|.bool<|a !=b
 | .lss=>some<|.bool<|a<b
 | .leq=>some<|.bool<|a<=b
 | .gtr=>some<|.bool<|a>b
 | .geq=>some<|.bool<|a>=b
 |_=>none
def jG(op:BinOp)(k:IntKind)(a b:Int):Option V:=
 if b<0 then none else
 match op with
 | .shl=>some<|.int k<|k.wrap<|a*2^(min b.toNat k.bits)
 | .shr=>some<|.int k<|a.fdiv<|2^(min b.toNat k.bits)
 |_=>none
def Q9(ks:Option (List FK))(a b:List V):Option Bool:=
 match ks with
 |some ks=>bif fit ks a&&fit ks b then Ca a b else none
 |none=>none
theorem Iw{ks:Option (List FK)}{b a:List V}{r:Bool}(h:Q9 ks b a=some r):∃l,ks=some l/\fit l b=true/\fit l a=true/\Ca b a=some r:=by
 unfold Q9 at h;grind
def BF(T:Cj)(t:TypeId)(x y:V):Option Bool:=
 match T.und t,x,y with
 |some .bool,.bool a,.bool b=>some<|a==b
 |some (.pointer _),.nilp,y=>match y with| .nilp=>some true| .ptr .. =>some false|_=>none
 |some (.pointer _),.ptr ..,.nilp=>some false
 |some (.pointer e),.ptr a i,.ptr b j=>if a=b then match T.inf e with|some f=>if f.size≠0 then some (i==j)else none|_=>none else none
 |some (.interface _),.iface ..,.nili=>some false
 |some (.interface _),.nili,.iface .. =>some false
 |some (.slice _),.nils,y=>match y with| .nils=>some true| .sl .. =>some false| .esl=>some false| .es0=>some false|_=>none
 |some (.slice _),.sl ..,.nils=>some false
 |some (.slice _),.esl,.nils=>some false
 |some (.slice _),.es0,.nils=>some false
 |some (.map _ _),.nilm,y=>match y with| .nilm=>some true| .map .. =>some false|_=>none
 |some (.map _ _),.map ..,.nilm=>some false
 |some (.func ..),.nilf,.nilf=>some true
 |some (.func ..),.fn ..,.nilf=>some false
 |some (.func ..),.nilf,.fn .. =>some false
 |_,.agg c,.agg d=>Q9 (T.flat t) c d
 |_,_,_=>none
def Lv(T:Cj)(op:BinOp)(t:TypeId)(x y:V):Option V:=
 match op,x,y with
 | .shl,.int k a,.int _ b=>jG .shl k a b
 | .shr,.int k a,.int _ b=>jG .shr k a b
 |op,.int k a,.int c b=>if k=c then PU op k a b else none
 |op,.str a,.str b=>XK op a b
 | .eql,x,y=>(BF T t x y).map fun b=>.bool b
 | .neq,x,y=>(BF T t x y).map fun b=>.bool !b
 |_,_,_=>none
theorem zH{op:BinOp}{k:IntKind}{a b:Int}{v:V}(d:op≠ .shl/\op≠ .shr)(c:PU op k a b=some v)(t:TypeId):
  ∃v',(binOp op t (.int k a)<|.int k b).run P w=.ok v' w/\Ae p v v':=by
 cases op<;>simp only[PU]at c<;>simp only[binOp,vc,not_true_eq_false,vg,Op.intArith,Op.intDiv,Op.intBits,Op.intCmp]
 case quo|rem=>
  split at c
  ·cases c
  ·cases c;simp_all [Ae]
 case shl=>grind
 case shr=>grind
 all_goals (cases c;exact⟨_,zf ..,by simp[Ae]⟩)
theorem SF(m:T.Ok P){t:TypeId}{x y:V}{x' y':Value}(c:Ae p x x')(b:Ae p y y'){r:Bool}(a:BF T t x y=some r):
  (yw t x' y').run P w=.ok r w:=by
 unfold BF at a;split at a
 case h_16=>
  rename_i q A;obtain⟨l,g,d,B,s⟩:=Iw a;simp only[Ae]at c b;obtain⟨u,rfl,f⟩:=c;obtain⟨v,rfl,hv⟩:=b;exact m.flat t l g p q A u v r w d B f hv s
 case h_17=>cases a
 all_goals (rename_i f;simp only[Ae]at c b;unfold yw Op.maxDepth Op.equalIn;rw[zd,AE m f];simp only[zc])
 case h_1=>simp_all
 case h_2=>subst c;split at a<;>first|(cases a;done)|(cases a;simp only[Ae]at b;first|(subst b;rfl)|(obtain⟨_,_,_,rfl⟩:=b;simp))
 case h_3=>obtain⟨_,_,_,rfl⟩:=c;simp_all
 case h_4=>
  split at a
  case isFalse=>cases a
  rename_i e;subst e;split at a
  case h_2=>cases a
  rename_i C k;split at a
  case isFalse=>cases a
  rename_i o;cases a;obtain⟨D,n1,g,rfl⟩:=c;obtain⟨r2,n2,d,rfl⟩:=b;rw[g]at d;cases d;simp only[zd,BH m k,zc,o,vc,not_false_eq_true,wm];unfold sameAddr;simp only[beq_self_eq_true,wm,zf];congr 1;grind
 case h_5=>obtain⟨_,rfl,_⟩:=c;simp_all
 case h_6=>obtain⟨_,rfl,_⟩:=b;simp_all
 case h_7=>subst c;split at a<;>first|(cases a;done)|(cases a;simp only[Ae]at b;first|(subst b;rfl)|(obtain⟨_,_,_,_,rfl,_⟩:=b;rfl)|(obtain⟨_,_,rfl⟩:=b;simp;done)|(obtain⟨_,rfl⟩:=b;simp;done))
 case h_8=>obtain⟨_,_,_,_,rfl,_⟩:=c;simp_all
 case h_9=>obtain⟨_,_,rfl⟩:=c;simp_all
 case h_10=>obtain⟨_,rfl⟩:=c;simp_all
 case h_11=>subst c;split at a<;>first|(cases a;done)|(cases a;simp only[Ae]at b;first|(subst b;rfl)|(obtain⟨_,_,_,rfl⟩:=b;simp))
 case h_12=>obtain⟨_,_,_,rfl⟩:=c;simp_all
 case h_13=>simp_all
 case h_14=>obtain⟨_,_,rfl,_⟩:=c;simp_all
 case h_15=>obtain⟨_,_,rfl,_⟩:=b;simp_all
def TP:V->Bool
 | .int .. | .str _| .tup _=>false
 |_=>true
theorem Mi{t:TypeId}{x y:V}{r:Bool}(a:BF T t x y=some r):TP x=true:=by
 unfold BF at a;split at a<;>first|rfl|grind
theorem O9{t:TypeId}{x:V}{x' y':Value}(a:Ae p x x')(hp:TP x=true):
  binOp .eql t x' y'=(do pure (.bool<|<-yw t x' y'))/\binOp .neq t x' y'=(do pure (.bool<|!(<-yw t x' y'))):=by
 cases x<;>simp only[TP]at hp<;>simp only[Ae]at a
 case int|str|tup=>cases hp
 case ptr=>obtain⟨_,_,_,rfl⟩:=a;cases y'<;>exact⟨rfl,rfl⟩
 case esl=>obtain⟨_,_,rfl⟩:=a;cases y'<;>exact⟨rfl,rfl⟩
 case es0=>obtain⟨_,rfl⟩:=a;cases y'<;>exact⟨rfl,rfl⟩
 case sl=>obtain⟨_,_,_,_,rfl,_⟩:=a;cases y'<;>exact⟨rfl,rfl⟩
 case map=>obtain⟨_,_,_,rfl⟩:=a;cases y'<;>exact⟨rfl,rfl⟩
 case yld=>obtain⟨_,_,_,rfl⟩:=a;cases y'<;>exact⟨rfl,rfl⟩
 case fn=>obtain⟨_,_,rfl,_⟩:=a;cases y'<;>exact⟨rfl,rfl⟩
 case iface=>obtain⟨_,rfl,_⟩:=a;cases y'<;>exact⟨rfl,rfl⟩
 case agg=>obtain⟨_,rfl,_⟩:=a;cases y'<;>exact⟨rfl,rfl⟩
 all_goals (subst a;cases y'<;>exact⟨rfl,rfl⟩)
theorem xX(g:T.Ok P){op:BinOp}{t:TypeId}{x y:V}{x' y':Value}(d:Ae p x x')(f:Ae p y y'){v:V}(a:Lv T op t x y=some v):
  ∃v',(binOp op t x' y').run P w=.ok v' w/\Ae p v v':=by
 unfold Lv at a;split at a
 case h_1=>
  unfold jG at a;split at a
  ·cases a
  ·cases a;simp_all [binOp,Op.shift,wc,Ae]
 case h_2=>
  unfold jG at a;split at a
  ·cases a
  ·cases a;simp_all [binOp,Op.shift,wc,Ae]
 case h_3=>
  simp_all [Ae,zH]
 case h_4=>
  simp_all [Ae,AaA,binOp]
 case h_5=>
  rw[zi]at a;obtain⟨b,c,rfl⟩:=a;rw[(O9 d<|Mi c).1];simp only[zd,SF g d f c,zc];simp_all [Ae]
 case h_6=>
  rw[zi]at a;obtain⟨b,c,rfl⟩:=a;rw[(O9 d<|Mi c).2];simp only[zd,SF g d f c,zc];simp_all [Ae]
 grind
theorem VX{a:V}{b:Value}(c:Ae p a b)(h:a≠ .nili):b≠ .nilIface:=by
 intro e;subst e;cases a<;>simp only[Ae]at c<;>first|exact h rfl|(simp at c;done)|(done)|(done)|(done)|(done)
theorem qX{a:V}{c:Array Value}(d:Ae p a (.agg c)):∃b,a=.agg b/\Ay p b c.toList:=by
 cases a<;>simp only[Ae]at d<;>first|(done)|grind|grind|grind|grind
theorem RK{op:BinOp}{t:TypeId}{x y:Operand}{b b':Value}(a:op≠ .eql)(c:op≠ .neq):eqGuard op t x y b b'=pure ():=by
 cases op<;>first|rfl|exact wh rfl a|grind
theorem eF{op:BinOp}{t:TypeId}{x y:Operand}{a b':Value}(h0:a≠ .nilIface\/b'≠ .nilIface)(f:(∃c d,a=.agg c/\b'=.agg d)->P.eqGuardType P.depth t=false):
  (eqGuard op t x y a b').run P w=.ok () w:=by
 by_cases b:op=.eql\/op=.neq
 ·have:eqGuard op t x y a b'=eqGuard .eql t x y a b':=by rcases b with rfl|rfl<;>rfl
  rw[this];unfold eqGuard;simp only[Bool.not_true,zp,vg];split
  ·grind
  ·simp_all
  ·rfl
 simp_all [RK]
theorem jB(C:T.Ok P){op:BinOp}{t:TypeId}{x y:Operand}{a b:V}{o b':Value}(D:Ae p a o)(B:Ae p b b'){v:V}(m:Lv T op t a b=some v):
  (eqGuard op t x y o b').run P w=.ok () w:=by
 by_cases s:op=.eql\/op=.neq
 ·refine eF ?_ ?_
  ·by_cases A:a=.nili
   ·by_cases u:b=.nili
    ·subst A u;have:BF T t .nili .nili=none:=by simp_all [BF]
     rcases s with rfl|rfl<;>simp[Lv,this]at m
    grind [VX]
   grind [VX]
  ·rintro⟨c,d,rfl,rfl⟩;obtain⟨f,rfl,g⟩:=qX D;obtain⟨ys,rfl,h2⟩:=qX B;have k:BF T t (.agg f) (.agg ys)=Q9 (T.flat t) f ys:=by simp_all [BF]
   cases q:Q9 (T.flat t) f ys with
   |some r=>obtain⟨l,g,_⟩:=Iw q;exact C.guard t l g
   |none=>
    rw[q]at k;rcases s with rfl|rfl<;>simp[Lv,k]at m
 simp_all [RK]
def dun(op:UnOp)(x:V):Option V:=
 match op,x with
 | .neg,.int k n=>some<|.int k<|k.wrap<|0-n
 | .xor,.int k n=>PU .xor k (if k.signed then -1 else k.max) n
 | .not,.bool b=>some<|.bool !b
 |_,_=>none
theorem Aed{op:UnOp}{x:V}{x':Value}(b:Ae p x x'){v:V}(a:dun op x=some v):∃v',(Op.unary op x').run P w=.ok v' w/\Ae p v v':=by
 unfold dun at a;split at a
 case h_1=>subst b;cases a;exact⟨_,rfl,by rfl⟩
 case h_2=> 
  subst b;simp only[PU,ze]at a;subst a;exact⟨_,rfl,by rfl⟩
 case h_3=>subst b;cases a;exact⟨_,rfl,by rfl⟩
 grind
def Acx:V->Option UInt8
 | .int .u8 (.ofNat n)=>some<|UInt8.ofNat n
 |_=>none
def bytes?:List V->Option Rd
 |[]=>some []
 |v::vs=>
  match Acx v,bytes? vs with
  |some b,some a=>some (b::a)
  |_,_=>none
def GI(T:Cj)(h:H)(src dst:TypeId)(x:V):Option V:=
 match T.und src,T.und dst,x with
 |some _,some<|.int k,.int _ n=>some<|.int k<|k.wrap n
 |some _,some .string,.str s=>some<|.str s
 |some (.slice e),some .string,.nils=>match T.und e with|some (.int .u8)=>some (.str [])|_=>none
 |some (.slice e),some .string,.sl b off len _ _=>
  match T.und e with
  |some (.int .u8)=>match rd h b off len with
   |some cs=>(bytes? cs).map .str
   |none=>none
  |_=>none
 |_,_,_=>none
theorem Ot{f:Value->ByteArray->Sem (ForInStep ByteArray)}(q:∀n s,f (.int .u8 n) s=pure (ForInStep.yield<|s.push<|UInt8.ofNat n.toNat)):
  ∀(cs:List V) (vs:List Value) (g:Rd) (a:Rd),Ay p cs vs->bytes? cs=some g->
  ∀w,(forIn vs (bytesOf a) f).run P w=.ok (bytesOf<|a++g) w
 |[],vs,g,a,d,k,w=>by
  simp_all [bytes?]
 |c::cs,[],_,_,d,_,_=>by simp at d
 |c::cs,v::vs,g,a,d,k,w=>by
  simp only[Bm]at d;unfold bytes? at k;split at k
  case h_2=>cases k
  rename_i b tl l m;unfold Acx at l;split at l
  case h_2=>cases l
  rename_i n;have o:=d.1;simp only[Ae]at o;have:=Ot q cs vs tl (a++[UInt8.ofNat n]) d.2 m w;grind [bytesOf,ByteArray.push]
theorem mW(b:T.Ok P)(hr:R p h w){src dst:TypeId}{x:V}{x':Value}(o:Ae p x x'){v:V}(a:GI T h src dst x=some v):
  ∃v',(convert src dst x').run P w=.ok v' w/\Ae p v v':=by
 unfold GI at a;split at a
 case h_1=>
  rename_i d f;subst o;cases a;unfold convert;simp only[zd,AE b d,AE b f,zc];exact⟨_,rfl,by rfl⟩
 case h_2=>
  rename_i d f;cases a;unfold convert;simp only[zd,AE b d,AE b f,zc];simp_all [Ae]
 case h_3=>
  rename_i d f;subst o;split at a
  case h_2=>cases a
  rename_i l;cases a;unfold convert;simp only[zd,AE b d,AE b f,AE b l,zc];exact⟨_,rfl,by rfl⟩
 case h_4=>
  rename_i d f;split at a
  case h_2=>cases a
  rename_i l;split at a
  case h_2=>cases a
  rename_i cs k;rw[zi]at a;obtain⟨q,g,rfl⟩:=a;obtain⟨r,n,c,g1,rfl,g2⟩:=o;obtain⟨r',m,vs,k1,k2,k3,_⟩:=run_loadCells (P:=P) hr k;rw[g1]at k1;cases k1;refine⟨.string<|bytesOf q,?_,by rfl⟩;unfold convert;simp only[zd,AE b d,AE b f,AE b l,zc];unfold Conv.bytesToString;simp only[zd,k2,zc];simp only[List.forIn_toArray];have e:ByteArray.empty=bytesOf []:=rfl;rw[e,Ot (P:=P) (by simp) cs vs q [] k3 g w];simp
 grind
def Mx(T:Cj)(t:TypeId)(cs:List V)(off:Nat):Option V:=
 match T.und t,T.inf t with
 |some d,some i=>bif EE d then some (.agg<|(cs.drop off).take i.size)else cs[off]?
 |_,_=>none
theorem WL(g:T.Ok P){t:TypeId}{cs:List V}{c:Array Value}{off:Nat}(f:Ay p cs c.toList){v:V}(a:Mx T t cs off=some v):
  ∃v',(part t c off).run P w=.ok v' w/\Ae p v v':=by
 unfold Mx at a;split at a
 case h_2=>cases a
 rename_i d i k l;unfold part;simp only[zd,S3 g k,zc];cases b:EE d with
 |true=>
  simp only[b,we,ze]at a;subst a;simp only[wm,zd,BH g l,zc];refine⟨_,(by rfl),?_⟩;refine⟨_,rfl,?_⟩;have:(c.extract off<|off+i.size).toList=(c.toList.drop off).take i.size:=by
   simp
  rw[this];exact(f.drop off).take i.size
 |false=>
  simp only[b,wg]at a;obtain⟨u,o,m⟩:=f.get a;simp_all
def Ln(T:Cj)(t:TypeId)(x:V)(f:Nat):Option V:=
 match T.und t,x with
 |some (.struct fs),.agg cs=>match fs[f]? with
  |some a=>Mx T a.type cs a.offset
  |none=>none
 |_,_=>none
theorem gA(b:T.Ok P){t:TypeId}{x:V}{x':Value}{f:Nat}(k:Ae p x x'){v:V}(a:Ln T t x f=some v):
  ∃v',(Instr.field t x' f).run P w=.ok v' w/\Ae p v v':=by
 unfold Ln at a;split at a
 case h_2=>cases a
 rename_i fs cs d;split at a
 case h_2=>cases a
 rename_i m l;obtain⟨c,rfl,g⟩:=k;unfold Instr.field;simp only[zd,AE b d,zc,l];exact WL b g a
def Lq(T:Cj)(t:TypeId)(x:V)(f:Nat):Option V:=
 match T.und t,x with
 |some (.struct fs),.ptr b off=>match fs[f]? with
  |some a=>match T.inf a.type with
   |some i=>if i.size=0 then none else some<|.ptr b<|off+a.offset
   |none=>none
  |none=>none
 |_,_=>none
theorem fS(c:T.Ok P){t:TypeId}{x:V}{x':Value}{f:Nat}(m:Ae p x x'){v:V}(a:Lq T t x f=some v):
  ∃v',(Instr.fieldAt t x' f).run P w=.ok v' w/\Ae p v v':=by
 unfold Lq at a;split at a
 case h_2=>cases a
 rename_i fs b off d;split at a
 case h_2=>cases a
 rename_i o g;split at a
 case h_2=>cases a
 rename_i i l;split at a
 case isTrue=>cases a
 rename_i k;cases a;obtain⟨r,n,hp,rfl⟩:=m;unfold Instr.fieldAt;simp only[zd,AE c d,zc,g];unfold ye fieldPlace;simp only[zf,zc,zd,BH c l,k,vg,Addr.NT];simp_all [Ae]
def FX(T:Cj)(t:TypeId)(x ix:V):Option V:=
 match T.und t,x,ix with
 |some (.slice e),.sl b off len _ _,.int _ i=>
  match T.inf e,i with
  |some a,.ofNat n=>bif z7 n len then some (.ptr b<|off+n*a.size)else none
  |_,_=>none
 |some (.array len e),.ptr b off,.int _ i=>
  match T.inf e,i with
  |some a,.ofNat n=>bif z7 n len then some (.ptr b<|off+n*a.size)else none
  |_,_=>none
 |_,_,_=>none
theorem Hz(a b:Nat):z7 a b=decide (a<b):=by
 rw[Bool.eq_iff_iff];simp
theorem eL(s:T.Ok P){t:TypeId}{x ix:V}{x' l:Value}(q:Ae p x x')(g:Ae p ix l){v:V}(d:FX T t x ix=some v):
  ∃v',(Instr.indexAt t x' l).run P w=.ok v' w/\Ae p v v':=by
 unfold FX at d;split at d
 case h_3=>cases d
 case h_1=>
  rename_i e b off len cap o k i u;split at d
  case h_2=>cases d
  rename_i A n y;rw[Hz]at d;by_cases a:n<len
  ·simp only[a,decide_true,we,ze]at d;subst d;simp only[Ae]at q g;obtain⟨r,m,c,hp,rfl,_⟩:=q;subst g;unfold Instr.indexAt asIntOf;have f:(0:Int)<=(n:Int)/\(n:Int)<(len:Int):=⟨by simp,by simpa using a⟩;simp only[zd,zf,AE s u,zc,f,and_self,wm,BH s y,Addr.NT,zy,yb];exact⟨_,rfl,by simp only[Ae];exact⟨_,_,hp,rfl⟩⟩
  ·simp[a]at d
 case h_2=>
  rename_i len e b off k i u;split at d
  case h_2=>cases d
  rename_i A n y;rw[Hz]at d;by_cases a:n<len
  ·simp only[a,decide_true,we,ze]at d;subst d;simp only[Ae]at q g;obtain⟨r,m,hp,rfl⟩:=q;subst g;unfold Instr.indexAt asIntOf ye;have f:(0:Int)<=(n:Int)/\(n:Int)<(len:Int):=⟨by simp,by simpa using a⟩;simp only[zd,zf,AE s u,zc,f,and_self,wm,BH s y,Addr.NT,zy,yb];exact⟨_,rfl,by simp only[Ae];exact⟨_,_,hp,rfl⟩⟩
  ·simp[a]at d
def JG(T:Cj)(t:TypeId)(x ix:V):Option V:=
 match T.und t,x,ix with
 |some .string,.str s,.int _ (.ofNat n)=>match s[n]? with
  |some b=>some<|.int .u8 b.toNat
  |none=>none
 |some (.array len e),.agg cs,.int _ (.ofNat n)=>
  match T.inf e with
  |some a=>bif z7 n len then Mx T e cs (n*a.size)else none
  |_=>none
 |_,_,_=>none
theorem jL(o:T.Ok P){t:TypeId}{x ix:V}{x' l:Value}(m:Ae p x x')(d:Ae p ix l){v:V}(a:JG T t x ix=some v):
  ∃v',(Instr.index t x' l).run P w=.ok v' w/\Ae p v v':=by
 unfold JG at a;split at a
 case h_3=>cases a
 case h_1=>
  rename_i s k n q;split at a
  case h_2=>cases a
  rename_i b r;cases a;simp only[Ae]at m d;subst m d;unfold Instr.index asIntOf;have e:(bytesOf s)[n]?=some b:=by
   have A:=(zm.1 r).1;have u:=(zm.1 r).2;rw[getElem?_pos (bytesOf s) n<|by rw[Ch];exact A];congr 1
  simp only[zd,zf,AE o q,zc,zy,Int.natCast_nonneg,wm,yb,e];exact⟨_,rfl,by simp[Ae]⟩
 case h_2=>
  rename_i len e cs k n q;split at a
  case h_2=>cases a
  rename_i B u;rw[Hz]at a;by_cases f:n<len
  ·simp only[f,decide_true,we]at a;simp only[Ae]at m d;obtain⟨c,rfl,y⟩:=m;subst d;unfold Instr.index asIntOf;have g:(0:Int)<=(n:Int)/\(n:Int)<(len:Int):=⟨by simp,by simpa using f⟩;simp only[zd,zf,AE o q,zc,g,and_self,wm,BH o u,zy,yb];exact WL o y a
  ·simp[f]at a
def HX(x:V)(i:Nat):Option V:=
 match x with
 | .tup vs=>vs[i]?
 |_=>none
theorem VP{x:V}{x':Value}{i:Nat}(d:Ae p x x'){v:V}(a:HX x i=some v):∃v',(Instr.extract x' i).run P w=.ok v' w/\Ae p v v':=by
 unfold HX at a;split at a
 case h_2=>cases a
 obtain⟨c,rfl,b⟩:=d;obtain⟨u,h1,h2⟩:=b.get a;simp_all [Instr.extract]
def C5(x:Option V)(y Ip:Nat):Option Nat:=
 match x with
 |none=>some Ip
 |some (.int _<|.ofNat n)=>bif zk n y then some n else none
 |_=>none
def NQ(mx:Option V)(o:Nat):Nat:=match mx with|some _=>0|none=>o
def qJ(a mx:Option V):Option Nat:=match a,mx with
 |none,some _=>none
 |_,_=>C5 a 0 0
def RQ(mx:Option V):Bool:=match mx with
 |some _=>true
 |none=>false
def Eh(T:Cj)(t:TypeId)(x:V)(lo a mx:Option V):Option V:=
 match T.und t,x with
 |some .string,.str s=>
  match mx,C5 a s.length s.length with
  |none,some h=>match C5 lo h 0 with
   |some l=>some<|.str<|(s.drop l).take<|h-l
   |none=>none
  |_,_=>none
 |some (.slice e),.sl b off len cap o=>
  match T.inf e,C5 mx cap cap with
  |some c,some m=>match (match a,mx with|none,some _=>none|_,_=>C5 a m len)with
   |some h=>match C5 lo h 0 with
    |some l=>
     let o':=NQ mx o
     bif zh m l then(bif zh o' 0 then some (.sl b off (h-l) (m-l) 0)else some .esl)
     else bif zh o' 0||zh o' c.size then some (.sl b (off+l*c.size) (h-l) (m-l) o')else none
    |none=>none
   |none=>none
  |_,_=>none
 |some (.slice e),.nils=>
  match C5 mx 0 0,qJ a mx,T.inf e with
  |some _,some h,some _=>match C5 lo h 0 with
   |some _=>some .nils
   |none=>none
  |_,_,_=>none
 |some (.slice e),.esl=>
  match C5 mx 0 0,qJ a mx,T.inf e with
  |some _,some h,some _=>match C5 lo h 0 with
   |some _=>some<|bif RQ mx then .es0 else .esl
   |none=>none
  |_,_,_=>none
 |some (.slice e),.es0=>
  match C5 mx 0 0,qJ a mx,T.inf e with
  |some _,some h,some _=>match C5 lo h 0 with
   |some _=>some .es0
   |none=>none
  |_,_,_=>none
 |some (.array n e),.ptr b off=>
  match T.inf e,mx,C5 a n n with
  |some c,none,some h=>match C5 lo h 0 with
   |some l=>bif zh n l then some (.sl b off (h-l) (n-l) 0)else some<|.sl b (off+l*c.size) (h-l) (n-l) 0
   |none=>none
  |_,_,_=>none
 |_,_=>none
def H3(p:Pl):Option V->Option Value->Prop
 |none,x=>x=none
 |some d,x=>∃v,x=some v/\Ae p d v
theorem Cq{x:Option V}{x':Option Value}{y z n y':Nat}(g:H3 p x x')(b:C5 x y z=some n)(o:y<=y'):
  (x=none/\x'=none/\n=z)\/(∃d u,x=some d/\x'=some u/\n<=y/\∀a (P:Program) (w:World),(Instr.sliceBound u y' a).run P w=.ok n w):=by
 cases x with
 |none=>simp_all [H3,C5]
 |some d=>
  obtain⟨u,rfl,f⟩:=g;unfold C5 at b;split at b
  case h_1=>grind
  case h_3=>cases b
  rename_i k m e;cases e;by_cases c:m<=y
  ·simp only[Nat.ble_eq_true_of_le c,we,ze]at b;simp only[Ae]at f;unfold Instr.sliceBound asIntOf;have l:(0:Int)<=(m:Int)/\(m:Int)<=(y':Int):=ae;simp_all
  ·have:zk m y=false:=by simp_all [Bool.eq_false_iff]
   grind
theorem Ja{lo r mx:Option V}{q f k:Option Value}(o:H3 p lo q)(a:H3 p r f)(g:H3 p mx k){m h l:Nat}(B:C5 mx 0 0=some m)(A:qJ r mx=some h)(v:C5 lo h 0=some l)(c:Nat):
  (zt true 0 c q f k).run P w=.ok (0,0,bif RQ mx then 0 else c) w:=by
 unfold qJ at A;have h0:h=0:=by
  have:C5 r 0 0=some h:=by
   grind
  rcases Cq a this (zg _)with⟨_,_,rfl⟩|⟨_,_,_,_,h,_⟩<;>omega
 subst h0;unfold zt;cases mx with
 |none=>
  have b:C5 r 0 0=some 0:=ah
  simp only[H3]at g;rcases Cq a b (Nat.zero_le c)with⟨_,rfl,_⟩|⟨_,u,_,rfl,_,x⟩<;>rcases Cq o v (zg _)with⟨_,rfl,_⟩|⟨_,u2,_,rfl,_,s⟩
  all_goals simp_all [RQ]
 |some d=>
  cases r with
  |none=>grind
  |some C=>
   have b:C5 (some C) 0 0=some 0:=ae
   rcases Cq g B (Nat.zero_le c)with⟨h,_,_⟩|⟨_,E,_,rfl,D,y⟩
   ·cases h
   ·obtain rfl:m=0:=ae
    rcases Cq a b ae with⟨h,_,_⟩|⟨_,u,_,rfl,_,x⟩
    ·cases h
    ·rcases Cq o v ae with⟨_,rfl,_⟩|⟨_,u2,_,rfl,_,s⟩
     all_goals simp_all [RQ]
theorem gB(E:T.Ok P){t:TypeId}{x:V}{lo hi mx:Option V}{x':Value}{J K N:Option Value}(M:Ae p x x')(y:H3 p lo J)(q:H3 p hi K)(D:H3 p mx N)
  {v:V} (f:Eh T t x lo hi mx=some v):∃v',(zr t x' J K N).run P w=.ok v' w/\Ae p v v':=by
 unfold Eh at f;split at f
 case h_7=>cases f
 case h_1=>
  rename_i s F;split at f
  case h_2=>cases f
  rename_i A g;split at f
  case h_2=>cases f
  rename_i l G;cases f;simp only[H3]at D;subst D;simp only[Ae]at M;subst M;refine⟨.string<|bytesOf<|(s.drop l).take<|A-l,?_,by rfl⟩;unfold zr;simp only[zd,AE E F,zc];unfold ym;simp only[zd,AE E F,zc,Option.isSome_none,zp,vg,Ch];unfold zt;have e:(bytesOf s).extract l A=bytesOf ((s.drop l).take<|A-l):=by
   apply ByteArray.ext;simp_all [bytesOf]
  rcases Cq q g (zg _)with⟨_,rfl,rfl⟩|⟨_,u,_,rfl,_,hu⟩<;>rcases Cq y G (zg _)with⟨_,rfl,rfl⟩|⟨_,u2,_,rfl,_,X⟩
  all_goals simp_all
 case h_2=>
  rename_i e b off len cap o F;split at f
  case h_2=>cases f
  rename_i Z m W hm;split at f
  case h_2=>cases f
  rename_i A g;split at f
  case h_2=>cases f
  rename_i l G;simp only[Ae]at M;obtain⟨r,n,c,hp,rfl,hlen,Q,ho1,ho2⟩:=M;obtain⟨L,gm2,hhm,R,hbounds⟩:∃L,((mx=none/\L=c/\m=cap)\/(mx≠none/\L=m))/\A<=m/\l<=A/\(zt true len c J K N).run P w=.ok (l,A,L) w:=by
   have R:l<=A:=by
    rcases Cq y G (zg _)with⟨_,_,rfl⟩|⟨_,_,_,_,h,_⟩
    ·omega
    omega
   rcases Cq D hm Q with⟨rfl,rfl,rfl⟩|⟨dm,um,rfl,rfl,hm1,hum⟩
   ·have B:C5 hi m len=some A:=ah
    refine⟨c,(by simp),?_,R,?_⟩
    ·rcases Cq q B Q with⟨_,_,rfl⟩|⟨_,_,_,_,h,_⟩
     ·omega
     omega
    ·unfold zt;rcases Cq q B Q with⟨_,rfl,rfl⟩|⟨_,u,_,rfl,_,hu⟩<;>rcases Cq y G (zg _)with⟨_,rfl,rfl⟩|⟨_,u2,_,rfl,_,X⟩
     all_goals simp_all
   ·cases hi with
    |none=>grind
    |some dh=>
     have B:C5 (some dh) m len=some A:=ae
     refine⟨m,(by simp),?_,R,?_⟩
     ·rcases Cq q B ae with⟨h,_⟩|⟨_,_,_,_,h,_⟩
      ·cases h
      omega
     ·unfold zt;rcases Cq q B (zg _)with⟨h,_,_⟩|⟨_,u,_,rfl,_,hu⟩
      ·cases h
      ·rcases Cq y G (zg _)with⟨_,rfl,rfl⟩|⟨_,u2,_,rfl,_,X⟩
       all_goals simp_all
  have gm1:m<=L:=ae
  have C:(zr t (.slice (some ⟨r,off,none⟩) len c) J K N).run P w=.ok (.slice (if L=l then some ⟨r,off,none⟩else some ⟨r,off+l*Z.size,none⟩) (A-l)<|L-l) w:=by
   unfold zr;simp only[zd,AE E F,zc];unfold ym;simp only[zd,AE E F,zc,hbounds,BH E W,zf];simp
  refine⟨_,C,?_⟩;simp only[Bx]at f;by_cases I:m=l
  ·simp only[I,decide_true,we]at f;by_cases S:NQ mx o=0
   ·simp only[S,decide_true,we,ze]at f;subst f;have hm':L=l:=by
     grind [NQ]
    simp_all [Ae]
   ·simp only[S,decide_false,wg,ze]at f;subst f;have U:A-l=0:=ae
    simp only[U,Ae];grind
  ·simp only[I,decide_false,wg]at f;by_cases S:NQ mx o=0\/NQ mx o=Z.size
   ·have Y:(decide (NQ mx o=0)||decide (NQ mx o=Z.size))=true:=ah
    simp only[Y,we,ze]at f;subst f;have hne:L≠l:=ae
    simp only[hne,vg,Ae];refine⟨r,n,_,hp,rfl,by omega,by omega,fun k=>?_,fun k=>?_⟩
    ·grind [NQ]
    ·rcases gm2 with⟨k1,k2,k3⟩|⟨k1,k2⟩
     ·subst k1;simp only[NQ]at k S ⊢;rcases S with S|S
      ·omega
      ·have:=ho2 k;subst k2;rw[<-S];have e:off+l*o+(L-l)*o=off+L*o:=by
        rw[Nat.sub_mul];have:l*o<=L*o:=zz _ ae;omega
       omega
     ·cases mx with
      |none=>grind
      |some d=>simp[NQ]at k
   grind
 case h_3=>
  rename_i e F;split at f
  case h_2=>cases f
  rename_i mm A tz O g U;split at f
  case h_2=>cases f
  rename_i l G;cases f;simp only[Ae]at M;subst M;refine⟨.slice none 0 0,?_,by rfl⟩;unfold zr;simp only[zd,AE E F,zc];unfold ym;simp only[zd,AE E F,zc,Ja (P:=P) (w:=w) y q D O g G 0];cases mx<;>simp[RQ,BH E U]
 case h_4=>
  rename_i e F;split at f
  case h_2=>cases f
  rename_i mm A tz O g U;split at f
  case h_2=>cases f
  rename_i l G;simp only[Ae]at M;obtain⟨a,c,rfl⟩:=M;have C:∃a',(zr t (.slice (some a) 0 c) J K N).run P w=.ok (.slice (some a') 0<|bif RQ mx then 0 else c) w:=by
   unfold zr;simp only[zd,AE E F,zc];unfold ym;simp only[zd,AE E F,zc,Ja (P:=P) (w:=w) y q D O g G c];simp only[BH E U,zc,zf,Nat.sub_zero,Nat.sub_self];split
   ·simp
   simp
  obtain⟨a',ha'⟩:=C;refine⟨_,ha',?_⟩;cases f;cases mx with
  |none=>simp_all [RQ,Ae]
  |some d=>simp_all [RQ,Ae]
 case h_5=>
  rename_i e F;split at f
  case h_2=>cases f
  rename_i mm A tz O g U;split at f
  case h_2=>cases f
  rename_i l G;cases f;simp only[Ae]at M;obtain⟨a,rfl⟩:=M;refine⟨.slice (some a) 0 0,?_,by simp_all [Ae]⟩;unfold zr;simp only[zd,AE E F,zc];unfold ym;simp only[zd,AE E F,zc,Ja (P:=P) (w:=w) y q D O g G 0];cases mx<;>simp[RQ,BH E U]
 case h_6=>
  rename_i nn e b off F;split at f
  case h_2=>cases f
  rename_i Z A W g;split at f
  case h_2=>cases f
  rename_i l G;simp only[H3]at D;subst D;simp only[Ae]at M;obtain⟨r,n,hp,rfl⟩:=M;have R:l<=A:=by rcases Cq y G (zg _)with⟨_,_,rfl⟩|⟨_,_,_,_,h,_⟩<;>omega
  have hhn:A<=nn:=by rcases Cq q g (zg _)with⟨_,_,rfl⟩|⟨_,_,_,_,h,_⟩<;>omega
  have C:(zr t (.pointer<|some ⟨r,off,none⟩) J K none).run P w=.ok (.slice (some<|if nn=l then⟨r,off,none⟩else⟨r,off+l*Z.size,none⟩) (A-l)<|nn-l) w:=by
   unfold zr;simp only[zd,AE E F,zc];unfold ye zt;rcases Cq q g (zg _)with⟨_,rfl,rfl⟩|⟨_,u,_,rfl,_,hu⟩<;>rcases Cq y G (zg _)with⟨_,rfl,rfl⟩|⟨_,u2,_,rfl,_,X⟩
   all_goals simp only[Option.isSome_none,zp,vg,zd,zf,zc,BH E W,Addr.NT, *]
  refine⟨_,C,?_⟩;simp only[Bx]at f;by_cases I:nn=l
  ·simp only[I,decide_true,we,ze]at f;subst f;simp_all [Ae]
  ·simp only[I,decide_false,wg,ze]at f;subst f;simp only[I,vg,Ae];grind
def i64(n:Nat):V:=.int .i64<|.ofNat n
def GO(T:Cj)(h:H)(ts:Array TypeId)(args:List V):Option V:=
 match ts[0]?,args with
 |some t,[x]=>
  match T.und t,x with
  |some .string,.str s=>some<|i64 s.length
  |some (.array n _),_=>some<|i64 n
  |some (.slice _),.sl _ _ len _ _=>some<|i64 len
  |some (.slice _),.nils=>some<|i64 0
  |some (.slice _),.esl=>some<|i64 0
  |some (.slice _),.es0=>some<|i64 0
  |some (.map _ _),.nilm=>some<|i64 0
  |some (.map _ _),.map b=>match h.get b with
   |some (.map es _)=>some<|i64 es.length
   |_=>none
  |_,_=>none
 |_,_=>none
theorem Ay.one{ds:V}{l:List Value}(a:Ay p [ds] l):∃v,l=[v]/\Ae p ds v:=by
 match l,a with
 |[v],h=>simp_all
 |[],h=>simp at h
 |_::_::_,h=>simp at h
theorem Ay.two{d e:V}{l:List Value}(a:Ay p [d,e] l):∃v u,l=[v,u]/\Ae p d v/\Ae p e u:=by
 match l,a with
 |[v,u],h=>exact⟨v,u,rfl,by simp_all⟩
 |[],h=>simp at h
 |[_],h=>simp at h
 |_::_::_::_,h=>simp at h
theorem D2.length{es:List (V×V×Nat)}{l:List MapEntry}(h:D2 p es l):es.length=l.length:=by
 induction h with
 |nil=>rfl
 |cons _ _ _ _ a=>simp[a]
theorem Abj(A:T.Ok P)(hr:R p h w){ts:Array TypeId}{t:TypeId}{args:List V}{args':Array Value}(q:Ay p args args'.toList){v:V}(a:GO T h ts args=some v):
  ∃v',(Builtin.len_ ts t args').run P w=.ok v' w/\Ae p v v':=by
 unfold GO at a;split at a
 case h_2=>cases a
 rename_i t0 x k;obtain⟨x',c,b⟩:=q.one;have d:args'[0]?=some x':=by rw[<-yf,c];rfl
 unfold Builtin.len_;simp only[k,d];split at a
 case h_9=>cases a
 all_goals (rename_i g;simp only[zd,AE A g,zc];try simp only[Ae]at b)
 case h_1=>cases a;simp_all [i64,Ae,goInt,Ch]
 case h_2=>cases a;simp_all [i64,Ae,goInt]
 case h_3=>obtain⟨_,_,_,_,rfl,_⟩:=b;cases a;simp_all [i64,Ae,goInt]
 case h_4=>cases a;simp_all [i64,Ae,goInt]
 case h_5=>obtain⟨_,_,rfl⟩:=b;cases a;simp_all [i64,Ae,goInt]
 case h_6=>obtain⟨_,rfl⟩:=b;cases a;simp_all [i64,Ae,goInt]
 case h_7=>cases a;simp_all [i64,Ae,goInt]
 case h_8=>
  obtain⟨r,n,hp,rfl⟩:=b;split at a
  case h_2=>cases a
  rename_i es B m;cases a;obtain⟨C,n',o,f,s,l,y,u⟩:=hr.obj _ _ m;rw[hp]at f;cases f;subst y;refine⟨goInt l.size,?_,?_⟩
  ·simp[getObj,yv,s]
  ·have:=u.length;simp only[i64,Ae,goInt];grind
def qD(a b:V):Option V:=
 match a,b with
 | .int k x,.int _ y=>some<|.int k<|if y>x then y else x
 |_,_=>none
def AaC(a b:V):Option V:=
 match a,b with
 | .int k x,.int _ y=>some<|.int k<|if y<x then y else x
 |_,_=>none
def dfold(f:V->V->Option V):V->List V->Option V
 |x,[]=>some x
 |x,y::a=>match f x y with
  |some z=>dfold f z a
  |none=>none
theorem Ro{f:V->V->Option V}{g:Value->Value->Sem Value}(m:∀ {a b c:V} {s b':Value},Ae p a s->Ae p b b'->f a b=some c->∃r,(g s b').run P w=.ok r w/\Ae p c r):
  ∀(o:List V) (k:List Value) (x:V) (x':Value),Ae p x x'->Ay p o k->∀ {v:V},dfold f x o=some v->∃v',(k.foldlM g x').run P w=.ok v' w/\Ae p v v'
 |[],k,x,x',q,d,v,l=>by
  cases l;simp_all
 |y::o,[],_,_,_,d,_,_=>by simp at d
 |y::o,y'::k,x,x',q,d,v,l=>by
  simp only[Bm]at d;unfold dfold at l;split at l
  case h_2=>cases l
  rename_i z B;obtain⟨u,C,A⟩:=m q d.1 B;obtain⟨v',h3,h4⟩:=Ro m o k z u A d.2 l;simp_all
def G6(f:V->V->Option V)(args:List V):Option V:=
 match args with
 |[]=>none
 |x::a=>dfold f x a
theorem AbV{ts:Array TypeId}{t:TypeId}{args:List V}{args':Array Value}(f:Ay p args args'.toList){v:V}(d:G6 qD args=some v):
  ∃v',(Builtin.max_ ts t args').run P w=.ok v' w/\Ae p v v':=by
 unfold G6 at d;split at d
 case h_1=>cases d
 rename_i x q;unfold Builtin.max_;cases m:args'.toList with
 |nil=>simp_all
 |cons x' k=>
  rw[m]at f;simp only[Bm]at f;refine Ro (fun {a b c r b'} l o g=>?_) q k x x' f.1 f.2 d;unfold qD at g;split at g
  case h_2=>cases g
  subst l o;cases g;exact⟨_,rfl,by rfl⟩
theorem AbC{ts:Array TypeId}{t:TypeId}{args:List V}{args':Array Value}(f:Ay p args args'.toList){v:V}(d:G6 AaC args=some v):
  ∃v',(Builtin.min_ ts t args').run P w=.ok v' w/\Ae p v v':=by
 unfold G6 at d;split at d
 case h_1=>cases d
 rename_i x q;unfold Builtin.min_;cases m:args'.toList with
 |nil=>simp_all
 |cons x' k=>
  rw[m]at f;simp only[Bm]at f;refine Ro (fun {a b c r b'} l o g=>?_) q k x x' f.1 f.2 d;unfold AaC at g;split at g
  case h_2=>cases g
  subst l o;cases g;exact⟨_,rfl,by rfl⟩
def I8(place:Nat->Option (Nat×Nat))(cells:List V):List (Nat×V)->Option (List V)
 |[]=>some cells
 |(i,v)::a=>
  match place i with
  |none=>none
  |some (off,size)=>bif zh v.cells.length size&&zk (off+size) cells.length then I8 place (HJ cells off v.cells) a else none
theorem VI:∀(b:List V) (vs:List Value) (cs:List V) (c:Array Value) (off:Nat),Ay p b vs->Ay p cs c.toList->
  ∀k,Ay p (HJ cs (off+k) b) ((vs.zipIdx k).foldl (fun cs (c,j)=>cs.setIfInBounds (off+j) c) c).toList
 |[],vs,cs,c,off,a,d,k=>by simp_all [HJ]
 |x::b,[],_,_,_,a,_,_=>by simp at a
 |x::b,v::vs,cs,c,off,a,d,k=>by
  simp only[Bm]at a;simp only[HJ,List.zipIdx_cons,List.foldl_cons];have:=VI b vs (cs.set (off+k) x) (c.setIfInBounds (off+k) v) off a.2 (by simpa using d.set (off+k) a.1)<|k+1;omega
inductive VE (p:Pl):List (Nat×V)->List (Nat×Value)->Prop
 |nil:VE p [] []
 |cons {i:Nat} {v:V} {v':Value} {l:List (Nat×V)} {l':List (Nat×Value)}:Ae p v v'->VE p l l'->VE p ((i,v)::l) ((i,v')::l')
theorem MF{place:Nat->Option (Nat×Nat)}:∀ {l:List (Nat×V)} {l':List (Nat×Value)},VE p l l'->∀ {cs:List V} {c:Array Value} {out:List V},Ay p cs c.toList->I8 place cs l=some out->
  ∃o,Instr.fill place c l'=some o/\Ay p out o.toList:=by
 intro l l' f;induction f with
 |nil=>intro cs c out d b;cases b;exact⟨c,rfl,d⟩
 |@cons i v v' l l' g f r=>
  intro cs c out d b;unfold I8 at b;split at b
  case h_1=>cases b
  rename_i off size m;cases a:(zh v.cells.length size&&zk (off+size) cs.length)with
  |false=>grind
  |true=>
   simp only[zn,z8,Bx,w5]at a;have q:=g.cells.length;have k:=d.length;unfold Instr.fill;have:=VI (p:=p) v.cells v'.cells.toList cs c off g.cells d 0;grind [Array.toList_zipIdx]
def Lg(T:Cj)(t:TypeId)(a:List (Nat×V)):Option V:=
 match T.inf t,T.und t with
 |some i,some (.struct fs)=>
  match fs.toList.mapM (fun f=>(T.inf f.type).map fun j=>(f.offset,j.size))with
  |some pl=>(I8 (fun i=>pl[i]?) i.zero a).map .agg
  |none=>none
 |some i,some (.array _ e)=>match T.inf e with
  |some j=>(I8 (fun i=>some (i*j.size,j.size)) i.zero a).map .agg
  |none=>none
 |_,_=>none
theorem run_places(b:T.Ok P):∀ {fs:List Field} {pl:List (Nat×Nat)},fs.mapM (fun f=>(T.inf f.type).map fun j=>(f.offset,j.size))=some pl->
  ∀w,(fs.mapM<|fun f=>(do pure (f.offset, <-sizeOf f.type):Sem (Nat×Nat))).run P w=.ok pl w
 |[],pl,h,w=>by simp_all
 |f::fs,pl,h,w=>by
  cases c:T.inf f.type with
  |none=>grind
  |some j=>
   cases a:fs.mapM (fun f=>(T.inf f.type).map fun j=>(f.offset,j.size))with
   |none=>grind
   |some d=>
    simp[c,a]at h;subst h;rw[List.mapM_cons];simp only[zd,BH b c,zc,zf,run_places b a]
theorem gS(d:T.Ok P){t:TypeId}{b:List (Nat×V)}{a:Array (Nat×Value)}(hp:VE p b a.toList){v:V}(c:Lg T t b=some v):
  ∃v',(Instr.build t a).run P w=.ok v' w/\Ae p v v':=by
 unfold Lg at c;split at c
 case h_3=>cases c
 case h_1=>
  rename_i i fs k g;split at c
  case h_2=>cases c
  rename_i pl l;rw[zi]at c;obtain⟨out,r,rfl⟩:=c;obtain⟨z,hz,hzr⟩:=EL d k;have q:(fs.mapM<|fun f=>(do pure (f.offset, <-sizeOf f.type):Sem (Nat×Nat))).run P w=.ok pl.toArray w:=by
   rw[Array.mapM_eq_mapM_toList];simp only[Sem.run_map,run_places d l,zc]
  obtain⟨o,m,s⟩:=MF (p:=p) (place:=fun i=>pl.toArray[i]?) hp (hzr p) (out:=out) ah;refine⟨.agg o,?_,by simp_all [Ae]⟩;unfold Instr.build;simp only[zd,hz,zc,AE d g];simp_all
 case h_2=>
  rename_i i n e k g;split at c
  case h_2=>cases c
  rename_i j u;rw[zi]at c;obtain⟨out,r,rfl⟩:=c;obtain⟨z,hz,hzr⟩:=EL d k;obtain⟨o,m,s⟩:=MF (p:=p) (place:=fun i=>some (i*j.size,j.size)) hp (hzr p) r;refine⟨.agg o,?_,by simp_all [Ae]⟩;unfold Instr.build;simp only[zd,hz,zc,AE d g,BH d u,m,zf]
def F7(z:List V)(n:Nat):List V:=(List.range n).map fun i=>z.getD (i % z.length)<|.tup []
theorem Kf{z:List V}{c:Array Value}(b:Ay p z c.toList)(a:0<z.length)(n:Nat):Ay p (F7 z n) ((Array.range n).map<|fun i=>c[i % c.size]!).toList:=by
 have m:=b.length;apply Ay.mk (by simp[F7]);intro i d v f q;have k:i<n:=ah
 simp only[F7,List.getElem?_map,List.getElem?_range k,Option.map_some,ze]at f;have g:i % z.length<z.length:=Nat.mod_lt _ a;obtain⟨u,l,o⟩:=b.get (i:=i % z.length) (d:=z[i % z.length]) (by simp[g]);grind
def Fm(T:Cj)(h:H)(t:TypeId)(len:Nat)(a:List (Nat×V)):Option (V×H):=
 match T.und t with
 |some (.slice e)=>match T.inf e with
  |some i=>
   bif zk (len*i.size) 16777216&&z7 0 (i.zero.length)&&zh i.zero.length i.size then
    match I8 (fun k=>some (k*i.size,i.size)) (F7 i.zero<|len*i.size) a with
    |some cs=>some (.sl h.nx 0 len len 0,JI h e cs)
    |none=>none
   else none
  |none=>none
 |_=>none
theorem ZA(g:T.Ok P)(hr:R p h w){t:TypeId}{len:Nat}{c:List (Nat×V)}{b:Array (Nat×Value)}(hp:VE p c b.toList){v:V}{h':H}
  (d:Fm T h t len c=some (v,h')):∃v' p' w',(Instr.buildSlice t len b).run P w=.ok v' w'/\Ae p' v v'/\Ext p h w p' h' w':=by
 unfold Fm at d;split at d
 case h_2=>cases d
 rename_i e q;split at d
 case h_2=>cases d
 rename_i i m;cases a:(zk (len*i.size) 16777216&&z7 0 (i.zero.length)&&zh i.zero.length i.size)with
 |false=>grind
 |true=>
  simp only[a,we]at d;simp only[zn,z8,Nat.blt_eq,Bx,w5]at a;obtain⟨⟨u,r⟩,s⟩:=a;split at d
  case h_2=>cases d
  rename_i cs f;cases d;obtain⟨z,x,l⟩:=EL g m;obtain⟨o,h1,h2⟩:=MF (p:=p) (place:=fun k=>some (k*i.size,i.size)) hp (Kf (l p) r<|len*i.size) f;obtain⟨n,he,hpn,hn⟩:=Pp hr e h2;refine⟨.slice (some ⟨w.heap.size,0,none⟩) len len,_,_,?_,?_,he⟩
  ·unfold Instr.buildSlice;simp only[zd,AE g q,zc,BH g m];by_cases h0:len*i.size=0
   ·grind [zd,zf,zc,CZ]
   simp_all [CZ]
  simp_all [Ae]
def RR(T:Cj)(h:H)(t:TypeId)(len cap:V):Option (V×H):=
 match T.und t,len,cap with
 |some (.slice e),.int _<|.ofNat l,.int _ (.ofNat c)=>
  match T.inf e with
  |some i=>
   bif zk l c&&z7 c 9223372036854775808&&zk (i.bytes*c) 281474976710656&&z7 0 i.zero.length&&zh i.zero.length i.size then
    some (.sl h.nx 0 l c 0,JI h e<|F7 i.zero<|c*i.size)
   else none
  |none=>none
 |_,_,_=>none
theorem wrap_small(c:Nat)(h:c<9223372036854775808):IntKind.i64.wrap (c:Int)=c:=IntWalk.i64_in _ ae
theorem mQ(g:T.Ok P)(hr:R p h w){t:TypeId}{len cap:V}{d b:Value}(u:Ae p len d)(s:Ae p cap b){v:V}{h':H}(f:RR T h t len cap=some (v,h')):
  ∃v' p' w',(Instr.makeSlice t d b).run P w=.ok v' w'/\Ae p' v v'/\Ext p h w p' h' w':=by
 unfold RR at f;split at f
 case h_2=>cases f
 rename_i e k l y c r;split at f
 case h_2=>cases f
 rename_i i m;cases a:(zk l c&&z7 c 9223372036854775808&&zk (i.bytes*c) 281474976710656&&z7 0 i.zero.length&&zh i.zero.length i.size)with
 |false=>grind
 |true=>
  simp only[a,we,ze,zw]at f;obtain⟨rfl,rfl⟩:=f;simp only[zn,z8,Nat.blt_eq,Bx,w5]at a;obtain⟨⟨⟨⟨c1,c2⟩,c3⟩,c4⟩,c5⟩:=a;subst u s;obtain⟨z,hz,hzr⟩:=EL g m;obtain⟨j,hj,hjb,_⟩:=PS g m;obtain⟨n,he,hpn,hn⟩:=Pp hr e<|Kf (hzr p) c4<|c*i.size;refine⟨.slice (some ⟨w.heap.size,0,none⟩) l c,_,_,?_,?_,he⟩
  ·unfold Instr.makeSlice asInt asIntOf;simp only[zd,zf,AE g r,zc,hj,zy,wrap_small c c2,wrap_small l ae,hjb];have o:(i.bytes:Int)*(c:Int)=((i.bytes*c:Nat):Int):=(by rfl);rw[o];generalize i.bytes*c=q at c3 o ⊢;have x:¬((decide ((c:Int)<0)||decide ((q:Int)>2^48))||decide ((l:Int)<0)||decide ((l:Int)>(c:Int)))=true:=by
    grind
   rw[wc x];simp only[zd,zc,run_askRoom,BH g m,yb];by_cases h0:c*i.size=0
   ·grind [zd,zf,zc,CZ]
   simp_all [CZ]
  simp_all [Ae]
def src(h:H)(size:Nat)(x:V)(n:Nat):Option (List V):=
 match x with
 | .nils=>some []
 | .esl=>bif zh n 0 then some []else none
 | .es0=>bif zh n 0 then some []else none
 | .sl b off _ _ _=>rd h b off<|n*size
 | .str s=>some<|(s.take n).map fun c=>.int .u8 c.toNat
 |_=>none
def Ri:V->Option Nat
 | .nils=>some 0
 | .esl=>some 0
 | .es0=>some 0
 | .sl _ _ len _ _=>some len
 | .str s=>some s.length
 |_=>none
theorem Rj{x:V}{x':Value}(b:Ae p x x'){n:Nat}(a:Ri x=some n):(yi x').run P w=.ok n w:=by
 unfold Ri at a;split at a
 case h_1=>subst b;cases a;rfl
 case h_2=>obtain⟨_,_,rfl⟩:=b;cases a;rfl
 case h_3=>obtain⟨_,rfl⟩:=b;cases a;rfl
 case h_4=>obtain⟨_,_,_,_,rfl,_⟩:=b;cases a;rfl
 case h_5=>simp_all [Ae,yi,Ch]
 grind
theorem MG(hr:R p h w){size n:Nat}{x:V}{x':Value}(d:Ae p x x'){cs:List V}(b:src h size x n=some cs):
  ∃vs:List Value,(zl size n x').run P w=.ok vs.toArray w/\Ay p cs vs:=by
 unfold src at b;split at b
 case h_6=>cases b
 case h_1=>subst d;cases b;exact⟨[],rfl,by simp⟩
 case h_2=>
  obtain⟨a,c,rfl⟩:=d;rw[Bx]at b;by_cases e:n=0
  ·simp_all [zl,loadCells,loadCellsFrom]
  grind
 case h_3=>
  obtain⟨a,rfl⟩:=d;rw[Bx]at b;by_cases e:n=0
  ·simp_all [zl,loadCells,loadCellsFrom]
  grind
 case h_4=>
  obtain⟨r,m,c,hp,rfl,_⟩:=d;obtain⟨r',m',vs,h1,h2,h3,_⟩:=run_loadCells (P:=P) hr b;rw[hp]at h1;cases h1;exact⟨vs,h2,h3⟩
 case h_5=>
  rename_i s;simp only[Ae]at d;refine⟨(s.take n).map fun c=>.int .u8 c.toNat,?_,?_⟩
  ·simp_all [zl,bytesOf]
  grind [Ay.mk,Ae]
theorem Zh(a c:Nat)(h:c<a):2*z6 a c<=3*a+2000:=by
 unfold z6;grind [Builtin.growBy]
def isInt:TypeDesc->Bool
 | .int _=>true
 |_=>false
def Rk:V->Bool
 | .str _=>false
 |_=>true
def Hj(T:Cj)(h:H)(ts:Array TypeId)(args:List V):Option (V×H):=
 match ts[0]?,ts[1]?,args with
 |some t,some tx,[s,x]=>
  match T.und t,T.und tx,Ri x with
  |some (.slice e),some dx,some n=>
   match T.inf e,isInt dx with
   |some i,false=>
    bif z7 0 i.bytes&&z7 0 i.size&&zh i.zero.length i.size&&(zh i.size 1||Rk x)then
     match src h i.size x n with
     |some new=>
      match s with
      | .nils=>
       bif zh n 0 then some (.nils,h)
       else bif zk ((3*n+2000)*i.bytes) 562949953421312 then some (.sl h.nx 0 n n i.size,JI h e new)else none
      | .es0=>
       bif zh n 0 then some (.es0,h)
       else bif zk ((3*n+2000)*i.bytes) 562949953421312 then some (.sl h.nx 0 n n i.size,JI h e new)else none
      | .esl=>bif zh n 0 then some (.esl,h)else none
      | .sl b off len cap o=>
       bif zk (len+n) cap then(wr h b (off+len*i.size) new).map fun h'=>(.sl b off (len+n) cap o,h')
       else bif zk ((3*(len+n)+2000)*i.bytes) 562949953421312 then
        match src h i.size s len with
        |some old=>
         bif zh o 0 then some (.sl h.nx 0 (len+n) (len+n) i.size,JI h e<|old++new)
         else
          match h.get b with
          |some (.cells _ te fz)=>
           bif zh off 0&&zh o i.size&&zh te e&&zk fz.2 fz.1&&new.all V.one then some (.sl h.nx 0 (len+n) (len+n) i.size,(h.kill b).push<|.cells (old++new) e (0,0))
           else none
          |_=>none
        |none=>none
       else none
      |_=>none
     |none=>none
    else none
   |_,_=>none
  |_,_,_=>none
 |_,_,_=>none
theorem Sv{old new:List V}{vo vn:List Value}(b:Ay p old vo)(c:Ay p new vn)(a:Array Value):
  Ay p (old++new) ((vo.toArray++vn.toArray++a).toList.take (old++new).length):=by
 have l1:=b.length;have d:=c.length;have:((vo.toArray++vn.toArray++a).toList.take (old++new).length)=vo++vn:=by
  grind
 rw[this];exact b.append c
section
variable {ts:Array TypeId}{t t0 tx e:TypeId}{dx:TypeDesc}{i:TI}{n:Nat}{x' z:Value}{j:TypeInfo}
theorem QB(o:T.Ok P)(f:ts[0]?=some t0)(m:ts[1]?=some tx)(q:T.und t0=some (.slice e))(l:T.und tx=some dx)(g:isInt dx=false)
  (r:T.inf e=some i) (s:∀w,(yi x').run P w=.ok n w) (base:Option Addr) (d c:Nat) (k:d+n<=c):
  (zu ts t #[.slice base d c,x']).run P w=((zl i.size n x').run P w).andThen fun new w'=>((match base with|some a=>storeCells (a.add<|d*i.size) new.toList|none=>pure ():Sem Unit).run P w').andThen fun _ w'=>.ok (.slice base (d+n) c) w':=by
 unfold zu;cases dx<;>first|(cases g;done)|skip
 all_goals
  simp only[f,m,yg,yc,yd,zd,AE o q,AE o l,BH o r,zc,zf,zp,vg,s,k,wm,Bool.not_false];cases base with
  |none=>rfl
  |some b=>simp only[zd,zf]
theorem SC(f:T.Ok P)(g:ts[0]?=some t0)(s:ts[1]?=some tx)(x:T.und t0=some (.slice e))(m:T.und tx=some dx)(k:isInt dx=false)
  (v:T.inf e=some i) (u:0<i.bytes) (G:∀w,(zeroValue e).run P w=.ok z w) (E:∀w,(yi x').run P w=.ok n w) (base:Option Addr) (a c:Nat) (l:c<a+n)
  (b:(3*(a+n)+2000)*i.bytes<=562949953421312):
  ∃r,a+n<=r/\(zu ts t #[.slice base a c,x']).run P w=((zl i.size a<|.slice base a c).run P { w with drawn:=w.drawn+1 }).andThen fun old w'=>
   ((zl i.size n x').run P w').andThen fun new w'=>
    .ok (.slice (some ⟨w'.heap.size,0,none⟩) (a+n) r) { w' with heap:=w'.heap.push (.cells (old++new++zo z.cells (r-(a+n))) e) }:=by
 obtain⟨j,D,o,B⟩:=PS f v;have q:=Zh (a+n) c l;have d:2*z6 (a+n) c*i.bytes<=562949953421312:=yq (zz _ q) b;rw[Nat.mul_assoc]at d;have A:z6 (a+n) c*i.bytes<=281474976710656:=ae
 refine⟨(Question.appendCap (a+n) c e).cut<|w.tape w.drawn<|.appendCap (a+n) c e,by simp[Question.cut],?_⟩;unfold zu;have y:¬(a+n<=c):=ae
 have C:¬(z6 (a+n) c*i.bytes>2^48):=ae
 have F:¬(i.bytes=0):=ae
 cases dx<;>first|(cases k;done)|skip
 all_goals
  simp only[g,s,yg,yc,yd,zd,AE f x,AE f m,BH f v,zc,zf,zp,vg,E,Bool.not_false,wm,
   y,D,o,F,or_self,and_false,C,run_choose,Question.forced,run_askRoom,G,CZ]
end
theorem JH(z:Array Value)(n:Nat):(zo z n).size=n*z.size:=by simp[zo]
theorem RI{size n:Nat}{x:V}{cs:List V}(b:Ri x=some n)(c:size=1\/∀s,x≠ .str s)(a:src h size x n=some cs):cs.length=n*size:=by
 unfold src at a;split at a
 case h_6=>cases a
 case h_1=>cases a;cases b;simp
 case h_2=>
  cases b;grind
 case h_3=>
  cases b;grind
 case h_4=>
  rw[bX]at a;grind [rd0]
 case h_5=>
  cases b;grind
theorem Yk(Z:T.Ok P)(hr:R p h w){ts:Array TypeId}{t:TypeId}{args:List V}{args':Array Value}(ha:Ay p args args'.toList){v:V}{h':H}(a:Hj T h ts args=some (v,h')):
  ∃v' p' w',(zu ts t args').run P w=.ok v' w'/\Ae p' v v'/\Ext p h w p' h' w':=by
 unfold Hj at a;split at a
 case h_2=>cases a
 rename_i t0 tx s x C I;obtain⟨s',x',G,Q,hx⟩:=ha.two;have ha0:args'[0]?=some s':=by rw[<-yf,G];rfl
 have ha1:args'[1]?=some x':=by rw[<-yf,G];rfl
 split at a
 case h_2=>cases a
 rename_i e dx n hu F J;split at a
 case h_2=>cases a
 rename_i i hi E;cases y:(z7 0 i.bytes&&z7 0 i.size&&zh i.zero.length i.size&&(zh i.size 1||Rk x))with
 |false=>grind
 |true=>
  simp only[y,we]at a;simp only[zn,Nat.blt_eq,Bx,w5,yu]at y;obtain⟨⟨⟨c1,c2⟩,c3⟩,c4⟩:=y;have c5:i.size=1\/∀s,x≠ .str s:=c4.imp id (fun h s e=>by subst e;cases h);split at a
  case h_2=>cases a
  rename_i new B;have hnl:=RI J c5 B;obtain⟨vn,U,A⟩:=MG (P:=P) hr hx B;obtain⟨j,hj,hjb,hjs⟩:=PS Z hi;obtain⟨z,hz,hzr⟩:=EL Z hi;have hzl:=(hzr p).length;simp at hzl;have hne:args'= #[s',x']:=ah
  subst hne;have g:∀w,(yi x').run P w=.ok n w:=fun w=>Rj hx J
  have D:∀(base:Option Addr) (c:Nat),n=0->(zu ts t #[.slice base 0 c,x']).run P w=.ok (.slice base 0 c) w:=by
   intro base c h0;rw[QB Z C I hu F E hi g base 0 c ae,U];have hv0:vn=[]:=by
    simp_all
   subst hv0;cases base<;>simp[h0,storeCells]
  have some0:∀(base:Option Addr),¬n=0->(3*n+2000)*i.bytes<=562949953421312->∃v' p' w',(zu ts t #[.slice base 0 0,x']).run P w=.ok v' w'/\Ae p' (.sl h.nx 0 n n i.size) v'/\Ext p h w p' (JI h e new) w':=by
   intro base h0 hb;obtain⟨l,hnc,K⟩:=SC (w:=w) (t:=t) Z C I hu F E hi c1 hz g base 0 0 ae ah;simp only[Nat.zero_add]at K hnc;have f:=Ext.drew hr<|w.drawn+1;obtain⟨vn',hvn',hvnr'⟩:=MG (P:=P) f.rel hx B;have L:=Ext.push (n:=l*i.size) f.rel (o:=.cells new e (0,0)) (x:=.cells (#[]++vn'.toArray++zo z.cells (l-n)) e) ?_
   ·refine⟨.slice (some ⟨w.heap.size,0,none⟩) n l,_,_,?_,?_,f.trans L⟩
    ·rw[K];have hf:∀w,(zl i.size 0<|Value.slice base 0 0).run P w=.ok #[] w:=by
      intro w;cases base<;>simp[zl,loadCells,loadCellsFrom]
     grind [zc]
    ·simp only[Ae];refine⟨w.heap.size,l*i.size,l,by rw[<-hr.len];simp,rfl,zg _,by omega,ae,ae⟩
   ·have hl:=hvnr'.length;have hsz:(#[]++vn'.toArray++zo z.cells (l-n)).size=l*i.size:=by
     simp_all [JH,Nat.sub_mul,zz]
    refine⟨_,(0,0),rfl,hsz,?_,?_,ae⟩
    ·grind
    ·have:=Sv (p:=p) (old:=[]) (vo:=[]) (by simp) hvnr'<|zo z.cells<|l-n;simpa using this.toC
  split at a
  case h_5=>cases a
  case h_1=>
   simp only[Ae]at Q;subst Q;rw[Bx]at a;by_cases h0:n=0
   ·simp only[h0,decide_true,we,ze,zw]at a;obtain⟨rfl,rfl⟩:=a;exact⟨.slice none 0 0,p,w,ah,by rfl,Ext.refl hr⟩
   ·simp only[h0,decide_false,wg]at a;cases hb:zk ((3*n+2000)*i.bytes) 562949953421312 with
    |false=>grind
    |true=>
     simp_all
  case h_2=>
   simp only[Ae]at Q;obtain⟨a0,rfl⟩:=Q;rw[Bx]at a;by_cases h0:n=0
   ·simp only[h0,decide_true,we,ze,zw]at a;obtain⟨rfl,rfl⟩:=a;exact⟨_,p,w,D (some a0) 0 h0,by simp[Ae],Ext.refl hr⟩
   ·simp only[h0,decide_false,wg]at a;cases hb:zk ((3*n+2000)*i.bytes) 562949953421312 with
    |false=>grind
    |true=>
     simp_all
  case h_3=>
   simp only[Ae]at Q;obtain⟨a0,c0,rfl⟩:=Q;rw[Bx]at a;by_cases h0:n=0
   ·simp only[h0,decide_true,we,ze,zw]at a;obtain⟨rfl,rfl⟩:=a;exact⟨_,p,w,D (some a0) c0 h0,by simp[Ae],Ext.refl hr⟩
   grind
  case h_4=>
   rename_i b off len cap o;simp only[Ae]at Q;obtain⟨r,m,c,hp,rfl,hlen,hcap,ho1,ho2⟩:=Q;cases Y:zk (len+n) cap with
   |true=>
    simp only[Y,we,zi,zw]at a;obtain⟨h1,hw,rfl,rfl⟩:=a;rw[z8]at Y;obtain⟨r',m',w',g1,g2,g3⟩:=T8 (P:=P) hr A hw;rw[hp]at g1;cases g1;refine⟨.slice (some ⟨r,off,none⟩) (len+n) c,p,w',?_,?_,g3⟩
    ·rw[QB Z C I hu F E hi g _ len c ae,U];simp_all
    ·simp only[Ae];grind
   |false=>
    simp only[Y,wg]at a;have hle':¬(len+n<=cap):=by grind [z8]
    cases hb:zk ((3*(len+n)+2000)*i.bytes) 562949953421312 with
    |false=>grind
    |true=>
     simp only[hb,we]at a;rw[z8]at hb;split at a
     case h_2=>cases a
     rename_i old M;have hol:=RI (x:=.sl b off len cap o) (n:=len) rfl (by simp) M;have hsrel:∀q:Pl,(∃q',q=p++q')->Ae q (.sl b off len cap o) (.slice (some ⟨r,off,none⟩) len c):=by
      rintro q ⟨q',rfl⟩;exact Ae.mono q' (by simp_all)
     have fresh:∀(_:c<len+n) (h2:H),R p h2 { w with drawn:=w.drawn+1 }->h2.nx=h.nx->
       ∃v' p' w',(zu ts t #[.slice (some ⟨r,off,none⟩) len c,x']).run P w=.ok v' w'/\Ae p' (.sl h.nx 0 (len+n) (len+n) i.size) v'/\
        Ext p h2 { w with drawn:=w.drawn+1 } p' (h2.push<|.cells (old++new) e (0,0)) w':=by
      intro hlt h2 hr2 hnx;obtain⟨l,hnc,K⟩:=SC (w:=w) (t:=t) Z C I hu F E hi c1 hz g (some ⟨r,off,none⟩) len c hlt hb;have f:=Ext.drew hr<|w.drawn+1;obtain⟨vn',hvn',hvnr'⟩:=MG (P:=P) f.rel hx B;obtain⟨vo',hvo',hvor'⟩:=MG (P:=P) (x:=.sl b off len cap o) f.rel (hsrel p<|by simp) M;have hl:=hvnr'.length;have hl2:=hvor'.length;have hsz:(vo'.toArray++vn'.toArray++zo z.cells (l-(len+n))).size=l*i.size:=by
       have e1:vn'.length=n*i.size:=ae
       have e2:vo'.length=len*i.size:=ae
       simp only[Array.size_append,JH,List.size_toArray,e1,e2, <-hzl,c3,Nat.sub_mul,Nat.add_mul];have:(len+n)*i.size<=l*i.size:=zz _ ae;grind
      have L:=Ext.push (n:=l*i.size) hr2 (o:=.cells (old++new) e (0,0)) (x:=.cells (vo'.toArray++vn'.toArray++zo z.cells (l-(len+n))) e)
       ⟨_,(0,0),rfl,hsz,by grind,(Sv hvor' hvnr' _).toC,ae⟩
      refine⟨.slice (some ⟨w.heap.size,0,none⟩) (len+n) l,_,_,?_,?_,L⟩
      ·grind [zc]
      ·simp only[Ae];refine⟨w.heap.size,l*i.size,l,?_,rfl,zg _,by omega,ae,ae⟩;rw[<-hnx, <-hr2.len];simp
     rw[Bx]at a;by_cases h0:o=0
     ·simp only[h0,decide_true,we,ze,zw]at a;obtain⟨rfl,rfl⟩:=a;have:=ho1 h0;have f:=Ext.drew hr<|w.drawn+1;obtain⟨v',p',w',k1,k2,k3⟩:=fresh ae h f.rel rfl;exact⟨v',p',w',k1,k2,f.trans k3⟩
     ·simp only[h0,decide_false,wg]at a;split at a
      case h_2=>cases a
      rename_i cs te fz hbk;cases hc2:(zh off 0&&zh o i.size&&zh te e&&zk fz.2 fz.1&&new.all V.one)with
      |false=>grind
      |true=>
       simp only[hc2,we,ze,zw]at a;obtain⟨rfl,rfl⟩:=a;simp only[zn,z8,Bx,w5,List.all_eq_true]at hc2;obtain⟨⟨⟨⟨rfl,rfl⟩,rfl⟩,d4⟩,d5⟩:=hc2;by_cases S:len+n<=c
       ·
        obtain⟨r',m',cc,fz',g1,g2,g3,g4,g5,g6,g7⟩:=cell_of hr hbk;rw[hp]at g1;cases g1;have hm:=ho2 h0;have hl:=A.length;have hone:∀v∈vn,v.oneCell'=true:=by
         intro v hv;obtain⟨k,X⟩:=List.mem_iff_getElem?.1 hv;have hk':=(zm.1 X).1;obtain⟨u,O,hu2⟩:=A.get (i:=k) (d:=new[k]'ae) (by simp);rw[X]at O;cases O;exact hu2.one ah
        have hbnd:len*i.size+n*i.size<=c*i.size:=by rw[<-Nat.add_mul];simp_all [zz]
        obtain⟨cc',k1,k2,k3⟩:=GM (P:=P) vn w cc (len*i.size) 0 g2 ae hone (by
         grind)
        have hrd:old=cs.take (len*i.size)/\len*i.size<=cs.length:=by
         unfold src at M;simp_all [bX,rd0]
        refine⟨.slice (some ⟨r,0,none⟩) (len+n) c,p++[(r,m)],{ w with heap:=w.heap.setIfInBounds r (.cells cc' te fz') },?_,?_,Ext.move hr (o':=.cells (old++new) te (0,0)) hbk hp ⟨cc',fz',rfl,by omega,?_,?_,?_⟩ rfl rfl rfl rfl (fun _ _ _ e1 hlk=>by cases e1;obtain⟨l1,_,l3⟩:=hlk;omega)⟩
        ·rw[QB Z C I hu F E hi g _ len c S,U];simp_all
        ·simp only[Ae];exact⟨r,m,c,by rw[<-hr.len];simp,rfl,zg _,S,ae,fun _=>hm⟩
        ·grind
        ·refine⟨?_,?_⟩
         ·grind
         ·intro k d v N W hokk;have hkl:k<(old++new).length:=ah;rw[zq hkl,k3]at W;rw[List.length_append,hol,hnl]at hkl;simp only[Nat.add_zero,List.getElem?_map]at W;rw[List.getElem?_range ae]at W;by_cases X:k<len*i.size
          ·rw[List.getElem?_append_left ae,hrd.1,zq X]at N;obtain⟨u,O,hu2⟩:=g5.get N hokk;grind
          ·rw[List.getElem?_append_right ae,hol]at N;obtain⟨u,O,hu2⟩:=A.get N;grind
        grind
       ·have X:=Ext.kill hr b;have f:=Ext.drew X.rel<|w.drawn+1;obtain⟨v',p',w',k1,k2,k3⟩:=fresh ae (h.kill b) f.rel rfl;exact⟨v',p',w',k1,k2,(X.trans f).trans k3⟩
def tI(T:Cj)(h:H)(ts:Array TypeId)(args:List V):Option (V×H):=
 match ts[0]?,args with
 |some t,[d,x]=>
  match T.und t,Ri d,Ri x with
  |some (.slice e),some a,some n=>
   match T.inf e with
   |some i=>
    match src h i.size x (Nat.min n a)with
    |some new=>
     match d with
     | .nils=>some (i64<|Nat.min n a,h)
     | .sl b off _ _ _=>(wr h b off new).map fun h'=>(i64<|Nat.min n a,h')
     |_=>none
    |none=>none
   |none=>none
  |_,_,_=>none
 |_,_=>none
theorem tL(y:T.Ok P)(hr:R p h w){ts:Array TypeId}{t:TypeId}{args:List V}{args':Array Value}(E:Ay p args args'.toList){v:V}{h':H}(a:tI T h ts args=some (v,h')):
  ∃v' p' w',(Builtin.copy_ ts t args').run P w=.ok v' w'/\Ae p' v v'/\Ext p h w p' h' w':=by
 unfold tI at a;split at a
 case h_2=>cases a
 rename_i t0 d x q;obtain⟨D,x',s,g,u⟩:=E.two;have o:args'= #[D,x']:=ah
 subst o;split at a
 case h_2=>cases a
 rename_i e F n C b B;split at a
 case h_2=>cases a
 rename_i i A;split at a
 case h_2=>cases a
 rename_i new l;obtain⟨vn,f,k⟩:=MG (P:=P) hr u l;unfold Builtin.copy_;simp only[q,yg,yc,yd,zd,AE y C,zc];split at a
 case h_3=>cases a
 case h_1=>
  subst g;simp only[Ri,ze]at b;subst b;cases a;simp only[zd,Rj u B,BH y A,zc,f];refine⟨_,p,w,(by rfl),?_,Ext.refl hr⟩;rfl
 case h_2=>
  simp only[Ri,ze]at b;subst b;obtain⟨r,m,c,hp,rfl,_⟩:=g;rw[zi]at a;obtain⟨h1,hw,he⟩:=a;cases he;obtain⟨r',m',w',g1,g2,g3⟩:=T8 (P:=P) hr k hw;rw[hp]at g1;cases g1;simp only[zd,Rj u B,BH y A,zc,f,g2];refine⟨_,p,w',(by rfl),?_,g3⟩;rfl
def Uj(T:Cj)(h:H)(t:TypeId)(x:V):Option (V×H):=
 match T.und t,x with
 |some .string,.str s=>some (.ptr h.nx 0,h.push<|.siter s 0)
 |_,_=>none
theorem gZ(f:T.Ok P)(hr:R p h w){t:TypeId}{x:V}{x':Value}(c:Ae p x x'){v:V}{h':H}(a:Uj T h t x=some (v,h')):
  ∃v' p' w',(Instr.range t x').run P w=.ok v' w'/\Ae p' v v'/\Ext p h w p' h' w':=by
 unfold Uj at a;split at a
 case h_2=>cases a
 rename_i s b;cases a;subst c;have d:=Ext.push (n:=0) hr (o:=.siter s 0) (x:=.stringIter (bytesOf s) 0) rfl;refine⟨.pointer<|some ⟨w.heap.size,0,none⟩,_,_,?_,?_,d⟩
 ·unfold Instr.range;simp only[zd,AE f b,zc,zf,run_newObj]
 ·exact⟨w.heap.size,0,by rw[<-hr.len];simp,rfl⟩
def Ov(h:H)(c:V)(a:Bool):Option (V×H):=
 match c,a with
 | .ptr b 0,true=>
  match h.get b with
  |some (.siter s pos)=>
   bif z7 pos s.length then
    some (.tup [.bool true,i64 pos,.int .i32 (Utf8.decode (bytesOf s) pos).1],h.put b<|.siter s<|pos+(Utf8.decode (bytesOf s) pos).2)
   else some (.tup [.bool false],h)
  |_=>none
 |_,_=>none
theorem pN(hr:R p h w){f:V}{d:Value}{a:Bool}{t:TypeId}(o:Ae p f d){v:V}{h':H}(b:Ov h f a=some (v,h')):
  ∃v' p' w',(Instr.next d a t).run P w=.ok v' w'/\Ae p' v v'/\Ext p h w p' h' w':=by
 unfold Ov at b;split at b
 case h_2=>cases b
 obtain⟨r,n,hp,rfl⟩:=o;split at b
 case h_2=>cases b
 rename_i s pos k;obtain⟨q,n',x,g,l,m⟩:=hr.obj _ _ k;rw[hp]at g;cases g;subst m;rw[Hz]at b;unfold Instr.next;simp only[zd,getObj,yv,l,zc,Ch];by_cases c:pos<s.length
 ·simp only[c,decide_true,we,ze,zw]at b;obtain⟨rfl,rfl⟩:=b;simp only[c,wm,zd,setObj,yv,l,zc];refine⟨_,p,_,zf ..,?_,Ext.put hr k hp (o':=.siter s<|pos+(Utf8.decode (bytesOf s) pos).2) rfl rfl rfl rfl rfl⟩;simp[Ae,i64,goInt]
 ·simp only[c,decide_false,wg,ze,zw]at b;obtain⟨rfl,rfl⟩:=b;simp only[c,vg];exact⟨_,p,w,(by rfl),by simp[Ae],Ext.refl hr⟩
def Ji(h:H)(r:Option V):Option (V×H):=
 match r with
 |none=>some (.map h.nx,h.push<|.map [] 0)
 |some _=>none
theorem W5(hr:R p h w){t:TypeId}{r:Option V}{b:Option Value}(d:H3 p r b){v:V}{h':H}(a:Ji h r=some (v,h')):
  ∃v' p' w',(Instr.makeMap t b).run P w=.ok v' w'/\Ae p' v v'/\Ext p h w p' h' w':=by
 unfold Ji at a;split at a
 case h_2=>cases a
 cases a;subst d;have c:=Ext.push (n:=0) hr (o:=.map [] 0) (x:=.map #[] 0) ⟨#[],rfl,.nil⟩;refine⟨.map<|some w.heap.size,_,_,?_,?_,c⟩
 ·rfl
 ·exact⟨w.heap.size,0,by rw[<-hr.len];simp,rfl⟩
def lY(T:Cj)(d:TypeId)(a b:V):Option Bool:=
 match T.und d,a,b with
 |some (.int _),.int k x,.int c y=>if k=c then some (x==y)else none
 |some .string,.str x,.str y=>some<|x==y
 |some .bool,.bool x,.bool y=>some<|x==y
 |_,_,_=>none
def LQ(T:Cj)(b:TypeId)(k:V):List (V×V×Nat)->Nat->Option (Option<|Nat×V)
 |[],_=>some none
 |(a,v,_)::es,i=>
  match lY T b k a with
  |some true=>some<|some (i,v)
  |some false=>LQ T b k es<|i+1
  |none=>none
def plainKey:V->Bool
 | .int .. | .str _| .bool _=>true
 |_=>false
theorem bytes_beq(x y:ByteArray):(x==y)=(x.data==y.data):=rfl
theorem bH{m:TypeId}{a b:V}{g b':Value}(l:Ae p a g)(o:Ae p b b'){r:Bool}(f:lY T m a b=some r){d:TypeDesc}(k:T.und m=some d):
  yn d g b'=some r/\(r=true->g=b'):=by
 unfold lY at f;split at f
 case h_1=>
  grind [Ae,yn]
 case h_2=>
  rename_i c;rw[k]at c;simp only[Ae]at l o;cases f;simp_all [yn,bytes_beq,bytesOf]
 case h_3=>
  rename_i c;rw[k]at c;cases c;subst l o;cases f;exact⟨rfl,(by simp)⟩
 grind
theorem kE{m:TypeId}{k:V}{g:Value}(x:Ae p k g){d:TypeDesc}(o:T.und m=some d):
  ∀ {es:List (V×V×Nat)} {l:List MapEntry},D2 p es l->∀ {i:Nat} {r:Option (Nat×V)},LQ T m k es i=some r->
  ∃f,yj d g l i=some f/\(match r with|none=>f=none|some (j,v)=>∃v',f=some (j,v')/\Ae p v v'/\i<=j/\∃e,l[j-i]?=some e/\e.key=g):=by
 intro es l q;induction q with
 |nil=>intro i r c;simp only[LQ,ze]at c;subst c;exact⟨none,rfl,rfl⟩
 |@cons a v b es e l s B D _ y=>
  intro i r c;unfold LQ at c;split at c
  case h_1=>
   rename_i u;cases c;obtain⟨A,C⟩:=bH x s u o;simp_all [yj]
  case h_2=>
   grind [bH,yj]
  grind
theorem run_checkKey{k:V}{a:Value}(o:Ae p k a)(hp:plainKey k=true)(l:T.Ok P){c:TypeId}{d:TypeDesc}(f:T.und c=some d)(g:EE d=false)(q:∀m,d≠ .interface m)(b:Bool):
  (yk b 10000 c a).run P w=.ok () w:=by
 unfold yk;rw[zd,AE l f];cases k<;>simp only[plainKey]at hp<;>simp only[Ae]at o
 case bool|int|str=>
  cases d<;>first|rfl|(cases g;done)|grind
 all_goals cases hp
def uT:TypeDesc->Bool
 | .int _| .string| .bool=>true
 |_=>false
theorem iS{d:TypeDesc}(h:uT d=true):EE d=false/\∀a,d≠ .interface a:=by
 cases d<;>first|(cases h;done)|exact⟨rfl,fun a e=>by cases e⟩
theorem Se{k:V}{a:Value}(b:Ae p k a)(hp:plainKey k=true):zx 10000 a a=true:=by
 cases k<;>simp only[plainKey]at hp<;>simp only[Ae]at b
 case bool=>grind [zx]
 case int=>grind [zx]
 case str=>grind [zx,bytes_beq]
 all_goals cases hp
theorem Xg{a b:V}{c b':Value}(d:Ae p a c)(f:Ae p b b')(h:EK a b=some true):c=b':=by
 unfold EK at h;grind [Ae]
theorem LU:∀ {d f:List V} {x y:List Value},Ay p d x->Ay p f y->Ca d f=some true->x=y
 |[],[],x,y,g,c,_=>by simp_all
 |[],_::_,_,_,_,_,h=>by simp[Ca]at h
 |_::_,[],_,_,_,_,h=>by simp[Ca]at h
 |a::l,b::r,x,y,g,c,h=>by
  obtain⟨u,q,rfl,k,o⟩:=g;obtain⟨v,vs,rfl,h3,h4⟩:=c;unfold Ca at h;split at h
  case h_1=>
   rename_i m;rw[Xg k h3 m,LU o h4 h]
  case h_2=>grind
  grind
theorem W9:∀ {ks:List FK} {d:List V} {x:List Value},fit ks d=true->Ay p d x->(x.zip x).all (fun(a,b)=>zx 9999 a b)=true
 |[],[],x,_,f=>by simp_all
 |[],_::_,_,h,_=>by simp[fit]at h
 |_::_,[],_,h,_=>by simp_all
 |k::ks,v::vs,x,h,f=>by
  obtain⟨u,o,rfl,m,g⟩:=f;unfold fit at h;cases c:k.ok v with
  |false=>grind
  |true=>
   simp only[c,we]at h;have l:=W9 h g;simp only[List.zip_cons_cons,List.all_cons,l,Bool.and_true];unfold FK.ok at c;grind [Ae,zx,bytes_beq]
def RL(ks:List FK)(k:List V):List (V×V×Nat)->Nat->Option (Option<|Nat×V)
 |[],_=>some none
 |(a,v,_)::es,i=>
  match a with
  | .agg b=>match Q9 (some ks) k b with
   |some true=>some<|some (i,v)
   |some false=>RL ks k es<|i+1
   |none=>none
  |_=>none
def JJ(T:Cj)(a:TypeId)(d:TypeDesc)(k:V):Bool:=
 match k with
 | .agg b=>match T.flat a with
  |some ks=>fit ks b
  |none=>false
 |k=>plainKey k&&uT d
def K9(T:Cj)(a:TypeId)(k:V)(es:List (V×V×Nat)):Option (Option<|Nat×V):=
 match k with
 | .agg b=>match T.flat a with
  |some ks=>RL ks b es 0
  |none=>none
 |k=>LQ T a k es 0
theorem PD(E:T.Ok P){g:TypeId}{ks:List FK}(A:T.flat g=some ks){k:List V}{x:Array Value}(C:Ay p k x.toList):
  ∀ {es:List (V×V×Nat)} {l:List MapEntry},D2 p es l->∀ {i:Nat} {r:Option (Nat×V)},RL ks k es i=some r->
  ∃d,(yh g (.agg x) l i).run P w=.ok d w/\(match r with|none=>d=none|some (j,v)=>∃v',d=some (j,v')/\Ae p v v'/\i<=j/\∃e,l[j-i]?=some e/\e.key=.agg x):=by
 intro es l F;induction F with
 |nil=>intro i r c;simp only[RL,ze]at c;subst c;exact⟨none,rfl,rfl⟩
 |@cons a v b es e l f I K _ G=>
  intro i r c;unfold RL at c;split at c
  case h_2=>cases c
  rename_i D;obtain⟨y,B,f⟩:=f;split at c
  case h_3=>cases c
  case h_1=>
   rename_i m;cases c;obtain⟨l',u,q,s,o⟩:=Iw m;cases u;refine⟨some (i,e.val),?_,e.val,rfl,I,zg _,e,by simp,?_⟩
   ·simp only[yh,zd,B,E.flat g ks A p k D x y true w q s C f o,zc,wm,zf]
   grind [LU,Array.toList_inj]
  case h_2=>
   rename_i m;obtain⟨l',u,q,s,o⟩:=Iw m;cases u;obtain⟨d,k1,k2⟩:=G c;refine⟨d,?_,?_⟩
   ·simp only[yh,zd,B,E.flat g ks A p k D x y false w q s C f o,zc,zp,vg];exact k1
   ·cases r with
    |none=>exact k2
    |some J=>
     grind
theorem Ky(o:T.Ok P){c:TypeId}{d:TypeDesc}(r:T.und c=some d){k:V}{f:Value}(m:Ae p k f)(a:JJ T c d k=true)(b:Bool):
  (yk b 10000 c f).run P w=.ok () w:=by
 unfold JJ at a;split at a
 case h_1=>
  rename_i q;split at a
  case h_2=>cases a
  rename_i ks l;obtain⟨x,rfl,g⟩:=m;exact o.key c ks l p q x b w a g
 case h_2=>
  grind [iS,run_checkKey]
theorem YS{f:TypeId}{d:TypeDesc}{k:V}{b:Value}(g:Ae p k b)(a:JJ T f d k=true):zx 10000 b b=true:=by
 unfold JJ at a;split at a
 case h_1=>
  split at a
  case h_2=>cases a
  obtain⟨x,rfl,c⟩:=g;have:=W9 a c;simp_all [zx]
 case h_2=>
  grind [Se]
def entries(h:H)(m:V):Option (List<|V×V×Nat):=
 match m with
 | .nilm=>some []
 | .map b=>match h.get b with
  |some (.map es _)=>some es
  |_=>none
 |_=>none
def Fg(T:Cj)(h:H)(t:TypeId)(m k:V)(ok:Bool):Option V:=
 match T.und t with
 |some (.map a e)=>
  match T.und a,entries h m with
  |some d,some es=>
   bif JJ T a d k then
    match K9 T a k es with
    |some (some (_,v))=>some<|bif ok then .tup [v,.bool true]else v
    |some none=>match T.inf e with
     |some i=>some<|bif ok then .tup [i.zv,.bool false]else i.zv
     |none=>none
    |none=>none
   else none
  |_,_=>none
 |_=>none
theorem NA(hr:R p h w){m:V}{d:Value}(k:Ae p m d){es:List (V×V×Nat)}(a:entries h m=some es):
  (d=.map none/\es=[])\/∃r l c b n,m=.map b/\d=.map (some r)/\p[b]?=some (r,n)/\h.get b=some (.map es c)/\w.heap[r]?=some (.map l c)/\D2 p es l.toList:=by
 unfold entries at a;split at a
 case h_1=>simp_all [Ae]
 case h_2=>
  simp only[Ae]at k;split at a
  case h_2=>cases a
  rename_i f c g;obtain⟨s,n',o,q,u,l,x,v⟩:=hr.obj _ _ g;grind
 grind
theorem run_findKey(o:T.Ok P){b:TypeId}{k:V}{m:Value}(u:Ae p k m){d:TypeDesc}(f:T.und b=some d){es:List (V×V×Nat)}{l:List MapEntry}(q:D2 p es l)
  {r:Option (Nat×V)} (c:K9 T b k es=some r):
  ∃a,(yo b m l).run P w=.ok a w/\(match r with|none=>a=none|some (j,v)=>∃v',a=some (j,v')/\Ae p v v'/\∃e,l[j]?=some e/\e.key=m):=by
 by_cases g:∃A,k=.agg A
 ·obtain⟨A,rfl⟩:=g;simp only[K9]at c;cases y:T.flat b with
  |none=>grind
  |some ks=>
   simp only[y]at c;obtain⟨x,rfl,C⟩:=u;obtain⟨a,s,D⟩:=PD (P:=P) (w:=w) o y C q c;refine⟨a,?_,?_⟩
   ·unfold yo;simp only[zd,AE o f,zc];cases l with
    |nil=>grind [yj,yh]
    |cons e l=>grind [yj,yn]
   grind
 ·have B:K9 T b k es=LQ T b k es 0:=by cases k<;>first|rfl|grind
  rw[B]at c;obtain⟨a,s,D⟩:=kE u f q c;refine⟨a,?_,?_⟩
  ·unfold yo;simp only[zd,AE o f,zc,s,zf]
  grind
theorem Y2(f:T.Ok P)(hr:R p h w){t:TypeId}{m k:V}{x q:Value}{ok:Bool}(F:Ae p m x)(s:Ae p k q){v:V}(a:Fg T h t m k ok=some v):
  ∃v',(yt t x q ok).run P w=.ok v' w/\Ae p v v':=by
 unfold Fg at a;split at a
 case h_2=>cases a
 rename_i D e C;split at a
 case h_2=>cases a
 rename_i d es c B;cases u:JJ T D d k with
 |false=>grind
 |true=>
  simp only[u,we]at a;obtain⟨l,o,g⟩:∃l:List MapEntry,D2 p es l/\(yt t x q ok).run P w=((yo D q l).run P w).andThen fun r w'=>
    match r with
    |some (_,v)=>.ok (if ok then .tuple #[v,.bool true]else v) w'
    |none=>((zeroValue e).run P w').andThen fun z w'=>.ok (if ok then .tuple #[z,.bool false]else z) w':=by
   rcases NA hr F B with⟨rfl,rfl⟩|⟨r,l,M,b,n,rfl,rfl,hp,L,J,E⟩
   ·refine⟨[],.nil,?_⟩;unfold yt;simp only[zd,AE f C,zc,zf,Ky f c s u];congr 1;funext r w'
    cases r<;>simp
   ·refine⟨l.toList,E,?_⟩;unfold yt;simp only[zd,AE f C,zc,zf,Ky f c s u,getObj,yv,J];congr 1;funext r w'
    cases r<;>simp
  rw[g];split at a
  case h_3=>cases a
  case h_1=>
   rename_i j v0 y;cases a;obtain⟨G,A,v',rfl,N,_⟩:=run_findKey (P:=P) (w:=w) f s c o y;simp only[A,zc];cases ok
   ·grind
   simp_all [Ae]
  case h_2=>
   rename_i y;split at a
   case h_2=>cases a
   rename_i i K;cases a;obtain⟨G,A,I⟩:=run_findKey (P:=P) (w:=w) f s c o y;subst I;obtain⟨z,hz,hzr⟩:=Adq f K;simp only[A,zc,hz];cases ok
   ·grind
   simp_all [Ae]
def YZ(es:List (V×V×Nat))(i:Nat)(k v:V):List (V×V×Nat):=es.modify i fun e=>(k,v,e.2.2)
theorem D2.modify{es:List (V×V×Nat)}{l:List MapEntry}(f:D2 p es l){k v:V}{c v':Value}(o:Ae p k c)(s:Ae p v v')(i:Nat):
  D2 p (YZ es i k v) (l.modify i fun e=>{ e with key:=c,val:=v' }):=by
 unfold YZ;induction f generalizing i with
 |nil=>simp;exact .nil
 |@cons a x b es e l g q d r m=>
  cases i with
  |zero=>simp;exact .cons o s d r
  |succ i=>simp;exact .cons g q d<|m i
theorem D2.snoc{es:List (V×V×Nat)}{l:List MapEntry}(a:D2 p es l){k v:V}{e:MapEntry}(m:Ae p k e.key)(f:Ae p v e.val):D2 p (es++[(k,v,e.born)]) (l++[e]):=by
 induction a with
 |nil=>exact .cons m f rfl .nil
 |cons b d g _ c=>exact .cons b d g c
def IK(T:Cj)(h:H)(t:TypeId)(m k v:V):Option H:=
 match T.und t,m with
 |some (.map c _),.map b=>
  match T.und c,h.get b with
  |some d,some (.map es a)=>
   bif JJ T c d k then
    match K9 T c k es with
    |some (some (i,_))=>some<|h.put b<|.map (YZ es i k v) a
    |some none=>some<|h.put b<|.map (es++[(k,v,a)])<|a+1
    |none=>none
   else none
  |_,_=>none
 |_,_=>none
theorem Yo(y:T.Ok P)(hr:R p h w){t:TypeId}{m k v:V}{F g v':Value}(E:Ae p m F)(f:Ae p k g)(G:Ae p v v'){h':H}(a:IK T h t m k v=some h'):
  ∃w',(Instr.mapUpdate t F g v').run P w=.ok () w'/\Ext p h w p h' w':=by
 unfold IK at a;split at a
 case h_2=>cases a
 rename_i J e b I;split at a
 case h_2=>cases a
 rename_i d es x c u;cases A:JJ T J d k with
 |false=>grind
 |true=>
  simp only[A,we]at a;rcases NA (es:=es) hr E (by simp only[entries,u])with⟨rfl,_⟩|⟨r,l,N,b',n,M,rfl,hp,o,D,s⟩
  ·simp[Ae]at E
  ·cases M;rw[u]at o;cases o;unfold Instr.mapUpdate;simp only[zd,AE y I,zc,Ky y c f A,getObj,yv,D];split at a
   case h_3=>cases a
   case h_1=>
    rename_i j v0 B;cases a;obtain⟨K,C,v1,rfl,S,Q,O,U⟩:=run_findKey (P:=P) (w:=w) y f c s B;simp only[C,zc];have q:(l[j]?.map (·.key)).getD g=g:=by
     grind
    rw[q];unfold Instr.keyThatStays;simp only[YS f A,wm,zd,zf,zc,setObj,yv,D];refine⟨_,rfl,Ext.put hr u hp (o':=.map (YZ es j k v) x) ⟨_,rfl,?_⟩ rfl rfl rfl rfl⟩;have:=s.modify f G j;grind
   case h_2=>
    rename_i B;cases a;obtain⟨K,C,L⟩:=run_findKey (P:=P) (w:=w) y f c s B;subst L;simp only[C,zc,setObj,yv,D];refine⟨_,rfl,Ext.put hr u hp (o':=.map (es++[(k,v,x)])<|x+1) ⟨_,rfl,?_⟩ rfl rfl rfl rfl⟩;have:=s.snoc (e:={ key:=g,val:=v',born:=x }) f G;grind
end
end Go.Det
