import Derived.Scope
import Derived.Laws.Sem
import Derived.KernelRfl
import Derived.Laws.Strings
import Derived.IntWalk
/- A part of a proof; no law is stated here. -/
abbrev Rd:=List UInt8
abbrev w4:=@decide_eq_true
abbrev w5:=@decide_eq_true_eq
abbrev w6:=@of_decide_eq_true
abbrev w7:=@of_decide_eq_false
abbrev w8:=@decide_eq_false
abbrev w9:=@decide_eq_false_iff_not
abbrev wc:=@if_neg
abbrev wd:=@if_pos
abbrev we:=@cond_true
abbrev wg:=@cond_false
abbrev wh:=@absurd
abbrev wi:=@congrArg
abbrev wk:=@beq_iff_eq
abbrev wm:=@if_true
abbrev vc:=@ne_eq
abbrev ve:=@and_true
abbrev vf:=@if_false
noncomputable section
open Go.Result renaming andThen_ok -> zc
open Go.Sem renaming run_bind -> zd, run_pure -> zf, run -> yw
open Option.some renaming injEq -> ze
open Nat renaming le_refl -> zg, beq -> zh, ble -> zk, mul_le_mul_right -> zz, blt -> z7, ble_eq -> z8, le_trans -> yr
open Option renaming map_eq_some_iff -> zi
open Go.Value renaming cells -> zj
open Go.Builtin renaming firstCells -> zl, zeroCells -> zo, append_ -> zu, nextslicecap -> z6, lenOf -> yj
open List renaming getElem?_eq_some_iff -> zm, getElem?_take_of_lt -> zq, getElem?_cons_zero -> yd, getElem?_cons_succ -> ye, getElem?_toArray -> yh, rec -> yq
open Bool renaming and_eq_true -> zn, false_eq_true -> zp, or_eq_true -> yv
open Go.Instr renaming sliceAt -> zr, sliceBounds -> zt, sameBits -> zx, sureAddr -> yf, findAsking -> yi, findNow -> yk, checkKey -> ym, slice -> yn, sameNow -> yo, findKey -> yp, lookup -> yu
open Prod.mk renaming injEq -> zw
open Int renaming ofNat_eq_natCast -> zy, toNat_natCast -> yc
open BitVec renaming ofInt -> yb
open Array renaming getElem?_toList -> yg
open Go.Op renaming bytesLess -> yt, equal -> yx
theorem ae{p:Prop}(h:p:=by omega):p:=h
theorem af{p:Prop}(h:p:=by decide):p:=h
theorem ag{p:Prop}(h:p:=by kernel_rfl):p:=h
theorem ah{p:Prop}(h:p:=by grind):p:=h
namespace Go.Det
section
inductive PM (α:Type) where
 |leaf
 |node (l:PM α) (v:Option α) (r:PM α)
inductive GI where
 |here
 |l (p:GI)
 |r (p:GI)
variable {α:Type}
def pT(f:Nat):Nat->GI:=
 @Nat.rec (fun _=>Nat->GI) (fun _=>.here) (fun _ a i=>bif zh i 0 then .here else bif zh (Nat.mod i 2) 1 then .l (a<|Nat.div i 2)else .r<|a<|Nat.sub (Nat.div i 2) 1) f
def pth(i:Nat):GI:=pT i i
def GI.get(p:GI):PM α->Option α:=
 @GI.rec (fun _=>PM α->Option α)
  (fun m=>@PM.rec α (fun _=>Option α) none (fun _ v _ _ _=>v) m)
  (fun _ a m=>@PM.rec α (fun _=>Option α) none (fun l _ _ _ _=>a l) m)
  (fun _ a m=>@PM.rec α (fun _=>Option α) none (fun _ _ r _ _=>a r) m) p
def GI.set(p:GI):PM α->Option α->PM α:=
 @GI.rec (fun _=>PM α->Option α->PM α)
  (fun m v=>@PM.rec α (fun _=>PM α) (.node .leaf v .leaf) (fun l _ r _ _=>.node l v r) m)
  (fun _ a m v=>@PM.rec α (fun _=>PM α) (.node (a .leaf v) none .leaf) (fun l x r _ _=>.node (a l v) x r) m)
  (fun _ a m v=>@PM.rec α (fun _=>PM α) (.node .leaf none<|a .leaf v) (fun l x r _ _=>.node l x<|a r v) m) p
def PM.get(m:PM α)(i:Nat):Option α:=(pth i).get m
def PM.set(m:PM α)(i:Nat)(v:Option α):PM α:=(pth i).set m v
theorem Bm(a b:Nat):zh a b=decide (a=b):=by
 by_cases h:a=b
 ·simp_all
 grind [Nat.eq_of_beq_eq_true]
def GI.num:GI->Nat
 | .here=>0
 | .l p=>2*p.num+1
 | .r p=>2*(p.num+1)
theorem PJ:∀(f i:Nat),i<=f->(pT f i).num=i
 |0,i,h=>by cases ae;rfl
 |f+1,i,h=>by
  show GI.num (bif zh i 0 then .here else bif zh (i % 2) 1 then .l (pT f<|i/2)else .r<|pT f<|i/2-1)=i;simp only[Bm];by_cases h0:i=0
  ·subst h0;rfl
  ·by_cases a:i % 2=1
   ·simp only[h0,a,decide_false,decide_true,wg,we,GI.num];rw[PJ f (i/2) ae];omega
   ·simp only[h0,a,decide_false,wg,GI.num];rw[PJ f (i/2-1) ae];omega
theorem sC{i j:Nat}(h:pth i=pth j):i=j:=by
 have:=wi GI.num h;unfold pth at this;simp_all [PJ]
theorem GI.C6(p:GI):p.get (.leaf:PM α)=none:=by cases p<;>rfl
theorem GI.get_set_same:∀(p:GI) (m:PM α) (v:Option α),p.get (p.set m v)=v
 | .here,m,v=>by cases m<;>rfl
 | .l p,m,v=>by
  cases m with
  |leaf=>exact GI.get_set_same p .leaf v
  |node l x r=>exact GI.get_set_same p l v
 | .r p,m,v=>by
  cases m with
  |leaf=>exact GI.get_set_same p .leaf v
  |node l x r=>exact GI.get_set_same p r v
theorem GI.Ft:∀(p q:GI) (m:PM α) (v:Option α),q≠p->q.get (p.set m v)=q.get m
 | .here,.here,m,v,h=>wh rfl h
 | .here,.l q,m,v,_=>by
  cases m with
  |leaf=>exact q.C6
  |node l x r=>rfl
 | .here,.r q,m,v,_=>by
  cases m with
  |leaf=>exact q.C6
  |node l x r=>rfl
 | .l p,.here,m,v,_=>by cases m<;>rfl
 | .r p,.here,m,v,_=>by cases m<;>rfl
 | .l p,.r q,m,v,_=>by
  cases m with
  |leaf=>exact q.C6
  |node l x r=>rfl
 | .r p,.l q,m,v,_=>by
  cases m with
  |leaf=>exact q.C6
  |node l x r=>rfl
 | .l p,.l q,m,v,h=>by
  have h':q≠p:=ah;cases m with
  |leaf=>exact(GI.Ft p q .leaf v h').trans q.C6
  |node l x r=>exact GI.Ft p q l v h'
 | .r p,.r q,m,v,h=>by
  have h':q≠p:=ah;cases m with
  |leaf=>exact(GI.Ft p q .leaf v h').trans q.C6
  |node l x r=>exact GI.Ft p q r v h'
@[simp] theorem PM.CD(m:PM α)(i:Nat)(v:Option α)(j:Nat):(m.set i v).get j=if j=i then v else m.get j:=by
 unfold PM.get PM.set;by_cases e:j=i
 ·simp_all [GI.get_set_same]
 ·grind [GI.Ft,sC]
@[simp] theorem PM.C6(j:Nat):(PM.leaf:PM α).get j=none:=GI.C6 _
def Fm(l:List α):Nat:=@yq α (fun _=>Nat) 0 (fun _ _ a=>Nat.add a 1) l
theorem DE(l:List α):Fm l=l.length:=by
 induction l with
 |nil=>rfl
 |cons a l b=>simp_all [Fm]
def JP(n:Nat):List α->List α:=
 @Nat.rec (fun _=>List α->List α) (fun l=>l) (fun _ b l=>@yq α (fun _=>List α) [] (fun _ a _=>b a) l) n
theorem NP:∀(n:Nat) (l:List α),JP n l=l.drop n
 |0,_l=>rfl
 |_n+1,[]=>rfl
 |n+1,_a::l=>NP n l
def X8(n:Nat):List α->List α:=
 @Nat.rec (fun _=>List α->List α) (fun _=>[]) (fun _ c l=>@yq α (fun _=>List α) [] (fun a b _=>a::c b) l) n
theorem N3:∀(n:Nat) (l:List α),X8 n l=l.take n
 |0,_l=>rfl
 |_n+1,[]=>rfl
 |n+1,a::l=>wi (a:: ·)<|N3 n l
def JO(vs:List α):List α->List α:=
 @yq α (fun _=>List α->List α) (fun l=>l) (fun v _ b l=>@yq α (fun _=>List α) [] (fun _ a _=>v::b a) l) vs
def Cn(n:Nat)(vs:List α):List α->List α:=
 @Nat.rec (fun _=>List α->List α) (fun l=>JO vs l) (fun _ c l=>@yq α (fun _=>List α) [] (fun a b _=>a::c b) l) n
def KU(f:α->Bool)(l:List α):Bool:=@yq α (fun _=>Bool) true (fun a _ b=>bif f a then b else false) l
theorem Fi(f:α->Bool):∀l:List α,KU f l=l.all f
 |[]=>rfl
 |a::l=>by
  show(bif f a then KU f l else false)=_;rw[Fi f l,List.all_cons];simp
inductive V where
 |bool (b:Bool)
 |int (k:IntKind) (n:Int)
 |str (s:Rd)
 |nilp
 |ptr (b off:Nat)
 |nils
 |sl (b off len cap o:Nat)
 |esl
 |es0
 |junk
 |nilm
 |map (b:Nat)
 |fn (f:Fn) (first captured:List V)
 |yld (b:Nat)
 |nilf
 |iface (t:TypeId) (v:V)
 |nili
 |agg (cs:List V)
 |tup (vs:List V)
 deriving Inhabited
abbrev Pl:=List<|Nat×Nat
def bytesOf(s:Rd):ByteArray:=⟨s.toArray⟩
mutual
def Ab(p:Pl):V->Value->Prop
 | .bool b,v=>v=.bool b
 | .int k n,v=>v=.int k n
 | .str s,v=>v=.string (bytesOf s)
 | .nilp,v=>v=.pointer none
 | .ptr b off,v=>∃r n,p[b]?=some (r,n)/\v=.pointer (some ⟨r,off,none⟩)
 | .nils,v=>v=.slice none 0 0
 | .sl b off len cap o,v=>∃r n c,p[b]?=some (r,n)/\v=.slice (some ⟨r,off,none⟩) len c/\len<=cap/\cap<=c/\(o=0->c=cap)/\(o≠0->off+c*o<=n)
 | .esl,v=>∃a c,v=.slice (some a) 0 c
 | .es0,v=>∃a,v=.slice (some a) 0 0
 | .junk,_=>False
 | .nilm,v=>v=.map none
 | .map b,v=>∃r n,p[b]?=some (r,n)/\v=.map (some r)
 | .fn f first captured,v=>∃x y,v=.func f x y/\Ar p first x.toList/\Ar p captured y.toList
 | .yld b,v=>∃r n,p[b]?=some (r,n)/\v=.func (.yield r) #[] #[]
 | .nilf,v=>v=.nilFunc
 | .iface t x,v=>∃y,v=.iface t y/\Ab p x y
 | .nili,v=>v=.nilIface
 | .agg cs,v=>∃x,v=.agg x/\Ar p cs x.toList
 | .tup cs,v=>∃x,v=.tuple x/\Ar p cs x.toList
def Ar(p:Pl):List V->List Value->Prop
 |[],l=>l=[]
 |d::ds,l=>∃v vs,l=v::vs/\Ab p d v/\Ar p ds vs
end
@[simp] theorem Jp(p:Pl)(l:List Value):Ar p [] l↔l=[]:=by rfl
@[simp] theorem Ba(p:Pl)(d:V)(ds:List V)(v:Value)(vs:List Value):Ar p (d::ds) (v::vs)↔Ab p d v/\Ar p ds vs:=by
 simp only[Ar];grind
@[simp] theorem cA(p:Pl)(d:V)(ds:List V):¬Ar p (d::ds) []:=by
 simp[Ar]
theorem Ar.length{p:Pl}:∀ {ds:List V} {vs:List Value},Ar p ds vs->ds.length=vs.length
 |[],vs,h=>by simp_all
 |d::ds,[],h=>by simp at h
 |d::ds,v::vs,h=>by simp at h;simp[h.2.length]
theorem Ar.get{p:Pl}:∀ {ds:List V} {vs:List Value},Ar p ds vs->∀ {i:Nat} {d:V},ds[i]?=some d->∃v,vs[i]?=some v/\Ab p d v
 |[],vs,_,i,d,a=>by grind
 |d::ds,[],h,_,_,_=>by simp at h
 |d::ds,v::vs,h,i,x,a=>by
  simp at h;cases i with
  |zero=>grind
  |succ i=>simpa using h.2.get a
theorem Ar.mk{p:Pl}:∀ {ds:List V} {vs:List Value},ds.length=vs.length->(∀(i:Nat) d v,ds[i]?=some d->vs[i]?=some v->Ab p d v)->Ar p ds vs
 |[],[],_,_=>by simp
 |[],_::_,h,_=>by simp at h
 |_::_,[],h,_=>by simp at h
 |d::ds,v::vs,h,a=>by
  simp at h;rw[Ba];exact⟨a 0 d v rfl rfl,Ar.mk h<|fun i b v' c f=>a (i+1) b v' ah ah⟩
theorem Ar.append{p:Pl}:∀ {a:List V} {x:List Value} {b:List V} {y:List Value},Ar p a x->Ar p b y->Ar p (a++b) (x++y)
 |[],x,b,y,h,h'=>by simp_all
 |d::ds,[],_,_,h,_=>by simp at h
 |d::ds,v::vs,b,y,h,h'=>by simp at h;simp[h.1,h.2.append h']
theorem Ar.take{p:Pl}:∀ {a:List V} {x:List Value} (n:Nat),Ar p a x->Ar p (a.take n) (x.take n)
 |[],x,n,h=>by simp_all
 |d::ds,[],_,h=>by simp at h
 |d::ds,v::vs,0,h=>by simp
 |d::ds,v::vs,n+1,h=>by simp at h;simp[h.1,h.2.take n]
theorem Ar.drop{p:Pl}:∀ {a:List V} {x:List Value} (n:Nat),Ar p a x->Ar p (a.drop n) (x.drop n)
 |[],x,n,h=>by simp_all
 |d::ds,[],_,h=>by simp at h
 |d::ds,v::vs,0,h=>by grind
 |d::ds,v::vs,n+1,h=>by simp at h;simpa using h.2.drop n
theorem Ar.set{p:Pl}:∀ {a:List V} {x:List Value} (i:Nat) {d:V} {v:Value},Ar p a x->Ab p d v->Ar p (a.set i d) (x.set i v)
 |[],x,n,_,_,h,_=>by simp_all
 |d::ds,[],_,_,_,h,_=>by simp at h
 |d::ds,v::vs,0,_,_,h,h'=>by simp_all
 |d::ds,v::vs,n+1,_,_,h,h'=>by simp at h;simp[h.1,h.2.set n h']
mutual
theorem Ab.mono{p:Pl}(q:Pl):∀ {d:V} {v:Value},Ab p d v->Ab (p++q) d v
 | .bool _,_,h=>by simpa [Ab]using h
 | .int _ _,_,h=>by simpa [Ab]using h
 | .str _,_,h=>by simpa [Ab]using h
 | .nilp,_,h=>by simpa [Ab]using h
 | .ptr b off,v,h=>by
  grind [Ab]
 | .nils,_,h=>by simpa [Ab]using h
 | .sl b off len cap o,v,h=>by
  grind [Ab]
 | .esl,_,h=>by simpa [Ab]using h
 | .es0,_,h=>by simpa [Ab]using h
 | .junk,_,h=>by simp[Ab]at h
 | .nilm,_,h=>by simpa [Ab]using h
 | .map b,v,h=>by
  grind [Ab]
 | .fn f a b,v,h=>by
  obtain⟨x,y,rfl,c,g⟩:=h;exact⟨x,y,rfl,Ar.mono q c,Ar.mono q g⟩
 | .yld b,v,h=>by
  grind [Ab]
 | .nilf,_,h=>by simpa [Ab]using h
 | .iface t x,v,h=>by
  simp only[Ab]at h ⊢;obtain⟨y,rfl,c⟩:=h;simp_all [Ab.mono]
 | .nili,_,h=>by simpa [Ab]using h
 | .agg cs,v,h=>by
  simp only[Ab]at h ⊢;obtain⟨x,rfl,c⟩:=h;simp_all [Ar.mono]
 | .tup cs,v,h=>by
  simp only[Ab]at h ⊢;obtain⟨x,rfl,c⟩:=h;simp_all [Ar.mono]
theorem Ar.mono{p:Pl}(q:Pl):∀ {ds:List V} {vs:List Value},Ar p ds vs->Ar (p++q) ds vs
 |[],_,h=>by simp_all
 |_::_,[],h=>by simp at h
 |d::ds,v::vs,h=>by simp only[Ba]at h ⊢;exact⟨Ab.mono q h.1,Ar.mono q h.2⟩
end
structure Fr where
 n:Nat
 m:PM V
def Fr.get(f:Fr)(t:Nat):V:=(f.m.get t).getD<|.tup []
def Fr.put(f:Fr)(d:Option Nat)(v:V):Option Fr:=
 match d with
 |none=>some f
 |some t=>bif z7 t f.n then some ⟨f.n,f.m.set t<|some v⟩else none
def Em(p:Pl)(f:Fr)(tmps:Array Value):Prop:=f.n=tmps.size/\∀t,Ab p (f.get t)<|tmps.getD t undef
def Co(p:Pl)(f:Fr)(a:Act):Prop:=f.n=a.tmps.size/\∀t,Ab p (f.get t)<|a.tmps.getD t undef
theorem Em.mono{p:Pl}(q:Pl){f:Fr}{tmps:Array Value}(h:Em p f tmps):Em (p++q) f tmps:=⟨h.1,fun t=>(h.2 t).mono q⟩
structure LS where
 st:LoopState
 pend:Option Code
 fr:Fr
 ps:Array Tmp
 asg:Code
 body:Code
 db:Nat
inductive O where
 |cells (cs:List V) (elem:TypeId) (fz:Nat×Nat)
 |map (es:List (V×V×Nat)) (clock:Nat)
 |siter (s:Rd) (pos:Nat)
 |miter (b:Option Nat) (since:Nat) (seen:List Nat) (last:Nat)
 |loop (l:LS)
 |defd (open_:Bool)
structure H where
 m:PM O
 nx:Nat
def H.get(h:H)(b:Nat):Option O:=h.m.get b
def H.push(h:H)(o:O):H:=⟨h.m.set h.nx<|some o,h.nx+1⟩
def H.put(h:H)(b:Nat)(o:O):H:=⟨h.m.set b<|some o,h.nx⟩
def H.kill(h:H)(b:Nat):H:=⟨h.m.set b none,h.nx⟩
@[simp] theorem H.Cw(h:H)(o:O)(b:Nat):(h.push o).get b=if b=h.nx then some o else h.get b:=by simp[H.push,H.get]
@[simp] theorem H.BT(h:H)(b:Nat)(o:O)(j:Nat):(h.put b o).get j=if j=b then some o else h.get j:=by simp[H.put,H.get]
@[simp] theorem H.Dv(h:H)(b:Nat)(j:Nat):(h.kill b).get j=if j=b then none else h.get j:=by simp[H.kill,H.get]
@[simp] theorem H.AbQ(h:H)(o:O):(h.push o).nx=h.nx+1:=rfl
@[simp] theorem H.yZ(h:H)(b:Nat)(o:O):(h.put b o).nx=h.nx:=rfl
@[simp] theorem H.Yx(h:H)(b:Nat):(h.kill b).nx=h.nx:=rfl
inductive Dx (p:Pl):List (V×V×Nat)->List MapEntry->Prop
 |nil:Dx p [] []
 |cons {k v:V} {b:Nat} {es:List (V×V×Nat)} {e:MapEntry} {l:List MapEntry}:Ab p k e.key->Ab p v e.val->e.born=b->Dx p es l->Dx p ((k,v,b)::es) (e::l)
def V.ok:V->Bool
 | .junk=>false
 |_=>true
def D6(p:Pl)(cs:List V)(vs:List Value):Prop:=cs.length=vs.length/\∀(i:Nat) d v,cs[i]?=some d->vs[i]?=some v->d.ok=true->Ab p d v
theorem Ar.toC{p:Pl}{cs:List V}{vs:List Value}(h:Ar p cs vs):D6 p cs vs:=⟨h.length,fun i d v a b _=>by
 obtain⟨u,c,f⟩:=h.get a;grind⟩
theorem D6.get{p:Pl}{cs:List V}{vs:List Value}(h:D6 p cs vs){i:Nat}{d:V}(b:cs[i]?=some d)(a:d.ok=true):∃v,vs[i]?=some v/\Ab p d v:=by
 have c:i<vs.length:=by rw[<-h.1];grind
 exact⟨vs[i],(by simp),h.2 i d _ b (by simp) a⟩
theorem D6.drop{p:Pl}{cs:List V}{vs:List Value}(h:D6 p cs vs)(n:Nat):D6 p (cs.drop n) (vs.drop n):=
 ⟨by simp[h.1],fun i d v b a=>h.2 (n+i) d v ah ah⟩
theorem D6.take{p:Pl}{cs:List V}{vs:List Value}(h:D6 p cs vs)(n:Nat):D6 p (cs.take n) (vs.take n):=
 ⟨by simp[h.1],fun i d v b a=>by
  have c:i<n:=ah
  rw[zq c]at b a;exact h.2 i d v b a⟩
theorem D6.JM{p:Pl}{cs:List V}{vs:List Value}(h:D6 p cs vs)(c:∀d∈cs,d.ok=true):Ar p cs vs:=
 Ar.mk h.1 fun i d v b a=>h.2 i d v b a ah
def Jy(p:Pl)(n:Nat):O->Obj->Prop
 | .cells cs t fz,o=>∃(c:Array Value) (fz':Nat×Nat),o=.cells c t fz'/\c.size=n/\cs.length<=n/\D6 p cs (c.toList.take cs.length)/\∀i,i<n->fz'.1<=i->i<fz'.2->fz.1<=i/\i<fz.2
 | .map es clock,o=>∃l:Array MapEntry,o=.map l clock/\Dx p es l.toList
 | .siter s pos,o=>o=.stringIter (bytesOf s) pos
 | .miter none since seen last,o=>o=.mapIter none since seen.toArray last
 | .miter (some b) since seen last,o=>∃r m,p[b]?=some (r,m)/\o=.mapIter (some r) since seen.toArray last
 | .loop l,o=>∃(fn:FuncId) (tmps:Array Value) (r m:Nat),Em p l.fr tmps/\p[l.db]?=some (r,m)/\o=.loop { state:=l.st,pending:=l.pend,fn,tmps,params:=l.ps,assign:=l.asg,body:=l.body,defers:=r }
 | .defd op,o=>o=.deferred (bif op then some []else none)
theorem D6.mono{p:Pl}(q:Pl){cs:List V}{vs:List Value}(h:D6 p cs vs):D6 (p++q) cs vs:=⟨h.1,fun i d v a b c=>(h.2 i d v a b c).mono q⟩
theorem Dx.mono{p:Pl}(q:Pl){es:List (V×V×Nat)}{l:List MapEntry}(h:Dx p es l):Dx (p++q) es l:=by
 induction h with
 |nil=>exact .nil
 |cons a c d _ b=>exact .cons (a.mono q) (c.mono q) d b
theorem Jy.mono{p:Pl}(q:Pl){n:Nat}{o:O}{x:Obj}(h:Jy p n o x):Jy (p++q) n o x:=by
 cases o with
 |cells cs t fz=>obtain⟨c,fz',d,a,k,g,f⟩:=h;exact⟨c,fz',d,a,k,g.mono q,f⟩
 |map es u=>obtain⟨l,d,a⟩:=h;exact⟨l,d,a.mono q⟩
 |siter s pos=>exact h
 |miter b since seen last=>
  cases b with
  |none=>exact h
  |some b=>
   obtain⟨r,m,d,a⟩:=h;exact⟨r,m,by grind,a⟩
 |loop l=>
  obtain⟨fn,tmps,r,m,h0,d,a⟩:=h;exact⟨fn,tmps,r,m,h0.mono q,by grind,a⟩
 |defd _=>exact h
structure R(p:Pl)(h:H)(w:World):Prop where
 len:p.length=h.nx
 obj:∀b o,h.get b=some o->∃r n x,p[b]?=some (r,n)/\w.heap[r]?=some x/\Jy p n o x
 inj:∀b b' o o' r n n',h.get b=some o->h.get b'=some o'->p[b]?=some (r,n)->p[b']?=some (r,n')->b=b'
def Im(p:Pl)(h:H)(r:Nat):Prop:=∃b o n,h.get b=some o/\p[b]?=some (r,n)
def Lk(n:Nat)(fz:Nat×Nat):Prop:=fz.1=0/\n<=fz.2/\0<fz.2
def Lkd(p:Pl)(h:H)(r:Nat):Prop:=∃b n cs t fz,h.get b=some (.cells cs t fz)/\p[b]?=some (r,n)/\Lk n fz
structure Ext(p:Pl)(h:H)(w:World)(p':Pl)(h':H)(w':World):Prop where
 pre:∃q,p'=p++q
 rel:R p' h' w'
 size:w.heap.size<=w'.heap.size
 same:∀r,r<w.heap.size->¬Im p h r->w'.heap[r]?=w.heap[r]?
 im:∀r,Im p' h' r->Im p h r\/w.heap.size<=r
 os:w'.os=w.os
 out:w'.output=w.output
 tape:w'.tape=w.tape
 lock:∀r,r<w.heap.size->Lkd p h r->w'.heap[r]?=w.heap[r]?/\(Lkd p' h' r\/¬Im p' h' r)
 dr:w.drawn<=w'.drawn
theorem Ext.refl{p:Pl}{h:H}{w:World}(a:R p h w):Ext p h w p h w:=
 ⟨(by simp),a,zg _,(by simp),ah,rfl,rfl,rfl,ah,zg _⟩
theorem Ext.trans{p d c:Pl}{h k f:H}{w g l:World}(a:Ext p h w d k g)(b:Ext d k g c f l):Ext p h w c f l:=by
 obtain⟨q,A⟩:=a.pre;obtain⟨q',hq'⟩:=b.pre;refine⟨ah,b.rel,yr a.size b.size,fun r s v=>?_,fun r s=>?_,b.os.trans a.os,b.out.trans a.out,b.tape.trans a.tape,fun r o x=>?_,yr a.dr b.dr⟩
 ·rw[b.same r (Nat.lt_of_lt_of_le s a.size) ?_,a.same r s v];intro h1;rcases a.im r h1 with u|u
  ·grind
  ·omega
 ·rcases b.im r s with h1|h1
  ·exact a.im r h1
  ·exact .inr<|yr a.size h1
 ·obtain⟨e1,h1⟩:=a.lock r o x;have m:=Nat.lt_of_lt_of_le o a.size;rcases h1 with h1|h1
  ·obtain⟨e2,u⟩:=b.lock r m h1;grind
  ·refine⟨(b.same r m h1).trans e1,.inr fun y=>?_⟩;rcases b.im r y with u|u
   ·grind
   ·omega
theorem Ext.eH{p p':Pl}{h h':H}{w w':World}(e:Ext p h w p' h' w'){d:V}{v:Value}(a:Ab p d v):Ab p' d v:=by
 obtain⟨q,rfl⟩:=e.pre;exact a.mono q
theorem Ext.drew{p:Pl}{h:H}{w:World}(a:R p h w)(n:Nat)(b:w.drawn<=n:=by omega):Ext p h w p h { w with drawn:=n }:=
 ⟨(by simp),⟨a.len,a.obj,a.inj⟩,zg _,(by simp),ah,rfl,rfl,rfl,ah,b⟩
theorem R.lt{p:Pl}{h:H}{w:World}(a:R p h w){b:Nat}{o:O}(c:h.get b=some o):b<h.nx:=by
 obtain⟨r,n,x,d,_⟩:=a.obj b o c;have:=(zm.1 d).1;have:=a.len;omega
theorem R.Yp{p:Pl}{h:H}{w:World}(a:R p h w){r:Nat}(c:Im p h r):r<w.heap.size:=by
 obtain⟨b,o,n,d,f⟩:=c;obtain⟨r',n',x,h3,h4,_⟩:=a.obj b o d;grind
theorem Ext.push{p:Pl}{h:H}{w:World}(f:R p h w){o:O}{x:Obj}{n:Nat}(I:Jy p n o x):
  Ext p h w (p++[(w.heap.size,n)]) (h.push o) { w with heap:=w.heap.push x }:=by
 have Q:∀b o',h.get b=some o'->b≠h.nx:=fun b o' a=>by have:=f.lt a;omega
 have q:(p++[(w.heap.size,n)])[h.nx]?=some (w.heap.size,n):=by rw[<-f.len];simp
 have g:∀b,b<h.nx->(p++[(w.heap.size,n)])[b]?=p[b]?:=ah;refine⟨⟨_,rfl⟩,⟨by simp[f.len],fun b o' a=>?_,fun b b' k d r m D a v l s=>?_⟩,by simp,fun r B _=>?_,fun r K=>?_,rfl,rfl,rfl,fun r B G=>?_,zg _⟩
 ·rw[H.Cw]at a;by_cases e:b=h.nx
  ·subst e;simp at a;subst a;exact⟨_,_,x,q,by simp,I.mono _⟩
  ·rw[wc e]at a;obtain⟨r,m,y,l,s,J⟩:=f.obj b o' a;refine⟨r,m,y,by grind,?_,J.mono _⟩;grind
 ·have key:∀c o' r m,(h.push o).get c=some o'->(p++[(w.heap.size,n)])[c]?=some (r,m)->(c=h.nx/\r=w.heap.size)\/(h.get c=some o'/\p[c]?=some (r,m)/\r<w.heap.size):=by
   intro c o' r m u A;rw[H.Cw]at u;by_cases e:c=h.nx
   ·grind
   ·rw[wc e]at u;rw[g c<|f.lt u]at A;exact .inr ⟨u,A,f.Yp ⟨c,o',m,u,A⟩⟩
  rcases key b k r m a l with⟨e1,e2⟩|⟨e1,e2,e3⟩<;>rcases key b' d r D v s with⟨C,E⟩|⟨C,E,L⟩
  ·omega
  ·omega
  ·omega
  ·exact f.inj b b' k d r m D e1 C e2 E
 ·grind
 ·obtain⟨b,o',m,l,s⟩:=K;rw[H.Cw]at l;by_cases e:b=h.nx
  ·grind
  ·rw[wc e]at l;rw[g b<|f.lt l]at s;exact .inl ⟨b,o',m,l,s⟩
 ·refine⟨by grind,.inl ?_⟩;obtain⟨b,m,cs,t,fz,N,M,F⟩:=G;refine⟨b,m,cs,t,fz,?_,?_,F⟩
  ·simp_all
  grind
theorem Ext.put{p:Pl}{h:H}{w w':World}(q:R p h w){b r n:Nat}{o o':O}{x':Obj}(u:h.get b=some o)(k:p[b]?=some (r,n))(Q:Jy p n o' x')
  (N:w'.heap=w.heap.setIfInBounds r x') (F:w'.os=w.os) (I:w'.output=w.output) (X:w'.tape=w.tape)
  (K:∀cs t fz,o=.cells cs t fz->Lk n fz->w.heap[r]?=some x'/\∃cs' D,o'=.cells cs' D fz:=by intro _ _ _ h;cases h) (L:w.drawn<=w'.drawn:=by exact Nat.le_refl _):Ext p h w p (h.put b o') w':=by
 have U:r<w.heap.size:=q.Yp ⟨b,o,n,u,k⟩;refine⟨(by simp),⟨q.len,fun c d a=>?_,fun c J d l s m V a G F I=>?_⟩,by simp[N],fun s W S=>?_,fun s Y=>?_,F,I,X,fun s W M=>?_,L⟩
 ·rw[H.BT]at a;by_cases e:c=b
  ·subst e;simp at a;subst a;exact⟨r,n,x',k,by grind,Q⟩
  ·rw[wc e]at a;obtain⟨s,m,y,g,x,Z⟩:=q.obj c d a;have v:r≠s:=fun E=>e<|q.inj c b d o s m n a u g<|E▸k
   grind
 ·have f:∀c d,(h.put b o').get c=some d->∃l,h.get c=some l:=by
   intro c d a;rw[H.BT]at a;grind
  obtain⟨_,g⟩:=f c d a;obtain⟨_,x⟩:=f J l G;exact q.inj c J _ _ s m V g x F I
 ·have v:r≠s:=fun e=>S<|e▸⟨b,o,n,u,k⟩
  grind
 ·obtain⟨c,d,m,g,x⟩:=Y;rw[H.BT]at g;by_cases e:c=b
  ·subst e;exact .inl ⟨c,o,m,u,x⟩
  ·rw[wc e]at g;exact .inl ⟨c,d,m,g,x⟩
 ·obtain⟨c,m,cs,t,fz,C,A,B⟩:=M;by_cases e:c=b
  ·subst e;rw[k]at A;cases A;rw[u]at C;cases C;obtain⟨g,cs',D,rfl⟩:=K cs t fz rfl B;refine⟨?_,.inl ⟨c,n,cs',D,fz,by simp,k,B⟩⟩;grind
  ·have v:r≠s:=fun E=>e<|q.inj c b _ o s m n C u A<|E▸k
   refine⟨by grind,.inl ⟨c,m,cs,t,fz,by simp_all,A,B⟩⟩
theorem R.kill{p:Pl}{h:H}{w:World}(d:R p h w)(b:Nat):R p (h.kill b) w:=by
 have sub:∀c o,(h.kill b).get c=some o->h.get c=some o:=by
  simp
 exact⟨d.len,fun c o a=>d.obj c o<|sub c o a,fun c g o o' r n n' a f=>d.inj c g o o' r n n' (sub c o a) ah⟩
theorem Ext.kill{p:Pl}{h:H}{w:World}(k:R p h w)(b:Nat):Ext p h w p (h.kill b) w:=by
 refine⟨(by simp),k.kill b,zg _,(by simp),fun r A=>?_,rfl,rfl,rfl,fun r q y=>⟨rfl,?_⟩,zg _⟩
 ·obtain⟨c,o,n,a,l⟩:=A;rw[H.Dv]at a;split at a
  ·cases a
  ·exact .inl ⟨c,o,n,a,l⟩
 ·obtain⟨c,m,cs,t,fz,x,g,s⟩:=y;by_cases e:c=b
  ·subst e;refine .inr ?_;rintro⟨B,o',v,d,u⟩;rw[H.Dv]at d;split at d
   ·cases d
   ·rename_i f;exact f<|k.inj B c _ _ r v m d x u g
  ·exact .inl ⟨c,m,cs,t,fz,by simp_all,g,s⟩
theorem Ext.move{p:Pl}{h:H}{w w':World}(k:R p h w){b r n:Nat}{o o':O}{x':Obj}(x:h.get b=some o)(A:p[b]?=some (r,n))(V:Jy p n o' x')
  (U:w'.heap=w.heap.setIfInBounds r x') (N:w'.os=w.os) (Y:w'.output=w.output) (K:w'.tape=w.tape) (hk:∀cs t fz,o=.cells cs t fz->¬Lk n fz) (J:w.drawn<=w'.drawn:=by exact Nat.le_refl _):Ext p h w (p++[(r,n)]) ((h.kill b).push o') w':=by
 have X:r<w.heap.size:=k.Yp ⟨b,o,n,x,A⟩;have l:(p++[(r,n)])[h.nx]?=some (r,n):=by rw[<-k.len];simp
 have f:∀b,b<h.nx->(p++[(r,n)])[b]?=p[b]?:=ah;have d:∀c a,((h.kill b).push o').get c=some a->(c=h.nx/\a=o')\/(c≠b/\c<h.nx/\h.get c=some a):=by
  intro c a g;rw[H.Cw,H.Yx,H.Dv]at g;by_cases e:c=h.nx
  ·grind
  ·rw[wc e]at g;by_cases e2:c=b
   ·grind
   ·rw[wc e2]at g;exact .inr ⟨e2,k.lt g,g⟩
 have ne:∀c a s m,c≠b->h.get c=some a->p[c]?=some (s,m)->r≠s:=fun c a s m g S E e=>g<|k.inj c b a o s m n S x E<|e▸A
 refine⟨⟨_,rfl⟩,⟨by simp[k.len],fun c a g=>?_,fun c C a v s m Z g D F G=>?_⟩,by simp[U],fun s E W=>?_,fun s hi=>?_,N,Y,K,fun s E L=>?_,J⟩
 ·rcases d c a g with⟨rfl,rfl⟩|⟨e1,e2,e3⟩
  ·exact⟨r,n,x',l,by grind,V.mono _⟩
  ·obtain⟨s,m,y,u,q,B⟩:=k.obj c a e3;refine⟨s,m,y,by grind,?_,B.mono _⟩;grind
 ·rcases d c a g with⟨rfl,rfl⟩|⟨e1,e2,e3⟩<;>rcases d C v D with⟨rfl,rfl⟩|⟨f1,f2,I⟩
  ·rfl
  ·grind
  ·grind
  ·rw[f c e2]at F;rw[f C f2]at G;exact k.inj c C a v s m Z e3 I F G
 ·have Q:r≠s:=fun e=>W<|e▸⟨b,o,n,x,A⟩
  grind
 ·obtain⟨c,a,m,u,q⟩:=hi;rcases d c a u with⟨rfl,rfl⟩|⟨e1,e2,e3⟩
  ·rw[l]at q;cases q;exact .inl ⟨b,o,n,x,A⟩
  ·rw[f c e2]at q;exact .inl ⟨c,a,m,e3,q⟩
 ·obtain⟨c,m,cs,t,fz,u,q,B⟩:=L;by_cases e:c=b
  ·grind
  ·have M:=k.lt u;refine⟨by grind,.inl ⟨c,m,cs,t,fz,?_,by grind,B⟩⟩;rw[H.Cw,H.Yx,wc ae,H.Dv,wc e];exact u
end
def AbJ(l:List Nat):List V:=l.map fun n=>.int .u64<|.ofNat n
def Dr:List (Nat×O):=[(5,.cells (AbJ [1,10,100,1000,10000,100000,1000000,10000000,100000000,1000000000,10000000000,100000000000,1000000000000,10000000000000,100000000000000,1000000000000000,10000000000000000,100000000000000000,1000000000000000000,10000000000000000000]) 326 (0,20))]
mutual
def V.flat:V->Bool
 | .bool _| .int _ _| .str _| .nilp| .nils| .nilm| .nilf| .nili=>true
 | .agg l| .tup l=>V.Fa l
 |_=>false
def V.Fa:List V->Bool
 |[]=>true
 |v::vs=>v.flat&&V.Fa vs
end
mutual
theorem V.CF{p q:Pl}:∀ {v:V} {v':Value},v.flat=true->Ab p v v'->Ab q v v'
 | .bool _,_,_,h| .int _ _,_,_,h| .str _,_,_,h| .nilp,_,_,h| .nils,_,_,h| .nilm,_,_,h| .nilf,_,_,h| .nili,_,_,h=>by simpa [Ab]using h
 | .agg l,_,a,h=>by
  obtain⟨x,rfl,b⟩:=h;exact⟨x,rfl,V.GS (by simpa [V.flat]using a) b⟩
 | .tup l,_,a,h=>by
  obtain⟨x,rfl,b⟩:=h;exact⟨x,rfl,V.GS (by simpa [V.flat]using a) b⟩
 | .ptr _ _,_,a,_| .sl _ _ _ _ _,_,a,_| .map _,_,a,_| .fn _ _ _,_,a,_| .yld _,_,a,_| .iface _ _,_,a,_=>by simp[V.flat]at a
theorem V.GS{p q:Pl}:∀ {v:List V} {v':List Value},V.Fa v=true->Ar p v v'->Ar q v v'
 |[],_,_,h=>by simp_all
 |_::_,[],_,h=>by simp at h
 |v::vs,x::b,a,h=>by
  simp only[V.Fa,zn]at a;rw[Ba]at h ⊢;exact⟨V.CF a.1 h.1,V.GS a.2 h.2⟩
end
def osz:O->Nat
 | .cells cs _ _=>cs.length
 |_=>0
def gin(g:Nat):List (Nat×O)->Bool
 |[]=>false
 |(i,_)::l=>bif zh i g then true else gin g l
def hGm:List (Nat×O)->PM O
 |[]=>.leaf
 |(i,o)::l=>(hGm l).set i<|some o
def Oi:List (Nat×O)->Nat
 |[]=>0
 |(i,_)::l=>bif zk (i+1) (Oi l)then Oi l else i+1
def hG:H:=⟨hGm Dr,Oi Dr⟩
def gok:List (Nat×O)->Bool
 |[]=>true
 |(_,.cells cs _ (a,b))::l=>V.Fa cs&&zh a 0&&zh b cs.length&&z7 0 b&&gok l
 |_=>false
theorem WY:gok Dr=true:=by rfl
theorem Yh{g:Nat}:∀ {l:List (Nat×O)},gin g l=true->∃o,(g,o)∈l
 |[],h=>by cases h
 |(i,o)::l,h=>by
  unfold gin at h;cases a:zh i g with
  |true=>simp_all
  |false=>
   rw[a]at h;obtain⟨o',b⟩:=Yh h;grind
theorem Rj:∀ {l:List (Nat×O)},gok l=true->∀x∈l,∃cs t,x.2=.cells cs t (0,cs.length)/\V.Fa cs=true/\0<cs.length
 |[],_,x,c=>by cases c
 |(i,.cells cs t (a,b))::l,h,x,c=>by
  simp only[gok,zn]at h;obtain⟨⟨⟨⟨k,d⟩,f⟩,m⟩,g⟩:=h;rcases List.mem_cons.1 c with rfl|c
  ·have d:a=0:=by simp_all
   have f:b=cs.length:=by simp_all
   subst d f;exact⟨cs,t,rfl,k,(by simp_all)⟩
  ·exact Rj g x c
theorem Kv:∀ {l:List (Nat×O)} {b:Nat} {o:O},(hGm l).get b=some o->(b,o)∈l
 |[],b,o,h=>by simp[hGm]at h
 |(i,o')::l,b,o,h=>by
  simp only[hGm,PM.CD]at h;by_cases e:b=i
  ·grind
  ·rw[wc e]at h;exact List.mem_cons_of_mem _<|Kv h
theorem XQ{n:Nat}:∀ {l:List (Nat×O)},(∀x∈l,x.1<n)->Oi l<=n
 |[],_=>Nat.zero_le _
 |(i,o)::l,h=>by
  have c:=h (i,o) (by simp);have b:=XQ (l:=l) fun x a=>h x ah
  grind [Oi]
theorem R9:∀ {l:List (Nat×O)},∀x∈l,x.1<Oi l
 |[],x,a=>by cases a
 |(i,o)::l,x,a=>by
  unfold Oi;rcases List.mem_cons.1 a with rfl|a
  ·cases b:zk (i+1) (Oi l)with
   |true=>have:=Nat.le_of_ble_eq_true b;grind
   |false=>simp
  ·have:=R9 (l:=l) x a;grind [Nat.ble_eq_true_of_le]
def Gp(p:Pl):Prop:=∀x∈Dr,p[x.1]?=some (x.1,osz x.2)
def Gh(h:H):Prop:=∀x∈Dr,h.get x.1=some x.2
theorem Gp.app{p:Pl}(h:Gp p)(q:Pl):Gp (p++q):=fun x a=>by
 have:=h x a;grind
theorem Gp.top{p:Pl}(h:Gp p):Oi Dr<=p.length:=XQ fun x a=>(zm.1<|h x a).1
theorem Gp.take{p:Pl}(h:Gp p):Gp (p.take<|Oi Dr):=fun x a=>by
 rw[zq<|R9 x a];exact h x a
theorem D6.flat{p q:Pl}{cs:List V}{vs:List Value}(g:V.Fa cs=true)(h:D6 p cs vs):D6 q cs vs:=
 ⟨h.1,fun i d v b c f=>V.CF (by
  have:=List.mem_of_getElem? b;clear h b c f;induction cs with
  |nil=>grind
  |cons a cs k=>
   simp only[V.Fa,zn]at g;grind)<|h.2 i d v b c f⟩
theorem yU{p:Pl}{h:H}{w:World}(m:R p h w)(g:Gp p)(s:Gh h):R (p.take<|Oi Dr) hG w:=by
 refine⟨by rw[List.length_take,Nat.min_eq_left g.top];rfl,fun b o a=>?_,fun b b' o o' r n n' a f k l=>?_⟩
 ·have d:=Kv a;obtain⟨cs,t,e,q,y⟩:=Rj WY _ d;obtain⟨r,n,x,k,l,h3⟩:=m.obj b o<|s _ d;refine⟨r,n,x,by rw[zq<|R9 _ d];exact k,l,?_⟩;subst e;obtain⟨c,fz',k1,k2,k3,k4,k5⟩:=h3;exact⟨c,fz',k1,k2,k3,k4.flat q,k5⟩
 ·have v:=Kv a;have u:=Kv f;have e1:=g.take _ v;have e2:=g.take _ u;grind
theorem Ext.Dr{p:Pl}{w w':World}{p':Pl}{h':H}(l:Gp p)(c:Ext p hG w p' h' w')(r:Nat)(a:r<w.heap.size):w'.heap[r]?=w.heap[r]?:=by
 by_cases d:Im p hG r
 ·obtain⟨b,o,n,f,k⟩:=d;have g:=Kv f;obtain⟨cs,t,e,hf,hl⟩:=Rj WY _ g;subst e;have:=l _ g;rw[this]at k;cases k;exact(c.lock _ a ⟨_,_,_,_,_,f,this,rfl,zg _,hl⟩).1
 ·exact c.same r a d
section
variable {p:Pl}
def V.cells:V->List V
 | .agg cs=>cs
 |v=>[v]
theorem Ab.cells{d:V}{v:Value}(b:Ab p d v):Ar p d.cells v.cells.toList:=by
 cases d<;>simp only[V.cells]<;>simp only[Ab]at b
 case agg cs=>obtain⟨x,rfl,f⟩:=b;exact f
 case bool=>simp_all [zj,Ab]
 case int=>simp_all [zj,Ab]
 case str=>simp_all [zj,Ab]
 case nilp=>simp_all [zj,Ab]
 case nils=>simp_all [zj,Ab]
 case nilm=>simp_all [zj,Ab]
 case nilf=>simp_all [zj,Ab]
 case nili=>simp_all [zj,Ab]
 case ptr=>obtain⟨r,n,f,rfl⟩:=b;simp[zj,Ab,f]
 case esl=>obtain⟨a,c,rfl⟩:=b;simp[zj,Ab]
 case es0=>obtain⟨a,rfl⟩:=b;simp[zj,Ab]
 case sl=>obtain⟨r,n,c,f,rfl,g⟩:=b;simp only[zj,Ba,Jp,ve];simp only[Ab];grind
 case map=>obtain⟨r,n,f,rfl⟩:=b;simp[zj,Ab,f]
 case yld=>obtain⟨r,n,f,rfl⟩:=b;simp[zj,Ab,f]
 case fn=>obtain⟨x,y,rfl,f,g⟩:=b;simp only[zj,Ba,Jp,ve];simp only[Ab];grind
 case iface=>obtain⟨y,rfl,f⟩:=b;simp_all [zj,Ab]
 case tup=>obtain⟨x,rfl,f⟩:=b;simp_all [zj,Ab]
end
structure TI where
 size:Nat
 bytes:Nat
 zv:V
def TI.zero(i:TI):List V:=i.zv.cells
inductive FK where
 |bool
 |str
 |int (k:IntKind)
def FK.ok:FK->V->Bool
 | .bool,.bool _=>true
 | .str,.str _=>true
 | .int k,.int a _=>k==a
 |_,_=>false
def fit:List FK->List V->Bool
 |[],[]=>true
 |k::ks,v::vs=>bif k.ok v then fit ks vs else false
 |_,_=>false
structure BX where
 und:TypeId->Option TypeDesc
 inf:TypeId->Option TI
 flat:TypeId->Option (List FK)
 mth:TypeId->String->Option FuncId
def Eb:V->V->Option Bool
 | .bool a,.bool b=>some<|a==b
 | .int k a,.int c b=>if k=c then some (a==b)else none
 | .str a,.str b=>some<|a==b
 |_,_=>none
def BM:List V->List V->Option Bool
 |[],[]=>some true
 |a::c,b::d=>
  match Eb a b with
  |some true=>BM c d
  |some false=>if c.length=d.length then some false else none
  |none=>none
 |_,_=>none
structure BX.Ok(T:BX)(P:Program):Prop where
 und:∀t d,T.und t=some d->P.underlying t=some d
 inf:∀t i,T.inf t=some i->∃j v,P.info? t=some j/\j.size=i.size/\j.bytes=i.bytes/\j.zero=some v/\∀p,Ab p i.zv v
 flat:∀t ks,T.flat t=some ks->∀(p:Pl) (x y:List V) (x' y':Array Value) (r:Bool) (w:World),fit ks x=true->fit ks y=true->Ar p x x'.toList->Ar p y y'.toList->BM x y=some r->
  (yx t (.agg x') (.agg y')).run P w=.ok r w
 guard:∀t ks,T.flat t=some ks->P.eqGuardType P.depth t=false
 key:∀t ks,T.flat t=some ks->∀(p:Pl) (x:List V) (x':Array Value) (b:Bool) (w:World),fit ks x=true->Ar p x x'.toList->(ym b 10000 t (.agg x')).run P w=.ok () w
 kind:∀t ks,T.flat t=some ks->∃fs,T.und t=some (.struct fs)
 mth:∀t name f,T.mth t name=some f->∃j m d,P.info? t=some j/\j.methods.find? (·.name==name)=some m/\m.path= #[]/\m.func=some (f,false)/\P.underlying t=some d/\∀e,d≠ .pointer e
section
variable {T:BX}{P:Program}{p:Pl}{h:H}{w:World}
theorem Ax(a:T.Ok P){t:TypeId}{d:TypeDesc}(b:T.und t=some d):(underlying t).run P w=.ok d w:=by
 unfold underlying;simp[a.und t d b]
theorem Bt(a:T.Ok P){t:TypeId}{i:TI}(b:T.inf t=some i):(sizeOf t).run P w=.ok i.size w:=by
 obtain⟨j,v,d,c,_⟩:=a.inf t i b;simp_all [sizeOf,typeInfo]
theorem Pb(a:T.Ok P){t:TypeId}{i:TI}(b:T.inf t=some i):∃j,(∀w,(typeInfo t).run P w=.ok j w)/\j.bytes=i.bytes/\j.size=i.size:=by
 obtain⟨j,v,f,c,d,_⟩:=a.inf t i b;simp_all [typeInfo]
theorem D5(a:T.Ok P){t:TypeId}{i:TI}(b:T.inf t=some i):∃v,(∀w,(zeroValue t).run P w=.ok v w)/\∀p,Ar p i.zero v.cells.toList:=by
 obtain⟨j,v,k,d,f,g,c⟩:=a.inf t i b;exact⟨v,(by simp_all [zeroValue,typeInfo]),fun p=>(c p).cells⟩
theorem vC(a:T.Ok P){t:TypeId}{i:TI}(b:T.inf t=some i):∃v,(∀w,(zeroValue t).run P w=.ok v w)/\∀p,Ab p i.zv v:=by
 obtain⟨j,v,k,c,d,g,f⟩:=a.inf t i b;simp_all [zeroValue,typeInfo]
def Ea:TypeDesc->Bool
 | .struct _| .array _ _=>true
 |_=>false
theorem Q5(a:T.Ok P){t:TypeId}{d:TypeDesc}(b:T.und t=some d):(isAgg t).run P w=.ok (Ea d) w:=by
 unfold isAgg;rw[zd,Ax a b];cases d<;>simp[Ea]
def V.one:V->Bool
 | .agg _| .tup _| .junk=>false
 |_=>true
theorem V.Ma{d:V}(h:d.one=true):d.ok=true:=by cases d<;>first|rfl|cases h
theorem Ab.one{d:V}{v:Value}(b:Ab p d v)(f:d.one=true):v.oneCell'=true:=by
 cases d<;>simp only[V.one]at f<;>simp only[Ab]at b
 case agg|tup=>cases f
 case ptr=>obtain⟨r,n,_,rfl⟩:=b;rfl
 case esl=>obtain⟨a,c,rfl⟩:=b;rfl
 case es0=>obtain⟨a,rfl⟩:=b;rfl
 case sl=>obtain⟨r,n,c,_,rfl,_⟩:=b;rfl
 case map=>obtain⟨r,n,_,rfl⟩:=b;rfl
 case yld=>obtain⟨r,n,_,rfl⟩:=b;rfl
 case fn=>obtain⟨x,y,rfl,_,_⟩:=b;rfl
 case iface=>obtain⟨y,rfl,_⟩:=b;rfl
 all_goals subst b;rfl
@[simp] theorem Addr.Mh(r off n:Nat):Addr.add ⟨r,off,none⟩ n=⟨r,off+n,none⟩:=by
 unfold Addr.add;simp
def zK(h:H)(b off n:Nat):Option (List V):=
 match h.get b with
 |some (.cells cs _ _)=>if off+n<=cs.length/\((cs.drop off).take n).all V.ok=true then some ((cs.drop off).take n)else none
 |_=>none
def rd(h:H)(b off n:Nat):Option (List V):=
 match h.get b with
 |some (.cells cs _ _)=>bif zk (Nat.add off n) (Fm cs)&&KU V.ok (X8 n<|JP off cs)then some (X8 n<|JP off cs)else none
 |_=>none
theorem W1:rd=zK:=by
 funext h b off n
 unfold rd zK;split
 ·rw[DE,N3,NP,Fi];simp
 ·rfl
theorem cell_of(a:R p h w){b:Nat}{cs:List V}{t:TypeId}{fz:Nat×Nat}(d:h.get b=some (.cells cs t fz)):
  ∃r n c fz',p[b]?=some (r,n)/\w.heap[r]?=some (.cells c t fz')/\c.size=n/\cs.length<=n/\D6 p cs (c.toList.take cs.length)/\(∀i,w.cell? ⟨r,i,none⟩=c[i]?)/\
   ∀i,i<n->fz'.1<=i->i<fz'.2->fz.1<=i/\i<fz.2:=by
 obtain⟨r,n,x,q,g,c,fz',o,l,k,m,f⟩:=a.obj b _ d;grind [World.cell?]
theorem P8{a:Addr}{v:Value}(b:w.cell? a=some v):(load a).run P w=.ok v w:=by simp[b]
theorem run_loadCellsFrom{a:Addr}:∀(n i:Nat) (b:Array Value) (vs:List Value),vs.length=n->(∀j v,vs[j]?=some v->w.cell? (a.add<|i+j)=some v)->
  (loadCellsFrom a i n b).run P w=.ok (b++vs.toArray) w
 |0,i,b,vs,d,_=>by
  simp_all [loadCellsFrom]
 |n+1,i,b,[],d,_=>by grind
 |n+1,i,b,v::vs,d,c=>by
  unfold loadCellsFrom;rw[zd,P8 (a:=a.add i) (by have:=c 0 v rfl;simpa using this)];simp only[zc];rw[run_loadCellsFrom n (i+1) (b.push v) vs ah (fun j u f=>by
   have:=c (j+1) u ah;grind)]
  simp
theorem run_loadCells(l:R p h w){b off n:Nat}{k:List V}(d:rd h b off n=some k):
  ∃r m vs,p[b]?=some (r,m)/\(loadCells ⟨r,off,none⟩ n).run P w=.ok vs.toArray w/\Ar p k vs/\vs.length=n/\∀i v,vs[i]?=some v->w.cell? ⟨r,off+i,none⟩=some v:=by
 rw[W1]at d;unfold zK at d;split at d
 case h_2=>cases d
 rename_i cs t fz o;split at d
 case isFalse=>cases d
 cases d;obtain⟨r,m,c,_,s,u,A,x,q,y,_⟩:=cell_of l o;have g:Ar p ((cs.drop off).take n) ((c.toList.take cs.length).drop off|>.take n):=((q.drop off).take n).JM ah;have a:((c.toList.take cs.length).drop off|>.take n).length=n:=ah
 have f:∀i v,((c.toList.take cs.length).drop off|>.take n)[i]?=some v->w.cell? ⟨r,off+i,none⟩=some v:=by
  grind
 refine⟨r,m,_,s,?_,g,a,f⟩;unfold loadCells;rw[run_loadCellsFrom n 0 #[] _ a (by simp_all)];simp
def EH(T:BX)(h:H)(t:TypeId)(a:V):Option V:=
 match a,T.und t,T.inf t with
 | .ptr b off,some d,some i=>
  bif Ea d then(rd h b off i.size).map .agg
  else match rd h b off 1 with
   |some (v::_)=>some v
   |_=>none
 |_,_,_=>none
theorem Tl(l:T.Ok P)(o:R p h w){t:TypeId}{a v:V}{y:Value}(s:Ab p a y)(c:EH T h t a=some v):
  ∃v',(Instr.loadAt t y).run P w=.ok v' w/\Ab p v v':=by
 unfold EH at c;split at c
 case h_2=>cases c
 rename_i b off d i C E;simp only[Ab]at s;obtain⟨r,n,q,rfl⟩:=s;unfold Instr.loadAt yf;simp only[zd,zf,zc];unfold loadVar;simp only[zd];rw[Q5 l C];simp only[zc];cases g:Ea d with
 |true=>
  simp only[g,we]at c;rw[zi]at c;obtain⟨F,k,rfl⟩:=c;obtain⟨D,m,vs,f,x,A,_⟩:=run_loadCells (P:=P) o k;rw[q]at f;cases f;simp only[wm,zd,Bt l E,zc,x,zf];simp_all [Ab]
 |false=>
  simp only[g,wg]at c;split at c
  case h_2=>cases c
  rename_i v0 tl k;cases c;obtain⟨D,m,vs,f,x,A,G,B⟩:=run_loadCells (P:=P) o k;rw[q]at f;cases f;cases vs with
  |nil=>grind
  |cons u I=>
   simp at A;simp only[zp,vf];have:=B 0 u rfl;simp_all
def G4:List V->Nat->List V->List V
 |cs,_,[]=>cs
 |cs,off,v::vs=>G4 (cs.set off v) (off+1) vs
@[simp] theorem IJ:∀(vs:List V) (cs:List V) (off:Nat),(G4 cs off vs).length=cs.length
 |[],_,_=>rfl
 |v::vs,cs,off=>by simp[G4,IJ vs]
def clear(fz:Nat×Nat)(off n:Nat):Bool:=zk fz.2 off||zk (off+n) fz.1||zk fz.2 fz.1
def wr0(h:H)(b off:Nat)(vs:List V):Option H:=
 match h.get b with
 |some (.cells cs t fz)=>bif zk (off+vs.length) cs.length&&clear fz off vs.length&&vs.all V.one then some (h.put b<|.cells (G4 cs off vs) t fz)else none
 |_=>none
theorem LU(a:V):∀(vs cs:List V) (off:Nat),G4 (a::cs) (off+1) vs=a::G4 cs off vs
 |[],cs,off=>rfl
 |v::vs,cs,off=>by
  show G4 ((a::cs).set (off+1) v) (off+1+1) vs=a::G4 (cs.set off v) (off+1) vs;rw[List.set_cons_succ,LU a vs]
theorem OE:∀(vs:List V) (off:Nat),G4 [] off vs=[]
 |[],_=>rfl
 |v::vs,off=>by show G4 ([].set off v) (off+1) vs=[];rw[List.set_nil,OE vs]
theorem T3:∀(vs cs:List V),JO vs cs=G4 cs 0 vs
 |[],cs=>rfl
 |v::vs,[]=>(OE _ _).symm
 |v::vs,c::cs=>by
  show v::JO vs cs=G4 ((c::cs).set 0 v) (0+1) vs;rw[List.set_cons_zero,LU,T3 vs cs]
theorem Jo(vs:List V):∀(off:Nat) (cs:List V),Cn off vs cs=G4 cs off vs
 |0,cs=>T3 vs cs
 |off+1,[]=>(OE _ _).symm
 |off+1,c::cs=>by rw[LU];exact wi (c:: ·)<|Jo vs off cs
def wr(h:H)(b off:Nat)(vs:List V):Option H:=
 match h.get b with
 |some (.cells cs t fz)=>bif zk (Nat.add off<|Fm vs) (Fm cs)&&clear fz off (Fm vs)&&KU V.one vs then some (h.put b<|.cells (Cn off vs cs) t fz)else none
 |_=>none
theorem Aa8:wr=wr0:=by
 grind [wr,wr0,DE,Fi,Jo]
theorem bZ(a:Array Obj)(i:Nat)(x:Obj)(j:Nat):(a.setIfInBounds i x)[j]?=if i=j/\j<a.size then some x else a[j]?:=by
 grind
theorem bQ{a:Array Obj}{i:Nat}{x:Obj}(h:a[i]?=some x):a.setIfInBounds i x=a:=by
 grind
theorem Ol{a:Array Obj}{i:Nat}{f:Obj->Obj}{x:Obj}(h:a[i]?=some x):a.modify i f=a.setIfInBounds i (f x):=by
 grind
theorem setCell_eq{w:World}{r off:Nat}{c:Array Value}{t:TypeId}{fz:Nat×Nat}(v:Value)(a:w.heap[r]?=some (.cells c t fz)):
  w.setCell ⟨r,off,none⟩ v={ w with heap:=w.heap.setIfInBounds r (.cells (c.setIfInBounds off v) t fz) }:=by
 grind [World.setCell,Ol]
theorem FA{r:Nat}{t:TypeId}{fz:Nat×Nat}:∀(vs:List Value) (w:World) (c:Array Value) (off i:Nat),w.heap[r]?=some (.cells c t fz)->off+i+vs.length<=c.size->
  (∀v∈vs,v.oneCell'=true)->(∀j,i<=j->j<i+vs.length->¬(fz.1<=off+j/\off+j<fz.2))->
  ∃a:Array Value,(storeCells ⟨r,off,none⟩ vs i).run P w=.ok () { w with heap:=w.heap.setIfInBounds r (.cells a t fz) }/\a.size=c.size/\
   a.toList=(List.range c.size).map (fun j=>if off+i<=j/\j<off+i+vs.length then vs.getD (j-(off+i)) default else c.toList.getD j default)
 |[],w,c,off,i,b,_,_,_=>by
  refine⟨c,?_,rfl,?_⟩
  ·simp_all [storeCells,bQ]
  ·apply List.ext_getElem (by simp);grind
 |v::vs,w,c,off,i,b,k,l,g=>by
  simp at k;have f:w.cell? ⟨r,off+i,none⟩=some (c[off+i]'ae):=by simp[World.cell?,b]
  have o:w.frozen? ⟨r,off+i,none⟩=false:=by
   simp_all [World.frozen?]
  have m:=setCell_eq (off:=off+i) v b;have d:=(Array.getElem?_eq_some_iff.1 b).1;obtain⟨a,y,A,u⟩:=FA vs { w with heap:=w.heap.setIfInBounds r (.cells (c.setIfInBounds (off+i) v) t fz) } (c.setIfInBounds (off+i) v) off (i+1)
   (by rw[bZ,wd ⟨rfl,d⟩]) ah ah (fun j s q=>g j ae ah)
  refine⟨a,?_,by grind,?_⟩
  ·simp_all [storeCells,run_store]
  ·rw[u];apply List.ext_getElem (by simp);intro j x B;simp at x;simp only[List.getElem_map,List.getElem_range,List.length_cons];grind
theorem Oe:∀(vs cs:List V) (off j:Nat),off+vs.length<=cs.length->(G4 cs off vs)[j]?=if off<=j/\j<off+vs.length then vs[j-off]? else cs[j]?
 |[],cs,off,j,_=>by rw[wc<|by simp];rfl
 |v::vs,cs,off,j,a=>by
  unfold G4;rw[Oe vs (cs.set off v) (off+1) j ah];grind
theorem Rb(B:R p h w){b off:Nat}{f:List V}{vs:List Value}(s:Ar p f vs){h':H}(k:wr h b off f=some h'):
  ∃r m w',p[b]?=some (r,m)/\(storeCells ⟨r,off,none⟩ vs).run P w=.ok () w'/\Ext p h w p h' w':=by
 rw[Aa8]at k;unfold wr0 at k;split at k
 case h_2=>cases k
 rename_i cs t fz C;cases x:(zk (off+f.length) cs.length&&clear fz off f.length&&f.all V.one)with
 |false=>grind
 |true=>
  simp only[x,we,ze]at k;subst k;simp only[zn,z8,List.all_eq_true]at x;obtain⟨⟨X,F⟩,W⟩:=x;obtain⟨r,m,c,fz',h1,h2,h3,h4,h5,h6,h7⟩:=cell_of B C;have U:=s.length;have l:∀v∈vs,v.oneCell'=true:=by
   intro v D;obtain⟨i,G⟩:=List.mem_iff_getElem?.1 D;have M:=(zm.1 G).1;obtain⟨u,a,g⟩:=s.get (i:=i) (d:=f[i]'ae) (by simp);rw[G]at a;cases a;exact g.one ah
  have y:∀j,0<=j->j<0+vs.length->¬(fz'.1<=off+j/\off+j<fz'.2):=by
   rintro j _ Q ⟨J,I⟩;have:=h7 (off+j) ae J I;simp only[clear,yv,z8]at F;omega
  obtain⟨E,K,Y,S⟩:=FA (P:=P) vs w c off 0 h2 ae l y;refine⟨r,m,_,h1,K,Ext.put B C h1 ?_ rfl rfl rfl rfl (fun L Z O e1 q=>?_)⟩
  case refine_2=>
   obtain⟨l1,l2,l3⟩:=q;simp only[clear,yv,z8]at F;have N:E=c:=by
    apply Array.ext';apply List.ext_getElem?;grind
   grind
  refine⟨E,fz',rfl,by omega,by simp_all,?_,h7⟩;refine⟨by simp;omega,?_⟩;intro i d v o D A;rw[Oe f cs off i ae]at o;by_cases e:off<=i/\i<off+f.length
  ·rw[wd e]at o;obtain⟨u,a,g⟩:=s.get o;grind
  ·rw[wc e]at o;obtain⟨u,a,g⟩:=h5.get o A;grind
def Hp(T:BX)(h:H)(t:TypeId)(a x:V):Option H:=
 match a,T.inf t with
 | .ptr b off,some i=>bif zh x.cells.length i.size then wr h b off x.cells else none
 |_,_=>none
theorem Zq(g:T.Ok P)(l:R p h w){t:TypeId}{a x:V}{f x':Value}(k:Ab p a f)(d:Ab p x x'){h':H}(c:Hp T h t a x=some h'):
  ∃w',(Instr.storeAt t f x').run P w=.ok () w'/\Ext p h w p h' w':=by
 unfold Hp at c;split at c
 case h_2=>cases c
 rename_i b off i q;rw[Bm]at c;by_cases e:x.cells.length=i.size
 ·simp only[e,decide_true,we]at c;obtain⟨r,n,o,rfl⟩:=k;obtain⟨r',m,w',h1,h2,h3⟩:=Rb (P:=P) l d.cells c;rw[o]at h1;cases h1;refine⟨w',?_,h3⟩;have s:=d.cells.length;unfold Instr.storeAt yf;unfold storeVar;have:x'.cells.size=i.size:=ah
  simp only[zd,Bt g q,zc,this,vc,not_true_eq_false,vf];exact h2
 grind
theorem Cz(t:TypeId)(c:Array Value):(newRow t c).run P w=.ok ⟨w.heap.size,0,none⟩ { w with heap:=w.heap.push (.cells c t) }:=by
 rfl
def IF(h:H)(t:TypeId)(cs:List V):H:=h.push<|.cells cs t (0,0)
theorem Np(b:R p h w)(t:TypeId){d:List V}{c:Array Value}(a:Ar p d c.toList):
  ∃n,Ext p h w (p++[(w.heap.size,n)]) (IF h t d) { w with heap:=w.heap.push (.cells c t) }/\(p++[(w.heap.size,n)])[h.nx]?=some (w.heap.size,n)/\n=c.size:=by
 refine⟨c.size,Ext.push b ⟨c,(0,0),rfl,rfl,by have:=a.length;grind,?_,ae⟩,by rw[<-b.len];simp,rfl⟩;have:=a.length;rw[List.take_of_length_le ae];exact a.toC
def Gv(T:BX)(h:H)(t:TypeId):Option (V×H):=(T.inf t).map fun i=>(.ptr h.nx 0,IF h t i.zero)
theorem ZU(c:T.Ok P)(d:R p h w){t:TypeId}{v:V}{h':H}(b:Gv T h t=some (v,h')):
  ∃v' p' w',(Instr.alloc t true<|.tuple #[]).run P w=.ok v' w'/\Ab p' v v'/\Ext p h w p' h' w':=by
 unfold Gv at b;rw[zi]at b;obtain⟨i,f,a⟩:=b;cases a;obtain⟨z,hz,hzr⟩:=D5 c f;obtain⟨n,a,hp,_⟩:=Np d t<|hzr p;refine⟨.pointer<|some ⟨w.heap.size,0,none⟩,_,_,?_,?_,a⟩
 ·grind [Instr.alloc,zd,zc,newVar,Cz,zf]
 simp_all [Ab]
def Z1(h:H)(t:TypeId)(x:V):V×H:=(.ptr h.nx 0,IF h t x.cells)
theorem pM(c:R p h w){t:TypeId}{x:V}{x':Value}(b:Ab p x x'):
  ∃v' p' w',(Instr.box t x').run P w=.ok v' w'/\Ab p' (Z1 h t x).1 v'/\Ext p h w p' (Z1 h t x).2 w':=by
 obtain⟨n,a,d,_⟩:=Np c t b.cells;refine⟨.pointer<|some ⟨w.heap.size,0,none⟩,_,_,?_,?_,a⟩
 ·rfl
 simp_all [Z1,Ab]
def TF(op:BinOp)(x y:Rd):Option V:=
 match op with
 | .add=>if x.length+y.length<=4611686018427387904 then some (.str<|x++y)else none
 | .eql=>some<|.bool<|x==y
 | .neq=>some<|.bool !(x==y)
 | .lss=>some<|.bool<|yt x y
 | .leq=>some<|.bool<|yt x y||x==y
 | .gtr=>some<|.bool !(yt x y||x==y)
 | .geq=>some<|.bool !yt x y
 |_=>none
theorem Is(s:Rd):(bytesOf s).toList=s:=ByteArray.toList_mk s
theorem BP(s:Rd):(bytesOf s).size=s.length:=by rfl
theorem PH(x y:Rd):bytesOf x++bytesOf y=bytesOf (x++y):=by
 rfl
theorem nX{op:BinOp}{x y:Rd}{v:V}(a:TF op x y=some v):
  ∃v',(Op.stringOp op (bytesOf x)<|bytesOf y).run P w=.ok v' w/\Ab p v v':=by
 unfold Op.stringOp;simp only[Is,BP];cases op<;>simp only[TF]at a
 case add=>
  split at a
  ·cases a;rw[wc<|by grind [IntKind.max,IntKind.bits]];simp_all [Ab,PH]
  grind
 all_goals first
  |(cases a;done)
  |(cases a;exact⟨_,zf ..,by simp[Ab]⟩)
def Oc(op:BinOp)(k:IntKind)(a b:Int):Option V:=
 match op with
 | .add=>some<|.int k<|k.wrap<|a+b
 | .sub=>some<|.int k<|k.wrap<|a-b
 | .mul=>some<|.int k<|k.wrap<|a*b
 | .quo=>if b=0 then none else some<|.int k<|k.wrap<|a.tdiv b
 | .rem=>if b=0 then none else some<|.int k<|a.tmod b
 | .and=>some<|.int k<|k.wrap (yb k.bits a&&&yb k.bits b).toNat
 | .or=>some<|.int k<|k.wrap (yb k.bits a|||yb k.bits b).toNat
 | .xor=>some<|.int k<|k.wrap (yb k.bits a^^^yb k.bits b).toNat
 | .andNot=>some<|.int k<|k.wrap (yb k.bits a&&& ~~~yb k.bits b).toNat
 | .eql=>some<|.bool<|a==b
 | .neq=>some<|.bool<|a !=b
 | .lss=>some<|.bool<|a<b
 | .leq=>some<|.bool<|a<=b
 | .gtr=>some<|.bool<|a>b
 | .geq=>some<|.bool<|a>=b
 |_=>none
def Z4(op:BinOp)(k:IntKind)(a b:Int):Option V:=
 if b<0 then none else
 match op with
 | .shl=>some<|.int k<|k.wrap<|a*2^(min b.toNat k.bits)
 | .shr=>some<|.int k<|a.fdiv<|2^(min b.toNat k.bits)
 |_=>none
def O7(ks:Option (List FK))(b a:List V):Option Bool:=
 match ks with
 |some ks=>bif fit ks b&&fit ks a then BM b a else none
 |none=>none
theorem HB{ks:Option (List FK)}{b a:List V}{r:Bool}(h:O7 ks b a=some r):∃l,ks=some l/\fit l b=true/\fit l a=true/\BM b a=some r:=by
 unfold O7 at h;grind
def Bs(T:BX)(t:TypeId)(x y:V):Option Bool:=
 match T.und t,x,y with
 |some .bool,.bool a,.bool b=>some<|a==b
 |some (.pointer _),.nilp,y=>match y with| .nilp=>some true| .ptr .. =>some false|_=>none
 |some (.pointer _),.ptr ..,.nilp=>some false
 |some (.pointer e),.ptr a i,.ptr b j=>if a=b then match T.inf e with|some c=>if c.size≠0 then some (i==j)else none|_=>none else none
 |some (.interface _),.iface ..,.nili=>some false
 |some (.interface _),.nili,.iface .. =>some false
 |some (.slice _),.nils,y=>match y with| .nils=>some true| .sl .. =>some false| .esl=>some false| .es0=>some false|_=>none
 |some (.slice _),.sl ..,.nils=>some false
 |some (.slice _),.esl,.nils=>some false
 |some (.slice _),.es0,.nils=>some false
 |some (.map _ _),.nilm,y=>match y with| .nilm=>some true| .map .. =>some false|_=>none
 |some (.map _ _),.map ..,.nilm=>some false
 |some (.func ..),.nilf,.nilf=>some true
 |some (.func ..),.fn ..,.nilf=>some false
 |some (.func ..),.nilf,.fn .. =>some false
 |_,.agg d,.agg f=>O7 (T.flat t) d f
 |_,_,_=>none
def J6(T:BX)(op:BinOp)(t:TypeId)(x y:V):Option V:=
 match op,x,y with
 | .shl,.int k a,.int _ b=>Z4 .shl k a b
 | .shr,.int k a,.int _ b=>Z4 .shr k a b
 |op,.int k a,.int c b=>if k=c then Oc op k a b else none
 |op,.str a,.str b=>TF op a b
 | .eql,x,y=>(Bs T t x y).map fun b=>.bool b
 | .neq,x,y=>(Bs T t x y).map fun b=>.bool !b
 |_,_,_=>none
theorem mL{op:BinOp}{k:IntKind}{a b:Int}{v:V}(d:op≠ .shl/\op≠ .shr)(c:Oc op k a b=some v)(t:TypeId):
  ∃v',(binOp op t (.int k a)<|.int k b).run P w=.ok v' w/\Ab p v v':=by
 cases op<;>simp only[Oc]at c<;>simp only[binOp,vc,not_true_eq_false,vf,Op.intArith,Op.intDiv,Op.intBits,Op.intCmp]
 case quo|rem=>
  split at c
  ·cases c
  ·cases c;simp_all [Ab]
 case shl=>grind
 case shr=>grind
 all_goals (cases c;exact⟨_,zf ..,by simp[Ab]⟩)
theorem QT(f:T.Ok P){t:TypeId}{x y:V}{x' y':Value}(c:Ab p x x')(b:Ab p y y'){r:Bool}(a:Bs T t x y=some r):
  (yx t x' y').run P w=.ok r w:=by
 unfold Bs at a;split at a
 case h_16=>
  rename_i o s;obtain⟨l,g,d,B,q⟩:=HB a;simp only[Ab]at c b;obtain⟨u,rfl,k⟩:=c;obtain⟨v,rfl,hv⟩:=b;exact f.flat t l g p o s u v r w d B k hv q
 case h_17=>cases a
 all_goals (rename_i k;simp only[Ab]at c b;unfold yx Op.maxDepth Op.equalIn;rw[zd,Ax f k];simp only[zc])
 case h_1=>simp_all
 case h_2=>subst c;split at a<;>first|(cases a;done)|(cases a;simp only[Ab]at b;first|(subst b;rfl)|(obtain⟨_,_,_,rfl⟩:=b;simp))
 case h_3=>obtain⟨_,_,_,rfl⟩:=c;simp_all
 case h_4=>
  split at a
  case isFalse=>cases a
  rename_i e;subst e;split at a
  case h_2=>cases a
  rename_i C m;split at a
  case isFalse=>cases a
  rename_i A;cases a;obtain⟨r1,n1,g,rfl⟩:=c;obtain⟨r2,n2,d,rfl⟩:=b;rw[g]at d;cases d;simp only[zd,Bt f m,zc,A,vc,not_false_eq_true,wm];unfold sameAddr;simp only[beq_self_eq_true,wm,zf];congr 1;grind
 case h_5=>obtain⟨_,rfl,_⟩:=c;simp_all
 case h_6=>obtain⟨_,rfl,_⟩:=b;simp_all
 case h_7=>subst c;split at a<;>first|(cases a;done)|(cases a;simp only[Ab]at b;first|(subst b;rfl)|(obtain⟨_,_,_,_,rfl,_⟩:=b;rfl)|(obtain⟨_,_,rfl⟩:=b;simp;done)|(obtain⟨_,rfl⟩:=b;simp;done))
 case h_8=>obtain⟨_,_,_,_,rfl,_⟩:=c;simp_all
 case h_9=>obtain⟨_,_,rfl⟩:=c;simp_all
 case h_10=>obtain⟨_,rfl⟩:=c;simp_all
 case h_11=>subst c;split at a<;>first|(cases a;done)|(cases a;simp only[Ab]at b;first|(subst b;rfl)|(obtain⟨_,_,_,rfl⟩:=b;simp))
 case h_12=>obtain⟨_,_,_,rfl⟩:=c;simp_all
 case h_13=>simp_all
 case h_14=>obtain⟨_,_,rfl,_⟩:=c;simp_all
 case h_15=>obtain⟨_,_,rfl,_⟩:=b;simp_all
def Rz:V->Bool
 | .int .. | .str _| .tup _=>false
 |_=>true
theorem Kr{t:TypeId}{x y:V}{r:Bool}(a:Bs T t x y=some r):Rz x=true:=by
 unfold Bs at a;split at a<;>first|rfl|grind
theorem Nr{t:TypeId}{x:V}{x' y':Value}(a:Ab p x x')(b:Rz x=true):
  binOp .eql t x' y'=(do pure (.bool<|<-yx t x' y'))/\binOp .neq t x' y'=(do pure (.bool<|!(<-yx t x' y'))):=by
 cases x<;>simp only[Rz]at b<;>simp only[Ab]at a
 case int|str|tup=>cases b
 case ptr=>obtain⟨_,_,_,rfl⟩:=a;cases y'<;>exact⟨rfl,rfl⟩
 case esl=>obtain⟨_,_,rfl⟩:=a;cases y'<;>exact⟨rfl,rfl⟩
 case es0=>obtain⟨_,rfl⟩:=a;cases y'<;>exact⟨rfl,rfl⟩
 case sl=>obtain⟨_,_,_,_,rfl,_⟩:=a;cases y'<;>exact⟨rfl,rfl⟩
 case map=>obtain⟨_,_,_,rfl⟩:=a;cases y'<;>exact⟨rfl,rfl⟩
 case yld=>obtain⟨_,_,_,rfl⟩:=a;cases y'<;>exact⟨rfl,rfl⟩
 case fn=>obtain⟨_,_,rfl,_⟩:=a;cases y'<;>exact⟨rfl,rfl⟩
 case iface=>obtain⟨_,rfl,_⟩:=a;cases y'<;>exact⟨rfl,rfl⟩
 case agg=>obtain⟨_,rfl,_⟩:=a;cases y'<;>exact⟨rfl,rfl⟩
 all_goals (subst a;cases y'<;>exact⟨rfl,rfl⟩)
theorem qN(f:T.Ok P){op:BinOp}{t:TypeId}{x y:V}{x' y':Value}(d:Ab p x x')(g:Ab p y y'){v:V}(a:J6 T op t x y=some v):
  ∃v',(binOp op t x' y').run P w=.ok v' w/\Ab p v v':=by
 unfold J6 at a;split at a
 case h_1=>
  unfold Z4 at a;split at a
  ·cases a
  ·cases a;simp_all [binOp,Op.shift,wc,Ab]
 case h_2=>
  unfold Z4 at a;split at a
  ·cases a
  ·cases a;simp_all [binOp,Op.shift,wc,Ab]
 case h_3=>
  simp_all [Ab,mL]
 case h_4=>
  simp_all [Ab,nX,binOp]
 case h_5=>
  rw[zi]at a;obtain⟨b,c,rfl⟩:=a;rw[(Nr d<|Kr c).1];simp only[zd,QT f d g c,zc];simp_all [Ab]
 case h_6=>
  rw[zi]at a;obtain⟨b,c,rfl⟩:=a;rw[(Nr d<|Kr c).2];simp only[zd,QT f d g c,zc];simp_all [Ab]
 grind
theorem US{a:V}{b:Value}(c:Ab p a b)(h:a≠ .nili):b≠ .nilIface:=by
 intro e;subst e;cases a<;>simp only[Ab]at c<;>first|exact h rfl|(simp at c;done)|(done)|(done)|(done)|(done)
theorem fS{a:V}{c:Array Value}(d:Ab p a (.agg c)):∃b,a=.agg b/\Ar p b c.toList:=by
 cases a<;>simp only[Ab]at d<;>first|(done)|grind|grind|grind|grind
theorem O8{op:BinOp}{t:TypeId}{x y:Operand}{a b':Value}(b:op≠ .eql)(c:op≠ .neq):eqGuard op t x y a b'=pure ():=by
 cases op<;>first|rfl|exact wh rfl b|grind
theorem aK{op:BinOp}{t:TypeId}{x y:Operand}{a b':Value}(h0:a≠ .nilIface\/b'≠ .nilIface)(b:(∃c d,a=.agg c/\b'=.agg d)->P.eqGuardType P.depth t=false):
  (eqGuard op t x y a b').run P w=.ok () w:=by
 by_cases e1:op=.eql\/op=.neq
 ·have:eqGuard op t x y a b'=eqGuard .eql t x y a b':=by rcases e1 with rfl|rfl<;>rfl
  rw[this];unfold eqGuard;simp only[Bool.not_true,zp,vf];split
  ·grind
  ·simp_all
  ·rfl
 simp_all [O8]
theorem ZT(s:T.Ok P){op:BinOp}{t:TypeId}{x y:Operand}{a b:V}{o b':Value}(u:Ab p a o)(A:Ab p b b'){v:V}(q:J6 T op t a b=some v):
  (eqGuard op t x y o b').run P w=.ok () w:=by
 by_cases e1:op=.eql\/op=.neq
 ·refine aK ?_ ?_
  ·by_cases e2:a=.nili
   ·by_cases e3:b=.nili
    ·subst e2 e3;have:Bs T t .nili .nili=none:=by simp_all [Bs]
     rcases e1 with rfl|rfl<;>simp[J6,this]at q
    grind [US]
   grind [US]
  ·rintro⟨c,d,rfl,rfl⟩;obtain⟨f,rfl,g⟩:=fS u;obtain⟨ys,rfl,h2⟩:=fS A;have k:Bs T t (.agg f) (.agg ys)=O7 (T.flat t) f ys:=by simp_all [Bs]
   cases m:O7 (T.flat t) f ys with
   |some r=>obtain⟨l,g,_⟩:=HB m;exact s.guard t l g
   |none=>
    rw[m]at k;rcases e1 with rfl|rfl<;>simp[J6,k]at q
 simp_all [O8]
def dun(op:UnOp)(x:V):Option V:=
 match op,x with
 | .neg,.int k n=>some<|.int k<|k.wrap<|0-n
 | .xor,.int k n=>Oc .xor k (if k.signed then -1 else k.max) n
 | .not,.bool b=>some<|.bool !b
 |_,_=>none
theorem vT{op:UnOp}{x:V}{x':Value}(b:Ab p x x'){v:V}(a:dun op x=some v):∃v',(Op.unary op x').run P w=.ok v' w/\Ab p v v':=by
 unfold dun at a;split at a
 case h_1=>subst b;cases a;exact⟨_,rfl,by rfl⟩
 case h_2=> 
  subst b;simp only[Oc,ze]at a;subst a;exact⟨_,rfl,by rfl⟩
 case h_3=>subst b;cases a;exact⟨_,rfl,by rfl⟩
 grind
def uO:V->Option UInt8
 | .int .u8 (.ofNat n)=>some<|UInt8.ofNat n
 |_=>none
def bytes?:List V->Option Rd
 |[]=>some []
 |v::vs=>
  match uO v,bytes? vs with
  |some b,some a=>some (b::a)
  |_,_=>none
def FG(T:BX)(h:H)(src dst:TypeId)(x:V):Option V:=
 match T.und src,T.und dst,x with
 |some _,some<|.int k,.int _ n=>some<|.int k<|k.wrap n
 |some _,some .string,.str s=>some<|.str s
 |some (.slice e),some .string,.nils=>match T.und e with|some (.int .u8)=>some (.str [])|_=>none
 |some (.slice e),some .string,.sl b off len _ _=>
  match T.und e with
  |some (.int .u8)=>match rd h b off len with
   |some cs=>(bytes? cs).map .str
   |none=>none
  |_=>none
 |_,_,_=>none
theorem MQ{f:Value->ByteArray->Sem (ForInStep ByteArray)}(q:∀n s,f (.int .u8 n) s=pure (ForInStep.yield<|s.push<|UInt8.ofNat n.toNat)):
  ∀(cs:List V) (vs:List Value) (g:Rd) (a:Rd),Ar p cs vs->bytes? cs=some g->
  ∀w,(forIn vs (bytesOf a) f).run P w=.ok (bytesOf<|a++g) w
 |[],vs,g,a,d,k,w=>by
  simp_all [bytes?]
 |c::cs,[],_,_,d,_,_=>by simp at d
 |c::cs,v::vs,g,a,d,k,w=>by
  simp only[Ba]at d;unfold bytes? at k;split at k
  case h_2=>cases k
  rename_i b tl l o;unfold uO at l;split at l
  case h_2=>cases l
  rename_i n;have m:=d.1;simp only[Ab]at m;have:=MQ q cs vs tl (a++[UInt8.ofNat n]) d.2 o w;grind [bytesOf,ByteArray.push]
theorem eS(b:T.Ok P)(s:R p h w){src dst:TypeId}{x:V}{x':Value}(k:Ab p x x'){v:V}(a:FG T h src dst x=some v):
  ∃v',(convert src dst x').run P w=.ok v' w/\Ab p v v':=by
 unfold FG at a;split at a
 case h_1=>
  rename_i d f;subst k;cases a;unfold convert;simp only[zd,Ax b d,Ax b f,zc];exact⟨_,rfl,by rfl⟩
 case h_2=>
  rename_i d f;cases a;unfold convert;simp only[zd,Ax b d,Ax b f,zc];simp_all [Ab]
 case h_3=>
  rename_i d f;subst k;split at a
  case h_2=>cases a
  rename_i o;cases a;unfold convert;simp only[zd,Ax b d,Ax b f,Ax b o,zc];exact⟨_,rfl,by rfl⟩
 case h_4=>
  rename_i d f;split at a
  case h_2=>cases a
  rename_i o;split at a
  case h_2=>cases a
  rename_i cs g;rw[zi]at a;obtain⟨q,l,rfl⟩:=a;obtain⟨r,n,c,g1,rfl,g2⟩:=k;obtain⟨r',m,vs,k1,k2,k3,_⟩:=run_loadCells (P:=P) s g;rw[g1]at k1;cases k1;refine⟨.string<|bytesOf q,?_,by rfl⟩;unfold convert;simp only[zd,Ax b d,Ax b f,Ax b o,zc];unfold Conv.bytesToString;simp only[zd,k2,zc];simp only[List.forIn_toArray];have e:ByteArray.empty=bytesOf []:=rfl;rw[e,MQ (P:=P) (by simp) cs vs q [] k3 l w];simp
 grind
def KQ(T:BX)(t:TypeId)(cs:List V)(off:Nat):Option V:=
 match T.und t,T.inf t with
 |some d,some i=>bif Ea d then some (.agg<|(cs.drop off).take i.size)else cs[off]?
 |_,_=>none
theorem Uf(f:T.Ok P){t:TypeId}{cs:List V}{c:Array Value}{off:Nat}(g:Ar p cs c.toList){v:V}(a:KQ T t cs off=some v):
  ∃v',(part t c off).run P w=.ok v' w/\Ab p v v':=by
 unfold KQ at a;split at a
 case h_2=>cases a
 rename_i d i l k;unfold part;simp only[zd,Q5 f l,zc];cases b:Ea d with
 |true=>
  simp only[b,we,ze]at a;subst a;simp only[wm,zd,Bt f k,zc];refine⟨_,(by rfl),?_⟩;refine⟨_,rfl,?_⟩;have:(c.extract off<|off+i.size).toList=(c.toList.drop off).take i.size:=by
   simp
  rw[this];exact(g.drop off).take i.size
 |false=>
  simp only[b,wg]at a;obtain⟨u,o,m⟩:=g.get a;simp_all
def JW(T:BX)(t:TypeId)(x:V)(f:Nat):Option V:=
 match T.und t,x with
 |some (.struct fs),.agg cs=>match fs[f]? with
  |some a=>KQ T a.type cs a.offset
  |none=>none
 |_,_=>none
theorem YT(b:T.Ok P){t:TypeId}{x:V}{x':Value}{f:Nat}(d:Ab p x x'){v:V}(a:JW T t x f=some v):
  ∃v',(Instr.field t x' f).run P w=.ok v' w/\Ab p v v':=by
 unfold JW at a;split at a
 case h_2=>cases a
 rename_i fs cs l;split at a
 case h_2=>cases a
 rename_i m g;obtain⟨c,rfl,k⟩:=d;unfold Instr.field;simp only[zd,Ax b l,zc,g];exact Uf b k a
def J2(T:BX)(t:TypeId)(x:V)(f:Nat):Option V:=
 match T.und t,x with
 |some (.struct fs),.ptr b off=>match fs[f]? with
  |some a=>match T.inf a.type with
   |some i=>if i.size=0 then none else some<|.ptr b<|off+a.offset
   |none=>none
  |none=>none
 |_,_=>none
theorem aL(c:T.Ok P){t:TypeId}{x:V}{x':Value}{f:Nat}(d:Ab p x x'){v:V}(a:J2 T t x f=some v):
  ∃v',(Instr.fieldAt t x' f).run P w=.ok v' w/\Ab p v v':=by
 unfold J2 at a;split at a
 case h_2=>cases a
 rename_i fs b off m;split at a
 case h_2=>cases a
 rename_i o g;split at a
 case h_2=>cases a
 rename_i i l;split at a
 case isTrue=>cases a
 rename_i k;cases a;obtain⟨r,n,q,rfl⟩:=d;unfold Instr.fieldAt;simp only[zd,Ax c m,zc,g];unfold yf fieldPlace;simp only[zf,zc,zd,Bt c l,k,vf,Addr.Mh];simp_all [Ab]
def EX(T:BX)(t:TypeId)(x ix:V):Option V:=
 match T.und t,x,ix with
 |some (.slice e),.sl b off len _ _,.int _ i=>
  match T.inf e,i with
  |some a,.ofNat n=>bif z7 n len then some (.ptr b<|off+n*a.size)else none
  |_,_=>none
 |some (.array len e),.ptr b off,.int _ i=>
  match T.inf e,i with
  |some a,.ofNat n=>bif z7 n len then some (.ptr b<|off+n*a.size)else none
  |_,_=>none
 |_,_,_=>none
theorem F4(a b:Nat):z7 a b=decide (a<b):=by
 rw[Bool.eq_iff_iff];simp
theorem aA(q:T.Ok P){t:TypeId}{x ix:V}{x' l:Value}(s:Ab p x x')(g:Ab p ix l){v:V}(f:EX T t x ix=some v):
  ∃v',(Instr.indexAt t x' l).run P w=.ok v' w/\Ab p v v':=by
 unfold EX at f;split at f
 case h_3=>cases f
 case h_1=>
  rename_i e b off len cap o k i A;split at f
  case h_2=>cases f
  rename_i B n u;rw[F4]at f;by_cases a:n<len
  ·simp only[a,decide_true,we,ze]at f;subst f;simp only[Ab]at s g;obtain⟨r,m,c,y,rfl,_⟩:=s;subst g;unfold Instr.indexAt asIntOf;have d:(0:Int)<=(n:Int)/\(n:Int)<(len:Int):=⟨by simp,by simpa using a⟩;simp only[zd,zf,Ax q A,zc,d,and_self,wm,Bt q u,Addr.Mh,zy,yc];exact⟨_,rfl,by simp only[Ab];exact⟨_,_,y,rfl⟩⟩
  ·simp[a]at f
 case h_2=>
  rename_i len e b off k i A;split at f
  case h_2=>cases f
  rename_i B n u;rw[F4]at f;by_cases a:n<len
  ·simp only[a,decide_true,we,ze]at f;subst f;simp only[Ab]at s g;obtain⟨r,m,y,rfl⟩:=s;subst g;unfold Instr.indexAt asIntOf yf;have d:(0:Int)<=(n:Int)/\(n:Int)<(len:Int):=⟨by simp,by simpa using a⟩;simp only[zd,zf,Ax q A,zc,d,and_self,wm,Bt q u,Addr.Mh,zy,yc];exact⟨_,rfl,by simp only[Ab];exact⟨_,_,y,rfl⟩⟩
  ·simp[a]at f
def IN(T:BX)(t:TypeId)(x ix:V):Option V:=
 match T.und t,x,ix with
 |some .string,.str s,.int _ (.ofNat n)=>match s[n]? with
  |some b=>some<|.int .u8 b.toNat
  |none=>none
 |some (.array len e),.agg cs,.int _ (.ofNat n)=>
  match T.inf e with
  |some a=>bif z7 n len then KQ T e cs (n*a.size)else none
  |_=>none
 |_,_,_=>none
theorem ZC(m:T.Ok P){t:TypeId}{x ix:V}{x' l:Value}(o:Ab p x x')(d:Ab p ix l){v:V}(a:IN T t x ix=some v):
  ∃v',(Instr.index t x' l).run P w=.ok v' w/\Ab p v v':=by
 unfold IN at a;split at a
 case h_3=>cases a
 case h_1=>
  rename_i s k n q;split at a
  case h_2=>cases a
  rename_i b u;cases a;simp only[Ab]at o d;subst o d;unfold Instr.index asIntOf;have e:(bytesOf s)[n]?=some b:=by
   have y:=(zm.1 u).1;have r:=(zm.1 u).2;rw[getElem?_pos (bytesOf s) n<|by rw[BP];exact y];congr 1
  simp only[zd,zf,Ax m q,zc,zy,Int.natCast_nonneg,wm,yc,e];exact⟨_,rfl,by simp[Ab]⟩
 case h_2=>
  rename_i len e cs k n q;split at a
  case h_2=>cases a
  rename_i B r;rw[F4]at a;by_cases f:n<len
  ·simp only[f,decide_true,we]at a;simp only[Ab]at o d;obtain⟨c,rfl,A⟩:=o;subst d;unfold Instr.index asIntOf;have g:(0:Int)<=(n:Int)/\(n:Int)<(len:Int):=⟨by simp,by simpa using f⟩;simp only[zd,zf,Ax m q,zc,g,and_self,wm,Bt m r,zy,yc];exact Uf m A a
  ·simp[f]at a
def GY(x:V)(i:Nat):Option V:=
 match x with
 | .tup vs=>vs[i]?
 |_=>none
theorem Uw{x:V}{x':Value}{i:Nat}(d:Ab p x x'){v:V}(a:GY x i=some v):∃v',(Instr.extract x' i).run P w=.ok v' w/\Ab p v v':=by
 unfold GY at a;split at a
 case h_2=>cases a
 obtain⟨c,rfl,b⟩:=d;obtain⟨u,h1,h2⟩:=b.get a;simp_all [Instr.extract]
def Jv(x:Option V)(y HO:Nat):Option Nat:=
 match x with
 |none=>some HO
 |some (.int _<|.ofNat n)=>bif zk n y then some n else none
 |_=>none
def Mn(mx:Option V)(o:Nat):Nat:=match mx with|some _=>0|none=>o
def iO(a mx:Option V):Option Nat:=match a,mx with
 |none,some _=>none
 |_,_=>Jv a 0 0
def OA(mx:Option V):Bool:=match mx with
 |some _=>true
 |none=>false
def DI(T:BX)(t:TypeId)(x:V)(lo a mx:Option V):Option V:=
 match T.und t,x with
 |some .string,.str s=>
  match mx,Jv a s.length s.length with
  |none,some h=>match Jv lo h 0 with
   |some l=>some<|.str<|(s.drop l).take<|h-l
   |none=>none
  |_,_=>none
 |some (.slice e),.sl b off len cap o=>
  match T.inf e,Jv mx cap cap with
  |some c,some m=>match (match a,mx with|none,some _=>none|_,_=>Jv a m len)with
   |some h=>match Jv lo h 0 with
    |some l=>
     let o':=Mn mx o
     bif zh m l then(bif zh o' 0 then some (.sl b off (h-l) (m-l) 0)else some .esl)
     else bif zh o' 0||zh o' c.size then some (.sl b (off+l*c.size) (h-l) (m-l) o')else none
    |none=>none
   |none=>none
  |_,_=>none
 |some (.slice e),.nils=>
  match Jv mx 0 0,iO a mx,T.inf e with
  |some _,some h,some _=>match Jv lo h 0 with
   |some _=>some .nils
   |none=>none
  |_,_,_=>none
 |some (.slice e),.esl=>
  match Jv mx 0 0,iO a mx,T.inf e with
  |some _,some h,some _=>match Jv lo h 0 with
   |some _=>some<|bif OA mx then .es0 else .esl
   |none=>none
  |_,_,_=>none
 |some (.slice e),.es0=>
  match Jv mx 0 0,iO a mx,T.inf e with
  |some _,some h,some _=>match Jv lo h 0 with
   |some _=>some .es0
   |none=>none
  |_,_,_=>none
 |some (.array n e),.ptr b off=>
  match T.inf e,mx,Jv a n n with
  |some c,none,some h=>match Jv lo h 0 with
   |some l=>bif zh n l then some (.sl b off (h-l) (n-l) 0)else some<|.sl b (off+l*c.size) (h-l) (n-l) 0
   |none=>none
  |_,_,_=>none
 |_,_=>none
def G6(p:Pl):Option V->Option Value->Prop
 |none,x=>x=none
 |some d,x=>∃v,x=some v/\Ab p d v
theorem BZ{x:Option V}{x':Option Value}{y z n y':Nat}(g:G6 p x x')(b:Jv x y z=some n)(o:y<=y'):
  (x=none/\x'=none/\n=z)\/(∃d u,x=some d/\x'=some u/\n<=y/\∀a (P:Program) (w:World),(Instr.sliceBound u y' a).run P w=.ok n w):=by
 cases x with
 |none=>simp_all [G6,Jv]
 |some d=>
  obtain⟨u,rfl,f⟩:=g;unfold Jv at b;split at b
  case h_1=>grind
  case h_3=>cases b
  rename_i k m e;cases e;by_cases c:m<=y
  ·simp only[Nat.ble_eq_true_of_le c,we,ze]at b;simp only[Ab]at f;unfold Instr.sliceBound asIntOf;have l:(0:Int)<=(m:Int)/\(m:Int)<=(y':Int):=ae;simp_all
  ·have:zk m y=false:=by simp_all [Bool.eq_false_iff]
   grind
theorem Ix{lo r mx:Option V}{q f k:Option Value}(g:G6 p lo q)(a:G6 p r f)(o:G6 p mx k){m h l:Nat}(C:Jv mx 0 0=some m)(B:iO r mx=some h)(v:Jv lo h 0=some l)(c:Nat):
  (zt true 0 c q f k).run P w=.ok (0,0,bif OA mx then 0 else c) w:=by
 unfold iO at B;have h0:h=0:=by
  have:Jv r 0 0=some h:=by
   grind
  rcases BZ a this (zg _)with⟨_,_,rfl⟩|⟨_,_,_,_,h,_⟩<;>omega
 subst h0;unfold zt;cases mx with
 |none=>
  have b:Jv r 0 0=some 0:=ah
  simp only[G6]at o;rcases BZ a b (Nat.zero_le c)with⟨_,rfl,_⟩|⟨_,u,_,rfl,_,y⟩<;>rcases BZ g v (zg _)with⟨_,rfl,_⟩|⟨_,u2,_,rfl,_,s⟩
  all_goals simp_all [OA]
 |some d=>
  cases r with
  |none=>grind
  |some D=>
   have b:Jv (some D) 0 0=some 0:=ae
   rcases BZ o C (Nat.zero_le c)with⟨h,_,_⟩|⟨_,E,_,rfl,x,A⟩
   ·cases h
   ·obtain rfl:m=0:=ae
    rcases BZ a b ae with⟨h,_,_⟩|⟨_,u,_,rfl,_,y⟩
    ·cases h
    ·rcases BZ g v ae with⟨_,rfl,_⟩|⟨_,u2,_,rfl,_,s⟩
     all_goals simp_all [OA]
theorem YX(E:T.Ok P){t:TypeId}{x:V}{lo hi mx:Option V}{x':Value}{J I Q:Option Value}(L:Ab p x x')(A:G6 p lo J)(q:G6 p hi I)(B:G6 p mx Q)
  {v:V} (f:DI T t x lo hi mx=some v):∃v',(zr t x' J I Q).run P w=.ok v' w/\Ab p v v':=by
 unfold DI at f;split at f
 case h_7=>cases f
 case h_1=>
  rename_i s F;split at f
  case h_2=>cases f
  rename_i y g;split at f
  case h_2=>cases f
  rename_i l G;cases f;simp only[G6]at B;subst B;simp only[Ab]at L;subst L;refine⟨.string<|bytesOf<|(s.drop l).take<|y-l,?_,by rfl⟩;unfold zr;simp only[zd,Ax E F,zc];unfold yn;simp only[zd,Ax E F,zc,Option.isSome_none,zp,vf,BP];unfold zt;have e:(bytesOf s).extract l y=bytesOf ((s.drop l).take<|y-l):=by
   apply ByteArray.ext;simp_all [bytesOf]
  rcases BZ q g (zg _)with⟨_,rfl,rfl⟩|⟨_,u,_,rfl,_,hu⟩<;>rcases BZ A G (zg _)with⟨_,rfl,rfl⟩|⟨_,u2,_,rfl,_,X⟩
  all_goals simp_all
 case h_2=>
  rename_i e b off len cap o F;split at f
  case h_2=>cases f
  rename_i Z m U hm;split at f
  case h_2=>cases f
  rename_i y g;split at f
  case h_2=>cases f
  rename_i l G;simp only[Ab]at L;obtain⟨r,n,c,hp,rfl,hlen,O,ho1,ho2⟩:=L;obtain⟨M,gm2,hhm,R,hbounds⟩:∃M,((mx=none/\M=c/\m=cap)\/(mx≠none/\M=m))/\y<=m/\l<=y/\(zt true len c J I Q).run P w=.ok (l,y,M) w:=by
   have R:l<=y:=by
    rcases BZ A G (zg _)with⟨_,_,rfl⟩|⟨_,_,_,_,h,_⟩
    ·omega
    omega
   rcases BZ B hm O with⟨rfl,rfl,rfl⟩|⟨dm,um,rfl,rfl,hm1,hum⟩
   ·have D:Jv hi m len=some y:=ah
    refine⟨c,(by simp),?_,R,?_⟩
    ·rcases BZ q D O with⟨_,_,rfl⟩|⟨_,_,_,_,h,_⟩
     ·omega
     omega
    ·unfold zt;rcases BZ q D O with⟨_,rfl,rfl⟩|⟨_,u,_,rfl,_,hu⟩<;>rcases BZ A G (zg _)with⟨_,rfl,rfl⟩|⟨_,u2,_,rfl,_,X⟩
     all_goals simp_all
   ·cases hi with
    |none=>grind
    |some dh=>
     have D:Jv (some dh) m len=some y:=ae
     refine⟨m,(by simp),?_,R,?_⟩
     ·rcases BZ q D ae with⟨h,_⟩|⟨_,_,_,_,h,_⟩
      ·cases h
      omega
     ·unfold zt;rcases BZ q D (zg _)with⟨h,_,_⟩|⟨_,u,_,rfl,_,hu⟩
      ·cases h
      ·rcases BZ A G (zg _)with⟨_,rfl,rfl⟩|⟨_,u2,_,rfl,_,X⟩
       all_goals simp_all
  have gm1:m<=M:=ae
  have C:(zr t (.slice (some ⟨r,off,none⟩) len c) J I Q).run P w=.ok (.slice (if M=l then some ⟨r,off,none⟩else some ⟨r,off+l*Z.size,none⟩) (y-l)<|M-l) w:=by
   unfold zr;simp only[zd,Ax E F,zc];unfold yn;simp only[zd,Ax E F,zc,hbounds,Bt E U,zf];simp
  refine⟨_,C,?_⟩;simp only[Bm]at f;by_cases K:m=l
  ·simp only[K,decide_true,we]at f;by_cases S:Mn mx o=0
   ·simp only[S,decide_true,we,ze]at f;subst f;have hm':M=l:=by
     grind [Mn]
    simp_all [Ab]
   ·simp only[S,decide_false,wg,ze]at f;subst f;have W:y-l=0:=ae
    simp only[W,Ab];grind
  ·simp only[K,decide_false,wg]at f;by_cases S:Mn mx o=0\/Mn mx o=Z.size
   ·have Y:(decide (Mn mx o=0)||decide (Mn mx o=Z.size))=true:=ah
    simp only[Y,we,ze]at f;subst f;have hne:M≠l:=ae
    simp only[hne,vf,Ab];refine⟨r,n,_,hp,rfl,by omega,by omega,fun k=>?_,fun k=>?_⟩
    ·grind [Mn]
    ·rcases gm2 with⟨k1,k2,k3⟩|⟨k1,k2⟩
     ·subst k1;simp only[Mn]at k S ⊢;rcases S with S|S
      ·omega
      ·have:=ho2 k;subst k2;rw[<-S];have e:off+l*o+(M-l)*o=off+M*o:=by
        rw[Nat.sub_mul];have:l*o<=M*o:=zz _ ae;omega
       omega
     ·cases mx with
      |none=>grind
      |some d=>simp[Mn]at k
   grind
 case h_3=>
  rename_i e F;split at f
  case h_2=>cases f
  rename_i mm y tz N g W;split at f
  case h_2=>cases f
  rename_i l G;cases f;simp only[Ab]at L;subst L;refine⟨.slice none 0 0,?_,by rfl⟩;unfold zr;simp only[zd,Ax E F,zc];unfold yn;simp only[zd,Ax E F,zc,Ix (P:=P) (w:=w) A q B N g G 0];cases mx<;>simp[OA,Bt E W]
 case h_4=>
  rename_i e F;split at f
  case h_2=>cases f
  rename_i mm y tz N g W;split at f
  case h_2=>cases f
  rename_i l G;simp only[Ab]at L;obtain⟨a,c,rfl⟩:=L;have C:∃a',(zr t (.slice (some a) 0 c) J I Q).run P w=.ok (.slice (some a') 0<|bif OA mx then 0 else c) w:=by
   unfold zr;simp only[zd,Ax E F,zc];unfold yn;simp only[zd,Ax E F,zc,Ix (P:=P) (w:=w) A q B N g G c];simp only[Bt E W,zc,zf,Nat.sub_zero,Nat.sub_self];split
   ·simp
   simp
  obtain⟨a',ha'⟩:=C;refine⟨_,ha',?_⟩;cases f;cases mx with
  |none=>simp_all [OA,Ab]
  |some d=>simp_all [OA,Ab]
 case h_5=>
  rename_i e F;split at f
  case h_2=>cases f
  rename_i mm y tz N g W;split at f
  case h_2=>cases f
  rename_i l G;cases f;simp only[Ab]at L;obtain⟨a,rfl⟩:=L;refine⟨.slice (some a) 0 0,?_,by simp_all [Ab]⟩;unfold zr;simp only[zd,Ax E F,zc];unfold yn;simp only[zd,Ax E F,zc,Ix (P:=P) (w:=w) A q B N g G 0];cases mx<;>simp[OA,Bt E W]
 case h_6=>
  rename_i nn e b off F;split at f
  case h_2=>cases f
  rename_i Z y U g;split at f
  case h_2=>cases f
  rename_i l G;simp only[G6]at B;subst B;simp only[Ab]at L;obtain⟨r,n,hp,rfl⟩:=L;have R:l<=y:=by rcases BZ A G (zg _)with⟨_,_,rfl⟩|⟨_,_,_,_,h,_⟩<;>omega
  have hhn:y<=nn:=by rcases BZ q g (zg _)with⟨_,_,rfl⟩|⟨_,_,_,_,h,_⟩<;>omega
  have C:(zr t (.pointer<|some ⟨r,off,none⟩) J I none).run P w=.ok (.slice (some<|if nn=l then⟨r,off,none⟩else⟨r,off+l*Z.size,none⟩) (y-l)<|nn-l) w:=by
   unfold zr;simp only[zd,Ax E F,zc];unfold yf zt;rcases BZ q g (zg _)with⟨_,rfl,rfl⟩|⟨_,u,_,rfl,_,hu⟩<;>rcases BZ A G (zg _)with⟨_,rfl,rfl⟩|⟨_,u2,_,rfl,_,X⟩
   all_goals simp only[Option.isSome_none,zp,vf,zd,zf,zc,Bt E U,Addr.Mh, *]
  refine⟨_,C,?_⟩;simp only[Bm]at f;by_cases K:nn=l
  ·simp only[K,decide_true,we,ze]at f;subst f;simp_all [Ab]
  ·simp only[K,decide_false,wg,ze]at f;subst f;simp only[K,vf,Ab];grind
def i64(n:Nat):V:=.int .i64<|.ofNat n
def Fy(T:BX)(h:H)(ts:Array TypeId)(args:List V):Option V:=
 match ts[0]?,args with
 |some t,[x]=>
  match T.und t,x with
  |some .string,.str s=>some<|i64 s.length
  |some (.array n _),_=>some<|i64 n
  |some (.slice _),.sl _ _ len _ _=>some<|i64 len
  |some (.slice _),.nils=>some<|i64 0
  |some (.slice _),.esl=>some<|i64 0
  |some (.slice _),.es0=>some<|i64 0
  |some (.map _ _),.nilm=>some<|i64 0
  |some (.map _ _),.map b=>match h.get b with
   |some (.map es _)=>some<|i64 es.length
   |_=>none
  |_,_=>none
 |_,_=>none
theorem Ar.one{ds:V}{l:List Value}(a:Ar p [ds] l):∃v,l=[v]/\Ab p ds v:=by
 match l,a with
 |[v],h=>simp_all
 |[],h=>simp at h
 |_::_::_,h=>simp at h
theorem Ar.two{d e:V}{l:List Value}(a:Ar p [d,e] l):∃v u,l=[v,u]/\Ab p d v/\Ab p e u:=by
 match l,a with
 |[v,u],h=>exact⟨v,u,rfl,by simp_all⟩
 |[],h=>simp at h
 |[_],h=>simp at h
 |_::_::_::_,h=>simp at h
theorem Dx.length{es:List (V×V×Nat)}{l:List MapEntry}(h:Dx p es l):es.length=l.length:=by
 induction h with
 |nil=>rfl
 |cons _ _ _ _ a=>simp[a]
theorem nT(g:T.Ok P)(k:R p h w){ts:Array TypeId}{t:TypeId}{args:List V}{args':Array Value}(A:Ar p args args'.toList){v:V}(a:Fy T h ts args=some v):
  ∃v',(Builtin.len_ ts t args').run P w=.ok v' w/\Ab p v v':=by
 unfold Fy at a;split at a
 case h_2=>cases a
 rename_i t0 x m;obtain⟨x',c,b⟩:=A.one;have d:args'[0]?=some x':=by rw[<-yg,c];rfl
 unfold Builtin.len_;simp only[m,d];split at a
 case h_9=>cases a
 all_goals (rename_i y;simp only[zd,Ax g y,zc];try simp only[Ab]at b)
 case h_1=>cases a;simp_all [i64,Ab,goInt,BP]
 case h_2=>cases a;simp_all [i64,Ab,goInt]
 case h_3=>obtain⟨_,_,_,_,rfl,_⟩:=b;cases a;simp_all [i64,Ab,goInt]
 case h_4=>cases a;simp_all [i64,Ab,goInt]
 case h_5=>obtain⟨_,_,rfl⟩:=b;cases a;simp_all [i64,Ab,goInt]
 case h_6=>obtain⟨_,rfl⟩:=b;cases a;simp_all [i64,Ab,goInt]
 case h_7=>cases a;simp_all [i64,Ab,goInt]
 case h_8=>
  obtain⟨r,n,u,rfl⟩:=b;split at a
  case h_2=>cases a
  rename_i es D q;cases a;obtain⟨E,n',o,f,B,l,C,s⟩:=k.obj _ _ q;rw[u]at f;cases f;subst C;refine⟨goInt l.size,?_,?_⟩
  ·simp[getObj,yw,B]
  ·have:=s.length;simp only[i64,Ab,goInt];grind
def iZ(a b:V):Option V:=
 match a,b with
 | .int k x,.int _ y=>some<|.int k<|if y>x then y else x
 |_,_=>none
def pZ(a b:V):Option V:=
 match a,b with
 | .int k x,.int _ y=>some<|.int k<|if y<x then y else x
 |_,_=>none
def dfold(f:V->V->Option V):V->List V->Option V
 |x,[]=>some x
 |x,y::a=>match f x y with
  |some z=>dfold f z a
  |none=>none
theorem PA{f:V->V->Option V}{g:Value->Value->Sem Value}(m:∀ {a b c:V} {r b':Value},Ab p a r->Ab p b b'->f a b=some c->∃s,(g r b').run P w=.ok s w/\Ab p c s):
  ∀(o:List V) (k:List Value) (x:V) (x':Value),Ab p x x'->Ar p o k->∀ {v:V},dfold f x o=some v->∃v',(k.foldlM g x').run P w=.ok v' w/\Ab p v v'
 |[],k,x,x',q,d,v,l=>by
  cases l;simp_all
 |y::o,[],_,_,_,d,_,_=>by simp at d
 |y::o,y'::k,x,x',q,d,v,l=>by
  simp only[Ba]at d;unfold dfold at l;split at l
  case h_2=>cases l
  rename_i z A;obtain⟨u,C,B⟩:=m q d.1 A;obtain⟨v',h3,h4⟩:=PA m o k z u B d.2 l;simp_all
def Gb(f:V->V->Option V)(args:List V):Option V:=
 match args with
 |[]=>none
 |x::a=>dfold f x a
theorem pD{ts:Array TypeId}{t:TypeId}{args:List V}{args':Array Value}(d:Ar p args args'.toList){v:V}(f:Gb iZ args=some v):
  ∃v',(Builtin.max_ ts t args').run P w=.ok v' w/\Ab p v v':=by
 unfold Gb at f;split at f
 case h_1=>cases f
 rename_i x m;unfold Builtin.max_;cases l:args'.toList with
 |nil=>simp_all
 |cons x' k=>
  rw[l]at d;simp only[Ba]at d;refine PA (fun {a b c r b'} o q g=>?_) m k x x' d.1 d.2 f;unfold iZ at g;split at g
  case h_2=>cases g
  subst o q;cases g;exact⟨_,rfl,by rfl⟩
theorem oK{ts:Array TypeId}{t:TypeId}{args:List V}{args':Array Value}(d:Ar p args args'.toList){v:V}(f:Gb pZ args=some v):
  ∃v',(Builtin.min_ ts t args').run P w=.ok v' w/\Ab p v v':=by
 unfold Gb at f;split at f
 case h_1=>cases f
 rename_i x m;unfold Builtin.min_;cases l:args'.toList with
 |nil=>simp_all
 |cons x' k=>
  rw[l]at d;simp only[Ba]at d;refine PA (fun {a b c r b'} o q g=>?_) m k x x' d.1 d.2 f;unfold pZ at g;split at g
  case h_2=>cases g
  subst o q;cases g;exact⟨_,rfl,by rfl⟩
def Ie(place:Nat->Option (Nat×Nat))(cells:List V):List (Nat×V)->Option (List V)
 |[]=>some cells
 |(i,v)::a=>
  match place i with
  |none=>none
  |some (off,size)=>bif zh v.cells.length size&&zk (off+size) cells.length then Ie place (G4 cells off v.cells) a else none
theorem Ts:∀(b:List V) (vs:List Value) (cs:List V) (c:Array Value) (off:Nat),Ar p b vs->Ar p cs c.toList->
  ∀k,Ar p (G4 cs (off+k) b) ((vs.zipIdx k).foldl (fun cs (c,j)=>cs.setIfInBounds (off+j) c) c).toList
 |[],vs,cs,c,off,a,d,k=>by simp_all [G4]
 |x::b,[],_,_,_,a,_,_=>by simp at a
 |x::b,v::vs,cs,c,off,a,d,k=>by
  simp only[Ba]at a;simp only[G4,List.zipIdx_cons,List.foldl_cons];have:=Ts b vs (cs.set (off+k) x) (c.setIfInBounds (off+k) v) off a.2 (by simpa using d.set (off+k) a.1)<|k+1;omega
inductive Th (p:Pl):List (Nat×V)->List (Nat×Value)->Prop
 |nil:Th p [] []
 |cons {i:Nat} {v:V} {v':Value} {l:List (Nat×V)} {l':List (Nat×Value)}:Ab p v v'->Th p l l'->Th p ((i,v)::l) ((i,v')::l')
theorem Lb{place:Nat->Option (Nat×Nat)}:∀ {l:List (Nat×V)} {l':List (Nat×Value)},Th p l l'->∀ {cs:List V} {c:Array Value} {out:List V},Ar p cs c.toList->Ie place cs l=some out->
  ∃o,Instr.fill place c l'=some o/\Ar p out o.toList:=by
 intro l l' f;induction f with
 |nil=>intro cs c out d b;cases b;exact⟨c,rfl,d⟩
 |@cons i v v' l l' g f r=>
  intro cs c out d b;unfold Ie at b;split at b
  case h_1=>cases b
  rename_i off size k;cases a:(zh v.cells.length size&&zk (off+size) cs.length)with
  |false=>grind
  |true=>
   simp only[zn,z8,Bm,w5]at a;have m:=g.cells.length;have q:=d.length;unfold Instr.fill;have:=Ts (p:=p) v.cells v'.cells.toList cs c off g.cells d 0;grind [Array.toList_zipIdx]
def J4(T:BX)(t:TypeId)(a:List (Nat×V)):Option V:=
 match T.inf t,T.und t with
 |some i,some (.struct fs)=>
  match fs.toList.mapM (fun f=>(T.inf f.type).map fun j=>(f.offset,j.size))with
  |some pl=>(Ie (fun i=>pl[i]?) i.zero a).map .agg
  |none=>none
 |some i,some (.array _ e)=>match T.inf e with
  |some j=>(Ie (fun i=>some (i*j.size,j.size)) i.zero a).map .agg
  |none=>none
 |_,_=>none
theorem run_places(a:T.Ok P):∀ {fs:List Field} {pl:List (Nat×Nat)},fs.mapM (fun f=>(T.inf f.type).map fun j=>(f.offset,j.size))=some pl->
  ∀w,(fs.mapM<|fun f=>(do pure (f.offset, <-sizeOf f.type):Sem (Nat×Nat))).run P w=.ok pl w
 |[],pl,h,w=>by simp_all
 |f::fs,pl,h,w=>by
  cases b:T.inf f.type with
  |none=>grind
  |some j=>
   cases c:fs.mapM (fun f=>(T.inf f.type).map fun j=>(f.offset,j.size))with
   |none=>grind
   |some d=>
    simp[b,c]at h;subst h;rw[List.mapM_cons];simp only[zd,Bt a b,zc,zf,run_places a c]
theorem Z6(d:T.Ok P){t:TypeId}{c:List (Nat×V)}{a:Array (Nat×Value)}(q:Th p c a.toList){v:V}(b:J4 T t c=some v):
  ∃v',(Instr.build t a).run P w=.ok v' w/\Ab p v v':=by
 unfold J4 at b;split at b
 case h_3=>cases b
 case h_1=>
  rename_i i fs l g;split at b
  case h_2=>cases b
  rename_i pl k;rw[zi]at b;obtain⟨out,m,rfl⟩:=b;obtain⟨z,hz,hzr⟩:=D5 d l;have r:(fs.mapM<|fun f=>(do pure (f.offset, <-sizeOf f.type):Sem (Nat×Nat))).run P w=.ok pl.toArray w:=by
   rw[Array.mapM_eq_mapM_toList];simp only[Sem.run_map,run_places d k,zc]
  obtain⟨o,s,x⟩:=Lb (p:=p) (place:=fun i=>pl.toArray[i]?) q (hzr p) (out:=out) ah;refine⟨.agg o,?_,by simp_all [Ab]⟩;unfold Instr.build;simp only[zd,hz,zc,Ax d g];simp_all
 case h_2=>
  rename_i i n e l g;split at b
  case h_2=>cases b
  rename_i j u;rw[zi]at b;obtain⟨out,m,rfl⟩:=b;obtain⟨z,hz,hzr⟩:=D5 d l;obtain⟨o,s,x⟩:=Lb (p:=p) (place:=fun i=>some (i*j.size,j.size)) q (hzr p) m;refine⟨.agg o,?_,by simp_all [Ab]⟩;unfold Instr.build;simp only[zd,hz,zc,Ax d g,Bt d u,s,zf]
def E9(z:List V)(n:Nat):List V:=(List.range n).map fun i=>z.getD (i % z.length)<|.tup []
theorem I1{z:List V}{c:Array Value}(b:Ar p z c.toList)(a:0<z.length)(n:Nat):Ar p (E9 z n) ((Array.range n).map<|fun i=>c[i % c.size]!).toList:=by
 have m:=b.length;apply Ar.mk (by simp[E9]);intro i d v f q;have g:i<n:=ah
 simp only[E9,List.getElem?_map,List.getElem?_range g,Option.map_some,ze]at f;have k:i % z.length<z.length:=Nat.mod_lt _ a;obtain⟨u,l,o⟩:=b.get (i:=i % z.length) (d:=z[i % z.length]) (by simp[k]);grind
def Ey(T:BX)(h:H)(t:TypeId)(len:Nat)(a:List (Nat×V)):Option (V×H):=
 match T.und t with
 |some (.slice e)=>match T.inf e with
  |some i=>
   bif zk (len*i.size) 16777216&&z7 0 (i.zero.length)&&zh i.zero.length i.size then
    match Ie (fun k=>some (k*i.size,i.size)) (E9 i.zero<|len*i.size) a with
    |some cs=>some (.sl h.nx 0 len len 0,IF h e cs)
    |none=>none
   else none
  |none=>none
 |_=>none
theorem Wq(f:T.Ok P)(r:R p h w){t:TypeId}{len:Nat}{c:List (Nat×V)}{b:Array (Nat×Value)}(u:Th p c b.toList){v:V}{h':H}
  (d:Ey T h t len c=some (v,h')):∃v' p' w',(Instr.buildSlice t len b).run P w=.ok v' w'/\Ab p' v v'/\Ext p h w p' h' w':=by
 unfold Ey at d;split at d
 case h_2=>cases d
 rename_i e q;split at d
 case h_2=>cases d
 rename_i i m;cases a:(zk (len*i.size) 16777216&&z7 0 (i.zero.length)&&zh i.zero.length i.size)with
 |false=>grind
 |true=>
  simp only[a,we]at d;simp only[zn,z8,Nat.blt_eq,Bm,w5]at a;obtain⟨⟨y,s⟩,A⟩:=a;split at d
  case h_2=>cases d
  rename_i cs l;cases d;obtain⟨z,x,g⟩:=D5 f m;obtain⟨o,h1,h2⟩:=Lb (p:=p) (place:=fun k=>some (k*i.size,i.size)) u (I1 (g p) s<|len*i.size) l;obtain⟨n,he,hpn,hn⟩:=Np r e h2;refine⟨.slice (some ⟨w.heap.size,0,none⟩) len len,_,_,?_,?_,he⟩
  ·unfold Instr.buildSlice;simp only[zd,Ax f q,zc,Bt f m];by_cases h0:len*i.size=0
   ·grind [zd,zf,zc,Cz]
   simp_all [Cz]
  simp_all [Ab]
def Pv(T:BX)(h:H)(t:TypeId)(len cap:V):Option (V×H):=
 match T.und t,len,cap with
 |some (.slice e),.int _<|.ofNat l,.int _ (.ofNat c)=>
  match T.inf e with
  |some i=>
   bif zk l c&&z7 c 9223372036854775808&&zk (i.bytes*c) 281474976710656&&z7 0 i.zero.length&&zh i.zero.length i.size then
    some (.sl h.nx 0 l c 0,IF h e<|E9 i.zero<|c*i.size)
   else none
  |none=>none
 |_,_,_=>none
theorem wrap_small(c:Nat)(h:c<9223372036854775808):IntKind.i64.wrap (c:Int)=c:=IntWalk.i64_in _ ae
theorem dM(g:T.Ok P)(r:R p h w){t:TypeId}{len cap:V}{d b:Value}(u:Ab p len d)(s:Ab p cap b){v:V}{h':H}(f:Pv T h t len cap=some (v,h')):
  ∃v' p' w',(Instr.makeSlice t d b).run P w=.ok v' w'/\Ab p' v v'/\Ext p h w p' h' w':=by
 unfold Pv at f;split at f
 case h_2=>cases f
 rename_i e k l x c o;split at f
 case h_2=>cases f
 rename_i i m;cases a:(zk l c&&z7 c 9223372036854775808&&zk (i.bytes*c) 281474976710656&&z7 0 i.zero.length&&zh i.zero.length i.size)with
 |false=>grind
 |true=>
  simp only[a,we,ze,zw]at f;obtain⟨rfl,rfl⟩:=f;simp only[zn,z8,Nat.blt_eq,Bm,w5]at a;obtain⟨⟨⟨⟨c1,c2⟩,c3⟩,c4⟩,c5⟩:=a;subst u s;obtain⟨z,hz,hzr⟩:=D5 g m;obtain⟨j,hj,hjb,_⟩:=Pb g m;obtain⟨n,he,hpn,hn⟩:=Np r e<|I1 (hzr p) c4<|c*i.size;refine⟨.slice (some ⟨w.heap.size,0,none⟩) l c,_,_,?_,?_,he⟩
  ·unfold Instr.makeSlice asInt asIntOf;simp only[zd,zf,Ax g o,zc,hj,zy,wrap_small c c2,wrap_small l ae,hjb];have e3:(i.bytes:Int)*(c:Int)=((i.bytes*c:Nat):Int):=(by rfl);rw[e3];generalize i.bytes*c=q at c3 e3 ⊢;have n2:¬((decide ((c:Int)<0)||decide ((q:Int)>2^48))||decide ((l:Int)<0)||decide ((l:Int)>(c:Int)))=true:=by
    grind
   rw[wc n2];simp only[zd,zc,run_askRoom,Bt g m,yc];by_cases h0:c*i.size=0
   ·grind [zd,zf,zc,Cz]
   simp_all [Cz]
  simp_all [Ab]
def src(h:H)(size:Nat)(x:V)(n:Nat):Option (List V):=
 match x with
 | .nils=>some []
 | .esl=>bif zh n 0 then some []else none
 | .es0=>bif zh n 0 then some []else none
 | .sl b off _ _ _=>rd h b off<|n*size
 | .str s=>some<|(s.take n).map fun c=>.int .u8 c.toNat
 |_=>none
def Pd:V->Option Nat
 | .nils=>some 0
 | .esl=>some 0
 | .es0=>some 0
 | .sl _ _ len _ _=>some len
 | .str s=>some s.length
 |_=>none
theorem PB{x:V}{x':Value}(b:Ab p x x'){n:Nat}(a:Pd x=some n):(yj x').run P w=.ok n w:=by
 unfold Pd at a;split at a
 case h_1=>subst b;cases a;rfl
 case h_2=>obtain⟨_,_,rfl⟩:=b;cases a;rfl
 case h_3=>obtain⟨_,rfl⟩:=b;cases a;rfl
 case h_4=>obtain⟨_,_,_,_,rfl,_⟩:=b;cases a;rfl
 case h_5=>simp_all [Ab,yj,BP]
 grind
theorem KL(f:R p h w){size n:Nat}{x:V}{x':Value}(d:Ab p x x'){cs:List V}(b:src h size x n=some cs):
  ∃vs:List Value,(zl size n x').run P w=.ok vs.toArray w/\Ar p cs vs:=by
 unfold src at b;split at b
 case h_6=>cases b
 case h_1=>subst d;cases b;exact⟨[],rfl,by simp⟩
 case h_2=>
  obtain⟨a,c,rfl⟩:=d;rw[Bm]at b;by_cases e:n=0
  ·simp_all [zl,loadCells,loadCellsFrom]
  grind
 case h_3=>
  obtain⟨a,rfl⟩:=d;rw[Bm]at b;by_cases e:n=0
  ·simp_all [zl,loadCells,loadCellsFrom]
  grind
 case h_4=>
  obtain⟨r,m,c,g,rfl,_⟩:=d;obtain⟨r',m',vs,h1,h2,h3,_⟩:=run_loadCells (P:=P) f b;rw[g]at h1;cases h1;exact⟨vs,h2,h3⟩
 case h_5=>
  rename_i s;simp only[Ab]at d;refine⟨(s.take n).map fun c=>.int .u8 c.toNat,?_,?_⟩
  ·simp_all [zl,bytesOf]
  grind [Ar.mk,Ab]
theorem Wm(a c:Nat)(h:c<a):2*z6 a c<=3*a+2000:=by
 unfold z6;grind [Builtin.growBy]
def isInt:TypeDesc->Bool
 | .int _=>true
 |_=>false
def Px:V->Bool
 | .str _=>false
 |_=>true
def Gg(T:BX)(h:H)(ts:Array TypeId)(args:List V):Option (V×H):=
 match ts[0]?,ts[1]?,args with
 |some t,some tx,[s,x]=>
  match T.und t,T.und tx,Pd x with
  |some (.slice e),some dx,some n=>
   match T.inf e,isInt dx with
   |some i,false=>
    bif z7 0 i.bytes&&z7 0 i.size&&zh i.zero.length i.size&&(zh i.size 1||Px x)then
     match src h i.size x n with
     |some new=>
      match s with
      | .nils=>
       bif zh n 0 then some (.nils,h)
       else bif zk ((3*n+2000)*i.bytes) 562949953421312 then some (.sl h.nx 0 n n i.size,IF h e new)else none
      | .es0=>
       bif zh n 0 then some (.es0,h)
       else bif zk ((3*n+2000)*i.bytes) 562949953421312 then some (.sl h.nx 0 n n i.size,IF h e new)else none
      | .esl=>bif zh n 0 then some (.esl,h)else none
      | .sl b off len cap o=>
       bif zk (len+n) cap then(wr h b (off+len*i.size) new).map fun h'=>(.sl b off (len+n) cap o,h')
       else bif zk ((3*(len+n)+2000)*i.bytes) 562949953421312 then
        match src h i.size s len with
        |some old=>
         bif zh o 0 then some (.sl h.nx 0 (len+n) (len+n) i.size,IF h e<|old++new)
         else
          match h.get b with
          |some (.cells _ a fz)=>
           bif zh off 0&&zh o i.size&&zh a e&&zk fz.2 fz.1&&new.all V.one then some (.sl h.nx 0 (len+n) (len+n) i.size,(h.kill b).push<|.cells (old++new) e (0,0))
           else none
          |_=>none
        |none=>none
       else none
      |_=>none
     |none=>none
    else none
   |_,_=>none
  |_,_,_=>none
 |_,_,_=>none
theorem QF{old new:List V}{vo vn:List Value}(c:Ar p old vo)(b:Ar p new vn)(a:Array Value):
  Ar p (old++new) ((vo.toArray++vn.toArray++a).toList.take (old++new).length):=by
 have l1:=c.length;have l2:=b.length;have:((vo.toArray++vn.toArray++a).toList.take (old++new).length)=vo++vn:=by
  grind
 rw[this];exact c.append b
section
variable {ts:Array TypeId}{t t0 tx e:TypeId}{dx:TypeDesc}{i:TI}{n:Nat}{x' z:Value}{j:TypeInfo}
theorem Oq(f:T.Ok P)(o:ts[0]?=some t0)(k:ts[1]?=some tx)(q:T.und t0=some (.slice e))(g:T.und tx=some dx)(l:isInt dx=false)
  (s:T.inf e=some i) (r:∀w,(yj x').run P w=.ok n w) (base:Option Addr) (d c:Nat) (m:d+n<=c):
  (zu ts t #[.slice base d c,x']).run P w=((zl i.size n x').run P w).andThen fun new w'=>((match base with|some a=>storeCells (a.add<|d*i.size) new.toList|none=>pure ():Sem Unit).run P w').andThen fun _ w'=>.ok (.slice base (d+n) c) w':=by
 unfold zu;cases dx<;>first|(cases l;done)|skip
 all_goals
  simp only[o,k,yh,yd,ye,zd,Ax f q,Ax f g,Bt f s,zc,zf,zp,vf,r,m,wm,Bool.not_false];cases base with
  |none=>rfl
  |some b=>simp only[zd,zf]
theorem Qk(f:T.Ok P)(s:ts[0]?=some t0)(q:ts[1]?=some tx)(x:T.und t0=some (.slice e))(m:T.und tx=some dx)(r:isInt dx=false)
  (v:T.inf e=some i) (u:0<i.bytes) (y:∀w,(zeroValue e).run P w=.ok z w) (C:∀w,(yj x').run P w=.ok n w) (base:Option Addr) (a c:Nat) (o:c<a+n)
  (d:(3*(a+n)+2000)*i.bytes<=562949953421312):
  ∃l,a+n<=l/\(zu ts t #[.slice base a c,x']).run P w=((zl i.size a<|.slice base a c).run P { w with drawn:=w.drawn+1 }).andThen fun old w'=>
   ((zl i.size n x').run P w').andThen fun new w'=>
    .ok (.slice (some ⟨w'.heap.size,0,none⟩) (a+n) l) { w' with heap:=w'.heap.push (.cells (old++new++zo z.cells (l-(a+n))) e) }:=by
 obtain⟨j,A,g,F⟩:=Pb f v;have k:=Wm (a+n) c o;have b:2*z6 (a+n) c*i.bytes<=562949953421312:=yr (zz _ k) d;rw[Nat.mul_assoc]at b;have D:z6 (a+n) c*i.bytes<=281474976710656:=ae
 refine⟨(Question.appendCap (a+n) c e).cut<|w.tape w.drawn<|.appendCap (a+n) c e,by simp[Question.cut],?_⟩;unfold zu;have G:¬(a+n<=c):=ae
 have B:¬(z6 (a+n) c*i.bytes>2^48):=ae
 have E:¬(i.bytes=0):=ae
 cases dx<;>first|(cases r;done)|skip
 all_goals
  simp only[s,q,yh,yd,ye,zd,Ax f x,Ax f m,Bt f v,zc,zf,zp,vf,C,Bool.not_false,wm,
   G,A,g,E,or_self,and_false,B,run_choose,Question.forced,run_askRoom,y,Cz]
end
theorem Iy(z:Array Value)(n:Nat):(zo z n).size=n*z.size:=by simp[zo]
theorem Pg{size n:Nat}{x:V}{cs:List V}(b:Pd x=some n)(c:size=1\/∀s,x≠ .str s)(a:src h size x n=some cs):cs.length=n*size:=by
 unfold src at a;split at a
 case h_6=>cases a
 case h_1=>cases a;cases b;simp
 case h_2=>
  cases b;grind
 case h_3=>
  cases b;grind
 case h_4=>
  rw[W1]at a;grind [zK]
 case h_5=>
  cases b;grind
theorem Vi(X:T.Ok P)(C:R p h w){ts:Array TypeId}{t:TypeId}{args:List V}{args':Array Value}(ha:Ar p args args'.toList){v:V}{h':H}(a:Gg T h ts args=some (v,h')):
  ∃v' p' w',(zu ts t args').run P w=.ok v' w'/\Ab p' v v'/\Ext p h w p' h' w':=by
 unfold Gg at a;split at a
 case h_2=>cases a
 rename_i t0 tx s x L I;obtain⟨s',x',E,U,hx⟩:=ha.two;have ha0:args'[0]?=some s':=by rw[<-yg,E];rfl
 have ha1:args'[1]?=some x':=by rw[<-yg,E];rfl
 split at a
 case h_2=>cases a
 rename_i e dx n hu K N;split at a
 case h_2=>cases a
 rename_i i hi J;cases y:(z7 0 i.bytes&&z7 0 i.size&&zh i.zero.length i.size&&(zh i.size 1||Px x))with
 |false=>grind
 |true=>
  simp only[y,we]at a;simp only[zn,Nat.blt_eq,Bm,w5,yv]at y;obtain⟨⟨⟨c1,c2⟩,c3⟩,c4⟩:=y;have c5:i.size=1\/∀s,x≠ .str s:=c4.imp id (fun h s e=>by subst e;cases h);split at a
  case h_2=>cases a
  rename_i new B;have hnl:=Pg N c5 B;obtain⟨vn,hvn,A⟩:=KL (P:=P) C hx B;obtain⟨j,hj,hjb,hjs⟩:=Pb X hi;obtain⟨z,hz,hzr⟩:=D5 X hi;have hzl:=(hzr p).length;simp at hzl;have hne:args'= #[s',x']:=ah
  subst hne;have g:∀w,(yj x').run P w=.ok n w:=fun w=>PB hx N
  have F:∀(base:Option Addr) (c:Nat),n=0->(zu ts t #[.slice base 0 c,x']).run P w=.ok (.slice base 0 c) w:=by
   intro base c h0;rw[Oq X L I hu K J hi g base 0 c ae,hvn];have hv0:vn=[]:=by
    simp_all
   subst hv0;cases base<;>simp[h0,storeCells]
  have some0:∀(base:Option Addr),¬n=0->(3*n+2000)*i.bytes<=562949953421312->∃v' p' w',(zu ts t #[.slice base 0 0,x']).run P w=.ok v' w'/\Ab p' (.sl h.nx 0 n n i.size) v'/\Ext p h w p' (IF h e new) w':=by
   intro base h0 hb;obtain⟨l,hnc,M⟩:=Qk (w:=w) (t:=t) X L I hu K J hi c1 hz g base 0 0 ae ah;simp only[Nat.zero_add]at M hnc;have f:=Ext.drew C<|w.drawn+1;obtain⟨vn',hvn',hvnr'⟩:=KL (P:=P) f.rel hx B;have D:=Ext.push (n:=l*i.size) f.rel (o:=.cells new e (0,0)) (x:=.cells (#[]++vn'.toArray++zo z.cells (l-n)) e) ?_
   ·refine⟨.slice (some ⟨w.heap.size,0,none⟩) n l,_,_,?_,?_,f.trans D⟩
    ·rw[M];have hf:∀w,(zl i.size 0<|Value.slice base 0 0).run P w=.ok #[] w:=by
      intro w;cases base<;>simp[zl,loadCells,loadCellsFrom]
     grind [zc]
    ·simp only[Ab];refine⟨w.heap.size,l*i.size,l,by rw[<-C.len];simp,rfl,zg _,by omega,ae,ae⟩
   ·have hl:=hvnr'.length;have Z:(#[]++vn'.toArray++zo z.cells (l-n)).size=l*i.size:=by
     simp_all [Iy,Nat.sub_mul,zz]
    refine⟨_,(0,0),rfl,Z,?_,?_,ae⟩
    ·grind
    ·have:=QF (p:=p) (old:=[]) (vo:=[]) (by simp) hvnr'<|zo z.cells<|l-n;simpa using this.toC
  split at a
  case h_5=>cases a
  case h_1=>
   simp only[Ab]at U;subst U;rw[Bm]at a;by_cases h0:n=0
   ·simp only[h0,decide_true,we,ze,zw]at a;obtain⟨rfl,rfl⟩:=a;exact⟨.slice none 0 0,p,w,ah,by rfl,Ext.refl C⟩
   ·simp only[h0,decide_false,wg]at a;cases hb:zk ((3*n+2000)*i.bytes) 562949953421312 with
    |false=>grind
    |true=>
     simp_all
  case h_2=>
   simp only[Ab]at U;obtain⟨a0,rfl⟩:=U;rw[Bm]at a;by_cases h0:n=0
   ·simp only[h0,decide_true,we,ze,zw]at a;obtain⟨rfl,rfl⟩:=a;exact⟨_,p,w,F (some a0) 0 h0,by simp[Ab],Ext.refl C⟩
   ·simp only[h0,decide_false,wg]at a;cases hb:zk ((3*n+2000)*i.bytes) 562949953421312 with
    |false=>grind
    |true=>
     simp_all
  case h_3=>
   simp only[Ab]at U;obtain⟨a0,c0,rfl⟩:=U;rw[Bm]at a;by_cases h0:n=0
   ·simp only[h0,decide_true,we,ze,zw]at a;obtain⟨rfl,rfl⟩:=a;exact⟨_,p,w,F (some a0) c0 h0,by simp[Ab],Ext.refl C⟩
   grind
  case h_4=>
   rename_i b off len cap o;simp only[Ab]at U;obtain⟨r,m,c,hp,rfl,hlen,hcap,ho1,ho2⟩:=U;cases hle:zk (len+n) cap with
   |true=>
    simp only[hle,we,zi,zw]at a;obtain⟨h1,hw,rfl,rfl⟩:=a;rw[z8]at hle;obtain⟨r',m',w',g1,g2,g3⟩:=Rb (P:=P) C A hw;rw[hp]at g1;cases g1;refine⟨.slice (some ⟨r,off,none⟩) (len+n) c,p,w',?_,?_,g3⟩
    ·rw[Oq X L I hu K J hi g _ len c ae,hvn];simp_all
    ·simp only[Ab];grind
   |false=>
    simp only[hle,wg]at a;have hle':¬(len+n<=cap):=by grind [z8]
    cases hb:zk ((3*(len+n)+2000)*i.bytes) 562949953421312 with
    |false=>grind
    |true=>
     simp only[hb,we]at a;rw[z8]at hb;split at a
     case h_2=>cases a
     rename_i old G;have hol:=Pg (x:=.sl b off len cap o) (n:=len) rfl (by simp) G;have W:∀q:Pl,(∃q',q=p++q')->Ab q (.sl b off len cap o) (.slice (some ⟨r,off,none⟩) len c):=by
      rintro q ⟨q',rfl⟩;exact Ab.mono q' (by simp_all)
     have fresh:∀(_:c<len+n) (h2:H),R p h2 { w with drawn:=w.drawn+1 }->h2.nx=h.nx->
       ∃v' p' w',(zu ts t #[.slice (some ⟨r,off,none⟩) len c,x']).run P w=.ok v' w'/\Ab p' (.sl h.nx 0 (len+n) (len+n) i.size) v'/\
        Ext p h2 { w with drawn:=w.drawn+1 } p' (h2.push<|.cells (old++new) e (0,0)) w':=by
      intro hlt h2 hr2 hnx;obtain⟨l,hnc,M⟩:=Qk (w:=w) (t:=t) X L I hu K J hi c1 hz g (some ⟨r,off,none⟩) len c hlt hb;have f:=Ext.drew C<|w.drawn+1;obtain⟨vn',hvn',hvnr'⟩:=KL (P:=P) f.rel hx B;obtain⟨vo',hvo',hvor'⟩:=KL (P:=P) (x:=.sl b off len cap o) f.rel (W p<|by simp) G;have hl:=hvnr'.length;have hl2:=hvor'.length;have Z:(vo'.toArray++vn'.toArray++zo z.cells (l-(len+n))).size=l*i.size:=by
       have e1:vn'.length=n*i.size:=ae
       have e2:vo'.length=len*i.size:=ae
       simp only[Array.size_append,Iy,List.size_toArray,e1,e2, <-hzl,c3,Nat.sub_mul,Nat.add_mul];have:(len+n)*i.size<=l*i.size:=zz _ ae;grind
      have D:=Ext.push (n:=l*i.size) hr2 (o:=.cells (old++new) e (0,0)) (x:=.cells (vo'.toArray++vn'.toArray++zo z.cells (l-(len+n))) e)
       ⟨_,(0,0),rfl,Z,by grind,(QF hvor' hvnr' _).toC,ae⟩
      refine⟨.slice (some ⟨w.heap.size,0,none⟩) (len+n) l,_,_,?_,?_,D⟩
      ·grind [zc]
      ·simp only[Ab];refine⟨w.heap.size,l*i.size,l,?_,rfl,zg _,by omega,ae,ae⟩;rw[<-hnx, <-hr2.len];simp
     rw[Bm]at a;by_cases h0:o=0
     ·simp only[h0,decide_true,we,ze,zw]at a;obtain⟨rfl,rfl⟩:=a;have:=ho1 h0;have f:=Ext.drew C<|w.drawn+1;obtain⟨v',p',w',k1,k2,k3⟩:=fresh ae h f.rel rfl;exact⟨v',p',w',k1,k2,f.trans k3⟩
     ·simp only[h0,decide_false,wg]at a;split at a
      case h_2=>cases a
      rename_i cs te fz hbk;cases hc2:(zh off 0&&zh o i.size&&zh te e&&zk fz.2 fz.1&&new.all V.one)with
      |false=>grind
      |true=>
       simp only[hc2,we,ze,zw]at a;obtain⟨rfl,rfl⟩:=a;simp only[zn,z8,Bm,w5,List.all_eq_true]at hc2;obtain⟨⟨⟨⟨rfl,rfl⟩,rfl⟩,d4⟩,d5⟩:=hc2;by_cases S:len+n<=c
       ·
        obtain⟨r',m',cc,fz',g1,g2,g3,g4,g5,g6,g7⟩:=cell_of C hbk;rw[hp]at g1;cases g1;have hm:=ho2 h0;have hl:=A.length;have hone:∀v∈vn,v.oneCell'=true:=by
         intro v hv;obtain⟨k,hk⟩:=List.mem_iff_getElem?.1 hv;have hk':=(zm.1 hk).1;obtain⟨u,O,hu2⟩:=A.get (i:=k) (d:=new[k]'ae) (by simp);rw[hk]at O;cases O;exact hu2.one ah
        have hbnd:len*i.size+n*i.size<=c*i.size:=by rw[<-Nat.add_mul];simp_all [zz]
        obtain⟨cc',k1,k2,k3⟩:=FA (P:=P) vn w cc (len*i.size) 0 g2 ae hone (by
         grind)
        have hrd:old=cs.take (len*i.size)/\len*i.size<=cs.length:=by
         unfold src at G;simp_all [W1,zK]
        refine⟨.slice (some ⟨r,0,none⟩) (len+n) c,p++[(r,m)],{ w with heap:=w.heap.setIfInBounds r (.cells cc' te fz') },?_,?_,Ext.move C (o':=.cells (old++new) te (0,0)) hbk hp ⟨cc',fz',rfl,by omega,?_,?_,?_⟩ rfl rfl rfl rfl (fun _ _ _ e1 hlk=>by cases e1;obtain⟨l1,_,l3⟩:=hlk;omega)⟩
        ·rw[Oq X L I hu K J hi g _ len c S,hvn];simp_all
        ·simp only[Ab];exact⟨r,m,c,by rw[<-C.len];simp,rfl,zg _,S,ae,fun _=>hm⟩
        ·grind
        ·refine⟨?_,?_⟩
         ·grind
         ·intro k d v Q Y hokk;have hkl:k<(old++new).length:=ah;rw[zq hkl,k3]at Y;rw[List.length_append,hol,hnl]at hkl;simp only[Nat.add_zero,List.getElem?_map]at Y;rw[List.getElem?_range ae]at Y;by_cases hk:k<len*i.size
          ·rw[List.getElem?_append_left ae,hrd.1,zq hk]at Q;obtain⟨u,O,hu2⟩:=g5.get Q hokk;grind
          ·rw[List.getElem?_append_right ae,hol]at Q;obtain⟨u,O,hu2⟩:=A.get Q;grind
        grind
       ·have hk:=Ext.kill C b;have f:=Ext.drew hk.rel<|w.drawn+1;obtain⟨v',p',w',k1,k2,k3⟩:=fresh ae (h.kill b) f.rel rfl;exact⟨v',p',w',k1,k2,(hk.trans f).trans k3⟩
def fE(T:BX)(h:H)(ts:Array TypeId)(args:List V):Option (V×H):=
 match ts[0]?,args with
 |some t,[d,x]=>
  match T.und t,Pd d,Pd x with
  |some (.slice e),some a,some n=>
   match T.inf e with
   |some i=>
    match src h i.size x (Nat.min n a)with
    |some new=>
     match d with
     | .nils=>some (i64<|Nat.min n a,h)
     | .sl b off _ _ _=>(wr h b off new).map fun h'=>(i64<|Nat.min n a,h')
     |_=>none
    |none=>none
   |none=>none
  |_,_,_=>none
 |_,_=>none
theorem gB(o:T.Ok P)(q:R p h w){ts:Array TypeId}{t:TypeId}{args:List V}{args':Array Value}(G:Ar p args args'.toList){v:V}{h':H}(a:fE T h ts args=some (v,h')):
  ∃v' p' w',(Builtin.copy_ ts t args').run P w=.ok v' w'/\Ab p' v v'/\Ext p h w p' h' w':=by
 unfold fE at a;split at a
 case h_2=>cases a
 rename_i t0 d x s;obtain⟨D,x',u,f,A⟩:=G.two;have y:args'= #[D,x']:=ah
 subst y;split at a
 case h_2=>cases a
 rename_i e I n F b B;split at a
 case h_2=>cases a
 rename_i i C;split at a
 case h_2=>cases a
 rename_i new g;obtain⟨vn,l,k⟩:=KL (P:=P) q A g;unfold Builtin.copy_;simp only[s,yh,yd,ye,zd,Ax o F,zc];split at a
 case h_3=>cases a
 case h_1=>
  subst f;simp only[Pd,ze]at b;subst b;cases a;simp only[zd,PB A B,Bt o C,zc,l];refine⟨_,p,w,(by rfl),?_,Ext.refl q⟩;rfl
 case h_2=>
  simp only[Pd,ze]at b;subst b;obtain⟨r,m,c,E,rfl,_⟩:=f;rw[zi]at a;obtain⟨h1,hw,he⟩:=a;cases he;obtain⟨r',m',w',g1,g2,g3⟩:=Rb (P:=P) q k hw;rw[E]at g1;cases g1;simp only[zd,PB A B,Bt o C,zc,l,g2];refine⟨_,p,w',(by rfl),?_,g3⟩;rfl
def RD(T:BX)(h:H)(t:TypeId)(x:V):Option (V×H):=
 match T.und t,x with
 |some .string,.str s=>some (.ptr h.nx 0,h.push<|.siter s 0)
 |_,_=>none
theorem Zo(d:T.Ok P)(b:R p h w){t:TypeId}{x:V}{x':Value}(g:Ab p x x'){v:V}{h':H}(a:RD T h t x=some (v,h')):
  ∃v' p' w',(Instr.range t x').run P w=.ok v' w'/\Ab p' v v'/\Ext p h w p' h' w':=by
 unfold RD at a;split at a
 case h_2=>cases a
 rename_i s c;cases a;subst g;have f:=Ext.push (n:=0) b (o:=.siter s 0) (x:=.stringIter (bytesOf s) 0) rfl;refine⟨.pointer<|some ⟨w.heap.size,0,none⟩,_,_,?_,?_,f⟩
 ·unfold Instr.range;simp only[zd,Ax d c,zc,zf,run_newObj]
 ·exact⟨w.heap.size,0,by rw[<-b.len];simp,rfl⟩
def MN(h:H)(c:V)(a:Bool):Option (V×H):=
 match c,a with
 | .ptr b 0,true=>
  match h.get b with
  |some (.siter s pos)=>
   bif z7 pos s.length then
    some (.tup [.bool true,i64 pos,.int .i32 (Utf8.decode (bytesOf s) pos).1],h.put b<|.siter s<|pos+(Utf8.decode (bytesOf s) pos).2)
   else some (.tup [.bool false],h)
  |_=>none
 |_,_=>none
theorem kR(f:R p h w){l:V}{d:Value}{a:Bool}{t:TypeId}(q:Ab p l d){v:V}{h':H}(b:MN h l a=some (v,h')):
  ∃v' p' w',(Instr.next d a t).run P w=.ok v' w'/\Ab p' v v'/\Ext p h w p' h' w':=by
 unfold MN at b;split at b
 case h_2=>cases b
 obtain⟨r,n,m,rfl⟩:=q;split at b
 case h_2=>cases b
 rename_i s pos k;obtain⟨y,n',x,o,g,u⟩:=f.obj _ _ k;rw[m]at o;cases o;subst u;rw[F4]at b;unfold Instr.next;simp only[zd,getObj,yw,g,zc,BP];by_cases c:pos<s.length
 ·simp only[c,decide_true,we,ze,zw]at b;obtain⟨rfl,rfl⟩:=b;simp only[c,wm,zd,setObj,yw,g,zc];refine⟨_,p,_,zf ..,?_,Ext.put f k m (o':=.siter s<|pos+(Utf8.decode (bytesOf s) pos).2) rfl rfl rfl rfl rfl⟩;simp[Ab,i64,goInt]
 ·simp only[c,decide_false,wg,ze,zw]at b;obtain⟨rfl,rfl⟩:=b;simp only[c,vf];exact⟨_,p,w,(by rfl),by simp[Ab],Ext.refl f⟩
def II(h:H)(r:Option V):Option (V×H):=
 match r with
 |none=>some (.map h.nx,h.push<|.map [] 0)
 |some _=>none
theorem U2(b:R p h w){t:TypeId}{r:Option V}{c:Option Value}(f:G6 p r c){v:V}{h':H}(a:II h r=some (v,h')):
  ∃v' p' w',(Instr.makeMap t c).run P w=.ok v' w'/\Ab p' v v'/\Ext p h w p' h' w':=by
 unfold II at a;split at a
 case h_2=>cases a
 cases a;subst f;have d:=Ext.push (n:=0) b (o:=.map [] 0) (x:=.map #[] 0) ⟨#[],rfl,.nil⟩;refine⟨.map<|some w.heap.size,_,_,?_,?_,d⟩
 ·rfl
 ·exact⟨w.heap.size,0,by rw[<-b.len];simp,rfl⟩
def fP(T:BX)(c:TypeId)(a b:V):Option Bool:=
 match T.und c,a,b with
 |some (.int _),.int k x,.int d y=>if k=d then some (x==y)else none
 |some .string,.str x,.str y=>some<|x==y
 |some .bool,.bool x,.bool y=>some<|x==y
 |_,_,_=>none
def K3(T:BX)(b:TypeId)(k:V):List (V×V×Nat)->Nat->Option (Option<|Nat×V)
 |[],_=>some none
 |(a,v,_)::es,i=>
  match fP T b k a with
  |some true=>some<|some (i,v)
  |some false=>K3 T b k es<|i+1
  |none=>none
def plainKey:V->Bool
 | .int .. | .str _| .bool _=>true
 |_=>false
theorem bytes_beq(x y:ByteArray):(x==y)=(x.data==y.data):=rfl
theorem Xw{m:TypeId}{a b:V}{g b':Value}(l:Ab p a g)(o:Ab p b b'){r:Bool}(f:fP T m a b=some r){d:TypeDesc}(k:T.und m=some d):
  yo d g b'=some r/\(r=true->g=b'):=by
 unfold fP at f;split at f
 case h_1=>
  grind [Ab,yo]
 case h_2=>
  rename_i c;rw[k]at c;simp only[Ab]at l o;cases f;simp_all [yo,bytes_beq,bytesOf]
 case h_3=>
  rename_i c;rw[k]at c;cases c;subst l o;cases f;exact⟨rfl,(by simp)⟩
 grind
theorem cW{m:TypeId}{k:V}{f:Value}(x:Ab p k f){d:TypeDesc}(o:T.und m=some d):
  ∀ {es:List (V×V×Nat)} {l:List MapEntry},Dx p es l->∀ {i:Nat} {r:Option (Nat×V)},K3 T m k es i=some r->
  ∃g,yk d f l i=some g/\(match r with|none=>g=none|some (j,v)=>∃v',g=some (j,v')/\Ab p v v'/\i<=j/\∃e,l[j-i]?=some e/\e.key=f):=by
 intro es l s;induction s with
 |nil=>intro i r c;simp only[K3,ze]at c;subst c;exact⟨none,rfl,rfl⟩
 |@cons a v b es e l q y C _ B=>
  intro i r c;unfold K3 at c;split at c
  case h_1=>
   rename_i u;cases c;obtain⟨D,A⟩:=Xw x q u o;simp_all [yk]
  case h_2=>
   grind [Xw,yk]
  grind
theorem run_checkKey{k:V}{c:Value}(q:Ab p k c)(f:plainKey k=true)(g:T.Ok P){a:TypeId}{d:TypeDesc}(m:T.und a=some d)(o:Ea d=false)(r:∀l,d≠ .interface l)(b:Bool):
  (ym b 10000 a c).run P w=.ok () w:=by
 unfold ym;rw[zd,Ax g m];cases k<;>simp only[plainKey]at f<;>simp only[Ab]at q
 case bool|int|str=>
  cases d<;>first|rfl|(cases o;done)|grind
 all_goals cases f
def lE:TypeDesc->Bool
 | .int _| .string| .bool=>true
 |_=>false
theorem Zx{d:TypeDesc}(h:lE d=true):Ea d=false/\∀a,d≠ .interface a:=by
 cases d<;>first|(cases h;done)|exact⟨rfl,fun a e=>by cases e⟩
theorem Qa{k:V}{a:Value}(c:Ab p k a)(b:plainKey k=true):zx 10000 a a=true:=by
 cases k<;>simp only[plainKey]at b<;>simp only[Ab]at c
 case bool=>grind [zx]
 case int=>grind [zx]
 case str=>grind [zx,bytes_beq]
 all_goals cases b
theorem TB{a b:V}{c b':Value}(d:Ab p a c)(f:Ab p b b')(h:Eb a b=some true):c=b':=by
 unfold Eb at h;grind [Ab]
theorem Lj:∀ {d f:List V} {x y:List Value},Ar p d x->Ar p f y->BM d f=some true->x=y
 |[],[],x,y,c,g,_=>by simp_all
 |[],_::_,_,_,_,_,h=>by simp[BM]at h
 |_::_,[],_,_,_,_,h=>by simp[BM]at h
 |a::m,b::q,x,y,c,g,h=>by
  obtain⟨u,r,rfl,o,k⟩:=c;obtain⟨v,vs,rfl,h3,h4⟩:=g;unfold BM at h;split at h
  case h_1=>
   rename_i l;rw[TB o h3 l,Lj k h4 h]
  case h_2=>grind
  grind
theorem Tt:∀ {ks:List FK} {d:List V} {x:List Value},fit ks d=true->Ar p d x->(x.zip x).all (fun(a,b)=>zx 9999 a b)=true
 |[],[],x,_,c=>by simp_all
 |[],_::_,_,h,_=>by simp[fit]at h
 |_::_,[],_,h,_=>by simp_all
 |k::ks,v::vs,x,h,c=>by
  obtain⟨u,m,rfl,o,g⟩:=c;unfold fit at h;cases f:k.ok v with
  |false=>grind
  |true=>
   simp only[f,we]at h;have l:=Tt h g;simp only[List.zip_cons_cons,List.all_cons,l,Bool.and_true];unfold FK.ok at f;grind [Ab,zx,bytes_beq]
def ON(ks:List FK)(k:List V):List (V×V×Nat)->Nat->Option (Option<|Nat×V)
 |[],_=>some none
 |(a,v,_)::es,i=>
  match a with
  | .agg b=>match O7 (some ks) k b with
   |some true=>some<|some (i,v)
   |some false=>ON ks k es<|i+1
   |none=>none
  |_=>none
def IL(T:BX)(a:TypeId)(d:TypeDesc)(k:V):Bool:=
 match k with
 | .agg b=>match T.flat a with
  |some ks=>fit ks b
  |none=>false
 |k=>plainKey k&&lE d
def Ka(T:BX)(a:TypeId)(k:V)(es:List (V×V×Nat)):Option (Option<|Nat×V):=
 match k with
 | .agg b=>match T.flat a with
  |some ks=>ON ks b es 0
  |none=>none
 |k=>K3 T a k es 0
theorem Pm(u:T.Ok P){k:TypeId}{ks:List FK}(C:T.flat k=some ks){f:List V}{x:Array Value}(B:Ar p f x.toList):
  ∀ {es:List (V×V×Nat)} {l:List MapEntry},Dx p es l->∀ {i:Nat} {r:Option (Nat×V)},ON ks f es i=some r->
  ∃d,(yi k (.agg x) l i).run P w=.ok d w/\(match r with|none=>d=none|some (j,v)=>∃v',d=some (j,v')/\Ab p v v'/\i<=j/\∃e,l[j-i]?=some e/\e.key=.agg x):=by
 intro es l E;induction E with
 |nil=>intro i r c;simp only[ON,ze]at c;subst c;exact⟨none,rfl,rfl⟩
 |@cons a v b es e l g F J _ G=>
  intro i r c;unfold ON at c;split at c
  case h_2=>cases c
  rename_i A;obtain⟨y,D,g⟩:=g;split at c
  case h_3=>cases c
  case h_1=>
   rename_i s;cases c;obtain⟨l',e1,o,q,m⟩:=HB s;cases e1;refine⟨some (i,e.val),?_,e.val,rfl,F,zg _,e,by simp,?_⟩
   ·simp only[yi,zd,D,u.flat k ks C p f A x y true w o q B g m,zc,wm,zf]
   grind [Lj,Array.toList_inj]
  case h_2=>
   rename_i s;obtain⟨l',e1,o,q,m⟩:=HB s;cases e1;obtain⟨d,k1,k2⟩:=G c;refine⟨d,?_,?_⟩
   ·simp only[yi,zd,D,u.flat k ks C p f A x y false w o q B g m,zc,zp,vf];exact k1
   ·cases r with
    |none=>exact k2
    |some I=>
     grind
theorem Ja(g:T.Ok P){c:TypeId}{d:TypeDesc}(r:T.und c=some d){k:V}{f:Value}(q:Ab p k f)(a:IL T c d k=true)(b:Bool):
  (ym b 10000 c f).run P w=.ok () w:=by
 unfold IL at a;split at a
 case h_1=>
  rename_i o;split at a
  case h_2=>cases a
  rename_i ks m;obtain⟨x,rfl,l⟩:=q;exact g.key c ks m p o x b w a l
 case h_2=>
  grind [Zx,run_checkKey]
theorem WB{c:TypeId}{d:TypeDesc}{k:V}{b:Value}(g:Ab p k b)(a:IL T c d k=true):zx 10000 b b=true:=by
 unfold IL at a;split at a
 case h_1=>
  split at a
  case h_2=>cases a
  obtain⟨x,rfl,f⟩:=g;have:=Tt a f;simp_all [zx]
 case h_2=>
  grind [Qa]
def entries(h:H)(m:V):Option (List<|V×V×Nat):=
 match m with
 | .nilm=>some []
 | .map b=>match h.get b with
  |some (.map es _)=>some es
  |_=>none
 |_=>none
def EE(T:BX)(h:H)(t:TypeId)(m k:V)(ok:Bool):Option V:=
 match T.und t with
 |some (.map a e)=>
  match T.und a,entries h m with
  |some d,some es=>
   bif IL T a d k then
    match Ka T a k es with
    |some (some (_,v))=>some<|bif ok then .tup [v,.bool true]else v
    |some none=>match T.inf e with
     |some i=>some<|bif ok then .tup [i.zv,.bool false]else i.zv
     |none=>none
    |none=>none
   else none
  |_,_=>none
 |_=>none
theorem Mi(f:R p h w){m:V}{d:Value}(q:Ab p m d){es:List (V×V×Nat)}(a:entries h m=some es):
  (d=.map none/\es=[])\/∃r l c b n,m=.map b/\d=.map (some r)/\p[b]?=some (r,n)/\h.get b=some (.map es c)/\w.heap[r]?=some (.map l c)/\Dx p es l.toList:=by
 unfold entries at a;split at a
 case h_1=>simp_all [Ab]
 case h_2=>
  simp only[Ab]at q;split at a
  case h_2=>cases a
  rename_i k c g;obtain⟨u,n',o,y,s,l,x,v⟩:=f.obj _ _ g;grind
 grind
theorem run_findKey(f:T.Ok P){b:TypeId}{k:V}{m:Value}(y:Ab p k m){d:TypeDesc}(g:T.und b=some d){es:List (V×V×Nat)}{l:List MapEntry}(q:Dx p es l)
  {r:Option (Nat×V)} (c:Ka T b k es=some r):
  ∃a,(yp b m l).run P w=.ok a w/\(match r with|none=>a=none|some (j,v)=>∃v',a=some (j,v')/\Ab p v v'/\∃e,l[j]?=some e/\e.key=m):=by
 by_cases o:∃u,k=.agg u
 ·obtain⟨u,rfl⟩:=o;simp only[Ka]at c;cases s:T.flat b with
  |none=>grind
  |some ks=>
   simp only[s]at c;obtain⟨x,rfl,C⟩:=y;obtain⟨a,A,D⟩:=Pm (P:=P) (w:=w) f s C q c;refine⟨a,?_,?_⟩
   ·unfold yp;simp only[zd,Ax f g,zc];cases l with
    |nil=>grind [yk,yi]
    |cons e l=>grind [yk,yo]
   grind
 ·have B:Ka T b k es=K3 T b k es 0:=by cases k<;>first|rfl|grind
  rw[B]at c;obtain⟨a,A,D⟩:=cW y g q c;refine⟨a,?_,?_⟩
  ·unfold yp;simp only[zd,Ax f g,zc,A,zf]
  grind
theorem VW(f:T.Ok P)(G:R p h w){t:TypeId}{m k:V}{A q:Value}{ok:Bool}(K:Ab p m A)(s:Ab p k q){v:V}(a:EE T h t m k ok=some v):
  ∃v',(yu t A q ok).run P w=.ok v' w/\Ab p v v':=by
 unfold EE at a;split at a
 case h_2=>cases a
 rename_i D e C;split at a
 case h_2=>cases a
 rename_i d es c u;cases B:IL T D d k with
 |false=>grind
 |true=>
  simp only[B,we]at a;obtain⟨l,o,g⟩:∃l:List MapEntry,Dx p es l/\(yu t A q ok).run P w=((yp D q l).run P w).andThen fun r w'=>
    match r with
    |some (_,v)=>.ok (if ok then .tuple #[v,.bool true]else v) w'
    |none=>((zeroValue e).run P w').andThen fun z w'=>.ok (if ok then .tuple #[z,.bool false]else z) w':=by
   rcases Mi G K u with⟨rfl,rfl⟩|⟨r,l,O,b,n,rfl,rfl,Q,M,I,F⟩
   ·refine⟨[],.nil,?_⟩;unfold yu;simp only[zd,Ax f C,zc,zf,Ja f c s B];congr 1;funext r w'
    cases r<;>simp
   ·refine⟨l.toList,F,?_⟩;unfold yu;simp only[zd,Ax f C,zc,zf,Ja f c s B,getObj,yw,I];congr 1;funext r w'
    cases r<;>simp
  rw[g];split at a
  case h_3=>cases a
  case h_1=>
   rename_i j v0 y;cases a;obtain⟨J,x,v',rfl,N,_⟩:=run_findKey (P:=P) (w:=w) f s c o y;simp only[x,zc];cases ok
   ·grind
   simp_all [Ab]
  case h_2=>
   rename_i y;split at a
   case h_2=>cases a
   rename_i i L;cases a;obtain⟨J,x,E⟩:=run_findKey (P:=P) (w:=w) f s c o y;subst E;obtain⟨z,hz,hzr⟩:=vC f L;simp only[x,zc,hz];cases ok
   ·grind
   simp_all [Ab]
def Vx(es:List (V×V×Nat))(i:Nat)(k v:V):List (V×V×Nat):=es.modify i fun e=>(k,v,e.2.2)
theorem Dx.modify{es:List (V×V×Nat)}{l:List MapEntry}(f:Dx p es l){k v:V}{c v':Value}(m:Ab p k c)(r:Ab p v v')(i:Nat):
  Dx p (Vx es i k v) (l.modify i fun e=>{ e with key:=c,val:=v' }):=by
 unfold Vx;induction f generalizing i with
 |nil=>simp;exact .nil
 |@cons a x b es e l s g d o q=>
  cases i with
  |zero=>simp;exact .cons m r d o
  |succ i=>simp;exact .cons s g d<|q i
theorem Dx.snoc{es:List (V×V×Nat)}{l:List MapEntry}(a:Dx p es l){k v:V}{e:MapEntry}(d:Ab p k e.key)(f:Ab p v e.val):Dx p (es++[(k,v,e.born)]) (l++[e]):=by
 induction a with
 |nil=>exact .cons d f rfl .nil
 |cons m c g _ b=>exact .cons m c g b
def Hf(T:BX)(h:H)(t:TypeId)(m k v:V):Option H:=
 match T.und t,m with
 |some (.map a _),.map b=>
  match T.und a,h.get b with
  |some d,some (.map es c)=>
   bif IL T a d k then
    match Ka T a k es with
    |some (some (i,_))=>some<|h.put b<|.map (Vx es i k v) c
    |some none=>some<|h.put b<|.map (es++[(k,v,c)])<|c+1
    |none=>none
   else none
  |_,_=>none
 |_,_=>none
theorem V2(s:T.Ok P)(A:R p h w){t:TypeId}{m k v:V}{J g v':Value}(I:Ab p m J)(f:Ab p k g)(G:Ab p v v'){h':H}(a:Hf T h t m k v=some h'):
  ∃w',(Instr.mapUpdate t J g v').run P w=.ok () w'/\Ext p h w p h' w':=by
 unfold Hf at a;split at a
 case h_2=>cases a
 rename_i O e b M;split at a
 case h_2=>cases a
 rename_i d es y c x;cases E:IL T O d k with
 |false=>grind
 |true=>
  simp only[E,we]at a;rcases Mi (es:=es) A I (by simp only[entries,x])with⟨rfl,_⟩|⟨r,l,L,b',n,e1,rfl,F,o,C,u⟩
  ·simp[Ab]at I
  ·cases e1;rw[x]at o;cases o;unfold Instr.mapUpdate;simp only[zd,Ax s M,zc,Ja s c f E,getObj,yw,C];split at a
   case h_3=>cases a
   case h_1=>
    rename_i j v0 D;cases a;obtain⟨N,B,v1,rfl,U,Q,W,S⟩:=run_findKey (P:=P) (w:=w) s f c u D;simp only[B,zc];have q:(l[j]?.map (·.key)).getD g=g:=by
     grind
    rw[q];unfold Instr.keyThatStays;simp only[WB f E,wm,zd,zf,zc,setObj,yw,C];refine⟨_,rfl,Ext.put A x F (o':=.map (Vx es j k v) y) ⟨_,rfl,?_⟩ rfl rfl rfl rfl⟩;have:=u.modify f G j;grind
   case h_2=>
    rename_i D;cases a;obtain⟨N,B,K⟩:=run_findKey (P:=P) (w:=w) s f c u D;subst K;simp only[B,zc,setObj,yw,C];refine⟨_,rfl,Ext.put A x F (o':=.map (es++[(k,v,y)])<|y+1) ⟨_,rfl,?_⟩ rfl rfl rfl rfl⟩;have:=u.snoc (e:={ key:=g,val:=v',born:=y }) f G;grind
end
end Go.Det
