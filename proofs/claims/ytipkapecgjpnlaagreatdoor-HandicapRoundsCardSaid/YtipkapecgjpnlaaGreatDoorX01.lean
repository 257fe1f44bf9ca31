import Derived.Scope
import Derived.Laws.Sem
import Derived.KernelRfl
import Derived.Laws.Strings
import Derived.IntWalk
/- A part of a proof; no law is stated here. -/
abbrev Y:=List UInt8
abbrev w4:=@decide_eq_true
abbrev w5:=@decide_eq_true_eq
abbrev w6:=@of_decide_eq_true
abbrev w7:=@of_decide_eq_false
abbrev w8:=@decide_eq_false
abbrev w9:=@decide_eq_false_iff_not
abbrev wa:=@if_neg
abbrev wb:=@if_pos
abbrev wc:=@cond_true
abbrev wd:=@cond_false
abbrev we:=@absurd
abbrev wg:=@congrArg
abbrev wh:=@beq_iff_eq
abbrev wi:=@if_true
abbrev wk:=@ne_eq
abbrev wm:=@beq_eq_false_iff_ne
abbrev va:=@and_true
abbrev vb:=@if_false
noncomputable section
open Go.Result renaming andThen_ok -> Za
open Go.Sem renaming run_bind -> Zb, run_pure -> Zd, run -> ZS
open Option.some renaming injEq -> Zc
open Nat renaming le_refl -> Ze, beq -> Zf, ble -> Zi, mul_le_mul_right -> Zv, blt -> Zx, ble_eq -> Zy, le_trans -> ZO
open Option renaming map_eq_some_iff -> Zg
open Go.Value renaming cells -> Zh
open Go.Builtin renaming firstCells -> Zj, zeroCells -> Zm, append_ -> Zr, nextslicecap -> Zw, lenOf -> ZH
open List renaming getElem?_eq_some_iff -> Zk, getElem?_take_of_lt -> Zo, getElem?_cons_zero -> ZB, getElem?_cons_succ -> ZC, getElem?_toArray -> ZF, rec -> ZN
open Bool renaming and_eq_true -> Zl, false_eq_true -> Zn, or_eq_true -> ZR
open Go.Instr renaming sliceAt -> Zp, sliceBounds -> Zq, sameBits -> Zt, sureAddr -> ZD, findAsking -> ZG, findNow -> ZI, checkKey -> ZJ, slice -> ZK, sameNow -> ZL, findKey -> ZM, lookup -> ZQ
open Prod.mk renaming injEq -> Zs
open Int renaming ofNat_eq_natCast -> Zu, toNat_natCast -> ZA
open BitVec renaming ofInt -> Zz
open Array renaming getElem?_toList -> ZE
open Go.Op renaming bytesLess -> ZP, equal -> ZT
theorem a8{p:Prop}(h:p:=by omega):p:=h
theorem aa{p:Prop}(h:p:=by decide):p:=h
theorem ac{p:Prop}(h:p:=by kernel_rfl):p:=h
theorem ae{p:Prop}(h:p:=by grind):p:=h
namespace Go.Det
section
inductive PM (α:Type) where
 |leaf
 |node (l:PM α) (v:Option α) (r:PM α)
inductive Dx where
 |here
 |l (p:Dx)
 |r (p:Dx)
variable {α:Type}
def T7(f:Nat):Nat->Dx:=
 @Nat.rec (fun _=>Nat->Dx) (fun _=>.here) (fun _ a i=>bif Zf i 0 then .here else bif Zf (Nat.mod i 2) 1 then .l (a<|Nat.div i 2)else .r<|a<|Nat.sub (Nat.div i 2) 1) f
def W9(i:Nat):Dx:=T7 i i
def Dx.get(p:Dx):PM α->Option α:=
 @Dx.rec (fun _=>PM α->Option α)
  (fun m=>@PM.rec α (fun _=>Option α) none (fun _ v _ _ _=>v) m)
  (fun _ a m=>@PM.rec α (fun _=>Option α) none (fun l _ _ _ _=>a l) m)
  (fun _ a m=>@PM.rec α (fun _=>Option α) none (fun _ _ r _ _=>a r) m) p
def Dx.set(p:Dx):PM α->Option α->PM α:=
 @Dx.rec (fun _=>PM α->Option α->PM α)
  (fun m v=>@PM.rec α (fun _=>PM α) (.node .leaf v .leaf) (fun l _ r _ _=>.node l v r) m)
  (fun _ a m v=>@PM.rec α (fun _=>PM α) (.node (a .leaf v) none .leaf) (fun l x r _ _=>.node (a l v) x r) m)
  (fun _ a m v=>@PM.rec α (fun _=>PM α) (.node .leaf none<|a .leaf v) (fun l x r _ _=>.node l x<|a r v) m) p
def PM.get(m:PM α)(i:Nat):Option α:=(W9 i).get m
def PM.set(m:PM α)(i:Nat)(v:Option α):PM α:=(W9 i).set m v
theorem Aw(a b:Nat):Zf a b=decide (a=b):=by
 by_cases h:a=b
 ·simp_all
 grind [Nat.eq_of_beq_eq_true]
def Dx.num:Dx->Nat
 | .here=>0
 | .l p=>2*p.num+1
 | .r p=>2*(p.num+1)
theorem HY:∀(f i:Nat),i<=f->(T7 f i).num=i
 |0,i,h=>by cases a8;rfl
 |f+1,i,h=>by
  show Dx.num (bif Zf i 0 then .here else bif Zf (i % 2) 1 then .l (T7 f<|i/2)else .r<|T7 f<|i/2-1)=i;simp only[Aw];by_cases h0:i=0
  ·subst h0;rfl
  ·by_cases a:i % 2=1
   ·simp only[h0,a,decide_false,decide_true,wd,wc,Dx.num];rw[HY f (i/2) a8];omega
   ·simp only[h0,a,decide_false,wd,Dx.num];rw[HY f (i/2-1) a8];omega
theorem TW{i j:Nat}(h:W9 i=W9 j):i=j:=by
 have:=wg Dx.num h;unfold W9 at this;simp_all [HY]
theorem Dx.Bs(p:Dx):p.get (.leaf:PM α)=none:=by cases p<;>rfl
theorem Dx.get_set_same:∀(p:Dx) (m:PM α) (v:Option α),p.get (p.set m v)=v
 | .here,m,v=>by cases m<;>rfl
 | .l p,m,v=>by
  cases m with
  |leaf=>exact Dx.get_set_same p .leaf v
  |node l x r=>exact Dx.get_set_same p l v
 | .r p,m,v=>by
  cases m with
  |leaf=>exact Dx.get_set_same p .leaf v
  |node l x r=>exact Dx.get_set_same p r v
theorem Dx.C0:∀(p q:Dx) (m:PM α) (v:Option α),q≠p->q.get (p.set m v)=q.get m
 | .here,.here,m,v,h=>we rfl h
 | .here,.l q,m,v,_=>by
  cases m with
  |leaf=>exact q.Bs
  |node l x r=>rfl
 | .here,.r q,m,v,_=>by
  cases m with
  |leaf=>exact q.Bs
  |node l x r=>rfl
 | .l p,.here,m,v,_=>by cases m<;>rfl
 | .r p,.here,m,v,_=>by cases m<;>rfl
 | .l p,.r q,m,v,_=>by
  cases m with
  |leaf=>exact q.Bs
  |node l x r=>rfl
 | .r p,.l q,m,v,_=>by
  cases m with
  |leaf=>exact q.Bs
  |node l x r=>rfl
 | .l p,.l q,m,v,h=>by
  have h':q≠p:=ae;cases m with
  |leaf=>exact(Dx.C0 p q .leaf v h').trans q.Bs
  |node l x r=>exact Dx.C0 p q l v h'
 | .r p,.r q,m,v,h=>by
  have h':q≠p:=ae;cases m with
  |leaf=>exact(Dx.C0 p q .leaf v h').trans q.Bs
  |node l x r=>exact Dx.C0 p q r v h'
@[simp] theorem PM.Bd(m:PM α)(i:Nat)(v:Option α)(j:Nat):(m.set i v).get j=if j=i then v else m.get j:=by
 unfold PM.get PM.set;by_cases e:j=i
 ·simp_all [Dx.get_set_same]
 ·grind [Dx.C0,TW]
@[simp] theorem PM.Bs(j:Nat):(PM.leaf:PM α).get j=none:=Dx.Bs _
def CL(l:List α):Nat:=@ZN α (fun _=>Nat) 0 (fun _ _ a=>Nat.add a 1) l
theorem BK(l:List α):CL l=l.length:=by
 induction l with
 |nil=>rfl
 |cons a l b=>simp_all [CL]
def Fl(n:Nat):List α->List α:=
 @Nat.rec (fun _=>List α->List α) (fun l=>l) (fun _ a l=>@ZN α (fun _=>List α) [] (fun _ b _=>a b) l) n
theorem Iq:∀(n:Nat) (l:List α),Fl n l=l.drop n
 |0,_l=>rfl
 |_n+1,[]=>rfl
 |n+1,_a::l=>Iq n l
def Oc(n:Nat):List α->List α:=
 @Nat.rec (fun _=>List α->List α) (fun _=>[]) (fun _ b l=>@ZN α (fun _=>List α) [] (fun a c _=>a::b c) l) n
theorem I1:∀(n:Nat) (l:List α),Oc n l=l.take n
 |0,_l=>rfl
 |_n+1,[]=>rfl
 |n+1,a::l=>wg (a:: ·)<|I1 n l
def Fo(vs:List α):List α->List α:=
 @ZN α (fun _=>List α->List α) (fun l=>l) (fun v _ a l=>@ZN α (fun _=>List α) [] (fun _ b _=>v::a b) l) vs
def A1(n:Nat)(vs:List α):List α->List α:=
 @Nat.rec (fun _=>List α->List α) (fun l=>Fo vs l) (fun _ b l=>@ZN α (fun _=>List α) [] (fun a c _=>a::b c) l) n
def Gg(f:α->Bool)(l:List α):Bool:=@ZN α (fun _=>Bool) true (fun a _ b=>bif f a then b else false) l
theorem CQ(f:α->Bool):∀l:List α,Gg f l=l.all f
 |[]=>rfl
 |a::l=>by
  show(bif f a then Gg f l else false)=_;rw[CQ f l,List.all_cons];simp
inductive V where
 |bool (b:Bool)
 |int (k:IntKind) (n:Int)
 |str (s:Y)
 |nilp
 |ptr (b off:Nat)
 |nils
 |sl (b off len cap o:Nat)
 |esl
 |es0
 |junk
 |nilm
 |map (b:Nat)
 |fn (f:Fn) (first captured:List V)
 |yld (b:Nat)
 |nilf
 |iface (t:TypeId) (v:V)
 |nili
 |agg (cs:List V)
 |tup (vs:List V)
 deriving Inhabited
abbrev Pl:=List<|Nat×Nat
def bytesOf(s:Y):ByteArray:=⟨s.toArray⟩
mutual
def Aa(p:Pl):V->Value->Prop
 | .bool b,v=>v=.bool b
 | .int k n,v=>v=.int k n
 | .str s,v=>v=.string (bytesOf s)
 | .nilp,v=>v=.pointer none
 | .ptr b off,v=>∃r n,p[b]?=some (r,n)/\v=.pointer (some ⟨r,off,none⟩)
 | .nils,v=>v=.slice none 0 0
 | .sl b off len cap o,v=>∃r n c,p[b]?=some (r,n)/\v=.slice (some ⟨r,off,none⟩) len c/\len<=cap/\cap<=c/\(o=0->c=cap)/\(o≠0->off+c*o<=n)
 | .esl,v=>∃a c,v=.slice (some a) 0 c
 | .es0,v=>∃a,v=.slice (some a) 0 0
 | .junk,_=>False
 | .nilm,v=>v=.map none
 | .map b,v=>∃r n,p[b]?=some (r,n)/\v=.map (some r)
 | .fn f first captured,v=>∃x y,v=.func f x y/\Ac p first x.toList/\Ac p captured y.toList
 | .yld b,v=>∃r n,p[b]?=some (r,n)/\v=.func (.yield r) #[] #[]
 | .nilf,v=>v=.nilFunc
 | .iface t x,v=>∃y,v=.iface t y/\Aa p x y
 | .nili,v=>v=.nilIface
 | .agg cs,v=>∃x,v=.agg x/\Ac p cs x.toList
 | .tup cs,v=>∃x,v=.tuple x/\Ac p cs x.toList
def Ac(p:Pl):List V->List Value->Prop
 |[],l=>l=[]
 |d::ds,l=>∃v vs,l=v::vs/\Aa p d v/\Ac p ds vs
end
@[simp] theorem E9(p:Pl)(l:List Value):Ac p [] l↔l=[]:=by rfl
@[simp] theorem Au(p:Pl)(d:V)(ds:List V)(v:Value)(vs:List Value):Ac p (d::ds) (v::vs)↔Aa p d v/\Ac p ds vs:=by
 simp only[Ac];grind
@[simp] theorem RN(p:Pl)(d:V)(ds:List V):¬Ac p (d::ds) []:=by
 simp[Ac]
theorem Ac.length{p:Pl}:∀ {ds:List V} {vs:List Value},Ac p ds vs->ds.length=vs.length
 |[],vs,h=>by simp_all
 |d::ds,[],h=>by simp at h
 |d::ds,v::vs,h=>by simp at h;simp[h.2.length]
theorem Ac.get{p:Pl}:∀ {ds:List V} {vs:List Value},Ac p ds vs->∀ {i:Nat} {d:V},ds[i]?=some d->∃v,vs[i]?=some v/\Aa p d v
 |[],vs,_,i,d,a=>by grind
 |d::ds,[],h,_,_,_=>by simp at h
 |d::ds,v::vs,h,i,x,a=>by
  simp at h;cases i with
  |zero=>grind
  |succ i=>simpa using h.2.get a
theorem Ac.mk{p:Pl}:∀ {ds:List V} {vs:List Value},ds.length=vs.length->(∀(i:Nat) d v,ds[i]?=some d->vs[i]?=some v->Aa p d v)->Ac p ds vs
 |[],[],_,_=>by simp
 |[],_::_,h,_=>by simp at h
 |_::_,[],h,_=>by simp at h
 |d::ds,v::vs,h,a=>by
  simp at h;rw[Au];exact⟨a 0 d v rfl rfl,Ac.mk h<|fun i b v' c f=>a (i+1) b v' ae ae⟩
theorem Ac.append{p:Pl}:∀ {a:List V} {x:List Value} {b:List V} {y:List Value},Ac p a x->Ac p b y->Ac p (a++b) (x++y)
 |[],x,b,y,h,h'=>by simp_all
 |d::ds,[],_,_,h,_=>by simp at h
 |d::ds,v::vs,b,y,h,h'=>by simp at h;simp[h.1,h.2.append h']
theorem Ac.take{p:Pl}:∀ {a:List V} {x:List Value} (n:Nat),Ac p a x->Ac p (a.take n) (x.take n)
 |[],x,n,h=>by simp_all
 |d::ds,[],_,h=>by simp at h
 |d::ds,v::vs,0,h=>by simp
 |d::ds,v::vs,n+1,h=>by simp at h;simp[h.1,h.2.take n]
theorem Ac.drop{p:Pl}:∀ {a:List V} {x:List Value} (n:Nat),Ac p a x->Ac p (a.drop n) (x.drop n)
 |[],x,n,h=>by simp_all
 |d::ds,[],_,h=>by simp at h
 |d::ds,v::vs,0,h=>by grind
 |d::ds,v::vs,n+1,h=>by simp at h;simpa using h.2.drop n
theorem Ac.set{p:Pl}:∀ {a:List V} {x:List Value} (i:Nat) {d:V} {v:Value},Ac p a x->Aa p d v->Ac p (a.set i d) (x.set i v)
 |[],x,n,_,_,h,_=>by simp_all
 |d::ds,[],_,_,_,h,_=>by simp at h
 |d::ds,v::vs,0,_,_,h,h'=>by simp_all
 |d::ds,v::vs,n+1,_,_,h,h'=>by simp at h;simp[h.1,h.2.set n h']
mutual
theorem Aa.mono{p:Pl}(q:Pl):∀ {d:V} {v:Value},Aa p d v->Aa (p++q) d v
 | .bool _,_,h=>by simpa [Aa]using h
 | .int _ _,_,h=>by simpa [Aa]using h
 | .str _,_,h=>by simpa [Aa]using h
 | .nilp,_,h=>by simpa [Aa]using h
 | .ptr b off,v,h=>by
  grind [Aa]
 | .nils,_,h=>by simpa [Aa]using h
 | .sl b off len cap o,v,h=>by
  grind [Aa]
 | .esl,_,h=>by simpa [Aa]using h
 | .es0,_,h=>by simpa [Aa]using h
 | .junk,_,h=>by simp[Aa]at h
 | .nilm,_,h=>by simpa [Aa]using h
 | .map b,v,h=>by
  grind [Aa]
 | .fn f a b,v,h=>by
  obtain⟨x,y,rfl,c,g⟩:=h;exact⟨x,y,rfl,Ac.mono q c,Ac.mono q g⟩
 | .yld b,v,h=>by
  grind [Aa]
 | .nilf,_,h=>by simpa [Aa]using h
 | .iface t x,v,h=>by
  simp only[Aa]at h ⊢;obtain⟨y,rfl,c⟩:=h;simp_all [Aa.mono]
 | .nili,_,h=>by simpa [Aa]using h
 | .agg cs,v,h=>by
  simp only[Aa]at h ⊢;obtain⟨x,rfl,c⟩:=h;simp_all [Ac.mono]
 | .tup cs,v,h=>by
  simp only[Aa]at h ⊢;obtain⟨x,rfl,c⟩:=h;simp_all [Ac.mono]
theorem Ac.mono{p:Pl}(q:Pl):∀ {ds:List V} {vs:List Value},Ac p ds vs->Ac (p++q) ds vs
 |[],_,h=>by simp_all
 |_::_,[],h=>by simp at h
 |d::ds,v::vs,h=>by simp only[Au]at h ⊢;exact⟨Aa.mono q h.1,Ac.mono q h.2⟩
end
structure Fr where
 n:Nat
 m:PM V
def Fr.get(f:Fr)(t:Nat):V:=(f.m.get t).getD<|.tup []
def Fr.put(f:Fr)(d:Option Nat)(v:V):Option Fr:=
 match d with
 |none=>some f
 |some t=>bif Zx t f.n then some ⟨f.n,f.m.set t<|some v⟩else none
def Ce(p:Pl)(f:Fr)(tmps:Array Value):Prop:=f.n=tmps.size/\∀t,Aa p (f.get t)<|tmps.getD t undef
def A3(p:Pl)(f:Fr)(a:Act):Prop:=f.n=a.tmps.size/\∀t,Aa p (f.get t)<|a.tmps.getD t undef
theorem Ce.mono{p:Pl}(q:Pl){f:Fr}{tmps:Array Value}(h:Ce p f tmps):Ce (p++q) f tmps:=⟨h.1,fun t=>(h.2 t).mono q⟩
structure LS where
 st:LoopState
 pend:Option Code
 fr:Fr
 ps:Array Tmp
 asg:Code
 body:Code
 db:Nat
inductive O where
 |cells (cs:List V) (elem:TypeId) (fz:Nat×Nat)
 |map (es:List (V×V×Nat)) (clock:Nat)
 |siter (s:Y) (pos:Nat)
 |miter (b:Option Nat) (since:Nat) (seen:List Nat) (last:Nat)
 |loop (l:LS)
 |defd (open_:Bool)
structure H where
 m:PM O
 nx:Nat
def H.get(h:H)(b:Nat):Option O:=h.m.get b
def H.push(h:H)(o:O):H:=⟨h.m.set h.nx<|some o,h.nx+1⟩
def H.put(h:H)(b:Nat)(o:O):H:=⟨h.m.set b<|some o,h.nx⟩
def H.kill(h:H)(b:Nat):H:=⟨h.m.set b none,h.nx⟩
@[simp] theorem H.A6(h:H)(o:O)(b:Nat):(h.push o).get b=if b=h.nx then some o else h.get b:=by simp[H.push,H.get]
@[simp] theorem H.A8(h:H)(b:Nat)(o:O)(j:Nat):(h.put b o).get j=if j=b then some o else h.get j:=by simp[H.put,H.get]
@[simp] theorem H.BI(h:H)(b:Nat)(j:Nat):(h.kill b).get j=if j=b then none else h.get j:=by simp[H.kill,H.get]
@[simp] theorem H.XI(h:H)(o:O):(h.push o).nx=h.nx+1:=rfl
@[simp] theorem H.Ya(h:H)(b:Nat)(o:O):(h.put b o).nx=h.nx:=rfl
@[simp] theorem H.OC(h:H)(b:Nat):(h.kill b).nx=h.nx:=rfl
inductive BE (p:Pl):List (V×V×Nat)->List MapEntry->Prop
 |nil:BE p [] []
 |cons {k v:V} {b:Nat} {es:List (V×V×Nat)} {e:MapEntry} {l:List MapEntry}:Aa p k e.key->Aa p v e.val->e.born=b->BE p es l->BE p ((k,v,b)::es) (e::l)
def V.ok:V->Bool
 | .junk=>false
 |_=>true
def B7(p:Pl)(cs:List V)(vs:List Value):Prop:=cs.length=vs.length/\∀(i:Nat) d v,cs[i]?=some d->vs[i]?=some v->d.ok=true->Aa p d v
theorem Ac.WK{p:Pl}{cs:List V}{vs:List Value}(h:Ac p cs vs):B7 p cs vs:=⟨h.length,fun i d v a f _=>by
 obtain⟨u,c,b⟩:=h.get a;grind⟩
theorem B7.get{p:Pl}{cs:List V}{vs:List Value}(h:B7 p cs vs){i:Nat}{d:V}(a:cs[i]?=some d)(b:d.ok=true):∃v,vs[i]?=some v/\Aa p d v:=by
 have c:i<vs.length:=by rw[<-h.1];grind
 exact⟨vs[i],(by simp),h.2 i d _ a (by simp) b⟩
theorem B7.drop{p:Pl}{cs:List V}{vs:List Value}(h:B7 p cs vs)(n:Nat):B7 p (cs.drop n) (vs.drop n):=
 ⟨by simp[h.1],fun i d v a b=>h.2 (n+i) d v ae ae⟩
theorem B7.take{p:Pl}{cs:List V}{vs:List Value}(h:B7 p cs vs)(n:Nat):B7 p (cs.take n) (vs.take n):=
 ⟨by simp[h.1],fun i d v a b=>by
  have c:i<n:=ae
  rw[Zo c]at a b;exact h.2 i d v a b⟩
theorem B7.G9{p:Pl}{cs:List V}{vs:List Value}(h:B7 p cs vs)(c:∀d∈cs,d.ok=true):Ac p cs vs:=
 Ac.mk h.1 fun i d v a b=>h.2 i d v a b ae
def Ff(p:Pl)(n:Nat):O->Obj->Prop
 | .cells cs t fz,o=>∃(c:Array Value) (fz':Nat×Nat),o=.cells c t fz'/\c.size=n/\cs.length<=n/\B7 p cs (c.toList.take cs.length)/\∀i,i<n->fz'.1<=i->i<fz'.2->fz.1<=i/\i<fz.2
 | .map es clock,o=>∃l:Array MapEntry,o=.map l clock/\BE p es l.toList
 | .siter s pos,o=>o=.stringIter (bytesOf s) pos
 | .miter none since seen last,o=>o=.mapIter none since seen.toArray last
 | .miter (some b) since seen last,o=>∃r m,p[b]?=some (r,m)/\o=.mapIter (some r) since seen.toArray last
 | .loop l,o=>∃(fn:FuncId) (tmps:Array Value) (r m:Nat),Ce p l.fr tmps/\p[l.db]?=some (r,m)/\o=.loop { state:=l.st,pending:=l.pend,fn,tmps,params:=l.ps,assign:=l.asg,body:=l.body,defers:=r }
 | .defd op,o=>o=.deferred (bif op then some []else none)
theorem B7.mono{p:Pl}(q:Pl){cs:List V}{vs:List Value}(h:B7 p cs vs):B7 (p++q) cs vs:=⟨h.1,fun i d v b c a=>(h.2 i d v b c a).mono q⟩
theorem BE.mono{p:Pl}(q:Pl){es:List (V×V×Nat)}{l:List MapEntry}(h:BE p es l):BE (p++q) es l:=by
 induction h with
 |nil=>exact .nil
 |cons c d b _ a=>exact .cons (c.mono q) (d.mono q) b a
theorem Ff.mono{p:Pl}(q:Pl){n:Nat}{o:O}{x:Obj}(h:Ff p n o x):Ff (p++q) n o x:=by
 cases o with
 |cells cs t fz=>obtain⟨c,fz',d,a,k,f,g⟩:=h;exact⟨c,fz',d,a,k,f.mono q,g⟩
 |map es u=>obtain⟨l,d,a⟩:=h;exact⟨l,d,a.mono q⟩
 |siter s pos=>exact h
 |miter b since seen last=>
  cases b with
  |none=>exact h
  |some b=>
   obtain⟨r,m,d,a⟩:=h;exact⟨r,m,by grind,a⟩
 |loop l=>
  obtain⟨fn,tmps,r,m,h0,d,a⟩:=h;exact⟨fn,tmps,r,m,h0.mono q,by grind,a⟩
 |defd _=>exact h
structure R(p:Pl)(h:H)(w:World):Prop where
 len:p.length=h.nx
 obj:∀b o,h.get b=some o->∃r n x,p[b]?=some (r,n)/\w.heap[r]?=some x/\Ff p n o x
 inj:∀b b' o o' r n n',h.get b=some o->h.get b'=some o'->p[b]?=some (r,n)->p[b']?=some (r,n')->b=b'
def Im(p:Pl)(h:H)(r:Nat):Prop:=∃b o n,h.get b=some o/\p[b]?=some (r,n)
def Lk(n:Nat)(fz:Nat×Nat):Prop:=fz.1=0/\n<=fz.2/\0<fz.2
def YH(p:Pl)(h:H)(r:Nat):Prop:=∃b n cs t fz,h.get b=some (.cells cs t fz)/\p[b]?=some (r,n)/\Lk n fz
structure Ext(p:Pl)(h:H)(w:World)(p':Pl)(h':H)(w':World):Prop where
 pre:∃q,p'=p++q
 rel:R p' h' w'
 size:w.heap.size<=w'.heap.size
 same:∀r,r<w.heap.size->¬Im p h r->w'.heap[r]?=w.heap[r]?
 im:∀r,Im p' h' r->Im p h r\/w.heap.size<=r
 os:w'.os=w.os
 out:w'.output=w.output
 tape:w'.tape=w.tape
 lock:∀r,r<w.heap.size->YH p h r->w'.heap[r]?=w.heap[r]?/\(YH p' h' r\/¬Im p' h' r)
 dr:w.drawn<=w'.drawn
theorem Ext.refl{p:Pl}{h:H}{w:World}(a:R p h w):Ext p h w p h w:=
 ⟨(by simp),a,Ze _,(by simp),ae,rfl,rfl,rfl,ae,Ze _⟩
theorem Ext.trans{p d k:Pl}{h f m:H}{w g l:World}(a:Ext p h w d f g)(b:Ext d f g k m l):Ext p h w k m l:=by
 obtain⟨q,C⟩:=a.pre;obtain⟨q',hq'⟩:=b.pre;refine⟨ae,b.rel,ZO a.size b.size,fun r u B=>?_,fun r u=>?_,b.os.trans a.os,b.out.trans a.out,b.tape.trans a.tape,fun r s A=>?_,ZO a.dr b.dr⟩
 ·rw[b.same r (Nat.lt_of_lt_of_le u a.size) ?_,a.same r u B];intro c;rcases a.im r c with v|v
  ·grind
  ·omega
 ·rcases b.im r u with c|c
  ·exact a.im r c
  ·exact .inr<|ZO a.size c
 ·obtain⟨y,c⟩:=a.lock r s A;have o:=Nat.lt_of_lt_of_le s a.size;rcases c with c|c
  ·obtain⟨e2,v⟩:=b.lock r o c;grind
  ·refine⟨(b.same r o c).trans y,.inr fun x=>?_⟩;rcases b.im r x with v|v
   ·grind
   ·omega
theorem Ext.RZ{p p':Pl}{h h':H}{w w':World}(e:Ext p h w p' h' w'){d:V}{v:Value}(a:Aa p d v):Aa p' d v:=by
 obtain⟨q,rfl⟩:=e.pre;exact a.mono q
theorem Ext.drew{p:Pl}{h:H}{w:World}(a:R p h w)(n:Nat)(b:w.drawn<=n:=by omega):Ext p h w p h { w with drawn:=n }:=
 ⟨(by simp),⟨a.len,a.obj,a.inj⟩,Ze _,(by simp),ae,rfl,rfl,rfl,ae,b⟩
theorem R.lt{p:Pl}{h:H}{w:World}(a:R p h w){b:Nat}{o:O}(c:h.get b=some o):b<h.nx:=by
 obtain⟨r,n,x,d,_⟩:=a.obj b o c;have:=(Zk.1 d).1;have:=a.len;omega
theorem R.N6{p:Pl}{h:H}{w:World}(a:R p h w){r:Nat}(c:Im p h r):r<w.heap.size:=by
 obtain⟨b,o,n,d,f⟩:=c;obtain⟨r',n',x,h3,h4,_⟩:=a.obj b o d;grind
theorem Ext.push{p:Pl}{h:H}{w:World}(g:R p h w){o:O}{x:Obj}{n:Nat}(J:Ff p n o x):
  Ext p h w (p++[(w.heap.size,n)]) (h.push o) { w with heap:=w.heap.push x }:=by
 have N:∀b o',h.get b=some o'->b≠h.nx:=fun b o' a=>by have:=g.lt a;omega
 have s:(p++[(w.heap.size,n)])[h.nx]?=some (w.heap.size,n):=by rw[<-g.len];simp
 have d:∀b,b<h.nx->(p++[(w.heap.size,n)])[b]?=p[b]?:=ae;refine⟨⟨_,rfl⟩,⟨by simp[g.len],fun b o' a=>?_,fun b b' k f r m F a B l u=>?_⟩,by simp,fun r A _=>?_,fun r K=>?_,rfl,rfl,rfl,fun r A I=>?_,Ze _⟩
 ·rw[H.A6]at a;by_cases e:b=h.nx
  ·subst e;simp at a;subst a;exact⟨_,_,x,s,by simp,J.mono _⟩
  ·rw[wa e]at a;obtain⟨r,m,y,l,u,L⟩:=g.obj b o' a;refine⟨r,m,y,by grind,?_,L.mono _⟩;grind
 ·have key:∀c o' r m,(h.push o).get c=some o'->(p++[(w.heap.size,n)])[c]?=some (r,m)->(c=h.nx/\r=w.heap.size)\/(h.get c=some o'/\p[c]?=some (r,m)/\r<w.heap.size):=by
   intro c o' r m q v;rw[H.A6]at q;by_cases e:c=h.nx
   ·grind
   ·rw[wa e]at q;rw[d c<|g.lt q]at v;exact .inr ⟨q,v,g.N6 ⟨c,o',m,q,v⟩⟩
  rcases key b k r m a l with⟨E,e2⟩|⟨E,e2,S⟩<;>rcases key b' f r F B u with⟨D,C⟩|⟨D,C,Q⟩
  ·omega
  ·omega
  ·omega
  ·exact g.inj b b' k f r m F E D e2 C
 ·grind
 ·obtain⟨b,o',m,l,u⟩:=K;rw[H.A6]at l;by_cases e:b=h.nx
  ·grind
  ·rw[wa e]at l;rw[d b<|g.lt l]at u;exact .inl ⟨b,o',m,l,u⟩
 ·refine⟨by grind,.inl ?_⟩;obtain⟨b,m,cs,t,fz,U,M,G⟩:=I;refine⟨b,m,cs,t,fz,?_,?_,G⟩
  ·simp_all
  grind
theorem Ext.put{p:Pl}{h:H}{w w':World}(u:R p h w){b r n:Nat}{o o':O}{x':Obj}(q:h.get b=some o)(k:p[b]?=some (r,n))(U:Ff p n o' x')
  (K:w'.heap=w.heap.setIfInBounds r x') (C:w'.os=w.os) (D:w'.output=w.output) (X:w'.tape=w.tape)
  (W:∀cs t fz,o=.cells cs t fz->Lk n fz->w.heap[r]?=some x'/\∃cs' F,o'=.cells cs' F fz:=by intro _ _ _ h;cases h) (L:w.drawn<=w'.drawn:=by exact Nat.le_refl _):Ext p h w p (h.put b o') w':=by
 have Y:r<w.heap.size:=u.N6 ⟨b,o,n,q,k⟩;refine⟨(by simp),⟨u.len,fun c d a=>?_,fun c J d l s m S a E C D=>?_⟩,by simp[K],fun s N Q=>?_,fun s V=>?_,C,D,X,fun s N M=>?_,L⟩
 ·rw[H.A8]at a;by_cases e:c=b
  ·subst e;simp at a;subst a;exact⟨r,n,x',k,by grind,U⟩
  ·rw[wa e]at a;obtain⟨s,m,y,g,x,Z⟩:=u.obj c d a;have v:r≠s:=fun I=>e<|u.inj c b d o s m n a q g<|I▸k
   grind
 ·have f:∀c d,(h.put b o').get c=some d->∃l,h.get c=some l:=by
   intro c d a;rw[H.A8]at a;grind
  obtain⟨_,g⟩:=f c d a;obtain⟨_,x⟩:=f J l E;exact u.inj c J _ _ s m S g x C D
 ·have v:r≠s:=fun e=>Q<|e▸⟨b,o,n,q,k⟩
  grind
 ·obtain⟨c,d,m,g,x⟩:=V;rw[H.A8]at g;by_cases e:c=b
  ·subst e;exact .inl ⟨c,o,m,q,x⟩
  ·rw[wa e]at g;exact .inl ⟨c,d,m,g,x⟩
 ·obtain⟨c,m,cs,t,fz,G,A,B⟩:=M;by_cases e:c=b
  ·subst e;rw[k]at A;cases A;rw[q]at G;cases G;obtain⟨g,cs',F,rfl⟩:=W cs t fz rfl B;refine⟨?_,.inl ⟨c,n,cs',F,fz,by simp,k,B⟩⟩;grind
  ·have v:r≠s:=fun I=>e<|u.inj c b _ o s m n G q A<|I▸k
   refine⟨by grind,.inl ⟨c,m,cs,t,fz,by simp_all,A,B⟩⟩
theorem R.kill{p:Pl}{h:H}{w:World}(a:R p h w)(b:Nat):R p (h.kill b) w:=by
 have sub:∀c o,(h.kill b).get c=some o->h.get c=some o:=by
  simp
 exact⟨a.len,fun c o d=>a.obj c o<|sub c o d,fun c g o o' r n n' d f=>a.inj c g o o' r n n' (sub c o d) ae⟩
theorem Ext.kill{p:Pl}{h:H}{w:World}(k:R p h w)(b:Nat):Ext p h w p (h.kill b) w:=by
 refine⟨(by simp),k.kill b,Ze _,(by simp),fun r l=>?_,rfl,rfl,rfl,fun r y v=>⟨rfl,?_⟩,Ze _⟩
 ·obtain⟨c,o,n,a,u⟩:=l;rw[H.BI]at a;split at a
  ·cases a
  ·exact .inl ⟨c,o,n,a,u⟩
 ·obtain⟨c,m,cs,t,fz,A,g,x⟩:=v;by_cases e:c=b
  ·subst e;refine .inr ?_;rintro⟨q,o',B,d,s⟩;rw[H.BI]at d;split at d
   ·cases d
   ·rename_i f;exact f<|k.inj q c _ _ r B m d A s g
  ·exact .inl ⟨c,m,cs,t,fz,by simp_all,g,x⟩
theorem Ext.move{p:Pl}{h:H}{w w':World}(l:R p h w){b r n:Nat}{o o':O}{x':Obj}(B:h.get b=some o)(A:p[b]?=some (r,n))(Z:Ff p n o' x')
  (K:w'.heap=w.heap.setIfInBounds r x') (V:w'.os=w.os) (U:w'.output=w.output) (g3:w'.tape=w.tape) (hk:∀cs t fz,o=.cells cs t fz->¬Lk n fz) (L:w.drawn<=w'.drawn:=by exact Nat.le_refl _):Ext p h w (p++[(r,n)]) ((h.kill b).push o') w':=by
 have hlt:r<w.heap.size:=l.N6 ⟨b,o,n,B,A⟩;have k:(p++[(r,n)])[h.nx]?=some (r,n):=by rw[<-l.len];simp
 have f:∀b,b<h.nx->(p++[(r,n)])[b]?=p[b]?:=ae;have d:∀c a,((h.kill b).push o').get c=some a->(c=h.nx/\a=o')\/(c≠b/\c<h.nx/\h.get c=some a):=by
  intro c a g;rw[H.A6,H.OC,H.BI]at g;by_cases e:c=h.nx
  ·grind
  ·rw[wa e]at g;by_cases e2:c=b
   ·grind
   ·rw[wa e2]at g;exact .inr ⟨e2,l.lt g,g⟩
 have ne:∀c a s m,c≠b->h.get c=some a->p[c]?=some (s,m)->r≠s:=fun c a s m g M E e=>g<|l.inj c b a o s m n M B E<|e▸A
 refine⟨⟨_,rfl⟩,⟨by simp[l.len],fun c a g=>?_,fun c C a u s m Y g F I J=>?_⟩,by simp[K],fun s E X=>?_,fun s hi=>?_,V,U,g3,fun s E W=>?_,L⟩
 ·rcases d c a g with⟨rfl,rfl⟩|⟨G,e2,v⟩
  ·exact⟨r,n,x',k,by grind,Z.mono _⟩
  ·obtain⟨s,m,y,x,q,D⟩:=l.obj c a v;refine⟨s,m,y,by grind,?_,D.mono _⟩;grind
 ·rcases d c a g with⟨rfl,rfl⟩|⟨G,e2,v⟩<;>rcases d C u F with⟨rfl,rfl⟩|⟨f1,S,Q⟩
  ·rfl
  ·grind
  ·grind
  ·rw[f c e2]at I;rw[f C S]at J;exact l.inj c C a u s m Y v Q I J
 ·have N:r≠s:=fun e=>X<|e▸⟨b,o,n,B,A⟩
  grind
 ·obtain⟨c,a,m,x,q⟩:=hi;rcases d c a x with⟨rfl,rfl⟩|⟨G,e2,v⟩
  ·rw[k]at q;cases q;exact .inl ⟨b,o,n,B,A⟩
  ·rw[f c e2]at q;exact .inl ⟨c,a,m,v,q⟩
 ·obtain⟨c,m,cs,t,fz,x,q,D⟩:=W;by_cases e:c=b
  ·grind
  ·have hlc:=l.lt x;refine⟨by grind,.inl ⟨c,m,cs,t,fz,?_,by grind,D⟩⟩;rw[H.A6,H.OC,wa a8,H.BI,wa e];exact x
end
def WZ(l:List Nat):List V:=l.map fun n=>.int .u64<|.ofNat n
def BW:List (Nat×O):=[(3,.cells (WZ [1,10,100,1000,10000,100000,1000000,10000000,100000000,1000000000,10000000000,100000000000,1000000000000,10000000000000,100000000000000,1000000000000000,10000000000000000,100000000000000000,1000000000000000000,10000000000000000000]) 334 (0,20))]
mutual
def V.flat:V->Bool
 | .bool _| .int _ _| .str _| .nilp| .nils| .nilm| .nilf| .nili=>true
 | .agg l| .tup l=>V.CJ l
 |_=>false
def V.CJ:List V->Bool
 |[]=>true
 |v::vs=>v.flat&&V.CJ vs
end
mutual
theorem V.Bf{p q:Pl}:∀ {v:V} {v':Value},v.flat=true->Aa p v v'->Aa q v v'
 | .bool _,_,_,h| .int _ _,_,_,h| .str _,_,_,h| .nilp,_,_,h| .nils,_,_,h| .nilm,_,_,h| .nilf,_,_,h| .nili,_,_,h=>by simpa [Aa]using h
 | .agg l,_,a,h=>by
  obtain⟨x,rfl,b⟩:=h;exact⟨x,rfl,V.DH (by simpa [V.flat]using a) b⟩
 | .tup l,_,a,h=>by
  obtain⟨x,rfl,b⟩:=h;exact⟨x,rfl,V.DH (by simpa [V.flat]using a) b⟩
 | .ptr _ _,_,a,_| .sl _ _ _ _ _,_,a,_| .map _,_,a,_| .fn _ _ _,_,a,_| .yld _,_,a,_| .iface _ _,_,a,_=>by simp[V.flat]at a
theorem V.DH{p q:Pl}:∀ {v:List V} {v':List Value},V.CJ v=true->Ac p v v'->Ac q v v'
 |[],_,_,h=>by simp_all
 |_::_,[],_,h=>by simp at h
 |v::vs,x::b,a,h=>by
  simp only[V.CJ,Zl]at a;rw[Au]at h ⊢;exact⟨V.Bf a.1 h.1,V.DH a.2 h.2⟩
end
def Yk:O->Nat
 | .cells cs _ _=>cs.length
 |_=>0
def XC(g:Nat):List (Nat×O)->Bool
 |[]=>false
 |(i,_)::l=>bif Zf i g then true else XC g l
def WO:List (Nat×O)->PM O
 |[]=>.leaf
 |(i,o)::l=>(WO l).set i<|some o
def HL:List (Nat×O)->Nat
 |[]=>0
 |(i,_)::l=>bif Zi (i+1) (HL l)then HL l else i+1
def hG:H:=⟨WO BW,HL BW⟩
def XF:List (Nat×O)->Bool
 |[]=>true
 |(_,.cells cs _ (a,b))::l=>V.CJ cs&&Zf a 0&&Zf b cs.length&&Zx 0 b&&XF l
 |_=>false
theorem Ou:XF BW=true:=by rfl
theorem Ol{g:Nat}:∀ {l:List (Nat×O)},XC g l=true->∃o,(g,o)∈l
 |[],h=>by cases h
 |(i,o)::l,h=>by
  unfold XC at h;cases a:Zf i g with
  |true=>simp_all
  |false=>
   rw[a]at h;obtain⟨o',b⟩:=Ol h;grind
theorem Ka:∀ {l:List (Nat×O)},XF l=true->∀x∈l,∃cs t,x.2=.cells cs t (0,cs.length)/\V.CJ cs=true/\0<cs.length
 |[],_,x,c=>by cases c
 |(i,.cells cs t (a,b))::l,h,x,c=>by
  simp only[XF,Zl]at h;obtain⟨⟨⟨⟨g,d⟩,f⟩,m⟩,k⟩:=h;rcases List.mem_cons.1 c with rfl|c
  ·have d:a=0:=by simp_all
   have f:b=cs.length:=by simp_all
   subst d f;exact⟨cs,t,rfl,g,(by simp_all)⟩
  ·exact Ka k x c
theorem Gm:∀ {l:List (Nat×O)} {b:Nat} {o:O},(WO l).get b=some o->(b,o)∈l
 |[],b,o,h=>by simp[WO]at h
 |(i,o')::l,b,o,h=>by
  simp only[WO,PM.Bd]at h;by_cases e:b=i
  ·grind
  ·rw[wa e]at h;exact List.mem_cons_of_mem _<|Gm h
theorem Om{n:Nat}:∀ {l:List (Nat×O)},(∀x∈l,x.1<n)->HL l<=n
 |[],_=>Nat.zero_le _
 |(i,o)::l,h=>by
  have b:=h (i,o) (by simp);have c:=Om (l:=l) fun x a=>h x ae
  grind [HL]
theorem KT:∀ {l:List (Nat×O)},∀x∈l,x.1<HL l
 |[],x,a=>by cases a
 |(i,o)::l,x,a=>by
  unfold HL;rcases List.mem_cons.1 a with rfl|a
  ·cases b:Zi (i+1) (HL l)with
   |true=>have:=Nat.le_of_ble_eq_true b;grind
   |false=>simp
  ·have:=KT (l:=l) x a;grind [Nat.ble_eq_true_of_le]
def Gp(p:Pl):Prop:=∀x∈BW,p[x.1]?=some (x.1,Yk x.2)
def Gh(h:H):Prop:=∀x∈BW,h.get x.1=some x.2
theorem Gp.app{p:Pl}(h:Gp p)(q:Pl):Gp (p++q):=fun x a=>by
 have:=h x a;grind
theorem Gp.top{p:Pl}(h:Gp p):HL BW<=p.length:=Om fun x a=>(Zk.1<|h x a).1
theorem Gp.take{p:Pl}(h:Gp p):Gp (p.take<|HL BW):=fun x a=>by
 rw[Zo<|KT x a];exact h x a
theorem B7.flat{p q:Pl}{cs:List V}{vs:List Value}(g:V.CJ cs=true)(h:B7 p cs vs):B7 q cs vs:=
 ⟨h.1,fun i d v b f c=>V.Bf (by
  have:=List.mem_of_getElem? b;clear h b f c;induction cs with
  |nil=>grind
  |cons a cs k=>
   simp only[V.CJ,Zl]at g;grind)<|h.2 i d v b f c⟩
theorem VQ{p:Pl}{h:H}{w:World}(m:R p h w)(d:Gp p)(q:Gh h):R (p.take<|HL BW) hG w:=by
 refine⟨by rw[List.length_take,Nat.min_eq_left d.top];rfl,fun b o f=>?_,fun b b' o o' r n n' f g k l=>?_⟩
 ·have a:=Gm f;obtain⟨cs,t,e,v,A⟩:=Ka Ou _ a;obtain⟨r,n,x,k,l,h3⟩:=m.obj b o<|q _ a;refine⟨r,n,x,by rw[Zo<|KT _ a];exact k,l,?_⟩;subst e;obtain⟨c,fz',k1,k2,k3,k4,k5⟩:=h3;exact⟨c,fz',k1,k2,k3,k4.flat v,k5⟩
 ·have u:=Gm f;have s:=Gm g;have y:=d.take _ u;have e2:=d.take _ s;grind
theorem Ext.BW{p:Pl}{w w':World}{p':Pl}{h':H}(l:Gp p)(k:Ext p hG w p' h' w')(r:Nat)(c:r<w.heap.size):w'.heap[r]?=w.heap[r]?:=by
 by_cases d:Im p hG r
 ·obtain⟨b,o,n,g,a⟩:=d;have f:=Gm g;obtain⟨cs,t,e,hf,hl⟩:=Ka Ou _ f;subst e;have:=l _ f;rw[this]at a;cases a;exact(k.lock _ c ⟨_,_,_,_,_,g,this,rfl,Ze _,hl⟩).1
 ·exact k.same r c d
section
variable {p:Pl}
def V.cells:V->List V
 | .agg cs=>cs
 |v=>[v]
theorem Aa.cells{d:V}{v:Value}(f:Aa p d v):Ac p d.cells v.cells.toList:=by
 cases d<;>simp only[V.cells]<;>simp only[Aa]at f
 case agg cs=>obtain⟨x,rfl,b⟩:=f;exact b
 case bool=>simp_all [Zh,Aa]
 case int=>simp_all [Zh,Aa]
 case str=>simp_all [Zh,Aa]
 case nilp=>simp_all [Zh,Aa]
 case nils=>simp_all [Zh,Aa]
 case nilm=>simp_all [Zh,Aa]
 case nilf=>simp_all [Zh,Aa]
 case nili=>simp_all [Zh,Aa]
 case ptr=>obtain⟨r,n,b,rfl⟩:=f;simp[Zh,Aa,b]
 case esl=>obtain⟨a,c,rfl⟩:=f;simp[Zh,Aa]
 case es0=>obtain⟨a,rfl⟩:=f;simp[Zh,Aa]
 case sl=>obtain⟨r,n,c,b,rfl,g⟩:=f;simp only[Zh,Au,E9,va];simp only[Aa];grind
 case map=>obtain⟨r,n,b,rfl⟩:=f;simp[Zh,Aa,b]
 case yld=>obtain⟨r,n,b,rfl⟩:=f;simp[Zh,Aa,b]
 case fn=>obtain⟨x,y,rfl,b,g⟩:=f;simp only[Zh,Au,E9,va];simp only[Aa];grind
 case iface=>obtain⟨y,rfl,b⟩:=f;simp_all [Zh,Aa]
 case tup=>obtain⟨x,rfl,b⟩:=f;simp_all [Zh,Aa]
end
structure TI where
 size:Nat
 bytes:Nat
 zv:V
def TI.zero(i:TI):List V:=i.zv.cells
inductive FK where
 |bool
 |str
 |int (k:IntKind)
def FK.ok:FK->V->Bool
 | .bool,.bool _=>true
 | .str,.str _=>true
 | .int k,.int a _=>k==a
 |_,_=>false
def fit:List FK->List V->Bool
 |[],[]=>true
 |k::ks,v::vs=>bif k.ok v then fit ks vs else false
 |_,_=>false
structure AP where
 und:TypeId->Option TypeDesc
 inf:TypeId->Option TI
 flat:TypeId->Option (List FK)
 mth:TypeId->String->Option FuncId
def BZ:V->V->Option Bool
 | .bool a,.bool b=>some<|a==b
 | .int k a,.int c b=>if k=c then some (a==b)else none
 | .str a,.str b=>some<|a==b
 |_,_=>none
def AK:List V->List V->Option Bool
 |[],[]=>some true
 |a::d,b::c=>
  match BZ a b with
  |some true=>AK d c
  |some false=>if d.length=c.length then some false else none
  |none=>none
 |_,_=>none
structure AP.Ok(T:AP)(P:Program):Prop where
 und:∀t d,T.und t=some d->P.underlying t=some d
 inf:∀t i,T.inf t=some i->∃j v,P.info? t=some j/\j.size=i.size/\j.bytes=i.bytes/\j.zero=some v/\∀p,Aa p i.zv v
 flat:∀t ks,T.flat t=some ks->∀(p:Pl) (x y:List V) (x' y':Array Value) (r:Bool) (w:World),fit ks x=true->fit ks y=true->Ac p x x'.toList->Ac p y y'.toList->AK x y=some r->
  (ZT t (.agg x') (.agg y')).run P w=.ok r w
 guard:∀t ks,T.flat t=some ks->P.eqGuardType P.depth t=false
 key:∀t ks,T.flat t=some ks->∀(p:Pl) (x:List V) (x':Array Value) (b:Bool) (w:World),fit ks x=true->Ac p x x'.toList->(ZJ b 10000 t (.agg x')).run P w=.ok () w
 kind:∀t ks,T.flat t=some ks->∃fs,T.und t=some (.struct fs)
 mth:∀t name f,T.mth t name=some f->∃j m d,P.info? t=some j/\j.methods.find? (·.name==name)=some m/\m.path= #[]/\m.func=some (f,false)/\P.underlying t=some d/\∀e,d≠ .pointer e
section
variable {T:AP}{P:Program}{p:Pl}{h:H}{w:World}
theorem Ad(a:T.Ok P){t:TypeId}{d:TypeDesc}(b:T.und t=some d):(underlying t).run P w=.ok d w:=by
 unfold underlying;simp[a.und t d b]
theorem AB(b:T.Ok P){t:TypeId}{i:TI}(a:T.inf t=some i):(sizeOf t).run P w=.ok i.size w:=by
 obtain⟨j,v,c,d,_⟩:=b.inf t i a;simp_all [sizeOf,typeInfo]
theorem IQ(a:T.Ok P){t:TypeId}{i:TI}(b:T.inf t=some i):∃j,(∀w,(typeInfo t).run P w=.ok j w)/\j.bytes=i.bytes/\j.size=i.size:=by
 obtain⟨j,v,d,f,c,_⟩:=a.inf t i b;simp_all [typeInfo]
theorem BY(a:T.Ok P){t:TypeId}{i:TI}(b:T.inf t=some i):∃v,(∀w,(zeroValue t).run P w=.ok v w)/\∀p,Ac p i.zero v.cells.toList:=by
 obtain⟨j,v,g,k,f,d,c⟩:=a.inf t i b;exact⟨v,(by simp_all [zeroValue,typeInfo]),fun p=>(c p).cells⟩
theorem U2(a:T.Ok P){t:TypeId}{i:TI}(b:T.inf t=some i):∃v,(∀w,(zeroValue t).run P w=.ok v w)/\∀p,Aa p i.zv v:=by
 obtain⟨j,v,f,k,d,c,g⟩:=a.inf t i b;simp_all [zeroValue,typeInfo]
def B8:TypeDesc->Bool
 | .struct _| .array _ _=>true
 |_=>false
theorem JO(a:T.Ok P){t:TypeId}{d:TypeDesc}(b:T.und t=some d):(isAgg t).run P w=.ok (B8 d) w:=by
 unfold isAgg;rw[Zb,Ad a b];cases d<;>simp[B8]
def V.one:V->Bool
 | .agg _| .tup _| .junk=>false
 |_=>true
theorem V.G1{d:V}(h:d.one=true):d.ok=true:=by cases d<;>first|rfl|cases h
theorem Aa.one{d:V}{v:Value}(b:Aa p d v)(f:d.one=true):v.oneCell'=true:=by
 cases d<;>simp only[V.one]at f<;>simp only[Aa]at b
 case agg|tup=>cases f
 case ptr=>obtain⟨r,n,_,rfl⟩:=b;rfl
 case esl=>obtain⟨a,c,rfl⟩:=b;rfl
 case es0=>obtain⟨a,rfl⟩:=b;rfl
 case sl=>obtain⟨r,n,c,_,rfl,_⟩:=b;rfl
 case map=>obtain⟨r,n,_,rfl⟩:=b;rfl
 case yld=>obtain⟨r,n,_,rfl⟩:=b;rfl
 case fn=>obtain⟨x,y,rfl,_,_⟩:=b;rfl
 case iface=>obtain⟨y,rfl,_⟩:=b;rfl
 all_goals subst b;rfl
@[simp] theorem Addr.GV(r off n:Nat):Addr.add ⟨r,off,none⟩ n=⟨r,off+n,none⟩:=by
 unfold Addr.add;simp
def Wh(h:H)(b off n:Nat):Option (List V):=
 match h.get b with
 |some (.cells cs _ _)=>if off+n<=cs.length/\((cs.drop off).take n).all V.ok=true then some ((cs.drop off).take n)else none
 |_=>none
def rd(h:H)(b off n:Nat):Option (List V):=
 match h.get b with
 |some (.cells cs _ _)=>bif Zi (Nat.add off n) (CL cs)&&Gg V.ok (Oc n<|Fl off cs)then some (Oc n<|Fl off cs)else none
 |_=>none
theorem Oq:rd=Wh:=by
 funext h b off n
 unfold rd Wh;split
 ·rw[BK,I1,Iq,CQ];simp
 ·rfl
theorem cell_of(a:R p h w){b:Nat}{cs:List V}{t:TypeId}{fz:Nat×Nat}(d:h.get b=some (.cells cs t fz)):
  ∃r n c fz',p[b]?=some (r,n)/\w.heap[r]?=some (.cells c t fz')/\c.size=n/\cs.length<=n/\B7 p cs (c.toList.take cs.length)/\(∀i,w.cell? ⟨r,i,none⟩=c[i]?)/\
   ∀i,i<n->fz'.1<=i->i<fz'.2->fz.1<=i/\i<fz.2:=by
 obtain⟨r,n,x,l,o,c,fz',q,f,m,g,k⟩:=a.obj b _ d;grind [World.cell?]
theorem Jm{a:Addr}{v:Value}(b:w.cell? a=some v):(load a).run P w=.ok v w:=by simp[b]
theorem run_loadCellsFrom{a:Addr}:∀(n i:Nat) (b:Array Value) (vs:List Value),vs.length=n->(∀j v,vs[j]?=some v->w.cell? (a.add<|i+j)=some v)->
  (loadCellsFrom a i n b).run P w=.ok (b++vs.toArray) w
 |0,i,b,vs,c,_=>by
  simp_all [loadCellsFrom]
 |n+1,i,b,[],c,_=>by grind
 |n+1,i,b,v::vs,c,d=>by
  unfold loadCellsFrom;rw[Zb,Jm (a:=a.add i) (by have:=d 0 v rfl;simpa using this)];simp only[Za];rw[run_loadCellsFrom n (i+1) (b.push v) vs ae (fun j u f=>by
   have:=d (j+1) u ae;grind)]
  simp
theorem run_loadCells(l:R p h w){b off n:Nat}{k:List V}(f:rd h b off n=some k):
  ∃r m vs,p[b]?=some (r,m)/\(loadCells ⟨r,off,none⟩ n).run P w=.ok vs.toArray w/\Ac p k vs/\vs.length=n/\∀i v,vs[i]?=some v->w.cell? ⟨r,off+i,none⟩=some v:=by
 rw[Oq]at f;unfold Wh at f;split at f
 case h_2=>cases f
 rename_i cs t fz s;split at f
 case isFalse=>cases f
 cases f;obtain⟨r,m,c,_,o,y,A,u,q,x,_⟩:=cell_of l s;have g:Ac p ((cs.drop off).take n) ((c.toList.take cs.length).drop off|>.take n):=((q.drop off).take n).G9 ae;have a:((c.toList.take cs.length).drop off|>.take n).length=n:=ae
 have d:∀i v,((c.toList.take cs.length).drop off|>.take n)[i]?=some v->w.cell? ⟨r,off+i,none⟩=some v:=by
  grind
 refine⟨r,m,_,o,?_,g,a,d⟩;unfold loadCells;rw[run_loadCellsFrom n 0 #[] _ a (by simp_all)];simp
def Ct(T:AP)(h:H)(t:TypeId)(a:V):Option V:=
 match a,T.und t,T.inf t with
 | .ptr b off,some d,some i=>
  bif B8 d then(rd h b off i.size).map .agg
  else match rd h b off 1 with
   |some (v::_)=>some v
   |_=>none
 |_,_,_=>none
theorem Md(q:T.Ok P)(x:R p h w){t:TypeId}{a v:V}{s:Value}(l:Aa p a s)(c:Ct T h t a=some v):
  ∃v',(Instr.loadAt t s).run P w=.ok v' w/\Aa p v v':=by
 unfold Ct at c;split at c
 case h_2=>cases c
 rename_i b off d i E B;simp only[Aa]at l;obtain⟨r,n,o,rfl⟩:=l;unfold Instr.loadAt ZD;simp only[Zb,Zd,Za];unfold loadVar;simp only[Zb];rw[JO q E];simp only[Za];cases g:B8 d with
 |true=>
  simp only[g,wc]at c;rw[Zg]at c;obtain⟨G,k,rfl⟩:=c;obtain⟨C,m,vs,f,y,A,_⟩:=run_loadCells (P:=P) x k;rw[o]at f;cases f;simp only[wi,Zb,AB q B,Za,y,Zd];simp_all [Aa]
 |false=>
  simp only[g,wd]at c;split at c
  case h_2=>cases c
  rename_i v0 tl k;cases c;obtain⟨C,m,vs,f,y,A,F,D⟩:=run_loadCells (P:=P) x k;rw[o]at f;cases f;cases vs with
  |nil=>grind
  |cons u I=>
   simp at A;simp only[Zn,vb];have:=D 0 u rfl;simp_all
def DE:List V->Nat->List V->List V
 |cs,_,[]=>cs
 |cs,off,v::vs=>DE (cs.set off v) (off+1) vs
@[simp] theorem EG:∀(vs:List V) (cs:List V) (off:Nat),(DE cs off vs).length=cs.length
 |[],_,_=>rfl
 |v::vs,cs,off=>by simp[DE,EG vs]
def clear(fz:Nat×Nat)(off n:Nat):Bool:=Zi fz.2 off||Zi (off+n) fz.1||Zi fz.2 fz.1
def X2(h:H)(b off:Nat)(vs:List V):Option H:=
 match h.get b with
 |some (.cells cs t fz)=>bif Zi (off+vs.length) cs.length&&clear fz off vs.length&&vs.all V.one then some (h.put b<|.cells (DE cs off vs) t fz)else none
 |_=>none
theorem GA(a:V):∀(vs cs:List V) (off:Nat),DE (a::cs) (off+1) vs=a::DE cs off vs
 |[],cs,off=>rfl
 |v::vs,cs,off=>by
  show DE ((a::cs).set (off+1) v) (off+1+1) vs=a::DE (cs.set off v) (off+1) vs;rw[List.set_cons_succ,GA a vs]
theorem IF:∀(vs:List V) (off:Nat),DE [] off vs=[]
 |[],_=>rfl
 |v::vs,off=>by show DE ([].set off v) (off+1) vs=[];rw[List.set_nil,IF vs]
theorem Mc:∀(vs cs:List V),Fo vs cs=DE cs 0 vs
 |[],cs=>rfl
 |v::vs,[]=>(IF _ _).symm
 |v::vs,c::cs=>by
  show v::Fo vs cs=DE ((c::cs).set 0 v) (0+1) vs;rw[List.set_cons_zero,GA,Mc vs cs]
theorem E1(vs:List V):∀(off:Nat) (cs:List V),A1 off vs cs=DE cs off vs
 |0,cs=>Mc vs cs
 |off+1,[]=>(IF _ _).symm
 |off+1,c::cs=>by rw[GA];exact wg (c:: ·)<|E1 vs off cs
def wr(h:H)(b off:Nat)(vs:List V):Option H:=
 match h.get b with
 |some (.cells cs t fz)=>bif Zi (Nat.add off<|CL vs) (CL cs)&&clear fz off (CL vs)&&Gg V.one vs then some (h.put b<|.cells (A1 off vs cs) t fz)else none
 |_=>none
theorem WT:wr=X2:=by
 grind [wr,X2,BK,CQ,E1]
theorem QR(a:Array Obj)(i:Nat)(x:Obj)(j:Nat):(a.setIfInBounds i x)[j]?=if i=j/\j<a.size then some x else a[j]?:=by
 grind
theorem RJ{a:Array Obj}{i:Nat}{x:Obj}(h:a[i]?=some x):a.setIfInBounds i x=a:=by
 grind
theorem Ia{a:Array Obj}{i:Nat}{f:Obj->Obj}{x:Obj}(h:a[i]?=some x):a.modify i f=a.setIfInBounds i (f x):=by
 grind
theorem setCell_eq{w:World}{r off:Nat}{c:Array Value}{t:TypeId}{fz:Nat×Nat}(v:Value)(a:w.heap[r]?=some (.cells c t fz)):
  w.setCell ⟨r,off,none⟩ v={ w with heap:=w.heap.setIfInBounds r (.cells (c.setIfInBounds off v) t fz) }:=by
 grind [World.setCell,Ia]
theorem C6{r:Nat}{t:TypeId}{fz:Nat×Nat}:∀(vs:List Value) (w:World) (c:Array Value) (off i:Nat),w.heap[r]?=some (.cells c t fz)->off+i+vs.length<=c.size->
  (∀v∈vs,v.oneCell'=true)->(∀j,i<=j->j<i+vs.length->¬(fz.1<=off+j/\off+j<fz.2))->
  ∃a:Array Value,(storeCells ⟨r,off,none⟩ vs i).run P w=.ok () { w with heap:=w.heap.setIfInBounds r (.cells a t fz) }/\a.size=c.size/\
   a.toList=(List.range c.size).map (fun j=>if off+i<=j/\j<off+i+vs.length then vs.getD (j-(off+i)) default else c.toList.getD j default)
 |[],w,c,off,i,b,_,_,_=>by
  refine⟨c,?_,rfl,?_⟩
  ·simp_all [storeCells,RJ]
  ·apply List.ext_getElem (by simp);grind
 |v::vs,w,c,off,i,b,f,l,d=>by
  simp at f;have g:w.cell? ⟨r,off+i,none⟩=some (c[off+i]'a8):=by simp[World.cell?,b]
  have x:w.frozen? ⟨r,off+i,none⟩=false:=by
   simp_all [World.frozen?]
  have m:=setCell_eq (off:=off+i) v b;have k:=(Array.getElem?_eq_some_iff.1 b).1;obtain⟨a,y,B,s⟩:=C6 vs { w with heap:=w.heap.setIfInBounds r (.cells (c.setIfInBounds (off+i) v) t fz) } (c.setIfInBounds (off+i) v) off (i+1)
   (by rw[QR,wb ⟨rfl,k⟩]) ae ae (fun j u o=>d j a8 ae)
  refine⟨a,?_,by grind,?_⟩
  ·simp_all [storeCells,run_store]
  ·rw[s];apply List.ext_getElem (by simp);intro j q A;simp at q;simp only[List.getElem_map,List.getElem_range,List.length_cons];grind
theorem H3:∀(vs cs:List V) (off j:Nat),off+vs.length<=cs.length->(DE cs off vs)[j]?=if off<=j/\j<off+vs.length then vs[j-off]? else cs[j]?
 |[],cs,off,j,_=>by rw[wa<|by simp];rfl
 |v::vs,cs,off,j,a=>by
  unfold DE;rw[H3 vs (cs.set off v) (off+1) j ae];grind
theorem Kv(F:R p h w){b off:Nat}{f:List V}{vs:List Value}(x:Ac p f vs){h':H}(k:wr h b off f=some h'):
  ∃r m w',p[b]?=some (r,m)/\(storeCells ⟨r,off,none⟩ vs).run P w=.ok () w'/\Ext p h w p h' w':=by
 rw[WT]at k;unfold X2 at k;split at k
 case h_2=>cases k
 rename_i cs t fz E;cases s:(Zi (off+f.length) cs.length&&clear fz off f.length&&f.all V.one)with
 |false=>grind
 |true=>
  simp only[s,wc,Zc]at k;subst k;simp only[Zl,Zy,List.all_eq_true]at s;obtain⟨⟨c1,D⟩,c3⟩:=s;obtain⟨r,m,c,fz',h1,h2,h3,h4,h5,h6,h7⟩:=cell_of F E;have Y:=x.length;have o:∀v∈vs,v.oneCell'=true:=by
   intro v C;obtain⟨i,G⟩:=List.mem_iff_getElem?.1 C;have N:=(Zk.1 G).1;obtain⟨u,a,g⟩:=x.get (i:=i) (d:=f[i]'a8) (by simp);rw[G]at a;cases a;exact g.one ae
  have y:∀j,0<=j->j<0+vs.length->¬(fz'.1<=off+j/\off+j<fz'.2):=by
   rintro j _ Z ⟨O,I⟩;have:=h7 (off+j) a8 O I;simp only[clear,ZR,Zy]at D;omega
  obtain⟨B,J,X,g3⟩:=C6 (P:=P) vs w c off 0 h2 a8 o y;refine⟨r,m,_,h1,J,Ext.put F E h1 ?_ rfl rfl rfl rfl (fun L Q M W A=>?_)⟩
  case refine_2=>
   obtain⟨l1,S,U⟩:=A;simp only[clear,ZR,Zy]at D;have K:B=c:=by
    apply Array.ext';apply List.ext_getElem?;grind
   grind
  refine⟨B,fz',rfl,by omega,by simp_all,?_,h7⟩;refine⟨by simp;omega,?_⟩;intro i d v l C q;rw[H3 f cs off i a8]at l;by_cases e:off<=i/\i<off+f.length
  ·rw[wb e]at l;obtain⟨u,a,g⟩:=x.get l;grind
  ·rw[wa e]at l;obtain⟨u,a,g⟩:=h5.get l q;grind
def D4(T:AP)(h:H)(t:TypeId)(a x:V):Option H:=
 match a,T.inf t with
 | .ptr b off,some i=>bif Zf x.cells.length i.size then wr h b off x.cells else none
 |_,_=>none
theorem Qd(q:T.Ok P)(g:R p h w){t:TypeId}{a x:V}{d x':Value}(l:Aa p a d)(f:Aa p x x'){h':H}(c:D4 T h t a x=some h'):
  ∃w',(Instr.storeAt t d x').run P w=.ok () w'/\Ext p h w p h' w':=by
 unfold D4 at c;split at c
 case h_2=>cases c
 rename_i b off i k;rw[Aw]at c;by_cases e:x.cells.length=i.size
 ·simp only[e,decide_true,wc]at c;obtain⟨r,n,o,rfl⟩:=l;obtain⟨r',m,w',h1,h2,h3⟩:=Kv (P:=P) g f.cells c;rw[o]at h1;cases h1;refine⟨w',?_,h3⟩;have s:=f.cells.length;unfold Instr.storeAt ZD;unfold storeVar;have:x'.cells.size=i.size:=ae
  simp only[Zb,AB q k,Za,this,wk,not_true_eq_false,vb];exact h2
 grind
theorem A9(t:TypeId)(c:Array Value):(newRow t c).run P w=.ok ⟨w.heap.size,0,none⟩ { w with heap:=w.heap.push (.cells c t) }:=by
 rfl
def EB(h:H)(t:TypeId)(cs:List V):H:=h.push<|.cells cs t (0,0)
theorem HA(d:R p h w)(t:TypeId){b:List V}{c:Array Value}(a:Ac p b c.toList):
  ∃n,Ext p h w (p++[(w.heap.size,n)]) (EB h t b) { w with heap:=w.heap.push (.cells c t) }/\(p++[(w.heap.size,n)])[h.nx]?=some (w.heap.size,n)/\n=c.size:=by
 refine⟨c.size,Ext.push d ⟨c,(0,0),rfl,rfl,by have:=a.length;grind,?_,a8⟩,by rw[<-d.len];simp,rfl⟩;have:=a.length;rw[List.take_of_length_le a8];exact a.WK
def Dr(T:AP)(h:H)(t:TypeId):Option (V×H):=(T.inf t).map fun i=>(.ptr h.nx 0,EB h t i.zero)
theorem P3(d:T.Ok P)(b:R p h w){t:TypeId}{v:V}{h':H}(a:Dr T h t=some (v,h')):
  ∃v' p' w',(Instr.alloc t true<|.tuple #[]).run P w=.ok v' w'/\Aa p' v v'/\Ext p h w p' h' w':=by
 unfold Dr at a;rw[Zg]at a;obtain⟨i,c,he⟩:=a;cases he;obtain⟨z,hz,hzr⟩:=BY d c;obtain⟨n,he,hp,_⟩:=HA b t<|hzr p;refine⟨.pointer<|some ⟨w.heap.size,0,none⟩,_,_,?_,?_,he⟩
 ·grind [Instr.alloc,Zb,Za,newVar,A9,Zd]
 simp_all [Aa]
def Pf(h:H)(t:TypeId)(x:V):V×H:=(.ptr h.nx 0,EB h t x.cells)
theorem Up(a:R p h w){t:TypeId}{x:V}{x':Value}(b:Aa p x x'):
  ∃v' p' w',(Instr.box t x').run P w=.ok v' w'/\Aa p' (Pf h t x).1 v'/\Ext p h w p' (Pf h t x).2 w':=by
 obtain⟨n,he,c,_⟩:=HA a t b.cells;refine⟨.pointer<|some ⟨w.heap.size,0,none⟩,_,_,?_,?_,he⟩
 ·rfl
 simp_all [Pf,Aa]
def Mf(op:BinOp)(x y:Y):Option V:=
 match op with
 | .add=>if x.length+y.length<=4611686018427387904 then some (.str<|x++y)else none
 | .eql=>some<|.bool<|x==y
 | .neq=>some<|.bool !(x==y)
 | .lss=>some<|.bool<|ZP x y
 | .leq=>some<|.bool<|ZP x y||x==y
 | .gtr=>some<|.bool !(ZP x y||x==y)
 | .geq=>some<|.bool !ZP x y
 |_=>none
theorem Et(s:Y):(bytesOf s).toList=s:=ByteArray.toList_mk s
theorem AM(s:Y):(bytesOf s).size=s.length:=by rfl
theorem IC(x y:Y):bytesOf x++bytesOf y=bytesOf (x++y):=by
 rfl
theorem Ui{op:BinOp}{x y:Y}{v:V}(a:Mf op x y=some v):
  ∃v',(Op.stringOp op (bytesOf x)<|bytesOf y).run P w=.ok v' w/\Aa p v v':=by
 unfold Op.stringOp;simp only[Et,AM];cases op<;>simp only[Mf]at a
 case add=>
  split at a
  ·cases a;rw[wa<|by grind [IntKind.max,IntKind.bits]];simp_all [Aa,IC]
  grind
 all_goals first
  |(cases a;done)
  |(cases a;exact⟨_,Zd ..,by simp[Aa]⟩)
def H4(op:BinOp)(k:IntKind)(a b:Int):Option V:=
 match op with
 | .add=>some<|.int k<|k.wrap<|a+b
 | .sub=>some<|.int k<|k.wrap<|a-b
 | .mul=>some<|.int k<|k.wrap<|a*b
 | .quo=>if b=0 then none else some<|.int k<|k.wrap<|a.tdiv b
 | .rem=>if b=0 then none else some<|.int k<|a.tmod b
 | .and=>some<|.int k<|k.wrap (Zz k.bits a&&&Zz k.bits b).toNat
 | .or=>some<|.int k<|k.wrap (Zz k.bits a|||Zz k.bits b).toNat
 | .xor=>some<|.int k<|k.wrap (Zz k.bits a^^^Zz k.bits b).toNat
 | .andNot=>some<|.int k<|k.wrap (Zz k.bits a&&& ~~~Zz k.bits b).toNat
 | .eql=>some<|.bool<|a==b
 | .neq=>some<|.bool<|a !=b
 | .lss=>some<|.bool<|a<b
 | .leq=>some<|.bool<|a<=b
 | .gtr=>some<|.bool<|a>b
 | .geq=>some<|.bool<|a>=b
 |_=>none
def PU(op:BinOp)(k:IntKind)(a b:Int):Option V:=
 if b<0 then none else
 match op with
 | .shl=>some<|.int k<|k.wrap<|a*2^(min b.toNat k.bits)
 | .shr=>some<|.int k<|a.fdiv<|2^(min b.toNat k.bits)
 |_=>none
def H7(ks:Option (List FK))(a b:List V):Option Bool:=
 match ks with
 |some ks=>bif fit ks a&&fit ks b then AK a b else none
 |none=>none
theorem DU{ks:Option (List FK)}{a b:List V}{r:Bool}(h:H7 ks a b=some r):∃l,ks=some l/\fit l a=true/\fit l b=true/\AK a b=some r:=by
 unfold H7 at h;grind
def Az(T:AP)(t:TypeId)(x y:V):Option Bool:=
 match T.und t,x,y with
 |some .bool,.bool a,.bool b=>some<|a==b
 |some (.pointer _),.nilp,y=>match y with| .nilp=>some true| .ptr .. =>some false|_=>none
 |some (.pointer _),.ptr ..,.nilp=>some false
 |some (.pointer e),.ptr a i,.ptr b j=>if a=b then match T.inf e with|some d=>if d.size≠0 then some (i==j)else none|_=>none else none
 |some (.interface _),.iface ..,.nili=>some false
 |some (.interface _),.nili,.iface .. =>some false
 |some (.slice _),.nils,y=>match y with| .nils=>some true| .sl .. =>some false| .esl=>some false| .es0=>some false|_=>none
 |some (.slice _),.sl ..,.nils=>some false
 |some (.slice _),.esl,.nils=>some false
 |some (.slice _),.es0,.nils=>some false
 |some (.map _ _),.nilm,y=>match y with| .nilm=>some true| .map .. =>some false|_=>none
 |some (.map _ _),.map ..,.nilm=>some false
 |some (.func ..),.nilf,.nilf=>some true
 |some (.func ..),.fn ..,.nilf=>some false
 |some (.func ..),.nilf,.fn .. =>some false
 |_,.agg f,.agg c=>H7 (T.flat t) f c
 |_,_,_=>none
def FH(T:AP)(op:BinOp)(t:TypeId)(x y:V):Option V:=
 match op,x,y with
 | .shl,.int k a,.int _ b=>PU .shl k a b
 | .shr,.int k a,.int _ b=>PU .shr k a b
 |op,.int k a,.int c b=>if k=c then H4 op k a b else none
 |op,.str a,.str b=>Mf op a b
 | .eql,x,y=>(Az T t x y).map fun b=>.bool b
 | .neq,x,y=>(Az T t x y).map fun b=>.bool !b
 |_,_,_=>none
theorem S8{op:BinOp}{k:IntKind}{a b:Int}{v:V}(d:op≠ .shl/\op≠ .shr)(c:H4 op k a b=some v)(t:TypeId):
  ∃v',(binOp op t (.int k a)<|.int k b).run P w=.ok v' w/\Aa p v v':=by
 cases op<;>simp only[H4]at c<;>simp only[binOp,wk,not_true_eq_false,vb,Op.intArith,Op.intDiv,Op.intBits,Op.intCmp]
 case quo|rem=>
  split at c
  ·cases c
  ·cases c;simp_all [Aa]
 case shl=>grind
 case shr=>grind
 all_goals (cases c;exact⟨_,Zd ..,by simp[Aa]⟩)
theorem J0(f:T.Ok P){t:TypeId}{x y:V}{x' y':Value}(c:Aa p x x')(b:Aa p y y'){r:Bool}(a:Az T t x y=some r):
  (ZT t x' y').run P w=.ok r w:=by
 unfold Az at a;split at a
 case h_16=>
  rename_i s A;obtain⟨l,k,d,B,o⟩:=DU a;simp only[Aa]at c b;obtain⟨u,rfl,m⟩:=c;obtain⟨v,rfl,hv⟩:=b;exact f.flat t l k p s A u v r w d B m hv o
 case h_17=>cases a
 all_goals (rename_i m;simp only[Aa]at c b;unfold ZT Op.maxDepth Op.equalIn;rw[Zb,Ad f m];simp only[Za])
 case h_1=>simp_all
 case h_2=>subst c;split at a<;>first|(cases a;done)|(cases a;simp only[Aa]at b;first|(subst b;rfl)|(obtain⟨_,_,_,rfl⟩:=b;simp))
 case h_3=>obtain⟨_,_,_,rfl⟩:=c;simp_all
 case h_4=>
  split at a
  case isFalse=>cases a
  rename_i e;subst e;split at a
  case h_2=>cases a
  rename_i E g;split at a
  case isFalse=>cases a
  rename_i q;cases a;obtain⟨C,D,k,rfl⟩:=c;obtain⟨r2,n2,d,rfl⟩:=b;rw[k]at d;cases d;simp only[Zb,AB f g,Za,q,wk,not_false_eq_true,wi];unfold sameAddr;simp only[beq_self_eq_true,wi,Zd];congr 1;grind
 case h_5=>obtain⟨_,rfl,_⟩:=c;simp_all
 case h_6=>obtain⟨_,rfl,_⟩:=b;simp_all
 case h_7=>subst c;split at a<;>first|(cases a;done)|(cases a;simp only[Aa]at b;first|(subst b;rfl)|(obtain⟨_,_,_,_,rfl,_⟩:=b;rfl)|(obtain⟨_,_,rfl⟩:=b;simp;done)|(obtain⟨_,rfl⟩:=b;simp;done))
 case h_8=>obtain⟨_,_,_,_,rfl,_⟩:=c;simp_all
 case h_9=>obtain⟨_,_,rfl⟩:=c;simp_all
 case h_10=>obtain⟨_,rfl⟩:=c;simp_all
 case h_11=>subst c;split at a<;>first|(cases a;done)|(cases a;simp only[Aa]at b;first|(subst b;rfl)|(obtain⟨_,_,_,rfl⟩:=b;simp))
 case h_12=>obtain⟨_,_,_,rfl⟩:=c;simp_all
 case h_13=>simp_all
 case h_14=>obtain⟨_,_,rfl,_⟩:=c;simp_all
 case h_15=>obtain⟨_,_,rfl,_⟩:=b;simp_all
def KM:V->Bool
 | .int .. | .str _| .tup _=>false
 |_=>true
theorem FY{t:TypeId}{x y:V}{r:Bool}(a:Az T t x y=some r):KM x=true:=by
 unfold Az at a;split at a<;>first|rfl|grind
theorem Hz{t:TypeId}{x:V}{x' y':Value}(a:Aa p x x')(b:KM x=true):
  binOp .eql t x' y'=(do pure (.bool<|<-ZT t x' y'))/\binOp .neq t x' y'=(do pure (.bool<|!(<-ZT t x' y'))):=by
 cases x<;>simp only[KM]at b<;>simp only[Aa]at a
 case int|str|tup=>cases b
 case ptr=>obtain⟨_,_,_,rfl⟩:=a;cases y'<;>exact⟨rfl,rfl⟩
 case esl=>obtain⟨_,_,rfl⟩:=a;cases y'<;>exact⟨rfl,rfl⟩
 case es0=>obtain⟨_,rfl⟩:=a;cases y'<;>exact⟨rfl,rfl⟩
 case sl=>obtain⟨_,_,_,_,rfl,_⟩:=a;cases y'<;>exact⟨rfl,rfl⟩
 case map=>obtain⟨_,_,_,rfl⟩:=a;cases y'<;>exact⟨rfl,rfl⟩
 case yld=>obtain⟨_,_,_,rfl⟩:=a;cases y'<;>exact⟨rfl,rfl⟩
 case fn=>obtain⟨_,_,rfl,_⟩:=a;cases y'<;>exact⟨rfl,rfl⟩
 case iface=>obtain⟨_,rfl,_⟩:=a;cases y'<;>exact⟨rfl,rfl⟩
 case agg=>obtain⟨_,rfl,_⟩:=a;cases y'<;>exact⟨rfl,rfl⟩
 all_goals (subst a;cases y'<;>exact⟨rfl,rfl⟩)
theorem Ud(f:T.Ok P){op:BinOp}{t:TypeId}{x y:V}{x' y':Value}(d:Aa p x x')(g:Aa p y y'){v:V}(a:FH T op t x y=some v):
  ∃v',(binOp op t x' y').run P w=.ok v' w/\Aa p v v':=by
 unfold FH at a;split at a
 case h_1=>
  unfold PU at a;split at a
  ·cases a
  ·cases a;simp_all [binOp,Op.shift,wa,Aa]
 case h_2=>
  unfold PU at a;split at a
  ·cases a
  ·cases a;simp_all [binOp,Op.shift,wa,Aa]
 case h_3=>
  simp_all [Aa,S8]
 case h_4=>
  simp_all [Aa,Ui,binOp]
 case h_5=>
  rw[Zg]at a;obtain⟨b,c,rfl⟩:=a;rw[(Hz d<|FY c).1];simp only[Zb,J0 f d g c,Za];simp_all [Aa]
 case h_6=>
  rw[Zg]at a;obtain⟨b,c,rfl⟩:=a;rw[(Hz d<|FY c).2];simp only[Zb,J0 f d g c,Za];simp_all [Aa]
 grind
theorem Mm{a:V}{c:Value}(b:Aa p a c)(h:a≠ .nili):c≠ .nilIface:=by
 intro e;subst e;cases a<;>simp only[Aa]at b<;>first|exact h rfl|(simp at b;done)|(done)|(done)|(done)|(done)
theorem Q4{a:V}{c:Array Value}(d:Aa p a (.agg c)):∃b,a=.agg b/\Ac p b c.toList:=by
 cases a<;>simp only[Aa]at d<;>first|(done)|grind|grind|grind|grind
theorem Iv{op:BinOp}{t:TypeId}{x y:Operand}{b b':Value}(a:op≠ .eql)(c:op≠ .neq):eqGuard op t x y b b'=pure ():=by
 cases op<;>first|rfl|exact we rfl a|grind
theorem Pr{op:BinOp}{t:TypeId}{x y:Operand}{a b':Value}(h0:a≠ .nilIface\/b'≠ .nilIface)(f:(∃c d,a=.agg c/\b'=.agg d)->P.eqGuardType P.depth t=false):
  (eqGuard op t x y a b').run P w=.ok () w:=by
 by_cases b:op=.eql\/op=.neq
 ·have:eqGuard op t x y a b'=eqGuard .eql t x y a b':=by rcases b with rfl|rfl<;>rfl
  rw[this];unfold eqGuard;simp only[Bool.not_true,Zn,vb];split
  ·grind
  ·simp_all
  ·rfl
 simp_all [Iv]
theorem Pw(s:T.Ok P){op:BinOp}{t:TypeId}{x y:Operand}{a b:V}{m b':Value}(B:Aa p a m)(u:Aa p b b'){v:V}(k:FH T op t a b=some v):
  (eqGuard op t x y m b').run P w=.ok () w:=by
 by_cases o:op=.eql\/op=.neq
 ·refine Pr ?_ ?_
  ·by_cases e2:a=.nili
   ·by_cases A:b=.nili
    ·subst e2 A;have:Az T t .nili .nili=none:=by simp_all [Az]
     rcases o with rfl|rfl<;>simp[FH,this]at k
    grind [Mm]
   grind [Mm]
  ·rintro⟨c,d,rfl,rfl⟩;obtain⟨f,rfl,g⟩:=Q4 B;obtain⟨ys,rfl,h2⟩:=Q4 u;have he:Az T t (.agg f) (.agg ys)=H7 (T.flat t) f ys:=by simp_all [Az]
   cases q:H7 (T.flat t) f ys with
   |some r=>obtain⟨l,g,_⟩:=DU q;exact s.guard t l g
   |none=>
    rw[q]at he;rcases o with rfl|rfl<;>simp[FH,he]at k
 simp_all [Iv]
def Wr(op:UnOp)(x:V):Option V:=
 match op,x with
 | .neg,.int k n=>some<|.int k<|k.wrap<|0-n
 | .xor,.int k n=>H4 .xor k (if k.signed then -1 else k.max) n
 | .not,.bool b=>some<|.bool !b
 |_,_=>none
theorem VO{op:UnOp}{x:V}{x':Value}(b:Aa p x x'){v:V}(a:Wr op x=some v):∃v',(Op.unary op x').run P w=.ok v' w/\Aa p v v':=by
 unfold Wr at a;split at a
 case h_1=>subst b;cases a;exact⟨_,rfl,by rfl⟩
 case h_2=> 
  subst b;simp only[H4,Zc]at a;subst a;exact⟨_,rfl,by rfl⟩
 case h_3=>subst b;cases a;exact⟨_,rfl,by rfl⟩
 grind
def UT:V->Option UInt8
 | .int .u8 (.ofNat n)=>some<|UInt8.ofNat n
 |_=>none
def bytes?:List V->Option Y
 |[]=>some []
 |v::vs=>
  match UT v,bytes? vs with
  |some b,some a=>some (b::a)
  |_,_=>none
def C3(T:AP)(h:H)(src dst:TypeId)(x:V):Option V:=
 match T.und src,T.und dst,x with
 |some _,some<|.int k,.int _ n=>some<|.int k<|k.wrap n
 |some _,some .string,.str s=>some<|.str s
 |some (.slice e),some .string,.nils=>match T.und e with|some (.int .u8)=>some (.str [])|_=>none
 |some (.slice e),some .string,.sl b off len _ _=>
  match T.und e with
  |some (.int .u8)=>match rd h b off len with
   |some cs=>(bytes? cs).map .str
   |none=>none
  |_=>none
 |_,_,_=>none
theorem Hb{f:Value->ByteArray->Sem (ForInStep ByteArray)}(q:∀n s,f (.int .u8 n) s=pure (ForInStep.yield<|s.push<|UInt8.ofNat n.toNat)):
  ∀(cs:List V) (vs:List Value) (k:Y) (a:Y),Ac p cs vs->bytes? cs=some k->
  ∀w,(forIn vs (bytesOf a) f).run P w=.ok (bytesOf<|a++k) w
 |[],vs,k,a,d,g,w=>by
  simp_all [bytes?]
 |c::cs,[],_,_,d,_,_=>by simp at d
 |c::cs,v::vs,k,a,d,g,w=>by
  simp only[Au]at d;unfold bytes? at g;split at g
  case h_2=>cases g
  rename_i b tl m l;unfold UT at m;split at m
  case h_2=>cases m
  rename_i n;have o:=d.1;simp only[Aa]at o;have:=Hb q cs vs tl (a++[UInt8.ofNat n]) d.2 l w;grind [bytesOf,ByteArray.push]
theorem Rm(b:T.Ok P)(s:R p h w){src dst:TypeId}{x:V}{x':Value}(o:Aa p x x'){v:V}(a:C3 T h src dst x=some v):
  ∃v',(convert src dst x').run P w=.ok v' w/\Aa p v v':=by
 unfold C3 at a;split at a
 case h_1=>
  rename_i d f;subst o;cases a;unfold convert;simp only[Zb,Ad b d,Ad b f,Za];exact⟨_,rfl,by rfl⟩
 case h_2=>
  rename_i d f;cases a;unfold convert;simp only[Zb,Ad b d,Ad b f,Za];simp_all [Aa]
 case h_3=>
  rename_i d f;subst o;split at a
  case h_2=>cases a
  rename_i l;cases a;unfold convert;simp only[Zb,Ad b d,Ad b f,Ad b l,Za];exact⟨_,rfl,by rfl⟩
 case h_4=>
  rename_i d f;split at a
  case h_2=>cases a
  rename_i l;split at a
  case h_2=>cases a
  rename_i cs k;rw[Zg]at a;obtain⟨q,g,rfl⟩:=a;obtain⟨r,n,c,g1,rfl,g2⟩:=o;obtain⟨r',m,vs,k1,k2,k3,_⟩:=run_loadCells (P:=P) s k;rw[g1]at k1;cases k1;refine⟨.string<|bytesOf q,?_,by rfl⟩;unfold convert;simp only[Zb,Ad b d,Ad b f,Ad b l,Za];unfold Conv.bytesToString;simp only[Zb,k2,Za];simp only[List.forIn_toArray];have e:ByteArray.empty=bytesOf []:=rfl;rw[e,Hb (P:=P) (by simp) cs vs q [] k3 g w];simp
 grind
def Ga(T:AP)(t:TypeId)(cs:List V)(off:Nat):Option V:=
 match T.und t,T.inf t with
 |some d,some i=>bif B8 d then some (.agg<|(cs.drop off).take i.size)else cs[off]?
 |_,_=>none
theorem LM(f:T.Ok P){t:TypeId}{cs:List V}{c:Array Value}{off:Nat}(g:Ac p cs c.toList){v:V}(a:Ga T t cs off=some v):
  ∃v',(part t c off).run P w=.ok v' w/\Aa p v v':=by
 unfold Ga at a;split at a
 case h_2=>cases a
 rename_i d i k l;unfold part;simp only[Zb,JO f k,Za];cases b:B8 d with
 |true=>
  simp only[b,wc,Zc]at a;subst a;simp only[wi,Zb,AB f l,Za];refine⟨_,(by rfl),?_⟩;refine⟨_,rfl,?_⟩;have:(c.extract off<|off+i.size).toList=(c.toList.drop off).take i.size:=by
   simp
  rw[this];exact(g.drop off).take i.size
 |false=>
  simp only[b,wd]at a;obtain⟨u,o,m⟩:=g.get a;simp_all
def FE(T:AP)(t:TypeId)(x:V)(f:Nat):Option V:=
 match T.und t,x with
 |some (.struct fs),.agg cs=>match fs[f]? with
  |some a=>Ga T a.type cs a.offset
  |none=>none
 |_,_=>none
theorem Pv(b:T.Ok P){t:TypeId}{x:V}{x':Value}{f:Nat}(l:Aa p x x'){v:V}(a:FE T t x f=some v):
  ∃v',(Instr.field t x' f).run P w=.ok v' w/\Aa p v v':=by
 unfold FE at a;split at a
 case h_2=>cases a
 rename_i fs cs d;split at a
 case h_2=>cases a
 rename_i m g;obtain⟨c,rfl,k⟩:=l;unfold Instr.field;simp only[Zb,Ad b d,Za,g];exact LM b k a
def FJ(T:AP)(t:TypeId)(x:V)(f:Nat):Option V:=
 match T.und t,x with
 |some (.struct fs),.ptr b off=>match fs[f]? with
  |some a=>match T.inf a.type with
   |some i=>if i.size=0 then none else some<|.ptr b<|off+a.offset
   |none=>none
  |none=>none
 |_,_=>none
theorem O5(c:T.Ok P){t:TypeId}{x:V}{x':Value}{f:Nat}(m:Aa p x x'){v:V}(a:FJ T t x f=some v):
  ∃v',(Instr.fieldAt t x' f).run P w=.ok v' w/\Aa p v v':=by
 unfold FJ at a;split at a
 case h_2=>cases a
 rename_i fs b off g;split at a
 case h_2=>cases a
 rename_i q k;split at a
 case h_2=>cases a
 rename_i i l;split at a
 case isTrue=>cases a
 rename_i d;cases a;obtain⟨r,n,o,rfl⟩:=m;unfold Instr.fieldAt;simp only[Zb,Ad c g,Za,k];unfold ZD fieldPlace;simp only[Zd,Za,Zb,AB c l,d,vb,Addr.GV];simp_all [Aa]
def CD(T:AP)(t:TypeId)(x c:V):Option V:=
 match T.und t,x,c with
 |some (.slice e),.sl b off len _ _,.int _ i=>
  match T.inf e,i with
  |some a,.ofNat n=>bif Zx n len then some (.ptr b<|off+n*a.size)else none
  |_,_=>none
 |some (.array len e),.ptr b off,.int _ i=>
  match T.inf e,i with
  |some a,.ofNat n=>bif Zx n len then some (.ptr b<|off+n*a.size)else none
  |_,_=>none
 |_,_,_=>none
theorem DG(a b:Nat):Zx a b=decide (a<b):=by
 rw[Bool.eq_iff_iff];simp
theorem PG(q:T.Ok P){t:TypeId}{x B:V}{x' l:Value}(s:Aa p x x')(g:Aa p B l){v:V}(a:CD T t x B=some v):
  ∃v',(Instr.indexAt t x' l).run P w=.ok v' w/\Aa p v v':=by
 unfold CD at a;split at a
 case h_3=>cases a
 case h_1=>
  rename_i e b off len cap o k i u;split at a
  case h_2=>cases a
  rename_i C n A;rw[DG]at a;by_cases f:n<len
  ·simp only[f,decide_true,wc,Zc]at a;subst a;simp only[Aa]at s g;obtain⟨r,m,c,y,rfl,_⟩:=s;subst g;unfold Instr.indexAt asIntOf;have d:(0:Int)<=(n:Int)/\(n:Int)<(len:Int):=⟨by simp,by simpa using f⟩;simp only[Zb,Zd,Ad q u,Za,d,and_self,wi,AB q A,Addr.GV,Zu,ZA];exact⟨_,rfl,by simp only[Aa];exact⟨_,_,y,rfl⟩⟩
  ·simp[f]at a
 case h_2=>
  rename_i len e b off k i u;split at a
  case h_2=>cases a
  rename_i C n A;rw[DG]at a;by_cases f:n<len
  ·simp only[f,decide_true,wc,Zc]at a;subst a;simp only[Aa]at s g;obtain⟨r,m,y,rfl⟩:=s;subst g;unfold Instr.indexAt asIntOf ZD;have d:(0:Int)<=(n:Int)/\(n:Int)<(len:Int):=⟨by simp,by simpa using f⟩;simp only[Zb,Zd,Ad q u,Za,d,and_self,wi,AB q A,Addr.GV,Zu,ZA];exact⟨_,rfl,by simp only[Aa];exact⟨_,_,y,rfl⟩⟩
  ·simp[f]at a
def EK(T:AP)(t:TypeId)(x a:V):Option V:=
 match T.und t,x,a with
 |some .string,.str s,.int _ (.ofNat n)=>match s[n]? with
  |some b=>some<|.int .u8 b.toNat
  |none=>none
 |some (.array len e),.agg cs,.int _ (.ofNat n)=>
  match T.inf e with
  |some c=>bif Zx n len then Ga T e cs (n*c.size)else none
  |_=>none
 |_,_,_=>none
theorem Pq(m:T.Ok P){t:TypeId}{x u:V}{x' l:Value}(o:Aa p x x')(d:Aa p u l){v:V}(a:EK T t x u=some v):
  ∃v',(Instr.index t x' l).run P w=.ok v' w/\Aa p v v':=by
 unfold EK at a;split at a
 case h_3=>cases a
 case h_1=>
  rename_i s k n q;split at a
  case h_2=>cases a
  rename_i b y;cases a;simp only[Aa]at o d;subst o d;unfold Instr.index asIntOf;have e:(bytesOf s)[n]?=some b:=by
   have B:=(Zk.1 y).1;have r:=(Zk.1 y).2;rw[getElem?_pos (bytesOf s) n<|by rw[AM];exact B];congr 1
  simp only[Zb,Zd,Ad m q,Za,Zu,Int.natCast_nonneg,wi,ZA,e];exact⟨_,rfl,by simp[Aa]⟩
 case h_2=>
  rename_i len e cs k n q;split at a
  case h_2=>cases a
  rename_i C r;rw[DG]at a;by_cases g:n<len
  ·simp only[g,decide_true,wc]at a;simp only[Aa]at o d;obtain⟨c,rfl,A⟩:=o;subst d;unfold Instr.index asIntOf;have f:(0:Int)<=(n:Int)/\(n:Int)<(len:Int):=⟨by simp,by simpa using g⟩;simp only[Zb,Zd,Ad m q,Za,f,and_self,wi,AB m r,Zu,ZA];exact LM m A a
  ·simp[g]at a
def DD(x:V)(i:Nat):Option V:=
 match x with
 | .tup vs=>vs[i]?
 |_=>none
theorem L9{x:V}{x':Value}{i:Nat}(d:Aa p x x'){v:V}(a:DD x i=some v):∃v',(Instr.extract x' i).run P w=.ok v' w/\Aa p v v':=by
 unfold DD at a;split at a
 case h_2=>cases a
 obtain⟨c,rfl,b⟩:=d;obtain⟨u,h1,h2⟩:=b.get a;simp_all [Instr.extract]
def ER(x:Option V)(y D9:Nat):Option Nat:=
 match x with
 |none=>some D9
 |some (.int _<|.ofNat n)=>bif Zi n y then some n else none
 |_=>none
def GC(mx:Option V)(o:Nat):Nat:=match mx with|some _=>0|none=>o
def Sz(a mx:Option V):Option Nat:=match a,mx with
 |none,some _=>none
 |_,_=>ER a 0 0
def HM(mx:Option V):Bool:=match mx with
 |some _=>true
 |none=>false
def BO(T:AP)(t:TypeId)(x:V)(c a mx:Option V):Option V:=
 match T.und t,x with
 |some .string,.str s=>
  match mx,ER a s.length s.length with
  |none,some h=>match ER c h 0 with
   |some l=>some<|.str<|(s.drop l).take<|h-l
   |none=>none
  |_,_=>none
 |some (.slice e),.sl b off len cap o=>
  match T.inf e,ER mx cap cap with
  |some d,some m=>match (match a,mx with|none,some _=>none|_,_=>ER a m len)with
   |some h=>match ER c h 0 with
    |some l=>
     let o':=GC mx o
     bif Zf m l then(bif Zf o' 0 then some (.sl b off (h-l) (m-l) 0)else some .esl)
     else bif Zf o' 0||Zf o' d.size then some (.sl b (off+l*d.size) (h-l) (m-l) o')else none
    |none=>none
   |none=>none
  |_,_=>none
 |some (.slice e),.nils=>
  match ER mx 0 0,Sz a mx,T.inf e with
  |some _,some h,some _=>match ER c h 0 with
   |some _=>some .nils
   |none=>none
  |_,_,_=>none
 |some (.slice e),.esl=>
  match ER mx 0 0,Sz a mx,T.inf e with
  |some _,some h,some _=>match ER c h 0 with
   |some _=>some<|bif HM mx then .es0 else .esl
   |none=>none
  |_,_,_=>none
 |some (.slice e),.es0=>
  match ER mx 0 0,Sz a mx,T.inf e with
  |some _,some h,some _=>match ER c h 0 with
   |some _=>some .es0
   |none=>none
  |_,_,_=>none
 |some (.array n e),.ptr b off=>
  match T.inf e,mx,ER a n n with
  |some d,none,some h=>match ER c h 0 with
   |some l=>bif Zf n l then some (.sl b off (h-l) (n-l) 0)else some<|.sl b (off+l*d.size) (h-l) (n-l) 0
   |none=>none
  |_,_,_=>none
 |_,_=>none
def Dy(p:Pl):Option V->Option Value->Prop
 |none,x=>x=none
 |some d,x=>∃v,x=some v/\Aa p d v
theorem AR{x:Option V}{x':Option Value}{y z n y':Nat}(f:Dy p x x')(b:ER x y z=some n)(l:y<=y'):
  (x=none/\x'=none/\n=z)\/(∃d u,x=some d/\x'=some u/\n<=y/\∀a (P:Program) (w:World),(Instr.sliceBound u y' a).run P w=.ok n w):=by
 cases x with
 |none=>simp_all [Dy,ER]
 |some d=>
  obtain⟨u,rfl,g⟩:=f;unfold ER at b;split at b
  case h_1=>grind
  case h_3=>cases b
  rename_i k m e;cases e;by_cases c:m<=y
  ·simp only[Nat.ble_eq_true_of_le c,wc,Zc]at b;simp only[Aa]at g;unfold Instr.sliceBound asIntOf;have o:(0:Int)<=(m:Int)/\(m:Int)<=(y':Int):=a8;simp_all
  ·have:Zi m y=false:=by simp_all [Bool.eq_false_iff]
   grind
theorem EH{x g mx:Option V}{o q k:Option Value}(f:Dy p x o)(b:Dy p g q)(r:Dy p mx k){m h l:Nat}(B:ER mx 0 0=some m)(A:Sz g mx=some h)(v:ER x h 0=some l)(c:Nat):
  (Zq true 0 c o q k).run P w=.ok (0,0,bif HM mx then 0 else c) w:=by
 unfold Sz at A;have h0:h=0:=by
  have:ER g 0 0=some h:=by
   grind
  rcases AR b this (Ze _)with⟨_,_,rfl⟩|⟨_,_,_,_,h,_⟩<;>omega
 subst h0;unfold Zq;cases mx with
 |none=>
  have a:ER g 0 0=some 0:=ae
  simp only[Dy]at r;rcases AR b a (Nat.zero_le c)with⟨_,rfl,_⟩|⟨_,u,_,rfl,_,D⟩<;>rcases AR f v (Ze _)with⟨_,rfl,_⟩|⟨_,y,_,rfl,_,s⟩
  all_goals simp_all [HM]
 |some d=>
  cases g with
  |none=>grind
  |some E=>
   have a:ER (some E) 0 0=some 0:=a8
   rcases AR r B (Nat.zero_le c)with⟨h,_,_⟩|⟨_,G,_,rfl,C,F⟩
   ·cases h
   ·obtain rfl:m=0:=a8
    rcases AR b a a8 with⟨h,_,_⟩|⟨_,u,_,rfl,_,D⟩
    ·cases h
    ·rcases AR f v a8 with⟨_,rfl,_⟩|⟨_,y,_,rfl,_,s⟩
     all_goals simp_all [HM]
theorem PN(E:T.Ok P){t:TypeId}{x:V}{lo hi mx:Option V}{x':Value}{K I N:Option Value}(M:Aa p x x')(A:Dy p lo K)(q:Dy p hi I)(D:Dy p mx N)
  {v:V} (f:BO T t x lo hi mx=some v):∃v',(Zp t x' K I N).run P w=.ok v' w/\Aa p v v':=by
 unfold BO at f;split at f
 case h_7=>cases f
 case h_1=>
  rename_i s F;split at f
  case h_2=>cases f
  rename_i y g;split at f
  case h_2=>cases f
  rename_i l G;cases f;simp only[Dy]at D;subst D;simp only[Aa]at M;subst M;refine⟨.string<|bytesOf<|(s.drop l).take<|y-l,?_,by rfl⟩;unfold Zp;simp only[Zb,Ad E F,Za];unfold ZK;simp only[Zb,Ad E F,Za,Option.isSome_none,Zn,vb,AM];unfold Zq;have e:(bytesOf s).extract l y=bytesOf ((s.drop l).take<|y-l):=by
   apply ByteArray.ext;simp_all [bytesOf]
  rcases AR q g (Ze _)with⟨_,rfl,rfl⟩|⟨_,u,_,rfl,_,hu⟩<;>rcases AR A G (Ze _)with⟨_,rfl,rfl⟩|⟨_,u2,_,rfl,_,Y⟩
  all_goals simp_all
 case h_2=>
  rename_i e b off len cap o F;split at f
  case h_2=>cases f
  rename_i Z m U hm;split at f
  case h_2=>cases f
  rename_i y g;split at f
  case h_2=>cases f
  rename_i l G;simp only[Aa]at M;obtain⟨r,n,c,hp,rfl,hlen,Q,ho1,ho2⟩:=M;obtain⟨L,gm2,hhm,R,hbounds⟩:∃L,((mx=none/\L=c/\m=cap)\/(mx≠none/\L=m))/\y<=m/\l<=y/\(Zq true len c K I N).run P w=.ok (l,y,L) w:=by
   have R:l<=y:=by
    rcases AR A G (Ze _)with⟨_,_,rfl⟩|⟨_,_,_,_,h,_⟩
    ·omega
    omega
   rcases AR D hm Q with⟨rfl,rfl,rfl⟩|⟨dm,um,rfl,rfl,hm1,hum⟩
   ·have B:ER hi m len=some y:=ae
    refine⟨c,(by simp),?_,R,?_⟩
    ·rcases AR q B Q with⟨_,_,rfl⟩|⟨_,_,_,_,h,_⟩
     ·omega
     omega
    ·unfold Zq;rcases AR q B Q with⟨_,rfl,rfl⟩|⟨_,u,_,rfl,_,hu⟩<;>rcases AR A G (Ze _)with⟨_,rfl,rfl⟩|⟨_,u2,_,rfl,_,Y⟩
     all_goals simp_all
   ·cases hi with
    |none=>grind
    |some dh=>
     have B:ER (some dh) m len=some y:=a8
     refine⟨m,(by simp),?_,R,?_⟩
     ·rcases AR q B a8 with⟨h,_⟩|⟨_,_,_,_,h,_⟩
      ·cases h
      omega
     ·unfold Zq;rcases AR q B (Ze _)with⟨h,_,_⟩|⟨_,u,_,rfl,_,hu⟩
      ·cases h
      ·rcases AR A G (Ze _)with⟨_,rfl,rfl⟩|⟨_,u2,_,rfl,_,Y⟩
       all_goals simp_all
  have gm1:m<=L:=a8
  have C:(Zp t (.slice (some ⟨r,off,none⟩) len c) K I N).run P w=.ok (.slice (if L=l then some ⟨r,off,none⟩else some ⟨r,off+l*Z.size,none⟩) (y-l)<|L-l) w:=by
   unfold Zp;simp only[Zb,Ad E F,Za];unfold ZK;simp only[Zb,Ad E F,Za,hbounds,AB E U,Zd];simp
  refine⟨_,C,?_⟩;simp only[Aw]at f;by_cases J:m=l
  ·simp only[J,decide_true,wc]at f;by_cases S:GC mx o=0
   ·simp only[S,decide_true,wc,Zc]at f;subst f;have hm':L=l:=by
     grind [GC]
    simp_all [Aa]
   ·simp only[S,decide_false,wd,Zc]at f;subst f;have X:y-l=0:=a8
    simp only[X,Aa];grind
  ·simp only[J,decide_false,wd]at f;by_cases S:GC mx o=0\/GC mx o=Z.size
   ·have W:(decide (GC mx o=0)||decide (GC mx o=Z.size))=true:=ae
    simp only[W,wc,Zc]at f;subst f;have hne:L≠l:=a8
    simp only[hne,vb,Aa];refine⟨r,n,_,hp,rfl,by omega,by omega,fun k=>?_,fun k=>?_⟩
    ·grind [GC]
    ·rcases gm2 with⟨k1,k2,k3⟩|⟨k1,k2⟩
     ·subst k1;simp only[GC]at k S ⊢;rcases S with S|S
      ·omega
      ·have:=ho2 k;subst k2;rw[<-S];have e:off+l*o+(L-l)*o=off+L*o:=by
        rw[Nat.sub_mul];have:l*o<=L*o:=Zv _ a8;omega
       omega
     ·cases mx with
      |none=>grind
      |some d=>simp[GC]at k
   grind
 case h_3=>
  rename_i e F;split at f
  case h_2=>cases f
  rename_i mm y tz O g X;split at f
  case h_2=>cases f
  rename_i l G;cases f;simp only[Aa]at M;subst M;refine⟨.slice none 0 0,?_,by rfl⟩;unfold Zp;simp only[Zb,Ad E F,Za];unfold ZK;simp only[Zb,Ad E F,Za,EH (P:=P) (w:=w) A q D O g G 0];cases mx<;>simp[HM,AB E X]
 case h_4=>
  rename_i e F;split at f
  case h_2=>cases f
  rename_i mm y tz O g X;split at f
  case h_2=>cases f
  rename_i l G;simp only[Aa]at M;obtain⟨a,c,rfl⟩:=M;have C:∃a',(Zp t (.slice (some a) 0 c) K I N).run P w=.ok (.slice (some a') 0<|bif HM mx then 0 else c) w:=by
   unfold Zp;simp only[Zb,Ad E F,Za];unfold ZK;simp only[Zb,Ad E F,Za,EH (P:=P) (w:=w) A q D O g G c];simp only[AB E X,Za,Zd,Nat.sub_zero,Nat.sub_self];split
   ·simp
   simp
  obtain⟨a',ha'⟩:=C;refine⟨_,ha',?_⟩;cases f;cases mx with
  |none=>simp_all [HM,Aa]
  |some d=>simp_all [HM,Aa]
 case h_5=>
  rename_i e F;split at f
  case h_2=>cases f
  rename_i mm y tz O g X;split at f
  case h_2=>cases f
  rename_i l G;cases f;simp only[Aa]at M;obtain⟨a,rfl⟩:=M;refine⟨.slice (some a) 0 0,?_,by simp_all [Aa]⟩;unfold Zp;simp only[Zb,Ad E F,Za];unfold ZK;simp only[Zb,Ad E F,Za,EH (P:=P) (w:=w) A q D O g G 0];cases mx<;>simp[HM,AB E X]
 case h_6=>
  rename_i nn e b off F;split at f
  case h_2=>cases f
  rename_i Z y U g;split at f
  case h_2=>cases f
  rename_i l G;simp only[Dy]at D;subst D;simp only[Aa]at M;obtain⟨r,n,hp,rfl⟩:=M;have R:l<=y:=by rcases AR A G (Ze _)with⟨_,_,rfl⟩|⟨_,_,_,_,h,_⟩<;>omega
  have hhn:y<=nn:=by rcases AR q g (Ze _)with⟨_,_,rfl⟩|⟨_,_,_,_,h,_⟩<;>omega
  have C:(Zp t (.pointer<|some ⟨r,off,none⟩) K I none).run P w=.ok (.slice (some<|if nn=l then⟨r,off,none⟩else⟨r,off+l*Z.size,none⟩) (y-l)<|nn-l) w:=by
   unfold Zp;simp only[Zb,Ad E F,Za];unfold ZD Zq;rcases AR q g (Ze _)with⟨_,rfl,rfl⟩|⟨_,u,_,rfl,_,hu⟩<;>rcases AR A G (Ze _)with⟨_,rfl,rfl⟩|⟨_,u2,_,rfl,_,Y⟩
   all_goals simp only[Option.isSome_none,Zn,vb,Zb,Zd,Za,AB E U,Addr.GV, *]
  refine⟨_,C,?_⟩;simp only[Aw]at f;by_cases J:nn=l
  ·simp only[J,decide_true,wc,Zc]at f;subst f;simp_all [Aa]
  ·simp only[J,decide_false,wd,Zc]at f;subst f;simp only[J,vb,Aa];grind
def i64(n:Nat):V:=.int .i64<|.ofNat n
def C2(T:AP)(h:H)(ts:Array TypeId)(args:List V):Option V:=
 match ts[0]?,args with
 |some t,[x]=>
  match T.und t,x with
  |some .string,.str s=>some<|i64 s.length
  |some (.array n _),_=>some<|i64 n
  |some (.slice _),.sl _ _ len _ _=>some<|i64 len
  |some (.slice _),.nils=>some<|i64 0
  |some (.slice _),.esl=>some<|i64 0
  |some (.slice _),.es0=>some<|i64 0
  |some (.map _ _),.nilm=>some<|i64 0
  |some (.map _ _),.map b=>match h.get b with
   |some (.map es _)=>some<|i64 es.length
   |_=>none
  |_,_=>none
 |_,_=>none
theorem Ac.one{ds:V}{l:List Value}(a:Ac p [ds] l):∃v,l=[v]/\Aa p ds v:=by
 match l,a with
 |[v],h=>simp_all
 |[],h=>simp at h
 |_::_::_,h=>simp at h
theorem Ac.two{d e:V}{l:List Value}(a:Ac p [d,e] l):∃v u,l=[v,u]/\Aa p d v/\Aa p e u:=by
 match l,a with
 |[v,u],h=>exact⟨v,u,rfl,by simp_all⟩
 |[],h=>simp at h
 |[_],h=>simp at h
 |_::_::_::_,h=>simp at h
theorem BE.length{es:List (V×V×Nat)}{l:List MapEntry}(h:BE p es l):es.length=l.length:=by
 induction h with
 |nil=>rfl
 |cons _ _ _ _ a=>simp[a]
theorem S9(s:T.Ok P)(y:R p h w){ts:Array TypeId}{t:TypeId}{args:List V}{args':Array Value}(k:Ac p args args'.toList){v:V}(a:C2 T h ts args=some v):
  ∃v',(Builtin.len_ ts t args').run P w=.ok v' w/\Aa p v v':=by
 unfold C2 at a;split at a
 case h_2=>cases a
 rename_i t0 x q;obtain⟨x',d,b⟩:=k.one;have c:args'[0]?=some x':=by rw[<-ZE,d];rfl
 unfold Builtin.len_;simp only[q,c];split at a
 case h_9=>cases a
 all_goals (rename_i C;simp only[Zb,Ad s C,Za];try simp only[Aa]at b)
 case h_1=>cases a;simp_all [i64,Aa,goInt,AM]
 case h_2=>cases a;simp_all [i64,Aa,goInt]
 case h_3=>obtain⟨_,_,_,_,rfl,_⟩:=b;cases a;simp_all [i64,Aa,goInt]
 case h_4=>cases a;simp_all [i64,Aa,goInt]
 case h_5=>obtain⟨_,_,rfl⟩:=b;cases a;simp_all [i64,Aa,goInt]
 case h_6=>obtain⟨_,rfl⟩:=b;cases a;simp_all [i64,Aa,goInt]
 case h_7=>cases a;simp_all [i64,Aa,goInt]
 case h_8=>
  obtain⟨r,n,m,rfl⟩:=b;split at a
  case h_2=>cases a
  rename_i es E u;cases a;obtain⟨D,n',o,f,A,l,B,g⟩:=y.obj _ _ u;rw[m]at f;cases f;subst B;refine⟨goInt l.size,?_,?_⟩
  ·simp[getObj,ZS,A]
  ·have:=g.length;simp only[i64,Aa,goInt];grind
def SJ(a b:V):Option V:=
 match a,b with
 | .int k x,.int _ y=>some<|.int k<|if y>x then y else x
 |_,_=>none
def Tq(a b:V):Option V:=
 match a,b with
 | .int k x,.int _ y=>some<|.int k<|if y<x then y else x
 |_,_=>none
def dfold(f:V->V->Option V):V->List V->Option V
 |x,[]=>some x
 |x,y::a=>match f x y with
  |some z=>dfold f z a
  |none=>none
theorem HK{f:V->V->Option V}{g:Value->Value->Sem Value}(m:∀ {a b c:V} {r b':Value},Aa p a r->Aa p b b'->f a b=some c->∃q,(g r b').run P w=.ok q w/\Aa p c q):
  ∀(o:List V) (k:List Value) (x:V) (x':Value),Aa p x x'->Ac p o k->∀ {v:V},dfold f x o=some v->∃v',(k.foldlM g x').run P w=.ok v' w/\Aa p v v'
 |[],k,x,x',s,d,v,l=>by
  cases l;simp_all
 |y::o,[],_,_,_,d,_,_=>by simp at d
 |y::o,y'::k,x,x',s,d,v,l=>by
  simp only[Au]at d;unfold dfold at l;split at l
  case h_2=>cases l
  rename_i z u;obtain⟨B,C,A⟩:=m s d.1 u;obtain⟨v',h3,h4⟩:=HK m o k z B A d.2 l;simp_all
def Dc(f:V->V->Option V)(args:List V):Option V:=
 match args with
 |[]=>none
 |x::a=>dfold f x a
theorem Td{ts:Array TypeId}{t:TypeId}{args:List V}{args':Array Value}(d:Ac p args args'.toList){v:V}(f:Dc SJ args=some v):
  ∃v',(Builtin.max_ ts t args').run P w=.ok v' w/\Aa p v v':=by
 unfold Dc at f;split at f
 case h_1=>cases f
 rename_i x q;unfold Builtin.max_;cases l:args'.toList with
 |nil=>simp_all
 |cons x' k=>
  rw[l]at d;simp only[Au]at d;refine HK (fun {a b c r b'} m o g=>?_) q k x x' d.1 d.2 f;unfold SJ at g;split at g
  case h_2=>cases g
  subst m o;cases g;exact⟨_,rfl,by rfl⟩
theorem TL{ts:Array TypeId}{t:TypeId}{args:List V}{args':Array Value}(d:Ac p args args'.toList){v:V}(f:Dc Tq args=some v):
  ∃v',(Builtin.min_ ts t args').run P w=.ok v' w/\Aa p v v':=by
 unfold Dc at f;split at f
 case h_1=>cases f
 rename_i x q;unfold Builtin.min_;cases l:args'.toList with
 |nil=>simp_all
 |cons x' k=>
  rw[l]at d;simp only[Au]at d;refine HK (fun {a b c r b'} m o g=>?_) q k x x' d.1 d.2 f;unfold Tq at g;split at g
  case h_2=>cases g
  subst m o;cases g;exact⟨_,rfl,by rfl⟩
def Er(place:Nat->Option (Nat×Nat))(cells:List V):List (Nat×V)->Option (List V)
 |[]=>some cells
 |(i,v)::a=>
  match place i with
  |none=>none
  |some (off,size)=>bif Zf v.cells.length size&&Zi (off+size) cells.length then Er place (DE cells off v.cells) a else none
theorem Mb:∀(b:List V) (vs:List Value) (cs:List V) (c:Array Value) (off:Nat),Ac p b vs->Ac p cs c.toList->
  ∀k,Ac p (DE cs (off+k) b) ((vs.zipIdx k).foldl (fun cs (c,j)=>cs.setIfInBounds (off+j) c) c).toList
 |[],vs,cs,c,off,a,d,k=>by simp_all [DE]
 |x::b,[],_,_,_,a,_,_=>by simp at a
 |x::b,v::vs,cs,c,off,a,d,k=>by
  simp only[Au]at a;simp only[DE,List.zipIdx_cons,List.foldl_cons];have:=Mb b vs (cs.set (off+k) x) (c.setIfInBounds (off+k) v) off a.2 (by simpa using d.set (off+k) a.1)<|k+1;omega
inductive Lx (p:Pl):List (Nat×V)->List (Nat×Value)->Prop
 |nil:Lx p [] []
 |cons {i:Nat} {v:V} {v':Value} {l:List (Nat×V)} {l':List (Nat×Value)}:Aa p v v'->Lx p l l'->Lx p ((i,v)::l) ((i,v')::l')
theorem Gr{place:Nat->Option (Nat×Nat)}:∀ {l:List (Nat×V)} {l':List (Nat×Value)},Lx p l l'->∀ {cs:List V} {c:Array Value} {out:List V},Ac p cs c.toList->Er place cs l=some out->
  ∃o,Instr.fill place c l'=some o/\Ac p out o.toList:=by
 intro l l' f;induction f with
 |nil=>intro cs c out d b;cases b;exact⟨c,rfl,d⟩
 |@cons i v v' l l' g f r=>
  intro cs c out d b;unfold Er at b;split at b
  case h_1=>cases b
  rename_i off size m;cases a:(Zf v.cells.length size&&Zi (off+size) cs.length)with
  |false=>grind
  |true=>
   simp only[Zl,Zy,Aw,w5]at a;have q:=g.cells.length;have k:=d.length;unfold Instr.fill;have:=Mb (p:=p) v.cells v'.cells.toList cs c off g.cells d 0;grind [Array.toList_zipIdx]
def FC(T:AP)(t:TypeId)(a:List (Nat×V)):Option V:=
 match T.inf t,T.und t with
 |some i,some (.struct fs)=>
  match fs.toList.mapM (fun f=>(T.inf f.type).map fun j=>(f.offset,j.size))with
  |some pl=>(Er (fun i=>pl[i]?) i.zero a).map .agg
  |none=>none
 |some i,some (.array _ e)=>match T.inf e with
  |some j=>(Er (fun i=>some (i*j.size,j.size)) i.zero a).map .agg
  |none=>none
 |_,_=>none
theorem run_places(c:T.Ok P):∀ {fs:List Field} {pl:List (Nat×Nat)},fs.mapM (fun f=>(T.inf f.type).map fun j=>(f.offset,j.size))=some pl->
  ∀w,(fs.mapM<|fun f=>(do pure (f.offset, <-sizeOf f.type):Sem (Nat×Nat))).run P w=.ok pl w
 |[],pl,h,w=>by simp_all
 |f::fs,pl,h,w=>by
  cases a:T.inf f.type with
  |none=>grind
  |some j=>
   cases b:fs.mapM (fun f=>(T.inf f.type).map fun j=>(f.offset,j.size))with
   |none=>grind
   |some d=>
    simp[a,b]at h;subst h;rw[List.mapM_cons];simp only[Zb,AB c a,Za,Zd,run_places c b]
theorem Pa(d:T.Ok P){t:TypeId}{c:List (Nat×V)}{a:Array (Nat×Value)}(q:Lx p c a.toList){v:V}(b:FC T t c=some v):
  ∃v',(Instr.build t a).run P w=.ok v' w/\Aa p v v':=by
 unfold FC at b;split at b
 case h_3=>cases b
 case h_1=>
  rename_i i fs g k;split at b
  case h_2=>cases b
  rename_i pl l;rw[Zg]at b;obtain⟨out,m,rfl⟩:=b;obtain⟨z,hz,hzr⟩:=BY d g;have s:(fs.mapM<|fun f=>(do pure (f.offset, <-sizeOf f.type):Sem (Nat×Nat))).run P w=.ok pl.toArray w:=by
   rw[Array.mapM_eq_mapM_toList];simp only[Sem.run_map,run_places d l,Za]
  obtain⟨o,r,u⟩:=Gr (p:=p) (place:=fun i=>pl.toArray[i]?) q (hzr p) (out:=out) ae;refine⟨.agg o,?_,by simp_all [Aa]⟩;unfold Instr.build;simp only[Zb,hz,Za,Ad d k];simp_all
 case h_2=>
  rename_i i n e g k;split at b
  case h_2=>cases b
  rename_i j x;rw[Zg]at b;obtain⟨out,m,rfl⟩:=b;obtain⟨z,hz,hzr⟩:=BY d g;obtain⟨o,r,u⟩:=Gr (p:=p) (place:=fun i=>some (i*j.size,j.size)) q (hzr p) m;refine⟨.agg o,?_,by simp_all [Aa]⟩;unfold Instr.build;simp only[Zb,hz,Za,Ad d k,AB d x,r,Zd]
def CI(z:List V)(n:Nat):List V:=(List.range n).map fun i=>z.getD (i % z.length)<|.tup []
theorem Fc{z:List V}{c:Array Value}(b:Ac p z c.toList)(a:0<z.length)(n:Nat):Ac p (CI z n) ((Array.range n).map<|fun i=>c[i % c.size]!).toList:=by
 have m:=b.length;apply Ac.mk (by simp[CI]);intro i d v k l;have f:i<n:=ae
 simp only[CI,List.getElem?_map,List.getElem?_range f,Option.map_some,Zc]at k;have g:i % z.length<z.length:=Nat.mod_lt _ a;obtain⟨u,o,q⟩:=b.get (i:=i % z.length) (d:=z[i % z.length]) (by simp[g]);grind
def Cm(T:AP)(h:H)(t:TypeId)(len:Nat)(a:List (Nat×V)):Option (V×H):=
 match T.und t with
 |some (.slice e)=>match T.inf e with
  |some i=>
   bif Zi (len*i.size) 16777216&&Zx 0 (i.zero.length)&&Zf i.zero.length i.size then
    match Er (fun k=>some (k*i.size,i.size)) (CI i.zero<|len*i.size) a with
    |some cs=>some (.sl h.nx 0 len len 0,EB h e cs)
    |none=>none
   else none
  |none=>none
 |_=>none
theorem MU(g:T.Ok P)(q:R p h w){t:TypeId}{len:Nat}{c:List (Nat×V)}{b:Array (Nat×Value)}(r:Lx p c b.toList){v:V}{h':H}
  (d:Cm T h t len c=some (v,h')):∃v' p' w',(Instr.buildSlice t len b).run P w=.ok v' w'/\Aa p' v v'/\Ext p h w p' h' w':=by
 unfold Cm at d;split at d
 case h_2=>cases d
 rename_i e u;split at d
 case h_2=>cases d
 rename_i i m;cases a:(Zi (len*i.size) 16777216&&Zx 0 (i.zero.length)&&Zf i.zero.length i.size)with
 |false=>grind
 |true=>
  simp only[a,wc]at d;simp only[Zl,Zy,Nat.blt_eq,Aw,w5]at a;obtain⟨⟨c1,s⟩,y⟩:=a;split at d
  case h_2=>cases d
  rename_i cs l;cases d;obtain⟨z,x,f⟩:=BY g m;obtain⟨o,h1,h2⟩:=Gr (p:=p) (place:=fun k=>some (k*i.size,i.size)) r (Fc (f p) s<|len*i.size) l;obtain⟨n,he,hpn,hn⟩:=HA q e h2;refine⟨.slice (some ⟨w.heap.size,0,none⟩) len len,_,_,?_,?_,he⟩
  ·unfold Instr.buildSlice;simp only[Zb,Ad g u,Za,AB g m];by_cases h0:len*i.size=0
   ·grind [Zb,Zd,Za,A9]
   simp_all [A9]
  simp_all [Aa]
def IG(T:AP)(h:H)(t:TypeId)(len cap:V):Option (V×H):=
 match T.und t,len,cap with
 |some (.slice e),.int _<|.ofNat l,.int _ (.ofNat c)=>
  match T.inf e with
  |some i=>
   bif Zi l c&&Zx c 9223372036854775808&&Zi (i.bytes*c) 281474976710656&&Zx 0 i.zero.length&&Zf i.zero.length i.size then
    some (.sl h.nx 0 l c 0,EB h e<|CI i.zero<|c*i.size)
   else none
  |none=>none
 |_,_,_=>none
theorem wrap_small(c:Nat)(h:c<9223372036854775808):IntKind.i64.wrap (c:Int)=c:=IntWalk.i64_in _ a8
theorem Sm(g:T.Ok P)(r:R p h w){t:TypeId}{len cap:V}{d b:Value}(u:Aa p len d)(x:Aa p cap b){v:V}{h':H}(f:IG T h t len cap=some (v,h')):
  ∃v' p' w',(Instr.makeSlice t d b).run P w=.ok v' w'/\Aa p' v v'/\Ext p h w p' h' w':=by
 unfold IG at f;split at f
 case h_2=>cases f
 rename_i e k l A c y;split at f
 case h_2=>cases f
 rename_i i m;cases a:(Zi l c&&Zx c 9223372036854775808&&Zi (i.bytes*c) 281474976710656&&Zx 0 i.zero.length&&Zf i.zero.length i.size)with
 |false=>grind
 |true=>
  simp only[a,wc,Zc,Zs]at f;obtain⟨rfl,rfl⟩:=f;simp only[Zl,Zy,Nat.blt_eq,Aw,w5]at a;obtain⟨⟨⟨⟨c1,c2⟩,c3⟩,c4⟩,c5⟩:=a;subst u x;obtain⟨z,hz,hzr⟩:=BY g m;obtain⟨j,hj,hjb,_⟩:=IQ g m;obtain⟨n,he,hpn,hn⟩:=HA r e<|Fc (hzr p) c4<|c*i.size;refine⟨.slice (some ⟨w.heap.size,0,none⟩) l c,_,_,?_,?_,he⟩
  ·unfold Instr.makeSlice asInt asIntOf;simp only[Zb,Zd,Ad g y,Za,hj,Zu,wrap_small c c2,wrap_small l a8,hjb];have o:(i.bytes:Int)*(c:Int)=((i.bytes*c:Nat):Int):=(by rfl);rw[o];generalize i.bytes*c=q at c3 o ⊢;have s:¬((decide ((c:Int)<0)||decide ((q:Int)>2^48))||decide ((l:Int)<0)||decide ((l:Int)>(c:Int)))=true:=by
    grind
   rw[wa s];simp only[Zb,Za,run_askRoom,AB g m,ZA];by_cases h0:c*i.size=0
   ·grind [Zb,Zd,Za,A9]
   simp_all [A9]
  simp_all [Aa]
def src(h:H)(size:Nat)(x:V)(n:Nat):Option (List V):=
 match x with
 | .nils=>some []
 | .esl=>bif Zf n 0 then some []else none
 | .es0=>bif Zf n 0 then some []else none
 | .sl b off _ _ _=>rd h b off<|n*size
 | .str s=>some<|(s.take n).map fun c=>.int .u8 c.toNat
 |_=>none
def IE:V->Option Nat
 | .nils=>some 0
 | .esl=>some 0
 | .es0=>some 0
 | .sl _ _ len _ _=>some len
 | .str s=>some s.length
 |_=>none
theorem IU{x:V}{x':Value}(b:Aa p x x'){n:Nat}(a:IE x=some n):(ZH x').run P w=.ok n w:=by
 unfold IE at a;split at a
 case h_1=>subst b;cases a;rfl
 case h_2=>obtain⟨_,_,rfl⟩:=b;cases a;rfl
 case h_3=>obtain⟨_,rfl⟩:=b;cases a;rfl
 case h_4=>obtain⟨_,_,_,_,rfl,_⟩:=b;cases a;rfl
 case h_5=>simp_all [Aa,ZH,AM]
 grind
theorem FN(f:R p h w){size n:Nat}{x:V}{x':Value}(d:Aa p x x'){cs:List V}(b:src h size x n=some cs):
  ∃vs:List Value,(Zj size n x').run P w=.ok vs.toArray w/\Ac p cs vs:=by
 unfold src at b;split at b
 case h_6=>cases b
 case h_1=>subst d;cases b;exact⟨[],rfl,by simp⟩
 case h_2=>
  obtain⟨a,c,rfl⟩:=d;rw[Aw]at b;by_cases e:n=0
  ·simp_all [Zj,loadCells,loadCellsFrom]
  grind
 case h_3=>
  obtain⟨a,rfl⟩:=d;rw[Aw]at b;by_cases e:n=0
  ·simp_all [Zj,loadCells,loadCellsFrom]
  grind
 case h_4=>
  obtain⟨r,m,c,g,rfl,_⟩:=d;obtain⟨r',m',vs,h1,h2,h3,_⟩:=run_loadCells (P:=P) f b;rw[g]at h1;cases h1;exact⟨vs,h2,h3⟩
 case h_5=>
  rename_i s;simp only[Aa]at d;refine⟨(s.take n).map fun c=>.int .u8 c.toNat,?_,?_⟩
  ·simp_all [Zj,bytesOf]
  grind [Ac.mk,Aa]
theorem MW(a c:Nat)(h:c<a):2*Zw a c<=3*a+2000:=by
 unfold Zw;grind [Builtin.growBy]
def isInt:TypeDesc->Bool
 | .int _=>true
 |_=>false
def H9:V->Bool
 | .str _=>false
 |_=>true
def Dh(T:AP)(h:H)(ts:Array TypeId)(args:List V):Option (V×H):=
 match ts[0]?,ts[1]?,args with
 |some t,some tx,[s,x]=>
  match T.und t,T.und tx,IE x with
  |some (.slice e),some dx,some n=>
   match T.inf e,isInt dx with
   |some i,false=>
    bif Zx 0 i.bytes&&Zx 0 i.size&&Zf i.zero.length i.size&&(Zf i.size 1||H9 x)then
     match src h i.size x n with
     |some new=>
      match s with
      | .nils=>
       bif Zf n 0 then some (.nils,h)
       else bif Zi ((3*n+2000)*i.bytes) 562949953421312 then some (.sl h.nx 0 n n i.size,EB h e new)else none
      | .es0=>
       bif Zf n 0 then some (.es0,h)
       else bif Zi ((3*n+2000)*i.bytes) 562949953421312 then some (.sl h.nx 0 n n i.size,EB h e new)else none
      | .esl=>bif Zf n 0 then some (.esl,h)else none
      | .sl b off len cap o=>
       bif Zi (len+n) cap then(wr h b (off+len*i.size) new).map fun h'=>(.sl b off (len+n) cap o,h')
       else bif Zi ((3*(len+n)+2000)*i.bytes) 562949953421312 then
        match src h i.size s len with
        |some old=>
         bif Zf o 0 then some (.sl h.nx 0 (len+n) (len+n) i.size,EB h e<|old++new)
         else
          match h.get b with
          |some (.cells _ a fz)=>
           bif Zf off 0&&Zf o i.size&&Zf a e&&Zi fz.2 fz.1&&new.all V.one then some (.sl h.nx 0 (len+n) (len+n) i.size,(h.kill b).push<|.cells (old++new) e (0,0))
           else none
          |_=>none
        |none=>none
       else none
      |_=>none
     |none=>none
    else none
   |_,_=>none
  |_,_,_=>none
 |_,_,_=>none
theorem Jz{old new:List V}{vo b:List Value}(c:Ac p old vo)(d:Ac p new b)(a:Array Value):
  Ac p (old++new) ((vo.toArray++b.toArray++a).toList.take (old++new).length):=by
 have f:=c.length;have g:=d.length;have:((vo.toArray++b.toArray++a).toList.take (old++new).length)=vo++b:=by
  grind
 rw[this];exact c.append d
section
variable {ts:Array TypeId}{t t0 tx e:TypeId}{dx:TypeDesc}{i:TI}{n:Nat}{x' z:Value}{j:TypeInfo}
theorem Is(k:T.Ok P)(g:ts[0]?=some t0)(o:ts[1]?=some tx)(r:T.und t0=some (.slice e))(l:T.und tx=some dx)(m:isInt dx=false)
  (q:T.inf e=some i) (s:∀w,(ZH x').run P w=.ok n w) (base:Option Addr) (d c:Nat) (f:d+n<=c):
  (Zr ts t #[.slice base d c,x']).run P w=((Zj i.size n x').run P w).andThen fun new w'=>((match base with|some a=>storeCells (a.add<|d*i.size) new.toList|none=>pure ():Sem Unit).run P w').andThen fun _ w'=>.ok (.slice base (d+n) c) w':=by
 unfold Zr;cases dx<;>first|(cases m;done)|skip
 all_goals
  simp only[g,o,ZF,ZB,ZC,Zb,Ad k r,Ad k l,AB k q,Za,Zd,Zn,vb,s,f,wi,Bool.not_false];cases base with
  |none=>rfl
  |some b=>simp only[Zb,Zd]
theorem JQ(f:T.Ok P)(k:ts[0]?=some t0)(q:ts[1]?=some tx)(D:T.und t0=some (.slice e))(l:T.und tx=some dx)(o:isInt dx=false)
  (u:T.inf e=some i) (v:0<i.bytes) (A:∀w,(zeroValue e).run P w=.ok z w) (G:∀w,(ZH x').run P w=.ok n w) (base:Option Addr) (a c:Nat) (s:c<a+n)
  (b:(3*(a+n)+2000)*i.bytes<=562949953421312):
  ∃m,a+n<=m/\(Zr ts t #[.slice base a c,x']).run P w=((Zj i.size a<|.slice base a c).run P { w with drawn:=w.drawn+1 }).andThen fun old w'=>
   ((Zj i.size n x').run P w').andThen fun new w'=>
    .ok (.slice (some ⟨w'.heap.size,0,none⟩) (a+n) m) { w' with heap:=w'.heap.push (.cells (old++new++Zm z.cells (m-(a+n))) e) }:=by
 obtain⟨j,E,g,F⟩:=IQ f u;have r:=MW (a+n) c s;have d:2*Zw (a+n) c*i.bytes<=562949953421312:=ZO (Zv _ r) b;rw[Nat.mul_assoc]at d;have y:Zw (a+n) c*i.bytes<=281474976710656:=a8
 refine⟨(Question.appendCap (a+n) c e).cut<|w.tape w.drawn<|.appendCap (a+n) c e,by simp[Question.cut],?_⟩;unfold Zr;have x:¬(a+n<=c):=a8
 have B:¬(Zw (a+n) c*i.bytes>2^48):=a8
 have C:¬(i.bytes=0):=a8
 cases dx<;>first|(cases o;done)|skip
 all_goals
  simp only[k,q,ZF,ZB,ZC,Zb,Ad f D,Ad f l,AB f u,Za,Zd,Zn,vb,G,Bool.not_false,wi,
   x,E,g,C,or_self,and_false,B,run_choose,Question.forced,run_askRoom,A,A9]
end
theorem Eo(z:Array Value)(n:Nat):(Zm z n).size=n*z.size:=by simp[Zm]
theorem Ic{size n:Nat}{x:V}{cs:List V}(b:IE x=some n)(c:size=1\/∀s,x≠ .str s)(a:src h size x n=some cs):cs.length=n*size:=by
 unfold src at a;split at a
 case h_6=>cases a
 case h_1=>cases a;cases b;simp
 case h_2=>
  cases b;grind
 case h_3=>
  cases b;grind
 case h_4=>
  rw[Oq]at a;grind [Wh]
 case h_5=>
  cases b;grind
theorem MQ(W:T.Ok P)(C:R p h w){ts:Array TypeId}{t:TypeId}{args:List V}{args':Array Value}(ha:Ac p args args'.toList){v:V}{h':H}(a:Dh T h ts args=some (v,h')):
  ∃v' p' w',(Zr ts t args').run P w=.ok v' w'/\Aa p' v v'/\Ext p h w p' h' w':=by
 unfold Dh at a;split at a
 case h_2=>cases a
 rename_i t0 tx s x N L;obtain⟨s',x',G,S,hx⟩:=ha.two;have ha0:args'[0]?=some s':=by rw[<-ZE,G];rfl
 have ha1:args'[1]?=some x':=by rw[<-ZE,G];rfl
 split at a
 case h_2=>cases a
 rename_i e dx n hu I F;split at a
 case h_2=>cases a
 rename_i i hi J;cases y:(Zx 0 i.bytes&&Zx 0 i.size&&Zf i.zero.length i.size&&(Zf i.size 1||H9 x))with
 |false=>grind
 |true=>
  simp only[y,wc]at a;simp only[Zl,Nat.blt_eq,Aw,w5,ZR]at y;obtain⟨⟨⟨c1,c2⟩,c3⟩,c4⟩:=y;have c5:i.size=1\/∀s,x≠ .str s:=c4.imp id (fun h s e=>by subst e;cases h);split at a
  case h_2=>cases a
  rename_i new A;have hnl:=Ic F c5 A;obtain⟨vn,Y,B⟩:=FN (P:=P) C hx A;obtain⟨j,hj,hjb,hjs⟩:=IQ W hi;obtain⟨z,hz,hzr⟩:=BY W hi;have hzl:=(hzr p).length;simp at hzl;have hne:args'= #[s',x']:=ae
  subst hne;have g:∀w,(ZH x').run P w=.ok n w:=fun w=>IU hx F
  have E:∀(base:Option Addr) (c:Nat),n=0->(Zr ts t #[.slice base 0 c,x']).run P w=.ok (.slice base 0 c) w:=by
   intro base c h0;rw[Is W N L hu I J hi g base 0 c a8,Y];have hv0:vn=[]:=by
    simp_all
   subst hv0;cases base<;>simp[h0,storeCells]
  have some0:∀(base:Option Addr),¬n=0->(3*n+2000)*i.bytes<=562949953421312->∃v' p' w',(Zr ts t #[.slice base 0 0,x']).run P w=.ok v' w'/\Aa p' (.sl h.nx 0 n n i.size) v'/\Ext p h w p' (EB h e new) w':=by
   intro base h0 hb;obtain⟨l,hnc,M⟩:=JQ (w:=w) (t:=t) W N L hu I J hi c1 hz g base 0 0 a8 ae;simp only[Nat.zero_add]at M hnc;have f:=Ext.drew C<|w.drawn+1;obtain⟨vn',hvn',hvnr'⟩:=FN (P:=P) f.rel hx A;have K:=Ext.push (n:=l*i.size) f.rel (o:=.cells new e (0,0)) (x:=.cells (#[]++vn'.toArray++Zm z.cells (l-n)) e) ?_
   ·refine⟨.slice (some ⟨w.heap.size,0,none⟩) n l,_,_,?_,?_,f.trans K⟩
    ·rw[M];have hf:∀w,(Zj i.size 0<|Value.slice base 0 0).run P w=.ok #[] w:=by
      intro w;cases base<;>simp[Zj,loadCells,loadCellsFrom]
     grind [Za]
    ·simp only[Aa];refine⟨w.heap.size,l*i.size,l,by rw[<-C.len];simp,rfl,Ze _,by omega,a8,a8⟩
   ·have hl:=hvnr'.length;have X:(#[]++vn'.toArray++Zm z.cells (l-n)).size=l*i.size:=by
     simp_all [Eo,Nat.sub_mul,Zv]
    refine⟨_,(0,0),rfl,X,?_,?_,a8⟩
    ·grind
    ·have:=Jz (p:=p) (old:=[]) (vo:=[]) (by simp) hvnr'<|Zm z.cells<|l-n;simpa using this.WK
  split at a
  case h_5=>cases a
  case h_1=>
   simp only[Aa]at S;subst S;rw[Aw]at a;by_cases h0:n=0
   ·simp only[h0,decide_true,wc,Zc,Zs]at a;obtain⟨rfl,rfl⟩:=a;exact⟨.slice none 0 0,p,w,ae,by rfl,Ext.refl C⟩
   ·simp only[h0,decide_false,wd]at a;cases hb:Zi ((3*n+2000)*i.bytes) 562949953421312 with
    |false=>grind
    |true=>
     simp_all
  case h_2=>
   simp only[Aa]at S;obtain⟨a0,rfl⟩:=S;rw[Aw]at a;by_cases h0:n=0
   ·simp only[h0,decide_true,wc,Zc,Zs]at a;obtain⟨rfl,rfl⟩:=a;exact⟨_,p,w,E (some a0) 0 h0,by simp[Aa],Ext.refl C⟩
   ·simp only[h0,decide_false,wd]at a;cases hb:Zi ((3*n+2000)*i.bytes) 562949953421312 with
    |false=>grind
    |true=>
     simp_all
  case h_3=>
   simp only[Aa]at S;obtain⟨a0,c0,rfl⟩:=S;rw[Aw]at a;by_cases h0:n=0
   ·simp only[h0,decide_true,wc,Zc,Zs]at a;obtain⟨rfl,rfl⟩:=a;exact⟨_,p,w,E (some a0) c0 h0,by simp[Aa],Ext.refl C⟩
   grind
  case h_4=>
   rename_i b off len cap o;simp only[Aa]at S;obtain⟨r,m,c,hp,rfl,hlen,hcap,ho1,ho2⟩:=S;cases hle:Zi (len+n) cap with
   |true=>
    simp only[hle,wc,Zg,Zs]at a;obtain⟨h1,hw,rfl,rfl⟩:=a;rw[Zy]at hle;obtain⟨r',m',w',g1,g2,g3⟩:=Kv (P:=P) C B hw;rw[hp]at g1;cases g1;refine⟨.slice (some ⟨r,off,none⟩) (len+n) c,p,w',?_,?_,g3⟩
    ·rw[Is W N L hu I J hi g _ len c a8,Y];simp_all
    ·simp only[Aa];grind
   |false=>
    simp only[hle,wd]at a;have hle':¬(len+n<=cap):=by grind [Zy]
    cases hb:Zi ((3*(len+n)+2000)*i.bytes) 562949953421312 with
    |false=>grind
    |true=>
     simp only[hb,wc]at a;rw[Zy]at hb;split at a
     case h_2=>cases a
     rename_i old D;have hol:=Ic (x:=.sl b off len cap o) (n:=len) rfl (by simp) D;have hsrel:∀q:Pl,(∃q',q=p++q')->Aa q (.sl b off len cap o) (.slice (some ⟨r,off,none⟩) len c):=by
      rintro q ⟨q',rfl⟩;exact Aa.mono q' (by simp_all)
     have fresh:∀(_:c<len+n) (h2:H),R p h2 { w with drawn:=w.drawn+1 }->h2.nx=h.nx->
       ∃v' p' w',(Zr ts t #[.slice (some ⟨r,off,none⟩) len c,x']).run P w=.ok v' w'/\Aa p' (.sl h.nx 0 (len+n) (len+n) i.size) v'/\
        Ext p h2 { w with drawn:=w.drawn+1 } p' (h2.push<|.cells (old++new) e (0,0)) w':=by
      intro hlt h2 hr2 hnx;obtain⟨l,hnc,M⟩:=JQ (w:=w) (t:=t) W N L hu I J hi c1 hz g (some ⟨r,off,none⟩) len c hlt hb;have f:=Ext.drew C<|w.drawn+1;obtain⟨vn',hvn',hvnr'⟩:=FN (P:=P) f.rel hx A;obtain⟨vo',hvo',hvor'⟩:=FN (P:=P) (x:=.sl b off len cap o) f.rel (hsrel p<|by simp) D;have hl:=hvnr'.length;have hl2:=hvor'.length;have X:(vo'.toArray++vn'.toArray++Zm z.cells (l-(len+n))).size=l*i.size:=by
       have e1:vn'.length=n*i.size:=a8
       have e2:vo'.length=len*i.size:=a8
       simp only[Array.size_append,Eo,List.size_toArray,e1,e2, <-hzl,c3,Nat.sub_mul,Nat.add_mul];have:(len+n)*i.size<=l*i.size:=Zv _ a8;grind
      have K:=Ext.push (n:=l*i.size) hr2 (o:=.cells (old++new) e (0,0)) (x:=.cells (vo'.toArray++vn'.toArray++Zm z.cells (l-(len+n))) e)
       ⟨_,(0,0),rfl,X,by grind,(Jz hvor' hvnr' _).WK,a8⟩
      refine⟨.slice (some ⟨w.heap.size,0,none⟩) (len+n) l,_,_,?_,?_,K⟩
      ·grind [Za]
      ·simp only[Aa];refine⟨w.heap.size,l*i.size,l,?_,rfl,Ze _,by omega,a8,a8⟩;rw[<-hnx, <-hr2.len];simp
     rw[Aw]at a;by_cases h0:o=0
     ·simp only[h0,decide_true,wc,Zc,Zs]at a;obtain⟨rfl,rfl⟩:=a;have:=ho1 h0;have f:=Ext.drew C<|w.drawn+1;obtain⟨v',p',w',k1,k2,k3⟩:=fresh a8 h f.rel rfl;exact⟨v',p',w',k1,k2,f.trans k3⟩
     ·simp only[h0,decide_false,wd]at a;split at a
      case h_2=>cases a
      rename_i cs te fz hbk;cases hc2:(Zf off 0&&Zf o i.size&&Zf te e&&Zi fz.2 fz.1&&new.all V.one)with
      |false=>grind
      |true=>
       simp only[hc2,wc,Zc,Zs]at a;obtain⟨rfl,rfl⟩:=a;simp only[Zl,Zy,Aw,w5,List.all_eq_true]at hc2;obtain⟨⟨⟨⟨rfl,rfl⟩,rfl⟩,d4⟩,d5⟩:=hc2;by_cases U:len+n<=c
       ·
        obtain⟨r',m',cc,fz',g1,g2,g3,g4,g5,g6,g7⟩:=cell_of C hbk;rw[hp]at g1;cases g1;have hm:=ho2 h0;have hl:=B.length;have hone:∀v∈vn,v.oneCell'=true:=by
         intro v hv;obtain⟨k,hk⟩:=List.mem_iff_getElem?.1 hv;have hk':=(Zk.1 hk).1;obtain⟨u,O,hu2⟩:=B.get (i:=k) (d:=new[k]'a8) (by simp);rw[hk]at O;cases O;exact hu2.one ae
        have hbnd:len*i.size+n*i.size<=c*i.size:=by rw[<-Nat.add_mul];simp_all [Zv]
        obtain⟨cc',k1,k2,k3⟩:=C6 (P:=P) vn w cc (len*i.size) 0 g2 a8 hone (by
         grind)
        have hrd:old=cs.take (len*i.size)/\len*i.size<=cs.length:=by
         unfold src at D;simp_all [Oq,Wh]
        refine⟨.slice (some ⟨r,0,none⟩) (len+n) c,p++[(r,m)],{ w with heap:=w.heap.setIfInBounds r (.cells cc' te fz') },?_,?_,Ext.move C (o':=.cells (old++new) te (0,0)) hbk hp ⟨cc',fz',rfl,by omega,?_,?_,?_⟩ rfl rfl rfl rfl (fun _ _ _ e1 hlk=>by cases e1;obtain⟨l1,_,l3⟩:=hlk;omega)⟩
        ·rw[Is W N L hu I J hi g _ len c U,Y];simp_all
        ·simp only[Aa];exact⟨r,m,c,by rw[<-C.len];simp,rfl,Ze _,U,a8,fun _=>hm⟩
        ·grind
        ·refine⟨?_,?_⟩
         ·grind
         ·intro k d v Q Z hokk;have hkl:k<(old++new).length:=ae;rw[Zo hkl,k3]at Z;rw[List.length_append,hol,hnl]at hkl;simp only[Nat.add_zero,List.getElem?_map]at Z;rw[List.getElem?_range a8]at Z;by_cases hk:k<len*i.size
          ·rw[List.getElem?_append_left a8,hrd.1,Zo hk]at Q;obtain⟨u,O,hu2⟩:=g5.get Q hokk;grind
          ·rw[List.getElem?_append_right a8,hol]at Q;obtain⟨u,O,hu2⟩:=B.get Q;grind
        grind
       ·have hk:=Ext.kill C b;have f:=Ext.drew hk.rel<|w.drawn+1;obtain⟨v',p',w',k1,k2,k3⟩:=fresh a8 (h.kill b) f.rel rfl;exact⟨v',p',w',k1,k2,(hk.trans f).trans k3⟩
def R2(T:AP)(h:H)(ts:Array TypeId)(args:List V):Option (V×H):=
 match ts[0]?,args with
 |some t,[d,x]=>
  match T.und t,IE d,IE x with
  |some (.slice e),some a,some n=>
   match T.inf e with
   |some i=>
    match src h i.size x (Nat.min n a)with
    |some new=>
     match d with
     | .nils=>some (i64<|Nat.min n a,h)
     | .sl b off _ _ _=>(wr h b off new).map fun h'=>(i64<|Nat.min n a,h')
     |_=>none
    |none=>none
   |none=>none
  |_,_,_=>none
 |_,_=>none
theorem RR(q:T.Ok P)(s:R p h w){ts:Array TypeId}{t:TypeId}{args:List V}{args':Array Value}(D:Ac p args args'.toList){v:V}{h':H}(a:R2 T h ts args=some (v,h')):
  ∃v' p' w',(Builtin.copy_ ts t args').run P w=.ok v' w'/\Aa p' v v'/\Ext p h w p' h' w':=by
 unfold R2 at a;split at a
 case h_2=>cases a
 rename_i t0 d x A;obtain⟨F,x',u,k,y⟩:=D.two;have o:args'= #[F,x']:=ae
 subst o;split at a
 case h_2=>cases a
 rename_i e I n G b B;split at a
 case h_2=>cases a
 rename_i i C;split at a
 case h_2=>cases a
 rename_i new f;obtain⟨J,l,g⟩:=FN (P:=P) s y f;unfold Builtin.copy_;simp only[A,ZF,ZB,ZC,Zb,Ad q G,Za];split at a
 case h_3=>cases a
 case h_1=>
  subst k;simp only[IE,Zc]at b;subst b;cases a;simp only[Zb,IU y B,AB q C,Za,l];refine⟨_,p,w,(by rfl),?_,Ext.refl s⟩;rfl
 case h_2=>
  simp only[IE,Zc]at b;subst b;obtain⟨r,m,c,E,rfl,_⟩:=k;rw[Zg]at a;obtain⟨h1,hw,he⟩:=a;cases he;obtain⟨r',m',w',g1,g2,g3⟩:=Kv (P:=P) s g hw;rw[E]at g1;cases g1;simp only[Zb,IU y B,AB q C,Za,l,g2];refine⟨_,p,w',(by rfl),?_,g3⟩;rfl
def J8(T:AP)(h:H)(t:TypeId)(x:V):Option (V×H):=
 match T.und t,x with
 |some .string,.str s=>some (.ptr h.nx 0,h.push<|.siter s 0)
 |_,_=>none
theorem P2(f:T.Ok P)(b:R p h w){t:TypeId}{x:V}{x':Value}(d:Aa p x x'){v:V}{h':H}(a:J8 T h t x=some (v,h')):
  ∃v' p' w',(Instr.range t x').run P w=.ok v' w'/\Aa p' v v'/\Ext p h w p' h' w':=by
 unfold J8 at a;split at a
 case h_2=>cases a
 rename_i s c;cases a;subst d;have he:=Ext.push (n:=0) b (o:=.siter s 0) (x:=.stringIter (bytesOf s) 0) rfl;refine⟨.pointer<|some ⟨w.heap.size,0,none⟩,_,_,?_,?_,he⟩
 ·unfold Instr.range;simp only[Zb,Ad f c,Za,Zd,run_newObj]
 ·exact⟨w.heap.size,0,by rw[<-b.len];simp,rfl⟩
def G8(h:H)(c:V)(a:Bool):Option (V×H):=
 match c,a with
 | .ptr b 0,true=>
  match h.get b with
  |some (.siter s pos)=>
   bif Zx pos s.length then
    some (.tup [.bool true,i64 pos,.int .i32 (Utf8.decode (bytesOf s) pos).1],h.put b<|.siter s<|pos+(Utf8.decode (bytesOf s) pos).2)
   else some (.tup [.bool false],h)
  |_=>none
 |_,_=>none
theorem QY(f:R p h w){g:V}{d:Value}{a:Bool}{t:TypeId}(u:Aa p g d){v:V}{h':H}(b:G8 h g a=some (v,h')):
  ∃v' p' w',(Instr.next d a t).run P w=.ok v' w'/\Aa p' v v'/\Ext p h w p' h' w':=by
 unfold G8 at b;split at b
 case h_2=>cases b
 obtain⟨r,n,k,rfl⟩:=u;split at b
 case h_2=>cases b
 rename_i s pos o;obtain⟨y,n',x,l,m,q⟩:=f.obj _ _ o;rw[k]at l;cases l;subst q;rw[DG]at b;unfold Instr.next;simp only[Zb,getObj,ZS,m,Za,AM];by_cases c:pos<s.length
 ·simp only[c,decide_true,wc,Zc,Zs]at b;obtain⟨rfl,rfl⟩:=b;simp only[c,wi,Zb,setObj,ZS,m,Za];refine⟨_,p,_,Zd ..,?_,Ext.put f o k (o':=.siter s<|pos+(Utf8.decode (bytesOf s) pos).2) rfl rfl rfl rfl rfl⟩;simp[Aa,i64,goInt]
 ·simp only[c,decide_false,wd,Zc,Zs]at b;obtain⟨rfl,rfl⟩:=b;simp only[c,vb];exact⟨_,p,w,(by rfl),by simp[Aa],Ext.refl f⟩
def ED(h:H)(r:Option V):Option (V×H):=
 match r with
 |none=>some (.map h.nx,h.push<|.map [] 0)
 |some _=>none
theorem LZ(b:R p h w){t:TypeId}{r:Option V}{c:Option Value}(d:Dy p r c){v:V}{h':H}(a:ED h r=some (v,h')):
  ∃v' p' w',(Instr.makeMap t c).run P w=.ok v' w'/\Aa p' v v'/\Ext p h w p' h' w':=by
 unfold ED at a;split at a
 case h_2=>cases a
 cases a;subst d;have he:=Ext.push (n:=0) b (o:=.map [] 0) (x:=.map #[] 0) ⟨#[],rfl,.nil⟩;refine⟨.map<|some w.heap.size,_,_,?_,?_,he⟩
 ·rfl
 ·exact⟨w.heap.size,0,by rw[<-b.len];simp,rfl⟩
def Rz(T:AP)(c:TypeId)(a b:V):Option Bool:=
 match T.und c,a,b with
 |some (.int _),.int k x,.int d y=>if k=d then some (x==y)else none
 |some .string,.str x,.str y=>some<|x==y
 |some .bool,.bool x,.bool y=>some<|x==y
 |_,_,_=>none
def F4(T:AP)(b:TypeId)(k:V):List (V×V×Nat)->Nat->Option (Option<|Nat×V)
 |[],_=>some none
 |(a,v,_)::es,i=>
  match Rz T b k a with
  |some true=>some<|some (i,v)
  |some false=>F4 T b k es<|i+1
  |none=>none
def plainKey:V->Bool
 | .int .. | .str _| .bool _=>true
 |_=>false
theorem bytes_beq(x y:ByteArray):(x==y)=(x.data==y.data):=rfl
theorem NZ{k:TypeId}{a b:V}{g b':Value}(m:Aa p a g)(l:Aa p b b'){r:Bool}(f:Rz T k a b=some r){d:TypeDesc}(o:T.und k=some d):
  ZL d g b'=some r/\(r=true->g=b'):=by
 unfold Rz at f;split at f
 case h_1=>
  grind [Aa,ZL]
 case h_2=>
  rename_i c;rw[o]at c;simp only[Aa]at m l;cases f;simp_all [ZL,bytes_beq,bytesOf]
 case h_3=>
  rename_i c;rw[o]at c;cases c;subst m l;cases f;exact⟨rfl,(by simp)⟩
 grind
theorem R0{m:TypeId}{k:V}{g:Value}(s:Aa p k g){d:TypeDesc}(u:T.und m=some d):
  ∀ {es:List (V×V×Nat)} {l:List MapEntry},BE p es l->∀ {i:Nat} {r:Option (Nat×V)},F4 T m k es i=some r->
  ∃f,ZI d g l i=some f/\(match r with|none=>f=none|some (j,v)=>∃v',f=some (j,v')/\Aa p v v'/\i<=j/\∃e,l[j-i]?=some e/\e.key=g):=by
 intro es l he;induction he with
 |nil=>intro i r c;simp only[F4,Zc]at c;subst c;exact⟨none,rfl,rfl⟩
 |@cons a v b es e l q A C _ x=>
  intro i r c;unfold F4 at c;split at c
  case h_1=>
   rename_i o;cases c;obtain⟨B,y⟩:=NZ s q o u;simp_all [ZI]
  case h_2=>
   grind [NZ,ZI]
  grind
theorem run_checkKey{k:V}{f:Value}(g:Aa p k f)(c:plainKey k=true)(q:T.Ok P){a:TypeId}{d:TypeDesc}(l:T.und a=some d)(m:B8 d=false)(r:∀o,d≠ .interface o)(b:Bool):
  (ZJ b 10000 a f).run P w=.ok () w:=by
 unfold ZJ;rw[Zb,Ad q l];cases k<;>simp only[plainKey]at c<;>simp only[Aa]at g
 case bool|int|str=>
  cases d<;>first|rfl|(cases m;done)|grind
 all_goals cases c
def Rf:TypeDesc->Bool
 | .int _| .string| .bool=>true
 |_=>false
theorem Qb{d:TypeDesc}(h:Rf d=true):B8 d=false/\∀a,d≠ .interface a:=by
 cases d<;>first|(cases h;done)|exact⟨rfl,fun a e=>by cases e⟩
theorem Jk{k:V}{a:Value}(c:Aa p k a)(b:plainKey k=true):Zt 10000 a a=true:=by
 cases k<;>simp only[plainKey]at b<;>simp only[Aa]at c
 case bool=>grind [Zt]
 case int=>grind [Zt]
 case str=>grind [Zt,bytes_beq]
 all_goals cases b
theorem Mi{a b:V}{c b':Value}(f:Aa p a c)(d:Aa p b b')(h:BZ a b=some true):c=b':=by
 unfold BZ at h;grind [Aa]
theorem FU:∀ {c f:List V} {x y:List Value},Ac p c x->Ac p f y->AK c f=some true->x=y
 |[],[],x,y,g,d,_=>by simp_all
 |[],_::_,_,_,_,_,h=>by simp[AK]at h
 |_::_,[],_,_,_,_,h=>by simp[AK]at h
 |a::q,b::o,x,y,g,d,h=>by
  obtain⟨u,r,rfl,k,l⟩:=g;obtain⟨v,vs,rfl,h3,h4⟩:=d;unfold AK at h;split at h
  case h_1=>
   rename_i m;rw[Mi k h3 m,FU l h4 h]
  case h_2=>grind
  grind
theorem Ml:∀ {ks:List FK} {c:List V} {x:List Value},fit ks c=true->Ac p c x->(x.zip x).all (fun(a,b)=>Zt 9999 a b)=true
 |[],[],x,_,f=>by simp_all
 |[],_::_,_,h,_=>by simp[fit]at h
 |_::_,[],_,h,_=>by simp_all
 |k::ks,v::vs,x,h,f=>by
  obtain⟨u,o,rfl,m,g⟩:=f;unfold fit at h;cases d:k.ok v with
  |false=>grind
  |true=>
   simp only[d,wc]at h;have l:=Ml h g;simp only[List.zip_cons_cons,List.all_cons,l,Bool.and_true];unfold FK.ok at d;grind [Aa,Zt,bytes_beq]
def H6(ks:List FK)(k:List V):List (V×V×Nat)->Nat->Option (Option<|Nat×V)
 |[],_=>some none
 |(a,v,_)::es,i=>
  match a with
  | .agg b=>match H7 (some ks) k b with
   |some true=>some<|some (i,v)
   |some false=>H6 ks k es<|i+1
   |none=>none
  |_=>none
def Ep(T:AP)(a:TypeId)(d:TypeDesc)(k:V):Bool:=
 match k with
 | .agg b=>match T.flat a with
  |some ks=>fit ks b
  |none=>false
 |k=>plainKey k&&Rf d
def FA(T:AP)(a:TypeId)(k:V)(es:List (V×V×Nat)):Option (Option<|Nat×V):=
 match k with
 | .agg b=>match T.flat a with
  |some ks=>H6 ks b es 0
  |none=>none
 |k=>F4 T a k es 0
theorem HX(A:T.Ok P){f:TypeId}{ks:List FK}(C:T.flat f=some ks){k:List V}{x:Array Value}(E:Ac p k x.toList):
  ∀ {es:List (V×V×Nat)} {l:List MapEntry},BE p es l->∀ {i:Nat} {r:Option (Nat×V)},H6 ks k es i=some r->
  ∃d,(ZG f (.agg x) l i).run P w=.ok d w/\(match r with|none=>d=none|some (j,v)=>∃v',d=some (j,v')/\Aa p v v'/\i<=j/\∃e,l[j-i]?=some e/\e.key=.agg x):=by
 intro es l he;induction he with
 |nil=>intro i r c;simp only[H6,Zc]at c;subst c;exact⟨none,rfl,rfl⟩
 |@cons a v b es e l g G J _ F=>
  intro i r c;unfold H6 at c;split at c
  case h_2=>cases c
  rename_i D;obtain⟨y,B,g⟩:=g;split at c
  case h_3=>cases c
  case h_1=>
   rename_i s;cases c;obtain⟨l',m,q,o,u⟩:=DU s;cases m;refine⟨some (i,e.val),?_,e.val,rfl,G,Ze _,e,by simp,?_⟩
   ·simp only[ZG,Zb,B,A.flat f ks C p k D x y true w q o E g u,Za,wi,Zd]
   grind [FU,Array.toList_inj]
  case h_2=>
   rename_i s;obtain⟨l',m,q,o,u⟩:=DU s;cases m;obtain⟨d,k1,k2⟩:=F c;refine⟨d,?_,?_⟩
   ·simp only[ZG,Zb,B,A.flat f ks C p k D x y false w q o E g u,Za,Zn,vb];exact k1
   ·cases r with
    |none=>exact k2
    |some I=>
     grind
theorem EV(q:T.Ok P){c:TypeId}{d:TypeDesc}(r:T.und c=some d){k:V}{f:Value}(g:Aa p k f)(a:Ep T c d k=true)(b:Bool):
  (ZJ b 10000 c f).run P w=.ok () w:=by
 unfold Ep at a;split at a
 case h_1=>
  rename_i o;split at a
  case h_2=>cases a
  rename_i ks l;obtain⟨x,rfl,m⟩:=g;exact q.key c ks l p o x b w a m
 case h_2=>
  grind [Qb,run_checkKey]
theorem Nz{c:TypeId}{d:TypeDesc}{k:V}{b:Value}(f:Aa p k b)(a:Ep T c d k=true):Zt 10000 b b=true:=by
 unfold Ep at a;split at a
 case h_1=>
  split at a
  case h_2=>cases a
  obtain⟨x,rfl,g⟩:=f;have:=Ml a g;simp_all [Zt]
 case h_2=>
  grind [Jk]
def entries(h:H)(m:V):Option (List<|V×V×Nat):=
 match m with
 | .nilm=>some []
 | .map b=>match h.get b with
  |some (.map es _)=>some es
  |_=>none
 |_=>none
def Co(T:AP)(h:H)(t:TypeId)(m k:V)(ok:Bool):Option V:=
 match T.und t with
 |some (.map a e)=>
  match T.und a,entries h m with
  |some d,some es=>
   bif Ep T a d k then
    match FA T a k es with
    |some (some (_,v))=>some<|bif ok then .tup [v,.bool true]else v
    |some none=>match T.inf e with
     |some i=>some<|bif ok then .tup [i.zv,.bool false]else i.zv
     |none=>none
    |none=>none
   else none
  |_,_=>none
 |_=>none
theorem GL(f:R p h w){m:V}{d:Value}(g:Aa p m d){es:List (V×V×Nat)}(a:entries h m=some es):
  (d=.map none/\es=[])\/∃r l c b n,m=.map b/\d=.map (some r)/\p[b]?=some (r,n)/\h.get b=some (.map es c)/\w.heap[r]?=some (.map l c)/\BE p es l.toList:=by
 unfold entries at a;split at a
 case h_1=>simp_all [Aa]
 case h_2=>
  simp only[Aa]at g;split at a
  case h_2=>cases a
  rename_i q c k;obtain⟨u,n',o,v,x,l,y,s⟩:=f.obj _ _ k;grind
 grind
theorem run_findKey(g:T.Ok P){b:TypeId}{k:V}{o:Value}(u:Aa p k o){d:TypeDesc}(m:T.und b=some d){es:List (V×V×Nat)}{l:List MapEntry}(he:BE p es l)
  {r:Option (Nat×V)} (c:FA T b k es=some r):
  ∃a,(ZM b o l).run P w=.ok a w/\(match r with|none=>a=none|some (j,v)=>∃v',a=some (j,v')/\Aa p v v'/\∃e,l[j]?=some e/\e.key=o):=by
 by_cases f:∃s,k=.agg s
 ·obtain⟨s,rfl⟩:=f;simp only[FA]at c;cases y:T.flat b with
  |none=>grind
  |some ks=>
   simp only[y]at c;obtain⟨x,rfl,C⟩:=u;obtain⟨a,q,B⟩:=HX (P:=P) (w:=w) g y C he c;refine⟨a,?_,?_⟩
   ·unfold ZM;simp only[Zb,Ad g m,Za];cases l with
    |nil=>grind [ZI,ZG]
    |cons e l=>grind [ZI,ZL]
   grind
 ·have A:FA T b k es=F4 T b k es 0:=by cases k<;>first|rfl|grind
  rw[A]at c;obtain⟨a,q,B⟩:=R0 u m he c;refine⟨a,?_,?_⟩
  ·unfold ZM;simp only[Zb,Ad g m,Za,q,Zd]
  grind
theorem Ni(f:T.Ok P)(G:R p h w){t:TypeId}{m k:V}{x s:Value}{ok:Bool}(J:Aa p m x)(q:Aa p k s){v:V}(a:Co T h t m k ok=some v):
  ∃v',(ZQ t x s ok).run P w=.ok v' w/\Aa p v v':=by
 unfold Co at a;split at a
 case h_2=>cases a
 rename_i C e D;split at a
 case h_2=>cases a
 rename_i d es c B;cases u:Ep T C d k with
 |false=>grind
 |true=>
  simp only[u,wc]at a;obtain⟨l,g,o⟩:∃l:List MapEntry,BE p es l/\(ZQ t x s ok).run P w=((ZM C s l).run P w).andThen fun r w'=>
    match r with
    |some (_,v)=>.ok (if ok then .tuple #[v,.bool true]else v) w'
    |none=>((zeroValue e).run P w').andThen fun z w'=>.ok (if ok then .tuple #[z,.bool false]else z) w':=by
   rcases GL G J B with⟨rfl,rfl⟩|⟨r,l,O,b,n,rfl,rfl,L,N,E,he⟩
   ·refine⟨[],.nil,?_⟩;unfold ZQ;simp only[Zb,Ad f D,Za,Zd,EV f c q u];congr 1;funext r w'
    cases r<;>simp
   ·refine⟨l.toList,he,?_⟩;unfold ZQ;simp only[Zb,Ad f D,Za,Zd,EV f c q u,getObj,ZS,E];congr 1;funext r w'
    cases r<;>simp
  rw[o];split at a
  case h_3=>cases a
  case h_1=>
   rename_i j v0 y;cases a;obtain⟨K,A,v',rfl,M,_⟩:=run_findKey (P:=P) (w:=w) f q c g y;simp only[A,Za];cases ok
   ·grind
   simp_all [Aa]
  case h_2=>
   rename_i y;split at a
   case h_2=>cases a
   rename_i i I;cases a;obtain⟨K,A,F⟩:=run_findKey (P:=P) (w:=w) f q c g y;subst F;obtain⟨z,hz,hzr⟩:=U2 f I;simp only[A,Za,hz];cases ok
   ·grind
   simp_all [Aa]
def M7(es:List (V×V×Nat))(i:Nat)(k v:V):List (V×V×Nat):=es.modify i fun e=>(k,v,e.2.2)
theorem BE.modify{es:List (V×V×Nat)}{l:List MapEntry}(he:BE p es l){k v:V}{d v':Value}(r:Aa p k d)(q:Aa p v v')(i:Nat):
  BE p (M7 es i k v) (l.modify i fun e=>{ e with key:=d,val:=v' }):=by
 unfold M7;induction he generalizing i with
 |nil=>simp;exact .nil
 |@cons a x b es e l m o c f g=>
  cases i with
  |zero=>simp;exact .cons r q c f
  |succ i=>simp;exact .cons m o c<|g i
theorem BE.snoc{es:List (V×V×Nat)}{l:List MapEntry}(he:BE p es l){k v:V}{e:MapEntry}(c:Aa p k e.key)(a:Aa p v e.val):BE p (es++[(k,v,e.born)]) (l++[e]):=by
 induction he with
 |nil=>exact .cons c a rfl .nil
 |cons f g d _ b=>exact .cons f g d b
def D6(T:AP)(h:H)(t:TypeId)(m k v:V):Option H:=
 match T.und t,m with
 |some (.map a _),.map b=>
  match T.und a,h.get b with
  |some d,some (.map es c)=>
   bif Ep T a d k then
    match FA T a k es with
    |some (some (i,_))=>some<|h.put b<|.map (M7 es i k v) c
    |some none=>some<|h.put b<|.map (es++[(k,v,c)])<|c+1
    |none=>none
   else none
  |_,_=>none
 |_,_=>none
theorem Ny(s:T.Ok P)(B:R p h w){t:TypeId}{m k v:V}{G o v':Value}(I:Aa p m G)(f:Aa p k o)(F:Aa p v v'){h':H}(a:D6 T h t m k v=some h'):
  ∃w',(Instr.mapUpdate t G o v').run P w=.ok () w'/\Ext p h w p h' w':=by
 unfold D6 at a;split at a
 case h_2=>cases a
 rename_i J e b O;split at a
 case h_2=>cases a
 rename_i d es x c u;cases A:Ep T J d k with
 |false=>grind
 |true=>
  simp only[A,wc]at a;rcases GL (es:=es) B I (by simp only[entries,u])with⟨rfl,_⟩|⟨r,l,N,b',n,L,rfl,E,q,y,he⟩
  ·simp[Aa]at I
  ·cases L;rw[u]at q;cases q;unfold Instr.mapUpdate;simp only[Zb,Ad s O,Za,EV s c f A,getObj,ZS,y];split at a
   case h_3=>cases a
   case h_1=>
    rename_i j v0 C;cases a;obtain⟨M,D,v1,rfl,Q,W,S,U⟩:=run_findKey (P:=P) (w:=w) s f c he C;simp only[D,Za];have g:(l[j]?.map (·.key)).getD o=o:=by
     grind
    rw[g];unfold Instr.keyThatStays;simp only[Nz f A,wi,Zb,Zd,Za,setObj,ZS,y];refine⟨_,rfl,Ext.put B u E (o':=.map (M7 es j k v) x) ⟨_,rfl,?_⟩ rfl rfl rfl rfl⟩;have:=he.modify f F j;grind
   case h_2=>
    rename_i C;cases a;obtain⟨M,D,K⟩:=run_findKey (P:=P) (w:=w) s f c he C;subst K;simp only[D,Za,setObj,ZS,y];refine⟨_,rfl,Ext.put B u E (o':=.map (es++[(k,v,x)])<|x+1) ⟨_,rfl,?_⟩ rfl rfl rfl rfl⟩;have:=he.snoc (e:={ key:=o,val:=v',born:=x }) f F;grind
end
end Go.Det
