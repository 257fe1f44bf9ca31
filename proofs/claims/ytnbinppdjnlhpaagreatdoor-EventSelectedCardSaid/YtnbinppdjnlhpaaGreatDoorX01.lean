import Derived.Scope
import Derived.Laws.Sem
import Derived.Laws.Strings
import Derived.IntWalk
/- A part of a proof (no law is stated here). Made by program out of texts by AI agents. -/
open Go.Result renaming andThen_ok → zc
open Go.Sem renaming run_bind → zd, run_pure → ze
open List renaming getElem?_eq_some_iff → zf, getElem?_append_left → zi, getElem?_take_of_lt → zk, getElem?_map → zD, getElem?_range → zF, getD → zK, getElem?_eq_getElem → zM, length_append → zO, length_eq_zero_iff → zP, getElem?_drop → zV, size_toArray → z5, rec → z6, all_eq_true → z7, getElem?_cons_zero → z8, getElem?_cons_succ → z9, take_of_length_le → yb, extract → ym
open Option.some renaming injEq → zg
open Nat renaming le_refl → zh, beq → zm, ble → zp, mul_le_mul_right → zr, ble_eq → zy, blt → zI, add_zero → ya, add_mul → ye, add → yf, blt_eq → yh, le_trans → yi, ne_of_lt → yj, zero_add → yn
open Array renaming getElem?_setIfInBounds_ne → zj, getElem?_eq_some_iff → zC, getElem?_toList → zS, getElem?_push → zU, ext_getElem? → zW, range → zZ, map → yo
open Bool renaming false_eq_true → zl, and_eq_true → zB, or_eq_true → yd
open Option renaming map_eq_some_iff → zn, isSome_none → zH, getD_some → zL, map_some → zN
open Go.Value renaming cells → zo
open Go.Builtin renaming firstCells → zq, zeroCells → zt, append_ → zz, nextslicecap → zJ, growBy → zR, lenOf → zT
open Go.Instr renaming sliceAt → zu, sliceBounds → zx, sureAddr → zQ, slice → zY
open Int renaming ofNat_eq_natCast → zw, toNat_natCast → zE
open Prod.mk renaming injEq → zA
open BitVec renaming ofInt → zG
open UInt8 renaming ofNat → zX
open Go.Op renaming bytesLess → yc, equal → yk
open ByteArray renaming ext → yg
section
namespace Go.Det
noncomputable section
inductive PM (α:Type) where
 |leaf
 |node (l:PM α) (v:Option α) (r:PM α)
inductive FQ where
 |here
 |l (p:FQ)
 |r (p:FQ)
variable {α:Type}
noncomputable def Z2(f:Nat):Nat→FQ:=
 @Nat.rec (fun _=>Nat→FQ) (fun _=>.here) (fun _ ih i=>bif zm i 0 then .here else bif zm (Nat.mod i 2) 1 then .l (ih (Nat.div i 2))else .r (ih (Nat.sub (Nat.div i 2) 1))) f
noncomputable def mA(i:Nat):FQ:=Z2 i i
noncomputable def FQ.get(p:FQ):PM α→Option α:=
 @FQ.rec (fun _=>PM α→Option α)
  (fun m=>@PM.rec α (fun _=>Option α) none (fun _ v _ _ _=>v) m)
  (fun _ ih m=>@PM.rec α (fun _=>Option α) none (fun l _ _ _ _=>ih l) m)
  (fun _ ih m=>@PM.rec α (fun _=>Option α) none (fun _ _ r _ _=>ih r) m) p
noncomputable def FQ.set(p:FQ):PM α→Option α→PM α:=
 @FQ.rec (fun _=>PM α→Option α→PM α)
  (fun m v=>@PM.rec α (fun _=>PM α) (.node .leaf v .leaf) (fun l _ r _ _=>.node l v r) m)
  (fun _ ih m v=>@PM.rec α (fun _=>PM α) (.node (ih .leaf v) none .leaf) (fun l x r _ _=>.node (ih l v) x r) m)
  (fun _ ih m v=>@PM.rec α (fun _=>PM α) (.node .leaf none (ih .leaf v)) (fun l x r _ _=>.node l x (ih r v)) m) p
noncomputable def PM.get(m:PM α)(i:Nat):Option α:=(mA i).get m
noncomputable def PM.set(m:PM α)(i:Nat)(v:Option α):PM α:=(mA i).set m v
theorem Be(a b:Nat):zm a b=decide (a=b):=by
 by_cases h:a=b
 ·subst h;simp
 ·rw[decide_eq_false h];cases e:zm a b with
  |false=>rfl
  |true=>exact absurd (Nat.eq_of_beq_eq_true e) h
def FQ.num:FQ→Nat
 | .here=>0
 | .l p=>2*p.num+1
 | .r p=>2*(p.num+1)
theorem Js:∀(f i:Nat),i≤f→(Z2 f i).num=i
 |0,i,h=>by cases Nat.le_zero.1 h;rfl
 |f+1,i,h=>by
  show FQ.num (bif zm i 0 then .here else bif zm (i % 2) 1 then .l (Z2 f (i/2))else .r (Z2 f (i/2-1)))=i;simp only[Be];by_cases h0:i=0
  ·subst h0;rfl
  ·by_cases h1:i % 2=1
   ·simp only[h0,h1,decide_false,decide_true,cond_false,cond_true,FQ.num];rw[Js f (i/2) (by omega)];omega
   ·simp only[h0,h1,decide_false,cond_false,FQ.num];rw[Js f (i/2-1) (by omega)];omega
theorem Zr{i j:Nat}(h:mA i=mA j):i=j:=by
 have:=congrArg FQ.num h;unfold mA at this;rwa [Js i i (zh _),Js j j (zh _)]at this
theorem FQ.Cz(p:FQ):p.get (.leaf:PM α)=none:=by cases p<;>rfl
theorem FQ.DM:∀(p:FQ) (m:PM α) (v:Option α),p.get (p.set m v)=v
 | .here,m,v=>by cases m<;>rfl
 | .l p,m,v=>by
  cases m with
  |leaf=>exact FQ.DM p .leaf v
  |node l x r=>exact FQ.DM p l v
 | .r p,m,v=>by
  cases m with
  |leaf=>exact FQ.DM p .leaf v
  |node l x r=>exact FQ.DM p r v
theorem FQ.EN:∀(p q:FQ) (m:PM α) (v:Option α),q≠p→q.get (p.set m v)=q.get m
 | .here,.here,m,v,h=>absurd rfl h
 | .here,.l q,m,v,_=>by
  cases m with
  |leaf=>exact q.Cz
  |node l x r=>rfl
 | .here,.r q,m,v,_=>by
  cases m with
  |leaf=>exact q.Cz
  |node l x r=>rfl
 | .l p,.here,m,v,_=>by cases m<;>rfl
 | .r p,.here,m,v,_=>by cases m<;>rfl
 | .l p,.r q,m,v,_=>by
  cases m with
  |leaf=>exact q.Cz
  |node l x r=>rfl
 | .r p,.l q,m,v,_=>by
  cases m with
  |leaf=>exact q.Cz
  |node l x r=>rfl
 | .l p,.l q,m,v,h=>by
  have h':q≠p:=fun e=>h (by rw[e])
  cases m with
  |leaf=>exact(FQ.EN p q .leaf v h').trans q.Cz
  |node l x r=>exact FQ.EN p q l v h'
 | .r p,.r q,m,v,h=>by
  have h':q≠p:=fun e=>h (by rw[e])
  cases m with
  |leaf=>exact(FQ.EN p q .leaf v h').trans q.Cz
  |node l x r=>exact FQ.EN p q r v h'
@[simp] theorem PM.CX(m:PM α)(i:Nat)(v:Option α)(j:Nat):(m.set i v).get j=if j=i then v else m.get j:=by
 unfold PM.get PM.set;by_cases e:j=i
 ·subst e;rw[if_pos rfl];exact FQ.DM _ _ _
 ·rw[if_neg e];exact FQ.EN _ _ _ _ (fun h=>e (Zr h))
@[simp] theorem PM.Cz(j:Nat):(PM.leaf:PM α).get j=none:=FQ.Cz _
noncomputable def GQ(l:List α):Nat:=@z6 α (fun _=>Nat) 0 (fun _ _ ih=>yf ih 1) l
theorem D3(l:List α):GQ l=l.length:=by
 induction l with
 |nil=>rfl
 |cons a l ih=>show yf (GQ l) 1=_;rw[ih];rfl
noncomputable def Jd(n:Nat):List α→List α:=
 @Nat.rec (fun _=>List α→List α) (fun l=>l) (fun _ ih l=>@z6 α (fun _=>List α) [] (fun _ qB _=>ih qB) l) n
theorem MD:∀(n:Nat) (l:List α),Jd n l=l.drop n
 |0,_l=>rfl
 |_n+1,[]=>rfl
 |n+1,_a::l=>MD n l
noncomputable def Uy(n:Nat):List α→List α:=
 @Nat.rec (fun _=>List α→List α) (fun _=>[]) (fun _ ih l=>@z6 α (fun _=>List α) [] (fun a qB _=>a::ih qB) l) n
theorem Mv:∀(n:Nat) (l:List α),Uy n l=l.take n
 |0,_l=>rfl
 |_n+1,[]=>rfl
 |n+1,a::l=>congrArg (a:: ·) (Mv n l)
noncomputable def Ig(vs:List α):List α→List α:=
 @z6 α (fun _=>List α→List α) (fun l=>l) (fun v _ ih l=>@z6 α (fun _=>List α) [] (fun _ qB _=>v::ih qB) l) vs
noncomputable def Cj(n:Nat)(vs:List α):List α→List α:=
 @Nat.rec (fun _=>List α→List α) (fun l=>Ig vs l) (fun _ ih l=>@z6 α (fun _=>List α) [] (fun a qB _=>a::ih qB) l) n
noncomputable def Jz(f:α→Bool)(l:List α):Bool:=@z6 α (fun _=>Bool) true (fun a _ ih=>bif f a then ih else false) l
theorem Et(f:α→Bool):∀l:List α,Jz f l=l.all f
 |[]=>rfl
 |a::l=>by
  show(bif f a then Jz f l else false)=_;rw[Et f l,List.all_cons];cases f a<;>rfl
inductive V where
 |bool (b:Bool)
 |int (k:IntKind) (n:Int)
 |str (s:List UInt8)
 |nilp
 |ptr (b off:Nat)
 |nils
 |sl (b off len cap o:Nat)
 |esl
 |es0
 |junk
 |nilm
 |map (b:Nat)
 |fn (f:Fn) (first captured:List V)
 |yld (b:Nat)
 |nilf
 |iface (t:TypeId) (v:V)
 |nili
 |agg (cs:List V)
 |tup (vs:List V)
 deriving Inhabited
abbrev Pl:=List (Nat×Nat)
def bytesOf(s:List UInt8):ByteArray:=⟨s.toArray⟩
mutual
def Aa(p:Pl):V→Value→Prop
 | .bool b,v=>v=.bool b
 | .int k n,v=>v=.int k n
 | .str s,v=>v=.string (bytesOf s)
 | .nilp,v=>v=.pointer none
 | .ptr b off,v=>∃r n,p[b]?=some (r,n)∧v=.pointer (some ⟨r,off,none⟩)
 | .nils,v=>v=.slice none 0 0
 | .sl b off len cap o,v=>∃r n c,p[b]?=some (r,n)∧v=.slice (some ⟨r,off,none⟩) len c∧len≤cap∧cap≤c∧(o=0→c=cap)∧(o≠0→off+c*o≤n)
 | .esl,v=>∃a c,v=.slice (some a) 0 c
 | .es0,v=>∃a,v=.slice (some a) 0 0
 | .junk,_=>False
 | .nilm,v=>v=.map none
 | .map b,v=>∃r n,p[b]?=some (r,n)∧v=.map (some r)
 | .fn f first captured,v=>∃x y,v=.func f x y∧Aq p first x.toList∧Aq p captured y.toList
 | .yld b,v=>∃r n,p[b]?=some (r,n)∧v=.func (.yield r) #[] #[]
 | .nilf,v=>v=.nilFunc
 | .iface t x,v=>∃y,v=.iface t y∧Aa p x y
 | .nili,v=>v=.nilIface
 | .agg cs,v=>∃x,v=.agg x∧Aq p cs x.toList
 | .tup cs,v=>∃x,v=.tuple x∧Aq p cs x.toList
def Aq(p:Pl):List V→List Value→Prop
 |[],l=>l=[]
 |d::ds,l=>∃v vs,l=v::vs∧Aa p d v∧Aq p ds vs
end
@[simp] theorem FX(p:Pl)(l:List Value):Aq p [] l↔l=[]:=by simp[Aq]
@[simp] theorem A5(p:Pl)(d:V)(ds:List V)(v:Value)(vs:List Value):Aq p (d::ds) (v::vs)↔Aa p d v∧Aq p ds vs:=by
 simp only[Aq];constructor
 ·rintro⟨_,_,h,h1,h2⟩;cases h;exact⟨h1,h2⟩
 ·rintro⟨h1,h2⟩;exact⟨v,vs,rfl,h1,h2⟩
@[simp] theorem WZ(p:Pl)(d:V)(ds:List V):¬Aq p (d::ds) []:=by
 simp[Aq]
theorem Aq.length{p:Pl}:∀ {ds:List V} {vs:List Value},Aq p ds vs→ds.length=vs.length
 |[],vs,h=>by simp at h;simp[h]
 |d::ds,[],h=>by simp at h
 |d::ds,v::vs,h=>by simp at h;simp[h.2.length]
theorem Aq.get{p:Pl}:∀ {ds:List V} {vs:List Value},Aq p ds vs→∀ {i:Nat} {d:V},ds[i]?=some d→∃v,vs[i]?=some v∧Aa p d v
 |[],vs,_,i,d,hd=>by simp at hd
 |d::ds,[],h,_,_,_=>by simp at h
 |d::ds,v::vs,h,i,x,hd=>by
  simp at h;cases i with
  |zero=>simp at hd;subst hd;exact⟨v,rfl,h.1⟩
  |succ i=>simp at hd;simpa using h.2.get hd
theorem Aq.mk{p:Pl}:∀ {ds:List V} {vs:List Value},ds.length=vs.length→(∀(i:Nat) d v,ds[i]?=some d→vs[i]?=some v→Aa p d v)→Aq p ds vs
 |[],[],_,_=>by simp
 |[],_::_,h,_=>by simp at h
 |_::_,[],h,_=>by simp at h
 |d::ds,v::vs,h,hh=>by
  simp at h;rw[A5];exact⟨hh 0 d v rfl rfl,Aq.mk h (fun i d' v' h1 h2=>hh (i+1) d' v' (by simpa using h1) (by simpa using h2))⟩
theorem Aq.append{p:Pl}:∀ {a:List V} {x:List Value} {b:List V} {y:List Value},Aq p a x→Aq p b y→Aq p (a++b) (x++y)
 |[],x,b,y,h,h'=>by simp at h;subst h;simpa using h'
 |d::ds,[],_,_,h,_=>by simp at h
 |d::ds,v::vs,b,y,h,h'=>by simp at h;simp[h.1,h.2.append h']
theorem Aq.take{p:Pl}:∀ {a:List V} {x:List Value} (n:Nat),Aq p a x→Aq p (a.take n) (x.take n)
 |[],x,n,h=>by simp at h;subst h;simp
 |d::ds,[],_,h=>by simp at h
 |d::ds,v::vs,0,h=>by simp
 |d::ds,v::vs,n+1,h=>by simp at h;simp[h.1,h.2.take n]
theorem Aq.drop{p:Pl}:∀ {a:List V} {x:List Value} (n:Nat),Aq p a x→Aq p (a.drop n) (x.drop n)
 |[],x,n,h=>by simp at h;subst h;simp
 |d::ds,[],_,h=>by simp at h
 |d::ds,v::vs,0,h=>by simpa using h
 |d::ds,v::vs,n+1,h=>by simp at h;simpa using h.2.drop n
theorem Aq.set{p:Pl}:∀ {a:List V} {x:List Value} (i:Nat) {d:V} {v:Value},Aq p a x→Aa p d v→Aq p (a.set i d) (x.set i v)
 |[],x,n,_,_,h,_=>by simp at h;subst h;simp
 |d::ds,[],_,_,_,h,_=>by simp at h
 |d::ds,v::vs,0,_,_,h,h'=>by simp at h;simp[h.2,h']
 |d::ds,v::vs,n+1,_,_,h,h'=>by simp at h;simp[h.1,h.2.set n h']
mutual
theorem Aa.mono{p:Pl}(q:Pl):∀ {d:V} {v:Value},Aa p d v→Aa (p++q) d v
 | .bool _,_,h=>by simpa [Aa]using h
 | .int _ _,_,h=>by simpa [Aa]using h
 | .str _,_,h=>by simpa [Aa]using h
 | .nilp,_,h=>by simpa [Aa]using h
 | .ptr b off,v,h=>by
  simp only[Aa]at h ⊢;obtain⟨r,n,h1,h2⟩:=h;exact⟨r,n,by rw[zi (by have:=(zf.1 h1).1;omega)];exact h1,h2⟩
 | .nils,_,h=>by simpa [Aa]using h
 | .sl b off len cap o,v,h=>by
  simp only[Aa]at h ⊢;obtain⟨r,n,c,h1,h2⟩:=h;exact⟨r,n,c,by rw[zi (by have:=(zf.1 h1).1;omega)];exact h1,h2⟩
 | .esl,_,h=>by simpa [Aa]using h
 | .es0,_,h=>by simpa [Aa]using h
 | .junk,_,h=>by simp[Aa]at h
 | .nilm,_,h=>by simpa [Aa]using h
 | .map b,v,h=>by
  simp only[Aa]at h ⊢;obtain⟨r,n,h1,h2⟩:=h;exact⟨r,n,by rw[zi (by have:=(zf.1 h1).1;omega)];exact h1,h2⟩
 | .fn f a b,v,h=>by
  simp only[Aa]at h ⊢;obtain⟨x,y,rfl,h1,h2⟩:=h;exact⟨x,y,rfl,Aq.mono q h1,Aq.mono q h2⟩
 | .yld b,v,h=>by
  simp only[Aa]at h ⊢;obtain⟨r,n,h1,h2⟩:=h;exact⟨r,n,by rw[zi (by have:=(zf.1 h1).1;omega)];exact h1,h2⟩
 | .nilf,_,h=>by simpa [Aa]using h
 | .iface t x,v,h=>by
  simp only[Aa]at h ⊢;obtain⟨y,rfl,h1⟩:=h;exact⟨y,rfl,Aa.mono q h1⟩
 | .nili,_,h=>by simpa [Aa]using h
 | .agg cs,v,h=>by
  simp only[Aa]at h ⊢;obtain⟨x,rfl,h1⟩:=h;exact⟨x,rfl,Aq.mono q h1⟩
 | .tup cs,v,h=>by
  simp only[Aa]at h ⊢;obtain⟨x,rfl,h1⟩:=h;exact⟨x,rfl,Aq.mono q h1⟩
theorem Aq.mono{p:Pl}(q:Pl):∀ {ds:List V} {vs:List Value},Aq p ds vs→Aq (p++q) ds vs
 |[],_,h=>by simpa using h
 |_::_,[],h=>by simp at h
 |d::ds,v::vs,h=>by simp only[A5]at h ⊢;exact⟨Aa.mono q h.1,Aq.mono q h.2⟩
end
structure Fr where
 n:Nat
 m:PM V
def Fr.get(f:Fr)(t:Nat):V:=(f.m.get t).getD (.tup [])
def Fr.put(f:Fr)(d:Option Nat)(v:V):Option Fr:=
 match d with
 |none=>some f
 |some t=>bif zI t f.n then some ⟨f.n,f.m.set t (some v)⟩else none
def D9(p:Pl)(f:Fr)(tmps:Array Value):Prop:=f.n=tmps.size∧∀t,Aa p (f.get t) (tmps.getD t undef)
def Cc(p:Pl)(f:Fr)(a:Act):Prop:=f.n=a.tmps.size∧∀t,Aa p (f.get t) (a.tmps.getD t undef)
theorem D9.mono{p:Pl}(q:Pl){f:Fr}{tmps:Array Value}(h:D9 p f tmps):D9 (p++q) f tmps:=⟨h.1,fun t=>(h.2 t).mono q⟩
structure LS where
 st:LoopState
 pend:Option Code
 fr:Fr
 ps:Array Tmp
 asg:Code
 body:Code
 db:Nat
inductive O where
 |cells (cs:List V) (elem:TypeId) (fz:Nat×Nat)
 |map (es:List (V×V×Nat)) (clock:Nat)
 |siter (s:List UInt8) (pos:Nat)
 |miter (b:Option Nat) (since:Nat) (seen:List Nat) (last:Nat)
 |loop (l:LS)
 |defd (open_:Bool)
structure H where
 m:PM O
 nx:Nat
def H.get(h:H)(b:Nat):Option O:=h.m.get b
def H.push(h:H)(o:O):H:=⟨h.m.set h.nx (some o),h.nx+1⟩
def H.put(h:H)(b:Nat)(o:O):H:=⟨h.m.set b (some o),h.nx⟩
def H.kill(h:H)(b:Nat):H:=⟨h.m.set b none,h.nx⟩
@[simp] theorem H.BS(h:H)(o:O)(b:Nat):(h.push o).get b=if b=h.nx then some o else h.get b:=by simp[H.push,H.get]
@[simp] theorem H.A9(h:H)(b:Nat)(o:O)(j:Nat):(h.put b o).get j=if j=b then some o else h.get j:=by simp[H.put,H.get]
@[simp] theorem H.CA(h:H)(b:Nat)(j:Nat):(h.kill b).get j=if j=b then none else h.get j:=by simp[H.kill,H.get]
@[simp] theorem H.mY(h:H)(o:O):(h.push o).nx=h.nx+1:=rfl
@[simp] theorem H.oF(h:H)(b:Nat)(o:O):(h.put b o).nx=h.nx:=rfl
@[simp] theorem H.UE(h:H)(b:Nat):(h.kill b).nx=h.nx:=rfl
inductive C8 (p:Pl):List (V×V×Nat)→List MapEntry→Prop
 |nil:C8 p [] []
 |cons {k v:V} {b:Nat} {es:List (V×V×Nat)} {e:MapEntry} {l:List MapEntry}:Aa p k e.key→Aa p v e.val→e.born=b→C8 p es l→C8 p ((k,v,b)::es) (e::l)
def V.ok:V→Bool
 | .junk=>false
 |_=>true
def Er(p:Pl)(cs:List V)(vs:List Value):Prop:=cs.length=vs.length∧∀(i:Nat) d v,cs[i]?=some d→vs[i]?=some v→d.ok=true→Aa p d v
theorem Aq.lR{p:Pl}{cs:List V}{vs:List Value}(h:Aq p cs vs):Er p cs vs:=⟨h.length,fun i d v h1 h2 _=>by
 obtain⟨u,h3,h4⟩:=h.get h1;rw[h2]at h3;cases h3;exact h4⟩
theorem Er.get{p:Pl}{cs:List V}{vs:List Value}(h:Er p cs vs){i:Nat}{d:V}(hi:cs[i]?=some d)(hd:d.ok=true):∃v,vs[i]?=some v∧Aa p d v:=by
 have hl:i<vs.length:=by rw[←h.1];exact(zf.1 hi).1
 exact⟨vs[i],zM hl,h.2 i d _ hi (zM hl) hd⟩
theorem Er.drop{p:Pl}{cs:List V}{vs:List Value}(h:Er p cs vs)(n:Nat):Er p (cs.drop n) (vs.drop n):=
 ⟨by simp[h.1],fun i d v h1 h2=>h.2 (n+i) d v (by rwa [zV]at h1) (by rwa [zV]at h2)⟩
theorem Er.take{p:Pl}{cs:List V}{vs:List Value}(h:Er p cs vs)(n:Nat):Er p (cs.take n) (vs.take n):=
 ⟨by simp[h.1],fun i d v h1 h2=>by
  have hi:i<n:=by have:=(zf.1 h1).1;simp at this;omega
  rw[zk hi]at h1 h2;exact h.2 i d v h1 h2⟩
theorem Er.Ng{p:Pl}{cs:List V}{vs:List Value}(h:Er p cs vs)(hk:∀d∈cs,d.ok=true):Aq p cs vs:=
 Aq.mk h.1 fun i d v h1 h2=>h.2 i d v h1 h2 (hk d (List.mem_of_getElem? h1))
def Gg(p:Pl)(n:Nat):O→Obj→Prop
 | .cells cs t fz,o=>∃(c:Array Value) (fz':Nat×Nat),o=.cells c t fz'∧c.size=n∧cs.length≤n∧Er p cs (c.toList.take cs.length)∧∀i,i<n→fz'.1≤i→i<fz'.2→fz.1≤i∧i<fz.2
 | .map es clock,o=>∃l:Array MapEntry,o=.map l clock∧C8 p es l.toList
 | .siter s pos,o=>o=.stringIter (bytesOf s) pos
 | .miter none since seen last,o=>o=.mapIter none since seen.toArray last
 | .miter (some b) since seen last,o=>∃r m,p[b]?=some (r,m)∧o=.mapIter (some r) since seen.toArray last
 | .loop l,o=>∃(fn:FuncId) (tmps:Array Value) (r m:Nat),D9 p l.fr tmps∧p[l.db]?=some (r,m)∧o=.loop { state:=l.st,pending:=l.pend,fn,tmps,params:=l.ps,assign:=l.asg,body:=l.body,defers:=r }
 | .defd op,o=>o=.deferred (bif op then some []else none)
theorem Er.mono{p:Pl}(q:Pl){cs:List V}{vs:List Value}(h:Er p cs vs):Er (p++q) cs vs:=⟨h.1,fun i d v h1 h2 h3=>(h.2 i d v h1 h2 h3).mono q⟩
theorem C8.mono{p:Pl}(q:Pl){es:List (V×V×Nat)}{l:List MapEntry}(h:C8 p es l):C8 (p++q) es l:=by
 induction h with
 |nil=>exact .nil
 |cons h1 h2 h3 _ ih=>exact .cons (h1.mono q) (h2.mono q) h3 ih
theorem Gg.mono{p:Pl}(q:Pl){n:Nat}{o:O}{x:Obj}(h:Gg p n o x):Gg (p++q) n o x:=by
 cases o with
 |cells cs t fz=>obtain⟨c,fz',h1,h2,h3,h4,h5⟩:=h;exact⟨c,fz',h1,h2,h3,h4.mono q,h5⟩
 |map es cl=>obtain⟨l,h1,h2⟩:=h;exact⟨l,h1,h2.mono q⟩
 |siter s pos=>exact h
 |miter b since seen last=>
  cases b with
  |none=>exact h
  |some b=>
   obtain⟨r,m,h1,h2⟩:=h;exact⟨r,m,by rw[zi (zf.1 h1).1];exact h1,h2⟩
 |loop l=>
  obtain⟨fn,tmps,r,m,h0,h1,h2⟩:=h;exact⟨fn,tmps,r,m,h0.mono q,by rw[zi (zf.1 h1).1];exact h1,h2⟩
 |defd _=>exact h
structure R(p:Pl)(h:H)(w:World):Prop where
 len:p.length=h.nx
 obj:∀b o,h.get b=some o→∃r n x,p[b]?=some (r,n)∧w.heap[r]?=some x∧Gg p n o x
 inj:∀b b' o o' r n n',h.get b=some o→h.get b'=some o'→p[b]?=some (r,n)→p[b']?=some (r,n')→b=b'
def Im(p:Pl)(h:H)(r:Nat):Prop:=∃b o n,h.get b=some o∧p[b]?=some (r,n)
def Lk(n:Nat)(fz:Nat×Nat):Prop:=fz.1=0∧n≤fz.2∧0<fz.2
def oZ(p:Pl)(h:H)(r:Nat):Prop:=∃b n cs t fz,h.get b=some (.cells cs t fz)∧p[b]?=some (r,n)∧Lk n fz
structure Ext(p:Pl)(h:H)(w:World)(p':Pl)(h':H)(w':World):Prop where
 pre:∃q,p'=p++q
 rel:R p' h' w'
 size:w.heap.size≤w'.heap.size
 same:∀r,r<w.heap.size→¬Im p h r→w'.heap[r]?=w.heap[r]?
 im:∀r,Im p' h' r→Im p h r∨w.heap.size≤r
 os:w'.os=w.os
 out:w'.output=w.output
 tape:w'.tape=w.tape
 lock:∀r,r<w.heap.size→oZ p h r→w'.heap[r]?=w.heap[r]?∧(oZ p' h' r∨¬Im p' h' r)
theorem Ext.refl{p:Pl}{h:H}{w:World}(hr:R p h w):Ext p h w p h w:=
 ⟨⟨[],by simp⟩,hr,zh _,fun _ _ _=>rfl,fun _ h=>.inl h,rfl,rfl,rfl,fun _ _ h=>⟨rfl,.inl h⟩⟩
theorem Ext.trans{p p₁ p₂:Pl}{h h₁ h₂:H}{w w₁ w₂:World}(a:Ext p h w p₁ h₁ w₁)(b:Ext p₁ h₁ w₁ p₂ h₂ w₂):Ext p h w p₂ h₂ w₂:=by
 obtain⟨q,hq⟩:=a.pre;obtain⟨q',hq'⟩:=b.pre;refine⟨⟨q++q',by rw[hq',hq,List.append_assoc]⟩,b.rel,yi a.size b.size,fun r hr hn=>?_,fun r hr=>?_,b.os.trans a.os,b.out.trans a.out,b.tape.trans a.tape,fun r hlt hl=>?_⟩
 ·rw[b.same r (Nat.lt_of_lt_of_le hr a.size) ?_,a.same r hr hn];intro h1;rcases a.im r h1 with h2|h2
  ·exact hn h2
  ·omega
 ·rcases b.im r hr with h1|h1
  ·exact a.im r h1
  ·exact .inr (yi a.size h1)
 ·obtain⟨e1,h1⟩:=a.lock r hlt hl;have hlt1:=Nat.lt_of_lt_of_le hlt a.size;rcases h1 with h1|h1
  ·obtain⟨e2,h2⟩:=b.lock r hlt1 h1;exact⟨e2.trans e1,h2⟩
  ·refine⟨(b.same r hlt1 h1).trans e1,.inr fun hi=>?_⟩;rcases b.im r hi with h2|h2
   ·exact h1 h2
   ·omega
theorem Ext.X6{p p':Pl}{h h':H}{w w':World}(e:Ext p h w p' h' w'){d:V}{v:Value}(hv:Aa p d v):Aa p' d v:=by
 obtain⟨q,rfl⟩:=e.pre;exact hv.mono q
theorem Ext.drew{p:Pl}{h:H}{w:World}(hr:R p h w)(n:Nat):Ext p h w p h { w with drawn:=n }:=
 ⟨⟨[],by simp⟩,⟨hr.len,hr.obj,hr.inj⟩,zh _,fun _ _ _=>rfl,fun _ h=>.inl h,rfl,rfl,rfl,fun _ _ h=>⟨rfl,.inl h⟩⟩
theorem R.lt{p:Pl}{h:H}{w:World}(hr:R p h w){b:Nat}{o:O}(hb:h.get b=some o):b<h.nx:=by
 obtain⟨r,n,x,h1,_⟩:=hr.obj b o hb;have:=(zf.1 h1).1;have:=hr.len;omega
theorem R.UF{p:Pl}{h:H}{w:World}(hr:R p h w){r:Nat}(hi:Im p h r):r<w.heap.size:=by
 obtain⟨b,o,n,h1,h2⟩:=hi;obtain⟨r',n',x,h3,h4,_⟩:=hr.obj b o h1;rw[h2]at h3;cases h3;exact(zC.1 h4).1
theorem Ext.push{p:Pl}{h:H}{w:World}(hr:R p h w){o:O}{x:Obj}{n:Nat}(ho:Gg p n o x):
  Ext p h w (p++[(w.heap.size,n)]) (h.push o) { w with heap:=w.heap.push x }:=by
 have hg:∀b o',h.get b=some o'→b≠h.nx:=fun b o' hb=>by have:=hr.lt hb;omega
 have hnew:(p++[(w.heap.size,n)])[h.nx]?=some (w.heap.size,n):=by rw[←hr.len];simp
 have hold:∀b,b<h.nx→(p++[(w.heap.size,n)])[b]?=p[b]?:=fun b hb=>zi (by rw[hr.len];exact hb)
 refine⟨⟨_,rfl⟩,⟨by simp[hr.len],fun b o' hb=>?_,fun b b' o₁ o₂ r m m' hb hb' h1 h2=>?_⟩,by simp,fun r hlt _=>?_,fun r hi=>?_,rfl,rfl,rfl,fun r hlt hl=>?_⟩
 ·rw[H.BS]at hb;by_cases e:b=h.nx
  ·subst e;simp at hb;subst hb;exact⟨_,_,x,hnew,by simp,ho.mono _⟩
  ·rw[if_neg e]at hb;obtain⟨r,m,y,h1,h2,h3⟩:=hr.obj b o' hb;refine⟨r,m,y,by rw[hold b (hr.lt hb)];exact h1,?_,h3.mono _⟩;have:=(zC.1 h2).1;simp[zU,yj this,h2]
 ·have key:∀c o' r m,(h.push o).get c=some o'→(p++[(w.heap.size,n)])[c]?=some (r,m)→(c=h.nx∧r=w.heap.size)∨(h.get c=some o'∧p[c]?=some (r,m)∧r<w.heap.size):=by
   intro c o' r m hc hp;rw[H.BS]at hc;by_cases e:c=h.nx
   ·subst e;rw[hnew]at hp;cases hp;exact .inl ⟨rfl,rfl⟩
   ·rw[if_neg e]at hc;rw[hold c (hr.lt hc)]at hp;exact .inr ⟨hc,hp,hr.UF ⟨c,o',m,hc,hp⟩⟩
  rcases key b o₁ r m hb h1 with⟨e1,e2⟩|⟨e1,e2,e3⟩<;>rcases key b' o₂ r m' hb' h2 with⟨f1,f2⟩|⟨f1,f2,f3⟩
  ·omega
  ·omega
  ·omega
  ·exact hr.inj b b' o₁ o₂ r m m' e1 f1 e2 f2
 ·simp[zU,yj hlt]
 ·obtain⟨b,o',m,h1,h2⟩:=hi;rw[H.BS]at h1;by_cases e:b=h.nx
  ·subst e;rw[hnew]at h2;cases h2;exact .inr (zh _)
  ·rw[if_neg e]at h1;rw[hold b (hr.lt h1)]at h2;exact .inl ⟨b,o',m,h1,h2⟩
 ·refine⟨by simp[zU,yj hlt],.inl ?_⟩;obtain⟨b,m,cs,t,fz,k1,k2,k3⟩:=hl;refine⟨b,m,cs,t,fz,?_,?_,k3⟩
  ·rw[H.BS,if_neg (hg b _ k1)];exact k1
  ·rw[hold b (hr.lt k1)];exact k2
theorem Ext.put{p:Pl}{h:H}{w w':World}(hr:R p h w){b r n:Nat}{o o':O}{x':Obj}(hb:h.get b=some o)(hp:p[b]?=some (r,n))(ho:Gg p n o' x')
  (hw:w'.heap=w.heap.setIfInBounds r x') (h1:w'.os=w.os) (h2:w'.output=w.output) (h3:w'.tape=w.tape)
  (hk:∀cs t fz,o=.cells cs t fz→Lk n fz→w.heap[r]?=some x'∧∃cs' t',o'=.cells cs' t' fz:=by intro _ _ _ h;cases h):Ext p h w p (h.put b o') w':=by
 have hlt:r<w.heap.size:=hr.UF ⟨b,o,n,hb,hp⟩;refine⟨⟨[],by simp⟩,⟨hr.len,fun c oc hc=>?_,fun c c' oc oc' s m m' hc hc' h1 h2=>?_⟩,by simp[hw],fun s hs hn=>?_,fun s hi=>?_,h1,h2,h3,fun s hs hl=>?_⟩
 ·rw[H.A9]at hc;by_cases e:c=b
  ·subst e;simp at hc;subst hc;exact⟨r,n,x',hp,by rw[hw];simp[hlt],ho⟩
  ·rw[if_neg e]at hc;obtain⟨s,m,y,g1,g2,g3⟩:=hr.obj c oc hc;refine⟨s,m,y,g1,?_,g3⟩;have hne:r≠s:=fun e'=>e (hr.inj c b oc o s m n hc hb g1 (e'▸hp))
   rw[hw,zj hne];exact g2
 ·have get':∀c oc,(h.put b o').get c=some oc→∃oc',h.get c=some oc':=by
   intro c oc hc;rw[H.A9]at hc;by_cases e:c=b
   ·exact⟨o,e▸hb⟩
   ·rw[if_neg e]at hc;exact⟨oc,hc⟩
  obtain⟨_,g1⟩:=get' c oc hc;obtain⟨_,g2⟩:=get' c' oc' hc';exact hr.inj c c' _ _ s m m' g1 g2 h1 h2
 ·have hne:r≠s:=fun e=>hn (e▸⟨b,o,n,hb,hp⟩)
  rw[hw,zj hne]
 ·obtain⟨c,oc,m,g1,g2⟩:=hi;rw[H.A9]at g1;by_cases e:c=b
  ·subst e;exact .inl ⟨c,o,m,hb,g2⟩
  ·rw[if_neg e]at g1;exact .inl ⟨c,oc,m,g1,g2⟩
 ·obtain⟨c,m,cs,t,fz,k1,k2,k3⟩:=hl;by_cases e:c=b
  ·subst e;rw[hp]at k2;cases k2;rw[hb]at k1;cases k1;obtain⟨g1,cs',t',rfl⟩:=hk cs t fz rfl k3;refine⟨?_,.inl ⟨c,n,cs',t',fz,by rw[H.A9,if_pos rfl],hp,k3⟩⟩;rw[hw,g1];simp[hlt]
  ·have hne:r≠s:=fun e'=>e (hr.inj c b _ o s m n k1 hb k2 (e'▸hp))
   refine⟨by rw[hw,zj hne],.inl ⟨c,m,cs,t,fz,by rw[H.A9,if_neg e];exact k1,k2,k3⟩⟩
theorem R.kill{p:Pl}{h:H}{w:World}(hr:R p h w)(b:Nat):R p (h.kill b) w:=by
 have sub:∀c o,(h.kill b).get c=some o→h.get c=some o:=by
  intro c o hc;rw[H.CA]at hc;split at hc
  ·cases hc
  ·exact hc
 exact⟨hr.len,fun c o hc=>hr.obj c o (sub c o hc),fun c c' o o' r n n' hc hc'=>hr.inj c c' o o' r n n' (sub c o hc) (sub c' o' hc')⟩
theorem Ext.kill{p:Pl}{h:H}{w:World}(hr:R p h w)(b:Nat):Ext p h w p (h.kill b) w:=by
 refine⟨⟨[],by simp⟩,hr.kill b,zh _,fun _ _ _=>rfl,fun r hi=>?_,rfl,rfl,rfl,fun r hlt hl=>⟨rfl,?_⟩⟩
 ·obtain⟨c,o,n,h1,h2⟩:=hi;rw[H.CA]at h1;split at h1
  ·cases h1
  ·exact .inl ⟨c,o,n,h1,h2⟩
 ·obtain⟨c,m,cs,t,fz,k1,k2,k3⟩:=hl;by_cases e:c=b
  ·subst e;refine .inr ?_;rintro⟨c',o',m',g1,g2⟩;rw[H.CA]at g1;split at g1
   ·cases g1
   ·rename_i hne;exact hne (hr.inj c' c _ _ r m' m g1 k1 g2 k2)
  ·exact .inl ⟨c,m,cs,t,fz,by rw[H.CA,if_neg e];exact k1,k2,k3⟩
theorem Ext.move{p:Pl}{h:H}{w w':World}(hr:R p h w){b r n:Nat}{o o':O}{x':Obj}(hb:h.get b=some o)(hp:p[b]?=some (r,n))(ho:Gg p n o' x')
  (hw:w'.heap=w.heap.setIfInBounds r x') (g1:w'.os=w.os) (g2:w'.output=w.output) (g3:w'.tape=w.tape) (hk:∀cs t fz,o=.cells cs t fz→¬Lk n fz):Ext p h w (p++[(r,n)]) ((h.kill b).push o') w':=by
 have hlt:r<w.heap.size:=hr.UF ⟨b,o,n,hb,hp⟩;have hnew:(p++[(r,n)])[h.nx]?=some (r,n):=by rw[←hr.len];simp
 have hold:∀b,b<h.nx→(p++[(r,n)])[b]?=p[b]?:=fun b hb=>zi (by rw[hr.len];exact hb)
 have get':∀c oc,((h.kill b).push o').get c=some oc→(c=h.nx∧oc=o')∨(c≠b∧c<h.nx∧h.get c=some oc):=by
  intro c oc hc;rw[H.BS,H.UE,H.CA]at hc;by_cases e:c=h.nx
  ·rw[if_pos e]at hc;cases hc;exact .inl ⟨e,rfl⟩
  ·rw[if_neg e]at hc;by_cases e2:c=b
   ·rw[if_pos e2]at hc;cases hc
   ·rw[if_neg e2]at hc;exact .inr ⟨e2,hr.lt hc,hc⟩
 have ne:∀c oc s m,c≠b→h.get c=some oc→p[c]?=some (s,m)→r≠s:=fun c oc s m hc hg hs e=>hc (hr.inj c b oc o s m n hg hb hs (e▸hp))
 refine⟨⟨_,rfl⟩,⟨by simp[hr.len],fun c oc hc=>?_,fun c c' oc oc' s m m' hc hc' h1 h2=>?_⟩,by simp[hw],fun s hs hn=>?_,fun s hi=>?_,g1,g2,g3,fun s hs hl=>?_⟩
 ·rcases get' c oc hc with⟨rfl,rfl⟩|⟨e1,e2,e3⟩
  ·exact⟨r,n,x',hnew,by rw[hw];simp[hlt],ho.mono _⟩
  ·obtain⟨s,m,y,k1,k2,k3⟩:=hr.obj c oc e3;refine⟨s,m,y,by rw[hold c e2];exact k1,?_,k3.mono _⟩;rw[hw,zj (ne c oc s m e1 e3 k1)];exact k2
 ·rcases get' c oc hc with⟨rfl,rfl⟩|⟨e1,e2,e3⟩<;>rcases get' c' oc' hc' with⟨rfl,rfl⟩|⟨f1,f2,f3⟩
  ·rfl
  ·rw[hnew]at h1;cases h1;rw[hold c' f2]at h2;exact absurd rfl (ne c' oc' _ _ f1 f3 h2)
  ·rw[hnew]at h2;cases h2;rw[hold c e2]at h1;exact absurd rfl (ne c oc _ _ e1 e3 h1)
  ·rw[hold c e2]at h1;rw[hold c' f2]at h2;exact hr.inj c c' oc oc' s m m' e3 f3 h1 h2
 ·have hne:r≠s:=fun e=>hn (e▸⟨b,o,n,hb,hp⟩)
  rw[hw,zj hne]
 ·obtain⟨c,oc,m,k1,k2⟩:=hi;rcases get' c oc k1 with⟨rfl,rfl⟩|⟨e1,e2,e3⟩
  ·rw[hnew]at k2;cases k2;exact .inl ⟨b,o,n,hb,hp⟩
  ·rw[hold c e2]at k2;exact .inl ⟨c,oc,m,e3,k2⟩
 ·obtain⟨c,m,cs,t,fz,k1,k2,k3⟩:=hl;by_cases e:c=b
  ·subst e;rw[hp]at k2;cases k2;rw[hb]at k1;cases k1;exact absurd k3 (hk cs t fz rfl)
  ·have hlc:=hr.lt k1;refine⟨by rw[hw,zj (ne c _ s m e k1 k2)],.inl ⟨c,m,cs,t,fz,?_,by rw[hold c hlc];exact k2,k3⟩⟩;rw[H.BS,H.UE,if_neg (by omega),H.CA,if_neg e];exact k1
end
end Go.Det
end
section
namespace Go.Det
noncomputable section
section
variable {p:Pl}
def V.cells:V→List V
 | .agg cs=>cs
 |v=>[v]
theorem Aa.cells{d:V}{v:Value}(hv:Aa p d v):Aq p d.cells v.cells.toList:=by
 cases d<;>simp only[V.cells]<;>simp only[Aa]at hv
 case agg cs=>obtain⟨x,rfl,h1⟩:=hv;exact h1
 case bool=>subst hv;simp[zo,Aa]
 case int=>subst hv;simp[zo,Aa]
 case str=>subst hv;simp[zo,Aa]
 case nilp=>subst hv;simp[zo,Aa]
 case nils=>subst hv;simp[zo,Aa]
 case nilm=>subst hv;simp[zo,Aa]
 case nilf=>subst hv;simp[zo,Aa]
 case nili=>subst hv;simp[zo,Aa]
 case ptr=>obtain⟨r,n,h1,rfl⟩:=hv;simp[zo,Aa,h1]
 case esl=>obtain⟨a,c,rfl⟩:=hv;simp[zo,Aa]
 case es0=>obtain⟨a,rfl⟩:=hv;simp[zo,Aa]
 case sl=>obtain⟨r,n,c,h1,rfl,h2⟩:=hv;simp only[zo,A5,FX,and_true];simp only[Aa];exact⟨r,n,c,h1,rfl,h2⟩
 case map=>obtain⟨r,n,h1,rfl⟩:=hv;simp[zo,Aa,h1]
 case yld=>obtain⟨r,n,h1,rfl⟩:=hv;simp[zo,Aa,h1]
 case fn=>obtain⟨x,y,rfl,h1,h2⟩:=hv;simp only[zo,A5,FX,and_true];simp only[Aa];exact⟨x,y,rfl,h1,h2⟩
 case iface=>obtain⟨y,rfl,h1⟩:=hv;simp[zo,Aa];exact h1
 case tup=>obtain⟨x,rfl,h1⟩:=hv;simp[zo,Aa];exact h1
end
structure TI where
 size:Nat
 bytes:Nat
 zv:V
def TI.zero(i:TI):List V:=i.zv.cells
inductive FK where
 |bool
 |str
 |int (k:IntKind)
def FK.ok:FK→V→Bool
 | .bool,.bool _=>true
 | .str,.str _=>true
 | .int k,.int k' _=>k==k'
 |_,_=>false
def fit:List FK→List V→Bool
 |[],[]=>true
 |k::ks,v::vs=>bif k.ok v then fit ks vs else false
 |_,_=>false
structure BZ where
 und:TypeId→Option TypeDesc
 inf:TypeId→Option TI
 flat:TypeId→Option (List FK)
def C9:V→V→Option Bool
 | .bool a,.bool b=>some (a==b)
 | .int k a,.int k' b=>if k=k' then some (a==b)else none
 | .str a,.str b=>some (a==b)
 |_,_=>none
def BD:List V→List V→Option Bool
 |[],[]=>some true
 |a::qB,b::bs=>
  match C9 a b with
  |some true=>BD qB bs
  |some false=>if qB.length=bs.length then some false else none
  |none=>none
 |_,_=>none
structure BZ.Ok(T:BZ)(P:Program):Prop where
 und:∀t d,T.und t=some d→P.underlying t=some d
 inf:∀t i,T.inf t=some i→∃j v,P.info? t=some j∧j.size=i.size∧j.bytes=i.bytes∧j.zero=some v∧∀p,Aa p i.zv v
 flat:∀t ks,T.flat t=some ks→∀(p:Pl) (x y:List V) (x' y':Array Value) (r:Bool) (w:World),fit ks x=true→fit ks y=true→Aq p x x'.toList→Aq p y y'.toList→BD x y=some r→
  (yk t (.agg x') (.agg y')).run P w=.ok r w
 guard:∀t ks,T.flat t=some ks→P.eqGuardType P.depth t=false
 key:∀t ks,T.flat t=some ks→∀(p:Pl) (x:List V) (x':Array Value) (b:Bool) (w:World),fit ks x=true→Aq p x x'.toList→(Instr.checkKey b 10000 t (.agg x')).run P w=.ok () w
 kind:∀t ks,T.flat t=some ks→∃fs,T.und t=some (.struct fs)
section
variable {T:BZ}{P:Program}{p:Pl}{h:H}{w:World}
theorem Au(hT:T.Ok P){t:TypeId}{d:TypeDesc}(ht:T.und t=some d):(underlying t).run P w=.ok d w:=by
 unfold underlying;simp[hT.und t d ht]
theorem Bg(hT:T.Ok P){t:TypeId}{i:TI}(ht:T.inf t=some i):(sizeOf t).run P w=.ok i.size w:=by
 obtain⟨j,v,h1,h2,_⟩:=hT.inf t i ht;unfold sizeOf typeInfo;simp[h1,h2]
theorem MI(hT:T.Ok P){t:TypeId}{i:TI}(ht:T.inf t=some i):∃j,(∀w,(typeInfo t).run P w=.ok j w)∧j.bytes=i.bytes∧j.size=i.size:=by
 obtain⟨j,v,h1,h2,h3,_⟩:=hT.inf t i ht;exact⟨j,fun w=>by unfold typeInfo;simp[h1],h3,h2⟩
theorem DO(hT:T.Ok P){t:TypeId}{i:TI}(ht:T.inf t=some i):∃v,(∀w,(zeroValue t).run P w=.ok v w)∧∀p,Aq p i.zero v.cells.toList:=by
 obtain⟨j,v,h1,h2,h3,h4,h5⟩:=hT.inf t i ht;exact⟨v,fun w=>by unfold zeroValue typeInfo;simp[h1,h4],fun p=>(h5 p).cells⟩
theorem iH(hT:T.Ok P){t:TypeId}{i:TI}(ht:T.inf t=some i):∃v,(∀w,(zeroValue t).run P w=.ok v w)∧∀p,Aa p i.zv v:=by
 obtain⟨j,v,h1,h2,h3,h4,h5⟩:=hT.inf t i ht;exact⟨v,fun w=>by unfold zeroValue typeInfo;simp[h1,h4],h5⟩
def Dp:TypeDesc→Bool
 | .struct _| .array _ _=>true
 |_=>false
theorem OZ(hT:T.Ok P){t:TypeId}{d:TypeDesc}(ht:T.und t=some d):(isAgg t).run P w=.ok (Dp d) w:=by
 unfold isAgg;rw[zd,Au hT ht];cases d<;>simp[Dp]
def V.one:V→Bool
 | .agg _| .tup _| .junk=>false
 |_=>true
theorem V.Of{d:V}(h:d.one=true):d.ok=true:=by cases d<;>first|rfl|cases h
theorem Aa.one{d:V}{v:Value}(hv:Aa p d v)(h1:d.one=true):v.oneCell'=true:=by
 cases d<;>simp only[V.one]at h1<;>simp only[Aa]at hv
 case agg|tup=>cases h1
 case ptr=>obtain⟨r,n,_,rfl⟩:=hv;rfl
 case esl=>obtain⟨a,c,rfl⟩:=hv;rfl
 case es0=>obtain⟨a,rfl⟩:=hv;rfl
 case sl=>obtain⟨r,n,c,_,rfl,_⟩:=hv;rfl
 case map=>obtain⟨r,n,_,rfl⟩:=hv;rfl
 case yld=>obtain⟨r,n,_,rfl⟩:=hv;rfl
 case fn=>obtain⟨x,y,rfl,_,_⟩:=hv;rfl
 case iface=>obtain⟨y,rfl,_⟩:=hv;rfl
 all_goals subst hv;rfl
@[simp] theorem Addr.Hm(r off n:Nat):Addr.add ⟨r,off,none⟩ n=⟨r,off+n,none⟩:=by
 unfold Addr.add;split<;>simp_all
def kG(h:H)(b off n:Nat):Option (List V):=
 match h.get b with
 |some (.cells cs _ _)=>if off+n≤cs.length∧((cs.drop off).take n).all V.ok=true then some ((cs.drop off).take n)else none
 |_=>none
def rd(h:H)(b off n:Nat):Option (List V):=
 match h.get b with
 |some (.cells cs _ _)=>bif zp (yf off n) (GQ cs)&&Jz V.ok (Uy n (Jd off cs))then some (Uy n (Jd off cs))else none
 |_=>none
theorem Up:rd=kG:=by
 funext h b off n
 unfold rd kG;split
 ·rename_i cs _ _ _;rw[D3,Mv,MD,Et];by_cases e:off+n≤cs.length
  ·rw[show zp (yf off n) cs.length=true from Nat.ble_eq_true_of_le e];cases e2:((cs.drop off).take n).all V.ok with
   |true=>rw[if_pos ⟨e,rfl⟩];rfl
   |false=>rw[if_neg (by simp)];rfl
  ·rw[if_neg (fun h=>e h.1),show zp (yf off n) cs.length=false from by cases hc:zp (yf off n) cs.length with|false=>rfl|true=>exact absurd (Nat.le_of_ble_eq_true hc) e];rfl
 ·rfl
theorem cell_of(hr:R p h w){b:Nat}{cs:List V}{t:TypeId}{fz:Nat×Nat}(hb:h.get b=some (.cells cs t fz)):
  ∃r n c fz',p[b]?=some (r,n)∧w.heap[r]?=some (.cells c t fz')∧c.size=n∧cs.length≤n∧Er p cs (c.toList.take cs.length)∧(∀i,w.cell? ⟨r,i,none⟩=c[i]?)∧
   ∀i,i<n→fz'.1≤i→i<fz'.2→fz.1≤i∧i<fz.2:=by
 obtain⟨r,n,x,h1,h2,c,fz',h3,h4,h5,h6,h7⟩:=hr.obj b _ hb;subst h3;exact⟨r,n,c,fz',h1,h2,h4,h5,h6,fun i=>by simp[World.cell?,h2],h7⟩
theorem Ip{a:Addr}{v:Value}(hc:w.cell? a=some v):(load a).run P w=.ok v w:=by simp[hc]
theorem run_loadCellsFrom{a:Addr}:∀(n i:Nat) (acc:Array Value) (vs:List Value),vs.length=n→(∀j v,vs[j]?=some v→w.cell? (a.add (i+j))=some v)→
  (loadCellsFrom a i n acc).run P w=.ok (acc++vs.toArray) w
 |0,i,acc,vs,hl,_=>by
  have:vs=[]:=zP.1 hl;subst this;simp[loadCellsFrom]
 |n+1,i,acc,[],hl,_=>by simp at hl
 |n+1,i,acc,v::vs,hl,hc=>by
  unfold loadCellsFrom;rw[zd,Ip (a:=a.add i) (by have:=hc 0 v rfl;simpa using this)];simp only[zc];rw[run_loadCellsFrom n (i+1) (acc.push v) vs (by simpa using hl) (fun j u hj=>by
   have:=hc (j+1) u (by simpa using hj);rwa [show i+(j+1)=i+1+j from by omega]at this)]
  simp
theorem run_loadCells(hr:R p h w){b off n:Nat}{xs:List V}(hx:rd h b off n=some xs):
  ∃r m vs,p[b]?=some (r,m)∧(loadCells ⟨r,off,none⟩ n).run P w=.ok vs.toArray w∧Aq p xs vs∧vs.length=n∧∀i v,vs[i]?=some v→w.cell? ⟨r,off+i,none⟩=some v:=by
 rw[Up]at hx;unfold kG at hx;split at hx
 case h_2=>cases hx
 rename_i cs t fz hb;split at hx
 case isFalse=>cases hx
 rename_i hle;obtain⟨hle,hok⟩:=hle;cases hx;obtain⟨r,m,c,_,h1,h2,h3,h4,h5,h6,_⟩:=cell_of hr hb;have hvs:Aq p ((cs.drop off).take n) ((c.toList.take cs.length).drop off|>.take n):=((h5.drop off).take n).Ng fun d hd=>z7.1 hok d hd
 have hlen:((c.toList.take cs.length).drop off|>.take n).length=n:=by simp;omega
 have hcell:∀i v,((c.toList.take cs.length).drop off|>.take n)[i]?=some v→w.cell? ⟨r,off+i,none⟩=some v:=by
  intro i v hv;have hi:i<n:=by have:=(zf.1 hv).1;omega
  rw[h6];rw[zk hi,zV,zk (by omega)]at hv;simpa using hv
 refine⟨r,m,_,h1,?_,hvs,hlen,hcell⟩;unfold loadCells;rw[run_loadCellsFrom n 0 #[] _ hlen (fun j v hv=>by simpa using hcell j v hv)];simp
def Ei(T:BZ)(h:H)(t:TypeId)(a:V):Option V:=
 match a,T.und t,T.inf t with
 | .ptr b off,some d,some i=>
  bif Dp d then(rd h b off i.size).map .agg
  else match rd h b off 1 with
   |some (v::_)=>some v
   |_=>none
 |_,_,_=>none
theorem RD(hT:T.Ok P)(hr:R p h w){t:TypeId}{a v:V}{a':Value}(ha:Aa p a a')(hd:Ei T h t a=some v):
  ∃v',(Instr.loadAt t a').run P w=.ok v' w∧Aa p v v':=by
 unfold Ei at hd;split at hd
 case h_2=>cases hd
 rename_i b off d i hu hi;simp only[Aa]at ha;obtain⟨r,n,hp,rfl⟩:=ha;unfold Instr.loadAt zQ;simp only[zd,ze,zc];unfold loadVar;simp only[zd];rw[OZ hT hu];simp only[zc];cases hag:Dp d with
 |true=>
  simp only[hag,cond_true]at hd;rw[zn]at hd;obtain⟨xs,hx,rfl⟩:=hd;obtain⟨r',m,vs,h1,h2,h3,_⟩:=run_loadCells (P:=P) hr hx;rw[hp]at h1;cases h1;simp only[if_true,zd,Bg hT hi,zc,h2,ze];exact⟨_,rfl,by simp only[Aa];exact⟨_,rfl,by simpa using h3⟩⟩
 |false=>
  simp only[hag,cond_false]at hd;split at hd
  case h_2=>cases hd
  rename_i v0 tl hx;cases hd;obtain⟨r',m,vs,h1,h2,h3,h4,h5⟩:=run_loadCells (P:=P) hr hx;rw[hp]at h1;cases h1;cases vs with
  |nil=>simp at h4
  |cons u us=>
   simp at h3;simp only[zl,if_false];have:=h5 0 u rfl;rw[Ip (by simpa using this)];exact⟨u,rfl,h3.1⟩
def Fq:List V→Nat→List V→List V
 |cs,_,[]=>cs
 |cs,off,v::vs=>Fq (cs.set off v) (off+1) vs
@[simp] theorem Fa:∀(vs:List V) (cs:List V) (off:Nat),(Fq cs off vs).length=cs.length
 |[],_,_=>rfl
 |v::vs,cs,off=>by simp[Fq,Fa vs]
def clear(fz:Nat×Nat)(off n:Nat):Bool:=zp fz.2 off||zp (off+n) fz.1||zp fz.2 fz.1
def nY(h:H)(b off:Nat)(vs:List V):Option H:=
 match h.get b with
 |some (.cells cs t fz)=>bif zp (off+vs.length) cs.length&&clear fz off vs.length&&vs.all V.one then some (h.put b (.cells (Fq cs off vs) t fz))else none
 |_=>none
theorem J0(a:V):∀(vs cs:List V) (off:Nat),Fq (a::cs) (off+1) vs=a::Fq cs off vs
 |[],cs,off=>rfl
 |v::vs,cs,off=>by
  show Fq ((a::cs).set (off+1) v) (off+1+1) vs=a::Fq (cs.set off v) (off+1) vs;rw[List.set_cons_succ,J0 a vs]
theorem Nf:∀(vs:List V) (off:Nat),Fq [] off vs=[]
 |[],_=>rfl
 |v::vs,off=>by show Fq ([].set off v) (off+1) vs=[];rw[List.set_nil,Nf vs]
theorem R9:∀(vs cs:List V),Ig vs cs=Fq cs 0 vs
 |[],cs=>rfl
 |v::vs,[]=>(Nf _ _).symm
 |v::vs,c::cs=>by
  show v::Ig vs cs=Fq ((c::cs).set 0 v) (0+1) vs;rw[List.set_cons_zero,J0,R9 vs cs]
theorem HN(vs:List V):∀(off:Nat) (cs:List V),Cj off vs cs=Fq cs off vs
 |0,cs=>R9 vs cs
 |off+1,[]=>(Nf _ _).symm
 |off+1,c::cs=>by rw[J0];exact congrArg (c:: ·) (HN vs off cs)
def wr(h:H)(b off:Nat)(vs:List V):Option H:=
 match h.get b with
 |some (.cells cs t fz)=>bif zp (yf off (GQ vs)) (GQ cs)&&clear fz off (GQ vs)&&Jz V.one vs then some (h.put b (.cells (Cj off vs cs) t fz))else none
 |_=>none
theorem kZ:wr=nY:=by
 funext h b off vs
 unfold wr nY;split
 ·rw[D3,D3,Et,HN];rfl
 ·rfl
theorem Jk(a:Array Obj)(i:Nat)(x:Obj)(j:Nat):(a.setIfInBounds i x)[j]?=if i=j∧j<a.size then some x else a[j]?:=by
 by_cases e:i=j
 ·subst e;by_cases h:i<a.size
  ·simp[h]
  ·simp[h]
 ·rw[zj e];simp[e]
theorem XI{a:Array Obj}{i:Nat}{x:Obj}(h:a[i]?=some x):a.setIfInBounds i x=a:=by
 apply zW;intro j;rw[Jk];split
 ·rename_i e;rw[←e.1,h]
 ·rfl
theorem set_set(a:Array Obj)(i:Nat)(x y:Obj):(a.setIfInBounds i x).setIfInBounds i y=a.setIfInBounds i y:=by
 apply zW;intro j;simp only[Jk,Array.size_setIfInBounds];split<;>simp_all
theorem Sm{a:Array Obj}{i:Nat}{f:Obj→Obj}{x:Obj}(h:a[i]?=some x):a.modify i f=a.setIfInBounds i (f x):=by
 apply zW;intro j;rw[Jk,Array.getElem?_modify];by_cases e:i=j
 ·subst e;have:=(zC.1 h).1;rw[if_pos rfl,h,if_pos ⟨rfl,this⟩];rfl
 ·simp[e]
theorem S9{w:World}{r off:Nat}{c:Array Value}{t:TypeId}{fz:Nat×Nat}(v:Value)(hb:w.heap[r]?=some (.cells c t fz)):
  w.setCell ⟨r,off,none⟩ v={ w with heap:=w.heap.setIfInBounds r (.cells (c.setIfInBounds off v) t fz) }:=by
 unfold World.setCell;rw[Sm hb];rfl
theorem EL{r:Nat}{t:TypeId}{fz:Nat×Nat}:∀(vs:List Value) (w:World) (c:Array Value) (off i:Nat),w.heap[r]?=some (.cells c t fz)→off+i+vs.length≤c.size→
  (∀v∈vs,v.oneCell'=true)→(∀j,i≤j→j<i+vs.length→¬(fz.1≤off+j∧off+j<fz.2))→
  ∃c':Array Value,(storeCells ⟨r,off,none⟩ vs i).run P w=.ok () { w with heap:=w.heap.setIfInBounds r (.cells c' t fz) }∧c'.size=c.size∧
   c'.toList=(List.range c.size).map (fun j=>if off+i≤j∧j<off+i+vs.length then vs.getD (j-(off+i)) default else c.toList.getD j default)
 |[],w,c,off,i,hb,_,_,_=>by
  refine⟨c,?_,rfl,?_⟩
  ·simp only[storeCells,ze,XI hb]
  ·apply List.ext_getElem (by simp);intro j h1 h2;have hj:j<c.size:=by simpa using h1
   simp only[List.getElem_map,List.getElem_range,List.length_nil,ya];rw[if_neg (by omega)];simp[zK,hj]
 |v::vs,w,c,off,i,hb,hle,hone,hfz=>by
  simp at hle;have hcell:w.cell? ⟨r,off+i,none⟩=some (c[off+i]'(by omega)):=by simp[World.cell?,hb]
  have hfr:w.frozen? ⟨r,off+i,none⟩=false:=by
   simp only[World.frozen?,hb];have:=hfz i (zh _) (by simp);rw[Bool.eq_false_iff];intro hh;apply this;simpa using hh
  have hset:=S9 (off:=off+i) v hb;have hlt:=(zC.1 hb).1;obtain⟨c',h1,h2,h3⟩:=EL vs { w with heap:=w.heap.setIfInBounds r (.cells (c.setIfInBounds (off+i) v) t fz) } (c.setIfInBounds (off+i) v) off (i+1)
   (by rw[Jk,if_pos ⟨rfl,hlt⟩]) (by simp;omega) (fun u hu=>hone u (by simp[hu])) (fun j hj1 hj2=>hfz j (by omega) (by simp;omega))
  refine⟨c',?_,by simpa using h2,?_⟩
  ·unfold storeCells;rw[zd,Addr.Hm,run_store P w _ v .plain (hone v (by simp))];simp only[hcell,hfr,zl,if_false,zc,hset,h1,set_set]
  ·rw[h3];apply List.ext_getElem (by simp);intro j g1 g2;simp at g1;simp only[List.getElem_map,List.getElem_range,List.length_cons];by_cases e:j=off+i
   ·subst e;rw[if_neg (by omega),if_pos (by omega)];simp[zK,g1]
   ·by_cases e2:off+(i+1)≤j∧j<off+(i+1)+vs.length
    ·rw[if_pos e2,if_pos (by omega)];have:j-(off+i)=(j-(off+(i+1)))+1:=by omega
     rw[this];simp[zK]
    ·rw[if_neg e2,if_neg (by omega)];simp only[zK,Array.toList_setIfInBounds];rw[List.getElem?_set_ne (fun x=>e x.symm)]
theorem Ni:∀(vs cs:List V) (off j:Nat),off+vs.length≤cs.length→(Fq cs off vs)[j]?=if off≤j∧j<off+vs.length then vs[j-off]? else cs[j]?
 |[],cs,off,j,_=>by rw[if_neg (by simp only[List.length_nil];omega)];rfl
 |v::vs,cs,off,j,hle=>by
  simp at hle;unfold Fq;rw[Ni vs (cs.set off v) (off+1) j (by simp;omega)];by_cases e:j=off
  ·subst e;rw[if_neg (by omega),if_pos (by simp)];have:j<cs.length:=by omega
   simp[this]
  ·by_cases e2:off+1≤j∧j<off+1+vs.length
   ·rw[if_pos e2,if_pos (by simp;omega)];have:j-off=(j-(off+1))+1:=by omega
    rw[this];simp
   ·rw[if_neg e2,if_neg (by simp;omega),List.getElem?_set_ne (fun x=>e x.symm)]
theorem PJ(hr:R p h w){b off:Nat}{xs:List V}{vs:List Value}(hx:Aq p xs vs){h':H}(hw:wr h b off xs=some h'):
  ∃r m w',p[b]?=some (r,m)∧(storeCells ⟨r,off,none⟩ vs).run P w=.ok () w'∧Ext p h w p h' w':=by
 rw[kZ]at hw;unfold nY at hw;split at hw
 case h_2=>cases hw
 rename_i cs t fz hb;cases hc:(zp (off+xs.length) cs.length&&clear fz off xs.length&&xs.all V.one)with
 |false=>simp[hc]at hw
 |true=>
  simp only[hc,cond_true,zg]at hw;subst hw;simp only[zB,zy,z7]at hc;obtain⟨⟨c1,c2⟩,c3⟩:=hc;obtain⟨r,m,c,fz',h1,h2,h3,h4,h5,h6,h7⟩:=cell_of hr hb;have hl:=hx.length;have hone:∀v∈vs,v.oneCell'=true:=by
   intro v hv;obtain⟨i,hi⟩:=List.mem_iff_getElem?.1 hv;have hi':=(zf.1 hi).1;obtain⟨u,hu1,hu2⟩:=hx.get (i:=i) (d:=xs[i]'(by omega)) (by simp);rw[hi]at hu1;cases hu1;exact hu2.one (c3 _ (List.getElem_mem _))
  have hfz:∀j,0≤j→j<0+vs.length→¬(fz'.1≤off+j∧off+j<fz'.2):=by
   rintro j _ hj ⟨k1,k2⟩;have:=h7 (off+j) (by omega) k1 k2;simp only[clear,yd,zy]at c2;omega
  obtain⟨c',g1,g2,g3⟩:=EL (P:=P) vs w c off 0 h2 (by omega) hone hfz;refine⟨r,m,_,h1,g1,Ext.put hr hb h1 ?_ rfl rfl rfl rfl (fun cs1 t1 fz1 e1 hlk=>?_)⟩
  case refine_2=>
   cases e1;refine⟨?_,_,_,rfl⟩;obtain⟨l1,l2,l3⟩:=hlk;simp only[clear,yd,zy]at c2;have hx0:xs.length=0:=by omega
   have hv0:vs=[]:=zP.1 (by omega);subst hv0;have hcc:c'=c:=by
    apply Array.ext';apply List.ext_getElem?;intro j;rw[g3];by_cases hj:j<c.size
    ·rw[zD,zF hj];simp only[zN];rw[if_neg (by simp)];simp[zK,hj]
    ·rw[List.getElem?_eq_none (by simp;omega),List.getElem?_eq_none (by simp;omega)]
   rw[hcc];exact h2
  refine⟨c',fz',rfl,by omega,by simpa using h4,?_,h7⟩;rw[Fa];refine⟨by simp;omega,?_⟩;intro i d v hd hv hok;rw[Ni xs cs off i (by omega)]at hd;have hi:i<cs.length:=by
   have:=(zf.1 hv).1;simp at this;omega
  rw[zk hi,g3]at hv;simp only[ya,zD]at hv;rw[zF (by omega)]at hv;simp only[zN,zg]at hv;by_cases e:off≤i∧i<off+xs.length
  ·rw[if_pos e]at hd;rw[if_pos (by omega)]at hv;obtain⟨u,hu1,hu2⟩:=hx.get hd;simp only[zK,hu1,zL]at hv;exact hv▸hu2
  ·rw[if_neg e]at hd;rw[if_neg (by omega)]at hv;obtain⟨u,hu1,hu2⟩:=h5.get hd hok;rw[zk hi]at hu1;simp only[zK,hu1,zL]at hv;exact hv▸hu2
def G2(T:BZ)(h:H)(t:TypeId)(a x:V):Option H:=
 match a,T.inf t with
 | .ptr b off,some i=>bif zm x.cells.length i.size then wr h b off x.cells else none
 |_,_=>none
theorem VL(hT:T.Ok P)(hr:R p h w){t:TypeId}{a x:V}{a' x':Value}(ha:Aa p a a')(hx:Aa p x x'){h':H}(hd:G2 T h t a x=some h'):
  ∃w',(Instr.storeAt t a' x').run P w=.ok () w'∧Ext p h w p h' w':=by
 unfold G2 at hd;split at hd
 case h_2=>cases hd
 rename_i b off i hi;rw[Be]at hd;by_cases e:x.cells.length=i.size
 ·simp only[e,decide_true,cond_true]at hd;simp only[Aa]at ha;obtain⟨r,n,hp,rfl⟩:=ha;obtain⟨r',m,w',h1,h2,h3⟩:=PJ (P:=P) hr hx.cells hd;rw[hp]at h1;cases h1;refine⟨w',?_,h3⟩;have hl:=hx.cells.length;unfold Instr.storeAt zQ;simp only[zd,ze,zc];unfold storeVar;have:x'.cells.size=i.size:=by rw[←e,hl];simp
  simp only[zd,Bg hT hi,zc,this,ne_eq,not_true_eq_false,if_false];exact h2
 ·simp[e]at hd
theorem B1(t:TypeId)(c:Array Value):(newRow t c).run P w=.ok ⟨w.heap.size,0,none⟩ { w with heap:=w.heap.push (.cells c t) }:=by
 unfold newRow;simp
def GX(h:H)(t:TypeId)(cs:List V):H:=h.push (.cells cs t (0,0))
theorem Lu(hr:R p h w)(t:TypeId){xs:List V}{c:Array Value}(hx:Aq p xs c.toList):
  ∃n,Ext p h w (p++[(w.heap.size,n)]) (GX h t xs) { w with heap:=w.heap.push (.cells c t) }∧(p++[(w.heap.size,n)])[h.nx]?=some (w.heap.size,n)∧n=c.size:=by
 refine⟨c.size,Ext.push hr ⟨c,(0,0),rfl,rfl,by have:=hx.length;simp at this;omega,?_,fun i _ h1 h2=>⟨h1,h2⟩⟩,by rw[←hr.len];simp,rfl⟩;have:=hx.length;rw[yb (by simp at this ⊢;omega)];exact hx.lR
def Fy(T:BZ)(h:H)(t:TypeId):Option (V×H):=(T.inf t).map fun i=>(.ptr h.nx 0,GX h t i.zero)
theorem Vs(hT:T.Ok P)(hr:R p h w){t:TypeId}{v:V}{h':H}(hd:Fy T h t=some (v,h')):
  ∃v' p' w',(Instr.alloc t true (.tuple #[])).run P w=.ok v' w'∧Aa p' v v'∧Ext p h w p' h' w':=by
 unfold Fy at hd;rw[zn]at hd;obtain⟨i,hi,he⟩:=hd;cases he;obtain⟨z,hz,hzr⟩:=DO hT hi;obtain⟨n,he,hp,_⟩:=Lu hr t (hzr p);refine⟨.pointer (some ⟨w.heap.size,0,none⟩),_,_,?_,?_,he⟩
 ·unfold Instr.alloc;simp only[zd,hz,zc];unfold newVar;simp only[B1,zc,ze]
 ·simp only[Aa];exact⟨_,_,hp,rfl⟩
def Vw(h:H)(t:TypeId)(x:V):V×H:=(.ptr h.nx 0,GX h t x.cells)
theorem aV(hr:R p h w){t:TypeId}{x:V}{x':Value}(hx:Aa p x x'):
  ∃v' p' w',(Instr.box t x').run P w=.ok v' w'∧Aa p' (Vw h t x).1 v'∧Ext p h w p' (Vw h t x).2 w':=by
 obtain⟨n,he,hp,_⟩:=Lu hr t hx.cells;refine⟨.pointer (some ⟨w.heap.size,0,none⟩),_,_,?_,?_,he⟩
 ·unfold Instr.box newVar;simp only[zd,B1,zc,ze]
 ·simp only[Vw,Aa];exact⟨_,_,hp,rfl⟩
end
end
end Go.Det
end
section
namespace Go.Det
noncomputable section
section
variable {T:BZ}{P:Program}{p:Pl}{h:H}{w:World}
def Rl(op:BinOp)(x y:List UInt8):Option V:=
 match op with
 | .add=>if x.length+y.length≤4611686018427387904 then some (.str (x++y))else none
 | .eql=>some (.bool (x==y))
 | .neq=>some (.bool !(x==y))
 | .lss=>some (.bool (yc x y))
 | .leq=>some (.bool (yc x y||x==y))
 | .gtr=>some (.bool !(yc x y||x==y))
 | .geq=>some (.bool !yc x y)
 |_=>none
theorem EJ(s:List UInt8):(bytesOf s).toList=s:=ByteArray.toList_mk s
theorem Bw(s:List UInt8):(bytesOf s).size=s.length:=by simp[bytesOf,ByteArray.size]
theorem Nc(x y:List UInt8):bytesOf x++bytesOf y=bytesOf (x++y):=by
 apply yg;simp[bytesOf]
theorem bY{op:BinOp}{x y:List UInt8}{v:V}(hd:Rl op x y=some v):
  ∃v',(Op.stringOp op (bytesOf x) (bytesOf y)).run P w=.ok v' w∧Aa p v v':=by
 unfold Op.stringOp;simp only[EJ,Bw];cases op<;>simp only[Rl]at hd
 case add=>
  split at hd
  ·cases hd;rename_i hle;rw[if_neg (by simp[IntKind.max,IntKind.signed,IntKind.bits];omega)];exact⟨_,ze ..,by simp[Aa,Nc]⟩
  ·cases hd
 all_goals first
  |(cases hd;done)
  |(cases hd;exact⟨_,ze ..,by simp[Aa]⟩)
def Md(op:BinOp)(k:IntKind)(a b:Int):Option V:=
 match op with
 | .add=>some (.int k (k.wrap (a+b)))
 | .sub=>some (.int k (k.wrap (a-b)))
 | .mul=>some (.int k (k.wrap (a*b)))
 | .quo=>if b=0 then none else some (.int k (k.wrap (a.tdiv b)))
 | .rem=>if b=0 then none else some (.int k (a.tmod b))
 | .and=>some (.int k (k.wrap (zG k.bits a&&&zG k.bits b).toNat))
 | .or=>some (.int k (k.wrap (zG k.bits a|||zG k.bits b).toNat))
 | .xor=>some (.int k (k.wrap (zG k.bits a^^^zG k.bits b).toNat))
 | .andNot=>some (.int k (k.wrap (zG k.bits a&&& ~~~zG k.bits b).toNat))
 | .eql=>some (.bool (a==b))
 | .neq=>some (.bool (a !=b))
 | .lss=>some (.bool (a<b))
 | .leq=>some (.bool (a≤b))
 | .gtr=>some (.bool (a>b))
 | .geq=>some (.bool (a≥b))
 |_=>none
def VZ(op:BinOp)(k:IntKind)(a b:Int):Option V:=
 if b<0 then none else
 match op with
 | .shl=>some (.int k (k.wrap (a*2^(min b.toNat k.bits))))
 | .shr=>some (.int k (a.fdiv (2^(min b.toNat k.bits))))
 |_=>none
def KQ(ks:Option (List FK))(xs ys:List V):Option Bool:=
 match ks with
 |some ks=>bif fit ks xs&&fit ks ys then BD xs ys else none
 |none=>none
theorem Gc{ks:Option (List FK)}{xs ys:List V}{r:Bool}(h:KQ ks xs ys=some r):∃l,ks=some l∧fit l xs=true∧fit l ys=true∧BD xs ys=some r:=by
 unfold KQ at h;split at h
 case h_2=>cases h
 rename_i l;cases hf:(fit l xs&&fit l ys)with
 |false=>simp[hf]at h
 |true=>simp only[hf,cond_true]at h;simp only[zB]at hf;exact⟨l,rfl,hf.1,hf.2,h⟩
def BC(T:BZ)(t:TypeId)(x y:V):Option Bool:=
 match T.und t,x,y with
 |some .bool,.bool a,.bool b=>some (a==b)
 |some (.pointer _),.nilp,y=>match y with| .nilp=>some true| .ptr .. =>some false|_=>none
 |some (.pointer _),.ptr ..,.nilp=>some false
 |some (.pointer e),.ptr a i,.ptr b j=>if a=b then match T.inf e with|some ti=>if ti.size≠0 then some (i==j)else none|_=>none else none
 |some (.interface _),.iface ..,.nili=>some false
 |some (.interface _),.nili,.iface .. =>some false
 |some (.slice _),.nils,y=>match y with| .nils=>some true| .sl .. =>some false| .esl=>some false| .es0=>some false|_=>none
 |some (.slice _),.sl ..,.nils=>some false
 |some (.slice _),.esl,.nils=>some false
 |some (.slice _),.es0,.nils=>some false
 |some (.map _ _),.nilm,y=>match y with| .nilm=>some true| .map .. =>some false|_=>none
 |some (.map _ _),.map ..,.nilm=>some false
 |some (.func ..),.nilf,.nilf=>some true
 |some (.func ..),.fn ..,.nilf=>some false
 |some (.func ..),.nilf,.fn .. =>some false
 |_,.agg xs,.agg ys=>KQ (T.flat t) xs ys
 |_,_,_=>none
def K4(T:BZ)(op:BinOp)(t:TypeId)(x y:V):Option V:=
 match op,x,y with
 | .shl,.int k a,.int _ b=>VZ .shl k a b
 | .shr,.int k a,.int _ b=>VZ .shr k a b
 |op,.int k a,.int k' b=>if k=k' then Md op k a b else none
 |op,.str a,.str b=>Rl op a b
 | .eql,x,y=>(BC T t x y).map fun b=>.bool b
 | .neq,x,y=>(BC T t x y).map fun b=>.bool !b
 |_,_,_=>none
theorem aJ{op:BinOp}{k:IntKind}{a b:Int}{v:V}(hs:op≠ .shl∧op≠ .shr)(hd:Md op k a b=some v)(t:TypeId):
  ∃v',(binOp op t (.int k a) (.int k b)).run P w=.ok v' w∧Aa p v v':=by
 cases op<;>simp only[Md]at hd<;>simp only[binOp,ne_eq,not_true_eq_false,if_false,Op.intArith,Op.intDiv,Op.intBits,Op.intCmp]
 case quo|rem=>
  split at hd
  ·cases hd
  ·rename_i hb;cases hd;rw[if_neg hb];exact⟨_,ze ..,by simp[Aa]⟩
 case shl=>exact absurd rfl hs.1
 case shr=>exact absurd rfl hs.2
 all_goals (cases hd;exact⟨_,ze ..,by simp[Aa]⟩)
theorem OW(hT:T.Ok P){t:TypeId}{x y:V}{x' y':Value}(hx:Aa p x x')(hy:Aa p y y'){r:Bool}(hd:BC T t x y=some r):
  (yk t x' y').run P w=.ok r w:=by
 unfold BC at hd;split at hd
 case h_16=>
  rename_i xs ys;obtain⟨l,h1,h2,h3,h4⟩:=Gc hd;simp only[Aa]at hx hy;obtain⟨u,rfl,hu⟩:=hx;obtain⟨v,rfl,hv⟩:=hy;exact hT.flat t l h1 p xs ys u v r w h2 h3 hu hv h4
 case h_17=>cases hd
 all_goals (rename_i hu;simp only[Aa]at hx hy;unfold yk Op.maxDepth Op.equalIn;rw[zd,Au hT hu];simp only[zc])
 case h_1=>subst hx hy;cases hd;simp
 case h_2=>subst hx;split at hd<;>first|(cases hd;done)|(cases hd;simp only[Aa]at hy;first|(subst hy;simp;done)|(obtain⟨_,_,_,rfl⟩:=hy;simp))
 case h_3=>obtain⟨_,_,_,rfl⟩:=hx;subst hy;cases hd;simp
 case h_4=>
  split at hd
  case isFalse=>cases hd
  rename_i e;subst e;split at hd
  case h_2=>cases hd
  rename_i ti hti;split at hd
  case isFalse=>cases hd
  rename_i hs;cases hd;obtain⟨r1,n1,h1,rfl⟩:=hx;obtain⟨r2,n2,h2,rfl⟩:=hy;rw[h1]at h2;cases h2;simp only[zd,Bg hT hti,zc,hs,ne_eq,not_false_eq_true,if_true];unfold sameAddr;simp only[beq_self_eq_true,if_true,ze];congr 1;rw[Bool.eq_iff_iff];simp
 case h_5=>obtain⟨_,rfl,_⟩:=hx;subst hy;cases hd;simp
 case h_6=>obtain⟨_,rfl,_⟩:=hy;subst hx;cases hd;simp
 case h_7=>subst hx;split at hd<;>first|(cases hd;done)|(cases hd;simp only[Aa]at hy;first|(subst hy;simp;done)|(obtain⟨_,_,_,_,rfl,_⟩:=hy;simp;done)|(obtain⟨_,_,rfl⟩:=hy;simp;done)|(obtain⟨_,rfl⟩:=hy;simp;done))
 case h_8=>obtain⟨_,_,_,_,rfl,_⟩:=hx;subst hy;cases hd;simp
 case h_9=>obtain⟨_,_,rfl⟩:=hx;subst hy;cases hd;simp
 case h_10=>obtain⟨_,rfl⟩:=hx;subst hy;cases hd;simp
 case h_11=>subst hx;split at hd<;>first|(cases hd;done)|(cases hd;simp only[Aa]at hy;first|(subst hy;simp;done)|(obtain⟨_,_,_,rfl⟩:=hy;simp))
 case h_12=>obtain⟨_,_,_,rfl⟩:=hx;subst hy;cases hd;simp
 case h_13=>subst hx hy;cases hd;simp
 case h_14=>obtain⟨_,_,rfl,_⟩:=hx;subst hy;cases hd;simp
 case h_15=>obtain⟨_,_,rfl,_⟩:=hy;subst hx;cases hd;simp
def Qv:V→Bool
 | .int .. | .str _| .tup _=>false
 |_=>true
theorem Jb{t:TypeId}{x y:V}{r:Bool}(hd:BC T t x y=some r):Qv x=true:=by
 unfold BC at hd;split at hd<;>first|rfl|(cases hd)
theorem Lv{t:TypeId}{x:V}{x' y':Value}(hx:Aa p x x')(hp:Qv x=true):
  binOp .eql t x' y'=(do pure (.bool (←yk t x' y')))∧binOp .neq t x' y'=(do pure (.bool (!(←yk t x' y')))):=by
 cases x<;>simp only[Qv]at hp<;>simp only[Aa]at hx
 case int|str|tup=>cases hp
 case ptr=>obtain⟨_,_,_,rfl⟩:=hx;cases y'<;>exact⟨rfl,rfl⟩
 case esl=>obtain⟨_,_,rfl⟩:=hx;cases y'<;>exact⟨rfl,rfl⟩
 case es0=>obtain⟨_,rfl⟩:=hx;cases y'<;>exact⟨rfl,rfl⟩
 case sl=>obtain⟨_,_,_,_,rfl,_⟩:=hx;cases y'<;>exact⟨rfl,rfl⟩
 case map=>obtain⟨_,_,_,rfl⟩:=hx;cases y'<;>exact⟨rfl,rfl⟩
 case yld=>obtain⟨_,_,_,rfl⟩:=hx;cases y'<;>exact⟨rfl,rfl⟩
 case fn=>obtain⟨_,_,rfl,_⟩:=hx;cases y'<;>exact⟨rfl,rfl⟩
 case iface=>obtain⟨_,rfl,_⟩:=hx;cases y'<;>exact⟨rfl,rfl⟩
 case agg=>obtain⟨_,rfl,_⟩:=hx;cases y'<;>exact⟨rfl,rfl⟩
 all_goals (subst hx;cases y'<;>exact⟨rfl,rfl⟩)
theorem Z0(hT:T.Ok P){op:BinOp}{t:TypeId}{x y:V}{x' y':Value}(hx:Aa p x x')(hy:Aa p y y'){v:V}(hd:K4 T op t x y=some v):
  ∃v',(binOp op t x' y').run P w=.ok v' w∧Aa p v v':=by
 unfold K4 at hd;split at hd
 case h_1=>
  simp only[Aa]at hx hy;subst hx hy;unfold VZ at hd;split at hd
  ·cases hd
  ·rename_i hb;cases hd;simp only[binOp,Op.shift,if_neg hb];exact⟨_,ze ..,by simp[Aa]⟩
 case h_2=>
  simp only[Aa]at hx hy;subst hx hy;unfold VZ at hd;split at hd
  ·cases hd
  ·rename_i hb;cases hd;simp only[binOp,Op.shift,if_neg hb];exact⟨_,ze ..,by simp[Aa]⟩
 case h_3=>
  rename_i h1 h2;split at hd
  ·rename_i e;subst e;simp only[Aa]at hx hy;subst hx hy;refine aJ ⟨?_,?_⟩ hd t
   ·intro e;subst e;simp at h1
   ·intro e;subst e;simp at h2
  ·cases hd
 case h_4=>
  simp only[Aa]at hx hy;subst hx hy;have:=bY (P:=P) (p:=p) (w:=w) hd;cases op<;>simpa only[binOp]using this
 case h_5=>
  rw[zn]at hd;obtain⟨b,h1,rfl⟩:=hd;rw[(Lv hx (Jb h1)).1];simp only[zd,OW hT hx hy h1,zc];exact⟨_,ze ..,by simp[Aa]⟩
 case h_6=>
  rw[zn]at hd;obtain⟨b,h1,rfl⟩:=hd;rw[(Lv hx (Jb h1)).2];simp only[zd,OW hT hx hy h1,zc];exact⟨_,ze ..,by simp[Aa]⟩
 case h_7=>cases hd
theorem RF{a:V}{a':Value}(hx:Aa p a a')(h:a≠ .nili):a'≠ .nilIface:=by
 intro e;subst e;cases a<;>simp only[Aa]at hx<;>first|exact h rfl|(simp at hx;done)|(obtain⟨_,_,_,_,hx,_⟩:=hx;cases hx;done)|(obtain⟨_,_,_,hx⟩:=hx;cases hx;done)|(obtain⟨_,_,hx,_⟩:=hx;cases hx;done)|(obtain⟨_,hx,_⟩:=hx;cases hx;done)
theorem Ym{a:V}{c:Array Value}(hx:Aa p a (.agg c)):∃xs,a=.agg xs∧Aq p xs c.toList:=by
 cases a<;>simp only[Aa]at hx<;>first|(simp at hx;done)|(obtain⟨_,_,_,_,hx,_⟩:=hx;cases hx;done)|(obtain⟨_,_,_,hx⟩:=hx;cases hx;done)|(obtain⟨_,_,hx,_⟩:=hx;cases hx;done)|(obtain⟨_,hx,h⟩:=hx;cases hx<;>exact⟨_,rfl,h⟩)
theorem NL{op:BinOp}{t:TypeId}{x y:Operand}{a' b':Value}(h1:op≠ .eql)(h2:op≠ .neq):eqGuard op t x y a' b'=pure ():=by
 cases op<;>first|rfl|exact absurd rfl h1|exact absurd rfl h2
theorem Vt{op:BinOp}{t:TypeId}{x y:Operand}{a' b':Value}(h0:a'≠ .nilIface∨b'≠ .nilIface)(h1:(∃c d,a'=.agg c∧b'=.agg d)→P.eqGuardType P.depth t=false):
  (eqGuard op t x y a' b').run P w=.ok () w:=by
 by_cases e1:op=.eql∨op=.neq
 ·have:eqGuard op t x y a' b'=eqGuard .eql t x y a' b':=by rcases e1 with rfl|rfl<;>rfl
  rw[this];unfold eqGuard;simp only[Bool.not_true,zl,if_false];split
  ·simp at h0
  ·have:=h1 ⟨_,_,rfl,rfl⟩;simp[this]
  ·rfl
 ·rw[NL (fun e=>e1 (.inl e)) (fun e=>e1 (.inr e))];rfl
theorem Vr(hT:T.Ok P){op:BinOp}{t:TypeId}{x y:Operand}{a b:V}{a' b':Value}(hx:Aa p a a')(hy:Aa p b b'){v:V}(hd:K4 T op t a b=some v):
  (eqGuard op t x y a' b').run P w=.ok () w:=by
 by_cases e1:op=.eql∨op=.neq
 ·refine Vt ?_ ?_
  ·by_cases e2:a=.nili
   ·by_cases e3:b=.nili
    ·subst e2 e3;have:BC T t .nili .nili=none:=by unfold BC;split<;>simp_all
     rcases e1 with rfl|rfl<;>simp[K4,this]at hd
    ·exact .inr (RF hy e3)
   ·exact .inl (RF hx e2)
  ·rintro⟨c,d,rfl,rfl⟩;obtain⟨xs,rfl,h1⟩:=Ym hx;obtain⟨ys,rfl,h2⟩:=Ym hy;have he:BC T t (.agg xs) (.agg ys)=KQ (T.flat t) xs ys:=by unfold BC;split<;>simp_all
   cases hf:KQ (T.flat t) xs ys with
   |some r=>obtain⟨l,h1,_⟩:=Gc hf;exact hT.guard t l h1
   |none=>
    rw[hf]at he;rcases e1 with rfl|rfl<;>simp[K4,he]at hd
 ·rw[NL (fun e=>e1 (.inl e)) (fun e=>e1 (.inr e))];rfl
end
end
end Go.Det
end
section
namespace Go.Det
noncomputable section
section
variable {T:BZ}{P:Program}{p:Pl}{h:H}{w:World}
def lK(op:UnOp)(x:V):Option V:=
 match op,x with
 | .neg,.int k n=>some (.int k (k.wrap (0-n)))
 | .xor,.int k n=>Md .xor k (if k.signed then -1 else k.max) n
 | .not,.bool b=>some (.bool !b)
 |_,_=>none
theorem hJ{op:UnOp}{x:V}{x':Value}(hx:Aa p x x'){v:V}(hd:lK op x=some v):∃v',(Op.unary op x').run P w=.ok v' w∧Aa p v v':=by
 unfold lK at hd;split at hd
 case h_1=>simp only[Aa]at hx;subst hx;cases hd;exact⟨_,rfl,by simp[Aa]⟩
 case h_2=> 
  simp only[Aa]at hx;subst hx;simp only[Md,zg]at hd;subst hd;exact⟨_,rfl,by simp[Aa]⟩
 case h_3=>simp only[Aa]at hx;subst hx;cases hd;exact⟨_,rfl,by simp[Aa]⟩
 case h_4=>cases hd
def eU:V→Option UInt8
 | .int .u8 (.ofNat n)=>some (zX n)
 |_=>none
def bytes?:List V→Option (List UInt8)
 |[]=>some []
 |v::vs=>
  match eU v,bytes? vs with
  |some b,some bs=>some (b::bs)
  |_,_=>none
def FV(T:BZ)(h:H)(src dst:TypeId)(x:V):Option V:=
 match T.und src,T.und dst,x with
 |some _,some (.int k),.int _ n=>some (.int k (k.wrap n))
 |some _,some .string,.str s=>some (.str s)
 |some (.slice e),some .string,.nils=>match T.und e with|some (.int .u8)=>some (.str [])|_=>none
 |some (.slice e),some .string,.sl b off len _ _=>
  match T.und e with
  |some (.int .u8)=>match rd h b off len with
   |some cs=>(bytes? cs).map .str
   |none=>none
  |_=>none
 |_,_,_=>none
theorem Kt{f:Value→ByteArray→Sem (ForInStep ByteArray)}(hf:∀n s,f (.int .u8 n) s=pure (ForInStep.yield (s.push (zX n.toNat)))):
  ∀(cs:List V) (vs:List Value) (bs:List UInt8) (acc:List UInt8),Aq p cs vs→bytes? cs=some bs→
  ∀w,(forIn vs (bytesOf acc) f).run P w=.ok (bytesOf (acc++bs)) w
 |[],vs,bs,acc,hv,hm,w=>by
  simp at hv;simp[bytes?]at hm;subst hv hm;simp[forIn]
 |c::cs,[],_,_,hv,_,_=>by simp at hv
 |c::cs,v::vs,bs,acc,hv,hm,w=>by
  simp only[A5]at hv;unfold bytes? at hm;split at hm
  case h_2=>cases hm
  rename_i b tl hc hcs;cases hm;unfold eU at hc;split at hc
  case h_2=>cases hc
  rename_i n;cases hc;have hv1:=hv.1;simp only[Aa]at hv1;subst hv1;rw[List.forIn_cons,hf];simp only[zd,ze,zc];have:=Kt hf cs vs tl (acc++[zX n]) hv.2 hcs w;have e:(bytesOf acc).push (zX (Int.ofNat n).toNat)=bytesOf (acc++[zX n]):=by
   apply yg;simp[bytesOf,ByteArray.push]
  rw[e,this];simp
theorem XK(hT:T.Ok P)(hr:R p h w){src dst:TypeId}{x:V}{x':Value}(hx:Aa p x x'){v:V}(hd:FV T h src dst x=some v):
  ∃v',(convert src dst x').run P w=.ok v' w∧Aa p v v':=by
 unfold FV at hd;split at hd
 case h_1=>
  rename_i h1 h2;simp only[Aa]at hx;subst hx;cases hd;unfold convert;simp only[zd,Au hT h1,Au hT h2,zc];exact⟨_,rfl,by simp[Aa]⟩
 case h_2=>
  rename_i h1 h2;simp only[Aa]at hx;subst hx;cases hd;unfold convert;simp only[zd,Au hT h1,Au hT h2,zc];exact⟨_,rfl,by simp[Aa]⟩
 case h_3=>
  rename_i h1 h2;simp only[Aa]at hx;subst hx;split at hd
  case h_2=>cases hd
  rename_i h3;cases hd;unfold convert;simp only[zd,Au hT h1,Au hT h2,Au hT h3,zc];exact⟨_,rfl,by simp[Aa,bytesOf];rfl⟩
 case h_4=>
  rename_i h1 h2;simp only[Aa]at hx;split at hd
  case h_2=>cases hd
  rename_i h3;split at hd
  case h_2=>cases hd
  rename_i cs hcs;rw[zn]at hd;obtain⟨bs,hbs,rfl⟩:=hd;obtain⟨r,n,c,g1,rfl,g2⟩:=hx;obtain⟨r',m,vs,k1,k2,k3,_⟩:=run_loadCells (P:=P) hr hcs;rw[g1]at k1;cases k1;refine⟨.string (bytesOf bs),?_,by simp[Aa]⟩;unfold convert;simp only[zd,Au hT h1,Au hT h2,Au hT h3,zc];unfold Conv.bytesToString;simp only[zd,k2,zc];simp only[List.forIn_toArray];have e:ByteArray.empty=bytesOf []:=rfl;rw[e,Kt (P:=P) (fun n s=>rfl) cs vs bs [] k3 hbs w];simp
 case h_5=>cases hd
def JF(T:BZ)(t:TypeId)(cs:List V)(off:Nat):Option V:=
 match T.und t,T.inf t with
 |some d,some i=>bif Dp d then some (.agg ((cs.drop off).take i.size))else cs[off]?
 |_,_=>none
theorem RE(hT:T.Ok P){t:TypeId}{cs:List V}{c:Array Value}{off:Nat}(hc:Aq p cs c.toList){v:V}(hd:JF T t cs off=some v):
  ∃v',(part t c off).run P w=.ok v' w∧Aa p v v':=by
 unfold JF at hd;split at hd
 case h_2=>cases hd
 rename_i d i h1 h2;unfold part;simp only[zd,OZ hT h1,zc];cases hag:Dp d with
 |true=>
  simp only[hag,cond_true,zg]at hd;subst hd;simp only[if_true,zd,Bg hT h2,zc];refine⟨_,ze ..,?_⟩;simp only[Aa];refine⟨_,rfl,?_⟩;have:(c.extract off (off+i.size)).toList=(c.toList.drop off).take i.size:=by
   rw[Array.toList_extract];simp[ym]
  rw[this];exact(hc.drop off).take i.size
 |false=>
  simp only[hag,cond_false]at hd;obtain⟨u,h3,h4⟩:=hc.get hd;have:c[off]?=some u:=by simpa using h3
  simp only[zl,if_false,this];exact⟨u,rfl,h4⟩
def ID(T:BZ)(t:TypeId)(x:V)(f:Nat):Option V:=
 match T.und t,x with
 |some (.struct fs),.agg cs=>match fs[f]? with
  |some fd=>JF T fd.type cs fd.offset
  |none=>none
 |_,_=>none
theorem Vl(hT:T.Ok P){t:TypeId}{x:V}{x':Value}{f:Nat}(hx:Aa p x x'){v:V}(hd:ID T t x f=some v):
  ∃v',(Instr.field t x' f).run P w=.ok v' w∧Aa p v v':=by
 unfold ID at hd;split at hd
 case h_2=>cases hd
 rename_i fs cs h1;split at hd
 case h_2=>cases hd
 rename_i fd h2;simp only[Aa]at hx;obtain⟨c,rfl,hc⟩:=hx;unfold Instr.field;simp only[zd,Au hT h1,zc,h2];unfold asAgg;simp only[ze,zc];exact RE hT hc hd
def Iw(T:BZ)(t:TypeId)(x:V)(f:Nat):Option V:=
 match T.und t,x with
 |some (.struct fs),.ptr b off=>match fs[f]? with
  |some fd=>match T.inf fd.type with
   |some i=>if i.size=0 then none else some (.ptr b (off+fd.offset))
   |none=>none
  |none=>none
 |_,_=>none
theorem VV(hT:T.Ok P){t:TypeId}{x:V}{x':Value}{f:Nat}(hx:Aa p x x'){v:V}(hd:Iw T t x f=some v):
  ∃v',(Instr.fieldAt t x' f).run P w=.ok v' w∧Aa p v v':=by
 unfold Iw at hd;split at hd
 case h_2=>cases hd
 rename_i fs b off h1;split at hd
 case h_2=>cases hd
 rename_i fd h2;split at hd
 case h_2=>cases hd
 rename_i i h3;split at hd
 case isTrue=>cases hd
 rename_i h4;cases hd;simp only[Aa]at hx;obtain⟨r,n,hp,rfl⟩:=hx;unfold Instr.fieldAt;simp only[zd,Au hT h1,zc,h2];unfold zQ fieldPlace;simp only[ze,zc,zd,Bg hT h3,h4,if_false,Addr.Hm];exact⟨_,rfl,by simp only[Aa];exact⟨_,_,hp,rfl⟩⟩
def CE(T:BZ)(t:TypeId)(x ix:V):Option V:=
 match T.und t,x,ix with
 |some (.slice e),.sl b off len _ _,.int _ i=>
  match T.inf e,i with
  |some ti,.ofNat n=>bif zI n len then some (.ptr b (off+n*ti.size))else none
  |_,_=>none
 |some (.array len e),.ptr b off,.int _ i=>
  match T.inf e,i with
  |some ti,.ofNat n=>bif zI n len then some (.ptr b (off+n*ti.size))else none
  |_,_=>none
 |_,_,_=>none
theorem Fj(a b:Nat):zI a b=decide (a<b):=by
 rw[Bool.eq_iff_iff];simp[yh]
theorem Wc(hT:T.Ok P){t:TypeId}{x ix:V}{x' ix':Value}(hx:Aa p x x')(hix:Aa p ix ix'){v:V}(hd:CE T t x ix=some v):
  ∃v',(Instr.indexAt t x' ix').run P w=.ok v' w∧Aa p v v':=by
 unfold CE at hd;split at hd
 case h_3=>cases hd
 case h_1=>
  rename_i e b off len cap o k i h1;split at hd
  case h_2=>cases hd
  rename_i ti n h2;rw[Fj]at hd;by_cases hlt:n<len
  ·simp only[hlt,decide_true,cond_true,zg]at hd;subst hd;simp only[Aa]at hx hix;obtain⟨r,m,c,hp,rfl,_⟩:=hx;subst hix;unfold Instr.indexAt asIntOf;have hcond:(0:Int)≤(n:Int)∧(n:Int)<(len:Int):=⟨by simp,by simpa using hlt⟩;simp only[zd,ze,Au hT h1,zc,hcond,and_self,if_true,Bg hT h2,Addr.Hm,zw,zE];exact⟨_,rfl,by simp only[Aa];exact⟨_,_,hp,rfl⟩⟩
  ·simp[hlt]at hd
 case h_2=>
  rename_i len e b off k i h1;split at hd
  case h_2=>cases hd
  rename_i ti n h2;rw[Fj]at hd;by_cases hlt:n<len
  ·simp only[hlt,decide_true,cond_true,zg]at hd;subst hd;simp only[Aa]at hx hix;obtain⟨r,m,hp,rfl⟩:=hx;subst hix;unfold Instr.indexAt asIntOf zQ;have hcond:(0:Int)≤(n:Int)∧(n:Int)<(len:Int):=⟨by simp,by simpa using hlt⟩;simp only[zd,ze,Au hT h1,zc,hcond,and_self,if_true,Bg hT h2,Addr.Hm,zw,zE];exact⟨_,rfl,by simp only[Aa];exact⟨_,_,hp,rfl⟩⟩
  ·simp[hlt]at hd
def F9(T:BZ)(t:TypeId)(x ix:V):Option V:=
 match T.und t,x,ix with
 |some .string,.str s,.int _ (.ofNat n)=>match s[n]? with
  |some b=>some (.int .u8 b.toNat)
  |none=>none
 |some (.array len e),.agg cs,.int _ (.ofNat n)=>
  match T.inf e with
  |some ti=>bif zI n len then JF T e cs (n*ti.size)else none
  |_=>none
 |_,_,_=>none
theorem Wh(hT:T.Ok P){t:TypeId}{x ix:V}{x' ix':Value}(hx:Aa p x x')(hix:Aa p ix ix'){v:V}(hd:F9 T t x ix=some v):
  ∃v',(Instr.index t x' ix').run P w=.ok v' w∧Aa p v v':=by
 unfold F9 at hd;split at hd
 case h_3=>cases hd
 case h_1=>
  rename_i s k n h1;split at hd
  case h_2=>cases hd
  rename_i b hb;cases hd;simp only[Aa]at hx hix;subst hx hix;unfold Instr.index asIntOf;have e:(bytesOf s)[n]?=some b:=by
   have hn:=(zf.1 hb).1;have h2:=(zf.1 hb).2;rw[getElem?_pos (bytesOf s) n (by rw[Bw];exact hn)];congr 1
  simp only[zd,ze,Au hT h1,zc,zw,Int.natCast_nonneg,if_true,zE,e];exact⟨_,rfl,by simp[Aa]⟩
 case h_2=>
  rename_i len e cs k n h1;split at hd
  case h_2=>cases hd
  rename_i ti h2;rw[Fj]at hd;by_cases hlt:n<len
  ·simp only[hlt,decide_true,cond_true]at hd;simp only[Aa]at hx hix;obtain⟨c,rfl,hc⟩:=hx;subst hix;unfold Instr.index asIntOf;have hcond:(0:Int)≤(n:Int)∧(n:Int)<(len:Int):=⟨by simp,by simpa using hlt⟩;simp only[zd,ze,Au hT h1,zc,hcond,and_self,if_true,Bg hT h2,zw,zE];exact RE hT hc hd
  ·simp[hlt]at hd
def FM(x:V)(i:Nat):Option V:=
 match x with
 | .tup vs=>vs[i]?
 |_=>none
theorem RK{x:V}{x':Value}{i:Nat}(hx:Aa p x x'){v:V}(hd:FM x i=some v):∃v',(Instr.extract x' i).run P w=.ok v' w∧Aa p v v':=by
 unfold FM at hd;split at hd
 case h_2=>cases hd
 simp only[Aa]at hx;obtain⟨c,rfl,hc⟩:=hx;obtain⟨u,h1,h2⟩:=hc.get hd;unfold Instr.extract;have:c[i]?=some u:=by simpa using h1
 simp only[this];exact⟨u,rfl,h2⟩
end
end
end Go.Det
end
section
namespace Go.Det
noncomputable section
section
variable {T:BZ}{P:Program}{p:Pl}{h:H}{w:World}
def F6(x:Option V)(y GA:Nat):Option Nat:=
 match x with
 |none=>some GA
 |some (.int _ (.ofNat n))=>bif zp n y then some n else none
 |_=>none
def Ik(mx:Option V)(o:Nat):Nat:=match mx with|some _=>0|none=>o
def Xz(hi mx:Option V):Option Nat:=match hi,mx with
 |none,some _=>none
 |_,_=>F6 hi 0 0
def NO(mx:Option V):Bool:=match mx with
 |some _=>true
 |none=>false
def C5(T:BZ)(t:TypeId)(x:V)(lo hi mx:Option V):Option V:=
 match T.und t,x with
 |some .string,.str s=>
  match mx,F6 hi s.length s.length with
  |none,some h=>match F6 lo h 0 with
   |some l=>some (.str ((s.drop l).take (h-l)))
   |none=>none
  |_,_=>none
 |some (.slice e),.sl b off len cap o=>
  match T.inf e,F6 mx cap cap with
  |some ti,some m=>match (match hi,mx with|none,some _=>none|_,_=>F6 hi m len)with
   |some h=>match F6 lo h 0 with
    |some l=>
     let o':=Ik mx o
     bif zm m l then(bif zm o' 0 then some (.sl b off (h-l) (m-l) 0)else some .esl)
     else bif zm o' 0||zm o' ti.size then some (.sl b (off+l*ti.size) (h-l) (m-l) o')else none
    |none=>none
   |none=>none
  |_,_=>none
 |some (.slice e),.nils=>
  match F6 mx 0 0,Xz hi mx,T.inf e with
  |some _,some h,some _=>match F6 lo h 0 with
   |some _=>some .nils
   |none=>none
  |_,_,_=>none
 |some (.slice e),.esl=>
  match F6 mx 0 0,Xz hi mx,T.inf e with
  |some _,some h,some _=>match F6 lo h 0 with
   |some _=>some (bif NO mx then .es0 else .esl)
   |none=>none
  |_,_,_=>none
 |some (.slice e),.es0=>
  match F6 mx 0 0,Xz hi mx,T.inf e with
  |some _,some h,some _=>match F6 lo h 0 with
   |some _=>some .es0
   |none=>none
  |_,_,_=>none
 |some (.array n e),.ptr b off=>
  match T.inf e,mx,F6 hi n n with
  |some ti,none,some h=>match F6 lo h 0 with
   |some l=>bif zm n l then some (.sl b off (h-l) (n-l) 0)else some (.sl b (off+l*ti.size) (h-l) (n-l) 0)
   |none=>none
  |_,_,_=>none
 |_,_=>none
def EV(p:Pl):Option V→Option Value→Prop
 |none,x=>x=none
 |some d,x=>∃v,x=some v∧Aa p d v
theorem BG{x:Option V}{x':Option Value}{y z n y':Nat}(hx:EV p x x')(hb:F6 x y z=some n)(hy:y≤y'):
  (x=none∧x'=none∧n=z)∨(∃d u,x=some d∧x'=some u∧n≤y∧∀code (P:Program) (w:World),(Instr.sliceBound u y' code).run P w=.ok n w):=by
 cases x with
 |none=>simp only[EV]at hx;subst hx;simp only[F6,zg]at hb;exact .inl ⟨rfl,rfl,hb.symm⟩
 |some d=>
  simp only[EV]at hx;obtain⟨u,rfl,hu⟩:=hx;refine .inr ⟨d,u,rfl,rfl,?_⟩;unfold F6 at hb;split at hb
  case h_1=>rename_i e;cases e
  case h_3=>cases hb
  rename_i k m e;cases e;by_cases hle:m≤y
  ·simp only[Nat.ble_eq_true_of_le hle,cond_true,zg]at hb;subst hb;simp only[Aa]at hu;subst hu;refine⟨hle,fun code P w=>?_⟩;unfold Instr.sliceBound asIntOf;have hc:(0:Int)≤(m:Int)∧(m:Int)≤(y':Int):=⟨by simp,by omega⟩;simp only[zd,ze,zc,zw,hc,and_self,if_true,zE]
  ·have:zp m y=false:=by rw[Bool.eq_false_iff];simpa [zy]using hle
   simp[this]at hb
theorem Hq{lo hi mx:Option V}{lo' hi' mx':Option Value}(hlo:EV p lo lo')(hhi:EV p hi hi')(hmx:EV p mx mx'){m h l:Nat}(hm:F6 mx 0 0=some m)(hh:Xz hi mx=some h)(hl:F6 lo h 0=some l)(c:Nat):
  (zx true 0 c lo' hi' mx').run P w=.ok (0,0,bif NO mx then 0 else c) w:=by
 unfold Xz at hh;have h0:h=0:=by
  have:F6 hi 0 0=some h:=by
   cases mx with
   |none=>cases hi<;>simpa using hh
   |some d=>cases hi with
    |none=>simp at hh
    |some _=>simpa using hh
  rcases BG hhi this (zh _)with⟨_,_,rfl⟩|⟨_,_,_,_,h,_⟩<;>omega
 subst h0;have l0:l=0:=by rcases BG hlo hl (zh _)with⟨_,_,rfl⟩|⟨_,_,_,_,h,_⟩<;>omega
 subst l0;unfold zx;cases mx with
 |none=>
  have hh':F6 hi 0 0=some 0:=by cases hi<;>simpa using hh
  simp only[EV]at hmx;subst hmx;rcases BG hhi hh' (Nat.zero_le c)with⟨_,rfl,_⟩|⟨_,u,_,rfl,_,hu⟩<;>rcases BG hlo hl (zh _)with⟨_,rfl,_⟩|⟨_,u2,_,rfl,_,hu2⟩
  all_goals simp only[NO,cond_false,zH,zl,if_false,zd,ze,zc,if_true, *]
 |some d=>
  cases hi with
  |none=>simp at hh
  |some dh=>
   have hh':F6 (some dh) 0 0=some 0:=by simpa using hh
   rcases BG hmx hm (Nat.zero_le c)with⟨h,_,_⟩|⟨_,um,_,rfl,hm0,hum⟩
   ·cases h
   ·obtain rfl:m=0:=by omega
    rcases BG hhi hh' (zh _)with⟨h,_,_⟩|⟨_,u,_,rfl,_,hu⟩
    ·cases h
    ·rcases BG hlo hl (zh _)with⟨_,rfl,_⟩|⟨_,u2,_,rfl,_,hu2⟩
     all_goals simp only[NO,cond_true,Option.isSome_some,zd,ze,zc,if_true, *]
theorem VJ(hT:T.Ok P){t:TypeId}{x:V}{lo hi mx:Option V}{x':Value}{lo' hi' mx':Option Value}(hx:Aa p x x')(hlo:EV p lo lo')(hhi:EV p hi hi')(hmx:EV p mx mx')
  {v:V} (hd:C5 T t x lo hi mx=some v):∃v',(zu t x' lo' hi' mx').run P w=.ok v' w∧Aa p v v':=by
 unfold C5 at hd;split at hd
 case h_7=>cases hd
 case h_1=>
  rename_i s h1;split at hd
  case h_2=>cases hd
  rename_i hh hhb;split at hd
  case h_2=>cases hd
  rename_i l hl;cases hd;simp only[EV]at hmx;subst hmx;simp only[Aa]at hx;subst hx;refine⟨.string (bytesOf ((s.drop l).take (hh-l))),?_,by simp[Aa]⟩;unfold zu;simp only[zd,Au hT h1,zc];unfold zY;simp only[zd,Au hT h1,zc,zH,zl,if_false,Bw];unfold zx;have e:(bytesOf s).extract l hh=bytesOf ((s.drop l).take (hh-l)):=by
   apply yg;simp[bytesOf,ym]
  rcases BG hhi hhb (zh _)with⟨_,rfl,rfl⟩|⟨_,u,_,rfl,_,hu⟩<;>rcases BG hlo hl (zh _)with⟨_,rfl,rfl⟩|⟨_,u2,_,rfl,_,hu2⟩
  all_goals simp only[zH,zl,if_false,zd,ze,zc, *]
 case h_2=>
  rename_i e b off len cap o h1;split at hd
  case h_2=>cases hd
  rename_i ti m hti hm;split at hd
  case h_2=>cases hd
  rename_i hh hhb;split at hd
  case h_2=>cases hd
  rename_i l hl;simp only[Aa]at hx;obtain⟨r,n,c,hp,rfl,hlen,hcap,ho1,ho2⟩:=hx;obtain⟨m',gm2,hhm,hlh,hbounds⟩:∃m',((mx=none∧m'=c∧m=cap)∨(mx≠none∧m'=m))∧hh≤m∧l≤hh∧(zx true len c lo' hi' mx').run P w=.ok (l,hh,m') w:=by
   have hlh:l≤hh:=by
    rcases BG hlo hl (zh _)with⟨_,_,rfl⟩|⟨_,_,_,_,h,_⟩
    ·exact Nat.zero_le _
    ·exact h
   rcases BG hmx hm hcap with⟨rfl,rfl,rfl⟩|⟨dm,um,rfl,rfl,hm1,hum⟩
   ·have hhb':F6 hi m len=some hh:=by cases hi<;>simpa using hhb
    refine⟨c,.inl ⟨rfl,rfl,rfl⟩,?_,hlh,?_⟩
    ·rcases BG hhi hhb' hcap with⟨_,_,rfl⟩|⟨_,_,_,_,h,_⟩
     ·exact hlen
     ·exact h
    ·unfold zx;rcases BG hhi hhb' hcap with⟨_,rfl,rfl⟩|⟨_,u,_,rfl,_,hu⟩<;>rcases BG hlo hl (zh _)with⟨_,rfl,rfl⟩|⟨_,u2,_,rfl,_,hu2⟩
     all_goals simp only[zH,zl,if_false,zd,ze,zc,if_true, *]
   ·cases hi with
    |none=>simp at hhb
    |some dh=>
     have hhb':F6 (some dh) m len=some hh:=by simpa using hhb
     refine⟨m,.inr ⟨by simp,rfl⟩,?_,hlh,?_⟩
     ·rcases BG hhi hhb' (zh _)with⟨h,_⟩|⟨_,_,_,_,h,_⟩
      ·cases h
      ·exact h
     ·unfold zx;rcases BG hhi hhb' (zh _)with⟨h,_,_⟩|⟨_,u,_,rfl,_,hu⟩
      ·cases h
      ·rcases BG hlo hl (zh _)with⟨_,rfl,rfl⟩|⟨_,u2,_,rfl,_,hu2⟩
       all_goals simp only[Option.isSome_some,zd,ze,zc,if_true, *]
  have gm1:m≤m':=by rcases gm2 with⟨_,h1,h2⟩|⟨_,h1⟩<;>omega
  have hrun:(zu t (.slice (some ⟨r,off,none⟩) len c) lo' hi' mx').run P w=.ok (.slice (if m'=l then some ⟨r,off,none⟩else some ⟨r,off+l*ti.size,none⟩) (hh-l) (m'-l)) w:=by
   unfold zu;simp only[zd,Au hT h1,zc];unfold zY;simp only[zd,Au hT h1,zc,hbounds,Bg hT hti,ze];congr 2;split<;>simp
  refine⟨_,hrun,?_⟩;simp only[Be]at hd;by_cases hml:m=l
  ·simp only[hml,decide_true,cond_true]at hd;by_cases ho:Ik mx o=0
   ·simp only[ho,decide_true,cond_true,zg]at hd;subst hd;have hm':m'=l:=by
     rcases gm2 with⟨k1,k2,k3⟩|⟨k1,k2⟩
     ·subst k1;simp only[Ik]at ho;have:=ho1 ho;omega
     ·omega
    simp only[hm',if_true,Aa];exact⟨r,n,_,hp,rfl,by omega,by omega,fun _=>by omega,by simp⟩
   ·simp only[ho,decide_false,cond_false,zg]at hd;subst hd;have hz:hh-l=0:=by omega
    simp only[hz,Aa];by_cases hm2:m'=l
    ·exact⟨_,_,by rw[if_pos hm2]⟩
    ·exact⟨_,_,by rw[if_neg hm2]⟩
  ·simp only[hml,decide_false,cond_false]at hd;by_cases ho:Ik mx o=0∨Ik mx o=ti.size
   ·have hcond:(decide (Ik mx o=0)||decide (Ik mx o=ti.size))=true:=by simpa using ho
    simp only[hcond,cond_true,zg]at hd;subst hd;have hne:m'≠l:=by omega
    simp only[hne,if_false,Aa];refine⟨r,n,_,hp,rfl,by omega,by omega,fun k=>?_,fun k=>?_⟩
    ·rcases gm2 with⟨k1,k2,k3⟩|⟨k1,k2⟩
     ·subst k1;simp only[Ik]at k;have:=ho1 k;omega
     ·omega
    ·rcases gm2 with⟨k1,k2,k3⟩|⟨k1,k2⟩
     ·subst k1;simp only[Ik]at k ho ⊢;rcases ho with ho|ho
      ·exact absurd ho k
      ·have:=ho2 k;subst k2;rw[←ho];have e:off+l*o+(m'-l)*o=off+m'*o:=by
        rw[Nat.sub_mul];have:l*o≤m'*o:=zr _ (by omega);omega
       omega
     ·cases mx with
      |none=>exact absurd rfl k1
      |some d=>simp[Ik]at k
   ·have hcond:(decide (Ik mx o=0)||decide (Ik mx o=ti.size))=false:=by
     simpa using ho
    simp[hcond]at hd
 case h_3=>
  rename_i e h1;split at hd
  case h_2=>cases hd
  rename_i mm hh tz hmb hhb hz;split at hd
  case h_2=>cases hd
  rename_i l hl;cases hd;simp only[Aa]at hx;subst hx;refine⟨.slice none 0 0,?_,by simp[Aa]⟩;unfold zu;simp only[zd,Au hT h1,zc];unfold zY;simp only[zd,Au hT h1,zc,Hq (P:=P) (w:=w) hlo hhi hmx hmb hhb hl 0];cases mx<;>simp[NO,Bg hT hz]
 case h_4=>
  rename_i e h1;split at hd
  case h_2=>cases hd
  rename_i mm hh tz hmb hhb hz;split at hd
  case h_2=>cases hd
  rename_i l hl;simp only[Aa]at hx;obtain⟨a,c,rfl⟩:=hx;have hrun:∃a',(zu t (.slice (some a) 0 c) lo' hi' mx').run P w=.ok (.slice (some a') 0 (bif NO mx then 0 else c)) w:=by
   unfold zu;simp only[zd,Au hT h1,zc];unfold zY;simp only[zd,Au hT h1,zc,Hq (P:=P) (w:=w) hlo hhi hmx hmb hhb hl c];simp only[Bg hT hz,zc,ze,Nat.sub_zero,Nat.sub_self];split
   ·exact⟨_,rfl⟩
   ·exact⟨_,rfl⟩
  obtain⟨a',ha'⟩:=hrun;refine⟨_,ha',?_⟩;cases hd;cases mx with
  |none=>simp only[NO,cond_false,Aa];exact⟨_,_,rfl⟩
  |some d=>simp only[NO,cond_true,Aa];exact⟨_,rfl⟩
 case h_5=>
  rename_i e h1;split at hd
  case h_2=>cases hd
  rename_i mm hh tz hmb hhb hz;split at hd
  case h_2=>cases hd
  rename_i l hl;cases hd;simp only[Aa]at hx;obtain⟨a,rfl⟩:=hx;refine⟨.slice (some a) 0 0,?_,by simp only[Aa];exact⟨_,rfl⟩⟩;unfold zu;simp only[zd,Au hT h1,zc];unfold zY;simp only[zd,Au hT h1,zc,Hq (P:=P) (w:=w) hlo hhi hmx hmb hhb hl 0];cases mx<;>simp[NO,Bg hT hz]
 case h_6=>
  rename_i nn e b off h1;split at hd
  case h_2=>cases hd
  rename_i ti hh hti hhb;split at hd
  case h_2=>cases hd
  rename_i l hl;simp only[EV]at hmx;subst hmx;simp only[Aa]at hx;obtain⟨r,n,hp,rfl⟩:=hx;have hlh:l≤hh:=by rcases BG hlo hl (zh _)with⟨_,_,rfl⟩|⟨_,_,_,_,h,_⟩<;>omega
  have hhn:hh≤nn:=by rcases BG hhi hhb (zh _)with⟨_,_,rfl⟩|⟨_,_,_,_,h,_⟩<;>omega
  have hrun:(zu t (.pointer (some ⟨r,off,none⟩)) lo' hi' none).run P w=.ok (.slice (some (if nn=l then⟨r,off,none⟩else⟨r,off+l*ti.size,none⟩)) (hh-l) (nn-l)) w:=by
   unfold zu;simp only[zd,Au hT h1,zc];unfold zQ zx;rcases BG hhi hhb (zh _)with⟨_,rfl,rfl⟩|⟨_,u,_,rfl,_,hu⟩<;>rcases BG hlo hl (zh _)with⟨_,rfl,rfl⟩|⟨_,u2,_,rfl,_,hu2⟩
   all_goals simp only[zH,zl,if_false,zd,ze,zc,Bg hT hti,Addr.Hm, *]
  refine⟨_,hrun,?_⟩;simp only[Be]at hd;by_cases hml:nn=l
  ·simp only[hml,decide_true,cond_true,zg]at hd;subst hd;simp only[hml,if_true,Aa];exact⟨r,n,_,hp,rfl,by omega,by omega,fun _=>by omega,by simp⟩
  ·simp only[hml,decide_false,cond_false,zg]at hd;subst hd;simp only[hml,if_false,Aa];exact⟨r,n,_,hp,rfl,by omega,by omega,fun _=>by omega,by simp⟩
end
end
end Go.Det
end
section
namespace Go.Det
noncomputable section
section
variable {T:BZ}{P:Program}{p:Pl}{h:H}{w:World}
def i64(n:Nat):V:=.int .i64 (.ofNat n)
def EW(T:BZ)(h:H)(ts:Array TypeId)(args:List V):Option V:=
 match ts[0]?,args with
 |some t,[x]=>
  match T.und t,x with
  |some .string,.str s=>some (i64 s.length)
  |some (.array n _),_=>some (i64 n)
  |some (.slice _),.sl _ _ len _ _=>some (i64 len)
  |some (.slice _),.nils=>some (i64 0)
  |some (.slice _),.esl=>some (i64 0)
  |some (.slice _),.es0=>some (i64 0)
  |some (.map _ _),.nilm=>some (i64 0)
  |some (.map _ _),.map b=>match h.get b with
   |some (.map es _)=>some (i64 es.length)
   |_=>none
  |_,_=>none
 |_,_=>none
theorem Aq.one{ds:V}{l:List Value}(hl:Aq p [ds] l):∃v,l=[v]∧Aa p ds v:=by
 match l,hl with
 |[v],h=>exact⟨v,rfl,by simpa using h⟩
 |[],h=>simp at h
 |_::_::_,h=>simp at h
theorem Aq.two{d e:V}{l:List Value}(hl:Aq p [d,e] l):∃v u,l=[v,u]∧Aa p d v∧Aa p e u:=by
 match l,hl with
 |[v,u],h=>exact⟨v,u,rfl,by simpa using h⟩
 |[],h=>simp at h
 |[_],h=>simp at h
 |_::_::_::_,h=>simp at h
theorem C8.length{es:List (V×V×Nat)}{l:List MapEntry}(h:C8 p es l):es.length=l.length:=by
 induction h with
 |nil=>rfl
 |cons _ _ _ _ ih=>simp[ih]
theorem Zi(hT:T.Ok P)(hr:R p h w){ts:Array TypeId}{t:TypeId}{args:List V}{args':Array Value}(ha:Aq p args args'.toList){v:V}(hd:EW T h ts args=some v):
  ∃v',(Builtin.len_ ts t args').run P w=.ok v' w∧Aa p v v':=by
 unfold EW at hd;split at hd
 case h_2=>cases hd
 rename_i t0 x ht;obtain⟨x',hx',hx⟩:=ha.one;have ha0:args'[0]?=some x':=by rw[←zS,hx'];rfl
 unfold Builtin.len_;simp only[ht,ha0];split at hd
 case h_9=>cases hd
 all_goals (rename_i hu;simp only[zd,Au hT hu,zc];try simp only[Aa]at hx)
 case h_1=>subst hx;cases hd;exact⟨_,ze ..,by simp[i64,Aa,goInt,Bw]⟩
 case h_2=>cases hd;exact⟨_,ze ..,by simp[i64,Aa,goInt]⟩
 case h_3=>obtain⟨_,_,_,_,rfl,_⟩:=hx;cases hd;exact⟨_,ze ..,by simp[i64,Aa,goInt]⟩
 case h_4=>subst hx;cases hd;exact⟨_,ze ..,by simp[i64,Aa,goInt]⟩
 case h_5=>obtain⟨_,_,rfl⟩:=hx;cases hd;exact⟨_,ze ..,by simp[i64,Aa,goInt]⟩
 case h_6=>obtain⟨_,rfl⟩:=hx;cases hd;exact⟨_,ze ..,by simp[i64,Aa,goInt]⟩
 case h_7=>subst hx;cases hd;exact⟨_,ze ..,by simp[i64,Aa,goInt]⟩
 case h_8=>
  obtain⟨r,n,hp,rfl⟩:=hx;split at hd
  case h_2=>cases hd
  rename_i es cl hb;cases hd;obtain⟨r',n',o,h1,h2,l,h3,h4⟩:=hr.obj _ _ hb;rw[hp]at h1;cases h1;subst h3;refine⟨goInt l.size,?_,?_⟩
  ·simp[getObj,Sem.run,h2]
  ·have:=h4.length;simp only[i64,Aa,goInt];congr 1;simp at this;exact congrArg Int.ofNat this.symm
def XL(a b:V):Option V:=
 match a,b with
 | .int k x,.int _ y=>some (.int k (if y>x then y else x))
 |_,_=>none
def XX(a b:V):Option V:=
 match a,b with
 | .int k x,.int _ y=>some (.int k (if y<x then y else x))
 |_,_=>none
def dfold(f:V→V→Option V):V→List V→Option V
 |x,[]=>some x
 |x,y::ys=>match f x y with
  |some z=>dfold f z ys
  |none=>none
theorem LA{f:V→V→Option V}{g:Value→Value→Sem Value}(hfg:∀ {a b c:V} {a' b':Value},Aa p a a'→Aa p b b'→f a b=some c→∃c',(g a' b').run P w=.ok c' w∧Aa p c c'):
  ∀(ys:List V) (ys':List Value) (x:V) (x':Value),Aa p x x'→Aq p ys ys'→∀ {v:V},dfold f x ys=some v→∃v',(ys'.foldlM g x').run P w=.ok v' w∧Aa p v v'
 |[],ys',x,x',hx,hys,v,hd=>by
  simp at hys;subst hys;cases hd;exact⟨x',by simp,hx⟩
 |y::ys,[],_,_,_,hys,_,_=>by simp at hys
 |y::ys,y'::ys',x,x',hx,hys,v,hd=>by
  simp only[A5]at hys;unfold dfold at hd;split at hd
  case h_2=>cases hd
  rename_i z hz;obtain⟨z',h1,h2⟩:=hfg hx hys.1 hz;obtain⟨v',h3,h4⟩:=LA hfg ys ys' z z' h2 hys.2 hd;exact⟨v',by rw[List.foldlM_cons,zd,h1];exact h3,h4⟩
def Fo(f:V→V→Option V)(args:List V):Option V:=
 match args with
 |[]=>none
 |x::ys=>dfold f x ys
theorem aB{ts:Array TypeId}{t:TypeId}{args:List V}{args':Array Value}(ha:Aq p args args'.toList){v:V}(hd:Fo XL args=some v):
  ∃v',(Builtin.max_ ts t args').run P w=.ok v' w∧Aa p v v':=by
 unfold Fo at hd;split at hd
 case h_1=>cases hd
 rename_i x ys;unfold Builtin.max_;cases hl:args'.toList with
 |nil=>rw[hl]at ha;simp at ha
 |cons x' ys'=>
  rw[hl]at ha;simp only[A5]at ha;refine LA (fun {a b c a' b'} h1 h2 h3=>?_) ys ys' x x' ha.1 ha.2 hd;unfold XL at h3;split at h3
  case h_2=>cases h3
  simp only[Aa]at h1 h2;subst h1 h2;cases h3;exact⟨_,rfl,by simp[Aa]⟩
theorem cW{ts:Array TypeId}{t:TypeId}{args:List V}{args':Array Value}(ha:Aq p args args'.toList){v:V}(hd:Fo XX args=some v):
  ∃v',(Builtin.min_ ts t args').run P w=.ok v' w∧Aa p v v':=by
 unfold Fo at hd;split at hd
 case h_1=>cases hd
 rename_i x ys;unfold Builtin.min_;cases hl:args'.toList with
 |nil=>rw[hl]at ha;simp at ha
 |cons x' ys'=>
  rw[hl]at ha;simp only[A5]at ha;refine LA (fun {a b c a' b'} h1 h2 h3=>?_) ys ys' x x' ha.1 ha.2 hd;unfold XX at h3;split at h3
  case h_2=>cases h3
  simp only[Aa]at h1 h2;subst h1 h2;cases h3;exact⟨_,rfl,by simp[Aa]⟩
def HB(place:Nat→Option (Nat×Nat))(cells:List V):List (Nat×V)→Option (List V)
 |[]=>some cells
 |(i,v)::rest=>
  match place i with
  |none=>none
  |some (off,size)=>bif zm v.cells.length size&&zp (off+size) cells.length then HB place (Fq cells off v.cells) rest else none
theorem Rh:∀(xs:List V) (vs:List Value) (cs:List V) (c:Array Value) (off:Nat),Aq p xs vs→Aq p cs c.toList→
  ∀k,Aq p (Fq cs (off+k) xs) ((vs.zipIdx k).foldl (fun cs (c,j)=>cs.setIfInBounds (off+j) c) c).toList
 |[],vs,cs,c,off,hx,hc,k=>by simp at hx;subst hx;simpa [Fq]using hc
 |x::xs,[],_,_,_,hx,_,_=>by simp at hx
 |x::xs,v::vs,cs,c,off,hx,hc,k=>by
  simp only[A5]at hx;simp only[Fq,List.zipIdx_cons,List.foldl_cons];have:=Rh xs vs (cs.set (off+k) x) (c.setIfInBounds (off+k) v) off hx.2 (by simpa using hc.set (off+k) hx.1) (k+1);rwa [show off+k+1=off+(k+1)from by omega]
inductive RG (p:Pl):List (Nat×V)→List (Nat×Value)→Prop
 |nil:RG p [] []
 |cons {i:Nat} {v:V} {v':Value} {l:List (Nat×V)} {l':List (Nat×Value)}:Aa p v v'→RG p l l'→RG p ((i,v)::l) ((i,v')::l')
theorem Je{place:Nat→Option (Nat×Nat)}:∀ {l:List (Nat×V)} {l':List (Nat×Value)},RG p l l'→∀ {cs:List V} {c:Array Value} {out:List V},Aq p cs c.toList→HB place cs l=some out→
  ∃o,Instr.fill place c l'=some o∧Aq p out o.toList:=by
 intro l l' hl;induction hl with
 |nil=>intro cs c out hc hd;cases hd;exact⟨c,rfl,hc⟩
 |@cons i v v' l l' hv hl ih=>
  intro cs c out hc hd;unfold HB at hd;split at hd
  case h_1=>cases hd
  rename_i off size hpl;cases hcond:(zm v.cells.length size&&zp (off+size) cs.length)with
  |false=>simp[hcond]at hd
  |true=>
   simp only[hcond,cond_true]at hd;simp only[zB,zy,Be,decide_eq_true_eq]at hcond;have hvl:=hv.cells.length;have hcl:=hc.length;have hsz:v'.cells.size=size:=by simp at hvl;omega
   unfold Instr.fill;simp only[hpl];rw[if_neg (by simp at hcl;simp[hsz];omega)];refine ih ?_ hd;have:=Rh (p:=p) v.cells v'.cells.toList cs c off hv.cells hc 0;simp only[ya]at this;rw[←Array.foldl_toList,Array.toList_zipIdx];exact this
def Iv(T:BZ)(t:TypeId)(parts:List (Nat×V)):Option V:=
 match T.inf t,T.und t with
 |some i,some (.struct fs)=>
  match fs.toList.mapM (fun f=>(T.inf f.type).map fun j=>(f.offset,j.size))with
  |some pl=>(HB (fun i=>pl[i]?) i.zero parts).map .agg
  |none=>none
 |some i,some (.array _ e)=>match T.inf e with
  |some j=>(HB (fun i=>some (i*j.size,j.size)) i.zero parts).map .agg
  |none=>none
 |_,_=>none
theorem run_places(hT:T.Ok P):∀ {fs:List Field} {pl:List (Nat×Nat)},fs.mapM (fun f=>(T.inf f.type).map fun j=>(f.offset,j.size))=some pl→
  ∀w,(fs.mapM (fun f=>(do pure (f.offset, ←sizeOf f.type):Sem (Nat×Nat)))).run P w=.ok pl w
 |[],pl,h,w=>by simp at h;subst h;simp
 |f::fs,pl,h,w=>by
  rw[List.mapM_cons]at h;cases hf:T.inf f.type with
  |none=>simp[hf]at h
  |some j=>
   cases hm:fs.mapM (fun f=>(T.inf f.type).map fun j=>(f.offset,j.size))with
   |none=>simp[hf,hm]at h
   |some pl'=>
    simp[hf,hm]at h;subst h;rw[List.mapM_cons];simp only[zd,Bg hT hf,zc,ze,run_places hT hm]
theorem Vf(hT:T.Ok P){t:TypeId}{parts:List (Nat×V)}{parts':Array (Nat×Value)}(hp:RG p parts parts'.toList){v:V}(hd:Iv T t parts=some v):
  ∃v',(Instr.build t parts').run P w=.ok v' w∧Aa p v v':=by
 unfold Iv at hd;split at hd
 case h_3=>cases hd
 case h_1=>
  rename_i i fs hi hu;split at hd
  case h_2=>cases hd
  rename_i pl hpl;rw[zn]at hd;obtain⟨out,ho,rfl⟩:=hd;obtain⟨z,hz,hzr⟩:=DO hT hi;have hpl':(fs.mapM (fun f=>(do pure (f.offset, ←sizeOf f.type):Sem (Nat×Nat)))).run P w=.ok pl.toArray w:=by
   rw[Array.mapM_eq_mapM_toList];simp only[Sem.run_map,run_places hT hpl,zc]
  obtain⟨o,h1,h2⟩:=Je (p:=p) (place:=fun i=>pl.toArray[i]?) hp (hzr p) (out:=out) (by simpa using ho);refine⟨.agg o,?_,by simp only[Aa];exact⟨_,rfl,h2⟩⟩;unfold Instr.build;simp only[zd,hz,zc,Au hT hu];rw[hpl'];simp only[zc,h1,ze]
 case h_2=>
  rename_i i n e hi hu;split at hd
  case h_2=>cases hd
  rename_i j hj;rw[zn]at hd;obtain⟨out,ho,rfl⟩:=hd;obtain⟨z,hz,hzr⟩:=DO hT hi;obtain⟨o,h1,h2⟩:=Je (p:=p) (place:=fun i=>some (i*j.size,j.size)) hp (hzr p) ho;refine⟨.agg o,?_,by simp only[Aa];exact⟨_,rfl,h2⟩⟩;unfold Instr.build;simp only[zd,hz,zc,Au hT hu,Bg hT hj,h1,ze]
def Ea(z:List V)(n:Nat):List V:=(List.range n).map fun i=>z.getD (i % z.length) (.tup [])
theorem HW{z:List V}{c:Array Value}(hz:Aq p z c.toList)(hpos:0<z.length)(n:Nat):Aq p (Ea z n) ((zZ n).map (fun i=>c[i % c.size]!)).toList:=by
 have hl:=hz.length;simp at hl;apply Aq.mk (by simp[Ea]);intro i d v hd hv;have hi:i<n:=by have:=(zf.1 hd).1;simpa [Ea]using this
 simp only[Ea,zD,zF hi,zN,zg]at hd;simp only[Array.toList_map,Array.toList_range,zD,zF hi,zN,zg]at hv;have hm:i % z.length<z.length:=Nat.mod_lt _ hpos;obtain⟨u,h1,h2⟩:=hz.get (i:=i % z.length) (d:=z[i % z.length]) (by simp[hm]);subst hd hv;simp only[zK,hm,zM,zL];rw[hl]at h1;have hm':i % c.size<c.size:=Nat.mod_lt _ (by omega);simp[hm']at h1;rw[getElem!_pos c (i % c.size) hm',h1];exact h2
def D1(T:BZ)(h:H)(t:TypeId)(len:Nat)(parts:List (Nat×V)):Option (V×H):=
 match T.und t with
 |some (.slice e)=>match T.inf e with
  |some i=>
   bif zp (len*i.size) 16777216&&zI 0 (i.zero.length)&&zm i.zero.length i.size then
    match HB (fun k=>some (k*i.size,i.size)) (Ea i.zero (len*i.size)) parts with
    |some cs=>some (.sl h.nx 0 len len 0,GX h e cs)
    |none=>none
   else none
  |none=>none
 |_=>none
theorem Su(hT:T.Ok P)(hr:R p h w){t:TypeId}{len:Nat}{parts:List (Nat×V)}{parts':Array (Nat×Value)}(hp:RG p parts parts'.toList){v:V}{h':H}
  (hd:D1 T h t len parts=some (v,h')):∃v' p' w',(Instr.buildSlice t len parts').run P w=.ok v' w'∧Aa p' v v'∧Ext p h w p' h' w':=by
 unfold D1 at hd;split at hd
 case h_2=>cases hd
 rename_i e hu;split at hd
 case h_2=>cases hd
 rename_i i hi;cases hcond:(zp (len*i.size) 16777216&&zI 0 (i.zero.length)&&zm i.zero.length i.size)with
 |false=>simp[hcond]at hd
 |true=>
  simp only[hcond,cond_true]at hd;simp only[zB,zy,yh,Be,decide_eq_true_eq]at hcond;obtain⟨⟨c1,c2⟩,c3⟩:=hcond;split at hd
  case h_2=>cases hd
  rename_i cs hcs;cases hd;obtain⟨z,hz,hzr⟩:=DO hT hi;have hzl:=(hzr p).length;simp at hzl;obtain⟨o,h1,h2⟩:=Je (p:=p) (place:=fun k=>some (k*i.size,i.size)) hp (HW (hzr p) c2 (len*i.size)) hcs;obtain⟨n,he,hpn,hn⟩:=Lu hr e h2;refine⟨.slice (some ⟨w.heap.size,0,none⟩) len len,_,_,?_,?_,he⟩
  ·unfold Instr.buildSlice;simp only[zd,Au hT hu,zc,Bg hT hi];rw[if_neg (by omega)];by_cases h0:len*i.size=0
   ·rw[if_pos h0];simp only[zd,ze,zc];have e1:(yo (fun x=>(#[]:Array Value)[x % (#[]:Array Value).size]!) (zZ (len*i.size)))=yo (fun i_1=>z.cells[i_1 % z.cells.size]!) (zZ (len*i.size)):=by simp[h0]
    rw[e1,h1];simp only[zd,B1,zc,ze]
   ·simp only[h0,if_false,zd,hz,zc,ze,h1,B1]
  ·simp only[Aa];exact⟨_,n,len,hpn,rfl,zh _,zh _,fun _=>rfl,by simp⟩
end
end
end Go.Det
end
section
namespace Go.Det
noncomputable section
section
variable {T:BZ}{P:Program}{p:Pl}{h:H}{w:World}
def M5(T:BZ)(h:H)(t:TypeId)(len cap:V):Option (V×H):=
 match T.und t,len,cap with
 |some (.slice e),.int _ (.ofNat l),.int _ (.ofNat c)=>
  match T.inf e with
  |some i=>
   bif zp l c&&zI c 9223372036854775808&&zp (i.bytes*c) 281474976710656&&zI 0 i.zero.length&&zm i.zero.length i.size then
    some (.sl h.nx 0 l c 0,GX h e (Ea i.zero (c*i.size)))
   else none
  |none=>none
 |_,_,_=>none
theorem wrap_small(c:Nat)(h:c<9223372036854775808):IntKind.i64.wrap (c:Int)=c:=IntWalk.i64_in _ (by omega)
theorem Wn(hT:T.Ok P)(hr:R p h w){t:TypeId}{len cap:V}{len' cap':Value}(hl:Aa p len len')(hc:Aa p cap cap'){v:V}{h':H}(hd:M5 T h t len cap=some (v,h')):
  ∃v' p' w',(Instr.makeSlice t len' cap').run P w=.ok v' w'∧Aa p' v v'∧Ext p h w p' h' w':=by
 unfold M5 at hd;split at hd
 case h_2=>cases hd
 rename_i e k l k2 c hu;split at hd
 case h_2=>cases hd
 rename_i i hi;cases hcond:(zp l c&&zI c 9223372036854775808&&zp (i.bytes*c) 281474976710656&&zI 0 i.zero.length&&zm i.zero.length i.size)with
 |false=>simp[hcond]at hd
 |true=>
  simp only[hcond,cond_true,zg,zA]at hd;obtain⟨rfl,rfl⟩:=hd;simp only[zB,zy,yh,Be,decide_eq_true_eq]at hcond;obtain⟨⟨⟨⟨c1,c2⟩,c3⟩,c4⟩,c5⟩:=hcond;simp only[Aa]at hl hc;subst hl hc;obtain⟨z,hz,hzr⟩:=DO hT hi;obtain⟨j,hj,hjb,_⟩:=MI hT hi;obtain⟨n,he,hpn,hn⟩:=Lu hr e (HW (hzr p) c4 (c*i.size));refine⟨.slice (some ⟨w.heap.size,0,none⟩) l c,_,_,?_,?_,he⟩
  ·unfold Instr.makeSlice asInt asIntOf;simp only[zd,ze,Au hT hu,zc,hj,zw,wrap_small c c2,wrap_small l (by omega),hjb];have e3:(i.bytes:Int)*(c:Int)=((i.bytes*c:Nat):Int):=(Int.natCast_mul _ _).symm;rw[e3];generalize i.bytes*c=q at c3 e3 ⊢;have n2:¬((decide ((c:Int)<0)||decide ((q:Int)>2^48))||decide ((l:Int)<0)||decide ((l:Int)>(c:Int)))=true:=by
    simp;omega
   rw[if_neg n2];simp only[zd,zc,run_askRoom,Bg hT hi,zE];by_cases h0:c*i.size=0
   ·rw[if_pos h0];have e1:(yo (fun x=>(#[]:Array Value)[x % (#[]:Array Value).size]!) (zZ (c*i.size)))=yo (fun i_1=>z.cells[i_1 % z.cells.size]!) (zZ (c*i.size)):=by simp[h0]
    simp only[zd,ze,zc,B1];rw[e1]
   ·rw[if_neg h0];simp only[zd,hz,ze,zc,B1]
  ·simp only[Aa];exact⟨_,n,c,hpn,rfl,c1,zh _,fun _=>rfl,by simp⟩
def src(h:H)(size:Nat)(x:V)(n:Nat):Option (List V):=
 match x with
 | .nils=>some []
 | .esl=>bif zm n 0 then some []else none
 | .es0=>bif zm n 0 then some []else none
 | .sl b off _ _ _=>rd h b off (n*size)
 | .str s=>some ((s.take n).map fun c=>.int .u8 c.toNat)
 |_=>none
def N7:V→Option Nat
 | .nils=>some 0
 | .esl=>some 0
 | .es0=>some 0
 | .sl _ _ len _ _=>some len
 | .str s=>some s.length
 |_=>none
theorem LP{x:V}{x':Value}(hx:Aa p x x'){n:Nat}(hd:N7 x=some n):(zT x').run P w=.ok n w:=by
 unfold N7 at hd;split at hd
 case h_1=>simp only[Aa]at hx;subst hx;cases hd;rfl
 case h_2=>simp only[Aa]at hx;obtain⟨_,_,rfl⟩:=hx;cases hd;rfl
 case h_3=>simp only[Aa]at hx;obtain⟨_,rfl⟩:=hx;cases hd;rfl
 case h_4=>simp only[Aa]at hx;obtain⟨_,_,_,_,rfl,_⟩:=hx;cases hd;rfl
 case h_5=>simp only[Aa]at hx;subst hx;cases hd;simp[zT,Bw]
 case h_6=>cases hd
theorem JD(hr:R p h w){size n:Nat}{x:V}{x':Value}(hx:Aa p x x'){cs:List V}(hd:src h size x n=some cs):
  ∃vs:List Value,(zq size n x').run P w=.ok vs.toArray w∧Aq p cs vs:=by
 unfold src at hd;split at hd
 case h_6=>cases hd
 case h_1=>simp only[Aa]at hx;subst hx;cases hd;exact⟨[],rfl,by simp⟩
 case h_2=>
  simp only[Aa]at hx;obtain⟨a,c,rfl⟩:=hx;rw[Be]at hd;by_cases e:n=0
  ·subst e;simp only[decide_true,cond_true,zg]at hd;subst hd;exact⟨[],by simp[zq,loadCells,loadCellsFrom],by simp⟩
  ·simp[e]at hd
 case h_3=>
  simp only[Aa]at hx;obtain⟨a,rfl⟩:=hx;rw[Be]at hd;by_cases e:n=0
  ·subst e;simp only[decide_true,cond_true,zg]at hd;subst hd;exact⟨[],by simp[zq,loadCells,loadCellsFrom],by simp⟩
  ·simp[e]at hd
 case h_4=>
  simp only[Aa]at hx;obtain⟨r,m,c,hp,rfl,_⟩:=hx;obtain⟨r',m',vs,h1,h2,h3,_⟩:=run_loadCells (P:=P) hr hd;rw[hp]at h1;cases h1;exact⟨vs,h2,h3⟩
 case h_5=>
  rename_i s;simp only[Aa]at hx;subst hx;cases hd;refine⟨(s.take n).map fun c=>.int .u8 c.toNat,?_,?_⟩
  ·simp only[zq,ze];congr 1;apply Array.ext';simp[bytesOf,ym]
  ·apply Aq.mk (by simp);intro i d v h1 h2;simp only[zD]at h1 h2;cases hq:(s.take n)[i]? with
   |none=>simp[hq]at h1
   |some q=>simp[hq]at h1 h2;subst h1 h2;simp[Aa]
theorem Oa(newLen:Nat):∀(r c:Nat),c<newLen→zR newLen r c≤2*newLen+1000
 |0,c,h=>by simp[zR];omega
 |r+1,c,h=>by
  unfold zR;rw[if_neg (by omega)];by_cases h2:c+(c+768)/4<newLen
  ·exact Oa newLen r _ h2
  ·cases r with
   |zero=>simp[zR];omega
   |succ r=>unfold zR;rw[if_pos (by omega)];omega
theorem SW(need c:Nat)(h:c<need):zJ need c≤2*need+1000:=by
 unfold zJ;split
 ·omega
 ·split
  ·omega
  ·exact Oa need 4 c h
def isInt:TypeDesc→Bool
 | .int _=>true
 |_=>false
def M4:V→Bool
 | .str _=>false
 |_=>true
def Fm(T:BZ)(h:H)(ts:Array TypeId)(args:List V):Option (V×H):=
 match ts[0]?,ts[1]?,args with
 |some t,some tx,[s,x]=>
  match T.und t,T.und tx,N7 x with
  |some (.slice e),some dx,some n=>
   match T.inf e,isInt dx with
   |some i,false=>
    bif zI 0 i.bytes&&zI 0 i.size&&zm i.zero.length i.size&&(zm i.size 1||M4 x)then
     match src h i.size x n with
     |some new=>
      match s with
      | .nils=>
       bif zm n 0 then some (.nils,h)
       else bif zp ((2*n+1000)*i.bytes) 281474976710656 then some (.sl h.nx 0 n n i.size,GX h e new)else none
      | .es0=>
       bif zm n 0 then some (.es0,h)
       else bif zp ((2*n+1000)*i.bytes) 281474976710656 then some (.sl h.nx 0 n n i.size,GX h e new)else none
      | .esl=>bif zm n 0 then some (.esl,h)else none
      | .sl b off len cap o=>
       bif zp (len+n) cap then(wr h b (off+len*i.size) new).map fun h'=>(.sl b off (len+n) cap o,h')
       else bif zp ((2*(len+n)+1000)*i.bytes) 281474976710656 then
        match src h i.size s len with
        |some old=>
         bif zm o 0 then some (.sl h.nx 0 (len+n) (len+n) i.size,GX h e (old++new))
         else
          match h.get b with
          |some (.cells _ te fz)=>
           bif zm off 0&&zm o i.size&&zm te e&&zp fz.2 fz.1&&new.all V.one then some (.sl h.nx 0 (len+n) (len+n) i.size,(h.kill b).push (.cells (old++new) e (0,0)))
           else none
          |_=>none
        |none=>none
       else none
      |_=>none
     |none=>none
    else none
   |_,_=>none
  |_,_,_=>none
 |_,_,_=>none
theorem OM{old new:List V}{vo vn:List Value}(h1:Aq p old vo)(h2:Aq p new vn)(rest:Array Value):
  Aq p (old++new) ((vo.toArray++vn.toArray++rest).toList.take (old++new).length):=by
 have l1:=h1.length;have l2:=h2.length;have:((vo.toArray++vn.toArray++rest).toList.take (old++new).length)=vo++vn:=by
  simp only[Array.toList_append,zO,l1,l2];rw[List.take_append_of_le_length (by simp)];rw[yb (by simp)]
 rw[this];exact h1.append h2
section
variable {ts:Array TypeId}{t t0 tx e:TypeId}{dx:TypeDesc}{i:TI}{n:Nat}{x' z:Value}{j:TypeInfo}
theorem MN(hT:T.Ok P)(ht0:ts[0]?=some t0)(htx:ts[1]?=some tx)(hu:T.und t0=some (.slice e))(hux:T.und tx=some dx)(hdx:isInt dx=false)
  (hi:T.inf e=some i) (hn:∀w,(zT x').run P w=.ok n w) (base:Option Addr) (len' c:Nat) (hle:len'+n≤c):
  (zz ts t #[.slice base len' c,x']).run P w=((zq i.size n x').run P w).andThen fun new w'=>((match base with|some a=>storeCells (a.add (len'*i.size)) new.toList|none=>pure ():Sem Unit).run P w').andThen fun _ w'=>.ok (.slice base (len'+n) c) w':=by
 unfold zz;cases dx<;>first|(cases hdx;done)|skip
 all_goals
  simp only[ht0,htx,List.getElem?_toArray,z8,z9,zd,Au hT hu,Au hT hux,Bg hT hi,zc,ze,zl,if_false,hn,hle,if_true,Bool.not_false];cases base with
  |none=>rfl
  |some b=>simp only[zd,ze]
theorem O2(hT:T.Ok P)(ht0:ts[0]?=some t0)(htx:ts[1]?=some tx)(hu:T.und t0=some (.slice e))(hux:T.und tx=some dx)(hdx:isInt dx=false)
  (hi:T.inf e=some i) (hpos:0<i.bytes) (hz:∀w,(zeroValue e).run P w=.ok z w) (hn:∀w,(zT x').run P w=.ok n w) (base:Option Addr) (len' c:Nat) (hlt:c<len'+n)
  (hcap:(2*(len'+n)+1000)*i.bytes≤281474976710656):
  ∃nc,len'+n≤nc∧(zz ts t #[.slice base len' c,x']).run P w=((zq i.size len' (.slice base len' c)).run P { w with drawn:=w.drawn+1 }).andThen fun old w'=>
   ((zq i.size n x').run P w').andThen fun new w'=>
    .ok (.slice (some ⟨w'.heap.size,0,none⟩) (len'+n) nc) { w' with heap:=w'.heap.push (.cells (old++new++zt z.cells (nc-(len'+n))) e) }:=by
 obtain⟨j,hj,hjb,hjs⟩:=MI hT hi;have hnc:=SW (len'+n) c hlt;have hle:zJ (len'+n) c*i.bytes≤281474976710656:=yi (zr _ hnc) hcap;refine⟨(Question.appendCap (len'+n) c e).cut (w.tape w.drawn (.appendCap (len'+n) c e)),by simp[Question.cut],?_⟩;unfold zz;have h1:¬(len'+n≤c):=by omega
 have h2:¬(zJ (len'+n) c*i.bytes>2^48):=by omega
 have h3:¬(i.bytes=0):=by omega
 cases dx<;>first|(cases hdx;done)|skip
 all_goals
  simp only[ht0,htx,List.getElem?_toArray,z8,z9,zd,Au hT hu,Au hT hux,Bg hT hi,zc,ze,zl,if_false,hn,Bool.not_false,if_true,
   h1,hj,hjb,h3,or_self,and_false,h2,run_choose,Question.forced,run_askRoom,hz,B1]
end
theorem Hi(z:Array Value)(n:Nat):(zt z n).size=n*z.size:=by simp[zt]
theorem Mp{size n:Nat}{x:V}{cs:List V}(hx:N7 x=some n)(h1:size=1∨∀s,x≠ .str s)(hd:src h size x n=some cs):cs.length=n*size:=by
 unfold src at hd;split at hd
 case h_6=>cases hd
 case h_1=>cases hd;cases hx;simp
 case h_2=>
  cases hx;cases hd;simp
 case h_3=>
  cases hx;cases hd;simp
 case h_4=>
  rw[Up]at hd;unfold kG at hd;split at hd
  case h_2=>cases hd
  split at hd
  case isFalse=>cases hd
  cases hd;simp;omega
 case h_5=>
  rename_i s;cases hd;cases hx;rcases h1 with rfl|h1
  ·simp
  ·exact absurd rfl (h1 s)
theorem Ti(hT:T.Ok P)(hr:R p h w){ts:Array TypeId}{t:TypeId}{args:List V}{args':Array Value}(ha:Aq p args args'.toList){v:V}{h':H}(hd:Fm T h ts args=some (v,h')):
  ∃v' p' w',(zz ts t args').run P w=.ok v' w'∧Aa p' v v'∧Ext p h w p' h' w':=by
 unfold Fm at hd;split at hd
 case h_2=>cases hd
 rename_i t0 tx s x ht0 htx;obtain⟨s',x',hargs,hs,hx⟩:=ha.two;have ha0:args'[0]?=some s':=by rw[←zS,hargs];rfl
 have ha1:args'[1]?=some x':=by rw[←zS,hargs];rfl
 split at hd
 case h_2=>cases hd
 rename_i e dx n hu hux hxlen;split at hd
 case h_2=>cases hd
 rename_i i hi hdx;cases hcond:(zI 0 i.bytes&&zI 0 i.size&&zm i.zero.length i.size&&(zm i.size 1||M4 x))with
 |false=>simp[hcond]at hd
 |true=>
  simp only[hcond,cond_true]at hd;simp only[zB,yh,Be,decide_eq_true_eq,yd]at hcond;obtain⟨⟨⟨c1,c2⟩,c3⟩,c4⟩:=hcond;have c5:i.size=1∨∀s,x≠ .str s:=c4.imp id (fun h s e=>by subst e;cases h);split at hd
  case h_2=>cases hd
  rename_i new hnew;have hnl:=Mp hxlen c5 hnew;obtain⟨vn,hvn,hvnr⟩:=JD (P:=P) hr hx hnew;obtain⟨j,hj,hjb,hjs⟩:=MI hT hi;obtain⟨z,hz,hzr⟩:=DO hT hi;have hzl:=(hzr p).length;simp at hzl;have hne:args'= #[s',x']:=by apply Array.ext';simpa using hargs
  subst hne;have hlenx:∀w,(zT x').run P w=.ok n w:=fun w=>LP hx hxlen
  have none0:∀(base:Option Addr) (c:Nat),n=0→(zz ts t #[.slice base 0 c,x']).run P w=.ok (.slice base 0 c) w:=by
   intro base c h0;rw[MN hT ht0 htx hu hux hdx hi hlenx base 0 c (by omega),hvn];have hv0:vn=[]:=by
    have h1:=hvnr.length;rw[hnl,h0,Nat.zero_mul]at h1;exact zP.1 h1.symm
   subst hv0;cases base<;>simp[h0,storeCells]
  have some0:∀(base:Option Addr),¬n=0→(2*n+1000)*i.bytes≤281474976710656→∃v' p' w',(zz ts t #[.slice base 0 0,x']).run P w=.ok v' w'∧Aa p' (.sl h.nx 0 n n i.size) v'∧Ext p h w p' (GX h e new) w':=by
   intro base h0 hb;obtain⟨nc,hnc,hrun⟩:=O2 (w:=w) (t:=t) hT ht0 htx hu hux hdx hi c1 hz hlenx base 0 0 (by omega) (by simpa using hb);simp only[yn]at hrun hnc;have hd1:=Ext.drew hr (w.drawn+1);obtain⟨vn',hvn',hvnr'⟩:=JD (P:=P) hd1.rel hx hnew;have hne2:=Ext.push (n:=nc*i.size) hd1.rel (o:=.cells new e (0,0)) (x:=.cells (#[]++vn'.toArray++zt z.cells (nc-n)) e) ?_
   ·refine⟨.slice (some ⟨w.heap.size,0,none⟩) n nc,_,_,?_,?_,hd1.trans hne2⟩
    ·rw[hrun];have hf:∀w,(zq i.size 0 (Value.slice base 0 0)).run P w=.ok #[] w:=by
      intro w;cases base<;>simp[zq,loadCells,loadCellsFrom]
     simp only[hf,zc,hvn']
    ·simp only[Aa];refine⟨w.heap.size,nc*i.size,nc,by rw[←hr.len];simp,rfl,zh _,by omega,fun h=>by omega,fun _=>by omega⟩
   ·have hl:=hvnr'.length;have hsz:(#[]++vn'.toArray++zt z.cells (nc-n)).size=nc*i.size:=by
     have:vn'.length=n*i.size:=by omega
     simp only[Array.size_append,Hi,z5,z5,this, ←hzl,c3,Nat.sub_mul];have:n*i.size≤nc*i.size:=zr _ (by omega);simp;omega
    refine⟨_,(0,0),rfl,hsz,?_,?_,fun i _ h1 h2=>⟨h1,h2⟩⟩
    ·rw[hnl];exact zr _ (by omega)
    ·have:=OM (p:=p) (old:=[]) (vo:=[]) (by simp) hvnr' (zt z.cells (nc-n));simpa using this.lR
  split at hd
  case h_5=>cases hd
  case h_1=>
   simp only[Aa]at hs;subst hs;rw[Be]at hd;by_cases h0:n=0
   ·simp only[h0,decide_true,cond_true,zg,zA]at hd;obtain⟨rfl,rfl⟩:=hd;exact⟨.slice none 0 0,p,w,none0 none 0 h0,by simp[Aa],Ext.refl hr⟩
   ·simp only[h0,decide_false,cond_false]at hd;cases hb:zp ((2*n+1000)*i.bytes) 281474976710656 with
    |false=>simp[hb]at hd
    |true=>
     simp only[hb,cond_true,zg,zA]at hd;obtain⟨rfl,rfl⟩:=hd;rw[zy]at hb;exact some0 none h0 hb
  case h_2=>
   simp only[Aa]at hs;obtain⟨a0,rfl⟩:=hs;rw[Be]at hd;by_cases h0:n=0
   ·simp only[h0,decide_true,cond_true,zg,zA]at hd;obtain⟨rfl,rfl⟩:=hd;exact⟨_,p,w,none0 (some a0) 0 h0,by simp[Aa],Ext.refl hr⟩
   ·simp only[h0,decide_false,cond_false]at hd;cases hb:zp ((2*n+1000)*i.bytes) 281474976710656 with
    |false=>simp[hb]at hd
    |true=>
     simp only[hb,cond_true,zg,zA]at hd;obtain⟨rfl,rfl⟩:=hd;rw[zy]at hb;exact some0 (some a0) h0 hb
  case h_3=>
   simp only[Aa]at hs;obtain⟨a0,c0,rfl⟩:=hs;rw[Be]at hd;by_cases h0:n=0
   ·simp only[h0,decide_true,cond_true,zg,zA]at hd;obtain⟨rfl,rfl⟩:=hd;exact⟨_,p,w,none0 (some a0) c0 h0,by simp[Aa],Ext.refl hr⟩
   ·simp[h0]at hd
  case h_4=>
   rename_i b off len cap o;simp only[Aa]at hs;obtain⟨r,m,c,hp,rfl,hlen,hcap,ho1,ho2⟩:=hs;cases hle:zp (len+n) cap with
   |true=>
    simp only[hle,cond_true,zn,zA]at hd;obtain⟨h1,hw,rfl,rfl⟩:=hd;rw[zy]at hle;obtain⟨r',m',w',g1,g2,g3⟩:=PJ (P:=P) hr hvnr hw;rw[hp]at g1;cases g1;refine⟨.slice (some ⟨r,off,none⟩) (len+n) c,p,w',?_,?_,g3⟩
    ·rw[MN hT ht0 htx hu hux hdx hi hlenx _ len c (by omega),hvn];simp only[zc,Addr.Hm,g2]
    ·simp only[Aa];exact⟨r,m,c,hp,rfl,hle,hcap,ho1,ho2⟩
   |false=>
    simp only[hle,cond_false]at hd;have hle':¬(len+n≤cap):=by rw[←zy,hle];simp
    cases hb:zp ((2*(len+n)+1000)*i.bytes) 281474976710656 with
    |false=>simp[hb]at hd
    |true=>
     simp only[hb,cond_true]at hd;rw[zy]at hb;split at hd
     case h_2=>cases hd
     rename_i old hold;have hol:=Mp (x:=.sl b off len cap o) (n:=len) rfl (.inr (fun s e=>by cases e)) hold;have hsrel:∀q:Pl,(∃q',q=p++q')→Aa q (.sl b off len cap o) (.slice (some ⟨r,off,none⟩) len c):=by
      rintro q ⟨q',rfl⟩;exact Aa.mono q' (by simp only[Aa];exact⟨r,m,c,hp,rfl,hlen,hcap,ho1,ho2⟩)
     have fresh:∀(_:c<len+n) (h2:H),R p h2 { w with drawn:=w.drawn+1 }→h2.nx=h.nx→
       ∃v' p' w',(zz ts t #[.slice (some ⟨r,off,none⟩) len c,x']).run P w=.ok v' w'∧Aa p' (.sl h.nx 0 (len+n) (len+n) i.size) v'∧
        Ext p h2 { w with drawn:=w.drawn+1 } p' (h2.push (.cells (old++new) e (0,0))) w':=by
      intro hlt h2 hr2 hnx;obtain⟨nc,hnc,hrun⟩:=O2 (w:=w) (t:=t) hT ht0 htx hu hux hdx hi c1 hz hlenx (some ⟨r,off,none⟩) len c hlt hb;have hd1:=Ext.drew hr (w.drawn+1);obtain⟨vn',hvn',hvnr'⟩:=JD (P:=P) hd1.rel hx hnew;obtain⟨vo',hvo',hvor'⟩:=JD (P:=P) (x:=.sl b off len cap o) hd1.rel (hsrel p ⟨[],by simp⟩) hold;have hl:=hvnr'.length;have hl2:=hvor'.length;have hsz:(vo'.toArray++vn'.toArray++zt z.cells (nc-(len+n))).size=nc*i.size:=by
       have e1:vn'.length=n*i.size:=by omega
       have e2:vo'.length=len*i.size:=by omega
       simp only[Array.size_append,Hi,z5,e1,e2, ←hzl,c3,Nat.sub_mul,ye];have:(len+n)*i.size≤nc*i.size:=zr _ (by omega);rw[ye]at this;omega
      have hne2:=Ext.push (n:=nc*i.size) hr2 (o:=.cells (old++new) e (0,0)) (x:=.cells (vo'.toArray++vn'.toArray++zt z.cells (nc-(len+n))) e)
       ⟨_,(0,0),rfl,hsz,by rw[zO,hol,hnl, ←ye];exact zr _ (by omega),(OM hvor' hvnr' _).lR,fun i _ h1 h2=>⟨h1,h2⟩⟩
      refine⟨.slice (some ⟨w.heap.size,0,none⟩) (len+n) nc,_,_,?_,?_,hne2⟩
      ·rw[hrun,hvo'];simp only[zc,hvn']
      ·simp only[Aa];refine⟨w.heap.size,nc*i.size,nc,?_,rfl,zh _,by omega,fun h=>by omega,fun _=>by omega⟩;rw[←hnx, ←hr2.len];simp
     rw[Be]at hd;by_cases h0:o=0
     ·simp only[h0,decide_true,cond_true,zg,zA]at hd;obtain⟨rfl,rfl⟩:=hd;have:=ho1 h0;have hd1:=Ext.drew hr (w.drawn+1);obtain⟨v',p',w',k1,k2,k3⟩:=fresh (by omega) h hd1.rel rfl;exact⟨v',p',w',k1,k2,hd1.trans k3⟩
     ·simp only[h0,decide_false,cond_false]at hd;split at hd
      case h_2=>cases hd
      rename_i cs te fz hbk;cases hc2:(zm off 0&&zm o i.size&&zm te e&&zp fz.2 fz.1&&new.all V.one)with
      |false=>simp[hc2]at hd
      |true=>
       simp only[hc2,cond_true,zg,zA]at hd;obtain⟨rfl,rfl⟩:=hd;simp only[zB,zy,Be,decide_eq_true_eq,z7]at hc2;obtain⟨⟨⟨⟨rfl,rfl⟩,rfl⟩,d4⟩,d5⟩:=hc2;by_cases hfit:len+n≤c
       ·
        obtain⟨r',m',cc,fz',g1,g2,g3,g4,g5,g6,g7⟩:=cell_of hr hbk;rw[hp]at g1;cases g1;have hm:=ho2 h0;have hl:=hvnr.length;have hone:∀v∈vn,v.oneCell'=true:=by
         intro v hv;obtain⟨k,hk⟩:=List.mem_iff_getElem?.1 hv;have hk':=(zf.1 hk).1;obtain⟨u,hu1,hu2⟩:=hvnr.get (i:=k) (d:=new[k]'(by omega)) (by simp);rw[hk]at hu1;cases hu1;exact hu2.one (d5 _ (List.getElem_mem _))
        have hbnd:len*i.size+n*i.size≤c*i.size:=by rw[←ye];exact zr _ hfit
        obtain⟨cc',k1,k2,k3⟩:=EL (P:=P) vn w cc (len*i.size) 0 g2 (by omega) hone (by
         rintro k _ hk ⟨q1,q2⟩;have:=g7 (len*i.size+k) (by omega) q1 q2;omega)
        have hrd:old=cs.take (len*i.size)∧len*i.size≤cs.length:=by
         unfold src at hold;simp only[Up]at hold;unfold kG at hold;simp only[hbk,yn,List.drop_zero]at hold;split at hold
         ·rename_i hc0;cases hold;exact⟨rfl,hc0.1⟩
         ·cases hold
        refine⟨.slice (some ⟨r,0,none⟩) (len+n) c,p++[(r,m)],{ w with heap:=w.heap.setIfInBounds r (.cells cc' te fz') },?_,?_,Ext.move hr (o':=.cells (old++new) te (0,0)) hbk hp ⟨cc',fz',rfl,by omega,?_,?_,?_⟩ rfl rfl rfl rfl (fun _ _ _ e1 hlk=>by cases e1;obtain⟨l1,_,l3⟩:=hlk;omega)⟩
        ·rw[MN hT ht0 htx hu hux hdx hi hlenx _ len c hfit,hvn];simp only[zc,Addr.Hm,yn,k1]
        ·simp only[Aa];exact⟨r,m,c,by rw[←hr.len];simp,rfl,zh _,hfit,fun h=>by omega,fun _=>hm⟩
        ·rw[zO,hol,hnl];omega
        ·refine⟨?_,?_⟩
         ·simp;omega
         ·intro k d v hdk hvk hokk;have hkl:k<(old++new).length:=(zf.1 hdk).1;rw[zk hkl,k3]at hvk;rw[zO,hol,hnl]at hkl;simp only[ya,zD]at hvk;rw[zF (by omega)]at hvk;simp only[zN,zg]at hvk;by_cases hk:k<len*i.size
          ·rw[zi (by omega),hrd.1,zk hk]at hdk;rw[if_neg (by omega)]at hvk;obtain⟨u,hu1,hu2⟩:=g5.get hdk hokk;rw[zk (by omega)]at hu1;simp only[zK,hu1,zL]at hvk;exact hvk▸hu2
          ·rw[List.getElem?_append_right (by omega),hol]at hdk;rw[if_pos (by omega)]at hvk;obtain⟨u,hu1,hu2⟩:=hvnr.get hdk;simp only[zK,hu1,zL]at hvk;exact hvk▸hu2
        ·intro k hk q1 q2;have:=g7 k hk q1 q2;omega
       ·have hk:=Ext.kill hr b;have hd1:=Ext.drew hk.rel (w.drawn+1);obtain⟨v',p',w',k1,k2,k3⟩:=fresh (by omega) (h.kill b) hd1.rel rfl;exact⟨v',p',w',k1,k2,(hk.trans hd1).trans k3⟩
end
end
end Go.Det
end
