import Derived.Scope
import Derived.Laws.Sem
import Derived.KernelRfl
import Derived.Laws.Strings
import Derived.IntWalk
/- A part of a proof; no law is stated here. -/
abbrev Y:=List UInt8
abbrev w4:=@decide_eq_true
abbrev w5:=@decide_eq_true_eq
abbrev w6:=@of_decide_eq_true
abbrev w7:=@of_decide_eq_false
abbrev w8:=@decide_eq_false
abbrev w9:=@if_neg
abbrev wa:=@if_pos
abbrev wb:=@cond_true
abbrev wc:=@cond_false
abbrev wd:=@absurd
abbrev we:=@congrArg
abbrev wg:=@if_true
abbrev wh:=@and_true
abbrev wi:=@if_false
noncomputable section
open Go.Result renaming andThen_ok -> Za
open Go.Sem renaming run_bind -> Zb, run_pure -> Zd, run -> ZS
open Option.some renaming injEq -> Zc
open Nat renaming le_refl -> Ze, beq -> Zf, ble -> Zi, mul_le_mul_right -> Zv, blt -> Zx, ble_eq -> Zy, le_trans -> ZO
open Option renaming map_eq_some_iff -> Zg
open Go.Value renaming cells -> Zh
open Go.Builtin renaming firstCells -> Zj, zeroCells -> Zm, append_ -> Zr, nextslicecap -> Zw, lenOf -> ZH
open List renaming getElem?_eq_some_iff -> Zk, getElem?_take_of_lt -> Zo, getElem?_cons_zero -> ZB, getElem?_cons_succ -> ZC, getElem?_toArray -> ZF, rec -> ZN
open Bool renaming and_eq_true -> Zl, false_eq_true -> Zn, or_eq_true -> ZR
open Go.Instr renaming sliceAt -> Zp, sliceBounds -> Zq, sameBits -> Zt, sureAddr -> ZD, findAsking -> ZG, findNow -> ZI, checkKey -> ZJ, slice -> ZK, sameNow -> ZL, findKey -> ZM, lookup -> ZQ
open Prod.mk renaming injEq -> Zs
open Int renaming ofNat_eq_natCast -> Zu, toNat_natCast -> ZA
open BitVec renaming ofInt -> Zz
open Array renaming getElem?_toList -> ZE
open Go.Op renaming bytesLess -> ZP, equal -> ZT
theorem a8{p:Prop}(h:p:=by omega):p:=h
theorem aa{p:Prop}(h:p:=by decide):p:=h
theorem ac{p:Prop}(h:p:=by kernel_rfl):p:=h
theorem ae{p:Prop}(h:p:=by grind):p:=h
namespace Go.Det
section
inductive PM (α:Type) where
 |leaf
 |node (l:PM α) (v:Option α) (r:PM α)
inductive CN where
 |here
 |l (p:CN)
 |r (p:CN)
variable {α:Type}
def RB(f:Nat):Nat->CN:=
 @Nat.rec (fun _=>Nat->CN) (fun _=>.here) (fun _ a i=>bif Zf i 0 then .here else bif Zf (Nat.mod i 2) 1 then .l (a<|Nat.div i 2)else .r<|a<|Nat.sub (Nat.div i 2) 1) f
def TN(i:Nat):CN:=RB i i
def CN.get(p:CN):PM α->Option α:=
 @CN.rec (fun _=>PM α->Option α)
  (fun m=>@PM.rec α (fun _=>Option α) none (fun _ v _ _ _=>v) m)
  (fun _ a m=>@PM.rec α (fun _=>Option α) none (fun l _ _ _ _=>a l) m)
  (fun _ a m=>@PM.rec α (fun _=>Option α) none (fun _ _ r _ _=>a r) m) p
def CN.set(p:CN):PM α->Option α->PM α:=
 @CN.rec (fun _=>PM α->Option α->PM α)
  (fun m v=>@PM.rec α (fun _=>PM α) (.node .leaf v .leaf) (fun l _ r _ _=>.node l v r) m)
  (fun _ a m v=>@PM.rec α (fun _=>PM α) (.node (a .leaf v) none .leaf) (fun l x r _ _=>.node (a l v) x r) m)
  (fun _ a m v=>@PM.rec α (fun _=>PM α) (.node .leaf none<|a .leaf v) (fun l x r _ _=>.node l x<|a r v) m) p
def PM.get(m:PM α)(i:Nat):Option α:=(TN i).get m
def PM.set(m:PM α)(i:Nat)(v:Option α):PM α:=(TN i).set m v
theorem Al(a b:Nat):Zf a b=decide (a=b):=by
 by_cases h:a=b
 ·simp_all
 grind [Nat.eq_of_beq_eq_true]
def CN.num:CN->Nat
 | .here=>0
 | .l p=>2*p.num+1
 | .r p=>2*(p.num+1)
theorem Hq:∀(f i:Nat),i<=f->(RB f i).num=i
 |0,i,h=>by cases a8;rfl
 |f+1,i,h=>by
  show CN.num (bif Zf i 0 then .here else bif Zf (i % 2) 1 then .l (RB f<|i/2)else .r<|RB f<|i/2-1)=i;simp only[Al];by_cases h0:i=0
  ·subst h0;rfl
  ·by_cases a:i % 2=1
   ·simp only[h0,a,decide_false,decide_true,wc,wb,CN.num];rw[Hq f (i/2) a8];omega
   ·simp only[h0,a,decide_false,wc,CN.num];rw[Hq f (i/2-1) a8];omega
theorem Rw{i j:Nat}(h:TN i=TN j):i=j:=by
 have:=we CN.num h;unfold TN at this;simp_all [Hq]
theorem CN.BD(p:CN):p.get (.leaf:PM α)=none:=by cases p<;>rfl
theorem CN.BF:∀(p:CN) (m:PM α) (v:Option α),p.get (p.set m v)=v
 | .here,m,v=>by cases m<;>rfl
 | .l p,m,v=>by
  cases m with
  |leaf=>exact CN.BF p .leaf v
  |node l x r=>exact CN.BF p l v
 | .r p,m,v=>by
  cases m with
  |leaf=>exact CN.BF p .leaf v
  |node l x r=>exact CN.BF p r v
theorem CN.Cg:∀(p q:CN) (m:PM α) (v:Option α),q≠p->q.get (p.set m v)=q.get m
 | .here,.here,m,v,h=>wd rfl h
 | .here,.l q,m,v,_=>by
  cases m with
  |leaf=>exact q.BD
  |node l x r=>rfl
 | .here,.r q,m,v,_=>by
  cases m with
  |leaf=>exact q.BD
  |node l x r=>rfl
 | .l p,.here,m,v,_=>by cases m<;>rfl
 | .r p,.here,m,v,_=>by cases m<;>rfl
 | .l p,.r q,m,v,_=>by
  cases m with
  |leaf=>exact q.BD
  |node l x r=>rfl
 | .r p,.l q,m,v,_=>by
  cases m with
  |leaf=>exact q.BD
  |node l x r=>rfl
 | .l p,.l q,m,v,h=>by
  have h':q≠p:=ae;cases m with
  |leaf=>exact(CN.Cg p q .leaf v h').trans q.BD
  |node l x r=>exact CN.Cg p q l v h'
 | .r p,.r q,m,v,h=>by
  have h':q≠p:=ae;cases m with
  |leaf=>exact(CN.Cg p q .leaf v h').trans q.BD
  |node l x r=>exact CN.Cg p q r v h'
@[simp] theorem PM.Bd(m:PM α)(i:Nat)(v:Option α)(j:Nat):(m.set i v).get j=if j=i then v else m.get j:=by
 unfold PM.get PM.set;by_cases e:j=i
 ·simp_all [CN.BF]
 ·grind [CN.Cg,Rw]
@[simp] theorem PM.BD(j:Nat):(PM.leaf:PM α).get j=none:=CN.BD _
def B1(l:List α):Nat:=@ZN α (fun _=>Nat) 0 (fun _ _ a=>Nat.add a 1) l
theorem A9(l:List α):B1 l=l.length:=by
 induction l with
 |nil=>rfl
 |cons a l b=>simp_all [B1]
def DJ(n:Nat):List α->List α:=
 @Nat.rec (fun _=>List α->List α) (fun l=>l) (fun _ b l=>@ZN α (fun _=>List α) [] (fun _ a _=>b a) l) n
theorem DE:∀(n:Nat) (l:List α),DJ n l=l.drop n
 |0,_l=>rfl
 |_n+1,[]=>rfl
 |n+1,_a::l=>DE n l
def KH(n:Nat):List α->List α:=
 @Nat.rec (fun _=>List α->List α) (fun _=>[]) (fun _ c l=>@ZN α (fun _=>List α) [] (fun a b _=>a::c b) l) n
theorem DN:∀(n:Nat) (l:List α),KH n l=l.take n
 |0,_l=>rfl
 |_n+1,[]=>rfl
 |n+1,a::l=>we (a:: ·)<|DN n l
def Eu(vs:List α):List α->List α:=
 @ZN α (fun _=>List α->List α) (fun l=>l) (fun v _ b l=>@ZN α (fun _=>List α) [] (fun _ a _=>v::b a) l) vs
def AR(n:Nat)(vs:List α):List α->List α:=
 @Nat.rec (fun _=>List α->List α) (fun l=>Eu vs l) (fun _ c l=>@ZN α (fun _=>List α) [] (fun a b _=>a::c b) l) n
def E0(f:α->Bool)(l:List α):Bool:=@ZN α (fun _=>Bool) true (fun a _ b=>bif f a then b else false) l
theorem Cc(f:α->Bool):∀l:List α,E0 f l=l.all f
 |[]=>rfl
 |a::l=>by
  show(bif f a then E0 f l else false)=_;rw[Cc f l,List.all_cons];simp
inductive V where
 |bool (b:Bool)
 |int (k:IntKind) (n:Int)
 |str (s:Y)
 |nilp
 |ptr (b off:Nat)
 |nils
 |sl (b off len cap o:Nat)
 |esl
 |es0
 |junk
 |nilm
 |map (b:Nat)
 |fn (f:Fn) (first captured:List V)
 |yld (b:Nat)
 |nilf
 |iface (t:TypeId) (v:V)
 |nili
 |agg (cs:List V)
 |tup (vs:List V)
 deriving Inhabited
abbrev Pl:=List<|Nat×Nat
def bytesOf(s:Y):ByteArray:=⟨s.toArray⟩
mutual
def Aa(p:Pl):V->Value->Prop
 | .bool b,v=>v=.bool b
 | .int k n,v=>v=.int k n
 | .str s,v=>v=.string (bytesOf s)
 | .nilp,v=>v=.pointer none
 | .ptr b off,v=>∃r n,p[b]?=some (r,n)/\v=.pointer (some ⟨r,off,none⟩)
 | .nils,v=>v=.slice none 0 0
 | .sl b off len cap o,v=>∃r n c,p[b]?=some (r,n)/\v=.slice (some ⟨r,off,none⟩) len c/\len<=cap/\cap<=c/\(o=0->c=cap)/\(o≠0->off+c*o<=n)
 | .esl,v=>∃a c,v=.slice (some a) 0 c
 | .es0,v=>∃a,v=.slice (some a) 0 0
 | .junk,_=>False
 | .nilm,v=>v=.map none
 | .map b,v=>∃r n,p[b]?=some (r,n)/\v=.map (some r)
 | .fn f first captured,v=>∃x y,v=.func f x y/\Ab p first x.toList/\Ab p captured y.toList
 | .yld b,v=>∃r n,p[b]?=some (r,n)/\v=.func (.yield r) #[] #[]
 | .nilf,v=>v=.nilFunc
 | .iface t x,v=>∃y,v=.iface t y/\Aa p x y
 | .nili,v=>v=.nilIface
 | .agg cs,v=>∃x,v=.agg x/\Ab p cs x.toList
 | .tup cs,v=>∃x,v=.tuple x/\Ab p cs x.toList
def Ab(p:Pl):List V->List Value->Prop
 |[],l=>l=[]
 |d::ds,l=>∃v vs,l=v::vs/\Aa p d v/\Ab p ds vs
end
@[simp] theorem Eb(p:Pl)(l:List Value):Ab p [] l↔l=[]:=by rfl
@[simp] theorem Ap(p:Pl)(d:V)(ds:List V)(v:Value)(vs:List Value):Ab p (d::ds) (v::vs)↔Aa p d v/\Ab p ds vs:=by
 simp only[Ab];grind
@[simp] theorem P4(p:Pl)(d:V)(ds:List V):¬Ab p (d::ds) []:=by
 simp[Ab]
theorem Ab.length{p:Pl}:∀ {ds:List V} {vs:List Value},Ab p ds vs->ds.length=vs.length
 |[],vs,h=>by simp_all
 |d::ds,[],h=>by simp at h
 |d::ds,v::vs,h=>by simp at h;simp[h.2.length]
theorem Ab.get{p:Pl}:∀ {ds:List V} {vs:List Value},Ab p ds vs->∀ {i:Nat} {d:V},ds[i]?=some d->∃v,vs[i]?=some v/\Aa p d v
 |[],vs,_,i,d,a=>by grind
 |d::ds,[],h,_,_,_=>by simp at h
 |d::ds,v::vs,h,i,x,a=>by
  simp at h;cases i with
  |zero=>grind
  |succ i=>simpa using h.2.get a
theorem Ab.mk{p:Pl}:∀ {ds:List V} {vs:List Value},ds.length=vs.length->(∀(i:Nat) d v,ds[i]?=some d->vs[i]?=some v->Aa p d v)->Ab p ds vs
 |[],[],_,_=>by simp
 |[],_::_,h,_=>by simp at h
 |_::_,[],h,_=>by simp at h
 |d::ds,v::vs,h,a=>by
  simp at h;rw[Ap];exact⟨a 0 d v rfl rfl,Ab.mk h<|fun i b v' c f=>a (i+1) b v' ae ae⟩
theorem Ab.append{p:Pl}:∀ {a:List V} {x:List Value} {b:List V} {y:List Value},Ab p a x->Ab p b y->Ab p (a++b) (x++y)
 |[],x,b,y,h,h'=>by simp_all
 |d::ds,[],_,_,h,_=>by simp at h
 |d::ds,v::vs,b,y,h,h'=>by simp at h;simp[h.1,h.2.append h']
theorem Ab.take{p:Pl}:∀ {a:List V} {x:List Value} (n:Nat),Ab p a x->Ab p (a.take n) (x.take n)
 |[],x,n,h=>by simp_all
 |d::ds,[],_,h=>by simp at h
 |d::ds,v::vs,0,h=>by simp
 |d::ds,v::vs,n+1,h=>by simp at h;simp[h.1,h.2.take n]
theorem Ab.drop{p:Pl}:∀ {a:List V} {x:List Value} (n:Nat),Ab p a x->Ab p (a.drop n) (x.drop n)
 |[],x,n,h=>by simp_all
 |d::ds,[],_,h=>by simp at h
 |d::ds,v::vs,0,h=>by grind
 |d::ds,v::vs,n+1,h=>by simp at h;simpa using h.2.drop n
theorem Ab.set{p:Pl}:∀ {a:List V} {x:List Value} (i:Nat) {d:V} {v:Value},Ab p a x->Aa p d v->Ab p (a.set i d) (x.set i v)
 |[],x,n,_,_,h,_=>by simp_all
 |d::ds,[],_,_,_,h,_=>by simp at h
 |d::ds,v::vs,0,_,_,h,h'=>by simp_all
 |d::ds,v::vs,n+1,_,_,h,h'=>by simp at h;simp[h.1,h.2.set n h']
mutual
theorem Aa.mono{p:Pl}(q:Pl):∀ {d:V} {v:Value},Aa p d v->Aa (p++q) d v
 | .bool _,_,h=>by simpa [Aa]using h
 | .int _ _,_,h=>by simpa [Aa]using h
 | .str _,_,h=>by simpa [Aa]using h
 | .nilp,_,h=>by simpa [Aa]using h
 | .ptr b off,v,h=>by
  grind [Aa]
 | .nils,_,h=>by simpa [Aa]using h
 | .sl b off len cap o,v,h=>by
  grind [Aa]
 | .esl,_,h=>by simpa [Aa]using h
 | .es0,_,h=>by simpa [Aa]using h
 | .junk,_,h=>by simp[Aa]at h
 | .nilm,_,h=>by simpa [Aa]using h
 | .map b,v,h=>by
  grind [Aa]
 | .fn f a b,v,h=>by
  obtain⟨x,y,rfl,c,g⟩:=h;exact⟨x,y,rfl,Ab.mono q c,Ab.mono q g⟩
 | .yld b,v,h=>by
  grind [Aa]
 | .nilf,_,h=>by simpa [Aa]using h
 | .iface t x,v,h=>by
  simp only[Aa]at h ⊢;obtain⟨y,rfl,c⟩:=h;simp_all [Aa.mono]
 | .nili,_,h=>by simpa [Aa]using h
 | .agg cs,v,h=>by
  simp only[Aa]at h ⊢;obtain⟨x,rfl,c⟩:=h;simp_all [Ab.mono]
 | .tup cs,v,h=>by
  simp only[Aa]at h ⊢;obtain⟨x,rfl,c⟩:=h;simp_all [Ab.mono]
theorem Ab.mono{p:Pl}(q:Pl):∀ {ds:List V} {vs:List Value},Ab p ds vs->Ab (p++q) ds vs
 |[],_,h=>by simp_all
 |_::_,[],h=>by simp at h
 |d::ds,v::vs,h=>by simp only[Ap]at h ⊢;exact⟨Aa.mono q h.1,Ab.mono q h.2⟩
end
structure Fr where
 n:Nat
 m:PM V
def Fr.get(f:Fr)(t:Nat):V:=(f.m.get t).getD<|.tup []
def Fr.put(f:Fr)(d:Option Nat)(v:V):Option Fr:=
 match d with
 |none=>some f
 |some t=>bif Zx t f.n then some ⟨f.n,f.m.set t<|some v⟩else none
def BP(p:Pl)(f:Fr)(tmps:Array Value):Prop:=f.n=tmps.size/\∀t,Aa p (f.get t)<|tmps.getD t undef
def AS(p:Pl)(f:Fr)(a:Act):Prop:=f.n=a.tmps.size/\∀t,Aa p (f.get t)<|a.tmps.getD t undef
theorem BP.mono{p:Pl}(q:Pl){f:Fr}{tmps:Array Value}(h:BP p f tmps):BP (p++q) f tmps:=⟨h.1,fun t=>(h.2 t).mono q⟩
structure LS where
 st:LoopState
 pend:Option Code
 fr:Fr
 ps:Array Tmp
 asg:Code
 body:Code
 db:Nat
inductive O where
 |cells (cs:List V) (elem:TypeId) (fz:Nat×Nat)
 |map (es:List (V×V×Nat)) (clock:Nat)
 |siter (s:Y) (pos:Nat)
 |miter (b:Option Nat) (since:Nat) (seen:List Nat) (last:Nat)
 |loop (l:LS)
 |defd (open_:Bool)
structure H where
 m:PM O
 nx:Nat
def H.get(h:H)(b:Nat):Option O:=h.m.get b
def H.push(h:H)(o:O):H:=⟨h.m.set h.nx<|some o,h.nx+1⟩
def H.put(h:H)(b:Nat)(o:O):H:=⟨h.m.set b<|some o,h.nx⟩
def H.kill(h:H)(b:Nat):H:=⟨h.m.set b none,h.nx⟩
@[simp] theorem H.AT(h:H)(o:O)(b:Nat):(h.push o).get b=if b=h.nx then some o else h.get b:=by simp[H.push,H.get]
@[simp] theorem H.AB(h:H)(b:Nat)(o:O)(j:Nat):(h.put b o).get j=if j=b then some o else h.get j:=by simp[H.put,H.get]
@[simp] theorem H.Bp(h:H)(b:Nat)(j:Nat):(h.kill b).get j=if j=b then none else h.get j:=by simp[H.kill,H.get]
@[simp] theorem H.Uq(h:H)(o:O):(h.push o).nx=h.nx+1:=rfl
@[simp] theorem H.SJ(h:H)(b:Nat)(o:O):(h.put b o).nx=h.nx:=rfl
@[simp] theorem H.MW(h:H)(b:Nat):(h.kill b).nx=h.nx:=rfl
inductive Bo (p:Pl):List (V×V×Nat)->List MapEntry->Prop
 |nil:Bo p [] []
 |cons {k v:V} {b:Nat} {es:List (V×V×Nat)} {e:MapEntry} {l:List MapEntry}:Aa p k e.key->Aa p v e.val->e.born=b->Bo p es l->Bo p ((k,v,b)::es) (e::l)
def V.ok:V->Bool
 | .junk=>false
 |_=>true
def BK(p:Pl)(cs:List V)(vs:List Value):Prop:=cs.length=vs.length/\∀(i:Nat) d v,cs[i]?=some d->vs[i]?=some v->d.ok=true->Aa p d v
theorem Ab.Ug{p:Pl}{cs:List V}{vs:List Value}(h:Ab p cs vs):BK p cs vs:=⟨h.length,fun i d v a f _=>by
 obtain⟨u,b,c⟩:=h.get a;grind⟩
theorem BK.get{p:Pl}{cs:List V}{vs:List Value}(h:BK p cs vs){i:Nat}{d:V}(b:cs[i]?=some d)(a:d.ok=true):∃v,vs[i]?=some v/\Aa p d v:=by
 have c:i<vs.length:=by rw[<-h.1];grind
 exact⟨vs[i],(by simp),h.2 i d _ b (by simp) a⟩
theorem BK.drop{p:Pl}{cs:List V}{vs:List Value}(h:BK p cs vs)(n:Nat):BK p (cs.drop n) (vs.drop n):=
 ⟨by simp[h.1],fun i d v a b=>h.2 (n+i) d v ae ae⟩
theorem BK.take{p:Pl}{cs:List V}{vs:List Value}(h:BK p cs vs)(n:Nat):BK p (cs.take n) (vs.take n):=
 ⟨by simp[h.1],fun i d v a b=>by
  have c:i<n:=ae
  rw[Zo c]at a b;exact h.2 i d v a b⟩
theorem BK.Gf{p:Pl}{cs:List V}{vs:List Value}(h:BK p cs vs)(c:∀d∈cs,d.ok=true):Ab p cs vs:=
 Ab.mk h.1 fun i d v a b=>h.2 i d v a b ae
def Ey(p:Pl)(n:Nat):O->Obj->Prop
 | .cells cs t fz,o=>∃(c:Array Value) (fz':Nat×Nat),o=.cells c t fz'/\c.size=n/\cs.length<=n/\BK p cs (c.toList.take cs.length)/\∀i,i<n->fz'.1<=i->i<fz'.2->fz.1<=i/\i<fz.2
 | .map es clock,o=>∃l:Array MapEntry,o=.map l clock/\Bo p es l.toList
 | .siter s pos,o=>o=.stringIter (bytesOf s) pos
 | .miter none since seen last,o=>o=.mapIter none since seen.toArray last
 | .miter (some b) since seen last,o=>∃r m,p[b]?=some (r,m)/\o=.mapIter (some r) since seen.toArray last
 | .loop l,o=>∃(fn:FuncId) (tmps:Array Value) (r m:Nat),BP p l.fr tmps/\p[l.db]?=some (r,m)/\o=.loop { state:=l.st,pending:=l.pend,fn,tmps,params:=l.ps,assign:=l.asg,body:=l.body,defers:=r }
 | .defd op,o=>o=.deferred (bif op then some []else none)
theorem BK.mono{p:Pl}(q:Pl){cs:List V}{vs:List Value}(h:BK p cs vs):BK (p++q) cs vs:=⟨h.1,fun i d v b c a=>(h.2 i d v b c a).mono q⟩
theorem Bo.mono{p:Pl}(q:Pl){es:List (V×V×Nat)}{l:List MapEntry}(h:Bo p es l):Bo (p++q) es l:=by
 induction h with
 |nil=>exact .nil
 |cons b d a _ c=>exact .cons (b.mono q) (d.mono q) a c
theorem Ey.mono{p:Pl}(q:Pl){n:Nat}{o:O}{x:Obj}(h:Ey p n o x):Ey (p++q) n o x:=by
 cases o with
 |cells cs t fz=>obtain⟨c,fz',d,a,g,k,f⟩:=h;exact⟨c,fz',d,a,g,k.mono q,f⟩
 |map es u=>obtain⟨l,d,a⟩:=h;exact⟨l,d,a.mono q⟩
 |siter s pos=>exact h
 |miter b since seen last=>
  cases b with
  |none=>exact h
  |some b=>
   obtain⟨r,m,d,a⟩:=h;exact⟨r,m,by grind,a⟩
 |loop l=>
  obtain⟨fn,tmps,r,m,h0,d,a⟩:=h;exact⟨fn,tmps,r,m,h0.mono q,by grind,a⟩
 |defd _=>exact h
structure R(p:Pl)(h:H)(w:World):Prop where
 len:p.length=h.nx
 obj:∀b o,h.get b=some o->∃r n x,p[b]?=some (r,n)/\w.heap[r]?=some x/\Ey p n o x
 inj:∀b b' o o' r n n',h.get b=some o->h.get b'=some o'->p[b]?=some (r,n)->p[b']?=some (r,n')->b=b'
def Im(p:Pl)(h:H)(r:Nat):Prop:=∃b o n,h.get b=some o/\p[b]?=some (r,n)
def Lk(n:Nat)(fz:Nat×Nat):Prop:=fz.1=0/\n<=fz.2/\0<fz.2
def UT(p:Pl)(h:H)(r:Nat):Prop:=∃b n cs t fz,h.get b=some (.cells cs t fz)/\p[b]?=some (r,n)/\Lk n fz
structure Ext(p:Pl)(h:H)(w:World)(p':Pl)(h':H)(w':World):Prop where
 pre:∃q,p'=p++q
 rel:R p' h' w'
 size:w.heap.size<=w'.heap.size
 same:∀r,r<w.heap.size->¬Im p h r->w'.heap[r]?=w.heap[r]?
 im:∀r,Im p' h' r->Im p h r\/w.heap.size<=r
 os:w'.os=w.os
 out:w'.output=w.output
 tape:w'.tape=w.tape
 lock:∀r,r<w.heap.size->UT p h r->w'.heap[r]?=w.heap[r]?/\(UT p' h' r\/¬Im p' h' r)
 dr:w.drawn<=w'.drawn
theorem Ext.refl{p:Pl}{h:H}{w:World}(a:R p h w):Ext p h w p h w:=
 ⟨(by simp),a,Ze _,(by simp),ae,rfl,rfl,rfl,ae,Ze _⟩
theorem Ext.trans{p d l:Pl}{h k o:H}{w g m:World}(a:Ext p h w d k g)(b:Ext d k g l o m):Ext p h w l o m:=by
 obtain⟨q,D⟩:=a.pre;obtain⟨q',hq'⟩:=b.pre;refine⟨ae,b.rel,ZO a.size b.size,fun r v y=>?_,fun r v=>?_,b.os.trans a.os,b.out.trans a.out,b.tape.trans a.tape,fun r s A=>?_,ZO a.dr b.dr⟩
 ·rw[b.same r (Nat.lt_of_lt_of_le v a.size) ?_,a.same r v y];intro c;rcases a.im r c with u|u
  ·grind
  ·omega
 ·rcases b.im r v with c|c
  ·exact a.im r c
  ·exact .inr<|ZO a.size c
 ·obtain⟨x,c⟩:=a.lock r s A;have f:=Nat.lt_of_lt_of_le s a.size;rcases c with c|c
  ·obtain⟨C,u⟩:=b.lock r f c;grind
  ·refine⟨(b.same r f c).trans x,.inr fun B=>?_⟩;rcases b.im r B with u|u
   ·grind
   ·omega
theorem Ext.O0{p p':Pl}{h h':H}{w w':World}(e:Ext p h w p' h' w'){d:V}{v:Value}(a:Aa p d v):Aa p' d v:=by
 obtain⟨q,rfl⟩:=e.pre;exact a.mono q
theorem Ext.drew{p:Pl}{h:H}{w:World}(a:R p h w)(n:Nat)(b:w.drawn<=n:=by omega):Ext p h w p h { w with drawn:=n }:=
 ⟨(by simp),⟨a.len,a.obj,a.inj⟩,Ze _,(by simp),ae,rfl,rfl,rfl,ae,b⟩
theorem R.lt{p:Pl}{h:H}{w:World}(a:R p h w){b:Nat}{o:O}(d:h.get b=some o):b<h.nx:=by
 obtain⟨r,n,x,c,_⟩:=a.obj b o d;have:=(Zk.1 c).1;have:=a.len;omega
theorem R.MK{p:Pl}{h:H}{w:World}(d:R p h w){r:Nat}(c:Im p h r):r<w.heap.size:=by
 obtain⟨b,o,n,a,f⟩:=c;obtain⟨r',n',x,h3,h4,_⟩:=d.obj b o a;grind
theorem Ext.push{p:Pl}{h:H}{w:World}(g:R p h w){o:O}{x:Obj}{n:Nat}(I:Ey p n o x):
  Ext p h w (p++[(w.heap.size,n)]) (h.push o) { w with heap:=w.heap.push x }:=by
 have N:∀b o',h.get b=some o'->b≠h.nx:=fun b o' a=>by have:=g.lt a;omega
 have u:(p++[(w.heap.size,n)])[h.nx]?=some (w.heap.size,n):=by rw[<-g.len];simp
 have f:∀b,b<h.nx->(p++[(w.heap.size,n)])[b]?=p[b]?:=ae;refine⟨⟨_,rfl⟩,⟨by simp[g.len],fun b o' a=>?_,fun b b' d k r m F a A l q=>?_⟩,by simp,fun r v _=>?_,fun r J=>?_,rfl,rfl,rfl,fun r v L=>?_,Ze _⟩
 ·rw[H.AT]at a;by_cases e:b=h.nx
  ·subst e;simp at a;subst a;exact⟨_,_,x,u,by simp,I.mono _⟩
  ·rw[w9 e]at a;obtain⟨r,m,y,l,q,K⟩:=g.obj b o' a;refine⟨r,m,y,by grind,?_,K.mono _⟩;grind
 ·have key:∀c o' r m,(h.push o).get c=some o'->(p++[(w.heap.size,n)])[c]?=some (r,m)->(c=h.nx/\r=w.heap.size)\/(h.get c=some o'/\p[c]?=some (r,m)/\r<w.heap.size):=by
   intro c o' r m s B;rw[H.AT]at s;by_cases e:c=h.nx
   ·grind
   ·rw[w9 e]at s;rw[f c<|g.lt s]at B;exact .inr ⟨s,B,g.MK ⟨c,o',m,s,B⟩⟩
  rcases key b d r m a l with⟨G,E⟩|⟨G,E,Q⟩<;>rcases key b' k r F A q with⟨C,D⟩|⟨C,D,V⟩
  ·omega
  ·omega
  ·omega
  ·exact g.inj b b' d k r m F G C E D
 ·grind
 ·obtain⟨b,o',m,l,q⟩:=J;rw[H.AT]at l;by_cases e:b=h.nx
  ·grind
  ·rw[w9 e]at l;rw[f b<|g.lt l]at q;exact .inl ⟨b,o',m,l,q⟩
 ·refine⟨by grind,.inl ?_⟩;obtain⟨b,m,cs,t,fz,U,S,M⟩:=L;refine⟨b,m,cs,t,fz,?_,?_,M⟩
  ·simp_all
  grind
theorem Ext.put{p:Pl}{h:H}{w w':World}(u:R p h w){b r n:Nat}{o o':O}{x':Obj}(q:h.get b=some o)(l:p[b]?=some (r,n))(M:Ey p n o' x')
  (K:w'.heap=w.heap.setIfInBounds r x') (F:w'.os=w.os) (D:w'.output=w.output) (Q:w'.tape=w.tape)
  (Y:∀cs t fz,o=.cells cs t fz->Lk n fz->w.heap[r]?=some x'/\∃cs' C,o'=.cells cs' C fz:=by intro _ _ _ h;cases h) (S:w.drawn<=w'.drawn:=by exact Nat.le_refl _):Ext p h w p (h.put b o') w':=by
 have L:r<w.heap.size:=u.MK ⟨b,o,n,q,l⟩;refine⟨(by simp),⟨u.len,fun c d a=>?_,fun c J d k s m U a B F D=>?_⟩,by simp[K],fun s W V=>?_,fun s N=>?_,F,D,Q,fun s W X=>?_,S⟩
 ·rw[H.AB]at a;by_cases e:c=b
  ·subst e;simp at a;subst a;exact⟨r,n,x',l,by grind,M⟩
  ·rw[w9 e]at a;obtain⟨s,m,y,f,v,Z⟩:=u.obj c d a;have x:r≠s:=fun E=>e<|u.inj c b d o s m n a q f<|E▸l
   grind
 ·have g:∀c d,(h.put b o').get c=some d->∃k,h.get c=some k:=by
   intro c d a;rw[H.AB]at a;grind
  obtain⟨_,f⟩:=g c d a;obtain⟨_,v⟩:=g J k B;exact u.inj c J _ _ s m U f v F D
 ·have x:r≠s:=fun e=>V<|e▸⟨b,o,n,q,l⟩
  grind
 ·obtain⟨c,d,m,f,v⟩:=N;rw[H.AB]at f;by_cases e:c=b
  ·subst e;exact .inl ⟨c,o,m,q,v⟩
  ·rw[w9 e]at f;exact .inl ⟨c,d,m,f,v⟩
 ·obtain⟨c,m,cs,t,fz,G,A,I⟩:=X;by_cases e:c=b
  ·subst e;rw[l]at A;cases A;rw[q]at G;cases G;obtain⟨f,cs',C,rfl⟩:=Y cs t fz rfl I;refine⟨?_,.inl ⟨c,n,cs',C,fz,by simp,l,I⟩⟩;grind
  ·have x:r≠s:=fun E=>e<|u.inj c b _ o s m n G q A<|E▸l
   refine⟨by grind,.inl ⟨c,m,cs,t,fz,by simp_all,A,I⟩⟩
theorem R.kill{p:Pl}{h:H}{w:World}(a:R p h w)(b:Nat):R p (h.kill b) w:=by
 have sub:∀c o,(h.kill b).get c=some o->h.get c=some o:=by
  simp
 exact⟨a.len,fun c o d=>a.obj c o<|sub c o d,fun c g o o' r n n' d f=>a.inj c g o o' r n n' (sub c o d) ae⟩
theorem Ext.kill{p:Pl}{h:H}{w:World}(k:R p h w)(b:Nat):Ext p h w p (h.kill b) w:=by
 refine⟨(by simp),k.kill b,Ze _,(by simp),fun r y=>?_,rfl,rfl,rfl,fun r q A=>⟨rfl,?_⟩,Ze _⟩
 ·obtain⟨c,o,n,d,u⟩:=y;rw[H.Bp]at d;split at d
  ·cases d
  ·exact .inl ⟨c,o,n,d,u⟩
 ·obtain⟨c,m,cs,t,fz,v,g,B⟩:=A;by_cases e:c=b
  ·subst e;refine .inr ?_;rintro⟨s,o',x,a,l⟩;rw[H.Bp]at a;split at a
   ·cases a
   ·rename_i f;exact f<|k.inj s c _ _ r x m a v l g
  ·exact .inl ⟨c,m,cs,t,fz,by simp_all,g,B⟩
theorem Ext.move{p:Pl}{h:H}{w w':World}(l:R p h w){b r n:Nat}{o o':O}{x':Obj}(B:h.get b=some o)(C:p[b]?=some (r,n))(S:Ey p n o' x')
  (M:w'.heap=w.heap.setIfInBounds r x') (U:w'.os=w.os) (N:w'.output=w.output) (X:w'.tape=w.tape) (hk:∀cs t fz,o=.cells cs t fz->¬Lk n fz) (Z:w.drawn<=w'.drawn:=by exact Nat.le_refl _):Ext p h w (p++[(r,n)]) ((h.kill b).push o') w':=by
 have Q:r<w.heap.size:=l.MK ⟨b,o,n,B,C⟩;have k:(p++[(r,n)])[h.nx]?=some (r,n):=by rw[<-l.len];simp
 have g:∀b,b<h.nx->(p++[(r,n)])[b]?=p[b]?:=ae;have d:∀c a,((h.kill b).push o').get c=some a->(c=h.nx/\a=o')\/(c≠b/\c<h.nx/\h.get c=some a):=by
  intro c a f;rw[H.AT,H.MW,H.Bp]at f;by_cases e:c=h.nx
  ·grind
  ·rw[w9 e]at f;by_cases q:c=b
   ·grind
   ·rw[w9 q]at f;exact .inr ⟨q,l.lt f,f⟩
 have ne:∀c a s m,c≠b->h.get c=some a->p[c]?=some (s,m)->r≠s:=fun c a s m f L G e=>f<|l.inj c b a o s m n L B G<|e▸C
 refine⟨⟨_,rfl⟩,⟨by simp[l.len],fun c a f=>?_,fun c E a x s m m' f D J I=>?_⟩,by simp[M],fun s G hn=>?_,fun s W=>?_,U,N,X,fun s G hl=>?_,Z⟩
 ·rcases d c a f with⟨rfl,rfl⟩|⟨K,q,v⟩
  ·exact⟨r,n,x',k,by grind,S.mono _⟩
  ·obtain⟨s,m,y,A,u,F⟩:=l.obj c a v;refine⟨s,m,y,by grind,?_,F.mono _⟩;grind
 ·rcases d c a f with⟨rfl,rfl⟩|⟨K,q,v⟩<;>rcases d E x D with⟨rfl,rfl⟩|⟨f1,Y,f3⟩
  ·rfl
  ·grind
  ·grind
  ·rw[g c q]at J;rw[g E Y]at I;exact l.inj c E a x s m m' v f3 J I
 ·have hne:r≠s:=fun e=>hn<|e▸⟨b,o,n,B,C⟩
  grind
 ·obtain⟨c,a,m,A,u⟩:=W;rcases d c a A with⟨rfl,rfl⟩|⟨K,q,v⟩
  ·rw[k]at u;cases u;exact .inl ⟨b,o,n,B,C⟩
  ·rw[g c q]at u;exact .inl ⟨c,a,m,v,u⟩
 ·obtain⟨c,m,cs,t,fz,A,u,F⟩:=hl;by_cases e:c=b
  ·grind
  ·have V:=l.lt A;refine⟨by grind,.inl ⟨c,m,cs,t,fz,?_,by grind,F⟩⟩;rw[H.AT,H.MW,w9 a8,H.Bp,w9 e];exact A
end
def TM(l:List Nat):List V:=l.map fun n=>.int .u64<|.ofNat n
def CG:List (Nat×O):=[(7,.cells (TM [1,10,100,1000,10000,100000,1000000,10000000,100000000,1000000000,10000000000,100000000000,1000000000000,10000000000000,100000000000000,1000000000000000,10000000000000000,100000000000000000,1000000000000000000,10000000000000000000]) 272 (0,20))]
mutual
def V.flat:V->Bool
 | .bool _| .int _ _| .str _| .nilp| .nils| .nilm| .nilf| .nili=>true
 | .agg l| .tup l=>V.Dy l
 |_=>false
def V.Dy:List V->Bool
 |[]=>true
 |v::vs=>v.flat&&V.Dy vs
end
mutual
theorem V.A8{p q:Pl}:∀ {v:V} {v':Value},v.flat=true->Aa p v v'->Aa q v v'
 | .bool _,_,_,h| .int _ _,_,_,h| .str _,_,_,h| .nilp,_,_,h| .nils,_,_,h| .nilm,_,_,h| .nilf,_,_,h| .nili,_,_,h=>by simpa [Aa]using h
 | .agg l,_,a,h=>by
  obtain⟨x,rfl,b⟩:=h;exact⟨x,rfl,V.Ed (by simpa [V.flat]using a) b⟩
 | .tup l,_,a,h=>by
  obtain⟨x,rfl,b⟩:=h;exact⟨x,rfl,V.Ed (by simpa [V.flat]using a) b⟩
 | .ptr _ _,_,a,_| .sl _ _ _ _ _,_,a,_| .map _,_,a,_| .fn _ _ _,_,a,_| .yld _,_,a,_| .iface _ _,_,a,_=>by simp[V.flat]at a
theorem V.Ed{p q:Pl}:∀ {v:List V} {v':List Value},V.Dy v=true->Ab p v v'->Ab q v v'
 |[],_,_,h=>by simp_all
 |_::_,[],_,h=>by simp at h
 |v::vs,x::b,a,h=>by
  simp only[V.Dy,Zl]at a;rw[Ap]at h ⊢;exact⟨V.A8 a.1 h.1,V.Ed a.2 h.2⟩
end
def UO:O->Nat
 | .cells cs _ _=>cs.length
 |_=>0
def TT(g:Nat):List (Nat×O)->Bool
 |[]=>false
 |(i,_)::l=>bif Zf i g then true else TT g l
def T5:List (Nat×O)->PM O
 |[]=>.leaf
 |(i,o)::l=>(T5 l).set i<|some o
def Ht:List (Nat×O)->Nat
 |[]=>0
 |(i,_)::l=>bif Zi (i+1) (Ht l)then Ht l else i+1
def hG:H:=⟨T5 CG,Ht CG⟩
def Up:List (Nat×O)->Bool
 |[]=>true
 |(_,.cells cs _ (a,b))::l=>V.Dy cs&&Zf a 0&&Zf b cs.length&&Zx 0 b&&Up l
 |_=>false
theorem Mo:Up CG=true:=by rfl
theorem Mt{g:Nat}:∀ {l:List (Nat×O)},TT g l=true->∃o,(g,o)∈l
 |[],h=>by cases h
 |(i,o)::l,h=>by
  unfold TT at h;cases a:Zf i g with
  |true=>simp_all
  |false=>
   rw[a]at h;obtain⟨o',b⟩:=Mt h;grind
theorem Jc:∀ {l:List (Nat×O)},Up l=true->∀x∈l,∃cs t,x.2=.cells cs t (0,cs.length)/\V.Dy cs=true/\0<cs.length
 |[],_,x,c=>by cases c
 |(i,.cells cs t (a,b))::l,h,x,c=>by
  simp only[Up,Zl]at h;obtain⟨⟨⟨⟨k,f⟩,d⟩,m⟩,g⟩:=h;rcases List.mem_cons.1 c with rfl|c
  ·have f:a=0:=by simp_all
   have d:b=cs.length:=by simp_all
   subst f d;exact⟨cs,t,rfl,k,(by simp_all)⟩
  ·exact Jc g x c
theorem E8:∀ {l:List (Nat×O)} {b:Nat} {o:O},(T5 l).get b=some o->(b,o)∈l
 |[],b,o,h=>by simp[T5]at h
 |(i,o')::l,b,o,h=>by
  simp only[T5,PM.Bd]at h;by_cases e:b=i
  ·grind
  ·rw[w9 e]at h;exact List.mem_cons_of_mem _<|E8 h
theorem MV{n:Nat}:∀ {l:List (Nat×O)},(∀x∈l,x.1<n)->Ht l<=n
 |[],_=>Nat.zero_le _
 |(i,o)::l,h=>by
  have a:=h (i,o) (by simp);have c:=MV (l:=l) fun x b=>h x ae
  grind [Ht]
theorem JF:∀ {l:List (Nat×O)},∀x∈l,x.1<Ht l
 |[],x,a=>by cases a
 |(i,o)::l,x,a=>by
  unfold Ht;rcases List.mem_cons.1 a with rfl|a
  ·cases b:Zi (i+1) (Ht l)with
   |true=>have:=Nat.le_of_ble_eq_true b;grind
   |false=>simp
  ·have:=JF (l:=l) x a;grind [Nat.ble_eq_true_of_le]
def Gp(p:Pl):Prop:=∀x∈CG,p[x.1]?=some (x.1,UO x.2)
def Gh(h:H):Prop:=∀x∈CG,h.get x.1=some x.2
theorem Gp.app{p:Pl}(h:Gp p)(q:Pl):Gp (p++q):=fun x a=>by
 have:=h x a;grind
theorem Gp.top{p:Pl}(h:Gp p):Ht CG<=p.length:=MV fun x a=>(Zk.1<|h x a).1
theorem Gp.take{p:Pl}(h:Gp p):Gp (p.take<|Ht CG):=fun x a=>by
 rw[Zo<|JF x a];exact h x a
theorem BK.flat{p q:Pl}{cs:List V}{vs:List Value}(g:V.Dy cs=true)(h:BK p cs vs):BK q cs vs:=
 ⟨h.1,fun i d v b f c=>V.A8 (by
  have:=List.mem_of_getElem? b;clear h b f c;induction cs with
  |nil=>grind
  |cons a cs k=>
   simp only[V.Dy,Zl]at g;grind)<|h.2 i d v b f c⟩
theorem Si{p:Pl}{h:H}{w:World}(v:R p h w)(g:Gp p)(m:Gh h):R (p.take<|Ht CG) hG w:=by
 refine⟨by rw[List.length_take,Nat.min_eq_left g.top];rfl,fun b o d=>?_,fun b b' o o' r n n' d f l k=>?_⟩
 ·have a:=E8 d;obtain⟨cs,t,e,q,B⟩:=Jc Mo _ a;obtain⟨r,n,x,l,k,h3⟩:=v.obj b o<|m _ a;refine⟨r,n,x,by rw[Zo<|JF _ a];exact l,k,?_⟩;subst e;obtain⟨c,fz',k1,k2,k3,k4,k5⟩:=h3;exact⟨c,fz',k1,k2,k3,k4.flat q,k5⟩
 ·have u:=E8 d;have s:=E8 f;have A:=g.take _ u;have y:=g.take _ s;grind
theorem Ext.CG{p:Pl}{w w':World}{p':Pl}{h':H}(l:Gp p)(k:Ext p hG w p' h' w')(r:Nat)(g:r<w.heap.size):w'.heap[r]?=w.heap[r]?:=by
 by_cases f:Im p hG r
 ·obtain⟨b,o,n,c,d⟩:=f;have a:=E8 c;obtain⟨cs,t,e,hf,hl⟩:=Jc Mo _ a;subst e;have:=l _ a;rw[this]at d;cases d;exact(k.lock _ g ⟨_,_,_,_,_,c,this,rfl,Ze _,hl⟩).1
 ·exact k.same r g f
section
variable {p:Pl}
def V.cells:V->List V
 | .agg cs=>cs
 |v=>[v]
theorem Aa.cells{d:V}{v:Value}(f:Aa p d v):Ab p d.cells v.cells.toList:=by
 cases d<;>simp only[V.cells]<;>simp only[Aa]at f
 case agg cs=>obtain⟨x,rfl,b⟩:=f;exact b
 case bool=>simp_all [Zh,Aa]
 case int=>simp_all [Zh,Aa]
 case str=>simp_all [Zh,Aa]
 case nilp=>simp_all [Zh,Aa]
 case nils=>simp_all [Zh,Aa]
 case nilm=>simp_all [Zh,Aa]
 case nilf=>simp_all [Zh,Aa]
 case nili=>simp_all [Zh,Aa]
 case ptr=>obtain⟨r,n,b,rfl⟩:=f;simp[Zh,Aa,b]
 case esl=>obtain⟨a,c,rfl⟩:=f;simp[Zh,Aa]
 case es0=>obtain⟨a,rfl⟩:=f;simp[Zh,Aa]
 case sl=>obtain⟨r,n,c,b,rfl,g⟩:=f;simp only[Zh,Ap,Eb,wh];simp only[Aa];grind
 case map=>obtain⟨r,n,b,rfl⟩:=f;simp[Zh,Aa,b]
 case yld=>obtain⟨r,n,b,rfl⟩:=f;simp[Zh,Aa,b]
 case fn=>obtain⟨x,y,rfl,b,g⟩:=f;simp only[Zh,Ap,Eb,wh];simp only[Aa];grind
 case iface=>obtain⟨y,rfl,b⟩:=f;simp_all [Zh,Aa]
 case tup=>obtain⟨x,rfl,b⟩:=f;simp_all [Zh,Aa]
end
structure TI where
 size:Nat
 bytes:Nat
 zv:V
def TI.zero(i:TI):List V:=i.zv.cells
inductive FK where
 |bool
 |str
 |int (k:IntKind)
def FK.ok:FK->V->Bool
 | .bool,.bool _=>true
 | .str,.str _=>true
 | .int k,.int a _=>k==a
 |_,_=>false
def fit:List FK->List V->Bool
 |[],[]=>true
 |k::ks,v::vs=>bif k.ok v then fit ks vs else false
 |_,_=>false
structure AF where
 und:TypeId->Option TypeDesc
 inf:TypeId->Option TI
 flat:TypeId->Option (List FK)
 mth:TypeId->String->Option FuncId
def BH:V->V->Option Bool
 | .bool a,.bool b=>some<|a==b
 | .int k a,.int c b=>if k=c then some (a==b)else none
 | .str a,.str b=>some<|a==b
 |_,_=>none
def Az:List V->List V->Option Bool
 |[],[]=>some true
 |a::c,b::d=>
  match BH a b with
  |some true=>Az c d
  |some false=>if c.length=d.length then some false else none
  |none=>none
 |_,_=>none
structure AF.Ok(T:AF)(P:Program):Prop where
 und:∀t d,T.und t=some d->P.underlying t=some d
 inf:∀t i,T.inf t=some i->∃j v,P.info? t=some j/\j.size=i.size/\j.bytes=i.bytes/\j.zero=some v/\∀p,Aa p i.zv v
 flat:∀t ks,T.flat t=some ks->∀(p:Pl) (x y:List V) (x' y':Array Value) (r:Bool) (w:World),fit ks x=true->fit ks y=true->Ab p x x'.toList->Ab p y y'.toList->Az x y=some r->
  (ZT t (.agg x') (.agg y')).run P w=.ok r w
 guard:∀t ks,T.flat t=some ks->P.eqGuardType P.depth t=false
 key:∀t ks,T.flat t=some ks->∀(p:Pl) (x:List V) (x':Array Value) (b:Bool) (w:World),fit ks x=true->Ab p x x'.toList->(ZJ b 10000 t (.agg x')).run P w=.ok () w
 kind:∀t ks,T.flat t=some ks->∃fs,T.und t=some (.struct fs)
 mth:∀t name f,T.mth t name=some f->∃j m d,P.info? t=some j/\j.methods.find? (·.name==name)=some m/\m.path= #[]/\m.func=some (f,false)/\P.underlying t=some d/\∀e,d≠ .pointer e
section
variable {T:AF}{P:Program}{p:Pl}{h:H}{w:World}
theorem Ac(a:T.Ok P){t:TypeId}{d:TypeDesc}(b:T.und t=some d):(underlying t).run P w=.ok d w:=by
 unfold underlying;simp[a.und t d b]
theorem Ao(a:T.Ok P){t:TypeId}{i:TI}(b:T.inf t=some i):(sizeOf t).run P w=.ok i.size w:=by
 obtain⟨j,v,c,d,_⟩:=a.inf t i b;simp_all [sizeOf,typeInfo]
theorem Hf(a:T.Ok P){t:TypeId}{i:TI}(b:T.inf t=some i):∃j,(∀w,(typeInfo t).run P w=.ok j w)/\j.bytes=i.bytes/\j.size=i.size:=by
 obtain⟨j,v,d,f,c,_⟩:=a.inf t i b;simp_all [typeInfo]
theorem BL(a:T.Ok P){t:TypeId}{i:TI}(b:T.inf t=some i):∃v,(∀w,(zeroValue t).run P w=.ok v w)/\∀p,Ab p i.zero v.cells.toList:=by
 obtain⟨j,v,g,k,d,f,c⟩:=a.inf t i b;exact⟨v,(by simp_all [zeroValue,typeInfo]),fun p=>(c p).cells⟩
theorem SV(a:T.Ok P){t:TypeId}{i:TI}(b:T.inf t=some i):∃v,(∀w,(zeroValue t).run P w=.ok v w)/\∀p,Aa p i.zv v:=by
 obtain⟨j,v,f,g,c,d,k⟩:=a.inf t i b;simp_all [zeroValue,typeInfo]
def BC:TypeDesc->Bool
 | .struct _| .array _ _=>true
 |_=>false
theorem IK(a:T.Ok P){t:TypeId}{d:TypeDesc}(b:T.und t=some d):(isAgg t).run P w=.ok (BC d) w:=by
 unfold isAgg;rw[Zb,Ac a b];cases d<;>simp[BC]
def V.one:V->Bool
 | .agg _| .tup _| .junk=>false
 |_=>true
theorem V.Fi{d:V}(h:d.one=true):d.ok=true:=by cases d<;>first|rfl|cases h
theorem Aa.one{d:V}{v:Value}(b:Aa p d v)(f:d.one=true):v.oneCell'=true:=by
 cases d<;>simp only[V.one]at f<;>simp only[Aa]at b
 case agg|tup=>cases f
 case ptr=>obtain⟨r,n,_,rfl⟩:=b;rfl
 case esl=>obtain⟨a,c,rfl⟩:=b;rfl
 case es0=>obtain⟨a,rfl⟩:=b;rfl
 case sl=>obtain⟨r,n,c,_,rfl,_⟩:=b;rfl
 case map=>obtain⟨r,n,_,rfl⟩:=b;rfl
 case yld=>obtain⟨r,n,_,rfl⟩:=b;rfl
 case fn=>obtain⟨x,y,rfl,_,_⟩:=b;rfl
 case iface=>obtain⟨y,rfl,_⟩:=b;rfl
 all_goals subst b;rfl
@[simp] theorem Addr.Fm(r off n:Nat):Addr.add ⟨r,off,none⟩ n=⟨r,off+n,none⟩:=by
 unfold Addr.add;simp
def Tj(h:H)(b off n:Nat):Option (List V):=
 match h.get b with
 |some (.cells cs _ _)=>if off+n<=cs.length/\((cs.drop off).take n).all V.ok=true then some ((cs.drop off).take n)else none
 |_=>none
def rd(h:H)(b off n:Nat):Option (List V):=
 match h.get b with
 |some (.cells cs _ _)=>bif Zi (Nat.add off n) (B1 cs)&&E0 V.ok (KH n<|DJ off cs)then some (KH n<|DJ off cs)else none
 |_=>none
theorem MZ:rd=Tj:=by
 funext h b off n
 unfold rd Tj;split
 ·rw[A9,DN,DE,Cc];simp
 ·rfl
theorem cell_of(d:R p h w){b:Nat}{cs:List V}{t:TypeId}{fz:Nat×Nat}(a:h.get b=some (.cells cs t fz)):
  ∃r n c fz',p[b]?=some (r,n)/\w.heap[r]?=some (.cells c t fz')/\c.size=n/\cs.length<=n/\BK p cs (c.toList.take cs.length)/\(∀i,w.cell? ⟨r,i,none⟩=c[i]?)/\
   ∀i,i<n->fz'.1<=i->i<fz'.2->fz.1<=i/\i<fz.2:=by
 obtain⟨r,n,x,q,l,c,fz',g,k,m,f,o⟩:=d.obj b _ a;grind [World.cell?]
theorem Ic{a:Addr}{v:Value}(b:w.cell? a=some v):(load a).run P w=.ok v w:=by simp[b]
theorem run_loadCellsFrom{a:Addr}:∀(n i:Nat) (b:Array Value) (vs:List Value),vs.length=n->(∀j v,vs[j]?=some v->w.cell? (a.add<|i+j)=some v)->
  (loadCellsFrom a i n b).run P w=.ok (b++vs.toArray) w
 |0,i,b,vs,d,_=>by
  simp_all [loadCellsFrom]
 |n+1,i,b,[],d,_=>by grind
 |n+1,i,b,v::vs,d,c=>by
  unfold loadCellsFrom;rw[Zb,Ic (a:=a.add i) (by have:=c 0 v rfl;simpa using this)];simp only[Za];rw[run_loadCellsFrom n (i+1) (b.push v) vs ae (fun j u f=>by
   have:=c (j+1) u ae;grind)]
  simp
theorem run_loadCells(s:R p h w){b off n:Nat}{k:List V}(d:rd h b off n=some k):
  ∃r m vs,p[b]?=some (r,m)/\(loadCells ⟨r,off,none⟩ n).run P w=.ok vs.toArray w/\Ab p k vs/\vs.length=n/\∀i v,vs[i]?=some v->w.cell? ⟨r,off+i,none⟩=some v:=by
 rw[MZ]at d;unfold Tj at d;split at d
 case h_2=>cases d
 rename_i cs t fz l;split at d
 case isFalse=>cases d
 cases d;obtain⟨r,m,c,_,q,A,x,y,o,u,_⟩:=cell_of s l;have g:Ab p ((cs.drop off).take n) ((c.toList.take cs.length).drop off|>.take n):=((o.drop off).take n).Gf ae;have a:((c.toList.take cs.length).drop off|>.take n).length=n:=ae
 have f:∀i v,((c.toList.take cs.length).drop off|>.take n)[i]?=some v->w.cell? ⟨r,off+i,none⟩=some v:=by
  grind
 refine⟨r,m,_,q,?_,g,a,f⟩;unfold loadCells;rw[run_loadCellsFrom n 0 #[] _ a (by simp_all)];simp
def B6(T:AF)(h:H)(t:TypeId)(a:V):Option V:=
 match a,T.und t,T.inf t with
 | .ptr b off,some d,some i=>
  bif BC d then(rd h b off i.size).map .agg
  else match rd h b off 1 with
   |some (v::_)=>some v
   |_=>none
 |_,_,_=>none
theorem KM(l:T.Ok P)(A:R p h w){t:TypeId}{a v:V}{x:Value}(y:Aa p a x)(c:B6 T h t a=some v):
  ∃v',(Instr.loadAt t x).run P w=.ok v' w/\Aa p v v':=by
 unfold B6 at c;split at c
 case h_2=>cases c
 rename_i b off d i D C;simp only[Aa]at y;obtain⟨r,n,s,rfl⟩:=y;unfold Instr.loadAt ZD;simp only[Zb,Zd,Za];unfold loadVar;simp only[Zb];rw[IK l D];simp only[Za];cases f:BC d with
 |true=>
  simp only[f,wb]at c;rw[Zg]at c;obtain⟨G,k,rfl⟩:=c;obtain⟨E,m,vs,g,o,q,_⟩:=run_loadCells (P:=P) A k;rw[s]at g;cases g;simp only[wg,Zb,Ao l C,Za,o,Zd];simp_all [Aa]
 |false=>
  simp only[f,wc]at c;split at c
  case h_2=>cases c
  rename_i v0 F k;cases c;obtain⟨E,m,vs,g,o,q,I,B⟩:=run_loadCells (P:=P) A k;rw[s]at g;cases g;cases vs with
  |nil=>grind
  |cons u J=>
   simp at q;simp only[Zn,wi];have:=B 0 u rfl;simp_all
def CY:List V->Nat->List V->List V
 |cs,_,[]=>cs
 |cs,off,v::vs=>CY (cs.set off v) (off+1) vs
@[simp] theorem DD:∀(vs:List V) (cs:List V) (off:Nat),(CY cs off vs).length=cs.length
 |[],_,_=>rfl
 |v::vs,cs,off=>by simp[CY,DD vs]
def clear(fz:Nat×Nat)(off n:Nat):Bool:=Zi fz.2 off||Zi (off+n) fz.1||Zi fz.2 fz.1
def Uz(h:H)(b off:Nat)(vs:List V):Option H:=
 match h.get b with
 |some (.cells cs t fz)=>bif Zi (off+vs.length) cs.length&&clear fz off vs.length&&vs.all V.one then some (h.put b<|.cells (CY cs off vs) t fz)else none
 |_=>none
theorem FF(a:V):∀(vs cs:List V) (off:Nat),CY (a::cs) (off+1) vs=a::CY cs off vs
 |[],cs,off=>rfl
 |v::vs,cs,off=>by
  show CY ((a::cs).set (off+1) v) (off+1+1) vs=a::CY (cs.set off v) (off+1) vs;rw[List.set_cons_succ,FF a vs]
theorem HV:∀(vs:List V) (off:Nat),CY [] off vs=[]
 |[],_=>rfl
 |v::vs,off=>by show CY ([].set off v) (off+1) vs=[];rw[List.set_nil,HV vs]
theorem Ki:∀(vs cs:List V),Eu vs cs=CY cs 0 vs
 |[],cs=>rfl
 |v::vs,[]=>(HV _ _).symm
 |v::vs,c::cs=>by
  show v::Eu vs cs=CY ((c::cs).set 0 v) (0+1) vs;rw[List.set_cons_zero,FF,Ki vs cs]
theorem D6(vs:List V):∀(off:Nat) (cs:List V),AR off vs cs=CY cs off vs
 |0,cs=>Ki vs cs
 |off+1,[]=>(HV _ _).symm
 |off+1,c::cs=>by rw[FF];exact we (c:: ·)<|D6 vs off cs
def wr(h:H)(b off:Nat)(vs:List V):Option H:=
 match h.get b with
 |some (.cells cs t fz)=>bif Zi (Nat.add off<|B1 vs) (B1 cs)&&clear fz off (B1 vs)&&E0 V.one vs then some (h.put b<|.cells (AR off vs cs) t fz)else none
 |_=>none
theorem T0:wr=Uz:=by
 grind [wr,Uz,A9,Cc,D6]
theorem OW(a:Array Obj)(i:Nat)(x:Obj)(j:Nat):(a.setIfInBounds i x)[j]?=if i=j/\j<a.size then some x else a[j]?:=by
 grind
theorem OB{a:Array Obj}{i:Nat}{x:Obj}(h:a[i]?=some x):a.setIfInBounds i x=a:=by
 grind
theorem HW{a:Array Obj}{i:Nat}{f:Obj->Obj}{x:Obj}(h:a[i]?=some x):a.modify i f=a.setIfInBounds i (f x):=by
 grind
theorem setCell_eq{w:World}{r off:Nat}{c:Array Value}{t:TypeId}{fz:Nat×Nat}(v:Value)(a:w.heap[r]?=some (.cells c t fz)):
  w.setCell ⟨r,off,none⟩ v={ w with heap:=w.heap.setIfInBounds r (.cells (c.setIfInBounds off v) t fz) }:=by
 grind [World.setCell,HW]
theorem Ck{r:Nat}{t:TypeId}{fz:Nat×Nat}:∀(vs:List Value) (w:World) (c:Array Value) (off i:Nat),w.heap[r]?=some (.cells c t fz)->off+i+vs.length<=c.size->
  (∀v∈vs,v.oneCell'=true)->(∀j,i<=j->j<i+vs.length->¬(fz.1<=off+j/\off+j<fz.2))->
  ∃a:Array Value,(storeCells ⟨r,off,none⟩ vs i).run P w=.ok () { w with heap:=w.heap.setIfInBounds r (.cells a t fz) }/\a.size=c.size/\
   a.toList=(List.range c.size).map (fun j=>if off+i<=j/\j<off+i+vs.length then vs.getD (j-(off+i)) default else c.toList.getD j default)
 |[],w,c,off,i,b,_,_,_=>by
  refine⟨c,?_,rfl,?_⟩
  ·simp_all [storeCells,OB]
  ·apply List.ext_getElem (by simp);grind
 |v::vs,w,c,off,i,b,g,l,k=>by
  simp at g;have f:w.cell? ⟨r,off+i,none⟩=some (c[off+i]'a8):=by simp[World.cell?,b]
  have u:w.frozen? ⟨r,off+i,none⟩=false:=by
   simp_all [World.frozen?]
  have m:=setCell_eq (off:=off+i) v b;have d:=(Array.getElem?_eq_some_iff.1 b).1;obtain⟨a,B,A,o⟩:=Ck vs { w with heap:=w.heap.setIfInBounds r (.cells (c.setIfInBounds (off+i) v) t fz) } (c.setIfInBounds (off+i) v) off (i+1)
   (by rw[OW,wa ⟨rfl,d⟩]) ae ae (fun j x q=>k j a8 ae)
  refine⟨a,?_,by grind,?_⟩
  ·simp_all [storeCells,run_store]
  ·rw[o];apply List.ext_getElem (by simp);intro j s y;simp at s;simp only[List.getElem_map,List.getElem_range,List.length_cons];grind
theorem G5:∀(vs cs:List V) (off j:Nat),off+vs.length<=cs.length->(CY cs off vs)[j]?=if off<=j/\j<off+vs.length then vs[j-off]? else cs[j]?
 |[],cs,off,j,_=>by rw[w9<|by simp];rfl
 |v::vs,cs,off,j,a=>by
  unfold CY;rw[G5 vs (cs.set off v) (off+1) j ae];grind
theorem IW(G:R p h w){b off:Nat}{f:List V}{vs:List Value}(A:Ab p f vs){h':H}(k:wr h b off f=some h'):
  ∃r m w',p[b]?=some (r,m)/\(storeCells ⟨r,off,none⟩ vs).run P w=.ok () w'/\Ext p h w p h' w':=by
 rw[T0]at k;unfold Uz at k;split at k
 case h_2=>cases k
 rename_i cs t fz C;cases s:(Zi (off+f.length) cs.length&&clear fz off f.length&&f.all V.one)with
 |false=>grind
 |true=>
  simp only[s,wb,Zc]at k;subst k;simp only[Zl,Zy,List.all_eq_true]at s;obtain⟨⟨c1,F⟩,S⟩:=s;obtain⟨r,m,c,fz',h1,h2,h3,h4,h5,h6,h7⟩:=cell_of G C;have hl:=A.length;have o:∀v∈vs,v.oneCell'=true:=by
   intro v E;obtain⟨i,D⟩:=List.mem_iff_getElem?.1 E;have M:=(Zk.1 D).1;obtain⟨u,a,g⟩:=A.get (i:=i) (d:=f[i]'a8) (by simp);rw[D]at a;cases a;exact g.one ae
  have x:∀j,0<=j->j<0+vs.length->¬(fz'.1<=off+j/\off+j<fz'.2):=by
   rintro j _ X ⟨O,I⟩;have:=h7 (off+j) a8 O I;simp only[clear,ZR,Zy]at F;omega
  obtain⟨B,J,Q,W⟩:=Ck (P:=P) vs w c off 0 h2 a8 o x;refine⟨r,m,_,h1,J,Ext.put G C h1 ?_ rfl rfl rfl rfl (fun N t1 K Z q=>?_)⟩
  case refine_2=>
   obtain⟨l1,U,Y⟩:=q;simp only[clear,ZR,Zy]at F;have L:B=c:=by
    apply Array.ext';apply List.ext_getElem?;grind
   grind
  refine⟨B,fz',rfl,by omega,by simp_all,?_,h7⟩;refine⟨by simp;omega,?_⟩;intro i d v l E y;rw[G5 f cs off i a8]at l;by_cases e:off<=i/\i<off+f.length
  ·rw[wa e]at l;obtain⟨u,a,g⟩:=A.get l;grind
  ·rw[w9 e]at l;obtain⟨u,a,g⟩:=h5.get l y;grind
def Db(T:AF)(h:H)(t:TypeId)(a x:V):Option H:=
 match a,T.inf t with
 | .ptr b off,some i=>bif Zf x.cells.length i.size then wr h b off x.cells else none
 |_,_=>none
theorem Nn(g:T.Ok P)(q:R p h w){t:TypeId}{a x:V}{f x':Value}(l:Aa p a f)(d:Aa p x x'){h':H}(c:Db T h t a x=some h'):
  ∃w',(Instr.storeAt t f x').run P w=.ok () w'/\Ext p h w p h' w':=by
 unfold Db at c;split at c
 case h_2=>cases c
 rename_i b off i o;rw[Al]at c;by_cases e:x.cells.length=i.size
 ·simp only[e,decide_true,wb]at c;obtain⟨r,n,k,rfl⟩:=l;obtain⟨r',m,w',h1,h2,h3⟩:=IW (P:=P) q d.cells c;rw[k]at h1;cases h1;refine⟨w',?_,h3⟩;have s:=d.cells.length;unfold Instr.storeAt ZD;unfold storeVar;have:x'.cells.size=i.size:=ae
  simp only[Zb,Ao g o,Za,this,ne_eq,not_true_eq_false,wi];exact h2
 grind
theorem AW(t:TypeId)(c:Array Value):(newRow t c).run P w=.ok ⟨w.heap.size,0,none⟩ { w with heap:=w.heap.push (.cells c t) }:=by
 rfl
def DK(h:H)(t:TypeId)(cs:List V):H:=h.push<|.cells cs t (0,0)
theorem Gw(b:R p h w)(t:TypeId){d:List V}{c:Array Value}(a:Ab p d c.toList):
  ∃n,Ext p h w (p++[(w.heap.size,n)]) (DK h t d) { w with heap:=w.heap.push (.cells c t) }/\(p++[(w.heap.size,n)])[h.nx]?=some (w.heap.size,n)/\n=c.size:=by
 refine⟨c.size,Ext.push b ⟨c,(0,0),rfl,rfl,by have:=a.length;grind,?_,a8⟩,by rw[<-b.len];simp,rfl⟩;have:=a.length;rw[List.take_of_length_le a8];exact a.Ug
def CF(T:AF)(h:H)(t:TypeId):Option (V×H):=(T.inf t).map fun i=>(.ptr h.nx 0,DK h t i.zero)
theorem Nk(d:T.Ok P)(f:R p h w){t:TypeId}{v:V}{h':H}(a:CF T h t=some (v,h')):
  ∃v' p' w',(Instr.alloc t true<|.tuple #[]).run P w=.ok v' w'/\Aa p' v v'/\Ext p h w p' h' w':=by
 unfold CF at a;rw[Zg]at a;obtain⟨i,c,b⟩:=a;cases b;obtain⟨z,hz,hzr⟩:=BL d c;obtain⟨n,b,hp,_⟩:=Gw f t<|hzr p;refine⟨.pointer<|some ⟨w.heap.size,0,none⟩,_,_,?_,?_,b⟩
 ·grind [Instr.alloc,Zb,Za,newVar,AW,Zd]
 simp_all [Aa]
def NJ(h:H)(t:TypeId)(x:V):V×H:=(.ptr h.nx 0,DK h t x.cells)
theorem Qy(c:R p h w){t:TypeId}{x:V}{x':Value}(a:Aa p x x'):
  ∃v' p' w',(Instr.box t x').run P w=.ok v' w'/\Aa p' (NJ h t x).1 v'/\Ext p h w p' (NJ h t x).2 w':=by
 obtain⟨n,b,d,_⟩:=Gw c t a.cells;refine⟨.pointer<|some ⟨w.heap.size,0,none⟩,_,_,?_,?_,b⟩
 ·rfl
 simp_all [NJ,Aa]
def Kc(op:BinOp)(x y:Y):Option V:=
 match op with
 | .add=>if x.length+y.length<=4611686018427387904 then some (.str<|x++y)else none
 | .eql=>some<|.bool<|x==y
 | .neq=>some<|.bool !(x==y)
 | .lss=>some<|.bool<|ZP x y
 | .leq=>some<|.bool<|ZP x y||x==y
 | .gtr=>some<|.bool !(ZP x y||x==y)
 | .geq=>some<|.bool !ZP x y
 |_=>none
theorem DR(s:Y):(bytesOf s).toList=s:=ByteArray.toList_mk s
theorem AD(s:Y):(bytesOf s).size=s.length:=by rfl
theorem GS(x y:Y):bytesOf x++bytesOf y=bytesOf (x++y):=by
 rfl
theorem RG{op:BinOp}{x y:Y}{v:V}(a:Kc op x y=some v):
  ∃v',(Op.stringOp op (bytesOf x)<|bytesOf y).run P w=.ok v' w/\Aa p v v':=by
 unfold Op.stringOp;simp only[DR,AD];cases op<;>simp only[Kc]at a
 case add=>
  split at a
  ·cases a;rw[w9<|by grind [IntKind.max,IntKind.bits]];simp_all [Aa,GS]
  grind
 all_goals first
  |(cases a;done)
  |(cases a;exact⟨_,Zd ..,by simp[Aa]⟩)
def G8(op:BinOp)(k:IntKind)(a b:Int):Option V:=
 match op with
 | .add=>some<|.int k<|k.wrap<|a+b
 | .sub=>some<|.int k<|k.wrap<|a-b
 | .mul=>some<|.int k<|k.wrap<|a*b
 | .quo=>if b=0 then none else some<|.int k<|k.wrap<|a.tdiv b
 | .rem=>if b=0 then none else some<|.int k<|a.tmod b
 | .and=>some<|.int k<|k.wrap (Zz k.bits a&&&Zz k.bits b).toNat
 | .or=>some<|.int k<|k.wrap (Zz k.bits a|||Zz k.bits b).toNat
 | .xor=>some<|.int k<|k.wrap (Zz k.bits a^^^Zz k.bits b).toNat
 | .andNot=>some<|.int k<|k.wrap (Zz k.bits a&&& ~~~Zz k.bits b).toNat
 | .eql=>some<|.bool<|a==b
 | .neq=>some<|.bool<|a !=b
 | .lss=>some<|.bool<|a<b
 | .leq=>some<|.bool<|a<=b
 | .gtr=>some<|.bool<|a>b
 | .geq=>some<|.bool<|a>=b
 |_=>none
def NW(op:BinOp)(k:IntKind)(a b:Int):Option V:=
 if b<0 then none else
 match op with
 | .shl=>some<|.int k<|k.wrap<|a*2^(min b.toNat k.bits)
 | .shr=>some<|.int k<|a.fdiv<|2^(min b.toNat k.bits)
 |_=>none
def G2(ks:Option (List FK))(b a:List V):Option Bool:=
 match ks with
 |some ks=>bif fit ks b&&fit ks a then Az b a else none
 |none=>none
theorem C6{ks:Option (List FK)}{b a:List V}{r:Bool}(h:G2 ks b a=some r):∃l,ks=some l/\fit l b=true/\fit l a=true/\Az b a=some r:=by
 unfold G2 at h;grind
def Am(T:AF)(t:TypeId)(x y:V):Option Bool:=
 match T.und t,x,y with
 |some .bool,.bool a,.bool b=>some<|a==b
 |some (.pointer _),.nilp,y=>match y with| .nilp=>some true| .ptr .. =>some false|_=>none
 |some (.pointer _),.ptr ..,.nilp=>some false
 |some (.pointer e),.ptr a i,.ptr b j=>if a=b then match T.inf e with|some c=>if c.size≠0 then some (i==j)else none|_=>none else none
 |some (.interface _),.iface ..,.nili=>some false
 |some (.interface _),.nili,.iface .. =>some false
 |some (.slice _),.nils,y=>match y with| .nils=>some true| .sl .. =>some false| .esl=>some false| .es0=>some false|_=>none
 |some (.slice _),.sl ..,.nils=>some false
 |some (.slice _),.esl,.nils=>some false
 |some (.slice _),.es0,.nils=>some false
 |some (.map _ _),.nilm,y=>match y with| .nilm=>some true| .map .. =>some false|_=>none
 |some (.map _ _),.map ..,.nilm=>some false
 |some (.func ..),.nilf,.nilf=>some true
 |some (.func ..),.fn ..,.nilf=>some false
 |some (.func ..),.nilf,.fn .. =>some false
 |_,.agg f,.agg d=>G2 (T.flat t) f d
 |_,_,_=>none
def EA(T:AF)(op:BinOp)(t:TypeId)(x y:V):Option V:=
 match op,x,y with
 | .shl,.int k a,.int _ b=>NW .shl k a b
 | .shr,.int k a,.int _ b=>NW .shr k a b
 |op,.int k a,.int c b=>if k=c then G8 op k a b else none
 |op,.str a,.str b=>Kc op a b
 | .eql,x,y=>(Am T t x y).map fun b=>.bool b
 | .neq,x,y=>(Am T t x y).map fun b=>.bool !b
 |_,_,_=>none
theorem QB{op:BinOp}{k:IntKind}{a b:Int}{v:V}(d:op≠ .shl/\op≠ .shr)(c:G8 op k a b=some v)(t:TypeId):
  ∃v',(binOp op t (.int k a)<|.int k b).run P w=.ok v' w/\Aa p v v':=by
 cases op<;>simp only[G8]at c<;>simp only[binOp,ne_eq,not_true_eq_false,wi,Op.intArith,Op.intDiv,Op.intBits,Op.intCmp]
 case quo|rem=>
  split at c
  ·cases c
  ·cases c;simp_all [Aa]
 case shl=>grind
 case shr=>grind
 all_goals (cases c;exact⟨_,Zd ..,by simp[Aa]⟩)
theorem Ix(f:T.Ok P){t:TypeId}{x y:V}{x' y':Value}(c:Aa p x x')(b:Aa p y y'){r:Bool}(a:Am T t x y=some r):
  (ZT t x' y').run P w=.ok r w:=by
 unfold Am at a;split at a
 case h_16=>
  rename_i o A;obtain⟨l,g,d,q,s⟩:=C6 a;simp only[Aa]at c b;obtain⟨u,rfl,k⟩:=c;obtain⟨v,rfl,hv⟩:=b;exact f.flat t l g p o A u v r w d q k hv s
 case h_17=>cases a
 all_goals (rename_i k;simp only[Aa]at c b;unfold ZT Op.maxDepth Op.equalIn;rw[Zb,Ac f k];simp only[Za])
 case h_1=>simp_all
 case h_2=>subst c;split at a<;>first|(cases a;done)|(cases a;simp only[Aa]at b;first|(subst b;rfl)|(obtain⟨_,_,_,rfl⟩:=b;simp))
 case h_3=>obtain⟨_,_,_,rfl⟩:=c;simp_all
 case h_4=>
  split at a
  case isFalse=>cases a
  rename_i e;subst e;split at a
  case h_2=>cases a
  rename_i C m;split at a
  case isFalse=>cases a
  rename_i B;cases a;obtain⟨D,E,g,rfl⟩:=c;obtain⟨r2,n2,d,rfl⟩:=b;rw[g]at d;cases d;simp only[Zb,Ao f m,Za,B,ne_eq,not_false_eq_true,wg];unfold sameAddr;simp only[beq_self_eq_true,wg,Zd];congr 1;grind
 case h_5=>obtain⟨_,rfl,_⟩:=c;simp_all
 case h_6=>obtain⟨_,rfl,_⟩:=b;simp_all
 case h_7=>subst c;split at a<;>first|(cases a;done)|(cases a;simp only[Aa]at b;first|(subst b;rfl)|(obtain⟨_,_,_,_,rfl,_⟩:=b;rfl)|(obtain⟨_,_,rfl⟩:=b;simp;done)|(obtain⟨_,rfl⟩:=b;simp;done))
 case h_8=>obtain⟨_,_,_,_,rfl,_⟩:=c;simp_all
 case h_9=>obtain⟨_,_,rfl⟩:=c;simp_all
 case h_10=>obtain⟨_,rfl⟩:=c;simp_all
 case h_11=>subst c;split at a<;>first|(cases a;done)|(cases a;simp only[Aa]at b;first|(subst b;rfl)|(obtain⟨_,_,_,rfl⟩:=b;simp))
 case h_12=>obtain⟨_,_,_,rfl⟩:=c;simp_all
 case h_13=>simp_all
 case h_14=>obtain⟨_,_,rfl,_⟩:=c;simp_all
 case h_15=>obtain⟨_,_,rfl,_⟩:=b;simp_all
def JL:V->Bool
 | .int .. | .str _| .tup _=>false
 |_=>true
theorem Fg{t:TypeId}{x y:V}{r:Bool}(a:Am T t x y=some r):JL x=true:=by
 unfold Am at a;split at a<;>first|rfl|grind
theorem Gn{t:TypeId}{x:V}{x' y':Value}(a:Aa p x x')(b:JL x=true):
  binOp .eql t x' y'=(do pure (.bool<|<-ZT t x' y'))/\binOp .neq t x' y'=(do pure (.bool<|!(<-ZT t x' y'))):=by
 cases x<;>simp only[JL]at b<;>simp only[Aa]at a
 case int|str|tup=>cases b
 case ptr=>obtain⟨_,_,_,rfl⟩:=a;cases y'<;>exact⟨rfl,rfl⟩
 case esl=>obtain⟨_,_,rfl⟩:=a;cases y'<;>exact⟨rfl,rfl⟩
 case es0=>obtain⟨_,rfl⟩:=a;cases y'<;>exact⟨rfl,rfl⟩
 case sl=>obtain⟨_,_,_,_,rfl,_⟩:=a;cases y'<;>exact⟨rfl,rfl⟩
 case map=>obtain⟨_,_,_,rfl⟩:=a;cases y'<;>exact⟨rfl,rfl⟩
 case yld=>obtain⟨_,_,_,rfl⟩:=a;cases y'<;>exact⟨rfl,rfl⟩
 case fn=>obtain⟨_,_,rfl,_⟩:=a;cases y'<;>exact⟨rfl,rfl⟩
 case iface=>obtain⟨_,rfl,_⟩:=a;cases y'<;>exact⟨rfl,rfl⟩
 case agg=>obtain⟨_,rfl,_⟩:=a;cases y'<;>exact⟨rfl,rfl⟩
 all_goals (subst a;cases y'<;>exact⟨rfl,rfl⟩)
theorem QF(g:T.Ok P){op:BinOp}{t:TypeId}{x y:V}{x' y':Value}(d:Aa p x x')(f:Aa p y y'){v:V}(a:EA T op t x y=some v):
  ∃v',(binOp op t x' y').run P w=.ok v' w/\Aa p v v':=by
 unfold EA at a;split at a
 case h_1=>
  unfold NW at a;split at a
  ·cases a
  ·cases a;simp_all [binOp,Op.shift,w9,Aa]
 case h_2=>
  unfold NW at a;split at a
  ·cases a
  ·cases a;simp_all [binOp,Op.shift,w9,Aa]
 case h_3=>
  simp_all [Aa,QB]
 case h_4=>
  simp_all [Aa,RG,binOp]
 case h_5=>
  rw[Zg]at a;obtain⟨b,c,rfl⟩:=a;rw[(Gn d<|Fg c).1];simp only[Zb,Ix g d f c,Za];simp_all [Aa]
 case h_6=>
  rw[Zg]at a;obtain⟨b,c,rfl⟩:=a;rw[(Gn d<|Fg c).2];simp only[Zb,Ix g d f c,Za];simp_all [Aa]
 grind
theorem Kq{a:V}{c:Value}(b:Aa p a c)(h:a≠ .nili):c≠ .nilIface:=by
 intro e;subst e;cases a<;>simp only[Aa]at b<;>first|exact h rfl|(simp at b;done)|(done)|(done)|(done)|(done)
theorem Qk{a:V}{c:Array Value}(d:Aa p a (.agg c)):∃b,a=.agg b/\Ab p b c.toList:=by
 cases a<;>simp only[Aa]at d<;>first|(done)|grind|grind|grind|grind
theorem Hw{op:BinOp}{t:TypeId}{x y:Operand}{b b':Value}(a:op≠ .eql)(c:op≠ .neq):eqGuard op t x y b b'=pure ():=by
 cases op<;>first|rfl|exact wd rfl a|grind
theorem Oc{op:BinOp}{t:TypeId}{x y:Operand}{a b':Value}(h0:a≠ .nilIface\/b'≠ .nilIface)(f:(∃c d,a=.agg c/\b'=.agg d)->P.eqGuardType P.depth t=false):
  (eqGuard op t x y a b').run P w=.ok () w:=by
 by_cases b:op=.eql\/op=.neq
 ·have:eqGuard op t x y a b'=eqGuard .eql t x y a b':=by rcases b with rfl|rfl<;>rfl
  rw[this];unfold eqGuard;simp only[Bool.not_true,Zn,wi];split
  ·grind
  ·simp_all
  ·rfl
 simp_all [Hw]
theorem NO(C:T.Ok P){op:BinOp}{t:TypeId}{x y:Operand}{a b:V}{q b':Value}(B:Aa p a q)(u:Aa p b b'){v:V}(o:EA T op t a b=some v):
  (eqGuard op t x y q b').run P w=.ok () w:=by
 by_cases m:op=.eql\/op=.neq
 ·refine Oc ?_ ?_
  ·by_cases D:a=.nili
   ·by_cases A:b=.nili
    ·subst D A;have:Am T t .nili .nili=none:=by simp_all [Am]
     rcases m with rfl|rfl<;>simp[EA,this]at o
    grind [Kq]
   grind [Kq]
  ·rintro⟨c,d,rfl,rfl⟩;obtain⟨f,rfl,s⟩:=Qk B;obtain⟨ys,rfl,h2⟩:=Qk u;have k:Am T t (.agg f) (.agg ys)=G2 (T.flat t) f ys:=by simp_all [Am]
   cases g:G2 (T.flat t) f ys with
   |some r=>obtain⟨l,s,_⟩:=C6 g;exact C.guard t l s
   |none=>
    rw[g]at k;rcases m with rfl|rfl<;>simp[EA,k]at o
 simp_all [Hw]
def Uf(op:UnOp)(x:V):Option V:=
 match op,x with
 | .neg,.int k n=>some<|.int k<|k.wrap<|0-n
 | .xor,.int k n=>G8 .xor k (if k.signed then -1 else k.max) n
 | .not,.bool b=>some<|.bool !b
 |_,_=>none
theorem SS{op:UnOp}{x:V}{x':Value}(b:Aa p x x'){v:V}(a:Uf op x=some v):∃v',(Op.unary op x').run P w=.ok v' w/\Aa p v v':=by
 unfold Uf at a;split at a
 case h_1=>subst b;cases a;exact⟨_,rfl,by rfl⟩
 case h_2=> 
  subst b;simp only[G8,Zc]at a;subst a;exact⟨_,rfl,by rfl⟩
 case h_3=>subst b;cases a;exact⟨_,rfl,by rfl⟩
 grind
def RS:V->Option UInt8
 | .int .u8 (.ofNat n)=>some<|UInt8.ofNat n
 |_=>none
def bytes?:List V->Option Y
 |[]=>some []
 |v::vs=>
  match RS v,bytes? vs with
  |some b,some a=>some (b::a)
  |_,_=>none
def Cn(T:AF)(h:H)(src dst:TypeId)(x:V):Option V:=
 match T.und src,T.und dst,x with
 |some _,some<|.int k,.int _ n=>some<|.int k<|k.wrap n
 |some _,some .string,.str s=>some<|.str s
 |some (.slice e),some .string,.nils=>match T.und e with|some (.int .u8)=>some (.str [])|_=>none
 |some (.slice e),some .string,.sl b off len _ _=>
  match T.und e with
  |some (.int .u8)=>match rd h b off len with
   |some cs=>(bytes? cs).map .str
   |none=>none
  |_=>none
 |_,_,_=>none
theorem FX{f:Value->ByteArray->Sem (ForInStep ByteArray)}(r:∀n s,f (.int .u8 n) s=pure (ForInStep.yield<|s.push<|UInt8.ofNat n.toNat)):
  ∀(cs:List V) (vs:List Value) (k:Y) (a:Y),Ab p cs vs->bytes? cs=some k->
  ∀w,(forIn vs (bytesOf a) f).run P w=.ok (bytesOf<|a++k) w
 |[],vs,k,a,d,g,w=>by
  simp_all [bytes?]
 |c::cs,[],_,_,d,_,_=>by simp at d
 |c::cs,v::vs,k,a,d,g,w=>by
  simp only[Ap]at d;unfold bytes? at g;split at g
  case h_2=>cases g
  rename_i b q m o;unfold RS at m;split at m
  case h_2=>cases m
  rename_i n;have l:=d.1;simp only[Aa]at l;have:=FX r cs vs q (a++[UInt8.ofNat n]) d.2 o w;grind [bytesOf,ByteArray.push]
theorem Qh(b:T.Ok P)(s:R p h w){src dst:TypeId}{x:V}{x':Value}(l:Aa p x x'){v:V}(a:Cn T h src dst x=some v):
  ∃v',(convert src dst x').run P w=.ok v' w/\Aa p v v':=by
 unfold Cn at a;split at a
 case h_1=>
  rename_i f d;subst l;cases a;unfold convert;simp only[Zb,Ac b f,Ac b d,Za];exact⟨_,rfl,by rfl⟩
 case h_2=>
  rename_i f d;cases a;unfold convert;simp only[Zb,Ac b f,Ac b d,Za];simp_all [Aa]
 case h_3=>
  rename_i f d;subst l;split at a
  case h_2=>cases a
  rename_i k;cases a;unfold convert;simp only[Zb,Ac b f,Ac b d,Ac b k,Za];exact⟨_,rfl,by rfl⟩
 case h_4=>
  rename_i f d;split at a
  case h_2=>cases a
  rename_i k;split at a
  case h_2=>cases a
  rename_i cs o;rw[Zg]at a;obtain⟨q,g,rfl⟩:=a;obtain⟨r,n,c,g1,rfl,g2⟩:=l;obtain⟨r',m,vs,k1,k2,k3,_⟩:=run_loadCells (P:=P) s o;rw[g1]at k1;cases k1;refine⟨.string<|bytesOf q,?_,by rfl⟩;unfold convert;simp only[Zb,Ac b f,Ac b d,Ac b k,Za];unfold Conv.bytesToString;simp only[Zb,k2,Za];simp only[List.forIn_toArray];have e:ByteArray.empty=bytesOf []:=rfl;rw[e,FX (P:=P) (by simp) cs vs q [] k3 g w];simp
 grind
def Fb(T:AF)(t:TypeId)(cs:List V)(off:Nat):Option V:=
 match T.und t,T.inf t with
 |some d,some i=>bif BC d then some (.agg<|(cs.drop off).take i.size)else cs[off]?
 |_,_=>none
theorem KG(f:T.Ok P){t:TypeId}{cs:List V}{c:Array Value}{off:Nat}(g:Ab p cs c.toList){v:V}(a:Fb T t cs off=some v):
  ∃v',(part t c off).run P w=.ok v' w/\Aa p v v':=by
 unfold Fb at a;split at a
 case h_2=>cases a
 rename_i d i l k;unfold part;simp only[Zb,IK f l,Za];cases b:BC d with
 |true=>
  simp only[b,wb,Zc]at a;subst a;simp only[wg,Zb,Ao f k,Za];refine⟨_,(by rfl),?_⟩;refine⟨_,rfl,?_⟩;have:(c.extract off<|off+i.size).toList=(c.toList.drop off).take i.size:=by
   simp
  rw[this];exact(g.drop off).take i.size
 |false=>
  simp only[b,wc]at a;obtain⟨u,m,o⟩:=g.get a;simp_all
def Ez(T:AF)(t:TypeId)(x:V)(f:Nat):Option V:=
 match T.und t,x with
 |some (.struct fs),.agg cs=>match fs[f]? with
  |some a=>Fb T a.type cs a.offset
  |none=>none
 |_,_=>none
theorem Nr(b:T.Ok P){t:TypeId}{x:V}{x':Value}{f:Nat}(d:Aa p x x'){v:V}(a:Ez T t x f=some v):
  ∃v',(Instr.field t x' f).run P w=.ok v' w/\Aa p v v':=by
 unfold Ez at a;split at a
 case h_2=>cases a
 rename_i fs cs l;split at a
 case h_2=>cases a
 rename_i m g;obtain⟨c,rfl,k⟩:=d;unfold Instr.field;simp only[Zb,Ac b l,Za,g];exact KG b k a
def EG(T:AF)(t:TypeId)(x:V)(f:Nat):Option V:=
 match T.und t,x with
 |some (.struct fs),.ptr b off=>match fs[f]? with
  |some a=>match T.inf a.type with
   |some i=>if i.size=0 then none else some<|.ptr b<|off+a.offset
   |none=>none
  |none=>none
 |_,_=>none
theorem NZ(c:T.Ok P){t:TypeId}{x:V}{x':Value}{f:Nat}(k:Aa p x x'){v:V}(a:EG T t x f=some v):
  ∃v',(Instr.fieldAt t x' f).run P w=.ok v' w/\Aa p v v':=by
 unfold EG at a;split at a
 case h_2=>cases a
 rename_i fs b off m;split at a
 case h_2=>cases a
 rename_i o l;split at a
 case h_2=>cases a
 rename_i i d;split at a
 case isTrue=>cases a
 rename_i g;cases a;obtain⟨r,n,q,rfl⟩:=k;unfold Instr.fieldAt;simp only[Zb,Ac c m,Za,l];unfold ZD fieldPlace;simp only[Zd,Za,Zb,Ao c d,g,wi,Addr.Fm];simp_all [Aa]
def B7(T:AF)(t:TypeId)(x c:V):Option V:=
 match T.und t,x,c with
 |some (.slice e),.sl b off len _ _,.int _ i=>
  match T.inf e,i with
  |some a,.ofNat n=>bif Zx n len then some (.ptr b<|off+n*a.size)else none
  |_,_=>none
 |some (.array len e),.ptr b off,.int _ i=>
  match T.inf e,i with
  |some a,.ofNat n=>bif Zx n len then some (.ptr b<|off+n*a.size)else none
  |_,_=>none
 |_,_,_=>none
theorem Dn(a b:Nat):Zx a b=decide (a<b):=by
 rw[Bool.eq_iff_iff];simp
theorem Ns(s:T.Ok P){t:TypeId}{x B:V}{x' l:Value}(q:Aa p x x')(g:Aa p B l){v:V}(f:B7 T t x B=some v):
  ∃v',(Instr.indexAt t x' l).run P w=.ok v' w/\Aa p v v':=by
 unfold B7 at f;split at f
 case h_3=>cases f
 case h_1=>
  rename_i e b off len cap o k i A;split at f
  case h_2=>cases f
  rename_i C n u;rw[Dn]at f;by_cases d:n<len
  ·simp only[d,decide_true,wb,Zc]at f;subst f;simp only[Aa]at q g;obtain⟨r,m,c,y,rfl,_⟩:=q;subst g;unfold Instr.indexAt asIntOf;have a:(0:Int)<=(n:Int)/\(n:Int)<(len:Int):=⟨by simp,by simpa using d⟩;simp only[Zb,Zd,Ac s A,Za,a,and_self,wg,Ao s u,Addr.Fm,Zu,ZA];exact⟨_,rfl,by simp only[Aa];exact⟨_,_,y,rfl⟩⟩
  ·simp[d]at f
 case h_2=>
  rename_i len e b off k i A;split at f
  case h_2=>cases f
  rename_i C n u;rw[Dn]at f;by_cases d:n<len
  ·simp only[d,decide_true,wb,Zc]at f;subst f;simp only[Aa]at q g;obtain⟨r,m,y,rfl⟩:=q;subst g;unfold Instr.indexAt asIntOf ZD;have a:(0:Int)<=(n:Int)/\(n:Int)<(len:Int):=⟨by simp,by simpa using d⟩;simp only[Zb,Zd,Ac s A,Za,a,and_self,wg,Ao s u,Addr.Fm,Zu,ZA];exact⟨_,rfl,by simp only[Aa];exact⟨_,_,y,rfl⟩⟩
  ·simp[d]at f
def DY(T:AF)(t:TypeId)(x c:V):Option V:=
 match T.und t,x,c with
 |some .string,.str s,.int _ (.ofNat n)=>match s[n]? with
  |some b=>some<|.int .u8 b.toNat
  |none=>none
 |some (.array len e),.agg cs,.int _ (.ofNat n)=>
  match T.inf e with
  |some a=>bif Zx n len then Fb T e cs (n*a.size)else none
  |_=>none
 |_,_,_=>none
theorem N7(o:T.Ok P){t:TypeId}{x y:V}{x' l:Value}(m:Aa p x x')(d:Aa p y l){v:V}(a:DY T t x y=some v):
  ∃v',(Instr.index t x' l).run P w=.ok v' w/\Aa p v v':=by
 unfold DY at a;split at a
 case h_3=>cases a
 case h_1=>
  rename_i s k n q;split at a
  case h_2=>cases a
  rename_i b r;cases a;simp only[Aa]at m d;subst m d;unfold Instr.index asIntOf;have e:(bytesOf s)[n]?=some b:=by
   have B:=(Zk.1 r).1;have u:=(Zk.1 r).2;rw[getElem?_pos (bytesOf s) n<|by rw[AD];exact B];congr 1
  simp only[Zb,Zd,Ac o q,Za,Zu,Int.natCast_nonneg,wg,ZA,e];exact⟨_,rfl,by simp[Aa]⟩
 case h_2=>
  rename_i len e cs k n q;split at a
  case h_2=>cases a
  rename_i C u;rw[Dn]at a;by_cases g:n<len
  ·simp only[g,decide_true,wb]at a;simp only[Aa]at m d;obtain⟨c,rfl,A⟩:=m;subst d;unfold Instr.index asIntOf;have f:(0:Int)<=(n:Int)/\(n:Int)<(len:Int):=⟨by simp,by simpa using g⟩;simp only[Zb,Zd,Ac o q,Za,f,and_self,wg,Ao o u,Zu,ZA];exact KG o A a
  ·simp[g]at a
def CV(x:V)(i:Nat):Option V:=
 match x with
 | .tup vs=>vs[i]?
 |_=>none
theorem KT{x:V}{x':Value}{i:Nat}(d:Aa p x x'){v:V}(a:CV x i=some v):∃v',(Instr.extract x' i).run P w=.ok v' w/\Aa p v v':=by
 unfold CV at a;split at a
 case h_2=>cases a
 obtain⟨c,rfl,b⟩:=d;obtain⟨u,h1,h2⟩:=b.get a;simp_all [Instr.extract]
def D7(x:Option V)(y C2:Nat):Option Nat:=
 match x with
 |none=>some C2
 |some (.int _<|.ofNat n)=>bif Zi n y then some n else none
 |_=>none
def Fh(mx:Option V)(o:Nat):Nat:=match mx with|some _=>0|none=>o
def Pw(a mx:Option V):Option Nat:=match a,mx with
 |none,some _=>none
 |_,_=>D7 a 0 0
def Hj(mx:Option V):Bool:=match mx with
 |some _=>true
 |none=>false
def Bu(T:AF)(t:TypeId)(x:V)(c a mx:Option V):Option V:=
 match T.und t,x with
 |some .string,.str s=>
  match mx,D7 a s.length s.length with
  |none,some h=>match D7 c h 0 with
   |some l=>some<|.str<|(s.drop l).take<|h-l
   |none=>none
  |_,_=>none
 |some (.slice e),.sl b off len cap o=>
  match T.inf e,D7 mx cap cap with
  |some d,some m=>match (match a,mx with|none,some _=>none|_,_=>D7 a m len)with
   |some h=>match D7 c h 0 with
    |some l=>
     let o':=Fh mx o
     bif Zf m l then(bif Zf o' 0 then some (.sl b off (h-l) (m-l) 0)else some .esl)
     else bif Zf o' 0||Zf o' d.size then some (.sl b (off+l*d.size) (h-l) (m-l) o')else none
    |none=>none
   |none=>none
  |_,_=>none
 |some (.slice e),.nils=>
  match D7 mx 0 0,Pw a mx,T.inf e with
  |some _,some h,some _=>match D7 c h 0 with
   |some _=>some .nils
   |none=>none
  |_,_,_=>none
 |some (.slice e),.esl=>
  match D7 mx 0 0,Pw a mx,T.inf e with
  |some _,some h,some _=>match D7 c h 0 with
   |some _=>some<|bif Hj mx then .es0 else .esl
   |none=>none
  |_,_,_=>none
 |some (.slice e),.es0=>
  match D7 mx 0 0,Pw a mx,T.inf e with
  |some _,some h,some _=>match D7 c h 0 with
   |some _=>some .es0
   |none=>none
  |_,_,_=>none
 |some (.array n e),.ptr b off=>
  match T.inf e,mx,D7 a n n with
  |some d,none,some h=>match D7 c h 0 with
   |some l=>bif Zf n l then some (.sl b off (h-l) (n-l) 0)else some<|.sl b (off+l*d.size) (h-l) (n-l) 0
   |none=>none
  |_,_,_=>none
 |_,_=>none
def C0(p:Pl):Option V->Option Value->Prop
 |none,x=>x=none
 |some d,x=>∃v,x=some v/\Aa p d v
theorem AI{x:Option V}{x':Option Value}{y z n y':Nat}(f:C0 p x x')(b:D7 x y z=some n)(l:y<=y'):
  (x=none/\x'=none/\n=z)\/(∃d u,x=some d/\x'=some u/\n<=y/\∀a (P:Program) (w:World),(Instr.sliceBound u y' a).run P w=.ok n w):=by
 cases x with
 |none=>simp_all [C0,D7]
 |some d=>
  obtain⟨u,rfl,g⟩:=f;unfold D7 at b;split at b
  case h_1=>grind
  case h_3=>cases b
  rename_i k m e;cases e;by_cases c:m<=y
  ·simp only[Nat.ble_eq_true_of_le c,wb,Zc]at b;simp only[Aa]at g;unfold Instr.sliceBound asIntOf;have o:(0:Int)<=(m:Int)/\(m:Int)<=(y':Int):=a8;simp_all
  ·have:Zi m y=false:=by simp_all [Bool.eq_false_iff]
   grind
theorem DT{v g mx:Option V}{k r q:Option Value}(f:C0 p v k)(a:C0 p g r)(o:C0 p mx q){m h l:Nat}(y:D7 mx 0 0=some m)(A:Pw g mx=some h)(x:D7 v h 0=some l)(c:Nat):
  (Zq true 0 c k r q).run P w=.ok (0,0,bif Hj mx then 0 else c) w:=by
 unfold Pw at A;have h0:h=0:=by
  have:D7 g 0 0=some h:=by
   grind
  rcases AI a this (Ze _)with⟨_,_,rfl⟩|⟨_,_,_,_,h,_⟩<;>omega
 subst h0;unfold Zq;cases mx with
 |none=>
  have b:D7 g 0 0=some 0:=ae
  simp only[C0]at o;rcases AI a b (Nat.zero_le c)with⟨_,rfl,_⟩|⟨_,u,_,rfl,_,C⟩<;>rcases AI f x (Ze _)with⟨_,rfl,_⟩|⟨_,D,_,rfl,_,s⟩
  all_goals simp_all [Hj]
 |some d=>
  cases g with
  |none=>grind
  |some F=>
   have b:D7 (some F) 0 0=some 0:=a8
   rcases AI o y (Nat.zero_le c)with⟨h,_,_⟩|⟨_,G,_,rfl,E,B⟩
   ·cases h
   ·obtain rfl:m=0:=a8
    rcases AI a b a8 with⟨h,_,_⟩|⟨_,u,_,rfl,_,C⟩
    ·cases h
    ·rcases AI f x a8 with⟨_,rfl,_⟩|⟨_,D,_,rfl,_,s⟩
     all_goals simp_all [Hj]
theorem NK(E:T.Ok P){t:TypeId}{x:V}{lo hi mx:Option V}{x':Value}{J K N:Option Value}(L:Aa p x x')(A:C0 p lo J)(q:C0 p hi K)(D:C0 p mx N)
  {v:V} (f:Bu T t x lo hi mx=some v):∃v',(Zp t x' J K N).run P w=.ok v' w/\Aa p v v':=by
 unfold Bu at f;split at f
 case h_7=>cases f
 case h_1=>
  rename_i s F;split at f
  case h_2=>cases f
  rename_i y g;split at f
  case h_2=>cases f
  rename_i l G;cases f;simp only[C0]at D;subst D;simp only[Aa]at L;subst L;refine⟨.string<|bytesOf<|(s.drop l).take<|y-l,?_,by rfl⟩;unfold Zp;simp only[Zb,Ac E F,Za];unfold ZK;simp only[Zb,Ac E F,Za,Option.isSome_none,Zn,wi,AD];unfold Zq;have e:(bytesOf s).extract l y=bytesOf ((s.drop l).take<|y-l):=by
   apply ByteArray.ext;simp_all [bytesOf]
  rcases AI q g (Ze _)with⟨_,rfl,rfl⟩|⟨_,u,_,rfl,_,hu⟩<;>rcases AI A G (Ze _)with⟨_,rfl,rfl⟩|⟨_,u2,_,rfl,_,U⟩
  all_goals simp_all
 case h_2=>
  rename_i e b off len cap o F;split at f
  case h_2=>cases f
  rename_i Z m W hm;split at f
  case h_2=>cases f
  rename_i y g;split at f
  case h_2=>cases f
  rename_i l G;simp only[Aa]at L;obtain⟨r,n,c,hp,rfl,hlen,O,ho1,ho2⟩:=L;obtain⟨M,gm2,hhm,R,hbounds⟩:∃M,((mx=none/\M=c/\m=cap)\/(mx≠none/\M=m))/\y<=m/\l<=y/\(Zq true len c J K N).run P w=.ok (l,y,M) w:=by
   have R:l<=y:=by
    rcases AI A G (Ze _)with⟨_,_,rfl⟩|⟨_,_,_,_,h,_⟩
    ·omega
    omega
   rcases AI D hm O with⟨rfl,rfl,rfl⟩|⟨dm,um,rfl,rfl,hm1,hum⟩
   ·have B:D7 hi m len=some y:=ae
    refine⟨c,(by simp),?_,R,?_⟩
    ·rcases AI q B O with⟨_,_,rfl⟩|⟨_,_,_,_,h,_⟩
     ·omega
     omega
    ·unfold Zq;rcases AI q B O with⟨_,rfl,rfl⟩|⟨_,u,_,rfl,_,hu⟩<;>rcases AI A G (Ze _)with⟨_,rfl,rfl⟩|⟨_,u2,_,rfl,_,U⟩
     all_goals simp_all
   ·cases hi with
    |none=>grind
    |some dh=>
     have B:D7 (some dh) m len=some y:=a8
     refine⟨m,(by simp),?_,R,?_⟩
     ·rcases AI q B a8 with⟨h,_⟩|⟨_,_,_,_,h,_⟩
      ·cases h
      omega
     ·unfold Zq;rcases AI q B (Ze _)with⟨h,_,_⟩|⟨_,u,_,rfl,_,hu⟩
      ·cases h
      ·rcases AI A G (Ze _)with⟨_,rfl,rfl⟩|⟨_,u2,_,rfl,_,U⟩
       all_goals simp_all
  have gm1:m<=M:=a8
  have C:(Zp t (.slice (some ⟨r,off,none⟩) len c) J K N).run P w=.ok (.slice (if M=l then some ⟨r,off,none⟩else some ⟨r,off+l*Z.size,none⟩) (y-l)<|M-l) w:=by
   unfold Zp;simp only[Zb,Ac E F,Za];unfold ZK;simp only[Zb,Ac E F,Za,hbounds,Ao E W,Zd];simp
  refine⟨_,C,?_⟩;simp only[Al]at f;by_cases I:m=l
  ·simp only[I,decide_true,wb]at f;by_cases S:Fh mx o=0
   ·simp only[S,decide_true,wb,Zc]at f;subst f;have hm':M=l:=by
     grind [Fh]
    simp_all [Aa]
   ·simp only[S,decide_false,wc,Zc]at f;subst f;have Y:y-l=0:=a8
    simp only[Y,Aa];grind
  ·simp only[I,decide_false,wc]at f;by_cases S:Fh mx o=0\/Fh mx o=Z.size
   ·have X:(decide (Fh mx o=0)||decide (Fh mx o=Z.size))=true:=ae
    simp only[X,wb,Zc]at f;subst f;have hne:M≠l:=a8
    simp only[hne,wi,Aa];refine⟨r,n,_,hp,rfl,by omega,by omega,fun k=>?_,fun k=>?_⟩
    ·grind [Fh]
    ·rcases gm2 with⟨k1,k2,k3⟩|⟨k1,k2⟩
     ·subst k1;simp only[Fh]at k S ⊢;rcases S with S|S
      ·omega
      ·have:=ho2 k;subst k2;rw[<-S];have e:off+l*o+(M-l)*o=off+M*o:=by
        rw[Nat.sub_mul];have:l*o<=M*o:=Zv _ a8;omega
       omega
     ·cases mx with
      |none=>grind
      |some d=>simp[Fh]at k
   grind
 case h_3=>
  rename_i e F;split at f
  case h_2=>cases f
  rename_i mm y tz Q g Y;split at f
  case h_2=>cases f
  rename_i l G;cases f;simp only[Aa]at L;subst L;refine⟨.slice none 0 0,?_,by rfl⟩;unfold Zp;simp only[Zb,Ac E F,Za];unfold ZK;simp only[Zb,Ac E F,Za,DT (P:=P) (w:=w) A q D Q g G 0];cases mx<;>simp[Hj,Ao E Y]
 case h_4=>
  rename_i e F;split at f
  case h_2=>cases f
  rename_i mm y tz Q g Y;split at f
  case h_2=>cases f
  rename_i l G;simp only[Aa]at L;obtain⟨a,c,rfl⟩:=L;have C:∃a',(Zp t (.slice (some a) 0 c) J K N).run P w=.ok (.slice (some a') 0<|bif Hj mx then 0 else c) w:=by
   unfold Zp;simp only[Zb,Ac E F,Za];unfold ZK;simp only[Zb,Ac E F,Za,DT (P:=P) (w:=w) A q D Q g G c];simp only[Ao E Y,Za,Zd,Nat.sub_zero,Nat.sub_self];split
   ·simp
   simp
  obtain⟨a',ha'⟩:=C;refine⟨_,ha',?_⟩;cases f;cases mx with
  |none=>simp_all [Hj,Aa]
  |some d=>simp_all [Hj,Aa]
 case h_5=>
  rename_i e F;split at f
  case h_2=>cases f
  rename_i mm y tz Q g Y;split at f
  case h_2=>cases f
  rename_i l G;cases f;simp only[Aa]at L;obtain⟨a,rfl⟩:=L;refine⟨.slice (some a) 0 0,?_,by simp_all [Aa]⟩;unfold Zp;simp only[Zb,Ac E F,Za];unfold ZK;simp only[Zb,Ac E F,Za,DT (P:=P) (w:=w) A q D Q g G 0];cases mx<;>simp[Hj,Ao E Y]
 case h_6=>
  rename_i nn e b off F;split at f
  case h_2=>cases f
  rename_i Z y W g;split at f
  case h_2=>cases f
  rename_i l G;simp only[C0]at D;subst D;simp only[Aa]at L;obtain⟨r,n,hp,rfl⟩:=L;have R:l<=y:=by rcases AI A G (Ze _)with⟨_,_,rfl⟩|⟨_,_,_,_,h,_⟩<;>omega
  have hhn:y<=nn:=by rcases AI q g (Ze _)with⟨_,_,rfl⟩|⟨_,_,_,_,h,_⟩<;>omega
  have C:(Zp t (.pointer<|some ⟨r,off,none⟩) J K none).run P w=.ok (.slice (some<|if nn=l then⟨r,off,none⟩else⟨r,off+l*Z.size,none⟩) (y-l)<|nn-l) w:=by
   unfold Zp;simp only[Zb,Ac E F,Za];unfold ZD Zq;rcases AI q g (Ze _)with⟨_,rfl,rfl⟩|⟨_,u,_,rfl,_,hu⟩<;>rcases AI A G (Ze _)with⟨_,rfl,rfl⟩|⟨_,u2,_,rfl,_,U⟩
   all_goals simp only[Option.isSome_none,Zn,wi,Zb,Zd,Za,Ao E W,Addr.Fm, *]
  refine⟨_,C,?_⟩;simp only[Al]at f;by_cases I:nn=l
  ·simp only[I,decide_true,wb,Zc]at f;subst f;simp_all [Aa]
  ·simp only[I,decide_false,wc,Zc]at f;subst f;simp only[I,wi,Aa];grind
def i64(n:Nat):V:=.int .i64<|.ofNat n
def Cp(T:AF)(h:H)(ts:Array TypeId)(args:List V):Option V:=
 match ts[0]?,args with
 |some t,[x]=>
  match T.und t,x with
  |some .string,.str s=>some<|i64 s.length
  |some (.array n _),_=>some<|i64 n
  |some (.slice _),.sl _ _ len _ _=>some<|i64 len
  |some (.slice _),.nils=>some<|i64 0
  |some (.slice _),.esl=>some<|i64 0
  |some (.slice _),.es0=>some<|i64 0
  |some (.map _ _),.nilm=>some<|i64 0
  |some (.map _ _),.map b=>match h.get b with
   |some (.map es _)=>some<|i64 es.length
   |_=>none
  |_,_=>none
 |_,_=>none
theorem Ab.one{ds:V}{l:List Value}(a:Ab p [ds] l):∃v,l=[v]/\Aa p ds v:=by
 match l,a with
 |[v],h=>simp_all
 |[],h=>simp at h
 |_::_::_,h=>simp at h
theorem Ab.two{d e:V}{l:List Value}(a:Ab p [d,e] l):∃v u,l=[v,u]/\Aa p d v/\Aa p e u:=by
 match l,a with
 |[v,u],h=>exact⟨v,u,rfl,by simp_all⟩
 |[],h=>simp at h
 |[_],h=>simp at h
 |_::_::_::_,h=>simp at h
theorem Bo.length{es:List (V×V×Nat)}{l:List MapEntry}(h:Bo p es l):es.length=l.length:=by
 induction h with
 |nil=>rfl
 |cons _ _ _ _ a=>simp[a]
theorem Q9(k:T.Ok P)(C:R p h w){ts:Array TypeId}{t:TypeId}{args:List V}{args':Array Value}(B:Ab p args args'.toList){v:V}(a:Cp T h ts args=some v):
  ∃v',(Builtin.len_ ts t args').run P w=.ok v' w/\Aa p v v':=by
 unfold Cp at a;split at a
 case h_2=>cases a
 rename_i t0 x m;obtain⟨x',d,b⟩:=B.one;have c:args'[0]?=some x':=by rw[<-ZE,d];rfl
 unfold Builtin.len_;simp only[m,c];split at a
 case h_9=>cases a
 all_goals (rename_i y;simp only[Zb,Ac k y,Za];try simp only[Aa]at b)
 case h_1=>cases a;simp_all [i64,Aa,goInt,AD]
 case h_2=>cases a;simp_all [i64,Aa,goInt]
 case h_3=>obtain⟨_,_,_,_,rfl,_⟩:=b;cases a;simp_all [i64,Aa,goInt]
 case h_4=>cases a;simp_all [i64,Aa,goInt]
 case h_5=>obtain⟨_,_,rfl⟩:=b;cases a;simp_all [i64,Aa,goInt]
 case h_6=>obtain⟨_,rfl⟩:=b;cases a;simp_all [i64,Aa,goInt]
 case h_7=>cases a;simp_all [i64,Aa,goInt]
 case h_8=>
  obtain⟨r,n,A,rfl⟩:=b;split at a
  case h_2=>cases a
  rename_i es D g;cases a;obtain⟨E,n',o,f,q,l,s,u⟩:=C.obj _ _ g;rw[A]at f;cases f;subst s;refine⟨goInt l.size,?_,?_⟩
  ·simp[getObj,ZS,q]
  ·have:=u.length;simp only[i64,Aa,goInt];grind
def Pa(a b:V):Option V:=
 match a,b with
 | .int k x,.int _ y=>some<|.int k<|if y>x then y else x
 |_,_=>none
def Ru(a b:V):Option V:=
 match a,b with
 | .int k x,.int _ y=>some<|.int k<|if y<x then y else x
 |_,_=>none
def dfold(f:V->V->Option V):V->List V->Option V
 |x,[]=>some x
 |x,y::a=>match f x y with
  |some z=>dfold f z a
  |none=>none
theorem GM{f:V->V->Option V}{g:Value->Value->Sem Value}(m:∀ {a b c:V} {s b':Value},Aa p a s->Aa p b b'->f a b=some c->∃q,(g s b').run P w=.ok q w/\Aa p c q):
  ∀(o:List V) (k:List Value) (x:V) (x':Value),Aa p x x'->Ab p o k->∀ {v:V},dfold f x o=some v->∃v',(k.foldlM g x').run P w=.ok v' w/\Aa p v v'
 |[],k,x,x',r,d,v,l=>by
  cases l;simp_all
 |y::o,[],_,_,_,d,_,_=>by simp at d
 |y::o,y'::k,x,x',r,d,v,l=>by
  simp only[Ap]at d;unfold dfold at l;split at l
  case h_2=>cases l
  rename_i z u;obtain⟨B,C,A⟩:=m r d.1 u;obtain⟨v',h3,h4⟩:=GM m o k z B A d.2 l;simp_all
def Cz(f:V->V->Option V)(args:List V):Option V:=
 match args with
 |[]=>none
 |x::a=>dfold f x a
theorem Rg{ts:Array TypeId}{t:TypeId}{args:List V}{args':Array Value}(g:Ab p args args'.toList){v:V}(d:Cz Pa args=some v):
  ∃v',(Builtin.max_ ts t args').run P w=.ok v' w/\Aa p v v':=by
 unfold Cz at d;split at d
 case h_1=>cases d
 rename_i x o;unfold Builtin.max_;cases q:args'.toList with
 |nil=>simp_all
 |cons x' k=>
  rw[q]at g;simp only[Ap]at g;refine GM (fun {a b c r b'} m l f=>?_) o k x x' g.1 g.2 d;unfold Pa at f;split at f
  case h_2=>cases f
  subst m l;cases f;exact⟨_,rfl,by rfl⟩
theorem RJ{ts:Array TypeId}{t:TypeId}{args:List V}{args':Array Value}(g:Ab p args args'.toList){v:V}(d:Cz Ru args=some v):
  ∃v',(Builtin.min_ ts t args').run P w=.ok v' w/\Aa p v v':=by
 unfold Cz at d;split at d
 case h_1=>cases d
 rename_i x o;unfold Builtin.min_;cases q:args'.toList with
 |nil=>simp_all
 |cons x' k=>
  rw[q]at g;simp only[Ap]at g;refine GM (fun {a b c r b'} m l f=>?_) o k x x' g.1 g.2 d;unfold Ru at f;split at f
  case h_2=>cases f
  subst m l;cases f;exact⟨_,rfl,by rfl⟩
def DG(place:Nat->Option (Nat×Nat))(cells:List V):List (Nat×V)->Option (List V)
 |[]=>some cells
 |(i,v)::a=>
  match place i with
  |none=>none
  |some (off,size)=>bif Zf v.cells.length size&&Zi (off+size) cells.length then DG place (CY cells off v.cells) a else none
theorem Kr:∀(b:List V) (vs:List Value) (cs:List V) (c:Array Value) (off:Nat),Ab p b vs->Ab p cs c.toList->
  ∀k,Ab p (CY cs (off+k) b) ((vs.zipIdx k).foldl (fun cs (c,j)=>cs.setIfInBounds (off+j) c) c).toList
 |[],vs,cs,c,off,a,d,k=>by simp_all [CY]
 |x::b,[],_,_,_,a,_,_=>by simp at a
 |x::b,v::vs,cs,c,off,a,d,k=>by
  simp only[Ap]at a;simp only[CY,List.zipIdx_cons,List.foldl_cons];have:=Kr b vs (cs.set (off+k) x) (c.setIfInBounds (off+k) v) off a.2 (by simpa using d.set (off+k) a.1)<|k+1;omega
inductive JO (p:Pl):List (Nat×V)->List (Nat×Value)->Prop
 |nil:JO p [] []
 |cons {i:Nat} {v:V} {v':Value} {l:List (Nat×V)} {l':List (Nat×Value)}:Aa p v v'->JO p l l'->JO p ((i,v)::l) ((i,v')::l')
theorem ES{place:Nat->Option (Nat×Nat)}:∀ {l:List (Nat×V)} {l':List (Nat×Value)},JO p l l'->∀ {cs:List V} {c:Array Value} {out:List V},Ab p cs c.toList->DG place cs l=some out->
  ∃o,Instr.fill place c l'=some o/\Ab p out o.toList:=by
 intro l l' f;induction f with
 |nil=>intro cs c out d b;cases b;exact⟨c,rfl,d⟩
 |@cons i v v' l l' g f r=>
  intro cs c out d b;unfold DG at b;split at b
  case h_1=>cases b
  rename_i off size q;cases a:(Zf v.cells.length size&&Zi (off+size) cs.length)with
  |false=>grind
  |true=>
   simp only[Zl,Zy,Al,w5]at a;have m:=g.cells.length;have k:=d.length;unfold Instr.fill;have:=Kr (p:=p) v.cells v'.cells.toList cs c off g.cells d 0;grind [Array.toList_zipIdx]
def EB(T:AF)(t:TypeId)(a:List (Nat×V)):Option V:=
 match T.inf t,T.und t with
 |some i,some (.struct fs)=>
  match fs.toList.mapM (fun f=>(T.inf f.type).map fun j=>(f.offset,j.size))with
  |some pl=>(DG (fun i=>pl[i]?) i.zero a).map .agg
  |none=>none
 |some i,some (.array _ e)=>match T.inf e with
  |some j=>(DG (fun i=>some (i*j.size,j.size)) i.zero a).map .agg
  |none=>none
 |_,_=>none
theorem run_places(c:T.Ok P):∀ {fs:List Field} {pl:List (Nat×Nat)},fs.mapM (fun f=>(T.inf f.type).map fun j=>(f.offset,j.size))=some pl->
  ∀w,(fs.mapM<|fun f=>(do pure (f.offset, <-sizeOf f.type):Sem (Nat×Nat))).run P w=.ok pl w
 |[],pl,h,w=>by simp_all
 |f::fs,pl,h,w=>by
  cases b:T.inf f.type with
  |none=>grind
  |some j=>
   cases a:fs.mapM (fun f=>(T.inf f.type).map fun j=>(f.offset,j.size))with
   |none=>grind
   |some d=>
    simp[b,a]at h;subst h;rw[List.mapM_cons];simp only[Zb,Ao c b,Za,Zd,run_places c a]
theorem Od(d:T.Ok P){t:TypeId}{c:List (Nat×V)}{a:Array (Nat×Value)}(r:JO p c a.toList){v:V}(b:EB T t c=some v):
  ∃v',(Instr.build t a).run P w=.ok v' w/\Aa p v v':=by
 unfold EB at b;split at b
 case h_3=>cases b
 case h_1=>
  rename_i i fs l g;split at b
  case h_2=>cases b
  rename_i pl k;rw[Zg]at b;obtain⟨out,q,rfl⟩:=b;obtain⟨z,hz,hzr⟩:=BL d l;have m:(fs.mapM<|fun f=>(do pure (f.offset, <-sizeOf f.type):Sem (Nat×Nat))).run P w=.ok pl.toArray w:=by
   rw[Array.mapM_eq_mapM_toList];simp only[Sem.run_map,run_places d k,Za]
  obtain⟨o,s,x⟩:=ES (p:=p) (place:=fun i=>pl.toArray[i]?) r (hzr p) (out:=out) ae;refine⟨.agg o,?_,by simp_all [Aa]⟩;unfold Instr.build;simp only[Zb,hz,Za,Ac d g];simp_all
 case h_2=>
  rename_i i n e l g;split at b
  case h_2=>cases b
  rename_i j u;rw[Zg]at b;obtain⟨out,q,rfl⟩:=b;obtain⟨z,hz,hzr⟩:=BL d l;obtain⟨o,s,x⟩:=ES (p:=p) (place:=fun i=>some (i*j.size,j.size)) r (hzr p) q;refine⟨.agg o,?_,by simp_all [Aa]⟩;unfold Instr.build;simp only[Zb,hz,Za,Ac d g,Ao d u,s,Zd]
def Ca(z:List V)(n:Nat):List V:=(List.range n).map fun i=>z.getD (i % z.length)<|.tup []
theorem Ea{z:List V}{c:Array Value}(b:Ab p z c.toList)(a:0<z.length)(n:Nat):Ab p (Ca z n) ((Array.range n).map<|fun i=>c[i % c.size]!).toList:=by
 have o:=b.length;apply Ab.mk (by simp[Ca]);intro i d v g l;have k:i<n:=ae
 simp only[Ca,List.getElem?_map,List.getElem?_range k,Option.map_some,Zc]at g;have f:i % z.length<z.length:=Nat.mod_lt _ a;obtain⟨u,m,q⟩:=b.get (i:=i % z.length) (d:=z[i % z.length]) (by simp[f]);grind
def BX(T:AF)(h:H)(t:TypeId)(len:Nat)(a:List (Nat×V)):Option (V×H):=
 match T.und t with
 |some (.slice e)=>match T.inf e with
  |some i=>
   bif Zi (len*i.size) 16777216&&Zx 0 (i.zero.length)&&Zf i.zero.length i.size then
    match DG (fun k=>some (k*i.size,i.size)) (Ca i.zero<|len*i.size) a with
    |some cs=>some (.sl h.nx 0 len len 0,DK h e cs)
    |none=>none
   else none
  |none=>none
 |_=>none
theorem Lx(g:T.Ok P)(u:R p h w){t:TypeId}{len:Nat}{c:List (Nat×V)}{b:Array (Nat×Value)}(s:JO p c b.toList){v:V}{h':H}
  (d:BX T h t len c=some (v,h')):∃v' p' w',(Instr.buildSlice t len b).run P w=.ok v' w'/\Aa p' v v'/\Ext p h w p' h' w':=by
 unfold BX at d;split at d
 case h_2=>cases d
 rename_i e q;split at d
 case h_2=>cases d
 rename_i i m;cases a:(Zi (len*i.size) 16777216&&Zx 0 (i.zero.length)&&Zf i.zero.length i.size)with
 |false=>grind
 |true=>
  simp only[a,wb]at d;simp only[Zl,Zy,Nat.blt_eq,Al,w5]at a;obtain⟨⟨c1,r⟩,y⟩:=a;split at d
  case h_2=>cases d
  rename_i cs l;cases d;obtain⟨z,x,f⟩:=BL g m;obtain⟨o,h1,h2⟩:=ES (p:=p) (place:=fun k=>some (k*i.size,i.size)) s (Ea (f p) r<|len*i.size) l;obtain⟨n,he,hpn,hn⟩:=Gw u e h2;refine⟨.slice (some ⟨w.heap.size,0,none⟩) len len,_,_,?_,?_,he⟩
  ·unfold Instr.buildSlice;simp only[Zb,Ac g q,Za,Ao g m];by_cases h0:len*i.size=0
   ·grind [Zb,Zd,Za,AW]
   simp_all [AW]
  simp_all [Aa]
def HF(T:AF)(h:H)(t:TypeId)(len cap:V):Option (V×H):=
 match T.und t,len,cap with
 |some (.slice e),.int _<|.ofNat l,.int _ (.ofNat c)=>
  match T.inf e with
  |some i=>
   bif Zi l c&&Zx c 9223372036854775808&&Zi (i.bytes*c) 281474976710656&&Zx 0 i.zero.length&&Zf i.zero.length i.size then
    some (.sl h.nx 0 l c 0,DK h e<|Ca i.zero<|c*i.size)
   else none
  |none=>none
 |_,_,_=>none
theorem wrap_small(c:Nat)(h:c<9223372036854775808):IntKind.i64.wrap (c:Int)=c:=IntWalk.i64_in _ a8
theorem Oz(g:T.Ok P)(y:R p h w){t:TypeId}{len cap:V}{d b:Value}(x:Aa p len d)(s:Aa p cap b){v:V}{h':H}(f:HF T h t len cap=some (v,h')):
  ∃v' p' w',(Instr.makeSlice t d b).run P w=.ok v' w'/\Aa p' v v'/\Ext p h w p' h' w':=by
 unfold HF at f;split at f
 case h_2=>cases f
 rename_i e k l A c r;split at f
 case h_2=>cases f
 rename_i i m;cases a:(Zi l c&&Zx c 9223372036854775808&&Zi (i.bytes*c) 281474976710656&&Zx 0 i.zero.length&&Zf i.zero.length i.size)with
 |false=>grind
 |true=>
  simp only[a,wb,Zc,Zs]at f;obtain⟨rfl,rfl⟩:=f;simp only[Zl,Zy,Nat.blt_eq,Al,w5]at a;obtain⟨⟨⟨⟨c1,c2⟩,c3⟩,c4⟩,c5⟩:=a;subst x s;obtain⟨z,hz,hzr⟩:=BL g m;obtain⟨j,hj,hjb,_⟩:=Hf g m;obtain⟨n,he,hpn,hn⟩:=Gw y e<|Ea (hzr p) c4<|c*i.size;refine⟨.slice (some ⟨w.heap.size,0,none⟩) l c,_,_,?_,?_,he⟩
  ·unfold Instr.makeSlice asInt asIntOf;simp only[Zb,Zd,Ac g r,Za,hj,Zu,wrap_small c c2,wrap_small l a8,hjb];have o:(i.bytes:Int)*(c:Int)=((i.bytes*c:Nat):Int):=(by rfl);rw[o];generalize i.bytes*c=q at c3 o ⊢;have u:¬((decide ((c:Int)<0)||decide ((q:Int)>2^48))||decide ((l:Int)<0)||decide ((l:Int)>(c:Int)))=true:=by
    grind
   rw[w9 u];simp only[Zb,Za,run_askRoom,Ao g m,ZA];by_cases h0:c*i.size=0
   ·grind [Zb,Zd,Za,AW]
   simp_all [AW]
  simp_all [Aa]
def src(h:H)(size:Nat)(x:V)(n:Nat):Option (List V):=
 match x with
 | .nils=>some []
 | .esl=>bif Zf n 0 then some []else none
 | .es0=>bif Zf n 0 then some []else none
 | .sl b off _ _ _=>rd h b off<|n*size
 | .str s=>some<|(s.take n).map fun c=>.int .u8 c.toNat
 |_=>none
def HG:V->Option Nat
 | .nils=>some 0
 | .esl=>some 0
 | .es0=>some 0
 | .sl _ _ len _ _=>some len
 | .str s=>some s.length
 |_=>none
theorem Ho{x:V}{x':Value}(b:Aa p x x'){n:Nat}(a:HG x=some n):(ZH x').run P w=.ok n w:=by
 unfold HG at a;split at a
 case h_1=>subst b;cases a;rfl
 case h_2=>obtain⟨_,_,rfl⟩:=b;cases a;rfl
 case h_3=>obtain⟨_,rfl⟩:=b;cases a;rfl
 case h_4=>obtain⟨_,_,_,_,rfl,_⟩:=b;cases a;rfl
 case h_5=>simp_all [Aa,ZH,AD]
 grind
theorem EV(g:R p h w){size n:Nat}{x:V}{x':Value}(d:Aa p x x'){cs:List V}(b:src h size x n=some cs):
  ∃vs:List Value,(Zj size n x').run P w=.ok vs.toArray w/\Ab p cs vs:=by
 unfold src at b;split at b
 case h_6=>cases b
 case h_1=>subst d;cases b;exact⟨[],rfl,by simp⟩
 case h_2=>
  obtain⟨a,c,rfl⟩:=d;rw[Al]at b;by_cases e:n=0
  ·simp_all [Zj,loadCells,loadCellsFrom]
  grind
 case h_3=>
  obtain⟨a,rfl⟩:=d;rw[Al]at b;by_cases e:n=0
  ·simp_all [Zj,loadCells,loadCellsFrom]
  grind
 case h_4=>
  obtain⟨r,m,c,f,rfl,_⟩:=d;obtain⟨r',m',vs,h1,h2,h3,_⟩:=run_loadCells (P:=P) g b;rw[f]at h1;cases h1;exact⟨vs,h2,h3⟩
 case h_5=>
  rename_i s;simp only[Aa]at d;refine⟨(s.take n).map fun c=>.int .u8 c.toNat,?_,?_⟩
  ·simp_all [Zj,bytesOf]
  grind [Ab.mk,Aa]
theorem LQ(a c:Nat)(h:c<a):2*Zw a c<=3*a+2000:=by
 unfold Zw;grind [Builtin.growBy]
def isInt:TypeDesc->Bool
 | .int _=>true
 |_=>false
def HP:V->Bool
 | .str _=>false
 |_=>true
def CD(T:AF)(h:H)(ts:Array TypeId)(args:List V):Option (V×H):=
 match ts[0]?,ts[1]?,args with
 |some t,some tx,[s,x]=>
  match T.und t,T.und tx,HG x with
  |some (.slice e),some dx,some n=>
   match T.inf e,isInt dx with
   |some i,false=>
    bif Zx 0 i.bytes&&Zx 0 i.size&&Zf i.zero.length i.size&&(Zf i.size 1||HP x)then
     match src h i.size x n with
     |some new=>
      match s with
      | .nils=>
       bif Zf n 0 then some (.nils,h)
       else bif Zi ((3*n+2000)*i.bytes) 562949953421312 then some (.sl h.nx 0 n n i.size,DK h e new)else none
      | .es0=>
       bif Zf n 0 then some (.es0,h)
       else bif Zi ((3*n+2000)*i.bytes) 562949953421312 then some (.sl h.nx 0 n n i.size,DK h e new)else none
      | .esl=>bif Zf n 0 then some (.esl,h)else none
      | .sl b off len cap o=>
       bif Zi (len+n) cap then(wr h b (off+len*i.size) new).map fun h'=>(.sl b off (len+n) cap o,h')
       else bif Zi ((3*(len+n)+2000)*i.bytes) 562949953421312 then
        match src h i.size s len with
        |some old=>
         bif Zf o 0 then some (.sl h.nx 0 (len+n) (len+n) i.size,DK h e<|old++new)
         else
          match h.get b with
          |some (.cells _ a fz)=>
           bif Zf off 0&&Zf o i.size&&Zf a e&&Zi fz.2 fz.1&&new.all V.one then some (.sl h.nx 0 (len+n) (len+n) i.size,(h.kill b).push<|.cells (old++new) e (0,0))
           else none
          |_=>none
        |none=>none
       else none
      |_=>none
     |none=>none
    else none
   |_,_=>none
  |_,_,_=>none
 |_,_,_=>none
theorem IJ{old new:List V}{vo b:List Value}(d:Ab p old vo)(c:Ab p new b)(a:Array Value):
  Ab p (old++new) ((vo.toArray++b.toArray++a).toList.take (old++new).length):=by
 have g:=d.length;have f:=c.length;have:((vo.toArray++b.toArray++a).toList.take (old++new).length)=vo++b:=by
  grind
 rw[this];exact d.append c
section
variable {ts:Array TypeId}{t t0 tx e:TypeId}{dx:TypeDesc}{i:TI}{n:Nat}{x' z:Value}{j:TypeInfo}
theorem HQ(g:T.Ok P)(l:ts[0]?=some t0)(o:ts[1]?=some tx)(q:T.und t0=some (.slice e))(m:T.und tx=some dx)(f:isInt dx=false)
  (s:T.inf e=some i) (r:∀w,(ZH x').run P w=.ok n w) (base:Option Addr) (d c:Nat) (k:d+n<=c):
  (Zr ts t #[.slice base d c,x']).run P w=((Zj i.size n x').run P w).andThen fun new w'=>((match base with|some a=>storeCells (a.add<|d*i.size) new.toList|none=>pure ():Sem Unit).run P w').andThen fun _ w'=>.ok (.slice base (d+n) c) w':=by
 unfold Zr;cases dx<;>first|(cases f;done)|skip
 all_goals
  simp only[l,o,ZF,ZB,ZC,Zb,Ac g q,Ac g m,Ao g s,Za,Zd,Zn,wi,r,k,wg,Bool.not_false];cases base with
  |none=>rfl
  |some b=>simp only[Zb,Zd]
theorem IC(f:T.Ok P)(m:ts[0]?=some t0)(s:ts[1]?=some tx)(B:T.und t0=some (.slice e))(o:T.und tx=some dx)(k:isInt dx=false)
  (v:T.inf e=some i) (u:0<i.bytes) (y:∀w,(zeroValue e).run P w=.ok z w) (E:∀w,(ZH x').run P w=.ok n w) (base:Option Addr) (a c:Nat) (g:c<a+n)
  (b:(3*(a+n)+2000)*i.bytes<=562949953421312):
  ∃l,a+n<=l/\(Zr ts t #[.slice base a c,x']).run P w=((Zj i.size a<|.slice base a c).run P { w with drawn:=w.drawn+1 }).andThen fun old w'=>
   ((Zj i.size n x').run P w').andThen fun new w'=>
    .ok (.slice (some ⟨w'.heap.size,0,none⟩) (a+n) l) { w' with heap:=w'.heap.push (.cells (old++new++Zm z.cells (l-(a+n))) e) }:=by
 obtain⟨j,x,r,D⟩:=Hf f v;have q:=LQ (a+n) c g;have d:2*Zw (a+n) c*i.bytes<=562949953421312:=ZO (Zv _ q) b;rw[Nat.mul_assoc]at d;have F:Zw (a+n) c*i.bytes<=281474976710656:=a8
 refine⟨(Question.appendCap (a+n) c e).cut<|w.tape w.drawn<|.appendCap (a+n) c e,by simp[Question.cut],?_⟩;unfold Zr;have G:¬(a+n<=c):=a8
 have C:¬(Zw (a+n) c*i.bytes>2^48):=a8
 have A:¬(i.bytes=0):=a8
 cases dx<;>first|(cases k;done)|skip
 all_goals
  simp only[m,s,ZF,ZB,ZC,Zb,Ac f B,Ac f o,Ao f v,Za,Zd,Zn,wi,E,Bool.not_false,wg,
   G,x,r,A,or_self,and_false,C,run_choose,Question.forced,run_askRoom,y,AW]
end
theorem DL(z:Array Value)(n:Nat):(Zm z n).size=n*z.size:=by simp[Zm]
theorem HN{size n:Nat}{x:V}{cs:List V}(b:HG x=some n)(c:size=1\/∀s,x≠ .str s)(a:src h size x n=some cs):cs.length=n*size:=by
 unfold src at a;split at a
 case h_6=>cases a
 case h_1=>cases a;cases b;simp
 case h_2=>
  cases b;grind
 case h_3=>
  cases b;grind
 case h_4=>
  rw[MZ]at a;grind [Tj]
 case h_5=>
  cases b;grind
theorem Lv(W:T.Ok P)(C:R p h w){ts:Array TypeId}{t:TypeId}{args:List V}{args':Array Value}(ha:Ab p args args'.toList){v:V}{h':H}(a:CD T h ts args=some (v,h')):
  ∃v' p' w',(Zr ts t args').run P w=.ok v' w'/\Aa p' v v'/\Ext p h w p' h' w':=by
 unfold CD at a;split at a
 case h_2=>cases a
 rename_i t0 tx s x N J;obtain⟨s',x',E,U,hx⟩:=ha.two;have ha0:args'[0]?=some s':=by rw[<-ZE,E];rfl
 have ha1:args'[1]?=some x':=by rw[<-ZE,E];rfl
 split at a
 case h_2=>cases a
 rename_i e dx n hu I D;split at a
 case h_2=>cases a
 rename_i i hi G;cases y:(Zx 0 i.bytes&&Zx 0 i.size&&Zf i.zero.length i.size&&(Zf i.size 1||HP x))with
 |false=>grind
 |true=>
  simp only[y,wb]at a;simp only[Zl,Nat.blt_eq,Al,w5,ZR]at y;obtain⟨⟨⟨c1,c2⟩,c3⟩,c4⟩:=y;have c5:i.size=1\/∀s,x≠ .str s:=c4.imp id (fun h s e=>by subst e;cases h);split at a
  case h_2=>cases a
  rename_i new A;have hnl:=HN D c5 A;obtain⟨vn,Y,B⟩:=EV (P:=P) C hx A;obtain⟨j,hj,hjb,hjs⟩:=Hf W hi;obtain⟨z,hz,hzr⟩:=BL W hi;have hzl:=(hzr p).length;simp at hzl;have hne:args'= #[s',x']:=ae
  subst hne;have g:∀w,(ZH x').run P w=.ok n w:=fun w=>Ho hx D
  have L:∀(base:Option Addr) (c:Nat),n=0->(Zr ts t #[.slice base 0 c,x']).run P w=.ok (.slice base 0 c) w:=by
   intro base c h0;rw[HQ W N J hu I G hi g base 0 c a8,Y];have hv0:vn=[]:=by
    simp_all
   subst hv0;cases base<;>simp[h0,storeCells]
  have some0:∀(base:Option Addr),¬n=0->(3*n+2000)*i.bytes<=562949953421312->∃v' p' w',(Zr ts t #[.slice base 0 0,x']).run P w=.ok v' w'/\Aa p' (.sl h.nx 0 n n i.size) v'/\Ext p h w p' (DK h e new) w':=by
   intro base h0 hb;obtain⟨l,hnc,M⟩:=IC (w:=w) (t:=t) W N J hu I G hi c1 hz g base 0 0 a8 ae;simp only[Nat.zero_add]at M hnc;have f:=Ext.drew C<|w.drawn+1;obtain⟨vn',hvn',hvnr'⟩:=EV (P:=P) f.rel hx A;have K:=Ext.push (n:=l*i.size) f.rel (o:=.cells new e (0,0)) (x:=.cells (#[]++vn'.toArray++Zm z.cells (l-n)) e) ?_
   ·refine⟨.slice (some ⟨w.heap.size,0,none⟩) n l,_,_,?_,?_,f.trans K⟩
    ·rw[M];have hf:∀w,(Zj i.size 0<|Value.slice base 0 0).run P w=.ok #[] w:=by
      intro w;cases base<;>simp[Zj,loadCells,loadCellsFrom]
     grind [Za]
    ·simp only[Aa];refine⟨w.heap.size,l*i.size,l,by rw[<-C.len];simp,rfl,Ze _,by omega,a8,a8⟩
   ·have hl:=hvnr'.length;have hsz:(#[]++vn'.toArray++Zm z.cells (l-n)).size=l*i.size:=by
     simp_all [DL,Nat.sub_mul,Zv]
    refine⟨_,(0,0),rfl,hsz,?_,?_,a8⟩
    ·grind
    ·have:=IJ (p:=p) (old:=[]) (vo:=[]) (by simp) hvnr'<|Zm z.cells<|l-n;simpa using this.Ug
  split at a
  case h_5=>cases a
  case h_1=>
   simp only[Aa]at U;subst U;rw[Al]at a;by_cases h0:n=0
   ·simp only[h0,decide_true,wb,Zc,Zs]at a;obtain⟨rfl,rfl⟩:=a;exact⟨.slice none 0 0,p,w,ae,by rfl,Ext.refl C⟩
   ·simp only[h0,decide_false,wc]at a;cases hb:Zi ((3*n+2000)*i.bytes) 562949953421312 with
    |false=>grind
    |true=>
     simp_all
  case h_2=>
   simp only[Aa]at U;obtain⟨a0,rfl⟩:=U;rw[Al]at a;by_cases h0:n=0
   ·simp only[h0,decide_true,wb,Zc,Zs]at a;obtain⟨rfl,rfl⟩:=a;exact⟨_,p,w,L (some a0) 0 h0,by simp[Aa],Ext.refl C⟩
   ·simp only[h0,decide_false,wc]at a;cases hb:Zi ((3*n+2000)*i.bytes) 562949953421312 with
    |false=>grind
    |true=>
     simp_all
  case h_3=>
   simp only[Aa]at U;obtain⟨a0,c0,rfl⟩:=U;rw[Al]at a;by_cases h0:n=0
   ·simp only[h0,decide_true,wb,Zc,Zs]at a;obtain⟨rfl,rfl⟩:=a;exact⟨_,p,w,L (some a0) c0 h0,by simp[Aa],Ext.refl C⟩
   grind
  case h_4=>
   rename_i b off len cap o;simp only[Aa]at U;obtain⟨r,m,c,hp,rfl,hlen,hcap,ho1,ho2⟩:=U;cases hle:Zi (len+n) cap with
   |true=>
    simp only[hle,wb,Zg,Zs]at a;obtain⟨h1,hw,rfl,rfl⟩:=a;rw[Zy]at hle;obtain⟨r',m',w',g1,g2,g3⟩:=IW (P:=P) C B hw;rw[hp]at g1;cases g1;refine⟨.slice (some ⟨r,off,none⟩) (len+n) c,p,w',?_,?_,g3⟩
    ·rw[HQ W N J hu I G hi g _ len c a8,Y];simp_all
    ·simp only[Aa];grind
   |false=>
    simp only[hle,wc]at a;have hle':¬(len+n<=cap):=by grind [Zy]
    cases hb:Zi ((3*(len+n)+2000)*i.bytes) 562949953421312 with
    |false=>grind
    |true=>
     simp only[hb,wb]at a;rw[Zy]at hb;split at a
     case h_2=>cases a
     rename_i old F;have hol:=HN (x:=.sl b off len cap o) (n:=len) rfl (by simp) F;have hsrel:∀q:Pl,(∃q',q=p++q')->Aa q (.sl b off len cap o) (.slice (some ⟨r,off,none⟩) len c):=by
      rintro q ⟨q',rfl⟩;exact Aa.mono q' (by simp_all)
     have fresh:∀(_:c<len+n) (h2:H),R p h2 { w with drawn:=w.drawn+1 }->h2.nx=h.nx->
       ∃v' p' w',(Zr ts t #[.slice (some ⟨r,off,none⟩) len c,x']).run P w=.ok v' w'/\Aa p' (.sl h.nx 0 (len+n) (len+n) i.size) v'/\
        Ext p h2 { w with drawn:=w.drawn+1 } p' (h2.push<|.cells (old++new) e (0,0)) w':=by
      intro hlt h2 hr2 hnx;obtain⟨l,hnc,M⟩:=IC (w:=w) (t:=t) W N J hu I G hi c1 hz g (some ⟨r,off,none⟩) len c hlt hb;have f:=Ext.drew C<|w.drawn+1;obtain⟨vn',hvn',hvnr'⟩:=EV (P:=P) f.rel hx A;obtain⟨vo',hvo',hvor'⟩:=EV (P:=P) (x:=.sl b off len cap o) f.rel (hsrel p<|by simp) F;have hl:=hvnr'.length;have hl2:=hvor'.length;have hsz:(vo'.toArray++vn'.toArray++Zm z.cells (l-(len+n))).size=l*i.size:=by
       have e1:vn'.length=n*i.size:=a8
       have e2:vo'.length=len*i.size:=a8
       simp only[Array.size_append,DL,List.size_toArray,e1,e2, <-hzl,c3,Nat.sub_mul,Nat.add_mul];have:(len+n)*i.size<=l*i.size:=Zv _ a8;grind
      have K:=Ext.push (n:=l*i.size) hr2 (o:=.cells (old++new) e (0,0)) (x:=.cells (vo'.toArray++vn'.toArray++Zm z.cells (l-(len+n))) e)
       ⟨_,(0,0),rfl,hsz,by grind,(IJ hvor' hvnr' _).Ug,a8⟩
      refine⟨.slice (some ⟨w.heap.size,0,none⟩) (len+n) l,_,_,?_,?_,K⟩
      ·grind [Za]
      ·simp only[Aa];refine⟨w.heap.size,l*i.size,l,?_,rfl,Ze _,by omega,a8,a8⟩;rw[<-hnx, <-hr2.len];simp
     rw[Al]at a;by_cases h0:o=0
     ·simp only[h0,decide_true,wb,Zc,Zs]at a;obtain⟨rfl,rfl⟩:=a;have:=ho1 h0;have f:=Ext.drew C<|w.drawn+1;obtain⟨v',p',w',k1,k2,k3⟩:=fresh a8 h f.rel rfl;exact⟨v',p',w',k1,k2,f.trans k3⟩
     ·simp only[h0,decide_false,wc]at a;split at a
      case h_2=>cases a
      rename_i cs te fz hbk;cases Z:(Zf off 0&&Zf o i.size&&Zf te e&&Zi fz.2 fz.1&&new.all V.one)with
      |false=>grind
      |true=>
       simp only[Z,wb,Zc,Zs]at a;obtain⟨rfl,rfl⟩:=a;simp only[Zl,Zy,Al,w5,List.all_eq_true]at Z;obtain⟨⟨⟨⟨rfl,rfl⟩,rfl⟩,d4⟩,d5⟩:=Z;by_cases S:len+n<=c
       ·
        obtain⟨r',m',cc,fz',g1,g2,g3,g4,g5,g6,g7⟩:=cell_of C hbk;rw[hp]at g1;cases g1;have hm:=ho2 h0;have hl:=B.length;have hone:∀v∈vn,v.oneCell'=true:=by
         intro v hv;obtain⟨k,hk⟩:=List.mem_iff_getElem?.1 hv;have hk':=(Zk.1 hk).1;obtain⟨u,Q,hu2⟩:=B.get (i:=k) (d:=new[k]'a8) (by simp);rw[hk]at Q;cases Q;exact hu2.one ae
        have hbnd:len*i.size+n*i.size<=c*i.size:=by rw[<-Nat.add_mul];simp_all [Zv]
        obtain⟨cc',k1,k2,k3⟩:=Ck (P:=P) vn w cc (len*i.size) 0 g2 a8 hone (by
         grind)
        have hrd:old=cs.take (len*i.size)/\len*i.size<=cs.length:=by
         unfold src at F;simp_all [MZ,Tj]
        refine⟨.slice (some ⟨r,0,none⟩) (len+n) c,p++[(r,m)],{ w with heap:=w.heap.setIfInBounds r (.cells cc' te fz') },?_,?_,Ext.move C (o':=.cells (old++new) te (0,0)) hbk hp ⟨cc',fz',rfl,by omega,?_,?_,?_⟩ rfl rfl rfl rfl (fun _ _ _ e1 hlk=>by cases e1;obtain⟨l1,_,l3⟩:=hlk;omega)⟩
        ·rw[HQ W N J hu I G hi g _ len c S,Y];simp_all
        ·simp only[Aa];exact⟨r,m,c,by rw[<-C.len];simp,rfl,Ze _,S,a8,fun _=>hm⟩
        ·grind
        ·refine⟨?_,?_⟩
         ·grind
         ·intro k d v O X hokk;have hkl:k<(old++new).length:=ae;rw[Zo hkl,k3]at X;rw[List.length_append,hol,hnl]at hkl;simp only[Nat.add_zero,List.getElem?_map]at X;rw[List.getElem?_range a8]at X;by_cases hk:k<len*i.size
          ·rw[List.getElem?_append_left a8,hrd.1,Zo hk]at O;obtain⟨u,Q,hu2⟩:=g5.get O hokk;grind
          ·rw[List.getElem?_append_right a8,hol]at O;obtain⟨u,Q,hu2⟩:=B.get O;grind
        grind
       ·have hk:=Ext.kill C b;have f:=Ext.drew hk.rel<|w.drawn+1;obtain⟨v',p',w',k1,k2,k3⟩:=fresh a8 (h.kill b) f.rel rfl;exact⟨v',p',w',k1,k2,(hk.trans f).trans k3⟩
def Py(T:AF)(h:H)(ts:Array TypeId)(args:List V):Option (V×H):=
 match ts[0]?,args with
 |some t,[d,x]=>
  match T.und t,HG d,HG x with
  |some (.slice e),some a,some n=>
   match T.inf e with
   |some i=>
    match src h i.size x (Nat.min n a)with
    |some new=>
     match d with
     | .nils=>some (i64<|Nat.min n a,h)
     | .sl b off _ _ _=>(wr h b off new).map fun h'=>(i64<|Nat.min n a,h')
     |_=>none
    |none=>none
   |none=>none
  |_,_,_=>none
 |_,_=>none
theorem Pv(o:T.Ok P)(y:R p h w){ts:Array TypeId}{t:TypeId}{args:List V}{args':Array Value}(G:Ab p args args'.toList){v:V}{h':H}(a:Py T h ts args=some (v,h')):
  ∃v' p' w',(Builtin.copy_ ts t args').run P w=.ok v' w'/\Aa p' v v'/\Ext p h w p' h' w':=by
 unfold Py at a;split at a
 case h_2=>cases a
 rename_i t0 d x u;obtain⟨D,x',q,l,s⟩:=G.two;have A:args'= #[D,x']:=ae
 subst A;split at a
 case h_2=>cases a
 rename_i e J n E b C;split at a
 case h_2=>cases a
 rename_i i B;split at a
 case h_2=>cases a
 rename_i new g;obtain⟨I,f,k⟩:=EV (P:=P) y s g;unfold Builtin.copy_;simp only[u,ZF,ZB,ZC,Zb,Ac o E,Za];split at a
 case h_3=>cases a
 case h_1=>
  subst l;simp only[HG,Zc]at b;subst b;cases a;simp only[Zb,Ho s C,Ao o B,Za,f];refine⟨_,p,w,(by rfl),?_,Ext.refl y⟩;rfl
 case h_2=>
  simp only[HG,Zc]at b;subst b;obtain⟨r,m,c,F,rfl,_⟩:=l;rw[Zg]at a;obtain⟨h1,hw,he⟩:=a;cases he;obtain⟨r',m',w',g1,g2,g3⟩:=IW (P:=P) y k hw;rw[F]at g1;cases g1;simp only[Zb,Ho s C,Ao o B,Za,f,g2];refine⟨_,p,w',(by rfl),?_,g3⟩;rfl
def I7(T:AF)(h:H)(t:TypeId)(x:V):Option (V×H):=
 match T.und t,x with
 |some .string,.str s=>some (.ptr h.nx 0,h.push<|.siter s 0)
 |_,_=>none
theorem Nb(f:T.Ok P)(b:R p h w){t:TypeId}{x:V}{x':Value}(c:Aa p x x'){v:V}{h':H}(a:I7 T h t x=some (v,h')):
  ∃v' p' w',(Instr.range t x').run P w=.ok v' w'/\Aa p' v v'/\Ext p h w p' h' w':=by
 unfold I7 at a;split at a
 case h_2=>cases a
 rename_i s g;cases a;subst c;have d:=Ext.push (n:=0) b (o:=.siter s 0) (x:=.stringIter (bytesOf s) 0) rfl;refine⟨.pointer<|some ⟨w.heap.size,0,none⟩,_,_,?_,?_,d⟩
 ·unfold Instr.range;simp only[Zb,Ac f g,Za,Zd,run_newObj]
 ·exact⟨w.heap.size,0,by rw[<-b.len];simp,rfl⟩
def Gb(h:H)(c:V)(a:Bool):Option (V×H):=
 match c,a with
 | .ptr b 0,true=>
  match h.get b with
  |some (.siter s pos)=>
   bif Zx pos s.length then
    some (.tup [.bool true,i64 pos,.int .i32 (Utf8.decode (bytesOf s) pos).1],h.put b<|.siter s<|pos+(Utf8.decode (bytesOf s) pos).2)
   else some (.tup [.bool false],h)
  |_=>none
 |_,_=>none
theorem O7(f:R p h w){m:V}{d:Value}{a:Bool}{t:TypeId}(u:Aa p m d){v:V}{h':H}(b:Gb h m a=some (v,h')):
  ∃v' p' w',(Instr.next d a t).run P w=.ok v' w'/\Aa p' v v'/\Ext p h w p' h' w':=by
 unfold Gb at b;split at b
 case h_2=>cases b
 obtain⟨r,n,l,rfl⟩:=u;split at b
 case h_2=>cases b
 rename_i s pos g;obtain⟨y,n',x,o,k,q⟩:=f.obj _ _ g;rw[l]at o;cases o;subst q;rw[Dn]at b;unfold Instr.next;simp only[Zb,getObj,ZS,k,Za,AD];by_cases c:pos<s.length
 ·simp only[c,decide_true,wb,Zc,Zs]at b;obtain⟨rfl,rfl⟩:=b;simp only[c,wg,Zb,setObj,ZS,k,Za];refine⟨_,p,_,Zd ..,?_,Ext.put f g l (o':=.siter s<|pos+(Utf8.decode (bytesOf s) pos).2) rfl rfl rfl rfl rfl⟩;simp[Aa,i64,goInt]
 ·simp only[c,decide_false,wc,Zc,Zs]at b;obtain⟨rfl,rfl⟩:=b;simp only[c,wi];exact⟨_,p,w,(by rfl),by simp[Aa],Ext.refl f⟩
def Dz(h:H)(r:Option V):Option (V×H):=
 match r with
 |none=>some (.map h.nx,h.push<|.map [] 0)
 |some _=>none
theorem J2(c:R p h w){t:TypeId}{r:Option V}{b:Option Value}(d:C0 p r b){v:V}{h':H}(a:Dz h r=some (v,h')):
  ∃v' p' w',(Instr.makeMap t b).run P w=.ok v' w'/\Aa p' v v'/\Ext p h w p' h' w':=by
 unfold Dz at a;split at a
 case h_2=>cases a
 cases a;subst d;have f:=Ext.push (n:=0) c (o:=.map [] 0) (x:=.map #[] 0) ⟨#[],rfl,.nil⟩;refine⟨.map<|some w.heap.size,_,_,?_,?_,f⟩
 ·rfl
 ·exact⟨w.heap.size,0,by rw[<-c.len];simp,rfl⟩
def P0(T:AF)(d:TypeId)(a b:V):Option Bool:=
 match T.und d,a,b with
 |some (.int _),.int k x,.int c y=>if k=c then some (x==y)else none
 |some .string,.str x,.str y=>some<|x==y
 |some .bool,.bool x,.bool y=>some<|x==y
 |_,_,_=>none
def Fa(T:AF)(b:TypeId)(k:V):List (V×V×Nat)->Nat->Option (Option<|Nat×V)
 |[],_=>some none
 |(a,v,_)::es,i=>
  match P0 T b k a with
  |some true=>some<|some (i,v)
  |some false=>Fa T b k es<|i+1
  |none=>none
def plainKey:V->Bool
 | .int .. | .str _| .bool _=>true
 |_=>false
theorem bytes_beq(x y:ByteArray):(x==y)=(x.data==y.data):=rfl
theorem MT{k:TypeId}{a b:V}{g b':Value}(l:Aa p a g)(m:Aa p b b'){r:Bool}(f:P0 T k a b=some r){d:TypeDesc}(o:T.und k=some d):
  ZL d g b'=some r/\(r=true->g=b'):=by
 unfold P0 at f;split at f
 case h_1=>
  grind [Aa,ZL]
 case h_2=>
  rename_i c;rw[o]at c;simp only[Aa]at l m;cases f;simp_all [ZL,bytes_beq,bytesOf]
 case h_3=>
  rename_i c;rw[o]at c;cases c;subst l m;cases f;exact⟨rfl,(by simp)⟩
 grind
theorem P9{m:TypeId}{k:V}{f:Value}(x:Aa p k f){d:TypeDesc}(q:T.und m=some d):
  ∀ {es:List (V×V×Nat)} {l:List MapEntry},Bo p es l->∀ {i:Nat} {r:Option (Nat×V)},Fa T m k es i=some r->
  ∃g,ZI d f l i=some g/\(match r with|none=>g=none|some (j,v)=>∃v',g=some (j,v')/\Aa p v v'/\i<=j/\∃e,l[j-i]?=some e/\e.key=f):=by
 intro es l o;induction o with
 |nil=>intro i r c;simp only[Fa,Zc]at c;subst c;exact⟨none,rfl,rfl⟩
 |@cons a v b es e l u B A _ D=>
  intro i r c;unfold Fa at c;split at c
  case h_1=>
   rename_i s;cases c;obtain⟨C,y⟩:=MT x u s q;simp_all [ZI]
  case h_2=>
   grind [MT,ZI]
  grind
theorem run_checkKey{k:V}{a:Value}(q:Aa p k a)(c:plainKey k=true)(m:T.Ok P){f:TypeId}{d:TypeDesc}(o:T.und f=some d)(g:BC d=false)(r:∀l,d≠ .interface l)(b:Bool):
  (ZJ b 10000 f a).run P w=.ok () w:=by
 unfold ZJ;rw[Zb,Ac m o];cases k<;>simp only[plainKey]at c<;>simp only[Aa]at q
 case bool|int|str=>
  cases d<;>first|rfl|(cases g;done)|grind
 all_goals cases c
def Ol:TypeDesc->Bool
 | .int _| .string| .bool=>true
 |_=>false
theorem N0{d:TypeDesc}(h:Ol d=true):BC d=false/\∀a,d≠ .interface a:=by
 cases d<;>first|(cases h;done)|exact⟨rfl,fun a e=>by cases e⟩
theorem H7{k:V}{a:Value}(c:Aa p k a)(b:plainKey k=true):Zt 10000 a a=true:=by
 cases k<;>simp only[plainKey]at b<;>simp only[Aa]at c
 case bool=>grind [Zt]
 case int=>grind [Zt]
 case str=>grind [Zt,bytes_beq]
 all_goals cases b
theorem JV{a b:V}{c b':Value}(f:Aa p a c)(d:Aa p b b')(h:BH a b=some true):c=b':=by
 unfold BH at h;grind [Aa]
theorem EN:∀ {d g:List V} {x y:List Value},Ab p d x->Ab p g y->Az d g=some true->x=y
 |[],[],x,y,f,c,_=>by simp_all
 |[],_::_,_,_,_,_,h=>by simp[Az]at h
 |_::_,[],_,_,_,_,h=>by simp[Az]at h
 |a::r,b::q,x,y,f,c,h=>by
  obtain⟨u,o,rfl,m,k⟩:=f;obtain⟨v,vs,rfl,h3,h4⟩:=c;unfold Az at h;split at h
  case h_1=>
   rename_i l;rw[JV m h3 l,EN k h4 h]
  case h_2=>grind
  grind
theorem JT:∀ {ks:List FK} {c:List V} {x:List Value},fit ks c=true->Ab p c x->(x.zip x).all (fun(a,b)=>Zt 9999 a b)=true
 |[],[],x,_,d=>by simp_all
 |[],_::_,_,h,_=>by simp[fit]at h
 |_::_,[],_,h,_=>by simp_all
 |k::ks,v::vs,x,h,d=>by
  obtain⟨u,m,rfl,o,l⟩:=d;unfold fit at h;cases f:k.ok v with
  |false=>grind
  |true=>
   simp only[f,wb]at h;have g:=JT h l;simp only[List.zip_cons_cons,List.all_cons,g,Bool.and_true];unfold FK.ok at f;grind [Aa,Zt,bytes_beq]
def GZ(ks:List FK)(k:List V):List (V×V×Nat)->Nat->Option (Option<|Nat×V)
 |[],_=>some none
 |(a,v,_)::es,i=>
  match a with
  | .agg b=>match G2 (some ks) k b with
   |some true=>some<|some (i,v)
   |some false=>GZ ks k es<|i+1
   |none=>none
  |_=>none
def DM(T:AF)(a:TypeId)(d:TypeDesc)(k:V):Bool:=
 match k with
 | .agg b=>match T.flat a with
  |some ks=>fit ks b
  |none=>false
 |k=>plainKey k&&Ol d
def EC(T:AF)(a:TypeId)(k:V)(es:List (V×V×Nat)):Option (Option<|Nat×V):=
 match k with
 | .agg b=>match T.flat a with
  |some ks=>GZ ks b es 0
  |none=>none
 |k=>Fa T a k es 0
theorem Hc(B:T.Ok P){f:TypeId}{ks:List FK}(C:T.flat f=some ks){g:List V}{x:Array Value}(D:Ab p g x.toList):
  ∀ {es:List (V×V×Nat)} {l:List MapEntry},Bo p es l->∀ {i:Nat} {r:Option (Nat×V)},GZ ks g es i=some r->
  ∃d,(ZG f (.agg x) l i).run P w=.ok d w/\(match r with|none=>d=none|some (j,v)=>∃v',d=some (j,v')/\Aa p v v'/\i<=j/\∃e,l[j-i]?=some e/\e.key=.agg x):=by
 intro es l F;induction F with
 |nil=>intro i r c;simp only[GZ,Zc]at c;subst c;exact⟨none,rfl,rfl⟩
 |@cons a v b es e l k G K _ I=>
  intro i r c;unfold GZ at c;split at c
  case h_2=>cases c
  rename_i E;obtain⟨y,A,k⟩:=k;split at c
  case h_3=>cases c
  case h_1=>
   rename_i q;cases c;obtain⟨l',u,o,m,s⟩:=C6 q;cases u;refine⟨some (i,e.val),?_,e.val,rfl,G,Ze _,e,by simp,?_⟩
   ·simp only[ZG,Zb,A,B.flat f ks C p g E x y true w o m D k s,Za,wg,Zd]
   grind [EN,Array.toList_inj]
  case h_2=>
   rename_i q;obtain⟨l',u,o,m,s⟩:=C6 q;cases u;obtain⟨d,k1,k2⟩:=I c;refine⟨d,?_,?_⟩
   ·simp only[ZG,Zb,A,B.flat f ks C p g E x y false w o m D k s,Za,Zn,wi];exact k1
   ·cases r with
    |none=>exact k2
    |some J=>
     grind
theorem D3(o:T.Ok P){c:TypeId}{d:TypeDesc}(r:T.und c=some d){k:V}{f:Value}(q:Aa p k f)(a:DM T c d k=true)(b:Bool):
  (ZJ b 10000 c f).run P w=.ok () w:=by
 unfold DM at a;split at a
 case h_1=>
  rename_i g;split at a
  case h_2=>cases a
  rename_i ks l;obtain⟨x,rfl,m⟩:=q;exact o.key c ks l p g x b w a m
 case h_2=>
  grind [N0,run_checkKey]
theorem Lt{c:TypeId}{d:TypeDesc}{k:V}{b:Value}(g:Aa p k b)(a:DM T c d k=true):Zt 10000 b b=true:=by
 unfold DM at a;split at a
 case h_1=>
  split at a
  case h_2=>cases a
  obtain⟨x,rfl,f⟩:=g;have:=JT a f;simp_all [Zt]
 case h_2=>
  grind [H7]
def entries(h:H)(m:V):Option (List<|V×V×Nat):=
 match m with
 | .nilm=>some []
 | .map b=>match h.get b with
  |some (.map es _)=>some es
  |_=>none
 |_=>none
def BU(T:AF)(h:H)(t:TypeId)(m k:V)(ok:Bool):Option V:=
 match T.und t with
 |some (.map a e)=>
  match T.und a,entries h m with
  |some d,some es=>
   bif DM T a d k then
    match EC T a k es with
    |some (some (_,v))=>some<|bif ok then .tup [v,.bool true]else v
    |some none=>match T.inf e with
     |some i=>some<|bif ok then .tup [i.zv,.bool false]else i.zv
     |none=>none
    |none=>none
   else none
  |_,_=>none
 |_=>none
theorem Fq(q:R p h w){m:V}{d:Value}(f:Aa p m d){es:List (V×V×Nat)}(a:entries h m=some es):
  (d=.map none/\es=[])\/∃r l c b n,m=.map b/\d=.map (some r)/\p[b]?=some (r,n)/\h.get b=some (.map es c)/\w.heap[r]?=some (.map l c)/\Bo p es l.toList:=by
 unfold entries at a;split at a
 case h_1=>simp_all [Aa]
 case h_2=>
  simp only[Aa]at f;split at a
  case h_2=>cases a
  rename_i k c g;obtain⟨y,n',o,x,v,l,s,u⟩:=q.obj _ _ g;grind
 grind
theorem run_findKey(g:T.Ok P){b:TypeId}{k:V}{o:Value}(A:Aa p k o){d:TypeDesc}(m:T.und b=some d){es:List (V×V×Nat)}{l:List MapEntry}(u:Bo p es l)
  {r:Option (Nat×V)} (c:EC T b k es=some r):
  ∃a,(ZM b o l).run P w=.ok a w/\(match r with|none=>a=none|some (j,v)=>∃v',a=some (j,v')/\Aa p v v'/\∃e,l[j]?=some e/\e.key=o):=by
 by_cases f:∃q,k=.agg q
 ·obtain⟨q,rfl⟩:=f;simp only[EC]at c;cases s:T.flat b with
  |none=>grind
  |some ks=>
   simp only[s]at c;obtain⟨x,rfl,B⟩:=A;obtain⟨a,y,C⟩:=Hc (P:=P) (w:=w) g s B u c;refine⟨a,?_,?_⟩
   ·unfold ZM;simp only[Zb,Ac g m,Za];cases l with
    |nil=>grind [ZI,ZG]
    |cons e l=>grind [ZI,ZL]
   grind
 ·have D:EC T b k es=Fa T b k es 0:=by cases k<;>first|rfl|grind
  rw[D]at c;obtain⟨a,y,C⟩:=P9 A m u c;refine⟨a,?_,?_⟩
  ·unfold ZM;simp only[Zb,Ac g m,Za,y,Zd]
  grind
theorem LC(f:T.Ok P)(L:R p h w){t:TypeId}{m k:V}{B s:Value}{ok:Bool}(F:Aa p m B)(q:Aa p k s){v:V}(a:BU T h t m k ok=some v):
  ∃v',(ZQ t B s ok).run P w=.ok v' w/\Aa p v v':=by
 unfold BU at a;split at a
 case h_2=>cases a
 rename_i C e D;split at a
 case h_2=>cases a
 rename_i d es c x;cases u:DM T C d k with
 |false=>grind
 |true=>
  simp only[u,wb]at a;obtain⟨l,o,g⟩:∃l:List MapEntry,Bo p es l/\(ZQ t B s ok).run P w=((ZM C s l).run P w).andThen fun r w'=>
    match r with
    |some (_,v)=>.ok (if ok then .tuple #[v,.bool true]else v) w'
    |none=>((zeroValue e).run P w').andThen fun z w'=>.ok (if ok then .tuple #[z,.bool false]else z) w':=by
   rcases Fq L F x with⟨rfl,rfl⟩|⟨r,l,M,b,n,rfl,rfl,O,N,E,G⟩
   ·refine⟨[],.nil,?_⟩;unfold ZQ;simp only[Zb,Ac f D,Za,Zd,D3 f c q u];congr 1;funext r w'
    cases r<;>simp
   ·refine⟨l.toList,G,?_⟩;unfold ZQ;simp only[Zb,Ac f D,Za,Zd,D3 f c q u,getObj,ZS,E];congr 1;funext r w'
    cases r<;>simp
  rw[g];split at a
  case h_3=>cases a
  case h_1=>
   rename_i j v0 y;cases a;obtain⟨K,A,v',rfl,Q,_⟩:=run_findKey (P:=P) (w:=w) f q c o y;simp only[A,Za];cases ok
   ·grind
   simp_all [Aa]
  case h_2=>
   rename_i y;split at a
   case h_2=>cases a
   rename_i i J;cases a;obtain⟨K,A,I⟩:=run_findKey (P:=P) (w:=w) f q c o y;subst I;obtain⟨z,hz,hzr⟩:=SV f J;simp only[A,Za,hz];cases ok
   ·grind
   simp_all [Aa]
def LN(es:List (V×V×Nat))(i:Nat)(k v:V):List (V×V×Nat):=es.modify i fun e=>(k,v,e.2.2)
theorem Bo.modify{es:List (V×V×Nat)}{l:List MapEntry}(g:Bo p es l){k v:V}{d v':Value}(s:Aa p k d)(r:Aa p v v')(i:Nat):
  Bo p (LN es i k v) (l.modify i fun e=>{ e with key:=d,val:=v' }):=by
 unfold LN;induction g generalizing i with
 |nil=>simp;exact .nil
 |@cons a x b es e l o m c f q=>
  cases i with
  |zero=>simp;exact .cons s r c f
  |succ i=>simp;exact .cons o m c<|q i
theorem Bo.snoc{es:List (V×V×Nat)}{l:List MapEntry}(c:Bo p es l){k v:V}{e:MapEntry}(m:Aa p k e.key)(f:Aa p v e.val):Bo p (es++[(k,v,e.born)]) (l++[e]):=by
 induction c with
 |nil=>exact .cons m f rfl .nil
 |cons b g a _ d=>exact .cons b g a d
def Dc(T:AF)(h:H)(t:TypeId)(m k v:V):Option H:=
 match T.und t,m with
 |some (.map a _),.map b=>
  match T.und a,h.get b with
  |some d,some (.map es c)=>
   bif DM T a d k then
    match EC T a k es with
    |some (some (i,_))=>some<|h.put b<|.map (LN es i k v) c
    |some none=>some<|h.put b<|.map (es++[(k,v,c)])<|c+1
    |none=>none
   else none
  |_,_=>none
 |_,_=>none
theorem Lf(y:T.Ok P)(E:R p h w){t:TypeId}{m k v:V}{I g v':Value}(F:Aa p m I)(f:Aa p k g)(G:Aa p v v'){h':H}(a:Dc T h t m k v=some h'):
  ∃w',(Instr.mapUpdate t I g v').run P w=.ok () w'/\Ext p h w p h' w':=by
 unfold Dc at a;split at a
 case h_2=>cases a
 rename_i K e b N;split at a
 case h_2=>cases a
 rename_i d es s c u;cases B:DM T K d k with
 |false=>grind
 |true=>
  simp only[B,wb]at a;rcases Fq (es:=es) E F (by simp only[entries,u])with⟨rfl,_⟩|⟨r,l,M,b',n,O,rfl,J,q,A,x⟩
  ·simp[Aa]at F
  ·cases O;rw[u]at q;cases q;unfold Instr.mapUpdate;simp only[Zb,Ac y N,Za,D3 y c f B,getObj,ZS,A];split at a
   case h_3=>cases a
   case h_1=>
    rename_i j v0 C;cases a;obtain⟨Q,D,v1,rfl,X,U,S,W⟩:=run_findKey (P:=P) (w:=w) y f c x C;simp only[D,Za];have o:(l[j]?.map (·.key)).getD g=g:=by
     grind
    rw[o];unfold Instr.keyThatStays;simp only[Lt f B,wg,Zb,Zd,Za,setObj,ZS,A];refine⟨_,rfl,Ext.put E u J (o':=.map (LN es j k v) s) ⟨_,rfl,?_⟩ rfl rfl rfl rfl⟩;have:=x.modify f G j;grind
   case h_2=>
    rename_i C;cases a;obtain⟨Q,D,L⟩:=run_findKey (P:=P) (w:=w) y f c x C;subst L;simp only[D,Za,setObj,ZS,A];refine⟨_,rfl,Ext.put E u J (o':=.map (es++[(k,v,s)])<|s+1) ⟨_,rfl,?_⟩ rfl rfl rfl rfl⟩;have:=x.snoc (e:={ key:=g,val:=v',born:=s }) f G;grind
end
end Go.Det
