import Derived.Test.YtobmcolckeoejaaGreatDoorX04
import Derived.Shelf.SlSortCmp.WholeK
import Derived.Below
/- A part of a proof; no law is stated here. -/
noncomputable section
open Nat renaming beq -> zc, add -> zf, blt -> zn, ble -> zq, mul -> zt
open Int renaming mul_le_mul_of_nonneg_left -> zd, toNat -> ze, pow_succ -> zh, add_mul_emod_self_left -> zj, mul_comm -> zr
open BitVec renaming ofInt -> zg
open List renaming replicate -> zi, cons_append -> zk, drop_eq_nil_of_le -> zm
open Bool renaming and_eq_true -> zl
open Go.Op renaming bytesLess -> zo
open Go.Utf8 renaming decode -> zp
namespace Go.Det
open Go.Proofs Go.Sort
def eQ:Go.Shelf.Ren:=⟨fun|6=>95|15=>144|14=>143|28=>191|29=>192|20=>183|21=>184|22=>185|23=>186|24=>187|25=>188|26=>189|27=>190|46=>223|47=>224|48=>225|49=>226|50=>227|57=>251|n=>n,fun|22=>65|24=>63|25=>125|3=>3|39=>164|0=>0|53=>212|55=>185|4=>4|46=>206|45=>205|50=>104|5=>5|9=>9|66=>234|70=>238|76=>264|77=>265|n=>n,fun|n=>n⟩
theorem Afd:Go.Proofs.SlLaysF0.n6 Go.Proofs.Tryz.prog eQ:=
 {mixed:=by kernel_rfl,
  f6:=⟨Go.Proofs.Tryz.f95.name,by kernel_rfl,Go.Proofs.Tryz.func95.trans<|wi some ag⟩,
  f14:=⟨Go.Proofs.Tryz.f143.name,by kernel_rfl,Go.Proofs.Tryz.func143.trans<|wi some ag⟩,
  f15:=Go.Proofs.Tryz.func144.trans (wi some ag),
  f20:=⟨Go.Proofs.Tryz.f183.name,by kernel_rfl,Go.Proofs.Tryz.func183.trans<|wi some ag⟩,
  f21:=⟨Go.Proofs.Tryz.f184.name,by kernel_rfl,Go.Proofs.Tryz.func184.trans<|wi some ag⟩,
  f22:=⟨Go.Proofs.Tryz.f185.name,by kernel_rfl,Go.Proofs.Tryz.func185.trans<|wi some ag⟩,
  f23:=⟨Go.Proofs.Tryz.f186.name,by kernel_rfl,Go.Proofs.Tryz.func186.trans<|wi some ag⟩,
  f24:=⟨Go.Proofs.Tryz.f187.name,by kernel_rfl,Go.Proofs.Tryz.func187.trans<|wi some ag⟩,
  f25:=⟨Go.Proofs.Tryz.f188.name,by kernel_rfl,Go.Proofs.Tryz.func188.trans<|wi some ag⟩,
  f26:=⟨Go.Proofs.Tryz.f189.name,by kernel_rfl,Go.Proofs.Tryz.func189.trans<|wi some ag⟩,
  f27:=⟨Go.Proofs.Tryz.f190.name,by kernel_rfl,Go.Proofs.Tryz.func190.trans<|wi some ag⟩,
  f28:=Go.Proofs.Tryz.func191.trans (wi some ag),
  f29:=Go.Proofs.Tryz.func192.trans (wi some ag),
  f46:=⟨Go.Proofs.Tryz.f223.name,by kernel_rfl,Go.Proofs.Tryz.func223.trans<|wi some ag⟩,
  f47:=Go.Proofs.Tryz.func224.trans (wi some ag),
  f48:=Go.Proofs.Tryz.func225.trans (wi some ag),
  f49:=⟨Go.Proofs.Tryz.f226.name,by kernel_rfl,Go.Proofs.Tryz.func226.trans<|wi some ag⟩,
  f50:=⟨Go.Proofs.Tryz.f227.name,by kernel_rfl,Go.Proofs.Tryz.func227.trans<|wi some ag⟩,
  f57:=⟨Go.Proofs.Tryz.f251.name,by kernel_rfl,Go.Proofs.Tryz.func251.trans<|wi some ag⟩,
  t0:=Go.Proofs.Tryz.underlying0,
  a0:=Go.Proofs.Tryz.isAgg0,
  z0:=Go.Proofs.Tryz.sizeOf0,
  v0:=Go.Proofs.Tryz.zeroValue0,
  t3:=Go.Proofs.Tryz.underlying3,
  a3:=Go.Proofs.Tryz.isAgg3,
  z3:=Go.Proofs.Tryz.sizeOf3,
  v3:=Go.Proofs.Tryz.zeroValue3,
  t4:=Go.Proofs.Tryz.underlying4,
  a4:=Go.Proofs.Tryz.isAgg4,
  z4:=Go.Proofs.Tryz.sizeOf4,
  v4:=Go.Proofs.Tryz.zeroValue4,
  t5:=Go.Proofs.Tryz.underlying5,
  a5:=Go.Proofs.Tryz.isAgg5,
  z5:=Go.Proofs.Tryz.sizeOf5,
  v5:=Go.Proofs.Tryz.zeroValue5,
  t9:=Go.Proofs.Tryz.underlying9,
  a9:=Go.Proofs.Tryz.isAgg9,
  z9:=Go.Proofs.Tryz.sizeOf9,
  v9:=Go.Proofs.Tryz.zeroValue9,
  t22:=Go.Proofs.Tryz.underlying65,
  a22:=Go.Proofs.Tryz.isAgg65,
  z22:=Go.Proofs.Tryz.sizeOf65,
  v22:=Go.Proofs.Tryz.zeroValue65,
  t25:=Go.Proofs.Tryz.underlying125,
  a25:=Go.Proofs.Tryz.isAgg125,
  z25:=Go.Proofs.Tryz.sizeOf125,
  v25:=Go.Proofs.Tryz.zeroValue125,
  t39:=Go.Proofs.Tryz.underlying164,
  a39:=Go.Proofs.Tryz.isAgg164,
  z39:=Go.Proofs.Tryz.sizeOf164,
  v39:=Go.Proofs.Tryz.zeroValue164,
  t45:=Go.Proofs.Tryz.underlying205,
  a45:=Go.Proofs.Tryz.isAgg205,
  z45:=Go.Proofs.Tryz.sizeOf205,
  v45:=Go.Proofs.Tryz.zeroValue205,
  t46:=Go.Proofs.Tryz.underlying206,
  a46:=Go.Proofs.Tryz.isAgg206,
  z46:=Go.Proofs.Tryz.sizeOf206,
  v46:=Go.Proofs.Tryz.zeroValue206,
  t50:=Go.Proofs.Tryz.underlying104,
  a50:=Go.Proofs.Tryz.isAgg104,
  z50:=Go.Proofs.Tryz.sizeOf104,
  v50:=Go.Proofs.Tryz.zeroValue104,
  t53:=Go.Proofs.Tryz.underlying212,
  a53:=Go.Proofs.Tryz.isAgg212,
  z53:=Go.Proofs.Tryz.sizeOf212,
  v53:=Go.Proofs.Tryz.zeroValue212,
  t55:=Go.Proofs.Tryz.underlying185,
  a55:=Go.Proofs.Tryz.isAgg185,
  z55:=Go.Proofs.Tryz.sizeOf185,
  v55:=Go.Proofs.Tryz.zeroValue185,
  t66:=Go.Proofs.Tryz.underlying234,
  a66:=Go.Proofs.Tryz.isAgg234,
  z66:=Go.Proofs.Tryz.sizeOf234,
  v66:=Go.Proofs.Tryz.zeroValue234,
  t70:=Go.Proofs.Tryz.underlying238,
  a70:=Go.Proofs.Tryz.isAgg238,
  z70:=Go.Proofs.Tryz.sizeOf238,
  v70:=Go.Proofs.Tryz.zeroValue238,
  t76:=Go.Proofs.Tryz.underlying264,
  a76:=Go.Proofs.Tryz.isAgg264,
  z76:=Go.Proofs.Tryz.sizeOf264,
  v76:=Go.Proofs.Tryz.zeroValue264,
  t77:=Go.Proofs.Tryz.underlying265,
  a77:=Go.Proofs.Tryz.isAgg265,
  z77:=Go.Proofs.Tryz.sizeOf265,
  v77:=Go.Proofs.Tryz.zeroValue265 }
end Go.Det
namespace Go.Sp
def val(b:Int):List Int->Int
 |[]=>0
 |d::r=>d+b*val b r
def Az(b:Int)(l:List Int):Prop:=∀d∈l,0<=d/\d<b
def nz(l:List Int):Prop:=l.getLast?≠some 0
def Zc(b:Nat):Nat->Nat->List Int
 |0,_=>[]
 |f+1,n=>if n=0 then[]else((n % b:Nat):Int)::Zc b f (n/b)
def dg(b:Nat)(n:Int):List Int:=Zc b n.toNat n.toNat
def AB:List Int->List Int
 |[]=>[]
 |d::r=>match AB r with
  |[]=>if d=0 then[]else[d]
  |s=>d::s
theorem AE{b:Int}(a:0<=b):∀ {l:List Int},Az b l->0<=val b l
 |[],_=>Int.le_refl _
 |d::r,h=>by
  have f:=(h d<|by simp).1;have c:=AE a (l:=r) fun x e=>h x (by simp[e])
  have:=Int.mul_nonneg a c;unfold val;omega
theorem C3(b:Int):∀(l r:List Int),val b (l++r)=val b l+b^l.length*val b r
 |[],r=>by simp[val]
 |d::l,r=>by
  rw[zk,val,C3 b l r,val,List.length_cons,zh,Int.mul_add,Int.add_assoc, <-Int.mul_assoc,zr b<|b^l.length]
theorem MG(b:Int):∀n,val b (zi n 0)=0
 |0=>rfl
 |n+1=>by rw[List.replicate_succ,val,MG b n];simp
theorem Bp{b:Int}(c:0<b):∀ {l:List Int},Az b l->val b l<b^l.length
 |[],_=>by simp[val]
 |d::r,h=>by
  have f:=(h d<|by simp).2;have g:=Bp c (l:=r) fun x a=>h x (by simp[a])
  have e:b*val b r<=b*(b^r.length-1):=zd ae ae;rw[val,List.length_cons,zh,zr (b^r.length) b];grind
theorem J2(b:Int):∀l,val b (AB l)=val b l
 |[]=>rfl
 |d::r=>by
  have a:=J2 b r;grind [AB,val]
theorem Ia{b:Int}:∀ {l:List Int},Az b l->Az b (AB l)
 |[],h=>h
 |d::r,h=>by
  have c:=Ia (l:=r) fun x a=>h x (by simp[a])
  have e:=h d (by simp);unfold AB;split
  ·split
   ·grind
   ·intro x a;grind
  ·intro x a;rcases List.mem_cons.1 a with rfl|a
   ·exact e
   ·exact c x a
theorem LG:∀l:List Int,nz<|AB l
 |[]=>by simp[nz,AB]
 |d::r=>by
  have a:=LG r;grind [AB,nz]
theorem Jh:∀ {l:List Int},nz l->AB l=l
 |[],_=>rfl
 |d::r,h=>by
  unfold AB;cases r with
  |nil=>
   grind [nz,AB]
  |cons a t=>
   have:nz (a::t):=by grind [nz]
   rw[Jh this]
theorem J3{b:Int}(c:0<b):∀ {l:List Int},Az b l->nz l->l≠[]->0<val b l
 |[],_,_,h=>wh rfl h
 |d::r,h,g,_=>by
  have f:=(h d<|by simp).1;have hr:Az b r:=fun x e=>h x (by simp[e])
  unfold val;cases r with
  |nil=>
   grind [nz,val]
  |cons a t=>
   have:=J3 c hr (by grind [nz]) (by simp);have:=Int.mul_pos c this;omega
theorem val_inj{b:Int}(f:0<b):∀ {l r:List Int},Az b l->Az b r->nz l->nz r->val b l=val b r->l=r
 |[],[],_,_,_,_,_=>rfl
 |[],x::r,_,c,_,e,h=>by have:=J3 f c e (by simp);grind [val]
 |x::l,[],a,_,n1,_,h=>by have:=J3 f a n1 (by simp);grind [val]
 |x::l,y::r,a,c,n1,e,h=>by
  have a1:=a x (by simp);have a2:=c y (by simp);unfold val at h;have j:x=y:=by
   have g:(x+b*val b l) % b=(y+b*val b r) % b:=by rw[h]
   rw[zj,zj,Int.emod_eq_of_lt a1.1 a1.2,Int.emod_eq_of_lt a2.1 a2.2]at g;exact g
  subst j;have i:val b l=val b r:=by
   grind [Int.eq_of_mul_eq_mul_left]
  have t1:∀ {x:Int} {l:List Int},nz (x::l)->nz l:=by
   grind [nz]
  rw[val_inj f (fun z d=>a z<|by simp[d]) (fun z d=>c z<|by simp[d]) (t1 n1) (t1 e) i]
theorem U5(b:Nat)(a:2<=b):∀f n,n<=f->val b (Zc b f n)=n
 |0,n,h=>by simp[Zc,val];omega
 |f+1,n,h=>by
  unfold Zc;split
  ·rename_i h0;subst h0;rfl
  ·have c:n/b<=f:=by
    have:n/b<n:=Nat.div_lt_self ae a;omega
   rw[val,U5 b a f (n/b) c];have:=Nat.mod_add_div n b;omega
theorem Vm(b:Nat)(c:2<=b):∀f n,Az b<|Zc b f n
 |0,n=>by intro x a;cases a
 |f+1,n=>by
  unfold Zc;split
  ·intro x a;cases a
  ·intro x a;rcases List.mem_cons.1 a with rfl|a
   ·have:=Nat.mod_lt n (show 0<b by omega);omega
   ·exact Vm b c f (n/b) x a
theorem oZ(b:Nat)(d:2<=b):∀f n,n<=f->nz (Zc b f n)
 |0,n,_=>by simp[Zc,nz]
 |f+1,n,h=>by
  unfold Zc;split
  ·simp[nz]
  ·have e:n/b<=f:=by
    have:n/b<n:=Nat.div_lt_self ae d;omega
   have g:=oZ b d f (n/b) e;cases hr:Zc b f (n/b)with
   |nil=>
    have c:=U5 b d f (n/b) e;rw[hr]at c;have c:n/b=0:=by
     have:((n/b:Nat):Int)=0:=by rw[<-c];rfl
     omega
    have i:n % b=n:=Nat.mod_eq_of_lt ((Nat.div_eq_zero_iff_lt ae).1 c);simp[nz];omega
   |cons a t=>grind [nz]
theorem C2{b:Nat}(a:2<=b){n:Int}(c:0<=n):val b (dg b n)=n:=by
 unfold dg;rw[U5 b a _ _ ae];omega
theorem FI{b:Nat}(a:2<=b)(n:Int):Az b (dg b n):=Vm b a _ _
theorem Z1{b:Nat}(a:2<=b)(n:Int):nz (dg b n):=oZ b a _ _ ae
theorem Jt{b:Nat}(a:2<=b){l:List Int}(c:Az b l)(d:nz l):l=dg b (val b l):=
 val_inj ae c (FI a _) d (Z1 a _) (by grind [C2,AE])
theorem cH{b:Nat}(a:2<=b){l:List Int}(c:Az b l):AB l=dg b (val b l):=by
 rw[<-J2];grind [Jt,Ia,LG]
theorem AcA{b:Nat}(a:2<=b){n:Int}(c:0<=n):dg b n=[]↔n=0:=by
 constructor
 ·grind [C2,val]
 ·rintro rfl;rfl
theorem IX:∀l:List Int,AB (l++[0])=AB l
 |[]=>rfl
 |d::r=>by
  rw[zk];unfold AB;rw[IX r]
theorem Zx{l:List Int}{d:Int}(h:d≠0):nz (l++[d]):=by
 grind [nz]
theorem xK{x:Int}{l:List Int}(a:nz (x::l)):nz l:=by
 grind [nz]
theorem Df{b:Int}(c:0<b):∀ {l:List Int},Az b l->nz l->l≠[]->b^(l.length-1)<=val b l
 |[],_,_,h=>wh rfl h
 |[d],h,a,_=>by
  have:=J3 c h a (by simp);simp at this ⊢;omega
 |d::e::r,h,a,_=>by
  have j:=(h d<|by simp).1;have f:=Df c (l:=e::r) (fun x g=>h x<|by simp[g]) (xK a) (by simp);have i:(d::e::r).length-1=((e::r).length-1)+1:=by simp
  rw[i,zh,zr];have:=zd f (show 0<=b by omega);unfold val;omega
theorem Be{b:Int}(a:0<b):∀n:Nat,0<b^n
 |0=>by simp
 |n+1=>by rw[zh];exact Int.mul_pos (Be a n) a
theorem AT{b:Int}(a:1<=b){m n:Nat}(h:m<=n):b^m<=b^n:=by
 obtain⟨k,rfl⟩:=Nat.exists_eq_add_of_le h;induction k with
 |zero=>simp
 |succ k c=>
  rw[show m+(k+1)=(m+k)+1 from rfl,zh];have hp:=Be (show 0<b by omega)<|m+k;have:=zd a (show 0<=b^(m+k)by omega);omega
theorem EJ{b:Int}(e:2<=b){l r:List Int}(a:Az b l)(d:Az b r)(c:nz r)(h:l.length<r.length):val b l<val b r:=by
 have a1:=Bp ae a;have a2:=Df ae d c ah;have:=AT (show 1<=b by omega) (show l.length<=r.length-1 by omega);omega
theorem AR{b:Int}{l:List Int}(h:Az b l)(i:Nat):Az b (l.take i):=fun d a=>h d ah
theorem EH{b:Int}{l:List Int}(h:Az b l)(i:Nat):Az b (l.drop i):=fun d a=>h d ah
theorem Ck(b:Int)(l:List Int)(i:Nat)(h:i<=l.length):val b l=val b (l.take i)+b^i*val b (l.drop i):=by
 grind [List.take_append_drop,C3]
theorem JL{b:Int}(g:2<=b){l r:List Int}{x y:Int}{s:List Int}{i:Nat}(d:Az b l)(hr:Az b r)(c:l.drop i=x::s)(a:r.drop i=y::s)(h:x<y):val b l<val b r:=by
 have e:i<=l.length:=by
  grind [zm]
 have i2:i<=r.length:=by
  grind [zm]
 have a1:=Bp ae<|AR d i;have a2:=AE ae<|AR hr i;rw[Ck b l i e,Ck b r i i2,c,a,show val b (x::s)=x+b*val b s from rfl,show val b (y::s)=y+b*val b s from rfl];have hp:=Be (show 0<b by omega) i;have f:b^i*(x+1)<=b^i*y:=zd ae ae;grind
theorem OC(b:Nat)(a:2<=b):∀(k f n:Nat),n<b^k->(Zc b f n).length<=k
 |k,0,n,_=>by simp[Zc]
 |0,f+1,n,h=>by
  grind [Zc]
 |k+1,f+1,n,h=>by
  unfold Zc;split
  ·simp
  ·have:n/b<b^k:=by
    simp_all [Nat.pow_succ,Nat.div_lt_of_lt_mul,Nat.mul_comm]
   have:=OC b a k f (n/b) this;grind
end Go.Sp
namespace Go.Pe
open Go.Det
inductive Sh where
 |int (k:IntKind)
 |bool
 |str
 |list (s:Sh)
 |pair (a b:Sh)
 |unit
 |nlist (s:Sh)
 |fnv
 |ptr (s:Sh)
 deriving DecidableEq
@[reducible] def Sh.T:Sh->Type
 | .int _=>Int
 | .bool=>Bool
 | .str=>Rd
 | .list s=>List s.T
 | .pair a b=>a.T×b.T
 | .unit=>Unit
 | .nlist s=>List s.T
 | .fnv=>Option Fn
 | .ptr s=>s.T
def Sh.HN:(s:Sh)->s.T
 | .int _=>(0:Int)
 | .bool=>false
 | .str=>([]:Rd)
 | .list _=>[]
 | .pair a b=>(a.HN,b.HN)
 | .unit=>()
 | .nlist _=>[]
 | .fnv=>none
 | .ptr s=>s.HN
def Sh.sz:Sh->Nat
 | .pair a b=>zf a.sz b.sz
 | .unit=>0
 |_=>1
inductive PV where
 |any
 |bl (b:Bool)
 |ub
 |dat (s:Sh) (x:s.T)
 |nil|nilp|nilm|nilf|nili
 |agg (l:List PV)
 |tup (l:List PV)
 |ptr (id off:Nat)
 |eptr (id sz i off:Nat)
 |BL (s:Sh) (x:s.T) (off:Nat)
 |sl (id sz off len:Nat) (cap:Option Nat)
 |mp (id:Nat)
 |fn (f:Fn) (first captured:List PV)
 |yl (id:Nat)
inductive LpS where
 |ready|busy|ret
 |exit (i:Nat)
inductive Obj where
 |arr (fz:Bool) (e:TypeId) (s:Sh) (l:List s.T)
 |box (cs:List PV)
 |tbox (t:TypeId) (cs:List PV)
 |map (ks vs:Sh) (l:List (ks.T×vs.T))
 |siter (s:Rd) (pos:Nat)
 |lp (f:FuncId) (r:Nat) (ps:Array Tmp) (asg body:Code) (s:LpS) (n:Nat) (sl:List (Nat×PV))
abbrev Ob:=List<|Nat×Obj
def AS:Ob->Nat->Option Obj
 |[],_=>none
 |(i,o)::l,j=>bif zc i j then some o else AS l j
def D5:Ob->Nat->Obj->Ob
 |[],_,_=>[]
 |(i,o)::l,j,x=>bif zc i j then(i,x)::l else(i,o)::D5 l j x
def GV:Ob->Nat->Ob
 |[],_=>[]
 |(i,o)::l,j=>bif zc i j then GV l j else(i,o)::GV l j
structure AN where
 n:Nat
 fr:PM PV
 ob:Ob
 nx:Nat
def AN.get(st:AN)(t:Nat):PV:=(st.fr.get t).getD .any
def AN.obj(st:AN)(id:Nat):Option Obj:=AS st.ob id
def AN.set(st:AN)(t:Nat)(v:PV):AN:=⟨st.n,st.fr.set t<|some v,st.ob,st.nx⟩
def AN.setObj(st:AN)(id:Nat)(o:Obj):AN:=⟨st.n,st.fr,D5 st.ob id o,st.nx⟩
def AN.FQ(st:AN)(id:Nat):AN:=⟨st.n,st.fr,GV st.ob id,st.nx⟩
def AN.push(st:AN)(o:Obj):AN:=⟨st.n,st.fr,(st.nx,o)::st.ob,zf st.nx 1⟩
def AN.put(st:AN)(d:Option Nat)(v:PV):Option AN:=
 match d with
 |none=>some st
 |some t=>bif zn t st.n then some (st.set t v)else none
def ER(vs:List (Nat×PV)):PM PV:=vs.foldl (fun m x=>m.set x.1<|some x.2) .leaf
def flat:(s:Sh)->s.T->List PV
 | .pair a b,(x,y)=>flat a x++flat b y
 | .unit,_=>[]
 | .fnv,x=>[match (x:Option Fn)with|some f=>.fn f [] []|none=>.nilf]
 | .ptr s,x=>[.BL s x 0]
 |s,x=>[.dat s x]
def EA(s a:Sh)(x:s.T):Option a.T:=if h:s=a then some (h▸x)else none
def asP(a:Sh)(x:a.T):(s:Sh)->Option s.T
 | .ptr s=>EA a s x
 |_=>none
def zG(s:Sh)(v:PV):Option s.T:=
 match v with
 | .BL a x 0=>asP a x s
 | .dat a x=>EA a s x
 | .bl b=>EA .bool s b
 | .fn f [] []=>EA .fnv s<|some f
 | .nilf=>EA .fnv s none
 | .nil=>match s with
  | .list _=>some []
  | .nlist _=>some []
  |_=>none
 |_=>none
def CB:(s:Sh)->List PV->Option (s.T×List PV)
 | .pair a b,l=>match CB a l with
  |some (x,l1)=>match CB b l1 with
   |some (y,c)=>some ((x,y),c)
   |none=>none
  |none=>none
 | .unit,l=>some ((),l)
 |s,v::l=>match zG s v with
  |some x=>some (x,l)
  |none=>none
 |_,[]=>none
def Dp(s:Sh)(l:List PV):Option s.T:=
 match CB s l with
 |some (x,[])=>some x
 |_=>none
def PV.cells:PV->List PV
 | .agg cs=>cs
 |v=>[v]
def ZN(ty:TypeId->Option Sh):List Field->Option Sh
 |[]=>none
 |[x]=>ty x.type
 |x::c=>match ty x.type,ZN ty c with
  |some a,some b=>some<|.pair a b
  |_,_=>none
def nlf:Option Sh->Option Sh
 |some (.list<|.int .u64)=>some<|.nlist<|.int .u64
 |s=>s
def lz:PV->PV
 | .dat (.nlist s) x=>.dat (.list s) x
 |v=>v
def Sh.leaves:Sh->List Sh
 | .pair a b=>a.leaves++b.leaves
 | .unit=>[]
 |s=>[s]
def WD:Sh->PV->Bool×PV
 | .nlist s,.dat (.list a) x=>bif s==a then(decide (0<x.length),.dat (.nlist a) x)else(true,.dat (.list a) x)
 | .list s,.dat (.nlist a) x=>bif s==a then(true,.dat (.list a) x)else(true,.dat (.nlist a) x)
 |_,v=>(true,v)
def Mc:List Sh->List PV->Bool×List PV
 |s::l,v::vs=>((WD s v).1&&(Mc l vs).1,(WD s v).2::(Mc l vs).2)
 |_,vs=>(true,vs)
def Yi(T:B6):Nat->TypeId->Option Sh
 |0,_=>none
 |f+1,t=>match T.und t with
  |some (.int k)=>some<|.int k
  |some .bool=>some .bool
  |some .string=>some .str
  |some (.slice e)=>(Yi T f e).map .list
  |some (.func _ _ _)=>some .fnv
  |some (.struct fs)=>ZN (fun x=>nlf<|Yi T f x) fs.toList
  |_=>none
def Sh.wA:Sh->Bool
 | .pair a b=>a.wA||b.wA
 | .fnv=>true
 |_=>false
def B1:(s:Sh)->s.T->PV
 | .pair a b,x=>.agg<|flat (.pair a b) x
 | .unit,_=>.agg []
 | .fnv,x=>match (x:Option Fn)with|some f=>.fn f [] []|none=>.nilf
 | .ptr s,x=>.BL s x 0
 |s,x=>.dat s x
def Sh.N4:Sh->Bool
 | .pair _ _| .unit=>true
 |_=>false
def Y8:(s:Sh)->s.T->s.T->Bool
 | .int _,a,b=>(a:Int)==b
 | .bool,a,b=>(a:Bool)==b
 | .str,a,b=>(a:Rd)==b
 |_,_,_=>false
def Ee(s v:Sh)(k:s.T):List (s.T×v.T)->Option v.T
 |[]=>none
 |(a,b)::l=>bif Y8 s k a then some b else Ee s v k l
def He(s v:Sh)(k:s.T)(x:v.T):List (s.T×v.T)->List (s.T×v.T)
 |[]=>[(k,x)]
 |(a,b)::l=>bif Y8 s k a then(k,x)::l else(a,b)::He s v k x l
def U3(s v:Sh)(k:s.T):List (s.T×v.T)->List (s.T×v.T)
 |[]=>[]
 |(a,b)::l=>bif Y8 s k a then l else(a,b)::U3 s v k l
inductive Tr where
 |fail
 |leaf (v:PV) (ob:Ob)
 |ite (c:Bool) (a b:Tr)
 |both (a b:Tr)
 |cut (nd ro:Bool) (d:Nat) (f:FuncId) (base:Nat) (b:Code) (st:AN) (k:DX->AN->Tr)
 |alts (m:Nat) (f:Nat->Tr)
 |loop (nd ro:Bool) (d:Nat) (f:FuncId) (base:Nat) (b:Code) (st:AN) (k:DX->AN->Tr)
abbrev Tr.ck(c:Bool)(x:Tr):Tr:=.ite c x .fail
abbrev Tr.cd(P:Prop)[Decidable P](x:Tr):Tr:=.ite (decide P) x .fail
abbrev aa(k:Nat):Bool:=decide (1<=1)&&decide (0<1)&&decide ((3*1+2000)*k<=562949953421312)
abbrev ac(n m k:Nat):Bool:=decide (1<=1)&&true&&decide (n=m)&&decide ((3*(n+1)+2000)*k<=562949953421312)
abbrev Tr.di(P:Prop)[Decidable P](x y:Tr):Tr:=.ite (decide P) x y
inductive PO where
 |bad
 |val (v:PV) (st:AN)
 |ite (c:Bool) (a b:PO)
def PO.I1(c:Bool)(v:PV)(st:AN):PO:=.ite c (.val v st) .bad
mutual
def Od:Value->Option PV
 | .bool b=>some<|.bl b
 | .int k n=>some<|.dat (.int k) n
 | .string s=>some<|.dat .str s.data.toList
 | .pointer none=>some .nilp
 | .slice none 0 0=>some .nil
 | .map none=>some .nilm
 | .nilFunc=>some .nilf
 | .nilIface=>some .nili
 | .func f ⟨[]⟩ ⟨[]⟩=>some<|.fn f [] []
 | .agg ⟨cs⟩=>(gV cs).map .agg
 | .tuple ⟨cs⟩=>(gV cs).map .tup
 |_=>none
def gV:List Value->Option (List PV)
 |[]=>some []
 |v::vs=>match Od v,gV vs with
  |some x,some a=>some (x::a)
  |_,_=>none
end
def XK:V->PV
 | .bool b=>.bl b
 | .int k n=>.dat (.int k) n
 | .str s=>.dat .str s
 | .nilp=>.nilp
 | .nils=>.nil
 | .nilm=>.nilm
 | .nilf=>.nilf
 | .nili=>.nili
 |_=>.any
def Rg(st:AN):Operand->Option PV
 | .tmp t=>some<|st.get t
 | .const v=>Od v
 | .global _=>none
 | .func f=>some<|.fn (.func f) [] []
def MW(st:AN):List Operand->Option (List PV)
 |[]=>some []
 |x::a=>match Rg st x,MW st a with
  |some v,some vs=>some (v::vs)
  |_,_=>none
def iN(st:AN):List (Nat×Operand)->Option (List<|Nat×PV)
 |[]=>some []
 |(i,x)::a=>match Rg st x,iN st a with
  |some v,some vs=>some ((i,v)::vs)
  |_,_=>none
def tS(T:B6)(t:TypeId):Option (List PV):=(T.inf t).bind fun i=>bif Mb V.ok i.zero then some (i.zero.map XK)else none
def pick(d:TypeDesc)(n:Nat)(cs:List PV):Option PV:=
 bif Ed d then(bif zq n (FE cs)&&zn 0 n then some (.agg<|bY n cs)else none)
 else match cs with
  |v::_=>some v
  |[]=>none
def ov(st:AN):Option PV->PO
 |some v=>.val v st
 |none=>.bad
def ovc(c:Bool)(st:AN):Option PV->PO
 |some v=>.I1 c v st
 |none=>.bad
def chunk(s:Sh):Nat->List PV->Option (List s.T)
 |0,_=>some []
 |n+1,cs=>match CB s cs with
  |some (x,cs')=>(chunk s n cs').map (x:: ·)
  |none=>none
def P1(s:Sh)(l:List s.T):Nat->Nat->List PV
 |_,0=>[]
 |j,n+1=>flat s (l.getD j s.HN)++P1 s l (zf j 1) n
def zsh:List V->Option Sh
 | .bool _::_=>some .bool
 | .int k _::_=>some<|.int k
 |_=>none
def isZ:Sh->V->Bool
 | .bool,.bool b=> !b
 | .int k,.int a n=>decide (k=a)&&decide (n=0)
 |_,_=>false
def AcZ(T:B6)(t:TypeId):Option (Sh×Nat):=
 match T.und t,T.inf t with
 |some (.array _ _),some i=>match zsh i.zero with
  |some s=>bif zq 32 (FE i.zero)&&Mb (isZ s) i.zero then some (s,FE i.zero)else none
  |none=>none
 |_,_=>none
def NI(T:B6)(st:AN)(t:TypeId)(a:PV):PO:=
 match T.und t,T.inf t with
 |some d,some i=>match a with
  | .ptr id off=>match st.obj id with
   |some (.box cs)=>ov st<|pick d i.size<|Kk off cs
   |some (.arr _ _ s l)=>bif zc off 0&&zc s.sz 1 then ovc (decide (l.length=i.size)) st (pick d i.size<|P1 s l 0 i.size)else .bad
   |some (.tbox _ cs)=>ov st<|pick d i.size<|Kk off cs
   |_=>.bad
  | .eptr id sz j off=>match st.obj id with
   |some (.arr _ _ s l)=>bif zc sz s.sz then ovc (decide (j<l.length)) st (pick d i.size<|Kk off<|flat s<|l.getD j s.HN)else .bad
   |_=>.bad
  | .BL s x off=>ov st<|pick d i.size<|Kk off<|flat s x
  |_=>.bad
 |_,_=>.bad
def ID:Option Obj->Bool
 |some _=>true
 |none=>false
def Mq(st:AN):PV->Bool
 | .agg _| .tup _| .any| .ub=>false
 | .ptr id _| .eptr id _ _ _| .sl id _ _ _ _| .mp id| .yl id=>ID<|st.obj id
 |_=>true
def pcs(st:AN):PV->Option (List PV)
 | .agg l=>some l
 |p=>bif Mq st p then some [p]else none
def YA(T:B6)(st:AN)(t:TypeId)(a x:PV):PO:=
 match T.inf t,pcs st x with
 |some i,some b=>bif zc (FE b) i.size&&Mb (Mq st) b then
   match a with
   | .ptr id off=>match st.obj id with
    |some (.box cs)=>bif zq (zf off i.size) (FE cs)then .val (.tup []) (st.setObj id<|.box<|CA off b cs)else .bad
    |some (.arr false e s l)=>bif zc off 0&&zc s.sz 1 then
      match chunk s i.size b with
      |some y=>.I1 (decide (l.length=i.size)) (.tup [])<|st.setObj id<|.arr false e s y
      |none=>.bad
     else .bad
    |some (.tbox tb cs)=>bif zq (zf off i.size) (FE cs)then .val (.tup []) (st.setObj id<|.tbox tb<|CA off b cs)else .bad
    |_=>.bad
   | .eptr id sz j off=>match st.obj id with
    |some (.arr false e s l)=>bif zc sz s.sz&&zq (zf off i.size) sz then
      match Dp s (CA off b<|flat s<|l.getD j s.HN)with
      |some y=>.I1 (decide (j<l.length)) (.tup [])<|st.setObj id<|.arr false e s<|l.set j y
      |none=>.bad
     else .bad
    |_=>.bad
   |_=>.bad
  else .bad
 |_,_=>.bad
def H3(k:IntKind)(a b:Int):Int:=k.wrap (zg k.bits a&&&zg k.bits b).toNat
def fT(k:IntKind)(a b:Int):Int:=k.wrap (zg k.bits a|||zg k.bits b).toNat
def AgL(k:IntKind)(a b:Int):Int:=k.wrap (zg k.bits a^^^zg k.bits b).toNat
def Afa(k:IntKind)(a b:Int):Int:=k.wrap (zg k.bits a&&& ~~~zg k.bits b).toNat
def AdA(op:BinOp)(k:IntKind)(a b:Int)(st:AN):PO:=
 match op with
 | .add=>.val (.dat (.int k)<|k.wrap<|a+b) st
 | .sub=>.val (.dat (.int k)<|k.wrap<|a-b) st
 | .mul=>.val (.dat (.int k)<|k.wrap<|a*b) st
 | .quo=>.I1 (decide (b≠0)) (.dat (.int k)<|k.wrap<|a.tdiv b) st
 | .rem=>.I1 (decide (b≠0)) (.dat (.int k)<|a.tmod b) st
 | .and=>.val (.dat (.int k)<|H3 k a b) st
 | .or=>.val (.dat (.int k)<|fT k a b) st
 | .xor=>.val (.dat (.int k)<|AgL k a b) st
 | .andNot=>.val (.dat (.int k)<|Afa k a b) st
 | .eql=>.val (.dat .bool<|a==b) st
 | .neq=>.val (.dat .bool<|a !=b) st
 | .lss=>.val (.dat .bool<|decide (a<b)) st
 | .leq=>.val (.dat .bool<|decide (a<=b)) st
 | .gtr=>.val (.dat .bool<|decide (a>b)) st
 | .geq=>.val (.dat .bool<|decide (a>=b)) st
 |_=>.bad
def psh(op:BinOp)(k:IntKind)(a b:Int)(st:AN):PO:=
 match op with
 | .shl=>.I1 (decide (0<=b)) (.dat (.int k)<|k.wrap<|a*2^(min b.toNat k.bits)) st
 | .shr=>.I1 (decide (0<=b)) (.dat (.int k)<|a.fdiv<|2^(min b.toNat k.bits)) st
 |_=>.bad
def Ac3(op:BinOp)(x y:Rd)(st:AN):PO:=
 match op with
 | .add=>.I1 (decide (x.length+y.length<=4611686018427387904)) (.dat .str<|x++y) st
 | .eql=>.val (.dat .bool<|x==y) st
 | .neq=>.val (.dat .bool<|!(x==y)) st
 | .lss=>.val (.dat .bool<|zo x y) st
 | .leq=>.val (.dat .bool<|zo x y||x==y) st
 | .gtr=>.val (.dat .bool<|!(zo x y||x==y)) st
 | .geq=>.val (.dat .bool<|!zo x y) st
 |_=>.bad
def AaU:BinOp->Bool
 | .shl| .shr=>true
 |_=>false
def Jx:PV->Option Bool
 | .bl b=>some b
 | .dat .bool b=>some b
 |_=>none
def Hw:List FK->List PV->List PV->Option Bool
 |[],[],[]=>some true
 | .int k::ks,.dat (.int f) a::c,.dat (.int e) b::d=>bif k==f&&k==e then(Hw ks c d).map fun r=>(a:Int)==(b:Int)&&r else none
 | .str::ks,.dat .str a::c,.dat .str b::d=>(Hw ks c d).map fun r=>(a:Rd)==(b:Rd)&&r
 | .bool::ks,a::c,b::d=>match Jx a,Jx b with
  |some a,some b=>(Hw ks c d).map fun r=>a==b&&r
  |_,_=>none
 |_,_,_=>none
def TU(st:AN)(ng:Bool)(x:PV):PO:=
 match x with
 | .nil=>.val (.bl<|!ng) st
 | .sl id _ _ _ _=>bif ID (st.obj id)then .val (.bl ng) st else .bad
 | .dat (.list _) l=>.ite (decide (0<l.length)) (.val (.bl ng) st)<|.val .ub st
 | .dat (.nlist _) l=>.val (.dat .bool<|bif ng then decide (0<l.length)else !decide (0<l.length)) st
 |_=>.bad
def qA(op:BinOp)(x y:PV)(st:AN):PO:=
 match op,x,y with
 | .eql,x,.nil=>TU st false x
 | .neq,x,.nil=>TU st true x
 |_,_,_=>.bad
def ptrEq(T:B6)(e:TypeId)(st:AN)(x y:PV):Option Bool:=
 match x,y with
 | .nilp,.nilp=>some true
 | .ptr id _,.nilp=>bif ID (st.obj id)then some false else none
 | .nilp,.ptr id _=>bif ID (st.obj id)then some false else none
 | .ptr a i,.ptr b j=>bif zc a b&&ID (st.obj a)then match T.inf e with
   |some c=>bif zn 0 c.size then some (zc i j)else none
   |none=>none
  else none
 |_,_=>none
def AdG(T:B6)(op:BinOp)(t:TypeId)(x y:PV)(st:AN):PO:=
 match x,y with
 | .dat (.int k) a,.dat (.int c) b=>bif AaU op then psh op k a b st else(bif k==c then AdA op k a b st else .bad)
 | .dat .str a,.dat .str b=>Ac3 op a b st
 | .agg d,.agg f=>match T.flat t with
  |some ks=>match op,Hw ks d f with
   | .eql,some r=>.val (.dat .bool r) st
   | .neq,some r=>.val (.dat .bool<|!r) st
   |_,_=>.bad
  |none=>.bad
 |x,y=>match Jx x,Jx y,T.und t with
  |some a,some b,some .bool=>match op with
   | .eql=>.val (.dat .bool<|a==b) st
   | .neq=>.val (.dat .bool<|!(a==b)) st
   |_=>.bad
  |_,_,some (.slice _)=>qA op x y st
  |_,_,some (.pointer e)=>match op,ptrEq T e st x y with
   | .eql,some r=>.val (.bl r) st
   | .neq,some r=>.val (.bl<|!r) st
   |_,_=>.bad
  |_,_,_=>.bad
def pun(op:UnOp)(x:PV)(st:AN):PO:=
 match op,x with
 | .neg,.dat (.int k) n=>.val (.dat (.int k)<|k.wrap<|0-(n:Int)) st
 | .not,.bl b=>.val (.bl<|!b) st
 | .not,.ub=>.val .ub st
 | .not,.dat .bool b=>.val (.dat .bool<|!b) st
 |_,_=>.bad
def jQ(T:B6)(s d:TypeId)(x:PV)(st:AN):PO:=
 match T.und s,T.und d,x with
 |some _,some<|.int k,.dat (.int _) n=>.val (.dat (.int k)<|k.wrap n) st
 |some .string,some .string,.dat .str s=>.val (.dat .str s) st
 |_,_,_=>.bad
def nN(c a b:PV)(st:AN):PO:=
 match c with
 | .bl t=>.val (bif t then a else b) st
 | .dat .bool t=>match a,b with
  | .dat .bool x,.bl false=>.val (.dat .bool<|t&&x) st
  | .bl true,.dat .bool x=>.val (.dat .bool<|t||x) st
  |_,_=>.ite t (.val a st)<|.val b st
 |_=>.bad
def YR(T:B6)(t:TypeId)(x:PV)(f:Nat)(st:AN):PO:=
 match T.und t,x with
 |some (.struct fs),.agg cs=>match fs[f]? with
  |some a=>match T.und a.type,T.inf a.type with
   |some d,some i=>ov st<|pick d i.size<|Kk a.offset cs
   |_,_=>.bad
  |none=>.bad
 |_,_=>.bad
def Y1(T:B6)(t:TypeId)(x:PV)(f:Nat)(st:AN):PO:=
 match T.und t with
 |some (.struct fs)=>match fs[f]? with
  |some a=>match T.inf a.type with
   |some i=>bif zc i.size 0 then .bad else match x with
    | .ptr id off=>bif ID (st.obj id)then .val (.ptr id<|zf off a.offset) st else .bad
    | .eptr id sz j off=>bif ID (st.obj id)then .val (.eptr id sz j<|zf off a.offset) st else .bad
    | .BL s y off=>.val (.BL s y<|zf off a.offset) st
    |_=>.bad
   |none=>.bad
  |none=>.bad
 |_=>.bad
def UI(T:B6)(t:TypeId)(x ix:PV)(st:AN):PO:=
 match T.und t,ix with
 |some (.slice e),.dat (.int _) i=>match T.inf e with
  |some a=>match x with
   | .dat (.list s) l=>bif zc a.size s.sz then .I1 (decide (0<=(i:Int))&&decide ((i:Int)<(l.length:Int))) (.BL s (l.getD (ze i) s.HN) 0) st else .bad
   | .sl id sz off len _=>bif zc a.size sz&&ID (st.obj id)then .I1 (decide (0<=(i:Int))&&decide ((i:Int)<(len:Int))) (.eptr id sz (zf (ze i) off) 0) st else .bad
   |_=>.bad
  |none=>.bad
 |some (.array len e),.dat (.int _) i=>match T.inf e with
  |some a=>match x with
   | .ptr id off=>match st.obj id with
    |some (.arr _ _ s _)=>bif zc off 0&&zc a.size s.sz then .I1 (decide (0<=(i:Int))&&decide ((i:Int)<(len:Int))) (.eptr id s.sz (ze i) 0) st else .bad
    |some _=>.I1 (decide (0<=(i:Int))&&decide ((i:Int)<(len:Int))) (.ptr id<|zf off<|zt (ze i) a.size) st
    |none=>.bad
   | .eptr id sz j off=>bif ID (st.obj id)then .I1 (decide (0<=(i:Int))&&decide ((i:Int)<(len:Int))) (.eptr id sz j<|zf off<|zt (ze i) a.size) st else .bad
   | .BL s y off=>.I1 (decide (0<=(i:Int))&&decide ((i:Int)<(len:Int))) (.BL s y<|zf off<|zt (ze i) a.size) st
   |_=>.bad
  |none=>.bad
 |_,_=>.bad
def sG(T:B6)(t:TypeId)(x ix:PV)(st:AN):PO:=UI T t (lz x) ix st
def YV(T:B6)(t:TypeId)(x ix:PV)(st:AN):PO:=
 match T.und t,x,ix with
 |some .string,.dat .str s,.dat (.int _) i=>.I1 (decide (0<=(i:Int))&&decide ((i:Int)<((s:Rd).length:Int))) (.dat (.int .u8) (((s:Rd).getD (ze i) 0).toNat:Int)) st
 |some (.array len e),.agg cs,.dat (.int _) i=>match T.und e,T.inf e with
  |some d,some a=>ovc (decide (0<=(i:Int))&&decide ((i:Int)<(len:Int))) st<|pick d a.size<|Kk (zt (ze i) a.size) cs
  |_,_=>.bad
 |_,_,_=>.bad
def Pn(x:PV)(i:Nat)(st:AN):PO:=
 match x with
 | .tup vs=>match vs[i]? with
  |some v=>.val v st
  |none=>.bad
 |_=>.bad
def pb(x:Option PV)(HN:Nat):Option (Bool×Nat):=
 match x with
 |none=>some (true,HN)
 |some (.dat (.int _) n)=>some (decide (0<=(n:Int)),ze n)
 |_=>none
def has(mx:Option PV)(c:Nat):Bool:=match mx with
 |none=>true
 |some _=>decide (0<c)
def TR(T:B6)(t:TypeId)(x:PV)(d c mx:Option PV)(st:AN):PO:=
 match T.und t with
 |some .string=>match x,mx with
  | .dat .str s,none=>match pb d 0,pb c (s:Rd).length with
   |some (b,l),some (a,h)=>.I1 (b&&a&&decide (l<=h)&&decide (h<=(s:Rd).length)) (.dat .str<|((s:Rd).drop l).take<|Nat.sub h l) st
   |_,_=>.bad
  |_,_=>.bad
 |some (.slice e)=>match T.inf e with
  |some i=>match x with
   | .dat (.list s) g=>bif zc i.size s.sz then
     match pb d 0,pb c g.length,mx with
     |some (b,l),some (a,h),none=>.I1 (b&&a&&decide (l<=h)&&decide (h<=g.length)) (.dat (.list s)<|(g.drop l).take<|Nat.sub h l) st
     |_,_,_=>.bad
    else .bad
   | .sl id sz off len cap=>bif zc i.size sz&&ID (st.obj id)then
     match c,mx with
     |none,some _=>.bad
     |_,_=>match pb d 0,pb c len,pb mx (cap.getD len)with
      |some (b,l),some (a,h),some (f,m)=>.I1 (b&&a&&f&&decide (l<=h)&&decide (h<=m)&&decide (m<=cap.getD len)&&has mx (cap.getD len)) (.sl id sz (zf off l) (Nat.sub h l)<|some<|Nat.sub m l) st
      |_,_,_=>.bad
    else .bad
   | .nil=>match pb d 0,pb c 0,mx with
    |some (b,l),some (a,h),none=>.I1 (b&&a&&decide (l<=h)&&decide (h<=0)) .nil st
    |some (b,l),some (a,h),some q=>match c,pb (some q) 0 with
     |some _,some (f,m)=>.I1 (b&&a&&f&&decide (l<=h)&&decide (h<=m)&&decide (m<=0)) .nil st
     |_,_=>.bad
    |_,_,_=>.bad
   |_=>.bad
  |none=>.bad
 |_=>.bad
def kN(T:B6)(t:TypeId)(x:PV)(a b mx:Option PV)(st:AN):PO:=TR T t (lz x) a b mx st
def pi64(n:Nat):PV:=.dat (.int .i64)<|Int.ofNat n
def Wl(T:B6)(ts:Array TypeId)(args:List PV)(st:AN):PO:=
 match ts[0]?,args with
 |some t,[x]=>match T.und t,x with
  |some .string,.dat .str s=>.val (pi64 (s:Rd).length) st
  |some (.slice _),.dat (.list _) l=>.val (pi64 l.length) st
  |some (.slice _),.sl id _ _ len _=>bif ID (st.obj id)then .val (pi64 len) st else .bad
  |some (.slice _),.nil=>.val (pi64 0) st
  |some (.map _ _),.mp id=>match st.obj id with
   |some (.map _ _ l)=>.val (pi64 l.length) st
   |_=>.bad
  |_,_=>.bad
 |_,_=>.bad
def yN(T:B6)(ts:Array TypeId)(args:List PV)(st:AN):PO:=Wl T ts (args.map lz) st
def pmm(f:Int->Int->Int)(k:IntKind):Int->List PV->Option Int
 |x,[]=>some x
 |x,.dat (.int a) y::b=>bif k==a then pmm f k (f x y) b else none
 |_,_=>none
def Oy(f:Int->Int->Int)(args:List PV)(st:AN):PO:=
 match args with
 | .dat (.int k) x::a=>match pmm f k x a with
  |some z=>.val (.dat (.int k) z) st
  |none=>.bad
 |_=>.bad
def imax(x y:Int):Int:=if y>x then y else x
def Fb(x y:Int):Int:=if y<x then y else x
def Ib(st:AN)(s:Sh)(x:PV):Option (Bool×List s.T):=
 match x with
 | .nil=>some (true,[])
 | .dat (.list a) l=>(EA (.list a) (.list s) l).map fun r=>(true,r)
 | .sl id sz off len _=>match st.obj id with
  |some (.arr _ _ a l)=>bif zc sz a.sz then(EA (.list a) (.list s) l).map fun r=>(decide (off+len<=r.length),(r.drop off).take len)else none
  |_=>none
 | .dat .str l=>(EA (.list<|.int .u8) (.list s)<|List.map (fun b:UInt8=>(b.toNat:Int)) l).map fun r=>(true,r)
 |_=>none
def Ps(st:AN)(s:Sh)(x:PV):Option (Bool×List s.T):=Ib st s<|lz x
def LIM:Nat:=281474976710656
def jY:Nat:=562949953421312
def Tg:TypeDesc->Bool
 | .slice _=>true
 | .string=>true
 |_=>false
def Ts(T:B6)(ts:Array TypeId)(args:List PV)(st:AN):PO:=
 match ts[0]?,ts[1]?,args with
 |some t,some d,[b,x]=>match T.und t,T.und d with
  |some (.slice e),some a=>bif Tg a then match T.inf e,Yi T 9 e with
   |some i,some s=>
    bif zn 0 i.bytes&&zn 0 i.size&&zc i.zero.length i.size&&zc i.size s.sz then
     match Ps st s x with
     |some (c,new)=>match b with
      | .nil=>match x with
       | .nil=>.val .nil st
       | .dat _ _=>.ite (decide (0<new.length)) (.I1 (c&&decide ((3*new.length+2000)*i.bytes<=jY)) (.sl st.nx s.sz 0 new.length none)<|st.push<|.arr false e s new)<|.val .nil st
       | .sl _ _ _ _ (some _)=>.ite (decide (0<new.length)) (.I1 (c&&decide ((3*new.length+2000)*i.bytes<=jY)) (.sl st.nx s.sz 0 new.length none)<|st.push<|.arr false e s new)<|.I1 c .nil st
       |_=>.I1 (c&&decide (0<new.length)&&decide ((3*new.length+2000)*i.bytes<=jY)) (.sl st.nx s.sz 0 new.length none)<|st.push<|.arr false e s new
      | .sl id sz off len cap=>match st.obj id with
       |some (.arr false f g l)=>match EA (.list g) (.list s) l with
        |some l'=>bif zc e f&&zc sz s.sz then
          match cap with
          |none=>.I1 (c&&decide (off=0)&&decide (len=l'.length)&&decide ((3*(len+new.length)+2000)*i.bytes<=jY)) (.sl st.nx s.sz 0 (zf len new.length) none)<|(st.FQ id).push<|.arr false e s<|l'++new
          |some k=>.I1 (c&&decide (len+new.length<=k)&&decide (off+k<=l'.length)) (.sl id sz off (zf len new.length)<|some k) (st.setObj id<|.arr false e s<|l'.take (off+len)++(new++l'.drop (off+len+new.length)))
         else .bad
        |none=>.bad
       |_=>.bad
      |_=>.bad
     |none=>.bad
    else .bad
   |_,_=>.bad
   else .bad
  |_,_=>.bad
 |_,_,_=>.bad
def Zf(T:B6)(ts:Array TypeId)(args:List PV)(st:AN):PO:=
 match ts[0]?,args with
 |some t,[x]=>match T.und t with
  |some (.slice e)=>match x with
   | .nil=>.val (.tup []) st
   | .sl id sz off len _=>match T.inf e,st.obj id with
    |some i,some (.arr false a s l)=>
     bif zc sz s.sz&&zn 0 i.zero.length&&zc i.zero.length s.sz&&Mb V.one i.zero then
      match Dp s (i.zero.map XK)with
      |some z=>.I1 (decide (off+len<=l.length)) (.tup [])<|st.setObj id<|.arr false a s<|l.take off++(zi len z++l.drop (off+len))
      |none=>.bad
     else .bad
    |_,_=>.bad
   |_=>.bad
  |_=>.bad
 |_,_=>.bad
def YG(args:List PV)(st:AN):PO:=
 match args with
 |[.sl id sz off len none]=>bif ID (st.obj id)then .I1 (decide (0<len)) (.eptr id sz off 0) st else .bad
 |_=>.bad
def Tz(l:List Int):Rd:=l.map fun x=>UInt8.ofNat x.toNat
def Sr(l:List Int):Bool:=l.all fun x=>decide (0<=x)&&decide (x<256)
def jE(T:B6)(ts:List TypeId)(args:List PV)(st:AN):PO:=
 match ts,args with
 |[pt,_],[.eptr id _ i 0,.dat (.int .i64) n]=>match T.und pt,st.obj id with
  |some (.pointer e),some (.arr false c s l)=>match T.inf e,EA (.list s) (.list<|.int .u8) l with
   |some b,some a=>bif zc b.size 1&&zc e c then
     .I1 (decide (i=0)&&decide (0<(n:Int))&&decide (ze n<=(a:List Int).length)&&decide (ze n<=9223372036854775807)&&Sr a) (.dat .str<|Tz<|(a:List Int).take<|ze n) (st.FQ id)
    else .bad
   |_,_=>.bad
  |_,_=>.bad
 |_,_=>.bad
def I0(T:B6)(b:Builtin)(ts:Array TypeId)(args:List PV)(st:AN):PO:=
 match b with
 | .len=>yN T ts args st
 | .append=>Ts T ts args st
 | .max=>Oy imax args st
 | .min=>Oy Fb args st
 | .clear=>Zf T ts args st
 | .unsafeSliceData=>YG args st
 | .unsafeString=>jE T ts.toList args st
 |_=>.bad
def rune(s:Rd)(pos:Nat):Int:=(zp (bytesOf s) pos).1
def Ki(s:Rd)(pos:Nat):Nat:=(zp (bytesOf s) pos).2
def Xz(T:B6)(t:TypeId)(x:PV)(st:AN):PO:=
 match T.und t,x with
 |some .string,.dat .str s=>.val (.ptr st.nx 0)<|st.push<|.siter s 0
 |_,_=>.bad
def uJ(x:PV)(a:Bool)(st:AN):PO:=
 match x,a with
 | .ptr id 0,true=>match st.obj id with
  |some (.siter s pos)=>.ite (decide (pos<s.length)) (.val (.tup [.bl true,.dat (.int .i64)<|Int.ofNat pos,.dat (.int .i32)<|rune s pos])<|st.setObj id<|.siter s<|zf pos<|Ki s pos)<|.val (.tup [.bl false]) st
  |_=>.bad
 |_,_=>.bad
def Sn(st:AN)(place:Nat->Option (Nat×Nat))(cells:List PV):List (Nat×PV)->Option (List PV)
 |[]=>some cells
 |(i,v)::a=>match place i with
  |none=>none
  |some (off,size)=>match pcs st v with
   |some vs=>bif zc (FE vs) size&&zq (zf off size) (FE cells)then Sn st place (CA off vs cells) a else none
   |none=>none
def YT(T:B6)(st:AN)(t:TypeId)(a:List (Nat×PV)):Option PV:=
 match T.inf t,T.und t with
 |some i,some (.struct fs)=>
  match fs.toList.mapM (fun f=>(T.inf f.type).map fun j=>(f.offset,j.size))with
  |some pl=>(Sn st (fun i=>pl[i]?) (i.zero.map XK) a).map .agg
  |none=>none
 |some i,some (.array _ e)=>match T.inf e with
  |some j=>(Sn st (fun i=>some (i*j.size,j.size)) (i.zero.map XK) a).map .agg
  |none=>none
 |_,_=>none
def QN(z:List PV):Nat->List PV
 |0=>[]
 |n+1=>z++QN z n
def Cr(st:AN):PV->Option (Bool×PV)
 | .sl id sz off len _=>match st.obj id with
  |some (.arr _ _ s l)=>bif zc sz s.sz then some (decide (off+len<=l.length),.dat (.list s)<|(l.drop off).take len)else none
  |_=>none
 | .dat s x=>some (true,.dat s x)
 | .BL s x off=>some (true,.BL s x off)
 | .bl b=>some (true,.bl b)
 | .nil=>some (true,.nil)
 | .fn f [] []=>some (true,.fn f [] [])
 |_=>none
def DB(st:AN):List PV->Option (Bool×List PV)
 |[]=>some (true,[])
 |v::vs=>match Cr st v,DB st vs with
  |some (c,x),some (d,a)=>some (c&&d,x::a)
  |_,_=>none
def Bz(st:AN):PV->AN
 | .sl id _ _ _ _=>match st.obj id with
  |some (.arr _ e s l)=>st.setObj id<|.arr true e s l
  |_=>st
 |_=>st
def Bm:List PV->AN->AN
 |[],st=>st
 |v::vs,st=>Bm vs<|Bz st v
def TM(T:B6)(t:TypeId)(len:Nat)(a:List (Nat×PV))(st:AN):PO:=
 match T.und t with
 |some (.slice e)=>match T.inf e,Yi T 9 e with
  |some i,some s=>
   bif zq (zt len i.size) 16777216&&zn 0 i.zero.length&&zc i.zero.length i.size&&zc i.size s.sz then
    match Sn st (fun k=>some (k*i.size,i.size)) (QN (i.zero.map XK) len) a with
    |some cs=>match chunk s len cs with
     |some l=>.val (.sl st.nx s.sz 0 len none)<|st.push<|.arr false e s l
     |none=>match DB st cs with
      |some (c,cs')=>match chunk s len cs' with
       |some l=>.I1 c (.sl st.nx s.sz 0 len none)<|(Bm cs st).push<|.arr false e s l
       |none=>.bad
      |none=>.bad
    |none=>.bad
   else .bad
  |_,_=>.bad
 |_=>.bad
def sV(T:B6)(t:TypeId)(l c:PV)(st:AN):PO:=
 match T.und t,l,c with
 |some (.slice e),.dat (.int _) l,.dat (.int _) c=>match T.inf e,Yi T 9 e with
  |some i,some s=>
   bif zn 0 i.zero.length&&zc i.zero.length i.size&&zc i.size s.sz then
    match Dp s (i.zero.map XK)with
    |some z=>.I1 (decide (0<=(l:Int))&&decide ((l:Int)=(c:Int))&&decide (i.bytes*ze l<=LIM)&&decide ((l:Int)<9223372036854775808)) (.sl st.nx s.sz 0 (ze l) none)<|st.push<|.arr false e s<|zi (ze l) z
    |none=>.bad
   else .bad
  |_,_=>.bad
 |_,_,_=>.bad
def yC(T:B6)(t:TypeId):Option Sh:=match T.und t with
 |some (.int k)=>some<|.int k
 |some .string=>some .str
 |some .bool=>some .bool
 |_=>none
def Oh:PV->Bool
 | .agg _=>true
 |_=>false
def asV(s:Sh)(p:PV):Option s.T:=bif Oh p==s.N4 then Dp s p.cells else none
def YH(T:B6)(t:TypeId)(st:AN):PO:=match T.und t with
 |some (.map a e)=>match yC T a,Yi T 9 e with
  |some ks,some vs=>.val (.mp st.nx)<|st.push<|.map ks vs []
  |_,_=>.bad
 |_=>.bad
def oW(st:AN)(ks vs:Sh)(m:PV):Option (List<|ks.T×vs.T):=match m with
 | .nilm=>some []
 | .mp id=>match st.obj id with
  |some (.map b a l)=>EA (.list<|.pair b a) (.list<|.pair ks vs) l
  |_=>none
 |_=>none
def vAg:V->Bool
 | .agg _=>true
 |_=>false
def plk(ks vs:Sh)(ok:Bool)(z:vs.T)(x:ks.T)(st:AN):List (ks.T×vs.T)->PO
 |[]=>.val (bif ok then .tup [B1 vs z,.bl false]else B1 vs z) st
 |(a,b)::l=>.ite (Y8 ks x a) (.val (bif ok then .tup [B1 vs b,.bl true]else B1 vs b) st)<|plk ks vs ok z x st l
def Th(T:B6)(t:TypeId)(m k:PV)(ok:Bool)(st:AN):PO:=match T.und t with
 |some (.map a e)=>match yC T a,Yi T 9 e,T.inf e with
  |some ks,some vs,some i=>match zG ks k,oW st ks vs m,Dp vs (i.zero.map XK)with
   |some x,some l,some z=>
    bif vAg i.zv==vs.N4 then bif vs.wA then plk ks vs ok z x st l else
     (let v:=B1 vs ((Ee ks vs x l).getD z)
     .val (bif ok then .tup [v,.dat .bool (Ee ks vs x l).isSome]else v) st)
    else .bad
   |_,_,_=>.bad
  |_,_,_=>.bad
 |_=>.bad
def S4(T:B6)(t:TypeId)(m k v:PV)(st:AN):PO:=match T.und t,m with
 |some (.map b _),.mp id=>match yC T b,st.obj id with
  |some ks,some (.map a vs l)=>match zG ks k,EA (.list<|.pair a vs) (.list<|.pair ks vs) l,asV vs v with
   |some x,some l,some y=>.val (.tup [])<|st.setObj id<|.map ks vs<|He ks vs x y l
   |_,_,_=>.bad
  |_,_=>.bad
 |_,_=>.bad
def Uw(T:B6)(ts:Array TypeId)(args:List PV)(st:AN):PO:=match ts[0]?,args with
 |some t,[.mp id,k]=>match T.und t with
  |some (.map b _)=>match yC T b,st.obj id with
   |some ks,some (.map a vs l)=>match zG ks k,EA (.list<|.pair a vs) (.list<|.pair ks vs) l with
    |some x,some l=>.val (.tup [])<|st.setObj id<|.map ks vs<|U3 ks vs x l
    |_,_=>.bad
   |_,_=>.bad
  |_=>.bad
 |_,_=>.bad
abbrev LD:=B6->AN->PO
def v1(st:AN)(x:Operand)(k:PV->PO):PO:=match Rg st x with|some v=>k v|none=>.bad
def X6(x:Operand):LD:=fun _ st=>ov st<|Rg st x
def oH(c a b:Operand):LD:=fun _ st=>v1 st c fun c=>v1 st a fun a=>v1 st b fun b=>nN c a b st
def Acf(T:B6)(t:TypeId):Bool:=
 match T.und t with
 |some (.struct fs)=>match fs[0]? with
  |some f=>match T.und f.type with
   |some (.pointer u)=>zc u t
   |_=>false
  |none=>false
 |_=>false
def UN(t:TypeId):LD:=fun T st=>match AcZ T t with
 |some (s,n)=>.val (.ptr st.nx 0)<|st.push<|.arr false t s<|zi n s.HN
 |none=>match tS T t with|some cs=>.val (.ptr st.nx 0) (st.push<|bif Acf T t then .tbox t cs else .box cs)|none=>.bad
def AbF(_:TypeId)(x:Operand):LD:=fun _ st=>v1 st x fun v=>match pcs st v with|some cs=>bif Mb (Mq st) cs then .val (.ptr st.nx 0) (st.push<|.box cs)else .bad|none=>.bad
def cD(t:TypeId)(ps:Array (Nat×Operand)):LD:=fun T st=>match iN st ps.toList with|some l=>ov st (YT T st t l)|none=>.bad
def VD(t:TypeId)(n:Nat)(ps:Array (Nat×Operand)):LD:=fun T st=>match iN st ps.toList with|some l=>TM T t n l st|none=>.bad
def rZ(t:TypeId)(x:Operand):LD:=fun T st=>v1 st x fun a=>NI T st t a
def aV(t:TypeId)(x y:Operand):LD:=fun T st=>v1 st x fun a=>v1 st y fun b=>YA T st t a b
def PN(x:Operand):LD:=fun _ st=>v1 st x fun a=>match a with| .ptr id _| .eptr id _ _ _=>bif ID (st.obj id)then .val a st else .bad| .BL .. =>.val a st|_=>.bad
def Ach(T:B6)(op:BinOp)(t:TypeId)(x y:Operand)(a b:PV):Option Bool:=
 match op,a,b,T.und t with
 | .eql,.nili,.nili,some (.interface _)=>bif ZV x||ZV y then some true else none
 | .neq,.nili,.nili,some (.interface _)=>bif ZV x||ZV y then some false else none
 |_,_,_,_=>none
def AbQ(op:BinOp)(t:TypeId)(x y:Operand)(_:TypeId):LD:=fun T st=>v1 st x fun a=>v1 st y fun b=>match Ach T op t x y a b with|some r=>.val (.bl r) st|none=>AdG T op t a b st
def Af8(op:UnOp)(_:TypeId)(x:Operand):LD:=fun _ st=>v1 st x fun a=>pun op a st
def iX(s d:TypeId)(x:Operand):LD:=fun T st=>v1 st x fun a=>jQ T s d a st
def pV(f:Fn)(a b:Array Operand):LD:=fun _ st=>match MW st a.toList,MW st b.toList with|some x,some y=>.val (.fn f x y) st|_,_=>.bad
def tU(t:TypeId)(l c:Operand):LD:=fun T st=>v1 st l fun a=>v1 st c fun b=>sV T t a b st
def o1(st:AN)(x:Option Operand)(k:Option PV->PO):PO:=match x with|none=>k none|some y=>v1 st y fun v=>k<|some v
def aZ(t:TypeId)(x:Operand)(a b c:Option Operand):LD:=fun T st=>v1 st x fun v=>o1 st a fun l=>o1 st b fun h=>o1 st c fun m=>kN T t v l h m st
def cG(t:TypeId)(x:Operand)(f:Nat):LD:=fun T st=>v1 st x fun a=>Y1 T t a f st
def ZI(t:TypeId)(x:Operand)(f:Nat):LD:=fun T st=>v1 st x fun a=>YR T t a f st
def Zl(t:TypeId)(x i:Operand):LD:=fun T st=>v1 st x fun a=>v1 st i fun b=>sG T t a b st
def ZD(t:TypeId)(x i:Operand):LD:=fun T st=>v1 st x fun a=>v1 st i fun b=>YV T t a b st
def RV(x:Operand)(i:Nat):LD:=fun _ st=>v1 st x fun a=>Pn a i st
def U0(c:Call):LD:=fun T st=>
 match MW st c.args.toList with
 |none=>.bad
 |some args=>match c.callee with
  | .builtin b=>match b with
   | .delete=>Uw T c.argTypes args st
   |_=>I0 T b c.argTypes args st
  |_=>.bad
def Zp(t:TypeId)(r:Option Operand):LD:=fun T st=>match r with|none=>YH T t st|some _=>.bad
def Vl(t:TypeId)(x i:Operand)(ok:Bool):LD:=fun T st=>v1 st x fun a=>v1 st i fun b=>Th T t a b ok st
def Pp(t:TypeId)(m k x:Operand):LD:=fun T st=>v1 st m fun a=>v1 st k fun b=>v1 st x fun c=>S4 T t a b c st
def cQ(t:TypeId)(x:Operand):LD:=fun T st=>v1 st x fun a=>Xz T t a st
def rB(x:Operand)(b:Bool):LD:=fun _ st=>v1 st x fun a=>uJ a b st
def Kb:LD:=fun _ _=>.bad
def pop(o:Op):LD:=@Op.casesOn (fun _=>LD) o X6 X6 oH UN AbF cD VD Pp rZ aV (fun _=>Kb) (fun _=>Kb) PN AbQ Af8 iX
 (fun _ _=>Kb) (fun _ _=>Kb) pV Zp (fun _ _=>Kb) tU aZ cG ZI Zl ZD Vl Pp (fun _ _ _=>Kb) (fun _ _ _ _=>Kb)
 cQ rB (fun _=>Kb) (fun _ _ _ _=>Kb) RV U0 (fun _=>Kb) (fun _=>Kb) (fun _=>Kb) (fun _ _=>Kb) (fun _ _ _=>Kb) (fun _ _=>Kb)
theorem NT{s:Rd}{i:Nat}(h:i<s.length):(bytesOf s).get! i=s.getD i 0:=by
 unfold bytesOf;show(s.toArray)[i]! =_;simp[h]
theorem WT{s:Rd}{i:Nat}(h:i<s.length)(a:(s.getD i 0).toNat<128):rune s i=((s.getD i 0).toNat:Int)/\Ki s i=1:=by
 unfold rune Ki zp;have e:=NT h;simp only[Nat.add_zero,e,a,wm];simp
theorem Sq{s:Rd}{i:Nat}(h:i<s.length)(c:128<=(s.getD i 0).toNat):128<=rune s i:=by
 unfold rune zp;have e:=NT h;simp only[Nat.add_zero,e];rw[wc ae];have b:(128:Int)<=((Utf8.runeError:Nat):Int):=af
 split
 ·split
  ·rename_i a;simp only;omega
  ·exact b
 ·split
  ·split
   ·rename_i a;simp only[ge_iff_le,zl,w5]at a ⊢;omega
   ·exact b
  ·split
   ·split
    ·rename_i a;simp only[ge_iff_le,zl,w5]at a ⊢;omega
    ·exact b
   ·exact b
end Go.Pe
namespace Go.Sp
def letter(c:Int):Bool:=(decide (97<=c)&&decide (c<=122))||(decide (65<=c)&&decide (c<=90))
def mark(c:Int):Bool:=letter c||(decide (48<=c)&&decide (c<=57))||c==95
def isName:Rd->Bool
 |[]=>false
 |c::s=>decide (s.length<=23)&&letter (c.toNat:Int)&&s.all fun c=>mark (c.toNat:Int)
end Go.Sp
namespace Go.Pe
open Go.Det
theorem OA(a b:Rd):Y8 .str a b=decide (a=b):=by
 show(a==b)=_;by_cases h:a=b<;>simp[h]
theorem G6{v:Sh}(x k:Rd)(b:v.T):∀m:List (Rd×v.T),Ee .str v x (He .str v k b m)=if x=k then some b else Ee .str v x m
 |[]=>by
  show(bif Y8 .str x k then some b else none)=_;rw[OA];by_cases h:x=k<;>simp[h,Ee]
 |(a,c)::m=>by
  show Ee .str v x (bif Y8 .str k a then(k,b)::m else(a,c)::He .str v k b m)=_;rw[OA];by_cases h:k=a
  ·subst h;simp only[decide_true,we];show(bif Y8 .str x k then some b else Ee .str v x m)=if x=k then some b else(bif Y8 .str x k then some c else Ee .str v x m)
   rw[OA];by_cases d:x=k<;>simp[d]
  ·simp only[h,decide_false,wg];show(bif Y8 .str x a then some c else Ee .str v x<|He .str v k b m)=if x=k then some b else(bif Y8 .str x a then some c else Ee .str v x m)
   rw[OA,G6 x k b m];by_cases d:x=a
   ·subst d;simp[Ne.symm h]
   ·simp[d]
def IK(m:List (Rd×Bool))(p:Rd->Prop):Prop:=∀x,(Ee .str .bool x m).getD false=true↔p x
theorem IK.nil:IK [] (fun _=>False):=fun x=>by simp[Ee]
theorem IK.add{m:List (Rd×Bool)}{p:Rd->Prop}(h:IK m p)(k:Rd):IK (He .str .bool k true m) (fun x=>x=k\/p x):=fun x=>by
 rw[G6];by_cases e:x=k
 ·simp[e]
 ·rw[wc e,h x];simp[e]
theorem IK.congr{m:List (Rd×Bool)}{p q:Rd->Prop}(h:IK m p)(e:∀x,p x↔q x):IK m q:=fun x=>(h x).trans<|e x
end Go.Pe
namespace Go.Det
section
abbrev YI:=FuncId->Option (List V->H->Option (V×H))
def Hi(P:Program)(s:YI):Prop:=∀f q,s f=some q->∀(p:Pl) (h:H) (w:World) (args:List V) (args':Array Value) v h',R p h w->Gp p->Aw p args args'.toList->q args h=some (v,h')->
 Calls P f args' w fun e w'=>∃v' p',e=.returned v'/\Ae p' v v'/\Ext p h w p' h' w'
def orS(a b:YI):YI:=fun f=>match a f with
 |some q=>some q
 |none=>b f
variable {P:Program}
theorem Pq{a b:YI}(c:Hi P a)(d:Hi P b):Hi P (orS a b):=by
 grind [orS,Hi]
def ZF(C:Ctx)(s:YI):Ctx:={ C with spec:=s }
theorem Wx{C:Ctx}(a:C.Ok P){s:YI}(h:Hi P s):(ZF C s).Ok P where
 T:=a.T
 fn:=a.fn
 prim:=a.prim
 spec:=h
theorem NA{C:Ctx}(a:GO C)(s:YI):GO (ZF C s):=a
theorem Ue{C:Ctx}(c:C.Ok P)(a:GO C)(b:P.follows .mixedOrders=true){n:Nat}{L:Cy}(h:AU C n L=true):Hi P (Ie L):=vH (C':=C) c a b h
theorem AK{C:Ctx}{n:Nat}:∀ {a b:Cy},AU C n a=true->AU C n b=true->AU C n (a++b)=true
 |[],b,_,h=>h
 |(f,x,v)::a,b,h,k=>by
  simp only[AU,zk,zl]at h ⊢;exact⟨h.1,AK h.2 k⟩
def KQ(C:Ctx)(n:Nat)(L:Cy):YI:=fun f=>match Ie L f with
 |none=>none
 |some q=>some fun args h=>match q args h with
  |some x=>some x
  |none=>match Ba C n (.fn f args) h with
   |some [x]=>some x
   |_=>none
theorem RJ{C:Ctx}(i:C.Ok P)(c:GO C)(g:P.follows .mixedOrders=true){n k:Nat}{L:Cy}(o:AU C k L=true):Hi P (KQ C n L):=by
 intro f q d p h w args args' v h' hr m a b;unfold KQ at d;cases l:Ie L f with
 |none=>grind
 |some t=>
  rw[l]at d;cases d;simp only at b;split at b
  case h_1=>rename_i x r;cases b;exact Ue i c g o f t l p h w args args' v h' hr m a r
  case h_2=>
   split at b
   case h_2=>cases b
   rename_i x s;refine((Hs i c g n).fn f args h _ s p w args' hr m a).mono ?_;rintro e w' ⟨v1,u,v',p',j,rfl,y,z⟩;grind
theorem MC{p:Pl}{h:H}{w w':World}(hr:R p h w)(a:Go.RowKit.Below w.heap.size w w')(d:w.drawn<=w'.drawn):Ext p h w p h w':=by
 obtain⟨e,f,c,g,i⟩:=a;refine⟨(by simp),⟨hr.len,fun b o a=>?_,hr.inj⟩,g,ah,ah,e,c,f,ah,d⟩;obtain⟨r,m,y,g1,g2,g3⟩:=hr.obj b o a;grind
end
end Go.Det
