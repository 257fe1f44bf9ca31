import Derived.Test.YtjbmodoofdpgcaaGreatDoorX04
import Derived.Shelf.SlSortCmp.WholeK
import Derived.Below
/- A part of a proof; no law is stated here. -/
noncomputable section
open Nat renaming beq -> zc, add -> zg, le_of_ble_eq_true -> zk, eq_of_beq_eq_true -> zl, ble -> zn, blt -> zx, mul -> yb
open Bool renaming and_eq_true -> zd
open Int renaming mul_le_mul_of_nonneg_left -> ze, toNat -> zf, pow_succ -> zp, add_mul_emod_self_left -> zr, mul_comm -> z8
open List renaming all_eq_true -> zh, getElem?_eq_some_iff -> zi, mem_cons_self -> zm, mem_cons_of_mem -> zo, replicate -> zq, mem_singleton -> zu, getElem?_append_left -> zw, mem_cons -> zy, cons_append -> zz, drop_eq_nil_of_le -> z6
open BitVec renaming ofInt -> zj
open Array renaming getElem?_eq_some_iff -> zt
open Go.Op renaming bytesLess -> z7
namespace Go.Det
open Go.Proofs Go.Sort
def XQ:Go.Shelf.Ren:=⟨fun|6=>63|15=>120|14=>119|28=>183|29=>184|20=>175|21=>176|22=>177|23=>178|24=>179|25=>180|26=>181|27=>182|46=>238|47=>239|48=>240|49=>241|50=>242|57=>276|n=>n,fun|22=>103|24=>88|25=>106|3=>3|39=>164|0=>0|53=>219|55=>200|4=>4|46=>213|45=>212|50=>108|5=>5|9=>9|66=>263|70=>267|76=>299|77=>300|n=>n,fun|n=>n⟩
theorem vT:Go.Proofs.SlLaysF0.n6 Go.Proofs.Tryz.prog XQ:=
 {mixed:=by kernel_rfl,
  f6:=⟨Go.Proofs.Tryz.f63.name,by kernel_rfl,Go.Proofs.Tryz.func63.trans<|wi some ag⟩,
  f14:=⟨Go.Proofs.Tryz.f119.name,by kernel_rfl,Go.Proofs.Tryz.func119.trans<|wi some ag⟩,
  f15:=Go.Proofs.Tryz.func120.trans (wi some ag),
  f20:=⟨Go.Proofs.Tryz.f175.name,by kernel_rfl,Go.Proofs.Tryz.func175.trans<|wi some ag⟩,
  f21:=⟨Go.Proofs.Tryz.f176.name,by kernel_rfl,Go.Proofs.Tryz.func176.trans<|wi some ag⟩,
  f22:=⟨Go.Proofs.Tryz.f177.name,by kernel_rfl,Go.Proofs.Tryz.func177.trans<|wi some ag⟩,
  f23:=⟨Go.Proofs.Tryz.f178.name,by kernel_rfl,Go.Proofs.Tryz.func178.trans<|wi some ag⟩,
  f24:=⟨Go.Proofs.Tryz.f179.name,by kernel_rfl,Go.Proofs.Tryz.func179.trans<|wi some ag⟩,
  f25:=⟨Go.Proofs.Tryz.f180.name,by kernel_rfl,Go.Proofs.Tryz.func180.trans<|wi some ag⟩,
  f26:=⟨Go.Proofs.Tryz.f181.name,by kernel_rfl,Go.Proofs.Tryz.func181.trans<|wi some ag⟩,
  f27:=⟨Go.Proofs.Tryz.f182.name,by kernel_rfl,Go.Proofs.Tryz.func182.trans<|wi some ag⟩,
  f28:=Go.Proofs.Tryz.func183.trans (wi some ag),
  f29:=Go.Proofs.Tryz.func184.trans (wi some ag),
  f46:=⟨Go.Proofs.Tryz.f238.name,by kernel_rfl,Go.Proofs.Tryz.func238.trans<|wi some ag⟩,
  f47:=Go.Proofs.Tryz.func239.trans (wi some ag),
  f48:=Go.Proofs.Tryz.func240.trans (wi some ag),
  f49:=⟨Go.Proofs.Tryz.f241.name,by kernel_rfl,Go.Proofs.Tryz.func241.trans<|wi some ag⟩,
  f50:=⟨Go.Proofs.Tryz.f242.name,by kernel_rfl,Go.Proofs.Tryz.func242.trans<|wi some ag⟩,
  f57:=⟨Go.Proofs.Tryz.f276.name,by kernel_rfl,Go.Proofs.Tryz.func276.trans<|wi some ag⟩,
  t0:=Go.Proofs.Tryz.underlying0,
  a0:=Go.Proofs.Tryz.isAgg0,
  z0:=Go.Proofs.Tryz.sizeOf0,
  v0:=Go.Proofs.Tryz.zeroValue0,
  t3:=Go.Proofs.Tryz.underlying3,
  a3:=Go.Proofs.Tryz.isAgg3,
  z3:=Go.Proofs.Tryz.sizeOf3,
  v3:=Go.Proofs.Tryz.zeroValue3,
  t4:=Go.Proofs.Tryz.underlying4,
  a4:=Go.Proofs.Tryz.isAgg4,
  z4:=Go.Proofs.Tryz.sizeOf4,
  v4:=Go.Proofs.Tryz.zeroValue4,
  t5:=Go.Proofs.Tryz.underlying5,
  a5:=Go.Proofs.Tryz.isAgg5,
  z5:=Go.Proofs.Tryz.sizeOf5,
  v5:=Go.Proofs.Tryz.zeroValue5,
  t9:=Go.Proofs.Tryz.underlying9,
  a9:=Go.Proofs.Tryz.isAgg9,
  z9:=Go.Proofs.Tryz.sizeOf9,
  v9:=Go.Proofs.Tryz.zeroValue9,
  t22:=Go.Proofs.Tryz.underlying103,
  a22:=Go.Proofs.Tryz.isAgg103,
  z22:=Go.Proofs.Tryz.sizeOf103,
  v22:=Go.Proofs.Tryz.zeroValue103,
  t25:=Go.Proofs.Tryz.underlying106,
  a25:=Go.Proofs.Tryz.isAgg106,
  z25:=Go.Proofs.Tryz.sizeOf106,
  v25:=Go.Proofs.Tryz.zeroValue106,
  t39:=Go.Proofs.Tryz.underlying164,
  a39:=Go.Proofs.Tryz.isAgg164,
  z39:=Go.Proofs.Tryz.sizeOf164,
  v39:=Go.Proofs.Tryz.zeroValue164,
  t45:=Go.Proofs.Tryz.underlying212,
  a45:=Go.Proofs.Tryz.isAgg212,
  z45:=Go.Proofs.Tryz.sizeOf212,
  v45:=Go.Proofs.Tryz.zeroValue212,
  t46:=Go.Proofs.Tryz.underlying213,
  a46:=Go.Proofs.Tryz.isAgg213,
  z46:=Go.Proofs.Tryz.sizeOf213,
  v46:=Go.Proofs.Tryz.zeroValue213,
  t50:=Go.Proofs.Tryz.underlying108,
  a50:=Go.Proofs.Tryz.isAgg108,
  z50:=Go.Proofs.Tryz.sizeOf108,
  v50:=Go.Proofs.Tryz.zeroValue108,
  t53:=Go.Proofs.Tryz.underlying219,
  a53:=Go.Proofs.Tryz.isAgg219,
  z53:=Go.Proofs.Tryz.sizeOf219,
  v53:=Go.Proofs.Tryz.zeroValue219,
  t55:=Go.Proofs.Tryz.underlying200,
  a55:=Go.Proofs.Tryz.isAgg200,
  z55:=Go.Proofs.Tryz.sizeOf200,
  v55:=Go.Proofs.Tryz.zeroValue200,
  t66:=Go.Proofs.Tryz.underlying263,
  a66:=Go.Proofs.Tryz.isAgg263,
  z66:=Go.Proofs.Tryz.sizeOf263,
  v66:=Go.Proofs.Tryz.zeroValue263,
  t70:=Go.Proofs.Tryz.underlying267,
  a70:=Go.Proofs.Tryz.isAgg267,
  z70:=Go.Proofs.Tryz.sizeOf267,
  v70:=Go.Proofs.Tryz.zeroValue267,
  t76:=Go.Proofs.Tryz.underlying299,
  a76:=Go.Proofs.Tryz.isAgg299,
  z76:=Go.Proofs.Tryz.sizeOf299,
  v76:=Go.Proofs.Tryz.zeroValue299,
  t77:=Go.Proofs.Tryz.underlying300,
  a77:=Go.Proofs.Tryz.isAgg300,
  z77:=Go.Proofs.Tryz.sizeOf300,
  v77:=Go.Proofs.Tryz.zeroValue300 }
end Go.Det
namespace Go.Sp
def val(b:Int):List Int->Int
 |[]=>0
 |d::r=>d+b*val b r
def Au(b:Int)(l:List Int):Prop:=∀d∈l,0<=d/\d<b
def nz(l:List Int):Prop:=l.getLast?≠some 0
def TZ(b:Nat):Nat->Nat->List Int
 |0,_=>[]
 |f+1,n=>if n=0 then[]else((n % b:Nat):Int)::TZ b f (n/b)
def dg(b:Nat)(n:Int):List Int:=TZ b n.toNat n.toNat
def Aw:List Int->List Int
 |[]=>[]
 |d::r=>match Aw r with
  |[]=>if d=0 then[]else[d]
  |s=>d::s
theorem Az{b:Int}(a:0<=b):∀ {l:List Int},Au b l->0<=val b l
 |[],_=>Int.le_refl _
 |d::r,h=>by
  have f:=(h d<|by simp).1;have c:=Az a (l:=r) fun x e=>h x (by simp[e])
  have:=Int.mul_nonneg a c;unfold val;omega
theorem CD(b:Int):∀(l r:List Int),val b (l++r)=val b l+b^l.length*val b r
 |[],r=>by simp[val]
 |d::l,r=>by
  rw[zz,val,CD b l r,val,List.length_cons,zp,Int.mul_add,Int.add_assoc, <-Int.mul_assoc,z8 b<|b^l.length]
theorem La(b:Int):∀n,val b (zq n 0)=0
 |0=>rfl
 |n+1=>by rw[List.replicate_succ,val,La b n];simp
theorem Bn{b:Int}(c:0<b):∀ {l:List Int},Au b l->val b l<b^l.length
 |[],_=>by simp[val]
 |d::r,h=>by
  have g:=(h d<|by simp).2;have e:=Bn c (l:=r) fun x a=>h x (by simp[a])
  have f:b*val b r<=b*(b^r.length-1):=ze ae ae;rw[val,List.length_cons,zp,z8 (b^r.length) b];grind
theorem Is(b:Int):∀l,val b (Aw l)=val b l
 |[]=>rfl
 |d::r=>by
  have a:=Is b r;grind [Aw,val]
theorem GV{b:Int}:∀ {l:List Int},Au b l->Au b (Aw l)
 |[],h=>h
 |d::r,h=>by
  have e:=GV (l:=r) fun x a=>h x (by simp[a])
  have c:=h d (by simp);unfold Aw;split
  ·split
   ·grind
   ·intro x a;grind
  ·intro x a;rcases zy.1 a with rfl|a
   ·exact c
   ·exact e x a
theorem Kn:∀l:List Int,nz<|Aw l
 |[]=>by simp[nz,Aw]
 |d::r=>by
  have a:=Kn r;grind [Aw,nz]
theorem HU:∀ {l:List Int},nz l->Aw l=l
 |[],_=>rfl
 |d::r,h=>by
  unfold Aw;cases r with
  |nil=>
   grind [nz,Aw]
  |cons a t=>
   have:nz (a::t):=by grind [nz]
   rw[HU this]
theorem IM{b:Int}(c:0<b):∀ {l:List Int},Au b l->nz l->l≠[]->0<val b l
 |[],_,_,h=>wh rfl h
 |d::r,h,g,_=>by
  have i:=(h d<|by simp).1;have e:Au b r:=fun x f=>h x (by simp[f])
  unfold val;cases r with
  |nil=>
   grind [nz,val]
  |cons a t=>
   have:=IM c e (by grind [nz]) (by simp);have:=Int.mul_pos c this;omega
theorem val_inj{b:Int}(f:0<b):∀ {l r:List Int},Au b l->Au b r->nz l->nz r->val b l=val b r->l=r
 |[],[],_,_,_,_,_=>rfl
 |[],x::r,_,a,_,e,h=>by have:=IM f a e (by simp);grind [val]
 |x::l,[],c,_,n1,_,h=>by have:=IM f c n1 (by simp);grind [val]
 |x::l,y::r,c,a,n1,e,h=>by
  have a1:=c x (by simp);have a2:=a y (by simp);unfold val at h;have k:x=y:=by
   have i:(x+b*val b l) % b=(y+b*val b r) % b:=by rw[h]
   rw[zr,zr,Int.emod_eq_of_lt a1.1 a1.2,Int.emod_eq_of_lt a2.1 a2.2]at i;exact i
  subst k;have j:val b l=val b r:=by
   grind [Int.eq_of_mul_eq_mul_left]
  have g:∀ {x:Int} {l:List Int},nz (x::l)->nz l:=by
   grind [nz]
  rw[val_inj f (fun z d=>c z<|by simp[d]) (fun z d=>a z<|by simp[d]) (g n1) (g e) j]
theorem Qt(b:Nat)(a:2<=b):∀f n,n<=f->val b (TZ b f n)=n
 |0,n,h=>by simp[TZ,val];omega
 |f+1,n,h=>by
  unfold TZ;split
  ·rename_i h0;subst h0;rfl
  ·have c:n/b<=f:=by
    have:n/b<n:=Nat.div_lt_self ae a;omega
   rw[val,Qt b a f (n/b) c];have:=Nat.mod_add_div n b;omega
theorem SG(b:Nat)(c:2<=b):∀f n,Au b<|TZ b f n
 |0,n=>by intro x a;cases a
 |f+1,n=>by
  unfold TZ;split
  ·intro x a;cases a
  ·intro x a;rcases zy.1 a with rfl|a
   ·have:=Nat.mod_lt n (show 0<b by omega);omega
   ·exact SG b c f (n/b) x a
theorem YG(b:Nat)(d:2<=b):∀f n,n<=f->nz (TZ b f n)
 |0,n,_=>by simp[TZ,nz]
 |f+1,n,h=>by
  unfold TZ;split
  ·simp[nz]
  ·have e:n/b<=f:=by
    have:n/b<n:=Nat.div_lt_self ae d;omega
   have j:=YG b d f (n/b) e;cases g:TZ b f (n/b)with
   |nil=>
    have c:=Qt b d f (n/b) e;rw[g]at c;have c:n/b=0:=by
     have:((n/b:Nat):Int)=0:=by rw[<-c];rfl
     omega
    have i:n % b=n:=Nat.mod_eq_of_lt ((Nat.div_eq_zero_iff_lt ae).1 c);simp[nz];omega
   |cons a t=>grind [nz]
theorem CO{b:Nat}(a:2<=b){n:Int}(c:0<=n):val b (dg b n)=n:=by
 unfold dg;rw[Qt b a _ _ ae];omega
theorem GJ{b:Nat}(a:2<=b)(n:Int):Au b (dg b n):=SG b a _ _
theorem Vt{b:Nat}(a:2<=b)(n:Int):nz (dg b n):=YG b a _ _ ae
theorem Ji{b:Nat}(a:2<=b){l:List Int}(d:Au b l)(c:nz l):l=dg b (val b l):=
 val_inj ae d (GJ a _) c (Vt a _) (by grind [CO,Az])
theorem VE{b:Nat}(a:2<=b){l:List Int}(c:Au b l):Aw l=dg b (val b l):=by
 rw[<-Is];grind [Ji,GV,Kn]
theorem ZA{b:Nat}(a:2<=b){n:Int}(c:0<=n):dg b n=[]↔n=0:=by
 constructor
 ·grind [CO,val]
 ·rintro rfl;rfl
theorem H7:∀l:List Int,Aw (l++[0])=Aw l
 |[]=>rfl
 |d::r=>by
  rw[zz];unfold Aw;rw[H7 r]
theorem Wc{l:List Int}{d:Int}(h:d≠0):nz (l++[d]):=by
 grind [nz]
theorem mX{x:Int}{l:List Int}(a:nz (x::l)):nz l:=by
 grind [nz]
theorem CV{b:Int}(c:0<b):∀ {l:List Int},Au b l->nz l->l≠[]->b^(l.length-1)<=val b l
 |[],_,_,h=>wh rfl h
 |[d],h,a,_=>by
  have:=IM c h a (by simp);simp at this ⊢;omega
 |d::e::r,h,a,_=>by
  have j:=(h d<|by simp).1;have g:=CV c (l:=e::r) (fun x f=>h x<|by simp[f]) (mX a) (by simp);have i:(d::e::r).length-1=((e::r).length-1)+1:=by simp
  rw[i,zp,z8];have:=ze g (show 0<=b by omega);unfold val;omega
theorem A6{b:Int}(a:0<b):∀n:Nat,0<b^n
 |0=>by simp
 |n+1=>by rw[zp];exact Int.mul_pos (A6 a n) a
theorem AJ{b:Int}(a:1<=b){m n:Nat}(h:m<=n):b^m<=b^n:=by
 obtain⟨k,rfl⟩:=Nat.exists_eq_add_of_le h;induction k with
 |zero=>simp
 |succ k c=>
  rw[show m+(k+1)=(m+k)+1 from rfl,zp];have d:=A6 (show 0<b by omega)<|m+k;have:=ze a (show 0<=b^(m+k)by omega);omega
theorem D6{b:Int}(e:2<=b){l r:List Int}(d:Au b l)(a:Au b r)(c:nz r)(h:l.length<r.length):val b l<val b r:=by
 have a1:=Bn ae d;have a2:=CV ae a c ah;have:=AJ (show 1<=b by omega) (show l.length<=r.length-1 by omega);omega
theorem AH{b:Int}{l:List Int}(h:Au b l)(i:Nat):Au b (l.take i):=fun d a=>h d ah
theorem Eb{b:Int}{l:List Int}(h:Au b l)(i:Nat):Au b (l.drop i):=fun d a=>h d ah
theorem Cg(b:Int)(l:List Int)(i:Nat)(h:i<=l.length):val b l=val b (l.take i)+b^i*val b (l.drop i):=by
 grind [List.take_append_drop,CD]
theorem IT{b:Int}(k:2<=b){l r:List Int}{x y:Int}{s:List Int}{i:Nat}(f:Au b l)(e:Au b r)(c:l.drop i=x::s)(a:r.drop i=y::s)(h:x<y):val b l<val b r:=by
 have d:i<=l.length:=by
  grind [z6]
 have i2:i<=r.length:=by
  grind [z6]
 have a1:=Bn ae<|AH f i;have a2:=Az ae<|AH e i;rw[Cg b l i d,Cg b r i i2,c,a,show val b (x::s)=x+b*val b s from rfl,show val b (y::s)=y+b*val b s from rfl];have j:=A6 (show 0<b by omega) i;have g:b^i*(x+1)<=b^i*y:=ze ae ae;grind
theorem RC(b:Nat)(a:2<=b):∀(k f n:Nat),n<b^k->(TZ b f n).length<=k
 |k,0,n,_=>by simp[TZ]
 |0,f+1,n,h=>by
  grind [TZ]
 |k+1,f+1,n,h=>by
  unfold TZ;split
  ·simp
  ·have:n/b<b^k:=by
    simp_all [Nat.pow_succ,Nat.div_lt_of_lt_mul,Nat.mul_comm]
   have:=RC b a k f (n/b) this;grind
end Go.Sp
namespace Go.Pe
open Go.Det
inductive Sh where
 |int (k:IntKind)
 |bool
 |str
 |list (s:Sh)
 |pair (a b:Sh)
 |unit
 |nlist (s:Sh)
 |fnv
 |ptr (s:Sh)
 deriving DecidableEq
@[reducible] def Sh.T:Sh->Type
 | .int _=>Int
 | .bool=>Bool
 | .str=>Rd
 | .list s=>List s.T
 | .pair a b=>a.T×b.T
 | .unit=>Unit
 | .nlist s=>List s.T
 | .fnv=>Option Fn
 | .ptr s=>s.T
def Sh.GN:(s:Sh)->s.T
 | .int _=>(0:Int)
 | .bool=>false
 | .str=>([]:Rd)
 | .list _=>[]
 | .pair a b=>(a.GN,b.GN)
 | .unit=>()
 | .nlist _=>[]
 | .fnv=>none
 | .ptr s=>s.GN
def Sh.sz:Sh->Nat
 | .pair a b=>zg a.sz b.sz
 | .unit=>0
 |_=>1
inductive PV where
 |any
 |bl (b:Bool)
 |ub
 |dat (s:Sh) (x:s.T)
 |nil|nilp|nilm|nilf|nili
 |agg (l:List PV)
 |tup (l:List PV)
 |ptr (id off:Nat)
 |eptr (id sz i off:Nat)
 |D0 (s:Sh) (x:s.T) (off:Nat)
 |sl (id sz off len:Nat) (cap:Option Nat)
 |mp (id:Nat)
 |fn (f:Fn) (first captured:List PV)
 |yl (id:Nat)
inductive LpS where
 |ready|busy|ret
 |exit (i:Nat)
inductive Obj where
 |arr (fz:Bool) (e:TypeId) (s:Sh) (l:List s.T)
 |box (cs:List PV)
 |tbox (t:TypeId) (cs:List PV)
 |map (ks vs:Sh) (l:List (ks.T×vs.T))
 |siter (s:Rd) (pos:Nat)
 |lp (f:FuncId) (r:Nat) (ps:Array Tmp) (asg body:Code) (s:LpS) (n:Nat) (sl:List (Nat×PV))
abbrev Ob:=List<|Nat×Obj
def AK:Ob->Nat->Option Obj
 |[],_=>none
 |(i,o)::l,j=>bif zc i j then some o else AK l j
def DE:Ob->Nat->Obj->Ob
 |[],_,_=>[]
 |(i,o)::l,j,x=>bif zc i j then(i,x)::l else(i,o)::DE l j x
def Fq:Ob->Nat->Ob
 |[],_=>[]
 |(i,o)::l,j=>bif zc i j then Fq l j else(i,o)::Fq l j
structure AF where
 n:Nat
 fr:PM PV
 ob:Ob
 nx:Nat
def AF.get(st:AF)(t:Nat):PV:=(st.fr.get t).getD .any
def AF.obj(st:AF)(id:Nat):Option Obj:=AK st.ob id
def AF.set(st:AF)(t:Nat)(v:PV):AF:=⟨st.n,st.fr.set t<|some v,st.ob,st.nx⟩
def AF.setObj(st:AF)(id:Nat)(o:Obj):AF:=⟨st.n,st.fr,DE st.ob id o,st.nx⟩
def AF.E7(st:AF)(id:Nat):AF:=⟨st.n,st.fr,Fq st.ob id,st.nx⟩
def AF.push(st:AF)(o:Obj):AF:=⟨st.n,st.fr,(st.nx,o)::st.ob,zg st.nx 1⟩
def AF.put(st:AF)(d:Option Nat)(v:PV):Option AF:=
 match d with
 |none=>some st
 |some t=>bif zx t st.n then some (st.set t v)else none
def Ej(vs:List (Nat×PV)):PM PV:=vs.foldl (fun m x=>m.set x.1<|some x.2) .leaf
def flat:(s:Sh)->s.T->List PV
 | .pair a b,(x,y)=>flat a x++flat b y
 | .unit,_=>[]
 | .fnv,x=>[match (x:Option Fn)with|some f=>.fn f [] []|none=>.nilf]
 | .ptr s,x=>[.D0 s x 0]
 |s,x=>[.dat s x]
def Ex(s a:Sh)(x:s.T):Option a.T:=if h:s=a then some (h▸x)else none
def asP(a:Sh)(x:a.T):(s:Sh)->Option s.T
 | .ptr s=>Ex a s x
 |_=>none
def oJ(s:Sh)(v:PV):Option s.T:=
 match v with
 | .D0 a x 0=>asP a x s
 | .dat a x=>Ex a s x
 | .bl b=>Ex .bool s b
 | .fn f [] []=>Ex .fnv s<|some f
 | .nilf=>Ex .fnv s none
 | .nil=>match s with
  | .list _=>some []
  | .nlist _=>some []
  |_=>none
 |_=>none
def Co:(s:Sh)->List PV->Option (s.T×List PV)
 | .pair a b,l=>match Co a l with
  |some (x,c)=>match Co b c with
   |some (y,d)=>some ((x,y),d)
   |none=>none
  |none=>none
 | .unit,l=>some ((),l)
 |s,v::l=>match oJ s v with
  |some x=>some (x,l)
  |none=>none
 |_,[]=>none
def DJ(s:Sh)(l:List PV):Option s.T:=
 match Co s l with
 |some (x,[])=>some x
 |_=>none
def PV.cells:PV->List PV
 | .agg cs=>cs
 |v=>[v]
def VY(ty:TypeId->Option Sh):List Field->Option Sh
 |[]=>none
 |[x]=>ty x.type
 |x::c=>match ty x.type,VY ty c with
  |some a,some b=>some<|.pair a b
  |_,_=>none
def nlf:Option Sh->Option Sh
 |some (.list<|.int .u64)=>some<|.nlist<|.int .u64
 |s=>s
def lz:PV->PV
 | .dat (.nlist s) x=>.dat (.list s) x
 |v=>v
def Sh.leaves:Sh->List Sh
 | .pair a b=>a.leaves++b.leaves
 | .unit=>[]
 |s=>[s]
def Sk:Sh->PV->Bool×PV
 | .nlist s,.dat (.list a) x=>bif s==a then(decide (0<x.length),.dat (.nlist a) x)else(true,.dat (.list a) x)
 | .list s,.dat (.nlist a) x=>bif s==a then(true,.dat (.list a) x)else(true,.dat (.nlist a) x)
 |_,v=>(true,v)
def Ky:List Sh->List PV->Bool×List PV
 |s::l,v::vs=>((Sk s v).1&&(Ky l vs).1,(Sk s v).2::(Ky l vs).2)
 |_,vs=>(true,vs)
def UN(T:BP):Nat->TypeId->Option Sh
 |0,_=>none
 |f+1,t=>match T.und t with
  |some (.int k)=>some<|.int k
  |some .bool=>some .bool
  |some .string=>some .str
  |some (.slice e)=>(UN T f e).map .list
  |some (.func _ _ _)=>some .fnv
  |some (.struct fs)=>VY (fun x=>nlf<|UN T f x) fs.toList
  |_=>none
def Sh.iN:Sh->Bool
 | .pair a b=>a.iN||b.iN
 | .fnv=>true
 |_=>false
def BN:(s:Sh)->s.T->PV
 | .pair a b,x=>.agg<|flat (.pair a b) x
 | .unit,_=>.agg []
 | .fnv,x=>match (x:Option Fn)with|some f=>.fn f [] []|none=>.nilf
 | .ptr s,x=>.D0 s x 0
 |s,x=>.dat s x
def Sh.MF:Sh->Bool
 | .pair _ _| .unit=>true
 |_=>false
def nK:(s:Sh)->s.T->s.T->Bool
 | .int _,a,b=>(a:Int)==b
 | .bool,a,b=>(a:Bool)==b
 | .str,a,b=>(a:Rd)==b
 |_,_,_=>false
def Mc(s v:Sh)(k:s.T):List (s.T×v.T)->Option v.T
 |[]=>none
 |(a,b)::l=>bif nK s k a then some b else Mc s v k l
def Qw(s v:Sh)(k:s.T)(x:v.T):List (s.T×v.T)->List (s.T×v.T)
 |[]=>[(k,x)]
 |(a,b)::l=>bif nK s k a then(k,x)::l else(a,b)::Qw s v k x l
def RD(s v:Sh)(k:s.T):List (s.T×v.T)->List (s.T×v.T)
 |[]=>[]
 |(a,b)::l=>bif nK s k a then l else(a,b)::RD s v k l
inductive Tr where
 |fail
 |leaf (v:PV) (ob:Ob)
 |ite (c:Bool) (a b:Tr)
 |both (a b:Tr)
 |cut (nd ro:Bool) (d:Nat) (f:FuncId) (base:Nat) (b:Code) (st:AF) (k:DX->AF->Tr)
 |alts (m:Nat) (f:Nat->Tr)
 |loop (nd ro:Bool) (d:Nat) (f:FuncId) (base:Nat) (b:Code) (st:AF) (k:DX->AF->Tr)
abbrev Tr.ck(c:Bool)(x:Tr):Tr:=.ite c x .fail
abbrev Tr.cd(P:Prop)[Decidable P](x:Tr):Tr:=.ite (decide P) x .fail
abbrev aa(k:Nat):Bool:=decide (1<=1)&&decide (0<1)&&decide ((3*1+2000)*k<=562949953421312)
abbrev ac(n m k:Nat):Bool:=decide (1<=1)&&true&&decide (n=m)&&decide ((3*(n+1)+2000)*k<=562949953421312)
abbrev Tr.di(P:Prop)[Decidable P](x y:Tr):Tr:=.ite (decide P) x y
inductive PO where
 |bad
 |val (v:PV) (st:AF)
 |ite (c:Bool) (a b:PO)
def PO.Ii(c:Bool)(v:PV)(st:AF):PO:=.ite c (.val v st) .bad
mutual
def Md:Value->Option PV
 | .bool b=>some<|.bl b
 | .int k n=>some<|.dat (.int k) n
 | .string s=>some<|.dat .str s.data.toList
 | .pointer none=>some .nilp
 | .slice none 0 0=>some .nil
 | .map none=>some .nilm
 | .nilFunc=>some .nilf
 | .nilIface=>some .nili
 | .func f ⟨[]⟩ ⟨[]⟩=>some<|.fn f [] []
 | .agg ⟨cs⟩=>(Yg cs).map .agg
 | .tuple ⟨cs⟩=>(Yg cs).map .tup
 |_=>none
def Yg:List Value->Option (List PV)
 |[]=>some []
 |v::vs=>match Md v,Yg vs with
  |some x,some a=>some (x::a)
  |_,_=>none
end
def Ub:V->PV
 | .bool b=>.bl b
 | .int k n=>.dat (.int k) n
 | .str s=>.dat .str s
 | .nilp=>.nilp
 | .nils=>.nil
 | .nilm=>.nilm
 | .nilf=>.nilf
 | .nili=>.nili
 |_=>.any
def OV(st:AF):Operand->Option PV
 | .tmp t=>some<|st.get t
 | .const v=>Md v
 | .global _=>none
 | .func f=>some<|.fn (.func f) [] []
def Lw(st:AF):List Operand->Option (List PV)
 |[]=>some []
 |x::a=>match OV st x,Lw st a with
  |some v,some vs=>some (v::vs)
  |_,_=>none
def Yj(st:AF):List (Nat×Operand)->Option (List<|Nat×PV)
 |[]=>some []
 |(i,x)::a=>match OV st x,Yj st a with
  |some v,some vs=>some ((i,v)::vs)
  |_,_=>none
def Zl(T:BP)(t:TypeId):Option (List PV):=(T.inf t).bind fun i=>bif Kb V.ok i.zero then some (i.zero.map Ub)else none
def pick(d:TypeDesc)(n:Nat)(cs:List PV):Option PV:=
 bif DP d then(bif zn n (ET cs)&&zx 0 n then some (.agg<|VL n cs)else none)
 else match cs with
  |v::_=>some v
  |[]=>none
def ov(st:AF):Option PV->PO
 |some v=>.val v st
 |none=>.bad
def uG(c:Bool)(st:AF):Option PV->PO
 |some v=>.Ii c v st
 |none=>.bad
def chunk(s:Sh):Nat->List PV->Option (List s.T)
 |0,_=>some []
 |n+1,cs=>match Co s cs with
  |some (x,cs')=>(chunk s n cs').map (x:: ·)
  |none=>none
def N0(s:Sh)(l:List s.T):Nat->Nat->List PV
 |_,0=>[]
 |j,n+1=>flat s (l.getD j s.GN)++N0 s l (zg j 1) n
def zsh:List V->Option Sh
 | .bool _::_=>some .bool
 | .int k _::_=>some<|.int k
 |_=>none
def uD:Sh->V->Bool
 | .bool,.bool b=> !b
 | .int k,.int a n=>decide (k=a)&&decide (n=0)
 |_,_=>false
def pN(T:BP)(t:TypeId):Option (Sh×Nat):=
 match T.und t,T.inf t with
 |some (.array _ _),some i=>match zsh i.zero with
  |some s=>bif zn 32 (ET i.zero)&&Kb (uD s) i.zero then some (s,ET i.zero)else none
  |none=>none
 |_,_=>none
def LY(T:BP)(st:AF)(t:TypeId)(a:PV):PO:=
 match T.und t,T.inf t with
 |some d,some i=>match a with
  | .ptr id off=>match st.obj id with
   |some (.box cs)=>ov st<|pick d i.size<|Jg off cs
   |some (.arr _ _ s l)=>bif zc off 0&&zc s.sz 1 then uG (decide (l.length=i.size)) st (pick d i.size<|N0 s l 0 i.size)else .bad
   |some (.tbox _ cs)=>ov st<|pick d i.size<|Jg off cs
   |_=>.bad
  | .eptr id sz j off=>match st.obj id with
   |some (.arr _ _ s l)=>bif zc sz s.sz then uG (decide (j<l.length)) st (pick d i.size<|Jg off<|flat s<|l.getD j s.GN)else .bad
   |_=>.bad
  | .D0 s x off=>ov st<|pick d i.size<|Jg off<|flat s x
  |_=>.bad
 |_,_=>.bad
def Hy:Option Obj->Bool
 |some _=>true
 |none=>false
def Kc(st:AF):PV->Bool
 | .agg _| .tup _| .any| .ub=>false
 | .ptr id _| .eptr id _ _ _| .sl id _ _ _ _| .mp id| .yl id=>Hy<|st.obj id
 |_=>true
def tW(st:AF):PV->Option (List PV)
 | .agg l=>some l
 |p=>bif Kc st p then some [p]else none
def TO(T:BP)(st:AF)(t:TypeId)(a x:PV):PO:=
 match T.inf t,tW st x with
 |some i,some b=>bif zc (ET b) i.size&&Kb (Kc st) b then
   match a with
   | .ptr id off=>match st.obj id with
    |some (.box cs)=>bif zn (zg off i.size) (ET cs)then .val (.tup []) (st.setObj id<|.box<|Ce off b cs)else .bad
    |some (.arr false e s l)=>bif zc off 0&&zc s.sz 1 then
      match chunk s i.size b with
      |some y=>.Ii (decide (l.length=i.size)) (.tup [])<|st.setObj id<|.arr false e s y
      |none=>.bad
     else .bad
    |some (.tbox tb cs)=>bif zn (zg off i.size) (ET cs)then .val (.tup []) (st.setObj id<|.tbox tb<|Ce off b cs)else .bad
    |_=>.bad
   | .eptr id sz j off=>match st.obj id with
    |some (.arr false e s l)=>bif zc sz s.sz&&zn (zg off i.size) sz then
      match DJ s (Ce off b<|flat s<|l.getD j s.GN)with
      |some y=>.Ii (decide (j<l.length)) (.tup [])<|st.setObj id<|.arr false e s<|l.set j y
      |none=>.bad
     else .bad
    |_=>.bad
   |_=>.bad
  else .bad
 |_,_=>.bad
def Hb(k:IntKind)(a b:Int):Int:=k.wrap (zj k.bits a&&&zj k.bits b).toNat
def Xg(k:IntKind)(a b:Int):Int:=k.wrap (zj k.bits a|||zj k.bits b).toNat
def Aac(k:IntKind)(a b:Int):Int:=k.wrap (zj k.bits a^^^zj k.bits b).toNat
def xH(k:IntKind)(a b:Int):Int:=k.wrap (zj k.bits a&&& ~~~zj k.bits b).toNat
def rR(op:BinOp)(k:IntKind)(a b:Int)(st:AF):PO:=
 match op with
 | .add=>.val (.dat (.int k)<|k.wrap<|a+b) st
 | .sub=>.val (.dat (.int k)<|k.wrap<|a-b) st
 | .mul=>.val (.dat (.int k)<|k.wrap<|a*b) st
 | .quo=>.Ii (decide (b≠0)) (.dat (.int k)<|k.wrap<|a.tdiv b) st
 | .rem=>.Ii (decide (b≠0)) (.dat (.int k)<|a.tmod b) st
 | .and=>.val (.dat (.int k)<|Hb k a b) st
 | .or=>.val (.dat (.int k)<|Xg k a b) st
 | .xor=>.val (.dat (.int k)<|Aac k a b) st
 | .andNot=>.val (.dat (.int k)<|xH k a b) st
 | .eql=>.val (.dat .bool<|a==b) st
 | .neq=>.val (.dat .bool<|a !=b) st
 | .lss=>.val (.dat .bool<|decide (a<b)) st
 | .leq=>.val (.dat .bool<|decide (a<=b)) st
 | .gtr=>.val (.dat .bool<|decide (a>b)) st
 | .geq=>.val (.dat .bool<|decide (a>=b)) st
 |_=>.bad
def zI(op:BinOp)(k:IntKind)(a b:Int)(st:AF):PO:=
 match op with
 | .shl=>.Ii (decide (0<=b)) (.dat (.int k)<|k.wrap<|a*2^(min b.toNat k.bits)) st
 | .shr=>.Ii (decide (0<=b)) (.dat (.int k)<|a.fdiv<|2^(min b.toNat k.bits)) st
 |_=>.bad
def qK(op:BinOp)(x y:Rd)(st:AF):PO:=
 match op with
 | .add=>.Ii (decide (x.length+y.length<=4611686018427387904)) (.dat .str<|x++y) st
 | .eql=>.val (.dat .bool<|x==y) st
 | .neq=>.val (.dat .bool<|!(x==y)) st
 | .lss=>.val (.dat .bool<|z7 x y) st
 | .leq=>.val (.dat .bool<|z7 x y||x==y) st
 | .gtr=>.val (.dat .bool<|!(z7 x y||x==y)) st
 | .geq=>.val (.dat .bool<|!z7 x y) st
 |_=>.bad
def lG:BinOp->Bool
 | .shl| .shr=>true
 |_=>false
def II:PV->Option Bool
 | .bl b=>some b
 | .dat .bool b=>some b
 |_=>none
def Gw:List FK->List PV->List PV->Option Bool
 |[],[],[]=>some true
 | .int k::ks,.dat (.int f) a::c,.dat (.int e) b::d=>bif k==f&&k==e then(Gw ks c d).map fun r=>(a:Int)==(b:Int)&&r else none
 | .str::ks,.dat .str a::c,.dat .str b::d=>(Gw ks c d).map fun r=>(a:Rd)==(b:Rd)&&r
 | .bool::ks,a::c,b::d=>match II a,II b with
  |some a,some b=>(Gw ks c d).map fun r=>a==b&&r
  |_,_=>none
 |_,_,_=>none
def Q4(st:AF)(ng:Bool)(x:PV):PO:=
 match x with
 | .nil=>.val (.bl<|!ng) st
 | .sl id _ _ _ _=>bif Hy (st.obj id)then .val (.bl ng) st else .bad
 | .dat (.list _) l=>.ite (decide (0<l.length)) (.val (.bl ng) st)<|.val .ub st
 | .dat (.nlist _) l=>.val (.dat .bool<|bif ng then decide (0<l.length)else !decide (0<l.length)) st
 |_=>.bad
def fT(op:BinOp)(x y:PV)(st:AF):PO:=
 match op,x,y with
 | .eql,x,.nil=>Q4 st false x
 | .neq,x,.nil=>Q4 st true x
 |_,_,_=>.bad
def ptrEq(T:BP)(e:TypeId)(st:AF)(x y:PV):Option Bool:=
 match x,y with
 | .nilp,.nilp=>some true
 | .ptr id _,.nilp=>bif Hy (st.obj id)then some false else none
 | .nilp,.ptr id _=>bif Hy (st.obj id)then some false else none
 | .ptr a i,.ptr b j=>bif zc a b&&Hy (st.obj a)then match T.inf e with
   |some c=>bif zx 0 c.size then some (zc i j)else none
   |none=>none
  else none
 |_,_=>none
def pM(T:BP)(op:BinOp)(t:TypeId)(x y:PV)(st:AF):PO:=
 match x,y with
 | .dat (.int k) a,.dat (.int c) b=>bif lG op then zI op k a b st else(bif k==c then rR op k a b st else .bad)
 | .dat .str a,.dat .str b=>qK op a b st
 | .agg d,.agg f=>match T.flat t with
  |some ks=>match op,Gw ks d f with
   | .eql,some r=>.val (.dat .bool r) st
   | .neq,some r=>.val (.dat .bool<|!r) st
   |_,_=>.bad
  |none=>.bad
 |x,y=>match II x,II y,T.und t with
  |some a,some b,some .bool=>match op with
   | .eql=>.val (.dat .bool<|a==b) st
   | .neq=>.val (.dat .bool<|!(a==b)) st
   |_=>.bad
  |_,_,some (.slice _)=>fT op x y st
  |_,_,some (.pointer e)=>match op,ptrEq T e st x y with
   | .eql,some r=>.val (.bl r) st
   | .neq,some r=>.val (.bl<|!r) st
   |_,_=>.bad
  |_,_,_=>.bad
def pun(op:UnOp)(x:PV)(st:AF):PO:=
 match op,x with
 | .neg,.dat (.int k) n=>.val (.dat (.int k)<|k.wrap<|0-(n:Int)) st
 | .not,.bl b=>.val (.bl<|!b) st
 | .not,.ub=>.val .ub st
 | .not,.dat .bool b=>.val (.dat .bool<|!b) st
 |_,_=>.bad
def eG(T:BP)(s d:TypeId)(x:PV)(st:AF):PO:=
 match T.und s,T.und d,x with
 |some _,some<|.int k,.dat (.int _) n=>.val (.dat (.int k)<|k.wrap n) st
 |some .string,some .string,.dat .str s=>.val (.dat .str s) st
 |_,_,_=>.bad
def cG(c a b:PV)(st:AF):PO:=
 match c with
 | .bl t=>.val (bif t then a else b) st
 | .dat .bool t=>match a,b with
  | .dat .bool x,.bl false=>.val (.dat .bool<|t&&x) st
  | .bl true,.dat .bool x=>.val (.dat .bool<|t||x) st
  |_,_=>.ite t (.val a st)<|.val b st
 |_=>.bad
def Uy(T:BP)(t:TypeId)(x:PV)(f:Nat)(st:AF):PO:=
 match T.und t,x with
 |some (.struct fs),.agg cs=>match fs[f]? with
  |some a=>match T.und a.type,T.inf a.type with
   |some d,some i=>ov st<|pick d i.size<|Jg a.offset cs
   |_,_=>.bad
  |none=>.bad
 |_,_=>.bad
def Uu(T:BP)(t:TypeId)(x:PV)(f:Nat)(st:AF):PO:=
 match T.und t with
 |some (.struct fs)=>match fs[f]? with
  |some a=>match T.inf a.type with
   |some i=>bif zc i.size 0 then .bad else match x with
    | .ptr id off=>bif Hy (st.obj id)then .val (.ptr id<|zg off a.offset) st else .bad
    | .eptr id sz j off=>bif Hy (st.obj id)then .val (.eptr id sz j<|zg off a.offset) st else .bad
    | .D0 s y off=>.val (.D0 s y<|zg off a.offset) st
    |_=>.bad
   |none=>.bad
  |none=>.bad
 |_=>.bad
def QM(T:BP)(t:TypeId)(x ix:PV)(st:AF):PO:=
 match T.und t,ix with
 |some (.slice e),.dat (.int _) i=>match T.inf e with
  |some a=>match x with
   | .dat (.list s) l=>bif zc a.size s.sz then .Ii (decide (0<=(i:Int))&&decide ((i:Int)<(l.length:Int))) (.D0 s (l.getD (zf i) s.GN) 0) st else .bad
   | .sl id sz off len _=>bif zc a.size sz&&Hy (st.obj id)then .Ii (decide (0<=(i:Int))&&decide ((i:Int)<(len:Int))) (.eptr id sz (zg (zf i) off) 0) st else .bad
   |_=>.bad
  |none=>.bad
 |some (.array len e),.dat (.int _) i=>match T.inf e with
  |some a=>match x with
   | .ptr id off=>match st.obj id with
    |some (.arr _ _ s _)=>bif zc off 0&&zc a.size s.sz then .Ii (decide (0<=(i:Int))&&decide ((i:Int)<(len:Int))) (.eptr id s.sz (zf i) 0) st else .bad
    |some _=>.Ii (decide (0<=(i:Int))&&decide ((i:Int)<(len:Int))) (.ptr id<|zg off<|yb (zf i) a.size) st
    |none=>.bad
   | .eptr id sz j off=>bif Hy (st.obj id)then .Ii (decide (0<=(i:Int))&&decide ((i:Int)<(len:Int))) (.eptr id sz j<|zg off<|yb (zf i) a.size) st else .bad
   | .D0 s y off=>.Ii (decide (0<=(i:Int))&&decide ((i:Int)<(len:Int))) (.D0 s y<|zg off<|yb (zf i) a.size) st
   |_=>.bad
  |none=>.bad
 |_,_=>.bad
def cX(T:BP)(t:TypeId)(x ix:PV)(st:AF):PO:=QM T t (lz x) ix st
def U6(T:BP)(t:TypeId)(x ix:PV)(st:AF):PO:=
 match T.und t,x,ix with
 |some .string,.dat .str s,.dat (.int _) i=>.Ii (decide (0<=(i:Int))&&decide ((i:Int)<((s:Rd).length:Int))) (.dat (.int .u8) (((s:Rd).getD (zf i) 0).toNat:Int)) st
 |some (.array len e),.agg cs,.dat (.int _) i=>match T.und e,T.inf e with
  |some d,some a=>uG (decide (0<=(i:Int))&&decide ((i:Int)<(len:Int))) st<|pick d a.size<|Jg (yb (zf i) a.size) cs
  |_,_=>.bad
 |_,_,_=>.bad
def Of(x:PV)(i:Nat)(st:AF):PO:=
 match x with
 | .tup vs=>match vs[i]? with
  |some v=>.val v st
  |none=>.bad
 |_=>.bad
def pb(x:Option PV)(GN:Nat):Option (Bool×Nat):=
 match x with
 |none=>some (true,GN)
 |some (.dat (.int _) n)=>some (decide (0<=(n:Int)),zf n)
 |_=>none
def has(mx:Option PV)(c:Nat):Bool:=match mx with
 |none=>true
 |some _=>decide (0<c)
def Ru(T:BP)(t:TypeId)(x:PV)(d c mx:Option PV)(st:AF):PO:=
 match T.und t with
 |some .string=>match x,mx with
  | .dat .str s,none=>match pb d 0,pb c (s:Rd).length with
   |some (b,l),some (a,h)=>.Ii (b&&a&&decide (l<=h)&&decide (h<=(s:Rd).length)) (.dat .str<|((s:Rd).drop l).take<|Nat.sub h l) st
   |_,_=>.bad
  |_,_=>.bad
 |some (.slice e)=>match T.inf e with
  |some i=>match x with
   | .dat (.list s) f=>bif zc i.size s.sz then
     match pb d 0,pb c f.length,mx with
     |some (b,l),some (a,h),none=>.Ii (b&&a&&decide (l<=h)&&decide (h<=f.length)) (.dat (.list s)<|(f.drop l).take<|Nat.sub h l) st
     |_,_,_=>.bad
    else .bad
   | .sl id sz off len cap=>bif zc i.size sz&&Hy (st.obj id)then
     match c,mx with
     |none,some _=>.bad
     |_,_=>match pb d 0,pb c len,pb mx (cap.getD len)with
      |some (b,l),some (a,h),some (g,m)=>.Ii (b&&a&&g&&decide (l<=h)&&decide (h<=m)&&decide (m<=cap.getD len)&&has mx (cap.getD len)) (.sl id sz (zg off l) (Nat.sub h l)<|some<|Nat.sub m l) st
      |_,_,_=>.bad
    else .bad
   | .nil=>match pb d 0,pb c 0,mx with
    |some (b,l),some (a,h),none=>.Ii (b&&a&&decide (l<=h)&&decide (h<=0)) .nil st
    |some (b,l),some (a,h),some q=>match c,pb (some q) 0 with
     |some _,some (g,m)=>.Ii (b&&a&&g&&decide (l<=h)&&decide (h<=m)&&decide (m<=0)) .nil st
     |_,_=>.bad
    |_,_,_=>.bad
   |_=>.bad
  |none=>.bad
 |_=>.bad
def fV(T:BP)(t:TypeId)(x:PV)(b a mx:Option PV)(st:AF):PO:=Ru T t (lz x) b a mx st
def pi64(n:Nat):PV:=.dat (.int .i64)<|Int.ofNat n
def Sr(T:BP)(ts:Array TypeId)(args:List PV)(st:AF):PO:=
 match ts[0]?,args with
 |some t,[x]=>match T.und t,x with
  |some .string,.dat .str s=>.val (pi64 (s:Rd).length) st
  |some (.slice _),.dat (.list _) l=>.val (pi64 l.length) st
  |some (.slice _),.sl id _ _ len _=>bif Hy (st.obj id)then .val (pi64 len) st else .bad
  |some (.slice _),.nil=>.val (pi64 0) st
  |some (.map _ _),.mp id=>match st.obj id with
   |some (.map _ _ l)=>.val (pi64 l.length) st
   |_=>.bad
  |_,_=>.bad
 |_,_=>.bad
def mH(T:BP)(ts:Array TypeId)(args:List PV)(st:AF):PO:=Sr T ts (args.map lz) st
def vQ(f:Int->Int->Int)(k:IntKind):Int->List PV->Option Int
 |x,[]=>some x
 |x,.dat (.int a) y::b=>bif k==a then vQ f k (f x y) b else none
 |_,_=>none
def Mw(f:Int->Int->Int)(args:List PV)(st:AF):PO:=
 match args with
 | .dat (.int k) x::a=>match vQ f k x a with
  |some z=>.val (.dat (.int k) z) st
  |none=>.bad
 |_=>.bad
def imax(x y:Int):Int:=if y>x then y else x
def CH(x y:Int):Int:=if y<x then y else x
def G4(st:AF)(s:Sh)(x:PV):Option (Bool×List s.T):=
 match x with
 | .nil=>some (true,[])
 | .dat (.list a) l=>(Ex (.list a) (.list s) l).map fun r=>(true,r)
 | .sl id sz off len _=>match st.obj id with
  |some (.arr _ _ a l)=>bif zc sz a.sz then(Ex (.list a) (.list s) l).map fun r=>(decide (off+len<=r.length),(r.drop off).take len)else none
  |_=>none
 | .dat .str l=>(Ex (.list<|.int .u8) (.list s)<|List.map (fun b:UInt8=>(b.toNat:Int)) l).map fun r=>(true,r)
 |_=>none
def Nx(st:AF)(s:Sh)(x:PV):Option (Bool×List s.T):=G4 st s<|lz x
def LIM:Nat:=281474976710656
def cS:Nat:=562949953421312
def Rp:TypeDesc->Bool
 | .slice _=>true
 | .string=>true
 |_=>false
def Qa(T:BP)(ts:Array TypeId)(args:List PV)(st:AF):PO:=
 match ts[0]?,ts[1]?,args with
 |some t,some a,[b,x]=>match T.und t,T.und a with
  |some (.slice e),some g=>bif Rp g then match T.inf e,UN T 9 e with
   |some i,some s=>
    bif zx 0 i.bytes&&zx 0 i.size&&zc i.zero.length i.size&&zc i.size s.sz then
     match Nx st s x with
     |some (c,new)=>match b with
      | .nil=>match x with
       | .nil=>.val .nil st
       | .dat _ _=>.ite (decide (0<new.length)) (.Ii (c&&decide ((3*new.length+2000)*i.bytes<=cS)) (.sl st.nx s.sz 0 new.length none)<|st.push<|.arr false e s new)<|.val .nil st
       | .sl _ _ _ _ (some _)=>.ite (decide (0<new.length)) (.Ii (c&&decide ((3*new.length+2000)*i.bytes<=cS)) (.sl st.nx s.sz 0 new.length none)<|st.push<|.arr false e s new)<|.Ii c .nil st
       |_=>.Ii (c&&decide (0<new.length)&&decide ((3*new.length+2000)*i.bytes<=cS)) (.sl st.nx s.sz 0 new.length none)<|st.push<|.arr false e s new
      | .sl id sz off len cap=>match st.obj id with
       |some (.arr false f d l)=>match Ex (.list d) (.list s) l with
        |some l'=>bif zc e f&&zc sz s.sz then
          match cap with
          |none=>.Ii (c&&decide (off=0)&&decide (len=l'.length)&&decide ((3*(len+new.length)+2000)*i.bytes<=cS)) (.sl st.nx s.sz 0 (zg len new.length) none)<|(st.E7 id).push<|.arr false e s<|l'++new
          |some k=>.Ii (c&&decide (len+new.length<=k)&&decide (off+k<=l'.length)) (.sl id sz off (zg len new.length)<|some k) (st.setObj id<|.arr false e s<|l'.take (off+len)++(new++l'.drop (off+len+new.length)))
         else .bad
        |none=>.bad
       |_=>.bad
      |_=>.bad
     |none=>.bad
    else .bad
   |_,_=>.bad
   else .bad
  |_,_=>.bad
 |_,_,_=>.bad
def UW(T:BP)(ts:Array TypeId)(args:List PV)(st:AF):PO:=
 match ts[0]?,args with
 |some t,[x]=>match T.und t with
  |some (.slice e)=>match x with
   | .nil=>.val (.tup []) st
   | .sl id sz off len _=>match T.inf e,st.obj id with
    |some i,some (.arr false a s l)=>
     bif zc sz s.sz&&zx 0 i.zero.length&&zc i.zero.length s.sz&&Kb V.one i.zero then
      match DJ s (i.zero.map Ub)with
      |some z=>.Ii (decide (off+len<=l.length)) (.tup [])<|st.setObj id<|.arr false a s<|l.take off++(zq len z++l.drop (off+len))
      |none=>.bad
     else .bad
    |_,_=>.bad
   |_=>.bad
  |_=>.bad
 |_,_=>.bad
def UK(args:List PV)(st:AF):PO:=
 match args with
 |[.sl id sz off len none]=>bif Hy (st.obj id)then .Ii (decide (0<len)) (.eptr id sz off 0) st else .bad
 |_=>.bad
def Rb(l:List Int):Rd:=l.map fun x=>UInt8.ofNat x.toNat
def PJ(l:List Int):Bool:=l.all fun x=>decide (0<=x)&&decide (x<256)
def cB(T:BP)(ts:List TypeId)(args:List PV)(st:AF):PO:=
 match ts,args with
 |[c,_],[.eptr id _ i 0,.dat (.int .i64) n]=>match T.und c,st.obj id with
  |some (.pointer e),some (.arr false b s l)=>match T.inf e,Ex (.list s) (.list<|.int .u8) l with
   |some d,some a=>bif zc d.size 1&&zc e b then
     .Ii (decide (i=0)&&decide (0<(n:Int))&&decide (zf n<=(a:List Int).length)&&decide (zf n<=9223372036854775807)&&PJ a) (.dat .str<|Rb<|(a:List Int).take<|zf n) (st.E7 id)
    else .bad
   |_,_=>.bad
  |_,_=>.bad
 |_,_=>.bad
def H3(T:BP)(b:Builtin)(ts:Array TypeId)(args:List PV)(st:AF):PO:=
 match b with
 | .len=>mH T ts args st
 | .append=>Qa T ts args st
 | .max=>Mw imax args st
 | .min=>Mw CH args st
 | .clear=>UW T ts args st
 | .unsafeSliceData=>UK args st
 | .unsafeString=>cB T ts.toList args st
 |_=>.bad
def rune(s:Rd)(pos:Nat):Int:=(Utf8.decode (bytesOf s) pos).1
def oK(s:Rd)(pos:Nat):Nat:=(Utf8.decode (bytesOf s) pos).2
def Ut(T:BP)(t:TypeId)(x:PV)(st:AF):PO:=
 match T.und t,x with
 |some .string,.dat .str s=>.val (.ptr st.nx 0)<|st.push<|.siter s 0
 |_,_=>.bad
def ZE(x:PV)(a:Bool)(st:AF):PO:=
 match x,a with
 | .ptr id 0,true=>match st.obj id with
  |some (.siter s pos)=>.ite (decide (pos<s.length)) (.val (.tup [.bl true,.dat (.int .i64)<|Int.ofNat pos,.dat (.int .i32)<|rune s pos])<|st.setObj id<|.siter s<|zg pos<|oK s pos)<|.val (.tup [.bl false]) st
  |_=>.bad
 |_,_=>.bad
def PE(st:AF)(place:Nat->Option (Nat×Nat))(cells:List PV):List (Nat×PV)->Option (List PV)
 |[]=>some cells
 |(i,v)::a=>match place i with
  |none=>none
  |some (off,size)=>match tW st v with
   |some vs=>bif zc (ET vs) size&&zn (zg off size) (ET cells)then PE st place (Ce off vs cells) a else none
   |none=>none
def T5(T:BP)(st:AF)(t:TypeId)(a:List (Nat×PV)):Option PV:=
 match T.inf t,T.und t with
 |some i,some (.struct fs)=>
  match fs.toList.mapM (fun f=>(T.inf f.type).map fun j=>(f.offset,j.size))with
  |some pl=>(PE st (fun i=>pl[i]?) (i.zero.map Ub) a).map .agg
  |none=>none
 |some i,some (.array _ e)=>match T.inf e with
  |some j=>(PE st (fun i=>some (i*j.size,j.size)) (i.zero.map Ub) a).map .agg
  |none=>none
 |_,_=>none
def Om(z:List PV):Nat->List PV
 |0=>[]
 |n+1=>z++Om z n
def Cq(st:AF):PV->Option (Bool×PV)
 | .sl id sz off len _=>match st.obj id with
  |some (.arr _ _ s l)=>bif zc sz s.sz then some (decide (off+len<=l.length),.dat (.list s)<|(l.drop off).take len)else none
  |_=>none
 | .dat s x=>some (true,.dat s x)
 | .D0 s x off=>some (true,.D0 s x off)
 | .bl b=>some (true,.bl b)
 | .nil=>some (true,.nil)
 | .fn f [] []=>some (true,.fn f [] [])
 |_=>none
def DT(st:AF):List PV->Option (Bool×List PV)
 |[]=>some (true,[])
 |v::vs=>match Cq st v,DT st vs with
  |some (c,x),some (d,a)=>some (c&&d,x::a)
  |_,_=>none
def Bq(st:AF):PV->AF
 | .sl id _ _ _ _=>match st.obj id with
  |some (.arr _ e s l)=>st.setObj id<|.arr true e s l
  |_=>st
 |_=>st
def Bf:List PV->AF->AF
 |[],st=>st
 |v::vs,st=>Bf vs<|Bq st v
def Rv(T:BP)(t:TypeId)(len:Nat)(a:List (Nat×PV))(st:AF):PO:=
 match T.und t with
 |some (.slice e)=>match T.inf e,UN T 9 e with
  |some i,some s=>
   bif zn (yb len i.size) 16777216&&zx 0 i.zero.length&&zc i.zero.length i.size&&zc i.size s.sz then
    match PE st (fun k=>some (k*i.size,i.size)) (Om (i.zero.map Ub) len) a with
    |some cs=>match chunk s len cs with
     |some l=>.val (.sl st.nx s.sz 0 len none)<|st.push<|.arr false e s l
     |none=>match DT st cs with
      |some (c,cs')=>match chunk s len cs' with
       |some l=>.Ii c (.sl st.nx s.sz 0 len none)<|(Bf cs st).push<|.arr false e s l
       |none=>.bad
      |none=>.bad
    |none=>.bad
   else .bad
  |_,_=>.bad
 |_=>.bad
def Z8(T:BP)(t:TypeId)(l c:PV)(st:AF):PO:=
 match T.und t,l,c with
 |some (.slice e),.dat (.int _) l,.dat (.int _) c=>match T.inf e,UN T 9 e with
  |some i,some s=>
   bif zx 0 i.zero.length&&zc i.zero.length i.size&&zc i.size s.sz then
    match DJ s (i.zero.map Ub)with
    |some z=>.Ii (decide (0<=(l:Int))&&decide ((l:Int)=(c:Int))&&decide (i.bytes*zf l<=LIM)&&decide ((l:Int)<9223372036854775808)) (.sl st.nx s.sz 0 (zf l) none)<|st.push<|.arr false e s<|zq (zf l) z
    |none=>.bad
   else .bad
  |_,_=>.bad
 |_,_,_=>.bad
def jM(T:BP)(t:TypeId):Option Sh:=match T.und t with
 |some (.int k)=>some<|.int k
 |some .string=>some .str
 |some .bool=>some .bool
 |_=>none
def Oh:PV->Bool
 | .agg _=>true
 |_=>false
def zT(s:Sh)(p:PV):Option s.T:=bif Oh p==s.MF then DJ s p.cells else none
def UJ(T:BP)(t:TypeId)(st:AF):PO:=match T.und t with
 |some (.map a e)=>match jM T a,UN T 9 e with
  |some ks,some vs=>.val (.mp st.nx)<|st.push<|.map ks vs []
  |_,_=>.bad
 |_=>.bad
def bZ(st:AF)(ks vs:Sh)(m:PV):Option (List<|ks.T×vs.T):=match m with
 | .nilm=>some []
 | .mp id=>match st.obj id with
  |some (.map b a l)=>Ex (.list<|.pair b a) (.list<|.pair ks vs) l
  |_=>none
 |_=>none
def zC:V->Bool
 | .agg _=>true
 |_=>false
def wQ(ks vs:Sh)(ok:Bool)(z:vs.T)(x:ks.T)(st:AF):List (ks.T×vs.T)->PO
 |[]=>.val (bif ok then .tup [BN vs z,.bl false]else BN vs z) st
 |(a,b)::l=>.ite (nK ks x a) (.val (bif ok then .tup [BN vs b,.bl true]else BN vs b) st)<|wQ ks vs ok z x st l
def Rm(T:BP)(t:TypeId)(m k:PV)(ok:Bool)(st:AF):PO:=match T.und t with
 |some (.map a e)=>match jM T a,UN T 9 e,T.inf e with
  |some ks,some vs,some i=>match oJ ks k,bZ st ks vs m,DJ vs (i.zero.map Ub)with
   |some x,some l,some z=>
    bif zC i.zv==vs.MF then bif vs.iN then wQ ks vs ok z x st l else
     (let v:=BN vs ((Mc ks vs x l).getD z)
     .val (bif ok then .tup [v,.dat .bool (Mc ks vs x l).isSome]else v) st)
    else .bad
   |_,_,_=>.bad
  |_,_,_=>.bad
 |_=>.bad
def Qj(T:BP)(t:TypeId)(m k v:PV)(st:AF):PO:=match T.und t,m with
 |some (.map b _),.mp id=>match jM T b,st.obj id with
  |some ks,some (.map a vs l)=>match oJ ks k,Ex (.list<|.pair a vs) (.list<|.pair ks vs) l,zT vs v with
   |some x,some l,some y=>.val (.tup [])<|st.setObj id<|.map ks vs<|Qw ks vs x y l
   |_,_,_=>.bad
  |_,_=>.bad
 |_,_=>.bad
def Rt(T:BP)(ts:Array TypeId)(args:List PV)(st:AF):PO:=match ts[0]?,args with
 |some t,[.mp id,k]=>match T.und t with
  |some (.map b _)=>match jM T b,st.obj id with
   |some ks,some (.map a vs l)=>match oJ ks k,Ex (.list<|.pair a vs) (.list<|.pair ks vs) l with
    |some x,some l=>.val (.tup [])<|st.setObj id<|.map ks vs<|RD ks vs x l
    |_,_=>.bad
   |_,_=>.bad
  |_=>.bad
 |_,_=>.bad
abbrev JS:=BP->AF->PO
def v1(st:AF)(x:Operand)(k:PV->PO):PO:=match OV st x with|some v=>k v|none=>.bad
def TE(x:Operand):JS:=fun _ st=>ov st<|OV st x
def bM(c a b:Operand):JS:=fun _ st=>v1 st c fun c=>v1 st a fun a=>v1 st b fun b=>cG c a b st
def nQ(T:BP)(t:TypeId):Bool:=
 match T.und t with
 |some (.struct fs)=>match fs[0]? with
  |some f=>match T.und f.type with
   |some (.pointer u)=>zc u t
   |_=>false
  |none=>false
 |_=>false
def Q0(t:TypeId):JS:=fun T st=>match pN T t with
 |some (s,n)=>.val (.ptr st.nx 0)<|st.push<|.arr false t s<|zq n s.GN
 |none=>match Zl T t with|some cs=>.val (.ptr st.nx 0) (st.push<|bif nQ T t then .tbox t cs else .box cs)|none=>.bad
def oS(_:TypeId)(x:Operand):JS:=fun _ st=>v1 st x fun v=>match tW st v with|some cs=>bif Kb (Kc st) cs then .val (.ptr st.nx 0) (st.push<|.box cs)else .bad|none=>.bad
def Vv(t:TypeId)(ps:Array (Nat×Operand)):JS:=fun T st=>match Yj st ps.toList with|some l=>ov st (T5 T st t l)|none=>.bad
def Sv(t:TypeId)(n:Nat)(ps:Array (Nat×Operand)):JS:=fun T st=>match Yj st ps.toList with|some l=>Rv T t n l st|none=>.bad
def cD(t:TypeId)(x:Operand):JS:=fun T st=>v1 st x fun a=>LY T st t a
def Vw(t:TypeId)(x y:Operand):JS:=fun T st=>v1 st x fun a=>v1 st y fun b=>TO T st t a b
def On(x:Operand):JS:=fun _ st=>v1 st x fun a=>match a with| .ptr id _| .eptr id _ _ _=>bif Hy (st.obj id)then .val a st else .bad| .D0 .. =>.val a st|_=>.bad
def oB(T:BP)(op:BinOp)(t:TypeId)(x y:Operand)(a b:PV):Option Bool:=
 match op,a,b,T.und t with
 | .eql,.nili,.nili,some (.interface _)=>bif WO x||WO y then some true else none
 | .neq,.nili,.nili,some (.interface _)=>bif WO x||WO y then some false else none
 |_,_,_,_=>none
def oL(op:BinOp)(t:TypeId)(x y:Operand)(_:TypeId):JS:=fun T st=>v1 st x fun a=>v1 st y fun b=>match oB T op t x y a b with|some r=>.val (.bl r) st|none=>pM T op t a b st
def vY(op:UnOp)(_:TypeId)(x:Operand):JS:=fun _ st=>v1 st x fun a=>pun op a st
def Z5(s d:TypeId)(x:Operand):JS:=fun T st=>v1 st x fun a=>eG T s d a st
def bY(f:Fn)(a b:Array Operand):JS:=fun _ st=>match Lw st a.toList,Lw st b.toList with|some x,some y=>.val (.fn f x y) st|_,_=>.bad
def ZS(t:TypeId)(l c:Operand):JS:=fun T st=>v1 st l fun a=>v1 st c fun b=>Z8 T t a b st
def o1(st:AF)(x:Option Operand)(k:Option PV->PO):PO:=match x with|none=>k none|some y=>v1 st y fun v=>k<|some v
def WB(t:TypeId)(x:Operand)(a b c:Option Operand):JS:=fun T st=>v1 st x fun v=>o1 st a fun l=>o1 st b fun h=>o1 st c fun m=>fV T t v l h m st
def VA(t:TypeId)(x:Operand)(f:Nat):JS:=fun T st=>v1 st x fun a=>Uu T t a f st
def Wd(t:TypeId)(x:Operand)(f:Nat):JS:=fun T st=>v1 st x fun a=>Uy T t a f st
def Ws(t:TypeId)(x i:Operand):JS:=fun T st=>v1 st x fun a=>v1 st i fun b=>cX T t a b st
def Wg(t:TypeId)(x i:Operand):JS:=fun T st=>v1 st x fun a=>v1 st i fun b=>U6 T t a b st
def Pc(x:Operand)(i:Nat):JS:=fun _ st=>v1 st x fun a=>Of a i st
def Ro(c:Call):JS:=fun T st=>
 match Lw st c.args.toList with
 |none=>.bad
 |some args=>match c.callee with
  | .builtin b=>match b with
   | .delete=>Rt T c.argTypes args st
   |_=>H3 T b c.argTypes args st
  |_=>.bad
def VM(t:TypeId)(r:Option Operand):JS:=fun T st=>match r with|none=>UJ T t st|some _=>.bad
def SE(t:TypeId)(x i:Operand)(ok:Bool):JS:=fun T st=>v1 st x fun a=>v1 st i fun b=>Rm T t a b ok st
def M6(t:TypeId)(m k x:Operand):JS:=fun T st=>v1 st m fun a=>v1 st k fun b=>v1 st x fun c=>Qj T t a b c st
def V8(t:TypeId)(x:Operand):JS:=fun T st=>v1 st x fun a=>Ut T t a st
def bC(x:Operand)(b:Bool):JS:=fun _ st=>v1 st x fun a=>ZE a b st
def I4:JS:=fun _ _=>.bad
def pop(o:Op):JS:=@Op.casesOn (fun _=>JS) o TE TE bM Q0 oS Vv Sv M6 cD Vw (fun _=>I4) (fun _=>I4) On oL vY Z5
 (fun _ _=>I4) (fun _ _=>I4) bY VM (fun _ _=>I4) ZS WB VA Wd Ws Wg SE M6 (fun _ _ _=>I4) (fun _ _ _ _=>I4)
 V8 bC (fun _=>I4) (fun _ _ _ _=>I4) Pc Ro (fun _=>I4) (fun _=>I4) (fun _=>I4) (fun _ _=>I4) (fun _ _ _=>I4) (fun _ _=>I4)
end Go.Pe
namespace Go.Det
section
abbrev RH:=FuncId->Option (List V->H->Option (V×H))
def EO(P:Program)(s:RH):Prop:=∀f q,s f=some q->∀(p:Pl) (h:H) (w:World) (args:List V) (args':Array Value) v h',R p h w->Gp p->An p args args'.toList->q args h=some (v,h')->
 Calls P f args' w fun e w'=>∃v' p',e=.returned v'/\Ab p' v v'/\Ext p h w p' h' w'
def dP(a b:RH):RH:=fun f=>match a f with
 |some q=>some q
 |none=>b f
variable {P:Program}
theorem G3{a b:RH}(d:EO P a)(c:EO P b):EO P (dP a b):=by
 grind [dP,EO]
def MP(C:Ctx)(s:RH):Ctx:={ C with spec:=s }
theorem H4{C:Ctx}(a:C.Ok P){s:RH}(h:EO P s):(MP C s).Ok P where
 T:=a.T
 fn:=a.fn
 prim:=a.prim
 spec:=h
theorem Ez{C:Ctx}(a:Df C)(s:RH):Df (MP C s):=a
theorem QK{C:Ctx}(b:C.Ok P)(a:Df C)(c:P.follows .mixedOrders=true){n:Nat}{L:Cw}(h:AU C n L=true):EO P (Hj L):=mD (C':=C) b a c h
theorem AL{C:Ctx}{n:Nat}:∀ {a b:Cw},AU C n a=true->AU C n b=true->AU C n (a++b)=true
 |[],b,_,h=>h
 |(f,x,v)::a,b,h,k=>by
  simp only[AU,zz,zd]at h ⊢;exact⟨h.1,AL h.2 k⟩
def Hk(C:Ctx)(n:Nat)(L:Cw):RH:=fun f=>match Hj L f with
 |none=>none
 |some q=>some fun args h=>match q args h with
  |some x=>some x
  |none=>match A1 C n (.fn f args) h with
   |some [x]=>some x
   |_=>none
theorem K2{C:Ctx}(j:C.Ok P)(c:Df C)(i:P.follows .mixedOrders=true){n k:Nat}{L:Cw}(t:AU C k L=true):EO P (Hk C n L):=by
 intro f q d p h w args args' v h' m o b a;unfold Hk at d;cases g:Hj L f with
 |none=>grind
 |some s=>
  rw[g]at d;cases d;simp only at a;split at a
  case h_1=>rename_i x r;cases a;exact QK j c i t f s g p h w args args' v h' m o b r
  case h_2=>
   split at a
   case h_2=>cases a
   rename_i x u;refine((Ew j c i n).fn f args h _ u p w args' m o b).mono ?_;rintro e w' ⟨v1,A,v',p',l,rfl,z,y⟩;grind
theorem Lt{p:Pl}{h:H}{w w':World}(a:R p h w)(c:Go.RowKit.Below w.heap.size w w')(d:w.drawn<=w'.drawn):Ext p h w p h w':=by
 obtain⟨i,e,g,f,j⟩:=c;refine⟨(by simp),⟨a.len,fun b o c=>?_,a.inj⟩,f,ah,ah,i,g,e,ah,d⟩;obtain⟨r,m,y,g1,g2,g3⟩:=a.obj b o c;grind
def BI:List (Nat×O)->PM O->PM O
 |[],m=>m
 |(b,o)::l,m=>BI l<|m.set b<|some o
theorem GF:∀ {l:List (Nat×O)} {m:PM O} {b:Nat} {o:O},(BI l m).get b=some o->(b,o)∈l\/m.get b=some o
 |[],m,b,o,h=>.inr h
 |(c,x)::l,m,b,o,h=>by
  rcases GF (l:=l) h with h1|h1
  ·exact .inl<|zo _ h1
  ·rw[PM.Cs]at h1;by_cases e:b=c
   ·rw[wd e]at h1;cases h1;exact .inl<|e▸zm ..
   ·rw[wc e]at h1;exact .inr h1
theorem J4{n:Nat}:∀ {l:List (Nat×O)} {m:PM O} {b:Nat},(l.all fun x=>zn n x.1)=true->b<n->(BI l m).get b=m.get b
 |[],m,b,_,_=>rfl
 |(c,x)::l,m,b,h,d=>by
  rw[List.all_cons,zd]at h;have a:=zk h.1;have a:n<=c:=a;show(BI l<|m.set c<|some x).get b=_;rw[J4 h.2 d,PM.Cs,wc ae]
structure MY where
 f:FuncId
 a:List V
 foot:List (Nat×O)
 n:Nat
 v:V
 new:List (Nat×O)
 n':Nat
def V0:O->Bool
 | .cells cs _ _=>V.EK cs
 |_=>false
def wO(x:MY)(y:V×H):Bool:=V.beq y.1 x.v&&zc y.2.nx x.n'&&Sg y.2 x.foot&&Sg y.2 x.new
def uW(x:MY)(y:V×H):Bool:=match x.new,y.1 with
 |[(b,o)],.tup (.sl c off len cap e::a)=>V.beq (.tup (.sl b off len cap e::a)) x.v&&V.EK a&&zc y.2.nx x.n'&&Sg y.2 x.foot&&Ka (y.2.get c) (some o)&&V0 o&&zn x.n c&&zx b x.n'&&Sg ⟨BI x.foot .leaf,x.n⟩ x.foot&&x.foot.all fun z=>V0 z.2
 |_,_=>false
def xO(x:MY)(y:V×H):Bool:=wO x y||uW x y
def UL(C:Ctx)(k:Nat)(x:MY):Bool:=(match A1 C k (.fn x.f x.a) ⟨BI x.foot .leaf,x.n⟩with
 |some l=>l.all<|xO x
 |none=>false)&&x.new.all fun y=>zn x.n y.1
def Je(C:Ctx)(k:Nat):List MY->Bool
 |[]=>true
 |x::l=>UL C k x&&Je C k l
def ZZ:List MY->FuncId->Bool
 |[],_=>false
 |x::l,f=>bif zc x.f f then true else ZZ l f
def QL:List MY->FuncId->List V->H->Option (V×H)
 |[],_,_,_=>none
 |x::l,f,args,h=>bif zc x.f f&&V.I5 x.a args&&zc x.n h.nx&&Sg h x.foot then some (x.v,⟨BI x.new h.m,x.n'⟩)else QL l f args h
def cT(C:Ctx)(k:Nat)(L:List MY):RH:=fun f=>bif ZZ L f then some fun args h=>match QL L f args h with
  |some x=>some x
  |none=>match A1 C k (.fn f args) h with
   |some [x]=>some x
   |_=>none
 else none
theorem XN{p q:Pl}{n:Nat}{o:O}{x:Obj}(b:V0 o=true)(h:I9 p n o x):I9 q n o x:=by
 cases o with
 |cells cs t fz=>
  obtain⟨c,fz',r,g,w,f,j⟩:=h;refine⟨c,fz',r,g,w,⟨f.1,fun i d v e k m=>?_⟩,j⟩;have u:d.flat=true:=by
   have b:V.EK cs=true:=b;have key:∀ {l:List V},V.EK l=true->∀z∈l,z.flat=true:=by
    intro l;induction l with
    |nil=>intro _ z a;cases a
    |cons y l s=>
     intro h z a;simp only[V.EK,zd]at h;rcases zy.1 a with rfl|a
     ·exact h.1
     ·exact s h.2 z a
   exact key b d<|List.mem_of_getElem? e
  exact V.Cu u<|f.2 i d v e k m
 |_=>cases b
theorem H8{x:MY}{b:Nat}{o:O}(a:H.get ⟨BI x.foot .leaf,x.n⟩ b=some o):(b,o)∈x.foot:=by
 rcases GF (m:=.leaf) a with q|q
 ·exact q
 ·rw[PM.CS]at q;cases q
theorem SK{x:MY}{p p':Pl}{h J:H}{w w':World}(u:R p h w)(O:h.nx=x.n)(v:∀z∈x.foot,h.get z.1=some z.2)(e:Ext p ⟨BI x.foot .leaf,x.n⟩ w p' J w')(S:J.nx=x.n')(L:∀z∈x.foot,J.get z.1=some z.2)(A:∀z∈x.new,J.get z.1=some z.2)(M:(x.new.all fun z=>zn x.n z.1)=true):Ext p h w p' ⟨BI x.new h.m,x.n'⟩ w':=by
 have fo:∀b o,H.get ⟨BI x.foot .leaf,x.n⟩ b=some o->(b,o)∈x.foot:=fun b o a=>by
  rcases GF (m:=.leaf) a with q|q
  ·exact q
  ·rw[PM.CS]at q;cases q
 have lt:∀b o,h.get b=some o->b<x.n:=fun b o a=>by
  obtain⟨r,m,y,k,_,_⟩:=u.obj b o a;rw[<-O, <-u.len];exact(zi.1 k).1
 have out:∀b o,H.get ⟨BI x.new h.m,x.n'⟩ b=some o->(b,o)∈x.new\/h.get b=some o:=fun b o a=>GF a
 have old:∀b,b<x.n->H.get ⟨BI x.new h.m,x.n'⟩ b=h.get b:=fun b a=>J4 M a
 obtain⟨q,N⟩:=e.pre;have up:∀b o z,h.get b=some o->p[b]?=some z->p'[b]?=some z:=fun b o z a I=>by
  rw[N,zw (zi.1 I).1];exact I
 have F:∀b o z,h.get b=some o->p'[b]?=some z->p[b]?=some z:=fun b o z a I=>by
  obtain⟨r,m,y,k,_,_⟩:=u.obj b o a;have:=up b o _ a k;rw[I]at this;cases this;exact k
 have T:∀b o,(b,o)∈x.new->x.n<=b:=fun b o a=>zk<|zh.1 M _ a
 have Q:∀b o r n,h.get b=some o->p[b]?=some (r,n)->Im p ⟨BI x.foot .leaf,x.n⟩ r->(b,o)∈x.foot:=fun b o r n a g ⟨b',o',n',s,i2⟩=>by
  have i3:=fo b' o' s;have:=u.inj b b' o o' r n n' a (v _ i3) g i2;subst this;have i4:=v _ i3;simp only at i4;rw[a]at i4;cases i4;exact i3
 have sub:∀r,Im p ⟨BI x.foot .leaf,x.n⟩ r->Im p h r:=fun r ⟨b,o,n,s,i2⟩=>⟨b,o,n,v _<|fo b o s,i2⟩
 have B:∀b b' o o' r n n',h.get b=some o->(b',o')∈x.new->p'[b]?=some (r,n)->p'[b']?=some (r,n')->False:=fun b b' o o' r n n' a d g f=>by
  obtain⟨U,m,y,k,E,_⟩:=u.obj b o a;have G:=F b o _ a g;rw[k]at G;cases G;have j:=(zt.1 E).1;rcases e.im r ⟨b',o',n',A _ d,f⟩with⟨c,z,K,s,i2⟩|i
  ·have i3:=fo c z s;have:=e.rel.inj c b' z o' r K n' (L _ i3) (A _ d) (up c z _ (v _ i3) i2) f;have W:=lt c z<|v _ i3;have V:=T b' o' d;omega
  ·omega
 refine⟨e.pre,⟨by rw[e.rel.len,S],fun b o a=>?_,fun b b' o o' r n n' a d g f=>?_⟩,e.size,fun r j l=>e.same r j fun i=>l<|sub r i,fun r l=>?_,e.os,e.out,e.tape,fun r j D=>?_,e.dr⟩
 ·rcases out b o a with a|a
  ·exact e.rel.obj b o<|A _ a
  ·obtain⟨r,m,y,k,E,G⟩:=u.obj b o a;by_cases l:Im p ⟨BI x.foot .leaf,x.n⟩ r
   ·exact e.rel.obj b o<|L _<|Q b o r m a k l
   ·refine⟨r,m,y,up b o _ a k,?_,?_⟩
    ·rw[e.same r (zt.1 E).1 l];exact E
    ·rw[N];exact G.mono q
 ·rcases out b o a with a|a<;>rcases out b' o' d with d|d
  ·exact e.rel.inj b b' o o' r n n' (A _ a) (A _ d) g f
  ·exact(B b' b o' o r n' n d a f g).elim
  ·exact(B b b' o o' r n n' a d g f).elim
  ·exact u.inj b b' o o' r n n' a d (F b o _ a g)<|F b' o' _ d f
 ·obtain⟨b,o,n,a,g⟩:=l;rcases out b o a with a|a
  ·rcases e.im r ⟨b,o,n,A _ a,g⟩with i|i
   ·exact .inl<|sub r i
   ·exact .inr i
  ·exact .inl ⟨b,o,n,a,F b o _ a g⟩
 ·obtain⟨b,n,cs,t,fz,a,g,D⟩:=D;refine⟨?_,.inl ⟨b,n,cs,t,fz,by rw[old b<|lt b _ a];exact a,up b _ _ a g,D⟩⟩;by_cases l:Im p ⟨BI x.foot .leaf,x.n⟩ r
  ·obtain⟨c,z,K,s,i2⟩:=l;have i3:=fo c z s;have:=u.inj b c _ z r n K a (v _ i3) g i2;subst this;have i4:=v _ i3;simp only at i4;rw[a]at i4;cases i4;exact(e.lock r j ⟨b,n,cs,t,fz,s,g,D⟩).1
  ·exact e.same r j l
theorem eP{C:Ctx}(hC:C.Ok P)(hce:Df C)(hm:P.follows .mixedOrders=true){k:Nat}{x:MY}(g:UL C k x=true){p:Pl}{h:H}{w:World}{args':Array Value}(I:R p h w)(hg:Gp p)(ha:An p x.a args'.toList)(M:h.nx=x.n)(F:Sg h x.foot=true):
  Calls P x.f args' w fun e w'=>∃v' p',e=.returned v'/\Ab p' x.v v'/\Ext p h w p' ⟨BI x.new h.m,x.n'⟩ w':=by
 unfold UL at g;rw[zd]at g;obtain⟨g,X⟩:=g;split at g
 case h_2=>cases g
 rename_i L he;have F:=GK F;have lt:∀b o,h.get b=some o->b<x.n:=fun b o S=>by
  obtain⟨r,m,y,Z,_,_⟩:=I.obj b o S;rw[<-M, <-I.len];exact(zi.1 Z).1
 have hr':R p ⟨BI x.foot .leaf,x.n⟩ w:=⟨by rw[I.len,M],fun b o S=>I.obj b o<|F _<|H8 S,fun b b' o o' r n n' S hb'=>I.inj b b' o o' r n n' (F _<|H8 S)<|F _<|H8 hb'⟩;refine((Ew hC hce hm k).fn x.f x.a _ _ he p w args' hr' hg ha).mono ?_;rintro e w' ⟨u,h1,v',p',Q,rfl,k1,j⟩;have g:=zh.1 g _ Q;unfold xO at g;rw[Bool.or_eq_true]at g;rcases g with g|g
 ·unfold wO at g;simp only[zd]at g;obtain⟨⟨⟨x1,x2⟩,x3⟩,x4⟩:=g;have x1:=V.beq_eq x1;subst x1;exact⟨v',p',rfl,k1,SK I M F j (zl x2) (GK x3) (GK x4) X⟩
 ·unfold uW at g;split at g
  case h_2=>cases g
  rename_i b o c off len cap e T A hu;have hu:u=.tup (.sl c off len cap e::T):=hu;subst hu;simp only[zd]at g;obtain⟨⟨⟨⟨⟨⟨⟨⟨⟨y1,y2⟩,y3⟩,y4⟩,J⟩,y6⟩,y7⟩,y8⟩,ya⟩,y9⟩:=g;have ya:=GK ya;have y1:=V.beq_eq y1;have y3:=zl y3;have y4:=GK y4;have y7:x.n<=c:=zk y7;have y8:b<x.n':=by simpa [FL]using y8
  have hb0:x.n<=b:=by
   have:=zh.1 X (b,o) (by rw[A];exact zm ..);exact zk this
  have hc:h1.get c=some o:=by
   have J:Ka (h1.get c) (some o)=true:=J;cases Y:h1.get c with
   |none=>rw[Y]at J;cases J
   |some z=>rw[Y]at J;rw[QP (a:=z) (b:=o)<|by simpa [Ka]using J]
  obtain⟨q,Y⟩:=j.pre;have pl:p.length=x.n:=by rw[I.len,M]
  obtain⟨r,m,y,Z,g2,g3⟩:=j.rel.obj c o hc;have ln:p'.length=x.n':=by rw[j.rel.len];exact y3
  have G:(p'.set b (r,m))[b]?=some (r,m):=by rw[List.getElem?_set_self ae]
  have D:∀z,z≠b->(p'.set b (r,m))[z]?=p'[z]?:=fun z i=>List.getElem?_set_ne ae
  have ft:∀z d,(z,d)∈x.foot->z<x.n:=fun z d i=>lt z d<|F _ i
  have ex:Ext p ⟨BI x.foot .leaf,x.n⟩ w (p'.set b (r,m)) ⟨BI x.new<|BI x.foot .leaf,x.n'⟩ w':=by
   have get:∀z d,H.get ⟨BI x.new<|BI x.foot .leaf,x.n'⟩ z=some d->(z=b/\d=o)\/(z,d)∈x.foot:=fun z d i=>by
    rcases GF i with s|s
    ·rw[A]at s;have:=zu.1 s;cases this;exact .inl ⟨rfl,rfl⟩
    ·exact .inr<|H8 s
   have B:∀z d,H.get ⟨BI x.new<|BI x.foot .leaf,x.n'⟩ z=some d->∃E,h1.get E=some d/\(p'.set b (r,m))[z]?=p'[E]?/\V0 d=true/\((z=b/\E=c)\/(z<x.n/\E=z)):=fun z d i=>by
    rcases get z d i with⟨rfl,rfl⟩|s
    ·exact⟨c,hc,by rw[G,Z],y6,.inl ⟨rfl,rfl⟩⟩
    ·have l:=ft z d s;exact⟨z,y4 _ s,D z ae,zh.1 y9 _ s,.inr ⟨l,rfl⟩⟩
   refine⟨⟨q.set (b-p.length) (r,m),by rw[Y,List.set_append_right _ _ ae]⟩,⟨by rw[List.length_set,ln],fun z d i=>?_,fun z E d K s n n' i hz' W O=>?_⟩,j.size,j.same,fun s ⟨z,d,n,i,W⟩=>?_,j.os,j.out,j.tape,fun s hlt hl=>?_,j.dr⟩
   ·obtain⟨E,U,N,c3,_⟩:=B z d i;obtain⟨s,n,y,d1,d2,d3⟩:=j.rel.obj E d U;exact⟨s,n,y,by rw[N];exact d1,d2,XN c3 d3⟩
   ·obtain⟨u,U,N,_,c4⟩:=B z d i;obtain⟨u',d1,d2,_,d4⟩:=B E K hz';rw[N]at W;rw[d2]at O;have:=j.rel.inj u u' d K s n n' U d1 W O;omega
   ·obtain⟨u,U,N,_,_⟩:=B z d i;rw[N]at W;exact j.im s ⟨u,d,n,U,W⟩
   ·refine⟨(j.lock s hlt hl).1,.inl ?_⟩;obtain⟨z,n,cs,t,fz,e1,e2,e3⟩:=hl;have l:=ft z _<|H8 e1;refine⟨z,n,cs,t,fz,?_,?_,e3⟩
    ·show(BI x.new<|BI x.foot .leaf).get z=_;rw[J4 X l];exact e1
    ·rw[D z ae,Y,zw (zi.1 e2).1];exact e2
  refine⟨v',p'.set b (r,m),rfl,?_,SK I M F ex rfl (fun z i=>?_) (fun z i=>?_) X⟩
  ·rw[<-y1];obtain⟨xs,rfl,h5⟩:=k1;refine⟨xs,rfl,?_⟩;obtain⟨a,Aby,h6,h7,h8⟩:=h5;rw[h6,A4];refine⟨?_,V.Ga y2 h8⟩;obtain⟨s,n,c',i1,i2⟩:=h7;exact⟨s,n,c',by rw[G, <-Z];exact i1,i2⟩
  ·show(BI x.new<|BI x.foot .leaf).get z.1=_;rw[J4 X<|ft z.1 z.2 i];exact ya z i
  ·show(BI x.new<|BI x.foot .leaf).get z.1=_;rw[A]at i ⊢;rw[zu.1 i];show((BI x.foot .leaf).set b<|some o).get b=_;rw[PM.Cs,wd rfl]
theorem Wb{C:Ctx}{k:Nat}:∀ {L:List MY} {f:FuncId} {args:List V} {h:H} {r:V×H},Je C k L=true->QL L f args h=some r->∃x:MY,UL C k x=true/\x.f=f/\x.a=args/\h.nx=x.n/\Sg h x.foot=true/\r=(x.v,⟨BI x.new h.m,x.n'⟩)
 |x::L,f,args,h,r,d,b=>by
  simp only[Je,zd]at d;unfold QL at b;cases c:(zc x.f f&&V.I5 x.a args&&zc x.n h.nx&&Sg h x.foot)with
  |false=>rw[c]at b;exact Wb d.2 b
  |true=>
   rw[c]at b;cases b;simp only[zd]at c;obtain⟨⟨⟨j,e⟩,i⟩,g⟩:=c;exact⟨x,d.1,zl j,V.Fu e,(zl i).symm,g,rfl⟩
theorem bQ{C:Ctx}(l:C.Ok P)(c:Df C)(j:P.follows .mixedOrders=true){k:Nat}{L:List MY}(z:Je C k L=true):EO P (cT C k L):=by
 intro f q g p h w args args' v E m n b a;unfold cT at g;cases i:ZZ L f with
 |false=>rw[i]at g;cases g
 |true=>
  rw[i]at g;cases g;simp only at a;split at a
  case h_1=>
   rename_i x o;cases a;obtain⟨y,r,rfl,rfl,A,u,D⟩:=Wb z o;cases D;exact eP l c j r m n b A u
  case h_2=>
   split at a
   case h_2=>cases a
   rename_i x B;cases a;refine((Ew l c j k).fn f args h _ B p w args' m n b).mono ?_;rintro e w' ⟨v1,F,v',p',d,rfl,t,s⟩;cases zu.1 d;exact⟨v',p',rfl,t,s⟩
end
section
variable {C:Ctx}
def sB(C:Ctx):Ctx:=⟨C.T,C.ng,C.fn,C.prim,C.spec,false⟩
theorem kE{P:Program}(h:C.Ok P):(sB C).Ok P where
 T:=h.T
 fn:=h.fn
 prim:=h.prim
 spec:=h.spec
theorem UT(h:Df C):Df (sB C):=h
def bO(id:Nat):Code->Bool
 | .block i _=>zc i id
 | .seq _ b=>bO id b
 |_=>false
def Po(j N:Nat):Nat->List X->List X
 |_,[]=>[]
 |q,x::l=>bif zc (Nat.mod q N) j then x::Po j N (zg q 1) l else Po j N (zg q 1) l
theorem Px{N:Nat}(a:0<N):∀ {l:List X} (q:Nat) {x:X},x∈l->∃j,j<N/\x∈Po j N q l
 |y::l,q,x,h=>by
  rcases zy.1 h with rfl|h
  ·refine⟨q % N,Nat.mod_lt _ a,?_⟩;unfold Po;rw[show zc (Nat.mod q N) (q % N)=true from Nat.beq_refl _];exact zm ..
  ·obtain⟨j,c,b⟩:=Px a (q+1) h;refine⟨j,c,?_⟩;unfold Po;cases zc (Nat.mod q N) j with
   |true=>exact zo _ b
   |false=>exact b
def dI(C:Ctx)(call:CJ)(ct:Bool)(id j N:Nat):Nat->Code->Fr->H->List Nat->Option (List X)
 |0,_,_,_,_=>none
 |m+1,c,fr,h,ds=>
  match c with
  | .seq a b=>match Be C call none ct m a fr h ds with
   |some l=>bif bO id a then(bl (Po j N 0 l) fun x=>match x.e with
     | .normal=>Be C call none ct m b x.fr x.h x.ds
     |_=>some [x])
    else(bl l fun x=>match x.e with
     | .normal=>dI C call ct id j N m b x.fr x.h x.ds
     |_=>some [x])
   |none=>none
  |c=>Be C call none ct (m+1) c fr h ds
theorem dG{α d:Type}{G:d->Prop}{f:α->Option (List d)}:∀ {l:List α},(∀x∈l,∃r,f x=some r/\∀y∈r,G y)->∃r,bl l f=some r/\∀y∈r,G y
 |[],_=>⟨[],rfl,fun y a=>by cases a⟩
 |x::l,h=>by
  obtain⟨r,b,c⟩:=h x<|zm ..;obtain⟨s,h3,h4⟩:=dG (l:=l) fun y a=>h y<|zo _ a
  cases l with
  |nil=>exact⟨r,by simp only[bl,b],c⟩
  |cons z l=>
   refine⟨r++s,?_,fun y a=>?_⟩
   ·rw[bl,b];simp only[h3]
   ·rcases List.mem_append.1 a with a|a
    ·exact c y a
    ·exact h4 y a
theorem cI{call:CJ}{ct:Bool}{id N:Nat}{G:X->Prop}(k:0<N):∀(m:Nat) (c:Code) (fr:Fr) (h:H) (ds:List Nat),
  (∀j,j<N->∃l,dI C call ct id j N m c fr h ds=some l/\∀x∈l,G x)->∃l,Be C call none ct m c fr h ds=some l/\∀x∈l,G x
 |0,c,fr,h,ds,d=>by
  obtain⟨l,o,_⟩:=d 0 k;cases o
 |m+1,c,fr,h,ds,d=>by
  cases c with
  |seq a b=>
   simp only[dI]at d;simp only[Be];cases t:Be C call none ct m a fr h ds with
   |none=>
    obtain⟨l,o,_⟩:=d 0 k;rw[t]at o;cases o
   |some l=>
    simp only[t]at d;refine dG fun x p=>?_
    cases u:bO id a with
    |true=>
     simp only[u,we]at d;obtain⟨j,o,w⟩:=Px k 0 p;obtain⟨r,f,n⟩:=d j o;obtain⟨s,h5,h6⟩:=EH f x w;exact⟨s,h5,fun y g=>n y<|h6 y g⟩
    |false=>
     simp only[u,wg]at d;cases q:x.e with
     |normal=>
      simp only;refine cI (id:=id) k m b x.fr x.h x.ds fun j v=>?_
      obtain⟨r,f,n⟩:=d j v;obtain⟨s,h5,h6⟩:=EH f x p;simp only[q]at h5;exact⟨s,h5,fun y g=>n y<|h6 y g⟩
     |exit i=>
      obtain⟨r,f,n⟩:=d 0 k;obtain⟨s,h5,h6⟩:=EH f x p;simp only[q]at h5;exact⟨s,h5,fun y g=>n y<|h6 y g⟩
     |ret=>
      obtain⟨r,f,n⟩:=d 0 k;obtain⟨s,h5,h6⟩:=EH f x p;simp only[q]at h5;exact⟨s,h5,fun y g=>n y<|h6 y g⟩
  |_=>exact d 0 k
def qG(C:Ctx)(i:Fn)(x:X):Option (List<|V×H):=match x.e with
 | .exit _=>none
 |_=>match Fe x.ds x.h with
  |some a=>match M9 C x.fr a i.results.toList with
   |some v=>some [(v,a)]
   |none=>none
  |none=>none
def ZD(C:Ctx)(i:Fn)(y:MY)(x:X):Bool:=match qG C i x with
 |some l=>l.all<|xO y
 |none=>false
def oN(C:Ctx)(k:Nat)(y:MY)(id j N:Nat):Bool:=match C.fn y.f with
 |some i=>(match dI C (A1 C k) i.cert id j N k i.body (Jf i.ntmps y.a) ⟨BI y.foot .leaf,y.n⟩ []with
  |some l=>l.all<|ZD C i y
  |none=>false)
 |none=>false
theorem xT{k:Nat}{y:MY}{id N:Nat}(q:C.mg=false)(o:C.spec y.f=none)(d:0<N)(h:∀j,j<N->oN C k y id j N=true)(b:(y.new.all fun z=>zn y.n z.1)=true):UL C (k+1) y=true:=by
 unfold UL;rw[b,Bool.and_true,A1];simp only[o];unfold oN at h;cases e:C.fn y.f with
 |none=>
  have:=h 0 d;rw[e]at this;cases this
 |some i=>
  simp only[e]at h;obtain⟨l,u,m⟩:=cI (C:=C) (G:=fun x=>ZD C i y x=true) d k i.body (Jf i.ntmps y.a) ⟨BI y.foot .leaf,y.n⟩ [] fun j t=>by
   have g:=h j t;split at g
   ·next l p=>exact⟨l,p,fun x c=>zh.1 g x c⟩
   ·cases g
  have B:∃r,bl l (qG C i)=some r/\∀z∈r,xO y z=true:=dG fun x c=>by
   have g:=m x c;unfold ZD at g;split at g
   ·next r v=>exact⟨r,v,fun z w=>zh.1 g z w⟩
   ·cases g
  obtain⟨r,A,s⟩:=B;simp only[u];refine(show(match (match bl l (qG C i)with
   |some r=>some<|bif C.mg then Lm y.n r else r
   |none=>none)with
   |some l=>l.all<|xO y
   |none=>false)=true from ?_)
  rw[A];simp only[q,wg];exact zh.2 s
end
section
open Go.Proofs.Tryz (prog)
def Ar(n d:Int):V:=.agg [.int .i64 n,.nils,.int .i64 d,.nils]
def MA0:Cw:=[(61,[.str [55,50]],.int .i64<|0),
 (41,[.str [55,50]],Ar (72) 1),
 (64,[Ar (72) 1,Ar (1) 1],.int .i64<|1),
 (64,[Ar (72) 1,Ar (200) 1],.int .i64<| -1),
 (47,[Ar (85) 1,Ar (72) 1],Ar (13) 1),
 (42,[Ar (13) 1,Ar (100) 1],Ar (1300) 1),
 (44,[Ar (1300) 1,Ar (120) 1],Ar (65) 6),
 (42,[Ar (65) 6,Ar (10) 1],Ar (325) 3),
 (44,[Ar (1) 1,Ar (2) 1],Ar (1) 2)]
theorem pH:AU C7 1000 MA0=true:=by kernel_rfl
def MA1:Cw:=[(46,[Ar (325) 3,Ar (1) 2],Ar (653) 6),
 (165,[Ar (653) 6],.agg [.int .i64<|108,.nils]),
 (95,[.agg [.int .i64<|108,.nils],.agg [.int .i64<|10,.nils]],Ar (54) 5),
 (80,[Ar (54) 5],.str [53,52,47,53]),
 (47,[Ar (90) 1,Ar (72) 1],Ar (18) 1),
 (42,[Ar (18) 1,Ar (100) 1],Ar (1800) 1),
 (44,[Ar (1800) 1,Ar (120) 1],Ar (15) 1),
 (42,[Ar (15) 1,Ar (10) 1],Ar (150) 1),
 (46,[Ar (150) 1,Ar (1) 2],Ar (301) 2)]
theorem qY:AU C7 1000 MA1=true:=by kernel_rfl
def MA2:Cw:=[(165,[Ar (301) 2],.agg [.int .i64<|150,.nils]),
 (95,[.agg [.int .i64<|150,.nils],.agg [.int .i64<|10,.nils]],Ar (15) 1),
 (47,[Ar (95) 1,Ar (72) 1],Ar (23) 1),
 (42,[Ar (23) 1,Ar (100) 1],Ar (2300) 1),
 (44,[Ar (2300) 1,Ar (120) 1],Ar (115) 6),
 (42,[Ar (115) 6,Ar (10) 1],Ar (575) 3),
 (46,[Ar (575) 3,Ar (1) 2],Ar (1153) 6),
 (165,[Ar (1153) 6],.agg [.int .i64<|192,.nils]),
 (95,[.agg [.int .i64<|192,.nils],.agg [.int .i64<|10,.nils]],Ar (96) 5)]
theorem tG:AU C7 1000 MA2=true:=by kernel_rfl
def MA3:Cw:=[(44,[Ar (-3) 1,Ar (2) 1],Ar (-3) 2),
 (47,[Ar (54) 5,Ar (0) 1],Ar (54) 5),
 (47,[Ar (96) 5,Ar (0) 1],Ar (96) 5),
 (64,[Ar (54) 5,Ar (96) 5],.int .i64<| -1),
 (47,[Ar (15) 1,Ar (0) 1],Ar (15) 1),
 (64,[Ar (15) 1,Ar (96) 5],.int .i64<| -1),
 (64,[Ar (15) 1,Ar (54) 5],.int .i64<|1),
 (46,[Ar (0) 1,Ar (54) 5],Ar (54) 5),
 (44,[Ar (54) 5,Ar (1) 1],Ar (54) 5)]
theorem sU:AU C7 1000 MA3=true:=by kernel_rfl
def MA4:Cw:=[(46,[Ar (54) 5,Ar (-3) 2],Ar (93) 10),
 (64,[Ar (93) 10,Ar (60) 1],.int .i64<| -1),
 (42,[Ar (93) 10,Ar (10) 1],Ar (93) 1),
 (46,[Ar (93) 1,Ar (1) 2],Ar (187) 2),
 (165,[Ar (187) 2],.agg [.int .i64<|93,.nils]),
 (95,[.agg [.int .i64<|93,.nils],.agg [.int .i64<|10,.nils]],Ar (93) 10),
 (80,[Ar (15) 1],.str [49,53]),
 (80,[Ar (0) 1],.str [48]),
 (80,[Ar (96) 5],.str [57,54,47,53])]
theorem sM:AU C7 1000 MA4=true:=by kernel_rfl
def MA5:Cw:=[(80,[Ar (93) 10],.str [57,51,47,49,48]),
 (47,[Ar (73) 1,Ar (72) 1],Ar (1) 1),
 (42,[Ar (1) 1,Ar (100) 1],Ar (100) 1),
 (44,[Ar (100) 1,Ar (120) 1],Ar (5) 6),
 (42,[Ar (5) 6,Ar (10) 1],Ar (25) 3),
 (46,[Ar (25) 3,Ar (1) 2],Ar (53) 6),
 (165,[Ar (53) 6],.agg [.int .i64<|8,.nils]),
 (95,[.agg [.int .i64<|8,.nils],.agg [.int .i64<|10,.nils]],Ar (4) 5),
 (47,[Ar (93) 10,Ar (4) 5],Ar (17) 2)]
theorem sE:AU C7 1000 MA5=true:=by kernel_rfl
def MA6:Cw:=[(64,[Ar (17) 2,Ar (10) 1],.int .i64<| -1),
 (64,[Ar (17) 2,Ar (7) 1],.int .i64<|1),
 (44,[Ar (-2) 1,Ar (2) 1],Ar (-1) 1),
 (47,[Ar (96) 5,Ar (1) 1],Ar (91) 5),
 (47,[Ar (4) 5,Ar (1) 1],Ar (-1) 5),
 (64,[Ar (91) 5,Ar (-1) 5],.int .i64<|1),
 (47,[Ar (54) 5,Ar (1) 1],Ar (49) 5),
 (64,[Ar (49) 5,Ar (91) 5],.int .i64<| -1),
 (64,[Ar (49) 5,Ar (-1) 5],.int .i64<|1)]
theorem rY:AU C7 1000 MA6=true:=by kernel_rfl
def MA7:Cw:=[(47,[Ar (15) 1,Ar (1) 1],Ar (14) 1),
 (64,[Ar (14) 1,Ar (91) 5],.int .i64<| -1),
 (64,[Ar (14) 1,Ar (49) 5],.int .i64<|1),
 (46,[Ar (0) 1,Ar (-1) 5],Ar (-1) 5),
 (44,[Ar (-1) 5,Ar (1) 1],Ar (-1) 5),
 (46,[Ar (-1) 5,Ar (-1) 1],Ar (-6) 5),
 (46,[Ar (93) 10,Ar (3) 1],Ar (123) 10),
 (64,[Ar (-6) 5,Ar (123) 10],.int .i64<| -1),
 (64,[Ar (-6) 5,Ar (60) 1],.int .i64<| -1)]
theorem pZ:AU C7 1000 MA7=true:=by kernel_rfl
def MA8:Cw:=[(42,[Ar (-6) 5,Ar (10) 1],Ar (-12) 1),
 (46,[Ar (-12) 1,Ar (1) 2],Ar (-23) 2),
 (165,[Ar (-23) 2],.agg [.int .i64<| -12,.nils]),
 (95,[.agg [.int .i64<| -12,.nils],.agg [.int .i64<|10,.nils]],Ar (-6) 5),
 (80,[Ar (4) 5],.str [52,47,53]),
 (80,[Ar (-6) 5],.str [45,54,47,53]),
 (47,[Ar (91) 1,Ar (72) 1],Ar (19) 1),
 (42,[Ar (19) 1,Ar (100) 1],Ar (1900) 1),
 (44,[Ar (1900) 1,Ar (120) 1],Ar (95) 6)]
theorem qX:AU C7 1000 MA8=true:=by kernel_rfl
def MA9:Cw:=[(42,[Ar (95) 6,Ar (10) 1],Ar (475) 3),
 (46,[Ar (475) 3,Ar (1) 2],Ar (953) 6),
 (165,[Ar (953) 6],.agg [.int .i64<|158,.nils]),
 (95,[.agg [.int .i64<|158,.nils],.agg [.int .i64<|10,.nils]],Ar (79) 5),
 (47,[Ar (79) 5,Ar (0) 1],Ar (79) 5),
 (64,[Ar (79) 5,Ar (96) 5],.int .i64<| -1),
 (64,[Ar (15) 1,Ar (79) 5],.int .i64<| -1),
 (46,[Ar (0) 1,Ar (15) 1],Ar (15) 1),
 (44,[Ar (15) 1,Ar (1) 1],Ar (15) 1)]
theorem sZ:AU C7 1000 MA9=true:=by kernel_rfl
def yU:Cw:=[(46,[Ar (15) 1,Ar (-3) 2],Ar (27) 2),
 (64,[Ar (27) 2,Ar (60) 1],.int .i64<| -1),
 (42,[Ar (27) 2,Ar (10) 1],Ar (135) 1),
 (46,[Ar (135) 1,Ar (1) 2],Ar (271) 2),
 (165,[Ar (271) 2],.agg [.int .i64<|135,.nils]),
 (95,[.agg [.int .i64<|135,.nils],.agg [.int .i64<|10,.nils]],Ar (27) 2),
 (47,[Ar (27) 2,Ar (4) 5],Ar (127) 10),
 (64,[Ar (127) 10,Ar (10) 1],.int .i64<|1),
 (47,[Ar (96) 5,Ar (2) 1],Ar (86) 5)]
theorem jU:AU C7 1000 yU=true:=by kernel_rfl
def uN:Cw:=[(47,[Ar (4) 5,Ar (2) 1],Ar (-6) 5),
 (64,[Ar (86) 5,Ar (-6) 5],.int .i64<|1),
 (47,[Ar (79) 5,Ar (2) 1],Ar (69) 5),
 (64,[Ar (69) 5,Ar (86) 5],.int .i64<| -1),
 (64,[Ar (69) 5,Ar (-6) 5],.int .i64<|1),
 (47,[Ar (15) 1,Ar (2) 1],Ar (13) 1),
 (64,[Ar (13) 1,Ar (86) 5],.int .i64<| -1),
 (64,[Ar (13) 1,Ar (69) 5],.int .i64<| -1),
 (64,[Ar (13) 1,Ar (-6) 5],.int .i64<|1)]
theorem lI:AU C7 1000 uN=true:=by kernel_rfl
def wI:Cw:=[(46,[Ar (0) 1,Ar (-6) 5],Ar (-6) 5),
 (44,[Ar (-6) 5,Ar (1) 1],Ar (-6) 5),
 (46,[Ar (-6) 5,Ar (-1) 1],Ar (-11) 5),
 (46,[Ar (27) 2,Ar (3) 1],Ar (33) 2),
 (64,[Ar (-11) 5,Ar (33) 2],.int .i64<| -1),
 (64,[Ar (-11) 5,Ar (60) 1],.int .i64<| -1),
 (42,[Ar (-11) 5,Ar (10) 1],Ar (-22) 1),
 (46,[Ar (-22) 1,Ar (1) 2],Ar (-43) 2),
 (165,[Ar (-43) 2],.agg [.int .i64<| -22,.nils])]
theorem kZ:AU C7 1000 wI=true:=by kernel_rfl
def wZ:Cw:=[(95,[.agg [.int .i64<| -22,.nils],.agg [.int .i64<|10,.nils]],Ar (-11) 5),
 (80,[Ar (79) 5],.str [55,57,47,53]),
 (80,[Ar (27) 2],.str [50,55,47,50]),
 (80,[Ar (-11) 5],.str [45,49,49,47,53]),
 (61,[.str [57,51,47,49,48]],.int .i64<|0),
 (41,[.str [57,51,47,49,48]],Ar (93) 10),
 (64,[Ar (93) 10,Ar (-20) 1],.int .i64<|1),
 (42,[Ar (93) 10,Ar (120) 1],Ar (1116) 1),
 (44,[Ar (1116) 1,Ar (100) 1],Ar (279) 25)]
theorem kN:AU C7 1000 wZ=true:=by kernel_rfl
def vZ:Cw:=[(46,[Ar (279) 25,Ar (72) 1],Ar (2079) 25),
 (47,[Ar (2079) 25,Ar (71) 1],Ar (304) 25),
 (42,[Ar (304) 25,Ar (1) 1],Ar (304) 25),
 (46,[Ar (304) 25,Ar (1) 2],Ar (633) 50),
 (165,[Ar (633) 50],.agg [.int .i64<|12,.nils]),
 (95,[.agg [.int .i64<|12,.nils],.agg [.int .i64<|1,.nils]],Ar (12) 1),
 (44,[Ar (1140) 1,Ar (100) 1],Ar (57) 5),
 (42,[Ar (57) 5,Ar (1) 1],Ar (57) 5),
 (46,[Ar (57) 5,Ar (1) 2],Ar (119) 10)]
theorem mO:AU C7 1000 vZ=true:=by kernel_rfl
def xV:Cw:=[(165,[Ar (119) 10],.agg [.int .i64<|11,.nils]),
 (95,[.agg [.int .i64<|11,.nils],.agg [.int .i64<|1,.nils]],Ar (11) 1),
 (44,[Ar (650) 1,Ar (100) 1],Ar (13) 2),
 (42,[Ar (13) 2,Ar (1) 1],Ar (13) 2),
 (46,[Ar (13) 2,Ar (1) 2],Ar (7) 1),
 (165,[Ar (7) 1],.agg [.int .i64<|7,.nils]),
 (95,[.agg [.int .i64<|7,.nils],.agg [.int .i64<|1,.nils]],Ar (7) 1),
 (61,[.str [49]],.int .i64<|0),
 (41,[.str [49]],Ar (1) 1)]
theorem lH:AU C7 1000 xV=true:=by kernel_rfl
def xG:Cw:=[(61,[.str [50]],.int .i64<|0),
 (41,[.str [50]],Ar (2) 1),
 (61,[.str [51]],.int .i64<|0),
 (41,[.str [51]],Ar (3) 1),
 (61,[.str [52]],.int .i64<|0),
 (41,[.str [52]],Ar (4) 1),
 (61,[.str [53]],.int .i64<|0),
 (41,[.str [53]],Ar (5) 1),
 (64,[Ar (2) 1,Ar (1) 1],.int .i64<|1)]
theorem jI:AU C7 1000 xG=true:=by kernel_rfl
def vV:Cw:=[(64,[Ar (2) 1,Ar (2) 1],.int .i64<|0),
 (64,[Ar (3) 1,Ar (2) 1],.int .i64<|1),
 (64,[Ar (3) 1,Ar (3) 1],.int .i64<|0),
 (64,[Ar (4) 1,Ar (3) 1],.int .i64<|1),
 (64,[Ar (5) 1,Ar (4) 1],.int .i64<|1),
 (64,[Ar (5) 1,Ar (5) 1],.int .i64<|0),
 (46,[Ar (3) 1,Ar (3) 1],Ar (6) 1),
 (44,[Ar (6) 1,Ar (2) 1],Ar (3) 1),
 (64,[Ar (3) 1,Ar (-1) 1],.int .i64<|1)]
theorem lL:AU C7 1000 vV=true:=by kernel_rfl
def yP:Cw:=[(42,[Ar (3) 1,Ar (1) 1],Ar (3) 1),
 (46,[Ar (3) 1,Ar (1) 2],Ar (7) 2),
 (165,[Ar (7) 2],.agg [.int .i64<|3,.nils]),
 (95,[.agg [.int .i64<|3,.nils],.agg [.int .i64<|1,.nils]],Ar (3) 1)]
theorem jQ:AU C7 1000 yP=true:=by kernel_rfl
def MA:Cw:=(MA0++(MA1++(MA2++(MA3++(MA4++(MA5++(MA6++(MA7++(MA8++(MA9++(yU++(uN++(wI++(wZ++(vZ++(xV++(xG++(vV++yP))))))))))))))))))
theorem sp1:EO prog (Hk C7 1000 MA):=K2 Ow E2 F4<|AL pH<|AL qY<|AL tG<|AL sU<|AL sM<|AL sE<|AL rY<|AL pZ<|AL qX<|AL sZ<|AL jU<|AL lI<|AL kZ<|AL kN<|AL mO<|AL lH<|AL jI<|AL lL jQ
def qN:Ctx:=MP C7<|Hk C7 1000 MA
theorem sV:qN.Ok prog:=H4 Ow sp1
theorem XY:Df qN:=Ez E2 _
def MB0:Cw:=[(39,[.str [55,50],.int .i64<|1,.int .i64<|200],.int .i64<|0),
 (99,[Ar (65) 6,.int .i64<|10],Ar (54) 5),
 (99,[Ar (15) 1,.int .i64<|10],Ar (15) 1),
 (99,[Ar (115) 6,.int .i64<|10],Ar (96) 5),
 (99,[Ar (93) 10,.int .i64<|10],Ar (93) 10),
 (99,[Ar (5) 6,.int .i64<|10],Ar (4) 5)]
theorem tC:AU qN 1000 MB0=true:=by kernel_rfl
def MB1:Cw:=[(99,[Ar (-6) 5,.int .i64<|10],Ar (-6) 5),
 (99,[Ar (95) 6,.int .i64<|10],Ar (79) 5),
 (99,[Ar (27) 2,.int .i64<|10],Ar (27) 2),
 (99,[Ar (-11) 5,.int .i64<|10],Ar (-11) 5),
 (39,[.str [57,51,47,49,48],.int .i64<| -20,.int .i64<|60],.int .i64<|0),
 (99,[Ar (304) 25,.int .i64<|1],Ar (12) 1)]
theorem pY:AU qN 1000 MB1=true:=by kernel_rfl
def MB2:Cw:=[(99,[Ar (57) 5,.int .i64<|1],Ar (11) 1),
 (99,[Ar (13) 2,.int .i64<|1],Ar (7) 1),
 (99,[Ar (3) 1,.int .i64<|1],Ar (3) 1)]
theorem rE:AU qN 1000 MB2=true:=by kernel_rfl
def MB:Cw:=(MB0++(MB1++MB2))
theorem sp2:EO prog (Hk qN 1000 MB):=K2 sV XY F4<|AL tC<|AL pY rE
def S72:RH:=dP (Hk qN 1000 MB)<|Hk C7 1000 MA
theorem aR:EO prog S72:=G3 sp2 sp1
def sC:Ctx:=MP C7 S72
theorem sP:sC.Ok prog:=H4 Ow aR
theorem Yq:Df sC:=Ez E2 _
def MC0:Cw:=[(78,[.agg [.int .i64<|10,.int .i64<|1,.int .i64<|90,.str [55,50],.int .i64<|120,.int .i64<|0]],.int .i64<|0),
 (78,[.agg [.int .i64<|20,.int .i64<|2,.int .i64<|85,.str [55,50],.int .i64<|120,.int .i64<|0]],.int .i64<|0),
 (78,[.agg [.int .i64<|30,.int .i64<|3,.int .i64<|95,.str [55,50],.int .i64<|120,.int .i64<|0]],.int .i64<|0),
 (78,[.agg [.int .i64<|40,.int .i64<|4,.int .i64<|73,.str [55,50],.int .i64<|120,.int .i64<|0]],.int .i64<|0),
 (78,[.agg [.int .i64<|20,.int .i64<|2,.int .i64<|91,.str [55,50],.int .i64<|120,.int .i64<|0]],.int .i64<|0),
 (79,[.agg [.int .i64<|20,.int .i64<|2,.int .i64<|85,.str [55,50],.int .i64<|120,.int .i64<|0]],Ar (54) 5)]
theorem rZ:AU sC 1000 MC0=true:=by kernel_rfl
def MC1:Cw:=[(79,[.agg [.int .i64<|10,.int .i64<|1,.int .i64<|90,.str [55,50],.int .i64<|120,.int .i64<|0]],Ar (15) 1),
 (79,[.agg [.int .i64<|30,.int .i64<|3,.int .i64<|95,.str [55,50],.int .i64<|120,.int .i64<|0]],Ar (96) 5),
 (79,[.agg [.int .i64<|40,.int .i64<|4,.int .i64<|73,.str [55,50],.int .i64<|120,.int .i64<|0]],Ar (4) 5),
 (79,[.agg [.int .i64<|20,.int .i64<|2,.int .i64<|91,.str [55,50],.int .i64<|120,.int .i64<|0]],Ar (79) 5),
 (45,[Ar (304) 25],.int .i64<|12),
 (45,[Ar (57) 5],.int .i64<|11)]
theorem pP:AU sC 1000 MC1=true:=by kernel_rfl
def MC2:Cw:=[(45,[Ar (13) 2],.int .i64<|7),
 (45,[Ar (3) 1],.int .i64<|3)]
theorem rG:AU sC 1000 MC2=true:=by kernel_rfl
def MC:Cw:=(MC0++(MC1++MC2))
theorem sp3:EO prog (Hk sC 1000 MC):=K2 sP Yq F4<|AL rZ<|AL pP rG
def zA:RH:=dP (Hk sC 1000 MC) S72
theorem U0:EO prog zA:=G3 sp3 aR
def Uv:Ctx:=MP C7 zA
theorem TK:Uv.Ok prog:=H4 Ow U0
theorem KN:Df Uv:=Ez E2 _
end
end Go.Det
