import Derived.Test.YtjbmodoofdpgcaaGreatDoorX04
import Derived.Shelf.SlSortCmp.WholeK
import Derived.Below
/- A part of a proof; no law is stated here. -/
noncomputable section
open Nat renaming beq -> zc, add -> zg, le_of_ble_eq_true -> zk, eq_of_beq_eq_true -> zl, ble -> zn, blt -> zx, mul -> yb
open Bool renaming and_eq_true -> zd
open Int renaming mul_le_mul_of_nonneg_left -> ze, toNat -> zf, pow_succ -> zp, add_mul_emod_self_left -> zr, mul_comm -> z8
open List renaming all_eq_true -> zh, getElem?_eq_some_iff -> zi, mem_cons_self -> zm, mem_cons_of_mem -> zo, replicate -> zq, mem_singleton -> zu, getElem?_append_left -> zw, mem_cons -> zy, cons_append -> zz, drop_eq_nil_of_le -> z6
open BitVec renaming ofInt -> zj
open Array renaming getElem?_eq_some_iff -> zt
open Go.Op renaming bytesLess -> z7
namespace Go.Det
open Go.Proofs Go.Sort
def YR:Go.Shelf.Ren:=⟨fun|6=>63|15=>120|14=>119|28=>183|29=>184|20=>175|21=>176|22=>177|23=>178|24=>179|25=>180|26=>181|27=>182|46=>238|47=>239|48=>240|49=>241|50=>242|57=>276|n=>n,fun|22=>103|24=>88|25=>106|3=>3|39=>164|0=>0|53=>219|55=>200|4=>4|46=>213|45=>212|50=>108|5=>5|9=>9|66=>263|70=>267|76=>299|77=>300|n=>n,fun|n=>n⟩
theorem Aab:Go.Proofs.SlLaysF0.n6 Go.Proofs.Tryz.prog YR:=
 {mixed:=by kernel_rfl,
  f6:=⟨Go.Proofs.Tryz.f63.name,by kernel_rfl,Go.Proofs.Tryz.func63.trans<|wi some ag⟩,
  f14:=⟨Go.Proofs.Tryz.f119.name,by kernel_rfl,Go.Proofs.Tryz.func119.trans<|wi some ag⟩,
  f15:=Go.Proofs.Tryz.func120.trans (wi some ag),
  f20:=⟨Go.Proofs.Tryz.f175.name,by kernel_rfl,Go.Proofs.Tryz.func175.trans<|wi some ag⟩,
  f21:=⟨Go.Proofs.Tryz.f176.name,by kernel_rfl,Go.Proofs.Tryz.func176.trans<|wi some ag⟩,
  f22:=⟨Go.Proofs.Tryz.f177.name,by kernel_rfl,Go.Proofs.Tryz.func177.trans<|wi some ag⟩,
  f23:=⟨Go.Proofs.Tryz.f178.name,by kernel_rfl,Go.Proofs.Tryz.func178.trans<|wi some ag⟩,
  f24:=⟨Go.Proofs.Tryz.f179.name,by kernel_rfl,Go.Proofs.Tryz.func179.trans<|wi some ag⟩,
  f25:=⟨Go.Proofs.Tryz.f180.name,by kernel_rfl,Go.Proofs.Tryz.func180.trans<|wi some ag⟩,
  f26:=⟨Go.Proofs.Tryz.f181.name,by kernel_rfl,Go.Proofs.Tryz.func181.trans<|wi some ag⟩,
  f27:=⟨Go.Proofs.Tryz.f182.name,by kernel_rfl,Go.Proofs.Tryz.func182.trans<|wi some ag⟩,
  f28:=Go.Proofs.Tryz.func183.trans (wi some ag),
  f29:=Go.Proofs.Tryz.func184.trans (wi some ag),
  f46:=⟨Go.Proofs.Tryz.f238.name,by kernel_rfl,Go.Proofs.Tryz.func238.trans<|wi some ag⟩,
  f47:=Go.Proofs.Tryz.func239.trans (wi some ag),
  f48:=Go.Proofs.Tryz.func240.trans (wi some ag),
  f49:=⟨Go.Proofs.Tryz.f241.name,by kernel_rfl,Go.Proofs.Tryz.func241.trans<|wi some ag⟩,
  f50:=⟨Go.Proofs.Tryz.f242.name,by kernel_rfl,Go.Proofs.Tryz.func242.trans<|wi some ag⟩,
  f57:=⟨Go.Proofs.Tryz.f276.name,by kernel_rfl,Go.Proofs.Tryz.func276.trans<|wi some ag⟩,
  t0:=Go.Proofs.Tryz.underlying0,
  a0:=Go.Proofs.Tryz.isAgg0,
  z0:=Go.Proofs.Tryz.sizeOf0,
  v0:=Go.Proofs.Tryz.zeroValue0,
  t3:=Go.Proofs.Tryz.underlying3,
  a3:=Go.Proofs.Tryz.isAgg3,
  z3:=Go.Proofs.Tryz.sizeOf3,
  v3:=Go.Proofs.Tryz.zeroValue3,
  t4:=Go.Proofs.Tryz.underlying4,
  a4:=Go.Proofs.Tryz.isAgg4,
  z4:=Go.Proofs.Tryz.sizeOf4,
  v4:=Go.Proofs.Tryz.zeroValue4,
  t5:=Go.Proofs.Tryz.underlying5,
  a5:=Go.Proofs.Tryz.isAgg5,
  z5:=Go.Proofs.Tryz.sizeOf5,
  v5:=Go.Proofs.Tryz.zeroValue5,
  t9:=Go.Proofs.Tryz.underlying9,
  a9:=Go.Proofs.Tryz.isAgg9,
  z9:=Go.Proofs.Tryz.sizeOf9,
  v9:=Go.Proofs.Tryz.zeroValue9,
  t22:=Go.Proofs.Tryz.underlying103,
  a22:=Go.Proofs.Tryz.isAgg103,
  z22:=Go.Proofs.Tryz.sizeOf103,
  v22:=Go.Proofs.Tryz.zeroValue103,
  t25:=Go.Proofs.Tryz.underlying106,
  a25:=Go.Proofs.Tryz.isAgg106,
  z25:=Go.Proofs.Tryz.sizeOf106,
  v25:=Go.Proofs.Tryz.zeroValue106,
  t39:=Go.Proofs.Tryz.underlying164,
  a39:=Go.Proofs.Tryz.isAgg164,
  z39:=Go.Proofs.Tryz.sizeOf164,
  v39:=Go.Proofs.Tryz.zeroValue164,
  t45:=Go.Proofs.Tryz.underlying212,
  a45:=Go.Proofs.Tryz.isAgg212,
  z45:=Go.Proofs.Tryz.sizeOf212,
  v45:=Go.Proofs.Tryz.zeroValue212,
  t46:=Go.Proofs.Tryz.underlying213,
  a46:=Go.Proofs.Tryz.isAgg213,
  z46:=Go.Proofs.Tryz.sizeOf213,
  v46:=Go.Proofs.Tryz.zeroValue213,
  t50:=Go.Proofs.Tryz.underlying108,
  a50:=Go.Proofs.Tryz.isAgg108,
  z50:=Go.Proofs.Tryz.sizeOf108,
  v50:=Go.Proofs.Tryz.zeroValue108,
  t53:=Go.Proofs.Tryz.underlying219,
  a53:=Go.Proofs.Tryz.isAgg219,
  z53:=Go.Proofs.Tryz.sizeOf219,
  v53:=Go.Proofs.Tryz.zeroValue219,
  t55:=Go.Proofs.Tryz.underlying200,
  a55:=Go.Proofs.Tryz.isAgg200,
  z55:=Go.Proofs.Tryz.sizeOf200,
  v55:=Go.Proofs.Tryz.zeroValue200,
  t66:=Go.Proofs.Tryz.underlying263,
  a66:=Go.Proofs.Tryz.isAgg263,
  z66:=Go.Proofs.Tryz.sizeOf263,
  v66:=Go.Proofs.Tryz.zeroValue263,
  t70:=Go.Proofs.Tryz.underlying267,
  a70:=Go.Proofs.Tryz.isAgg267,
  z70:=Go.Proofs.Tryz.sizeOf267,
  v70:=Go.Proofs.Tryz.zeroValue267,
  t76:=Go.Proofs.Tryz.underlying299,
  a76:=Go.Proofs.Tryz.isAgg299,
  z76:=Go.Proofs.Tryz.sizeOf299,
  v76:=Go.Proofs.Tryz.zeroValue299,
  t77:=Go.Proofs.Tryz.underlying300,
  a77:=Go.Proofs.Tryz.isAgg300,
  z77:=Go.Proofs.Tryz.sizeOf300,
  v77:=Go.Proofs.Tryz.zeroValue300 }
end Go.Det
namespace Go.Sp
def val(b:Int):List Int->Int
 |[]=>0
 |d::r=>d+b*val b r
def Av(b:Int)(l:List Int):Prop:=∀d∈l,0<=d/\d<b
def nz(l:List Int):Prop:=l.getLast?≠some 0
def WO(b:Nat):Nat->Nat->List Int
 |0,_=>[]
 |f+1,n=>if n=0 then[]else((n % b:Nat):Int)::WO b f (n/b)
def dg(b:Nat)(n:Int):List Int:=WO b n.toNat n.toNat
def Aw:List Int->List Int
 |[]=>[]
 |d::r=>match Aw r with
  |[]=>if d=0 then[]else[d]
  |s=>d::s
theorem Az{b:Int}(a:0<=b):∀ {l:List Int},Av b l->0<=val b l
 |[],_=>Int.le_refl _
 |d::r,h=>by
  have f:=(h d<|by simp).1;have e:=Az a (l:=r) fun x c=>h x (by simp[c])
  have:=Int.mul_nonneg a e;unfold val;omega
theorem CR(b:Int):∀(l r:List Int),val b (l++r)=val b l+b^l.length*val b r
 |[],r=>by simp[val]
 |d::l,r=>by
  rw[zz,val,CR b l r,val,List.length_cons,zp,Int.mul_add,Int.add_assoc, <-Int.mul_assoc,z8 b<|b^l.length]
theorem Lw(b:Int):∀n,val b (zq n 0)=0
 |0=>rfl
 |n+1=>by rw[List.replicate_succ,val,Lw b n];simp
theorem Br{b:Int}(c:0<b):∀ {l:List Int},Av b l->val b l<b^l.length
 |[],_=>by simp[val]
 |d::r,h=>by
  have g:=(h d<|by simp).2;have e:=Br c (l:=r) fun x a=>h x (by simp[a])
  have f:b*val b r<=b*(b^r.length-1):=ze ae ae;rw[val,List.length_cons,zp,z8 (b^r.length) b];grind
theorem Jj(b:Int):∀l,val b (Aw l)=val b l
 |[]=>rfl
 |d::r=>by
  have a:=Jj b r;grind [Aw,val]
theorem Ha{b:Int}:∀ {l:List Int},Av b l->Av b (Aw l)
 |[],h=>h
 |d::r,h=>by
  have e:=Ha (l:=r) fun x a=>h x (by simp[a])
  have c:=h d (by simp);unfold Aw;split
  ·split
   ·grind
   ·intro x a;grind
  ·intro x a;rcases zy.1 a with rfl|a
   ·exact c
   ·exact e x a
theorem Kl:∀l:List Int,nz<|Aw l
 |[]=>by simp[nz,Aw]
 |d::r=>by
  have a:=Kl r;grind [Aw,nz]
theorem Io:∀ {l:List Int},nz l->Aw l=l
 |[],_=>rfl
 |d::r,h=>by
  unfold Aw;cases r with
  |nil=>
   grind [nz,Aw]
  |cons a t=>
   have:nz (a::t):=by grind [nz]
   rw[Io this]
theorem Je{b:Int}(c:0<b):∀ {l:List Int},Av b l->nz l->l≠[]->0<val b l
 |[],_,_,h=>wh rfl h
 |d::r,h,g,_=>by
  have i:=(h d<|by simp).1;have f:Av b r:=fun x e=>h x (by simp[e])
  unfold val;cases r with
  |nil=>
   grind [nz,val]
  |cons a t=>
   have:=Je c f (by grind [nz]) (by simp);have:=Int.mul_pos c this;omega
theorem val_inj{b:Int}(e:0<b):∀ {l r:List Int},Av b l->Av b r->nz l->nz r->val b l=val b r->l=r
 |[],[],_,_,_,_,_=>rfl
 |[],x::r,_,a,_,n2,h=>by have:=Je e a n2 (by simp);grind [val]
 |x::l,[],c,_,n1,_,h=>by have:=Je e c n1 (by simp);grind [val]
 |x::l,y::r,c,a,n1,n2,h=>by
  have a1:=c x (by simp);have a2:=a y (by simp);unfold val at h;have e1:x=y:=by
   have g:(x+b*val b l) % b=(y+b*val b r) % b:=by rw[h]
   rw[zr,zr,Int.emod_eq_of_lt a1.1 a1.2,Int.emod_eq_of_lt a2.1 a2.2]at g;exact g
  subst e1;have e2:val b l=val b r:=by
   grind [Int.eq_of_mul_eq_mul_left]
  have f:∀ {x:Int} {l:List Int},nz (x::l)->nz l:=by
   grind [nz]
  rw[val_inj e (fun z d=>c z<|by simp[d]) (fun z d=>a z<|by simp[d]) (f n1) (f n2) e2]
theorem Sk(b:Nat)(a:2<=b):∀f n,n<=f->val b (WO b f n)=n
 |0,n,h=>by simp[WO,val];omega
 |f+1,n,h=>by
  unfold WO;split
  ·rename_i h0;subst h0;rfl
  ·have c:n/b<=f:=by
    have:n/b<n:=Nat.div_lt_self ae a;omega
   rw[val,Sk b a f (n/b) c];have:=Nat.mod_add_div n b;omega
theorem TQ(b:Nat)(c:2<=b):∀f n,Av b<|WO b f n
 |0,n=>by intro x a;cases a
 |f+1,n=>by
  unfold WO;split
  ·intro x a;cases a
  ·intro x a;rcases zy.1 a with rfl|a
   ·have:=Nat.mod_lt n (show 0<b by omega);omega
   ·exact TQ b c f (n/b) x a
theorem bL(b:Nat)(d:2<=b):∀f n,n<=f->nz (WO b f n)
 |0,n,_=>by simp[WO,nz]
 |f+1,n,h=>by
  unfold WO;split
  ·simp[nz]
  ·have e:n/b<=f:=by
    have:n/b<n:=Nat.div_lt_self ae d;omega
   have i:=bL b d f (n/b) e;cases g:WO b f (n/b)with
   |nil=>
    have c:=Sk b d f (n/b) e;rw[g]at c;have c:n/b=0:=by
     have:((n/b:Nat):Int)=0:=by rw[<-c];rfl
     omega
    have j:n % b=n:=Nat.mod_eq_of_lt ((Nat.div_eq_zero_iff_lt ae).1 c);simp[nz];omega
   |cons a t=>grind [nz]
theorem C3{b:Nat}(a:2<=b){n:Int}(c:0<=n):val b (dg b n)=n:=by
 unfold dg;rw[Sk b a _ _ ae];omega
theorem HM{b:Nat}(a:2<=b)(n:Int):Av b (dg b n):=TQ b a _ _
theorem XC{b:Nat}(a:2<=b)(n:Int):nz (dg b n):=bL b a _ _ ae
theorem JJ{b:Nat}(a:2<=b){l:List Int}(c:Av b l)(d:nz l):l=dg b (val b l):=
 val_inj ae c (HM a _) d (XC a _) (by grind [C3,Az])
theorem XV{b:Nat}(a:2<=b){l:List Int}(c:Av b l):Aw l=dg b (val b l):=by
 rw[<-Jj];grind [JJ,Ha,Kl]
theorem cE{b:Nat}(a:2<=b){n:Int}(c:0<=n):dg b n=[]↔n=0:=by
 constructor
 ·grind [C3,val]
 ·rintro rfl;rfl
theorem Ir:∀l:List Int,Aw (l++[0])=Aw l
 |[]=>rfl
 |d::r=>by
  rw[zz];unfold Aw;rw[Ir r]
theorem XY{l:List Int}{d:Int}(h:d≠0):nz (l++[d]):=by
 grind [nz]
theorem nO{x:Int}{l:List Int}(a:nz (x::l)):nz l:=by
 grind [nz]
theorem C2{b:Int}(c:0<b):∀ {l:List Int},Av b l->nz l->l≠[]->b^(l.length-1)<=val b l
 |[],_,_,h=>wh rfl h
 |[d],h,a,_=>by
  have:=Je c h a (by simp);simp at this ⊢;omega
 |d::e::r,h,a,_=>by
  have i:=(h d<|by simp).1;have g:=C2 c (l:=e::r) (fun x f=>h x<|by simp[f]) (nO a) (by simp);have e1:(d::e::r).length-1=((e::r).length-1)+1:=by simp
  rw[e1,zp,z8];have:=ze g (show 0<=b by omega);unfold val;omega
theorem Bc{b:Int}(a:0<b):∀n:Nat,0<b^n
 |0=>by simp
 |n+1=>by rw[zp];exact Int.mul_pos (Bc a n) a
theorem AP{b:Int}(a:1<=b){m n:Nat}(h:m<=n):b^m<=b^n:=by
 obtain⟨k,rfl⟩:=Nat.exists_eq_add_of_le h;induction k with
 |zero=>simp
 |succ k d=>
  rw[show m+(k+1)=(m+k)+1 from rfl,zp];have c:=Bc (show 0<b by omega)<|m+k;have:=ze a (show 0<=b^(m+k)by omega);omega
theorem Ex{b:Int}(d:2<=b){l r:List Int}(c:Av b l)(a:Av b r)(n2:nz r)(h:l.length<r.length):val b l<val b r:=by
 have a1:=Br ae c;have a2:=C2 ae a n2 ah;have:=AP (show 1<=b by omega) (show l.length<=r.length-1 by omega);omega
theorem AM{b:Int}{l:List Int}(h:Av b l)(i:Nat):Av b (l.take i):=fun d a=>h d ah
theorem Es{b:Int}{l:List Int}(h:Av b l)(i:Nat):Av b (l.drop i):=fun d a=>h d ah
theorem Cq(b:Int)(l:List Int)(i:Nat)(h:i<=l.length):val b l=val b (l.take i)+b^i*val b (l.drop i):=by
 grind [List.take_append_drop,CR]
theorem Jr{b:Int}(g:2<=b){l r:List Int}{x y:Int}{s:List Int}{i:Nat}(e:Av b l)(c:Av b r)(d:l.drop i=x::s)(a:r.drop i=y::s)(h:x<y):val b l<val b r:=by
 have f:i<=l.length:=by
  grind [z6]
 have i2:i<=r.length:=by
  grind [z6]
 have a1:=Br ae<|AM e i;have a2:=Az ae<|AM c i;rw[Cq b l i f,Cq b r i i2,d,a,show val b (x::s)=x+b*val b s from rfl,show val b (y::s)=y+b*val b s from rfl];have j:=Bc (show 0<b by omega) i;have e3:b^i*(x+1)<=b^i*y:=ze ae ae;grind
theorem Su(b:Nat)(a:2<=b):∀(k f n:Nat),n<b^k->(WO b f n).length<=k
 |k,0,n,_=>by simp[WO]
 |0,f+1,n,h=>by
  grind [WO]
 |k+1,f+1,n,h=>by
  unfold WO;split
  ·simp
  ·have:n/b<b^k:=by
    simp_all [Nat.pow_succ,Nat.div_lt_of_lt_mul,Nat.mul_comm]
   have:=Su b a k f (n/b) this;grind
end Go.Sp
namespace Go.Pe
open Go.Det
inductive Sh where
 |int (k:IntKind)
 |bool
 |str
 |list (s:Sh)
 |pair (a b:Sh)
 |unit
 |nlist (s:Sh)
 |fnv
 |ptr (s:Sh)
 deriving DecidableEq
@[reducible] def Sh.T:Sh->Type
 | .int _=>Int
 | .bool=>Bool
 | .str=>Rd
 | .list s=>List s.T
 | .pair a b=>a.T×b.T
 | .unit=>Unit
 | .nlist s=>List s.T
 | .fnv=>Option Fn
 | .ptr s=>s.T
def Sh.HO:(s:Sh)->s.T
 | .int _=>(0:Int)
 | .bool=>false
 | .str=>([]:Rd)
 | .list _=>[]
 | .pair a b=>(a.HO,b.HO)
 | .unit=>()
 | .nlist _=>[]
 | .fnv=>none
 | .ptr s=>s.HO
def Sh.sz:Sh->Nat
 | .pair a b=>zg a.sz b.sz
 | .unit=>0
 |_=>1
inductive PV where
 |any
 |bl (b:Bool)
 |ub
 |dat (s:Sh) (x:s.T)
 |nil|nilp|nilm|nilf|nili
 |agg (l:List PV)
 |tup (l:List PV)
 |ptr (id off:Nat)
 |eptr (id sz i off:Nat)
 |Ei (s:Sh) (x:s.T) (off:Nat)
 |sl (id sz off len:Nat) (cap:Option Nat)
 |mp (id:Nat)
 |fn (f:Fn) (first captured:List PV)
 |yl (id:Nat)
inductive LpS where
 |ready|busy|ret
 |exit (i:Nat)
inductive Obj where
 |arr (fz:Bool) (e:TypeId) (s:Sh) (l:List s.T)
 |box (cs:List PV)
 |tbox (t:TypeId) (cs:List PV)
 |map (ks vs:Sh) (l:List (ks.T×vs.T))
 |siter (s:Rd) (pos:Nat)
 |lp (f:FuncId) (r:Nat) (ps:Array Tmp) (asg body:Code) (s:LpS) (n:Nat) (sl:List (Nat×PV))
abbrev Ob:=List<|Nat×Obj
def AN:Ob->Nat->Option Obj
 |[],_=>none
 |(i,o)::l,j=>bif zc i j then some o else AN l j
def DP:Ob->Nat->Obj->Ob
 |[],_,_=>[]
 |(i,o)::l,j,x=>bif zc i j then(i,x)::l else(i,o)::DP l j x
def F9:Ob->Nat->Ob
 |[],_=>[]
 |(i,o)::l,j=>bif zc i j then F9 l j else(i,o)::F9 l j
structure AG where
 n:Nat
 fr:PM PV
 ob:Ob
 nx:Nat
def AG.get(st:AG)(t:Nat):PV:=(st.fr.get t).getD .any
def AG.obj(st:AG)(id:Nat):Option Obj:=AN st.ob id
def AG.set(st:AG)(t:Nat)(v:PV):AG:=⟨st.n,st.fr.set t<|some v,st.ob,st.nx⟩
def AG.setObj(st:AG)(id:Nat)(o:Obj):AG:=⟨st.n,st.fr,DP st.ob id o,st.nx⟩
def AG.FE(st:AG)(id:Nat):AG:=⟨st.n,st.fr,F9 st.ob id,st.nx⟩
def AG.push(st:AG)(o:Obj):AG:=⟨st.n,st.fr,(st.nx,o)::st.ob,zg st.nx 1⟩
def AG.put(st:AG)(d:Option Nat)(v:PV):Option AG:=
 match d with
 |none=>some st
 |some t=>bif zx t st.n then some (st.set t v)else none
def ED(vs:List (Nat×PV)):PM PV:=vs.foldl (fun m x=>m.set x.1<|some x.2) .leaf
def flat:(s:Sh)->s.T->List PV
 | .pair a b,(x,y)=>flat a x++flat b y
 | .unit,_=>[]
 | .fnv,x=>[match (x:Option Fn)with|some f=>.fn f [] []|none=>.nilf]
 | .ptr s,x=>[.Ei s x 0]
 |s,x=>[.dat s x]
def El(s a:Sh)(x:s.T):Option a.T:=if h:s=a then some (h▸x)else none
def asP(a:Sh)(x:a.T):(s:Sh)->Option s.T
 | .ptr s=>El a s x
 |_=>none
def qC(s:Sh)(v:PV):Option s.T:=
 match v with
 | .Ei a x 0=>asP a x s
 | .dat a x=>El a s x
 | .bl b=>El .bool s b
 | .fn f [] []=>El .fnv s<|some f
 | .nilf=>El .fnv s none
 | .nil=>match s with
  | .list _=>some []
  | .nlist _=>some []
  |_=>none
 |_=>none
def Ck:(s:Sh)->List PV->Option (s.T×List PV)
 | .pair a b,l=>match Ck a l with
  |some (x,l1)=>match Ck b l1 with
   |some (y,l2)=>some ((x,y),l2)
   |none=>none
  |none=>none
 | .unit,l=>some ((),l)
 |s,v::l=>match qC s v with
  |some x=>some (x,l)
  |none=>none
 |_,[]=>none
def Dg(s:Sh)(l:List PV):Option s.T:=
 match Ck s l with
 |some (x,[])=>some x
 |_=>none
def PV.cells:PV->List PV
 | .agg cs=>cs
 |v=>[v]
def Xv(ty:TypeId->Option Sh):List Field->Option Sh
 |[]=>none
 |[x]=>ty x.type
 |x::c=>match ty x.type,Xv ty c with
  |some a,some b=>some<|.pair a b
  |_,_=>none
def nlf:Option Sh->Option Sh
 |some (.list<|.int .u64)=>some<|.nlist<|.int .u64
 |s=>s
def lz:PV->PV
 | .dat (.nlist s) x=>.dat (.list s) x
 |v=>v
def Sh.leaves:Sh->List Sh
 | .pair a b=>a.leaves++b.leaves
 | .unit=>[]
 |s=>[s]
def Uz:Sh->PV->Bool×PV
 | .nlist s,.dat (.list a) x=>bif s==a then(decide (0<x.length),.dat (.nlist a) x)else(true,.dat (.list a) x)
 | .list s,.dat (.nlist a) x=>bif s==a then(true,.dat (.list a) x)else(true,.dat (.nlist a) x)
 |_,v=>(true,v)
def K8:List Sh->List PV->Bool×List PV
 |s::l,v::vs=>((Uz s v).1&&(K8 l vs).1,(Uz s v).2::(K8 l vs).2)
 |_,vs=>(true,vs)
def V3(T:BX):Nat->TypeId->Option Sh
 |0,_=>none
 |f+1,t=>match T.und t with
  |some (.int k)=>some<|.int k
  |some .bool=>some .bool
  |some .string=>some .str
  |some (.slice e)=>(V3 T f e).map .list
  |some (.func _ _ _)=>some .fnv
  |some (.struct fs)=>Xv (fun x=>nlf<|V3 T f x) fs.toList
  |_=>none
def Sh.qL:Sh->Bool
 | .pair a b=>a.qL||b.qL
 | .fnv=>true
 |_=>false
def BU:(s:Sh)->s.T->PV
 | .pair a b,x=>.agg<|flat (.pair a b) x
 | .unit,_=>.agg []
 | .fnv,x=>match (x:Option Fn)with|some f=>.fn f [] []|none=>.nilf
 | .ptr s,x=>.Ei s x 0
 |s,x=>.dat s x
def Sh.Nf:Sh->Bool
 | .pair _ _| .unit=>true
 |_=>false
def tP:(s:Sh)->s.T->s.T->Bool
 | .int _,a,b=>(a:Int)==b
 | .bool,a,b=>(a:Bool)==b
 | .str,a,b=>(a:Rd)==b
 |_,_,_=>false
def M8(s v:Sh)(k:s.T):List (s.T×v.T)->Option v.T
 |[]=>none
 |(a,b)::l=>bif tP s k a then some b else M8 s v k l
def RV(s v:Sh)(k:s.T)(x:v.T):List (s.T×v.T)->List (s.T×v.T)
 |[]=>[(k,x)]
 |(a,b)::l=>bif tP s k a then(k,x)::l else(a,b)::RV s v k x l
def Rg(s v:Sh)(k:s.T):List (s.T×v.T)->List (s.T×v.T)
 |[]=>[]
 |(a,b)::l=>bif tP s k a then l else(a,b)::Rg s v k l
inductive Tr where
 |fail
 |leaf (v:PV) (ob:Ob)
 |ite (c:Bool) (a b:Tr)
 |both (a b:Tr)
 |cut (nd ro:Bool) (d:Nat) (f:FuncId) (base:Nat) (b:Code) (st:AG) (k:DX->AG->Tr)
 |alts (m:Nat) (f:Nat->Tr)
 |loop (nd ro:Bool) (d:Nat) (f:FuncId) (base:Nat) (b:Code) (st:AG) (k:DX->AG->Tr)
abbrev Tr.ck(c:Bool)(x:Tr):Tr:=.ite c x .fail
abbrev Tr.cd(P:Prop)[Decidable P](x:Tr):Tr:=.ite (decide P) x .fail
abbrev aa(k:Nat):Bool:=decide (1<=1)&&decide (0<1)&&decide ((3*1+2000)*k<=562949953421312)
abbrev ac(n m k:Nat):Bool:=decide (1<=1)&&true&&decide (n=m)&&decide ((3*(n+1)+2000)*k<=562949953421312)
abbrev Tr.di(P:Prop)[Decidable P](x y:Tr):Tr:=.ite (decide P) x y
inductive PO where
 |bad
 |val (v:PV) (st:AG)
 |ite (c:Bool) (a b:PO)
def PO.IW(c:Bool)(v:PV)(st:AG):PO:=.ite c (.val v st) .bad
mutual
def M7:Value->Option PV
 | .bool b=>some<|.bl b
 | .int k n=>some<|.dat (.int k) n
 | .string s=>some<|.dat .str s.data.toList
 | .pointer none=>some .nilp
 | .slice none 0 0=>some .nil
 | .map none=>some .nilm
 | .nilFunc=>some .nilf
 | .nilIface=>some .nili
 | .func f ⟨[]⟩ ⟨[]⟩=>some<|.fn f [] []
 | .agg ⟨cs⟩=>(Zh cs).map .agg
 | .tuple ⟨cs⟩=>(Zh cs).map .tup
 |_=>none
def Zh:List Value->Option (List PV)
 |[]=>some []
 |v::vs=>match M7 v,Zh vs with
  |some x,some a=>some (x::a)
  |_,_=>none
end
def VQ:V->PV
 | .bool b=>.bl b
 | .int k n=>.dat (.int k) n
 | .str s=>.dat .str s
 | .nilp=>.nilp
 | .nils=>.nil
 | .nilm=>.nilm
 | .nilf=>.nilf
 | .nili=>.nili
 |_=>.any
def P1(st:AG):Operand->Option PV
 | .tmp t=>some<|st.get t
 | .const v=>M7 v
 | .global _=>none
 | .func f=>some<|.fn (.func f) [] []
def LG(st:AG):List Operand->Option (List PV)
 |[]=>some []
 |x::a=>match P1 st x,LG st a with
  |some v,some vs=>some (v::vs)
  |_,_=>none
def Zp(st:AG):List (Nat×Operand)->Option (List<|Nat×PV)
 |[]=>some []
 |(i,x)::a=>match P1 st x,Zp st a with
  |some v,some vs=>some ((i,v)::vs)
  |_,_=>none
def dT(T:BX)(t:TypeId):Option (List PV):=(T.inf t).bind fun i=>bif KU V.ok i.zero then some (i.zero.map VQ)else none
def pick(d:TypeDesc)(n:Nat)(cs:List PV):Option PV:=
 bif Ea d then(bif zn n (Fm cs)&&zx 0 n then some (.agg<|X8 n cs)else none)
 else match cs with
  |v::_=>some v
  |[]=>none
def ov(st:AG):Option PV->PO
 |some v=>.val v st
 |none=>.bad
def zJ(c:Bool)(st:AG):Option PV->PO
 |some v=>.IW c v st
 |none=>.bad
def chunk(s:Sh):Nat->List PV->Option (List s.T)
 |0,_=>some []
 |n+1,cs=>match Ck s cs with
  |some (x,cs')=>(chunk s n cs').map (x:: ·)
  |none=>none
def PU(s:Sh)(l:List s.T):Nat->Nat->List PV
 |_,0=>[]
 |j,n+1=>flat s (l.getD j s.HO)++PU s l (zg j 1) n
def zsh:List V->Option Sh
 | .bool _::_=>some .bool
 | .int k _::_=>some<|.int k
 |_=>none
def zO:Sh->V->Bool
 | .bool,.bool b=> !b
 | .int k,.int a n=>decide (k=a)&&decide (n=0)
 |_,_=>false
def vB(T:BX)(t:TypeId):Option (Sh×Nat):=
 match T.und t,T.inf t with
 |some (.array _ _),some i=>match zsh i.zero with
  |some s=>bif zn 32 (Fm i.zero)&&KU (zO s) i.zero then some (s,Fm i.zero)else none
  |none=>none
 |_,_=>none
def M0(T:BX)(st:AG)(t:TypeId)(a:PV):PO:=
 match T.und t,T.inf t with
 |some d,some i=>match a with
  | .ptr id off=>match st.obj id with
   |some (.box cs)=>ov st<|pick d i.size<|JP off cs
   |some (.arr _ _ s l)=>bif zc off 0&&zc s.sz 1 then zJ (decide (l.length=i.size)) st (pick d i.size<|PU s l 0 i.size)else .bad
   |some (.tbox _ cs)=>ov st<|pick d i.size<|JP off cs
   |_=>.bad
  | .eptr id sz j off=>match st.obj id with
   |some (.arr _ _ s l)=>bif zc sz s.sz then zJ (decide (j<l.length)) st (pick d i.size<|JP off<|flat s<|l.getD j s.HO)else .bad
   |_=>.bad
  | .Ei s x off=>ov st<|pick d i.size<|JP off<|flat s x
  |_=>.bad
 |_,_=>.bad
def H7:Option Obj->Bool
 |some _=>true
 |none=>false
def KT(st:AG):PV->Bool
 | .agg _| .tup _| .any| .ub=>false
 | .ptr id _| .eptr id _ _ _| .sl id _ _ _ _| .mp id| .yl id=>H7<|st.obj id
 |_=>true
def zM(st:AG):PV->Option (List PV)
 | .agg l=>some l
 |p=>bif KT st p then some [p]else none
def Vk(T:BX)(st:AG)(t:TypeId)(a x:PV):PO:=
 match T.inf t,zM st x with
 |some i,some b=>bif zc (Fm b) i.size&&KU (KT st) b then
   match a with
   | .ptr id off=>match st.obj id with
    |some (.box cs)=>bif zn (zg off i.size) (Fm cs)then .val (.tup []) (st.setObj id<|.box<|Cn off b cs)else .bad
    |some (.arr false e s l)=>bif zc off 0&&zc s.sz 1 then
      match chunk s i.size b with
      |some y=>.IW (decide (l.length=i.size)) (.tup [])<|st.setObj id<|.arr false e s y
      |none=>.bad
     else .bad
    |some (.tbox tb cs)=>bif zn (zg off i.size) (Fm cs)then .val (.tup []) (st.setObj id<|.tbox tb<|Cn off b cs)else .bad
    |_=>.bad
   | .eptr id sz j off=>match st.obj id with
    |some (.arr false e s l)=>bif zc sz s.sz&&zn (zg off i.size) sz then
      match Dg s (Cn off b<|flat s<|l.getD j s.HO)with
      |some y=>.IW (decide (j<l.length)) (.tup [])<|st.setObj id<|.arr false e s<|l.set j y
      |none=>.bad
     else .bad
    |_=>.bad
   |_=>.bad
  else .bad
 |_,_=>.bad
def Hc(k:IntKind)(a b:Int):Int:=k.wrap (zj k.bits a&&&zj k.bits b).toNat
def Zw(k:IntKind)(a b:Int):Int:=k.wrap (zj k.bits a|||zj k.bits b).toNat
def Acq(k:IntKind)(a b:Int):Int:=k.wrap (zj k.bits a^^^zj k.bits b).toNat
def Abm(k:IntKind)(a b:Int):Int:=k.wrap (zj k.bits a&&& ~~~zj k.bits b).toNat
def xN(op:BinOp)(k:IntKind)(a b:Int)(st:AG):PO:=
 match op with
 | .add=>.val (.dat (.int k)<|k.wrap<|a+b) st
 | .sub=>.val (.dat (.int k)<|k.wrap<|a-b) st
 | .mul=>.val (.dat (.int k)<|k.wrap<|a*b) st
 | .quo=>.IW (decide (b≠0)) (.dat (.int k)<|k.wrap<|a.tdiv b) st
 | .rem=>.IW (decide (b≠0)) (.dat (.int k)<|a.tmod b) st
 | .and=>.val (.dat (.int k)<|Hc k a b) st
 | .or=>.val (.dat (.int k)<|Zw k a b) st
 | .xor=>.val (.dat (.int k)<|Acq k a b) st
 | .andNot=>.val (.dat (.int k)<|Abm k a b) st
 | .eql=>.val (.dat .bool<|a==b) st
 | .neq=>.val (.dat .bool<|a !=b) st
 | .lss=>.val (.dat .bool<|decide (a<b)) st
 | .leq=>.val (.dat .bool<|decide (a<=b)) st
 | .gtr=>.val (.dat .bool<|decide (a>b)) st
 | .geq=>.val (.dat .bool<|decide (a>=b)) st
 |_=>.bad
def psh(op:BinOp)(k:IntKind)(a b:Int)(st:AG):PO:=
 match op with
 | .shl=>.IW (decide (0<=b)) (.dat (.int k)<|k.wrap<|a*2^(min b.toNat k.bits)) st
 | .shr=>.IW (decide (0<=b)) (.dat (.int k)<|a.fdiv<|2^(min b.toNat k.bits)) st
 |_=>.bad
def vK(op:BinOp)(x y:Rd)(st:AG):PO:=
 match op with
 | .add=>.IW (decide (x.length+y.length<=4611686018427387904)) (.dat .str<|x++y) st
 | .eql=>.val (.dat .bool<|x==y) st
 | .neq=>.val (.dat .bool<|!(x==y)) st
 | .lss=>.val (.dat .bool<|z7 x y) st
 | .leq=>.val (.dat .bool<|z7 x y||x==y) st
 | .gtr=>.val (.dat .bool<|!(z7 x y||x==y)) st
 | .geq=>.val (.dat .bool<|!z7 x y) st
 |_=>.bad
def oF:BinOp->Bool
 | .shl| .shr=>true
 |_=>false
def Jn:PV->Option Bool
 | .bl b=>some b
 | .dat .bool b=>some b
 |_=>none
def G3:List FK->List PV->List PV->Option Bool
 |[],[],[]=>some true
 | .int k::ks,.dat (.int f) a::c,.dat (.int e) b::d=>bif k==f&&k==e then(G3 ks c d).map fun r=>(a:Int)==(b:Int)&&r else none
 | .str::ks,.dat .str a::c,.dat .str b::d=>(G3 ks c d).map fun r=>(a:Rd)==(b:Rd)&&r
 | .bool::ks,a::c,b::d=>match Jn a,Jn b with
  |some a,some b=>(G3 ks c d).map fun r=>a==b&&r
  |_,_=>none
 |_,_,_=>none
def Rw(st:AG)(ng:Bool)(x:PV):PO:=
 match x with
 | .nil=>.val (.bl<|!ng) st
 | .sl id _ _ _ _=>bif H7 (st.obj id)then .val (.bl ng) st else .bad
 | .dat (.list _) l=>.ite (decide (0<l.length)) (.val (.bl ng) st)<|.val .ub st
 | .dat (.nlist _) l=>.val (.dat .bool<|bif ng then decide (0<l.length)else !decide (0<l.length)) st
 |_=>.bad
def bI(op:BinOp)(x y:PV)(st:AG):PO:=
 match op,x,y with
 | .eql,x,.nil=>Rw st false x
 | .neq,x,.nil=>Rw st true x
 |_,_,_=>.bad
def ptrEq(T:BX)(e:TypeId)(st:AG)(x y:PV):Option Bool:=
 match x,y with
 | .nilp,.nilp=>some true
 | .ptr id _,.nilp=>bif H7 (st.obj id)then some false else none
 | .nilp,.ptr id _=>bif H7 (st.obj id)then some false else none
 | .ptr a i,.ptr b j=>bif zc a b&&H7 (st.obj a)then match T.inf e with
   |some c=>bif zx 0 c.size then some (zc i j)else none
   |none=>none
  else none
 |_,_=>none
def yA(T:BX)(op:BinOp)(t:TypeId)(x y:PV)(st:AG):PO:=
 match x,y with
 | .dat (.int k) a,.dat (.int c) b=>bif oF op then psh op k a b st else(bif k==c then xN op k a b st else .bad)
 | .dat .str a,.dat .str b=>vK op a b st
 | .agg d,.agg f=>match T.flat t with
  |some ks=>match op,G3 ks d f with
   | .eql,some r=>.val (.dat .bool r) st
   | .neq,some r=>.val (.dat .bool<|!r) st
   |_,_=>.bad
  |none=>.bad
 |x,y=>match Jn x,Jn y,T.und t with
  |some a,some b,some .bool=>match op with
   | .eql=>.val (.dat .bool<|a==b) st
   | .neq=>.val (.dat .bool<|!(a==b)) st
   |_=>.bad
  |_,_,some (.slice _)=>bI op x y st
  |_,_,some (.pointer e)=>match op,ptrEq T e st x y with
   | .eql,some r=>.val (.bl r) st
   | .neq,some r=>.val (.bl<|!r) st
   |_,_=>.bad
  |_,_,_=>.bad
def pun(op:UnOp)(x:PV)(st:AG):PO:=
 match op,x with
 | .neg,.dat (.int k) n=>.val (.dat (.int k)<|k.wrap<|0-(n:Int)) st
 | .not,.bl b=>.val (.bl<|!b) st
 | .not,.ub=>.val .ub st
 | .not,.dat .bool b=>.val (.dat .bool<|!b) st
 |_,_=>.bad
def kQ(T:BX)(s d:TypeId)(x:PV)(st:AG):PO:=
 match T.und s,T.und d,x with
 |some _,some<|.int k,.dat (.int _) n=>.val (.dat (.int k)<|k.wrap n) st
 |some .string,some .string,.dat .str s=>.val (.dat .str s) st
 |_,_,_=>.bad
def cK(c a b:PV)(st:AG):PO:=
 match c with
 | .bl t=>.val (bif t then a else b) st
 | .dat .bool t=>match a,b with
  | .dat .bool x,.bl false=>.val (.dat .bool<|t&&x) st
  | .bl true,.dat .bool x=>.val (.dat .bool<|t||x) st
  |_,_=>.ite t (.val a st)<|.val b st
 |_=>.bad
def Vm(T:BX)(t:TypeId)(x:PV)(f:Nat)(st:AG):PO:=
 match T.und t,x with
 |some (.struct fs),.agg cs=>match fs[f]? with
  |some a=>match T.und a.type,T.inf a.type with
   |some d,some i=>ov st<|pick d i.size<|JP a.offset cs
   |_,_=>.bad
  |none=>.bad
 |_,_=>.bad
def WV(T:BX)(t:TypeId)(x:PV)(f:Nat)(st:AG):PO:=
 match T.und t with
 |some (.struct fs)=>match fs[f]? with
  |some a=>match T.inf a.type with
   |some i=>bif zc i.size 0 then .bad else match x with
    | .ptr id off=>bif H7 (st.obj id)then .val (.ptr id<|zg off a.offset) st else .bad
    | .eptr id sz j off=>bif H7 (st.obj id)then .val (.eptr id sz j<|zg off a.offset) st else .bad
    | .Ei s y off=>.val (.Ei s y<|zg off a.offset) st
    |_=>.bad
   |none=>.bad
  |none=>.bad
 |_=>.bad
def Sz(T:BX)(t:TypeId)(x ix:PV)(st:AG):PO:=
 match T.und t,ix with
 |some (.slice e),.dat (.int _) i=>match T.inf e with
  |some a=>match x with
   | .dat (.list s) l=>bif zc a.size s.sz then .IW (decide (0<=(i:Int))&&decide ((i:Int)<(l.length:Int))) (.Ei s (l.getD (zf i) s.HO) 0) st else .bad
   | .sl id sz off len _=>bif zc a.size sz&&H7 (st.obj id)then .IW (decide (0<=(i:Int))&&decide ((i:Int)<(len:Int))) (.eptr id sz (zg (zf i) off) 0) st else .bad
   |_=>.bad
  |none=>.bad
 |some (.array len e),.dat (.int _) i=>match T.inf e with
  |some a=>match x with
   | .ptr id off=>match st.obj id with
    |some (.arr _ _ s _)=>bif zc off 0&&zc a.size s.sz then .IW (decide (0<=(i:Int))&&decide ((i:Int)<(len:Int))) (.eptr id s.sz (zf i) 0) st else .bad
    |some _=>.IW (decide (0<=(i:Int))&&decide ((i:Int)<(len:Int))) (.ptr id<|zg off<|yb (zf i) a.size) st
    |none=>.bad
   | .eptr id sz j off=>bif H7 (st.obj id)then .IW (decide (0<=(i:Int))&&decide ((i:Int)<(len:Int))) (.eptr id sz j<|zg off<|yb (zf i) a.size) st else .bad
   | .Ei s y off=>.IW (decide (0<=(i:Int))&&decide ((i:Int)<(len:Int))) (.Ei s y<|zg off<|yb (zf i) a.size) st
   |_=>.bad
  |none=>.bad
 |_,_=>.bad
def eU(T:BX)(t:TypeId)(x ix:PV)(st:AG):PO:=Sz T t (lz x) ix st
def WM(T:BX)(t:TypeId)(x ix:PV)(st:AG):PO:=
 match T.und t,x,ix with
 |some .string,.dat .str s,.dat (.int _) i=>.IW (decide (0<=(i:Int))&&decide ((i:Int)<((s:Rd).length:Int))) (.dat (.int .u8) (((s:Rd).getD (zf i) 0).toNat:Int)) st
 |some (.array len e),.agg cs,.dat (.int _) i=>match T.und e,T.inf e with
  |some d,some a=>zJ (decide (0<=(i:Int))&&decide ((i:Int)<(len:Int))) st<|pick d a.size<|JP (yb (zf i) a.size) cs
  |_,_=>.bad
 |_,_,_=>.bad
def Oj(x:PV)(i:Nat)(st:AG):PO:=
 match x with
 | .tup vs=>match vs[i]? with
  |some v=>.val v st
  |none=>.bad
 |_=>.bad
def pb(x:Option PV)(HO:Nat):Option (Bool×Nat):=
 match x with
 |none=>some (true,HO)
 |some (.dat (.int _) n)=>some (decide (0<=(n:Int)),zf n)
 |_=>none
def has(mx:Option PV)(c:Nat):Bool:=match mx with
 |none=>true
 |some _=>decide (0<c)
def SS(T:BX)(t:TypeId)(x:PV)(lo c mx:Option PV)(st:AG):PO:=
 match T.und t with
 |some .string=>match x,mx with
  | .dat .str s,none=>match pb lo 0,pb c (s:Rd).length with
   |some (a,l),some (b,h)=>.IW (a&&b&&decide (l<=h)&&decide (h<=(s:Rd).length)) (.dat .str<|((s:Rd).drop l).take<|Nat.sub h l) st
   |_,_=>.bad
  |_,_=>.bad
 |some (.slice e)=>match T.inf e with
  |some g=>match x with
   | .dat (.list s) d=>bif zc g.size s.sz then
     match pb lo 0,pb c d.length,mx with
     |some (a,l),some (b,h),none=>.IW (a&&b&&decide (l<=h)&&decide (h<=d.length)) (.dat (.list s)<|(d.drop l).take<|Nat.sub h l) st
     |_,_,_=>.bad
    else .bad
   | .sl id sz off len cap=>bif zc g.size sz&&H7 (st.obj id)then
     match c,mx with
     |none,some _=>.bad
     |_,_=>match pb lo 0,pb c len,pb mx (cap.getD len)with
      |some (a,l),some (b,h),some (f,m)=>.IW (a&&b&&f&&decide (l<=h)&&decide (h<=m)&&decide (m<=cap.getD len)&&has mx (cap.getD len)) (.sl id sz (zg off l) (Nat.sub h l)<|some<|Nat.sub m l) st
      |_,_,_=>.bad
    else .bad
   | .nil=>match pb lo 0,pb c 0,mx with
    |some (a,l),some (b,h),none=>.IW (a&&b&&decide (l<=h)&&decide (h<=0)) .nil st
    |some (a,l),some (b,h),some q=>match c,pb (some q) 0 with
     |some _,some (f,m)=>.IW (a&&b&&f&&decide (l<=h)&&decide (h<=m)&&decide (m<=0)) .nil st
     |_,_=>.bad
    |_,_,_=>.bad
   |_=>.bad
  |none=>.bad
 |_=>.bad
def kN(T:BX)(t:TypeId)(x:PV)(lo a mx:Option PV)(st:AG):PO:=SS T t (lz x) lo a mx st
def pi64(n:Nat):PV:=.dat (.int .i64)<|Int.ofNat n
def T2(T:BX)(ts:Array TypeId)(args:List PV)(st:AG):PO:=
 match ts[0]?,args with
 |some t,[x]=>match T.und t,x with
  |some .string,.dat .str s=>.val (pi64 (s:Rd).length) st
  |some (.slice _),.dat (.list _) l=>.val (pi64 l.length) st
  |some (.slice _),.sl id _ _ len _=>bif H7 (st.obj id)then .val (pi64 len) st else .bad
  |some (.slice _),.nil=>.val (pi64 0) st
  |some (.map _ _),.mp id=>match st.obj id with
   |some (.map _ _ l)=>.val (pi64 l.length) st
   |_=>.bad
  |_,_=>.bad
 |_,_=>.bad
def rK(T:BX)(ts:Array TypeId)(args:List PV)(st:AG):PO:=T2 T ts (args.map lz) st
def zT(f:Int->Int->Int)(k:IntKind):Int->List PV->Option Int
 |x,[]=>some x
 |x,.dat (.int b) y::a=>bif k==b then zT f k (f x y) a else none
 |_,_=>none
def NM(f:Int->Int->Int)(args:List PV)(st:AG):PO:=
 match args with
 | .dat (.int k) x::a=>match zT f k x a with
  |some z=>.val (.dat (.int k) z) st
  |none=>.bad
 |_=>.bad
def imax(x y:Int):Int:=if y>x then y else x
def B5(x y:Int):Int:=if y<x then y else x
def HH(st:AG)(s:Sh)(x:PV):Option (Bool×List s.T):=
 match x with
 | .nil=>some (true,[])
 | .dat (.list a) l=>(El (.list a) (.list s) l).map fun r=>(true,r)
 | .sl id sz off len _=>match st.obj id with
  |some (.arr _ _ a l)=>bif zc sz a.sz then(El (.list a) (.list s) l).map fun r=>(decide (off+len<=r.length),(r.drop off).take len)else none
  |_=>none
 | .dat .str l=>(El (.list<|.int .u8) (.list s)<|List.map (fun b:UInt8=>(b.toNat:Int)) l).map fun r=>(true,r)
 |_=>none
def OT(st:AG)(s:Sh)(x:PV):Option (Bool×List s.T):=HH st s<|lz x
def LIM:Nat:=281474976710656
def jY:Nat:=562949953421312
def RI:TypeDesc->Bool
 | .slice _=>true
 | .string=>true
 |_=>false
def RL(T:BX)(ts:Array TypeId)(args:List PV)(st:AG):PO:=
 match ts[0]?,ts[1]?,args with
 |some t,some a,[b,x]=>match T.und t,T.und a with
  |some (.slice e),some f=>bif RI f then match T.inf e,V3 T 9 e with
   |some i,some s=>
    bif zx 0 i.bytes&&zx 0 i.size&&zc i.zero.length i.size&&zc i.size s.sz then
     match OT st s x with
     |some (c,new)=>match b with
      | .nil=>match x with
       | .nil=>.val .nil st
       | .dat _ _=>.ite (decide (0<new.length)) (.IW (c&&decide ((3*new.length+2000)*i.bytes<=jY)) (.sl st.nx s.sz 0 new.length none)<|st.push<|.arr false e s new)<|.val .nil st
       | .sl _ _ _ _ (some _)=>.ite (decide (0<new.length)) (.IW (c&&decide ((3*new.length+2000)*i.bytes<=jY)) (.sl st.nx s.sz 0 new.length none)<|st.push<|.arr false e s new)<|.IW c .nil st
       |_=>.IW (c&&decide (0<new.length)&&decide ((3*new.length+2000)*i.bytes<=jY)) (.sl st.nx s.sz 0 new.length none)<|st.push<|.arr false e s new
      | .sl id sz off len cap=>match st.obj id with
       |some (.arr false g d l)=>match El (.list d) (.list s) l with
        |some l'=>bif zc e g&&zc sz s.sz then
          match cap with
          |none=>.IW (c&&decide (off=0)&&decide (len=l'.length)&&decide ((3*(len+new.length)+2000)*i.bytes<=jY)) (.sl st.nx s.sz 0 (zg len new.length) none)<|(st.FE id).push<|.arr false e s<|l'++new
          |some k=>.IW (c&&decide (len+new.length<=k)&&decide (off+k<=l'.length)) (.sl id sz off (zg len new.length)<|some k) (st.setObj id<|.arr false e s<|l'.take (off+len)++(new++l'.drop (off+len+new.length)))
         else .bad
        |none=>.bad
       |_=>.bad
      |_=>.bad
     |none=>.bad
    else .bad
   |_,_=>.bad
   else .bad
  |_,_=>.bad
 |_,_,_=>.bad
def WS(T:BX)(ts:Array TypeId)(args:List PV)(st:AG):PO:=
 match ts[0]?,args with
 |some t,[x]=>match T.und t with
  |some (.slice e)=>match x with
   | .nil=>.val (.tup []) st
   | .sl id sz off len _=>match T.inf e,st.obj id with
    |some i,some (.arr false a s l)=>
     bif zc sz s.sz&&zx 0 i.zero.length&&zc i.zero.length s.sz&&KU V.one i.zero then
      match Dg s (i.zero.map VQ)with
      |some z=>.IW (decide (off+len<=l.length)) (.tup [])<|st.setObj id<|.arr false a s<|l.take off++(zq len z++l.drop (off+len))
      |none=>.bad
     else .bad
    |_,_=>.bad
   |_=>.bad
  |_=>.bad
 |_,_=>.bad
def U9(args:List PV)(st:AG):PO:=
 match args with
 |[.sl id sz off len none]=>bif H7 (st.obj id)then .IW (decide (0<len)) (.eptr id sz off 0) st else .bad
 |_=>.bad
def R3(l:List Int):Rd:=l.map fun x=>UInt8.ofNat x.toNat
def Qt(l:List Int):Bool:=l.all fun x=>decide (0<=x)&&decide (x<256)
def iB(T:BX)(ts:List TypeId)(args:List PV)(st:AG):PO:=
 match ts,args with
 |[b,_],[.eptr id _ i 0,.dat (.int .i64) n]=>match T.und b,st.obj id with
  |some (.pointer e),some (.arr false d s l)=>match T.inf e,El (.list s) (.list<|.int .u8) l with
   |some c,some a=>bif zc c.size 1&&zc e d then
     .IW (decide (i=0)&&decide (0<(n:Int))&&decide (zf n<=(a:List Int).length)&&decide (zf n<=9223372036854775807)&&Qt a) (.dat .str<|R3<|(a:List Int).take<|zf n) (st.FE id)
    else .bad
   |_,_=>.bad
  |_,_=>.bad
 |_,_=>.bad
def ID(T:BX)(b:Builtin)(ts:Array TypeId)(args:List PV)(st:AG):PO:=
 match b with
 | .len=>rK T ts args st
 | .append=>RL T ts args st
 | .max=>NM imax args st
 | .min=>NM B5 args st
 | .clear=>WS T ts args st
 | .unsafeSliceData=>U9 args st
 | .unsafeString=>iB T ts.toList args st
 |_=>.bad
def rune(s:Rd)(pos:Nat):Int:=(Utf8.decode (bytesOf s) pos).1
def sO(s:Rd)(pos:Nat):Nat:=(Utf8.decode (bytesOf s) pos).2
def Wd(T:BX)(t:TypeId)(x:PV)(st:AG):PO:=
 match T.und t,x with
 |some .string,.dat .str s=>.val (.ptr st.nx 0)<|st.push<|.siter s 0
 |_,_=>.bad
def gG(x:PV)(a:Bool)(st:AG):PO:=
 match x,a with
 | .ptr id 0,true=>match st.obj id with
  |some (.siter s pos)=>.ite (decide (pos<s.length)) (.val (.tup [.bl true,.dat (.int .i64)<|Int.ofNat pos,.dat (.int .i32)<|rune s pos])<|st.setObj id<|.siter s<|zg pos<|sO s pos)<|.val (.tup [.bl false]) st
  |_=>.bad
 |_,_=>.bad
def QL(st:AG)(place:Nat->Option (Nat×Nat))(cells:List PV):List (Nat×PV)->Option (List PV)
 |[]=>some cells
 |(i,v)::a=>match place i with
  |none=>none
  |some (off,size)=>match zM st v with
   |some vs=>bif zc (Fm vs) size&&zn (zg off size) (Fm cells)then QL st place (Cn off vs cells) a else none
   |none=>none
def V0(T:BX)(st:AG)(t:TypeId)(a:List (Nat×PV)):Option PV:=
 match T.inf t,T.und t with
 |some i,some (.struct fs)=>
  match fs.toList.mapM (fun f=>(T.inf f.type).map fun j=>(f.offset,j.size))with
  |some pl=>(QL st (fun i=>pl[i]?) (i.zero.map VQ) a).map .agg
  |none=>none
 |some i,some (.array _ e)=>match T.inf e with
  |some j=>(QL st (fun i=>some (i*j.size,j.size)) (i.zero.map VQ) a).map .agg
  |none=>none
 |_,_=>none
def Pr(z:List PV):Nat->List PV
 |0=>[]
 |n+1=>z++Pr z n
def Cd(st:AG):PV->Option (Bool×PV)
 | .sl id sz off len _=>match st.obj id with
  |some (.arr _ _ s l)=>bif zc sz s.sz then some (decide (off+len<=l.length),.dat (.list s)<|(l.drop off).take len)else none
  |_=>none
 | .dat s x=>some (true,.dat s x)
 | .Ei s x off=>some (true,.Ei s x off)
 | .bl b=>some (true,.bl b)
 | .nil=>some (true,.nil)
 | .fn f [] []=>some (true,.fn f [] [])
 |_=>none
def Ds(st:AG):List PV->Option (Bool×List PV)
 |[]=>some (true,[])
 |v::vs=>match Cd st v,Ds st vs with
  |some (c,x),some (d,a)=>some (c&&d,x::a)
  |_,_=>none
def Bv(st:AG):PV->AG
 | .sl id _ _ _ _=>match st.obj id with
  |some (.arr _ e s l)=>st.setObj id<|.arr true e s l
  |_=>st
 |_=>st
def Bk:List PV->AG->AG
 |[],st=>st
 |v::vs,st=>Bk vs<|Bv st v
def Rr(T:BX)(t:TypeId)(len:Nat)(a:List (Nat×PV))(st:AG):PO:=
 match T.und t with
 |some (.slice e)=>match T.inf e,V3 T 9 e with
  |some i,some s=>
   bif zn (yb len i.size) 16777216&&zx 0 i.zero.length&&zc i.zero.length i.size&&zc i.size s.sz then
    match QL st (fun k=>some (k*i.size,i.size)) (Pr (i.zero.map VQ) len) a with
    |some cs=>match chunk s len cs with
     |some l=>.val (.sl st.nx s.sz 0 len none)<|st.push<|.arr false e s l
     |none=>match Ds st cs with
      |some (c,cs')=>match chunk s len cs' with
       |some l=>.IW c (.sl st.nx s.sz 0 len none)<|(Bk cs st).push<|.arr false e s l
       |none=>.bad
      |none=>.bad
    |none=>.bad
   else .bad
  |_,_=>.bad
 |_=>.bad
def iX(T:BX)(t:TypeId)(l c:PV)(st:AG):PO:=
 match T.und t,l,c with
 |some (.slice e),.dat (.int _) l,.dat (.int _) c=>match T.inf e,V3 T 9 e with
  |some i,some s=>
   bif zx 0 i.zero.length&&zc i.zero.length i.size&&zc i.size s.sz then
    match Dg s (i.zero.map VQ)with
    |some z=>.IW (decide (0<=(l:Int))&&decide ((l:Int)=(c:Int))&&decide (i.bytes*zf l<=LIM)&&decide ((l:Int)<9223372036854775808)) (.sl st.nx s.sz 0 (zf l) none)<|st.push<|.arr false e s<|zq (zf l) z
    |none=>.bad
   else .bad
  |_,_=>.bad
 |_,_,_=>.bad
def sG(T:BX)(t:TypeId):Option Sh:=match T.und t with
 |some (.int k)=>some<|.int k
 |some .string=>some .str
 |some .bool=>some .bool
 |_=>none
def M9:PV->Bool
 | .agg _=>true
 |_=>false
def asV(s:Sh)(p:PV):Option s.T:=bif M9 p==s.Nf then Dg s p.cells else none
def Vt(T:BX)(t:TypeId)(st:AG):PO:=match T.und t with
 |some (.map a e)=>match sG T a,V3 T 9 e with
  |some ks,some vs=>.val (.mp st.nx)<|st.push<|.map ks vs []
  |_,_=>.bad
 |_=>.bad
def hI(st:AG)(ks vs:Sh)(m:PV):Option (List<|ks.T×vs.T):=match m with
 | .nilm=>some []
 | .mp id=>match st.obj id with
  |some (.map b a l)=>El (.list<|.pair b a) (.list<|.pair ks vs) l
  |_=>none
 |_=>none
def vAg:V->Bool
 | .agg _=>true
 |_=>false
def zX(ks vs:Sh)(ok:Bool)(z:vs.T)(x:ks.T)(st:AG):List (ks.T×vs.T)->PO
 |[]=>.val (bif ok then .tup [BU vs z,.bl false]else BU vs z) st
 |(a,b)::l=>.ite (tP ks x a) (.val (bif ok then .tup [BU vs b,.bl true]else BU vs b) st)<|zX ks vs ok z x st l
def SG(T:BX)(t:TypeId)(m k:PV)(ok:Bool)(st:AG):PO:=match T.und t with
 |some (.map a e)=>match sG T a,V3 T 9 e,T.inf e with
  |some ks,some vs,some i=>match qC ks k,hI st ks vs m,Dg vs (i.zero.map VQ)with
   |some x,some l,some z=>
    bif vAg i.zv==vs.Nf then bif vs.qL then zX ks vs ok z x st l else
     (let v:=BU vs ((M8 ks vs x l).getD z)
     .val (bif ok then .tup [v,.dat .bool (M8 ks vs x l).isSome]else v) st)
    else .bad
   |_,_,_=>.bad
  |_,_,_=>.bad
 |_=>.bad
def SN(T:BX)(t:TypeId)(m k v:PV)(st:AG):PO:=match T.und t,m with
 |some (.map b _),.mp id=>match sG T b,st.obj id with
  |some ks,some (.map a vs l)=>match qC ks k,El (.list<|.pair a vs) (.list<|.pair ks vs) l,asV vs v with
   |some x,some l,some y=>.val (.tup [])<|st.setObj id<|.map ks vs<|RV ks vs x y l
   |_,_,_=>.bad
  |_,_=>.bad
 |_,_=>.bad
def R2(T:BX)(ts:Array TypeId)(args:List PV)(st:AG):PO:=match ts[0]?,args with
 |some t,[.mp id,k]=>match T.und t with
  |some (.map b _)=>match sG T b,st.obj id with
   |some ks,some (.map a vs l)=>match qC ks k,El (.list<|.pair a vs) (.list<|.pair ks vs) l with
    |some x,some l=>.val (.tup [])<|st.setObj id<|.map ks vs<|Rg ks vs x l
    |_,_=>.bad
   |_,_=>.bad
  |_=>.bad
 |_,_=>.bad
abbrev K2:=BX->AG->PO
def v1(st:AG)(x:Operand)(k:PV->PO):PO:=match P1 st x with|some v=>k v|none=>.bad
def V1(x:Operand):K2:=fun _ st=>ov st<|P1 st x
def iG(c a b:Operand):K2:=fun _ st=>v1 st c fun c=>v1 st a fun a=>v1 st b fun b=>cK c a b st
def sU(T:BX)(t:TypeId):Bool:=
 match T.und t with
 |some (.struct fs)=>match fs[0]? with
  |some f=>match T.und f.type with
   |some (.pointer u)=>zc u t
   |_=>false
  |none=>false
 |_=>false
def SJ(t:TypeId):K2:=fun T st=>match vB T t with
 |some (s,n)=>.val (.ptr st.nx 0)<|st.push<|.arr false t s<|zq n s.HO
 |none=>match dT T t with|some cs=>.val (.ptr st.nx 0) (st.push<|bif sU T t then .tbox t cs else .box cs)|none=>.bad
def uD(_:TypeId)(x:Operand):K2:=fun _ st=>v1 st x fun v=>match zM st v with|some cs=>bif KU (KT st) cs then .val (.ptr st.nx 0) (st.push<|.box cs)else .bad|none=>.bad
def Xg(t:TypeId)(ps:Array (Nat×Operand)):K2:=fun T st=>match Zp st ps.toList with|some l=>ov st (V0 T st t l)|none=>.bad
def U1(t:TypeId)(n:Nat)(ps:Array (Nat×Operand)):K2:=fun T st=>match Zp st ps.toList with|some l=>Rr T t n l st|none=>.bad
def hO(t:TypeId)(x:Operand):K2:=fun T st=>v1 st x fun a=>M0 T st t a
def Xc(t:TypeId)(x y:Operand):K2:=fun T st=>v1 st x fun a=>v1 st y fun b=>Vk T st t a b
def OG(x:Operand):K2:=fun _ st=>v1 st x fun a=>match a with| .ptr id _| .eptr id _ _ _=>bif H7 (st.obj id)then .val a st else .bad| .Ei .. =>.val a st|_=>.bad
def sX(T:BX)(op:BinOp)(t:TypeId)(x y:Operand)(a b:PV):Option Bool:=
 match op,a,b,T.und t with
 | .eql,.nili,.nili,some (.interface _)=>bif Xb x||Xb y then some true else none
 | .neq,.nili,.nili,some (.interface _)=>bif Xb x||Xb y then some false else none
 |_,_,_,_=>none
def tS(op:BinOp)(t:TypeId)(x y:Operand)(_:TypeId):K2:=fun T st=>v1 st x fun a=>v1 st y fun b=>match sX T op t x y a b with|some r=>.val (.bl r) st|none=>yA T op t a b st
def zY(op:UnOp)(_:TypeId)(x:Operand):K2:=fun _ st=>v1 st x fun a=>pun op a st
def jR(s d:TypeId)(x:Operand):K2:=fun T st=>v1 st x fun a=>kQ T s d a st
def bT(f:Fn)(a b:Array Operand):K2:=fun _ st=>match LG st a.toList,LG st b.toList with|some x,some y=>.val (.fn f x y) st|_,_=>.bad
def dH(t:TypeId)(l c:Operand):K2:=fun T st=>v1 st l fun a=>v1 st c fun b=>iX T t a b st
def o1(st:AG)(x:Option Operand)(k:Option PV->PO):PO:=match x with|none=>k none|some y=>v1 st y fun v=>k<|some v
def Xq(t:TypeId)(x:Operand)(a b c:Option Operand):K2:=fun T st=>v1 st x fun v=>o1 st a fun l=>o1 st b fun h=>o1 st c fun m=>kN T t v l h m st
def Yc(t:TypeId)(x:Operand)(f:Nat):K2:=fun T st=>v1 st x fun a=>WV T t a f st
def Xt(t:TypeId)(x:Operand)(f:Nat):K2:=fun T st=>v1 st x fun a=>Vm T t a f st
def XD(t:TypeId)(x i:Operand):K2:=fun T st=>v1 st x fun a=>v1 st i fun b=>eU T t a b st
def X1(t:TypeId)(x i:Operand):K2:=fun T st=>v1 st x fun a=>v1 st i fun b=>WM T t a b st
def QN(x:Operand)(i:Nat):K2:=fun _ st=>v1 st x fun a=>Oj a i st
def RK(c:Call):K2:=fun T st=>
 match LG st c.args.toList with
 |none=>.bad
 |some args=>match c.callee with
  | .builtin b=>match b with
   | .delete=>R2 T c.argTypes args st
   |_=>ID T b c.argTypes args st
  |_=>.bad
def YD(t:TypeId)(r:Option Operand):K2:=fun T st=>match r with|none=>Vt T t st|some _=>.bad
def TW(t:TypeId)(x i:Operand)(ok:Bool):K2:=fun T st=>v1 st x fun a=>v1 st i fun b=>SG T t a b ok st
def Pn(t:TypeId)(m k x:Operand):K2:=fun T st=>v1 st m fun a=>v1 st k fun b=>v1 st x fun c=>SN T t a b c st
def WW(t:TypeId)(x:Operand):K2:=fun T st=>v1 st x fun a=>Wd T t a st
def bO(x:Operand)(b:Bool):K2:=fun _ st=>v1 st x fun a=>gG a b st
def Jz:K2:=fun _ _=>.bad
def pop(o:Op):K2:=@Op.casesOn (fun _=>K2) o V1 V1 iG SJ uD Xg U1 Pn hO Xc (fun _=>Jz) (fun _=>Jz) OG tS zY jR
 (fun _ _=>Jz) (fun _ _=>Jz) bT YD (fun _ _=>Jz) dH Xq Yc Xt XD X1 TW Pn (fun _ _ _=>Jz) (fun _ _ _ _=>Jz)
 WW bO (fun _=>Jz) (fun _ _ _ _=>Jz) QN RK (fun _=>Jz) (fun _=>Jz) (fun _=>Jz) (fun _ _=>Jz) (fun _ _ _=>Jz) (fun _ _=>Jz)
end Go.Pe
namespace Go.Det
section
abbrev S6:=FuncId->Option (List V->H->Option (V×H))
def Fe(P:Program)(s:S6):Prop:=∀f q,s f=some q->∀(p:Pl) (h:H) (w:World) (args:List V) (args':Array Value) v h',R p h w->Gp p->Ar p args args'.toList->q args h=some (v,h')->
 Calls P f args' w fun e w'=>∃v' p',e=.returned v'/\Ab p' v v'/\Ext p h w p' h' w'
def cQ(a b:S6):S6:=fun f=>match a f with
 |some q=>some q
 |none=>b f
variable {P:Program}
theorem Hm{a b:S6}(d:Fe P a)(c:Fe P b):Fe P (cQ a b):=by
 grind [cQ,Fe]
def NV(C:Ctx)(s:S6):Ctx:={ C with spec:=s }
theorem IB{C:Ctx}(a:C.Ok P){s:S6}(h:Fe P s):(NV C s).Ok P where
 T:=a.T
 fn:=a.fn
 prim:=a.prim
 spec:=h
theorem EL{C:Ctx}(a:DB C)(s:S6):DB (NV C s):=a
theorem R1{C:Ctx}(b:C.Ok P)(a:DB C)(c:P.follows .mixedOrders=true){n:Nat}{L:CJ}(h:AZ C n L=true):Fe P (Hs L):=oI (C':=C) b a c h
theorem AQ{C:Ctx}{n:Nat}:∀ {a b:CJ},AZ C n a=true->AZ C n b=true->AZ C n (a++b)=true
 |[],b,_,h=>h
 |(f,x,v)::a,b,h,k=>by
  simp only[AZ,zz,zd]at h ⊢;exact⟨h.1,AQ h.2 k⟩
def HF(C:Ctx)(n:Nat)(L:CJ):S6:=fun f=>match Hs L f with
 |none=>none
 |some q=>some fun args h=>match q args h with
  |some x=>some x
  |none=>match A5 C n (.fn f args) h with
   |some [x]=>some x
   |_=>none
theorem L0{C:Ctx}(l:C.Ok P)(c:DB C)(m:P.follows .mixedOrders=true){n k:Nat}{L:CJ}(t:AZ C k L=true):Fe P (HF C n L):=by
 intro f q d p h w args args' v h' g j a b;unfold HF at d;cases i:Hs L f with
 |none=>grind
 |some s=>
  rw[i]at d;cases d;simp only at b;split at b
  case h_1=>rename_i x u;cases b;exact R1 l c m t f s i p h w args args' v h' g j a u
  case h_2=>
   split at b
   case h_2=>cases b
   rename_i x r;refine((ES l c m n).fn f args h _ r p w args' g j a).mono ?_;rintro e w' ⟨v1,A,v',p',o,rfl,z,y⟩;grind
theorem LV{p:Pl}{h:H}{w w':World}(a:R p h w)(c:Go.RowKit.Below w.heap.size w w')(d:w.drawn<=w'.drawn):Ext p h w p h w':=by
 obtain⟨i,e,f,g,j⟩:=c;refine⟨(by simp),⟨a.len,fun b o c=>?_,a.inj⟩,g,ah,ah,i,f,e,ah,d⟩;obtain⟨r,m,y,g1,g2,g3⟩:=a.obj b o c;grind
def BN:List (Nat×O)->PM O->PM O
 |[],m=>m
 |(b,o)::l,m=>BN l<|m.set b<|some o
theorem GX:∀ {l:List (Nat×O)} {m:PM O} {b:Nat} {o:O},(BN l m).get b=some o->(b,o)∈l\/m.get b=some o
 |[],m,b,o,h=>.inr h
 |(c,x)::l,m,b,o,h=>by
  rcases GX (l:=l) h with h1|h1
  ·exact .inl<|zo _ h1
  ·rw[PM.CD]at h1;by_cases e:b=c
   ·rw[wd e]at h1;cases h1;exact .inl<|e▸zm ..
   ·rw[wc e]at h1;exact .inr h1
theorem KO{n:Nat}:∀ {l:List (Nat×O)} {m:PM O} {b:Nat},(l.all fun x=>zn n x.1)=true->b<n->(BN l m).get b=m.get b
 |[],m,b,_,_=>rfl
 |(c,x)::l,m,b,h,d=>by
  rw[List.all_cons,zd]at h;have a:=zk h.1;have a:n<=c:=a;show(BN l<|m.set c<|some x).get b=_;rw[KO h.2 d,PM.CD,wc ae]
structure MY where
 f:FuncId
 a:List V
 foot:List (Nat×O)
 n:Nat
 v:V
 new:List (Nat×O)
 n':Nat
def Yn:O->Bool
 | .cells cs _ _=>V.Fa cs
 |_=>false
def Aa1(x:MY)(y:V×H):Bool:=V.beq y.1 x.v&&zc y.2.nx x.n'&&Up y.2 x.foot&&Up y.2 x.new
def AbK(x:MY)(y:V×H):Bool:=match x.new,y.1 with
 |[(b,o)],.tup (.sl c off len cap e::a)=>V.beq (.tup (.sl b off len cap e::a)) x.v&&V.Fa a&&zc y.2.nx x.n'&&Up y.2 x.foot&&Lp (y.2.get c) (some o)&&Yn o&&zn x.n c&&zx b x.n'&&Up ⟨BN x.foot .leaf,x.n⟩ x.foot&&x.foot.all fun z=>Yn z.2
 |_,_=>false
def myO(x:MY)(y:V×H):Bool:=Aa1 x y||AbK x y
def VA(C:Ctx)(k:Nat)(x:MY):Bool:=(match A5 C k (.fn x.f x.a) ⟨BN x.foot .leaf,x.n⟩with
 |some l=>l.all<|myO x
 |none=>false)&&x.new.all fun y=>zn x.n y.1
def JI(C:Ctx)(k:Nat):List MY->Bool
 |[]=>true
 |x::l=>VA C k x&&JI C k l
def lP:List MY->FuncId->Bool
 |[],_=>false
 |x::l,f=>bif zc x.f f then true else lP l f
def R5:List MY->FuncId->List V->H->Option (V×H)
 |[],_,_,_=>none
 |x::l,f,args,h=>bif zc x.f f&&V.JF x.a args&&zc x.n h.nx&&Up h x.foot then some (x.v,⟨BN x.new h.m,x.n'⟩)else R5 l f args h
def dR(C:Ctx)(k:Nat)(L:List MY):S6:=fun f=>bif lP L f then some fun args h=>match R5 L f args h with
  |some x=>some x
  |none=>match A5 C k (.fn f args) h with
   |some [x]=>some x
   |_=>none
 else none
theorem ZG{p q:Pl}{n:Nat}{o:O}{x:Obj}(b:Yn o=true)(h:Jy p n o x):Jy q n o x:=by
 cases o with
 |cells cs t fz=>
  obtain⟨c,fz',f,g,r,e,j⟩:=h;refine⟨c,fz',f,g,r,⟨e.1,fun i d v e1 e2 e3=>?_⟩,j⟩;have k:d.flat=true:=by
   have b:V.Fa cs=true:=b;have key:∀ {l:List V},V.Fa l=true->∀z∈l,z.flat=true:=by
    intro l;induction l with
    |nil=>intro _ z a;cases a
    |cons y l m=>
     intro h z a;simp only[V.Fa,zd]at h;rcases zy.1 a with rfl|a
     ·exact h.1
     ·exact m h.2 z a
   exact key b d<|List.mem_of_getElem? e1
  exact V.CF k<|e.2 i d v e1 e2 e3
 |_=>cases b
theorem IC{x:MY}{b:Nat}{o:O}(a:H.get ⟨BN x.foot .leaf,x.n⟩ b=some o):(b,o)∈x.foot:=by
 rcases GX (m:=.leaf) a with q|q
 ·exact q
 ·rw[PM.C6]at q;cases q
theorem Te{x:MY}{p p':Pl}{h G:H}{w w':World}(s:R p h w)(T:h.nx=x.n)(v:∀z∈x.foot,h.get z.1=some z.2)(e:Ext p ⟨BN x.foot .leaf,x.n⟩ w p' G w')(O:G.nx=x.n')(M:∀z∈x.foot,G.get z.1=some z.2)(A:∀z∈x.new,G.get z.1=some z.2)(N:(x.new.all fun z=>zn x.n z.1)=true):Ext p h w p' ⟨BN x.new h.m,x.n'⟩ w':=by
 have fo:∀b o,H.get ⟨BN x.foot .leaf,x.n⟩ b=some o->(b,o)∈x.foot:=fun b o a=>by
  rcases GX (m:=.leaf) a with q|q
  ·exact q
  ·rw[PM.C6]at q;cases q
 have lt:∀b o,h.get b=some o->b<x.n:=fun b o a=>by
  obtain⟨r,m,y,k,_,_⟩:=s.obj b o a;rw[<-T, <-s.len];exact(zi.1 k).1
 have out:∀b o,H.get ⟨BN x.new h.m,x.n'⟩ b=some o->(b,o)∈x.new\/h.get b=some o:=fun b o a=>GX a
 have old:∀b,b<x.n->H.get ⟨BN x.new h.m,x.n'⟩ b=h.get b:=fun b a=>KO N a
 obtain⟨q,L⟩:=e.pre;have up:∀b o z,h.get b=some o->p[b]?=some z->p'[b]?=some z:=fun b o z a I=>by
  rw[L,zw (zi.1 I).1];exact I
 have F:∀b o z,h.get b=some o->p'[b]?=some z->p[b]?=some z:=fun b o z a I=>by
  obtain⟨r,m,y,k,_,_⟩:=s.obj b o a;have:=up b o _ a k;rw[I]at this;cases this;exact k
 have S:∀b o,(b,o)∈x.new->x.n<=b:=fun b o a=>zk<|zh.1 N _ a
 have Q:∀b o r n,h.get b=some o->p[b]?=some (r,n)->Im p ⟨BN x.foot .leaf,x.n⟩ r->(b,o)∈x.foot:=fun b o r n a f ⟨b',o',n',u,i2⟩=>by
  have i3:=fo b' o' u;have:=s.inj b b' o o' r n n' a (v _ i3) f i2;subst this;have i4:=v _ i3;simp only at i4;rw[a]at i4;cases i4;exact i3
 have sub:∀r,Im p ⟨BN x.foot .leaf,x.n⟩ r->Im p h r:=fun r ⟨b,o,n,u,i2⟩=>⟨b,o,n,v _<|fo b o u,i2⟩
 have B:∀b b' o o' r n n',h.get b=some o->(b',o')∈x.new->p'[b]?=some (r,n)->p'[b']?=some (r,n')->False:=fun b b' o o' r n n' a d f g=>by
  obtain⟨U,m,y,k,J,_⟩:=s.obj b o a;have D:=F b o _ a f;rw[k]at D;cases D;have j:=(zt.1 J).1;rcases e.im r ⟨b',o',n',A _ d,g⟩with⟨c,z,K,u,i2⟩|i
  ·have i3:=fo c z u;have:=e.rel.inj c b' z o' r K n' (M _ i3) (A _ d) (up c z _ (v _ i3) i2) g;have l1:=lt c z<|v _ i3;have l2:=S b' o' d;omega
  ·omega
 refine⟨e.pre,⟨by rw[e.rel.len,O],fun b o a=>?_,fun b b' o o' r n n' a d f g=>?_⟩,e.size,fun r j l=>e.same r j fun i=>l<|sub r i,fun r l=>?_,e.os,e.out,e.tape,fun r j E=>?_,e.dr⟩
 ·rcases out b o a with a|a
  ·exact e.rel.obj b o<|A _ a
  ·obtain⟨r,m,y,k,J,D⟩:=s.obj b o a;by_cases l:Im p ⟨BN x.foot .leaf,x.n⟩ r
   ·exact e.rel.obj b o<|M _<|Q b o r m a k l
   ·refine⟨r,m,y,up b o _ a k,?_,?_⟩
    ·rw[e.same r (zt.1 J).1 l];exact J
    ·rw[L];exact D.mono q
 ·rcases out b o a with a|a<;>rcases out b' o' d with d|d
  ·exact e.rel.inj b b' o o' r n n' (A _ a) (A _ d) f g
  ·exact(B b' b o' o r n' n d a g f).elim
  ·exact(B b b' o o' r n n' a d f g).elim
  ·exact s.inj b b' o o' r n n' a d (F b o _ a f)<|F b' o' _ d g
 ·obtain⟨b,o,n,a,f⟩:=l;rcases out b o a with a|a
  ·rcases e.im r ⟨b,o,n,A _ a,f⟩with i|i
   ·exact .inl<|sub r i
   ·exact .inr i
  ·exact .inl ⟨b,o,n,a,F b o _ a f⟩
 ·obtain⟨b,n,cs,t,fz,a,f,E⟩:=E;refine⟨?_,.inl ⟨b,n,cs,t,fz,by rw[old b<|lt b _ a];exact a,up b _ _ a f,E⟩⟩;by_cases l:Im p ⟨BN x.foot .leaf,x.n⟩ r
  ·obtain⟨c,z,K,u,i2⟩:=l;have i3:=fo c z u;have:=s.inj b c _ z r n K a (v _ i3) f i2;subst this;have i4:=v _ i3;simp only at i4;rw[a]at i4;cases i4;exact(e.lock r j ⟨b,n,cs,t,fz,u,f,E⟩).1
  ·exact e.same r j l
theorem dK{C:Ctx}(hC:C.Ok P)(hce:DB C)(hm:P.follows .mixedOrders=true){k:Nat}{x:MY}(g:VA C k x=true){p:Pl}{h:H}{w:World}{args':Array Value}(D:R p h w)(hg:Gp p)(ha:Ar p x.a args'.toList)(Q:h.nx=x.n)(E:Up h x.foot=true):
  Calls P x.f args' w fun e w'=>∃v' p',e=.returned v'/\Ab p' x.v v'/\Ext p h w p' ⟨BN x.new h.m,x.n'⟩ w':=by
 unfold VA at g;rw[zd]at g;obtain⟨g,O⟩:=g;split at g
 case h_2=>cases g
 rename_i L he;have E:=HK E;have lt:∀b o,h.get b=some o->b<x.n:=fun b o K=>by
  obtain⟨r,m,y,Z,_,_⟩:=D.obj b o K;rw[<-Q, <-D.len];exact(zi.1 Z).1
 have hr':R p ⟨BN x.foot .leaf,x.n⟩ w:=⟨by rw[D.len,Q],fun b o K=>D.obj b o<|E _<|IC K,fun b b' o o' r n n' K hb'=>D.inj b b' o o' r n n' (E _<|IC K)<|E _<|IC hb'⟩;refine((ES hC hce hm k).fn x.f x.a _ _ he p w args' hr' hg ha).mono ?_;rintro e w' ⟨u,h1,v',p',S,rfl,k1,j⟩;have g:=zh.1 g _ S;unfold myO at g;rw[Bool.or_eq_true]at g;rcases g with g|g
 ·unfold Aa1 at g;simp only[zd]at g;obtain⟨⟨⟨x1,x2⟩,x3⟩,x4⟩:=g;have x1:=V.beq_eq x1;subst x1;exact⟨v',p',rfl,k1,Te D Q E j (zl x2) (HK x3) (HK x4) O⟩
 ·unfold AbK at g;split at g
  case h_2=>cases g
  rename_i b o c off len cap e Y A hu;have hu:u=.tup (.sl c off len cap e::Y):=hu;subst hu;simp only[zd]at g;obtain⟨⟨⟨⟨⟨⟨⟨⟨⟨y1,y2⟩,y3⟩,y4⟩,J⟩,y6⟩,y7⟩,y8⟩,ya⟩,y9⟩:=g;have ya:=HK ya;have y1:=V.beq_eq y1;have y3:=zl y3;have y4:=HK y4;have y7:x.n<=c:=zk y7;have y8:b<x.n':=by simpa [F4]using y8
  have hb0:x.n<=b:=by
   have:=zh.1 O (b,o) (by rw[A];exact zm ..);exact zk this
  have hc:h1.get c=some o:=by
   have J:Lp (h1.get c) (some o)=true:=J;cases U:h1.get c with
   |none=>rw[U]at J;cases J
   |some z=>rw[U]at J;rw[S4 (a:=z) (b:=o)<|by simpa [Lp]using J]
  obtain⟨q,U⟩:=j.pre;have pl:p.length=x.n:=by rw[D.len,Q]
  obtain⟨r,m,y,Z,g2,g3⟩:=j.rel.obj c o hc;have ln:p'.length=x.n':=by rw[j.rel.len];exact y3
  have G:(p'.set b (r,m))[b]?=some (r,m):=by rw[List.getElem?_set_self ae]
  have I:∀z,z≠b->(p'.set b (r,m))[z]?=p'[z]?:=fun z i=>List.getElem?_set_ne ae
  have ft:∀z d,(z,d)∈x.foot->z<x.n:=fun z d i=>lt z d<|E _ i
  have ex:Ext p ⟨BN x.foot .leaf,x.n⟩ w (p'.set b (r,m)) ⟨BN x.new<|BN x.foot .leaf,x.n'⟩ w':=by
   have get:∀z d,H.get ⟨BN x.new<|BN x.foot .leaf,x.n'⟩ z=some d->(z=b/\d=o)\/(z,d)∈x.foot:=fun z d i=>by
    rcases GX i with s|s
    ·rw[A]at s;have:=zu.1 s;cases this;exact .inl ⟨rfl,rfl⟩
    ·exact .inr<|IC s
   have B:∀z d,H.get ⟨BN x.new<|BN x.foot .leaf,x.n'⟩ z=some d->∃F,h1.get F=some d/\(p'.set b (r,m))[z]?=p'[F]?/\Yn d=true/\((z=b/\F=c)\/(z<x.n/\F=z)):=fun z d i=>by
    rcases get z d i with⟨rfl,rfl⟩|s
    ·exact⟨c,hc,by rw[G,Z],y6,.inl ⟨rfl,rfl⟩⟩
    ·have l:=ft z d s;exact⟨z,y4 _ s,I z ae,zh.1 y9 _ s,.inr ⟨l,rfl⟩⟩
   refine⟨⟨q.set (b-p.length) (r,m),by rw[U,List.set_append_right _ _ ae]⟩,⟨by rw[List.length_set,ln],fun z d i=>?_,fun z F d X s n n' i hz' M N=>?_⟩,j.size,j.same,fun s ⟨z,d,n,i,M⟩=>?_,j.os,j.out,j.tape,fun s hlt hl=>?_,j.dr⟩
   ·obtain⟨F,W,T,c3,_⟩:=B z d i;obtain⟨s,n,y,d1,d2,d3⟩:=j.rel.obj F d W;exact⟨s,n,y,by rw[T];exact d1,d2,ZG c3 d3⟩
   ·obtain⟨u,W,T,_,c4⟩:=B z d i;obtain⟨u',d1,d2,_,d4⟩:=B F X hz';rw[T]at M;rw[d2]at N;have:=j.rel.inj u u' d X s n n' W d1 M N;omega
   ·obtain⟨u,W,T,_,_⟩:=B z d i;rw[T]at M;exact j.im s ⟨u,d,n,W,M⟩
   ·refine⟨(j.lock s hlt hl).1,.inl ?_⟩;obtain⟨z,n,cs,t,fz,e1,e2,e3⟩:=hl;have l:=ft z _<|IC e1;refine⟨z,n,cs,t,fz,?_,?_,e3⟩
    ·show(BN x.new<|BN x.foot .leaf).get z=_;rw[KO O l];exact e1
    ·rw[I z ae,U,zw (zi.1 e2).1];exact e2
  refine⟨v',p'.set b (r,m),rfl,?_,Te D Q E ex rfl (fun z i=>?_) (fun z i=>?_) O⟩
  ·rw[<-y1];obtain⟨xs,rfl,h5⟩:=k1;refine⟨xs,rfl,?_⟩;obtain⟨a,AdK,h6,h7,h8⟩:=h5;rw[h6,Ba];refine⟨?_,V.GS y2 h8⟩;obtain⟨s,n,c',i1,i2⟩:=h7;exact⟨s,n,c',by rw[G, <-Z];exact i1,i2⟩
  ·show(BN x.new<|BN x.foot .leaf).get z.1=_;rw[KO O<|ft z.1 z.2 i];exact ya z i
  ·show(BN x.new<|BN x.foot .leaf).get z.1=_;rw[A]at i ⊢;rw[zu.1 i];show((BN x.foot .leaf).set b<|some o).get b=_;rw[PM.CD,wd rfl]
theorem W9{C:Ctx}{k:Nat}:∀ {L:List MY} {f:FuncId} {args:List V} {h:H} {r:V×H},JI C k L=true->R5 L f args h=some r->∃x:MY,VA C k x=true/\x.f=f/\x.a=args/\h.nx=x.n/\Up h x.foot=true/\r=(x.v,⟨BN x.new h.m,x.n'⟩)
 |x::L,f,args,h,r,d,b=>by
  simp only[JI,zd]at d;unfold R5 at b;cases c:(zc x.f f&&V.JF x.a args&&zc x.n h.nx&&Up h x.foot)with
  |false=>rw[c]at b;exact W9 d.2 b
  |true=>
   rw[c]at b;cases b;simp only[zd]at c;obtain⟨⟨⟨j,e⟩,i⟩,g⟩:=c;exact⟨x,d.1,zl j,V.FX e,(zl i).symm,g,rfl⟩
theorem fM{C:Ctx}(m:C.Ok P)(d:DB C)(n:P.follows .mixedOrders=true){k:Nat}{L:List MY}(A:JI C k L=true):Fe P (dR C k L):=by
 intro f q c p h w args args' v F i l b a;unfold dR at c;cases j:lP L f with
 |false=>rw[j]at c;cases c
 |true=>
  rw[j]at c;cases c;simp only at a;split at a
  case h_1=>
   rename_i x B;cases a;obtain⟨y,D,rfl,rfl,s,z,t⟩:=W9 A B;cases t;exact dK m d n D i l b s z
  case h_2=>
   split at a
   case h_2=>cases a
   rename_i x o;cases a;refine((ES m d n k).fn f args h _ o p w args' i l b).mono ?_;rintro e w' ⟨v1,E,v',p',g,rfl,u,r⟩;cases zu.1 g;exact⟨v',p',rfl,u,r⟩
end
section
variable {C:Ctx}
def wD(C:Ctx):Ctx:=⟨C.T,C.ng,C.fn,C.prim,C.spec,false⟩
theorem mX{P:Program}(h:C.Ok P):(wD C).Ok P where
 T:=h.T
 fn:=h.fn
 prim:=h.prim
 spec:=h.spec
theorem WE(h:DB C):DB (wD C):=h
def gT(id:Nat):Code->Bool
 | .block i _=>zc i id
 | .seq _ b=>gT id b
 |_=>false
def QZ(j N:Nat):Nat->List X->List X
 |_,[]=>[]
 |q,x::l=>bif zc (Nat.mod q N) j then x::QZ j N (zg q 1) l else QZ j N (zg q 1) l
theorem Qv{N:Nat}(b:0<N):∀ {l:List X} (q:Nat) {x:X},x∈l->∃j,j<N/\x∈QZ j N q l
 |y::l,q,x,h=>by
  rcases zy.1 h with rfl|h
  ·refine⟨q % N,Nat.mod_lt _ b,?_⟩;unfold QZ;rw[show zc (Nat.mod q N) (q % N)=true from Nat.beq_refl _];exact zm ..
  ·obtain⟨j,c,a⟩:=Qv b (q+1) h;refine⟨j,c,?_⟩;unfold QZ;cases zc (Nat.mod q N) j with
   |true=>exact zo _ a
   |false=>exact a
def dI(C:Ctx)(call:CX)(ct:Bool)(id j N:Nat):Nat->Code->Fr->H->List Nat->Option (List X)
 |0,_,_,_,_=>none
 |m+1,c,fr,h,ds=>
  match c with
  | .seq a b=>match Bj C call none ct m a fr h ds with
   |some l=>bif gT id a then(bl (QZ j N 0 l) fun x=>match x.e with
     | .normal=>Bj C call none ct m b x.fr x.h x.ds
     |_=>some [x])
    else(bl l fun x=>match x.e with
     | .normal=>dI C call ct id j N m b x.fr x.h x.ds
     |_=>some [x])
   |none=>none
  |c=>Bj C call none ct (m+1) c fr h ds
theorem eA{α b:Type}{G:b->Prop}{f:α->Option (List b)}:∀ {l:List α},(∀x∈l,∃r,f x=some r/\∀y∈r,G y)->∃r,bl l f=some r/\∀y∈r,G y
 |[],_=>⟨[],rfl,fun y a=>by cases a⟩
 |x::l,h=>by
  obtain⟨r,d,c⟩:=h x<|zm ..;obtain⟨s,h3,h4⟩:=eA (l:=l) fun y a=>h y<|zo _ a
  cases l with
  |nil=>exact⟨r,by simp only[bl,d],c⟩
  |cons z l=>
   refine⟨r++s,?_,fun y a=>?_⟩
   ·rw[bl,d];simp only[h3]
   ·rcases List.mem_append.1 a with a|a
    ·exact c y a
    ·exact h4 y a
theorem lF{call:CX}{ct:Bool}{id N:Nat}{G:X->Prop}(g:0<N):∀(m:Nat) (c:Code) (fr:Fr) (h:H) (ds:List Nat),
  (∀j,j<N->∃l,dI C call ct id j N m c fr h ds=some l/\∀x∈l,G x)->∃l,Bj C call none ct m c fr h ds=some l/\∀x∈l,G x
 |0,c,fr,h,ds,d=>by
  obtain⟨l,o,_⟩:=d 0 g;cases o
 |m+1,c,fr,h,ds,d=>by
  cases c with
  |seq a b=>
   simp only[dI]at d;simp only[Bj];cases u:Bj C call none ct m a fr h ds with
   |none=>
    obtain⟨l,o,_⟩:=d 0 g;rw[u]at o;cases o
   |some l=>
    simp only[u]at d;refine eA fun x p=>?_
    cases t:gT id a with
    |true=>
     simp only[t,we]at d;obtain⟨j,o,w⟩:=Qv g 0 p;obtain⟨r,k,f⟩:=d j o;obtain⟨s,h5,h6⟩:=E8 k x w;exact⟨s,h5,fun y n=>f y<|h6 y n⟩
    |false=>
     simp only[t,wg]at d;cases q:x.e with
     |normal=>
      simp only;refine lF (id:=id) g m b x.fr x.h x.ds fun j v=>?_
      obtain⟨r,k,f⟩:=d j v;obtain⟨s,h5,h6⟩:=E8 k x p;simp only[q]at h5;exact⟨s,h5,fun y n=>f y<|h6 y n⟩
     |exit i=>
      obtain⟨r,k,f⟩:=d 0 g;obtain⟨s,h5,h6⟩:=E8 k x p;simp only[q]at h5;exact⟨s,h5,fun y n=>f y<|h6 y n⟩
     |ret=>
      obtain⟨r,k,f⟩:=d 0 g;obtain⟨s,h5,h6⟩:=E8 k x p;simp only[q]at h5;exact⟨s,h5,fun y n=>f y<|h6 y n⟩
  |_=>exact d 0 g
def wE(C:Ctx)(i:Fn)(x:X):Option (List<|V×H):=match x.e with
 | .exit _=>none
 |_=>match FF x.ds x.h with
  |some a=>match Oo C x.fr a i.results.toList with
   |some v=>some [(v,a)]
   |none=>none
  |none=>none
def kI(C:Ctx)(i:Fn)(y:MY)(x:X):Bool:=match wE C i x with
 |some l=>l.all<|myO y
 |none=>false
def tT(C:Ctx)(k:Nat)(y:MY)(id j N:Nat):Bool:=match C.fn y.f with
 |some i=>(match dI C (A5 C k) i.cert id j N k i.body (JV i.ntmps y.a) ⟨BN y.foot .leaf,y.n⟩ []with
  |some l=>l.all<|kI C i y
  |none=>false)
 |none=>false
theorem AaQ{k:Nat}{y:MY}{id N:Nat}(s:C.mg=false)(w:C.spec y.f=none)(e:0<N)(h:∀j,j<N->tT C k y id j N=true)(b:(y.new.all fun z=>zn y.n z.1)=true):VA C (k+1) y=true:=by
 unfold VA;rw[b,Bool.and_true,A5];simp only[w];unfold tT at h;cases d:C.fn y.f with
 |none=>
  have:=h 0 e;rw[d]at this;cases this
 |some i=>
  simp only[d]at h;obtain⟨l,B,p⟩:=lF (C:=C) (G:=fun x=>kI C i y x=true) e k i.body (JV i.ntmps y.a) ⟨BN y.foot .leaf,y.n⟩ [] fun j o=>by
   have g:=h j o;split at g
   ·next l v=>exact⟨l,v,fun x c=>zh.1 g x c⟩
   ·cases g
  have A:∃r,bl l (wE C i)=some r/\∀z∈r,myO y z=true:=eA fun x c=>by
   have g:=p x c;unfold kI at g;split at g
   ·next r q=>exact⟨r,q,fun z m=>zh.1 g z m⟩
   ·cases g
  obtain⟨r,u,t⟩:=A;simp only[B];refine(show(match (match bl l (wE C i)with
   |some r=>some<|bif C.mg then Mu y.n r else r
   |none=>none)with
   |some l=>l.all<|myO y
   |none=>false)=true from ?_)
  rw[u];simp only[s,wg];exact zh.2 t
end
section
open Go.Proofs.Tryz (prog)
def Au(n d:Int):V:=.agg [.int .i64 n,.nils,.int .i64 d,.nils]
def MA0:CJ:=[(61,[.str [55,50]],.int .i64<|0),
 (41,[.str [55,50]],Au (72) 1),
 (64,[Au (72) 1,Au (1) 1],.int .i64<|1),
 (64,[Au (72) 1,Au (200) 1],.int .i64<| -1),
 (47,[Au (85) 1,Au (72) 1],Au (13) 1),
 (42,[Au (13) 1,Au (100) 1],Au (1300) 1),
 (44,[Au (1300) 1,Au (120) 1],Au (65) 6),
 (42,[Au (65) 6,Au (10) 1],Au (325) 3),
 (44,[Au (1) 1,Au (2) 1],Au (1) 2)]
theorem wZ:AZ C7 1000 MA0=true:=by kernel_rfl
def MA1:CJ:=[(46,[Au (325) 3,Au (1) 2],Au (653) 6),
 (165,[Au (653) 6],.agg [.int .i64<|108,.nils]),
 (95,[.agg [.int .i64<|108,.nils],.agg [.int .i64<|10,.nils]],Au (54) 5),
 (80,[Au (54) 5],.str [53,52,47,53]),
 (47,[Au (90) 1,Au (72) 1],Au (18) 1),
 (42,[Au (18) 1,Au (100) 1],Au (1800) 1),
 (44,[Au (1800) 1,Au (120) 1],Au (15) 1),
 (42,[Au (15) 1,Au (10) 1],Au (150) 1),
 (46,[Au (150) 1,Au (1) 2],Au (301) 2)]
theorem zD:AZ C7 1000 MA1=true:=by kernel_rfl
def MA2:CJ:=[(165,[Au (301) 2],.agg [.int .i64<|150,.nils]),
 (95,[.agg [.int .i64<|150,.nils],.agg [.int .i64<|10,.nils]],Au (15) 1),
 (47,[Au (95) 1,Au (72) 1],Au (23) 1),
 (42,[Au (23) 1,Au (100) 1],Au (2300) 1),
 (44,[Au (2300) 1,Au (120) 1],Au (115) 6),
 (42,[Au (115) 6,Au (10) 1],Au (575) 3),
 (46,[Au (575) 3,Au (1) 2],Au (1153) 6),
 (165,[Au (1153) 6],.agg [.int .i64<|192,.nils]),
 (95,[.agg [.int .i64<|192,.nils],.agg [.int .i64<|10,.nils]],Au (96) 5)]
theorem xY:AZ C7 1000 MA2=true:=by kernel_rfl
def MA3:CJ:=[(44,[Au (-3) 1,Au (2) 1],Au (-3) 2),
 (47,[Au (54) 5,Au (0) 1],Au (54) 5),
 (47,[Au (96) 5,Au (0) 1],Au (96) 5),
 (64,[Au (54) 5,Au (96) 5],.int .i64<| -1),
 (47,[Au (15) 1,Au (0) 1],Au (15) 1),
 (64,[Au (15) 1,Au (96) 5],.int .i64<| -1),
 (64,[Au (15) 1,Au (54) 5],.int .i64<|1),
 (46,[Au (0) 1,Au (54) 5],Au (54) 5),
 (44,[Au (54) 5,Au (1) 1],Au (54) 5)]
theorem yP:AZ C7 1000 MA3=true:=by kernel_rfl
def MA4:CJ:=[(46,[Au (54) 5,Au (-3) 2],Au (93) 10),
 (64,[Au (93) 10,Au (60) 1],.int .i64<| -1),
 (42,[Au (93) 10,Au (10) 1],Au (93) 1),
 (46,[Au (93) 1,Au (1) 2],Au (187) 2),
 (165,[Au (187) 2],.agg [.int .i64<|93,.nils]),
 (95,[.agg [.int .i64<|93,.nils],.agg [.int .i64<|10,.nils]],Au (93) 10),
 (80,[Au (15) 1],.str [49,53]),
 (80,[Au (0) 1],.str [48]),
 (80,[Au (96) 5],.str [57,54,47,53])]
theorem yH:AZ C7 1000 MA4=true:=by kernel_rfl
def MA5:CJ:=[(80,[Au (93) 10],.str [57,51,47,49,48]),
 (47,[Au (73) 1,Au (72) 1],Au (1) 1),
 (42,[Au (1) 1,Au (100) 1],Au (100) 1),
 (44,[Au (100) 1,Au (120) 1],Au (5) 6),
 (42,[Au (5) 6,Au (10) 1],Au (25) 3),
 (46,[Au (25) 3,Au (1) 2],Au (53) 6),
 (165,[Au (53) 6],.agg [.int .i64<|8,.nils]),
 (95,[.agg [.int .i64<|8,.nils],.agg [.int .i64<|10,.nils]],Au (4) 5),
 (47,[Au (93) 10,Au (4) 5],Au (17) 2)]
theorem vS:AZ C7 1000 MA5=true:=by kernel_rfl
def MA6:CJ:=[(64,[Au (17) 2,Au (10) 1],.int .i64<| -1),
 (64,[Au (17) 2,Au (7) 1],.int .i64<|1),
 (44,[Au (-2) 1,Au (2) 1],Au (-1) 1),
 (47,[Au (96) 5,Au (1) 1],Au (91) 5),
 (47,[Au (4) 5,Au (1) 1],Au (-1) 5),
 (64,[Au (91) 5,Au (-1) 5],.int .i64<|1),
 (47,[Au (54) 5,Au (1) 1],Au (49) 5),
 (64,[Au (49) 5,Au (91) 5],.int .i64<| -1),
 (64,[Au (49) 5,Au (-1) 5],.int .i64<|1)]
theorem wA:AZ C7 1000 MA6=true:=by kernel_rfl
def MA7:CJ:=[(47,[Au (15) 1,Au (1) 1],Au (14) 1),
 (64,[Au (14) 1,Au (91) 5],.int .i64<| -1),
 (64,[Au (14) 1,Au (49) 5],.int .i64<|1),
 (46,[Au (0) 1,Au (-1) 5],Au (-1) 5),
 (44,[Au (-1) 5,Au (1) 1],Au (-1) 5),
 (46,[Au (-1) 5,Au (-1) 1],Au (-6) 5),
 (46,[Au (93) 10,Au (3) 1],Au (123) 10),
 (64,[Au (-6) 5,Au (123) 10],.int .i64<| -1),
 (64,[Au (-6) 5,Au (60) 1],.int .i64<| -1)]
theorem xV:AZ C7 1000 MA7=true:=by kernel_rfl
def MA8:CJ:=[(42,[Au (-6) 5,Au (10) 1],Au (-12) 1),
 (46,[Au (-12) 1,Au (1) 2],Au (-23) 2),
 (165,[Au (-23) 2],.agg [.int .i64<| -12,.nils]),
 (95,[.agg [.int .i64<| -12,.nils],.agg [.int .i64<|10,.nils]],Au (-6) 5),
 (80,[Au (4) 5],.str [52,47,53]),
 (80,[Au (-6) 5],.str [45,54,47,53]),
 (47,[Au (91) 1,Au (72) 1],Au (19) 1),
 (42,[Au (19) 1,Au (100) 1],Au (1900) 1),
 (44,[Au (1900) 1,Au (120) 1],Au (95) 6)]
theorem wL:AZ C7 1000 MA8=true:=by kernel_rfl
def MA9:CJ:=[(42,[Au (95) 6,Au (10) 1],Au (475) 3),
 (46,[Au (475) 3,Au (1) 2],Au (953) 6),
 (165,[Au (953) 6],.agg [.int .i64<|158,.nils]),
 (95,[.agg [.int .i64<|158,.nils],.agg [.int .i64<|10,.nils]],Au (79) 5),
 (47,[Au (79) 5,Au (0) 1],Au (79) 5),
 (64,[Au (79) 5,Au (96) 5],.int .i64<| -1),
 (64,[Au (15) 1,Au (79) 5],.int .i64<| -1),
 (46,[Au (0) 1,Au (15) 1],Au (15) 1),
 (44,[Au (15) 1,Au (1) 1],Au (15) 1)]
theorem xQ:AZ C7 1000 MA9=true:=by kernel_rfl
def Aaz:CJ:=[(46,[Au (15) 1,Au (-3) 2],Au (27) 2),
 (64,[Au (27) 2,Au (60) 1],.int .i64<| -1),
 (42,[Au (27) 2,Au (10) 1],Au (135) 1),
 (46,[Au (135) 1,Au (1) 2],Au (271) 2),
 (165,[Au (271) 2],.agg [.int .i64<|135,.nils]),
 (95,[.agg [.int .i64<|135,.nils],.agg [.int .i64<|10,.nils]],Au (27) 2),
 (47,[Au (27) 2,Au (4) 5],Au (127) 10),
 (64,[Au (127) 10,Au (10) 1],.int .i64<|1),
 (47,[Au (96) 5,Au (2) 1],Au (86) 5)]
theorem qE:AZ C7 1000 Aaz=true:=by kernel_rfl
def AaC:CJ:=[(47,[Au (4) 5,Au (2) 1],Au (-6) 5),
 (64,[Au (86) 5,Au (-6) 5],.int .i64<|1),
 (47,[Au (79) 5,Au (2) 1],Au (69) 5),
 (64,[Au (69) 5,Au (86) 5],.int .i64<| -1),
 (64,[Au (69) 5,Au (-6) 5],.int .i64<|1),
 (47,[Au (15) 1,Au (2) 1],Au (13) 1),
 (64,[Au (13) 1,Au (86) 5],.int .i64<| -1),
 (64,[Au (13) 1,Au (69) 5],.int .i64<| -1),
 (64,[Au (13) 1,Au (-6) 5],.int .i64<|1)]
theorem nH:AZ C7 1000 AaC=true:=by kernel_rfl
def AaO:CJ:=[(46,[Au (0) 1,Au (-6) 5],Au (-6) 5),
 (44,[Au (-6) 5,Au (1) 1],Au (-6) 5),
 (46,[Au (-6) 5,Au (-1) 1],Au (-11) 5),
 (46,[Au (27) 2,Au (3) 1],Au (33) 2),
 (64,[Au (-11) 5,Au (33) 2],.int .i64<| -1),
 (64,[Au (-11) 5,Au (60) 1],.int .i64<| -1),
 (42,[Au (-11) 5,Au (10) 1],Au (-22) 1),
 (46,[Au (-22) 1,Au (1) 2],Au (-43) 2),
 (165,[Au (-43) 2],.agg [.int .i64<| -22,.nils])]
theorem rY:AZ C7 1000 AaO=true:=by kernel_rfl
def Abf:CJ:=[(95,[.agg [.int .i64<| -22,.nils],.agg [.int .i64<|10,.nils]],Au (-11) 5),
 (80,[Au (79) 5],.str [55,57,47,53]),
 (80,[Au (27) 2],.str [50,55,47,50]),
 (80,[Au (-11) 5],.str [45,49,49,47,53]),
 (61,[.str [57,51,47,49,48]],.int .i64<|0),
 (41,[.str [57,51,47,49,48]],Au (93) 10),
 (64,[Au (93) 10,Au (-20) 1],.int .i64<|1),
 (42,[Au (93) 10,Au (120) 1],Au (1116) 1),
 (44,[Au (1116) 1,Au (100) 1],Au (279) 25)]
theorem qB:AZ C7 1000 Abf=true:=by kernel_rfl
def Aa4:CJ:=[(46,[Au (279) 25,Au (72) 1],Au (2079) 25),
 (47,[Au (2079) 25,Au (71) 1],Au (304) 25),
 (42,[Au (304) 25,Au (1) 1],Au (304) 25),
 (46,[Au (304) 25,Au (1) 2],Au (633) 50),
 (165,[Au (633) 50],.agg [.int .i64<|12,.nils]),
 (95,[.agg [.int .i64<|12,.nils],.agg [.int .i64<|1,.nils]],Au (12) 1),
 (44,[Au (1140) 1,Au (100) 1],Au (57) 5),
 (42,[Au (57) 5,Au (1) 1],Au (57) 5),
 (46,[Au (57) 5,Au (1) 2],Au (119) 10)]
theorem qD:AZ C7 1000 Aa4=true:=by kernel_rfl
def zZ:CJ:=[(165,[Au (119) 10],.agg [.int .i64<|11,.nils]),
 (95,[.agg [.int .i64<|11,.nils],.agg [.int .i64<|1,.nils]],Au (11) 1),
 (44,[Au (650) 1,Au (100) 1],Au (13) 2),
 (42,[Au (13) 2,Au (1) 1],Au (13) 2),
 (46,[Au (13) 2,Au (1) 2],Au (7) 1),
 (165,[Au (7) 1],.agg [.int .i64<|7,.nils]),
 (95,[.agg [.int .i64<|7,.nils],.agg [.int .i64<|1,.nils]],Au (7) 1),
 (61,[.str [49]],.int .i64<|0),
 (41,[.str [49]],Au (1) 1)]
theorem lY:AZ C7 1000 zZ=true:=by kernel_rfl
def AaG:CJ:=[(61,[.str [50]],.int .i64<|0),
 (41,[.str [50]],Au (2) 1),
 (61,[.str [51]],.int .i64<|0),
 (41,[.str [51]],Au (3) 1),
 (61,[.str [52]],.int .i64<|0),
 (41,[.str [52]],Au (4) 1),
 (61,[.str [53]],.int .i64<|0),
 (41,[.str [53]],Au (5) 1),
 (64,[Au (2) 1,Au (1) 1],.int .i64<|1)]
theorem oJ:AZ C7 1000 AaG=true:=by kernel_rfl
def Aau:CJ:=[(64,[Au (2) 1,Au (2) 1],.int .i64<|0),
 (64,[Au (3) 1,Au (2) 1],.int .i64<|1),
 (64,[Au (3) 1,Au (3) 1],.int .i64<|0),
 (64,[Au (4) 1,Au (3) 1],.int .i64<|1),
 (64,[Au (5) 1,Au (4) 1],.int .i64<|1),
 (64,[Au (5) 1,Au (5) 1],.int .i64<|0),
 (46,[Au (3) 1,Au (3) 1],Au (6) 1),
 (44,[Au (6) 1,Au (2) 1],Au (3) 1),
 (64,[Au (3) 1,Au (-1) 1],.int .i64<|1)]
theorem mP:AZ C7 1000 Aau=true:=by kernel_rfl
def Aax:CJ:=[(42,[Au (3) 1,Au (1) 1],Au (3) 1),
 (46,[Au (3) 1,Au (1) 2],Au (7) 2),
 (165,[Au (7) 2],.agg [.int .i64<|3,.nils]),
 (95,[.agg [.int .i64<|3,.nils],.agg [.int .i64<|1,.nils]],Au (3) 1)]
theorem oT:AZ C7 1000 Aax=true:=by kernel_rfl
def MA:CJ:=(MA0++(MA1++(MA2++(MA3++(MA4++(MA5++(MA6++(MA7++(MA8++(MA9++(Aaz++(AaC++(AaO++(Abf++(Aa4++(zZ++(AaG++(Aau++Aax))))))))))))))))))
theorem sp1:Fe prog (HF C7 1000 MA):=L0 Of FB Gw<|AQ wZ<|AQ zD<|AQ xY<|AQ yP<|AQ yH<|AQ vS<|AQ wA<|AQ xV<|AQ wL<|AQ xQ<|AQ qE<|AQ nH<|AQ rY<|AQ qB<|AQ qD<|AQ lY<|AQ oJ<|AQ mP oT
def xR:Ctx:=NV C7<|HF C7 1000 MA
theorem xL:xR.Ok prog:=IB Of sp1
theorem ZY:DB xR:=EL FB _
def MB0:CJ:=[(39,[.str [55,50],.int .i64<|1,.int .i64<|200],.int .i64<|0),
 (99,[Au (65) 6,.int .i64<|10],Au (54) 5),
 (99,[Au (15) 1,.int .i64<|10],Au (15) 1),
 (99,[Au (115) 6,.int .i64<|10],Au (96) 5),
 (99,[Au (93) 10,.int .i64<|10],Au (93) 10),
 (99,[Au (5) 6,.int .i64<|10],Au (4) 5)]
theorem xH:AZ xR 1000 MB0=true:=by kernel_rfl
def MB1:CJ:=[(99,[Au (-6) 5,.int .i64<|10],Au (-6) 5),
 (99,[Au (95) 6,.int .i64<|10],Au (79) 5),
 (99,[Au (27) 2,.int .i64<|10],Au (27) 2),
 (99,[Au (-11) 5,.int .i64<|10],Au (-11) 5),
 (39,[.str [57,51,47,49,48],.int .i64<| -20,.int .i64<|60],.int .i64<|0),
 (99,[Au (304) 25,.int .i64<|1],Au (12) 1)]
theorem yW:AZ xR 1000 MB1=true:=by kernel_rfl
def MB2:CJ:=[(99,[Au (57) 5,.int .i64<|1],Au (11) 1),
 (99,[Au (13) 2,.int .i64<|1],Au (7) 1),
 (99,[Au (3) 1,.int .i64<|1],Au (3) 1)]
theorem yV:AZ xR 1000 MB2=true:=by kernel_rfl
def MB:CJ:=(MB0++(MB1++MB2))
theorem sp2:Fe prog (HF xR 1000 MB):=L0 xL ZY Gw<|AQ xH<|AQ yW yV
def S72:S6:=cQ (HF xR 1000 MB)<|HF C7 1000 MA
theorem bU:Fe prog S72:=Hm sp2 sp1
def xB:Ctx:=NV C7 S72
theorem wO:xB.Ok prog:=IB Of bU
theorem ZD:DB xB:=EL FB _
def MC0:CJ:=[(78,[.agg [.int .i64<|10,.int .i64<|1,.int .i64<|90,.str [55,50],.int .i64<|120,.int .i64<|0]],.int .i64<|0),
 (78,[.agg [.int .i64<|20,.int .i64<|2,.int .i64<|85,.str [55,50],.int .i64<|120,.int .i64<|0]],.int .i64<|0),
 (78,[.agg [.int .i64<|30,.int .i64<|3,.int .i64<|95,.str [55,50],.int .i64<|120,.int .i64<|0]],.int .i64<|0),
 (78,[.agg [.int .i64<|40,.int .i64<|4,.int .i64<|73,.str [55,50],.int .i64<|120,.int .i64<|0]],.int .i64<|0),
 (78,[.agg [.int .i64<|20,.int .i64<|2,.int .i64<|91,.str [55,50],.int .i64<|120,.int .i64<|0]],.int .i64<|0),
 (79,[.agg [.int .i64<|20,.int .i64<|2,.int .i64<|85,.str [55,50],.int .i64<|120,.int .i64<|0]],Au (54) 5)]
theorem vM:AZ xB 1000 MC0=true:=by kernel_rfl
def MC1:CJ:=[(79,[.agg [.int .i64<|10,.int .i64<|1,.int .i64<|90,.str [55,50],.int .i64<|120,.int .i64<|0]],Au (15) 1),
 (79,[.agg [.int .i64<|30,.int .i64<|3,.int .i64<|95,.str [55,50],.int .i64<|120,.int .i64<|0]],Au (96) 5),
 (79,[.agg [.int .i64<|40,.int .i64<|4,.int .i64<|73,.str [55,50],.int .i64<|120,.int .i64<|0]],Au (4) 5),
 (79,[.agg [.int .i64<|20,.int .i64<|2,.int .i64<|91,.str [55,50],.int .i64<|120,.int .i64<|0]],Au (79) 5),
 (45,[Au (304) 25],.int .i64<|12),
 (45,[Au (57) 5],.int .i64<|11)]
theorem xU:AZ xB 1000 MC1=true:=by kernel_rfl
def MC2:CJ:=[(45,[Au (13) 2],.int .i64<|7),
 (45,[Au (3) 1],.int .i64<|3)]
theorem yL:AZ xB 1000 MC2=true:=by kernel_rfl
def MC:CJ:=(MC0++(MC1++MC2))
theorem sp3:Fe prog (HF xB 1000 MC):=L0 wO ZD Gw<|AQ vM<|AQ xU yL
def S73:S6:=cQ (HF xB 1000 MC) S72
theorem Ve:Fe prog S73:=Hm sp3 bU
def VE:Ctx:=NV C7 S73
theorem VT:VE.Ok prog:=IB Of Ve
theorem LR:DB VE:=EL FB _
end
end Go.Det
