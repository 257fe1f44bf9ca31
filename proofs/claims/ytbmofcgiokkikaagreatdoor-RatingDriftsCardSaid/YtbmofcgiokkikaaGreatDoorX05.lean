import Derived.Test.YtbmofcgiokkikaaGreatDoorX04
import Derived.Shelf.SlSortCmp.WholeK
import Derived.Below
/- A part of a proof; no law is stated here. -/
noncomputable section
open Nat renaming beq -> zc, add -> zf, blt -> zn, ble -> zq, mul -> zt
open Int renaming mul_le_mul_of_nonneg_left -> zd, toNat -> ze, pow_succ -> zh, add_mul_emod_self_left -> zj, mul_comm -> zr
open BitVec renaming ofInt -> zg
open List renaming replicate -> zi, cons_append -> zk, drop_eq_nil_of_le -> zm
open Bool renaming and_eq_true -> zl
open Go.Op renaming bytesLess -> zo
open Go.Utf8 renaming decode -> zp
namespace Go.Det
open Go.Proofs Go.Sort
def jK:Go.Shelf.Ren:=⟨fun|6=>156|15=>194|14=>193|28=>228|29=>229|20=>220|21=>221|22=>222|23=>223|24=>224|25=>225|26=>226|27=>227|46=>249|47=>250|48=>251|49=>252|50=>253|57=>279|n=>n,fun|22=>133|24=>117|25=>197|3=>3|39=>233|0=>0|53=>264|55=>217|4=>4|46=>258|45=>257|50=>131|5=>5|9=>9|66=>277|70=>281|76=>310|77=>311|n=>n,fun|n=>n⟩
theorem Ahc:Go.Proofs.SlLaysF0.n6 Go.Proofs.Tryz.prog jK:=
 {mixed:=by kernel_rfl,
  f6:=⟨Go.Proofs.Tryz.f156.name,by kernel_rfl,Go.Proofs.Tryz.func156.trans<|wi some ag⟩,
  f14:=⟨Go.Proofs.Tryz.f193.name,by kernel_rfl,Go.Proofs.Tryz.func193.trans<|wi some ag⟩,
  f15:=Go.Proofs.Tryz.func194.trans (wi some ag),
  f20:=⟨Go.Proofs.Tryz.f220.name,by kernel_rfl,Go.Proofs.Tryz.func220.trans<|wi some ag⟩,
  f21:=⟨Go.Proofs.Tryz.f221.name,by kernel_rfl,Go.Proofs.Tryz.func221.trans<|wi some ag⟩,
  f22:=⟨Go.Proofs.Tryz.f222.name,by kernel_rfl,Go.Proofs.Tryz.func222.trans<|wi some ag⟩,
  f23:=⟨Go.Proofs.Tryz.f223.name,by kernel_rfl,Go.Proofs.Tryz.func223.trans<|wi some ag⟩,
  f24:=⟨Go.Proofs.Tryz.f224.name,by kernel_rfl,Go.Proofs.Tryz.func224.trans<|wi some ag⟩,
  f25:=⟨Go.Proofs.Tryz.f225.name,by kernel_rfl,Go.Proofs.Tryz.func225.trans<|wi some ag⟩,
  f26:=⟨Go.Proofs.Tryz.f226.name,by kernel_rfl,Go.Proofs.Tryz.func226.trans<|wi some ag⟩,
  f27:=⟨Go.Proofs.Tryz.f227.name,by kernel_rfl,Go.Proofs.Tryz.func227.trans<|wi some ag⟩,
  f28:=Go.Proofs.Tryz.func228.trans (wi some ag),
  f29:=Go.Proofs.Tryz.func229.trans (wi some ag),
  f46:=⟨Go.Proofs.Tryz.f249.name,by kernel_rfl,Go.Proofs.Tryz.func249.trans<|wi some ag⟩,
  f47:=Go.Proofs.Tryz.func250.trans (wi some ag),
  f48:=Go.Proofs.Tryz.func251.trans (wi some ag),
  f49:=⟨Go.Proofs.Tryz.f252.name,by kernel_rfl,Go.Proofs.Tryz.func252.trans<|wi some ag⟩,
  f50:=⟨Go.Proofs.Tryz.f253.name,by kernel_rfl,Go.Proofs.Tryz.func253.trans<|wi some ag⟩,
  f57:=⟨Go.Proofs.Tryz.f279.name,by kernel_rfl,Go.Proofs.Tryz.func279.trans<|wi some ag⟩,
  t0:=Go.Proofs.Tryz.underlying0,
  a0:=Go.Proofs.Tryz.isAgg0,
  z0:=Go.Proofs.Tryz.sizeOf0,
  v0:=Go.Proofs.Tryz.zeroValue0,
  t3:=Go.Proofs.Tryz.underlying3,
  a3:=Go.Proofs.Tryz.isAgg3,
  z3:=Go.Proofs.Tryz.sizeOf3,
  v3:=Go.Proofs.Tryz.zeroValue3,
  t4:=Go.Proofs.Tryz.underlying4,
  a4:=Go.Proofs.Tryz.isAgg4,
  z4:=Go.Proofs.Tryz.sizeOf4,
  v4:=Go.Proofs.Tryz.zeroValue4,
  t5:=Go.Proofs.Tryz.underlying5,
  a5:=Go.Proofs.Tryz.isAgg5,
  z5:=Go.Proofs.Tryz.sizeOf5,
  v5:=Go.Proofs.Tryz.zeroValue5,
  t9:=Go.Proofs.Tryz.underlying9,
  a9:=Go.Proofs.Tryz.isAgg9,
  z9:=Go.Proofs.Tryz.sizeOf9,
  v9:=Go.Proofs.Tryz.zeroValue9,
  t22:=Go.Proofs.Tryz.underlying133,
  a22:=Go.Proofs.Tryz.isAgg133,
  z22:=Go.Proofs.Tryz.sizeOf133,
  v22:=Go.Proofs.Tryz.zeroValue133,
  t25:=Go.Proofs.Tryz.underlying197,
  a25:=Go.Proofs.Tryz.isAgg197,
  z25:=Go.Proofs.Tryz.sizeOf197,
  v25:=Go.Proofs.Tryz.zeroValue197,
  t39:=Go.Proofs.Tryz.underlying233,
  a39:=Go.Proofs.Tryz.isAgg233,
  z39:=Go.Proofs.Tryz.sizeOf233,
  v39:=Go.Proofs.Tryz.zeroValue233,
  t45:=Go.Proofs.Tryz.underlying257,
  a45:=Go.Proofs.Tryz.isAgg257,
  z45:=Go.Proofs.Tryz.sizeOf257,
  v45:=Go.Proofs.Tryz.zeroValue257,
  t46:=Go.Proofs.Tryz.underlying258,
  a46:=Go.Proofs.Tryz.isAgg258,
  z46:=Go.Proofs.Tryz.sizeOf258,
  v46:=Go.Proofs.Tryz.zeroValue258,
  t50:=Go.Proofs.Tryz.underlying131,
  a50:=Go.Proofs.Tryz.isAgg131,
  z50:=Go.Proofs.Tryz.sizeOf131,
  v50:=Go.Proofs.Tryz.zeroValue131,
  t53:=Go.Proofs.Tryz.underlying264,
  a53:=Go.Proofs.Tryz.isAgg264,
  z53:=Go.Proofs.Tryz.sizeOf264,
  v53:=Go.Proofs.Tryz.zeroValue264,
  t55:=Go.Proofs.Tryz.underlying217,
  a55:=Go.Proofs.Tryz.isAgg217,
  z55:=Go.Proofs.Tryz.sizeOf217,
  v55:=Go.Proofs.Tryz.zeroValue217,
  t66:=Go.Proofs.Tryz.underlying277,
  a66:=Go.Proofs.Tryz.isAgg277,
  z66:=Go.Proofs.Tryz.sizeOf277,
  v66:=Go.Proofs.Tryz.zeroValue277,
  t70:=Go.Proofs.Tryz.underlying281,
  a70:=Go.Proofs.Tryz.isAgg281,
  z70:=Go.Proofs.Tryz.sizeOf281,
  v70:=Go.Proofs.Tryz.zeroValue281,
  t76:=Go.Proofs.Tryz.underlying310,
  a76:=Go.Proofs.Tryz.isAgg310,
  z76:=Go.Proofs.Tryz.sizeOf310,
  v76:=Go.Proofs.Tryz.zeroValue310,
  t77:=Go.Proofs.Tryz.underlying311,
  a77:=Go.Proofs.Tryz.isAgg311,
  z77:=Go.Proofs.Tryz.sizeOf311,
  v77:=Go.Proofs.Tryz.zeroValue311 }
end Go.Det
namespace Go.Sp
def val(b:Int):List Int->Int
 |[]=>0
 |d::r=>d+b*val b r
def AA(b:Int)(l:List Int):Prop:=∀d∈l,0<=d/\d<b
def nz(l:List Int):Prop:=l.getLast?≠some 0
def Ze(b:Nat):Nat->Nat->List Int
 |0,_=>[]
 |f+1,n=>if n=0 then[]else((n % b:Nat):Int)::Ze b f (n/b)
def dg(b:Nat)(n:Int):List Int:=Ze b n.toNat n.toNat
def AD:List Int->List Int
 |[]=>[]
 |d::r=>match AD r with
  |[]=>if d=0 then[]else[d]
  |s=>d::s
theorem AH{b:Int}(a:0<=b):∀ {l:List Int},AA b l->0<=val b l
 |[],_=>Int.le_refl _
 |d::r,h=>by
  have f:=(h d<|by simp).1;have e:=AH a (l:=r) fun x c=>h x (by simp[c])
  have:=Int.mul_nonneg a e;unfold val;omega
theorem Df(b:Int):∀(l r:List Int),val b (l++r)=val b l+b^l.length*val b r
 |[],r=>by simp[val]
 |d::l,r=>by
  rw[zk,val,Df b l r,val,List.length_cons,zh,Int.mul_add,Int.add_assoc, <-Int.mul_assoc,zr b<|b^l.length]
theorem NF(b:Int):∀n,val b (zi n 0)=0
 |0=>rfl
 |n+1=>by rw[List.replicate_succ,val,NF b n];simp
theorem Bz{b:Int}(c:0<b):∀ {l:List Int},AA b l->val b l<b^l.length
 |[],_=>by simp[val]
 |d::r,h=>by
  have e:=(h d<|by simp).2;have f:=Bz c (l:=r) fun x a=>h x (by simp[a])
  have g:b*val b r<=b*(b^r.length-1):=zd ae ae;rw[val,List.length_cons,zh,zr (b^r.length) b];grind
theorem Kx(b:Int):∀l,val b (AD l)=val b l
 |[]=>rfl
 |d::r=>by
  have a:=Kx b r;grind [AD,val]
theorem Il{b:Int}:∀ {l:List Int},AA b l->AA b (AD l)
 |[],h=>h
 |d::r,h=>by
  have e:=Il (l:=r) fun x a=>h x (by simp[a])
  have c:=h d (by simp);unfold AD;split
  ·split
   ·grind
   ·intro x a;grind
  ·intro x a;rcases List.mem_cons.1 a with rfl|a
   ·exact c
   ·exact e x a
theorem Mb:∀l:List Int,nz<|AD l
 |[]=>by simp[nz,AD]
 |d::r=>by
  have a:=Mb r;grind [AD,nz]
theorem Jp:∀ {l:List Int},nz l->AD l=l
 |[],_=>rfl
 |d::r,h=>by
  unfold AD;cases r with
  |nil=>
   grind [nz,AD]
  |cons a t=>
   have:nz (a::t):=by grind [nz]
   rw[Jp this]
theorem Ks{b:Int}(c:0<b):∀ {l:List Int},AA b l->nz l->l≠[]->0<val b l
 |[],_,_,h=>wh rfl h
 |d::r,h,g,_=>by
  have f:=(h d<|by simp).1;have hr:AA b r:=fun x e=>h x (by simp[e])
  unfold val;cases r with
  |nil=>
   grind [nz,val]
  |cons a t=>
   have:=Ks c hr (by grind [nz]) (by simp);have:=Int.mul_pos c this;omega
theorem val_inj{b:Int}(d:0<b):∀ {l r:List Int},AA b l->AA b r->nz l->nz r->val b l=val b r->l=r
 |[],[],_,_,_,_,_=>rfl
 |[],x::r,_,c,_,e,h=>by have:=Ks d c e (by simp);grind [val]
 |x::l,[],a,_,n1,_,h=>by have:=Ks d a n1 (by simp);grind [val]
 |x::l,y::r,a,c,n1,e,h=>by
  have a1:=a x (by simp);have a2:=c y (by simp);unfold val at h;have j:x=y:=by
   have g:(x+b*val b l) % b=(y+b*val b r) % b:=by rw[h]
   rw[zj,zj,Int.emod_eq_of_lt a1.1 a1.2,Int.emod_eq_of_lt a2.1 a2.2]at g;exact g
  subst j;have i:val b l=val b r:=by
   grind [Int.eq_of_mul_eq_mul_left]
  have t1:∀ {x:Int} {l:List Int},nz (x::l)->nz l:=by
   grind [nz]
  rw[val_inj d (fun z f=>a z<|by simp[f]) (fun z f=>c z<|by simp[f]) (t1 n1) (t1 e) i]
theorem Un(b:Nat)(a:2<=b):∀f n,n<=f->val b (Ze b f n)=n
 |0,n,h=>by simp[Ze,val];omega
 |f+1,n,h=>by
  unfold Ze;split
  ·rename_i h0;subst h0;rfl
  ·have c:n/b<=f:=by
    have:n/b<n:=Nat.div_lt_self ae a;omega
   rw[val,Un b a f (n/b) c];have:=Nat.mod_add_div n b;omega
theorem Wx(b:Nat)(c:2<=b):∀f n,AA b<|Ze b f n
 |0,n=>by intro x a;cases a
 |f+1,n=>by
  unfold Ze;split
  ·intro x a;cases a
  ·intro x a;rcases List.mem_cons.1 a with rfl|a
   ·have:=Nat.mod_lt n (show 0<b by omega);omega
   ·exact Wx b c f (n/b) x a
theorem uF(b:Nat)(d:2<=b):∀f n,n<=f->nz (Ze b f n)
 |0,n,_=>by simp[Ze,nz]
 |f+1,n,h=>by
  unfold Ze;split
  ·simp[nz]
  ·have e:n/b<=f:=by
    have:n/b<n:=Nat.div_lt_self ae d;omega
   have g:=uF b d f (n/b) e;cases hr:Ze b f (n/b)with
   |nil=>
    have c:=Un b d f (n/b) e;rw[hr]at c;have c:n/b=0:=by
     have:((n/b:Nat):Int)=0:=by rw[<-c];rfl
     omega
    have i:n % b=n:=Nat.mod_eq_of_lt ((Nat.div_eq_zero_iff_lt ae).1 c);simp[nz];omega
   |cons a t=>grind [nz]
theorem Di{b:Nat}(a:2<=b){n:Int}(c:0<=n):val b (dg b n)=n:=by
 unfold dg;rw[Un b a _ _ ae];omega
theorem Gj{b:Nat}(a:2<=b)(n:Int):AA b (dg b n):=Wx b a _ _
theorem aY{b:Nat}(a:2<=b)(n:Int):nz (dg b n):=uF b a _ _ ae
theorem I5{b:Nat}(a:2<=b){l:List Int}(c:AA b l)(d:nz l):l=dg b (val b l):=
 val_inj ae c (Gj a _) d (aY a _) (by grind [Di,AH])
theorem cQ{b:Nat}(c:2<=b){l:List Int}(a:AA b l):AD l=dg b (val b l):=by
 rw[<-Kx];grind [I5,Il,Mb]
theorem sR{b:Nat}(c:2<=b){n:Int}(a:0<=n):dg b n=[]↔n=0:=by
 constructor
 ·grind [Di,val]
 ·rintro rfl;rfl
theorem Jc:∀l:List Int,AD (l++[0])=AD l
 |[]=>rfl
 |d::r=>by
  rw[zk];unfold AD;rw[Jc r]
theorem Z2{l:List Int}{d:Int}(h:d≠0):nz (l++[d]):=by
 grind [nz]
theorem xW{x:Int}{l:List Int}(a:nz (x::l)):nz l:=by
 grind [nz]
theorem Dw{b:Int}(c:0<b):∀ {l:List Int},AA b l->nz l->l≠[]->b^(l.length-1)<=val b l
 |[],_,_,h=>wh rfl h
 |[d],h,a,_=>by
  have:=Ks c h a (by simp);simp at this ⊢;omega
 |d::e::r,h,a,_=>by
  have j:=(h d<|by simp).1;have f:=Dw c (l:=e::r) (fun x g=>h x<|by simp[g]) (xW a) (by simp);have i:(d::e::r).length-1=((e::r).length-1)+1:=by simp
  rw[i,zh,zr];have:=zd f (show 0<=b by omega);unfold val;omega
theorem Bj{b:Int}(a:0<b):∀n:Nat,0<b^n
 |0=>by simp
 |n+1=>by rw[zh];exact Int.mul_pos (Bj a n) a
theorem AT{b:Int}(a:1<=b){m n:Nat}(h:m<=n):b^m<=b^n:=by
 obtain⟨k,rfl⟩:=Nat.exists_eq_add_of_le h;induction k with
 |zero=>simp
 |succ k c=>
  rw[show m+(k+1)=(m+k)+1 from rfl,zh];have hp:=Bj (show 0<b by omega)<|m+k;have:=zd a (show 0<=b^(m+k)by omega);omega
theorem E4{b:Int}(e:2<=b){l r:List Int}(a:AA b l)(c:AA b r)(d:nz r)(h:l.length<r.length):val b l<val b r:=by
 have a1:=Bz ae a;have a2:=Dw ae c d ah;have:=AT (show 1<=b by omega) (show l.length<=r.length-1 by omega);omega
theorem AS{b:Int}{l:List Int}(h:AA b l)(i:Nat):AA b (l.take i):=fun d a=>h d ah
theorem E0{b:Int}{l:List Int}(h:AA b l)(i:Nat):AA b (l.drop i):=fun d a=>h d ah
theorem CB(b:Int)(l:List Int)(i:Nat)(h:i<=l.length):val b l=val b (l.take i)+b^i*val b (l.drop i):=by
 grind [List.take_append_drop,Df]
theorem Kk{b:Int}(g:2<=b){l r:List Int}{x y:Int}{s:List Int}{i:Nat}(c:AA b l)(hr:AA b r)(d:l.drop i=x::s)(a:r.drop i=y::s)(h:x<y):val b l<val b r:=by
 have e:i<=l.length:=by
  grind [zm]
 have i2:i<=r.length:=by
  grind [zm]
 have a1:=Bz ae<|AS c i;have a2:=AH ae<|AS hr i;rw[CB b l i e,CB b r i i2,d,a,show val b (x::s)=x+b*val b s from rfl,show val b (y::s)=y+b*val b s from rfl];have hp:=Bj (show 0<b by omega) i;have f:b^i*(x+1)<=b^i*y:=zd ae ae;grind
theorem Pw(b:Nat)(a:2<=b):∀(k f n:Nat),n<b^k->(Ze b f n).length<=k
 |k,0,n,_=>by simp[Ze]
 |0,f+1,n,h=>by
  grind [Ze]
 |k+1,f+1,n,h=>by
  unfold Ze;split
  ·simp
  ·have:n/b<b^k:=by
    simp_all [Nat.pow_succ,Nat.div_lt_of_lt_mul,Nat.mul_comm]
   have:=Pw b a k f (n/b) this;grind
end Go.Sp
namespace Go.Pe
open Go.Det
inductive Sh where
 |int (k:IntKind)
 |bool
 |str
 |list (s:Sh)
 |pair (a b:Sh)
 |unit
 |nlist (s:Sh)
 |fnv
 |ptr (s:Sh)
 deriving DecidableEq
@[reducible] def Sh.T:Sh->Type
 | .int _=>Int
 | .bool=>Bool
 | .str=>Rd
 | .list s=>List s.T
 | .pair a b=>a.T×b.T
 | .unit=>Unit
 | .nlist s=>List s.T
 | .fnv=>Option Fn
 | .ptr s=>s.T
def Sh.Ip:(s:Sh)->s.T
 | .int _=>(0:Int)
 | .bool=>false
 | .str=>([]:Rd)
 | .list _=>[]
 | .pair a b=>(a.Ip,b.Ip)
 | .unit=>()
 | .nlist _=>[]
 | .fnv=>none
 | .ptr s=>s.Ip
def Sh.sz:Sh->Nat
 | .pair a b=>zf a.sz b.sz
 | .unit=>0
 |_=>1
inductive PV where
 |any
 |bl (b:Bool)
 |ub
 |dat (s:Sh) (x:s.T)
 |nil|nilp|nilm|nilf|nili
 |agg (l:List PV)
 |tup (l:List PV)
 |ptr (id off:Nat)
 |eptr (id sz i off:Nat)
 |A8 (s:Sh) (x:s.T) (off:Nat)
 |sl (id sz off len:Nat) (cap:Option Nat)
 |mp (id:Nat)
 |fn (f:Fn) (first captured:List PV)
 |yl (id:Nat)
inductive LpS where
 |ready|busy|ret
 |exit (i:Nat)
inductive Obj where
 |arr (fz:Bool) (e:TypeId) (s:Sh) (l:List s.T)
 |box (cs:List PV)
 |tbox (t:TypeId) (cs:List PV)
 |map (ks vs:Sh) (l:List (ks.T×vs.T))
 |siter (s:Rd) (pos:Nat)
 |lp (f:FuncId) (r:Nat) (ps:Array Tmp) (asg body:Code) (s:LpS) (n:Nat) (sl:List (Nat×PV))
abbrev Ob:=List<|Nat×Obj
def AR:Ob->Nat->Option Obj
 |[],_=>none
 |(i,o)::l,j=>bif zc i j then some o else AR l j
def Ep:Ob->Nat->Obj->Ob
 |[],_,_=>[]
 |(i,o)::l,j,x=>bif zc i j then(i,x)::l else(i,o)::Ep l j x
def Hl:Ob->Nat->Ob
 |[],_=>[]
 |(i,o)::l,j=>bif zc i j then Hl l j else(i,o)::Hl l j
structure AQ where
 n:Nat
 fr:PM PV
 ob:Ob
 nx:Nat
def AQ.get(st:AQ)(t:Nat):PV:=(st.fr.get t).getD .any
def AQ.obj(st:AQ)(id:Nat):Option Obj:=AR st.ob id
def AQ.set(st:AQ)(t:Nat)(v:PV):AQ:=⟨st.n,st.fr.set t<|some v,st.ob,st.nx⟩
def AQ.setObj(st:AQ)(id:Nat)(o:Obj):AQ:=⟨st.n,st.fr,Ep st.ob id o,st.nx⟩
def AQ.GF(st:AQ)(id:Nat):AQ:=⟨st.n,st.fr,Hl st.ob id,st.nx⟩
def AQ.push(st:AQ)(o:Obj):AQ:=⟨st.n,st.fr,(st.nx,o)::st.ob,zf st.nx 1⟩
def AQ.put(st:AQ)(d:Option Nat)(v:PV):Option AQ:=
 match d with
 |none=>some st
 |some t=>bif zn t st.n then some (st.set t v)else none
def Fj(vs:List (Nat×PV)):PM PV:=vs.foldl (fun m x=>m.set x.1<|some x.2) .leaf
def flat:(s:Sh)->s.T->List PV
 | .pair a b,(x,y)=>flat a x++flat b y
 | .unit,_=>[]
 | .fnv,x=>[match (x:Option Fn)with|some f=>.fn f [] []|none=>.nilf]
 | .ptr s,x=>[.A8 s x 0]
 |s,x=>[.dat s x]
def EZ(s a:Sh)(x:s.T):Option a.T:=if h:s=a then some (h▸x)else none
def asP(a:Sh)(x:a.T):(s:Sh)->Option s.T
 | .ptr s=>EZ a s x
 |_=>none
def xN(s:Sh)(v:PV):Option s.T:=
 match v with
 | .A8 a x 0=>asP a x s
 | .dat a x=>EZ a s x
 | .bl b=>EZ .bool s b
 | .fn f [] []=>EZ .fnv s<|some f
 | .nilf=>EZ .fnv s none
 | .nil=>match s with
  | .list _=>some []
  | .nlist _=>some []
  |_=>none
 |_=>none
def CO:(s:Sh)->List PV->Option (s.T×List PV)
 | .pair a b,l=>match CO a l with
  |some (x,l1)=>match CO b l1 with
   |some (y,c)=>some ((x,y),c)
   |none=>none
  |none=>none
 | .unit,l=>some ((),l)
 |s,v::l=>match xN s v with
  |some x=>some (x,l)
  |none=>none
 |_,[]=>none
def DM(s:Sh)(l:List PV):Option s.T:=
 match CO s l with
 |some (x,[])=>some x
 |_=>none
def PV.cells:PV->List PV
 | .agg cs=>cs
 |v=>[v]
def dL(ty:TypeId->Option Sh):List Field->Option Sh
 |[]=>none
 |[x]=>ty x.type
 |x::c=>match ty x.type,dL ty c with
  |some a,some b=>some<|.pair a b
  |_,_=>none
def nlf:Option Sh->Option Sh
 |some (.list<|.int .u64)=>some<|.nlist<|.int .u64
 |s=>s
def lz:PV->PV
 | .dat (.nlist s) x=>.dat (.list s) x
 |v=>v
def Sh.leaves:Sh->List Sh
 | .pair a b=>a.leaves++b.leaves
 | .unit=>[]
 |s=>[s]
def VD:Sh->PV->Bool×PV
 | .nlist s,.dat (.list a) x=>bif s==a then(decide (0<x.length),.dat (.nlist a) x)else(true,.dat (.list a) x)
 | .list s,.dat (.nlist a) x=>bif s==a then(true,.dat (.list a) x)else(true,.dat (.nlist a) x)
 |_,v=>(true,v)
def Mf:List Sh->List PV->Bool×List PV
 |s::l,v::vs=>((VD s v).1&&(Mf l vs).1,(VD s v).2::(Mf l vs).2)
 |_,vs=>(true,vs)
def Zl(T:Cj):Nat->TypeId->Option Sh
 |0,_=>none
 |f+1,t=>match T.und t with
  |some (.int k)=>some<|.int k
  |some .bool=>some .bool
  |some .string=>some .str
  |some (.slice e)=>(Zl T f e).map .list
  |some (.func _ _ _)=>some .fnv
  |some (.struct fs)=>dL (fun x=>nlf<|Zl T f x) fs.toList
  |_=>none
def Sh.Aa2:Sh->Bool
 | .pair a b=>a.Aa2||b.Aa2
 | .fnv=>true
 |_=>false
def Ce:(s:Sh)->s.T->PV
 | .pair a b,x=>.agg<|flat (.pair a b) x
 | .unit,_=>.agg []
 | .fnv,x=>match (x:Option Fn)with|some f=>.fn f [] []|none=>.nilf
 | .ptr s,x=>.A8 s x 0
 |s,x=>.dat s x
def Sh.OP:Sh->Bool
 | .pair _ _| .unit=>true
 |_=>false
def Zn:(s:Sh)->s.T->s.T->Bool
 | .int _,a,b=>(a:Int)==b
 | .bool,a,b=>(a:Bool)==b
 | .str,a,b=>(a:Rd)==b
 |_,_,_=>false
def EB(s v:Sh)(k:s.T):List (s.T×v.T)->Option v.T
 |[]=>none
 |(a,b)::l=>bif Zn s k a then some b else EB s v k l
def H4(s v:Sh)(k:s.T)(x:v.T):List (s.T×v.T)->List (s.T×v.T)
 |[]=>[(k,x)]
 |(a,b)::l=>bif Zn s k a then(k,x)::l else(a,b)::H4 s v k x l
def Vj(s v:Sh)(k:s.T):List (s.T×v.T)->List (s.T×v.T)
 |[]=>[]
 |(a,b)::l=>bif Zn s k a then l else(a,b)::Vj s v k l
inductive Tr where
 |fail
 |leaf (v:PV) (ob:Ob)
 |ite (c:Bool) (a b:Tr)
 |both (a b:Tr)
 |cut (nd ro:Bool) (d:Nat) (f:FuncId) (base:Nat) (b:Code) (st:AQ) (k:DX->AQ->Tr)
 |alts (m:Nat) (f:Nat->Tr)
 |loop (nd ro:Bool) (d:Nat) (f:FuncId) (base:Nat) (b:Code) (st:AQ) (k:DX->AQ->Tr)
abbrev Tr.ck(c:Bool)(x:Tr):Tr:=.ite c x .fail
abbrev Tr.cd(P:Prop)[Decidable P](x:Tr):Tr:=.ite (decide P) x .fail
abbrev aa(k:Nat):Bool:=decide (1<=1)&&decide (0<1)&&decide ((3*1+2000)*k<=562949953421312)
abbrev ac(n m k:Nat):Bool:=decide (1<=1)&&true&&decide (n=m)&&decide ((3*(n+1)+2000)*k<=562949953421312)
abbrev Tr.di(P:Prop)[Decidable P](x y:Tr):Tr:=.ite (decide P) x y
inductive PO where
 |bad
 |val (v:PV) (st:AQ)
 |ite (c:Bool) (a b:PO)
def PO.Je(c:Bool)(v:PV)(st:AQ):PO:=.ite c (.val v st) .bad
mutual
def OO:Value->Option PV
 | .bool b=>some<|.bl b
 | .int k n=>some<|.dat (.int k) n
 | .string s=>some<|.dat .str s.data.toList
 | .pointer none=>some .nilp
 | .slice none 0 0=>some .nil
 | .map none=>some .nilm
 | .nilFunc=>some .nilf
 | .nilIface=>some .nili
 | .func f ⟨[]⟩ ⟨[]⟩=>some<|.fn f [] []
 | .agg ⟨cs⟩=>(iT cs).map .agg
 | .tuple ⟨cs⟩=>(iT cs).map .tup
 |_=>none
def iT:List Value->Option (List PV)
 |[]=>some []
 |v::vs=>match OO v,iT vs with
  |some x,some a=>some (x::a)
  |_,_=>none
end
def Yh:V->PV
 | .bool b=>.bl b
 | .int k n=>.dat (.int k) n
 | .str s=>.dat .str s
 | .nilp=>.nilp
 | .nils=>.nil
 | .nilm=>.nilm
 | .nilf=>.nilf
 | .nili=>.nili
 |_=>.any
def RY(st:AQ):Operand->Option PV
 | .tmp t=>some<|st.get t
 | .const v=>OO v
 | .global _=>none
 | .func f=>some<|.fn (.func f) [] []
def Na(st:AQ):List Operand->Option (List PV)
 |[]=>some []
 |x::a=>match RY st x,Na st a with
  |some v,some vs=>some (v::vs)
  |_,_=>none
def jI(st:AQ):List (Nat×Operand)->Option (List<|Nat×PV)
 |[]=>some []
 |(i,x)::a=>match RY st x,jI st a with
  |some v,some vs=>some ((i,v)::vs)
  |_,_=>none
def tC(T:Cj)(t:TypeId):Option (List PV):=(T.inf t).bind fun i=>bif LK V.ok i.zero then some (i.zero.map Yh)else none
def pick(d:TypeDesc)(n:Nat)(cs:List PV):Option PV:=
 bif EE d then(bif zq n (Ge cs)&&zn 0 n then some (.agg<|ZN n cs)else none)
 else match cs with
  |v::_=>some v
  |[]=>none
def ov(st:AQ):Option PV->PO
 |some v=>.val v st
 |none=>.bad
def ovc(c:Bool)(st:AQ):Option PV->PO
 |some v=>.Je c v st
 |none=>.bad
def chunk(s:Sh):Nat->List PV->Option (List s.T)
 |0,_=>some []
 |n+1,cs=>match CO s cs with
  |some (x,cs')=>(chunk s n cs').map (x:: ·)
  |none=>none
def QX(s:Sh)(l:List s.T):Nat->Nat->List PV
 |_,0=>[]
 |j,n+1=>flat s (l.getD j s.Ip)++QX s l (zf j 1) n
def zsh:List V->Option Sh
 | .bool _::_=>some .bool
 | .int k _::_=>some<|.int k
 |_=>none
def isZ:Sh->V->Bool
 | .bool,.bool b=> !b
 | .int k,.int a n=>decide (k=a)&&decide (n=0)
 |_,_=>false
def AeE(T:Cj)(t:TypeId):Option (Sh×Nat):=
 match T.und t,T.inf t with
 |some (.array _ _),some i=>match zsh i.zero with
  |some s=>bif zq 32 (Ge i.zero)&&LK (isZ s) i.zero then some (s,Ge i.zero)else none
  |none=>none
 |_,_=>none
def OC(T:Cj)(st:AQ)(t:TypeId)(a:PV):PO:=
 match T.und t,T.inf t with
 |some d,some i=>match a with
  | .ptr id off=>match st.obj id with
   |some (.box cs)=>ov st<|pick d i.size<|K4 off cs
   |some (.arr _ _ s l)=>bif zc off 0&&zc s.sz 1 then ovc (decide (l.length=i.size)) st (pick d i.size<|QX s l 0 i.size)else .bad
   |some (.tbox _ cs)=>ov st<|pick d i.size<|K4 off cs
   |_=>.bad
  | .eptr id sz j off=>match st.obj id with
   |some (.arr _ _ s l)=>bif zc sz s.sz then ovc (decide (j<l.length)) st (pick d i.size<|K4 off<|flat s<|l.getD j s.Ip)else .bad
   |_=>.bad
  | .A8 s x off=>ov st<|pick d i.size<|K4 off<|flat s x
  |_=>.bad
 |_,_=>.bad
def I3:Option Obj->Bool
 |some _=>true
 |none=>false
def Mc(st:AQ):PV->Bool
 | .agg _| .tup _| .any| .ub=>false
 | .ptr id _| .eptr id _ _ _| .sl id _ _ _ _| .mp id| .yl id=>I3<|st.obj id
 |_=>true
def pcs(st:AQ):PV->Option (List PV)
 | .agg l=>some l
 |p=>bif Mc st p then some [p]else none
def Ym(T:Cj)(st:AQ)(t:TypeId)(a x:PV):PO:=
 match T.inf t,pcs st x with
 |some i,some b=>bif zc (Ge b) i.size&&LK (Mc st) b then
   match a with
   | .ptr id off=>match st.obj id with
    |some (.box cs)=>bif zq (zf off i.size) (Ge cs)then .val (.tup []) (st.setObj id<|.box<|CL off b cs)else .bad
    |some (.arr false e s l)=>bif zc off 0&&zc s.sz 1 then
      match chunk s i.size b with
      |some y=>.Je (decide (l.length=i.size)) (.tup [])<|st.setObj id<|.arr false e s y
      |none=>.bad
     else .bad
    |some (.tbox tb cs)=>bif zq (zf off i.size) (Ge cs)then .val (.tup []) (st.setObj id<|.tbox tb<|CL off b cs)else .bad
    |_=>.bad
   | .eptr id sz j off=>match st.obj id with
    |some (.arr false e s l)=>bif zc sz s.sz&&zq (zf off i.size) sz then
      match DM s (CL off b<|flat s<|l.getD j s.Ip)with
      |some y=>.Je (decide (j<l.length)) (.tup [])<|st.setObj id<|.arr false e s<|l.set j y
      |none=>.bad
     else .bad
    |_=>.bad
   |_=>.bad
  else .bad
 |_,_=>.bad
def It(k:IntKind)(a b:Int):Int:=k.wrap (zg k.bits a&&&zg k.bits b).toNat
def eH(k:IntKind)(a b:Int):Int:=k.wrap (zg k.bits a|||zg k.bits b).toNat
def Ah9(k:IntKind)(a b:Int):Int:=k.wrap (zg k.bits a^^^zg k.bits b).toNat
def AgV(k:IntKind)(a b:Int):Int:=k.wrap (zg k.bits a&&& ~~~zg k.bits b).toNat
def Adn(op:BinOp)(k:IntKind)(a b:Int)(st:AQ):PO:=
 match op with
 | .add=>.val (.dat (.int k)<|k.wrap<|a+b) st
 | .sub=>.val (.dat (.int k)<|k.wrap<|a-b) st
 | .mul=>.val (.dat (.int k)<|k.wrap<|a*b) st
 | .quo=>.Je (decide (b≠0)) (.dat (.int k)<|k.wrap<|a.tdiv b) st
 | .rem=>.Je (decide (b≠0)) (.dat (.int k)<|a.tmod b) st
 | .and=>.val (.dat (.int k)<|It k a b) st
 | .or=>.val (.dat (.int k)<|eH k a b) st
 | .xor=>.val (.dat (.int k)<|Ah9 k a b) st
 | .andNot=>.val (.dat (.int k)<|AgV k a b) st
 | .eql=>.val (.dat .bool<|a==b) st
 | .neq=>.val (.dat .bool<|a !=b) st
 | .lss=>.val (.dat .bool<|decide (a<b)) st
 | .leq=>.val (.dat .bool<|decide (a<=b)) st
 | .gtr=>.val (.dat .bool<|decide (a>b)) st
 | .geq=>.val (.dat .bool<|decide (a>=b)) st
 |_=>.bad
def psh(op:BinOp)(k:IntKind)(a b:Int)(st:AQ):PO:=
 match op with
 | .shl=>.Je (decide (0<=b)) (.dat (.int k)<|k.wrap<|a*2^(min b.toNat k.bits)) st
 | .shr=>.Je (decide (0<=b)) (.dat (.int k)<|a.fdiv<|2^(min b.toNat k.bits)) st
 |_=>.bad
def AdE(op:BinOp)(x y:Rd)(st:AQ):PO:=
 match op with
 | .add=>.Je (decide (x.length+y.length<=4611686018427387904)) (.dat .str<|x++y) st
 | .eql=>.val (.dat .bool<|x==y) st
 | .neq=>.val (.dat .bool<|!(x==y)) st
 | .lss=>.val (.dat .bool<|zo x y) st
 | .leq=>.val (.dat .bool<|zo x y||x==y) st
 | .gtr=>.val (.dat .bool<|!(zo x y||x==y)) st
 | .geq=>.val (.dat .bool<|!zo x y) st
 |_=>.bad
def wY:BinOp->Bool
 | .shl| .shr=>true
 |_=>false
def Ko:PV->Option Bool
 | .bl b=>some b
 | .dat .bool b=>some b
 |_=>none
def HP:List FK->List PV->List PV->Option Bool
 |[],[],[]=>some true
 | .int k::ks,.dat (.int e) a::c,.dat (.int f) b::d=>bif k==e&&k==f then(HP ks c d).map fun r=>(a:Int)==(b:Int)&&r else none
 | .str::ks,.dat .str a::c,.dat .str b::d=>(HP ks c d).map fun r=>(a:Rd)==(b:Rd)&&r
 | .bool::ks,a::c,b::d=>match Ko a,Ko b with
  |some a,some b=>(HP ks c d).map fun r=>a==b&&r
  |_,_=>none
 |_,_,_=>none
def UQ(st:AQ)(ng:Bool)(x:PV):PO:=
 match x with
 | .nil=>.val (.bl<|!ng) st
 | .sl id _ _ _ _=>bif I3 (st.obj id)then .val (.bl ng) st else .bad
 | .dat (.list _) l=>.ite (decide (0<l.length)) (.val (.bl ng) st)<|.val .ub st
 | .dat (.nlist _) l=>.val (.dat .bool<|bif ng then decide (0<l.length)else !decide (0<l.length)) st
 |_=>.bad
def oN(op:BinOp)(x y:PV)(st:AQ):PO:=
 match op,x,y with
 | .eql,x,.nil=>UQ st false x
 | .neq,x,.nil=>UQ st true x
 |_,_,_=>.bad
def ptrEq(T:Cj)(e:TypeId)(st:AQ)(x y:PV):Option Bool:=
 match x,y with
 | .nilp,.nilp=>some true
 | .ptr id _,.nilp=>bif I3 (st.obj id)then some false else none
 | .nilp,.ptr id _=>bif I3 (st.obj id)then some false else none
 | .ptr a i,.ptr b j=>bif zc a b&&I3 (st.obj a)then match T.inf e with
   |some c=>bif zn 0 c.size then some (zc i j)else none
   |none=>none
  else none
 |_,_=>none
def Afg(T:Cj)(op:BinOp)(t:TypeId)(x y:PV)(st:AQ):PO:=
 match x,y with
 | .dat (.int k) a,.dat (.int c) b=>bif wY op then psh op k a b st else(bif k==c then Adn op k a b st else .bad)
 | .dat .str a,.dat .str b=>AdE op a b st
 | .agg d,.agg f=>match T.flat t with
  |some ks=>match op,HP ks d f with
   | .eql,some r=>.val (.dat .bool r) st
   | .neq,some r=>.val (.dat .bool<|!r) st
   |_,_=>.bad
  |none=>.bad
 |x,y=>match Ko x,Ko y,T.und t with
  |some a,some b,some .bool=>match op with
   | .eql=>.val (.dat .bool<|a==b) st
   | .neq=>.val (.dat .bool<|!(a==b)) st
   |_=>.bad
  |_,_,some (.slice _)=>oN op x y st
  |_,_,some (.pointer e)=>match op,ptrEq T e st x y with
   | .eql,some r=>.val (.bl r) st
   | .neq,some r=>.val (.bl<|!r) st
   |_,_=>.bad
  |_,_,_=>.bad
def pun(op:UnOp)(x:PV)(st:AQ):PO:=
 match op,x with
 | .neg,.dat (.int k) n=>.val (.dat (.int k)<|k.wrap<|0-(n:Int)) st
 | .not,.bl b=>.val (.bl<|!b) st
 | .not,.ub=>.val .ub st
 | .not,.dat .bool b=>.val (.dat .bool<|!b) st
 |_,_=>.bad
def sQ(T:Cj)(s d:TypeId)(x:PV)(st:AQ):PO:=
 match T.und s,T.und d,x with
 |some _,some<|.int k,.dat (.int _) n=>.val (.dat (.int k)<|k.wrap n) st
 |some .string,some .string,.dat .str s=>.val (.dat .str s) st
 |_,_,_=>.bad
def lW(c a b:PV)(st:AQ):PO:=
 match c with
 | .bl t=>.val (bif t then a else b) st
 | .dat .bool t=>match a,b with
  | .dat .bool x,.bl false=>.val (.dat .bool<|t&&x) st
  | .bl true,.dat .bool x=>.val (.dat .bool<|t||x) st
  |_,_=>.ite t (.val a st)<|.val b st
 |_=>.bad
def Y6(T:Cj)(t:TypeId)(x:PV)(f:Nat)(st:AQ):PO:=
 match T.und t,x with
 |some (.struct fs),.agg cs=>match fs[f]? with
  |some a=>match T.und a.type,T.inf a.type with
   |some d,some i=>ov st<|pick d i.size<|K4 a.offset cs
   |_,_=>.bad
  |none=>.bad
 |_,_=>.bad
def Zb(T:Cj)(t:TypeId)(x:PV)(f:Nat)(st:AQ):PO:=
 match T.und t with
 |some (.struct fs)=>match fs[f]? with
  |some a=>match T.inf a.type with
   |some i=>bif zc i.size 0 then .bad else match x with
    | .ptr id off=>bif I3 (st.obj id)then .val (.ptr id<|zf off a.offset) st else .bad
    | .eptr id sz j off=>bif I3 (st.obj id)then .val (.eptr id sz j<|zf off a.offset) st else .bad
    | .A8 s y off=>.val (.A8 s y<|zf off a.offset) st
    |_=>.bad
   |none=>.bad
  |none=>.bad
 |_=>.bad
def Vh(T:Cj)(t:TypeId)(x ix:PV)(st:AQ):PO:=
 match T.und t,ix with
 |some (.slice e),.dat (.int _) i=>match T.inf e with
  |some a=>match x with
   | .dat (.list s) l=>bif zc a.size s.sz then .Je (decide (0<=(i:Int))&&decide ((i:Int)<(l.length:Int))) (.A8 s (l.getD (ze i) s.Ip) 0) st else .bad
   | .sl id sz off len _=>bif zc a.size sz&&I3 (st.obj id)then .Je (decide (0<=(i:Int))&&decide ((i:Int)<(len:Int))) (.eptr id sz (zf (ze i) off) 0) st else .bad
   |_=>.bad
  |none=>.bad
 |some (.array len e),.dat (.int _) i=>match T.inf e with
  |some a=>match x with
   | .ptr id off=>match st.obj id with
    |some (.arr _ _ s _)=>bif zc off 0&&zc a.size s.sz then .Je (decide (0<=(i:Int))&&decide ((i:Int)<(len:Int))) (.eptr id s.sz (ze i) 0) st else .bad
    |some _=>.Je (decide (0<=(i:Int))&&decide ((i:Int)<(len:Int))) (.ptr id<|zf off<|zt (ze i) a.size) st
    |none=>.bad
   | .eptr id sz j off=>bif I3 (st.obj id)then .Je (decide (0<=(i:Int))&&decide ((i:Int)<(len:Int))) (.eptr id sz j<|zf off<|zt (ze i) a.size) st else .bad
   | .A8 s y off=>.Je (decide (0<=(i:Int))&&decide ((i:Int)<(len:Int))) (.A8 s y<|zf off<|zt (ze i) a.size) st
   |_=>.bad
  |none=>.bad
 |_,_=>.bad
def kM(T:Cj)(t:TypeId)(x ix:PV)(st:AQ):PO:=Vh T t (lz x) ix st
def YH(T:Cj)(t:TypeId)(x ix:PV)(st:AQ):PO:=
 match T.und t,x,ix with
 |some .string,.dat .str s,.dat (.int _) i=>.Je (decide (0<=(i:Int))&&decide ((i:Int)<((s:Rd).length:Int))) (.dat (.int .u8) (((s:Rd).getD (ze i) 0).toNat:Int)) st
 |some (.array len e),.agg cs,.dat (.int _) i=>match T.und e,T.inf e with
  |some d,some a=>ovc (decide (0<=(i:Int))&&decide ((i:Int)<(len:Int))) st<|pick d a.size<|K4 (zt (ze i) a.size) cs
  |_,_=>.bad
 |_,_,_=>.bad
def Rm(x:PV)(i:Nat)(st:AQ):PO:=
 match x with
 | .tup vs=>match vs[i]? with
  |some v=>.val v st
  |none=>.bad
 |_=>.bad
def pb(x:Option PV)(Ip:Nat):Option (Bool×Nat):=
 match x with
 |none=>some (true,Ip)
 |some (.dat (.int _) n)=>some (decide (0<=(n:Int)),ze n)
 |_=>none
def has(mx:Option PV)(c:Nat):Bool:=match mx with
 |none=>true
 |some _=>decide (0<c)
def UI(T:Cj)(t:TypeId)(x:PV)(lo c mx:Option PV)(st:AQ):PO:=
 match T.und t with
 |some .string=>match x,mx with
  | .dat .str s,none=>match pb lo 0,pb c (s:Rd).length with
   |some (a,l),some (b,h)=>.Je (a&&b&&decide (l<=h)&&decide (h<=(s:Rd).length)) (.dat .str<|((s:Rd).drop l).take<|Nat.sub h l) st
   |_,_=>.bad
  |_,_=>.bad
 |some (.slice e)=>match T.inf e with
  |some g=>match x with
   | .dat (.list s) f=>bif zc g.size s.sz then
     match pb lo 0,pb c f.length,mx with
     |some (a,l),some (b,h),none=>.Je (a&&b&&decide (l<=h)&&decide (h<=f.length)) (.dat (.list s)<|(f.drop l).take<|Nat.sub h l) st
     |_,_,_=>.bad
    else .bad
   | .sl id sz off len cap=>bif zc g.size sz&&I3 (st.obj id)then
     match c,mx with
     |none,some _=>.bad
     |_,_=>match pb lo 0,pb c len,pb mx (cap.getD len)with
      |some (a,l),some (b,h),some (d,m)=>.Je (a&&b&&d&&decide (l<=h)&&decide (h<=m)&&decide (m<=cap.getD len)&&has mx (cap.getD len)) (.sl id sz (zf off l) (Nat.sub h l)<|some<|Nat.sub m l) st
      |_,_,_=>.bad
    else .bad
   | .nil=>match pb lo 0,pb c 0,mx with
    |some (a,l),some (b,h),none=>.Je (a&&b&&decide (l<=h)&&decide (h<=0)) .nil st
    |some (a,l),some (b,h),some q=>match c,pb (some q) 0 with
     |some _,some (d,m)=>.Je (a&&b&&d&&decide (l<=h)&&decide (h<=m)&&decide (m<=0)) .nil st
     |_,_=>.bad
    |_,_,_=>.bad
   |_=>.bad
  |none=>.bad
 |_=>.bad
def uE(T:Cj)(t:TypeId)(x:PV)(lo a mx:Option PV)(st:AQ):PO:=UI T t (lz x) lo a mx st
def pi64(n:Nat):PV:=.dat (.int .i64)<|Int.ofNat n
def WU(T:Cj)(ts:Array TypeId)(args:List PV)(st:AQ):PO:=
 match ts[0]?,args with
 |some t,[x]=>match T.und t,x with
  |some .string,.dat .str s=>.val (pi64 (s:Rd).length) st
  |some (.slice _),.dat (.list _) l=>.val (pi64 l.length) st
  |some (.slice _),.sl id _ _ len _=>bif I3 (st.obj id)then .val (pi64 len) st else .bad
  |some (.slice _),.nil=>.val (pi64 0) st
  |some (.map _ _),.mp id=>match st.obj id with
   |some (.map _ _ l)=>.val (pi64 l.length) st
   |_=>.bad
  |_,_=>.bad
 |_,_=>.bad
def Abz(T:Cj)(ts:Array TypeId)(args:List PV)(st:AQ):PO:=WU T ts (args.map lz) st
def pmm(f:Int->Int->Int)(k:IntKind):Int->List PV->Option Int
 |x,[]=>some x
 |x,.dat (.int a) y::b=>bif k==a then pmm f k (f x y) b else none
 |_,_=>none
def Pd(f:Int->Int->Int)(args:List PV)(st:AQ):PO:=
 match args with
 | .dat (.int k) x::a=>match pmm f k x a with
  |some z=>.val (.dat (.int k) z) st
  |none=>.bad
 |_=>.bad
def imax(x y:Int):Int:=if y>x then y else x
def FJ(x y:Int):Int:=if y<x then y else x
def Iv(st:AQ)(s:Sh)(x:PV):Option (Bool×List s.T):=
 match x with
 | .nil=>some (true,[])
 | .dat (.list a) l=>(EZ (.list a) (.list s) l).map fun r=>(true,r)
 | .sl id sz off len _=>match st.obj id with
  |some (.arr _ _ a l)=>bif zc sz a.sz then(EZ (.list a) (.list s) l).map fun r=>(decide (off+len<=r.length),(r.drop off).take len)else none
  |_=>none
 | .dat .str l=>(EZ (.list<|.int .u8) (.list s)<|List.map (fun b:UInt8=>(b.toNat:Int)) l).map fun r=>(true,r)
 |_=>none
def Qv(st:AQ)(s:Sh)(x:PV):Option (Bool×List s.T):=Iv st s<|lz x
def LIM:Nat:=281474976710656
def sU:Nat:=562949953421312
def UB:TypeDesc->Bool
 | .slice _=>true
 | .string=>true
 |_=>false
def Ue(T:Cj)(ts:Array TypeId)(args:List PV)(st:AQ):PO:=
 match ts[0]?,ts[1]?,args with
 |some t,some a,[b,x]=>match T.und t,T.und a with
  |some (.slice e),some d=>bif UB d then match T.inf e,Zl T 9 e with
   |some i,some s=>
    bif zn 0 i.bytes&&zn 0 i.size&&zc i.zero.length i.size&&zc i.size s.sz then
     match Qv st s x with
     |some (c,new)=>match b with
      | .nil=>match x with
       | .nil=>.val .nil st
       | .dat _ _=>.ite (decide (0<new.length)) (.Je (c&&decide ((3*new.length+2000)*i.bytes<=sU)) (.sl st.nx s.sz 0 new.length none)<|st.push<|.arr false e s new)<|.val .nil st
       | .sl _ _ _ _ (some _)=>.ite (decide (0<new.length)) (.Je (c&&decide ((3*new.length+2000)*i.bytes<=sU)) (.sl st.nx s.sz 0 new.length none)<|st.push<|.arr false e s new)<|.Je c .nil st
       |_=>.Je (c&&decide (0<new.length)&&decide ((3*new.length+2000)*i.bytes<=sU)) (.sl st.nx s.sz 0 new.length none)<|st.push<|.arr false e s new
      | .sl id sz off len cap=>match st.obj id with
       |some (.arr false g f l)=>match EZ (.list f) (.list s) l with
        |some l'=>bif zc e g&&zc sz s.sz then
          match cap with
          |none=>.Je (c&&decide (off=0)&&decide (len=l'.length)&&decide ((3*(len+new.length)+2000)*i.bytes<=sU)) (.sl st.nx s.sz 0 (zf len new.length) none)<|(st.GF id).push<|.arr false e s<|l'++new
          |some k=>.Je (c&&decide (len+new.length<=k)&&decide (off+k<=l'.length)) (.sl id sz off (zf len new.length)<|some k) (st.setObj id<|.arr false e s<|l'.take (off+len)++(new++l'.drop (off+len+new.length)))
         else .bad
        |none=>.bad
       |_=>.bad
      |_=>.bad
     |none=>.bad
    else .bad
   |_,_=>.bad
   else .bad
  |_,_=>.bad
 |_,_,_=>.bad
def ZK(T:Cj)(ts:Array TypeId)(args:List PV)(st:AQ):PO:=
 match ts[0]?,args with
 |some t,[x]=>match T.und t with
  |some (.slice e)=>match x with
   | .nil=>.val (.tup []) st
   | .sl id sz off len _=>match T.inf e,st.obj id with
    |some i,some (.arr false a s l)=>
     bif zc sz s.sz&&zn 0 i.zero.length&&zc i.zero.length s.sz&&LK V.one i.zero then
      match DM s (i.zero.map Yh)with
      |some z=>.Je (decide (off+len<=l.length)) (.tup [])<|st.setObj id<|.arr false a s<|l.take off++(zi len z++l.drop (off+len))
      |none=>.bad
     else .bad
    |_,_=>.bad
   |_=>.bad
  |_=>.bad
 |_,_=>.bad
def XZ(args:List PV)(st:AQ):PO:=
 match args with
 |[.sl id sz off len none]=>bif I3 (st.obj id)then .Je (decide (0<len)) (.eptr id sz off 0) st else .bad
 |_=>.bad
def Up(l:List Int):Rd:=l.map fun x=>UInt8.ofNat x.toNat
def S6(l:List Int):Bool:=l.all fun x=>decide (0<=x)&&decide (x<256)
def mG(T:Cj)(ts:List TypeId)(args:List PV)(st:AQ):PO:=
 match ts,args with
 |[pt,_],[.eptr id _ i 0,.dat (.int .i64) n]=>match T.und pt,st.obj id with
  |some (.pointer e),some (.arr false c s l)=>match T.inf e,EZ (.list s) (.list<|.int .u8) l with
   |some b,some a=>bif zc b.size 1&&zc e c then
     .Je (decide (i=0)&&decide (0<(n:Int))&&decide (ze n<=(a:List Int).length)&&decide (ze n<=9223372036854775807)&&S6 a) (.dat .str<|Up<|(a:List Int).take<|ze n) (st.GF id)
    else .bad
   |_,_=>.bad
  |_,_=>.bad
 |_,_=>.bad
def JZ(T:Cj)(b:Builtin)(ts:Array TypeId)(args:List PV)(st:AQ):PO:=
 match b with
 | .len=>Abz T ts args st
 | .append=>Ue T ts args st
 | .max=>Pd imax args st
 | .min=>Pd FJ args st
 | .clear=>ZK T ts args st
 | .unsafeSliceData=>XZ args st
 | .unsafeString=>mG T ts.toList args st
 |_=>.bad
def rune(s:Rd)(pos:Nat):Int:=(zp (bytesOf s) pos).1
def KV(s:Rd)(pos:Nat):Nat:=(zp (bytesOf s) pos).2
def YL(T:Cj)(t:TypeId)(x:PV)(st:AQ):PO:=
 match T.und t,x with
 |some .string,.dat .str s=>.val (.ptr st.nx 0)<|st.push<|.siter s 0
 |_,_=>.bad
def lM(x:PV)(a:Bool)(st:AQ):PO:=
 match x,a with
 | .ptr id 0,true=>match st.obj id with
  |some (.siter s pos)=>.ite (decide (pos<s.length)) (.val (.tup [.bl true,.dat (.int .i64)<|Int.ofNat pos,.dat (.int .i32)<|rune s pos])<|st.setObj id<|.siter s<|zf pos<|KV s pos)<|.val (.tup [.bl false]) st
  |_=>.bad
 |_,_=>.bad
def SV(st:AQ)(place:Nat->Option (Nat×Nat))(cells:List PV):List (Nat×PV)->Option (List PV)
 |[]=>some cells
 |(i,v)::a=>match place i with
  |none=>none
  |some (off,size)=>match pcs st v with
   |some vs=>bif zc (Ge vs) size&&zq (zf off size) (Ge cells)then SV st place (CL off vs cells) a else none
   |none=>none
def X4(T:Cj)(st:AQ)(t:TypeId)(a:List (Nat×PV)):Option PV:=
 match T.inf t,T.und t with
 |some i,some (.struct fs)=>
  match fs.toList.mapM (fun f=>(T.inf f.type).map fun j=>(f.offset,j.size))with
  |some pl=>(SV st (fun i=>pl[i]?) (i.zero.map Yh) a).map .agg
  |none=>none
 |some i,some (.array _ e)=>match T.inf e with
  |some j=>(SV st (fun i=>some (i*j.size,j.size)) (i.zero.map Yh) a).map .agg
  |none=>none
 |_,_=>none
def QW(z:List PV):Nat->List PV
 |0=>[]
 |n+1=>z++QW z n
def B4(st:AQ):PV->Option (Bool×PV)
 | .sl id sz off len _=>match st.obj id with
  |some (.arr _ _ s l)=>bif zc sz s.sz then some (decide (off+len<=l.length),.dat (.list s)<|(l.drop off).take len)else none
  |_=>none
 | .dat s x=>some (true,.dat s x)
 | .A8 s x off=>some (true,.A8 s x off)
 | .bl b=>some (true,.bl b)
 | .nil=>some (true,.nil)
 | .fn f [] []=>some (true,.fn f [] [])
 |_=>none
def Dn(st:AQ):List PV->Option (Bool×List PV)
 |[]=>some (true,[])
 |v::vs=>match B4 st v,Dn st vs with
  |some (c,x),some (d,a)=>some (c&&d,x::a)
  |_,_=>none
def BN(st:AQ):PV->AQ
 | .sl id _ _ _ _=>match st.obj id with
  |some (.arr _ e s l)=>st.setObj id<|.arr true e s l
  |_=>st
 |_=>st
def Bu:List PV->AQ->AQ
 |[],st=>st
 |v::vs,st=>Bu vs<|BN st v
def Vc(T:Cj)(t:TypeId)(len:Nat)(a:List (Nat×PV))(st:AQ):PO:=
 match T.und t with
 |some (.slice e)=>match T.inf e,Zl T 9 e with
  |some i,some s=>
   bif zq (zt len i.size) 16777216&&zn 0 i.zero.length&&zc i.zero.length i.size&&zc i.size s.sz then
    match SV st (fun k=>some (k*i.size,i.size)) (QW (i.zero.map Yh) len) a with
    |some cs=>match chunk s len cs with
     |some l=>.val (.sl st.nx s.sz 0 len none)<|st.push<|.arr false e s l
     |none=>match Dn st cs with
      |some (c,cs')=>match chunk s len cs' with
       |some l=>.Je c (.sl st.nx s.sz 0 len none)<|(Bu cs st).push<|.arr false e s l
       |none=>.bad
      |none=>.bad
    |none=>.bad
   else .bad
  |_,_=>.bad
 |_=>.bad
def mR(T:Cj)(t:TypeId)(l c:PV)(st:AQ):PO:=
 match T.und t,l,c with
 |some (.slice e),.dat (.int _) l,.dat (.int _) c=>match T.inf e,Zl T 9 e with
  |some i,some s=>
   bif zn 0 i.zero.length&&zc i.zero.length i.size&&zc i.size s.sz then
    match DM s (i.zero.map Yh)with
    |some z=>.Je (decide (0<=(l:Int))&&decide ((l:Int)=(c:Int))&&decide (i.bytes*ze l<=LIM)&&decide ((l:Int)<9223372036854775808)) (.sl st.nx s.sz 0 (ze l) none)<|st.push<|.arr false e s<|zi (ze l) z
    |none=>.bad
   else .bad
  |_,_=>.bad
 |_,_,_=>.bad
def kSh(T:Cj)(t:TypeId):Option Sh:=match T.und t with
 |some (.int k)=>some<|.int k
 |some .string=>some .str
 |some .bool=>some .bool
 |_=>none
def OJ:PV->Bool
 | .agg _=>true
 |_=>false
def asV(s:Sh)(p:PV):Option s.T:=bif OJ p==s.OP then DM s p.cells else none
def YP(T:Cj)(t:TypeId)(st:AQ):PO:=match T.und t with
 |some (.map a e)=>match kSh T a,Zl T 9 e with
  |some ks,some vs=>.val (.mp st.nx)<|st.push<|.map ks vs []
  |_,_=>.bad
 |_=>.bad
def pM(st:AQ)(ks vs:Sh)(m:PV):Option (List<|ks.T×vs.T):=match m with
 | .nilm=>some []
 | .mp id=>match st.obj id with
  |some (.map b a l)=>EZ (.list<|.pair b a) (.list<|.pair ks vs) l
  |_=>none
 |_=>none
def vAg:V->Bool
 | .agg _=>true
 |_=>false
def plk(ks vs:Sh)(ok:Bool)(z:vs.T)(x:ks.T)(st:AQ):List (ks.T×vs.T)->PO
 |[]=>.val (bif ok then .tup [Ce vs z,.bl false]else Ce vs z) st
 |(a,b)::l=>.ite (Zn ks x a) (.val (bif ok then .tup [Ce vs b,.bl true]else Ce vs b) st)<|plk ks vs ok z x st l
def Vb(T:Cj)(t:TypeId)(m k:PV)(ok:Bool)(st:AQ):PO:=match T.und t with
 |some (.map a e)=>match kSh T a,Zl T 9 e,T.inf e with
  |some ks,some vs,some i=>match xN ks k,pM st ks vs m,DM vs (i.zero.map Yh)with
   |some x,some l,some z=>
    bif vAg i.zv==vs.OP then bif vs.Aa2 then plk ks vs ok z x st l else
     (let v:=Ce vs ((EB ks vs x l).getD z)
     .val (bif ok then .tup [v,.dat .bool (EB ks vs x l).isSome]else v) st)
    else .bad
   |_,_,_=>.bad
  |_,_,_=>.bad
 |_=>.bad
def T4(T:Cj)(t:TypeId)(m k v:PV)(st:AQ):PO:=match T.und t,m with
 |some (.map b _),.mp id=>match kSh T b,st.obj id with
  |some ks,some (.map a vs l)=>match xN ks k,EZ (.list<|.pair a vs) (.list<|.pair ks vs) l,asV vs v with
   |some x,some l,some y=>.val (.tup [])<|st.setObj id<|.map ks vs<|H4 ks vs x y l
   |_,_,_=>.bad
  |_,_=>.bad
 |_,_=>.bad
def TM(T:Cj)(ts:Array TypeId)(args:List PV)(st:AQ):PO:=match ts[0]?,args with
 |some t,[.mp id,k]=>match T.und t with
  |some (.map b _)=>match kSh T b,st.obj id with
   |some ks,some (.map a vs l)=>match xN ks k,EZ (.list<|.pair a vs) (.list<|.pair ks vs) l with
    |some x,some l=>.val (.tup [])<|st.setObj id<|.map ks vs<|Vj ks vs x l
    |_,_=>.bad
   |_,_=>.bad
  |_=>.bad
 |_,_=>.bad
abbrev L0:=Cj->AQ->PO
def v1(st:AQ)(x:Operand)(k:PV->PO):PO:=match RY st x with|some v=>k v|none=>.bad
def Yc(x:Operand):L0:=fun _ st=>ov st<|RY st x
def lQ(c a b:Operand):L0:=fun _ st=>v1 st c fun c=>v1 st a fun a=>v1 st b fun b=>lW c a b st
def Ab7(T:Cj)(t:TypeId):Bool:=
 match T.und t with
 |some (.struct fs)=>match fs[0]? with
  |some f=>match T.und f.type with
   |some (.pointer u)=>zc u t
   |_=>false
  |none=>false
 |_=>false
def Vv(t:TypeId):L0:=fun T st=>match AeE T t with
 |some (s,n)=>.val (.ptr st.nx 0)<|st.push<|.arr false t s<|zi n s.Ip
 |none=>match tC T t with|some cs=>.val (.ptr st.nx 0) (st.push<|bif Ab7 T t then .tbox t cs else .box cs)|none=>.bad
def AcE(_:TypeId)(x:Operand):L0:=fun _ st=>v1 st x fun v=>match pcs st v with|some cs=>bif LK (Mc st) cs then .val (.ptr st.nx 0) (st.push<|.box cs)else .bad|none=>.bad
def Z1(t:TypeId)(ps:Array (Nat×Operand)):L0:=fun T st=>match jI st ps.toList with|some l=>ov st (X4 T st t l)|none=>.bad
def V3(t:TypeId)(n:Nat)(ps:Array (Nat×Operand)):L0:=fun T st=>match jI st ps.toList with|some l=>Vc T t n l st|none=>.bad
def vJ(t:TypeId)(x:Operand):L0:=fun T st=>v1 st x fun a=>OC T st t a
def bK(t:TypeId)(x y:Operand):L0:=fun T st=>v1 st x fun a=>v1 st y fun b=>Ym T st t a b
def Qd(x:Operand):L0:=fun _ st=>v1 st x fun a=>match a with| .ptr id _| .eptr id _ _ _=>bif I3 (st.obj id)then .val a st else .bad| .A8 .. =>.val a st|_=>.bad
def Acm(T:Cj)(op:BinOp)(t:TypeId)(x y:Operand)(a b:PV):Option Bool:=
 match op,a,b,T.und t with
 | .eql,.nili,.nili,some (.interface _)=>bif aL x||aL y then some true else none
 | .neq,.nili,.nili,some (.interface _)=>bif aL x||aL y then some false else none
 |_,_,_,_=>none
def AcF(op:BinOp)(t:TypeId)(x y:Operand)(_:TypeId):L0:=fun T st=>v1 st x fun a=>v1 st y fun b=>match Acm T op t x y a b with|some r=>.val (.bl r) st|none=>Afg T op t a b st
def AgU(op:UnOp)(_:TypeId)(x:Operand):L0:=fun _ st=>v1 st x fun a=>pun op a st
def uD(s d:TypeId)(x:Operand):L0:=fun T st=>v1 st x fun a=>sQ T s d a st
def sP(f:Fn)(a b:Array Operand):L0:=fun _ st=>match Na st a.toList,Na st b.toList with|some x,some y=>.val (.fn f x y) st|_,_=>.bad
def uP(t:TypeId)(l c:Operand):L0:=fun T st=>v1 st l fun a=>v1 st c fun b=>mR T t a b st
def o1(st:AQ)(x:Option Operand)(k:Option PV->PO):PO:=match x with|none=>k none|some y=>v1 st y fun v=>k<|some v
def dG(t:TypeId)(x:Operand)(a b c:Option Operand):L0:=fun T st=>v1 st x fun v=>o1 st a fun l=>o1 st b fun h=>o1 st c fun m=>uE T t v l h m st
def ZY(t:TypeId)(x:Operand)(f:Nat):L0:=fun T st=>v1 st x fun a=>Zb T t a f st
def dH(t:TypeId)(x:Operand)(f:Nat):L0:=fun T st=>v1 st x fun a=>Y6 T t a f st
def bY(t:TypeId)(x i:Operand):L0:=fun T st=>v1 st x fun a=>v1 st i fun b=>kM T t a b st
def cY(t:TypeId)(x i:Operand):L0:=fun T st=>v1 st x fun a=>v1 st i fun b=>YH T t a b st
def SZ(x:Operand)(i:Nat):L0:=fun _ st=>v1 st x fun a=>Rm a i st
def UY(c:Call):L0:=fun T st=>
 match Na st c.args.toList with
 |none=>.bad
 |some args=>match c.callee with
  | .builtin b=>match b with
   | .delete=>TM T c.argTypes args st
   |_=>JZ T b c.argTypes args st
  |_=>.bad
def aN(t:TypeId)(r:Option Operand):L0:=fun T st=>match r with|none=>YP T t st|some _=>.bad
def W6(t:TypeId)(x i:Operand)(ok:Bool):L0:=fun T st=>v1 st x fun a=>v1 st i fun b=>Vb T t a b ok st
def P8(t:TypeId)(m k x:Operand):L0:=fun T st=>v1 st m fun a=>v1 st k fun b=>v1 st x fun c=>T4 T t a b c st
def bZ(t:TypeId)(x:Operand):L0:=fun T st=>v1 st x fun a=>YL T t a st
def tN(x:Operand)(b:Bool):L0:=fun _ st=>v1 st x fun a=>lM a b st
def KN:L0:=fun _ _=>.bad
def pop(o:Op):L0:=@Op.casesOn (fun _=>L0) o Yc Yc lQ Vv AcE Z1 V3 P8 vJ bK (fun _=>KN) (fun _=>KN) Qd AcF AgU uD
 (fun _ _=>KN) (fun _ _=>KN) sP aN (fun _ _=>KN) uP dG ZY dH bY cY W6 P8 (fun _ _ _=>KN) (fun _ _ _ _=>KN)
 bZ tN (fun _=>KN) (fun _ _ _ _=>KN) SZ UY (fun _=>KN) (fun _=>KN) (fun _=>KN) (fun _ _=>KN) (fun _ _ _=>KN) (fun _ _=>KN)
theorem Ou{s:Rd}{i:Nat}(h:i<s.length):(bytesOf s).get! i=s.getD i 0:=by
 unfold bytesOf;show(s.toArray)[i]! =_;simp[h]
theorem Xo{s:Rd}{i:Nat}(h:i<s.length)(a:(s.getD i 0).toNat<128):rune s i=((s.getD i 0).toNat:Int)/\KV s i=1:=by
 unfold rune KV zp;have e:=Ou h;simp only[Nat.add_zero,e,a,wm];simp
theorem SO{s:Rd}{i:Nat}(h:i<s.length)(c:128<=(s.getD i 0).toNat):128<=rune s i:=by
 unfold rune zp;have e:=Ou h;simp only[Nat.add_zero,e];rw[wc ae];have b:(128:Int)<=((Utf8.runeError:Nat):Int):=af
 split
 ·split
  ·rename_i a;simp only;omega
  ·exact b
 ·split
  ·split
   ·rename_i a;simp only[ge_iff_le,zl,w5]at a ⊢;omega
   ·exact b
  ·split
   ·split
    ·rename_i a;simp only[ge_iff_le,zl,w5]at a ⊢;omega
    ·exact b
   ·exact b
end Go.Pe
namespace Go.Sp
def letter(c:Int):Bool:=(decide (97<=c)&&decide (c<=122))||(decide (65<=c)&&decide (c<=90))
def mark(c:Int):Bool:=letter c||(decide (48<=c)&&decide (c<=57))||c==95
def isName:Rd->Bool
 |[]=>false
 |c::s=>decide (s.length<=23)&&letter (c.toNat:Int)&&s.all fun c=>mark (c.toNat:Int)
end Go.Sp
namespace Go.Pe
open Go.Det
theorem Pq(a b:Rd):Zn .str a b=decide (a=b):=by
 show(a==b)=_;by_cases h:a=b<;>simp[h]
theorem Ht{v:Sh}(x k:Rd)(b:v.T):∀m:List (Rd×v.T),EB .str v x (H4 .str v k b m)=if x=k then some b else EB .str v x m
 |[]=>by
  show(bif Zn .str x k then some b else none)=_;rw[Pq];by_cases h:x=k<;>simp[h,EB]
 |(a,c)::m=>by
  show EB .str v x (bif Zn .str k a then(k,b)::m else(a,c)::H4 .str v k b m)=_;rw[Pq];by_cases h:k=a
  ·subst h;simp only[decide_true,we];show(bif Zn .str x k then some b else EB .str v x m)=if x=k then some b else(bif Zn .str x k then some c else EB .str v x m)
   rw[Pq];by_cases d:x=k<;>simp[d]
  ·simp only[h,decide_false,wg];show(bif Zn .str x a then some c else EB .str v x<|H4 .str v k b m)=if x=k then some b else(bif Zn .str x a then some c else EB .str v x m)
   rw[Pq,Ht x k b m];by_cases d:x=a
   ·subst d;simp[Ne.symm h]
   ·simp[d]
def I6(m:List (Rd×Bool))(p:Rd->Prop):Prop:=∀x,(EB .str .bool x m).getD false=true↔p x
theorem I6.nil:I6 [] (fun _=>False):=fun x=>by simp[EB]
theorem I6.add{m:List (Rd×Bool)}{p:Rd->Prop}(h:I6 m p)(k:Rd):I6 (H4 .str .bool k true m) (fun x=>x=k\/p x):=fun x=>by
 rw[Ht];by_cases e:x=k
 ·simp[e]
 ·rw[wc e,h x];simp[e]
theorem I6.congr{m:List (Rd×Bool)}{p q:Rd->Prop}(h:I6 m p)(e:∀x,p x↔q x):I6 m q:=fun x=>(h x).trans<|e x
end Go.Pe
namespace Go.Det
section
abbrev Zs:=FuncId->Option (List V->H->Option (V×H))
def HY(P:Program)(s:Zs):Prop:=∀f q,s f=some q->∀(p:Pl) (h:H) (w:World) (args:List V) (args':Array Value) v h',R p h w->Gp p->Ay p args args'.toList->q args h=some (v,h')->
 Calls P f args' w fun e w'=>∃v' p',e=.returned v'/\Ae p' v v'/\Ext p h w p' h' w'
def orS(a b:Zs):Zs:=fun f=>match a f with
 |some q=>some q
 |none=>b f
variable {P:Program}
theorem Qf{a b:Zs}(d:HY P a)(c:HY P b):HY P (orS a b):=by
 grind [orS,HY]
def eB(C:Ctx)(s:Zs):Ctx:={ C with spec:=s }
theorem WE{C:Ctx}(a:C.Ok P){s:Zs}(h:HY P s):(eB C s).Ok P where
 T:=a.T
 fn:=a.fn
 prim:=a.prim
 spec:=h
theorem OA{C:Ctx}(a:G7 C)(s:Zs):G7 (eB C s):=a
theorem Ug{C:Ctx}(b:C.Ok P)(a:G7 C)(c:P.follows .mixedOrders=true){n:Nat}{L:CM}(h:AV C n L=true):HY P (Ij L):=Aam (C':=C) b a c h
theorem AN{C:Ctx}{n:Nat}:∀ {a b:CM},AV C n a=true->AV C n b=true->AV C n (a++b)=true
 |[],b,_,h=>h
 |(f,x,v)::a,b,h,k=>by
  simp only[AV,zk,zl]at h ⊢;exact⟨h.1,AN h.2 k⟩
def Lc(C:Ctx)(n:Nat)(L:CM):Zs:=fun f=>match Ij L f with
 |none=>none
 |some q=>some fun args h=>match q args h with
  |some x=>some x
  |none=>match Bh C n (.fn f args) h with
   |some [x]=>some x
   |_=>none
theorem Ss{C:Ctx}(g:C.Ok P)(c:G7 C)(j:P.follows .mixedOrders=true){n k:Nat}{L:CM}(r:AV C k L=true):HY P (Lc C n L):=by
 intro f q d p h w args args' v h' hr m b a;unfold Lc at d;cases l:Ij L f with
 |none=>grind
 |some q0=>
  rw[l]at d;cases d;simp only at a;split at a
  case h_1=>rename_i x s;cases a;exact Ug g c j r f q0 l p h w args args' v h' hr m b s
  case h_2=>
   split at a
   case h_2=>cases a
   rename_i x o;refine((HS g c j n).fn f args h _ o p w args' hr m b).mono ?_;rintro e w' ⟨v1,t,v',p',i,rfl,u,y⟩;grind
theorem NM{p:Pl}{h:H}{w w':World}(hr:R p h w)(a:Go.RowKit.Below w.heap.size w w')(c:w.drawn<=w'.drawn):Ext p h w p h w':=by
 obtain⟨d,g,e,f,i⟩:=a;refine⟨(by simp),⟨hr.len,fun b o a=>?_,hr.inj⟩,f,ah,ah,d,e,g,ah,c⟩;obtain⟨r,m,y,g1,g2,g3⟩:=hr.obj b o a;grind
end
end Go.Det
