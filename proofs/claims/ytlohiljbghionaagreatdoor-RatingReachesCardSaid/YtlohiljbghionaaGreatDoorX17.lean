import Derived.Test.YtlohiljbghionaaGreatDoorX16
import Derived.ChangeSame
import Derived.ChangeShapes
import Derived.OpenShut
import Derived.Test.YtlohiljbghionaaGreatDoorRows
import Derived.LaidByTextLater
import Derived.SevenTiedAt
import Derived.LaidSub
import Derived.LaidOnce
/- A part of a proof; no law is stated here. -/
noncomputable section
open Go.Pe.Ends renaming tt -> zc, Ah -> zg, leaf -> zr, ff -> zt, ite -> yg
open Bool renaming and_eq_true -> zd
open Int renaming toNat_natCast -> ze, toNat -> zz
open List renaming all_eq_true -> zf, length_cons -> zh, take_length -> zi, mem_cons_self -> zl, length_append -> zm, getElem?_eq_getElem -> zq, mem_append -> zu, mem_of_mem_drop -> zy, mem_flatMap -> z6, mem_cons -> z7, map_cons -> ya, mem_append_right -> yd, getElem?_take_of_lt -> yh, all_cons -> yk, map_take -> ym, map_drop -> yn, range -> yo, mem_map -> yq
open Go.IntKind renaming wrap -> zj
open Go.DataW renaming weightsEach -> zk, trod -> zo, weights -> z8, TrodAll -> yf, Trod -> yp
open Array renaming getElem?_eq_some_iff -> zn, getElem?_eq_none -> zx
open Nat renaming eq_of_beq_eq_true -> zp, beq -> yb, add -> ye
open Option renaming bind_some -> zw, bind_eq_some_iff -> yi
open Go.Value renaming okWide -> yc
open Go.World renaming cell? -> yj
open Go.Addr renaming add -> yr
namespace Go.Pe
open Sp
open Go.Det
open Go.Sp (AW BR BT BB Hw BM CB)
def CV(st:AL)(s:Sh)(v:PV)(l:List s.T):Prop:=∃x,BS st v=some (true,x)/\(x=.dat (.list s) l\/x=.nil/\l=[])
theorem Fy{st:AL}{s:Sh}:CV st s .nil []:=⟨.nil,rfl,.inr ⟨rfl,rfl⟩⟩
theorem H9{s:Sh}{sz id:Nat}{ob:Ob}{fz:Bool}{t:TypeId}{l:List s.T}(b:s.sz=sz)(a:AP ob id=some (.arr fz t s l)):CV ⟨0,.leaf,ob,0⟩ s (.sl id sz 0 l.length none) l:=⟨_,yY b a,.inl rfl⟩
theorem AaD{ob:Ob}{a b d:PV}{S:List BR}{e:List CB}{V:List BT}(j:CV ⟨0,.leaf,ob,0⟩ Ce a S)(f:CV ⟨0,.leaf,ob,0⟩ Ek b e)(g:CV ⟨0,.leaf,ob,0⟩ CF d V):Ew ⟨0,.leaf,ob,0⟩ BX (.agg [a,b,d])=some (true,(S,e,V)):=by
 obtain⟨x,h,k⟩:=j;obtain⟨y,hy,cy⟩:=f;obtain⟨z,hz,cz⟩:=g;have i:Dj ⟨0,.leaf,ob,0⟩ (PV.cells<|.agg [a,b,d])=some (true,[x,y,z]):=by
  show(match BS ⟨0,.leaf,ob,0⟩ a,(match BS ⟨0,.leaf,ob,0⟩ b,(match BS ⟨0,.leaf,ob,0⟩ d,some (true,[])with|some (c,x),some (d,xs)=>some (c&&d,x::xs)|_,_=>none)with|some (c,x),some (d,xs)=>some (c&&d,x::xs)|_,_=>none)with|some (c,x),some (d,xs)=>some (c&&d,x::xs)|_,_=>none)=_;rw[h,hy,hz];rfl
 unfold Ew;rw[i];rcases k with rfl|⟨rfl,rfl⟩<;>rcases cy with rfl|⟨rfl,rfl⟩<;>rcases cz with rfl|⟨rfl,rfl⟩<;>rfl
theorem Fi{ob:Ob}{a b d:PV}{c:AW}(g:CV ⟨0,.leaf,ob,0⟩ Ce a c.1)(f:CV ⟨0,.leaf,ob,0⟩ Ek b c.2.1)(e:CV ⟨0,.leaf,ob,0⟩ CF d c.2.2):Ad JQ c (.agg [a,b,d]) ob:=⟨c,AaD g f e,rfl⟩
theorem Q9{n m k:Nat}(h:n=m)(a:(3*(n+1)+2000)*k<=562949953421312):(decide (1<=1)&&true&&decide (n=m)&&decide ((3*(n+1)+2000)*k<=562949953421312))=true:=Ab (Ab (Ab rfl rfl)<|w4 h)<|w4 a
theorem Q8{k:Nat}(a:k<=100):(decide (1<=1)&&decide (0<1)&&decide ((3*1+2000)*k<=562949953421312))=true:=Ab (Ab rfl rfl) (w4<|Nat.le_trans (Nat.mul_le_mul_left _ a) af)
structure Ud(c:AW):Prop where
 s:c.1.length<=1599289640401
 t:c.2.1.length<=3518437208883
 l:c.2.2.length<=1466015503701
 so:∀x∈c.1,x.2.2.2.2.length<=5864062014805
 lo:∀x∈c.2.2,eF x=true
theorem AaN{c:AW}(h:xU c=true):Ud c:=by
 unfold xU at h;rw[zd,zd,zd,zd,w5,w5,w5,zf,zf]at h;obtain⟨⟨⟨⟨a,g⟩,b⟩,d⟩,e⟩:=h;exact⟨a,g,b,fun x f=>w6<|d x f,e⟩
theorem CL{i n:Nat}(h:i<n):(decide ((0:Int)<=(i:Int))&&decide ((i:Int)<(n:Int)))=true:=ad ae ae
theorem pQ{i:Nat}(h:i<=4611686018427387904):zj .i64 ((i:Int)+1)=((i+1:Nat):Int):=by rw[wr _ ae ae];omega
theorem kR:Dg BK:=Aa T12.ok AI
namespace T10
theorem AdE(c:AW)(g:Ud c)(j:c.1=[])(m:c.2.1=[]):∀(r:List BT) (i n:Nat) (o:List BT),c.2.2.drop i=r->i<=c.2.2.length->n=o.length->o=c.2.2.take i->n=i->Ends BK (L12 c (i:Int) o n) (Ad JQ c)
 |[],i,n,o,h,k,f,b,a=>by
  have e:=drop_nil h k;have b:o=c.2.2:=by rw[b,e,zi]
  subst b;subst f;exact zg (gE ..) (zt (w8 ae)<|zr (Fi (by rw[j];exact Fy) (by rw[m];exact Fy)<|H9 rfl rfl))
 |p::r,i,n,o,h,k,f,b,a=>by
  have t2:=Dh h;obtain⟨q,t,s⟩:=drop_cons (d:=(([],[],[],[],[]):BT)) h;have u:=g.lo p (zy<|by rw[h];exact zl ..);have v:=g.l;refine zg (gE ..) ?_;conv=>zeta
  rw[ze,t,pQ ae];refine zc (w4 ae) (zc (CL q)<|zc u<|zc (Q9 f ae) ?_);exact AdE c g j m r (i+1) (ye n 1) (o++[p]) s q (by rw[zm,f];rfl) (by rw[t2,b]) (by rw[a])
theorem Ad8(c:AW)(a:Ud c)(d:c.1=[])(b:c.2.1=[]):Ends BK (L8 c 0) (Ad JQ c):=by
 have h:=a.l;cases hr:c.2.2 with
 |nil=>exact zg (Hu ..) (zt (by rw[hr];rfl) (zr<|Fi (by rw[d];exact Fy) (by rw[b];exact Fy)<|by rw[hr];exact Fy))
 |cons p r=>
  have e:0<c.2.2.length:=by rw[hr,zh];omega
  have f:c.2.2.getD (zz 0) ([],[],[],[],[])=p:=by rw[hr];rfl
  have g:=a.lo p (by rw[hr];exact zl ..);refine zg (Hu ..) ?_;conv=>zeta
  rw[f,show zj .i64 ((0:Int)+1)=((1:Nat):Int)from rfl];refine zc (w4 ae) (zc (CL (i:=0) e)<|zc g<|zc (Q8 af) ?_);exact AdE c a d b r 1 1 [p] (by rw[hr];rfl) e rfl (by rw[hr];rfl) rfl
theorem Acw(c:AW)(g:Ud c)(j:c.1=[]):∀(r:List BT) (i n:Nat) (o:List BT),c.2.2.drop i=r->i<=c.2.2.length->n=o.length->o=c.2.2.take i->n=i->Ends BK (L16 c (i:Int) o c.2.1 c.2.1.length n) (Ad JQ c)
 |[],i,n,o,h,k,f,b,a=>by
  have e:=drop_nil h k;have b:o=c.2.2:=by rw[b,e,zi]
  subst b;subst f;exact zg (kY ..) (zt (w8 ae)<|zr (Fi (by rw[j];exact Fy) (H9 rfl rfl)<|H9 rfl rfl))
 |p::r,i,n,o,h,k,f,b,a=>by
  have t2:=Dh h;obtain⟨m,s,q⟩:=drop_cons (d:=(([],[],[],[],[]):BT)) h;have t:=g.lo p (zy (by rw[h];exact zl ..));have u:=g.l;refine zg (kY ..) ?_;conv=>zeta
  rw[ze,s,pQ ae];refine zc (w4 ae) (zc (CL m) (zc t<|zc (Q9 f ae) ?_));exact Acw c g j r (i+1) (ye n 1) (o++[p]) q m (by rw[zm,f];rfl) (by rw[t2,b]) (by rw[a])
theorem AeN(c:AW)(a:Ud c)(b:c.1=[]):Ends BK (L11 c 0 c.2.1 c.2.1.length) (Ad JQ c):=by
 have g:=a.l;cases hr:c.2.2 with
 |nil=>exact zg (iJ ..) (zt (by rw[hr];rfl) (zr<|Fi (by rw[b];exact Fy) (H9 rfl rfl) (by rw[hr];exact Fy)))
 |cons p r=>
  have d:0<c.2.2.length:=by rw[hr,zh];omega
  have e:c.2.2.getD (zz 0) ([],[],[],[],[])=p:=by rw[hr];rfl
  have f:=a.lo p (by rw[hr];exact zl ..);refine zg (iJ ..) ?_;conv=>zeta
  rw[e,show zj .i64 ((0:Int)+1)=((1:Nat):Int)from rfl];refine zc (w4 ae) (zc (CL (i:=0) d)<|zc f<|zc (Q8 af) ?_);exact Acw c a b r 1 1 [p] (by rw[hr];rfl) d rfl (by rw[hr];rfl) rfl
theorem AcR(c:AW)(g:Ud c)(k:c.2.1=[]):∀(r:List BT) (i n:Nat) (o:List BT),c.2.2.drop i=r->i<=c.2.2.length->n=o.length->o=c.2.2.take i->n=i->Ends BK (L18 c (i:Int) o c.1 c.1.length n) (Ad JQ c)
 |[],i,n,o,h,j,f,b,a=>by
  have e:=drop_nil h j;have b:o=c.2.2:=by rw[b,e,zi]
  subst b;subst f;exact zg (jZ ..) (zt (w8 ae)<|zr (Fi (H9 rfl rfl) (by rw[k];exact Fy)<|H9 rfl rfl))
 |p::r,i,n,o,h,j,f,b,a=>by
  have t2:=Dh h;obtain⟨m,s,q⟩:=drop_cons (d:=(([],[],[],[],[]):BT)) h;have t:=g.lo p (zy<|by rw[h];exact zl ..);have u:=g.l;refine zg (jZ ..) ?_;conv=>zeta
  rw[ze,s,pQ ae];refine zc (w4 ae) (zc (CL m) (zc t<|zc (Q9 f ae) ?_));exact AcR c g k r (i+1) (ye n 1) (o++[p]) q m (by rw[zm,f];rfl) (by rw[t2,b]) (by rw[a])
theorem AeM(c:AW)(a:Ud c)(b:c.2.1=[]):Ends BK (L15 c 0 c.1 c.1.length) (Ad JQ c):=by
 have g:=a.l;cases hr:c.2.2 with
 |nil=>exact zg (eO ..) (zt (by rw[hr];rfl) (zr<|Fi (H9 rfl rfl) (by rw[b];exact Fy) (by rw[hr];exact Fy)))
 |cons p r=>
  have d:0<c.2.2.length:=by rw[hr,zh];omega
  have e:c.2.2.getD (zz 0) ([],[],[],[],[])=p:=by rw[hr];rfl
  have f:=a.lo p (by rw[hr];exact zl ..);refine zg (eO ..) ?_;conv=>zeta
  rw[e,show zj .i64 ((0:Int)+1)=((1:Nat):Int)from rfl];refine zc (w4 ae) (zc (CL (i:=0) d) (zc f<|zc (Q8 af) ?_));exact AcR c a b r 1 1 [p] (by rw[hr];rfl) d rfl (by rw[hr];rfl) rfl
theorem Adj(c:AW)(g:Ud c):∀(r:List BT) (i n:Nat) (o:List BT),c.2.2.drop i=r->i<=c.2.2.length->n=o.length->o=c.2.2.take i->n=i->Ends BK (L19 c (i:Int) o c.2.1 c.1 c.1.length c.2.1.length n) (Ad JQ c)
 |[],i,n,o,h,j,f,b,a=>by
  have e:=drop_nil h j;have b:o=c.2.2:=by rw[b,e,zi]
  subst b;subst f;exact zg (lX ..) (zt (w8 ae)<|zr<|Fi (H9 rfl rfl) (H9 rfl rfl)<|H9 rfl rfl)
 |p::r,i,n,o,h,j,f,b,a=>by
  have t2:=Dh h;obtain⟨k,q,m⟩:=drop_cons (d:=(([],[],[],[],[]):BT)) h;have s:=g.lo p (zy<|by rw[h];exact zl ..);have t:=g.l;refine zg (lX ..) ?_;conv=>zeta
  rw[ze,q,pQ ae];refine zc (w4 ae) (zc (CL k) (zc s<|zc (Q9 f ae) ?_));exact Adj c g r (i+1) (ye n 1) (o++[p]) m k (by rw[zm,f];rfl) (by rw[t2,b]) (by rw[a])
theorem Aeb(c:AW)(a:Ud c):Ends BK (L17 c 0 c.2.1 c.1 c.1.length c.2.1.length) (Ad JQ c):=by
 have f:=a.l;cases hr:c.2.2 with
 |nil=>exact zg (oQ ..) (zt (by rw[hr];rfl) (zr<|Fi (H9 rfl rfl) (H9 rfl rfl) (by rw[hr];exact Fy)))
 |cons p r=>
  have b:0<c.2.2.length:=by rw[hr,zh];omega
  have d:c.2.2.getD (zz 0) ([],[],[],[],[])=p:=by rw[hr];rfl
  have e:=a.lo p (by rw[hr];exact zl ..);refine zg (oQ ..) ?_;conv=>zeta
  rw[d,show zj .i64 ((0:Int)+1)=((1:Nat):Int)from rfl];refine zc (w4 ae) (zc (CL (i:=0) b) (zc e<|zc (Q8 af) ?_));exact Adj c a r 1 1 [p] (by rw[hr];rfl) b rfl (by rw[hr];rfl) rfl
theorem te6(c:AW)(g:Ud c)(k:c.1=[]):∀(r:List CB) (i n:Nat) (o:List CB),c.2.1.drop i=r->i<=c.2.1.length->n=o.length->o=c.2.1.take i->n=i->Ends BK (L7 c (i:Int) o n) (Ad JQ c)
 |[],i,n,o,h,l,f,b,a=>by
  have e:=drop_nil h l;have b:o=c.2.1:=by rw[b,e,zi]
  subst b;subst f;exact zg (DT ..) (zt (w8 ae)<|AeN c g k)
 |p::r,i,n,o,h,l,f,b,a=>by
  have t2:=Dh h;obtain⟨j,q,m⟩:=drop_cons (d:=(([],[]):CB)) h;have s:=g.t;refine zg (DT ..) ?_;conv=>zeta
  rw[ze,q,pQ ae];refine zc (w4 ae) (zc (CL j)<|zc (CL j) (zc (Q9 f ae) ?_));exact te6 c g k r (i+1) (ye n 1) (o++[p]) m j (by rw[zm,f];rfl) (by rw[t2,b]) (by rw[a])
theorem ts6(c:AW)(a:Ud c)(d:c.1=[]):Ends BK (L4 c 0) (Ad JQ c):=by
 have f:=a.t;cases hr:c.2.1 with
 |nil=>exact zg (CD ..) (zt (by rw[hr];rfl)<|Ad8 c a d hr)
 |cons p r=>
  have b:0<c.2.1.length:=by rw[hr,zh];omega
  have e:c.2.1.getD (zz 0) ([],[])=p:=by rw[hr];rfl
  refine zg (CD ..) ?_;conv=>zeta
  rw[e,show zj .i64 ((0:Int)+1)=((1:Nat):Int)from rfl];refine zc (w4 ae) (zc (CL (i:=0) b) (zc (CL (i:=0) b)<|zc (Q8 af) ?_));exact te6 c a d r 1 1 [p] (by rw[hr];rfl) b rfl (by rw[hr];rfl) rfl
theorem AdI(c:AW)(g:Ud c):∀(r:List CB) (i n:Nat) (o:List CB),c.2.1.drop i=r->i<=c.2.1.length->n=o.length->o=c.2.1.take i->n=i->Ends BK (L14 c (i:Int) o c.1 c.1.length n) (Ad JQ c)
 |[],i,n,o,h,k,f,b,a=>by
  have e:=drop_nil h k;have b:o=c.2.1:=by rw[b,e,zi]
  subst b;subst f;exact zg (nI ..) (zt (w8 ae)<|Aeb c g)
 |p::r,i,n,o,h,k,f,b,a=>by
  have t2:=Dh h;obtain⟨j,m,l⟩:=drop_cons (d:=(([],[]):CB)) h;have q:=g.t;refine zg (nI ..) ?_;conv=>zeta
  rw[ze,m,pQ ae];refine zc (w4 ae) (zc (CL j)<|zc (CL j)<|zc (Q9 f ae) ?_);exact AdI c g r (i+1) (ye n 1) (o++[p]) l j (by rw[zm,f];rfl) (by rw[t2,b]) (by rw[a])
theorem Aea(c:AW)(a:Ud c):Ends BK (zN c 0 c.1 c.1.length) (Ad JQ c):=by
 have e:=a.t;cases hr:c.2.1 with
 |nil=>exact zg (TV ..) (zt (by rw[hr];rfl)<|AeM c a hr)
 |cons p r=>
  have b:0<c.2.1.length:=by rw[hr,zh];omega
  have d:c.2.1.getD (zz 0) ([],[])=p:=by rw[hr];rfl
  refine zg (TV ..) ?_;conv=>zeta
  rw[d,show zj .i64 ((0:Int)+1)=((1:Nat):Int)from rfl];refine zc (w4 ae) (zc (CL (i:=0) b) (zc (CL (i:=0) b)<|zc (Q8 af) ?_));exact AdI c a r 1 1 [p] (by rw[hr];rfl) b rfl (by rw[hr];rfl) rfl
variable {Q:PV->Ob->Prop}
theorem AcF(c:AW)(t:Ud c)(i n:Nat)(o:List BR)(p:BR)(a:i<c.1.length)(m:c.1.getD i ([],[],[],[],[])=p)(w:n=o.length)(u:n=i)(K:Ends BK (L6 c ((i+1:Nat):Int) (o++[p])<|ye n 1) Q):∀(r:List Hw) (j k:Nat) (q:List Hw),p.2.2.2.2.drop j=r->j<=p.2.2.2.2.length->k=q.length->q=p.2.2.2.2.take j->k=j->Ends BK (L13 c (i:Int) (j:Int) q o p.1 p.2.1 p.2.2.1 p.2.2.2.1 k n) Q
 |[],j,k,q,h,x,l,f,g=>by
  have e:=drop_nil h x;have f:q=p.2.2.2.2:=by rw[f,e,zi]
  have A:=t.s;subst f;subst l;refine zg (kX ..) ?_;conv=>zeta
  rw[ze,ze,m,zi,pQ (i:=i) ae];refine zc (CL a) (zt (w8 ae) (zc (Ab (w4 ae) rfl)<|zc (Q9 w ae) ?_));exact K
 |b::r,j,k,q,h,x,l,f,g=>by
  have t2:=Dh h;obtain⟨v,y,z⟩:=drop_cons (d:=(([],0):Hw)) h;have A:=t.s;have B:=t.so p (by rw[<-m];exact GK a);refine zg (kX ..) ?_;conv=>zeta
  rw[ze,ze,m,y,pQ (i:=j) ae];refine zc (CL a) (zc (w4 ae) (zc (CL a)<|zc (CL v) (zc (CL a) (zc (CL v)<|zc (Q9 l ae) ?_))));exact AcF c t i n o p a m w u K r (j+1) (ye k 1) (q++[b]) z v (by rw[zm,l];rfl) (by rw[t2,f]) (by rw[g])
theorem in8(c:AW)(h:Ud c)(i n:Nat)(o:List BR)(p:BR)(a:i<c.1.length)(g:c.1.getD i ([],[],[],[],[])=p)(e:n=o.length)(d:n=i)(K:Ends BK (L6 c ((i+1:Nat):Int) (o++[p])<|ye n 1) Q):Ends BK (L9 c (i:Int) 0 o p.1 p.2.1 p.2.2.1 p.2.2.2.1 n) Q:=by
 have t:=h.s;obtain⟨k,q,m,j,l⟩:=p;refine zg (lH ..) ?_;conv=>zeta
 rw[ze,g,pQ (i:=i) ae];cases l with
 |nil=>
  refine zc (CL a) (zt rfl (zc (Q9 e ae) ?_));exact K
 |cons b r=>
  have f:0<(b::r).length:=by rw[zh];omega
  refine zc (CL a) (zc (w4<|by rw[zh];omega) (zc (CL a)<|zc (CL (i:=0) f)<|zc (CL a)<|zc (CL (i:=0) f)<|zc (Q8 af) ?_));exact AcF c h i n o (k,q,m,j,b::r) a g e d K r 1 1 [b] rfl (by show 1<=(b::r).length;omega) rfl rfl rfl
theorem si5(c:AW)(j:Ud c):∀(r:List BR) (i n:Nat) (o:List BR),c.1.drop i=r->i<=c.1.length->n=o.length->o=c.1.take i->n=i->Ends BK (L6 c (i:Int) o n) (Ad JQ c)
 |[],i,n,o,h,k,g,f,a=>by
  have e:=drop_nil h k;have f:o=c.1:=by rw[f,e,zi]
  subst f;subst g;exact zg (EP ..) (zt (w8 ae)<|Aea c j)
 |p::r,i,n,o,h,k,g,f,a=>by
  have t2:=Dh h;obtain⟨b,l,m⟩:=drop_cons (d:=(([],[],[],[],[]):BR)) h;have K:=si5 c j r (i+1) (ye n 1) (o++[p]) m b (by rw[zm,g];rfl) (by rw[t2,f]) (by rw[a]);have q:=in8 c j i n o p b l g a K;refine zg (EP ..) ?_;conv=>zeta
  rw[ze,l];exact zc (w4 ae)<|zc (CL b)<|zc (CL b)<|zc (CL b)<|zc (CL b) q
theorem in4(c:AW)(s:Ud c)(p:BR)(a:0<c.1.length)(m:c.1.getD 0 ([],[],[],[],[])=p)(K:Ends BK (L6 c ((1:Nat):Int) [p] 1) Q):∀(r:List Hw) (j k:Nat) (q:List Hw),p.2.2.2.2.drop j=r->j<=p.2.2.2.2.length->k=q.length->q=p.2.2.2.2.take j->k=j->Ends BK (L5 c 0 (j:Int) q p.1 p.2.1 p.2.2.1 p.2.2.2.1 k) Q
 |[],j,k,q,h,o,l,f,g=>by
  have e:=drop_nil h o;have f:q=p.2.2.2.2:=by rw[f,e,zi]
  subst f;subst l;refine zg (Eu ..) ?_;conv=>zeta
  rw[show zz 0=0 from rfl,ze,m,zi,show zj .i64 ((0:Int)+1)=((1:Nat):Int)from rfl];refine zc (CL (i:=0) a) (zt (w8 ae) (zc (Ab (w4 ae) rfl) (zc (Q8 af) ?_)));exact K
 |b::r,j,k,q,h,o,l,f,g=>by
  have t2:=Dh h;obtain⟨n,t,u⟩:=drop_cons (d:=(([],0):Hw)) h;have v:=s.so p (by rw[<-m];exact GK a);refine zg (Eu ..) ?_;conv=>zeta
  rw[show zz 0=0 from rfl,ze,m,t,pQ (i:=j) ae];refine zc (CL (i:=0) a) (zc (w4 ae)<|zc (CL (i:=0) a) (zc (CL n)<|zc (CL (i:=0) a)<|zc (CL n)<|zc (Q9 l ae) ?_));exact in4 c s p a m K r (j+1) (ye k 1) (q++[b]) u n (by rw[zm,l];rfl) (by rw[t2,f]) (by rw[g])
theorem in2(c:AW)(k:Ud c)(p:BR)(a:0<c.1.length)(d:c.1.getD 0 ([],[],[],[],[])=p)(K:Ends BK (L6 c ((1:Nat):Int) [p] 1) Q):Ends BK (L3 c 0 0 p.1 p.2.1 p.2.2.1 p.2.2.2.1) Q:=by
 obtain⟨g,j,h,f,l⟩:=p;refine zg (Ca ..) ?_;conv=>zeta
 rw[show zz 0=0 from rfl,d,show zj .i64 ((0:Int)+1)=((1:Nat):Int)from rfl];cases l with
 |nil=>
  refine zc (CL (i:=0) a) (zt rfl (zc (Q8 af) ?_));exact K
 |cons b r=>
  have e:0<(b::r).length:=by rw[zh];omega
  refine zc (CL (i:=0) a) (zc (w4<|by rw[zh];omega) (zc (CL (i:=0) a) (zc (CL (i:=0) e)<|zc (CL (i:=0) a)<|zc (CL (i:=0) e)<|zc (Q8 af) ?_)));exact in4 c k (g,j,h,f,b::r) a d K r 1 1 [b] rfl (by show 1<=(b::r).length;omega) rfl rfl rfl
theorem ok:Af A9 10 JQ:=by
 refine BN kR<|fun(c:AW) hi=>?_;have b:=AaN hi;refine Ends.eq (Ak c)<|zg (Al ..) ?_;cases hr:c.1 with
 |nil=>exact zg (AJ ..) (zt (by rw[hr];rfl)<|ts6 c b hr)
 |cons p r=>
  have a:0<c.1.length:=by rw[hr,zh];omega
  have d:c.1.getD 0 ([],[],[],[],[])=p:=by rw[hr];rfl
  have k:=in2 c b p a d (si5 c b r 1 1 [p] (by rw[hr];rfl) a rfl (by rw[hr];rfl) rfl);refine zg (AJ ..) ?_;conv=>zeta
  rw[show zz 0=0 from rfl,d];exact zc (w4 ae)<|zc (CL (i:=0) a)<|zc (CL (i:=0) a)<|zc (CL (i:=0) a)<|zc (CL (i:=0) a) k
end T10
open Go.Sp (AW)
theorem T21.ok:Af A9 21 yR:=by
 refine Hp (X:=IB) rfl (fun g sp h=>by cases h) (d:=9) ag ag ag (fun(i:Int×Int) _=>?_) (Be ag);obtain⟨i,n⟩:=i;refine Ends.eq (T21.Ak i n)<|yg (fun c=>zr<|Ad.of rfl rfl ?_)<|fun c=>zr<|Ad.of rfl rfl ?_
 ·show true=Kk i n;unfold Kk;rw[c];rfl
 ·show decide (n<=i)=Kk i n;unfold Kk;rw[c];rfl
theorem yC{c:AW}(k:Od c=0):NK c false=0:=by
 unfold NK;rw[wc<|fun x=>x k];rfl
end Go.Pe
namespace Go.Sp
theorem QL{s:BM}(h:isName s=true):s.length<=24:=by
 cases s with
 |nil=>simp
 |cons c s=>
  unfold isName at h;rw[zd,zd,w5]at h;have:=h.1.1;rw[zh];omega
theorem Rr{n:Int}:∀ {l:List CB} {seen:List BM},Fs n seen l=0->∀t∈l,isName t.1=true
 |[],_,_,t,b=>by cases b
 |x::l,seen,h,t,b=>by
  unfold Fs at h;split at h
  ·exact wh h af
  next a=>
  split at h
  ·exact wh h af
  split at h
  ·exact wh h af
  split at h
  ·exact wh h af
  rcases z7.1 b with rfl|b
  ·simpa using a
  ·exact Rr h t b
theorem Wh:∀ {l:List BB} {seen:List BM},Wk seen l=0->∀w∈l,isName w.1=true
 |[],_,_,w,hw=>by cases hw
 |x::l,seen,h,w,hw=>by
  unfold Wk at h;split at h
  ·exact wh h af
  next a=>
  split at h
  ·exact wh h af
  split at h
  ·next k=>exact wh h k
  split at h
  ·exact wh h af
  rcases z7.1 hw with rfl|hw
  ·simpa using a
  ·exact Wh h w hw
theorem aT{l:BT}(h:Iq l=0):∀w∈l.2.2.2.2,isName w.1=true:=by
 unfold Iq at h;split at h
 ·next k=>exact wh h k
 split at h
 ·next k=>exact wh h k
 unfold Mz at h;split at h
 ·exact wh h af
 exact Wh h
theorem pL{c:AW}(h:Od c=0):(∀t∈c.2.1,isName t.1=true)/\∀l∈c.2.2,∀w∈l.2.2.2.2,isName w.1=true:=by
 unfold Od at h;split at h
 ·exact wh h af
 split at h
 ·exact wh h af
 split at h
 ·next k=>exact wh h k
 unfold Q6 at h;split at h
 ·exact wh h af
 split at h
 ·exact wh h af
 split at h
 ·next k=>exact wh h k
 next a=>
 unfold Mi at h;split at h
 ·exact wh h af
 split at h
 ·exact wh h af
 exact⟨Rr<|Classical.not_not.1 a,fun l b=>aT<|My h l b⟩
theorem Abl{c:AW}{n d:Int}(h:dV c n d=true)(g:Zi n d=true):Od c=0/\Kq c=true:=by
 obtain⟨_,A,_,z⟩:=MN g;unfold dV at h;simp only[zd,w5,zf]at h;obtain⟨⟨⟨a,b⟩,e⟩,hs,hl,k⟩:=h;refine⟨k,?_⟩;obtain⟨nt,nl⟩:=pL k;have C:=O6 k;have u:c.1.all Ce=true:=zf.2 fun x f=>YC (hs x f) g
 have t:c.2.1.all Ek=true:=zf.2 fun x f=>by
  have:=QL<|nt x f;have:=(C.te x f).1;have:=C.s1.2;unfold Ek;rw[w4 ae,w4 ae];rfl
 have v:c.2.2.all CF=true:=zf.2 fun x f=>by
  have m:=ZT (hl x f) g;have w:=hl x f;unfold Fm at w;simp only[zd,w5]at w;unfold MW at m;simp only[zd,w5]at m;obtain⟨⟨⟨⟨s,o⟩,r⟩,l⟩,i⟩:=m;have q:KP x.2.2.2.2 40 20=true:=by
   unfold KP;rw[zf]at i ⊢;intro y j;have:=QL<|nl x f y j;rw[w4 ae,i y j];rfl
  unfold CF;rw[w4 (p:=x.1.length<=40) ae,w4 s,w4 o,w4 r,w4 (p:=x.2.2.2.2.length<=20) ae,l,q];rfl
 unfold Kq;rw[w4 (p:=c.1.length<=38) ae,w4 (p:=c.2.1.length<=10) ae,w4 (p:=c.2.2.length<=10) ae,u,t,v];rfl
theorem Nu.AcY{k:Nat}{s:Z}{q:Rat}(h:Nu k s q)(h0:0<=q):0<=Ey s:=by
 rw[h.t,Ju];have:¬q.num<0:=fun x=>wh h0<|Rat.not_le.2<|(neg_num q).1.1 x
 unfold Mo;rw[wc this];split<;>omega
end Go.Sp
namespace Go.Pe
open Sp
open Go.Det
open Go.Sp (AW BR BT BB Hw BM CB)
theorem mO:Dg Ab5:=Aa nZ<|Aa T10.ok<|Aa T31.ok<|Aa T21.ok<|Aa T17.ok<|Aa T18.ok<|Aa T19.ok<|Aa T32.ok<|Aa T33.ok<|Aa T34.ok<|Aa T35.ok<|Aa T36.ok<|Aa T37.ok<|Aa T38.ok AI
abbrev I2:An:=MV
namespace T6
theorem ok:Af A9 6 I2:=by
 refine BN mO<|fun(i:AW×Int×Int×Int) u=>?_;obtain⟨c,t,h,l⟩:=i;have u:(xU c&&c.2.1.all UB)=true:=u;rw[zd]at u;obtain⟨hc,hT⟩:=u;have o:∀ob,Ad MV (c,(t,h,l)) (.dat .bool true) ob:=fun ob=>Ad.of rfl rfl rfl
 have A:∀ob,Ad MV (c,(t,h,l)) (.bl true) ob:=fun ob=>Ad.of rfl rfl rfl
 have K:Zi 5 4=true:=rfl;refine Ends.eq (Ak c (t,h,l))<|zc rfl (zt rfl (zc hc<|zc (Ab K hT)<|yg (fun _=>zc rfl (zr<|o _))<|fun f=>zc rfl (yg (fun _=>zc rfl (zr<|o _))<|fun r=>zc rfl (yg (fun _=>zc rfl (zr<|o _))<|fun v=>zc rfl (yg (fun _=>zc rfl (zr<|o _))<|fun x=>?_)))));have f:(!dV c 5 4)=false:=f;have f:dV c 5 4=true:=by simpa using f
 have r:dI c t=false:=r;have v:So c h=false:=v;have x:kS c l=false:=x;obtain⟨k,sh⟩:=Abl f K;have O:QY c t h=0:=by unfold QY;rw[r,v];exact yC k
 have q:HN c t h l=0:=by unfold HN;rw[r,v,x];exact yC k
 have w:pS c t h l=true:=Ab sh<|w4 q;obtain⟨P,L,_,_,_,_⟩:=Xp w;have N:=AaM P;have V:=AaG L;have C:=(yD w).z;have lim:=VS w;have pl:Sp.Nu 70 (Ue c t h) (Fh c t h):=by
  unfold Ue;rw[O];exact(Sp.Nu.op N.pl.z af).1
 have kAq:xF c t h=0:=by
  unfold xF;rw[O];exact(Sp.Nu.op N.pl.z af).2
 have m:Sp.Nu 194 (U6 c t h l) (Ui c t h l):=by
  unfold U6;rw[q];exact(Sp.Nu.op C af).1
 have kBq:xH c t h l=0:=by
  unfold xH;rw[q];exact(Sp.Nu.op C af).2
 have fl:Ug c t h l=Nl c t h l:=by
  unfold Ug;rw[q];rfl
 have p0:0<=Fh c t h:=OJ _ _;have G:=LQ L.lr.np P.st.rollB.1;have d:=Vd (p:=Fh c t h) (h:=Az (Dq c l).2.1) G;have j:=cB (p:=Fh c t h) (h:=Az (Dq c l).2.1) G;have F:Jf (Fh c t h) (Az (Dq c l).2.1) (Az (Dq c l).2.2.1) (Az (Ct c h).2.2.2.1)=Nl c t h l:=rfl;rw[F]at d j;have f1:1<=Nl c t h l/\Nl c t h l<=40001:=by
  unfold Nl Jf;omega
 generalize Nl c t h l=n at*;have E:zj .i64 (Ug c t h l-1)=n-1:=by rw[fl];exact wr _ ae ae
 have y:Sp.Nu 5 (Ww<|n-1) ((n-1:Int):Rat):=TB ae af;rw[<-E]at y d j;have step:=V.next.FJ N.roll;have fr:=V.head.FJ N.roll;have J:=y.Q1 step;have re:=fr.FJ J;have I:=re.LB step;have w0:(zj .i64 (zj .i64 (xF c t h+HN c t h l)+xH c t h l) !=0)=false:=by rw[kAq,q,kBq];rfl
 have X:(decide (2<=2)&&true&&(decide (2<=1000000)&&List.all [Ue c t h,U6 c t h l] fun s=>decide (s.length<=9223372036854775807)))=true:=by
  have a:=pl.len af;have b:=m.len af;rw[yk,yk,List.all_nil,w4 (p:=(Ue c t h).length<=9223372036854775807) ae,w4 (p:=(U6 c t h l).length<=9223372036854775807) ae];rfl
 have r2:(Cw [Ue c t h,U6 c t h l] !=0)=false:=by
  unfold Cw Cw Cw;rw[pl.check af,m.check af];rfl
 have U:decide (Ug c t h l<1)=false:=w8 ae;have f3:decide (Ug c t h l>50000)=false:=w8 ae;have sm:XS (zj .i64<|Ug c t h l-1)=true:=w4 (by rw[E];omega);have c1:decide (E0 (FJ (FJ (Dq c l).2.1 (Ct c h).2.2.2.1)<|Q1 (Ww<|zj .i64<|Ug c t h l-1)<|FJ (Dq c l).2.2.1 (Ct c h).2.2.2.1) (Ue c t h)<0)=false:=by
  rw[re.cmp pl,wc<|Rat.not_lt.2 d];split<;>rfl
 have R:=w4 (m.len af);have T:=P.st.rollB.1;have D:decide (Ey (U6 c t h l)>=0)=true:=w4<|m.AcY<|Wz p0 L.lr.hp L.lr.np T;have S:=Ab (m.num af) (pl.EE af);have el:Ui c t h l<=Fh c t h:=Aa5 p0 L.lr.hp L.lr.np T;have M:decide (E0 (U6 c t h l) (Ue c t h)<=0)=true:=by
  rw[m.cmp pl];split
  ·rfl
  ·rw[wc<|Rat.not_lt.2 el];rfl
 have B:(!((Ct c h).2.2.2.1==[48]))=false->(U6 c t h l==Ue c t h)=true:=fun z=>by
  have z:(Ct c h).2.2.2.1=[48]:=by simpa using z
  have Z:Az (Ct c h).2.2.2.1=0:=by rw[z];exact wT.rat
  have e:Ui c t h l=Fh c t h:=by
   unfold Ui;rw[Z];exact oZ L.lr.hp L.lr.np
  rw[m.t,pl.t,e];exact beq_self_eq_true _
 refine zc sh (zc sh<|zc sh<|zt w0<|zc X<|zt r2<|zt U<|zt f3<|zc (vO L.l0)<|zc (vO P.h0)<|zc (Ab (V.next.num af)<|N.roll.num af)<|zc (Ab (V.head.num af)<|N.roll.num af) (zc sm<|zc (Ab (y.num af)<|step.num af)<|zc (Ab (fr.num af)<|J.num af)<|zc (Ab (re.num af)<|pl.EE af)<|zt c1<|yg (fun g=>?_)<|fun g=>?_))
 ·have g:1<n:=by
   have g:Ug c t h l>1:=w6 g;omega
  have Y:decide (E0 (LB (FJ (FJ (Dq c l).2.1 (Ct c h).2.2.2.1)<|Q1 (Ww<|zj .i64<|Ug c t h l-1)<|FJ (Dq c l).2.2.1 (Ct c h).2.2.2.1)<|FJ (Dq c l).2.2.1 (Ct c h).2.2.2.1) (Ue c t h)>=0)=false:=by
   rw[I.cmp pl,wd<|j g];rfl
  refine zc (Ab (re.num af)<|step.EE af) (zc (Ab (I.num af)<|pl.EE af)<|zt Y<|zc R<|zc D<|zc S<|zc M<|yg (fun _=>zr<|A _)<|fun z=>zr ?_);have z:=B z;rw[show(U6 c (t,h,l).1 (t,h,l).2.1 (t,h,l).2.2==Ue c (t,h,l).1 (t,h,l).2.1)=true from z];exact o _
 ·refine zc R<|zc D<|zc S<|zc M<|yg (fun _=>zr<|A _)<|fun z=>zr ?_;have z:=B z;rw[show(U6 c (t,h,l).1 (t,h,l).2.1 (t,h,l).2.2==Ue c (t,h,l).1 (t,h,l).2.1)=true from z];exact o _
end T6
end Go.Pe
namespace Go.Det
open Go.ChangeShapes Go.WideShapes Go.RowKit
theorem Cc{α k:Type}{f g:α->Option k}:∀ {l:List α} {c:List k},l.mapM f=some c->(∀a∈l,∀y∈c,f a=some y->g a=some y)->l.mapM g=some c
 |[],c,h,_=>by simpa using h
 |a::l,c,h,j=>by
  rw[List.mapM_cons]at h ⊢;cases d:f a with
  |none=>rw[d]at h;cases h
  |some y=>
   rw[d]at h;cases i:l.mapM f with
   |none=>rw[i]at h;cases h
   |some o=>
    rw[i]at h;cases h;rw[j a (by simp) y (by simp) d,Cc i<|fun b m z n e=>j b (by simp[m]) z (by simp[n]) e];rfl
def lZ(P:Program)(L:List TypeId)(t:TypeId):Bool:=match P.underlying t with
 |some (.pointer e)|some (.array _ e)|some (.map _ e)=>L.contains e
 |some (.slice e)=>L.contains e&&Nat.ble 1 (P.cellsOf e)
 |some (.struct fs)=>fs.toList.all fun f=>L.contains f.type
 |_=>true
def LK(P:Program)(L:List TypeId):Bool:=L.all<|lZ P L
section
variable {H:Type}{enc:TypeId×Value->H}{P:Program}{W W':World}
theorem wM{L:List TypeId}(h:LK P L=true){t:TypeId}(a:t∈L):lZ P L t=true:=zf.1 h t a
theorem Wu(c:Below W.heap.size W W'){a:Addr}{v:Value}(h:W.cell? a=some v):W'.cell? a=some v:=by
 have d:a.block<W.heap.size:=by
  unfold yj at h;by_cases b:a.block<W.heap.size
  ·exact b
  ·rw[zx ae]at h;cases h
 unfold yj at h ⊢;rw[c.block _ d];exact h
theorem Wa(b:Below W.heap.size W W'){a:Addr}{n:Nat}{cs:List Value}(h:W.cells? 0 a n=some cs):W'.cells? 0 a n=some cs:=by
 unfold World.cells? at h ⊢;rw[wd<|Nat.zero_le _]at h ⊢;exact Cc h fun i _ v _ c=>Wu b c
theorem G5(e:Below W.heap.size W W'){d:Type}{a:Addr}{n:Nat}{f g:List Value->Option d}{y:d}(h:(W.cells? 0 a n).bind f=some y)(b:∀cs,f cs=some y->g cs=some y):(W'.cells? 0 a n).bind g=some y:=by
 cases c:W.cells? 0 a n with
 |none=>rw[c]at h;cases h
 |some cs=>
  rw[c]at h;rw[Wa e c];exact b cs h
theorem O0(C:Below W.heap.size W W'){L:List TypeId}(M:LK P L=true){sp:Nat->Bool}:∀(fuel:Nat) (t:TypeId) (cs:List Value) (x:DataW H×List MemPlace),t∈L->
  zo enc P W 0 (fun _=>true) true fuel t cs=some x->(∀p∈x.2,sp p.block=true)->zo enc P W' 0 sp true fuel t cs=some x
 |0,_,_,_,_,h,_=>by cases h
 |fuel+1,t,cs,x,R,h,v=>by
  have A:=O0 C M (sp:=sp) fuel;have l:=wM M R;unfold lZ at l;unfold zo at h ⊢;split at h<;>try simp only[reduceCtorEq]at h
  all_goals try exact h
  case h_6 e a r=>
   have c:e∈L:=by rw[r]at l;simpa using l
   cases F:(W.cells? 0 a<|P.cellsOf e).bind (zo enc P W 0 (fun _=>true) true fuel e)with
   |none=>rw[F]at h;cases h
   |some y=>
    rw[F]at h;cases h;rw[G5 C F (g:=zo enc P W' 0 sp true fuel e)<|fun cs o=>A e cs y c o<|fun p hp=>v p<|by simp[hp]];rfl
  case h_8 e a len cap r=>
   have c:e∈L/\P.cellsOf e≠0:=by
    rw[r]at l;simp only[zd,List.contains_iff_mem]at l;have:=Nat.le_of_ble_eq_true l.2;exact⟨l.1,by omega⟩
   by_cases o:0<=a.block/\len<=cap/\cap<=maxLen
   ·rw[wd o]at h ⊢;have step:∀(i:Nat) (y:DataW H×List MemPlace),(W.cells? 0 (a.add<|i*P.cellsOf e)<|P.cellsOf e).bind (zo enc P W 0 (fun _=>true) true fuel e)=some y->(∀p∈y.2,sp p.block=true)->
      (W'.cells? 0 (a.add<|i*P.cellsOf e)<|P.cellsOf e).bind (zo enc P W' 0 sp true fuel e)=some y:=fun i y q hp=>G5 C q fun cs o=>A e cs y c.1 o hp
    cases m:(yo len).mapM (fun i=>(W.cells? 0 (a.add<|i*P.cellsOf e)<|P.cellsOf e).bind<|zo enc P W 0 (fun _=>true) true fuel e)with
    |none=>rw[m]at h;cases h
    |some B=>
     rw[m]at h;simp only[wk,zw]at h;cases G:(yo<|cap-len).mapM (fun j=>(W.cells? 0 (a.add<|(len+j)*P.cellsOf e)<|P.cellsOf e).bind<|zo enc P W 0 (fun _=>true) true fuel e)with
     |none=>rw[G]at h;cases h
     |some K=>
      rw[G]at h;cases h;rw[Cc m fun i _ y q V=>step i y V fun p hp=>v p<|yd _<|z6.2 ⟨y,List.mem_append_left _ q,hp⟩];have I:=Cc G fun j _ y q Y=>step (len+j) y Y fun p hp=>v p<|yd _<|z6.2 ⟨y,yd _ q,hp⟩
      by_cases z:sp a.block=true
      ·simp only[z,wk,zw];rw[I];rfl
      ·have T:(B.length+K.length)*P.cellsOf e=0:=by
        rcases Nat.eq_zero_or_pos ((B.length+K.length)*P.cellsOf e)with h0|h0
        ·exact h0
        ·refine wh (v (.cell a.block<|a.off+0)<|List.mem_append_left _ ?_) z;simp only[MemPlace.row,yq,List.mem_range];exact⟨0,h0,rfl⟩
       have U:K=[]:=by
        rcases Nat.mul_eq_zero.1 T with h0|h0
        ·exact List.length_eq_zero_iff.1 ae
        ·exact wh h0 c.2
       subst U;simp only[z,zw];rfl
   ·rw[wc o]at h;cases h
  case h_9 cs _ _ fs r=>
   have c:∀f∈fs.toList,f.type∈L:=by
    rw[r]at l;intro f d;have:=zf.1 l f d;simpa using this
   by_cases o:cs.length=P.cellsOf t
   ·rw[wd o]at h ⊢;cases m:fs.toList.mapM (fun f=>zo enc P W 0 (fun _=>true) true fuel f.type<|(cs.drop f.offset).take<|P.cellsOf f.type)with
    |none=>rw[m]at h;cases h
    |some B=>
     rw[m]at h;cases h;rw[Cc m fun f D y q d=>A _ _ y (c f D) d fun p hp=>v p<|z6.2 ⟨y,q,hp⟩];rfl
   ·rw[wc o]at h;cases h
  case h_10 cs _ _ n e r=>
   have c:e∈L:=by rw[r]at l;simpa using l
   by_cases o:cs.length=P.cellsOf t
   ·rw[wd o]at h ⊢;cases m:(yo n).mapM (fun i=>zo enc P W 0 (fun _=>true) true fuel e<|(cs.drop<|i*P.cellsOf e).take<|P.cellsOf e)with
    |none=>rw[m]at h;cases h
    |some B=>
     rw[m]at h;cases h;rw[Cc m fun f _ y q d=>A _ _ y c d fun p hp=>v p<|z6.2 ⟨y,q,hp⟩];rfl
   ·rw[wc o]at h;cases h
  case h_14 k e b r=>
   have c:e∈L:=by rw[r]at l;simpa using l
   have O:b<W.heap.size:=by
    by_cases S:b<W.heap.size
    ·exact S
    ·rw[zx ae]at h;cases h
   rw[C.block _ O];split at h
   case h_2=>cases h
   rename_i es clock X;simp only;split at h
   case isFalse=>cases h
   rename_i s;rw[wd s];cases m:(es.toList.mapM fun x=>(keyOf P k x.key).bind fun key=>if x.val.formed P e then(zo enc P W 0 (fun _=>true) true fuel e x.val.cells.toList).map fun y=>((key,y.1),y.2)else none)with
   |none=>rw[m]at h;cases h
   |some B=>
    rw[m]at h;simp only[zw]at h;split at h
    case isFalse=>cases h
    rename_i E;cases h;rw[Cc m fun N _ y q d=>?_]
    ·simp only[zw];rw[wd E]
    ·cases l:keyOf P k N.key with
     |none=>rw[l]at d;cases d
     |some key=>
      rw[l]at d;simp only[zw]at d ⊢;split at d
      case isFalse=>cases d
      rename_i J;rw[wd J];cases w:zo enc P W 0 (fun _=>true) true fuel e N.val.cells.toList with
      |none=>rw[w]at d;cases d
      |some u=>
       rw[w]at d;cases d;rw[A _ _ u c w fun p hp=>v p<|by simp only[z7,z6];exact .inr ⟨_,q,hp⟩];rfl
theorem Xe(b:Below W.heap.size W W'){L:List TypeId}(g:LK P L=true){sp:Nat->Bool}{t:TypeId}{v:Value}{d:DataW H}{p:List MemPlace}
  (f:t∈L) (h:yp enc P W 0 (fun _=>true) true t v d p) (c:∀q∈p,sp q.block=true):yp enc P W' 0 sp true t v d p:=by
 obtain⟨a,e⟩:=h;exact⟨a,O0 b g a t _ _ f e c⟩
theorem GZ(e:Below W.heap.size W W'){L:List TypeId}(g:LK P L=true){sp:Nat->Bool}:∀ {ts:List TypeId} {vs:List Value} {ds:List (DataW H)} {p:List MemPlace},(∀t∈ts,t∈L)->
  yf enc P W 0 (fun _=>true) true ts vs ds p->(∀q∈p,sp q.block=true)->yf enc P W' 0 sp true ts vs ds p
 |[],vs,ds,p,_,h,_=>by
  obtain⟨rfl,rfl,rfl⟩:=trodAll_nil h;rfl
 |t::ts,vs,ds,p,i,h,f=>by
  obtain⟨v,n,d,m,a,b,rfl,rfl,rfl,j,k⟩:=trodAll_cons h;exact⟨a,b,Xe e g (i t<|by simp) j (fun q c=>f q<|by simp[c]),GZ e g (fun u l=>i u<|by simp[l]) k (fun q c=>f q (by simp[c])),rfl⟩
theorem dM{f:Func}{s:ChangeSpec}{apart fresh d l:Bool}{args:Array Value}{ds G:List (DataW H)}{e:List MemPlace}{tb:TypeId}
  (hW:DataW.Whole enc P f.params.toList s.vars apart W args.toList ds G e) (D:s.vars=[]) (hr:f.resultTypes= #[tb]) (w:P.underlying tb=some .bool)
  (c:s.fn H ds={ results:=[.lit<|.bool true],args:=ds }) (u:Below W.heap.size W W') {L:List TypeId} (B:LK P L=true) (v:f.params.toList.all L.contains=true):
  s.post enc P f apart fresh d l W args (.bool true) W':=by
 have k:=hW.lt;have v:∀t∈f.params.toList,t∈L:=fun t w=>by have:=zf.1 v t w;simpa using this
 obtain⟨p,q,z,C,rfl,i,h⟩:=hW;have n:=C;rw[D]at n;obtain⟨rfl,rfl⟩:=trodVars_none n;simp only[List.append_nil]at k i h ⊢;have o:∀x∈p,(fun b=>decide (b<W.heap.size)) x.block=true:=fun x m=>by simpa using k x m
 have A:DataW.Whole enc P f.params.toList s.vars apart W args.toList ds [] p:=⟨p,[],z,C,by simp,i,h⟩;have g:∀(b:Nat) (sp:Nat->Bool) (E:Bool),yf enc P W' b sp E f.resultTypes.toList ((Value.bool true).resultList f.resultTypes.size) [.lit<|.bool true] []:=by
  intro b sp E;rw[hr];exact⟨[],[],shut_bool w true,rfl,rfl⟩
 have y:∀(j:Nat) (t:TypeId) (r:Value),f.resultTypes[j]?=some t->((Value.bool true).resultList f.resultTypes.size)[j]?=some r->yc P W' .any 0 t r:=by
  exact ok_one hr rfl (okWide_bool_mk w true)
 have a:∀sp:Nat->Bool,DataW.TrodVars enc P W' sp s.vars [] []:=fun sp=>by rw[D];rfl
 have c:s.fn H (ds++[])={ results:=[.lit<|.bool true],args:=ds }:=by rw[List.append_nil];exact c
 refine⟨ds,[],p,[],p,[],A,?_,?_,?_,World.keptBut_mono (fun x m=>⟨m,.inr<|.inl m⟩) (u.frame (· ∈p)),fun _=>?_⟩
 ·rw[c];exact g _ _ _
 ·rw[c];exact GZ u B v z o
 ·rw[c];exact a _
 ·refine⟨y,_,_,([]++p)++[],⟨[]++p,[],trodAll_append (GZ u B v z<|fun _ _=>rfl)<|g _ _ _,a _,rfl,?_,?_⟩,?_⟩
  ·intro b off hp;have hp:MemPlace.cell b off∈p:=by simpa using hp
   rw[u.frozen<|show b<W.heap.size from k _ hp];exact i b off hp
  ·intro F;simpa using h F
  ·intro x m _;simpa using m
end
def NL(k:Nat):Value->V
 | .bool b=>.bool b
 | .int q n=>.int q n
 | .string s=>.str s.data.toList
 | .pointer none=>.nilp
 | .slice none 0 0=>.nils
 | .slice (some _) 0 0=>.es0
 | .slice (some ⟨r,off,none⟩) len cap=>if r<k/\len<=cap then .sl r off len cap 0 else .junk
 | .map none=>.nilm
 | .nilFunc=>.nilf
 | .nilIface=>.nili
 |_=>.junk
def aX(W:World)(r:Nat):Nat:=match W.heap[r]? with
 |some (.cells c _ _)=>c.size
 |_=>0
def pW(W:World):Pl:=(yo W.heap.size).map fun r=>(r,aX W r)
theorem Mk{W:World}{r:Nat}(h:r<W.heap.size):(pW W)[r]?=some (r,aX W r):=by
 simp[pW,h]
def OT(W:World)(r:Nat):Option O:=match W.heap[r]? with
 |some (.cells c t _)=>if c.size=0 then none else some<|.cells (c.toList.map<|NL W.heap.size) t (0,c.size)
 |_=>none
def cL(W:World):Nat->H
 |0=>⟨.leaf,0⟩
 |n+1=>⟨(cL W n).m.set n<|OT W n,n+1⟩
theorem xL(W:World):∀n,(cL W n).nx=n
 |0=>rfl
 |_+1=>rfl
theorem Ut(W:World):∀(n b:Nat),(cL W n).get b=if b<n then OT W b else none
 |0,b=>by simp[cL,H.get]
 |n+1,b=>by
  have a:=Ut W n b;unfold H.get at a ⊢;simp only[cL,PM.Dm];by_cases e:b=n
  ·subst e;simp
  ·rw[wc e,a];by_cases h:b<n
   ·rw[wd h,wd ae]
   ·rw[wc h,wc ae]
def hW(W:World):H:=cL W W.heap.size
theorem P5(W:World)(b:Nat):(hW W).get b=OT W b:=by
 unfold hW;rw[Ut];by_cases h:b<W.heap.size
 ·rw[wd h]
 ·rw[wc h];unfold OT;rw[zx ae]
theorem TS{W:World}{v:Value}(h:(NL W.heap.size v).ok=true):Ac (pW W) (NL W.heap.size v) v:=by
 revert h;unfold NL;split<;>intro h
 case h_6=>simp only[Ac];exact⟨_,rfl⟩
 case h_7 r off len cap _=>
  split
  ·rename_i a;simp only[Ac];exact⟨r,_,cap,Mk a.1,rfl,a.2,Nat.le_refl _,fun _=>rfl,fun e=>wh rfl e⟩
  ·rename_i a;rw[wc a]at h;cases h
 case h_11=>cases h
 all_goals simp only[Ac]
 all_goals rfl
theorem R_W(W:World):R (pW W) (hW W) W:=by
 refine⟨by simp[pW,hW,xL],fun b o a=>?_,fun b b' o o' r n n' a m f p=>?_⟩
 ·rw[P5]at a;unfold OT at a;split at a
  case h_2=>cases a
  rename_i c t fz l;split at a
  case isTrue=>cases a
  cases a;have e:b<W.heap.size:=(zn.1 l).1;have q:aX W b=c.size:=by unfold aX;rw[l]
  refine⟨b,c.size,_,by rw[Mk e,q],l,c,fz,rfl,rfl,by simp,⟨by simp,fun i d v k g j=>?_⟩,fun i s f p=>⟨Nat.zero_le _,s⟩⟩;rw[List.getElem?_map]at k;rw[List.length_map,yh (by have:=(List.getElem?_eq_some_iff.1 g).1;simp at this;simpa using this)]at g;rw[g]at k;cases k;exact TS j
 ·have key:∀b o r n,(hW W).get b=some o->(pW W)[b]?=some (r,n)->r=b:=by
   intro b o r n a f;rw[P5]at a;have e:b<W.heap.size:=by
    unfold OT at a;by_cases h:b<W.heap.size
    ·exact h
    ·rw[zx ae]at a;cases a
   rw[Mk e]at f;cases f;rfl
  rw[<-key b o r n a f, <-key b' o' r n' m p]
theorem tI{W W':World}{p':Pl}{h':H}(d:Ext (pW W) (hW W) W p' h' W'):RowKit.Below W.heap.size W W':=by
 refine⟨d.os,d.tape,d.out,d.size,fun k i=>?_⟩;by_cases g:Im (pW W) (hW W) k
 ·obtain⟨b,o,n,f,j⟩:=g;have a:=f;rw[P5]at a;unfold OT at a;split at a
  case h_2=>cases a
  rename_i c t fz l;split at a
  case isTrue=>cases a
  rename_i h0;cases a;have e:b<W.heap.size:=(zn.1 l).1;have h:aX W b=c.size:=by unfold aX;rw[l]
  rw[Mk e,h]at j;cases j;exact(d.lock _ i ⟨_,_,_,_,_,f,by rw[Mk e,h],rfl,Nat.le_refl _,Nat.pos_of_ne_zero h0⟩).1
 ·exact d.same k i g
end Go.Det
namespace Go.Pe
open Go.Det
def FW(W:World):Fz:=fun b=>match (hW W).get b with
 |some (.cells cs _ _)=>some cs
 |_=>none
def UL:(s:Sh)->s.T->Prop
 | .int k,x=>k.min<=(x:Int)/\(x:Int)<=k.max
 | .bool,_=>True
 | .str,x=>(x:Z).length<=maxLen
 | .list s,l=>(l:List s.T).length<=maxLen/\∀x∈(l:List s.T),UL s x
 | .pair a b,x=>UL a x.1/\UL b x.2
 | .unit,_=>True
 | .nlist _,_=>True
 | .fnv,_=>True
 | .ptr _,_=>True
def oR(P:Program)(f:TypeId->Option Sh):Nat->List Field->Option Sh
 |_,[]=>some .unit
 |o,[x]=>match f x.type with
  |some s=>bif yb x.offset o&&yb (P.cellsOf x.type) s.sz then some s else none
  |none=>none
 |o,x::y::l=>match f x.type with
  |some s=>bif yb x.offset o&&yb (P.cellsOf x.type) s.sz then(oR P f (o+s.sz) (y::l)).map (.pair s)else none
  |none=>none
def shP(P:Program):Nat->TypeId->Option Sh
 |0,_=>none
 |f+1,t=>match P.underlying t with
  |some (.int k)=>some<|.int k
  |some .bool=>some .bool
  |some .string=>some .str
  |some (.slice e)=>match shP P f e with
   |some s=>bif yb (P.cellsOf e) s.sz&&Nat.blt 0 s.sz then some (.list s)else none
   |none=>none
  |some (.struct fs)=>match oR P (shP P f) 0 fs.toList with
   |some s=>bif yb (P.cellsOf t) s.sz then some s else none
   |none=>none
  |_=>none
section
variable {H:Type}{enc:TypeId×Value->H}{P:Program}{W:World}
theorem fH{r:Nat}{c:Array Value}{t:TypeId}{fz:Nat×Nat}(h:W.heap[r]?=some (.cells c t fz))(h0:c.size≠0):FW W r=some (c.toList.map<|NL W.heap.size):=by
 unfold FW;rw[P5];unfold OT;rw[h];simp only[wc h0]
theorem R3{a:Addr}{n:Nat}{cs:List Value}(h:W.cells? 0 a n=some cs)(p:0<n):
  ∃c t fz,W.heap[a.block]?=some (.cells c t fz)/\a.spot=none/\a.off+n<=c.size/\cs=(c.toList.drop a.off).take n:=by
 unfold World.cells? at h;rw[wd<|Nat.zero_le _]at h;have q:=mapM_some_length h;have m:=mapM_some_get h;simp only[List.length_range]at q;have h0:=m 0 0 (by simp[p]);have j:a.add 0=a:=by simp[yr]
 rw[j]at h0;obtain⟨v0,k⟩:∃v,cs[0]?=some v:=⟨cs[0],zq ae⟩;rw[k]at h0;unfold yj at h0;split at h0
 case h_2=>cases h0
 rename_i c t fz l;split at h0
 case isTrue=>cases h0
 rename_i d;have d:a.spot=none:=by simpa using d
 have o:∀i,i<n->c[a.off+i]?=cs[i]?:=by
  intro i b;have:=m i i (by simp[b]);unfold yj at this;have f:(a.add i).block=a.block:=by unfold yr;split<;>rfl
  have g:(a.add i).spot=none:=by unfold yr;split<;>simp[d]
  have e:(a.add i).off=a.off+i:=by unfold yr;split<;>simp_all
  rw[f,l]at this;simpa [g,e]using this
 refine⟨c,t,fz,l,d,?_,?_⟩
 ·have:=o (n-1) ae;rw[zq ae]at this;have:=(zn.1 this).1;omega
 ·apply List.ext_getElem?;intro i;by_cases b:i<n
  ·rw[<-o i b,yh b,List.getElem?_drop];simp
  ·rw[List.getElem?_eq_none ae,List.getElem?_eq_none<|by simp;omega]
theorem Yu{α:Type}{p:Nat->α->Prop}:∀n:Nat,(∀i,i<n->∃x,p i x)->∃l:List α,l.length=n/\∀i (h:i<l.length),p i l[i]
 |0,_=>⟨[],rfl,fun i h=>wh h<|Nat.not_lt_zero _⟩
 |n+1,h=>by
  obtain⟨l,a,d⟩:=Yu n fun i b=>h i ae
  obtain⟨x,c⟩:=h n ae;refine⟨l++[x],by simp[a],fun i b=>?_⟩;by_cases e:i<l.length
  ·rw[List.getElem_append_left e];exact d i e
  ·have:i=n:=by simp at b;omega
   subst this;rw[List.getElem_append_right ae];simpa [a]using c
end
open Go.Det Go.RowKit
section
open Go.Proofs.Tryz (prog)
theorem pJ{F':Fz}{v:V}(h:PC F' (.dat .bool true) v):v=.bool true:=by
 have:=h (fun _=>none) 0;simp only[PR,DC]at this;simpa using this
def GW(W:World):Prop:=∀x∈Gr,OT W x.1=some x.2
theorem GW.h{W:World}(h:GW W):Gh (hW W):=fun x a=>by rw[P5];exact h x a
theorem GW.p{W:World}(h:GW W):Gp (pW W):=fun x g=>by
 have a:=h x g;unfold OT at a;split at a
 case h_2=>cases a
 rename_i c t fz e;split at a
 case isTrue=>cases a
 have d:x.1<W.heap.size:=(zn.1 e).1;have f:aX W x.1=c.size:=by unfold aX;rw[e]
 rw[Mk d,f];cases b:x.2 with
 |cells cs i fz'=>rw[b]at a;cases a;simp[osz]
 |_=>rw[b]at a;cases a
theorem QB{f:FuncId}{sp:An}(ok:Af A9 f sp)(i:(BC sp.ins).T)(d:sp.pre i=true){args:List V}{args':Array Value}{W:World}(c:GW W)(m:MT (FW W) (Ae sp.ins i) args)
  (n:At (pW W) args args'.toList) (a:∀F' v,PC F' (one<|Ae sp.outs<|sp.f i) v->v=.bool true) (hp:A9.prim f=none:=by kernel_rfl):
  Calls prog f args' W fun e W'=>e=.returned (.bool true)/\Below W.heap.size W W':=by
 obtain⟨l,M,j,_,r⟩:=(ok.zero hp).run (FW W) (hW W) args i (fun b cs h=>by
  unfold FW at h;split at h
  case h_2=>cases h
  rename_i cs' t fz q;cases h;exact⟨t,fz,q⟩) (fun b o h=>(R_W W).lt h) c.h m d
 refine((IU Aa9 aA SO M).fn f args (hW W) l (j M<|Nat.le_refl _) (pW W) W args' (R_W W) c.p n).mono ?_;rintro e w' ⟨v,h',v',p',s,rfl,g,k⟩;obtain⟨_,_,_,F',_,_,_,hr⟩:=r _ s;obtain rfl:=a F' v hr;refine⟨?_,tI k⟩;simp only[Ac]at g;rw[g]
end
open Go.Det Go.RowKit Go.ChangeShapes
def Q7(k:Nat):Value->V
 | .agg cs=>.agg<|cs.toList.map<|NL k
 |v=>NL k v
def iK(P:Program)(k:Nat)(t:TypeId):Option Sh:=
 match shP P k t with
 |some s=>match P.underlying t with
  |some (.struct _)=>bif s.QU then some s else none
  |some (.int _)|some .bool|some .string|some (.slice _)=>bif s.QU then none else some s
  |_=>none
 |none=>none
def SE(P:Program)(k:Nat):List TypeId->Option (List Sh)
 |[]=>some []
 |t::ts=>match iK P k t,SE P k ts with
  |some s,some a=>some (s::a)
  |_,_=>none
def wfL:(l:List Sh)->(BC l).T->Prop
 |[],_=>True
 |[a],x=>UL a x
 |a::b::l,x=>UL a x.1/\wfL (b::l) x.2
section
variable {H:Type}{enc:TypeId×Value->H}{P:Program}{W:World}{base:Nat}
theorem pH{t:TypeId}{v:Value}(a:(∃k,P.underlying t=some (.int k))\/P.underlying t=some .bool\/P.underlying t=some .string\/∃e,P.underlying t=some (.slice e))(h:yc P W .any base t v):v.cells.toList=[v]/\∀cs,v≠ .agg cs:=by
 rcases a with⟨k,a⟩|a|a|⟨e,a⟩<;>
 (simp only[yc,a]at h
  unfold Cell.okWide at h;simp only[a]at h;unfold Cell.ok at h;simp only[a]at h;cases v<;>first|(exact⟨rfl,fun _ e=>by cases e⟩)|(exfalso;exact h))
theorem Iu:∀ {ts:List TypeId} {args:List Value} {ds:List (DataW H)} {p:List MemPlace},yf enc P W 0 (fun _=>true) true ts args ds p->ds.length=ts.length
 |[],_,_,_,h=>by obtain⟨_,rfl,_⟩:=trodAll_nil h;rfl
 |t::ts,_,_,_,h=>by
  obtain⟨v0,a,d,c,p0,q0,rfl,rfl,rfl,h0,b⟩:=trodAll_cons h;simp[Iu b]
theorem Adv{α:Type}{l:List α}(h:l.length=2):∃a b,l=[a,b]:=by
 match l,h with
 |[a,b],_=>exact⟨a,b,rfl⟩
end
def rR:Sh->Nat
 | .str=>16
 | .list _=>24
 | .pair a b=>rR a+rR b
 | .unit=>0
 |_=>8
def Wt{H:Type}(P:Program)(t:TypeId)(d:DataW H):Prop:=∀n∈z8 P t d,n<=reachBytes
def SF(P:Program):Nat->TypeId->Bool
 |0,_=>false
 |f+1,t=>match P.underlying t with
  |some (.slice e)=>SF P f e&&(match shP P f e with|some s=>yb (P.bytesOf e) (rR s)|none=>false)
  |some (.struct fs)=>fs.toList.all fun x=>SF P f x.type
  |_=>true
def QV:(s:Sh)->s.T->Prop
 | .list s,l=>(l:List s.T).length*rR s<=reachBytes/\∀x∈(l:List s.T),QV s x
 | .pair a b,x=>QV a x.1/\QV b x.2
 |_,_=>True
def Aax:(l:List Sh)->(BC l).T->Prop
 |[],_=>True
 |[a],x=>QV a x
 |a::b::l,x=>QV a x.1/\Aax (b::l) x.2
section
variable {H:Type}{enc:TypeId×Value->H}{P:Program}{W:World}{base:Nat}
theorem AaH{e:TypeId}{n:Nat}:∀ {l:List (DataW H)} {d:DataW H},d∈l->n∈z8 P e d->n∈DataW.weightsAll P e l
 |x::l,d,a,b=>by
  rw[DataW.weightsAll,zu];rcases z7.1 a with rfl|a
  ·exact .inl b
  ·exact .inr<|AaH a b
theorem zM{n:Nat}:∀ {ts:List TypeId} {l:List (DataW H)} {i:Nat} {t:TypeId} {d:DataW H},ts[i]?=some t->l[i]?=some d->n∈z8 P t d->n∈zk P ts l
 |u::ts,x::l,0,t,d,a,b,c=>by
  cases a;cases b;rw[zk,zu];exact .inl c
 |u::ts,x::l,i+1,t,d,a,b,c=>by
  rw[zk,zu];exact .inr (zM (i:=i) (by simpa using a) (by simpa using b) c)
 |[],_,_,_,_,a,_,_=>by simp at a
 |_::_,[],_,_,_,_,b,_=>by simp at b
theorem AdA{n:Nat}:∀ {ts b:List TypeId} {ds es:List (DataW H)},ts.length=ds.length->n∈zk P ts ds->n∈zk P (ts++b) (ds++es)
 |t::ts,b,d::ds,es,h,a=>by
  rw[zk,zu]at a;rw[List.cons_append,List.cons_append,zk,zu];exact a.imp id fun x=>AdA (by simpa using h) x
 |[],_,_,_,_,a=>by simp[zk]at a
 |_::_,_,[],_,h,_=>by simp at h
theorem AbC{t e:TypeId}{el sp:List (DataW H)}(a:P.underlying t=some (.slice e))(h:Wt P t (.slice el sp)):(el.length+sp.length)*P.bytesOf e<=reachBytes:=by
 refine h _ ?_;rw[z8,a];exact zl ..
theorem yA{t e:TypeId}{el sp:List (DataW H)}{d:DataW H}(b:P.underlying t=some (.slice e))(h:Wt P t (.slice el sp))(c:d∈el\/d∈sp):Wt P e d:=fun n a=>by
 refine h n ?_;rw[z8,b];refine List.mem_cons_of_mem _<|zu.2 ?_;exact c.imp (fun x=>AaH x a)<|fun x=>AaH x a
theorem qA{t:TypeId}{fs:Array Field}{l:List (DataW H)}{i:Nat}{f:Field}{d:DataW H}(b:P.underlying t=some (.struct fs))(h:Wt P t (.agg l))(c:fs[i]?=some f)(e:l[i]?=some d):Wt P f.type d:=fun n a=>by
 refine h n ?_;rw[z8,b];exact zM (i:=i) (t:=f.type) (by simp[c]) e a
theorem Qu{G:TypeId->DataW H->Prop}{f:TypeId->Option Sh}{n:Nat}{cs:List Value}
  (k:∀(t:TypeId) (s:Sh) (cs:List Value) (y:DataW H×List MemPlace),f t=some s->zo enc P W 0 (fun _=>true) true n t cs=some y->G t y.1->∃x:s.T,DC (FW W) s x (cs.map<|NL W.heap.size)/\UL s x/\QV s x):
  ∀(fs:List Field) (o:Nat) (s:Sh),oR P f o fs=some s->(∀x∈fs,∃z,zo enc P W 0 (fun _=>true) true n x.type ((cs.drop x.offset).take<|P.cellsOf x.type)=some z/\G x.type z.1)->
   ∃x:s.T,DC (FW W) s x (((cs.map<|NL W.heap.size).drop o).take s.sz)/\UL s x/\QV s x
 |[],o,s,c,_=>by
  cases c;exact⟨(),by simp[DC,Sh.sz],trivial,trivial⟩
 |[x],o,s,c,i=>by
  unfold oR at c;split at c
  case h_2=>cases c
  rename_i j e;cases d:(yb x.offset o&&yb (P.cellsOf x.type) j.sz)with
  |false=>rw[d]at c;cases c
  |true=>
  rw[d]at c;cases c;simp only[zd]at d;obtain⟨z,h,g⟩:=i x (by simp);rw[zp d.1,zp d.2]at h;have:=k _ _ _ _ e h g;simpa [ym,yn]using this
 |x::x'::l,o,s,c,i=>by
  unfold oR at c;split at c
  case h_2=>cases c
  rename_i j e;cases d:(yb x.offset o&&yb (P.cellsOf x.type) j.sz)with
  |false=>rw[d]at c;cases c
  |true=>
  rw[d]at c;simp only[we,Option.map_eq_some_iff]at c;obtain⟨s2,m,rfl⟩:=c;simp only[zd]at d;obtain⟨z,h,g⟩:=i x (by simp);rw[zp d.1,zp d.2]at h;obtain⟨a,a1,a2,a3⟩:=k _ _ _ _ e h g;obtain⟨b,b1,b2,b3⟩:=Qu k (x'::l) (o+j.sz) s2 m<|fun u p=>i u<|List.mem_cons_of_mem _ p;refine⟨(a,b),?_,⟨a2,b2⟩,a3,b3⟩;simp only[DC];refine⟨_,_,?_,a1,b1⟩;rw[ym,yn, <-List.drop_drop];exact List.take_add
theorem Pk:∀(k D:Nat) (t:TypeId) (s:Sh) (cs:List Value) (y:DataW H×List MemPlace),shP P k t=some s->zo enc P W 0 (fun _=>true) true D t cs=some y->SF P k t=true->Wt P t y.1->
  ∃x:s.T,DC (FW W) s x (cs.map<|NL W.heap.size)/\UL s x/\QV s x
 |0,_,_,_,_,_,j,_,_,_=>by cases j
 |k+1,D,t,s,cs,y,j,h,w,u=>by
  have ih:=Pk k;unfold shP at j;split at j
  case h_1 q o=>
   cases j;obtain⟨n,rfl,_,N⟩:=DataW.trod_int o h;exact⟨(n:Int),by simp[DC,NL],by simpa [UL,Lit.wf]using N,trivial⟩
  case h_2 o=>
   cases j;obtain⟨b,rfl,_⟩:=DataW.trod_bool o h;exact⟨b,by simp[DC,NL],trivial,trivial⟩
  case h_3 o=>
   cases j;obtain⟨b,rfl,_,N⟩:=DataW.trod_string o h;exact⟨b.data.toList,by simp[DC,NL],by show b.data.toList.length<=maxLen;rw[Array.length_toList];exact N,trivial⟩
  case h_4 e o=>
   split at j
   case h_2=>cases j
   rename_i g C;cases A:(yb (P.cellsOf e) g.sz&&Nat.blt 0 g.sz)with
   |false=>rw[A]at j;cases j
   |true=>
   rw[A]at j;cases j;simp only[zd]at A;have O:=zp A.1;have U:=Nat.le_of_ble_eq_true A.2;rcases DataW.trod_slice o h with⟨rfl,_⟩|⟨a,len,cap,L,X,n,rfl,rfl,Z,_,S,hcm,hel,he,hr,_⟩
   ·exact⟨[],by simp[DC,NL],by simp[UL],by simp[QV]⟩
   ·obtain⟨hrl,hr⟩:=hr rfl;rw[Z]at u;have u:Wt P t (.slice (L.map (·.1)) (X.map (·.1))):=u;unfold SF at w;rw[o]at w;simp only[C,zd]at w;obtain⟨w,J⟩:=w;have J:=zp J;rw[O]at he hr;by_cases h0:cap=0
    ·obtain rfl:len=0:=ae
     subst h0;exact⟨[],by simp[DC,NL],by simp[UL],by simp[QV]⟩
    ·
     have all:∀i,i<cap->∃M z,W.cells? 0 (a.add<|i*g.sz) g.sz=some M/\zo enc P W 0 (fun _=>true) true n e M=some z/\Wt P e z.1:=by
      intro i r;by_cases hl:i<len
      ·have m:=he i hl;rw[zq ae]at m;rw[yi]at m;obtain⟨M,v,B⟩:=m;exact⟨M,_,v,B,yA o u<|.inl<|yq.2 ⟨_,List.getElem_mem _,rfl⟩⟩
      ·have m:=hr (i-len) ae;rw[show len+(i-len)=i by omega,zq ae]at m;rw[yi]at m;obtain⟨M,v,B⟩:=m;exact⟨M,_,v,B,yA o u<|.inr<|yq.2 ⟨_,List.getElem_mem _,rfl⟩⟩
     obtain⟨c0,z0,g0,_,_⟩:=all 0 ae;rw[Nat.zero_mul,show a.add 0=a from by simp[yr]]at g0;obtain⟨c,tc,fz,hb,hsp,hoff,_⟩:=R3 g0 U;have F:a.block<W.heap.size:=(zn.1 hb).1;have hF:=fH hb ae;obtain⟨ab,ao,ax⟩:=a;simp only at hsp hb hoff F hF;subst hsp;have E:∀i,i<cap->ao+i*g.sz+g.sz<=c.size/\∃x:g.T,DC (FW W) g x (((c.toList.map<|NL W.heap.size).drop<|ao+i*g.sz).take g.sz)/\UL g x/\QV g x:=by
      intro i r;obtain⟨M,z,m,v,hz⟩:=all i r;rw[Addr.H2]at m;obtain⟨c',tc',fz',hb',_,ho',rfl⟩:=R3 m ae;simp only at hb' ho';rw[hb]at hb';cases hb';refine⟨ho',?_⟩;have:=ih _ _ _ _ _ C v w hz;simpa [ym,yn]using this
     obtain⟨l,V,K⟩:=Yu (p:=fun i (x:g.T)=>DC (FW W) g x (((c.toList.map<|NL W.heap.size).drop<|ao+i*g.sz).take g.sz)/\UL g x/\QV g x) len fun i r=>(E i ae).2
     refine⟨l,?_,?_,?_⟩
     ·simp only[DC];refine⟨.sl ab ao len cap 0,?_,.inr ⟨ab,ao,cap,0,_,by rw[V],by omega,hF,?_,.inl rfl,fun i r=>(K i r).1⟩⟩
      ·have:(Value.slice (some ⟨ab,ao,none⟩) len cap)=.slice (some ⟨ab,ao,none⟩) len cap:=rfl;have hne:¬(len=0/\cap=0):=fun h=>h0 h.2
       cases cap with
       |zero=>exact wh rfl h0
       |succ cap=>simp[NL,F,S]
      ·rw[V];have:=(E (cap-1) ae).1;have v:len*g.sz<=cap*g.sz:=Nat.mul_le_mul_right _ S;have B:cap*g.sz=(cap-1)*g.sz+g.sz:=by rw[<-Nat.succ_mul];congr 1;omega
       simp;omega
     ·simp only[UL];refine⟨by omega,fun x Y=>?_⟩;obtain⟨i,r,rfl⟩:=List.mem_iff_getElem.1 Y;exact(K i r).2.1
     ·simp only[QV];refine⟨?_,fun x Y=>?_⟩
      ·have N:=AbC o u;rw[List.length_map,J]at N;exact Nat.le_trans (Nat.mul_le_mul_right _ ae) N
      ·obtain⟨i,r,rfl⟩:=List.mem_iff_getElem.1 Y;exact(K i r).2.2
  case h_5 fs o=>
   split at j
   case h_2=>cases j
   rename_i g C;cases A:yb (P.cellsOf t) g.sz with
   |false=>rw[A]at j;cases j
   |true=>
   rw[A]at j;cases j;have O:=zp A;obtain⟨xs,n,rfl,Z,hlen,hxl,hf⟩:=DataW.trod_struct o h;rw[Z]at u;have u:Wt P t (.agg (xs.map (·.1))):=u;unfold SF at w;rw[o]at w;obtain⟨x,m,v,B⟩:=Qu (G:=fun t d=>SF P k t=true/\Wt P t d) (cs:=cs) (fun t s cs y m v B=>ih n t s cs y m v B.1 B.2) fs.toList 0 _ C (fun f R=>by
    obtain⟨i,r⟩:=List.mem_iff_getElem?.1 R;have I:fs[i]?=some f:=by simpa using r
    have:=hf i f I;have F:=(zn.1 I).1;rw[zq ae]at this;exact⟨_,this,zf.1 w f R,qA o u I<|by rw[List.getElem?_map,zq ae];rfl⟩)
   refine⟨x,?_,v,B⟩;rw[List.drop_zero,List.take_of_length_le<|by simp;omega]at m;exact m
  case h_6=>cases j
theorem lI{k:Nat}{t:TypeId}{s:Sh}{v:Value}{d:DataW H}{p:List MemPlace}(e:shP P k t=some s)(hp:s.QU=false)(g:v.cells.toList=[v])(h:yp enc P W 0 (fun _=>true) true t v d p)(c:SF P k t=true)(f:Wt P t d):
  ∃x:s.T,PC (FW W) (Ci s x) (NL W.heap.size v)/\(UL s x/\QV s x)/\Ac (pW W) (NL W.heap.size v) v:=by
 obtain⟨a,b⟩:=h;rw[g]at b;obtain⟨x,h1,h2⟩:=Pk k a t s [v] (d,p) e b c f;simp only[ya,List.map_nil]at h1;exact⟨x,(PC.Ci h1).2 hp _ rfl,h2,TS<|h1.ok _<|by simp⟩
theorem kV{k:Nat}{t:TypeId}{s:Sh}{v:Value}{d:DataW H}{p:List MemPlace}(b:iK P k t=some s)(n:yc P W .any base t v)(h:yp enc P W 0 (fun _=>true) true t v d p)(r:SF P k t=true)(q:Wt P t d):
  ∃x:s.T,PC (FW W) (Ci s x) (Q7 W.heap.size v)/\(UL s x/\QV s x)/\Ac (pW W) (Q7 W.heap.size v) v:=by
 unfold iK at b;split at b
 case h_2=>cases b
 rename_i m g;have plain:((∃k,P.underlying t=some (.int k))\/P.underlying t=some .bool\/P.underlying t=some .string\/∃e,P.underlying t=some (.slice e))->(bif m.QU then none else some m)=some s->∃x:s.T,PC (FW W) (Ci s x) (Q7 W.heap.size v)/\(UL s x/\QV s x)/\Ac (pW W) (Q7 W.heap.size v) v:=by
  intro y j;cases hp:m.QU with
  |true=>rw[hp]at j;cases j
  |false=>
   rw[hp]at j;cases j;obtain⟨i,o⟩:=pH y n;have e:Q7 W.heap.size v=NL W.heap.size v:=by
    unfold Q7;split
    ·rename_i cs;exact wh rfl (o cs)
    ·rfl
   rw[e];exact lI g hp i h r q
 split at b
 case h_1=>
  rename_i fs f;cases hp:m.QU with
  |false=>rw[hp]at b;cases b
  |true=>
   rw[hp]at b;cases b;simp only[yc,f]at n;obtain⟨cs,rfl,_,_⟩:=n;obtain⟨fuel,hf⟩:=h;obtain⟨x,i,o⟩:=Pk k fuel t s _ (d,p) g hf r q;refine⟨x,(PC.Ci i).1 hp,o,?_⟩;simp only[Q7,Ac];refine⟨cs,rfl,?_⟩;have c:=i.ok;have e:(Value.agg cs).cells.toList=cs.toList:=rfl;rw[e]at c;generalize cs.toList=l at c;induction l with
   |nil=>simp
   |cons a l u=>
    simp only[ya,Bh];exact⟨TS (c _ (by simp)),u fun v w=>c v<|by simp only[ya,z7];exact .inr w⟩
 case h_2=>rename_i k f;exact plain (.inl ⟨k,f⟩) b
 case h_3=>rename_i f;exact plain (.inr<|.inl f) b
 case h_4=>rename_i f;exact plain (.inr<|.inr<|.inl f) b
 case h_5=>rename_i e f;exact plain (.inr<|.inr<|.inr ⟨e,f⟩) b
 case h_6=>cases b
theorem Rf{k:Nat}:∀ {ts:List TypeId} {a:List Sh} {args:List Value} {ds:List (DataW H)} {p:List MemPlace},SE P k ts=some a->(∀(j:Nat) t v,ts[j]?=some t->args[j]?=some v->yc P W .any base t v)->
  yf enc P W 0 (fun _=>true) true ts args ds p->(ts.all<|SF P k)=true->(∀n∈zk P ts ds,n<=reachBytes)->∃x:(BC a).T,MT (FW W) (Ae a x) (args.map<|Q7 W.heap.size)/\(wfL a x/\Aax a x)/\At (pW W) (args.map<|Q7 W.heap.size) args
 |[],a,args,ds,p,b,_,h,_,_=>by
  cases b;obtain⟨rfl,rfl,rfl⟩:=trodAll_nil h;exact⟨(),fun ρ N=>by simp[Ae],⟨trivial,trivial⟩,by simp⟩
 |t::ts,a,args,ds,p,b,l,h,g,e=>by
  unfold SE at b;split at b
  case h_2=>cases b
  rename_i s i m u;cases b;obtain⟨v0,c,z,o,p0,q0,rfl,rfl,rfl,h0,w⟩:=trodAll_cons h;rw[yk,zd]at g;rw[zk]at e;obtain⟨x,a1,a2,a3⟩:=kV m (l 0 t v0 rfl rfl) h0 g.1<|fun n d=>e n<|zu.2<|.inl d;obtain⟨y,b1,b2,b3⟩:=Rf u (fun j t v r f=>l (j+1) t v r f) w g.2<|fun n d=>e n<|zu.2<|.inr d;have hr:At (pW W) ((v0::c).map<|Q7 W.heap.size) (v0::c):=by simp only[ya,Bh];exact⟨a3,b3⟩
  cases i with
  |nil=>exact⟨x,fun ρ N=>by
    have:=b1 ρ N;simp only[Ae,B7]at this;simp only[ya,Ae,this,A4,B7,ve];exact a1 ρ N,a2,hr⟩
  |cons s2 q=>exact⟨(x,y),fun ρ N=>by
    simp only[ya,Ae,A4];exact⟨a1 ρ N,b1 ρ N⟩,⟨⟨a2.1,b2.1⟩,a2.2,b2.2⟩,hr⟩
end
open Go.Sp (AW BR BT BB Hw BM CB)
theorem Aaj{l:BT}(h:QV CF l):Sp.eF l=true:=by
 obtain⟨_,_,_,_,a,_⟩:=h;have a:l.2.2.2.2.length*32<=140737488351232:=a;exact w4 ae
theorem Aaz{c:AW}(h:QV BX c):Sp.xU c=true:=by
 obtain⟨⟨s1,s2⟩,⟨t1,_⟩,l1,a⟩:=h;have s1:c.1.length*88<=140737488351232:=s1;have t1:c.2.1.length*40<=140737488351232:=t1;have l1:c.2.2.length*96<=140737488351232:=l1;have s2:∀x∈c.1,QV Ce x:=s2;have a:∀x∈c.2.2,QV CF x:=a;unfold Sp.xU;refine Ab (Ab (Ab (ad ae ae)<|w4 ae)<|zf.2 fun x b=>?_)<|zf.2 fun x b=>Aaj<|a x b;obtain⟨_,_,_,_,d,_⟩:=s2 x b;have d:x.2.2.2.2.length*24<=140737488351232:=d;exact w4 ae
open Go.Sp (AW CB)
theorem vT{c:AW}(h:QV BX c):c.2.1.all Sp.UB=true:=by
 obtain⟨_,⟨_,t2⟩,_⟩:=h;have t2:∀x∈c.2.1,QV (.pair .str<|.list i64) x:=t2;refine zf.2 fun x b=>?_
 obtain⟨_,a,_⟩:=t2 x b;have a:x.2.length*8<=140737488351232:=a;exact w4 ae
theorem Aei{x:(BC MV.ins).T}(h:Aax MV.ins x):MV.pre x=true:=Ab (Aaz h.1)<|vT h.1
end Go.Pe
namespace Go.Proofs.YtlohiljbghionaaGreatDoor
open Go
set_option maxRecDepth 100000
theorem seatTie1:Tryz.prog.laidByTextLater [("math/bits.deBruijn32tab",Rows.laid_math_bits_deBruijn32tab),("math/bits.deBruijn64tab",Rows.laid_math_bits_deBruijn64tab),("internal/strconv.uint64pow10",Rows.laid_internal_strconv_uint64pow10),("unicode/utf8.acceptRanges",Rows.laid_unicode_utf8_acceptRanges),("strconv.ErrRange",Rows.laid_strconv_ErrRange),("strconv.ErrSyntax",Rows.laid_strconv_ErrSyntax)] [.data,.data,.data,.data,.sentinel,.sentinel] true:=
 Program.laidByTextLater_by_one 72 8 65 ag ag ag ag ag ag (fun _ _=>by kernel_rfl)
theorem noOwnUnsafe:Tryz.pinned.checked.prog.headLifts.contains "ownunsafe"=false:=by kernel_rfl
theorem fits1:Tryz.pinned.checked.prog.listedFits Rows.ratingReachesRow.laid=true:=by
 unfold Program.listedFits;rw[noOwnUnsafe];kernel_rfl
theorem ratingReaches_row_tie:Rows.ratingReachesRow.laidByTextAt .later Tryz.pinned [.data,.data,.data,.data,.sentinel,.sentinel,.pinned] true:=by
 refine OpenClaim.laidByTextAt_pinned rfl rfl seatTie1 rfl rfl rfl rfl (fun y a _e=>?_) fits1;simp only[Rows.ratingReachesRow,List.zip_cons_cons,List.zip_nil_right,z7,List.mem_nil_iff,or_false]at a;rcases a with rfl|rfl|rfl|rfl|rfl|rfl|rfl
 ·cases _e
 ·cases _e
 ·cases _e
 ·cases _e
 ·cases _e
 ·cases _e
 ·exact⟨by kernel_rfl,by kernel_rfl⟩
end Go.Proofs.YtlohiljbghionaaGreatDoor
