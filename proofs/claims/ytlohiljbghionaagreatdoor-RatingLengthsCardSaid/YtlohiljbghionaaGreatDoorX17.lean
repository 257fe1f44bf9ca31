import Derived.Test.YtlohiljbghionaaGreatDoorX16
import Derived.Test.YtlohiljbghionaaGreatDoorX14
import Derived.Test.YtlohiljbghionaaGreatDoorX03
import Derived.ChangeSame
import Derived.Below
import Derived.Test.YtlohiljbghionaaGreatDoorX09
import Derived.ChangeShapes
import Derived.OpenShut
import Derived.Test.YtlohiljbghionaaGreatDoorRows
import Derived.LaidByTextLater
import Derived.SevenTiedAt
import Derived.LaidSub
import Derived.LaidOnce
/- A part of a proof (no law is stated here). Made by program out of texts by AI agents. -/
noncomputable section
open Go.Pe.Ends renaming tt -> zc, leaf -> zd, Ah -> zf, ite -> zh, ff -> zl, eq -> yp
open Int renaming toNat_natCast -> ze, toNat -> z6
open List renaming length_cons -> zg, take_length -> zi, length_append -> zj, mem_cons_self -> zm, getElem?_eq_getElem -> zr, all_eq_true -> zt, mem_append -> zu, mem_of_mem_drop -> z8, mem_flatMap -> ya, map_cons -> yc, mem_append_right -> yg, all_cons -> yh, mem_cons -> ym, getElem?_take_of_lt -> yn, map_take -> yv, map_drop -> yw, range -> yx, mem_map -> yz
open Go.DataW renaming weightsEach -> zk, trod -> zp, weights -> yb, TrodAll -> yi, Trod -> yy
open Array renaming getElem?_eq_some_iff -> zn, getElem?_eq_none -> zz
open Bool renaming and_eq_true -> zo, false_and -> zx, and_true -> yk, and_false -> yq, true_and -> yt
open Nat renaming eq_of_beq_eq_true -> zq, zero_le -> z7, beq -> yd, add -> ye
open Go.IntKind renaming wrap -> zw
open Option renaming bind_some -> zy, bind_eq_some_iff -> yo
open Go.Value renaming okWide -> yf
open Go.Sp renaming BB -> yj, BY -> y8
open Go.World renaming cell? -> yr
open Go.Pe.Ad renaming of -> yu
open Go.Addr renaming add -> y7
namespace Go.Sp
theorem R3(p:BM)(l:List BM)(n m:Nat):IA (p::l) n m=((decide (p.1.length<=n)&&decide (p.2.length<=m))&&IA l n m):=by unfold IA;rw[yh]
end Go.Sp
namespace Go.Pe
open Sp
open Go.Det
open Go.Sp (AT BX BW BM Io B0 Ct q0 q1 n0 n1)
theorem WH:C9 E1:=fun g sp h=>by cases h
namespace T11
variable {Q:PV->Ob->Prop}
theorem Ge(b f nx:B0)(t w:List BM)(m:w.length<=20):∀(r:List BM) (i:Nat),w.drop i=r->i<=w.length->(∀ob,Q (.bl<|IA r 40 20) ob)->Ends E1 (L2 (i:Int) b f nx t w) Q
 |[],i,h,g,a=>by
  have:=drop_nil h g;exact zf (AH ..) (zl (w8<|by omega)<|zd<|a _)
 |p::r,i,h,g,a=>by
  obtain⟨l,k,o⟩:=drop_cons (d:=(([],[]):BM)) h;have j:=wn (i:=i) (by omega);have e:=nb (i:=i) (n:=w.length) (by omega);rw[R3]at a;refine zf (AH ..) ?_;conv=>zeta
  rw[ze,k,j];refine zc (w4<|by omega)<|zc e<|zh (fun c=>zd ?_)<|fun c=>zc e<|zh (fun d=>zd ?_)<|fun d=>Ge b f nx t w m r (i+1) o l ?_
  ·have c:=w6 c;rw[w8 (by omega),zx,zx]at a;exact a _
  ·have d:=w6 d;rw[w8 (p:=p.2.length<=20) (by omega),yq,zx]at a;exact a _
  ·have c:=w7 c;have d:=w7 d;rw[w4 (p:=p.1.length<=40) (by omega),w4 (p:=p.2.length<=20) (by omega),yk,yt]at a;exact a
theorem GP(b e nx:B0)(t w:List BM)(k:t.length<=70)(g:w.length<=20):∀(r:List BM) (i:Nat),t.drop i=r->i<=t.length->(∀ob,Q (.bl<|IA r 20 20&&IA w 40 20) ob)->Ends E1 (L1 (i:Int) b e nx t w) Q
 |[],i,h,j,a=>by
  have:=drop_nil h j;have a:∀ob,Q (.bl<|IA w 40 20) ob:=a;exact zf (Al ..) (zl (w8<|by omega)<|Ge b e nx t w g w 0 rfl (z7 _) a)
 |p::r,i,h,j,a=>by
  obtain⟨o,m,q⟩:=drop_cons (d:=(([],[]):BM)) h;have l:=wn (i:=i) (by omega);have f:=nb (i:=i) (n:=t.length) (by omega);rw[R3]at a;refine zf (Al ..) ?_;conv=>zeta
  rw[ze,m,l];refine zc (w4<|by omega)<|zc f<|zh (fun c=>zd ?_)<|fun c=>zc f<|zh (fun d=>zd ?_)<|fun d=>GP b e nx t w k g r (i+1) q o ?_
  ·have c:=w6 c;rw[w8 (p:=p.1.length<=20) (by omega),zx,zx,zx]at a;exact a _
  ·have d:=w6 d;rw[w8 (p:=p.2.length<=20) (by omega),yq,zx,zx]at a;exact a _
  ·have c:=w7 c;have d:=w7 d;rw[w4 (p:=p.1.length<=20) (by omega),w4 (p:=p.2.length<=20) (by omega),yk,yt]at a;exact a
theorem ok:Af A6 11 Y6:=by
 refine BO WH<|fun(l:BW) _=>?_;have f:∀b ob,b=yj l->Ad Y6 l (.bl b) ob:=fun b ob x=>yu rfl rfl x
 have no:∀ob,yj l=false->Ad Y6 l (.bl false) ob:=fun ob h=>f _ ob h.symm
 refine yp (Ai l)<|zh (fun a=>zd<|no _ ?_)<|fun a=>zh (fun b=>zd<|no _ ?_)<|fun b=>zh (fun c=>zd<|no _ ?_)<|fun c=>zh (fun d=>zd<|no _ ?_)<|fun d=>zh (fun e=>zd<|no _ ?_)<|fun e=>?_;all_goals simp only[w5,w9]at*
 ·unfold yj;rw[w8<|by omega];rfl
 ·unfold yj;rw[w8 (p:=l.2.1.length<=20)<|by omega];simp
 ·unfold yj;rw[w8 (p:=l.2.2.1.length<=20)<|by omega];simp
 ·unfold yj;rw[w8 (p:=l.2.2.2.1.length<=70)<|by omega];simp
 ·unfold yj;rw[w8 (p:=l.2.2.2.2.length<=20)<|by omega];simp
 ·refine GP _ _ _ _ _ (by omega) (by omega) _ 0 rfl (z7 _) (fun ob=>f _ ob ?_);unfold yj;rw[w4 (p:=l.1.length<=40) (by omega),w4 (p:=l.2.1.length<=20) (by omega),w4 (p:=l.2.2.1.length<=20) (by omega),w4 (p:=l.2.2.2.1.length<=70) (by omega),w4 (p:=l.2.2.2.2.length<=20)<|by omega];rfl
end T11
theorem lC:C9 Q9:=Aa T11.ok AI
namespace T9
variable {Q:PV->Ob->Prop}
theorem Jg(S:List BX)(b:List Ct)(V:List BW)(j:V.length<=10):∀(r:List BW) (i:Nat),V.drop i=r->i<=V.length->(∀ob,Q (.bl<|r.all yj) ob)->Ends Q9 (L3 (i:Int) S b V) Q
 |[],i,h,e,a=>by
  have:=drop_nil h e;exact zf (B5 ..) (zl (w8<|by omega)<|zd<|a _)
 |p::r,i,h,e,a=>by
  obtain⟨l,k,m⟩:=drop_cons (d:=(([],[],[],[],[]):BW)) h;have f:=wn (i:=i) (by omega);have g:=nb (i:=i) (n:=V.length) (by omega);rw[yh]at a;refine zf (B5 ..) ?_;conv=>zeta
  rw[ze,k,f];refine zc (w4<|by omega)<|zc g<|zc rfl (zh (fun c=>zd ?_)<|fun c=>Jg S b V j r (i+1) m l ?_)
  ·have c:(!yj p)=true:=c;have c:yj p=false:=by simpa using c
   rw[c]at a;exact a _
  ·have c:(!yj p)=false:=c;have c:yj p=true:=by simpa using c
   rw[c]at a;exact a
theorem Ge(S:List BX)(b:List Ct)(V:List BW)(m:b.length<=10)(f:V.length<=10):∀(r:List Ct) (i:Nat),b.drop i=r->i<=b.length->(∀ob,Q (.bl<|r.all Sp.Ds&&V.all yj) ob)->Ends Q9 (L2 (i:Int) S b V) Q
 |[],i,h,g,a=>by
  have:=drop_nil h g;have a:∀ob,Q (.bl<|V.all yj) ob:=a;exact zf (AH ..) (zl (w8<|by omega)<|Jg S b V f V 0 rfl (z7 _) a)
 |p::r,i,h,g,a=>by
  obtain⟨l,k,n⟩:=drop_cons (d:=(([],[]):Ct)) h;have j:=wn (i:=i) (by omega);have e:(decide ((0:Int)<=(i:Int))&&decide ((i:Int)<(b.length:Int)))=true:=ad (by omega) (by omega);rw[yh]at a;refine zf (AH ..) ?_;conv=>zeta
  rw[ze,k,j];have sh:Sp.Ds p=(decide (p.1.length<=40)&&decide (p.2.length<=40)):=rfl;refine zc (w4<|by omega)<|zc e<|zh (fun c=>zd ?_)<|fun c=>zc e<|zh (fun d=>zd ?_)<|fun d=>Ge S b V m f r (i+1) n l ?_
  ·have c:=w6 c;rw[sh,w8 (p:=p.1.length<=40)<|by omega]at a;exact a _
  ·have d:=w6 d;rw[sh,w8 (p:=p.2.length<=40) (by omega),yq]at a;exact a _
  ·have c:=w7 c;have d:=w7 d;rw[sh,w4 (p:=p.1.length<=40) (by omega),w4 (p:=p.2.length<=40)<|by omega]at a;exact a
theorem GP(S:List BX)(g:List Ct)(V:List BW)(m:S.length<=38)(k:g.length<=10)(j:V.length<=10):∀(r:List BX) (i:Nat),S.drop i=r->i<=S.length->(∀ob,Q (.bl<|r.all y8&&(g.all Sp.Ds&&V.all yj)) ob)->Ends Q9 (L1 (i:Int) S g V) Q
 |[],i,h,l,f=>by
  have:=drop_nil h l;have f:∀ob,Q (.bl<|g.all Sp.Ds&&V.all yj) ob:=f;exact zf (Al ..) (zl (w8<|by omega)<|Ge S g V k j g 0 rfl (z7 _) f)
 |p::r,i,h,l,f=>by
  obtain⟨u,t,q⟩:=drop_cons (d:=(([],[],[],[],[]):BX)) h;have o:=wn (i:=i) (by omega);have s:=nb (i:=i) (n:=S.length) (by omega);rw[yh]at f;refine zf (Al ..) ?_;conv=>zeta
  rw[ze,t,o];have no:y8 p=false->∀ob,Q (.bl false) ob:=fun h=>by rw[h]at f;exact f
  refine zc (w4<|by omega)<|zc s<|zh (fun a=>zd<|no ?_ _)<|fun a=>zh (fun b=>zd<|no ?_ _)<|fun b=>zh (fun c=>zd<|no ?_ _)<|fun c=>zh (fun d=>zd<|no ?_ _)<|fun d=>zh (fun e=>zd<|no ?_ _)<|fun e=>GP S g V m k j r (i+1) q u ?_
  ·have a:=w6 a;unfold y8;rw[w8 (p:=p.1.length<=20)<|by omega];rfl
  ·have b:=w6 b;unfold y8;rw[w8 (p:=p.2.1.length<=20)<|by omega];simp
  ·have c:=w6 c;unfold y8;rw[w8 (p:=p.2.2.1.length<=20)<|by omega];simp
  ·have d:=w6 d;unfold y8;rw[w8 (p:=p.2.2.2.1.length<=20)<|by omega];simp
  ·have e:=w6 e;unfold y8;rw[w8 (p:=p.2.2.2.2.length<=20)<|by omega];simp
  ·have a:=w7 a;have b:=w7 b;have c:=w7 c;have d:=w7 d;have e:=w7 e;have y:y8 p=true:=by
    unfold y8;rw[w4 (p:=p.1.length<=20) (by omega),w4 (p:=p.2.1.length<=20) (by omega),w4 (p:=p.2.2.1.length<=20) (by omega),w4 (p:=p.2.2.2.1.length<=20) (by omega),w4 (p:=p.2.2.2.2.length<=20)<|by omega];rfl
   rw[y]at f;exact f
theorem ok:Af A6 9 wK:=by
 refine BO lC<|fun(c:AT) _=>?_;have e:∀b ob,b=He c->Ad wK c (.bl b) ob:=fun b ob x=>yu rfl rfl x
 have no:∀ob,He c=false->Ad wK c (.bl false) ob:=fun ob h=>e _ ob h.symm
 refine yp (Ai c)<|zh (fun a=>zd<|no _ ?_)<|fun a=>zh (fun b=>zd<|no _ ?_)<|fun b=>zh (fun d=>zd<|no _ ?_)<|fun d=>?_
 ·have a:=w6 a;unfold He;rw[w8 (p:=c.1.length<=38)<|by omega];rfl
 ·have b:=w6 b;unfold He;rw[w8 (p:=c.2.1.length<=10)<|by omega];simp
 ·have d:=w6 d;unfold He;rw[w8 (p:=c.2.2.length<=10)<|by omega];simp
 ·have a:=w7 a;have b:=w7 b;have d:=w7 d;refine GP _ _ _ (by omega) (by omega) (by omega) _ 0 rfl (z7 _) (fun ob=>e _ ob ?_);unfold He;rw[w4 (p:=c.1.length<=38) (by omega),w4 (p:=c.2.1.length<=10) (by omega),w4 (p:=c.2.2.length<=10) (by omega),yk,yk,yt,Bool.and_assoc];rfl
end T9
open Go.Sp (AT BX BW BM Io B0 Ct q0 q1 n0 n1)
theorem zX{s:Sh}{sz id:Nat}{ob:Ob}{fz:Bool}{t:TypeId}{o:List s.T}(b:s.sz=sz)(a:AP ob id=some (.arr fz t s o)):B1 ⟨0,.leaf,ob,0⟩ (.sl id sz 0 o.length none)=some (true,.dat (.list s) o):=by
 subst b;unfold B1 AM.obj;simp only[a,Nat.beq_refl,we];simp
theorem AbD{a b nx:B0}{t w:List BM}{n id:Nat}{ob:Ob}{fz:Bool}{ty:TypeId}(h:AP ob id=some (.arr fz ty CE w))(g:n=w.length):EC ⟨0,.leaf,ob,0⟩ BB (.agg [.dat .str a,.dat .str b,.dat .str nx,.dat (.list CE) t,.sl id 2 0 n none])=some (true,(a,b,nx,t,w)):=by
 subst g;have e:B1 ⟨0,.leaf,ob,0⟩ (.sl id 2 0 w.length none)=some (true,.dat (.list CE) w):=zX (s:=CE) (sz:=2) rfl h;have f:Dk ⟨0,.leaf,ob,0⟩ (PV.cells<|.agg [.dat .str a,.dat .str b,.dat .str nx,.dat (.list CE) t,.sl id 2 0 w.length none])=some (true,[.dat .str a,.dat .str b,.dat .str nx,.dat (.list CE) t,.dat (.list CE) w]):=by
  show(match some (true,PV.dat Sh.str a),(match some (true,PV.dat Sh.str b),(match some (true,PV.dat Sh.str nx),(match some (true,PV.dat (.list CE) t),(match B1 ⟨0,.leaf,ob,0⟩ (.sl id 2 0 w.length none),some (true,[])with|some (c,x),some (d,xs)=>some (c&&d,x::xs)|_,_=>none)with|some (c,x),some (d,xs)=>some (c&&d,x::xs)|_,_=>none)with|some (c,x),some (d,xs)=>some (c&&d,x::xs)|_,_=>none)with|some (c,x),some (d,xs)=>some (c&&d,x::xs)|_,_=>none)with|some (c,x),some (d,xs)=>some (c&&d,x::xs)|_,_=>none)=_;rw[e];rfl
 unfold EC;rw[f];rfl
theorem Aau{b a nx:B0}{t w:List BM}{n id:Nat}{ob:Ob}{fz:Bool}{ty:TypeId}(d:AP ob id=some (.arr fz ty CE w))(c:n=w.length):Iq [BB] (.agg [.dat .str b,.dat .str a,.dat .str nx,.dat (.list CE) t,.sl id 2 0 n none]) ob=some (true,(b,a,nx,t,w)):=AbD d c
theorem AcC{n m:Nat}(h:n=m)(a:n<=4398046511104):(decide (1<=1)&&true&&decide (n=m)&&decide ((3*(n+1)+2000)*32<=562949953421312))=true:=Ab (Ab (Ab rfl rfl)<|w4 h) (w4<|by omega)
namespace T12
theorem Ge(c g nx:B0)(t w:List BM)(k j q:B0)(y:w.length<=4398046511104):∀(r:List BM) (i n:Nat) (o:List BM),w.drop i=r->i<=w.length->n=o.length->o=w.take i->n=i->Ends E1 (L2 (i:Int) o c g nx t n k j q c g nx t w) (Ad oU (c,g,nx,t,w))
 |[],i,n,o,h,l,f,b,a=>by
  have e:=drop_nil h l;have b:o=w:=by rw[b,e,zi]
  subst b;exact zf (AH ..) (zl (w8<|by omega)<|zd<|yu (Aau rfl f) rfl rfl)
 |p::r,i,n,o,h,l,f,b,a=>by
  have t2:=Sp.Di h;obtain⟨x,v,u⟩:=drop_cons (d:=(([],[]):BM)) h;have s:=wn (i:=i) (by omega);have m:=nb (i:=i) (n:=w.length) (by omega);refine zf (AH ..) ?_;conv=>zeta
  rw[ze,v,s];refine zc (w4<|by omega) (zc m<|zc m<|zc (AcC f<|by omega) ?_);exact Ge c g nx t w k j q y r (i+1) (ye n 1) (o++[p]) u x (by rw[zj,f];rfl) (by rw[t2,b]) (by rw[a])
theorem ok:Af A6 12 oU:=by
 refine BO WH<|fun(l:BW) hi=>?_;obtain⟨b,d,nx,t,w⟩:=l;have a:decide (w.length<=4398046511104)=true:=hi;have a:=w6 a;refine yp (Ai (b,d,nx,t,w)) ?_;conv=>zeta
 cases w with
 |nil=>exact zf (Al ..)<|zl rfl (zd<|yu rfl rfl rfl)
 |cons p r=>
  have e:zw .i64 ((0:Int)+1)=((1:Nat):Int):=rfl;have f:(p::r).getD (z6 0) ([],[])=p:=rfl;have c:(decide ((0:Int)<=(0:Int))&&decide ((0:Int)<((p::r).length:Int)))=true:=Ab rfl (w4<|by rw[zg];omega);refine zf (Al ..) ?_;conv=>zeta
  show Ends E1 (.ite (decide ((0:Int)<((p::r).length:Int))) _ _) _;rw[f,e];refine zc (w4<|by rw[zg];omega) (zc c<|zc c<|zc (Ab (Ab rfl rfl)<|w4<|by omega) ?_);exact Ge b d nx t (p::r) [] [] [] a r 1 1 [p] rfl (by rw[zg];omega) rfl rfl rfl
end T12
end Go.Pe
namespace Go.Pe
open Sp
open Go.Det
open Go.Sp (AT BX BW BM Io B0 Ct)
def CV(st:AM)(s:Sh)(v:PV)(l:List s.T):Prop:=∃x,B1 st v=some (true,x)/\(x=.dat (.list s) l\/x=.nil/\l=[])
theorem FJ{st:AM}{s:Sh}:CV st s .nil []:=⟨.nil,rfl,.inr ⟨rfl,rfl⟩⟩
theorem Iu{s:Sh}{sz id:Nat}{ob:Ob}{fz:Bool}{t:TypeId}{l:List s.T}(b:s.sz=sz)(a:AP ob id=some (.arr fz t s l)):CV ⟨0,.leaf,ob,0⟩ s (.sl id sz 0 l.length none) l:=⟨_,zX b a,.inl rfl⟩
theorem AbF{ob:Ob}{a b d:PV}{S:List BX}{e:List Ct}{V:List BW}(j:CV ⟨0,.leaf,ob,0⟩ BY a S)(h:CV ⟨0,.leaf,ob,0⟩ Ds b e)(i:CV ⟨0,.leaf,ob,0⟩ BB d V):EC ⟨0,.leaf,ob,0⟩ BF (.agg [a,b,d])=some (true,(S,e,V)):=by
 obtain⟨x,k,g⟩:=j;obtain⟨y,hy,cy⟩:=h;obtain⟨z,hz,cz⟩:=i;have f:Dk ⟨0,.leaf,ob,0⟩ (PV.cells<|.agg [a,b,d])=some (true,[x,y,z]):=by
  show(match B1 ⟨0,.leaf,ob,0⟩ a,(match B1 ⟨0,.leaf,ob,0⟩ b,(match B1 ⟨0,.leaf,ob,0⟩ d,some (true,[])with|some (c,x),some (d,xs)=>some (c&&d,x::xs)|_,_=>none)with|some (c,x),some (d,xs)=>some (c&&d,x::xs)|_,_=>none)with|some (c,x),some (d,xs)=>some (c&&d,x::xs)|_,_=>none)=_;rw[k,hy,hz];rfl
 unfold EC;rw[f];rcases g with rfl|⟨rfl,rfl⟩<;>rcases cy with rfl|⟨rfl,rfl⟩<;>rcases cz with rfl|⟨rfl,rfl⟩<;>rfl
theorem FF{ob:Ob}{a b d:PV}{c:AT}(f:CV ⟨0,.leaf,ob,0⟩ BY a c.1)(e:CV ⟨0,.leaf,ob,0⟩ Ds b c.2.1)(g:CV ⟨0,.leaf,ob,0⟩ BB d c.2.2):Ad J3 c (.agg [a,b,d]) ob:=⟨c,AbF f e g,rfl⟩
theorem Rd{n m k:Nat}(h:n=m)(a:(3*(n+1)+2000)*k<=562949953421312):(decide (1<=1)&&true&&decide (n=m)&&decide ((3*(n+1)+2000)*k<=562949953421312))=true:=Ab (Ab (Ab rfl rfl)<|w4 h)<|w4 a
theorem Rh{k:Nat}(a:k<=100):(decide (1<=1)&&decide (0<1)&&decide ((3*1+2000)*k<=562949953421312))=true:=Ab (Ab rfl rfl) (w4<|Nat.le_trans (Nat.mul_le_mul_left _ a)<|by decide)
structure UB(c:AT):Prop where
 s:c.1.length<=1599289640401
 t:c.2.1.length<=3518437208883
 l:c.2.2.length<=1466015503701
 so:∀x∈c.1,x.2.2.2.2.length<=5864062014805
 lo:∀x∈c.2.2,fD x=true
theorem AaK{c:AT}(h:zO c=true):UB c:=by
 unfold zO at h;rw[zo,zo,zo,zo,w5,w5,w5,zt,zt]at h;obtain⟨⟨⟨⟨b,e⟩,g⟩,f⟩,a⟩:=h;exact⟨b,e,g,fun x d=>w6<|f x d,a⟩
theorem CL{i n:Nat}(h:i<n):(decide ((0:Int)<=(i:Int))&&decide ((i:Int)<(n:Int)))=true:=ad (by omega) (by omega)
theorem qO{i:Nat}(h:i<=4611686018427387904):zw .i64 ((i:Int)+1)=((i+1:Nat):Int):=by rw[wr _ (by omega)<|by omega];omega
theorem iW:C9 BU:=Aa T12.ok AI
namespace T10
theorem AcR(c:AT)(g:UB c)(j:c.1=[])(m:c.2.1=[]):∀(r:List BW) (i n:Nat) (o:List BW),c.2.2.drop i=r->i<=c.2.2.length->n=o.length->o=c.2.2.take i->n=i->Ends BU (L12 c (i:Int) o n) (Ad J3 c)
 |[],i,n,o,h,q,f,b,a=>by
  have e:=drop_nil h q;have b:o=c.2.2:=by rw[b,e,zi]
  subst b;subst f;exact zf (kZ ..) (zl (w8<|by omega)<|zd (FF (by rw[j];exact FJ) (by rw[m];exact FJ)<|Iu rfl rfl))
 |p::r,i,n,o,h,q,f,b,a=>by
  have t2:=Di h;obtain⟨k,t,u⟩:=drop_cons (d:=(([],[],[],[],[]):BW)) h;have s:=g.lo p (z8<|by rw[h];exact zm ..);have v:=g.l;refine zf (kZ ..) ?_;conv=>zeta
  rw[ze,t,qO<|by omega];refine zc (w4<|by omega) (zc (CL k)<|zc s<|zc (Rd f<|by omega) ?_);exact AcR c g j m r (i+1) (ye n 1) (o++[p]) u k (by rw[zj,f];rfl) (by rw[t2,b]) (by rw[a])
theorem Aes(c:AT)(a:UB c)(b:c.1=[])(e:c.2.1=[]):Ends BU (L8 c 0) (Ad J3 c):=by
 have h:=a.l;cases hr:c.2.2 with
 |nil=>exact zf (Hs ..) (zl (by rw[hr];rfl) (zd<|FF (by rw[b];exact FJ) (by rw[e];exact FJ)<|by rw[hr];exact FJ))
 |cons p r=>
  have d:0<c.2.2.length:=by rw[hr,zg];omega
  have g:c.2.2.getD (z6 0) ([],[],[],[],[])=p:=by rw[hr];rfl
  have f:=a.lo p (by rw[hr];exact zm ..);refine zf (Hs ..) ?_;conv=>zeta
  rw[g,show zw .i64 ((0:Int)+1)=((1:Nat):Int)from rfl];refine zc (w4<|by omega) (zc (CL (i:=0) d)<|zc f<|zc (Rh<|by decide) ?_);exact AcR c a b e r 1 1 [p] (by rw[hr];rfl) d rfl (by rw[hr];rfl) rfl
theorem AcH(c:AT)(g:UB c)(j:c.1=[]):∀(r:List BW) (i n:Nat) (o:List BW),c.2.2.drop i=r->i<=c.2.2.length->n=o.length->o=c.2.2.take i->n=i->Ends BU (L16 c (i:Int) o c.2.1 c.2.1.length n) (Ad J3 c)
 |[],i,n,o,h,m,f,b,a=>by
  have e:=drop_nil h m;have b:o=c.2.2:=by rw[b,e,zi]
  subst b;subst f;exact zf (kJ ..) (zl (w8<|by omega)<|zd (FF (by rw[j];exact FJ) (Iu rfl rfl)<|Iu rfl rfl))
 |p::r,i,n,o,h,m,f,b,a=>by
  have t2:=Di h;obtain⟨k,s,t⟩:=drop_cons (d:=(([],[],[],[],[]):BW)) h;have q:=g.lo p (z8 (by rw[h];exact zm ..));have u:=g.l;refine zf (kJ ..) ?_;conv=>zeta
  rw[ze,s,qO<|by omega];refine zc (w4<|by omega) (zc (CL k) (zc q<|zc (Rd f<|by omega) ?_));exact AcH c g j r (i+1) (ye n 1) (o++[p]) t k (by rw[zj,f];rfl) (by rw[t2,b]) (by rw[a])
theorem Aet(c:AT)(a:UB c)(b:c.1=[]):Ends BU (L11 c 0 c.2.1 c.2.1.length) (Ad J3 c):=by
 have g:=a.l;cases hr:c.2.2 with
 |nil=>exact zf (oK ..) (zl (by rw[hr];rfl) (zd<|FF (by rw[b];exact FJ) (Iu rfl rfl) (by rw[hr];exact FJ)))
 |cons p r=>
  have d:0<c.2.2.length:=by rw[hr,zg];omega
  have f:c.2.2.getD (z6 0) ([],[],[],[],[])=p:=by rw[hr];rfl
  have e:=a.lo p (by rw[hr];exact zm ..);refine zf (oK ..) ?_;conv=>zeta
  rw[f,show zw .i64 ((0:Int)+1)=((1:Nat):Int)from rfl];refine zc (w4<|by omega) (zc (CL (i:=0) d)<|zc e<|zc (Rh<|by decide) ?_);exact AcH c a b r 1 1 [p] (by rw[hr];rfl) d rfl (by rw[hr];rfl) rfl
theorem AcV(c:AT)(g:UB c)(k:c.2.1=[]):∀(r:List BW) (i n:Nat) (o:List BW),c.2.2.drop i=r->i<=c.2.2.length->n=o.length->o=c.2.2.take i->n=i->Ends BU (L18 c (i:Int) o c.1 c.1.length n) (Ad J3 c)
 |[],i,n,o,h,m,f,b,a=>by
  have e:=drop_nil h m;have b:o=c.2.2:=by rw[b,e,zi]
  subst b;subst f;exact zf (pH ..) (zl (w8<|by omega)<|zd (FF (Iu rfl rfl) (by rw[k];exact FJ)<|Iu rfl rfl))
 |p::r,i,n,o,h,m,f,b,a=>by
  have t2:=Di h;obtain⟨j,s,t⟩:=drop_cons (d:=(([],[],[],[],[]):BW)) h;have q:=g.lo p (z8<|by rw[h];exact zm ..);have u:=g.l;refine zf (pH ..) ?_;conv=>zeta
  rw[ze,s,qO<|by omega];refine zc (w4<|by omega) (zc (CL j) (zc q<|zc (Rd f<|by omega) ?_));exact AcV c g k r (i+1) (ye n 1) (o++[p]) t j (by rw[zj,f];rfl) (by rw[t2,b]) (by rw[a])
theorem AeZ(c:AT)(a:UB c)(d:c.2.1=[]):Ends BU (L15 c 0 c.1 c.1.length) (Ad J3 c):=by
 have g:=a.l;cases hr:c.2.2 with
 |nil=>exact zf (nU ..) (zl (by rw[hr];rfl) (zd<|FF (Iu rfl rfl) (by rw[d];exact FJ) (by rw[hr];exact FJ)))
 |cons p r=>
  have b:0<c.2.2.length:=by rw[hr,zg];omega
  have f:c.2.2.getD (z6 0) ([],[],[],[],[])=p:=by rw[hr];rfl
  have e:=a.lo p (by rw[hr];exact zm ..);refine zf (nU ..) ?_;conv=>zeta
  rw[f,show zw .i64 ((0:Int)+1)=((1:Nat):Int)from rfl];refine zc (w4<|by omega) (zc (CL (i:=0) b) (zc e<|zc (Rh<|by decide) ?_));exact AcV c a d r 1 1 [p] (by rw[hr];rfl) b rfl (by rw[hr];rfl) rfl
theorem AcQ(c:AT)(g:UB c):∀(r:List BW) (i n:Nat) (o:List BW),c.2.2.drop i=r->i<=c.2.2.length->n=o.length->o=c.2.2.take i->n=i->Ends BU (L19 c (i:Int) o c.2.1 c.1 c.1.length c.2.1.length n) (Ad J3 c)
 |[],i,n,o,h,k,f,b,a=>by
  have e:=drop_nil h k;have b:o=c.2.2:=by rw[b,e,zi]
  subst b;subst f;exact zf (lE ..) (zl (w8<|by omega)<|zd<|FF (Iu rfl rfl) (Iu rfl rfl)<|Iu rfl rfl)
 |p::r,i,n,o,h,k,f,b,a=>by
  have t2:=Di h;obtain⟨j,q,s⟩:=drop_cons (d:=(([],[],[],[],[]):BW)) h;have m:=g.lo p (z8<|by rw[h];exact zm ..);have t:=g.l;refine zf (lE ..) ?_;conv=>zeta
  rw[ze,q,qO<|by omega];refine zc (w4<|by omega) (zc (CL j) (zc m<|zc (Rd f<|by omega) ?_));exact AcQ c g r (i+1) (ye n 1) (o++[p]) s j (by rw[zj,f];rfl) (by rw[t2,b]) (by rw[a])
theorem Aew(c:AT)(a:UB c):Ends BU (L17 c 0 c.2.1 c.1 c.1.length c.2.1.length) (Ad J3 c):=by
 have f:=a.l;cases hr:c.2.2 with
 |nil=>exact zf (pQ ..) (zl (by rw[hr];rfl) (zd<|FF (Iu rfl rfl) (Iu rfl rfl) (by rw[hr];exact FJ)))
 |cons p r=>
  have b:0<c.2.2.length:=by rw[hr,zg];omega
  have e:c.2.2.getD (z6 0) ([],[],[],[],[])=p:=by rw[hr];rfl
  have d:=a.lo p (by rw[hr];exact zm ..);refine zf (pQ ..) ?_;conv=>zeta
  rw[e,show zw .i64 ((0:Int)+1)=((1:Nat):Int)from rfl];refine zc (w4<|by omega) (zc (CL (i:=0) b) (zc d<|zc (Rh<|by decide) ?_));exact AcQ c a r 1 1 [p] (by rw[hr];rfl) b rfl (by rw[hr];rfl) rfl
theorem te6(c:AT)(g:UB c)(k:c.1=[]):∀(r:List Ct) (i n:Nat) (o:List Ct),c.2.1.drop i=r->i<=c.2.1.length->n=o.length->o=c.2.1.take i->n=i->Ends BU (L7 c (i:Int) o n) (Ad J3 c)
 |[],i,n,o,h,l,f,b,a=>by
  have e:=drop_nil h l;have b:o=c.2.1:=by rw[b,e,zi]
  subst b;subst f;exact zf (D1 ..) (zl (w8<|by omega)<|Aet c g k)
 |p::r,i,n,o,h,l,f,b,a=>by
  have t2:=Di h;obtain⟨j,m,q⟩:=drop_cons (d:=(([],[]):Ct)) h;have s:=g.t;refine zf (D1 ..) ?_;conv=>zeta
  rw[ze,m,qO<|by omega];refine zc (w4<|by omega) (zc (CL j)<|zc (CL j) (zc (Rd f<|by omega) ?_));exact te6 c g k r (i+1) (ye n 1) (o++[p]) q j (by rw[zj,f];rfl) (by rw[t2,b]) (by rw[a])
theorem ts6(c:AT)(a:UB c)(d:c.1=[]):Ends BU (L4 c 0) (Ad J3 c):=by
 have f:=a.t;cases hr:c.2.1 with
 |nil=>exact zf (CD ..) (zl (by rw[hr];rfl)<|Aes c a d hr)
 |cons p r=>
  have b:0<c.2.1.length:=by rw[hr,zg];omega
  have e:c.2.1.getD (z6 0) ([],[])=p:=by rw[hr];rfl
  refine zf (CD ..) ?_;conv=>zeta
  rw[e,show zw .i64 ((0:Int)+1)=((1:Nat):Int)from rfl];refine zc (w4<|by omega) (zc (CL (i:=0) b) (zc (CL (i:=0) b)<|zc (Rh<|by decide) ?_));exact te6 c a d r 1 1 [p] (by rw[hr];rfl) b rfl (by rw[hr];rfl) rfl
theorem Adm(c:AT)(g:UB c):∀(r:List Ct) (i n:Nat) (o:List Ct),c.2.1.drop i=r->i<=c.2.1.length->n=o.length->o=c.2.1.take i->n=i->Ends BU (L14 c (i:Int) o c.1 c.1.length n) (Ad J3 c)
 |[],i,n,o,h,k,f,b,a=>by
  have e:=drop_nil h k;have b:o=c.2.1:=by rw[b,e,zi]
  subst b;subst f;exact zf (kR ..) (zl (w8<|by omega)<|Aew c g)
 |p::r,i,n,o,h,k,f,b,a=>by
  have t2:=Di h;obtain⟨j,l,m⟩:=drop_cons (d:=(([],[]):Ct)) h;have q:=g.t;refine zf (kR ..) ?_;conv=>zeta
  rw[ze,l,qO<|by omega];refine zc (w4<|by omega) (zc (CL j)<|zc (CL j)<|zc (Rd f<|by omega) ?_);exact Adm c g r (i+1) (ye n 1) (o++[p]) m j (by rw[zj,f];rfl) (by rw[t2,b]) (by rw[a])
theorem Aeq(c:AT)(a:UB c):Ends BU (zT c 0 c.1 c.1.length) (Ad J3 c):=by
 have e:=a.t;cases hr:c.2.1 with
 |nil=>exact zf (SJ ..) (zl (by rw[hr];rfl)<|AeZ c a hr)
 |cons p r=>
  have b:0<c.2.1.length:=by rw[hr,zg];omega
  have d:c.2.1.getD (z6 0) ([],[])=p:=by rw[hr];rfl
  refine zf (SJ ..) ?_;conv=>zeta
  rw[d,show zw .i64 ((0:Int)+1)=((1:Nat):Int)from rfl];refine zc (w4<|by omega) (zc (CL (i:=0) b) (zc (CL (i:=0) b)<|zc (Rh<|by decide) ?_));exact Adm c a r 1 1 [p] (by rw[hr];rfl) b rfl (by rw[hr];rfl) rfl
variable {Q:PV->Ob->Prop}
theorem Adt(c:AT)(l:UB c)(i n:Nat)(o:List BX)(p:BX)(a:i<c.1.length)(m:c.1.getD i ([],[],[],[],[])=p)(x:n=o.length)(u:n=i)(K:Ends BU (L6 c ((i+1:Nat):Int) (o++[p])<|ye n 1) Q):∀(r:List Io) (j k:Nat) (q:List Io),p.2.2.2.2.drop j=r->j<=p.2.2.2.2.length->k=q.length->q=p.2.2.2.2.take j->k=j->Ends BU (L13 c (i:Int) (j:Int) q o p.1 p.2.1 p.2.2.1 p.2.2.2.1 k n) Q
 |[],j,k,q,h,w,t,g,f=>by
  have e:=drop_nil h w;have g:q=p.2.2.2.2:=by rw[g,e,zi]
  have y:=l.s;subst g;subst t;refine zf (iZ ..) ?_;conv=>zeta
  rw[ze,ze,m,zi,qO (i:=i)<|by omega];refine zc (CL a) (zl (w8<|by omega) (zc (Ab (w4<|by omega) rfl)<|zc (Rd x<|by omega) ?_));exact K
 |b::r,j,k,q,h,w,t,g,f=>by
  have t2:=Di h;obtain⟨v,A,z⟩:=drop_cons (d:=(([],0):Io)) h;have y:=l.s;have B:=l.so p (by rw[<-m];exact GY a);refine zf (iZ ..) ?_;conv=>zeta
  rw[ze,ze,m,A,qO (i:=j)<|by omega];refine zc (CL a) (zc (w4<|by omega) (zc (CL a)<|zc (CL v) (zc (CL a) (zc (CL v)<|zc (Rd t<|by omega) ?_))));exact Adt c l i n o p a m x u K r (j+1) (ye k 1) (q++[b]) z v (by rw[zj,t];rfl) (by rw[t2,g]) (by rw[f])
theorem in8(c:AT)(e:UB c)(i n:Nat)(o:List BX)(p:BX)(a:i<c.1.length)(g:c.1.getD i ([],[],[],[],[])=p)(f:n=o.length)(d:n=i)(K:Ends BU (L6 c ((i+1:Nat):Int) (o++[p])<|ye n 1) Q):Ends BU (L9 c (i:Int) 0 o p.1 p.2.1 p.2.2.1 p.2.2.2.1 n) Q:=by
 have t:=e.s;obtain⟨m,j,q,k,l⟩:=p;refine zf (jY ..) ?_;conv=>zeta
 rw[ze,g,qO (i:=i)<|by omega];cases l with
 |nil=>
  refine zc (CL a) (zl rfl (zc (Rd f<|by omega) ?_));exact K
 |cons b r=>
  have h:0<(b::r).length:=by rw[zg];omega
  refine zc (CL a) (zc (w4<|by rw[zg];omega) (zc (CL a)<|zc (CL (i:=0) h)<|zc (CL a)<|zc (CL (i:=0) h)<|zc (Rh<|by decide) ?_));exact Adt c e i n o (m,j,q,k,b::r) a g f d K r 1 1 [b] rfl (by show 1<=(b::r).length;omega) rfl rfl rfl
theorem si5(c:AT)(j:UB c):∀(r:List BX) (i n:Nat) (o:List BX),c.1.drop i=r->i<=c.1.length->n=o.length->o=c.1.take i->n=i->Ends BU (L6 c (i:Int) o n) (Ad J3 c)
 |[],i,n,o,h,l,g,f,a=>by
  have e:=drop_nil h l;have f:o=c.1:=by rw[f,e,zi]
  subst f;subst g;exact zf (ET ..) (zl (w8<|by omega)<|Aeq c j)
 |p::r,i,n,o,h,l,g,f,a=>by
  have t2:=Di h;obtain⟨b,k,q⟩:=drop_cons (d:=(([],[],[],[],[]):BX)) h;have K:=si5 c j r (i+1) (ye n 1) (o++[p]) q b (by rw[zj,g];rfl) (by rw[t2,f]) (by rw[a]);have m:=in8 c j i n o p b k g a K;refine zf (ET ..) ?_;conv=>zeta
  rw[ze,k];exact zc (w4<|by omega)<|zc (CL b)<|zc (CL b)<|zc (CL b)<|zc (CL b) m
theorem in4(c:AT)(o:UB c)(p:BX)(a:0<c.1.length)(l:c.1.getD 0 ([],[],[],[],[])=p)(K:Ends BU (L6 c ((1:Nat):Int) [p] 1) Q):∀(r:List Io) (j k:Nat) (q:List Io),p.2.2.2.2.drop j=r->j<=p.2.2.2.2.length->k=q.length->q=p.2.2.2.2.take j->k=j->Ends BU (L5 c 0 (j:Int) q p.1 p.2.1 p.2.2.1 p.2.2.2.1 k) Q
 |[],j,k,q,h,s,m,g,f=>by
  have e:=drop_nil h s;have g:q=p.2.2.2.2:=by rw[g,e,zi]
  subst g;subst m;refine zf (EG ..) ?_;conv=>zeta
  rw[show z6 0=0 from rfl,ze,l,zi,show zw .i64 ((0:Int)+1)=((1:Nat):Int)from rfl];refine zc (CL (i:=0) a) (zl (w8<|by omega) (zc (Ab (w4<|by omega) rfl) (zc (Rh<|by decide) ?_)));exact K
 |b::r,j,k,q,h,s,m,g,f=>by
  have t2:=Di h;obtain⟨n,u,t⟩:=drop_cons (d:=(([],0):Io)) h;have v:=o.so p (by rw[<-l];exact GY a);refine zf (EG ..) ?_;conv=>zeta
  rw[show z6 0=0 from rfl,ze,l,u,qO (i:=j)<|by omega];refine zc (CL (i:=0) a) (zc (w4<|by omega)<|zc (CL (i:=0) a) (zc (CL n)<|zc (CL (i:=0) a)<|zc (CL n)<|zc (Rd m<|by omega) ?_));exact in4 c o p a l K r (j+1) (ye k 1) (q++[b]) t n (by rw[zj,m];rfl) (by rw[t2,g]) (by rw[f])
theorem in2(c:AT)(f:UB c)(p:BX)(a:0<c.1.length)(d:c.1.getD 0 ([],[],[],[],[])=p)(K:Ends BU (L6 c ((1:Nat):Int) [p] 1) Q):Ends BU (L3 c 0 0 p.1 p.2.1 p.2.2.1 p.2.2.2.1) Q:=by
 obtain⟨j,h,k,g,l⟩:=p;refine zf (B5 ..) ?_;conv=>zeta
 rw[show z6 0=0 from rfl,d,show zw .i64 ((0:Int)+1)=((1:Nat):Int)from rfl];cases l with
 |nil=>
  refine zc (CL (i:=0) a) (zl rfl (zc (Rh<|by decide) ?_));exact K
 |cons b r=>
  have e:0<(b::r).length:=by rw[zg];omega
  refine zc (CL (i:=0) a) (zc (w4<|by rw[zg];omega) (zc (CL (i:=0) a) (zc (CL (i:=0) e)<|zc (CL (i:=0) a)<|zc (CL (i:=0) e)<|zc (Rh<|by decide) ?_)));exact in4 c f (j,h,k,g,b::r) a d K r 1 1 [b] rfl (by show 1<=(b::r).length;omega) rfl rfl rfl
theorem ok:Af A6 10 J3:=by
 refine BO iW<|fun(c:AT) hi=>?_;have b:=AaK hi;refine yp (Ai c)<|zf (Al ..) ?_;cases hr:c.1 with
 |nil=>exact zf (AH ..) (zl (by rw[hr];rfl)<|ts6 c b hr)
 |cons p r=>
  have a:0<c.1.length:=by rw[hr,zg];omega
  have d:c.1.getD 0 ([],[],[],[],[])=p:=by rw[hr];rfl
  have k:=in2 c b p a d (si5 c b r 1 1 [p] (by rw[hr];rfl) a rfl (by rw[hr];rfl) rfl);refine zf (AH ..) ?_;conv=>zeta
  rw[show z6 0=0 from rfl,d];exact zc (w4<|by omega)<|zc (CL (i:=0) a)<|zc (CL (i:=0) a)<|zc (CL (i:=0) a)<|zc (CL (i:=0) a) k
end T10
end Go.Pe
namespace Go.Pe
open Sp
open Go.Det
open Go.Sp (AT)
theorem T21.ok:Af A6 21 Aaf:=by
 refine Gf (X:=E1) rfl (fun g sp h=>by cases h) (d:=9) (by kernel_rfl) (by kernel_rfl) (by kernel_rfl) (fun(i:Int×Int) _=>?_) (Bb<|by kernel_rfl);obtain⟨i,n⟩:=i;refine yp (T21.Ai i n)<|zh (fun c=>zd<|yu rfl rfl ?_)<|fun c=>zd<|yu rfl rfl ?_
 ·show true=KO i n;unfold KO;rw[c];rfl
 ·show decide (n<=i)=KO i n;unfold KO;rw[c];rfl
theorem T20.ok:Af A6 20 G3:=by
 refine Gf (X:=E1) rfl (fun g sp h=>by cases h) (d:=9) (by kernel_rfl) (by kernel_rfl) (by kernel_rfl) (fun(i:Bool×Int) _=>?_) (Bb<|by kernel_rfl);obtain⟨b,e⟩:=i;refine yp (T20.Ai b e) ?_;conv=>zeta
 cases b
 ·exact zl rfl (zd<|yu rfl rfl rfl)
 ·exact zc rfl (zd<|yu rfl rfl rfl)
theorem T23.ok:Af A6 23 Zm:=by
 refine Gf (X:=E1) rfl (fun g sp h=>by cases h) (d:=9) (by kernel_rfl) (by kernel_rfl) (by kernel_rfl) (fun(i:Int×Int×Int×Int) _=>?_) (Bb<|by kernel_rfl);obtain⟨h,e,b,w⟩:=i;have f:∀v ob,v=Mc h e b w->Ad Zm (h,e,b,w) (.dat .bool v) ob:=fun v ob x=>yu rfl rfl x
 have a:∀v ob,v=Mc h e b w->Ad Zm (h,e,b,w) (.bl v) ob:=fun v ob x=>yu rfl rfl x
 refine yp (T23.Ai h e b w)<|zh (fun c=>zh (fun d=>zd<|f _ _ ?_)<|fun d=>zd<|a _ _ ?_)<|fun c=>zh (fun d=>zd<|f _ _ ?_)<|fun d=>zd<|a _ _ ?_;all_goals unfold Mc
 ·rw[wd (by simpa using c),w4<|show h=0 by simpa using d];rfl
 ·rw[wd (by simpa using c),w8<|show ¬h=0 by simpa using d];rfl
 ·rw[wc (by simpa using c),w4<|show e=0 by simpa using d];rfl
 ·rw[wc (by simpa using c),w8<|show ¬e=0 by simpa using d];rfl
theorem lV:C9 S3:=Aa nX<|Aa T10.ok<|Aa T9.ok<|Aa T17.ok<|Aa T18.ok<|Aa T19.ok<|Aa T16.ok<|Aa T22.ok<|Aa T21.ok<|Aa T20.ok<|Aa T23.ok<|Aa T24.ok<|Aa T25.ok<|Aa T26.ok AI
abbrev I0:Am:=OI
theorem jE{c:AT}(k:NU c≠0)(b:Bool):J8 c b=NU c:=by
 unfold J8;rw[wd k]
theorem UN{c:AT}(k:NU c=0):J8 c true=10:=by
 unfold J8;rw[wc<|fun x=>x k];rfl
theorem Aaa{c:AT}(k:NU c=0):J8 c false=0:=by
 unfold J8;rw[wc<|fun x=>x k];rfl
theorem wZ{e:Int}(h:e≠0):Mc 0 e e 0=true:=by
 unfold Mc;rw[wd h,w4 rfl,w4 rfl];rfl
theorem Aba(n:Int):Mc n 0 0 n=true:=by
 unfold Mc;rw[wc (by decide),w4 rfl,w4 rfl];rfl
namespace T4
variable {Q:PV->Ob->Prop}
theorem bad{c:AT}{t h l e:Int}(a:e≠0)(hp:Mw c t h=e)(b:Ew c t h l=e)(d:∀ob,Q (.dat .bool true) ob):Ends S3 (L2 c (t,h,l) c (fC c t h) (fH c t h) (WL c t h l) (Ew c t h l) (Z6 c t h l) (YT c t h l) e) Q:=by
 have t1:ES (fC c t h) (fH c t h) [] e=true:=by
  unfold fC fH;rw[hp];exact OV a _ _
 have t2:Mc (WL c t h l) (Ew c t h l) e 0=true:=by
  unfold WL;rw[b,wd a];exact wZ a
 have t3:ES (Z6 c t h l) (YT c t h l) [] e=true:=by
  unfold Z6 YT;rw[b];exact OV a _ _
 refine zf (AH ..) (zc (by simpa using a)<|zc rfl (zc t1<|zc rfl (zc t2<|zc rfl (zd ?_))));rw[t3];exact d _
theorem AeY{c:AT}{t h l:Int}(sh:He c=true)(k:NU c=0)(b:VH c t=false)(d:K0 c h=false)(g:∀ob,Q (.dat .bool true) ob):Ends S3 (L2 c (t,h,l) c (fC c t h) (fH c t h) (WL c t h l) (Ew c t h l) (Z6 c t h l) (YT c t h l) 0) Q:=by
 have f:Mw c t h=0:=by unfold Mw;rw[b,d];exact Aaa k
 have kp:Y2 c t h=true:=Ab sh<|w4 f;have N:=SX<|KZ kp;have t1:ES (fC c t h) (fH c t h) (NK c t h) 0=true:=by
  unfold fC fH NK;rw[f];exact ZU _
 refine zf (AH ..) (zl rfl (zc kp<|zc (w4<|N.pl.len<|by decide)<|zl (by rw[t1];rfl)<|zc rfl (zh (fun x=>?_)<|fun x=>?_)))
 ·have a:Ew c t h l=10:=by unfold Ew cT;rw[b,d,x];exact UN k
  have t2:Mc (WL c t h l) (Ew c t h l) 10 0=true:=by
   unfold WL;rw[a];rfl
  have t3:ES (Z6 c t h l) (YT c t h l) [] 10=true:=by
   unfold Z6 YT;rw[a];exact OV (by decide) _ _
  refine zc rfl (zc t2<|zc rfl (zd ?_));rw[t3];exact g _
 ·have a:Ew c t h l=0:=by unfold Ew cT;rw[b,d,x];exact Aaa k
  have e:bD c t h l=true:=Ab sh<|w4 a;have t2:Mc (WL c t h l) (Ew c t h l) 0 (Nk c t h l)=true:=by
   unfold WL;rw[a];exact Aba _
  have t3:ES (Z6 c t h l) (YT c t h l) (Sp.efR c t h l) 0=true:=by
   unfold Z6 YT Sp.efR;rw[a];exact ZU _
  refine zc e (zc rfl (zc t2<|zc e<|zc (w4<|OS (zU e).z<|by decide)<|zd ?_));rw[t3];exact g _
theorem ok:Af A6 4 I0:=by
 refine BO lV<|fun(i:AT×Int×Int×Int) f=>?_;obtain⟨c,t,h,l⟩:=i;have f:zO c=true:=f;have d:∀ob,Ad OI (c,(t,h,l)) (.dat .bool true) ob:=fun ob=>yu rfl rfl rfl
 refine yp (Ai c (t,h,l))<|zc f<|zf (Al ..)<|zc rfl (zl rfl (zc rfl (zh (fun _=>zc rfl (zd<|d _))<|fun s=>?_)));have s:He c=true:=by
  have s:(!He c)=false:=s;simpa using s
 refine zc s<|zc s<|zc s<|zc s<|zh (fun k=>?_)<|fun k=>?_
 ·have k:NU c=0:=by simpa using k
  refine zc rfl (zh (fun a=>zc rfl ?_)<|fun a=>zc rfl (zc rfl ?_))
  ·have a:VH c t=true:=a;exact bad (by decide) (by unfold Mw;rw[a];exact UN k) (by unfold Ew;rw[a];exact UN k) d
  ·have a:VH c t=false:=a;by_cases b:K0 c h=true
   ·have e:Cj (K0 c h) 10=10:=by rw[b];rfl
    show Ends S3 (L2 c (t,h,l) c (fC c t h) (fH c t h) (WL c t h l) (Ew c t h l) (Z6 c t h l) (YT c t h l)<|Cj (K0 c h) 10) _;rw[e];exact bad (by decide) (by unfold Mw;rw[a,b];exact UN k) (by unfold Ew;rw[a,b];exact UN k) d
   ·have b:K0 c h=false:=by simpa using b
    have e:Cj (K0 c h) 10=0:=by rw[b];rfl
    show Ends S3 (L2 c (t,h,l) c (fC c t h) (fH c t h) (WL c t h l) (Ew c t h l) (Z6 c t h l) (YT c t h l)<|Cj (K0 c h) 10) _;rw[e];exact AeY s k a b d
 ·have k:NU c≠0:=by simpa using k
  exact bad k (jE k _) (jE k _) d
end T4
end Go.Pe
namespace Go.Det
open Go.ChangeShapes Go.WideShapes Go.RowKit
theorem Ch{α k:Type}{f g:α->Option k}:∀ {l:List α} {c:List k},l.mapM f=some c->(∀a∈l,∀y∈c,f a=some y->g a=some y)->l.mapM g=some c
 |[],c,h,_=>by simpa using h
 |a::l,c,h,j=>by
  rw[List.mapM_cons]at h ⊢;cases i:f a with
  |none=>rw[i]at h;cases h
  |some y=>
   rw[i]at h;cases d:l.mapM f with
   |none=>rw[d]at h;cases h
   |some o=>
    rw[d]at h;cases h;rw[j a (by simp) y (by simp) i,Ch d<|fun b n z m e=>j b (by simp[n]) z (by simp[m]) e];rfl
def iH(P:Program)(L:List TypeId)(t:TypeId):Bool:=match P.underlying t with
 |some (.pointer e)|some (.array _ e)|some (.map _ e)=>L.contains e
 |some (.slice e)=>L.contains e&&Nat.ble 1 (P.cellsOf e)
 |some (.struct fs)=>fs.toList.all fun f=>L.contains f.type
 |_=>true
def Ln(P:Program)(L:List TypeId):Bool:=L.all<|iH P L
section
variable {H:Type}{enc:TypeId×Value->H}{P:Program}{W W':World}
theorem sR{L:List TypeId}(h:Ln P L=true){t:TypeId}(a:t∈L):iH P L t=true:=zt.1 h t a
theorem Ys(b:Below W.heap.size W W'){a:Addr}{v:Value}(h:W.cell? a=some v):W'.cell? a=some v:=by
 have c:a.block<W.heap.size:=by
  unfold yr at h;by_cases d:a.block<W.heap.size
  ·exact d
  ·rw[zz<|by omega]at h;cases h
 unfold yr at h ⊢;rw[b.block _ c];exact h
theorem UM(c:Below W.heap.size W W'){a:Addr}{n:Nat}{cs:List Value}(h:W.cells? 0 a n=some cs):W'.cells? 0 a n=some cs:=by
 unfold World.cells? at h ⊢;rw[wd<|z7 _]at h ⊢;exact Ch h fun i _ v _ b=>Ys c b
theorem HA(e:Below W.heap.size W W'){d:Type}{a:Addr}{n:Nat}{f g:List Value->Option d}{y:d}(h:(W.cells? 0 a n).bind f=some y)(c:∀cs,f cs=some y->g cs=some y):(W'.cells? 0 a n).bind g=some y:=by
 cases b:W.cells? 0 a n with
 |none=>rw[b]at h;cases h
 |some cs=>
  rw[b]at h;rw[UM e b];exact c cs h
theorem OT(C:Below W.heap.size W W'){L:List TypeId}(M:Ln P L=true){sp:Nat->Bool}:∀(fuel:Nat) (t:TypeId) (cs:List Value) (x:DataW H×List MemPlace),t∈L->
  zp enc P W 0 (fun _=>true) true fuel t cs=some x->(∀p∈x.2,sp p.block=true)->zp enc P W' 0 sp true fuel t cs=some x
 |0,_,_,_,_,h,_=>by cases h
 |fuel+1,t,cs,x,T,h,w=>by
  have B:=OT C M (sp:=sp) fuel;have l:=sR M T;unfold iH at l;unfold zp at h ⊢;split at h<;>try simp only[reduceCtorEq]at h
  all_goals try exact h
  case h_6 e a r=>
   have c:e∈L:=by rw[r]at l;simpa using l
   cases K:(W.cells? 0 a<|P.cellsOf e).bind (zp enc P W 0 (fun _=>true) true fuel e)with
   |none=>rw[K]at h;cases h
   |some y=>
    rw[K]at h;cases h;rw[HA C K (g:=zp enc P W' 0 sp true fuel e)<|fun cs o=>B e cs y c o<|fun p hp=>w p<|by simp[hp]];rfl
  case h_8 e a len cap r=>
   have c:e∈L/\P.cellsOf e≠0:=by
    rw[r]at l;simp only[zo,List.contains_iff_mem]at l;have:=Nat.le_of_ble_eq_true l.2;exact⟨l.1,by omega⟩
   by_cases o:0<=a.block/\len<=cap/\cap<=maxLen
   ·rw[wd o]at h ⊢;have step:∀(i:Nat) (y:DataW H×List MemPlace),(W.cells? 0 (a.add<|i*P.cellsOf e)<|P.cellsOf e).bind (zp enc P W 0 (fun _=>true) true fuel e)=some y->(∀p∈y.2,sp p.block=true)->
      (W'.cells? 0 (a.add<|i*P.cellsOf e)<|P.cellsOf e).bind (zp enc P W' 0 sp true fuel e)=some y:=fun i y q hp=>HA C q fun cs o=>B e cs y c.1 o hp
    cases m:(yx len).mapM (fun i=>(W.cells? 0 (a.add<|i*P.cellsOf e)<|P.cellsOf e).bind<|zp enc P W 0 (fun _=>true) true fuel e)with
    |none=>rw[m]at h;cases h
    |some A=>
     rw[m]at h;simp only[wk,zy]at h;cases D:(yx<|cap-len).mapM (fun j=>(W.cells? 0 (a.add<|(len+j)*P.cellsOf e)<|P.cellsOf e).bind<|zp enc P W 0 (fun _=>true) true fuel e)with
     |none=>rw[D]at h;cases h
     |some J=>
      rw[D]at h;cases h;rw[Ch m fun i _ y q S=>step i y S fun p hp=>w p<|yg _<|ya.2 ⟨y,List.mem_append_left _ q,hp⟩];have G:=Ch D fun j _ y q R=>step (len+j) y R fun p hp=>w p<|yg _<|ya.2 ⟨y,yg _ q,hp⟩
      by_cases s:sp a.block=true
      ·simp only[s,wk,zy];rw[G];rfl
      ·have Y:(A.length+J.length)*P.cellsOf e=0:=by
        rcases Nat.eq_zero_or_pos ((A.length+J.length)*P.cellsOf e)with h0|h0
        ·exact h0
        ·refine wh (w (.cell a.block<|a.off+0)<|List.mem_append_left _ ?_) s;simp only[MemPlace.row,yz,List.mem_range];exact⟨0,h0,rfl⟩
       have O:J=[]:=by
        rcases Nat.mul_eq_zero.1 Y with h0|h0
        ·exact List.length_eq_zero_iff.1 (by omega)
        ·exact wh h0 c.2
       subst O;simp only[s,zy];rfl
   ·rw[wc o]at h;cases h
  case h_9 cs _ _ fs r=>
   have c:∀f∈fs.toList,f.type∈L:=by
    rw[r]at l;intro f d;have:=zt.1 l f d;simpa using this
   by_cases o:cs.length=P.cellsOf t
   ·rw[wd o]at h ⊢;cases m:fs.toList.mapM (fun f=>zp enc P W 0 (fun _=>true) true fuel f.type<|(cs.drop f.offset).take<|P.cellsOf f.type)with
    |none=>rw[m]at h;cases h
    |some A=>
     rw[m]at h;cases h;rw[Ch m fun f F y q d=>B _ _ y (c f F) d fun p hp=>w p<|ya.2 ⟨y,q,hp⟩];rfl
   ·rw[wc o]at h;cases h
  case h_10 cs _ _ n e r=>
   have c:e∈L:=by rw[r]at l;simpa using l
   by_cases o:cs.length=P.cellsOf t
   ·rw[wd o]at h ⊢;cases m:(yx n).mapM (fun i=>zp enc P W 0 (fun _=>true) true fuel e<|(cs.drop<|i*P.cellsOf e).take<|P.cellsOf e)with
    |none=>rw[m]at h;cases h
    |some A=>
     rw[m]at h;cases h;rw[Ch m fun f _ y q d=>B _ _ y c d fun p hp=>w p<|ya.2 ⟨y,q,hp⟩];rfl
   ·rw[wc o]at h;cases h
  case h_14 k e b r=>
   have c:e∈L:=by rw[r]at l;simpa using l
   have X:b<W.heap.size:=by
    by_cases U:b<W.heap.size
    ·exact U
    ·rw[zz<|by omega]at h;cases h
   rw[C.block _ X];split at h
   case h_2=>cases h
   rename_i es clock V;simp only;split at h
   case isFalse=>cases h
   rename_i v;rw[wd v];cases m:(es.toList.mapM fun x=>(keyOf P k x.key).bind fun key=>if x.val.formed P e then(zp enc P W 0 (fun _=>true) true fuel e x.val.cells.toList).map fun y=>((key,y.1),y.2)else none)with
   |none=>rw[m]at h;cases h
   |some A=>
    rw[m]at h;simp only[zy]at h;split at h
    case isFalse=>cases h
    rename_i E;cases h;rw[Ch m fun N _ y q d=>?_]
    ·simp only[zy];rw[wd E]
    ·cases l:keyOf P k N.key with
     |none=>rw[l]at d;cases d
     |some key=>
      rw[l]at d;simp only[zy]at d ⊢;split at d
      case isFalse=>cases d
      rename_i I;rw[wd I];cases z:zp enc P W 0 (fun _=>true) true fuel e N.val.cells.toList with
      |none=>rw[z]at d;cases d
      |some u=>
       rw[z]at d;cases d;rw[B _ _ u c z fun p hp=>w p<|by simp only[ym,ya];exact .inr ⟨_,q,hp⟩];rfl
theorem Xl(b:Below W.heap.size W W'){L:List TypeId}(f:Ln P L=true){sp:Nat->Bool}{t:TypeId}{v:Value}{d:DataW H}{p:List MemPlace}
  (e:t∈L) (h:yy enc P W 0 (fun _=>true) true t v d p) (g:∀q∈p,sp q.block=true):yy enc P W' 0 sp true t v d p:=by
 obtain⟨a,c⟩:=h;exact⟨a,OT b f a t _ _ e c g⟩
theorem Hc(i:Below W.heap.size W W'){L:List TypeId}(f:Ln P L=true){sp:Nat->Bool}:∀ {ts:List TypeId} {vs:List Value} {ds:List (DataW H)} {p:List MemPlace},(∀t∈ts,t∈L)->
  yi enc P W 0 (fun _=>true) true ts vs ds p->(∀q∈p,sp q.block=true)->yi enc P W' 0 sp true ts vs ds p
 |[],vs,ds,p,_,h,_=>by
  obtain⟨rfl,rfl,rfl⟩:=trodAll_nil h;rfl
 |t::ts,vs,ds,p,e,h,g=>by
  obtain⟨v,l,d,j,a,b,rfl,rfl,rfl,m,k⟩:=trodAll_cons h;exact⟨a,b,Xl i f (e t<|by simp) m (fun q c=>g q<|by simp[c]),Hc i f (fun u n=>e u<|by simp[n]) k (fun q c=>g q (by simp[c])),rfl⟩
theorem eS{f:Func}{s:ChangeSpec}{apart fresh d k:Bool}{args:Array Value}{ds F:List (DataW H)}{e:List MemPlace}{tb:TypeId}
  (hW:DataW.Whole enc P f.params.toList s.vars apart W args.toList ds F e) (D:s.vars=[]) (hr:f.resultTypes= #[tb]) (v:P.underlying tb=some .bool)
  (a:s.fn H ds={ results:=[.lit<|.bool true],args:=ds }) (w:Below W.heap.size W W') {L:List TypeId} (B:Ln P L=true) (u:f.params.toList.all L.contains=true):
  s.post enc P f apart fresh d k W args (.bool true) W':=by
 have i:=hW.lt;have u:∀t∈f.params.toList,t∈L:=fun t v=>by have:=zt.1 u t v;simpa using this
 obtain⟨p,q,y,C,rfl,h,l⟩:=hW;have n:=C;rw[D]at n;obtain⟨rfl,rfl⟩:=trodVars_none n;simp only[List.append_nil]at i h l ⊢;have o:∀x∈p,(fun b=>decide (b<W.heap.size)) x.block=true:=fun x m=>by simpa using i x m
 have A:DataW.Whole enc P f.params.toList s.vars apart W args.toList ds [] p:=⟨p,[],y,C,by simp,h,l⟩;have g:∀(b:Nat) (sp:Nat->Bool) (E:Bool),yi enc P W' b sp E f.resultTypes.toList ((Value.bool true).resultList f.resultTypes.size) [.lit<|.bool true] []:=by
  intro b sp E;rw[hr];exact⟨[],[],shut_bool v true,rfl,rfl⟩
 have z:∀(j:Nat) (t:TypeId) (r:Value),f.resultTypes[j]?=some t->((Value.bool true).resultList f.resultTypes.size)[j]?=some r->yf P W' .any 0 t r:=by
  exact ok_one hr rfl (okWide_bool_mk v true)
 have c:∀sp:Nat->Bool,DataW.TrodVars enc P W' sp s.vars [] []:=fun sp=>by rw[D];rfl
 have a:s.fn H (ds++[])={ results:=[.lit<|.bool true],args:=ds }:=by rw[List.append_nil];exact a
 refine⟨ds,[],p,[],p,[],A,?_,?_,?_,World.keptBut_mono (fun x m=>⟨m,.inr<|.inl m⟩) (w.frame (· ∈p)),fun _=>?_⟩
 ·rw[a];exact g _ _ _
 ·rw[a];exact Hc w B u y o
 ·rw[a];exact c _
 ·refine⟨z,_,_,([]++p)++[],⟨[]++p,[],trodAll_append (Hc w B u y<|fun _ _=>rfl)<|g _ _ _,c _,rfl,?_,?_⟩,?_⟩
  ·intro b off hp;have hp:MemPlace.cell b off∈p:=by simpa using hp
   rw[w.frozen<|show b<W.heap.size from i _ hp];exact h b off hp
  ·intro G;simpa using l G
  ·intro x m _;simpa using m
end
end Go.Det
namespace Go.Det
def Ol(k:Nat):Value->V
 | .bool b=>.bool b
 | .int q n=>.int q n
 | .string s=>.str s.data.toList
 | .pointer none=>.nilp
 | .slice none 0 0=>.nils
 | .slice (some _) 0 0=>.es0
 | .slice (some ⟨r,off,none⟩) len cap=>if r<k/\len<=cap then .sl r off len cap 0 else .junk
 | .map none=>.nilm
 | .nilFunc=>.nilf
 | .nilIface=>.nili
 |_=>.junk
def bU(W:World)(r:Nat):Nat:=match W.heap[r]? with
 |some (.cells c _ _)=>c.size
 |_=>0
def pW(W:World):Pl:=(yx W.heap.size).map fun r=>(r,bU W r)
theorem MF{W:World}{r:Nat}(h:r<W.heap.size):(pW W)[r]?=some (r,bU W r):=by
 simp[pW,h]
def Pm(W:World)(r:Nat):Option O:=match W.heap[r]? with
 |some (.cells c t _)=>if c.size=0 then none else some<|.cells (c.toList.map<|Ol W.heap.size) t (0,c.size)
 |_=>none
def bM(W:World):Nat->H
 |0=>⟨.leaf,0⟩
 |n+1=>⟨(bM W n).m.set n<|Pm W n,n+1⟩
theorem wA(W:World):∀n,(bM W n).nx=n
 |0=>rfl
 |_+1=>rfl
theorem UW(W:World):∀(n b:Nat),(bM W n).get b=if b<n then Pm W b else none
 |0,b=>by simp[bM,H.get]
 |n+1,b=>by
  have a:=UW W n b;unfold H.get at a ⊢;simp only[bM,PM.Dn];by_cases e:b=n
  ·subst e;simp
  ·rw[wc e,a];by_cases h:b<n
   ·rw[wd h,wd<|by omega]
   ·rw[wc h,wc<|by omega]
def hW(W:World):H:=bM W W.heap.size
theorem QQ(W:World)(b:Nat):(hW W).get b=Pm W b:=by
 unfold hW;rw[UW];by_cases h:b<W.heap.size
 ·rw[wd h]
 ·rw[wc h];unfold Pm;rw[zz<|by omega]
theorem SQ{W:World}{v:Value}(h:(Ol W.heap.size v).ok=true):Ac (pW W) (Ol W.heap.size v) v:=by
 revert h;unfold Ol;split<;>intro h
 case h_6=>simp only[Ac];exact⟨_,rfl⟩
 case h_7 r off len cap _=>
  split
  ·rename_i a;simp only[Ac];exact⟨r,_,cap,MF a.1,rfl,a.2,Nat.le_refl _,fun _=>rfl,fun e=>wh rfl e⟩
  ·rename_i a;rw[wc a]at h;cases h
 case h_11=>cases h
 all_goals simp only[Ac]
 all_goals rfl
theorem R_W(W:World):R (pW W) (hW W) W:=by
 refine⟨by simp[pW,hW,wA],fun b o a=>?_,fun b b' o o' r n n' a k f p=>?_⟩
 ·rw[QQ]at a;unfold Pm at a;split at a
  case h_2=>cases a
  rename_i c t fz g;split at a
  case isTrue=>cases a
  cases a;have e:b<W.heap.size:=(zn.1 g).1;have q:bU W b=c.size:=by unfold bU;rw[g]
  refine⟨b,c.size,_,by rw[MF e,q],g,c,fz,rfl,rfl,by simp,⟨by simp,fun i d v m j l=>?_⟩,fun i s f p=>⟨z7 _,s⟩⟩;rw[List.getElem?_map]at m;rw[List.length_map,yn (by have:=(List.getElem?_eq_some_iff.1 j).1;simp at this;simpa using this)]at j;rw[j]at m;cases m;exact SQ l
 ·have key:∀b o r n,(hW W).get b=some o->(pW W)[b]?=some (r,n)->r=b:=by
   intro b o r n a f;rw[QQ]at a;have e:b<W.heap.size:=by
    unfold Pm at a;by_cases h:b<W.heap.size
    ·exact h
    ·rw[zz<|by omega]at a;cases a
   rw[MF e]at f;cases f;rfl
  rw[<-key b o r n a f, <-key b' o' r n' k p]
theorem sM{W W':World}{p':Pl}{h':H}(d:Ext (pW W) (hW W) W p' h' W'):RowKit.Below W.heap.size W W':=by
 refine⟨d.os,d.tape,d.out,d.size,fun k l=>?_⟩;by_cases i:Im (pW W) (hW W) k
 ·obtain⟨b,o,n,h,g⟩:=i;have a:=h;rw[QQ]at a;unfold Pm at a;split at a
  case h_2=>cases a
  rename_i c t fz f;split at a
  case isTrue=>cases a
  rename_i h0;cases a;have e:b<W.heap.size:=(zn.1 f).1;have j:bU W b=c.size:=by unfold bU;rw[f]
  rw[MF e,j]at g;cases g;exact(d.lock _ l ⟨_,_,_,_,_,h,by rw[MF e,j],rfl,Nat.le_refl _,Nat.pos_of_ne_zero h0⟩).1
 ·exact d.same k l i
end Go.Det
namespace Go.Pe
open Go.Det
def FW(W:World):Fz:=fun b=>match (hW W).get b with
 |some (.cells cs _ _)=>some cs
 |_=>none
def VN:(s:Sh)->s.T->Prop
 | .int k,x=>k.min<=(x:Int)/\(x:Int)<=k.max
 | .bool,_=>True
 | .str,x=>(x:Z).length<=maxLen
 | .list s,l=>(l:List s.T).length<=maxLen/\∀x∈(l:List s.T),VN s x
 | .pair a b,x=>VN a x.1/\VN b x.2
 | .unit,_=>True
 | .nlist _,_=>True
 | .fnv,_=>True
 | .ptr _,_=>True
def lQ(P:Program)(f:TypeId->Option Sh):Nat->List Field->Option Sh
 |_,[]=>some .unit
 |o,[x]=>match f x.type with
  |some s=>bif yd x.offset o&&yd (P.cellsOf x.type) s.sz then some s else none
  |none=>none
 |o,x::y::l=>match f x.type with
  |some s=>bif yd x.offset o&&yd (P.cellsOf x.type) s.sz then(lQ P f (o+s.sz) (y::l)).map (.pair s)else none
  |none=>none
def shP(P:Program):Nat->TypeId->Option Sh
 |0,_=>none
 |f+1,t=>match P.underlying t with
  |some (.int k)=>some<|.int k
  |some .bool=>some .bool
  |some .string=>some .str
  |some (.slice e)=>match shP P f e with
   |some s=>bif yd (P.cellsOf e) s.sz&&Nat.blt 0 s.sz then some (.list s)else none
   |none=>none
  |some (.struct fs)=>match lQ P (shP P f) 0 fs.toList with
   |some s=>bif yd (P.cellsOf t) s.sz then some s else none
   |none=>none
  |_=>none
section
variable {H:Type}{enc:TypeId×Value->H}{P:Program}{W:World}
theorem kS{r:Nat}{c:Array Value}{t:TypeId}{fz:Nat×Nat}(h:W.heap[r]?=some (.cells c t fz))(h0:c.size≠0):FW W r=some (c.toList.map<|Ol W.heap.size):=by
 unfold FW;rw[QQ];unfold Pm;rw[h];simp only[wc h0]
theorem R5{a:Addr}{n:Nat}{cs:List Value}(h:W.cells? 0 a n=some cs)(q:0<n):
  ∃c t fz,W.heap[a.block]?=some (.cells c t fz)/\a.spot=none/\a.off+n<=c.size/\cs=(c.toList.drop a.off).take n:=by
 unfold World.cells? at h;rw[wd<|z7 _]at h;have p:=mapM_some_length h;have m:=mapM_some_get h;simp only[List.length_range]at p;have h0:=m 0 0 (by simp[q]);have e:a.add 0=a:=by simp[y7]
 rw[e]at h0;obtain⟨v0,g⟩:∃v,cs[0]?=some v:=⟨cs[0],zr<|by omega⟩;rw[g]at h0;unfold yr at h0;split at h0
 case h_2=>cases h0
 rename_i c t fz o;split at h0
 case isTrue=>cases h0
 rename_i d;have d:a.spot=none:=by simpa using d
 have l:∀i,i<n->c[a.off+i]?=cs[i]?:=by
  intro i b;have:=m i i (by simp[b]);unfold yr at this;have j:(a.add i).block=a.block:=by unfold y7;split<;>rfl
  have f:(a.add i).spot=none:=by unfold y7;split<;>simp[d]
  have k:(a.add i).off=a.off+i:=by unfold y7;split<;>simp_all
  rw[j,o]at this;simpa [f,k]using this
 refine⟨c,t,fz,o,d,?_,?_⟩
 ·have:=l (n-1) (by omega);rw[zr<|by omega]at this;have:=(zn.1 this).1;omega
 ·apply List.ext_getElem?;intro i;by_cases b:i<n
  ·rw[<-l i b,yn b,List.getElem?_drop];simp
  ·rw[List.getElem?_eq_none (by omega),List.getElem?_eq_none<|by simp;omega]
theorem Z3{α:Type}{p:Nat->α->Prop}:∀n:Nat,(∀i,i<n->∃x,p i x)->∃l:List α,l.length=n/\∀i (h:i<l.length),p i l[i]
 |0,_=>⟨[],rfl,fun i h=>wh h<|Nat.not_lt_zero _⟩
 |n+1,h=>by
  obtain⟨l,a,d⟩:=Z3 n fun i b=>h i (by omega)
  obtain⟨x,c⟩:=h n (by omega);refine⟨l++[x],by simp[a],fun i b=>?_⟩;by_cases e:i<l.length
  ·rw[List.getElem_append_left e];exact d i e
  ·have:i=n:=by simp at b;omega
   subst this;rw[List.getElem_append_right<|by omega];simpa [a]using c
end
end Go.Pe
namespace Go.Pe
open Go.Det Go.RowKit
section
open Go.Proofs.Tryz (prog)
theorem mF{F':Fz}{v:V}(h:PC F' (.dat .bool true) v):v=.bool true:=by
 have:=h (fun _=>none) 0;simp only[PR,DC]at this;simpa using this
def GW(W:World):Prop:=∀x∈GC,Pm W x.1=some x.2
theorem GW.h{W:World}(h:GW W):Gh (hW W):=fun x a=>by rw[QQ];exact h x a
theorem GW.p{W:World}(h:GW W):Gp (pW W):=fun x g=>by
 have a:=h x g;unfold Pm at a;split at a
 case h_2=>cases a
 rename_i c t fz e;split at a
 case isTrue=>cases a
 have d:x.1<W.heap.size:=(zn.1 e).1;have f:bU W x.1=c.size:=by unfold bU;rw[e]
 rw[MF d,f];cases b:x.2 with
 |cells cs i fz'=>rw[b]at a;cases a;simp[osz]
 |_=>rw[b]at a;cases a
theorem Qr{f:FuncId}{sp:Am}(ok:Af A6 f sp)(i:(By sp.ins).T)(a:sp.pre i=true){args:List V}{args':Array Value}{W:World}(c:GW W)(k:MG (FW W) (Ae sp.ins i) args)
  (q:Av (pW W) args args'.toList) (d:∀F' v,PC F' (one<|Ae sp.outs<|sp.f i) v->v=.bool true) (hp:A6.prim f=none:=by kernel_rfl):
  Calls prog f args' W fun e W'=>e=.returned (.bool true)/\Below W.heap.size W W':=by
 obtain⟨l,M,m,_,j⟩:=(ok.zero hp).run (FW W) (hW W) args i (fun b cs h=>by
  unfold FW at h;split at h
  case h_2=>cases h
  rename_i cs' t fz n;cases h;exact⟨t,fz,n⟩) (fun b o h=>(R_W W).lt h) c.h k a
 refine((I1 AaM cB Sw M).fn f args (hW W) l (m M<|Nat.le_refl _) (pW W) W args' (R_W W) c.p q).mono ?_;rintro e w' ⟨v,h',v',p',s,rfl,g,r⟩;obtain⟨_,_,_,F',_,_,_,hr⟩:=j _ s;obtain rfl:=d F' v hr;refine⟨?_,sM r⟩;simp only[Ac]at g;rw[g]
end
end Go.Pe
namespace Go.Pe
open Go.Det Go.RowKit Go.ChangeShapes
def Ri(k:Nat):Value->V
 | .agg cs=>.agg<|cs.toList.map<|Ol k
 |v=>Ol k v
def nV(P:Program)(k:Nat)(t:TypeId):Option Sh:=
 match shP P k t with
 |some s=>match P.underlying t with
  |some (.struct _)=>bif s.Q4 then some s else none
  |some (.int _)|some .bool|some .string|some (.slice _)=>bif s.Q4 then none else some s
  |_=>none
 |none=>none
def S2(P:Program)(k:Nat):List TypeId->Option (List Sh)
 |[]=>some []
 |t::ts=>match nV P k t,S2 P k ts with
  |some s,some a=>some (s::a)
  |_,_=>none
def wfL:(l:List Sh)->(By l).T->Prop
 |[],_=>True
 |[a],x=>VN a x
 |a::b::l,x=>VN a x.1/\wfL (b::l) x.2
section
variable {H:Type}{enc:TypeId×Value->H}{P:Program}{W:World}{base:Nat}
theorem fO{t:TypeId}{v:Value}(a:(∃k,P.underlying t=some (.int k))\/P.underlying t=some .bool\/P.underlying t=some .string\/∃e,P.underlying t=some (.slice e))(h:yf P W .any base t v):v.cells.toList=[v]/\∀cs,v≠ .agg cs:=by
 rcases a with⟨k,a⟩|a|a|⟨e,a⟩<;>
 (simp only[yf,a]at h
  unfold Cell.okWide at h;simp only[a]at h;unfold Cell.ok at h;simp only[a]at h;cases v<;>first|(exact⟨rfl,fun _ e=>by cases e⟩)|(exfalso;exact h))
theorem IX:∀ {ts:List TypeId} {args:List Value} {ds:List (DataW H)} {p:List MemPlace},yi enc P W 0 (fun _=>true) true ts args ds p->ds.length=ts.length
 |[],_,_,_,h=>by obtain⟨_,rfl,_⟩:=trodAll_nil h;rfl
 |t::ts,_,_,_,h=>by
  obtain⟨v0,c,d,b,p0,q0,rfl,rfl,rfl,h0,a⟩:=trodAll_cons h;simp[IX a]
theorem AdI{α:Type}{l:List α}(h:l.length=2):∃a b,l=[a,b]:=by
 match l,h with
 |[a,b],_=>exact⟨a,b,rfl⟩
end
def rY:Sh->Nat
 | .str=>16
 | .list _=>24
 | .pair a b=>rY a+rY b
 | .unit=>0
 |_=>8
def Wt{H:Type}(P:Program)(t:TypeId)(d:DataW H):Prop:=∀n∈yb P t d,n<=reachBytes
def UA(P:Program):Nat->TypeId->Bool
 |0,_=>false
 |f+1,t=>match P.underlying t with
  |some (.slice e)=>UA P f e&&(match shP P f e with|some s=>yd (P.bytesOf e) (rY s)|none=>false)
  |some (.struct fs)=>fs.toList.all fun x=>UA P f x.type
  |_=>true
def Rt:(s:Sh)->s.T->Prop
 | .list s,l=>(l:List s.T).length*rY s<=reachBytes/\∀x∈(l:List s.T),Rt s x
 | .pair a b,x=>Rt a x.1/\Rt b x.2
 |_,_=>True
def Abw:(l:List Sh)->(By l).T->Prop
 |[],_=>True
 |[a],x=>Rt a x
 |a::b::l,x=>Rt a x.1/\Abw (b::l) x.2
section
variable {H:Type}{enc:TypeId×Value->H}{P:Program}{W:World}{base:Nat}
theorem AbB{e:TypeId}{n:Nat}:∀ {l:List (DataW H)} {d:DataW H},d∈l->n∈yb P e d->n∈DataW.weightsAll P e l
 |x::l,d,a,b=>by
  rw[DataW.weightsAll,zu];rcases ym.1 a with rfl|a
  ·exact .inl b
  ·exact .inr<|AbB a b
theorem zB{n:Nat}:∀ {ts:List TypeId} {l:List (DataW H)} {i:Nat} {t:TypeId} {d:DataW H},ts[i]?=some t->l[i]?=some d->n∈yb P t d->n∈zk P ts l
 |u::ts,x::l,0,t,d,a,b,c=>by
  cases a;cases b;rw[zk,zu];exact .inl c
 |u::ts,x::l,i+1,t,d,a,b,c=>by
  rw[zk,zu];exact .inr (zB (i:=i) (by simpa using a) (by simpa using b) c)
 |[],_,_,_,_,a,_,_=>by simp at a
 |_::_,[],_,_,_,_,b,_=>by simp at b
theorem AdN{n:Nat}:∀ {ts b:List TypeId} {ds es:List (DataW H)},ts.length=ds.length->n∈zk P ts ds->n∈zk P (ts++b) (ds++es)
 |t::ts,b,d::ds,es,h,a=>by
  rw[zk,zu]at a;rw[List.cons_append,List.cons_append,zk,zu];exact a.imp id fun x=>AdN (by simpa using h) x
 |[],_,_,_,_,a=>by simp[zk]at a
 |_::_,_,[],_,h,_=>by simp at h
theorem AbQ{t e:TypeId}{el sp:List (DataW H)}(a:P.underlying t=some (.slice e))(h:Wt P t (.slice el sp)):(el.length+sp.length)*P.bytesOf e<=reachBytes:=by
 refine h _ ?_;rw[yb,a];exact zm ..
theorem yR{t e:TypeId}{el sp:List (DataW H)}{d:DataW H}(c:P.underlying t=some (.slice e))(h:Wt P t (.slice el sp))(b:d∈el\/d∈sp):Wt P e d:=fun n a=>by
 refine h n ?_;rw[yb,c];refine List.mem_cons_of_mem _<|zu.2 ?_;exact b.imp (fun x=>AbB x a)<|fun x=>AbB x a
theorem tI{t:TypeId}{fs:Array Field}{l:List (DataW H)}{i:Nat}{f:Field}{d:DataW H}(e:P.underlying t=some (.struct fs))(h:Wt P t (.agg l))(a:fs[i]?=some f)(c:l[i]?=some d):Wt P f.type d:=fun n b=>by
 refine h n ?_;rw[yb,e];exact zB (i:=i) (t:=f.type) (by simp[a]) c b
theorem Qy{G:TypeId->DataW H->Prop}{f:TypeId->Option Sh}{n:Nat}{cs:List Value}
  (k:∀(t:TypeId) (s:Sh) (cs:List Value) (y:DataW H×List MemPlace),f t=some s->zp enc P W 0 (fun _=>true) true n t cs=some y->G t y.1->∃x:s.T,DC (FW W) s x (cs.map<|Ol W.heap.size)/\VN s x/\Rt s x):
  ∀(fs:List Field) (o:Nat) (s:Sh),lQ P f o fs=some s->(∀x∈fs,∃z,zp enc P W 0 (fun _=>true) true n x.type ((cs.drop x.offset).take<|P.cellsOf x.type)=some z/\G x.type z.1)->
   ∃x:s.T,DC (FW W) s x (((cs.map<|Ol W.heap.size).drop o).take s.sz)/\VN s x/\Rt s x
 |[],o,s,c,_=>by
  cases c;exact⟨(),by simp[DC,Sh.sz],trivial,trivial⟩
 |[x],o,s,c,j=>by
  unfold lQ at c;split at c
  case h_2=>cases c
  rename_i i e;cases d:(yd x.offset o&&yd (P.cellsOf x.type) i.sz)with
  |false=>rw[d]at c;cases c
  |true=>
  rw[d]at c;cases c;simp only[zo]at d;obtain⟨z,h,g⟩:=j x (by simp);rw[zq d.1,zq d.2]at h;have:=k _ _ _ _ e h g;simpa [yv,yw]using this
 |x::x'::l,o,s,c,j=>by
  unfold lQ at c;split at c
  case h_2=>cases c
  rename_i i e;cases d:(yd x.offset o&&yd (P.cellsOf x.type) i.sz)with
  |false=>rw[d]at c;cases c
  |true=>
  rw[d]at c;simp only[we,Option.map_eq_some_iff]at c;obtain⟨s2,m,rfl⟩:=c;simp only[zo]at d;obtain⟨z,h,g⟩:=j x (by simp);rw[zq d.1,zq d.2]at h;obtain⟨a,a1,a2,a3⟩:=k _ _ _ _ e h g;obtain⟨b,b1,b2,b3⟩:=Qy k (x'::l) (o+i.sz) s2 m<|fun u p=>j u<|List.mem_cons_of_mem _ p;refine⟨(a,b),?_,⟨a2,b2⟩,a3,b3⟩;simp only[DC];refine⟨_,_,?_,a1,b1⟩;rw[yv,yw, <-List.drop_drop];exact List.take_add
theorem QL:∀(k D:Nat) (t:TypeId) (s:Sh) (cs:List Value) (y:DataW H×List MemPlace),shP P k t=some s->zp enc P W 0 (fun _=>true) true D t cs=some y->UA P k t=true->Wt P t y.1->
  ∃x:s.T,DC (FW W) s x (cs.map<|Ol W.heap.size)/\VN s x/\Rt s x
 |0,_,_,_,_,_,j,_,_,_=>by cases j
 |k+1,D,t,s,cs,y,j,h,A,v=>by
  have ih:=QL k;unfold shP at j;split at j
  case h_1 q o=>
   cases j;obtain⟨n,rfl,_,N⟩:=DataW.trod_int o h;exact⟨(n:Int),by simp[DC,Ol],by simpa [VN,Lit.wf]using N,trivial⟩
  case h_2 o=>
   cases j;obtain⟨b,rfl,_⟩:=DataW.trod_bool o h;exact⟨b,by simp[DC,Ol],trivial,trivial⟩
  case h_3 o=>
   cases j;obtain⟨b,rfl,_,N⟩:=DataW.trod_string o h;exact⟨b.data.toList,by simp[DC,Ol],by show b.data.toList.length<=maxLen;rw[Array.length_toList];exact N,trivial⟩
  case h_4 e o=>
   split at j
   case h_2=>cases j
   rename_i g C;cases w:(yd (P.cellsOf e) g.sz&&Nat.blt 0 g.sz)with
   |false=>rw[w]at j;cases j
   |true=>
   rw[w]at j;cases j;simp only[zo]at w;have U:=zq w.1;have O:=Nat.le_of_ble_eq_true w.2;rcases DataW.trod_slice o h with⟨rfl,_⟩|⟨a,len,cap,I,S,n,rfl,rfl,Z,_,V,hcm,hel,he,hr,_⟩
   ·exact⟨[],by simp[DC,Ol],by simp[VN],by simp[Rt]⟩
   ·obtain⟨hrl,hr⟩:=hr rfl;rw[Z]at v;have v:Wt P t (.slice (I.map (·.1)) (S.map (·.1))):=v;unfold UA at A;rw[o]at A;simp only[C,zo]at A;obtain⟨A,M⟩:=A;have M:=zq M;rw[U]at he hr;by_cases h0:cap=0
    ·obtain rfl:len=0:=by omega
     subst h0;exact⟨[],by simp[DC,Ol],by simp[VN],by simp[Rt]⟩
    ·
     have all:∀i,i<cap->∃L z,W.cells? 0 (a.add<|i*g.sz) g.sz=some L/\zp enc P W 0 (fun _=>true) true n e L=some z/\Wt P e z.1:=by
      intro i r;by_cases hl:i<len
      ·have m:=he i hl;rw[zr<|by omega]at m;rw[yo]at m;obtain⟨L,u,B⟩:=m;exact⟨L,_,u,B,yR o v<|.inl<|yz.2 ⟨_,List.getElem_mem _,rfl⟩⟩
      ·have m:=hr (i-len) (by omega);rw[show len+(i-len)=i by omega,zr<|by omega]at m;rw[yo]at m;obtain⟨L,u,B⟩:=m;exact⟨L,_,u,B,yR o v<|.inr<|yz.2 ⟨_,List.getElem_mem _,rfl⟩⟩
     obtain⟨c0,z0,g0,_,_⟩:=all 0 (by omega);rw[Nat.zero_mul,show a.add 0=a from by simp[y7]]at g0;obtain⟨c,tc,fz,hb,hsp,hoff,_⟩:=R5 g0 O;have J:a.block<W.heap.size:=(zn.1 hb).1;have hF:=kS hb (by omega);obtain⟨ab,ao,ax⟩:=a;simp only at hsp hb hoff J hF;subst hsp;have E:∀i,i<cap->ao+i*g.sz+g.sz<=c.size/\∃x:g.T,DC (FW W) g x (((c.toList.map<|Ol W.heap.size).drop<|ao+i*g.sz).take g.sz)/\VN g x/\Rt g x:=by
      intro i r;obtain⟨L,z,m,u,hz⟩:=all i r;rw[Addr.Ig]at m;obtain⟨c',tc',fz',hb',_,ho',rfl⟩:=R5 m (by omega);simp only at hb' ho';rw[hb]at hb';cases hb';refine⟨ho',?_⟩;have:=ih _ _ _ _ _ C u A hz;simpa [yv,yw]using this
     obtain⟨l,X,K⟩:=Z3 (p:=fun i (x:g.T)=>DC (FW W) g x (((c.toList.map<|Ol W.heap.size).drop<|ao+i*g.sz).take g.sz)/\VN g x/\Rt g x) len fun i r=>(E i<|by omega).2
     refine⟨l,?_,?_,?_⟩
     ·simp only[DC];refine⟨.sl ab ao len cap 0,?_,.inr ⟨ab,ao,cap,0,_,by rw[X],by omega,hF,?_,.inl rfl,fun i r=>(K i r).1⟩⟩
      ·have:(Value.slice (some ⟨ab,ao,none⟩) len cap)=.slice (some ⟨ab,ao,none⟩) len cap:=rfl;have hne:¬(len=0/\cap=0):=fun h=>h0 h.2
       cases cap with
       |zero=>exact wh rfl h0
       |succ cap=>simp[Ol,J,V]
      ·rw[X];have:=(E (cap-1)<|by omega).1;have u:len*g.sz<=cap*g.sz:=Nat.mul_le_mul_right _ V;have B:cap*g.sz=(cap-1)*g.sz+g.sz:=by rw[<-Nat.succ_mul];congr 1;omega
       simp;omega
     ·simp only[VN];refine⟨by omega,fun x Y=>?_⟩;obtain⟨i,r,rfl⟩:=List.mem_iff_getElem.1 Y;exact(K i r).2.1
     ·simp only[Rt];refine⟨?_,fun x Y=>?_⟩
      ·have N:=AbQ o v;rw[List.length_map,M]at N;exact Nat.le_trans (Nat.mul_le_mul_right _<|by omega) N
      ·obtain⟨i,r,rfl⟩:=List.mem_iff_getElem.1 Y;exact(K i r).2.2
  case h_5 fs o=>
   split at j
   case h_2=>cases j
   rename_i g C;cases w:yd (P.cellsOf t) g.sz with
   |false=>rw[w]at j;cases j
   |true=>
   rw[w]at j;cases j;have U:=zq w;obtain⟨xs,n,rfl,Z,hlen,hxl,hf⟩:=DataW.trod_struct o h;rw[Z]at v;have v:Wt P t (.agg (xs.map (·.1))):=v;unfold UA at A;rw[o]at A;obtain⟨x,m,u,B⟩:=Qy (G:=fun t d=>UA P k t=true/\Wt P t d) (cs:=cs) (fun t s cs y m u B=>ih n t s cs y m u B.1 B.2) fs.toList 0 _ C (fun f R=>by
    obtain⟨i,r⟩:=List.mem_iff_getElem?.1 R;have F:fs[i]?=some f:=by simpa using r
    have:=hf i f F;have J:=(zn.1 F).1;rw[zr<|by omega]at this;exact⟨_,this,zt.1 A f R,tI o v F<|by rw[List.getElem?_map,zr<|by omega];rfl⟩)
   refine⟨x,?_,u,B⟩;rw[List.drop_zero,List.take_of_length_le<|by simp;omega]at m;exact m
  case h_6=>cases j
theorem lZ{k:Nat}{t:TypeId}{s:Sh}{v:Value}{d:DataW H}{p:List MemPlace}(g:shP P k t=some s)(hp:s.Q4=false)(c:v.cells.toList=[v])(h:yy enc P W 0 (fun _=>true) true t v d p)(e:UA P k t=true)(f:Wt P t d):
  ∃x:s.T,PC (FW W) (Cm s x) (Ol W.heap.size v)/\(VN s x/\Rt s x)/\Ac (pW W) (Ol W.heap.size v) v:=by
 obtain⟨a,b⟩:=h;rw[c]at b;obtain⟨x,h1,h2⟩:=QL k a t s [v] (d,p) g b e f;simp only[yc,List.map_nil]at h1;exact⟨x,(PC.Cm h1).2 hp _ rfl,h2,SQ<|h1.ok _<|by simp⟩
theorem gD{k:Nat}{t:TypeId}{s:Sh}{v:Value}{d:DataW H}{p:List MemPlace}(b:nV P k t=some s)(o:yf P W .any base t v)(h:yy enc P W 0 (fun _=>true) true t v d p)(r:UA P k t=true)(q:Wt P t d):
  ∃x:s.T,PC (FW W) (Cm s x) (Ri W.heap.size v)/\(VN s x/\Rt s x)/\Ac (pW W) (Ri W.heap.size v) v:=by
 unfold nV at b;split at b
 case h_2=>cases b
 rename_i j g;have plain:((∃k,P.underlying t=some (.int k))\/P.underlying t=some .bool\/P.underlying t=some .string\/∃e,P.underlying t=some (.slice e))->(bif j.Q4 then none else some j)=some s->∃x:s.T,PC (FW W) (Cm s x) (Ri W.heap.size v)/\(VN s x/\Rt s x)/\Ac (pW W) (Ri W.heap.size v) v:=by
  intro y m;cases hp:j.Q4 with
  |true=>rw[hp]at m;cases m
  |false=>
   rw[hp]at m;cases m;obtain⟨i,n⟩:=fO y o;have e:Ri W.heap.size v=Ol W.heap.size v:=by
    unfold Ri;split
    ·rename_i cs;exact wh rfl (n cs)
    ·rfl
   rw[e];exact lZ g hp i h r q
 split at b
 case h_1=>
  rename_i fs f;cases hp:j.Q4 with
  |false=>rw[hp]at b;cases b
  |true=>
   rw[hp]at b;cases b;simp only[yf,f]at o;obtain⟨cs,rfl,_,_⟩:=o;obtain⟨fuel,hf⟩:=h;obtain⟨x,i,n⟩:=QL k fuel t s _ (d,p) g hf r q;refine⟨x,(PC.Cm i).1 hp,n,?_⟩;simp only[Ri,Ac];refine⟨cs,rfl,?_⟩;have c:=i.ok;have e:(Value.agg cs).cells.toList=cs.toList:=rfl;rw[e]at c;generalize cs.toList=l at c;induction l with
   |nil=>simp
   |cons a l u=>
    simp only[yc,Bi];exact⟨SQ (c _ (by simp)),u fun v w=>c v<|by simp only[yc,ym];exact .inr w⟩
 case h_2=>rename_i k f;exact plain (.inl ⟨k,f⟩) b
 case h_3=>rename_i f;exact plain (.inr<|.inl f) b
 case h_4=>rename_i f;exact plain (.inr<|.inr<|.inl f) b
 case h_5=>rename_i e f;exact plain (.inr<|.inr<|.inr ⟨e,f⟩) b
 case h_6=>cases b
theorem R2{k:Nat}:∀ {ts:List TypeId} {a:List Sh} {args:List Value} {ds:List (DataW H)} {p:List MemPlace},S2 P k ts=some a->(∀(j:Nat) t v,ts[j]?=some t->args[j]?=some v->yf P W .any base t v)->
  yi enc P W 0 (fun _=>true) true ts args ds p->(ts.all<|UA P k)=true->(∀n∈zk P ts ds,n<=reachBytes)->∃x:(By a).T,MG (FW W) (Ae a x) (args.map<|Ri W.heap.size)/\(wfL a x/\Abw a x)/\Av (pW W) (args.map<|Ri W.heap.size) args
 |[],a,args,ds,p,b,_,h,_,_=>by
  cases b;obtain⟨rfl,rfl,rfl⟩:=trodAll_nil h;exact⟨(),fun ρ N=>by simp[Ae],⟨trivial,trivial⟩,by simp⟩
 |t::ts,a,args,ds,p,b,l,h,f,d=>by
  unfold S2 at b;split at b
  case h_2=>cases b
  rename_i s i u o;cases b;obtain⟨v0,c,z,r,p0,q0,rfl,rfl,rfl,h0,m⟩:=trodAll_cons h;rw[yh,zo]at f;rw[zk]at d;obtain⟨x,a1,a2,a3⟩:=gD u (l 0 t v0 rfl rfl) h0 f.1<|fun n e=>d n<|zu.2<|.inl e;obtain⟨y,b1,b2,b3⟩:=R2 o (fun j t v w g=>l (j+1) t v w g) m f.2<|fun n e=>d n<|zu.2<|.inr e;have hr:Av (pW W) ((v0::c).map<|Ri W.heap.size) (v0::c):=by simp only[yc,Bi];exact⟨a3,b3⟩
  cases i with
  |nil=>exact⟨x,fun ρ N=>by
    have:=b1 ρ N;simp only[Ae,Cf]at this;simp only[yc,Ae,this,A4,Cf,ve];exact a1 ρ N,a2,hr⟩
  |cons s2 q=>exact⟨(x,y),fun ρ N=>by
    simp only[yc,Ae,A4];exact⟨a1 ρ N,b1 ρ N⟩,⟨⟨a2.1,b2.1⟩,a2.2,b2.2⟩,hr⟩
end
open Go.Sp (AT BX BW BM Io B0 Ct)
theorem AbP{l:BW}(h:Rt BB l):Sp.fD l=true:=by
 obtain⟨_,_,_,_,a,_⟩:=h;have a:l.2.2.2.2.length*32<=140737488351232:=a;exact w4 (by omega)
theorem AaB{c:AT}(h:Rt BF c):Sp.zO c=true:=by
 obtain⟨⟨s1,s2⟩,⟨t1,_⟩,l1,a⟩:=h;have s1:c.1.length*88<=140737488351232:=s1;have t1:c.2.1.length*40<=140737488351232:=t1;have l1:c.2.2.length*96<=140737488351232:=l1;have s2:∀x∈c.1,Rt BY x:=s2;have a:∀x∈c.2.2,Rt BB x:=a;unfold Sp.zO;refine Ab (Ab (Ab (ad (by omega)<|by omega)<|w4<|by omega)<|zt.2 fun x b=>?_)<|zt.2 fun x b=>AbP<|a x b;obtain⟨_,_,_,_,d,_⟩:=s2 x b;have d:x.2.2.2.2.length*24<=140737488351232:=d;exact w4 (by omega)
theorem Aez{x:(By OI.ins).T}(h:Abw OI.ins x):OI.pre x=true:=AaB h.1
end Go.Pe
namespace Go.Proofs.YtlohiljbghionaaGreatDoor
open Go
set_option maxRecDepth 100000
theorem seatTie1:Tryz.prog.laidByTextLater [("math/bits.deBruijn32tab",Rows.laid_math_bits_deBruijn32tab),("math/bits.deBruijn64tab",Rows.laid_math_bits_deBruijn64tab),("internal/strconv.uint64pow10",Rows.laid_internal_strconv_uint64pow10),("unicode/utf8.acceptRanges",Rows.laid_unicode_utf8_acceptRanges),("strconv.ErrRange",Rows.laid_strconv_ErrRange),("strconv.ErrSyntax",Rows.laid_strconv_ErrSyntax)] [.data,.data,.data,.data,.sentinel,.sentinel] true:=
 Program.laidByTextLater_by_one 72 8 65 (by kernel_rfl) (by kernel_rfl) (by kernel_rfl) (by kernel_rfl) (by kernel_rfl) (by kernel_rfl) (fun _ _=>by kernel_rfl)
theorem noOwnUnsafe:Tryz.pinned.checked.prog.headLifts.contains "ownunsafe"=false:=by kernel_rfl
theorem fits1:Tryz.pinned.checked.prog.listedFits Rows.ratingLengthsRow.laid=true:=by
 unfold Program.listedFits;rw[noOwnUnsafe];kernel_rfl
theorem ratingLengths_row_tie:Rows.ratingLengthsRow.laidByTextAt .later Tryz.pinned [.data,.data,.data,.data,.sentinel,.sentinel,.pinned] true:=by
 refine OpenClaim.laidByTextAt_pinned rfl rfl seatTie1 rfl rfl rfl rfl (fun y a _e=>?_) fits1;simp only[Rows.ratingLengthsRow,List.zip_cons_cons,List.zip_nil_right,ym,List.mem_nil_iff,or_false]at a;rcases a with rfl|rfl|rfl|rfl|rfl|rfl|rfl
 ·cases _e
 ·cases _e
 ·cases _e
 ·cases _e
 ·cases _e
 ·cases _e
 ·exact⟨by kernel_rfl,by kernel_rfl⟩
end Go.Proofs.YtlohiljbghionaaGreatDoor
