import Derived.Test.YtlohiljbghionaaGreatDoorX16
import Derived.ChangeSame
import Derived.ChangeShapes
import Derived.OpenShut
import Derived.Test.YtlohiljbghionaaGreatDoorRows
import Derived.LaidByTextLater
import Derived.SevenTiedAt
import Derived.LaidSub
import Derived.LaidOnce
/- A part of a proof; no law is stated here. -/
noncomputable section
open Go.Pe.Ends renaming tt -> zc, leaf -> zd, Ai -> zf, ff -> zh, ite -> zi, eq -> yh
open Int renaming toNat_natCast -> ze, toNat -> zz
open List renaming length_cons -> zg, mem_cons_self -> zj, take_length -> zk, length_append -> zl, mem_of_mem_drop -> zn, getElem?_eq_getElem -> zu, all_eq_true -> zw, mem_append -> zy, mem_flatMap -> yc, mem_cons -> yd, map_cons -> yf, mem_append_right -> yj, all_cons -> yk, getElem?_take_of_lt -> yr, length_eq_zero_iff -> yu, map_take -> yz, map_drop -> y7, range -> y8, mem_map -> qd
open Bool renaming and_eq_true -> zm, false_and -> z6, true_or -> yb, or_true -> yo, false_or -> yp, and_true -> yq, and_false -> yw, true_and -> yy
open Go.IntKind renaming wrap -> zo
open Go.DataW renaming weightsEach -> zp, trod -> zr, weights -> ye, TrodAll -> ym, Trod -> y9
open Array renaming getElem?_eq_some_iff -> zq, getElem?_eq_none -> ya
open Nat renaming eq_of_beq_eq_true -> zt, zero_le -> zx, add -> z8, beq -> yg
open Option renaming bind_some -> z7, bind_eq_some_iff -> yv
open Go.Value renaming okWide -> yi
open Go.Sp renaming Bx -> yn, BU -> qf
open Go.Pe.Ad renaming of -> yt
open Go.World renaming cell? -> yx
open Iff renaming rfl -> qc
open Go.Addr renaming add -> qe
namespace Go.Sp
theorem q0{x:Int}(h:x=0):(x==0)=true:=by simpa using h
theorem q1{x:Int}(h:x≠0):(x==0)=false:=by simpa using h
theorem n0{x:Int}(h:x=0):(x !=0)=false:=by simpa using h
theorem n1{x:Int}(h:x≠0):(x !=0)=true:=by simpa using h
theorem VC{a:BJ}{n:Int}:EI a (AP (n:Rat))=if Au a<(n:Rat)then -1 else if (n:Rat)<Au a then 1 else 0:=by
 unfold EI;rw[DI]
theorem UF(s:BJ)(l:List BJ):Kb s l=if isName s=false then 8 else if s∈l then 9 else 0:=by
 unfold Kb has;by_cases h:s∈l
 ·rw[w4 h,wd h,wd rfl]
 ·rw[w8 h,wc h];cases isName s<;>rfl
theorem U8{s:BJ}{l:List BJ}(h:isName s=true):Kb s l=if s∈l then 9 else 0:=by rw[UF,h];rfl
theorem wN{s:BJ}{l:List BJ}(h:isName s=false):Kb s l=8:=by rw[UF,h];rfl
theorem tX(s:BQ):SP s=if BL s.1 (-10000) 10000≠0 then BL s.1 (-10000) 10000 else if BL s.2.1 (-10000) 10000≠0 then BL s.2.1 (-10000) 10000 else if BL s.2.2.1 0 10000≠0 then BL s.2.2.1 0 10000 else if BL s.2.2.2.1 0 10000≠0 then BL s.2.2.2.1 0 10000 else if 16<s.2.2.2.2.length then 5 else 0:=by
 unfold SP;rw[Bo,Bo,Bo,Bo,Bo,E1];by_cases h:16<s.2.2.2.2.length
 ·rw[w4 h,wd h];rfl
 ·rw[w8 h,wc h];rfl
end Go.Sp
variable {Q:Go.Pe.PV->Go.Pe.Ob->Prop}
namespace Go.Pe
open Sp
open Go.Det
open Go.Sp (AL BQ BM A1 ER BJ Cz q0 q1 n0 n1)
theorem lY:CX Adh:=Aa T62.ok<|Aa T36.ok<|Aa T97.ok<|Aa T96.ok AE
theorem OQ{n:Int}(h:GI n=true):Cn n=true:=by
 unfold GI at h;rw[zm,w5,w5]at h;exact ad ae ae
theorem T59.ok:Af A8 59 Ve:=by
 refine BR lY<|fun(i:BJ×Int×Int) b=>?_;obtain⟨a,lo,h⟩:=i;have b:(decide (a.length<=1000000)&&GI lo&&GI h)=true:=b;rw[zm,zm,w5]at b;obtain⟨⟨hl,h1⟩,h2⟩:=b;have f:∀e ob,e=BL a lo h->Ad Ve (a,lo,h) (.dat i64 e) ob:=fun e ob x=>yt rfl rfl x
 have L:=XU (n:=lo) (Tg h1) af;have H:=XU (n:=h) (Tg h2) af;refine yh (T59.Aj a lo h) ?_;conv=>zeta
 rw[Po,Po,VC,VC];refine zc (w4 hl)<|zi (fun c=>?_)<|fun c=>zd<|f _ _ ?_
 ·have c:Ao a=0:=by simpa using c
  have nb:=(CU c).1;refine zc (OQ h1) (zc (LJ<|OQ h1)<|zc (Ab nb<|L.Df af)<|zi (fun d=>zd<|f _ _ ?_)<|fun d=>zc (OQ h2)<|zc (LJ<|OQ h2)<|zc (Ab nb<|H.Df af)<|zi (fun e=>zd<|f _ _ ?_)<|fun e=>zd<|f _ _ ?_);all_goals rw[S8 c]
  ·have d:=w6 d;by_cases k:Au a<(lo:Rat)
   ·rw[wd<|.inl k]
   ·rw[wc k]at d;split at d<;>exact wh d af
  ·have e:=w6 e;by_cases k:(h:Rat)<Au a
   ·rw[wd<|.inr k]
   ·rw[wc k]at e;split at e<;>exact wh e af
  ·have d:=w7 d;have e:=w7 e;rw[wc,c];rintro(k|k)
   ·rw[wd k]at d;exact d af
   ·by_cases g:Au a<(h:Rat)
    ·exact wh (Std.lt_trans k g) (by grind)
    ·rw[wc g,wd k]at e;exact e af
 ·have c:Ao a≠0:=by simpa using c
  exact(Vp c).symm
theorem nZ:CX wF:=Aa T58.ok AE
namespace T61
theorem loop{Q:PV->Ob->Prop}(s:BJ)(l:List BJ)(n:l.length<=1000):∀(r:List BJ) (i:Nat),l.drop i=r->i<=l.length->(∀ob,Q (.dat i64<|if s∈r then 9 else 0) ob)->Ends wF (L1 s l (i:Int)) Q
 |[],i,h,b,a=>by
  have:=drop_nil h b;exact zf (Al ..) (zh (w8 ae)<|zd<|a _)
 |x::r,i,h,b,a=>by
  obtain⟨f,g,m⟩:=drop_cons (d:=([]:Z)) h;have j:=wn (i:=i) ae;refine zf (Al ..) ?_;conv=>zeta
  rw[ze,g,j];refine zc (w4 ae) (zc (ad ae ae)<|zi (fun c=>zd ?_)<|fun c=>loop s l n r (i+1) m f ?_)
  ·have c:x=s:=by simpa using c
   rw[wd<|by rw[c];exact zj ..]at a;exact a _
  ·have c:x≠s:=by simpa using c
   have e:(s∈x::r)=(s∈r):=by
    apply propext;rw[yd];exact⟨fun k=>k.resolve_left fun k=>c k.symm,.inr⟩
   simp only[e]at a;exact a
theorem ok:Af A8 61 Uu:=by
 refine BR nZ<|fun(i:BJ×List BJ) a=>?_;obtain⟨s,l⟩:=i;have a:decide (l.length<=1000)=true:=a;have b:∀e ob,e=Kb s l->Ad Uu (s,l) (.dat i64 e) ob:=fun e ob x=>yt rfl rfl x
 refine yh (Aj s l)<|zc rfl (zi (fun c=>zd<|b _ _ ?_)<|fun c=>?_)
 ·exact(wN<|by simpa using c).symm
 ·exact loop s l (w6 a) l 0 rfl (zx _) (fun ob=>b _ _ (U8<|by simpa using c).symm)
end T61
theorem oH:CX xN:=Aa T59.ok<|Aa T58.ok AE
namespace T67
theorem loop{Q:PV->Ob->Prop}(a b c d:BJ)(l:List ER)(s:l.length<=1000000):∀(r:List ER) (i:Nat),l.drop i=r->i<=l.length->(∀ob,Q (.dat i64<|fB r) ob)->Ends xN (L1 (i:Int) a b c d l) Q
 |[],i,h,j,f=>by
  have:=drop_nil h j;exact zf (Al ..) (zh (w8 ae)<|zd<|f _)
 |o::r,i,h,j,f=>by
  obtain⟨k,m,q⟩:=drop_cons (d:=(([],0):ER)) h;have p:=wn (i:=i) ae;have g:=nb (i:=i) (n:=l.length) ae;rw[fB]at f;refine zf (Al ..) ?_;conv=>zeta
  rw[ze,m,p];refine zc (w4 ae)<|zc g<|zc rfl (zi (fun c=>zd ?_)<|fun c=>zc g<|zi (fun d=>zd ?_)<|fun d=>zc g<|zi (fun e=>zd ?_)<|fun e=>loop _ _ _ _ l s r (i+1) q k ?_)
  ·rw[wd<|by simpa using c]at f;exact f _
  ·rw[wc (by simpa using c),wd<|.inl<|w6 d]at f;exact f _
  ·rw[wc (by simpa using c),wd<|.inr<|w6 e]at f;exact f _
  ·rw[wc (by simpa using c),wc<|not_or.2 ⟨w7 d,w7 e⟩]at f;exact f
theorem ok:Af A8 67 cS:=by
 refine BR oH<|fun(s:BQ) hi=>?_;obtain⟨a1,a2,a3,a4,a5⟩:=Ot hi;have g:∀e ob,e=Lb s->Ad cS s (.dat i64 e) ob:=fun e ob x=>yt rfl rfl x
 have j:∀ {a:BJ} {lo h:Int},a.length<=20->GI lo=true->GI h=true->(decide (a.length<=1000000)&&GI lo&&GI h)=true:=fun k x y=>Ab (Ab (w4 ae) x) y
 have b:=tX s;have bad:∀x:Int,x≠0->SP s=x->x=Lb s:=fun x h k=>by
  unfold Lb;rw[k,wd h]
 refine yh (Aj s) ?_;conv=>zeta
 by_cases d:BL s.1 (-10000) 10000=0
 ·rw[wc<|fun x=>x d]at b;refine zc (j a1 rfl rfl)<|zc (q0 d)<|zc (j a2 rfl rfl) ?_;by_cases f:BL s.2.1 (-10000) 10000=0
  ·rw[wc<|fun x=>x f]at b;refine zc (q0 f)<|zc (j a3 rfl rfl) ?_;by_cases i:BL s.2.2.1 0 10000=0
   ·rw[wc<|fun x=>x i]at b;refine zc (q0 i)<|zc (j a4 rfl rfl) ?_;by_cases l:BL s.2.2.2.1 0 10000=0
    ·rw[wc<|fun x=>x l]at b;refine zh (n0 l)<|zi (fun c=>zd<|g _ _ ?_)<|fun c=>?_
     ·have c:=w6 c;rw[wd ae]at b;exact bad 5 af b
     ·have c:=w7 c;rw[wc ae]at b;have e:Lb s=fB s.2.2.2.2:=by
       unfold Lb;rw[wc<|fun x=>x b]
      exact loop _ _ _ _ _ ae _ 0 rfl (zx _) (fun ob=>g _ _ e.symm)
    ·rw[wd l]at b;exact zc (n1 l)<|zd<|g _ _<|bad _ l b
   ·rw[wd i]at b;exact zh (q1 i)<|zc (n1 i)<|zd<|g _ _<|bad _ i b
  ·rw[wd f]at b;exact zh (q1 f)<|zh (q1 f)<|zc (n1 f)<|zd<|g _ _<|bad _ f b
 ·rw[wd d]at b;exact zc (j a1 rfl rfl)<|zh (q1 d)<|zh (q1 d)<|zh (q1 d)<|zc (n1 d)<|zd<|g _ _<|bad _ d b
end T67
end Go.Pe
namespace Go.Sp
theorem aQ(l:BM):LK l=if isName l.1=false then 8 else if BL l.2.1 1 10000≠0 then BL l.2.1 1 10000 else if BL l.2.2.1 1 10000≠0 then BL l.2.2.1 1 10000 else BH l.2.2.2.1:=by
 unfold LK;rw[Bo,Bo,Bo,Bo,E1];have t:(if BH l.2.2.2.1≠0 then BH l.2.2.2.1 else first [])=BH l.2.2.2.1:=by
  by_cases h:BH l.2.2.2.1=0
  ·rw[h];rfl
  ·rw[wd h]
 rw[t];cases isName l.1
 ·rfl
 ·rfl
theorem OW{u:BJ}(h:Ao u=0):FT u<0↔Au u<0:=by
 have t:=(MT h).1;have k:=No<|Au u;rw[t]at k;rw[k, <-(neg_num<|Au u).1];unfold NQ;constructor
 ·intro x;split at x
  ·omega
  ·split at x<;>omega
 ·intro x;rw[wd x];decide
theorem mN{seen:List BJ}{w:A1}{l:List A1}{o:List BJ}(h:∀x,x∈o↔x∈seen):YM seen (w::l)=if Kb w.1 o≠0 then Kb w.1 o else if Ao w.2≠0 then Ao w.2 else if Au w.2<0 then 3 else YM (w.1::seen) l:=by
 rw[YM,UF];unfold has;cases isName w.1
 ·rfl
 ·by_cases k:w.1∈o
  ·rw[w4<|(h _).1 k,wd k];rfl
  ·rw[w8<|fun x=>k<|(h _).2 x,wc k];rfl
theorem Qa{o seen:List BJ}(h:∀x,x∈o↔x∈seen)(k:BJ):∀x,x∈o++[k]↔x∈k::seen:=fun x=>by
 rw[zy,List.mem_singleton,yd,h x];exact Or.comm
end Go.Sp
namespace Go.Pe
open Sp
open Go.Det
open Go.Sp (AL BQ BM A1 ER BJ Cz q0 q1 n0 n1)
theorem jU:CX Rv:=Aa T58.ok<|Aa T59.ok<|Aa T60.ok<|Aa T36.ok<|Aa T61.ok<|Aa T62.ok<|Aa T38.ok AE
theorem bQ{C:Ctx}{f:FuncId}{ins outs:List Sh}{p q:(BB ins).T->Bool}{g:(BB ins).T->(BB outs).T}{nd:Bool}(h:Af C f ⟨ins,p,outs,g,nd⟩)(j:∀i,q i=true->p i=true):Af C f ⟨ins,q,outs,g,nd⟩:=by
 rcases h with h|⟨x,k,hr⟩
 ·exact .inl ⟨h.prim,h.fn,fun F m args i a b c d e=>h.run F m args i a b c d<|j i e⟩
 ·exact .inr ⟨x,k,fun F m args i a e=>hr F m args i a<|j i e⟩
namespace T14
theorem Jc(q l nx:BJ)(t w:List A1)(z:w.length<=16)(j:∀p∈w,p.2.length<=1000000):∀(r:List A1) (i n:Nat) (o seen:List BJ),w.drop i=r->i<=w.length->n=o.length->n=i->(∀x,x∈o↔x∈seen)->(∀ob,Q (.dat i64<|YM seen r) ob)->Ends Rv (L3 n (i:Int) o q l nx t w) Q
 |[],i,n,o,seen,h,m,f,b,g,a=>by
  have:=drop_nil h m;exact zf (BA ..) (zh (w8 ae)<|zd<|a _)
 |p::r,i,n,o,seen,h,m,f,b,g,a=>by
  obtain⟨y,u,A⟩:=drop_cons (d:=(([],[]):A1)) h;have s:=j p (zn<|by rw[h];exact zj ..);have v:=wn (i:=i) ae;have e:=nb (i:=i) (n:=w.length) ae;have tk:List.take n o=o:=by rw[f,zk]
  rw[mN g]at a;refine zf (BA ..) ?_;conv=>zeta
  rw[ze,u,v,tk];have pn:(decide (0+n<=o.length)&&true&&decide (o.length<=1000))=true:=Ab (Ab (w4 ae) rfl) (w4 ae);have B:(decide (1<=1)&&true&&decide (n=o.length)&&decide ((3*(n+1)+2000)*16<=562949953421312))=true:=Ab (Ab (Ab rfl rfl)<|w4 f) (w4 ae);refine zc (w4 ae)<|zc e<|zc pn ?_;by_cases c:Kb p.1 o=0
  ·rw[wc<|fun x=>x c]at a;refine zc (q0 c)<|zc e<|zc (w4 s) ?_;by_cases d:Ao p.2=0
   ·rw[wc<|fun x=>x d]at a;refine zc (q0 d)<|zc e<|zc (w4 s)<|zi (fun k=>zc rfl (zd ?_))<|fun k=>zh (n0 d)<|zc e<|zc B ?_
    ·rw[wd<|(OW d).1<|w6 k]at a;exact a _
    ·rw[wc fun x=>w7 k<|(OW d).2 x]at a;exact Jc q l nx t w z j r (i+1) (z8 n 1) (o++[p.1]) (p.1::seen) A y (by rw[zl,f];rfl) (by rw[b]) (Qa g p.1) a
   ·rw[wd d]at a;exact zh (q1 d)<|zc (n1 d)<|zd<|a _
  ·rw[wd c]at a;exact zh (q1 c)<|zh (q1 c)<|zc (n1 c)<|zd<|a _
theorem EA(g f nx:BJ)(t w:List A1)(l:w.length<=16)(e:∀p∈w,p.2.length<=1000000)(a:∀ob,Q (.dat i64<|YM [] w) ob):Ends Rv (L2 0 g f nx t w) Q:=by
 cases w with
 |nil=>exact zf (AG ..)<|zh rfl (zd<|a _)
 |cons p r=>
  have s:=e p<|zj ..;have i:zo .i64 ((0:Int)+1)=((1:Nat):Int):=rfl;have h:(p::r).getD (zz 0) ([],[])=p:=rfl;have b:(decide ((0:Int)<=(0:Int))&&decide ((0:Int)<((p::r).length:Int)))=true:=Ab rfl (w4<|by rw[zg];omega);have j:∀x:BJ,x∈([]:List BJ)↔x∈([]:List BJ):=fun x=>qc
  rw[mN j]at a;refine zf (AG ..) ?_;conv=>zeta
  rw[h,i];have m:(decide (1<=1)&&decide (0<1)&&decide ((3*1+2000)*16<=562949953421312))=true:=Ab (Ab rfl rfl) (w4 ae);refine zc (w4<|by rw[zg];omega)<|zc b<|zc rfl ?_;by_cases c:Kb p.1 []=0
  ·rw[wc<|fun x=>x c]at a;refine zc (q0 c)<|zc b<|zc (w4 s) ?_;by_cases d:Ao p.2=0
   ·rw[wc<|fun x=>x d]at a;refine zc (q0 d)<|zc b<|zc (w4 s)<|zi (fun k=>zc rfl (zd ?_))<|fun k=>zh (n0 d)<|zc b<|zc m ?_
    ·rw[wd<|(OW d).1<|w6 k]at a;exact a _
    ·rw[wc fun x=>w7 k<|(OW d).2 x]at a;exact Jc g f nx t (p::r) l e r 1 1 [p.1] [p.1] rfl (by rw[zg];omega) rfl rfl (fun x=>qc) a
   ·rw[wd d]at a;exact zh (q1 d)<|zc (n1 d)<|zd<|a _
  ·rw[wd c]at a;exact zh (q1 c)<|zh (q1 c)<|zc (n1 c)<|zd<|a _
theorem Fv(f b nx:BJ)(t w:List A1)(q:t.length<=1000)(e:∀p∈t,Ao p.1=0/\Ao p.2=0)(j:∀p∈w,p.2.length<=1000000):∀(r:List A1) (i:Nat),t.drop i=r->1<=i->i<=t.length->(∀ob,Q (.dat i64<|if Se (some (t.getD (i-1) ([],[])).2) r≠0 then Se (some (t.getD (i-1) ([],[])).2) r else N4 w) ob)->Ends Rv (L1 (i:Int) f b nx t w) Q
 |[],i,h,o,k,a=>by
  have:=drop_nil h k;have a:∀ob,Q (.dat i64<|N4 w) ob:=fun ob=>by
   have:=a ob;rwa [show Se (some (t.getD (i-1) ([],[])).2) []=0 from rfl,wc<|fun x=>x rfl]at this
  unfold N4 at a;refine zf (Al ..) (zh (w8 ae)<|zi (fun c=>zd ?_)<|fun c=>?_)
  ·have c:=w6 c;rw[wd ae]at a;exact a _
  ·have c:=w7 c;rw[wc ae]at a;exact EA f b nx t w ae j a
 |p::r,i,h,o,k,a=>by
  obtain⟨n,g,v⟩:=drop_cons (d:=(([],[]):A1)) h;have s:=e p (zn<|by rw[h];exact zj ..);have u:=e (t.getD (i-1) ([],[])) (GY ae);have m:=wn (i:=i) ae;have l:zo .i64 ((i:Int)-1)=((i-1:Nat):Int):=by rw[wr _ ae ae];omega
  rw[Wr]at a;refine zf (Al ..) ?_;conv=>zeta
  rw[l,ze,ze,g,m];refine zc (w4 ae) (zc (ad ae ae) (zc (ad ae ae) (zc (Ab (CU s.2).1<|(Mx u.2).Df af)<|zi (fun d=>zd ?_)<|fun d=>?_)))
  ·rw[wd<|w6 d,wd af]at a;exact a _
  ·rw[wc<|w7 d]at a;exact Fv f b nx t w q e j r (i+1) v ae n (by rw[Nat.add_sub_cancel,g];exact a)
theorem okM:Af A8 14 AaN:=by
 refine BR jU<|fun(l:BM) hi=>?_;have i:=xT hi;have j:∀e ob,e=JG l->Ad AaN l (.dat i64 e) ob:=fun e ob x=>yt rfl rfl x
 have hp:GC 1000000 l.2.2.2.1=true:=by
  unfold GC;rw[zw];intro p hp;have:=i.tab p hp;exact ad ae ae
 have a1:=i.head;have a2:=i.next;have a3:=i.tl;have q:∀p∈l.2.2.2.2,p.2.length<=1000000:=fun p hp=>by have:=i.wts p hp;omega
 have m:∀ {a:BJ},a.length<=20->(decide (a.length<=1000000)&&GI 1&&GI 10000)=true:=fun k=>Ab (Ab (w4 ae) rfl) rfl
 have pt:(decide (l.2.2.2.1.length<=1000)&&GC 1000000 l.2.2.2.1)=true:=Ab (w4 ae) hp;have b:=aQ l;have bad:∀x:Int,x≠0->LK l=x->x=JG l:=fun x h k=>by
  unfold JG;rw[k,wd h]
 refine yh (Aj l)<|zc rfl (zi (fun c=>zd<|j _ _ ?_)<|fun c=>zc (m a1) ?_)
 ·have c:Sp.isName l.1=false:=by simpa using c
  rw[wd c]at b;exact bad 8 af b
 have c:¬Sp.isName l.1=false:=by simpa using c
 rw[wc c]at b;by_cases f:BL l.2.1 1 10000=0
 ·rw[wc<|fun x=>x f]at b;refine zc (q0 f)<|zc (m a2) ?_;by_cases g:BL l.2.2.1 1 10000=0
  ·rw[wc<|fun x=>x g]at b;refine zc (q0 g) (zc pt<|zi (fun d=>zd<|j _ _<|bad _ (by simpa using d) b)<|fun d=>?_);have ct:BH l.2.2.2.1=0:=by simpa using d
   rw[ct]at b;obtain⟨o,_,s⟩:=Fp ct;obtain⟨p,r,hr⟩:∃p r,l.2.2.2.1=p::r:=by
    cases e:l.2.2.2.1 with
    |nil=>exact wh e o
    |cons p r=>exact⟨p,r,rfl⟩
   have n:l.2.2.2.1.getD (1-1) ([],[])=p:=by rw[hr];rfl
   have up:Se none l.2.2.2.1=Se (some p.2) r:=by rw[hr,Se]
   refine Fv _ _ _ _ _ ae (OT s) q r 1 (by rw[hr];rfl) ae (by rw[hr,zg];omega)<|fun ob=>j _ _ ?_;rw[n, <-up];exact(wc (c:=LK l≠0)<|fun x=>x b).symm
  ·rw[wd g]at b;exact zh (q1 g)<|zc (n1 g)<|zd<|j _ _<|bad _ g b
 ·rw[wd f]at b;exact zh (q1 f)<|zh (q1 f)<|zc (n1 f)<|zd<|j _ _<|bad _ f b
end T14
end Go.Pe
namespace Go.Sp
theorem ZU{n:Int}{seen:List BJ}{t:Cz}{l:List Cz}{o:List BJ}(h:∀x,x∈o↔x∈seen):FV n seen (t::l)=if Kb t.1 o≠0 then Kb t.1 o else if (t.2.length:Int)≠n then 2 else if Ex t.2=true then 3 else FV n (t.1::seen) l:=by
 rw[FV,UF];unfold has;cases isName t.1
 ·rfl
 ·by_cases k:t.1∈o
  ·rw[w4<|(h _).1 k,wd k];rfl
  ·rw[w8<|fun x=>k<|(h _).2 x,wc k];rfl
theorem qQ{l:BM}(h:JG l=0):isName l.1=true:=by
 cases k:isName l.1 with
 |true=>rfl
 |false=>
  have e:=aQ l;rw[wd k]at e;unfold JG at h;rw[e,wd af]at h;exact wh h af
theorem ZY{seen:List BJ}{l:BM}{r:List BM}{o:List BJ}(h:∀x,x∈o↔x∈seen):LQ seen (l::r)=if JG l≠0 then JG l else if Kb l.1 o≠0 then Kb l.1 o else LQ (l.1::seen) r:=by
 rw[LQ];by_cases e:JG l=0
 ·have a:¬JG l≠0:=fun x=>x e
  rw[wc a,wc a,U8<|qQ e];unfold has;by_cases k:l.1∈o
  ·rw[w4<|(h _).1 k,wd k];rfl
  ·rw[w8<|fun x=>k<|(h _).2 x,wc k];rfl
 ·rw[wd e,wd e]
theorem Sa(n:Int)(r:List Int):Ex (n::r)=((decide (n<1)||decide (10000<n))||Ex r):=by unfold Ex;rw[List.any_cons]
theorem PX{α:Type}{l:List α}:((l.length:Int)==0)=true↔l=[]:=by
 rw[wj];constructor
 ·intro h;exact yu.1 ae
 ·intro h;rw[h];rfl
end Go.Sp
namespace Go.Pe
open Sp
open Go.Det
open Go.Sp (AL BQ BM A1 ER BJ Cz q0 q1 n0 n1)
theorem qL:CX E0:=Aa T67.ok<|Aa T61.ok<|Aa T14.okM AE
theorem Ml{α:Type}{X:AT}{Q:PV->Ob->Prop}{l:List α}{m:Nat}{e:Int}{s1 s2:Ob}{t:Tr}(a:∀ob,Q (.dat i64<|if l=[]then 12 else if m<l.length then 5 else e) ob)(b:l≠[]->l.length<=m->(∀ob,Q (.dat i64 e) ob)->Ends X t Q):
  Ends X (.ite ((l.length:Int)==0) (.leaf (.dat i64 12) s1)<|.ite (decide ((l.length:Int)>(m:Int))) (.leaf (.dat i64 5) s2) t) Q:=by
 refine zi (fun c=>zd ?_)<|fun c=>zi (fun d=>zd ?_)<|fun d=>?_
 ·rw[wd<|PX.1 c]at a;exact a _
 ·have c:l≠[]:=fun x=>by rw[PX.2 x]at c;cases c
  have d:=w6 d;rw[wc c,wd ae]at a;exact a _
 ·have c:l≠[]:=fun x=>by rw[PX.2 x]at c;cases c
  have d:=w7 d;rw[wc c,wc ae]at a;exact b c ae a
namespace T16
theorem zQ(S:List BQ)(j:List Cz)(l:List BM)(u:l.length<=8)(k:∀x∈l,Pm x=true):∀(r:List BM) (i n:Nat) (o seen:List BJ),l.drop i=r->i<=l.length->n=o.length->n=i->(∀x,x∈o↔x∈seen)->(∀ob,Q (.dat i64<|LQ seen r) ob)->Ends E0 (L6 n (i:Int) o S j l) Q
 |[],i,n,o,seen,h,m,e,b,g,a=>by
  have:=drop_nil h m;exact zf (EX ..) (zh (w8 ae)<|zd<|a _)
 |p::r,i,n,o,seen,h,m,e,b,g,a=>by
  obtain⟨v,q,w⟩:=drop_cons (d:=(([],[],[],[],[]):BM)) h;have s:=k p (zn<|by rw[h];exact zj ..);have t:=wn (i:=i) ae;have f:=nb (i:=i) (n:=l.length) ae;have tk:List.take n o=o:=by rw[e,zk]
  rw[ZY g]at a;refine zf (EX ..) ?_;conv=>zeta
  rw[ze,q,t,tk];have pn:(decide (0+n<=o.length)&&true&&decide (o.length<=1000))=true:=Ab (Ab (w4 ae) rfl) (w4 ae);have y:(decide (1<=1)&&true&&decide (n=o.length)&&decide ((3*(n+1)+2000)*16<=562949953421312))=true:=Ab (Ab (Ab rfl rfl)<|w4 e) (w4 ae);refine zc (w4 ae)<|zc f<|zc s ?_;by_cases c:JG p=0
  ·rw[wc<|fun x=>x c]at a;refine zc (q0 c)<|zc f<|zc pn<|zi (fun d=>zd ?_)<|fun d=>zc f<|zc y ?_
   ·rw[wd<|by simpa using d]at a;exact a _
   ·rw[wc<|by simpa using d]at a;exact zQ S j l u k r (i+1) (z8 n 1) (o++[p.1]) (p.1::seen) w v (by rw[zl,e];rfl) (by rw[b]) (Qa g p.1) a
  ·rw[wd c]at a;exact zh (q1 c)<|zc (n1 c)<|zd<|a _
theorem VS(S:List BQ)(e:List Cz)(l:List BM)(i:l.length<=8)(f:∀x∈l,Pm x=true)(a:∀ob,Q (.dat i64<|LQ [] l) ob):Ends E0 (L4 0 S e l) Q:=by
 cases l with
 |nil=>exact zf (Ci ..)<|zh rfl (zd<|a _)
 |cons p r=>
  have s:=f p<|zj ..;have h:zo .i64 ((0:Int)+1)=((1:Nat):Int):=rfl;have g:(p::r).getD (zz 0) ([],[],[],[],[])=p:=rfl;have b:(decide ((0:Int)<=(0:Int))&&decide ((0:Int)<((p::r).length:Int)))=true:=Ab rfl (w4<|by rw[zg];omega);have j:∀x:BJ,x∈([]:List BJ)↔x∈([]:List BJ):=fun x=>qc
  rw[ZY j]at a;refine zf (Ci ..) ?_;conv=>zeta
  rw[g,h];have k:(decide (1<=1)&&decide (0<1)&&decide ((3*1+2000)*16<=562949953421312))=true:=Ab (Ab rfl rfl) (w4 ae);refine zc (w4<|by rw[zg];omega)<|zc b<|zc s ?_;by_cases c:JG p=0
  ·rw[wc<|fun x=>x c]at a;refine zc (q0 c)<|zc b<|zc rfl (zi (fun d=>zd ?_)<|fun d=>zc b<|zc k ?_)
   ·rw[wd<|by simpa using d]at a;exact a _
   ·rw[wc<|by simpa using d]at a;exact zQ S e (p::r) i f r 1 1 [p.1] [p.1] rfl (by rw[zg];omega) rfl rfl (fun x=>qc) a
  ·rw[wd c]at a;exact zh (q1 c)<|zc (n1 c)<|zd<|a _
theorem xV{n:Nat}{i e j:Int}{t:Cz}{o:List BJ}{S:List BQ}{c:List Cz}{V:List BM}(a:e≠0)(b:∀ob,Q (.dat i64 e) ob):Ends E0 (L7 n i e j t.1 t.2 o S c V) Q:=
 zf (D5 ..) (zi (fun _=>zh (q1 a)<|zc (n1 a)<|zd<|b _)<|fun _=>zc (n1 a)<|zd<|b _)
theorem xI{i e j:Int}{t:Cz}{S:List BQ}{c:List Cz}{V:List BM}(a:e≠0)(b:∀ob,Q (.dat i64 e) ob):Ends E0 (L3 i e j t.1 t.2 S c V) Q:=
 zf (BA ..) (zi (fun _=>zh (q1 a)<|zc (n1 a)<|zd<|b _)<|fun _=>zc (n1 a)<|zd<|b _)
theorem zK{n:Nat}{i:Int}{t:Cz}{o:List BJ}{S:List BQ}{e:List Cz}{V:List BM}(f:n=o.length)(v:n<=1000)(q:t.2.length<=4611686018427387904)(b:Ex t.2=true->∀ob,Q (.dat i64 3) ob)(k:Ex t.2=false->Ends E0 (L5 (z8 n 1) (zo .i64<|i+1) (o++[t.1]) S e V) Q):∀(r:List Int) (j:Nat),t.2.drop j=r->j<=t.2.length->Ex t.2=Ex r->Ends E0 (L7 n i 0 (j:Int) t.1 t.2 o S e V) Q
 |[],j,h,l,a=>by
  have:=drop_nil h l;refine zf (D5 ..) (zh (w8 ae)<|zh rfl (zc ?_<|k a));exact Ab (Ab (Ab rfl rfl)<|w4 f) (w4 ae)
 |x::r,j,h,l,a=>by
  obtain⟨m,p,u⟩:=drop_cons (d:=(0:Int)) h;have s:=wn (i:=j) ae;have g:=nb (i:=j) (n:=t.2.length) ae;rw[Sa]at a;refine zf (D5 ..) ?_;conv=>zeta
  rw[ze,p,s];refine zc (w4 ae)<|zc rfl (zc g<|zi (fun c=>?_)<|fun c=>zc g<|zi (fun d=>?_)<|fun d=>?_)
  ·rw[c,yb,yb]at a;exact xV af<|b a
  ·have d:decide (10000<x)=true:=d;rw[d,yo,yb]at a;exact xV af<|b a
  ·have d:decide (10000<x)=false:=d;rw[c,d,yp,yp]at a;exact zK f v q b k r (j+1) u m a
theorem Jc{i:Int}{t:Cz}{S:List BQ}{e:List Cz}{V:List BM}(o:t.2.length<=4611686018427387904)(b:Ex t.2=true->∀ob,Q (.dat i64 3) ob)(g:Ex t.2=false->Ends E0 (L5 1 (zo .i64<|i+1) [t.1] S e V) Q):∀(r:List Int) (j:Nat),t.2.drop j=r->j<=t.2.length->Ex t.2=Ex r->Ends E0 (L3 i 0 (j:Int) t.1 t.2 S e V) Q
 |[],j,h,k,a=>by
  have:=drop_nil h k;refine zf (BA ..) (zh (w8 ae)<|zh rfl (zc ?_<|g a));exact Ab (Ab rfl rfl) (w4 ae)
 |x::r,j,h,k,a=>by
  obtain⟨l,m,q⟩:=drop_cons (d:=(0:Int)) h;have p:=wn (i:=j) ae;have f:=nb (i:=j) (n:=t.2.length) ae;rw[Sa]at a;refine zf (BA ..) ?_;conv=>zeta
  rw[ze,m,p];refine zc (w4 ae)<|zc rfl (zc f<|zi (fun c=>?_)<|fun c=>zc f<|zi (fun d=>?_)<|fun d=>?_)
  ·rw[c,yb,yb]at a;exact xI af<|b a
  ·have d:decide (10000<x)=true:=d;rw[d,yo,yb]at a;exact xI af<|b a
  ·have d:decide (10000<x)=false:=d;rw[c,d,yp,yp]at a;exact Jc o b g r (j+1) q l a
theorem yU(c:AL)(l:vZ c=true)(w:c.2.1.length<=8):∀(r:List Cz) (i n:Nat) (o seen:List BJ),c.2.1.drop i=r->i<=c.2.1.length->n=o.length->n=i->(∀x,x∈o↔x∈seen)->(∀ob,Q (.dat i64<|if FV (c.1.length:Int) seen r≠0 then FV (c.1.length:Int) seen r else Oe c) ob)->Ends E0 (L5 n (i:Int) o c.1 c.2.1 c.2.2) Q
 |[],i,n,o,seen,h,p,e,b,j,a=>by
  have:=drop_nil h p;have a:∀ob,Q (.dat i64<|Oe c) ob:=fun ob=>by
   have:=a ob;rwa [show FV (c.1.length:Int) seen []=0 from rfl,wc<|fun x=>x rfl]at this
  refine zf (EO ..) (zh (w8 ae)<|Ml (m:=8) a fun _ A g=>?_);exact VS _ _ _ A (Q3 l).2.2.2.2.2 g
 |t::r,i,n,o,seen,h,p,e,b,j,a=>by
  obtain⟨y,s,z⟩:=drop_cons (d:=(([],[]):Cz)) h;have st:=(Q3 l).2.2.2.2.1 t (zn<|by rw[h];exact zj ..);have st:decide (t.2.length<=4611686018427387904)=true:=st;rw[w5]at st;have u:=wn (i:=i) ae;have v:=nb (i:=i) (n:=c.2.1.length) ae;have tk:List.take n o=o:=by rw[e,zk]
  have pn:(decide (0+n<=o.length)&&true&&decide (o.length<=1000))=true:=Ab (Ab (w4 ae) rfl) (w4 ae);rw[ZU j]at a;refine zf (EO ..) ?_;conv=>zeta
  rw[ze,s,tk];refine zc (w4 ae)<|zc v<|zc pn ?_;by_cases k:Kb t.1 o=0
  ·have q:¬Kb t.1 o≠0:=fun x=>x k
   rw[wc q]at a;refine zc (q0 k)<|zi (fun d=>?_)<|fun d=>?_
   ·have d:(t.2.length:Int)≠(c.1.length:Int):=by simpa using d
    rw[wd d,wd af]at a;exact xV af a
   ·have d:¬(t.2.length:Int)≠(c.1.length:Int):=by simpa using d
    rw[wc d]at a;rw[k];refine zK e ae st (fun f=>?_) (fun f=>?_) t.2 0 rfl (zx _) rfl
    ·rw[wd f,wd af]at a;exact a
    ·rw[wc (c:=Ex t.2=true)<|by rw[f];decide]at a;rw[u];exact yU c l w r (i+1) (z8 n 1) (o++[t.1]) (t.1::seen) z y (by rw[zl,e];rfl) (by rw[b]) (Qa j t.1) a
  ·rw[wd k,wd k]at a;exact zh (q1 k)<|xV k a
theorem EA(c:AL)(e:vZ c=true)(l:c.2.1.length<=8)(a:∀ob,Q (.dat i64<|if FV (c.1.length:Int) [] c.2.1≠0 then FV (c.1.length:Int) [] c.2.1 else Oe c) ob):Ends E0 (L2 0 c.1 c.2.1 c.2.2) Q:=by
 obtain⟨S,tt,V⟩:=c;cases tt with
 |nil=>
  have a:∀ob,Q (.dat i64<|Oe (S,[],V)) ob:=a;refine zf (AG ..)<|zh rfl (Ml (m:=8) a fun _ o b=>?_);exact VS _ _ _ o (Q3 e).2.2.2.2.2 b
 |cons t r=>
  have st:=(Q3 e).2.2.2.2.1 t<|zj ..;have st:decide (t.2.length<=4611686018427387904)=true:=st;rw[w5]at st;have i:zo .i64 ((0:Int)+1)=((1:Nat):Int):=rfl;have h:(t::r).getD (zz 0) ([],[])=t:=rfl;have j:(decide ((0:Int)<=(0:Int))&&decide ((0:Int)<((t::r).length:Int)))=true:=Ab rfl (w4<|by rw[zg];omega);have n:∀x:BJ,x∈([]:List BJ)↔x∈([]:List BJ):=fun x=>qc
  have a:∀ob,Q (.dat i64<|if FV (S.length:Int) [] (t::r)≠0 then FV (S.length:Int) [] (t::r)else Oe (S,t::r,V)) ob:=a;rw[ZU n]at a;show Ends E0 (L2 0 S (t::r) V) Q;refine zf (AG ..) ?_;conv=>zeta
  rw[h];refine zc (w4<|by rw[zg];omega)<|zc j<|zc rfl ?_;by_cases k:Kb t.1 []=0
  ·have g:¬Kb t.1 []≠0:=fun x=>x k
   rw[wc g]at a;refine zc (q0 k)<|zi (fun d=>?_)<|fun d=>?_
   ·have d:(t.2.length:Int)≠(S.length:Int):=by simpa using d
    rw[wd d,wd af]at a;exact xI af a
   ·have d:¬(t.2.length:Int)≠(S.length:Int):=by simpa using d
    rw[wc d]at a;rw[k];refine Jc st (fun f=>?_) (fun f=>?_) t.2 0 rfl (zx _) rfl
    ·rw[wd f,wd af]at a;exact a
    ·rw[wc (c:=Ex t.2=true)<|by rw[f];decide]at a;rw[i];exact yU (S,t::r,V) e l r 1 1 [t.1] [t.1] rfl (by rw[zg];omega) rfl rfl (fun x=>qc) a
  ·rw[wd k,wd k]at a;exact zh (q1 k)<|xI k a
theorem Fv(c:AL)(e:vZ c=true):∀(r:List BQ) (i:Nat),c.1.drop i=r->i<=c.1.length->
  (∀ob,Q (.dat i64<|if I4 r≠0 then I4 r else Tc c) ob)->Ends E0 (L1 (i:Int) c.1 c.2.1 c.2.2) Q
 |[],i,h,f,a=>by
  have:=drop_nil h f;have a:∀ob,Q (.dat i64<|Tc c) ob:=fun ob=>by
   have:=a ob;rwa [show I4 []=0 from rfl,wc<|fun x=>x rfl]at this
  refine zf (Al ..) (zh (w8 ae)<|Ml (m:=8) a fun _ o b=>?_);exact EA c e o b
 |p::r,i,h,f,a=>by
  obtain⟨k,g,n⟩:=drop_cons (d:=(([],[],[],[],[]):BQ)) h;have s:=Q3 e;have sp:=s.2.2.2.1 p (zn<|by rw[h];exact zj ..);have q:=s.1;have j:=wn (i:=i) ae;rw[Sj]at a;refine zf (Al ..) ?_;conv=>zeta
  rw[ze,g,j];refine zc (w4 ae) (zc (ad ae ae)<|zc sp<|zi (fun d=>zd ?_)<|fun d=>?_)
  ·have d:(Lb p !=0)=true:=d;have d:Lb p≠0:=by simpa using d
   rw[wd d,wd d]at a;exact a _
  ·have d:(Lb p !=0)=false:=d;have l:¬Lb p≠0:=by simpa using d
   rw[wc l]at a;exact Fv c e r (i+1) n k a
theorem okM:Af A8 16 AcX:=by
 refine BR qL<|fun(c:AL) a=>?_;have a:vZ c=true:=a;have d:∀ob,Ad AcX c (.dat i64<|N8 c) ob:=fun ob=>yt rfl rfl rfl
 refine yh (Aj c)<|Ml (m:=36) d fun _ _ b=>?_;exact Fv c a c.1 0 rfl (zx _) b
theorem ok:Af A8 16 cCo:=bQ okM fun _ h=>Ack h
end T16
end Go.Pe
namespace Go.Sp
theorem R2(p:A1)(l:List A1)(n m:Nat):IF (p::l) n m=((decide (p.1.length<=n)&&decide (p.2.length<=m))&&IF l n m):=by unfold IF;rw[yk]
end Go.Sp
namespace Go.Pe
open Sp
open Go.Det
open Go.Sp (AL BQ BM A1 ER BJ Cz q0 q1 n0 n1)
theorem Ww:CX FG:=fun g sp h=>by cases h
namespace T11
theorem EA(g b nx:BJ)(t w:List A1)(l:w.length<=20):∀(r:List A1) (i:Nat),w.drop i=r->i<=w.length->(∀ob,Q (.bl<|IF r 40 20) ob)->Ends FG (L2 (i:Int) g b nx t w) Q
 |[],i,h,f,a=>by
  have:=drop_nil h f;exact zf (AG ..) (zh (w8 ae)<|zd<|a _)
 |p::r,i,h,f,a=>by
  obtain⟨j,k,o⟩:=drop_cons (d:=(([],[]):A1)) h;have m:=wn (i:=i) ae;have e:=nb (i:=i) (n:=w.length) ae;rw[R2]at a;refine zf (AG ..) ?_;conv=>zeta
  rw[ze,k,m];refine zc (w4 ae)<|zc e<|zi (fun c=>zd ?_)<|fun c=>zc e<|zi (fun d=>zd ?_)<|fun d=>EA g b nx t w l r (i+1) o j ?_
  ·have c:=w6 c;rw[w8 ae,z6,z6]at a;exact a _
  ·have d:=w6 d;rw[w8 (p:=p.2.length<=20) ae,yw,z6]at a;exact a _
  ·have c:=w7 c;have d:=w7 d;rw[w4 (p:=p.1.length<=40) ae,w4 (p:=p.2.length<=20) ae,yq,yy]at a;exact a
theorem Fv(e b nx:BJ)(t w:List A1)(m:t.length<=70)(f:w.length<=20):∀(r:List A1) (i:Nat),t.drop i=r->i<=t.length->(∀ob,Q (.bl<|IF r 20 20&&IF w 40 20) ob)->Ends FG (L1 (i:Int) e b nx t w) Q
 |[],i,h,j,a=>by
  have:=drop_nil h j;have a:∀ob,Q (.bl<|IF w 40 20) ob:=a;exact zf (Al ..) (zh (w8 ae)<|EA e b nx t w f w 0 rfl (zx _) a)
 |p::r,i,h,j,a=>by
  obtain⟨k,l,q⟩:=drop_cons (d:=(([],[]):A1)) h;have o:=wn (i:=i) ae;have g:=nb (i:=i) (n:=t.length) ae;rw[R2]at a;refine zf (Al ..) ?_;conv=>zeta
  rw[ze,l,o];refine zc (w4 ae)<|zc g<|zi (fun c=>zd ?_)<|fun c=>zc g<|zi (fun d=>zd ?_)<|fun d=>Fv e b nx t w m f r (i+1) q k ?_
  ·have c:=w6 c;rw[w8 (p:=p.1.length<=20) ae,z6,z6,z6]at a;exact a _
  ·have d:=w6 d;rw[w8 (p:=p.2.length<=20) ae,yw,z6,z6]at a;exact a _
  ·have c:=w7 c;have d:=w7 d;rw[w4 (p:=p.1.length<=20) ae,w4 (p:=p.2.length<=20) ae,yq,yy]at a;exact a
theorem ok:Af A8 11 Zp:=by
 refine BR Ww<|fun(l:BM) _=>?_;have f:∀b ob,b=yn l->Ad Zp l (.bl b) ob:=fun b ob x=>yt rfl rfl x
 have no:∀ob,yn l=false->Ad Zp l (.bl false) ob:=fun ob h=>f _ ob h.symm
 refine yh (Aj l)<|zi (fun a=>zd<|no _ ?_)<|fun a=>zi (fun b=>zd<|no _ ?_)<|fun b=>zi (fun c=>zd<|no _ ?_)<|fun c=>zi (fun d=>zd<|no _ ?_)<|fun d=>zi (fun e=>zd<|no _ ?_)<|fun e=>?_;all_goals simp only[w5,w9]at*
 ·unfold yn;rw[w8 ae];rfl
 ·unfold yn;rw[w8 (p:=l.2.1.length<=20) ae];simp
 ·unfold yn;rw[w8 (p:=l.2.2.1.length<=20) ae];simp
 ·unfold yn;rw[w8 (p:=l.2.2.2.1.length<=70) ae];simp
 ·unfold yn;rw[w8 (p:=l.2.2.2.2.length<=20) ae];simp
 ·refine Fv _ _ _ _ _ ae ae _ 0 rfl (zx _) (fun ob=>f _ ob ?_);unfold yn;rw[w4 (p:=l.1.length<=40) ae,w4 (p:=l.2.1.length<=20) ae,w4 (p:=l.2.2.1.length<=20) ae,w4 (p:=l.2.2.2.1.length<=70) ae,w4 (p:=l.2.2.2.2.length<=20) ae];rfl
end T11
theorem oC:CX Rz:=Aa T11.ok AE
namespace T9
theorem Jc(S:List BQ)(b:List Cz)(V:List BM)(k:V.length<=10):∀(r:List BM) (i:Nat),V.drop i=r->i<=V.length->(∀ob,Q (.bl<|r.all yn) ob)->Ends Rz (L3 (i:Int) S b V) Q
 |[],i,h,e,a=>by
  have:=drop_nil h e;exact zf (BA ..) (zh (w8 ae)<|zd<|a _)
 |p::r,i,h,e,a=>by
  obtain⟨f,g,m⟩:=drop_cons (d:=(([],[],[],[],[]):BM)) h;have j:=wn (i:=i) ae;have l:=nb (i:=i) (n:=V.length) ae;rw[yk]at a;refine zf (BA ..) ?_;conv=>zeta
  rw[ze,g,j];refine zc (w4 ae)<|zc l<|zc rfl (zi (fun c=>zd ?_)<|fun c=>Jc S b V k r (i+1) m f ?_)
  ·have c:(!yn p)=true:=c;have c:yn p=false:=by simpa using c
   rw[c]at a;exact a _
  ·have c:(!yn p)=false:=c;have c:yn p=true:=by simpa using c
   rw[c]at a;exact a
theorem EA(S:List BQ)(b:List Cz)(V:List BM)(j:b.length<=10)(e:V.length<=10):∀(r:List Cz) (i:Nat),b.drop i=r->i<=b.length->(∀ob,Q (.bl<|r.all Sp.Ds&&V.all yn) ob)->Ends Rz (L2 (i:Int) S b V) Q
 |[],i,h,g,a=>by
  have:=drop_nil h g;have a:∀ob,Q (.bl<|V.all yn) ob:=a;exact zf (AG ..) (zh (w8 ae)<|Jc S b V e V 0 rfl (zx _) a)
 |p::r,i,h,g,a=>by
  obtain⟨k,l,n⟩:=drop_cons (d:=(([],[]):Cz)) h;have m:=wn (i:=i) ae;have f:(decide ((0:Int)<=(i:Int))&&decide ((i:Int)<(b.length:Int)))=true:=ad ae ae;rw[yk]at a;refine zf (AG ..) ?_;conv=>zeta
  rw[ze,l,m];have sh:Sp.Ds p=(decide (p.1.length<=40)&&decide (p.2.length<=40)):=rfl;refine zc (w4 ae)<|zc f<|zi (fun c=>zd ?_)<|fun c=>zc f<|zi (fun d=>zd ?_)<|fun d=>EA S b V j e r (i+1) n k ?_
  ·have c:=w6 c;rw[sh,w8 (p:=p.1.length<=40) ae]at a;exact a _
  ·have d:=w6 d;rw[sh,w8 (p:=p.2.length<=40) ae,yw]at a;exact a _
  ·have c:=w7 c;have d:=w7 d;rw[sh,w4 (p:=p.1.length<=40) ae,w4 (p:=p.2.length<=40) ae]at a;exact a
theorem Fv(S:List BQ)(g:List Cz)(V:List BM)(u:S.length<=38)(k:g.length<=10)(j:V.length<=10):∀(r:List BQ) (i:Nat),S.drop i=r->i<=S.length->(∀ob,Q (.bl<|r.all qf&&(g.all Sp.Ds&&V.all yn)) ob)->Ends Rz (L1 (i:Int) S g V) Q
 |[],i,h,l,f=>by
  have:=drop_nil h l;have f:∀ob,Q (.bl<|g.all Sp.Ds&&V.all yn) ob:=f;exact zf (Al ..) (zh (w8 ae)<|EA S g V k j g 0 rfl (zx _) f)
 |p::r,i,h,l,f=>by
  obtain⟨s,m,t⟩:=drop_cons (d:=(([],[],[],[],[]):BQ)) h;have o:=wn (i:=i) ae;have q:=nb (i:=i) (n:=S.length) ae;rw[yk]at f;refine zf (Al ..) ?_;conv=>zeta
  rw[ze,m,o];have no:qf p=false->∀ob,Q (.bl false) ob:=fun h=>by rw[h]at f;exact f
  refine zc (w4 ae)<|zc q<|zi (fun a=>zd<|no ?_ _)<|fun a=>zi (fun b=>zd<|no ?_ _)<|fun b=>zi (fun c=>zd<|no ?_ _)<|fun c=>zi (fun d=>zd<|no ?_ _)<|fun d=>zi (fun e=>zd<|no ?_ _)<|fun e=>Fv S g V u k j r (i+1) t s ?_
  ·have a:=w6 a;unfold qf;rw[w8 (p:=p.1.length<=20) ae];rfl
  ·have b:=w6 b;unfold qf;rw[w8 (p:=p.2.1.length<=20) ae];simp
  ·have c:=w6 c;unfold qf;rw[w8 (p:=p.2.2.1.length<=20) ae];simp
  ·have d:=w6 d;unfold qf;rw[w8 (p:=p.2.2.2.1.length<=20) ae];simp
  ·have e:=w6 e;unfold qf;rw[w8 (p:=p.2.2.2.2.length<=20) ae];simp
  ·have a:=w7 a;have b:=w7 b;have c:=w7 c;have d:=w7 d;have e:=w7 e;have y:qf p=true:=by
    unfold qf;rw[w4 (p:=p.1.length<=20) ae,w4 (p:=p.2.1.length<=20) ae,w4 (p:=p.2.2.1.length<=20) ae,w4 (p:=p.2.2.2.1.length<=20) ae,w4 (p:=p.2.2.2.2.length<=20) ae];rfl
   rw[y]at f;exact f
theorem ok:Af A8 9 rE:=by
 refine BR oC<|fun(c:AL) _=>?_;have e:∀b ob,b=Iy c->Ad rE c (.bl b) ob:=fun b ob x=>yt rfl rfl x
 have no:∀ob,Iy c=false->Ad rE c (.bl false) ob:=fun ob h=>e _ ob h.symm
 refine yh (Aj c)<|zi (fun a=>zd<|no _ ?_)<|fun a=>zi (fun b=>zd<|no _ ?_)<|fun b=>zi (fun d=>zd<|no _ ?_)<|fun d=>?_
 ·have a:=w6 a;unfold Iy;rw[w8 (p:=c.1.length<=38) ae];rfl
 ·have b:=w6 b;unfold Iy;rw[w8 (p:=c.2.1.length<=10) ae];simp
 ·have d:=w6 d;unfold Iy;rw[w8 (p:=c.2.2.length<=10) ae];simp
 ·have a:=w7 a;have b:=w7 b;have d:=w7 d;refine Fv _ _ _ ae ae ae _ 0 rfl (zx _) (fun ob=>e _ ob ?_);unfold Iy;rw[w4 (p:=c.1.length<=38) ae,w4 (p:=c.2.1.length<=10) ae,w4 (p:=c.2.2.length<=10) ae,yq,yq,yy,Bool.and_assoc];rfl
end T9
open Go.Sp (AL BQ BM A1 ER BJ Cz q0 q1 n0 n1)
theorem Aar{s:Sh}{sz id:Nat}{ob:Ob}{fz:Bool}{t:TypeId}{o:List s.T}(b:s.sz=sz)(a:AR ob id=some (.arr fz t s o)):B3 ⟨0,.leaf,ob,0⟩ (.sl id sz 0 o.length none)=some (true,.dat (.list s) o):=by
 subst b;unfold B3 AM.obj;simp only[a,Nat.beq_refl,we];simp
theorem Aba{b a nx:BJ}{t w:List A1}{n id:Nat}{ob:Ob}{fz:Bool}{ty:TypeId}(e:AR ob id=some (.arr fz ty B5 w))(h:n=w.length):EB ⟨0,.leaf,ob,0⟩ Bx (.agg [.dat .str b,.dat .str a,.dat .str nx,.dat (.list B5) t,.sl id 2 0 n none])=some (true,(b,a,nx,t,w)):=by
 subst h;have g:B3 ⟨0,.leaf,ob,0⟩ (.sl id 2 0 w.length none)=some (true,.dat (.list B5) w):=Aar (s:=B5) (sz:=2) rfl e;have f:Dl ⟨0,.leaf,ob,0⟩ (PV.cells<|.agg [.dat .str b,.dat .str a,.dat .str nx,.dat (.list B5) t,.sl id 2 0 w.length none])=some (true,[.dat .str b,.dat .str a,.dat .str nx,.dat (.list B5) t,.dat (.list B5) w]):=by
  show(match some (true,PV.dat Sh.str b),(match some (true,PV.dat Sh.str a),(match some (true,PV.dat Sh.str nx),(match some (true,PV.dat (.list B5) t),(match B3 ⟨0,.leaf,ob,0⟩ (.sl id 2 0 w.length none),some (true,[])with|some (c,x),some (d,xs)=>some (c&&d,x::xs)|_,_=>none)with|some (c,x),some (d,xs)=>some (c&&d,x::xs)|_,_=>none)with|some (c,x),some (d,xs)=>some (c&&d,x::xs)|_,_=>none)with|some (c,x),some (d,xs)=>some (c&&d,x::xs)|_,_=>none)with|some (c,x),some (d,xs)=>some (c&&d,x::xs)|_,_=>none)=_;rw[g];rfl
 unfold EB;rw[f];rfl
theorem Acg{a b nx:BJ}{t w:List A1}{n id:Nat}{ob:Ob}{fz:Bool}{ty:TypeId}(c:AR ob id=some (.arr fz ty B5 w))(d:n=w.length):Iw [Bx] (.agg [.dat .str a,.dat .str b,.dat .str nx,.dat (.list B5) t,.sl id 2 0 n none]) ob=some (true,(a,b,nx,t,w)):=Aba c d
theorem Ad4{n m:Nat}(h:n=m)(a:n<=4398046511104):(decide (1<=1)&&true&&decide (n=m)&&decide ((3*(n+1)+2000)*32<=562949953421312))=true:=Ab (Ab (Ab rfl rfl)<|w4 h) (w4 ae)
namespace T12
theorem EA(g c nx:BJ)(t w:List A1)(j q k:BJ)(x:w.length<=4398046511104):∀(r:List A1) (i n:Nat) (o:List A1),w.drop i=r->i<=w.length->n=o.length->o=w.take i->n=i->Ends FG (L2 (i:Int) o g c nx t n j q k g c nx t w) (Ad qJ (g,c,nx,t,w))
 |[],i,n,o,h,m,f,a,b=>by
  have e:=drop_nil h m;have a:o=w:=by rw[a,e,zk]
  subst a;exact zf (AG ..) (zh (w8 ae)<|zd<|yt (Acg rfl f) rfl rfl)
 |p::r,i,n,o,h,m,f,a,b=>by
  have t2:=Sp.Di h;obtain⟨v,s,y⟩:=drop_cons (d:=(([],[]):A1)) h;have u:=wn (i:=i) ae;have l:=nb (i:=i) (n:=w.length) ae;refine zf (AG ..) ?_;conv=>zeta
  rw[ze,s,u];refine zc (w4 ae) (zc l<|zc l<|zc (Ad4 f ae) ?_);exact EA g c nx t w j q k x r (i+1) (z8 n 1) (o++[p]) y v (by rw[zl,f];rfl) (by rw[t2,a]) (by rw[b])
theorem ok:Af A8 12 qJ:=by
 refine BR Ww<|fun(l:BM) hi=>?_;obtain⟨d,b,nx,t,w⟩:=l;have a:decide (w.length<=4398046511104)=true:=hi;have a:=w6 a;refine yh (Aj (d,b,nx,t,w)) ?_;conv=>zeta
 cases w with
 |nil=>exact zf (Al ..)<|zh rfl (zd<|yt rfl rfl rfl)
 |cons p r=>
  have f:zo .i64 ((0:Int)+1)=((1:Nat):Int):=rfl;have e:(p::r).getD (zz 0) ([],[])=p:=rfl;have c:(decide ((0:Int)<=(0:Int))&&decide ((0:Int)<((p::r).length:Int)))=true:=Ab rfl (w4<|by rw[zg];omega);refine zf (Al ..) ?_;conv=>zeta
  show Ends FG (.ite (decide ((0:Int)<((p::r).length:Int))) _ _) _;rw[e,f];refine zc (w4<|by rw[zg];omega) (zc c<|zc c<|zc (Ab (Ab rfl rfl)<|w4 ae) ?_);exact EA d b nx t (p::r) [] [] [] a r 1 1 [p] rfl (by rw[zg];omega) rfl rfl rfl
end T12
open Go.Sp (AL BQ BM A1 ER BJ Cz)
def CV(st:AM)(s:Sh)(v:PV)(l:List s.T):Prop:=∃x,B3 st v=some (true,x)/\(x=.dat (.list s) l\/x=.nil/\l=[])
theorem FO{st:AM}{s:Sh}:CV st s .nil []:=⟨.nil,rfl,.inr ⟨rfl,rfl⟩⟩
theorem ID{s:Sh}{sz id:Nat}{ob:Ob}{fz:Bool}{t:TypeId}{l:List s.T}(b:s.sz=sz)(a:AR ob id=some (.arr fz t s l)):CV ⟨0,.leaf,ob,0⟩ s (.sl id sz 0 l.length none) l:=⟨_,Aar b a,.inl rfl⟩
theorem Abo{ob:Ob}{a b d:PV}{S:List BQ}{e:List Cz}{V:List BM}(j:CV ⟨0,.leaf,ob,0⟩ BU a S)(k:CV ⟨0,.leaf,ob,0⟩ Ds b e)(h:CV ⟨0,.leaf,ob,0⟩ Bx d V):EB ⟨0,.leaf,ob,0⟩ Bn (.agg [a,b,d])=some (true,(S,e,V)):=by
 obtain⟨x,g,i⟩:=j;obtain⟨y,hy,cy⟩:=k;obtain⟨z,hz,cz⟩:=h;have f:Dl ⟨0,.leaf,ob,0⟩ (PV.cells<|.agg [a,b,d])=some (true,[x,y,z]):=by
  show(match B3 ⟨0,.leaf,ob,0⟩ a,(match B3 ⟨0,.leaf,ob,0⟩ b,(match B3 ⟨0,.leaf,ob,0⟩ d,some (true,[])with|some (c,x),some (d,xs)=>some (c&&d,x::xs)|_,_=>none)with|some (c,x),some (d,xs)=>some (c&&d,x::xs)|_,_=>none)with|some (c,x),some (d,xs)=>some (c&&d,x::xs)|_,_=>none)=_;rw[g,hy,hz];rfl
 unfold EB;rw[f];rcases i with rfl|⟨rfl,rfl⟩<;>rcases cy with rfl|⟨rfl,rfl⟩<;>rcases cz with rfl|⟨rfl,rfl⟩<;>rfl
theorem FB{ob:Ob}{a b d:PV}{c:AL}(e:CV ⟨0,.leaf,ob,0⟩ BU a c.1)(g:CV ⟨0,.leaf,ob,0⟩ Ds b c.2.1)(f:CV ⟨0,.leaf,ob,0⟩ Bx d c.2.2):Ad J8 c (.agg [a,b,d]) ob:=⟨c,Abo e g f,rfl⟩
theorem RL{n m k:Nat}(h:n=m)(a:(3*(n+1)+2000)*k<=562949953421312):(decide (1<=1)&&true&&decide (n=m)&&decide ((3*(n+1)+2000)*k<=562949953421312))=true:=Ab (Ab (Ab rfl rfl)<|w4 h)<|w4 a
theorem RK{k:Nat}(a:k<=100):(decide (1<=1)&&decide (0<1)&&decide ((3*1+2000)*k<=562949953421312))=true:=Ab (Ab rfl rfl) (w4<|Nat.le_trans (Nat.mul_le_mul_left _ a) af)
structure UN(c:AL):Prop where
 s:c.1.length<=1599289640401
 t:c.2.1.length<=3518437208883
 l:c.2.2.length<=1466015503701
 so:∀x∈c.1,x.2.2.2.2.length<=5864062014805
 lo:∀x∈c.2.2,fJ x=true
theorem AbJ{c:AL}(h:zN c=true):UN c:=by
 unfold zN at h;rw[zm,zm,zm,zm,w5,w5,w5,zw,zw]at h;obtain⟨⟨⟨⟨b,a⟩,g⟩,e⟩,d⟩:=h;exact⟨b,a,g,fun x f=>w6<|e x f,d⟩
theorem CO{i n:Nat}(h:i<n):(decide ((0:Int)<=(i:Int))&&decide ((i:Int)<(n:Int)))=true:=ad ae ae
theorem qS{i:Nat}(h:i<=4611686018427387904):zo .i64 ((i:Int)+1)=((i+1:Nat):Int):=by rw[wr _ ae ae];omega
theorem iM:CX B1:=Aa T12.ok AE
namespace T10
theorem Adw(c:AL)(g:UN c)(q:c.1=[])(j:c.2.1=[]):∀(r:List BM) (i n:Nat) (o:List BM),c.2.2.drop i=r->i<=c.2.2.length->n=o.length->o=c.2.2.take i->n=i->Ends B1 (L12 c (i:Int) o n) (Ad J8 c)
 |[],i,n,o,h,m,f,b,a=>by
  have e:=drop_nil h m;have b:o=c.2.2:=by rw[b,e,zk]
  subst b;subst f;exact zf (fY ..) (zh (w8 ae)<|zd (FB (by rw[q];exact FO) (by rw[j];exact FO)<|ID rfl rfl))
 |p::r,i,n,o,h,m,f,b,a=>by
  have t2:=Di h;obtain⟨k,s,u⟩:=drop_cons (d:=(([],[],[],[],[]):BM)) h;have t:=g.lo p (zn<|by rw[h];exact zj ..);have v:=g.l;refine zf (fY ..) ?_;conv=>zeta
  rw[ze,s,qS ae];refine zc (w4 ae) (zc (CO k)<|zc t<|zc (RL f ae) ?_);exact Adw c g q j r (i+1) (z8 n 1) (o++[p]) u k (by rw[zl,f];rfl) (by rw[t2,b]) (by rw[a])
theorem Aft(c:AL)(a:UN c)(e:c.1=[])(b:c.2.1=[]):Ends B1 (L8 c 0) (Ad J8 c):=by
 have h:=a.l;cases hr:c.2.2 with
 |nil=>exact zf (Ho ..) (zh (by rw[hr];rfl) (zd<|FB (by rw[e];exact FO) (by rw[b];exact FO)<|by rw[hr];exact FO))
 |cons p r=>
  have d:0<c.2.2.length:=by rw[hr,zg];omega
  have f:c.2.2.getD (zz 0) ([],[],[],[],[])=p:=by rw[hr];rfl
  have g:=a.lo p (by rw[hr];exact zj ..);refine zf (Ho ..) ?_;conv=>zeta
  rw[f,show zo .i64 ((0:Int)+1)=((1:Nat):Int)from rfl];refine zc (w4 ae) (zc (CO (i:=0) d)<|zc g<|zc (RK af) ?_);exact Adw c a e b r 1 1 [p] (by rw[hr];rfl) d rfl (by rw[hr];rfl) rfl
theorem AdD(c:AL)(g:UN c)(m:c.1=[]):∀(r:List BM) (i n:Nat) (o:List BM),c.2.2.drop i=r->i<=c.2.2.length->n=o.length->o=c.2.2.take i->n=i->Ends B1 (L16 c (i:Int) o c.2.1 c.2.1.length n) (Ad J8 c)
 |[],i,n,o,h,k,f,b,a=>by
  have e:=drop_nil h k;have b:o=c.2.2:=by rw[b,e,zk]
  subst b;subst f;exact zf (qR ..) (zh (w8 ae)<|zd (FB (by rw[m];exact FO) (ID rfl rfl)<|ID rfl rfl))
 |p::r,i,n,o,h,k,f,b,a=>by
  have t2:=Di h;obtain⟨j,q,t⟩:=drop_cons (d:=(([],[],[],[],[]):BM)) h;have s:=g.lo p (zn (by rw[h];exact zj ..));have u:=g.l;refine zf (qR ..) ?_;conv=>zeta
  rw[ze,q,qS ae];refine zc (w4 ae) (zc (CO j) (zc s<|zc (RL f ae) ?_));exact AdD c g m r (i+1) (z8 n 1) (o++[p]) t j (by rw[zl,f];rfl) (by rw[t2,b]) (by rw[a])
theorem AeX(c:AL)(a:UN c)(d:c.1=[]):Ends B1 (L11 c 0 c.2.1 c.2.1.length) (Ad J8 c):=by
 have g:=a.l;cases hr:c.2.2 with
 |nil=>exact zf (jP ..) (zh (by rw[hr];rfl) (zd<|FB (by rw[d];exact FO) (ID rfl rfl) (by rw[hr];exact FO)))
 |cons p r=>
  have b:0<c.2.2.length:=by rw[hr,zg];omega
  have e:c.2.2.getD (zz 0) ([],[],[],[],[])=p:=by rw[hr];rfl
  have f:=a.lo p (by rw[hr];exact zj ..);refine zf (jP ..) ?_;conv=>zeta
  rw[e,show zo .i64 ((0:Int)+1)=((1:Nat):Int)from rfl];refine zc (w4 ae) (zc (CO (i:=0) b)<|zc f<|zc (RK af) ?_);exact AdD c a d r 1 1 [p] (by rw[hr];rfl) b rfl (by rw[hr];rfl) rfl
theorem AdC(c:AL)(g:UN c)(j:c.2.1=[]):∀(r:List BM) (i n:Nat) (o:List BM),c.2.2.drop i=r->i<=c.2.2.length->n=o.length->o=c.2.2.take i->n=i->Ends B1 (L18 c (i:Int) o c.1 c.1.length n) (Ad J8 c)
 |[],i,n,o,h,m,f,b,a=>by
  have e:=drop_nil h m;have b:o=c.2.2:=by rw[b,e,zk]
  subst b;subst f;exact zf (oM ..) (zh (w8 ae)<|zd (FB (ID rfl rfl) (by rw[j];exact FO)<|ID rfl rfl))
 |p::r,i,n,o,h,m,f,b,a=>by
  have t2:=Di h;obtain⟨k,q,t⟩:=drop_cons (d:=(([],[],[],[],[]):BM)) h;have s:=g.lo p (zn<|by rw[h];exact zj ..);have u:=g.l;refine zf (oM ..) ?_;conv=>zeta
  rw[ze,q,qS ae];refine zc (w4 ae) (zc (CO k) (zc s<|zc (RL f ae) ?_));exact AdC c g j r (i+1) (z8 n 1) (o++[p]) t k (by rw[zl,f];rfl) (by rw[t2,b]) (by rw[a])
theorem AfA(c:AL)(a:UN c)(b:c.2.1=[]):Ends B1 (L15 c 0 c.1 c.1.length) (Ad J8 c):=by
 have g:=a.l;cases hr:c.2.2 with
 |nil=>exact zf (nH ..) (zh (by rw[hr];rfl) (zd<|FB (ID rfl rfl) (by rw[b];exact FO) (by rw[hr];exact FO)))
 |cons p r=>
  have d:0<c.2.2.length:=by rw[hr,zg];omega
  have e:c.2.2.getD (zz 0) ([],[],[],[],[])=p:=by rw[hr];rfl
  have f:=a.lo p (by rw[hr];exact zj ..);refine zf (nH ..) ?_;conv=>zeta
  rw[e,show zo .i64 ((0:Int)+1)=((1:Nat):Int)from rfl];refine zc (w4 ae) (zc (CO (i:=0) d) (zc f<|zc (RK af) ?_));exact AdC c a b r 1 1 [p] (by rw[hr];rfl) d rfl (by rw[hr];rfl) rfl
theorem Ade(c:AL)(g:UN c):∀(r:List BM) (i n:Nat) (o:List BM),c.2.2.drop i=r->i<=c.2.2.length->n=o.length->o=c.2.2.take i->n=i->Ends B1 (L19 c (i:Int) o c.2.1 c.1 c.1.length c.2.1.length n) (Ad J8 c)
 |[],i,n,o,h,k,f,b,a=>by
  have e:=drop_nil h k;have b:o=c.2.2:=by rw[b,e,zk]
  subst b;subst f;exact zf (qK ..) (zh (w8 ae)<|zd<|FB (ID rfl rfl) (ID rfl rfl)<|ID rfl rfl)
 |p::r,i,n,o,h,k,f,b,a=>by
  have t2:=Di h;obtain⟨j,m,s⟩:=drop_cons (d:=(([],[],[],[],[]):BM)) h;have q:=g.lo p (zn<|by rw[h];exact zj ..);have t:=g.l;refine zf (qK ..) ?_;conv=>zeta
  rw[ze,m,qS ae];refine zc (w4 ae) (zc (CO j) (zc q<|zc (RL f ae) ?_));exact Ade c g r (i+1) (z8 n 1) (o++[p]) s j (by rw[zl,f];rfl) (by rw[t2,b]) (by rw[a])
theorem AeQ(c:AL)(a:UN c):Ends B1 (L17 c 0 c.2.1 c.1 c.1.length c.2.1.length) (Ad J8 c):=by
 have f:=a.l;cases hr:c.2.2 with
 |nil=>exact zf (iK ..) (zh (by rw[hr];rfl) (zd<|FB (ID rfl rfl) (ID rfl rfl) (by rw[hr];exact FO)))
 |cons p r=>
  have b:0<c.2.2.length:=by rw[hr,zg];omega
  have d:c.2.2.getD (zz 0) ([],[],[],[],[])=p:=by rw[hr];rfl
  have e:=a.lo p (by rw[hr];exact zj ..);refine zf (iK ..) ?_;conv=>zeta
  rw[d,show zo .i64 ((0:Int)+1)=((1:Nat):Int)from rfl];refine zc (w4 ae) (zc (CO (i:=0) b) (zc e<|zc (RK af) ?_));exact Ade c a r 1 1 [p] (by rw[hr];rfl) b rfl (by rw[hr];rfl) rfl
theorem te6(c:AL)(j:UN c)(l:c.1=[]):∀(r:List Cz) (i n:Nat) (o:List Cz),c.2.1.drop i=r->i<=c.2.1.length->n=o.length->o=c.2.1.take i->n=i->Ends B1 (L7 c (i:Int) o n) (Ad J8 c)
 |[],i,n,o,h,k,f,b,a=>by
  have e:=drop_nil h k;have b:o=c.2.1:=by rw[b,e,zk]
  subst b;subst f;exact zf (D5 ..) (zh (w8 ae)<|AeX c j l)
 |p::r,i,n,o,h,k,f,b,a=>by
  have t2:=Di h;obtain⟨g,m,q⟩:=drop_cons (d:=(([],[]):Cz)) h;have s:=j.t;refine zf (D5 ..) ?_;conv=>zeta
  rw[ze,m,qS ae];refine zc (w4 ae) (zc (CO g)<|zc (CO g) (zc (RL f ae) ?_));exact te6 c j l r (i+1) (z8 n 1) (o++[p]) q g (by rw[zl,f];rfl) (by rw[t2,b]) (by rw[a])
theorem ts6(c:AL)(a:UN c)(d:c.1=[]):Ends B1 (L4 c 0) (Ad J8 c):=by
 have f:=a.t;cases hr:c.2.1 with
 |nil=>exact zf (Ci ..) (zh (by rw[hr];rfl)<|Aft c a d hr)
 |cons p r=>
  have b:0<c.2.1.length:=by rw[hr,zg];omega
  have e:c.2.1.getD (zz 0) ([],[])=p:=by rw[hr];rfl
  refine zf (Ci ..) ?_;conv=>zeta
  rw[e,show zo .i64 ((0:Int)+1)=((1:Nat):Int)from rfl];refine zc (w4 ae) (zc (CO (i:=0) b) (zc (CO (i:=0) b)<|zc (RK af) ?_));exact te6 c a d r 1 1 [p] (by rw[hr];rfl) b rfl (by rw[hr];rfl) rfl
theorem AdH(c:AL)(j:UN c):∀(r:List Cz) (i n:Nat) (o:List Cz),c.2.1.drop i=r->i<=c.2.1.length->n=o.length->o=c.2.1.take i->n=i->Ends B1 (L14 c (i:Int) o c.1 c.1.length n) (Ad J8 c)
 |[],i,n,o,h,k,f,b,a=>by
  have e:=drop_nil h k;have b:o=c.2.1:=by rw[b,e,zk]
  subst b;subst f;exact zf (jD ..) (zh (w8 ae)<|AeQ c j)
 |p::r,i,n,o,h,k,f,b,a=>by
  have t2:=Di h;obtain⟨g,l,m⟩:=drop_cons (d:=(([],[]):Cz)) h;have q:=j.t;refine zf (jD ..) ?_;conv=>zeta
  rw[ze,l,qS ae];refine zc (w4 ae) (zc (CO g)<|zc (CO g)<|zc (RL f ae) ?_);exact AdH c j r (i+1) (z8 n 1) (o++[p]) m g (by rw[zl,f];rfl) (by rw[t2,b]) (by rw[a])
theorem Ae9(c:AL)(a:UN c):Ends B1 (L10 c 0 c.1 c.1.length) (Ad J8 c):=by
 have e:=a.t;cases hr:c.2.1 with
 |nil=>exact zf (Tt ..) (zh (by rw[hr];rfl)<|AfA c a hr)
 |cons p r=>
  have b:0<c.2.1.length:=by rw[hr,zg];omega
  have d:c.2.1.getD (zz 0) ([],[])=p:=by rw[hr];rfl
  refine zf (Tt ..) ?_;conv=>zeta
  rw[d,show zo .i64 ((0:Int)+1)=((1:Nat):Int)from rfl];refine zc (w4 ae) (zc (CO (i:=0) b) (zc (CO (i:=0) b)<|zc (RK af) ?_));exact AdH c a r 1 1 [p] (by rw[hr];rfl) b rfl (by rw[hr];rfl) rfl
theorem AdV(c:AL)(t:UN c)(i n:Nat)(o:List BQ)(p:BQ)(a:i<c.1.length)(l:c.1.getD i ([],[],[],[],[])=p)(w:n=o.length)(u:n=i)(K:Ends B1 (L6 c ((i+1:Nat):Int) (o++[p])<|z8 n 1) Q):∀(r:List ER) (j k:Nat) (q:List ER),p.2.2.2.2.drop j=r->j<=p.2.2.2.2.length->k=q.length->q=p.2.2.2.2.take j->k=j->Ends B1 (L13 c (i:Int) (j:Int) q o p.1 p.2.1 p.2.2.1 p.2.2.2.1 k n) Q
 |[],j,k,q,h,x,m,f,g=>by
  have e:=drop_nil h x;have f:q=p.2.2.2.2:=by rw[f,e,zk]
  have y:=t.s;subst f;subst m;refine zf (kB ..) ?_;conv=>zeta
  rw[ze,ze,l,zk,qS (i:=i) ae];refine zc (CO a) (zh (w8 ae) (zc (Ab (w4 ae) rfl)<|zc (RL w ae) ?_));exact K
 |b::r,j,k,q,h,x,m,f,g=>by
  have t2:=Di h;obtain⟨v,z,A⟩:=drop_cons (d:=(([],0):ER)) h;have y:=t.s;have B:=t.so p (by rw[<-l];exact GY a);refine zf (kB ..) ?_;conv=>zeta
  rw[ze,ze,l,z,qS (i:=j) ae];refine zc (CO a) (zc (w4 ae) (zc (CO a)<|zc (CO v) (zc (CO a) (zc (CO v)<|zc (RL m ae) ?_))));exact AdV c t i n o p a l w u K r (j+1) (z8 k 1) (q++[b]) A v (by rw[zl,m];rfl) (by rw[t2,f]) (by rw[g])
theorem in8(c:AL)(h:UN c)(i n:Nat)(o:List BQ)(p:BQ)(a:i<c.1.length)(e:c.1.getD i ([],[],[],[],[])=p)(g:n=o.length)(d:n=i)(K:Ends B1 (L6 c ((i+1:Nat):Int) (o++[p])<|z8 n 1) Q):Ends B1 (L9 c (i:Int) 0 o p.1 p.2.1 p.2.2.1 p.2.2.2.1 n) Q:=by
 have t:=h.s;obtain⟨j,q,k,m,l⟩:=p;refine zf (lX ..) ?_;conv=>zeta
 rw[ze,e,qS (i:=i) ae];cases l with
 |nil=>
  refine zc (CO a) (zh rfl (zc (RL g ae) ?_));exact K
 |cons b r=>
  have f:0<(b::r).length:=by rw[zg];omega
  refine zc (CO a) (zc (w4<|by rw[zg];omega) (zc (CO a)<|zc (CO (i:=0) f)<|zc (CO a)<|zc (CO (i:=0) f)<|zc (RK af) ?_));exact AdV c h i n o (j,q,k,m,b::r) a e g d K r 1 1 [b] rfl (by show 1<=(b::r).length;omega) rfl rfl rfl
theorem si5(c:AL)(j:UN c):∀(r:List BQ) (i n:Nat) (o:List BQ),c.1.drop i=r->i<=c.1.length->n=o.length->o=c.1.take i->n=i->Ends B1 (L6 c (i:Int) o n) (Ad J8 c)
 |[],i,n,o,h,l,g,f,a=>by
  have e:=drop_nil h l;have f:o=c.1:=by rw[f,e,zk]
  subst f;subst g;exact zf (EX ..) (zh (w8 ae)<|Ae9 c j)
 |p::r,i,n,o,h,l,g,f,a=>by
  have t2:=Di h;obtain⟨b,k,q⟩:=drop_cons (d:=(([],[],[],[],[]):BQ)) h;have K:=si5 c j r (i+1) (z8 n 1) (o++[p]) q b (by rw[zl,g];rfl) (by rw[t2,f]) (by rw[a]);have m:=in8 c j i n o p b k g a K;refine zf (EX ..) ?_;conv=>zeta
  rw[ze,k];exact zc (w4 ae)<|zc (CO b)<|zc (CO b)<|zc (CO b)<|zc (CO b) m
theorem in4(c:AL)(o:UN c)(p:BQ)(a:0<c.1.length)(l:c.1.getD 0 ([],[],[],[],[])=p)(K:Ends B1 (L6 c ((1:Nat):Int) [p] 1) Q):∀(r:List ER) (j k:Nat) (q:List ER),p.2.2.2.2.drop j=r->j<=p.2.2.2.2.length->k=q.length->q=p.2.2.2.2.take j->k=j->Ends B1 (L5 c 0 (j:Int) q p.1 p.2.1 p.2.2.1 p.2.2.2.1 k) Q
 |[],j,k,q,h,s,m,f,g=>by
  have e:=drop_nil h s;have f:q=p.2.2.2.2:=by rw[f,e,zk]
  subst f;subst m;refine zf (EO ..) ?_;conv=>zeta
  rw[show zz 0=0 from rfl,ze,l,zk,show zo .i64 ((0:Int)+1)=((1:Nat):Int)from rfl];refine zc (CO (i:=0) a) (zh (w8 ae) (zc (Ab (w4 ae) rfl) (zc (RK af) ?_)));exact K
 |b::r,j,k,q,h,s,m,f,g=>by
  have t2:=Di h;obtain⟨n,t,u⟩:=drop_cons (d:=(([],0):ER)) h;have v:=o.so p (by rw[<-l];exact GY a);refine zf (EO ..) ?_;conv=>zeta
  rw[show zz 0=0 from rfl,ze,l,t,qS (i:=j) ae];refine zc (CO (i:=0) a) (zc (w4 ae)<|zc (CO (i:=0) a) (zc (CO n)<|zc (CO (i:=0) a)<|zc (CO n)<|zc (RL m ae) ?_));exact in4 c o p a l K r (j+1) (z8 k 1) (q++[b]) u n (by rw[zl,m];rfl) (by rw[t2,f]) (by rw[g])
theorem in2(c:AL)(f:UN c)(p:BQ)(a:0<c.1.length)(d:c.1.getD 0 ([],[],[],[],[])=p)(K:Ends B1 (L6 c ((1:Nat):Int) [p] 1) Q):Ends B1 (L3 c 0 0 p.1 p.2.1 p.2.2.1 p.2.2.2.1) Q:=by
 obtain⟨g,k,h,j,l⟩:=p;refine zf (BA ..) ?_;conv=>zeta
 rw[show zz 0=0 from rfl,d,show zo .i64 ((0:Int)+1)=((1:Nat):Int)from rfl];cases l with
 |nil=>
  refine zc (CO (i:=0) a) (zh rfl (zc (RK af) ?_));exact K
 |cons b r=>
  have e:0<(b::r).length:=by rw[zg];omega
  refine zc (CO (i:=0) a) (zc (w4<|by rw[zg];omega) (zc (CO (i:=0) a) (zc (CO (i:=0) e)<|zc (CO (i:=0) a)<|zc (CO (i:=0) e)<|zc (RK af) ?_)));exact in4 c f (g,k,h,j,b::r) a d K r 1 1 [b] rfl (by show 1<=(b::r).length;omega) rfl rfl rfl
theorem ok:Af A8 10 J8:=by
 refine BR iM<|fun(c:AL) hi=>?_;have b:=AbJ hi;refine yh (Aj c)<|zf (Al ..) ?_;cases hr:c.1 with
 |nil=>exact zf (AG ..) (zh (by rw[hr];rfl)<|ts6 c b hr)
 |cons p r=>
  have a:0<c.1.length:=by rw[hr,zg];omega
  have d:c.1.getD 0 ([],[],[],[],[])=p:=by rw[hr];rfl
  have k:=in2 c b p a d (si5 c b r 1 1 [p] (by rw[hr];rfl) a rfl (by rw[hr];rfl) rfl);refine zf (AG ..) ?_;conv=>zeta
  rw[show zz 0=0 from rfl,d];exact zc (w4 ae)<|zc (CO (i:=0) a)<|zc (CO (i:=0) a)<|zc (CO (i:=0) a)<|zc (CO (i:=0) a) k
end T10
open Go.Sp (AL)
theorem T21.ok:Af A8 21 zT:=by
 refine GP (X:=FG) rfl (fun g sp h=>by cases h) (d:=9) ag ag ag (fun(i:Int×Int) _=>?_) (Bd ag);obtain⟨i,n⟩:=i;refine yh (T21.Aj i n)<|zi (fun c=>zd<|yt rfl rfl ?_)<|fun c=>zd<|yt rfl rfl ?_
 ·show true=KP i n;unfold KP;rw[c];rfl
 ·show decide (n<=i)=KP i n;unfold KP;rw[c];rfl
theorem T20.ok:Af A8 20 G1:=by
 refine GP (X:=FG) rfl (fun g sp h=>by cases h) (d:=9) ag ag ag (fun(i:Bool×Int) _=>?_) (Bd ag);obtain⟨b,e⟩:=i;refine yh (T20.Aj b e) ?_;conv=>zeta
 cases b
 ·exact zh rfl (zd<|yt rfl rfl rfl)
 ·exact zc rfl (zd<|yt rfl rfl rfl)
theorem nR{c:AL}(k:N8 c≠0)(b:Bool):Kd c b=N8 c:=by
 unfold Kd;rw[wd k]
theorem Vv{c:AL}(k:N8 c=0):Kd c true=10:=by
 unfold Kd;rw[wc<|fun x=>x k];rfl
theorem zG{c:AL}(k:N8 c=0):Kd c false=0:=by
 unfold Kd;rw[wc<|fun x=>x k];rfl
theorem nD:CX TM:=Aa oR<|Aa T10.ok<|Aa T9.ok<|Aa T27.ok<|Aa T28.ok<|Aa T16.ok<|Aa T22.ok<|Aa T21.ok<|Aa T20.ok<|Aa T29.ok<|Aa T30.ok AE
abbrev Mq:Am:=Qm
namespace T5
theorem bad{c:AL}{t h l e:Int}(a:e≠0)(hp:HD c h l=e)(d:KU c t h l=e)(b:∀ob,Q (.dat .bool true) ob):Ends TM (L2 c (t,h,l) c (fF c h l) (Of c h l) (YN c t h l) (Z8 c t h l) e) Q:=by
 have t1:EV (fF c h l) (Of c h l) [] e=true:=by
  unfold fF Of;rw[hp];exact QI a _ _
 have t3:EV (YN c t h l) (Z8 c t h l) [] e=true:=by
  unfold YN Z8;rw[d];exact QI a _ _
 refine zf (AG ..) (zc (by simpa using a)<|zc rfl (zc t1<|zc rfl (zd ?_)));rw[t3];exact b _
theorem Ae2{c:AL}{t h l:Int}(sh:Iy c=true)(k:N8 c=0)(f:Q1 c h=false)(g:N7 c l=false)(b:∀ob,Q (.dat .bool true) ob):Ends TM (L2 c (t,h,l) c (fF c h l) (Of c h l) (YN c t h l) (Z8 c t h l) 0) Q:=by
 have e:HD c h l=0:=by unfold HD;rw[f,g];exact zG k
 have ko:Sp.okO c h l=true:=Ab sh<|w4 e;have t1:EV (fF c h l) (Of c h l) (Sp.obR c h l) 0=true:=by
  unfold fF Of Sp.obR;rw[e];exact Y9 _
 refine zf (AG ..) (zh rfl (zc ko<|zc (w4<|Qp (Pk ko).z af)<|zh (by rw[t1];rfl)<|zc rfl (zi (fun x=>?_)<|fun x=>?_)))
 ·have x:eI c t=true:=x;have a:KU c t h l=10:=by unfold KU;rw[x];exact Vv k
  have t3:EV (YN c t h l) (Z8 c t h l) [] 10=true:=by
   unfold YN Z8;rw[a];exact QI af _ _
  refine zc rfl (zd ?_);rw[t3];exact b _
 ·have x:eI c t=false:=x;have a:KU c t h l=0:=by unfold KU;rw[x,f,g];exact zG k
  have d:Yw c t h l=true:=Ab sh<|w4 a;have t3:EV (YN c t h l) (Z8 c t h l) (Sp.hoR c t h l) 0=true:=by
   unfold YN Z8 Sp.hoR;rw[a];exact Y9 _
  refine zc d (zc (w4<|Qp (zS d).z af)<|zd ?_);rw[t3];exact b _
theorem ok:Af A8 5 Mq:=by
 refine BR nD<|fun(i:AL×Int×Int×Int) f=>?_;obtain⟨c,t,h,l⟩:=i;have f:zN c=true:=f;have d:∀ob,Ad Qm (c,(t,h,l)) (.dat .bool true) ob:=fun ob=>yt rfl rfl rfl
 refine yh (Aj c (t,h,l))<|zc f<|zf (Al ..)<|zc rfl (zh rfl (zc rfl (zi (fun _=>zc rfl (zd<|d _))<|fun s=>?_)));have s:Iy c=true:=by
  have s:(!Iy c)=false:=s;simpa using s
 refine zc s<|zc s<|zc s<|zi (fun k=>?_)<|fun k=>?_
 ·have k:N8 c=0:=by simpa using k
  refine zc rfl (zi (fun a=>zc rfl ?_)<|fun a=>zc rfl (zc rfl ?_))
  ·have a:Q1 c h=true:=a;exact bad af (by unfold HD;rw[a];exact Vv k) (by unfold KU;rw[a,yb,yo];exact Vv k) d
  ·have a:Q1 c h=false:=a;by_cases b:N7 c l=true
   ·have e:Cq (N7 c l) 10=10:=by rw[b];rfl
    show Ends TM (L2 c (t,h,l) c (fF c h l) (Of c h l) (YN c t h l) (Z8 c t h l)<|Cq (N7 c l) 10) _;rw[e];exact bad af (by unfold HD;rw[a,b];exact Vv k) (by unfold KU;rw[a,b,yo,yo];exact Vv k) d
   ·have b:N7 c l=false:=by simpa using b
    have e:Cq (N7 c l) 10=0:=by rw[b];rfl
    show Ends TM (L2 c (t,h,l) c (fF c h l) (Of c h l) (YN c t h l) (Z8 c t h l)<|Cq (N7 c l) 10) _;rw[e];exact Ae2 s k a b d
 ·have k:N8 c≠0:=by simpa using k
  exact bad k (nR k _) (nR k _) d
end T5
end Go.Pe
namespace Go.Det
open Go.ChangeShapes Go.WideShapes Go.RowKit
theorem Cm{α k:Type}{f g:α->Option k}:∀ {l:List α} {c:List k},l.mapM f=some c->(∀a∈l,∀y∈c,f a=some y->g a=some y)->l.mapM g=some c
 |[],c,h,_=>by simpa using h
 |a::l,c,h,j=>by
  rw[List.mapM_cons]at h ⊢;cases e:f a with
  |none=>rw[e]at h;cases h
  |some y=>
   rw[e]at h;cases i:l.mapM f with
   |none=>rw[i]at h;cases h
   |some o=>
    rw[i]at h;cases h;rw[j a (by simp) y (by simp) e,Cm i<|fun b n z m d=>j b (by simp[n]) z (by simp[m]) d];rfl
def hI(P:Program)(L:List TypeId)(t:TypeId):Bool:=match P.underlying t with
 |some (.pointer e)|some (.array _ e)|some (.map _ e)=>L.contains e
 |some (.slice e)=>L.contains e&&Nat.ble 1 (P.cellsOf e)
 |some (.struct fs)=>fs.toList.all fun f=>L.contains f.type
 |_=>true
def LF(P:Program)(L:List TypeId):Bool:=L.all<|hI P L
section
variable {H:Type}{enc:TypeId×Value->H}{P:Program}{W W':World}
theorem uQ{L:List TypeId}(h:LF P L=true){t:TypeId}(a:t∈L):hI P L t=true:=zw.1 h t a
theorem W9(d:Below W.heap.size W W'){a:Addr}{v:Value}(h:W.cell? a=some v):W'.cell? a=some v:=by
 have b:a.block<W.heap.size:=by
  unfold yx at h;by_cases c:a.block<W.heap.size
  ·exact c
  ·rw[ya ae]at h;cases h
 unfold yx at h ⊢;rw[d.block _ b];exact h
theorem U3(c:Below W.heap.size W W'){a:Addr}{n:Nat}{cs:List Value}(h:W.cells? 0 a n=some cs):W'.cells? 0 a n=some cs:=by
 unfold World.cells? at h ⊢;rw[wd<|zx _]at h ⊢;exact Cm h fun i _ v _ b=>W9 c b
theorem HG(e:Below W.heap.size W W'){d:Type}{a:Addr}{n:Nat}{f g:List Value->Option d}{y:d}(h:(W.cells? 0 a n).bind f=some y)(c:∀cs,f cs=some y->g cs=some y):(W'.cells? 0 a n).bind g=some y:=by
 cases b:W.cells? 0 a n with
 |none=>rw[b]at h;cases h
 |some cs=>
  rw[b]at h;rw[U3 e b];exact c cs h
theorem PB(C:Below W.heap.size W W'){L:List TypeId}(N:LF P L=true){sp:Nat->Bool}:∀(fuel:Nat) (t:TypeId) (cs:List Value) (x:DataW H×List MemPlace),t∈L->
  zr enc P W 0 (fun _=>true) true fuel t cs=some x->(∀p∈x.2,sp p.block=true)->zr enc P W' 0 sp true fuel t cs=some x
 |0,_,_,_,_,h,_=>by cases h
 |fuel+1,t,cs,x,T,h,v=>by
  have A:=PB C N (sp:=sp) fuel;have l:=uQ N T;unfold hI at l;unfold zr at h ⊢;split at h<;>try simp only[reduceCtorEq]at h
  all_goals try exact h
  case h_6 e a r=>
   have c:e∈L:=by rw[r]at l;simpa using l
   cases G:(W.cells? 0 a<|P.cellsOf e).bind (zr enc P W 0 (fun _=>true) true fuel e)with
   |none=>rw[G]at h;cases h
   |some y=>
    rw[G]at h;cases h;rw[HG C G (g:=zr enc P W' 0 sp true fuel e)<|fun cs o=>A e cs y c o<|fun p hp=>v p<|by simp[hp]];rfl
  case h_8 e a len cap r=>
   have c:e∈L/\P.cellsOf e≠0:=by
    rw[r]at l;simp only[zm,List.contains_iff_mem]at l;have:=Nat.le_of_ble_eq_true l.2;exact⟨l.1,by omega⟩
   by_cases o:0<=a.block/\len<=cap/\cap<=maxLen
   ·rw[wd o]at h ⊢;have step:∀(i:Nat) (y:DataW H×List MemPlace),(W.cells? 0 (a.add<|i*P.cellsOf e)<|P.cellsOf e).bind (zr enc P W 0 (fun _=>true) true fuel e)=some y->(∀p∈y.2,sp p.block=true)->
      (W'.cells? 0 (a.add<|i*P.cellsOf e)<|P.cellsOf e).bind (zr enc P W' 0 sp true fuel e)=some y:=fun i y q hp=>HG C q fun cs o=>A e cs y c.1 o hp
    cases m:(y8 len).mapM (fun i=>(W.cells? 0 (a.add<|i*P.cellsOf e)<|P.cellsOf e).bind<|zr enc P W 0 (fun _=>true) true fuel e)with
    |none=>rw[m]at h;cases h
    |some B=>
     rw[m]at h;simp only[wk,z7]at h;cases F:(y8<|cap-len).mapM (fun j=>(W.cells? 0 (a.add<|(len+j)*P.cellsOf e)<|P.cellsOf e).bind<|zr enc P W 0 (fun _=>true) true fuel e)with
     |none=>rw[F]at h;cases h
     |some D=>
      rw[F]at h;cases h;rw[Cm m fun i _ y q V=>step i y V fun p hp=>v p<|yj _<|yc.2 ⟨y,List.mem_append_left _ q,hp⟩];have J:=Cm F fun j _ y q Y=>step (len+j) y Y fun p hp=>v p<|yj _<|yc.2 ⟨y,yj _ q,hp⟩
      by_cases s:sp a.block=true
      ·simp only[s,wk,z7];rw[J];rfl
      ·have R:(B.length+D.length)*P.cellsOf e=0:=by
        rcases Nat.eq_zero_or_pos ((B.length+D.length)*P.cellsOf e)with h0|h0
        ·exact h0
        ·refine wh (v (.cell a.block<|a.off+0)<|List.mem_append_left _ ?_) s;simp only[MemPlace.row,qd,List.mem_range];exact⟨0,h0,rfl⟩
       have S:D=[]:=by
        rcases Nat.mul_eq_zero.1 R with h0|h0
        ·exact yu.1 ae
        ·exact wh h0 c.2
       subst S;simp only[s,z7];rfl
   ·rw[wc o]at h;cases h
  case h_9 cs _ _ fs r=>
   have c:∀f∈fs.toList,f.type∈L:=by
    rw[r]at l;intro f d;have:=zw.1 l f d;simpa using this
   by_cases o:cs.length=P.cellsOf t
   ·rw[wd o]at h ⊢;cases m:fs.toList.mapM (fun f=>zr enc P W 0 (fun _=>true) true fuel f.type<|(cs.drop f.offset).take<|P.cellsOf f.type)with
    |none=>rw[m]at h;cases h
    |some B=>
     rw[m]at h;cases h;rw[Cm m fun f K y q d=>A _ _ y (c f K) d fun p hp=>v p<|yc.2 ⟨y,q,hp⟩];rfl
   ·rw[wc o]at h;cases h
  case h_10 cs _ _ n e r=>
   have c:e∈L:=by rw[r]at l;simpa using l
   by_cases o:cs.length=P.cellsOf t
   ·rw[wd o]at h ⊢;cases m:(y8 n).mapM (fun i=>zr enc P W 0 (fun _=>true) true fuel e<|(cs.drop<|i*P.cellsOf e).take<|P.cellsOf e)with
    |none=>rw[m]at h;cases h
    |some B=>
     rw[m]at h;cases h;rw[Cm m fun f _ y q d=>A _ _ y c d fun p hp=>v p<|yc.2 ⟨y,q,hp⟩];rfl
   ·rw[wc o]at h;cases h
  case h_14 k e b r=>
   have c:e∈L:=by rw[r]at l;simpa using l
   have O:b<W.heap.size:=by
    by_cases U:b<W.heap.size
    ·exact U
    ·rw[ya ae]at h;cases h
   rw[C.block _ O];split at h
   case h_2=>cases h
   rename_i es clock X;simp only;split at h
   case isFalse=>cases h
   rename_i w;rw[wd w];cases m:(es.toList.mapM fun x=>(keyOf P k x.key).bind fun key=>if x.val.formed P e then(zr enc P W 0 (fun _=>true) true fuel e x.val.cells.toList).map fun y=>((key,y.1),y.2)else none)with
   |none=>rw[m]at h;cases h
   |some B=>
    rw[m]at h;simp only[z7]at h;split at h
    case isFalse=>cases h
    rename_i E;cases h;rw[Cm m fun M _ y q d=>?_]
    ·simp only[z7];rw[wd E]
    ·cases l:keyOf P k M.key with
     |none=>rw[l]at d;cases d
     |some key=>
      rw[l]at d;simp only[z7]at d ⊢;split at d
      case isFalse=>cases d
      rename_i I;rw[wd I];cases z:zr enc P W 0 (fun _=>true) true fuel e M.val.cells.toList with
      |none=>rw[z]at d;cases d
      |some u=>
       rw[z]at d;cases d;rw[A _ _ u c z fun p hp=>v p<|by simp only[yd,yc];exact .inr ⟨_,q,hp⟩];rfl
theorem XK(g:Below W.heap.size W W'){L:List TypeId}(c:LF P L=true){sp:Nat->Bool}{t:TypeId}{v:Value}{d:DataW H}{p:List MemPlace}
  (e:t∈L) (h:y9 enc P W 0 (fun _=>true) true t v d p) (f:∀q∈p,sp q.block=true):y9 enc P W' 0 sp true t v d p:=by
 obtain⟨a,b⟩:=h;exact⟨a,PB g c a t _ _ e b f⟩
theorem G9(i:Below W.heap.size W W'){L:List TypeId}(g:LF P L=true){sp:Nat->Bool}:∀ {ts:List TypeId} {vs:List Value} {ds:List (DataW H)} {p:List MemPlace},(∀t∈ts,t∈L)->
  ym enc P W 0 (fun _=>true) true ts vs ds p->(∀q∈p,sp q.block=true)->ym enc P W' 0 sp true ts vs ds p
 |[],vs,ds,p,_,h,_=>by
  obtain⟨rfl,rfl,rfl⟩:=trodAll_nil h;rfl
 |t::ts,vs,ds,p,f,h,e=>by
  obtain⟨v,l,d,n,a,b,rfl,rfl,rfl,j,k⟩:=trodAll_cons h;exact⟨a,b,XK i g (f t<|by simp) j (fun q c=>e q<|by simp[c]),G9 i g (fun u m=>f u<|by simp[m]) k (fun q c=>e q (by simp[c])),rfl⟩
theorem bN{f:Func}{s:ChangeSpec}{apart fresh d i:Bool}{args:Array Value}{ds G:List (DataW H)}{e:List MemPlace}{tb:TypeId}
  (hW:DataW.Whole enc P f.params.toList s.vars apart W args.toList ds G e) (B:s.vars=[]) (hr:f.resultTypes= #[tb]) (w:P.underlying tb=some .bool)
  (a:s.fn H ds={ results:=[.lit<|.bool true],args:=ds }) (v:Below W.heap.size W W') {L:List TypeId} (E:LF P L=true) (u:f.params.toList.all L.contains=true):
  s.post enc P f apart fresh d i W args (.bool true) W':=by
 have k:=hW.lt;have u:∀t∈f.params.toList,t∈L:=fun t w=>by have:=zw.1 u t w;simpa using this
 obtain⟨p,q,z,C,rfl,h,l⟩:=hW;have o:=C;rw[B]at o;obtain⟨rfl,rfl⟩:=trodVars_none o;simp only[List.append_nil]at k h l ⊢;have n:∀x∈p,(fun b=>decide (b<W.heap.size)) x.block=true:=fun x m=>by simpa using k x m
 have A:DataW.Whole enc P f.params.toList s.vars apart W args.toList ds [] p:=⟨p,[],z,C,by simp,h,l⟩;have g:∀(b:Nat) (sp:Nat->Bool) (D:Bool),ym enc P W' b sp D f.resultTypes.toList ((Value.bool true).resultList f.resultTypes.size) [.lit<|.bool true] []:=by
  intro b sp D;rw[hr];exact⟨[],[],shut_bool w true,rfl,rfl⟩
 have y:∀(j:Nat) (t:TypeId) (r:Value),f.resultTypes[j]?=some t->((Value.bool true).resultList f.resultTypes.size)[j]?=some r->yi P W' .any 0 t r:=by
  exact ok_one hr rfl (okWide_bool_mk w true)
 have c:∀sp:Nat->Bool,DataW.TrodVars enc P W' sp s.vars [] []:=fun sp=>by rw[B];rfl
 have a:s.fn H (ds++[])={ results:=[.lit<|.bool true],args:=ds }:=by rw[List.append_nil];exact a
 refine⟨ds,[],p,[],p,[],A,?_,?_,?_,World.keptBut_mono (fun x m=>⟨m,.inr<|.inl m⟩) (v.frame (· ∈p)),fun _=>?_⟩
 ·rw[a];exact g _ _ _
 ·rw[a];exact G9 v E u z n
 ·rw[a];exact c _
 ·refine⟨y,_,_,([]++p)++[],⟨[]++p,[],trodAll_append (G9 v E u z<|fun _ _=>rfl)<|g _ _ _,c _,rfl,?_,?_⟩,?_⟩
  ·intro b off hp;have hp:MemPlace.cell b off∈p:=by simpa using hp
   rw[v.frozen<|show b<W.heap.size from k _ hp];exact h b off hp
  ·intro F;simpa using l F
  ·intro x m _;simpa using m
end
def ON(k:Nat):Value->V
 | .bool b=>.bool b
 | .int q n=>.int q n
 | .string s=>.str s.data.toList
 | .pointer none=>.nilp
 | .slice none 0 0=>.nils
 | .slice (some _) 0 0=>.es0
 | .slice (some ⟨r,off,none⟩) len cap=>if r<k/\len<=cap then .sl r off len cap 0 else .junk
 | .map none=>.nilm
 | .nilFunc=>.nilf
 | .nilIface=>.nili
 |_=>.junk
def bC(W:World)(r:Nat):Nat:=match W.heap[r]? with
 |some (.cells c _ _)=>c.size
 |_=>0
def pW(W:World):Pl:=(y8 W.heap.size).map fun r=>(r,bC W r)
theorem Nd{W:World}{r:Nat}(h:r<W.heap.size):(pW W)[r]?=some (r,bC W r):=by
 simp[pW,h]
def PY(W:World)(r:Nat):Option O:=match W.heap[r]? with
 |some (.cells c t _)=>if c.size=0 then none else some<|.cells (c.toList.map<|ON W.heap.size) t (0,c.size)
 |_=>none
def cD(W:World):Nat->H
 |0=>⟨.leaf,0⟩
 |n+1=>⟨(cD W n).m.set n<|PY W n,n+1⟩
theorem wD(W:World):∀n,(cD W n).nx=n
 |0=>rfl
 |_+1=>rfl
theorem VX(W:World):∀(n b:Nat),(cD W n).get b=if b<n then PY W b else none
 |0,b=>by simp[cD,H.get]
 |n+1,b=>by
  have a:=VX W n b;unfold H.get at a ⊢;simp only[cD,PM.Dq];by_cases e:b=n
  ·subst e;simp
  ·rw[wc e,a];by_cases h:b<n
   ·rw[wd h,wd ae]
   ·rw[wc h,wc ae]
def hW(W:World):H:=cD W W.heap.size
theorem PZ(W:World)(b:Nat):(hW W).get b=PY W b:=by
 unfold hW;rw[VX];by_cases h:b<W.heap.size
 ·rw[wd h]
 ·rw[wc h];unfold PY;rw[ya ae]
theorem Uz{W:World}{v:Value}(h:(ON W.heap.size v).ok=true):Ac (pW W) (ON W.heap.size v) v:=by
 revert h;unfold ON;split<;>intro h
 case h_6=>simp only[Ac];exact⟨_,rfl⟩
 case h_7 r off len cap _=>
  split
  ·rename_i a;simp only[Ac];exact⟨r,_,cap,Nd a.1,rfl,a.2,Nat.le_refl _,fun _=>rfl,fun e=>wh rfl e⟩
  ·rename_i a;rw[wc a]at h;cases h
 case h_11=>cases h
 all_goals simp only[Ac]
 all_goals rfl
theorem R_W(W:World):R (pW W) (hW W) W:=by
 refine⟨by simp[pW,hW,wD],fun b o a=>?_,fun b b' o o' r n n' a j f p=>?_⟩
 ·rw[PZ]at a;unfold PY at a;split at a
  case h_2=>cases a
  rename_i c t fz m;split at a
  case isTrue=>cases a
  cases a;have e:b<W.heap.size:=(zq.1 m).1;have q:bC W b=c.size:=by unfold bC;rw[m]
  refine⟨b,c.size,_,by rw[Nd e,q],m,c,fz,rfl,rfl,by simp,⟨by simp,fun i d v k l g=>?_⟩,fun i s f p=>⟨zx _,s⟩⟩;rw[List.getElem?_map]at k;rw[List.length_map,yr (by have:=(List.getElem?_eq_some_iff.1 l).1;simp at this;simpa using this)]at l;rw[l]at k;cases k;exact Uz g
 ·have key:∀b o r n,(hW W).get b=some o->(pW W)[b]?=some (r,n)->r=b:=by
   intro b o r n a f;rw[PZ]at a;have e:b<W.heap.size:=by
    unfold PY at a;by_cases h:b<W.heap.size
    ·exact h
    ·rw[ya ae]at a;cases a
   rw[Nd e]at f;cases f;rfl
  rw[<-key b o r n a f, <-key b' o' r n' j p]
theorem tU{W W':World}{p':Pl}{h':H}(d:Ext (pW W) (hW W) W p' h' W'):RowKit.Below W.heap.size W W':=by
 refine⟨d.os,d.tape,d.out,d.size,fun k h=>?_⟩;by_cases l:Im (pW W) (hW W) k
 ·obtain⟨b,o,n,i,f⟩:=l;have a:=i;rw[PZ]at a;unfold PY at a;split at a
  case h_2=>cases a
  rename_i c t fz j;split at a
  case isTrue=>cases a
  rename_i h0;cases a;have e:b<W.heap.size:=(zq.1 j).1;have g:bC W b=c.size:=by unfold bC;rw[j]
  rw[Nd e,g]at f;cases f;exact(d.lock _ h ⟨_,_,_,_,_,i,by rw[Nd e,g],rfl,Nat.le_refl _,Nat.pos_of_ne_zero h0⟩).1
 ·exact d.same k h l
end Go.Det
namespace Go.Pe
open Go.Det
def FW(W:World):Fz:=fun b=>match (hW W).get b with
 |some (.cells cs _ _)=>some cs
 |_=>none
def Wj:(s:Sh)->s.T->Prop
 | .int k,x=>k.min<=(x:Int)/\(x:Int)<=k.max
 | .bool,_=>True
 | .str,x=>(x:Z).length<=maxLen
 | .list s,l=>(l:List s.T).length<=maxLen/\∀x∈(l:List s.T),Wj s x
 | .pair a b,x=>Wj a x.1/\Wj b x.2
 | .unit,_=>True
 | .nlist _,_=>True
 | .fnv,_=>True
 | .ptr _,_=>True
def kI(P:Program)(f:TypeId->Option Sh):Nat->List Field->Option Sh
 |_,[]=>some .unit
 |o,[x]=>match f x.type with
  |some s=>bif yg x.offset o&&yg (P.cellsOf x.type) s.sz then some s else none
  |none=>none
 |o,x::y::l=>match f x.type with
  |some s=>bif yg x.offset o&&yg (P.cellsOf x.type) s.sz then(kI P f (o+s.sz) (y::l)).map (.pair s)else none
  |none=>none
def shP(P:Program):Nat->TypeId->Option Sh
 |0,_=>none
 |f+1,t=>match P.underlying t with
  |some (.int k)=>some<|.int k
  |some .bool=>some .bool
  |some .string=>some .str
  |some (.slice e)=>match shP P f e with
   |some s=>bif yg (P.cellsOf e) s.sz&&Nat.blt 0 s.sz then some (.list s)else none
   |none=>none
  |some (.struct fs)=>match kI P (shP P f) 0 fs.toList with
   |some s=>bif yg (P.cellsOf t) s.sz then some s else none
   |none=>none
  |_=>none
section
variable {H:Type}{enc:TypeId×Value->H}{P:Program}{W:World}
theorem fS{r:Nat}{c:Array Value}{t:TypeId}{fz:Nat×Nat}(h:W.heap[r]?=some (.cells c t fz))(h0:c.size≠0):FW W r=some (c.toList.map<|ON W.heap.size):=by
 unfold FW;rw[PZ];unfold PY;rw[h];simp only[wc h0]
theorem R3{a:Addr}{n:Nat}{cs:List Value}(h:W.cells? 0 a n=some cs)(q:0<n):
  ∃c t fz,W.heap[a.block]?=some (.cells c t fz)/\a.spot=none/\a.off+n<=c.size/\cs=(c.toList.drop a.off).take n:=by
 unfold World.cells? at h;rw[wd<|zx _]at h;have p:=mapM_some_length h;have l:=mapM_some_get h;simp only[List.length_range]at p;have h0:=l 0 0 (by simp[q]);have k:a.add 0=a:=by simp[qe]
 rw[k]at h0;obtain⟨v0,j⟩:∃v,cs[0]?=some v:=⟨cs[0],zu ae⟩;rw[j]at h0;unfold yx at h0;split at h0
 case h_2=>cases h0
 rename_i c t fz m;split at h0
 case isTrue=>cases h0
 rename_i b;have b:a.spot=none:=by simpa using b
 have o:∀i,i<n->c[a.off+i]?=cs[i]?:=by
  intro i d;have:=l i i (by simp[d]);unfold yx at this;have e:(a.add i).block=a.block:=by unfold qe;split<;>rfl
  have f:(a.add i).spot=none:=by unfold qe;split<;>simp[b]
  have g:(a.add i).off=a.off+i:=by unfold qe;split<;>simp_all
  rw[e,m]at this;simpa [f,g]using this
 refine⟨c,t,fz,m,b,?_,?_⟩
 ·have:=o (n-1) ae;rw[zu ae]at this;have:=(zq.1 this).1;omega
 ·apply List.ext_getElem?;intro i;by_cases d:i<n
  ·rw[<-o i d,yr d,List.getElem?_drop];simp
  ·rw[List.getElem?_eq_none ae,List.getElem?_eq_none<|by simp;omega]
theorem Zu{α:Type}{p:Nat->α->Prop}:∀n:Nat,(∀i,i<n->∃x,p i x)->∃l:List α,l.length=n/\∀i (h:i<l.length),p i l[i]
 |0,_=>⟨[],rfl,fun i h=>wh h<|Nat.not_lt_zero _⟩
 |n+1,h=>by
  obtain⟨l,b,c⟩:=Zu n fun i a=>h i ae
  obtain⟨x,d⟩:=h n ae;refine⟨l++[x],by simp[b],fun i a=>?_⟩;by_cases e:i<l.length
  ·rw[List.getElem_append_left e];exact c i e
  ·have:i=n:=by simp at a;omega
   subst this;rw[List.getElem_append_right ae];simpa [b]using d
end
open Go.Det Go.RowKit
section
open Go.Proofs.Tryz (prog)
theorem lL{F':Fz}{v:V}(h:PC F' (.dat .bool true) v):v=.bool true:=by
 have:=h (fun _=>none) 0;simp only[PR,DC]at this;simpa using this
def GW(W:World):Prop:=∀x∈GB,PY W x.1=some x.2
theorem GW.h{W:World}(h:GW W):Gh (hW W):=fun x a=>by rw[PZ];exact h x a
theorem GW.p{W:World}(h:GW W):Gp (pW W):=fun x f=>by
 have a:=h x f;unfold PY at a;split at a
 case h_2=>cases a
 rename_i c t fz e;split at a
 case isTrue=>cases a
 have d:x.1<W.heap.size:=(zq.1 e).1;have g:bC W x.1=c.size:=by unfold bC;rw[e]
 rw[Nd d,g];cases b:x.2 with
 |cells cs i fz'=>rw[b]at a;cases a;simp[osz]
 |_=>rw[b]at a;cases a
theorem QF{f:FuncId}{sp:Am}(ok:Af A8 f sp)(i:(BB sp.ins).T)(c:sp.pre i=true){args:List V}{args':Array Value}{W:World}(d:GW W)(q:M0 (FW W) (Ae sp.ins i) args)
  (n:Ax (pW W) args args'.toList) (a:∀F' v,PC F' (one<|Ae sp.outs<|sp.f i) v->v=.bool true) (hp:A8.prim f=none:=by kernel_rfl):
  Calls prog f args' W fun e W'=>e=.returned (.bool true)/\Below W.heap.size W W':=by
 obtain⟨l,M,s,_,k⟩:=(ok.zero hp).run (FW W) (hW W) args i (fun b cs h=>by
  unfold FW at h;split at h
  case h_2=>cases h
  rename_i cs' t fz j;cases h;exact⟨t,fz,j⟩) (fun b o h=>(R_W W).lt h) d.h q c
 refine((Jp Acj bZ Tk M).fn f args (hW W) l (s M<|Nat.le_refl _) (pW W) W args' (R_W W) d.p n).mono ?_;rintro e w' ⟨v,h',v',p',r,rfl,g,m⟩;obtain⟨_,_,_,F',_,_,_,hr⟩:=k _ r;obtain rfl:=a F' v hr;refine⟨?_,tU m⟩;simp only[Ac]at g;rw[g]
end
open Go.Det Go.RowKit Go.ChangeShapes
def Ry(k:Nat):Value->V
 | .agg cs=>.agg<|cs.toList.map<|ON k
 |v=>ON k v
def lI(P:Program)(k:Nat)(t:TypeId):Option Sh:=
 match shP P k t with
 |some s=>match P.underlying t with
  |some (.struct _)=>bif s.Rt then some s else none
  |some (.int _)|some .bool|some .string|some (.slice _)=>bif s.Rt then none else some s
  |_=>none
 |none=>none
def S4(P:Program)(k:Nat):List TypeId->Option (List Sh)
 |[]=>some []
 |t::ts=>match lI P k t,S4 P k ts with
  |some s,some a=>some (s::a)
  |_,_=>none
def wfL:(l:List Sh)->(BB l).T->Prop
 |[],_=>True
 |[a],x=>Wj a x
 |a::b::l,x=>Wj a x.1/\wfL (b::l) x.2
section
variable {H:Type}{enc:TypeId×Value->H}{P:Program}{W:World}{base:Nat}
theorem qG{t:TypeId}{v:Value}(a:(∃k,P.underlying t=some (.int k))\/P.underlying t=some .bool\/P.underlying t=some .string\/∃e,P.underlying t=some (.slice e))(h:yi P W .any base t v):v.cells.toList=[v]/\∀cs,v≠ .agg cs:=by
 rcases a with⟨k,a⟩|a|a|⟨e,a⟩<;>
 (simp only[yi,a]at h
  unfold Cell.okWide at h;simp only[a]at h;unfold Cell.ok at h;simp only[a]at h;cases v<;>first|(exact⟨rfl,fun _ e=>by cases e⟩)|(exfalso;exact h))
theorem I9:∀ {ts:List TypeId} {args:List Value} {ds:List (DataW H)} {p:List MemPlace},ym enc P W 0 (fun _=>true) true ts args ds p->ds.length=ts.length
 |[],_,_,_,h=>by obtain⟨_,rfl,_⟩:=trodAll_nil h;rfl
 |t::ts,_,_,_,h=>by
  obtain⟨v0,a,d,b,p0,q0,rfl,rfl,rfl,h0,c⟩:=trodAll_cons h;simp[I9 c]
theorem AdI{α:Type}{l:List α}(h:l.length=2):∃a b,l=[a,b]:=by
 match l,h with
 |[a,b],_=>exact⟨a,b,rfl⟩
end
def xH:Sh->Nat
 | .str=>16
 | .list _=>24
 | .pair a b=>xH a+xH b
 | .unit=>0
 |_=>8
def Wt{H:Type}(P:Program)(t:TypeId)(d:DataW H):Prop:=∀n∈ye P t d,n<=reachBytes
def Un(P:Program):Nat->TypeId->Bool
 |0,_=>false
 |f+1,t=>match P.underlying t with
  |some (.slice e)=>Un P f e&&(match shP P f e with|some s=>yg (P.bytesOf e) (xH s)|none=>false)
  |some (.struct fs)=>fs.toList.all fun x=>Un P f x.type
  |_=>true
def RM:(s:Sh)->s.T->Prop
 | .list s,l=>(l:List s.T).length*xH s<=reachBytes/\∀x∈(l:List s.T),RM s x
 | .pair a b,x=>RM a x.1/\RM b x.2
 |_,_=>True
def Aa2:(l:List Sh)->(BB l).T->Prop
 |[],_=>True
 |[a],x=>RM a x
 |a::b::l,x=>RM a x.1/\Aa2 (b::l) x.2
section
variable {H:Type}{enc:TypeId×Value->H}{P:Program}{W:World}{base:Nat}
theorem AbB{e:TypeId}{n:Nat}:∀ {l:List (DataW H)} {d:DataW H},d∈l->n∈ye P e d->n∈DataW.weightsAll P e l
 |x::l,d,a,b=>by
  rw[DataW.weightsAll,zy];rcases yd.1 a with rfl|a
  ·exact .inl b
  ·exact .inr<|AbB a b
theorem yP{n:Nat}:∀ {ts:List TypeId} {l:List (DataW H)} {i:Nat} {t:TypeId} {d:DataW H},ts[i]?=some t->l[i]?=some d->n∈ye P t d->n∈zp P ts l
 |u::ts,x::l,0,t,d,a,b,c=>by
  cases a;cases b;rw[zp,zy];exact .inl c
 |u::ts,x::l,i+1,t,d,a,b,c=>by
  rw[zp,zy];exact .inr (yP (i:=i) (by simpa using a) (by simpa using b) c)
 |[],_,_,_,_,a,_,_=>by simp at a
 |_::_,[],_,_,_,_,b,_=>by simp at b
theorem AdS{n:Nat}:∀ {ts b:List TypeId} {ds es:List (DataW H)},ts.length=ds.length->n∈zp P ts ds->n∈zp P (ts++b) (ds++es)
 |t::ts,b,d::ds,es,h,a=>by
  rw[zp,zy]at a;rw[List.cons_append,List.cons_append,zp,zy];exact a.imp id fun x=>AdS (by simpa using h) x
 |[],_,_,_,_,a=>by simp[zp]at a
 |_::_,_,[],_,h,_=>by simp at h
theorem AbU{t e:TypeId}{el sp:List (DataW H)}(a:P.underlying t=some (.slice e))(h:Wt P t (.slice el sp)):(el.length+sp.length)*P.bytesOf e<=reachBytes:=by
 refine h _ ?_;rw[ye,a];exact zj ..
theorem Aav{t e:TypeId}{el sp:List (DataW H)}{d:DataW H}(b:P.underlying t=some (.slice e))(h:Wt P t (.slice el sp))(c:d∈el\/d∈sp):Wt P e d:=fun n a=>by
 refine h n ?_;rw[ye,b];refine List.mem_cons_of_mem _<|zy.2 ?_;exact c.imp (fun x=>AbB x a)<|fun x=>AbB x a
theorem rM{t:TypeId}{fs:Array Field}{l:List (DataW H)}{i:Nat}{f:Field}{d:DataW H}(a:P.underlying t=some (.struct fs))(h:Wt P t (.agg l))(b:fs[i]?=some f)(c:l[i]?=some d):Wt P f.type d:=fun n e=>by
 refine h n ?_;rw[ye,a];exact yP (i:=i) (t:=f.type) (by simp[b]) c e
theorem Pj{G:TypeId->DataW H->Prop}{f:TypeId->Option Sh}{n:Nat}{cs:List Value}
  (k:∀(t:TypeId) (s:Sh) (cs:List Value) (y:DataW H×List MemPlace),f t=some s->zr enc P W 0 (fun _=>true) true n t cs=some y->G t y.1->∃x:s.T,DC (FW W) s x (cs.map<|ON W.heap.size)/\Wj s x/\RM s x):
  ∀(fs:List Field) (o:Nat) (s:Sh),kI P f o fs=some s->(∀x∈fs,∃z,zr enc P W 0 (fun _=>true) true n x.type ((cs.drop x.offset).take<|P.cellsOf x.type)=some z/\G x.type z.1)->
   ∃x:s.T,DC (FW W) s x (((cs.map<|ON W.heap.size).drop o).take s.sz)/\Wj s x/\RM s x
 |[],o,s,c,_=>by
  cases c;exact⟨(),by simp[DC,Sh.sz],trivial,trivial⟩
 |[x],o,s,c,j=>by
  unfold kI at c;split at c
  case h_2=>cases c
  rename_i i e;cases d:(yg x.offset o&&yg (P.cellsOf x.type) i.sz)with
  |false=>rw[d]at c;cases c
  |true=>
  rw[d]at c;cases c;simp only[zm]at d;obtain⟨z,h,g⟩:=j x (by simp);rw[zt d.1,zt d.2]at h;have:=k _ _ _ _ e h g;simpa [yz,y7]using this
 |x::x'::l,o,s,c,j=>by
  unfold kI at c;split at c
  case h_2=>cases c
  rename_i i e;cases d:(yg x.offset o&&yg (P.cellsOf x.type) i.sz)with
  |false=>rw[d]at c;cases c
  |true=>
  rw[d]at c;simp only[we,Option.map_eq_some_iff]at c;obtain⟨s2,m,rfl⟩:=c;simp only[zm]at d;obtain⟨z,h,g⟩:=j x (by simp);rw[zt d.1,zt d.2]at h;obtain⟨a,a1,a2,a3⟩:=k _ _ _ _ e h g;obtain⟨b,b1,b2,b3⟩:=Pj k (x'::l) (o+i.sz) s2 m<|fun u p=>j u<|List.mem_cons_of_mem _ p;refine⟨(a,b),?_,⟨a2,b2⟩,a3,b3⟩;simp only[DC];refine⟨_,_,?_,a1,b1⟩;rw[yz,y7, <-List.drop_drop];exact List.take_add
theorem Pr:∀(k D:Nat) (t:TypeId) (s:Sh) (cs:List Value) (y:DataW H×List MemPlace),shP P k t=some s->zr enc P W 0 (fun _=>true) true D t cs=some y->Un P k t=true->Wt P t y.1->
  ∃x:s.T,DC (FW W) s x (cs.map<|ON W.heap.size)/\Wj s x/\RM s x
 |0,_,_,_,_,_,j,_,_,_=>by cases j
 |k+1,D,t,s,cs,y,j,h,C,u=>by
  have ih:=Pr k;unfold shP at j;split at j
  case h_1 q o=>
   cases j;obtain⟨n,rfl,_,N⟩:=DataW.trod_int o h;exact⟨(n:Int),by simp[DC,ON],by simpa [Wj,Lit.wf]using N,trivial⟩
  case h_2 o=>
   cases j;obtain⟨b,rfl,_⟩:=DataW.trod_bool o h;exact⟨b,by simp[DC,ON],trivial,trivial⟩
  case h_3 o=>
   cases j;obtain⟨b,rfl,_,N⟩:=DataW.trod_string o h;exact⟨b.data.toList,by simp[DC,ON],by show b.data.toList.length<=maxLen;rw[Array.length_toList];exact N,trivial⟩
  case h_4 e o=>
   split at j
   case h_2=>cases j
   rename_i g A;cases B:(yg (P.cellsOf e) g.sz&&Nat.blt 0 g.sz)with
   |false=>rw[B]at j;cases j
   |true=>
   rw[B]at j;cases j;simp only[zm]at B;have O:=zt B.1;have R:=Nat.le_of_ble_eq_true B.2;rcases DataW.trod_slice o h with⟨rfl,_⟩|⟨a,len,cap,F,S,n,rfl,rfl,Y,_,U,hcm,hel,he,hr,_⟩
   ·exact⟨[],by simp[DC,ON],by simp[Wj],by simp[RM]⟩
   ·obtain⟨hrl,hr⟩:=hr rfl;rw[Y]at u;have u:Wt P t (.slice (F.map (·.1)) (S.map (·.1))):=u;unfold Un at C;rw[o]at C;simp only[A,zm]at C;obtain⟨C,J⟩:=C;have J:=zt J;rw[O]at he hr;by_cases h0:cap=0
    ·obtain rfl:len=0:=ae
     subst h0;exact⟨[],by simp[DC,ON],by simp[Wj],by simp[RM]⟩
    ·
     have all:∀i,i<cap->∃K z,W.cells? 0 (a.add<|i*g.sz) g.sz=some K/\zr enc P W 0 (fun _=>true) true n e K=some z/\Wt P e z.1:=by
      intro i r;by_cases hl:i<len
      ·have m:=he i hl;rw[zu ae]at m;rw[yv]at m;obtain⟨K,v,w⟩:=m;exact⟨K,_,v,w,Aav o u<|.inl<|qd.2 ⟨_,List.getElem_mem _,rfl⟩⟩
      ·have m:=hr (i-len) ae;rw[show len+(i-len)=i by omega,zu ae]at m;rw[yv]at m;obtain⟨K,v,w⟩:=m;exact⟨K,_,v,w,Aav o u<|.inr<|qd.2 ⟨_,List.getElem_mem _,rfl⟩⟩
     obtain⟨c0,z0,g0,_,_⟩:=all 0 ae;rw[Nat.zero_mul,show a.add 0=a from by simp[qe]]at g0;obtain⟨c,tc,fz,hb,hsp,hoff,_⟩:=R3 g0 R;have I:a.block<W.heap.size:=(zq.1 hb).1;have hF:=fS hb ae;obtain⟨ab,ao,ax⟩:=a;simp only at hsp hb hoff I hF;subst hsp;have E:∀i,i<cap->ao+i*g.sz+g.sz<=c.size/\∃x:g.T,DC (FW W) g x (((c.toList.map<|ON W.heap.size).drop<|ao+i*g.sz).take g.sz)/\Wj g x/\RM g x:=by
      intro i r;obtain⟨K,z,m,v,hz⟩:=all i r;rw[Addr.H2]at m;obtain⟨c',tc',fz',hb',_,ho',rfl⟩:=R3 m ae;simp only at hb' ho';rw[hb]at hb';cases hb';refine⟨ho',?_⟩;have:=ih _ _ _ _ _ A v C hz;simpa [yz,y7]using this
     obtain⟨l,V,M⟩:=Zu (p:=fun i (x:g.T)=>DC (FW W) g x (((c.toList.map<|ON W.heap.size).drop<|ao+i*g.sz).take g.sz)/\Wj g x/\RM g x) len fun i r=>(E i ae).2
     refine⟨l,?_,?_,?_⟩
     ·simp only[DC];refine⟨.sl ab ao len cap 0,?_,.inr ⟨ab,ao,cap,0,_,by rw[V],by omega,hF,?_,.inl rfl,fun i r=>(M i r).1⟩⟩
      ·have:(Value.slice (some ⟨ab,ao,none⟩) len cap)=.slice (some ⟨ab,ao,none⟩) len cap:=rfl;have hne:¬(len=0/\cap=0):=fun h=>h0 h.2
       cases cap with
       |zero=>exact wh rfl h0
       |succ cap=>simp[ON,I,U]
      ·rw[V];have:=(E (cap-1) ae).1;have v:len*g.sz<=cap*g.sz:=Nat.mul_le_mul_right _ U;have w:cap*g.sz=(cap-1)*g.sz+g.sz:=by rw[<-Nat.succ_mul];congr 1;omega
       simp;omega
     ·simp only[Wj];refine⟨by omega,fun x Z=>?_⟩;obtain⟨i,r,rfl⟩:=List.mem_iff_getElem.1 Z;exact(M i r).2.1
     ·simp only[RM];refine⟨?_,fun x Z=>?_⟩
      ·have N:=AbU o u;rw[List.length_map,J]at N;exact Nat.le_trans (Nat.mul_le_mul_right _ ae) N
      ·obtain⟨i,r,rfl⟩:=List.mem_iff_getElem.1 Z;exact(M i r).2.2
  case h_5 fs o=>
   split at j
   case h_2=>cases j
   rename_i g A;cases B:yg (P.cellsOf t) g.sz with
   |false=>rw[B]at j;cases j
   |true=>
   rw[B]at j;cases j;have O:=zt B;obtain⟨xs,n,rfl,Y,hlen,hxl,hf⟩:=DataW.trod_struct o h;rw[Y]at u;have u:Wt P t (.agg (xs.map (·.1))):=u;unfold Un at C;rw[o]at C;obtain⟨x,m,v,w⟩:=Pj (G:=fun t d=>Un P k t=true/\Wt P t d) (cs:=cs) (fun t s cs y m v w=>ih n t s cs y m v w.1 w.2) fs.toList 0 _ A (fun f X=>by
    obtain⟨i,r⟩:=List.mem_iff_getElem?.1 X;have L:fs[i]?=some f:=by simpa using r
    have:=hf i f L;have I:=(zq.1 L).1;rw[zu ae]at this;exact⟨_,this,zw.1 C f X,rM o u L<|by rw[List.getElem?_map,zu ae];rfl⟩)
   refine⟨x,?_,v,w⟩;rw[List.drop_zero,List.take_of_length_le<|by simp;omega]at m;exact m
  case h_6=>cases j
theorem jG{k:Nat}{t:TypeId}{s:Sh}{v:Value}{d:DataW H}{p:List MemPlace}(g:shP P k t=some s)(hp:s.Rt=false)(c:v.cells.toList=[v])(h:y9 enc P W 0 (fun _=>true) true t v d p)(f:Un P k t=true)(e:Wt P t d):
  ∃x:s.T,PC (FW W) (Cp s x) (ON W.heap.size v)/\(Wj s x/\RM s x)/\Ac (pW W) (ON W.heap.size v) v:=by
 obtain⟨a,b⟩:=h;rw[c]at b;obtain⟨x,h1,h2⟩:=Pr k a t s [v] (d,p) g b f e;simp only[yf,List.map_nil]at h1;exact⟨x,(PC.Cp h1).2 hp _ rfl,h2,Uz<|h1.ok _<|by simp⟩
theorem fL{k:Nat}{t:TypeId}{s:Sh}{v:Value}{d:DataW H}{p:List MemPlace}(b:lI P k t=some s)(o:yi P W .any base t v)(h:y9 enc P W 0 (fun _=>true) true t v d p)(r:Un P k t=true)(q:Wt P t d):
  ∃x:s.T,PC (FW W) (Cp s x) (Ry W.heap.size v)/\(Wj s x/\RM s x)/\Ac (pW W) (Ry W.heap.size v) v:=by
 unfold lI at b;split at b
 case h_2=>cases b
 rename_i i g;have plain:((∃k,P.underlying t=some (.int k))\/P.underlying t=some .bool\/P.underlying t=some .string\/∃e,P.underlying t=some (.slice e))->(bif i.Rt then none else some i)=some s->∃x:s.T,PC (FW W) (Cp s x) (Ry W.heap.size v)/\(Wj s x/\RM s x)/\Ac (pW W) (Ry W.heap.size v) v:=by
  intro w j;cases hp:i.Rt with
  |true=>rw[hp]at j;cases j
  |false=>
   rw[hp]at j;cases j;obtain⟨m,n⟩:=qG w o;have e:Ry W.heap.size v=ON W.heap.size v:=by
    unfold Ry;split
    ·rename_i cs;exact wh rfl (n cs)
    ·rfl
   rw[e];exact jG g hp m h r q
 split at b
 case h_1=>
  rename_i fs f;cases hp:i.Rt with
  |false=>rw[hp]at b;cases b
  |true=>
   rw[hp]at b;cases b;simp only[yi,f]at o;obtain⟨cs,rfl,_,_⟩:=o;obtain⟨fuel,hf⟩:=h;obtain⟨x,m,n⟩:=Pr k fuel t s _ (d,p) g hf r q;refine⟨x,(PC.Cp m).1 hp,n,?_⟩;simp only[Ry,Ac];refine⟨cs,rfl,?_⟩;have c:=m.ok;have e:(Value.agg cs).cells.toList=cs.toList:=rfl;rw[e]at c;generalize cs.toList=l at c;induction l with
   |nil=>simp
   |cons a l y=>
    simp only[yf,Bk];exact⟨Uz (c _ (by simp)),y fun v u=>c v<|by simp only[yf,yd];exact .inr u⟩
 case h_2=>rename_i k f;exact plain (.inl ⟨k,f⟩) b
 case h_3=>rename_i f;exact plain (.inr<|.inl f) b
 case h_4=>rename_i f;exact plain (.inr<|.inr<|.inl f) b
 case h_5=>rename_i e f;exact plain (.inr<|.inr<|.inr ⟨e,f⟩) b
 case h_6=>cases b
theorem Sk{k:Nat}:∀ {ts:List TypeId} {a:List Sh} {args:List Value} {ds:List (DataW H)} {p:List MemPlace},S4 P k ts=some a->(∀(j:Nat) t v,ts[j]?=some t->args[j]?=some v->yi P W .any base t v)->
  ym enc P W 0 (fun _=>true) true ts args ds p->(ts.all<|Un P k)=true->(∀n∈zp P ts ds,n<=reachBytes)->∃x:(BB a).T,M0 (FW W) (Ae a x) (args.map<|Ry W.heap.size)/\(wfL a x/\Aa2 a x)/\Ax (pW W) (args.map<|Ry W.heap.size) args
 |[],a,args,ds,p,b,_,h,_,_=>by
  cases b;obtain⟨rfl,rfl,rfl⟩:=trodAll_nil h;exact⟨(),fun ρ N=>by simp[Ae],⟨trivial,trivial⟩,by simp⟩
 |t::ts,a,args,ds,p,b,l,h,i,e=>by
  unfold S4 at b;split at b
  case h_2=>cases b
  rename_i s f r m;cases b;obtain⟨v0,c,z,q,p0,q0,rfl,rfl,rfl,h0,w⟩:=trodAll_cons h;rw[yk,zm]at i;rw[zp]at e;obtain⟨x,a1,a2,a3⟩:=fL r (l 0 t v0 rfl rfl) h0 i.1<|fun n g=>e n<|zy.2<|.inl g;obtain⟨y,b1,b2,b3⟩:=Sk m (fun j t v u d=>l (j+1) t v u d) w i.2<|fun n g=>e n<|zy.2<|.inr g;have hr:Ax (pW W) ((v0::c).map<|Ry W.heap.size) (v0::c):=by simp only[yf,Bk];exact⟨a3,b3⟩
  cases f with
  |nil=>exact⟨x,fun ρ N=>by
    have:=b1 ρ N;simp only[Ae,Ch]at this;simp only[yf,Ae,this,A6,Ch,ve];exact a1 ρ N,a2,hr⟩
  |cons s2 o=>exact⟨(x,y),fun ρ N=>by
    simp only[yf,Ae,A6];exact⟨a1 ρ N,b1 ρ N⟩,⟨⟨a2.1,b2.1⟩,a2.2,b2.2⟩,hr⟩
end
open Go.Sp (AL BQ BM A1 ER BJ Cz)
theorem AbQ{l:BM}(h:RM Bx l):Sp.fJ l=true:=by
 obtain⟨_,_,_,_,a,_⟩:=h;have a:l.2.2.2.2.length*32<=140737488351232:=a;exact w4 ae
theorem Ab2{c:AL}(h:RM Bn c):Sp.zN c=true:=by
 obtain⟨⟨s1,s2⟩,⟨t1,_⟩,l1,b⟩:=h;have s1:c.1.length*88<=140737488351232:=s1;have t1:c.2.1.length*40<=140737488351232:=t1;have l1:c.2.2.length*96<=140737488351232:=l1;have s2:∀x∈c.1,RM BU x:=s2;have b:∀x∈c.2.2,RM Bx x:=b;unfold Sp.zN;refine Ab (Ab (Ab (ad ae ae)<|w4 ae)<|zw.2 fun x a=>?_)<|zw.2 fun x a=>AbQ<|b x a;obtain⟨_,_,_,_,d,_⟩:=s2 x a;have d:x.2.2.2.2.length*24<=140737488351232:=d;exact w4 ae
theorem AfO{x:(BB Qm.ins).T}(h:Aa2 Qm.ins x):Qm.pre x=true:=Ab2 h.1
end Go.Pe
namespace Go.Proofs.YtlohiljbghionaaGreatDoor
open Go
set_option maxRecDepth 100000
theorem seatTie1:Tryz.prog.laidByTextLater [("math/bits.deBruijn32tab",Rows.laid_math_bits_deBruijn32tab),("math/bits.deBruijn64tab",Rows.laid_math_bits_deBruijn64tab),("internal/strconv.uint64pow10",Rows.laid_internal_strconv_uint64pow10),("unicode/utf8.acceptRanges",Rows.laid_unicode_utf8_acceptRanges),("strconv.ErrRange",Rows.laid_strconv_ErrRange),("strconv.ErrSyntax",Rows.laid_strconv_ErrSyntax)] [.data,.data,.data,.data,.sentinel,.sentinel] true:=
 Program.laidByTextLater_by_one 72 8 65 ag ag ag ag ag ag (fun _ _=>by kernel_rfl)
theorem noOwnUnsafe:Tryz.pinned.checked.prog.headLifts.contains "ownunsafe"=false:=by kernel_rfl
theorem fits1:Tryz.pinned.checked.prog.listedFits Rows.ratingHolesRow.laid=true:=by
 unfold Program.listedFits;rw[noOwnUnsafe];kernel_rfl
theorem ratingHoles_row_tie:Rows.ratingHolesRow.laidByTextAt .later Tryz.pinned [.data,.data,.data,.data,.sentinel,.sentinel,.pinned] true:=by
 refine OpenClaim.laidByTextAt_pinned rfl rfl seatTie1 rfl rfl rfl rfl (fun y a _e=>?_) fits1;simp only[Rows.ratingHolesRow,List.zip_cons_cons,List.zip_nil_right,yd,List.mem_nil_iff,or_false]at a;rcases a with rfl|rfl|rfl|rfl|rfl|rfl|rfl
 ·cases _e
 ·cases _e
 ·cases _e
 ·cases _e
 ·cases _e
 ·cases _e
 ·exact⟨by kernel_rfl,by kernel_rfl⟩
end Go.Proofs.YtlohiljbghionaaGreatDoor
