import Derived.Test.YtlohiljbghionaaGreatDoorX14
import Derived.Test.YtlohiljbghionaaGreatDoorX15
import Derived.Test.YtlohiljbghionaaGreatDoorX03
import Derived.ChangeSame
import Derived.Below
import Derived.Test.YtlohiljbghionaaGreatDoorX09
import Derived.ChangeShapes
import Derived.OpenShut
/- A part of a proof (no law is stated here). Made by program out of texts by AI agents. -/
noncomputable section
open Go.Pe.Ends renaming tt -> zc, leaf -> zd, Ah -> zf, ite -> zg, ff -> zj, eq -> zL
open Int renaming toNat_natCast -> ze, toNat -> zt
open Go.IntKind renaming wrap -> zh
open List renaming length_cons -> zi, mem_cons_self -> zk, mem_of_mem_drop -> zl, take_length -> zn, length_append -> zo, all_eq_true -> zq, mem_flatMap -> zM, mem_cons -> zN, mem_append_right -> zQ, all_cons -> zS, getElem?_take_of_lt -> zV, getElem?_eq_getElem -> zW, length_eq_zero_iff -> zX, range -> z7
open Bool renaming and_eq_true -> zm, false_and -> zu, true_or -> zx, false_or -> zP, and_true -> zT, and_false -> zY, true_and -> z6, or_true -> ya
open Nat renaming zero_le -> zp, add -> zz, beq -> yc
open Go.DataW renaming trod -> zr, TrodAll -> zU
open Array renaming getElem?_eq_some_iff -> zw, getElem?_eq_none -> zK
open Option renaming bind_some -> zy
open Go.Sp renaming Ca -> zO, first -> z8, Ft -> yd
open Go.Pe.Ad renaming of -> zR
open Go.World renaming cell? -> zZ
open Iff renaming rfl -> yb
namespace Go.Sp
theorem Qt{a:BX}{lo b:Int}(h:As a=0):Bj a lo b=if A2 a<(lo:Rat)\/(b:Rat)<A2 a then 3 else 0:=by
 unfold Bj;rw[wc<|by rw[h];decide]
theorem S6{a:BX}{lo b:Int}(h:As a≠0):Bj a lo b=As a:=by
 unfold Bj;rw[wd h]
theorem Rm{n:Int}(h:FA n=true):n.natAbs<10^6:=by
 unfold FA at h;rw[zm,w5,w5]at h;have:(10:Nat)^6=1000000:=rfl;omega
def wE(seen:List BX)(w:Cs):Int:=first [BJ (!isName w.1) 8,BJ (has seen w.1) 9,As w.2]
theorem Y1(seen:List BX)(w:Cs)(l:List Cs):Yn seen (w::l)=if wE seen w≠0 then wE seen w else if A2 w.2<0 then 3 else Yn (w.1::seen) l:=by
 have e:wE seen w=if isName w.1=false then 8 else if has seen w.1=true then 9 else As w.2:=by
  unfold wE;rw[Ba,Ba,Ba,Eh,Eh];cases isName w.1
  ·rfl
  ·cases has seen w.1
   ·simp only[Bool.not_true,Bool.false_eq_true,vf,wm,not_true,ite_not];split
    ·next h=>rw[h];rfl
    ·rfl
   ·rfl
 rw[e,Yn];cases isName w.1
 ·rfl
 ·cases has seen w.1
  ·rfl
  ·rfl
def oE(o:K9):Int:=first [BJ (!isName o.1) 8,BJ (decide (o.2<0\/10<o.2)) 3]
theorem Z8(o:K9)(l:List K9):eH (o::l)=if oE o≠0 then oE o else eH l:=by
 have e:oE o=if isName o.1=false then 8 else if o.2<0\/10<o.2 then 3 else 0:=by
  unfold oE;rw[Go.Pe.IQ,Eh,Eh];cases isName o.1
  ·rfl
  ·by_cases h:o.2<0\/10<o.2
   ·rw[w4 h,wd h];rfl
   ·rw[w8 h,wc h];rfl
 rw[e,eH];cases isName o.1
 ·rfl
 ·by_cases h:o.2<0\/10<o.2
  ·simp only[wd h];rfl
  ·simp only[wc h];rfl
theorem Mq:∀ {l:List Cs} {o:Option Cs},DK o l=0->∀p∈l,As p.1=0/\As p.2=0
 |[],_,_,p,d=>by cases d
 |x::l,none,h,p,d=>by
  obtain⟨a,b,c⟩:=aY h;rcases zN.1 d with rfl|d
  ·exact⟨a,b⟩
  ·exact Mq c p d
 |x::l,some q,h,p,d=>by
  obtain⟨a,b,_,c⟩:=ZD h;rcases zN.1 d with rfl|d
  ·exact⟨a,b⟩
  ·exact Mq c p d
theorem Td(y:BX)(p:Cs)(l:List Cs):RR (some y) (p::l)=if GF p.2 y<0 then 11 else RR (some p.2) l:=by rw[RR]
end Go.Sp
namespace Go.Pe
open Sp
open Go.Det
open Go.Sp (ER EV DL Cs K9 BX Fg)
theorem J5{m:List (BX×Bool)}{seen:List BX}(h:HB m (fun x=>x∈seen))(k:BX):(DR .str .bool k m).getD false=Sp.has seen k:=by
 unfold Sp.has;by_cases e:k∈seen
 ·rw[w4 e];exact(h k).2 e
 ·rw[w8 e];cases c:(DR .str .bool k m).getD false with
  |false=>rfl
  |true=>exact wh ((h k).1 c) e
theorem Om:HB [] (fun x=>x∈([]:List BX)):=HB.nil.congr fun _=>⟨fun h=>h.elim,fun h=>by cases h⟩
theorem Od{m:List (BX×Bool)}{seen:List BX}(h:HB m (fun x=>x∈seen))(k:BX):HB (Hq .str .bool k true m) (fun x=>x∈k::seen):=(h.add k).congr fun _=>zN.symm
theorem bD:D3 uY:=Ac T122.ok<|Ac T55.ok<|Ac T56.ok<|Ac T103.ok<|Ac T51.ok AP
theorem T53.ok:Ag Bm 53 Sl:=by
 refine Cj bD<|fun(i:BX×Int×Int) f=>?_;obtain⟨a,lo,h⟩:=i;have f:(decide (a.length<=1000000)&&FA lo&&FA h)=true:=f;rw[zm,zm,w5]at f;obtain⟨⟨hl,h1⟩,h2⟩:=f;have g:∀e ob,e=Bj a lo h->Ad Sl (a,lo,h) (.dat i64 e) ob:=fun e ob x=>zR rfl rfl x
 have L:=cX (n:=lo) (Rm h1) (by decide) (by decide);have H:=cX (n:=h) (Rm h2) (by decide) (by decide);refine zL (T53.Ap a lo h)<|zc (w4 hl)<|zg (fun c=>zd<|g _ _ ?_)<|fun c=>?_
 ·have c:As a≠0:=by simpa using c
  exact(S6 c).symm
 ·have c:As a=0:=by simpa using c
  obtain⟨o1,j⟩:=GZ c;have A:=RY c;refine zc j (zc rfl (zc (Aa o1<|L.FZ<|by decide)<|zg (fun d=>zc rfl (zd<|g _ _ ?_))<|fun d=>zc rfl (zc (Aa o1<|H.FZ<|by decide)<|zc rfl (zd<|g _ _ ?_))))
  ·rw[Qt c,wd<|.inl<|(A.dV L).1<|w6 d];rfl
  ·have d:=w7 d;rw[Qt c];by_cases e:GK (Zc a) ((h,C5 h),(1,C5 1))>0
   ·rw[wd<|.inr<|(A.Zp H).1 e];exact wi (fun b=>BJ b 3)<|w4 e
   ·rw[wc<|not_or.2 ⟨fun x=>d<|(A.dV L).2 x,fun x=>e<|(A.Zp H).2 x⟩];exact wi (fun b=>BJ b 3)<|w8 e
theorem ZS:D3 iJ:=Ac T52.mT<|Ac T50.ok<|Ac T51.ok<|Ac T122.ok<|Ac T55.ok<|Ac T115.ok AP
namespace T57
theorem loop{Q:PV->Ob->Prop}(l:List Cs)(o:l.length<=1000000)(f:∀p∈l,p.2.length<=1000000):∀(r:List Cs) (i:Nat) (m:List (BX×Bool)) (seen:List BX),l.drop i=r->i<=l.length->HB m (fun x=>x∈seen)->(∀ob,Q (.dat i64<|Yn seen r) ob)->Ends iJ (L1 l (l.length:Int) (i:Int) m) Q
 |[],i,m,seen,h,g,b,a=>by
  have:=drop_nil h g;exact zf (Al ..) (zj (w8<|by omega)<|zd<|a _)
 |p::r,i,m,seen,h,g,b,a=>by
  obtain⟨j,k,q⟩:=drop_cons (d:=(([],[]):Cs)) h;have s:=f p (zl<|by rw[h];exact zk ..);have n:zh .i64 ((i:Int)+1)=((i+1:Nat):Int):=by rw[wr _ (by omega)<|by omega];omega
  rw[Y1]at a;refine zf (Al ..) ?_;conv=>zeta
  rw[ze,k,n,J5 b];refine zc (w4<|by omega) (zc (Aa (w4<|by omega)<|w4<|by omega)<|zc rfl (zc rfl (zc rfl (zc (w4 s)<|zc rfl (zg (fun c=>zd ?_)<|fun c=>?_)))))
  ·have c:Sp.wE seen p≠0:=by
    have c:(Sp.wE seen p !=0)=true:=c;simpa using c
   rw[wd c]at a;exact a _
  ·have c:Sp.wE seen p=0:=by
    have c:(Sp.wE seen p !=0)=false:=c;simpa using c
   rw[wc<|by rw[c];decide]at a;have e:As p.2=0:=by
    unfold Sp.wE at c;rw[CY,CY,CY]at c;exact c.2.2.1
   have A:=RY e;refine zc (GZ e).2<|zc A.D8<|zg (fun d=>zd ?_)<|fun d=>?_
   ·rw[wd<|A.OW.1.1<|w6 d]at a;exact a _
   ·rw[wc fun x=>w7 d<|A.OW.1.2 x]at a;exact loop l o f r (i+1) _ _ q j (Od b p.1) a
theorem ok:Ag Bm 57 qS:=by
 refine Cj ZS<|fun(l:List Cs) a=>?_;have a:H8 l 40 20=true:=a;have b:∀e ob,e=NO l->Ad qS l (.dat i64 e) ob:=fun e ob x=>zR rfl rfl x
 refine zL (Ap l)<|zg (fun c=>zd<|b _ _ ?_)<|fun c=>?_
 ·have c:=w6 c;unfold NO;rw[wd<|by omega]
 ·have c:=w7 c;have e:NO l=Yn [] l:=by
   unfold NO;rw[wc<|by omega]
  exact loop l (by omega) (fun p d=>by have:=(Rw a p d).2;omega) l 0 [] [] rfl (zp _) Om (fun ob=>b _ _ e.symm)
end T57
theorem dL:D3 iY:=Ac T52.mT<|Ac T50.ok<|Ac T51.ok<|Ac T53.ok<|Ac T54.ok<|Ac T55.ok<|Ac T56.ok<|Ac T57.ok AP
namespace T13
theorem loop{Q:PV->Ob->Prop}(g e nx:BX)(t w:List Cs)(n:t.length<=1000)(b:∀p∈t,As p.1=0/\As p.2=0)(c:H8 w 40 20=true):∀(r:List Cs) (i:Nat),t.drop i=r->1<=i->i<=t.length->(∀ob,Q (.dat i64<|if RR (some (t.getD (i-1) ([],[])).2) r≠0 then RR (some (t.getD (i-1) ([],[])).2) r else NO w) ob)->Ends iY (L1 (i:Int) g e nx t w) Q
 |[],i,h,o,l,a=>by
  have:=drop_nil h l;exact zf (Al ..) (zj (w8<|by omega)<|zc c<|zd<|a _)
 |p::r,i,h,o,l,a=>by
  obtain⟨q,f,x⟩:=drop_cons (d:=(([],[]):Cs)) h;have s:=b p (zl<|by rw[h];exact zk ..);have j:=b (t.getD (i-1) ([],[])) (Ms<|by omega);have u:zh .i64 ((i:Int)+1)=((i+1:Nat):Int):=by rw[wr _ (by omega)<|by omega];omega
  have v:zh .i64 ((i:Int)-1)=((i-1:Nat):Int):=by rw[wr _ (by omega)<|by omega];omega
  rw[Td]at a;refine zf (Al ..) ?_;conv=>zeta
  rw[v,ze,ze,f,u];have o1:=GZ s.2;have k:=GZ j.2;have m:=Wf s.2 j.2;refine zc (w4<|by omega) (zc (Aa (w4<|by omega)<|w4<|by omega) (zc (Aa (w4<|by omega)<|w4<|by omega)<|zc o1.2<|zc k.2<|zc (Aa o1.1 k.1)<|zg (fun d=>zd ?_)<|fun d=>?_))
  ·have d:GK (mO p.2) (mO (t.getD (i-1) ([],[])).2)<0:=w6 d;rw[m]at d;rw[wd d,wd<|by decide]at a;exact a _
  ·have d:¬GK (mO p.2) (mO (t.getD (i-1) ([],[])).2)<0:=w7 d;rw[m]at d;rw[wc d]at a;exact loop g e nx t w n b c r (i+1) x (by omega) q (by rw[Nat.add_sub_cancel,f];exact a)
theorem ok:Ag Bm 13 mD:=by
 refine Cj dL<|fun(l:DL) hi=>?_;have b:=Wp hi;have d:∀e ob,e=Iq l->Ad mD l (.dat i64 e) ob:=fun e ob x=>zR rfl rfl x
 have a:IX 1000000 l.2.2.2.1=true:=by
  unfold IX;rw[zq];intro p a;have:=b.tab p a;exact Aa (w4<|by omega) (w4<|by omega)
 have a1:=b.head;have a2:=b.next;have a3:=b.tl;have g:H8 l.2.2.2.2 40 20=true:=by
  unfold H8;rw[zq];intro p a;have:=b.wts p a;exact Aa (w4 this.1)<|w4 this.2
 refine zL (Ap l) (zc rfl (zc rfl (zc (Aa (Aa (w4<|by omega) rfl) rfl)<|zc (Aa (Aa (w4<|by omega) rfl) rfl)<|zc (Aa (w4<|by omega) a)<|zc rfl (zg (fun c=>zd<|d _ _ ?_)<|fun c=>?_))))
 ·have c:(Mb l !=0)=true:=c;have c:Mb l≠0:=by simpa using c
  unfold Iq;rw[wd c];rfl
 ·have c:(Mb l !=0)=false:=c;have c:Mb l=0:=by simpa using c
  have ct:BF l.2.2.2.1=0:=by
   unfold Mb at c;rw[CY,CY,CY,CY]at c;exact c.2.2.2.1
  obtain⟨f,_,j⟩:=LL ct;have i:=Mq j;obtain⟨p,r,hr⟩:∃p r,l.2.2.2.1=p::r:=by
   cases e:l.2.2.2.1 with
   |nil=>exact wh e f
   |cons p r=>exact⟨p,r,rfl⟩
  have h:l.2.2.2.1.getD (1-1) ([],[])=p:=by rw[hr];rfl
  have up:RR none l.2.2.2.1=RR (some p.2) r:=by rw[hr,RR]
  refine loop _ _ _ _ _ (by omega) i g r 1 (by rw[hr];rfl) (by omega) (by rw[hr,zi];omega)<|fun ob=>d _ _ ?_;rw[h, <-up];exact(wc (c:=Mb l≠0)<|by rw[c];decide).symm
end T13
theorem bY:D3 gN:=Ac T52.mT<|Ac T50.ok<|Ac T51.ok<|Ac T53.ok AP
namespace T64
theorem loop{Q:PV->Ob->Prop}(l:List K9)(f:l.length<=1000000):∀(r:List K9) (i:Nat),l.drop i=r->i<=l.length->(∀ob,Q (.dat i64<|eH r) ob)->Ends gN (L1 l (l.length:Int) (i:Int)) Q
 |[],i,h,g,a=>by
  have:=drop_nil h g;exact zf (Al ..) (zj (w8<|by omega)<|zd<|a _)
 |o::r,i,h,g,a=>by
  obtain⟨b,k,j⟩:=drop_cons (d:=(([],0):K9)) h;have m:zh .i64 ((i:Int)+1)=((i+1:Nat):Int):=by rw[wr _ (by omega)<|by omega];omega
  rw[Z8]at a;refine zf (Al ..) ?_;conv=>zeta
  rw[ze,k,m];refine zc (w4<|by omega) (zc (Aa (w4<|by omega)<|w4<|by omega)<|zc rfl (zc rfl (zg (fun d=>zc rfl (zc rfl ?_))<|fun d=>zc rfl (zc rfl ?_))))
  ·have e:Sp.oE o=z8 [BJ (!Sp.isName o.1) 8,BJ true 3]:=by
    unfold Sp.oE;rw[w4<|.inl<|w6 d]
   rw[e]at a;refine zg (fun c=>zd ?_)<|fun c=>loop l f r (i+1) j b ?_
   ·rw[wd<|by simpa using c]at a;exact a _
   ·rw[wc<|by simpa using c]at a;exact a
  ·have e:Sp.oE o=z8 [BJ (!Sp.isName o.1) 8,BJ (decide (o.2>10)) 3]:=by
    unfold Sp.oE;have d:=w7 d;have:decide (o.2<0\/10<o.2)=decide (o.2>10):=by
     apply decide_eq_decide.2;omega
    rw[this]
   rw[e]at a;refine zg (fun c=>zd ?_)<|fun c=>loop l f r (i+1) j b ?_
   ·rw[wd<|by simpa using c]at a;exact a _
   ·rw[wc<|by simpa using c]at a;exact a
theorem ok:Ag Bm 64 XQ:=by
 refine Cj bY<|fun(s:EV) hi=>?_;obtain⟨a1,a2,a3,a4,a5⟩:=Wg hi;have d:∀e ob,e=Lx s->Ad XQ s (.dat i64 e) ob:=fun e ob x=>zR rfl rfl x
 have b:∀ {a:BX} {lo h:Int},a.length<=20->FA lo=true->FA h=true->(decide (a.length<=1000000)&&FA lo&&FA h)=true:=fun k x y=>Aa (Aa (w4<|by omega) x) y
 have f:Um s=z8 [Bj s.1 (-10000) 10000,Bj s.2.1 (-10000) 10000,Bj s.2.2.1 0 10000,Bj s.2.2.2.1 0 10000,BJ (decide ((s.2.2.2.2.length:Int)>16)) 5]:=by
  unfold Um;have:decide (16<s.2.2.2.2.length)=decide ((s.2.2.2.2.length:Int)>16):=by
   apply decide_eq_decide.2;omega
  rw[this]
 refine zL (Ap s)<|zc (b a1 rfl rfl)<|zc (b a2 rfl rfl)<|zc (b a3 rfl rfl)<|zc (b a4 rfl rfl)<|zc rfl (zc rfl (zg (fun c=>zd<|d _ _ ?_)<|fun c=>?_))
 ·rw[<-f]at c ⊢;unfold Lx;rw[wd<|by simpa using c]
 ·rw[<-f]at c;have e:Lx s=eH s.2.2.2.2:=by
   unfold Lx;rw[wc<|by simpa using c]
  exact loop _ (by omega) _ 0 rfl (zp _) (fun ob=>d _ _ e.symm)
end T64
end Go.Pe
namespace Go.Sp
theorem Jl{α:Type}(l:List α)(m:Nat):Cx (l.length:Int) (m:Int)=if l=[]then 12 else if m<l.length then 5 else 0:=by
 unfold Cx;cases l with
 |nil=>rfl
 |cons x l=>
  rw[wc (by rw[zi];omega),wc<|List.cons_ne_nil x l];by_cases h:m<(x::l).length
  ·rw[wd h,wd<|by omega]
  ·rw[wc h,wc<|by omega]
theorem WY(c:ER):fG c=if Cx (c.1.length:Int) 36≠0 then Cx (c.1.length:Int) 36 else if JH c.1≠0 then JH c.1 else SJ c:=by
 have e:=Jl c.1 36;have e:Cx (c.1.length:Int) 36=if c.1=[]then 12 else if 36<c.1.length then 5 else 0:=e
 rw[e];unfold fG;by_cases h:c.1=[]
 ·rw[wd h,wd h,wd<|by decide]
 ·rw[wc h,wc h];by_cases k:36<c.1.length
  ·rw[wd k,wd k,wd<|by decide]
  ·rw[wc k,wc k];exact(wc<|fun x=>x rfl).symm
theorem Us(c:ER):SJ c=if Cx (c.2.1.length:Int) 8≠0 then Cx (c.2.1.length:Int) 8 else if Ga (c.1.length:Int) [] c.2.1≠0 then Ga (c.1.length:Int) [] c.2.1 else OQ c:=by
 have e:=Jl c.2.1 8;have e:Cx (c.2.1.length:Int) 8=if c.2.1=[]then 12 else if 8<c.2.1.length then 5 else 0:=e
 rw[e];unfold SJ;by_cases h:c.2.1=[]
 ·rw[wd h,wd h,wd<|by decide]
 ·rw[wc h,wc h];by_cases k:8<c.2.1.length
  ·rw[wd k,wd k,wd<|by decide]
  ·rw[wc k,wc k];exact(wc<|fun x=>x rfl).symm
theorem T6(c:ER):OQ c=if Cx (c.2.2.length:Int) 8≠0 then Cx (c.2.2.length:Int) 8 else Md [] c.2.2:=by
 have e:=Jl c.2.2 8;have e:Cx (c.2.2.length:Int) 8=if c.2.2=[]then 12 else if 8<c.2.2.length then 5 else 0:=e
 rw[e];unfold OQ;by_cases h:c.2.2=[]
 ·rw[wd h,wd h,wd<|by decide]
 ·rw[wc h,wc h];by_cases k:8<c.2.2.length
  ·rw[wd k,wd k,wd<|by decide]
  ·rw[wc k,wc k];exact(wc<|fun x=>x rfl).symm
theorem Qa(s:EV)(l:List EV):JH (s::l)=if Lx s≠0 then Lx s else JH l:=by rw[JH]
def tE(n:Int)(seen:List BX)(t:Fg)(b:Bool):Int:=first [BJ (!isName t.1) 8,BJ (has seen t.1) 9,BJ ((t.2.length:Int) !=n) 2,BJ b 3]
theorem WW(n:Int)(seen:List BX)(t:Fg)(l:List Fg):Ga n seen (t::l)=if tE n seen t (Ee t.2)≠0 then tE n seen t (Ee t.2)else Ga n (t.1::seen) l:=by
 rw[Ga];unfold tE;rw[Ba,Ba,Ba,Ba,Eh,Eh,Eh,Eh];cases isName t.1
 ·rfl
 ·cases has seen t.1
  ·by_cases h:(t.2.length:Int)=n
   ·rw[show((t.2.length:Int) !=n)=false by simp[h]];cases Ee t.2
    ·rw[wc (by decide),wc (by decide),wc<|fun x=>x h];rfl
    ·rw[wc (by decide),wc (by decide),wc<|fun x=>x h];rfl
   ·rw[show((t.2.length:Int) !=n)=true by simp[h]];rw[wc (by decide),wc (by decide),wd h];rfl
  ·rfl
theorem Xy(seen:List BX)(l:DL)(r:List DL):Md seen (l::r)=if first [Iq l,BJ (has seen l.1) 9]≠0 then first [Iq l,BJ (has seen l.1) 9]else Md (l.1::seen) r:=by
 rw[Md,Go.Pe.IQ,Eh];cases has seen l.1<;>by_cases h:Iq l=0<;>simp[h]
end Go.Sp
namespace Go.Pe
open Sp
open Go.Det
open Go.Sp (ER EV DL Cs K9 BX Fg)
theorem dS:D3 KL:=Ac T63.ok<|Ac T64.ok<|Ac T52.mT<|Ac T50.ok<|Ac T51.ok<|Ac T13.ok AP
namespace T15
variable {Q:PV->Ob->Prop}
theorem Sm(l:List DL)(k:l.length<=1000000)(e:∀x∈l,zO x=true):∀(r:List DL) (i:Nat) (m:List (BX×Bool)) (seen:List BX),l.drop i=r->i<=l.length->HB m (fun x=>x∈seen)->(∀ob,Q (.dat i64<|Md seen r) ob)->Ends KL (L4 l (l.length:Int) (i:Int) m) Q
 |[],i,m,seen,h,f,b,a=>by
  have:=drop_nil h f;exact zf (Cf ..) (zj (w8<|by omega)<|zd<|a _)
 |p::r,i,m,seen,h,f,b,a=>by
  obtain⟨g,j,o⟩:=drop_cons (d:=(([],[],[],[],[]):DL)) h;have s:=e p (zl (by rw[h];exact zk ..));have n:zh .i64 ((i:Int)+1)=((i+1:Nat):Int):=by rw[wr _ (by omega)<|by omega];omega
  rw[Xy]at a;refine zf (Cf ..) ?_;conv=>zeta
  rw[ze,j,n,J5 b];refine zc (w4<|by omega) (zc (Aa (w4<|by omega)<|w4<|by omega)<|zc s<|zc rfl (zc rfl (zg (fun c=>zd ?_)<|fun c=>?_)))
  ·have c:(z8 [Iq p,BJ (Sp.has seen p.1) 9] !=0)=true:=c;rw[wd<|by simpa using c]at a;exact a _
  ·have c:(z8 [Iq p,BJ (Sp.has seen p.1) 9] !=0)=false:=c;rw[wc<|by simpa using c]at a;exact Sm l k e r (i+1) _ _ o g (Od b p.1) a
theorem HQ{g:List Fg}{o k:Int}{o1:List (BX×Bool)}{A:List EV}{l:List Fg}{i:List DL}(t:Fg)(u:t.2.length<=1000000)(m:List (BX×Bool))(seen:List BX)(q:HB m (fun x=>x∈seen))(S:List EV)(p:List Fg)(V:List DL):∀(r:List Int) (j:Nat),t.2.drop j=r->j<=t.2.length->
  (∀ob,Sp.tE (S.length:Int) seen t (Ee r)≠0->Q (.dat i64<|Sp.tE (S.length:Int) seen t<|Ee r) ob)->(Sp.tE (S.length:Int) seen t (Ee r)=0->Ends KL (L2 g o (zh .i64<|k+1) (Hq .str .bool t.1 true m) S p V) Q)->
  Ends KL (L3 g o k o1 A l i t.2 (t.2.length:Int) (j:Int) t.1 t.2 m S p V) Q
 |[],j,h,s,b,a=>by
  have:=drop_nil h s;refine zf (BE ..) (zj (w8<|by omega) ?_);rw[J5 q];refine zc rfl (zc rfl (zc rfl (zc rfl (zc rfl (zc rfl (zg (fun c=>zd ?_)<|fun c=>?_))))))
  ·have c:(Sp.tE (S.length:Int) seen t (Ee []) !=0)=true:=c;exact b _ (by simpa using c)
  ·have c:(Sp.tE (S.length:Int) seen t (Ee []) !=0)=false:=c;exact a (by simpa using c)
 |n::r,j,h,s,b,a=>by
  obtain⟨v,w,B⟩:=drop_cons (d:=(0:Int)) h;have z:zh .i64 ((j:Int)+1)=((j+1:Nat):Int):=by rw[wr _ (by omega)<|by omega];omega
  have y:decide ((j:Int)>=0)=true:=w4 (by omega);have f:Ee (n::r)=((decide (n<1)||decide (10000<n))||Ee r):=by unfold Ee;rw[List.any_cons]
  refine zf (BE ..) ?_;conv=>zeta
  rw[ze,w,z,y,J5 q];refine zc (w4<|by omega) (zc (Aa (by first|rfl|exact w4<|by omega)<|w4<|by omega)<|zg (fun d=>?_)<|fun d=>zg (fun e=>?_)<|fun e=>?_)
  ·rw[d,zx,zx]at f;rw[f]at b a;refine zc rfl (zc rfl (zc rfl (zc rfl (zc rfl (zc rfl (zg (fun c=>zd ?_)<|fun c=>?_))))))
   ·have c:(Sp.tE (S.length:Int) seen t true !=0)=true:=c;exact b _ (by simpa using c)
   ·have c:(Sp.tE (S.length:Int) seen t true !=0)=false:=c;exact a (by simpa using c)
  ·have e:decide (10000<n)=true:=e;rw[e,ya,zx]at f;rw[f]at b a;refine zc rfl (zc rfl (zc rfl (zc rfl (zc rfl (zc rfl (zg (fun c=>zd ?_)<|fun c=>?_))))))
   ·have c:(Sp.tE (S.length:Int) seen t true !=0)=true:=c;exact b _ (by simpa using c)
   ·have c:(Sp.tE (S.length:Int) seen t true !=0)=false:=c;exact a (by simpa using c)
  ·have e:decide (10000<n)=false:=e;rw[d,e,zP,zP]at f;rw[f]at b a;exact HQ t u m seen q S p V r (j+1) B v b a
theorem Fb(c:ER)(e:Pj c=true):∀(r:List Fg) (i:Nat) (m:List (BX×Bool)) (seen:List BX),c.2.1.drop i=r->i<=c.2.1.length->HB m (fun x=>x∈seen)->
  (∀ob,Q (.dat i64<|if Ga (c.1.length:Int) seen r≠0 then Ga (c.1.length:Int) seen r else OQ c) ob)->Ends KL (L2 c.2.1 (c.2.1.length:Int) (i:Int) m c.1 c.2.1 c.2.2) Q
 |[],i,m,seen,h,f,b,a=>by
  have:=drop_nil h f;have a:∀ob,Q (.dat i64<|OQ c) ob:=fun ob=>by
   have:=a ob;rwa [show Ga (c.1.length:Int) seen []=0 from rfl,wc<|fun x=>x rfl]at this
  rw[T6]at a;refine zf (AK ..) (zj (w8<|by omega)<|zc rfl (zg (fun d=>zd ?_)<|fun d=>?_))
  ·rw[wd<|by simpa using d]at a;exact a _
  ·rw[wc<|by simpa using d]at a;have s:=Hx e;exact Sm c.2.2 (by have:=s.2.2.1;omega) s.2.2.2.2.2 c.2.2 0 [] [] rfl (zp _) Om a
 |t::r,i,m,seen,h,f,b,a=>by
  obtain⟨j,k,n⟩:=drop_cons (d:=(([],[]):Fg)) h;have s:=Hx e;have st:=s.2.2.2.2.1 t (zl<|by rw[h];exact zk ..);have st:(decide (t.1.length<=40)&&decide (t.2.length<=40))=true:=st;rw[zm,w5,w5]at st;have o:=s.2.1;have l:zh .i64 ((i:Int)+1)=((i+1:Nat):Int):=by rw[wr _ (by omega)<|by omega];omega
  rw[WW]at a;refine zf (AK ..) ?_;conv=>zeta
  rw[ze,k];refine zc (w4<|by omega) (zc (Aa (w4<|by omega)<|w4<|by omega) ?_);refine HQ t (by omega) m seen b c.1 c.2.1 c.2.2 t.2 0 rfl (zp _) (fun ob d=>?_) (fun d=>?_)
  ·rw[wd d,wd d]at a;exact a _
  ·have g:¬Sp.tE (c.1.length:Int) seen t (Ee t.2)≠0:=fun x=>x d
   rw[wc g]at a;rw[l];exact Fb c e r (i+1) _ _ n j (Od b t.1) a
theorem FJ(c:ER)(b:Pj c=true):∀(r:List EV) (i:Nat),c.1.drop i=r->i<=c.1.length->
  (∀ob,Q (.dat i64<|if JH r≠0 then JH r else SJ c) ob)->Ends KL (L1 c.1 (c.1.length:Int) (i:Int) c.1 c.2.1 c.2.2) Q
 |[],i,h,e,a=>by
  have:=drop_nil h e;have a:∀ob,Q (.dat i64<|SJ c) ob:=fun ob=>by
   have:=a ob;rwa [show JH []=0 from rfl,wc<|fun x=>x rfl]at this
  rw[Us]at a;refine zf (Al ..) (zj (w8<|by omega)<|zc rfl (zg (fun d=>zd ?_)<|fun d=>?_))
  ·rw[wd<|by simpa using d]at a;exact a _
  ·rw[wc<|by simpa using d]at a;exact Fb c b c.2.1 0 [] [] rfl (zp _) Om a
 |p::r,i,h,e,a=>by
  obtain⟨g,j,l⟩:=drop_cons (d:=(([],[],[],[],[]):EV)) h;have s:=Hx b;have sp:=s.2.2.2.1 p (zl<|by rw[h];exact zk ..);have m:=s.1;have k:zh .i64 ((i:Int)+1)=((i+1:Nat):Int):=by rw[wr _ (by omega)<|by omega];omega
  rw[Qa]at a;refine zf (Al ..) ?_;conv=>zeta
  rw[ze,j,k];refine zc (w4<|by omega) (zc (Aa (w4<|by omega)<|w4<|by omega)<|zc sp<|zg (fun d=>zd ?_)<|fun d=>?_)
  ·have d:(Lx p !=0)=true:=d;have d:Lx p≠0:=by simpa using d
   rw[wd d,wd d]at a;exact a _
  ·have d:(Lx p !=0)=false:=d;have f:¬Lx p≠0:=by simpa using d
   rw[wc f]at a;exact FJ c b r (i+1) l g a
theorem ok:Ag Bm 15 rK:=by
 refine Cj dS<|fun(c:ER) a=>?_;have a:Pj c=true:=a;have b:∀e ob,e=fG c->Ad rK c (.dat i64 e) ob:=fun e ob x=>zR rfl rfl x
 have e:=WY c;refine zL (Ap c)<|zc rfl (zg (fun d=>zd<|b _ _ ?_)<|fun d=>?_)
 ·rw[wd<|by simpa using d]at e;exact e.symm
 ·rw[wc<|by simpa using d]at e;exact FJ c a c.1 0 rfl (zp _) (fun ob=>b _ _ e.symm)
end T15
end Go.Pe
namespace Go.Sp
theorem q0{x:Int}(h:x=0):(x==0)=true:=by simpa using h
theorem q1{x:Int}(h:x≠0):(x==0)=false:=by simpa using h
theorem n0{x:Int}(h:x=0):(x !=0)=false:=by simpa using h
theorem n1{x:Int}(h:x≠0):(x !=0)=true:=by simpa using h
theorem Sb{a:BX}{n:Int}:GF a (Bi (n:Rat))=if A2 a<(n:Rat)then -1 else if (n:Rat)<A2 a then 1 else 0:=by
 unfold GF;rw[Gt]
theorem RH(s:BX)(l:List BX):I1 s l=if isName s=false then 8 else if s∈l then 9 else 0:=by
 unfold I1 has;by_cases h:s∈l
 ·rw[w4 h,wd h,wd rfl]
 ·rw[w8 h,wc h];cases isName s<;>rfl
theorem TD{s:BX}{l:List BX}(h:isName s=true):I1 s l=if s∈l then 9 else 0:=by rw[RH,h];rfl
theorem fS{s:BX}{l:List BX}(h:isName s=false):I1 s l=8:=by rw[RH,h];rfl
theorem kP(s:EV):Um s=if Bj s.1 (-10000) 10000≠0 then Bj s.1 (-10000) 10000 else if Bj s.2.1 (-10000) 10000≠0 then Bj s.2.1 (-10000) 10000 else if Bj s.2.2.1 0 10000≠0 then Bj s.2.2.1 0 10000 else if Bj s.2.2.2.1 0 10000≠0 then Bj s.2.2.2.1 0 10000 else if 16<s.2.2.2.2.length then 5 else 0:=by
 unfold Um;rw[Ba,Ba,Ba,Ba,Ba,Eh];by_cases h:16<s.2.2.2.2.length
 ·rw[w4 h,wd h];rfl
 ·rw[w8 h,wc h];rfl
end Go.Sp
namespace Go.Pe
open Sp
open Go.Det
open Go.Sp (ER EV DL Cs K9 BX Fg q0 q1 n0 n1)
theorem Z7:D3 sC:=Ac T62.ok<|Ac T36.ok<|Ac T97.ok<|Ac T96.ok AP
theorem Mi{n:Int}(h:FA n=true):CC n=true:=by
 unfold FA at h;rw[zm,w5,w5]at h;exact Aa (w4<|by omega) (w4<|by omega)
theorem T59.ok:Ag Bm 59 Sl:=by
 refine Cj Z7<|fun(i:BX×Int×Int) b=>?_;obtain⟨a,lo,h⟩:=i;have b:(decide (a.length<=1000000)&&FA lo&&FA h)=true:=b;rw[zm,zm,w5]at b;obtain⟨⟨hl,h1⟩,h2⟩:=b;have f:∀e ob,e=Bj a lo h->Ad Sl (a,lo,h) (.dat i64 e) ob:=fun e ob x=>zR rfl rfl x
 have L:=cT (n:=lo) (Rm h1) (by decide);have H:=cT (n:=h) (Rm h2) (by decide);refine zL (T59.Ap a lo h) ?_;conv=>zeta
 rw[Tp,Tp,Sb,Sb];refine zc (w4 hl)<|zg (fun c=>?_)<|fun c=>zd<|f _ _ ?_
 ·have c:As a=0:=by simpa using c
  have g:=(Dy c).1;refine zc (Mi h1) (zc (ML<|Mi h1)<|zc (Aa g<|L.FV<|by decide)<|zg (fun d=>zd<|f _ _ ?_)<|fun d=>zc (Mi h2)<|zc (ML<|Mi h2)<|zc (Aa g<|H.FV<|by decide)<|zg (fun e=>zd<|f _ _ ?_)<|fun e=>zd<|f _ _ ?_);all_goals rw[Qt c]
  ·have d:=w6 d;by_cases k:A2 a<(lo:Rat)
   ·rw[wd<|.inl k]
   ·rw[wc k]at d;split at d<;>exact wh d (by decide)
  ·have e:=w6 e;by_cases k:(h:Rat)<A2 a
   ·rw[wd<|.inr k]
   ·rw[wc k]at e;split at e<;>exact wh e (by decide)
  ·have d:=w7 d;have e:=w7 e;rw[wc,c];rintro(k|k)
   ·rw[wd k]at d;exact d (by decide)
   ·by_cases j:A2 a<(h:Rat)
    ·exact wh (Std.lt_trans k j) (by grind)
    ·rw[wc j,wd k]at e;exact e (by decide)
 ·have c:As a≠0:=by simpa using c
  exact(S6 c).symm
theorem dZ:D3 fK:=Ac T58.ok AP
namespace T61
theorem loop{Q:PV->Ob->Prop}(s:BX)(l:List BX)(j:l.length<=1000):∀(r:List BX) (i:Nat),l.drop i=r->i<=l.length->(∀ob,Q (.dat i64<|if s∈r then 9 else 0) ob)->Ends fK (L1 s l (i:Int)) Q
 |[],i,h,b,a=>by
  have:=drop_nil h b;exact zf (Al ..) (zj (w8<|by omega)<|zd<|a _)
 |x::r,i,h,b,a=>by
  obtain⟨f,g,n⟩:=drop_cons (d:=([]:Z)) h;have m:zh .i64 ((i:Int)+1)=((i+1:Nat):Int):=by rw[wr _ (by omega)<|by omega];omega
  refine zf (Al ..) ?_;conv=>zeta
  rw[ze,g,m];refine zc (w4<|by omega) (zc (Aa (w4<|by omega)<|w4<|by omega)<|zg (fun c=>zd ?_)<|fun c=>loop s l j r (i+1) n f ?_)
  ·have c:x=s:=by simpa using c
   rw[wd<|by rw[c];exact zk ..]at a;exact a _
  ·have c:x≠s:=by simpa using c
   have e:(s∈x::r)=(s∈r):=by
    apply propext;rw[zN];exact⟨fun k=>k.resolve_left fun k=>c k.symm,.inr⟩
   simp only[e]at a;exact a
theorem ok:Ag Bm 61 QM:=by
 refine Cj dZ<|fun(i:BX×List BX) a=>?_;obtain⟨s,l⟩:=i;have a:decide (l.length<=1000)=true:=a;have b:∀e ob,e=I1 s l->Ad QM (s,l) (.dat i64 e) ob:=fun e ob x=>zR rfl rfl x
 refine zL (Ap s l)<|zc rfl (zg (fun c=>zd<|b _ _ ?_)<|fun c=>?_)
 ·exact(fS<|by simpa using c).symm
 ·exact loop s l (w6 a) l 0 rfl (zp _) (fun ob=>b _ _ (TD<|by simpa using c).symm)
end T61
theorem dC:D3 fC:=Ac T59.ok<|Ac T58.ok AP
namespace T67
theorem loop{Q:PV->Ob->Prop}(a b c d:BX)(l:List K9)(n:l.length<=1000000):∀(r:List K9) (i:Nat),l.drop i=r->i<=l.length->(∀ob,Q (.dat i64<|eH r) ob)->Ends fC (L1 (i:Int) a b c d l) Q
 |[],i,h,j,f=>by
  have:=drop_nil h j;exact zf (Al ..) (zj (w8<|by omega)<|zd<|f _)
 |o::r,i,h,j,f=>by
  obtain⟨k,m,q⟩:=drop_cons (d:=(([],0):K9)) h;have p:zh .i64 ((i:Int)+1)=((i+1:Nat):Int):=by rw[wr _ (by omega)<|by omega];omega
  have g:(decide ((0:Int)<=(i:Int))&&decide ((i:Int)<(l.length:Int)))=true:=Aa (w4<|by omega) (w4<|by omega);rw[eH]at f;refine zf (Al ..) ?_;conv=>zeta
  rw[ze,m,p];refine zc (w4<|by omega)<|zc g<|zc rfl (zg (fun c=>zd ?_)<|fun c=>zc g<|zg (fun d=>zd ?_)<|fun d=>zc g<|zg (fun e=>zd ?_)<|fun e=>loop _ _ _ _ l n r (i+1) q k ?_)
  ·rw[wd<|by simpa using c]at f;exact f _
  ·rw[wc (by simpa using c),wd<|.inl<|w6 d]at f;exact f _
  ·rw[wc (by simpa using c),wd<|.inr<|w6 e]at f;exact f _
  ·rw[wc (by simpa using c),wc<|not_or.2 ⟨w7 d,w7 e⟩]at f;exact f
theorem ok:Ag Bm 67 XQ:=by
 refine Cj dC<|fun(s:EV) hi=>?_;obtain⟨a1,a2,a3,a4,a5⟩:=Wg hi;have i:∀e ob,e=Lx s->Ad XQ s (.dat i64 e) ob:=fun e ob x=>zR rfl rfl x
 have j:∀ {a:BX} {lo h:Int},a.length<=20->FA lo=true->FA h=true->(decide (a.length<=1000000)&&FA lo&&FA h)=true:=fun k x y=>Aa (Aa (w4<|by omega) x) y
 have b:=kP s;have bad:∀x:Int,x≠0->Um s=x->x=Lx s:=fun x h k=>by
  unfold Lx;rw[k,wd h]
 refine zL (Ap s) ?_;conv=>zeta
 by_cases d:Bj s.1 (-10000) 10000=0
 ·rw[wc<|fun x=>x d]at b;refine zc (j a1 rfl rfl)<|zc (q0 d)<|zc (j a2 rfl rfl) ?_;by_cases f:Bj s.2.1 (-10000) 10000=0
  ·rw[wc<|fun x=>x f]at b;refine zc (q0 f)<|zc (j a3 rfl rfl) ?_;by_cases g:Bj s.2.2.1 0 10000=0
   ·rw[wc<|fun x=>x g]at b;refine zc (q0 g)<|zc (j a4 rfl rfl) ?_;by_cases l:Bj s.2.2.2.1 0 10000=0
    ·rw[wc<|fun x=>x l]at b;refine zj (n0 l)<|zg (fun c=>zd<|i _ _ ?_)<|fun c=>?_
     ·have c:=w6 c;rw[wd<|by omega]at b;exact bad 5 (by decide) b
     ·have c:=w7 c;rw[wc<|by omega]at b;have e:Lx s=eH s.2.2.2.2:=by
       unfold Lx;rw[wc<|fun x=>x b]
      exact loop _ _ _ _ _ (by omega) _ 0 rfl (zp _) (fun ob=>i _ _ e.symm)
    ·rw[wd l]at b;exact zc (n1 l)<|zd<|i _ _<|bad _ l b
   ·rw[wd g]at b;exact zj (q1 g)<|zc (n1 g)<|zd<|i _ _<|bad _ g b
  ·rw[wd f]at b;exact zj (q1 f)<|zj (q1 f)<|zc (n1 f)<|zd<|i _ _<|bad _ f b
 ·rw[wd d]at b;exact zc (j a1 rfl rfl)<|zj (q1 d)<|zj (q1 d)<|zj (q1 d)<|zc (n1 d)<|zd<|i _ _<|bad _ d b
end T67
end Go.Pe
namespace Go.Sp
theorem WH(l:DL):Mb l=if isName l.1=false then 8 else if Bj l.2.1 1 10000≠0 then Bj l.2.1 1 10000 else if Bj l.2.2.1 1 10000≠0 then Bj l.2.2.1 1 10000 else BF l.2.2.2.1:=by
 unfold Mb;rw[Ba,Ba,Ba,Ba,Eh];have t:(if BF l.2.2.2.1≠0 then BF l.2.2.2.1 else first [])=BF l.2.2.2.1:=by
  by_cases h:BF l.2.2.2.1=0
  ·rw[h];rfl
  ·rw[wd h]
 rw[t];cases isName l.1
 ·rfl
 ·rfl
theorem Mo{u:BX}(h:As u=0):EP u<0↔A2 u<0:=by
 have t:=(KZ h).1;have k:=KR<|A2 u;rw[t]at k;rw[k, <-(neg_num<|A2 u).1];unfold OW;constructor
 ·intro x;split at x
  ·omega
  ·split at x<;>omega
 ·intro x;rw[wd x];decide
theorem bV{seen:List BX}{w:Cs}{l:List Cs}{o:List BX}(h:∀x,x∈o↔x∈seen):Yn seen (w::l)=if I1 w.1 o≠0 then I1 w.1 o else if As w.2≠0 then As w.2 else if A2 w.2<0 then 3 else Yn (w.1::seen) l:=by
 rw[Yn,RH];unfold has;cases isName w.1
 ·rfl
 ·by_cases k:w.1∈o
  ·rw[w4<|(h _).1 k,wd k];rfl
  ·rw[w8<|fun x=>k<|(h _).2 x,wc k];rfl
theorem NT{o seen:List BX}(h:∀x,x∈o↔x∈seen)(k:BX):∀x,x∈o++[k]↔x∈k::seen:=fun x=>by
 rw[List.mem_append,List.mem_singleton,zN,h x];exact Or.comm
end Go.Sp
namespace Go.Pe
open Sp
open Go.Det
open Go.Sp (ER EV DL Cs K9 BX Fg q0 q1 n0 n1)
theorem dU:D3 O9:=Ac T58.ok<|Ac T59.ok<|Ac T60.ok<|Ac T36.ok<|Ac T61.ok<|Ac T62.ok<|Ac T38.ok AP
namespace T14
variable {Q:PV->Ob->Prop}
theorem HQ(m j nx:BX)(t w:List Cs)(u:w.length<=16)(l:∀p∈w,p.2.length<=1000000):∀(r:List Cs) (i n:Nat) (o seen:List BX),w.drop i=r->i<=w.length->n=o.length->n=i->(∀x,x∈o↔x∈seen)->(∀ob,Q (.dat i64<|Yn seen r) ob)->Ends O9 (L3 n (i:Int) o m j nx t w) Q
 |[],i,n,o,seen,h,q,f,b,g,a=>by
  have:=drop_nil h q;exact zf (BE ..) (zj (w8<|by omega)<|zd<|a _)
 |p::r,i,n,o,seen,h,q,f,b,g,a=>by
  obtain⟨v,y,B⟩:=drop_cons (d:=(([],[]):Cs)) h;have s:=l p (zl<|by rw[h];exact zk ..);have z:zh .i64 ((i:Int)+1)=((i+1:Nat):Int):=by rw[wr _ (by omega)<|by omega];omega
  have e:(decide ((0:Int)<=(i:Int))&&decide ((i:Int)<(w.length:Int)))=true:=Aa (w4<|by omega) (w4<|by omega);have tk:List.take n o=o:=by rw[f,zn]
  rw[bV g]at a;refine zf (BE ..) ?_;conv=>zeta
  rw[ze,y,z,tk];have pn:(decide (0+n<=o.length)&&true&&decide (o.length<=1000))=true:=Aa (Aa (w4<|by omega) rfl) (w4<|by omega);have A:(decide (1<=1)&&true&&decide (n=o.length)&&decide ((3*(n+1)+2000)*16<=562949953421312))=true:=Aa (Aa (Aa rfl rfl)<|w4 f) (w4<|by omega);refine zc (w4<|by omega)<|zc e<|zc pn ?_;by_cases c:I1 p.1 o=0
  ·rw[wc<|fun x=>x c]at a;refine zc (q0 c)<|zc e<|zc (w4 s) ?_;by_cases d:As p.2=0
   ·rw[wc<|fun x=>x d]at a;refine zc (q0 d)<|zc e<|zc (w4 s)<|zg (fun k=>zc rfl (zd ?_))<|fun k=>zj (n0 d)<|zc e<|zc A ?_
    ·rw[wd<|(Mo d).1<|w6 k]at a;exact a _
    ·rw[wc fun x=>w7 k<|(Mo d).2 x]at a;exact HQ m j nx t w u l r (i+1) (zz n 1) (o++[p.1]) (p.1::seen) B v (by rw[zo,f];rfl) (by rw[b]) (NT g p.1) a
   ·rw[wd d]at a;exact zj (q1 d)<|zc (n1 d)<|zd<|a _
  ·rw[wd c]at a;exact zj (q1 c)<|zj (q1 c)<|zc (n1 c)<|zd<|a _
theorem Fb(g e nx:BX)(t w:List Cs)(h:w.length<=16)(f:∀p∈w,p.2.length<=1000000)(a:∀ob,Q (.dat i64<|Yn [] w) ob):Ends O9 (L2 0 g e nx t w) Q:=by
 cases w with
 |nil=>exact zf (AK ..)<|zj rfl (zd<|a _)
 |cons p r=>
  have s:=f p<|zk ..;have j:zh .i64 ((0:Int)+1)=((1:Nat):Int):=rfl;have i:(p::r).getD (zt 0) ([],[])=p:=rfl;have b:(decide ((0:Int)<=(0:Int))&&decide ((0:Int)<((p::r).length:Int)))=true:=Aa rfl (w4<|by rw[zi];omega);have m:∀x:BX,x∈([]:List BX)↔x∈([]:List BX):=fun x=>yb
  rw[bV m]at a;refine zf (AK ..) ?_;conv=>zeta
  rw[i,j];have l:(decide (1<=1)&&decide (0<1)&&decide ((3*1+2000)*16<=562949953421312))=true:=Aa (Aa rfl rfl) (w4 (by omega));refine zc (w4<|by rw[zi];omega)<|zc b<|zc rfl ?_;by_cases c:I1 p.1 []=0
  ·rw[wc<|fun x=>x c]at a;refine zc (q0 c)<|zc b<|zc (w4 s) ?_;by_cases d:As p.2=0
   ·rw[wc<|fun x=>x d]at a;refine zc (q0 d)<|zc b<|zc (w4 s)<|zg (fun k=>zc rfl (zd ?_))<|fun k=>zj (n0 d)<|zc b<|zc l ?_
    ·rw[wd<|(Mo d).1<|w6 k]at a;exact a _
    ·rw[wc fun x=>w7 k<|(Mo d).2 x]at a;exact HQ g e nx t (p::r) h f r 1 1 [p.1] [p.1] rfl (by rw[zi];omega) rfl rfl (fun x=>yb) a
   ·rw[wd d]at a;exact zj (q1 d)<|zc (n1 d)<|zd<|a _
  ·rw[wd c]at a;exact zj (q1 c)<|zj (q1 c)<|zc (n1 c)<|zd<|a _
theorem FJ(e b nx:BX)(t w:List Cs)(l:t.length<=1000)(f:∀p∈t,As p.1=0/\As p.2=0)(j:∀p∈w,p.2.length<=1000000):∀(r:List Cs) (i:Nat),t.drop i=r->1<=i->i<=t.length->(∀ob,Q (.dat i64<|if RR (some (t.getD (i-1) ([],[])).2) r≠0 then RR (some (t.getD (i-1) ([],[])).2) r else NO w) ob)->Ends O9 (L1 (i:Int) e b nx t w) Q
 |[],i,h,m,k,a=>by
  have:=drop_nil h k;have a:∀ob,Q (.dat i64<|NO w) ob:=fun ob=>by
   have:=a ob;rwa [show RR (some (t.getD (i-1) ([],[])).2) []=0 from rfl,wc<|fun x=>x rfl]at this
  unfold NO at a;refine zf (Al ..) (zj (w8<|by omega)<|zg (fun c=>zd ?_)<|fun c=>?_)
  ·have c:=w6 c;rw[wd<|by omega]at a;exact a _
  ·have c:=w7 c;rw[wc<|by omega]at a;exact Fb e b nx t w (by omega) j a
 |p::r,i,h,m,k,a=>by
  obtain⟨n,g,v⟩:=drop_cons (d:=(([],[]):Cs)) h;have s:=f p (zl<|by rw[h];exact zk ..);have u:=f (t.getD (i-1) ([],[])) (Ms<|by omega);have o:zh .i64 ((i:Int)+1)=((i+1:Nat):Int):=by rw[wr _ (by omega)<|by omega];omega
  have q:zh .i64 ((i:Int)-1)=((i-1:Nat):Int):=by rw[wr _ (by omega)<|by omega];omega
  rw[Td]at a;refine zf (Al ..) ?_;conv=>zeta
  rw[q,ze,ze,g,o];refine zc (w4<|by omega) (zc (Aa (w4<|by omega)<|w4<|by omega)<|zc (Aa (w4<|by omega)<|w4<|by omega) (zc (Aa (Dy s.2).1<|(NS u.2).FV<|by decide)<|zg (fun d=>zd ?_)<|fun d=>?_))
  ·rw[wd<|w6 d,wd<|by decide]at a;exact a _
  ·rw[wc<|w7 d]at a;exact FJ e b nx t w l f j r (i+1) v (by omega) n (by rw[Nat.add_sub_cancel,g];exact a)
theorem ok:Ag Bm 14 mD:=by
 refine Cj dU<|fun(l:DL) hi=>?_;have j:=Wp hi;have m:∀e ob,e=Iq l->Ad mD l (.dat i64 e) ob:=fun e ob x=>zR rfl rfl x
 have i:IX 1000000 l.2.2.2.1=true:=by
  unfold IX;rw[zq];intro p i;have:=j.tab p i;exact Aa (w4<|by omega) (w4 (by omega))
 have a1:=j.head;have a2:=j.next;have a3:=j.tl;have q:∀p∈l.2.2.2.2,p.2.length<=1000000:=fun p i=>by have:=(j.wts p i).2;omega
 have n:∀ {a:BX},a.length<=20->(decide (a.length<=1000000)&&FA 1&&FA 10000)=true:=fun k=>Aa (Aa (w4<|by omega) rfl) rfl
 have t:(decide (l.2.2.2.1.length<=1000)&&IX 1000000 l.2.2.2.1)=true:=Aa (w4<|by omega) i;have b:=WH l;have bad:∀x:Int,x≠0->Mb l=x->x=Iq l:=fun x h k=>by
  unfold Iq;rw[k,wd h]
 refine zL (Ap l)<|zc rfl (zg (fun c=>zd<|m _ _ ?_)<|fun c=>zc (n a1) ?_)
 ·have c:Sp.isName l.1=false:=by simpa using c
  rw[wd c]at b;exact bad 8 (by decide) b
 have c:¬Sp.isName l.1=false:=by simpa using c
 rw[wc c]at b;by_cases f:Bj l.2.1 1 10000=0
 ·rw[wc<|fun x=>x f]at b;refine zc (q0 f)<|zc (n a2) ?_;by_cases g:Bj l.2.2.1 1 10000=0
  ·rw[wc<|fun x=>x g]at b;refine zc (q0 g) (zc t<|zg (fun d=>zd<|m _ _<|bad _ (by simpa using d) b)<|fun d=>?_);have ct:BF l.2.2.2.1=0:=by simpa using d
   rw[ct]at b;obtain⟨o,_,u⟩:=LL ct;obtain⟨p,r,hr⟩:∃p r,l.2.2.2.1=p::r:=by
    cases e:l.2.2.2.1 with
    |nil=>exact wh e o
    |cons p r=>exact⟨p,r,rfl⟩
   have s:l.2.2.2.1.getD (1-1) ([],[])=p:=by rw[hr];rfl
   have up:RR none l.2.2.2.1=RR (some p.2) r:=by rw[hr,RR]
   refine FJ _ _ _ _ _ (by omega) (Mq u) q r 1 (by rw[hr];rfl) (by omega) (by rw[hr,zi];omega)<|fun ob=>m _ _ ?_;rw[s, <-up];exact(wc (c:=Mb l≠0)<|fun x=>x b).symm
  ·rw[wd g]at b;exact zj (q1 g)<|zc (n1 g)<|zd<|m _ _<|bad _ g b
 ·rw[wd f]at b;exact zj (q1 f)<|zj (q1 f)<|zc (n1 f)<|zd<|m _ _<|bad _ f b
end T14
end Go.Pe
namespace Go.Sp
theorem VC{n:Int}{seen:List BX}{t:Fg}{l:List Fg}{o:List BX}(h:∀x,x∈o↔x∈seen):Ga n seen (t::l)=if I1 t.1 o≠0 then I1 t.1 o else if (t.2.length:Int)≠n then 2 else if Ee t.2=true then 3 else Ga n (t.1::seen) l:=by
 rw[Ga,RH];unfold has;cases isName t.1
 ·rfl
 ·by_cases k:t.1∈o
  ·rw[w4<|(h _).1 k,wd k];rfl
  ·rw[w8<|fun x=>k<|(h _).2 x,wc k];rfl
theorem cI{l:DL}(h:Iq l=0):isName l.1=true:=by
 cases k:isName l.1 with
 |true=>rfl
 |false=>
  have e:=WH l;rw[wd k]at e;unfold Iq at h;rw[e,wd<|by decide]at h;exact wh h (by decide)
theorem Ww{seen:List BX}{l:DL}{r:List DL}{o:List BX}(h:∀x,x∈o↔x∈seen):Md seen (l::r)=if Iq l≠0 then Iq l else if I1 l.1 o≠0 then I1 l.1 o else Md (l.1::seen) r:=by
 rw[Md];by_cases e:Iq l=0
 ·have a:¬Iq l≠0:=fun x=>x e
  rw[wc a,wc a,TD<|cI e];unfold has;by_cases k:l.1∈o
  ·rw[w4<|(h _).1 k,wd k];rfl
  ·rw[w8<|fun x=>k<|(h _).2 x,wc k];rfl
 ·rw[wd e,wd e]
theorem Pz(n:Int)(r:List Int):Ee (n::r)=((decide (n<1)||decide (10000<n))||Ee r):=by unfold Ee;rw[List.any_cons]
theorem O2{α:Type}{l:List α}:((l.length:Int)==0)=true↔l=[]:=by
 rw[wj];constructor
 ·intro h;exact zX.1 (by omega)
 ·intro h;rw[h];rfl
end Go.Sp
namespace Go.Pe
open Sp
open Go.Det
open Go.Sp (ER EV DL Cs K9 BX Fg q0 q1 n0 n1)
theorem aV:D3 Ea:=Ac T67.ok<|Ac T61.ok<|Ac T14.ok AP
theorem JR{α:Type}{X:AW}{Q:PV->Ob->Prop}{l:List α}{m:Nat}{e:Int}{s1 s2:Ob}{t:Tr}(a:∀ob,Q (.dat i64<|if l=[]then 12 else if m<l.length then 5 else e) ob)(b:l≠[]->l.length<=m->(∀ob,Q (.dat i64 e) ob)->Ends X t Q):
  Ends X (.ite ((l.length:Int)==0) (.leaf (.dat i64 12) s1)<|.ite (decide ((l.length:Int)>(m:Int))) (.leaf (.dat i64 5) s2) t) Q:=by
 refine zg (fun c=>zd ?_)<|fun c=>zg (fun d=>zd ?_)<|fun d=>?_
 ·rw[wd<|O2.1 c]at a;exact a _
 ·have c:l≠[]:=fun x=>by rw[O2.2 x]at c;cases c
  have d:=w6 d;rw[wc c,wd<|by omega]at a;exact a _
 ·have c:l≠[]:=fun x=>by rw[O2.2 x]at c;cases c
  have d:=w7 d;rw[wc c,wc<|by omega]at a;exact b c (by omega) a
namespace T16
variable {Q:PV->Ob->Prop}
theorem mZ(S:List EV)(k:List Fg)(l:List DL)(w:l.length<=8)(j:∀x∈l,zO x=true):∀(r:List DL) (i n:Nat) (o seen:List BX),l.drop i=r->i<=l.length->n=o.length->n=i->(∀x,x∈o↔x∈seen)->(∀ob,Q (.dat i64<|Md seen r) ob)->Ends Ea (L6 n (i:Int) o S k l) Q
 |[],i,n,o,seen,h,m,e,b,f,a=>by
  have:=drop_nil h m;exact zf (Fj ..) (zj (w8<|by omega)<|zd<|a _)
 |p::r,i,n,o,seen,h,m,e,b,f,a=>by
  obtain⟨q,t,y⟩:=drop_cons (d:=(([],[],[],[],[]):DL)) h;have s:=j p (zl<|by rw[h];exact zk ..);have u:zh .i64 ((i:Int)+1)=((i+1:Nat):Int):=by rw[wr _ (by omega)<|by omega];omega
  have g:(decide ((0:Int)<=(i:Int))&&decide ((i:Int)<(l.length:Int)))=true:=Aa (w4<|by omega) (w4<|by omega);have tk:List.take n o=o:=by rw[e,zn]
  rw[Ww f]at a;refine zf (Fj ..) ?_;conv=>zeta
  rw[ze,t,u,tk];have pn:(decide (0+n<=o.length)&&true&&decide (o.length<=1000))=true:=Aa (Aa (w4<|by omega) rfl) (w4<|by omega);have v:(decide (1<=1)&&true&&decide (n=o.length)&&decide ((3*(n+1)+2000)*16<=562949953421312))=true:=Aa (Aa (Aa rfl rfl)<|w4 e) (w4<|by omega);refine zc (w4<|by omega)<|zc g<|zc s ?_;by_cases c:Iq p=0
  ·rw[wc<|fun x=>x c]at a;refine zc (q0 c)<|zc g<|zc pn<|zg (fun d=>zd ?_)<|fun d=>zc g<|zc v ?_
   ·rw[wd<|by simpa using d]at a;exact a _
   ·rw[wc<|by simpa using d]at a;exact mZ S k l w j r (i+1) (zz n 1) (o++[p.1]) (p.1::seen) y q (by rw[zo,e];rfl) (by rw[b]) (NT f p.1) a
  ·rw[wd c]at a;exact zj (q1 c)<|zc (n1 c)<|zd<|a _
theorem Sm(S:List EV)(f:List Fg)(l:List DL)(h:l.length<=8)(e:∀x∈l,zO x=true)(a:∀ob,Q (.dat i64<|Md [] l) ob):Ends Ea (L4 0 S f l) Q:=by
 cases l with
 |nil=>exact zf (Cf ..)<|zj rfl (zd<|a _)
 |cons p r=>
  have s:=e p<|zk ..;have i:zh .i64 ((0:Int)+1)=((1:Nat):Int):=rfl;have g:(p::r).getD (zt 0) ([],[],[],[],[])=p:=rfl;have b:(decide ((0:Int)<=(0:Int))&&decide ((0:Int)<((p::r).length:Int)))=true:=Aa rfl (w4<|by rw[zi];omega);have k:∀x:BX,x∈([]:List BX)↔x∈([]:List BX):=fun x=>yb
  rw[Ww k]at a;refine zf (Cf ..) ?_;conv=>zeta
  rw[g,i];have j:(decide (1<=1)&&decide (0<1)&&decide ((3*1+2000)*16<=562949953421312))=true:=Aa (Aa rfl rfl) (w4<|by omega);refine zc (w4<|by rw[zi];omega)<|zc b<|zc s ?_;by_cases c:Iq p=0
  ·rw[wc<|fun x=>x c]at a;refine zc (q0 c)<|zc b<|zc rfl (zg (fun d=>zd ?_)<|fun d=>zc b<|zc j ?_)
   ·rw[wd<|by simpa using d]at a;exact a _
   ·rw[wc<|by simpa using d]at a;exact mZ S f (p::r) h e r 1 1 [p.1] [p.1] rfl (by rw[zi];omega) rfl rfl (fun x=>yb) a
  ·rw[wd c]at a;exact zj (q1 c)<|zc (n1 c)<|zd<|a _
theorem eX{n:Nat}{i e j:Int}{t:Fg}{o:List BX}{S:List EV}{c:List Fg}{V:List DL}(a:e≠0)(b:∀ob,Q (.dat i64 e) ob):Ends Ea (L7 n i e j t.1 t.2 o S c V) Q:=
 zf (Dm ..) (zg (fun _=>zj (q1 a)<|zc (n1 a)<|zd<|b _)<|fun _=>zc (n1 a)<|zd<|b _)
theorem kV{i e j:Int}{t:Fg}{S:List EV}{c:List Fg}{V:List DL}(a:e≠0)(b:∀ob,Q (.dat i64 e) ob):Ends Ea (L3 i e j t.1 t.2 S c V) Q:=
 zf (BE ..) (zg (fun _=>zj (q1 a)<|zc (n1 a)<|zd<|b _)<|fun _=>zc (n1 a)<|zd<|b _)
theorem lU{n:Nat}{i:Int}{t:Fg}{o:List BX}{S:List EV}{l:List Fg}{V:List DL}(k:n=o.length)(u:n<=1000)(m:t.2.length<=40)(b:Ee t.2=true->∀ob,Q (.dat i64 3) ob)(g:Ee t.2=false->Ends Ea (L5 (zz n 1) (zh .i64<|i+1) (o++[t.1]) S l V) Q):∀(r:List Int) (j:Nat),t.2.drop j=r->j<=t.2.length->Ee t.2=Ee r->Ends Ea (L7 n i 0 (j:Int) t.1 t.2 o S l V) Q
 |[],j,h,f,a=>by
  have:=drop_nil h f;refine zf (Dm ..) (zj (w8<|by omega)<|zj rfl (zc ?_<|g a));exact Aa (Aa (Aa rfl rfl)<|w4 k) (w4<|by omega)
 |x::r,j,h,f,a=>by
  obtain⟨p,q,v⟩:=drop_cons (d:=(0:Int)) h;have s:zh .i64 ((j:Int)+1)=((j+1:Nat):Int):=by rw[wr _ (by omega)<|by omega];omega
  have e:(decide ((0:Int)<=(j:Int))&&decide ((j:Int)<(t.2.length:Int)))=true:=Aa (w4<|by omega) (w4<|by omega);rw[Pz]at a;refine zf (Dm ..) ?_;conv=>zeta
  rw[ze,q,s];refine zc (w4<|by omega)<|zc rfl (zc e<|zg (fun c=>?_)<|fun c=>zc e<|zg (fun d=>?_)<|fun d=>?_)
  ·rw[c,zx,zx]at a;exact eX (by decide)<|b a
  ·have d:decide (10000<x)=true:=d;rw[d,ya,zx]at a;exact eX (by decide)<|b a
  ·have d:decide (10000<x)=false:=d;rw[c,d,zP,zP]at a;exact lU k u m b g r (j+1) v p a
theorem HQ{i:Int}{t:Fg}{S:List EV}{k:List Fg}{V:List DL}(l:t.2.length<=40)(b:Ee t.2=true->∀ob,Q (.dat i64 3) ob)(g:Ee t.2=false->Ends Ea (L5 1 (zh .i64<|i+1) [t.1] S k V) Q):∀(r:List Int) (j:Nat),t.2.drop j=r->j<=t.2.length->Ee t.2=Ee r->Ends Ea (L3 i 0 (j:Int) t.1 t.2 S k V) Q
 |[],j,h,f,a=>by
  have:=drop_nil h f;refine zf (BE ..) (zj (w8<|by omega)<|zj rfl (zc ?_<|g a));exact Aa (Aa rfl rfl) (w4<|by omega)
 |x::r,j,h,f,a=>by
  obtain⟨m,n,p⟩:=drop_cons (d:=(0:Int)) h;have o:zh .i64 ((j:Int)+1)=((j+1:Nat):Int):=by rw[wr _ (by omega)<|by omega];omega
  have e:(decide ((0:Int)<=(j:Int))&&decide ((j:Int)<(t.2.length:Int)))=true:=Aa (w4<|by omega) (w4<|by omega);rw[Pz]at a;refine zf (BE ..) ?_;conv=>zeta
  rw[ze,n,o];refine zc (w4<|by omega)<|zc rfl (zc e<|zg (fun c=>?_)<|fun c=>zc e<|zg (fun d=>?_)<|fun d=>?_)
  ·rw[c,zx,zx]at a;exact kV (by decide)<|b a
  ·have d:decide (10000<x)=true:=d;rw[d,ya,zx]at a;exact kV (by decide)<|b a
  ·have d:decide (10000<x)=false:=d;rw[c,d,zP,zP]at a;exact HQ l b g r (j+1) p m a
theorem mL(c:ER)(l:Pj c=true)(s:c.2.1.length<=8):∀(r:List Fg) (i n:Nat) (o seen:List BX),c.2.1.drop i=r->i<=c.2.1.length->n=o.length->n=i->(∀x,x∈o↔x∈seen)->(∀ob,Q (.dat i64<|if Ga (c.1.length:Int) seen r≠0 then Ga (c.1.length:Int) seen r else OQ c) ob)->Ends Ea (L5 n (i:Int) o c.1 c.2.1 c.2.2) Q
 |[],i,n,o,seen,h,p,e,b,g,a=>by
  have:=drop_nil h p;have a:∀ob,Q (.dat i64<|OQ c) ob:=fun ob=>by
   have:=a ob;rwa [show Ga (c.1.length:Int) seen []=0 from rfl,wc<|fun x=>x rfl]at this
  refine zf (DU ..) (zj (w8<|by omega)<|JR (m:=8) a fun _ v j=>?_);exact Sm _ _ _ v (Hx l).2.2.2.2.2 j
 |t::r,i,n,o,seen,h,p,e,b,g,a=>by
  obtain⟨q,u,A⟩:=drop_cons (d:=(([],[]):Fg)) h;have st:=(Hx l).2.2.2.2.1 t (zl<|by rw[h];exact zk ..);have st:(decide (t.1.length<=40)&&decide (t.2.length<=40))=true:=st;rw[zm,w5,w5]at st;have w:zh .i64 ((i:Int)+1)=((i+1:Nat):Int):=by rw[wr _ (by omega)<|by omega];omega
  have y:(decide ((0:Int)<=(i:Int))&&decide ((i:Int)<(c.2.1.length:Int)))=true:=Aa (w4<|by omega) (w4<|by omega);have tk:List.take n o=o:=by rw[e,zn]
  have pn:(decide (0+n<=o.length)&&true&&decide (o.length<=1000))=true:=Aa (Aa (w4<|by omega) rfl) (w4 (by omega));rw[VC g]at a;refine zf (DU ..) ?_;conv=>zeta
  rw[ze,u,tk];refine zc (w4<|by omega)<|zc y<|zc pn ?_;by_cases k:I1 t.1 o=0
  ·have z:¬I1 t.1 o≠0:=fun x=>x k
   rw[wc z]at a;refine zc (q0 k)<|zg (fun d=>?_)<|fun d=>?_
   ·have d:(t.2.length:Int)≠(c.1.length:Int):=by simpa using d
    rw[wd d,wd<|by decide]at a;exact eX (by decide) a
   ·have d:¬(t.2.length:Int)≠(c.1.length:Int):=by simpa using d
    rw[wc d]at a;rw[k];refine lU e (by omega) st.2 (fun f=>?_) (fun f=>?_) t.2 0 rfl (zp _) rfl
    ·rw[wd f,wd<|by decide]at a;exact a
    ·rw[wc (c:=Ee t.2=true)<|by rw[f];decide]at a;rw[w];exact mL c l s r (i+1) (zz n 1) (o++[t.1]) (t.1::seen) A q (by rw[zo,e];rfl) (by rw[b]) (NT g t.1) a
  ·rw[wd k,wd k]at a;exact zj (q1 k)<|eX k a
theorem Fb(c:ER)(e:Pj c=true)(g:c.2.1.length<=8)(a:∀ob,Q (.dat i64<|if Ga (c.1.length:Int) [] c.2.1≠0 then Ga (c.1.length:Int) [] c.2.1 else OQ c) ob):Ends Ea (L2 0 c.1 c.2.1 c.2.2) Q:=by
 obtain⟨S,tt,V⟩:=c;cases tt with
 |nil=>
  have a:∀ob,Q (.dat i64<|OQ (S,[],V)) ob:=a;refine zf (AK ..)<|zj rfl (JR (m:=8) a fun _ i b=>?_);exact Sm _ _ _ i (Hx e).2.2.2.2.2 b
 |cons t r=>
  have st:=(Hx e).2.2.2.2.1 t<|zk ..;have st:(decide (t.1.length<=40)&&decide (t.2.length<=40))=true:=st;rw[zm,w5,w5]at st;have j:zh .i64 ((0:Int)+1)=((1:Nat):Int):=rfl;have h:(t::r).getD (zt 0) ([],[])=t:=rfl;have n:(decide ((0:Int)<=(0:Int))&&decide ((0:Int)<((t::r).length:Int)))=true:=Aa rfl (w4<|by rw[zi];omega);have l:∀x:BX,x∈([]:List BX)↔x∈([]:List BX):=fun x=>yb
  have a:∀ob,Q (.dat i64<|if Ga (S.length:Int) [] (t::r)≠0 then Ga (S.length:Int) [] (t::r)else OQ (S,t::r,V)) ob:=a;rw[VC l]at a;show Ends Ea (L2 0 S (t::r) V) Q;refine zf (AK ..) ?_;conv=>zeta
  rw[h];refine zc (w4<|by rw[zi];omega)<|zc n<|zc rfl ?_;by_cases k:I1 t.1 []=0
  ·have o:¬I1 t.1 []≠0:=fun x=>x k
   rw[wc o]at a;refine zc (q0 k)<|zg (fun d=>?_)<|fun d=>?_
   ·have d:(t.2.length:Int)≠(S.length:Int):=by simpa using d
    rw[wd d,wd<|by decide]at a;exact kV (by decide) a
   ·have d:¬(t.2.length:Int)≠(S.length:Int):=by simpa using d
    rw[wc d]at a;rw[k];refine HQ st.2 (fun f=>?_) (fun f=>?_) t.2 0 rfl (zp _) rfl
    ·rw[wd f,wd<|by decide]at a;exact a
    ·rw[wc (c:=Ee t.2=true)<|by rw[f];decide]at a;rw[j];exact mL (S,t::r,V) e g r 1 1 [t.1] [t.1] rfl (by rw[zi];omega) rfl rfl (fun x=>yb) a
  ·rw[wd k,wd k]at a;exact zj (q1 k)<|kV k a
theorem FJ(c:ER)(e:Pj c=true):∀(r:List EV) (i:Nat),c.1.drop i=r->i<=c.1.length->
  (∀ob,Q (.dat i64<|if JH r≠0 then JH r else SJ c) ob)->Ends Ea (L1 (i:Int) c.1 c.2.1 c.2.2) Q
 |[],i,h,f,a=>by
  have:=drop_nil h f;have a:∀ob,Q (.dat i64<|SJ c) ob:=fun ob=>by
   have:=a ob;rwa [show JH []=0 from rfl,wc<|fun x=>x rfl]at this
  refine zf (Al ..) (zj (w8<|by omega)<|JR (m:=8) a fun _ k b=>?_);exact Fb c e k b
 |p::r,i,h,f,a=>by
  obtain⟨g,j,o⟩:=drop_cons (d:=(([],[],[],[],[]):EV)) h;have s:=Hx e;have sp:=s.2.2.2.1 p (zl<|by rw[h];exact zk ..);have q:=s.1;have l:zh .i64 ((i:Int)+1)=((i+1:Nat):Int):=by rw[wr _ (by omega)<|by omega];omega
  rw[Qa]at a;refine zf (Al ..) ?_;conv=>zeta
  rw[ze,j,l];refine zc (w4<|by omega) (zc (Aa (w4<|by omega)<|w4<|by omega)<|zc sp<|zg (fun d=>zd ?_)<|fun d=>?_)
  ·have d:(Lx p !=0)=true:=d;have d:Lx p≠0:=by simpa using d
   rw[wd d,wd d]at a;exact a _
  ·have d:(Lx p !=0)=false:=d;have n:¬Lx p≠0:=by simpa using d
   rw[wc n]at a;exact FJ c e r (i+1) o g a
theorem ok:Ag Bm 16 rK:=by
 refine Cj aV<|fun(c:ER) a=>?_;have a:Pj c=true:=a;have d:∀ob,Ad rK c (.dat i64<|fG c) ob:=fun ob=>zR rfl rfl rfl
 refine zL (Ap c)<|JR (m:=36) d fun _ _ b=>?_;exact FJ c a c.1 0 rfl (zp _) b
end T16
end Go.Pe
namespace Go.Sp
theorem P8(p:Cs)(l:List Cs)(n m:Nat):H8 (p::l) n m=((decide (p.1.length<=n)&&decide (p.2.length<=m))&&H8 l n m):=by unfold H8;rw[zS]
end Go.Sp
namespace Go.Pe
open Sp
open Go.Det
open Go.Sp (ER EV DL Cs K9 BX Fg q0 q1 n0 n1)
theorem S3:D3 Lo:=fun g sp h=>by cases h
namespace T11
variable {Q:PV->Ob->Prop}
theorem Fb(g e nx:BX)(t w:List Cs)(j:w.length<=20):∀(r:List Cs) (i:Nat),w.drop i=r->i<=w.length->(∀ob,Q (.bl<|H8 r 40 20) ob)->Ends Lo (L2 (i:Int) g e nx t w) Q
 |[],i,h,f,a=>by
  have:=drop_nil h f;exact zf (AK ..) (zj (w8<|by omega)<|zd<|a _)
 |p::r,i,h,f,a=>by
  obtain⟨k,l,n⟩:=drop_cons (d:=(([],[]):Cs)) h;have m:zh .i64 ((i:Int)+1)=((i+1:Nat):Int):=by rw[wr _ (by omega)<|by omega];omega
  have b:(decide ((0:Int)<=(i:Int))&&decide ((i:Int)<(w.length:Int)))=true:=Aa (w4<|by omega) (w4<|by omega);rw[P8]at a;refine zf (AK ..) ?_;conv=>zeta
  rw[ze,l,m];refine zc (w4<|by omega)<|zc b<|zg (fun c=>zd ?_)<|fun c=>zc b<|zg (fun d=>zd ?_)<|fun d=>Fb g e nx t w j r (i+1) n k ?_
  ·have c:=w6 c;rw[w8 (by omega),zu,zu]at a;exact a _
  ·have d:=w6 d;rw[w8 (p:=p.2.length<=20) (by omega),zY,zu]at a;exact a _
  ·have c:=w7 c;have d:=w7 d;rw[w4 (p:=p.1.length<=40) (by omega),w4 (p:=p.2.length<=20) (by omega),zT,z6]at a;exact a
theorem FJ(e b nx:BX)(t w:List Cs)(k:t.length<=70)(f:w.length<=20):∀(r:List Cs) (i:Nat),t.drop i=r->i<=t.length->(∀ob,Q (.bl<|H8 r 20 20&&H8 w 40 20) ob)->Ends Lo (L1 (i:Int) e b nx t w) Q
 |[],i,h,j,a=>by
  have:=drop_nil h j;have a:∀ob,Q (.bl<|H8 w 40 20) ob:=a;exact zf (Al ..) (zj (w8<|by omega)<|Fb e b nx t w f w 0 rfl (zp _) a)
 |p::r,i,h,j,a=>by
  obtain⟨l,m,o⟩:=drop_cons (d:=(([],[]):Cs)) h;have n:zh .i64 ((i:Int)+1)=((i+1:Nat):Int):=by rw[wr _ (by omega)<|by omega];omega
  have g:(decide ((0:Int)<=(i:Int))&&decide ((i:Int)<(t.length:Int)))=true:=Aa (w4<|by omega) (w4<|by omega);rw[P8]at a;refine zf (Al ..) ?_;conv=>zeta
  rw[ze,m,n];refine zc (w4<|by omega)<|zc g<|zg (fun c=>zd ?_)<|fun c=>zc g<|zg (fun d=>zd ?_)<|fun d=>FJ e b nx t w k f r (i+1) o l ?_
  ·have c:=w6 c;rw[w8 (p:=p.1.length<=20) (by omega),zu,zu,zu]at a;exact a _
  ·have d:=w6 d;rw[w8 (p:=p.2.length<=20) (by omega),zY,zu,zu]at a;exact a _
  ·have c:=w7 c;have d:=w7 d;rw[w4 (p:=p.1.length<=20) (by omega),w4 (p:=p.2.length<=20) (by omega),zT,z6]at a;exact a
theorem ok:Ag Bm 11 TC:=by
 refine Cj S3<|fun(l:DL) _=>?_;have f:∀b ob,b=zO l->Ad TC l (.bl b) ob:=fun b ob x=>zR rfl rfl x
 have no:∀ob,zO l=false->Ad TC l (.bl false) ob:=fun ob h=>f _ ob h.symm
 refine zL (Ap l)<|zg (fun a=>zd<|no _ ?_)<|fun a=>zg (fun b=>zd<|no _ ?_)<|fun b=>zg (fun c=>zd<|no _ ?_)<|fun c=>zg (fun d=>zd<|no _ ?_)<|fun d=>zg (fun e=>zd<|no _ ?_)<|fun e=>?_;all_goals simp only[w5,w9]at*
 ·unfold zO;rw[w8<|by omega];rfl
 ·unfold zO;rw[w8 (p:=l.2.1.length<=20)<|by omega];simp
 ·unfold zO;rw[w8 (p:=l.2.2.1.length<=20)<|by omega];simp
 ·unfold zO;rw[w8 (p:=l.2.2.2.1.length<=70)<|by omega];simp
 ·unfold zO;rw[w8 (p:=l.2.2.2.2.length<=20)<|by omega];simp
 ·refine FJ _ _ _ _ _ (by omega) (by omega) _ 0 rfl (zp _) (fun ob=>f _ ob ?_);unfold zO;rw[w4 (p:=l.1.length<=40) (by omega),w4 (p:=l.2.1.length<=20) (by omega),w4 (p:=l.2.2.1.length<=20) (by omega),w4 (p:=l.2.2.2.1.length<=70) (by omega),w4 (p:=l.2.2.2.2.length<=20)<|by omega];rfl
end T11
theorem bS:D3 Pm:=Ac T11.ok AP
namespace T9
variable {Q:PV->Ob->Prop}
theorem HQ(S:List EV)(b:List Fg)(V:List DL)(j:V.length<=10):∀(r:List DL) (i:Nat),V.drop i=r->i<=V.length->(∀ob,Q (.bl<|r.all zO) ob)->Ends Pm (L3 (i:Int) S b V) Q
 |[],i,h,e,a=>by
  have:=drop_nil h e;exact zf (BE ..) (zj (w8<|by omega)<|zd<|a _)
 |p::r,i,h,e,a=>by
  obtain⟨f,k,m⟩:=drop_cons (d:=(([],[],[],[],[]):DL)) h;have l:zh .i64 ((i:Int)+1)=((i+1:Nat):Int):=by rw[wr _ (by omega)<|by omega];omega
  have g:(decide ((0:Int)<=(i:Int))&&decide ((i:Int)<(V.length:Int)))=true:=Aa (w4<|by omega) (w4<|by omega);rw[zS]at a;refine zf (BE ..) ?_;conv=>zeta
  rw[ze,k,l];refine zc (w4<|by omega)<|zc g<|zc rfl (zg (fun c=>zd ?_)<|fun c=>HQ S b V j r (i+1) m f ?_)
  ·have c:(!zO p)=true:=c;have c:zO p=false:=by simpa using c
   rw[c]at a;exact a _
  ·have c:(!zO p)=false:=c;have c:zO p=true:=by simpa using c
   rw[c]at a;exact a
theorem Fb(S:List EV)(b:List Fg)(V:List DL)(k:b.length<=10)(g:V.length<=10):∀(r:List Fg) (i:Nat),b.drop i=r->i<=b.length->(∀ob,Q (.bl<|r.all Sp.Ph&&V.all zO) ob)->Ends Pm (L2 (i:Int) S b V) Q
 |[],i,h,j,a=>by
  have:=drop_nil h j;have a:∀ob,Q (.bl<|V.all zO) ob:=a;exact zf (AK ..) (zj (w8<|by omega)<|HQ S b V g V 0 rfl (zp _) a)
 |p::r,i,h,j,a=>by
  obtain⟨l,m,o⟩:=drop_cons (d:=(([],[]):Fg)) h;have n:zh .i64 ((i:Int)+1)=((i+1:Nat):Int):=by rw[wr _ (by omega)<|by omega];omega
  have f:(decide ((0:Int)<=(i:Int))&&decide ((i:Int)<(b.length:Int)))=true:=Aa (w4<|by omega) (w4<|by omega);rw[zS]at a;refine zf (AK ..) ?_;conv=>zeta
  rw[ze,m,n];have e:Sp.Ph p=(decide (p.1.length<=40)&&decide (p.2.length<=40)):=rfl;refine zc (w4<|by omega)<|zc f<|zg (fun c=>zd ?_)<|fun c=>zc f<|zg (fun d=>zd ?_)<|fun d=>Fb S b V k g r (i+1) o l ?_
  ·have c:=w6 c;rw[e,w8 (p:=p.1.length<=40)<|by omega]at a;exact a _
  ·have d:=w6 d;rw[e,w8 (p:=p.2.length<=40) (by omega),zY]at a;exact a _
  ·have c:=w7 c;have d:=w7 d;rw[e,w4 (p:=p.1.length<=40) (by omega),w4 (p:=p.2.length<=40)<|by omega]at a;exact a
theorem FJ(S:List EV)(g:List Fg)(V:List DL)(o:S.length<=38)(j:g.length<=10)(k:V.length<=10):∀(r:List EV) (i:Nat),S.drop i=r->i<=S.length->(∀ob,Q (.bl<|r.all yd&&(g.all Sp.Ph&&V.all zO)) ob)->Ends Pm (L1 (i:Int) S g V) Q
 |[],i,h,l,f=>by
  have:=drop_nil h l;have f:∀ob,Q (.bl<|g.all Sp.Ph&&V.all zO) ob:=f;exact zf (Al ..) (zj (w8<|by omega)<|Fb S g V j k g 0 rfl (zp _) f)
 |p::r,i,h,l,f=>by
  obtain⟨m,n,t⟩:=drop_cons (d:=(([],[],[],[],[]):EV)) h;have q:zh .i64 ((i:Int)+1)=((i+1:Nat):Int):=by rw[wr _ (by omega)<|by omega];omega
  have s:(decide ((0:Int)<=(i:Int))&&decide ((i:Int)<(S.length:Int)))=true:=Aa (w4<|by omega) (w4 (by omega));rw[zS]at f;refine zf (Al ..) ?_;conv=>zeta
  rw[ze,n,q];have no:yd p=false->∀ob,Q (.bl false) ob:=fun h=>by rw[h]at f;exact f
  refine zc (w4<|by omega)<|zc s<|zg (fun a=>zd<|no ?_ _)<|fun a=>zg (fun b=>zd<|no ?_ _)<|fun b=>zg (fun c=>zd<|no ?_ _)<|fun c=>zg (fun d=>zd<|no ?_ _)<|fun d=>zg (fun e=>zd<|no ?_ _)<|fun e=>FJ S g V o j k r (i+1) t m ?_
  ·have a:=w6 a;unfold yd;rw[w8 (p:=p.1.length<=20)<|by omega];rfl
  ·have b:=w6 b;unfold yd;rw[w8 (p:=p.2.1.length<=20)<|by omega];simp
  ·have c:=w6 c;unfold yd;rw[w8 (p:=p.2.2.1.length<=20)<|by omega];simp
  ·have d:=w6 d;unfold yd;rw[w8 (p:=p.2.2.2.1.length<=20)<|by omega];simp
  ·have e:=w6 e;unfold yd;rw[w8 (p:=p.2.2.2.2.length<=20)<|by omega];simp
  ·have a:=w7 a;have b:=w7 b;have c:=w7 c;have d:=w7 d;have e:=w7 e;have y:yd p=true:=by
    unfold yd;rw[w4 (p:=p.1.length<=20) (by omega),w4 (p:=p.2.1.length<=20) (by omega),w4 (p:=p.2.2.1.length<=20) (by omega),w4 (p:=p.2.2.2.1.length<=20) (by omega),w4 (p:=p.2.2.2.2.length<=20)<|by omega];rfl
   rw[y]at f;exact f
theorem ok:Ag Bm 9 fH:=by
 refine Cj bS<|fun(c:ER) _=>?_;have e:∀b ob,b=Pj c->Ad fH c (.bl b) ob:=fun b ob x=>zR rfl rfl x
 have no:∀ob,Pj c=false->Ad fH c (.bl false) ob:=fun ob h=>e _ ob h.symm
 refine zL (Ap c)<|zg (fun a=>zd<|no _ ?_)<|fun a=>zg (fun b=>zd<|no _ ?_)<|fun b=>zg (fun d=>zd<|no _ ?_)<|fun d=>?_
 ·have a:=w6 a;unfold Pj;rw[w8 (p:=c.1.length<=38)<|by omega];rfl
 ·have b:=w6 b;unfold Pj;rw[w8 (p:=c.2.1.length<=10)<|by omega];simp
 ·have d:=w6 d;unfold Pj;rw[w8 (p:=c.2.2.length<=10)<|by omega];simp
 ·have a:=w7 a;have b:=w7 b;have d:=w7 d;refine FJ _ _ _ (by omega) (by omega) (by omega) _ 0 rfl (zp _) (fun ob=>e _ ob ?_);unfold Pj;rw[w4 (p:=c.1.length<=38) (by omega),w4 (p:=c.2.1.length<=10) (by omega),w4 (p:=c.2.2.length<=10) (by omega),zT,zT,z6,Bool.and_assoc];rfl
end T9
theorem mR{s:Sh}{sz id:Nat}{ob:Ob}{fz:Bool}{t:TypeId}{o:List s.T}(b:s.sz=sz)(a:AH ob id=some (.arr fz t s o)):BM ⟨0,.leaf,ob,0⟩ (.sl id sz 0 o.length none)=some (true,.dat (.list s) o):=by
 subst b;unfold BM AG.obj;simp only[a,Nat.beq_refl,we];simp
theorem qR{b a nx:BX}{t w:List Cs}{n id:Nat}{ob:Ob}{fz:Bool}{ty:TypeId}(e:AH ob id=some (.arr fz ty JA w))(h:n=w.length):E7 ⟨0,.leaf,ob,0⟩ Ca (.agg [.dat .str b,.dat .str a,.dat .str nx,.dat (.list JA) t,.sl id 2 0 n none])=some (true,(b,a,nx,t,w)):=by
 subst h;have f:BM ⟨0,.leaf,ob,0⟩ (.sl id 2 0 w.length none)=some (true,.dat (.list JA) w):=mR (s:=JA) (sz:=2) rfl e;have g:Dv ⟨0,.leaf,ob,0⟩ (PV.cells<|.agg [.dat .str b,.dat .str a,.dat .str nx,.dat (.list JA) t,.sl id 2 0 w.length none])=some (true,[.dat .str b,.dat .str a,.dat .str nx,.dat (.list JA) t,.dat (.list JA) w]):=by
  show(match some (true,PV.dat Sh.str b),(match some (true,PV.dat Sh.str a),(match some (true,PV.dat Sh.str nx),(match some (true,PV.dat (.list JA) t),(match BM ⟨0,.leaf,ob,0⟩ (.sl id 2 0 w.length none),some (true,[])with|some (c,x),some (d,xs)=>some (c&&d,x::xs)|_,_=>none)with|some (c,x),some (d,xs)=>some (c&&d,x::xs)|_,_=>none)with|some (c,x),some (d,xs)=>some (c&&d,x::xs)|_,_=>none)with|some (c,x),some (d,xs)=>some (c&&d,x::xs)|_,_=>none)with|some (c,x),some (d,xs)=>some (c&&d,x::xs)|_,_=>none)=_;rw[f];rfl
 unfold E7;rw[g];rfl
theorem pN{b a nx:BX}{t w:List Cs}{n id:Nat}{ob:Ob}{fz:Bool}{ty:TypeId}(c:AH ob id=some (.arr fz ty JA w))(d:n=w.length):NP [Ca] (.agg [.dat .str b,.dat .str a,.dat .str nx,.dat (.list JA) t,.sl id 2 0 n none]) ob=some (true,(b,a,nx,t,w)):=qR c d
theorem sP{n m:Nat}(h:n=m)(a:n<=4398046511104):(decide (1<=1)&&true&&decide (n=m)&&decide ((3*(n+1)+2000)*32<=562949953421312))=true:=Aa (Aa (Aa rfl rfl)<|w4 h) (w4<|by omega)
namespace T12
theorem Fb(f c nx:BX)(t w:List Cs)(j l m:BX)(s:w.length<=4398046511104):∀(r:List Cs) (i n:Nat) (o:List Cs),w.drop i=r->i<=w.length->n=o.length->o=w.take i->n=i->Ends Lo (L2 (i:Int) o f c nx t n j l m f c nx t w) (Ad Wq (f,c,nx,t,w))
 |[],i,n,o,h,q,g,a,b=>by
  have e:=drop_nil h q;have a:o=w:=by rw[a,e,zn]
  subst a;exact zf (AK ..) (zj (w8<|by omega)<|zd<|zR (pN rfl g) rfl rfl)
 |p::r,i,n,o,h,q,g,a,b=>by
  have t2:=CN h;obtain⟨u,v,y⟩:=drop_cons (d:=(([],[]):Cs)) h;have x:zh .i64 ((i:Int)+1)=((i+1:Nat):Int):=by rw[wr _ (by omega)<|by omega];omega
  have k:(decide ((0:Int)<=(i:Int))&&decide ((i:Int)<(w.length:Int)))=true:=Aa (w4<|by omega) (w4<|by omega);refine zf (AK ..) ?_;conv=>zeta
  rw[ze,v,x];refine zc (w4<|by omega) (zc k (zc k<|zc (sP g<|by omega) ?_));exact Fb f c nx t w j l m s r (i+1) (zz n 1) (o++[p]) y u (by rw[zo,g];rfl) (by rw[t2,a]) (by rw[b])
theorem ok:Ag Bm 12 Wq:=by
 refine Cj S3<|fun(l:DL) hi=>?_;obtain⟨d,c,nx,t,w⟩:=l;have a:decide (w.length<=4398046511104)=true:=hi;have a:=w6 a;refine zL (Ap (d,c,nx,t,w)) ?_;conv=>zeta
 cases w with
 |nil=>exact zf (Al ..)<|zj rfl (zd<|zR rfl rfl rfl)
 |cons p r=>
  have f:zh .i64 ((0:Int)+1)=((1:Nat):Int):=rfl;have e:(p::r).getD (zt 0) ([],[])=p:=rfl;have b:(decide ((0:Int)<=(0:Int))&&decide ((0:Int)<((p::r).length:Int)))=true:=Aa rfl (w4<|by rw[zi];omega);refine zf (Al ..) ?_;conv=>zeta
  show Ends Lo (.ite (decide ((0:Int)<((p::r).length:Int))) _ _) _;rw[e,f];refine zc (w4<|by rw[zi];omega) (zc b<|zc b<|zc (Aa (Aa rfl rfl)<|w4<|by omega) ?_);exact Fb d c nx t (p::r) [] [] [] a r 1 1 [p] rfl (by rw[zi];omega) rfl rfl rfl
end T12
theorem iZ(a:Ag Bm 10 Ht):D3 vW:=Ac YF<|Ac a<|Ac T9.ok<|Ac T11.ok<|Ac T12.ok<|Ac T13.ok<|Ac T14.ok<|Ac T15.ok<|Ac T16.ok AP
theorem T3.ok(a:Ag Bm 10 Ht):Ag Bm 3 Jr:=by
 refine LD (X:=vW) rfl (iZ a) (d:=9) (by kernel_rfl) (by kernel_rfl) (by kernel_rfl) (fun(i:ER×DL) e=>?_) (BI<|by kernel_rfl);obtain⟨c,l⟩:=i;have e:(mJ c&&UJ l)=true:=e;rw[zm]at e;obtain⟨h1,h2⟩:=e;have f:∀b ob,b=true->Ad Jr (c,l) (.dat .bool b) ob:=fun b ob x=>zR rfl rfl x
 refine zL (T3.Ap c l)<|zc rfl (zj rfl (zc h1<|zc rfl (zg (fun _=>zc rfl (zd<|f _ _ rfl))<|fun s1=>zc h2<|zc rfl (zg (fun _=>zc rfl (zd<|f _ _ rfl))<|fun s2=>?_))));have s1:(!Pj c)=false:=s1;have s1:Pj c=true:=by simpa using s1
 have s2:(!zO l)=false:=s2;have s2:zO l=true:=by simpa using s2
 refine zc s2<|zc h2<|zc s2<|zc ?_<|zc s1<|zc h1<|zc s1<|zd<|f _ _ ?_
 ·show(Iq l==Iq l)=true;exact beq_self_eq_true _
 ·show(fG c==fG c)=true;exact beq_self_eq_true _
end Go.Pe
namespace Go.Pe
open Sp
open Go.Det
open Go.Sp (ER EV DL Cs K9 BX Fg)
def CV(st:AG)(s:Sh)(v:PV)(l:List s.T):Prop:=∃x,BM st v=some (true,x)/\(x=.dat (.list s) l\/x=.nil/\l=[])
theorem EI{st:AG}{s:Sh}:CV st s .nil []:=⟨.nil,rfl,.inr ⟨rfl,rfl⟩⟩
theorem Hk{s:Sh}{sz id:Nat}{ob:Ob}{fz:Bool}{t:TypeId}{l:List s.T}(b:s.sz=sz)(a:AH ob id=some (.arr fz t s l)):CV ⟨0,.leaf,ob,0⟩ s (.sl id sz 0 l.length none) l:=⟨_,mR b a,.inl rfl⟩
theorem oT{ob:Ob}{a b d:PV}{S:List EV}{e:List Fg}{V:List DL}(g:CV ⟨0,.leaf,ob,0⟩ Ft a S)(j:CV ⟨0,.leaf,ob,0⟩ Ph b e)(i:CV ⟨0,.leaf,ob,0⟩ Ca d V):E7 ⟨0,.leaf,ob,0⟩ Ve (.agg [a,b,d])=some (true,(S,e,V)):=by
 obtain⟨x,f,k⟩:=g;obtain⟨y,hy,cy⟩:=j;obtain⟨z,hz,cz⟩:=i;have h:Dv ⟨0,.leaf,ob,0⟩ (PV.cells<|.agg [a,b,d])=some (true,[x,y,z]):=by
  show(match BM ⟨0,.leaf,ob,0⟩ a,(match BM ⟨0,.leaf,ob,0⟩ b,(match BM ⟨0,.leaf,ob,0⟩ d,some (true,[])with|some (c,x),some (d,xs)=>some (c&&d,x::xs)|_,_=>none)with|some (c,x),some (d,xs)=>some (c&&d,x::xs)|_,_=>none)with|some (c,x),some (d,xs)=>some (c&&d,x::xs)|_,_=>none)=_;rw[f,hy,hz];rfl
 unfold E7;rw[h];rcases k with rfl|⟨rfl,rfl⟩<;>rcases cy with rfl|⟨rfl,rfl⟩<;>rcases cz with rfl|⟨rfl,rfl⟩<;>rfl
theorem Et{ob:Ob}{a b d:PV}{c:ER}(f:CV ⟨0,.leaf,ob,0⟩ Ft a c.1)(g:CV ⟨0,.leaf,ob,0⟩ Ph b c.2.1)(e:CV ⟨0,.leaf,ob,0⟩ Ca d c.2.2):Ad Ht c (.agg [a,b,d]) ob:=⟨c,oT f g e,rfl⟩
theorem Pk{n m k:Nat}(h:n=m)(a:(3*(n+1)+2000)*k<=562949953421312):(decide (1<=1)&&true&&decide (n=m)&&decide ((3*(n+1)+2000)*k<=562949953421312))=true:=Aa (Aa (Aa rfl rfl)<|w4 h)<|w4 a
theorem Pd{k:Nat}(a:k<=100):(decide (1<=1)&&decide (0<1)&&decide ((3*1+2000)*k<=562949953421312))=true:=Aa (Aa rfl rfl) (w4<|Nat.le_trans (Nat.mul_le_mul_left _ a)<|by decide)
structure RP(c:ER):Prop where
 s:c.1.length<=1599289640401
 t:c.2.1.length<=3518437208883
 l:c.2.2.length<=1466015503701
 so:∀x∈c.1,x.2.2.2.2.length<=5864062014805
 lo:∀x∈c.2.2,UJ x=true
theorem oY{c:ER}(h:mJ c=true):RP c:=by
 unfold mJ at h;rw[zm,zm,zm,zm,w5,w5,w5,zq,zq]at h;obtain⟨⟨⟨⟨b,f⟩,e⟩,d⟩,g⟩:=h;exact⟨b,f,e,fun x a=>w6<|d x a,g⟩
theorem Cn{i n:Nat}(h:i<n):(decide ((0:Int)<=(i:Int))&&decide ((i:Int)<(n:Int)))=true:=Aa (w4<|by omega) (w4<|by omega)
theorem eF{i:Nat}(h:i<=4611686018427387904):zh .i64 ((i:Int)+1)=((i+1:Nat):Int):=by rw[wr _ (by omega)<|by omega];omega
theorem cN:D3 BD:=Ac T12.ok AP
namespace T10
theorem uE(c:ER)(g:RP c)(q:c.1=[])(j:c.2.1=[]):∀(r:List DL) (i n:Nat) (o:List DL),c.2.2.drop i=r->i<=c.2.2.length->n=o.length->o=c.2.2.take i->n=i->Ends BD (vE (i:Int) o n c.1 c.2.1 c.2.2) (Ad Ht c)
 |[],i,n,o,h,m,f,b,a=>by
  have e:=drop_nil h m;have b:o=c.2.2:=by rw[b,e,zn]
  subst b;subst f;exact zf (YW ..) (zj (w8<|by omega) (zd<|Et (by rw[q];exact EI) (by rw[j];exact EI)<|Hk rfl rfl))
 |p::r,i,n,o,h,m,f,b,a=>by
  have t2:=CN h;obtain⟨k,t,u⟩:=drop_cons (d:=(([],[],[],[],[]):DL)) h;have s:=g.lo p (zl<|by rw[h];exact zk ..);have v:=g.l;refine zf (YW ..) ?_;conv=>zeta
  rw[ze,t,eF<|by omega];refine zc (w4<|by omega) (zc (Cn k)<|zc s<|zc (Pk f<|by omega) ?_);exact uE c g q j r (i+1) (zz n 1) (o++[p]) u k (by rw[zo,f];rfl) (by rw[t2,b]) (by rw[a])
theorem wC(c:ER)(b:RP c)(f:c.1=[])(d:c.2.1=[]):Ends BD (L7 0 c.1 c.2.1 c.2.2) (Ad Ht c):=by
 have j:=b.l;cases a:c.2.2 with
 |nil=>
  refine zf (Dm ..) (zj rfl (zd<|Et (by rw[f];exact EI) (by rw[d];exact EI)<|by rw[a];exact EI))
 |cons p r=>
  have e:0<(p::r).length:=by rw[zi];omega
  have h:(p::r).getD (zt 0) ([],[],[],[],[])=p:=rfl;have g:=b.lo p (by rw[a];exact zk ..);refine zf (Dm ..) ?_;conv=>zeta
  rw[h,show zh .i64 ((0:Int)+1)=((1:Nat):Int)from rfl];refine zc (w4<|by omega) (zc (Cn (i:=0) e)<|zc g<|zc (Pd<|by decide) ?_);have:=uE c b f d r 1 1 [p] (by rw[a];rfl) (by rw[a];exact e) rfl (by rw[a];rfl) rfl;rw[a]at this;exact this
theorem tA(c:ER)(g:RP c)(m:c.1=[]):∀(r:List DL) (i n:Nat) (o:List DL),c.2.2.drop i=r->i<=c.2.2.length->n=o.length->o=c.2.2.take i->n=i->Ends BD (vG (i:Int) o c.2.1 c.2.1.length n c.1 c.2.1 c.2.2) (Ad Ht c)
 |[],i,n,o,h,k,f,b,a=>by
  have e:=drop_nil h k;have b:o=c.2.2:=by rw[b,e,zn]
  subst b;subst f;exact zf (Zy ..) (zj (w8<|by omega)<|zd<|Et (by rw[m];exact EI) (Hk rfl rfl)<|Hk rfl rfl)
 |p::r,i,n,o,h,k,f,b,a=>by
  have t2:=CN h;obtain⟨j,s,t⟩:=drop_cons (d:=(([],[],[],[],[]):DL)) h;have q:=g.lo p (zl<|by rw[h];exact zk ..);have u:=g.l;refine zf (Zy ..) ?_;conv=>zeta
  rw[ze,s,eF<|by omega];refine zc (w4<|by omega) (zc (Cn j)<|zc q<|zc (Pk f<|by omega) ?_);exact tA c g m r (i+1) (zz n 1) (o++[p]) t j (by rw[zo,f];rfl) (by rw[t2,b]) (by rw[a])
theorem wD(c:ER)(b:RP c)(e:c.1=[]):Ends BD (pY 0 c.2.1 c.2.1.length c.1 c.2.1 c.2.2) (Ad Ht c):=by
 have h:=b.l;cases a:c.2.2 with
 |nil=>
  refine zf (QP ..) (zj rfl (zd<|Et (by rw[e];exact EI) (Hk rfl rfl)<|by rw[a];exact EI))
 |cons p r=>
  have d:0<(p::r).length:=by rw[zi];omega
  have g:(p::r).getD (zt 0) ([],[],[],[],[])=p:=rfl;have f:=b.lo p (by rw[a];exact zk ..);refine zf (QP ..) ?_;conv=>zeta
  rw[g,show zh .i64 ((0:Int)+1)=((1:Nat):Int)from rfl];refine zc (w4<|by omega) (zc (Cn (i:=0) d)<|zc f<|zc (Pd<|by decide) ?_);have:=tA c b e r 1 1 [p] (by rw[a];rfl) (by rw[a];exact d) rfl (by rw[a];rfl) rfl;rw[a]at this;exact this
theorem sS(c:ER)(g:RP c)(j:c.2.1=[]):∀(r:List DL) (i n:Nat) (o:List DL),c.2.2.drop i=r->i<=c.2.2.length->n=o.length->o=c.2.2.take i->n=i->Ends BD (vJ (i:Int) o c.1 c.1.length n c.1 c.2.1 c.2.2) (Ad Ht c)
 |[],i,n,o,h,m,f,b,a=>by
  have e:=drop_nil h m;have b:o=c.2.2:=by rw[b,e,zn]
  subst b;subst f;exact zf (Zr ..) (zj (w8<|by omega) (zd<|Et (Hk rfl rfl) (by rw[j];exact EI)<|Hk rfl rfl))
 |p::r,i,n,o,h,m,f,b,a=>by
  have t2:=CN h;obtain⟨k,s,t⟩:=drop_cons (d:=(([],[],[],[],[]):DL)) h;have q:=g.lo p (zl<|by rw[h];exact zk ..);have u:=g.l;refine zf (Zr ..) ?_;conv=>zeta
  rw[ze,s,eF<|by omega];refine zc (w4<|by omega) (zc (Cn k)<|zc q<|zc (Pk f<|by omega) ?_);exact sS c g j r (i+1) (zz n 1) (o++[p]) t k (by rw[zo,f];rfl) (by rw[t2,b]) (by rw[a])
theorem wR(c:ER)(b:RP c)(d:c.2.1=[]):Ends BD (vS 0 c.1 c.1.length c.1 c.2.1 c.2.2) (Ad Ht c):=by
 have h:=b.l;cases a:c.2.2 with
 |nil=>
  refine zf (bN ..) (zj rfl (zd<|Et (Hk rfl rfl) (by rw[d];exact EI)<|by rw[a];exact EI))
 |cons p r=>
  have e:0<(p::r).length:=by rw[zi];omega
  have g:(p::r).getD (zt 0) ([],[],[],[],[])=p:=rfl;have f:=b.lo p (by rw[a];exact zk ..);refine zf (bN ..) ?_;conv=>zeta
  rw[g,show zh .i64 ((0:Int)+1)=((1:Nat):Int)from rfl];refine zc (w4<|by omega) (zc (Cn (i:=0) e) (zc f<|zc (Pd<|by decide) ?_));have:=sS c b d r 1 1 [p] (by rw[a];rfl) (by rw[a];exact e) rfl (by rw[a];rfl) rfl;rw[a]at this;exact this
theorem uD(c:ER)(g:RP c):∀(r:List DL) (i n:Nat) (o:List DL),c.2.2.drop i=r->i<=c.2.2.length->n=o.length->o=c.2.2.take i->n=i->Ends BD (vN (i:Int) o c.2.1 c.1 c.1.length c.2.1.length n c.1 c.2.1 c.2.2) (Ad Ht c)
 |[],i,n,o,h,k,f,b,a=>by
  have e:=drop_nil h k;have b:o=c.2.2:=by rw[b,e,zn]
  subst b;subst f;exact zf (cB ..) (zj (w8<|by omega)<|zd<|Et (Hk rfl rfl) (Hk rfl rfl)<|Hk rfl rfl)
 |p::r,i,n,o,h,k,f,b,a=>by
  have t2:=CN h;obtain⟨j,q,s⟩:=drop_cons (d:=(([],[],[],[],[]):DL)) h;have m:=g.lo p (zl (by rw[h];exact zk ..));have t:=g.l;refine zf (cB ..) ?_;conv=>zeta
  rw[ze,q,eF<|by omega];refine zc (w4<|by omega) (zc (Cn j)<|zc m<|zc (Pk f<|by omega) ?_);exact uD c g r (i+1) (zz n 1) (o++[p]) s j (by rw[zo,f];rfl) (by rw[t2,b]) (by rw[a])
theorem wM(c:ER)(b:RP c):Ends BD (vK 0 c.2.1 c.1 c.1.length c.2.1.length c.1 c.2.1 c.2.2) (Ad Ht c):=by
 have g:=b.l;cases a:c.2.2 with
 |nil=>
  refine zf (dX ..) (zj rfl (zd<|Et (Hk rfl rfl) (Hk rfl rfl)<|by rw[a];exact EI))
 |cons p r=>
  have d:0<(p::r).length:=by rw[zi];omega
  have e:(p::r).getD (zt 0) ([],[],[],[],[])=p:=rfl;have f:=b.lo p (by rw[a];exact zk ..);refine zf (dX ..) ?_;conv=>zeta
  rw[e,show zh .i64 ((0:Int)+1)=((1:Nat):Int)from rfl];refine zc (w4<|by omega) (zc (Cn (i:=0) d) (zc f<|zc (Pd<|by decide) ?_));have:=uD c b r 1 1 [p] (by rw[a];rfl) (by rw[a];exact d) rfl (by rw[a];rfl) rfl;rw[a]at this;exact this
theorem yQ(c:ER)(j:RP c)(l:c.1=[]):∀(r:List Fg) (i n:Nat) (o:List Fg),c.2.1.drop i=r->i<=c.2.1.length->n=o.length->o=c.2.1.take i->n=i->Ends BD (L6 (i:Int) o n c.1 c.2.1 c.2.2) (Ad Ht c)
 |[],i,n,o,h,k,f,b,a=>by
  have e:=drop_nil h k;have b:o=c.2.1:=by rw[b,e,zn]
  subst b;subst f;exact zf (Fj ..) (zj (w8<|by omega)<|wD c j l)
 |p::r,i,n,o,h,k,f,b,a=>by
  have t2:=CN h;obtain⟨g,m,q⟩:=drop_cons (d:=(([],[]):Fg)) h;have s:=j.t;refine zf (Fj ..) ?_;conv=>zeta
  rw[ze,m,eF<|by omega];refine zc (w4<|by omega) (zc (Cn g) (zc (Cn g)<|zc (Pk f<|by omega) ?_));exact yQ c j l r (i+1) (zz n 1) (o++[p]) q g (by rw[zo,f];rfl) (by rw[t2,b]) (by rw[a])
theorem yW(c:ER)(b:RP c)(e:c.1=[]):Ends BD (L3 0 c.1 c.2.1 c.2.2) (Ad Ht c):=by
 have g:=b.t;cases a:c.2.1 with
 |nil=>
  have:=wC c b e a;rw[a]at this;exact zf (BE ..)<|zj rfl this
 |cons p r=>
  have d:0<(p::r).length:=by rw[zi];omega
  have f:(p::r).getD (zt 0) ([],[])=p:=rfl;refine zf (BE ..) ?_;conv=>zeta
  rw[f,show zh .i64 ((0:Int)+1)=((1:Nat):Int)from rfl];refine zc (w4<|by omega) (zc (Cn (i:=0) d) (zc (Cn (i:=0) d)<|zc (Pd<|by decide) ?_));have:=yQ c b e r 1 1 [p] (by rw[a];rfl) (by rw[a];exact d) rfl (by rw[a];rfl) rfl;rw[a]at this;exact this
theorem tV(c:ER)(j:RP c):∀(r:List Fg) (i n:Nat) (o:List Fg),c.2.1.drop i=r->i<=c.2.1.length->n=o.length->o=c.2.1.take i->n=i->Ends BD (sB (i:Int) o c.1 c.1.length n c.1 c.2.1 c.2.2) (Ad Ht c)
 |[],i,n,o,h,k,f,b,a=>by
  have e:=drop_nil h k;have b:o=c.2.1:=by rw[b,e,zn]
  subst b;subst f;exact zf (cC ..) (zj (w8<|by omega)<|wM c j)
 |p::r,i,n,o,h,k,f,b,a=>by
  have t2:=CN h;obtain⟨g,l,m⟩:=drop_cons (d:=(([],[]):Fg)) h;have q:=j.t;refine zf (cC ..) ?_;conv=>zeta
  rw[ze,l,eF<|by omega];refine zc (w4<|by omega) (zc (Cn g) (zc (Cn g)<|zc (Pk f<|by omega) ?_));exact tV c j r (i+1) (zz n 1) (o++[p]) m g (by rw[zo,f];rfl) (by rw[t2,b]) (by rw[a])
theorem wJ(c:ER)(b:RP c):Ends BD (L9 0 c.1 c.1.length c.1 c.2.1 c.2.2) (Ad Ht c):=by
 have f:=b.t;cases a:c.2.1 with
 |nil=>
  have:=wR c b a;rw[a]at this;exact zf (VQ ..)<|zj rfl this
 |cons p r=>
  have d:0<(p::r).length:=by rw[zi];omega
  have e:(p::r).getD (zt 0) ([],[])=p:=rfl;refine zf (VQ ..) ?_;conv=>zeta
  rw[e,show zh .i64 ((0:Int)+1)=((1:Nat):Int)from rfl];refine zc (w4<|by omega) (zc (Cn (i:=0) d) (zc (Cn (i:=0) d)<|zc (Pd<|by decide) ?_));have:=tV c b r 1 1 [p] (by rw[a];rfl) (by rw[a];exact d) rfl (by rw[a];rfl) rfl;rw[a]at this;exact this
variable {Q:PV->Ob->Prop}
theorem uQ(c:ER)(t:RP c)(i n:Nat)(o:List EV)(p:EV)(a:i<c.1.length)(l:c.1.getD i ([],[],[],[],[])=p)(x:n=o.length)(u:n=i)(K:Ends BD (L5 ((i+1:Nat):Int) (o++[p]) (zz n 1) c.1 c.2.1 c.2.2) Q):∀(r:List K9) (j k:Nat) (q:List K9),p.2.2.2.2.drop j=r->j<=p.2.2.2.2.length->k=q.length->q=p.2.2.2.2.take j->k=j->Ends BD (vP (i:Int) (j:Int) q o p.1 p.2.1 p.2.2.1 p.2.2.2.1 k n c.1 c.2.1 c.2.2) Q
 |[],j,k,q,h,w,m,g,f=>by
  have e:=drop_nil h w;have g:q=p.2.2.2.2:=by rw[g,e,zn]
  have y:=t.s;subst g;subst m;refine zf (Yx ..) ?_;conv=>zeta
  rw[ze,ze,l,zn,eF (i:=i)<|by omega];refine zc (Cn a) (zj (w8<|by omega)<|zc (Aa (w4<|by omega) rfl)<|zc (Pk x<|by omega) ?_);exact K
 |b::r,j,k,q,h,w,m,g,f=>by
  have t2:=CN h;obtain⟨v,z,A⟩:=drop_cons (d:=(([],0):K9)) h;have y:=t.s;have B:=t.so p (by rw[<-l];exact Ms a);refine zf (Yx ..) ?_;conv=>zeta
  rw[ze,ze,l,z,eF (i:=j)<|by omega];refine zc (Cn a) (zc (w4<|by omega) (zc (Cn a)<|zc (Cn v)<|zc (Cn a) (zc (Cn v)<|zc (Pk m<|by omega) ?_)));exact uQ c t i n o p a l x u K r (j+1) (zz k 1) (q++[b]) A v (by rw[zo,m];rfl) (by rw[t2,g]) (by rw[f])
theorem zD(c:ER)(f:RP c)(i n:Nat)(o:List EV)(p:EV)(a:i<c.1.length)(e:c.1.getD i ([],[],[],[],[])=p)(g:n=o.length)(d:n=i)(K:Ends BD (L5 ((i+1:Nat):Int) (o++[p]) (zz n 1) c.1 c.2.1 c.2.2) Q):Ends BD (L8 (i:Int) 0 o p.1 p.2.1 p.2.2.1 p.2.2.2.1 n c.1 c.2.1 c.2.2) Q:=by
 have t:=f.s;obtain⟨k,m,q,j,l⟩:=p;refine zf (Jb ..) ?_;conv=>zeta
 rw[ze,e,eF (i:=i)<|by omega];cases l with
 |nil=>
  refine zc (Cn a) (zj rfl (zc (Pk g<|by omega) ?_));exact K
 |cons b r=>
  have h:0<(b::r).length:=by rw[zi];omega
  refine zc (Cn a) (zc (w4<|by rw[zi];omega) (zc (Cn a)<|zc (Cn (i:=0) h)<|zc (Cn a)<|zc (Cn (i:=0) h)<|zc (Pd<|by decide) ?_));exact uQ c f i n o (k,m,q,j,b::r) a e g d K r 1 1 [b] rfl (by show 1<=(b::r).length;omega) rfl rfl rfl
theorem yU(c:ER)(j:RP c):∀(r:List EV) (i n:Nat) (o:List EV),c.1.drop i=r->i<=c.1.length->n=o.length->o=c.1.take i->n=i->Ends BD (L5 (i:Int) o n c.1 c.2.1 c.2.2) (Ad Ht c)
 |[],i,n,o,h,k,g,f,a=>by
  have e:=drop_nil h k;have f:o=c.1:=by rw[f,e,zn]
  subst f;subst g;exact zf (DU ..) (zj (w8<|by omega)<|wJ c j)
 |p::r,i,n,o,h,k,g,f,a=>by
  have t2:=CN h;obtain⟨b,l,q⟩:=drop_cons (d:=(([],[],[],[],[]):EV)) h;have K:=yU c j r (i+1) (zz n 1) (o++[p]) q b (by rw[zo,g];rfl) (by rw[t2,f]) (by rw[a]);have m:=zD c j i n o p b l g a K;refine zf (DU ..) ?_;conv=>zeta
  rw[ze,l];exact zc (w4<|by omega)<|zc (Cn b)<|zc (Cn b)<|zc (Cn b)<|zc (Cn b) m
theorem xL(c:ER)(s:RP c)(p:EV)(a:0<c.1.length)(m:c.1.getD 0 ([],[],[],[],[])=p)(K:Ends BD (L5 ((1:Nat):Int) [p] 1 c.1 c.2.1 c.2.2) Q):∀(r:List K9) (j k:Nat) (q:List K9),p.2.2.2.2.drop j=r->j<=p.2.2.2.2.length->k=q.length->q=p.2.2.2.2.take j->k=j->Ends BD (L4 0 (j:Int) q p.1 p.2.1 p.2.2.1 p.2.2.2.1 k c.1 c.2.1 c.2.2) Q
 |[],j,k,q,h,o,l,g,f=>by
  have e:=drop_nil h o;have g:q=p.2.2.2.2:=by rw[g,e,zn]
  subst g;subst l;refine zf (Cf ..) ?_;conv=>zeta
  rw[show zt 0=0 from rfl,ze,m,zn,show zh .i64 ((0:Int)+1)=((1:Nat):Int)from rfl];refine zc (Cn (i:=0) a) (zj (w8<|by omega) (zc (Aa (w4<|by omega) rfl)<|zc (Pd<|by decide) ?_));exact K
 |b::r,j,k,q,h,o,l,g,f=>by
  have t2:=CN h;obtain⟨n,t,u⟩:=drop_cons (d:=(([],0):K9)) h;have v:=s.so p (by rw[<-m];exact Ms a);refine zf (Cf ..) ?_;conv=>zeta
  rw[show zt 0=0 from rfl,ze,m,t,eF (i:=j)<|by omega];refine zc (Cn (i:=0) a) (zc (w4<|by omega)<|zc (Cn (i:=0) a)<|zc (Cn n)<|zc (Cn (i:=0) a)<|zc (Cn n) (zc (Pk l<|by omega) ?_));exact xL c s p a m K r (j+1) (zz k 1) (q++[b]) u n (by rw[zo,l];rfl) (by rw[t2,g]) (by rw[f])
theorem zG(c:ER)(f:RP c)(p:EV)(a:0<c.1.length)(d:c.1.getD 0 ([],[],[],[],[])=p)(K:Ends BD (L5 ((1:Nat):Int) [p] 1 c.1 c.2.1 c.2.2) Q):Ends BD (L2 0 0 p.1 p.2.1 p.2.2.1 p.2.2.2.1 c.1 c.2.1 c.2.2) Q:=by
 obtain⟨j,k,g,h,l⟩:=p;refine zf (AK ..) ?_;conv=>zeta
 rw[show zt 0=0 from rfl,d,show zh .i64 ((0:Int)+1)=((1:Nat):Int)from rfl];cases l with
 |nil=>
  refine zc (Cn (i:=0) a) (zj rfl (zc (Pd<|by decide) ?_));exact K
 |cons b r=>
  have e:0<(b::r).length:=by rw[zi];omega
  refine zc (Cn (i:=0) a) (zc (w4<|by rw[zi];omega) (zc (Cn (i:=0) a)<|zc (Cn (i:=0) e) (zc (Cn (i:=0) a)<|zc (Cn (i:=0) e) (zc (Pd<|by decide) ?_))));exact xL c f (j,k,g,h,b::r) a d K r 1 1 [b] rfl (by show 1<=(b::r).length;omega) rfl rfl rfl
theorem ok:Ag Bm 10 Ht:=by
 refine Cj cN<|fun(c:ER) hi=>?_;have d:=oY hi;refine zL (Ap c) ?_;conv=>zeta
 cases a:c.1 with
 |nil=>
  have:=yW c d a;rw[a]at this;exact zf (Al ..)<|zj rfl this
 |cons p r=>
  have b:0<c.1.length:=by rw[a,zi];omega
  have e:c.1.getD 0 ([],[],[],[],[])=p:=by rw[a];rfl
  have k:=zG c d p b e (yU c d r 1 1 [p] (by rw[a];rfl) (by omega) rfl (by rw[a];rfl) rfl);rw[<-a];refine zf (Al ..) ?_;conv=>zeta
  rw[show zt 0=0 from rfl,e];exact zc (w4<|by omega)<|zc (Cn (i:=0) b)<|zc (Cn (i:=0) b)<|zc (Cn (i:=0) b)<|zc (Cn (i:=0) b) k
end T10
theorem T3.zC:Ag Bm 3 Jr:=T3.ok T10.ok
end Go.Pe
namespace Go.Det
open Go.ChangeShapes Go.WideShapes Go.RowKit
theorem BZ{α k:Type}{f g:α->Option k}:∀ {l:List α} {c:List k},l.mapM f=some c->(∀a∈l,∀y∈c,f a=some y->g a=some y)->l.mapM g=some c
 |[],c,h,_=>by simpa using h
 |a::l,c,h,j=>by
  rw[List.mapM_cons]at h ⊢;cases d:f a with
  |none=>rw[d]at h;cases h
  |some y=>
   rw[d]at h;cases e:l.mapM f with
   |none=>rw[e]at h;cases h
   |some o=>
    rw[e]at h;cases h;rw[j a (by simp) y (by simp) d,BZ e<|fun b n z m i=>j b (by simp[n]) z (by simp[m]) i];rfl
def dR(P:Program)(L:List TypeId)(t:TypeId):Bool:=match P.underlying t with
 |some (.pointer e)|some (.array _ e)|some (.map _ e)=>L.contains e
 |some (.slice e)=>L.contains e&&Nat.ble 1 (P.cellsOf e)
 |some (.struct fs)=>fs.toList.all fun f=>L.contains f.type
 |_=>true
def JV(P:Program)(L:List TypeId):Bool:=L.all<|dR P L
section
variable {H:Type}{enc:TypeId×Value->H}{P:Program}{W W':World}
theorem iN{L:List TypeId}(h:JV P L=true){t:TypeId}(a:t∈L):dR P L t=true:=zq.1 h t a
theorem UD(d:Below W.heap.size W W'){a:Addr}{v:Value}(h:W.cell? a=some v):W'.cell? a=some v:=by
 have b:a.block<W.heap.size:=by
  unfold zZ at h;by_cases c:a.block<W.heap.size
  ·exact c
  ·rw[zK<|by omega]at h;cases h
 unfold zZ at h ⊢;rw[d.block _ b];exact h
theorem SS(c:Below W.heap.size W W'){a:Addr}{n:Nat}{cs:List Value}(h:W.cells? 0 a n=some cs):W'.cells? 0 a n=some cs:=by
 unfold World.cells? at h ⊢;rw[wd<|zp _]at h ⊢;exact BZ h fun i _ v _ b=>UD c b
theorem Gy(e:Below W.heap.size W W'){d:Type}{a:Addr}{n:Nat}{f g:List Value->Option d}{y:d}(h:(W.cells? 0 a n).bind f=some y)(c:∀cs,f cs=some y->g cs=some y):(W'.cells? 0 a n).bind g=some y:=by
 cases b:W.cells? 0 a n with
 |none=>rw[b]at h;cases h
 |some cs=>
  rw[b]at h;rw[SS e b];exact c cs h
theorem Nl(D:Below W.heap.size W W'){L:List TypeId}(N:JV P L=true){sp:Nat->Bool}:∀(fuel:Nat) (t:TypeId) (cs:List Value) (x:DataW H×List MemPlace),t∈L->
  zr enc P W 0 (fun _=>true) true fuel t cs=some x->(∀p∈x.2,sp p.block=true)->zr enc P W' 0 sp true fuel t cs=some x
 |0,_,_,_,_,h,_=>by cases h
 |fuel+1,t,cs,x,T,h,w=>by
  have C:=Nl D N (sp:=sp) fuel;have l:=iN N T;unfold dR at l;unfold zr at h ⊢;split at h<;>try simp only[reduceCtorEq]at h
  all_goals try exact h
  case h_6 e a s=>
   have c:e∈L:=by rw[s]at l;simpa using l
   cases K:(W.cells? 0 a<|P.cellsOf e).bind (zr enc P W 0 (fun _=>true) true fuel e)with
   |none=>rw[K]at h;cases h
   |some y=>
    rw[K]at h;cases h;rw[Gy D K (g:=zr enc P W' 0 sp true fuel e)<|fun cs q=>C e cs y c q<|fun p o=>w p<|by simp[o]];rfl
  case h_8 e a len cap s=>
   have c:e∈L/\P.cellsOf e≠0:=by
    rw[s]at l;simp only[zm,List.contains_iff_mem]at l;have:=Nat.le_of_ble_eq_true l.2;exact⟨l.1,by omega⟩
   by_cases q:0<=a.block/\len<=cap/\cap<=maxLen
   ·rw[wd q]at h ⊢;have step:∀(i:Nat) (y:DataW H×List MemPlace),(W.cells? 0 (a.add<|i*P.cellsOf e)<|P.cellsOf e).bind (zr enc P W 0 (fun _=>true) true fuel e)=some y->(∀p∈y.2,sp p.block=true)->
      (W'.cells? 0 (a.add<|i*P.cellsOf e)<|P.cellsOf e).bind (zr enc P W' 0 sp true fuel e)=some y:=fun i y r o=>Gy D r fun cs q=>C e cs y c.1 q o
    cases m:(z7 len).mapM (fun i=>(W.cells? 0 (a.add<|i*P.cellsOf e)<|P.cellsOf e).bind<|zr enc P W 0 (fun _=>true) true fuel e)with
    |none=>rw[m]at h;cases h
    |some B=>
     rw[m]at h;simp only[wk,zy]at h;cases E:(z7<|cap-len).mapM (fun j=>(W.cells? 0 (a.add<|(len+j)*P.cellsOf e)<|P.cellsOf e).bind<|zr enc P W 0 (fun _=>true) true fuel e)with
     |none=>rw[E]at h;cases h
     |some J=>
      rw[E]at h;cases h;rw[BZ m fun i _ y r Z=>step i y Z fun p o=>w p<|zQ _<|zM.2 ⟨y,List.mem_append_left _ r,o⟩];have G:=BZ E fun j _ y r R=>step (len+j) y R fun p o=>w p<|zQ _<|zM.2 ⟨y,zQ _ r,o⟩
      by_cases A:sp a.block=true
      ·simp only[A,wk,zy];rw[G];rfl
      ·have V:(B.length+J.length)*P.cellsOf e=0:=by
        rcases Nat.eq_zero_or_pos ((B.length+J.length)*P.cellsOf e)with h0|h0
        ·exact h0
        ·refine wh (w (.cell a.block<|a.off+0)<|List.mem_append_left _ ?_) A;simp only[MemPlace.row,List.mem_map,List.mem_range];exact⟨0,h0,rfl⟩
       have X:J=[]:=by
        rcases Nat.mul_eq_zero.1 V with h0|h0
        ·exact zX.1 (by omega)
        ·exact wh h0 c.2
       subst X;simp only[A,zy];rfl
   ·rw[wc q]at h;cases h
  case h_9 cs _ _ fs s=>
   have c:∀f∈fs.toList,f.type∈L:=by
    rw[s]at l;intro f d;have:=zq.1 l f d;simpa using this
   by_cases q:cs.length=P.cellsOf t
   ·rw[wd q]at h ⊢;cases m:fs.toList.mapM (fun f=>zr enc P W 0 (fun _=>true) true fuel f.type<|(cs.drop f.offset).take<|P.cellsOf f.type)with
    |none=>rw[m]at h;cases h
    |some B=>
     rw[m]at h;cases h;rw[BZ m fun f I y r d=>C _ _ y (c f I) d fun p o=>w p<|zM.2 ⟨y,r,o⟩];rfl
   ·rw[wc q]at h;cases h
  case h_10 cs _ _ n e s=>
   have c:e∈L:=by rw[s]at l;simpa using l
   by_cases q:cs.length=P.cellsOf t
   ·rw[wd q]at h ⊢;cases m:(z7 n).mapM (fun i=>zr enc P W 0 (fun _=>true) true fuel e<|(cs.drop<|i*P.cellsOf e).take<|P.cellsOf e)with
    |none=>rw[m]at h;cases h
    |some B=>
     rw[m]at h;cases h;rw[BZ m fun f _ y r d=>C _ _ y c d fun p o=>w p<|zM.2 ⟨y,r,o⟩];rfl
   ·rw[wc q]at h;cases h
  case h_14 k e b s=>
   have c:e∈L:=by rw[s]at l;simpa using l
   have Y:b<W.heap.size:=by
    by_cases S:b<W.heap.size
    ·exact S
    ·rw[zK<|by omega]at h;cases h
   rw[D.block _ Y];split at h
   case h_2=>cases h
   rename_i es clock U;simp only;split at h
   case isFalse=>cases h
   rename_i z;rw[wd z];cases m:(es.toList.mapM fun x=>(keyOf P k x.key).bind fun key=>if x.val.formed P e then(zr enc P W 0 (fun _=>true) true fuel e x.val.cells.toList).map fun y=>((key,y.1),y.2)else none)with
   |none=>rw[m]at h;cases h
   |some B=>
    rw[m]at h;simp only[zy]at h;split at h
    case isFalse=>cases h
    rename_i F;cases h;rw[BZ m fun O _ y r d=>?_]
    ·simp only[zy];rw[wd F]
    ·cases l:keyOf P k O.key with
     |none=>rw[l]at d;cases d
     |some key=>
      rw[l]at d;simp only[zy]at d ⊢;split at d
      case isFalse=>cases d
      rename_i M;rw[wd M];cases v:zr enc P W 0 (fun _=>true) true fuel e O.val.cells.toList with
      |none=>rw[v]at d;cases d
      |some u=>
       rw[v]at d;cases d;rw[C _ _ u c v fun p o=>w p<|by simp only[zN,zM];exact .inr ⟨_,r,o⟩];rfl
theorem Uv(g:Below W.heap.size W W'){L:List TypeId}(f:JV P L=true){sp:Nat->Bool}{t:TypeId}{v:Value}{d:DataW H}{p:List MemPlace}
  (b:t∈L) (h:DataW.Trod enc P W 0 (fun _=>true) true t v d p) (e:∀q∈p,sp q.block=true):DataW.Trod enc P W' 0 sp true t v d p:=by
 obtain⟨a,c⟩:=h;exact⟨a,Nl g f a t _ _ b c e⟩
theorem FX(f:Below W.heap.size W W'){L:List TypeId}(e:JV P L=true){sp:Nat->Bool}:∀ {ts:List TypeId} {vs:List Value} {ds:List (DataW H)} {p:List MemPlace},(∀t∈ts,t∈L)->
  zU enc P W 0 (fun _=>true) true ts vs ds p->(∀q∈p,sp q.block=true)->zU enc P W' 0 sp true ts vs ds p
 |[],vs,ds,p,_,h,_=>by
  obtain⟨rfl,rfl,rfl⟩:=trodAll_nil h;rfl
 |t::ts,vs,ds,p,g,h,i=>by
  obtain⟨v,n,d,l,a,b,rfl,rfl,rfl,j,k⟩:=trodAll_cons h;exact⟨a,b,Uv f e (g t<|by simp) j (fun q c=>i q<|by simp[c]),FX f e (fun u m=>g u<|by simp[m]) k (fun q c=>i q (by simp[c])),rfl⟩
theorem XN{f:Func}{s:ChangeSpec}{apart fresh c i:Bool}{args:Array Value}{ds J:List (DataW H)}{e:List MemPlace}{tb:TypeId}
  (hW:DataW.Whole enc P f.params.toList s.vars apart W args.toList ds J e) (E:s.vars=[]) (G:f.resultTypes= #[tb]) (u:P.underlying tb=some .bool)
  (d:s.fn H ds={ results:=[.lit<|.bool true],args:=ds }) (w:Below W.heap.size W W') {L:List TypeId} (D:JV P L=true) (y:f.params.toList.all L.contains=true):
  s.post enc P f apart fresh c i W args (.bool true) W':=by
 have l:=hW.lt;have y:∀t∈f.params.toList,t∈L:=fun t u=>by have:=zq.1 y t u;simpa using this
 obtain⟨p,q,B,F,rfl,k,h⟩:=hW;have o:=F;rw[E]at o;obtain⟨rfl,rfl⟩:=trodVars_none o;simp only[List.append_nil]at l k h ⊢;have n:∀x∈p,(fun b=>decide (b<W.heap.size)) x.block=true:=fun x m=>by simpa using l x m
 have z:DataW.Whole enc P f.params.toList s.vars apart W args.toList ds [] p:=⟨p,[],B,F,by simp,k,h⟩;have g:∀(b:Nat) (sp:Nat->Bool) (C:Bool),zU enc P W' b sp C f.resultTypes.toList ((Value.bool true).resultList f.resultTypes.size) [.lit<|.bool true] []:=by
  intro b sp C;rw[G];exact⟨[],[],shut_bool u true,rfl,rfl⟩
 have A:∀(j:Nat) (t:TypeId) (r:Value),f.resultTypes[j]?=some t->((Value.bool true).resultList f.resultTypes.size)[j]?=some r->Value.okWide P W' .any 0 t r:=by
  exact ok_one G rfl (okWide_bool_mk u true)
 have a:∀sp:Nat->Bool,DataW.TrodVars enc P W' sp s.vars [] []:=fun sp=>by rw[E];rfl
 have d:s.fn H (ds++[])={ results:=[.lit<|.bool true],args:=ds }:=by rw[List.append_nil];exact d
 refine⟨ds,[],p,[],p,[],z,?_,?_,?_,World.keptBut_mono (fun x m=>⟨m,.inr<|.inl m⟩) (w.frame (· ∈p)),fun _=>?_⟩
 ·rw[d];exact g _ _ _
 ·rw[d];exact FX w D y B n
 ·rw[d];exact a _
 ·refine⟨A,_,_,([]++p)++[],⟨[]++p,[],trodAll_append (FX w D y B<|fun _ _=>rfl)<|g _ _ _,a _,rfl,?_,?_⟩,?_⟩
  ·intro b off v;have v:MemPlace.cell b off∈p:=by simpa using v
   rw[w.frozen<|show b<W.heap.size from l _ v];exact k b off v
  ·intro I;simpa using h I
  ·intro x m _;simpa using m
end
end Go.Det
namespace Go.Det
def Mn(k:Nat):Value->V
 | .bool b=>.bool b
 | .int q n=>.int q n
 | .string s=>.str s.data.toList
 | .pointer none=>.nilp
 | .slice none 0 0=>.nils
 | .slice (some _) 0 0=>.es0
 | .slice (some ⟨r,off,none⟩) len cap=>if r<k/\len<=cap then .sl r off len cap 0 else .junk
 | .map none=>.nilm
 | .nilFunc=>.nilf
 | .nilIface=>.nili
 |_=>.junk
def Xv(W:World)(r:Nat):Nat:=match W.heap[r]? with
 |some (.cells c _ _)=>c.size
 |_=>0
def pW(W:World):Pl:=(z7 W.heap.size).map fun r=>(r,Xv W r)
theorem Lh{W:World}{r:Nat}(h:r<W.heap.size):(pW W)[r]?=some (r,Xv W r):=by
 simp[pW,h]
def NQ(W:World)(r:Nat):Option O:=match W.heap[r]? with
 |some (.cells c t _)=>if c.size=0 then none else some<|.cells (c.toList.map<|Mn W.heap.size) t (0,c.size)
 |_=>none
def X2(W:World):Nat->H
 |0=>⟨.leaf,0⟩
 |n+1=>⟨(X2 W n).m.set n<|NQ W n,n+1⟩
theorem gY(W:World):∀n,(X2 W n).nx=n
 |0=>rfl
 |_+1=>rfl
theorem Se(W:World):∀(n b:Nat),(X2 W n).get b=if b<n then NQ W b else none
 |0,b=>by simp[X2,H.get]
 |n+1,b=>by
  have a:=Se W n b;unfold H.get at a ⊢;simp only[X2,PM.CR];by_cases e:b=n
  ·subst e;simp
  ·rw[wc e,a];by_cases h:b<n
   ·rw[wd h,wd<|by omega]
   ·rw[wc h,wc<|by omega]
def hW(W:World):H:=X2 W W.heap.size
theorem MZ(W:World)(b:Nat):(hW W).get b=NQ W b:=by
 unfold hW;rw[Se];by_cases h:b<W.heap.size
 ·rw[wd h]
 ·rw[wc h];unfold NQ;rw[zK<|by omega]
theorem Re{W:World}{v:Value}(h:(Mn W.heap.size v).ok=true):Ab (pW W) (Mn W.heap.size v) v:=by
 revert h;unfold Mn;split<;>intro h
 case h_6=>simp only[Ab];exact⟨_,rfl⟩
 case h_7 r off len cap _=>
  split
  ·rename_i a;simp only[Ab];exact⟨r,_,cap,Lh a.1,rfl,a.2,Nat.le_refl _,fun _=>rfl,fun e=>wh rfl e⟩
  ·rename_i a;rw[wc a]at h;cases h
 case h_11=>cases h
 all_goals simp only[Ab]
 all_goals rfl
theorem xN(W:World):R (pW W) (hW W) W:=by
 refine⟨by simp[pW,hW,gY],fun b o a=>?_,fun b b' o o' r n n' a j f p=>?_⟩
 ·rw[MZ]at a;unfold NQ at a;split at a
  case h_2=>cases a
  rename_i c t fz m;split at a
  case isTrue=>cases a
  cases a;have e:b<W.heap.size:=(zw.1 m).1;have q:Xv W b=c.size:=by unfold Xv;rw[m]
  refine⟨b,c.size,_,by rw[Lh e,q],m,c,fz,rfl,rfl,by simp,⟨by simp,fun i d v k l g=>?_⟩,fun i s f p=>⟨zp _,s⟩⟩;rw[List.getElem?_map]at k;rw[List.length_map,zV (by have:=(List.getElem?_eq_some_iff.1 l).1;simp at this;simpa using this)]at l;rw[l]at k;cases k;exact Re g
 ·have key:∀b o r n,(hW W).get b=some o->(pW W)[b]?=some (r,n)->r=b:=by
   intro b o r n a f;rw[MZ]at a;have e:b<W.heap.size:=by
    unfold NQ at a;by_cases h:b<W.heap.size
    ·exact h
    ·rw[zK<|by omega]at a;cases a
   rw[Lh e]at f;cases f;rfl
  rw[<-key b o r n a f, <-key b' o' r n' j p]
theorem lI{W W':World}{p':Pl}{h':H}(d:Ext (pW W) (hW W) W p' h' W'):RowKit.Below W.heap.size W W':=by
 refine⟨d.os,d.tape,d.out,d.size,fun k i=>?_⟩;by_cases l:Im (pW W) (hW W) k
 ·obtain⟨b,o,n,f,g⟩:=l;have a:=f;rw[MZ]at a;unfold NQ at a;split at a
  case h_2=>cases a
  rename_i c t fz j;split at a
  case isTrue=>cases a
  rename_i h0;cases a;have e:b<W.heap.size:=(zw.1 j).1;have h:Xv W b=c.size:=by unfold Xv;rw[j]
  rw[Lh e,h]at g;cases g;exact(d.lock _ i ⟨_,_,_,_,_,f,by rw[Lh e,h],rfl,Nat.le_refl _,Nat.pos_of_ne_zero h0⟩).1
 ·exact d.same k i l
end Go.Det
namespace Go.Pe
open Go.Det
def FW(W:World):Fz:=fun b=>match (hW W).get b with
 |some (.cells cs _ _)=>some cs
 |_=>none
def Sa:(s:Sh)->s.T->Prop
 | .int k,x=>k.min<=(x:Int)/\(x:Int)<=k.max
 | .bool,_=>True
 | .str,x=>(x:Z).length<=maxLen
 | .list s,l=>(l:List s.T).length<=maxLen/\∀x∈(l:List s.T),Sa s x
 | .pair a b,x=>Sa a x.1/\Sa b x.2
 | .unit,_=>True
 | .nlist _,_=>True
 | .fnv,_=>True
 | .ptr _,_=>True
def aG(P:Program)(f:TypeId->Option Sh):Nat->List Field->Option Sh
 |_,[]=>some .unit
 |o,[x]=>match f x.type with
  |some s=>bif yc x.offset o&&yc (P.cellsOf x.type) s.sz then some s else none
  |none=>none
 |o,x::y::l=>match f x.type with
  |some s=>bif yc x.offset o&&yc (P.cellsOf x.type) s.sz then(aG P f (o+s.sz) (y::l)).map (.pair s)else none
  |none=>none
def nS(P:Program):Nat->TypeId->Option Sh
 |0,_=>none
 |f+1,t=>match P.underlying t with
  |some (.int k)=>some<|.int k
  |some .bool=>some .bool
  |some .string=>some .str
  |some (.slice e)=>match nS P f e with
   |some s=>bif yc (P.cellsOf e) s.sz&&Nat.blt 0 s.sz then some (.list s)else none
   |none=>none
  |some (.struct fs)=>match aG P (nS P f) 0 fs.toList with
   |some s=>bif yc (P.cellsOf t) s.sz then some s else none
   |none=>none
  |_=>none
section
variable {H:Type}{enc:TypeId×Value->H}{P:Program}{W:World}
theorem YH{r:Nat}{c:Array Value}{t:TypeId}{fz:Nat×Nat}(h:W.heap[r]?=some (.cells c t fz))(h0:c.size≠0):FW W r=some (c.toList.map<|Mn W.heap.size):=by
 unfold FW;rw[MZ];unfold NQ;rw[h];simp only[wc h0]
theorem Qf{a:Addr}{n:Nat}{cs:List Value}(h:W.cells? 0 a n=some cs)(q:0<n):
  ∃c t fz,W.heap[a.block]?=some (.cells c t fz)/\a.spot=none/\a.off+n<=c.size/\cs=(c.toList.drop a.off).take n:=by
 unfold World.cells? at h;rw[wd<|zp _]at h;have p:=mapM_some_length h;have l:=mapM_some_get h;simp only[List.length_range]at p;have h0:=l 0 0 (by simp[q]);have f:a.add 0=a:=by simp[Addr.add]
 rw[f]at h0;obtain⟨v0,j⟩:∃v,cs[0]?=some v:=⟨cs[0],zW<|by omega⟩;rw[j]at h0;unfold zZ at h0;split at h0
 case h_2=>cases h0
 rename_i c t fz m;split at h0
 case isTrue=>cases h0
 rename_i b;have b:a.spot=none:=by simpa using b
 have o:∀i,i<n->c[a.off+i]?=cs[i]?:=by
  intro i d;have:=l i i (by simp[d]);unfold zZ at this;have e:(a.add i).block=a.block:=by unfold Addr.add;split<;>rfl
  have g:(a.add i).spot=none:=by unfold Addr.add;split<;>simp[b]
  have k:(a.add i).off=a.off+i:=by unfold Addr.add;split<;>simp_all
  rw[e,m]at this;simpa [g,k]using this
 refine⟨c,t,fz,m,b,?_,?_⟩
 ·have:=o (n-1) (by omega);rw[zW<|by omega]at this;have:=(zw.1 this).1;omega
 ·apply List.ext_getElem?;intro i;by_cases d:i<n
  ·rw[<-o i d,zV d,List.getElem?_drop];simp
  ·rw[List.getElem?_eq_none (by omega),List.getElem?_eq_none<|by simp;omega]
theorem Vq{α:Type}{p:Nat->α->Prop}:∀n:Nat,(∀i,i<n->∃x,p i x)->∃l:List α,l.length=n/\∀i (h:i<l.length),p i l[i]
 |0,_=>⟨[],rfl,fun i h=>wh h<|Nat.not_lt_zero _⟩
 |n+1,h=>by
  obtain⟨l,a,d⟩:=Vq n fun i b=>h i (by omega)
  obtain⟨x,c⟩:=h n (by omega);refine⟨l++[x],by simp[a],fun i b=>?_⟩;by_cases e:i<l.length
  ·rw[List.getElem_append_left e];exact d i e
  ·have:i=n:=by simp at b;omega
   subst this;rw[List.getElem_append_right<|by omega];simpa [a]using c
end
end Go.Pe
namespace Go.Pe
open Go.Det Go.RowKit
section
open Go.Proofs.Tryz (prog)
theorem Y8{F':Fz}{v:V}(h:PC F' (.dat .bool true) v):v=.bool true:=by
 have:=h (fun _=>none) 0;simp only[PR,DC]at this;simpa using this
def GW(W:World):Prop:=∀x∈F5,NQ W x.1=some x.2
theorem GW.h{W:World}(h:GW W):Gh (hW W):=fun x a=>by rw[MZ];exact h x a
theorem GW.p{W:World}(h:GW W):Gp (pW W):=fun x f=>by
 have a:=h x f;unfold NQ at a;split at a
 case h_2=>cases a
 rename_i c t fz e;split at a
 case isTrue=>cases a
 have d:x.1<W.heap.size:=(zw.1 e).1;have g:Xv W x.1=c.size:=by unfold Xv;rw[e]
 rw[Lh d,g];cases b:x.2 with
 |cells cs i fz'=>rw[b]at a;cases a;simp[yS]
 |_=>rw[b]at a;cases a
theorem Ns{f:FuncId}{sp:Au}(ok:Ag Bm f sp)(i:(Bw sp.ins).T)(a:sp.pre i=true){args:List V}{args':Array Value}{W:World}(d:GW W)(w:LH (FW W) (Ae sp.ins i) args)
  (n:Aq (pW W) args args'.toList) (c:∀F' v,PC F' (one<|Ae sp.outs<|sp.f i) v->v=.bool true) (r:Bm.prim f=none:=by kernel_rfl):
  Calls prog f args' W fun e W'=>e=.returned (.bool true)/\Below W.heap.size W W':=by
 obtain⟨l,M,m,_,q⟩:=(ok.zero r).run (FW W) (hW W) args i (fun b cs h=>by
  unfold FW at h;split at h
  case h_2=>cases h
  rename_i cs' t fz j;cases h;exact⟨t,fz,j⟩) (fun b o h=>(xN W).lt h) d.h w a
 refine((HY pB XC Ri M).fn f args (hW W) l (m M<|Nat.le_refl _) (pW W) W args' (xN W) d.p n).mono ?_;rintro e w' ⟨v,h',v',p',s,rfl,g,k⟩;obtain⟨_,_,_,F',_,_,_,u⟩:=q _ s;obtain rfl:=c F' v u;refine⟨?_,lI k⟩;simp only[Ab]at g;rw[g]
end
end Go.Pe
namespace Go.Pe
open Go.Det Go.RowKit Go.ChangeShapes
def Pa(k:Nat):Value->V
 | .agg cs=>.agg<|cs.toList.map<|Mn k
 |v=>Mn k v
def bT(P:Program)(k:Nat)(t:TypeId):Option Sh:=
 match nS P k t with
 |some s=>match P.underlying t with
  |some (.struct _)=>bif s.O5 then some s else none
  |some (.int _)|some .bool|some .string|some (.slice _)=>bif s.O5 then none else some s
  |_=>none
 |none=>none
def Q0(P:Program)(k:Nat):List TypeId->Option (List Sh)
 |[]=>some []
 |t::ts=>match bT P k t,Q0 P k ts with
  |some s,some a=>some (s::a)
  |_,_=>none
def xZ:(l:List Sh)->(Bw l).T->Prop
 |[],_=>True
 |[a],x=>Sa a x
 |a::b::l,x=>Sa a x.1/\xZ (b::l) x.2
section
variable {H:Type}{enc:TypeId×Value->H}{P:Program}{W:World}{base:Nat}
theorem YG{t:TypeId}{v:Value}(a:(∃k,P.underlying t=some (.int k))\/P.underlying t=some .bool\/P.underlying t=some .string\/∃e,P.underlying t=some (.slice e))(h:Value.okWide P W .any base t v):v.cells.toList=[v]/\∀cs,v≠ .agg cs:=by
 rcases a with⟨k,a⟩|a|a|⟨e,a⟩<;>
 (simp only[Value.okWide,a]at h
  unfold Cell.okWide at h;simp only[a]at h;unfold Cell.ok at h;simp only[a]at h;cases v<;>first|(exact⟨rfl,fun _ e=>by cases e⟩)|(exfalso;exact h))
theorem H4:∀ {ts:List TypeId} {args:List Value} {ds:List (DataW H)} {p:List MemPlace},zU enc P W 0 (fun _=>true) true ts args ds p->ds.length=ts.length
 |[],_,_,_,h=>by obtain⟨_,rfl,_⟩:=trodAll_nil h;rfl
 |t::ts,_,_,_,h=>by
  obtain⟨v0,a,d,c,p0,q0,rfl,rfl,rfl,h0,b⟩:=trodAll_cons h;simp[H4 b]
theorem tK{α:Type}{l:List α}(h:l.length=2):∃a b,l=[a,b]:=by
 match l,h with
 |[a,b],_=>exact⟨a,b,rfl⟩
end
end Go.Pe
