import Derived.Test.YtlohiljbghionaaGreatDoorX15
import Derived.Test.YtlohiljbghionaaGreatDoorX14
/- A part of a proof (no law is stated here). Made by program out of texts by AI agents. -/
noncomputable section
open Go.Pe.Ends renaming tt -> zc, leaf -> zd, ite -> zf, ff -> zi, Ah -> zj, eq -> zp
open Go.IntKind renaming wrap -> ze
open Go.Pe.Sh renaming str -> zg, list -> zk
open Int renaming toNat_natCast -> zh
open List renaming mem_cons_self -> zl, mem_of_mem_drop -> zm, length_cons -> zo, any_cons -> zw, mem_cons -> zy, length_append -> z6, all_eq_true -> z7, take_length -> z8
open Bool renaming and_eq_true -> zn, true_or -> zt, false_or -> zx, or_true -> ya
open Nat renaming zero_le -> zq, add -> zu
open Go.Pe.Ad renaming of -> zr
open Go.Sp renaming isName -> zz, first -> yd
open Rat renaming not_lt -> yb
open Go.Pe.PV renaming agg -> yc
open Iff renaming rfl -> ye
namespace Go.Sp
theorem Tj{a:B0}{lo b:Int}(h:At a=0):BI a lo b=if Au a<(lo:Rat)\/(b:Rat)<Au a then 3 else 0:=by
 unfold BI;rw[wc<|by rw[h];decide]
theorem VA{a:B0}{lo b:Int}(h:At a≠0):BI a lo b=At a:=by
 unfold BI;rw[wd h]
theorem Ts{n:Int}(h:GO n=true):n.natAbs<10^6:=by
 unfold GO at h;rw[zn,w5,w5]at h;have:(10:Nat)^6=1000000:=rfl;omega
def wE(seen:List B0)(w:BM):Int:=first [Cj (!isName w.1) 8,Cj (has seen w.1) 9,At w.2]
theorem oG(seen:List B0)(w:BM)(l:List BM):ZA seen (w::l)=if wE seen w≠0 then wE seen w else if Au w.2<0 then 3 else ZA (w.1::seen) l:=by
 have e:wE seen w=if isName w.1=false then 8 else if has seen w.1=true then 9 else At w.2:=by
  unfold wE;rw[Bn,Bn,Bn,EY,EY];cases isName w.1
  ·rfl
  ·cases has seen w.1
   ·simp only[Bool.not_true,Bool.false_eq_true,vg,wm,not_true,ite_not];split
    ·next h=>rw[h];rfl
    ·rfl
   ·rfl
 rw[e,ZA];cases isName w.1
 ·rfl
 ·cases has seen w.1
  ·rfl
  ·rfl
def oE(o:Io):Int:=first [Cj (!isName o.1) 8,Cj (decide (o.2<0\/10<o.2)) 3]
theorem kA(o:Io)(l:List Io):fF (o::l)=if oE o≠0 then oE o else fF l:=by
 have e:oE o=if isName o.1=false then 8 else if o.2<0\/10<o.2 then 3 else 0:=by
  unfold oE;rw[Go.Pe.J1,EY,EY];cases isName o.1
  ·rfl
  ·by_cases h:o.2<0\/10<o.2
   ·rw[w4 h,wd h];rfl
   ·rw[w8 h,wc h];rfl
 rw[e,fF];cases isName o.1
 ·rfl
 ·by_cases h:o.2<0\/10<o.2
  ·simp only[wd h];rfl
  ·simp only[wc h];rfl
theorem N5:∀ {l:List BM} {o:Option BM},Es o l=0->∀p∈l,At p.1=0/\At p.2=0
 |[],_,_,p,hp=>by cases hp
 |x::l,none,h,p,hp=>by
  obtain⟨a,b,c⟩:=qE h;rcases zy.1 hp with rfl|hp
  ·exact⟨a,b⟩
  ·exact N5 c p hp
 |x::l,some q,h,p,hp=>by
  obtain⟨a,b,_,c⟩:=mZ h;rcases zy.1 hp with rfl|hp
  ·exact⟨a,b⟩
  ·exact N5 c p hp
theorem U7(y:B0)(p:BM)(l:List BM):RX (some y) (p::l)=if E0 p.2 y<0 then 11 else RX (some p.2) l:=by rw[RX]
end Go.Sp
namespace Go.Pe
open Sp
open Go.Det
open Go.Sp (AT BX BW BM Io B0 Ct)
theorem Mq{m:List (B0×Bool)}{seen:List B0}(h:Jb m (fun x=>x∈seen))(k:B0):(EL .str .bool k m).getD false=Sp.has seen k:=by
 unfold Sp.has;by_cases e:k∈seen
 ·rw[w4 e];exact(h k).2 e
 ·rw[w8 e];cases c:(EL .str .bool k m).getD false with
  |false=>rfl
  |true=>exact wh ((h k).1 c) e
theorem O2:Jb [] (fun x=>x∈([]:List B0)):=Jb.nil.congr fun _=>⟨fun h=>h.elim,fun h=>by cases h⟩
theorem OH{m:List (B0×Bool)}{seen:List B0}(h:Jb m (fun x=>x∈seen))(k:B0):Jb (Ix .str .bool k true m) (fun x=>x∈k::seen):=(h.add k).congr fun _=>zy.symm
theorem fM:C9 Adx:=Aa T122.ok<|Aa T55.ok<|Aa T56.ok<|Aa T103.ok<|Aa T51.ok AI
theorem T53.ok:Af A6 53 Wx:=by
 refine BO fM<|fun(i:B0×Int×Int) f=>?_;obtain⟨a,lo,h⟩:=i;have f:(decide (a.length<=1000000)&&GO lo&&GO h)=true:=f;rw[zn,zn,w5]at f;obtain⟨⟨hl,h1⟩,h2⟩:=f;have g:∀e ob,e=BI a lo h->Ad Wx (a,lo,h) (.dat i64 e) ob:=fun e ob x=>zr rfl rfl x
 have L:=T8 (n:=lo) (Ts h1) (by decide) (by decide);have H:=T8 (n:=h) (Ts h2) (by decide) (by decide);refine zp (T53.Ai a lo h)<|zc (w4 hl)<|zf (fun c=>zd<|g _ _ ?_)<|fun c=>?_
 ·have c:At a≠0:=by simpa using c
  exact(VA c).symm
 ·have c:At a=0:=by simpa using c
  obtain⟨o1,j⟩:=HJ c;have A:=VL c;refine zc j (zc rfl (zc (Ab o1<|L.Df<|by decide)<|zf (fun d=>zc rfl (zd<|g _ _ ?_))<|fun d=>zc rfl (zc (Ab o1<|H.Df<|by decide)<|zc rfl (zd<|g _ _ ?_))))
  ·rw[Tj c,wd<|.inl<|(A.oO L).1<|w6 d];rfl
  ·have d:=w7 d;rw[Tj c];by_cases e:FZ (Fk a) ((h,CW h),(1,CW 1))>0
   ·rw[wd<|.inr<|(A.qG H).1 e];exact wi (fun b=>Cj b 3)<|w4 e
   ·rw[wc<|not_or.2 ⟨fun x=>d<|(A.oO L).2 x,fun x=>e<|(A.qG H).2 x⟩];exact wi (fun b=>Cj b 3)<|w8 e
theorem kB:C9 tG:=Aa T52.yN<|Aa T50.ok<|Aa T51.ok<|Aa T122.ok<|Aa T55.ok<|Aa T115.ok AI
namespace T57
theorem loop{Q:PV->Ob->Prop}(l:List BM)(j:l.length<=1000000)(g:∀p∈l,p.2.length<=1000000):∀(r:List BM) (i:Nat) (m:List (B0×Bool)) (seen:List B0),l.drop i=r->i<=l.length->Jb m (fun x=>x∈seen)->(∀ob,Q (.dat i64<|ZA seen r) ob)->Ends tG (L1 l (l.length:Int) (i:Int) m) Q
 |[],i,m,seen,h,f,b,a=>by
  have:=drop_nil h f;exact zj (Al ..) (zi (w8<|by omega)<|zd<|a _)
 |p::r,i,m,seen,h,f,b,a=>by
  obtain⟨q,o,n⟩:=drop_cons (d:=(([],[]):BM)) h;have s:=g p (zm<|by rw[h];exact zl ..);have k:=wn (i:=i) (by omega);rw[oG]at a;refine zj (Al ..) ?_;conv=>zeta
  rw[zh,o,k,Mq b];refine zc (w4<|by omega) (zc (ad (by omega)<|by omega)<|zc rfl (zc rfl (zc rfl (zc (w4 s)<|zc rfl (zf (fun c=>zd ?_)<|fun c=>?_)))))
  ·have c:Sp.wE seen p≠0:=by
    have c:(Sp.wE seen p !=0)=true:=c;simpa using c
   rw[wd c]at a;exact a _
  ·have c:Sp.wE seen p=0:=by
    have c:(Sp.wE seen p !=0)=false:=c;simpa using c
   rw[wc<|by rw[c];decide]at a;have e:At p.2=0:=by
    unfold Sp.wE at c;rw[Bm,Bm,Bm]at c;exact c.2.2.1
   have A:=VL e;refine zc (HJ e).2<|zc A.C6<|zf (fun d=>zd ?_)<|fun d=>?_
   ·rw[wd<|A.Mt.1.1<|w6 d]at a;exact a _
   ·rw[wc fun x=>w7 d<|A.Mt.1.2 x]at a;exact loop l j g r (i+1) _ _ n q (OH b p.1) a
theorem ok:Af A6 57 AbN:=by
 refine BO kB<|fun(l:List BM) a=>?_;have a:IA l 40 20=true:=a;have b:∀e ob,e=NL l->Ad AbN l (.dat i64 e) ob:=fun e ob x=>zr rfl rfl x
 refine zp (Ai l)<|zf (fun c=>zd<|b _ _ ?_)<|fun c=>?_
 ·have c:=w6 c;unfold NL;rw[wd<|by omega]
 ·have c:=w7 c;have e:NL l=ZA [] l:=by
   unfold NL;rw[wc<|by omega]
  exact loop l (by omega) (fun p hp=>by have:=(N8 a p hp).2;omega) l 0 [] [] rfl (zq _) O2 (fun ob=>b _ _ e.symm)
end T57
theorem kX:C9 vW:=Aa T52.yN<|Aa T50.ok<|Aa T51.ok<|Aa T53.ok<|Aa T54.ok<|Aa T55.ok<|Aa T56.ok<|Aa T57.ok AI
namespace T13
theorem loop{Q:PV->Ob->Prop}(c j nx:B0)(t w:List BM)(u:t.length<=1000)(b:∀p∈t,At p.1=0/\At p.2=0)(l:IA w 40 20=true):∀(r:List BM) (i:Nat),t.drop i=r->1<=i->i<=t.length->(∀ob,Q (.dat i64<|if RX (some (t.getD (i-1) ([],[])).2) r≠0 then RX (some (t.getD (i-1) ([],[])).2) r else NL w) ob)->Ends vW (L1 (i:Int) c j nx t w) Q
 |[],i,h,o,f,a=>by
  have:=drop_nil h f;exact zj (Al ..) (zi (w8<|by omega)<|zc l<|zd<|a _)
 |p::r,i,h,o,f,a=>by
  obtain⟨x,k,q⟩:=drop_cons (d:=(([],[]):BM)) h;have s:=b p (zm<|by rw[h];exact zl ..);have m:=b (t.getD (i-1) ([],[])) (GY<|by omega);have n:=wn (i:=i) (by omega);have v:ze .i64 ((i:Int)-1)=((i-1:Nat):Int):=by rw[wr _ (by omega)<|by omega];omega
  rw[U7]at a;refine zj (Al ..) ?_;conv=>zeta
  rw[v,zh,zh,k,n];have o1:=HJ s.2;have e:=HJ m.2;have g:=aK s.2 m.2;refine zc (w4<|by omega) (zc (ad (by omega)<|by omega) (zc (ad (by omega)<|by omega)<|zc o1.2<|zc e.2<|zc (Ab o1.1 e.1)<|zf (fun d=>zd ?_)<|fun d=>?_))
  ·have d:FZ (zH p.2) (zH (t.getD (i-1) ([],[])).2)<0:=w6 d;rw[g]at d;rw[wd d,wd<|by decide]at a;exact a _
  ·have d:¬FZ (zH p.2) (zH (t.getD (i-1) ([],[])).2)<0:=w7 d;rw[g]at d;rw[wc d]at a;exact loop c j nx t w u b l r (i+1) q (by omega) x (by rw[Nat.add_sub_cancel,k];exact a)
theorem ok:Af A6 13 cLv:=by
 refine BO kX<|fun(l:BW) hi=>?_;have a:=SO hi;have b:∀e ob,e=JL l->Ad cLv l (.dat i64 e) ob:=fun e ob x=>zr rfl rfl x
 have hp:J5 1000000 l.2.2.2.1=true:=by
  unfold J5;rw[z7];intro p hp;have:=a.tab p hp;exact ad (by omega) (by omega)
 have a1:=a.head;have a2:=a.next;have a3:=a.tl;have i:IA l.2.2.2.2 40 20=true:=by
  unfold IA;rw[z7];intro p hp;have:=a.wts p hp;exact Ab (w4 this.1)<|w4 this.2
 refine zp (Ai l) (zc rfl (zc rfl (zc (Ab (Ab (w4<|by omega) rfl) rfl)<|zc (Ab (Ab (w4<|by omega) rfl) rfl)<|zc (Ab (w4<|by omega) hp)<|zc rfl (zf (fun c=>zd<|b _ _ ?_)<|fun c=>?_))))
 ·have c:(Mh l !=0)=true:=c;have c:Mh l≠0:=by simpa using c
  unfold JL;rw[wd c];rfl
 ·have c:(Mh l !=0)=false:=c;have c:Mh l=0:=by simpa using c
  have ct:B2 l.2.2.2.1=0:=by
   unfold Mh at c;rw[Bm,Bm,Bm,Bm]at c;exact c.2.2.2.1
  obtain⟨f,_,g⟩:=No ct;have d:=N5 g;obtain⟨p,r,hr⟩:∃p r,l.2.2.2.1=p::r:=by
   cases e:l.2.2.2.1 with
   |nil=>exact wh e f
   |cons p r=>exact⟨p,r,rfl⟩
  have h:l.2.2.2.1.getD (1-1) ([],[])=p:=by rw[hr];rfl
  have up:RX none l.2.2.2.1=RX (some p.2) r:=by rw[hr,RX]
  refine loop _ _ _ _ _ (by omega) d i r 1 (by rw[hr];rfl) (by omega) (by rw[hr,zo];omega)<|fun ob=>b _ _ ?_;rw[h, <-up];exact(wc (c:=Mh l≠0)<|by rw[c];decide).symm
end T13
theorem lN:C9 tM:=Aa T52.yN<|Aa T50.ok<|Aa T51.ok<|Aa T53.ok AI
namespace T64
theorem loop{Q:PV->Ob->Prop}(l:List Io)(b:l.length<=1000000):∀(r:List Io) (i:Nat),l.drop i=r->i<=l.length->(∀ob,Q (.dat i64<|fF r) ob)->Ends tM (L1 l (l.length:Int) (i:Int)) Q
 |[],i,h,j,a=>by
  have:=drop_nil h j;exact zj (Al ..) (zi (w8<|by omega)<|zd<|a _)
 |o::r,i,h,j,a=>by
  obtain⟨f,m,g⟩:=drop_cons (d:=(([],0):Io)) h;have k:=wn (i:=i) (by omega);rw[kA]at a;refine zj (Al ..) ?_;conv=>zeta
  rw[zh,m,k];refine zc (w4<|by omega) (zc (ad (by omega)<|by omega)<|zc rfl (zc rfl (zf (fun d=>zc rfl (zc rfl ?_))<|fun d=>zc rfl (zc rfl ?_))))
  ·have e:Sp.oE o=yd [Cj (!zz o.1) 8,Cj true 3]:=by
    unfold Sp.oE;rw[w4<|.inl<|w6 d]
   rw[e]at a;refine zf (fun c=>zd ?_)<|fun c=>loop l b r (i+1) g f ?_
   ·rw[wd<|by simpa using c]at a;exact a _
   ·rw[wc<|by simpa using c]at a;exact a
  ·have e:Sp.oE o=yd [Cj (!zz o.1) 8,Cj (decide (o.2>10)) 3]:=by
    unfold Sp.oE;have d:=w7 d;have:decide (o.2<0\/10<o.2)=decide (o.2>10):=by
     apply decide_eq_decide.2;omega
    rw[this]
   rw[e]at a;refine zf (fun c=>zd ?_)<|fun c=>loop l b r (i+1) g f ?_
   ·rw[wd<|by simpa using c]at a;exact a _
   ·rw[wc<|by simpa using c]at a;exact a
theorem ok:Af A6 64 bX:=by
 refine BO lN<|fun(s:BX) hi=>?_;obtain⟨a1,a2,a3,a4,a5⟩:=N4 hi;have f:∀e ob,e=K5 s->Ad bX s (.dat i64 e) ob:=fun e ob x=>zr rfl rfl x
 have b:∀ {a:B0} {lo h:Int},a.length<=20->GO lo=true->GO h=true->(decide (a.length<=1000000)&&GO lo&&GO h)=true:=fun k x y=>Ab (Ab (w4<|by omega) x) y
 have d:Uf s=yd [BI s.1 (-10000) 10000,BI s.2.1 (-10000) 10000,BI s.2.2.1 0 10000,BI s.2.2.2.1 0 10000,Cj (decide ((s.2.2.2.2.length:Int)>16)) 5]:=by
  unfold Uf;have:decide (16<s.2.2.2.2.length)=decide ((s.2.2.2.2.length:Int)>16):=by
   apply decide_eq_decide.2;omega
  rw[this]
 refine zp (Ai s)<|zc (b a1 rfl rfl)<|zc (b a2 rfl rfl)<|zc (b a3 rfl rfl)<|zc (b a4 rfl rfl)<|zc rfl (zc rfl (zf (fun c=>zd<|f _ _ ?_)<|fun c=>?_))
 ·rw[<-d]at c ⊢;unfold K5;rw[wd<|by simpa using c]
 ·rw[<-d]at c;have e:K5 s=fF s.2.2.2.2:=by
   unfold K5;rw[wc<|by simpa using c]
  exact loop _ (by omega) _ 0 rfl (zq _) (fun ob=>f _ _ e.symm)
end T64
end Go.Pe
namespace Go.Sp
theorem KL{α:Type}(l:List α)(m:Nat):CY (l.length:Int) (m:Int)=if l=[]then 12 else if m<l.length then 5 else 0:=by
 unfold CY;cases l with
 |nil=>rfl
 |cons x l=>
  rw[wc (by rw[zo];omega),wc<|List.cons_ne_nil x l];by_cases h:m<(x::l).length
  ·rw[wd h,wd<|by omega]
  ·rw[wc h,wc<|by omega]
theorem bC(c:AT):NU c=if CY (c.1.length:Int) 36≠0 then CY (c.1.length:Int) 36 else if I4 c.1≠0 then I4 c.1 else Ut c:=by
 have e:=KL c.1 36;have e:CY (c.1.length:Int) 36=if c.1=[]then 12 else if 36<c.1.length then 5 else 0:=e
 rw[e];unfold NU;by_cases h:c.1=[]
 ·rw[wd h,wd h,wd<|by decide]
 ·rw[wc h,wc h];by_cases k:36<c.1.length
  ·rw[wd k,wd k,wd<|by decide]
  ·rw[wc k,wc k];exact(wc<|fun x=>x rfl).symm
theorem XE(c:AT):Ut c=if CY (c.2.1.length:Int) 8≠0 then CY (c.2.1.length:Int) 8 else if FV (c.1.length:Int) [] c.2.1≠0 then FV (c.1.length:Int) [] c.2.1 else NN c:=by
 have e:=KL c.2.1 8;have e:CY (c.2.1.length:Int) 8=if c.2.1=[]then 12 else if 8<c.2.1.length then 5 else 0:=e
 rw[e];unfold Ut;by_cases h:c.2.1=[]
 ·rw[wd h,wd h,wd<|by decide]
 ·rw[wc h,wc h];by_cases k:8<c.2.1.length
  ·rw[wd k,wd k,wd<|by decide]
  ·rw[wc k,wc k];exact(wc<|fun x=>x rfl).symm
theorem Xn(c:AT):NN c=if CY (c.2.2.length:Int) 8≠0 then CY (c.2.2.length:Int) 8 else LN [] c.2.2:=by
 have e:=KL c.2.2 8;have e:CY (c.2.2.length:Int) 8=if c.2.2=[]then 12 else if 8<c.2.2.length then 5 else 0:=e
 rw[e];unfold NN;by_cases h:c.2.2=[]
 ·rw[wd h,wd h,wd<|by decide]
 ·rw[wc h,wc h];by_cases k:8<c.2.2.length
  ·rw[wd k,wd k,wd<|by decide]
  ·rw[wc k,wc k];exact(wc<|fun x=>x rfl).symm
theorem Rx(s:BX)(l:List BX):I4 (s::l)=if K5 s≠0 then K5 s else I4 l:=by rw[I4]
def tE(n:Int)(seen:List B0)(t:Ct)(b:Bool):Int:=first [Cj (!isName t.1) 8,Cj (has seen t.1) 9,Cj ((t.2.length:Int) !=n) 2,Cj b 3]
theorem eW(n:Int)(seen:List B0)(t:Ct)(l:List Ct):FV n seen (t::l)=if tE n seen t (Er t.2)≠0 then tE n seen t (Er t.2)else FV n (t.1::seen) l:=by
 rw[FV];unfold tE;rw[Bn,Bn,Bn,Bn,EY,EY,EY,EY];cases isName t.1
 ·rfl
 ·cases has seen t.1
  ·by_cases h:(t.2.length:Int)=n
   ·rw[show((t.2.length:Int) !=n)=false by simp[h]];cases Er t.2
    ·rw[wc (by decide),wc (by decide),wc<|fun x=>x h];rfl
    ·rw[wc (by decide),wc (by decide),wc<|fun x=>x h];rfl
   ·rw[show((t.2.length:Int) !=n)=true by simp[h]];rw[wc (by decide),wc (by decide),wd h];rfl
  ·rfl
theorem cC(seen:List B0)(l:BW)(r:List BW):LN seen (l::r)=if first [JL l,Cj (has seen l.1) 9]≠0 then first [JL l,Cj (has seen l.1) 9]else LN (l.1::seen) r:=by
 rw[LN,Go.Pe.J1,EY];cases has seen l.1<;>by_cases h:JL l=0<;>simp[h]
end Go.Sp
namespace Go.Pe
open Sp
open Go.Det
open Go.Sp (AT BX BW BM Io B0 Ct)
theorem pK:C9 LA:=Aa T63.ok<|Aa T64.ok<|Aa T52.yN<|Aa T50.ok<|Aa T51.ok<|Aa T13.ok AI
namespace T15
variable {Q:PV->Ob->Prop}
theorem V5(l:List BW)(g:l.length<=1000000)(e:∀x∈l,Sp.BB x=true):∀(r:List BW) (i:Nat) (m:List (B0×Bool)) (seen:List B0),l.drop i=r->i<=l.length->Jb m (fun x=>x∈seen)->(∀ob,Q (.dat i64<|LN seen r) ob)->Ends LA (L4 l (l.length:Int) (i:Int) m) Q
 |[],i,m,seen,h,f,b,a=>by
  have:=drop_nil h f;exact zj (CD ..) (zi (w8<|by omega)<|zd<|a _)
 |p::r,i,m,seen,h,f,b,a=>by
  obtain⟨n,k,o⟩:=drop_cons (d:=(([],[],[],[],[]):BW)) h;have s:=e p (zm<|by rw[h];exact zl ..);have j:=wn (i:=i) (by omega);rw[cC]at a;refine zj (CD ..) ?_;conv=>zeta
  rw[zh,k,j,Mq b];refine zc (w4<|by omega) (zc (ad (by omega)<|by omega)<|zc s<|zc rfl (zc rfl (zf (fun c=>zd ?_)<|fun c=>?_)))
  ·have c:(yd [JL p,Cj (Sp.has seen p.1) 9] !=0)=true:=c;rw[wd<|by simpa using c]at a;exact a _
  ·have c:(yd [JL p,Cj (Sp.has seen p.1) 9] !=0)=false:=c;rw[wc<|by simpa using c]at a;exact V5 l g e r (i+1) _ _ o n (OH b p.1) a
theorem Jg{l:List Ct}{k p:Int}{o1:List (B0×Bool)}{w:List BX}{o:List Ct}{g:List BW}(t:Ct)(z:t.2.length<=1000000)(m:List (B0×Bool))(seen:List B0)(q:Jb m (fun x=>x∈seen))(S:List BX)(s:List Ct)(V:List BW):∀(r:List Int) (j:Nat),t.2.drop j=r->j<=t.2.length->
  (∀ob,Sp.tE (S.length:Int) seen t (Er r)≠0->Q (.dat i64<|Sp.tE (S.length:Int) seen t<|Er r) ob)->(Sp.tE (S.length:Int) seen t (Er r)=0->Ends LA (L2 l k (ze .i64<|p+1) (Ix .str .bool t.1 true m) S s V) Q)->
  Ends LA (L3 l k p o1 w o g t.2 (t.2.length:Int) (j:Int) t.1 t.2 m S s V) Q
 |[],j,h,u,b,a=>by
  have:=drop_nil h u;refine zj (B5 ..) (zi (w8<|by omega) ?_);rw[Mq q];refine zc rfl (zc rfl (zc rfl (zc rfl (zc rfl (zc rfl (zf (fun c=>zd ?_)<|fun c=>?_))))))
  ·have c:(Sp.tE (S.length:Int) seen t (Er []) !=0)=true:=c;exact b _ (by simpa using c)
  ·have c:(Sp.tE (S.length:Int) seen t (Er []) !=0)=false:=c;exact a (by simpa using c)
 |n::r,j,h,u,b,a=>by
  obtain⟨C,B,y⟩:=drop_cons (d:=(0:Int)) h;have v:=wn (i:=j) (by omega);have A:decide ((j:Int)>=0)=true:=w4 (by omega);have f:Er (n::r)=((decide (n<1)||decide (10000<n))||Er r):=by unfold Er;rw[zw]
  refine zj (B5 ..) ?_;conv=>zeta
  rw[zh,B,v,A,Mq q];refine zc (w4<|by omega) (zc (Ab (by first|rfl|exact w4<|by omega)<|w4<|by omega)<|zf (fun d=>?_)<|fun d=>zf (fun e=>?_)<|fun e=>?_)
  ·rw[d,zt,zt]at f;rw[f]at b a;refine zc rfl (zc rfl (zc rfl (zc rfl (zc rfl (zc rfl (zf (fun c=>zd ?_)<|fun c=>?_))))))
   ·have c:(Sp.tE (S.length:Int) seen t true !=0)=true:=c;exact b _ (by simpa using c)
   ·have c:(Sp.tE (S.length:Int) seen t true !=0)=false:=c;exact a (by simpa using c)
  ·have e:decide (10000<n)=true:=e;rw[e,ya,zt]at f;rw[f]at b a;refine zc rfl (zc rfl (zc rfl (zc rfl (zc rfl (zc rfl (zf (fun c=>zd ?_)<|fun c=>?_))))))
   ·have c:(Sp.tE (S.length:Int) seen t true !=0)=true:=c;exact b _ (by simpa using c)
   ·have c:(Sp.tE (S.length:Int) seen t true !=0)=false:=c;exact a (by simpa using c)
  ·have e:decide (10000<n)=false:=e;rw[d,e,zx,zx]at f;rw[f]at b a;exact Jg t z m seen q S s V r (j+1) y C b a
theorem Ge(c:AT)(b:He c=true):∀(r:List Ct) (i:Nat) (m:List (B0×Bool)) (seen:List B0),c.2.1.drop i=r->i<=c.2.1.length->Jb m (fun x=>x∈seen)->
  (∀ob,Q (.dat i64<|if FV (c.1.length:Int) seen r≠0 then FV (c.1.length:Int) seen r else NN c) ob)->Ends LA (L2 c.2.1 (c.2.1.length:Int) (i:Int) m c.1 c.2.1 c.2.2) Q
 |[],i,m,seen,h,f,e,a=>by
  have:=drop_nil h f;have a:∀ob,Q (.dat i64<|NN c) ob:=fun ob=>by
   have:=a ob;rwa [show FV (c.1.length:Int) seen []=0 from rfl,wc<|fun x=>x rfl]at this
  rw[Xn]at a;refine zj (AH ..) (zi (w8<|by omega)<|zc rfl (zf (fun d=>zd ?_)<|fun d=>?_))
  ·rw[wd<|by simpa using d]at a;exact a _
  ·rw[wc<|by simpa using d]at a;have s:=Nf b;exact V5 c.2.2 (by have:=s.2.2.1;omega) s.2.2.2.2.2 c.2.2 0 [] [] rfl (zq _) O2 a
 |t::r,i,m,seen,h,f,e,a=>by
  obtain⟨k,j,n⟩:=drop_cons (d:=(([],[]):Ct)) h;have s:=Nf b;have st:=s.2.2.2.2.1 t (zm<|by rw[h];exact zl ..);have st:(decide (t.1.length<=40)&&decide (t.2.length<=40))=true:=st;rw[zn,w5,w5]at st;have o:=s.2.1;have g:=wn (i:=i) (by omega);rw[eW]at a;refine zj (AH ..) ?_;conv=>zeta
  rw[zh,j];refine zc (w4<|by omega) (zc (ad (by omega)<|by omega) ?_);refine Jg t (by omega) m seen e c.1 c.2.1 c.2.2 t.2 0 rfl (zq _) (fun ob d=>?_) (fun d=>?_)
  ·rw[wd d,wd d]at a;exact a _
  ·have l:¬Sp.tE (c.1.length:Int) seen t (Er t.2)≠0:=fun x=>x d
   rw[wc l]at a;rw[g];exact Ge c b r (i+1) _ _ n k (OH e t.1) a
theorem GP(c:AT)(b:He c=true):∀(r:List BX) (i:Nat),c.1.drop i=r->i<=c.1.length->
  (∀ob,Q (.dat i64<|if I4 r≠0 then I4 r else Ut c) ob)->Ends LA (L1 c.1 (c.1.length:Int) (i:Int) c.1 c.2.1 c.2.2) Q
 |[],i,h,e,a=>by
  have:=drop_nil h e;have a:∀ob,Q (.dat i64<|Ut c) ob:=fun ob=>by
   have:=a ob;rwa [show I4 []=0 from rfl,wc<|fun x=>x rfl]at this
  rw[XE]at a;refine zj (Al ..) (zi (w8<|by omega)<|zc rfl (zf (fun d=>zd ?_)<|fun d=>?_))
  ·rw[wd<|by simpa using d]at a;exact a _
  ·rw[wc<|by simpa using d]at a;exact Ge c b c.2.1 0 [] [] rfl (zq _) O2 a
 |p::r,i,h,e,a=>by
  obtain⟨j,g,l⟩:=drop_cons (d:=(([],[],[],[],[]):BX)) h;have s:=Nf b;have sp:=s.2.2.2.1 p (zm<|by rw[h];exact zl ..);have m:=s.1;have f:=wn (i:=i) (by omega);rw[Rx]at a;refine zj (Al ..) ?_;conv=>zeta
  rw[zh,g,f];refine zc (w4<|by omega) (zc (ad (by omega)<|by omega)<|zc sp<|zf (fun d=>zd ?_)<|fun d=>?_)
  ·have d:(K5 p !=0)=true:=d;have d:K5 p≠0:=by simpa using d
   rw[wd d,wd d]at a;exact a _
  ·have d:(K5 p !=0)=false:=d;have k:¬K5 p≠0:=by simpa using d
   rw[wc k]at a;exact GP c b r (i+1) l j a
theorem ok:Af A6 15 cCo:=by
 refine BO pK<|fun(c:AT) a=>?_;have a:He c=true:=a;have b:∀e ob,e=NU c->Ad cCo c (.dat i64 e) ob:=fun e ob x=>zr rfl rfl x
 have e:=bC c;refine zp (Ai c)<|zc rfl (zf (fun d=>zd<|b _ _ ?_)<|fun d=>?_)
 ·rw[wd<|by simpa using d]at e;exact e.symm
 ·rw[wc<|by simpa using d]at e;exact GP c a c.1 0 rfl (zq _) (fun ob=>b _ _ e.symm)
end T15
end Go.Pe
namespace Go.Pe
open Sp
open Go.Det
open Go.Sp (AT BX BW BM Io B0)
theorem mI:C9 AcK:=Aa T137.ok<|Aa T142.ok<|Aa T143.ok AI
theorem T77.ok:Af A6 77 Aak:=by
 refine BO mI<|fun(a:(Int×List Int)×(Int×List Int)) h=>?_;obtain⟨a1,a2,c,b,a0⟩:=E7 h;have n:=Zf (f:=a) h;obtain⟨b1,_,_,_,_⟩:=E7 n;exact zp (T77.Ai a)<|zc (B3 a1).1<|zc n<|zc (Tc b1 a0)<|zd<|zr rfl rfl rfl
theorem T78.ok:Af A6 78 mQ:=by
 refine Gf (X:=E1) rfl (fun g sp h=>by cases h) (d:=9) (by kernel_rfl) (by kernel_rfl) (by kernel_rfl) (fun(a:Int×List Int) _=>?_) (Bb<|by kernel_rfl);refine zp (T78.Ai a)<|zd<|zr rfl rfl ?_;show(a.1,!decide (0<a.2.length))=(a.1,decide (a.2=[]));cases a.2<;>rfl
theorem T69.ok:Af A6 69 zP:=by
 refine Gf (X:=E1) rfl (fun g sp h=>by cases h) (d:=9) (by kernel_rfl) (by kernel_rfl) (by kernel_rfl) (fun(i:AT×Int) _=>?_) (Bb<|by kernel_rfl);exact zp (T69.Ai i.1 i.2)<|zd<|zr rfl rfl rfl
theorem T70.ok:Af A6 70 jM:=by
 refine Gf (X:=E1) rfl (fun g sp h=>by cases h) (d:=9) (by kernel_rfl) (by kernel_rfl) (by kernel_rfl) (fun(i:AT×Int) _=>?_) (Bb<|by kernel_rfl);exact zp (T70.Ai i.1 i.2)<|zd<|zr rfl rfl rfl
theorem T73.ok:Af A6 73 aL:=by
 refine Gf (X:=E1) rfl (fun g sp h=>by cases h) (d:=9) (by kernel_rfl) (by kernel_rfl) (by kernel_rfl) (fun(i:AT×Int) _=>?_) (Bb<|by kernel_rfl);exact zp (T73.Ai i.1 i.2)<|zd<|zr rfl rfl rfl
theorem YS{i:Int}{n:Nat}(h:0<=i/\i<(n:Int)):(decide ((0:Int)<=i)&&decide (i<(n:Int)))=true:=Ab (w4 h.1)<|w4 h.2
theorem F4{s:B0}(h:At s=0):Eu s=true:=(D8 (CQ h).1).2.2.2.2.2.2.1
theorem uS(x y:Int):imax x y=max x y:=by
 unfold imax;split<;>omega
theorem kE:C9 Tz:=Aa T55.ok<|Aa T103.ok<|Aa T75.ok<|Aa T115.ok AI
namespace T72
theorem ok:Af A6 72 cPl:=by
 refine BO kE<|fun(i:AT×Int×Int) hi=>?_;obtain⟨c,t,h⟩:=i;have P:=KZ hi;have z:RS 1 Sp.zF 0:=T5;have a1:=z.add P.hr.rise (by decide) (by decide);have a2:=a1.add P.hr.wind (by decide) (by decide);have a3:=a2.add P.hr.lay (by decide) (by decide);have b:=(nK P).C6;have g:0<=h/\h<((c.2.1.getD t.toNat ([],[])).2.length:Int):=by rw[P.tl];exact P.h0
 obtain⟨s,a⟩:∃s,s=Bu c h:=⟨_,rfl⟩;have fin:∀f:Ak,f=Ci (Ci (Ci Sp.zF<|Fk s.1)<|Fk s.2.1) (Fk s.2.2.1)->Ends Tz (L2 t h c s 0 0 3 3 3 f.1.1 f.1.2 f.2.1 f.2.2 0 0 [s.1,s.2.1,s.2.2.1] 0 0) (Ad cPl (c,t,h)):=fun f d=>by
  have e:Ci (Sp.iF<|G6 c t h) f=lO c t h:=by rw[d,a];rfl
  refine zj (AH ..) (zi rfl (zc (by rw[a]at d;rw[<-d]at a3;exact(fV P.te).ZT a3 (by decide)<|by decide)<|zc (by rw[<-e]at b;exact b)<|zf (fun s=>zc rfl (zd<|zr rfl rfl ?_))<|fun s=>zd<|zr rfl rfl ?_))
  ·have s:P4 (Ci (Sp.iF<|G6 c t h) f)<0:=w6 s;rw[e]at s;show Sp.zF=Of c t h;unfold Of;rw[wd s]
  ·have s:¬P4 (Ci (Sp.iF<|G6 c t h) f)<0:=w7 s;rw[e]at s;show Ci (Sp.iF<|G6 c t h) f=Of c t h;rw[e];unfold Of;rw[wc s]
 rw[<-a]at a1 a2 a3;have s2:∀f:Ak,f=Ci (Ci Sp.zF<|Fk s.1) (Fk s.2.1)->Ends Tz (L2 t h c s 0 0 3 3 2 f.1.1 f.1.2 f.2.1 f.2.2 0 0 [s.1,s.2.1,s.2.2.1] 0 0) (Ad cPl (c,t,h)):=fun f d=>by
  rw[<-d]at a2 fin;refine zj (AH ..) (zc rfl (zc rfl (zc rfl (zc (by rw[a];exact F4 P.st.lay)<|zc (a2.ZT (by rw[a];exact P.hr.lay) (by decide)<|by decide) ?_))));exact fin (Ci f<|Fk s.2.2.1) rfl
 have s1:∀f:Ak,f=Ci Sp.zF (Fk s.1)->Ends Tz (L2 t h c s 0 0 3 3 1 f.1.1 f.1.2 f.2.1 f.2.2 0 0 [s.1,s.2.1,s.2.2.1] 0 0) (Ad cPl (c,t,h)):=fun f d=>by
  rw[<-d]at a1 s2;refine zj (AH ..) (zc rfl (zc rfl (zc rfl (zc (by rw[a];exact F4 P.st.wind)<|zc (a1.ZT (by rw[a];exact P.hr.wind) (by decide)<|by decide) ?_))));exact s2 (Ci f<|Fk s.2.1) rfl
 refine zp (Ai c t h)<|zc (YS P.h0)<|zj (Al ..)<|zc (YS P.t0)<|zc (YS g)<|zc rfl (zc rfl ?_);show Ends Tz (L2 t h c (Bu c h) 0 0 3 3 0 0 (CW 0) 1 (CW 1) 0 0 [(Bu c h).1,(Bu c h).2.1,(Bu c h).2.2.1] 0 0) _;rw[<-a];refine zj (AH ..) (zc rfl (zc rfl (zc rfl (zc (by rw[a];exact F4 P.st.rise)<|zc (z.ZT (by rw[a];exact P.hr.rise) (by decide)<|by decide) ?_))));exact s1 (Ci Sp.zF<|Fk s.1) rfl
end T72
theorem gE:C9 kF:=Aa T72.ok<|Aa T55.ok<|Aa T56.ok<|Aa T75.ok<|Aa T74.ok<|Aa T102.ok<|Aa T76.ok AI
structure AtA(c:AT)(t h l:Int):Prop where
 P:AtP c t h
 L:AtL c l
 kp:Y2 c t h=true
 ko:Sp.okO c h l=true
 h0:Au (Cw c l).2.1+Au (Bu c h).2.2.2.1≠0
 n0:Au (Cw c l).2.2.1+Au (Bu c h).2.2.2.1≠0
theorem Uu{c:AT}{t h l:Int}(k:bD c t h l=true):AtA c t h l:=by
 obtain⟨kp,ko⟩:=WQ k;have P:=KZ kp;obtain⟨L,_,_,_⟩:=Yc ko;have a:=P.st.rollB.1;exact⟨P,L,kp,ko,Rat.ne_of_gt<|Jv L.lr.hp a,Rat.ne_of_gt<|Jv L.lr.np a⟩
namespace T79
theorem ok:Af A6 79 cEf:=by
 refine BO gE<|fun(i:AT×Int×Int×Int) hi=>?_;obtain⟨c,t,h,l⟩:=i;obtain⟨P,L,kp,ko,h0,n0⟩:=Uu hi;have p:=Wf P;have r:=P.hr.roll;have reach:=L.lr.head.add r (by decide) (by decide);have a:=L.lr.next.add r (by decide) (by decide);have d:=p.sub reach (by decide) (by decide);have m:=d.mul L.lr.next (by decide) (by decide);have q:=m.div a (by decide) (by decide) n0;have b:=p.mul L.lr.head (by decide) (by decide);refine zp (Ai c t h l) (zc (YS L.l0) (zc (YS P.h0)<|zc (F4 P.st.roll)<|zc kp<|zc (F4 L.lv.head)<|zc (F4 L.lv.next)<|zc (L.lr.head.ZT r (by decide)<|by decide) ?_));refine zj (Al ..) (zc (Ab (p.Df<|by decide)<|reach.Df<|by decide)<|zf (fun s=>?_)<|fun s=>?_)
 ·have s:FZ (Of c t h) (Ci (G2 c l)<|Ik c h)<=0:=w6 s;refine zc (p.ZT L.lr.head (by decide)<|by decide) (zc (b.ok3 reach (by decide) (by decide) h0)<|zd<|zr rfl rfl ?_);show KN (LW (Of c t h)<|G2 c l) (Ci (G2 c l)<|Ik c h)=qI c t h l;unfold qI;rw[wd s]
 ·have s:¬FZ (Of c t h) (Ci (G2 c l)<|Ik c h)<=0:=w7 s;refine zj (AH ..) (zc (p.ZT reach (by decide)<|by decide)<|zc (d.ZT L.lr.next (by decide) (by decide))<|zc (L.lr.next.ZT r (by decide) (by decide))<|zc (m.ok3 a (by decide) (by decide) n0)<|zc (L.lr.head.ZT q (by decide)<|by decide)<|zd<|zr rfl rfl ?_);show Ci (G2 c l) (KN (LW (NW (Of c t h)<|Ci (G2 c l)<|Ik c h)<|LF c l)<|Ci (LF c l)<|Ik c h)=qI c t h l;unfold qI;rw[wc s]
end T79
theorem mN:C9 sP:=Aa T15.ok<|Aa T51.ok AI
namespace T68
theorem loop{Q:PV->Ob->Prop}{q:List BX}{n:List Ct}{v:List BW}(c:AT)(l:List (Int×Int))(k:l.length<=1000)(f:∀ob,Q (.dat i64<|Cj (TO l) 10) ob):∀(r:List (Int×Int)) (i:Nat),l.drop i=r->i<=l.length->TO l=TO r->Ends sP (L1 c l l (l.length:Int) (i:Int) q n v) Q
 |[],i,h,j,e=>by
  have:=drop_nil h j;rw[e]at f;exact zj (Al ..) (zi (w8<|by omega)<|zc rfl (zd<|f _))
 |p::r,i,h,j,e=>by
  obtain⟨u,t,o⟩:=drop_cons (d:=((0,0):Int×Int)) h;have m:=wn (i:=i) (by omega);have g:TO (p::r)=(decide (p.1<0)||decide (p.2<=p.1)||TO r):=zw;have s:decide ((i:Int)>=0)=true:=w4 (by omega);refine zj (Al ..) ?_;conv=>zeta
  rw[zh,t,m,s];refine zc (w4<|by omega) (zc (Ab rfl (w4<|by omega))<|zf (fun a=>zc rfl (zd ?_))<|fun a=>zf (fun b=>zc rfl (zd ?_))<|fun b=>?_)
  ·rw[e,g,show decide (p.1<0)=true from a]at f;exact f _
  ·rw[e,g,show decide (p.2<=p.1)=true from b,ya]at f;exact f _
  ·exact loop c l k f r (i+1) o u (by rw[e,g,show decide (p.1<0)=false from a,show decide (p.2<=p.1)=false from b];rfl)
theorem ok:Af A6 68 Un:=by
 refine BO mN<|fun(i:AT×List (Int×Int)) a=>?_;obtain⟨c,l⟩:=i;have a:(He c&&decide (l.length<=1000))=true:=a;rw[zn,w5]at a;have b:∀v ob,v=K4 c l->Ad Un (c,l) (.dat i64 v) ob:=fun v ob e=>zr rfl rfl e
 refine zp (Ai c l)<|zc a.1<|zf (fun k=>zd<|b _ _ ?_)<|fun k=>?_
 ·have k:NU c≠0:=by simpa using k
  show NU c=K4 c l;unfold K4 J8;rw[wd k]
 ·have k:¬NU c≠0:=by simpa using k
  refine loop c l a.2 (fun ob=>b _ _ ?_) l 0 rfl (zq _) rfl;unfold K4 J8 Cj;rw[wc k];cases TO l<;>rfl
end T68
theorem OO:C9 XV:=Aa T69.ok<|Aa T70.ok<|Aa T73.ok<|Aa T68.ok<|Aa T71.ok<|Aa T72.ok<|Aa T79.ok<|Aa T55.ok<|Aa T75.ok<|Aa T74.ok<|Aa T76.ok<|Aa T77.ok<|Aa T78.ok AI
theorem Aep(c:AT)(t h:Int):K4 c [(t,rL c),(h,wJ c)]=Mw c t h:=by
 unfold K4 TO Mw VH K0;rw[zw,zw,List.any_nil,Bool.or_false];rfl
theorem AdV(c:AT)(t h l:Int):K4 c [(t,rL c),(h,wJ c),(l,Sp.nLv c)]=Ew c t h l:=by
 unfold K4 TO Ew VH K0 cT;rw[zw,zw,zw,List.any_nil,Bool.or_false];rfl
theorem T17.ok:Af A6 17 Zc:=by
 refine BO OO<|fun(i:AT×Int×Int) a=>?_;obtain⟨c,t,h⟩:=i;have a:He c=true:=a;refine zp (T17.Ai c t h) ?_;conv=>zeta
 rw[Aep];refine zc rfl (zc rfl (zc (Ab rfl (Ab a rfl))<|zf (fun k=>zd<|zr rfl rfl ?_)<|fun k=>?_))
 ·have k:Mw c t h≠0:=by simpa using k
  show(([]:B0),Mw c t h)=(fC c t h,fH c t h);unfold fC fH fI fB;rw[wd k,wd k]
 ·have k:Mw c t h=0:=by simpa using k
  have kp:Y2 c t h=true:=Ab a<|w4 k;have p:=Wf<|KZ kp;exact zc kp (zc (p.Df<|by decide)<|zd<|zr rfl rfl (Aag p k))
theorem T19.ok:Af A6 19 AcD:=by
 refine BO OO<|fun(i:AT×Int×Int×Int) a=>?_;obtain⟨c,t,h,l⟩:=i;have a:He c=true:=a;refine zp (T19.Ai c t h l) ?_;conv=>zeta
 rw[AdV];refine zc rfl (zc rfl (zc rfl (zc (Ab rfl (Ab a rfl))<|zf (fun k=>zd<|zr rfl rfl ?_)<|fun k=>?_)))
 ·have k:Ew c t h l≠0:=by simpa using k
  show(([]:B0),Ew c t h l)=(Z6 c t h l,YT c t h l);unfold Z6 YT fI fB;rw[wd k,wd k]
 ·have k:Ew c t h l=0:=by simpa using k
  have kp:bD c t h l=true:=Ab a<|w4 k;have p:=zU kp;exact zc kp (zc (p.Df<|by decide)<|zd<|zr rfl rfl (Aag p k))
theorem T18.ok:Af A6 18 Aae:=by
 refine BO OO<|fun(i:AT×Int×Int×Int) b=>?_;obtain⟨c,t,h,l⟩:=i;have b:He c=true:=b;refine zp (T18.Ai c t h l) ?_;conv=>zeta
 rw[AdV];refine zc rfl (zc rfl (zc rfl (zc (Ab rfl (Ab b rfl))<|zf (fun k=>zd<|zr rfl rfl ?_)<|fun k=>?_)))
 ·have k:Ew c t h l≠0:=by simpa using k
  show((0:Int),Ew c t h l)=(WL c t h l,Ew c t h l);unfold WL;rw[wd k]
 ·have k:Ew c t h l=0:=by simpa using k
  have kp:bD c t h l=true:=Ab b<|w4 k;obtain⟨P,L,f,ko,h0,n0⟩:=Uu kp;have p:=Wf P;have r:=P.hr.roll;have g:=L.lr.next.add r (by decide) (by decide);have d:=p.sub L.lr.head (by decide) (by decide);have a:=d.add L.lr.next (by decide) (by decide);have q:=a.div g (by decide) (by decide) n0;have j:=Vs kp;have e:=Aas q (by decide) (by omega) (by omega) _ rfl;refine zc (YS L.l0)<|zc (YS P.h0)<|zc (F4 P.st.roll)<|zc (F4 L.lv.head)<|zc (F4 L.lv.next) ?_;refine zj (T18.Al ..) (zc f<|zc (p.ZT L.lr.head (by decide)<|by decide)<|zc (d.ZT L.lr.next (by decide) (by decide))<|zc (L.lr.next.ZT r (by decide) (by decide))<|zc (a.ok3 g (by decide) (by decide) n0)<|zc (q.CS<|by decide)<|zc rfl ?_);refine zj (T18.AH ..)<|zd<|zr rfl rfl ?_;show(imax 1 (Cn<|Et (Cn (KN (Ci (NW (Of c t h)<|G2 c l)<|LF c l)<|Ci (LF c l)<|Ik c h).1) (KN (Ci (NW (Of c t h)<|G2 c l)<|LF c l)<|Ci (LF c l)<|Ik c h).2).1,(0:Int))=(WL c t h l,Ew c t h l);rw[k];unfold WL Nk Vq;rw[wc (by rw[k];decide),uS];exact wi (fun x=>(max 1 x,(0:Int))) e
end Go.Pe
namespace Go.Sp
theorem bK{v:Int}(h0:0<v)(h:v<1000000000):BL v=[v]:=by
 have d:Ay B9 [v]:=fun x a=>by rw[List.mem_singleton.1 a];exact⟨by omega,h⟩
 have t:=Ft d;have e:An [v]=v:=by show v+(B9:Int)*0=v;omega
 rw[e]at t;rw[<-t];show(if v=0 then[]else[v])=[v];rw[wc<|by omega]
theorem tU{n:Int}(h0:0<=n)(h:n<1000000000):eE (AU (n:Rat))=true/\BC (AU (n:Rat))=n:=by
 have e:AU (n:Rat)=Lib.itoa n:=by
  unfold AU;rw[Rat.den_intCast,Rat.num_intCast,wd rfl]
 have r:=(Dw n).2.2.2;have z:Hf 9 (n:Rat):=(Ug (n:=n) (k:=9) (by omega)<|by decide).z;have l:=LQ z (by decide);have c:H5 (AU (n:Rat))=true:=by
  unfold H5;rw[(FA _).2.2,Rat.den_intCast];rfl
 have b:Du (Lib.itoa n)=true:=by
  rw[e]at l;have a:Ap (Lib.itoa n)=true:=by
   unfold Lib.itoa;rw[wc<|by omega];exact D3 _
  unfold Du;rw[wc<|EZ a,a,Bool.and_true];exact w4 (by omega)
 rw[<-e]at r b;refine⟨?_,r⟩;unfold eE;rw[r];exact Go.Pe.Ab (Go.Pe.Ab (Go.Pe.Ab (Go.Pe.Ab c<|w4 l) b)<|w4 h0)<|w4 h
theorem Nu.GD{k:Nat}{s:Z}{q:Rat}(h:Nu k s q):Nu k (GD s) (-q):=⟨by rw[h.t,VS],h.z.neg⟩
theorem Nu.M6{k:Nat}{s:Z}{q:Rat}(h:Nu k s q):Nu k (M6 s) (q.floor:Rat):=⟨by unfold Sp.M6;rw[h.rat,Sj],Ww h.z⟩
theorem Nu.sign{k:Nat}{s:Z}{q:Rat}(h:Nu k s q):EU s<=0↔q<=0:=by
 rw[h.t,JI,Go.Pe.AaP];have n:=neg_num q;exact⟨fun x=>yb.1 fun y=>by have:=n.2.2 y;omega,fun x=>by
  have:¬0<q.num:=fun y=>wh (n.2.1 y)<|yb.2 x
  omega⟩
theorem HE{s:Z}(h:At s=0)(a:s.length<=20):Nu 20 s (Au s):=Vi h a (by decide)
end Go.Sp
namespace Go.Pe
open Sp
open Go.Det
open Go.Sp (AT BX BW BM Io B0)
theorem mK:C9 uV:=Aa T148.ok<|Aa T149.ok AI
namespace T83
theorem ok:Af A6 83 Yj:=by
 refine BO mK<|fun(s:Z) a=>?_;have a:eE s=true:=a;unfold eE at a;rw[zn,zn,zn,zn,w5,w5,w5]at a;obtain⟨⟨⟨⟨w,l⟩,g⟩,k⟩,j⟩:=a;have f:Gy s=false:=w8 (by omega);have d:Ag (BC s)=BC s:=by rw[Aj];omega
 have c:∀(v:Int) ob,v=BC s->Ad Yj s (.tup [.dat i64 v,.bl true]) ob:=fun v ob e=>zr rfl rfl (by rw[e];rfl)
 refine zp (Ai s) (zc (w4<|by omega) (zi (by rw[w];rfl)<|zi (w8<|by omega)<|zc g ?_));rw[f];by_cases h:BC s=0
 ·have b:D9 s=[]:=by
   unfold D9 Sp.rW;rw[d,h];rfl
  rw[b];exact zj (Al ..)<|zi rfl (zd<|c _ _ h.symm)
 ·have b:D9 s=[BC s]:=by
   unfold D9 Sp.rW;rw[d,bK (by omega) j]
  rw[b];have i:ze .i64 (ze .i64 ((0:Int)*1000000000)+BC s)=BC s:=by
   rw[show ze .i64 ((0:Int)*1000000000)=0 from rfl,Int.zero_add];exact wr _ (by omega) (by omega)
  refine zj (Al ..)<|zc rfl (zc rfl (zi rfl (zi rfl (zi rfl (zi rfl (zi rfl ?_))))));show Ends uV (L1 (ze .i64<|ze .i64 ((0:Int)*1000000000)+BC s) (ze .i64<|(0:Int)-1) false [BC s]) _;rw[i];exact zj (Al ..)<|zi rfl (zd<|c _ _ rfl)
end T83
theorem lW:C9 Acv:=Aa T35.ok<|Aa T33.ok<|Aa T36.ok AI
structure HoN(c:AT)(t h:Int):Prop where
 rise:Sp.Nu 20 (Bu c h).1 (Au (Bu c h).1)
 wind:Sp.Nu 20 (Bu c h).2.1 (Au (Bu c h).2.1)
 lay:Sp.Nu 20 (Bu c h).2.2.1 (Au (Bu c h).2.2.1)
 roll:Sp.Nu 20 (Bu c h).2.2.2.1 (Au (Bu c h).2.2.2.1)
 te:Sp.Nu 5 (XH (G6 c t h)) (G6 c t h:Rat)
 pl:Sp.Nu 70 (NK c t h) (El c t h)
theorem Afc{c:AT}{h:Int}(co:X3 c)(sh:He c=true)(h0:0<=h/\h<(c.1.length:Int)):Sp.BY (Bu c h)=true:=by
 refine(T0 co sh ?_).2;unfold K0 KO;rw[w8 (by omega),w8<|by omega];rfl
theorem SX{c:AT}{t h:Int}(P:AtP c t h):HoN c t h:=by
 have s:=P.sh;obtain⟨a,d,b,e,_⟩:=N4<|Afc P.co s P.h0;exact⟨HE P.st.rise a,HE P.st.wind d,HE P.st.lay b,HE P.st.roll e,Ug (by have:=P.te;omega) (by decide),⟨rfl,(Wf P).z⟩⟩
theorem T24.ok:Af A6 24 Abn:=by
 refine BO lW<|fun(i:AT×Int×Int) hi=>?_;obtain⟨c,t,h⟩:=i;have P:AtP c t h:=KZ hi;have N:=SX P;have e:0<=h/\h<((c.2.1.getD t.toNat ([],[])).2.length:Int):=by rw[P.tl];exact P.h0
 have wl:=N.wind.CR N.lay;have a:=N.rise.CR wl;have p:=N.te.CR a;have f:Yw (G6 c t h)=true:=w4 (by have:=P.te;omega);have d:=p.cmp TX;have eq:(G6 c t h:Rat)+(Au (Bu c h).1+(Au (Bu c h).2.1+Au (Bu c h).2.2.1))=(G6 c t h:Rat)+(Au (Bu c h).1+Au (Bu c h).2.1+Au (Bu c h).2.2.1):=by rw[Rat.add_assoc<|Au (Bu c h).1]
 have b:El c t h=_:=Ti _ _;rw[<-eq]at b;refine zp (T24.Ai c t h) (zc (YS P.h0)<|zc (YS P.t0)<|zc (YS e)<|zc f<|zc (Ab (N.wind.num<|by decide)<|N.lay.num<|by decide)<|zc (Ab (N.rise.num<|by decide)<|wl.num<|by decide)<|zc (Ab (N.te.num<|by decide)<|a.num<|by decide)<|zc (Ab (p.num<|by decide)<|TX.Ep<|by decide)<|zf (fun k=>zd<|zr rfl rfl ?_)<|fun k=>zd<|zr rfl rfl ?_)
 ·have k:=w6 k;show CR (XH<|G6 c t h) (CR (Bu c h).1<|CR (Bu c h).2.1 (Bu c h).2.2.1)=AU (El c t h);rw[b,wc ?_, <-p.t];intro x;have k:0<=E0 (CR (XH<|G6 c t h)<|CR (Bu c h).1<|CR (Bu c h).2.1 (Bu c h).2.2.1) [48]:=k;rw[d,wd x]at k;exact wh k (by decide)
 ·have k:=w7 k;show[48]=AU (El c t h);rw[b,wd ?_]
  ·exact TX.t
  ·have k:¬0<=E0 (CR (XH<|G6 c t h)<|CR (Bu c h).1<|CR (Bu c h).2.1 (Bu c h).2.2.1) [48]:=k;rw[d]at k;by_cases x:(G6 c t h:Rat)+(Au (Bu c h).1+(Au (Bu c h).2.1+Au (Bu c h).2.2.1))<0
   ·exact x
   ·rw[wc x]at k;exact wh (by split<;>decide) k
theorem VK:C9 AaA:=Aa T24.ok<|Aa T33.ok<|Aa T37.ok<|Aa T34.ok<|Aa T82.ok<|Aa T36.ok<|Aa T38.ok<|Aa T84.ok<|Aa T85.ok<|Aa T83.ok AI
structure LvN(c:AT)(l:Int):Prop where
 head:Sp.Nu 20 (Cw c l).2.1 (Au (Cw c l).2.1)
 next:Sp.Nu 20 (Cw c l).2.2.1 (Au (Cw c l).2.2.1)
theorem pU{c:AT}{l:Int}(L:AtL c l):LvN c l:=⟨HE L.lv.head L.ls.head,HE L.lv.next L.ls.next⟩
theorem T26.ok:Af A6 26 Ad1:=by
 refine BO VK<|fun(i:AT×Int×Int×Int) hi=>?_;obtain⟨c,t,h,l⟩:=i;obtain⟨P,L,kp,ko,h0,n0⟩:=Uu (c:=c) (t:=t) (h:=h) (l:=l) hi;have N:=SX P;have V:=pU L;have fr:=V.head.CR N.roll;have b:=V.next.CR N.roll;have a:=N.pl.cmp fr;have e:=N.pl.Ka V.head;have q1:=e.KK fr h0;have d:=N.pl.J6 fr;have m:=d.Ka V.next;have q:=m.KK b n0;have r:=V.head.CR q;refine zp (T26.Ai c t h l) (zc (YS L.l0) (zc (YS P.h0)<|zc kp<|zc (Ab (V.head.num<|by decide)<|N.roll.num<|by decide)<|zc (Ab (N.pl.num<|by decide)<|fr.Ep<|by decide)<|zf (fun k=>?_)<|fun k=>?_))
 ·have k:=w6 k;have k:E0 (NK c t h) (CR (Cw c l).2.1 (Bu c h).2.2.2.1)<=0:=k;refine zc (Ab (N.pl.num<|by decide)<|V.head.num<|by decide) (zc (Ab (e.num<|by decide)<|fr.nz (by decide) h0)<|zd<|zr rfl rfl ?_);show KK (Ka (NK c t h) (Cw c l).2.1) (CR (Cw c l).2.1 (Bu c h).2.2.2.1)=AU (Tw c t h l);unfold Tw rT;rw[wd ?_]
  ·exact q1.t
  ·refine yb.1 fun x=>?_
   rw[a,wc<|yb.2<|Rat.le_of_lt x,wd x]at k;exact wh k (by decide)
 ·have k:=w7 k;have k:¬E0 (NK c t h) (CR (Cw c l).2.1 (Bu c h).2.2.2.1)<=0:=k;refine zc (Ab (N.pl.num<|by decide)<|fr.Ep<|by decide) (zc (Ab (d.num<|by decide)<|V.next.num (by decide)) (zc (Ab (V.next.num (by decide))<|N.roll.num<|by decide)<|zc (Ab (m.num<|by decide)<|b.nz (by decide) n0)<|zc (Ab (V.head.num<|by decide)<|q.num<|by decide)<|zd<|zr rfl rfl ?_));show CR (Cw c l).2.1 (KK (Ka (J6 (NK c t h)<|CR (Cw c l).2.1 (Bu c h).2.2.2.1) (Cw c l).2.2.1)<|CR (Cw c l).2.2.1 (Bu c h).2.2.2.1)=AU (Tw c t h l);unfold Tw rT;rw[wc ?_]
  ·exact r.t
  ·intro x;refine k ?_;rw[a];by_cases y:El c t h<Au (Cw c l).2.1+Au (Bu c h).2.2.2.1
   ·rw[wd y];decide
   ·rw[wc y,wc<|yb.2 x];decide
theorem T25.ok:Af A6 25 Xy:=by
 refine BO VK<|fun(i:AT×Int×Int×Int) hi=>?_;obtain⟨c,t,h,l⟩:=i;obtain⟨P,L,kp,ko,h0,n0⟩:=Uu (c:=c) (t:=t) (h:=h) (l:=l) hi;have N:=SX P;have V:=pU L;have fr:=V.head.CR N.roll;have n:=V.next.CR N.roll;have d:=N.pl.J6 fr;have m:=d.KK n n0;have g:=m.GD;have f:=g.M6;have q:=Vs (c:=c) (t:=t) (h:=h) (l:=l) hi;have j:Nk c t h l=Sa (El c t h) (Au (Cw c l).2.1) (Au (Cw c l).2.2.1) (Au (Bu c h).2.2.2.1):=vL<|Jv L.lr.np P.st.rollB.1;have b:Nk c t h l<=40001:=by unfold Nk Vq;omega
 rw[j]at b;have a:∀(v:Int) ob,v=Sa (El c t h) (Au (Cw c l).2.1) (Au (Cw c l).2.2.1) (Au (Bu c h).2.2.2.1)->Ad Xy (c,t,h,l) (.dat i64 v) ob:=fun v ob e=>zr rfl rfl (by rw[e];exact j.symm)
 refine zp (T25.Ai c t h l) (zc (YS L.l0)<|zc (YS P.h0) (zc kp<|zc (Ab (V.head.num<|by decide)<|N.roll.num<|by decide)<|zc (Ab (N.pl.num<|by decide)<|fr.Ep<|by decide)<|zc (w4<|d.len<|by decide)<|zf (fun k=>zd<|a _ _ ?_)<|fun k=>?_))
 ·have k:=d.sign.1<|w6 k;unfold Sa;rw[wd k]
 ·have k:¬El c t h-(Au (Cw c l).2.1+Au (Bu c h).2.2.2.1)<=0:=fun x=>w7 k<|d.sign.2 x
  have o:((-(((-((El c t h-(Au (Cw c l).2.1+Au (Bu c h).2.2.2.1))/(Au (Cw c l).2.2.1+Au (Bu c h).2.2.2.1))).floor:Int):Rat)):Rat)=((Dr ((El c t h-(Au (Cw c l).2.1+Au (Bu c h).2.2.2.1))/(Au (Cw c l).2.2.1+Au (Bu c h).2.2.2.1)):Int):Rat):=by
   unfold Dr;rw[Rat.intCast_neg]
  have p:0<Dr ((El c t h-(Au (Cw c l).2.1+Au (Bu c h).2.2.2.1))/(Au (Cw c l).2.2.1+Au (Bu c h).2.2.2.1)):=Tn.2<|QO (Jv L.lr.np P.st.rollB.1)<|Rat.not_le.1 k;unfold Sa at b a;rw[wc k]at b;have e:=f.GD.t;rw[o]at e;obtain⟨t1,t2⟩:=tU (Int.le_of_lt p) (by omega);rw[<-e]at t1 t2;refine zc (Ab (V.next.num (by decide))<|N.roll.num<|by decide) (zc (Ab (d.num<|by decide)<|n.nz (by decide) n0)<|zc (w4<|m.len<|by decide)<|zc (g.num<|by decide)<|zc (w4<|f.len<|by decide)<|zc t1<|zd<|a _ _ ?_);rw[wc k];exact(wi (fun x=>ze .i64<|1+x) t2).trans (wr _ (by omega)<|by omega)
end Go.Pe
namespace Go.Pe
open Sp
open Go.Det
section
open List Int Prod
namespace T11
def T(l:BW):Tr:=tree E1 false 9 11<|Ae ([BB]) l
def L1(v3:Int)(e d c:Z)(a b:List BM):Tr:=re ((T ([],([],([],([],[]))))).R.R.R.R.R)<|Aw 83 [(1,.ptr 0 0),(3,.dat i64 v3)] [(0,.box [.dat zg e,.dat zg d,.dat zg c,.dat (zk CE) a,.dat (zk CE) b])] 1
theorem Ai(l:BW):T l=let a:Tr:=.leaf (.bl false) [];let b':=snd<|snd<|snd l;.di ((↑(length<|fst l):Int)>40) a (.di ((↑(length<|fst<|snd l):Int)>20) a<|.di ((↑(length<|fst<|snd<|snd l):Int)>20) a<|.di ((↑(length<|fst b'):Int)>70) a<|.di ((↑(length<|snd b'):Int)>20) a<|L1 0 (fst l) (fst<|snd l) (fst<|snd<|snd l) (fst b')<|snd b'):=by kernel_rfl
def L2(v4:Int)(e d c:Z)(a b:List BM):Tr:=re ((stepT E1<|L1 0 [] [] [] [] []).R)<|Aw 83 [(1,.ptr 0 0),(4,.dat i64 v4)] [(0,.box [.dat zg e,.dat zg d,.dat zg c,.dat (zk CE) a,.dat (zk CE) b])] 1
theorem Al(v3:Int)(f b d:Z)(a c:List BM):stepT E1 (L1 v3 f b d a c)=let e:=decide (v3<(length a:Int));let b':=getD a (toNat v3) ([],[]);.ite e (.ck (decide (0<=v3)&&e)<|.di ((↑(length<|fst b'):Int)>20) (.leaf (.bl false) [])<|.ck (decide (0<=v3)&&e)<|.di ((↑(length<|snd b'):Int)>20) (.leaf (.bl false) [])<|L1 (ze .i64<|v3+1) f b d a c) (L2 0 f b d a c):=by kernel_rfl
theorem AH(v4:Int)(f c d:Z)(b a:List BM):stepT E1 (L2 v4 f c d b a)=let e:=decide (v4<(length a:Int));let b':=getD a (toNat v4) ([],[]);.ite e (.ck (decide (0<=v4)&&e)<|.di ((↑(length<|fst b'):Int)>40) (.leaf (.bl false) [])<|.ck (decide (0<=v4)&&e)<|.di ((↑(length<|snd b'):Int)>20) (.leaf (.bl false) [])<|L2 (ze .i64<|v4+1) f c d b a) (.leaf (.bl true) []):=by kernel_rfl
end T11
namespace T9
def T(c:AT):Tr:=tree Q9 false 9 9<|Ae ([BF]) c
def L1(v3:Int)(c:List BX)(b:List Ct)(a:List BW):Tr:=re ((T ([],([],[]))).R.R.R)<|Aw 102 [(1,.ptr 0 0),(3,.dat i64 v3)] [(0,.box [.dat (zk BY) c,.dat (zk Ds) b,.dat (zk BB) a])] 1
theorem Ai(c:AT):T c=let a:Tr:=.leaf (.bl false) [];.di ((↑(length<|fst c):Int)>38) a (.di ((↑(length<|fst<|snd c):Int)>10) a<|.di ((↑(length<|snd<|snd c):Int)>10) a<|L1 0 (fst c) (fst<|snd c)<|snd<|snd c):=by kernel_rfl
def L2(v5:Int)(c:List BX)(b:List Ct)(a:List BW):Tr:=re ((stepT Q9<|L1 0 [] [] []).R)<|Aw 102 [(1,.ptr 0 0),(5,.dat i64 v5)] [(0,.box [.dat (zk BY) c,.dat (zk Ds) b,.dat (zk BB) a])] 1
theorem Al(v3:Int)(c:List BX)(a:List Ct)(b:List BW):stepT Q9 (L1 v3 c a b)=let d:=getD c (toNat v3) ([],[],[],[],[]);let b':Tr:=.leaf (.bl false) [];let f:=decide (v3<(length c:Int));let e:=snd<|snd d;.ite f (.ck (decide (0<=v3)&&f)<|.di ((↑(length<|fst d):Int)>20) b'<|.di ((↑(length<|fst<|snd d):Int)>20) b'<|.di ((↑(length<|fst e):Int)>20) b'<|.di ((↑(length<|fst<|snd e):Int)>20) b'<|.di ((↑(length<|snd<|snd e):Int)>20) b'<|L1 (ze .i64<|v3+1) c a b) (L2 0 c a b):=by kernel_rfl
def L3(d:Int)(c:List BX)(b:List Ct)(a:List BW):Tr:=re ((stepT Q9<|L2 0 [] [] []).R)<|Aw 102 [(1,.ptr 0 0),(6,.dat i64 d)] [(0,.box [.dat (zk BY) c,.dat (zk Ds) b,.dat (zk BB) a])] 1
theorem AH(v5:Int)(d:List BX)(a:List Ct)(b:List BW):stepT Q9 (L2 v5 d a b)=let c:=decide (v5<(length a:Int));let b':=getD a (toNat v5) ([],[]);.ite c (.ck (decide (0<=v5)&&c)<|.di ((↑(length<|fst b'):Int)>40) (.leaf (.bl false) [])<|.ck (decide (0<=v5)&&c)<|.di ((↑(length<|snd b'):Int)>40) (.leaf (.bl false) [])<|L2 (ze .i64<|v5+1) d a b) (L3 0 d a b):=by kernel_rfl
theorem B5(c:Int)(e:List BX)(b:List Ct)(a:List BW):stepT Q9 (L3 c e b a)=let d:=decide (c<(length a:Int));.ite d (.ck (decide (0<=c)&&d)<|.ck true<|.ite (!Sp.BB (getD a (toNat c) ([],[],[],[],[]))) (.leaf (.bl false) [])<|L3 (ze .i64<|c+1) e b a) (.leaf (.bl true) []):=by kernel_rfl
end T9
namespace T12
def T(l:BW):Tr:=tree E1 false 9 12<|Ae ([BB]) l
def L1(v4:Int)(k c f:Z)(b:List BM)(o1 i g j d e:Z)(a h:List BM):Tr:=re ((T ([],([],([],([],[]))))))<|Aw 40 [(1,.ptr 0 0),(2,.ptr 1 0),(3,.ptr 2 0),(4,.dat i64 v4)] [(2,.box [.dat zg k,.dat zg c,.dat zg f,.dat (zk CE) b,.nil]),(1,.box [.dat zg o1,.dat zg i,.dat zg g,.nil,.nil]),(0,.box [.dat zg j,.dat zg d,.dat zg e,.dat (zk CE) a,.dat (zk CE) h])] 3
theorem Ai(l:BW):T l=L1 0 (fst l) (fst<|snd l) (fst<|snd<|snd l) (fst<|snd<|snd<|snd l) [] [] [] (fst l) (fst<|snd l) (fst<|snd<|snd l) (fst<|snd<|snd<|snd l) (snd<|snd<|snd<|snd l):=by kernel_rfl
def L2(v4:Int)(m:List BM)(l c f:Z)(b:List BM)(j:Nat)(o1 i g k d e:Z)(a h:List BM):Tr:=re ((stepT E1<|L1 0 [] [] [] [] [] [] [] [] [] [] [] []).L.L.L.L)<|Aw 40 [(1,.ptr 0 0),(2,.ptr 1 0),(3,.ptr 2 0),(4,.dat i64 v4)] [(3,.arr false 101 CE m),(2,.box [.dat zg l,.dat zg c,.dat zg f,.dat (zk CE) b,.sl 3 2 0 j none]),(1,.box [.dat zg o1,.dat zg i,.dat zg g,.nil,.nil]),(0,.box [.dat zg k,.dat zg d,.dat zg e,.dat (zk CE) a,.dat (zk CE) h])] 4
theorem Al(v4:Int)(k c d:Z)(b:List BM)(o1 i h l f g:Z)(e a:List BM):stepT E1 (L1 v4 k c d b o1 i h l f g e a)=let j:=decide (v4<(length a:Int));.ite j (.ck (decide (0<=v4)&&j)<|.ck (decide (0<=v4)&&j)<|.ck (decide (1<=1)&&decide (0<1)&&decide ((3*1+2000)*32<=562949953421312))<|L2 (ze .i64<|v4+1) ([(getD a (toNat v4) ([],[]))]) k c d b 1 o1 i h l f g e a) (.leaf (yc [.dat zg k,.dat zg c,.dat zg d,.dat (zk CE) b,.nil]) []):=by kernel_rfl
theorem AH(v4:Int)(l:List BM)(k b c:Z)(a:List BM)(e:Nat)(o1 j i n g h:Z)(f d:List BM):stepT E1 (L2 v4 l k b c a e o1 j i n g h f d)=let m:=decide (v4<(length d:Int));let b':=zk CE;.ite m (.ck (decide (0<=v4)&&m)<|.ck (decide (0<=v4)&&m)<|.ck (decide (1<=1)&&true&&decide (e=length l)&&decide ((3*(e+1)+2000)*32<=562949953421312))<|L2 (ze .i64<|v4+1) (l++[(getD d (toNat v4) ([],[]))]) k b c a (zu e 1) o1 j i n g h f d) (.leaf (yc [.dat zg k,.dat zg b,.dat zg c,.dat b' a,.sl 3 2 0 e none])<|[(3,.arr false 101 CE l),(2,.box [.dat zg k,.dat zg b,.dat zg c,.dat b' a,.sl 3 2 0 e none]),(1,.box [.dat zg k,.dat zg b,.dat zg c,.dat b' a,.sl 3 2 0 e none]),(0,.box [.dat zg n,.dat zg g,.dat zg h,.dat b' f,.dat b' d])]):=by kernel_rfl
end T12
namespace T10
def T(c:AT):Tr:=tree BU false 9 10<|Ae ([BF]) c
def L1(v1:AT):Tr:=re ((T ([],([],[]))))<|Aw 128 [(1,PV.Bx BF v1 0),(2,.ptr 0 0),(3,.ptr 1 0)] [(1,.box [.nil,.nil,.nil]),(0,.box [.nil,.nil,.nil])] 2
theorem Ai(c:AT):T c=L1 c:=by kernel_rfl
def L2(v1:AT)(v4:Int):Tr:=re ((stepT BU<|L1 ([],([],[]))))<|Aw 128 [(1,PV.Bx BF v1 0),(2,.ptr 0 0),(3,.ptr 1 0),(4,.dat i64 v4)] [(1,.box [.nil,.nil,.nil]),(0,.box [.nil,.nil,.nil])] 2
theorem Al(v1:AT):stepT BU (L1 v1)=L2 v1 0:=by kernel_rfl
def L3(v1:AT)(v4 e:Int)(d b a c:Z):Tr:=re ((stepT BU<|L2 ([],([],[])) 0).L.L.L.L.L)<|Aw 128 [(1,PV.Bx BF v1 0),(2,.ptr 0 0),(3,.ptr 1 0),(4,.dat i64 v4),(5,.ptr 2 0),(6,.dat i64 e)] [(2,.box [.dat zg d,.dat zg b,.dat zg a,.dat zg c,.nil]),(1,.box [.nil,.nil,.nil]),(0,.box [.nil,.nil,.nil])] 3
def L4(v1:AT)(a:Int):Tr:=re ((stepT BU<|L2 ([],([],[])) 0).R)<|Aw 128 [(1,PV.Bx BF v1 0),(2,.ptr 0 0),(3,.ptr 1 0),(7,.dat i64 a)] [(1,.box [.nil,.nil,.nil]),(0,.box [.nil,.nil,.nil])] 2
theorem AH(v1:AT)(v4:Int):stepT BU (L2 v1 v4)=let b':=getD (fst v1) (toNat v4) ([],[],[],[],[]);let b:=decide (v4<(↑(length<|fst v1):Int));let a:=decide (0<=v4)&&b;.ite b (.ck a<|.ck a<|.ck a<|.ck a<|L3 v1 v4 0 (fst b') (fst<|snd b') (fst<|snd<|snd b')<|fst<|snd<|snd<|snd b') (L4 v1 0):=by kernel_rfl
def L5(v1:AT)(v4 e:Int)(g:List Io)(f b c a:Z)(d:Nat):Tr:=re ((stepT BU<|L3 ([],([],[])) 0 0 [] [] [] []).L.L.L.L.L.L.L)<|Aw 128 [(1,PV.Bx BF v1 0),(2,.ptr 0 0),(3,.ptr 1 0),(4,.dat i64 v4),(5,.ptr 2 0),(6,.dat i64 e)] [(3,.arr false 99 qK g),(2,.box [.dat zg f,.dat zg b,.dat zg c,.dat zg a,.sl 3 2 0 d none]),(1,.box [.nil,.nil,.nil]),(0,.box [.nil,.nil,.nil])] 4
def L6(v1:AT)(v4:Int)(b:List BX)(a:Nat):Tr:=re ((stepT BU<|L3 ([],([],[])) 0 0 [] [] [] []).L.R.L)<|Aw 128 [(1,PV.Bx BF v1 0),(2,.ptr 0 0),(3,.ptr 1 0),(4,.dat i64 v4)] [(2,.arr false 97 BY b),(1,.box [.sl 2 5 0 a none,.nil,.nil]),(0,.box [.nil,.nil,.nil])] 3
theorem B5(v1:AT)(v4 d:Int)(e c a b:Z):stepT BU (L3 v1 v4 d e c a b)=let g:=snd<|snd<|snd<|snd<|getD (fst v1) (toNat v4) ([],[],[],[],[]);let b':=decide (0<=v4)&&decide (v4<(↑(length<|fst v1):Int));let f:=decide (d<(↑(length g):Int));.ck b' (.ite f (.ck b'<|.ck (decide (0<=d)&&f)<|.ck b'<|.ck (decide (0<=d)&&f)<|.ck (decide (1<=1)&&decide (0<1)&&decide ((3*1+2000)*24<=562949953421312))<|L5 v1 v4 (ze .i64<|d+1) ([(getD g (toNat d) ([],0))]) e c a b 1)<|.ck (decide (1<=1)&&decide (0<1)&&decide ((3*1+2000)*88<=562949953421312))<|L6 v1 (ze .i64<|v4+1) ([(e,c,a,b,[])]) 1):=by kernel_rfl
def L7(v1:AT)(b:Int)(c:List Ct)(a:Nat):Tr:=re ((stepT BU<|L4 ([],([],[])) 0).L.L.L.L)<|Aw 128 [(1,PV.Bx BF v1 0),(2,.ptr 0 0),(3,.ptr 1 0),(7,.dat i64 b)] [(2,.arr false 98 Ds c),(1,.box [.nil,.sl 2 2 0 a none,.nil]),(0,.box [.nil,.nil,.nil])] 3
def L8(v1:AT)(a:Int):Tr:=re ((stepT BU<|L4 ([],([],[])) 0).R)<|Aw 128 [(1,PV.Bx BF v1 0),(2,.ptr 0 0),(3,.ptr 1 0),(8,.dat i64 a)] [(1,.box [.nil,.nil,.nil]),(0,.box [.nil,.nil,.nil])] 2
theorem CD(v1:AT)(a:Int):stepT BU (L4 v1 a)=let b:=decide (a<(↑(length<|fst<|snd v1):Int));.ite b (.ck (decide (0<=a)&&b)<|.ck (decide (0<=a)&&b)<|.ck (decide (1<=1)&&decide (0<1)&&decide ((3*1+2000)*40<=562949953421312))<|L7 v1 (ze .i64<|a+1) ([(getD (fst<|snd v1) (toNat a) ([],[]))]) 1) (L8 v1 0):=by kernel_rfl
theorem EG(v1:AT)(v4 e:Int)(f:List Io)(h c d b:Z)(a:Nat):stepT BU (L5 v1 v4 e f h c d b a)=let i:=snd<|snd<|snd<|snd<|getD (fst v1) (toNat v4) ([],[],[],[],[]);let b':=decide (0<=v4)&&decide (v4<(↑(length<|fst v1):Int));let g:=decide (e<(↑(length i):Int));.ck b' (.ite g (.ck b'<|.ck (decide (0<=e)&&g)<|.ck b'<|.ck (decide (0<=e)&&g)<|.ck (decide (1<=1)&&true&&decide (a=length f)&&decide ((3*(a+1)+2000)*24<=562949953421312))<|L5 v1 v4 (ze .i64<|e+1) (f++[(getD i (toNat e) ([],0))]) h c d b<|zu a 1)<|.ck (decide (0+a<=length f)&&true)<|.ck (decide (1<=1)&&decide (0<1)&&decide ((3*1+2000)*88<=562949953421312))<|L6 v1 (ze .i64<|v4+1) ([(h,c,d,b,take a f)]) 1):=by kernel_rfl
def L9(v1:AT)(v4 e:Int)(g:List BX)(f b c a:Z)(d:Nat):Tr:=re ((stepT BU<|L6 ([],([],[])) 0 [] 0).L.L.L.L.L)<|Aw 128 [(1,PV.Bx BF v1 0),(2,.ptr 0 0),(3,.ptr 1 0),(4,.dat i64 v4),(5,.ptr 2 0),(6,.dat i64 e)] [(3,.arr false 97 BY g),(2,.box [.dat zg f,.dat zg b,.dat zg c,.dat zg a,.nil]),(1,.box [.sl 3 5 0 d none,.nil,.nil]),(0,.box [.nil,.nil,.nil])] 4
def zT(v1:AT)(b:Int)(c:List BX)(a:Nat):Tr:=re ((stepT BU<|L6 ([],([],[])) 0 [] 0).R)<|Aw 128 [(1,PV.Bx BF v1 0),(2,.ptr 0 0),(3,.ptr 1 0),(7,.dat i64 b)] [(2,.arr false 97 BY c),(1,.box [.sl 2 5 0 a none,.nil,.nil]),(0,.box [.nil,.nil,.nil])] 3
theorem ET(v1:AT)(v4:Int)(c:List BX)(a:Nat):stepT BU (L6 v1 v4 c a)=let b':=getD (fst v1) (toNat v4) ([],[],[],[],[]);let d:=decide (v4<(↑(length<|fst v1):Int));let b:=decide (0<=v4)&&d;.ite d (.ck b<|.ck b<|.ck b<|.ck b<|L9 v1 v4 0 c (fst b') (fst<|snd b') (fst<|snd<|snd b') (fst<|snd<|snd<|snd b') a) (zT v1 0 c a):=by kernel_rfl
def L11(v1:AT)(c:Int)(b:List Ct)(a:Nat):Tr:=re ((stepT BU<|L7 ([],([],[])) 0 [] 0).R)<|Aw 128 [(1,PV.Bx BF v1 0),(2,.ptr 0 0),(3,.ptr 1 0),(8,.dat i64 c)] [(2,.arr false 98 Ds b),(1,.box [.nil,.sl 2 2 0 a none,.nil]),(0,.box [.nil,.nil,.nil])] 3
theorem D1(v1:AT)(b:Int)(c:List Ct)(a:Nat):stepT BU (L7 v1 b c a)=let d:=decide (b<(↑(length<|fst<|snd v1):Int));.ite d (.ck (decide (0<=b)&&d)<|.ck (decide (0<=b)&&d)<|.ck (decide (1<=1)&&true&&decide (a=length c)&&decide ((3*(a+1)+2000)*40<=562949953421312))<|L7 v1 (ze .i64<|b+1) (c++[(getD (fst<|snd v1) (toNat b) ([],[]))])<|zu a 1) (L11 v1 0 c a):=by kernel_rfl
def L12(v1:AT)(c:Int)(b:List BW)(a:Nat):Tr:=re ((stepT BU<|L8 ([],([],[])) 0).L.L.L.L)<|Aw 128 [(1,PV.Bx BF v1 0),(2,.ptr 0 0),(3,.ptr 1 0),(8,.dat i64 c)] [(2,.arr false 43 BB b),(1,.box [.nil,.nil,.sl 2 5 0 a none]),(0,.box [.nil,.nil,.nil])] 3
theorem Hs(v1:AT)(a:Int):stepT BU (L8 v1 a)=let b:=getD (snd<|snd v1) (toNat a) ([],[],[],[],[]);let b':=decide (a<(↑(length<|snd<|snd v1):Int));.ite b' (.ck (decide (0<=a)&&b')<|.ck (fD b)<|.ck (decide (1<=1)&&decide (0<1)&&decide ((3*1+2000)*96<=562949953421312))<|L12 v1 (ze .i64<|a+1) ([b]) 1) (.leaf (yc [.nil,.nil,.nil]) []):=by kernel_rfl
def L13(v1:AT)(v4 f:Int)(g:List Io)(i:List BX)(h b c a:Z)(e d:Nat):Tr:=re ((stepT BU<|L9 ([],([],[])) 0 0 [] [] [] [] [] 0).L.L.L.L.L.L.L)<|Aw 128 [(1,PV.Bx BF v1 0),(2,.ptr 0 0),(3,.ptr 1 0),(4,.dat i64 v4),(5,.ptr 2 0),(6,.dat i64 f)] [(4,.arr false 99 qK g),(3,.arr false 97 BY i),(2,.box [.dat zg h,.dat zg b,.dat zg c,.dat zg a,.sl 4 2 0 e none]),(1,.box [.sl 3 5 0 d none,.nil,.nil]),(0,.box [.nil,.nil,.nil])] 5
theorem jY(v1:AT)(v4 e:Int)(f:List BX)(g b c a:Z)(d:Nat):stepT BU (L9 v1 v4 e f g b c a d)=let i:=snd<|snd<|snd<|snd<|getD (fst v1) (toNat v4) ([],[],[],[],[]);let b':=decide (0<=v4)&&decide (v4<(↑(length<|fst v1):Int));let h:=decide (e<(↑(length i):Int));.ck b' (.ite h (.ck b'<|.ck (decide (0<=e)&&h)<|.ck b'<|.ck (decide (0<=e)&&h)<|.ck (decide (1<=1)&&decide (0<1)&&decide ((3*1+2000)*24<=562949953421312))<|L13 v1 v4 (ze .i64<|e+1) ([(getD i (toNat e) ([],0))]) f g b c a 1 d)<|.ck (decide (1<=1)&&true&&decide (d=length f)&&decide ((3*(d+1)+2000)*88<=562949953421312))<|L6 v1 (ze .i64<|v4+1) (f++[(g,b,c,a,[])])<|zu d 1):=by kernel_rfl
def L14(v1:AT)(c:Int)(e:List Ct)(d:List BX)(b a:Nat):Tr:=re ((stepT BU<|zT ([],([],[])) 0 [] 0).L.L.L.L)<|Aw 128 [(1,PV.Bx BF v1 0),(2,.ptr 0 0),(3,.ptr 1 0),(7,.dat i64 c)] [(3,.arr false 98 Ds e),(2,.arr false 97 BY d),(1,.box [.sl 2 5 0 b none,.sl 3 2 0 a none,.nil]),(0,.box [.nil,.nil,.nil])] 4
def L15(v1:AT)(c:Int)(b:List BX)(a:Nat):Tr:=re ((stepT BU<|zT ([],([],[])) 0 [] 0).R)<|Aw 128 [(1,PV.Bx BF v1 0),(2,.ptr 0 0),(3,.ptr 1 0),(8,.dat i64 c)] [(2,.arr false 97 BY b),(1,.box [.sl 2 5 0 a none,.nil,.nil]),(0,.box [.nil,.nil,.nil])] 3
theorem SJ(v1:AT)(b:Int)(d:List BX)(a:Nat):stepT BU (zT v1 b d a)=let c:=decide (b<(↑(length<|fst<|snd v1):Int));.ite c (.ck (decide (0<=b)&&c)<|.ck (decide (0<=b)&&c)<|.ck (decide (1<=1)&&decide (0<1)&&decide ((3*1+2000)*40<=562949953421312))<|L14 v1 (ze .i64<|b+1) ([(getD (fst<|snd v1) (toNat b) ([],[]))]) d a 1) (L15 v1 0 d a):=by kernel_rfl
def L16(v1:AT)(c:Int)(e:List BW)(d:List Ct)(b a:Nat):Tr:=re ((stepT BU<|L11 ([],([],[])) 0 [] 0).L.L.L.L)<|Aw 128 [(1,PV.Bx BF v1 0),(2,.ptr 0 0),(3,.ptr 1 0),(8,.dat i64 c)] [(3,.arr false 43 BB e),(2,.arr false 98 Ds d),(1,.box [.nil,.sl 2 2 0 b none,.sl 3 5 0 a none]),(0,.box [.nil,.nil,.nil])] 4
theorem oK(v1:AT)(b:Int)(c:List Ct)(a:Nat):stepT BU (L11 v1 b c a)=let d:=getD (snd<|snd v1) (toNat b) ([],[],[],[],[]);let b':=decide (b<(↑(length<|snd<|snd v1):Int));.ite b' (.ck (decide (0<=b)&&b')<|.ck (fD d)<|.ck (decide (1<=1)&&decide (0<1)&&decide ((3*1+2000)*96<=562949953421312))<|L16 v1 (ze .i64<|b+1) ([d]) c a 1) (.leaf (yc [.nil,.sl 2 2 0 a none,.nil])<|[(2,.arr false 98 Ds c),(1,.box [.nil,.sl 2 2 0 a none,.nil]),(0,.box [.nil,.sl 2 2 0 a none,.nil])]):=by kernel_rfl
theorem kZ(v1:AT)(b:Int)(c:List BW)(a:Nat):stepT BU (L12 v1 b c a)=let d:=getD (snd<|snd v1) (toNat b) ([],[],[],[],[]);let b':=decide (b<(↑(length<|snd<|snd v1):Int));.ite b' (.ck (decide (0<=b)&&b')<|.ck (fD d)<|.ck (decide (1<=1)&&true&&decide (a=length c)&&decide ((3*(a+1)+2000)*96<=562949953421312))<|L12 v1 (ze .i64<|b+1) (c++[d])<|zu a 1) (.leaf (yc [.nil,.nil,.sl 2 5 0 a none])<|[(2,.arr false 43 BB c),(1,.box [.nil,.nil,.sl 2 5 0 a none]),(0,.box [.nil,.nil,.sl 2 5 0 a none])]):=by kernel_rfl
theorem iZ(v1:AT)(v4 f:Int)(g:List Io)(h:List BX)(j c d b:Z)(a e:Nat):stepT BU (L13 v1 v4 f g h j c d b a e)=let k:=snd<|snd<|snd<|snd<|getD (fst v1) (toNat v4) ([],[],[],[],[]);let b':=decide (0<=v4)&&decide (v4<(↑(length<|fst v1):Int));let i:=decide (f<(↑(length k):Int));.ck b' (.ite i (.ck b'<|.ck (decide (0<=f)&&i)<|.ck b'<|.ck (decide (0<=f)&&i)<|.ck (decide (1<=1)&&true&&decide (a=length g)&&decide ((3*(a+1)+2000)*24<=562949953421312))<|L13 v1 v4 (ze .i64<|f+1) (g++[(getD k (toNat f) ([],0))]) h j c d b (zu a 1) e)<|.ck (decide (0+a<=length g)&&true)<|.ck (decide (1<=1)&&true&&decide (e=length h)&&decide ((3*(e+1)+2000)*88<=562949953421312))<|L6 v1 (ze .i64<|v4+1) (h++[(j,c,d,b,take a g)])<|zu e 1):=by kernel_rfl
def L17(v1:AT)(c:Int)(e:List Ct)(d:List BX)(b a:Nat):Tr:=re ((stepT BU<|L14 ([],([],[])) 0 [] [] 0 0).R)<|Aw 128 [(1,PV.Bx BF v1 0),(2,.ptr 0 0),(3,.ptr 1 0),(8,.dat i64 c)] [(3,.arr false 98 Ds e),(2,.arr false 97 BY d),(1,.box [.sl 2 5 0 b none,.sl 3 2 0 a none,.nil]),(0,.box [.nil,.nil,.nil])] 4
theorem kR(v1:AT)(c:Int)(d:List Ct)(e:List BX)(b a:Nat):stepT BU (L14 v1 c d e b a)=let f:=decide (c<(↑(length<|fst<|snd v1):Int));.ite f (.ck (decide (0<=c)&&f)<|.ck (decide (0<=c)&&f)<|.ck (decide (1<=1)&&true&&decide (a=length d)&&decide ((3*(a+1)+2000)*40<=562949953421312))<|L14 v1 (ze .i64<|c+1) (d++[(getD (fst<|snd v1) (toNat c) ([],[]))]) e b<|zu a 1) (L17 v1 0 d e b a):=by kernel_rfl
def L18(v1:AT)(c:Int)(e:List BW)(d:List BX)(b a:Nat):Tr:=re ((stepT BU<|L15 ([],([],[])) 0 [] 0).L.L.L.L)<|Aw 128 [(1,PV.Bx BF v1 0),(2,.ptr 0 0),(3,.ptr 1 0),(8,.dat i64 c)] [(3,.arr false 43 BB e),(2,.arr false 97 BY d),(1,.box [.sl 2 5 0 b none,.nil,.sl 3 5 0 a none]),(0,.box [.nil,.nil,.nil])] 4
theorem nU(v1:AT)(b:Int)(c:List BX)(a:Nat):stepT BU (L15 v1 b c a)=let d:=getD (snd<|snd v1) (toNat b) ([],[],[],[],[]);let b':=decide (b<(↑(length<|snd<|snd v1):Int));.ite b' (.ck (decide (0<=b)&&b')<|.ck (fD d)<|.ck (decide (1<=1)&&decide (0<1)&&decide ((3*1+2000)*96<=562949953421312))<|L18 v1 (ze .i64<|b+1) ([d]) c a 1) (.leaf (yc [.sl 2 5 0 a none,.nil,.nil])<|[(2,.arr false 97 BY c),(1,.box [.sl 2 5 0 a none,.nil,.nil]),(0,.box [.sl 2 5 0 a none,.nil,.nil])]):=by kernel_rfl
theorem kJ(v1:AT)(c:Int)(d:List BW)(e:List Ct)(b a:Nat):stepT BU (L16 v1 c d e b a)=let f:=getD (snd<|snd v1) (toNat c) ([],[],[],[],[]);let b':=decide (c<(↑(length<|snd<|snd v1):Int));.ite b' (.ck (decide (0<=c)&&b')<|.ck (fD f)<|.ck (decide (1<=1)&&true&&decide (a=length d)&&decide ((3*(a+1)+2000)*96<=562949953421312))<|L16 v1 (ze .i64<|c+1) (d++[f]) e b<|zu a 1) (.leaf (yc [.nil,.sl 2 2 0 b none,.sl 3 5 0 a none])<|[(3,.arr false 43 BB d),(2,.arr false 98 Ds e),(1,.box [.nil,.sl 2 2 0 b none,.sl 3 5 0 a none]),(0,.box [.nil,.sl 2 2 0 b none,.sl 3 5 0 a none])]):=by kernel_rfl
def L19(v1:AT)(e:Int)(d:List BW)(g:List Ct)(f:List BX)(c b a:Nat):Tr:=re ((stepT BU<|L17 ([],([],[])) 0 [] [] 0 0).L.L.L.L)<|Aw 128 [(1,PV.Bx BF v1 0),(2,.ptr 0 0),(3,.ptr 1 0),(8,.dat i64 e)] [(4,.arr false 43 BB d),(3,.arr false 98 Ds g),(2,.arr false 97 BY f),(1,.box [.sl 2 5 0 c none,.sl 3 2 0 b none,.sl 4 5 0 a none]),(0,.box [.nil,.nil,.nil])] 5
theorem pQ(v1:AT)(c:Int)(e:List Ct)(d:List BX)(b a:Nat):stepT BU (L17 v1 c e d b a)=let f:=getD (snd<|snd v1) (toNat c) ([],[],[],[],[]);let b':=decide (c<(↑(length<|snd<|snd v1):Int));.ite b' (.ck (decide (0<=c)&&b')<|.ck (fD f)<|.ck (decide (1<=1)&&decide (0<1)&&decide ((3*1+2000)*96<=562949953421312))<|L19 v1 (ze .i64<|c+1) ([f]) e d b a 1) (.leaf (yc [.sl 2 5 0 b none,.sl 3 2 0 a none,.nil])<|[(3,.arr false 98 Ds e),(2,.arr false 97 BY d),(1,.box [.sl 2 5 0 b none,.sl 3 2 0 a none,.nil]),(0,.box [.sl 2 5 0 b none,.sl 3 2 0 a none,.nil])]):=by kernel_rfl
theorem pH(v1:AT)(c:Int)(d:List BW)(e:List BX)(b a:Nat):stepT BU (L18 v1 c d e b a)=let f:=getD (snd<|snd v1) (toNat c) ([],[],[],[],[]);let b':=decide (c<(↑(length<|snd<|snd v1):Int));.ite b' (.ck (decide (0<=c)&&b')<|.ck (fD f)<|.ck (decide (1<=1)&&true&&decide (a=length d)&&decide ((3*(a+1)+2000)*96<=562949953421312))<|L18 v1 (ze .i64<|c+1) (d++[f]) e b<|zu a 1) (.leaf (yc [.sl 2 5 0 b none,.nil,.sl 3 5 0 a none])<|[(3,.arr false 43 BB d),(2,.arr false 97 BY e),(1,.box [.sl 2 5 0 b none,.nil,.sl 3 5 0 a none]),(0,.box [.sl 2 5 0 b none,.nil,.sl 3 5 0 a none])]):=by kernel_rfl
theorem lE(v1:AT)(d:Int)(e:List BW)(f:List Ct)(g:List BX)(c b a:Nat):stepT BU (L19 v1 d e f g c b a)=let h:=getD (snd<|snd v1) (toNat d) ([],[],[],[],[]);let b':=decide (d<(↑(length<|snd<|snd v1):Int));.ite b' (.ck (decide (0<=d)&&b')<|.ck (fD h)<|.ck (decide (1<=1)&&true&&decide (a=length e)&&decide ((3*(a+1)+2000)*96<=562949953421312))<|L19 v1 (ze .i64<|d+1) (e++[h]) f g c b<|zu a 1) (.leaf (yc [.sl 2 5 0 c none,.sl 3 2 0 b none,.sl 4 5 0 a none])<|[(4,.arr false 43 BB e),(3,.arr false 98 Ds f),(2,.arr false 97 BY g),(1,.box [.sl 2 5 0 c none,.sl 3 2 0 b none,.sl 4 5 0 a none]),(0,.box [.sl 2 5 0 c none,.sl 3 2 0 b none,.sl 4 5 0 a none])]):=by kernel_rfl
end T10
namespace T59
def T(a:Z)(lo b:Int):Tr:=tree AdL false 9 59<|Ae ([zg,Sh.int IntKind.i64,Sh.int IntKind.i64]) (a,lo,b)
theorem Ai(a:Z)(lo b:Int):T a lo b=let c:Tr:=.leaf (.dat i64<|At a) [];let b':=FO (Sp.rN lo,Sp.rW lo);let e:=FO (Sp.rN b,Sp.rW b);let d:Tr:=.leaf (.dat i64 (3:Int)) [];.cd (length a<=1000000) (.ite (At a==0) (.ck (CI lo)<|.ck (Cu (Sp.rN lo,Sp.rW lo))<|.ck (Bj a&&Ep b')<|.di (E0 a b'<0) d<|.ck (CI b)<|.ck (Cu (Sp.rN b,Sp.rW b))<|.ck (Bj a&&Ep e)<|.di (E0 a e>0) d c) c):=by kernel_rfl
end T59
namespace T61
def T(s:Z)(l:List Z):Tr:=tree uP false 9 61<|Ae ([zg,zk zg]) (s,l)
def L1(v0:Z)(v1:List Z)(v5:Int):Tr:=re ((T [] []).L.R)<|Aw 21 [(0,.dat zg v0),(1,.dat (zk zg) v1),(5,.dat i64 v5)] [] 0
theorem Ai(s:Z)(l:List Z):T s l=.ck true (.ite (!zz s) (.leaf (.dat i64 (8:Int)) [])<|L1 s l 0):=by kernel_rfl
theorem Al(v0:Z)(v1:List Z)(v5:Int):stepT uP (L1 v0 v1 v5)=let a:=decide (v5<(length v1:Int));.ite a (.ck (decide (0<=v5)&&a)<|.ite (getD v1 (toNat v5) []==v0) (.leaf (.dat i64 (9:Int)) [])<|L1 v0 v1<|ze .i64<|v5+1) (.leaf (.dat i64 (0:Int)) []):=by kernel_rfl
end T61
namespace T14
def T(l:BW):Tr:=tree Re false 9 14<|Ae ([BB]) l
def L1(v4:Int)(e d c:Z)(a b:List BM):Tr:=re ((T ([],([],([],([],[]))))).L.R.L.L.L.L.L.R)<|Aw 101 [(1,.ptr 0 0),(4,.dat i64 v4)] [(0,.box [.dat zg e,.dat zg d,.dat zg c,.dat (zk CE) a,.dat (zk CE) b])] 1
theorem Ai(l:BW):T l=let b:=fst<|snd<|snd<|snd l;let a:=fst<|snd<|snd l;let d:=BI (fst<|snd l) 1 10000==0;let b':=L1 1 (fst l) (fst<|snd l) a b<|snd<|snd<|snd<|snd l;let c:Tr:=.ck (decide (length b<=1000)&&J5 1000000 b)<|.ite (B2 b !=0) (.leaf (.dat i64<|B2 b) []) b';.ck true (.ite (!zz (fst l)) (.leaf (.dat i64 (8:Int)) [])<|.ck (decide (length (fst<|snd l)<=1000000)&&GO 1&&GO 10000)<|.ite d (.ck (decide (length a<=1000000)&&GO 1&&GO 10000)<|.ite (BI a 1 10000==0) c<|.ite (BI a 1 10000 !=0) (.leaf (.dat i64<|BI a 1 10000) []) b')<|.ite d c<|.ite (BI (fst<|snd l) 1 10000 !=0) (.leaf (.dat i64<|BI (fst<|snd l) 1 10000) []) b'):=by kernel_rfl
def L2(f:Int)(e d c:Z)(a b:List BM):Tr:=re ((stepT Re<|L1 0 [] [] [] [] []).R.R)<|Aw 101 [(1,.ptr 0 0),(5,.nil),(6,.dat i64 f)] [(0,.box [.dat zg e,.dat zg d,.dat zg c,.dat (zk CE) a,.dat (zk CE) b])] 1
theorem Al(v4:Int)(e d c:Z)(a b:List BM):stepT Re (L1 v4 e d c a b)=let g:=snd<|getD a (toNat<|ze .i64<|v4-1) ([],[]);let b':=snd<|getD a (toNat v4) ([],[]);let f:=(length a:Int);.di (v4<f) (.ck (decide (0<=v4)&&decide (v4<f))<|.ck (decide (0<=ze .i64 (v4-1))&&decide (ze .i64 (v4-1)<f))<|.ck (Bj b'&&Ep g)<|.di (E0 b' g<0) (.leaf (.dat i64 (11:Int)) [])<|L1 (ze .i64<|v4+1) e d c a b) (.di ((length b:Int)>16) (.leaf (.dat i64 (5:Int)) [])<|L2 0 e d c a b):=by kernel_rfl
def L3(e:Nat)(g:Int)(o1:List Z)(f d c:Z)(a b:List BM):Tr:=re ((stepT Re<|L2 0 [] [] [] [] []).L.L.L.L.L.L.L.L.L.L.R.L.L)<|Aw 101 [(1,.ptr 0 0),(5,.sl 1 1 0 e none),(6,.dat i64 g)] [(1,.arr false 9 zg o1),(0,.box [.dat zg f,.dat zg d,.dat zg c,.dat (zk CE) a,.dat (zk CE) b])] 2
theorem AH(e:Int)(k c d:Z)(b a:List BM):stepT Re (L2 e k c d b a)=let b':=getD a (toNat e) ([],[]);let i:=decide (e<(length a:Int));let f:=decide (0<=e)&&i;let h:=decide (length (snd b')<=1000000);let h':=decide (EU (snd b')<0);let g:Tr:=.ck f<|.ck (decide (1<=1)&&decide (0<1)&&decide ((3*1+2000)*16<=562949953421312))<|L3 1 (ze .i64<|e+1) ([fst b']) k c d b a;let l:Tr:=.ite (At (snd b') !=0) (.leaf (.dat i64<|At<|snd b') []) g;let m:Tr:=.ite (J4 (fst b') [] !=0) (.leaf (.dat i64<|J4 (fst b') []) []) g;let j:Tr:=.ite true (.leaf (.dat i64 (3:Int)) []) g;.ite i (.ck f<|.cd (0<=1000)<|.ite (J4 (fst b') []==0) (.ck f<|.ck h<|.ite (At (snd b')==0) (.ck f<|.ck h<|.ite h' j l) l)<|.ite (J4 (fst b') []==0) (.ck f<|.ck h<|.ite h' j m) m) (.leaf (.dat i64 (0:Int)) []):=by kernel_rfl
theorem B5(a:Nat)(f:Int)(o1:List Z)(l e d:Z)(c b:List BM):stepT Re (L3 a f o1 l e d c b)=let b':=getD b (toNat f) ([],[]);let o:=decide (f<(length b:Int));let g:=decide (0<=f)&&o;let i:=decide (length (snd b')<=1000000);let h':=J4 (fst b') (take a o1)==0;let j:=decide (EU (snd b')<0);let h:Tr:=.ck g<|.ck (decide (1<=1)&&true&&decide (a=length o1)&&decide ((3*(a+1)+2000)*16<=562949953421312))<|L3 (zu a 1) (ze .i64<|f+1) (o1++[fst b']) l e d c b;let m:Tr:=.ite (J4 (fst b') (take a o1) !=0) (.leaf (.dat i64<|J4 (fst b')<|take a o1) []) h;let n:Tr:=.ite (At (snd b') !=0) (.leaf (.dat i64<|At<|snd b') []) h;let k:Tr:=.ite true (.leaf (.dat i64 (3:Int)) []) h;.ite o (.ck g<|.ck (decide (0+a<=length o1)&&true&&decide (length (take a o1)<=1000))<|.ite h' (.ck g<|.ck i<|.ite (At (snd b')==0) (.ck g<|.ck i<|.ite j k n) n)<|.ite h' (.ck g<|.ck i<|.ite j k m) m) (.leaf (.dat i64 (0:Int)) []):=by kernel_rfl
end T14
namespace T67
def T(s:BX):Tr:=tree rU false 9 67<|Ae ([BY]) s
def L1(v4:Int)(e d c a:Z)(b:List Io):Tr:=re ((T ([],([],([],([],[]))))).L.L.L.L.L.L.L.R.R)<|Aw 61 [(1,.ptr 0 0),(4,.dat i64 v4)] [(0,.box [.dat zg e,.dat zg d,.dat zg c,.dat zg a,.dat (zk qK) b])] 1
theorem Ai(s:BX):T s=let a:=snd<|snd<|snd s;let b:=fst<|snd<|snd s;let d:=BI (fst s) (-10000) 10000==0;let e:=BI (fst<|snd s) (-10000) 10000==0;let c:Tr:=.di ((↑(length<|snd a):Int)>16) (.leaf (.dat i64 (5:Int)) [])<|L1 0 (fst s) (fst<|snd s) b (fst a)<|snd a;let b':Tr:=.ck (decide (length (fst a)<=1000000)&&GO 0&&GO 10000)<|.ite (BI (fst a) 0 10000 !=0) (.leaf (.dat i64<|BI (fst a) 0 10000) []) c;let f:Tr:=.ck (decide (length b<=1000000)&&GO 0&&GO 10000)<|.ite (BI b 0 10000==0) b'<|.ite (BI b 0 10000 !=0) (.leaf (.dat i64<|BI b 0 10000) []) c;.ck (decide (length (fst s)<=1000000)&&GO (-10000)&&GO 10000) (.ite d (.ck (decide (length (fst<|snd s)<=1000000)&&GO (-10000)&&GO 10000)<|.ite e f<|.ite e b'<|.ite (BI (fst<|snd s) (-10000) 10000 !=0) (.leaf (.dat i64<|BI (fst<|snd s) (-10000) 10000) []) c)<|.ite d f<|.ite d b'<|.ite (BI (fst s) (-10000) 10000 !=0) (.leaf (.dat i64<|BI (fst s) (-10000) 10000) []) c):=by kernel_rfl
theorem Al(v4:Int)(f c d b:Z)(a:List Io):stepT rU (L1 v4 f c d b a)=let b':=getD a (toNat v4) ([],0);let h:=decide (v4<(length a:Int));let g:Tr:=.leaf (.dat i64 (3:Int)) [];let e:=decide (0<=v4)&&h;.ite h (.ck e<|.ck true<|.ite (!zz (fst b')) (.leaf (.dat i64 (8:Int)) [])<|.ck e<|.di (snd b'<0) g<|.ck e<|.di (snd b'>10) g<|L1 (ze .i64<|v4+1) f c d b a) (.leaf (.dat i64 (0:Int)) []):=by kernel_rfl
end T67
namespace T16
def T(c:AT):Tr:=tree E6 false 9 16<|Ae ([BF]) c
def L1(v3:Int)(c:List BX)(b:List Ct)(a:List BW):Tr:=re ((T ([],([],[]))).R.R)<|Aw 147 [(1,.ptr 0 0),(3,.dat i64 v3)] [(0,.box [.dat (zk BY) c,.dat (zk Ds) b,.dat (zk BB) a])] 1
theorem Ai(c:AT):T c=.ite ((↑(length<|fst c):Int)==0) (.leaf (.dat i64 (12:Int)) []) (.di ((↑(length<|fst c):Int)>36) (.leaf (.dat i64 (5:Int)) [])<|L1 0 (fst c) (fst<|snd c)<|snd<|snd c):=by kernel_rfl
def L2(d:Int)(c:List BX)(b:List Ct)(a:List BW):Tr:=re ((stepT E6<|L1 0 [] [] []).R.R.R)<|Aw 147 [(1,.ptr 0 0),(5,.nil),(6,.dat i64 d)] [(0,.box [.dat (zk BY) c,.dat (zk Ds) b,.dat (zk BB) a])] 1
theorem Al(v3:Int)(c:List BX)(a:List Ct)(b:List BW):stepT E6 (L1 v3 c a b)=let d:=getD c (toNat v3) ([],[],[],[],[]);let b':=decide (v3<(length c:Int));.ite b' (.ck (decide (0<=v3)&&b')<|.ck (Sp.BY d)<|.ite (K5 d !=0) (.leaf (.dat i64<|K5 d) [])<|L1 (ze .i64<|v3+1) c a b) (.ite ((length a:Int)==0) (.leaf (.dat i64 (12:Int)) [])<|.di ((length a:Int)>8) (.leaf (.dat i64 (5:Int)) [])<|L2 0 c a b):=by kernel_rfl
def L3(f d v9:Int)(o1:Z)(a:List Int)(e:List BX)(c:List Ct)(b:List BW):Tr:=re ((stepT E6<|L2 0 [] [] []).L.L.L.L.L)<|Aw 147 [(1,.ptr 0 0),(5,.nil),(6,.dat i64 f),(7,.ptr 1 0),(8,.dat i64 d),(9,.dat i64 v9)] [(1,.box [.dat zg o1,.dat (zk i64) a]),(0,.box [.dat (zk BY) e,.dat (zk Ds) c,.dat (zk BB) b])] 2
def L4(c:Int)(d:List BX)(b:List Ct)(a:List BW):Tr:=re ((stepT E6<|L2 0 [] [] []).R.R.R)<|Aw 147 [(1,.ptr 0 0),(5,.nil),(10,.dat i64 c)] [(0,.box [.dat (zk BY) d,.dat (zk Ds) b,.dat (zk BB) a])] 1
theorem AH(d:Int)(e:List BX)(b:List Ct)(a:List BW):stepT E6 (L2 d e b a)=let c:=getD b (toNat d) ([],[]);let f:=decide (d<(length b:Int));let b':=L3 d (J4 (fst c) []) 0 (fst c) (snd c) e b a;.ite f (.ck (decide (0<=d)&&f)<|.cd (0<=1000)<|.ite (J4 (fst c) []==0) (.ite ((↑(length<|snd c):Int) !=(length e:Int)) (L3 d 2 0 (fst c) (snd c) e b a) b') b') (.ite ((length a:Int)==0) (.leaf (.dat i64 (12:Int)) [])<|.di ((length a:Int)>8) (.leaf (.dat i64 (5:Int)) [])<|L4 0 e b a):=by kernel_rfl
def L5(c:Nat)(e:Int)(o1:List Z)(d:List BX)(b:List Ct)(a:List BW):Tr:=re ((stepT E6<|L3 0 0 0 [] [] [] [] []).L.R.R.L)<|Aw 147 [(1,.ptr 0 0),(5,.sl 1 1 0 c none),(6,.dat i64 e)] [(1,.arr false 9 zg o1),(0,.box [.dat (zk BY) d,.dat (zk Ds) b,.dat (zk BB) a])] 2
theorem B5(f d v9:Int)(o1:Z)(a:List Int)(e:List BX)(c:List Ct)(b:List BW):stepT E6 (L3 f d v9 o1 a e c b)=let h:Tr:=.ite (d !=0) (.leaf (.dat i64 d) [])<|.ck (decide (1<=1)&&decide (0<1)&&decide ((3*1+2000)*16<=562949953421312))<|L5 1 (ze .i64<|f+1) [o1] e c b;let g:=decide (v9<(length a:Int));let i:=ze .i64<|v9+1;let b':=L3 f 3 i o1 a e c b;.ite g (.ite (d==0) (.ck (decide (0<=v9)&&g)<|.di (getD a (toNat v9) 0<1) b'<|.ck (decide (0<=v9)&&g)<|.di (getD a (toNat v9) 0>10000) b'<|L3 f d i o1 a e c b) h) h:=by kernel_rfl
def L6(d:Nat)(c:Int)(o1:List Z)(e:List BX)(b:List Ct)(a:List BW):Tr:=re ((stepT E6<|L4 0 [] [] []).L.L.L.L.L.L.R.L.L)<|Aw 147 [(1,.ptr 0 0),(5,.sl 1 1 0 d none),(10,.dat i64 c)] [(1,.arr false 9 zg o1),(0,.box [.dat (zk BY) e,.dat (zk Ds) b,.dat (zk BB) a])] 2
theorem CD(b:Int)(f:List BX)(c:List Ct)(a:List BW):stepT E6 (L4 b f c a)=let d:=getD a (toNat b) ([],[],[],[],[]);let g:=decide (b<(length a:Int));let e:=decide (0<=b)&&g;let b':Tr:=.ck e<|.ck (decide (1<=1)&&decide (0<1)&&decide ((3*1+2000)*16<=562949953421312))<|L6 1 (ze .i64<|b+1) ([fst d]) f c a;.ite g (.ck e<|.ck (P2 d)<|.ite (JL d==0) (.ck e<|.cd (0<=1000)<|.ite (J4 (fst d) [] !=0) (.leaf (.dat i64<|J4 (fst d) []) []) b')<|.ite (JL d !=0) (.leaf (.dat i64<|JL d) []) b') (.leaf (.dat i64 (0:Int)) []):=by kernel_rfl
def L7(d:Nat)(f g v9:Int)(h:Z)(b:List Int)(o1:List Z)(e:List BX)(a:List Ct)(c:List BW):Tr:=re ((stepT E6<|L5 0 0 [] [] [] []).L.L.L.L.L)<|Aw 147 [(1,.ptr 0 0),(5,.sl 1 1 0 d none),(6,.dat i64 f),(7,.ptr 2 0),(8,.dat i64 g),(9,.dat i64 v9)] [(2,.box [.dat zg h,.dat (zk i64) b]),(1,.arr false 9 zg o1),(0,.box [.dat (zk BY) e,.dat (zk Ds) a,.dat (zk BB) c])] 3
theorem EG(c:Nat)(e:Int)(o1:List Z)(f:List BX)(b:List Ct)(a:List BW):stepT E6 (L5 c e o1 f b a)=let d:=getD b (toNat e) ([],[]);let g:=decide (e<(length b:Int));let b':=L7 c e (J4 (fst d)<|take c o1) 0 (fst d) (snd d) o1 f b a;.ite g (.ck (decide (0<=e)&&g)<|.ck (decide (0+c<=length o1)&&true&&decide (length (take c o1)<=1000))<|.ite (J4 (fst d) (take c o1)==0) (.ite ((↑(length<|snd d):Int) !=(length f:Int)) (L7 c e 2 0 (fst d) (snd d) o1 f b a) b') b') (.ite ((length a:Int)==0) (.leaf (.dat i64 (12:Int)) [])<|.di ((length a:Int)>8) (.leaf (.dat i64 (5:Int)) [])<|L4 0 f b a):=by kernel_rfl
theorem ET(a:Nat)(c:Int)(o1:List Z)(g:List BX)(d:List Ct)(b:List BW):stepT E6 (L6 a c o1 g d b)=let b':=getD b (toNat c) ([],[],[],[],[]);let h:=decide (c<(length b:Int));let e:=decide (0<=c)&&h;let f:Tr:=.ck e<|.ck (decide (1<=1)&&true&&decide (a=length o1)&&decide ((3*(a+1)+2000)*16<=562949953421312))<|L6 (zu a 1) (ze .i64<|c+1) (o1++[fst b']) g d b;.ite h (.ck e<|.ck (P2 b')<|.ite (JL b'==0) (.ck e<|.ck (decide (0+a<=length o1)&&true&&decide (length (take a o1)<=1000))<|.ite (J4 (fst b') (take a o1) !=0) (.leaf (.dat i64<|J4 (fst b')<|take a o1) []) f)<|.ite (JL b' !=0) (.leaf (.dat i64<|JL b') []) f) (.leaf (.dat i64 (0:Int)) []):=by kernel_rfl
theorem D1(d:Nat)(g e v9:Int)(h:Z)(a:List Int)(o1:List Z)(f:List BX)(b:List Ct)(c:List BW):stepT E6 (L7 d g e v9 h a o1 f b c)=let j:Tr:=.ite (e !=0) (.leaf (.dat i64 e) [])<|.ck (decide (1<=1)&&true&&decide (d=length o1)&&decide ((3*(d+1)+2000)*16<=562949953421312))<|L5 (zu d 1) (ze .i64<|g+1) (o1++[h]) f b c;let i:=decide (v9<(length a:Int));let k:=ze .i64<|v9+1;let b':=L7 d g 3 k h a o1 f b c;.ite i (.ite (e==0) (.ck (decide (0<=v9)&&i)<|.di (getD a (toNat v9) 0<1) b'<|.ck (decide (0<=v9)&&i)<|.di (getD a (toNat v9) 0>10000) b'<|L7 d g e k h a o1 f b c) j) j:=by kernel_rfl
end T16
end
end Go.Pe
namespace Go.Sp
theorem q0{x:Int}(h:x=0):(x==0)=true:=by simpa using h
theorem q1{x:Int}(h:x≠0):(x==0)=false:=by simpa using h
theorem n0{x:Int}(h:x=0):(x !=0)=false:=by simpa using h
theorem n1{x:Int}(h:x≠0):(x !=0)=true:=by simpa using h
theorem UQ{a:B0}{n:Int}:E0 a (AU (n:Rat))=if Au a<(n:Rat)then -1 else if (n:Rat)<Au a then 1 else 0:=by
 unfold E0;rw[DJ]
theorem Uq(s:B0)(l:List B0):J4 s l=if isName s=false then 8 else if s∈l then 9 else 0:=by
 unfold J4 has;by_cases h:s∈l
 ·rw[w4 h,wd h,wd rfl]
 ·rw[w8 h,wc h];cases isName s<;>rfl
theorem Wr{s:B0}{l:List B0}(h:isName s=true):J4 s l=if s∈l then 9 else 0:=by rw[Uq,h];rfl
theorem wY{s:B0}{l:List B0}(h:isName s=false):J4 s l=8:=by rw[Uq,h];rfl
theorem sT(s:BX):Uf s=if BI s.1 (-10000) 10000≠0 then BI s.1 (-10000) 10000 else if BI s.2.1 (-10000) 10000≠0 then BI s.2.1 (-10000) 10000 else if BI s.2.2.1 0 10000≠0 then BI s.2.2.1 0 10000 else if BI s.2.2.2.1 0 10000≠0 then BI s.2.2.2.1 0 10000 else if 16<s.2.2.2.2.length then 5 else 0:=by
 unfold Uf;rw[Bn,Bn,Bn,Bn,Bn,EY];by_cases h:16<s.2.2.2.2.length
 ·rw[w4 h,wd h];rfl
 ·rw[w8 h,wc h];rfl
end Go.Sp
namespace Go.Pe
open Sp
open Go.Det
open Go.Sp (AT BX BW BM Io B0 Ct q0 q1 n0 n1)
theorem lR:C9 AdL:=Aa T62.ok<|Aa T36.ok<|Aa T97.ok<|Aa T96.ok AI
theorem On{n:Int}(h:GO n=true):CI n=true:=by
 unfold GO at h;rw[zn,w5,w5]at h;exact ad (by omega) (by omega)
theorem T59.ok:Af A6 59 Wx:=by
 refine BO lR<|fun(i:B0×Int×Int) b=>?_;obtain⟨a,lo,h⟩:=i;have b:(decide (a.length<=1000000)&&GO lo&&GO h)=true:=b;rw[zn,zn,w5]at b;obtain⟨⟨hl,h1⟩,h2⟩:=b;have f:∀e ob,e=BI a lo h->Ad Wx (a,lo,h) (.dat i64 e) ob:=fun e ob x=>zr rfl rfl x
 have L:=Ug (n:=lo) (Ts h1) (by decide);have H:=Ug (n:=h) (Ts h2) (by decide);refine zp (T59.Ai a lo h) ?_;conv=>zeta
 rw[QN,QN,UQ,UQ];refine zc (w4 hl)<|zf (fun c=>?_)<|fun c=>zd<|f _ _ ?_
 ·have c:At a=0:=by simpa using c
  have nb:=(CQ c).1;refine zc (On h1) (zc (LM<|On h1)<|zc (Ab nb<|L.Ep<|by decide)<|zf (fun d=>zd<|f _ _ ?_)<|fun d=>zc (On h2)<|zc (LM<|On h2)<|zc (Ab nb<|H.Ep<|by decide)<|zf (fun e=>zd<|f _ _ ?_)<|fun e=>zd<|f _ _ ?_);all_goals rw[Tj c]
  ·have d:=w6 d;by_cases k:Au a<(lo:Rat)
   ·rw[wd<|.inl k]
   ·rw[wc k]at d;split at d<;>exact wh d (by decide)
  ·have e:=w6 e;by_cases k:(h:Rat)<Au a
   ·rw[wd<|.inr k]
   ·rw[wc k]at e;split at e<;>exact wh e (by decide)
  ·have d:=w7 d;have e:=w7 e;rw[wc,c];rintro(k|k)
   ·rw[wd k]at d;exact d (by decide)
   ·by_cases g:Au a<(h:Rat)
    ·exact wh (Std.lt_trans k g) (by grind)
    ·rw[wc g,wd k]at e;exact e (by decide)
 ·have c:At a≠0:=by simpa using c
  exact(VA c).symm
theorem gB:C9 uP:=Aa T58.ok AI
namespace T61
theorem loop{Q:PV->Ob->Prop}(s:B0)(l:List B0)(f:l.length<=1000):∀(r:List B0) (i:Nat),l.drop i=r->i<=l.length->(∀ob,Q (.dat i64<|if s∈r then 9 else 0) ob)->Ends uP (L1 s l (i:Int)) Q
 |[],i,h,b,a=>by
  have:=drop_nil h b;exact zj (Al ..) (zi (w8<|by omega)<|zd<|a _)
 |x::r,i,h,b,a=>by
  obtain⟨m,j,n⟩:=drop_cons (d:=([]:Z)) h;have g:=wn (i:=i) (by omega);refine zj (Al ..) ?_;conv=>zeta
  rw[zh,j,g];refine zc (w4<|by omega) (zc (ad (by omega)<|by omega)<|zf (fun c=>zd ?_)<|fun c=>loop s l f r (i+1) n m ?_)
  ·have c:x=s:=by simpa using c
   rw[wd<|by rw[c];exact zl ..]at a;exact a _
  ·have c:x≠s:=by simpa using c
   have e:(s∈x::r)=(s∈r):=by
    apply propext;rw[zy];exact⟨fun k=>k.resolve_left fun k=>c k.symm,.inr⟩
   simp only[e]at a;exact a
theorem ok:Af A6 61 Ue:=by
 refine BO gB<|fun(i:B0×List B0) a=>?_;obtain⟨s,l⟩:=i;have a:decide (l.length<=1000)=true:=a;have b:∀e ob,e=J4 s l->Ad Ue (s,l) (.dat i64 e) ob:=fun e ob x=>zr rfl rfl x
 refine zp (Ai s l)<|zc rfl (zf (fun c=>zd<|b _ _ ?_)<|fun c=>?_)
 ·exact(wY<|by simpa using c).symm
 ·exact loop s l (w6 a) l 0 rfl (zq _) (fun ob=>b _ _ (Wr<|by simpa using c).symm)
end T61
theorem oZ:C9 rU:=Aa T59.ok<|Aa T58.ok AI
namespace T67
theorem loop{Q:PV->Ob->Prop}(a b c d:B0)(l:List Io)(k:l.length<=1000000):∀(r:List Io) (i:Nat),l.drop i=r->i<=l.length->(∀ob,Q (.dat i64<|fF r) ob)->Ends rU (L1 (i:Int) a b c d l) Q
 |[],i,h,j,f=>by
  have:=drop_nil h j;exact zj (Al ..) (zi (w8<|by omega)<|zd<|f _)
 |o::r,i,h,j,f=>by
  obtain⟨q,p,s⟩:=drop_cons (d:=(([],0):Io)) h;have m:=wn (i:=i) (by omega);have g:=nb (i:=i) (n:=l.length) (by omega);rw[fF]at f;refine zj (Al ..) ?_;conv=>zeta
  rw[zh,p,m];refine zc (w4<|by omega)<|zc g<|zc rfl (zf (fun c=>zd ?_)<|fun c=>zc g<|zf (fun d=>zd ?_)<|fun d=>zc g<|zf (fun e=>zd ?_)<|fun e=>loop _ _ _ _ l k r (i+1) s q ?_)
  ·rw[wd<|by simpa using c]at f;exact f _
  ·rw[wc (by simpa using c),wd<|.inl<|w6 d]at f;exact f _
  ·rw[wc (by simpa using c),wd<|.inr<|w6 e]at f;exact f _
  ·rw[wc (by simpa using c),wc<|not_or.2 ⟨w7 d,w7 e⟩]at f;exact f
theorem ok:Af A6 67 bX:=by
 refine BO oZ<|fun(s:BX) hi=>?_;obtain⟨a1,a2,a3,a4,a5⟩:=N4 hi;have i:∀e ob,e=K5 s->Ad bX s (.dat i64 e) ob:=fun e ob x=>zr rfl rfl x
 have j:∀ {a:B0} {lo h:Int},a.length<=20->GO lo=true->GO h=true->(decide (a.length<=1000000)&&GO lo&&GO h)=true:=fun k x y=>Ab (Ab (w4<|by omega) x) y
 have b:=sT s;have bad:∀x:Int,x≠0->Uf s=x->x=K5 s:=fun x h k=>by
  unfold K5;rw[k,wd h]
 refine zp (Ai s) ?_;conv=>zeta
 by_cases d:BI s.1 (-10000) 10000=0
 ·rw[wc<|fun x=>x d]at b;refine zc (j a1 rfl rfl)<|zc (q0 d)<|zc (j a2 rfl rfl) ?_;by_cases f:BI s.2.1 (-10000) 10000=0
  ·rw[wc<|fun x=>x f]at b;refine zc (q0 f)<|zc (j a3 rfl rfl) ?_;by_cases g:BI s.2.2.1 0 10000=0
   ·rw[wc<|fun x=>x g]at b;refine zc (q0 g)<|zc (j a4 rfl rfl) ?_;by_cases l:BI s.2.2.2.1 0 10000=0
    ·rw[wc<|fun x=>x l]at b;refine zi (n0 l)<|zf (fun c=>zd<|i _ _ ?_)<|fun c=>?_
     ·have c:=w6 c;rw[wd<|by omega]at b;exact bad 5 (by decide) b
     ·have c:=w7 c;rw[wc<|by omega]at b;have e:K5 s=fF s.2.2.2.2:=by
       unfold K5;rw[wc<|fun x=>x b]
      exact loop _ _ _ _ _ (by omega) _ 0 rfl (zq _) (fun ob=>i _ _ e.symm)
    ·rw[wd l]at b;exact zc (n1 l)<|zd<|i _ _<|bad _ l b
   ·rw[wd g]at b;exact zi (q1 g)<|zc (n1 g)<|zd<|i _ _<|bad _ g b
  ·rw[wd f]at b;exact zi (q1 f)<|zi (q1 f)<|zc (n1 f)<|zd<|i _ _<|bad _ f b
 ·rw[wd d]at b;exact zc (j a1 rfl rfl)<|zi (q1 d)<|zi (q1 d)<|zi (q1 d)<|zc (n1 d)<|zd<|i _ _<|bad _ d b
end T67
end Go.Pe
namespace Go.Sp
theorem YM(l:BW):Mh l=if isName l.1=false then 8 else if BI l.2.1 1 10000≠0 then BI l.2.1 1 10000 else if BI l.2.2.1 1 10000≠0 then BI l.2.2.1 1 10000 else B2 l.2.2.2.1:=by
 unfold Mh;rw[Bn,Bn,Bn,Bn,EY];have t:(if B2 l.2.2.2.1≠0 then B2 l.2.2.2.1 else first [])=B2 l.2.2.2.1:=by
  by_cases h:B2 l.2.2.2.1=0
  ·rw[h];rfl
  ·rw[wd h]
 rw[t];cases isName l.1
 ·rfl
 ·rfl
theorem Oq{u:B0}(h:At u=0):EU u<0↔Au u<0:=by
 have t:=(MO h).1;have k:=JI<|Au u;rw[t]at k;rw[k, <-(neg_num<|Au u).1];unfold Mt;constructor
 ·intro x;split at x
  ·omega
  ·split at x<;>omega
 ·intro x;rw[wd x];decide
theorem lJ{seen:List B0}{w:BM}{l:List BM}{o:List B0}(h:∀x,x∈o↔x∈seen):ZA seen (w::l)=if J4 w.1 o≠0 then J4 w.1 o else if At w.2≠0 then At w.2 else if Au w.2<0 then 3 else ZA (w.1::seen) l:=by
 rw[ZA,Uq];unfold has;cases isName w.1
 ·rfl
 ·by_cases k:w.1∈o
  ·rw[w4<|(h _).1 k,wd k];rfl
  ·rw[w8<|fun x=>k<|(h _).2 x,wc k];rfl
theorem PG{o seen:List B0}(h:∀x,x∈o↔x∈seen)(k:B0):∀x,x∈o++[k]↔x∈k::seen:=fun x=>by
 rw[List.mem_append,List.mem_singleton,zy,h x];exact Or.comm
end Go.Sp
namespace Go.Pe
open Sp
open Go.Det
open Go.Sp (AT BX BW BM Io B0 Ct q0 q1 n0 n1)
theorem oV:C9 Re:=Aa T58.ok<|Aa T59.ok<|Aa T60.ok<|Aa T36.ok<|Aa T61.ok<|Aa T62.ok<|Aa T38.ok AI
theorem bW{C:Ctx}{f:FuncId}{ins outs:List Sh}{p q:(By ins).T->Bool}{g:(By ins).T->(By outs).T}{nd:Bool}(h:Af C f ⟨ins,p,outs,g,nd⟩)(j:∀i,q i=true->p i=true):Af C f ⟨ins,q,outs,g,nd⟩:=by
 rcases h with h|⟨x,k,hr⟩
 ·exact .inl ⟨h.prim,h.fn,fun F m args i a b c d e=>h.run F m args i a b c d<|j i e⟩
 ·exact .inr ⟨x,k,fun F m args i a e=>hr F m args i a<|j i e⟩
namespace T14
variable {Q:PV->Ob->Prop}
theorem Jg(j q nx:B0)(t w:List BM)(B:w.length<=16)(m:∀p∈w,p.2.length<=1000000):∀(r:List BM) (i n:Nat) (o seen:List B0),w.drop i=r->i<=w.length->n=o.length->n=i->(∀x,x∈o↔x∈seen)->(∀ob,Q (.dat i64<|ZA seen r) ob)->Ends Re (L3 n (i:Int) o j q nx t w) Q
 |[],i,n,o,seen,h,l,e,b,g,a=>by
  have:=drop_nil h l;exact zj (B5 ..) (zi (w8<|by omega)<|zd<|a _)
 |p::r,i,n,o,seen,h,l,e,b,g,a=>by
  obtain⟨A,z,v⟩:=drop_cons (d:=(([],[]):BM)) h;have s:=m p (zm<|by rw[h];exact zl ..);have u:=wn (i:=i) (by omega);have f:=nb (i:=i) (n:=w.length) (by omega);have tk:List.take n o=o:=by rw[e,z8]
  rw[lJ g]at a;refine zj (B5 ..) ?_;conv=>zeta
  rw[zh,z,u,tk];have pn:(decide (0+n<=o.length)&&true&&decide (o.length<=1000))=true:=Ab (Ab (w4<|by omega) rfl) (w4<|by omega);have y:(decide (1<=1)&&true&&decide (n=o.length)&&decide ((3*(n+1)+2000)*16<=562949953421312))=true:=Ab (Ab (Ab rfl rfl)<|w4 e) (w4<|by omega);refine zc (w4<|by omega)<|zc f<|zc pn ?_;by_cases c:J4 p.1 o=0
  ·rw[wc<|fun x=>x c]at a;refine zc (q0 c)<|zc f<|zc (w4 s) ?_;by_cases d:At p.2=0
   ·rw[wc<|fun x=>x d]at a;refine zc (q0 d)<|zc f<|zc (w4 s)<|zf (fun k=>zc rfl (zd ?_))<|fun k=>zi (n0 d)<|zc f<|zc y ?_
    ·rw[wd<|(Oq d).1<|w6 k]at a;exact a _
    ·rw[wc fun x=>w7 k<|(Oq d).2 x]at a;exact Jg j q nx t w B m r (i+1) (zu n 1) (o++[p.1]) (p.1::seen) v A (by rw[z6,e];rfl) (by rw[b]) (PG g p.1) a
   ·rw[wd d]at a;exact zi (q1 d)<|zc (n1 d)<|zd<|a _
  ·rw[wd c]at a;exact zi (q1 c)<|zi (q1 c)<|zc (n1 c)<|zd<|a _
theorem Ge(e g nx:B0)(t w:List BM)(m:w.length<=16)(f:∀p∈w,p.2.length<=1000000)(a:∀ob,Q (.dat i64<|ZA [] w) ob):Ends Re (L2 0 e g nx t w) Q:=by
 cases w with
 |nil=>exact zj (AH ..)<|zi rfl (zd<|a _)
 |cons p r=>
  have s:=f p<|zl ..;have h:ze .i64 ((0:Int)+1)=((1:Nat):Int):=rfl;have l:(p::r).getD (Int.toNat 0) ([],[])=p:=rfl;have b:(decide ((0:Int)<=(0:Int))&&decide ((0:Int)<((p::r).length:Int)))=true:=Ab rfl (w4<|by rw[zo];omega);have j:∀x:B0,x∈([]:List B0)↔x∈([]:List B0):=fun x=>ye
  rw[lJ j]at a;refine zj (AH ..) ?_;conv=>zeta
  rw[l,h];have i:(decide (1<=1)&&decide (0<1)&&decide ((3*1+2000)*16<=562949953421312))=true:=Ab (Ab rfl rfl) (w4 (by omega));refine zc (w4<|by rw[zo];omega)<|zc b<|zc rfl ?_;by_cases c:J4 p.1 []=0
  ·rw[wc<|fun x=>x c]at a;refine zc (q0 c)<|zc b<|zc (w4 s) ?_;by_cases d:At p.2=0
   ·rw[wc<|fun x=>x d]at a;refine zc (q0 d)<|zc b<|zc (w4 s)<|zf (fun k=>zc rfl (zd ?_))<|fun k=>zi (n0 d)<|zc b<|zc i ?_
    ·rw[wd<|(Oq d).1<|w6 k]at a;exact a _
    ·rw[wc fun x=>w7 k<|(Oq d).2 x]at a;exact Jg e g nx t (p::r) m f r 1 1 [p.1] [p.1] rfl (by rw[zo];omega) rfl rfl (fun x=>ye) a
   ·rw[wd d]at a;exact zi (q1 d)<|zc (n1 d)<|zd<|a _
  ·rw[wd c]at a;exact zi (q1 c)<|zi (q1 c)<|zc (n1 c)<|zd<|a _
theorem GP(e f nx:B0)(t w:List BM)(o:t.length<=1000)(b:∀p∈t,At p.1=0/\At p.2=0)(j:∀p∈w,p.2.length<=1000000):∀(r:List BM) (i:Nat),t.drop i=r->1<=i->i<=t.length->(∀ob,Q (.dat i64<|if RX (some (t.getD (i-1) ([],[])).2) r≠0 then RX (some (t.getD (i-1) ([],[])).2) r else NL w) ob)->Ends Re (L1 (i:Int) e f nx t w) Q
 |[],i,h,m,g,a=>by
  have:=drop_nil h g;have a:∀ob,Q (.dat i64<|NL w) ob:=fun ob=>by
   have:=a ob;rwa [show RX (some (t.getD (i-1) ([],[])).2) []=0 from rfl,wc<|fun x=>x rfl]at this
  unfold NL at a;refine zj (Al ..) (zi (w8<|by omega)<|zf (fun c=>zd ?_)<|fun c=>?_)
  ·have c:=w6 c;rw[wd<|by omega]at a;exact a _
  ·have c:=w7 c;rw[wc<|by omega]at a;exact Ge e f nx t w (by omega) j a
 |p::r,i,h,m,g,a=>by
  obtain⟨u,k,n⟩:=drop_cons (d:=(([],[]):BM)) h;have s:=b p (zm<|by rw[h];exact zl ..);have v:=b (t.getD (i-1) ([],[])) (GY<|by omega);have l:=wn (i:=i) (by omega);have q:ze .i64 ((i:Int)-1)=((i-1:Nat):Int):=by rw[wr _ (by omega)<|by omega];omega
  rw[U7]at a;refine zj (Al ..) ?_;conv=>zeta
  rw[q,zh,zh,k,l];refine zc (w4<|by omega) (zc (ad (by omega)<|by omega) (zc (ad (by omega)<|by omega) (zc (Ab (CQ s.2).1<|(Qm v.2).Ep<|by decide)<|zf (fun d=>zd ?_)<|fun d=>?_)))
  ·rw[wd<|w6 d,wd<|by decide]at a;exact a _
  ·rw[wc<|w7 d]at a;exact GP e f nx t w o b j r (i+1) n (by omega) u (by rw[Nat.add_sub_cancel,k];exact a)
theorem okM:Af A6 14 Abe:=by
 refine BO oV<|fun(l:BW) hi=>?_;have i:=vE hi;have j:∀e ob,e=JL l->Ad Abe l (.dat i64 e) ob:=fun e ob x=>zr rfl rfl x
 have hp:J5 1000000 l.2.2.2.1=true:=by
  unfold J5;rw[z7];intro p hp;have:=i.tab p hp;exact ad (by omega) (by omega)
 have a1:=i.head;have a2:=i.next;have a3:=i.tl;have t:∀p∈l.2.2.2.2,p.2.length<=1000000:=fun p hp=>by have:=i.wts p hp;omega
 have m:∀ {a:B0},a.length<=20->(decide (a.length<=1000000)&&GO 1&&GO 10000)=true:=fun k=>Ab (Ab (w4<|by omega) rfl) rfl
 have n:(decide (l.2.2.2.1.length<=1000)&&J5 1000000 l.2.2.2.1)=true:=Ab (w4<|by omega) hp;have b:=YM l;have bad:∀x:Int,x≠0->Mh l=x->x=JL l:=fun x h k=>by
  unfold JL;rw[k,wd h]
 refine zp (Ai l)<|zc rfl (zf (fun c=>zd<|j _ _ ?_)<|fun c=>zc (m a1) ?_)
 ·have c:zz l.1=false:=by simpa using c
  rw[wd c]at b;exact bad 8 (by decide) b
 have c:¬zz l.1=false:=by simpa using c
 rw[wc c]at b;by_cases f:BI l.2.1 1 10000=0
 ·rw[wc<|fun x=>x f]at b;refine zc (q0 f)<|zc (m a2) ?_;by_cases g:BI l.2.2.1 1 10000=0
  ·rw[wc<|fun x=>x g]at b;refine zc (q0 g) (zc n (zf (fun d=>zd<|j _ _<|bad _ (by simpa using d) b)<|fun d=>?_));have ct:B2 l.2.2.2.1=0:=by simpa using d
   rw[ct]at b;obtain⟨o,_,q⟩:=No ct;obtain⟨p,r,hr⟩:∃p r,l.2.2.2.1=p::r:=by
    cases e:l.2.2.2.1 with
    |nil=>exact wh e o
    |cons p r=>exact⟨p,r,rfl⟩
   have s:l.2.2.2.1.getD (1-1) ([],[])=p:=by rw[hr];rfl
   have up:RX none l.2.2.2.1=RX (some p.2) r:=by rw[hr,RX]
   refine GP _ _ _ _ _ (by omega) (N5 q) t r 1 (by rw[hr];rfl) (by omega) (by rw[hr,zo];omega)<|fun ob=>j _ _ ?_;rw[s, <-up];exact(wc (c:=Mh l≠0)<|fun x=>x b).symm
  ·rw[wd g]at b;exact zi (q1 g)<|zc (n1 g)<|zd<|j _ _<|bad _ g b
 ·rw[wd f]at b;exact zi (q1 f)<|zi (q1 f)<|zc (n1 f)<|zd<|j _ _<|bad _ f b
end T14
end Go.Pe
namespace Go.Sp
theorem ZF{n:Int}{seen:List B0}{t:Ct}{l:List Ct}{o:List B0}(h:∀x,x∈o↔x∈seen):FV n seen (t::l)=if J4 t.1 o≠0 then J4 t.1 o else if (t.2.length:Int)≠n then 2 else if Er t.2=true then 3 else FV n (t.1::seen) l:=by
 rw[FV,Uq];unfold has;cases isName t.1
 ·rfl
 ·by_cases k:t.1∈o
  ·rw[w4<|(h _).1 k,wd k];rfl
  ·rw[w8<|fun x=>k<|(h _).2 x,wc k];rfl
theorem iR{l:BW}(h:JL l=0):isName l.1=true:=by
 cases k:isName l.1 with
 |true=>rfl
 |false=>
  have e:=YM l;rw[wd k]at e;unfold JL at h;rw[e,wd<|by decide]at h;exact wh h (by decide)
theorem Z0{seen:List B0}{l:BW}{r:List BW}{o:List B0}(h:∀x,x∈o↔x∈seen):LN seen (l::r)=if JL l≠0 then JL l else if J4 l.1 o≠0 then J4 l.1 o else LN (l.1::seen) r:=by
 rw[LN];by_cases e:JL l=0
 ·have a:¬JL l≠0:=fun x=>x e
  rw[wc a,wc a,Wr<|iR e];unfold has;by_cases k:l.1∈o
  ·rw[w4<|(h _).1 k,wd k];rfl
  ·rw[w8<|fun x=>k<|(h _).2 x,wc k];rfl
 ·rw[wd e,wd e]
theorem Rz(n:Int)(r:List Int):Er (n::r)=((decide (n<1)||decide (10000<n))||Er r):=by unfold Er;rw[zw]
theorem Ps{α:Type}{l:List α}:((l.length:Int)==0)=true↔l=[]:=by
 rw[wj];constructor
 ·intro h;exact List.length_eq_zero_iff.1 (by omega)
 ·intro h;rw[h];rfl
end Go.Sp
namespace Go.Pe
open Sp
open Go.Det
open Go.Sp (AT BX BW BM Io B0 Ct q0 q1 n0 n1)
theorem pV:C9 E6:=Aa T67.ok<|Aa T61.ok<|Aa T14.okM AI
theorem LX{α:Type}{X:AV}{Q:PV->Ob->Prop}{l:List α}{m:Nat}{e:Int}{s1 s2:Ob}{t:Tr}(a:∀ob,Q (.dat i64<|if l=[]then 12 else if m<l.length then 5 else e) ob)(b:l≠[]->l.length<=m->(∀ob,Q (.dat i64 e) ob)->Ends X t Q):
  Ends X (.ite ((l.length:Int)==0) (.leaf (.dat i64 12) s1)<|.ite (decide ((l.length:Int)>(m:Int))) (.leaf (.dat i64 5) s2) t) Q:=by
 refine zf (fun c=>zd ?_)<|fun c=>zf (fun d=>zd ?_)<|fun d=>?_
 ·rw[wd<|Ps.1 c]at a;exact a _
 ·have c:l≠[]:=fun x=>by rw[Ps.2 x]at c;cases c
  have d:=w6 d;rw[wc c,wd<|by omega]at a;exact a _
 ·have c:l≠[]:=fun x=>by rw[Ps.2 x]at c;cases c
  have d:=w7 d;rw[wc c,wc<|by omega]at a;exact b c (by omega) a
namespace T16
variable {Q:PV->Ob->Prop}
theorem Aal(S:List BX)(m:List Ct)(l:List BW)(q:l.length<=8)(k:∀x∈l,P2 x=true):∀(r:List BW) (i n:Nat) (o seen:List B0),l.drop i=r->i<=l.length->n=o.length->n=i->(∀x,x∈o↔x∈seen)->(∀ob,Q (.dat i64<|LN seen r) ob)->Ends E6 (L6 n (i:Int) o S m l) Q
 |[],i,n,o,seen,h,j,e,b,g,a=>by
  have:=drop_nil h j;exact zj (ET ..) (zi (w8<|by omega)<|zd<|a _)
 |p::r,i,n,o,seen,h,j,e,b,g,a=>by
  obtain⟨y,w,u⟩:=drop_cons (d:=(([],[],[],[],[]):BW)) h;have s:=k p (zm<|by rw[h];exact zl ..);have t:=wn (i:=i) (by omega);have f:=nb (i:=i) (n:=l.length) (by omega);have tk:List.take n o=o:=by rw[e,z8]
  rw[Z0 g]at a;refine zj (ET ..) ?_;conv=>zeta
  rw[zh,w,t,tk];have pn:(decide (0+n<=o.length)&&true&&decide (o.length<=1000))=true:=Ab (Ab (w4<|by omega) rfl) (w4 (by omega));have v:(decide (1<=1)&&true&&decide (n=o.length)&&decide ((3*(n+1)+2000)*16<=562949953421312))=true:=Ab (Ab (Ab rfl rfl)<|w4 e) (w4<|by omega);refine zc (w4<|by omega)<|zc f<|zc s ?_;by_cases c:JL p=0
  ·rw[wc<|fun x=>x c]at a;refine zc (q0 c)<|zc f<|zc pn<|zf (fun d=>zd ?_)<|fun d=>zc f<|zc v ?_
   ·rw[wd<|by simpa using d]at a;exact a _
   ·rw[wc<|by simpa using d]at a;exact Aal S m l q k r (i+1) (zu n 1) (o++[p.1]) (p.1::seen) u y (by rw[z6,e];rfl) (by rw[b]) (PG g p.1) a
  ·rw[wd c]at a;exact zi (q1 c)<|zc (n1 c)<|zd<|a _
theorem V5(S:List BX)(f:List Ct)(l:List BW)(h:l.length<=8)(e:∀x∈l,P2 x=true)(a:∀ob,Q (.dat i64<|LN [] l) ob):Ends E6 (L4 0 S f l) Q:=by
 cases l with
 |nil=>exact zj (CD ..)<|zi rfl (zd<|a _)
 |cons p r=>
  have s:=e p<|zl ..;have i:ze .i64 ((0:Int)+1)=((1:Nat):Int):=rfl;have k:(p::r).getD (Int.toNat 0) ([],[],[],[],[])=p:=rfl;have b:(decide ((0:Int)<=(0:Int))&&decide ((0:Int)<((p::r).length:Int)))=true:=Ab rfl (w4<|by rw[zo];omega);have j:∀x:B0,x∈([]:List B0)↔x∈([]:List B0):=fun x=>ye
  rw[Z0 j]at a;refine zj (CD ..) ?_;conv=>zeta
  rw[k,i];have g:(decide (1<=1)&&decide (0<1)&&decide ((3*1+2000)*16<=562949953421312))=true:=Ab (Ab rfl rfl) (w4 (by omega));refine zc (w4<|by rw[zo];omega)<|zc b<|zc s ?_;by_cases c:JL p=0
  ·rw[wc<|fun x=>x c]at a;refine zc (q0 c)<|zc b<|zc rfl (zf (fun d=>zd ?_)<|fun d=>zc b<|zc g ?_)
   ·rw[wd<|by simpa using d]at a;exact a _
   ·rw[wc<|by simpa using d]at a;exact Aal S f (p::r) h e r 1 1 [p.1] [p.1] rfl (by rw[zo];omega) rfl rfl (fun x=>ye) a
  ·rw[wd c]at a;exact zi (q1 c)<|zc (n1 c)<|zd<|a _
theorem wV{n:Nat}{i e j:Int}{t:Ct}{o:List B0}{S:List BX}{c:List Ct}{V:List BW}(a:e≠0)(b:∀ob,Q (.dat i64 e) ob):Ends E6 (L7 n i e j t.1 t.2 o S c V) Q:=
 zj (D1 ..) (zf (fun _=>zi (q1 a)<|zc (n1 a)<|zd<|b _)<|fun _=>zc (n1 a)<|zd<|b _)
theorem tA{i e j:Int}{t:Ct}{S:List BX}{c:List Ct}{V:List BW}(a:e≠0)(b:∀ob,Q (.dat i64 e) ob):Ends E6 (L3 i e j t.1 t.2 S c V) Q:=
 zj (B5 ..) (zf (fun _=>zi (q1 a)<|zc (n1 a)<|zd<|b _)<|fun _=>zc (n1 a)<|zd<|b _)
theorem yQ{n:Nat}{i:Int}{t:Ct}{o:List B0}{S:List BX}{l:List Ct}{V:List BW}(g:n=o.length)(q:n<=1000)(m:t.2.length<=4611686018427387904)(b:Er t.2=true->∀ob,Q (.dat i64 3) ob)(k:Er t.2=false->Ends E6 (L5 (zu n 1) (ze .i64<|i+1) (o++[t.1]) S l V) Q):∀(r:List Int) (j:Nat),t.2.drop j=r->j<=t.2.length->Er t.2=Er r->Ends E6 (L7 n i 0 (j:Int) t.1 t.2 o S l V) Q
 |[],j,h,e,a=>by
  have:=drop_nil h e;refine zj (D1 ..) (zi (w8<|by omega)<|zi rfl (zc ?_<|k a));exact Ab (Ab (Ab rfl rfl)<|w4 g) (w4<|by omega)
 |x::r,j,h,e,a=>by
  obtain⟨u,s,v⟩:=drop_cons (d:=(0:Int)) h;have p:=wn (i:=j) (by omega);have f:=nb (i:=j) (n:=t.2.length) (by omega);rw[Rz]at a;refine zj (D1 ..) ?_;conv=>zeta
  rw[zh,s,p];refine zc (w4<|by omega)<|zc rfl (zc f<|zf (fun c=>?_)<|fun c=>zc f<|zf (fun d=>?_)<|fun d=>?_)
  ·rw[c,zt,zt]at a;exact wV (by decide)<|b a
  ·have d:decide (10000<x)=true:=d;rw[d,ya,zt]at a;exact wV (by decide)<|b a
  ·have d:decide (10000<x)=false:=d;rw[c,d,zx,zx]at a;exact yQ g q m b k r (j+1) v u a
theorem Jg{i:Int}{t:Ct}{S:List BX}{k:List Ct}{V:List BW}(l:t.2.length<=4611686018427387904)(b:Er t.2=true->∀ob,Q (.dat i64 3) ob)(g:Er t.2=false->Ends E6 (L5 1 (ze .i64<|i+1) [t.1] S k V) Q):∀(r:List Int) (j:Nat),t.2.drop j=r->j<=t.2.length->Er t.2=Er r->Ends E6 (L3 i 0 (j:Int) t.1 t.2 S k V) Q
 |[],j,h,e,a=>by
  have:=drop_nil h e;refine zj (B5 ..) (zi (w8<|by omega)<|zi rfl (zc ?_<|g a));exact Ab (Ab rfl rfl) (w4<|by omega)
 |x::r,j,h,e,a=>by
  obtain⟨p,o,q⟩:=drop_cons (d:=(0:Int)) h;have m:=wn (i:=j) (by omega);have f:=nb (i:=j) (n:=t.2.length) (by omega);rw[Rz]at a;refine zj (B5 ..) ?_;conv=>zeta
  rw[zh,o,m];refine zc (w4<|by omega)<|zc rfl (zc f<|zf (fun c=>?_)<|fun c=>zc f<|zf (fun d=>?_)<|fun d=>?_)
  ·rw[c,zt,zt]at a;exact tA (by decide)<|b a
  ·have d:decide (10000<x)=true:=d;rw[d,ya,zt]at a;exact tA (by decide)<|b a
  ·have d:decide (10000<x)=false:=d;rw[c,d,zx,zx]at a;exact Jg l b g r (j+1) q p a
theorem yL(c:AT)(g:sU c=true)(A:c.2.1.length<=8):∀(r:List Ct) (i n:Nat) (o seen:List B0),c.2.1.drop i=r->i<=c.2.1.length->n=o.length->n=i->(∀x,x∈o↔x∈seen)->(∀ob,Q (.dat i64<|if FV (c.1.length:Int) seen r≠0 then FV (c.1.length:Int) seen r else NN c) ob)->Ends E6 (L5 n (i:Int) o c.1 c.2.1 c.2.2) Q
 |[],i,n,o,seen,h,p,e,b,j,a=>by
  have:=drop_nil h p;have a:∀ob,Q (.dat i64<|NN c) ob:=fun ob=>by
   have:=a ob;rwa [show FV (c.1.length:Int) seen []=0 from rfl,wc<|fun x=>x rfl]at this
  refine zj (EG ..) (zi (w8<|by omega)<|LX (m:=8) a fun _ s l=>?_);exact V5 _ _ _ s (QB g).2.2.2.2.2 l
 |t::r,i,n,o,seen,h,p,e,b,j,a=>by
  obtain⟨y,w,u⟩:=drop_cons (d:=(([],[]):Ct)) h;have st:=(QB g).2.2.2.2.1 t (zm<|by rw[h];exact zl ..);have st:decide (t.2.length<=4611686018427387904)=true:=st;rw[w5]at st;have q:=wn (i:=i) (by omega);have v:=nb (i:=i) (n:=c.2.1.length) (by omega);have tk:List.take n o=o:=by rw[e,z8]
  have pn:(decide (0+n<=o.length)&&true&&decide (o.length<=1000))=true:=Ab (Ab (w4<|by omega) rfl) (w4<|by omega);rw[ZF j]at a;refine zj (EG ..) ?_;conv=>zeta
  rw[zh,w,tk];refine zc (w4<|by omega)<|zc v<|zc pn ?_;by_cases k:J4 t.1 o=0
  ·have z:¬J4 t.1 o≠0:=fun x=>x k
   rw[wc z]at a;refine zc (q0 k)<|zf (fun d=>?_)<|fun d=>?_
   ·have d:(t.2.length:Int)≠(c.1.length:Int):=by simpa using d
    rw[wd d,wd<|by decide]at a;exact wV (by decide) a
   ·have d:¬(t.2.length:Int)≠(c.1.length:Int):=by simpa using d
    rw[wc d]at a;rw[k];refine yQ e (by omega) st (fun f=>?_) (fun f=>?_) t.2 0 rfl (zq _) rfl
    ·rw[wd f,wd<|by decide]at a;exact a
    ·rw[wc (c:=Er t.2=true)<|by rw[f];decide]at a;rw[q];exact yL c g A r (i+1) (zu n 1) (o++[t.1]) (t.1::seen) u y (by rw[z6,e];rfl) (by rw[b]) (PG j t.1) a
  ·rw[wd k,wd k]at a;exact zi (q1 k)<|wV k a
theorem Ge(c:AT)(b:sU c=true)(o:c.2.1.length<=8)(a:∀ob,Q (.dat i64<|if FV (c.1.length:Int) [] c.2.1≠0 then FV (c.1.length:Int) [] c.2.1 else NN c) ob):Ends E6 (L2 0 c.1 c.2.1 c.2.2) Q:=by
 obtain⟨S,tt,V⟩:=c;cases tt with
 |nil=>
  have a:∀ob,Q (.dat i64<|NN (S,[],V)) ob:=a;refine zj (AH ..)<|zi rfl (LX (m:=8) a fun _ h e=>?_);exact V5 _ _ _ h (QB b).2.2.2.2.2 e
 |cons t r=>
  have st:=(QB b).2.2.2.2.1 t<|zl ..;have st:decide (t.2.length<=4611686018427387904)=true:=st;rw[w5]at st;have g:ze .i64 ((0:Int)+1)=((1:Nat):Int):=rfl;have l:(t::r).getD (Int.toNat 0) ([],[])=t:=rfl;have i:(decide ((0:Int)<=(0:Int))&&decide ((0:Int)<((t::r).length:Int)))=true:=Ab rfl (w4<|by rw[zo];omega);have j:∀x:B0,x∈([]:List B0)↔x∈([]:List B0):=fun x=>ye
  have a:∀ob,Q (.dat i64<|if FV (S.length:Int) [] (t::r)≠0 then FV (S.length:Int) [] (t::r)else NN (S,t::r,V)) ob:=a;rw[ZF j]at a;show Ends E6 (L2 0 S (t::r) V) Q;refine zj (AH ..) ?_;conv=>zeta
  rw[l];refine zc (w4<|by rw[zo];omega)<|zc i<|zc rfl ?_;by_cases k:J4 t.1 []=0
  ·have n:¬J4 t.1 []≠0:=fun x=>x k
   rw[wc n]at a;refine zc (q0 k)<|zf (fun d=>?_)<|fun d=>?_
   ·have d:(t.2.length:Int)≠(S.length:Int):=by simpa using d
    rw[wd d,wd<|by decide]at a;exact tA (by decide) a
   ·have d:¬(t.2.length:Int)≠(S.length:Int):=by simpa using d
    rw[wc d]at a;rw[k];refine Jg st (fun f=>?_) (fun f=>?_) t.2 0 rfl (zq _) rfl
    ·rw[wd f,wd<|by decide]at a;exact a
    ·rw[wc (c:=Er t.2=true)<|by rw[f];decide]at a;rw[g];exact yL (S,t::r,V) b o r 1 1 [t.1] [t.1] rfl (by rw[zo];omega) rfl rfl (fun x=>ye) a
  ·rw[wd k,wd k]at a;exact zi (q1 k)<|tA k a
theorem GP(c:AT)(b:sU c=true):∀(r:List BX) (i:Nat),c.1.drop i=r->i<=c.1.length->
  (∀ob,Q (.dat i64<|if I4 r≠0 then I4 r else Ut c) ob)->Ends E6 (L1 (i:Int) c.1 c.2.1 c.2.2) Q
 |[],i,h,f,a=>by
  have:=drop_nil h f;have a:∀ob,Q (.dat i64<|Ut c) ob:=fun ob=>by
   have:=a ob;rwa [show I4 []=0 from rfl,wc<|fun x=>x rfl]at this
  refine zj (Al ..) (zi (w8<|by omega)<|LX (m:=8) a fun _ j e=>?_);exact Ge c b j e
 |p::r,i,h,f,a=>by
  obtain⟨n,l,k⟩:=drop_cons (d:=(([],[],[],[],[]):BX)) h;have s:=QB b;have sp:=s.2.2.2.1 p (zm<|by rw[h];exact zl ..);have q:=s.1;have g:=wn (i:=i) (by omega);rw[Rx]at a;refine zj (Al ..) ?_;conv=>zeta
  rw[zh,l,g];refine zc (w4<|by omega) (zc (ad (by omega)<|by omega)<|zc sp<|zf (fun d=>zd ?_)<|fun d=>?_)
  ·have d:(K5 p !=0)=true:=d;have d:K5 p≠0:=by simpa using d
   rw[wd d,wd d]at a;exact a _
  ·have d:(K5 p !=0)=false:=d;have o:¬K5 p≠0:=by simpa using d
   rw[wc o]at a;exact GP c b r (i+1) k n a
theorem okM:Af A6 16 AdA:=by
 refine BO pV<|fun(c:AT) a=>?_;have a:sU c=true:=a;have d:∀ob,Ad AdA c (.dat i64<|NU c) ob:=fun ob=>zr rfl rfl rfl
 refine zp (Ai c)<|LX (m:=36) d fun _ _ b=>?_;exact GP c a c.1 0 rfl (zq _) b
theorem ok:Af A6 16 cCo:=bW okM fun _ h=>Abx h
end T16
end Go.Pe
