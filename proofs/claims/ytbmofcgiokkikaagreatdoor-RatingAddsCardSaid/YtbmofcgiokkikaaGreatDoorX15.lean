import Derived.Test.YtbmofcgiokkikaaGreatDoorX14
/- A part of a proof; no law is stated here. -/
noncomputable section
open Go.Pe.Ends renaming tt -> zc, leaf -> zd, ite -> zf, Ah -> zh, ff -> zk, eq -> zn
open Int renaming toNat_natCast -> ze, toNat -> z6
open Bool renaming and_eq_true -> zi, false_and -> zt, false_or -> ya, true_and -> yb, and_true -> yf, and_false -> yh, true_or -> yn
open Go.IntKind renaming wrap -> zj, i64 -> zm
open List renaming all_eq_true -> zl, length_cons -> zp, mem_cons_self -> zq, mem_of_mem_drop -> zu, mem_cons -> zy, all_cons -> zz, take_length -> yd, any_cons -> ye
open Nat renaming zero_le -> zo, add -> z7
open Go.Pe.Ac renaming of -> zr
open Go.Pe.Sh renaming int -> z8, str -> yj
open Go.Sp renaming Ce -> yc, Ba -> yg, Bg -> yk, first -> ym
open Rat renaming den_intCast -> yi
namespace Go.Sp
theorem V7{a:Bm}{lo b:Int}(h:Ao a=0):BQ a lo b=if Ax a<(lo:Rat)\/(b:Rat)<Ax a then 3 else 0:=by
 simp_all [BQ]
theorem W3{a:Bm}{lo b:Int}(h:Ao a≠0):BQ a lo b=Ao a:=by
 simp_all [BQ]
theorem UA{n:Int}(h:HE n=true):n.natAbs<10^6:=by
 unfold HE at h;grind
def wE(seen:List Bm)(w:AZ):Int:=first [CB (!isName w.1) 8,CB (has seen w.1) 9,Ao w.2]
theorem oS(seen:List Bm)(w:AZ)(l:List AZ):YW seen (w::l)=if wE seen w≠0 then wE seen w else if Ax w.2<0 then 3 else YW (w.1::seen) l:=by
 have e:wE seen w=if isName w.1=false then 8 else if has seen w.1=true then 9 else Ao w.2:=by
  unfold wE;rw[Bv,Bv,Bv,Fl,Fl];cases isName w.1
  ·rfl
  ·cases has seen w.1
   ·simp only[Bool.not_true,Bool.false_eq_true,vf,wm,not_true,ite_not];split
    ·next h=>rw[h];rfl
    ·rfl
   ·rfl
 grind [YW]
def oE(o:EJ):Int:=first [CB (!isName o.1) 8,CB (decide (o.2<0\/10<o.2)) 3]
theorem yH(o:EJ)(l:List EJ):mV (o::l)=if oE o≠0 then oE o else mV l:=by
 have e:oE o=if isName o.1=false then 8 else if o.2<0\/10<o.2 then 3 else 0:=by
  unfold oE;rw[Go.Pe.K3,Fl,Fl];grind
 rw[e,mV];grind
theorem P2:∀ {l:List AZ} {o:Option AZ},D0 o l=0->∀p∈l,Ao p.1=0/\Ao p.2=0
 |[],_,_,p,hp=>by cases hp
 |x::l,none,h,p,hp=>by
  obtain⟨a,b,c⟩:=JN h;rcases zy.1 hp with rfl|hp
  ·omega
  ·exact P2 c p hp
 |x::l,some q,h,p,hp=>by
  obtain⟨a,b,_,c⟩:=Ia h;rcases zy.1 hp with rfl|hp
  ·omega
  ·exact P2 c p hp
theorem W2(y:Bm)(p:AZ)(l:List AZ):TB (some y) (p::l)=if CW p.2 y<0 then 11 else TB (some p.2) l:=by rw[TB]
end Go.Sp
variable {Q:Go.Pe.PV->Go.Pe.Ob->Prop}
namespace Go.Pe
open Sp
open Go.Det
open Go.Sp (At Bi Be AZ EJ Bm Bw)
theorem Mv{m:List (Bm×Bool)}{seen:List Bm}(h:Jp m (fun x=>x∈seen))(k:Bm):(Fa .str .bool k m).getD false=Sp.has seen k:=by
 grind [Sp.has,Jp]
theorem QT:Jp [] (fun x=>x∈([]:List Bm)):=Jp.nil.congr (by simp)
theorem QU{m:List (Bm×Bool)}{seen:List Bm}(h:Jp m (fun x=>x∈seen))(k:Bm):Jp (Iq .str .bool k true m) (fun x=>x∈k::seen):=(h.add k).congr (by simp)
theorem zL:Cr AfC:=Aa T163.ok (by grind [Aa,T96.ok,T73.ok,T57.ok,T91.ok,FM])
theorem T204.ok:Ae A1 204 WE:=by
 refine AX (X:=AfC) rfl zL (d:=9) (by rfl) (by rfl) (by rfl) (fun(i:Bm×Int×Int) f=>?_) (Ak ag);obtain⟨a,lo,h⟩:=i;have f:(decide (a.length<=1000000)&&HE lo&&HE h)=true:=f;rw[zi,zi,w5]at f;obtain⟨⟨hl,h1⟩,h2⟩:=f;have g:∀e ob,e=BQ a lo h->Ac WE (a,lo,h) (.dat i64 e) ob:=fun e ob x=>zr rfl rfl x
 have L:=Mb (n:=lo) (UA h1) af af;have H:=Mb (n:=h) (UA h2) af af;refine zn (T204.Ai a lo h) (zc ah<|zf (fun c=>zd<|g _ _ ?_)<|fun c=>?_)
 ·grind [W3]
 ·have c:Ao a=0:=ah
  obtain⟨o1,j⟩:=IN c;have A:=Xb c;refine zc j (zc rfl (zc (Ab o1<|L.BJ af)<|zf (fun d=>zc rfl (zd<|g _ _ ?_))<|fun d=>zc rfl (zc (Ab o1<|H.BJ af)<|zc rfl (zd<|g _ _ ?_))))
  ·rw[V7 c,wd<|.inl<|(A.bS L).1 ah];rfl
  ·have d:=w7 d;rw[V7 c];by_cases e:DD (CC a) ((h,BA h),(1,BA 1))>0
   ·rw[wd<|.inr<|(A.OE H).1 e];exact wi (fun b=>CB b 3)<|w4 e
   ·rw[wc<|not_or.2 ⟨fun x=>d<|(A.bS L).2 x,fun x=>e<|(A.OE H).2 x⟩];exact wi (fun b=>CB b 3)<|w8 e
theorem wB:Cr pN:=Aa T166.zX (by grind [Aa,T60.ok,T91.ok,T163.ok,T96.ok,T106.ok,FM])
namespace T207
theorem loop{Q:PV->Ob->Prop}(l:List AZ)(j:l.length<=1000000)(q:∀p∈l,p.2.length<=1000000):∀(r:List AZ) (i:Nat) (m:List (Bm×Bool)) (seen:List Bm),l.drop i=r->i<=l.length->Jp m (fun x=>x∈seen)->(∀ob,Q (.dat i64<|YW seen r) ob)->Ends pN (L1 l (l.length:Int) (i:Int) m) Q
 |[],i,m,seen,h,f,b,a=>by
  have:=drop_nil h f;exact zh (Al ..) (zk ah<|zd<|a _)
 |p::r,i,m,seen,h,f,b,a=>by
  obtain⟨g,o,n⟩:=drop_cons (d:=(([],[]):AZ)) h;have k:zj .i64 ((i:Int)+1)=((i+1:Nat):Int):=by grind [wr]
  rw[oS]at a;refine zh (Al ..) ?_;conv=>zeta
  rw[ze,o,k,Mv b];refine zc ah (zc ah<|zc rfl (zc rfl (zc rfl (zc ah<|zc rfl (zf (fun c=>zd ?_)<|fun c=>?_)))))
  ·simp_all [Sp.wE]
  ·have c:Sp.wE seen p=0:=by
    grind [Sp.wE]
   rw[wc ae]at a;have e:Ao p.2=0:=by
    grind [Cm]
   have A:=Xb e;refine zc (IN e).2<|zc A.Dz<|zf (fun d=>zd ?_)<|fun d=>?_
   ·rw[wd<|A.Pm.1.1 ah]at a;grind
   ·rw[wc fun x=>w7 d<|A.Pm.1.2 x]at a;exact loop l j q r (i+1) _ _ n g (QU b p.1) a
theorem ok:Ae A1 207 Afn:=by
 refine AX (X:=pN) rfl wB (d:=9) (by rfl) (by rfl) (by rfl) (fun(l:List AZ) hi=>?_) (Ak ag);have a:∀e ob,e=OB l->Ac Afn l (.dat i64 e) ob:=fun e ob x=>zr rfl rfl x
 refine zn (Ai l)<|zf (fun c=>zd<|a _ _ ?_)<|fun c=>?_
 ·have c:=w6 c;unfold OB;omega
 ·have c:=w7 c;have e:OB l=YW [] l:=by
   unfold OB;omega
  exact loop l ae (fun p hp=>by have:=(Qe hi p hp).2;omega) l 0 [] [] rfl ae QT ah
end T207
theorem qZ:Cr oX:=Aa T166.zX (Aa T60.ok (Aa T91.ok (by grind [Aa,T204.ok,T206.ok,T96.ok,T73.ok,T207.ok,FM])))
namespace T167
theorem loop{Q:PV->Ob->Prop}(g k nx:Bm)(t w:List AZ)(m:t.length<=1000)(b:∀p∈t,Ao p.1=0/\Ao p.2=0)(c:HQ w 40 20=true):∀(r:List AZ) (i:Nat),t.drop i=r->1<=i->i<=t.length->(∀ob,Q (.dat i64<|if TB (some (t.getD (i-1) ([],[])).2) r≠0 then TB (some (t.getD (i-1) ([],[])).2) r else OB w) ob)->Ends oX (L1 (i:Int) g k nx t w) Q
 |[],i,h,u,e,a=>by
  have:=drop_nil h e;exact zh (Al ..) (zk ah<|zc c<|zd<|a _)
 |p::r,i,h,u,e,a=>by
  obtain⟨l,q,o⟩:=drop_cons (d:=(([],[]):AZ)) h;have s:=b p ah;have j:=b (t.getD (i-1) ([],[])) ah;have n:zj .i64 ((i:Int)+1)=((i+1:Nat):Int):=by grind [wr]
  have v:zj .i64 ((i:Int)-1)=((i-1:Nat):Int):=by grind [wr]
  rw[W2]at a;refine zh (Al ..) ?_;conv=>zeta
  rw[v,ze,ze,q,n];have o1:=IN s.2;have f:=IN j.2;have x:=cW s.2 j.2;refine zc ah (zc ah<|zc ah<|zc o1.2<|zc f.2<|zc (Ab o1.1 f.1)<|zf (fun d=>zd ?_)<|fun d=>?_)
  ·have d:DD (frS p.2) (frS (t.getD (i-1) ([],[])).2)<0:=w6 d;grind
  ·have d:¬DD (frS p.2) (frS (t.getD (i-1) ([],[])).2)<0:=w7 d;exact loop g k nx t w m b c r (i+1) o ae l ah
theorem ok:Ae A1 167 cLv:=by
 refine AX (X:=oX) rfl qZ (d:=9) (by rfl) (by rfl) (by rfl) (fun(l:Be) hi=>?_) (Ak ag);have a:=U2 hi;have b:∀e ob,e=KU l->Ac cLv l (.dat i64 e) ob:=fun e ob x=>zr rfl rfl x
 have hp:He 1000000 l.2.2.2.1=true:=by
  unfold He;rw[zl];intro p hp;have:=a.SQ p hp;grind
 have a1:=a.head;have a2:=a.next;have a3:=a.tl;have f:HQ l.2.2.2.2 40 20=true:=by
  unfold HQ;rw[zl];intro p hp;have:=a.wts p hp;grind
 refine zn (Ai l) (zc rfl (zc rfl (zc (Ab (Ab ah rfl) rfl)<|zc (Ab (Ab ah rfl) rfl)<|zc ah<|zc rfl (zf (fun c=>zd<|b _ _ ?_)<|fun c=>?_))))
 ·simp_all [Pu,KU]
 ·have c:(Pu l !=0)=false:=c;have c:Pu l=0:=ah
  have ct:BL l.2.2.2.1=0:=by
   grind [Cm]
  obtain⟨j,_,g⟩:=DK ct;have i:=P2 g;obtain⟨p,r,hr⟩:∃p r,l.2.2.2.1=p::r:=by
   cases e:l.2.2.2.1 with
   |nil=>grind
   |cons p r=>simp
  have h:l.2.2.2.1.getD (1-1) ([],[])=p:=ah
  have up:TB none l.2.2.2.1=TB (some p.2) r:=by rw[hr,TB]
  refine loop _ _ _ _ _ ae i f r 1 ah ae ah<|fun ob=>b _ _ ?_;rw[h, <-up];exact(wc (c:=Pu l≠0) ae).symm
end T167
theorem yT:Cr oK:=Aa T166.zX (by grind [Aa,T60.ok,T91.ok,T204.ok,FM])
namespace T164
theorem loop{Q:PV->Ob->Prop}(l:List EJ)(f:l.length<=1000000):∀(r:List EJ) (i:Nat),l.drop i=r->i<=l.length->(∀ob,Q (.dat i64<|mV r) ob)->Ends oK (L1 l (l.length:Int) (i:Int)) Q
 |[],i,h,j,a=>by
  have:=drop_nil h j;exact zh (Al ..) (zk ah<|zd<|a _)
 |o::r,i,h,j,a=>by
  obtain⟨b,k,g⟩:=drop_cons (d:=(([],0):EJ)) h;have m:zj .i64 ((i:Int)+1)=((i+1:Nat):Int):=by grind [wr]
  rw[yH]at a;refine zh (Al ..) ?_;conv=>zeta
  rw[ze,k,m];refine zc ah (zc ah<|zc rfl (zc rfl (zf (fun d=>zc rfl (zc rfl ?_))<|fun d=>zc rfl (zc rfl ?_))))
  ·have e:Sp.oE o=ym [CB (!Sp.isName o.1) 8,CB true 3]:=by
    simp_all [Sp.oE]
   refine zf (fun c=>zd ?_)<|fun c=>loop l f r (i+1) g b ?_
   ·grind
   grind
  ·have e:Sp.oE o=ym [CB (!Sp.isName o.1) 8,CB (decide (o.2>10)) 3]:=by
    unfold Sp.oE;grind
   refine zf (fun c=>zd ?_)<|fun c=>loop l f r (i+1) g b ?_
   ·grind
   grind
theorem ok:Ae A1 164 mC:=by
 refine AX (X:=oK) rfl yT (d:=9) (by rfl) (by rfl) (by rfl) (fun(s:Bi) hi=>?_) (Ak ag);obtain⟨a1,a2,a3,a4,a5⟩:=PY hi;have f:∀e ob,e=Oe s->Ac mC s (.dat i64 e) ob:=fun e ob x=>zr rfl rfl x
 have b:∀ {a:Bm} {lo h:Int},a.length<=20->HE lo=true->HE h=true->(decide (a.length<=1000000)&&HE lo&&HE h)=true:=ah;have g:VH s=ym [BQ s.1 (-10000) 10000,BQ s.2.1 (-10000) 10000,BQ s.2.2.1 0 10000,BQ s.2.2.2.1 0 10000,CB (decide ((s.2.2.2.2.length:Int)>16)) 5]:=by
  unfold VH;have:decide (16<s.2.2.2.2.length)=decide ((s.2.2.2.2.length:Int)>16):=by
   grind
  rw[this]
 refine zn (Ai s)<|zc (b a1 rfl rfl)<|zc (b a2 rfl rfl)<|zc (b a3 rfl rfl)<|zc (b a4 rfl rfl)<|zc rfl (zc rfl (zf (fun c=>zd<|f _ _ ?_)<|fun c=>?_))
 ·simp_all [Oe]
 ·have e:Oe s=mV s.2.2.2.2:=by
   simp_all [Oe]
  exact loop _ ae _ 0 rfl ae ah
end T164
end Go.Pe
namespace Go.Sp
theorem Mg{α:Type}(l:List α)(m:Nat):Dc (l.length:Int) (m:Int)=if l=[]then 12 else if m<l.length then 5 else 0:=by
 unfold Dc;cases l with
 |nil=>rfl
 |cons x l=>
  rw[wc (by rw[zp];omega),wc<|List.cons_ne_nil x l];by_cases h:m<(x::l).length
  ·rw[wd h,wd ae]
  ·rw[wc h,wc ae]
theorem mJ(c:At):HR c=if Dc (c.1.length:Int) 36≠0 then Dc (c.1.length:Int) 36 else if Lf c.1≠0 then Lf c.1 else VC c:=by
 have e:=Mg c.1 36;have e:Dc (c.1.length:Int) 36=if c.1=[]then 12 else if 36<c.1.length then 5 else 0:=e
 rw[e];unfold HR;by_cases h:c.1=[]
 ·rw[wd h,wd h,wd af]
 ·rw[wc h,wc h];by_cases k:36<c.1.length
  ·rw[wd k,wd k,wd af]
  ·rw[wc k,wc k];exact(wc<|fun x=>x rfl).symm
theorem bH(c:At):VC c=if Dc (c.2.1.length:Int) 8≠0 then Dc (c.2.1.length:Int) 8 else if GZ (c.1.length:Int) [] c.2.1≠0 then GZ (c.1.length:Int) [] c.2.1 else S2 c:=by
 have e:=Mg c.2.1 8;have e:Dc (c.2.1.length:Int) 8=if c.2.1=[]then 12 else if 8<c.2.1.length then 5 else 0:=e
 rw[e];unfold VC;by_cases h:c.2.1=[]
 ·rw[wd h,wd h,wd af]
 ·rw[wc h,wc h];by_cases k:8<c.2.1.length
  ·rw[wd k,wd k,wd af]
  ·rw[wc k,wc k];exact(wc<|fun x=>x rfl).symm
theorem ZJ(c:At):S2 c=if Dc (c.2.2.length:Int) 8≠0 then Dc (c.2.2.length:Int) 8 else Nb [] c.2.2:=by
 have e:=Mg c.2.2 8;have e:Dc (c.2.2.length:Int) 8=if c.2.2=[]then 12 else if 8<c.2.2.length then 5 else 0:=e
 rw[e];unfold S2;by_cases h:c.2.2=[]
 ·rw[wd h,wd h,wd af]
 ·rw[wc h,wc h];by_cases k:8<c.2.2.length
  ·rw[wd k,wd k,wd af]
  ·rw[wc k,wc k];exact(wc<|fun x=>x rfl).symm
theorem Ui(s:Bi)(l:List Bi):Lf (s::l)=if Oe s≠0 then Oe s else Lf l:=by rw[Lf]
def tE(n:Int)(seen:List Bm)(t:Bw)(b:Bool):Int:=first [CB (!isName t.1) 8,CB (has seen t.1) 9,CB ((t.2.length:Int) !=n) 2,CB b 3]
theorem lI(n:Int)(seen:List Bm)(t:Bw)(l:List Bw):GZ n seen (t::l)=if tE n seen t (E9 t.2)≠0 then tE n seen t (E9 t.2)else GZ n (t.1::seen) l:=by
 rw[GZ];unfold tE;rw[Bv,Bv,Bv,Bv,Fl,Fl,Fl,Fl];cases isName t.1
 ·rfl
 ·cases has seen t.1
  ·by_cases h:(t.2.length:Int)=n
   ·rw[show((t.2.length:Int) !=n)=false by simp[h]];cases E9 t.2
    ·rw[wc af,wc af,wc<|fun x=>x h];rfl
    ·rw[wc af,wc af,wc<|fun x=>x h];rfl
   ·rw[show((t.2.length:Int) !=n)=true by simp[h]];rw[wc af,wc af,wd h];rfl
  ·rfl
theorem mN(seen:List Bm)(l:Be)(r:List Be):Nb seen (l::r)=if first [KU l,CB (has seen l.1) 9]≠0 then first [KU l,CB (has seen l.1) 9]else Nb (l.1::seen) r:=by
 rw[Nb,Go.Pe.K3,Fl];cases has seen l.1<;>by_cases h:KU l=0<;>simp[h]
end Go.Sp
namespace Go.Pe
open Sp
open Go.Det
open Go.Sp (At Bi Be AZ EJ Bm Bw)
theorem xM:Cr NB:=Aa T90.ok<|Aa T164.ok<|Aa T166.zX<|Aa T60.ok<|Aa T91.ok<|Aa T167.ok AI
namespace T115
theorem WW(l:List Be)(k:l.length<=1000000)(e:∀x∈l,yg x=true):∀(r:List Be) (i:Nat) (m:List (Bm×Bool)) (seen:List Bm),l.drop i=r->i<=l.length->Jp m (fun x=>x∈seen)->(∀ob,Q (.dat i64<|Nb seen r) ob)->Ends NB (L4 l (l.length:Int) (i:Int) m) Q
 |[],i,m,seen,h,f,b,a=>by
  have:=drop_nil h f;exact zh (BX ..) (zk (w8 ae)<|zd<|a _)
 |p::r,i,m,seen,h,f,b,a=>by
  obtain⟨g,j,o⟩:=drop_cons (d:=(([],[],[],[],[]):Be)) h;have s:=e p (zu<|by rw[h];exact zq ..);have n:=wn (i:=i) ae;rw[mN]at a;refine zh (BX ..) ?_;conv=>zeta
  rw[ze,j,n,Mv b];refine zc (w4 ae) (zc (ad ae ae)<|zc s<|zc rfl (zc rfl (zf (fun c=>zd ?_)<|fun c=>?_)))
  ·have c:(ym [KU p,CB (Sp.has seen p.1) 9] !=0)=true:=c;rw[wd<|by simpa using c]at a;exact a _
  ·have c:(ym [KU p,CB (Sp.has seen p.1) 9] !=0)=false:=c;rw[wc<|by simpa using c]at a;exact WW l k e r (i+1) _ _ o g (QU b p.1) a
theorem Js{g:List Bw}{p k:Int}{o1:List (Bm×Bool)}{C:List Bi}{o:List Bw}{l:List Be}(t:Bw)(w:t.2.length<=1000000)(m:List (Bm×Bool))(seen:List Bm)(s:Jp m (fun x=>x∈seen))(S:List Bi)(q:List Bw)(V:List Be):∀(r:List Int) (j:Nat),t.2.drop j=r->j<=t.2.length->
  (∀ob,Sp.tE (S.length:Int) seen t (E9 r)≠0->Q (.dat i64<|Sp.tE (S.length:Int) seen t<|E9 r) ob)->(Sp.tE (S.length:Int) seen t (E9 r)=0->Ends NB (L2 g p (zj .i64<|k+1) (Iq .str .bool t.1 true m) S q V) Q)->
  Ends NB (L3 g p k o1 C o l t.2 (t.2.length:Int) (j:Int) t.1 t.2 m S q V) Q
 |[],j,h,u,b,a=>by
  have:=drop_nil h u;refine zh (Bo ..) (zk (w8 ae) ?_);rw[Mv s];refine zc rfl (zc rfl (zc rfl (zc rfl (zc rfl (zc rfl (zf (fun c=>zd ?_)<|fun c=>?_))))))
  ·have c:(Sp.tE (S.length:Int) seen t (E9 []) !=0)=true:=c;exact b _ (by simpa using c)
  ·have c:(Sp.tE (S.length:Int) seen t (E9 []) !=0)=false:=c;exact a (by simpa using c)
 |n::r,j,h,u,b,a=>by
  obtain⟨v,A,z⟩:=drop_cons (d:=(0:Int)) h;have y:=wn (i:=j) ae;have B:decide ((j:Int)>=0)=true:=w4 ae;have f:E9 (n::r)=((decide (n<1)||decide (10000<n))||E9 r):=by unfold E9;rw[ye]
  refine zh (Bo ..) ?_;conv=>zeta
  rw[ze,A,y,B,Mv s];refine zc (w4 ae) (zc (Ab (by first|rfl|exact w4 ae)<|w4 ae)<|zf (fun d=>?_)<|fun d=>zf (fun e=>?_)<|fun e=>?_)
  ·rw[d,yn,yn]at f;rw[f]at b a;refine zc rfl (zc rfl (zc rfl (zc rfl (zc rfl (zc rfl (zf (fun c=>zd ?_)<|fun c=>?_))))))
   ·have c:(Sp.tE (S.length:Int) seen t true !=0)=true:=c;exact b _ (by simpa using c)
   ·have c:(Sp.tE (S.length:Int) seen t true !=0)=false:=c;exact a (by simpa using c)
  ·have e:decide (10000<n)=true:=e;rw[e,Bool.or_true,yn]at f;rw[f]at b a;refine zc rfl (zc rfl (zc rfl (zc rfl (zc rfl (zc rfl (zf (fun c=>zd ?_)<|fun c=>?_))))))
   ·have c:(Sp.tE (S.length:Int) seen t true !=0)=true:=c;exact b _ (by simpa using c)
   ·have c:(Sp.tE (S.length:Int) seen t true !=0)=false:=c;exact a (by simpa using c)
  ·have e:decide (10000<n)=false:=e;rw[d,e,ya,ya]at f;rw[f]at b a;exact Js t w m seen s S q V r (j+1) z v b a
theorem C5(c:At)(e:Gc c=true):∀(r:List Bw) (i:Nat) (m:List (Bm×Bool)) (seen:List Bm),c.2.1.drop i=r->i<=c.2.1.length->Jp m (fun x=>x∈seen)->
  (∀ob,Q (.dat i64<|if GZ (c.1.length:Int) seen r≠0 then GZ (c.1.length:Int) seen r else S2 c) ob)->Ends NB (L2 c.2.1 (c.2.1.length:Int) (i:Int) m c.1 c.2.1 c.2.2) Q
 |[],i,m,seen,h,f,b,a=>by
  have:=drop_nil h f;have a:∀ob,Q (.dat i64<|S2 c) ob:=fun ob=>by
   have:=a ob;rwa [show GZ (c.1.length:Int) seen []=0 from rfl,wc<|fun x=>x rfl]at this
  rw[ZJ]at a;refine zh (AA ..) (zk (w8 ae)<|zc rfl (zf (fun d=>zd ?_)<|fun d=>?_))
  ·rw[wd<|by simpa using d]at a;exact a _
  ·rw[wc<|by simpa using d]at a;have s:=HI e;exact WW c.2.2 (by have:=s.2.2.1;omega) s.2.2.2.2.2 c.2.2 0 [] [] rfl (zo _) QT a
 |t::r,i,m,seen,h,f,b,a=>by
  obtain⟨g,j,l⟩:=drop_cons (d:=(([],[]):Bw)) h;have s:=HI e;have st:=s.2.2.2.2.1 t (zu<|by rw[h];exact zq ..);have st:(decide (t.1.length<=40)&&decide (t.2.length<=40))=true:=st;rw[zi,w5,w5]at st;have o:=s.2.1;have k:=wn (i:=i) ae;rw[lI]at a;refine zh (AA ..) ?_;conv=>zeta
  rw[ze,j];refine zc (w4 ae) (zc (ad ae ae) ?_);refine Js t ae m seen b c.1 c.2.1 c.2.2 t.2 0 rfl (zo _) (fun ob d=>?_) (fun d=>?_)
  ·rw[wd d,wd d]at a;exact a _
  ·have n:¬Sp.tE (c.1.length:Int) seen t (E9 t.2)≠0:=fun x=>x d
   rw[wc n]at a;rw[k];exact C5 c e r (i+1) _ _ l g (QU b t.1) a
theorem Dk(c:At)(b:Gc c=true):∀(r:List Bi) (i:Nat),c.1.drop i=r->i<=c.1.length->
  (∀ob,Q (.dat i64<|if Lf r≠0 then Lf r else VC c) ob)->Ends NB (L1 c.1 (c.1.length:Int) (i:Int) c.1 c.2.1 c.2.2) Q
 |[],i,h,e,a=>by
  have:=drop_nil h e;have a:∀ob,Q (.dat i64<|VC c) ob:=fun ob=>by
   have:=a ob;rwa [show Lf []=0 from rfl,wc<|fun x=>x rfl]at this
  rw[bH]at a;refine zh (Al ..) (zk (w8 ae)<|zc rfl (zf (fun d=>zd ?_)<|fun d=>?_))
  ·rw[wd<|by simpa using d]at a;exact a _
  ·rw[wc<|by simpa using d]at a;exact C5 c b c.2.1 0 [] [] rfl (zo _) QT a
 |p::r,i,h,e,a=>by
  obtain⟨f,g,k⟩:=drop_cons (d:=(([],[],[],[],[]):Bi)) h;have s:=HI b;have sp:=s.2.2.2.1 p (zu<|by rw[h];exact zq ..);have m:=s.1;have j:=wn (i:=i) ae;rw[Ui]at a;refine zh (Al ..) ?_;conv=>zeta
  rw[ze,g,j];refine zc (w4 ae) (zc (ad ae ae)<|zc sp<|zf (fun d=>zd ?_)<|fun d=>?_)
  ·have d:(Oe p !=0)=true:=d;have d:Oe p≠0:=by simpa using d
   rw[wd d,wd d]at a;exact a _
  ·have d:(Oe p !=0)=false:=d;have l:¬Oe p≠0:=by simpa using d
   rw[wc l]at a;exact Dk c b r (i+1) k f a
theorem ok:Ae A1 115 cCo:=by
 refine C3 xM<|fun(c:At) a=>?_;have a:Gc c=true:=a;have b:∀e ob,e=HR c->Ac cCo c (.dat i64 e) ob:=fun e ob x=>zr rfl rfl x
 have e:=mJ c;refine zn (Ai c)<|zc rfl (zf (fun d=>zd<|b _ _ ?_)<|fun d=>?_)
 ·rw[wd<|by simpa using d]at e;exact e.symm
 ·rw[wc<|by simpa using d]at e;exact Dk c a c.1 0 rfl (zo _) (fun ob=>b _ _ e.symm)
end T115
end Go.Pe
namespace Go.Sp
theorem q0{x:Int}(h:x=0):(x==0)=true:=by simpa using h
theorem q1{x:Int}(h:x≠0):(x==0)=false:=by simpa using h
theorem n0{x:Int}(h:x=0):(x !=0)=false:=by simpa using h
theorem n1{x:Int}(h:x≠0):(x !=0)=true:=by simpa using h
theorem WO{a:Bm}{n:Int}:CW a (Az (n:Rat))=if Ax a<(n:Rat)then -1 else if (n:Rat)<Ax a then 1 else 0:=by
 unfold CW;rw[EE]
theorem V3(s:Bm)(l:List Bm):Lg s l=if isName s=false then 8 else if s∈l then 9 else 0:=by
 unfold Lg has;by_cases h:s∈l
 ·rw[w4 h,wd h,wd rfl]
 ·rw[w8 h,wc h];cases isName s<;>rfl
theorem XQ{s:Bm}{l:List Bm}(h:isName s=true):Lg s l=if s∈l then 9 else 0:=by rw[V3,h];rfl
theorem AcA{s:Bm}{l:List Bm}(h:isName s=false):Lg s l=8:=by rw[V3,h];rfl
theorem Aa6(s:Bi):VH s=if BQ s.1 (-10000) 10000≠0 then BQ s.1 (-10000) 10000 else if BQ s.2.1 (-10000) 10000≠0 then BQ s.2.1 (-10000) 10000 else if BQ s.2.2.1 0 10000≠0 then BQ s.2.2.1 0 10000 else if BQ s.2.2.2.1 0 10000≠0 then BQ s.2.2.2.1 0 10000 else if 16<s.2.2.2.2.length then 5 else 0:=by
 unfold VH;rw[Bv,Bv,Bv,Bv,Bv,Fl];by_cases h:16<s.2.2.2.2.length
 ·rw[w4 h,wd h];rfl
 ·rw[w8 h,wc h];rfl
end Go.Sp
namespace Go.Pe
open Sp
open Go.Det
open Go.Sp (At Bi Be AZ EJ Bm Bw q0 q1 n0 n1)
theorem oG:Cr Aid:=Aa T78.ok<|Aa T32.ok<|Aa T143.ok<|Aa T148.ok AI
theorem Qh{n:Int}(h:HE n=true):Cn n=true:=by
 unfold HE at h;rw[zi,w5,w5]at h;exact ad ae ae
theorem T110.ok:Ae A1 110 WE:=by
 refine C3 oG<|fun(i:Bm×Int×Int) f=>?_;obtain⟨a,lo,h⟩:=i;have f:(decide (a.length<=1000000)&&HE lo&&HE h)=true:=f;rw[zi,zi,w5]at f;obtain⟨⟨hl,h1⟩,h2⟩:=f;have b:∀e ob,e=BQ a lo h->Ac WE (a,lo,h) (.dat i64 e) ob:=fun e ob x=>zr rfl rfl x
 have L:=OS (n:=lo) (UA h1) af;have H:=OS (n:=h) (UA h2) af;refine zn (T110.Ai a lo h) ?_;conv=>zeta
 rw[RE,RE,WO,WO];refine zc (w4 hl)<|zf (fun c=>?_)<|fun c=>zd<|b _ _ ?_
 ·have c:Ao a=0:=by simpa using c
  have nb:=(Dv c).1;refine zc (Qh h1) (zc (Qg<|Qh h1)<|zc (Ab nb<|L.BV af)<|zf (fun d=>zd<|b _ _ ?_)<|fun d=>zc (Qh h2)<|zc (Qg<|Qh h2)<|zc (Ab nb<|H.BV af)<|zf (fun e=>zd<|b _ _ ?_)<|fun e=>zd<|b _ _ ?_);all_goals rw[V7 c]
  ·have d:=w6 d;by_cases k:Ax a<(lo:Rat)
   ·rw[wd<|.inl k]
   ·rw[wc k]at d;split at d<;>exact wh d af
  ·have e:=w6 e;by_cases k:(h:Rat)<Ax a
   ·rw[wd<|.inr k]
   ·rw[wc k]at e;split at e<;>exact wh e af
  ·have d:=w7 d;have e:=w7 e;rw[wc,c];rintro(k|k)
   ·rw[wd k]at d;exact d af
   ·by_cases g:Ax a<(h:Rat)
    ·exact wh (Std.lt_trans k g) ah
    ·rw[wc g,wd k]at e;exact e af
 ·have c:Ao a≠0:=by simpa using c
  exact(W3 c).symm
theorem oO:Cr Aba:=Aa T111.ok AI
namespace T47
theorem loop{Q:PV->Ob->Prop}(s:Bm)(l:List Bm)(j:l.length<=1000):∀(r:List Bm) (i:Nat),l.drop i=r->i<=l.length->(∀ob,Q (.dat i64<|if s∈r then 9 else 0) ob)->Ends Aba (L1 s l (i:Int)) Q
 |[],i,h,b,a=>by
  have:=drop_nil h b;exact zh (Al ..) (zk (w8 ae)<|zd<|a _)
 |x::r,i,h,b,a=>by
  obtain⟨f,g,n⟩:=drop_cons (d:=([]:Z)) h;have m:=wn (i:=i) ae;refine zh (Al ..) ?_;conv=>zeta
  rw[ze,g,m];refine zc (w4 ae) (zc (ad ae ae)<|zf (fun c=>zd ?_)<|fun c=>loop s l j r (i+1) n f ?_)
  ·have c:x=s:=by simpa using c
   rw[wd<|by rw[c];exact zq ..]at a;exact a _
  ·have c:x≠s:=by simpa using c
   have e:(s∈x::r)=(s∈r):=by
    apply propext;rw[zy];exact⟨fun k=>k.resolve_left fun k=>c k.symm,.inr⟩
   simp only[e]at a;exact a
theorem ok:Ae A1 47 Uv:=by
 refine C3 oO<|fun(i:Bm×List Bm) a=>?_;obtain⟨s,l⟩:=i;have a:decide (l.length<=1000)=true:=a;have b:∀e ob,e=Lg s l->Ac Uv (s,l) (.dat i64 e) ob:=fun e ob x=>zr rfl rfl x
 refine zn (Ai s l)<|zc rfl (zf (fun c=>zd<|b _ _ ?_)<|fun c=>?_)
 ·exact(AcA<|by simpa using c).symm
 ·exact loop s l (w6 a) l 0 rfl (zo _) (fun ob=>b _ _ (XQ<|by simpa using c).symm)
end T47
theorem qG:Cr AaG:=Aa T110.ok<|Aa T111.ok AI
namespace T46
theorem loop{Q:PV->Ob->Prop}(a b c d:Bm)(l:List EJ)(p:l.length<=1000000):∀(r:List EJ) (i:Nat),l.drop i=r->i<=l.length->(∀ob,Q (.dat i64<|mV r) ob)->Ends AaG (L1 (i:Int) a b c d l) Q
 |[],i,h,j,f=>by
  have:=drop_nil h j;exact zh (Al ..) (zk (w8 ae)<|zd<|f _)
 |o::r,i,h,j,f=>by
  obtain⟨k,m,s⟩:=drop_cons (d:=(([],0):EJ)) h;have q:=wn (i:=i) ae;have g:=nb (i:=i) (n:=l.length) ae;rw[mV]at f;refine zh (Al ..) ?_;conv=>zeta
  rw[ze,m,q];refine zc (w4 ae)<|zc g<|zc rfl (zf (fun c=>zd ?_)<|fun c=>zc g<|zf (fun d=>zd ?_)<|fun d=>zc g<|zf (fun e=>zd ?_)<|fun e=>loop _ _ _ _ l p r (i+1) s k ?_)
  ·rw[wd<|by simpa using c]at f;exact f _
  ·rw[wc (by simpa using c),wd<|.inl<|w6 d]at f;exact f _
  ·rw[wc (by simpa using c),wd<|.inr<|w6 e]at f;exact f _
  ·rw[wc (by simpa using c),wc<|not_or.2 ⟨w7 d,w7 e⟩]at f;exact f
theorem ok:Ae A1 46 mC:=by
 refine C3 qG<|fun(s:Bi) hi=>?_;obtain⟨a1,a2,a3,a4,a5⟩:=PY hi;have g:∀e ob,e=Oe s->Ac mC s (.dat i64 e) ob:=fun e ob x=>zr rfl rfl x
 have j:∀ {a:Bm} {lo h:Int},a.length<=20->HE lo=true->HE h=true->(decide (a.length<=1000000)&&HE lo&&HE h)=true:=fun k x y=>Ab (Ab (w4 ae) x) y
 have b:=Aa6 s;have bad:∀x:Int,x≠0->VH s=x->x=Oe s:=fun x h k=>by
  unfold Oe;rw[k,wd h]
 refine zn (Ai s) ?_;conv=>zeta
 by_cases d:BQ s.1 (-10000) 10000=0
 ·rw[wc<|fun x=>x d]at b;refine zc (j a1 rfl rfl)<|zc (q0 d)<|zc (j a2 rfl rfl) ?_;by_cases f:BQ s.2.1 (-10000) 10000=0
  ·rw[wc<|fun x=>x f]at b;refine zc (q0 f)<|zc (j a3 rfl rfl) ?_;by_cases i:BQ s.2.2.1 0 10000=0
   ·rw[wc<|fun x=>x i]at b;refine zc (q0 i)<|zc (j a4 rfl rfl) ?_;by_cases l:BQ s.2.2.2.1 0 10000=0
    ·rw[wc<|fun x=>x l]at b;refine zk (n0 l)<|zf (fun c=>zd<|g _ _ ?_)<|fun c=>?_
     ·have c:=w6 c;rw[wd ae]at b;exact bad 5 af b
     ·have c:=w7 c;rw[wc ae]at b;have e:Oe s=mV s.2.2.2.2:=by
       unfold Oe;rw[wc<|fun x=>x b]
      exact loop _ _ _ _ _ ae _ 0 rfl (zo _) (fun ob=>g _ _ e.symm)
    ·rw[wd l]at b;exact zc (n1 l)<|zd<|g _ _<|bad _ l b
   ·rw[wd i]at b;exact zk (q1 i)<|zc (n1 i)<|zd<|g _ _<|bad _ i b
  ·rw[wd f]at b;exact zk (q1 f)<|zk (q1 f)<|zc (n1 f)<|zd<|g _ _<|bad _ f b
 ·rw[wd d]at b;exact zc (j a1 rfl rfl)<|zk (q1 d)<|zk (q1 d)<|zk (q1 d)<|zc (n1 d)<|zd<|g _ _<|bad _ d b
end T46
end Go.Pe
namespace Go.Sp
theorem eW(l:Be):Pu l=if isName l.1=false then 8 else if BQ l.2.1 1 10000≠0 then BQ l.2.1 1 10000 else if BQ l.2.2.1 1 10000≠0 then BQ l.2.2.1 1 10000 else BL l.2.2.2.1:=by
 unfold Pu;rw[Bv,Bv,Bv,Bv,Fl];have t:(if BL l.2.2.2.1≠0 then BL l.2.2.2.1 else first [])=BL l.2.2.2.1:=by
  by_cases h:BL l.2.2.2.1=0
  ·rw[h];rfl
  ·rw[wd h]
 rw[t];cases isName l.1
 ·rfl
 ·rfl
theorem Qr{u:Bm}(h:Ao u=0):Gr u<0↔Ax u<0:=by
 have t:=(N9 h).1;have k:=Od<|Ax u;rw[t]at k;rw[k, <-(neg_num<|Ax u).1];unfold Pm;constructor
 ·intro x;split at x
  ·omega
  ·split at x<;>omega
 ·intro x;rw[wd x];decide
theorem sD{seen:List Bm}{w:AZ}{l:List AZ}{o:List Bm}(h:∀x,x∈o↔x∈seen):YW seen (w::l)=if Lg w.1 o≠0 then Lg w.1 o else if Ao w.2≠0 then Ao w.2 else if Ax w.2<0 then 3 else YW (w.1::seen) l:=by
 rw[YW,V3];unfold has;cases isName w.1
 ·rfl
 ·by_cases k:w.1∈o
  ·rw[w4<|(h _).1 k,wd k];rfl
  ·rw[w8<|fun x=>k<|(h _).2 x,wc k];rfl
theorem uY{o seen:List Bm}(h:∀x,x∈o↔x∈seen)(k:Bm):∀x,x∈o++[k]↔x∈k::seen:=fun x=>by
 rw[List.mem_append,List.mem_singleton,zy,h x];exact Or.comm
end Go.Sp
namespace Go.Pe
open Sp
open Go.Det
open Go.Sp (At Bi Be AZ EJ Bm Bw q0 q1 n0 n1)
theorem yM:Cr Tc:=Aa T111.ok<|Aa T110.ok<|Aa T112.ok<|Aa T32.ok<|Aa T47.ok<|Aa T78.ok<|Aa T87.ok AI
theorem jC{C:Ctx}{f:FuncId}{ins outs:List Sh}{p q:(BF ins).T->Bool}{g:(BF ins).T->(BF outs).T}{nd:Bool}(h:Ae C f ⟨ins,p,outs,g,nd⟩)(j:∀i,q i=true->p i=true):Ae C f ⟨ins,q,outs,g,nd⟩:=by
 rcases h with h|⟨x,k,hr⟩
 ·exact .inl ⟨h.prim,h.fn,fun F m args i a b c d e=>h.run F m args i a b c d<|j i e⟩
 ·exact .inr ⟨x,k,fun F m args i a e=>hr F m args i a<|j i e⟩
namespace T48
theorem Js(m q nx:Bm)(t w:List AZ)(v:w.length<=16)(l:∀p∈w,p.2.length<=1000000):∀(r:List AZ) (i n:Nat) (o seen:List Bm),w.drop i=r->i<=w.length->n=o.length->n=i->(∀x,x∈o↔x∈seen)->(∀ob,Q (.dat i64<|YW seen r) ob)->Ends Tc (L3 n (i:Int) o m q nx t w) Q
 |[],i,n,o,seen,h,j,f,b,g,a=>by
  have:=drop_nil h j;exact zh (Bo ..) (zk (w8 ae)<|zd<|a _)
 |p::r,i,n,o,seen,h,j,f,b,g,a=>by
  obtain⟨u,B,z⟩:=drop_cons (d:=(([],[]):AZ)) h;have s:=l p (zu<|by rw[h];exact zq ..);have y:=wn (i:=i) ae;have e:=nb (i:=i) (n:=w.length) ae;have tk:List.take n o=o:=by rw[f,yd]
  rw[sD g]at a;refine zh (Bo ..) ?_;conv=>zeta
  rw[ze,B,y,tk];have pn:(decide (0+n<=o.length)&&true&&decide (o.length<=1000))=true:=Ab (Ab (w4 ae) rfl) (w4 ae);have A:(decide (1<=1)&&true&&decide (n=o.length)&&decide ((3*(n+1)+2000)*16<=562949953421312))=true:=Ab (Ab (Ab rfl rfl)<|w4 f) (w4 ae);refine zc (w4 ae)<|zc e<|zc pn ?_;by_cases c:Lg p.1 o=0
  ·rw[wc<|fun x=>x c]at a;refine zc (q0 c)<|zc e<|zc (w4 s) ?_;by_cases d:Ao p.2=0
   ·rw[wc<|fun x=>x d]at a;refine zc (q0 d)<|zc e<|zc (w4 s)<|zf (fun k=>zc rfl (zd ?_))<|fun k=>zk (n0 d)<|zc e<|zc A ?_
    ·rw[wd<|(Qr d).1<|w6 k]at a;exact a _
    ·rw[wc fun x=>w7 k<|(Qr d).2 x]at a;exact Js m q nx t w v l r (i+1) (z7 n 1) (o++[p.1]) (p.1::seen) z u (by rw[List.length_append,f];rfl) (by rw[b]) (uY g p.1) a
   ·rw[wd d]at a;exact zk (q1 d)<|zc (n1 d)<|zd<|a _
  ·rw[wd c]at a;exact zk (q1 c)<|zk (q1 c)<|zc (n1 c)<|zd<|a _
theorem C5(f g nx:Bm)(t w:List AZ)(h:w.length<=16)(e:∀p∈w,p.2.length<=1000000)(a:∀ob,Q (.dat i64<|YW [] w) ob):Ends Tc (L2 0 f g nx t w) Q:=by
 cases w with
 |nil=>exact zh (AA ..)<|zk rfl (zd<|a _)
 |cons p r=>
  have s:=e p<|zq ..;have i:zj .i64 ((0:Int)+1)=((1:Nat):Int):=rfl;have l:(p::r).getD (z6 0) ([],[])=p:=rfl;have b:(decide ((0:Int)<=(0:Int))&&decide ((0:Int)<((p::r).length:Int)))=true:=Ab rfl (w4<|by rw[zp];omega);have m:∀x:Bm,x∈([]:List Bm)↔x∈([]:List Bm):=fun x=>Iff.rfl
  rw[sD m]at a;refine zh (AA ..) ?_;conv=>zeta
  rw[l,i];have j:(decide (1<=1)&&decide (0<1)&&decide ((3*1+2000)*16<=562949953421312))=true:=Ab (Ab rfl rfl) (w4 ae);refine zc (w4<|by rw[zp];omega)<|zc b<|zc rfl ?_;by_cases c:Lg p.1 []=0
  ·rw[wc<|fun x=>x c]at a;refine zc (q0 c)<|zc b<|zc (w4 s) ?_;by_cases d:Ao p.2=0
   ·rw[wc<|fun x=>x d]at a;refine zc (q0 d)<|zc b<|zc (w4 s)<|zf (fun k=>zc rfl (zd ?_))<|fun k=>zk (n0 d)<|zc b<|zc j ?_
    ·rw[wd<|(Qr d).1<|w6 k]at a;exact a _
    ·rw[wc fun x=>w7 k<|(Qr d).2 x]at a;exact Js f g nx t (p::r) h e r 1 1 [p.1] [p.1] rfl (by rw[zp];omega) rfl rfl (fun x=>Iff.rfl) a
   ·rw[wd d]at a;exact zk (q1 d)<|zc (n1 d)<|zd<|a _
  ·rw[wd c]at a;exact zk (q1 c)<|zk (q1 c)<|zc (n1 c)<|zd<|a _
theorem Dk(e b nx:Bm)(t w:List AZ)(m:t.length<=1000)(f:∀p∈t,Ao p.1=0/\Ao p.2=0)(k:∀p∈w,p.2.length<=1000000):∀(r:List AZ) (i:Nat),t.drop i=r->1<=i->i<=t.length->(∀ob,Q (.dat i64<|if TB (some (t.getD (i-1) ([],[])).2) r≠0 then TB (some (t.getD (i-1) ([],[])).2) r else OB w) ob)->Ends Tc (L1 (i:Int) e b nx t w) Q
 |[],i,h,q,g,a=>by
  have:=drop_nil h g;have a:∀ob,Q (.dat i64<|OB w) ob:=fun ob=>by
   have:=a ob;rwa [show TB (some (t.getD (i-1) ([],[])).2) []=0 from rfl,wc<|fun x=>x rfl]at this
  unfold OB at a;refine zh (Al ..) (zk (w8 ae)<|zf (fun c=>zd ?_)<|fun c=>?_)
  ·have c:=w6 c;rw[wd ae]at a;exact a _
  ·have c:=w7 c;rw[wc ae]at a;exact C5 e b nx t w ae k a
 |p::r,i,h,q,g,a=>by
  obtain⟨l,j,o⟩:=drop_cons (d:=(([],[]):AZ)) h;have s:=f p (zu<|by rw[h];exact zq ..);have u:=f (t.getD (i-1) ([],[])) (Gw ae);have n:=wn (i:=i) ae;have v:zj .i64 ((i:Int)-1)=((i-1:Nat):Int):=by rw[wr _ ae ae];omega
  rw[W2]at a;refine zh (Al ..) ?_;conv=>zeta
  rw[v,ze,ze,j,n];refine zc (w4 ae) (zc (ad ae ae) (zc (ad ae ae) (zc (Ab (Dv s.2).1<|(MP u.2).BV af)<|zf (fun d=>zd ?_)<|fun d=>?_)))
  ·rw[wd<|w6 d,wd af]at a;exact a _
  ·rw[wc<|w7 d]at a;exact Dk e b nx t w m f k r (i+1) o ae l (by rw[Nat.add_sub_cancel,j];exact a)
theorem okM:Ae A1 48 AfB:=by
 refine C3 yM<|fun(l:Be) hi=>?_;have j:=Abp hi;have i:∀e ob,e=KU l->Ac AfB l (.dat i64 e) ob:=fun e ob x=>zr rfl rfl x
 have hp:He 1000000 l.2.2.2.1=true:=by
  unfold He;rw[zl];intro p hp;have:=j.SQ p hp;exact ad ae ae
 have a1:=j.head;have a2:=j.next;have a3:=j.tl;have n:∀p∈l.2.2.2.2,p.2.length<=1000000:=fun p hp=>by have:=j.wts p hp;omega
 have m:∀ {a:Bm},a.length<=20->(decide (a.length<=1000000)&&HE 1&&HE 10000)=true:=fun k=>Ab (Ab (w4 ae) rfl) rfl
 have pt:(decide (l.2.2.2.1.length<=1000)&&He 1000000 l.2.2.2.1)=true:=Ab (w4 ae) hp;have b:=eW l;have bad:∀x:Int,x≠0->Pu l=x->x=KU l:=fun x h k=>by
  unfold KU;rw[k,wd h]
 refine zn (Ai l)<|zc rfl (zf (fun c=>zd<|i _ _ ?_)<|fun c=>zc (m a1) ?_)
 ·have c:Sp.isName l.1=false:=by simpa using c
  rw[wd c]at b;exact bad 8 af b
 have c:¬Sp.isName l.1=false:=by simpa using c
 rw[wc c]at b;by_cases f:BQ l.2.1 1 10000=0
 ·rw[wc<|fun x=>x f]at b;refine zc (q0 f)<|zc (m a2) ?_;by_cases g:BQ l.2.2.1 1 10000=0
  ·rw[wc<|fun x=>x g]at b;refine zc (q0 g) (zc pt<|zf (fun d=>zd<|i _ _<|bad _ (by simpa using d) b)<|fun d=>?_);have ct:BL l.2.2.2.1=0:=by simpa using d
   rw[ct]at b;obtain⟨s,_,o⟩:=DK ct;obtain⟨p,r,hr⟩:∃p r,l.2.2.2.1=p::r:=by
    cases e:l.2.2.2.1 with
    |nil=>exact wh e s
    |cons p r=>exact⟨p,r,rfl⟩
   have q:l.2.2.2.1.getD (1-1) ([],[])=p:=by rw[hr];rfl
   have up:TB none l.2.2.2.1=TB (some p.2) r:=by rw[hr,TB]
   refine Dk _ _ _ _ _ ae (P2 o) n r 1 (by rw[hr];rfl) ae (by rw[hr,zp];omega)<|fun ob=>i _ _ ?_;rw[q, <-up];exact(wc (c:=Pu l≠0)<|fun x=>x b).symm
  ·rw[wd g]at b;exact zk (q1 g)<|zc (n1 g)<|zd<|i _ _<|bad _ g b
 ·rw[wd f]at b;exact zk (q1 f)<|zk (q1 f)<|zc (n1 f)<|zd<|i _ _<|bad _ f b
end T48
end Go.Pe
namespace Go.Sp
theorem bZ{n:Int}{seen:List Bm}{t:Bw}{l:List Bw}{o:List Bm}(h:∀x,x∈o↔x∈seen):GZ n seen (t::l)=if Lg t.1 o≠0 then Lg t.1 o else if (t.2.length:Int)≠n then 2 else if E9 t.2=true then 3 else GZ n (t.1::seen) l:=by
 rw[GZ,V3];unfold has;grind
theorem qC{l:Be}(h:KU l=0):isName l.1=true:=by
 cases k:isName l.1 with
 |true=>rfl
 |false=>
  simp_all [eW,KU]
theorem cC{seen:List Bm}{l:Be}{r:List Be}{o:List Bm}(h:∀x,x∈o↔x∈seen):Nb seen (l::r)=if KU l≠0 then KU l else if Lg l.1 o≠0 then Lg l.1 o else Nb (l.1::seen) r:=by
 simp_all [Nb,XQ,qC,has]
theorem TJ(n:Int)(r:List Int):E9 (n::r)=((decide (n<1)||decide (10000<n))||E9 r):=by rfl
end Go.Sp
namespace Go.Pe
open Sp
open Go.Det
open Go.Sp (At Bi Be AZ EJ Bm Bw q0 q1 n0 n1)
theorem nN:Cr Fk:=Aa T46.ok<|Aa T47.ok<|Aa T48.okM AI
theorem Ml{α:Type}{X:AG}{Q:PV->Ob->Prop}{l:List α}{m:Nat}{e:Int}{s1 s2:Ob}{t:Tr}(b:∀ob,Q (.dat i64<|if l=[]then 12 else if m<l.length then 5 else e) ob)(a:l≠[]->l.length<=m->(∀ob,Q (.dat i64 e) ob)->Ends X t Q):
  Ends X (.ite ((l.length:Int)==0) (.leaf (.dat i64 12) s1)<|.ite (decide ((l.length:Int)>(m:Int))) (.leaf (.dat i64 5) s2) t) Q:=by
 refine zf (fun c=>zd ?_)<|fun c=>zf (fun d=>zd ?_)<|fun d=>?_
 ·simp_all
 ·grind
 grind
namespace T10
theorem AdU(S:List Bi)(f:List Bw)(l:List Be)(q:l.length<=8)(k:∀x∈l,LN x=true):∀(r:List Be) (i n:Nat) (o seen:List Bm),l.drop i=r->i<=l.length->n=o.length->n=i->(∀x,x∈o↔x∈seen)->(∀ob,Q (.dat i64<|Nb seen r) ob)->Ends Fk (L6 n (i:Int) o S f l) Q
 |[],i,n,o,seen,h,g,u,b,j,a=>by
  have:=drop_nil h g;exact zh (CL ..) (zk ah<|zd<|a _)
 |p::r,i,n,o,seen,h,g,u,b,j,a=>by
  obtain⟨m,y,v⟩:=drop_cons (d:=(([],[],[],[],[]):Be)) h;have s:=k p ah;have t:zj .i64 ((i:Int)+1)=((i+1:Nat):Int):=by grind [wr]
  have e:(decide ((0:Int)<=(i:Int))&&decide ((i:Int)<(l.length:Int)))=true:=ah;have tk:List.take n o=o:=ah
  rw[cC j]at a;refine zh (CL ..) ?_;conv=>zeta
  rw[ze,y,t,tk];have pn:(decide (0+n<=o.length)&&true&&decide (o.length<=1000))=true:=ah;have w:(decide (1<=1)&&true&&decide (n=o.length)&&decide ((3*(n+1)+2000)*16<=562949953421312))=true:=ah;refine zc ah<|zc e<|zc s ?_;by_cases c:KU p=0
  ·rw[wc<|fun x=>x c]at a;refine zc (q0 c)<|zc e<|zc pn<|zf (fun d=>zd ?_)<|fun d=>zc e<|zc w ?_
   ·grind
   ·rw[wc ah]at a;exact AdU S f l q k r (i+1) (z7 n 1) (o++[p.1]) (p.1::seen) v m ah (by rw[b]) ah a
  simp_all
theorem WW(S:List Bi)(e:List Bw)(l:List Be)(i:l.length<=8)(f:∀x∈l,LN x=true)(a:∀ob,Q (.dat i64<|Nb [] l) ob):Ends Fk (L4 0 S e l) Q:=by
 cases l with
 |nil=>exact zh (BX ..)<|zk rfl (zd<|a _)
 |cons p r=>
  have s:=f p (by simp);have b:(decide ((0:Int)<=(0:Int))&&decide ((0:Int)<((p::r).length:Int)))=true:=(by simp);have h:∀x:Bm,x∈([]:List Bm)↔x∈([]:List Bm):=(by simp);rw[cC h]at a;refine zh (BX ..) ?_;conv=>zeta
  have g:(decide (1<=1)&&decide (0<1)&&decide ((3*1+2000)*16<=562949953421312))=true:=(by rfl);refine zc (by simp)<|zc b<|zc s ?_;by_cases c:KU p=0
  ·rw[wc<|fun x=>x c]at a;refine zc (q0 c)<|zc b<|zc rfl (zf (fun d=>zd ?_)<|fun d=>zc b<|zc g ?_)
   ·grind
   ·rw[wc ah]at a;exact AdU S e (p::r) i f r 1 1 [p.1] [p.1] rfl (by simp) rfl rfl (by simp) a
  simp_all
theorem Ace{n:Nat}{i e j:Int}{t:Bw}{o:List Bm}{S:List Bi}{a:List Bw}{V:List Be}(b:e≠0)(c:∀ob,Q (.dat i64 e) ob):Ends Fk (L7 n i e j t.1 t.2 o S a V) Q:=
 (by simp_all [zh,C6])
theorem Ac5{i e j:Int}{t:Bw}{S:List Bi}{a:List Bw}{V:List Be}(b:e≠0)(c:∀ob,Q (.dat i64 e) ob):Ends Fk (L3 i e j t.1 t.2 S a V) Q:=
 (by simp_all [zh,Bo])
theorem Adk{n:Nat}{i:Int}{t:Bw}{o:List Bm}{S:List Bi}{e:List Bw}{V:List Be}(u:n=o.length)(m:n<=1000)(q:t.2.length<=4611686018427387904)(p:E9 t.2=true->∀ob,Q (.dat i64 3) ob)(b:E9 t.2=false->Ends Fk (L5 (z7 n 1) (zj .i64<|i+1) (o++[t.1]) S e V) Q):∀(r:List Int) (j:Nat),t.2.drop j=r->j<=t.2.length->E9 t.2=E9 r->Ends Fk (L7 n i 0 (j:Int) t.1 t.2 o S e V) Q
 |[],j,h,f,a=>by
  have:=drop_nil h f;refine zh (C6 ..) (zk ah<|zk rfl (zc ?_<|b a));grind
 |x::r,j,h,f,a=>by
  obtain⟨k,l,v⟩:=drop_cons (d:=(0:Int)) h;have s:zj .i64 ((j:Int)+1)=((j+1:Nat):Int):=by grind [wr]
  have g:(decide ((0:Int)<=(j:Int))&&decide ((j:Int)<(t.2.length:Int)))=true:=ah;rw[TJ]at a;refine zh (C6 ..) ?_;conv=>zeta
  rw[ze,l,s];refine zc ah<|zc rfl (zc g<|zf (fun c=>?_)<|fun c=>zc g<|zf (fun d=>?_)<|fun d=>?_)
  ·simp_all [Ace]
  ·simp_all [Ace]
  ·rw[c,d,ya,ya]at a;exact Adk u m q p b r (j+1) v k a
theorem Js{i:Int}{t:Bw}{S:List Bi}{e:List Bw}{V:List Be}(n:t.2.length<=4611686018427387904)(m:E9 t.2=true->∀ob,Q (.dat i64 3) ob)(b:E9 t.2=false->Ends Fk (L5 1 (zj .i64<|i+1) [t.1] S e V) Q):∀(r:List Int) (j:Nat),t.2.drop j=r->j<=t.2.length->E9 t.2=E9 r->Ends Fk (L3 i 0 (j:Int) t.1 t.2 S e V) Q
 |[],j,h,f,a=>by
  have:=drop_nil h f;refine zh (Bo ..) (zk ah<|zk rfl (zc ?_<|b a));rfl
 |x::r,j,h,f,a=>by
  obtain⟨k,l,p⟩:=drop_cons (d:=(0:Int)) h;have o:zj .i64 ((j:Int)+1)=((j+1:Nat):Int):=by grind [wr]
  have g:(decide ((0:Int)<=(j:Int))&&decide ((j:Int)<(t.2.length:Int)))=true:=ah;rw[TJ]at a;refine zh (Bo ..) ?_;conv=>zeta
  rw[ze,l,o];refine zc ah<|zc rfl (zc g<|zf (fun c=>?_)<|fun c=>zc g<|zf (fun d=>?_)<|fun d=>?_)
  ·simp_all [Ac5]
  ·simp_all [Ac5]
  ·rw[c,d,ya,ya]at a;exact Js n m b r (j+1) p k a
theorem AdN(c:At)(l:iO c=true)(v:c.2.1.length<=8):∀(r:List Bw) (i n:Nat) (o seen:List Bm),c.2.1.drop i=r->i<=c.2.1.length->n=o.length->n=i->(∀x,x∈o↔x∈seen)->(∀ob,Q (.dat i64<|if GZ (c.1.length:Int) seen r≠0 then GZ (c.1.length:Int) seen r else S2 c) ob)->Ends Fk (L5 n (i:Int) o c.1 c.2.1 c.2.2) Q
 |[],i,n,o,seen,h,g,e,b,j,a=>by
  have:=drop_nil h g;refine zh (Dl ..) (zk ah<|Ml (m:=8) a fun _ A p=>?_);grind [WW,RO]
 |t::r,i,n,o,seen,h,g,e,b,j,a=>by
  obtain⟨q,z,w⟩:=drop_cons (d:=(([],[]):Bw)) h;have st:=(RO l).2.2.2.2.1 t ah;have st:decide (t.2.length<=4611686018427387904)=true:=st;rw[w5]at st;have u:zj .i64 ((i:Int)+1)=((i+1:Nat):Int):=by grind [wr]
  have s:(decide ((0:Int)<=(i:Int))&&decide ((i:Int)<(c.2.1.length:Int)))=true:=ah;have tk:List.take n o=o:=ah
  have pn:(decide (0+n<=o.length)&&true&&decide (o.length<=1000))=true:=ah;rw[bZ j]at a;refine zh (Dl ..) ?_;conv=>zeta
  rw[ze,z,tk];refine zc ah<|zc s<|zc pn ?_;by_cases k:Lg t.1 o=0
  ·have y:¬Lg t.1 o≠0:=fun x=>x k
   rw[wc y]at a;refine zc (q0 k)<|zf (fun d=>?_)<|fun d=>?_
   ·simp_all [Ace]
   ·have d:¬(t.2.length:Int)≠(c.1.length:Int):=ah
    rw[wc d]at a;rw[k];refine Adk e ae st (fun f=>?_) (fun f=>?_) t.2 0 rfl ae rfl
    ·grind
    ·rw[wc (c:=E9 t.2=true) ah]at a;rw[u];exact AdN c l v r (i+1) (z7 n 1) (o++[t.1]) (t.1::seen) w q ah (by rw[b]) ah a
  simp_all [Ace]
theorem C5(c:At)(e:iO c=true)(i:c.2.1.length<=8)(a:∀ob,Q (.dat i64<|if GZ (c.1.length:Int) [] c.2.1≠0 then GZ (c.1.length:Int) [] c.2.1 else S2 c) ob):Ends Fk (L2 0 c.1 c.2.1 c.2.2) Q:=by
 obtain⟨S,tt,V⟩:=c;cases tt with
 |nil=>
  refine zh (AA ..)<|zk rfl (Ml (m:=8) a fun _ g b=>?_);exact WW _ _ _ g (RO e).2.2.2.2.2 b
 |cons t r=>
  have st:=(RO e).2.2.2.2.1 t (by simp);have st:decide (t.2.length<=4611686018427387904)=true:=st;rw[w5]at st;have l:(t::r).getD (z6 0) ([],[])=t:=rfl;have h:(decide ((0:Int)<=(0:Int))&&decide ((0:Int)<((t::r).length:Int)))=true:=(by simp);have n:∀x:Bm,x∈([]:List Bm)↔x∈([]:List Bm):=(by simp);rw[bZ n]at a;refine zh (AA ..) ?_;conv=>zeta
  rw[l];refine zc (by simp)<|zc h<|zc rfl ?_;by_cases k:Lg t.1 []=0
  ·have j:¬Lg t.1 []≠0:=fun x=>x k
   rw[wc j]at a;refine zc (q0 k)<|zf (fun d=>?_)<|fun d=>?_
   ·simp_all [Ac5]
   ·have d:¬(t.2.length:Int)≠(S.length:Int):=ah
    rw[wc d]at a;rw[k];refine Js st (fun f=>?_) (fun f=>?_) t.2 0 rfl ae rfl
    ·grind
    ·rw[wc (c:=E9 t.2=true) ah]at a;exact AdN (S,t::r,V) e i r 1 1 [t.1] [t.1] rfl (by simp) rfl rfl (by simp) a
  simp_all [Ac5]
theorem Dk(c:At)(e:iO c=true):∀(r:List Bi) (i:Nat),c.1.drop i=r->i<=c.1.length->
  (∀ob,Q (.dat i64<|if Lf r≠0 then Lf r else VC c) ob)->Ends Fk (L1 (i:Int) c.1 c.2.1 c.2.2) Q
 |[],i,h,f,a=>by
  have:=drop_nil h f;refine zh (Al ..) (zk ah<|Ml (m:=8) a fun _ k b=>?_);exact C5 c e k b
 |p::r,i,h,f,a=>by
  obtain⟨g,j,n⟩:=drop_cons (d:=(([],[],[],[],[]):Bi)) h;have s:=RO e;have sp:=s.2.2.2.1 p ah;have l:zj .i64 ((i:Int)+1)=((i+1:Nat):Int):=by grind [wr]
  rw[Ui]at a;refine zh (Al ..) ?_;conv=>zeta
  rw[ze,j,l];refine zc ah (zc ah<|zc sp<|zf (fun d=>zd ?_)<|fun d=>?_)
  ·grind
  ·have o:¬Oe p≠0:=ah
   rw[wc o]at a;exact Dk c e r (i+1) n g a
theorem okM:Ae A1 10 Ae9:=by
 refine AX (X:=Fk) rfl nN (d:=9) (by rfl) (by rfl) (by rfl) (fun(c:At) hi=>?_) (Ak ag);have b:∀ob,Ac Ae9 c (.dat i64<|HR c) ob:=fun ob=>zr rfl rfl rfl
 refine zn (Ai c)<|Ml (m:=36) b fun _ _ a=>?_;exact Dk c hi c.1 0 rfl ae a
theorem ok:Ae A1 10 cCo:=jC okM fun _ h=>Aet h
end T10
end Go.Pe
namespace Go.Sp
theorem Tt(p:AZ)(l:List AZ)(n m:Nat):HQ (p::l) n m=((decide (p.1.length<=n)&&decide (p.2.length<=m))&&HQ l n m):=by unfold HQ;rw[zz]
end Go.Sp
namespace Go.Pe
open Sp
open Go.Det
open Go.Sp (At Bi Be AZ EJ Bm Bw q0 q1 n0 n1)
theorem WY:Cr E6:=fun g sp h=>by cases h
namespace T45
theorem C5(e g nx:Bm)(t w:List AZ)(k:w.length<=20):∀(r:List AZ) (i:Nat),w.drop i=r->i<=w.length->(∀ob,Q (.bl<|HQ r 40 20) ob)->Ends E6 (L2 (i:Int) e g nx t w) Q
 |[],i,h,f,a=>by
  have:=drop_nil h f;exact zh (AA ..) (zk (w8 ae)<|zd<|a _)
 |p::r,i,h,f,a=>by
  obtain⟨j,l,o⟩:=drop_cons (d:=(([],[]):AZ)) h;have m:=wn (i:=i) ae;have b:=nb (i:=i) (n:=w.length) ae;rw[Tt]at a;refine zh (AA ..) ?_;conv=>zeta
  rw[ze,l,m];refine zc (w4 ae)<|zc b<|zf (fun c=>zd ?_)<|fun c=>zc b<|zf (fun d=>zd ?_)<|fun d=>C5 e g nx t w k r (i+1) o j ?_
  ·have c:=w6 c;rw[w8 ae,zt,zt]at a;exact a _
  ·have d:=w6 d;rw[w8 (p:=p.2.length<=20) ae,yh,zt]at a;exact a _
  ·have c:=w7 c;have d:=w7 d;rw[w4 (p:=p.1.length<=40) ae,w4 (p:=p.2.length<=20) ae,yf,yb]at a;exact a
theorem Dk(b e nx:Bm)(t w:List AZ)(m:t.length<=70)(f:w.length<=20):∀(r:List AZ) (i:Nat),t.drop i=r->i<=t.length->(∀ob,Q (.bl<|HQ r 20 20&&HQ w 40 20) ob)->Ends E6 (L1 (i:Int) b e nx t w) Q
 |[],i,h,j,a=>by
  have:=drop_nil h j;have a:∀ob,Q (.bl<|HQ w 40 20) ob:=a;exact zh (Al ..) (zk (w8 ae)<|C5 b e nx t w f w 0 rfl (zo _) a)
 |p::r,i,h,j,a=>by
  obtain⟨k,l,q⟩:=drop_cons (d:=(([],[]):AZ)) h;have o:=wn (i:=i) ae;have g:=nb (i:=i) (n:=t.length) ae;rw[Tt]at a;refine zh (Al ..) ?_;conv=>zeta
  rw[ze,l,o];refine zc (w4 ae)<|zc g<|zf (fun c=>zd ?_)<|fun c=>zc g<|zf (fun d=>zd ?_)<|fun d=>Dk b e nx t w m f r (i+1) q k ?_
  ·have c:=w6 c;rw[w8 (p:=p.1.length<=20) ae,zt,zt,zt]at a;exact a _
  ·have d:=w6 d;rw[w8 (p:=p.2.length<=20) ae,yh,zt,zt]at a;exact a _
  ·have c:=w7 c;have d:=w7 d;rw[w4 (p:=p.1.length<=20) ae,w4 (p:=p.2.length<=20) ae,yf,yb]at a;exact a
theorem ok:Ae A1 45 eO:=by
 refine C3 WY<|fun(l:Be) _=>?_;have f:∀b ob,b=yg l->Ac eO l (.bl b) ob:=fun b ob x=>zr rfl rfl x
 have no:∀ob,yg l=false->Ac eO l (.bl false) ob:=fun ob h=>f _ ob h.symm
 refine zn (Ai l)<|zf (fun a=>zd<|no _ ?_)<|fun a=>zf (fun b=>zd<|no _ ?_)<|fun b=>zf (fun c=>zd<|no _ ?_)<|fun c=>zf (fun d=>zd<|no _ ?_)<|fun d=>zf (fun e=>zd<|no _ ?_)<|fun e=>?_;all_goals simp only[w5,w9]at*
 ·unfold yg;rw[w8 ae];rfl
 ·unfold yg;rw[w8 (p:=l.2.1.length<=20) ae];simp
 ·unfold yg;rw[w8 (p:=l.2.2.1.length<=20) ae];simp
 ·unfold yg;rw[w8 (p:=l.2.2.2.1.length<=70) ae];simp
 ·unfold yg;rw[w8 (p:=l.2.2.2.2.length<=20) ae];simp
 ·refine Dk _ _ _ _ _ ae ae _ 0 rfl (zo _) (fun ob=>f _ ob ?_);unfold yg;rw[w4 (p:=l.1.length<=40) ae,w4 (p:=l.2.1.length<=20) ae,w4 (p:=l.2.2.1.length<=20) ae,w4 (p:=l.2.2.2.1.length<=70) ae,w4 (p:=l.2.2.2.2.length<=20) ae];rfl
end T45
theorem rE:Cr Tg:=Aa T45.ok AI
namespace T9
theorem Js(S:List Bi)(b:List Bw)(V:List Be)(j:V.length<=10):∀(r:List Be) (i:Nat),V.drop i=r->i<=V.length->(∀ob,Q (.bl<|r.all yg) ob)->Ends Tg (L3 (i:Int) S b V) Q
 |[],i,h,e,a=>by
  have:=drop_nil h e;exact zh (Bo ..) (zk (w8 ae)<|zd<|a _)
 |p::r,i,h,e,a=>by
  obtain⟨f,g,m⟩:=drop_cons (d:=(([],[],[],[],[]):Be)) h;have l:=wn (i:=i) ae;have k:=nb (i:=i) (n:=V.length) ae;rw[zz]at a;refine zh (Bo ..) ?_;conv=>zeta
  rw[ze,g,l];refine zc (w4 ae)<|zc k<|zc rfl (zf (fun c=>zd ?_)<|fun c=>Js S b V j r (i+1) m f ?_)
  ·have c:(!yg p)=true:=c;have c:yg p=false:=by simpa using c
   rw[c]at a;exact a _
  ·have c:(!yg p)=false:=c;have c:yg p=true:=by simpa using c
   rw[c]at a;exact a
theorem C5(S:List Bi)(b:List Bw)(V:List Be)(m:b.length<=10)(e:V.length<=10):∀(r:List Bw) (i:Nat),b.drop i=r->i<=b.length->(∀ob,Q (.bl<|r.all Sp.BU&&V.all yg) ob)->Ends Tg (L2 (i:Int) S b V) Q
 |[],i,h,g,a=>by
  have:=drop_nil h g;have a:∀ob,Q (.bl<|V.all yg) ob:=a;exact zh (AA ..) (zk (w8 ae)<|Js S b V e V 0 rfl (zo _) a)
 |p::r,i,h,g,a=>by
  obtain⟨j,k,n⟩:=drop_cons (d:=(([],[]):Bw)) h;have l:=wn (i:=i) ae;have f:(decide ((0:Int)<=(i:Int))&&decide ((i:Int)<(b.length:Int)))=true:=ad ae ae;rw[zz]at a;refine zh (AA ..) ?_;conv=>zeta
  rw[ze,k,l];have sh:Sp.BU p=(decide (p.1.length<=40)&&decide (p.2.length<=40)):=rfl;refine zc (w4 ae)<|zc f<|zf (fun c=>zd ?_)<|fun c=>zc f<|zf (fun d=>zd ?_)<|fun d=>C5 S b V m e r (i+1) n j ?_
  ·have c:=w6 c;rw[sh,w8 (p:=p.1.length<=40) ae]at a;exact a _
  ·have d:=w6 d;rw[sh,w8 (p:=p.2.length<=40) ae,yh]at a;exact a _
  ·have c:=w7 c;have d:=w7 d;rw[sh,w4 (p:=p.1.length<=40) ae,w4 (p:=p.2.length<=40) ae]at a;exact a
theorem Dk(S:List Bi)(g:List Bw)(V:List Be)(s:S.length<=38)(j:g.length<=10)(l:V.length<=10):∀(r:List Bi) (i:Nat),S.drop i=r->i<=S.length->(∀ob,Q (.bl<|r.all yk&&(g.all Sp.BU&&V.all yg)) ob)->Ends Tg (L1 (i:Int) S g V) Q
 |[],i,h,k,f=>by
  have:=drop_nil h k;have f:∀ob,Q (.bl<|g.all Sp.BU&&V.all yg) ob:=f;exact zh (Al ..) (zk (w8 ae)<|C5 S g V j l g 0 rfl (zo _) f)
 |p::r,i,h,k,f=>by
  obtain⟨m,u,t⟩:=drop_cons (d:=(([],[],[],[],[]):Bi)) h;have q:=wn (i:=i) ae;have o:=nb (i:=i) (n:=S.length) ae;rw[zz]at f;refine zh (Al ..) ?_;conv=>zeta
  rw[ze,u,q];have no:yk p=false->∀ob,Q (.bl false) ob:=fun h=>by rw[h]at f;exact f
  refine zc (w4 ae)<|zc o<|zf (fun a=>zd<|no ?_ _)<|fun a=>zf (fun b=>zd<|no ?_ _)<|fun b=>zf (fun c=>zd<|no ?_ _)<|fun c=>zf (fun d=>zd<|no ?_ _)<|fun d=>zf (fun e=>zd<|no ?_ _)<|fun e=>Dk S g V s j l r (i+1) t m ?_
  ·have a:=w6 a;unfold yk;rw[w8 (p:=p.1.length<=20) ae];rfl
  ·have b:=w6 b;unfold yk;rw[w8 (p:=p.2.1.length<=20) ae];simp
  ·have c:=w6 c;unfold yk;rw[w8 (p:=p.2.2.1.length<=20) ae];simp
  ·have d:=w6 d;unfold yk;rw[w8 (p:=p.2.2.2.1.length<=20) ae];simp
  ·have e:=w6 e;unfold yk;rw[w8 (p:=p.2.2.2.2.length<=20) ae];simp
  ·have a:=w7 a;have b:=w7 b;have c:=w7 c;have d:=w7 d;have e:=w7 e;have y:yk p=true:=by
    unfold yk;rw[w4 (p:=p.1.length<=20) ae,w4 (p:=p.2.1.length<=20) ae,w4 (p:=p.2.2.1.length<=20) ae,w4 (p:=p.2.2.2.1.length<=20) ae,w4 (p:=p.2.2.2.2.length<=20) ae];rfl
   rw[y]at f;exact f
theorem ok:Ae A1 9 Aa3:=by
 refine C3 rE<|fun(c:At) _=>?_;have e:∀b ob,b=Gc c->Ac Aa3 c (.bl b) ob:=fun b ob x=>zr rfl rfl x
 have no:∀ob,Gc c=false->Ac Aa3 c (.bl false) ob:=fun ob h=>e _ ob h.symm
 refine zn (Ai c)<|zf (fun a=>zd<|no _ ?_)<|fun a=>zf (fun b=>zd<|no _ ?_)<|fun b=>zf (fun d=>zd<|no _ ?_)<|fun d=>?_
 ·have a:=w6 a;unfold Gc;rw[w8 (p:=c.1.length<=38) ae];rfl
 ·have b:=w6 b;unfold Gc;rw[w8 (p:=c.2.1.length<=10) ae];simp
 ·have d:=w6 d;unfold Gc;rw[w8 (p:=c.2.2.length<=10) ae];simp
 ·have a:=w7 a;have b:=w7 b;have d:=w7 d;refine Dk _ _ _ ae ae ae _ 0 rfl (zo _) (fun ob=>e _ ob ?_);unfold Gc;rw[w4 (p:=c.1.length<=38) ae,w4 (p:=c.2.1.length<=10) ae,w4 (p:=c.2.2.length<=10) ae,yf,yf,yb,Bool.and_assoc];rfl
end T9
end Go.Pe
namespace Go.Sp
theorem pO(p:AZ)(l:List AZ)(d:Int):fwP (p::l) d=((Cp p.1 d&&Cp p.2 d)&&fwP l d):=by unfold fwP;rw[zz]
theorem nD(p:AZ)(l:List AZ)(d:Int):fwW (p::l) d=(Cp p.2 d&&fwW l d):=by unfold fwW;rw[zz]
theorem EW{s:Bm}{d:Int}(h:Cp s d=true)(a:d<=9):s.length<=20:=by
 unfold Cp at h;simp only[zi,w5]at h;omega
theorem NN{n d:Int}(h:YZ n d=true):0<=n/\n<=8/\0<=d/\d<=9:=by
 unfold YZ at h;simp only[zi,w5]at h;omega
theorem fE{s:Bi}{n d:Int}(h:Il s n d=true)(i:YZ n d=true):Bg s=true:=by
 obtain⟨_,j,_,g⟩:=NN i;unfold Il at h;simp only[zi,w5]at h;have a:=EW h.1.1.1.2 g;have b:=EW h.1.1.2 g;have c:=EW h.1.2 g;have e:=EW h.2 g;have f:=h.1.1.1.1;unfold Bg;rw[w4 a,w4 b,w4 c,w4 e,w4 ae];rfl
theorem cE{l:Be}{n d:Int}(h:EH l n d=true)(j:YZ n d=true):LN l=true:=by
 obtain⟨_,k,_,g⟩:=NN j;unfold EH at h;simp only[zi,w5]at h;obtain⟨⟨⟨⟨⟨_,a⟩,_⟩,b⟩,c⟩,e,f⟩:=h;have s:HQ l.2.2.2.1 20 20=true:=by
  unfold HQ;unfold fwP at e;rw[zl]at e ⊢;intro x i;have y:=e x i;rw[zi]at y;rw[w4<|EW y.1 g,w4<|EW y.2 g];rfl
 have w:(l.2.2.2.2.all fun p=>decide (p.2.length<=20))=true:=by
  unfold fwW at f;rw[zl]at f ⊢;exact fun x i=>w4<|EW (f x i) g
 unfold LN;rw[w4<|EW b g,w4<|EW c g,w4 (p:=l.2.2.2.1.length<=70) ae,s,w];rfl
end Go.Sp
namespace Go.Pe
open Sp
open Go.Det
open Go.Sp (At Bi Be AZ EJ Bm Bw)
theorem wH:Cr ZZ:=Aa T49.ok AI
namespace T50
theorem C5(d:Int)(g:0<=d/\d<=9)(b f nx:Bm)(t w:List AZ)(k:w.length<=8):∀(r:List AZ) (i:Nat),w.drop i=r->i<=w.length->(∀ob,Q (.bl<|Sp.fwW r d) ob)->Ends ZZ (L2 d (i:Int) b f nx t w) Q
 |[],i,h,e,a=>by
  have:=drop_nil h e;exact zh (AA ..) (zk (w8 ae)<|zd<|a _)
 |p::r,i,h,e,a=>by
  obtain⟨j,l,s⟩:=drop_cons (d:=(([],[]):AZ)) h;have o:=wn (i:=i) ae;have m:=nb (i:=i) (n:=w.length) ae;have q:(decide (0<=d)&&decide (d<=1000))=true:=Ab (w4 g.1) (w4 ae);rw[nD]at a;refine zh (AA ..) ?_;conv=>zeta
  rw[ze,l,o];refine zc (w4 ae)<|zc m<|zc q<|zf (fun c=>zd ?_)<|fun c=>C5 d g b f nx t w k r (i+1) s j ?_
  ·have c:Cp p.2 d=false:=by simpa using c
   rw[c]at a;exact a _
  ·have c:Cp p.2 d=true:=by simpa using c
   rw[c]at a;exact a
theorem Dk(d:Int)(b:0<=d/\d<=9)(g f nx:Bm)(t w:List AZ)(q:t.length<=8)(j:w.length<=8):∀(r:List AZ) (i:Nat),t.drop i=r->i<=t.length->(∀ob,Q (.bl<|Sp.fwP r d&&Sp.fwW w d) ob)->Ends ZZ (L1 d (i:Int) g f nx t w) Q
 |[],i,h,m,a=>by
  have:=drop_nil h m;have a:∀ob,Q (.bl<|Sp.fwW w d) ob:=a;exact zh (Al ..) (zk (w8 ae)<|C5 d b g f nx t w j w 0 rfl (zo _) a)
 |p::r,i,h,m,a=>by
  obtain⟨o,v,u⟩:=drop_cons (d:=(([],[]):AZ)) h;have s:=wn (i:=i) ae;have k:=nb (i:=i) (n:=t.length) ae;have l:(decide (0<=d)&&decide (d<=1000))=true:=Ab (w4 b.1) (w4 ae);rw[pO]at a;refine zh (Al ..) ?_;conv=>zeta
  rw[ze,v,s];refine zc (w4 ae)<|zc k<|zc l<|zf (fun c=>zd ?_)<|fun c=>zc k<|zc l<|zf (fun e=>zd ?_)<|fun e=>Dk d b g f nx t w q j r (i+1) u o ?_
  ·have c:Cp p.1 d=false:=by simpa using c
   rw[c]at a;exact a _
  ·have e:Cp p.2 d=false:=by simpa using e
   rw[e,yh]at a;exact a _
  ·have c:Cp p.1 d=true:=by simpa using c
   have e:Cp p.2 d=true:=by simpa using e
   rw[c,e]at a;exact a
theorem ok:Ae A1 50 gJ:=by
 refine C3 wH<|fun(i:Be×Int×Int) g=>?_;obtain⟨l,n,d⟩:=i;have g:YZ n d=true:=g;obtain⟨n0,n8,d0,d9⟩:=NN g;have j:∀b ob,b=EH l n d->Ac gJ (l,n,d) (.bl b) ob:=fun b ob x=>zr rfl rfl x
 have no:∀ob,EH l n d=false->Ac gJ (l,n,d) (.bl false) ob:=fun ob h=>j _ ob h.symm
 have k:(decide (0<=d)&&decide (d<=1000))=true:=Ab (w4 d0) (w4 ae);refine zn (Ai l n d)<|zf (fun a=>zd<|no _ ?_)<|fun a=>zf (fun b=>zd<|no _ ?_)<|fun b=>zf (fun c=>zd<|no _ ?_)<|fun c=>zc k<|zf (fun e=>zd<|no _ ?_)<|fun e=>zc k<|zf (fun f=>zd<|no _ ?_)<|fun f=>?_
 ·have a:=w6 a;unfold EH;rw[w8 (p:=l.1.length<=30) ae];rfl
 ·have b:=w6 b;unfold EH;rw[w8 (p:=(l.2.2.2.1.length:Int)<=n) ae];simp
 ·have c:=w6 c;unfold EH;rw[w8 (p:=(l.2.2.2.2.length:Int)<=n) ae];simp
 ·have e:Cp l.2.1 d=false:=by simpa using e
  unfold EH;rw[e];simp
 ·have f:Cp l.2.2.1 d=false:=by simpa using f
  unfold EH;rw[f];simp
 ·have a:=w7 a;have b:=w7 b;have c:=w7 c;have e:Cp l.2.1 d=true:=by simpa using e
  have f:Cp l.2.2.1 d=true:=by simpa using f
  refine Dk d ⟨d0,d9⟩ _ _ _ _ _ ae ae _ 0 rfl (zo _) (fun ob=>j _ ob ?_);unfold EH;rw[w4 (p:=l.1.length<=30) ae,w4 (p:=(l.2.2.2.1.length:Int)<=n) ae,w4 (p:=(l.2.2.2.2.length:Int)<=n) ae,e,f];rfl
end T50
theorem zI:Cr Z2:=Aa T49.ok<|Aa T50.ok<|Aa T10.okM AI
namespace T11
theorem C5(S:List Bi)(e:List Bw)(V:List Be)(n d:Int)(j:YZ n d=true)(o:(∀x∈V,EH x n d=true)->iO (S,e,V)=true)(w:V.length<=8):∀(r:List Be) (i:Nat),V.drop i=r->i<=V.length->(∀x∈V,x∈r\/EH x n d=true)->(∀v b ob,v=.bl b\/v=.dat .bool b->b=(r.all (fun l=>EH l n d)&&decide (HR (S,e,V)=0))->Q v ob)->Ends Z2 (L2 n d (i:Int) S e V) Q
 |[],i,h,q,g,a=>by
  have:=drop_nil h q;have m:=o (fun x f=>(g x f).resolve_left<|by simp);exact zh (AA ..) (zk (w8 ae)<|zc m<|zd<|a _ _ _ (.inr rfl) rfl)
 |p::r,i,h,q,g,a=>by
  obtain⟨s,t,B⟩:=drop_cons (d:=(([],[],[],[],[]):Be)) h;have A:=wn (i:=i) ae;have y:=nb (i:=i) (n:=V.length) ae;rw[zz]at a;refine zh (AA ..) ?_;conv=>zeta
  rw[ze,t,A];refine zc (w4 ae)<|zc y<|zc j<|zf (fun c=>zd<|a _ _ _ (.inl rfl) ?_)<|fun c=>C5 S e V n d j o w r (i+1) B s ?_ ?_
  ·have c:(!EH p n d)=true:=c;have c:EH p n d=false:=by simpa using c
   rw[c];rfl
  ·have c:(!EH p n d)=false:=c;have c:EH p n d=true:=by simpa using c
   intro x f;rcases g x f with k|k
   ·rcases zy.1 k with k|k
    ·exact .inr<|k▸c
    ·exact .inl k
   ·exact .inr k
  ·have c:(!EH p n d)=false:=c;have c:EH p n d=true:=by simpa using c
   intro v b ob u z;refine a v b ob u ?_;rw[c,yb];exact z
theorem Dk(S:List Bi)(j:List Bw)(V:List Be)(n d:Int)(w:YZ n d=true)(A:(∀x∈S,Il x n d=true)->(∀x∈V,EH x n d=true)->iO (S,j,V)=true)(F:S.length<=8)(C:V.length<=8):∀(r:List Bi) (i:Nat),S.drop i=r->i<=S.length->(∀x∈S,x∈r\/Il x n d=true)->(∀v b ob,v=.bl b\/v=.dat .bool b->b=(r.all (fun s=>Il s n d)&&(V.all (fun l=>EH l n d)&&decide (HR (S,j,V)=0)))->Q v ob)->Ends Z2 (L1 n d (i:Int) S j V) Q
 |[],i,h,B,t,o=>by
  have:=drop_nil h B;have m:=A (fun x g=>(t x g).resolve_left (by simp));exact zh (Al ..) (zk (w8 ae) (C5 S j V n d w m C V 0 rfl (zo _) (fun x g=>.inl g) (fun v b ob u z=>o v b ob u<|by rw[List.all_nil,yb];exact z)))
 |p::r,i,h,B,t,o=>by
  obtain⟨D,I,H⟩:=drop_cons (d:=(([],[],[],[],[]):Bi)) h;obtain⟨n0,n8,d0,d9⟩:=NN w;have G:=wn (i:=i) ae;have E:=nb (i:=i) (n:=S.length) ae;have q:(decide (0<=d)&&decide (d<=1000))=true:=Ab (w4 d0) (w4 ae);rw[zz]at o;have no:Il p n d=false->∀ob,Q (.bl false) ob:=fun h ob=>o _ _ ob (.inl rfl) (by rw[h];rfl)
  refine zh (Al ..) ?_;conv=>zeta
  rw[ze,I,G];refine zc (w4 ae) (zc E<|zf (fun a=>zd<|no ?_ _)<|fun a=>zc q<|zf (fun b=>zd<|no ?_ _)<|fun b=>zc q<|zf (fun c=>zd<|no ?_ _)<|fun c=>zc q<|zf (fun e=>zd<|no ?_ _)<|fun e=>zc q<|zf (fun f=>zd<|no ?_ _)<|fun f=>?_) 
  ·have a:=w6 a;unfold Il;rw[w8 (p:=(p.2.2.2.2.length:Int)<=n) ae];rfl
  ·have b:Cp p.1 d=false:=by simpa using b
   unfold Il;rw[b];simp
  ·have c:Cp p.2.1 d=false:=by simpa using c
   unfold Il;rw[c];simp
  ·have e:Cp p.2.2.1 d=false:=by simpa using e
   unfold Il;rw[e];simp
  ·have f:Cp p.2.2.2.1 d=false:=by simpa using f
   unfold Il;rw[f];simp
  ·have a:=w7 a;have y:Il p n d=true:=by
    have b:Cp p.1 d=true:=by simpa using b
    have c:Cp p.2.1 d=true:=by simpa using c
    have e:Cp p.2.2.1 d=true:=by simpa using e
    have f:Cp p.2.2.2.1 d=true:=by simpa using f
    unfold Il;rw[w4 (p:=(p.2.2.2.2.length:Int)<=n) ae,b,c,e,f];rfl
   refine Dk S j V n d w A F C r (i+1) H D ?_ ?_
   ·intro x g;rcases t x g with k|k
    ·rcases zy.1 k with k|k
     ·exact .inr<|k▸y
     ·exact .inl k
    ·exact .inr k
   ·intro v b ob u z;refine o v b ob u ?_;rw[y,yb];exact z
theorem ok:Ae A1 11 xZ:=by
 refine C3 zI<|fun(i:At×Int×Int) j=>?_;obtain⟨c,n,d⟩:=i;have j:(YZ n d&&c.2.1.all PD)=true:=j;rw[zi]at j;obtain⟨hN,hT⟩:=j;obtain⟨n0,n8,d0,d9⟩:=NN hN;have k:∀v b ob,v=.bl b\/v=.dat .bool b->b=KS c n d->Ac xZ (c,n,d) v ob:=by
  rintro v b ob (rfl|rfl) g
  ·exact zr rfl rfl g
  ·exact zr rfl rfl g
 have no:∀ob,KS c n d=false->Ac xZ (c,n,d) (.bl false) ob:=fun ob h=>k _ _ ob (.inl rfl) h.symm
 refine zn (Ai c n d)<|zf (fun a=>zd<|no _ ?_)<|fun a=>zf (fun b=>zd<|no _ ?_)<|fun b=>zf (fun e=>zd<|no _ ?_)<|fun e=>?_
 ·have a:=w6 a;unfold KS;rw[w8 (p:=(c.1.length:Int)<=n) ae];rfl
 ·have b:=w6 b;unfold KS;rw[w8 (p:=(c.2.1.length:Int)<=n) ae];simp
 ·have e:=w6 e;unfold KS;rw[w8 (p:=(c.2.2.length:Int)<=n) ae];simp
 ·have a:=w7 a;have b:=w7 b;have e:=w7 e;have m:(∀x∈c.1,Il x n d=true)->(∀x∈c.2.2,EH x n d=true)->iO (c.1,c.2.1,c.2.2)=true:=fun u v=>by
   have u:c.1.all yk=true:=zl.2 fun x f=>fE (u x f) hN
   have v:c.2.2.all LN=true:=zl.2 fun x f=>cE (v x f) hN
   unfold iO;rw[w4 (p:=c.1.length<=38) ae,w4 (p:=c.2.1.length<=10) ae,w4 (p:=c.2.2.length<=10) ae,u,v,hT];rfl
  refine Dk _ _ _ n d hN m ae ae _ 0 rfl (zo _) (fun x f=>.inl f) (fun v b ob l g=>k v b ob l ?_);rw[g];unfold KS;rw[w4 (p:=(c.1.length:Int)<=n) ae,w4 (p:=(c.2.1.length:Int)<=n) ae,w4 (p:=(c.2.2.length:Int)<=n) ae];rfl
end T11
section
open List Int Prod
namespace T77
def T(s:Z):Tr:=tree Aav false 9 77<|Af ([yj]) s
def L1(v5 c:Int)(b:Bool)(a:List Int):Tr:=re ((T []).L.R.R.L)<|Ap 62 [(4,.ptr 0 0),(5,.dat i64 v5),(6,.dat i64 c)] [(0,.box [.dat Sh.bool b,.dat (Sh.list i64) a])] 1
theorem Ai(s:Z):T s=let a:Tr:=.leaf (.tup [.dat i64 (0:Int),.bl false]) [];.cd (length s<=1000000) (.ite (!I0 s) a<|.di ((length s:Int)>20) a<|.ck (DR s)<|L1 0 (zj .i64<|(↑(length<|Eu s):Int)-1) (G0 s)<|Eu s):=by kernel_rfl
theorem Al(v5 b:Int)(d:Bool)(a:List Int):stepT Aav (L1 v5 b d a)=let c:Tr:=.leaf (.tup [.dat i64 (0:Int),.bl false]) [];let e:=0-getD a (toNat b) 0;let f:=decide (v5<(-9223372036));let h':=zj .i64<|b-1;let h:=decide (v5>9223372036);let j:=L1 (zj .i64<|zj .i64 (v5*1000000000)+zj .i64 e) h' d a;let i:=L1 (zj .i64<|zj .i64 (v5*1000000000)+getD a (toNat b) 0) h' d a;let g:Tr:=.ite (v5==(-9223372036)) (.di (zj .i64 e<(-854775808)) c j) j;let b':Tr:=.ite (v5==(-9223372036)) (.di (getD a (toNat b) 0<(-854775808)) c i) i;.di (b>=0) (.ck (decide (0<=b)&&decide (b<(length a:Int)))<|.ite d (.ite h c<|.ite f c<|.ite (v5==9223372036) (.di (zj .i64 e>854775807) c g) g)<|.ite h c<|.ite f c<|.ite (v5==9223372036) (.di (getD a (toNat b) 0>854775807) c b') b') (.leaf (.tup [.dat i64 v5,.bl true]) []):=by kernel_rfl
end T77
namespace T181
def T(c:At)(t h:Int):Tr:=tree AgR false 9 181<|Af ([AT,z8 zm,z8 zm]) (c,t,h)
theorem Ai(c:At)(t h:Int):T c t h=let a:=getD (fst c) (toNat h) ([],[],[],[],[]);let e:=snd<|getD (fst<|snd c) (toNat t) ([],[]);let d:=BW (fst<|snd a)<|fst<|snd<|snd a;let b:=getD e (toNat h) 0;let b':=BW (aN b)<|BW (fst a) d;.ck (decide (0<=h)&&decide (h<(↑(length<|fst c):Int))) (.ck (decide (0<=t)&&decide (t<(↑(length<|fst<|snd c):Int)))<|.ck (decide (0<=h)&&decide (h<(↑(length e):Int)))<|.ck (Zs b)<|.ck (AR (fst<|snd a)&&AR (fst<|snd<|snd a))<|.ck (AR (fst a)&&AR d)<|.ck (AR (aN b)&&AR (BW (fst a) d))<|.ck (AR b'&&BV [(48:UInt8)])<|.di (CW b' [(48:UInt8)]>=0) (.leaf (.dat yj b') [])<|.leaf (.dat yj [(48:UInt8)]) []):=by kernel_rfl
end T181
namespace T127
def T(c:At)(t h l:Int):Tr:=tree AgX false 9 127<|Af ([AT,z8 zm,z8 zm,z8 zm]) (c,t,h,l)
theorem Ai(c:At)(t h l:Int):T c t h l=let a:=snd<|getD (snd<|snd c) (toNat l) ([],[],[],[],[]);let b':=fst<|snd<|snd<|snd<|getD (fst c) (toNat h) ([],[],[],[],[]);let b:=aS c t h;let d:=BW (fst a) b';let e:=fst<|snd a;let g:=DI (DS b d) e;let f:=BW e b';let h':=AR b&&BV d;.ck (decide (0<=l)&&decide (l<(↑(length<|snd<|snd c):Int))) (.ck (decide (0<=h)&&decide (h<(↑(length<|fst c):Int)))<|.ck (Sp.okP c t h)<|.ck (AR (fst a)&&AR b')<|.ck h'<|.di (CW b d<=0) (.ck (AR b&&AR (fst a))<|.ck (AR (DI b<|fst a)&&XC d)<|.leaf (.dat yj<|Fj (DI b<|fst a) d) [])<|.ck h'<|.ck (AR (DS b d)&&AR e)<|.ck (AR e&&AR b')<|.ck (AR g&&XC f)<|.ck (AR (fst a)&&AR (Fj g f))<|.leaf (.dat yj<|BW (fst a)<|Fj g f) []):=by kernel_rfl
end T127
namespace T52
def T(c:At)(n:Int):Tr:=tree E6 false 9 52<|Af ([AT,z8 zm]) (c,n)
theorem Ai(c:At)(n:Int):T c n=.leaf (PV.agg [.dat i64 n,.dat i64 (↑(length<|fst<|snd c):Int)]) []:=by kernel_rfl
end T52
namespace T79
def T(c:At)(n:Int):Tr:=tree E6 false 9 79<|Af ([AT,z8 zm]) (c,n)
theorem Ai(c:At)(n:Int):T c n=.leaf (PV.agg [.dat i64 n,.dat i64 (↑(length<|fst c):Int)]) []:=by kernel_rfl
end T79
namespace T53
def T(c:At)(n:Int):Tr:=tree E6 false 9 53<|Af ([AT,z8 zm]) (c,n)
theorem Ai(c:At)(n:Int):T c n=.leaf (PV.agg [.dat i64 n,.dat i64 (↑(length<|snd<|snd c):Int)]) []:=by kernel_rfl
end T53
namespace T69
def T(a:AL):Tr:=tree E6 false 9 69<|Af ([A4]) a
theorem Ai(a:AL):T a=.leaf (.tup [.dat i64<|fst a,.dat Sh.bool !decide (0<length (snd a))]) []:=by kernel_rfl
end T69
namespace T95
def T(c:At)(t h:Int):Tr:=tree Um false 9 95<|Af ([AT,z8 zm,z8 zm]) (c,t,h)
def L1(v1 v2:Int)(v3:At)(b:Bi)(c a:Int):Tr:=re ((T ([],([],[])) 0 0).L)<|Ap 38 [(1,.dat i64 v1),(2,.dat i64 v2),(3,PV.AV AT v3 0),(6,.ptr 0 0),(7,PV.AV Bg b 0)] [(0,.box [.dat i64 c,.nil,.dat i64 a,.nil])] 1
theorem Ai(c:At)(t h:Int):T c t h=.ck (decide (0<=h)&&decide (h<(↑(length<|fst c):Int))) (L1 t h c ((getD (fst c) (toNat h) ([],[],[],[],[]))) 0 0):=by kernel_rfl
def L2(v1 v2:Int)(v3:At)(m:Bi)(k f:Int)(h:Nat)(j i n:Int)(d:List Int)(c:Int)(e:List Int)(l b:Int)(o1:List Z)(g:Int)(a:Int):Tr:=re ((stepT Um<|L1 v1 v2 v3 m k f).L.L.L.L)<|Ap 22 [(1,PV.fn (Go.Fn.func 96) [] []),(4,.ptr 2 0),(5,.ptr 3 0),(9,.sl 1 1 0 h none),(10,.dat i64 j),(11,.dat i64 i)] [(3,.box [.dat i64 n,.dat wU d,.dat i64 c,.dat wU e]),(2,.box [.dat i64 l,.nil,.dat i64 b,.nil]),(1,.arr false 39 yj o1),(0,.box [.dat i64 g,.nil,.dat i64 a,.nil])] 4
theorem Al(v1 v2:Int)(v3:At)(b:Bi)(c a:Int):stepT Um (L1 v1 v2 v3 b c a)=.ck (decide (0<=v1)&&decide (v1<(↑(length<|fst<|snd v3):Int))) (.ck (decide (0<=v2)&&decide (v2<(↑(length<|snd<|getD (fst<|snd v3) (toNat v1) ([],[])):Int)))<|.ck true<|.ck true<|L2 v1 v2 v3 b c a 3 3 0 0 (BA 0) 1 (BA 1) 0 0 ([fst b,fst<|snd b,fst<|snd<|snd b]) c a):=by kernel_rfl
theorem AA(v1 v2:Int)(v3:At)(m:Bi)(r g:Int)(i:Nat)(j a p:Int)(f:List Int)(c:Int)(d:List Int)(q e:Int)(o1:List Z)(l:Int)(b:Int):stepT Um (L2 v1 v2 v3 m r g i j a p f c d q e o1 l b)=let b':=((p,f),c,d);let o:=snd<|getD (fst<|snd v3) (toNat v1) ([],[]);let n:=getD o1 (toNat a) [];let h:=((getD o (toNat v2) 0,BA<|getD o (toNat v2) 0),1,BA 1);let k:=CC n;.di (a<j) (.ck (decide (0<=a)&&decide (a<(↑i:Int)))<|.cd (toNat a<length o1)<|.ck (D8 n)<|.ck (yc b'&&yc k)<|L2 v1 v2 v3 m r g i j (zj .i64<|a+1) (JY b' k) (Jy b' k) (Kg b' k) (J2 b' k) q e o1 l b) (.ck (yc h&&yc b')<|.ck (Sp.Dz<|fst<|B4 h b')<|.di (Rl (B4 h b')<0) (.ck true<|.leaf (PV.agg [.dat i64 (0:Int),.dat wU<|BA 0,.dat i64 (1:Int),.dat wU<|BA 1]) [])<|.leaf (PV.agg [.dat i64<|JY h b',.dat wU<|Jy h b',.dat i64<|Kg h b',.dat wU<|J2 h b']) []):=by kernel_rfl
end T95
namespace T99
def T(c:At)(t h l:Int):Tr:=tree rD false 9 99<|Af ([AT,z8 zm,z8 zm,z8 zm]) (c,t,h,l)
def L1(d b f c e:Ad)(g a:Int):Tr:=re ((T ([],([],[])) 0 0 0).L.L.L.L.L.L.L)<|Ap 60 [(8,.ptr 0 0),(10,PV.AV Aq d 0),(11,PV.AV Aq b 0),(12,PV.AV Aq f 0),(13,PV.AV Aq c 0),(14,PV.AV Aq e 0)] [(0,.box [.dat i64 g,.nil,.dat i64 a,.nil])] 1
theorem Ai(c:At)(t h l:Int):T c t h l=let a:=snd<|getD (snd<|snd c) (toNat l) ([],[],[],[],[]);let b':=fst<|snd<|snd<|snd<|getD (fst c) (toNat h) ([],[],[],[],[]);let b:=CC<|fst a;.ck (decide (0<=l)&&decide (l<(↑(length<|snd<|snd c):Int))) (.ck (decide (0<=h)&&decide (h<(↑(length<|fst c):Int)))<|.ck (D8 b')<|.ck (Sp.okP c t h)<|.ck (D8<|fst a)<|.ck (D8<|fst<|snd a)<|.ck (yc b&&yc (CC b'))<|L1 ((CC b')) ((V1 c t h)) b ((CC<|fst<|snd a)) ((B4 b<|CC b')) 0 0):=by kernel_rfl
def L2(d b f c e:Ad)(g a:Int):Tr:=re ((stepT rD<|L1 ((0,[]),(0,[])) ((0,[]),(0,[])) ((0,[]),(0,[])) ((0,[]),(0,[])) ((0,[]),(0,[])) 0 0).L.R)<|Ap 60 [(8,.ptr 0 0),(10,PV.AV Aq d 0),(11,PV.AV Aq b 0),(12,PV.AV Aq f 0),(13,PV.AV Aq c 0),(14,PV.AV Aq e 0)] [(0,.box [.dat i64 g,.nil,.dat i64 a,.nil])] 1
theorem Al(f b c e a:Ad)(h d:Int):stepT rD (L1 f b c e a h d)=let g:=Ed b c;.ck (Sp.BJ b&&Sp.BJ a) (.di (DD b a<=0) (.ck (yc b&&yc c)<|.ck (yc g&&yc a&&decide (Sp.vI (fst a)≠0))<|.leaf (PV.agg [.dat i64<|Adl g a,.dat wU<|Adw g a,.dat i64<|Adq g a,.dat wU<|Ad0 g a]) [])<|L2 f b c e a h d):=by kernel_rfl
theorem AA(e d a b c:Ad)(i f:Int):stepT rD (L2 e d a b c i f)=let b':=D7 d c;let h:=B4 b e;let g:=LJ (Ed b' b) h;.ck (yc d&&yc c) (.ck (yc b'&&yc b)<|.ck (yc b&&yc e)<|.ck (yc (Ed b' b)&&yc h&&decide (Sp.vI (fst h)≠0))<|.ck (yc a&&yc g)<|.leaf (PV.agg [.dat i64<|JY a g,.dat wU<|Jy a g,.dat i64<|Kg a g,.dat wU<|J2 a g]) []):=by kernel_rfl
end T99
end
end Go.Pe
namespace Go.Sp
theorem mQ{a:AL}(h:Dz a=true)(c: -9223372036854775808<vI a)(b:vI a<9223372036854775808):a.1=vI a:=by
 unfold Dz at h;rw[zi,Bool.or_eq_true,zi,w5,w5]at h;unfold vI at c b ⊢;by_cases e:a.2=[]
 ·rw[wd e]
 ·rw[wc e]at c b;rcases h.2 with k|⟨_,k⟩
  ·exact wh k e
  ·by_cases n:a.1<0
   ·rw[wd n]at c;omega
   ·rw[wc n]at b;omega
end Go.Sp
namespace Go.Pe
open Sp
open Go.Det
open Go.Sp (At Bi Be AZ EJ Bm)
theorem T69.ok:Ae A1 69 wK:=by
 refine AX (X:=E6) rfl (fun g sp h=>by cases h) (d:=9) ag ag ag (fun(a:Int×List Int) _=>?_) (Ak ag);refine zn (T69.Ai a)<|zd<|zr rfl rfl ?_;show(a.1,!decide (0<a.2.length))=(a.1,decide (a.2=[]));cases a.2<;>rfl
theorem T52.ok:Ae A1 52 TC:=by
 refine AX (X:=E6) rfl (fun g sp h=>by cases h) (d:=9) ag ag ag (fun(i:At×Int) _=>?_) (Ak ag);exact zn (T52.Ai i.1 i.2)<|zd<|zr rfl rfl rfl
theorem T79.ok:Ae A1 79 qO:=by
 refine AX (X:=E6) rfl (fun g sp h=>by cases h) (d:=9) ag ag ag (fun(i:At×Int) _=>?_) (Ak ag);exact zn (T79.Ai i.1 i.2)<|zd<|zr rfl rfl rfl
theorem T53.ok:Ae A1 53 K5:=by
 refine AX (X:=E6) rfl (fun g sp h=>by cases h) (d:=9) ag ag ag (fun(i:At×Int) _=>?_) (Ak ag);exact zn (T53.Ai i.1 i.2)<|zd<|zr rfl rfl rfl
theorem Hv{i:Int}{n:Nat}(h:0<=i/\i<(n:Int)):(decide ((0:Int)<=i)&&decide (i<(n:Int)))=true:=Ab (w4 h.1)<|w4 h.2
theorem Ek{s:Bm}(h:Ao s=0):D8 s=true:=(Em (Dv h).1).2.2.2.2.2.2.1
theorem yC:Cr Um:=Aa T96.ok<|Aa T57.ok<|Aa T59.ok<|Aa T106.ok AI
namespace T95
theorem ok:Ae A1 95 cPl:=by
 refine C3 yC<|fun(i:At×Int×Int) hi=>?_;obtain⟨c,t,h⟩:=i;have P:=Uz hi;have z:RS 1 Sp.zF 0:=Gu;have a1:=z.add P.hr.rise af af;have a2:=a1.add P.hr.wind af af;have a3:=a2.add P.hr.lay af af;have b:=(sF P).Dz;have g:0<=h/\h<((c.2.1.getD t.toNat ([],[])).2.length:Int):=by rw[P.tl];exact P.h0
 obtain⟨s,a⟩:∃s,s=BC c h:=⟨_,rfl⟩;have fin:∀f:Ad,f=B4 (B4 (B4 Sp.zF<|CC s.1)<|CC s.2.1) (CC s.2.2.1)->Ends Um (L2 t h c s 0 0 3 3 3 f.1.1 f.1.2 f.2.1 f.2.2 0 0 [s.1,s.2.1,s.2.2.1] 0 0) (Ac cPl (c,t,h)):=fun f d=>by
  have e:B4 (Sp.iF<|HH c t h) f=zR c t h:=by rw[d,a];rfl
  refine zh (AA ..) (zk rfl (zc (by rw[a]at d;rw[<-d]at a3;exact(yX P.te).NF a3 af af)<|zc (by rw[<-e]at b;exact b)<|zf (fun s=>zc rfl (zd<|zr rfl rfl ?_))<|fun s=>zd<|zr rfl rfl ?_))
  ·have s:Rl (B4 (Sp.iF<|HH c t h) f)<0:=w6 s;rw[e]at s;show Sp.zF=V1 c t h;unfold V1;rw[wd s]
  ·have s:¬Rl (B4 (Sp.iF<|HH c t h) f)<0:=w7 s;rw[e]at s;show B4 (Sp.iF<|HH c t h) f=V1 c t h;rw[e];unfold V1;rw[wc s]
 rw[<-a]at a1 a2 a3;have s2:∀f:Ad,f=B4 (B4 Sp.zF<|CC s.1) (CC s.2.1)->Ends Um (L2 t h c s 0 0 3 3 2 f.1.1 f.1.2 f.2.1 f.2.2 0 0 [s.1,s.2.1,s.2.2.1] 0 0) (Ac cPl (c,t,h)):=fun f d=>by
  rw[<-d]at a2 fin;refine zh (AA ..) (zc rfl (zc rfl (zc rfl (zc (by rw[a];exact Ek P.st.lay)<|zc (a2.NF (by rw[a];exact P.hr.lay) af af) ?_))));exact fin (B4 f<|CC s.2.2.1) rfl
 have s1:∀f:Ad,f=B4 Sp.zF (CC s.1)->Ends Um (L2 t h c s 0 0 3 3 1 f.1.1 f.1.2 f.2.1 f.2.2 0 0 [s.1,s.2.1,s.2.2.1] 0 0) (Ac cPl (c,t,h)):=fun f d=>by
  rw[<-d]at a1 s2;refine zh (AA ..) (zc rfl (zc rfl (zc rfl (zc (by rw[a];exact Ek P.st.wind)<|zc (a1.NF (by rw[a];exact P.hr.wind) af af) ?_))));exact s2 (B4 f<|CC s.2.1) rfl
 refine zn (Ai c t h)<|zc (Hv P.h0)<|zh (Al ..)<|zc (Hv P.t0)<|zc (Hv g)<|zc rfl (zc rfl ?_);show Ends Um (L2 t h c (BC c h) 0 0 3 3 0 0 (BA 0) 1 (BA 1) 0 0 [(BC c h).1,(BC c h).2.1,(BC c h).2.2.1] 0 0) _;rw[<-a];refine zh (AA ..) (zc rfl (zc rfl (zc rfl (zc (by rw[a];exact Ek P.st.rise)<|zc (z.NF (by rw[a];exact P.hr.rise) af af) ?_))));exact s1 (B4 Sp.zF<|CC s.1) rfl
end T95
theorem wN:Cr rD:=Aa T95.ok<|Aa T96.ok<|Aa T73.ok<|Aa T59.ok<|Aa T64.ok<|Aa T65.ok<|Aa T97.ok AI
structure AtA(c:At)(t h l:Int):Prop where
 P:AtP c t h
 L:AtL c l
 kp:Sp.okP c t h=true
 ko:Sp.okO c h l=true
 h0:Ax (CQ c l).2.1+Ax (BC c h).2.2.2.1≠0
 n0:Ax (CQ c l).2.2.1+Ax (BC c h).2.2.2.1≠0
theorem Ou{c:At}{t h l:Int}(k:Nf c t h l=true):AtA c t h l:=by
 obtain⟨kp,ko⟩:=aI k;have P:=Uz kp;obtain⟨L,_,_,_⟩:=OC ko;have a:=P.st.rollB.1;exact⟨P,L,kp,ko,Rat.ne_of_gt<|Qc L.lr.hp a,Rat.ne_of_gt<|Qc L.lr.np a⟩
namespace T99
theorem ok:Ae A1 99 cEf:=by
 refine C3 wN<|fun(i:At×Int×Int×Int) hi=>?_;obtain⟨c,t,h,l⟩:=i;obtain⟨P,L,kp,ko,h0,n0⟩:=Ou hi;have p:=tV P;have r:=P.hr.roll;have reach:=L.lr.head.add r af af;have a:=L.lr.next.add r af af;have d:=p.sub reach af af;have m:=d.mul L.lr.next af af;have q:=m.div a af af n0;have b:=p.mul L.lr.head af af;refine zn (Ai c t h l) (zc (Hv L.l0) (zc (Hv P.h0)<|zc (Ek P.st.roll)<|zc kp<|zc (Ek L.lv.head)<|zc (Ek L.lv.next)<|zc (L.lr.head.NF r af af) ?_));refine zh (Al ..) (zc (Ab (p.BJ af)<|reach.BJ af)<|zf (fun s=>?_)<|fun s=>?_)
 ·have s:DD (V1 c t h) (B4 (Jc c l)<|Lu c h)<=0:=w6 s;refine zc (p.NF L.lr.head af af) (zc (b.ok3 reach af af h0)<|zd<|zr rfl rfl ?_);show LJ (Ed (V1 c t h)<|Jc c l) (B4 (Jc c l)<|Lu c h)=eH c t h l;unfold eH;rw[wd s]
 ·have s:¬DD (V1 c t h) (B4 (Jc c l)<|Lu c h)<=0:=w7 s;refine zh (AA ..) (zc (p.NF reach af af)<|zc (d.NF L.lr.next af af)<|zc (L.lr.next.NF r af af)<|zc (m.ok3 a af af n0)<|zc (L.lr.head.NF q af af)<|zd<|zr rfl rfl ?_);show B4 (Jc c l) (LJ (Ed (D7 (V1 c t h)<|B4 (Jc c l)<|Lu c h)<|Yy c l)<|B4 (Yy c l)<|Lu c h)=eH c t h l;unfold eH;rw[wc s]
end T99
theorem tI:Cr Ack:=Aa T115.ok<|Aa T91.ok AI
namespace T51
theorem loop{Q:PV->Ob->Prop}{s:List Bi}{m:List Bw}{u:List Be}(c:At)(l:List (Int×Int))(n:l.length<=1000)(f:∀ob,Q (.dat i64<|CB (RN l) 10) ob):∀(r:List (Int×Int)) (i:Nat),l.drop i=r->i<=l.length->RN l=RN r->Ends Ack (L1 c l l (l.length:Int) (i:Int) s m u) Q
 |[],i,h,j,e=>by
  have:=drop_nil h j;rw[e]at f;exact zh (Al ..) (zk (w8 ae)<|zc rfl (zd<|f _))
 |p::r,i,h,j,e=>by
  obtain⟨k,t,q⟩:=drop_cons (d:=((0,0):Int×Int)) h;have o:=wn (i:=i) ae;have g:RN (p::r)=(decide (p.1<0)||decide (p.2<=p.1)||RN r):=ye;have v:decide ((i:Int)>=0)=true:=w4 ae;refine zh (Al ..) ?_;conv=>zeta
  rw[ze,t,o,v];refine zc (w4 ae) (zc (Ab rfl (w4 ae))<|zf (fun a=>zc rfl (zd ?_))<|fun a=>zf (fun b=>zc rfl (zd ?_))<|fun b=>?_)
  ·rw[e,g,show decide (p.1<0)=true from a]at f;exact f _
  ·rw[e,g,show decide (p.2<=p.1)=true from b,Bool.or_true]at f;exact f _
  ·exact loop c l n f r (i+1) q k (by rw[e,g,show decide (p.1<0)=false from a,show decide (p.2<=p.1)=false from b];rfl)
theorem ok:Ae A1 51 Hk:=by
 refine C3 tI<|fun(i:At×List (Int×Int)) a=>?_;obtain⟨c,l⟩:=i;have a:(Gc c&&decide (l.length<=1000))=true:=a;rw[zi,w5]at a;have b:∀v ob,v=Fp c l->Ac Hk (c,l) (.dat i64 v) ob:=fun v ob e=>zr rfl rfl e
 refine zn (Ai c l)<|zc a.1<|zf (fun k=>zd<|b _ _ ?_)<|fun k=>?_
 ·have k:HR c≠0:=by simpa using k
  show HR c=Fp c l;unfold Fp GD;rw[wd k]
 ·have k:¬HR c≠0:=by simpa using k
  refine loop c l a.2 (fun ob=>b _ _ ?_) l 0 rfl (zo _) rfl;unfold Fp GD CB;rw[wc k];cases RN l<;>rfl
end T51
theorem AiX(c:At)(t h l:Int):Fp c [(t,Vz c),(h,Sp.nHo c),(l,OY c)]=SX c t h l:=by
 unfold Fp RN SX ME XU Hc;rw[ye,ye,ye,List.any_nil,Bool.or_false];rfl
end Go.Pe
namespace Go.Sp
theorem iR{v:Int}(h0:0<v)(h:v<1000000000):B0 v=[v]:=by
 have d:AD B9 [v]:=fun x a=>by rw[List.mem_singleton.1 a];exact⟨by omega,h⟩
 have t:=F8 d;have e:Ar [v]=v:=by show v+(B9:Int)*0=v;omega
 rw[e]at t;rw[<-t];show(if v=0 then[]else[v])=[v];rw[wc ae]
theorem AbD{n:Int}(h0:0<=n)(h:n<1000000000):Zb (Az (n:Rat))=true/\Bu (Az (n:Rat))=n:=by
 have e:Az (n:Rat)=Lib.itoa n:=by
  unfold Az;rw[yi,Rat.num_intCast,wd rfl]
 have r:=(Dp n).2.2.2;have z:Cz 9 (n:Rat):=(OS (n:=n) (k:=9) ae af).z;have l:=Nv z af;have c:I0 (Az (n:Rat))=true:=by
  unfold I0;rw[(F6 _).2.2,yi];rfl
 have b:DR (Lib.itoa n)=true:=by
  rw[e]at l;have a:Au (Lib.itoa n)=true:=by
   unfold Lib.itoa;rw[wc ae];exact DU _
  unfold DR;rw[wc<|Fx a,a,yf];exact w4 ae
 rw[<-e]at r b;refine⟨?_,r⟩;unfold Zb;rw[r];exact Go.Pe.Ab (Go.Pe.Ab (Go.Pe.Ab (Go.Pe.Ab c<|w4 l) b)<|w4 h0)<|w4 h
theorem Nu.Gd{k:Nat}{s:Z}{q:Rat}(h:Nu k s q):Nu k (Gd s) (q.floor:Rat):=⟨by unfold Sp.Gd;rw[h.rat,Ub],R2 h.z⟩
theorem G8{s:Z}(h:Ao s=0)(a:s.length<=20):Nu 20 s (Ax s):=Ih h a af
end Go.Sp
namespace Go.Pe
open Sp
open Go.Det
open Go.Sp (At Bi Be AZ EJ Bm)
theorem rT:Cr Aav:=Aa T137.ok<|Aa T138.ok AI
namespace T77
theorem ok:Ae A1 77 Wo:=by
 refine C3 rT<|fun(s:Z) a=>?_;have a:Zb s=true:=a;unfold Zb at a;rw[zi,zi,zi,zi,w5,w5,w5]at a;obtain⟨⟨⟨⟨w,l⟩,i⟩,k⟩,f⟩:=a;have j:G0 s=false:=w8 ae;have d:Aj (Bu s)=Bu s:=by rw[An];omega
 have c:∀(v:Int) ob,v=Bu s->Ac Wo s (.tup [.dat i64 v,.bl true]) ob:=fun v ob e=>zr rfl rfl (by rw[e];rfl)
 refine zn (Ai s) (zc (w4 ae) (zk (by rw[w];rfl)<|zk (w8 ae)<|zc i ?_));rw[j];by_cases h:Bu s=0
 ·have b:Eu s=[]:=by
   unfold Eu Sp.rW;rw[d,h];rfl
  rw[b];exact zh (Al ..)<|zk rfl (zd<|c _ _ h.symm)
 ·have b:Eu s=[Bu s]:=by
   unfold Eu Sp.rW;rw[d,iR ae f]
  rw[b];have g:zj .i64 (zj .i64 ((0:Int)*1000000000)+Bu s)=Bu s:=by
   rw[show zj .i64 ((0:Int)*1000000000)=0 from rfl,Int.zero_add];exact wr _ ae ae
  refine zh (Al ..)<|zc rfl (zc rfl (zk rfl (zk rfl (zk rfl (zk rfl (zk rfl ?_))))));show Ends Aav (L1 (zj .i64<|zj .i64 ((0:Int)*1000000000)+Bu s) (zj .i64<|(0:Int)-1) false [Bu s]) _;rw[g];exact zh (Al ..)<|zk rfl (zd<|c _ _ rfl)
end T77
theorem nQ:Cr AgR:=Aa T93.ok<|Aa T30.ok<|Aa T32.ok AI
structure HoN(c:At)(t h:Int):Prop where
 rise:Sp.Nu 20 (BC c h).1 (Ax (BC c h).1)
 wind:Sp.Nu 20 (BC c h).2.1 (Ax (BC c h).2.1)
 lay:Sp.Nu 20 (BC c h).2.2.1 (Ax (BC c h).2.2.1)
 roll:Sp.Nu 20 (BC c h).2.2.2.1 (Ax (BC c h).2.2.2.1)
 te:Sp.Nu 5 (aN (HH c t h)) (HH c t h:Rat)
 pl:Sp.Nu 70 (aS c t h) (My c t h)
theorem AiY{c:At}{h:Int}(co:Zx c)(sh:Gc c=true)(h0:0<=h/\h<(c.1.length:Int)):yk (BC c h)=true:=by
 refine(VV co sh ?_).2;unfold XU HS;rw[w8 ae,w8 ae];rfl
theorem tM{c:At}{t h:Int}(P:AtP c t h):HoN c t h:=by
 have s:=P.sh;obtain⟨d,a,e,b,_⟩:=PY<|AiY P.co s P.h0;exact⟨G8 P.st.rise d,G8 P.st.wind a,G8 P.st.lay e,G8 P.st.roll b,OS (by have:=P.te;omega) af,⟨rfl,(tV P).z⟩⟩
theorem T181.ok:Ae A1 181 AhQ:=by
 refine C3 nQ<|fun(i:At×Int×Int) hi=>?_;obtain⟨c,t,h⟩:=i;have P:AtP c t h:=Uz hi;have N:=tM P;have e:0<=h/\h<((c.2.1.getD t.toNat ([],[])).2.length:Int):=by rw[P.tl];exact P.h0
 have wl:=N.wind.BW N.lay;have a:=N.rise.BW wl;have p:=N.te.BW a;have f:Zs (HH c t h)=true:=w4 (by have:=P.te;omega);have d:=p.cmp IV;have eq:(HH c t h:Rat)+(Ax (BC c h).1+(Ax (BC c h).2.1+Ax (BC c h).2.2.1))=(HH c t h:Rat)+(Ax (BC c h).1+Ax (BC c h).2.1+Ax (BC c h).2.2.1):=by rw[Rat.add_assoc<|Ax (BC c h).1]
 have b:My c t h=_:=ZR _ _;rw[<-eq]at b;refine zn (T181.Ai c t h) (zc (Hv P.h0)<|zc (Hv P.t0)<|zc (Hv e)<|zc f<|zc (Ab (N.wind.num af)<|N.lay.num af)<|zc (Ab (N.rise.num af)<|wl.num af)<|zc (Ab (N.te.num af)<|a.num af)<|zc (Ab (p.num af)<|IV.BV af)<|zf (fun k=>zd<|zr rfl rfl ?_)<|fun k=>zd<|zr rfl rfl ?_)
 ·have k:=w6 k;show BW (aN<|HH c t h) (BW (BC c h).1<|BW (BC c h).2.1 (BC c h).2.2.1)=Az (My c t h);rw[b,wc ?_, <-p.t];intro x;have k:0<=CW (BW (aN<|HH c t h)<|BW (BC c h).1<|BW (BC c h).2.1 (BC c h).2.2.1) [48]:=k;rw[d,wd x]at k;exact wh k af
 ·have k:=w7 k;show[48]=Az (My c t h);rw[b,wd ?_]
  ·exact IV.t
  ·have k:¬0<=CW (BW (aN<|HH c t h)<|BW (BC c h).1<|BW (BC c h).2.1 (BC c h).2.2.1) [48]:=k;rw[d]at k;by_cases x:(HH c t h:Rat)+(Ax (BC c h).1+(Ax (BC c h).2.1+Ax (BC c h).2.2.1))<0
   ·exact x
   ·rw[wc x]at k;exact wh (by split<;>decide) k
theorem oW:Cr AgX:=Aa T181.ok<|Aa T30.ok<|Aa T31.ok<|Aa T74.ok<|Aa T130.ok<|Aa T32.ok<|Aa T87.ok<|Aa T86.ok<|Aa T129.ok<|Aa T77.ok AI
structure LvN(c:At)(l:Int):Prop where
 head:Sp.Nu 20 (CQ c l).2.1 (Ax (CQ c l).2.1)
 next:Sp.Nu 20 (CQ c l).2.2.1 (Ax (CQ c l).2.2.1)
theorem AeQ{c:At}{l:Int}(L:AtL c l):LvN c l:=⟨G8 L.lv.head L.ls.head,G8 L.lv.next L.ls.next⟩
theorem T127.ok:Ae A1 127 AhW:=by
 refine C3 oW<|fun(i:At×Int×Int×Int) hi=>?_;obtain⟨c,t,h,l⟩:=i;obtain⟨P,L,kp,ko,h0,n0⟩:=Ou (c:=c) (t:=t) (h:=h) (l:=l) hi;have N:=tM P;have V:=AeQ L;have fr:=V.head.BW N.roll;have a:=V.next.BW N.roll;have b:=N.pl.cmp fr;have e:=N.pl.DI V.head;have q1:=e.Fj fr h0;have d:=N.pl.DS fr;have m:=d.DI V.next;have q:=m.Fj a n0;have r:=V.head.BW q;refine zn (T127.Ai c t h l) (zc (Hv L.l0) (zc (Hv P.h0)<|zc kp<|zc (Ab (V.head.num af)<|N.roll.num af)<|zc (Ab (N.pl.num af)<|fr.BV af)<|zf (fun k=>?_)<|fun k=>?_))
 ·have k:=w6 k;have k:CW (aS c t h) (BW (CQ c l).2.1 (BC c h).2.2.2.1)<=0:=k;refine zc (Ab (N.pl.num af)<|V.head.num af) (zc (Ab (e.num af)<|fr.nz af h0)<|zd<|zr rfl rfl ?_);show Fj (DI (aS c t h) (CQ c l).2.1) (BW (CQ c l).2.1 (BC c h).2.2.2.1)=Az (S4 c t h l);unfold S4 iS;rw[wd ?_]
  ·exact q1.t
  ·refine Rat.not_lt.1 fun x=>?_
   rw[b,wc<|Rat.not_lt.2<|Rat.le_of_lt x,wd x]at k;exact wh k af
 ·have k:=w7 k;have k:¬CW (aS c t h) (BW (CQ c l).2.1 (BC c h).2.2.2.1)<=0:=k;refine zc (Ab (N.pl.num af)<|fr.BV af) (zc (Ab (d.num af)<|V.next.num af) (zc (Ab (V.next.num af)<|N.roll.num af)<|zc (Ab (m.num af)<|a.nz af n0)<|zc (Ab (V.head.num af)<|q.num af)<|zd<|zr rfl rfl ?_));show BW (CQ c l).2.1 (Fj (DI (DS (aS c t h)<|BW (CQ c l).2.1 (BC c h).2.2.2.1) (CQ c l).2.2.1)<|BW (CQ c l).2.2.1 (BC c h).2.2.2.1)=Az (S4 c t h l);unfold S4 iS;rw[wc ?_]
  ·exact r.t
  ·intro x;refine k ?_;rw[b];by_cases y:My c t h<Ax (CQ c l).2.1+Ax (BC c h).2.2.2.1
   ·rw[wd y];decide
   ·rw[wc y,wc<|Rat.not_lt.2 x];decide
section
open List Int Prod
namespace T16
def T(i n:Int):Tr:=tree E6 false 9 16<|Af ([z8 zm,z8 zm]) (i,n)
theorem Ai(i n:Int):T i n=.di (i<0) (.leaf (.bl true) []) (.leaf (.dat Sh.bool<|decide (i>=n)) []):=by kernel_rfl
end T16
namespace T15
def T(b:Bool)(e:Int):Tr:=tree E6 false 9 15<|Af ([Sh.bool,z8 zm]) (b,e)
theorem Ai(b:Bool)(e:Int):T b e=.ite b (.leaf (.dat i64 e) []) (.leaf (.dat i64 (0:Int)) []):=by kernel_rfl
end T15
namespace T24
def T(h e b w:Int):Tr:=tree E6 false 9 24<|Af ([z8 zm,z8 zm,z8 zm,z8 zm]) (h,e,b,w)
theorem Ai(h e b w:Int):T h e b w=.ite (b !=0) (.ite (h==0) (.leaf (.dat Sh.bool<|e==b) [])<|.leaf (.bl false) []) (.ite (e==0) (.leaf (.dat Sh.bool<|h==w) [])<|.leaf (.bl false) []):=by kernel_rfl
end T24
end
open Go.Sp (At Bi Be AZ EJ Bm Bw q0 q1 n0 n1)
theorem Adv{s:Sh}{sz id:Nat}{ob:Ob}{fz:Bool}{t:TypeId}{o:List s.T}(b:s.sz=sz)(a:AU ob id=some (.arr fz t s o)):CE ⟨0,.leaf,ob,0⟩ (.sl id sz 0 o.length none)=some (true,.dat (.list s) o):=by
 subst b;unfold CE AP.obj;simp only[a,Nat.beq_refl,we];simp
theorem AeN{b e nx:Bm}{t w:List AZ}{n id:Nat}{ob:Ob}{fz:Bool}{ty:TypeId}(g:AU ob id=some (.arr fz ty Cf w))(h:n=w.length):E8 ⟨0,.leaf,ob,0⟩ Ba (.agg [.dat .str b,.dat .str e,.dat .str nx,.dat (.list Cf) t,.sl id 2 0 n none])=some (true,(b,e,nx,t,w)):=by
 subst h;have f:CE ⟨0,.leaf,ob,0⟩ (.sl id 2 0 w.length none)=some (true,.dat (.list Cf) w):=Adv (s:=Cf) (sz:=2) rfl g;have i:Dt ⟨0,.leaf,ob,0⟩ (PV.cells<|.agg [.dat .str b,.dat .str e,.dat .str nx,.dat (.list Cf) t,.sl id 2 0 w.length none])=some (true,[.dat .str b,.dat .str e,.dat .str nx,.dat (.list Cf) t,.dat (.list Cf) w]):=by
  show(match some (true,PV.dat yj b),(match some (true,PV.dat yj e),(match some (true,PV.dat yj nx),(match some (true,PV.dat (.list Cf) t),(match CE ⟨0,.leaf,ob,0⟩ (.sl id 2 0 w.length none),some (true,[])with|some (c,x),some (d,a)=>some (c&&d,x::a)|_,_=>none)with|some (c,x),some (d,a)=>some (c&&d,x::a)|_,_=>none)with|some (c,x),some (d,a)=>some (c&&d,x::a)|_,_=>none)with|some (c,x),some (d,a)=>some (c&&d,x::a)|_,_=>none)with|some (c,x),some (d,a)=>some (c&&d,x::a)|_,_=>none)=_;rw[f];rfl
 unfold E8;rw[i];rfl
theorem Agm{b a nx:Bm}{t w:List AZ}{n id:Nat}{ob:Ob}{fz:Bool}{ty:TypeId}(d:AU ob id=some (.arr fz ty Cf w))(c:n=w.length):Jf [Ba] (.agg [.dat .str b,.dat .str a,.dat .str nx,.dat (.list Cf) t,.sl id 2 0 n none]) ob=some (true,(b,a,nx,t,w)):=AeN d c
theorem AgZ{n m:Nat}(h:n=m)(a:n<=4398046511104):(decide (1<=1)&&true&&decide (n=m)&&decide ((3*(n+1)+2000)*32<=562949953421312))=true:=Ab (Ab (Ab rfl rfl)<|w4 h) (w4 ae)
namespace T37
theorem C5(g f nx:Bm)(t w:List AZ)(m j q:Bm)(u:w.length<=4398046511104):∀(r:List AZ) (i n:Nat) (o:List AZ),w.drop i=r->i<=w.length->n=o.length->o=w.take i->n=i->Ends E6 (L2 (i:Int) o g f nx t n m j q g f nx t w) (Ac tC (g,f,nx,t,w))
 |[],i,n,o,h,l,c,b,a=>by
  have e:=drop_nil h l;have b:o=w:=by rw[b,e,yd]
  subst b;exact zh (AA ..) (zk (w8 ae)<|zd<|zr (Agm rfl c) rfl rfl)
 |p::r,i,n,o,h,l,c,b,a=>by
  have t2:=Sp.jN h;obtain⟨s,y,x⟩:=drop_cons (d:=(([],[]):AZ)) h;have v:=wn (i:=i) ae;have k:=nb (i:=i) (n:=w.length) ae;refine zh (AA ..) ?_;conv=>zeta
  rw[ze,y,v];refine zc (w4 ae) (zc k<|zc k<|zc (AgZ c ae) ?_);exact C5 g f nx t w m j q u r (i+1) (z7 n 1) (o++[p]) x s (by rw[List.length_append,c];rfl) (by rw[t2,b]) (by rw[a])
theorem ok:Ae A1 37 tC:=by
 refine C3 WY<|fun(l:Be) hi=>?_;obtain⟨d,c,nx,t,w⟩:=l;have a:decide (w.length<=4398046511104)=true:=hi;have a:=w6 a;refine zn (Ai (d,c,nx,t,w)) ?_;conv=>zeta
 cases w with
 |nil=>exact zh (Al ..)<|zk rfl (zd<|zr rfl rfl rfl)
 |cons p r=>
  have f:zj .i64 ((0:Int)+1)=((1:Nat):Int):=rfl;have e:(p::r).getD (z6 0) ([],[])=p:=rfl;have b:(decide ((0:Int)<=(0:Int))&&decide ((0:Int)<((p::r).length:Int)))=true:=Ab rfl (w4<|by rw[zp];omega);refine zh (Al ..) ?_;conv=>zeta
  show Ends E6 (.ite (decide ((0:Int)<((p::r).length:Int))) _ _) _;rw[e,f];refine zc (w4<|by rw[zp];omega) (zc b<|zc b<|zc (Ab (Ab rfl rfl)<|w4 ae) ?_);exact C5 d c nx t (p::r) [] [] [] a r 1 1 [p] rfl (by rw[zp];omega) rfl rfl rfl
end T37
open Go.Sp (At Bi Be AZ EJ Bm Bw)
def CV(st:AP)(s:Sh)(v:PV)(l:List s.T):Prop:=∃x,CE st v=some (true,x)/\(x=.dat (.list s) l\/x=.nil/\l=[])
theorem HP{st:AP}{s:Sh}:CV st s .nil []:=⟨.nil,rfl,(by simp)⟩
theorem Jd{s:Sh}{sz id:Nat}{ob:Ob}{fz:Bool}{t:TypeId}{l:List s.T}(b:s.sz=sz)(a:AU ob id=some (.arr fz t s l)):CV ⟨0,.leaf,ob,0⟩ s (.sl id sz 0 l.length none) l:=⟨_,Adv b a,.inl rfl⟩
theorem Aeu{ob:Ob}{a b d:PV}{S:List Bi}{c:List Bw}{V:List Be}(f:CV ⟨0,.leaf,ob,0⟩ Bg a S)(e:CV ⟨0,.leaf,ob,0⟩ BU b c)(h:CV ⟨0,.leaf,ob,0⟩ Ba d V):E8 ⟨0,.leaf,ob,0⟩ AT (.agg [a,b,d])=some (true,(S,c,V)):=by
 obtain⟨x,j,i⟩:=f;obtain⟨y,hy,cy⟩:=e;obtain⟨z,hz,cz⟩:=h;have g:Dt ⟨0,.leaf,ob,0⟩ (PV.cells<|.agg [a,b,d])=some (true,[x,y,z]):=by
  grind [Dt,PV.cells]
 unfold E8;rw[g];rcases i with rfl|⟨rfl,rfl⟩<;>rcases cy with rfl|⟨rfl,rfl⟩<;>rcases cz with rfl|⟨rfl,rfl⟩<;>rfl
theorem Ga{ob:Ob}{a b d:PV}{c:At}(e:CV ⟨0,.leaf,ob,0⟩ Bg a c.1)(f:CV ⟨0,.leaf,ob,0⟩ BU b c.2.1)(g:CV ⟨0,.leaf,ob,0⟩ Ba d c.2.2):Ac Jt c (.agg [a,b,d]) ob:=⟨c,Aeu e f g,rfl⟩
structure WB(c:At):Prop where
 s:c.1.length<=1599289640401
 t:c.2.1.length<=3518437208883
 l:c.2.2.length<=1466015503701
 so:∀x∈c.1,x.2.2.2.2.length<=5864062014805
 lo:∀x∈c.2.2,Sp.mY x=true
theorem Afj{c:At}(h:Sp.rQ c=true):WB c:=by
 unfold Sp.rQ at h;rw[zi,zi,zi,zi,w5,w5,w5,zl,zl]at h;obtain⟨⟨⟨⟨g,e⟩,a⟩,f⟩,d⟩:=h;exact⟨g,e,a,fun x b=>w6<|f x b,d⟩
theorem Fq{i n:Nat}(h:i<n):(decide ((0:Int)<=(i:Int))&&decide ((i:Int)<(n:Int)))=true:=ah
theorem wr1{i:Nat}(h:i<=4611686018427387904):zj .i64 ((i:Int)+1)=((i+1:Nat):Int):=by grind [wr]
theorem nP:Cr B2:=Aa T37.ok AI
namespace T7
theorem AhM(c:At)(f:WB c)(j:c.1=[])(k:c.2.1=[]):∀(r:List Be) (i n:Nat) (o:List Be),c.2.2.drop i=r->i<=c.2.2.length->n=o.length->o=c.2.2.take i->n=i->Ends B2 (L12 c (i:Int) o n) (Ac Jt c)
 |[],i,n,o,h,q,m,b,a=>by
  have e:=drop_nil h q;have b:o=c.2.2:=ah
  subst b;subst m;exact zh (rX ..) (zk ah<|zd<|Ga (by rw[j];exact HP) (by rw[k];exact HP)<|Jd rfl rfl)
 |p::r,i,n,o,h,q,m,b,a=>by
  obtain⟨g,s,t⟩:=drop_cons (d:=(([],[],[],[],[]):Be)) h;have u:=f.lo p ah;have v:=f.l;refine zh (rX ..) ?_;conv=>zeta
  rw[ze,s,wr1 ae];refine zc ah (zc (Fq g) (zc u<|zc ah ?_));exact AhM c f j k r (i+1) (z7 n 1) (o++[p]) t g ah ah (by rw[a])
theorem Aj0(c:At)(a:WB c)(d:c.1=[])(e:c.2.1=[]):Ends B2 (L8 c 0) (Ac Jt c):=by
 cases hr:c.2.2 with
 |nil=>exact zh (DM ..) (by grind [zk,zd,Ga,HP])
 |cons p r=>
  have b:0<c.2.2.length:=ah
  have f:c.2.2.getD (z6 0) ([],[],[],[],[])=p:=ah
  have g:=a.lo p ah;refine zh (DM ..) ?_;conv=>zeta
  rw[f,show zj .i64 ((0:Int)+1)=((1:Nat):Int)from rfl];refine zc ah (zc ah<|zc g (zc (by rfl) ?_));exact AhM c a d e r 1 1 [p] ah b rfl ah rfl
theorem AgY(c:At)(f:WB c)(j:c.1=[]):∀(r:List Be) (i n:Nat) (o:List Be),c.2.2.drop i=r->i<=c.2.2.length->n=o.length->o=c.2.2.take i->n=i->Ends B2 (wR c (i:Int) o c.2.1 c.2.1.length n) (Ac Jt c)
 |[],i,n,o,h,m,k,b,a=>by
  have e:=drop_nil h m;have b:o=c.2.2:=ah
  subst b;subst k;exact zh (Vv ..) (zk ah<|zd<|Ga (by rw[j];exact HP) (Jd rfl rfl)<|Jd rfl rfl)
 |p::r,i,n,o,h,m,k,b,a=>by
  obtain⟨g,q,s⟩:=drop_cons (d:=(([],[],[],[],[]):Be)) h;have t:=f.lo p ah;have u:=f.l;refine zh (Vv ..) ?_;conv=>zeta
  rw[ze,q,wr1 ae];refine zc ah (zc (Fq g) (zc t<|zc ah ?_));exact AgY c f j r (i+1) (z7 n 1) (o++[p]) s g ah ah (by rw[a])
theorem AiZ(c:At)(b:WB c)(a:c.1=[]):Ends B2 (L11 c 0 c.2.1 c.2.1.length) (Ac Jt c):=by
 cases hr:c.2.2 with
 |nil=>exact zh (vG ..) (zk ah (zd<|Ga (by rw[a];exact HP) (Jd rfl rfl)<|by rw[hr];exact HP))
 |cons p r=>
  have d:0<c.2.2.length:=ah
  have e:c.2.2.getD (z6 0) ([],[],[],[],[])=p:=ah
  have f:=b.lo p ah;refine zh (vG ..) ?_;conv=>zeta
  rw[e,show zj .i64 ((0:Int)+1)=((1:Nat):Int)from rfl];refine zc ah (zc ah (zc f<|zc (by rfl) ?_));exact AgY c b a r 1 1 [p] ah d rfl ah rfl
theorem AhK(c:At)(f:WB c)(j:c.2.1=[]):∀(r:List Be) (i n:Nat) (o:List Be),c.2.2.drop i=r->i<=c.2.2.length->n=o.length->o=c.2.2.take i->n=i->Ends B2 (L18 c (i:Int) o c.1 c.1.length n) (Ac Jt c)
 |[],i,n,o,h,m,k,b,a=>by
  have e:=drop_nil h m;have b:o=c.2.2:=ah
  subst b;subst k;exact zh (nE ..) (zk ah<|zd<|Ga (Jd rfl rfl) (by rw[j];exact HP)<|Jd rfl rfl)
 |p::r,i,n,o,h,m,k,b,a=>by
  obtain⟨g,q,s⟩:=drop_cons (d:=(([],[],[],[],[]):Be)) h;have t:=f.lo p ah;have u:=f.l;refine zh (nE ..) ?_;conv=>zeta
  rw[ze,q,wr1 ae];refine zc ah (zc (Fq g) (zc t<|zc ah ?_));exact AhK c f j r (i+1) (z7 n 1) (o++[p]) s g ah ah (by rw[a])
theorem AjM(c:At)(b:WB c)(a:c.2.1=[]):Ends B2 (xD c 0 c.1 c.1.length) (Ac Jt c):=by
 cases hr:c.2.2 with
 |nil=>exact zh (QJ ..) (zk ah<|zd (Ga (Jd rfl rfl) (by rw[a];exact HP)<|by rw[hr];exact HP))
 |cons p r=>
  have d:0<c.2.2.length:=ah
  have e:c.2.2.getD (z6 0) ([],[],[],[],[])=p:=ah
  have f:=b.lo p ah;refine zh (QJ ..) ?_;conv=>zeta
  rw[e,show zj .i64 ((0:Int)+1)=((1:Nat):Int)from rfl];refine zc ah (zc ah (zc f<|zc (by rfl) ?_));exact AhK c b a r 1 1 [p] ah d rfl ah rfl
theorem AhD(c:At)(f:WB c):∀(r:List Be) (i n:Nat) (o:List Be),c.2.2.drop i=r->i<=c.2.2.length->n=o.length->o=c.2.2.take i->n=i->Ends B2 (L19 c (i:Int) o c.2.1 c.1 c.1.length c.2.1.length n) (Ac Jt c)
 |[],i,n,o,h,k,j,b,a=>by
  have e:=drop_nil h k;have b:o=c.2.2:=ah
  subst b;subst j;exact zh (sX ..) (zk ah<|zd<|Ga (Jd rfl rfl) (Jd rfl rfl)<|Jd rfl rfl)
 |p::r,i,n,o,h,k,j,b,a=>by
  obtain⟨g,m,q⟩:=drop_cons (d:=(([],[],[],[],[]):Be)) h;have s:=f.lo p ah;have t:=f.l;refine zh (sX ..) ?_;conv=>zeta
  rw[ze,m,wr1 ae];refine zc ah (zc (Fq g)<|zc s (zc ah ?_));exact AhD c f r (i+1) (z7 n 1) (o++[p]) q g ah ah (by rw[a])
theorem AjK(c:At)(a:WB c):Ends B2 (L17 c 0 c.2.1 c.1 c.1.length c.2.1.length) (Ac Jt c):=by
 cases hr:c.2.2 with
 |nil=>exact zh (wD ..) (zk ah (zd<|Ga (Jd rfl rfl) (Jd rfl rfl)<|by rw[hr];exact HP))
 |cons p r=>
  have b:0<c.2.2.length:=ah
  have d:c.2.2.getD (z6 0) ([],[],[],[],[])=p:=ah
  have e:=a.lo p ah;refine zh (wD ..) ?_;conv=>zeta
  rw[d,show zj .i64 ((0:Int)+1)=((1:Nat):Int)from rfl];refine zc ah (zc ah<|zc e (zc (by rfl) ?_));exact AhD c a r 1 1 [p] ah b rfl ah rfl
theorem te6(c:At)(g:WB c)(l:c.1=[]):∀(r:List Bw) (i n:Nat) (o:List Bw),c.2.1.drop i=r->i<=c.2.1.length->n=o.length->o=c.2.1.take i->n=i->Ends B2 (L7 c (i:Int) o n) (Ac Jt c)
 |[],i,n,o,h,f,m,k,a=>by
  have e:=drop_nil h f;simp_all [zh,C6,AiZ]
 |p::r,i,n,o,h,f,m,k,a=>by
  obtain⟨b,j,q⟩:=drop_cons (d:=(([],[]):Bw)) h;have s:=g.t;refine zh (C6 ..) ?_;conv=>zeta
  rw[ze,j,wr1 ae];refine zc ah (zc (Fq b)<|zc (Fq b)<|zc ah ?_);exact te6 c g l r (i+1) (z7 n 1) (o++[p]) q b ah ah (by rw[a])
theorem ts6(c:At)(e:WB c)(b:c.1=[]):Ends B2 (L4 c 0) (Ac Jt c):=by
 cases hr:c.2.1 with
 |nil=>simp_all [zh,BX,Aj0]
 |cons p r=>
  have a:0<c.2.1.length:=ah
  have d:c.2.1.getD (z6 0) ([],[])=p:=ah
  refine zh (BX ..) ?_;conv=>zeta
  rw[d,show zj .i64 ((0:Int)+1)=((1:Nat):Int)from rfl];refine zc ah (zc ah<|zc ah<|zc (by rfl) ?_);exact te6 c e b r 1 1 [p] ah a rfl ah rfl
theorem Ahi(c:At)(g:WB c):∀(r:List Bw) (i n:Nat) (o:List Bw),c.2.1.drop i=r->i<=c.2.1.length->n=o.length->o=c.2.1.take i->n=i->Ends B2 (L14 c (i:Int) o c.1 c.1.length n) (Ac Jt c)
 |[],i,n,o,h,f,l,k,a=>by
  have e:=drop_nil h f;simp_all [zh,nY,AjK]
 |p::r,i,n,o,h,f,l,k,a=>by
  obtain⟨b,j,m⟩:=drop_cons (d:=(([],[]):Bw)) h;have q:=g.t;refine zh (nY ..) ?_;conv=>zeta
  rw[ze,j,wr1 ae];refine zc ah (zc (Fq b)<|zc (Fq b)<|zc ah ?_);exact Ahi c g r (i+1) (z7 n 1) (o++[p]) m b ah ah (by rw[a])
theorem AjQ(c:At)(d:WB c):Ends B2 (NI c 0 c.1 c.1.length) (Ac Jt c):=by
 cases hr:c.2.1 with
 |nil=>simp_all [zh,G2,AjM]
 |cons p r=>
  have a:0<c.2.1.length:=ah
  have b:c.2.1.getD (z6 0) ([],[])=p:=ah
  refine zh (G2 ..) ?_;conv=>zeta
  rw[b,show zj .i64 ((0:Int)+1)=((1:Nat):Int)from rfl];refine zc ah (zc ah<|zc ah<|zc (by rfl) ?_);exact Ahi c d r 1 1 [p] ah a rfl ah rfl
theorem Ah5(c:At)(u:WB c)(i n:Nat)(o:List Bi)(p:Bi)(a:i<c.1.length)(m:c.1.getD i ([],[],[],[],[])=p)(z:n=o.length)(l:n=i)(K:Ends B2 (L6 c ((i+1:Nat):Int) (o++[p])<|z7 n 1) Q):∀(r:List EJ) (j k:Nat) (q:List EJ),p.2.2.2.2.drop j=r->j<=p.2.2.2.2.length->k=q.length->q=p.2.2.2.2.take j->k=j->Ends B2 (L13 c (i:Int) (j:Int) q o p.1 p.2.1 p.2.2.1 p.2.2.2.1 k n) Q
 |[],j,k,q,h,w,v,t,f=>by
  have e:=drop_nil h w;have t:q=p.2.2.2.2:=ah
  have B:=u.s;subst t;subst v;refine zh (zQ ..) ?_;conv=>zeta
  rw[ze,ze,m,yd,wr1 (i:=i) ae];refine zc (Fq a) (zk ah<|zc (by simp)<|zc ah ?_);exact K
 |b::r,j,k,q,h,w,v,t,f=>by
  obtain⟨g,y,x⟩:=drop_cons (d:=(([],0):EJ)) h;have A:=u.so p ah;refine zh (zQ ..) ?_;conv=>zeta
  rw[ze,ze,m,y,wr1 (i:=j) ae];refine zc (Fq a) (zc ah<|zc (Fq a)<|zc (Fq g) (zc (Fq a)<|zc (Fq g)<|zc ah ?_));exact Ah5 c u i n o p a m z l K r (j+1) (z7 k 1) (q++[b]) x g ah ah (by rw[f])
theorem in8(c:At)(f:WB c)(i n:Nat)(o:List Bi)(p:Bi)(a:i<c.1.length)(e:c.1.getD i ([],[],[],[],[])=p)(m:n=o.length)(d:n=i)(K:Ends B2 (L6 c ((i+1:Nat):Int) (o++[p])<|z7 n 1) Q):Ends B2 (L9 c (i:Int) 0 o p.1 p.2.1 p.2.2.1 p.2.2.2.1 n) Q:=by
 have q:=f.s;obtain⟨h,g,j,k,l⟩:=p;refine zh (sS ..) ?_;conv=>zeta
 rw[ze,e,wr1 (i:=i) ae];cases l with
 |nil=>
  refine zc (Fq a) (zk rfl (zc ah ?_));exact K
 |cons b r=>
  refine zc (Fq a) (zc (by simp)<|zc (Fq a) (zc (by simp)<|zc (Fq a)<|zc (by simp) (zc (by rfl) ?_)));exact Ah5 c f i n o (h,g,j,k,b::r) a e m d K r 1 1 [b] rfl (by simp) rfl rfl rfl
theorem si5(c:At)(j:WB c):∀(r:List Bi) (i n:Nat) (o:List Bi),c.1.drop i=r->i<=c.1.length->n=o.length->o=c.1.take i->n=i->Ends B2 (L6 c (i:Int) o n) (Ac Jt c)
 |[],i,n,o,h,g,f,l,a=>by
  have e:=drop_nil h g;simp_all [zh,CL,AjQ]
 |p::r,i,n,o,h,g,f,l,a=>by
  obtain⟨b,k,m⟩:=drop_cons (d:=(([],[],[],[],[]):Bi)) h;have K:=si5 c j r (i+1) (z7 n 1) (o++[p]) m b ah ah (by rw[a]);have q:=in8 c j i n o p b k f a K;simp_all [zh,CL]
theorem in4(c:At)(o:WB c)(p:Bi)(s:0<c.1.length)(f:c.1.getD 0 ([],[],[],[],[])=p)(K:Ends B2 (L6 c ((1:Nat):Int) [p] 1) Q):∀(r:List EJ) (j k:Nat) (q:List EJ),p.2.2.2.2.drop j=r->j<=p.2.2.2.2.length->k=q.length->q=p.2.2.2.2.take j->k=j->Ends B2 (L5 c 0 (j:Int) q p.1 p.2.1 p.2.2.1 p.2.2.2.1 k) Q
 |[],j,k,q,h,n,m,g,a=>by
  have e:=drop_nil h n;have g:q=p.2.2.2.2:=ah
  subst g;subst m;refine zh (Dl ..) ?_;conv=>zeta
  rw[show z6 0=0 from rfl,ze,f,yd,show zj .i64 ((0:Int)+1)=((1:Nat):Int)from rfl];refine zc ah (zk ah<|zc (by simp)<|zc (by rfl) ?_);exact K
 |b::r,j,k,q,h,n,m,g,a=>by
  obtain⟨l,u,t⟩:=drop_cons (d:=(([],0):EJ)) h;have v:=o.so p ah;refine zh (Dl ..) ?_;conv=>zeta
  rw[show z6 0=0 from rfl,ze,f,u,wr1 (i:=j) ae];refine zc ah (zc ah<|zc ah (zc (Fq l)<|zc ah<|zc (Fq l)<|zc ah ?_));exact in4 c o p s f K r (j+1) (z7 k 1) (q++[b]) t l ah ah (by rw[a])
theorem in2(c:At)(i:WB c)(p:Bi)(d:0<c.1.length)(a:c.1.getD 0 ([],[],[],[],[])=p)(K:Ends B2 (L6 c ((1:Nat):Int) [p] 1) Q):Ends B2 (L3 c 0 0 p.1 p.2.1 p.2.2.1 p.2.2.2.1) Q:=by
 obtain⟨g,f,h,e,l⟩:=p;refine zh (Bo ..) ?_;conv=>zeta
 rw[show z6 0=0 from rfl,a,show zj .i64 ((0:Int)+1)=((1:Nat):Int)from rfl];cases l with
 |nil=>
  simp_all
 |cons b r=>
  refine zc ah (zc (by simp) (zc ah<|zc (by simp)<|zc ah<|zc (by simp)<|zc (by rfl) ?_));exact in4 c i (g,f,h,e,b::r) d a K r 1 1 [b] rfl (by simp) rfl rfl rfl
theorem ok:Ae A1 7 Jt:=by
 refine AX (X:=B2) rfl nP (d:=9) (by rfl) (by rfl) (by rfl) (fun(c:At) hi=>?_) (Ak ag);have b:=Afj hi;refine zn (Ai c)<|zh (Al ..) ?_;cases hr:c.1 with
 |nil=>simp_all [zh,AA,ts6]
 |cons p r=>
  have a:0<c.1.length:=ah
  have e:c.1.getD 0 ([],[],[],[],[])=p:=ah
  have k:=in2 c b p a e (si5 c b r 1 1 [p] ah a rfl ah rfl);simp_all [zh,AA]
end T7
open Go.Sp (At)
theorem T16.ok:Ae A1 16 qY:=by
 refine AX (X:=E6) rfl (fun g sp h=>by cases h) (d:=9) ag ag ag (fun(i:Int×Int) _=>?_) (Ak ag);obtain⟨i,n⟩:=i;refine zn (T16.Ai i n)<|zf (fun c=>zd<|zr rfl rfl ?_)<|fun c=>zd<|zr rfl rfl ?_
 ·show true=HS i n;unfold HS;rw[c];rfl
 ·show decide (n<=i)=HS i n;unfold HS;rw[c];rfl
theorem T15.ok:Ae A1 15 Hz:=by
 refine AX (X:=E6) rfl (fun g sp h=>by cases h) (d:=9) ag ag ag (fun(i:Bool×Int) _=>?_) (Ak ag);obtain⟨b,e⟩:=i;refine zn (T15.Ai b e) ?_;conv=>zeta
 cases b
 ·exact zk rfl (zd<|zr rfl rfl rfl)
 ·exact zc rfl (zd<|zr rfl rfl rfl)
theorem T24.ok:Ae A1 24 gM:=by
 refine AX (X:=E6) rfl (fun g sp h=>by cases h) (d:=9) ag ag ag (fun(i:Int×Int×Int×Int) _=>?_) (Ak ag);obtain⟨h,e,b,w⟩:=i;have f:∀v ob,v=Rm h e b w->Ac gM (h,e,b,w) (.dat .bool v) ob:=fun v ob x=>zr rfl rfl x
 have a:∀v ob,v=Rm h e b w->Ac gM (h,e,b,w) (.bl v) ob:=fun v ob x=>zr rfl rfl x
 refine zn (T24.Ai h e b w)<|zf (fun c=>zf (fun d=>zd<|f _ _ ?_)<|fun d=>zd<|a _ _ ?_)<|fun c=>zf (fun d=>zd<|f _ _ ?_)<|fun d=>zd<|a _ _ ?_;all_goals unfold Rm
 ·rw[wd (by simpa using c),w4<|show h=0 by simpa using d];rfl
 ·rw[wd (by simpa using c),w8<|show ¬h=0 by simpa using d];rfl
 ·rw[wc (by simpa using c),w4<|show e=0 by simpa using d];rfl
 ·rw[wc (by simpa using c),w8<|show ¬e=0 by simpa using d];rfl
theorem rC{c:At}(k:HR c=0):GD c false=0:=by
 unfold GD;rw[wc<|fun x=>x k];rfl
theorem cA{e:Int}(h:e≠0):Rm 0 e e 0=true:=by
 unfold Rm;rw[wd h,w4 rfl,w4 rfl];rfl
theorem AeD(n:Int):Rm n 0 0 n=true:=by
 unfold Rm;rw[wc af,w4 rfl,w4 rfl];rfl
end Go.Pe
namespace Go.Sp
theorem Sj{s:Bm}(h:isName s=true):s.length<=24:=by
 cases s with
 |nil=>simp
 |cons c s=>
  unfold isName at h;rw[zi,zi,w5]at h;have:=h.1.1;rw[zp];omega
theorem Ul{n:Int}:∀ {l:List Bw} {seen:List Bm},GZ n seen l=0->∀t∈l,isName t.1=true
 |[],_,_,t,b=>by cases b
 |x::l,seen,h,t,b=>by
  unfold GZ at h;split at h
  ·exact wh h af
  next a=>
  split at h
  ·exact wh h af
  split at h
  ·exact wh h af
  split at h
  ·exact wh h af
  rcases zy.1 b with rfl|b
  ·simpa using a
  ·exact Ul h t b
theorem Yp:∀ {l:List AZ} {seen:List Bm},YW seen l=0->∀w∈l,isName w.1=true
 |[],_,_,w,hw=>by cases hw
 |x::l,seen,h,w,hw=>by
  unfold YW at h;split at h
  ·exact wh h af
  next a=>
  split at h
  ·exact wh h af
  split at h
  ·next k=>exact wh h k
  split at h
  ·exact wh h af
  rcases zy.1 hw with rfl|hw
  ·simpa using a
  ·exact Yp h w hw
theorem mF{l:Be}(h:KU l=0):∀w∈l.2.2.2.2,isName w.1=true:=by
 unfold KU at h;split at h
 ·next k=>exact wh h k
 split at h
 ·next k=>exact wh h k
 unfold OB at h;split at h
 ·exact wh h af
 exact Yp h
theorem zA{c:At}(h:HR c=0):(∀t∈c.2.1,isName t.1=true)/\∀l∈c.2.2,∀w∈l.2.2.2.2,isName w.1=true:=by
 unfold HR at h;split at h
 ·exact wh h af
 split at h
 ·exact wh h af
 split at h
 ·next k=>exact wh h k
 unfold VC at h;split at h
 ·exact wh h af
 split at h
 ·exact wh h af
 split at h
 ·next k=>exact wh h k
 next a=>
 unfold S2 at h;split at h
 ·exact wh h af
 split at h
 ·exact wh h af
 exact⟨Ul<|Classical.not_not.1 a,fun l b=>mF<|NW h l b⟩
theorem AfQ{c:At}{n d:Int}(h:KS c n d=true)(g:YZ n d=true):HR c=0/\Gc c=true:=by
 obtain⟨_,A,_,z⟩:=NN g;unfold KS at h;simp only[zi,w5,zl]at h;obtain⟨⟨⟨a,b⟩,e⟩,hs,hl,k⟩:=h;refine⟨k,?_⟩;obtain⟨nt,nl⟩:=zA k;have C:=GV k;have u:c.1.all Bg=true:=zl.2 fun x f=>fE (hs x f) g
 have t:c.2.1.all BU=true:=zl.2 fun x f=>by
  have:=Sj<|nt x f;have:=(C.te x f).1;have:=C.s1.2;unfold BU;rw[w4 ae,w4 ae];rfl
 have v:c.2.2.all Ba=true:=zl.2 fun x f=>by
  have m:=cE (hl x f) g;have w:=hl x f;unfold EH at w;simp only[zi,w5]at w;unfold LN at m;simp only[zi,w5]at m;obtain⟨⟨⟨⟨l,r⟩,o⟩,s⟩,i⟩:=m;have q:HQ x.2.2.2.2 40 20=true:=by
   unfold HQ;rw[zl]at i ⊢;intro y j;have:=Sj<|nl x f y j;rw[w4 ae,i y j];rfl
  unfold Ba;rw[w4 (p:=x.1.length<=40) ae,w4 l,w4 r,w4 o,w4 (p:=x.2.2.2.2.length<=20) ae,s,q];rfl
 unfold Gc;rw[w4 (p:=c.1.length<=38) ae,w4 (p:=c.2.1.length<=10) ae,w4 (p:=c.2.2.length<=10) ae,u,t,v];rfl
theorem Pc{s:Bm}{d:Nat}(h:Cp s (d:Int)=true):Cz d (Ax s):=by
 have e:Ao s=0:=by
  simp_all [Cp]
 exact(pZ e).z.mono<|qE h
theorem AhI{n:Int}(h:1<=n/\n<=10000):Cz 5 (n:Rat):=by
 grind [Rat.num_intCast,yi,Cz]
theorem bM:Cz 1 (0:Rat):=by unfold Cz;simp
structure StF(s:Bi):Prop where
 rise:Cz 4 (Ax s.1)
 wind:Cz 4 (Ax s.2.1)
 lay:Cz 4 (Ax s.2.2.1)
 roll:Cz 4 (Ax s.2.2.2.1)
 len:s.2.2.2.2.length<=6
structure LvF(l:Be):Prop where
 head:Cz 4 (Ax l.2.1)
 next:Cz 4 (Ax l.2.2.1)
 SQ:∀p∈l.2.2.2.1,Cz 4 (Ax p.1)/\Cz 4 (Ax p.2)
 wts:∀p∈l.2.2.2.2,Cz 4 (Ax p.2)
theorem yI{s:Bi}{n:Int}(f:n<=6)(h:Il s n 4=true):StF s:=by
 unfold Il at h;simp only[zi,w5]at h;obtain⟨⟨⟨⟨a,b⟩,c⟩,d⟩,e⟩:=h;exact⟨Pc b,Pc c,Pc d,Pc e,by omega⟩
theorem pD{l:Be}{n:Int}(h:EH l n 4=true):LvF l:=by
 unfold EH fwP fwW at h;simp only[zi,w5,zl]at h;obtain⟨⟨⟨_,b⟩,c⟩,d,e⟩:=h;exact⟨Pc b,Pc c,(by grind [Pc]),fun p hp=>Pc<|e p hp⟩
theorem Adi{s:Bi}{n:Int}(h:StF s)(a:1<=n/\n<=10000):Cz 20 (plV s n):=by
 rw[ZR];split
 ·exact bM.mono af
 ·exact((AhI a).add<|(h.rise.add h.wind).add h.lay).mono af
theorem AdB{p a n r:Rat}(hp:Cz 20 p)(b:Cz 4 a)(c:Cz 4 n)(hr:Cz 4 r)(h0:a+r≠0)(n0:n+r≠0):Cz 48 (iS p a n r):=by
 unfold iS;split
 ·exact((hp.mul b).div (b.add hr) h0).mono af
 ·exact(b.add<|((hp.sub<|b.add hr).mul c).div (c.add hr) n0).mono af
theorem AbK{x:Rat}(b:Cz 48 x):∀(l:List AZ) (o:Option AZ),(∀q,o=some q->Cz 4 (Ax q.1)/\Cz 4 (Ax q.2))->(∀p∈l,Cz 4 (Ax p.1)/\Cz 4 (Ax p.2))->(o=none->l≠[])->D0 o l=0->Cz 77 (Qj (o.map pt) (l.map pt) x)
 |[],none,_,_,h,_=>ah
 |[],some q,c,_,_,_=>by
  exact(c q rfl).2.mono af
 |p::l,none,_,e,_,d=>by
  have k:=e p (by simp);show Cz 77<|Qj none (pt p::l.map pt) x;rw[Su];split
  ·exact AbK b l (some p) ah ah (by simp) (JN d).2.2
  ·exact k.2.mono af
 |p::l,some q,c,e,_,d=>by
  have k:=e p (by simp);have j:=c q rfl;obtain⟨_,_,a,f⟩:=Ia d;show Cz 77<|Qj (some<|pt q) (pt p::l.map pt) x;rw[Q1];split
  ·exact AbK b l (some p) ah ah (by simp) f
  ·exact(j.2.add<|((k.2.sub j.2).mul<|b.sub j.1).div (k.1.sub j.1)<|OG a).mono af
theorem Abe{n:Int}(h:0<=n/\n<=10):Cz 2 ((n:Rat)/10):=(Go.Pe.Ni h).z
theorem AeG{ws:List AZ}(a:∀w∈ws,Cz 4<|Ax w.2):∀ {l:List EJ},(∀o∈l,0<=o.2/\o.2<=10)->Cz (1+7*l.length) (obV ws l)
 |[],_=>bM
 |o::l,c=>by
  have i:=AeG a (l:=l) ah;rw[SI,K0,zp];cases b:ws.find? fun w=>decide (w.1=o.1)with
  |none=>
   rw[Rat.zero_mul,Rat.zero_add];exact i.mono ae
  |some w=>exact(((a w ah).mul<|Abe ah).add i).mono ae
theorem LO{c:At}{n:Int}(f:KS c n 4=true):(∀s∈c.1,Il s n 4=true)/\(∀l∈c.2.2,EH l n 4=true)/\(c.1.length:Int)<=n:=by
 simp_all [KS]
theorem AfO{c:At}{t h l n:Int}(a:n<=6)(f:KS c n 4=true)(k:Nf c t h l=true):Cz 122 (CA c t h l):=by
 obtain⟨P,L,_,ko,h0,n0⟩:=Go.Pe.Ou k;obtain⟨f1,f2,_⟩:=LO f;have S:=yI a (f1 (BC c h) (Gw (by have:=P.h0;omega)));have V:=pD (f2 (CQ c l) (Gw (by have:=L.l0;omega)));have e:=AdB (Adi S P.te) V.head V.next S.roll h0 n0;obtain⟨h1,_,h3⟩:=DK L.lv.SQ;have v:=AbK e (CQ c l).2.2.2.1 none (by simp) V.SQ (fun _=>h1) h3;have o:=AeG V.wts P.st.obs;exact(v.add o).mono (by have:=S.len;omega)
end Go.Sp
