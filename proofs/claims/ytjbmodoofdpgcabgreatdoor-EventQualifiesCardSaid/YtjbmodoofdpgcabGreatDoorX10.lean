import Derived.Test.YtjbmodoofdpgcabGreatDoorX09
import Derived.ChangeSame
import Derived.Test.YtjbmodoofdpgcabGreatDoorRows
import Derived.LaidByTextLater
import Derived.SevenTiedAt
import Derived.LaidSub
import Derived.LaidOnce
/- A part of a proof; no law is stated here. -/
noncomputable section
open Go.Pe.Ends renaming tt -> Za, leaf -> Zc, A4 -> Ze, ite -> Zg, ff -> Zh
open Go.Sp renaming placesOf -> Zb, first -> Zr
open Go.DataW renaming trod -> Zd
open Int renaming toNat_natCast -> Zf
open List renaming append_nil -> Zi, take_succ_eq_append_getElem -> Zj, countP_le_length -> Zk, getD_eq_getElem?_getD -> Zl, getElem?_eq_getElem -> Zn, take_of_length_le -> Zo, range -> Zq
open Nat renaming zero_le -> Zm, beq -> Zs
open Go.World renaming cell? -> Zp
namespace Go.Pe
open Sp
open Go.Det
theorem O6:BY Dj 65 Kj:=Lh ac (D4 ac) ac
theorem Oy:Un AM:=Be T29.ok<|Be T30.ok<|Be T28.ok<|Be T31.ok Lm
theorem RN:∀g w,AM.ws g=some w->BY Dj g w:=MJ (l:=[(65,Kj)]) fun x a=>by
 rw[List.mem_singleton.1 a];exact O6
theorem Ow(n:Nat)(b:Bool)(e:Int):Zr [FY (decide ((n:Int)>200)) 5,FY b 3,e]=if 200<n then 5 else if b=true then 3 else e:=by
 by_cases h:200<n
 ·rw[wa h,w4<|show(n:Int)>200 by omega];rfl
 ·rw[w9 h,w8<|show ¬(n:Int)>200 by omega];cases b with
  |true=>rfl
  |false=>
   show(if e≠0 then e else 0)=e;split
   ·rfl
   ·omega
theorem My(l:List Int)(p:Int):II l p=if 200<l.length then 5 else if EK l=true then 3 else BT p 0 200:=by
 unfold II KW;split
 ·next h=>rw[wa aa]
 ·split
  ·next h=>rw[wa aa]
  ·rw[w9 aa]
theorem HU:∀(l:List Int) (i j:Nat),j<l.length->(Zb (fun _=>true) i l)[j]?=some ((i+j:Nat):Int)
 |x::l,i,0,_=>by
  unfold Zb;rw[wa rfl];rfl
 |x::l,i,j+1,h=>by
  have a:=HU l (i+1) j (by rw[List.length_cons]at h;omega);unfold Zb;rw[wa rfl,List.getElem?_cons_succ,a,show i+1+j=i+(j+1)by omega]
theorem LD(l:List Int):Zb (fun _=>true) 0 l=Cs (l.length:Int):=by
 have n:(Zb (fun _=>true) 0 l).length=l.length:=by
  rw[AQ,List.countP_true]
 refine List.ext_getElem? fun j=>?_
 by_cases h:j<l.length
 ·rw[HU l 0 j h,Ke a8,Nat.zero_add]
 ·rw[List.getElem?_eq_none a8,List.getElem?_eq_none<|by rw[Ec];omega]
namespace T6
variable {Q:PV->Ob->Prop}{l:List Int}{p n:Int}
def St(l:List Int)(p n:Int)(i:Nat)(a b:List Int):Tr:=if a=[]then(if b=[]then L9 l p n l l.length i else Tk l p n b.length l l.length i b)else(if b=[]then Te l p n a.length l l.length i a else RU l p n a.length b.length l l.length i b a)
theorem loop(I:l.length<=1000000)(C:Ends AM (St l p n l.length (Zb (fun x=>decide (x<n)) 0 l)<|Zb (fun x=>decide (x=n)) 0 l) Q):∀(k i:Nat),i+k=l.length->Ends AM (St l p n i (Zb (fun x=>decide (x<n)) 0<|l.take i)<|Zb (fun x=>decide (x=n)) 0<|l.take i) Q
 |0,i,h=>by
  have e:i=l.length:=h;rw[Zo a8,e];exact C
 |k+1,i,h=>by
  have m:=loop I C k (i+1) a8;have q:i<l.length:=a8
  have E:=T10.Jp (l:=l) (fun x=>decide (x<n)) i;have G:=T10.Jp (l:=l) (fun x=>decide (x=n)) i;rw[T10.Gz _ q,T10.Gz _ q]at m;generalize Zb (fun x=>decide (x<n)) 0 (l.take i)=a at m E ⊢;generalize Zb (fun x=>decide (x=n)) 0 (l.take i)=b at m G ⊢;have z:=Sf (i:=i) a8;have v:l.getD i 0<n->Ends AM (St l p n (i+1) (a++[(i:Int)]) b) Q:=fun c=>by
   rw[wa<|w4 c,w9 (fun h=>by have:=w6 h;omega),Zi]at m;exact m
  have u:l.getD i 0=n->Ends AM (St l p n (i+1) a<|b++[(i:Int)]) Q:=fun c=>by
   rw[w9 (fun h=>by have:=w6 h;omega),wa<|w4 c,Zi]at m;exact m
  have w:¬l.getD i 0<n->¬l.getD i 0=n->Ends AM (St l p n (i+1) a b) Q:=fun c d=>by
   rw[w9 (by simpa using c),w9 (by simpa using d),Zi,Zi]at m;exact m
  have B:a++[(i:Int)]≠[]:=by simp
  have nb:b++[(i:Int)]≠[]:=by simp
  have t:(a++[(i:Int)]).length=Nat.add a.length 1:=List.length_append;have r:(b++[(i:Int)]).length=Nat.add b.length 1:=List.length_append;have lt:decide ((i:Int)<(l.length:Int))=true:=w4 a8;have J:∀ {c:Bool},(l.getD i 0==n)=c->c=decide (l.getD i 0=n):=fun h=>by rw[<-h];rfl
  by_cases o:a=[]
  ·by_cases f:b=[]
   ·subst o f;show Ends AM (L9 l p n l l.length i) Q;refine Ze (OJ ..) ?_;conv=>zeta
    rw[z,Zf];refine Za lt (Za (NB q)<|Zg (fun c=>Za QK<|v<|w6 c)<|fun c=>Zg (fun d=>Za QK<|u<|by simpa using d) (fun d=>w (w7 c)<|by simpa using d))
   ·subst o;have s:∀(j:Nat) (c:List Int),c≠[]->St l p n j [] c=Tk l p n c.length l l.length j c:=fun j c A=>by unfold St;rw[wa rfl,w9 A]
    rw[s _ _ f];refine Ze (Mh ..) ?_;conv=>zeta
    rw[z,Zf];refine Za lt (Za (NB q)<|Zg (fun c=>Za QK ?_)<|fun c=>Zg (fun d=>Za (Rf rfl a8) ?_)<|fun d=>?_)
    ·have g:=v<|w6 c;unfold St at g;rw[w9 B,w9 f]at g;exact g
    ·have g:=u (by simpa using d);rw[s _ _ nb,r]at g;exact g
    ·have g:=w (w7 c) (by simpa using d);rw[s _ _ f]at g;exact g
  ·by_cases f:b=[]
   ·subst f;have s:∀(j:Nat) (c:List Int),c≠[]->St l p n j c []=Te l p n c.length l l.length j c:=fun j c A=>by unfold St;rw[w9 A,wa rfl]
    rw[s _ _ o];refine Ze (Ma ..) ?_;conv=>zeta
    rw[z,Zf];refine Za lt (Za (NB q)<|Zg (fun c=>Za (Rf rfl a8) ?_)<|fun c=>Zg (fun d=>Za QK ?_)<|fun d=>?_)
    ·have g:=v<|w6 c;rw[s _ _ B,t]at g;exact g
    ·have g:=u (by simpa using d);unfold St at g;rw[w9 o,w9 nb]at g;exact g
    ·have g:=w (w7 c) (by simpa using d);rw[s _ _ o]at g;exact g
   ·have s:∀(j:Nat) (x y:List Int),x≠[]->y≠[]->St l p n j x y=RU l p n x.length y.length l l.length j y x:=fun j x y F D=>by unfold St;rw[w9 F,w9 D]
    rw[s _ _ _ o f];refine Ze (Mf ..) ?_;conv=>zeta
    rw[z,Zf];refine Za lt (Za (NB q)<|Zg (fun c=>Za (Rf rfl a8) ?_)<|fun c=>Zg (fun d=>Za (Rf rfl a8) ?_)<|fun d=>?_)
    ·have g:=v<|w6 c;rw[s _ _ _ B f,t]at g;exact g
    ·have g:=u (by simpa using d);rw[s _ _ _ o nb,r]at g;exact g
    ·have g:=w (w7 c) (by simpa using d);rw[s _ _ _ o f]at g;exact g
theorem fin{a b:List Int}(j:l.length<=1000000)(h:a.length<=l.length)(p0:0<=p)(g:p<(l.length:Int))(d:∀v ob,FV [Dw,Dw,i64,i64] v ob=some (true,(a,(if (a.length:Int)=p then[]else b),(if (a.length:Int)=p then 0 else p-a.length),0))->Q v ob):Ends AM (St l p n l.length a b) Q:=by
 have lt:decide ((l.length:Int)<(l.length:Int))=false:=w8 a8;have i:∀m:Int,(m==p)=decide (m=p):=fun m=>rfl
 unfold St;by_cases e:(a.length:Int)=p
 ·rw[wa e,wa e]at d;by_cases f:a=[]
  ·subst f;have z:((0:Int)==p)=true:=by simpa using e
   by_cases c:b=[]
   ·rw[wa rfl,wa c];exact Ze (OJ ..)<|Zh lt<|Za z<|Zc<|d _ _ rfl
   ·rw[wa rfl,w9 c];exact Ze (Mh ..)<|Zh lt<|Za z<|Zc<|d _ _ rfl
  ·have z:((a.length:Int)==p)=true:=by simpa using e
   by_cases c:b=[]
   ·rw[w9 f,wa c];exact Ze (Ma ..)<|Zh lt<|Za z<|Zc<|d _ _<|A6 (Co rfl rfl rfl) rfl
   ·rw[w9 f,w9 c];exact Ze (Mf ..)<|Zh lt<|Za z<|Zc<|d _ _<|A6 (Co rfl rfl rfl) rfl
 ·rw[w9 e,w9 e]at d;by_cases f:a=[]
  ·subst f;have z:((0:Int)==p)=false:=by simpa using e
   have w:IntKind.wrap .i64 (p-0)=p-(([]:List Int).length:Int):=wr _ a8 a8;by_cases c:b=[]
   ·subst c;rw[wa rfl,wa rfl];refine Ze (OJ ..)<|Zh lt<|Zh z<|Zc<|d _ _ ?_;rw[w];rfl
   ·rw[wa rfl,w9 c];refine Ze (Mh ..)<|Zh lt<|Zh z<|Zc<|d _ _ ?_;rw[w];exact A6 rfl (A6 (Co rfl rfl rfl) rfl)
  ·have z:((a.length:Int)==p)=false:=by simpa using e
   have w:IntKind.wrap .i64 (p-(a.length:Int))=p-(a.length:Int):=wr _ a8 a8;by_cases c:b=[]
   ·subst c;rw[w9 f,wa rfl];refine Ze (Ma ..)<|Zh lt<|Zh z<|Zc<|d _ _ ?_;rw[w];exact A6 (Co rfl rfl rfl) rfl
   ·rw[w9 f,w9 c];refine Ze (Mf ..)<|Zh lt<|Zh z<|Zc<|d _ _ ?_;rw[w];exact A6 (Co rfl rfl rfl)<|A6 (Co rfl rfl rfl) rfl
theorem TJ{v0 o1 o0:List Int}{v7 v8:Int}(h0:0<l.length)(d:l.length<=1000000)(p0:0<=p)(b:p<(l.length:Int))(c:Ends AM (L8 l p<|AN l p) Q):∀(k i:Nat),i+k=l.length->Ends AM (L7 l p v0 v7 v8 l l.length i (l.take i) i o1 o0) Q
 |0,i,h=>by
  have e:i=l.length:=h;have sl:(Go.Det.sorted l).length=l.length:=Hg l;rw[Zo a8,e];exact Ze (Kf ..) (Zh (w8 a8) (Za (Bc (Bc (Bc (w4 a8)<|w4 d)<|w4 rfl) rfl)<|Za (Bc (w4 p0)<|w4 b)<|Za (w4<|by rw[sl];omega) c))
 |k+1,i,h=>by
  have f:=TJ (v0:=v0) (o1:=o1) (o0:=o0) (v7:=v7) (v8:=v8) h0 d p0 b c k (i+1) a8;have a:i<l.length:=a8
  have t:l.take (i+1)=l.take i++[l.getD i 0]:=by
   rw[Zj a,Zl,Zn a];rfl
  rw[t]at f;refine Ze (Kf ..) ?_;conv=>zeta
  rw[Sf (i:=i) a8,Zf];exact Za (w4 a8) (Za (NB a)<|Za (Rf (by rw[List.length_take];omega) a8) f)
theorem start{v0 o1 o0:List Int}{v7 v8:Int}(h0:0<l.length)(c:l.length<=1000000)(p0:0<=p)(b:p<(l.length:Int))(d:Ends AM (L8 l p<|AN l p) Q):Ends AM (L4 l p v0 v7 v8 l l.length 0 o1 o0) Q:=by
 have a:=TJ (v0:=v0) (o1:=o1) (o0:=o0) (v7:=v7) (v8:=v8) h0 c p0 b d (l.length-1) 1 a8;have t:l.take 1=[l.getD 0 0]:=by
  rw[Zj h0,Zl,Zn h0];rfl
 rw[t]at a;exact Ze (Mx ..) (Za (w4 a8)<|Za (NB h0)<|Za QK a)
theorem find(q:l.length<=1000000)(f:EK l=true->∀b e,e=Zr [FY (decide ((l.length:Int)>200)) 5,FY b 3,BT p 0 200]->b=true->∀ob,Q (.tup [.nil,.nil,.dat i64 0,.dat i64 e]) ob)
  (a:EK l=false->Ends AM (L1 l p l l.length l.length) Q):∀(r:List Int) (i:Nat),l.drop i=r->i<=l.length->EK l=EK r->Ends AM (L1 l p l l.length i) Q
 |[],i,h,m,e=>by
  have:=drop_nil h m;rw[this];exact a e
 |x::r,i,h,m,e=>by
  obtain⟨k,o,s⟩:=drop_cons (d:=(0:Int)) h;have g:EK (x::r)=((decide (x< -999999999)||decide (x>999999999))||EK r):=List.any_cons;have j:Zr [FY (decide ((l.length:Int)>200)) 5,FY (decide ((i:Int)>=0)) 3,BT p 0 200]≠0:=by
   rw[Ow,w4<|show(i:Int)>=0 by omega];split
   ·decide
   ·rw[wa rfl];decide
  refine Ze (Bx ..) ?_;conv=>zeta
  rw[Zf,o,Sf (i:=i) a8];refine Za (w4 a8) (Za (NB k)<|Zg (fun c=>Za rfl (Za rfl (Za rfl (Za rfl (Za (by simpa using j)<|Zc<|f ?_ _ _ rfl (w4 a8) _)))))<|fun c=>Zg (fun d=>Za rfl (Za rfl (Za rfl (Za rfl (Za (by simpa using j)<|Zc<|f ?_ _ _ rfl (w4 a8) _)))))<|fun d=>find q f a r (i+1) s k ?_)
  ·have c:decide (x< -999999999)=true:=c;rw[e,g,c];rfl
  ·have d:decide (x>999999999)=true:=d;rw[e,g,d,Bool.or_true];rfl
  ·have c:decide (x< -999999999)=false:=c;have d:decide (x>999999999)=false:=d;rw[e,g,c,d];rfl
theorem ok:Aq Dj 6 M6:=by
 refine R8 (X:=AM) rfl Oy (d:=9) ac ac ac (fun(i:List Int×Int) hi=>?_) (D4 ac) RN;obtain⟨l,p⟩:=i;have g:l.length<=1000000:=w6 hi;have a:∀(e:Int) ob,e≠0->e=II l p->AV M6 (l,p) (.tup [.nil,.nil,.dat i64 0,.dat i64 e]) ob:=fun e ob h0 h=>by
  refine⟨([],[],0,e),rfl,?_⟩;show(([]:List Int),([]:List Int),(0:Int),e)=(KY l p,KX l p,Nu l p,II l p);unfold KY KX Nu;rw[<-h,wa h0,wa h0,wa h0]
 refine Ends.eq (Ch l p)<|find g (fun f b e m k ob=>?_) (fun f=>?_) l 0 rfl (Zm _) rfl
 ·have q:e=II l p:=by rw[m,Ow,My,f,k]
  refine a e ob ?_ q;rw[q,My,f];split
  ·decide
  ·rw[wa rfl];decide
 ·have q:Zr [FY (decide ((l.length:Int)>200)) 5,FY false 3,BT p 0 200]=II l p:=by rw[Ow,My,f]
  refine Ze (Bx ..) (Zh (w8 a8)<|Za rfl (Za rfl (Za rfl (Za rfl ?_))));rw[q];refine Zg (fun c=>Zc<|a _ _ (by simpa using c) rfl)<|fun c=>?_;have c:II l p=0:=by simpa using c
  have j:BT p 0 200=0:=by
   rw[My,f]at c;split at c
   ·cases c
   ·rw[w9 aa]at c;exact c
  have p0:0<=p:=by
   unfold BT at j;split at j
   ·cases j
   ·omega
  have val:(KY l p,KX l p,Nu l p,II l p)=(Iu l p,Ih l p,EM l p,(0:Int)):=by
   unfold KY KX Nu;rw[c];rfl
  refine Zg (fun d=>Za (ad a8 a8)<|Zc ⟨(Cs (l.length:Int),[],0,0),rfl,?_⟩)<|fun d=>?_
  ·have d:=w6 d;show _=(KY l p,KX l p,Nu l p,II l p);rw[val];have i:Iu l p=Cs (l.length:Int):=by
    unfold Iu;rw[wa d];exact LD l
   have t:Ih l p=[]:=by
    unfold Ih Ga;rw[wa d];split<;>rfl
   have z:EM l p=0:=by
    unfold EM;rw[wa<|.inl d]
   rw[i,t,z]
  ·have d:=w7 d;have d:p<(l.length:Int):=a8
   refine start a8 g p0 d<|Ze (Oq ..) ?_;have go:=loop (l:=l) (p:=p) (n:=AN l p) (Q:=AV M6 (l,p)) g ?_ l.length 0 a8
   ·exact go
   refine fin g (by rw[AQ];exact Zk) p0 d fun v ob h=>⟨_,h,?_⟩
   show _=(KY l p,KX l p,Nu l p,II l p);have i:Iu l p=Zb (fun x=>decide (x<AN l p)) 0 l:=by
    unfold Iu;rw[w9 a8]
   have t:Ga l p=Zb (fun x=>decide (x=AN l p)) 0 l:=by
    unfold Ga;rw[w9 a8]
   rw[val, <-i, <-t];have z:EM l p=if ((Iu l p).length:Int)=p then 0 else p-(Iu l p).length:=by
    unfold EM;by_cases e:((Iu l p).length:Int)=p
    ·rw[wa<|.inr e,wa e]
    ·rw[w9 a8,w9 e]
   rw[z];rfl
end T6
theorem PB:Un Uj:=Be PU<|Be T4.ok<|Be T6.ok<|Be T8.ok<|Be T9.ok<|Be T7.ok<|Be T10.ok<|Be T11.ok Lm
abbrev Dm:AE:=Sa
theorem T3.ok:Aq Dj 3 Dm:=by
 refine Pg PB<|fun(i:List Int×Int) _=>?_;obtain⟨l,p⟩:=i;have e:∀b ob,b=true->AV Sa (l,p) (.dat .bool b) ob:=fun b ob h=>AV.of rfl rfl h
 refine Ends.eq (T3.Ch l p)<|Za rfl (Zg (fun _=>Za rfl (Zc<|e _ _ rfl))<|fun a=>?_);have m:l.length<=205:=by
  have a:(decide (20<l.length)&&decide (l.length<=200)||decide (205<l.length))=false:=a;rw[Bool.or_eq_false_iff,decide_eq_false_iff_not]at a;omega
 have d:decide (l.length<=1000000)=true:=w4 a8;have j:Zr [KW l,BT p 0 200]=II l p:=by
  unfold II;show(if KW l≠0 then KW l else if BT p 0 200≠0 then BT p 0 200 else 0)=_;by_cases h:KW l=0
  ·rw[w9 (c:=KW l≠0)<|fun k=>k h,w9 (c:=KW l≠0)<|fun k=>k h];split<;>omega
  ·rw[wa h,wa h]
 have f:(KY l p).length<=1000000:=by
  unfold KY Iu;split
  ·exact Zm _
  ·split<;>rw[AQ]<;>exact Nat.le_trans Zk a8
 have g:(KX l p).length<=1000000:=by
  unfold KX Ih Ga;split
  ·exact Zm _
  ·split
   ·exact Zm _
   ·split
    ·exact Zm _
    ·rw[AQ];exact Nat.le_trans Zk a8
 refine Za d<|Za d<|Za rfl (Za rfl ?_);rw[j];refine Zg (fun c=>?_)<|fun c=>?_
 ·have c:II l p=0:=by simpa using c
  have p0:0<=p/\p<=200:=by
   have h:=c;unfold II at h;split at h
   ·next k=>exact wd h k
   ·unfold BT at h;split at h
    ·cases h
    ·omega
  obtain⟨s1,s2,s3⟩:=NQ (l:=l) p0.1;have a1:KY l p=Mb l p:=by unfold KY;rw[w9 a8,s1]
  have a2:KX l p=Fl l p:=by unfold KX;rw[w9 a8,s2]
  have a3:Nu l p=EX l p:=by unfold Nu;rw[w9 a8,s3]
  refine Za (Bc (Bc d<|w4 p0.1)<|w4 a8) (Za (by simp)<|Za (w4 f)<|Za (w4 a1) (Za (w4 g)<|Za (w4 a2)<|Za (by rw[a3];simp)<|Za rfl (Zc<|e _ _ rfl)))
 ·have c:II l p≠0:=by simpa using c
  have a1:KY l p=[]:=by unfold KY;rw[wa c]
  have a2:KX l p=[]:=by unfold KX;rw[wa c]
  have a3:Nu l p=0:=by unfold Nu;rw[wa c]
  exact Za (by simp) (Za (w4 f)<|Za (w4 a1)<|Za (w4 g) (Za (w4 a2)<|Za (by rw[a3];rfl)<|Za rfl (Zc<|e _ _ rfl)))
end Go.Pe
namespace Go.Det
open Go.ChangeShapes Go.WideShapes Go.RowKit
theorem AJ{α e:Type}{f g:α->Option e}:∀ {l:List α} {b:List e},l.mapM f=some b->(∀a∈l,∀y∈b,f a=some y->g a=some y)->l.mapM g=some b
 |[],b,h,_=>by grind
 |a::l,b,h,i=>by
  rw[List.mapM_cons]at h ⊢;cases c:f a with
  |none=>grind
  |some y=>
   rw[c]at h;cases d:l.mapM f with
   |none=>grind
   |some j=>
    rw[d]at h;cases h;rw[i a (by simp) y (by simp) c,AJ d ae];rfl
def Oi(P:Program)(L:List TypeId)(t:TypeId):Bool:=match P.underlying t with
 |some (.pointer e)|some (.array _ e)|some (.map _ e)=>L.contains e
 |some (.slice e)=>L.contains e&&Nat.ble 1 (P.cellsOf e)
 |some (.struct fs)=>fs.toList.all fun f=>L.contains f.type
 |_=>true
def E2(P:Program)(L:List TypeId):Bool:=L.all<|Oi P L
section
variable {H:Type}{enc:TypeId×Value->H}{P:Program}{W W':World}
theorem RF{L:List TypeId}(h:E2 P L=true){t:TypeId}(a:t∈L):Oi P L t=true:=List.all_eq_true.1 h t a
theorem Lo(b:Below W.heap.size W W'){a:Addr}{v:Value}(h:W.cell? a=some v):W'.cell? a=some v:=by
 have c:a.block<W.heap.size:=by
  grind [Zp]
 unfold Zp at h ⊢;rw[b.block _ c];exact h
theorem JR(b:Below W.heap.size W W'){a:Addr}{n:Nat}{cs:List Value}(h:W.cells? 0 a n=some cs):W'.cells? 0 a n=some cs:=by
 unfold World.cells? at h ⊢;grind [AJ,Lo]
theorem CQ(e:Below W.heap.size W W'){b:Type}{a:Addr}{n:Nat}{f g:List Value->Option b}{y:b}(h:(W.cells? 0 a n).bind f=some y)(c:∀cs,f cs=some y->g cs=some y):(W'.cells? 0 a n).bind g=some y:=by
 cases d:W.cells? 0 a n with
 |none=>grind
 |some cs=>
  grind [JR]
theorem GB(s:Below W.heap.size W W'){L:List TypeId}(A:E2 P L=true){sp:Nat->Bool}:∀(fuel:Nat) (t:TypeId) (cs:List Value) (x:DataW H×List MemPlace),t∈L->
  Zd enc P W 0 (fun _=>true) true fuel t cs=some x->(∀p∈x.2,sp p.block=true)->Zd enc P W' 0 sp true fuel t cs=some x
 |0,_,_,_,_,h,_=>by cases h
 |fuel+1,t,cs,x,F,h,K=>by
  have R:=GB s A (sp:=sp) fuel;have m:=RF A F;unfold Oi at m;unfold Zd at h ⊢;split at h<;>try simp only[reduceCtorEq]at h
  all_goals try exact h
  case h_6 e a q=>
   have d:e∈L:=ae
   cases z:(W.cells? 0 a<|P.cellsOf e).bind (Zd enc P W 0 (fun _=>true) true fuel e)with
   |none=>grind
   |some y=>
    rw[z]at h;cases h;rw[CQ s z (g:=Zd enc P W' 0 sp true fuel e) ae];rfl
  case h_8 e a len cap q=>
   have d:e∈L/\P.cellsOf e≠0:=by
    rw[q]at m;simp only[Bool.and_eq_true,List.contains_iff_mem]at m;have:=Nat.le_of_ble_eq_true m.2;grind
   by_cases o:0<=a.block/\len<=cap/\cap<=maxLen
   ·rw[wa o]at h ⊢;have step:∀(i:Nat) (y:DataW H×List MemPlace),(W.cells? 0 (a.add<|i*P.cellsOf e)<|P.cellsOf e).bind (Zd enc P W 0 (fun _=>true) true fuel e)=some y->(∀p∈y.2,sp p.block=true)->
      (W'.cells? 0 (a.add<|i*P.cellsOf e)<|P.cellsOf e).bind (Zd enc P W' 0 sp true fuel e)=some y:=(by grind [CQ])
    cases c:(Zq len).mapM (fun i=>(W.cells? 0 (a.add<|i*P.cellsOf e)<|P.cellsOf e).bind<|Zd enc P W 0 (fun _=>true) true fuel e)with
    |none=>grind
    |some r=>
     rw[c]at h;simp only[wg,Option.bind_some]at h;cases B:(Zq<|cap-len).mapM (fun j=>(W.cells? 0 (a.add<|(len+j)*P.cellsOf e)<|P.cellsOf e).bind<|Zd enc P W 0 (fun _=>true) true fuel e)with
     |none=>grind
     |some D=>
      rw[B]at h;cases h;rw[AJ c ae];have G:=AJ B fun j _ y E J=>step (len+j) y J ae
      by_cases w:sp a.block=true
      ·grind
      ·have O:(r.length+D.length)*P.cellsOf e=0:=by
        rcases Nat.eq_zero_or_pos ((r.length+D.length)*P.cellsOf e)with h0|h0
        ·exact h0
        ·refine wd (K (.cell a.block<|a.off+0)<|List.mem_append_left _ ?_) w;simp only[MemPlace.row,List.mem_map,List.mem_range];exact⟨0,h0,rfl⟩
       grind [Nat.mul_eq_zero]
   grind
  case h_9 cs _ _ fs q=>
   have d:∀f∈fs.toList,f.type∈L:=by
    grind
   by_cases o:cs.length=P.cellsOf t
   ·rw[wa o]at h ⊢;cases c:fs.toList.mapM (fun f=>Zd enc P W 0 (fun _=>true) true fuel f.type<|(cs.drop f.offset).take<|P.cellsOf f.type)with
    |none=>grind
    |some r=>
     grind [AJ]
   grind
  case h_10 cs _ _ n e q=>
   have d:e∈L:=ae
   by_cases o:cs.length=P.cellsOf t
   ·rw[wa o]at h ⊢;cases c:(Zq n).mapM (fun i=>Zd enc P W 0 (fun _=>true) true fuel e<|(cs.drop<|i*P.cellsOf e).take<|P.cellsOf e)with
    |none=>grind
    |some r=>
     grind [AJ]
   grind
  case h_14 k e b q=>
   have M:b<W.heap.size:=by
    grind
   rw[s.block _ M];split at h
   case h_2=>cases h
   rename_i es clock I;split at h
   case isFalse=>cases h
   cases c:(es.toList.mapM fun x=>(keyOf P k x.key).bind fun key=>if x.val.formed P e then(Zd enc P W 0 (fun _=>true) true fuel e x.val.cells.toList).map fun y=>((key,y.1),y.2)else none)with
   |none=>grind
   |some r=>
    rw[c]at h;simp only[Option.bind_some]at h;split at h
    case isFalse=>cases h
    rw[AJ c fun C _ y E v=>?_]
    ·grind
    ·cases m:keyOf P k C.key with
     |none=>grind
     |some key=>
      rw[m]at v;split at v
      case isFalse=>cases v
      cases N:Zd enc P W 0 (fun _=>true) true fuel e C.val.cells.toList with
      |none=>grind
      |some u=>
       grind
theorem Ln(e:Below W.heap.size W W'){L:List TypeId}(b:E2 P L=true){sp:Nat->Bool}{t:TypeId}{v:Value}{d:DataW H}{p:List MemPlace}
  (g:t∈L) (h:DataW.Trod enc P W 0 (fun _=>true) true t v d p) (f:∀q∈p,sp q.block=true):DataW.Trod enc P W' 0 sp true t v d p:=by
 obtain⟨a,c⟩:=h;exact⟨a,(by grind [GB])⟩
theorem CJ(f:Below W.heap.size W W'){L:List TypeId}(e:E2 P L=true){sp:Nat->Bool}:∀ {ts:List TypeId} {vs:List Value} {ds:List (DataW H)} {p:List MemPlace},(∀t∈ts,t∈L)->
  DataW.TrodAll enc P W 0 (fun _=>true) true ts vs ds p->(∀q∈p,sp q.block=true)->DataW.TrodAll enc P W' 0 sp true ts vs ds p
 |[],vs,ds,p,_,h,_=>by
  obtain⟨rfl,rfl,rfl⟩:=trodAll_nil h;rfl
 |t::ts,vs,ds,p,m,h,k=>by
  obtain⟨v,c,d,i,a,b,rfl,rfl,rfl,j,g⟩:=trodAll_cons h;exact⟨a,b,(by grind [Ln]),CJ f e ae g ae,rfl⟩
theorem NC{f:Func}{s:ChangeSpec}{apart fresh a e:Bool}{args:Array Value}{ds E:List (DataW H)}{c:List MemPlace}{tb:TypeId}
  (hW:DataW.Whole enc P f.params.toList s.vars apart W args.toList ds E c) (A:s.vars=[]) (D:f.resultTypes= #[tb]) (x:P.underlying tb=some .bool)
  (F:s.fn H ds={ results:=[.lit<|.bool true],args:=ds }) (v:Below W.heap.size W W') {L:List TypeId} (G:E2 P L=true) (B:f.params.toList.all L.contains=true):
  s.post enc P f apart fresh a e W args (.bool true) W':=by
 have m:=hW.lt;have B:∀t∈f.params.toList,t∈L:=ae;obtain⟨p,q,z,C,rfl,g,h⟩:=hW;have i:=C;rw[A]at i;obtain⟨rfl,rfl⟩:=trodVars_none i;simp only[Zi]at m g h ⊢;have o:DataW.Whole enc P f.params.toList s.vars apart W args.toList ds [] p:=⟨p,[],z,C,by simp,g,h⟩;have k:∀(b:Nat) (sp:Nat->Bool) (y:Bool),DataW.TrodAll enc P W' b sp y f.resultTypes.toList ((Value.bool true).resultList f.resultTypes.size) [.lit<|.bool true] []:=by
  intro b sp y;rw[D];exact⟨[],[],shut_bool x true,rfl,rfl⟩
 have u:∀(j:Nat) (t:TypeId) (r:Value),f.resultTypes[j]?=some t->((Value.bool true).resultList f.resultTypes.size)[j]?=some r->Value.okWide P W' .any 0 t r:=by
  exact ok_one D rfl (okWide_bool_mk x true)
 have d:∀sp:Nat->Bool,DataW.TrodVars enc P W' sp s.vars [] []:=fun sp=>by rw[A];rfl
 refine⟨ds,[],p,[],p,[],o,?_,?_,?_,World.keptBut_mono (by simp) (v.frame (· ∈p)),fun _=>?_⟩
 ·grind
 ·grind [CJ]
 ·grind
 ·refine⟨u,_,_,([]++p)++[],⟨[]++p,[],trodAll_append (CJ v G B z<|by simp)<|k _ _ _,d _,rfl,?_,?_⟩,?_⟩
  ·intro b off w;have w:MemPlace.cell b off∈p:=ae
   rw[v.frozen<|show b<W.heap.size from m _ w];exact g b off w
  ·grind
  grind
end
def Gf(k:Nat):Value->V
 | .bool b=>.bool b
 | .int q n=>.int q n
 | .string s=>.str s.data.toList
 | .pointer none=>.nilp
 | .slice none 0 0=>.nils
 | .slice (some _) 0 0=>.es0
 | .slice (some ⟨r,off,none⟩) len cap=>if r<k/\len<=cap then .sl r off len cap 0 else .junk
 | .map none=>.nilm
 | .nilFunc=>.nilf
 | .nilIface=>.nili
 |_=>.junk
def RR(W:World)(r:Nat):Nat:=match W.heap[r]? with
 |some (.cells c _ _)=>c.size
 |_=>0
def pW(W:World):Pl:=(Zq W.heap.size).map fun r=>(r,RR W r)
theorem Fk{W:World}{r:Nat}(h:r<W.heap.size):(pW W)[r]?=some (r,RR W r):=by
 simp[pW,h]
def Hs(W:World)(r:Nat):Option O:=match W.heap[r]? with
 |some (.cells c t _)=>if c.size=0 then none else some<|.cells (c.toList.map<|Gf W.heap.size) t (0,c.size)
 |_=>none
def NU(W:World):Nat->H
 |0=>⟨.leaf,0⟩
 |n+1=>⟨(NU W n).m.set n<|Hs W n,n+1⟩
theorem QQ(W:World):∀n,(NU W n).nx=n
 |0=>rfl
 |_+1=>rfl
theorem KJ(W:World):∀(n b:Nat),(NU W n).get b=if b<n then Hs W b else none
 |0,b=>by simp[NU,H.get]
 |n+1,b=>by
  have a:=KJ W n b;unfold H.get at a ⊢;simp only[NU,PM.Bd];grind
def hW(W:World):H:=NU W W.heap.size
theorem Hr(W:World)(b:Nat):(hW W).get b=Hs W b:=by
 simp_all [hW,KJ,Hs]
theorem Gq{W:World}{v:Value}(h:(Gf W.heap.size v).ok=true):Aa (pW W) (Gf W.heap.size v) v:=by
 revert h;unfold Gf;split<;>intro h
 case h_6=>simp_all [Aa]
 case h_7 r off len cap _=>
  split
  ·simp_all [Aa,Fk]
  ·rename_i a;rw[w9 a]at h;cases h
 case h_11=>cases h
 all_goals simp only[Aa]
 rfl
theorem UW(W:World):R (pW W) (hW W) W:=by
 refine⟨by simp[pW,hW,QQ],fun b o a=>?_,fun b b' o o' r n n' a h q k=>?_⟩
 ·rw[Hr]at a;unfold Hs at a;split at a
  case h_2=>cases a
  rename_i c t fz f;split at a
  case isTrue=>cases a
  cases a;have e:b<W.heap.size:=ae;have j:RR W b=c.size:=by unfold RR;rw[f]
  refine⟨b,c.size,_,by rw[Fk e,j],f,c,fz,rfl,rfl,by simp,⟨by simp,fun i d v m s g=>?_⟩,a8⟩;grind [Gq]
 grind [Hr,Hs,Fk]
theorem QX{W W':World}{p':Pl}{h':H}(d:Ext (pW W) (hW W) W p' h' W'):RowKit.Below W.heap.size W W':=by
 refine⟨d.os,d.tape,d.out,d.size,fun k j=>?_⟩;by_cases h:Im (pW W) (hW W) k
 ·obtain⟨b,o,n,g,f⟩:=h;have a:=g;rw[Hr]at a;unfold Hs at a;split at a
  case h_2=>cases a
  rename_i c t fz m;split at a
  case isTrue=>cases a
  cases a;have e:b<W.heap.size:=ae;have i:RR W b=c.size:=by unfold RR;rw[m]
  rw[Fk e,i]at f;cases f;exact(d.lock _ j ⟨_,_,_,_,_,g,by rw[Fk e,i],rfl,Nat.le_refl _,a8⟩).1
 ·exact d.same k j h
end Go.Det
namespace Go.Pe
open Go.Det
def FW(W:World):Fz:=fun b=>match (hW W).get b with
 |some (.cells cs _ _)=>some cs
 |_=>none
def JD:(s:Sh)->s.T->Prop
 | .int k,x=>k.min<=(x:Int)/\(x:Int)<=k.max
 | .bool,_=>True
 | .str,x=>(x:Y).length<=maxLen
 | .list s,l=>(l:List s.T).length<=maxLen/\∀x∈(l:List s.T),JD s x
 | .pair a b,x=>JD a x.1/\JD b x.2
 | .unit,_=>True
 | .nlist _,_=>True
 | .fnv,_=>True
 | .ptr _,_=>True
def P8(P:Program)(f:TypeId->Option Sh):Nat->List Field->Option Sh
 |_,[]=>some .unit
 |o,[x]=>match f x.type with
  |some s=>bif Zs x.offset o&&Zs (P.cellsOf x.type) s.sz then some s else none
  |none=>none
 |o,x::y::l=>match f x.type with
  |some s=>bif Zs x.offset o&&Zs (P.cellsOf x.type) s.sz then(P8 P f (o+s.sz) (y::l)).map (.pair s)else none
  |none=>none
def SM(P:Program):Nat->TypeId->Option Sh
 |0,_=>none
 |f+1,t=>match P.underlying t with
  |some (.int k)=>some<|.int k
  |some .bool=>some .bool
  |some .string=>some .str
  |some (.slice e)=>match SM P f e with
   |some s=>bif Zs (P.cellsOf e) s.sz&&Nat.blt 0 s.sz then some (.list s)else none
   |none=>none
  |some (.struct fs)=>match P8 P (SM P f) 0 fs.toList with
   |some s=>bif Zs (P.cellsOf t) s.sz then some s else none
   |none=>none
  |_=>none
section
variable {H:Type}{enc:TypeId×Value->H}{P:Program}{W:World}
theorem Qd{r:Nat}{c:Array Value}{t:TypeId}{fz:Nat×Nat}(h:W.heap[r]?=some (.cells c t fz))(h0:c.size≠0):FW W r=some (c.toList.map<|Gf W.heap.size):=by
 simp_all [FW,Hr,Hs]
theorem IQ{a:Addr}{n:Nat}{cs:List Value}(h:W.cells? 0 a n=some cs)(j:0<n):
  ∃c t fz,W.heap[a.block]?=some (.cells c t fz)/\a.spot=none/\a.off+n<=c.size/\cs=(c.toList.drop a.off).take n:=by
 have m:=mapM_some_length h;have d:=mapM_some_get h;have h0:=d 0 0 (by simp[j]);have g:a.add 0=a:=by rfl
 obtain⟨v0,b⟩:∃v,cs[0]?=some v:=ae;rw[b]at h0;unfold Zp at h0;split at h0
 case h_2=>cases h0
 rename_i c t fz e;split at h0
 case isTrue=>cases h0
 have k:a.spot=none:=by simp_all
 have f:∀i,i<n->c[a.off+i]?=cs[i]?:=by
  grind [Zp,Addr.add]
 refine⟨c,t,fz,e,k,?_,?_⟩
 ·have:=f (n-1) a8;grind
 ·apply List.ext_getElem?;grind
theorem ME{α:Type}{p:Nat->α->Prop}:∀n:Nat,(∀i,i<n->∃x,p i x)->∃l:List α,l.length=n/\∀i (h:i<l.length),p i l[i]
 |0,_=>(by simp)
 |n+1,h=>by
  obtain⟨l,a,d⟩:=ME n fun i b=>h i a8
  obtain⟨x,c⟩:=h n a8;refine⟨l++[x],by simp[a],fun i b=>?_⟩;grind
end
open Go.Det Go.RowKit
section
open Go.Proofs.Tryz (prog)
theorem Qf{F':Fz}{v:V}(h:PC F' (.dat .bool true) v):v=.bool true:=by
 have:=h (fun _=>none) 0;simp only[PR,DC]at this;simpa using this
def GW(W:World):Prop:=∀x∈CG,Hs W x.1=some x.2
theorem GW.h{W:World}(h:GW W):Gh (hW W):=fun x a=>by rw[Hr];exact h x a
theorem GW.p{W:World}(h:GW W):Gp (pW W):=fun x f=>by
 have a:=h x f;unfold Hs at a;split at a
 case h_2=>cases a
 rename_i c t fz e;split at a
 case isTrue=>cases a
 have d:x.1<W.heap.size:=(Array.getElem?_eq_some_iff.1 e).1;have g:RR W x.1=c.size:=by unfold RR;rw[e]
 rw[Fk d,g];cases b:x.2 with
 |cells cs i fz'=>rw[b]at a;cases a;simp[UO]
 |_=>rw[b]at a;cases a
theorem H5{f:FuncId}{sp:AE}(ok:Aq Dj f sp)(i:(A5 sp.ins).T)(d:sp.pre i=true){args:List V}{args':Array Value}{W:World}(c:GW W)(x:Gg (FW W) (Ah sp.ins i) args)
  (u:Ab (pW W) args args'.toList) (a:∀F' v,PC F' (one<|Ah sp.outs<|sp.f i) v->v=.bool true) (s:Dj.prim f=none:=by kernel_rfl):
  Calls prog f args' W fun e W'=>e=.returned (.bool true)/\Below W.heap.size W W':=by
 obtain⟨l,M,q,_,m⟩:=(ok.zero s).run (FW W) (hW W) args i (fun b cs h=>by
  unfold FW at h;split at h
  case h_2=>cases h
  rename_i cs' t fz j;cases h;exact⟨t,fz,j⟩) (fun b o h=>(UW W).lt h) c.h x d
 refine((Dv SL Og Mm M).fn f args (hW W) l (q M<|Nat.le_refl _) (pW W) W args' (UW W) c.p u).mono ?_;rintro e w' ⟨v,h',v',p',k,rfl,g,r⟩;obtain⟨_,_,_,F',_,_,_,w⟩:=m _ k;obtain rfl:=a F' v w;refine⟨?_,QX r⟩;simp only[Aa]at g;rw[g]
end
end Go.Pe
namespace Go.Proofs.YtjbmodoofdpgcabGreatDoor
open Go
set_option maxRecDepth 100000
theorem seatTie1:Tryz.prog.laidByTextLater [("math/bits.deBruijn32tab",Rows.laid_math_bits_deBruijn32tab),("math/bits.deBruijn64tab",Rows.laid_math_bits_deBruijn64tab),("internal/strconv.uint64pow10",Rows.laid_internal_strconv_uint64pow10),("unicode/utf8.acceptRanges",Rows.laid_unicode_utf8_acceptRanges),("strconv.ErrRange",Rows.laid_strconv_ErrRange),("strconv.ErrSyntax",Rows.laid_strconv_ErrSyntax)] [.data,.data,.data,.data,.sentinel,.sentinel] true:=
 Program.laidByTextLater_by_one 72 8 65 ac ac ac ac ac ac (fun _ _=>by kernel_rfl)
theorem noOwnUnsafe:Tryz.pinned.checked.prog.headLifts.contains "ownunsafe"=false:=by kernel_rfl
theorem fits1:Tryz.pinned.checked.prog.listedFits Rows.eventQualifiesRow.laid=true:=by
 unfold Program.listedFits;rw[noOwnUnsafe];kernel_rfl
theorem eventQualifies_row_tie:Rows.eventQualifiesRow.laidByTextAt .later Tryz.pinned [.data,.data,.data,.data,.sentinel,.sentinel,.pinned] true:=by
 refine OpenClaim.laidByTextAt_pinned rfl rfl seatTie1 rfl rfl rfl rfl (fun y a _e=>?_) fits1;simp only[Rows.eventQualifiesRow,List.zip_cons_cons,List.zip_nil_right,List.mem_cons,List.mem_nil_iff,or_false]at a;rcases a with rfl|rfl|rfl|rfl|rfl|rfl|rfl
 ·cases _e
 ·cases _e
 ·cases _e
 ·cases _e
 ·cases _e
 ·cases _e
 ·exact⟨by kernel_rfl,by kernel_rfl⟩
end Go.Proofs.YtjbmodoofdpgcabGreatDoor
