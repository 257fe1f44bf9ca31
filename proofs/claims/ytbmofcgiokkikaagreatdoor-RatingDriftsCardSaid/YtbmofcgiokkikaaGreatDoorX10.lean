import Derived.Test.YtbmofcgiokkikaaGreatDoorX09
import Derived.Lib.ItoaMem
/- A part of a proof; no law is stated here. -/
noncomputable section
open Go.IntKind renaming wrap -> zc, u64 -> zd, u8 -> zz, wrap_i64 -> yq
open Go.Sp renaming vI -> ze, Ds -> z6, u64 -> yo, first -> yz, sg -> y7
open UInt8 renaming toNat -> zf
open Go.Pe.Ends renaming tt -> zg, leaf -> zj, ite -> zk, eq -> ym
open Int renaming mul_le_mul_of_nonneg_right -> zh, eq_ofNat_of_zero_le -> zo, mul_nonneg -> zp, fdiv -> zq, mul_assoc -> zr, add_mul -> zt, toNat_natCast -> zu, lt_or_le -> zw, mul_comm -> zx, one_mul -> z8, lt_of_le_of_lt -> ya, le_of_lt -> yb, natCast_pow -> yc, tdiv -> ye, fdiv_eq_ediv_of_nonneg -> yf, mul_le_mul_of_nonneg_left -> yh, natCast_mul -> yk, tdiv_eq_ediv_of_nonneg -> yp, tmod -> yr, zero_add -> yv, ediv_nonneg -> yx, pow_succ -> y8
open Go.Pe.Sh renaming str -> zi, bool -> zl, int -> zn, list -> yg
open Bool renaming and_eq_true -> zm, false_eq_true -> yn
open Go.Pe.PV renaming agg -> zy
open Go.Pe.Ac renaming of -> z7
open Nat renaming sub -> yd, two_pow_pos -> yw, pow_add -> yy
open List renaming length -> yi, map -> yj
open Min renaming min -> yt
open BitVec renaming ofInt -> yu
namespace Go.Pe
open Sp
open Go.Det
theorem Vl(k:Nat):((Ar^k:Nat):Int)=(Ar:Int)^k:=yc ..
theorem Li{n:Int}{k:Nat}(h0:0<=n)(h:n<(Ar:Int)^k):(BD n).length<=k:=by
 refine Pw Ar af k n.toNat n.toNat ?_;rw[<-Vl]at h;generalize Ar^k=P at*;omega
theorem Dm{n:Int}{k:Nat}(h0:0<=n)(h:n<(Ar:Int)^k)(d:k<=20000):Cy (BD n)=true/\Db (BD n)=true/\Aw (BD n)=n:=by
 have c:=Li h0 h;have a:Db (BD n)=true:=EG ae (Gj af n);have b:Sp.nzW (BD n)=true:=by
  unfold Sp.nzW;exact w4 (aY af n)
 exact⟨by unfold Cy;rw[a,b];rfl,a,Di af h0⟩
theorem Ci{a:AM}(h:Bg a=true):z6 a=true/\a.2.length<=9000:=by
 unfold Bg at h;rw[zm,w5]at h;exact h
theorem Ye{s:Int}{w:List Int}(a:w≠[]):ze (s,w)=if s<0 then -Aw w else Aw w:=by unfold ze;exact wc a
theorem QO{a:AM}(h:z6 a=true):(a.2=[]/\Ai (ze a)<=9223372036854775808)\/(BD (Ai<|ze a)=a.2):=by
 obtain⟨hr,b⟩:=Ei h;obtain⟨s,w⟩:=a;have hr: -9223372036854775808<=s/\s<9223372036854775808:=hr;rcases b with b|⟨f,e,d⟩
 ·have b:w=[]:=b;subst b;refine .inl ⟨rfl,?_⟩;rw[FQ];simp only[Al];omega
 ·obtain⟨n1,g,i⟩:=FN (l:=w) f;have e:s=1\/s= -1:=e;have d:9223372036854775808<=Aw w:=d;have c:w≠[]:=by rintro rfl;exact wh d af
  refine .inr ?_;have j:Ai (ze (s,w))=Aw w:=by rw[Ye c];simp only[Al];split<;>omega
  rw[j];exact(I5 af g i).symm
theorem AP(n:Int):0<=Ai n:=by simp only[Al];omega
theorem JE{a:AM}(h:z6 a=true){k:Nat}(g:a.2.length<=k)(c:1<=k):Ai (ze a)<(Ar:Int)^k:=by
 rcases QO h with⟨_,e⟩|he
 ·have:=AT (b:=Ar) af c;rw[Int.pow_one]at this;have f:(9223372036854775808:Int)<(Ar:Int):=af
  exact ya e<|Int.lt_of_lt_of_le f this
 ·have d:=Di (b:=Ar) af<|AP<|ze a;have:=Bz (b:=Ar) af (Gj (b:=Ar) af<|Ai<|ze a);rw[d,show Sp.dg Ar (Ai<|ze a)=a.2 from he]at this;exact Int.lt_of_lt_of_le this (AT af g)
theorem NI{x y:Int}(f:0<=x)(g:x<(Ar:Int)^9000)(h:y<(Ar:Int)^9000):x+y<(Ar:Int)^9001/\x*y<(Ar:Int)^18000:=by
 have e:(Ar:Int)^9001=(Ar:Int)^9000*Ar:=y8 ..;have d:(Ar:Int)^18000=(Ar:Int)^9000*(Ar:Int)^9000:=Int.pow_add _ 9000 9000;rw[e,d];generalize (Ar:Int)^9000=P at*;refine⟨?_,?_⟩
 ·show x+y<P*18446744073709551616;omega
 ·have a:=yh (show y<=P-1 by omega) f;have b:=zh (show x<=P-1 by omega) (show 0<=P-1 by omega);have c:(P-1)*(P-1)=P*P-P-P+1:=by
   rw[Int.sub_mul,Int.mul_sub];omega
  omega
theorem DU(n:Bool)(v:Int):y7 n v=if n=true then -v else v:=rfl
theorem CJ(n:Int):ze (Dd n)=n:=by
 unfold Dd;split
 ·exact FQ
 ·have a:=Di (b:=Ar) af<|AP n;have c:BD (Ai n)≠[]:=by
   intro h;rw[show Sp.dg Ar (Ai n)=[]from h]at a;have:(0:Int)=Ai n:=a;simp only[Al]at this;omega
  rw[Ye c,show Aw (BD<|Ai n)=Ai n from a];simp only[Al];split<;>split<;>omega
theorem dK{a:AM}{c:Bool}(h:(!decide (0<a.2.length))=c):(c=true->a.2=[])/\(c=false->a.2≠[]):=by
 subst h;rcases a with⟨s,w⟩
 cases w<;>simp
theorem Qh{a:AM}(h:(!decide (0<a.2.length))=true):a.2=[]:=(dK h).1 rfl
theorem nI{a:AM}(h:(!decide (0<a.2.length))=false):a.2≠[]:=(dK h).2 rfl
theorem BG{a:AM}(h:a.2=[]):ze a=a.1:=by unfold ze;exact wd h
theorem words{a:AM}(h:Bg a=true):z6 a=true/\Sp.hW (BD<|Ai<|ze a)=true/\Cy (BD<|Ai<|ze a)=true/\Db (BD<|Ai<|ze a)=true/\Aw (BD<|Ai<|ze a)=Ai (ze a)/\Ai (ze a)<(Ar:Int)^9000:=by
 obtain⟨c,f⟩:=Ci h;have b:=JE c f ae;obtain⟨n,d,v⟩:=Dm (AP _) b ae;have e:=Li (AP _) b;refine⟨c,?_,n,d,v,b⟩;unfold Sp.hW;rw[d,Bool.true_and];exact w4 e
theorem Ab{a b:Bool}(c:a=true)(d:b=true):(a&&b)=true:=by rw[c,d];rfl
theorem wn{i:Nat}(h:i<9223372036854775807):zc .i64 ((i:Int)+1)=((i+1:Nat):Int):=by rw[wr _ ae ae];omega
theorem ad{p q:Prop}[Decidable p][Decidable q](a:p)(b:q):(decide p&&decide q)=true:=Ab (w4 a)<|w4 b
theorem nb{i n:Nat}(h:i<n):(decide ((0:Int)<=(i:Int))&&decide ((i:Int)<(n:Int)))=true:=ad ae ae
theorem MI(n:Int):Sp.Oy n=if n<0 then -1 else if n>0 then 1 else 0:=rfl
theorem Aer{a:AM}(h:z6 a=true):imax (-1) (FJ 1 a.1)=Sp.Oy (ze a):=by
 obtain⟨hr,b⟩:=Ei h;obtain⟨s,w⟩:=a;rcases b with b|⟨g,d,f⟩
 ·have b:w=[]:=b;subst b;rw[FQ,MI,pA];show imax (-1) (if (1:Int)<=s then 1 else s)=_;unfold imax;split<;>split<;>split<;>(try split)<;>omega
 ·have d:s=1\/s= -1:=d;have f:9223372036854775808<=Aw w:=f;have c:w≠[]:=by rintro rfl;exact wh f af
  rw[Ye c,MI];rcases d with rfl|rfl
  ·have e:(if (1:Int)<0 then -Aw w else Aw w)=Aw w:=wc af;rw[e,wc (show ¬Aw w<0 by omega),wd<|show Aw w>0 by omega];show imax (-1) (FJ 1 1)=1;decide
  ·have e:(if (-1:Int)<0 then -Aw w else Aw w)= -Aw w:=wd af;rw[e,wd<|show -Aw w<0 by omega];show imax (-1) (FJ 1<| -1)= -1;decide
namespace T162
theorem ok[Srt]:Af AY 162 XE:=by
 refine BA UJ<|fun(a:Int×List Int) b=>?_;have b:z6 a=true:=b;have e:Cy (BD<|Ai<|ze a)=true/\Aw (BD<|Ai<|ze a)=Ai (ze a):=by
  refine⟨?_,Di af<|AP _⟩;rcases QO b with⟨_,j⟩|he
  ·have:(9223372036854775808:Int)<(Ar:Int)^1:=af
   exact(Dm (AP _) (ya j this) ae).1
  ·obtain⟨_,f⟩:=Ei b;rw[he];rcases f with f|⟨i,_⟩
   ·rw[f];decide+kernel
   ·exact i
 have g:y7 (!decide (ze a<0)) (Aw<|BD<|Ai<|ze a)= -ze a:=by
  rw[e.2,DU,Al];rcases zw (ze a) 0 with h|h
  ·rw[w4 h];simp;omega
  ·rw[w8 ae];simp;omega
 have hr:=(Ei b).1;refine ym (Aj a)<|zk (fun c=>zk (fun d=>zj<|z7 rfl rfl ?_)<|fun d=>zg b<|zg e.1<|zj<|z7 rfl rfl ?_)<|fun c=>zg b<|zg e.1<|zj<|z7 rfl rfl ?_
 ·have c:=Qh c;have d:a.1≠ -9223372036854775808:=by simpa using d
  show(zc .i64<|0-a.1,[])=Dt a;unfold Dt;rw[wd ⟨c,d⟩,wr _ ae ae,Int.zero_sub]
 ·have d:a.1= -9223372036854775808:=by simpa using d
  show Dd (y7 (!decide (ze a<0))<|Aw<|BD<|Ai<|ze a)=Dt a;unfold Dt;rw[wc<|fun h=>h.2 d,g]
 ·have c:=nI c;show Dd (y7 (!decide (ze a<0))<|Aw<|BD<|Ai<|ze a)=Dt a;unfold Dt;rw[wc<|fun h=>c h.1,g]
end T162
namespace T124
theorem ok[Srt]:Af AY 124 Qc:=by
 refine BA UJ<|fun(i:(Int×List Int)×(Int×List Int)) n=>?_;obtain⟨a,b⟩:=i;have n:(Bg a&&Bg b)=true:=n;rw[zm]at n;obtain⟨a1,a2,a3,a4,a5,a6⟩:=words n.1;obtain⟨b1,b2,b3,b4,b5,b6⟩:=words n.2;have x:=(Ei a1).1;have z:=(Ei b1).1;have B:=AP<|ze a;have nb:=AP<|ze b;obtain⟨t1,_⟩:=NI B a6 b6;have s:∀v ob,ES a b=Dd v->Ac Qc (a,b) (.agg [.dat i64<|C8 v,.dat (.nlist<|.int .u64)<|C6 v]) ob:=fun v ob h=>z7 rfl rfl (by
  show Dd v=ES a b;rw[h])
 have mono:(Ar:Int)^9000<=(Ar:Int)^9001:=AT af ae;have k:decide (ze a<0)=decide (ze b<0)->y7 (decide (ze a<0)) (Aw<|BD<|Aw (BD<|Ai<|ze a)+Aw (BD<|Ai<|ze b))=ze a+ze b:=by
  intro e;rw[a5,b5,show Aw (BD<|Ai (ze a)+Ai (ze b))=_ from Di af ae,DU,Al,Al];rcases zw (ze a) 0 with h|h
  ·rw[w4 h]at e ⊢;have:=w6 e.symm;simp only[wm];omega
  ·rw[w8 ae]at e ⊢;have:=w7 e.symm;simp only[yn,vg];omega
 have l:decide (ze a<0)≠decide (ze b<0)->Ai (ze b)<=Ai (ze a)->y7 (decide (ze a<0)) (Aw<|BD<|Aw (BD<|Ai<|ze a)-Aw (BD<|Ai<|ze b))=ze a+ze b:=by
  intro e q;rw[a5,b5,show Aw (BD<|Ai (ze a)-Ai (ze b))=_ from Di af ae,DU,Al,Al];rcases zw (ze a) 0 with h|h
  ·rw[w4 h]at e ⊢;have:¬ze b<0:=fun h=>e (w4 h).symm
   simp only[wm];omega
  ·rw[w8 ae]at e ⊢;have:ze b<0:=by
    rcases zw (ze b) 0 with h|h
    ·exact h
    ·exact wh (w8 ae).symm e
   simp only[yn,vg];omega
 have j:decide (ze a<0)≠decide (ze b<0)->Ai (ze a)<=Ai (ze b)->y7 (decide (ze b<0)) (Aw<|BD<|Aw (BD<|Ai<|ze b)-Aw (BD<|Ai<|ze a))=ze a+ze b:=by
  intro e q;rw[a5,b5,show Aw (BD<|Ai (ze b)-Ai (ze a))=_ from Di af ae,DU,Al,Al];rcases zw (ze b) 0 with h|h
  ·rw[w4 h]at e ⊢;have:¬ze a<0:=fun h=>e<|w4 h
   simp only[wm];omega
  ·rw[w8<|show ¬ze b<0 by omega]at e ⊢;have:ze a<0:=by
    rcases zw (ze a) 0 with h|h
    ·exact h
    ·exact wh (w8 ae) e
   simp only[yn,vg];omega
 have n1:Cy (BD<|Aw (BD<|Ai<|ze a)+Aw (BD<|Ai<|ze b))=true:=by
  rw[a5,b5];exact(Dm ae t1 ae).1
 have y:Ai (ze b)<=Ai (ze a)->Cy (BD<|Aw (BD<|Ai<|ze a)-Aw (BD<|Ai<|ze b))=true:=by
  intro h;rw[a5,b5];exact(Dm ae (ya ae a6) ae).1
 have A:Ai (ze a)<=Ai (ze b)->Cy (BD<|Aw (BD<|Ai<|ze b)-Aw (BD<|Ai<|ze a))=true:=by
  intro h;rw[a5,b5];exact(Dm ae (ya ae b6) ae).1
 have f:∀ {c:Bool},decide (CC (Aw<|BD<|Ai<|ze a) (Aw<|BD<|Ai<|ze b)>=0)=c->(c=true->Ai (ze b)<=Ai (ze a))/\(c=false->Ai (ze a)<=Ai (ze b)):=by
  intro c h;subst h;rw[a5,b5,w5,w9];unfold CC;constructor
  ·intro h;split at h<;>omega
  ·intro h;split at h
   ·omega
   ·split at h<;>omega
 refine ym (Aj a b)<|zk (fun m=>zk (fun o=>zk (fun g=>zj<|z7 rfl rfl ?_)<|fun g=>?_)<|fun o=>?_)<|fun m=>?_
 ·have m:=Qh m;have o:=Qh o;have p:zc .i64 (a.1+b.1)=a.1+b.1:=by
   rw[wk]at g;rcases zw (a.1+b.1) (-9223372036854775808)with h|h
   ·exfalso;have e:zc .i64 (a.1+b.1)=a.1+b.1+18446744073709551616:=by rw[yq];omega
    rw[e,w4 ae,w8 ae]at g;cases g
   ·rcases zw (a.1+b.1) 9223372036854775808 with t|t
    ·exact wr _ ae ae
    ·exfalso;have e:zc .i64 (a.1+b.1)=a.1+b.1-18446744073709551616:=by rw[yq];omega
     rw[e,w8 ae,w4 ae]at g;cases g
  have hr:Cn (a.1+b.1)=true:=by
   have: -9223372036854775808<=zc .i64 (a.1+b.1)/\zc .i64 (a.1+b.1)<9223372036854775808:=by rw[yq];omega
   rw[p]at this;unfold Cn;rw[zm,w5,w5];exact this
  show(zc .i64<|a.1+b.1,[])=ES a b;unfold ES;rw[wd ⟨m,o,hr⟩,p]
 all_goals
  have r:ES a b=Dd (ze a+ze b):=by
   unfold ES;refine wc<|fun h=>?_;obtain⟨w,t,u⟩:=h;first
    |exact nI m w
    |exact nI o t
    |(have u:=Fa u
      have p:zc .i64 (a.1+b.1)=a.1+b.1:=wr _ ae ae;rw[p,ve]at g;refine g ?_;rcases zw 0 b.1 with h|h
      ·rw[w4 (show a.1+b.1>a.1 by omega),w4 h]
      ·rw[w8 (show ¬a.1+b.1>a.1 by omega),w8<|show ¬b.1>0 by omega])
  refine zg a1<|zg b1<|zk (fun e=>zg (Ab a2 b2)<|zg n1<|zj<|s _ _ ?_)<|fun e=>zg (Ab a3 b3)<|zk (fun d=>zg ?_<|zg (y<|(f d).1 rfl)<|zj<|s _ _ ?_)<|fun d=>zg ?_<|zg (A<|(f d).2 rfl)<|zj<|s _ _ ?_
  ·rw[r];exact wi _ (k<|by simpa using e).symm
  ·refine Ab (Ab a4 b4)<|w4 ?_;rw[a5,b5];exact(f d).1 rfl
  ·rw[r];exact wi _ (l (by simpa using e)<|(f d).1 rfl).symm
  ·refine Ab (Ab b4 a4)<|w4 ?_;rw[a5,b5];exact(f d).2 rfl
  ·rw[r];exact wi _ (j (by simpa using e)<|(f d).2 rfl).symm
end T124
theorem Fo{n:Int}(a: -9223372036854775808<=n)(b:n<9223372036854775808):Cn n=true:=by
 unfold Cn;rw[zm,w5,w5];exact⟨a,b⟩
theorem MT{n:Int}(h:Cn n=true):z6 (n,[])=true:=by
 unfold z6;rw[h];rfl
theorem Pv{n:Int}{k:Nat}(h:Ai n<(Ar:Int)^k)(b:k<=20000):z6 (Dd n)=true/\(Dd n).2.length<=k:=by
 unfold Dd;split
 ·next c=>exact⟨MT (Fo ae ae),Nat.zero_le _⟩
 ·next c=>
  obtain⟨n1,e,d⟩:=Dm (AP n) h b;refine⟨?_,Li (AP n) h⟩;have a:9223372036854775808<=Ai n:=by rw[Al];omega
  unfold z6;refine Ab (Fo ?_ ?_) ?_
  ·show -9223372036854775808<=(if n<0 then -1 else 1);split<;>decide
  ·show(if n<0 then -1 else 1)<9223372036854775808;split<;>decide
  ·rw[Bool.or_eq_true];refine .inr (Ab (Ab n1 ?_) (w4<|by show _<=Aw (BD<|Ai n);rw[d];exact a));show(decide ((if n<0 then(-1:Int)else 1)=1)||decide ((if n<0 then(-1:Int)else 1)= -1))=true;split<;>rfl
theorem JA(a:AM):ze (Dt a)= -ze a:=by
 unfold Dt;split
 ·next h=>rw[FQ,BG h.1]
 ·exact CJ _
theorem Jv(n:Int):Ai (-n)=Ai n:=by rw[Al,Al];omega
theorem ZI{a:AM}(h:z6 a=true){k:Nat}(b:1<=k)(e:k<=20000)(d:a.2.length<=k):z6 (Dt a)=true/\(Dt a).2.length<=k:=by
 have hr:=(Ei h).1;unfold Dt;split
 ·next c=>exact⟨MT (Fo ae ae),Nat.zero_le _⟩
 ·exact Pv (by rw[Jv];exact JE h d b) e
theorem WQ{a:AM}(h:Bg a=true):Bg (Dt a)=true:=by
 obtain⟨b,c⟩:=Ci h;obtain⟨h3,h4⟩:=ZI b (k:=9000) ae ae c;unfold Bg;exact Ab h3<|w4 h4
theorem yI{a:AM}(h:z6 a=true):a.1<0↔ze a<0:=by
 obtain⟨_,b⟩:=Ei h;obtain⟨s,w⟩:=a;rcases b with b|⟨_,e,d⟩
 ·have b:w=[]:=b;subst b;rw[FQ]
 ·have e:s=1\/s= -1:=e;have d:9223372036854775808<=Aw w:=d;have c:w≠[]:=by rintro rfl;exact wh d af
  rw[Ye c];show s<0↔_;split<;>omega
theorem Zw(a b:AM):ze (ES a b)=ze a+ze b:=by
 unfold ES;split
 ·next h=>rw[FQ,BG h.1,BG h.2.1]
 ·exact CJ _
theorem Aaq(x y:Int):Ai (x+y)<=Ai x+Ai y:=by
 rw[Al,Al,Al];omega
theorem Kl(x y:Int):Ai (x*y)=Ai x*Ai y:=by
 rw[Al,Al,Al,Int.natAbs_mul,yk]
theorem bounds{a:AM}(h:Bg a=true):Ai (ze a)<(Ar:Int)^9000:=(words h).2.2.2.2.2
theorem UF{a b:AM}(c:Bg a=true)(d:Bg b=true):z6 (ES a b)=true:=by
 unfold ES;split
 ·next h=>exact MT h.2.2
 ·exact(Pv (ya (Aaq _ _) (NI (AP _) (bounds c)<|bounds d).1) ae).1
theorem uL(a b:AM):ze (OF a b)=ze a-ze b:=by
 unfold OF;rw[Zw,JA];omega
theorem DT(a b:AM):ze (F4 a b)=ze a*ze b:=CJ _
theorem eE[Srt]:Cv XJ1:=
 Aa T162.ok (Aa T124.ok AB)
namespace T134
theorem ok[Srt]:Af AY 134 Ll:=by
 refine BA J6<|fun(a:Int×List Int) b=>?_;have b:z6 a=true:=b;exact ym (Aj a)<|zj<|z7 rfl rfl (Aer b)
end T134
namespace T215
theorem ok[Srt]:Af AY 215 Aca:=by
 refine BA eE<|fun(a:Int×List Int) b=>?_;have b:z6 a=true:=b;refine ym (Aj a)<|zk (fun c=>zg b<|zj<|z7 rfl rfl ?_)<|fun c=>zj<|z7 rfl rfl ?_
 ·show Dt a=Xm a;unfold Xm;rw[wd<|w6 c]
 ·show a=Xm a;unfold Xm;rw[wc<|w7 c]
end T215
namespace T133
theorem ok[Srt]:Af AY 133 qB:=by
 refine BA eE<|fun(i:(Int×List Int)×(Int×List Int)) c=>?_;obtain⟨a,b⟩:=i;have c:(Bg a&&Bg b)=true:=c;rw[zm]at c;exact ym (Aj a b)<|zg (Ci c.2).1<|zg (Ab c.1<|WQ c.2)<|zj<|z7 rfl rfl rfl
end T133
theorem Aar[Srt]:Cv XJ2:=
 Aa T133.ok (Aa T134.ok AB)
theorem xL(x y:Int):Sp.Oy (x-y)=CC x y:=by
 unfold Sp.Oy CC;split
 ·rw[wd ae]
 ·split
  ·rw[wc ae,wd ae]
  ·rw[wc ae,wc ae]
namespace T67
theorem ok[Srt]:Af AY 67 sA:=by
 refine BA Aar<|fun(i:(Int×List Int)×(Int×List Int)) f=>?_;obtain⟨a,b⟩:=i;have f:(Bg a&&Bg b)=true:=f;have c:=f;rw[zm]at c;have h:z6 (OF a b)=true:=by
  unfold OF;exact UF c.1<|WQ c.2
 have j:IQ (OF a b)=fX a b:=by
  show Sp.Oy (ze<|OF a b)=CC (ze a) (ze b);rw[uL,xL]
 refine ym (Aj a b)<|zk (fun g=>zk (fun k=>zk (fun d=>zj<|z7 rfl rfl ?_)<|fun d=>zk (fun e=>zj<|z7 rfl rfl ?_)<|fun e=>zj<|z7 rfl rfl ?_)<|fun k=>zg f<|zg h<|zj<|z7 rfl rfl j)<|fun g=>zg f<|zg h<|zj<|z7 rfl rfl j;all_goals
  have m:=BG<|Qh g;have l:=BG<|Qh k;show _=CC (ze a) (ze b);rw[m,l];unfold CC
 ·rw[wd<|w6 d]
 ·rw[wc<|w7 d,wd<|w6 e]
 ·rw[wc<|w7 d,wc<|w7 e]
end T67
theorem UN(x y:Int):x*y=y7 (!(decide (x<0)==decide (y<0))) (Ai x*Ai y):=by
 unfold Ai;rw[DU];by_cases a:x<0<;>by_cases b:y<0<;>simp[a,b,Int.neg_mul,Int.mul_neg]
namespace T125
theorem ok[Srt]:Af AY 125 SL:=by
 refine BA UJ<|fun(i:(Int×List Int)×(Int×List Int)) j=>?_;obtain⟨a,b⟩:=i;have j:(Bg a&&Bg b)=true:=j;rw[zm]at j;obtain⟨a1,a2,a3,a4,a5,a6⟩:=words j.1;obtain⟨b1,b2,b3,b4,b5,b6⟩:=words j.2;have d:=(Ei a1).1;have f:=(Ei b1).1;have o:=AP<|ze a;have nb:=AP<|ze b;obtain⟨_,t2⟩:=NI o a6 b6;have np:0<=Ai (ze a)*Ai (ze b):=zp o nb;have n1:Cy (BD<|Aw (BD<|Ai<|ze a)*Aw (BD<|Ai<|ze b))=true:=by
  rw[a5,b5];exact(Dm np t2 ae).1
 have q:y7 (!(decide (ze a<0)==decide (ze b<0))) (Aw<|BD<|Aw (BD<|Ai<|ze a)*Aw (BD<|Ai<|ze b))=ze a*ze b:=by
  rw[a5,b5,show Aw (BD<|Ai (ze a)*Ai (ze b))=_ from Di af np, <-UN]
 have r:∀ob,Ac SL (a,b) (.agg [.dat i64<|C8<|y7 (!(decide (ze a<0)==decide (ze b<0)))<|Aw<|BD<|Aw (BD<|Ai<|ze a)*Aw (BD<|Ai<|ze b),.dat (.nlist<|.int .u64)<|C6<|y7 (!(decide (ze a<0)==decide (ze b<0)))<|Aw<|BD<|Aw (BD<|Ai<|ze a)*Aw (BD<|Ai<|ze b)]) ob:=fun ob=>z7 rfl rfl (by
  show Dd _=Dd (ze a*ze b);rw[q])
 have p:yo (Ai a.1)=true:=C4 (AP _) (by rw[Al];omega);have ub:yo (Ai b.1)=true:=C4 (AP _) (by rw[Al];omega);refine ym (Aj a b)<|zk (fun l=>zk (fun m=>zg (Fo d.1 d.2)<|zg (Fo f.1 f.2)<|zg (Ab p ub)<|zk (fun g=>zk (fun h=>zk (fun c=>zj<|z7 rfl rfl ?_)<|fun c=>zj<|z7 rfl rfl ?_)<|fun h=>?_)<|fun g=>?_)<|fun m=>?_)<|fun l=>?_
 ·have n:=BG<|Qh l;have k:=BG<|Qh m;have g:(Ai a.1*Ai b.1)/18446744073709551616=0:=by simpa [SB]using g
  have h:(Ai a.1*Ai b.1) % 18446744073709551616<=9223372036854775807:=w6 h;have p0:0<=Ai a.1*Ai b.1:=zp (AP _)<|AP _;have e:=UN a.1 b.1;have c:(!(decide (a.1<0)==decide (b.1<0)))=true:=c;rw[c,DU,wd rfl]at e;show(zc .i64<|0-zc .i64 ((Ai a.1*Ai b.1) % 18446744073709551616),[])=Dd (ze a*ze b);rw[n,k,e,CD ae,wr ((Ai a.1*Ai b.1) % 18446744073709551616) ae ae,wr _ ae ae];congr 1;omega
 ·have n:=BG<|Qh l;have k:=BG<|Qh m;have g:(Ai a.1*Ai b.1)/18446744073709551616=0:=by simpa [SB]using g
  have h:(Ai a.1*Ai b.1) % 18446744073709551616<=9223372036854775807:=w6 h;have p0:0<=Ai a.1*Ai b.1:=zp (AP _)<|AP _;have e:=UN a.1 b.1;have c:(!(decide (a.1<0)==decide (b.1<0)))=false:=c;rw[c,DU,wc af]at e;show(zc .i64<|(Ai a.1*Ai b.1) % 18446744073709551616,[])=Dd (ze a*ze b);rw[n,k,e,CD ae,wr ((Ai a.1*Ai b.1) % 18446744073709551616) ae ae];congr 1;omega
 all_goals exact zg a1<|zg b1<|zg (Ab a2 b2)<|zg n1<|zj<|r _
end T125
end Go.Pe
namespace Go.Sp
def Fy(n:Int):Int:=if n<=0 then 0 else(n.toNat.log2:Int)+1
def lz(n:Int):Int:=64-Fy n
def dq(h l y:Int):Int:=(h*18446744073709551616+l)/y
def dr(h l y:Int):Int:=(h*18446744073709551616+l) % y
end Go.Sp
namespace Go.Pe
open Go.Det
def Zc:Am:=⟨[u64],fun n=>yo n,[i64],fun n=>Sp.Fy n,false⟩
def cLZ:Am:=⟨[u64],fun n=>yo n,[i64],fun n=>Sp.lz n,false⟩
def Uf:Am:=⟨[u64,u64,u64],fun i=>yo i.1&&yo i.2.1&&yo i.2.2&&decide ((i.1:Int)<i.2.2),[u64,u64],fun i=>(Sp.dq i.1 i.2.1 i.2.2,Sp.dr i.1 i.2.1 i.2.2),false⟩
def XD1[Srt]:AL:=X7 [(229,Zc)]
def tH[Srt]:AL:=X7 [(240,cLZ)]
section
open List Int Prod
namespace T229
def T[Srt](x:Int):Tr:=tree mL false 9 229<|Ag ([zn zd]) x
theorem Aj[Srt](x:Int):T x=let b:=([0,1,2,2,3,3,3,3,4,4,4,4,4,4,4,4,5,5,5,5,5,5,5,5,5,5,5,5,5,5,5,5,6,6,6,6,6,6,6,6,6,6,6,6,6,6,6,6,6,6,6,6,6,6,6,6,6,6,6,6,6,6,6,6,7,7,7,7,7,7,7,7,7,7,7,7,7,7,7,7,7,7,7,7,7,7,7,7,7,7,7,7,7,7,7,7,7,7,7,7,7,7,7,7,7,7,7,7,7,7,7,7,7,7,7,7,7,7,7,7,7,7,7,7,7,7,7,7,8,8,8,8,8,8,8,8,8,8,8,8,8,8,8,8,8,8,8,8,8,8,8,8,8,8,8,8,8,8,8,8,8,8,8,8,8,8,8,8,8,8,8,8,8,8,8,8,8,8,8,8,8,8,8,8,8,8,8,8,8,8,8,8,8,8,8,8,8,8,8,8,8,8,8,8,8,8,8,8,8,8,8,8,8,8,8,8,8,8,8,8,8,8,8,8,8,8,8,8,8,8,8,8,8,8,8,8,8,8,8,8,8,8,8,8,8,8,8,8,8,8,8,8,8,8,8,8]:Rd);let b':=zq x<|2^32;let a:=(0:Sh.T (zn zz));let d:=zq x<|2^16;let e:=zq x<|2^8;let c:=zq b'<|2^16;let f:=zq b'<|2^8;let h':=zq d<|2^8;let g:=zq c<|2^8;.di (x>=4294967296) (.ck true<|.di (zq x (2^32)>=65536) (.ck true<|.di (zq b' (2^16)>=256) (.ck true<|.ck (decide (a<=zc .u8 g)&&decide (zc .u8 g<(↑256:Int)))<|.leaf (.dat i64<|zc .i64<|zc .i64 (zc .i64 (32+16)+8)+zc .i64 (↑(zf<|getD b (toNat<|zc .u8 g) (0:UInt8)):Int)) [])<|.ck (decide (a<=zc .u8 c)&&decide (zc .u8 c<(↑256:Int)))<|.leaf (.dat i64<|zc .i64<|zc .i64 (32+16)+zc .i64 (↑(zf<|getD b (toNat<|zc .u8 c) (0:UInt8)):Int)) [])<|.di (zq x (2^32)>=256) (.ck true<|.ck (decide (a<=zc .u8 f)&&decide (zc .u8 f<(↑256:Int)))<|.leaf (.dat i64<|zc .i64<|zc .i64 (32+8)+zc .i64 (↑(zf<|getD b (toNat<|zc .u8 f) (0:UInt8)):Int)) [])<|.ck (decide (a<=zc .u8 b')&&decide (zc .u8 b'<(↑256:Int)))<|.leaf (.dat i64<|zc .i64<|32+zc .i64 (↑(zf<|getD b (toNat<|zc .u8 b') (0:UInt8)):Int)) []) (.di (x>=65536) (.ck true<|.di (zq x (2^16)>=256) (.ck true<|.ck (decide (a<=zc .u8 h')&&decide (zc .u8 h'<(↑256:Int)))<|.leaf (.dat i64<|zc .i64<|zc .i64 (zc .i64 (0+16)+8)+zc .i64 (↑(zf<|getD b (toNat<|zc .u8 h') (0:UInt8)):Int)) [])<|.ck (decide (a<=zc .u8 d)&&decide (zc .u8 d<(↑256:Int)))<|.leaf (.dat i64<|zc .i64<|zc .i64 (0+16)+zc .i64 (↑(zf<|getD b (toNat<|zc .u8 d) (0:UInt8)):Int)) [])<|.di (x>=256) (.ck true<|.ck (decide (a<=zc .u8 e)&&decide (zc .u8 e<(↑256:Int)))<|.leaf (.dat i64<|zc .i64<|zc .i64 (0+8)+zc .i64 (↑(zf<|getD b (toNat<|zc .u8 e) (0:UInt8)):Int)) [])<|.ck (decide (a<=zc .u8 x)&&decide (zc .u8 x<(↑256:Int)))<|.leaf (.dat i64<|zc .i64<|0+zc .i64 (↑(zf<|getD b (toNat<|zc .u8 x) (0:UInt8)):Int)) []):=by kernel_rfl
end T229
namespace T240
def T[Srt](x:Int):Tr:=tree XD1 false 9 240<|Ag ([zn zd]) x
theorem Aj[Srt](x:Int):T x=.ck (yo x) (.leaf (.dat i64<|zc .i64<|64-Sp.Fy x) []):=by kernel_rfl
end T240
namespace T239
def T[Srt](a lo y:Int):Tr:=tree tH false 9 239<|Ag ([zn zd,zn zd,zn zd]) (a,lo,y)
def L1[Srt](v2 g v9 a b e d f c:Int):Tr:=re ((T 0 0 0).R.R.R.L.L.L.L.L.L.L.L)<|Ax 135 [(2,.dat (zn zd) v2),(8,.dat (zn zd) g),(9,.dat (zn zd) v9),(10,.dat (zn zd) a),(11,.dat (zn zd) b),(13,.dat (zn zd) e),(14,.dat (zn zd) d),(15,.dat (zn zd) f),(16,.dat (zn zd) c)] [] 0
theorem Aj[Srt](b lo y:Int):T b lo y=let d:=decide (0<=zc .u64 (Sp.lz y));let g:=64-zc .u64 (Sp.lz y);let f:=zc .u64<|Sp.lz y;let c:=toNat f;let e:=zq lo<|2^yt (toNat<|zc .u64 g) 64;let a:=zc .u64<|y*2^yt c 64;let i:=zc .u64<|lo*2^yt c 64;let h:=zc .u64<|b*2^yt c 64;let b':=eH zd h e;let h':=zq a<|2^32;.ite (y==0) .fail (.di (y<=b) .fail<|.ite (b==0) (.cd (y≠0)<|.cd (y≠0)<|.leaf (.tup [.dat (zn zd)<|zc .u64<|ye lo y,.dat (zn zd)<|yr lo y]) [])<|.ck (yo y)<|.ck d<|.ck true<|.ck d<|.cd (0<=zc .u64 g)<|.ck d<|.ck true<|.cd (zq a (2^32)≠0)<|L1 a f h' (It zd a 4294967295) b' (zq i<|2^32) (It zd i 4294967295) (zc .u64<|ye b' h')<|zc .u64<|eH zd h e-zc .u64 (zc .u64 (ye b' h')*zq a (2^32))):=by kernel_rfl
def L2[Srt](v2 g v9 a d e c b f:Int):Tr:=re ((stepT tH<|L1 0 0 0 0 0 0 0 0 0).L.L.L)<|Ax 135 [(2,.dat (zn zd) v2),(8,.dat (zn zd) g),(9,.dat (zn zd) v9),(10,.dat (zn zd) a),(14,.dat (zn zd) d),(15,.dat (zn zd) e),(16,.dat (zn zd) c),(17,.dat (zn zd) b),(18,.dat (zn zd) f)] [] 0
theorem Ak[Srt](v2 g v9 b f e d a c:Int):stepT tH (L1 v2 g v9 b f e d a c)=let m:=zc .u64 (f*4294967296)+e;let l:=zc .u64<|a-1;let b':=zc .u64 m-zc .u64 (zc .u64 (a-1)*v2);let j:=zc .u64 m-zc .u64 (a*v2);let h:=zc .u64 j;let i:=zc .u64 b';let k:Tr:=.di (zc .u64 (c+v9)>=4294967296) (.cd (v9≠0)<|L2 v2 g v9 b d l (zc .u64<|zc .u64 b'-zc .u64 (zc .u64 (ye i v9)*v9)) i<|zc .u64<|ye i v9)<|L1 v2 g v9 b f e d l<|zc .u64<|c+v9;.di (a>=4294967296) k (.di (zc .u64 (a*b)>zc .u64 (zc .u64 (4294967296*c)+e)) k<|.cd (v9≠0)<|L2 v2 g v9 b d a (zc .u64<|zc .u64 j-zc .u64 (zc .u64 (ye h v9)*v9)) h<|zc .u64<|ye h v9):=by kernel_rfl
theorem Az[Srt](v2 g v9 e c d b f a:Int):stepT tH (L2 v2 g v9 e c d b f a)=let b':=zn zd;let h:=zc .u64 (f*4294967296)+c;let j:=2^yt (toNat g) 64;let i:Tr:=.di (zc .u64 (b+v9)>=4294967296) (.cd (0<=g)<|.leaf (.tup [.dat b'<|zc .u64<|zc .u64 (d*4294967296)+zc .u64 (a-1),.dat b'<|zq (zc .u64<|zc .u64 h-zc .u64 (zc .u64 (a-1)*v2)) j]) [])<|L2 v2 g v9 e c d (zc .u64<|b+v9) f<|zc .u64<|a-1;.di (a>=4294967296) i (.di (zc .u64 (a*e)>zc .u64 (zc .u64 (4294967296*b)+c)) i<|.cd (0<=g)<|.leaf (.tup [.dat b'<|zc .u64<|zc .u64 (d*4294967296)+a,.dat b'<|zq (zc .u64<|zc .u64 h-zc .u64 (a*v2)) j]) []):=by kernel_rfl
end T239
end
namespace T239
variable {Q:PV->Ob->Prop}
def Exact(Y u w q:Int):Prop:=q*Y<=u*4294967296+w/\u*4294967296+w<(q+1)*Y
theorem bQ{Y b a u w q r:Int}(c:Y=b*4294967296+a)(d:q*b+r=u)(h:q*a>4294967296*r+w):u*4294967296+w<q*Y:=by
 subst c;rw[Int.mul_add, <-zr];generalize q*b=A at*;generalize q*a=C at*;omega
theorem Mh{Y b a u w q r:Int}(c:Y=b*4294967296+a)(d:q*b+r=u)(h:q*a<=4294967296*r+w):q*Y<=u*4294967296+w:=by
 subst c;rw[Int.mul_add, <-zr];generalize q*b=A at*;generalize q*a=C at*;omega
theorem Xw{Y u w q:Int}(c:u<Y)(a:0<=Y)(d:w<4294967296)(b:4294967296<=q):u*4294967296+w<q*Y:=by
 have:=zh b a;omega
theorem WW{c b u w r:Int}{n:Nat}{Y:Int}(d:Y=c*4294967296+b)(e:0<=c)(h0:0<=b/\b<4294967296)(g:u<Y)(i:0<=w)(f:(n:Int)*c+r=u)(hr:4294967296<=r):(n:Int)*Y<=u*4294967296+w:=by
 have j:(n:Int)<4294967296:=by
  rcases zw (n:Int) 4294967296 with h|h
  ·exact h
  ·have:=zh h e;omega
 refine Mh d f ?_;have a:=zh (show(n:Int)<=4294967295 by omega) h0.1;omega
theorem Au[Srt](Y s f g u w z:Int)(t:Y=f*4294967296+g)(I:0<f/\f<4294967296)(h0:0<=g/\g<4294967296)(y:u<Y)(B:0<=w/\w<4294967296)
  (v:∀q:Int,0<=q->Exact Y u w q->Ends tH (L2 Y s f g z q (zc zd<|zc zd (zc zd (zc zd (u*(4294967296:Int))+w)-zc zd (q*Y))-zc zd (zc zd (ye (zc zd<|zc zd (zc zd (u*(4294967296:Int))+w)-zc zd (q*Y)) f)*f)) (zc zd<|zc zd (zc zd (u*(4294967296:Int))+w)-zc zd (q*Y))<|zc zd<|ye (zc zd<|zc zd (zc zd (u*(4294967296:Int))+w)-zc zd (q*Y)) f) Q):
  ∀(n:Nat) (r:Int),(n:Int)<18446744073709551616->(n:Int)*f+r=u->0<=r->r<4294967296->u*4294967296+w<((n:Int)+1)*Y->Ends tH (L1 Y s f g u w z n r) Q:=by
 intro n;induction n with
 |zero=>
  intro r H k G F i;have o:decide (f≠0)=true:=w4 ae;refine Ends.Ah (Ak ..) (Ends.ff (by simp)<|Ends.ff (w8 ?_)<|zg o<|v _ ae ⟨?_,i⟩)
  ·rw[show((0:Nat):Int)*g=0 by simp,wu 0 ae ae,wu (4294967296*r) ae ae,wu _ ae ae];omega
  ·exact Mh t k (by rw[show((0:Nat):Int)*g=0 by simp];omega)
 |succ n D=>
  intro r H k G F i;have o:decide (f≠0)=true:=w4 ae;have E:zc .u64 (((n+1:Nat):Int)-1)=(n:Int):=by rw[wu _ ae ae];omega
  have C:zc .u64 (r+f)=r+f:=wu _ ae ae;have x:0<=Y:=ae
  have l:(n:Int)*f+(r+f)=u:=by
   rw[show((n+1:Nat):Int)=(n:Int)+1 by omega,zt,z8]at k;omega
  have A:((n+1:Nat):Int)=(n:Int)+1:=ae
  have p:u*4294967296+w<((n:Int)+1)*Y->r+f<4294967296->Ends tH (L1 Y s f g u w z n<|r+f) Q:=fun j h=>
   D (r+f) ae l ae h j
  have cut:u*4294967296+w<((n:Int)+1)*Y->4294967296<=r+f->Exact Y u w n:=fun j h=>
   ⟨WW t ae h0 y B.1 l h,j⟩
  refine Ends.Ah (Ak ..) ?_;conv=>zeta
  rw[E,C];refine zk (fun c=>?_)<|fun c=>zk (fun d=>?_)<|fun d=>?_
  ·have c:=w6 c;have m:u*4294967296+w<((n:Int)+1)*Y:=by rw[<-A];exact Xw y x B.2 c
   exact zk (fun e=>zg o<|v _ ae<|cut m<|w6 e) (fun e=>p m (by have:=w7 e;omega))
  ·have c:=w7 c;have d:=w6 d;have a:=zh (show((n+1:Nat):Int)<=4294967295 by omega) h0.1;have b:=zp (show 0<=((n+1:Nat):Int)by omega) h0.1;rw[wu (((n+1:Nat):Int)*g) ae ae,wu (4294967296*r) ae ae,wu _ ae ae]at d;have m:u*4294967296+w<((n:Int)+1)*Y:=by rw[<-A];exact bQ t k d
   exact zk (fun e=>zg o<|v _ ae<|cut m<|w6 e) (fun e=>p m (by have:=w7 e;omega))
  ·have c:=w7 c;have d:=w7 d;have a:=zh (show((n+1:Nat):Int)<=4294967295 by omega) h0.1;have b:=zp (show 0<=((n+1:Nat):Int)by omega) h0.1;rw[wu (((n+1:Nat):Int)*g) ae ae,wu (4294967296*r) ae ae,wu _ ae ae]at d;exact zg o (v _ ae ⟨Mh t k ae,i⟩)
theorem A5[Srt](Y s f g u w p:Int)(v:Y=f*4294967296+g)(J:0<f/\f<4294967296)(h0:0<=g/\g<4294967296)(z:u<Y)(C:0<=w/\w<4294967296)(B:0<=s)
  (x:∀q:Int,0<=q->Exact Y u w q->∀ob,Q (PV.tup [PV.dat (zn zd)<|zc zd<|zc zd (p*(4294967296:Int))+q,PV.dat (zn zd)<|zq (zc zd<|zc zd (zc zd (u*(4294967296:Int))+w)-zc zd (q*Y))<|(2:Int)^yt (Int.toNat s) (64:Nat)]) ob):
  ∀(n:Nat) (r:Int),(n:Int)<18446744073709551616->(n:Int)*f+r=u->0<=r->r<4294967296->u*4294967296+w<((n:Int)+1)*Y->Ends tH (L2 Y s f g w p r u n) Q:=by
 intro n;induction n with
 |zero=>
  intro r F o E H h;have l:decide (0<=s)=true:=w4 B;refine Ends.Ah (Az ..) (Ends.ff (by simp) (Ends.ff (w8 ?_)<|zg l<|zj<|x _ ae ⟨?_,h⟩ _))
  ·rw[show((0:Nat):Int)*g=0 by simp,wu 0 ae ae,wu (4294967296*r) ae ae,wu _ ae ae];omega
  ·exact Mh v o (by rw[show((0:Nat):Int)*g=0 by simp];omega)
 |succ n D=>
  intro r F o E H h;have l:decide (0<=s)=true:=w4 B;have I:zc .u64 (((n+1:Nat):Int)-1)=(n:Int):=by rw[wu _ ae ae];omega
  have G:zc .u64 (r+f)=r+f:=wu _ ae ae;have y:0<=Y:=ae
  have t:(n:Int)*f+(r+f)=u:=by
   rw[show((n+1:Nat):Int)=(n:Int)+1 by omega,zt,z8]at o;omega
  have A:((n+1:Nat):Int)=(n:Int)+1:=ae
  have m:u*4294967296+w<((n:Int)+1)*Y->r+f<4294967296->Ends tH (L2 Y s f g w p (r+f) u n) Q:=fun j i=>
   D (r+f) ae t ae i j
  have cut:u*4294967296+w<((n:Int)+1)*Y->4294967296<=r+f->Exact Y u w n:=fun j i=>
   ⟨WW v ae h0 z C.1 t i,j⟩
  refine Ends.Ah (Az ..) ?_;conv=>zeta
  rw[I,G];refine zk (fun c=>?_)<|fun c=>zk (fun d=>?_)<|fun d=>?_
  ·have c:=w6 c;have k:u*4294967296+w<((n:Int)+1)*Y:=by rw[<-A];exact Xw z y C.2 c
   exact zk (fun e=>zg l<|zj<|x _ ae (cut k<|w6 e) _) (fun e=>m k (by have:=w7 e;omega))
  ·have c:=w7 c;have d:=w6 d;have a:=zh (show((n+1:Nat):Int)<=4294967295 by omega) h0.1;have b:=zp (show 0<=((n+1:Nat):Int)by omega) h0.1;rw[wu (((n+1:Nat):Int)*g) ae ae,wu (4294967296*r) ae ae,wu _ ae ae]at d;have k:u*4294967296+w<((n:Int)+1)*Y:=by rw[<-A];exact bQ v o d
   exact zk (fun e=>zg l<|zj<|x _ ae (cut k<|w6 e) _) (fun e=>m k (by have:=w7 e;omega))
  ·have c:=w7 c;have d:=w7 d;have a:=zh (show((n+1:Nat):Int)<=4294967295 by omega) h0.1;have b:=zp (show 0<=((n+1:Nat):Int)by omega) h0.1;rw[wu (((n+1:Nat):Int)*g) ae ae,wu (4294967296*r) ae ae,wu _ ae ae]at d;exact zg l (zj<|x _ ae ⟨Mh v o ae,h⟩ _)
end T239
theorem Xs{y:Int}(d:0<y)(i:y<18446744073709551616):∃s:Nat,Sp.lz y=(s:Int)/\s<=63/\y*2^s<18446744073709551616/\9223372036854775808<=y*2^s:=by
 obtain⟨n,rfl⟩:=zo<|yb d;have c:n≠0:=ae
 have h:n.log2<64:=(Nat.log2_lt c).2 ae;have a:=Nat.log2_self_le c;have b:=Nat.lt_log2_self (n:=n);have f:2^n.log2*2^(63-n.log2)=2^63:=by rw[<-yy];congr 1;omega
 have e:2^(n.log2+1)*2^(63-n.log2)=2^64:=by rw[<-yy];congr 1;omega
 have g:2^63<=n*2^(63-n.log2):=by rw[<-f];exact Nat.mul_le_mul_right _ a
 have j:n*2^(63-n.log2)<2^64:=by rw[<-e];exact Nat.mul_lt_mul_of_pos_right b<|yw _
 refine⟨63-n.log2,?_,by omega,?_,?_⟩
 ·unfold Sp.lz Sp.Fy;rw[wc ae,zu];omega
 ·have:((n*2^(63-n.log2):Nat):Int)<18446744073709551616:=ae
  rw[yk,yc]at this;exact this
 ·have:(9223372036854775808:Int)<=((n*2^(63-n.log2):Nat):Int):=ae
  rw[yk,yc]at this;exact this
theorem Z4{a b:Int}{s:Nat}(c:0<=a)(g:0<=b)(h:b<2^s)(f:a*2^s+b<18446744073709551616):eH .u64 (a*2^s) b=a*2^s+b:=by
 obtain⟨m,rfl⟩:=zo c;obtain⟨k,rfl⟩:=zo g;have d:((m:Int)*2^s)=((m*2^s:Nat):Int):=by rw[yk,yc];rfl
 have i:k<2^s:=by
  have e:((2:Int)^s)=((2^s:Nat):Int):=by rw[yc];rfl
  rw[e]at h;omega
 rw[d]at f ⊢;have e:(yu 64 ((m*2^s:Nat):Int)|||yu 64 (k:Int)).toNat=m*2^s+k:=by
  rw[BitVec.toNat_or,BitVec.ofInt_natCast,BitVec.ofInt_natCast,BitVec.toNat_ofNat,BitVec.toNat_ofNat,Nat.mod_eq_of_lt ae,Nat.mod_eq_of_lt ae,Nat.mul_comm m,Nat.two_pow_add_eq_or_of_lt i]
 show zc .u64 (((yu 64 ((m*2^s:Nat):Int)|||yu 64 (k:Int)).toNat:Nat):Int)=_;rw[e,qK _ ae];omega
namespace T239
theorem start{u c d Y w:Int}(j:Y=c*4294967296+d)(h:0<c/\c<4294967296)(h0:0<=d)(e:0<=u/\u<18446744073709551616)(l:w<4294967296):
  ∃(n:Nat) (r:Int),zc .u64 (ye u c)=(n:Int)/\zc .u64 (u-zc .u64 ((n:Int)*c))=r/\(n:Int)<18446744073709551616/\(n:Int)*c+r=u/\0<=r/\r<4294967296/\u*4294967296+w<((n:Int)+1)*Y:=by
 have q0:0<=u/c:=yx e.1 ae;have q1:u/c<=u:=Int.ediv_le_self _ e.1;have f:=Int.mul_ediv_add_emod u c;have i:=Int.emod_nonneg u (show c≠0 by omega);have k:=Int.emod_lt_of_pos u h.1;rw[zx]at f;obtain⟨n,g⟩:=zo q0;have hp:0<=(n:Int)*c:=zp ae ae;rw[g]at f;refine⟨n,u % c,?_,?_,by omega,f,i,by omega,?_⟩
 ·rw[yp e.1,g,wu _ ae ae]
 ·rw[wu ((n:Int)*c) ae ae,wu _ ae ae];omega
 ·subst j;have a:((n:Int)+1)*(c*4294967296+d)=((n:Int)*c+c)*4294967296+((n:Int)+1)*d:=by
   rw[Int.mul_add, <-zr,zt,z8]
  have b:0<=((n:Int)+1)*d:=zp ae h0;rw[a];omega
theorem SJ{u w q Y:Int}(c:Exact Y u w q)(d:Y<18446744073709551616):zc .u64 (zc .u64 (zc .u64 (u*(4294967296:Int))+w)-zc .u64 (q*Y))=u*4294967296+w-q*Y:=by
 obtain⟨a,b⟩:=c;rw[zt,z8]at b;rw[MS,MS,MS,MS];generalize q*Y=A at*;omega
theorem Abu[Srt](h:Af AY 240 cLZ):Cv tH:=Aa h AB
set_option maxHeartbeats 1000000 in
theorem ok[Srt](L:Af AY 240 cLZ):Af AY 239 Uf:=by
 refine He (X:=tH) rfl (Abu L) (d:=9) ag ag ag (fun(i:Int×Int×Int) D=>?_) (Bd ag);obtain⟨e,lo,y⟩:=i;have D:(yo e&&yo lo&&yo y&&decide (e<y))=true:=D;rw[zm,zm,zm,w5]at D;obtain⟨⟨⟨x,f⟩,v⟩,h4⟩:=D;have uy:=v;have x:=Sp.A6 x;have f:=Sp.A6 f;have v:=Sp.A6 v;have hg:∀q r ob,q=Sp.dq e lo y->r=Sp.dr e lo y->Ac Uf (e,lo,y) (PV.tup [PV.dat (zn zd) q,PV.dat (zn zd) r]) ob:=fun q r ob e1 P=>z7 rfl rfl (Prod.ext e1 P)
 refine ym (Aj e lo y) (Ends.ff (by simp;omega)<|Ends.ff (w8 ae)<|zk (fun c=>?_)<|fun c=>?_)
 ·have c:e=0:=by simpa using c
  subst c;have q0:0<=lo/y:=yx f.1 ae;have q1:lo/y<=lo:=Int.ediv_le_self _ f.1;refine zg (w4 ae) (zg (w4 ae)<|zj<|hg _ _ _ ?_ ?_)
  ·unfold Sp.dq;rw[yp f.1,wu _ ae ae,Int.zero_mul,yv]
  ·unfold Sp.dr;rw[Int.tmod_eq_emod_of_nonneg f.1,Int.zero_mul,yv]
 ·have c:e≠0:=by simpa using c
  obtain⟨s,hs,hs63,V,N⟩:=Xs (y:=y) ae v.2;have es:zc .u64 (s:Int)=(s:Int):=qK s ae;have em:yt s 64=s:=ae
  have O:zc .u64 ((64:Int)-(s:Int))=((64-s:Nat):Int):=by rw[wu _ ae ae];omega
  have S:yt (64-s) 64=64-s:=ae
  have h:(2:Int)^s*2^(64-s)=18446744073709551616:=by rw[<-Int.pow_add,show s+(64-s)=64 by omega];rfl
  have g:(0:Int)<2^s:=Int.pow_pos af;have hR:(0:Int)<2^(64-s):=Int.pow_pos af;have a0:0<=lo/2^(64-s):=yx f.1 ae;have G:=Int.mul_ediv_add_emod lo<|2^(64-s);have c0:=Int.emod_nonneg lo (show(2:Int)^(64-s)≠0 by omega);have c1:=Int.emod_lt_of_pos lo hR;have aP:lo/2^(64-s)<2^s:=Int.ediv_lt_of_lt_mul hR (by rw[h];exact f.2);have hiP:e*2^s+2^s<=y*2^s:=by
   have:=zh (show e+1<=y by omega)<|yb g;rw[zt,z8]at this;exact this
  have J:0<=e*2^s:=zp x.1<|yb g;have Z:zq lo ((2:Int)^(64-s))=lo/2^(64-s):=yf _ ae;have eio:eH .u64 (e*2^s) (lo/2^(64-s))=e*2^s+lo/2^(64-s):=Z4 x.1 a0 aP ae;have I:0<=(lo % 2^(64-s))*2^s:=zp c0<|yb g;have R:(lo % 2^(64-s))*2^s<18446744073709551616:=by
   have:=Int.mul_lt_mul_of_pos_right c1 g;rw[zx<|2^(64-s),h]at this;exact this
  have k:lo*2^s=(lo/2^(64-s))*18446744073709551616+(lo % 2^(64-s))*2^s:=by
   conv=>lhs;rw[<-G]
   rw[zt, <-h,zx (2^(64-s))<|lo/2^(64-s),zr,zx (2^(64-s))<|2^s]
  have T:zc .u64 (lo*2^s)=(lo % 2^(64-s))*2^s:=by rw[k,MS];omega
  have hN:(e*2^s+lo/2^(64-s))*18446744073709551616+(lo % 2^(64-s))*2^s=(e*18446744073709551616+lo)*2^s:=by
   rw[zt (e*18446744073709551616) lo<|2^s,k,zr e 18446744073709551616<|2^s,zx 18446744073709551616<|(2:Int)^s, <-zr];omega
  have H:zc .u64 (y*2^s)=y*2^s:=wu _ ae ae;have F:zc .u64 (e*2^s)=e*2^s:=wu _ J ae;have z0:decide ((0:Int)<=(s:Int))=true:=w4 ae;have fin:∀q:Int,q*(y*2^s)<=(e*18446744073709551616+lo)*2^s->(e*18446744073709551616+lo)*2^s<(q+1)*(y*2^s)->q=Sp.dq e lo y/\zq ((e*18446744073709551616+lo)*2^s-q*(y*2^s)) (2^s)=Sp.dr e lo y:=by
   intro q o A;unfold Sp.dq Sp.dr;generalize e*18446744073709551616+lo=M at*;rw[<-zr]at o A;have g1:q*y<=M:=Int.le_of_mul_le_mul_right o g;have g2:M<(q+1)*y:=Int.lt_of_mul_lt_mul_right A<|yb g;rw[zt,z8]at g2;obtain⟨u1,u2⟩:=(Int.ediv_emod_unique (a:=M) (b:=y) (r:=M-q*y) (q:=q) ae).2 ⟨by rw[zx y q];omega,by omega,by omega⟩;refine⟨u1.symm,?_⟩;rw[u2, <-zr, <-Int.sub_mul,yf _<|yb g];exact Int.mul_ediv_cancel _ ae
  obtain⟨Y,eY⟩:=zo (show 0<=y*2^s by omega);obtain⟨C,eC⟩:=zo I;have hU0:0<=e*2^s+lo/2^(64-s):=ae
  have j:e*2^s+lo/2^(64-s)<y*2^s:=ae
  rw[hs,es,O,zu,zu,em,S,H,F,Z,eio,T];rw[eC]at hN R ⊢;rw[eY]at V N j fin ⊢;generalize hU:e*2^s+lo/2^(64-s)=U at*;generalize hM:(e*18446744073709551616+lo)*2^s=M at*;rw[eN,eN,RJ Y ae,RJ C ae];have l:(Y:Int)=((Y/4294967296:Nat):Int)*4294967296+((Y % 4294967296:Nat):Int):=ae
  have E:0<((Y/4294967296:Nat):Int)/\((Y/4294967296:Nat):Int)<4294967296:=ae
  have B:0<=((Y % 4294967296:Nat):Int)/\((Y % 4294967296:Nat):Int)<4294967296:=ae
  have w1:0<=((C/4294967296:Nat):Int)/\((C/4294967296:Nat):Int)<4294967296:=ae
  have w0:0<=((C % 4294967296:Nat):Int)/\((C % 4294967296:Nat):Int)<4294967296:=ae
  have hC:(C:Int)=((C/4294967296:Nat):Int)*4294967296+((C % 4294967296:Nat):Int):=ae
  generalize ((Y/4294967296:Nat):Int)=y1 at*;generalize ((Y % 4294967296:Nat):Int)=y0 at*;generalize ((C/4294967296:Nat):Int)=w at*;generalize ((C % 4294967296:Nat):Int)=z at*;refine zg uy (zg z0<|zg rfl (zg z0<|zg (w4 ae)<|zg z0<|zg rfl (zg (w4 ae) ?_)));obtain⟨n,r,e1,P,n1,n2,n3,n4,n5⟩:=start (u:=U) (w:=w) l E B.1 ae w1.2;rw[e1,P];refine Au (Y:Int) s y1 y0 U w z l E B j w1 (fun p p0 hp=>?_) n r n1 n2 n3 n4 n5;have er:=SJ hp ae;rw[er];have hp1:=hp.1;have hp2:=hp.2;rw[zt,z8]at hp2;obtain⟨m,t,k1,k2,m1,m2,m3,m4,m5⟩:=start (u:=U*4294967296+w-p*Y) (w:=z) l E B.1 ae w0.2;rw[k1,k2];refine A5 (Y:Int) s y1 y0 _ z p l E B ae w0 ae (fun q q0 hq ob=>?_) m t m1 m2 m3 m4 m5;rw[SJ hq ae,zu,em];obtain⟨hq1,hq2⟩:=hq;have W:(p*4294967296+q)*(Y:Int)=p*Y*4294967296+q*Y:=by
   rw[zt,zr,zx 4294967296 (Y:Int), <-zr]
  have K:(p*4294967296+q+1)*(Y:Int)=p*Y*4294967296+q*Y+Y:=by
   rw[zt,W,z8]
  rw[zt,z8]at hq2;obtain⟨o,A⟩:=fin (p*4294967296+q) (by rw[W];omega) (by rw[K];omega);refine hg _ _ _ ?_ ?_
  ·have hb:Sp.dq e lo y<18446744073709551616:=by
    unfold Sp.dq;refine Int.ediv_lt_of_lt_mul ae ?_;have:=yh (show e+1<=y by omega) (show(0:Int)<=18446744073709551616 by decide);omega
   rw[<-o]at hb ⊢;rw[MS,MS];omega
  ·rw[<-A,W];congr 1;omega
end T239
open Sp
theorem lT(x k:Nat)(h:2^k<=x):x.log2=k+(x/2^k).log2:=by
 have d:=yw k;have f:x/2^k≠0:=by
  have:=Nat.div_pos h d;omega
 have e:x≠0:=ae
 refine(Nat.log2_eq_iff e).2 ⟨?_,?_⟩
 ·rw[yy];exact Nat.le_trans (Nat.mul_le_mul_left _<|Nat.log2_self_le f)<|Nat.mul_div_le x<|2^k
 ·rw[Nat.add_assoc,yy];have a:x/2^k+1<=2^((x/2^k).log2+1):=Nat.lt_log2_self;have b:=Nat.mul_le_mul_left (2^k) a;have c:=Nat.lt_mul_div_succ x d;exact Nat.lt_of_lt_of_le c b
theorem Qe(x k:Nat)(h:2^k<=x):Fy (x:Int)=(k:Int)+Fy ((x/2^k:Nat):Int):=by
 have a:=yw k;have b:=Nat.div_pos h a;have e:=lT x k h;unfold Fy;rw[wc ae,wc ae,zu,zu,e];omega
theorem fdN(n k:Nat):zq (n:Int) ((2:Int)^k)=((n/2^k:Nat):Int):=by
 have:(0:Int)<2^k:=Int.pow_pos af;rw[yf _ ae,Int.natCast_ediv,yc];rfl
def Aeo:Rd:=[(0:UInt8),1,2,2,3,3,3,3,4,4,4,4,4,4,4,4,5,5,5,5,5,5,5,5,5,5,5,5,5,5,5,5,6,6,6,6,6,6,6,6,6,6,6,6,6,6,6,6,6,6,6,6,6,6,6,6,6,6,6,6,6,6,6,6,7,7,7,7,7,7,7,7,7,7,7,7,7,7,7,7,7,7,7,7,7,7,7,7,7,7,7,7,7,7,7,7,7,7,7,7,7,7,7,7,7,7,7,7,7,7,7,7,7,7,7,7,7,7,7,7,7,7,7,7,7,7,7,7,8,8,8,8,8,8,8,8,8,8,8,8,8,8,8,8,8,8,8,8,8,8,8,8,8,8,8,8,8,8,8,8,8,8,8,8,8,8,8,8,8,8,8,8,8,8,8,8,8,8,8,8,8,8,8,8,8,8,8,8,8,8,8,8,8,8,8,8,8,8,8,8,8,8,8,8,8,8,8,8,8,8,8,8,8,8,8,8,8,8,8,8,8,8,8,8,8,8,8,8,8,8,8,8,8,8,8,8,8,8,8,8,8,8,8,8,8,8,8,8,8,8,8,8,8,8,8,8]
theorem cI:∀m:Fin 256,((zf (Aeo.getD m.val 0):Nat):Int)=Fy (m.val:Int)/\zc .u8 (m.val:Int)=(m.val:Int)/\Fy (m.val:Int)<=8/\0<=Fy (m.val:Int):=by decide+kernel
theorem Om{b:Int}(a z x:Nat)(g:b=a)(j:a<=64)(h:z<256)(i:Fy (x:Int)=(a:Int)+Fy (z:Int)):zc .i64 (b+zc .i64 ((zf (Aeo.getD (Int.toNat<|zc .u8 (z:Int)) 0):Nat):Int))=Fy x:=by
 obtain⟨d,c,e,f⟩:=cI ⟨z,h⟩;have d:((zf (Aeo.getD z 0):Nat):Int)=Fy (z:Int):=d;have c:zc .u8 (z:Int)=(z:Int):=c;have e:Fy (z:Int)<=8:=e;have f:0<=Fy (z:Int):=f;rw[c,zu,d,g,i,wr (Fy (z:Int)) ae ae,wr _ ae ae]
theorem u8b(z:Nat)(b:z<256):(decide ((0:Sh.T (zn zz))<=zc zz (z:Int))&&decide (zc zz (z:Int)<(↑(256:Nat):Int)))=true:=by
 obtain⟨_,a,_,_⟩:=cI ⟨z,b⟩;have a:zc .u8 (z:Int)=(z:Int):=a;rw[a];exact Ab (w4<|show(0:Int)<=(z:Int)by omega) (w4 ae)
namespace T229
set_option maxHeartbeats 1000000 in
set_option maxRecDepth 100000 in
theorem ok[Srt]:Af AY 229 Zc:=by
 refine BA J6<|fun(x:Int) f=>?_;have f:=Sp.A6 (n:=x) f;obtain⟨x,rfl⟩:=zo f.1;refine ym (Aj (x:Int)) ?_;conv=>zeta
 conv=>zeta
 rw[fdN x 32,fdN x 16,fdN x 8,fdN (x/2^32) 16,fdN (x/2^32) 8,fdN (x/2^32/2^16) 8,fdN (x/2^16) 8];have i:=Qe x 32;have j:=Qe x 16;have k:=Qe x 8;have e:=Qe (x/2^32) 16;have g:=Qe (x/2^32) 8;have d:=Qe (x/2^32/2^16) 8;have h:=Qe (x/2^16) 8;refine zk (fun c=>zg rfl (zk (fun b=>zg rfl (zk (fun a=>zg rfl (zg (u8b _ ?_)<|zj<|z7 rfl rfl (Om 56 _ x (by decide+kernel) af ?_ ?_)))<|fun a=>zg (u8b _ ?_)<|zj<|z7 rfl rfl (Om 48 _ x (by decide+kernel) af ?_ ?_)))<|fun b=>zk (fun a=>zg rfl (zg (u8b _ ?_)<|zj<|z7 rfl rfl (Om 40 _ x (by decide+kernel) af ?_ ?_)))<|fun a=>zg (u8b _ ?_)<|zj<|z7 rfl rfl (Om 32 _ x rfl af ?_ ?_))) (fun c=>zk (fun b=>zg rfl (zk (fun a=>zg rfl (zg (u8b _ ?_)<|zj<|z7 rfl rfl (Om 24 _ x (by decide+kernel) af ?_ ?_)))<|fun a=>zg (u8b _ ?_)<|zj<|z7 rfl rfl (Om 16 _ x (by decide+kernel) af ?_ ?_)))<|fun b=>zk (fun a=>zg rfl (zg (u8b _ ?_)<|zj<|z7 rfl rfl (Om 8 _ x (by decide+kernel) af ?_ ?_)))<|fun a=>zg (u8b _ ?_)<|zj<|z7 rfl rfl (Om 0 _ x rfl af ?_ ?_));all_goals
  first
   |replace c:=w6 c
   |replace c:=w7 c
  first
   |replace b:=w6 b
   |replace b:=w7 b
  first
   |replace a:=w6 a
   |replace a:=w7 a
  omega
end T229
theorem zO[Srt]:Cv XD1:=Aa T229.ok AB
theorem TR{n:Int}(a:0<=n)(b:n<18446744073709551616):0<=Sp.Fy n/\Sp.Fy n<=64:=by
 unfold Sp.Fy;split
 ·omega
 ·have:n.toNat.log2<64:=(Nat.log2_lt ae).2 ae;omega
namespace T240
theorem ok[Srt]:Af AY 240 cLZ:=by
 refine BA zO<|fun(x:Int) hx=>?_;have h:=Sp.A6 (n:=x) hx;have a:=TR h.1 h.2;refine ym (Aj x)<|zg hx<|zj<|z7 rfl rfl ?_;show zc .i64 (64-Sp.Fy x)=Sp.lz x;unfold Sp.lz;exact wr _ ae ae
end T240
theorem qU[Srt]:Af AY 239 Uf:=T239.ok T240.ok
end Go.Pe
namespace Go.Sp
def Vr(a b:List Int):Bool:=Cy a&&Cy b&&decide (a.length<=9000)&&decide (b.length<=9000)&&decide (0<Aw b)
end Go.Sp
namespace Go.Pe
open Sp
open Go.Det
def G2:Am:=⟨[Du,Du],fun i=>Vr i.1 i.2,[Du,Du],fun i=>(BD<|Aw i.1/Aw i.2,BD<|Aw i.1 % Aw i.2),false⟩
def KM[Srt]:AL:=X7 [(176,dQ),(217,Yu),(178,T1),(216,Zq),(218,YV),(239,Uf),(240,cLZ)]
end Go.Pe
namespace Go.Sp
def Ly(c:UInt8):Int:=(c.toNat:Int)-48
def B5(c:UInt8):Bool:=decide (48<=c.toNat)&&decide (c.toNat<=57)
def AI(n:Int):Rd->Int
 |[]=>n
 |c::r=>AI (10*n+Ly c) r
def As(s:Rd):Bool:=s.all B5
theorem De:∀(n:Int) (a b:Rd),AI n (a++b)=AI (AI n a) b
 |_,[],_=>rfl
 |n,c::a,b=>by rw[List.cons_append,AI,AI,De]
theorem E3:∀(s:Rd) (n:Int),AI n s=n*10^s.length+AI 0 s
 |[],n=>by simp[AI]
 |c::s,n=>by
  rw[AI,AI,E3 s<|10*n+Ly c,E3 s<|10*0+Ly c,List.length_cons,y8,zt,Int.mul_zero,yv,zx 10 n,zr,zx 10<|10^s.length,Int.add_assoc]
theorem FA{c:UInt8}(h:B5 c=true):0<=Ly c/\Ly c<=9:=by
 unfold B5 at h;rw[zm,w5,w5]at h;unfold Ly;omega
theorem Bn:∀ {s:Rd},As s=true->0<=AI 0 s/\AI 0 s<10^s.length
 |[],_=>by simp[AI]
 |c::s,h=>by
  unfold As at h;rw[List.all_cons,zm]at h;have a:=FA h.1;have b:=Bn (s:=s) h.2;have hp:=Bj (show(0:Int)<10 by decide) s.length;have e:=zp a.1<|yb hp;have d:=zh a.2<|yb hp;rw[AI,E3,List.length_cons,y8,Int.mul_zero,yv,zx (10^s.length) 10];omega
theorem Bl{s:Rd}(h:As s=true)(i:Nat):As (s.take i)=true:=by
 grind [As]
theorem Cd{s:Rd}(h:As s=true)(i:Nat):As (s.drop i)=true:=by
 grind [As]
def A2(s:Rd):Bool:=decide (s≠[])&&As s&&(decide (s.getD 0 0≠48)||decide (s=[48]))
def Gv(a b:AM):AM:=if vI a<0/\Ai (vI a) % vI b≠0 then OF (Dd<| -(Ai (vI a)/vI b)) (1,[])else Dd<|sg (decide (vI a<0))<|Ai (vI a)/vI b
def ZW(a b:AM):Int:=(Gv a b).1
def ZU(a b:AM):List Int:=(Gv a b).2
def mV(a b:AM):Int:=C8<|vI a % vI b
def nQ(a b:AM):List Int:=C6<|vI a % vI b
def gI(a b:Int):Int:=if a<0 then -(-(Int.gcd a b:Int))else(Int.gcd a b:Int)
theorem GJ(a b:Int):gI a b=(Int.gcd a b:Int):=by unfold gI;split<;>omega
def OD(a b:AM):Int:=C8<|gI (vI a)<|vI b
def Oe(a b:AM):List Int:=C6<|gI (vI a)<|vI b
def pI(a k:Int):Int:=if k<0 then -(-(a^k.toNat))else a^k.toNat
theorem Yi(a k:Int):pI a k=a^k.toNat:=by unfold pI;split<;>omega
def yT(a k:Int):Bool:=decide (0<=k)&&decide (k<=100000)&&decide (Ai (pI a k)<(18446744073709551616:Int)^(4000:Nat))
def Wk(a:AM)(k:Int):Int:=C8<|pI (vI a) k
def Xt(a:AM)(k:Int):List Int:=C6<|pI (vI a) k
def BI(n:Int):List Int:=if n<0 then[]else[]
theorem Ff(n:Int):BI n=[]:=by unfold BI;split<;>rfl
def BU(s:Rd):Int:=if s.getD 0 0=45 then -AI 0 (s.drop 1)else AI 0 s
def D1(s:Rd):Bool:=decide (s.length<=5999)&&(if s.getD 0 0=45 then As (s.drop 1)else As s)
def DA(s:Rd):Int:=C8<|BU s
def DD(s:Rd):List Int:=C6<|BU s
end Go.Sp
namespace Go.Pe
open Sp
open Go.Det
def HI:Am:=⟨[A4,A4],fun i=>Bg i.1&&Bg i.2&&decide (0<ze i.2),[A4,A4],fun i=>((ZW i.1 i.2,ZU i.1 i.2),(mV i.1 i.2,nQ i.1 i.2)),false⟩
def bE:Am:=⟨[A4,A4],fun i=>Bg i.1&&Bg i.2,[A4],fun i=>(OD i.1 i.2,Oe i.1 i.2),false⟩
def wA:Am:=⟨[A4,i64],fun i=>Bg i.1&&yT (ze i.1) i.2,[A4],fun i=>(Wk i.1 i.2,Xt i.1 i.2),false⟩
def RU:Am:=⟨[.str],fun s=>D1 s,[A4],fun s=>(DA s,DD s),false⟩
def Sc:Am:=⟨[i64],fun _=>true,[A4],fun n=>(n,BI n),false⟩
def XF1[Srt]:AL:=RW [(184,[9,10])] [] [(184,[(9,[3,4,5,8,12,13]),(10,[3,4,5,14,15])])] [(68,Sc),(210,G2),(173,Q1),(174,mB),(133,qB),(124,Qc),(134,Ll)]
def XF0[Srt]:AL:=X7 []
def XF2[Srt]:AL:=X7 [(184,HI),(215,Aca),(134,Ll)]
def XF3[Srt]:AL:=X7 [(68,Sc),(125,SL)]
end Go.Pe
namespace Go.Sp
abbrev B9:Nat:=1000000000
def K2(l:List Int):Bool:=decide (l.length<=20000)&&l.all fun d=>decide (0<=d)&&decide (d<1000000000)
def hR(l:List Int):Bool:=K2 l&&decide (l.length<=9000)
def Bb(l:List Int):Bool:=K2 l&&nzW l
def Aq(l:List Int):Int:=val B9 l
def BW(n:Int):List Int:=dg B9 n
def rN(n:Int):Bool:=decide (n<0)
def rW(n:Int):List Int:=BW<|Ai n
def CQ(neg:Bool)(w:List Int):Bool:=neg&&decide (AD w≠[])
def Ee(s:Rd):Bool:=decide (s.length<=18)&&As s
def B6(s:Rd):Int:=AI 0 s
def Gy(s:Rd):Bool:=rN<|BU s
def Ek(s:Rd):List Int:=rW<|BU s
def CI(a b:List Int):List Int:=BW<|gI (Aq a)<|Aq b
end Go.Sp
namespace Go.Pe
open Sp
open Go.Det
abbrev li:Sh:=.list i64
abbrev Io:Sh:=.pair .bool li
def T5:Am:=⟨[li],fun l=>decide (yi (α:=Int) l<=20000),[li],fun l=>AD l,false⟩
def HL:Am:=⟨[.bool,li],fun i=>decide (yi (α:=Int) i.2<=20000),[Io],fun i=>(CQ i.1 i.2,AD i.2),false⟩
def bF:Am:=⟨[li,li],fun i=>Bb i.1&&Bb i.2,[i64],fun i=>CC (Aq i.1)<|Aq i.2,false⟩
def Z6:Am:=⟨[li,li],fun i=>Sp.hR i.1&&Sp.hR i.2,[li],fun i=>BW<|Aq i.1*Aq i.2,false⟩
def Yz:Am:=⟨[li,i64],fun i=>K2 i.1&&decide (0<(i.2:Int))&&decide ((i.2:Int)<1000000000),[li,i64],fun i=>(BW<|Aq i.1/i.2,Aq i.1 % i.2),false⟩
def Sw:Am:=⟨[li,li],fun i=>Bb i.1&&Bb i.2&&decide (yi (α:=Int) i.1<=9000)&&decide (yi (α:=Int) i.2<=9000)&&decide (0<Aq i.2),[li,li],fun i=>(BW<|Aq i.1/Aq i.2,BW<|Aq i.1 % Aq i.2),false⟩
def MC:Am:=⟨[li,li],fun i=>Bb i.1&&Bb i.2&&decide (yi (α:=Int) i.1<=9000)&&decide (yi (α:=Int) i.2<=9000),[li],fun i=>CI i.1 i.2,false⟩
def TT:Am:=⟨[.str],fun s=>Ee s,[i64],fun s=>B6 s,false⟩
def OZ:Am:=⟨[.str],fun s=>D1 s,[Io],fun s=>(Gy s,Ek s),false⟩
def wL[Srt]:AL:=X7 []
def jM[Srt]:AL:=X7 [(190,T5)]
def Nw[Srt]:AL:=X7 [(151,bF),(190,T5),(189,Yz),(153,Z6)]
def XG3[Srt]:AL:=X7 [(147,Sw)]
def jP[Srt]:AL:=X7 [(142,TT),(149,HL)]
end Go.Pe
namespace Go.Sp
def DL:Rd:=[48,49,50,51,52,53,54,55,56,57]
def Ac1(o:List Bool):List Bool:=(List.range 256).map fun j=>o.getD j false
def AcY:List Bool:=List.replicate 256 false
def PH(s:Rd):Rd:=((s.reverse.dropWhile B5).reverse).dropWhile B5
def QT(s:Rd)(c:Int):Int:=match s.findIdx? (fun x=>x==c.toNat.toUInt8)with
 |some i=>(i:Int)
 |none=> -1
def AJ(s:Rd):Rd:=match s.findIdx? (fun x=>x==47)with
 |some i=>s.take i
 |none=>s
def A1(s:Rd):Rd:=match s.findIdx? (fun x=>x==47)with
 |some i=>s.drop<|i+1
 |none=>[]
def BR(s:Rd):Bool:=s.any<|fun x=>x==47
def A9(s:Rd):Rd:=if s.getD 0 0=45 then s.drop 1 else s
def preB(s:Rd):Bool:=decide (s.getD 0 0=45)
def AcZ(s t:Rd):Bool:=decide (t=DL)&&decide (s.length<=1000000)
def Aei(s t:Rd):Bool:=decide (t=[47])&&decide (s.length<=1000000)
def TV(s t:Rd):Bool:=decide (t=[45])&&decide (s.length<=1000000)
end Go.Sp
namespace Go.Pe
open Sp
open Go.Det
def Yl:Am:=⟨[.str,.str],fun i=>AcZ i.1 i.2,[.str],fun i=>PH i.1,false⟩
def AcK:Am:=⟨[.str,.int .u8],fun i=>decide (0<=(i.2:Int))&&decide ((i.2:Int)<256),[i64],fun i=>QT i.1 i.2,false⟩
def oI:Am:=⟨[.str,.str],fun i=>Aei i.1 i.2,[.str,.str,.bool],fun i=>(AJ i.1,Sp.A1 i.1,BR i.1),false⟩
def Acv:Am:=⟨[.str,.str],fun i=>TV i.1 i.2,[.str,.bool],fun i=>(A9 i.1,Sp.preB i.1),false⟩
def ZC:Am:=⟨[.str],fun s=>decide (s.length<=1000000),[.bool],fun s=>A2 s,false⟩
def Pr[Srt]:AL:=X7 []
def iM[Srt]:AL:=X7 [(268,⟨[.str,.str],fun _=>false,[.str],fun i=>i.1,false⟩),(269,⟨[.str,.str],fun _=>false,[.str],fun i=>i.1,false⟩),(263,⟨[.str,.int .u8],fun _=>false,[.str],fun i=>i.1,false⟩),(264,⟨[.str,.int .u8],fun _=>false,[.str],fun i=>i.1,false⟩)]
def XH1[Srt]:AL:=X7 [(236,Yl)]
def XH2[Srt]:AL:=X7 [(280,AcK)]
def Sd[Srt]:AL:=X7 [(68,Sc),(199,wA),(125,SL),(124,Qc),(162,XE),(258,⟨[.str,i64,i64],fun _=>false,[i64],fun _=>(0:Int),false⟩),(234,⟨[.str],fun _=>false,[i64],fun _=>(0:Int),false⟩)]
end Go.Pe
namespace Go.Sp
def Hf(a:Rd):Bool:=A2 (AJ<|A9 a)&&(!preB a||decide (AJ (A9 a)≠[48]))&&(!BR (A9 a)||(A2 (A1<|A9 a)&&decide (A1 (A9 a)≠[48])&&decide (A1 (A9 a)≠[49])))
def AbZ(a:Rd):Int:=AI 0<|AJ<|A9 a
def AbQ(a:Rd):Int:=AI 0<|A1<|A9 a
def Ap(a:Rd):Int:=if Hf a=false then 1 else if 600<(AJ<|A9 a).length\/600<(A1<|A9 a).length then 4 else if BR (A9 a)=true/\gI (AbZ a) (AbQ a)≠1 then 1 else 0
def A3(s:Rd):Int:=((AJ s).length:Int)
def DS(a:Rd):Bool:=D1 (AJ a)&&D1 (A1 a)&&decide (a.length<=5999)
def Bo(a:Rd):Int:=BU<|AJ a
def AZ(a:Rd):Int:=if BR a=true then BU (A1 a)else 1
def BZ(a:Rd):Bool:=rN<|Bo a
def BQ(a:Rd):List Int:=rW<|Bo a
def Bv(a:Rd):Bool:=rN<|AZ a
def Bp(a:Rd):List Int:=rW<|AZ a
end Go.Sp
namespace Go.Pe
open Sp
open Go.Det
def EC:Am:=⟨[.str],fun s=>decide (s.length<=1000000),[i64],fun s=>Ap s,false⟩
def QY:Am:=⟨[.str],fun s=>decide (s.length<=1000000),[i64],fun s=>A3 s,false⟩
def dV:Am:=⟨[.str],fun s=>decide (s.length<=9223372036854775807),[i64],fun s=>A3 s,false⟩
def Vm:Am:=⟨[.str],fun s=>decide (s.length<=9223372036854775807),[.bool],fun s=>A2 s,false⟩
def IE:Am:=⟨[i64],fun n=>Cn n,[Io],fun n=>(Sp.rN n,Sp.rW n),false⟩
def Pj:Am:=⟨[.str],fun s=>DS s,[Io,Io],fun s=>((BZ s,BQ s),(Bv s,Bp s)),false⟩
def N1[Srt]:AL:=RW [(163,[4,6,7,9,10])] [] [(163,[(4,[5,6,7,8]),(6,[5,6,7,8]),(7,[5,6,7,9]),(9,[5,6,7]),(10,[10])])] [(202,GV),(203,Gw),(200,Acv),(159,oI),(201,ZC),(171,bE),(160,RU),(67,sA),(68,Sc)]
def XK2[Srt]:AL:=X7 [(149,HL)]
def XK3[Srt]:AL:=X7 [(139,QY),(138,OZ),(143,IE)]
def Xc[Srt]:AL:=RW [(78,[4,7,9,11,13,14])] [] [(78,[(4,[0,3]),(7,[3,4]),(9,[3,4]),(11,[3,4]),(13,[5,6]),(14,[7])])] [(139,dV),(140,Vm),(82,Pj),(141,MC)]
end Go.Pe
namespace Go.Sp
abbrev Ad:=(Int×List Int)×(Int×List Int)
def OH(a:AM):Bool:=Ds a&&decide (a.2.length<=4000)
def CA(a:Ad):Bool:=OH a.1&&OH a.2
def Dh(a b:Ad):Int:=CC (vI a.1*vI b.2)<|vI b.1*vI a.2
def Sg(a:Rd):Int:=C8<|Bo a
def Sf(a:Rd):List Int:=C6<|Bo a
def QD(a:Rd):Int:=C8<|AZ a
def RV(a:Rd):List Int:=C6<|AZ a
def iQ(a b:AM):AM:=if vI b<0 then Gv (Dt a) (Dt b)else Gv a b
def iQS(a b:AM):Int:=(iQ a b).1
def iQW(a b:AM):List Int:=(iQ a b).2
def Da(d:AM):Bool:=decide (d.2=[])&&decide (d.1=1)
def gR(n d:AM):AM:=(OD n d,Oe n d)
def OS(n d:AM):Ad:=if Da d=true then(n,d)else(iQ n<|gR n d,iQ d<|gR n d)
def SQ(n d:AM):Ad:=if vI d<0 then OS (Dt n) (Dt d)else OS n d
def fWh(n:AM):Ad:=(n,(1,BI 1))
def B2(a b:Ad):Ad:=if Da a.2=true/\Da b.2=true then fWh (ES a.1 b.1)else SQ (ES (F4 a.1 b.2)<|F4 b.1 a.2)<|F4 a.2 b.2
def FV(a b:Ad):Ad:=SQ (F4 a.1 b.1)<|F4 a.2 b.2
def AeD(a:Ad):Ad:=(Dt a.1,a.2)
def Fu(a b:Ad):Ad:=B2 a<|AeD b
def V2(a:Ad):Ad:=SQ a.2 a.1
def KJ(a b:Ad):Ad:=FV a<|V2 b
def nS(f:Ad):Int:=f.1.1
def nW(f:Ad):List Int:=f.1.2
def dS(f:Ad):Int:=f.2.1
def dW(f:Ad):List Int:=f.2.2
def rR(n d:AM):Int:=nS<|SQ n d
def vB(n d:AM):List Int:=nW<|SQ n d
def uW(n d:AM):Int:=dS<|SQ n d
def wC(n d:AM):List Int:=dW<|SQ n d
def LG(a b:Ad):Int:=nS<|B2 a b
def Mm(a b:Ad):List Int:=nW<|B2 a b
def Mw(a b:Ad):Int:=dS<|B2 a b
def LJ(a b:Ad):List Int:=dW<|B2 a b
def Af2(a b:Ad):Int:=nS<|Fu a b
def Ahx(a b:Ad):List Int:=nW<|Fu a b
def Af4(a b:Ad):Int:=dS<|Fu a b
def Ags(a b:Ad):List Int:=dW<|Fu a b
def AcA(a b:Ad):Int:=nS<|FV a b
def Aci(a b:Ad):List Int:=nW<|FV a b
def Ace(a b:Ad):Int:=dS<|FV a b
def AcM(a b:Ad):List Int:=dW<|FV a b
def Agr(a:Ad):Int:=nS<|V2 a
def AgQ(a:Ad):List Int:=nW<|V2 a
def Agi(a:Ad):Int:=dS<|V2 a
def AhA(a:Ad):List Int:=dW<|V2 a
def nP(a b:Ad):Int:=nS<|KJ a b
def tM(a b:Ad):List Int:=nW<|KJ a b
def nL(a b:Ad):Int:=dS<|KJ a b
def vO(a b:Ad):List Int:=dW<|KJ a b
def flS(a:Ad):Int:=ZW a.1 a.2
def flW(a:Ad):List Int:=ZU a.1 a.2
def Ck(a:Ad):Bool:=CA a&&decide (0<vI a.2)
def Js(n d:AM):Bool:=Bg n&&Bg d&&decide (vI d≠0)
end Go.Sp
namespace Go.Pe
open Sp
open Go.Det
abbrev An:Sh:=.pair A4 A4
def Mq:Am:=⟨[.str],fun s=>DS s,[An],fun s=>((Sg s,Sf s),(QD s,RV s)),false⟩
def Qy:Am:=⟨[An,An],fun i=>Sp.CA (i.1:Ad)&&Sp.CA (i.2:Ad),[i64],fun i=>Dh (i.1:Ad) (i.2:Ad),false⟩
def cIQ:Am:=⟨[A4,A4],fun i=>Js i.1 i.2,[A4],fun i=>(Sp.iQS i.1 i.2,Sp.iQW i.1 i.2),false⟩
def dP:Am:=⟨[A4,A4],fun i=>Js i.1 i.2,[An],fun i=>((rR i.1 i.2,vB i.1 i.2),(uW i.1 i.2,wC i.1 i.2)),false⟩
def Qb:Am:=⟨[An],fun _=>true,[.bool],fun a=>Da (a:Ad).2,false⟩
def oP:Am:=⟨[A4],fun _=>true,[An],fun n=>((n:AM),((1:Int),BI 1)),false⟩
def cF:Am:=⟨[i64],fun _=>true,[An],fun n=>(((n:Int),BI n),((1:Int),BI 1)),false⟩
def Acj:Am:=⟨[An],fun a=>z6 (a:Ad).1,[An],fun a=>((EX (a:Ad).1,EV (a:Ad).1),((a:Ad).2.1,(a:Ad).2.2)),false⟩
def JN:Am:=⟨[An,An],fun i=>Sp.Ck (i.1:Ad)&&Sp.Ck (i.2:Ad),[An],fun i=>((LG i.1 i.2,Mm i.1 i.2),(Mw i.1 i.2,LJ i.1 i.2)),false⟩
def dE:Am:=⟨[An,An],fun i=>Sp.Ck (i.1:Ad)&&Sp.Ck (i.2:Ad),[An],fun i=>((Af2 i.1 i.2,Ahx i.1 i.2),(Af4 i.1 i.2,Ags i.1 i.2)),false⟩
def S1:Am:=⟨[An,An],fun i=>Sp.Ck (i.1:Ad)&&Sp.Ck (i.2:Ad),[An],fun i=>((AcA i.1 i.2,Aci i.1 i.2),(Ace i.1 i.2,AcM i.1 i.2)),false⟩
def Acp:Am:=⟨[An],fun a=>Sp.Ck (a:Ad)&&decide (ze (a:Ad).1≠0),[An],fun a=>((Agr a,AgQ a),(Agi a,AhA a)),false⟩
def bN:Am:=⟨[An,An],fun i=>Sp.Ck (i.1:Ad)&&Sp.Ck (i.2:Ad)&&decide (ze (i.2:Ad).1≠0),[An],fun i=>((nP i.1 i.2,tM i.1 i.2),(nL i.1 i.2,vO i.1 i.2)),false⟩
def lD:Am:=⟨[An],fun a=>Sp.Ck (a:Ad),[A4],fun a=>(Sp.flS a,Sp.flW a),false⟩
def wN[Srt]:AL:=RW [(172,[3])] [] [(172,[(3,[2,3,4])])] [(134,Ll),(162,XE),(184,HI),(171,bE),(68,Sc),(124,Qc),(125,SL),(67,sA),(159,oI),(160,RU)]
def XA1[Srt]:AL:=RW [(120,[3,6])] [] [(120,[(3,[2,3,4]),(6,[2,3,4,5])])] [(134,Ll),(162,XE),(171,bE),(172,cIQ)]
def XA2[Srt]:AL:=RW [(59,[3])] [] [(59,[(3,[2,3,4])])] [(123,Qb),(121,oP),(124,Qc),(125,SL),(120,dP)]
def XA3[Srt]:AL:=X7 [(131,Acj),(59,JN),(65,S1),(161,Acp)]
end Go.Pe
namespace Go.Sp
def QE(a:Rd):Rd:=if BR a=true then A1 a else[49]
def Cm(a:Rd)(n:Int):Bool:=decide ((a.length:Int)<=2*n+2)&&decide (Ap a=0)&&decide (((A9<|AJ a).length:Int)<=n)&&decide (((QE a).length:Int)<=n)
end Go.Sp
namespace Go.Pe
open Go.Det
def ZT:Am:=⟨[.str,i64],fun i=>decide (0<=(i.2:Int))&&decide ((i.2:Int)<=1000),[.bool],fun i=>Sp.Cm i.1 i.2,false⟩
def cJ:Am:=⟨[.str],fun s=>decide (s.length<=1000000),[.str],fun s=>Sp.A9 s,false⟩
def oL:Am:=⟨[.str],fun s=>decide (s.length<=1000000),[.str],fun s=>Sp.AJ s,false⟩
def cN:Am:=⟨[.str],fun s=>decide (s.length<=1000000),[.str],fun s=>Sp.QE s,false⟩
def XM5[Srt]:AL:=X7 [(139,QY)]
def XM3[Srt]:AL:=X7 [(78,EC),(33,cJ),(113,oL),(114,cN)]
end Go.Pe
namespace Go.Sp
def EN(a:Rd):Bool:=decide (a.length<=20)&&decide ((AJ<|A9 a).length<=9)&&decide ((A1<|A9 a).length<=9)
def Jf(a:Rd):Int:=if preB a=true then -AI 0 (AJ<|A9 a)else AI 0<|AJ<|A9 a
def Uu(a:Rd):Int:=if BR (A9 a)=true then AI 0 (A1<|A9 a)else 1
def F6(a:Rd):Int:=if a=[48]then 0 else if a.getD 0 0=45 then -1 else 1
def M5(a:Rd):Rd:=if a=[48]then a else if a.getD 0 0=45 then a.drop 1 else 45::a
def Iz:Nat->Nat->Nat->Rd->Rd
 |0,_,_,a=>a
 |f+1,n,l,a=>if n=0/\l<=a.length then a else Iz f (n/10) l (UInt8.ofNat (48+n % 10)::a)
def JD(n l:Int):Rd:=Iz 64 n.toNat l.toNat []
def Ahj(a b:Int):Bool:=decide (0<=a)&&decide (a<9223372036854775808)&&decide (0<=b)&&decide (b<9223372036854775808)
end Go.Sp
namespace Go.Pe
open Go.Det
def AcV:Am:=⟨[i64,i64],fun i=>Sp.Ahj i.1 i.2,[i64],fun i=>Sp.gI i.1 i.2,false⟩
def NS:Am:=⟨[.str],fun s=>decide (s.length<=1000000),[i64],fun s=>Sp.F6 s,false⟩
def aK:Am:=⟨[.str],fun s=>decide (s.length<=1000000),[.str],fun s=>Sp.M5 s,false⟩
def RE:Am:=⟨[i64,i64],fun i=>decide (0<=(i.1:Int))&&decide ((i.1:Int)<9223372036854775808)&&decide (0<=(i.2:Int))&&decide ((i.2:Int)<=20),[.str],fun i=>Sp.JD i.1 i.2,false⟩
def Pc[Srt]:AL:=RW [(80,[5,7,11,13])] [] [(80,[(5,[5,6]),(7,[5,6]),(11,[5,6,7,8,9]),(13,[6,8,9])])] [(142,TT),(139,QY)]
def XO2[Srt]:AL:=X7 [(87,NS)]
end Go.Pe
namespace Go.Sp
open Go.Lib
theorem GU(a d:Nat)(b:0<a)(c:d<10):decDigits (10*a+d)=decDigits a++[UInt8.ofNat<|48+d]:=by
 rw[decDigits,dif_neg ae,show(10*a+d)/10=a from by omega,show(10*a+d) % 10=d from by omega]
theorem mU(a d:Nat)(b:0<a)(c:d<10):nDigits (10*a+d)=nDigits a+1:=by
 rw[nDigits_big ae,show(10*a+d)/10=a from by omega]
def GZ(k b:Nat):Rd:=List.replicate (k-nDigits b) 48++decDigits b
theorem SM(k b d:Nat)(e:1<=k)(a:d<10):GZ (k+1) (10*b+d)=GZ k b++[UInt8.ofNat<|48+d]:=by
 unfold GZ;rcases Nat.eq_zero_or_pos b with rfl|c
 ·rw[Nat.mul_zero,Nat.zero_add,nDigits_small a,decDigits_one a,nDigits_small ae,decDigits_one ae];obtain⟨j,rfl⟩:∃j,k=j+1:=⟨k-1,by omega⟩;simp_all [List.replicate_succ']
 grind [mU,GU]
theorem Us:∀(k a b:Nat),1<=k->0<a->b<10^k->decDigits (a*10^k+b)=decDigits a++GZ k b
 |0,_,_,h,_,_=>by omega
 |1,a,b,_,c,d=>by
  rw[Nat.mul_comm,GU a b c d];simp_all [GZ,nDigits_small,decDigits_one]
 |k+2,a,b,_,c,d=>by
  have e:b=10*(b/10)+b % 10:=ae
  have i:b/10<10^(k+1):=by
   grind
  have j:a*10^(k+2)+b=10*(a*10^(k+1)+b/10)+b % 10:=by
   grind
  have hp:0<a*10^(k+1):=Nat.mul_pos c ae;have f:=Us (k+1) a (b/10) ae c i;have g:=SM (k+1) (b/10) (b % 10) ae ae;rw[j,GU _ _ ae ae,f,List.append_assoc, <-g, <-e]
def CF:Nat->Nat->List Rd
 |0,_=>[]
 |f+1,v=>if v<10^18 then[decDigits v]else GZ 18 (v % 10^18)::CF f (v/10^18)
theorem Jb:∀(f v:Nat),v<f->(CF f v).reverse.flatten=decDigits v
 |0,_,h=>by omega
 |f+1,v,h=>by
  unfold CF;split
  ·simp
  ·next c=>
   have a:v/10^18<f:=ae
   have b:=Jb f (v/10^18) a;have d:=Us 18 (v/10^18) (v % 10^18) ae ae ae;grind
end Go.Sp
namespace Go.Pe
open Sp
open Go.Det
section
open List Int Prod
namespace T96
def T[Srt](s:Rd):Tr:=tree wN false 9 96<|Ag ([zi]) s
theorem Aj[Srt](s:Rd):T s=.ck (Aei s [(47:UInt8)]) (.ite (!BR s) (.ck (D1<|AJ s)<|.ck true<|.leaf (zy [.dat i64<|DA<|AJ s,.dat wU<|DD<|AJ s,.dat i64 (1:Int),.dat wU<|BI 1]) [])<|.ck (D1<|AJ s)<|.ck (D1<|Sp.A1 s)<|.leaf (zy [.dat i64<|DA<|AJ s,.dat wU<|DD<|AJ s,.dat i64<|DA<|Sp.A1 s,.dat wU<|DD<|Sp.A1 s]) []):=by kernel_rfl
end T96
namespace T172
def T[Srt](a b:AM):Tr:=tree wN false 9 172<|Ag ([A4,A4]) (a,b)
def L1[Srt](d o1:Int)(a:List Int)(c:Int)(b:List Int):Tr:=re ((T (0,[]) (0,[])).L.L.L.L)<|Ax 21 [(2,.ptr 0 0),(3,.ptr 1 0),(4,.ptr 2 0)] [(2,.box [.dat i64 d,.nil]),(1,.box [.dat i64 o1,.dat wU a]),(0,.box [.dat i64 c,.dat wU b])] 3
theorem Aj[Srt](a b:AM):T a b=.ck (z6 b) (.ite (decide (IQ b<0)) (.ck (z6 a)<|.ck (z6 b)<|L1 0 (EX b) (EV b) (EX a)<|EV a)<|L1 0 (fst b) (snd b) (fst a)<|snd a):=by kernel_rfl
theorem Ak[Srt](d o1:Int)(a:List Int)(c:Int)(b:List Int):stepT wN (L1 d o1 a c b)=.ck (Bg (c,b)&&Bg (o1,a)&&decide (0<ze (o1,a))) (.leaf (zy [.dat i64<|ZW (c,b) (o1,a),.dat wU<|ZU (c,b) (o1,a)]) []):=by kernel_rfl
end T172
namespace T120
def T[Srt](n d:AM):Tr:=tree XA1 false 9 120<|Ag ([A4,A4]) (n,d)
def L1[Srt](e a o1:Int)(b:List Int)(d:Int)(c:List Int):Tr:=re ((T (0,[]) (0,[])).L.L.L.L)<|Ax 34 [(2,.ptr 0 0),(3,.ptr 1 0),(4,.ptr 2 0)] [(2,.box [.dat i64 e,.nil,.dat i64 a,.nil]),(1,.box [.dat i64 o1,.dat wU b]),(0,.box [.dat i64 d,.dat wU c])] 3
theorem Aj[Srt](n d:AM):T n d=.ck (z6 d) (.ite (decide (IQ d<0)) (.ck (z6 n)<|.ck (z6 d)<|L1 0 0 (EX d) (EV d) (EX n)<|EV n)<|L1 0 0 (fst d) (snd d) (fst n)<|snd n):=by kernel_rfl
def L2[Srt](e:Int)(a:List Int)(g b o1:Int)(c:List Int)(f:Int)(d:List Int):Tr:=re ((stepT XA1<|L1 0 0 0 [] 0 []).L.R.L)<|Ax 34 [(2,.ptr 0 0),(3,.ptr 1 0),(4,.ptr 2 0),(5,.ptr 3 0)] [(3,.box [.dat i64 e,.dat wU a]),(2,.box [.dat i64 g,.nil,.dat i64 b,.nil]),(1,.box [.dat i64 o1,.dat wU c]),(0,.box [.dat i64 f,.dat wU d])] 4
theorem Ak[Srt](f c o1:Int)(a:List Int)(d:Int)(b:List Int):stepT XA1 (L1 f c o1 a d b)=let e:Tr:=.ck (Bg (d,b)&&Bg (o1,a))<|L2 (OD (d,b) (o1,a)) (Oe (d,b) (o1,a)) f c o1 a d b;.ite (!decide (0<length a)) (.ite (o1==1) (.leaf (zy [.dat i64 d,.dat wU b,.dat i64 o1,.dat wU a]) []) e) e:=by kernel_rfl
theorem Az[Srt](d:Int)(a:List Int)(g e o1:Int)(b:List Int)(f:Int)(c:List Int):stepT XA1 (L2 d a g e o1 b f c)=.ck (Js (f,c) (d,a)) (.ck (Js (o1,b) (d,a))<|.leaf (zy [.dat i64<|Sp.iQS (f,c) (d,a),.dat wU<|Sp.iQW (f,c) (d,a),.dat i64<|Sp.iQS (o1,b) (d,a),.dat wU<|Sp.iQW (o1,b) (d,a)]) []):=by kernel_rfl
end T120
namespace T123
def T[Srt](a:Ad):Tr:=tree wN false 9 123<|Ag ([An]) a
theorem Aj[Srt](a:Ad):T a=.ite (!decide (0<length (snd<|snd a))) (.leaf (.dat zl<|fst (snd a)==1) []) (.leaf (.bl false) []):=by kernel_rfl
end T123
namespace T121
def T[Srt](n:AM):Tr:=tree wN false 9 121<|Ag ([A4]) n
theorem Aj[Srt](n:AM):T n=.ck true (.leaf (zy [.dat i64<|fst n,.dat wU<|snd n,.dat i64 (1:Int),.dat wU<|BI 1]) []):=by kernel_rfl
end T121
namespace T131
def T[Srt](a:Ad):Tr:=tree wN false 9 131<|Ag ([An]) a
theorem Aj[Srt](a:Ad):T a=.ck (z6<|fst a) (.leaf (zy [.dat i64<|EX<|fst a,.dat wU<|EV<|fst a,.dat i64<|fst<|snd a,.dat wU<|snd<|snd a]) []):=by kernel_rfl
end T131
namespace T59
def T[Srt](a b:Ad):Tr:=tree XA2 false 9 59<|Ag ([An,An]) (a,b)
def L1[Srt](h e o1:Int)(f:List Int)(b:Int)(g:List Int)(i:Int)(c:List Int)(a:Int)(d:List Int):Tr:=re ((T ((0,[]),(0,[])) ((0,[]),(0,[]))).L.L.L.R)<|Ax 34 [(2,.ptr 0 0),(3,.ptr 1 0),(4,.ptr 2 0)] [(2,.box [.dat i64 h,.nil,.dat i64 e,.nil]),(1,.box [.dat i64 o1,.dat wU f,.dat i64 b,.dat wU g]),(0,.box [.dat i64 i,.dat wU c,.dat i64 a,.dat wU d])] 3
theorem Aj[Srt](a b:Ad):T a b=let c:=L1 0 0 (fst<|fst b) (snd<|fst b) (fst<|snd b) (snd<|snd b) (fst<|fst a) (snd<|fst a) (fst<|snd a)<|snd<|snd a;.ck true (.ite (Da<|snd a) (.ck true<|.ite (Da<|snd b) (.ck (Bg (fst a)&&Bg (fst b))<|.ck true<|.leaf (zy [.dat i64<|KU (fst a)<|fst b,.dat wU<|K3 (fst a)<|fst b,.dat i64 (1:Int),.dat wU<|BI 1]) []) c) c):=by kernel_rfl
theorem Ak[Srt](l h o1:Int)(f:List Int)(b:Int)(d:List Int)(i:Int)(e:List Int)(a:Int)(c:List Int):stepT XA2 (L1 l h o1 f b d i e a c)=let b':=(Fq (a,c) (b,d),FC (a,c) (b,d));let j:=(Fq (i,e) (b,d),FC (i,e) (b,d));let k:=(Fq (o1,f) (a,c),FC (o1,f) (a,c));let g:=(KU j k,K3 j k);.ck (Bg (i,e)&&Bg (b,d)) (.ck (Bg (o1,f)&&Bg (a,c))<|.ck (Bg j&&Bg k)<|.ck (Bg (a,c)&&Bg (b,d))<|.ck (Js g b')<|.leaf (zy [.dat i64<|rR g b',.dat wU<|vB g b',.dat i64<|uW g b',.dat wU<|wC g b']) []):=by kernel_rfl
end T59
namespace T65
def T[Srt](a b:Ad):Tr:=tree XA2 false 9 65<|Ag ([An,An]) (a,b)
theorem Aj[Srt](a b:Ad):T a b=let c:=(Fq (fst a)<|fst b,FC (fst a)<|fst b);let b':=(Fq (snd a)<|snd b,FC (snd a)<|snd b);.ck (Bg (fst a)&&Bg (fst b)) (.ck (Bg (snd a)&&Bg (snd b))<|.ck (Js c b')<|.leaf (zy [.dat i64<|rR c b',.dat wU<|vB c b',.dat i64<|uW c b',.dat wU<|wC c b']) []):=by kernel_rfl
end T65
namespace T161
def T[Srt](a:Ad):Tr:=tree XA2 false 9 161<|Ag ([An]) a
theorem Aj[Srt](a:Ad):T a=.ck (Js (snd a)<|fst a) (.leaf (zy [.dat i64<|rR (snd a)<|fst a,.dat wU<|vB (snd a)<|fst a,.dat i64<|uW (snd a)<|fst a,.dat wU<|wC (snd a)<|fst a]) []):=by kernel_rfl
end T161
namespace T64
def T[Srt](a b:Ad):Tr:=tree XA3 false 9 64<|Ag ([An,An]) (a,b)
theorem Aj[Srt](a b:Ad):T a b=let c:=((EX<|fst b,EV<|fst b),fst<|snd b,snd<|snd b);let b':=((fst a),fst<|snd a,snd<|snd a);.ck (z6<|fst b) (.ck (Sp.Ck b'&&Sp.Ck c)<|.leaf (zy [.dat i64<|LG b' c,.dat wU<|Mm b' c,.dat i64<|Mw b' c,.dat wU<|LJ b' c]) []):=by kernel_rfl
end T64
namespace T97
def T[Srt](a b:Ad):Tr:=tree XA3 false 9 97<|Ag ([An,An]) (a,b)
theorem Aj[Srt](a b:Ad):T a b=let b':=((fst a),fst<|snd a,snd<|snd a);let d:=((fst b),fst<|snd b,snd<|snd b);let c:=V2 d;.ck (Sp.Ck d&&decide (ze (fst b)≠0)) (.ck (Sp.Ck b'&&Sp.Ck c)<|.leaf (zy [.dat i64<|AcA b' c,.dat wU<|Aci b' c,.dat i64<|Ace b' c,.dat wU<|AcM b' c]) []):=by kernel_rfl
end T97
namespace T73
def T[Srt](a b:Ad):Tr:=tree wN false 9 73<|Ag ([An,An]) (a,b)
theorem Aj[Srt](a b:Ad):T a b=let c:=(Fq (fst a)<|snd b,FC (fst a)<|snd b);let b':=(Fq (fst b)<|snd a,FC (fst b)<|snd a);.ck (Bg (fst a)&&Bg (snd b)) (.ck (Bg (fst b)&&Bg (snd a))<|.ck (Bg c&&Bg b')<|.leaf (.dat i64<|fX c b') []):=by kernel_rfl
end T73
namespace T132
def T[Srt](a:Ad):Tr:=tree wN false 9 132<|Ag ([An]) a
theorem Aj[Srt](a:Ad):T a=.ck (Bg (fst a)&&Bg (snd a)&&decide (0<ze (snd a))) (.leaf (zy [.dat i64<|ZW (fst a)<|snd a,.dat wU<|ZU (fst a)<|snd a]) []):=by kernel_rfl
end T132
namespace T139
def T[Srt](s:Rd):Tr:=tree Pr false 9 139<|Ag ([zi]) s
def L1[Srt](v0:Rd)(v3:Int):Tr:=re ((T []))<|Ax 17 [(0,.dat zi v0),(3,.dat i64 v3)] [] 0
theorem Aj[Srt](s:Rd):T s=L1 s 0:=by kernel_rfl
theorem Ak[Srt](v0:Rd)(v3:Int):stepT Pr (L1 v0 v3)=let a:=(length v0:Int);.di (v3<a) (.ck (decide (0<=v3)&&decide (v3<a))<|.ite ((↑(zf<|getD v0 (toNat v3) (0:UInt8)):Int)==47) (.leaf (.dat i64 v3) [])<|L1 v0<|zc .i64<|v3+1) (.leaf (.dat i64 a) []):=by kernel_rfl
end T139
namespace T140
def T[Srt](s:Rd):Tr:=tree Pr false 9 140<|Ag ([zi]) s
def L1[Srt](s v0:Rd)(v3:Int):Tr:=re ((T s).R.L.L.R)<|Ax 20 [(0,.dat zi v0),(3,.dat i64 v3)] [] 0
def L2[Srt](s v0:Rd)(v3:Int):Tr:=re ((T s).R.R)<|Ax 20 [(0,.dat zi v0),(3,.dat i64 v3)] [] 0
theorem Aj[Srt](s:Rd):T s=let a:=(length s:Int);.ite (a==0) (.leaf (.bl false) []) (.di (a>1) (.cd (0<a)<|.ite ((↑(zf<|getD s 0 (0:UInt8)):Int)==48) (.leaf (.bl false) [])<|L1 s s 0)<|L2 s s 0):=by kernel_rfl
theorem Ak[Srt](s v0:Rd)(v3:Int):stepT Pr (L1 s v0 v3)=let a:=decide (v3<(length v0:Int));let b':=(↑(zf<|getD v0 (toNat v3) (0:UInt8)):Int);.ite a (.ck (decide (0<=v3)&&a)<|.di (b'<48) (.leaf (.bl false) [])<|.ck (decide (0<=v3)&&a)<|.di (b'>57) (.leaf (.bl false) [])<|L1 s v0<|zc .i64<|v3+1) (.leaf (.bl true) []):=by kernel_rfl
theorem Az[Srt](s v0:Rd)(v3:Int):stepT Pr (L2 s v0 v3)=let a:=decide (v3<(length v0:Int));let b':=(↑(zf<|getD v0 (toNat v3) (0:UInt8)):Int);.ite a (.ck (decide (0<=v3)&&a)<|.di (b'<48) (.leaf (.bl false) [])<|.ck (decide (0<=v3)&&a)<|.di (b'>57) (.leaf (.bl false) [])<|L2 s v0<|zc .i64<|v3+1) (.leaf (.bl true) []):=by kernel_rfl
end T140
namespace T143
def T[Srt](n:Int):Tr:=tree XK2 false 9 143<|Ag ([zn IntKind.i64]) n
def L1[Srt](v0:Int)(v4:Bool):Tr:=re ((T 0))<|Ax 25 [(0,.dat i64 v0),(2,.ptr 0 0),(3,.nil),(4,.dat zl v4)] [(0,.box [.bl false,.nil])] 1
theorem Aj[Srt](n:Int):T n=L1 n (decide (n<0)):=by kernel_rfl
def L2[Srt](v0:Int)(a:Nat)(v4:Bool)(o1:List Int):Tr:=re ((stepT XK2<|L1 0 false).L.L.L.L.L)<|Ax 25 [(0,.dat i64 v0),(2,.ptr 0 0),(3,.sl 1 1 0 a none),(4,.dat zl v4)] [(1,.arr false 3 i64 o1),(0,.box [.bl false,.nil])] 2
theorem Ak[Srt](v0:Int)(v4:Bool):stepT XK2 (L1 v0 v4)=let a:=aa 8;let b':=zc .i64<|ye v0 1000000000;.ite (v0 !=0) (.ck true<|.di (yr v0 1000000000<0) (.ck a<|.ck true<|L2 b' 1 v4<|[zc .i64<|0-yr v0 1000000000])<|.ck a<|.ck true<|L2 b' 1 v4<|[yr v0 1000000000]) (.cd (0<=20000)<|.leaf (zy [.dat zl<|Sp.CQ v4 [],.dat (yg i64)<|Sp.AD []]) []):=by kernel_rfl
theorem Az[Srt](v0:Int)(a:Nat)(v4:Bool)(o1:List Int):stepT XK2 (L2 v0 a v4 o1)=let b:=ac a (length o1) 8;let b':=zc .i64<|ye v0 1000000000;.ite (v0 !=0) (.ck true<|.di (yr v0 1000000000<0) (.ck b<|.ck true<|L2 b' (Nat.add a 1) v4<|o1++[zc .i64<|0-yr v0 1000000000])<|.ck b<|.ck true<|L2 b' (Nat.add a 1) v4<|o1++[yr v0 1000000000]) (.ck (decide (0+a<=length o1)&&true&&decide (length (take a o1)<=20000))<|.leaf (zy [.dat zl<|Sp.CQ v4<|take a o1,.dat (yg i64)<|Sp.AD<|take a o1]) []):=by kernel_rfl
end T143
namespace T82
def T[Srt](a:Rd):Tr:=tree XK3 false 9 82<|Ag ([zi]) a
theorem Aj[Srt](a:Rd):T a=let b':=zc .i64<|A3 a+1;let b:=take (toNat<|A3 a) a;let c:=take (yd (length a)<|toNat b')<|drop (toNat b') a;.cd (length a<=1000000) (.ite (A3 a==(length a:Int)) (.ck (D1 a)<|.ck true<|.leaf (.tup [zy [.dat zl<|Gy a,.dat (yg i64)<|Ek a],zy [.dat zl false,.dat (yg i64)<|Sp.rW 1]]) [])<|.ck (decide (0<=A3 a)&&decide (0<=toNat (A3 a))&&decide (toNat (A3 a)<=length a))<|.ck (decide (0<=zc .i64 (A3 a+1))&&true&&decide (toNat b'<=length a)&&decide (length a<=length a))<|.ck (D1 b)<|.ck (D1 c)<|.leaf (.tup [zy [.dat zl<|Gy b,.dat (yg i64)<|Ek b],zy [.dat zl<|Gy c,.dat (yg i64)<|Ek c]]) []):=by kernel_rfl
end T82
namespace T78
def T[Srt](a:Rd):Tr:=tree Xc false 9 78<|Ag ([zi]) a
def L1[Srt](v0 v3:Rd):Tr:=re ((T []).L.L.L.L)<|Ax 96 [(0,.dat zi v0),(3,.dat zi v3)] [] 0
theorem Aj[Srt](a:Rd):T a=.di ((length a:Int)>0) (.cd (0<(length a:Int))<|.ite ((↑(zf<|getD a 0 (0:UInt8)):Int)==45) (.ck (decide (1<=length a)&&decide (length a<=length a))<|L1 a<|take (yd (length a) 1)<|drop 1 a)<|L1 a a) (L1 a a):=by kernel_rfl
def L2[Srt](v3:Rd)(v4:Int):Tr:=re ((stepT Xc<|L1 [] []).L.L.L.R.L.L.L.R)<|Ax 96 [(3,.dat zi v3),(4,.dat i64 v4)] [] 0
theorem Ak[Srt](v0 v3:Rd):stepT Xc (L1 v0 v3)=let b':=A3 v3;let a:Tr:=.leaf (.dat i64 (1:Int)) [];let b:=decide (0<=A3 v3)&&decide (0<=toNat b')&&decide (toNat b'<=length v3);.cd (length v3<=9223372036854775807) (.ck b<|.cd (length (take (toNat b') v3)<=9223372036854775807)<|.ite (!A2 (take (toNat b') v3)) a<|.cd (0<(length v0:Int))<|.ite ((↑(zf<|getD v0 0 (0:UInt8)):Int)==45) (.ck b<|.ite (take (toNat b') v3==[(48:UInt8)]) a<|L2 v3 b')<|L2 v3 b'):=by kernel_rfl
def L3[Srt](v3:Rd)(v4:Int):Tr:=re ((stepT Xc<|L2 [] 0).L.L.L.R.L.R.L.R)<|Ax 96 [(3,.dat zi v3),(4,.dat i64 v4)] [] 0
theorem Az[Srt](v3:Rd)(v4:Int):stepT Xc (L2 v3 v4)=let c:Tr:=.leaf (.dat i64 (1:Int)) [];let d:=zc .i64<|v4+1;let b:=decide (0<=zc .i64 (v4+1))&&true&&decide (toNat d<=length v3)&&decide (length v3<=length v3);let b':=toNat d;let a:=yd (length v3) b';.di (v4<(length v3:Int)) (.ck b<|.cd (length (take a<|drop b' v3)<=9223372036854775807)<|.ite (!A2 (take a<|drop b' v3)) c<|.ck b<|.ite (take a (drop b' v3)==[(48:UInt8)]) c<|.ck b<|.ite (take a (drop b' v3)==[(49:UInt8)]) c<|L3 v3 v4) (L3 v3 v4):=by kernel_rfl
def L4[Srt](v3:Rd)(v4:Int):Tr:=re ((stepT Xc<|L3 [] 0).R.R)<|Ax 96 [(3,.dat zi v3),(4,.dat i64 v4)] [] 0
theorem Be[Srt](v3:Rd)(v4:Int):stepT Xc (L3 v3 v4)=let a:Tr:=.leaf (.dat i64 (4:Int)) [];.di (v4>600) a (.di (zc .i64 (zc .i64 ((length v3:Int)-v4)-1)>600) a<|L4 v3 v4):=by kernel_rfl
def L5[Srt](o1:Bool)(a:List Int)(c:Bool)(b:List Int):Tr:=re ((stepT Xc<|L4 [] 0).L.L)<|Ax 96 [(5,.ptr 0 0),(6,.ptr 1 0)] [(1,.box [.dat zl o1,.dat (yg i64) a]),(0,.box [.dat zl c,.dat (yg i64) b])] 2
theorem B1[Srt](v3:Rd)(v4:Int):stepT Xc (L4 v3 v4)=.di (v4<(length v3:Int)) (.ck (DS v3)<|L5 (Bv v3) (Bp v3) (BZ v3)<|BQ v3) (.leaf (.dat i64 (0:Int)) []):=by kernel_rfl
def L6[Srt](a:List Int):Tr:=re ((stepT Xc<|L5 false [] false []).L)<|Ax 96 [(7,.dat (yg i64) a)] [] 0
theorem D0[Srt](o1:Bool)(a:List Int)(c:Bool)(b:List Int):stepT Xc (L5 o1 a c b)=.ck (Bb b&&Bb a&&decide (length b<=9000)&&decide (length a<=9000)) (L6<|CI b a):=by kernel_rfl
theorem EW[Srt](a:List Int):stepT Xc (L6 a)=let b:Tr:=.leaf (.dat i64 (1:Int)) [];.ite ((length a:Int) !=1) b (.cd (0<(length a:Int))<|.ite (getD a 0 0 !=1) b<|.leaf (.dat i64 (0:Int)) []):=by kernel_rfl
end T78
namespace T202
def T[Srt](l:List Int):Tr:=tree Pr false 9 202<|Ag ([yg i64]) l
def L1[Srt](v5:List Int)(a b:Int):Tr:=re ((T []))<|Ax 15 [(5,.dat (yg i64) v5),(6,.dat i64 a),(7,.dat i64 b)] [] 0
theorem Aj[Srt](l:List Int):T l=L1 l ((length l:Int)) 0:=by kernel_rfl
theorem Ak[Srt](v5:List Int)(b a:Int):stepT Pr (L1 v5 b a)=.di (a<b) (.ck (decide (0<=a)&&decide (a<(length v5:Int)))<|.ite (getD v5 (toNat a) 0 !=0) (.leaf (.dat i64<|getD v5 (toNat a) 0) [])<|L1 v5 b<|zc .i64<|a+1) (.leaf (.dat i64 (0:Int)) []):=by kernel_rfl
end T202
namespace T203
def T[Srt](b:Bool)(e:Int):Tr:=tree Pr false 9 203<|Ag ([zl,zn IntKind.i64]) (b,e)
theorem Aj[Srt](b:Bool)(e:Int):T b e=.ite b (.leaf (.dat i64 e) []) (.leaf (.dat i64 (0:Int)) []):=by kernel_rfl
end T203
namespace T163
def T[Srt](a:Rd):Tr:=tree N1 false 9 163<|Ag ([zi]) a
def L1[Srt](v5 a:Rd)(b:Bool):Tr:=re ((T []).L.L.L.L.L)<|Ax 76 [(5,.dat zi v5),(6,.dat zi a),(7,.dat zl b),(8,.bl true)] [] 0
def L2[Srt](v5 a:Rd)(b c:Bool):Tr:=re ((T []).L.L.L.L.R)<|Ax 76 [(5,.dat zi v5),(6,.dat zi a),(7,.dat zl b),(8,.dat zl c)] [] 0
def L3[Srt](v5 a:Rd)(b:Bool):Tr:=re ((T []).L.L.L.R)<|Ax 76 [(5,.dat zi v5),(6,.dat zi a),(7,.dat zl b),(8,.bl false)] [] 0
theorem Aj[Srt](a:Rd):T a=let b:=AJ<|A9 a;let b':=Sp.A1<|A9 a;let c:=BR<|A9 a;.ck (TV a [(45:UInt8)]) (.ck (Aei (A9 a) [(47:UInt8)])<|.cd (length b<=1000000)<|.ite (A2 b) (.ite (!Sp.preB a) (L1 b b' c)<|L2 b b' c<|!AJ (A9 a)==[(48:UInt8)])<|L3 b b' c):=by kernel_rfl
def L4[Srt](v5 a:Rd)(b c:Bool):Tr:=re ((stepT N1<|L1 [] [] false).L.L.L.L)<|Ax 76 [(5,.dat zi v5),(6,.dat zi a),(7,.dat zl b),(8,.dat zl c)] [] 0
def L5[Srt](v5 a:Rd)(b:Bool):Tr:=re ((stepT N1<|L1 [] [] false).L.L.L.R)<|Ax 76 [(5,.dat zi v5),(6,.dat zi a),(7,.dat zl b),(8,.bl false)] [] 0
def L6[Srt](v5 a:Rd)(b:Bool):Tr:=re ((stepT N1<|L1 [] [] false).R)<|Ax 76 [(5,.dat zi v5),(6,.dat zi a),(7,.dat zl b),(8,.bl true)] [] 0
theorem Ak[Srt](v5 a:Rd)(b:Bool):stepT N1 (L1 v5 a b)=.ite b (.cd (length a<=1000000)<|.ite (A2 a) (.ite (!a==[(48:UInt8)]) (L4 v5 a b<|!a==[(49:UInt8)])<|L5 v5 a b)<|L5 v5 a b) (L6 v5 a b):=by kernel_rfl
theorem Az[Srt](v5 a:Rd)(b c:Bool):stepT N1 (L2 v5 a b c)=.ite b (.ite c (.cd (length a<=1000000)<|.ite (A2 a) (.ite (!a==[(48:UInt8)]) (L4 v5 a b<|!a==[(49:UInt8)])<|L5 v5 a b)<|L5 v5 a b)<|L5 v5 a b) (L4 v5 a b c):=by kernel_rfl
theorem Be[Srt](v5 b:Rd)(a:Bool):stepT N1 (L3 v5 b a)=.ite a (L5 v5 b a) (L5 v5 b a):=by kernel_rfl
def L7[Srt](v5 a:Rd)(b:Bool)(v9:Int):Tr:=re ((stepT N1<|L4 [] [] false false).L.L.L.L)<|Ax 76 [(5,.dat zi v5),(6,.dat zi a),(7,.dat zl b),(9,.dat i64 v9)] [] 0
theorem B1[Srt](v5 a:Rd)(b c:Bool):stepT N1 (L4 v5 a b c)=let d:=decide (2<=2)&&true&&decide (2<=1000000);.ck true (.di ((length v5:Int)>600) (.ck true<|.ck d<|L7 v5 a b<|yz [Cb (!c) 1,Cb true 4])<|.ck true<|.ck d<|L7 v5 a b<|yz [Cb (!c) 1,Cb (decide ((length a:Int)>600)) 4]):=by kernel_rfl
theorem D0[Srt](v5 a:Rd)(b:Bool):stepT N1 (L5 v5 a b)=.ck true (.di ((length v5:Int)>600) (.ck true<|.ck true<|L7 v5 a b<|yz [Cb true 1,Cb true 4])<|.ck true<|.ck (decide (2<=2)&&true&&decide (2<=1000000))<|L7 v5 a b<|yz [Cb true 1,Cb (decide ((length a:Int)>600)) 4]):=by kernel_rfl
theorem EW[Srt](v5 a:Rd)(b:Bool):stepT N1 (L6 v5 a b)=.ck true (.di ((length v5:Int)>600) (.ck true<|.ck true<|L7 v5 a b<|yz [Cb false 1,Cb true 4])<|.ck true<|.ck (decide (2<=2)&&true&&decide (2<=1000000))<|L7 v5 a b<|yz [Cb false 1,Cb (decide ((length a:Int)>600)) 4]):=by kernel_rfl
def L8[Srt](v5 a:Rd)(b:Bool):Tr:=re ((stepT N1<|L7 [] [] false 0).R)<|Ax 76 [(5,.dat zi v5),(6,.dat zi a),(7,.dat zl b)] [] 0
theorem DY[Srt](v5 a:Rd)(b:Bool)(v9:Int):stepT N1 (L7 v5 a b v9)=.ite (v9 !=0) (.leaf (.dat i64 v9) []) (L8 v5 a b):=by kernel_rfl
def L9[Srt](a:Bool):Tr:=re ((stepT N1<|L8 [] [] false).L.L.L.L.L.L)<|Ax 76 [(10,.dat zl a)] [] 0
def L10[Srt]:Tr:=re ((stepT N1<|L8 [] [] false).R)<|Ax 76 [(10,.bl false)] [] 0
theorem HG[Srt](v5 a:Rd)(b:Bool):stepT N1 (L8 v5 a b)=let c:=(OD (DA v5,DD v5) (DA a,DD a),Oe (DA v5,DD v5) (DA a,DD a));.ite b (.ck (D1 v5)<|.ck (D1 a)<|.ck (Bg (DA v5,DD v5)&&Bg (DA a,DD a))<|.ck true<|.ck (Bg c&&Bg (1,BI 1))<|L9<|fX c (1,BI 1) !=0) L10:=by kernel_rfl
theorem vE[Srt](a:Bool):stepT N1 (L9 a)=.ck true (.leaf (.dat i64<|Cb a 1) []):=by kernel_rfl
theorem TU[Srt]:stepT N1 L10=.ck true (.leaf (.dat i64<|Cb false 1) []):=by kernel_rfl
end T163
namespace T160
def T[Srt](s:Rd):Tr:=tree Sd false 9 160<|Ag ([zi]) s
def L1[Srt](v0:Rd)(v3:Bool)(o1 a:Int):Tr:=re ((T []).L.L.L.L.L.L)<|Ax 41 [(0,.dat zi v0),(2,.ptr 0 0),(3,.dat zl v3),(4,.ptr 1 0)] [(1,.box [.dat i64 o1,.nil]),(0,.box [.dat i64 a,.nil])] 2
def L2[Srt](v0:Rd)(o1 a:Int):Tr:=re ((T []).R.L.L.L.L)<|Ax 41 [(0,.dat zi v0),(2,.ptr 0 0),(3,.bl false),(4,.ptr 1 0)] [(1,.box [.dat i64 o1,.nil]),(0,.box [.dat i64 a,.nil])] 2
theorem Aj[Srt](s:Rd):T s=let a:=take 1 s==[(45:UInt8)];let b':=decide ((length s:Int)>=1);let c:=decide (1<=length s)&&decide (length s<=length s);let b:=decide (1<=length s);let d:=take (yd (length s) 1)<|drop 1 s;.ite b' (.ck b<|.ite b' (.ck b<|.ite a (.ck c<|L1 d a 0 0)<|L1 s a 0 0)<|L1 s a 0 0) (.ite b' (.ck b<|.ite a (.ck c<|L2 d 0 0)<|L2 s 0 0)<|L2 s 0 0):=by kernel_rfl
def L3[Srt](v0:Rd)(v3:Bool)(o1 g:Int)(v5:Rd)(h:Int)(a:Nat)(e c:Int)(f:List Int)(d:Int)(b:Int):Tr:=re ((stepT Sd<|L1 v0 v3 o1 g).L.L.L.L.L.L.L.R)<|Ax 77 [(5,.dat zi v5),(6,.dat i64 h),(47,.sl 2 1 0 a none),(48,.dat i64 e),(49,.dat i64 c)] [(2,.arr false 5 (zn zz) f),(1,.box [.dat i64 d,.nil]),(0,.box [.dat i64 b,.nil])] 3
theorem Ak[Srt](v0:Rd)(v3:Bool)(o1 c:Int):stepT Sd (L1 v0 v3 o1 c)=let d:=(length v0:Int);let a:=take (toNat<|FJ 18 d) v0;let b':=take (yd (length a) 1)<|drop 1 a;let e:=(↑(length a):Int);let g:=decide (1<=length a)&&decide (length a<=length a);let h:=(↑(zf<|getD a 0 (0:UInt8)):Int);let f:=decide (0<e);.di (d>0) (.ck (decide (0<=FJ 18 d)&&decide (0<=toNat (FJ 18 d))&&decide (toNat (FJ 18 d)<=length v0))<|.ite f (.di (e<19) (.ck f<|.ite (h==45) (.ck g<|.di ((↑(length b'):Int)<1) .fail<|L3 v0 v3 o1 c a 0 (length b') ((↑(length b'):Int)) 0 (yj (fun b=>(↑(zf b):Int)) b') o1 c)<|.ck f<|.ite (h==43) (.ck g<|.di ((↑(length b'):Int)<1) .fail<|L3 v0 v3 o1 c a 0 (length b') ((↑(length b'):Int)) 0 (yj (fun b=>(↑(zf b):Int)) b') o1 c)<|L3 v0 v3 o1 c a 0 (length a) e 0 (yj (fun b=>(↑(zf b):Int)) a) o1 c)<|.ck false .fail)<|.ck false .fail) (.ite v3 (.ck (z6 (o1,[]))<|.leaf (zy [.dat i64<|EX (o1,[]),.dat wU<|EV (o1,[])]) [])<|.leaf (zy [.dat i64 o1,.nil]) []):=by kernel_rfl
def L4[Srt](v0:Rd)(o1 g:Int)(v5:Rd)(h:Int)(a:Nat)(e c:Int)(f:List Int)(d:Int)(b:Int):Tr:=re ((stepT Sd<|L2 v0 o1 g).L.L.L.L.L.L.L.R)<|Ax 77 [(5,.dat zi v5),(6,.dat i64 h),(47,.sl 2 1 0 a none),(48,.dat i64 e),(49,.dat i64 c)] [(2,.arr false 5 (zn zz) f),(1,.box [.dat i64 d,.nil]),(0,.box [.dat i64 b,.nil])] 3
theorem Az[Srt](v0:Rd)(o1 c:Int):stepT Sd (L2 v0 o1 c)=let d:=(length v0:Int);let a:=take (toNat<|FJ 18 d) v0;let b':=take (yd (length a) 1)<|drop 1 a;let e:=(↑(length a):Int);let g:=decide (1<=length a)&&decide (length a<=length a);let h:=(↑(zf<|getD a 0 (0:UInt8)):Int);let f:=decide (0<e);.di (d>0) (.ck (decide (0<=FJ 18 d)&&decide (0<=toNat (FJ 18 d))&&decide (toNat (FJ 18 d)<=length v0))<|.ite f (.di (e<19) (.ck f<|.ite (h==45) (.ck g<|.di ((↑(length b'):Int)<1) .fail<|L4 v0 o1 c a 0 (length b') ((↑(length b'):Int)) 0 (yj (fun b=>(↑(zf b):Int)) b') o1 c)<|.ck f<|.ite (h==43) (.ck g<|.di ((↑(length b'):Int)<1) .fail<|L4 v0 o1 c a 0 (length b') ((↑(length b'):Int)) 0 (yj (fun b=>(↑(zf b):Int)) b') o1 c)<|L4 v0 o1 c a 0 (length a) e 0 (yj (fun b=>(↑(zf b):Int)) a) o1 c)<|.ck false .fail)<|.ck false .fail) (.leaf (zy [.dat i64 o1,.nil]) []):=by kernel_rfl
def L5[Srt](v0:Rd)(v3:Bool)(o1:Int)(a:List Int)(b:Int):Tr:=re ((stepT Sd<|L3 [] false 0 0 [] 0 0 0 0 [] 0 0).R.L.L.L.L.L.L.L.L)<|Ax 41 [(0,.dat zi v0),(2,.ptr 0 0),(3,.dat zl v3),(4,.ptr 1 0)] [(1,.box [.dat i64 o1,.dat wU a]),(0,.box [.dat i64 b,.nil])] 2
theorem Be[Srt](v0:Rd)(v3:Bool)(o1 l:Int)(v5:Rd)(d:Int)(c:Nat)(f a:Int)(h:List Int)(b:Int)(e:Int):stepT Sd (L3 v0 v3 o1 l v5 d c f a h b e)=let b':=FJ 18 (length v0:Int);let i:=(zc .i64<|0-d,BI<|zc .i64<|0-d);let k:=getD h (toNat a) 0-48;let j:=(Wk (10,BI 10) b',Xt (10,BI 10) b');let m:=decide (0<=FJ 18 (length v0:Int))&&true&&decide (toNat b'<=length v0)&&decide (length v0<=length v0);let o:=take (yd (length v0)<|toNat b')<|drop (toNat b') v0;let n:=Bg (10,BI 10)&&yT (ze (10,BI 10)) b';let g:=(Fq (b,[]) j,FC (b,[]) j);let h':=Bg (b,[])&&Bg j;.di (a<f) (.ck (decide (0<=a)&&decide (a<(↑c:Int)))<|.cd (toNat a<length h)<|.di (zc .u8 k>9) .fail<|L3 v0 v3 o1 l v5 (zc .i64<|zc .i64 (d*10)+zc .i64 (zc .u8 k)) c f (zc .i64<|a+1) h b e) (.cd (0<(length v5:Int))<|.ite ((↑(zf<|getD v5 0 (0:UInt8)):Int)==45) (.ck true<|.ck n<|.ck h'<|.ck true<|.ck (Bg g&&Bg i)<|.ck m<|L5 o v3 (KU g i) (K3 g i) e)<|.ck true<|.ck n<|.ck h'<|.ck true<|.ck (Bg g&&Bg (d,BI d))<|.ck m<|L5 o v3 (KU g (d,BI d)) (K3 g (d,BI d)) e):=by kernel_rfl
def L7[Srt](v0:Rd)(v3:Bool)(o1:Int)(b:List Int)(i:Int)(v5:Rd)(j:Int)(c:Nat)(e f:Int)(h:List Int)(g:Int)(a:List Int)(d:Int):Tr:=re ((stepT Sd<|L5 v0 v3 o1 b i).L.L.L.L.L.L.L.R)<|Ax 77 [(5,.dat zi v5),(6,.dat i64 j),(47,.sl 2 1 0 c none),(48,.dat i64 e),(49,.dat i64 f)] [(2,.arr false 5 (zn zz) h),(1,.box [.dat i64 g,.dat wU a]),(0,.box [.dat i64 d,.nil])] 3
theorem D0[Srt](v0:Rd)(v3:Bool)(o1:Int)(a:List Int)(d:Int):stepT Sd (L5 v0 v3 o1 a d)=let e:=(length v0:Int);let c:=take (toNat<|FJ 18 e) v0;let b':=take (yd (length c) 1)<|drop 1 c;let f:=(↑(length c):Int);let h:=decide (1<=length c)&&decide (length c<=length c);let i:=(↑(zf<|getD c 0 (0:UInt8)):Int);let g:=decide (0<f);.di (e>0) (.ck (decide (0<=FJ 18 e)&&decide (0<=toNat (FJ 18 e))&&decide (toNat (FJ 18 e)<=length v0))<|.ite g (.di (f<19) (.ck g<|.ite (i==45) (.ck h<|.di ((↑(length b'):Int)<1) .fail<|L7 v0 v3 o1 a d c 0 (length b') ((↑(length b'):Int)) 0 (yj (fun b=>(↑(zf b):Int)) b') o1 a d)<|.ck g<|.ite (i==43) (.ck h<|.di ((↑(length b'):Int)<1) .fail<|L7 v0 v3 o1 a d c 0 (length b') ((↑(length b'):Int)) 0 (yj (fun b=>(↑(zf b):Int)) b') o1 a d)<|L7 v0 v3 o1 a d c 0 (length c) f 0 (yj (fun b=>(↑(zf b):Int)) c) o1 a d)<|.ck false .fail)<|.ck false .fail) (.ite v3 (.ck (z6 (o1,a))<|.leaf (zy [.dat i64<|EX (o1,a),.dat wU<|EV (o1,a)]) [])<|.leaf (zy [.dat i64 o1,.dat wU a]) []):=by kernel_rfl
theorem DY[Srt](v0:Rd)(v3:Bool)(o1:Int)(g:List Int)(n:Int)(v5:Rd)(e:Int)(d:Nat)(h b:Int)(j:List Int)(c:Int)(a:List Int)(f:Int):stepT Sd (L7 v0 v3 o1 g n v5 e d h b j c a f)=let i:=FJ 18 (length v0:Int);let k:=(zc .i64<|0-e,BI<|zc .i64<|0-e);let m:=getD j (toNat b) 0-48;let l:=(Wk (10,BI 10) i,Xt (10,BI 10) i);let o:=decide (0<=FJ 18 (length v0:Int))&&true&&decide (toNat i<=length v0)&&decide (length v0<=length v0);let q:=take (yd (length v0)<|toNat i)<|drop (toNat i) v0;let p:=Bg (10,BI 10)&&yT (ze (10,BI 10)) i;let b':=(Fq (c,a) l,FC (c,a) l);let h':=Bg (c,a)&&Bg l;.di (b<h) (.ck (decide (0<=b)&&decide (b<(↑d:Int)))<|.cd (toNat b<length j)<|.di (zc .u8 m>9) .fail<|L7 v0 v3 o1 g n v5 (zc .i64<|zc .i64 (e*10)+zc .i64 (zc .u8 m)) d h (zc .i64<|b+1) j c a f) (.cd (0<(length v5:Int))<|.ite ((↑(zf<|getD v5 0 (0:UInt8)):Int)==45) (.ck true<|.ck p<|.ck h'<|.ck true<|.ck (Bg b'&&Bg k)<|.ck o<|L5 q v3 (KU b' k) (K3 b' k) f)<|.ck true<|.ck p<|.ck h'<|.ck true<|.ck (Bg b'&&Bg (e,BI e))<|.ck o<|L5 q v3 (KU b' (e,BI e)) (K3 b' (e,BI e)) f):=by kernel_rfl
end T160
namespace T236
def T[Srt](s t:Rd):Tr:=tree iM false 9 236<|Ag ([zi,zi]) (s,t)
def L1[Srt](s t v0:Rd)(v4:Int)(a:List Bool):Tr:=re ((T s t).R.R.L.L.R)<|Ax 21 [(0,.dat zi v0),(2,.ptr 0 0),(4,.dat i64 v4)] [(0,.arr false 293 zl a)] 1
def L2[Srt](s t v0:Rd)(v4:Int)(a:List Bool):Tr:=re ((T s t).R.R.R)<|Ax 21 [(0,.dat zi v0),(2,.ptr 0 0),(4,.dat i64 v4)] [(0,.arr false 293 zl a)] 1
theorem Aj[Srt](s t:Rd):T s t=let a:=decide (0<(length t:Int));let b':Tr:=.leaf (.dat zi s) [];.ite (s==[]) b' (.ite (t==[]) b'<|.ite ((length t:Int)==1) (.ck a<|.di ((↑(zf<|getD t 0 (0:UInt8)):Int)<128) (.ck a<|.ck a<|.ck false<|.ck false b')<|L1 s t t 0 Sp.AcY)<|L2 s t t 0 Sp.AcY):=by kernel_rfl
def L4[Srt](s t v0:Rd)(v4:Int)(c:List Bool)(b:Rd)(o1:List Bool)(a:List Bool):Tr:=re ((stepT iM<|L2 s t v0 v4 c).R.L.L.L.L)<|Ax 22 [(0,.dat zi b),(1,.ptr 1 0)] [(1,.arr false 293 zl o1),(0,.arr false 293 zl a)] 2
theorem Az[Srt](s t v0:Rd)(v4:Int)(a:List Bool):stepT iM (L2 s t v0 v4 a)=let b:=(↑(zf<|getD v0 (toNat v4) (0:UInt8)):Int);let b':=decide (length a=256);let c:=decide (v4<(length v0:Int));.ite c (.ck (decide (0<=v4)&&c)<|.di (b>=128) (.ck b'<|.ck b'<|.cd (256=256)<|.ck true<|.ck false<|.ck false<|.leaf (.dat zi s) [])<|.ck (decide ((0:Sh.T (zn zz))<=b)&&decide (b<(↑256:Int)))<|.cd (toNat b<length a)<|L2 s t v0 (zc .i64<|v4+1)<|set a (toNat b) true) (.ck b'<|.ck b'<|.cd (256=256)<|.ck true<|L4 s t v0 v4 a s ((Sp.Ac1 a))<|(Sp.Ac1 a)):=by kernel_rfl
def L7[Srt](s t v0:Rd)(v4:Int)(f:List Bool)(d:Rd)(o1:List Bool)(c:List Bool)(a:Rd)(e:List Bool)(b:List Bool):Tr:=re ((stepT iM<|L4 s t v0 v4 f d o1 c).L.L.L.L.L)<|Ax 16 [(0,.dat zi a),(1,.ptr 1 0)] [(1,.arr false 293 zl e),(0,.arr false 293 zl b)] 2
def L8[Srt](s t v0:Rd)(v4:Int)(f:List Bool)(d:Rd)(o1:List Bool)(c:List Bool)(a:Rd)(e:List Bool)(b:List Bool):Tr:=re ((stepT iM<|L4 s t v0 v4 f d o1 c).R)<|Ax 16 [(0,.dat zi a),(1,.ptr 1 0)] [(1,.arr false 293 zl e),(0,.arr false 293 zl b)] 2
theorem B1[Srt](s t v0:Rd)(v4:Int)(e:List Bool)(a:Rd)(o1:List Bool)(b:List Bool):stepT iM (L4 s t v0 v4 e a o1 b)=let b':=(↑(length a):Int);let c:=zc .i64<|b'-1;let f:=decide (0<=zc .i64 (b'-1));let d:=(↑(zf<|getD a (toNat c) (0:UInt8)):Int);.di (b'>0) (.ck (f&&decide (zc .i64 (b'-1)<b'))<|.ck (decide ((0:Sh.T (zn zz))<=d)&&decide (d<(↑256:Int)))<|.cd (toNat d<length o1)<|.ite (!getD o1 (toNat d) false) (L7 s t v0 v4 e a o1 b a o1 b)<|.ck (f&&decide (0<=toNat c)&&decide (toNat c<=length a))<|L4 s t v0 v4 e (take (toNat c) a) o1 b) (L8 s t v0 v4 e a o1 b a o1 b):=by kernel_rfl
theorem DY[Srt](s t v0:Rd)(v4:Int)(g:List Bool)(e:Rd)(o1:List Bool)(d:List Bool)(a:Rd)(b:List Bool)(c:List Bool):stepT iM (L7 s t v0 v4 g e o1 d a b c)=let f:=(↑(zf<|getD a 0 (0:UInt8)):Int);let b':Tr:=.leaf (.dat zi a) [];.di ((↑(length a):Int)>0) (.cd (0<(↑(length a):Int))<|.ck (decide ((0:Sh.T (zn zz))<=f)&&decide (f<(↑256:Int)))<|.cd (toNat f<length b)<|.ite (!getD b (toNat f) false) b'<|.ck (decide (1<=length a)&&decide (length a<=length a))<|L7 s t v0 v4 g e o1 d (take (yd (length a) 1)<|drop 1 a) b c) b':=by kernel_rfl
theorem HG[Srt](s t v0:Rd)(v4:Int)(g:List Bool)(e:Rd)(o1:List Bool)(d:List Bool)(a:Rd)(b:List Bool)(c:List Bool):stepT iM (L8 s t v0 v4 g e o1 d a b c)=let f:=(↑(zf<|getD a 0 (0:UInt8)):Int);let b':Tr:=.leaf (.dat zi a) [];.di ((↑(length a):Int)>0) (.cd (0<(↑(length a):Int))<|.ck (decide ((0:Sh.T (zn zz))<=f)&&decide (f<(↑256:Int)))<|.cd (toNat f<length b)<|.ite (!getD b (toNat f) false) b'<|.ck (decide (1<=length a)&&decide (length a<=length a))<|L8 s t v0 v4 g e o1 d (take (yd (length a) 1)<|drop 1 a) b c) b':=by kernel_rfl
end T236
namespace T201
def T[Srt](s:Rd):Tr:=tree XH1 false 9 201<|Ag ([zi]) s
theorem Aj[Srt](s:Rd):T s=.ite (!s==[]) (.ck (Sp.AcZ s [(48:UInt8),49,50,51,52,53,54,55,56,57])<|.ite (Sp.PH s==[]) (.cd (0<(length s:Int))<|.ite ((↑(zf<|getD s 0 (0:UInt8)):Int) !=48) (.leaf (.bl true) [])<|.leaf (.dat zl<|s==[(48:UInt8)]) [])<|.leaf (.bl false) []) (.leaf (.bl false) []):=by kernel_rfl
end T201
namespace T200
def T[Srt](s t:Rd):Tr:=tree Pr false 9 200<|Ag ([zi,zi]) (s,t)
theorem Aj[Srt](s t:Rd):T s t=let a:=(length t:Int);let b':Tr:=.leaf (.tup [.dat zi s,.bl false]) [];let b:=decide (toNat a<=length s);.di ((length s:Int)>=a) (.ck (decide (0<=a)&&decide (0<=toNat a)&&b)<|.ite (!take (toNat a) s==t) b'<|.ck (decide (0<=a)&&true&&b&&decide (length s<=length s))<|.leaf (.tup [.dat zi<|take (yd (length s)<|toNat a)<|drop (toNat a) s,.bl true]) []) b':=by kernel_rfl
end T200
namespace T159
def T[Srt](s t:Rd):Tr:=tree XH2 false 9 159<|Ag ([zi,zi]) (s,t)
theorem Aj[Srt](s t:Rd):T s t=let b':=(↑(zf<|getD t 0 (0:UInt8)):Int);let a:=(length t:Int);let b:Tr:=.leaf (.tup [.dat zi s,.dat zi [],.bl false]) [];let d:=decide (length s<=length s);let g:=By [zn zz];let f:=zc .i64<|Sp.QT s b'+a;let e:=zc .i64<|(-1)+a;let h':=zc .i64<|0+a;let c:=Sp.QT s b';let h:Tr:=.ite true (.cd (0<=length s)<|.ck (decide (0<=zc .i64 (0+a))&&true&&decide (toNat h'<=length s)&&d)<|.leaf (.tup [.dat zi<|take 0 s,.dat zi<|take (yd (length s)<|toNat h')<|drop (toNat h') s,.bl true]) []) b;.ite (a==0) h (.ite (t==s) h<|.ite (a==1) (.cd (0<a)<|.ck (decide ((0:Sh.T g)<=b')&&decide (b'<(256:Sh.T g)))<|.di (Sp.QT s b'>=0) (.ck (decide (0<=Sp.QT s b')&&decide (0<=toNat c)&&decide (toNat c<=length s))<|.ck (decide (0<=zc .i64 (Sp.QT s b'+a))&&true&&decide (toNat f<=length s)&&d)<|.leaf (.tup [.dat zi<|take (toNat c) s,.dat zi<|take (yd (length s)<|toNat f)<|drop (toNat f) s,.bl true]) []) b)<|.cd (a>=(length s:Int))<|.ite false (.ck (false&&decide (0<=length s))<|.ck (decide (0<=zc .i64 ((-1)+a))&&true&&decide (toNat e<=length s)&&d)<|.leaf (.tup [.dat zi<|take 0 s,.dat zi<|take (yd (length s)<|toNat e)<|drop (toNat e) s,.bl true]) []) b):=by kernel_rfl
end T159
end
end Go.Pe
