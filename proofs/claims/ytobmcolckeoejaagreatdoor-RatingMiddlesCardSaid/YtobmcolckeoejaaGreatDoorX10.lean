import Derived.Test.YtobmcolckeoejaaGreatDoorX09
import Derived.Lib.ItoaMem
/- A part of a proof; no law is stated here. -/
noncomputable section
open Go.IntKind renaming wrap -> zc, u64 -> zd, u8 -> zz, wrap_i64 -> yq
open Go.Sp renaming vI -> ze, Da -> z6, u64 -> yo, first -> yz, sg -> y7
open UInt8 renaming toNat -> zf
open Go.Pe.Ends renaming tt -> zg, leaf -> zj, ite -> zk, eq -> ym
open Int renaming mul_le_mul_of_nonneg_right -> zh, eq_ofNat_of_zero_le -> zo, mul_nonneg -> zp, fdiv -> zq, mul_assoc -> zr, add_mul -> zt, toNat_natCast -> zu, lt_or_le -> zw, mul_comm -> zx, one_mul -> z8, lt_of_le_of_lt -> ya, le_of_lt -> yb, natCast_pow -> yc, tdiv -> ye, fdiv_eq_ediv_of_nonneg -> yf, mul_le_mul_of_nonneg_left -> yh, natCast_mul -> yk, tdiv_eq_ediv_of_nonneg -> yp, tmod -> yr, zero_add -> yv, ediv_nonneg -> yx, pow_succ -> y8
open Go.Pe.Sh renaming str -> zi, bool -> zl, int -> zn, list -> yg
open Bool renaming and_eq_true -> zm, false_eq_true -> yn
open Go.Pe.PV renaming agg -> zy
open Go.Pe.Ad renaming of -> z7
open Nat renaming sub -> yd, two_pow_pos -> yw, pow_add -> yy
open List renaming length -> yi, map -> yj
open Min renaming min -> yt
open BitVec renaming ofInt -> yu
namespace Go.Pe
open Sp
open Go.Det
theorem Tc(k:Nat):((Ao^k:Nat):Int)=(Ao:Int)^k:=yc ..
theorem KL{n:Int}{k:Nat}(h0:0<=n)(h:n<(Ao:Int)^k):(Bs n).length<=k:=by
 refine OC Ao af k n.toNat n.toNat ?_;rw[<-Tc]at h;generalize Ao^k=P at*;omega
theorem C5{n:Int}{k:Nat}(h0:0<=n)(h:n<(Ao:Int)^k)(d:k<=20000):Cj (Bs n)=true/\CT (Bs n)=true/\As (Bs n)=n:=by
 have c:=KL h0 h;have a:CT (Bs n)=true:=Eh ae (FI af n);have b:Sp.nzW (Bs n)=true:=by
  unfold Sp.nzW;exact w4 (Z1 af n)
 exact⟨by unfold Cj;rw[a,b];rfl,a,C2 af h0⟩
theorem B5{a:AJ}(h:A9 a=true):z6 a=true/\a.2.length<=9000:=by
 unfold A9 at h;rw[zm,w5]at h;exact h
theorem Yr{s:Int}{w:List Int}(a:w≠[]):ze (s,w)=if s<0 then -As w else As w:=by unfold ze;exact wc a
theorem QX{a:AJ}(h:z6 a=true):(a.2=[]/\Ah (ze a)<=9223372036854775808)\/(Bs (Ah<|ze a)=a.2):=by
 obtain⟨hr,b⟩:=DW h;obtain⟨s,w⟩:=a;have hr: -9223372036854775808<=s/\s<9223372036854775808:=hr;rcases b with b|⟨g,e,c⟩
 ·have b:w=[]:=b;subst b;refine .inl ⟨rfl,?_⟩;rw[Fm];simp only[Aj];omega
 ·obtain⟨n1,f,i⟩:=EY (l:=w) g;have e:s=1\/s= -1:=e;have c:9223372036854775808<=As w:=c;have d:w≠[]:=by rintro rfl;exact wh c af
  refine .inr ?_;have j:Ah (ze (s,w))=As w:=by rw[Yr d];simp only[Aj];split<;>omega
  rw[j];exact(Jt af f i).symm
theorem AM(n:Int):0<=Ah n:=by simp only[Aj];omega
theorem I5{a:AJ}(h:z6 a=true){k:Nat}(f:a.2.length<=k)(d:1<=k):Ah (ze a)<(Ao:Int)^k:=by
 rcases QX h with⟨_,g⟩|he
 ·have:=AT (b:=Ao) af d;rw[Int.pow_one]at this;have c:(9223372036854775808:Int)<(Ao:Int):=af
  exact ya g<|Int.lt_of_lt_of_le c this
 ·have e:=C2 (b:=Ao) af<|AM<|ze a;have:=Bp (b:=Ao) af (FI (b:=Ao) af<|Ah<|ze a);rw[e,show Sp.dg Ao (Ah<|ze a)=a.2 from he]at this;exact Int.lt_of_lt_of_le this (AT af f)
theorem M9{x y:Int}(e:0<=x)(g:x<(Ao:Int)^9000)(h:y<(Ao:Int)^9000):x+y<(Ao:Int)^9001/\x*y<(Ao:Int)^18000:=by
 have f:(Ao:Int)^9001=(Ao:Int)^9000*Ao:=y8 ..;have d:(Ao:Int)^18000=(Ao:Int)^9000*(Ao:Int)^9000:=Int.pow_add _ 9000 9000;rw[f,d];generalize (Ao:Int)^9000=P at*;refine⟨?_,?_⟩
 ·show x+y<P*18446744073709551616;omega
 ·have a:=yh (show y<=P-1 by omega) e;have b:=zh (show x<=P-1 by omega) (show 0<=P-1 by omega);have c:(P-1)*(P-1)=P*P-P-P+1:=by
   rw[Int.sub_mul,Int.mul_sub];omega
  omega
theorem Dx(n:Bool)(v:Int):y7 n v=if n=true then -v else v:=rfl
theorem Cz(n:Int):ze (CR n)=n:=by
 unfold CR;split
 ·exact Fm
 ·have a:=C2 (b:=Ao) af<|AM n;have c:Bs (Ah n)≠[]:=by
   intro h;rw[show Sp.dg Ao (Ah n)=[]from h]at a;have:(0:Int)=Ah n:=a;simp only[Aj]at this;omega
  rw[Yr c,show As (Bs<|Ah n)=Ah n from a];simp only[Aj];split<;>split<;>omega
theorem cV{a:AJ}{c:Bool}(h:(!decide (0<a.2.length))=c):(c=true->a.2=[])/\(c=false->a.2≠[]):=by
 subst h;rcases a with⟨s,w⟩
 cases w<;>simp
theorem PG{a:AJ}(h:(!decide (0<a.2.length))=true):a.2=[]:=(cV h).1 rfl
theorem nH{a:AJ}(h:(!decide (0<a.2.length))=false):a.2≠[]:=(cV h).2 rfl
theorem Bv{a:AJ}(h:a.2=[]):ze a=a.1:=by unfold ze;exact wd h
theorem words{a:AJ}(h:A9 a=true):z6 a=true/\Sp.hW (Bs<|Ah<|ze a)=true/\Cj (Bs<|Ah<|ze a)=true/\CT (Bs<|Ah<|ze a)=true/\As (Bs<|Ah<|ze a)=Ah (ze a)/\Ah (ze a)<(Ao:Int)^9000:=by
 obtain⟨c,f⟩:=B5 h;have b:=I5 c f ae;obtain⟨n,d,v⟩:=C5 (AM _) b ae;have e:=KL (AM _) b;refine⟨c,?_,n,d,v,b⟩;unfold Sp.hW;rw[d,Bool.true_and];exact w4 e
theorem Ac{a b:Bool}(d:a=true)(c:b=true):(a&&b)=true:=by rw[d,c];rfl
theorem wn{i:Nat}(h:i<9223372036854775807):zc .i64 ((i:Int)+1)=((i+1:Nat):Int):=by rw[wr _ ae ae];omega
theorem ad{p q:Prop}[Decidable p][Decidable q](a:p)(b:q):(decide p&&decide q)=true:=Ac (w4 a)<|w4 b
theorem nb{i n:Nat}(h:i<n):(decide ((0:Int)<=(i:Int))&&decide ((i:Int)<(n:Int)))=true:=ad ae ae
theorem LA(n:Int):Sp.N1 n=if n<0 then -1 else if n>0 then 1 else 0:=rfl
theorem Aeg{a:AJ}(h:z6 a=true):imax (-1) (Fb 1 a.1)=Sp.N1 (ze a):=by
 obtain⟨hr,b⟩:=DW h;obtain⟨s,w⟩:=a;rcases b with b|⟨g,d,c⟩
 ·have b:w=[]:=b;subst b;rw[Fm,LA,lJ];show imax (-1) (if (1:Int)<=s then 1 else s)=_;unfold imax;split<;>split<;>split<;>(try split)<;>omega
 ·have d:s=1\/s= -1:=d;have c:9223372036854775808<=As w:=c;have f:w≠[]:=by rintro rfl;exact wh c af
  rw[Yr f,LA];rcases d with rfl|rfl
  ·have e:(if (1:Int)<0 then -As w else As w)=As w:=wc af;rw[e,wc (show ¬As w<0 by omega),wd<|show As w>0 by omega];show imax (-1) (Fb 1 1)=1;decide
  ·have e:(if (-1:Int)<0 then -As w else As w)= -As w:=wd af;rw[e,wd<|show -As w<0 by omega];show imax (-1) (Fb 1<| -1)= -1;decide
namespace T130
theorem ok[Srt]:Af A5 130 Wr:=by
 refine BG S5<|fun(a:Int×List Int) b=>?_;have b:z6 a=true:=b;have f:Cj (Bs<|Ah<|ze a)=true/\As (Bs<|Ah<|ze a)=Ah (ze a):=by
  refine⟨?_,C2 af<|AM _⟩;rcases QX b with⟨_,j⟩|he
  ·have:(9223372036854775808:Int)<(Ao:Int)^1:=af
   exact(C5 (AM _) (ya j this) ae).1
  ·obtain⟨_,e⟩:=DW b;rw[he];rcases e with e|⟨i,_⟩
   ·rw[e];decide+kernel
   ·exact i
 have g:y7 (!decide (ze a<0)) (As<|Bs<|Ah<|ze a)= -ze a:=by
  rw[f.2,Dx,Aj];rcases zw (ze a) 0 with h|h
  ·rw[w4 h];simp;omega
  ·rw[w8 ae];simp;omega
 have hr:=(DW b).1;refine ym (Ak a)<|zk (fun c=>zk (fun d=>zj<|z7 rfl rfl ?_)<|fun d=>zg b<|zg f.1<|zj<|z7 rfl rfl ?_)<|fun c=>zg b<|zg f.1<|zj<|z7 rfl rfl ?_
 ·have c:=PG c;have d:a.1≠ -9223372036854775808:=by simpa using d
  show(zc .i64<|0-a.1,[])=Dd a;unfold Dd;rw[wd ⟨c,d⟩,wr _ ae ae,Int.zero_sub]
 ·have d:a.1= -9223372036854775808:=by simpa using d
  show CR (y7 (!decide (ze a<0))<|As<|Bs<|Ah<|ze a)=Dd a;unfold Dd;rw[wc<|fun h=>h.2 d,g]
 ·have c:=nH c;show CR (y7 (!decide (ze a<0))<|As<|Bs<|Ah<|ze a)=Dd a;unfold Dd;rw[wc<|fun h=>c h.1,g]
end T130
namespace T126
theorem ok[Srt]:Af A5 126 Q7:=by
 refine BG S5<|fun(i:(Int×List Int)×(Int×List Int)) o=>?_;obtain⟨a,b⟩:=i;have o:(A9 a&&A9 b)=true:=o;rw[zm]at o;obtain⟨a1,a2,a3,a4,a5,a6⟩:=words o.1;obtain⟨b1,b2,b3,b4,b5,b6⟩:=words o.2;have y:=(DW a1).1;have x:=(DW b1).1;have A:=AM<|ze a;have nb:=AM<|ze b;obtain⟨t1,_⟩:=M9 A a6 b6;have t:∀v ob,Ex a b=CR v->Ad Q7 (a,b) (.agg [.dat i64<|CP v,.dat (.nlist<|.int .u64)<|CO v]) ob:=fun v ob h=>z7 rfl rfl (by
  show CR v=Ex a b;rw[h])
 have mono:(Ao:Int)^9000<=(Ao:Int)^9001:=AT af ae;have j:decide (ze a<0)=decide (ze b<0)->y7 (decide (ze a<0)) (As<|Bs<|As (Bs<|Ah<|ze a)+As (Bs<|Ah<|ze b))=ze a+ze b:=by
  intro e;rw[a5,b5,show As (Bs<|Ah (ze a)+Ah (ze b))=_ from C2 af ae,Dx,Aj,Aj];rcases zw (ze a) 0 with h|h
  ·rw[w4 h]at e ⊢;have:=w6 e.symm;simp only[wm];omega
  ·rw[w8 ae]at e ⊢;have:=w7 e.symm;simp only[yn,vf];omega
 have k:decide (ze a<0)≠decide (ze b<0)->Ah (ze b)<=Ah (ze a)->y7 (decide (ze a<0)) (As<|Bs<|As (Bs<|Ah<|ze a)-As (Bs<|Ah<|ze b))=ze a+ze b:=by
  intro e q;rw[a5,b5,show As (Bs<|Ah (ze a)-Ah (ze b))=_ from C2 af ae,Dx,Aj,Aj];rcases zw (ze a) 0 with h|h
  ·rw[w4 h]at e ⊢;have:¬ze b<0:=fun h=>e (w4 h).symm
   simp only[wm];omega
  ·rw[w8 ae]at e ⊢;have:ze b<0:=by
    rcases zw (ze b) 0 with h|h
    ·exact h
    ·exact wh (w8 ae).symm e
   simp only[yn,vf];omega
 have l:decide (ze a<0)≠decide (ze b<0)->Ah (ze a)<=Ah (ze b)->y7 (decide (ze b<0)) (As<|Bs<|As (Bs<|Ah<|ze b)-As (Bs<|Ah<|ze a))=ze a+ze b:=by
  intro e q;rw[a5,b5,show As (Bs<|Ah (ze b)-Ah (ze a))=_ from C2 af ae,Dx,Aj,Aj];rcases zw (ze b) 0 with h|h
  ·rw[w4 h]at e ⊢;have:¬ze a<0:=fun h=>e<|w4 h
   simp only[wm];omega
  ·rw[w8<|show ¬ze b<0 by omega]at e ⊢;have:ze a<0:=by
    rcases zw (ze a) 0 with h|h
    ·exact h
    ·exact wh (w8 ae) e
   simp only[yn,vf];omega
 have n1:Cj (Bs<|As (Bs<|Ah<|ze a)+As (Bs<|Ah<|ze b))=true:=by
  rw[a5,b5];exact(C5 ae t1 ae).1
 have z:Ah (ze b)<=Ah (ze a)->Cj (Bs<|As (Bs<|Ah<|ze a)-As (Bs<|Ah<|ze b))=true:=by
  intro h;rw[a5,b5];exact(C5 ae (ya ae a6) ae).1
 have B:Ah (ze a)<=Ah (ze b)->Cj (Bs<|As (Bs<|Ah<|ze b)-As (Bs<|Ah<|ze a))=true:=by
  intro h;rw[a5,b5];exact(C5 ae (ya ae b6) ae).1
 have f:∀ {c:Bool},decide (Cp (As<|Bs<|Ah<|ze a) (As<|Bs<|Ah<|ze b)>=0)=c->(c=true->Ah (ze b)<=Ah (ze a))/\(c=false->Ah (ze a)<=Ah (ze b)):=by
  intro c h;subst h;rw[a5,b5,w5,w9];unfold Cp;constructor
  ·intro h;split at h<;>omega
  ·intro h;split at h
   ·omega
   ·split at h<;>omega
 refine ym (Ak a b)<|zk (fun m=>zk (fun n=>zk (fun g=>zj<|z7 rfl rfl ?_)<|fun g=>?_)<|fun n=>?_)<|fun m=>?_
 ·have m:=PG m;have n:=PG n;have p:zc .i64 (a.1+b.1)=a.1+b.1:=by
   rw[wk]at g;rcases zw (a.1+b.1) (-9223372036854775808)with h|h
   ·exfalso;have e:zc .i64 (a.1+b.1)=a.1+b.1+18446744073709551616:=by rw[yq];omega
    rw[e,w4 ae,w8 ae]at g;cases g
   ·rcases zw (a.1+b.1) 9223372036854775808 with s|s
    ·exact wr _ ae ae
    ·exfalso;have e:zc .i64 (a.1+b.1)=a.1+b.1-18446744073709551616:=by rw[yq];omega
     rw[e,w8 ae,w4 ae]at g;cases g
  have hr:Cv (a.1+b.1)=true:=by
   have: -9223372036854775808<=zc .i64 (a.1+b.1)/\zc .i64 (a.1+b.1)<9223372036854775808:=by rw[yq];omega
   rw[p]at this;unfold Cv;rw[zm,w5,w5];exact this
  show(zc .i64<|a.1+b.1,[])=Ex a b;unfold Ex;rw[wd ⟨m,n,hr⟩,p]
 all_goals
  have r:Ex a b=CR (ze a+ze b):=by
   unfold Ex;refine wc<|fun h=>?_;obtain⟨w,s,u⟩:=h;first
    |exact nH m w
    |exact nH n s
    |(have u:=ET u
      have p:zc .i64 (a.1+b.1)=a.1+b.1:=wr _ ae ae;rw[p,beq_eq_false_iff_ne]at g;refine g ?_;rcases zw 0 b.1 with h|h
      ·rw[w4 (show a.1+b.1>a.1 by omega),w4 h]
      ·rw[w8 (show ¬a.1+b.1>a.1 by omega),w8<|show ¬b.1>0 by omega])
  refine zg a1<|zg b1<|zk (fun e=>zg (Ac a2 b2)<|zg n1<|zj<|t _ _ ?_)<|fun e=>zg (Ac a3 b3)<|zk (fun d=>zg ?_<|zg (z<|(f d).1 rfl)<|zj<|t _ _ ?_)<|fun d=>zg ?_<|zg (B<|(f d).2 rfl)<|zj<|t _ _ ?_
  ·rw[r];exact wi _ (j<|by simpa using e).symm
  ·refine Ac (Ac a4 b4)<|w4 ?_;rw[a5,b5];exact(f d).1 rfl
  ·rw[r];exact wi _ (k (by simpa using e)<|(f d).1 rfl).symm
  ·refine Ac (Ac b4 a4)<|w4 ?_;rw[a5,b5];exact(f d).2 rfl
  ·rw[r];exact wi _ (l (by simpa using e)<|(f d).2 rfl).symm
end T126
theorem EX{n:Int}(b: -9223372036854775808<=n)(a:n<9223372036854775808):Cv n=true:=by
 unfold Cv;rw[zm,w5,w5];exact⟨b,a⟩
theorem Lg{n:Int}(h:Cv n=true):z6 (n,[])=true:=by
 unfold z6;rw[h];rfl
theorem Oo{n:Int}{k:Nat}(h:Ah n<(Ao:Int)^k)(a:k<=20000):z6 (CR n)=true/\(CR n).2.length<=k:=by
 unfold CR;split
 ·next c=>exact⟨Lg (EX ae ae),Nat.zero_le _⟩
 ·next c=>
  obtain⟨n1,e,b⟩:=C5 (AM n) h a;refine⟨?_,KL (AM n) h⟩;have d:9223372036854775808<=Ah n:=by rw[Aj];omega
  unfold z6;refine Ac (EX ?_ ?_) ?_
  ·show -9223372036854775808<=(if n<0 then -1 else 1);split<;>decide
  ·show(if n<0 then -1 else 1)<9223372036854775808;split<;>decide
  ·rw[Bool.or_eq_true];refine .inr (Ac (Ac n1 ?_) (w4<|by show _<=As (Bs<|Ah n);rw[b];exact d));show(decide ((if n<0 then(-1:Int)else 1)=1)||decide ((if n<0 then(-1:Int)else 1)= -1))=true;split<;>rfl
theorem Jl(a:AJ):ze (Dd a)= -ze a:=by
 unfold Dd;split
 ·next h=>rw[Fm,Bv h.1]
 ·exact Cz _
theorem Jj(n:Int):Ah (-n)=Ah n:=by rw[Aj,Aj];omega
theorem YQ{a:AJ}(h:z6 a=true){k:Nat}(e:1<=k)(d:k<=20000)(b:a.2.length<=k):z6 (Dd a)=true/\(Dd a).2.length<=k:=by
 have hr:=(DW h).1;unfold Dd;split
 ·next c=>exact⟨Lg (EX ae ae),Nat.zero_le _⟩
 ·exact Oo (by rw[Jj];exact I5 h b e) d
theorem WK{a:AJ}(h:A9 a=true):A9 (Dd a)=true:=by
 obtain⟨c,b⟩:=B5 h;obtain⟨h3,h4⟩:=YQ c (k:=9000) ae ae b;unfold A9;exact Ac h3<|w4 h4
theorem Aac{a:AJ}(h:z6 a=true):a.1<0↔ze a<0:=by
 obtain⟨_,b⟩:=DW h;obtain⟨s,w⟩:=a;rcases b with b|⟨_,e,c⟩
 ·have b:w=[]:=b;subst b;rw[Fm]
 ·have e:s=1\/s= -1:=e;have c:9223372036854775808<=As w:=c;have d:w≠[]:=by rintro rfl;exact wh c af
  rw[Yr d];show s<0↔_;split<;>omega
theorem XC(a b:AJ):ze (Ex a b)=ze a+ze b:=by
 unfold Ex;split
 ·next h=>rw[Fm,Bv h.1,Bv h.2.1]
 ·exact Cz _
theorem Aat(x y:Int):Ah (x+y)<=Ah x+Ah y:=by
 rw[Aj,Aj,Aj];omega
theorem JH(x y:Int):Ah (x*y)=Ah x*Ah y:=by
 rw[Aj,Aj,Aj,Int.natAbs_mul,yk]
theorem bounds{a:AJ}(h:A9 a=true):Ah (ze a)<(Ao:Int)^9000:=(words h).2.2.2.2.2
theorem UK{a b:AJ}(c:A9 a=true)(d:A9 b=true):z6 (Ex a b)=true:=by
 unfold Ex;split
 ·next h=>exact Lg h.2.2
 ·exact(Oo (ya (Aat _ _) (M9 (AM _) (bounds c)<|bounds d).1) ae).1
theorem lG(a b:AJ):ze (Oe a b)=ze a-ze b:=by
 unfold Oe;rw[XC,Jl];omega
theorem DA(a b:AJ):ze (Fp a b)=ze a*ze b:=Cz _
theorem cM[Srt]:CL XJ1:=
 Aa T130.ok (Aa T126.ok AI)
namespace T133
theorem ok[Srt]:Af A5 133 K1:=by
 refine BG JP<|fun(a:Int×List Int) b=>?_;have b:z6 a=true:=b;exact ym (Ak a)<|zj<|z7 rfl rfl (Aeg b)
end T133
namespace T175
theorem ok[Srt]:Af A5 175 Ab0:=by
 refine BG cM<|fun(a:Int×List Int) b=>?_;have b:z6 a=true:=b;refine ym (Ak a)<|zk (fun c=>zg b<|zj<|z7 rfl rfl ?_)<|fun c=>zj<|z7 rfl rfl ?_
 ·show Dd a=VL a;unfold VL;rw[wd<|w6 c]
 ·show a=VL a;unfold VL;rw[wc<|w7 c]
end T175
namespace T132
theorem ok[Srt]:Af A5 132 oD:=by
 refine BG cM<|fun(i:(Int×List Int)×(Int×List Int)) c=>?_;obtain⟨a,b⟩:=i;have c:(A9 a&&A9 b)=true:=c;rw[zm]at c;exact ym (Ak a b)<|zg (B5 c.2).1<|zg (Ac c.1<|WK c.2)<|zj<|z7 rfl rfl rfl
end T132
theorem Aa7[Srt]:CL XJ2:=
 Aa T132.ok (Aa T133.ok AI)
theorem wS(x y:Int):Sp.N1 (x-y)=Cp x y:=by
 unfold Sp.N1 Cp;split
 ·rw[wd ae]
 ·split
  ·rw[wc ae,wd ae]
  ·rw[wc ae,wc ae]
namespace T76
theorem ok[Srt]:Af A5 76 sK:=by
 refine BG Aa7<|fun(i:(Int×List Int)×(Int×List Int)) f=>?_;obtain⟨a,b⟩:=i;have f:(A9 a&&A9 b)=true:=f;have c:=f;rw[zm]at c;have h:z6 (Oe a b)=true:=by
  unfold Oe;exact UK c.1<|WK c.2
 have j:It (Oe a b)=dV a b:=by
  show Sp.N1 (ze<|Oe a b)=Cp (ze a) (ze b);rw[lG,wS]
 refine ym (Ak a b)<|zk (fun k=>zk (fun g=>zk (fun d=>zj<|z7 rfl rfl ?_)<|fun d=>zk (fun e=>zj<|z7 rfl rfl ?_)<|fun e=>zj<|z7 rfl rfl ?_)<|fun g=>zg f<|zg h<|zj<|z7 rfl rfl j)<|fun k=>zg f<|zg h<|zj<|z7 rfl rfl j;all_goals
  have m:=Bv<|PG k;have l:=Bv<|PG g;show _=Cp (ze a) (ze b);rw[m,l];unfold Cp
 ·rw[wd<|w6 d]
 ·rw[wc<|w7 d,wd<|w6 e]
 ·rw[wc<|w7 d,wc<|w7 e]
end T76
theorem Um(x y:Int):x*y=y7 (!(decide (x<0)==decide (y<0))) (Ah x*Ah y):=by
 unfold Ah;rw[Dx];by_cases a:x<0<;>by_cases b:y<0<;>simp[a,b,Int.neg_mul,Int.mul_neg]
namespace T127
theorem ok[Srt]:Af A5 127 SK:=by
 refine BG S5<|fun(i:(Int×List Int)×(Int×List Int)) h=>?_;obtain⟨a,b⟩:=i;have h:(A9 a&&A9 b)=true:=h;rw[zm]at h;obtain⟨a1,a2,a3,a4,a5,a6⟩:=words h.1;obtain⟨b1,b2,b3,b4,b5,b6⟩:=words h.2;have f:=(DW a1).1;have d:=(DW b1).1;have o:=AM<|ze a;have nb:=AM<|ze b;obtain⟨_,t2⟩:=M9 o a6 b6;have np:0<=Ah (ze a)*Ah (ze b):=zp o nb;have n1:Cj (Bs<|As (Bs<|Ah<|ze a)*As (Bs<|Ah<|ze b))=true:=by
  rw[a5,b5];exact(C5 np t2 ae).1
 have r:y7 (!(decide (ze a<0)==decide (ze b<0))) (As<|Bs<|As (Bs<|Ah<|ze a)*As (Bs<|Ah<|ze b))=ze a*ze b:=by
  rw[a5,b5,show As (Bs<|Ah (ze a)*Ah (ze b))=_ from C2 af np, <-Um]
 have q:∀ob,Ad SK (a,b) (.agg [.dat i64<|CP<|y7 (!(decide (ze a<0)==decide (ze b<0)))<|As<|Bs<|As (Bs<|Ah<|ze a)*As (Bs<|Ah<|ze b),.dat (.nlist<|.int .u64)<|CO<|y7 (!(decide (ze a<0)==decide (ze b<0)))<|As<|Bs<|As (Bs<|Ah<|ze a)*As (Bs<|Ah<|ze b)]) ob:=fun ob=>z7 rfl rfl (by
  show CR _=CR (ze a*ze b);rw[r])
 have p:yo (Ah a.1)=true:=CM (AM _) (by rw[Aj];omega);have ub:yo (Ah b.1)=true:=CM (AM _) (by rw[Aj];omega);refine ym (Ak a b)<|zk (fun l=>zk (fun m=>zg (EX f.1 f.2)<|zg (EX d.1 d.2)<|zg (Ac p ub)<|zk (fun g=>zk (fun j=>zk (fun c=>zj<|z7 rfl rfl ?_)<|fun c=>zj<|z7 rfl rfl ?_)<|fun j=>?_)<|fun g=>?_)<|fun m=>?_)<|fun l=>?_
 ·have n:=Bv<|PG l;have k:=Bv<|PG m;have g:(Ah a.1*Ah b.1)/18446744073709551616=0:=by simpa [RZ]using g
  have j:(Ah a.1*Ah b.1) % 18446744073709551616<=9223372036854775807:=w6 j;have p0:0<=Ah a.1*Ah b.1:=zp (AM _)<|AM _;have e:=Um a.1 b.1;have c:(!(decide (a.1<0)==decide (b.1<0)))=true:=c;rw[c,Dx,wd rfl]at e;show(zc .i64<|0-zc .i64 ((Ah a.1*Ah b.1) % 18446744073709551616),[])=CR (ze a*ze b);rw[n,k,e,Cn ae,wr ((Ah a.1*Ah b.1) % 18446744073709551616) ae ae,wr _ ae ae];congr 1;omega
 ·have n:=Bv<|PG l;have k:=Bv<|PG m;have g:(Ah a.1*Ah b.1)/18446744073709551616=0:=by simpa [RZ]using g
  have j:(Ah a.1*Ah b.1) % 18446744073709551616<=9223372036854775807:=w6 j;have p0:0<=Ah a.1*Ah b.1:=zp (AM _)<|AM _;have e:=Um a.1 b.1;have c:(!(decide (a.1<0)==decide (b.1<0)))=false:=c;rw[c,Dx,wc af]at e;show(zc .i64<|(Ah a.1*Ah b.1) % 18446744073709551616,[])=CR (ze a*ze b);rw[n,k,e,Cn ae,wr ((Ah a.1*Ah b.1) % 18446744073709551616) ae ae];congr 1;omega
 all_goals exact zg a1<|zg b1<|zg (Ac a2 b2)<|zg n1<|zj<|q _
end T127
end Go.Pe
namespace Go.Sp
def Fh(n:Int):Int:=if n<=0 then 0 else(n.toNat.log2:Int)+1
def lz(n:Int):Int:=64-Fh n
def dq(h l y:Int):Int:=(h*18446744073709551616+l)/y
def dr(h l y:Int):Int:=(h*18446744073709551616+l) % y
end Go.Sp
namespace Go.Pe
open Go.Det
def Xx:Am:=⟨[u64],fun n=>yo n,[i64],fun n=>Sp.Fh n,false⟩
def cLZ:Am:=⟨[u64],fun n=>yo n,[i64],fun n=>Sp.lz n,false⟩
def UJ:Am:=⟨[u64,u64,u64],fun i=>yo i.1&&yo i.2.1&&yo i.2.2&&decide ((i.1:Int)<i.2.2),[u64,u64],fun i=>(Sp.dq i.1 i.2.1 i.2.2,Sp.dr i.1 i.2.1 i.2.2),false⟩
def XD1[Srt]:AO:=X7 [(192,Xx)]
def kM[Srt]:AO:=X7 [(215,cLZ)]
section
open List Int Prod
namespace T192
def T[Srt](x:Int):Tr:=tree nA false 9 192<|Ag ([zn zd]) x
theorem Ak[Srt](x:Int):T x=let b:=([0,1,2,2,3,3,3,3,4,4,4,4,4,4,4,4,5,5,5,5,5,5,5,5,5,5,5,5,5,5,5,5,6,6,6,6,6,6,6,6,6,6,6,6,6,6,6,6,6,6,6,6,6,6,6,6,6,6,6,6,6,6,6,6,7,7,7,7,7,7,7,7,7,7,7,7,7,7,7,7,7,7,7,7,7,7,7,7,7,7,7,7,7,7,7,7,7,7,7,7,7,7,7,7,7,7,7,7,7,7,7,7,7,7,7,7,7,7,7,7,7,7,7,7,7,7,7,7,8,8,8,8,8,8,8,8,8,8,8,8,8,8,8,8,8,8,8,8,8,8,8,8,8,8,8,8,8,8,8,8,8,8,8,8,8,8,8,8,8,8,8,8,8,8,8,8,8,8,8,8,8,8,8,8,8,8,8,8,8,8,8,8,8,8,8,8,8,8,8,8,8,8,8,8,8,8,8,8,8,8,8,8,8,8,8,8,8,8,8,8,8,8,8,8,8,8,8,8,8,8,8,8,8,8,8,8,8,8,8,8,8,8,8,8,8,8,8,8,8,8,8,8,8,8,8,8]:Rd);let b':=zq x<|2^32;let a:=(0:Sh.T (zn zz));let c:=zq x<|2^16;let g:=zq x<|2^8;let d:=zq b'<|2^16;let f:=zq b'<|2^8;let h':=zq c<|2^8;let e:=zq d<|2^8;.di (x>=4294967296) (.ck true<|.di (zq x (2^32)>=65536) (.ck true<|.di (zq b' (2^16)>=256) (.ck true<|.ck (decide (a<=zc .u8 e)&&decide (zc .u8 e<(↑256:Int)))<|.leaf (.dat i64<|zc .i64<|zc .i64 (zc .i64 (32+16)+8)+zc .i64 (↑(zf<|getD b (toNat<|zc .u8 e) (0:UInt8)):Int)) [])<|.ck (decide (a<=zc .u8 d)&&decide (zc .u8 d<(↑256:Int)))<|.leaf (.dat i64<|zc .i64<|zc .i64 (32+16)+zc .i64 (↑(zf<|getD b (toNat<|zc .u8 d) (0:UInt8)):Int)) [])<|.di (zq x (2^32)>=256) (.ck true<|.ck (decide (a<=zc .u8 f)&&decide (zc .u8 f<(↑256:Int)))<|.leaf (.dat i64<|zc .i64<|zc .i64 (32+8)+zc .i64 (↑(zf<|getD b (toNat<|zc .u8 f) (0:UInt8)):Int)) [])<|.ck (decide (a<=zc .u8 b')&&decide (zc .u8 b'<(↑256:Int)))<|.leaf (.dat i64<|zc .i64<|32+zc .i64 (↑(zf<|getD b (toNat<|zc .u8 b') (0:UInt8)):Int)) []) (.di (x>=65536) (.ck true<|.di (zq x (2^16)>=256) (.ck true<|.ck (decide (a<=zc .u8 h')&&decide (zc .u8 h'<(↑256:Int)))<|.leaf (.dat i64<|zc .i64<|zc .i64 (zc .i64 (0+16)+8)+zc .i64 (↑(zf<|getD b (toNat<|zc .u8 h') (0:UInt8)):Int)) [])<|.ck (decide (a<=zc .u8 c)&&decide (zc .u8 c<(↑256:Int)))<|.leaf (.dat i64<|zc .i64<|zc .i64 (0+16)+zc .i64 (↑(zf<|getD b (toNat<|zc .u8 c) (0:UInt8)):Int)) [])<|.di (x>=256) (.ck true<|.ck (decide (a<=zc .u8 g)&&decide (zc .u8 g<(↑256:Int)))<|.leaf (.dat i64<|zc .i64<|zc .i64 (0+8)+zc .i64 (↑(zf<|getD b (toNat<|zc .u8 g) (0:UInt8)):Int)) [])<|.ck (decide (a<=zc .u8 x)&&decide (zc .u8 x<(↑256:Int)))<|.leaf (.dat i64<|zc .i64<|0+zc .i64 (↑(zf<|getD b (toNat<|zc .u8 x) (0:UInt8)):Int)) []):=by kernel_rfl
end T192
namespace T215
def T[Srt](x:Int):Tr:=tree XD1 false 9 215<|Ag ([zn zd]) x
theorem Ak[Srt](x:Int):T x=.ck (yo x) (.leaf (.dat i64<|zc .i64<|64-Sp.Fh x) []):=by kernel_rfl
end T215
namespace T214
def T[Srt](a b y:Int):Tr:=tree kM false 9 214<|Ag ([zn zd,zn zd,zn zd]) (a,b,y)
def L1[Srt](v2 g v9 a f e c d b:Int):Tr:=re ((T 0 0 0).R.R.R.L.L.L.L.L.L.L.L)<|Ay 135 [(2,.dat (zn zd) v2),(8,.dat (zn zd) g),(9,.dat (zn zd) v9),(10,.dat (zn zd) a),(11,.dat (zn zd) f),(13,.dat (zn zd) e),(14,.dat (zn zd) c),(15,.dat (zn zd) d),(16,.dat (zn zd) b)] [] 0
theorem Ak[Srt](c a y:Int):T c a y=let d:=decide (0<=zc .u64 (Sp.lz y));let j:=64-zc .u64 (Sp.lz y);let i:=zc .u64<|Sp.lz y;let e:=toNat i;let f:=zq a<|2^yt (toNat<|zc .u64 j) 64;let b:=zc .u64<|y*2^yt e 64;let g:=zc .u64<|a*2^yt e 64;let h:=zc .u64<|c*2^yt e 64;let b':=fT zd h f;let h':=zq b<|2^32;.ite (y==0) .fail (.di (y<=c) .fail<|.ite (c==0) (.cd (y≠0)<|.cd (y≠0)<|.leaf (.tup [.dat (zn zd)<|zc .u64<|ye a y,.dat (zn zd)<|yr a y]) [])<|.ck (yo y)<|.ck d<|.ck true<|.ck d<|.cd (0<=zc .u64 j)<|.ck d<|.ck true<|.cd (zq b (2^32)≠0)<|L1 b i h' (H3 zd b 4294967295) b' (zq g<|2^32) (H3 zd g 4294967295) (zc .u64<|ye b' h')<|zc .u64<|fT zd h f-zc .u64 (zc .u64 (ye b' h')*zq b (2^32))):=by kernel_rfl
def L2[Srt](v2 g v9 a c e b d f:Int):Tr:=re ((stepT kM<|L1 0 0 0 0 0 0 0 0 0).L.L.L)<|Ay 135 [(2,.dat (zn zd) v2),(8,.dat (zn zd) g),(9,.dat (zn zd) v9),(10,.dat (zn zd) a),(14,.dat (zn zd) c),(15,.dat (zn zd) e),(16,.dat (zn zd) b),(17,.dat (zn zd) d),(18,.dat (zn zd) f)] [] 0
theorem Al[Srt](v2 g v9 b f e d a c:Int):stepT kM (L1 v2 g v9 b f e d a c)=let j:=zc .u64 (f*4294967296)+e;let k:=zc .u64<|a-1;let b':=zc .u64 j-zc .u64 (zc .u64 (a-1)*v2);let l:=zc .u64 j-zc .u64 (a*v2);let h:=zc .u64 l;let i:=zc .u64 b';let m:Tr:=.di (zc .u64 (c+v9)>=4294967296) (.cd (v9≠0)<|L2 v2 g v9 b d k (zc .u64<|zc .u64 b'-zc .u64 (zc .u64 (ye i v9)*v9)) i<|zc .u64<|ye i v9)<|L1 v2 g v9 b f e d k<|zc .u64<|c+v9;.di (a>=4294967296) m (.di (zc .u64 (a*b)>zc .u64 (zc .u64 (4294967296*c)+e)) m<|.cd (v9≠0)<|L2 v2 g v9 b d a (zc .u64<|zc .u64 l-zc .u64 (zc .u64 (ye h v9)*v9)) h<|zc .u64<|ye h v9):=by kernel_rfl
theorem AL[Srt](v2 g v9 e c d b f a:Int):stepT kM (L2 v2 g v9 e c d b f a)=let b':=zn zd;let i:=zc .u64 (f*4294967296)+c;let h:=2^yt (toNat g) 64;let j:Tr:=.di (zc .u64 (b+v9)>=4294967296) (.cd (0<=g)<|.leaf (.tup [.dat b'<|zc .u64<|zc .u64 (d*4294967296)+zc .u64 (a-1),.dat b'<|zq (zc .u64<|zc .u64 i-zc .u64 (zc .u64 (a-1)*v2)) h]) [])<|L2 v2 g v9 e c d (zc .u64<|b+v9) f<|zc .u64<|a-1;.di (a>=4294967296) j (.di (zc .u64 (a*e)>zc .u64 (zc .u64 (4294967296*b)+c)) j<|.cd (0<=g)<|.leaf (.tup [.dat b'<|zc .u64<|zc .u64 (d*4294967296)+a,.dat b'<|zq (zc .u64<|zc .u64 i-zc .u64 (a*v2)) h]) []):=by kernel_rfl
end T214
end
namespace T214
variable {Q:PV->Ob->Prop}
def Exact(Y u w q:Int):Prop:=q*Y<=u*4294967296+w/\u*4294967296+w<(q+1)*Y
theorem ZA{Y b a u w q r:Int}(c:Y=b*4294967296+a)(d:q*b+r=u)(h:q*a>4294967296*r+w):u*4294967296+w<q*Y:=by
 subst c;rw[Int.mul_add, <-zr];generalize q*b=A at*;generalize q*a=C at*;omega
theorem LW{Y b a u w q r:Int}(c:Y=b*4294967296+a)(d:q*b+r=u)(h:q*a<=4294967296*r+w):q*Y<=u*4294967296+w:=by
 subst c;rw[Int.mul_add, <-zr];generalize q*b=A at*;generalize q*a=C at*;omega
theorem WG{Y u w q:Int}(c:u<Y)(a:0<=Y)(d:w<4294967296)(b:4294967296<=q):u*4294967296+w<q*Y:=by
 have:=zh b a;omega
theorem VJ{c b u w r:Int}{n:Nat}{Y:Int}(f:Y=c*4294967296+b)(d:0<=c)(h0:0<=b/\b<4294967296)(j:u<Y)(g:0<=w)(e:(n:Int)*c+r=u)(hr:4294967296<=r):(n:Int)*Y<=u*4294967296+w:=by
 have i:(n:Int)<4294967296:=by
  rcases zw (n:Int) 4294967296 with h|h
  ·exact h
  ·have:=zh h d;omega
 refine LW f e ?_;have a:=zh (show(n:Int)<=4294967295 by omega) h0.1;omega
theorem Ar[Srt](Y s f g u w z:Int)(v:Y=f*4294967296+g)(I:0<f/\f<4294967296)(h0:0<=g/\g<4294967296)(y:u<Y)(B:0<=w/\w<4294967296)
  (t:∀q:Int,0<=q->Exact Y u w q->Ends kM (L2 Y s f g z q (zc zd<|zc zd (zc zd (zc zd (u*(4294967296:Int))+w)-zc zd (q*Y))-zc zd (zc zd (ye (zc zd<|zc zd (zc zd (u*(4294967296:Int))+w)-zc zd (q*Y)) f)*f)) (zc zd<|zc zd (zc zd (u*(4294967296:Int))+w)-zc zd (q*Y))<|zc zd<|ye (zc zd<|zc zd (zc zd (u*(4294967296:Int))+w)-zc zd (q*Y)) f) Q):
  ∀(n:Nat) (r:Int),(n:Int)<18446744073709551616->(n:Int)*f+r=u->0<=r->r<4294967296->u*4294967296+w<((n:Int)+1)*Y->Ends kM (L1 Y s f g u w z n r) Q:=by
 intro n;induction n with
 |zero=>
  intro r E o G H j;have m:decide (f≠0)=true:=w4 ae;refine Ends.An (Al ..) (Ends.ff (by simp)<|Ends.ff (w8 ?_)<|zg m<|t _ ae ⟨?_,j⟩)
  ·rw[show((0:Nat):Int)*g=0 by simp,wu 0 ae ae,wu (4294967296*r) ae ae,wu _ ae ae];omega
  ·exact LW v o (by rw[show((0:Nat):Int)*g=0 by simp];omega)
 |succ n C=>
  intro r E o G H j;have m:decide (f≠0)=true:=w4 ae;have F:zc .u64 (((n+1:Nat):Int)-1)=(n:Int):=by rw[wu _ ae ae];omega
  have D:zc .u64 (r+f)=r+f:=wu _ ae ae;have x:0<=Y:=ae
  have p:(n:Int)*f+(r+f)=u:=by
   rw[show((n+1:Nat):Int)=(n:Int)+1 by omega,zt,z8]at o;omega
  have A:((n+1:Nat):Int)=(n:Int)+1:=ae
  have k:u*4294967296+w<((n:Int)+1)*Y->r+f<4294967296->Ends kM (L1 Y s f g u w z n<|r+f) Q:=fun h i=>
   C (r+f) ae p ae i h
  have cut:u*4294967296+w<((n:Int)+1)*Y->4294967296<=r+f->Exact Y u w n:=fun h i=>
   ⟨VJ v ae h0 y B.1 p i,h⟩
  refine Ends.An (Al ..) ?_;conv=>zeta
  rw[F,D];refine zk (fun c=>?_)<|fun c=>zk (fun d=>?_)<|fun d=>?_
  ·have c:=w6 c;have l:u*4294967296+w<((n:Int)+1)*Y:=by rw[<-A];exact WG y x B.2 c
   exact zk (fun e=>zg m<|t _ ae<|cut l<|w6 e) (fun e=>k l (by have:=w7 e;omega))
  ·have c:=w7 c;have d:=w6 d;have a:=zh (show((n+1:Nat):Int)<=4294967295 by omega) h0.1;have b:=zp (show 0<=((n+1:Nat):Int)by omega) h0.1;rw[wu (((n+1:Nat):Int)*g) ae ae,wu (4294967296*r) ae ae,wu _ ae ae]at d;have l:u*4294967296+w<((n:Int)+1)*Y:=by rw[<-A];exact ZA v o d
   exact zk (fun e=>zg m<|t _ ae<|cut l<|w6 e) (fun e=>k l (by have:=w7 e;omega))
  ·have c:=w7 c;have d:=w7 d;have a:=zh (show((n+1:Nat):Int)<=4294967295 by omega) h0.1;have b:=zp (show 0<=((n+1:Nat):Int)by omega) h0.1;rw[wu (((n+1:Nat):Int)*g) ae ae,wu (4294967296*r) ae ae,wu _ ae ae]at d;exact zg m (t _ ae ⟨LW v o ae,j⟩)
theorem A1[Srt](Y s f g u w p:Int)(x:Y=f*4294967296+g)(J:0<f/\f<4294967296)(h0:0<=g/\g<4294967296)(z:u<Y)(B:0<=w/\w<4294967296)(C:0<=s)
  (v:∀q:Int,0<=q->Exact Y u w q->∀ob,Q (PV.tup [PV.dat (zn zd)<|zc zd<|zc zd (p*(4294967296:Int))+q,PV.dat (zn zd)<|zq (zc zd<|zc zd (zc zd (u*(4294967296:Int))+w)-zc zd (q*Y))<|(2:Int)^yt (Int.toNat s) (64:Nat)]) ob):
  ∀(n:Nat) (r:Int),(n:Int)<18446744073709551616->(n:Int)*f+r=u->0<=r->r<4294967296->u*4294967296+w<((n:Int)+1)*Y->Ends kM (L2 Y s f g w p r u n) Q:=by
 intro n;induction n with
 |zero=>
  intro r G o E I j;have l:decide (0<=s)=true:=w4 C;refine Ends.An (AL ..) (Ends.ff (by simp) (Ends.ff (w8 ?_)<|zg l<|zj<|v _ ae ⟨?_,j⟩ _))
  ·rw[show((0:Nat):Int)*g=0 by simp,wu 0 ae ae,wu (4294967296*r) ae ae,wu _ ae ae];omega
  ·exact LW x o (by rw[show((0:Nat):Int)*g=0 by simp];omega)
 |succ n F=>
  intro r G o E I j;have l:decide (0<=s)=true:=w4 C;have H:zc .u64 (((n+1:Nat):Int)-1)=(n:Int):=by rw[wu _ ae ae];omega
  have D:zc .u64 (r+f)=r+f:=wu _ ae ae;have y:0<=Y:=ae
  have t:(n:Int)*f+(r+f)=u:=by
   rw[show((n+1:Nat):Int)=(n:Int)+1 by omega,zt,z8]at o;omega
  have A:((n+1:Nat):Int)=(n:Int)+1:=ae
  have m:u*4294967296+w<((n:Int)+1)*Y->r+f<4294967296->Ends kM (L2 Y s f g w p (r+f) u n) Q:=fun h i=>
   F (r+f) ae t ae i h
  have cut:u*4294967296+w<((n:Int)+1)*Y->4294967296<=r+f->Exact Y u w n:=fun h i=>
   ⟨VJ x ae h0 z B.1 t i,h⟩
  refine Ends.An (AL ..) ?_;conv=>zeta
  rw[H,D];refine zk (fun c=>?_)<|fun c=>zk (fun d=>?_)<|fun d=>?_
  ·have c:=w6 c;have k:u*4294967296+w<((n:Int)+1)*Y:=by rw[<-A];exact WG z y B.2 c
   exact zk (fun e=>zg l<|zj<|v _ ae (cut k<|w6 e) _) (fun e=>m k (by have:=w7 e;omega))
  ·have c:=w7 c;have d:=w6 d;have a:=zh (show((n+1:Nat):Int)<=4294967295 by omega) h0.1;have b:=zp (show 0<=((n+1:Nat):Int)by omega) h0.1;rw[wu (((n+1:Nat):Int)*g) ae ae,wu (4294967296*r) ae ae,wu _ ae ae]at d;have k:u*4294967296+w<((n:Int)+1)*Y:=by rw[<-A];exact ZA x o d
   exact zk (fun e=>zg l<|zj<|v _ ae (cut k<|w6 e) _) (fun e=>m k (by have:=w7 e;omega))
  ·have c:=w7 c;have d:=w7 d;have a:=zh (show((n+1:Nat):Int)<=4294967295 by omega) h0.1;have b:=zp (show 0<=((n+1:Nat):Int)by omega) h0.1;rw[wu (((n+1:Nat):Int)*g) ae ae,wu (4294967296*r) ae ae,wu _ ae ae]at d;exact zg l (zj<|v _ ae ⟨LW x o ae,j⟩ _)
end T214
theorem Wy{y:Int}(d:0<y)(i:y<18446744073709551616):∃s:Nat,Sp.lz y=(s:Int)/\s<=63/\y*2^s<18446744073709551616/\9223372036854775808<=y*2^s:=by
 obtain⟨n,rfl⟩:=zo<|yb d;have c:n≠0:=ae
 have h:n.log2<64:=(Nat.log2_lt c).2 ae;have a:=Nat.log2_self_le c;have b:=Nat.lt_log2_self (n:=n);have f:2^n.log2*2^(63-n.log2)=2^63:=by rw[<-yy];congr 1;omega
 have e:2^(n.log2+1)*2^(63-n.log2)=2^64:=by rw[<-yy];congr 1;omega
 have j:2^63<=n*2^(63-n.log2):=by rw[<-f];exact Nat.mul_le_mul_right _ a
 have g:n*2^(63-n.log2)<2^64:=by rw[<-e];exact Nat.mul_lt_mul_of_pos_right b<|yw _
 refine⟨63-n.log2,?_,by omega,?_,?_⟩
 ·unfold Sp.lz Sp.Fh;rw[wc ae,zu];omega
 ·have:((n*2^(63-n.log2):Nat):Int)<18446744073709551616:=ae
  rw[yk,yc]at this;exact this
 ·have:(9223372036854775808:Int)<=((n*2^(63-n.log2):Nat):Int):=ae
  rw[yk,yc]at this;exact this
theorem bE{a b:Int}{s:Nat}(c:0<=a)(i:0<=b)(h:b<2^s)(d:a*2^s+b<18446744073709551616):fT .u64 (a*2^s) b=a*2^s+b:=by
 obtain⟨m,rfl⟩:=zo c;obtain⟨k,rfl⟩:=zo i;have f:((m:Int)*2^s)=((m*2^s:Nat):Int):=by rw[yk,yc];rfl
 have g:k<2^s:=by
  have e:((2:Int)^s)=((2^s:Nat):Int):=by rw[yc];rfl
  rw[e]at h;omega
 rw[f]at d ⊢;have e:(yu 64 ((m*2^s:Nat):Int)|||yu 64 (k:Int)).toNat=m*2^s+k:=by
  rw[BitVec.toNat_or,BitVec.ofInt_natCast,BitVec.ofInt_natCast,BitVec.toNat_ofNat,BitVec.toNat_ofNat,Nat.mod_eq_of_lt ae,Nat.mod_eq_of_lt ae,Nat.mul_comm m,Nat.two_pow_add_eq_or_of_lt g]
 show zc .u64 (((yu 64 ((m*2^s:Nat):Int)|||yu 64 (k:Int)).toNat:Nat):Int)=_;rw[e,tI _ ae];omega
namespace T214
theorem start{u c d Y w:Int}(i:Y=c*4294967296+d)(h:0<c/\c<4294967296)(h0:0<=d)(f:0<=u/\u<18446744073709551616)(l:w<4294967296):
  ∃(n:Nat) (r:Int),zc .u64 (ye u c)=(n:Int)/\zc .u64 (u-zc .u64 ((n:Int)*c))=r/\(n:Int)<18446744073709551616/\(n:Int)*c+r=u/\0<=r/\r<4294967296/\u*4294967296+w<((n:Int)+1)*Y:=by
 have j:0<=u/c:=yx f.1 ae;have q1:u/c<=u:=Int.ediv_le_self _ f.1;have e:=Int.mul_ediv_add_emod u c;have k:=Int.emod_nonneg u (show c≠0 by omega);have m:=Int.emod_lt_of_pos u h.1;rw[zx]at e;obtain⟨n,g⟩:=zo j;have hp:0<=(n:Int)*c:=zp ae ae;rw[g]at e;refine⟨n,u % c,?_,?_,by omega,e,k,by omega,?_⟩
 ·rw[yp f.1,g,wu _ ae ae]
 ·rw[wu ((n:Int)*c) ae ae,wu _ ae ae];omega
 ·subst i;have a:((n:Int)+1)*(c*4294967296+d)=((n:Int)*c+c)*4294967296+((n:Int)+1)*d:=by
   rw[Int.mul_add, <-zr,zt,z8]
  have b:0<=((n:Int)+1)*d:=zp ae h0;rw[a];omega
theorem RN{u w q Y:Int}(c:Exact Y u w q)(d:Y<18446744073709551616):zc .u64 (zc .u64 (zc .u64 (u*(4294967296:Int))+w)-zc .u64 (q*Y))=u*4294967296+w-q*Y:=by
 obtain⟨a,b⟩:=c;rw[zt,z8]at b;rw[LI,LI,LI,LI];generalize q*Y=A at*;omega
theorem Aaf[Srt](h:Af A5 215 cLZ):CL kM:=Aa h AI
set_option maxHeartbeats 1000000 in
theorem ok[Srt](hlz:Af A5 215 cLZ):Af A5 214 UJ:=by
 refine Ir (X:=kM) rfl (Aaf hlz) (d:=9) ag ag ag (fun(i:Int×Int×Int) E=>?_) (Bd ag);obtain⟨e,f,y⟩:=i;have E:(yo e&&yo f&&yo y&&decide (e<y))=true:=E;rw[zm,zm,zm,w5]at E;obtain⟨⟨⟨D,g⟩,v⟩,h4⟩:=E;have uy:=v;have D:=Sp.A3 D;have g:=Sp.A3 g;have v:=Sp.A3 v;have hg:∀q r ob,q=Sp.dq e f y->r=Sp.dr e f y->Ad UJ (e,f,y) (PV.tup [PV.dat (zn zd) q,PV.dat (zn zd) r]) ob:=fun q r ob e1 H=>z7 rfl rfl (Prod.ext e1 H)
 refine ym (Ak e f y) (Ends.ff (by simp;omega)<|Ends.ff (w8 ae)<|zk (fun c=>?_)<|fun c=>?_)
 ·have c:e=0:=by simpa using c
  subst c;have q0:0<=f/y:=yx g.1 ae;have q1:f/y<=f:=Int.ediv_le_self _ g.1;refine zg (w4 ae) (zg (w4 ae)<|zj<|hg _ _ _ ?_ ?_)
  ·unfold Sp.dq;rw[yp g.1,wu _ ae ae,Int.zero_mul,yv]
  ·unfold Sp.dr;rw[Int.tmod_eq_emod_of_nonneg g.1,Int.zero_mul,yv]
 ·have c:e≠0:=by simpa using c
  obtain⟨s,hs,hs63,P,L⟩:=Wy (y:=y) ae v.2;have es:zc .u64 (s:Int)=(s:Int):=tI s ae;have em:yt s 64=s:=ae
  have T:zc .u64 ((64:Int)-(s:Int))=((64-s:Nat):Int):=by rw[wu _ ae ae];omega
  have J:yt (64-s) 64=64-s:=ae
  have j:(2:Int)^s*2^(64-s)=18446744073709551616:=by rw[<-Int.pow_add,show s+(64-s)=64 by omega];rfl
  have h:(0:Int)<2^s:=Int.pow_pos af;have hR:(0:Int)<2^(64-s):=Int.pow_pos af;have a0:0<=f/2^(64-s):=yx g.1 ae;have W:=Int.mul_ediv_add_emod f<|2^(64-s);have c0:=Int.emod_nonneg f (show(2:Int)^(64-s)≠0 by omega);have c1:=Int.emod_lt_of_pos f hR;have aP:f/2^(64-s)<2^s:=Int.ediv_lt_of_lt_mul hR (by rw[j];exact g.2);have hiP:e*2^s+2^s<=y*2^s:=by
   have:=zh (show e+1<=y by omega)<|yb h;rw[zt,z8]at this;exact this
  have Z:0<=e*2^s:=zp D.1<|yb h;have I:zq f ((2:Int)^(64-s))=f/2^(64-s):=yf _ ae;have V:fT .u64 (e*2^s) (f/2^(64-s))=e*2^s+f/2^(64-s):=bE D.1 a0 aP ae;have O:0<=(f % 2^(64-s))*2^s:=zp c0<|yb h;have S:(f % 2^(64-s))*2^s<18446744073709551616:=by
   have:=Int.mul_lt_mul_of_pos_right c1 h;rw[zx<|2^(64-s),j]at this;exact this
  have l:f*2^s=(f/2^(64-s))*18446744073709551616+(f % 2^(64-s))*2^s:=by
   conv=>lhs;rw[<-W]
   rw[zt, <-j,zx (2^(64-s))<|f/2^(64-s),zr,zx (2^(64-s))<|2^s]
  have elo:zc .u64 (f*2^s)=(f % 2^(64-s))*2^s:=by rw[l,LI];omega
  have hN:(e*2^s+f/2^(64-s))*18446744073709551616+(f % 2^(64-s))*2^s=(e*18446744073709551616+f)*2^s:=by
   rw[zt (e*18446744073709551616) f<|2^s,l,zr e 18446744073709551616<|2^s,zx 18446744073709551616<|(2:Int)^s, <-zr];omega
  have R:zc .u64 (y*2^s)=y*2^s:=wu _ ae ae;have ewh:zc .u64 (e*2^s)=e*2^s:=wu _ Z ae;have z0:decide ((0:Int)<=(s:Int))=true:=w4 ae;have fin:∀q:Int,q*(y*2^s)<=(e*18446744073709551616+f)*2^s->(e*18446744073709551616+f)*2^s<(q+1)*(y*2^s)->q=Sp.dq e f y/\zq ((e*18446744073709551616+f)*2^s-q*(y*2^s)) (2^s)=Sp.dr e f y:=by
   intro q B x;unfold Sp.dq Sp.dr;generalize e*18446744073709551616+f=M at*;rw[<-zr]at B x;have g1:q*y<=M:=Int.le_of_mul_le_mul_right B h;have g2:M<(q+1)*y:=Int.lt_of_mul_lt_mul_right x<|yb h;rw[zt,z8]at g2;obtain⟨u1,u2⟩:=(Int.ediv_emod_unique (a:=M) (b:=y) (r:=M-q*y) (q:=q) ae).2 ⟨by rw[zx y q];omega,by omega,by omega⟩;refine⟨u1.symm,?_⟩;rw[u2, <-zr, <-Int.sub_mul,yf _<|yb h];exact Int.mul_ediv_cancel _ ae
  obtain⟨Y,eY⟩:=zo (show 0<=y*2^s by omega);obtain⟨C,eC⟩:=zo O;have hU0:0<=e*2^s+f/2^(64-s):=ae
  have k:e*2^s+f/2^(64-s)<y*2^s:=ae
  rw[hs,es,T,zu,zu,em,J,R,ewh,I,V,elo];rw[eC]at hN S ⊢;rw[eY]at P L k fin ⊢;generalize hU:e*2^s+f/2^(64-s)=U at*;generalize hM:(e*18446744073709551616+f)*2^s=M at*;rw[eS,eS,Pm Y ae,Pm C ae];have A:(Y:Int)=((Y/4294967296:Nat):Int)*4294967296+((Y % 4294967296:Nat):Int):=ae
  have F:0<((Y/4294967296:Nat):Int)/\((Y/4294967296:Nat):Int)<4294967296:=ae
  have o:0<=((Y % 4294967296:Nat):Int)/\((Y % 4294967296:Nat):Int)<4294967296:=ae
  have w1:0<=((C/4294967296:Nat):Int)/\((C/4294967296:Nat):Int)<4294967296:=ae
  have w0:0<=((C % 4294967296:Nat):Int)/\((C % 4294967296:Nat):Int)<4294967296:=ae
  have hC:(C:Int)=((C/4294967296:Nat):Int)*4294967296+((C % 4294967296:Nat):Int):=ae
  generalize ((Y/4294967296:Nat):Int)=y1 at*;generalize ((Y % 4294967296:Nat):Int)=y0 at*;generalize ((C/4294967296:Nat):Int)=w at*;generalize ((C % 4294967296:Nat):Int)=z at*;refine zg uy (zg z0<|zg rfl (zg z0<|zg (w4 ae)<|zg z0<|zg rfl (zg (w4 ae) ?_)));obtain⟨n,r,e1,H,n1,n2,n3,n4,n5⟩:=start (u:=U) (w:=w) A F o.1 ae w1.2;rw[e1,H];refine Ar (Y:Int) s y1 y0 U w z A F o k w1 (fun p p0 hp=>?_) n r n1 n2 n3 n4 n5;have er:=RN hp ae;rw[er];have hp1:=hp.1;have G:=hp.2;rw[zt,z8]at G;obtain⟨m,t,k1,k2,m1,m2,m3,m4,m5⟩:=start (u:=U*4294967296+w-p*Y) (w:=z) A F o.1 ae w0.2;rw[k1,k2];refine A1 (Y:Int) s y1 y0 _ z p A F o ae w0 ae (fun q q0 hq ob=>?_) m t m1 m2 m3 m4 m5;rw[RN hq ae,zu,em];obtain⟨hq1,hq2⟩:=hq;have N:(p*4294967296+q)*(Y:Int)=p*Y*4294967296+q*Y:=by
   rw[zt,zr,zx 4294967296 (Y:Int), <-zr]
  have K:(p*4294967296+q+1)*(Y:Int)=p*Y*4294967296+q*Y+Y:=by
   rw[zt,N,z8]
  rw[zt,z8]at hq2;obtain⟨B,x⟩:=fin (p*4294967296+q) (by rw[N];omega) (by rw[K];omega);refine hg _ _ _ ?_ ?_
  ·have hb:Sp.dq e f y<18446744073709551616:=by
    unfold Sp.dq;refine Int.ediv_lt_of_lt_mul ae ?_;have:=yh (show e+1<=y by omega) (show(0:Int)<=18446744073709551616 by decide);omega
   rw[<-B]at hb ⊢;rw[LI,LI];omega
  ·rw[<-x,N];congr 1;omega
end T214
open Sp
theorem mH(x k:Nat)(h:2^k<=x):x.log2=k+(x/2^k).log2:=by
 have d:=yw k;have e:x/2^k≠0:=by
  have:=Nat.div_pos h d;omega
 have f:x≠0:=ae
 refine(Nat.log2_eq_iff f).2 ⟨?_,?_⟩
 ·rw[yy];exact Nat.le_trans (Nat.mul_le_mul_left _<|Nat.log2_self_le e)<|Nat.mul_div_le x<|2^k
 ·rw[Nat.add_assoc,yy];have a:x/2^k+1<=2^((x/2^k).log2+1):=Nat.lt_log2_self;have b:=Nat.mul_le_mul_left (2^k) a;have c:=Nat.lt_mul_div_succ x d;exact Nat.lt_of_lt_of_le c b
theorem Px(x k:Nat)(h:2^k<=x):Fh (x:Int)=(k:Int)+Fh ((x/2^k:Nat):Int):=by
 have a:=yw k;have b:=Nat.div_pos h a;have e:=mH x k h;unfold Fh;rw[wc ae,wc ae,zu,zu,e];omega
theorem fdN(n k:Nat):zq (n:Int) ((2:Int)^k)=((n/2^k:Nat):Int):=by
 have:(0:Int)<2^k:=Int.pow_pos af;rw[yf _ ae,Int.natCast_ediv,yc];rfl
def Acs:Rd:=[(0:UInt8),1,2,2,3,3,3,3,4,4,4,4,4,4,4,4,5,5,5,5,5,5,5,5,5,5,5,5,5,5,5,5,6,6,6,6,6,6,6,6,6,6,6,6,6,6,6,6,6,6,6,6,6,6,6,6,6,6,6,6,6,6,6,6,7,7,7,7,7,7,7,7,7,7,7,7,7,7,7,7,7,7,7,7,7,7,7,7,7,7,7,7,7,7,7,7,7,7,7,7,7,7,7,7,7,7,7,7,7,7,7,7,7,7,7,7,7,7,7,7,7,7,7,7,7,7,7,7,8,8,8,8,8,8,8,8,8,8,8,8,8,8,8,8,8,8,8,8,8,8,8,8,8,8,8,8,8,8,8,8,8,8,8,8,8,8,8,8,8,8,8,8,8,8,8,8,8,8,8,8,8,8,8,8,8,8,8,8,8,8,8,8,8,8,8,8,8,8,8,8,8,8,8,8,8,8,8,8,8,8,8,8,8,8,8,8,8,8,8,8,8,8,8,8,8,8,8,8,8,8,8,8,8,8,8,8,8,8,8,8,8,8,8,8,8,8,8,8,8,8,8,8,8,8,8,8]
theorem Z0:∀m:Fin 256,((zf (Acs.getD m.val 0):Nat):Int)=Fh (m.val:Int)/\zc .u8 (m.val:Int)=(m.val:Int)/\Fh (m.val:Int)<=8/\0<=Fh (m.val:Int):=by decide+kernel
theorem NV{b:Int}(a z x:Nat)(i:b=a)(j:a<=64)(g:z<256)(h:Fh (x:Int)=(a:Int)+Fh (z:Int)):zc .i64 (b+zc .i64 ((zf (Acs.getD (Int.toNat<|zc .u8 (z:Int)) 0):Nat):Int))=Fh x:=by
 obtain⟨d,c,e,f⟩:=Z0 ⟨z,g⟩;have d:((zf (Acs.getD z 0):Nat):Int)=Fh (z:Int):=d;have c:zc .u8 (z:Int)=(z:Int):=c;have e:Fh (z:Int)<=8:=e;have f:0<=Fh (z:Int):=f;rw[c,zu,d,i,h,wr (Fh (z:Int)) ae ae,wr _ ae ae]
theorem u8b(z:Nat)(b:z<256):(decide ((0:Sh.T (zn zz))<=zc zz (z:Int))&&decide (zc zz (z:Int)<(↑(256:Nat):Int)))=true:=by
 obtain⟨_,a,_,_⟩:=Z0 ⟨z,b⟩;have a:zc .u8 (z:Int)=(z:Int):=a;rw[a];exact Ac (w4<|show(0:Int)<=(z:Int)by omega) (w4 ae)
namespace T192
set_option maxHeartbeats 1000000 in
set_option maxRecDepth 100000 in
theorem ok[Srt]:Af A5 192 Xx:=by
 refine BG JP<|fun(x:Int) e=>?_;have e:=Sp.A3 (n:=x) e;obtain⟨x,rfl⟩:=zo e.1;refine ym (Ak (x:Int)) ?_;conv=>zeta
 conv=>zeta
 rw[fdN x 32,fdN x 16,fdN x 8,fdN (x/2^32) 16,fdN (x/2^32) 8,fdN (x/2^32/2^16) 8,fdN (x/2^16) 8];have i:=Px x 32;have j:=Px x 16;have k:=Px x 8;have f:=Px (x/2^32) 16;have h:=Px (x/2^32) 8;have d:=Px (x/2^32/2^16) 8;have g:=Px (x/2^16) 8;refine zk (fun c=>zg rfl (zk (fun b=>zg rfl (zk (fun a=>zg rfl (zg (u8b _ ?_)<|zj<|z7 rfl rfl (NV 56 _ x (by decide+kernel) af ?_ ?_)))<|fun a=>zg (u8b _ ?_)<|zj<|z7 rfl rfl (NV 48 _ x (by decide+kernel) af ?_ ?_)))<|fun b=>zk (fun a=>zg rfl (zg (u8b _ ?_)<|zj<|z7 rfl rfl (NV 40 _ x (by decide+kernel) af ?_ ?_)))<|fun a=>zg (u8b _ ?_)<|zj<|z7 rfl rfl (NV 32 _ x rfl af ?_ ?_))) (fun c=>zk (fun b=>zg rfl (zk (fun a=>zg rfl (zg (u8b _ ?_)<|zj<|z7 rfl rfl (NV 24 _ x (by decide+kernel) af ?_ ?_)))<|fun a=>zg (u8b _ ?_)<|zj<|z7 rfl rfl (NV 16 _ x (by decide+kernel) af ?_ ?_)))<|fun b=>zk (fun a=>zg rfl (zg (u8b _ ?_)<|zj<|z7 rfl rfl (NV 8 _ x (by decide+kernel) af ?_ ?_)))<|fun a=>zg (u8b _ ?_)<|zj<|z7 rfl rfl (NV 0 _ x rfl af ?_ ?_));all_goals
  first
   |replace c:=w6 c
   |replace c:=w7 c
  first
   |replace b:=w6 b
   |replace b:=w7 b
  first
   |replace a:=w6 a
   |replace a:=w7 a
  omega
end T192
theorem AaL[Srt]:CL XD1:=Aa T192.ok AI
theorem S9{n:Int}(b:0<=n)(a:n<18446744073709551616):0<=Sp.Fh n/\Sp.Fh n<=64:=by
 unfold Sp.Fh;split
 ·omega
 ·have:n.toNat.log2<64:=(Nat.log2_lt ae).2 ae;omega
namespace T215
theorem ok[Srt]:Af A5 215 cLZ:=by
 refine BG AaL<|fun(x:Int) hx=>?_;have h:=Sp.A3 (n:=x) hx;have a:=S9 h.1 h.2;refine ym (Ak x)<|zg hx<|zj<|z7 rfl rfl ?_;show zc .i64 (64-Sp.Fh x)=Sp.lz x;unfold Sp.lz;exact wr _ ae ae
end T215
theorem tQ[Srt]:Af A5 214 UJ:=T214.ok T215.ok
end Go.Pe
namespace Go.Sp
def UC(a b:List Int):Bool:=Cj a&&Cj b&&decide (a.length<=9000)&&decide (b.length<=9000)&&decide (0<As b)
end Go.Sp
namespace Go.Pe
open Sp
open Go.Det
def GI:Am:=⟨[Dj,Dj],fun i=>UC i.1 i.2,[Dj,Dj],fun i=>(Bs<|As i.1/As i.2,Bs<|As i.1 % As i.2),false⟩
def J6[Srt]:AO:=X7 [(164,aX),(203,YK),(166,UP),(202,YL),(204,Xy),(214,UJ),(215,cLZ)]
end Go.Pe
namespace Go.Sp
def KY(c:UInt8):Int:=(c.toNat:Int)-48
def BN(c:UInt8):Bool:=decide (48<=c.toNat)&&decide (c.toNat<=57)
def AG(n:Int):Rd->Int
 |[]=>n
 |c::r=>AG (10*n+KY c) r
def Ap(s:Rd):Bool:=s.all BN
theorem CU:∀(n:Int) (a b:Rd),AG n (a++b)=AG (AG n a) b
 |_,[],_=>rfl
 |n,c::a,b=>by rw[List.cons_append,AG,AG,CU]
theorem EK:∀(s:Rd) (n:Int),AG n s=n*10^s.length+AG 0 s
 |[],n=>by simp[AG]
 |c::s,n=>by
  rw[AG,AG,EK s<|10*n+KY c,EK s<|10*0+KY c,List.length_cons,y8,zt,Int.mul_zero,yv,zx 10 n,zr,zx 10<|10^s.length,Int.add_assoc]
theorem Fa{c:UInt8}(h:BN c=true):0<=KY c/\KY c<=9:=by
 unfold BN at h;rw[zm,w5,w5]at h;unfold KY;omega
theorem Bf:∀ {s:Rd},Ap s=true->0<=AG 0 s/\AG 0 s<10^s.length
 |[],_=>by simp[AG]
 |c::s,h=>by
  unfold Ap at h;rw[List.all_cons,zm]at h;have a:=Fa h.1;have b:=Bf (s:=s) h.2;have hp:=Be (show(0:Int)<10 by decide) s.length;have e:=zp a.1<|yb hp;have d:=zh a.2<|yb hp;rw[AG,EK,List.length_cons,y8,Int.mul_zero,yv,zx (10^s.length) 10];omega
theorem Bg{s:Rd}(h:Ap s=true)(i:Nat):Ap (s.take i)=true:=by
 grind [Ap]
theorem B0{s:Rd}(h:Ap s=true)(i:Nat):Ap (s.drop i)=true:=by
 grind [Ap]
def AY(s:Rd):Bool:=decide (s≠[])&&Ap s&&(decide (s.getD 0 0≠48)||decide (s=[48]))
def FX(a b:AJ):AJ:=if vI a<0/\Ah (vI a) % vI b≠0 then Oe (CR<| -(Ah (vI a)/vI b)) (1,[])else CR<|sg (decide (vI a<0))<|Ah (vI a)/vI b
def Zs(a b:AJ):Int:=(FX a b).1
def ZS(a b:AJ):List Int:=(FX a b).2
def jK(a b:AJ):Int:=CP<|vI a % vI b
def mL(a b:AJ):List Int:=CO<|vI a % vI b
def gI(a b:Int):Int:=if a<0 then -(-(Int.gcd a b:Int))else(Int.gcd a b:Int)
theorem Gk(a b:Int):gI a b=(Int.gcd a b:Int):=by unfold gI;split<;>omega
def NJ(a b:AJ):Int:=CP<|gI (vI a)<|vI b
def NS(a b:AJ):List Int:=CO<|gI (vI a)<|vI b
def pI(a k:Int):Int:=if k<0 then -(-(a^k.toNat))else a^k.toNat
theorem Ya(a k:Int):pI a k=a^k.toNat:=by unfold pI;split<;>omega
def Aag(a k:Int):Bool:=decide (0<=k)&&decide (k<=100000)&&decide (Ah (pI a k)<(18446744073709551616:Int)^(4000:Nat))
def Vn(a:AJ)(k:Int):Int:=CP<|pI (vI a) k
def WM(a:AJ)(k:Int):List Int:=CO<|pI (vI a) k
def Bo(n:Int):List Int:=if n<0 then[]else[]
theorem EM(n:Int):Bo n=[]:=by unfold Bo;split<;>rfl
def Cw(s:Rd):Int:=if s.getD 0 0=45 then -AG 0 (s.drop 1)else AG 0 s
def Em(s:Rd):Bool:=decide (s.length<=5999)&&(if s.getD 0 0=45 then Ap (s.drop 1)else Ap s)
def Di(s:Rd):Int:=CP<|Cw s
def Dk(s:Rd):List Int:=CO<|Cw s
end Go.Sp
namespace Go.Pe
open Sp
open Go.Det
def Hv:Am:=⟨[A0,A0],fun i=>A9 i.1&&A9 i.2&&decide (0<ze i.2),[A0,A0],fun i=>((Zs i.1 i.2,ZS i.1 i.2),(jK i.1 i.2,mL i.1 i.2)),false⟩
def ZE:Am:=⟨[A0,A0],fun i=>A9 i.1&&A9 i.2,[A0],fun i=>(NJ i.1 i.2,NS i.1 i.2),false⟩
def tV:Am:=⟨[A0,i64],fun i=>A9 i.1&&Aag (ze i.1) i.2,[A0],fun i=>(Vn i.1 i.2,WM i.1 i.2),false⟩
def Qm:Am:=⟨[.str],fun s=>Em s,[A0],fun s=>(Di s,Dk s),false⟩
def Rr:Am:=⟨[i64],fun _=>true,[A0],fun n=>(n,Bo n),false⟩
def XF1[Srt]:AO:=U9 [(169,[9,10])] [] [(169,[(9,[3,4,5,8,12,13]),(10,[3,4,5,14,15])])] [(77,Rr),(178,GI),(161,P6),(162,qO),(132,oD),(126,Q7),(133,K1)]
def XF0[Srt]:AO:=X7 []
def XF2[Srt]:AO:=X7 [(169,Hv),(175,Ab0),(133,K1)]
def XF3[Srt]:AO:=X7 [(77,Rr),(127,SK)]
end Go.Pe
namespace Go.Sp
abbrev B9:Nat:=1000000000
def Kp(l:List Int):Bool:=decide (l.length<=20000)&&l.all fun d=>decide (0<=d)&&decide (d<1000000000)
def hR(l:List Int):Bool:=Kp l&&decide (l.length<=9000)
def A8(l:List Int):Bool:=Kp l&&nzW l
def Ax(l:List Int):Int:=val B9 l
def B7(n:Int):List Int:=dg B9 n
def rN(n:Int):Bool:=decide (n<0)
def rW(n:Int):List Int:=B7<|Ah n
def CY(neg:Bool)(w:List Int):Bool:=neg&&decide (AB w≠[])
def DU(s:Rd):Bool:=decide (s.length<=18)&&Ap s
def BO(s:Rd):Int:=AG 0 s
def HQ(s:Rd):Bool:=rN<|Cw s
def H5(s:Rd):List Int:=rW<|Cw s
def Cs(a b:List Int):List Int:=B7<|gI (Ax a)<|Ax b
end Go.Sp
namespace Go.Pe
open Sp
open Go.Det
abbrev li:Sh:=.list i64
abbrev Ka:Sh:=.pair .bool li
def T1:Am:=⟨[li],fun l=>decide (yi (α:=Int) l<=20000),[li],fun l=>AB l,false⟩
def Hj:Am:=⟨[.bool,li],fun i=>decide (yi (α:=Int) i.2<=20000),[Ka],fun i=>(CY i.1 i.2,AB i.2),false⟩
def bJ:Am:=⟨[li,li],fun i=>A8 i.1&&A8 i.2,[i64],fun i=>Cp (Ax i.1)<|Ax i.2,false⟩
def aR:Am:=⟨[li,li],fun i=>Sp.hR i.1&&Sp.hR i.2,[li],fun i=>B7<|Ax i.1*Ax i.2,false⟩
def Yo:Am:=⟨[li,i64],fun i=>Kp i.1&&decide (0<(i.2:Int))&&decide ((i.2:Int)<1000000000),[li,i64],fun i=>(B7<|Ax i.1/i.2,Ax i.1 % i.2),false⟩
def SH:Am:=⟨[li,li],fun i=>A8 i.1&&A8 i.2&&decide (yi (α:=Int) i.1<=9000)&&decide (yi (α:=Int) i.2<=9000)&&decide (0<Ax i.2),[li,li],fun i=>(B7<|Ax i.1/Ax i.2,B7<|Ax i.1 % Ax i.2),false⟩
def Lc:Am:=⟨[li,li],fun i=>A8 i.1&&A8 i.2&&decide (yi (α:=Int) i.1<=9000)&&decide (yi (α:=Int) i.2<=9000),[li],fun i=>Cs i.1 i.2,false⟩
def U4:Am:=⟨[.str],fun s=>DU s,[i64],fun s=>BO s,false⟩
def TV:Am:=⟨[.str],fun s=>Em s,[Ka],fun s=>(HQ s,H5 s),false⟩
def uT[Srt]:AO:=X7 []
def iT[Srt]:AO:=X7 [(147,T1)]
def MI[Srt]:AO:=X7 [(112,bJ),(147,T1),(146,Yo),(114,aR)]
def XG3[Srt]:AO:=X7 [(109,SH)]
def iS[Srt]:AO:=X7 [(104,U4),(110,Hj)]
end Go.Pe
namespace Go.Sp
def Dq:Rd:=[48,49,50,51,52,53,54,55,56,57]
def Abs(o:List Bool):List Bool:=(List.range 256).map fun j=>o.getD j false
def Abz:List Bool:=List.replicate 256 false
def Qe(s:Rd):Rd:=((s.reverse.dropWhile BN).reverse).dropWhile BN
def Q4(s:Rd)(c:Int):Int:=match s.findIdx? (fun x=>x==c.toNat.toUInt8)with
 |some i=>(i:Int)
 |none=> -1
def AF(s:Rd):Rd:=match s.findIdx? (fun x=>x==47)with
 |some i=>s.take i
 |none=>s
def AV(s:Rd):Rd:=match s.findIdx? (fun x=>x==47)with
 |some i=>s.drop<|i+1
 |none=>[]
def BF(s:Rd):Bool:=s.any<|fun x=>x==47
def A2(s:Rd):Rd:=if s.getD 0 0=45 then s.drop 1 else s
def preB(s:Rd):Bool:=decide (s.getD 0 0=45)
def Ace(s t:Rd):Bool:=decide (t=Dq)&&decide (s.length<=1000000)
def AcJ(s t:Rd):Bool:=decide (t=[47])&&decide (s.length<=1000000)
def Ta(s t:Rd):Bool:=decide (t=[45])&&decide (s.length<=1000000)
end Go.Sp
namespace Go.Pe
open Sp
open Go.Det
def Yj:Am:=⟨[.str,.str],fun i=>Ace i.1 i.2,[.str],fun i=>Qe i.1,false⟩
def Ab8:Am:=⟨[.str,.int .u8],fun i=>decide (0<=(i.2:Int))&&decide ((i.2:Int)<256),[i64],fun i=>Q4 i.1 i.2,false⟩
def mQ:Am:=⟨[.str,.str],fun i=>AcJ i.1 i.2,[.str,.str,.bool],fun i=>(AF i.1,Sp.AV i.1,BF i.1),false⟩
def Abm:Am:=⟨[.str,.str],fun i=>Ta i.1 i.2,[.str,.bool],fun i=>(A2 i.1,Sp.preB i.1),false⟩
def XT:Am:=⟨[.str],fun s=>decide (s.length<=1000000),[.bool],fun s=>AY s,false⟩
def Oz[Srt]:AO:=X7 []
def dX[Srt]:AO:=X7 [(211,⟨[.str,.str],fun _=>false,[.str],fun i=>i.1,false⟩),(212,⟨[.str,.str],fun _=>false,[.str],fun i=>i.1,false⟩),(206,⟨[.str,.int .u8],fun _=>false,[.str],fun i=>i.1,false⟩),(207,⟨[.str,.int .u8],fun _=>false,[.str],fun i=>i.1,false⟩)]
def XH1[Srt]:AO:=X7 [(174,Yj)]
def XH2[Srt]:AO:=X7 [(253,Ab8)]
def Rn[Srt]:AO:=X7 [(77,Rr),(160,tV),(127,SK),(126,Q7),(130,Wr),(233,⟨[.str,i64,i64],fun _=>false,[i64],fun _=>(0:Int),false⟩),(201,⟨[.str],fun _=>false,[i64],fun _=>(0:Int),false⟩)]
end Go.Pe
namespace Go.Sp
def GH(a:Rd):Bool:=AY (AF<|A2 a)&&(!preB a||decide (AF (A2 a)≠[48]))&&(!BF (A2 a)||(AY (AV<|A2 a)&&decide (AV (A2 a)≠[48])&&decide (AV (A2 a)≠[49])))
def yE(a:Rd):Int:=AG 0<|AF<|A2 a
def yF(a:Rd):Int:=AG 0<|AV<|A2 a
def Av(a:Rd):Int:=if GH a=false then 1 else if 600<(AF<|A2 a).length\/600<(AV<|A2 a).length then 4 else if BF (A2 a)=true/\gI (yE a) (yF a)≠1 then 1 else 0
def A4(s:Rd):Int:=((AF s).length:Int)
def Dc(a:Rd):Bool:=Em (AF a)&&Em (AV a)&&decide (a.length<=5999)
def Bi(a:Rd):Int:=Cw<|AF a
def AX(a:Rd):Int:=if BF a=true then Cw (AV a)else 1
def BV(a:Rd):Bool:=rN<|Bi a
def BM(a:Rd):List Int:=rW<|Bi a
def BC(a:Rd):Bool:=rN<|AX a
def Br(a:Rd):List Int:=rW<|AX a
end Go.Sp
namespace Go.Pe
open Sp
open Go.Det
def FL:Am:=⟨[.str],fun s=>decide (s.length<=1000000),[i64],fun s=>Av s,false⟩
def P0:Am:=⟨[.str],fun s=>decide (s.length<=1000000),[i64],fun s=>A4 s,false⟩
def Tw:Am:=⟨[.str],fun s=>decide (s.length<=9223372036854775807),[i64],fun s=>Av s,false⟩
def bN:Am:=⟨[.str],fun s=>decide (s.length<=9223372036854775807),[i64],fun s=>A4 s,false⟩
def SV:Am:=⟨[.str],fun s=>decide (s.length<=9223372036854775807),[.bool],fun s=>AY s,false⟩
def Jw:Am:=⟨[i64],fun n=>Cv n,[Ka],fun n=>(Sp.rN n,Sp.rW n),false⟩
def TY:Am:=⟨[.str],fun s=>Dc s,[Ka,Ka],fun s=>((BV s,BM s),(BC s,Br s)),false⟩
def MD[Srt]:AO:=U9 [(89,[4,6,7,9,10])] [] [(89,[(4,[5,6,7,8]),(6,[5,6,7,8]),(7,[5,6,7,9]),(9,[5,6,7]),(10,[10])])] [(138,FR),(139,Hd),(136,Abm),(123,mQ),(137,XT),(140,ZE),(124,Qm),(76,sK),(77,Rr)]
def XK2[Srt]:AO:=X7 [(110,Hj)]
def XK3[Srt]:AO:=X7 [(100,P0),(107,TV),(99,Jw)]
def W1[Srt]:AO:=U9 [(40,[4,7,9,11,13,14])] [] [(40,[(4,[0,3]),(7,[3,4]),(9,[3,4]),(11,[3,4]),(13,[5,6]),(14,[7])])] [(100,bN),(101,SV),(48,TY),(102,Lc)]
end Go.Pe
namespace Go.Sp
abbrev Ab:=(Int×List Int)×(Int×List Int)
def N9(a:AJ):Bool:=Da a&&decide (a.2.length<=4000)
def B8(a:Ab):Bool:=N9 a.1&&N9 a.2
def CW(a b:Ab):Int:=Cp (vI a.1*vI b.2)<|vI b.1*vI a.2
def Ro(a:Rd):Int:=CP<|Bi a
def Rz(a:Rd):List Int:=CO<|Bi a
def Pz(a:Rd):Int:=CP<|AX a
def Pk(a:Rd):List Int:=CO<|AX a
def iQ(a b:AJ):AJ:=if vI b<0 then FX (Dd a) (Dd b)else FX a b
def iQS(a b:AJ):Int:=(iQ a b).1
def iQW(a b:AJ):List Int:=(iQ a b).2
def CS(d:AJ):Bool:=decide (d.2=[])&&decide (d.1=1)
def gR(n d:AJ):AJ:=(NJ n d,NS n d)
def Of(n d:AJ):Ab:=if CS d=true then(n,d)else(iQ n<|gR n d,iQ d<|gR n d)
def Sc(n d:AJ):Ab:=if vI d<0 then Of (Dd n) (Dd d)else Of n d
def fWh(n:AJ):Ab:=(n,(1,Bo 1))
def BI(a b:Ab):Ab:=if CS a.2=true/\CS b.2=true then fWh (Ex a.1 b.1)else Sc (Ex (Fp a.1 b.2)<|Fp b.1 a.2)<|Fp a.2 b.2
def Fq(a b:Ab):Ab:=Sc (Fp a.1 b.1)<|Fp a.2 b.2
def AcY(a:Ab):Ab:=(Dd a.1,a.2)
def E9(a b:Ab):Ab:=BI a<|AcY b
def VQ(a:Ab):Ab:=Sc a.2 a.1
def Jb(a b:Ab):Ab:=Fq a<|VQ b
def nS(f:Ab):Int:=f.1.1
def nW(f:Ab):List Int:=f.1.2
def dS(f:Ab):Int:=f.2.1
def dW(f:Ab):List Int:=f.2.2
def jV(n d:AJ):Int:=nS<|Sc n d
def sB(n d:AJ):List Int:=nW<|Sc n d
def mP(n d:AJ):Int:=dS<|Sc n d
def rF(n d:AJ):List Int:=dW<|Sc n d
def Kh(a b:Ab):Int:=nS<|BI a b
def Kt(a b:Ab):List Int:=nW<|BI a b
def Kd(a b:Ab):Int:=dS<|BI a b
def Kq(a b:Ab):List Int:=dW<|BI a b
def Agp(a b:Ab):Int:=nS<|E9 a b
def Agi(a b:Ab):List Int:=nW<|E9 a b
def Afg(a b:Ab):Int:=dS<|E9 a b
def Aff(a b:Ab):List Int:=dW<|E9 a b
def Abn(a b:Ab):Int:=nS<|Fq a b
def AbG(a b:Ab):List Int:=nW<|Fq a b
def Ab6(a b:Ab):Int:=dS<|Fq a b
def AbT(a b:Ab):List Int:=dW<|Fq a b
def AfH(a:Ab):Int:=nS<|VQ a
def Ago(a:Ab):List Int:=nW<|VQ a
def AfO(a:Ab):Int:=dS<|VQ a
def AfR(a:Ab):List Int:=dW<|VQ a
def pU(a b:Ab):Int:=nS<|Jb a b
def tY(a b:Ab):List Int:=nW<|Jb a b
def rD(a b:Ab):Int:=dS<|Jb a b
def mJ(a b:Ab):List Int:=dW<|Jb a b
def flS(a:Ab):Int:=Zs a.1 a.2
def flW(a:Ab):List Int:=ZS a.1 a.2
def B4(a:Ab):Bool:=B8 a&&decide (0<vI a.2)
def I3(n d:AJ):Bool:=A9 n&&A9 d&&decide (vI d≠0)
end Go.Sp
namespace Go.Pe
open Sp
open Go.Det
abbrev Ai:Sh:=.pair A0 A0
def Jd:Am:=⟨[.str],fun s=>Dc s,[Ai],fun s=>((Ro s,Rz s),(Pz s,Pk s)),false⟩
def Qt:Am:=⟨[Ai,Ai],fun i=>Sp.B8 (i.1:Ab)&&Sp.B8 (i.2:Ab),[i64],fun i=>CW (i.1:Ab) (i.2:Ab),false⟩
def cIQ:Am:=⟨[A0,A0],fun i=>I3 i.1 i.2,[A0],fun i=>(Sp.iQS i.1 i.2,Sp.iQW i.1 i.2),false⟩
def bL:Am:=⟨[A0,A0],fun i=>I3 i.1 i.2,[Ai],fun i=>((jV i.1 i.2,sB i.1 i.2),(mP i.1 i.2,rF i.1 i.2)),false⟩
def QC:Am:=⟨[Ai],fun _=>true,[.bool],fun a=>CS (a:Ab).2,false⟩
def oL:Am:=⟨[A0],fun _=>true,[Ai],fun n=>((n:AJ),((1:Int),Bo 1)),false⟩
def cF:Am:=⟨[i64],fun _=>true,[Ai],fun n=>(((n:Int),Bo n),((1:Int),Bo 1)),false⟩
def AbE:Am:=⟨[Ai],fun a=>z6 (a:Ab).1,[Ai],fun a=>((EB (a:Ab).1,EC (a:Ab).1),((a:Ab).2.1,(a:Ab).2.2)),false⟩
def Hz:Am:=⟨[Ai,Ai],fun i=>Sp.B4 (i.1:Ab)&&Sp.B4 (i.2:Ab),[Ai],fun i=>((Kh i.1 i.2,Kt i.1 i.2),(Kd i.1 i.2,Kq i.1 i.2)),false⟩
def cO:Am:=⟨[Ai,Ai],fun i=>Sp.B4 (i.1:Ab)&&Sp.B4 (i.2:Ab),[Ai],fun i=>((Agp i.1 i.2,Agi i.1 i.2),(Afg i.1 i.2,Aff i.1 i.2)),false⟩
def Su:Am:=⟨[Ai,Ai],fun i=>Sp.B4 (i.1:Ab)&&Sp.B4 (i.2:Ab),[Ai],fun i=>((Abn i.1 i.2,AbG i.1 i.2),(Ab6 i.1 i.2,AbT i.1 i.2)),false⟩
def Aci:Am:=⟨[Ai],fun a=>Sp.B4 (a:Ab)&&decide (ze (a:Ab).1≠0),[Ai],fun a=>((AfH a,Ago a),(AfO a,AfR a)),false⟩
def RO:Am:=⟨[Ai,Ai],fun i=>Sp.B4 (i.1:Ab)&&Sp.B4 (i.2:Ab)&&decide (ze (i.2:Ab).1≠0),[Ai],fun i=>((pU i.1 i.2,tY i.1 i.2),(rD i.1 i.2,mJ i.1 i.2)),false⟩
def qF:Am:=⟨[Ai],fun a=>Sp.B4 (a:Ab),[A0],fun a=>(Sp.flS a,Sp.flW a),false⟩
def uU[Srt]:AO:=U9 [(155,[3])] [] [(155,[(3,[2,3,4])])] [(133,K1),(130,Wr),(169,Hv),(140,ZE),(77,Rr),(126,Q7),(127,SK),(76,sK),(123,mQ),(124,Qm)]
def XA1[Srt]:AO:=U9 [(121,[3,6])] [] [(121,[(3,[2,3,4]),(6,[2,3,4,5])])] [(133,K1),(130,Wr),(140,ZE),(155,cIQ)]
def XA2[Srt]:AO:=U9 [(67,[3])] [] [(67,[(3,[2,3,4])])] [(125,QC),(119,oL),(126,Q7),(127,SK),(121,bL)]
def XA3[Srt]:AO:=X7 [(120,AbE),(67,Hz),(74,Su),(128,Aci)]
end Go.Pe
namespace Go.Sp
def Mv(a:Rd):Rd:=if BF a=true then AV a else[49]
def Eb(a:Rd)(n:Int):Bool:=decide ((a.length:Int)<=2*n+2)&&decide (Av a=0)&&decide (((A2<|AF a).length:Int)<=n)&&decide (((Mv a).length:Int)<=n)
end Go.Sp
namespace Go.Pe
open Go.Det
def cP:Am:=⟨[.str,i64],fun i=>decide (0<=(i.2:Int))&&decide ((i.2:Int)<=1000),[.bool],fun i=>Sp.Eb i.1 i.2,false⟩
def Zk:Am:=⟨[.str],fun s=>decide (s.length<=1000000),[.str],fun s=>Sp.A2 s,false⟩
def kR:Am:=⟨[.str],fun s=>decide (s.length<=1000000),[.str],fun s=>Sp.AF s,false⟩
def Z2:Am:=⟨[.str],fun s=>decide (s.length<=1000000),[.str],fun s=>Sp.Mv s,false⟩
def XM5[Srt]:AO:=X7 [(100,P0)]
def XM3[Srt]:AO:=X7 [(40,FL),(41,Zk),(42,kR),(43,Z2)]
end Go.Pe
namespace Go.Sp
def En(a:Rd):Bool:=decide (a.length<=20)&&decide ((AF<|A2 a).length<=9)&&decide ((AV<|A2 a).length<=9)
def I6(a:Rd):Int:=if preB a=true then -AG 0 (AF<|A2 a)else AG 0<|AF<|A2 a
def UY(a:Rd):Int:=if BF (A2 a)=true then AG 0 (AV<|A2 a)else 1
def Ha(a:Rd):Int:=if a=[48]then 0 else if a.getD 0 0=45 then -1 else 1
def Md(a:Rd):Rd:=if a=[48]then a else if a.getD 0 0=45 then a.drop 1 else 45::a
def Ig:Nat->Nat->Nat->Rd->Rd
 |0,_,_,a=>a
 |f+1,n,l,a=>if n=0/\l<=a.length then a else Ig f (n/10) l (UInt8.ofNat (48+n % 10)::a)
def I2(n l:Int):Rd:=Ig 64 n.toNat l.toNat []
def Ae5(a b:Int):Bool:=decide (0<=a)&&decide (a<9223372036854775808)&&decide (0<=b)&&decide (b<9223372036854775808)
end Go.Sp
namespace Go.Pe
open Go.Det
def Ab2:Am:=⟨[i64,i64],fun i=>Sp.Ae5 i.1 i.2,[i64],fun i=>Sp.gI i.1 i.2,false⟩
def S2:Am:=⟨[.str],fun s=>decide (s.length<=1000000),[i64],fun s=>Sp.Ha s,false⟩
def rI:Am:=⟨[.str],fun s=>decide (s.length<=1000000),[.str],fun s=>Sp.Md s,false⟩
def PT:Am:=⟨[i64,i64],fun i=>decide (0<=(i.1:Int))&&decide ((i.1:Int)<9223372036854775808)&&decide (0<=(i.2:Int))&&decide ((i.2:Int)<=20),[.str],fun i=>Sp.I2 i.1 i.2,false⟩
def OO[Srt]:AO:=U9 [(46,[5,7,11,13])] [] [(46,[(5,[5,6]),(7,[5,6]),(11,[5,6,7,8,9]),(13,[6,8,9])])] [(104,U4),(100,P0)]
def XO2[Srt]:AO:=X7 [(44,S2)]
end Go.Pe
namespace Go.Sp
open Go.Lib
theorem Gf(a d:Nat)(b:0<a)(c:d<10):decDigits (10*a+d)=decDigits a++[UInt8.ofNat<|48+d]:=by
 rw[decDigits,dif_neg ae,show(10*a+d)/10=a from by omega,show(10*a+d) % 10=d from by omega]
theorem kP(a d:Nat)(b:0<a)(c:d<10):nDigits (10*a+d)=nDigits a+1:=by
 rw[nDigits_big ae,show(10*a+d)/10=a from by omega]
def Gv(k b:Nat):Rd:=List.replicate (k-nDigits b) 48++decDigits b
theorem SJ(k b d:Nat)(c:1<=k)(a:d<10):Gv (k+1) (10*b+d)=Gv k b++[UInt8.ofNat<|48+d]:=by
 unfold Gv;rcases Nat.eq_zero_or_pos b with rfl|e
 ·rw[Nat.mul_zero,Nat.zero_add,nDigits_small a,decDigits_one a,nDigits_small ae,decDigits_one ae];obtain⟨j,rfl⟩:∃j,k=j+1:=⟨k-1,by omega⟩;simp_all [List.replicate_succ']
 grind [kP,Gf]
theorem SX:∀(k a b:Nat),1<=k->0<a->b<10^k->decDigits (a*10^k+b)=decDigits a++Gv k b
 |0,_,_,h,_,_=>by omega
 |1,a,b,_,c,d=>by
  rw[Nat.mul_comm,Gf a b c d];simp_all [Gv,nDigits_small,decDigits_one]
 |k+2,a,b,_,c,d=>by
  have f:b=10*(b/10)+b % 10:=ae
  have j:b/10<10^(k+1):=by
   grind
  have i:a*10^(k+2)+b=10*(a*10^(k+1)+b/10)+b % 10:=by
   grind
  have hp:0<a*10^(k+1):=Nat.mul_pos c ae;have e:=SX (k+1) a (b/10) ae c j;have g:=SJ (k+1) (b/10) (b % 10) ae ae;rw[i,Gf _ _ ae ae,e,List.append_assoc, <-g, <-f]
def Cq:Nat->Nat->List Rd
 |0,_=>[]
 |f+1,v=>if v<10^18 then[decDigits v]else Gv 18 (v % 10^18)::Cq f (v/10^18)
theorem IZ:∀(f v:Nat),v<f->(Cq f v).reverse.flatten=decDigits v
 |0,_,h=>by omega
 |f+1,v,h=>by
  unfold Cq;split
  ·simp
  ·next c=>
   have a:v/10^18<f:=ae
   have d:=IZ f (v/10^18) a;have b:=SX 18 (v/10^18) (v % 10^18) ae ae ae;grind
end Go.Sp
namespace Go.Pe
open Sp
open Go.Det
section
open List Int Prod
namespace T66
def T[Srt](s:Rd):Tr:=tree uU false 9 66<|Ag ([zi]) s
theorem Ak[Srt](s:Rd):T s=.ck (AcJ s [(47:UInt8)]) (.ite (!BF s) (.ck (Em<|AF s)<|.ck true<|.leaf (zy [.dat i64<|Di<|AF s,.dat wU<|Dk<|AF s,.dat i64 (1:Int),.dat wU<|Bo 1]) [])<|.ck (Em<|AF s)<|.ck (Em<|Sp.AV s)<|.leaf (zy [.dat i64<|Di<|AF s,.dat wU<|Dk<|AF s,.dat i64<|Di<|Sp.AV s,.dat wU<|Dk<|Sp.AV s]) []):=by kernel_rfl
end T66
namespace T155
def T[Srt](a b:AJ):Tr:=tree uU false 9 155<|Ag ([A0,A0]) (a,b)
def L1[Srt](c o1:Int)(a:List Int)(d:Int)(b:List Int):Tr:=re ((T (0,[]) (0,[])).L.L.L.L)<|Ay 21 [(2,.ptr 0 0),(3,.ptr 1 0),(4,.ptr 2 0)] [(2,.box [.dat i64 c,.nil]),(1,.box [.dat i64 o1,.dat wU a]),(0,.box [.dat i64 d,.dat wU b])] 3
theorem Ak[Srt](a b:AJ):T a b=.ck (z6 b) (.ite (decide (It b<0)) (.ck (z6 a)<|.ck (z6 b)<|L1 0 (EB b) (EC b) (EB a)<|EC a)<|L1 0 (fst b) (snd b) (fst a)<|snd a):=by kernel_rfl
theorem Al[Srt](d o1:Int)(a:List Int)(c:Int)(b:List Int):stepT uU (L1 d o1 a c b)=.ck (A9 (c,b)&&A9 (o1,a)&&decide (0<ze (o1,a))) (.leaf (zy [.dat i64<|Zs (c,b) (o1,a),.dat wU<|ZS (c,b) (o1,a)]) []):=by kernel_rfl
end T155
namespace T121
def T[Srt](n d:AJ):Tr:=tree XA1 false 9 121<|Ag ([A0,A0]) (n,d)
def L1[Srt](d b o1:Int)(a:List Int)(e:Int)(c:List Int):Tr:=re ((T (0,[]) (0,[])).L.L.L.L)<|Ay 34 [(2,.ptr 0 0),(3,.ptr 1 0),(4,.ptr 2 0)] [(2,.box [.dat i64 d,.nil,.dat i64 b,.nil]),(1,.box [.dat i64 o1,.dat wU a]),(0,.box [.dat i64 e,.dat wU c])] 3
theorem Ak[Srt](n d:AJ):T n d=.ck (z6 d) (.ite (decide (It d<0)) (.ck (z6 n)<|.ck (z6 d)<|L1 0 0 (EB d) (EC d) (EB n)<|EC n)<|L1 0 0 (fst d) (snd d) (fst n)<|snd n):=by kernel_rfl
def L2[Srt](e:Int)(a:List Int)(f b o1:Int)(c:List Int)(g:Int)(d:List Int):Tr:=re ((stepT XA1<|L1 0 0 0 [] 0 []).L.R.L)<|Ay 34 [(2,.ptr 0 0),(3,.ptr 1 0),(4,.ptr 2 0),(5,.ptr 3 0)] [(3,.box [.dat i64 e,.dat wU a]),(2,.box [.dat i64 f,.nil,.dat i64 b,.nil]),(1,.box [.dat i64 o1,.dat wU c]),(0,.box [.dat i64 g,.dat wU d])] 4
theorem Al[Srt](e c o1:Int)(a:List Int)(d:Int)(b:List Int):stepT XA1 (L1 e c o1 a d b)=let f:Tr:=.ck (A9 (d,b)&&A9 (o1,a))<|L2 (NJ (d,b) (o1,a)) (NS (d,b) (o1,a)) e c o1 a d b;.ite (!decide (0<length a)) (.ite (o1==1) (.leaf (zy [.dat i64 d,.dat wU b,.dat i64 o1,.dat wU a]) []) f) f:=by kernel_rfl
theorem AL[Srt](d:Int)(a:List Int)(g e o1:Int)(b:List Int)(f:Int)(c:List Int):stepT XA1 (L2 d a g e o1 b f c)=.ck (I3 (f,c) (d,a)) (.ck (I3 (o1,b) (d,a))<|.leaf (zy [.dat i64<|Sp.iQS (f,c) (d,a),.dat wU<|Sp.iQW (f,c) (d,a),.dat i64<|Sp.iQS (o1,b) (d,a),.dat wU<|Sp.iQW (o1,b) (d,a)]) []):=by kernel_rfl
end T121
namespace T125
def T[Srt](a:Ab):Tr:=tree uU false 9 125<|Ag ([Ai]) a
theorem Ak[Srt](a:Ab):T a=.ite (!decide (0<length (snd<|snd a))) (.leaf (.dat zl<|fst (snd a)==1) []) (.leaf (.bl false) []):=by kernel_rfl
end T125
namespace T119
def T[Srt](n:AJ):Tr:=tree uU false 9 119<|Ag ([A0]) n
theorem Ak[Srt](n:AJ):T n=.ck true (.leaf (zy [.dat i64<|fst n,.dat wU<|snd n,.dat i64 (1:Int),.dat wU<|Bo 1]) []):=by kernel_rfl
end T119
namespace T120
def T[Srt](a:Ab):Tr:=tree uU false 9 120<|Ag ([Ai]) a
theorem Ak[Srt](a:Ab):T a=.ck (z6<|fst a) (.leaf (zy [.dat i64<|EB<|fst a,.dat wU<|EC<|fst a,.dat i64<|fst<|snd a,.dat wU<|snd<|snd a]) []):=by kernel_rfl
end T120
namespace T67
def T[Srt](a b:Ab):Tr:=tree XA2 false 9 67<|Ag ([Ai,Ai]) (a,b)
def L1[Srt](i a o1:Int)(f:List Int)(e:Int)(b:List Int)(h:Int)(g:List Int)(c:Int)(d:List Int):Tr:=re ((T ((0,[]),(0,[])) ((0,[]),(0,[]))).L.L.L.R)<|Ay 34 [(2,.ptr 0 0),(3,.ptr 1 0),(4,.ptr 2 0)] [(2,.box [.dat i64 i,.nil,.dat i64 a,.nil]),(1,.box [.dat i64 o1,.dat wU f,.dat i64 e,.dat wU b]),(0,.box [.dat i64 h,.dat wU g,.dat i64 c,.dat wU d])] 3
theorem Ak[Srt](a b:Ab):T a b=let c:=L1 0 0 (fst<|fst b) (snd<|fst b) (fst<|snd b) (snd<|snd b) (fst<|fst a) (snd<|fst a) (fst<|snd a)<|snd<|snd a;.ck true (.ite (CS<|snd a) (.ck true<|.ite (CS<|snd b) (.ck (A9 (fst a)&&A9 (fst b))<|.ck true<|.leaf (zy [.dat i64<|Kn (fst a)<|fst b,.dat wU<|Kf (fst a)<|fst b,.dat i64 (1:Int),.dat wU<|Bo 1]) []) c) c):=by kernel_rfl
theorem Al[Srt](l g o1:Int)(e:List Int)(d:Int)(a:List Int)(i:Int)(f:List Int)(b:Int)(c:List Int):stepT XA2 (L1 l g o1 e d a i f b c)=let b':=(E7 (b,c) (d,a),E2 (b,c) (d,a));let k:=(E7 (i,f) (d,a),E2 (i,f) (d,a));let j:=(E7 (o1,e) (b,c),E2 (o1,e) (b,c));let h:=(Kn k j,Kf k j);.ck (A9 (i,f)&&A9 (d,a)) (.ck (A9 (o1,e)&&A9 (b,c))<|.ck (A9 k&&A9 j)<|.ck (A9 (b,c)&&A9 (d,a))<|.ck (I3 h b')<|.leaf (zy [.dat i64<|jV h b',.dat wU<|sB h b',.dat i64<|mP h b',.dat wU<|rF h b']) []):=by kernel_rfl
end T67
namespace T74
def T[Srt](a b:Ab):Tr:=tree XA2 false 9 74<|Ag ([Ai,Ai]) (a,b)
theorem Ak[Srt](a b:Ab):T a b=let c:=(E7 (fst a)<|fst b,E2 (fst a)<|fst b);let b':=(E7 (snd a)<|snd b,E2 (snd a)<|snd b);.ck (A9 (fst a)&&A9 (fst b)) (.ck (A9 (snd a)&&A9 (snd b))<|.ck (I3 c b')<|.leaf (zy [.dat i64<|jV c b',.dat wU<|sB c b',.dat i64<|mP c b',.dat wU<|rF c b']) []):=by kernel_rfl
end T74
namespace T128
def T[Srt](a:Ab):Tr:=tree XA2 false 9 128<|Ag ([Ai]) a
theorem Ak[Srt](a:Ab):T a=.ck (I3 (snd a)<|fst a) (.leaf (zy [.dat i64<|jV (snd a)<|fst a,.dat wU<|sB (snd a)<|fst a,.dat i64<|mP (snd a)<|fst a,.dat wU<|rF (snd a)<|fst a]) []):=by kernel_rfl
end T128
namespace T61
def T[Srt](a b:Ab):Tr:=tree XA3 false 9 61<|Ag ([Ai,Ai]) (a,b)
theorem Ak[Srt](a b:Ab):T a b=let c:=((EB<|fst b,EC<|fst b),fst<|snd b,snd<|snd b);let b':=((fst a),fst<|snd a,snd<|snd a);.ck (z6<|fst b) (.ck (Sp.B4 b'&&Sp.B4 c)<|.leaf (zy [.dat i64<|Kh b' c,.dat wU<|Kt b' c,.dat i64<|Kd b' c,.dat wU<|Kq b' c]) []):=by kernel_rfl
end T61
namespace T68
def T[Srt](a b:Ab):Tr:=tree XA3 false 9 68<|Ag ([Ai,Ai]) (a,b)
theorem Ak[Srt](a b:Ab):T a b=let b':=((fst a),fst<|snd a,snd<|snd a);let d:=((fst b),fst<|snd b,snd<|snd b);let c:=VQ d;.ck (Sp.B4 d&&decide (ze (fst b)≠0)) (.ck (Sp.B4 b'&&Sp.B4 c)<|.leaf (zy [.dat i64<|Abn b' c,.dat wU<|AbG b' c,.dat i64<|Ab6 b' c,.dat wU<|AbT b' c]) []):=by kernel_rfl
end T68
namespace T81
def T[Srt](a b:Ab):Tr:=tree uU false 9 81<|Ag ([Ai,Ai]) (a,b)
theorem Ak[Srt](a b:Ab):T a b=let c:=(E7 (fst a)<|snd b,E2 (fst a)<|snd b);let b':=(E7 (fst b)<|snd a,E2 (fst b)<|snd a);.ck (A9 (fst a)&&A9 (snd b)) (.ck (A9 (fst b)&&A9 (snd a))<|.ck (A9 c&&A9 b')<|.leaf (.dat i64<|dV c b') []):=by kernel_rfl
end T81
namespace T129
def T[Srt](a:Ab):Tr:=tree uU false 9 129<|Ag ([Ai]) a
theorem Ak[Srt](a:Ab):T a=.ck (A9 (fst a)&&A9 (snd a)&&decide (0<ze (snd a))) (.leaf (zy [.dat i64<|Zs (fst a)<|snd a,.dat wU<|ZS (fst a)<|snd a]) []):=by kernel_rfl
end T129
namespace T100
def T[Srt](s:Rd):Tr:=tree Oz false 9 100<|Ag ([zi]) s
def L1[Srt](v0:Rd)(v3:Int):Tr:=re ((T []))<|Ay 17 [(0,.dat zi v0),(3,.dat i64 v3)] [] 0
theorem Ak[Srt](s:Rd):T s=L1 s 0:=by kernel_rfl
theorem Al[Srt](v0:Rd)(v3:Int):stepT Oz (L1 v0 v3)=let a:=(length v0:Int);.di (v3<a) (.ck (decide (0<=v3)&&decide (v3<a))<|.ite ((↑(zf<|getD v0 (toNat v3) (0:UInt8)):Int)==47) (.leaf (.dat i64 v3) [])<|L1 v0<|zc .i64<|v3+1) (.leaf (.dat i64 a) []):=by kernel_rfl
end T100
namespace T101
def T[Srt](s:Rd):Tr:=tree Oz false 9 101<|Ag ([zi]) s
def L1[Srt](s v0:Rd)(v3:Int):Tr:=re ((T s).R.L.L.R)<|Ay 20 [(0,.dat zi v0),(3,.dat i64 v3)] [] 0
def L2[Srt](s v0:Rd)(v3:Int):Tr:=re ((T s).R.R)<|Ay 20 [(0,.dat zi v0),(3,.dat i64 v3)] [] 0
theorem Ak[Srt](s:Rd):T s=let a:=(length s:Int);.ite (a==0) (.leaf (.bl false) []) (.di (a>1) (.cd (0<a)<|.ite ((↑(zf<|getD s 0 (0:UInt8)):Int)==48) (.leaf (.bl false) [])<|L1 s s 0)<|L2 s s 0):=by kernel_rfl
theorem Al[Srt](s v0:Rd)(v3:Int):stepT Oz (L1 s v0 v3)=let a:=decide (v3<(length v0:Int));let b':=(↑(zf<|getD v0 (toNat v3) (0:UInt8)):Int);.ite a (.ck (decide (0<=v3)&&a)<|.di (b'<48) (.leaf (.bl false) [])<|.ck (decide (0<=v3)&&a)<|.di (b'>57) (.leaf (.bl false) [])<|L1 s v0<|zc .i64<|v3+1) (.leaf (.bl true) []):=by kernel_rfl
theorem AL[Srt](s v0:Rd)(v3:Int):stepT Oz (L2 s v0 v3)=let a:=decide (v3<(length v0:Int));let b':=(↑(zf<|getD v0 (toNat v3) (0:UInt8)):Int);.ite a (.ck (decide (0<=v3)&&a)<|.di (b'<48) (.leaf (.bl false) [])<|.ck (decide (0<=v3)&&a)<|.di (b'>57) (.leaf (.bl false) [])<|L2 s v0<|zc .i64<|v3+1) (.leaf (.bl true) []):=by kernel_rfl
end T101
namespace T99
def T[Srt](n:Int):Tr:=tree XK2 false 9 99<|Ag ([zn IntKind.i64]) n
def L1[Srt](v0:Int)(v4:Bool):Tr:=re ((T 0))<|Ay 25 [(0,.dat i64 v0),(2,.ptr 0 0),(3,.nil),(4,.dat zl v4)] [(0,.box [.bl false,.nil])] 1
theorem Ak[Srt](n:Int):T n=L1 n (decide (n<0)):=by kernel_rfl
def L2[Srt](v0:Int)(a:Nat)(v4:Bool)(o1:List Int):Tr:=re ((stepT XK2<|L1 0 false).L.L.L.L.L)<|Ay 25 [(0,.dat i64 v0),(2,.ptr 0 0),(3,.sl 1 1 0 a none),(4,.dat zl v4)] [(1,.arr false 3 i64 o1),(0,.box [.bl false,.nil])] 2
theorem Al[Srt](v0:Int)(v4:Bool):stepT XK2 (L1 v0 v4)=let a:=aa 8;let b':=zc .i64<|ye v0 1000000000;.ite (v0 !=0) (.ck true<|.di (yr v0 1000000000<0) (.ck a<|.ck true<|L2 b' 1 v4<|[zc .i64<|0-yr v0 1000000000])<|.ck a<|.ck true<|L2 b' 1 v4<|[yr v0 1000000000]) (.cd (0<=20000)<|.leaf (zy [.dat zl<|Sp.CY v4 [],.dat (yg i64)<|Sp.AB []]) []):=by kernel_rfl
theorem AL[Srt](v0:Int)(a:Nat)(v4:Bool)(o1:List Int):stepT XK2 (L2 v0 a v4 o1)=let b:=ac a (length o1) 8;let b':=zc .i64<|ye v0 1000000000;.ite (v0 !=0) (.ck true<|.di (yr v0 1000000000<0) (.ck b<|.ck true<|L2 b' (Nat.add a 1) v4<|o1++[zc .i64<|0-yr v0 1000000000])<|.ck b<|.ck true<|L2 b' (Nat.add a 1) v4<|o1++[yr v0 1000000000]) (.ck (decide (0+a<=length o1)&&true&&decide (length (take a o1)<=20000))<|.leaf (zy [.dat zl<|Sp.CY v4<|take a o1,.dat (yg i64)<|Sp.AB<|take a o1]) []):=by kernel_rfl
end T99
namespace T48
def T[Srt](a:Rd):Tr:=tree XK3 false 9 48<|Ag ([zi]) a
theorem Ak[Srt](a:Rd):T a=let b':=zc .i64<|A4 a+1;let b:=take (toNat<|A4 a) a;let c:=take (yd (length a)<|toNat b')<|drop (toNat b') a;.cd (length a<=1000000) (.ite (A4 a==(length a:Int)) (.ck (Em a)<|.ck true<|.leaf (.tup [zy [.dat zl<|HQ a,.dat (yg i64)<|H5 a],zy [.dat zl false,.dat (yg i64)<|Sp.rW 1]]) [])<|.ck (decide (0<=A4 a)&&decide (0<=toNat (A4 a))&&decide (toNat (A4 a)<=length a))<|.ck (decide (0<=zc .i64 (A4 a+1))&&true&&decide (toNat b'<=length a)&&decide (length a<=length a))<|.ck (Em b)<|.ck (Em c)<|.leaf (.tup [zy [.dat zl<|HQ b,.dat (yg i64)<|H5 b],zy [.dat zl<|HQ c,.dat (yg i64)<|H5 c]]) []):=by kernel_rfl
end T48
namespace T40
def T[Srt](a:Rd):Tr:=tree W1 false 9 40<|Ag ([zi]) a
def L1[Srt](v0 v3:Rd):Tr:=re ((T []).L.L.L.L)<|Ay 96 [(0,.dat zi v0),(3,.dat zi v3)] [] 0
theorem Ak[Srt](a:Rd):T a=.di ((length a:Int)>0) (.cd (0<(length a:Int))<|.ite ((↑(zf<|getD a 0 (0:UInt8)):Int)==45) (.ck (decide (1<=length a)&&decide (length a<=length a))<|L1 a<|take (yd (length a) 1)<|drop 1 a)<|L1 a a) (L1 a a):=by kernel_rfl
def L2[Srt](v3:Rd)(v4:Int):Tr:=re ((stepT W1<|L1 [] []).L.L.L.R.L.L.L.R)<|Ay 96 [(3,.dat zi v3),(4,.dat i64 v4)] [] 0
theorem Al[Srt](v0 v3:Rd):stepT W1 (L1 v0 v3)=let b':=A4 v3;let a:Tr:=.leaf (.dat i64 (1:Int)) [];let b:=decide (0<=A4 v3)&&decide (0<=toNat b')&&decide (toNat b'<=length v3);.cd (length v3<=9223372036854775807) (.ck b<|.cd (length (take (toNat b') v3)<=9223372036854775807)<|.ite (!AY (take (toNat b') v3)) a<|.cd (0<(length v0:Int))<|.ite ((↑(zf<|getD v0 0 (0:UInt8)):Int)==45) (.ck b<|.ite (take (toNat b') v3==[(48:UInt8)]) a<|L2 v3 b')<|L2 v3 b'):=by kernel_rfl
def L3[Srt](v3:Rd)(v4:Int):Tr:=re ((stepT W1<|L2 [] 0).L.L.L.R.L.R.L.R)<|Ay 96 [(3,.dat zi v3),(4,.dat i64 v4)] [] 0
theorem AL[Srt](v3:Rd)(v4:Int):stepT W1 (L2 v3 v4)=let b:Tr:=.leaf (.dat i64 (1:Int)) [];let d:=zc .i64<|v4+1;let c:=decide (0<=zc .i64 (v4+1))&&true&&decide (toNat d<=length v3)&&decide (length v3<=length v3);let b':=toNat d;let a:=yd (length v3) b';.di (v4<(length v3:Int)) (.ck c<|.cd (length (take a<|drop b' v3)<=9223372036854775807)<|.ite (!AY (take a<|drop b' v3)) b<|.ck c<|.ite (take a (drop b' v3)==[(48:UInt8)]) b<|.ck c<|.ite (take a (drop b' v3)==[(49:UInt8)]) b<|L3 v3 v4) (L3 v3 v4):=by kernel_rfl
def L4[Srt](v3:Rd)(v4:Int):Tr:=re ((stepT W1<|L3 [] 0).R.R)<|Ay 96 [(3,.dat zi v3),(4,.dat i64 v4)] [] 0
theorem BT[Srt](v3:Rd)(v4:Int):stepT W1 (L3 v3 v4)=let a:Tr:=.leaf (.dat i64 (4:Int)) [];.di (v4>600) a (.di (zc .i64 (zc .i64 ((length v3:Int)-v4)-1)>600) a<|L4 v3 v4):=by kernel_rfl
def L5[Srt](o1:Bool)(a:List Int)(c:Bool)(b:List Int):Tr:=re ((stepT W1<|L4 [] 0).L.L)<|Ay 96 [(5,.ptr 0 0),(6,.ptr 1 0)] [(1,.box [.dat zl o1,.dat (yg i64) a]),(0,.box [.dat zl c,.dat (yg i64) b])] 2
theorem BU[Srt](v3:Rd)(v4:Int):stepT W1 (L4 v3 v4)=.di (v4<(length v3:Int)) (.ck (Dc v3)<|L5 (BC v3) (Br v3) (BV v3)<|BM v3) (.leaf (.dat i64 (0:Int)) []):=by kernel_rfl
def L6[Srt](a:List Int):Tr:=re ((stepT W1<|L5 false [] false []).L)<|Ay 96 [(7,.dat (yg i64) a)] [] 0
theorem Fi[Srt](o1:Bool)(a:List Int)(c:Bool)(b:List Int):stepT W1 (L5 o1 a c b)=.ck (A8 b&&A8 a&&decide (length b<=9000)&&decide (length a<=9000)) (L6<|Cs b a):=by kernel_rfl
theorem GG[Srt](a:List Int):stepT W1 (L6 a)=let b:Tr:=.leaf (.dat i64 (1:Int)) [];.ite ((length a:Int) !=1) b (.cd (0<(length a:Int))<|.ite (getD a 0 0 !=1) b<|.leaf (.dat i64 (0:Int)) []):=by kernel_rfl
end T40
namespace T138
def T[Srt](l:List Int):Tr:=tree Oz false 9 138<|Ag ([yg i64]) l
def L1[Srt](v5:List Int)(a b:Int):Tr:=re ((T []))<|Ay 15 [(5,.dat (yg i64) v5),(6,.dat i64 a),(7,.dat i64 b)] [] 0
theorem Ak[Srt](l:List Int):T l=L1 l ((length l:Int)) 0:=by kernel_rfl
theorem Al[Srt](v5:List Int)(b a:Int):stepT Oz (L1 v5 b a)=.di (a<b) (.ck (decide (0<=a)&&decide (a<(length v5:Int)))<|.ite (getD v5 (toNat a) 0 !=0) (.leaf (.dat i64<|getD v5 (toNat a) 0) [])<|L1 v5 b<|zc .i64<|a+1) (.leaf (.dat i64 (0:Int)) []):=by kernel_rfl
end T138
namespace T139
def T[Srt](b:Bool)(e:Int):Tr:=tree Oz false 9 139<|Ag ([zl,zn IntKind.i64]) (b,e)
theorem Ak[Srt](b:Bool)(e:Int):T b e=.ite b (.leaf (.dat i64 e) []) (.leaf (.dat i64 (0:Int)) []):=by kernel_rfl
end T139
namespace T89
def T[Srt](a:Rd):Tr:=tree MD false 9 89<|Ag ([zi]) a
def L1[Srt](v5 a:Rd)(b:Bool):Tr:=re ((T []).L.L.L.L.L)<|Ay 76 [(5,.dat zi v5),(6,.dat zi a),(7,.dat zl b),(8,.bl true)] [] 0
def L2[Srt](v5 b:Rd)(c a:Bool):Tr:=re ((T []).L.L.L.L.R)<|Ay 76 [(5,.dat zi v5),(6,.dat zi b),(7,.dat zl c),(8,.dat zl a)] [] 0
def L3[Srt](v5 a:Rd)(b:Bool):Tr:=re ((T []).L.L.L.R)<|Ay 76 [(5,.dat zi v5),(6,.dat zi a),(7,.dat zl b),(8,.bl false)] [] 0
theorem Ak[Srt](a:Rd):T a=let b:=AF<|A2 a;let b':=Sp.AV<|A2 a;let c:=BF<|A2 a;.ck (Ta a [(45:UInt8)]) (.ck (AcJ (A2 a) [(47:UInt8)])<|.cd (length b<=1000000)<|.ite (AY b) (.ite (!Sp.preB a) (L1 b b' c)<|L2 b b' c<|!AF (A2 a)==[(48:UInt8)])<|L3 b b' c):=by kernel_rfl
def L4[Srt](v5 b:Rd)(c a:Bool):Tr:=re ((stepT MD<|L1 [] [] false).L.L.L.L)<|Ay 76 [(5,.dat zi v5),(6,.dat zi b),(7,.dat zl c),(8,.dat zl a)] [] 0
def L5[Srt](v5 a:Rd)(b:Bool):Tr:=re ((stepT MD<|L1 [] [] false).L.L.L.R)<|Ay 76 [(5,.dat zi v5),(6,.dat zi a),(7,.dat zl b),(8,.bl false)] [] 0
def L6[Srt](v5 a:Rd)(b:Bool):Tr:=re ((stepT MD<|L1 [] [] false).R)<|Ay 76 [(5,.dat zi v5),(6,.dat zi a),(7,.dat zl b),(8,.bl true)] [] 0
theorem Al[Srt](v5 a:Rd)(b:Bool):stepT MD (L1 v5 a b)=.ite b (.cd (length a<=1000000)<|.ite (AY a) (.ite (!a==[(48:UInt8)]) (L4 v5 a b<|!a==[(49:UInt8)])<|L5 v5 a b)<|L5 v5 a b) (L6 v5 a b):=by kernel_rfl
theorem AL[Srt](v5 a:Rd)(b c:Bool):stepT MD (L2 v5 a b c)=.ite b (.ite c (.cd (length a<=1000000)<|.ite (AY a) (.ite (!a==[(48:UInt8)]) (L4 v5 a b<|!a==[(49:UInt8)])<|L5 v5 a b)<|L5 v5 a b)<|L5 v5 a b) (L4 v5 a b c):=by kernel_rfl
theorem BT[Srt](v5 b:Rd)(a:Bool):stepT MD (L3 v5 b a)=.ite a (L5 v5 b a) (L5 v5 b a):=by kernel_rfl
def L7[Srt](v5 a:Rd)(b:Bool)(v9:Int):Tr:=re ((stepT MD<|L4 [] [] false false).L.L.L.L)<|Ay 76 [(5,.dat zi v5),(6,.dat zi a),(7,.dat zl b),(9,.dat i64 v9)] [] 0
theorem BU[Srt](v5 a:Rd)(c b:Bool):stepT MD (L4 v5 a c b)=let d:=decide (2<=2)&&true&&decide (2<=1000000);.ck true (.di ((length v5:Int)>600) (.ck true<|.ck d<|L7 v5 a c<|yz [Cd (!b) 1,Cd true 4])<|.ck true<|.ck d<|L7 v5 a c<|yz [Cd (!b) 1,Cd (decide ((length a:Int)>600)) 4]):=by kernel_rfl
theorem Fi[Srt](v5 a:Rd)(b:Bool):stepT MD (L5 v5 a b)=.ck true (.di ((length v5:Int)>600) (.ck true<|.ck true<|L7 v5 a b<|yz [Cd true 1,Cd true 4])<|.ck true<|.ck (decide (2<=2)&&true&&decide (2<=1000000))<|L7 v5 a b<|yz [Cd true 1,Cd (decide ((length a:Int)>600)) 4]):=by kernel_rfl
theorem GG[Srt](v5 a:Rd)(b:Bool):stepT MD (L6 v5 a b)=.ck true (.di ((length v5:Int)>600) (.ck true<|.ck true<|L7 v5 a b<|yz [Cd false 1,Cd true 4])<|.ck true<|.ck (decide (2<=2)&&true&&decide (2<=1000000))<|L7 v5 a b<|yz [Cd false 1,Cd (decide ((length a:Int)>600)) 4]):=by kernel_rfl
def L8[Srt](v5 a:Rd)(b:Bool):Tr:=re ((stepT MD<|L7 [] [] false 0).R)<|Ay 76 [(5,.dat zi v5),(6,.dat zi a),(7,.dat zl b)] [] 0
theorem GQ[Srt](v5 a:Rd)(b:Bool)(v9:Int):stepT MD (L7 v5 a b v9)=.ite (v9 !=0) (.leaf (.dat i64 v9) []) (L8 v5 a b):=by kernel_rfl
def L9[Srt](a:Bool):Tr:=re ((stepT MD<|L8 [] [] false).L.L.L.L.L.L)<|Ay 76 [(10,.dat zl a)] [] 0
def L10[Srt]:Tr:=re ((stepT MD<|L8 [] [] false).R)<|Ay 76 [(10,.bl false)] [] 0
theorem Kg[Srt](v5 a:Rd)(b:Bool):stepT MD (L8 v5 a b)=let c:=(NJ (Di v5,Dk v5) (Di a,Dk a),NS (Di v5,Dk v5) (Di a,Dk a));.ite b (.ck (Em v5)<|.ck (Em a)<|.ck (A9 (Di v5,Dk v5)&&A9 (Di a,Dk a))<|.ck true<|.ck (A9 c&&A9 (1,Bo 1))<|L9<|dV c (1,Bo 1) !=0) L10:=by kernel_rfl
theorem Ae9[Srt](a:Bool):stepT MD (L9 a)=.ck true (.leaf (.dat i64<|Cd a 1) []):=by kernel_rfl
theorem Adw[Srt]:stepT MD L10=.ck true (.leaf (.dat i64<|Cd false 1) []):=by kernel_rfl
end T89
namespace T124
def T[Srt](s:Rd):Tr:=tree Rn false 9 124<|Ag ([zi]) s
def L1[Srt](v0:Rd)(v3:Bool)(o1 a:Int):Tr:=re ((T []).L.L.L.L.L.L)<|Ay 41 [(0,.dat zi v0),(2,.ptr 0 0),(3,.dat zl v3),(4,.ptr 1 0)] [(1,.box [.dat i64 o1,.nil]),(0,.box [.dat i64 a,.nil])] 2
def L2[Srt](v0:Rd)(o1 a:Int):Tr:=re ((T []).R.L.L.L.L)<|Ay 41 [(0,.dat zi v0),(2,.ptr 0 0),(3,.bl false),(4,.ptr 1 0)] [(1,.box [.dat i64 o1,.nil]),(0,.box [.dat i64 a,.nil])] 2
theorem Ak[Srt](s:Rd):T s=let a:=take 1 s==[(45:UInt8)];let b':=decide ((length s:Int)>=1);let d:=decide (1<=length s)&&decide (length s<=length s);let b:=decide (1<=length s);let c:=take (yd (length s) 1)<|drop 1 s;.ite b' (.ck b<|.ite b' (.ck b<|.ite a (.ck d<|L1 c a 0 0)<|L1 s a 0 0)<|L1 s a 0 0) (.ite b' (.ck b<|.ite a (.ck d<|L2 c 0 0)<|L2 s 0 0)<|L2 s 0 0):=by kernel_rfl
def L3[Srt](v0:Rd)(v3:Bool)(o1 h:Int)(v5:Rd)(g:Int)(a:Nat)(b e:Int)(f:List Int)(d:Int)(c:Int):Tr:=re ((stepT Rn<|L1 v0 v3 o1 h).L.L.L.L.L.L.L.R)<|Ay 77 [(5,.dat zi v5),(6,.dat i64 g),(47,.sl 2 1 0 a none),(48,.dat i64 b),(49,.dat i64 e)] [(2,.arr false 5 (zn zz) f),(1,.box [.dat i64 d,.nil]),(0,.box [.dat i64 c,.nil])] 3
theorem Al[Srt](v0:Rd)(v3:Bool)(o1 c:Int):stepT Rn (L1 v0 v3 o1 c)=let d:=(length v0:Int);let a:=take (toNat<|Fb 18 d) v0;let b':=take (yd (length a) 1)<|drop 1 a;let f:=(↑(length a):Int);let g:=decide (1<=length a)&&decide (length a<=length a);let h:=(↑(zf<|getD a 0 (0:UInt8)):Int);let e:=decide (0<f);.di (d>0) (.ck (decide (0<=Fb 18 d)&&decide (0<=toNat (Fb 18 d))&&decide (toNat (Fb 18 d)<=length v0))<|.ite e (.di (f<19) (.ck e<|.ite (h==45) (.ck g<|.di ((↑(length b'):Int)<1) .fail<|L3 v0 v3 o1 c a 0 (length b') ((↑(length b'):Int)) 0 (yj (fun b=>(↑(zf b):Int)) b') o1 c)<|.ck e<|.ite (h==43) (.ck g<|.di ((↑(length b'):Int)<1) .fail<|L3 v0 v3 o1 c a 0 (length b') ((↑(length b'):Int)) 0 (yj (fun b=>(↑(zf b):Int)) b') o1 c)<|L3 v0 v3 o1 c a 0 (length a) f 0 (yj (fun b=>(↑(zf b):Int)) a) o1 c)<|.ck false .fail)<|.ck false .fail) (.ite v3 (.ck (z6 (o1,[]))<|.leaf (zy [.dat i64<|EB (o1,[]),.dat wU<|EC (o1,[])]) [])<|.leaf (zy [.dat i64 o1,.nil]) []):=by kernel_rfl
def L4[Srt](v0:Rd)(o1 h:Int)(v5:Rd)(g:Int)(a:Nat)(e d:Int)(f:List Int)(c:Int)(b:Int):Tr:=re ((stepT Rn<|L2 v0 o1 h).L.L.L.L.L.L.L.R)<|Ay 77 [(5,.dat zi v5),(6,.dat i64 g),(47,.sl 2 1 0 a none),(48,.dat i64 e),(49,.dat i64 d)] [(2,.arr false 5 (zn zz) f),(1,.box [.dat i64 c,.nil]),(0,.box [.dat i64 b,.nil])] 3
theorem AL[Srt](v0:Rd)(o1 c:Int):stepT Rn (L2 v0 o1 c)=let d:=(length v0:Int);let a:=take (toNat<|Fb 18 d) v0;let b':=take (yd (length a) 1)<|drop 1 a;let f:=(↑(length a):Int);let g:=decide (1<=length a)&&decide (length a<=length a);let h:=(↑(zf<|getD a 0 (0:UInt8)):Int);let e:=decide (0<f);.di (d>0) (.ck (decide (0<=Fb 18 d)&&decide (0<=toNat (Fb 18 d))&&decide (toNat (Fb 18 d)<=length v0))<|.ite e (.di (f<19) (.ck e<|.ite (h==45) (.ck g<|.di ((↑(length b'):Int)<1) .fail<|L4 v0 o1 c a 0 (length b') ((↑(length b'):Int)) 0 (yj (fun b=>(↑(zf b):Int)) b') o1 c)<|.ck e<|.ite (h==43) (.ck g<|.di ((↑(length b'):Int)<1) .fail<|L4 v0 o1 c a 0 (length b') ((↑(length b'):Int)) 0 (yj (fun b=>(↑(zf b):Int)) b') o1 c)<|L4 v0 o1 c a 0 (length a) f 0 (yj (fun b=>(↑(zf b):Int)) a) o1 c)<|.ck false .fail)<|.ck false .fail) (.leaf (zy [.dat i64 o1,.nil]) []):=by kernel_rfl
def L5[Srt](v0:Rd)(v3:Bool)(o1:Int)(a:List Int)(b:Int):Tr:=re ((stepT Rn<|L3 [] false 0 0 [] 0 0 0 0 [] 0 0).R.L.L.L.L.L.L.L.L)<|Ay 41 [(0,.dat zi v0),(2,.ptr 0 0),(3,.dat zl v3),(4,.ptr 1 0)] [(1,.box [.dat i64 o1,.dat wU a]),(0,.box [.dat i64 b,.nil])] 2
theorem BT[Srt](v0:Rd)(v3:Bool)(o1 o:Int)(v5:Rd)(d:Int)(b:Nat)(f a:Int)(h:List Int)(c:Int)(e:Int):stepT Rn (L3 v0 v3 o1 o v5 d b f a h c e)=let b':=Fb 18 (length v0:Int);let j:=(zc .i64<|0-d,Bo<|zc .i64<|0-d);let n:=getD h (toNat a) 0-48;let i:=(Vn (10,Bo 10) b',WM (10,Bo 10) b');let m:=decide (0<=Fb 18 (length v0:Int))&&true&&decide (toNat b'<=length v0)&&decide (length v0<=length v0);let l:=take (yd (length v0)<|toNat b')<|drop (toNat b') v0;let k:=A9 (10,Bo 10)&&Aag (ze (10,Bo 10)) b';let g:=(E7 (c,[]) i,E2 (c,[]) i);let h':=A9 (c,[])&&A9 i;.di (a<f) (.ck (decide (0<=a)&&decide (a<(↑b:Int)))<|.cd (toNat a<length h)<|.di (zc .u8 n>9) .fail<|L3 v0 v3 o1 o v5 (zc .i64<|zc .i64 (d*10)+zc .i64 (zc .u8 n)) b f (zc .i64<|a+1) h c e) (.cd (0<(length v5:Int))<|.ite ((↑(zf<|getD v5 0 (0:UInt8)):Int)==45) (.ck true<|.ck k<|.ck h'<|.ck true<|.ck (A9 g&&A9 j)<|.ck m<|L5 l v3 (Kn g j) (Kf g j) e)<|.ck true<|.ck k<|.ck h'<|.ck true<|.ck (A9 g&&A9 (d,Bo d))<|.ck m<|L5 l v3 (Kn g (d,Bo d)) (Kf g (d,Bo d)) e):=by kernel_rfl
def L7[Srt](v0:Rd)(v3:Bool)(o1:Int)(c:List Int)(j:Int)(v5:Rd)(i:Int)(b:Nat)(d g:Int)(h:List Int)(f:Int)(a:List Int)(e:Int):Tr:=re ((stepT Rn<|L5 v0 v3 o1 c j).L.L.L.L.L.L.L.R)<|Ay 77 [(5,.dat zi v5),(6,.dat i64 i),(47,.sl 2 1 0 b none),(48,.dat i64 d),(49,.dat i64 g)] [(2,.arr false 5 (zn zz) h),(1,.box [.dat i64 f,.dat wU a]),(0,.box [.dat i64 e,.nil])] 3
theorem Fi[Srt](v0:Rd)(v3:Bool)(o1:Int)(a:List Int)(d:Int):stepT Rn (L5 v0 v3 o1 a d)=let e:=(length v0:Int);let c:=take (toNat<|Fb 18 e) v0;let b':=take (yd (length c) 1)<|drop 1 c;let g:=(↑(length c):Int);let h:=decide (1<=length c)&&decide (length c<=length c);let i:=(↑(zf<|getD c 0 (0:UInt8)):Int);let f:=decide (0<g);.di (e>0) (.ck (decide (0<=Fb 18 e)&&decide (0<=toNat (Fb 18 e))&&decide (toNat (Fb 18 e)<=length v0))<|.ite f (.di (g<19) (.ck f<|.ite (i==45) (.ck h<|.di ((↑(length b'):Int)<1) .fail<|L7 v0 v3 o1 a d c 0 (length b') ((↑(length b'):Int)) 0 (yj (fun b=>(↑(zf b):Int)) b') o1 a d)<|.ck f<|.ite (i==43) (.ck h<|.di ((↑(length b'):Int)<1) .fail<|L7 v0 v3 o1 a d c 0 (length b') ((↑(length b'):Int)) 0 (yj (fun b=>(↑(zf b):Int)) b') o1 a d)<|L7 v0 v3 o1 a d c 0 (length c) g 0 (yj (fun b=>(↑(zf b):Int)) c) o1 a d)<|.ck false .fail)<|.ck false .fail) (.ite v3 (.ck (z6 (o1,a))<|.leaf (zy [.dat i64<|EB (o1,a),.dat wU<|EC (o1,a)]) [])<|.leaf (zy [.dat i64 o1,.dat wU a]) []):=by kernel_rfl
theorem GQ[Srt](v0:Rd)(v3:Bool)(o1:Int)(g:List Int)(q:Int)(v5:Rd)(e:Int)(c:Nat)(h b:Int)(j:List Int)(d:Int)(a:List Int)(f:Int):stepT Rn (L7 v0 v3 o1 g q v5 e c h b j d a f)=let i:=Fb 18 (length v0:Int);let l:=(zc .i64<|0-e,Bo<|zc .i64<|0-e);let p:=getD j (toNat b) 0-48;let k:=(Vn (10,Bo 10) i,WM (10,Bo 10) i);let o:=decide (0<=Fb 18 (length v0:Int))&&true&&decide (toNat i<=length v0)&&decide (length v0<=length v0);let n:=take (yd (length v0)<|toNat i)<|drop (toNat i) v0;let m:=A9 (10,Bo 10)&&Aag (ze (10,Bo 10)) i;let b':=(E7 (d,a) k,E2 (d,a) k);let h':=A9 (d,a)&&A9 k;.di (b<h) (.ck (decide (0<=b)&&decide (b<(↑c:Int)))<|.cd (toNat b<length j)<|.di (zc .u8 p>9) .fail<|L7 v0 v3 o1 g q v5 (zc .i64<|zc .i64 (e*10)+zc .i64 (zc .u8 p)) c h (zc .i64<|b+1) j d a f) (.cd (0<(length v5:Int))<|.ite ((↑(zf<|getD v5 0 (0:UInt8)):Int)==45) (.ck true<|.ck m<|.ck h'<|.ck true<|.ck (A9 b'&&A9 l)<|.ck o<|L5 n v3 (Kn b' l) (Kf b' l) f)<|.ck true<|.ck m<|.ck h'<|.ck true<|.ck (A9 b'&&A9 (e,Bo e))<|.ck o<|L5 n v3 (Kn b' (e,Bo e)) (Kf b' (e,Bo e)) f):=by kernel_rfl
end T124
namespace T174
def T[Srt](s t:Rd):Tr:=tree dX false 9 174<|Ag ([zi,zi]) (s,t)
def L1[Srt](s t v0:Rd)(v4:Int)(a:List Bool):Tr:=re ((T s t).R.R.L.L.R)<|Ay 21 [(0,.dat zi v0),(2,.ptr 0 0),(4,.dat i64 v4)] [(0,.arr false 223 zl a)] 1
def L2[Srt](s t v0:Rd)(v4:Int)(a:List Bool):Tr:=re ((T s t).R.R.R)<|Ay 21 [(0,.dat zi v0),(2,.ptr 0 0),(4,.dat i64 v4)] [(0,.arr false 223 zl a)] 1
theorem Ak[Srt](s t:Rd):T s t=let a:=decide (0<(length t:Int));let b':Tr:=.leaf (.dat zi s) [];.ite (s==[]) b' (.ite (t==[]) b'<|.ite ((length t:Int)==1) (.ck a<|.di ((↑(zf<|getD t 0 (0:UInt8)):Int)<128) (.ck a<|.ck a<|.ck false<|.ck false b')<|L1 s t t 0 Sp.Abz)<|L2 s t t 0 Sp.Abz):=by kernel_rfl
def L4[Srt](s t v0:Rd)(v4:Int)(c:List Bool)(b:Rd)(o1:List Bool)(a:List Bool):Tr:=re ((stepT dX<|L2 s t v0 v4 c).R.L.L.L.L)<|Ay 22 [(0,.dat zi b),(1,.ptr 1 0)] [(1,.arr false 223 zl o1),(0,.arr false 223 zl a)] 2
theorem AL[Srt](s t v0:Rd)(v4:Int)(a:List Bool):stepT dX (L2 s t v0 v4 a)=let b:=(↑(zf<|getD v0 (toNat v4) (0:UInt8)):Int);let b':=decide (length a=256);let c:=decide (v4<(length v0:Int));.ite c (.ck (decide (0<=v4)&&c)<|.di (b>=128) (.ck b'<|.ck b'<|.cd (256=256)<|.ck true<|.ck false<|.ck false<|.leaf (.dat zi s) [])<|.ck (decide ((0:Sh.T (zn zz))<=b)&&decide (b<(↑256:Int)))<|.cd (toNat b<length a)<|L2 s t v0 (zc .i64<|v4+1)<|set a (toNat b) true) (.ck b'<|.ck b'<|.cd (256=256)<|.ck true<|L4 s t v0 v4 a s ((Sp.Abs a))<|(Sp.Abs a)):=by kernel_rfl
def L7[Srt](s t v0:Rd)(v4:Int)(f:List Bool)(e:Rd)(o1:List Bool)(c:List Bool)(a:Rd)(d:List Bool)(b:List Bool):Tr:=re ((stepT dX<|L4 s t v0 v4 f e o1 c).L.L.L.L.L)<|Ay 16 [(0,.dat zi a),(1,.ptr 1 0)] [(1,.arr false 223 zl d),(0,.arr false 223 zl b)] 2
def L8[Srt](s t v0:Rd)(v4:Int)(f:List Bool)(e:Rd)(o1:List Bool)(c:List Bool)(a:Rd)(d:List Bool)(b:List Bool):Tr:=re ((stepT dX<|L4 s t v0 v4 f e o1 c).R)<|Ay 16 [(0,.dat zi a),(1,.ptr 1 0)] [(1,.arr false 223 zl d),(0,.arr false 223 zl b)] 2
theorem BU[Srt](s t v0:Rd)(v4:Int)(e:List Bool)(a:Rd)(o1:List Bool)(b:List Bool):stepT dX (L4 s t v0 v4 e a o1 b)=let b':=(↑(length a):Int);let d:=zc .i64<|b'-1;let f:=decide (0<=zc .i64 (b'-1));let c:=(↑(zf<|getD a (toNat d) (0:UInt8)):Int);.di (b'>0) (.ck (f&&decide (zc .i64 (b'-1)<b'))<|.ck (decide ((0:Sh.T (zn zz))<=c)&&decide (c<(↑256:Int)))<|.cd (toNat c<length o1)<|.ite (!getD o1 (toNat c) false) (L7 s t v0 v4 e a o1 b a o1 b)<|.ck (f&&decide (0<=toNat d)&&decide (toNat d<=length a))<|L4 s t v0 v4 e (take (toNat d) a) o1 b) (L8 s t v0 v4 e a o1 b a o1 b):=by kernel_rfl
theorem GQ[Srt](s t v0:Rd)(v4:Int)(g:List Bool)(e:Rd)(o1:List Bool)(d:List Bool)(a:Rd)(b:List Bool)(c:List Bool):stepT dX (L7 s t v0 v4 g e o1 d a b c)=let f:=(↑(zf<|getD a 0 (0:UInt8)):Int);let b':Tr:=.leaf (.dat zi a) [];.di ((↑(length a):Int)>0) (.cd (0<(↑(length a):Int))<|.ck (decide ((0:Sh.T (zn zz))<=f)&&decide (f<(↑256:Int)))<|.cd (toNat f<length b)<|.ite (!getD b (toNat f) false) b'<|.ck (decide (1<=length a)&&decide (length a<=length a))<|L7 s t v0 v4 g e o1 d (take (yd (length a) 1)<|drop 1 a) b c) b':=by kernel_rfl
theorem Kg[Srt](s t v0:Rd)(v4:Int)(g:List Bool)(e:Rd)(o1:List Bool)(d:List Bool)(a:Rd)(b:List Bool)(c:List Bool):stepT dX (L8 s t v0 v4 g e o1 d a b c)=let f:=(↑(zf<|getD a 0 (0:UInt8)):Int);let b':Tr:=.leaf (.dat zi a) [];.di ((↑(length a):Int)>0) (.cd (0<(↑(length a):Int))<|.ck (decide ((0:Sh.T (zn zz))<=f)&&decide (f<(↑256:Int)))<|.cd (toNat f<length b)<|.ite (!getD b (toNat f) false) b'<|.ck (decide (1<=length a)&&decide (length a<=length a))<|L8 s t v0 v4 g e o1 d (take (yd (length a) 1)<|drop 1 a) b c) b':=by kernel_rfl
end T174
namespace T137
def T[Srt](s:Rd):Tr:=tree XH1 false 9 137<|Ag ([zi]) s
theorem Ak[Srt](s:Rd):T s=.ite (!s==[]) (.ck (Sp.Ace s [(48:UInt8),49,50,51,52,53,54,55,56,57])<|.ite (Sp.Qe s==[]) (.cd (0<(length s:Int))<|.ite ((↑(zf<|getD s 0 (0:UInt8)):Int) !=48) (.leaf (.bl true) [])<|.leaf (.dat zl<|s==[(48:UInt8)]) [])<|.leaf (.bl false) []) (.leaf (.bl false) []):=by kernel_rfl
end T137
namespace T136
def T[Srt](s t:Rd):Tr:=tree Oz false 9 136<|Ag ([zi,zi]) (s,t)
theorem Ak[Srt](s t:Rd):T s t=let a:=(length t:Int);let b':Tr:=.leaf (.tup [.dat zi s,.bl false]) [];let b:=decide (toNat a<=length s);.di ((length s:Int)>=a) (.ck (decide (0<=a)&&decide (0<=toNat a)&&b)<|.ite (!take (toNat a) s==t) b'<|.ck (decide (0<=a)&&true&&b&&decide (length s<=length s))<|.leaf (.tup [.dat zi<|take (yd (length s)<|toNat a)<|drop (toNat a) s,.bl true]) []) b':=by kernel_rfl
end T136
namespace T123
def T[Srt](s t:Rd):Tr:=tree XH2 false 9 123<|Ag ([zi,zi]) (s,t)
theorem Ak[Srt](s t:Rd):T s t=let b':=(↑(zf<|getD t 0 (0:UInt8)):Int);let a:=(length t:Int);let d:Tr:=.leaf (.tup [.dat zi s,.dat zi [],.bl false]) [];let b:=decide (length s<=length s);let h:=BA [zn zz];let e:=zc .i64<|Sp.Q4 s b'+a;let f:=zc .i64<|(-1)+a;let h':=zc .i64<|0+a;let c:=Sp.Q4 s b';let g:Tr:=.ite true (.cd (0<=length s)<|.ck (decide (0<=zc .i64 (0+a))&&true&&decide (toNat h'<=length s)&&b)<|.leaf (.tup [.dat zi<|take 0 s,.dat zi<|take (yd (length s)<|toNat h')<|drop (toNat h') s,.bl true]) []) d;.ite (a==0) g (.ite (t==s) g<|.ite (a==1) (.cd (0<a)<|.ck (decide ((0:Sh.T h)<=b')&&decide (b'<(256:Sh.T h)))<|.di (Sp.Q4 s b'>=0) (.ck (decide (0<=Sp.Q4 s b')&&decide (0<=toNat c)&&decide (toNat c<=length s))<|.ck (decide (0<=zc .i64 (Sp.Q4 s b'+a))&&true&&decide (toNat e<=length s)&&b)<|.leaf (.tup [.dat zi<|take (toNat c) s,.dat zi<|take (yd (length s)<|toNat e)<|drop (toNat e) s,.bl true]) []) d)<|.cd (a>=(length s:Int))<|.ite false (.ck (false&&decide (0<=length s))<|.ck (decide (0<=zc .i64 ((-1)+a))&&true&&decide (toNat f<=length s)&&b)<|.leaf (.tup [.dat zi<|take 0 s,.dat zi<|take (yd (length s)<|toNat f)<|drop (toNat f) s,.bl true]) []) d):=by kernel_rfl
end T123
end
end Go.Pe
