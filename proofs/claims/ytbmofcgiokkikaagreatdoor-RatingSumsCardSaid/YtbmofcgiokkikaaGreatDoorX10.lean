import Derived.Test.YtbmofcgiokkikaaGreatDoorX09
import Derived.Lib.Mul64
import Derived.Lib.ItoaMem
/- A part of a proof; no law is stated here. -/
noncomputable section
open Go.IntKind renaming wrap -> zc, u64 -> zd, i64 -> yn, wrap_i64 -> qg, u8 -> qv
open Go.Pe.Ends renaming tt -> ze, leaf -> zh, ite -> zk, eq -> yi, ff -> yk, Ai -> yq
open Go.Sp renaming vI -> zf, val -> zy, u64 -> zz, Dy -> z7, sg -> y7, A8 -> qu, hW -> qw
open Bool renaming and_eq_true -> zg, true_and -> yd, false_eq_true -> y8, or_eq_true -> ql
open Int renaming mul_le_mul_of_nonneg_right -> zi, toNat_natCast -> zj, fdiv -> zm, eq_ofNat_of_zero_le -> zn, mul_nonneg -> zo, mul_assoc -> zq, add_mul -> zw, lt_or_le -> z6, mul_le_mul_of_nonneg_left -> z8, mul_comm -> yb, mul_add -> yc, lt_of_le_of_lt -> ye, fdiv_eq_ediv_of_nonneg -> yf, le_of_lt -> yg, one_mul -> yh, natCast_pow -> yj, tdiv -> yo, natCast_mul -> yp, natCast_add -> yw, tdiv_eq_ediv_of_nonneg -> y9, tmod -> qh, mul_zero -> qi, zero_add -> qk, ediv_nonneg -> qn, mul_sub -> qo, toNat -> qq, add_assoc -> qt, pow_succ -> qx
open List renaming replicate -> zl, take_of_length_le -> zr, getD_eq_getElem?_getD -> ym, take_length -> yr, length -> yv, append_assoc -> qc, cons_append -> qf
open UInt8 renaming toNat -> zp
open Go.Pe.Sh renaming int -> zt, bool -> yt, str -> yx, list -> qd
open Go.Pe.PV renaming agg -> zu
open Go.Pe.Ac renaming of -> zx
open BitVec renaming ofInt -> ya, ofInt_natCast -> yu, toNat_ofNat -> yy
open Go.Lib renaming half_mul_le -> yz
open Nat renaming mod_eq_of_lt -> qe, two_pow_pos -> qm, pow_add -> qp
open Min renaming min -> qj
variable {Q:Go.Pe.PV->Go.Pe.Ob->Prop}
namespace Go.Pe
open Sp
open Go.Det
theorem Eg{a:AM}(h:z7 a=true):(-9223372036854775808<=a.1/\a.1<9223372036854775808)/\(a.2=[]\/(Cz a.2=true/\(a.1=1\/a.1= -1)/\9223372036854775808<=Av a.2)):=by
 unfold z7 at h;rw[zg,ql,zg,zg,ql,w5,w5,w5,w5]at h;exact⟨EN h.1,h.2.imp id fun h=>⟨h.1.1,h.1.2,h.2⟩⟩
theorem val_one(d:Int):zy Ap [d]=d:=by simp[zy]
theorem Acb{d:Int}(e:0<d)(c:d<18446744073709551616):[d]=BF d:=by
 have:=Jf (b:=Ap) (l:=[d]) af (fun x a=>by rw[List.mem_singleton]at a;subst a;exact⟨by omega,c⟩) (by unfold Sp.nz;simp;omega);rw[val_one]at this;exact this
theorem Fc{s:Int}:zf (s,[])=s:=by unfold zf;exact wd rfl
namespace T173
theorem ok(e:∀g sp,LL.sp g=some sp->Af A4 g sp):Af A4 173 Qq:=by
 refine HN (X:=LL) rfl e (d:=9) ag ag ag (fun(a:Int×List Int) ha=>?_) (Bg ag);obtain⟨hr,h⟩:=Eg (a:=a) ha;obtain⟨s,w⟩:=a;have hr: -9223372036854775808<=s/\s<9223372036854775808:=hr;refine yi (Aj (s,w))<|zk (fun c=>?_)<|fun c=>zk (fun d=>?_)<|fun d=>ze ?_ ?_
 ·have c:0<w.length:=w6 c;have f:w≠[]:=by rintro rfl;simp at c
  rcases h with h|⟨l,i,j⟩
  ·exact wh h f
  ·obtain⟨n1,k,n⟩:=FN l;have i:s=1\/s= -1:=i;have j:9223372036854775808<=Av w:=j;have ev:zf (s,w)=if s<0 then -Av w else Av w:=by unfold zf;exact wc f
   have m:Ah (zf (s,w))=Av w:=by rw[ev];simp only[Al];split<;>omega
   have p:decide (zf (s,w)<0)=decide (s<0):=by
    rw[ev];rcases i with rfl|rfl<;>simp<;>omega
   refine zh<|zx rfl rfl ?_;show(decide (s<0),w)=(decide (zf (s,w)<0),BF<|Ah<|zf (s,w));rw[m,p,show w=BF (Av w)from Jf af k n];congr 2;exact(Dj (b:=Ap) af<|AJ (b:=Ap) af k).symm
 all_goals
  have c:¬0<w.length:=w7 c;have o:w=[]:=List.length_eq_zero_iff.1 ae;subst o
 ·have d:s=0:=by simpa using d
  subst d;exact zh<|zx rfl rfl rfl
 ·show Ct s=true;unfold Ct;rw[zg,w5,w5];exact hr
 ·have d:s≠0:=by simpa using d
  refine zh<|zx rfl rfl ?_;show(decide (s<0),[Ah s])=(decide (zf (s,[])<0),BF<|Ah<|zf (s,[]));rw[Fc,Acb (d:=Ah s) (by simp only[Al];omega)<|by simp only[Al];omega]
end T173
theorem Cm{n:Int}(h: -9223372036854775808<n/\n<9223372036854775808):Dh n=(n,[]):=wd h
theorem U0{w:List Int}(neg:Bool)(a:AB Ap w)(b:Sp.nz w)(c:9223372036854775808<=Av w):Dh (if neg=true then -Av w else Av w)=(if neg=true then -1 else 1,w):=by
 have e:BF (Av w)=w:=(Jf af a b).symm;cases neg with
 |true=>
  simp only[wk];unfold Dh;rw[wc ae,wd ae];rw[show Ah (-Av w)=Av w by simp only[Al];omega,e]
 |false=>
  show Dh (Av w)=(1,w);unfold Dh;rw[wc ae,wc ae];rw[show Ah (Av w)=Av w by simp only[Al];omega,e]
namespace T174
theorem ok(f:∀g sp,LL.sp g=some sp->Af A4 g sp):Af A4 174 mD:=by
 refine HN (X:=LL) rfl f (d:=9) ag ag ag (fun(i:Bool×List Int) hi=>?_) (Bg ag);obtain⟨neg,w⟩:=i;obtain⟨n1,n2,n3⟩:=FN (l:=w) hi;refine yi (Aj neg w) ?_;conv=>zeta
 cases w with
 |nil=>
  refine ze rfl (zh<|zx rfl rfl ?_);show _=Dh (if neg=true then -0 else 0);rw[show(if neg=true then(-0:Int)else 0)=0 by split<;>rfl,Cm ae]
 |cons d t=>
  cases t with
  |nil=>
   have m:=n2 d (by simp);have u:d≠0:=by intro h;subst h;exact n3 rfl
   have q:0<=d:=m.1;have r:d<18446744073709551616:=m.2;have ev:Av [d]=d:=val_one d;refine yk rfl (ze rfl (ze rfl (zk (fun c=>?_)<|fun c=>?_)))
   ·have c:d<=9223372036854775807:=w6 c;have j:zc .i64 d=d:=wr _ ae ae;have s:zc .i64 (0-d)= -d:=by rw[wr _ ae ae];omega
    refine zk (fun n=>ze rfl (zh<|zx rfl rfl ?_))<|fun n=>ze rfl (ze rfl (ze (w4 c)<|ze rfl (zh<|zx rfl rfl ?_)))
    ·show(zc .i64<|0-zc .i64 d,[])=Dh (if neg=true then -Av [d]else Av [d]);rw[j,s,wd n,ev,Cm ae]
    ·show(zc .i64 d,[])=Dh (if neg=true then -Av [d]else Av [d]);subst n;rw[j,wc af,ev,Cm ae]
   ·have v:¬d<=9223372036854775807:=w7 c;have a:=U0 neg n2 n3 (by rw[ev];omega);refine ze rfl (ze rfl (yk c<|zk (fun n=>zh<|zx rfl rfl ?_)<|fun n=>zh<|zx rfl rfl ?_))
    ·show(-1,[d])=Dh (if neg=true then -Av [d]else Av [d]);rw[a,wd n]
    ·show(1,[d])=Dh (if neg=true then -Av [d]else Av [d]);rw[a,n];rfl
  |cons e t=>
   have p:9223372036854775808<=Av (d::e::t):=by
    have h:=DE (b:=Ap) af n2 n3 (by simp);have o:=AP (b:=Ap) af (show 1<=(d::e::t).length-1 by simp);rw[Int.pow_one]at o;have:(9223372036854775808:Int)<=(Ap:Int):=af
    exact Int.le_trans this<|Int.le_trans o h
   have a:=U0 neg n2 n3 p;have z0:(((d::e::t).length:Int)==0)=false:=by simp;omega
   have k:(((d::e::t).length:Int)==1)=false:=by simp;omega
   refine yk z0<|yk k<|yk k<|zk (fun n=>zh<|zx rfl rfl ?_)<|fun n=>zh<|zx rfl rfl ?_
   ·show(-1,d::e::t)=Dh (if neg=true then -Av (d::e::t)else Av (d::e::t));rw[a,wd n]
   ·show(1,d::e::t)=Dh (if neg=true then -Av (d::e::t)else Av (d::e::t));rw[a,n];rfl
end T174
namespace T175
theorem Ar(x y:List Int)(m:AB Ap x)(q:AB Ap y)(j:y.length<=x.length)(v:x.length<=9000)(l:∀ob,Q (.dat DG<|BF<|Av x+Av y) ob):∀(k i:Nat) (p:List Int) (c:Int),i+k=x.length->p.length=i->AB Ap p->(0<=c/\c<=1)->zy Ap p+(Ap:Int)^i*c=zy Ap (x.take i)+zy Ap (y.take i)->
  Ends LL (L1 x y (x.length+1) c x.length i<|p++zl (x.length+1-i) 0) Q
 |0,i,p,c,f,hp,h,a,n=>by
  have f:i=x.length:=ae
  subst f;have t:x.length+1-x.length=1:=ae
  have es:(p++zl (x.length+1-x.length) (0:Int)).set x.length c=p++[c]:=by
   rw[t];exact Pe.DQ p [] 0 c hp
  have u:(p++[c]).take (x.length+1)=p++[c]:=zr (by simp;omega);have b:AB Ap (p++[c]):=Ex h (C3 a.1 ae);have r:Av (p++[c])=Av x+Av y:=by
   unfold Av;rw[Fv,hp,n,yr,zr j]
  refine yq (Ak ..) (yk (by simp) ?_);rw[zj,es,u];refine ze (by simp<;>omega) (ze (by simp;omega)<|ze ?_<|zh ?_)
  ·rw[ER (by simp;omega) b];simp;omega
  ·rw[LX b,r];exact l _
 |k+1,i,p,c,f,hp,h,a,n=>by
  have e:=A0 m i;have o:=A0 q i;have lo:(p++zl (x.length+1-i) (0:Int)).length=x.length+1:=by simp;omega
  have step:∀z,zz z=true->z=y.getD i 0->Ends LL (L1 x y (x.length+1) (PL (x.getD i 0) z c) x.length (zc .i64<|(i:Int)+1)<|(p++zl (x.length+1-i) 0).set i<|IF (x.getD i 0) z c) Q:=by
   intro z g s;obtain⟨a1,a2,a3⟩:=MQ e g a;rw[wr ((i:Int)+1) ae ae,J2 p (x.length+1) i _ hp ae];refine Ar x y m q j v l k (i+1) (p++[IF (x.getD i 0) z c]) _ ae (by simp;omega) (Ex h a1) a2 ?_;rw[Fv,hp,LA,AK _ x i,AK _ y i, <-s,qt, <-yc,a3,yc,yc];omega
  refine yq (Ak ..) (ze (by simp;omega) ?_);rw[zj];refine zk (fun d=>?_)<|fun d=>?_
  ·have d:=w6 d;refine ze (by simp;omega) (ze (by simp;omega)<|ze ?_<|ze (by simp;omega)<|ze (w4<|by rw[lo];omega)<|step _ o rfl);rw[e,o,yd,yd,zg];exact⟨w4 a.1,w4 a.2⟩
  ·have d:=w7 d;have g:y.getD i 0=0:=by rw[ym,List.getElem?_eq_none ae];rfl
   refine ze (by simp;omega) (ze ?_<|ze (by simp;omega)<|ze (w4<|by rw[lo];omega)<|step _ rfl g.symm);rw[e,show zz 0=true from rfl,yd,yd,zg];exact⟨w4 a.1,w4 a.2⟩
theorem start(x y:List Int)(d:AB Ap x)(f:AB Ap y)(a:y.length<=x.length)(e:x.length<=9000)(b:∀ob,Q (.dat DG<|BF<|Av x+Av y) ob){t:Tr}:
  Ends LL (.ite (decide ((0:Int)<=zc yn ((x.length:Int)+(1:Int)))&&decide (zc yn ((x.length:Int)+(1:Int))=zc yn ((x.length:Int)+(1:Int)))&&decide ((8:Nat)*qq (zc yn<|(x.length:Int)+(1:Int))<=(281474976710656:Nat))&&decide (zc yn ((x.length:Int)+(1:Int))<(9223372036854775808:Int)))
   (L1 x y (qq<|zc yn<|(x.length:Int)+(1:Int)) ((0:Int)) ((x.length:Int)) ((0:Int))<|zl (qq<|zc yn<|(x.length:Int)+(1:Int)) (0:Int)) t) Q:=by
 have c:zc .i64 ((x.length:Int)+1)=((x.length+1:Nat):Int):=by rw[wr _ ae ae];omega
 rw[c,zj];refine ze (by simp;omega) ?_;exact Ar x y d f a e b x.length 0 [] 0 ae rfl (fun _ h=>by cases h) ae (by simp[zy])
theorem ok(a:∀g sp,LL.sp g=some sp->Af A4 g sp):Af A4 175 sC:=by
 refine HN (X:=LL) rfl a (d:=9) ag ag ag (fun(i:List Int×List Int) b=>?_) (Bg ag);obtain⟨x,y⟩:=i;have b:(qw x&&qw y)=true:=b;rw[zg]at b;obtain⟨x1,x2⟩:=Z9 b.1;obtain⟨y1,y2⟩:=Z9 b.2;have e:∀ob,Ac sC (x,y) (.dat DG<|BF<|Av x+Av y) ob:=fun ob=>zx rfl rfl rfl
 refine yi (Aj x y)<|zk (fun c=>?_)<|fun c=>?_
 ·have c:=w6 c;exact start y x y2 x2 ae y1 (by rw[Int.add_comm];exact e)
 ·have c:=w7 c;exact start x y x2 y2 ae x1 e
end T175
namespace T177
theorem lW{b:Int}(e:0<b){l:List Int}{n:Nat}(h:AB b l)(g:zy b l<b^n):zy b (l.take n)=zy b l:=by
 rcases Nat.lt_or_ge n l.length with a|a
 ·have c:=CA b l n ae;have i:=AJ ae<|AT h n;have f:=AJ ae<|Fg h n;rcases z6 0 (zy b<|l.drop n)with d|d
  ·have:=z8 (show 1<=zy b (l.drop n)by omega)<|yg<|AU e n;rw[Int.mul_one]at this;omega
  ·have:zy b (l.drop n)=0:=ae
   rw[this,qi]at c;omega
 ·rw[zr a]
theorem Ar(x y:List Int)(g:AB Ap x)(n:AB Ap y)(o:Av y<=Av x)(A:x.length<=20000)(q:∀ob,Q (.dat DG<|BF<|Av x-Av y) ob):∀(k i:Nat) (p:List Int) (c:Int),i+k=x.length->p.length=i->AB Ap p->(0<=c/\c<=1)->zy Ap p-(Ap:Int)^i*c=zy Ap (x.take i)-zy Ap (y.take i)->
  Ends LL (L1 x y x.length c x.length i<|p++zl (x.length-i) 0) Q
 |0,i,p,c,l,hp,f,b,a=>by
  have l:i=x.length:=ae
  subst l;have v:p++zl (x.length-x.length) (0:Int)=p:=by rw[Nat.sub_self];simp
  have w:p.take x.length=p:=zr ae;have B:Av x<(Ap:Int)^x.length:=BC af g;have s:Av p<(Ap:Int)^p.length:=BC af f;have t:Av p=Av x-Av y:=by
   rw[yr,lW af n<|show zy Ap y<_ from ye o B]at a;have a:Av p-(Ap:Int)^x.length*c=Av x-Av y:=a;rw[hp]at s;rcases z6 0 c with h|h
   ·have:c=1:=ae
    subst this;rw[Int.mul_one]at a;omega
   ·have:c=0:=ae
    subst this;rw[qi]at a;omega
  rw[v];refine yq (Ak ..) (yk (by simp) ?_);rw[w];refine ze ?_<|zh ?_
  ·rw[ER ae f];simp;omega
  ·rw[LX f,t];exact q _
 |k+1,i,p,c,l,hp,f,b,a=>by
  have j:=A0 g i;have r:=A0 n i;have lo:(p++zl (x.length-i) (0:Int)).length=x.length:=by simp;omega
  have step:∀z,zz z=true->z=y.getD i 0->Ends LL (L1 x y x.length (RF (x.getD i 0) z c) x.length (zc .i64<|(i:Int)+1)<|(p++zl (x.length-i) 0).set i<|Vg (x.getD i 0) z c) Q:=by
   intro z m u;obtain⟨a1,a2,a3⟩:=Sp.HQ j m b;rw[wr ((i:Int)+1) ae ae,J2 p x.length i _ hp ae];refine Ar x y g n o A q k (i+1) (p++[Vg (x.getD i 0) z c]) _ ae (by simp;omega) (Ex f a1) a2 ?_;have e:(Ap:Int)^i*Vg (x.getD i 0) z c-(Ap:Int)^i*(18446744073709551616*RF (x.getD i 0) z c)=(Ap:Int)^i*x.getD i 0-(Ap:Int)^i*z-(Ap:Int)^i*c:=by
    rw[<-qo,a3,qo,qo]
   rw[Fv,hp,LA,AK _ x i,AK _ y i, <-u];omega
  refine yq (Ak ..) (ze (by simp;omega) ?_);rw[zj];refine zk (fun d=>?_)<|fun d=>?_
  ·have d:=w6 d;refine ze (by simp;omega) (ze (by simp;omega) (ze ?_<|ze (by simp;omega)<|ze (w4<|by rw[lo];omega)<|step _ r rfl));rw[j,r,yd,yd,zg];exact⟨w4 b.1,w4 b.2⟩
  ·have d:=w7 d;have m:y.getD i 0=0:=by rw[ym,List.getElem?_eq_none ae];rfl
   refine ze (by simp;omega) (ze ?_<|ze (by simp;omega)<|ze (w4<|by rw[lo];omega)<|step _ rfl m.symm);rw[j,show zz 0=true from rfl,yd,yd,zg];exact⟨w4 b.1,w4 b.2⟩
theorem ok(b:∀g sp,LL.sp g=some sp->Af A4 g sp):Af A4 177 sE:=by
 refine HN (X:=LL) rfl b (d:=9) ag ag ag (fun(i:List Int×List Int) a=>?_) (Bg ag);obtain⟨x,y⟩:=i;have a:(De x&&De y&&decide (Av y<=Av x))=true:=a;rw[zg,zg,w5]at a;obtain⟨x1,x2⟩:=IX a.1.1;obtain⟨y1,y2⟩:=IX a.1.2;have c:∀ob,Ac sE (x,y) (.dat DG<|BF<|Av x-Av y) ob:=fun ob=>zx rfl rfl rfl
 refine yi (Aj x y) ?_;conv=>zeta
 rw[zj];refine ze (by simp;omega) ?_;exact Ar x y x2 y2 a.2 x1 c x.length 0 [] 0 ae rfl (fun _ h=>by cases h) ae (by simp[zy])
end T177
theorem MH(n:Int):zc .u64 n=n % 18446744073709551616:=by simp[zc,IntKind.bits,IntKind.signed]
theorem fN(n:Nat):zm (n:Int) ((2:Int)^(32:Nat))=((n/4294967296:Nat):Int):=by
 rw[yf _ af];rfl
theorem oD(n:Nat)(h:n<18446744073709551616):zc .u64 (n:Int)=n:=wu _ ae ae
theorem RC(n:Nat)(h:n<18446744073709551616):Iv .u64 (n:Int) 4294967295=((n % 4294967296:Nat):Int):=by
 have e:(ya 64 (n:Int)&&&ya 64 4294967295).toNat=n % 4294967296:=by
  rw[BitVec.toNat_and];have a:(ya 64 (n:Int)).toNat=n:=by rw[yu,yy];exact qe h
  have b:(ya 64 4294967295).toNat=2^32-1:=af
  rw[a,b,Nat.and_two_pow_sub_one_eq_mod]
 show zc .u64 (((ya 64 (n:Int)&&&ya 64 4294967295).toNat:Nat):Int)=_;rw[e];exact oD _ ae
namespace T178
theorem ok:Af A4 178 Td:=by
 refine BD Kt<|fun(i:Int×Int) g=>?_;obtain⟨x,y⟩:=i;have g:(zz x&&zz y)=true:=g;rw[zg]at g;have f:=qu g.1;have h:=qu g.2;obtain⟨x,rfl⟩:=zn f.1;obtain⟨y,rfl⟩:=zn h.1;have f:x<18446744073709551616:=ae
 have h:y<18446744073709551616:=ae
 obtain⟨n,k,m,j⟩:=Go.Lib.mul64_hi x y f h;have q:=yz (a:=x/4294967296) (b:=y/4294967296) ae ae;have o:=yz (a:=x/4294967296) (b:=y % 4294967296) ae ae;have p:=yz (a:=x % 4294967296) (b:=y/4294967296) ae ae;refine yi (Aj (x:Int) (y:Int))<|ze rfl (ze rfl (ze rfl (ze rfl (ze rfl (zh<|zx rfl rfl ?_)))));refine Prod.ext ?_ ?_
 ·show zc zd (zc zd (zc zd (zm (x:Int) ((2:Int)^(32:Nat))*zm (y:Int) ((2:Int)^(32:Nat)))+zm (zc zd<|zc zd (zm (x:Int) ((2:Int)^(32:Nat))*Iv zd (y:Int) (4294967295:Int))+zm (zc zd<|Iv zd (x:Int) (4294967295:Int)*Iv zd (y:Int) (4294967295:Int)) ((2:Int)^(32:Nat))) ((2:Int)^(32:Nat)))+zm (zc zd<|Iv zd (zc zd<|zc zd (zm (x:Int) ((2:Int)^(32:Nat))*Iv zd (y:Int) (4294967295:Int))+zm (zc zd<|Iv zd (x:Int) (4294967295:Int)*Iv zd (y:Int) (4294967295:Int)) ((2:Int)^(32:Nat))) (4294967295:Int)+zc zd (Iv zd (x:Int) (4294967295:Int)*zm (y:Int) ((2:Int)^(32:Nat)))) ((2:Int)^(32:Nat)))=Sb x y;have l:Sb x y=((x*y/18446744073709551616:Nat):Int):=by unfold Sb;omega
  rw[l, <-j];have e:x*y/18446744073709551616<18446744073709551616:=Nat.div_lt_of_lt_mul<|Nat.mul_lt_mul'' f h;rw[<-j]at e;simp only[fN,RC x f,RC y h];simp only[<-yp];generalize (x/4294967296)*(y/4294967296)=a at*;generalize (x/4294967296)*(y % 4294967296)=b at*;generalize (x % 4294967296)*(y/4294967296)=c at*;generalize (x % 4294967296)*(y % 4294967296)=d at*;rw[oD d ae,oD a ae,oD b ae,oD c ae,fN, <-yw,oD _ k,fN,RC _ k, <-yw, <-yw,oD _ m,fN,oD (a+_) ae, <-yw,oD _ e]
 ·show zc .u64 ((x:Int)*y)=IT x y;unfold IT;exact MH _
end T178
theorem pM{x y o c:Int}(d:zz x=true)(e:zz y=true)(g:zz o=true)(f:zz c=true):
  zz (IT x y)=true/\zz (IF (IT x y) o 0)=true/\zz (IF (IF (IT x y) o 0) c 0)=true/\
  zc .u64 (zc .u64 (Sb x y+PL (IT x y) o 0)+PL (IF (IT x y) o 0) c 0)=(x*y+o+c)/18446744073709551616/\
  zz ((x*y+o+c)/18446744073709551616)=true/\
  IF (IF (IT x y) o 0) c 0+18446744073709551616*((x*y+o+c)/18446744073709551616)=x*y+o+c:=by
 have d:=qu d;have e:=qu e;have g:=qu g;have f:=qu f;have h0:0<=x*y:=zo d.1 e.1;have h:x*y<=18446744073709551615*18446744073709551615:=by
  have a:=z8 (show y<=18446744073709551615 by omega) d.1;have b:=zi (show x<=18446744073709551615 by omega) (show(0:Int)<=18446744073709551615 by omega);omega
 unfold IT Sb IF PL;generalize x*y=P at*;refine⟨C3 ae ae,C3 ae ae,C3 ae ae,?_,C3 ae ae,by omega⟩;rw[MH,MH];omega
namespace T180
theorem A5(x y:List Int)(n i:Nat)(J:i<x.length)(H:n=x.length+y.length)(g:x.length<=9000)(h:y.length<=9000)(o:AB Ap x)(A:AB Ap y)(p:List Int)(hp:p.length=i+y.length)(b:AB Ap p)
  (u:∀q c,q.length=i+y.length->AB Ap q->zz c=true->zy Ap q+(Ap:Int)^(i+y.length)*c=zy Ap p+(Ap:Int)^i*(x.getD i 0*zy Ap y)->Ends LL (L1 y n x x.length ((i+1:Nat):Int)<|(q++[c])++zl (n-(i+y.length+1)) 0) Q):∀(k j:Nat) (q:List Int) (c:Int),j+k=y.length->q.length=i+j->AB Ap q->zz c=true->zy Ap q+(Ap:Int)^(i+j)*c=zy Ap (p.take<|i+j)+(Ap:Int)^i*(x.getD i 0*zy Ap (y.take j))->
  Ends LL (L2 y n i (x.getD i 0) c x x.length i y y.length j<|q++(p.drop (i+j)++zl (n-(i+y.length)) 0)) Q
 |0,j,q,c,f,a,l,d,s=>by
  have f:j=y.length:=ae
  subst f;have e:zc .i64 ((i:Int)+(y.length:Int))=((i+y.length:Nat):Int):=by rw[wr _ ae ae];omega
  have m:zc .i64 ((i:Int)+1)=((i+1:Nat):Int):=by rw[wr _ ae ae];omega
  have K:p.drop (i+y.length)=[]:=List.drop_eq_nil_of_le ae;refine yq (Az ..) (yk (by simp) ?_);rw[e,m,zj,K,List.nil_append,J2 q n _ c a ae];refine ze (by simp;omega) (ze (by simp;omega)<|u q c a l d ?_);rw[s,zr ae,yr]
 |k+1,j,q,c,f,a,l,d,s=>by
  have r:=A0 o i;have t:=A0 A j;have v:=A0 b<|i+j;have w:p.drop (i+j)=p.getD (i+j) 0::p.drop (i+j+1):=by
   rw[ym,List.getElem?_eq_getElem ae];exact List.drop_eq_getElem_cons ae
  have e:zc .i64 ((i:Int)+(j:Int))=((i+j:Nat):Int):=by rw[wr _ ae ae];omega
  have m:zc .i64 ((j:Int)+1)=((j+1:Nat):Int):=by rw[wr _ ae ae];omega
  have lo:(q++(p.drop (i+j)++zl (n-(i+y.length)) (0:Int))).length=n:=by simp;omega
  have M:(q++(p.drop (i+j)++zl (n-(i+y.length)) (0:Int))).getD (i+j) 0=p.getD (i+j) 0:=by
   rw[w,qf];exact D3 _ _ _ _ a
  have s1:∀z,(q++(p.drop (i+j)++zl (n-(i+y.length)) (0:Int))).set (i+j) z=(q++[z])++(p.drop (i+(j+1))++zl (n-(i+y.length)) 0):=by
   intro z;rw[w,qf,DQ _ _ _ _ a,qc];rfl
  obtain⟨G,E,D,I,L,B⟩:=pM r t v d;refine yq (Az ..) (ze (by simp;omega) ?_);rw[e,m,zj,zj,M,s1,I];have t1:(decide ((0:Int)<=((i+j:Nat):Int))&&decide (((i+j:Nat):Int)<(n:Int)))=true:=by simp;omega
  refine ze (by simp;omega) (ze (by rw[r,t];rfl)<|ze t1<|ze (w4<|by rw[lo];omega) (ze (by rw[G,v];rfl)<|ze (by rw[E,d];rfl)<|ze t1<|ze (w4<|by rw[lo];omega) ?_));refine A5 x y n i J H g h o A p hp b u k (j+1) _ _ ae (by simp;omega) (Ex l D) L ?_;have F:i+(j+1)=(i+j)+1:=ae
  have C:(Ap:Int)^i*(x.getD i 0*((Ap:Int)^j*y.getD j 0))=(Ap:Int)^(i+j)*(x.getD i 0*y.getD j 0):=by
   rw[Int.pow_add,zq,Int.mul_left_comm<|x.getD i 0]
  rw[F,Fv,a,LA,qt, <-yc,B,AK _ p<|i+j,AK _ y j,yc,yc,yc<|x.getD i 0,yc,C];omega
theorem Ar(x y:List Int)(n:Nat)(j:n=x.length+y.length)(b:x.length<=9000)(a:y.length<=9000)(m:AB Ap x)(o:AB Ap y)(l:∀ob,Q (.dat DG<|BF<|Av x*Av y) ob):∀(k i:Nat) (p:List Int),i+k=x.length->p.length=i+y.length->AB Ap p->zy Ap p=zy Ap (x.take i)*zy Ap y->
  Ends LL (L1 y n x x.length i<|p++zl (n-(i+y.length)) 0) Q
 |0,i,p,g,hp,d,e=>by
  have g:i=x.length:=ae
  subst g;have r:p++zl (n-(x.length+y.length)) (0:Int)=p:=by rw[j,Nat.sub_self];simp
  have f:Av p=Av x*Av y:=by
   rw[yr]at e;exact e
  rw[r];refine yq (Ak ..) (yk (by simp) ?_);rw[zr ae];refine ze ?_<|zh ?_
  ·rw[ER ae d];simp;omega
  ·rw[LX d,f];exact l _
 |k+1,i,p,g,hp,d,e=>by
  refine yq (Ak ..) (ze (by simp;omega) ?_);rw[zj];refine ze (by simp;omega) ?_;have h0:zy Ap (p.take<|i+y.length)=zy Ap p:=by rw[zr ae]
  have:=A5 (Q:=Q) x y n i ae j b a m o p hp d (fun q c s h t f=>by
   have:=Ar x y n j b a m o l k (i+1) (q++[c]) ae (by simp;omega) (Ex h t) (by
    rw[Fv,s,f,e,AK,zw,zq])
   rw[show i+1+y.length=i+y.length+1 by omega]at this;exact this) y.length 0 (p.take i) 0 ae (by simp;omega) (AT d i) rfl (by simp[zy])
  rw[Nat.add_zero, <-qc,List.take_append_drop]at this;exact this
theorem ok(b:∀g sp,LL.sp g=some sp->Af A4 g sp):Af A4 180 rK:=by
 refine HN (X:=LL) rfl b (d:=9) ag ag ag (fun(i:List Int×List Int) a=>?_) (Bg ag);obtain⟨x,y⟩:=i;have a:(qw x&&qw y)=true:=a;rw[zg]at a;obtain⟨x1,x2⟩:=Z9 a.1;obtain⟨y1,y2⟩:=Z9 a.2;have c:∀ob,Ac rK (x,y) (.dat DG<|BF<|Av x*Av y) ob:=fun ob=>zx rfl rfl rfl
 have e:zc .i64 ((x.length:Int)+(y.length:Int))=((x.length+y.length:Nat):Int):=by rw[wr _ ae ae];omega
 refine yi (Aj x y) ?_;conv=>zeta
 rw[e,zj];refine ze (by simp;omega) ?_;have:=Ar x y (x.length+y.length) rfl x1 y1 x2 y2 c x.length 0 (zl y.length 0) ae (by simp) (fun d f=>by
  obtain⟨_,rfl⟩:=List.mem_replicate.1 f;exact⟨by decide,by decide⟩) (by rw[Nz];simp[zy])
 rw[Nat.zero_add,List.replicate_append_replicate,show y.length+(x.length+y.length-y.length)=x.length+y.length by omega]at this;exact this
end T180
theorem Ge:CE LL:=
 Aa T179.ok (Aa T216.ok<|Aa T218.ok<|Aa T217.ok<|Aa T178.ok Ay)
theorem Uy:CE XI2:=
 Aa (T173.ok Ge) (Aa (T174.ok Ge)<|Aa (T175.ok Ge)<|Aa (T177.ok Ge)<|Aa T176.ok<|Aa (T180.ok Ge)<|Aa T178.ok<|Aa T179.ok Ay)
end Go.Pe
namespace Go.Sp
def Bd(a:AM):Bool:=Dy a&&decide (a.2.length<=9000)
def fI(a b:AM):Int:=Cp (vI a)<|vI b
def IK(a:AM):Int:=Og<|vI a
end Go.Sp
namespace Go.Pe
open Sp
open Go.Det
def Vo:Am:=⟨[A3],fun a=>z7 a,[A3],fun a=>(E0 a,E1 a),false⟩
def Aa6:Am:=⟨[A3],fun a=>z7 a,[A3],fun a=>(Ru a,QD a),false⟩
def K0:Am:=⟨[A3],fun a=>z7 a,[i64],fun a=>IK a,false⟩
def Pt:Am:=⟨[A3,A3],fun i=>Bd i.1&&Bd i.2,[A3],fun i=>(KO i.1 i.2,KR i.1 i.2),false⟩
def rY:Am:=⟨[A3,A3],fun i=>Bd i.1&&Bd i.2,[A3],fun i=>(ZB i.1 i.2,ZJ i.1 i.2),false⟩
def S4:Am:=⟨[A3,A3],fun i=>Bd i.1&&Bd i.2,[A3],fun i=>(Fx i.1 i.2,Fy i.1 i.2),false⟩
def nY:Am:=⟨[A3,A3],fun i=>Bd i.1&&Bd i.2,[i64],fun i=>fI i.1 i.2,false⟩
def XJ1:AL:=X7 [(162,Vo),(124,Pt)]
def XJ2:AL:=X7 [(133,rY),(134,K0)]
section
open List Int Prod
namespace T162
def T(a:AM):Tr:=tree XI2 false 9 162<|Ag ([A3]) a
theorem Aj(a:AM):T a=let c:=BF<|Ah<|zf a;let b':=y7 (!decide (zf a<0))<|Av c;let b:Tr:=.ck (z7 a)<|.ck (Cz c)<|.leaf (zu [.dat i64<|C9 b',.dat wU<|C8 b']) [];.ite (!decide (0<length (snd a))) (.ite (fst a !=(-9223372036854775808)) (.leaf (zu [.dat i64<|zc .i64<|0-fst a,.nil]) []) b) b:=by kernel_rfl
end T162
namespace T124
def T(a b:AM):Tr:=tree XI2 false 9 124<|Ag ([A3,A3]) (a,b)
theorem Aj(a b:AM):T a b=let b':=BF<|Ah<|zf a;let c:=BF<|Ah<|zf b;let i:=BF<|Av b'+Av c;let h':=BF<|Av b'-Av c;let f:=BF<|Av c-Av b';let e:=y7 (decide (zf a<0))<|Av i;let g:=y7 (decide (zf a<0))<|Av h';let h:=y7 (decide (zf b<0))<|Av f;let d:Tr:=.ck (z7 a)<|.ck (z7 b)<|.ite (decide (zf a<0)==decide (zf b<0)) (.ck (qw b'&&qw c)<|.ck (Cz i)<|.leaf (zu [.dat i64<|C9 e,.dat wU<|C8 e]) [])<|.ck (Cz b'&&Cz c)<|.di (Cp (Av b') (Av c)>=0) (.ck (De b'&&De c&&decide (Av c<=Av b'))<|.ck (Cz h')<|.leaf (zu [.dat i64<|C9 g,.dat wU<|C8 g]) [])<|.ck (De c&&De b'&&decide (Av b'<=Av c))<|.ck (Cz f)<|.leaf (zu [.dat i64<|C9 h,.dat wU<|C8 h]) [];.ite (!decide (0<length (snd a))) (.ite (!decide (0<length (snd b))) (.ite (decide (zc .i64 (fst a+fst b)>fst a)==decide (fst b>0)) (.leaf (zu [.dat i64<|zc .i64<|fst a+fst b,.nil]) []) d) d) d:=by kernel_rfl
end T124
namespace T125
def T(a b:AM):Tr:=tree XI2 false 9 125<|Ag ([A3,A3]) (a,b)
theorem Aj(a b:AM):T a b=let d:=Ah<|fst a;let c:=Ah<|fst b;let g:=BF<|Ah<|zf a;let h:=BF<|Ah<|zf b;let b':=BF<|Av g*Av h;let f:=y7 (!decide (zf a<0)==decide (zf b<0))<|Av b';let e:Tr:=.ck (z7 a)<|.ck (z7 b)<|.ck (qw g&&qw h)<|.ck (Cz b')<|.leaf (zu [.dat i64<|C9 f,.dat wU<|C8 f]) [];.ite (!decide (0<length (snd a))) (.ite (!decide (0<length (snd b))) (.ck (Ct<|fst a)<|.ck (Ct<|fst b)<|.ck (zz d&&zz c)<|.ite (Sb d c==0) (.di (IT d c<=9223372036854775807) (.ite (!decide (fst a<0)==decide (fst b<0)) (.leaf (zu [.dat i64<|zc .i64<|0-zc .i64 (IT d c),.nil]) [])<|.leaf (zu [.dat i64<|zc .i64<|IT d c,.nil]) []) e) e) e) e:=by kernel_rfl
end T125
namespace T215
def T(a:AM):Tr:=tree XJ1 false 9 215<|Ag ([A3]) a
theorem Aj(a:AM):T a=.di (fst a<0) (.ck (z7 a)<|.leaf (zu [.dat i64<|E0 a,.dat wU<|E1 a]) []) (.leaf (zu [.dat i64<|fst a,.dat wU<|snd a]) []):=by kernel_rfl
end T215
namespace T134
def T(a:AM):Tr:=tree nD false 9 134<|Ag ([A3]) a
theorem Aj(a:AM):T a=.leaf (.dat i64<|imax (-1)<|Fa 1<|fst a) []:=by kernel_rfl
end T134
namespace T133
def T(a b:AM):Tr:=tree XJ1 false 9 133<|Ag ([A3,A3]) (a,b)
theorem Aj(a b:AM):T a b=.ck (z7 b) (.ck (Bd a&&Bd (E0 b,E1 b))<|.leaf (zu [.dat i64<|KO a (E0 b,E1 b),.dat wU<|KR a (E0 b,E1 b)]) []):=by kernel_rfl
end T133
namespace T67
def T(a b:AM):Tr:=tree XJ2 false 9 67<|Ag ([A3,A3]) (a,b)
theorem Aj(a b:AM):T a b=let c:Tr:=.ck (Bd a&&Bd b)<|.ck (z7 (ZB a b,ZJ a b))<|.leaf (.dat i64<|IK (ZB a b,ZJ a b)) [];.ite (!decide (0<length (snd a))) (.ite (!decide (0<length (snd b))) (.di (fst a<fst b) (.leaf (.dat i64 (-1:Int)) [])<|.di (fst a>fst b) (.leaf (.dat i64 (1:Int)) [])<|.leaf (.dat i64 (0:Int)) []) c) c:=by kernel_rfl
end T67
end
theorem Tp(k:Nat):((Ap^k:Nat):Int)=(Ap:Int)^k:=yj ..
theorem Lr{n:Int}{k:Nat}(h0:0<=n)(h:n<(Ap:Int)^k):(BF n).length<=k:=by
 refine OV Ap af k n.toNat n.toNat ?_;rw[<-Tp]at h;generalize Ap^k=P at*;omega
theorem Dn{n:Int}{k:Nat}(h0:0<=n)(h:n<(Ap:Int)^k)(c:k<=20000):Cz (BF n)=true/\De (BF n)=true/\Av (BF n)=n:=by
 have d:=Lr h0 h;have a:De (BF n)=true:=ER ae (Gg af n);have b:Sp.nzW (BF n)=true:=by
  unfold Sp.nzW;exact w4 (Zn af n)
 exact⟨by unfold Cz;rw[a,b];rfl,a,Dj af h0⟩
theorem Cf{a:AM}(h:Bd a=true):z7 a=true/\a.2.length<=9000:=by
 unfold Bd at h;rw[zg,w5]at h;exact h
theorem X3{s:Int}{w:List Int}(a:w≠[]):zf (s,w)=if s<0 then -Av w else Av w:=by unfold zf;exact wc a
theorem QR{a:AM}(h:z7 a=true):(a.2=[]/\Ah (zf a)<=9223372036854775808)\/(BF (Ah<|zf a)=a.2):=by
 obtain⟨hr,b⟩:=Eg h;obtain⟨s,w⟩:=a;have hr: -9223372036854775808<=s/\s<9223372036854775808:=hr;rcases b with b|⟨g,e,c⟩
 ·have b:w=[]:=b;subst b;refine .inl ⟨rfl,?_⟩;rw[Fc];simp only[Al];omega
 ·obtain⟨n1,f,j⟩:=FN (l:=w) g;have e:s=1\/s= -1:=e;have c:9223372036854775808<=Av w:=c;have d:w≠[]:=by rintro rfl;exact wh c af
  refine .inr ?_;have i:Ah (zf (s,w))=Av w:=by rw[X3 d];simp only[Al];split<;>omega
  rw[i];exact(Jf af f j).symm
theorem AO(n:Int):0<=Ah n:=by simp only[Al];omega
theorem JN{a:AM}(h:z7 a=true){k:Nat}(c:a.2.length<=k)(d:1<=k):Ah (zf a)<(Ap:Int)^k:=by
 rcases QR h with⟨_,g⟩|he
 ·have:=AP (b:=Ap) af d;rw[Int.pow_one]at this;have e:(9223372036854775808:Int)<(Ap:Int):=af
  exact ye g<|Int.lt_of_lt_of_le e this
 ·have f:=Dj (b:=Ap) af<|AO<|zf a;have:=BC (b:=Ap) af (Gg (b:=Ap) af<|Ah<|zf a);rw[f,show Sp.dg Ap (Ah<|zf a)=a.2 from he]at this;exact Int.lt_of_lt_of_le this (AP af c)
theorem NM{x y:Int}(e:0<=x)(g:x<(Ap:Int)^9000)(h:y<(Ap:Int)^9000):x+y<(Ap:Int)^9001/\x*y<(Ap:Int)^18000:=by
 have d:(Ap:Int)^9001=(Ap:Int)^9000*Ap:=qx ..;have f:(Ap:Int)^18000=(Ap:Int)^9000*(Ap:Int)^9000:=Int.pow_add _ 9000 9000;rw[d,f];generalize (Ap:Int)^9000=P at*;refine⟨?_,?_⟩
 ·show x+y<P*18446744073709551616;omega
 ·have a:=z8 (show y<=P-1 by omega) e;have b:=zi (show x<=P-1 by omega) (show 0<=P-1 by omega);have c:(P-1)*(P-1)=P*P-P-P+1:=by
   rw[Int.sub_mul,qo];omega
  omega
theorem DU(n:Bool)(v:Int):y7 n v=if n=true then -v else v:=rfl
theorem CP(n:Int):zf (Dh n)=n:=by
 unfold Dh;split
 ·exact Fc
 ·have a:=Dj (b:=Ap) af<|AO n;have c:BF (Ah n)≠[]:=by
   intro h;rw[show Sp.dg Ap (Ah n)=[]from h]at a;have:(0:Int)=Ah n:=a;simp only[Al]at this;omega
  rw[X3 c,show Av (BF<|Ah n)=Ah n from a];simp only[Al];split<;>split<;>omega
theorem bY{a:AM}{c:Bool}(h:(!decide (0<a.2.length))=c):(c=true->a.2=[])/\(c=false->a.2≠[]):=by
 subst h;rcases a with⟨s,w⟩
 cases w<;>simp
theorem PB{a:AM}(h:(!decide (0<a.2.length))=true):a.2=[]:=(bY h).1 rfl
theorem oJ{a:AM}(h:(!decide (0<a.2.length))=false):a.2≠[]:=(bY h).2 rfl
theorem Bv{a:AM}(h:a.2=[]):zf a=a.1:=by unfold zf;exact wd h
theorem words{a:AM}(h:Bd a=true):z7 a=true/\qw (BF<|Ah<|zf a)=true/\Cz (BF<|Ah<|zf a)=true/\De (BF<|Ah<|zf a)=true/\Av (BF<|Ah<|zf a)=Ah (zf a)/\Ah (zf a)<(Ap:Int)^9000:=by
 obtain⟨c,f⟩:=Cf h;have b:=JN c f ae;obtain⟨n,d,v⟩:=Dn (AO _) b ae;have e:=Lr (AO _) b;refine⟨c,?_,n,d,v,b⟩;unfold qw;rw[d,yd];exact w4 e
theorem Ab{a b:Bool}(c:a=true)(d:b=true):(a&&b)=true:=by rw[c,d];rfl
theorem wn{i:Nat}(h:i<9223372036854775807):zc .i64 ((i:Int)+1)=((i+1:Nat):Int):=by rw[wr _ ae ae];omega
theorem ad{p q:Prop}[Decidable p][Decidable q](a:p)(b:q):(decide p&&decide q)=true:=Ab (w4 a)<|w4 b
theorem nb{i n:Nat}(h:i<n):(decide ((0:Int)<=(i:Int))&&decide ((i:Int)<(n:Int)))=true:=ad ae ae
theorem My(n:Int):Sp.Og n=if n<0 then -1 else if n>0 then 1 else 0:=rfl
theorem AcB{a:AM}(h:z7 a=true):imax (-1) (Fa 1 a.1)=Sp.Og (zf a):=by
 obtain⟨hr,b⟩:=Eg h;obtain⟨s,w⟩:=a;rcases b with b|⟨g,f,c⟩
 ·have b:w=[]:=b;subst b;rw[Fc,My,tV];show imax (-1) (if (1:Int)<=s then 1 else s)=_;unfold imax;split<;>split<;>split<;>(try split)<;>omega
 ·have f:s=1\/s= -1:=f;have c:9223372036854775808<=Av w:=c;have d:w≠[]:=by rintro rfl;exact wh c af
  rw[X3 d,My];rcases f with rfl|rfl
  ·have e:(if (1:Int)<0 then -Av w else Av w)=Av w:=wc af;rw[e,wc (show ¬Av w<0 by omega),wd<|show Av w>0 by omega];show imax (-1) (Fa 1 1)=1;decide
  ·have e:(if (-1:Int)<0 then -Av w else Av w)= -Av w:=wd af;rw[e,wd<|show -Av w<0 by omega];show imax (-1) (Fa 1<| -1)= -1;decide
namespace T162
theorem ok:Af A4 162 Vo:=by
 refine BD Uy<|fun(a:Int×List Int) b=>?_;have b:z7 a=true:=b;have f:Cz (BF<|Ah<|zf a)=true/\Av (BF<|Ah<|zf a)=Ah (zf a):=by
  refine⟨?_,Dj af<|AO _⟩;rcases QR b with⟨_,j⟩|he
  ·have:(9223372036854775808:Int)<(Ap:Int)^1:=af
   exact(Dn (AO _) (ye j this) ae).1
  ·obtain⟨_,e⟩:=Eg b;rw[he];rcases e with e|⟨i,_⟩
   ·rw[e];decide+kernel
   ·exact i
 have g:y7 (!decide (zf a<0)) (Av<|BF<|Ah<|zf a)= -zf a:=by
  rw[f.2,DU,Al];rcases z6 (zf a) 0 with h|h
  ·rw[w4 h];simp;omega
  ·rw[w8 ae];simp;omega
 have hr:=(Eg b).1;refine yi (Aj a)<|zk (fun c=>zk (fun d=>zh<|zx rfl rfl ?_)<|fun d=>ze b<|ze f.1<|zh<|zx rfl rfl ?_)<|fun c=>ze b<|ze f.1<|zh<|zx rfl rfl ?_
 ·have c:=PB c;have d:a.1≠ -9223372036854775808:=by simpa using d
  show(zc .i64<|0-a.1,[])=DA a;unfold DA;rw[wd ⟨c,d⟩,wr _ ae ae,Int.zero_sub]
 ·have d:a.1= -9223372036854775808:=by simpa using d
  show Dh (y7 (!decide (zf a<0))<|Av<|BF<|Ah<|zf a)=DA a;unfold DA;rw[wc<|fun h=>h.2 d,g]
 ·have c:=oJ c;show Dh (y7 (!decide (zf a<0))<|Av<|BF<|Ah<|zf a)=DA a;unfold DA;rw[wc<|fun h=>c h.1,g]
end T162
namespace T124
theorem ok:Af A4 124 Pt:=by
 refine BD Uy<|fun(i:(Int×List Int)×(Int×List Int)) n=>?_;obtain⟨a,b⟩:=i;have n:(Bd a&&Bd b)=true:=n;rw[zg]at n;obtain⟨a1,a2,a3,a4,a5,a6⟩:=words n.1;obtain⟨b1,b2,b3,b4,b5,b6⟩:=words n.2;have x:=(Eg a1).1;have y:=(Eg b1).1;have z:=AO<|zf a;have nb:=AO<|zf b;obtain⟨t1,_⟩:=NM z a6 b6;have q:∀v ob,EW a b=Dh v->Ac Pt (a,b) (.agg [.dat i64<|C9 v,.dat (.nlist<|.int .u64)<|C8 v]) ob:=fun v ob h=>zx rfl rfl (by
  show Dh v=EW a b;rw[h])
 have mono:(Ap:Int)^9000<=(Ap:Int)^9001:=AP af ae;have k:decide (zf a<0)=decide (zf b<0)->y7 (decide (zf a<0)) (Av<|BF<|Av (BF<|Ah<|zf a)+Av (BF<|Ah<|zf b))=zf a+zf b:=by
  intro e;rw[a5,b5,show Av (BF<|Ah (zf a)+Ah (zf b))=_ from Dj af ae,DU,Al,Al];rcases z6 (zf a) 0 with h|h
  ·rw[w4 h]at e ⊢;have:=w6 e.symm;simp only[wk];omega
  ·rw[w8 ae]at e ⊢;have:=w7 e.symm;simp only[y8,vf];omega
 have j:decide (zf a<0)≠decide (zf b<0)->Ah (zf b)<=Ah (zf a)->y7 (decide (zf a<0)) (Av<|BF<|Av (BF<|Ah<|zf a)-Av (BF<|Ah<|zf b))=zf a+zf b:=by
  intro e s;rw[a5,b5,show Av (BF<|Ah (zf a)-Ah (zf b))=_ from Dj af ae,DU,Al,Al];rcases z6 (zf a) 0 with h|h
  ·rw[w4 h]at e ⊢;have:¬zf b<0:=fun h=>e (w4 h).symm
   simp only[wk];omega
  ·rw[w8 ae]at e ⊢;have:zf b<0:=by
    rcases z6 (zf b) 0 with h|h
    ·exact h
    ·exact wh (w8 ae).symm e
   simp only[y8,vf];omega
 have l:decide (zf a<0)≠decide (zf b<0)->Ah (zf a)<=Ah (zf b)->y7 (decide (zf b<0)) (Av<|BF<|Av (BF<|Ah<|zf b)-Av (BF<|Ah<|zf a))=zf a+zf b:=by
  intro e s;rw[a5,b5,show Av (BF<|Ah (zf b)-Ah (zf a))=_ from Dj af ae,DU,Al,Al];rcases z6 (zf b) 0 with h|h
  ·rw[w4 h]at e ⊢;have:¬zf a<0:=fun h=>e<|w4 h
   simp only[wk];omega
  ·rw[w8<|show ¬zf b<0 by omega]at e ⊢;have:zf a<0:=by
    rcases z6 (zf a) 0 with h|h
    ·exact h
    ·exact wh (w8 ae) e
   simp only[y8,vf];omega
 have n1:Cz (BF<|Av (BF<|Ah<|zf a)+Av (BF<|Ah<|zf b))=true:=by
  rw[a5,b5];exact(Dn ae t1 ae).1
 have B:Ah (zf b)<=Ah (zf a)->Cz (BF<|Av (BF<|Ah<|zf a)-Av (BF<|Ah<|zf b))=true:=by
  intro h;rw[a5,b5];exact(Dn ae (ye ae a6) ae).1
 have A:Ah (zf a)<=Ah (zf b)->Cz (BF<|Av (BF<|Ah<|zf b)-Av (BF<|Ah<|zf a))=true:=by
  intro h;rw[a5,b5];exact(Dn ae (ye ae b6) ae).1
 have f:∀ {c:Bool},decide (Cp (Av<|BF<|Ah<|zf a) (Av<|BF<|Ah<|zf b)>=0)=c->(c=true->Ah (zf b)<=Ah (zf a))/\(c=false->Ah (zf a)<=Ah (zf b)):=by
  intro c h;subst h;rw[a5,b5,w5,w9];unfold Cp;constructor
  ·intro h;split at h<;>omega
  ·intro h;split at h
   ·omega
   ·split at h<;>omega
 refine yi (Aj a b)<|zk (fun o=>zk (fun m=>zk (fun g=>zh<|zx rfl rfl ?_)<|fun g=>?_)<|fun m=>?_)<|fun o=>?_
 ·have o:=PB o;have m:=PB m;have p:zc .i64 (a.1+b.1)=a.1+b.1:=by
   rw[wj]at g;rcases z6 (a.1+b.1) (-9223372036854775808)with h|h
   ·exfalso;have e:zc .i64 (a.1+b.1)=a.1+b.1+18446744073709551616:=by rw[qg];omega
    rw[e,w4 ae,w8 ae]at g;cases g
   ·rcases z6 (a.1+b.1) 9223372036854775808 with t|t
    ·exact wr _ ae ae
    ·exfalso;have e:zc .i64 (a.1+b.1)=a.1+b.1-18446744073709551616:=by rw[qg];omega
     rw[e,w8 ae,w4 ae]at g;cases g
  have hr:Ct (a.1+b.1)=true:=by
   have: -9223372036854775808<=zc .i64 (a.1+b.1)/\zc .i64 (a.1+b.1)<9223372036854775808:=by rw[qg];omega
   rw[p]at this;unfold Ct;rw[zg,w5,w5];exact this
  show(zc .i64<|a.1+b.1,[])=EW a b;unfold EW;rw[wd ⟨o,m,hr⟩,p]
 all_goals
  have r:EW a b=Dh (zf a+zf b):=by
   unfold EW;refine wc<|fun h=>?_;obtain⟨w,t,u⟩:=h;first
    |exact oJ o w
    |exact oJ m t
    |(have u:=EN u
      have p:zc .i64 (a.1+b.1)=a.1+b.1:=wr _ ae ae;rw[p,vc]at g;refine g ?_;rcases z6 0 b.1 with h|h
      ·rw[w4 (show a.1+b.1>a.1 by omega),w4 h]
      ·rw[w8 (show ¬a.1+b.1>a.1 by omega),w8<|show ¬b.1>0 by omega])
  refine ze a1<|ze b1<|zk (fun e=>ze (Ab a2 b2)<|ze n1<|zh<|q _ _ ?_)<|fun e=>ze (Ab a3 b3)<|zk (fun d=>ze ?_<|ze (B<|(f d).1 rfl)<|zh<|q _ _ ?_)<|fun d=>ze ?_<|ze (A<|(f d).2 rfl)<|zh<|q _ _ ?_
  ·rw[r];exact wi _ (k<|by simpa using e).symm
  ·refine Ab (Ab a4 b4)<|w4 ?_;rw[a5,b5];exact(f d).1 rfl
  ·rw[r];exact wi _ (j (by simpa using e)<|(f d).1 rfl).symm
  ·refine Ab (Ab b4 a4)<|w4 ?_;rw[a5,b5];exact(f d).2 rfl
  ·rw[r];exact wi _ (l (by simpa using e)<|(f d).2 rfl).symm
end T124
theorem D8{n:Int}(a: -9223372036854775808<=n)(b:n<9223372036854775808):Ct n=true:=by
 unfold Ct;rw[zg,w5,w5];exact⟨a,b⟩
theorem Mt{n:Int}(h:Ct n=true):z7 (n,[])=true:=by
 unfold z7;rw[h];rfl
theorem OY{n:Int}{k:Nat}(h:Ah n<(Ap:Int)^k)(a:k<=20000):z7 (Dh n)=true/\(Dh n).2.length<=k:=by
 unfold Dh;split
 ·next c=>exact⟨Mt (D8 ae ae),Nat.zero_le _⟩
 ·next c=>
  obtain⟨n1,e,b⟩:=Dn (AO n) h a;refine⟨?_,Lr (AO n) h⟩;have d:9223372036854775808<=Ah n:=by rw[Al];omega
  unfold z7;refine Ab (D8 ?_ ?_) ?_
  ·show -9223372036854775808<=(if n<0 then -1 else 1);split<;>decide
  ·show(if n<0 then -1 else 1)<9223372036854775808;split<;>decide
  ·rw[ql];refine .inr (Ab (Ab n1 ?_) (w4<|by show _<=Av (BF<|Ah n);rw[b];exact d));show(decide ((if n<0 then(-1:Int)else 1)=1)||decide ((if n<0 then(-1:Int)else 1)= -1))=true;split<;>rfl
theorem IY(a:AM):zf (DA a)= -zf a:=by
 unfold DA;split
 ·next h=>rw[Fc,Bv h.1]
 ·exact CP _
theorem Jb(n:Int):Ah (-n)=Ah n:=by rw[Al,Al];omega
theorem XZ{a:AM}(h:z7 a=true){k:Nat}(b:1<=k)(d:k<=20000)(e:a.2.length<=k):z7 (DA a)=true/\(DA a).2.length<=k:=by
 have hr:=(Eg h).1;unfold DA;split
 ·next c=>exact⟨Mt (D8 ae ae),Nat.zero_le _⟩
 ·exact OY (by rw[Jb];exact JN h e b) d
theorem WK{a:AM}(h:Bd a=true):Bd (DA a)=true:=by
 obtain⟨b,c⟩:=Cf h;obtain⟨h3,h4⟩:=XZ b (k:=9000) ae ae c;unfold Bd;exact Ab h3<|w4 h4
theorem uP{a:AM}(h:z7 a=true):a.1<0↔zf a<0:=by
 obtain⟨_,b⟩:=Eg h;obtain⟨s,w⟩:=a;rcases b with b|⟨_,e,d⟩
 ·have b:w=[]:=b;subst b;rw[Fc]
 ·have e:s=1\/s= -1:=e;have d:9223372036854775808<=Av w:=d;have c:w≠[]:=by rintro rfl;exact wh d af
  rw[X3 c];show s<0↔_;split<;>omega
theorem Yl(a b:AM):zf (EW a b)=zf a+zf b:=by
 unfold EW;split
 ·next h=>rw[Fc,Bv h.1,Bv h.2.1]
 ·exact CP _
theorem wS(x y:Int):Ah (x+y)<=Ah x+Ah y:=by
 rw[Al,Al,Al];omega
theorem JZ(x y:Int):Ah (x*y)=Ah x*Ah y:=by
 rw[Al,Al,Al,Int.natAbs_mul,yp]
theorem bounds{a:AM}(h:Bd a=true):Ah (zf a)<(Ap:Int)^9000:=(words h).2.2.2.2.2
theorem U1{a b:AM}(c:Bd a=true)(d:Bd b=true):z7 (EW a b)=true:=by
 unfold EW;split
 ·next h=>exact Mt h.2.2
 ·exact(OY (ye (wS _ _) (NM (AO _) (bounds c)<|bounds d).1) ae).1
theorem oR(a b:AM):zf (Ot a b)=zf a-zf b:=by
 unfold Ot;rw[Yl,IY];omega
theorem DS(a b:AM):zf (FU a b)=zf a*zf b:=CP _
theorem ZN:CE XJ1:=
 Aa T162.ok (Aa T124.ok Ay)
namespace T134
theorem ok:Af A4 134 K0:=by
 refine BD Kt<|fun(a:Int×List Int) b=>?_;have b:z7 a=true:=b;exact yi (Aj a)<|zh<|zx rfl rfl (AcB b)
end T134
namespace T215
theorem ok:Af A4 215 Aa6:=by
 refine BD ZN<|fun(a:Int×List Int) b=>?_;have b:z7 a=true:=b;refine yi (Aj a)<|zk (fun c=>ze b<|zh<|zx rfl rfl ?_)<|fun c=>zh<|zx rfl rfl ?_
 ·show DA a=Vj a;unfold Vj;rw[wd<|w6 c]
 ·show a=Vj a;unfold Vj;rw[wc<|w7 c]
end T215
namespace T133
theorem ok:Af A4 133 rY:=by
 refine BD ZN<|fun(i:(Int×List Int)×(Int×List Int)) c=>?_;obtain⟨a,b⟩:=i;have c:(Bd a&&Bd b)=true:=c;rw[zg]at c;exact yi (Aj a b)<|ze (Cf c.2).1<|ze (Ab c.1<|WK c.2)<|zh<|zx rfl rfl rfl
end T133
theorem wP:CE XJ2:=
 Aa T133.ok (Aa T134.ok Ay)
theorem yD(x y:Int):Sp.Og (x-y)=Cp x y:=by
 unfold Sp.Og Cp;split
 ·rw[wd ae]
 ·split
  ·rw[wc ae,wd ae]
  ·rw[wc ae,wc ae]
namespace T67
theorem ok:Af A4 67 nY:=by
 refine BD wP<|fun(i:(Int×List Int)×(Int×List Int)) f=>?_;obtain⟨a,b⟩:=i;have f:(Bd a&&Bd b)=true:=f;have c:=f;rw[zg]at c;have k:z7 (Ot a b)=true:=by
  unfold Ot;exact U1 c.1<|WK c.2
 have j:IK (Ot a b)=fI a b:=by
  show Sp.Og (zf<|Ot a b)=Cp (zf a) (zf b);rw[oR,yD]
 refine yi (Aj a b)<|zk (fun h=>zk (fun g=>zk (fun d=>zh<|zx rfl rfl ?_)<|fun d=>zk (fun e=>zh<|zx rfl rfl ?_)<|fun e=>zh<|zx rfl rfl ?_)<|fun g=>ze f<|ze k<|zh<|zx rfl rfl j)<|fun h=>ze f<|ze k<|zh<|zx rfl rfl j;all_goals
  have l:=Bv<|PB h;have m:=Bv<|PB g;show _=Cp (zf a) (zf b);rw[l,m];unfold Cp
 ·rw[wd<|w6 d]
 ·rw[wc<|w7 d,wd<|w6 e]
 ·rw[wc<|w7 d,wc<|w7 e]
end T67
theorem U7(x y:Int):x*y=y7 (!(decide (x<0)==decide (y<0))) (Ah x*Ah y):=by
 unfold Ah;rw[DU];by_cases a:x<0<;>by_cases b:y<0<;>simp[a,b,Int.neg_mul,Int.mul_neg]
namespace T125
theorem ok:Af A4 125 S4:=by
 refine BD Uy<|fun(i:(Int×List Int)×(Int×List Int)) f=>?_;obtain⟨a,b⟩:=i;have f:(Bd a&&Bd b)=true:=f;rw[zg]at f;obtain⟨a1,a2,a3,a4,a5,a6⟩:=words f.1;obtain⟨b1,b2,b3,b4,b5,b6⟩:=words f.2;have d:=(Eg a1).1;have e:=(Eg b1).1;have o:=AO<|zf a;have nb:=AO<|zf b;obtain⟨_,t2⟩:=NM o a6 b6;have np:0<=Ah (zf a)*Ah (zf b):=zo o nb;have n1:Cz (BF<|Av (BF<|Ah<|zf a)*Av (BF<|Ah<|zf b))=true:=by
  rw[a5,b5];exact(Dn np t2 ae).1
 have p:y7 (!(decide (zf a<0)==decide (zf b<0))) (Av<|BF<|Av (BF<|Ah<|zf a)*Av (BF<|Ah<|zf b))=zf a*zf b:=by
  rw[a5,b5,show Av (BF<|Ah (zf a)*Ah (zf b))=_ from Dj af np, <-U7]
 have q:∀ob,Ac S4 (a,b) (.agg [.dat i64<|C9<|y7 (!(decide (zf a<0)==decide (zf b<0)))<|Av<|BF<|Av (BF<|Ah<|zf a)*Av (BF<|Ah<|zf b),.dat (.nlist<|.int .u64)<|C8<|y7 (!(decide (zf a<0)==decide (zf b<0)))<|Av<|BF<|Av (BF<|Ah<|zf a)*Av (BF<|Ah<|zf b)]) ob:=fun ob=>zx rfl rfl (by
  show Dh _=Dh (zf a*zf b);rw[p])
 have r:zz (Ah a.1)=true:=C3 (AO _) (by rw[Al];omega);have ub:zz (Ah b.1)=true:=C3 (AO _) (by rw[Al];omega);refine yi (Aj a b)<|zk (fun n=>zk (fun k=>ze (D8 d.1 d.2)<|ze (D8 e.1 e.2)<|ze (Ab r ub)<|zk (fun h=>zk (fun g=>zk (fun c=>zh<|zx rfl rfl ?_)<|fun c=>zh<|zx rfl rfl ?_)<|fun g=>?_)<|fun h=>?_)<|fun k=>?_)<|fun n=>?_
 ·have l:=Bv<|PB n;have m:=Bv<|PB k;have h:(Ah a.1*Ah b.1)/18446744073709551616=0:=by simpa [Sb]using h
  have g:(Ah a.1*Ah b.1) % 18446744073709551616<=9223372036854775807:=w6 g;have p0:0<=Ah a.1*Ah b.1:=zo (AO _)<|AO _;have j:=U7 a.1 b.1;have c:(!(decide (a.1<0)==decide (b.1<0)))=true:=c;rw[c,DU,wd rfl]at j;show(zc .i64<|0-zc .i64 ((Ah a.1*Ah b.1) % 18446744073709551616),[])=Dh (zf a*zf b);rw[l,m,j,Cm ae,wr ((Ah a.1*Ah b.1) % 18446744073709551616) ae ae,wr _ ae ae];congr 1;omega
 ·have l:=Bv<|PB n;have m:=Bv<|PB k;have h:(Ah a.1*Ah b.1)/18446744073709551616=0:=by simpa [Sb]using h
  have g:(Ah a.1*Ah b.1) % 18446744073709551616<=9223372036854775807:=w6 g;have p0:0<=Ah a.1*Ah b.1:=zo (AO _)<|AO _;have j:=U7 a.1 b.1;have c:(!(decide (a.1<0)==decide (b.1<0)))=false:=c;rw[c,DU,wc af]at j;show(zc .i64<|(Ah a.1*Ah b.1) % 18446744073709551616,[])=Dh (zf a*zf b);rw[l,m,j,Cm ae,wr ((Ah a.1*Ah b.1) % 18446744073709551616) ae ae];congr 1;omega
 all_goals exact ze a1<|ze b1<|ze (Ab a2 b2)<|ze n1<|zh<|q _
end T125
end Go.Pe
namespace Go.Sp
def Fu(n:Int):Int:=if n<=0 then 0 else(n.toNat.log2:Int)+1
def lz(n:Int):Int:=64-Fu n
def dq(h l y:Int):Int:=(h*18446744073709551616+l)/y
def dr(h l y:Int):Int:=(h*18446744073709551616+l) % y
end Go.Sp
namespace Go.Pe
open Go.Det
def Y5:Am:=⟨[u64],fun n=>zz n,[i64],fun n=>Sp.Fu n,false⟩
def cLZ:Am:=⟨[u64],fun n=>zz n,[i64],fun n=>Sp.lz n,false⟩
def Vf:Am:=⟨[u64,u64,u64],fun i=>zz i.1&&zz i.2.1&&zz i.2.2&&decide ((i.1:Int)<i.2.2),[u64,u64],fun i=>(Sp.dq i.1 i.2.1 i.2.2,Sp.dr i.1 i.2.1 i.2.2),false⟩
def XD1:AL:=X7 [(229,Y5)]
def qX:AL:=X7 [(240,cLZ)]
section
open List Int Prod
namespace T229
def T(x:Int):Tr:=tree nD false 9 229<|Ag ([zt zd]) x
theorem Aj(x:Int):T x=let b:=([0,1,2,2,3,3,3,3,4,4,4,4,4,4,4,4,5,5,5,5,5,5,5,5,5,5,5,5,5,5,5,5,6,6,6,6,6,6,6,6,6,6,6,6,6,6,6,6,6,6,6,6,6,6,6,6,6,6,6,6,6,6,6,6,7,7,7,7,7,7,7,7,7,7,7,7,7,7,7,7,7,7,7,7,7,7,7,7,7,7,7,7,7,7,7,7,7,7,7,7,7,7,7,7,7,7,7,7,7,7,7,7,7,7,7,7,7,7,7,7,7,7,7,7,7,7,7,7,8,8,8,8,8,8,8,8,8,8,8,8,8,8,8,8,8,8,8,8,8,8,8,8,8,8,8,8,8,8,8,8,8,8,8,8,8,8,8,8,8,8,8,8,8,8,8,8,8,8,8,8,8,8,8,8,8,8,8,8,8,8,8,8,8,8,8,8,8,8,8,8,8,8,8,8,8,8,8,8,8,8,8,8,8,8,8,8,8,8,8,8,8,8,8,8,8,8,8,8,8,8,8,8,8,8,8,8,8,8,8,8,8,8,8,8,8,8,8,8,8,8,8,8,8,8,8,8]:Z);let b':=zm x<|2^32;let a:=(0:Sh.T (zt qv));let d:=zm x<|2^16;let e:=zm x<|2^8;let c:=zm b'<|2^16;let g:=zm b'<|2^8;let h':=zm d<|2^8;let f:=zm c<|2^8;.di (x>=4294967296) (.ck true<|.di (zm x (2^32)>=65536) (.ck true<|.di (zm b' (2^16)>=256) (.ck true<|.ck (decide (a<=zc .u8 f)&&decide (zc .u8 f<(↑256:Int)))<|.leaf (.dat i64<|zc .i64<|zc .i64 (zc .i64 (32+16)+8)+zc .i64 (↑(zp<|getD b (toNat<|zc .u8 f) (0:UInt8)):Int)) [])<|.ck (decide (a<=zc .u8 c)&&decide (zc .u8 c<(↑256:Int)))<|.leaf (.dat i64<|zc .i64<|zc .i64 (32+16)+zc .i64 (↑(zp<|getD b (toNat<|zc .u8 c) (0:UInt8)):Int)) [])<|.di (zm x (2^32)>=256) (.ck true<|.ck (decide (a<=zc .u8 g)&&decide (zc .u8 g<(↑256:Int)))<|.leaf (.dat i64<|zc .i64<|zc .i64 (32+8)+zc .i64 (↑(zp<|getD b (toNat<|zc .u8 g) (0:UInt8)):Int)) [])<|.ck (decide (a<=zc .u8 b')&&decide (zc .u8 b'<(↑256:Int)))<|.leaf (.dat i64<|zc .i64<|32+zc .i64 (↑(zp<|getD b (toNat<|zc .u8 b') (0:UInt8)):Int)) []) (.di (x>=65536) (.ck true<|.di (zm x (2^16)>=256) (.ck true<|.ck (decide (a<=zc .u8 h')&&decide (zc .u8 h'<(↑256:Int)))<|.leaf (.dat i64<|zc .i64<|zc .i64 (zc .i64 (0+16)+8)+zc .i64 (↑(zp<|getD b (toNat<|zc .u8 h') (0:UInt8)):Int)) [])<|.ck (decide (a<=zc .u8 d)&&decide (zc .u8 d<(↑256:Int)))<|.leaf (.dat i64<|zc .i64<|zc .i64 (0+16)+zc .i64 (↑(zp<|getD b (toNat<|zc .u8 d) (0:UInt8)):Int)) [])<|.di (x>=256) (.ck true<|.ck (decide (a<=zc .u8 e)&&decide (zc .u8 e<(↑256:Int)))<|.leaf (.dat i64<|zc .i64<|zc .i64 (0+8)+zc .i64 (↑(zp<|getD b (toNat<|zc .u8 e) (0:UInt8)):Int)) [])<|.ck (decide (a<=zc .u8 x)&&decide (zc .u8 x<(↑256:Int)))<|.leaf (.dat i64<|zc .i64<|0+zc .i64 (↑(zp<|getD b (toNat<|zc .u8 x) (0:UInt8)):Int)) []):=by kernel_rfl
end T229
namespace T240
def T(x:Int):Tr:=tree XD1 false 9 240<|Ag ([zt zd]) x
theorem Aj(x:Int):T x=.ck (zz x) (.leaf (.dat i64<|zc .i64<|64-Sp.Fu x) []):=by kernel_rfl
end T240
namespace T239
def T(a lo y:Int):Tr:=tree qX false 9 239<|Ag ([zt zd,zt zd,zt zd]) (a,lo,y)
def L1(v2 g v9 d a b c f e:Int):Tr:=re ((T 0 0 0).R.R.R.L.L.L.L.L.L.L.L)<|Aw 135 [(2,.dat (zt zd) v2),(8,.dat (zt zd) g),(9,.dat (zt zd) v9),(10,.dat (zt zd) d),(11,.dat (zt zd) a),(13,.dat (zt zd) b),(14,.dat (zt zd) c),(15,.dat (zt zd) f),(16,.dat (zt zd) e)] [] 0
theorem Aj(b lo y:Int):T b lo y=let d:=decide (0<=zc .u64 (Sp.lz y));let f:=64-zc .u64 (Sp.lz y);let g:=zc .u64<|Sp.lz y;let c:=toNat g;let e:=zm lo<|2^qj (toNat<|zc .u64 f) 64;let a:=zc .u64<|y*2^qj c 64;let h:=zc .u64<|lo*2^qj c 64;let i:=zc .u64<|b*2^qj c 64;let b':=dX zd i e;let h':=zm a<|2^32;.ite (y==0) .fail (.di (y<=b) .fail<|.ite (b==0) (.cd (y≠0)<|.cd (y≠0)<|.leaf (.tup [.dat (zt zd)<|zc .u64<|yo lo y,.dat (zt zd)<|qh lo y]) [])<|.ck (zz y)<|.ck d<|.ck true<|.ck d<|.cd (0<=zc .u64 f)<|.ck d<|.ck true<|.cd (zm a (2^32)≠0)<|L1 a g h' (Iv zd a 4294967295) b' (zm h<|2^32) (Iv zd h 4294967295) (zc .u64<|yo b' h')<|zc .u64<|dX zd i e-zc .u64 (zc .u64 (yo b' h')*zm a (2^32))):=by kernel_rfl
def L2(v2 g v9 d c f e a b:Int):Tr:=re ((stepT qX<|L1 0 0 0 0 0 0 0 0 0).L.L.L)<|Aw 135 [(2,.dat (zt zd) v2),(8,.dat (zt zd) g),(9,.dat (zt zd) v9),(10,.dat (zt zd) d),(14,.dat (zt zd) c),(15,.dat (zt zd) f),(16,.dat (zt zd) e),(17,.dat (zt zd) a),(18,.dat (zt zd) b)] [] 0
theorem Ak(v2 g v9 b f c d a e:Int):stepT qX (L1 v2 g v9 b f c d a e)=let j:=zc .u64 (f*4294967296)+c;let m:=zc .u64<|a-1;let b':=zc .u64 j-zc .u64 (zc .u64 (a-1)*v2);let k:=zc .u64 j-zc .u64 (a*v2);let h:=zc .u64 k;let i:=zc .u64 b';let l:Tr:=.di (zc .u64 (e+v9)>=4294967296) (.cd (v9≠0)<|L2 v2 g v9 b d m (zc .u64<|zc .u64 b'-zc .u64 (zc .u64 (yo i v9)*v9)) i<|zc .u64<|yo i v9)<|L1 v2 g v9 b f c d m<|zc .u64<|e+v9;.di (a>=4294967296) l (.di (zc .u64 (a*b)>zc .u64 (zc .u64 (4294967296*e)+c)) l<|.cd (v9≠0)<|L2 v2 g v9 b d a (zc .u64<|zc .u64 k-zc .u64 (zc .u64 (yo h v9)*v9)) h<|zc .u64<|yo h v9):=by kernel_rfl
theorem Az(v2 g v9 f b d c e a:Int):stepT qX (L2 v2 g v9 f b d c e a)=let b':=zt zd;let i:=zc .u64 (e*4294967296)+b;let h:=2^qj (toNat g) 64;let j:Tr:=.di (zc .u64 (c+v9)>=4294967296) (.cd (0<=g)<|.leaf (.tup [.dat b'<|zc .u64<|zc .u64 (d*4294967296)+zc .u64 (a-1),.dat b'<|zm (zc .u64<|zc .u64 i-zc .u64 (zc .u64 (a-1)*v2)) h]) [])<|L2 v2 g v9 f b d (zc .u64<|c+v9) e<|zc .u64<|a-1;.di (a>=4294967296) j (.di (zc .u64 (a*f)>zc .u64 (zc .u64 (4294967296*c)+b)) j<|.cd (0<=g)<|.leaf (.tup [.dat b'<|zc .u64<|zc .u64 (d*4294967296)+a,.dat b'<|zm (zc .u64<|zc .u64 i-zc .u64 (a*v2)) h]) []):=by kernel_rfl
end T239
end
namespace T239
def Exact(Y u w q:Int):Prop:=q*Y<=u*4294967296+w/\u*4294967296+w<(q+1)*Y
theorem cH{Y a b u w q r:Int}(c:Y=a*4294967296+b)(d:q*a+r=u)(h:q*b>4294967296*r+w):u*4294967296+w<q*Y:=by
 subst c;rw[yc, <-zq];generalize q*a=A at*;generalize q*b=C at*;omega
theorem Mk{Y a b u w q r:Int}(c:Y=a*4294967296+b)(d:q*a+r=u)(h:q*b<=4294967296*r+w):q*Y<=u*4294967296+w:=by
 subst c;rw[yc, <-zq];generalize q*a=A at*;generalize q*b=C at*;omega
theorem VA{Y u w q:Int}(c:u<Y)(b:0<=Y)(d:w<4294967296)(a:4294967296<=q):u*4294967296+w<q*Y:=by
 have:=zi a b;omega
theorem V8{b c u w r:Int}{n:Nat}{Y:Int}(e:Y=b*4294967296+c)(d:0<=b)(h0:0<=c/\c<4294967296)(g:u<Y)(j:0<=w)(f:(n:Int)*b+r=u)(hr:4294967296<=r):(n:Int)*Y<=u*4294967296+w:=by
 have i:(n:Int)<4294967296:=by
  rcases z6 (n:Int) 4294967296 with h|h
  ·exact h
  ·have:=zi h d;omega
 refine Mk e f ?_;have a:=zi (show(n:Int)<=4294967295 by omega) h0.1;omega
theorem Ar(Y s f g u w z:Int)(v:Y=f*4294967296+g)(I:0<f/\f<4294967296)(h0:0<=g/\g<4294967296)(B:u<Y)(y:0<=w/\w<4294967296)
  (t:∀q:Int,0<=q->Exact Y u w q->Ends qX (L2 Y s f g z q (zc zd<|zc zd (zc zd (zc zd (u*(4294967296:Int))+w)-zc zd (q*Y))-zc zd (zc zd (yo (zc zd<|zc zd (zc zd (u*(4294967296:Int))+w)-zc zd (q*Y)) f)*f)) (zc zd<|zc zd (zc zd (u*(4294967296:Int))+w)-zc zd (q*Y))<|zc zd<|yo (zc zd<|zc zd (zc zd (u*(4294967296:Int))+w)-zc zd (q*Y)) f) Q):
  ∀(n:Nat) (r:Int),(n:Int)<18446744073709551616->(n:Int)*f+r=u->0<=r->r<4294967296->u*4294967296+w<((n:Int)+1)*Y->Ends qX (L1 Y s f g u w z n r) Q:=by
 intro n;induction n with
 |zero=>
  intro r G o H C j;have m:decide (f≠0)=true:=w4 ae;refine yq (Ak ..) (yk (by simp)<|yk (w8 ?_)<|ze m<|t _ ae ⟨?_,j⟩)
  ·rw[show((0:Nat):Int)*g=0 by simp,wu 0 ae ae,wu (4294967296*r) ae ae,wu _ ae ae];omega
  ·exact Mk v o (by rw[show((0:Nat):Int)*g=0 by simp];omega)
 |succ n F=>
  intro r G o H C j;have m:decide (f≠0)=true:=w4 ae;have D:zc .u64 (((n+1:Nat):Int)-1)=(n:Int):=by rw[wu _ ae ae];omega
  have E:zc .u64 (r+f)=r+f:=wu _ ae ae;have x:0<=Y:=ae
  have k:(n:Int)*f+(r+f)=u:=by
   rw[show((n+1:Nat):Int)=(n:Int)+1 by omega,zw,yh]at o;omega
  have A:((n+1:Nat):Int)=(n:Int)+1:=ae
  have p:u*4294967296+w<((n:Int)+1)*Y->r+f<4294967296->Ends qX (L1 Y s f g u w z n<|r+f) Q:=fun h i=>
   F (r+f) ae k ae i h
  have cut:u*4294967296+w<((n:Int)+1)*Y->4294967296<=r+f->Exact Y u w n:=fun h i=>
   ⟨V8 v ae h0 B y.1 k i,h⟩
  refine yq (Ak ..) ?_;conv=>zeta
  rw[D,E];refine zk (fun c=>?_)<|fun c=>zk (fun d=>?_)<|fun d=>?_
  ·have c:=w6 c;have l:u*4294967296+w<((n:Int)+1)*Y:=by rw[<-A];exact VA B x y.2 c
   exact zk (fun e=>ze m<|t _ ae<|cut l<|w6 e) (fun e=>p l (by have:=w7 e;omega))
  ·have c:=w7 c;have d:=w6 d;have a:=zi (show((n+1:Nat):Int)<=4294967295 by omega) h0.1;have b:=zo (show 0<=((n+1:Nat):Int)by omega) h0.1;rw[wu (((n+1:Nat):Int)*g) ae ae,wu (4294967296*r) ae ae,wu _ ae ae]at d;have l:u*4294967296+w<((n:Int)+1)*Y:=by rw[<-A];exact cH v o d
   exact zk (fun e=>ze m<|t _ ae<|cut l<|w6 e) (fun e=>p l (by have:=w7 e;omega))
  ·have c:=w7 c;have d:=w7 d;have a:=zi (show((n+1:Nat):Int)<=4294967295 by omega) h0.1;have b:=zo (show 0<=((n+1:Nat):Int)by omega) h0.1;rw[wu (((n+1:Nat):Int)*g) ae ae,wu (4294967296*r) ae ae,wu _ ae ae]at d;exact ze m (t _ ae ⟨Mk v o ae,j⟩)
theorem A5(Y s f g u w p:Int)(x:Y=f*4294967296+g)(J:0<f/\f<4294967296)(h0:0<=g/\g<4294967296)(C:u<Y)(z:0<=w/\w<4294967296)(B:0<=s)
  (v:∀q:Int,0<=q->Exact Y u w q->∀ob,Q (PV.tup [PV.dat (zt zd)<|zc zd<|zc zd (p*(4294967296:Int))+q,PV.dat (zt zd)<|zm (zc zd<|zc zd (zc zd (u*(4294967296:Int))+w)-zc zd (q*Y))<|(2:Int)^qj (qq s) (64:Nat)]) ob):
  ∀(n:Nat) (r:Int),(n:Int)<18446744073709551616->(n:Int)*f+r=u->0<=r->r<4294967296->u*4294967296+w<((n:Int)+1)*Y->Ends qX (L2 Y s f g w p r u n) Q:=by
 intro n;induction n with
 |zero=>
  intro r H o I F h;have m:decide (0<=s)=true:=w4 B;refine yq (Az ..) (yk (by simp) (yk (w8 ?_)<|ze m<|zh<|v _ ae ⟨?_,h⟩ _))
  ·rw[show((0:Nat):Int)*g=0 by simp,wu 0 ae ae,wu (4294967296*r) ae ae,wu _ ae ae];omega
  ·exact Mk x o (by rw[show((0:Nat):Int)*g=0 by simp];omega)
 |succ n E=>
  intro r H o I F h;have m:decide (0<=s)=true:=w4 B;have D:zc .u64 (((n+1:Nat):Int)-1)=(n:Int):=by rw[wu _ ae ae];omega
  have G:zc .u64 (r+f)=r+f:=wu _ ae ae;have y:0<=Y:=ae
  have k:(n:Int)*f+(r+f)=u:=by
   rw[show((n+1:Nat):Int)=(n:Int)+1 by omega,zw,yh]at o;omega
  have A:((n+1:Nat):Int)=(n:Int)+1:=ae
  have t:u*4294967296+w<((n:Int)+1)*Y->r+f<4294967296->Ends qX (L2 Y s f g w p (r+f) u n) Q:=fun i j=>
   E (r+f) ae k ae j i
  have cut:u*4294967296+w<((n:Int)+1)*Y->4294967296<=r+f->Exact Y u w n:=fun i j=>
   ⟨V8 x ae h0 C z.1 k j,i⟩
  refine yq (Az ..) ?_;conv=>zeta
  rw[D,G];refine zk (fun c=>?_)<|fun c=>zk (fun d=>?_)<|fun d=>?_
  ·have c:=w6 c;have l:u*4294967296+w<((n:Int)+1)*Y:=by rw[<-A];exact VA C y z.2 c
   exact zk (fun e=>ze m<|zh<|v _ ae (cut l<|w6 e) _) (fun e=>t l (by have:=w7 e;omega))
  ·have c:=w7 c;have d:=w6 d;have a:=zi (show((n+1:Nat):Int)<=4294967295 by omega) h0.1;have b:=zo (show 0<=((n+1:Nat):Int)by omega) h0.1;rw[wu (((n+1:Nat):Int)*g) ae ae,wu (4294967296*r) ae ae,wu _ ae ae]at d;have l:u*4294967296+w<((n:Int)+1)*Y:=by rw[<-A];exact cH x o d
   exact zk (fun e=>ze m<|zh<|v _ ae (cut l<|w6 e) _) (fun e=>t l (by have:=w7 e;omega))
  ·have c:=w7 c;have d:=w7 d;have a:=zi (show((n+1:Nat):Int)<=4294967295 by omega) h0.1;have b:=zo (show 0<=((n+1:Nat):Int)by omega) h0.1;rw[wu (((n+1:Nat):Int)*g) ae ae,wu (4294967296*r) ae ae,wu _ ae ae]at d;exact ze m (zh<|v _ ae ⟨Mk x o ae,h⟩ _)
end T239
theorem VD{y:Int}(d:0<y)(j:y<18446744073709551616):∃s:Nat,Sp.lz y=(s:Int)/\s<=63/\y*2^s<18446744073709551616/\9223372036854775808<=y*2^s:=by
 obtain⟨n,rfl⟩:=zn<|yg d;have c:n≠0:=ae
 have g:n.log2<64:=(Nat.log2_lt c).2 ae;have a:=Nat.log2_self_le c;have b:=Nat.lt_log2_self (n:=n);have e:2^n.log2*2^(63-n.log2)=2^63:=by rw[<-qp];congr 1;omega
 have f:2^(n.log2+1)*2^(63-n.log2)=2^64:=by rw[<-qp];congr 1;omega
 have i:2^63<=n*2^(63-n.log2):=by rw[<-e];exact Nat.mul_le_mul_right _ a
 have h:n*2^(63-n.log2)<2^64:=by rw[<-f];exact Nat.mul_lt_mul_of_pos_right b<|qm _
 refine⟨63-n.log2,?_,by omega,?_,?_⟩
 ·unfold Sp.lz Sp.Fu;rw[wc ae,zj];omega
 ·have:((n*2^(63-n.log2):Nat):Int)<18446744073709551616:=ae
  rw[yp,yj]at this;exact this
 ·have:(9223372036854775808:Int)<=((n*2^(63-n.log2):Nat):Int):=ae
  rw[yp,yj]at this;exact this
theorem ZF{a b:Int}{s:Nat}(d:0<=a)(f:0<=b)(h:b<2^s)(g:a*2^s+b<18446744073709551616):dX .u64 (a*2^s) b=a*2^s+b:=by
 obtain⟨m,rfl⟩:=zn d;obtain⟨k,rfl⟩:=zn f;have i:((m:Int)*2^s)=((m*2^s:Nat):Int):=by rw[yp,yj];rfl
 have c:k<2^s:=by
  have e:((2:Int)^s)=((2^s:Nat):Int):=by rw[yj];rfl
  rw[e]at h;omega
 rw[i]at g ⊢;have e:(ya 64 ((m*2^s:Nat):Int)|||ya 64 (k:Int)).toNat=m*2^s+k:=by
  rw[BitVec.toNat_or,yu,yu,yy,yy,qe ae,qe ae,Nat.mul_comm m,Nat.two_pow_add_eq_or_of_lt c]
 show zc .u64 (((ya 64 ((m*2^s:Nat):Int)|||ya 64 (k:Int)).toNat:Nat):Int)=_;rw[e,oD _ ae];omega
namespace T239
theorem start{u c d Y w:Int}(i:Y=c*4294967296+d)(h:0<c/\c<4294967296)(h0:0<=d)(f:0<=u/\u<18446744073709551616)(l:w<4294967296):
  ∃(n:Nat) (r:Int),zc .u64 (yo u c)=(n:Int)/\zc .u64 (u-zc .u64 ((n:Int)*c))=r/\(n:Int)<18446744073709551616/\(n:Int)*c+r=u/\0<=r/\r<4294967296/\u*4294967296+w<((n:Int)+1)*Y:=by
 have q0:0<=u/c:=qn f.1 ae;have q1:u/c<=u:=Int.ediv_le_self _ f.1;have e:=Int.mul_ediv_add_emod u c;have j:=Int.emod_nonneg u (show c≠0 by omega);have k:=Int.emod_lt_of_pos u h.1;rw[yb]at e;obtain⟨n,g⟩:=zn q0;have hp:0<=(n:Int)*c:=zo ae ae;rw[g]at e;refine⟨n,u % c,?_,?_,by omega,e,j,by omega,?_⟩
 ·rw[y9 f.1,g,wu _ ae ae]
 ·rw[wu ((n:Int)*c) ae ae,wu _ ae ae];omega
 ·subst i;have a:((n:Int)+1)*(c*4294967296+d)=((n:Int)*c+c)*4294967296+((n:Int)+1)*d:=by
   rw[yc, <-zq,zw,yh]
  have b:0<=((n:Int)+1)*d:=zo ae h0;rw[a];omega
theorem S5{u w q Y:Int}(c:Exact Y u w q)(d:Y<18446744073709551616):zc .u64 (zc .u64 (zc .u64 (u*(4294967296:Int))+w)-zc .u64 (q*Y))=u*4294967296+w-q*Y:=by
 obtain⟨a,b⟩:=c;rw[zw,yh]at b;rw[MH,MH,MH,MH];generalize q*Y=A at*;omega
theorem zR(h:Af A4 240 cLZ):CE qX:=Aa h Ay
set_option maxHeartbeats 1000000 in
theorem ok(R:Af A4 240 cLZ):Af A4 239 Vf:=by
 refine HN (X:=qX) rfl (zR R) (d:=9) ag ag ag (fun(i:Int×Int×Int) D=>?_) (Bg ag);obtain⟨e,lo,y⟩:=i;have D:(zz e&&zz lo&&zz y&&decide (e<y))=true:=D;rw[zg,zg,zg,w5]at D;obtain⟨⟨⟨l,f⟩,A⟩,h4⟩:=D;have uy:=A;have l:=qu l;have f:=qu f;have A:=qu A;have hg:∀q r ob,q=Sp.dq e lo y->r=Sp.dr e lo y->Ac Vf (e,lo,y) (PV.tup [PV.dat (zt zd) q,PV.dat (zt zd) r]) ob:=fun q r ob G W=>zx rfl rfl (Prod.ext G W)
 refine yi (Aj e lo y) (yk (by simp;omega)<|yk (w8 ae)<|zk (fun c=>?_)<|fun c=>?_)
 ·have c:e=0:=by simpa using c
  subst c;have q0:0<=lo/y:=qn f.1 ae;have q1:lo/y<=lo:=Int.ediv_le_self _ f.1;refine ze (w4 ae) (ze (w4 ae)<|zh<|hg _ _ _ ?_ ?_)
  ·unfold Sp.dq;rw[y9 f.1,wu _ ae ae,Int.zero_mul,qk]
  ·unfold Sp.dr;rw[Int.tmod_eq_emod_of_nonneg f.1,Int.zero_mul,qk]
 ·have c:e≠0:=by simpa using c
  obtain⟨s,hs,hs63,K,S⟩:=VD (y:=y) ae A.2;have es:zc .u64 (s:Int)=(s:Int):=oD s ae;have em:qj s 64=s:=ae
  have I:zc .u64 ((64:Int)-(s:Int))=((64-s:Nat):Int):=by rw[wu _ ae ae];omega
  have em2:qj (64-s) 64=64-s:=ae
  have h:(2:Int)^s*2^(64-s)=18446744073709551616:=by rw[<-Int.pow_add,show s+(64-s)=64 by omega];rfl
  have g:(0:Int)<2^s:=Int.pow_pos af;have hR:(0:Int)<2^(64-s):=Int.pow_pos af;have a0:0<=lo/2^(64-s):=qn f.1 ae;have J:=Int.mul_ediv_add_emod lo<|2^(64-s);have c0:=Int.emod_nonneg lo (show(2:Int)^(64-s)≠0 by omega);have c1:=Int.emod_lt_of_pos lo hR;have aP:lo/2^(64-s)<2^s:=Int.ediv_lt_of_lt_mul hR (by rw[h];exact f.2);have hiP:e*2^s+2^s<=y*2^s:=by
   have:=zi (show e+1<=y by omega)<|yg g;rw[zw,yh]at this;exact this
  have Z:0<=e*2^s:=zo l.1<|yg g;have V:zm lo ((2:Int)^(64-s))=lo/2^(64-s):=yf _ ae;have H:dX .u64 (e*2^s) (lo/2^(64-s))=e*2^s+lo/2^(64-s):=ZF l.1 a0 aP ae;have L:0<=(lo % 2^(64-s))*2^s:=zo c0<|yg g;have F:(lo % 2^(64-s))*2^s<18446744073709551616:=by
   have:=Int.mul_lt_mul_of_pos_right c1 g;rw[yb<|2^(64-s),h]at this;exact this
  have k:lo*2^s=(lo/2^(64-s))*18446744073709551616+(lo % 2^(64-s))*2^s:=by
   conv=>lhs;rw[<-J]
   rw[zw, <-h,yb (2^(64-s))<|lo/2^(64-s),zq,yb (2^(64-s))<|2^s]
  have P:zc .u64 (lo*2^s)=(lo % 2^(64-s))*2^s:=by rw[k,MH];omega
  have hN:(e*2^s+lo/2^(64-s))*18446744073709551616+(lo % 2^(64-s))*2^s=(e*18446744073709551616+lo)*2^s:=by
   rw[zw (e*18446744073709551616) lo<|2^s,k,zq e 18446744073709551616<|2^s,yb 18446744073709551616<|(2:Int)^s, <-zq];omega
  have O:zc .u64 (y*2^s)=y*2^s:=wu _ ae ae;have N:zc .u64 (e*2^s)=e*2^s:=wu _ Z ae;have z0:decide ((0:Int)<=(s:Int))=true:=w4 ae;have fin:∀q:Int,q*(y*2^s)<=(e*18446744073709551616+lo)*2^s->(e*18446744073709551616+lo)*2^s<(q+1)*(y*2^s)->q=Sp.dq e lo y/\zm ((e*18446744073709551616+lo)*2^s-q*(y*2^s)) (2^s)=Sp.dr e lo y:=by
   intro q x v;unfold Sp.dq Sp.dr;generalize e*18446744073709551616+lo=M at*;rw[<-zq]at x v;have g1:q*y<=M:=Int.le_of_mul_le_mul_right x g;have g2:M<(q+1)*y:=Int.lt_of_mul_lt_mul_right v<|yg g;rw[zw,yh]at g2;obtain⟨u1,u2⟩:=(Int.ediv_emod_unique (a:=M) (b:=y) (r:=M-q*y) (q:=q) ae).2 ⟨by rw[yb y q];omega,by omega,by omega⟩;refine⟨u1.symm,?_⟩;rw[u2, <-zq, <-Int.sub_mul,yf _<|yg g];exact Int.mul_ediv_cancel _ ae
  obtain⟨Y,eY⟩:=zn (show 0<=y*2^s by omega);obtain⟨C,eC⟩:=zn L;have hU0:0<=e*2^s+lo/2^(64-s):=ae
  have j:e*2^s+lo/2^(64-s)<y*2^s:=ae
  rw[hs,es,I,zj,zj,em,em2,O,N,V,H,P];rw[eC]at hN F ⊢;rw[eY]at K S j fin ⊢;generalize hU:e*2^s+lo/2^(64-s)=U at*;generalize hM:(e*18446744073709551616+lo)*2^s=M at*;rw[fN,fN,RC Y ae,RC C ae];have B:(Y:Int)=((Y/4294967296:Nat):Int)*4294967296+((Y % 4294967296:Nat):Int):=ae
  have E:0<((Y/4294967296:Nat):Int)/\((Y/4294967296:Nat):Int)<4294967296:=ae
  have o:0<=((Y % 4294967296:Nat):Int)/\((Y % 4294967296:Nat):Int)<4294967296:=ae
  have w1:0<=((C/4294967296:Nat):Int)/\((C/4294967296:Nat):Int)<4294967296:=ae
  have w0:0<=((C % 4294967296:Nat):Int)/\((C % 4294967296:Nat):Int)<4294967296:=ae
  have hC:(C:Int)=((C/4294967296:Nat):Int)*4294967296+((C % 4294967296:Nat):Int):=ae
  generalize ((Y/4294967296:Nat):Int)=y1 at*;generalize ((Y % 4294967296:Nat):Int)=y0 at*;generalize ((C/4294967296:Nat):Int)=w at*;generalize ((C % 4294967296:Nat):Int)=z at*;refine ze uy (ze z0<|ze rfl (ze z0<|ze (w4 ae)<|ze z0<|ze rfl (ze (w4 ae) ?_)));obtain⟨n,r,G,W,n1,n2,n3,n4,n5⟩:=start (u:=U) (w:=w) B E o.1 ae w1.2;rw[G,W];refine Ar (Y:Int) s y1 y0 U w z B E o j w1 (fun p p0 hp=>?_) n r n1 n2 n3 n4 n5;have er:=S5 hp ae;rw[er];have hp1:=hp.1;have hp2:=hp.2;rw[zw,yh]at hp2;obtain⟨m,t,k1,k2,m1,m2,m3,m4,m5⟩:=start (u:=U*4294967296+w-p*Y) (w:=z) B E o.1 ae w0.2;rw[k1,k2];refine A5 (Y:Int) s y1 y0 _ z p B E o ae w0 ae (fun q q0 hq ob=>?_) m t m1 m2 m3 m4 m5;rw[S5 hq ae,zj,em];obtain⟨hq1,hq2⟩:=hq;have ez:(p*4294967296+q)*(Y:Int)=p*Y*4294967296+q*Y:=by
   rw[zw,zq,yb 4294967296 (Y:Int), <-zq]
  have T:(p*4294967296+q+1)*(Y:Int)=p*Y*4294967296+q*Y+Y:=by
   rw[zw,ez,yh]
  rw[zw,yh]at hq2;obtain⟨x,v⟩:=fin (p*4294967296+q) (by rw[ez];omega) (by rw[T];omega);refine hg _ _ _ ?_ ?_
  ·have hb:Sp.dq e lo y<18446744073709551616:=by
    unfold Sp.dq;refine Int.ediv_lt_of_lt_mul ae ?_;have:=z8 (show e+1<=y by omega) (show(0:Int)<=18446744073709551616 by decide);omega
   rw[<-x]at hb ⊢;rw[MH,MH];omega
  ·rw[<-v,ez];congr 1;omega
end T239
open Sp
theorem kE(x k:Nat)(h:2^k<=x):x.log2=k+(x/2^k).log2:=by
 have d:=qm k;have e:x/2^k≠0:=by
  have:=Nat.div_pos h d;omega
 have f:x≠0:=ae
 refine(Nat.log2_eq_iff f).2 ⟨?_,?_⟩
 ·rw[qp];exact Nat.le_trans (Nat.mul_le_mul_left _<|Nat.log2_self_le e)<|Nat.mul_div_le x<|2^k
 ·rw[Nat.add_assoc,qp];have a:x/2^k+1<=2^((x/2^k).log2+1):=Nat.lt_log2_self;have b:=Nat.mul_le_mul_left (2^k) a;have c:=Nat.lt_mul_div_succ x d;exact Nat.lt_of_lt_of_le c b
theorem QB(x k:Nat)(h:2^k<=x):Fu (x:Int)=(k:Int)+Fu ((x/2^k:Nat):Int):=by
 have a:=qm k;have b:=Nat.div_pos h a;have e:=kE x k h;unfold Fu;rw[wc ae,wc ae,zj,zj,e];omega
theorem fdN(n k:Nat):zm (n:Int) ((2:Int)^k)=((n/2^k:Nat):Int):=by
 have:(0:Int)<2^k:=Int.pow_pos af;rw[yf _ ae,Int.natCast_ediv,yj];rfl
def Acg:Z:=[(0:UInt8),1,2,2,3,3,3,3,4,4,4,4,4,4,4,4,5,5,5,5,5,5,5,5,5,5,5,5,5,5,5,5,6,6,6,6,6,6,6,6,6,6,6,6,6,6,6,6,6,6,6,6,6,6,6,6,6,6,6,6,6,6,6,6,7,7,7,7,7,7,7,7,7,7,7,7,7,7,7,7,7,7,7,7,7,7,7,7,7,7,7,7,7,7,7,7,7,7,7,7,7,7,7,7,7,7,7,7,7,7,7,7,7,7,7,7,7,7,7,7,7,7,7,7,7,7,7,7,8,8,8,8,8,8,8,8,8,8,8,8,8,8,8,8,8,8,8,8,8,8,8,8,8,8,8,8,8,8,8,8,8,8,8,8,8,8,8,8,8,8,8,8,8,8,8,8,8,8,8,8,8,8,8,8,8,8,8,8,8,8,8,8,8,8,8,8,8,8,8,8,8,8,8,8,8,8,8,8,8,8,8,8,8,8,8,8,8,8,8,8,8,8,8,8,8,8,8,8,8,8,8,8,8,8,8,8,8,8,8,8,8,8,8,8,8,8,8,8,8,8,8,8,8,8,8,8]
theorem Zy:∀m:Fin 256,((zp (Acg.getD m.val 0):Nat):Int)=Fu (m.val:Int)/\zc .u8 (m.val:Int)=(m.val:Int)/\Fu (m.val:Int)<=8/\0<=Fu (m.val:Int):=by decide+kernel
theorem N4{b:Int}(a z x:Nat)(g:b=a)(j:a<=64)(h:z<256)(i:Fu (x:Int)=(a:Int)+Fu (z:Int)):zc .i64 (b+zc .i64 ((zp (Acg.getD (qq<|zc .u8 (z:Int)) 0):Nat):Int))=Fu x:=by
 obtain⟨c,d,e,f⟩:=Zy ⟨z,h⟩;have c:((zp (Acg.getD z 0):Nat):Int)=Fu (z:Int):=c;have d:zc .u8 (z:Int)=(z:Int):=d;have e:Fu (z:Int)<=8:=e;have f:0<=Fu (z:Int):=f;rw[d,zj,c,g,i,wr (Fu (z:Int)) ae ae,wr _ ae ae]
theorem u8b(z:Nat)(b:z<256):(decide ((0:Sh.T (zt qv))<=zc qv (z:Int))&&decide (zc qv (z:Int)<(↑(256:Nat):Int)))=true:=by
 obtain⟨_,a,_,_⟩:=Zy ⟨z,b⟩;have a:zc .u8 (z:Int)=(z:Int):=a;rw[a];exact Ab (w4<|show(0:Int)<=(z:Int)by omega) (w4 ae)
namespace T229
set_option maxHeartbeats 1000000 in
set_option maxRecDepth 100000 in
theorem ok:Af A4 229 Y5:=by
 refine BD Kt<|fun(x:Int) f=>?_;have f:=qu (n:=x) f;obtain⟨x,rfl⟩:=zn f.1;refine yi (Aj (x:Int)) ?_;conv=>zeta
 conv=>zeta
 rw[fdN x 32,fdN x 16,fdN x 8,fdN (x/2^32) 16,fdN (x/2^32) 8,fdN (x/2^32/2^16) 8,fdN (x/2^16) 8];have i:=QB x 32;have j:=QB x 16;have k:=QB x 8;have e:=QB (x/2^32) 16;have g:=QB (x/2^32) 8;have d:=QB (x/2^32/2^16) 8;have h:=QB (x/2^16) 8;refine zk (fun c=>ze rfl (zk (fun b=>ze rfl (zk (fun a=>ze rfl (ze (u8b _ ?_)<|zh<|zx rfl rfl (N4 56 _ x (by decide+kernel) af ?_ ?_)))<|fun a=>ze (u8b _ ?_)<|zh<|zx rfl rfl (N4 48 _ x (by decide+kernel) af ?_ ?_)))<|fun b=>zk (fun a=>ze rfl (ze (u8b _ ?_)<|zh<|zx rfl rfl (N4 40 _ x (by decide+kernel) af ?_ ?_)))<|fun a=>ze (u8b _ ?_)<|zh<|zx rfl rfl (N4 32 _ x rfl af ?_ ?_))) (fun c=>zk (fun b=>ze rfl (zk (fun a=>ze rfl (ze (u8b _ ?_)<|zh<|zx rfl rfl (N4 24 _ x (by decide+kernel) af ?_ ?_)))<|fun a=>ze (u8b _ ?_)<|zh<|zx rfl rfl (N4 16 _ x (by decide+kernel) af ?_ ?_)))<|fun b=>zk (fun a=>ze rfl (ze (u8b _ ?_)<|zh<|zx rfl rfl (N4 8 _ x (by decide+kernel) af ?_ ?_)))<|fun a=>ze (u8b _ ?_)<|zh<|zx rfl rfl (N4 0 _ x rfl af ?_ ?_));all_goals
  first
   |replace c:=w6 c
   |replace c:=w7 c
  first
   |replace b:=w6 b
   |replace b:=w7 b
  first
   |replace a:=w6 a
   |replace a:=w7 a
  omega
end T229
theorem uU:CE XD1:=Aa T229.ok Ay
theorem UM{n:Int}(a:0<=n)(b:n<18446744073709551616):0<=Sp.Fu n/\Sp.Fu n<=64:=by
 unfold Sp.Fu;split
 ·omega
 ·have:n.toNat.log2<64:=(Nat.log2_lt ae).2 ae;omega
namespace T240
theorem ok:Af A4 240 cLZ:=by
 refine BD uU<|fun(x:Int) hx=>?_;have h:=qu (n:=x) hx;have a:=UM h.1 h.2;refine yi (Aj x)<|ze hx<|zh<|zx rfl rfl ?_;show zc .i64 (64-Sp.Fu x)=Sp.lz x;unfold Sp.lz;exact wr _ ae ae
end T240
theorem tK:Af A4 239 Vf:=T239.ok T240.ok
end Go.Pe
namespace Go.Sp
def TY(a b:List Int):Bool:=Cz a&&Cz b&&decide (a.length<=9000)&&decide (b.length<=9000)&&decide (0<Av b)
end Go.Sp
namespace Go.Pe
open Sp
open Go.Det
def GZ:Am:=⟨[DG,DG],fun i=>TY i.1 i.2,[DG,DG],fun i=>(BF<|Av i.1/Av i.2,BF<|Av i.1 % Av i.2),false⟩
def Kw:AL:=X7 [(176,bG),(217,YV),(178,Td),(216,YX),(218,YM),(239,Vf),(240,cLZ)]
end Go.Pe
namespace Go.Sp
def Ir(c:UInt8):Int:=(c.toNat:Int)-48
def B7(c:UInt8):Bool:=decide (48<=c.toNat)&&decide (c.toNat<=57)
def AI(n:Int):Z->Int
 |[]=>n
 |c::r=>AI (10*n+Ir c) r
def Aq(s:Z):Bool:=s.all B7
theorem Dd:∀(n:Int) (a b:Z),AI n (a++b)=AI (AI n a) b
 |_,[],_=>rfl
 |n,c::a,b=>by rw[qf,AI,AI,Dd]
theorem E9:∀(s:Z) (n:Int),AI n s=n*10^s.length+AI 0 s
 |[],n=>by simp[AI]
 |c::s,n=>by
  rw[AI,AI,E9 s<|10*n+Ir c,E9 s<|10*0+Ir c,List.length_cons,qx,zw,qi,qk,yb 10 n,zq,yb 10<|10^s.length,qt]
theorem Dm{c:UInt8}(h:B7 c=true):0<=Ir c/\Ir c<=9:=by
 unfold B7 at h;rw[zg,w5,w5]at h;unfold Ir;omega
theorem Bk:∀ {s:Z},Aq s=true->0<=AI 0 s/\AI 0 s<10^s.length
 |[],_=>by simp[AI]
 |c::s,h=>by
  unfold Aq at h;rw[List.all_cons,zg]at h;have a:=Dm h.1;have b:=Bk (s:=s) h.2;have hp:=AU (show(0:Int)<10 by decide) s.length;have e:=zo a.1<|yg hp;have d:=zi a.2<|yg hp;rw[AI,E9,List.length_cons,qx,qi,qk,yb (10^s.length) 10];omega
theorem Bl{s:Z}(h:Aq s=true)(i:Nat):Aq (s.take i)=true:=by
 grind [Aq]
theorem Cd{s:Z}(h:Aq s=true)(i:Nat):Aq (s.drop i)=true:=by
 grind [Aq]
def AX(s:Z):Bool:=decide (s≠[])&&Aq s&&(decide (s.getD 0 0≠48)||decide (s=[48]))
def Gv(a b:AM):AM:=if vI a<0/\Ah (vI a) % vI b≠0 then Ot (Dh<| -(Ah (vI a)/vI b)) (1,[])else Dh<|sg (decide (vI a<0))<|Ah (vI a)/vI b
def ZQ(a b:AM):Int:=(Gv a b).1
def bH(a b:AM):List Int:=(Gv a b).2
def tU(a b:AM):Int:=C9<|vI a % vI b
def mC(a b:AM):List Int:=C8<|vI a % vI b
def gI(a b:Int):Int:=if a<0 then -(-(Int.gcd a b:Int))else(Int.gcd a b:Int)
theorem GC(a b:Int):gI a b=(Int.gcd a b:Int):=by unfold gI;split<;>omega
def N8(a b:AM):Int:=C9<|gI (vI a)<|vI b
def Oe(a b:AM):List Int:=C8<|gI (vI a)<|vI b
def pI(a k:Int):Int:=if k<0 then -(-(a^k.toNat))else a^k.toNat
theorem Ug(a k:Int):pI a k=a^k.toNat:=by unfold pI;split<;>omega
def nQ(a k:Int):Bool:=decide (0<=k)&&decide (k<=100000)&&decide (Ah (pI a k)<(18446744073709551616:Int)^(4000:Nat))
def WO(a:AM)(k:Int):Int:=C9<|pI (vI a) k
def VQ(a:AM)(k:Int):List Int:=C8<|pI (vI a) k
def BL(n:Int):List Int:=if n<0 then[]else[]
theorem D7(n:Int):BL n=[]:=by unfold BL;split<;>rfl
def BS(s:Z):Int:=if s.getD 0 0=45 then -AI 0 (s.drop 1)else AI 0 s
def D4(s:Z):Bool:=decide (s.length<=5999)&&(if s.getD 0 0=45 then Aq (s.drop 1)else Aq s)
def DF(s:Z):Int:=C9<|BS s
def DH(s:Z):List Int:=C8<|BS s
end Go.Sp
namespace Go.Pe
open Sp
open Go.Det
def HU:Am:=⟨[A3,A3],fun i=>Bd i.1&&Bd i.2&&decide (0<zf i.2),[A3,A3],fun i=>((ZQ i.1 i.2,bH i.1 i.2),(tU i.1 i.2,mC i.1 i.2)),false⟩
def Zr:Am:=⟨[A3,A3],fun i=>Bd i.1&&Bd i.2,[A3],fun i=>(N8 i.1 i.2,Oe i.1 i.2),false⟩
def oW:Am:=⟨[A3,i64],fun i=>Bd i.1&&nQ (zf i.1) i.2,[A3],fun i=>(WO i.1 i.2,VQ i.1 i.2),false⟩
def Rq:Am:=⟨[.str],fun s=>D4 s,[A3],fun s=>(DF s,DH s),false⟩
def R0:Am:=⟨[i64],fun _=>true,[A3],fun n=>(n,BL n),false⟩
def XF1:AL:=Ur [(184,[9,10])] [] [(184,[(9,[3,4,5,8,12,13]),(10,[3,4,5,14,15])])] [(68,R0),(210,GZ),(173,Qq),(174,mD),(133,rY),(124,Pt),(134,K0)]
def XF0:AL:=X7 []
def XF2:AL:=X7 [(184,HU),(215,Aa6),(134,K0)]
def XF3:AL:=X7 [(68,R0),(125,S4)]
end Go.Pe
namespace Go.Sp
abbrev B9:Nat:=1000000000
def KK(l:List Int):Bool:=decide (l.length<=20000)&&l.all fun d=>decide (0<=d)&&decide (d<1000000000)
def hR(l:List Int):Bool:=KK l&&decide (l.length<=9000)
def Ba(l:List Int):Bool:=KK l&&nzW l
def Ao(l:List Int):Int:=val B9 l
def BW(n:Int):List Int:=dg B9 n
def rN(n:Int):Bool:=decide (n<0)
def rW(n:Int):List Int:=BW<|Ah n
def CQ(neg:Bool)(w:List Int):Bool:=neg&&decide (AA w≠[])
def Ee(s:Z):Bool:=decide (s.length<=18)&&Aq s
def B2(s:Z):Int:=AI 0 s
def Gr(s:Z):Bool:=rN<|BS s
def Ej(s:Z):List Int:=rW<|BS s
def CI(a b:List Int):List Int:=BW<|gI (Ao a)<|Ao b
end Go.Sp
namespace Go.Pe
open Sp
open Go.Det
abbrev li:Sh:=.list i64
abbrev Ia:Sh:=.pair .bool li
def Va:Am:=⟨[li],fun l=>decide (yv (α:=Int) l<=20000),[li],fun l=>AA l,false⟩
def I5:Am:=⟨[.bool,li],fun i=>decide (yv (α:=Int) i.2<=20000),[Ia],fun i=>(CQ i.1 i.2,AA i.2),false⟩
def Z2:Am:=⟨[li,li],fun i=>Ba i.1&&Ba i.2,[i64],fun i=>Cp (Ao i.1)<|Ao i.2,false⟩
def bZ:Am:=⟨[li,li],fun i=>Sp.hR i.1&&Sp.hR i.2,[li],fun i=>BW<|Ao i.1*Ao i.2,false⟩
def Zc:Am:=⟨[li,i64],fun i=>KK i.1&&decide (0<(i.2:Int))&&decide ((i.2:Int)<1000000000),[li,i64],fun i=>(BW<|Ao i.1/i.2,Ao i.1 % i.2),false⟩
def SH:Am:=⟨[li,li],fun i=>Ba i.1&&Ba i.2&&decide (yv (α:=Int) i.1<=9000)&&decide (yv (α:=Int) i.2<=9000)&&decide (0<Ao i.2),[li,li],fun i=>(BW<|Ao i.1/Ao i.2,BW<|Ao i.1 % Ao i.2),false⟩
def Mo:Am:=⟨[li,li],fun i=>Ba i.1&&Ba i.2&&decide (yv (α:=Int) i.1<=9000)&&decide (yv (α:=Int) i.2<=9000),[li],fun i=>CI i.1 i.2,false⟩
def Tt:Am:=⟨[.str],fun s=>Ee s,[i64],fun s=>B2 s,false⟩
def O5:Am:=⟨[.str],fun s=>D4 s,[Ia],fun s=>(Gr s,Ej s),false⟩
def tY:AL:=X7 []
def hO:AL:=X7 [(190,Va)]
def ND:AL:=X7 [(151,Z2),(190,Va),(189,Zc),(153,bZ)]
def XG3:AL:=X7 [(147,SH)]
def iB:AL:=X7 [(142,Tt),(149,I5)]
end Go.Pe
namespace Go.Sp
def DP:Z:=[48,49,50,51,52,53,54,55,56,57]
def AbO(o:List Bool):List Bool:=(List.range 256).map fun j=>o.getD j false
def AbP:List Bool:=zl 256 false
def Rw(s:Z):Z:=((s.reverse.dropWhile B7).reverse).dropWhile B7
def QA(s:Z)(c:Int):Int:=match s.findIdx? (fun x=>x==c.toNat.toUInt8)with
 |some i=>(i:Int)
 |none=> -1
def AD(s:Z):Z:=match s.findIdx? (fun x=>x==47)with
 |some i=>s.take i
 |none=>s
def AV(s:Z):Z:=match s.findIdx? (fun x=>x==47)with
 |some i=>s.drop<|i+1
 |none=>[]
def Bw(s:Z):Bool:=s.any<|fun x=>x==47
def A6(s:Z):Z:=if s.getD 0 0=45 then s.drop 1 else s
def preB(s:Z):Bool:=decide (s.getD 0 0=45)
def Abh(s t:Z):Bool:=decide (t=DP)&&decide (s.length<=1000000)
def AdG(s t:Z):Bool:=decide (t=[47])&&decide (s.length<=1000000)
def Tn(s t:Z):Bool:=decide (t=[45])&&decide (s.length<=1000000)
end Go.Sp
namespace Go.Pe
open Sp
open Go.Det
def XG:Am:=⟨[.str,.str],fun i=>Abh i.1 i.2,[.str],fun i=>Rw i.1,false⟩
def Aa0:Am:=⟨[.str,.int .u8],fun i=>decide (0<=(i.2:Int))&&decide ((i.2:Int)<256),[i64],fun i=>QA i.1 i.2,false⟩
def oN:Am:=⟨[.str,.str],fun i=>AdG i.1 i.2,[.str,.str,.bool],fun i=>(AD i.1,Sp.AV i.1,Bw i.1),false⟩
def AbD:Am:=⟨[.str,.str],fun i=>Tn i.1 i.2,[.str,.bool],fun i=>(A6 i.1,Sp.preB i.1),false⟩
def YF:Am:=⟨[.str],fun s=>decide (s.length<=1000000),[.bool],fun s=>AX s,false⟩
def O7:AL:=X7 []
def cW:AL:=X7 [(268,⟨[.str,.str],fun _=>false,[.str],fun i=>i.1,false⟩),(269,⟨[.str,.str],fun _=>false,[.str],fun i=>i.1,false⟩),(263,⟨[.str,.int .u8],fun _=>false,[.str],fun i=>i.1,false⟩),(264,⟨[.str,.int .u8],fun _=>false,[.str],fun i=>i.1,false⟩)]
def XH1:AL:=X7 [(236,XG)]
def XH2:AL:=X7 [(280,Aa0)]
def R2:AL:=X7 [(68,R0),(199,oW),(125,S4),(124,Pt),(162,Vo),(258,⟨[.str,i64,i64],fun _=>false,[i64],fun _=>(0:Int),false⟩),(234,⟨[.str],fun _=>false,[i64],fun _=>(0:Int),false⟩)]
end Go.Pe
namespace Go.Sp
def Hd(a:Z):Bool:=AX (AD<|A6 a)&&(!preB a||decide (AD (A6 a)≠[48]))&&(!Bw (A6 a)||(AX (AV<|A6 a)&&decide (AV (A6 a)≠[48])&&decide (AV (A6 a)≠[49])))
def wT(a:Z):Int:=AI 0<|AD<|A6 a
def yR(a:Z):Int:=AI 0<|AV<|A6 a
def An(a:Z):Int:=if Hd a=false then 1 else if 600<(AD<|A6 a).length\/600<(AV<|A6 a).length then 4 else if Bw (A6 a)=true/\gI (wT a) (yR a)≠1 then 1 else 0
def A1(s:Z):Int:=((AD s).length:Int)
def DT(a:Z):Bool:=D4 (AD a)&&D4 (AV a)&&decide (a.length<=5999)
def Be(a:Z):Int:=BS<|AD a
def AR(a:Z):Int:=if Bw a=true then BS (AV a)else 1
def BZ(a:Z):Bool:=rN<|Be a
def BT(a:Z):List Int:=rW<|Be a
def Bz(a:Z):Bool:=rN<|AR a
def Bp(a:Z):List Int:=rW<|AR a
end Go.Sp
namespace Go.Pe
open Sp
open Go.Det
def EC:Am:=⟨[.str],fun s=>decide (s.length<=1000000),[i64],fun s=>An s,false⟩
def PW:Am:=⟨[.str],fun s=>decide (s.length<=1000000),[i64],fun s=>A1 s,false⟩
def Z3:Am:=⟨[.str],fun s=>decide (s.length<=9223372036854775807),[i64],fun s=>A1 s,false⟩
def UK:Am:=⟨[.str],fun s=>decide (s.length<=9223372036854775807),[.bool],fun s=>AX s,false⟩
def Io:Am:=⟨[i64],fun n=>Ct n,[Ia],fun n=>(Sp.rN n,Sp.rW n),false⟩
def OL:Am:=⟨[.str],fun s=>DT s,[Ia,Ia],fun s=>((BZ s,BT s),(Bz s,Bp s)),false⟩
def Nr:AL:=Ur [(163,[4,6,7,9,10])] [] [(163,[(4,[5,6,7,8]),(6,[5,6,7,8]),(7,[5,6,7,9]),(9,[5,6,7]),(10,[10])])] [(202,Gq),(203,G7),(200,AbD),(159,oN),(201,YF),(171,Zr),(160,Rq),(67,nY),(68,R0)]
def XK2:AL:=X7 [(149,I5)]
def XK3:AL:=X7 [(139,PW),(138,O5),(143,Io)]
def Xb:AL:=Ur [(78,[4,7,9,11,13,14])] [] [(78,[(4,[0,3]),(7,[3,4]),(9,[3,4]),(11,[3,4]),(13,[5,6]),(14,[7])])] [(139,Z3),(140,UK),(82,OL),(141,Mo)]
end Go.Pe
namespace Go.Sp
abbrev Ae:=(Int×List Int)×(Int×List Int)
def Ou(a:AM):Bool:=Dy a&&decide (a.2.length<=4000)
def Ch(a:Ae):Bool:=Ou a.1&&Ou a.2
def Ds(a b:Ae):Int:=Cp (vI a.1*vI b.2)<|vI b.1*vI a.2
def RW(a:Z):Int:=C9<|Be a
def RR(a:Z):List Int:=C8<|Be a
def P0(a:Z):Int:=C9<|AR a
def Rp(a:Z):List Int:=C8<|AR a
def iQ(a b:AM):AM:=if vI b<0 then Gv (DA a) (DA b)else Gv a b
def iQS(a b:AM):Int:=(iQ a b).1
def iQW(a b:AM):List Int:=(iQ a b).2
def Db(d:AM):Bool:=decide (d.2=[])&&decide (d.1=1)
def gR(n d:AM):AM:=(N8 n d,Oe n d)
def Oy(n d:AM):Ae:=if Db d=true then(n,d)else(iQ n<|gR n d,iQ d<|gR n d)
def SJ(n d:AM):Ae:=if vI d<0 then Oy (DA n) (DA d)else Oy n d
def fWh(n:AM):Ae:=(n,(1,BL 1))
def B0(a b:Ae):Ae:=if Db a.2=true/\Db b.2=true then fWh (EW a.1 b.1)else SJ (EW (FU a.1 b.2)<|FU b.1 a.2)<|FU a.2 b.2
def FO(a b:Ae):Ae:=SJ (FU a.1 b.1)<|FU a.2 b.2
def AcA(a:Ae):Ae:=(DA a.1,a.2)
def Gs(a b:Ae):Ae:=B0 a<|AcA b
def Wc(a:Ae):Ae:=SJ a.2 a.1
def Lp(a b:Ae):Ae:=FO a<|Wc b
def nS(f:Ae):Int:=f.1.1
def nW(f:Ae):List Int:=f.1.2
def dS(f:Ae):Int:=f.2.1
def dW(f:Ae):List Int:=f.2.2
def tS(n d:AM):Int:=nS<|SJ n d
def rR(n d:AM):List Int:=nW<|SJ n d
def mS(n d:AM):Int:=dS<|SJ n d
def kG(n d:AM):List Int:=dW<|SJ n d
def Jw(a b:Ae):Int:=nS<|B0 a b
def Jp(a b:Ae):List Int:=nW<|B0 a b
def JI(a b:Ae):Int:=dS<|B0 a b
def JO(a b:Ae):List Int:=dW<|B0 a b
def AfA(a b:Ae):Int:=nS<|Gs a b
def Aff(a b:Ae):List Int:=nW<|Gs a b
def Ael(a b:Ae):Int:=dS<|Gs a b
def AfV(a b:Ae):List Int:=dW<|Gs a b
def Abw(a b:Ae):Int:=nS<|FO a b
def AbM(a b:Ae):List Int:=nW<|FO a b
def AbA(a b:Ae):Int:=dS<|FO a b
def AbG(a b:Ae):List Int:=dW<|FO a b
def Afr(a:Ae):Int:=nS<|Wc a
def AeB(a:Ae):List Int:=nW<|Wc a
def AfP(a:Ae):Int:=dS<|Wc a
def Ae2(a:Ae):List Int:=dW<|Wc a
def Abx(a b:Ae):Int:=nS<|Lp a b
def AaZ(a b:Ae):List Int:=nW<|Lp a b
def AbI(a b:Ae):Int:=dS<|Lp a b
def Abv(a b:Ae):List Int:=dW<|Lp a b
def flS(a:Ae):Int:=ZQ a.1 a.2
def flW(a:Ae):List Int:=bH a.1 a.2
def Cq(a:Ae):Bool:=Ch a&&decide (0<vI a.2)
def Jv(n d:AM):Bool:=Bd n&&Bd d&&decide (vI d≠0)
end Go.Sp
namespace Go.Pe
open Sp
open Go.Det
abbrev Au:Sh:=.pair A3 A3
def LU:Am:=⟨[.str],fun s=>DT s,[Au],fun s=>((RW s,RR s),(P0 s,Rp s)),false⟩
def QW:Am:=⟨[Au,Au],fun i=>Sp.Ch (i.1:Ae)&&Sp.Ch (i.2:Ae),[i64],fun i=>Ds (i.1:Ae) (i.2:Ae),false⟩
def cIQ:Am:=⟨[A3,A3],fun i=>Jv i.1 i.2,[A3],fun i=>(Sp.iQS i.1 i.2,Sp.iQW i.1 i.2),false⟩
def bT:Am:=⟨[A3,A3],fun i=>Jv i.1 i.2,[Au],fun i=>((tS i.1 i.2,rR i.1 i.2),(mS i.1 i.2,kG i.1 i.2)),false⟩
def Q5:Am:=⟨[Au],fun _=>true,[.bool],fun a=>Db (a:Ae).2,false⟩
def jM:Am:=⟨[A3],fun _=>true,[Au],fun n=>((n:AM),((1:Int),BL 1)),false⟩
def cF:Am:=⟨[i64],fun _=>true,[Au],fun n=>(((n:Int),BL n),((1:Int),BL 1)),false⟩
def Aby:Am:=⟨[Au],fun a=>z7 (a:Ae).1,[Au],fun a=>((E0 (a:Ae).1,E1 (a:Ae).1),((a:Ae).2.1,(a:Ae).2.2)),false⟩
def I4:Am:=⟨[Au,Au],fun i=>Sp.Cq (i.1:Ae)&&Sp.Cq (i.2:Ae),[Au],fun i=>((Jw i.1 i.2,Jp i.1 i.2),(JI i.1 i.2,JO i.1 i.2)),false⟩
def tN:Am:=⟨[Au,Au],fun i=>Sp.Cq (i.1:Ae)&&Sp.Cq (i.2:Ae),[Au],fun i=>((AfA i.1 i.2,Aff i.1 i.2),(Ael i.1 i.2,AfV i.1 i.2)),false⟩
def SO:Am:=⟨[Au,Au],fun i=>Sp.Cq (i.1:Ae)&&Sp.Cq (i.2:Ae),[Au],fun i=>((Abw i.1 i.2,AbM i.1 i.2),(AbA i.1 i.2,AbG i.1 i.2)),false⟩
def AaW:Am:=⟨[Au],fun a=>Sp.Cq (a:Ae)&&decide (zf (a:Ae).1≠0),[Au],fun a=>((Afr a,AeB a),(AfP a,Ae2 a)),false⟩
def jD:Am:=⟨[Au,Au],fun i=>Sp.Cq (i.1:Ae)&&Sp.Cq (i.2:Ae)&&decide (zf (i.2:Ae).1≠0),[Au],fun i=>((Abx i.1 i.2,AaZ i.1 i.2),(AbI i.1 i.2,Abv i.1 i.2)),false⟩
def nR:Am:=⟨[Au],fun a=>Sp.Cq (a:Ae),[A3],fun a=>(Sp.flS a,Sp.flW a),false⟩
def uC:AL:=Ur [(172,[3])] [] [(172,[(3,[2,3,4])])] [(134,K0),(162,Vo),(184,HU),(171,Zr),(68,R0),(124,Pt),(125,S4),(67,nY),(159,oN),(160,Rq)]
def XA1:AL:=Ur [(120,[3,6])] [] [(120,[(3,[2,3,4]),(6,[2,3,4,5])])] [(134,K0),(162,Vo),(171,Zr),(172,cIQ)]
def XA2:AL:=Ur [(59,[3])] [] [(59,[(3,[2,3,4])])] [(123,Q5),(121,jM),(124,Pt),(125,S4),(120,bT)]
def XA3:AL:=X7 [(131,Aby),(59,I4),(65,SO),(161,AaW)]
end Go.Pe
namespace Go.Sp
def QX(a:Z):Z:=if Bw a=true then AV a else[49]
def Ci(a:Z)(n:Int):Bool:=decide ((a.length:Int)<=2*n+2)&&decide (An a=0)&&decide (((A6<|AD a).length:Int)<=n)&&decide (((QX a).length:Int)<=n)
end Go.Sp
namespace Go.Pe
open Go.Det
def ZX:Am:=⟨[.str,i64],fun i=>decide (0<=(i.2:Int))&&decide ((i.2:Int)<=1000),[.bool],fun i=>Sp.Ci i.1 i.2,false⟩
def ZZ:Am:=⟨[.str],fun s=>decide (s.length<=1000000),[.str],fun s=>Sp.A6 s,false⟩
def rX:Am:=⟨[.str],fun s=>decide (s.length<=1000000),[.str],fun s=>Sp.AD s,false⟩
def cM:Am:=⟨[.str],fun s=>decide (s.length<=1000000),[.str],fun s=>Sp.QX s,false⟩
def XM5:AL:=X7 [(139,PW)]
def XM3:AL:=X7 [(78,EC),(33,ZZ),(113,rX),(114,cM)]
end Go.Pe
namespace Go.Sp
def Ei(a:Z):Bool:=decide (a.length<=20)&&decide ((AD<|A6 a).length<=9)&&decide ((AV<|A6 a).length<=9)
def Jj(a:Z):Int:=if preB a=true then -AI 0 (AD<|A6 a)else AI 0<|AD<|A6 a
def Tf(a:Z):Int:=if Bw (A6 a)=true then AI 0 (AV<|A6 a)else 1
def F4(a:Z):Int:=if a=[48]then 0 else if a.getD 0 0=45 then -1 else 1
def MS(a:Z):Z:=if a=[48]then a else if a.getD 0 0=45 then a.drop 1 else 45::a
def Ik:Nat->Nat->Nat->Z->Z
 |0,_,_,a=>a
 |f+1,n,l,a=>if n=0/\l<=a.length then a else Ik f (n/10) l (UInt8.ofNat (48+n % 10)::a)
def IP(n l:Int):Z:=Ik 64 n.toNat l.toNat []
def AfQ(a b:Int):Bool:=decide (0<=a)&&decide (a<9223372036854775808)&&decide (0<=b)&&decide (b<9223372036854775808)
end Go.Sp
namespace Go.Pe
open Go.Det
def AbN:Am:=⟨[i64,i64],fun i=>Sp.AfQ i.1 i.2,[i64],fun i=>Sp.gI i.1 i.2,false⟩
def M6:Am:=⟨[.str],fun s=>decide (s.length<=1000000),[i64],fun s=>Sp.F4 s,false⟩
def cE:Am:=⟨[.str],fun s=>decide (s.length<=1000000),[.str],fun s=>Sp.MS s,false⟩
def RA:Am:=⟨[i64,i64],fun i=>decide (0<=(i.1:Int))&&decide ((i.1:Int)<9223372036854775808)&&decide (0<=(i.2:Int))&&decide ((i.2:Int)<=20),[.str],fun i=>Sp.IP i.1 i.2,false⟩
def O6:AL:=Ur [(80,[5,7,11,13])] [] [(80,[(5,[5,6]),(7,[5,6]),(11,[5,6,7,8,9]),(13,[6,8,9])])] [(142,Tt),(139,PW)]
def XO2:AL:=X7 [(87,M6)]
end Go.Pe
namespace Go.Sp
open Go.Lib
theorem GN(a d:Nat)(b:0<a)(c:d<10):decDigits (10*a+d)=decDigits a++[UInt8.ofNat<|48+d]:=by
 rw[decDigits,dif_neg ae,show(10*a+d)/10=a from by omega,show(10*a+d) % 10=d from by omega]
theorem rL(a d:Nat)(b:0<a)(c:d<10):nDigits (10*a+d)=nDigits a+1:=by
 rw[nDigits_big ae,show(10*a+d)/10=a from by omega]
def GS(k b:Nat):Z:=zl (k-nDigits b) 48++decDigits b
theorem SG(k b d:Nat)(c:1<=k)(a:d<10):GS (k+1) (10*b+d)=GS k b++[UInt8.ofNat<|48+d]:=by
 unfold GS;rcases Nat.eq_zero_or_pos b with rfl|e
 ·rw[Nat.mul_zero,Nat.zero_add,nDigits_small a,decDigits_one a,nDigits_small ae,decDigits_one ae];obtain⟨j,rfl⟩:∃j,k=j+1:=⟨k-1,by omega⟩;simp_all [List.replicate_succ']
 grind [rL,GN]
theorem U6:∀(k a b:Nat),1<=k->0<a->b<10^k->decDigits (a*10^k+b)=decDigits a++GS k b
 |0,_,_,h,_,_=>by omega
 |1,a,b,_,c,d=>by
  rw[Nat.mul_comm,GN a b c d];simp_all [GS,nDigits_small,decDigits_one]
 |k+2,a,b,_,c,d=>by
  have e:b=10*(b/10)+b % 10:=ae
  have j:b/10<10^(k+1):=by
   grind
  have f:a*10^(k+2)+b=10*(a*10^(k+1)+b/10)+b % 10:=by
   grind
  have hp:0<a*10^(k+1):=Nat.mul_pos c ae;have i:=U6 (k+1) a (b/10) ae c j;have g:=SG (k+1) (b/10) (b % 10) ae ae;rw[f,GN _ _ ae ae,i,qc, <-g, <-e]
def CF:Nat->Nat->List Z
 |0,_=>[]
 |f+1,v=>if v<10^18 then[decDigits v]else GS 18 (v % 10^18)::CF f (v/10^18)
theorem I3:∀(f v:Nat),v<f->(CF f v).reverse.flatten=decDigits v
 |0,_,h=>by omega
 |f+1,v,h=>by
  unfold CF;split
  ·simp
  ·next c=>
   have a:v/10^18<f:=ae
   have d:=I3 f (v/10^18) a;have b:=U6 18 (v/10^18) (v % 10^18) ae ae ae;grind
end Go.Sp
namespace Go.Pe
open Sp
open Go.Det
section
open List Int Prod
namespace T96
def T(s:Z):Tr:=tree uC false 9 96<|Ag ([yx]) s
theorem Aj(s:Z):T s=.ck (AdG s [(47:UInt8)]) (.ite (!Bw s) (.ck (D4<|AD s)<|.ck true<|.leaf (zu [.dat i64<|DF<|AD s,.dat wU<|DH<|AD s,.dat i64 (1:Int),.dat wU<|BL 1]) [])<|.ck (D4<|AD s)<|.ck (D4<|Sp.AV s)<|.leaf (zu [.dat i64<|DF<|AD s,.dat wU<|DH<|AD s,.dat i64<|DF<|Sp.AV s,.dat wU<|DH<|Sp.AV s]) []):=by kernel_rfl
end T96
namespace T172
def T(a b:AM):Tr:=tree uC false 9 172<|Ag ([A3,A3]) (a,b)
def L1(d o1:Int)(a:List Int)(c:Int)(b:List Int):Tr:=re ((T (0,[]) (0,[])).L.L.L.L)<|Aw 21 [(2,.ptr 0 0),(3,.ptr 1 0),(4,.ptr 2 0)] [(2,.box [.dat i64 d,.nil]),(1,.box [.dat i64 o1,.dat wU a]),(0,.box [.dat i64 c,.dat wU b])] 3
theorem Aj(a b:AM):T a b=.ck (z7 b) (.ite (decide (IK b<0)) (.ck (z7 a)<|.ck (z7 b)<|L1 0 (E0 b) (E1 b) (E0 a)<|E1 a)<|L1 0 (fst b) (snd b) (fst a)<|snd a):=by kernel_rfl
theorem Ak(d o1:Int)(a:List Int)(c:Int)(b:List Int):stepT uC (L1 d o1 a c b)=.ck (Bd (c,b)&&Bd (o1,a)&&decide (0<zf (o1,a))) (.leaf (zu [.dat i64<|ZQ (c,b) (o1,a),.dat wU<|bH (c,b) (o1,a)]) []):=by kernel_rfl
end T172
namespace T120
def T(n d:AM):Tr:=tree XA1 false 9 120<|Ag ([A3,A3]) (n,d)
def L1(e c o1:Int)(a:List Int)(d:Int)(b:List Int):Tr:=re ((T (0,[]) (0,[])).L.L.L.L)<|Aw 34 [(2,.ptr 0 0),(3,.ptr 1 0),(4,.ptr 2 0)] [(2,.box [.dat i64 e,.nil,.dat i64 c,.nil]),(1,.box [.dat i64 o1,.dat wU a]),(0,.box [.dat i64 d,.dat wU b])] 3
theorem Aj(n d:AM):T n d=.ck (z7 d) (.ite (decide (IK d<0)) (.ck (z7 n)<|.ck (z7 d)<|L1 0 0 (E0 d) (E1 d) (E0 n)<|E1 n)<|L1 0 0 (fst d) (snd d) (fst n)<|snd n):=by kernel_rfl
def L2(f:Int)(c:List Int)(g d o1:Int)(a:List Int)(e:Int)(b:List Int):Tr:=re ((stepT XA1<|L1 0 0 0 [] 0 []).L.R.L)<|Aw 34 [(2,.ptr 0 0),(3,.ptr 1 0),(4,.ptr 2 0),(5,.ptr 3 0)] [(3,.box [.dat i64 f,.dat wU c]),(2,.box [.dat i64 g,.nil,.dat i64 d,.nil]),(1,.box [.dat i64 o1,.dat wU a]),(0,.box [.dat i64 e,.dat wU b])] 4
theorem Ak(f c o1:Int)(a:List Int)(d:Int)(b:List Int):stepT XA1 (L1 f c o1 a d b)=let e:Tr:=.ck (Bd (d,b)&&Bd (o1,a))<|L2 (N8 (d,b) (o1,a)) (Oe (d,b) (o1,a)) f c o1 a d b;.ite (!decide (0<length a)) (.ite (o1==1) (.leaf (zu [.dat i64 d,.dat wU b,.dat i64 o1,.dat wU a]) []) e) e:=by kernel_rfl
theorem Az(d:Int)(a:List Int)(g e o1:Int)(b:List Int)(f:Int)(c:List Int):stepT XA1 (L2 d a g e o1 b f c)=.ck (Jv (f,c) (d,a)) (.ck (Jv (o1,b) (d,a))<|.leaf (zu [.dat i64<|Sp.iQS (f,c) (d,a),.dat wU<|Sp.iQW (f,c) (d,a),.dat i64<|Sp.iQS (o1,b) (d,a),.dat wU<|Sp.iQW (o1,b) (d,a)]) []):=by kernel_rfl
end T120
namespace T123
def T(a:Ae):Tr:=tree uC false 9 123<|Ag ([Au]) a
theorem Aj(a:Ae):T a=.ite (!decide (0<length (snd<|snd a))) (.leaf (.dat yt<|fst (snd a)==1) []) (.leaf (.bl false) []):=by kernel_rfl
end T123
namespace T121
def T(n:AM):Tr:=tree uC false 9 121<|Ag ([A3]) n
theorem Aj(n:AM):T n=.ck true (.leaf (zu [.dat i64<|fst n,.dat wU<|snd n,.dat i64 (1:Int),.dat wU<|BL 1]) []):=by kernel_rfl
end T121
namespace T131
def T(a:Ae):Tr:=tree uC false 9 131<|Ag ([Au]) a
theorem Aj(a:Ae):T a=.ck (z7<|fst a) (.leaf (zu [.dat i64<|E0<|fst a,.dat wU<|E1<|fst a,.dat i64<|fst<|snd a,.dat wU<|snd<|snd a]) []):=by kernel_rfl
end T131
namespace T59
def T(a b:Ae):Tr:=tree XA2 false 9 59<|Ag ([Au,Au]) (a,b)
def L1(h g o1:Int)(a:List Int)(f:Int)(d:List Int)(i:Int)(c:List Int)(e:Int)(b:List Int):Tr:=re ((T ((0,[]),(0,[])) ((0,[]),(0,[]))).L.L.L.R)<|Aw 34 [(2,.ptr 0 0),(3,.ptr 1 0),(4,.ptr 2 0)] [(2,.box [.dat i64 h,.nil,.dat i64 g,.nil]),(1,.box [.dat i64 o1,.dat wU a,.dat i64 f,.dat wU d]),(0,.box [.dat i64 i,.dat wU c,.dat i64 e,.dat wU b])] 3
theorem Aj(a b:Ae):T a b=let c:=L1 0 0 (fst<|fst b) (snd<|fst b) (fst<|snd b) (snd<|snd b) (fst<|fst a) (snd<|fst a) (fst<|snd a)<|snd<|snd a;.ck true (.ite (Db<|snd a) (.ck true<|.ite (Db<|snd b) (.ck (Bd (fst a)&&Bd (fst b))<|.ck true<|.leaf (zu [.dat i64<|KO (fst a)<|fst b,.dat wU<|KR (fst a)<|fst b,.dat i64 (1:Int),.dat wU<|BL 1]) []) c) c):=by kernel_rfl
theorem Ak(l h o1:Int)(e:List Int)(d:Int)(b:List Int)(i:Int)(f:List Int)(c:Int)(a:List Int):stepT XA2 (L1 l h o1 e d b i f c a)=let b':=(Fx (c,a) (d,b),Fy (c,a) (d,b));let k:=(Fx (i,f) (d,b),Fy (i,f) (d,b));let j:=(Fx (o1,e) (c,a),Fy (o1,e) (c,a));let g:=(KO k j,KR k j);.ck (Bd (i,f)&&Bd (d,b)) (.ck (Bd (o1,e)&&Bd (c,a))<|.ck (Bd k&&Bd j)<|.ck (Bd (c,a)&&Bd (d,b))<|.ck (Jv g b')<|.leaf (zu [.dat i64<|tS g b',.dat wU<|rR g b',.dat i64<|mS g b',.dat wU<|kG g b']) []):=by kernel_rfl
end T59
namespace T65
def T(a b:Ae):Tr:=tree XA2 false 9 65<|Ag ([Au,Au]) (a,b)
theorem Aj(a b:Ae):T a b=let c:=(Fx (fst a)<|fst b,Fy (fst a)<|fst b);let b':=(Fx (snd a)<|snd b,Fy (snd a)<|snd b);.ck (Bd (fst a)&&Bd (fst b)) (.ck (Bd (snd a)&&Bd (snd b))<|.ck (Jv c b')<|.leaf (zu [.dat i64<|tS c b',.dat wU<|rR c b',.dat i64<|mS c b',.dat wU<|kG c b']) []):=by kernel_rfl
end T65
namespace T161
def T(a:Ae):Tr:=tree XA2 false 9 161<|Ag ([Au]) a
theorem Aj(a:Ae):T a=.ck (Jv (snd a)<|fst a) (.leaf (zu [.dat i64<|tS (snd a)<|fst a,.dat wU<|rR (snd a)<|fst a,.dat i64<|mS (snd a)<|fst a,.dat wU<|kG (snd a)<|fst a]) []):=by kernel_rfl
end T161
namespace T64
def T(a b:Ae):Tr:=tree XA3 false 9 64<|Ag ([Au,Au]) (a,b)
theorem Aj(a b:Ae):T a b=let c:=((E0<|fst b,E1<|fst b),fst<|snd b,snd<|snd b);let b':=((fst a),fst<|snd a,snd<|snd a);.ck (z7<|fst b) (.ck (Sp.Cq b'&&Sp.Cq c)<|.leaf (zu [.dat i64<|Jw b' c,.dat wU<|Jp b' c,.dat i64<|JI b' c,.dat wU<|JO b' c]) []):=by kernel_rfl
end T64
namespace T97
def T(a b:Ae):Tr:=tree XA3 false 9 97<|Ag ([Au,Au]) (a,b)
theorem Aj(a b:Ae):T a b=let b':=((fst a),fst<|snd a,snd<|snd a);let d:=((fst b),fst<|snd b,snd<|snd b);let c:=Wc d;.ck (Sp.Cq d&&decide (zf (fst b)≠0)) (.ck (Sp.Cq b'&&Sp.Cq c)<|.leaf (zu [.dat i64<|Abw b' c,.dat wU<|AbM b' c,.dat i64<|AbA b' c,.dat wU<|AbG b' c]) []):=by kernel_rfl
end T97
namespace T73
def T(a b:Ae):Tr:=tree uC false 9 73<|Ag ([Au,Au]) (a,b)
theorem Aj(a b:Ae):T a b=let c:=(Fx (fst a)<|snd b,Fy (fst a)<|snd b);let b':=(Fx (fst b)<|snd a,Fy (fst b)<|snd a);.ck (Bd (fst a)&&Bd (snd b)) (.ck (Bd (fst b)&&Bd (snd a))<|.ck (Bd c&&Bd b')<|.leaf (.dat i64<|fI c b') []):=by kernel_rfl
end T73
namespace T132
def T(a:Ae):Tr:=tree uC false 9 132<|Ag ([Au]) a
theorem Aj(a:Ae):T a=.ck (Bd (fst a)&&Bd (snd a)&&decide (0<zf (snd a))) (.leaf (zu [.dat i64<|ZQ (fst a)<|snd a,.dat wU<|bH (fst a)<|snd a]) []):=by kernel_rfl
end T132
namespace T139
def T(s:Z):Tr:=tree O7 false 9 139<|Ag ([yx]) s
def L1(v0:Z)(v3:Int):Tr:=re ((T []))<|Aw 17 [(0,.dat yx v0),(3,.dat i64 v3)] [] 0
theorem Aj(s:Z):T s=L1 s 0:=by kernel_rfl
theorem Ak(v0:Z)(v3:Int):stepT O7 (L1 v0 v3)=let a:=(length v0:Int);.di (v3<a) (.ck (decide (0<=v3)&&decide (v3<a))<|.ite ((↑(zp<|getD v0 (toNat v3) (0:UInt8)):Int)==47) (.leaf (.dat i64 v3) [])<|L1 v0<|zc .i64<|v3+1) (.leaf (.dat i64 a) []):=by kernel_rfl
end T139
namespace T140
def T(s:Z):Tr:=tree O7 false 9 140<|Ag ([yx]) s
def L1(s v0:Z)(v3:Int):Tr:=re ((T s).R.L.L.R)<|Aw 20 [(0,.dat yx v0),(3,.dat i64 v3)] [] 0
def L2(s v0:Z)(v3:Int):Tr:=re ((T s).R.R)<|Aw 20 [(0,.dat yx v0),(3,.dat i64 v3)] [] 0
theorem Aj(s:Z):T s=let a:=(length s:Int);.ite (a==0) (.leaf (.bl false) []) (.di (a>1) (.cd (0<a)<|.ite ((↑(zp<|getD s 0 (0:UInt8)):Int)==48) (.leaf (.bl false) [])<|L1 s s 0)<|L2 s s 0):=by kernel_rfl
theorem Ak(s v0:Z)(v3:Int):stepT O7 (L1 s v0 v3)=let a:=decide (v3<(length v0:Int));let b':=(↑(zp<|getD v0 (toNat v3) (0:UInt8)):Int);.ite a (.ck (decide (0<=v3)&&a)<|.di (b'<48) (.leaf (.bl false) [])<|.ck (decide (0<=v3)&&a)<|.di (b'>57) (.leaf (.bl false) [])<|L1 s v0<|zc .i64<|v3+1) (.leaf (.bl true) []):=by kernel_rfl
theorem Az(s v0:Z)(v3:Int):stepT O7 (L2 s v0 v3)=let a:=decide (v3<(length v0:Int));let b':=(↑(zp<|getD v0 (toNat v3) (0:UInt8)):Int);.ite a (.ck (decide (0<=v3)&&a)<|.di (b'<48) (.leaf (.bl false) [])<|.ck (decide (0<=v3)&&a)<|.di (b'>57) (.leaf (.bl false) [])<|L2 s v0<|zc .i64<|v3+1) (.leaf (.bl true) []):=by kernel_rfl
end T140
namespace T143
def T(n:Int):Tr:=tree XK2 false 9 143<|Ag ([zt yn]) n
def L1(v0:Int)(v4:Bool):Tr:=re ((T 0))<|Aw 25 [(0,.dat i64 v0),(2,.ptr 0 0),(3,.nil),(4,.dat yt v4)] [(0,.box [.bl false,.nil])] 1
theorem Aj(n:Int):T n=L1 n (decide (n<0)):=by kernel_rfl
def L2(v0:Int)(a:Nat)(v4:Bool)(o1:List Int):Tr:=re ((stepT XK2<|L1 0 false).L.L.L.L.L)<|Aw 25 [(0,.dat i64 v0),(2,.ptr 0 0),(3,.sl 1 1 0 a none),(4,.dat yt v4)] [(1,.arr false 3 i64 o1),(0,.box [.bl false,.nil])] 2
theorem Ak(v0:Int)(v4:Bool):stepT XK2 (L1 v0 v4)=let a:=aa 8;let b':=zc .i64<|yo v0 1000000000;.ite (v0 !=0) (.ck true<|.di (qh v0 1000000000<0) (.ck a<|.ck true<|L2 b' 1 v4<|[zc .i64<|0-qh v0 1000000000])<|.ck a<|.ck true<|L2 b' 1 v4<|[qh v0 1000000000]) (.cd (0<=20000)<|.leaf (zu [.dat yt<|Sp.CQ v4 [],.dat (qd i64)<|Sp.AA []]) []):=by kernel_rfl
theorem Az(v0:Int)(a:Nat)(v4:Bool)(o1:List Int):stepT XK2 (L2 v0 a v4 o1)=let b:=ac a (length o1) 8;let b':=zc .i64<|yo v0 1000000000;.ite (v0 !=0) (.ck true<|.di (qh v0 1000000000<0) (.ck b<|.ck true<|L2 b' (Nat.add a 1) v4<|o1++[zc .i64<|0-qh v0 1000000000])<|.ck b<|.ck true<|L2 b' (Nat.add a 1) v4<|o1++[qh v0 1000000000]) (.ck (decide (0+a<=length o1)&&true&&decide (length (take a o1)<=20000))<|.leaf (zu [.dat yt<|Sp.CQ v4<|take a o1,.dat (qd i64)<|Sp.AA<|take a o1]) []):=by kernel_rfl
end T143
namespace T82
def T(a:Z):Tr:=tree XK3 false 9 82<|Ag ([yx]) a
theorem Aj(a:Z):T a=let b':=zc .i64<|A1 a+1;let b:=take (toNat<|A1 a) a;let c:=take (Nat.sub (length a)<|toNat b')<|drop (toNat b') a;.cd (length a<=1000000) (.ite (A1 a==(length a:Int)) (.ck (D4 a)<|.ck true<|.leaf (.tup [zu [.dat yt<|Gr a,.dat (qd i64)<|Ej a],zu [.dat yt false,.dat (qd i64)<|Sp.rW 1]]) [])<|.ck (decide (0<=A1 a)&&decide (0<=toNat (A1 a))&&decide (toNat (A1 a)<=length a))<|.ck (decide (0<=zc .i64 (A1 a+1))&&true&&decide (toNat b'<=length a)&&decide (length a<=length a))<|.ck (D4 b)<|.ck (D4 c)<|.leaf (.tup [zu [.dat yt<|Gr b,.dat (qd i64)<|Ej b],zu [.dat yt<|Gr c,.dat (qd i64)<|Ej c]]) []):=by kernel_rfl
end T82
namespace T78
def T(a:Z):Tr:=tree Xb false 9 78<|Ag ([yx]) a
def L1(v0 v3:Z):Tr:=re ((T []).L.L.L.L)<|Aw 96 [(0,.dat yx v0),(3,.dat yx v3)] [] 0
theorem Aj(a:Z):T a=.di ((length a:Int)>0) (.cd (0<(length a:Int))<|.ite ((↑(zp<|getD a 0 (0:UInt8)):Int)==45) (.ck (decide (1<=length a)&&decide (length a<=length a))<|L1 a<|take (Nat.sub (length a) 1)<|drop 1 a)<|L1 a a) (L1 a a):=by kernel_rfl
def L2(v3:Z)(v4:Int):Tr:=re ((stepT Xb<|L1 [] []).L.L.L.R.L.L.L.R)<|Aw 96 [(3,.dat yx v3),(4,.dat i64 v4)] [] 0
theorem Ak(v0 v3:Z):stepT Xb (L1 v0 v3)=let b':=A1 v3;let a:Tr:=.leaf (.dat i64 (1:Int)) [];let b:=decide (0<=A1 v3)&&decide (0<=toNat b')&&decide (toNat b'<=length v3);.cd (length v3<=9223372036854775807) (.ck b<|.cd (length (take (toNat b') v3)<=9223372036854775807)<|.ite (!AX (take (toNat b') v3)) a<|.cd (0<(length v0:Int))<|.ite ((↑(zp<|getD v0 0 (0:UInt8)):Int)==45) (.ck b<|.ite (take (toNat b') v3==[(48:UInt8)]) a<|L2 v3 b')<|L2 v3 b'):=by kernel_rfl
def L3(v3:Z)(v4:Int):Tr:=re ((stepT Xb<|L2 [] 0).L.L.L.R.L.R.L.R)<|Aw 96 [(3,.dat yx v3),(4,.dat i64 v4)] [] 0
theorem Az(v3:Z)(v4:Int):stepT Xb (L2 v3 v4)=let b:Tr:=.leaf (.dat i64 (1:Int)) [];let d:=zc .i64<|v4+1;let c:=decide (0<=zc .i64 (v4+1))&&true&&decide (toNat d<=length v3)&&decide (length v3<=length v3);let b':=toNat d;let a:=Nat.sub (length v3) b';.di (v4<(length v3:Int)) (.ck c<|.cd (length (take a<|drop b' v3)<=9223372036854775807)<|.ite (!AX (take a<|drop b' v3)) b<|.ck c<|.ite (take a (drop b' v3)==[(48:UInt8)]) b<|.ck c<|.ite (take a (drop b' v3)==[(49:UInt8)]) b<|L3 v3 v4) (L3 v3 v4):=by kernel_rfl
def L4(v3:Z)(v4:Int):Tr:=re ((stepT Xb<|L3 [] 0).R.R)<|Aw 96 [(3,.dat yx v3),(4,.dat i64 v4)] [] 0
theorem Bq(v3:Z)(v4:Int):stepT Xb (L3 v3 v4)=let a:Tr:=.leaf (.dat i64 (4:Int)) [];.di (v4>600) a (.di (zc .i64 (zc .i64 ((length v3:Int)-v4)-1)>600) a<|L4 v3 v4):=by kernel_rfl
def L5(o1:Bool)(a:List Int)(c:Bool)(b:List Int):Tr:=re ((stepT Xb<|L4 [] 0).L.L)<|Aw 96 [(5,.ptr 0 0),(6,.ptr 1 0)] [(1,.box [.dat yt o1,.dat (qd i64) a]),(0,.box [.dat yt c,.dat (qd i64) b])] 2
theorem Ck(v3:Z)(v4:Int):stepT Xb (L4 v3 v4)=.di (v4<(length v3:Int)) (.ck (DT v3)<|L5 (Bz v3) (Bp v3) (BZ v3)<|BT v3) (.leaf (.dat i64 (0:Int)) []):=by kernel_rfl
def L6(a:List Int):Tr:=re ((stepT Xb<|L5 false [] false []).L)<|Aw 96 [(7,.dat (qd i64) a)] [] 0
theorem EF(o1:Bool)(a:List Int)(c:Bool)(b:List Int):stepT Xb (L5 o1 a c b)=.ck (Ba b&&Ba a&&decide (length b<=9000)&&decide (length a<=9000)) (L6<|CI b a):=by kernel_rfl
theorem E2(a:List Int):stepT Xb (L6 a)=let b:Tr:=.leaf (.dat i64 (1:Int)) [];.ite ((length a:Int) !=1) b (.cd (0<(length a:Int))<|.ite (getD a 0 0 !=1) b<|.leaf (.dat i64 (0:Int)) []):=by kernel_rfl
end T78
end
end Go.Pe
