import Derived.Test.YtmcnicakonagdaaGreatDoorX14
import Derived.Test.YtmcnicakonagdaaGreatDoorX13
import Derived.Test.YtmcnicakonagdaaGreatDoorX12
/- A part of a proof (no law is stated here). Made by program out of texts by AI agents. -/
noncomputable section
set_option maxRecDepth 10000
open Go.Pe.Ends renaming tt -> zc, leaf -> ze, ite -> zl, Aq -> zn, ff -> zo, eq -> zq
open Go.IntKind renaming u64 -> zd, wrap -> zi
open Bool renaming and_eq_true -> zf, true_and -> qt
open Go.Pe.Sh renaming nlist -> zg, pair -> zh, int -> zj, str -> zm, list -> yk
open Int renaming toNat_natCast -> zk, eq_ofNat_of_zero_le -> ya, mul_le_mul_of_nonneg_left -> yc, tmod_eq_emod_of_nonneg -> yf, le_of_lt -> yp, gcd -> yt, natAbs_of_nonneg -> yv, mul_ne_zero -> yz, natCast_nonneg -> y9, tdiv_eq_ediv_of_nonneg -> qc, natAbs_mul -> qd, mul_ediv_cancel_left -> qg, tdiv_eq_ediv_of_dvd -> qi, mul_zero -> qk, add_zero -> ql, sign_eq_one_of_pos -> qm, one_mul -> qn, mul_nonneg -> qo, add_assoc -> qq, zero_sub -> qv, gcd_comm -> qw
open Rat renaming divInt -> zp
open List renaming length_append -> zr, take_of_length_le -> zu, length_cons -> zw, length_drop -> zx, drop_eq_nil_of_le -> zz, getD_eq_getElem?_getD -> z8, length_eq_zero_iff -> yb, getElem?_eq_none -> yd, mem_of_mem_drop -> yh, mem_cons_self -> yn, length_singleton -> yq, all_eq_true -> yr, length_pos_iff -> y7, take -> qh, drop -> qp
open Go.Sp renaming BL -> zt, AN -> ye, rW -> yg, first -> yi, rN -> yo, B9 -> yw, vR -> qx
open Go.Lib renaming decDigits -> zy
open Go.Pe.Ad renaming of -> z6
open Nat renaming le_refl -> z7, add -> yj, pow_le_pow_right -> yx, add_sub_cancel -> y8, zero_le -> qf, sub -> qj
open UInt8 renaming ofNat -> yu, toNat_inj -> yy
open Go.Fn renaming func -> qe
open Go.Pe.T69 renaming Ds -> qu
namespace Go.Pe
open Sp
open Go.Det
theorem XT:Ey XM5:=Ab T127.ok AU
theorem T52.ok:Ag Bi 52 YI:=by
 refine Cc EN (fun(a:List UInt8) hl=>?_);have hl:a.length<=1000000:=w6 hl;have hq:∀s ob,s=AZ a->Ad YI a (.dat .str s) ob:=fun s ob h=>z6 rfl rfl h
 refine zq (T52.An a) (zl (fun c=>zo rfl (ze (hq _ _ ?_))) (fun c=>?_))
 ·have c:a=[48]:=by simpa using c
  subst c;rfl
 ·cases a with
  |nil=>exact zo rfl (zo rfl (ze (hq _ _ rfl)))
  |cons x r=>
   have g0:(x::r).getD 0 0=x:=rfl;have e:(qp 1 (x::r)).take (qj (x::r).length 1)=r:=by show r.take ((r.length+1)-1)=r;rw[y8];exact List.take_length
   rw[g0,e];refine zc (by simp) (zc (by simp) (zl (fun d=>zc rfl (zc (by simp) (ze (hq _ _ ?_)))) (fun d=>zo rfl (ze (hq _ _ ?_)))))
   ·have hc:x=45:=by
     have:(x.toNat:Int)=45:=by simpa using d
     exact yy.1 (by show _=45;omega)
    unfold AZ;rw[g0,wd hc];rfl
   ·have hc:x≠45:=by rintro rfl;exact wh d (by decide)
    unfold AZ;rw[g0,wc hc]
theorem T53.ok:Ag Bi 53 iN:=by
 refine Cc XT (fun(a:List UInt8) hl=>?_);have hle:=(qu a).1;refine zq (T53.An a) (zc hl ?_);rw[show AY a=((Ay a).length:Int)from rfl,zk];exact zc (by simp;omega) (ze (z6 rfl rfl (BQ a).1.symm))
theorem T54.ok:Ag Bi 54 XS:=by
 refine Cc XT (fun(a:List UInt8) hl=>?_);have hl':a.length<=1000000:=w6 hl;obtain⟨c1,c2,c3⟩:=BQ a;have hq:∀s ob,s=SZ a->Ad XS a (.dat .str s) ob:=fun s ob h=>z6 rfl rfl h
 have hle:=(qu a).1;have es:AY a=((Ay a).length:Int):=rfl;refine zq (T54.An a) (zc hl ?_);rw[es];cases hc:Bs a with
 |false=>
  refine zc (by rw[(c3 hc).1];simp) (ze (hq _ _ ?_));unfold SZ;rw[hc];rfl
 |true=>
  obtain⟨k1,k2⟩:=c2 hc;have e1:zi .i64 (((Ay a).length:Int)+1)=(((Ay a).length+1:Nat):Int):=by rw[wr _ (by omega) (by omega)];omega
  have e2:(a.drop ((Ay a).length+1)).take (qj a.length ((Ay a).length+1))=a.drop ((Ay a).length+1):=zu (by rw[zx];exact z7 _);rw[e1,zk,e2];refine zo (by simp;omega) (zc (by simp;omega) (ze (hq _ _ ?_)));unfold SZ;rw[hc,k2];rfl
theorem qC:Ey XM3:=Ab T51.ok (Ab T52.ok (Ab T53.ok (Ab T54.ok AU)))
theorem T10.ok:Ag Bi 10 iL:=by
 refine Cc qC (fun(i:List UInt8×Int) hi=>?_);obtain⟨a,n⟩:=i;have hi:(decide (0<=n)&&decide (n<=1000))=true:=hi;rw[zf,w5,w5]at hi;obtain⟨h0,h1⟩:=hi;have hq:∀v b ob,v=.bl b\/v=.dat .bool b->b=C9 a n->Ad iL (a,n) v ob:=by
  rintro v b ob (rfl|rfl) hb
  ·exact z6 rfl rfl hb
  ·exact z6 rfl rfl hb
 have e1:zi .i64 (zi .i64 (2*n)+2)=2*n+2:=by rw[wr (2*n) (by omega) (by omega)];exact wr _ (by omega) (by omega)
 have hle:=(qu a).1;refine zq (T10.An a n) ?_;conv=>zeta
 rw[e1];by_cases hl:a.length<=1000000
 case neg=>
  have c:decide ((a.length:Int)<=2*n+2)=false:=w8 (by omega);refine zo c (ze (hq _ _ _ (.inl rfl) ?_));unfold C9;rw[c];rfl
 refine zl (fun c=>zc (w4 hl) (zl (fun d=>zc (w4 hl) (zc (w4 (by omega)) (zl (fun e=>zc (w4 hl) (ze (hq _ _ _ (.inr rfl) ?_))) (fun e=>ze (hq _ _ _ (.inl rfl) ?_))))) (fun d=>ze (hq _ _ _ (.inl rfl) ?_)))) (fun c=>ze (hq _ _ _ (.inl rfl) ?_))
 ·have d:Az a=0:=by simpa using d
  unfold C9;rw[c,e,w4 d];rfl
 ·unfold C9;rw[e];simp
 ·have d:Az a≠0:=by simpa using d
  unfold C9;rw[w8 d];simp
 ·unfold C9;rw[c];rfl
namespace T153
variable {Q:PV->Ob->Prop}
theorem Ao(g:Nat)(hq:∀ob,Q (.dat i64 (g:Int)) ob):∀(f x y:Nat),y<f->Nat.gcd x y=g->Ends NQ (L1 (x:Int) (y:Int)) Q
 |0,x,y,h,_=>by omega
 |f+1,x,y,hy,hg=>by
  refine zn (Au ..) ?_;conv=>zeta
  by_cases h0:y=0
  ·subst h0;rw[Nat.gcd_zero_right]at hg;subst hg;exact zo rfl (ze (hq _))
  ·have e:Int.tmod (x:Int) (y:Int)=((x % y:Nat):Int):=by rw[yf (y9 x)];rfl
   rw[e];have hlt:x % y<y:=Nat.mod_lt _ (by omega);exact zc (by simp;omega) (zc (by simp;omega) (Ao g hq f y (x % y) (by omega) (by rw[Nat.gcd_comm, <-Nat.gcd_rec,Nat.gcd_comm];exact hg)))
theorem ok:Ag Bi 153 uG:=by
 refine Cc EN (fun(i:Int×Int) hi=>?_);obtain⟨a,b⟩:=i;have hi:(decide (0<=a)&&decide (a<9223372036854775808)&&decide (0<=b)&&decide (b<9223372036854775808))=true:=hi;rw[zf,zf,zf,w5,w5,w5,w5]at hi;obtain⟨⟨⟨a0,_⟩,b0⟩,_⟩:=hi;obtain⟨x,rfl⟩:=ya a0;obtain⟨y,rfl⟩:=ya b0;refine zq (An x y) (Ao (Nat.gcd x y) (fun ob=>z6 rfl rfl ?_) (y+1) x y (Nat.lt_succ_self _) rfl);show((Nat.gcd x y:Nat):Int)=Sp.gI (x:Int) (y:Int);rw[FA];rfl
end T153
namespace T79
theorem ok:Ag Bi 79 SK:=by
 refine Cc EN (fun(s:List UInt8) hl=>?_);have hq:∀v ob,v=Hf s->Ad SK s (.dat i64 v) ob:=fun v ob hb=>z6 rfl rfl hb
 refine zq (An s) (zl (fun c=>ze (hq _ _ ?_)) (fun c=>?_))
 ·have c:s=[48]:=by simpa using c
  unfold Hf;rw[wd c]
 ·have c:¬s=[48]:=by simpa using c
  cases s with
  |nil=>exact zo rfl (ze (hq _ _ rfl))
  |cons x r=>
   have g0:(x::r).getD 0 0=x:=rfl;rw[g0];refine zc (by simp) (zc (by simp) (zl (fun d=>ze (hq _ _ ?_)) (fun d=>ze (hq _ _ ?_))))
   ·have hx:x=45:=by
     have:(x.toNat:Int)=45:=by simpa using d
     exact yy.1 (by show _=45;omega)
    unfold Hf;rw[wc c,g0,wd hx]
   ·have hx:x≠45:=by rintro rfl;exact wh d (by decide)
    unfold Hf;rw[wc c,g0,wc hx]
end T79
theorem rE:Ey XO2:=Ab T79.ok AU
theorem T86.ok:Ag Bi 86 bG:=by
 refine Cc rE (fun(s:List UInt8) hl=>?_);have hl:s.length<=1000000:=w6 hl;have hq:∀v ob,v=Lm s->Ad bG s (.dat .str v) ob:=fun v ob hb=>z6 rfl rfl hb
 refine zq (T86.An s) (zc (w4 hl) ?_);unfold Lm at hq;unfold Hf;by_cases c:s=[48]
 ·rw[wd c];rw[wd c]at hq;exact zo rfl (zc (w4 hl) (zc rfl (ze (hq _ _ rfl))))
 ·rw[wc c];rw[wc c]at hq;by_cases d:s.getD 0 0=45
  ·rw[wd d];rw[wd d]at hq;have hn:s≠[]:=by rintro rfl;exact wh d (by decide)
   have hp:1<=s.length:=y7.2 hn;refine zc rfl (zc (by simp;omega) (ze (hq _ _ ?_)));exact zu (by rw[zx];exact z7 _)
  ·rw[wc d];rw[wc d]at hq;exact zo rfl (zc (w4 hl) (zo rfl (zc (by simp;omega) (ze (hq _ _ rfl)))))
namespace T154
theorem aA:∀k:Fin 10,qh (qj (k.1+1) k.1) (qp k.1 [(48:UInt8),49,50,51,52,53,54,55,56,57])=[yu (48+k.1)]:=by decide
theorem Ao{Q:PV->Ob->Prop}(l:Nat)(hl:l<=20):∀(f n:Nat) (acc:List UInt8),n<9223372036854775808->n<10^f->l<=acc.length+f->acc.length+f<=64->(∀ob,Q (.dat .str (Hv (f+1) n l acc)) ob)->Ends NQ (L1 (n:Int) (l:Int) acc) Q:=by
 intro f;induction f with
 |zero=>
  intro n acc hn hf hle h64 hq;have h0:n=0:=by rw[Nat.pow_zero]at hf;omega
  subst h0;unfold Hv at hq;rw[wd ⟨rfl,by omega⟩]at hq;exact zn (Au ..) (zo rfl (zo (by simp;omega) (ze (hq _))))
 |succ f ih=>
  intro n acc hn hf hle h64 hq;have e1:Int.tmod (n:Int) 10=((n % 10:Nat):Int):=by rw[yf (y9 n)];rfl
  have e2:zi .i64 (((n % 10:Nat):Int)+1)=((n % 10+1:Nat):Int):=by rw[wr _ (by omega) (by omega)];omega
  have e3:zi .i64 (Int.tdiv (n:Int) 10)=((n/10:Nat):Int):=by rw[qc (y9 n),wr _ (by omega) (by omega)];rfl
  have hd:=aA ⟨n % 10,Nat.mod_lt _ (by decide)⟩;have hd:qh (qj (n % 10+1) (n % 10)) (qp (n % 10) [(48:UInt8),49,50,51,52,53,54,55,56,57])=[yu (48+n % 10)]:=hd;have hm:n % 10<10:=Nat.mod_lt _ (by decide);rw[Nat.pow_succ]at hf;refine zn (Au ..) ?_;conv=>zeta
  rw[e1,e2,e3,zk,zk,hd];by_cases hz:n=0/\l<=acc.length
  ·obtain⟨z1,z2⟩:=hz;subst z1;unfold Hv at hq;rw[wd ⟨rfl,z2⟩]at hq;exact zo rfl (zo (by simp;omega) (ze (hq _)))
  ·have hq2:∀ob,Q (.dat .str (Hv (f+1) (n/10) l (yu (48+n % 10)::acc))) ob:=by
    intro ob;have:=hq ob;unfold Hv at this;rw[wc hz]at this;exact this
   have go:Ends NQ (L1 ((n/10:Nat):Int) (l:Int) ([yu (48+n % 10)]++acc)) Q:=ih (n/10) (yu (48+n % 10)::acc) (by omega) (by omega) (by rw[zw];omega) (by rw[zw];omega) hq2;refine zl (fun _=>?_) (fun c=>zc ?_ ?_)
   ·exact zc rfl (zc rfl (zc (by simp;omega) (zc (by simp;omega) (zc rfl go))))
   ·have c:=w7 c;exact w4 (by omega)
   ·exact zc rfl (zc rfl (zc (by simp;omega) (zc (by simp;omega) (zc rfl go))))
theorem ok:Ag Bi 154 Pa:=by
 refine Cc EN (fun(i:Int×Int) hi=>?_);obtain⟨a,b⟩:=i;have hi:(decide (0<=a)&&decide (a<9223372036854775808)&&decide (0<=b)&&decide (b<=20))=true:=hi;rw[zf,zf,zf,w5,w5,w5,w5]at hi;obtain⟨⟨⟨a0,a1⟩,b0⟩,b1⟩:=hi;obtain⟨x,rfl⟩:=ya a0;obtain⟨y,rfl⟩:=ya b0;refine zq (An x y) (Ao y (by omega) 63 x [] (by omega) (by omega) (by show y<=0+63;omega) (by decide) (fun ob=>z6 rfl rfl ?_));show Hv 64 x y []=Hv 64 (x:Int).toNat (y:Int).toNat [];rw[zk,zk]
end T154
theorem oJ:Ey NI:=Ab T151.ok (Ab T127.ok AU)
namespace T80
variable {Q:PV->Ob->Prop}
theorem Cs(neg:Bool)(n d:Int)(h0:0<=n)(h1:n<1000000000)(hq:∀ob,Q (.tup [.dat i64 (if neg=true then -n else n),.dat i64 d,.bl true]) ob):Ends NI (L7 neg n d) Q:=by
 refine zn (Ew ..) ?_;conv=>zeta
 cases neg with
 |true=>
  refine zc rfl (ze ?_);rw[wr _ (by omega) (by omega),qv];exact hq _
 |false=>exact zo rfl (ze (hq _))
theorem CA(s:List UInt8)(neg:Bool)(n:Int)(h0:0<=n)(h1:n<1000000000)(hl:s.length<=20)(lb:(ye s).length<=9)(db:Aj (ye s)=true)(hq:∀ob,Q (.tup [.dat i64 (if neg=true then -n else n),.dat i64 (if Bs s=true then AB 0 (ye s)else 1),.bl true]) ob):Ends NI (L5 s neg (AY s) n 1) Q:=by
 obtain⟨c1,c2,c3⟩:=BQ s;refine zn (Es ..) ?_;conv=>zeta
 have es:AY s=((Ay s).length:Int):=rfl;have hle:=(qu s).1;cases hc:Bs s with
 |true=>
  rw[hc]at hq;obtain⟨k1,k2⟩:=c2 hc;have e3:zi .i64 (AY s+1)=(((Ay s).length+1:Nat):Int):=by rw[es,wr _ (by omega) (by omega)];omega
  have hl2:(ye s).length=s.length-((Ay s).length+1):=by rw[k2,zx]
  have et:(ye s).take (qj s.length ((Ay s).length+1))=ye s:=zu (by show _<=s.length-_;omega);rw[e3,zk, <-k2,et];exact zc (by simp[es];omega) (zc (by simp;omega) (zc (T155.B6 db (by omega)) (Cs neg n _ h0 h1 hq)))
 |false=>
  obtain⟨k1,k2⟩:=c3 hc;rw[hc]at hq;exact zo (by simp[es,k1]) (Cs neg n 1 h0 h1 hq)
theorem Dd(s:List UInt8)(neg:Bool)(hl:s.length<=20)(la:(Ay s).length<=9)(lb:(ye s).length<=9)(da:Aj (Ay s)=true)(db:Aj (ye s)=true)(hq:∀n ob,n=AB 0 (Ay s)->Q (.tup [.dat i64 (if neg=true then -n else n),.dat i64 (if Bs s=true then AB 0 (ye s)else 1),.bl true]) ob):Ends NI (L3 s neg ) Q:=by
 obtain⟨c1,c2,c3⟩:=BQ s;have es:AY s=((Ay s).length:Int):=rfl;have hle:=(qu s).1;have hlen:s.length-(Ay s).length<=10:=by
  cases hc:Bs s with
  |true=>
   obtain⟨k1,k2⟩:=c2 hc;have:(ye s).length=s.length-((Ay s).length+1):=by rw[k2,zx]
   omega
  |false=>rw[(c3 hc).1];omega
 have et:qh (Int.toNat (AY s)) s=Ay s:=by rw[es,zk];exact c1.symm
 obtain⟨v0,v1⟩:=T155.Cy da la;refine zn (C5 ..) ?_;conv=>zeta
 rw[et];refine zc (by simp;omega) (zo (by simp[es];omega) (zo ?_ (zc (by simp[es];omega) (zc (T155.B6 da (by omega)) ?_))))
 ·rw[es,wr _ (by omega) (by omega)];exact w8 (by omega)
 ·exact CA s neg (AB 0 (Ay s)) v0 v1 hl lb db (fun ob=>hq _ ob rfl)
theorem Fl(n d:Int)(hq:∀ob,Q (.tup [.dat i64 n,.dat i64 d,.bl true]) ob):Ends NI (L8 n d) Q:=by
 refine zn (HX ..) ?_;conv=>zeta
 exact ze (hq _)
theorem ET(s:List UInt8)(n:Int)(hl:s.length<=20)(lb:(ye s).length<=9)(db:Aj (ye s)=true)(hq:∀ob,Q (.tup [.dat i64 n,.dat i64 (if Bs s=true then AB 0 (ye s)else 1),.bl true]) ob):Ends NI (L6 s (AY s) n 1) Q:=by
 obtain⟨c1,c2,c3⟩:=BQ s;refine zn (Fi ..) ?_;conv=>zeta
 have es:AY s=((Ay s).length:Int):=rfl;have hle:=(qu s).1;cases hc:Bs s with
 |true=>
  rw[hc]at hq;obtain⟨k1,k2⟩:=c2 hc;have e3:zi .i64 (AY s+1)=(((Ay s).length+1:Nat):Int):=by rw[es,wr _ (by omega) (by omega)];omega
  have hl2:(ye s).length=s.length-((Ay s).length+1):=by rw[k2,zx]
  have et:(ye s).take (qj s.length ((Ay s).length+1))=ye s:=zu (by show _<=s.length-_;omega);rw[e3,zk, <-k2,et];exact zc (by simp[es];omega) (zc (by simp;omega) (zc (T155.B6 db (by omega)) (Fl n _ hq)))
 |false=>
  obtain⟨k1,k2⟩:=c3 hc;rw[hc]at hq;exact zo (by simp[es,k1]) (Fl n 1 hq)
theorem BX(s:List UInt8)(hl:s.length<=20)(la:(Ay s).length<=9)(lb:(ye s).length<=9)(da:Aj (Ay s)=true)(db:Aj (ye s)=true)(hq:∀n ob,n=AB 0 (Ay s)->Q (.tup [.dat i64 n,.dat i64 (if Bs s=true then AB 0 (ye s)else 1),.bl true]) ob):Ends NI (L4 s ) Q:=by
 obtain⟨c1,c2,c3⟩:=BQ s;have es:AY s=((Ay s).length:Int):=rfl;have hle:=(qu s).1;have hlen:s.length-(Ay s).length<=10:=by
  cases hc:Bs s with
  |true=>
   obtain⟨k1,k2⟩:=c2 hc;have:(ye s).length=s.length-((Ay s).length+1):=by rw[k2,zx]
   omega
  |false=>rw[(c3 hc).1];omega
 have et:qh (Int.toNat (AY s)) s=Ay s:=by rw[es,zk];exact c1.symm
 obtain⟨v0,v1⟩:=T155.Cy da la;refine zn (CT ..) ?_;conv=>zeta
 rw[et];refine zc (by simp;omega) (zo (by simp[es];omega) (zo ?_ (zc (by simp[es];omega) (zc (T155.B6 da (by omega)) ?_))))
 ·rw[es,wr _ (by omega) (by omega)];exact w8 (by omega)
 ·exact ET s (AB 0 (Ay s)) hl lb db (fun ob=>hq _ ob rfl)
end T80
end Go.Pe
namespace Go.Sp
theorem Hb(a:List Int)(i:Nat):val B9 (a.drop i)=a.getD i 0+1000000000*val B9 (a.drop (i+1)):=by
 by_cases h:i<a.length
 ·rw[Ch h];rfl
 ·rw[zz (by omega),zz (by omega),show a.getD i 0=0 by rw[z8,yd (by omega)];rfl];rfl
structure FH(a b:List Int)(i:Nat)(o:List Int)(c:Int):Prop where
 len:o.length=i
 d:Aw B9 o
 c01:0<=c/\c<=1
 v:val B9 o+(B9:Int)^i*(c+val B9 (a.drop i)+val B9 (b.drop i))=At a+At b
 top:a.length<=i->b.length<=i->i=0\/(B9:Int)^(i-1)<=val B9 o+(B9:Int)^i*c
theorem FH.start(a b:List Int):FH a b 0 [] 0:=⟨rfl,(fun x hx=>by cases hx),by decide,by
 show 0+(B9:Int)^0*(0+val B9 a+val B9 b)=val B9 a+val B9 b;rw[Int.pow_zero,qn];omega,fun _ _=>.inl rfl⟩
theorem BA{a:List Int}(h:A9 a=true)(i:Nat):0<=a.getD i 0/\a.getD i 0<1000000000:=GF (Bo h).2.1 i
theorem RZ{a:List Int}(h:A9 a=true){i:Nat}(h1:i<a.length)(h2:a.length<=i+1):1<=a.getD i 0:=by
 have:=(Go.Pe.Gj (Bo h).2.1 (Bo h).2.2 (k:=i) (by omega)).1;omega
theorem FH.step{a b:List Int}{i:Nat}{o:List Int}{c:Int}(h:FH a b i o c)(ha:A9 a=true)(hb:A9 b=true)(hc:i<a.length\/i<b.length\/0<c):
  FH a b (i+1) (o++[(a.getD i 0+b.getD i 0+c) % 1000000000]) ((a.getD i 0+b.getD i 0+c)/1000000000):=by
 obtain⟨x0,x1⟩:=BA ha i;obtain⟨y0,y1⟩:=BA hb i;obtain⟨c0,c1⟩:=h.c01;have hv:=h.v;rw[Hb a i,Hb b i]at hv;have hs:1<=a.getD i 0+b.getD i 0+c\/¬(a.length<=i+1/\b.length<=i+1):=by
  by_cases k:a.length<=i+1/\b.length<=i+1
  ·refine .inl ?_;rcases hc with hc|hc|hc
   ·have:=RZ ha hc k.1;omega
   ·have:=RZ hb hc k.2;omega
   ·omega
  ·exact .inr k
 have ho:=AA (b:=B9) (by decide) h.d;have hP:=AO (b:=B9) (by decide) i;generalize a.getD i 0=x at*;generalize b.getD i 0=y at*;have hval:val B9 (o++[(x+y+c) % 1000000000])=val B9 o+(B9:Int)^i*((x+y+c) % 1000000000):=by rw[Ci,h.len]
 refine⟨by rw[zr,h.len];rfl,Fh h.d (by omega),by omega,?_,fun k1 k2=>.inr ?_⟩
 ·rw[hval,JM,qq, <-Int.mul_add, <-hv];congr 2;omega
 ·rw[hval,JM,qq, <-Int.mul_add,y8];have e:(x+y+c) % 1000000000+1000000000*((x+y+c)/1000000000)=x+y+c:=by omega
  rw[e];rcases hs with hs|hs
  ·have:=yc hs (yp hP);rw[Int.mul_one]at this;omega
  ·exact wh ⟨k1,k2⟩ hs
theorem zL{o:List Int}(hd:Aw B9 o)(h:o=[]\/(B9:Int)^(o.length-1)<=val B9 o):nz o:=by
 rcases h with rfl|h
 ·unfold nz;simp
 ·intro e;have hn:o≠[]:=by rintro rfl;simp at e
  have e2:o=o.dropLast++[0]:=by
   have h1:=(List.dropLast_concat_getLast hn).symm;rw[List.getLast?_eq_some_getLast hn]at e;rw[Option.some.inj e]at h1;exact h1
  have hl:o.length=o.dropLast.length+1:=by rw[List.length_dropLast];have:=y7.2 hn;omega
  have hv:val B9 o=val B9 o.dropLast:=by
   conv=>lhs;rw[e2]
   rw[Ci,qk,ql]
  have hd2:Aw B9 o.dropLast:=fun x hx=>hd x (by rw[e2];exact List.mem_append_left _ hx)
  have:=Bu (b:=B9) (by decide) hd2;rw[hv,hl,y8]at h;omega
theorem FH.fin{a b:List Int}{i:Nat}{o:List Int}(h:FH a b i o 0)(h1:a.length<=i)(h2:b.length<=i):o=Me a b:=by
 have hv:=h.v;rw[zz h1,zz h2]at hv;have hv:val B9 o+(B9:Int)^i*(0+0+0)=At a+At b:=hv;rw[show(0+0+0:Int)=0 from rfl,qk,ql]at hv;have ht:=h.top h1 h2;rw[qk,ql, <-h.len]at ht;have hn:nz o:=zL h.d (by
  rcases ht with k|k
  ·exact .inl (yb.1 k)
  ·exact .inr k)
 unfold Me;rw[<-hv];exact Ix (b:=B9) (by decide) h.d hn
structure GM(a b:List Int)(i:Nat)(o:List Int)(c:Int):Prop where
 len:o.length=i
 d:Aw B9 o
 c01:0<=c/\c<=1
 v:val B9 o+(B9:Int)^i*(val B9 (a.drop i)-val B9 (b.drop i)-c)=At a-At b
theorem GM.start(a b:List Int):GM a b 0 [] 0:=⟨rfl,(fun x hx=>by cases hx),by decide,by
 show 0+(B9:Int)^0*(val B9 a-val B9 b-0)=val B9 a-val B9 b;rw[Int.pow_zero,qn];omega⟩
theorem GM.step{a b:List Int}{i:Nat}{o:List Int}{c:Int}(h:GM a b i o c)(ha:A9 a=true)(hb:A9 b=true)(d c':Int)(hd:(a.getD i 0-b.getD i 0-c<0/\d=a.getD i 0-b.getD i 0-c+1000000000/\c'=1)\/(¬a.getD i 0-b.getD i 0-c<0/\d=a.getD i 0-b.getD i 0-c/\c'=0)):
  GM a b (i+1) (o++[d]) c':=by
 obtain⟨x0,x1⟩:=BA ha i;obtain⟨y0,y1⟩:=BA hb i;obtain⟨c0,c1⟩:=h.c01;have hv:=h.v;rw[Hb a i,Hb b i]at hv;generalize a.getD i 0=x at*;generalize b.getD i 0=y at*;refine⟨by rw[zr,h.len];rfl,Fh h.d (by omega),by omega,?_⟩;rw[Ci,h.len,JM,qq, <-Int.mul_add, <-hv];congr 2;omega
theorem GM.fin{a b:List Int}{o:List Int}{c:Int}(h:GM a b a.length o c)(hb:A9 b=true)(hle:At b<=At a):Av o=GH a b:=by
 have hv:=h.v;rw[List.drop_length]at hv;have h0:=AA (b:=B9) (by decide) (EH (Bo hb).2.1 a.length);have hlt:=Bu (b:=B9) (by decide) h.d;rw[h.len]at hlt;obtain⟨c0,c1⟩:=h.c01;have hP:=AO (b:=B9) (by decide) a.length;have hv:val B9 o+(B9:Int)^a.length*(0-val B9 (b.drop a.length)-c)=At a-At b:=hv;generalize val B9 (b.drop a.length)=z at*;have hz:0-z-c=0:=by
  rcases Int.lt_or_le (0-z-c) 0 with k|k
  ·have:=yc (show 0-z-c<= -1 by omega) (yp hP);rw[Int.mul_neg,Int.mul_one]at this;omega
  ·omega
 rw[hz,qk,ql]at hv;unfold GH;rw[FL h.d, <-hv];rfl
open Go.Lib
theorem Vy(n:Int):rN n=decide (n<0):=rfl
theorem M8(a:Bool×List Int):(a.1=true->vR a= -At a.2)/\(a.1=false->vR a=At a.2):=by
 unfold vR;exact⟨fun h=>by rw[wd h],fun h=>by rw[wc (by rw[h];decide)]⟩
theorem OQ{neg:Bool}{w:List Int}{n:Int}(hd:Aw B9 w)(h0:0<=At w)(h1:neg=true->n= -At w)(h2:neg=false->n=At w):(Cg neg w,Av w)=(rN n,rW n):=by
 refine bV hd ?_ (fun hn=>?_)
 ·rw[Ah];cases neg with
  |true=>have:=h1 rfl;omega
  |false=>have:=h2 rfl;omega
 ·rw[Vy];cases neg with
  |true=>have:=h1 rfl;symm;rw[w5];omega
  |false=>have:=h2 rfl;symm;rw[w9];omega
theorem I7{n:Int}(h:0<=n):At (BV n)=n/\Aw B9 (BV n):=⟨CV (b:=B9) (by decide) h,Fp (b:=B9) (by decide) n⟩
theorem ZF{a b:Bool×List Int}(ha:CQ a=true)(hb:CQ b=true)(h:a.1=b.1):(Cg a.1 (Me a.2 b.2),Av (Me a.2 b.2))=(MS a b,MO a b):=by
 have a0:=(GK ha).2;have b0:=(GK hb).2;obtain⟨e1,e2⟩:=M8 a;obtain⟨f1,f2⟩:=M8 b;obtain⟨hv,hd⟩:=I7 (n:=At a.2+At b.2) (by omega);refine OQ hd (by show 0<=At (BV _);omega) (fun k=>?_) (fun k=>?_)
 ·rw[e1 k,f1 (by rw[<-h];exact k)];show _= -At (BV _);omega
 ·rw[e2 k,f2 (by rw[<-h];exact k)];show _=At (BV _);omega
theorem Ye{a b:Bool×List Int}(hb:CQ b=true)(h:a.1≠b.1)(hl:At b.2<=At a.2):(Cg a.1 (GH a.2 b.2),Av (GH a.2 b.2))=(MS a b,MO a b):=by
 have b0:=(GK hb).2;obtain⟨e1,e2⟩:=M8 a;obtain⟨f1,f2⟩:=M8 b;obtain⟨hv,hd⟩:=I7 (n:=At a.2-At b.2) (by omega);refine OQ hd (by show 0<=At (BV _);omega) (fun k=>?_) (fun k=>?_)
 ·rw[e1 k,f2 (by rw[k]at h;cases hb:b.1 with|true=>exact wh hb.symm h|false=>rfl)];show _= -At (BV _);omega
 ·rw[e2 k,f1 (by rw[k]at h;cases hb:b.1 with|true=>rfl|false=>exact wh hb.symm h)];show _=At (BV _);omega
theorem mX{a b:Bool×List Int}(ha:CQ a=true)(h:a.1≠b.1)(hl:At a.2<=At b.2):(Cg b.1 (GH b.2 a.2),Av (GH b.2 a.2))=(MS a b,MO a b):=by
 have:=Ye ha (fun k=>h k.symm) hl;rw[this];unfold MS MO;rw[Int.add_comm]
theorem hO{a b:Bool×List Int}(ha:CQ a=true)(hb:CQ b=true):(Cg (a.1 !=b.1) (BV (At a.2*At b.2)),Av (BV (At a.2*At b.2)))=(Hl a b,Hy a b):=by
 have a0:=(GK ha).2;have b0:=(GK hb).2;obtain⟨e1,e2⟩:=M8 a;obtain⟨f1,f2⟩:=M8 b;have p0:=qo a0 b0;obtain⟨hv,hd⟩:=I7 p0;refine OQ hd (by omega) (fun k=>?_) (fun k=>?_)
 ·rw[hv];cases h1:a.1<;>cases h2:b.1<;>rw[h1,h2]at k
  ·exact wh k (by decide)
  ·rw[e2 h1,f1 h2,Int.mul_neg]
  ·rw[e1 h1,f2 h2,Int.neg_mul]
  ·exact wh k (by decide)
 ·rw[hv];cases h1:a.1<;>cases h2:b.1<;>rw[h1,h2]at k
  ·rw[e2 h1,f2 h2]
  ·exact wh k (by decide)
  ·exact wh k (by decide)
  ·rw[e1 h1,f1 h2,Int.neg_mul,Int.mul_neg,Int.neg_neg]
theorem bE{a:Bool×List Int}(ha:CQ a=true):(Cg (!a.1) a.2,Av a.2)=(RP a,RL a):=by
 have a0:=(GK ha).2;obtain⟨e1,e2⟩:=M8 a;refine OQ (Bo (DB ha).1).2.1 a0 (fun k=>?_) (fun k=>?_)
 ·rw[e2 (by simpa using k)]
 ·rw[e1 (by simpa using k),Int.neg_neg]
theorem qF{w:List Int}{i:Nat}(hl:w.length=i+1):val B9 (w.drop i)=w.getD i 0:=by
 rw[Hb,zz (by omega)];show _+1000000000*0=_;omega
theorem V4{w:List Int}(hw:A9 w=true){i:Nat}(hl:w.length=i+1):H5 (w.getD i 0) 1=decDigits (val B9 (w.drop i)).toNat/\0<val B9 (w.drop i):=by
 have g:=BA hw i;have t:=RZ hw (i:=i) (by omega) (by omega);rw[qF hl];exact⟨OA g.1 (by omega),by omega⟩
theorem YY{w:List Int}(hw:A9 w=true)(i:Nat)(h0:0<val B9 (w.drop (i+1))):decDigits (val B9 (w.drop (i+1))).toNat++H5 (w.getD i 0) 9=decDigits (val B9 (w.drop i)).toNat/\0<val B9 (w.drop i):=by
 have g:=BA hw i;rw[Hb w i,Y8 g.1 g.2];generalize val B9 (w.drop (i+1))=V at*;generalize w.getD i 0=x at*;have h:=RB 9 V.toNat x.toNat (by decide) (by omega) (by omega);refine⟨?_,by omega⟩;rw[<-h];congr 1;omega
theorem gS{a:Bool×List Int}(ha:CQ a=true)(hne:a.2≠[]):(if a.1=true then 45::decDigits (At a.2).toNat else decDigits (At a.2).toNat)=JQ a:=by
 obtain⟨e1,e2⟩:=M8 a;have h0:0<At a.2:=Jm (b:=B9) (by decide) (Bo (DB ha).1).2.1 (Bo (DB ha).1).2.2 hne;unfold JQ A1 itoa;by_cases h:a.1=true
 ·rw[wd h,e1 h,wd (by omega),show(-At a.2).natAbs=(At a.2).toNat by omega]
 ·have h:a.1=false:=by simpa using h
  rw[wc (by rw[h];decide),e2 h,wc (by omega)]
theorem eV{a:Bool×List Int}(h:a.2=[]):[48]=JQ a:=by
 have:vR a=0:=by
  unfold vR;rw[h];split<;>rfl
 unfold JQ A1 itoa;rw[this,wc (by decide),show(0:Int).toNat=0 from rfl,decDigits_one (by decide)];rfl
theorem Hx{N D:Int}(hD:0<D):0<gI (Ae N) D/\Ae N/gI (Ae N) D=Ae (zp N D).num/\D/gI (Ae N) D=((zp N D).den:Int)/\(N<0↔(zp N D).num<0):=by
 have hs:D.sign=1:=qm hD;have e1:(zp N D).num=N/(yt N D:Int):=by rw[Rat.num_divInt,hs,qn,qw]
 have e2:((zp N D).den:Int)=D/(yt N D:Int):=by
  rw[Rat.den_divInt,wc (Int.ne_of_gt hD),qw,Int.natCast_ediv];rw[yv (yp hD)]
 have eg:gI (Ae N) D=(yt N D:Int):=by rw[FA,Ah];rfl
 have hg:0<yt N D:=Int.gcd_pos_of_ne_zero_right _ (by omega);obtain⟨k,hk⟩:(yt N D:Int)∣N:=Int.gcd_dvd_left ..;rw[eg,e1,e2];have hg:(0:Int)<(yt N D:Int):=by omega
 generalize (yt N D:Int)=g at*;have h1:N/g=k:=by rw[hk,qg _ (by omega)]
 have h2:Ae N/g=Ae k:=by
  rw[Ah,Ah,hk,qd,Int.natCast_mul,show((g.natAbs:Nat):Int)=g by omega,qg _ (by omega)]
 refine⟨hg,by rw[h1,h2],rfl,?_⟩;rw[h1];constructor
 ·intro h;rcases Int.lt_or_le k 0 with x|x
  ·exact x
  ·have:=qo (yp hg) x;omega
 ·intro h;have:=Int.mul_neg_of_pos_of_neg hg h;omega
theorem eJ{N D:Int}(hD:0<D){neg:Bool}(hn:neg=rN N):(Cg neg (BV (Ae N/gI (Ae N) D)),Av (BV (Ae N/gI (Ae N) D)))=(rN (zp N D).num,rW (zp N D).num):=by
 obtain⟨_,h1,_,h3⟩:=Hx (N:=N) hD;rw[h1];have a0:=NO (zp N D).num;obtain⟨hv,hd⟩:=I7 a0;refine bV hd hv (fun _=>?_);rw[hn,Vy,Vy,decide_eq_decide];exact h3
theorem qJ{n:Int}(h0:0<=n):BV n=[1]↔n=1:=by
 constructor
 ·intro h;have:=(I7 h0).1;rw[h]at this;exact this.symm
 ·rintro rfl;rfl
theorem QE{N D:Int}:Dc N D=if (zp N D).den=1 then A1 (zp N D).num else A1 (zp N D).num++47::A1 ((zp N D).den:Int):=by
 unfold Dc AW;split
 ·rfl
 ·rw[show A1 ((zp N D).den:Int)=decDigits (zp N D).den from Lib.itoa_nonneg _];rfl
theorem UD(N D:Int):Dc (-N) (-D)=Dc N D:=by
 unfold Dc;rw[Rat.neg_divInt_neg]
theorem PI{s:List UInt8}(h:Bk s=true):A8 s=ID s/\AI s=Tj s/\Aj (Ay (AZ s))=true/\Aj (AN (AZ s))=true:=by
 obtain⟨t,_⟩:=Ho h;obtain⟨c1,c2,c3⟩:=FG (Ar s);obtain⟨p1,p2,p3,p4⟩:=RE s;obtain⟨i1,i2,i3,i4⟩:=Dm (Ar s).num;rw[t]at c1 c2 c3;have hB:Aj (AN s)=true:=by
  rw[c2];split
  ·rfl
  ·exact DP _
 refine⟨?_,?_,?_,?_⟩
 ·unfold A8 ID Ck;rw[p1, <-p4];unfold AZ preB;by_cases hc:(Ay s).getD 0 0=45
  ·rw[wd hc,wd hc,wd (w4 hc)]
  ·rw[wc hc,wc hc,wc (by rw[w8 hc];decide)]
 ·unfold AI Tj Ck;rw[p2,p3,wc (Fx hB)]
 ·rw[p1,c1,i2];exact DP _
 ·rw[p2];exact hB
theorem Gs{s:List UInt8}(h:Bk s=true)(hq:DU s=true):iU s=A8 s/\Tq s=AI s/\ -1000000000<A8 s/\A8 s<1000000000/\0<AI s/\AI s<1000000000:=by
 obtain⟨h1,h2,h3,h4⟩:=PI h;have hd:0<AI s:=by
  have:=(ES h).2.2.2.2.2.1;have:=(Ar s).den_pos;omega
 unfold iU Tq;rw[wd hq,wd hq];unfold DU at hq;rw[zf,zf,w5,w5,w5]at hq;obtain⟨⟨_,l1⟩,l2⟩:=hq;have b1:=Be h3;have b2:=Be h4;have m1:(10:Int)^(Ay (AZ s)).length<=10^9:=AL (by decide) l1;have m2:(10:Int)^(AN (AZ s)).length<=10^9:=AL (by decide) l2;refine⟨h1.symm,h2.symm,?_,?_,hd,?_⟩
 ·rw[h1];unfold ID;split<;>omega
 ·rw[h1];unfold ID;split<;>omega
 ·rw[h2];unfold Tj;split<;>omega
theorem ZJ{a b:List UInt8}(ha:Bk a=true)(hb:Bk b=true):Df a b=Dc (A8 a*AI b+AI a*A8 b) (AI a*AI b)/\Df a b=Dc (A8 a*AI b+A8 b*AI a) (AI a*AI b):=by
 have d1:AI a≠0:=by
  have:=(ES ha).2.2.2.2.2.1;have:=(Ar a).den_pos;omega
 have d2:AI b≠0:=by
  have:=(ES hb).2.2.2.2.2.1;have:=(Ar b).den_pos;omega
 have e:Df a b=Dc (A8 a*AI b+A8 b*AI a) (AI a*AI b):=by
  unfold Df Dc Ar;rw[Rat.divInt_add_divInt _ _ d1 d2]
 exact⟨by rw[e,Int.mul_comm (AI a) (A8 b)],e⟩
theorem YX{a b:List UInt8}:Eb a b=Dc (A8 a*A8 b) (AI a*AI b):=by
 unfold Eb Dc Ar;rw[Rat.divInt_mul_divInt]
theorem Y2{a:List UInt8}:rK a=Dc (AI a) (A8 a):=by
 unfold rK Dc Ar;rw[Rat.inv_divInt]
end Go.Sp
namespace Go.Sp
theorem TL:∀(f n l:Nat) (acc:List UInt8),(Hv f n l acc).length<=acc.length+f
 |0,_,_,acc=>z7 _
 |f+1,n,l,acc=>by
  unfold Hv;split
  ·omega
  ·have:=TL f (n/10) l (yu (48+n % 10)::acc);rw[zw]at this;omega
theorem Oz(n l:Int):(H5 n l).length<=64:=by
 have:=TL 64 n.toNat l.toNat [];rw[List.length_nil,Nat.zero_add]at this;exact this
theorem Ts{v:Int}{k:Nat}(h:v<(B9:Int)^k)(hk:1<=k):(zy v.toNat).length<=9*k:=by
 rw[VJ]at h;have h4:((10^(9*k):Nat):Int)=(10:Int)^(9*k):=Int.natCast_pow ..;rw[<-h4]at h;refine Dl (k:=9*k) ?_ (by omega);have hp:0<10^(9*k):=Nat.pow_pos (by decide);generalize 10^(9*k)=P at*;omega
end Go.Sp
namespace Go.Pe
open Sp
open Go.Det
theorem uN{s:Sh}(hs:s.sz=1){id n:Nat}{tail:Ob}{fz:Bool}{t:TypeId}{o:List s.T}(hn:n=o.length):KP ⟨0,.leaf,(id,.arr fz t s o)::tail,0⟩ (.list s) (.sl id 1 0 n none)=some (true,o):=by
 subst hn;have h1:AP ((id,Obj.arr fz t s o)::tail) id=some (.arr fz t s o):=by unfold AP;rw[Nat.beq_refl];rfl
 unfold KP;have h2:F7 ⟨0,.leaf,(id,.arr fz t s o)::tail,0⟩ (PV.cells (.sl id 1 0 o.length none))=some (true,[.dat (.list s) o]):=by
  show(match C2 ⟨0,.leaf,(id,.arr fz t s o)::tail,0⟩ (.sl id 1 0 o.length none),some (true,[])with|some (c,x),some (d,xs)=>some (c&&d,x::xs)|_,_=>none)=_;have:C2 ⟨0,.leaf,(id,.arr fz t s o)::tail,0⟩ (.sl id 1 0 o.length none)=some (true,.dat (.list s) o):=by
   unfold C2 AK.obj;simp only[h1,hs,Nat.beq_refl,we];simp
  rw[this];rfl
 simp only[MG,Sh.Qn];show(match F7 ⟨0,.leaf,(id,.arr fz t s o)::tail,0⟩ (PV.cells (.sl id 1 0 o.length none))with|some (c,cs)=>_|none=>none)=_;rw[h2];have:DQ (.list s) [PV.dat (.list s) o]=some o:=by
  unfold DQ Cx tX D4;simp
 simp only[Ww,this,qt]
theorem oA{s:Sh}(hs:s.sz=1){id n:Nat}{tail:Ob}{fz:Bool}{t:TypeId}{o:List s.T}(hn:n=o.length):YT [.list s] (.sl id 1 0 n none) ((id,.arr fz t s o)::tail)=some (true,o):=uN hs hn
theorem HV(a:List Int)(i:Nat):H2 a (i:Int)=a.getD i 0:=by unfold H2;rw[zk]
theorem oB:Ey XR0:=fun g sp h=>by cases h
theorem T204.ok:Ag Bi 204 V5:=by
 refine Cc oB (fun(i:List Int×Int) hi=>?_);obtain⟨a,i⟩:=i;have h0:0<=i:=w6 hi;have hq:∀v ob,v=H2 a i->Ad V5 (a,i) (.dat i64 v) ob:=fun v ob h=>z6 rfl rfl h
 refine zq (T204.An a i) (zl (fun c=>zc (Aa (w4 h0) c) (ze (hq _ _ rfl))) (fun c=>ze (hq _ _ ?_)));have c:=w7 c;unfold H2;rw[z8,yd (by omega)];rfl
theorem YF:Ey Vt:=Ab T204.ok (Ab T202.ok AU)
theorem QA{x y c:Int}(hx:0<=x/\x<1000000000)(hy:0<=y/\y<1000000000)(hc:0<=c/\c<=1):
  zi .i64 (zi .i64 (x+y)+c)=x+y+c/\Int.tmod (x+y+c) 1000000000=(x+y+c) % 1000000000/\zi .i64 (Int.tdiv (x+y+c) 1000000000)=(x+y+c)/1000000000:=by
 refine⟨?_,yf (by omega),?_⟩
 ·rw[wr (x+y) (by omega) (by omega)];exact wr _ (by omega) (by omega)
 ·rw[qc (by omega)];exact wr _ (by omega) (by omega)
theorem cI{a b:List Int}(h:lH a b=true):A9 a=true/\A9 b=true/\a.length<=9000/\b.length<=9000:=by
 unfold lH at h;rw[zf,zf,zf,w5,w5]at h;exact⟨h.1.1.1,h.1.1.2,h.1.2,h.2⟩
theorem cQ{a b:List Int}(h1:A9 a=true)(h2:A9 b=true)(h3:a.length<=9000)(h4:b.length<=9000):lH a b=true:=by
 unfold lH;rw[h1,h2,w4 h3,w4 h4];rfl
namespace T160
variable {Q:PV->Ob->Prop}
theorem done(a b o:List Int)(i:Nat)(ha:a.length<=i)(hb:b.length<=i)(hq:Q (.sl 0 1 0 o.length none) [(0,.arr false 3 (.int .i64) o)]):Ends Vt (L2 a b o.length 0 i o) Q:=
 zn (AV ..) (zo (w8 (by omega)) (zo (w8 (by omega)) (zo (by decide) (ze hq))))
theorem A4(a b:List Int)(ha:A9 a=true)(hb:A9 b=true)(la:a.length<=9000)(lb:b.length<=9000)(hq:Q (.sl 0 1 0 (Me a b).length none) [(0,.arr false 3 (.int .i64) (Me a b))]):∀(k i:Nat) (o:List Int) (c:Int),i+k=max a.length b.length->FH a b i o c->Ends Vt (L2 a b o.length c i o) Q:=by
 have stop:∀(i:Nat) (o:List Int),a.length<=i->b.length<=i->FH a b i o 0->Ends Vt (L2 a b o.length 0 i o) Q:=fun i o h1 h2 h=>by
  have:=h.fin h1 h2;exact done a b o i h1 h2 (by rw[this];exact hq)
 have next:∀(i:Nat) (o:List Int) (c:Int),i<=9000->FH a b i o c->(i<a.length\/i<b.length\/0<c->Ends Vt (L2 a b (o++[(a.getD i 0+b.getD i 0+c) % 1000000000]).length ((a.getD i 0+b.getD i 0+c)/1000000000) ((i+1:Nat):Int) (o++[(a.getD i 0+b.getD i 0+c) % 1000000000])) Q)->Ends Vt (L2 a b o.length c i o) Q:=fun i o c hi h go=>by
  obtain⟨s1,s2,s3⟩:=QA (BA ha i) (BA hb i) h.c01;have e1:zi .i64 ((i:Int)+1)=((i+1:Nat):Int):=by rw[wr _ (by omega) (by omega)];omega
  have hl:=h.len;have cap:(decide ((1:Nat)<=(1:Nat))&&true&&decide (o.length=o.length)&&decide ((2*(o.length+1)+1000)*8<=281474976710656))=true:=by
   rw[w4 (z7 1),w4 (p:=o.length=o.length) rfl,Bool.and_true,qt];exact w4 (by omega)
  have h0:decide ((0:Int)<=(i:Int))=true:=w4 (by omega);rw[zr]at go;by_cases c1:(i:Int)<(a.length:Int)
  ·refine zn (AV ..) ?_;conv=>zeta
   rw[HV,HV,s1,s2,s3,e1];exact zc (w4 c1) (zc h0 (zc h0 (zc rfl (zc cap (zc rfl (go (.inl (by omega))))))))
  ·by_cases c2:(i:Int)<(b.length:Int)
   ·refine zn (AV ..) ?_;conv=>zeta
    rw[HV,HV,s1,s2,s3,e1];exact zo (w8 c1) (zc (w4 c2) (zc h0 (zc h0 (zc rfl (zc cap (zc rfl (go (.inr (.inl (by omega))))))))))
   ·by_cases c3:c>0
    ·refine zn (AV ..) ?_;conv=>zeta
     rw[HV,HV,s1,s2,s3,e1];exact zo (w8 c1) (zo (w8 c2) (zc (w4 c3) (zc h0 (zc h0 (zc rfl (zc cap (zc rfl (go (.inr (.inr c3))))))))))
    ·obtain rfl:c=0:=by have:=h.c01;omega
     exact stop i o (by omega) (by omega) h
 intro k;induction k with
 |zero=>
  intro i o c hi h;refine next i o c (by omega) h (fun hc=>?_);have h2:=h.step ha hb hc;have z1:a.getD i 0=0:=by rw[z8,yd (by omega)];rfl
  have z2:b.getD i 0=0:=by rw[z8,yd (by omega)];rfl
  have hc0:=h.c01;have z3:(a.getD i 0+b.getD i 0+c)/1000000000=0:=by rw[z1,z2];omega
  rw[z3]at h2 ⊢;exact stop (i+1) _ (by omega) (by omega) h2
 |succ k ih=>
  intro i o c hi h;exact next i o c (by omega) h (fun hc=>ih (i+1) _ _ (by omega) (h.step ha hb hc))
theorem ok:Ag Bi 160 VW:=by
 refine Cc YF (fun(i:List Int×List Int) hi=>?_);obtain⟨a,b⟩:=i;obtain⟨ha,hb,la,lb⟩:=cI hi;obtain⟨s1,s2,s3⟩:=QA (BA ha 0) (BA hb 0) (c:=0) (by decide);have h0:=FH.start a b;have e0:(0:Int)=((0:Nat):Int):=rfl;have go:(0<a.length\/0<b.length)->Ends Vt (L2 a b 1 ((a.getD 0 0+b.getD 0 0+0)/1000000000) ((1:Nat):Int) [(a.getD 0 0+b.getD 0 0+0) % 1000000000]) (Ad VW (a,b)):=fun hc=>
  A4 a b ha hb la lb (z6 (oA rfl rfl) rfl rfl) (max a.length b.length-1) 1 _ _ (by omega) (h0.step ha hb (by rcases hc with h|h<;>omega))
 refine zq (An a b) (zn (Au ..) ?_);have d1:H2 a 0=a.getD 0 0:=rfl;have d2:H2 b 0=b.getD 0 0:=rfl;have e1:zi .i64 ((0:Int)+1)=((1:Nat):Int):=rfl;rw[d1,d2,s1,s2,s3,e1];refine zl (fun c=>?_) (fun c1=>zl (fun c=>?_) (fun c2=>zo rfl (ze (z6 (y:=[]) rfl rfl ?_))))
 ·exact zc rfl (zc rfl (zc rfl (zc rfl (zc rfl (go (.inl (by have:=w6 c;omega)))))))
 ·exact zc rfl (zc rfl (zc rfl (zc rfl (zc rfl (go (.inr (by have:=w6 c;omega)))))))
 ·have c1:=w7 c1;have c2:=w7 c2;exact h0.fin (by omega) (by omega)
end T160
namespace T162
variable {Q:PV->Ob->Prop}
theorem GQ{x y c:Int}(hx:0<=x/\x<1000000000)(hy:0<=y/\y<1000000000)(hc:0<=c/\c<=1):
  zi .i64 (zi .i64 (x-y)-c)=x-y-c/\zi .i64 (x-y-c+1000000000)=x-y-c+1000000000:=by
 refine⟨?_,wr _ (by omega) (by omega)⟩;rw[wr (x-y) (by omega) (by omega)];exact wr _ (by omega) (by omega)
theorem A4(a b:List Int)(ha:A9 a=true)(hb:A9 b=true)(la:a.length<=9000)(hle:At b<=At a)(hq:∀ob,Q (.dat li (GH a b)) ob):∀(k i:Nat) (o:List Int) (c:Int),i+k=a.length->GM a b i o c->Ends Vt (L2 a b o.length c i o) Q
 |0,i,o,c,hi,h=>by
  have hi:i=a.length:=by omega
  subst hi;have hl:=h.len;refine zn (AV ..) (zo (w8 (by omega)) ?_);rw[zu (z7 _)];refine zc (Aa (Aa (w4 (by omega)) rfl) (w4 (by omega))) (ze ?_);rw[h.fin hb hle];exact hq _
 |k+1,i,o,c,hi,h=>by
  obtain⟨s1,s2⟩:=GQ (BA ha i) (BA hb i) h.c01;have e1:zi .i64 ((i:Int)+1)=((i+1:Nat):Int):=by rw[wr _ (by omega) (by omega)];omega
  have hl:=h.len;have cap:(decide ((1:Nat)<=(1:Nat))&&true&&decide (o.length=o.length)&&decide ((2*(o.length+1)+1000)*8<=281474976710656))=true:=by
   rw[w4 (z7 1),w4 (p:=o.length=o.length) rfl,Bool.and_true,qt];exact w4 (by omega)
  refine zn (AV ..) ?_;conv=>zeta
  rw[HV,zk,s1,s2,e1];refine zc (w4 (by omega)) (zc (Aa (w4 (by omega)) (w4 (by omega))) (zc (w4 (by omega)) (zl (fun d=>zc cap ?_) (fun d=>zc cap ?_))))
  ·have:=A4 a b ha hb la hle hq k (i+1) _ _ (by omega) (h.step ha hb _ 1 (.inl ⟨w6 d,rfl,rfl⟩));rw[zr]at this;exact this
  ·have:=A4 a b ha hb la hle hq k (i+1) _ _ (by omega) (h.step ha hb _ 0 (.inr ⟨w7 d,rfl,rfl⟩));rw[zr]at this;exact this
theorem ok:Ag Bi 162 VA:=by
 refine Cc YF (fun(i:List Int×List Int) hi=>?_);obtain⟨a,b⟩:=i;have hi:(lH a b&&decide (At b<=At a))=true:=hi;rw[zf,w5]at hi;obtain⟨hi,hle⟩:=hi;obtain⟨ha,hb,la,lb⟩:=cI hi;have h0:=GM.start a b;have hq:∀ob,Ad VA (a,b) (.dat li (GH a b)) ob:=fun ob=>z6 rfl rfl rfl
 refine zq (An a b) (zn (Au ..) ?_);obtain⟨s1,s2⟩:=GQ (BA ha 0) (BA hb 0) (c:=0) (by decide);have d2:H2 b 0=b.getD 0 0:=rfl;have e1:zi .i64 ((0:Int)+1)=((1:Nat):Int):=rfl;rw[d2,show Int.toNat 0=0 from rfl,s1,s2,e1];refine zl (fun c=>?_) (fun c=>?_)
 ·have c1:=w6 c;refine zc (Aa rfl c) (zc rfl (zl (fun d=>zc rfl ?_) (fun d=>zc rfl ?_)))
  ·exact A4 a b ha hb la hle hq (a.length-1) 1 _ _ (by omega) (h0.step ha hb _ 1 (.inl ⟨w6 d,rfl,rfl⟩))
  ·exact A4 a b ha hb la hle hq (a.length-1) 1 _ _ (by omega) (h0.step ha hb _ 0 (.inr ⟨w7 d,rfl,rfl⟩))
 ·have c:=w7 c;have hz:a=[]:=yb.1 (by omega);subst hz;refine zc rfl (ze ?_);rw[GM.fin h0 hb hle];exact hq _
end T162
theorem SC:Ey XR2:=Ab T159.ok (Ab T160.ok (Ab T161.ok (Ab T162.ok (Ab T163.ok (Ab T157.ok AU)))))
theorem K0{n:Int}{k:Nat}(h0:0<=n)(h:n<(yw:Int)^k):(BV n).length<=k:=Nq h0 h
theorem KV{a:Bool×List Int}(h:CQ a=true):0<=At a.2/\At a.2<(yw:Int)^3000:=by
 obtain⟨h1,h2,_⟩:=DB h;refine⟨(GK h).2,Int.lt_of_lt_of_le (Bu (b:=yw) (by decide) (Bo h1).2.1) (AL (by decide) h2)⟩
theorem WK{x y:Int}{k:Nat}(h1:x<(yw:Int)^k)(h2:y<(yw:Int)^k):x+y<(yw:Int)^(k+1):=by
 have:(yw:Int)^(k+1)=(yw:Int)^k*1000000000:=Int.pow_succ ..;have hp:=AO (b:=(yw:Int)) (by decide) k;rw[this];omega
theorem T84.ok:Ag Bi 84 iY:=by
 refine Cc SC (fun(i:(Bool×List Int)×(Bool×List Int)) hi=>?_);obtain⟨a,b⟩:=i;have hi:(CQ a&&CQ b)=true:=hi;rw[zf]at hi;obtain⟨ha,hb⟩:=hi;obtain⟨a1,a2,_⟩:=DB ha;obtain⟨b1,b2,_⟩:=DB hb;obtain⟨va,wa⟩:=KV ha;obtain⟨vb,wb⟩:=KV hb;have pl:=cQ a1 b1 (by omega) (by omega);have pl2:=cQ b1 a1 (by omega) (by omega);refine zq (T84.An a b) (zl (fun c=>?_) (fun c=>zc (Aa a1 b1) (zl (fun d=>?_) (fun d=>?_))))
 ·have hl:(Me a.2 b.2).length<=3001:=K0 (by omega) (WK wa wb);exact zc pl (zc (w4 (by omega)) (ze (z6 rfl rfl (ZF ha hb (by simpa using c)))))
 ·have hle:At b.2<=At a.2:=by
   have d:=w6 d;unfold Co at d;split at d
   ·omega
   ·omega
  have hl:(GH a.2 b.2).length<=3000:=K0 (by omega) (by omega);exact zc (Aa pl (w4 hle)) (zc (w4 (by omega)) (ze (z6 rfl rfl (Ye hb (by simpa using c) hle))))
 ·have hle:At a.2<=At b.2:=by
   have d:=w7 d;unfold Co at d;split at d
   ·omega
   ·split at d<;>omega
  have hl:(GH b.2 a.2).length<=3000:=K0 (by omega) (by omega);exact zc (Aa pl2 (w4 hle)) (zc (w4 (by omega)) (ze (z6 rfl rfl (mX ha (by simpa using c) hle))))
theorem T85.ok:Ag Bi 85 X9:=by
 refine Cc SC (fun(i:(Bool×List Int)×(Bool×List Int)) hi=>?_);obtain⟨a,b⟩:=i;have hi:(CQ a&&CQ b)=true:=hi;rw[zf]at hi;obtain⟨ha,hb⟩:=hi;obtain⟨a1,a2,_⟩:=DB ha;obtain⟨b1,b2,_⟩:=DB hb;obtain⟨va,wa⟩:=KV ha;obtain⟨vb,wb⟩:=KV hb;have hm:At a.2*At b.2<(yw:Int)^(3000+3000):=by
  rw[Int.pow_add];have hp:(0:Int)<(yw:Int)^3000:=AO (by decide) 3000;exact Int.lt_of_le_of_lt (yc (yp wb) va) (Int.mul_lt_mul_of_pos_right wa hp)
 have hl:=K0 (qo va vb) hm;exact zq (T85.An a b) (zc (Aa (Rb (by omega) (Bo a1).2.1) (Rb (by omega) (Bo b1).2.1)) (zc (w4 (by omega)) (ze (z6 rfl rfl (hO ha hb)))))
theorem T156.ok:Ag Bi 156 X3:=by
 refine Cc SC (fun(a:Bool×List Int) ha=>?_);have ha:CQ a=true:=ha;have:=(DB ha).2.1;exact zq (T156.An a) (zc (w4 (by omega)) (ze (z6 rfl rfl (bE ha))))
theorem oP:Ey XR3:=Ab T154.ok AU
namespace T158
variable {Q:PV->Ob->Prop}
theorem Ao(neg:Bool)(w:List Int)(hw:A9 w=true)(hwl:w.length<=3000)(hq:∀ob,Q (.dat .str (if neg=true then 45::zy (At w).toNat else zy (At w).toNat)) ob):∀(i:Nat),i<=w.length->0<Sp.val yw (w.drop i)->Ends XR3 (L1 (zy (Sp.val yw (w.drop i)).toNat) ((i:Int)-1) neg w) Q:=by
 have hlen:∀i,(zy (Sp.val yw (w.drop i)).toNat).length<=27000:=fun i=>by
  have h1:=Bu (b:=yw) (by decide) (EH (Bo hw).2.1 i);have h2:(yw:Int)^(w.drop i).length<=(yw:Int)^3000:=AL (by decide) (by rw[zx];omega);exact Ts (k:=3000) (Int.lt_of_lt_of_le h1 h2) (by decide)
 intro i;induction i with
 |zero=>
  intro _ _;have hl:=hlen 0;rw[List.drop_zero]at hl ⊢;have hl:(zy (At w).toNat).length<=27000:=hl;refine zn (Au ..) (zo (by decide) (zl (fun c=>zc (w4 (by show 1+(zy (At w).toNat).length<=_;omega)) (ze ?_)) (fun c=>ze ?_)))
  ·rw[wd c]at hq;exact hq _
  ·rw[wc (by rw[c];decide)]at hq;exact hq _
 |succ i ih=>
  intro hi h0;have g:=BA hw i;have e1:(((i+1:Nat):Int)-1)=(i:Int):=by omega
  have hl:=hlen (i+1);have h9:(H5 (w.getD i 0) 9).length<=64:=by
   have:=Oz (w.getD i 0) 9;exact this
  obtain⟨s1,s2⟩:=YY hw i h0;rw[e1];refine zn (Au ..) ?_;conv=>zeta
  rw[zk,s1,wr ((i:Int)-1) (by omega) (by omega)];exact zc (w4 (by omega)) (zc (Aa (w4 (by omega)) (w4 (by omega))) (zc (Aa (Aa (Aa (w4 g.1) (w4 (by omega))) rfl) rfl) (zc (w4 (by omega)) (ih (by omega) s2))))
theorem ok:Ag Bi 158 fO:=by
 refine Cc oP (fun(a:Bool×List Int) ha=>?_);have ha:CQ a=true:=ha;obtain⟨a1,a2,_⟩:=DB ha;refine zq (An a) (zl (fun c=>ze (z6 rfl rfl (eV ?_))) (fun c=>?_))
 ·exact yb.1 (by have:(a.2.length:Int)=0:=(by simpa using c);omega)
 ·have c:(a.2.length:Int)≠0:=by simpa using c
  obtain⟨i,hi⟩:∃i,a.2.length=i+1:=⟨a.2.length-1,by omega⟩;have g:=BA a1 i;obtain⟨s1,s2⟩:=V4 a1 hi;have e1:zi .i64 ((a.2.length:Int)-1)=(i:Int):=by rw[wr _ (by omega) (by omega)];omega
  have e2:zi .i64 ((a.2.length:Int)-2)=(i:Int)-1:=by rw[wr _ (by omega) (by omega)];omega
  rw[e1,e2,zk,s1];refine zc (Aa (w4 (by omega)) (w4 (by omega))) (zc (Aa (Aa (Aa (w4 g.1) (w4 (by omega))) rfl) rfl) (Ao a.1 a.2 a1 a2 (fun ob=>z6 rfl rfl ?_) i (by omega) s2));exact gS ha (by intro h;rw[h]at hi;cases hi)
end T158
end Go.Pe
namespace Go.Sp
theorem fN{a k m:Nat}(h:a<10^k)(hk:k<=m):a<10^m:=Nat.lt_of_lt_of_le h (yx (by decide) hk)
theorem iE{a b k:Nat}(h1:a<10^k)(h2:b<10^k):a+b<10^(k+1):=by rw[Nat.pow_succ];omega
theorem JS{n:Int}{k:Nat}(h:n.natAbs<10^k)(hk:k<=27000):CQ (rN n,rW n)=true:=S8 (fN (m:=27000) h hk)
theorem Jb{m n:Int}(h:CQ (rN n,rW n)=true)(hm:m.natAbs<=n.natAbs):CQ (rN m,rW m)=true:=by
 have:=wQ h;rw[EY]at this;exact S8 (Nat.lt_of_le_of_lt hm this)
theorem Xv{n:Int}(h:CM n=true):CQ (rN n,rW n)=true:=by
 have h:=Go.Pe.En h;exact JS (k:=20) (by have:10^20=100000000000000000000:=rfl;omega) (by decide)
theorem TE{n:Int}(h:CQ (rN n,rW n)=true):A9 (rW n)=true/\(rW n).length<=3000/\Ae n<(B9:Int)^3000:=by
 obtain⟨h1,h2,_⟩:=DB h;refine⟨h1,h2,?_⟩;have:=(Go.Pe.KV h).2;rwa [show At (rN n,rW n).2=Ae n from J6 n]at this
theorem Un{n:Int}(h:CQ (rN n,rW n)=true):(A1 n).length<=27001:=by
 have h1:=(TE h).2.2;have h2:=Ts h1 (by decide);have e:(Ae n).toNat=n.natAbs:=by rw[Ah];omega
 rw[e]at h2;unfold A1 Lib.itoa;split
 ·rw[zw];omega
 ·rw[show n.toNat=n.natAbs by omega];omega
theorem Vq(n:Int):JQ (rN n,rW n)=A1 n:=by unfold JQ;rw[EY]
theorem W3{N D:Int}(hD:0<D):Int.tdiv N (gI (Ae N) D)=(zp N D).num/\Int.tdiv D (gI (Ae N) D)=((zp N D).den:Int):=by
 have hs:D.sign=1:=qm hD;have eg:gI (Ae N) D=(yt N D:Int):=by rw[FA,Ah];rfl
 have d1:(yt N D:Int)∣N:=Int.gcd_dvd_left ..;have d2:(yt N D:Int)∣D:=Int.gcd_dvd_right ..;rw[eg,qi d1,qi d2];refine⟨?_,(Hx (N:=N) hD).2.2.1▸?_⟩
 ·rw[Rat.num_divInt,hs,qn,qw]
 ·rw[eg]
theorem QU(x y:Int):Hl (rN x,rW x) (rN y,rW y)=rN (x*y):=by unfold Hl;rw[EY,EY]
theorem QW(x y:Int):Hy (rN x,rW x) (rN y,rW y)=rW (x*y):=by unfold Hy;rw[EY,EY]
theorem jS(x y:Int):MS (rN x,rW x) (rN y,rW y)=rN (x+y):=by unfold MS;rw[EY,EY]
theorem bH(x y:Int):MO (rN x,rW x) (rN y,rW y)=rW (x+y):=by unfold MO;rw[EY,EY]
theorem Pg(x y:Int):HY (rN x,rW x) (rN y,rW y)=Dc x y:=by unfold HY;rw[EY,EY]
theorem neg_num(x:Rat):(x.num<0↔x<0)/\(x.num>0↔0<x):=by
 rw[Rat.lt_iff,Rat.lt_iff];have:(0:Rat).num=0:=rfl;have h1:((0:Rat).den:Int)=1:=rfl;rw[this,h1];omega
theorem hJ(p q:Rat):Ou (p-q).num=if p<q then -1 else if q<p then 1 else 0:=by
 obtain⟨h1,h2⟩:=neg_num (p-q);have h3:p-q<0↔p<q:=by rw[Rat.sub_lt_iff,Rat.zero_add]
 have h4:0<p-q↔q<p:=(Rat.lt_iff_sub_pos q p).symm;unfold Ou;simp only[h1,h2,h3,h4]
end Go.Sp
namespace Go.Pe
open Sp
open Go.Det
theorem oS:Ey lC:=Ab T156.ok (Ab T129.ok (Ab T157.ok (Ab T159.ok (Ab T158.ok AU))))
namespace T83
variable {Q:PV->Ob->Prop}
theorem Dd(n d:Int)(hn:CQ (yo n,yg n)=true)(hd:CQ (yo d,yg d)=true)(d0:0<=d)(hq:∀ob,Q (.dat .str (A1 n++47::A1 d)) ob):Ends lC (L3 (BV d) (A1 n)) Q:=by
 have l1:=Un hn;have l2:=Un hd;have e:yg d=BV d:=by unfold yg;rw[Ah,yv d0]
 have l3:=(TE hd).2.1;rw[e]at l3;obtain⟨hv,hg⟩:=I7 d0;have hp:(Cg false (BV d),Av (BV d))=(yo d,yg d):=OQ hg (by omega) (fun k=>(by cases k)) (fun _=>hv.symm);refine zn (C5 ..) ?_;conv=>zeta
 rw[hp,Vq];refine zc (w4 (by omega)) (zc (w4 (by omega)) (zc hd (zc (w4 (by rw[zr,yq];omega)) (ze ?_))));rw[List.append_assoc];exact hq _
theorem A4(n d:Int)(hn:CQ (yo n,yg n)=true)(hd:CQ (yo d,yg d)=true)(d0:0<d)(hq1:d=1->∀ob,Q (.dat .str (A1 n)) ob)(hq:d≠1->∀ob,Q (.dat .str (A1 n++47::A1 d)) ob):Ends lC (L2 (BV d) (A1 n)) Q:=by
 have h1:=qJ (n:=d) (by omega);by_cases h:d=1
 ·rw[h1.2 h];exact zn (AV ..) (zc rfl (zc rfl (zc rfl (ze (hq1 h _)))))
 ·have h3:=Dd n d hn hd (by omega) (hq h);refine zn (AV ..) (zl (fun c=>zc ?_ (zl (fun e=>?_) (fun _=>h3))) (fun _=>h3))
  ·have c:((BV d).length:Int)=1:=by simpa using c
   exact w4 (by omega)
  ·exfalso;have c:((BV d).length:Int)=1:=by simpa using c
   have e:(BV d).getD 0 0=1:=by simpa using e
   refine h (h1.1 ?_);cases hl:BV d with
   |nil=>rw[hl]at c;cases c
   |cons x r=>
    rw[hl]at c e;have hr:r=[]:=yb.1 (by have:((r.length+1:Nat):Int)=1:=c;omega);have e:x=1:=e;rw[hr,e]
theorem Ao(N D:Int)(hN:CQ (yo N,yg N)=true)(hD:CQ (yo D,yg D)=true)(h0:0<D)(hq:∀ob,Q (.dat .str (Dc N D)) ob):Ends lC (L1 (yo D) (yg D) (yo N) (yg N)) Q:=by
 obtain⟨n1,n2,n3⟩:=TE hN;obtain⟨d1,d2,d3⟩:=TE hD;obtain⟨g0,f1,f2,f3⟩:=Hx (N:=N) h0;have eD:Ae D=D:=by rw[Ah,yv (yp h0)]
 have ec:Cr (yg N) (yg D)=BV (Sp.gI (Ae N) D):=by
  unfold Cr;rw[J6,J6,eD]
 have gd:Sp.gI (Ae N) D<=D:=by
  have eg:Sp.gI (Ae N) D=(yt N D:Int):=by rw[FA,Ah];rfl
  rw[eg];exact Int.le_of_dvd h0 (Int.gcd_dvd_right ..)
 have fn:=eJ h0 (neg:=yo N) rfl;have nn:(zp N D).num.natAbs<=N.natAbs:=(GY (n:=N) (d:=D) (by omega)).1;have dd:(zp N D).den<=D.natAbs:=(GY (n:=N) (d:=D) (by omega)).2;have BL:=Jb (m:=(zp N D).num) hN nn;have okD:=Jb (m:=((zp N D).den:Int)) hD (by rw[Int.natAbs_natCast];exact dd);have lg:Ae (zp N D).num<(yw:Int)^3000:=(TE BL).2.2;have ft:=QE (N:=N) (D:=D);have dp:=(zp N D).den_pos;have a0:=NO (zp N D).num;rw[eD]at d3;refine zn (Au ..) ?_;conv=>zeta
 rw[ec,J6,J6,eD];generalize Sp.gI (Ae N) D=g at*;have fg:=Hc (n:=g) (k:=3000) (by omega) (by omega) (by decide);rw[fg.2.2.1,fn,f1,f2,Vq];have ll:=K0 a0 lg;refine zc (Aa (Aa (Aa n1 d1) (w4 (by omega))) (w4 (by omega))) (zc (Aa (Aa (Aa (Aa n1 fg.1) (w4 (by omega))) (w4 (by omega))) (w4 g0)) (zc (Aa (Aa (Aa (Aa d1 fg.1) (w4 (by omega))) (w4 (by omega))) (w4 g0)) (zc (w4 (by omega)) (zc BL (A4 _ _ BL okD (by omega) (fun h ob=>?_) (fun h ob=>?_))))))
 ·have:=hq ob;rw[ft,wd (by omega)]at this;exact this
 ·have:=hq ob;rw[ft,wc (by omega)]at this;exact this
theorem ok:Ag Bi 83 MD:=by
 refine Cc oS (fun(i:(Bool×List Int)×(Bool×List Int)) hi=>?_);obtain⟨a,b⟩:=i;have hi:(CQ a&&CQ b&&decide (qx b≠0))=true:=hi;rw[zf,zf,w5]at hi;obtain⟨⟨ha,hb⟩,h0⟩:=hi;have ea:=tE ha;have eb:=tE hb;have hq:∀ob,Ad MD (a,b) (.dat .str (Dc (qx a) (qx b))) ob:=fun ob=>z6 rfl rfl rfl
 have ha2:=ha;have hb2:=hb;rw[ea]at ha2;rw[eb]at hb2;refine zq (An a b) (zl (fun c=>zc ha (zc hb ?_)) (fun c=>?_))
 ·have hneg:qx b<0:=by
   have:=PL hb;rw[c]at this;exact w6 this.symm
  have:=Ao (Q:=Ad MD (a,b)) (-qx a) (-qx b) (Jb ha2 (by rw[Int.natAbs_neg];exact z7 _)) (Jb hb2 (by rw[Int.natAbs_neg];exact z7 _)) (by omega) (fun ob=>by rw[UD];exact hq ob);exact this
 ·have hpos:0<qx b:=by
   have:=PL hb;rw[c]at this;have:=w7 this.symm;omega
  have:=Ao (Q:=Ad MD (a,b)) (qx a) (qx b) ha2 hb2 hpos hq;rw[<-PL ha, <-uZ ha, <-PL hb, <-uZ hb]at this;exact this
end T83
theorem qL:Ey bD:=Ab T152.ok (Ab T83.ok (Ab T153.ok (Ab T154.ok AU)))
namespace T81
variable {Q:PV->Ob->Prop}
theorem UX{n:Int}(h1: -9000000000000000000<=n)(h2:n<=9000000000000000000):imax n (zi .i64 (0-n))=Ae n:=by
 rw[wr _ (by omega) (by omega)];unfold imax Ae;split<;>split<;>omega
theorem BX(n d:Int)(v:List UInt8)(hv:v=A1 n)(hl:v.length<=27001)(d0:0<d)(d1:d<9000000000000000000)(hq1:d=1->∀ob,Q (.dat .str (A1 n)) ob)(hq:d≠1->∀ob,Q (.dat .str (A1 n++47::A1 d)) ob):Ends bD (L4 d v) Q:=by
 have h9:=Oz d 1;have e:H5 d 1=A1 d:=by
  rw[OA (by omega) (by omega)];unfold A1 Lib.itoa;rw[wc (by omega)]
 refine zn (CT ..) (zl (fun c=>zc (w4 (by omega)) (zc (Aa (Aa (Aa (w4 (by omega)) (w4 (by omega))) rfl) rfl) (zc (w4 (by rw[zr,yq];omega)) (ze ?_)))) (fun c=>ze ?_))
 ·have c:=w6 c;rw[hv,e,List.append_assoc];exact hq (by omega) _
 ·have c:=w7 c;rw[hv];exact hq1 (by omega) _
theorem Dd(n d:Int)(n1: -9000000000000000000<n)(n2:n<9000000000000000000)(d0:0<d)(d1:d<9000000000000000000)(hq1:d=1->∀ob,Q (.dat .str (A1 n)) ob)(hq:d≠1->∀ob,Q (.dat .str (A1 n++47::A1 d)) ob):Ends bD (L3 n d) Q:=by
 have h9:=Oz (Ae n) 1;have ha:=Ah n;have e:H5 (Ae n) 1=zy n.natAbs:=by
  rw[OA (by omega) (by omega)];congr 1;omega
 have ei:=Zk n;refine zn (C5 ..) ?_;conv=>zeta
 rw[UX (by omega) (by omega)];have hr:(decide (0<=Ae n)&&decide (Ae n<9223372036854775808)&&decide ((0:Int)<=1)&&decide ((1:Int)<=20))=true:=Aa (Aa (Aa (w4 (by omega)) (w4 (by omega))) rfl) rfl;refine zl (fun c=>zc hr (zc (w4 (by omega)) (BX n d _ ?_ ?_ d0 d1 hq1 hq))) (fun c=>zc hr (zc (w4 (by omega)) (BX n d _ ?_ ?_ d0 d1 hq1 hq)))
 ·have c:=w6 c;rw[wd c]at ei;rw[e];exact ei.symm
 ·rw[zr,yq];omega
 ·have c:=w7 c;rw[wc c]at ei;rw[e];exact ei.symm
 ·rw[List.nil_append];omega
theorem A4(n d:Int)(n1: -9000000000000000000<n)(n2:n<9000000000000000000)(d0:0<d)(d1:d<9000000000000000000)(hq:∀ob,Q (.dat .str (Dc n d)) ob):Ends bD (L2 n d) Q:=by
 obtain⟨g0,_⟩:=Hx (N:=n) d0;obtain⟨q1,q2⟩:=W3 (N:=n) d0;obtain⟨l1,l2⟩:=GY (n:=n) (d:=d) (by omega);have ha:=Ah n;have dp:=(zp n d).den_pos;have ft:=QE (N:=n) (D:=d);refine zn (AV ..) ?_;conv=>zeta
 rw[UX (by omega) (by omega),q1,q2,wr _ (by omega) (by omega),wr _ (by omega) (by omega)];have hg:decide (Sp.gI (Ae n) d≠0)=true:=w4 (by omega);refine zc (Aa (Aa (Aa (w4 (by omega)) (w4 (by omega))) (w4 (by omega))) (w4 (by omega))) (zc hg (zc hg (Dd _ _ (by omega) (by omega) (by omega) (by omega) (fun h ob=>?_) (fun h ob=>?_))))
 ·have:=hq ob;rw[ft,wd (by omega)]at this;exact this
 ·have:=hq ob;rw[ft,wc (by omega)]at this;exact this
theorem ok:Ag Bi 81 fM:=by
 refine Cc qL (fun(i:Int×Int) hi=>?_);obtain⟨n,d⟩:=i;have hi:(CM n&&CM d&&decide (d≠0))=true:=hi;rw[zf,zf,w5]at hi;obtain⟨⟨hn,hd⟩,h0⟩:=hi;have hq:∀ob,Ad fM (n,d) (.dat .str (Dc n d)) ob:=fun ob=>z6 rfl rfl rfl
 have slow:(CQ (yo n,yg n)&&CQ (yo d,yg d)&&decide (qx (yo d,yg d)≠0))=true:=Aa (Aa (Xv hn) (Xv hd)) (by rw[EY];exact w4 h0);refine zq (An n d) ?_;conv=>zeta
 rw[Pg];refine zl (fun _=>zc hn (zc hd (zc slow (ze (hq _))))) (fun c1=>zl (fun _=>zc hn (zc hd (zc slow (ze (hq _))))) (fun c2=>zl (fun _=>zc hn (zc hd (zc slow (ze (hq _))))) (fun c3=>zl (fun _=>zc hn (zc hd (zc slow (ze (hq _))))) (fun c4=>?_))));have c1:=w7 c1;have c2:=w7 c2;have c3:=w7 c3;have c4:=w7 c4;refine zn (Au ..) (zl (fun c=>?_) (fun c=>?_))
 ·have c:=w6 c;rw[wr (0-n) (by omega) (by omega),wr (0-d) (by omega) (by omega),qv,qv];exact A4 (-n) (-d) (by omega) (by omega) (by omega) (by omega) (fun ob=>by rw[UD];exact hq ob)
 ·have c:=w7 c;exact A4 n d (by omega) (by omega) (by omega) (by omega) hq
end T81
namespace T80
theorem no3{Q:PV->Ob->Prop}(s:List UInt8)(neg:Bool)(hl:s.length<=20)(h:9<(Ay s).length\/9<(ye s).length)(hq:∀ob,Q (.tup [.dat i64 0,.dat i64 0,.bl false]) ob):Ends NI (L3 s neg) Q/\Ends NI (L4 s) Q:=by
 obtain⟨c1,c2,c3⟩:=BQ s;have es:AY s=((Ay s).length:Int):=rfl;have hle:=(qu s).1;have hB:9<(ye s).length->(s.length:Int)-(Ay s).length>10:=fun h=>by
  cases hc:Bs s with
  |true=>
   have k2:=wi List.length (c2 hc).2;rw[zx]at k2;omega
  |false=>rw[(c3 hc).2]at h;cases h
 refine⟨zn (C5 ..) (zc (w4 (by omega)) (zl (fun _=>ze (hq _)) (fun c=>?_))),zn (CT ..) (zc (w4 (by omega)) (zl (fun _=>ze (hq _)) (fun c=>?_)))⟩
 ·have c:=w7 c;rw[es]at c;have hb:=hB (by omega);refine zc ?_ (ze (hq _));rw[es,wr _ (by omega) (by omega)];exact w4 hb
 ·have c:=w7 c;rw[es]at c;have hb:=hB (by omega);refine zc ?_ (ze (hq _));rw[es,wr _ (by omega) (by omega)];exact w4 hb
theorem okG:Ag Bi 80 No:=by
 refine Cc oJ (fun(a:List UInt8) ha=>?_);obtain⟨_,_,da,db⟩:=PI ha;by_cases hqk:DU a=true
 ·have hq:∀n ob,n=ID a->Ad No a (.tup [.dat i64 n,.dat i64 (if Bs (AZ a)=true then AB 0 (ye (AZ a))else 1),.bl true]) ob:=fun n ob h=>z6 rfl rfl (by
   show(n,_,true)=(iU a,Tq a,DU a);unfold iU Tq;rw[wd hqk,wd hqk,hqk,h];rfl)
  unfold DU at hqk;rw[zf,zf,w5,w5,w5]at hqk;obtain⟨⟨hl,la⟩,lb⟩:=hqk;clear ha;refine zq (An a) (zo (by simp;omega) ?_);cases a with
  |nil=>exact zo rfl (zn (AV ..) (BX [] hl la lb da db (fun n ob h=>hq n ob (by rw[h];rfl))))
  |cons c r=>
   have g0:(c::r).getD 0 0=c:=rfl;rw[g0];refine zc (by simp) (zc (by simp) (zn (Au ..) (zl (fun d=>zc (by simp) ?_) (fun d=>?_))))
   ·have hc:c=45:=by
     have:(c.toNat:Int)=45:=by simpa using d
     exact yy.1 (by show _=45;omega)
    have ep:AZ (c::r)=r:=by unfold AZ;rw[g0,wd hc];rfl
    have eb:Sp.preB (c::r)=true:=by unfold Sp.preB;rw[g0];exact w4 hc
    have et:qh (qj (c::r).length 1) (qp 1 (c::r))=r:=zu (z7 _);unfold ID at hq;rw[ep]at la lb da db hq;rw[eb]at hq;rw[et,d];exact Dd r true (by rw[zw]at hl;omega) la lb da db (fun n ob h=>hq _ ob (by rw[h];try rfl))
   ·have hc:c≠45:=by rintro rfl;exact wh d (by decide)
    have ep:AZ (c::r)=c::r:=by unfold AZ;rw[g0,wc hc]
    have eb:Sp.preB (c::r)=false:=by unfold Sp.preB;rw[g0];exact w8 hc
    unfold ID at hq;rw[ep]at la lb da db hq;rw[eb]at hq;rw[d];exact Dd (c::r) false hl la lb da db (fun n ob h=>hq _ ob (by rw[h];try rfl))
 ·have hf:DU a=false:=by simpa using hqk
  have hq:∀ob,Ad No a (.tup [.dat i64 0,.dat i64 0,.bl false]) ob:=fun ob=>z6 rfl rfl (by
   show((0:Int),(0:Int),false)=(iU a,Tq a,DU a);unfold iU Tq;rw[wc hqk,wc hqk,hf])
  refine zq (An a) (zl (fun _=>ze (hq _)) (fun hl=>?_));have hl:a.length<=20:=by have:=w7 hl;omega
  have h9:9<(Ay (AZ a)).length\/9<(ye (AZ a)).length:=by
   by_cases h1:(Ay (AZ a)).length<=9
   ·by_cases h2:(ye (AZ a)).length<=9
    ·exact wh (by unfold DU;rw[w4 hl,w4 h1,w4 h2];rfl) hqk
    ·exact .inr (by omega)
   ·exact .inl (by omega)
  cases a with
  |nil=>exact zo rfl (zn (AV ..) (no3 [] false hl h9 hq).2)
  |cons c r=>
   have g0:(c::r).getD 0 0=c:=rfl;rw[g0];refine zc (by simp) (zc (by simp) (zn (Au ..) (zl (fun d=>zc (by simp) ?_) (fun d=>?_))))
   ·have hc:c=45:=by
     have:(c.toNat:Int)=45:=by simpa using d
     exact yy.1 (by show _=45;omega)
    have ep:AZ (c::r)=r:=by unfold AZ;rw[g0,wd hc];rfl
    have et:qh (qj (c::r).length 1) (qp 1 (c::r))=r:=zu (z7 _);rw[ep]at h9;rw[et];exact(no3 r _ (by rw[zw]at hl;omega) h9 hq).1
   ·have hc:c≠45:=by rintro rfl;exact wh d (by decide)
    have ep:AZ (c::r)=c::r:=by unfold AZ;rw[g0,wc hc]
    rw[ep]at h9;exact(no3 (c::r) _ hl h9 hq).1
end T80
theorem RM:Ey uC:=Ab T80.okG (Ab T81.ok (Ab (T82.ok) (Ab T84.ok (Ab T85.ok (Ab T83.ok AU)))))
theorem Ue{x y:Int}(h1: -1000000000<x)(h2:x<1000000000)(h3: -1000000000<y)(h4:y<1000000000): -1000000000000000000<=x*y/\x*y<=1000000000000000000:=by
 have h:(x*y).natAbs<=1000000000*1000000000:=by
  rw[qd];exact Nat.mul_le_mul (by omega) (by omega)
 omega
theorem T19.ok:Ag Bi 19 UW:=by
 refine Cc RM (fun(i:List UInt8×List UInt8) hi=>?_);obtain⟨a,b⟩:=i;have hi:(Bk a&&Bk b)=true:=hi;rw[zf]at hi;obtain⟨ha,hb⟩:=hi;obtain⟨a1,a2,a3,a4,a5,a6,a7,a8,a9⟩:=ES ha;obtain⟨b1,b2,b3,b4,b5,b6,b7,b8,b9⟩:=ES hb;have ad:=(Ar a).den_pos;have bd:=(Ar b).den_pos;have eq:=(ZJ ha hb).2;have hq:∀ob,Ad UW (a,b) (.dat .str (Dc (A8 a*AI b+A8 b*AI a) (AI a*AI b))) ob:=fun ob=>z6 rfl rfl eq.symm
 have slow:Ends uC (T19.L1 a b) (Ad UW (a,b)):=by
  have e1:BE a=yo (A8 a):=rfl;have e2:Bv a=yg (A8 a):=rfl;have e3:Bn a=yo (AI a):=rfl;have e4:Bf a=yg (AI a):=rfl;have e5:BE b=yo (A8 b):=rfl;have e6:Bv b=yg (A8 b):=rfl;have e7:Bn b=yo (AI b):=rfl;have e8:Bf b=yg (AI b):=rfl;rw[e1,e2]at a1;rw[e3,e4]at a3;rw[e5,e6]at b1;rw[e7,e8]at b3;refine zn (T19.Au ..) ?_;conv=>zeta
  simp only[e1,e2,e3,e4,e5,e6,e7,e8,QU,QW,jS,bH,Pg,EY];have m1:=DH a8 b9;have m2:=DH b8 a9;have m3:=DH a9 b9;rw[<-qd]at m1 m2 m3;have m4:=Nat.lt_of_le_of_lt (Int.natAbs_add_le (A8 a*AI b) (A8 b*AI a)) (iE (k:=4000+4000) m1 m2);have k1:=JS m1 (by decide);have k2:=JS m2 (by decide);have k3:=JS m3 (by decide);have k4:=JS m4 (by decide);have k5:AI a*AI b≠0:=yz (by omega) (by omega);exact zc a7 (zc b7 (zc (Aa a1 b3) (zc (Aa b1 a3) (zc (Aa k1 k2) (zc (Aa a3 b3) (zc (Aa (Aa k4 k3) (w4 k5)) (ze (hq _))))))))
 refine zq (T19.An a b) (zc ha (zc hb (zl (fun qa=>zl (fun qb=>?_) (fun _=>slow)) (fun _=>slow))));obtain⟨x1,x2,x3,x4,x5,x6⟩:=Gs ha qa;obtain⟨y1,y2,y3,y4,y5,y6⟩:=Gs hb qb;have p1:=Ue x3 x4 (by omega) y6;have p2:=Ue y3 y4 (by omega) x6;have p3:=Ue (by omega) x6 (by omega) y6;have p4:AI a*AI b≠0:=yz (by omega) (by omega);rw[x1,x2,y1,y2,wr (A8 a*AI b) (by omega) (by omega),wr (A8 b*AI a) (by omega) (by omega),wr (A8 a*AI b+A8 b*AI a) (by omega) (by omega),wr (AI a*AI b) (by omega) (by omega)];exact zc (Aa (Aa (DM (by omega) (by omega)) (DM (by omega) (by omega))) (w4 p4)) (ze (hq _))
theorem T20.ok:Ag Bi 20 Ul:=by
 refine Cc RM (fun(i:List UInt8×List UInt8) hi=>?_);obtain⟨a,b⟩:=i;have hi:(Bk a&&Bk b)=true:=hi;rw[zf]at hi;obtain⟨ha,hb⟩:=hi;obtain⟨a1,a2,a3,a4,a5,a6,a7,a8,a9⟩:=ES ha;obtain⟨b1,b2,b3,b4,b5,b6,b7,b8,b9⟩:=ES hb;have ad:=(Ar a).den_pos;have bd:=(Ar b).den_pos;have hq:∀ob,Ad Ul (a,b) (.dat .str (Dc (A8 a*A8 b) (AI a*AI b))) ob:=fun ob=>z6 rfl rfl (YX).symm
 have slow:Ends uC (T20.L1 a b) (Ad Ul (a,b)):=by
  have e1:BE a=yo (A8 a):=rfl;have e2:Bv a=yg (A8 a):=rfl;have e3:Bn a=yo (AI a):=rfl;have e4:Bf a=yg (AI a):=rfl;have e5:BE b=yo (A8 b):=rfl;have e6:Bv b=yg (A8 b):=rfl;have e7:Bn b=yo (AI b):=rfl;have e8:Bf b=yg (AI b):=rfl;rw[e1,e2]at a1;rw[e3,e4]at a3;rw[e5,e6]at b1;rw[e7,e8]at b3;refine zn (T20.Au ..) ?_;conv=>zeta
  simp only[e1,e2,e3,e4,e5,e6,e7,e8,QU,QW,Pg,EY];have m1:=DH a8 b8;have m3:=DH a9 b9;rw[<-qd]at m1 m3;have k1:=JS m1 (by decide);have k3:=JS m3 (by decide);have k5:AI a*AI b≠0:=yz (by omega) (by omega);exact zc a7 (zc b7 (zc (Aa a1 b1) (zc (Aa a3 b3) (zc (Aa (Aa k1 k3) (w4 k5)) (ze (hq _))))))
 refine zq (T20.An a b) (zc ha (zc hb (zl (fun qa=>zl (fun qb=>?_) (fun _=>slow)) (fun _=>slow))));obtain⟨x1,x2,x3,x4,x5,x6⟩:=Gs ha qa;obtain⟨y1,y2,y3,y4,y5,y6⟩:=Gs hb qb;have p1:=Ue x3 x4 y3 y4;have p3:=Ue (by omega) x6 (by omega) y6;have p4:AI a*AI b≠0:=yz (by omega) (by omega);rw[x1,x2,y1,y2,wr _ (by omega) (by omega),wr (AI a*AI b) (by omega) (by omega)];exact zc (Aa (Aa (DM (by omega) (by omega)) (DM (by omega) (by omega))) (w4 p4)) (ze (hq _))
theorem T148.ok:Ag Bi 148 tT:=by
 refine Cc RM (fun(a:List UInt8) hi=>?_);obtain⟨hs,h0⟩:=xB hi;obtain⟨a1,a2,a3,a4,a5,a6,a7,a8,a9⟩:=ES (NS hs).1;refine zq (T148.An a) (zc a7 (zc (Aa (Aa a3 a1) ?_) (ze (z6 rfl rfl ?_))))
 ·rw[a2];exact w4 fun e=>h0 (Rat.num_eq_zero.mp (by rw[a5,e]))
 ·show HY _ _=rK a;unfold HY;rw[a2,a4];exact Y2.symm
theorem qS:Ey XR7:=Ab T148.ok (Ab T20.ok (Ab T19.ok (Ab T86.ok AU)))
theorem iI{s:List UInt8}(h:E9 s=true):Bk (Lm s)=true/\Ar (Lm s)= -Ar s:=by
 obtain⟨h1,h2⟩:=NS h;obtain⟨t,_⟩:=Ho h1;have e:Lm s=AW (-Ar s):=by
  have:=dM (Ar s);rwa [t]at this
 have r:Ar (Lm s)= -Ar s:=by rw[e,Du]
 refine⟨?_,r⟩;have hl:(Lm s).length<=4000:=by
  unfold Lm;split
  ·omega
  ·split
   ·rw[zx];omega
   ·rw[zw];omega
 unfold Bk;rw[r, <-e,w4 rfl,w4 hl];rfl
theorem T21.ok:Ag Bi 21 iB:=by
 refine Cc qS (fun(i:List UInt8×List UInt8) hi=>?_);obtain⟨a,b⟩:=i;have hi:(Bk a&&E9 b)=true:=hi;rw[zf]at hi;obtain⟨ha,hb⟩:=hi;obtain⟨n1,n2⟩:=iI hb;have hl:=(NS hb).2;refine zq (T21.An a b) (zc (w4 (by omega)) (zc (Aa ha n1) (ze (z6 rfl rfl ?_))));show Df a (Lm b)=Kz a b;unfold Df Kz;rw[n2,Rat.sub_eq_add_neg]
theorem nJ:Ey XR8:=Ab T21.ok (Ab T79.ok (Ab T127.ok (Ab T52.ok (Ab T53.ok (Ab T54.ok AU)))))
theorem T18.ok:Ag Bi 18 sX:=by
 refine Cc nJ (fun(i:List UInt8×List UInt8) hi=>?_);obtain⟨a,b⟩:=i;have hi:(Bk a&&E9 b)=true:=hi;have hi2:=hi;rw[zf]at hi2;obtain⟨ha,hb⟩:=hi2;have z:=(Sc ha).sub (Sc (NS hb).1);refine zq (T18.An a b) (zc hi (zc (w4 (Ve z (by decide))) (ze (z6 rfl rfl ?_))));show Hf (Kz a b)=Xd a b;unfold Kz;rw[QQ,hJ];rfl
end Go.Pe
namespace Go.Sp
theorem U4(q:Rat):H7 (AW q)=max (zy q.num.natAbs).length (zy q.den).length:=by
 unfold H7;rw[(FG q).1,(Dm q.num).2.1,T7]
theorem FU{s:List UInt8}(h:Az s=0):Nu (H7 s) s (Ar s):=by
 obtain⟨n,_⟩:=J7 h;have e:=(Ho n).1;have hz:=U4 (Ar s);rw[e]at hz;exact⟨e.symm,BP _ (by rw[hz];exact Nat.le_max_left ..),BP _ (by rw[hz];exact Nat.le_max_right ..)⟩
theorem U1(x:Int)(l:List Int):first (x::l)=if x≠0 then x else first l:=by
 by_cases h:x=0
 ·subst h;rw[wc (by simp),first];rfl
 ·rw[wd h,first];simp[h]
theorem iK(b:Bool)(e:Int):LJ b e=if b=true then e else 0:=by cases b<;>rfl
theorem LG(p:BI)(l:List BI):lF (p::l)=if Lo p.1 p.2≠0 then Lo p.1 p.2 else lF l:=by rw[lF]
theorem U3:∀ {l:List BI},lF l=0->∀p∈l,Az p.1=0/\Az p.2=0
 |[],_,p,hp=>by cases hp
 |x::l,h,p,hp=>by
  rw[LG]at h;split at h
  ·next k=>exact wh h k
  ·next k=>
   rcases List.mem_cons.1 hp with rfl|hp
   ·exact Rr (Classical.not_not.1 k)
   ·exact U3 h p hp
theorem CL{l:List BI}(h:CY l=0):l≠[]/\l.length<=256/\∀p∈l,Az p.1=0/\Az p.2=0:=by
 unfold CY at h;split at h
 ·exact wh h (by decide)
 ·next k=>
  split at h
  ·exact wh h (by decide)
  ·exact⟨k,by omega,U3 h⟩
theorem Fs{l:List BI}(h:J3 l=true):l.length<=10/\∀p∈l,H7 p.1<=10/\H7 p.2<=10:=by
 unfold J3 at h;rw[zf,w5,yr]at h;refine⟨h.1,fun p hp=>?_⟩;have:=h.2 p hp;rwa [zf,w5,w5]at this
theorem Py{l:List BI}{k:Nat}(h:Hw k l=true):∀p∈l,p.1.length<=k/\p.2.length<=k:=by
 intro p hp;unfold Hw at h;rw[yr]at h;have:=h p hp;rwa [zf,w5,w5]at this
theorem lI{l:List BI}(h:IM l=true):l.length<=1000000/\(∀p∈l,p.1.length<=1000000/\p.2.length<=1000000)/\(CY l=0->J3 l=true):=by
 unfold IM at h;rw[zf,zf,Bool.or_eq_true,w5,w5]at h;exact⟨h.1.1,Py h.1.2,fun k=>h.2.resolve_left fun x=>x k⟩
theorem S6{l:List BI}{k n:Nat}(h:CY l=0)(hn:l.length<=n)(hk:∀p∈l,H7 p.1<=k/\H7 p.2<=k):RF k n (AH l):=by
 obtain⟨h1,_,h3⟩:=CL h;refine⟨?_,?_,fun q hq=>?_⟩
 ·unfold AH;rw[List.length_map];exact y7.2 h1
 ·unfold AH;rw[List.length_map];exact hn
 ·unfold AH at hq;obtain⟨p,hp,rfl⟩:=List.mem_map.1 hq;exact⟨(FU (h3 p hp).1).z.mono (hk p hp).1,(FU (h3 p hp).2).z.mono (hk p hp).2⟩
theorem Ra:((10:Nat):Int)*((10:Int)^10)^10<=(10:Int)^101:=by decide+kernel
theorem Xz:((10:Nat):Int)*(2*(10:Int)^10*(2*(10:Int)^10))<=(10:Int)^22:=by decide+kernel
theorem LA:((8:Nat):Int)*((10:Int)^3)^8<=(10:Int)^25:=by decide+kernel
theorem XW:((8:Nat):Int)*(2*(10:Int)^3*(2*(10:Int)^3))<=(10:Int)^8:=by decide+kernel
theorem X1(l:List BI):(AH l).map Prod.fst=l.map fun p=>Ar p.1:=by
 unfold AH;rw[List.map_map];rfl
theorem XL(l:List BI):(AH l).map Prod.snd=l.map fun p=>Ar p.2:=by
 unfold AH;rw[List.map_map];rfl
theorem D9{α:Type}{l r:List α}{x:α}{i:Nat}(h:l.drop i=x::r):l.take (i+1)=l.take i++[x]:=by
 have hlt:i<l.length:=by
  rcases Nat.lt_or_ge i l.length with h1|h1
  ·exact h1
  ·rw[zz h1]at h;cases h
 have h2:=List.drop_eq_getElem_cons hlt;rw[h]at h2;simp only[List.cons.injEq]at h2;rw[List.take_add_one,List.getElem?_eq_getElem hlt,h2.1];rfl
theorem qG(a b:Rat)(l:List (Rat×Rat))(p:Rat×Rat):J5 a b (l++[p])=J5 a b l+(p.2-(a*p.1+b))*(p.2-(a*p.1+b)):=by
 rw[jJ];show _+(_+0)=_;rw[Rat.add_zero]
end Go.Sp
namespace Go.Pe
open Go.Det
theorem QO(a b:List UInt8):yi [Sp.Az a,Sp.Az b]=Sp.Lo a b:=by
 rw[QZ,Sp.Kp]
theorem PN{a:List UInt8}(ha:Sp.Az a=0):Sp.EZ (frS a)=true/\Sp.Da a=true:=by
 obtain⟨n,z⟩:=Sp.J7 ha;exact⟨(TP n).EZ (VR z (by decide)),(Sp.ES n).2.2.2.2.2.2.1⟩
end Go.Pe
namespace Go.Sp
theorem wU{s:List UInt8}(h:Bk s=true){k:Nat}(hl:s.length<=k)(hk:1<=k):Nu k s (Ar s):=by
 obtain⟨h1,_⟩:=Ho h;have e:(AW (Ar s)).length<=k:=by rw[h1];exact hl
 refine⟨h1.symm,?_⟩;generalize Ar s=q at*;have h3:(zy q.num.natAbs).length<=(Lib.itoa q.num).length:=by
  unfold Lib.itoa;split
  ·rw[zw];omega
  ·rw[show q.num.toNat=q.num.natAbs by omega];exact z7 _
 unfold AW at e;split at e
 ·next c=>exact⟨BP (k:=k) _ (by omega),by rw[c];exact Ki k (by omega)⟩
 ·rw[zr,zw]at e;exact⟨BP (k:=k) _ (by omega),BP (k:=k) _ (by omega)⟩
end Go.Sp
namespace Go.Pe
open Sp
open Go.Det
structure RS(k:Nat)(f:Al)(q:Rat):Prop where
 r:Fv f q
 z:C0 k q
theorem RS.mono{i j:Nat}{f:Al}{q:Rat}(h:RS i f q)(k:i<=j):RS j f q:=⟨h.r,h.z.mono k⟩
theorem RS.s{k:Nat}{f:Al}{q:Rat}(h:RS k f q)(hk:k<=4000):Lj 4000 q:=VR h.z hk
theorem RS.BL{k:Nat}{f:Al}{q:Rat}(h:RS k f q)(hk:k<=4000):zt f=true:=h.r.BL (h.s hk)
theorem RS.EZ{k:Nat}{f:Al}{q:Rat}(h:RS k f q)(hk:k<=4000):Sp.EZ f=true:=h.r.EZ (h.s hk)
theorem RS.mP{i j:Nat}{f g:Al}{p q:Rat}(hf:RS i f p)(hg:RS j g q)(hi:i<=4000)(hj:j<=4000):(zt f&&zt g)=true:=Aa (hf.BL hi) (hg.BL hj)
theorem RS.add{i j:Nat}{f g:Al}{p q:Rat}(hf:RS i f p)(hg:RS j g q)(hi:i<=4000)(hj:j<=4000):RS (i+j+1) (Ge f g) (p+q):=⟨Fv.add hf.r hg.r (hf.s hi) (hg.s hj),hf.z.add hg.z⟩
theorem RS.sub{i j:Nat}{f g:Al}{p q:Rat}(hf:RS i f p)(hg:RS j g q)(hi:i<=4000)(hj:j<=4000):RS (i+j+1) (Gc f g) (p-q):=⟨Fv.sub hf.r hg.r (hf.s hi) (hg.s hj),hf.z.sub hg.z⟩
theorem RS.mul{i j:Nat}{f g:Al}{p q:Rat}(hf:RS i f p)(hg:RS j g q)(hi:i<=4000)(hj:j<=4000):RS (i+j) (Ha f g) (p*q):=⟨Fv.mul hf.r hg.r (hf.s hi) (hg.s hj),hf.z.mul hg.z⟩
theorem RS.div{i j:Nat}{f g:Al}{p q:Rat}(hf:RS i f p)(hg:RS j g q)(hi:i<=4000)(hj:j<=4000)(h0:q≠0):RS (i+j) (HJ f g) (p/q):=⟨Fv.div hf.r hg.r (hf.s hi) (hg.s hj) (VR (hg.z.inv h0) hj) h0,hf.z.div hg.z h0⟩
theorem RS.ok3{i j:Nat}{f g:Al}{p q:Rat}(hf:RS i f p)(hg:RS j g q)(hi:i<=4000)(hj:j<=4000)(h0:q≠0):(zt f&&zt g&&decide (Sp.vI g.1≠0))=true:=Aa (hf.mP hg hi hj) (hg.r.HH.trans (w4 h0))
theorem RS.Ou{k:Nat}{f:Al}{q:Rat}(h:RS k f q):(Qm f<0↔q<0)/\(Qm f=0↔q=0):=by
 have e:Qm f=Sp.Ou q.num:=by unfold Qm;rw[h.r.vn]
 have n1:=Sp.neg_num q;rw[e];unfold Sp.Ou;constructor
 ·rw[<-n1.1];split
  ·next c=>exact⟨fun _=>c,fun _=>by decide⟩
  ·next c=>
   split
   ·exact⟨fun x=>wh x (by decide),fun x=>wh x c⟩
   ·exact⟨fun x=>wh x (by decide),fun x=>wh x c⟩
 ·split
  ·next c=>exact⟨fun x=>wh x (by decide),fun x=>wh (n1.1.1 c) (by rw[x];exact Rat.lt_irrefl)⟩
  ·next c=>
   split
   ·next d=>exact⟨fun x=>wh x (by decide),fun x=>wh (n1.2.1 d) (by rw[x];exact Rat.lt_irrefl)⟩
   ·next d=>exact⟨fun _=>Rat.num_eq_zero.1 (by omega),fun _=>rfl⟩
theorem RS.Dp{k:Nat}{f:Al}{q:Rat}(h:RS k f q):Sp.Dp f.1=true:=h.r.n
theorem Iw{s:List UInt8}(h:Az s=0):RS (Sp.H7 s) (Fc s) (Ar s):=⟨TP (J7 h).1,(FU h).z⟩
theorem VL{n:Int}{k:Nat}(h:n.natAbs<10^k)(hk:1<=k)(h18:k<=18):RS k ((n,Ca n),(1,Ca 1)) (n:Rat):=by
 have hp:10^k<=10^18:=yx (by decide) h18;have h1:10^1<=10^k:=yx (by decide) hk;have hr:CM n=true:=by
  unfold CM;exact Aa (w4 (by omega)) (w4 (by omega))
 refine⟨yW n hr,?_,?_⟩
 ·rw[Rat.num_intCast];exact h
 ·rw[Rat.den_intCast];omega
theorem Js:RS 1 ((0,Ca 0),(1,Ca 1)) 0:=VL (n:=0) (by decide) (by decide) (by decide)
theorem Yt{k:Nat}{f:Al}{q:Rat}(h:RS k f q){e:Int}(he:e=0):(JB f,Hd f)=(jT e q,iR e q):=xT h.r he
namespace T68
theorem loop{Q:PV->Ob->Prop}(l:List Int)(hl:l.length<=1000000)(hq:∀ob,Q (.dat i64 (yi l)) ob):∀(r:List Int) (i:Nat),l.drop i=r->i<=l.length->yi l=yi r->Ends zB (L1 l ((l.length:Int)) (i:Int)) Q
 |[],i,h,hi,e=>by
  have he:=drop_nil h hi;refine zn (Au ..) (zo (w8 (by omega)) (ze ?_));rw[e]at hq;exact hq _
 |x::r,i,h,hi,e=>by
  obtain⟨h1,h2,h3⟩:=drop_cons (d:=0) h;refine zn (Au ..) ?_;conv=>zeta
  have e1:zi .i64 ((i:Int)+1)=((i+1:Nat):Int):=by rw[wr _ (by omega) (by omega)];omega
  rw[e1,zk,h2];refine zc (w4 (by omega)) (zc (Aa (w4 (by omega)) (w4 (by omega))) ?_);by_cases hx:x=0
  ·subst hx;refine zo rfl (loop l hl hq r (i+1) h3 h1 ?_);rw[e];rfl
  ·have ex:yi (x::r)=x:=by unfold yi;rw[wd hx]
   refine zc (by simpa using hx) (ze ?_);rw[e,ex]at hq;exact hq _
theorem ok:Ag Bi 68 J0:=by
 refine Cc jW (fun(l:List Int) hl=>?_);exact zq (An l) (loop l (w6 hl) (fun ob=>z6 rfl rfl rfl) l 0 rfl (qf _) rfl)
end T68
theorem T87.ok:Ag Bi 87 QX:=by
 refine Cc jW (fun⟨c,e⟩ _=>?_);refine zq (T87.An c e) (zl (fun h=>ze (z6 rfl rfl ?_)) (fun h=>ze (z6 rfl rfl ?_)))
 ·show e=LJ c e;rw[h];rfl
 ·show(0:Int)=LJ c e;rw[h];rfl
theorem bI:Ey Aaf:=Ab T68.ok (Ab T87.ok AU)
theorem count_eq(n m:Int):yi [LJ (n==0) 12,LJ (decide (n>m)) 5]=Et n m:=by
 rw[QZ,iK,iK];unfold Et;by_cases h:n=0
 ·subst h;rfl
 ·have e:(n==0)=false:=by simpa using h
  rw[e,wc (show ¬(if false=true then(12:Int)else 0)≠0 by decide),wc h];by_cases k:m<n
  ·rw[wd k,w4 (show n>m from k)];rfl
  ·rw[wc k,w8 (show ¬n>m from k)];rfl
theorem T97.ok:Ag Bi 97 cW:=by
 refine Cc bI (fun(i:Int×Int) _=>?_);obtain⟨n,m⟩:=i;refine zq (T97.An n m) ?_;conv=>zeta
 rw[count_eq];exact zc rfl (zc rfl (zc rfl (ze (z6 rfl rfl rfl))))
theorem Uo:Ey VP:=Ab T69.ok (Ab T68.ok (Ab T87.ok (Ab T97.ok AU)))
end Go.Pe
namespace Go.Sp
theorem OG{α:Type}(l:List α):Et (l.length:Int) 256=if l=[]then 12 else if 256<l.length then 5 else 0:=by
 unfold Et;cases l with
 |nil=>rfl
 |cons x l=>
  rw[wc (by rw[zw];omega),wc (List.cons_ne_nil x l)];by_cases h:256<(x::l).length
  ·rw[wd h,wd (by omega)]
  ·rw[wc h,wc (by omega)]
theorem WZ(l:List BI):CY l=if Et (l.length:Int) 256≠0 then Et (l.length:Int) 256 else lF l:=by
 rw[OG];unfold CY;by_cases h:l=[]
 ·rw[wd h,wd h,wd (by decide)]
 ·rw[wc h,wc h];by_cases k:256<l.length
  ·rw[wd k,wd k,wd (by decide)]
  ·rw[wc k,wc k,wc (by decide)]
theorem UC(l:List (List UInt8)):FJ l=if Et (l.length:Int) 256≠0 then Et (l.length:Int) 256 else Cn l:=by
 rw[OG];unfold FJ;by_cases h:l=[]
 ·rw[wd h,wd h,wd (by decide)]
 ·rw[wc h,wc h];by_cases k:256<l.length
  ·rw[wd k,wd k,wd (by decide)]
  ·rw[wc k,wc k,wc (by decide)]
theorem Gf(s:List UInt8)(l:List (List UInt8)):Cn (s::l)=if Az s≠0 then Az s else Cn l:=by rw[Cn]
end Go.Sp
namespace Go.Pe
open Sp
open Go.Det
namespace T55
theorem loop{Q:PV->Ob->Prop}(l:List BI)(hl:l.length<=1000000)(hs:∀p∈l,p.1.length<=1000000/\p.2.length<=1000000):∀(r:List BI) (i:Nat),l.drop i=r->i<=l.length->(∀ob,Q (.dat i64 (lF r)) ob)->Ends VP (L1 l (l.length:Int) (i:Int)) Q
 |[],i,h,hi,hq=>by
  have:=drop_nil h hi;exact zn (Au ..) (zo (w8 (by omega)) (ze (hq _)))
 |p::r,i,h,hi,hq=>by
  obtain⟨g1,g2,g3⟩:=drop_cons (d:=(([],[]):BI)) h;obtain⟨s1,s2⟩:=hs p (yh (by rw[h];exact yn ..));have e1:zi .i64 ((i:Int)+1)=((i+1:Nat):Int):=by rw[wr _ (by omega) (by omega)];omega
  rw[LG]at hq;refine zn (Au ..) ?_;conv=>zeta
  rw[zk,g2,e1,QO];refine zc (w4 (by omega)) (zc (Aa (w4 (by omega)) (w4 (by omega))) (zc (w4 s1) (zc (w4 s2) (zc rfl (zl (fun c=>ze ?_) (fun c=>loop l hl hs r (i+1) g3 g1 ?_))))))
  ·have c:Lo p.1 p.2≠0:=by simpa using c
   rw[wd c]at hq;exact hq _
  ·have c:Lo p.1 p.2=0:=by simpa using c
   rw[wc (by rw[c];decide)]at hq;exact hq
theorem ok:Ag Bi 55 vG:=by
 refine Cc Uo (fun(l:List BI) hi=>?_);have hi:(decide (l.length<=1000000)&&Hw 1000000 l)=true:=hi;rw[zf,w5]at hi;have he:=WZ l;have hq:∀e ob,e=CY l->Ad vG l (.dat i64 e) ob:=fun e ob h=>z6 rfl rfl h
 refine zq (An l) (zc rfl (zl (fun c=>ze (hq _ _ ?_)) (fun c=>?_)))
 ·have c:Et (l.length:Int) 256≠0:=by simpa using c
  rw[he,wd c]
 ·have c:Et (l.length:Int) 256=0:=by simpa using c
  rw[wc (by rw[c];decide)]at he;exact loop l hi.1 (Py hi.2) l 0 rfl (qf _) (fun ob=>hq _ _ he.symm)
end T55
namespace T76
theorem loop{Q:PV->Ob->Prop}(l:List (List UInt8))(hl:l.length<=1000000)(hs:∀s∈l,s.length<=1000000):∀(r:List (List UInt8)) (i:Nat) (e:Int),l.drop i=r->i<=l.length->(∀ob,Q (.dat i64 (if e≠0 then e else Cn r)) ob)->Ends VP (L1 l e (i:Int)) Q
 |[],i,e,h,hi,hq=>by
  have:=drop_nil h hi;have he:(if e≠0 then e else Cn [])=e:=by
   split
   ·rfl
   ·next k=>exact(Classical.not_not.1 k).symm
  rw[he]at hq;exact zn (Au ..) (zo (w8 (by omega)) (ze (hq _)))
 |x::r,i,e,h,hi,hq=>by
  obtain⟨g1,g2,g3⟩:=drop_cons (d:=([]:List UInt8)) h;have hx:=hs x (yh (by rw[h];exact yn ..));have e1:zi .i64 ((i:Int)+1)=((i+1:Nat):Int):=by rw[wr _ (by omega) (by omega)];omega
  refine zn (Au ..) ?_;conv=>zeta
  rw[zk,g2,e1];refine zc (w4 (by omega)) (zl (fun c=>zc (Aa (w4 (by omega)) (w4 (by omega))) (zc (w4 hx) (loop l hl hs r (i+1) _ g3 g1 ?_))) (fun c=>ze ?_))
  ·have c:e=0:=by simpa using c
   rw[c,Gf,wc (by decide)]at hq;exact hq
  ·have c:e≠0:=by simpa using c
   rw[wd c]at hq;exact hq _
theorem ok:Ag Bi 76 iX:=by
 refine Cc Uo (fun(l:List (List UInt8)) hi=>?_);have hi:(decide (l.length<=1000000)&&l.all fun s=>decide (s.length<=1000000))=true:=hi;rw[zf,w5,yr]at hi;exact zq (An l) (zc rfl (loop l hi.1 (fun s h=>w6 (hi.2 s h)) l 0 _ rfl (qf _) (fun ob=>z6 rfl rfl (UC l).symm)))
end T76
theorem eL:Ey zH:=Ab T138.ok (Ab T139.ok AU)
theorem T67.ok:Ag Bi 67 XN:=by
 refine Cc eL (fun(a:(Int×List Int)×(Int×List Int)) ha=>?_);refine zq (T67.An a) (zc ha (zl (fun c=>ze (z6 rfl rfl ?_)) (fun c=>zc ha (ze (z6 rfl rfl ?_)))))
 ·have c:It a=true:=c;show([],(4:Int))=(JB a,Hd a);unfold JB Hd;rw[wd c,wd c]
 ·have c:It a=false:=c;show(JD a,(0:Int))=(JB a,Hd a);unfold JB Hd;rw[wc (by rw[c];decide),wc (by rw[c];decide)]
theorem aN:Ey XR:=Ab T51.okU AU
namespace T15
theorem loop{Q:PV->Ob->Prop}(l:List (List UInt8))(hl:l.length<=1000000)(hs:∀s∈l,s.length<=9223372036854775807):∀(r:List (List UInt8)) (i:Nat),l.drop i=r->i<=l.length->(∀ob,Q (.dat i64 (Cn r)) ob)->Ends XR (L1 l (i:Int)) Q
 |[],i,h,hi,hq=>by
  have:=drop_nil h hi;exact zn (Au ..) (zo (w8 (by omega)) (ze (hq _)))
 |x::r,i,h,hi,hq=>by
  obtain⟨g1,g2,g3⟩:=drop_cons (d:=([]:List UInt8)) h;have hx:=hs x (yh (by rw[h];exact yn ..));have e1:zi .i64 ((i:Int)+1)=((i+1:Nat):Int):=by rw[wr _ (by omega) (by omega)];omega
  rw[Gf]at hq;refine zn (Au ..) ?_;conv=>zeta
  rw[zk,g2,e1];refine zc (w4 (by omega)) (zc (Aa (w4 (by omega)) (w4 (by omega))) (zc (w4 hx) (zl (fun c=>ze ?_) (fun c=>loop l hl hs r (i+1) g3 g1 ?_))))
  ·have c:Az x≠0:=by simpa using c
   rw[wd c]at hq;exact hq _
  ·have c:Az x=0:=by simpa using c
   rw[wc (by rw[c];decide)]at hq;exact hq
theorem ok:Ag Bi 15 wF:=by
 refine Cc aN (fun(l:List (List UInt8)) hi=>?_);have hi:(decide (l.length<=1000000)&&l.all fun s=>decide (s.length<=9223372036854775807))=true:=hi;rw[zf,w5,yr]at hi;exact zq (An l) (loop l hi.1 (fun s h=>w6 (hi.2 s h)) l 0 rfl (qf _) (fun ob=>z6 rfl rfl rfl))
end T15
theorem bY:Ey mH:=Ab T15.ok AU
namespace T9
theorem loop{Q:PV->Ob->Prop}(l:List BI)(hl:l.length<=1000000)(hs:∀p∈l,p.1.length<=9223372036854775807/\p.2.length<=9223372036854775807):∀(r:List BI) (i:Nat),l.drop i=r->i<=l.length->(∀ob,Q (.dat i64 (lF r)) ob)->Ends mH (L1 l (i:Int)) Q
 |[],i,h,hi,hq=>by
  have:=drop_nil h hi;exact zn (Au ..) (zo (w8 (by omega)) (ze (hq _)))
 |p::r,i,h,hi,hq=>by
  obtain⟨g1,g2,g3⟩:=drop_cons (d:=(([],[]):BI)) h;obtain⟨s1,s2⟩:=hs p (yh (by rw[h];exact yn ..));have e1:zi .i64 ((i:Int)+1)=((i+1:Nat):Int):=by rw[wr _ (by omega) (by omega)];omega
  have bd:(decide ((0:Int)<=(i:Int))&&decide ((i:Int)<(l.length:Int)))=true:=Aa (w4 (by omega)) (w4 (by omega));rw[LG]at hq;refine zn (Au ..) ?_;conv=>zeta
  rw[zk,g2,e1];have s3:(decide ((2:Nat)<=2)&&true&&(decide ((2:Nat)<=1000000)&&List.all [p.1,p.2] fun s=>decide (List.length s<=9223372036854775807)))=true:=by
   show(decide (p.1.length<=9223372036854775807)&&(decide (p.2.length<=9223372036854775807)&&true))=true;rw[w4 s1,w4 s2];rfl
  refine zc (w4 (by omega)) (zc bd (zc bd (zc s3 (zl (fun c=>ze ?_) (fun c=>loop l hl hs r (i+1) g3 g1 ?_)))))
  ·have c:Lo p.1 p.2≠0:=by
    have c:(Cn [p.1,p.2] !=0)=true:=c;simpa [Lo]using c
   rw[wd c]at hq;exact hq _
  ·have c:Lo p.1 p.2=0:=by
    have c:(Cn [p.1,p.2] !=0)=false:=c;simpa [Lo]using c
   rw[wc (by rw[c];decide)]at hq;exact hq
theorem ok:Ag Bi 9 jM:=by
 refine Cc bY (fun(l:List BI) hi=>?_);have hi:(decide (l.length<=1000000)&&Hw 9223372036854775807 l)=true:=hi;rw[zf,w5]at hi;have hq:∀e ob,e=CY l->Ad jM l (.dat i64 e) ob:=fun e ob h=>z6 rfl rfl h
 refine zq (An l) (zl (fun c=>ze (hq _ _ ?_)) (fun c=>zl (fun d=>ze (hq _ _ ?_)) (fun d=>?_)))
 ·have c:(l.length:Int)=0:=by simpa using c
  have c:l=[]:=List.eq_nil_of_length_eq_zero (by omega);unfold CY;rw[wd c]
 ·have c:l≠[]:=fun x=>by rw[x]at c;cases c
  have d:256<l.length:=by have:=w6 d;omega
  unfold CY;rw[wc c,wd d]
 ·have c:l≠[]:=fun x=>by rw[x]at c;cases c
  have d:¬256<l.length:=by have:=w7 d;omega
  exact loop l hi.1 (Py hi.2) l 0 rfl (qf _) (fun ob=>hq _ _ (by unfold CY;rw[wc c,wc d]))
end T9
section
open List Int Prod
namespace T58
def T(p:List UInt8×List UInt8):Tr:=tree V2 false 9 58 (Af ([zh zm zm]) p)
theorem An(p:List UInt8×List UInt8):T p=let a':=zg (zj zd);.ite (Da (fst p)) (.leaf (PV.agg [.dat i64 (Mv (fst p)),.dat a' (PH (fst p)),.dat i64 (JY (fst p)),.dat a' (L0 (fst p))]) ([(yj 0 1,.box [.dat i64 (Mv (fst p)),.dat a' (PH (fst p)),.dat i64 (JY (fst p)),.dat a' (L0 (fst p))]),(0,.box [.dat zm (fst p),.dat zm (snd p)])])) .fail:=by kernel_rfl
end T58
namespace T61
def T(p:List UInt8×List UInt8):Tr:=tree V2 false 9 61 (Af ([zh zm zm]) p)
theorem An(p:List UInt8×List UInt8):T p=let a':=zg (zj zd);.ite (Da (snd p)) (.leaf (PV.agg [.dat i64 (Mv (snd p)),.dat a' (PH (snd p)),.dat i64 (JY (snd p)),.dat a' (L0 (snd p))]) ([(yj 0 1,.box [.dat i64 (Mv (snd p)),.dat a' (PH (snd p)),.dat i64 (JY (snd p)),.dat a' (L0 (snd p))]),(0,.box [.dat zm (fst p),.dat zm (snd p)])])) .fail:=by kernel_rfl
end T61
namespace T62
def T(p:List UInt8×List UInt8)(x:(Int×List Int)×Int×List Int):Tr:=tree V2 false 9 62 (Af ([zh zm zm,Sh.ptr (zh (zh i64 (zg (zj zd))) (zh i64 (zg (zj zd))))]) (p,x))
theorem An(p:List UInt8×List UInt8)(x:(Int×List Int)×Int×List Int):T p x=let b':=zg (zj zd);let c':=Fc (fst p);let a':=Gc c' x;.ite (Da (fst p)) (.ite (zt c'&&zt x) (.ite (zt a'&&zt a') (.leaf (PV.agg [.dat i64 (K5 a' a'),.dat b' (Lz a' a'),.dat i64 (KK a' a'),.dat b' (Kt a' a')]) ([(yj (yj 0 1) 1,.box [.dat i64 (eP c' x),.dat b' (fT c' x),.dat i64 (gZ c' x),.dat b' (eG c' x)]),(yj 0 1,.box [.dat i64 (K5 a' a'),.dat b' (Lz a' a'),.dat i64 (KK a' a'),.dat b' (Kt a' a')]),(0,.box [.dat zm (fst p),.dat zm (snd p)])])) .fail) .fail) .fail:=by kernel_rfl
end T62
namespace T66
def T(p:List UInt8×List UInt8)(x:(Int×List Int)×Int×List Int)(y:(Int×List Int)×Int×List Int):Tr:=tree V2 false 9 66 (Af ([zh zm zm,Sh.ptr (zh (zh i64 (zg (zj zd))) (zh i64 (zg (zj zd)))),Sh.ptr (zh (zh i64 (zg (zj zd))) (zh i64 (zg (zj zd))))]) (p,x,y))
theorem An(p:List UInt8×List UInt8)(x:(Int×List Int)×Int×List Int)(y:(Int×List Int)×Int×List Int):T p x y=let a':=Gc (Fc (fst p)) x;let b':=Gc (Fc (snd p)) y;let c':=zg (zj zd);.ite (Da (fst p)) (.ite (zt (Fc (fst p))&&zt x) (.ite (Da (snd p)) (.ite (zt (Fc (snd p))&&zt y) (.ite (zt a'&&zt b') (.leaf (PV.agg [.dat i64 (K5 a' b'),.dat c' (Lz a' b'),.dat i64 (KK a' b'),.dat c' (Kt a' b')]) ([(yj 0 1,.box [.dat i64 (K5 a' b'),.dat c' (Lz a' b'),.dat i64 (KK a' b'),.dat c' (Kt a' b')]),(0,.box [.dat zm (fst p),.dat zm (snd p)])])) .fail) .fail) .fail) .fail) .fail:=by kernel_rfl
end T66
namespace T70
def T(p:List UInt8×List UInt8)(a:(Int×List Int)×Int×List Int)(b:(Int×List Int)×Int×List Int):Tr:=tree V2 false 9 70 (Af ([zh zm zm,Sh.ptr (zh (zh i64 (zg (zj zd))) (zh i64 (zg (zj zd)))),Sh.ptr (zh (zh i64 (zg (zj zd))) (zh i64 (zg (zj zd))))]) (p,a,b))
theorem An(p:List UInt8×List UInt8)(a:(Int×List Int)×Int×List Int)(b:(Int×List Int)×Int×List Int):T p a b=let c':=zg (zj zd);let d':=Fc (snd p);let e':=Fc (fst p);let b':=Ge (Ha a e') b;let a':=Gc d' b';.ite (Da (snd p)) (.ite (Da (fst p)) (.ite (zt a&&zt e') (.ite (zt (Ha a e')&&zt b) (.ite (zt d'&&zt b') (.ite (zt a'&&zt a') (.leaf (PV.agg [.dat i64 (K5 a' a'),.dat c' (Lz a' a'),.dat i64 (KK a' a'),.dat c' (Kt a' a')]) ([(yj (yj 0 1) 1,.box [.dat i64 (eP d' b'),.dat c' (fT d' b'),.dat i64 (gZ d' b'),.dat c' (eG d' b')]),(yj 0 1,.box [.dat i64 (K5 a' a'),.dat c' (Lz a' a'),.dat i64 (KK a' a'),.dat c' (Kt a' a')]),(0,.box [.dat zm (fst p),.dat zm (snd p)])])) .fail) .fail) .fail) .fail) .fail) .fail:=by kernel_rfl
end T70
namespace T150
def T(a:(Int×List Int)×Int×List Int):Tr:=tree V2 false 9 150 (Af ([zh (zh i64 (zg (zj zd))) (zh i64 (zg (zj zd)))]) a)
theorem An(a:(Int×List Int)×Int×List Int):T a=let a':=zg (zj zd);.leaf (PV.agg [.dat i64 (fst (fst a)),.dat a' (snd (fst a)),.dat i64 (fst (snd a)),.dat a' (snd (snd a))]) ([(yj 0 1,.box [.dat i64 (fst (fst a)),.dat a' (snd (fst a)),.dat i64 (fst (snd a)),.dat a' (snd (snd a))]),(0,.box [.dat i64 (fst (fst a)),.dat a' (snd (fst a)),.dat i64 (fst (snd a)),.dat a' (snd (snd a))])]):=by kernel_rfl
end T150
namespace T11
def T(l:List (List UInt8×List UInt8)):Tr:=tree CN false 9 11 (Af ([yk (zh zm zm)]) l)
def L1(v0:List (List UInt8×List UInt8))(v6:(Int×List Int)×Int×List Int):Tr:=re ((T []).L.R.L) (AF 68 [(0,.dat (yk (zh zm zm)) v0),(6,PV.CW (zh (zh i64 (zg (zj zd))) (zh i64 (zg (zj zd)))) v6 0)] [] 0)
theorem An(l:List (List UInt8×List UInt8)):T l=.ite (decide (length l<=1000000)&&Hw 1000000 l) (.ite (CY l !=0) (.leaf (.tup [.dat zm [],.dat zm [],.dat i64 (CY l)]) []) (.ite true (L1 l ((((length l:Int),[]),1,[]))) .fail)) .fail:=by kernel_rfl
def L2(v0:List (List UInt8×List UInt8))(v6:(Int×List Int)×Int×List Int)(v9:List (List UInt8×List UInt8))(v10 v11 o1:Int)(o1_1:List Int)(o1_2:Int)(o1_3:List Int)(o0 o0_1:Int):Tr:=re ((stepT CN (L1 v0 v6)).L) (AF 22 [(1,PV.fn (qe 58) [] []),(4,.ptr 0 0),(5,.ptr 1 0),(9,.dat (yk (zh zm zm)) v9),(10,.dat i64 v10),(11,.dat i64 v11)] [(1,.box [.dat i64 o1,.dat (zg (zj zd)) o1_1,.dat i64 o1_2,.dat (zg (zj zd)) o1_3]),(0,.box [.dat i64 o0,.nil,.dat i64 o0_1,.nil])] 2)
theorem Au(v0:List (List UInt8×List UInt8))(v6:(Int×List Int)×Int×List Int):stepT CN (L1 v0 v6)=.ite true (L2 v0 v6 v0 ((length v0:Int)) 0 0 (Ca 0) 1 (Ca 1) 0 0) .fail:=by kernel_rfl
def L3(v0:List (List UInt8×List UInt8))(v6:(Int×List Int)×Int×List Int)(v9:List (List UInt8×List UInt8))(v10 v11 o1:Int)(o1_1:List Int)(o1_2:Int)(o1_3:List Int)(o0 o0_1:Int)(v9':List (List UInt8×List UInt8))(v10':Int)(v11':Int)(o4:Int)(o4_1:List Int)(o4_2:Int)(o4_3:List Int)(o3 o3_1 o2:Int)(o2_1:List Int)(o2_2:Int)(o2_3:List Int)(o1':Int)(o1_1':List Int)(o1_2':Int)(o1_3':List Int)(o0':Int)(o0_1':List Int)(o0_2:Int)(o0_3:List Int):Tr:=re ((stepT CN (L2 v0 v6 v9 v10 v11 o1 o1_1 o1_2 o1_3 o0 o0_1)).R.L.L) (AF 22 [(1,PV.fn (qe 61) [] []),(4,.ptr 3 0),(5,.ptr 4 0),(9,.dat (yk (zh zm zm)) v9'),(10,.dat i64 v10'),(11,.dat i64 v11')] [(4,.box [.dat i64 o4,.dat (zg (zj zd)) o4_1,.dat i64 o4_2,.dat (zg (zj zd)) o4_3]),(3,.box [.dat i64 o3,.nil,.dat i64 o3_1,.nil]),(2,.box [.dat i64 o2,.dat (zg (zj zd)) o2_1,.dat i64 o2_2,.dat (zg (zj zd)) o2_3]),(1,.box [.dat i64 o1',.dat (zg (zj zd)) o1_1',.dat i64 o1_2',.dat (zg (zj zd)) o1_3']),(0,.box [.dat i64 o0',.dat (zg (zj zd)) o0_1',.dat i64 o0_2,.dat (zg (zj zd)) o0_3])] 5)
theorem AV(v0:List (List UInt8×List UInt8))(v6:(Int×List Int)×Int×List Int)(v9:List (List UInt8×List UInt8))(v10 v11 o1:Int)(o1_1:List Int)(o1_2:Int)(o1_3:List Int)(o0 o0_1:Int):stepT CN (L2 v0 v6 v9 v10 v11 o1 o1_1 o1_2 o1_3 o0 o0_1)=let a':=((o1,o1_1),o1_2,o1_3);let c':=fst (getD v9 (toNat v11) ([],[]));let b':=Fc c';.ite (decide (v11<v10)) (.ite (decide (0<=v11)&&decide (v11<(length v9:Int))) (.ite (Da c') (.ite (zt a'&&zt b') (L2 v0 v6 v9 v10 (zi .i64 (v11+1)) (Lp a' b') (KQ a' b') (Kn a' b') (KR a' b') o0 o0_1) .fail) .fail) .fail) (.ite (zt a'&&zt v6&&decide (Sp.vI (fst (fst v6),snd (fst v6))≠0)) (.ite true (L3 v0 v6 v9 v10 v11 o1 o1_1 o1_2 o1_3 o0 o0_1 v0 ((length v0:Int)) 0 0 (Ca 0) 1 (Ca 1) 0 0 (T8 a' v6) (Vl a' v6) (U9 a' v6) (Uc a' v6) o1 o1_1 o1_2 o1_3 o1 o1_1 o1_2 o1_3) .fail) .fail):=by kernel_rfl
def L4(v0:List (List UInt8×List UInt8))(v7:(Int×List Int)×Int×List Int)(o0:Int)(o0_1:List Int)(o0_2:Int)(o0_3:List Int):Tr:=re ((stepT CN (L3 [] ((0,[]),(0,[])) [] 0 0 0 [] 0 [] 0 0 [] 0 0 0 [] 0 [] 0 0 0 [] 0 [] 0 [] 0 [] 0 [] 0 [])).R.L) (AF 68 [(0,.dat (yk (zh zm zm)) v0),(7,PV.CW (zh (zh i64 (zg (zj zd))) (zh i64 (zg (zj zd)))) v7 0),(8,.ptr 0 0)] [(0,.box [.dat i64 o0,.dat (zg (zj zd)) o0_1,.dat i64 o0_2,.dat (zg (zj zd)) o0_3])] 1)
theorem C5(v0:List (List UInt8×List UInt8))(v6:(Int×List Int)×Int×List Int)(v9:List (List UInt8×List UInt8))(v10 v11 o1:Int)(o1_1:List Int)(o1_2:Int)(o1_3:List Int)(o0 o0_1:Int)(v9':List (List UInt8×List UInt8))(v10':Int)(v11':Int)(o4:Int)(o4_1:List Int)(o4_2:Int)(o4_3:List Int)(o3 o3_1 o2:Int)(o2_1:List Int)(o2_2:Int)(o2_3:List Int)(o1':Int)(o1_1':List Int)(o1_2':Int)(o1_3':List Int)(o0':Int)(o0_1':List Int)(o0_2:Int)(o0_3:List Int):stepT CN (L3 v0 v6 v9 v10 v11 o1 o1_1 o1_2 o1_3 o0 o0_1 v9' v10' v11' o4 o4_1 o4_2 o4_3 o3 o3_1 o2 o2_1 o2_2 o2_3 o1' o1_1' o1_2' o1_3' o0' o0_1' o0_2 o0_3)=let b':=((o4,o4_1),o4_2,o4_3);let c':=snd (getD v9' (toNat v11') ([],[]));let a':=Fc c';.ite (decide (v11'<v10')) (.ite (decide (0<=v11')&&decide (v11'<(↑(length v9'):Int))) (.ite (Da c') (.ite (zt b'&&zt a') (L3 v0 v6 v9 v10 v11 o1 o1_1 o1_2 o1_3 o0 o0_1 v9' v10' (zi .i64 (v11'+1)) (Lp b' a') (KQ b' a') (Kn b' a') (KR b' a') o3 o3_1 o2 o2_1 o2_2 o2_3 o1' o1_1' o1_2' o1_3' o0' o0_1' o0_2 o0_3) .fail) .fail) .fail) (.ite (zt b'&&zt v6&&decide (Sp.vI (fst (fst v6),snd (fst v6))≠0)) (L4 v0 (((o2,o2_1),o2_2,o2_3)) (T8 b' v6) (Vl b' v6) (U9 b' v6) (Uc b' v6)) .fail):=by kernel_rfl
def L5(v0:List (List UInt8×List UInt8))(v7:(Int×List Int)×Int×List Int)(o0:Int)(o0_1:List Int)(o0_2:Int)(o0_3:List Int)(v1:(Int×List Int)×Int×List Int)(v9:List (List UInt8×List UInt8))(v10 v11 o2:Int)(o2_1:List Int)(o2_2:Int)(o2_3:List Int)(o1 o1_1:Int)(o0':Int)(o0_1':List Int)(o0_2':Int)(o0_3':List Int):Tr:=re ((stepT CN (L4 v0 v7 o0 o0_1 o0_2 o0_3)).L) (AF 22 [(1,PV.fn (qe 62) [] [PV.CW (zh (zh i64 (zg (zj zd))) (zh i64 (zg (zj zd)))) v1 0]),(4,.ptr 1 0),(5,.ptr 2 0),(9,.dat (yk (zh zm zm)) v9),(10,.dat i64 v10),(11,.dat i64 v11)] [(2,.box [.dat i64 o2,.dat (zg (zj zd)) o2_1,.dat i64 o2_2,.dat (zg (zj zd)) o2_3]),(1,.box [.dat i64 o1,.nil,.dat i64 o1_1,.nil]),(0,.box [.dat i64 o0',.dat (zg (zj zd)) o0_1',.dat i64 o0_2',.dat (zg (zj zd)) o0_3'])] 3)
theorem CT(v0:List (List UInt8×List UInt8))(v7:(Int×List Int)×Int×List Int)(o0:Int)(o0_1:List Int)(o0_2:Int)(o0_3:List Int):stepT CN (L4 v0 v7 o0 o0_1 o0_2 o0_3)=.ite true (L5 v0 v7 o0 o0_1 o0_2 o0_3 v7 v0 ((length v0:Int)) 0 0 (Ca 0) 1 (Ca 1) 0 0 o0 o0_1 o0_2 o0_3) .fail:=by kernel_rfl
def L6(v0:List (List UInt8×List UInt8))(v7:(Int×List Int)×Int×List Int)(v8:(Int×List Int)×Int×List Int)(o0:Int)(o0_1:List Int)(o0_2:Int)(o0_3:List Int):Tr:=re ((stepT CN (L5 [] ((0,[]),(0,[])) 0 [] 0 [] ((0,[]),(0,[])) [] 0 0 0 [] 0 [] 0 0 0 [] 0 [])).R.L.R) (AF 68 [(0,.dat (yk (zh zm zm)) v0),(7,PV.CW (zh (zh i64 (zg (zj zd))) (zh i64 (zg (zj zd)))) v7 0),(8,PV.CW (zh (zh i64 (zg (zj zd))) (zh i64 (zg (zj zd)))) v8 0),(9,.ptr 0 0)] [(0,.box [.dat i64 o0,.dat (zg (zj zd)) o0_1,.dat i64 o0_2,.dat (zg (zj zd)) o0_3])] 1)
theorem Es(v0:List (List UInt8×List UInt8))(v7:(Int×List Int)×Int×List Int)(o0:Int)(o0_1:List Int)(o0_2:Int)(o0_3:List Int)(v1:(Int×List Int)×Int×List Int)(v9:List (List UInt8×List UInt8))(v10 v11 o2:Int)(o2_1:List Int)(o2_2:Int)(o2_3:List Int)(o1 o1_1:Int)(o0':Int)(o0_1':List Int)(o0_2':Int)(o0_3':List Int):stepT CN (L5 v0 v7 o0 o0_1 o0_2 o0_3 v1 v9 v10 v11 o2 o2_1 o2_2 o2_3 o1 o1_1 o0' o0_1' o0_2' o0_3')=let b':=zg (zj zd);let c':=((o2,o2_1),o2_2,o2_3);let e':=getD v9 (toNat v11) ([],[]);let a':=(fst e',snd e');let d':=xS a' v1;.ite (decide (v11<v10)) (.ite (decide (0<=v11)&&decide (v11<(length v9:Int))) (.ite (Sp.okW a' v1) (.ite (zt c'&&zt d') (L5 v0 v7 o0 o0_1 o0_2 o0_3 v1 v9 v10 (zi .i64 (v11+1)) (Lp c' d') (KQ c' d') (Kn c' d') (KR c' d') o1 o1_1 o0' o0_1' o0_2' o0_3') .fail) .fail) .fail) (.ite (Sp.Dp (o2,o2_1)) (.ite (Qm c'==0) (.leaf (.tup [.dat zm [],.dat zm [],.dat i64 (14:Int)]) ([(3,.box [.dat i64 o2,.dat b' o2_1,.dat i64 o2_2,.dat b' o2_3]),(2,.box [.dat i64 o2,.dat b' o2_1,.dat i64 o2_2,.dat b' o2_3]),(1,.box [.dat i64 o2,.dat b' o2_1,.dat i64 o2_2,.dat b' o2_3]),(0,.box [.dat i64 o0',.dat b' o0_1',.dat i64 o0_2',.dat b' o0_3'])])) (L6 v0 v7 (((o0',o0_1'),o0_2',o0_3')) o2 o2_1 o2_2 o2_3)) .fail):=by kernel_rfl
def L7(v0:List (List UInt8×List UInt8))(v7:(Int×List Int)×Int×List Int)(v8:(Int×List Int)×Int×List Int)(o0:Int)(o0_1:List Int)(o0_2:Int)(o0_3:List Int)(v1:(Int×List Int)×Int×List Int)(v1_1:(Int×List Int)×Int×List Int)(v9:List (List UInt8×List UInt8))(v10 v11 o2:Int)(o2_1:List Int)(o2_2:Int)(o2_3:List Int)(o1 o1_1:Int)(o0':Int)(o0_1':List Int)(o0_2':Int)(o0_3':List Int):Tr:=re ((stepT CN (L6 v0 v7 v8 o0 o0_1 o0_2 o0_3)).L) (AF 22 [(1,PV.fn (qe 66) [] [PV.CW (zh (zh i64 (zg (zj zd))) (zh i64 (zg (zj zd)))) v1 0,PV.CW (zh (zh i64 (zg (zj zd))) (zh i64 (zg (zj zd)))) v1_1 0]),(4,.ptr 1 0),(5,.ptr 2 0),(9,.dat (yk (zh zm zm)) v9),(10,.dat i64 v10),(11,.dat i64 v11)] [(2,.box [.dat i64 o2,.dat (zg (zj zd)) o2_1,.dat i64 o2_2,.dat (zg (zj zd)) o2_3]),(1,.box [.dat i64 o1,.nil,.dat i64 o1_1,.nil]),(0,.box [.dat i64 o0',.dat (zg (zj zd)) o0_1',.dat i64 o0_2',.dat (zg (zj zd)) o0_3'])] 3)
theorem Fi(v0:List (List UInt8×List UInt8))(v7:(Int×List Int)×Int×List Int)(v8:(Int×List Int)×Int×List Int)(o0:Int)(o0_1:List Int)(o0_2:Int)(o0_3:List Int):stepT CN (L6 v0 v7 v8 o0 o0_1 o0_2 o0_3)=.ite true (L7 v0 v7 v8 o0 o0_1 o0_2 o0_3 v7 v8 v0 ((length v0:Int)) 0 0 (Ca 0) 1 (Ca 1) 0 0 o0 o0_1 o0_2 o0_3) .fail:=by kernel_rfl
theorem Ew(v0:List (List UInt8×List UInt8))(v7:(Int×List Int)×Int×List Int)(v8:(Int×List Int)×Int×List Int)(o0:Int)(o0_1:List Int)(o0_2:Int)(o0_3:List Int)(v1:(Int×List Int)×Int×List Int)(v1_1:(Int×List Int)×Int×List Int)(v9:List (List UInt8×List UInt8))(v10 v11 o2:Int)(o2_1:List Int)(o2_2:Int)(o2_3:List Int)(o1 o1_1:Int)(o0':Int)(o0_1':List Int)(o0_2':Int)(o0_3':List Int):stepT CN (L7 v0 v7 v8 o0 o0_1 o0_2 o0_3 v1 v1_1 v9 v10 v11 o2 o2_1 o2_2 o2_3 o1 o1_1 o0' o0_1' o0_2' o0_3')=let d':=zg (zj zd);let e':=((o2,o2_1),o2_2,o2_3);let f':=((o0',o0_1'),o0_2',o0_3');let h':=getD v9 (toNat v11) ([],[]);let b':=HJ e' f';let c':=xM (fst h',snd h') v1 v1_1;let g':=Gc v8 (Ha b' v7);let a':=[(yj (yj 3 1) 1,.arr false 29 i64 [Hd b',Hd g']),(yj 3 1,.box [.dat i64 (T8 e' f'),.dat d' (Vl e' f'),.dat i64 (U9 e' f'),.dat d' (Uc e' f')]),(3,.box [.dat i64 o2,.dat d' o2_1,.dat i64 o2_2,.dat d' o2_3]),(2,.box [.dat i64 o2,.dat d' o2_1,.dat i64 o2_2,.dat d' o2_3]),(1,.box [.dat i64 o2,.dat d' o2_1,.dat i64 o2_2,.dat d' o2_3]),(0,.box [.dat i64 o0',.dat d' o0_1',.dat i64 o0_2',.dat d' o0_3'])];.ite (decide (v11<v10)) (.ite (decide (0<=v11)&&decide (v11<(length v9:Int))) (.ite (Sp.okB (fst h',snd h') v1 v1_1) (.ite (zt e'&&zt c') (L7 v0 v7 v8 o0 o0_1 o0_2 o0_3 v1 v1_1 v9 v10 (zi .i64 (v11+1)) (Lp e' c') (KQ e' c') (Kn e' c') (KR e' c') o1 o1_1 o0' o0_1' o0_2' o0_3') .fail) .fail) .fail) (.ite (zt e'&&zt f'&&decide (Sp.vI (o0',o0_1')≠0)) (.ite (Sp.EZ b') (.ite (zt b'&&zt v7) (.ite (zt v8&&zt (Ha b' v7)) (.ite (Sp.EZ g') (.ite (decide (2<=2)&&true&&decide (2<=1000000)) (.ite (yi [Hd b',Hd g'] !=0) (.leaf (.tup [.dat zm [],.dat zm [],.dat i64 (yi [Hd b',Hd g'])]) a') (.leaf (.tup [.dat zm (JB b'),.dat zm (JB g'),.dat i64 (0:Int)]) a')) .fail) .fail) .fail) .fail) .fail) .fail):=by kernel_rfl
end T11
namespace T12
def T(l:List (List UInt8×List UInt8))(a b:List UInt8):Tr:=tree CN false 9 12 (Af ([yk (zh zm zm),zm,zm]) (l,a,b))
def L1(v0:List (List UInt8×List UInt8))(v9:(Int×List Int)×Int×List Int)(v10:(Int×List Int)×Int×List Int):Tr:=re ((T [] [] []).L.L.L.L.R.L.L) (AF 32 [(0,.dat (yk (zh zm zm)) v0),(9,PV.CW (zh (zh i64 (zg (zj zd))) (zh i64 (zg (zj zd)))) v9 0),(10,PV.CW (zh (zh i64 (zg (zj zd))) (zh i64 (zg (zj zd)))) v10 0)] [] 0)
theorem An(l:List (List UInt8×List UInt8))(a b:List UInt8):T l a b=.ite (decide (length l<=1000000)&&Hw 1000000 l) (.ite (decide (length a<=1000000)) (.ite (decide (length b<=1000000)) (.ite (decide (3<=3)&&true&&decide (3<=1000000)) (.ite (yi [CY l,Az a,Az b] !=0) (.leaf (.tup [.dat zm [],.dat i64 (yi [CY l,Az a,Az b])]) ([(0,.arr false 29 i64 [CY l,Az a,Az b])])) (.ite (Da a) (.ite (Da b) (L1 l (((Mv a,snd (CI (A8 a))),JY a,snd (CI (AI a)))) (((Mv b,snd (CI (A8 b))),JY b,snd (CI (AI b))))) .fail) .fail)) .fail) .fail) .fail) .fail:=by kernel_rfl
def L2(v0:List (List UInt8×List UInt8))(v9:(Int×List Int)×Int×List Int)(v10:(Int×List Int)×Int×List Int)(v1:(Int×List Int)×Int×List Int)(v1_1:(Int×List Int)×Int×List Int)(v9':List (List UInt8×List UInt8))(v10':Int)(v11 o1:Int)(o1_1:List Int)(o1_2:Int)(o1_3:List Int)(o0 o0_1:Int):Tr:=re ((stepT CN (L1 v0 v9 v10)).L) (AF 22 [(1,PV.fn (qe 70) [] [PV.CW (zh (zh i64 (zg (zj zd))) (zh i64 (zg (zj zd)))) v1 0,PV.CW (zh (zh i64 (zg (zj zd))) (zh i64 (zg (zj zd)))) v1_1 0]),(4,.ptr 0 0),(5,.ptr 1 0),(9,.dat (yk (zh zm zm)) v9'),(10,.dat i64 v10'),(11,.dat i64 v11)] [(1,.box [.dat i64 o1,.dat (zg (zj zd)) o1_1,.dat i64 o1_2,.dat (zg (zj zd)) o1_3]),(0,.box [.dat i64 o0,.nil,.dat i64 o0_1,.nil])] 2)
theorem Au(v0:List (List UInt8×List UInt8))(v9:(Int×List Int)×Int×List Int)(v10:(Int×List Int)×Int×List Int):stepT CN (L1 v0 v9 v10)=.ite true (L2 v0 v9 v10 v9 v10 v0 ((length v0:Int)) 0 0 (Ca 0) 1 (Ca 1) 0 0) .fail:=by kernel_rfl
theorem AV(v0:List (List UInt8×List UInt8))(v9:(Int×List Int)×Int×List Int)(v10:(Int×List Int)×Int×List Int)(v1:(Int×List Int)×Int×List Int)(v1_1:(Int×List Int)×Int×List Int)(v9':List (List UInt8×List UInt8))(v10':Int)(v11 o1:Int)(o1_1:List Int)(o1_2:Int)(o1_3:List Int)(o0 o0_1:Int):stepT CN (L2 v0 v9 v10 v1 v1_1 v9' v10' v11 o1 o1_1 o1_2 o1_3 o0 o0_1)=let b':=((o1,o1_1),o1_2,o1_3);let c':=zg (zj zd);let e':=getD v9' (toNat v11) ([],[]);let a':=(fst e',snd e');let d':=uK a' v1 v1_1;.ite (decide (v11<v10')) (.ite (decide (0<=v11)&&decide (v11<(↑(length v9'):Int))) (.ite (Sp.okM a' v1 v1_1) (.ite (zt b'&&zt d') (L2 v0 v9 v10 v1 v1_1 v9' v10' (zi .i64 (v11+1)) (Lp b' d') (KQ b' d') (Kn b' d') (KR b' d') o0 o0_1) .fail) .fail) .fail) (.ite (Sp.EZ b') (.leaf (.tup [.dat zm (JB b'),.dat i64 (Hd b')]) ([(1,.box [.dat i64 o1,.dat c' o1_1,.dat i64 o1_2,.dat c' o1_3]),(0,.box [.dat i64 o1,.dat c' o1_1,.dat i64 o1_2,.dat c' o1_3])])) .fail):=by kernel_rfl
end T12
namespace T17
def T(l:List (List UInt8)):Tr:=tree CN false 9 17 (Af ([yk zm]) l)
def L1(l:List (List UInt8))(v3n:Nat)(v9:List (List UInt8))(v10 v11:Int)(o0:List ((Int×List Int)×Int×List Int)):Tr:=re ((T l).L.R.L) (AF 23 [(3,.sl 0 4 0 v3n none),(9,.dat (yk zm) v9),(10,.dat i64 v10),(11,.dat i64 v11)] [(0,.arr false 95 (zh (zh i64 (zg (zj zd))) (zh i64 (zg (zj zd)))) o0)] 1)
theorem An(l:List (List UInt8)):T l=let a':=(length l:Int);.ite (decide (length l<=1000000)&&List.all l fun s=>decide (length s<=1000000)) (.ite (FJ l !=0) (.leaf (.tup [.dat zm [],.dat i64 (FJ l)]) []) (.ite (decide (0<=a')&&decide (a'=a')&&decide (64*toNat a'<=281474976710656)&&decide (a'<9223372036854775808)) (L1 l (toNat a') l (a') 0 (replicate (toNat a') ((0,[]),0,[]))) .fail)) .fail:=by kernel_rfl
def L2(l:List (List UInt8))(v3n:Nat)(v9:List (List UInt8))(v10 v11:Int)(o0:List ((Int×List Int)×Int×List Int))(v9n:Nat)(v10':Int)(v11':Int)(o3:Int)(o3_1:List Int)(o3_2:Int)(o3_3:List Int)(o2 o2_1 o1 o1_1:Int)(o0':List ((Int×List Int)×Int×List Int)):Tr:=re ((stepT CN (L1 l v3n v9 v10 v11 o0)).R.L) (AF 22 [(1,PV.fn (qe 150) [] []),(4,.ptr 2 0),(5,.ptr 3 0),(9,.sl 0 4 0 v9n none),(10,.dat i64 v10'),(11,.dat i64 v11')] [(3,.box [.dat i64 o3,.dat (zg (zj zd)) o3_1,.dat i64 o3_2,.dat (zg (zj zd)) o3_3]),(2,.box [.dat i64 o2,.nil,.dat i64 o2_1,.nil]),(1,.box [.dat i64 o1,.nil,.dat i64 o1_1,.nil]),(0,.arr false 95 (zh (zh i64 (zg (zj zd))) (zh i64 (zg (zj zd)))) o0')] 4)
theorem Au(l:List (List UInt8))(v3n:Nat)(v9:List (List UInt8))(v10 v11:Int)(o0:List ((Int×List Int)×Int×List Int)):stepT CN (L1 l v3n v9 v10 v11 o0)=let a':=getD v9 (toNat v11) [];.ite (decide (v11<v10)) (.ite (decide (0<=v11)&&decide (v11<(length v9:Int))) (.ite (Da a') (.ite (decide (0<=v11)&&decide (v11<(↑v3n:Int))) (.ite (decide (toNat v11<length o0)) (L1 l v3n v9 v10 (zi .i64 (v11+1)) (set o0 (toNat v11) (Fc a'))) .fail) .fail) .fail) .fail) (.ite true (L2 l v3n v9 v10 v11 o0 v3n ((↑v3n:Int)) 0 0 (Ca 0) 1 (Ca 1) 0 0 0 0 o0) .fail):=by kernel_rfl
theorem AV(l:List (List UInt8))(v3n:Nat)(v9:List (List UInt8))(v10 v11:Int)(o0:List ((Int×List Int)×Int×List Int))(v9n:Nat)(v10':Int)(v11':Int)(o3:Int)(o3_1:List Int)(o3_2:Int)(o3_3:List Int)(o2 o2_1 o1 o1_1:Int)(o0':List ((Int×List Int)×Int×List Int)):stepT CN (L2 l v3n v9 v10 v11 o0 v9n v10' v11' o3 o3_1 o3_2 o3_3 o2 o2_1 o1 o1_1 o0')=let b':=((o3,o3_1),o3_2,o3_3);let c':=zg (zj zd);let d':=getD o0' (toNat v11') ((0,[]),0,[]);let e':=((↑v3n:Int),Ca (↑v3n:Int));let a':=(e',1,Ca 1);let f':=HJ b' a';.ite (decide (v11'<v10')) (.ite (decide (0<=v11')&&decide (v11'<(↑v9n:Int))) (.ite (decide (toNat v11'<length o0')) (.ite true (.ite (zt b'&&zt d') (L2 l v3n v9 v10 v11 o0 v9n v10' (zi .i64 (v11'+1)) (Lp b' d') (KQ b' d') (Kn b' d') (KR b' d') o2 o2_1 o1 o1_1 o0') .fail) .fail) .fail) .fail) (.ite true (.ite (zt b'&&zt a'&&decide (Sp.vI e'≠0)) (.ite (Sp.EZ f') (.leaf (.tup [.dat zm (JB f'),.dat i64 (Hd f')]) ([(3,.box [.dat i64 o3,.dat c' o3_1,.dat i64 o3_2,.dat c' o3_3]),(2,.box [.dat i64 o3,.dat c' o3_1,.dat i64 o3_2,.dat c' o3_3]),(1,.box [.dat i64 (T8 b' a'),.dat c' (Vl b' a'),.dat i64 (U9 b' a'),.dat c' (Uc b' a')]),(0,.arr false 95 (zh (zh i64 c') (zh i64 c')) o0')])) .fail) .fail) .fail):=by kernel_rfl
end T17
end
end Go.Pe
