import Derived.Test.YtmcnicakonagdaaGreatDoorX12
import Derived.Test.YtmcnicakonagdaaGreatDoorX11
import Derived.Test.YtmcnicakonagdaaGreatDoorX10
import Derived.Test.YtmcnicakonagdaaGreatDoorX07
import Derived.Test.YtmcnicakonagdaaGreatDoorX09
/- A part of a proof (no law is stated here). Made by program out of texts by AI agents. -/
noncomputable section
open Go.Pe.Ends renaming tt -> zc, leaf -> zf, Ap -> zj, ite -> zl, ff -> zn, eq -> yg
open Bool renaming and_eq_true -> zd, true_and -> yw, and_true -> j6
open Go.IntKind renaming wrap -> ze, u64 -> qi
open Int renaming toNat_natCast -> zg, natAbs_natCast -> zo, mul_le_mul_of_nonneg_left -> zr, lt_of_lt_of_le -> zt, le_of_lt -> zz, lt_of_le_of_lt -> z6, mul_le_mul_of_nonneg_right -> ye, ne_of_gt -> yh, eq_ofNat_of_zero_le -> yq, pow_succ -> yv, natAbs_mul -> yx, toNat -> yy, mul_comm -> ql, le_trans -> qm, gcd -> qn, mul_nonneg -> qq, tdiv_eq_ediv_of_nonneg -> qu, tmod_eq_emod_of_nonneg -> qv, natAbs_ediv_le_natAbs -> q9, mul_pos -> je, mul_one -> jf, ediv_eq_iff_of_pos -> ji, sign_eq_one_of_pos -> jj, one_mul -> jm, le_refl -> jo, add_assoc -> j7, gcd_comm -> kf, ediv_one -> kg
open List renaming length_drop -> zh, length_append -> zk, take_of_length_le -> zm, length_take -> zq, length_cons -> zy, all_cons -> z8, take_length -> yd, length_eq_zero_iff -> yf, getD_eq_getElem?_getD -> yj, getElem?_eq_getElem -> yo, map -> yr, length_map -> yz, take_succ_eq_append_getElem -> y9, append_assoc -> qc, take_append_drop -> qd, all_eq_true -> qg, findIdx?_cons -> qt, mem_singleton -> qw, reverse_singleton -> jk, length -> j0, take -> j5
open Go.Sp renaming vI -> zi, AL -> zu, B9 -> zx, val -> yu, gI -> jl, BK -> j8, first -> kc, preB -> ke
open Go.Lib renaming decDigits -> zp, itoa -> yc, decDigits_length -> yn
open Rat renaming num_divInt_den -> zw, divInt -> ya, divInt_add_divInt -> qe, num_eq_zero -> qk, num_divInt -> qx, den_divInt -> qy, neg_num -> jt, neg_den -> jz
open Nat renaming le_refl -> z7, zero_le -> yt, eq_zero_or_pos -> y7, lt_of_le_of_lt -> y8, ble_eq_true_of_le -> qf, sub -> qh, pow_le_pow_right -> qj, pow_succ -> qo, add_sub_cancel -> qp, lt_of_lt_of_le -> qz, add -> jh, ble -> kh
open UInt8 renaming ofNat -> yb, toNat -> yi, toNat_inj -> yk
open Go.Pe.Ad renaming of -> yp
open Classical renaming byContradiction -> jc
open Go.Pe.Obj renaming tbox -> jg
open Go.Pe.Sh renaming int -> j9
namespace Go.Pe
open Sp
open Go.Det
namespace T151
theorem Aq{Q:PV->Ob->Prop}(s:List UInt8)(hs:Aj s=true)(hl:s.length<=18)(hq:∀ob,Q (.dat i64 (AA 0 s)) ob):∀(r:List UInt8) (i:Nat),s.drop i=r->i<=s.length->Ends jN (L1 s (AA 0 (s.take i)) i) Q
 |[],i,h,hi=>by
  have he:i=s.length:=drop_nil h hi;subst he;rw[yd];exact zj (Ar ..) (zn (by simp) (zf (hq _)))
 |c::r,i,h,hi=>by
  obtain⟨h1,h2,h3⟩:=drop_cons (d:=0) h;have hb:=Be (Bc hs i);have hlen:(s.take i).length=i:=by rw[zq];omega
  rw[hlen]at hb;have hp:(10:Int)^i<=10^17:=AK (by decide) (by omega);have hc:BO c=true:=by
   unfold Aj at hs;rw[qg]at hs;exact hs c (OZ h)
  have hd:=CV hc;have hc0:48<=c.toNat/\c.toNat<=57:=by unfold Hl at hd;omega
  have e1:ze .i64 (c.toNat:Int)=(c.toNat:Int):=wr _ (by omega) (by omega);have hp17:(10:Int)^17=100000000000000000:=by decide
  have e2:ze .i64 (ze .i64 (ze .i64 (10*AA 0 (s.take i))+(c.toNat:Int))-48)=AA 0 (s.take (i+1)):=by
   rw[LJ h,CL];show _=10*AA 0 (s.take i)+((c.toNat:Int)-48);generalize AA 0 (s.take i)=D at*;rw[wr (10*D) (by omega) (by omega),wr (10*D+(c.toNat:Int)) (by omega) (by omega),wr _ (by omega) (by omega)];omega
  have e3:ze .i64 ((i:Int)+1)=((i+1:Nat):Int):=by rw[wr _ (by omega) (by omega)];omega
  refine zj (Ar ..) (zc (by simp;omega) ?_);rw[zg,h2,e1,e2,e3];exact zc (by simp;omega) (Aq s hs hl hq r (i+1) h3 h1)
theorem ok:Ag Bf 151 Q8:=by
 refine BY RQ (fun(s:List UInt8) hs=>?_);have hs:(decide (s.length<=18)&&Aj s)=true:=hs;rw[zd,w5]at hs;exact yg (Ak s) (Aq s hs.2 hs.1 (fun ob=>yp rfl rfl rfl) s 0 rfl (yt _))
end T151
theorem pD:DQ Z4:=Ab T151.ok (Ab T159.ok AQ)
theorem LV{neg:Bool}{w:List Int}{D:Int}(hd:Av zx w)(hv:yu zx w=D):(Cd neg w,Au w)=(Sp.rN (if neg=true then -D else D),Sp.rW (if neg=true then -D else D)):=by
 have h0:=Az (b:=zx) (by decide) hd;rw[hv]at h0;have hw:Au w=BQ D:=by rw[Fx hd];show BQ (yu zx w)=_;rw[hv]
 have hnil:BQ D=[]↔D=0:=uJ (by decide) h0;have ea:Ae (if neg=true then -D else D)=D:=by rw[Ah];split<;>omega
 unfold Cd Sp.rW Sp.rN;rw[ea,hw];congr 1;cases neg with
 |false=>simp;omega
 |true=>
  simp only[wk,yw,wm,hnil,decide_eq_decide];omega
namespace T155
variable {Q:PV->Ob->Prop}
theorem zO:(10:Int)^9=1000000000:=by decide
theorem IK{s:List UInt8}{m:Nat}(hm:m+9=s.length):AA 0 s=AA 0 (s.take m)*1000000000+AA 0 (s.drop m):=by
 conv=>lhs;rw[<-qd m s]
 rw[CL,Ep (s.drop m),zh,show s.length-m=9 by omega,zO]
theorem Cs{s:List UInt8}(hs:Aj s=true)(h:s.length<=9):0<=AA 0 s/\AA 0 s<1000000000:=by
 have:=Be hs;have h2:(10:Int)^s.length<=10^9:=AK (by decide) h;rw[zO]at h2;omega
theorem BX{s:List UInt8}(hs:Aj s=true)(h:s.length<=18):DM s=true:=by
 unfold DM;rw[hs,j6];exact w4 h
theorem C0(neg:Bool)(D:Int)(hq:∀(w:List Int) ob,Av zx w->yu zx w=D->Q (.agg [.dat .bool (Cd neg w),.dat li (Au w)]) ob):∀(f:Nat) (s:List UInt8) (o1:List Int),s.length<=f->Aj s=true->o1.length+s.length<=6000->Av zx o1->yu zx o1+(zx:Int)^o1.length*AA 0 s=D->Ends Z4 (L3 s neg o1.length o1) Q:=by
 intro f;induction f with
 |zero=>
  intro s o1 hf hs hl hd he;have h9:s.length<=9:=by omega
  have hv:=Cs hs h9;have ht:(o1++[By s]).take (jh o1.length 1)=o1++[By s]:=zm (by simp);refine zj (CF ..) (zn (by simp;omega) (zc (BX hs (by omega)) (zc (by simp;omega) ?_)));rw[ht];refine zc (by simp;omega) (zf (hq _ _ (EZ hd hv) ?_));rw[Cb];exact he
 |succ f ih=>
  intro s o1 hf hs hl hd he;by_cases h9:s.length<=9
  ·have hv:=Cs hs h9;have ht:(o1++[By s]).take (jh o1.length 1)=o1++[By s]:=zm (by simp);refine zj (CF ..) (zn (by simp;omega) (zc (BX hs (by omega)) (zc (by simp;omega) ?_)));rw[ht];refine zc (by simp;omega) (zf (hq _ _ (EZ hd hv) ?_));rw[Cb];exact he
  ·obtain⟨m,hm⟩:∃m,m+9=s.length:=⟨s.length-9,by omega⟩;have e1:ze .i64 ((s.length:Int)-9)=(m:Int):=by rw[wr _ (by omega) (by omega)];omega
   have e2:(s.drop m).take (qh s.length m)=s.drop m:=zm (by rw[zh];exact z7 _);have hv:=Cs (BS hs m) (by rw[zh];omega);refine zj (CF ..) (zc (by simp;omega) ?_);rw[e1,zg,e2];refine zc (by simp;omega) (zc (BX (BS hs m) (by rw[zh];omega)) (zc (by simp;omega) (zc (by simp;omega) ?_)));have:=ih (s.take m) (o1++[By (s.drop m)]) (by rw[zq];omega) (Bc hs m) (by simp;omega) (EZ hd hv) (by
    rw[Cb,zk];show yu zx o1+(zx:Int)^o1.length*AA 0 (s.drop m)+(zx:Int)^(o1.length+1)*AA 0 (s.take m)=D;rw[Jz,j7, <-Int.mul_add, <-he,IK hm];congr 2;omega)
   rw[zk]at this;exact this
theorem BU(D:Int)(hq:∀(w:List Int) ob,Av zx w->yu zx w=D->Q (.agg [.dat .bool (Cd false w),.dat li (Au w)]) ob):∀(f:Nat) (s:List UInt8) (o1:List Int),s.length<=f->Aj s=true->o1.length+s.length<=6000->Av zx o1->yu zx o1+(zx:Int)^o1.length*AA 0 s=D->Ends Z4 (L4 s o1.length o1) Q:=by
 intro f;induction f with
 |zero=>
  intro s o1 hf hs hl hd he;have h9:s.length<=9:=by omega
  have hv:=Cs hs h9;have ht:(o1++[By s]).take (jh o1.length 1)=o1++[By s]:=zm (by simp);refine zj (Cy ..) (zn (by simp;omega) (zc (BX hs (by omega)) (zc (by simp;omega) ?_)));rw[ht];refine zc (by simp;omega) (zf (hq _ _ (EZ hd hv) ?_));rw[Cb];exact he
 |succ f ih=>
  intro s o1 hf hs hl hd he;by_cases h9:s.length<=9
  ·have hv:=Cs hs h9;have ht:(o1++[By s]).take (jh o1.length 1)=o1++[By s]:=zm (by simp);refine zj (Cy ..) (zn (by simp;omega) (zc (BX hs (by omega)) (zc (by simp;omega) ?_)));rw[ht];refine zc (by simp;omega) (zf (hq _ _ (EZ hd hv) ?_));rw[Cb];exact he
  ·obtain⟨m,hm⟩:∃m,m+9=s.length:=⟨s.length-9,by omega⟩;have e1:ze .i64 ((s.length:Int)-9)=(m:Int):=by rw[wr _ (by omega) (by omega)];omega
   have e2:(s.drop m).take (qh s.length m)=s.drop m:=zm (by rw[zh];exact z7 _);have hv:=Cs (BS hs m) (by rw[zh];omega);refine zj (Cy ..) (zc (by simp;omega) ?_);rw[e1,zg,e2];refine zc (by simp;omega) (zc (BX (BS hs m) (by rw[zh];omega)) (zc (by simp;omega) (zc (by simp;omega) ?_)));have:=ih (s.take m) (o1++[By (s.drop m)]) (by rw[zq];omega) (Bc hs m) (by simp;omega) (EZ hd hv) (by
    rw[Cb,zk];show yu zx o1+(zx:Int)^o1.length*AA 0 (s.drop m)+(zx:Int)^(o1.length+1)*AA 0 (s.take m)=D;rw[Jz,j7, <-Int.mul_add, <-he,IK hm];congr 2;omega)
   rw[zk]at this;exact this
theorem Aq(neg:Bool)(s:List UInt8)(hs:Aj s=true)(hl:s.length<=5999)(hq:∀(w:List Int) ob,Av zx w->yu zx w=AA 0 s->Q (.agg [.dat .bool (Cd neg w),.dat li (Au w)]) ob):Ends Z4 (L1 s neg) Q:=by
 by_cases h9:s.length<=9
 ·have hv:=Cs hs h9;refine zj (Ar ..) (zn (by simp;omega) (zc (BX hs (by omega)) (zc rfl (zc rfl (zf (hq _ _ (EZ (l:=[]) (fun x hx=>by cases hx) hv) ?_))))));show yu zx [AA 0 s]=_;exact D7 _
 ·obtain⟨m,hm⟩:∃m,m+9=s.length:=⟨s.length-9,by omega⟩;have e1:ze .i64 ((s.length:Int)-9)=(m:Int):=by rw[wr _ (by omega) (by omega)];omega
  have e2:(s.drop m).take (qh s.length m)=s.drop m:=zm (by rw[zh];exact z7 _);have hv:=Cs (BS hs m) (by rw[zh];omega);refine zj (Ar ..) (zc (by simp;omega) ?_);rw[e1,zg,e2];refine zc (by simp;omega) (zc (BX (BS hs m) (by rw[zh];omega)) (zc rfl (zc (by simp;omega) ?_)));refine C0 neg (AA 0 s) hq m (s.take m) [By (s.drop m)] (by rw[zq];omega) (Bc hs m) (by simp;omega) (EZ (l:=[]) (fun x hx=>by cases hx) hv) ?_;rw[D7,IK hm];show AA 0 (s.drop m)+(zx:Int)^1*_=_;rw[yv,Int.pow_zero,jm,ql];exact Int.add_comm _ _
theorem A4(s:List UInt8)(hs:Aj s=true)(hl:s.length<=5999)(hq:∀(w:List Int) ob,Av zx w->yu zx w=AA 0 s->Q (.agg [.dat .bool (Cd false w),.dat li (Au w)]) ob):Ends Z4 (L2 s) Q:=by
 by_cases h9:s.length<=9
 ·have hv:=Cs hs h9;refine zj (AV ..) (zn (by simp;omega) (zc (BX hs (by omega)) (zc rfl (zc rfl (zf (hq _ _ (EZ (l:=[]) (fun x hx=>by cases hx) hv) ?_))))));show yu zx [AA 0 s]=_;exact D7 _
 ·obtain⟨m,hm⟩:∃m,m+9=s.length:=⟨s.length-9,by omega⟩;have e1:ze .i64 ((s.length:Int)-9)=(m:Int):=by rw[wr _ (by omega) (by omega)];omega
  have e2:(s.drop m).take (qh s.length m)=s.drop m:=zm (by rw[zh];exact z7 _);have hv:=Cs (BS hs m) (by rw[zh];omega);refine zj (AV ..) (zc (by simp;omega) ?_);rw[e1,zg,e2];refine zc (by simp;omega) (zc (BX (BS hs m) (by rw[zh];omega)) (zc rfl (zc (by simp;omega) ?_)));refine BU (AA 0 s) hq m (s.take m) [By (s.drop m)] (by rw[zq];omega) (Bc hs m) (by simp;omega) (EZ (l:=[]) (fun x hx=>by cases hx) hv) ?_;rw[D7,IK hm];show AA 0 (s.drop m)+(zx:Int)^1*_=_;rw[yv,Int.pow_zero,jm,ql];exact Int.add_comm _ _
theorem ok:Ag Bf 155 RO:=by
 refine BY pD (fun(s:List UInt8) hs=>?_);have hs:(decide (s.length<=5999)&&(if s.getD 0 0=45 then Aj (s.drop 1)else Aj s))=true:=hs;rw[zd,w5]at hs;obtain⟨hl,hs⟩:=hs;have fin:∀(neg:Bool) (D:Int),Ce s=(if neg=true then -D else D)->∀(w:List Int) ob,Av zx w->yu zx w=D->Ad RO s (.agg [.dat .bool (Cd neg w),.dat li (Au w)]) ob:=by
  intro neg D hr w ob hd hv;refine yp rfl rfl ?_;show(Cd neg w,Au w)=(Sp.rN (Ce s),Sp.rW (Ce s));rw[hr];exact LV hd hv
 refine yg (Ak s) ?_;conv=>zeta
 cases s with
 |nil=>exact zn (by decide) (A4 [] rfl (by decide) (fin false 0 rfl))
 |cons c r=>
  have g0:(c::r).getD 0 0=c:=rfl;rw[g0]at hs;rw[g0];refine zc (by simp) (zc (by simp) (zl (fun d=>?_) (fun d=>?_)))
  ·have hc:c=45:=by
    have:(c.toNat:Int)=45:=by simpa using d
    exact yk.1 (by show _=45;omega)
   rw[wd hc]at hs;have e:(List.drop 1 (c::r)).take (qh (c::r).length 1)=r:=by show r.take ((r.length+1)-1)=r;rw[qp];exact yd
   rw[d,e];refine zc (by simp) (Aq true r hs (by simp at hl;omega) (fin true _ ?_));unfold Ce;rw[g0,wd hc,wd rfl];rfl
  ·have hc:c≠45:=by
    rintro rfl;exact wh d (by decide)
   rw[wc hc]at hs;rw[d];refine Aq false (c::r) hs hl (fin false _ ?_);unfold Ce;rw[g0,wc hc,wc (by decide)]
end T155
theorem kO:DQ Qb:=
 Ab T121n.ok (Ab T185.ok (Ab T136.ok (Ab T146.ok (Ab T171.ok (Ab (G2 (by kernel_rfl) (BA (by kernel_rfl))) (Ab (G2 (by kernel_rfl) (BA (by kernel_rfl))) AQ))))))
theorem Rf(k:Nat):Er 18 (k:Int)=((min 18 k:Nat):Int):=by unfold Er;split<;>omega
theorem sD(n:Int):ze .u8 n=n % 256:=by simp[ze,IntKind.bits,IntKind.signed]
theorem eH(k:Nat):(10:Int)^k<=(Ai:Int)^k:=by
 induction k with
 |zero=>exact jo _
 |succ k ih=>
  rw[yv,yv];have h1:=ye ih (show(0:Int)<=10 by decide);have h2:=zr (show(10:Int)<=(Ai:Int)by decide) (zz (AN (b:=Ai) (by decide) k));exact qm h1 h2
theorem F4{n:Int}(h0:0<=n)(h:n<(10:Int)^(6000:Nat)):Ba (CD n)=true:=by
 refine DE ?_;have h1:=eH 6000;have h2:(Ai:Int)^6000<=(Ai:Int)^9000:=AK (by decide) (by decide);have h3:Ae n=n:=by rw[Ah];omega
 rw[h3];exact zt h (qm h1 h2)
theorem No(m n:Int):Fp (Cx m,Cw m) (Cx n,Cw n)=Cx (m*n)/\FB (Cx m,Cw m) (Cx n,Cw n)=Cw (m*n):=by
 constructor
 ·show Cx (zi (CD _)*zi (CD _))=_;rw[Cr,Cr]
 ·show Cw (zi (CD _)*zi (CD _))=_;rw[Cr,Cr]
theorem kE{a b:AU}(h:0<=zi a+zi b):Em a b=CD (zi a+zi b):=by
 unfold Em;split
 ·next c=>
  have:=D4 c.2.2;rw[Bk c.1,Bk c.2.1]at h ⊢;exact(BZ (by omega)).symm
 ·rfl
theorem Nr{m v:Int}(hm:0<=m)(hv:0<=v):Iz (Cx m,Cw m) (v,Ck v)=Cx (m+v)/\HY (Cx m,Cw m) (v,Ck v)=Cw (m+v):=by
 have e1:zi (Cx m,Cw m)=m:=Cr m;have e2:zi (v,Ck v)=v:=by rw[Eb,Eu]
 have:=kE (a:=(Cx m,Cw m)) (b:=(v,Ck v)) (by rw[e1,e2];omega);rw[e1,e2]at this;exact⟨wi Prod.fst this,wi Prod.snd this⟩
theorem Nf(n:Nat):TX ((10:Int),Ck (10:Int)) (n:Int)=Cx (10^n)/\UP ((10:Int),Ck (10:Int)) (n:Int)=Cw (10^n):=by
 have e:Sp.pI (zi ((10:Int),Ck (10:Int))) (n:Int)=10^n:=by rw[Rg,Eb,Eu,zg]
 unfold TX UP;rw[e];exact⟨rfl,rfl⟩
theorem bJ:Ba ((10:Int),Ck (10:Int))=true:=by rw[Eb];decide
theorem cW{n:Nat}(h:n<=18):cE (zi ((10:Int),Ck (10:Int))) (n:Int)=true:=by
 unfold cE;have e:Sp.pI (zi ((10:Int),Ck (10:Int))) (n:Int)=10^n:=by rw[Rg,Eb,Eu,zg]
 rw[e];have h1:(10:Int)^n<=10^18:=AK (by decide) h;have h0:(0:Int)<10^n:=AN (by decide) n;have h2:(10:Int)^18<18446744073709551616^1:=by decide
 have h3:(18446744073709551616:Int)^(1:Nat)<=18446744073709551616^(4000:Nat):=AK (by decide) (by decide);have h4:Ae ((10:Int)^n)=10^n:=by rw[Ah];omega
 rw[h4];exact Aa (Aa (w4 (by omega)) (w4 (by omega))) (w4 (z6 h1 (zt h2 h3)))
theorem UL{v:Int}(h0:0<=v)(h:v<1000000000000000000):Ba (v,Ck v)=true:=by
 rw[Eb];unfold Ba;exact Aa (KJ (DF (by omega) (by omega))) (w4 (yt _))
theorem X4{w:List UInt8}(hs:Aj w=true)(h:w.length<=18):0<=AA 0 w/\AA 0 w<1000000000000000000:=by
 have:=Be hs;have h2:(10:Int)^w.length<=10^18:=AK (by decide) h;have h3:(10:Int)^18=1000000000000000000:=by decide
 omega
namespace T132
variable {Q:PV->Ob->Prop}
theorem Cj(W:List UInt8)(neg:Bool)(b1:Int)(b1w:List Int)(b0:Int)(w:List UInt8)(n:Nat)(hw:w=W.take n)(hW:Aj W=true)(hn:n=min 18 W.length)(h1:1<=W.length)(a o0':Int)(a0:0<=a)(hj:Ba (CD a)=true)(hj2:Ba (CD (a*10^n))=true)
  (hgo:Ends Qb (L5 (W.drop n) neg (Cx (a*10^n+AA 0 w)) (Cw (a*10^n+AA 0 w)) o0') Q):
  ∀(r:List UInt8) (j:Nat),w.drop j=r->j<=w.length->Ends Qb (L7 W neg b1 b1w b0 w (AA 0 (w.take j)) w.length w.length j (w.map fun b=>(b.toNat:Int)) (Cx a) (Cw a) o0') Q
 |[],j,hr,hjw=>by
  have hdw:Aj w=true:=by rw[hw];exact Bc hW n
  have hwl:w.length=n:=by rw[hw,zq];omega
  have he:j=w.length:=drop_nil hr hjw;subst he;have hv:=X4 hdw (by omega);obtain⟨c,t,hc⟩:∃c t,w=c::t:=by
   cases w with
   |nil=>simp at hwl;omega
   |cons c t=>exact⟨c,t,rfl⟩
  have hc0:((((w.getD 0 0).toNat:Int)==(45:Int))=false):=by
   rw[hc]at hdw ⊢;unfold Aj at hdw;rw[z8,zd]at hdw;have:=CV hdw.1;unfold Hl at this;show(((c.toNat:Int)==(45:Int))=false);simp;omega
  have ht:(W.drop n).take (qh W.length n)=W.drop n:=zm (by rw[zh];exact z7 _);have p0:0<=a*10^n:=qq a0 (zz (AN (by decide) n));have jp:Ba (Cx (10^n),Cw (10^n))=true:=by
   refine Fv (F4 (n:=(10:Int)^n) (zz (AN (by decide) n)) ?_);have x1:(10:Int)^n<=10^18:=AK (by decide) (by omega);have x2:(10:Int)^18<10^19:=by decide
   have x3:(10:Int)^19<=10^(6000:Nat):=AK (by decide) (by decide);exact z6 x1 (zt x2 x3)
  refine zj (EP ..) (zn (by simp) (zc (w4 (by omega)) ?_));rw[hc0,Rf, <-hn,(Nf n).1,(Nf n).2,yd];refine zn rfl (zc rfl (zc (Aa bJ (cW (by omega))) (zc (Aa hj jp) (zc rfl ?_))));rw[(No _ _).1,(No _ _).2,(Nr p0 hv.1).1,(Nr p0 hv.1).2,zg,ht];exact zc (Aa hj2 (UL hv.1 hv.2)) (zc (by simp;omega) hgo)
 |c::r,j,hr,hjw=>by
  have hdw:Aj w=true:=by rw[hw];exact Bc hW n
  have hwl:w.length=n:=by rw[hw,zq];omega
  obtain⟨g1,g2,g3⟩:=drop_cons (d:=0) hr;have hcd:BO c=true:=by
   unfold Aj at hdw;rw[qg]at hdw;exact hdw c (OZ hr)
  have hd:=CV hcd;have hlt:(w.take j).length=j:=by rw[zq];omega
  have hb:=Be (Bc hdw j);rw[hlt]at hb;have hp:(10:Int)^j<=10^17:=AK (by decide) (by omega);have hp17:(10:Int)^17=100000000000000000:=by decide
  have gm:(w.map fun b=>(b.toNat:Int)).getD j 0=(c.toNat:Int):=by
   rw[yj,List.getElem?_map,yo g1];have:w[j]=c:=by rw[<-g2,yj,yo g1];rfl
   rw[this];rfl
  have e8:ze .u8 ((c.toNat:Int)-48)=Hl c:=by
   rw[sD];unfold Hl at hd ⊢;omega
  have e2:ze .i64 (ze .i64 (AA 0 (w.take j)*10)+ze .i64 (Hl c))=AA 0 (w.take (j+1)):=by
   rw[LJ hr,CL];show _=10*AA 0 (w.take j)+Hl c;generalize AA 0 (w.take j)=D at*;rw[wr (D*10) (by omega) (by omega),wr (Hl c) (by omega) (by omega),wr _ (by omega) (by omega)];omega
  have e3:ze .i64 ((j:Int)+1)=((j+1:Nat):Int):=by rw[wr _ (by omega) (by omega)];omega
  refine zj (EP ..) (zc (by simp;omega) ?_);rw[zg,gm,e8,e2,e3];refine zc (by simp;omega) (zc (by simp;omega) (zn (w8 (by omega)) ?_));exact Cj W neg b1 b1w b0 w n hw hW hn h1 a o0' a0 hj hj2 hgo r (j+1) g3 g1
theorem C0(W:List UInt8)(neg:Bool)(b1:Int)(b0:Int)(w:List UInt8)(n:Nat)(hw:w=W.take n)(hW:Aj W=true)(hn:n=min 18 W.length)(h1:1<=W.length)(a o0':Int)(ha:a=0)(a0:0<=a)(hj:Ba (CD a)=true)(hj2:Ba (CD (a*10^n))=true)
  (hgo:Ends Qb (L5 (W.drop n) neg (Cx (a*10^n+AA 0 w)) (Cw (a*10^n+AA 0 w)) o0') Q):
  ∀(r:List UInt8) (j:Nat),w.drop j=r->j<=w.length->Ends Qb (L3 W neg b1 b0 w (AA 0 (w.take j)) w.length w.length j (w.map fun b=>(b.toNat:Int)) 0 o0') Q
 |[],j,hr,hjw=>by
  have hdw:Aj w=true:=by rw[hw];exact Bc hW n
  have hwl:w.length=n:=by rw[hw,zq];omega
  have he:j=w.length:=drop_nil hr hjw;subst he;have hv:=X4 hdw (by omega);obtain⟨c,t,hc⟩:∃c t,w=c::t:=by
   cases w with
   |nil=>simp at hwl;omega
   |cons c t=>exact⟨c,t,rfl⟩
  have hc0:((((w.getD 0 0).toNat:Int)==(45:Int))=false):=by
   rw[hc]at hdw ⊢;unfold Aj at hdw;rw[z8,zd]at hdw;have:=CV hdw.1;unfold Hl at this;show(((c.toNat:Int)==(45:Int))=false);simp;omega
  have ht:(W.drop n).take (qh W.length n)=W.drop n:=zm (by rw[zh];exact z7 _);have p0:0<=a*10^n:=qq a0 (zz (AN (by decide) n));have jp:Ba (Cx (10^n),Cw (10^n))=true:=by
   refine Fv (F4 (n:=(10:Int)^n) (zz (AN (by decide) n)) ?_);have x1:(10:Int)^n<=10^18:=AK (by decide) (by omega);have x2:(10:Int)^18<10^19:=by decide
   have x3:(10:Int)^19<=10^(6000:Nat):=AK (by decide) (by decide);exact z6 x1 (zt x2 x3)
  refine zj (CF ..) (zn (by simp) (zc (w4 (by omega)) ?_));rw[hc0,Rf, <-hn,(Nf n).1,(Nf n).2,yd];refine zn rfl (zc rfl (zc (Aa bJ (cW (by omega))) (zc (Aa (show Ba ((0:Int),[])=true by decide) jp) (zc rfl ?_))));rw[show Fp ((0:Int),[]) (Cx (10^n),Cw (10^n))=Cx (a*10^n)by rw[ha];exact(No 0 _).1,show FB ((0:Int),[]) (Cx (10^n),Cw (10^n))=Cw (a*10^n)by rw[ha];exact(No 0 _).2,(Nr p0 hv.1).1,(Nr p0 hv.1).2,zg,ht];exact zc (Aa hj2 (UL hv.1 hv.2)) (zc (by simp;omega) hgo)
 |c::r,j,hr,hjw=>by
  have hdw:Aj w=true:=by rw[hw];exact Bc hW n
  have hwl:w.length=n:=by rw[hw,zq];omega
  obtain⟨g1,g2,g3⟩:=drop_cons (d:=0) hr;have hcd:BO c=true:=by
   unfold Aj at hdw;rw[qg]at hdw;exact hdw c (OZ hr)
  have hd:=CV hcd;have hlt:(w.take j).length=j:=by rw[zq];omega
  have hb:=Be (Bc hdw j);rw[hlt]at hb;have hp:(10:Int)^j<=10^17:=AK (by decide) (by omega);have hp17:(10:Int)^17=100000000000000000:=by decide
  have gm:(w.map fun b=>(b.toNat:Int)).getD j 0=(c.toNat:Int):=by
   rw[yj,List.getElem?_map,yo g1];have:w[j]=c:=by rw[<-g2,yj,yo g1];rfl
   rw[this];rfl
  have e8:ze .u8 ((c.toNat:Int)-48)=Hl c:=by
   rw[sD];unfold Hl at hd ⊢;omega
  have e2:ze .i64 (ze .i64 (AA 0 (w.take j)*10)+ze .i64 (Hl c))=AA 0 (w.take (j+1)):=by
   rw[LJ hr,CL];show _=10*AA 0 (w.take j)+Hl c;generalize AA 0 (w.take j)=D at*;rw[wr (D*10) (by omega) (by omega),wr (Hl c) (by omega) (by omega),wr _ (by omega) (by omega)];omega
  have e3:ze .i64 ((j:Int)+1)=((j+1:Nat):Int):=by rw[wr _ (by omega) (by omega)];omega
  refine zj (CF ..) (zc (by simp;omega) ?_);rw[zg,gm,e8,e2,e3];refine zc (by simp;omega) (zc (by simp;omega) (zn (w8 (by omega)) ?_));exact C0 W neg b1 b0 w n hw hW hn h1 a o0' ha a0 hj hj2 hgo r (j+1) g3 g1
theorem nR(W:List UInt8)(neg:Bool)(o1:Int)(o1w:List Int)(o0:Int)(hW:Aj W=true)(h1:1<=W.length)(n:Nat)(hn:n=min 18 W.length)
  (h:Ends Qb (L7 W neg o1 o1w o0 (W.take n) 0 (W.take n).length (W.take n).length 0 ((W.take n).map fun b=>(b.toNat:Int)) o1 o1w o0) Q):Ends Qb (L5 W neg o1 o1w o0) Q:=by
 have hwl:(W.take n).length=n:=by rw[zq];omega
 have hdw:=Bc hW n;have hc:((((W.take n).getD 0 0).toNat:Int)==(45:Int))=false/\((((W.take n).getD 0 0).toNat:Int)==(43:Int))=false:=by
  cases hq:W.take n with
  |nil=>rw[hq]at hwl;simp at hwl;omega
  |cons c t=>
   rw[hq]at hdw;unfold Aj at hdw;rw[z8,zd]at hdw;have:=CV hdw.1;unfold Hl at this;show(((c.toNat:Int)==(45:Int))=false)/\(((c.toNat:Int)==(43:Int))=false);constructor<;>(simp;omega)
 refine zj (EY ..) (zc (by simp;omega) ?_);rw[Rf, <-hn,zg,hc.1,hc.2];exact zc (by simp;omega) (zc (w4 (by omega)) (zc (w4 (by omega)) (zc (w4 (by omega)) (zn rfl (zc (w4 (by omega)) (zn rfl h))))))
theorem oY(W:List UInt8)(neg:Bool)(o1:Int)(o0:Int)(hW:Aj W=true)(h1:1<=W.length)(n:Nat)(hn:n=min 18 W.length)
  (h:Ends Qb (L3 W neg o1 o0 (W.take n) 0 (W.take n).length (W.take n).length 0 ((W.take n).map fun b=>(b.toNat:Int)) o1 o0) Q):Ends Qb (L1 W neg o1 o0) Q:=by
 have hwl:(W.take n).length=n:=by rw[zq];omega
 have hdw:=Bc hW n;have hc:((((W.take n).getD 0 0).toNat:Int)==(45:Int))=false/\((((W.take n).getD 0 0).toNat:Int)==(43:Int))=false:=by
  cases hq:W.take n with
  |nil=>rw[hq]at hwl;simp at hwl;omega
  |cons c t=>
   rw[hq]at hdw;unfold Aj at hdw;rw[z8,zd]at hdw;have:=CV hdw.1;unfold Hl at this;show(((c.toNat:Int)==(45:Int))=false)/\(((c.toNat:Int)==(43:Int))=false);constructor<;>(simp;omega)
 refine zj (Ar ..) (zc (by simp;omega) ?_);rw[Rf, <-hn,zg,hc.1,hc.2];exact zc (by simp;omega) (zc (w4 (by omega)) (zc (w4 (by omega)) (zc (w4 (by omega)) (zn rfl (zc (w4 (by omega)) (zn rfl h))))))
theorem sZ(n:Int)(h:0<=n):(Ee (Cx n,Cw n),Ec (Cx n,Cw n))=CD (-n):=by
 show C4 (CD n)=_;unfold C4;split
 ·next c=>
  have:=Cr n;rw[Bk c.1]at this;rw[this,BZ (n:= -n)];by_cases hb: -9223372036854775808<n/\n<9223372036854775808
  ·omega
  ·exfalso;have e:CD n=(1,Br (Ae n)):=by unfold CD;rw[wc hb,wc (by omega)]
   rw[e]at this;have:(1:Int)=n:=this;omega
 ·rw[Cr]
theorem Xy{a D:Int}{W:List UInt8}{n:Nat}(ha:0<=a)(hW:Aj W=true)(hn:n<=W.length)(hD:a*10^W.length+AA 0 W=D):(a*10^n+AA 0 (W.take n))*10^(W.drop n).length+AA 0 (W.drop n)=D/\a<=D/\a*10^n<=D:=by
 have hs:AA 0 W=AA 0 (W.take n)*10^(W.drop n).length+AA 0 (W.drop n):=by
  conv=>lhs;rw[<-qd n W]
  rw[CL,Ep]
 have hl:W.length=n+(W.drop n).length:=by rw[zh];omega
 have hp:(10:Int)^W.length=10^n*10^(W.drop n).length:=by rw[<-Int.pow_add, <-hl]
 have hb:=(Be hW).1;have e1:a*10^W.length=a*10^n*10^(W.drop n).length:=by rw[hp,Int.mul_assoc]
 have one:∀k:Nat,(1:Int)<=10^k:=fun k=>by have:=AN (show(0:Int)<10 by decide) k;omega
 have l1:a<=a*10^W.length:=by have:=zr (one W.length) ha;omega
 have l2:a*10^n<=a*10^n*10^(W.drop n).length:=by
  have:=zr (one (W.drop n).length) (qq ha (show(0:Int)<=10^n by have:=one n;omega));omega
 refine⟨?_,by omega,by omega⟩;rw[Int.add_mul, <-e1];omega
theorem Ct(neg:Bool)(o0 D:Int)(hD1:D<(10:Int)^(6000:Nat))(hq:∀ob,Q (.agg [.dat i64 (Cx (if neg=true then -D else D)),.dat (.nlist u64) (Cw (if neg=true then -D else D))]) ob):∀(f:Nat) (W:List UInt8) (a:Int),W.length<f->W.length<=6000->0<=a->Aj W=true->a*10^W.length+AA 0 W=D->Ends Qb (L5 W neg (Cx a) (Cw a) o0) Q
 |0,W,a,hf,_,_,_,_=>by omega
 |f+1,W,a,hf,h15,ha,hW,he=>by
  cases hW0:W with
  |nil=>
   subst hW0;have he:a=D:=by rw[<-he];simp[AA]
   subst he;have hok:=F4 ha hD1;refine zj (EY ..) (zn (by simp) (zl (fun c=>zc (BV hok).1 (zf ?_)) (fun c=>zf ?_)))
   ·have:=sZ a ha;rw[c,wd rfl]at hq;have x1:Ee (Cx a,Cw a)=Cx (-a):=wi Prod.fst this;have x2:Ec (Cx a,Cw a)=Cw (-a):=wi Prod.snd this;rw[x1,x2];exact hq _
   ·rw[c,wc (by decide)]at hq;exact hq _
  |cons c t=>
   rw[<-hW0];have h1:1<=W.length:=by rw[hW0];simp
   obtain⟨r1,r2,r3⟩:=Xy (n:=min 18 W.length) ha hW (by omega) he;have hv:=(Be (Bc hW (min 18 W.length))).1;have hp:0<=a*10^(min 18 W.length):=qq ha (zz (AN (by decide) _));refine nR W neg _ _ o0 hW h1 _ rfl (Cj W neg _ _ o0 _ _ rfl hW rfl h1 a o0 ha (F4 ha (z6 r2 hD1)) (F4 hp (z6 r3 hD1)) ?_ _ 0 rfl (yt _));exact Ct neg o0 D hD1 hq f (W.drop (min 18 W.length)) _ (by rw[zh];omega) (by rw[zh];omega) (by omega) (BS hW _) r1
theorem Aq(neg:Bool)(W:List UInt8)(h15:W.length<=5999)(hW:Aj W=true)(hq:∀ob,Q (.agg [.dat i64 (Cx (if neg=true then -AA 0 W else AA 0 W)),.dat (.nlist u64) (Cw (if neg=true then -AA 0 W else AA 0 W))]) ob)(hq0:W=[]->∀ob v,(v=.agg [.dat i64 0,.nil]\/v=.agg [.dat i64 (Ee ((0:Int),[])),.dat (.nlist u64) (Ec ((0:Int),[]))])->Q v ob):Ends Qb (L1 W neg 0 0) Q:=by
 cases hW0:W with
 |nil=>
  refine zj (Ar ..) (zn (by simp) (zl (fun c=>zc (by decide) (zf (hq0 hW0 _ _ (.inr rfl)))) (fun c=>zf (hq0 hW0 _ _ (.inl rfl)))))
 |cons c t=>
  rw[<-hW0];have h1:1<=W.length:=by rw[hW0];simp
  have hD1:AA 0 W<(10:Int)^(6000:Nat):=zt (Be hW).2 (AK (by decide) (by omega));obtain⟨r1,r2,r3⟩:=Xy (a:=0) (n:=min 18 W.length) (D:=AA 0 W) (jo _) hW (by omega) (by rw[Int.zero_mul,Int.zero_add]);have hv:=(Be (Bc hW (min 18 W.length))).1;refine oY W neg 0 0 hW h1 _ rfl (C0 W neg 0 0 _ _ rfl hW rfl h1 0 0 rfl (jo _) (by decide) (by rw[Int.zero_mul];decide) ?_ _ 0 rfl (yt _));exact Ct neg 0 _ hD1 hq (W.length+1) (W.drop (min 18 W.length)) _ (by rw[zh];omega) (by rw[zh];omega) (by omega) (BS hW _) r1
theorem ok:Ag Bf 132 OX:=by
 refine BY kO (fun(s:List UInt8) hs=>?_);have hs:(decide (s.length<=5999)&&(if s.getD 0 0=45 then Aj (s.drop 1)else Aj s))=true:=hs;rw[zd,w5]at hs;obtain⟨hl,hs⟩:=hs;have fin:∀D,Ce s=D->∀ob,Ad OX s (.agg [.dat i64 (Cx D),.dat (.nlist u64) (Cw D)]) ob:=by
  rintro D rfl ob;exact yp rfl rfl rfl
 have fin0:Ce s=0->∀ob v,(v=.agg [.dat i64 0,.nil]\/v=.agg [.dat i64 (Ee ((0:Int),[])),.dat (.nlist u64) (Ec ((0:Int),[]))])->Ad OX s v ob:=by
  rintro h ob v (rfl|rfl)
  ·refine yp rfl rfl ?_;show((0:Int),([]:List Int))=(Cx (Ce s),Cw (Ce s));rw[h];rfl
  ·refine yp rfl rfl ?_;show C4 ((0:Int),([]:List Int))=(Cx (Ce s),Cw (Ce s));rw[h];rfl
 refine yg (Ak s) ?_;conv=>zeta
 cases s with
 |nil=>
  refine zn (by decide) (zn (by decide) (zj (AV ..) (zn (by decide) (zf (fin0 rfl _ _ (.inl rfl))))))
 |cons c r=>
  have ht:(c::r).take 1=[c]:=rfl;have g0:(c::r).getD 0 0=c:=rfl;rw[g0]at hs;have e:(List.drop 1 (c::r)).take (qh (c::r).length 1)=r:=by show r.take ((r.length+1)-1)=r;rw[qp];exact yd
  have b1:decide (((c::r).length:Int)>=1)=true:=w4 (by simp;omega);have b2:decide (1<=(c::r).length)=true:=w4 (by simp);rw[ht,e];refine zc b1 (zc b2 (zc b1 (zc b2 (zl (fun d=>?_) (fun d=>?_)))))
  ·have hc:c=45:=by simpa using d
   rw[wd hc]at hs;rw[d];have hr:Ce (c::r)= -AA 0 r:=by unfold Ce;rw[g0,wd hc];rfl
   refine zc (by simp) (Aq true r (by simp at hl;omega) hs (fin _ (by rw[hr,wd rfl])) (fun h0=>fin0 (by rw[hr,h0];rfl)))
  ·have hc:c≠45:=by rintro rfl;exact wh d (by decide)
   rw[wc hc]at hs;rw[d];have hr:Ce (c::r)=AA 0 (c::r):=by unfold Ce;rw[g0,wc hc]
   exact Aq false (c::r) hl hs (fin _ (by rw[hr,wc (by decide)])) (fun h0=>by cases h0)
end T132
namespace T142
theorem loop{Q:PV->Ob->Prop}(l:List Int)(hl:l.length<=1000000):∀(r:List Int) (i:Nat),l.drop i=r->i<=l.length->Q (.dat i64 (kc r)) []->Ends Nw (L1 l ((l.length:Int)) i) Q
 |[],i,h,hi,hq=>by
  refine zj (Ar ..) ?_;conv=>zeta
  have:¬i<l.length:=by
   intro h1;have:=List.drop_eq_getElem_cons h1;rw[h]at this;cases this
  have he:i=l.length:=by omega
  subst he;simpa [kc]using hq
 |x::r,i,h,hi,hq=>by
  obtain⟨h1,h2,h3⟩:=drop_cons (d:=0) h;refine zj (Ar ..) ?_;conv=>zeta
  rw[KK,wd (by simp;omega),KK,wd (by simp;omega),KK];simp only[zg,h2];by_cases hx:x=0
  ·subst hx;rw[wc (by simp),wr _ (by omega) (by omega)];exact loop l hl r (i+1) h3 h1 (by simpa [kc]using hq)
  ·rw[wd (by simpa using hx)];simpa [kc,hx]using hq
theorem ok:Ag Bf 142 JO:=by
 refine BY E9 (fun l hl=>?_);refine yg (Ak l) ?_;conv=>zeta
 exact loop l (by simpa [JO]using hl) l 0 rfl (yt _) (yp rfl rfl rfl)
end T142
theorem T143.ok:Ag Bf 143 Qp:=by
 refine BY E9 (fun⟨c,e⟩ _=>?_);refine yg (T143.Ak c e) ?_;conv=>zeta
 have key:∀x:Int,x=Ku c e->Ad Qp (c,e) (.dat i64 x) []:=fun x hx=>yp rfl rfl hx
 simp only[KK,Zs];cases c
 ·exact key _ rfl
 ·exact key _ rfl
theorem mP:DQ Mm:=
 Ab T142.ok (Ab T143.ok (Ab T140.ok (Ab T131.ok (Ab T141.ok (Ab T144.ok (Ab T132.ok (Ab T120.ok (Ab T121n.ok AQ))))))))
theorem Hs{s:List UInt8}(h:AX s=true):s≠[]/\Aj s=true:=by
 unfold AX at h;rw[zd,zd,w5]at h;exact h.1
theorem K5{s:List UInt8}(h:Aj s=true)(hl:s.length<=5999):Ei s=true/\Ce s=AA 0 s:=by
 have h0:s.getD 0 0≠45:=by
  cases s with
  |nil=>decide
  |cons c r=>
   unfold Aj at h;rw[z8,zd]at h;have:=CV h.1;rintro he;have he:c=45:=he;subst he;exact wh this (by decide)
 unfold Ei Ce;rw[wc h0,wc h0,h,j6];exact⟨w4 hl,rfl⟩
theorem rY{a b L:Int}(ha:0<=a)(hb:0<=b)(h1:a<L)(h2:b<L):0<=jl a b/\jl a b<L:=by
 rw[Gv];obtain⟨x,rfl⟩:=yq ha;obtain⟨y,rfl⟩:=yq hb;have e:qn (x:Int) (y:Int)=Nat.gcd x y:=rfl;rw[e];refine⟨Int.natCast_nonneg _,?_⟩;rcases y7 x with h|h
 ·subst h;rw[Nat.gcd_zero_left];exact h2
 ·have:=Nat.gcd_le_left y h;omega
namespace T69
variable {Q:PV->Ob->Prop}
def E(A B:List UInt8)(br form:Bool):Int:=if form=false then 1 else if 600<A.length\/600<B.length then 4 else if br=true/\jl (AA 0 A) (AA 0 B)≠1 then 1 else 0
theorem Fb(A B:List UInt8)(br:Bool)(hA:Aj A=true)(hB:br=true->Aj B=true)(lA:A.length<=600)(lB:B.length<=600)(hq:∀ob,Q (.dat i64 (if br=true/\jl (AA 0 A) (AA 0 B)≠1 then 1 else 0)) ob):Ends Mm (L8 A B br) Q:=by
 refine zj (JC ..) (zl (fun c=>?_) (fun c=>?_))
 ·have hB:=hB c;obtain⟨r1,r2⟩:=K5 hA (by omega);obtain⟨r3,r4⟩:=K5 hB (by omega);have bA:=Be hA;have bB:=Be hB;have uA:AA 0 A<(10:Int)^(6000:Nat):=zt bA.2 (AK (by decide) (by omega));have uB:AA 0 B<(10:Int)^(6000:Nat):=zt bB.2 (AK (by decide) (by omega));have e1:C9 A=Cx (AA 0 A):=by unfold C9;rw[r2]
  have e2:De A=Cw (AA 0 A):=by unfold De;rw[r2]
  have e3:C9 B=Cx (AA 0 B):=by unfold C9;rw[r4]
  have e4:De B=Cw (AA 0 B):=by unfold De;rw[r4]
  have g1:Mt (Cx (AA 0 A),Cw (AA 0 A)) (Cx (AA 0 B),Cw (AA 0 B))=Cx (jl (AA 0 A) (AA 0 B)):=by
   unfold Mt;rw[J7,J7]
  have g2:MX (Cx (AA 0 A),Cw (AA 0 A)) (Cx (AA 0 B),Cw (AA 0 B))=Cw (jl (AA 0 A) (AA 0 B)):=by
   unfold MX;rw[J7,J7]
  obtain⟨l1,l2⟩:=rY bA.1 bB.1 uA uB;have ec:iP (Cx (jl (AA 0 A) (AA 0 B)),Cw (jl (AA 0 A) (AA 0 B))) ((1:Int),Ck (1:Int))=Ci (jl (AA 0 A) (AA 0 B)) 1:=by
   unfold iP;rw[J7,Eb,Eu]
  rw[e1,e2,e3,e4,g1,g2,ec];have j1:Ba ((1:Int),Ck (1:Int))=true:=by rw[Eb];decide
  refine zc r1 (zc r3 (zc (Aa (Fv (F4 bA.1 uA)) (Fv (F4 bB.1 uB))) (zc rfl (zc (Aa (Fv (F4 l1 l2)) j1) ?_))));refine zj (zB ..) (zc rfl (zf ?_));generalize jl (AA 0 A) (AA 0 B)=g at*;have:Ku (Ci g 1 !=0) 1=if br=true/\g≠1 then 1 else 0:=by
   unfold Ci Ku;by_cases h:g=1
   ·subst h;rw[c];rfl
   ·have x3:(if br=true/\g≠1 then(1:Int)else 0)=1:=wd ⟨c,h⟩;rw[x3];rcases Int.lt_or_gt_of_ne h with q|q
    ·rw[wd q];rfl
    ·rw[wc (by omega),wd q];rfl
  rw[this];exact hq _
 ·refine zj vL (zc rfl (zf ?_));rw[wc (by rw[c];simp)]at hq;exact hq _
theorem Cj(A B:List UInt8)(br form c d:Bool)(hc:c= !form)(hd:d=true↔600<A.length\/600<B.length)(hf:form=true->Aj A=true/\(br=true->Aj B=true))(hq:∀ob,Q (.dat i64 (E A B br form)) ob):Ends Mm (L7 A B br (kc [Ku c 1,Ku d 4])) Q:=by
 subst hc;unfold E at hq;cases form with
 |false=>
  refine zj (EP ..) (zc ?_ (zf (hq _)));cases d<;>rfl
 |true=>
  rw[wc (by decide)]at hq;cases d with
  |true=>
   rw[wd (hd.1 rfl)]at hq;exact zj (EP ..) (zc rfl (zf (hq _)))
  |false=>
   have hn:¬(600<A.length\/600<B.length):=fun h=>by have:=hd.2 h;cases this
   rw[wc hn]at hq;obtain⟨f1,f2⟩:=hf rfl;exact zj (EP ..) (zn rfl (Fb A B br f1 f2 (by omega) (by omega) hq))
theorem BU(A B:List UInt8)(br form:Bool)(hf:form=true->Aj A=true/\(br=true->Aj B=true))(hq:∀ob,Q (.dat i64 (E A B br form)) ob):Ends Mm (L4 A B br form) Q:=by
 refine zj (Cy ..) (zc rfl (zl (fun c=>zc rfl (zc rfl ?_)) (fun c=>zc rfl (zc rfl ?_))))
 ·have c:=w6 c;exact Cj A B br form _ _ rfl ⟨fun _=>.inl (by omega),fun _=>rfl⟩ hf hq
 ·have c:=w7 c;exact Cj A B br form _ _ rfl ⟨fun h=>.inr (by have:=w6 h;omega),fun h=>w4 (by omega)⟩ hf hq
theorem Ct(A B:List UInt8)(br:Bool)(hq:∀ob,Q (.dat i64 (E A B br false)) ob):Ends Mm (L5 A B br) Q:=by
 refine zj (EY ..) (zc rfl (zl (fun c=>zc rfl (zc rfl ?_)) (fun c=>zc rfl (zc rfl ?_))))
 ·have c:=w6 c;exact Cj A B br false _ _ rfl ⟨fun _=>.inl (by omega),fun _=>rfl⟩ (fun h=>by cases h) hq
 ·have c:=w7 c;exact Cj A B br false _ _ rfl ⟨fun h=>.inr (by have:=w6 h;omega),fun h=>w4 (by omega)⟩ (fun h=>by cases h) hq
theorem EB(A B:List UInt8)(br:Bool)(hf:Aj A=true/\(br=true->Aj B=true))(hq:∀ob,Q (.dat i64 (E A B br true)) ob):Ends Mm (L6 A B br) Q:=by
 refine zj (FU ..) (zc rfl (zl (fun c=>zc rfl (zc rfl ?_)) (fun c=>zc rfl (zc rfl ?_))))
 ·have c:=w6 c;exact Cj A B br true _ _ rfl ⟨fun _=>.inl (by omega),fun _=>rfl⟩ (fun _=>hf) hq
 ·have c:=w7 c;exact Cj A B br true _ _ rfl ⟨fun h=>.inr (by have:=w6 h;omega),fun h=>w4 (by omega)⟩ (fun _=>hf) hq
theorem S4{F:Tr}(A B:List UInt8)(br:Bool)(lB:B.length<=1000000)(hA:Aj A=true)(form:Bool)(hform:form=(!br||(AX B&&decide (B≠[48])&&decide (B≠[49]))))(hq:∀ob,Q (.dat i64 (E A B br form)) ob)
  (h:(br=true->Ends Mm (.ite (decide (B.length<=1000000)) (.ite (AX B) (.ite (!B==[(48:UInt8)]) (L4 A B br (!B==[(49:UInt8)])) (L5 A B br)) (L5 A B br)) .fail) Q)->(br=false->form=true)->Ends Mm F Q):Ends Mm F Q:=by
 refine h (fun hb=>zc (w4 lB) ?_) (fun hb=>by rw[hform,hb];rfl);rw[hb]at hform;refine zl (fun c=>zl (fun d=>?_) (fun d=>?_)) (fun c=>?_)
 ·have d:B≠[48]:=by simpa using d
  have e:form=(!B==[(49:UInt8)]):=by
   rw[hform,c,w4 d];by_cases h:B=[49]
   ·rw[h];rfl
   ·rw[w4 h];simp[h]
  rw[<-e];exact BU A B br form (fun _=>⟨hA,fun _=>(Hs c).2⟩) hq
 ·have d:B=[48]:=by simpa using d
  have e:form=false:=by rw[hform,w8 (fun h=>h d)];simp
  rw[e]at hq;exact Ct A B br hq
 ·have e:form=false:=by rw[hform,c];simp
  rw[e]at hq;exact Ct A B br hq
theorem C2(s:List UInt8):(Ay s).length<=s.length/\(zu s).length<=s.length:=by
 unfold Ay zu;cases s.findIdx? (fun x=>x==47)with
 |none=>simp
 |some i=>simp;omega
theorem Xj(s:List UInt8):(AZ s).length<=s.length:=by
 unfold AZ;split
 ·simp
 ·exact z7 _
theorem ok:Ag Bf 69 Fc:=by
 refine BY mP (fun(a:List UInt8) hl=>?_);have hl:a.length<=1000000:=w6 hl;have l1:=Xj a;obtain⟨l2,l3⟩:=C2 (AZ a);have hq:∀form,form=HJ a->∀ob,Ad Fc a (.dat i64 (E (Ay (AZ a)) (zu (AZ a)) (Bq (AZ a)) form)) ob:=by
  rintro form rfl ob;exact yp rfl rfl rfl
 have hfm:HJ a=(AX (Ay (AZ a))&&(!ke a||decide (Ay (AZ a)≠[48]))&&(!Bq (AZ a)||(AX (zu (AZ a))&&decide (zu (AZ a)≠[48])&&decide (zu (AZ a)≠[49])))):=rfl;refine yg (Ak a) (zc (Aa (w4 rfl) (w4 hl)) (zc (Aa (w4 rfl) (w4 (by omega))) (zc (w4 (by omega)) ?_)));generalize Ay (AZ a)=A at*;generalize zu (AZ a)=B at*;generalize Bq (AZ a)=br at*;refine zl (fun c=>?_) (fun c=>?_)
 ·have hA:=(Hs c).2;refine zl (fun d=>?_) (fun d=>?_)
  ·have ef:HJ a=(!br||(AX B&&decide (B≠[48])&&decide (B≠[49]))):=by rw[hfm,c,d];rfl
   refine S4 A B br (by omega) hA (HJ a) ef (hq _ rfl) (fun h1 h2=>zj (Ar ..) (zl h1 (fun e=>?_)));have h3:=h2 e;exact EB A B br ⟨hA,fun h=>by rw[e]at h;cases h⟩ (hq true h3.symm)
  ·by_cases hz:A=[48]
   ·have ef:HJ a=false:=by rw[hfm,d,w8 (fun h=>h hz)];simp
    have e8:(!A==[(48:UInt8)])=false:=by rw[hz];rfl
    rw[e8];refine zj (AV ..) (zl (fun e=>zn rfl (Ct A B br (hq false ef.symm))) (fun e=>BU A B br false (fun h=>by cases h) (hq false ef.symm)))
   ·have e8:(!A==[(48:UInt8)])=true:=by simp[hz]
    have ef:HJ a=(!br||(AX B&&decide (B≠[48])&&decide (B≠[49]))):=by rw[hfm,c,d,w4 hz];rfl
    rw[e8];refine S4 A B br (by omega) hA (HJ a) ef (hq _ rfl) (fun h1 h2=>zj (AV ..) (zl (fun e=>zc rfl (h1 e)) (fun e=>?_)));have h3:=h2 e;exact BU A B br true (fun _=>⟨hA,fun h=>by rw[e]at h;cases h⟩) (hq true h3.symm)
 ·have ef:HJ a=false:=by rw[hfm,c];simp
  exact zj (CF ..) (zl (fun e=>Ct A B br (hq false ef.symm)) (fun e=>Ct A B br (hq false ef.symm)))
end T69
theorem DR(c:UInt8)(r:List UInt8):Ay (c::r)=if c=47 then[]else c::Ay r:=by
 unfold Ay;rw[qt];by_cases h:c=47
 ·subst h;rfl
 ·rw[wc (by simpa using h),wc h];cases r.findIdx? (fun x=>x==47)<;>rfl
namespace T127
theorem Aq{Q:PV->Ob->Prop}(s:List UInt8)(hl:s.length<=1000000):∀(r:List UInt8) (i:Nat),s.drop i=r->i<=s.length->(∀ob,Q (.dat i64 (((i+(Ay r).length:Nat)):Int)) ob)->Ends Nw (L1 s i) Q
 |[],i,h,hi,hq=>by
  have he:i=s.length:=drop_nil h hi;subst he;exact zj (Ar ..) (zn (by simp) (zf (hq _)))
 |c::r,i,h,hi,hq=>by
  obtain⟨h1,h2,h3⟩:=drop_cons (d:=0) h;have e3:ze .i64 ((i:Int)+1)=((i+1:Nat):Int):=by rw[wr _ (by omega) (by omega)];omega
  rw[DR]at hq;refine zj (Ar ..) (zc (by simp;omega) ?_);rw[zg,h2,e3];refine zc (by simp;omega) (zl (fun d=>?_) (fun d=>?_))
  ·have hc:c=47:=by
    have:(c.toNat:Int)=47:=by simpa using d
    exact yk.1 (by show _=47;omega)
   rw[wd hc]at hq;exact zf (hq _)
  ·have hc:c≠47:=by rintro rfl;exact wh d (by decide)
   rw[wc hc]at hq;refine Aq s hl r (i+1) h3 h1 (fun ob=>?_);have:=hq ob;rw[zy]at this;rw[show i+1+(Ay r).length=i+((Ay r).length+1)by omega];exact this
theorem ok:Ag Bf 127 Mh:=by
 refine BY E9 (fun(s:List UInt8) hl=>?_);have hl:s.length<=1000000:=w6 hl;refine yg (Ak s) (Aq s hl s 0 rfl (yt _) (fun ob=>yp rfl rfl ?_));rw[Nat.zero_add];rfl
end T127
namespace T128
variable {Q:PV->Ob->Prop}
theorem Ui{s:List UInt8}{r:List UInt8}{c:UInt8}{i:Nat}(h:s.drop i=c::r):Aj (s.drop i)=(BO c&&Aj (s.drop (i+1))):=by
 obtain⟨_,_,h3⟩:=drop_cons (d:=0) h;rw[h3,h];rfl
theorem Aq(s:List UInt8)(hl:s.length<=1000000):∀(r:List UInt8) (i:Nat),s.drop i=r->i<=s.length->(∀ob,Q (.bl (Aj (s.drop i))) ob)->Ends Nw (L1 s s i) Q
 |[],i,h,hi,hq=>by
  have he:i=s.length:=drop_nil h hi;rw[h]at hq;subst he;exact zj (Ar ..) (zn (by simp) (zf (hq _)))
 |c::r,i,h,hi,hq=>by
  obtain⟨h1,h2,h3⟩:=drop_cons (d:=0) h;have e3:ze .i64 ((i:Int)+1)=((i+1:Nat):Int):=by rw[wr _ (by omega) (by omega)];omega
  rw[Ui h]at hq;refine zj (Ar ..) (zc (by simp;omega) ?_);rw[zg,h2,e3];refine zc (by simp;omega) (zl (fun d=>?_) (fun d=>zc (by simp;omega) (zl (fun e=>?_) (fun e=>?_))))
  ·have d:=w6 d;have hn:BO c=false:=by unfold BO;rw[w8 (by omega)];rfl
   rw[hn]at hq;exact zf (hq _)
  ·have e:=w6 e;have hn:BO c=false:=by unfold BO;rw[w8 (p:=c.toNat<=57) (by omega),Bool.and_false]
   rw[hn]at hq;exact zf (hq _)
  ·have d:=w7 d;have e:=w7 e;have hn:BO c=true:=by unfold BO;exact Aa (w4 (by omega)) (w4 (by omega))
   rw[hn,yw]at hq;exact Aq s hl r (i+1) h3 h1 hq
theorem A4(s:List UInt8)(hl:s.length<=1000000):∀(r:List UInt8) (i:Nat),s.drop i=r->i<=s.length->(∀ob,Q (.bl (Aj (s.drop i))) ob)->Ends Nw (L2 s s i) Q
 |[],i,h,hi,hq=>by
  have he:i=s.length:=drop_nil h hi;rw[h]at hq;subst he;exact zj (AV ..) (zn (by simp) (zf (hq _)))
 |c::r,i,h,hi,hq=>by
  obtain⟨h1,h2,h3⟩:=drop_cons (d:=0) h;have e3:ze .i64 ((i:Int)+1)=((i+1:Nat):Int):=by rw[wr _ (by omega) (by omega)];omega
  rw[Ui h]at hq;refine zj (AV ..) (zc (by simp;omega) ?_);rw[zg,h2,e3];refine zc (by simp;omega) (zl (fun d=>?_) (fun d=>zc (by simp;omega) (zl (fun e=>?_) (fun e=>?_))))
  ·have d:=w6 d;have hn:BO c=false:=by unfold BO;rw[w8 (by omega)];rfl
   rw[hn]at hq;exact zf (hq _)
  ·have e:=w6 e;have hn:BO c=false:=by unfold BO;rw[w8 (p:=c.toNat<=57) (by omega),Bool.and_false]
   rw[hn]at hq;exact zf (hq _)
  ·have d:=w7 d;have e:=w7 e;have hn:BO c=true:=by unfold BO;exact Aa (w4 (by omega)) (w4 (by omega))
   rw[hn,yw]at hq;exact A4 s hl r (i+1) h3 h1 hq
theorem ok:Ag Bf 128 LZ:=by
 refine BY E9 (fun(s:List UInt8) hl=>?_);have hl:s.length<=1000000:=w6 hl;have hq:∀b ob,b=AX s->Ad LZ s (.bl b) ob:=fun b ob hb=>yp rfl rfl hb
 refine yg (Ak s) ?_;conv=>zeta
 cases s with
 |nil=>exact zc rfl (zf (hq _ _ rfl))
 |cons c r=>
  have g0:(c::r).getD 0 0=c:=rfl;rw[g0];refine zn (by simp;omega) (zl (fun d=>zc (by simp) (zl (fun e=>zf (hq _ _ ?_)) (fun e=>?_))) (fun d=>?_))
  ·have d:=w6 d;have hc:c=48:=by
    have:(c.toNat:Int)=48:=by simpa using e
    exact yk.1 (by show _=48;omega)
   have hr:r≠[]:=by rintro rfl;simp at d
   unfold AX;rw[g0,w8 (p:=c≠48) (fun h=>h hc),w8 (p:=c::r=[48]) (by intro h;simp at h;exact hr h.2)];simp
  ·have hc:c≠48:=by rintro rfl;exact wh e (by decide)
   refine Aq (c::r) hl (c::r) 0 rfl (yt _) (fun ob=>hq _ _ ?_);unfold AX;rw[g0,w4 hc];simp
  ·have d:=w7 d;have hr:r=[]:=by
    have:r.length=0:=by simp at d;omega
    exact yf.1 this
   subst hr;refine A4 [c] hl [c] 0 rfl (yt _) (fun ob=>hq _ _ ?_);unfold AX;rw[g0];by_cases hc:c=48
   ·subst hc;rfl
   ·rw[w4 hc];simp
end T128
theorem pA:DQ sI:=Ab T159.ok AQ
namespace T152
variable {Q:PV->Ob->Prop}
theorem Pd{v:Int}(hv: -9223372036854775808<=v/\v<9223372036854775808):∃q d:Nat,Ae v=d+1000000000*q/\d<1000000000/\ze .i64 (Int.tdiv v 1000000000)=(if v<0 then -(q:Int)else q)/\Int.tmod v 1000000000=(if v<0 then -(d:Int)else d):=by
 refine⟨v.natAbs/1000000000,v.natAbs % 1000000000,by rw[Ah];omega,by omega,?_,?_⟩
 ·by_cases h:v<0
  ·have:=Int.neg_tdiv (-v) 1000000000;rw[Int.neg_neg]at this;rw[this,qu (by omega),wd h,wr _ (by omega) (by omega)];omega
  ·rw[qu (by omega),wc h,wr _ (by omega) (by omega)];omega
 ·by_cases h:v<0
  ·have:=Int.neg_tmod (-v) 1000000000;rw[Int.neg_neg]at this;rw[this,qv (by omega),wd h];omega
  ·rw[qv (by omega),wc h];omega
theorem A4(neg:Bool)(D:Int)(hq:∀(w:List Int) ob,Av zx w->yu zx w=D->Q (.agg [.dat .bool (Cd neg w),.dat li (Au w)]) ob):∀(f:Nat) (v:Int) (o1:List Int),Ae v<f->(-9223372036854775808<=v/\v<9223372036854775808)->o1.length<=100->(Ae v≠0->Ae v*1000000000^o1.length<=9223372036854775808)->Av zx o1->yu zx o1+(zx:Int)^o1.length*Ae v=D->Ends sI (L2 v o1.length neg o1) Q
 |0,v,o1,hf,hv,ho,hb,hd,he=>by
  have:=AF v;omega
 |f+1,v,o1,hf,hv,ho,hb,hd,he=>by
  obtain⟨q,d,s1,s2,s3,s4⟩:=Pd hv;by_cases h0:v=0
  ·subst h0;have e0:Ae 0=0:=rfl;rw[e0,Int.mul_zero,Int.add_zero]at he;refine zj (AV ..) (zn rfl ?_);rw[yd];exact zc (by simp;omega) (zf (hq _ _ hd he))
  ·have hne:Ae v≠0:=by rw[Ah];omega
   have hbb:=hb hne;have ho10:o1.length<=10:=by
    rcases Nat.lt_or_ge 10 o1.length with g|g
    ·exfalso;have x1:(1000000000:Int)^11<=1000000000^o1.length:=AK (by decide) g;have x2:(9223372036854775808:Int)<1000000000^11:=by decide
     have x3:=ye (show 1<=Ae v by have:=AF v;omega) (show(0:Int)<=1000000000^o1.length by omega);omega
    ·exact g
   have eq:Ae (if v<0 then -(q:Int)else q)=q:=by rw[Ah];split<;>omega
   have go:Ends sI (L2 (if v<0 then -(q:Int)else q) (jh o1.length 1) neg (o1++[(d:Int)])) Q:=by
    have:=A4 neg D hq f (if v<0 then -(q:Int)else q) (o1++[(d:Int)]) (by rw[eq];omega) (by have:=Ah v;split<;>omega) (by simp;omega) (fun _=>by
     rw[eq,zk];show(q:Int)*1000000000^(o1.length+1)<=_;rw[yv, <-Int.mul_assoc,Int.mul_right_comm];have x1:=ye (show(q:Int)*1000000000<=Ae v by omega) (show(0:Int)<=1000000000^o1.length from zz (AN (by decide) _));omega) (EZ hd (by omega)) (by
     rw[eq,Cb,zk];show yu zx o1+(zx:Int)^o1.length*(d:Int)+(zx:Int)^(o1.length+1)*(q:Int)=D;rw[Jz,j7, <-Int.mul_add, <-he,s1])
    rw[zk]at this;exact this
   refine zj (AV ..) (zc (by simpa using h0) (zc rfl ?_));rw[s3,s4];refine zl (fun c=>zc (by simp;omega) (zc rfl ?_)) (fun c=>zc (by simp;omega) (zc rfl ?_))
   ·have c:=w6 c;have hn:v<0:=by split at c<;>omega
    rw[wd hn]at c;rw[wd hn,wd hn];rw[wd hn]at go;have e5:ze .i64 (0 - -(d:Int))=(d:Int):=by rw[wr _ (by omega) (by omega)];omega
    rw[e5];exact go
   ·have c:=w7 c;have e5:(if v<0 then -(d:Int)else(d:Int))=(d:Int):=by split at c<;>split<;>omega
    rw[e5];exact go
theorem ok:Ag Bf 152 Ja:=by
 refine BY pA (fun(v:Int) hv=>?_);have hv:=D4 (n:=v) hv;have fin:∀(w:List Int) ob,Av zx w->yu zx w=Ae v->Ad Ja v (.agg [.dat .bool (Cd (decide (v<0)) w),.dat li (Au w)]) ob:=by
  intro w ob hd hw;refine yp rfl rfl ?_;have:=LV (neg:=decide (v<0)) hd hw;have e:(if decide (v<0)=true then -Ae v else Ae v)=v:=by
   rw[Ah];by_cases h:v<0
   ·rw[wd (w4 h)];omega
   ·rw[wc (by simpa using h)];omega
  rw[e]at this;exact this
 obtain⟨q,d,s1,s2,s3,s4⟩:=Pd hv;have hn:=AF v;refine yg (Ak v) ?_;conv=>zeta
 by_cases h0:v=0
 ·subst h0;exact zj (Ar ..) (zn rfl (zc rfl (zf (fin [] _ (fun x hx=>by cases hx) rfl))))
 ·have eq:Ae (if v<0 then -(q:Int)else q)=q:=by rw[Ah];split<;>omega
  have go:Ends sI (L2 (if v<0 then -(q:Int)else q) 1 (decide (v<0)) [(d:Int)]) (Ad Ja v):=by
   refine A4 (decide (v<0)) (Ae v) fin (q+1) _ [(d:Int)] (by rw[eq];omega) (by have:=Ah v;split<;>omega) (by simp) (fun _=>?_) (fun x hx=>by rw[qw]at hx;subst hx;show 0<=_/\_<(1000000000:Int);omega) ?_
   ·rw[eq];show(q:Int)*1000000000^1<=_;have:=Ah v;omega
   ·rw[eq,D7,s1];show(d:Int)+(1000000000:Int)^1*(q:Int)=_;omega
  refine zj (Ar ..) (zc (by simpa using h0) (zc rfl ?_));rw[s3,s4];refine zl (fun c=>zc rfl (zc rfl ?_)) (fun c=>zc rfl (zc rfl ?_))
  ·have c:=w6 c;have hn:v<0:=by split at c<;>omega
   rw[wd hn]at c;rw[wd hn,wd hn];rw[wd hn]at go;have e5:ze .i64 (0 - -(d:Int))=(d:Int):=by rw[wr _ (by omega) (by omega)];omega
   rw[e5];exact go
  ·have c:=w7 c;have e5:(if v<0 then -(d:Int)else(d:Int))=(d:Int):=by split at c<;>split<;>omega
   rw[e5];exact go
end T152
theorem pP:DQ XK3:=Ab T127.ok (Ab T155.ok (Ab T152.ok AQ))
theorem BN:∀(s:List UInt8),Ay s=s.take (Ay s).length/\(Bq s=true->(Ay s).length<s.length/\zu s=s.drop ((Ay s).length+1))/\(Bq s=false->Ay s=s/\zu s=[])
 |[]=>⟨rfl,(fun h=>(by cases h)),fun _=>⟨rfl,rfl⟩⟩
 |c::r=>by
  obtain⟨h1,h2,h3⟩:=BN r;have hB:zu (c::r)=if c=47 then r else zu r:=by
   unfold zu;rw[qt];by_cases h:c=47
   ·subst h;rfl
   ·rw[wc (by simpa using h),wc h];cases r.findIdx? (fun x=>x==47)<;>rfl
  have hC:Bq (c::r)=(decide (c=47)||Bq r):=by
   unfold Bq;rw[List.any_cons];congr 1
  rw[DR,hB,hC];by_cases h:c=47
  ·rw[wd h,wd h,w4 h];exact⟨rfl,(fun _=>⟨by simp,rfl⟩),fun h=>by cases h⟩
  ·rw[wc h,wc h,w8 h];refine⟨?_,fun g=>?_,fun g=>?_⟩
   ·rw[zy,List.take_succ_cons, <-h1]
   ·obtain⟨k1,k2⟩:=h2 g;refine⟨by simp;omega,?_⟩;rw[zy,List.drop_succ_cons];exact k2
   ·obtain⟨k1,k2⟩:=h3 g;exact⟨by rw[k1],k2⟩
theorem T82.ok:Ag Bf 82 RV:=by
 refine BY pP (fun(a:List UInt8) ha=>?_);have ha:(Ei (Ay a)&&Ei (zu a)&&decide (a.length<=5999))=true:=ha;rw[zd,zd,w5]at ha;obtain⟨⟨ra,rb⟩,hl⟩:=ha;obtain⟨c1,c2,c3⟩:=BN a;have es:A0 a=((Ay a).length:Int):=rfl;have hle:(Ay a).length<=a.length:=(T69.C2 a).1;refine yg (T82.Ak a) (zc (w4 (by omega)) (zl (fun c=>?_) (fun c=>?_)))
 ·have c:(Ay a).length=a.length:=by
   have:((Ay a).length:Int)=(a.length:Int):=by simpa [es]using c
   omega
  have hc:Bq a=false:=by
   cases h:Bq a with
   |false=>rfl
   |true=>have:=(c2 h).1;omega
  obtain⟨k1,k2⟩:=c3 hc;rw[k1]at ra;refine zc ra (zc rfl (zf (yp rfl rfl ?_)));show((EV a,ES a),(false,Sp.rW 1))=((BB a,Bu a),(Bj a,Bg a));unfold BB Bu Bj Bg A6 AH EV ES;rw[k1,hc];rfl
 ·have hlt:(Ay a).length<a.length:=by
   have:((Ay a).length:Int)≠(a.length:Int):=by simpa [es]using c
   omega
  have hc:Bq a=true:=by
   cases h:Bq a with
   |true=>rfl
   |false=>have:=(c3 h).1;rw[this]at hlt;omega
  obtain⟨k1,k2⟩:=c2 hc;have e1:ze .i64 (((Ay a).length:Int)+1)=(((Ay a).length+1:Nat):Int):=by rw[wr _ (by omega) (by omega)];omega
  have e2:(a.drop ((Ay a).length+1)).take (qh a.length ((Ay a).length+1))=a.drop ((Ay a).length+1):=zm (by rw[zh];exact z7 _);rw[es,e1,zg,zg,e2, <-c1, <-k2];refine zc (by simp;omega) (zc (by simp;omega) (zc ra (zc rb (zf (yp rfl rfl ?_)))));show((EV (Ay a),ES (Ay a)),(EV (zu a),ES (zu a)))=((BB a,Bu a),(Bj a,Bg a));unfold BB Bu Bj Bg A6 AH EV ES;rw[hc];rfl
theorem kS:DQ Uh:=Ab T127.ok (Ab T128.ok (Ab T82.ok (Ab T129.ok AQ)))
namespace T51
variable {Q:PV->Ob->Prop}
theorem pM{g:Int}(h0:0<=g):BQ g=[1]↔g=1:=by
 constructor
 ·intro h;have:=CQ (b:=zx) (by decide) h0;have h:Sp.dg zx g=[1]:=h;rw[h]at this;rw[<-this];rfl
 ·rintro rfl;rfl
theorem BU(s:List UInt8)(hA:Aj (Ay s)=true)(hB:Bq s=true->Aj (zu s)=true)(lA:(Ay s).length<=600)(lB:(zu s).length<=600)(hl:s.length<=5999)
  (hq:∀ob,Q (.dat i64 (if Bq s=true/\jl (AA 0 (Ay s)) (AA 0 (zu s))≠1 then 1 else 0)) ob):Ends Uh (L4 s (A0 s)) Q:=by
 obtain⟨c1,c2,c3⟩:=BN s;have es:A0 s=((Ay s).length:Int):=rfl;refine zj (Cy ..) ?_;conv=>zeta
 rw[es];refine zl (fun c=>?_) (fun c=>?_)
 ·have c:=w6 c;have hc:Bq s=true:=by
   cases h:Bq s with
   |true=>rfl
   |false=>have:=(c3 h).1;rw[this]at c;omega
  have hB:=hB hc;obtain⟨r1,r2⟩:=K5 hA (by omega);obtain⟨r3,r4⟩:=K5 hB (by omega);have bA:=Be hA;have bB:=Be hB;have tR:∀k:Nat,(10:Int)^k<=(zx:Int)^k:=by
   intro k;induction k with
   |zero=>exact jo _
   |succ k ih=>
    rw[yv,yv];have h1:=ye ih (show(0:Int)<=10 by decide);have h2:=zr (show(10:Int)<=(zx:Int)by decide) (zz (AN (b:=zx) (by decide) k));exact qm h1 h2
  have uA:AA 0 (Ay s)<(zx:Int)^600:=zt bA.2 (qm (tR _) (AK (by decide) lA));have uB:AA 0 (zu s)<(zx:Int)^600:=zt bB.2 (qm (tR _) (AK (by decide) lB));have e1:Bu s=BQ (AA 0 (Ay s)):=by
   unfold Bu A6 Sp.rW;rw[r2,show Ae (AA 0 (Ay s))=AA 0 (Ay s)by rw[Ah];omega]
  have e2:Bg s=BQ (AA 0 (zu s)):=by
   unfold Bg AH Sp.rW;rw[wd hc,r4,show Ae (AA 0 (zu s))=AA 0 (zu s)by rw[Ah];omega]
  obtain⟨n1,_,v1,l1⟩:=GI (k:=600) bA.1 uA (by decide);obtain⟨n2,_,v2,l2⟩:=GI (k:=600) bB.1 uB (by decide);have rat:Dd s=true:=by
   unfold Dd;rw[r1,r3];exact w4 hl
  rw[e1,e2];refine zc rat (zj (EY ..) (zc (Aa (Aa (Aa n1 n2) (w4 (by omega))) (w4 (by omega))) ?_));have ec:Cm (BQ (AA 0 (Ay s))) (BQ (AA 0 (zu s)))=BQ (jl (AA 0 (Ay s)) (AA 0 (zu s))):=by
   unfold Cm;rw[v1,v2]
  rw[ec];obtain⟨g0,_⟩:=rY bA.1 bB.1 uA uB;generalize jl (AA 0 (Ay s)) (AA 0 (zu s))=g at*;have h1:=pM g0;by_cases h:g=1
  ·rw[wc (fun x=>x.2 h)]at hq;rw[h1.2 h];exact zj (FU ..) (zn rfl (zc rfl (zn rfl (zf (hq _)))))
  ·rw[wd ⟨hc,h⟩]at hq;have hne:BQ g≠[1]:=fun x=>h (h1.1 x)
   refine zj (FU ..) (zl (fun d=>zf (hq _)) (fun d=>?_));have d:(BQ g).length=1:=by
    have:((BQ g).length:Int)=1:=by simpa using d
    omega
   obtain⟨x,hx⟩:=List.length_eq_one_iff.1 d;rw[hx]at hne ⊢;have hx1:x≠1:=fun e=>hne (by rw[e])
   exact zc rfl (zc (by simpa using hx1) (zf (hq _)))
 ·have c:=w7 c;have hc:Bq s=false:=by
   cases h:Bq s with
   |false=>rfl
   |true=>have:=(c2 h).1;omega
  rw[wc (fun x=>by rw[hc]at x;cases x.1)]at hq;exact zf (hq _)
theorem A4(s:List UInt8)(hA:Aj (Ay s)=true)(hl:s.length<=1000000)(hq:∀ob,Q (.dat i64 (T69.E (Ay s) (zu s) (Bq s) (!Bq s||(AX (zu s)&&decide (zu s≠[48])&&decide (zu s≠[49]))))) ob):Ends Uh (L2 s (A0 s)) Q:=by
 obtain⟨c1,c2,c3⟩:=BN s;have es:A0 s=((Ay s).length:Int):=rfl;have hle:=T69.C2 s;have big:(Bq s=true->Aj (zu s)=true)->(∀ob,Q (.dat i64 (T69.E (Ay s) (zu s) (Bq s) true)) ob)->Ends Uh (L3 s (A0 s)) Q:=by
  intro hB hq;unfold T69.E at hq;rw[wc (by decide)]at hq;have hlen:s.length=(Ay s).length+(if Bq s=true then 1+(zu s).length else 0):=by
   cases h:Bq s with
   |true=>obtain⟨k1,k2⟩:=c2 h;rw[wd rfl,k2,zh];omega
   |false=>obtain⟨k1,k2⟩:=c3 h;rw[wc (by decide),k1];rfl
  have hB0:Bq s=false->(zu s).length=0:=fun h=>by rw[(c3 h).2];rfl
  refine zj (CF ..) ?_;conv=>zeta
  rw[es,wr ((s.length:Int)-((Ay s).length:Int)) (by omega) (by omega),wr _ (by omega) (by omega)];refine zl (fun c=>?_) (fun c=>zl (fun d=>?_) (fun d=>?_))
  ·have c:=w6 c;rw[wd (.inl (by omega))]at hq;exact zf (hq _)
  ·have c:=w7 c;have d:=w6 d;have:600<(zu s).length:=by split at hlen<;>omega
   rw[wd (.inr this)]at hq;exact zf (hq _)
  ·have c:=w7 c;have d:=w7 d;have hb:(zu s).length<=600:=by
    cases h:Bq s with
    |true=>rw[h,wd rfl]at hlen;omega
    |false=>have:=hB0 h;omega
   rw[wc (by omega)]at hq;exact BU s hA hB (by omega) hb (by split at hlen<;>omega) hq
 refine zj (AV ..) ?_;conv=>zeta
 cases hc:Bq s with
 |false=>
  rw[hc]at hq;have hn:¬(A0 s<(s.length:Int)):=by rw[es,(c3 hc).1];omega
  exact zn (w8 hn) (big (fun h=>by rw[hc]at h;cases h) (by rw[hc];exact hq))
 |true=>
  rw[hc]at hq;obtain⟨k1,k2⟩:=c2 hc;have e1:ze .i64 (((Ay s).length:Int)+1)=(((Ay s).length+1:Nat):Int):=by rw[wr _ (by omega) (by omega)];omega
  have e2:(s.drop ((Ay s).length+1)).take (qh s.length ((Ay s).length+1))=s.drop ((Ay s).length+1):=zm (by rw[zh];exact z7 _);rw[es,e1,zg,e2, <-k2];rw[es]at big;have bad:(!true||(AX (zu s)&&decide (zu s≠[48])&&decide (zu s≠[49])))=false->∀ob,Q (.dat i64 1) ob:=by
   intro h ob;have:=hq ob;rw[h]at this;exact this
  refine zc (by simp;omega) (zc (by simp;omega) (zc (w4 (by omega)) (zl (fun d=>zf (bad ?_ _)) (fun d=>zc (by simp;omega) (zl (fun e=>zf (bad ?_ _)) (fun e=>zc (by simp;omega) (zl (fun f=>zf (bad ?_ _)) (fun f=>?_))))))))
  ·have d:AX (zu s)=false:=by simpa using d
   rw[d];rfl
  ·have e:zu s=[48]:=by simpa using e
   rw[w8 (p:=zu s≠[48]) (fun h=>h e)];simp
  ·have f:zu s=[49]:=by simpa using f
   rw[w8 (p:=zu s≠[49]) (fun h=>h f)];simp
  ·have d:AX (zu s)=true:=by simpa using d
   have e:zu s≠[48]:=by simpa using e
   have f:zu s≠[49]:=by simpa using f
   rw[d,w4 e,w4 f]at hq;exact big (fun _=>(Hs d).2) (by rw[hc];exact hq)
theorem Aq(a s:List UInt8)(hs:s=AZ a)(hl:a.length<=1000000)(hq:∀ob,Q (.dat i64 (AG a)) ob):Ends Uh (L1 a s) Q:=by
 obtain⟨c1,c2,c3⟩:=BN s;have es:A0 s=((Ay s).length:Int):=rfl;have hsl:s.length<=a.length:=by rw[hs];exact T69.Xj a
 have hle:=T69.C2 s;have hE:AG a=T69.E (Ay s) (zu s) (Bq s) (AX (Ay s)&&(!ke a||decide (Ay s≠[48]))&&(!Bq s||(AX (zu s)&&decide (zu s≠[48])&&decide (zu s≠[49])))):=by rw[hs];rfl
 rw[hE]at hq;have tk:s.take (Ay s).length=Ay s:=c1.symm;refine zj (Ar ..) ?_;conv=>zeta
 rw[show A0 s=((Ay s).length:Int)from rfl,zg,tk];refine zc (w4 (by omega)) (zc (by simp;omega) (zc (w4 (by omega)) (zl (fun d=>?_) (fun d=>?_))))
 ·have d:AX (Ay s)=false:=by simpa using d
  rw[d]at hq;exact zf (hq _)
 ·have d:AX (Ay s)=true:=by simpa using d
  have hA:=(Hs d).2;have hne:a.length≠0:=by
   intro h;have h:=yf.1 h;have:s=[]:=by rw[hs,h];rfl
   rw[this]at d;exact wh d (by decide)
  rw[d,yw]at hq;refine zc (w4 (by omega)) (zl (fun e=>zc (by simp;omega) (zl (fun f=>?_) (fun f=>?_))) (fun e=>?_))
  ·have hp:ke a=true:=by
    unfold ke;refine w4 (yk.1 ?_);have:((a.getD 0 0).toNat:Int)=45:=by simpa using e
    show _=45;omega
   have f:Ay s=[48]:=by simpa using f
   rw[hp,w8 (p:=Ay s≠[48]) (fun h=>h f)]at hq;exact zf (hq _)
  ·have f:Ay s≠[48]:=by simpa using f
   rw[w4 f,Bool.or_true,yw]at hq;exact A4 s hA (by omega) hq
  ·have hp:ke a=false:=by
    unfold ke;refine w8 (fun h=>?_);rw[h]at e;exact wh e (by decide)
   rw[hp,Bool.not_false,Bool.true_or,yw]at hq;exact A4 s hA (by omega) hq
theorem ok:Ag Bf 51 Fc:=by
 refine BY kS (fun(a:List UInt8) hl=>?_);have hl:a.length<=1000000:=w6 hl;have hq:∀ob,Ad Fc a (.dat i64 (AG a)) ob:=fun ob=>yp rfl rfl rfl
 refine yg (Ak a) ?_;conv=>zeta
 cases a with
 |nil=>exact zn rfl (Aq [] [] rfl hl hq)
 |cons c r=>
  have g0:(c::r).getD 0 0=c:=rfl;rw[g0];refine zc (by simp) (zc (by simp) (zl (fun d=>zc (by simp) ?_) (fun d=>?_)))
  ·have hc:c=45:=by
    have:(c.toNat:Int)=45:=by simpa using d
    exact yk.1 (by show _=45;omega)
   have e:(List.drop 1 (c::r)).take (qh (c::r).length 1)=r:=by show r.take ((r.length+1)-1)=r;rw[qp];exact yd
   rw[e];exact Aq (c::r) r (by unfold AZ;rw[g0,wd hc];rfl) hl hq
  ·have hc:c≠45:=by rintro rfl;exact wh d (by decide)
   exact Aq (c::r) (c::r) (by unfold AZ;rw[g0,wc hc]) hl hq
end T51
theorem II:DQ rF:=
 Ab T137.ok (Ab T171.ok (Ab T197.ok (Ab T144.ok (Ab T121n.ok (Ab T146.ok (Ab T136.ok (Ab T120.ok (Ab T131.ok (Ab T132.ok AQ)))))))))
theorem IJ{a:AU}(h:TV a=true):Ba a=true/\Ae (zi a)<(Ai:Int)^4000:=by
 unfold TV at h;rw[zd,w5]at h;refine⟨?_,Ia h.1 h.2 (by decide)⟩;unfold Ba;exact Aa h.1 (w4 (by omega))
theorem Gj{x y:Int}(hx:Ae x<(Ai:Int)^4000)(hy:Ae y<(Ai:Int)^4000):Ae (x*y)<(Ai:Int)^8000:=by
 rw[IZ];have h0:=AF x;have hp:=AN (b:=Ai) (by decide) 4000;have a1:=zr (zz hy) h0;have a2:=Int.mul_lt_mul_of_pos_right hx hp;have a3:(Ai:Int)^4000*(Ai:Int)^4000=(Ai:Int)^8000:=(Int.pow_add _ 4000 4000).symm;rw[a3]at a2;exact z6 a1 a2
theorem AaB{x:Int}(h:x<(Ai:Int)^8000):x<(Ai:Int)^9000:=zt h (AK (by decide) (by decide))
theorem kK{x y:Int}(hx:Ae x<(Ai:Int)^4000)(hy:Ae y<(Ai:Int)^4000):Ba (CD (x*y))=true:=DE (AaB (Gj hx hy))
theorem yQ{a b:AU}(ha:Ba a=true)(hb:Ba b=true)(h:Ae (zi a+zi b)<(Ai:Int)^9000):Ba (Em a b)=true:=by
 have h1:=SH ha hb;unfold Em at h1 ⊢;split
 ·rename_i c;rw[wd c]at h1;unfold Ba;exact Aa h1 rfl
 ·exact DE h
theorem qO(n:Nat):(2:Int)*(Ai:Int)^n<=(Ai:Int)^(n+1):=by
 rw[yv,ql];exact zr (by decide) (zz (AN (b:=Ai) (by decide) n))
theorem eO{x y:Int}(hx:Ae x<(Ai:Int)^8000)(hy:Ae y<(Ai:Int)^8000):Ae (x+y)<(Ai:Int)^9000:=by
 have h2:=qO 8000;have h3:(Ai:Int)^8001<=(Ai:Int)^9000:=AK (by decide) (by decide);have h2:(2:Int)*(Ai:Int)^8000<=(Ai:Int)^8001:=h2;generalize (Ai:Int)^8000=p at*;generalize (Ai:Int)^8001=q at*;generalize (Ai:Int)^9000=r at*;rw[Ah]at*;omega
theorem Uf(a:AU):decide (HG a<0)=decide (zi a<0):=by
 unfold HG Sp.P8;rw[Bool.eq_iff_iff,w5,w5];split
 ·omega
 ·split<;>omega
theorem WJ{n d:AU}(h:L0 n d=true):Ba n=true/\Ba d=true/\zi d≠0:=by
 unfold L0 at h;rw[zd,zd,w5]at h;exact⟨h.1.1,h.1.2,h.2⟩
theorem T59.ok:Ag Bf 59 iN:=by
 refine BY II (fun(a:List UInt8) ha=>?_);have ha:(Ei (Ay a)&&Ei (zu a)&&decide (a.length<=5999))=true:=ha;rw[zd,zd,w5]at ha;obtain⟨⟨ra,rb⟩,hl⟩:=ha;refine yg (T59.Ak a) (zc (Aa (w4 rfl) (w4 (by omega))) (zl (fun c=>zc ra (zc rfl (zf (yp rfl rfl ?_)))) (fun c=>zc ra (zc rb (zf (yp rfl rfl ?_))))))
 ·have c:Bq a=false:=by simpa using c
  show((C9 (Ay a),De (Ay a)),((1:Int),Ck 1))=((Mc a,Po a),(J3 a,LQ a));unfold J3 LQ AH;rw[c,Nq];rfl
 ·have c:Bq a=true:=by simpa using c
  show((C9 (Ay a),De (Ay a)),(C9 (zu a),De (zu a)))=((Mc a,Po a),(J3 a,LQ a));unfold J3 LQ AH;rw[c];rfl
theorem T186.ok:Ag Bf 186 cIQ:=by
 refine BY II (fun(i:(Int×List Int)×(Int×List Int)) hi=>?_);obtain⟨a,b⟩:=i;obtain⟨ha,hb,h0⟩:=WJ (n:=a) (d:=b) hi;refine yg (T186.Ak a b) (zc (BV hb).1 ?_);rw[Uf];refine zl (fun c=>zc (BV ha).1 (zc (BV hb).1 (zj (T186.Ar ..) (zc ?_ (zf (yp rfl rfl ?_)))))) (fun c=>zj (T186.Ar ..) (zc ?_ (zf (yp rfl rfl ?_))))
 ·have c:zi b<0:=w6 c;have:=Iu b;exact Aa (Aa (Uz ha) (Uz hb)) (w4 (by show 0<zi (C4 b);omega))
 ·have c:zi b<0:=w6 c;show Hr (C4 a) (C4 b)=Sp.iQ a b;unfold Sp.iQ;rw[wd c]
 ·have c:¬zi b<0:=w7 c;exact Aa (Aa ha hb) (w4 (by show 0<zi b;omega))
 ·have c:¬zi b<0:=w7 c;show Hr a b=Sp.iQ a b;unfold Sp.iQ;rw[wc c]
theorem lR:DQ vZ:=Ab T137.ok (Ab T171.ok (Ab T144.ok (Ab T186.ok AQ)))
theorem rP{n d:AU}(hd:Ba d=true)(h0:zi d≠0):Ba (Sp.gR n d)=true/\zi (Sp.gR n d)=(qn (zi n) (zi d):Int)/\0<zi (Sp.gR n d):=by
 have e:zi (Sp.gR n d)=(qn (zi n) (zi d):Int):=by
  show zi (Cx _,Cw _)=_;rw[J7,Gv]
 have hp:0<qn (zi n) (zi d):=Int.gcd_pos_of_ne_zero_right _ h0;refine⟨Fv (DE ?_),e,by rw[e];omega⟩;rw[Gv,Ah,zo];have hb:=bounds hd;rw[Ah]at hb;have hle:qn (zi n) (zi d)<=(zi d).natAbs:=Nat.gcd_le_right _ (by omega);omega
namespace T135
variable {Q:PV->Ob->Prop}
theorem Aq(z1 z2:Int)(n d:AU)(hn:Ba n=true)(hd:Ba d=true)(h0:zi d≠0)(hq:∀ob,Q (.agg [.dat i64 (M9 n d).1.1,.dat (.nlist u64) (M9 n d).1.2,.dat i64 (M9 n d).2.1,.dat (.nlist u64) (M9 n d).2.2]) ob):
  Ends vZ (L1 z1 z2 d.1 d.2 n.1 n.2) Q:=by
 obtain⟨g1,_,g3⟩:=rP (n:=n) hd h0;have next:CN d=false->Ends vZ (.ite (Ba (n.1,n.2)&&Ba (d.1,d.2)) (L2 (Mt (n.1,n.2) (d.1,d.2)) (MX (n.1,n.2) (d.1,d.2)) z1 z2 d.1 d.2 n.1 n.2) .fail) Q:=by
  intro ho;unfold M9 at hq;rw[wc (by rw[ho];decide)]at hq;have k:∀x:AU,Ba x=true->L0 x (Sp.gR n d)=true:=fun x hx=>by unfold L0;exact Aa (Aa hx g1) (w4 (by omega))
  exact zc (Aa hn hd) (zj (AV ..) (zc (k n hn) (zc (k d hd) (zf (hq _)))))
 refine zj (Ar ..) (zl (fun c=>zl (fun e=>zf ?_) (fun e=>next ?_)) (fun c=>next ?_))
 ·have c:d.2=[]:=by simpa using c
  have e:d.1=1:=by simpa using e
  unfold M9 at hq;rw[wd (by unfold CN;simp[c,e])]at hq;exact hq _
 ·unfold CN;rw[Bool.and_eq_false_iff];right;simpa using e
 ·unfold CN;rw[Bool.and_eq_false_iff];left;have:d.2≠[]:=by rintro k;rw[k]at c;simp at c
  simpa using this
theorem ok:Ag Bf 135 rA:=by
 refine BY lR (fun(i:(Int×List Int)×(Int×List Int)) hi=>?_);obtain⟨n,d⟩:=i;obtain⟨hn,hd,h0⟩:=WJ (n:=n) (d:=d) hi;have vn:=Iu d;refine yg (Ak n d) (zc (BV hd).1 ?_);rw[Uf];refine zl (fun c=>zc (BV hn).1 (zc (BV hd).1 (Aq 0 0 (C4 n) (C4 d) (Uz hn) (Uz hd) (by omega) (fun ob=>yp rfl rfl ?_)))) (fun c=>Aq 0 0 n d hn hd h0 (fun ob=>yp rfl rfl ?_))
 ·have c:zi d<0:=w6 c;show M9 (C4 n) (C4 d)=Xk n d;unfold Xk;rw[wd c]
 ·have c:¬zi d<0:=w7 c;show M9 n d=Xk n d;unfold Xk;rw[wc c]
end T135
theorem T145.ok:Ag Bf 145 PH:=by
 refine BY II (fun(a:(Int×List Int)×(Int×List Int)) _=>?_);refine yg (T145.Ak a) (zl (fun c=>zf (yp rfl rfl ?_)) (fun c=>zf (yp rfl rfl ?_)))
 ·have c:a.2.2=[]:=by simpa using c
  show(a.2.1==(1:Int))=CN a.2;unfold CN;rw[w4 c,yw];rfl
 ·have c:a.2.2≠[]:=by rintro k;rw[k]at c;simp at c
  show false=CN a.2;unfold CN;rw[w8 c,Bool.false_and]
theorem T130.ok:Ag Bf 130 dC:=by
 refine BY II (fun(a:Int×List Int) _=>?_);exact yg (T130.Ak a) (zc rfl (zf (yp rfl rfl rfl)))
theorem T134.ok:Ag Bf 134 rT:=by
 refine BY II (fun(a:(Int×List Int)×(Int×List Int)) h=>?_);exact yg (T134.Ak a) (zc h (zf (yp rfl rfl rfl)))
theorem Gr{a:An}(h:j8 a=true):Ba a.1=true/\Ba a.2=true/\Ae (zi a.1)<(Ai:Int)^4000/\Ae (zi a.2)<(Ai:Int)^4000/\0<zi a.2:=by
 unfold j8 Sp.E8 at h;rw[zd,zd,w5]at h;obtain⟨a1,b1⟩:=IJ h.1.1;obtain⟨a2,b2⟩:=IJ h.1.2;exact⟨a1,a2,b1,b2,h.2⟩
theorem Sd:DQ wM:=Ab T145.ok (Ab T130.ok (Ab T146.ok (Ab T136.ok (Ab T135.ok AQ))))
theorem RG{n d:AU}(hn:Ba n=true)(hd:Ba d=true)(h0:zi d≠0):L0 n d=true:=by
 unfold L0;exact Aa (Aa hn hd) (w4 h0)
theorem M5{a b:AU}(ha:Ae (zi a)<(Ai:Int)^4000)(hb:Ae (zi b)<(Ai:Int)^4000):Ba (FF a b)=true:=kK ha hb
theorem T64.ok:Ag Bf 64 X6:=by
 refine BY Sd (fun(i:((Int×List Int)×(Int×List Int))×((Int×List Int)×(Int×List Int))) hi=>?_);obtain⟨a,b⟩:=i;have hi:(j8 a&&j8 b)=true:=hi;rw[zd]at hi;obtain⟨a1,a2,la1,la2,a0⟩:=Gr hi.1;obtain⟨b1,b2,lb1,lb2,b0⟩:=Gr hi.2;have hd:zi (FF a.2 b.2)≠0:=by rw[D8];exact yh (je a0 b0)
 exact yg (T64.Ak a b) (zc (Aa a1 b1) (zc (Aa a2 b2) (zc (RG (M5 la1 lb1) (M5 la2 lb2) hd) (zf (yp rfl rfl rfl)))))
namespace T71
variable {Q:PV->Ob->Prop}
theorem Aq(z1 z2:Int)(a b:An)(ha:j8 a=true)(hb:j8 b=true)(hq:∀ob f,f=Xk (Em (FF a.1 b.2) (FF b.1 a.2)) (FF a.2 b.2)->Q (.agg [.dat i64 f.1.1,.dat (.nlist u64) f.1.2,.dat i64 f.2.1,.dat (.nlist u64) f.2.2]) ob):
  Ends wM (L1 z1 z2 b.1.1 b.1.2 b.2.1 b.2.2 a.1.1 a.1.2 a.2.1 a.2.2) Q:=by
 obtain⟨a1,a2,la1,la2,a0⟩:=Gr ha;obtain⟨b1,b2,lb1,lb2,b0⟩:=Gr hb;have hd:zi (FF a.2 b.2)≠0:=by rw[D8];exact yh (je a0 b0)
 have hs:Ba (Em (FF a.1 b.2) (FF b.1 a.2))=true:=yQ (M5 la1 lb2) (M5 lb1 la2) (by rw[D8,D8];exact eO (Gj la1 lb2) (Gj lb1 la2));exact zj (Ar ..) (zc (Aa a1 b2) (zc (Aa b1 a2) (zc (Aa (M5 la1 lb2) (M5 lb1 la2)) (zc (Aa a2 b2) (zc (RG hs (M5 la2 lb2) hd) (zf (hq _ _ rfl)))))))
theorem ok:Ag Bf 71 Uq:=by
 refine BY Sd (fun(i:((Int×List Int)×(Int×List Int))×((Int×List Int)×(Int×List Int))) hi=>?_);obtain⟨a,b⟩:=i;have hi:(j8 a&&j8 b)=true:=hi;rw[zd]at hi;obtain⟨a1,a2,la1,la2,a0⟩:=Gr hi.1;obtain⟨b1,b2,lb1,lb2,b0⟩:=Gr hi.2;have far:¬(CN a.2=true/\CN b.2=true)->Ends wM (L1 0 0 b.1.1 b.1.2 b.2.1 b.2.2 a.1.1 a.1.2 a.2.1 a.2.2) (Ad Uq (a,b)):=fun hn=>
  Aq 0 0 a b hi.1 hi.2 (fun ob f hf=>yp rfl rfl (by
   show f=Gs a b;unfold Gs;rw[wc hn];exact hf))
 refine yg (Ak a b) (zc rfl (zl (fun c=>zc rfl (zl (fun d=>zc (Aa a1 b1) (zc rfl (zf (yp rfl rfl ?_)))) (fun d=>far (fun k=>by have:=k.2;rw[show CN b.2=false from d]at this;cases this)))) (fun c=>far (fun k=>by have:=k.1;rw[show CN a.2=false from c]at this;cases this))));show Sp.fWh (Em a.1 b.1)=Gs a b;unfold Gs;rw[wd ⟨c,d⟩]
end T71
theorem T133.ok:Ag Bf 133 rV:=by
 refine BY Sd (fun(a:(Int×List Int)×(Int×List Int)) hi=>?_);have hi:(j8 a&&decide (zi a.1≠0))=true:=hi;rw[zd,w5]at hi;obtain⟨a1,a2,la1,la2,a0⟩:=Gr hi.1;exact yg (T133.Ak a) (zc (RG a2 a1 hi.2) (zf (yp rfl rfl rfl)))
theorem V1{a:AU}(h:Sp.Db a=true){k:Nat}(hb:Ae (zi a)<(Ai:Int)^k):a.2.length<=k:=by
 rcases Pv h with⟨h1,_⟩|h1
 ·rw[h1];exact yt _
 ·rw[<-h1];exact JD (AF _) hb
theorem Ga{a:AU}(h:Sp.Db a=true)(hb:Ae (zi a)<(Ai:Int)^4000):TV a=true:=by
 unfold TV;exact Aa h (w4 (V1 h hb))
structure Fe(f:An)(q:Rat):Prop where
 n:Sp.Db f.1=true
 d:Sp.Db f.2=true
 vn:zi f.1=q.num
 vd:zi f.2=(q.den:Int)
def KU(k:Nat)(q:Rat):Prop:=Ae q.num<(Ai:Int)^k/\(q.den:Int)<(Ai:Int)^k
theorem Fe.den_pos{f:An}{q:Rat}(h:Fe f q):0<zi f.2:=by
 rw[h.vd];have:=q.den_pos;omega
theorem Fe.BK{f:An}{q:Rat}(h:Fe f q)(hs:KU 4000 q):j8 f=true:=by
 unfold j8 Sp.E8;have h2:Ae (zi f.2)=(q.den:Int):=by rw[h.vd,Ah,zo]
 exact Aa (Aa (Ga h.n (by rw[h.vn];exact hs.1)) (Ga h.d (by rw[h2];exact hs.2))) (w4 h.den_pos)
theorem VC{x y:Int}:Ae (x/y)<=Ae x:=by
 rw[Ah,Ah];have h1:=q9 x y;omega
theorem uD{a b:AU}(hb:0<zi b):zi (Hr a b)=zi a/zi b:=by
 unfold Hr;generalize hx:zi a=x;generalize zi b=y at hb;have h1:=Int.mul_ediv_add_emod (Ae x) y;have h2:=Int.emod_nonneg (Ae x) (yh hb);have h3:=Int.emod_lt_of_pos (Ae x) hb;split
 ·next c=>
  rw[aL,Cr,Eu];obtain⟨c1,c2⟩:=c;symm;rw[ji hb];have e:Ae x= -x:=by rw[Ah];omega
  rw[e]at h1 h2 h3 c2 ⊢;generalize -x/y=q at*;generalize -x % y=r at*;rw[Int.sub_mul,Int.neg_mul,ql q y];generalize y*q=t at*;omega
 ·next c=>
  rw[Cr];unfold Sp.sg;split
  ·next n=>
   have n:x<0:=w6 n;have c2:Ae x % y=0:=jc fun h=>c ⟨n,h⟩
   symm;rw[ji hb];have e:Ae x= -x:=by rw[Ah];omega
   rw[c2]at h1;rw[e]at h1 ⊢;generalize -x/y=q at*;rw[Int.neg_mul,ql q y];generalize y*q=t at*;omega
  ·next n=>
   have n:¬x<0:=fun h=>n (w4 h)
   have e:Ae x=x:=by rw[Ah];omega
   rw[e]
theorem mC{a b:AU}(ha:Ba a=true)(hb:0<zi b):Sp.Db (Hr a b)=true:=by
 have hab:=bounds ha;have hd:Ae (zi a)/zi b<=Ae (zi a):=Int.ediv_le_self _ (AF _);have hd0:0<=Ae (zi a)/zi b:=Int.ediv_nonneg (AF _) (zz hb);unfold Hr;generalize Ae (zi a)/zi b=q at*;have hq:Ae q<(Ai:Int)^9000:=by
  refine z6 ?_ hab;rw[Ah];omega
 split
 ·exact SH (DE (by rw[Ij];exact hq)) (by decide)
 ·refine(NC (k:=9000) ?_ (by omega)).1;unfold Sp.sg;split
  ·rw[Ij];exact hq
  ·exact hq
theorem rU{a b:AU}(hb:0<zi b):zi (Sp.iQ a b)=zi a/zi b:=by
 unfold Sp.iQ;rw[wc (by omega)];exact uD hb
theorem aZ{a b:AU}(ha:Ba a=true)(hb:0<zi b):Sp.Db (Sp.iQ a b)=true:=by
 unfold Sp.iQ;rw[wc (by omega)];exact mC ha hb
theorem T6{n d:AU}(hn:Ba n=true)(hd:Ba d=true)(h0:0<zi d):Fe (M9 n d) (ya (zi n) (zi d)):=by
 have hs:(zi d).sign=1:=jj h0;have e1:(ya (zi n) (zi d)).num=zi n/(qn (zi n) (zi d):Int):=by
  rw[qx,hs,jm,kf]
 have e2:((ya (zi n) (zi d)).den:Int)=zi d/(qn (zi n) (zi d):Int):=by
  rw[qy,wc (yh h0),kf,Int.natCast_ediv];rw[Int.natAbs_of_nonneg (zz h0)]
 obtain⟨g1,g2,g3⟩:=rP (n:=n) hd (yh h0);unfold M9;split
 ·next c=>
  unfold CN at c;rw[zd,w5,w5]at c;have e:zi d=1:=by rw[Bk c.1];exact c.2
  refine⟨(BV hn).1,(BV hd).1,?_,?_⟩
  ·rw[e1,e,Int.gcd_one];exact(kg _).symm
  ·rw[e2,e,Int.gcd_one];exact(kg _).symm
 ·refine⟨aZ hn g3,aZ hd g3,?_,?_⟩
  ·rw[rU g3,e1,g2]
  ·rw[rU g3,e2,g2]
theorem Nn{n d:AU}(hn:Ba n=true)(hd:Ba d=true)(h0:zi d≠0):Fe (Xk n d) (ya (zi n) (zi d)):=by
 unfold Xk;split
 ·next c=>
  have h:=T6 (Uz hn) (Uz hd) (by rw[Iu];omega);rw[Iu,Iu]at h;have e:=Rat.divInt_mul_right (n:=zi n) (d:=zi d) (a:= -1) (by decide);rw[Int.mul_neg,jf,Int.mul_neg,jf]at e;rw[e]at h;exact h
 ·exact T6 hn hd (by omega)
theorem KU.Zf{k:Nat}{f:An}{q:Rat}(h:Fe f q)(hs:KU k q):Ae (zi f.1)<(Ai:Int)^k/\Ae (zi f.2)<(Ai:Int)^k:=by
 rw[h.vn,h.vd];refine⟨hs.1,?_⟩;rw[Ah,zo];exact hs.2
theorem Fe.yO{f:An}{q:Rat}(h:Fe f q):ya (zi f.1) (zi f.2)=q:=by
 rw[h.vn,h.vd];exact zw q
theorem Fe.neg{f:An}{q:Rat}(h:Fe f q)(hs:KU 4000 q):Fe (uM f) (-q):=by
 have ha:=KU.Zf h hs;have hk:=VW (k:=4000) h.n (by omega) (by omega) (V1 h.n ha.1);exact⟨hk.1,h.d,by show zi (C4 f.1)=_;rw[Iu,h.vn,jt],by show zi f.2=_;rw[h.vd,jz]⟩
theorem KU.neg{k:Nat}{q:Rat}(h:KU k q):KU k (-q):=by
 unfold KU;rw[jt,jz,Ij];exact h
theorem Fe.mul{f g:An}{p q:Rat}(hf:Fe f p)(hg:Fe g q)(sp:KU 4000 p)(sq:KU 4000 q):Fe (G6 f g) (p*q):=by
 have a:=KU.Zf hf sp;have b:=KU.Zf hg sq;have h:=Nn (n:=FF f.1 g.1) (d:=FF f.2 g.2) (M5 a.1 b.1) (M5 a.2 b.2) (by rw[D8];exact yh (je hf.den_pos hg.den_pos));rw[D8,D8, <-Rat.divInt_mul_divInt,hf.yO,hg.yO]at h;exact h
theorem Fe.add{f g:An}{p q:Rat}(hf:Fe f p)(hg:Fe g q)(sp:KU 4000 p)(sq:KU 4000 q):Fe (Gs f g) (p+q):=by
 have a:=KU.Zf hf sp;have b:=KU.Zf hg sq;have ja:=IJ (Ga hf.n a.1);have jb:=IJ (Ga hg.n b.1);unfold Gs;split
 ·next c=>
  obtain⟨c1,c2⟩:=c;unfold CN at c1 c2;rw[zd,w5,w5]at c1 c2;have e1:(p.den:Int)=1:=by rw[<-hf.vd,Bk c1.1];exact c1.2
  have e2:(q.den:Int)=1:=by rw[<-hg.vd,Bk c2.1];exact c2.2
  have ep:ya p.num 1=p:=by have:=zw p;rw[e1]at this;exact this
  have eq:ya q.num 1=q:=by have:=zw q;rw[e2]at this;exact this
  have es:p+q=ya (p.num+q.num) 1:=by
   have h:=qe p.num q.num (d₁:=1) (d₂:=1) (by decide) (by decide);rw[ep,eq,jf,jf,jf]at h;exact h
  refine⟨SH ja.1 jb.1,by show Sp.Db (1,Ck 1)=true;rw[Nq];rfl,?_,?_⟩
  ·show zi (Em f.1 g.1)=_;rw[Vi,hf.vn,hg.vn,es,qx];simp
  ·show zi (1,Ck 1)=_;rw[Nq,Cr,es,qy];simp
 ·have h:=Nn (n:=Em (FF f.1 g.2) (FF g.1 f.2)) (d:=FF f.2 g.2) (yQ (M5 a.1 b.2) (M5 b.1 a.2) (by rw[D8,D8];exact eO (Gj a.1 b.2) (Gj b.1 a.2))) (M5 a.2 b.2) (by rw[D8];exact yh (je hf.den_pos hg.den_pos));rw[Vi,D8,D8,D8, <-qe _ _ (yh hf.den_pos) (yh hg.den_pos),hf.yO,hg.yO]at h;exact h
theorem Fe.sub{f g:An}{p q:Rat}(hf:Fe f p)(hg:Fe g q)(sp:KU 4000 p)(sq:KU 4000 q):Fe (FM f g) (p-q):=by
 rw[Rat.sub_eq_add_neg];exact hf.add (hg.neg sq) sp sq.neg
theorem Fe.inv{f:An}{p:Rat}(hf:Fe f p)(sp:KU 4000 p)(h0:p≠0):Fe (SY f) p⁻¹:=by
 have a:=KU.Zf hf sp;have jn:=IJ (Ga hf.n a.1);have jd:=IJ (Ga hf.d a.2);have h:=Nn jd.1 jn.1 (by rw[hf.vn];exact fun h=>h0 (qk.mp h));rw[<-Rat.inv_divInt,hf.yO]at h;exact h
end Go.Pe
namespace Go.Sp
open Go.Lib
theorem SP{P:Nat->List UInt8->Prop}(h1:∀d,d<10->P d [yb (48+d)])(h2:∀a d,0<a->d<10->P a (decDigits a)->P (10*a+d) (decDigits a++[yb (48+d)]))(n:Nat):P n (decDigits n):=by
 induction n using Nat.strongRecOn with
 |_ n ih=>
  by_cases h:n<10
  ·rw[decDigits_one h];exact h1 n h
  ·have e:n=10*(n/10)+n % 10:=by omega
   have:=h2 (n/10) (n % 10) (by omega) (Nat.mod_lt _ (by decide)) (ih (n/10) (by omega));rw[<-Fy _ _ (by omega) (Nat.mod_lt _ (by decide)), <-e]at this;exact this
theorem OF:∀d:Fin 10,(yb (48+d.1)).toNat=48+d.1:=by decide
theorem Kw{d:Nat}(h:d<10):BO (yb (48+d))=true/\Hl (yb (48+d))=d:=by
 have e:(yb (48+d)).toNat=48+d:=OF ⟨d,h⟩;unfold BO Hl;rw[e];refine⟨?_,by omega⟩;rw[w4 (by omega),w4 (by omega)];rfl
theorem Z9{c:UInt8}(h:BO c=true):c=yb (48+(Hl c).toNat)/\(Hl c).toNat<10:=by
 obtain⟨h1,h2⟩:=CV h;have hl:(Hl c).toNat<10:=by omega
 refine⟨yk.1 ?_,hl⟩;rw[OF ⟨(Hl c).toNat,hl⟩];show c.toNat=48+(Hl c).toNat;unfold Hl at*;omega
theorem fE(n:Nat):decDigits n≠[]:=SP (P:=fun _ l=>l≠[]) (fun _ _=>by simp) (fun _ _ _ _ _=>by simp) n
theorem D5(n:Nat):Aj (decDigits n)=true:=by
 refine SP (P:=fun _ l=>Aj l=true) (fun d h=>?_) (fun a d _ h ih=>?_) n
 ·unfold Aj;rw[z8,(Kw h).1];rfl
 ·unfold Aj at*;rw[List.all_append,ih,z8,(Kw h).1];rfl
theorem Ra(n:Nat):AA 0 (decDigits n)=n:=by
 refine SP (P:=fun n l=>AA 0 l=n) (fun d h=>?_) (fun a d _ h ih=>?_) n
 ·show 10*0+Hl (yb (48+d))=d;rw[(Kw h).2];omega
 ·rw[CL,ih];show 10*(a:Int)+Hl (yb (48+d))=_;rw[(Kw h).2];omega
theorem FE{s:List UInt8}(h:AX s=true):s≠[]/\Aj s=true/\(s.getD 0 0≠48\/s=[48]):=by
 unfold AX at h;rw[zd,zd,w5,Bool.or_eq_true,w5,w5]at h;exact⟨h.1.1,h.1.2,h.2⟩
theorem IC{s:List UInt8}(h:AX s=true)(h0:s≠[48]):0<AA 0 s:=by
 obtain⟨h1,h2,h3⟩:=FE h;cases s with
 |nil=>exact wh rfl h1
 |cons c r=>
  have g0:(c::r).getD 0 0=c:=rfl;rw[g0]at h3;have hc:c≠48:=by
   rcases h3 with x|x
   ·exact x
   ·exact wh x h0
  unfold Aj at h2;rw[z8,zd]at h2;have hd:=CV h2.1;have hr:Aj r=true:=h2.2;have hb:=Be hr;show 0<AA (10*0+Hl c) r;rw[Ep];have hp:(0:Int)<10^r.length:=Int.pow_pos (by decide);have hn:c.toNat≠48:=fun x=>hc (yk.1 x)
  have hg:0<10*0+Hl c:=by show 0<10*0+((c.toNat:Int)-48);have hd2:0<=((c.toNat:Int)-48):=hd.1;omega
  have:=je hg hp;omega
theorem ON{s:List UInt8}(h:AX s=true):s=decDigits (AA 0 s).toNat:=by
 generalize hn:s.length=n;induction n generalizing s with
 |zero=>exact wh (yf.1 hn) (FE h).1
 |succ n ih=>
  obtain⟨h1,h2,h3⟩:=FE h;obtain⟨t,c,rfl⟩:∃t c,s=t++[c]:=⟨_,_,(List.dropLast_concat_getLast h1).symm⟩;unfold Aj at h2;rw[List.all_append,zd,z8,zd]at h2;obtain⟨h4,h5,_⟩:=h2;obtain⟨b1,b2⟩:=Z9 h5;obtain⟨d1,_⟩:=CV h5;rw[CL];show t++[c]=decDigits (10*AA 0 t+Hl c).toNat;by_cases ht:t=[]
  ·subst ht;show[c]=decDigits (10*0+Hl c).toNat;rw[show(10*0+Hl c).toNat=(Hl c).toNat by omega,decDigits_one b2, <-b1]
  ·have g:(t++[c]).getD 0 0=t.getD 0 0:=by
    cases t with
    |nil=>exact wh rfl ht
    |cons x r=>rfl
   have h6:t.getD 0 0≠48:=by
    rcases h3 with x|x
    ·rw[g]at x;exact x
    ·have h7:=wi j0 x;rw[zk]at h7;have h8:t.length+1=1:=h7;exact wh (yf.1 (by omega)) ht
   have hf:AX t=true:=by
    unfold AX Aj;rw[w4 ht,h4,w4 h6];rfl
   have hp:=IC hf (fun k=>h6 (by rw[k];rfl));have hi:=ih hf (by rw[zk]at hn;simpa using hn);have e:(10*AA 0 t+Hl c).toNat=10*(AA 0 t).toNat+(Hl c).toNat:=by omega
   rw[e,Fy _ _ (by omega) b2, <-hi, <-b1]
theorem uY:∀ {a:List UInt8},(∀c∈a,c≠47)->Ay a=a/\AL a=[]/\Bq a=false:=by
 intro a h;have hc:Bq a=false:=by
  unfold Bq;rw[List.any_eq_false];intro x hx;simpa using h x hx
 exact⟨((Go.Pe.BN a).2.2 hc).1,((Go.Pe.BN a).2.2 hc).2,hc⟩
theorem mM:∀ {a:List UInt8} (b:List UInt8),(∀c∈a,c≠47)->Ay (a++47::b)=a/\AL (a++47::b)=b/\Bq (a++47::b)=true:=by
 intro a b h;have hc:Bq (a++47::b)=true:=by
  unfold Bq;rw[List.any_eq_true];exact⟨47,by simp,rfl⟩
 have ha:∀ {a:List UInt8},(∀c∈a,c≠47)->Ay (a++47::b)=a:=by
  intro a;induction a with
  |nil=>intro _;show Ay (47::b)=[];rw[Go.Pe.DR,wd rfl]
  |cons x r ih=>
   intro h;show Ay (x::(r++47::b))=_;rw[Go.Pe.DR,wc (h x (by simp)),ih (fun c hc=>h c (List.mem_cons_of_mem _ hc))]
 have e:=ha h;refine⟨e,?_,hc⟩;rw[((Go.Pe.BN _).2.1 hc).2,e];simp
theorem Qs{s:List UInt8}(h:Aj s=true):∀c∈s,c≠47:=by
 intro c hc e;unfold Aj at h;rw[qg]at h;have:=h c hc;rw[e]at this;exact wh this (by decide)
theorem Fg{s:List UInt8}(h:Aj s=true):s.getD 0 0≠45:=by
 cases s with
 |nil=>decide
 |cons c r=>
  unfold Aj at h;rw[z8,zd]at h;show c≠45;intro e;rw[e]at h;exact wh h.1 (by decide)
def AO(q:Rat):List UInt8:=if q.den=1 then itoa q.num else itoa q.num++47::decDigits q.den
def Aw(s:List UInt8):Rat:=ya (A6 s) (AH s)
theorem DK(n:Int):(∀c∈itoa n,c≠47)/\AZ (itoa n)=decDigits n.natAbs/\preB (itoa n)=decide (n<0)/\Ce (itoa n)=n:=by
 unfold itoa;by_cases h:n<0
 ·rw[wd h];refine⟨fun c hc=>?_,rfl,(w4 h).symm,?_⟩
  ·rcases List.mem_cons.1 hc with rfl|hc
   ·decide
   ·exact Qs (D5 _) c hc
  ·show -AA 0 (decDigits n.natAbs)=n;rw[Ra];omega
 ·rw[wc h];have hm:=Fg (D5 n.toNat);have e:n.toNat=n.natAbs:=by omega
  refine⟨Qs (D5 _),?_,?_,?_⟩
  ·unfold AZ;rw[wc hm,e]
  ·unfold preB;rw[w8 hm,w8 h]
  ·unfold Ce;rw[wc hm,Ra];omega
theorem GK(q:Rat):Ay (AO q)=itoa q.num/\AL (AO q)=(if q.den=1 then[]else decDigits q.den)/\Bq (AO q)=decide (q.den≠1):=by
 unfold AO;have h:=(DK q.num).1;by_cases hd:q.den=1
 ·rw[wd hd,wd hd,w8 (not_not_intro hd)];exact uY h
 ·rw[wc hd,wc hd,w4 hd];exact mM _ h
theorem JF(q:Rat):A6 (AO q)=q.num/\AH (AO q)=q.den:=by
 obtain⟨h1,h2,h3⟩:=GK q;unfold A6 AH;rw[h1,h2,h3];refine⟨(DK q.num).2.2.2,?_⟩;by_cases hd:q.den=1
 ·rw[wc (by simpa using hd),hd];rfl
 ·rw[wd (w4 hd),wc hd];unfold Ce;rw[wc (Fg (D5 _)),Ra]
theorem CW(q:Rat):Aw (AO q)=q:=by
 unfold Aw;rw[(JF q).1,(JF q).2];exact zw q
theorem YK{p q:Rat}(h:AO p=AO q):p=q:=by
 rw[<-CW p,h,CW]
theorem X1(a:List UInt8):Ay (AZ a)=AZ (Ay a)/\AL (AZ a)=AL a/\Bq (AZ a)=Bq a/\preB (Ay a)=preB a:=by
 unfold AZ preB;cases a with
 |nil=>exact⟨rfl,rfl,rfl,rfl⟩
 |cons c r=>
  have g0:(c::r).getD 0 0=c:=rfl;rw[g0,Go.Pe.DR];by_cases hc:c=45
  ·subst hc;have e:AL (45::r)=AL r:=by
    unfold AL;rw[qt];cases r.findIdx? (fun x=>x==47)<;>rfl
   exact⟨rfl,e.symm,rfl,rfl⟩
  ·rw[wc hc];by_cases h7:c=47
   ·subst h7;exact⟨(Go.Pe.DR _ _),rfl,rfl,rfl⟩
   ·rw[wc h7];have g1:(c::Ay r).getD 0 0=c:=rfl;rw[g1,wc hc];exact⟨by rw[Go.Pe.DR,wc h7],rfl,rfl,rfl⟩
theorem U6{a:List UInt8}(h:AG a=0):HJ a=true/\(Ay (AZ a)).length<=600/\(AL (AZ a)).length<=600/\(Bq (AZ a)=true->gI (uP a) (vU a)=1):=by
 unfold AG at h;cases hf:HJ a with
 |false=>rw[wd hf]at h;exact wh h (by decide)
 |true=>
  rw[wc (by rw[hf];decide)]at h;split at h
  ·exact wh h (by decide)
  ·next c=>
   split at h
   ·exact wh h (by decide)
   ·next d=>exact⟨rfl,by omega,by omega,fun k=>jc fun g=>d ⟨k,g⟩⟩
def Dh(k:Nat)(q:Rat):Prop:=q.num.natAbs<10^k/\q.den<10^k
theorem O7{n d:Int}(hd:0<d)(h:qn n d=1):(ya n d).num=n/\((ya n d).den:Int)=d:=by
 have hs:d.sign=1:=jj hd;rw[qx,qy,wc (yh hd),hs,jm,kf,h];refine⟨kg _,?_⟩;rw[Nat.div_one,Int.natAbs_of_nonneg (zz hd)]
theorem Oj{s:List UInt8}(h:Aj s=true){k:Nat}(hl:s.length<=k):(AA 0 s).toNat<10^k:=by
 have h1:=Be h;have h2:(10:Int)^s.length<=10^k:=AK (by decide) hl;have h3:((10^k:Nat):Int)=(10:Int)^k:=by simp
 omega
theorem JY(k:Nat)(h:k≠0):(1:Int).toNat<10^k:=Nat.one_lt_pow h (by decide)
theorem pT:decDigits (yy 1)=[49]:=by rw[show yy 1=1 from rfl,decDigits_one (by decide)];rfl
theorem ZP{s:List UInt8}(h:AG s=0):AO (Aw s)=s/\(Aw s).num=A6 s/\((Aw s).den:Int)=AH s/\Dh 600 (Aw s):=by
 obtain⟨hf,l1,l2,hg⟩:=U6 h;obtain⟨p1,p2,p3,p4⟩:=X1 s;unfold HJ at hf;rw[zd,zd]at hf;obtain⟨⟨fa,fm⟩,fb⟩:=hf;unfold uP vU at hg;obtain⟨A,hA⟩:∃A,A=Ay (AZ s):=⟨_,rfl⟩;obtain⟨B,hB⟩:∃B,B=AL (AZ s):=⟨_,rfl⟩;rw[<-hA]at fa fm l1 hg;rw[<-hB]at fb l2 hg;rw[p3]at fb hg;have dA:=(FE fa).2.1;have ea:=ON fa;have v0:=Be dA;have hn:A6 s=(if preB s=true then -AA 0 A else AA 0 A)/\Ay s=(if preB s=true then 45::A else A):=by
  have e1:A=AZ (Ay s):=by rw[hA,p1]
  unfold A6 Ce;rw[<-p4];unfold preB;rw[e1];unfold AZ;by_cases hc:(Ay s).getD 0 0=45
  ·rw[wd hc,wd (w4 hc),wd hc,wd (w4 hc)];refine⟨rfl,?_⟩;cases hs:Ay s with
   |nil=>rw[hs]at hc;exact wh hc (by decide)
   |cons c r=>
    rw[hs]at hc;have hc:c=45:=hc;rw[hc];rfl
  ·rw[wc hc,wc (by rw[w8 hc];decide),wc hc,wc (by rw[w8 hc];decide)];exact⟨rfl,rfl⟩
 have hna:(A6 s).natAbs=(AA 0 A).toNat:=by rw[hn.1];split<;>omega
 have hd:0<AH s/\(AH s).toNat<10^600/\qn (A6 s) (AH s)=1/\(Bq s=true->B=decDigits (AH s).toNat/\AH s≠1)/\(Bq s=false->AH s=1):=by
  unfold AH;rw[<-p2, <-hB];cases hc:Bq s with
  |false=>
   rw[wc (by decide)];exact⟨by decide,JY 600 (by decide),Int.gcd_one,(fun k=>by cases k),fun _=>rfl⟩
  |true=>
   rw[hc]at fb;have fb:(AX B&&decide (B≠[48])&&decide (B≠[49]))=true:=fb;rw[zd,zd,w5,w5]at fb;obtain⟨⟨f1,f2⟩,f3⟩:=fb;have dB:=(FE f1).2.1;have hp:=IC f1 f2;have er:Ce B=AA 0 B:=by unfold Ce;rw[wc (Fg dB)]
   rw[wd rfl,er];refine⟨hp,Oj (k:=600) dB l2,?_,fun _=>⟨ON f1,?_⟩,(fun k=>by cases k)⟩
   ·have g:=hg hc;rw[Gv]at g;have g:qn (AA 0 A) (AA 0 B)=1:=by omega
    rw[hn.1];split
    ·rw[Int.neg_gcd];exact g
    ·exact g
   ·intro e;have:=ON f1;rw[e]at this;exact f3 (this.trans pT)
 obtain⟨d0,d1,d2,d3,d4⟩:=hd;obtain⟨r1,r2⟩:=O7 (n:=A6 s) d0 d2;have r1:(Aw s).num=A6 s:=r1;have r2:((Aw s).den:Int)=AH s:=r2;have r3:(Aw s).den=(AH s).toNat:=by omega
 refine⟨?_,r1,r2,?_,?_⟩
 ·have ei:itoa (A6 s)=Ay s:=by
   rw[hn.2];unfold itoa;by_cases hb:preB s=true
   ·have hA0:A≠[48]:=by
     have hb2:preB s=true:=hb;rw[hb2]at fm;simpa using fm
    have:=IC fa hA0;rw[hn.1,wd hb,wd hb,wd (by omega),Int.natAbs_neg];rw[show(AA 0 A).natAbs=(AA 0 A).toNat by omega, <-ea]
   ·rw[hn.1,wc hb,wc hb,wc (by omega), <-ea]
  unfold AO;rw[r1,r3,ei];obtain⟨c1,c2,c3⟩:=Go.Pe.BN s;cases hc:Bq s with
  |false=>
   rw[d4 hc,wd (show yy 1=1 from rfl)];exact(c3 hc).1
  |true=>
   obtain⟨k1,k2⟩:=d3 hc;obtain⟨m1,m2⟩:=c2 hc;rw[wc (by omega), <-k1,hB,p2,m2];have hx:s.drop (Ay s).length=47::s.drop ((Ay s).length+1):=by
    have h0:∀t:List UInt8,Bq t=true->t.drop (Ay t).length=47::t.drop ((Ay t).length+1):=by
     intro t;induction t with
     |nil=>intro h;cases h
     |cons c r ih=>
      intro h;rw[Go.Pe.DR];by_cases e:c=47
      ·rw[wd e,e];rfl
      ·rw[wc e];have h2:Bq r=true:=by
        unfold Bq at h ⊢;rw[List.any_cons]at h;simpa [e]using h
       exact ih h2
    exact h0 s hc
   rw[<-hx];conv=>lhs;rw[c1]
   have:=qd (Ay s).length s;rw[<-c1]at this ⊢;exact this
 ·rw[r1,hna];exact Oj (k:=600) dA l1
 ·rw[r3];exact d1
end Go.Sp
namespace Go.Sp
def AW(n:Int):List UInt8:=yc n
def Pz(s:List UInt8)(n:Int):List UInt8:=Lib.repeatL s n.toNat
end Go.Sp
namespace Go.Pe
open Go.Det
def dZ:Ao:=⟨[i64],fun n=>Sp.CA n,[.str],fun n=>Sp.AW n,false⟩
def Un:Ao:=⟨[u64,i64],fun i=>decide (0<=i.1)&&decide (i.1<1000000000000000000)&&decide (i.2=10),[.str],fun i=>Sp.AW i.1,false⟩
def R1:Ao:=⟨[.str,i64],fun i=>decide (0<=i.2)&&decide (i.2<=1000)&&decide (i.1.length<=1000),[.str],fun i=>Sp.Pz i.1 i.2,false⟩
def wP:Ao:=⟨[BJ],fun a=>Sp.Ba a,[.str],fun a=>Sp.AW (zi a),false⟩
def P9:A3:=X7 [(220,dZ),(189,Oc),(221,F9),(222,Un),(223,R1)]
open Sp
section
open List Int Prod
namespace T193
def T(a:Int×List Int):Tr:=tree P9 false 9 193 (Af ([Sh.pair i64 (Sh.nlist (j9 qi))]) a)
def L1(v3:Bool)(v4:List Int)(v5n:Nat)(o0:List Int):Tr:=re ((T (0,[])).R.L) (AE 69 [(3,.dat Sh.bool v3),(4,.dat (Sh.list (j9 qi)) v4),(5,.sl 0 1 0 v5n none),(6,.nil)] [(0,.arr false 215 (j9 qi) o0)] 1)
theorem Ak(a:Int×List Int):T a=.ite (!decide (0<length (snd a))) (.ite (CA (fst a)) (.leaf (.dat Sh.str (AW (fst a))) ([(0,.box [.dat i64 (fst a),.dat (Sh.nlist (j9 qi)) (snd a)])])) .fail) (.ite (Sp.Db (fst a,snd a)) (L1 (decide (zi (fst a,snd a)<0)) (Br (Ae (zi (fst a,snd a)))) 1 ([1000000000000000000])) .fail):=by kernel_rfl
def L2(v3:Bool)(v4:List Int)(v5n v6n:Nat)(o1:List (List UInt8))(o0:List Int):Tr:=re ((stepT P9 (L1 false [] 0 [])).L.L.L.L.L.L.L.L.L) (AE 69 [(3,.dat Sh.bool v3),(4,.dat (Sh.list (j9 qi)) v4),(5,.sl 0 1 0 v5n none),(6,.sl 1 1 0 v6n none)] [(1,.arr false 9 Sh.str o1),(0,.arr true 215 (j9 qi) o0)] 2)
def L3(v11:Int)(o1:List Int)(o0n:Nat):Tr:=re ((stepT P9 (L1 false [] 0 [])).R.L.L.L) (AE 69 [(6,.nil),(10,.ptr 0 0),(11,.dat i64 v11)] [(1,.arr false 5 (j9 IntKind.u8) o1),(0,jg 255 [.ptr 0 0,.sl 1 1 0 o0n none])] 2)
def L4(v11:Int):Tr:=re ((stepT P9 (L1 false [] 0 [])).R.L.R) (AE 69 [(6,.nil),(10,.ptr 0 0),(11,.dat i64 v11)] [(0,jg 255 [.ptr 0 0,.nil])] 1)
def L5(v11:Int):Tr:=re ((stepT P9 (L1 false [] 0 [])).R.R) (AE 69 [(6,.nil),(10,.ptr 0 0),(11,.dat i64 v11)] [(0,jg 255 [PV.nilp,.nil])] 1)
theorem Ar(v3:Bool)(v4:List Int)(v5n:Nat)(o0:List Int):stepT P9 (L1 v3 v4 v5n o0)=let a':=Br (Am v4 % Am (take v5n o0));let b':=Br (Am v4/Am (take v5n o0));let d':=decide (1<=1)&&decide (0<1)&&decide ((2*1+1000)*16<=281474976710656);let e':=ze .i64 (0-1);let f':=AW (getD a' 0 0);let c':=18-(↑(length f'):Int);.ite (decide ((length v4:Int)>0)) (.ite (decide (0+v5n<=length o0)&&true&&SG v4 (take v5n o0)) (.ite (decide ((↑(length a'):Int)>0)) (.ite (decide (0<(↑(length a'):Int))) (.ite (decide ((0:Sh.T u64)<=getD a' 0 0)&&decide (getD a' 0 0<(1000000000000000000:Sh.T u64))&&decide (10=10)) (.ite (decide ((↑(length b'):Int)>0)) (.ite (decide (0<=ze .i64 c')&&decide (ze .i64 c'<=1000)&&decide (1<=1000)) (.ite (decide (length (Pz [(48:UInt8)] (ze .i64 c'))+length f'<=4611686018427387904)) (.ite d' (L2 v3 b' v5n 1 ([Pz [(48:UInt8)] (ze .i64 c')++AW (getD a' 0 0)]) o0) .fail) .fail) .fail) (.ite d' (L2 v3 b' v5n 1 ([AW (getD a' 0 0)]) o0) .fail)) .fail) .fail) (.ite (decide ((↑(length b'):Int)>0)) (.ite true (.ite true (.ite true (L2 v3 b' v5n 1 ([Pz [(48:UInt8)] (ze .i64 (18-1))++[(48:UInt8)]]) o0) .fail) .fail) .fail) (.ite true (L2 v3 b' v5n 1 ([[(48:UInt8)]]) o0) .fail))) .fail) (.ite v3 (.ite true (.ite true (L3 e' (yr (fun b=>(↑(yi b):Int)) [(45:UInt8)]) 1) .fail) (L4 e')) (L5 e')):=by kernel_rfl
def L6(v6n:Nat)(v11:Int)(o2:List Int)(o1n:Nat)(o0:List (List UInt8)):Tr:=re ((stepT P9 (L2 false [] 0 0 [] [])).R.L.L.L) (AE 69 [(6,.sl 0 1 0 v6n none),(10,.ptr 1 0),(11,.dat i64 v11)] [(2,.arr false 5 (j9 IntKind.u8) o2),(1,jg 255 [.ptr 1 0,.sl 2 1 0 o1n none]),(0,.arr false 9 Sh.str o0)] 3)
def L7(v6n:Nat)(v11:Int)(o0:List (List UInt8)):Tr:=re ((stepT P9 (L2 false [] 0 0 [] [])).R.L.R) (AE 69 [(6,.sl 0 1 0 v6n none),(10,.ptr 1 0),(11,.dat i64 v11)] [(1,jg 255 [.ptr 1 0,.nil]),(0,.arr false 9 Sh.str o0)] 2)
def L8(v6n:Nat)(v11:Int)(o0:List (List UInt8)):Tr:=re ((stepT P9 (L2 false [] 0 0 [] [])).R.R) (AE 69 [(6,.sl 0 1 0 v6n none),(10,.ptr 1 0),(11,.dat i64 v11)] [(1,jg 255 [PV.nilp,.nil]),(0,.arr false 9 Sh.str o0)] 2)
theorem AV(v3:Bool)(v4:List Int)(v5n v6n:Nat)(o1:List (List UInt8))(o0:List Int):stepT P9 (L2 v3 v4 v5n v6n o1 o0)=let a':=Br (Am v4 % Am (take v5n o0));let b':=Br (Am v4/Am (take v5n o0));let d':=decide ((2*(v6n+1)+1000)*16<=281474976710656);let e':=ze .i64 ((↑v6n:Int)-1);let f':=decide (v6n=length o1);let g':=jh v6n 1;let h':=decide (1<=1)&&true&&f'&&d';let i':=AW (getD a' 0 0);let c':=18-(↑(length i'):Int);.ite (decide ((length v4:Int)>0)) (.ite (decide (0+v5n<=length o0)&&true&&SG v4 (take v5n o0)) (.ite (decide ((↑(length a'):Int)>0)) (.ite (decide (0<(↑(length a'):Int))) (.ite (decide ((0:Sh.T u64)<=getD a' 0 0)&&decide (getD a' 0 0<(1000000000000000000:Sh.T u64))&&decide (10=10)) (.ite (decide ((↑(length b'):Int)>0)) (.ite (decide (0<=ze .i64 c')&&decide (ze .i64 c'<=1000)&&decide (1<=1000)) (.ite (decide (length (Pz [(48:UInt8)] (ze .i64 c'))+length i'<=4611686018427387904)) (.ite h' (L2 v3 b' v5n g' (o1++[Pz [(48:UInt8)] (ze .i64 c')++AW (getD a' 0 0)]) o0) .fail) .fail) .fail) (.ite h' (L2 v3 b' v5n g' (o1++[AW (getD a' 0 0)]) o0) .fail)) .fail) .fail) (.ite (decide ((↑(length b'):Int)>0)) (.ite true (.ite true (.ite (f'&&d') (L2 v3 b' v5n g' (o1++[Pz [(48:UInt8)] (ze .i64 (18-1))++[(48:UInt8)]]) o0) .fail) .fail) .fail) (.ite (f'&&d') (L2 v3 b' v5n g' (o1++[[(48:UInt8)]]) o0) .fail))) .fail) (.ite v3 (.ite true (.ite true (L6 v6n e' (yr (fun b=>(↑(yi b):Int)) [(45:UInt8)]) 1 o1) .fail) (L7 v6n e' o1)) (L8 v6n e' o1)):=by kernel_rfl
theorem FU(v6n:Nat)(v11:Int)(o2:List Int)(o1n:Nat)(o0:List (List UInt8)):stepT P9 (L6 v6n v11 o2 o1n o0)=let a':=getD o0 (toNat v11) [];.ite (decide (v11>=0)) (.ite (decide (0<=v11)&&decide (v11<(↑v6n:Int))) (.ite (decide (toNat v11<length o0)) (.ite (decide (o1n=length o2)&&decide ((2*(o1n+length (yr (fun b=>(↑(yi b):Int)) a'))+1000)*1<=281474976710656)) (L6 v6n (ze .i64 (v11-1)) (o2++yr (fun b=>(↑(yi b):Int)) a') (jh o1n (length (yr (fun b=>(↑(yi b):Int)) a'))) o0) .fail) .fail) .fail) (.ite (decide (0<o1n)) (.ite (decide (0<(↑o1n:Int))&&decide (toNat (↑o1n:Int)<=length o2)&&decide (toNat (↑o1n:Int)<=9223372036854775807)&&List.all o2 fun x=>decide (0<=x)&&decide (x<256)) (.leaf (.dat Sh.str (yr (fun x=>yb (toNat x)) (take (toNat (↑o1n:Int)) o2))) ([(1,jg 255 [.ptr 1 0,.sl 2 1 0 o1n none]),(0,.arr false 9 Sh.str o0)])) .fail) .fail):=by kernel_rfl
theorem JC(v6n:Nat)(v11:Int)(o0:List (List UInt8)):stepT P9 (L8 v6n v11 o0)=let a':=getD o0 (toNat v11) [];let b':=ze .i64 (v11-1);.ite (decide (v11>=0)) (.ite (decide (0<=v11)&&decide (v11<(↑v6n:Int))) (.ite (decide (toNat v11<length o0)) (.ite (decide (0<length (yr (fun b=>(↑(yi b):Int)) a'))) (.ite (decide ((2*length (yr (fun b=>(↑(yi b):Int)) a')+1000)*1<=281474976710656)) (L6 v6n b' (yr (fun b=>(↑(yi b):Int)) a') (length (yr (fun b=>(↑(yi b):Int)) a')) o0) .fail) (L7 v6n b' o0)) .fail) .fail) .fail:=by kernel_rfl
end T193
end
theorem LF{f:FuncId}{sp:Ao}{q:List V->H->Option (V×H)}(hp:Bf.prim f=none)(hfn:∃i,Bf.fn f=some i)(hq:Bf.spec f=some q)
  (hrun:∀(F:Fz) (h:H) (args:List V) (i:(BG sp.ins).T),Gh h->LX F (Af sp.ins i) args->sp.pre i=true->∃v,q args h=some (v,h)/\PC F (one (Af sp.outs (sp.f i))) v):Ag Bf f sp:=by
 refine .of0 ⟨hp,hfn,fun F h args i hfz hlt hgh hargs hpre=>?_⟩;obtain⟨v,h1,h2⟩:=hrun F h args i hgh hargs hpre;refine⟨[(v,h)],1,fun m hm=>?_,fun _=>⟨_,rfl⟩,fun x hx=>?_⟩
 ·obtain⟨m',rfl⟩:∃m',m=m'+1:=⟨m-1,by omega⟩;rw[Bi];simp only[hq,h1]
 ·cases qw.1 hx;exact⟨z7 _,fun _ _=>rfl,hlt,F,fun _ _ h=>h,fun _ _ h=>.inl h,hfz,h2⟩
theorem xF:∃cs t fz,(5,O.cells cs t fz)∈FN/\tD cs Lib.pow10Tab=true:=⟨_,_,_,List.mem_cons_self ..,by kernel_rfl⟩
theorem Yc{h:H}(hg:Gh h):R4 h=true:=by
 obtain⟨cs,t,fz,h1,h2⟩:=xF;have h3:=hg _ h1;unfold R4;rw[h3];exact h2
theorem nL:Ag Bf 220 dZ:=by
 refine LF (q:=XL) (by kernel_rfl) (BA (by kernel_rfl)) rfl fun F h args (n:Int) hg ha hp=>?_
 have hp:Sp.CA n=true:=hp;have ha:args=[.int .i64 n]:=by
  have:=ha (fun _=>none) 0;simp only[Af,dZ,Bb]at this;obtain⟨v,vs,rfl,h1,rfl⟩:=this;obtain rfl:=CG h1;rfl
 subst ha;refine⟨.str (yc n),?_,fun ρ N=>J2 _⟩;have:=D4 hp;have c1:decide (-9223372036854775808<=n)=true:=w4 (by omega);have c2:decide (n<=9223372036854775807)=true:=w4 (by omega);simp only[XL,Yc hg,c1,c2,Bool.and_self,we]
theorem ZS:Ag Bf 223 R1:=by
 refine LF (q:=RA) (by kernel_rfl) (BA (by kernel_rfl)) rfl fun F h args (i:List UInt8×Int) hg ha hp=>?_
 obtain⟨s,n⟩:=i;have hp:(decide (0<=n)&&decide (n<=1000)&&decide (s.length<=1000))=true:=hp;rw[zd,zd,w5,w5,w5]at hp;obtain⟨⟨h0,h1⟩,h2⟩:=hp;obtain⟨c,rfl⟩:=yq h0;have ha:args=[.str s,.int .i64 (c:Int)]:=by
  have:=ha (fun _=>none) 0;simp only[Af,R1,Bb]at this;obtain⟨v,vs,rfl,h3,w,ws,rfl,h4,rfl⟩:=this;obtain rfl:=ER h3;obtain rfl:=CG h4;rfl
 subst ha;refine⟨.str (Sp.Pz s (c:Int)),?_,fun ρ N=>J2 _⟩;have c1:kh c 9223372036854775807=true:=qf (by omega);have c2:kh (El s*c) 140737488355328=true:=qf (by
  rw[CS];have:s.length*c<=1000*1000:=Nat.mul_le_mul h2 (by omega);omega)
 show(bif kh c 9223372036854775807&&kh (El s*c) 140737488355328 then some (V.str (Lib.repeatL s c),h)else none)=_;rw[c1,c2];rfl
theorem dR:Ag Bf 222 Un:=by
 refine LF (q:=fmtQ) (by kernel_rfl) (BA (by kernel_rfl)) rfl fun F h args (i:Int×Int) hg ha hp=>?_
 obtain⟨u,b⟩:=i;have hp:(decide (0<=u)&&decide (u<1000000000000000000)&&decide (b=10))=true:=hp;rw[zd,zd,w5,w5,w5]at hp;obtain⟨⟨h0,h1⟩,rfl⟩:=hp;obtain⟨c,rfl⟩:=yq h0;have ha:args=[.int .u64 (c:Int),.int .i64 10]:=by
  have:=ha (fun _=>none) 0;simp only[Af,Un,Bb]at this;obtain⟨v,vs,rfl,h3,w,ws,rfl,h4,rfl⟩:=this;obtain rfl:=CG h3;obtain rfl:=CG h4;rfl
 subst ha;refine⟨.str (Sp.AW (c:Int)),?_,fun ρ N=>J2 _⟩;have c1:kh c 18446744073709551615=true:=qf (by omega);have e:Sp.AW (c:Int)=zp c:=Lib.itoa_nonneg _;rw[e];show(bif R4 h&&(kh c 18446744073709551615&&Nat.beq 10 10)then some (V.str (zp c),h)else none)=_;rw[Yc hg,c1];rfl
namespace T193
abbrev jQ(s:List UInt8):List Int:=yr (fun b=>(↑(yi b):Int)) s
theorem Tq:∀s:List UInt8,yr (fun x:Int=>yb (yy x)) (jQ s)=s
 |[]=>rfl
 |b::s=>by
  have:=Tq s;simp only[jQ,List.map_cons]at this ⊢;rw[this];simp
theorem XE:∀s:List UInt8,(List.all (jQ s) fun x=>decide ((0:Int)<=x)&&decide (x<(256:Int)))=true
 |[]=>rfl
 |b::s=>by
  have h1:=XE s;have h2:=b.toNat_lt;simp only[jQ,List.map_cons,z8]at h1 ⊢;rw[h1,j6,zd,w5,w5];omega
theorem nJ(a b:List UInt8):jQ a++jQ b=jQ (a++b):=by simp[jQ]
variable {Q:PV->Ob->Prop}
theorem EB(o0:List (List UInt8))(T:List UInt8)(hT:T.length<=1000000)(hl:o0.length<=1000000)(hq:∀ob,Q (.dat .str T) ob):∀(i:Nat) (acc:List UInt8) (v11:Int) (n:Nat),i<=o0.length->v11=(i:Int)-1->n=acc.length->0<acc.length->acc++(o0.take i).reverse.flatten=T->
  Ends P9 (L6 o0.length v11 (jQ acc) n o0) Q
 |0,acc,v11,n,_,hv,hn,h0,he=>by
  have he:acc=T:=by simpa using he
  subst he hn;refine zj (FU ..) (zn (w8 (by omega)) (zc (w4 h0) (zc (Aa (Aa (Aa (w4 (by omega)) (w4 (by simp))) (w4 (by simp;omega))) (XE acc)) (zf ?_))));have e:yr (fun x:Int=>yb (yy x)) (j5 (yy (acc.length:Int)) (jQ acc))=acc:=by
   rw[zg,zm (by simp),Tq]
  rw[e];exact hq _
 |i+1,acc,v11,n,hi,hv,hn,h0,he=>by
  have hg:List.getD o0 (yy v11) []=o0[i]:=by
   rw[show yy v11=i from by omega];simp[show i<o0.length from hi]
  have hs:acc++o0[i]++(o0.take i).reverse.flatten=T:=by
   have ht:o0.take (i+1)=o0.take i++[o0[i]]:=y9 hi;rw[<-he,ht,List.reverse_append,jk,List.singleton_append,List.flatten_cons,qc]
  have hlen:=wi j0 hs;simp only[zk]at hlen;refine zj (FU ..) (zc (w4 (by omega)) (zc (Aa (w4 (by omega)) (w4 (by omega))) (zc (w4 (by omega)) ?_)));rw[hg];refine zc (Aa (w4 (by simp[hn])) (w4 (by rw[yz];omega))) ?_;rw[nJ,wr (v11-1) (by omega) (by omega)];exact EB o0 T hT hl hq i (acc++o0[i]) (v11-1) _ (by omega) (by omega) (by rw[zk,yz,hn];rfl) (by rw[zk];omega) hs
theorem Fb(o0:List (List UInt8))(T:List UInt8)(hT:T.length<=1000000)(hl:o0.length<=1000000)(hq:∀ob,Q (.dat .str T) ob)(i:Nat)(hi:i+1=o0.length)(v11:Int)(hv:v11=(i:Int))(hpos:0<(o0[i]'(by omega)).length)(he:o0.reverse.flatten=T):
  Ends P9 (L8 o0.length v11 o0) Q:=by
 have hi':i<o0.length:=by omega
 have hg:List.getD o0 (yy v11) []=o0[i]:=by
  rw[show yy v11=i from by omega];simp[hi']
 have hs:o0[i]++(o0.take i).reverse.flatten=T:=by
  have ht:o0.take (i+1)=o0.take i++[o0[i]]:=y9 hi';rw[hi,yd]at ht;rw[<-he];conv=>rhs;rw[ht]
  rw[List.reverse_append,jk,List.singleton_append,List.flatten_cons]
 have hlen:=wi j0 hs;simp only[zk]at hlen;refine zj (JC ..) (zc (w4 (by omega)) (zc (Aa (w4 (by omega)) (w4 (by omega))) (zc (w4 (by omega)) ?_)));rw[hg];refine zc (w4 (by rw[yz];exact hpos)) (zc (w4 (by rw[yz];omega)) ?_);rw[wr (v11-1) (by omega) (by omega)];exact EB o0 T hT hl hq i o0[i] (v11-1) _ (by omega) (by omega) (by rw[yz]) hpos hs
end T193
theorem TJ{r:Int}(h0:0<r)(h1:r<18446744073709551616):Br r=[r]:=by
 have hd:Av Ai [r]:=by
  intro x hx;rw[qw]at hx;subst hx;exact⟨by omega,h1⟩
 have hn:Sp.nz [r]:=by
  unfold Sp.nz;simp;omega
 have:=HW (b:=Ai) (by decide) hd hn;have hv:yu Ai [r]=r:=by simp[yu]
 rw[hv]at this;exact this.symm
theorem J5:Br 0=[]:=by
 unfold Br;rfl
theorem O3:Am [1000000000000000000]=1000000000000000000:=by simp[Am,yu]
theorem Y3(n:Nat):Pz [48] (n:Int)=List.replicate n 48:=by
 unfold Pz;rw[zg];induction n with
 |zero=>rfl
 |succ n ih=>rw[Lib.repeatL,ih];rfl
theorem SD(V:Nat):Am (Br (V:Int))=(V:Int):=CQ (b:=Ai) (by decide) (by omega)
theorem hI{V:Nat}(hV:(V:Int)<(Ai:Int)^9000):SG (Br (V:Int)) [1000000000000000000]=true:=by
 obtain⟨n1,n2,n3⟩:=CX (n:=(V:Int)) (by omega) hV (by omega);have h1:=JD (n:=(V:Int)) (by omega) hV;unfold SG;refine Aa (Aa (Aa (Aa n1 ?_) (w4 h1)) (w4 (by decide))) (w4 (by rw[O3];decide));decide
theorem Uc(V:Nat):Br (Am (Br (V:Int))/Am (j5 1 [1000000000000000000]))=Br ((V/10^18:Nat):Int):=by
 rw[SD,show j5 1 [(1000000000000000000:Int)]=[1000000000000000000]from rfl,O3];congr 1
theorem UC(V:Nat):Br (Am (Br (V:Int)) % Am (j5 1 [1000000000000000000]))=Br ((V % 10^18:Nat):Int):=by
 rw[SD,show j5 1 [(1000000000000000000:Int)]=[1000000000000000000]from rfl,O3];congr 1
theorem I4{V:Nat}(h:0<V):0<(Br (V:Int)).length:=by
 rcases y7 (Br (V:Int)).length with e|e
 ·have h1:=SD V;rw[yf.1 e]at h1;have h2:Am []=0:=rfl;rw[h2]at h1;omega
 ·exact e
theorem Ns:∀(k u:Nat),u<10^(k+1)->Lib.nDigits u<=k+1
 |0,u,h=>by rw[Lib.nDigits_small (by omega)];omega
 |k+1,u,h=>by
  by_cases c:u<10
  ·rw[Lib.nDigits_small c];omega
  ·rw[Lib.nDigits_big c];have:u/10<10^(k+1):=by rw[qo]at h;omega
   have:=Ns k (u/10) this;omega
theorem Sj{r:Nat}(h:r<10^18):(zp r).length<=18:=by
 rw[yn];exact Ns 17 r h
theorem LA(r:Nat):AW (r:Int)=zp r:=Lib.itoa_nonneg r
theorem RU(r:Nat)(h:r<10^18):Pz [48] ((18:Int)-((zp r).length:Int))++zp r=FL 18 r:=by
 have:=Sj h;rw[show(18:Int)-((zp r).length:Int)=((18-(zp r).length:Nat):Int)from by omega,Y3,yn];rfl
structure Small(V:Nat):Prop where
 h:(V:Int)<(Ai:Int)^9000
theorem Small.le{a b:Nat}(h:Small b)(hab:a<=b):Small a:=⟨z6 (Int.ofNat_le.mpr hab) h.h⟩
theorem Small.div{V:Nat}(h:Small V):SG (Br (V:Int)) [1000000000000000000]=true:=hI h.h
namespace T193
variable {Q:PV->Ob->Prop}
def Exit(neg:Bool)(G:List (List UInt8))(Q:PV->Ob->Prop):Prop:=Ends P9 (.ite neg (.ite true (.ite true (L6 G.length (ze IntKind.i64 ((G.length:Int)-1)) (yr (fun b=>(↑(yi b):Int)) [(45:UInt8)]) 1 G) .fail) (L7 G.length (ze IntKind.i64 ((G.length:Int)-1)) G)) (L8 G.length (ze IntKind.i64 ((G.length:Int)-1)) G)) Q
theorem A4(neg:Bool)(G:List (List UInt8))(hG:G.length<=1000000)(hfin:Exit neg G Q):∀(f V:Nat) (o1:List (List UInt8)),V<f->Small V->o1++(if V=0 then[]else Ch f V)=G->Ends P9 (L2 neg (Br (V:Int)) 1 o1.length o1 [1000000000000000000]) Q
 |0,V,o1,h,_,_=>by omega
 |f+1,V,o1,h,hV,he=>by
  rcases y7 V with h0|h0
  ·subst h0;have he:o1=G:=by simpa using he
   subst he;refine zj (AV ..) (zn (by rw[show((0:Nat):Int)=0 from rfl,J5];rfl) ?_);exact hfin
  have hlt:V % 10^18<10^18:=Nat.mod_lt _ (by decide);rw[wc (by omega)]at he;have hg:∀s,s=(if V/10^18=0 then zp (V % 10^18)else FL 18 (V % 10^18))->(o1++[s])++(if V/10^18=0 then[]else Ch f (V/10^18))=G:=by
   rintro s rfl;rw[<-he,qc];congr 1;have eg:Ch (f+1) V=if V<10^18 then[zp V]else FL 18 (V % 10^18)::Ch f (V/10^18):=rfl
   rw[eg];by_cases c:V<10^18
   ·rw[wd c,wd (by omega),wd (by omega),Nat.mod_eq_of_lt c];rfl
   ·rw[wc c,wc (by omega),wc (by omega)];rfl
  have hsz:o1.length+1<=1000000:=by
   have:=wi j0 (hg _ rfl);simp only[zk,List.length_singleton]at this;omega
  have next:∀s,s=(if V/10^18=0 then zp (V % 10^18)else FL 18 (V % 10^18))->Ends P9 (L2 neg (Br ((V/10^18:Nat):Int)) 1 (jh o1.length 1) (o1++[s]) [1000000000000000000]) Q:=by
   intro s hs;have:=A4 neg G hG hfin f (V/10^18) (o1++[s]) (by omega) (hV.le (Nat.div_le_self _ _)) (hg s hs);rw[zk]at this;exact this
  refine zj (AV ..) (zc (w4 (by have:=I4 h0;omega)) (zc (Aa rfl hV.div) ?_));rw[Uc,UC];rcases y7 (V % 10^18)with r0|r0
  ·have q0:V/10^18≠0:=by omega
   rw[r0,show((0:Nat):Int)=0 from rfl,J5];refine zn rfl (zc (w4 (by have:=I4 (V:=V/10^18) (by omega);omega)) (zc rfl (zc rfl (zc (Aa (w4 rfl) (w4 (by omega))) (next _ ?_)))));have hp:=RU 0 (by decide);rw[Lib.decDigits_one (by omega)]at hp;rw[wc q0,r0, <-hp];rfl
  ·rw[TJ (r:=((V % 10^18:Nat):Int)) (by omega) (by omega)];have hgd:List.getD [((V % 10^18:Nat):Int)] 0 0=((V % 10^18:Nat):Int):=rfl;rw[hgd,LA];have hd:=Sj hlt;have hr18:((V % 10^18:Nat):Int)<1000000000000000000:=by omega
   have h18:0<(zp (V % 10^18)).length:=by
    rw[yn,Lib.nDigits];split<;>omega
   refine zc rfl (zc rfl (zc (Aa (Aa (w4 (Int.natCast_nonneg _)) (w4 hr18)) rfl) ?_));rw[wr _ (by omega) (by omega)];by_cases q0:V/10^18=0
   ·rw[q0];refine zn (by rw[show((0:Nat):Int)=0 from rfl,J5];rfl) (zc (Aa (Aa rfl (w4 rfl)) (w4 (by omega))) ?_);have:=next _ rfl;rw[wd q0,q0]at this;exact this
   ·have hpad:=RU _ hlt;refine zc (w4 (by have:=I4 (V:=V/10^18) (by omega);omega)) (zc (Aa (Aa (w4 (by omega)) (w4 (by omega))) rfl) (zc (w4 ?_) (zc (Aa (Aa rfl (w4 rfl)) (w4 (by omega))) (next _ ?_))))
    ·rw[<-zk,hpad];unfold FL;rw[zk,List.length_replicate];omega
    ·rw[wc q0];exact hpad
end T193
end Go.Pe
namespace Go.Sp
theorem Ff{n d:Int}(hd:d≠0):(ya n d).num.natAbs<=n.natAbs/\(ya n d).den<=d.natAbs:=by
 rw[qx,qy,wc hd];refine⟨?_,Nat.div_le_self _ _⟩;refine Nat.le_trans (q9 _ _) ?_;rw[yx,Int.natAbs_sign_of_ne_zero hd,Nat.one_mul];exact z7 _
theorem Fq{n d:Int}{k:Nat}(hd:d≠0)(h1:n.natAbs<10^k)(h2:d.natAbs<10^k):Dh k (ya n d):=
 ⟨y8 (Ff hd).1 h1,y8 (Ff hd).2 h2⟩
theorem Dh.mono{j k:Nat}{q:Rat}(h:Dh j q)(hk:j<=k):Dh k q:=
 ⟨qz h.1 (qj (by decide) hk),qz h.2 (qj (by decide) hk)⟩
theorem DA{a b i j:Nat}(h1:a<10^i)(h2:b<10^j):a*b<10^(i+j):=by
 rw[Nat.pow_add];exact y8 (Nat.mul_le_mul_left _ (Nat.le_of_lt h2)) ((Nat.mul_lt_mul_right (Nat.pow_pos (by decide))).2 h1)
theorem Hz(q:Rat):(q.den:Int)≠0:=by have:=q.den_pos;omega
theorem Dh.mul{p q:Rat}{i j:Nat}(hp:Dh i p)(hq:Dh j q):Dh (i+j) (p*q):=by
 have h:=Rat.divInt_mul_divInt p.num q.num (d₁:=p.den) (d₂:=q.den);rw[zw,zw]at h;rw[h];refine Fq ?_ ?_ ?_
 ·exact Int.mul_ne_zero (Hz p) (Hz q)
 ·rw[yx];exact DA hp.1 hq.1
 ·rw[yx,zo,zo];exact DA hp.2 hq.2
theorem Dh.add{p q:Rat}{i j:Nat}(hp:Dh i p)(hq:Dh j q):Dh (i+j+1) (p+q):=by
 have h:=qe p.num q.num (Hz p) (Hz q);rw[zw,zw]at h;rw[h];have a1:=DA hp.1 hq.2;have a2:=DA hq.1 hp.2;have a3:=DA hp.2 hq.2;rw[Nat.add_comm]at a2;refine Fq (Int.mul_ne_zero (Hz p) (Hz q)) ?_ ?_
 ·refine y8 (Int.natAbs_add_le _ _) ?_;rw[yx,yx,zo,zo,qo];omega
 ·rw[yx,zo,zo,qo];omega
theorem Dh.neg{q:Rat}{k:Nat}(h:Dh k q):Dh k (-q):=by
 unfold Dh at*;rw[jt,jz,Int.natAbs_neg];exact h
theorem Dh.sub{p q:Rat}{i j:Nat}(hp:Dh i p)(hq:Dh j q):Dh (i+j+1) (p-q):=by
 rw[Rat.sub_eq_add_neg];exact hp.add hq.neg
theorem Dh.inv{q:Rat}{k:Nat}(h:Dh k q)(h0:q≠0):Dh k q⁻¹:=by
 have e:=Rat.inv_divInt q.num q.den;rw[zw]at e;rw[e];exact Fq (fun x=>h0 (qk.mp x)) (by rw[zo];exact h.2) h.1
theorem Dh.div{p q:Rat}{i j:Nat}(hp:Dh i p)(hq:Dh j q)(h0:q≠0):Dh (i+j) (p/q):=by
 rw[Rat.div_def];exact hp.mul (hq.inv h0)
def PU(n:Int):Bool:=decide (600<(zp n.natAbs).length)
def M0(q:Rat):Bool:=PU q.num||PU q.den
theorem DO{u k:Nat}(h:u<10^k)(hk:1<=k):(zp u).length<=k:=by
 rw[yn];obtain⟨j,rfl⟩:∃j,k=j+1:=⟨k-1,by omega⟩;exact Go.Pe.Ns j u h
theorem B3(u:Nat){k:Nat}(h:(zp u).length<=k):u<10^k:=by
 rw[yn]at h;exact qz (Lib.lt_pow_nDigits u) (qj (by decide) h)
theorem Wf{q:Rat}:M0 q=false↔Dh 600 q:=by
 unfold M0 PU Dh;rw[Bool.or_eq_false_iff,w9,w9];refine⟨fun h=>⟨B3 (k:=600) _ (by omega),?_⟩,fun h=>⟨?_,?_⟩⟩
 ·have:=B3 (q.den:Int).natAbs (k:=600) (by omega);rw[zo]at this;exact this
 ·have:=DO h.1 (by decide);omega
 ·have:=DO h.2 (by decide);rw[zo];omega
theorem OA{q:Rat}{k:Nat}(h:Dh k q)(hk:1<=k):(AO q).length<=2*k+2:=by
 have h1:=DO h.1 hk;have h2:=DO h.2 hk;have h3:(yc q.num).length<=k+1:=by
  unfold yc;split
  ·rw[zy];omega
  ·rw[show q.num.toNat=q.num.natAbs by omega];omega
 unfold AO;split
 ·omega
 ·rw[zk,zy];omega
def Bt(s:List UInt8):Bool:=decide (AO (Aw s)=s)&&decide (s.length<=4000)
theorem FV{s:List UInt8}(h:Bt s=true):AO (Aw s)=s/\s.length<=4000:=by
 unfold Bt at h;rwa [zd,w5,w5]at h
theorem Qy{q:Rat}{k:Nat}(h:Dh k q)(hk:k<=1999):Bt (AO q)=true:=by
 have hl:=OA (h.mono hk) (by decide);unfold Bt;rw[CW,w4 rfl,w4 (by omega)];rfl
theorem JZ{s:List UInt8}(h:AG s=0):Bt s=true/\Dh 600 (Aw s):=by
 obtain⟨h1,_,_,h4⟩:=ZP h;exact⟨by rw[<-h1];exact Qy h4 (by decide),h4⟩
theorem oS{s:List UInt8}(h:Bt s=true):Dh 4000 (Aw s):=by
 obtain⟨h1,h2⟩:=FV h;have e:(AO (Aw s)).length<=4000:=by rw[h1];exact h2
 generalize Aw s=q at*;have a:=B3 q.num.natAbs (z7 _);have b:=B3 q.den (z7 _);have h3:(zp q.num.natAbs).length<=(yc q.num).length:=by
  unfold yc;split
  ·rw[zy];omega
  ·rw[show q.num.toNat=q.num.natAbs by omega];exact z7 _
 unfold AO at e;split at e
 ·next c=>exact⟨B3 (k:=4000) _ (by omega),by rw[c];exact JY 4000 (by decide)⟩
 ·rw[zk,zy]at e;exact⟨B3 (k:=4000) _ (by omega),B3 (k:=4000) _ (by omega)⟩
theorem YQ(q:Rat):Ig (AO q)=P8 q.num:=by
 have h0:AO q=[48]↔q=0:=by
  have:AO (0:Rat)=[48]:=by
   unfold AO;rw[wd (show Rat.den 0=1 from rfl)];show yc 0=[48];unfold yc;rw[wc (by decide),show(0:Int).toNat=0 from rfl,Lib.decDigits_one (by decide)];rfl
  rw[<-this];exact⟨YK,fun h=>by rw[h]⟩
 unfold Ig P8;by_cases hz:q=0
 ·rw[wd (h0.2 hz),hz];rfl
 ·rw[wc (fun h=>hz (h0.1 h))];have hn:q.num≠0:=fun h=>hz (qk.mp h)
  have hg:(AO q).getD 0 0=(yc q.num).getD 0 0:=by
   unfold AO;split
   ·rfl
   ·have:yc q.num≠[]:=by unfold yc;split;exact List.cons_ne_nil _ _;exact fE _
    cases hi:yc q.num with
    |nil=>exact wh hi this
    |cons c r=>rfl
  rw[hg];unfold yc;by_cases h:q.num<0
  ·rw[wd h,wd h];rfl
  ·rw[wc h,wc h,wc (Fg (D5 _)),wd (by omega)]
theorem T4(n:Int)(h:n≠0):yc (-n)=if n<0 then(yc n).drop 1 else 45::yc n:=by
 unfold yc;by_cases c:n<0
 ·rw[wc (by omega),wd c,wd c,show(-n).toNat=n.natAbs by omega];rfl
 ·rw[wd (by omega),wc c,wc c,show(-n).natAbs=n.toNat by omega]
theorem bR(q:Rat):Lg (AO q)=AO (-q):=by
 have hs:=YQ q;unfold Ig at hs;unfold Lg;by_cases h0:AO q=[48]
 ·rw[wd h0]at hs ⊢;have:q.num=0:=by
   unfold P8 at hs;split at hs
   ·exact wh hs (by decide)
   ·split at hs
    ·exact wh hs (by decide)
    ·omega
  have:q=0:=qk.mp this;rw[this];rfl
 ·rw[wc h0]at hs ⊢;have hn:q.num≠0:=by
   intro h;rw[h]at hs;split at hs<;>exact wh hs (by decide)
  have e:AO (-q)=if q.num<0 then(AO q).drop 1 else 45::AO q:=by
   unfold AO;rw[jt,jz,T4 _ hn];by_cases c:q.num<0
   ·rw[wd c,wd c];have:yc q.num=45::zp q.num.natAbs:=by unfold yc;rw[wd c]
    rw[this];split<;>rfl
   ·rw[wc c,wc c];split<;>rfl
  rw[e];unfold P8 at hs;by_cases c:q.num<0
  ·rw[wd c]at hs ⊢;split at hs
   ·next k=>rw[wd k]
   ·exact wh hs (by decide)
  ·rw[wc c,wd (show q.num>0 by omega)]at hs;rw[wc c];split at hs
   ·exact wh hs (by decide)
   ·next k=>rw[wc k]
open Go.Lib
theorem Me:∀(f n l:Nat) (acc:List UInt8),l<=acc.length->n<10^f->HE f n l acc=if n=0 then acc else decDigits n++acc
 |0,n,l,acc,_,hn=>by rw[Nat.pow_zero]at hn;rw[wd (by omega)];rfl
 |f+1,n,l,acc,hl,hn=>by
  rw[qo]at hn;unfold HE;by_cases h:n=0
  ·rw[wd ⟨h,hl⟩,wd h]
  ·rw[wc (fun k=>h k.1),wc h,Me f (n/10) l _ (by rw[zy];omega) (by omega)];by_cases h2:n/10=0
   ·rw[wd h2,decDigits_one (by omega),show n % 10=n by omega];rfl
   ·have e:=Fy (n/10) (n % 10) (by omega) (by omega);rw[show 10*(n/10)+n % 10=n by omega]at e;rw[wc h2,e,qc];rfl
theorem fK{d:Nat}(h:d<10):FL 1 d=[yb (48+d)]:=by
 unfold FL;rw[nDigits_small h,decDigits_one h];rfl
theorem TQ:∀(k f n l:Nat) (acc:List UInt8),acc.length+(k+1)=l->n<10^(k+1)->k+1<=f->HE f n l acc=FL (k+1) n++acc
 |k,0,n,l,acc,_,_,h=>by omega
 |0,f+1,n,l,acc,hl,hn,_=>by
  unfold HE;rw[wc (by omega),fK (by omega),Me f (n/10) l _ (by rw[zy];omega) (by rw[show n/10=0 by omega];exact Nat.pow_pos (by decide)),wd (by omega),show n % 10=n by omega];rfl
 |k+1,f+1,n,l,acc,hl,hn,hf=>by
  rw[qo]at hn;have e:=Q1 (k+1) (n/10) (n % 10) (by omega) (by omega);rw[show 10*(n/10)+n % 10=n by omega]at e;unfold HE;rw[wc (by omega),TQ k f (n/10) l _ (by rw[zy];omega) (by omega) (by omega),e,qc];rfl
theorem PS{n:Int}(h0:0<=n)(h1:n<9223372036854775808):HQ n 1=decDigits n.toNat:=by
 show HE 64 n.toNat 1 []=_;unfold HE;rw[wc (by simp)];rw[Me 63 (n.toNat/10) 1 _ (by simp) (by omega)];by_cases h:n.toNat<10
 ·rw[wd (by omega),decDigits_one h,show n.toNat % 10=n.toNat by omega]
 ·have e:=Fy (n.toNat/10) (n.toNat % 10) (by omega) (by omega);rw[show 10*(n.toNat/10)+n.toNat % 10=n.toNat by omega]at e;rw[wc (by omega),e]
theorem YG{n:Int}(h0:0<=n)(h1:n<1000000000):HQ n 9=FL 9 n.toNat:=by
 show HE 64 n.toNat 9 []=_;rw[TQ 8 64 n.toNat 9 [] rfl (by omega) (by decide),List.append_nil]
def C3(n d:Int):List UInt8:=AO (ya n d)
theorem YE(n:Int):itoa n=(if n<0 then[45]else[])++decDigits n.natAbs:=by
 unfold itoa;split
 ·rfl
 ·rw[show n.toNat=n.natAbs by omega];rfl
end Go.Sp
