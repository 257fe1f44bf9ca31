import Derived.Test.YtknhdhchejmpgaaGreatDoorX12
import Derived.Test.YtknhdhchejmpgaaGreatDoorX11
import Derived.Test.YtknhdhchejmpgaaGreatDoorX10
import Derived.Test.YtknhdhchejmpgaaGreatDoorX07
import Derived.Test.YtknhdhchejmpgaaGreatDoorX09
/- A part of a proof (no law is stated here). Made by program out of texts by AI agents. -/
noncomputable section
open Go.Pe.Ends renaming tt -> zc, leaf -> zh, Av -> zm, ite -> zp, ff -> zt, eq -> yj
open Bool renaming and_eq_true -> ze, true_and -> yr, and_true -> j8
open Go.IntKind renaming wrap -> zg, u64 -> ql
open Int renaming toNat_natCast -> zj, natAbs_natCast -> zr, mul_le_mul_of_nonneg_left -> zw, lt_of_lt_of_le -> zx, le_of_lt -> z8, lt_of_le_of_lt -> ya, mul_le_mul_of_nonneg_right -> yg, ne_of_gt -> ym, eq_ofNat_of_zero_le -> yv, pow_succ -> yz, natAbs_mul -> y8, toNat -> y9, gcd -> qk, mul_comm -> qo, le_trans -> qp, mul_nonneg -> qt, tdiv_eq_ediv_of_nonneg -> qv, tmod_eq_emod_of_nonneg -> qw, natAbs_ediv_le_natAbs -> jc, mul_pos -> jf, mul_one -> jg, ediv_eq_iff_of_pos -> jk, sign_eq_one_of_pos -> jl, one_mul -> jt, le_refl -> jz, add_assoc -> j9, gcd_comm -> kh, ediv_one -> ki
open Go.Sp renaming vI -> zk, AM -> zy, B9 -> z7, val -> yy, gI -> jo, CF -> kc, first -> kf, preB -> kg
open List renaming length_drop -> zl, length_append -> zn, take_of_length_le -> zq, length_take -> zu, all_cons -> yd, take_length -> yf, length_eq_zero_iff -> yk, length_cons -> yn, getD_eq_getElem?_getD -> yo, getElem?_eq_getElem -> yt, map -> yw, length_map -> qc, take_succ_eq_append_getElem -> qe, take_append_drop -> qf, all_eq_true -> qi, findIdx?_cons -> qu, mem_singleton -> qx, reverse_singleton -> jm, length -> j6, take -> j7
open Go.Lib renaming decDigits -> zo, itoa -> ye, decDigits_length -> yq, decDigits_one -> jh
open Rat renaming num_divInt_den -> zz, divInt -> yh, divInt_add_divInt -> qg, num_eq_zero -> qn, num_divInt -> qy, den_divInt -> qz, neg_num -> j0, neg_den -> j5
open Nat renaming le_refl -> yb, zero_le -> yx, eq_zero_or_pos -> y7, lt_of_le_of_lt -> qd, ble_eq_true_of_le -> qh, sub -> qj, pow_le_pow_right -> qm, add_sub_cancel -> qq, lt_of_lt_of_le -> q9, add -> jj, ble -> kj, pow_succ -> kk
open UInt8 renaming ofNat -> yc, toNat -> yi, toNat_inj -> yp
open Go.Pe.Ad renaming of -> yu
open Classical renaming byContradiction -> je
open Go.Pe.Obj renaming tbox -> ji
open Go.Pe.Sh renaming int -> ke
namespace Go.Pe
open Sp
open Go.Det
namespace T165
theorem Aj{Q:PV->Ob->Prop}(s:List UInt8)(hs:Al s=true)(hl:s.length<=18)(hq:∀ob,Q (.dat i64 (AB 0 s)) ob):∀(r:List UInt8) (i:Nat),s.drop i=r->i<=s.length->Ends jH (L1 s (AB 0 (s.take i)) i) Q
 |[],i,h,hi=>by
  have he:i=s.length:=drop_nil h hi;subst he;rw[yf];exact zm (Ar ..) (zt (by simp) (zh (hq _)))
 |c::r,i,h,hi=>by
  obtain⟨h1,h2,h3⟩:=drop_cons (d:=0) h;have hb:=Be (Bf hs i);have hlen:(s.take i).length=i:=by rw[zu];omega
  rw[hlen]at hb;have hp:(10:Int)^i<=10^17:=AH (by decide) (by omega);have hc:BL c=true:=by
   unfold Al at hs;rw[qi]at hs;exact hs c (PE h)
  have hd:=CU hc;have hc0:48<=c.toNat/\c.toNat<=57:=by unfold HH at hd;omega
  have e1:zg .i64 (c.toNat:Int)=(c.toNat:Int):=wr _ (by omega) (by omega);have hp17:(10:Int)^17=100000000000000000:=by decide
  have e2:zg .i64 (zg .i64 (zg .i64 (10*AB 0 (s.take i))+(c.toNat:Int))-48)=AB 0 (s.take (i+1)):=by
   rw[Md h,CL];show _=10*AB 0 (s.take i)+((c.toNat:Int)-48);generalize AB 0 (s.take i)=D at*;rw[wr (10*D) (by omega) (by omega),wr (10*D+(c.toNat:Int)) (by omega) (by omega),wr _ (by omega) (by omega)];omega
  have e3:zg .i64 ((i:Int)+1)=((i+1:Nat):Int):=by rw[wr _ (by omega) (by omega)];omega
  refine zm (Ar ..) (zc (by simp;omega) ?_);rw[zj,h2,e1,e2,e3];exact zc (by simp;omega) (Aj s hs hl hq r (i+1) h3 h1)
theorem ok:Ag Bg 165 S0:=by
 refine B1 SD (fun(s:List UInt8) hs=>?_);have hs:(decide (s.length<=18)&&Al s)=true:=hs;rw[ze,w5]at hs;exact yj (Am s) (Aj s hs.2 hs.1 (fun ob=>yu rfl rfl rfl) s 0 rfl (yx _))
end T165
theorem kU:DM Z4:=Ab T165.ok (Ab T168.ok AP)
theorem Mn{neg:Bool}{w:List Int}{D:Int}(hd:Aw z7 w)(hv:yy z7 w=D):(BK neg w,Aq w)=(Sp.rN (if neg=true then -D else D),Sp.rW (if neg=true then -D else D)):=by
 have h0:=AA (b:=z7) (by decide) hd;rw[hv]at h0;have hw:Aq w=By D:=by rw[FU hd];show By (yy z7 w)=_;rw[hv]
 have hnil:By D=[]↔D=0:=aU (by decide) h0;have ea:Ae (if neg=true then -D else D)=D:=by rw[Ah];split<;>omega
 unfold BK Sp.rW Sp.rN;rw[ea,hw];congr 1;cases neg with
 |false=>simp;omega
 |true=>
  simp only[wk,yr,wm,hnil,decide_eq_decide];omega
namespace T163
variable {Q:PV->Ob->Prop}
theorem xF:(10:Int)^9=1000000000:=by decide
theorem Jd{s:List UInt8}{m:Nat}(hm:m+9=s.length):AB 0 s=AB 0 (s.take m)*1000000000+AB 0 (s.drop m):=by
 conv=>lhs;rw[<-qf m s]
 rw[CL,Ey (s.drop m),zl,show s.length-m=9 by omega,xF]
theorem Co{s:List UInt8}(hs:Al s=true)(h:s.length<=9):0<=AB 0 s/\AB 0 s<1000000000:=by
 have:=Be hs;have h2:(10:Int)^s.length<=10^9:=AH (by decide) h;rw[xF]at h2;omega
theorem BW{s:List UInt8}(hs:Al s=true)(h:s.length<=18):DL s=true:=by
 unfold DL;rw[hs,j8];exact w4 h
theorem Cz(neg:Bool)(D:Int)(hq:∀(w:List Int) ob,Aw z7 w->yy z7 w=D->Q (.agg [.dat .bool (BK neg w),.dat li (Aq w)]) ob):∀(f:Nat) (s:List UInt8) (o1:List Int),s.length<=f->Al s=true->o1.length+s.length<=6000->Aw z7 o1->yy z7 o1+(z7:Int)^o1.length*AB 0 s=D->Ends Z4 (L3 s neg o1.length o1) Q:=by
 intro f;induction f with
 |zero=>
  intro s o1 hf hs hl hd he;have h9:s.length<=9:=by omega
  have hv:=Co hs h9;have ht:(o1++[Bw s]).take (jj o1.length 1)=o1++[Bw s]:=zq (by simp);refine zm (C2 ..) (zt (by simp;omega) (zc (BW hs (by omega)) (zc (by simp;omega) ?_)));rw[ht];refine zc (by simp;omega) (zh (hq _ _ (E7 hd hv) ?_));rw[B8];exact he
 |succ f ih=>
  intro s o1 hf hs hl hd he;by_cases h9:s.length<=9
  ·have hv:=Co hs h9;have ht:(o1++[Bw s]).take (jj o1.length 1)=o1++[Bw s]:=zq (by simp);refine zm (C2 ..) (zt (by simp;omega) (zc (BW hs (by omega)) (zc (by simp;omega) ?_)));rw[ht];refine zc (by simp;omega) (zh (hq _ _ (E7 hd hv) ?_));rw[B8];exact he
  ·obtain⟨m,hm⟩:∃m,m+9=s.length:=⟨s.length-9,by omega⟩;have e1:zg .i64 ((s.length:Int)-9)=(m:Int):=by rw[wr _ (by omega) (by omega)];omega
   have e2:(s.drop m).take (qj s.length m)=s.drop m:=zq (by rw[zl];exact yb _);have hv:=Co (BO hs m) (by rw[zl];omega);refine zm (C2 ..) (zc (by simp;omega) ?_);rw[e1,zj,e2];refine zc (by simp;omega) (zc (BW (BO hs m) (by rw[zl];omega)) (zc (by simp;omega) (zc (by simp;omega) ?_)));have:=ih (s.take m) (o1++[Bw (s.drop m)]) (by rw[zu];omega) (Bf hs m) (by simp;omega) (E7 hd hv) (by
    rw[B8,zn];show yy z7 o1+(z7:Int)^o1.length*AB 0 (s.drop m)+(z7:Int)^(o1.length+1)*AB 0 (s.take m)=D;rw[Jv,j9, <-Int.mul_add, <-he,Jd hm];congr 2;omega)
   rw[zn]at this;exact this
theorem BQ(D:Int)(hq:∀(w:List Int) ob,Aw z7 w->yy z7 w=D->Q (.agg [.dat .bool (BK false w),.dat li (Aq w)]) ob):∀(f:Nat) (s:List UInt8) (o1:List Int),s.length<=f->Al s=true->o1.length+s.length<=6000->Aw z7 o1->yy z7 o1+(z7:Int)^o1.length*AB 0 s=D->Ends Z4 (L4 s o1.length o1) Q:=by
 intro f;induction f with
 |zero=>
  intro s o1 hf hs hl hd he;have h9:s.length<=9:=by omega
  have hv:=Co hs h9;have ht:(o1++[Bw s]).take (jj o1.length 1)=o1++[Bw s]:=zq (by simp);refine zm (DD ..) (zt (by simp;omega) (zc (BW hs (by omega)) (zc (by simp;omega) ?_)));rw[ht];refine zc (by simp;omega) (zh (hq _ _ (E7 hd hv) ?_));rw[B8];exact he
 |succ f ih=>
  intro s o1 hf hs hl hd he;by_cases h9:s.length<=9
  ·have hv:=Co hs h9;have ht:(o1++[Bw s]).take (jj o1.length 1)=o1++[Bw s]:=zq (by simp);refine zm (DD ..) (zt (by simp;omega) (zc (BW hs (by omega)) (zc (by simp;omega) ?_)));rw[ht];refine zc (by simp;omega) (zh (hq _ _ (E7 hd hv) ?_));rw[B8];exact he
  ·obtain⟨m,hm⟩:∃m,m+9=s.length:=⟨s.length-9,by omega⟩;have e1:zg .i64 ((s.length:Int)-9)=(m:Int):=by rw[wr _ (by omega) (by omega)];omega
   have e2:(s.drop m).take (qj s.length m)=s.drop m:=zq (by rw[zl];exact yb _);have hv:=Co (BO hs m) (by rw[zl];omega);refine zm (DD ..) (zc (by simp;omega) ?_);rw[e1,zj,e2];refine zc (by simp;omega) (zc (BW (BO hs m) (by rw[zl];omega)) (zc (by simp;omega) (zc (by simp;omega) ?_)));have:=ih (s.take m) (o1++[Bw (s.drop m)]) (by rw[zu];omega) (Bf hs m) (by simp;omega) (E7 hd hv) (by
    rw[B8,zn];show yy z7 o1+(z7:Int)^o1.length*AB 0 (s.drop m)+(z7:Int)^(o1.length+1)*AB 0 (s.take m)=D;rw[Jv,j9, <-Int.mul_add, <-he,Jd hm];congr 2;omega)
   rw[zn]at this;exact this
theorem Aj(neg:Bool)(s:List UInt8)(hs:Al s=true)(hl:s.length<=5999)(hq:∀(w:List Int) ob,Aw z7 w->yy z7 w=AB 0 s->Q (.agg [.dat .bool (BK neg w),.dat li (Aq w)]) ob):Ends Z4 (L1 s neg) Q:=by
 by_cases h9:s.length<=9
 ·have hv:=Co hs h9;refine zm (Ar ..) (zt (by simp;omega) (zc (BW hs (by omega)) (zc rfl (zc rfl (zh (hq _ _ (E7 (l:=[]) (fun x hx=>by cases hx) hv) ?_))))));show yy z7 [AB 0 s]=_;exact Ee _
 ·obtain⟨m,hm⟩:∃m,m+9=s.length:=⟨s.length-9,by omega⟩;have e1:zg .i64 ((s.length:Int)-9)=(m:Int):=by rw[wr _ (by omega) (by omega)];omega
  have e2:(s.drop m).take (qj s.length m)=s.drop m:=zq (by rw[zl];exact yb _);have hv:=Co (BO hs m) (by rw[zl];omega);refine zm (Ar ..) (zc (by simp;omega) ?_);rw[e1,zj,e2];refine zc (by simp;omega) (zc (BW (BO hs m) (by rw[zl];omega)) (zc rfl (zc (by simp;omega) ?_)));refine Cz neg (AB 0 s) hq m (s.take m) [Bw (s.drop m)] (by rw[zu];omega) (Bf hs m) (by simp;omega) (E7 (l:=[]) (fun x hx=>by cases hx) hv) ?_;rw[Ee,Jd hm];show AB 0 (s.drop m)+(z7:Int)^1*_=_;rw[yz,Int.pow_zero,jt,qo];exact Int.add_comm _ _
theorem AQ(s:List UInt8)(hs:Al s=true)(hl:s.length<=5999)(hq:∀(w:List Int) ob,Aw z7 w->yy z7 w=AB 0 s->Q (.agg [.dat .bool (BK false w),.dat li (Aq w)]) ob):Ends Z4 (L2 s) Q:=by
 by_cases h9:s.length<=9
 ·have hv:=Co hs h9;refine zm (AZ ..) (zt (by simp;omega) (zc (BW hs (by omega)) (zc rfl (zc rfl (zh (hq _ _ (E7 (l:=[]) (fun x hx=>by cases hx) hv) ?_))))));show yy z7 [AB 0 s]=_;exact Ee _
 ·obtain⟨m,hm⟩:∃m,m+9=s.length:=⟨s.length-9,by omega⟩;have e1:zg .i64 ((s.length:Int)-9)=(m:Int):=by rw[wr _ (by omega) (by omega)];omega
  have e2:(s.drop m).take (qj s.length m)=s.drop m:=zq (by rw[zl];exact yb _);have hv:=Co (BO hs m) (by rw[zl];omega);refine zm (AZ ..) (zc (by simp;omega) ?_);rw[e1,zj,e2];refine zc (by simp;omega) (zc (BW (BO hs m) (by rw[zl];omega)) (zc rfl (zc (by simp;omega) ?_)));refine BQ (AB 0 s) hq m (s.take m) [Bw (s.drop m)] (by rw[zu];omega) (Bf hs m) (by simp;omega) (E7 (l:=[]) (fun x hx=>by cases hx) hv) ?_;rw[Ee,Jd hm];show AB 0 (s.drop m)+(z7:Int)^1*_=_;rw[yz,Int.pow_zero,jt,qo];exact Int.add_comm _ _
theorem ok:Ag Bg 163 Q8:=by
 refine B1 kU (fun(s:List UInt8) hs=>?_);have hs:(decide (s.length<=5999)&&(if s.getD 0 0=45 then Al (s.drop 1)else Al s))=true:=hs;rw[ze,w5]at hs;obtain⟨hl,hs⟩:=hs;have fin:∀(neg:Bool) (D:Int),Cc s=(if neg=true then -D else D)->∀(w:List Int) ob,Aw z7 w->yy z7 w=D->Ad Q8 s (.agg [.dat .bool (BK neg w),.dat li (Aq w)]) ob:=by
  intro neg D hr w ob hd hv;refine yu rfl rfl ?_;show(BK neg w,Aq w)=(Sp.rN (Cc s),Sp.rW (Cc s));rw[hr];exact Mn hd hv
 refine yj (Am s) ?_;conv=>zeta
 cases s with
 |nil=>exact zt (by decide) (AQ [] rfl (by decide) (fin false 0 rfl))
 |cons c r=>
  have g0:(c::r).getD 0 0=c:=rfl;rw[g0]at hs;rw[g0];refine zc (by simp) (zc (by simp) (zp (fun d=>?_) (fun d=>?_)))
  ·have hc:c=45:=by
    have:(c.toNat:Int)=45:=by simpa using d
    exact yp.1 (by show _=45;omega)
   rw[wd hc]at hs;have e:(List.drop 1 (c::r)).take (qj (c::r).length 1)=r:=by show r.take ((r.length+1)-1)=r;rw[qq];exact yf
   rw[d,e];refine zc (by simp) (Aj true r hs (by simp at hl;omega) (fin true _ ?_));unfold Cc;rw[g0,wd hc,wd rfl];rfl
  ·have hc:c≠45:=by
    rintro rfl;exact wh d (by decide)
   rw[wc hc]at hs;rw[d];refine Aj false (c::r) hs hl (fin false _ ?_);unfold Cc;rw[g0,wc hc,wc (by decide)]
end T163
theorem nF:DM P4:=
 Ab T105n.ok (Ab T216.ok (Ab T159.ok (Ab T158.ok (Ab T174.ok (Ab (GH (by kernel_rfl) (BA (by kernel_rfl))) (Ab (GH (by kernel_rfl) (BA (by kernel_rfl))) AP))))))
theorem Sk(k:Nat):Es 18 (k:Int)=((min 18 k:Nat):Int):=by unfold Es;split<;>omega
theorem qU(n:Int):zg .u8 n=n % 256:=by simp[zg,IntKind.bits,IntKind.signed]
theorem jB(k:Nat):(10:Int)^k<=(Ak:Int)^k:=by
 induction k with
 |zero=>exact jz _
 |succ k ih=>
  rw[yz,yz];have h1:=yg ih (show(0:Int)<=10 by decide);have h2:=zw (show(10:Int)<=(Ak:Int)by decide) (z8 (AN (b:=Ak) (by decide) k));exact qp h1 h2
theorem Gf{n:Int}(h0:0<=n)(h:n<(10:Int)^(6000:Nat)):A6 (CO n)=true:=by
 refine DF ?_;have h1:=jB 6000;have h2:(Ak:Int)^6000<=(Ak:Int)^9000:=AH (by decide) (by decide);have h3:Ae n=n:=by rw[Ah];omega
 rw[h3];exact zx h (qp h1 h2)
theorem M9(m n:Int):EW (Cw m,Cu m) (Cw n,Cu n)=Cw (m*n)/\EK (Cw m,Cu m) (Cw n,Cu n)=Cu (m*n):=by
 constructor
 ·show Cw (zk (CO _)*zk (CO _))=_;rw[Cm,Cm]
 ·show Cu (zk (CO _)*zk (CO _))=_;rw[Cm,Cm]
theorem nI{a b:AS}(h:0<=zk a+zk b):En a b=CO (zk a+zk b):=by
 unfold En;split
 ·next c=>
  have:=Eh c.2.2;rw[Bl c.1,Bl c.2.1]at h ⊢;exact(BX (by omega)).symm
 ·rfl
theorem Nv{m v:Int}(hm:0<=m)(hv:0<=v):H2 (Cw m,Cu m) (v,Cv v)=Cw (m+v)/\Iu (Cw m,Cu m) (v,Cv v)=Cu (m+v):=by
 have e1:zk (Cw m,Cu m)=m:=Cm m;have e2:zk (v,Cv v)=v:=by rw[Ej,Ew]
 have:=nI (a:=(Cw m,Cu m)) (b:=(v,Cv v)) (by rw[e1,e2];omega);rw[e1,e2]at this;exact⟨wi Prod.fst this,wi Prod.snd this⟩
theorem Nc(n:Nat):S4 ((10:Int),Cv (10:Int)) (n:Int)=Cw (10^n)/\UL ((10:Int),Cv (10:Int)) (n:Int)=Cu (10^n):=by
 have e:Sp.pI (zk ((10:Int),Cv (10:Int))) (n:Int)=10^n:=by rw[Rw,Ej,Ew,zj]
 unfold S4 UL;rw[e];exact⟨rfl,rfl⟩
theorem dC:A6 ((10:Int),Cv (10:Int))=true:=by rw[Ej];decide
theorem fO{n:Nat}(h:n<=18):hZ (zk ((10:Int),Cv (10:Int))) (n:Int)=true:=by
 unfold hZ;have e:Sp.pI (zk ((10:Int),Cv (10:Int))) (n:Int)=10^n:=by rw[Rw,Ej,Ew,zj]
 rw[e];have h1:(10:Int)^n<=10^18:=AH (by decide) h;have h0:(0:Int)<10^n:=AN (by decide) n;have h2:(10:Int)^18<18446744073709551616^1:=by decide
 have h3:(18446744073709551616:Int)^(1:Nat)<=18446744073709551616^(4000:Nat):=AH (by decide) (by decide);have h4:Ae ((10:Int)^n)=10^n:=by rw[Ah];omega
 rw[h4];exact Aa (Aa (w4 (by omega)) (w4 (by omega))) (w4 (ya h1 (zx h2 h3)))
theorem S9{v:Int}(h0:0<=v)(h:v<1000000000000000000):A6 (v,Cv v)=true:=by
 rw[Ej];unfold A6;exact Aa (KK (C3 (by omega) (by omega))) (w4 (yx _))
theorem WL{w:List UInt8}(hs:Al w=true)(h:w.length<=18):0<=AB 0 w/\AB 0 w<1000000000000000000:=by
 have:=Be hs;have h2:(10:Int)^w.length<=10^18:=AH (by decide) h;have h3:(10:Int)^18=1000000000000000000:=by decide
 omega
namespace T153
variable {Q:PV->Ob->Prop}
theorem Cg(W:List UInt8)(neg:Bool)(b1:Int)(b1w:List Int)(b0:Int)(w:List UInt8)(n:Nat)(hw:w=W.take n)(hW:Al W=true)(hn:n=min 18 W.length)(h1:1<=W.length)(a o0':Int)(a0:0<=a)(hj:A6 (CO a)=true)(hj2:A6 (CO (a*10^n))=true)
  (hgo:Ends P4 (L5 (W.drop n) neg (Cw (a*10^n+AB 0 w)) (Cu (a*10^n+AB 0 w)) o0') Q):
  ∀(r:List UInt8) (j:Nat),w.drop j=r->j<=w.length->Ends P4 (L7 W neg b1 b1w b0 w (AB 0 (w.take j)) w.length w.length j (w.map fun b=>(b.toNat:Int)) (Cw a) (Cu a) o0') Q
 |[],j,hr,hjw=>by
  have hdw:Al w=true:=by rw[hw];exact Bf hW n
  have hwl:w.length=n:=by rw[hw,zu];omega
  have he:j=w.length:=drop_nil hr hjw;subst he;have hv:=WL hdw (by omega);obtain⟨c,t,hc⟩:∃c t,w=c::t:=by
   cases w with
   |nil=>simp at hwl;omega
   |cons c t=>exact⟨c,t,rfl⟩
  have hc0:((((w.getD 0 0).toNat:Int)==(45:Int))=false):=by
   rw[hc]at hdw ⊢;unfold Al at hdw;rw[yd,ze]at hdw;have:=CU hdw.1;unfold HH at this;show(((c.toNat:Int)==(45:Int))=false);simp;omega
  have ht:(W.drop n).take (qj W.length n)=W.drop n:=zq (by rw[zl];exact yb _);have p0:0<=a*10^n:=qt a0 (z8 (AN (by decide) n));have jp:A6 (Cw (10^n),Cu (10^n))=true:=by
   refine Ft (Gf (n:=(10:Int)^n) (z8 (AN (by decide) n)) ?_);have x1:(10:Int)^n<=10^18:=AH (by decide) (by omega);have x2:(10:Int)^18<10^19:=by decide
   have x3:(10:Int)^19<=10^(6000:Nat):=AH (by decide) (by decide);exact ya x1 (zx x2 x3)
  refine zm (F9 ..) (zt (by simp) (zc (w4 (by omega)) ?_));rw[hc0,Sk, <-hn,(Nc n).1,(Nc n).2,yf];refine zt rfl (zc rfl (zc (Aa dC (fO (by omega))) (zc (Aa hj jp) (zc rfl ?_))));rw[(M9 _ _).1,(M9 _ _).2,(Nv p0 hv.1).1,(Nv p0 hv.1).2,zj,ht];exact zc (Aa hj2 (S9 hv.1 hv.2)) (zc (by simp;omega) hgo)
 |c::r,j,hr,hjw=>by
  have hdw:Al w=true:=by rw[hw];exact Bf hW n
  have hwl:w.length=n:=by rw[hw,zu];omega
  obtain⟨g1,g2,g3⟩:=drop_cons (d:=0) hr;have hcd:BL c=true:=by
   unfold Al at hdw;rw[qi]at hdw;exact hdw c (PE hr)
  have hd:=CU hcd;have hlt:(w.take j).length=j:=by rw[zu];omega
  have hb:=Be (Bf hdw j);rw[hlt]at hb;have hp:(10:Int)^j<=10^17:=AH (by decide) (by omega);have hp17:(10:Int)^17=100000000000000000:=by decide
  have gm:(w.map fun b=>(b.toNat:Int)).getD j 0=(c.toNat:Int):=by
   rw[yo,List.getElem?_map,yt g1];have:w[j]=c:=by rw[<-g2,yo,yt g1];rfl
   rw[this];rfl
  have e8:zg .u8 ((c.toNat:Int)-48)=HH c:=by
   rw[qU];unfold HH at hd ⊢;omega
  have e2:zg .i64 (zg .i64 (AB 0 (w.take j)*10)+zg .i64 (HH c))=AB 0 (w.take (j+1)):=by
   rw[Md hr,CL];show _=10*AB 0 (w.take j)+HH c;generalize AB 0 (w.take j)=D at*;rw[wr (D*10) (by omega) (by omega),wr (HH c) (by omega) (by omega),wr _ (by omega) (by omega)];omega
  have e3:zg .i64 ((j:Int)+1)=((j+1:Nat):Int):=by rw[wr _ (by omega) (by omega)];omega
  refine zm (F9 ..) (zc (by simp;omega) ?_);rw[zj,gm,e8,e2,e3];refine zc (by simp;omega) (zc (by simp;omega) (zt (w8 (by omega)) ?_));exact Cg W neg b1 b1w b0 w n hw hW hn h1 a o0' a0 hj hj2 hgo r (j+1) g3 g1
theorem Cz(W:List UInt8)(neg:Bool)(b1:Int)(b0:Int)(w:List UInt8)(n:Nat)(hw:w=W.take n)(hW:Al W=true)(hn:n=min 18 W.length)(h1:1<=W.length)(a o0':Int)(ha:a=0)(a0:0<=a)(hj:A6 (CO a)=true)(hj2:A6 (CO (a*10^n))=true)
  (hgo:Ends P4 (L5 (W.drop n) neg (Cw (a*10^n+AB 0 w)) (Cu (a*10^n+AB 0 w)) o0') Q):
  ∀(r:List UInt8) (j:Nat),w.drop j=r->j<=w.length->Ends P4 (L3 W neg b1 b0 w (AB 0 (w.take j)) w.length w.length j (w.map fun b=>(b.toNat:Int)) 0 o0') Q
 |[],j,hr,hjw=>by
  have hdw:Al w=true:=by rw[hw];exact Bf hW n
  have hwl:w.length=n:=by rw[hw,zu];omega
  have he:j=w.length:=drop_nil hr hjw;subst he;have hv:=WL hdw (by omega);obtain⟨c,t,hc⟩:∃c t,w=c::t:=by
   cases w with
   |nil=>simp at hwl;omega
   |cons c t=>exact⟨c,t,rfl⟩
  have hc0:((((w.getD 0 0).toNat:Int)==(45:Int))=false):=by
   rw[hc]at hdw ⊢;unfold Al at hdw;rw[yd,ze]at hdw;have:=CU hdw.1;unfold HH at this;show(((c.toNat:Int)==(45:Int))=false);simp;omega
  have ht:(W.drop n).take (qj W.length n)=W.drop n:=zq (by rw[zl];exact yb _);have p0:0<=a*10^n:=qt a0 (z8 (AN (by decide) n));have jp:A6 (Cw (10^n),Cu (10^n))=true:=by
   refine Ft (Gf (n:=(10:Int)^n) (z8 (AN (by decide) n)) ?_);have x1:(10:Int)^n<=10^18:=AH (by decide) (by omega);have x2:(10:Int)^18<10^19:=by decide
   have x3:(10:Int)^19<=10^(6000:Nat):=AH (by decide) (by decide);exact ya x1 (zx x2 x3)
  refine zm (C2 ..) (zt (by simp) (zc (w4 (by omega)) ?_));rw[hc0,Sk, <-hn,(Nc n).1,(Nc n).2,yf];refine zt rfl (zc rfl (zc (Aa dC (fO (by omega))) (zc (Aa (show A6 ((0:Int),[])=true by decide) jp) (zc rfl ?_))));rw[show EW ((0:Int),[]) (Cw (10^n),Cu (10^n))=Cw (a*10^n)by rw[ha];exact(M9 0 _).1,show EK ((0:Int),[]) (Cw (10^n),Cu (10^n))=Cu (a*10^n)by rw[ha];exact(M9 0 _).2,(Nv p0 hv.1).1,(Nv p0 hv.1).2,zj,ht];exact zc (Aa hj2 (S9 hv.1 hv.2)) (zc (by simp;omega) hgo)
 |c::r,j,hr,hjw=>by
  have hdw:Al w=true:=by rw[hw];exact Bf hW n
  have hwl:w.length=n:=by rw[hw,zu];omega
  obtain⟨g1,g2,g3⟩:=drop_cons (d:=0) hr;have hcd:BL c=true:=by
   unfold Al at hdw;rw[qi]at hdw;exact hdw c (PE hr)
  have hd:=CU hcd;have hlt:(w.take j).length=j:=by rw[zu];omega
  have hb:=Be (Bf hdw j);rw[hlt]at hb;have hp:(10:Int)^j<=10^17:=AH (by decide) (by omega);have hp17:(10:Int)^17=100000000000000000:=by decide
  have gm:(w.map fun b=>(b.toNat:Int)).getD j 0=(c.toNat:Int):=by
   rw[yo,List.getElem?_map,yt g1];have:w[j]=c:=by rw[<-g2,yo,yt g1];rfl
   rw[this];rfl
  have e8:zg .u8 ((c.toNat:Int)-48)=HH c:=by
   rw[qU];unfold HH at hd ⊢;omega
  have e2:zg .i64 (zg .i64 (AB 0 (w.take j)*10)+zg .i64 (HH c))=AB 0 (w.take (j+1)):=by
   rw[Md hr,CL];show _=10*AB 0 (w.take j)+HH c;generalize AB 0 (w.take j)=D at*;rw[wr (D*10) (by omega) (by omega),wr (HH c) (by omega) (by omega),wr _ (by omega) (by omega)];omega
  have e3:zg .i64 ((j:Int)+1)=((j+1:Nat):Int):=by rw[wr _ (by omega) (by omega)];omega
  refine zm (C2 ..) (zc (by simp;omega) ?_);rw[zj,gm,e8,e2,e3];refine zc (by simp;omega) (zc (by simp;omega) (zt (w8 (by omega)) ?_));exact Cz W neg b1 b0 w n hw hW hn h1 a o0' ha a0 hj hj2 hgo r (j+1) g3 g1
theorem nP(W:List UInt8)(neg:Bool)(o1:Int)(o1w:List Int)(o0:Int)(hW:Al W=true)(h1:1<=W.length)(n:Nat)(hn:n=min 18 W.length)
  (h:Ends P4 (L7 W neg o1 o1w o0 (W.take n) 0 (W.take n).length (W.take n).length 0 ((W.take n).map fun b=>(b.toNat:Int)) o1 o1w o0) Q):Ends P4 (L5 W neg o1 o1w o0) Q:=by
 have hwl:(W.take n).length=n:=by rw[zu];omega
 have hdw:=Bf hW n;have hc:((((W.take n).getD 0 0).toNat:Int)==(45:Int))=false/\((((W.take n).getD 0 0).toNat:Int)==(43:Int))=false:=by
  cases hq:W.take n with
  |nil=>rw[hq]at hwl;simp at hwl;omega
  |cons c t=>
   rw[hq]at hdw;unfold Al at hdw;rw[yd,ze]at hdw;have:=CU hdw.1;unfold HH at this;show(((c.toNat:Int)==(45:Int))=false)/\(((c.toNat:Int)==(43:Int))=false);constructor<;>(simp;omega)
 refine zm (GO ..) (zc (by simp;omega) ?_);rw[Sk, <-hn,zj,hc.1,hc.2];exact zc (by simp;omega) (zc (w4 (by omega)) (zc (w4 (by omega)) (zc (w4 (by omega)) (zt rfl (zc (w4 (by omega)) (zt rfl h))))))
theorem mT(W:List UInt8)(neg:Bool)(o1:Int)(o0:Int)(hW:Al W=true)(h1:1<=W.length)(n:Nat)(hn:n=min 18 W.length)
  (h:Ends P4 (L3 W neg o1 o0 (W.take n) 0 (W.take n).length (W.take n).length 0 ((W.take n).map fun b=>(b.toNat:Int)) o1 o0) Q):Ends P4 (L1 W neg o1 o0) Q:=by
 have hwl:(W.take n).length=n:=by rw[zu];omega
 have hdw:=Bf hW n;have hc:((((W.take n).getD 0 0).toNat:Int)==(45:Int))=false/\((((W.take n).getD 0 0).toNat:Int)==(43:Int))=false:=by
  cases hq:W.take n with
  |nil=>rw[hq]at hwl;simp at hwl;omega
  |cons c t=>
   rw[hq]at hdw;unfold Al at hdw;rw[yd,ze]at hdw;have:=CU hdw.1;unfold HH at this;show(((c.toNat:Int)==(45:Int))=false)/\(((c.toNat:Int)==(43:Int))=false);constructor<;>(simp;omega)
 refine zm (Ar ..) (zc (by simp;omega) ?_);rw[Sk, <-hn,zj,hc.1,hc.2];exact zc (by simp;omega) (zc (w4 (by omega)) (zc (w4 (by omega)) (zc (w4 (by omega)) (zt rfl (zc (w4 (by omega)) (zt rfl h))))))
theorem sJ(n:Int)(h:0<=n):(D3 (Cw n,Cu n),Ed (Cw n,Cu n))=CO (-n):=by
 show C4 (CO n)=_;unfold C4;split
 ·next c=>
  have:=Cm n;rw[Bl c.1]at this;rw[this,BX (n:= -n)];by_cases hb: -9223372036854775808<n/\n<9223372036854775808
  ·omega
  ·exfalso;have e:CO n=(1,Bs (Ae n)):=by unfold CO;rw[wc hb,wc (by omega)]
   rw[e]at this;have:(1:Int)=n:=this;omega
 ·rw[Cm]
theorem X8{a D:Int}{W:List UInt8}{n:Nat}(ha:0<=a)(hW:Al W=true)(hn:n<=W.length)(hD:a*10^W.length+AB 0 W=D):(a*10^n+AB 0 (W.take n))*10^(W.drop n).length+AB 0 (W.drop n)=D/\a<=D/\a*10^n<=D:=by
 have hs:AB 0 W=AB 0 (W.take n)*10^(W.drop n).length+AB 0 (W.drop n):=by
  conv=>lhs;rw[<-qf n W]
  rw[CL,Ey]
 have hl:W.length=n+(W.drop n).length:=by rw[zl];omega
 have hp:(10:Int)^W.length=10^n*10^(W.drop n).length:=by rw[<-Int.pow_add, <-hl]
 have hb:=(Be hW).1;have e1:a*10^W.length=a*10^n*10^(W.drop n).length:=by rw[hp,Int.mul_assoc]
 have one:∀k:Nat,(1:Int)<=10^k:=fun k=>by have:=AN (show(0:Int)<10 by decide) k;omega
 have l1:a<=a*10^W.length:=by have:=zw (one W.length) ha;omega
 have l2:a*10^n<=a*10^n*10^(W.drop n).length:=by
  have:=zw (one (W.drop n).length) (qt ha (show(0:Int)<=10^n by have:=one n;omega));omega
 refine⟨?_,by omega,by omega⟩;rw[Int.add_mul, <-e1];omega
theorem Cq(neg:Bool)(o0 D:Int)(hD1:D<(10:Int)^(6000:Nat))(hq:∀ob,Q (.agg [.dat i64 (Cw (if neg=true then -D else D)),.dat (.nlist u64) (Cu (if neg=true then -D else D))]) ob):∀(f:Nat) (W:List UInt8) (a:Int),W.length<f->W.length<=6000->0<=a->Al W=true->a*10^W.length+AB 0 W=D->Ends P4 (L5 W neg (Cw a) (Cu a) o0) Q
 |0,W,a,hf,_,_,_,_=>by omega
 |f+1,W,a,hf,h15,ha,hW,he=>by
  cases hW0:W with
  |nil=>
   subst hW0;have he:a=D:=by rw[<-he];simp[AB]
   subst he;have hok:=Gf ha hD1;refine zm (GO ..) (zt (by simp) (zp (fun c=>zc (BU hok).1 (zh ?_)) (fun c=>zh ?_)))
   ·have:=sJ a ha;rw[c,wd rfl]at hq;have x1:D3 (Cw a,Cu a)=Cw (-a):=wi Prod.fst this;have x2:Ed (Cw a,Cu a)=Cu (-a):=wi Prod.snd this;rw[x1,x2];exact hq _
   ·rw[c,wc (by decide)]at hq;exact hq _
  |cons c t=>
   rw[<-hW0];have h1:1<=W.length:=by rw[hW0];simp
   obtain⟨r1,r2,r3⟩:=X8 (n:=min 18 W.length) ha hW (by omega) he;have hv:=(Be (Bf hW (min 18 W.length))).1;have hp:0<=a*10^(min 18 W.length):=qt ha (z8 (AN (by decide) _));refine nP W neg _ _ o0 hW h1 _ rfl (Cg W neg _ _ o0 _ _ rfl hW rfl h1 a o0 ha (Gf ha (ya r2 hD1)) (Gf hp (ya r3 hD1)) ?_ _ 0 rfl (yx _));exact Cq neg o0 D hD1 hq f (W.drop (min 18 W.length)) _ (by rw[zl];omega) (by rw[zl];omega) (by omega) (BO hW _) r1
theorem Aj(neg:Bool)(W:List UInt8)(h15:W.length<=5999)(hW:Al W=true)(hq:∀ob,Q (.agg [.dat i64 (Cw (if neg=true then -AB 0 W else AB 0 W)),.dat (.nlist u64) (Cu (if neg=true then -AB 0 W else AB 0 W))]) ob)(hq0:W=[]->∀ob v,(v=.agg [.dat i64 0,.nil]\/v=.agg [.dat i64 (D3 ((0:Int),[])),.dat (.nlist u64) (Ed ((0:Int),[]))])->Q v ob):Ends P4 (L1 W neg 0 0) Q:=by
 cases hW0:W with
 |nil=>
  refine zm (Ar ..) (zt (by simp) (zp (fun c=>zc (by decide) (zh (hq0 hW0 _ _ (.inr rfl)))) (fun c=>zh (hq0 hW0 _ _ (.inl rfl)))))
 |cons c t=>
  rw[<-hW0];have h1:1<=W.length:=by rw[hW0];simp
  have hD1:AB 0 W<(10:Int)^(6000:Nat):=zx (Be hW).2 (AH (by decide) (by omega));obtain⟨r1,r2,r3⟩:=X8 (a:=0) (n:=min 18 W.length) (D:=AB 0 W) (jz _) hW (by omega) (by rw[Int.zero_mul,Int.zero_add]);have hv:=(Be (Bf hW (min 18 W.length))).1;refine mT W neg 0 0 hW h1 _ rfl (Cz W neg 0 0 _ _ rfl hW rfl h1 0 0 rfl (jz _) (by decide) (by rw[Int.zero_mul];decide) ?_ _ 0 rfl (yx _));exact Cq neg 0 _ hD1 hq (W.length+1) (W.drop (min 18 W.length)) _ (by rw[zl];omega) (by rw[zl];omega) (by omega) (BO hW _) r1
theorem ok:Ag Bg 153 OG:=by
 refine B1 nF (fun(s:List UInt8) hs=>?_);have hs:(decide (s.length<=5999)&&(if s.getD 0 0=45 then Al (s.drop 1)else Al s))=true:=hs;rw[ze,w5]at hs;obtain⟨hl,hs⟩:=hs;have fin:∀D,Cc s=D->∀ob,Ad OG s (.agg [.dat i64 (Cw D),.dat (.nlist u64) (Cu D)]) ob:=by
  rintro D rfl ob;exact yu rfl rfl rfl
 have fin0:Cc s=0->∀ob v,(v=.agg [.dat i64 0,.nil]\/v=.agg [.dat i64 (D3 ((0:Int),[])),.dat (.nlist u64) (Ed ((0:Int),[]))])->Ad OG s v ob:=by
  rintro h ob v (rfl|rfl)
  ·refine yu rfl rfl ?_;show((0:Int),([]:List Int))=(Cw (Cc s),Cu (Cc s));rw[h];rfl
  ·refine yu rfl rfl ?_;show C4 ((0:Int),([]:List Int))=(Cw (Cc s),Cu (Cc s));rw[h];rfl
 refine yj (Am s) ?_;conv=>zeta
 cases s with
 |nil=>
  refine zt (by decide) (zt (by decide) (zm (AZ ..) (zt (by decide) (zh (fin0 rfl _ _ (.inl rfl))))))
 |cons c r=>
  have ht:(c::r).take 1=[c]:=rfl;have g0:(c::r).getD 0 0=c:=rfl;rw[g0]at hs;have e:(List.drop 1 (c::r)).take (qj (c::r).length 1)=r:=by show r.take ((r.length+1)-1)=r;rw[qq];exact yf
  have b1:decide (((c::r).length:Int)>=1)=true:=w4 (by simp;omega);have b2:decide (1<=(c::r).length)=true:=w4 (by simp);rw[ht,e];refine zc b1 (zc b2 (zc b1 (zc b2 (zp (fun d=>?_) (fun d=>?_)))))
  ·have hc:c=45:=by simpa using d
   rw[wd hc]at hs;rw[d];have hr:Cc (c::r)= -AB 0 r:=by unfold Cc;rw[g0,wd hc];rfl
   refine zc (by simp) (Aj true r (by simp at hl;omega) hs (fin _ (by rw[hr,wd rfl])) (fun h0=>fin0 (by rw[hr,h0];rfl)))
  ·have hc:c≠45:=by rintro rfl;exact wh d (by decide)
   rw[wc hc]at hs;rw[d];have hr:Cc (c::r)=AB 0 (c::r):=by unfold Cc;rw[g0,wc hc]
   exact Aj false (c::r) hl hs (fin _ (by rw[hr,wc (by decide)])) (fun h0=>by cases h0)
end T153
namespace T83
theorem loop{Q:PV->Ob->Prop}(l:List Int)(hl:l.length<=1000000):∀(r:List Int) (i:Nat),l.drop i=r->i<=l.length->Q (.dat i64 (kf r)) []->Ends M5 (L1 l ((l.length:Int)) i) Q
 |[],i,h,hi,hq=>by
  refine zm (Ar ..) ?_;conv=>zeta
  have:¬i<l.length:=by
   intro h1;have:=List.drop_eq_getElem_cons h1;rw[h]at this;cases this
  have he:i=l.length:=by omega
  subst he;simpa [kf]using hq
 |x::r,i,h,hi,hq=>by
  obtain⟨h1,h2,h3⟩:=drop_cons (d:=0) h;refine zm (Ar ..) ?_;conv=>zeta
  rw[Kc,wd (by simp;omega),Kc,wd (by simp;omega),Kc];simp only[zj,h2];by_cases hx:x=0
  ·subst hx;rw[wc (by simp),wr _ (by omega) (by omega)];exact loop l hl r (i+1) h3 h1 (by simpa [kf]using hq)
  ·rw[wd (by simpa using hx)];simpa [kf,hx]using hq
theorem ok:Ag Bg 83 Hf:=by
 refine B1 Fa (fun l hl=>?_);refine yj (Am l) ?_;conv=>zeta
 exact loop l (by simpa [Hf]using hl) l 0 rfl (yx _) (yu rfl rfl rfl)
end T83
theorem T85.ok:Ag Bg 85 Qr:=by
 refine B1 Fa (fun⟨c,e⟩ _=>?_);refine yj (T85.Am c e) ?_;conv=>zeta
 have key:∀x:Int,x=Lq c e->Ad Qr (c,e) (.dat i64 x) []:=fun x hx=>yu rfl rfl hx
 simp only[Kc,ZA];cases c
 ·exact key _ rfl
 ·exact key _ rfl
theorem lQ:DM Lt:=
 Ab T83.ok (Ab T85.ok (Ab T149.ok (Ab T150.ok (Ab T151.ok (Ab T152.ok (Ab T153.ok (Ab T154.ok (Ab T105n.ok AP))))))))
theorem HC{s:List UInt8}(h:AT s=true):s≠[]/\Al s=true:=by
 unfold AT at h;rw[ze,ze,w5]at h;exact h.1
theorem Kq{s:List UInt8}(h:Al s=true)(hl:s.length<=5999):D7 s=true/\Cc s=AB 0 s:=by
 have h0:s.getD 0 0≠45:=by
  cases s with
  |nil=>decide
  |cons c r=>
   unfold Al at h;rw[yd,ze]at h;have:=CU h.1;rintro he;have he:c=45:=he;subst he;exact wh this (by decide)
 unfold D7 Cc;rw[wc h0,wc h0,h,j8];exact⟨w4 hl,rfl⟩
theorem rC{a b L:Int}(ha:0<=a)(hb:0<=b)(h1:a<L)(h2:b<L):0<=jo a b/\jo a b<L:=by
 rw[FQ];obtain⟨x,rfl⟩:=yv ha;obtain⟨y,rfl⟩:=yv hb;have e:qk (x:Int) (y:Int)=Nat.gcd x y:=rfl;rw[e];refine⟨Int.natCast_nonneg _,?_⟩;rcases y7 x with h|h
 ·subst h;rw[Nat.gcd_zero_left];exact h2
 ·have:=Nat.gcd_le_left y h;omega
namespace T77
variable {Q:PV->Ob->Prop}
def E(A B:List UInt8)(br form:Bool):Int:=if form=false then 1 else if 600<A.length\/600<B.length then 4 else if br=true/\jo (AB 0 A) (AB 0 B)≠1 then 1 else 0
theorem Fj(A B:List UInt8)(br:Bool)(hA:Al A=true)(hB:br=true->Al B=true)(lA:A.length<=600)(lB:B.length<=600)(hq:∀ob,Q (.dat i64 (if br=true/\jo (AB 0 A) (AB 0 B)≠1 then 1 else 0)) ob):Ends Lt (L8 A B br) Q:=by
 refine zm (Jz ..) (zp (fun c=>?_) (fun c=>?_))
 ·have hB:=hB c;obtain⟨r1,r2⟩:=Kq hA (by omega);obtain⟨r3,r4⟩:=Kq hB (by omega);have bA:=Be hA;have bB:=Be hB;have uA:AB 0 A<(10:Int)^(6000:Nat):=zx bA.2 (AH (by decide) (by omega));have uB:AB 0 B<(10:Int)^(6000:Nat):=zx bB.2 (AH (by decide) (by omega));have e1:Dd A=Cw (AB 0 A):=by unfold Dd;rw[r2]
  have e2:C5 A=Cu (AB 0 A):=by unfold C5;rw[r2]
  have e3:Dd B=Cw (AB 0 B):=by unfold Dd;rw[r4]
  have e4:C5 B=Cu (AB 0 B):=by unfold C5;rw[r4]
  have g1:MO (Cw (AB 0 A),Cu (AB 0 A)) (Cw (AB 0 B),Cu (AB 0 B))=Cw (jo (AB 0 A) (AB 0 B)):=by
   unfold MO;rw[Ko,Ko]
  have g2:Mt (Cw (AB 0 A),Cu (AB 0 A)) (Cw (AB 0 B),Cu (AB 0 B))=Cu (jo (AB 0 A) (AB 0 B)):=by
   unfold Mt;rw[Ko,Ko]
  obtain⟨l1,l2⟩:=rC bA.1 bB.1 uA uB;have ec:YJ (Cw (jo (AB 0 A) (AB 0 B)),Cu (jo (AB 0 A) (AB 0 B))) ((1:Int),Cv (1:Int))=BZ (jo (AB 0 A) (AB 0 B)) 1:=by
   unfold YJ;rw[Ko,Ej,Ew]
  rw[e1,e2,e3,e4,g1,g2,ec];have j1:A6 ((1:Int),Cv (1:Int))=true:=by rw[Ej];decide
  refine zc r1 (zc r3 (zc (Aa (Ft (Gf bA.1 uA)) (Ft (Gf bB.1 uB))) (zc rfl (zc (Aa (Ft (Gf l1 l2)) j1) ?_))));refine zm (wM ..) (zc rfl (zh ?_));generalize jo (AB 0 A) (AB 0 B)=g at*;have:Lq (BZ g 1 !=0) 1=if br=true/\g≠1 then 1 else 0:=by
   unfold BZ Lq;by_cases h:g=1
   ·subst h;rw[c];rfl
   ·have x3:(if br=true/\g≠1 then(1:Int)else 0)=1:=wd ⟨c,h⟩;rw[x3];rcases Int.lt_or_gt_of_ne h with q|q
    ·rw[wd q];rfl
    ·rw[wc (by omega),wd q];rfl
  rw[this];exact hq _
 ·refine zm tF (zc rfl (zh ?_));rw[wc (by rw[c];simp)]at hq;exact hq _
theorem Cg(A B:List UInt8)(br form c d:Bool)(hc:c= !form)(hd:d=true↔600<A.length\/600<B.length)(hf:form=true->Al A=true/\(br=true->Al B=true))(hq:∀ob,Q (.dat i64 (E A B br form)) ob):Ends Lt (L7 A B br (kf [Lq c 1,Lq d 4])) Q:=by
 subst hc;unfold E at hq;cases form with
 |false=>
  refine zm (F9 ..) (zc ?_ (zh (hq _)));cases d<;>rfl
 |true=>
  rw[wc (by decide)]at hq;cases d with
  |true=>
   rw[wd (hd.1 rfl)]at hq;exact zm (F9 ..) (zc rfl (zh (hq _)))
  |false=>
   have hn:¬(600<A.length\/600<B.length):=fun h=>by have:=hd.2 h;cases this
   rw[wc hn]at hq;obtain⟨f1,f2⟩:=hf rfl;exact zm (F9 ..) (zt rfl (Fj A B br f1 f2 (by omega) (by omega) hq))
theorem BQ(A B:List UInt8)(br form:Bool)(hf:form=true->Al A=true/\(br=true->Al B=true))(hq:∀ob,Q (.dat i64 (E A B br form)) ob):Ends Lt (L4 A B br form) Q:=by
 refine zm (DD ..) (zc rfl (zp (fun c=>zc rfl (zc rfl ?_)) (fun c=>zc rfl (zc rfl ?_))))
 ·have c:=w6 c;exact Cg A B br form _ _ rfl ⟨fun _=>.inl (by omega),fun _=>rfl⟩ hf hq
 ·have c:=w7 c;exact Cg A B br form _ _ rfl ⟨fun h=>.inr (by have:=w6 h;omega),fun h=>w4 (by omega)⟩ hf hq
theorem Cq(A B:List UInt8)(br:Bool)(hq:∀ob,Q (.dat i64 (E A B br false)) ob):Ends Lt (L5 A B br) Q:=by
 refine zm (GO ..) (zc rfl (zp (fun c=>zc rfl (zc rfl ?_)) (fun c=>zc rfl (zc rfl ?_))))
 ·have c:=w6 c;exact Cg A B br false _ _ rfl ⟨fun _=>.inl (by omega),fun _=>rfl⟩ (fun h=>by cases h) hq
 ·have c:=w7 c;exact Cg A B br false _ _ rfl ⟨fun h=>.inr (by have:=w6 h;omega),fun h=>w4 (by omega)⟩ (fun h=>by cases h) hq
theorem EF(A B:List UInt8)(br:Bool)(hf:Al A=true/\(br=true->Al B=true))(hq:∀ob,Q (.dat i64 (E A B br true)) ob):Ends Lt (L6 A B br) Q:=by
 refine zm (HP ..) (zc rfl (zp (fun c=>zc rfl (zc rfl ?_)) (fun c=>zc rfl (zc rfl ?_))))
 ·have c:=w6 c;exact Cg A B br true _ _ rfl ⟨fun _=>.inl (by omega),fun _=>rfl⟩ (fun _=>hf) hq
 ·have c:=w7 c;exact Cg A B br true _ _ rfl ⟨fun h=>.inr (by have:=w6 h;omega),fun h=>w4 (by omega)⟩ (fun _=>hf) hq
theorem TY{F:Tr}(A B:List UInt8)(br:Bool)(lB:B.length<=1000000)(hA:Al A=true)(form:Bool)(hform:form=(!br||(AT B&&decide (B≠[48])&&decide (B≠[49]))))(hq:∀ob,Q (.dat i64 (E A B br form)) ob)
  (h:(br=true->Ends Lt (.ite (decide (B.length<=1000000)) (.ite (AT B) (.ite (!B==[(48:UInt8)]) (L4 A B br (!B==[(49:UInt8)])) (L5 A B br)) (L5 A B br)) .fail) Q)->(br=false->form=true)->Ends Lt F Q):Ends Lt F Q:=by
 refine h (fun hb=>zc (w4 lB) ?_) (fun hb=>by rw[hform,hb];rfl);rw[hb]at hform;refine zp (fun c=>zp (fun d=>?_) (fun d=>?_)) (fun c=>?_)
 ·have d:B≠[48]:=by simpa using d
  have e:form=(!B==[(49:UInt8)]):=by
   rw[hform,c,w4 d];by_cases h:B=[49]
   ·rw[h];rfl
   ·rw[w4 h];simp[h]
  rw[<-e];exact BQ A B br form (fun _=>⟨hA,fun _=>(HC c).2⟩) hq
 ·have d:B=[48]:=by simpa using d
  have e:form=false:=by rw[hform,w8 (fun h=>h d)];simp
  rw[e]at hq;exact Cq A B br hq
 ·have e:form=false:=by rw[hform,c];simp
  rw[e]at hq;exact Cq A B br hq
theorem CZ(s:List UInt8):(Ay s).length<=s.length/\(zy s).length<=s.length:=by
 unfold Ay zy;cases s.findIdx? (fun x=>x==47)with
 |none=>simp
 |some i=>simp;omega
theorem W6(s:List UInt8):(AY s).length<=s.length:=by
 unfold AY;split
 ·simp
 ·exact yb _
theorem ok:Ag Bg 77 DG:=by
 refine B1 lQ (fun(a:List UInt8) hl=>?_);have hl:a.length<=1000000:=w6 hl;have l1:=W6 a;obtain⟨l2,l3⟩:=CZ (AY a);have hq:∀form,form=Gi a->∀ob,Ad DG a (.dat i64 (E (Ay (AY a)) (zy (AY a)) (Bn (AY a)) form)) ob:=by
  rintro form rfl ob;exact yu rfl rfl rfl
 have hfm:Gi a=(AT (Ay (AY a))&&(!kg a||decide (Ay (AY a)≠[48]))&&(!Bn (AY a)||(AT (zy (AY a))&&decide (zy (AY a)≠[48])&&decide (zy (AY a)≠[49])))):=rfl;refine yj (Am a) (zc (Aa (w4 rfl) (w4 hl)) (zc (Aa (w4 rfl) (w4 (by omega))) (zc (w4 (by omega)) ?_)));generalize Ay (AY a)=A at*;generalize zy (AY a)=B at*;generalize Bn (AY a)=br at*;refine zp (fun c=>?_) (fun c=>?_)
 ·have hA:=(HC c).2;refine zp (fun d=>?_) (fun d=>?_)
  ·have ef:Gi a=(!br||(AT B&&decide (B≠[48])&&decide (B≠[49]))):=by rw[hfm,c,d];rfl
   refine TY A B br (by omega) hA (Gi a) ef (hq _ rfl) (fun h1 h2=>zm (Ar ..) (zp h1 (fun e=>?_)));have h3:=h2 e;exact EF A B br ⟨hA,fun h=>by rw[e]at h;cases h⟩ (hq true h3.symm)
  ·by_cases hz:A=[48]
   ·have ef:Gi a=false:=by rw[hfm,d,w8 (fun h=>h hz)];simp
    have e8:(!A==[(48:UInt8)])=false:=by rw[hz];rfl
    rw[e8];refine zm (AZ ..) (zp (fun e=>zt rfl (Cq A B br (hq false ef.symm))) (fun e=>BQ A B br false (fun h=>by cases h) (hq false ef.symm)))
   ·have e8:(!A==[(48:UInt8)])=true:=by simp[hz]
    have ef:Gi a=(!br||(AT B&&decide (B≠[48])&&decide (B≠[49]))):=by rw[hfm,c,d,w4 hz];rfl
    rw[e8];refine TY A B br (by omega) hA (Gi a) ef (hq _ rfl) (fun h1 h2=>zm (AZ ..) (zp (fun e=>zc rfl (h1 e)) (fun e=>?_)));have h3:=h2 e;exact BQ A B br true (fun _=>⟨hA,fun h=>by rw[e]at h;cases h⟩) (hq true h3.symm)
 ·have ef:Gi a=false:=by rw[hfm,c];simp
  exact zm (C2 ..) (zp (fun e=>Cq A B br (hq false ef.symm)) (fun e=>Cq A B br (hq false ef.symm)))
end T77
theorem DR(c:UInt8)(r:List UInt8):Ay (c::r)=if c=47 then[]else c::Ay r:=by
 unfold Ay;rw[qu];by_cases h:c=47
 ·subst h;rfl
 ·rw[wc (by simpa using h),wc h];cases r.findIdx? (fun x=>x==47)<;>rfl
namespace T89
theorem Aj{Q:PV->Ob->Prop}(s:List UInt8)(hl:s.length<=1000000):∀(r:List UInt8) (i:Nat),s.drop i=r->i<=s.length->(∀ob,Q (.dat i64 (((i+(Ay r).length:Nat)):Int)) ob)->Ends M5 (L1 s i) Q
 |[],i,h,hi,hq=>by
  have he:i=s.length:=drop_nil h hi;subst he;exact zm (Ar ..) (zt (by simp) (zh (hq _)))
 |c::r,i,h,hi,hq=>by
  obtain⟨h1,h2,h3⟩:=drop_cons (d:=0) h;have e3:zg .i64 ((i:Int)+1)=((i+1:Nat):Int):=by rw[wr _ (by omega) (by omega)];omega
  rw[DR]at hq;refine zm (Ar ..) (zc (by simp;omega) ?_);rw[zj,h2,e3];refine zc (by simp;omega) (zp (fun d=>?_) (fun d=>?_))
  ·have hc:c=47:=by
    have:(c.toNat:Int)=47:=by simpa using d
    exact yp.1 (by show _=47;omega)
   rw[wd hc]at hq;exact zh (hq _)
  ·have hc:c≠47:=by rintro rfl;exact wh d (by decide)
   rw[wc hc]at hq;refine Aj s hl r (i+1) h3 h1 (fun ob=>?_);have:=hq ob;rw[yn]at this;rw[show i+1+(Ay r).length=i+((Ay r).length+1)by omega];exact this
theorem ok:Ag Bg 89 LY:=by
 refine B1 Fa (fun(s:List UInt8) hl=>?_);have hl:s.length<=1000000:=w6 hl;refine yj (Am s) (Aj s hl s 0 rfl (yx _) (fun ob=>yu rfl rfl ?_));rw[Nat.zero_add];rfl
end T89
namespace T90
variable {Q:PV->Ob->Prop}
theorem UM{s:List UInt8}{r:List UInt8}{c:UInt8}{i:Nat}(h:s.drop i=c::r):Al (s.drop i)=(BL c&&Al (s.drop (i+1))):=by
 obtain⟨_,_,h3⟩:=drop_cons (d:=0) h;rw[h3,h];rfl
theorem Aj(s:List UInt8)(hl:s.length<=1000000):∀(r:List UInt8) (i:Nat),s.drop i=r->i<=s.length->(∀ob,Q (.bl (Al (s.drop i))) ob)->Ends M5 (L1 s s i) Q
 |[],i,h,hi,hq=>by
  have he:i=s.length:=drop_nil h hi;rw[h]at hq;subst he;exact zm (Ar ..) (zt (by simp) (zh (hq _)))
 |c::r,i,h,hi,hq=>by
  obtain⟨h1,h2,h3⟩:=drop_cons (d:=0) h;have e3:zg .i64 ((i:Int)+1)=((i+1:Nat):Int):=by rw[wr _ (by omega) (by omega)];omega
  rw[UM h]at hq;refine zm (Ar ..) (zc (by simp;omega) ?_);rw[zj,h2,e3];refine zc (by simp;omega) (zp (fun d=>?_) (fun d=>zc (by simp;omega) (zp (fun e=>?_) (fun e=>?_))))
  ·have d:=w6 d;have hn:BL c=false:=by unfold BL;rw[w8 (by omega)];rfl
   rw[hn]at hq;exact zh (hq _)
  ·have e:=w6 e;have hn:BL c=false:=by unfold BL;rw[w8 (p:=c.toNat<=57) (by omega),Bool.and_false]
   rw[hn]at hq;exact zh (hq _)
  ·have d:=w7 d;have e:=w7 e;have hn:BL c=true:=by unfold BL;exact Aa (w4 (by omega)) (w4 (by omega))
   rw[hn,yr]at hq;exact Aj s hl r (i+1) h3 h1 hq
theorem AQ(s:List UInt8)(hl:s.length<=1000000):∀(r:List UInt8) (i:Nat),s.drop i=r->i<=s.length->(∀ob,Q (.bl (Al (s.drop i))) ob)->Ends M5 (L2 s s i) Q
 |[],i,h,hi,hq=>by
  have he:i=s.length:=drop_nil h hi;rw[h]at hq;subst he;exact zm (AZ ..) (zt (by simp) (zh (hq _)))
 |c::r,i,h,hi,hq=>by
  obtain⟨h1,h2,h3⟩:=drop_cons (d:=0) h;have e3:zg .i64 ((i:Int)+1)=((i+1:Nat):Int):=by rw[wr _ (by omega) (by omega)];omega
  rw[UM h]at hq;refine zm (AZ ..) (zc (by simp;omega) ?_);rw[zj,h2,e3];refine zc (by simp;omega) (zp (fun d=>?_) (fun d=>zc (by simp;omega) (zp (fun e=>?_) (fun e=>?_))))
  ·have d:=w6 d;have hn:BL c=false:=by unfold BL;rw[w8 (by omega)];rfl
   rw[hn]at hq;exact zh (hq _)
  ·have e:=w6 e;have hn:BL c=false:=by unfold BL;rw[w8 (p:=c.toNat<=57) (by omega),Bool.and_false]
   rw[hn]at hq;exact zh (hq _)
  ·have d:=w7 d;have e:=w7 e;have hn:BL c=true:=by unfold BL;exact Aa (w4 (by omega)) (w4 (by omega))
   rw[hn,yr]at hq;exact AQ s hl r (i+1) h3 h1 hq
theorem ok:Ag Bg 90 LF:=by
 refine B1 Fa (fun(s:List UInt8) hl=>?_);have hl:s.length<=1000000:=w6 hl;have hq:∀b ob,b=AT s->Ad LF s (.bl b) ob:=fun b ob hb=>yu rfl rfl hb
 refine yj (Am s) ?_;conv=>zeta
 cases s with
 |nil=>exact zc rfl (zh (hq _ _ rfl))
 |cons c r=>
  have g0:(c::r).getD 0 0=c:=rfl;rw[g0];refine zt (by simp;omega) (zp (fun d=>zc (by simp) (zp (fun e=>zh (hq _ _ ?_)) (fun e=>?_))) (fun d=>?_))
  ·have d:=w6 d;have hc:c=48:=by
    have:(c.toNat:Int)=48:=by simpa using e
    exact yp.1 (by show _=48;omega)
   have hr:r≠[]:=by rintro rfl;simp at d
   unfold AT;rw[g0,w8 (p:=c≠48) (fun h=>h hc),w8 (p:=c::r=[48]) (by intro h;simp at h;exact hr h.2)];simp
  ·have hc:c≠48:=by rintro rfl;exact wh e (by decide)
   refine Aj (c::r) hl (c::r) 0 rfl (yx _) (fun ob=>hq _ _ ?_);unfold AT;rw[g0,w4 hc];simp
  ·have d:=w7 d;have hr:r=[]:=by
    have:r.length=0:=by simp at d;omega
    exact yk.1 this
   subst hr;refine AQ [c] hl [c] 0 rfl (yx _) (fun ob=>hq _ _ ?_);unfold AT;rw[g0];by_cases hc:c=48
   ·subst hc;rfl
   ·rw[w4 hc];simp
end T90
theorem oS:DM qS:=Ab T168.ok AP
namespace T107
variable {Q:PV->Ob->Prop}
theorem O3{v:Int}(hv: -9223372036854775808<=v/\v<9223372036854775808):∃q d:Nat,Ae v=d+1000000000*q/\d<1000000000/\zg .i64 (Int.tdiv v 1000000000)=(if v<0 then -(q:Int)else q)/\Int.tmod v 1000000000=(if v<0 then -(d:Int)else d):=by
 refine⟨v.natAbs/1000000000,v.natAbs % 1000000000,by rw[Ah];omega,by omega,?_,?_⟩
 ·by_cases h:v<0
  ·have:=Int.neg_tdiv (-v) 1000000000;rw[Int.neg_neg]at this;rw[this,qv (by omega),wd h,wr _ (by omega) (by omega)];omega
  ·rw[qv (by omega),wc h,wr _ (by omega) (by omega)];omega
 ·by_cases h:v<0
  ·have:=Int.neg_tmod (-v) 1000000000;rw[Int.neg_neg]at this;rw[this,qw (by omega),wd h];omega
  ·rw[qw (by omega),wc h];omega
theorem AQ(neg:Bool)(D:Int)(hq:∀(w:List Int) ob,Aw z7 w->yy z7 w=D->Q (.agg [.dat .bool (BK neg w),.dat li (Aq w)]) ob):∀(f:Nat) (v:Int) (o1:List Int),Ae v<f->(-9223372036854775808<=v/\v<9223372036854775808)->o1.length<=100->(Ae v≠0->Ae v*1000000000^o1.length<=9223372036854775808)->Aw z7 o1->yy z7 o1+(z7:Int)^o1.length*Ae v=D->Ends qS (L2 v o1.length neg o1) Q
 |0,v,o1,hf,hv,ho,hb,hd,he=>by
  have:=AF v;omega
 |f+1,v,o1,hf,hv,ho,hb,hd,he=>by
  obtain⟨q,d,s1,s2,s3,s4⟩:=O3 hv;by_cases h0:v=0
  ·subst h0;have e0:Ae 0=0:=rfl;rw[e0,Int.mul_zero,Int.add_zero]at he;refine zm (AZ ..) (zt rfl ?_);rw[yf];exact zc (by simp;omega) (zh (hq _ _ hd he))
  ·have hne:Ae v≠0:=by rw[Ah];omega
   have hbb:=hb hne;have ho10:o1.length<=10:=by
    rcases Nat.lt_or_ge 10 o1.length with g|g
    ·exfalso;have x1:(1000000000:Int)^11<=1000000000^o1.length:=AH (by decide) g;have x2:(9223372036854775808:Int)<1000000000^11:=by decide
     have x3:=yg (show 1<=Ae v by have:=AF v;omega) (show(0:Int)<=1000000000^o1.length by omega);omega
    ·exact g
   have eq:Ae (if v<0 then -(q:Int)else q)=q:=by rw[Ah];split<;>omega
   have go:Ends qS (L2 (if v<0 then -(q:Int)else q) (jj o1.length 1) neg (o1++[(d:Int)])) Q:=by
    have:=AQ neg D hq f (if v<0 then -(q:Int)else q) (o1++[(d:Int)]) (by rw[eq];omega) (by have:=Ah v;split<;>omega) (by simp;omega) (fun _=>by
     rw[eq,zn];show(q:Int)*1000000000^(o1.length+1)<=_;rw[yz, <-Int.mul_assoc,Int.mul_right_comm];have x1:=yg (show(q:Int)*1000000000<=Ae v by omega) (show(0:Int)<=1000000000^o1.length from z8 (AN (by decide) _));omega) (E7 hd (by omega)) (by
     rw[eq,B8,zn];show yy z7 o1+(z7:Int)^o1.length*(d:Int)+(z7:Int)^(o1.length+1)*(q:Int)=D;rw[Jv,j9, <-Int.mul_add, <-he,s1])
    rw[zn]at this;exact this
   refine zm (AZ ..) (zc (by simpa using h0) (zc rfl ?_));rw[s3,s4];refine zp (fun c=>zc (by simp;omega) (zc rfl ?_)) (fun c=>zc (by simp;omega) (zc rfl ?_))
   ·have c:=w6 c;have hn:v<0:=by split at c<;>omega
    rw[wd hn]at c;rw[wd hn,wd hn];rw[wd hn]at go;have e5:zg .i64 (0 - -(d:Int))=(d:Int):=by rw[wr _ (by omega) (by omega)];omega
    rw[e5];exact go
   ·have c:=w7 c;have e5:(if v<0 then -(d:Int)else(d:Int))=(d:Int):=by split at c<;>split<;>omega
    rw[e5];exact go
theorem ok:Ag Bg 107 KR:=by
 refine B1 oS (fun(v:Int) hv=>?_);have hv:=Eh (n:=v) hv;have fin:∀(w:List Int) ob,Aw z7 w->yy z7 w=Ae v->Ad KR v (.agg [.dat .bool (BK (decide (v<0)) w),.dat li (Aq w)]) ob:=by
  intro w ob hd hw;refine yu rfl rfl ?_;have:=Mn (neg:=decide (v<0)) hd hw;have e:(if decide (v<0)=true then -Ae v else Ae v)=v:=by
   rw[Ah];by_cases h:v<0
   ·rw[wd (w4 h)];omega
   ·rw[wc (by simpa using h)];omega
  rw[e]at this;exact this
 obtain⟨q,d,s1,s2,s3,s4⟩:=O3 hv;have hn:=AF v;refine yj (Am v) ?_;conv=>zeta
 by_cases h0:v=0
 ·subst h0;exact zm (Ar ..) (zt rfl (zc rfl (zh (fin [] _ (fun x hx=>by cases hx) rfl))))
 ·have eq:Ae (if v<0 then -(q:Int)else q)=q:=by rw[Ah];split<;>omega
  have go:Ends qS (L2 (if v<0 then -(q:Int)else q) 1 (decide (v<0)) [(d:Int)]) (Ad KR v):=by
   refine AQ (decide (v<0)) (Ae v) fin (q+1) _ [(d:Int)] (by rw[eq];omega) (by have:=Ah v;split<;>omega) (by simp) (fun _=>?_) (fun x hx=>by rw[qx]at hx;subst hx;show 0<=_/\_<(1000000000:Int);omega) ?_
   ·rw[eq];show(q:Int)*1000000000^1<=_;have:=Ah v;omega
   ·rw[eq,Ee,s1];show(d:Int)+(1000000000:Int)^1*(q:Int)=_;omega
  refine zm (Ar ..) (zc (by simpa using h0) (zc rfl ?_));rw[s3,s4];refine zp (fun c=>zc rfl (zc rfl ?_)) (fun c=>zc rfl (zc rfl ?_))
  ·have c:=w6 c;have hn:v<0:=by split at c<;>omega
   rw[wd hn]at c;rw[wd hn,wd hn];rw[wd hn]at go;have e5:zg .i64 (0 - -(d:Int))=(d:Int):=by rw[wr _ (by omega) (by omega)];omega
   rw[e5];exact go
  ·have c:=w7 c;have e5:(if v<0 then -(d:Int)else(d:Int))=(d:Int):=by split at c<;>split<;>omega
   rw[e5];exact go
end T107
theorem lJ:DM XK3:=Ab T89.ok (Ab T163.ok (Ab T107.ok AP))
theorem BG:∀(s:List UInt8),Ay s=s.take (Ay s).length/\(Bn s=true->(Ay s).length<s.length/\zy s=s.drop ((Ay s).length+1))/\(Bn s=false->Ay s=s/\zy s=[])
 |[]=>⟨rfl,(fun h=>(by cases h)),fun _=>⟨rfl,rfl⟩⟩
 |c::r=>by
  obtain⟨h1,h2,h3⟩:=BG r;have hB:zy (c::r)=if c=47 then r else zy r:=by
   unfold zy;rw[qu];by_cases h:c=47
   ·subst h;rfl
   ·rw[wc (by simpa using h),wc h];cases r.findIdx? (fun x=>x==47)<;>rfl
  have hC:Bn (c::r)=(decide (c=47)||Bn r):=by
   unfold Bn;rw[List.any_cons];congr 1
  rw[DR,hB,hC];by_cases h:c=47
  ·rw[wd h,wd h,w4 h];exact⟨rfl,(fun _=>⟨by simp,rfl⟩),fun h=>by cases h⟩
  ·rw[wc h,wc h,w8 h];refine⟨?_,fun g=>?_,fun g=>?_⟩
   ·rw[yn,List.take_succ_cons, <-h1]
   ·obtain⟨k1,k2⟩:=h2 g;refine⟨by simp;omega,?_⟩;rw[yn,List.drop_succ_cons];exact k2
   ·obtain⟨k1,k2⟩:=h3 g;exact⟨by rw[k1],k2⟩
theorem T91.ok:Ag Bg 91 NC:=by
 refine B1 lJ (fun(a:List UInt8) ha=>?_);have ha:(D7 (Ay a)&&D7 (zy a)&&decide (a.length<=5999))=true:=ha;rw[ze,ze,w5]at ha;obtain⟨⟨ra,rb⟩,hl⟩:=ha;obtain⟨c1,c2,c3⟩:=BG a;have es:AX a=((Ay a).length:Int):=rfl;have hle:(Ay a).length<=a.length:=(T77.CZ a).1;refine yj (T91.Am a) (zc (w4 (by omega)) (zp (fun c=>?_) (fun c=>?_)))
 ·have c:(Ay a).length=a.length:=by
   have:((Ay a).length:Int)=(a.length:Int):=by simpa [es]using c
   omega
  have hc:Bn a=false:=by
   cases h:Bn a with
   |false=>rfl
   |true=>have:=(c2 h).1;omega
  obtain⟨k1,k2⟩:=c3 hc;rw[k1]at ra;refine zc ra (zc rfl (zh (yu rfl rfl ?_)));show((EY a,E3 a),(false,Sp.rW 1))=((Bo a,Bi a),(A8 a,A5 a));unfold Bo Bi A8 A5 A9 AI EY E3;rw[k1,hc];rfl
 ·have hlt:(Ay a).length<a.length:=by
   have:((Ay a).length:Int)≠(a.length:Int):=by simpa [es]using c
   omega
  have hc:Bn a=true:=by
   cases h:Bn a with
   |true=>rfl
   |false=>have:=(c3 h).1;rw[this]at hlt;omega
  obtain⟨k1,k2⟩:=c2 hc;have e1:zg .i64 (((Ay a).length:Int)+1)=(((Ay a).length+1:Nat):Int):=by rw[wr _ (by omega) (by omega)];omega
  have e2:(a.drop ((Ay a).length+1)).take (qj a.length ((Ay a).length+1))=a.drop ((Ay a).length+1):=zq (by rw[zl];exact yb _);rw[es,e1,zj,zj,e2, <-c1, <-k2];refine zc (by simp;omega) (zc (by simp;omega) (zc ra (zc rb (zh (yu rfl rfl ?_)))));show((EY (Ay a),E3 (Ay a)),(EY (zy a),E3 (zy a)))=((Bo a,Bi a),(A8 a,A5 a));unfold Bo Bi A8 A5 A9 AI EY E3;rw[hc];rfl
theorem nV:DM T8:=Ab T89.ok (Ab T90.ok (Ab T91.ok (Ab T92.ok AP)))
namespace T24
variable {Q:PV->Ob->Prop}
theorem mY{g:Int}(h0:0<=g):By g=[1]↔g=1:=by
 constructor
 ·intro h;have:=CP (b:=z7) (by decide) h0;have h:Sp.dg z7 g=[1]:=h;rw[h]at this;rw[<-this];rfl
 ·rintro rfl;rfl
theorem BQ(s:List UInt8)(hA:Al (Ay s)=true)(hB:Bn s=true->Al (zy s)=true)(lA:(Ay s).length<=600)(lB:(zy s).length<=600)(hl:s.length<=5999)
  (hq:∀ob,Q (.dat i64 (if Bn s=true/\jo (AB 0 (Ay s)) (AB 0 (zy s))≠1 then 1 else 0)) ob):Ends T8 (L4 s (AX s)) Q:=by
 obtain⟨c1,c2,c3⟩:=BG s;have es:AX s=((Ay s).length:Int):=rfl;refine zm (DD ..) ?_;conv=>zeta
 rw[es];refine zp (fun c=>?_) (fun c=>?_)
 ·have c:=w6 c;have hc:Bn s=true:=by
   cases h:Bn s with
   |true=>rfl
   |false=>have:=(c3 h).1;rw[this]at c;omega
  have hB:=hB hc;obtain⟨r1,r2⟩:=Kq hA (by omega);obtain⟨r3,r4⟩:=Kq hB (by omega);have bA:=Be hA;have bB:=Be hB;have tR:∀k:Nat,(10:Int)^k<=(z7:Int)^k:=by
   intro k;induction k with
   |zero=>exact jz _
   |succ k ih=>
    rw[yz,yz];have h1:=yg ih (show(0:Int)<=10 by decide);have h2:=zw (show(10:Int)<=(z7:Int)by decide) (z8 (AN (b:=z7) (by decide) k));exact qp h1 h2
  have uA:AB 0 (Ay s)<(z7:Int)^600:=zx bA.2 (qp (tR _) (AH (by decide) lA));have uB:AB 0 (zy s)<(z7:Int)^600:=zx bB.2 (qp (tR _) (AH (by decide) lB));have e1:Bi s=By (AB 0 (Ay s)):=by
   unfold Bi A9 Sp.rW;rw[r2,show Ae (AB 0 (Ay s))=AB 0 (Ay s)by rw[Ah];omega]
  have e2:A5 s=By (AB 0 (zy s)):=by
   unfold A5 AI Sp.rW;rw[wd hc,r4,show Ae (AB 0 (zy s))=AB 0 (zy s)by rw[Ah];omega]
  obtain⟨n1,_,v1,l1⟩:=Fm (k:=600) bA.1 uA (by decide);obtain⟨n2,_,v2,l2⟩:=Fm (k:=600) bB.1 uB (by decide);have rat:FL s=true:=by
   unfold FL;rw[r1,r3];exact w4 hl
  rw[e1,e2];refine zc rat (zm (GO ..) (zc (Aa (Aa (Aa n1 n2) (w4 (by omega))) (w4 (by omega))) ?_));have ec:Cf (By (AB 0 (Ay s))) (By (AB 0 (zy s)))=By (jo (AB 0 (Ay s)) (AB 0 (zy s))):=by
   unfold Cf;rw[v1,v2]
  rw[ec];obtain⟨g0,_⟩:=rC bA.1 bB.1 uA uB;generalize jo (AB 0 (Ay s)) (AB 0 (zy s))=g at*;have h1:=mY g0;by_cases h:g=1
  ·rw[wc (fun x=>x.2 h)]at hq;rw[h1.2 h];exact zm (HP ..) (zt rfl (zc rfl (zt rfl (zh (hq _)))))
  ·rw[wd ⟨hc,h⟩]at hq;have hne:By g≠[1]:=fun x=>h (h1.1 x)
   refine zm (HP ..) (zp (fun d=>zh (hq _)) (fun d=>?_));have d:(By g).length=1:=by
    have:((By g).length:Int)=1:=by simpa using d
    omega
   obtain⟨x,hx⟩:=List.length_eq_one_iff.1 d;rw[hx]at hne ⊢;have hx1:x≠1:=fun e=>hne (by rw[e])
   exact zc rfl (zc (by simpa using hx1) (zh (hq _)))
 ·have c:=w7 c;have hc:Bn s=false:=by
   cases h:Bn s with
   |false=>rfl
   |true=>have:=(c2 h).1;omega
  rw[wc (fun x=>by rw[hc]at x;cases x.1)]at hq;exact zh (hq _)
theorem AQ(s:List UInt8)(hA:Al (Ay s)=true)(hl:s.length<=1000000)(hq:∀ob,Q (.dat i64 (T77.E (Ay s) (zy s) (Bn s) (!Bn s||(AT (zy s)&&decide (zy s≠[48])&&decide (zy s≠[49]))))) ob):Ends T8 (L2 s (AX s)) Q:=by
 obtain⟨c1,c2,c3⟩:=BG s;have es:AX s=((Ay s).length:Int):=rfl;have hle:=T77.CZ s;have wO:(Bn s=true->Al (zy s)=true)->(∀ob,Q (.dat i64 (T77.E (Ay s) (zy s) (Bn s) true)) ob)->Ends T8 (L3 s (AX s)) Q:=by
  intro hB hq;unfold T77.E at hq;rw[wc (by decide)]at hq;have hlen:s.length=(Ay s).length+(if Bn s=true then 1+(zy s).length else 0):=by
   cases h:Bn s with
   |true=>obtain⟨k1,k2⟩:=c2 h;rw[wd rfl,k2,zl];omega
   |false=>obtain⟨k1,k2⟩:=c3 h;rw[wc (by decide),k1];rfl
  have hB0:Bn s=false->(zy s).length=0:=fun h=>by rw[(c3 h).2];rfl
  refine zm (C2 ..) ?_;conv=>zeta
  rw[es,wr ((s.length:Int)-((Ay s).length:Int)) (by omega) (by omega),wr _ (by omega) (by omega)];refine zp (fun c=>?_) (fun c=>zp (fun d=>?_) (fun d=>?_))
  ·have c:=w6 c;rw[wd (.inl (by omega))]at hq;exact zh (hq _)
  ·have c:=w7 c;have d:=w6 d;have:600<(zy s).length:=by split at hlen<;>omega
   rw[wd (.inr this)]at hq;exact zh (hq _)
  ·have c:=w7 c;have d:=w7 d;have hb:(zy s).length<=600:=by
    cases h:Bn s with
    |true=>rw[h,wd rfl]at hlen;omega
    |false=>have:=hB0 h;omega
   rw[wc (by omega)]at hq;exact BQ s hA hB (by omega) hb (by split at hlen<;>omega) hq
 refine zm (AZ ..) ?_;conv=>zeta
 cases hc:Bn s with
 |false=>
  rw[hc]at hq;have hn:¬(AX s<(s.length:Int)):=by rw[es,(c3 hc).1];omega
  exact zt (w8 hn) (wO (fun h=>by rw[hc]at h;cases h) (by rw[hc];exact hq))
 |true=>
  rw[hc]at hq;obtain⟨k1,k2⟩:=c2 hc;have e1:zg .i64 (((Ay s).length:Int)+1)=(((Ay s).length+1:Nat):Int):=by rw[wr _ (by omega) (by omega)];omega
  have e2:(s.drop ((Ay s).length+1)).take (qj s.length ((Ay s).length+1))=s.drop ((Ay s).length+1):=zq (by rw[zl];exact yb _);rw[es,e1,zj,e2, <-k2];rw[es]at wO;have bad:(!true||(AT (zy s)&&decide (zy s≠[48])&&decide (zy s≠[49])))=false->∀ob,Q (.dat i64 1) ob:=by
   intro h ob;have:=hq ob;rw[h]at this;exact this
  refine zc (by simp;omega) (zc (by simp;omega) (zc (w4 (by omega)) (zp (fun d=>zh (bad ?_ _)) (fun d=>zc (by simp;omega) (zp (fun e=>zh (bad ?_ _)) (fun e=>zc (by simp;omega) (zp (fun f=>zh (bad ?_ _)) (fun f=>?_))))))))
  ·have d:AT (zy s)=false:=by simpa using d
   rw[d];rfl
  ·have e:zy s=[48]:=by simpa using e
   rw[w8 (p:=zy s≠[48]) (fun h=>h e)];simp
  ·have f:zy s=[49]:=by simpa using f
   rw[w8 (p:=zy s≠[49]) (fun h=>h f)];simp
  ·have d:AT (zy s)=true:=by simpa using d
   have e:zy s≠[48]:=by simpa using e
   have f:zy s≠[49]:=by simpa using f
   rw[d,w4 e,w4 f]at hq;exact wO (fun _=>(HC d).2) (by rw[hc];exact hq)
theorem Aj(a s:List UInt8)(hs:s=AY a)(hl:a.length<=1000000)(hq:∀ob,Q (.dat i64 (Au a)) ob):Ends T8 (L1 a s) Q:=by
 obtain⟨c1,c2,c3⟩:=BG s;have es:AX s=((Ay s).length:Int):=rfl;have hsl:s.length<=a.length:=by rw[hs];exact T77.W6 a
 have hle:=T77.CZ s;have hE:Au a=T77.E (Ay s) (zy s) (Bn s) (AT (Ay s)&&(!kg a||decide (Ay s≠[48]))&&(!Bn s||(AT (zy s)&&decide (zy s≠[48])&&decide (zy s≠[49])))):=by rw[hs];rfl
 rw[hE]at hq;have tk:s.take (Ay s).length=Ay s:=c1.symm;refine zm (Ar ..) ?_;conv=>zeta
 rw[show AX s=((Ay s).length:Int)from rfl,zj,tk];refine zc (w4 (by omega)) (zc (by simp;omega) (zc (w4 (by omega)) (zp (fun d=>?_) (fun d=>?_))))
 ·have d:AT (Ay s)=false:=by simpa using d
  rw[d]at hq;exact zh (hq _)
 ·have d:AT (Ay s)=true:=by simpa using d
  have hA:=(HC d).2;have hne:a.length≠0:=by
   intro h;have h:=yk.1 h;have:s=[]:=by rw[hs,h];rfl
   rw[this]at d;exact wh d (by decide)
  rw[d,yr]at hq;refine zc (w4 (by omega)) (zp (fun e=>zc (by simp;omega) (zp (fun f=>?_) (fun f=>?_))) (fun e=>?_))
  ·have hp:kg a=true:=by
    unfold kg;refine w4 (yp.1 ?_);have:((a.getD 0 0).toNat:Int)=45:=by simpa using e
    show _=45;omega
   have f:Ay s=[48]:=by simpa using f
   rw[hp,w8 (p:=Ay s≠[48]) (fun h=>h f)]at hq;exact zh (hq _)
  ·have f:Ay s≠[48]:=by simpa using f
   rw[w4 f,Bool.or_true,yr]at hq;exact AQ s hA (by omega) hq
  ·have hp:kg a=false:=by
    unfold kg;refine w8 (fun h=>?_);rw[h]at e;exact wh e (by decide)
   rw[hp,Bool.not_false,Bool.true_or,yr]at hq;exact AQ s hA (by omega) hq
theorem ok:Ag Bg 24 DG:=by
 refine B1 nV (fun(a:List UInt8) hl=>?_);have hl:a.length<=1000000:=w6 hl;have hq:∀ob,Ad DG a (.dat i64 (Au a)) ob:=fun ob=>yu rfl rfl rfl
 refine yj (Am a) ?_;conv=>zeta
 cases a with
 |nil=>exact zt rfl (Aj [] [] rfl hl hq)
 |cons c r=>
  have g0:(c::r).getD 0 0=c:=rfl;rw[g0];refine zc (by simp) (zc (by simp) (zp (fun d=>zc (by simp) ?_) (fun d=>?_)))
  ·have hc:c=45:=by
    have:(c.toNat:Int)=45:=by simpa using d
    exact yp.1 (by show _=45;omega)
   have e:(List.drop 1 (c::r)).take (qj (c::r).length 1)=r:=by show r.take ((r.length+1)-1)=r;rw[qq];exact yf
   rw[e];exact Aj (c::r) r (by unfold AY;rw[g0,wd hc];rfl) hl hq
  ·have hc:c≠45:=by rintro rfl;exact wh d (by decide)
   exact Aj (c::r) (c::r) (by unfold AY;rw[g0,wc hc]) hl hq
end T24
theorem Gb:DM jF:=
 Ab T173.ok (Ab T174.ok (Ab T176.ok (Ab T152.ok (Ab T105n.ok (Ab T158.ok (Ab T159.ok (Ab T154.ok (Ab T150.ok (Ab T153.ok AP)))))))))
theorem EG{a:AS}(h:MT a=true):A6 a=true/\Ae (zk a)<(Ak:Int)^4000:=by
 unfold MT at h;rw[ze,w5]at h;refine⟨?_,IQ h.1 h.2 (by decide)⟩;unfold A6;exact Aa h.1 (w4 (by omega))
theorem Ky{x y:Int}(hx:Ae x<(Ak:Int)^4000)(hy:Ae y<(Ak:Int)^4000):Ae (x*y)<(Ak:Int)^8000:=by
 rw[Jc];have h0:=AF x;have hp:=AN (b:=Ak) (by decide) 4000;have a1:=zw (z8 hy) h0;have a2:=Int.mul_lt_mul_of_pos_right hx hp;have a3:(Ak:Int)^4000*(Ak:Int)^4000=(Ak:Int)^8000:=(Int.pow_add _ 4000 4000).symm;rw[a3]at a2;exact ya a1 a2
theorem yL{x:Int}(h:x<(Ak:Int)^8000):x<(Ak:Int)^9000:=zx h (AH (by decide) (by decide))
theorem R2{x y:Int}(hx:Ae x<(Ak:Int)^4000)(hy:Ae y<(Ak:Int)^4000):A6 (CO (x*y))=true:=DF (yL (Ky hx hy))
theorem wC{a b:AS}(ha:A6 a=true)(hb:A6 b=true)(h:Ae (zk a+zk b)<(Ak:Int)^9000):A6 (En a b)=true:=by
 have h1:=SU ha hb;unfold En at h1 ⊢;split
 ·rename_i c;rw[wd c]at h1;unfold A6;exact Aa h1 rfl
 ·exact DF h
theorem oH(n:Nat):(2:Int)*(Ak:Int)^n<=(Ak:Int)^(n+1):=by
 rw[yz,qo];exact zw (by decide) (z8 (AN (b:=Ak) (by decide) n))
theorem eI{x y:Int}(hx:Ae x<(Ak:Int)^8000)(hy:Ae y<(Ak:Int)^8000):Ae (x+y)<(Ak:Int)^9000:=by
 have h2:=oH 8000;have h3:(Ak:Int)^8001<=(Ak:Int)^9000:=AH (by decide) (by decide);have h2:(2:Int)*(Ak:Int)^8000<=(Ak:Int)^8001:=h2;generalize (Ak:Int)^8000=p at*;generalize (Ak:Int)^8001=q at*;generalize (Ak:Int)^9000=r at*;rw[Ah]at*;omega
theorem Tu(a:AS):decide (HO a<0)=decide (zk a<0):=by
 unfold HO PX;rw[Bool.eq_iff_iff,w5,w5];split
 ·omega
 ·split<;>omega
theorem Xf{n d:AS}(h:Lg n d=true):A6 n=true/\A6 d=true/\zk d≠0:=by
 unfold Lg at h;rw[ze,ze,w5]at h;exact⟨h.1.1,h.1.2,h.2⟩
theorem T87.ok:Ag Bg 87 Up:=by
 refine B1 Gb (fun(a:List UInt8) ha=>?_);have ha:(D7 (Ay a)&&D7 (zy a)&&decide (a.length<=5999))=true:=ha;rw[ze,ze,w5]at ha;obtain⟨⟨ra,rb⟩,hl⟩:=ha;refine yj (T87.Am a) (zc (Aa (w4 rfl) (w4 (by omega))) (zp (fun c=>zc ra (zc rfl (zh (yu rfl rfl ?_)))) (fun c=>zc ra (zc rb (zh (yu rfl rfl ?_))))))
 ·have c:Bn a=false:=by simpa using c
  show((Dd (Ay a),C5 (Ay a)),((1:Int),Cv 1))=((Er a,Ez a),(D6 a,Eb a));unfold D6 Eb AI;rw[c,NB];rfl
 ·have c:Bn a=true:=by simpa using c
  show((Dd (Ay a),C5 (Ay a)),(Dd (zy a),C5 (zy a)))=((Er a,Ez a),(D6 a,Eb a));unfold D6 Eb AI;rw[c];rfl
theorem T175.ok:Ag Bg 175 cIQ:=by
 refine B1 Gb (fun(i:(Int×List Int)×(Int×List Int)) hi=>?_);obtain⟨a,b⟩:=i;obtain⟨ha,hb,h0⟩:=Xf (n:=a) (d:=b) hi;refine yj (T175.Am a b) (zc (BU hb).1 ?_);rw[Tu];refine zp (fun c=>zc (BU ha).1 (zc (BU hb).1 (zm (T175.Ar ..) (zc ?_ (zh (yu rfl rfl ?_)))))) (fun c=>zm (T175.Ar ..) (zc ?_ (zh (yu rfl rfl ?_))))
 ·have c:zk b<0:=w6 c;have:=IE b;exact Aa (Aa (UA ha) (UA hb)) (w4 (by show 0<zk (C4 b);omega))
 ·have c:zk b<0:=w6 c;show F6 (C4 a) (C4 b)=Sp.iQ a b;unfold Sp.iQ;rw[wd c]
 ·have c:¬zk b<0:=w7 c;exact Aa (Aa ha hb) (w4 (by show 0<zk b;omega))
 ·have c:¬zk b<0:=w7 c;show F6 a b=Sp.iQ a b;unfold Sp.iQ;rw[wc c]
theorem pB:DM tY:=Ab T173.ok (Ab T174.ok (Ab T152.ok (Ab T175.ok AP)))
theorem rA{n d:AS}(hd:A6 d=true)(h0:zk d≠0):A6 (Sp.gR n d)=true/\zk (Sp.gR n d)=(qk (zk n) (zk d):Int)/\0<zk (Sp.gR n d):=by
 have e:zk (Sp.gR n d)=(qk (zk n) (zk d):Int):=by
  show zk (Cw _,Cu _)=_;rw[Ko,FQ]
 have hp:0<qk (zk n) (zk d):=Int.gcd_pos_of_ne_zero_right _ h0;refine⟨Ft (DF ?_),e,by rw[e];omega⟩;rw[FQ,Ah,zr];have hb:=bounds hd;rw[Ah]at hb;have hle:qk (zk n) (zk d)<=(zk d).natAbs:=Nat.gcd_le_right _ (by omega);omega
namespace T104
variable {Q:PV->Ob->Prop}
theorem Aj(z1 z2:Int)(n d:AS)(hn:A6 n=true)(hd:A6 d=true)(h0:zk d≠0)(hq:∀ob,Q (.agg [.dat i64 (MX n d).1.1,.dat (.nlist u64) (MX n d).1.2,.dat i64 (MX n d).2.1,.dat (.nlist u64) (MX n d).2.2]) ob):
  Ends tY (L1 z1 z2 d.1 d.2 n.1 n.2) Q:=by
 obtain⟨g1,_,g3⟩:=rA (n:=n) hd h0;have next:CJ d=false->Ends tY (.ite (A6 (n.1,n.2)&&A6 (d.1,d.2)) (L2 (MO (n.1,n.2) (d.1,d.2)) (Mt (n.1,n.2) (d.1,d.2)) z1 z2 d.1 d.2 n.1 n.2) .fail) Q:=by
  intro ho;unfold MX at hq;rw[wc (by rw[ho];decide)]at hq;have k:∀x:AS,A6 x=true->Lg x (Sp.gR n d)=true:=fun x hx=>by unfold Lg;exact Aa (Aa hx g1) (w4 (by omega))
  exact zc (Aa hn hd) (zm (AZ ..) (zc (k n hn) (zc (k d hd) (zh (hq _)))))
 refine zm (Ar ..) (zp (fun c=>zp (fun e=>zh ?_) (fun e=>next ?_)) (fun c=>next ?_))
 ·have c:d.2=[]:=by simpa using c
  have e:d.1=1:=by simpa using e
  unfold MX at hq;rw[wd (by unfold CJ;simp[c,e])]at hq;exact hq _
 ·unfold CJ;rw[Bool.and_eq_false_iff];right;simpa using e
 ·unfold CJ;rw[Bool.and_eq_false_iff];left;have:d.2≠[]:=by rintro k;rw[k]at c;simp at c
  simpa using this
theorem ok:Ag Bg 104 Xx:=by
 refine B1 pB (fun(i:(Int×List Int)×(Int×List Int)) hi=>?_);obtain⟨n,d⟩:=i;obtain⟨hn,hd,h0⟩:=Xf (n:=n) (d:=d) hi;have vn:=IE d;refine yj (Am n d) (zc (BU hd).1 ?_);rw[Tu];refine zp (fun c=>zc (BU hn).1 (zc (BU hd).1 (Aj 0 0 (C4 n) (C4 d) (UA hn) (UA hd) (by omega) (fun ob=>yu rfl rfl ?_)))) (fun c=>Aj 0 0 n d hn hd h0 (fun ob=>yu rfl rfl ?_))
 ·have c:zk d<0:=w6 c;show MX (C4 n) (C4 d)=Ux n d;unfold Ux;rw[wd c]
 ·have c:¬zk d<0:=w7 c;show MX n d=Ux n d;unfold Ux;rw[wc c]
end T104
theorem T156.ok:Ag Bg 156 NT:=by
 refine B1 Gb (fun(a:(Int×List Int)×(Int×List Int)) _=>?_);refine yj (T156.Am a) (zp (fun c=>zh (yu rfl rfl ?_)) (fun c=>zh (yu rfl rfl ?_)))
 ·have c:a.2.2=[]:=by simpa using c
  show(a.2.1==(1:Int))=CJ a.2;unfold CJ;rw[w4 c,yr];rfl
 ·have c:a.2.2≠[]:=by rintro k;rw[k]at c;simp at c
  show false=CJ a.2;unfold CJ;rw[w8 c,Bool.false_and]
theorem T157.ok:Ag Bg 157 aI:=by
 refine B1 Gb (fun(a:Int×List Int) _=>?_);exact yj (T157.Am a) (zc rfl (zh (yu rfl rfl rfl)))
theorem T160.ok:Ag Bg 160 qM:=by
 refine B1 Gb (fun(a:(Int×List Int)×(Int×List Int)) h=>?_);exact yj (T160.Am a) (zc h (zh (yu rfl rfl rfl)))
theorem T88.ok:Ag Bg 88 Tz:=by
 refine B1 Gb (fun(i:((Int×List Int)×(Int×List Int))×((Int×List Int)×(Int×List Int))) hi=>?_);obtain⟨a,b⟩:=i;have hi:((MT a.1&&MT a.2)&&(MT b.1&&MT b.2))=true:=hi;rw[ze,ze,ze]at hi;obtain⟨⟨a1,a2⟩,b1,b2⟩:=hi;obtain⟨a1,la1⟩:=EG a1;obtain⟨a2,la2⟩:=EG a2;obtain⟨b1,lb1⟩:=EG b1;obtain⟨b2,lb2⟩:=EG b2;refine yj (T88.Am a b) (zc (Aa a1 b2) (zc (Aa b1 a2) (zc (Aa (R2 la1 lb2) (R2 lb1 la2)) (zh (yu rfl rfl ?_)))));show BZ (zk (E0 a.1 b.2)) (zk (E0 b.1 a.2))=BZ _ _;rw[Dp,Dp]
theorem FH{a:Az}(h:kc a=true):A6 a.1=true/\A6 a.2=true/\Ae (zk a.1)<(Ak:Int)^4000/\Ae (zk a.2)<(Ak:Int)^4000/\0<zk a.2:=by
 unfold kc Sp.Dm at h;rw[ze,ze,w5]at h;obtain⟨a1,b1⟩:=EG h.1.1;obtain⟨a2,b2⟩:=EG h.1.2;exact⟨a1,a2,b1,b2,h.2⟩
theorem Rv:DM tN:=Ab T156.ok (Ab T157.ok (Ab T158.ok (Ab T159.ok (Ab T104.ok AP))))
theorem RK{n d:AS}(hn:A6 n=true)(hd:A6 d=true)(h0:zk d≠0):Lg n d=true:=by
 unfold Lg;exact Aa (Aa hn hd) (w4 h0)
theorem MZ{a b:AS}(ha:Ae (zk a)<(Ak:Int)^4000)(hb:Ae (zk b)<(Ak:Int)^4000):A6 (E0 a b)=true:=R2 ha hb
theorem T82.ok:Ag Bg 82 Tj:=by
 refine B1 Rv (fun(i:((Int×List Int)×(Int×List Int))×((Int×List Int)×(Int×List Int))) hi=>?_);obtain⟨a,b⟩:=i;have hi:(kc a&&kc b)=true:=hi;rw[ze]at hi;obtain⟨a1,a2,la1,la2,a0⟩:=FH hi.1;obtain⟨b1,b2,lb1,lb2,b0⟩:=FH hi.2;have hd:zk (E0 a.2 b.2)≠0:=by rw[Dp];exact ym (jf a0 b0)
 exact yj (T82.Am a b) (zc (Aa a1 b1) (zc (Aa a2 b2) (zc (RK (MZ la1 lb1) (MZ la2 lb2) hd) (zh (yu rfl rfl rfl)))))
namespace T80
variable {Q:PV->Ob->Prop}
theorem Aj(z1 z2:Int)(a b:Az)(ha:kc a=true)(hb:kc b=true)(hq:∀ob f,f=Ux (En (E0 a.1 b.2) (E0 b.1 a.2)) (E0 a.2 b.2)->Q (.agg [.dat i64 f.1.1,.dat (.nlist u64) f.1.2,.dat i64 f.2.1,.dat (.nlist u64) f.2.2]) ob):
  Ends tN (L1 z1 z2 b.1.1 b.1.2 b.2.1 b.2.2 a.1.1 a.1.2 a.2.1 a.2.2) Q:=by
 obtain⟨a1,a2,la1,la2,a0⟩:=FH ha;obtain⟨b1,b2,lb1,lb2,b0⟩:=FH hb;have hd:zk (E0 a.2 b.2)≠0:=by rw[Dp];exact ym (jf a0 b0)
 have hs:A6 (En (E0 a.1 b.2) (E0 b.1 a.2))=true:=wC (MZ la1 lb2) (MZ lb1 la2) (by rw[Dp,Dp];exact eI (Ky la1 lb2) (Ky lb1 la2));exact zm (Ar ..) (zc (Aa a1 b2) (zc (Aa b1 a2) (zc (Aa (MZ la1 lb2) (MZ lb1 la2)) (zc (Aa a2 b2) (zc (RK hs (MZ la2 lb2) hd) (zh (hq _ _ rfl)))))))
theorem ok:Ag Bg 80 QD:=by
 refine B1 Rv (fun(i:((Int×List Int)×(Int×List Int))×((Int×List Int)×(Int×List Int))) hi=>?_);obtain⟨a,b⟩:=i;have hi:(kc a&&kc b)=true:=hi;rw[ze]at hi;obtain⟨a1,a2,la1,la2,a0⟩:=FH hi.1;obtain⟨b1,b2,lb1,lb2,b0⟩:=FH hi.2;have far:¬(CJ a.2=true/\CJ b.2=true)->Ends tN (L1 0 0 b.1.1 b.1.2 b.2.1 b.2.2 a.1.1 a.1.2 a.2.1 a.2.2) (Ad QD (a,b)):=fun hn=>
  Aj 0 0 a b hi.1 hi.2 (fun ob f hf=>yu rfl rfl (by
   show f=Li a b;unfold Li;rw[wc hn];exact hf))
 refine yj (Am a b) (zc rfl (zp (fun c=>zc rfl (zp (fun d=>zc (Aa a1 b1) (zc rfl (zh (yu rfl rfl ?_)))) (fun d=>far (fun k=>by have:=k.2;rw[show CJ b.2=false from d]at this;cases this)))) (fun c=>far (fun k=>by have:=k.1;rw[show CJ a.2=false from c]at this;cases this))));show Sp.fWh (En a.1 b.1)=Li a b;unfold Li;rw[wd ⟨c,d⟩]
end T80
theorem T161.ok:Ag Bg 161 pZ:=by
 refine B1 Rv (fun(a:(Int×List Int)×(Int×List Int)) hi=>?_);have hi:(kc a&&decide (zk a.1≠0))=true:=hi;rw[ze,w5]at hi;obtain⟨a1,a2,la1,la2,a0⟩:=FH hi.1;exact yj (T161.Am a) (zc (RK a2 a1 hi.2) (zh (yu rfl rfl rfl)))
theorem RE{a:AS}(h:Dh a=true){k:Nat}(hb:Ae (zk a)<(Ak:Int)^k):a.2.length<=k:=by
 rcases Ps h with⟨h1,_⟩|h1
 ·rw[h1];exact yx _
 ·rw[<-h1];exact J2 (AF _) hb
theorem Gm{a:AS}(h:Dh a=true)(hb:Ae (zk a)<(Ak:Int)^4000):MT a=true:=by
 unfold MT;exact Aa h (w4 (RE h hb))
theorem W1{a:AS}(h:Dh a=true)(hb:Ae (zk a)<(Ak:Int)^9000):A6 a=true:=by
 unfold A6;exact Aa h (w4 (RE h hb))
structure Dz(f:Az)(q:Rat):Prop where
 n:Dh f.1=true
 d:Dh f.2=true
 vn:zk f.1=q.num
 vd:zk f.2=(q.den:Int)
def JR(k:Nat)(q:Rat):Prop:=Ae q.num<(Ak:Int)^k/\(q.den:Int)<(Ak:Int)^k
theorem Dz.den_pos{f:Az}{q:Rat}(h:Dz f q):0<zk f.2:=by
 rw[h.vd];have:=q.den_pos;omega
theorem Dz.CF{f:Az}{q:Rat}(h:Dz f q)(hs:JR 4000 q):kc f=true:=by
 unfold kc Sp.Dm;have h2:Ae (zk f.2)=(q.den:Int):=by rw[h.vd,Ah,zr]
 exact Aa (Aa (Gm h.n (by rw[h.vn];exact hs.1)) (Gm h.d (by rw[h2];exact hs.2))) (w4 h.den_pos)
theorem Wc{x y:Int}:Ae (x/y)<=Ae x:=by
 rw[Ah,Ah];have h1:=jc x y;omega
theorem jE{a b:AS}(hb:0<zk b):zk (F6 a b)=zk a/zk b:=by
 unfold F6;generalize hx:zk a=x;generalize zk b=y at hb;have h1:=Int.mul_ediv_add_emod (Ae x) y;have h2:=Int.emod_nonneg (Ae x) (ym hb);have h3:=Int.emod_lt_of_pos (Ae x) hb;split
 ·next c=>
  rw[bR,Cm,Ew];obtain⟨c1,c2⟩:=c;symm;rw[jk hb];have e:Ae x= -x:=by rw[Ah];omega
  rw[e]at h1 h2 h3 c2 ⊢;generalize -x/y=q at*;generalize -x % y=r at*;rw[Int.sub_mul,Int.neg_mul,qo q y];generalize y*q=t at*;omega
 ·next c=>
  rw[Cm];unfold Sp.sg;split
  ·next n=>
   have n:x<0:=w6 n;have c2:Ae x % y=0:=je fun h=>c ⟨n,h⟩
   symm;rw[jk hb];have e:Ae x= -x:=by rw[Ah];omega
   rw[c2]at h1;rw[e]at h1 ⊢;generalize -x/y=q at*;rw[Int.neg_mul,qo q y];generalize y*q=t at*;omega
  ·next n=>
   have n:¬x<0:=fun h=>n (w4 h)
   have e:Ae x=x:=by rw[Ah];omega
   rw[e]
theorem Yc{a b:AS}(ha:A6 a=true)(hb:0<zk b):Dh (F6 a b)=true:=by
 have hab:=bounds ha;have hd:Ae (zk a)/zk b<=Ae (zk a):=Int.ediv_le_self _ (AF _);have hd0:0<=Ae (zk a)/zk b:=Int.ediv_nonneg (AF _) (z8 hb);unfold F6;generalize Ae (zk a)/zk b=q at*;have hq:Ae q<(Ak:Int)^9000:=by
  refine ya ?_ hab;rw[Ah];omega
 split
 ·exact SU (DF (by rw[It];exact hq)) (by decide)
 ·refine(Nw (k:=9000) ?_ (by omega)).1;unfold Sp.sg;split
  ·rw[It];exact hq
  ·exact hq
theorem qY{a b:AS}(hb:0<zk b):zk (Sp.iQ a b)=zk a/zk b:=by
 unfold Sp.iQ;rw[wc (by omega)];exact jE hb
theorem iN{a b:AS}(ha:A6 a=true)(hb:0<zk b):Dh (Sp.iQ a b)=true:=by
 unfold Sp.iQ;rw[wc (by omega)];exact Yc ha hb
theorem Tk{n d:AS}(hn:A6 n=true)(hd:A6 d=true)(h0:0<zk d):Dz (MX n d) (yh (zk n) (zk d)):=by
 have hs:(zk d).sign=1:=jl h0;have e1:(yh (zk n) (zk d)).num=zk n/(qk (zk n) (zk d):Int):=by
  rw[qy,hs,jt,kh]
 have e2:((yh (zk n) (zk d)).den:Int)=zk d/(qk (zk n) (zk d):Int):=by
  rw[qz,wc (ym h0),kh,Int.natCast_ediv];rw[Int.natAbs_of_nonneg (z8 h0)]
 obtain⟨g1,g2,g3⟩:=rA (n:=n) hd (ym h0);unfold MX;split
 ·next c=>
  unfold CJ at c;rw[ze,w5,w5]at c;have e:zk d=1:=by rw[Bl c.1];exact c.2
  refine⟨(BU hn).1,(BU hd).1,?_,?_⟩
  ·rw[e1,e,Int.gcd_one];exact(ki _).symm
  ·rw[e2,e,Int.gcd_one];exact(ki _).symm
 ·refine⟨iN hn g3,iN hd g3,?_,?_⟩
  ·rw[qY g3,e1,g2]
  ·rw[qY g3,e2,g2]
theorem La{n d:AS}(hn:A6 n=true)(hd:A6 d=true)(h0:zk d≠0):Dz (Ux n d) (yh (zk n) (zk d)):=by
 unfold Ux;split
 ·next c=>
  have h:=Tk (UA hn) (UA hd) (by rw[IE];omega);rw[IE,IE]at h;have e:=Rat.divInt_mul_right (n:=zk n) (d:=zk d) (a:= -1) (by decide);rw[Int.mul_neg,jg,Int.mul_neg,jg]at e;rw[e]at h;exact h
 ·exact Tk hn hd (by omega)
theorem JR.Zd{k:Nat}{f:Az}{q:Rat}(h:Dz f q)(hs:JR k q):Ae (zk f.1)<(Ak:Int)^k/\Ae (zk f.2)<(Ak:Int)^k:=by
 rw[h.vn,h.vd];refine⟨hs.1,?_⟩;rw[Ah,zr];exact hs.2
theorem Dz.wQ{f:Az}{q:Rat}(h:Dz f q):yh (zk f.1) (zk f.2)=q:=by
 rw[h.vn,h.vd];exact zz q
theorem Dz.neg{f:Az}{q:Rat}(h:Dz f q)(hs:JR 4000 q):Dz (uG f) (-q):=by
 have ha:=JR.Zd h hs;have hk:=Vh (k:=4000) h.n (by omega) (by omega) (RE h.n ha.1);exact⟨hk.1,h.d,by show zk (C4 f.1)=_;rw[IE,h.vn,j0],by show zk f.2=_;rw[h.vd,j5]⟩
theorem JR.neg{k:Nat}{q:Rat}(h:JR k q):JR k (-q):=by
 unfold JR;rw[j0,j5,It];exact h
theorem Dz.mul{f g:Az}{p q:Rat}(hf:Dz f p)(hg:Dz g q)(sp:JR 4000 p)(sq:JR 4000 q):Dz (P5 f g) (p*q):=by
 have a:=JR.Zd hf sp;have b:=JR.Zd hg sq;have h:=La (n:=E0 f.1 g.1) (d:=E0 f.2 g.2) (MZ a.1 b.1) (MZ a.2 b.2) (by rw[Dp];exact ym (jf hf.den_pos hg.den_pos));rw[Dp,Dp, <-Rat.divInt_mul_divInt,hf.wQ,hg.wQ]at h;exact h
theorem Dz.add{f g:Az}{p q:Rat}(hf:Dz f p)(hg:Dz g q)(sp:JR 4000 p)(sq:JR 4000 q):Dz (Li f g) (p+q):=by
 have a:=JR.Zd hf sp;have b:=JR.Zd hg sq;have ja:=EG (Gm hf.n a.1);have jb:=EG (Gm hg.n b.1);unfold Li;split
 ·next c=>
  obtain⟨c1,c2⟩:=c;unfold CJ at c1 c2;rw[ze,w5,w5]at c1 c2;have e1:(p.den:Int)=1:=by rw[<-hf.vd,Bl c1.1];exact c1.2
  have e2:(q.den:Int)=1:=by rw[<-hg.vd,Bl c2.1];exact c2.2
  have ep:yh p.num 1=p:=by have:=zz p;rw[e1]at this;exact this
  have eq:yh q.num 1=q:=by have:=zz q;rw[e2]at this;exact this
  have es:p+q=yh (p.num+q.num) 1:=by
   have h:=qg p.num q.num (d₁:=1) (d₂:=1) (by decide) (by decide);rw[ep,eq,jg,jg,jg]at h;exact h
  refine⟨SU ja.1 jb.1,by show Dh (1,Cv 1)=true;rw[NB];rfl,?_,?_⟩
  ·show zk (En f.1 g.1)=_;rw[WG,hf.vn,hg.vn,es,qy];simp
  ·show zk (1,Cv 1)=_;rw[NB,Cm,es,qz];simp
 ·have h:=La (n:=En (E0 f.1 g.2) (E0 g.1 f.2)) (d:=E0 f.2 g.2) (wC (MZ a.1 b.2) (MZ b.1 a.2) (by rw[Dp,Dp];exact eI (Ky a.1 b.2) (Ky b.1 a.2))) (MZ a.2 b.2) (by rw[Dp];exact ym (jf hf.den_pos hg.den_pos));rw[WG,Dp,Dp,Dp, <-qg _ _ (ym hf.den_pos) (ym hg.den_pos),hf.wQ,hg.wQ]at h;exact h
theorem Dz.sub{f g:Az}{p q:Rat}(hf:Dz f p)(hg:Dz g q)(sp:JR 4000 p)(sq:JR 4000 q):Dz (PI f g) (p-q):=by
 rw[Rat.sub_eq_add_neg];exact hf.add (hg.neg sq) sp sq.neg
theorem Dz.inv{f:Az}{p:Rat}(hf:Dz f p)(sp:JR 4000 p)(h0:p≠0):Dz (Un f) p⁻¹:=by
 have a:=JR.Zd hf sp;have jn:=EG (Gm hf.n a.1);have jd:=EG (Gm hf.d a.2);have h:=La jd.1 jn.1 (by rw[hf.vn];exact fun h=>h0 (qn.mp h));rw[<-Rat.inv_divInt,hf.wQ]at h;exact h
end Go.Pe
namespace Go.Sp
open Go.Lib
theorem Nx{P:Nat->List UInt8->Prop}(h1:∀d,d<10->P d [yc (48+d)])(h2:∀a d,0<a->d<10->P a (decDigits a)->P (10*a+d) (decDigits a++[yc (48+d)]))(n:Nat):P n (decDigits n):=by
 induction n using Nat.strongRecOn with
 |_ n ih=>
  by_cases h:n<10
  ·rw[decDigits_one h];exact h1 n h
  ·have e:n=10*(n/10)+n % 10:=by omega
   have:=h2 (n/10) (n % 10) (by omega) (Nat.mod_lt _ (by decide)) (ih (n/10) (by omega));rw[<-FF _ _ (by omega) (Nat.mod_lt _ (by decide)), <-e]at this;exact this
theorem JJ:∀d:Fin 10,(yc (48+d.1)).toNat=48+d.1:=by decide
theorem KU{d:Nat}(h:d<10):BL (yc (48+d))=true/\HH (yc (48+d))=d:=by
 have e:(yc (48+d)).toNat=48+d:=JJ ⟨d,h⟩;unfold BL HH;rw[e];refine⟨?_,by omega⟩;rw[w4 (by omega),w4 (by omega)];rfl
theorem cS{c:UInt8}(h:BL c=true):c=yc (48+(HH c).toNat)/\(HH c).toNat<10:=by
 obtain⟨h1,h2⟩:=CU h;have hl:(HH c).toNat<10:=by omega
 refine⟨yp.1 ?_,hl⟩;rw[JJ ⟨(HH c).toNat,hl⟩];show c.toNat=48+(HH c).toNat;unfold HH at*;omega
theorem RY(n:Nat):decDigits n≠[]:=Nx (P:=fun _ l=>l≠[]) (fun _ _=>by simp) (fun _ _ _ _ _=>by simp) n
theorem DI(n:Nat):Al (decDigits n)=true:=by
 refine Nx (P:=fun _ l=>Al l=true) (fun d h=>?_) (fun a d _ h ih=>?_) n
 ·unfold Al;rw[yd,(KU h).1];rfl
 ·unfold Al at*;rw[List.all_append,ih,yd,(KU h).1];rfl
theorem Hr(n:Nat):AB 0 (decDigits n)=n:=by
 refine Nx (P:=fun n l=>AB 0 l=n) (fun d h=>?_) (fun a d _ h ih=>?_) n
 ·show 10*0+HH (yc (48+d))=d;rw[(KU h).2];omega
 ·rw[CL,ih];show 10*(a:Int)+HH (yc (48+d))=_;rw[(KU h).2];omega
theorem iZ(n:Nat)(h0:0<n):(decDigits n).getD 0 0≠48:=by
 refine Nx (P:=fun n l=>0<n->l.getD 0 0≠48) (fun d h h0=>?_) (fun a d ha _ ih _=>?_) n h0
 ·show yc (48+d)≠48;intro e;have:=JJ ⟨d,h⟩;have e2:=wi yi e;rw[show(yc (48+d)).toNat=48+d from this]at e2;have:(48:UInt8).toNat=48:=rfl;omega
 ·have h1:=ih ha;cases hd:decDigits a with
  |nil=>exact wh hd (RY a)
  |cons c r=>rw[hd]at h1;exact h1
theorem T7(n:Nat):AT (decDigits n)=true:=by
 unfold AT;rw[DI,w4 (RY n)];rcases y7 n with rfl|h
 ·rw[decDigits_one (by decide)];rfl
 ·rw[w4 (iZ n h)];rfl
theorem Fs{s:List UInt8}(h:AT s=true):s≠[]/\Al s=true/\(s.getD 0 0≠48\/s=[48]):=by
 unfold AT at h;rw[ze,ze,w5,Bool.or_eq_true,w5,w5]at h;exact⟨h.1.1,h.1.2,h.2⟩
theorem HX{s:List UInt8}(h:AT s=true)(h0:s≠[48]):0<AB 0 s:=by
 obtain⟨h1,h2,h3⟩:=Fs h;cases s with
 |nil=>exact wh rfl h1
 |cons c r=>
  have g0:(c::r).getD 0 0=c:=rfl;rw[g0]at h3;have hc:c≠48:=by
   rcases h3 with x|x
   ·exact x
   ·exact wh x h0
  unfold Al at h2;rw[yd,ze]at h2;have hd:=CU h2.1;have hr:Al r=true:=h2.2;have hb:=Be hr;show 0<AB (10*0+HH c) r;rw[Ey];have hp:(0:Int)<10^r.length:=Int.pow_pos (by decide);have hn:c.toNat≠48:=fun x=>hc (yp.1 x)
  have hg:0<10*0+HH c:=by show 0<10*0+((c.toNat:Int)-48);have hd2:0<=((c.toNat:Int)-48):=hd.1;omega
  have:=jf hg hp;omega
theorem OP{s:List UInt8}(h:AT s=true):s=decDigits (AB 0 s).toNat:=by
 generalize hn:s.length=n;induction n generalizing s with
 |zero=>exact wh (yk.1 hn) (Fs h).1
 |succ n ih=>
  obtain⟨h1,h2,h3⟩:=Fs h;obtain⟨t,c,rfl⟩:∃t c,s=t++[c]:=⟨_,_,(List.dropLast_concat_getLast h1).symm⟩;unfold Al at h2;rw[List.all_append,ze,yd,ze]at h2;obtain⟨h4,h5,_⟩:=h2;obtain⟨b1,b2⟩:=cS h5;obtain⟨d1,_⟩:=CU h5;rw[CL];show t++[c]=decDigits (10*AB 0 t+HH c).toNat;by_cases ht:t=[]
  ·subst ht;show[c]=decDigits (10*0+HH c).toNat;rw[show(10*0+HH c).toNat=(HH c).toNat by omega,decDigits_one b2, <-b1]
  ·have g:(t++[c]).getD 0 0=t.getD 0 0:=by
    cases t with
    |nil=>exact wh rfl ht
    |cons x r=>rfl
   have h6:t.getD 0 0≠48:=by
    rcases h3 with x|x
    ·rw[g]at x;exact x
    ·have h7:=wi j6 x;rw[zn]at h7;have h8:t.length+1=1:=h7;exact wh (yk.1 (by omega)) ht
   have hf:AT t=true:=by
    unfold AT Al;rw[w4 ht,h4,w4 h6];rfl
   have hp:=HX hf (fun k=>h6 (by rw[k];rfl));have hi:=ih hf (by rw[zn]at hn;simpa using hn);have e:(10*AB 0 t+HH c).toNat=10*(AB 0 t).toNat+(HH c).toNat:=by omega
   rw[e,FF _ _ (by omega) b2, <-hi, <-b1]
theorem sX:∀ {a:List UInt8},(∀c∈a,c≠47)->Ay a=a/\AM a=[]/\Bn a=false:=by
 intro a h;have hc:Bn a=false:=by
  unfold Bn;rw[List.any_eq_false];intro x hx;simpa using h x hx
 exact⟨((Go.Pe.BG a).2.2 hc).1,((Go.Pe.BG a).2.2 hc).2,hc⟩
theorem nT:∀ {a:List UInt8} (b:List UInt8),(∀c∈a,c≠47)->Ay (a++47::b)=a/\AM (a++47::b)=b/\Bn (a++47::b)=true:=by
 intro a b h;have hc:Bn (a++47::b)=true:=by
  unfold Bn;rw[List.any_eq_true];exact⟨47,by simp,rfl⟩
 have ha:∀ {a:List UInt8},(∀c∈a,c≠47)->Ay (a++47::b)=a:=by
  intro a;induction a with
  |nil=>intro _;show Ay (47::b)=[];rw[Go.Pe.DR,wd rfl]
  |cons x r ih=>
   intro h;show Ay (x::(r++47::b))=_;rw[Go.Pe.DR,wc (h x (by simp)),ih (fun c hc=>h c (List.mem_cons_of_mem _ hc))]
 have e:=ha h;refine⟨e,?_,hc⟩;rw[((Go.Pe.BG _).2.1 hc).2,e];simp
theorem Qi{s:List UInt8}(h:Al s=true):∀c∈s,c≠47:=by
 intro c hc e;unfold Al at h;rw[qi]at h;have:=h c hc;rw[e]at this;exact wh this (by decide)
theorem Fk{s:List UInt8}(h:Al s=true):s.getD 0 0≠45:=by
 cases s with
 |nil=>decide
 |cons c r=>
  unfold Al at h;rw[yd,ze]at h;show c≠45;intro e;rw[e]at h;exact wh h.1 (by decide)
def AW(q:Rat):List UInt8:=if q.den=1 then itoa q.num else itoa q.num++47::decDigits q.den
def An(s:List UInt8):Rat:=yh (A9 s) (AI s)
theorem C9(n:Int):(∀c∈itoa n,c≠47)/\AY (itoa n)=decDigits n.natAbs/\preB (itoa n)=decide (n<0)/\Cc (itoa n)=n:=by
 unfold itoa;by_cases h:n<0
 ·rw[wd h];refine⟨fun c hc=>?_,rfl,(w4 h).symm,?_⟩
  ·rcases List.mem_cons.1 hc with rfl|hc
   ·decide
   ·exact Qi (DI _) c hc
  ·show -AB 0 (decDigits n.natAbs)=n;rw[Hr];omega
 ·rw[wc h];have hm:=Fk (DI n.toNat);have e:n.toNat=n.natAbs:=by omega
  refine⟨Qi (DI _),?_,?_,?_⟩
  ·unfold AY;rw[wc hm,e]
  ·unfold preB;rw[w8 hm,w8 h]
  ·unfold Cc;rw[wc hm,Hr];omega
theorem EI(q:Rat):Ay (AW q)=itoa q.num/\AM (AW q)=(if q.den=1 then[]else decDigits q.den)/\Bn (AW q)=decide (q.den≠1):=by
 unfold AW;have h:=(C9 q.num).1;by_cases hd:q.den=1
 ·rw[wd hd,wd hd,w8 (not_not_intro hd)];exact sX h
 ·rw[wc hd,wc hd,w4 hd];exact nT _ h
theorem JM(q:Rat):A9 (AW q)=q.num/\AI (AW q)=q.den:=by
 obtain⟨h1,h2,h3⟩:=EI q;unfold A9 AI;rw[h1,h2,h3];refine⟨(C9 q.num).2.2.2,?_⟩;by_cases hd:q.den=1
 ·rw[wc (by simpa using hd),hd];rfl
 ·rw[wd (w4 hd),wc hd];unfold Cc;rw[wc (Fk (DI _)),Hr]
theorem CC(q:Rat):An (AW q)=q:=by
 unfold An;rw[(JM q).1,(JM q).2];exact zz q
theorem YF{p q:Rat}(h:AW p=AW q):p=q:=by
 rw[<-CC p,h,CC]
theorem RX(a:List UInt8):Ay (AY a)=AY (Ay a)/\AM (AY a)=AM a/\Bn (AY a)=Bn a/\preB (Ay a)=preB a:=by
 unfold AY preB;cases a with
 |nil=>exact⟨rfl,rfl,rfl,rfl⟩
 |cons c r=>
  have g0:(c::r).getD 0 0=c:=rfl;rw[g0,Go.Pe.DR];by_cases hc:c=45
  ·subst hc;have e:AM (45::r)=AM r:=by
    unfold AM;rw[qu];cases r.findIdx? (fun x=>x==47)<;>rfl
   exact⟨rfl,e.symm,rfl,rfl⟩
  ·rw[wc hc];by_cases h7:c=47
   ·subst h7;exact⟨(Go.Pe.DR _ _),rfl,rfl,rfl⟩
   ·rw[wc h7];have g1:(c::Ay r).getD 0 0=c:=rfl;rw[g1,wc hc];exact⟨by rw[Go.Pe.DR,wc h7],rfl,rfl,rfl⟩
theorem Wp{a:List UInt8}(h:Au a=0):Gi a=true/\(Ay (AY a)).length<=600/\(AM (AY a)).length<=600/\(Bn (AY a)=true->gI (kO a) (nM a)=1):=by
 unfold Au at h;cases hf:Gi a with
 |false=>rw[wd hf]at h;exact wh h (by decide)
 |true=>
  rw[wc (by rw[hf];decide)]at h;split at h
  ·exact wh h (by decide)
  ·next c=>
   split at h
   ·exact wh h (by decide)
   ·next d=>exact⟨rfl,by omega,by omega,fun k=>je fun g=>d ⟨k,g⟩⟩
def E1(k:Nat)(q:Rat):Prop:=q.num.natAbs<10^k/\q.den<10^k
theorem Ph{n d:Int}(hd:0<d)(h:qk n d=1):(yh n d).num=n/\((yh n d).den:Int)=d:=by
 have hs:d.sign=1:=jl hd;rw[qy,qz,wc (ym hd),hs,jt,kh,h];refine⟨ki _,?_⟩;rw[Nat.div_one,Int.natAbs_of_nonneg (z8 hd)]
theorem NQ{s:List UInt8}(h:Al s=true){k:Nat}(hl:s.length<=k):(AB 0 s).toNat<10^k:=by
 have h1:=Be h;have h2:(10:Int)^s.length<=10^k:=AH (by decide) hl;have h3:((10^k:Nat):Int)=(10:Int)^k:=by simp
 omega
theorem JL(k:Nat)(h:k≠0):(1:Int).toNat<10^k:=Nat.one_lt_pow h (by decide)
theorem nL:decDigits (y9 1)=[49]:=by rw[show y9 1=1 from rfl,decDigits_one (by decide)];rfl
theorem LI{s:List UInt8}(h:Au s=0):AW (An s)=s/\(An s).num=A9 s/\((An s).den:Int)=AI s/\E1 600 (An s):=by
 obtain⟨hf,l1,l2,hg⟩:=Wp h;obtain⟨p1,p2,p3,p4⟩:=RX s;unfold Gi at hf;rw[ze,ze]at hf;obtain⟨⟨fa,fm⟩,fb⟩:=hf;unfold kO nM at hg;obtain⟨A,hA⟩:∃A,A=Ay (AY s):=⟨_,rfl⟩;obtain⟨B,hB⟩:∃B,B=AM (AY s):=⟨_,rfl⟩;rw[<-hA]at fa fm l1 hg;rw[<-hB]at fb l2 hg;rw[p3]at fb hg;have dA:=(Fs fa).2.1;have ea:=OP fa;have v0:=Be dA;have hn:A9 s=(if preB s=true then -AB 0 A else AB 0 A)/\Ay s=(if preB s=true then 45::A else A):=by
  have e1:A=AY (Ay s):=by rw[hA,p1]
  unfold A9 Cc;rw[<-p4];unfold preB;rw[e1];unfold AY;by_cases hc:(Ay s).getD 0 0=45
  ·rw[wd hc,wd (w4 hc),wd hc,wd (w4 hc)];refine⟨rfl,?_⟩;cases hs:Ay s with
   |nil=>rw[hs]at hc;exact wh hc (by decide)
   |cons c r=>
    rw[hs]at hc;have hc:c=45:=hc;rw[hc];rfl
  ·rw[wc hc,wc (by rw[w8 hc];decide),wc hc,wc (by rw[w8 hc];decide)];exact⟨rfl,rfl⟩
 have hna:(A9 s).natAbs=(AB 0 A).toNat:=by rw[hn.1];split<;>omega
 have hd:0<AI s/\(AI s).toNat<10^600/\qk (A9 s) (AI s)=1/\(Bn s=true->B=decDigits (AI s).toNat/\AI s≠1)/\(Bn s=false->AI s=1):=by
  unfold AI;rw[<-p2, <-hB];cases hc:Bn s with
  |false=>
   rw[wc (by decide)];exact⟨by decide,JL 600 (by decide),Int.gcd_one,(fun k=>by cases k),fun _=>rfl⟩
  |true=>
   rw[hc]at fb;have fb:(AT B&&decide (B≠[48])&&decide (B≠[49]))=true:=fb;rw[ze,ze,w5,w5]at fb;obtain⟨⟨f1,f2⟩,f3⟩:=fb;have dB:=(Fs f1).2.1;have hp:=HX f1 f2;have er:Cc B=AB 0 B:=by unfold Cc;rw[wc (Fk dB)]
   rw[wd rfl,er];refine⟨hp,NQ (k:=600) dB l2,?_,fun _=>⟨OP f1,?_⟩,(fun k=>by cases k)⟩
   ·have g:=hg hc;rw[FQ]at g;have g:qk (AB 0 A) (AB 0 B)=1:=by omega
    rw[hn.1];split
    ·rw[Int.neg_gcd];exact g
    ·exact g
   ·intro e;have:=OP f1;rw[e]at this;exact f3 (this.trans nL)
 obtain⟨d0,d1,d2,d3,d4⟩:=hd;obtain⟨r1,r2⟩:=Ph (n:=A9 s) d0 d2;have r1:(An s).num=A9 s:=r1;have r2:((An s).den:Int)=AI s:=r2;have r3:(An s).den=(AI s).toNat:=by omega
 refine⟨?_,r1,r2,?_,?_⟩
 ·have ei:itoa (A9 s)=Ay s:=by
   rw[hn.2];unfold itoa;by_cases hb:preB s=true
   ·have hA0:A≠[48]:=by
     have hb2:preB s=true:=hb;rw[hb2]at fm;simpa using fm
    have:=HX fa hA0;rw[hn.1,wd hb,wd hb,wd (by omega),Int.natAbs_neg];rw[show(AB 0 A).natAbs=(AB 0 A).toNat by omega, <-ea]
   ·rw[hn.1,wc hb,wc hb,wc (by omega), <-ea]
  unfold AW;rw[r1,r3,ei];obtain⟨c1,c2,c3⟩:=Go.Pe.BG s;cases hc:Bn s with
  |false=>
   rw[d4 hc,wd (show y9 1=1 from rfl)];exact(c3 hc).1
  |true=>
   obtain⟨k1,k2⟩:=d3 hc;obtain⟨m1,m2⟩:=c2 hc;rw[wc (by omega), <-k1,hB,p2,m2];have hx:s.drop (Ay s).length=47::s.drop ((Ay s).length+1):=by
    have h0:∀t:List UInt8,Bn t=true->t.drop (Ay t).length=47::t.drop ((Ay t).length+1):=by
     intro t;induction t with
     |nil=>intro h;cases h
     |cons c r ih=>
      intro h;rw[Go.Pe.DR];by_cases e:c=47
      ·rw[wd e,e];rfl
      ·rw[wc e];have h2:Bn r=true:=by
        unfold Bn at h ⊢;rw[List.any_cons]at h;simpa [e]using h
       exact ih h2
    exact h0 s hc
   rw[<-hx];conv=>lhs;rw[c1]
   have:=qf (Ay s).length s;rw[<-c1]at this ⊢;exact this
 ·rw[r1,hna];exact NQ (k:=600) dA l1
 ·rw[r3];exact d1
end Go.Sp
namespace Go.Sp
def AU(n:Int):List UInt8:=ye n
def Pg(s:List UInt8)(n:Int):List UInt8:=Lib.repeatL s n.toNat
end Go.Sp
namespace Go.Pe
open Go.Det
def cG:Ap:=⟨[i64],fun n=>Sp.CG n,[.str],fun n=>Sp.AU n,false⟩
def TT:Ap:=⟨[u64,i64],fun i=>decide (0<=i.1)&&decide (i.1<1000000000000000000)&&decide (i.2=10),[.str],fun i=>Sp.AU i.1,false⟩
def Si:Ap:=⟨[.str,i64],fun i=>decide (0<=i.2)&&decide (i.2<=1000)&&decide (i.1.length<=1000),[.str],fun i=>Sp.Pg i.1 i.2,false⟩
def uF:Ap:=⟨[BF],fun a=>Sp.A6 a,[.str],fun a=>Sp.AU (zk a),false⟩
def PZ:A1:=X7 [(124,cG),(218,O9),(230,Gk),(249,TT),(250,Si)]
open Sp
section
open List Int Prod
namespace T200
def T(a:Int×List Int):Tr:=tree PZ false 9 200 (Af ([Sh.pair i64 (Sh.nlist (ke ql))]) a)
def L1(v3:Bool)(v4:List Int)(v5n:Nat)(o0:List Int):Tr:=re ((T (0,[])).R.L) (AG 69 [(3,.dat Sh.bool v3),(4,.dat (Sh.list (ke ql)) v4),(5,.sl 0 1 0 v5n none),(6,.nil)] [(0,.arr false 130 (ke ql) o0)] 1)
theorem Am(a:Int×List Int):T a=.ite (!decide (0<length (snd a))) (.ite (CG (fst a)) (.leaf (.dat Sh.str (AU (fst a))) ([(0,.box [.dat i64 (fst a),.dat (Sh.nlist (ke ql)) (snd a)])])) .fail) (.ite (Dh (fst a,snd a)) (L1 (decide (zk (fst a,snd a)<0)) (Bs (Ae (zk (fst a,snd a)))) 1 ([1000000000000000000])) .fail):=by kernel_rfl
def L2(v3:Bool)(v4:List Int)(v5n v6n:Nat)(o1:List (List UInt8))(o0:List Int):Tr:=re ((stepT PZ (L1 false [] 0 [])).L.L.L.L.L.L.L.L.L) (AG 69 [(3,.dat Sh.bool v3),(4,.dat (Sh.list (ke ql)) v4),(5,.sl 0 1 0 v5n none),(6,.sl 1 1 0 v6n none)] [(1,.arr false 9 Sh.str o1),(0,.arr true 130 (ke ql) o0)] 2)
def L3(v11:Int)(o1:List Int)(o0n:Nat):Tr:=re ((stepT PZ (L1 false [] 0 [])).R.L.L.L) (AG 69 [(6,.nil),(10,.ptr 0 0),(11,.dat i64 v11)] [(1,.arr false 5 (ke IntKind.u8) o1),(0,ji 222 [.ptr 0 0,.sl 1 1 0 o0n none])] 2)
def L4(v11:Int):Tr:=re ((stepT PZ (L1 false [] 0 [])).R.L.R) (AG 69 [(6,.nil),(10,.ptr 0 0),(11,.dat i64 v11)] [(0,ji 222 [.ptr 0 0,.nil])] 1)
def L5(v11:Int):Tr:=re ((stepT PZ (L1 false [] 0 [])).R.R) (AG 69 [(6,.nil),(10,.ptr 0 0),(11,.dat i64 v11)] [(0,ji 222 [PV.nilp,.nil])] 1)
theorem Ar(v3:Bool)(v4:List Int)(v5n:Nat)(o0:List Int):stepT PZ (L1 v3 v4 v5n o0)=let a':=Bs (Ao v4 % Ao (take v5n o0));let b':=Bs (Ao v4/Ao (take v5n o0));let d':=decide (1<=1)&&decide (0<1)&&decide ((2*1+1000)*16<=281474976710656);let e':=zg .i64 (0-1);let f':=AU (getD a' 0 0);let c':=18-(↑(length f'):Int);.ite (decide ((length v4:Int)>0)) (.ite (decide (0+v5n<=length o0)&&true&&RW v4 (take v5n o0)) (.ite (decide ((↑(length a'):Int)>0)) (.ite (decide (0<(↑(length a'):Int))) (.ite (decide ((0:Sh.T u64)<=getD a' 0 0)&&decide (getD a' 0 0<(1000000000000000000:Sh.T u64))&&decide (10=10)) (.ite (decide ((↑(length b'):Int)>0)) (.ite (decide (0<=zg .i64 c')&&decide (zg .i64 c'<=1000)&&decide (1<=1000)) (.ite (decide (length (Pg [(48:UInt8)] (zg .i64 c'))+length f'<=4611686018427387904)) (.ite d' (L2 v3 b' v5n 1 ([Pg [(48:UInt8)] (zg .i64 c')++AU (getD a' 0 0)]) o0) .fail) .fail) .fail) (.ite d' (L2 v3 b' v5n 1 ([AU (getD a' 0 0)]) o0) .fail)) .fail) .fail) (.ite (decide ((↑(length b'):Int)>0)) (.ite true (.ite true (.ite true (L2 v3 b' v5n 1 ([Pg [(48:UInt8)] (zg .i64 (18-1))++[(48:UInt8)]]) o0) .fail) .fail) .fail) (.ite true (L2 v3 b' v5n 1 ([[(48:UInt8)]]) o0) .fail))) .fail) (.ite v3 (.ite true (.ite true (L3 e' (yw (fun b=>(↑(yi b):Int)) [(45:UInt8)]) 1) .fail) (L4 e')) (L5 e')):=by kernel_rfl
def L6(v6n:Nat)(v11:Int)(o2:List Int)(o1n:Nat)(o0:List (List UInt8)):Tr:=re ((stepT PZ (L2 false [] 0 0 [] [])).R.L.L.L) (AG 69 [(6,.sl 0 1 0 v6n none),(10,.ptr 1 0),(11,.dat i64 v11)] [(2,.arr false 5 (ke IntKind.u8) o2),(1,ji 222 [.ptr 1 0,.sl 2 1 0 o1n none]),(0,.arr false 9 Sh.str o0)] 3)
def L7(v6n:Nat)(v11:Int)(o0:List (List UInt8)):Tr:=re ((stepT PZ (L2 false [] 0 0 [] [])).R.L.R) (AG 69 [(6,.sl 0 1 0 v6n none),(10,.ptr 1 0),(11,.dat i64 v11)] [(1,ji 222 [.ptr 1 0,.nil]),(0,.arr false 9 Sh.str o0)] 2)
def L8(v6n:Nat)(v11:Int)(o0:List (List UInt8)):Tr:=re ((stepT PZ (L2 false [] 0 0 [] [])).R.R) (AG 69 [(6,.sl 0 1 0 v6n none),(10,.ptr 1 0),(11,.dat i64 v11)] [(1,ji 222 [PV.nilp,.nil]),(0,.arr false 9 Sh.str o0)] 2)
theorem AZ(v3:Bool)(v4:List Int)(v5n v6n:Nat)(o1:List (List UInt8))(o0:List Int):stepT PZ (L2 v3 v4 v5n v6n o1 o0)=let a':=Bs (Ao v4 % Ao (take v5n o0));let b':=Bs (Ao v4/Ao (take v5n o0));let d':=decide ((2*(v6n+1)+1000)*16<=281474976710656);let e':=zg .i64 ((↑v6n:Int)-1);let f':=decide (v6n=length o1);let g':=jj v6n 1;let h':=decide (1<=1)&&true&&f'&&d';let i':=AU (getD a' 0 0);let c':=18-(↑(length i'):Int);.ite (decide ((length v4:Int)>0)) (.ite (decide (0+v5n<=length o0)&&true&&RW v4 (take v5n o0)) (.ite (decide ((↑(length a'):Int)>0)) (.ite (decide (0<(↑(length a'):Int))) (.ite (decide ((0:Sh.T u64)<=getD a' 0 0)&&decide (getD a' 0 0<(1000000000000000000:Sh.T u64))&&decide (10=10)) (.ite (decide ((↑(length b'):Int)>0)) (.ite (decide (0<=zg .i64 c')&&decide (zg .i64 c'<=1000)&&decide (1<=1000)) (.ite (decide (length (Pg [(48:UInt8)] (zg .i64 c'))+length i'<=4611686018427387904)) (.ite h' (L2 v3 b' v5n g' (o1++[Pg [(48:UInt8)] (zg .i64 c')++AU (getD a' 0 0)]) o0) .fail) .fail) .fail) (.ite h' (L2 v3 b' v5n g' (o1++[AU (getD a' 0 0)]) o0) .fail)) .fail) .fail) (.ite (decide ((↑(length b'):Int)>0)) (.ite true (.ite true (.ite (f'&&d') (L2 v3 b' v5n g' (o1++[Pg [(48:UInt8)] (zg .i64 (18-1))++[(48:UInt8)]]) o0) .fail) .fail) .fail) (.ite (f'&&d') (L2 v3 b' v5n g' (o1++[[(48:UInt8)]]) o0) .fail))) .fail) (.ite v3 (.ite true (.ite true (L6 v6n e' (yw (fun b=>(↑(yi b):Int)) [(45:UInt8)]) 1 o1) .fail) (L7 v6n e' o1)) (L8 v6n e' o1)):=by kernel_rfl
theorem HP(v6n:Nat)(v11:Int)(o2:List Int)(o1n:Nat)(o0:List (List UInt8)):stepT PZ (L6 v6n v11 o2 o1n o0)=let a':=getD o0 (toNat v11) [];.ite (decide (v11>=0)) (.ite (decide (0<=v11)&&decide (v11<(↑v6n:Int))) (.ite (decide (toNat v11<length o0)) (.ite (decide (o1n=length o2)&&decide ((2*(o1n+length (yw (fun b=>(↑(yi b):Int)) a'))+1000)*1<=281474976710656)) (L6 v6n (zg .i64 (v11-1)) (o2++yw (fun b=>(↑(yi b):Int)) a') (jj o1n (length (yw (fun b=>(↑(yi b):Int)) a'))) o0) .fail) .fail) .fail) (.ite (decide (0<o1n)) (.ite (decide (0<(↑o1n:Int))&&decide (toNat (↑o1n:Int)<=length o2)&&decide (toNat (↑o1n:Int)<=9223372036854775807)&&List.all o2 fun x=>decide (0<=x)&&decide (x<256)) (.leaf (.dat Sh.str (yw (fun x=>yc (toNat x)) (take (toNat (↑o1n:Int)) o2))) ([(1,ji 222 [.ptr 1 0,.sl 2 1 0 o1n none]),(0,.arr false 9 Sh.str o0)])) .fail) .fail):=by kernel_rfl
theorem Jz(v6n:Nat)(v11:Int)(o0:List (List UInt8)):stepT PZ (L8 v6n v11 o0)=let a':=getD o0 (toNat v11) [];let b':=zg .i64 (v11-1);.ite (decide (v11>=0)) (.ite (decide (0<=v11)&&decide (v11<(↑v6n:Int))) (.ite (decide (toNat v11<length o0)) (.ite (decide (0<length (yw (fun b=>(↑(yi b):Int)) a'))) (.ite (decide ((2*length (yw (fun b=>(↑(yi b):Int)) a')+1000)*1<=281474976710656)) (L6 v6n b' (yw (fun b=>(↑(yi b):Int)) a') (length (yw (fun b=>(↑(yi b):Int)) a')) o0) .fail) (L7 v6n b' o0)) .fail) .fail) .fail:=by kernel_rfl
end T200
end
theorem Mb{f:FuncId}{sp:Ap}{q:List V->H->Option (V×H)}(hp:Bg.prim f=none)(hfn:∃i,Bg.fn f=some i)(hq:Bg.spec f=some q)
  (hrun:∀(F:Fz) (h:H) (args:List V) (i:(BC sp.ins).T),Gh h->LQ F (Af sp.ins i) args->sp.pre i=true->∃v,q args h=some (v,h)/\PC F (one (Af sp.outs (sp.f i))) v):Ag Bg f sp:=by
 refine .yF ⟨hp,hfn,fun F h args i hfz hlt hgh hargs hpre=>?_⟩;obtain⟨v,h1,h2⟩:=hrun F h args i hgh hargs hpre;refine⟨[(v,h)],1,fun m hm=>?_,fun _=>⟨_,rfl⟩,fun x hx=>?_⟩
 ·obtain⟨m',rfl⟩:∃m',m=m'+1:=⟨m-1,by omega⟩;rw[Bj];simp only[hq,h1]
 ·cases qx.1 hx;exact⟨yb _,fun _ _=>rfl,hlt,F,fun _ _ h=>h,fun _ _ h=>.inl h,hfz,h2⟩
theorem vF:∃cs t fz,(3,O.cells cs t fz)∈F4/\sY cs Lib.pow10Tab=true:=⟨_,_,_,List.mem_cons_self ..,by kernel_rfl⟩
theorem WQ{h:H}(hg:Gh h):RQ h=true:=by
 obtain⟨cs,t,fz,h1,h2⟩:=vF;have h3:=hg _ h1;unfold RQ;rw[h3];exact h2
theorem jK:Ag Bg 124 cG:=by
 refine Mb (q:=X0) (by kernel_rfl) (BA (by kernel_rfl)) rfl fun F h args (n:Int) hg ha hp=>?_
 have hp:Sp.CG n=true:=hp;have ha:args=[.int .i64 n]:=by
  have:=ha (fun _=>none) 0;simp only[Af,cG,Bc]at this;obtain⟨v,vs,rfl,h1,rfl⟩:=this;obtain rfl:=CA h1;rfl
 subst ha;refine⟨.str (ye n),?_,fun ρ N=>J6 _⟩;have:=Eh hp;have c1:decide (-9223372036854775808<=n)=true:=w4 (by omega);have c2:decide (n<=9223372036854775807)=true:=w4 (by omega);simp only[X0,WQ hg,c1,c2,Bool.and_self,we]
theorem ZU:Ag Bg 250 Si:=by
 refine Mb (q:=SY) (by kernel_rfl) (BA (by kernel_rfl)) rfl fun F h args (i:List UInt8×Int) hg ha hp=>?_
 obtain⟨s,n⟩:=i;have hp:(decide (0<=n)&&decide (n<=1000)&&decide (s.length<=1000))=true:=hp;rw[ze,ze,w5,w5,w5]at hp;obtain⟨⟨h0,h1⟩,h2⟩:=hp;obtain⟨c,rfl⟩:=yv h0;have ha:args=[.str s,.int .i64 (c:Int)]:=by
  have:=ha (fun _=>none) 0;simp only[Af,Si,Bc]at this;obtain⟨v,vs,rfl,h3,w,ws,rfl,h4,rfl⟩:=this;obtain rfl:=EX h3;obtain rfl:=CA h4;rfl
 subst ha;refine⟨.str (Sp.Pg s (c:Int)),?_,fun ρ N=>J6 _⟩;have c1:kj c 9223372036854775807=true:=qh (by omega);have c2:kj (DB s*c) 140737488355328=true:=qh (by
  rw[Cy];have:s.length*c<=1000*1000:=Nat.mul_le_mul h2 (by omega);omega)
 show(bif kj c 9223372036854775807&&kj (DB s*c) 140737488355328 then some (V.str (Lib.repeatL s c),h)else none)=_;rw[c1,c2];rfl
theorem fV:Ag Bg 249 TT:=by
 refine Mb (q:=fmtQ) (by kernel_rfl) (BA (by kernel_rfl)) rfl fun F h args (i:Int×Int) hg ha hp=>?_
 obtain⟨u,b⟩:=i;have hp:(decide (0<=u)&&decide (u<1000000000000000000)&&decide (b=10))=true:=hp;rw[ze,ze,w5,w5,w5]at hp;obtain⟨⟨h0,h1⟩,rfl⟩:=hp;obtain⟨c,rfl⟩:=yv h0;have ha:args=[.int .u64 (c:Int),.int .i64 10]:=by
  have:=ha (fun _=>none) 0;simp only[Af,TT,Bc]at this;obtain⟨v,vs,rfl,h3,w,ws,rfl,h4,rfl⟩:=this;obtain rfl:=CA h3;obtain rfl:=CA h4;rfl
 subst ha;refine⟨.str (Sp.AU (c:Int)),?_,fun ρ N=>J6 _⟩;have c1:kj c 18446744073709551615=true:=qh (by omega);have e:Sp.AU (c:Int)=zo c:=Lib.itoa_nonneg _;rw[e];show(bif RQ h&&(kj c 18446744073709551615&&Nat.beq 10 10)then some (V.str (zo c),h)else none)=_;rw[WQ hg,c1];rfl
namespace T200
abbrev jG(s:List UInt8):List Int:=yw (fun b=>(↑(yi b):Int)) s
theorem UN:∀s:List UInt8,yw (fun x:Int=>yc (y9 x)) (jG s)=s
 |[]=>rfl
 |b::s=>by
  have:=UN s;simp only[jG,List.map_cons]at this ⊢;rw[this];simp
theorem Xi:∀s:List UInt8,(List.all (jG s) fun x=>decide ((0:Int)<=x)&&decide (x<(256:Int)))=true
 |[]=>rfl
 |b::s=>by
  have h1:=Xi s;have h2:=b.toNat_lt;simp only[jG,List.map_cons,yd]at h1 ⊢;rw[h1,j8,ze,w5,w5];omega
theorem lE(a b:List UInt8):jG a++jG b=jG (a++b):=by simp[jG]
variable {Q:PV->Ob->Prop}
theorem EF(o0:List (List UInt8))(T:List UInt8)(hT:T.length<=1000000)(hl:o0.length<=1000000)(hq:∀ob,Q (.dat .str T) ob):∀(i:Nat) (acc:List UInt8) (v11:Int) (n:Nat),i<=o0.length->v11=(i:Int)-1->n=acc.length->0<acc.length->acc++(o0.take i).reverse.flatten=T->
  Ends PZ (L6 o0.length v11 (jG acc) n o0) Q
 |0,acc,v11,n,_,hv,hn,h0,he=>by
  have he:acc=T:=by simpa using he
  subst he hn;refine zm (HP ..) (zt (w8 (by omega)) (zc (w4 h0) (zc (Aa (Aa (Aa (w4 (by omega)) (w4 (by simp))) (w4 (by simp;omega))) (Xi acc)) (zh ?_))));have e:yw (fun x:Int=>yc (y9 x)) (j7 (y9 (acc.length:Int)) (jG acc))=acc:=by
   rw[zj,zq (by simp),UN]
  rw[e];exact hq _
 |i+1,acc,v11,n,hi,hv,hn,h0,he=>by
  have hg:List.getD o0 (y9 v11) []=o0[i]:=by
   rw[show y9 v11=i from by omega];simp[show i<o0.length from hi]
  have hs:acc++o0[i]++(o0.take i).reverse.flatten=T:=by
   have ht:o0.take (i+1)=o0.take i++[o0[i]]:=qe hi;rw[<-he,ht,List.reverse_append,jm,List.singleton_append,List.flatten_cons,List.append_assoc]
  have hlen:=wi j6 hs;simp only[zn]at hlen;refine zm (HP ..) (zc (w4 (by omega)) (zc (Aa (w4 (by omega)) (w4 (by omega))) (zc (w4 (by omega)) ?_)));rw[hg];refine zc (Aa (w4 (by simp[hn])) (w4 (by rw[qc];omega))) ?_;rw[lE,wr (v11-1) (by omega) (by omega)];exact EF o0 T hT hl hq i (acc++o0[i]) (v11-1) _ (by omega) (by omega) (by rw[zn,qc,hn];rfl) (by rw[zn];omega) hs
theorem Fj(o0:List (List UInt8))(T:List UInt8)(hT:T.length<=1000000)(hl:o0.length<=1000000)(hq:∀ob,Q (.dat .str T) ob)(i:Nat)(hi:i+1=o0.length)(v11:Int)(hv:v11=(i:Int))(hpos:0<(o0[i]'(by omega)).length)(he:o0.reverse.flatten=T):
  Ends PZ (L8 o0.length v11 o0) Q:=by
 have hi':i<o0.length:=by omega
 have hg:List.getD o0 (y9 v11) []=o0[i]:=by
  rw[show y9 v11=i from by omega];simp[hi']
 have hs:o0[i]++(o0.take i).reverse.flatten=T:=by
  have ht:o0.take (i+1)=o0.take i++[o0[i]]:=qe hi';rw[hi,yf]at ht;rw[<-he];conv=>rhs;rw[ht]
  rw[List.reverse_append,jm,List.singleton_append,List.flatten_cons]
 have hlen:=wi j6 hs;simp only[zn]at hlen;refine zm (Jz ..) (zc (w4 (by omega)) (zc (Aa (w4 (by omega)) (w4 (by omega))) (zc (w4 (by omega)) ?_)));rw[hg];refine zc (w4 (by rw[qc];exact hpos)) (zc (w4 (by rw[qc];omega)) ?_);rw[wr (v11-1) (by omega) (by omega)];exact EF o0 T hT hl hq i o0[i] (v11-1) _ (by omega) (by omega) (by rw[qc]) hpos hs
end T200
theorem T4{r:Int}(h0:0<r)(h1:r<18446744073709551616):Bs r=[r]:=by
 have hd:Aw Ak [r]:=by
  intro x hx;rw[qx]at hx;subst hx;exact⟨by omega,h1⟩
 have hn:Sp.nz [r]:=by
  unfold Sp.nz;simp;omega
 have:=Ij (b:=Ak) (by decide) hd hn;have hv:yy Ak [r]=r:=by simp[yy]
 rw[hv]at this;exact this.symm
theorem Kp:Bs 0=[]:=by
 unfold Bs;rfl
theorem N9:Ao [1000000000000000000]=1000000000000000000:=by simp[Ao,yy]
theorem Y3(n:Nat):Pg [48] (n:Int)=List.replicate n 48:=by
 unfold Pg;rw[zj];induction n with
 |zero=>rfl
 |succ n ih=>rw[Lib.repeatL,ih];rfl
theorem SM(V:Nat):Ao (Bs (V:Int))=(V:Int):=CP (b:=Ak) (by decide) (by omega)
theorem bF{V:Nat}(hV:(V:Int)<(Ak:Int)^9000):RW (Bs (V:Int)) [1000000000000000000]=true:=by
 obtain⟨n1,n2,n3⟩:=CV (n:=(V:Int)) (by omega) hV (by omega);have h1:=J2 (n:=(V:Int)) (by omega) hV;unfold RW;refine Aa (Aa (Aa (Aa n1 ?_) (w4 h1)) (w4 (by decide))) (w4 (by rw[N9];decide));decide
theorem TM(V:Nat):Bs (Ao (Bs (V:Int))/Ao (j7 1 [1000000000000000000]))=Bs ((V/10^18:Nat):Int):=by
 rw[SM,show j7 1 [(1000000000000000000:Int)]=[1000000000000000000]from rfl,N9];congr 1
theorem Uc(V:Nat):Bs (Ao (Bs (V:Int)) % Ao (j7 1 [1000000000000000000]))=Bs ((V % 10^18:Nat):Int):=by
 rw[SM,show j7 1 [(1000000000000000000:Int)]=[1000000000000000000]from rfl,N9];congr 1
theorem I7{V:Nat}(h:0<V):0<(Bs (V:Int)).length:=by
 rcases y7 (Bs (V:Int)).length with e|e
 ·have h1:=SM V;rw[yk.1 e]at h1;have h2:Ao []=0:=rfl;rw[h2]at h1;omega
 ·exact e
theorem Nf:∀(k u:Nat),u<10^(k+1)->Lib.nDigits u<=k+1
 |0,u,h=>by rw[Lib.nDigits_small (by omega)];omega
 |k+1,u,h=>by
  by_cases c:u<10
  ·rw[Lib.nDigits_small c];omega
  ·rw[Lib.nDigits_big c];have:u/10<10^(k+1):=by rw[kk]at h;omega
   have:=Nf k (u/10) this;omega
theorem RJ{r:Nat}(h:r<10^18):(zo r).length<=18:=by
 rw[yq];exact Nf 17 r h
theorem LJ(r:Nat):AU (r:Int)=zo r:=Lib.itoa_nonneg r
theorem Sn(r:Nat)(h:r<10^18):Pg [48] ((18:Int)-((zo r).length:Int))++zo r=FX 18 r:=by
 have:=RJ h;rw[show(18:Int)-((zo r).length:Int)=((18-(zo r).length:Nat):Int)from by omega,Y3,yq];rfl
structure Small(V:Nat):Prop where
 h:(V:Int)<(Ak:Int)^9000
theorem Small.le{a b:Nat}(h:Small b)(hab:a<=b):Small a:=⟨ya (Int.ofNat_le.mpr hab) h.h⟩
theorem Small.div{V:Nat}(h:Small V):RW (Bs (V:Int)) [1000000000000000000]=true:=bF h.h
namespace T200
variable {Q:PV->Ob->Prop}
def Exit(neg:Bool)(G:List (List UInt8))(Q:PV->Ob->Prop):Prop:=Ends PZ (.ite neg (.ite true (.ite true (L6 G.length (zg IntKind.i64 ((G.length:Int)-1)) (yw (fun b=>(↑(yi b):Int)) [(45:UInt8)]) 1 G) .fail) (L7 G.length (zg IntKind.i64 ((G.length:Int)-1)) G)) (L8 G.length (zg IntKind.i64 ((G.length:Int)-1)) G)) Q
theorem AQ(neg:Bool)(G:List (List UInt8))(hG:G.length<=1000000)(hfin:Exit neg G Q):∀(f V:Nat) (o1:List (List UInt8)),V<f->Small V->o1++(if V=0 then[]else Cd f V)=G->Ends PZ (L2 neg (Bs (V:Int)) 1 o1.length o1 [1000000000000000000]) Q
 |0,V,o1,h,_,_=>by omega
 |f+1,V,o1,h,hV,he=>by
  rcases y7 V with h0|h0
  ·subst h0;have he:o1=G:=by simpa using he
   subst he;refine zm (AZ ..) (zt (by rw[show((0:Nat):Int)=0 from rfl,Kp];rfl) ?_);exact hfin
  have hlt:V % 10^18<10^18:=Nat.mod_lt _ (by decide);rw[wc (by omega)]at he;have hg:∀s,s=(if V/10^18=0 then zo (V % 10^18)else FX 18 (V % 10^18))->(o1++[s])++(if V/10^18=0 then[]else Cd f (V/10^18))=G:=by
   rintro s rfl;rw[<-he,List.append_assoc];congr 1;have eg:Cd (f+1) V=if V<10^18 then[zo V]else FX 18 (V % 10^18)::Cd f (V/10^18):=rfl
   rw[eg];by_cases c:V<10^18
   ·rw[wd c,wd (by omega),wd (by omega),Nat.mod_eq_of_lt c];rfl
   ·rw[wc c,wc (by omega),wc (by omega)];rfl
  have hsz:o1.length+1<=1000000:=by
   have:=wi j6 (hg _ rfl);simp only[zn,List.length_singleton]at this;omega
  have next:∀s,s=(if V/10^18=0 then zo (V % 10^18)else FX 18 (V % 10^18))->Ends PZ (L2 neg (Bs ((V/10^18:Nat):Int)) 1 (jj o1.length 1) (o1++[s]) [1000000000000000000]) Q:=by
   intro s hs;have:=AQ neg G hG hfin f (V/10^18) (o1++[s]) (by omega) (hV.le (Nat.div_le_self _ _)) (hg s hs);rw[zn]at this;exact this
  refine zm (AZ ..) (zc (w4 (by have:=I7 h0;omega)) (zc (Aa rfl hV.div) ?_));rw[TM,Uc];rcases y7 (V % 10^18)with r0|r0
  ·have q0:V/10^18≠0:=by omega
   rw[r0,show((0:Nat):Int)=0 from rfl,Kp];refine zt rfl (zc (w4 (by have:=I7 (V:=V/10^18) (by omega);omega)) (zc rfl (zc rfl (zc (Aa (w4 rfl) (w4 (by omega))) (next _ ?_)))));have hp:=Sn 0 (by decide);rw[jh (by omega)]at hp;rw[wc q0,r0, <-hp];rfl
  ·rw[T4 (r:=((V % 10^18:Nat):Int)) (by omega) (by omega)];have hgd:List.getD [((V % 10^18:Nat):Int)] 0 0=((V % 10^18:Nat):Int):=rfl;rw[hgd,LJ];have hd:=RJ hlt;have hr18:((V % 10^18:Nat):Int)<1000000000000000000:=by omega
   have h18:0<(zo (V % 10^18)).length:=by
    rw[yq,Lib.nDigits];split<;>omega
   refine zc rfl (zc rfl (zc (Aa (Aa (w4 (Int.natCast_nonneg _)) (w4 hr18)) rfl) ?_));rw[wr _ (by omega) (by omega)];by_cases q0:V/10^18=0
   ·rw[q0];refine zt (by rw[show((0:Nat):Int)=0 from rfl,Kp];rfl) (zc (Aa (Aa rfl (w4 rfl)) (w4 (by omega))) ?_);have:=next _ rfl;rw[wd q0,q0]at this;exact this
   ·have hpad:=Sn _ hlt;refine zc (w4 (by have:=I7 (V:=V/10^18) (by omega);omega)) (zc (Aa (Aa (w4 (by omega)) (w4 (by omega))) rfl) (zc (w4 ?_) (zc (Aa (Aa rfl (w4 rfl)) (w4 (by omega))) (next _ ?_))))
    ·rw[<-zn,hpad];unfold FX;rw[zn,List.length_replicate];omega
    ·rw[wc q0];exact hpad
end T200
end Go.Pe
namespace Go.Sp
theorem Fl{n d:Int}(hd:d≠0):(yh n d).num.natAbs<=n.natAbs/\(yh n d).den<=d.natAbs:=by
 rw[qy,qz,wc hd];refine⟨?_,Nat.div_le_self _ _⟩;refine Nat.le_trans (jc _ _) ?_;rw[y8,Int.natAbs_sign_of_ne_zero hd,Nat.one_mul];exact yb _
theorem Hy{n d:Int}{k:Nat}(hd:d≠0)(h1:n.natAbs<10^k)(h2:d.natAbs<10^k):E1 k (yh n d):=
 ⟨qd (Fl hd).1 h1,qd (Fl hd).2 h2⟩
theorem E1.mono{j k:Nat}{q:Rat}(h:E1 j q)(hk:j<=k):E1 k q:=
 ⟨q9 h.1 (qm (by decide) hk),q9 h.2 (qm (by decide) hk)⟩
theorem Dt{a b i j:Nat}(h1:a<10^i)(h2:b<10^j):a*b<10^(i+j):=by
 rw[Nat.pow_add];exact qd (Nat.mul_le_mul_left _ (Nat.le_of_lt h2)) ((Nat.mul_lt_mul_right (Nat.pow_pos (by decide))).2 h1)
theorem Hw(q:Rat):(q.den:Int)≠0:=by have:=q.den_pos;omega
theorem E1.mul{p q:Rat}{i j:Nat}(hp:E1 i p)(hq:E1 j q):E1 (i+j) (p*q):=by
 have h:=Rat.divInt_mul_divInt p.num q.num (d₁:=p.den) (d₂:=q.den);rw[zz,zz]at h;rw[h];refine Hy ?_ ?_ ?_
 ·exact Int.mul_ne_zero (Hw p) (Hw q)
 ·rw[y8];exact Dt hp.1 hq.1
 ·rw[y8,zr,zr];exact Dt hp.2 hq.2
theorem E1.add{p q:Rat}{i j:Nat}(hp:E1 i p)(hq:E1 j q):E1 (i+j+1) (p+q):=by
 have h:=qg p.num q.num (Hw p) (Hw q);rw[zz,zz]at h;rw[h];have a1:=Dt hp.1 hq.2;have a2:=Dt hq.1 hp.2;have a3:=Dt hp.2 hq.2;rw[Nat.add_comm]at a2;refine Hy (Int.mul_ne_zero (Hw p) (Hw q)) ?_ ?_
 ·refine qd (Int.natAbs_add_le _ _) ?_;rw[y8,y8,zr,zr,kk];omega
 ·rw[y8,zr,zr,kk];omega
theorem E1.neg{q:Rat}{k:Nat}(h:E1 k q):E1 k (-q):=by
 unfold E1 at*;rw[j0,j5,Int.natAbs_neg];exact h
theorem E1.sub{p q:Rat}{i j:Nat}(hp:E1 i p)(hq:E1 j q):E1 (i+j+1) (p-q):=by
 rw[Rat.sub_eq_add_neg];exact hp.add hq.neg
theorem E1.inv{q:Rat}{k:Nat}(h:E1 k q)(h0:q≠0):E1 k q⁻¹:=by
 have e:=Rat.inv_divInt q.num q.den;rw[zz]at e;rw[e];exact Hy (fun x=>h0 (qn.mp x)) (by rw[zr];exact h.2) h.1
theorem E1.div{p q:Rat}{i j:Nat}(hp:E1 i p)(hq:E1 j q)(h0:q≠0):E1 (i+j) (p/q):=by
 rw[Rat.div_def];exact hp.mul (hq.inv h0)
def Mr(n:Int):Bool:=decide (600<(zo n.natAbs).length)
def Jt(q:Rat):Bool:=Mr q.num||Mr q.den
theorem DP{u k:Nat}(h:u<10^k)(hk:1<=k):(zo u).length<=k:=by
 rw[yq];obtain⟨j,rfl⟩:∃j,k=j+1:=⟨k-1,by omega⟩;exact Go.Pe.Nf j u h
theorem BY(u:Nat){k:Nat}(h:(zo u).length<=k):u<10^k:=by
 rw[yq]at h;exact q9 (Lib.lt_pow_nDigits u) (qm (by decide) h)
theorem VO{q:Rat}:Jt q=false↔E1 600 q:=by
 unfold Jt Mr E1;rw[Bool.or_eq_false_iff,w9,w9];refine⟨fun h=>⟨BY (k:=600) _ (by omega),?_⟩,fun h=>⟨?_,?_⟩⟩
 ·have:=BY (q.den:Int).natAbs (k:=600) (by omega);rw[zr]at this;exact this
 ·have:=DP h.1 (by decide);omega
 ·have:=DP h.2 (by decide);rw[zr];omega
theorem KZ{q:Rat}{k:Nat}(h:E1 k q)(hk:1<=k):(AW q).length<=2*k+2:=by
 have h1:=DP h.1 hk;have h2:=DP h.2 hk;have h3:(ye q.num).length<=k+1:=by
  unfold ye;split
  ·rw[yn];omega
  ·rw[show q.num.toNat=q.num.natAbs by omega];omega
 unfold AW;split
 ·omega
 ·rw[zn,yn];omega
def Bh(s:List UInt8):Bool:=decide (AW (An s)=s)&&decide (s.length<=4000)
theorem Ff{s:List UInt8}(h:Bh s=true):AW (An s)=s/\s.length<=4000:=by
 unfold Bh at h;rwa [ze,w5,w5]at h
theorem Ql{q:Rat}{k:Nat}(h:E1 k q)(hk:k<=1999):Bh (AW q)=true:=by
 have hl:=KZ (h.mono hk) (by decide);unfold Bh;rw[CC,w4 rfl,w4 (by omega)];rfl
theorem Eo{s:List UInt8}(h:Au s=0):Bh s=true/\E1 600 (An s):=by
 obtain⟨h1,_,_,h4⟩:=LI h;exact⟨by rw[<-h1];exact Ql h4 (by decide),h4⟩
theorem Ro{s:List UInt8}(h:Bh s=true):E1 4000 (An s):=by
 obtain⟨h1,h2⟩:=Ff h;have e:(AW (An s)).length<=4000:=by rw[h1];exact h2
 generalize An s=q at*;have a:=BY q.num.natAbs (yb _);have b:=BY q.den (yb _);have h3:(zo q.num.natAbs).length<=(ye q.num).length:=by
  unfold ye;split
  ·rw[yn];omega
  ·rw[show q.num.toNat=q.num.natAbs by omega];exact yb _
 unfold AW at e;split at e
 ·next c=>exact⟨BY (k:=4000) _ (by omega),by rw[c];exact JL 4000 (by decide)⟩
 ·rw[zn,yn]at e;exact⟨BY (k:=4000) _ (by omega),BY (k:=4000) _ (by omega)⟩
theorem V2{q:Rat}:Au (AW q)=if Jt q=true then 4 else 0:=by
 obtain⟨c1,c2,c3⟩:=EI q;obtain⟨p1,p2,p3,p4⟩:=RX (AW q);obtain⟨i1,i2,i3,i4⟩:=C9 q.num;have hA:Ay (AY (AW q))=zo q.num.natAbs:=by rw[p1,c1,i2]
 have hB:AM (AY (AW q))=if q.den=1 then[]else zo q.den:=by rw[p2,c2]
 have hC:Bn (AY (AW q))=decide (q.den≠1):=by rw[p3,c3]
 have hP:preB (AW q)=decide (q.num<0):=by rw[<-p4,c1,i3]
 have h48:∀n:Nat,zo n=[48]->n=0:=fun n h=>by
  have:=Hr n;rw[h]at this;have:(0:Int)=n:=this;omega
 have h49:∀n:Nat,zo n=[49]->n=1:=fun n h=>by
  have:=Hr n;rw[h]at this;have:(1:Int)=n:=this;omega
 have hd:=q.den_pos;have hf:Gi (AW q)=true:=by
  unfold Gi;rw[hA,hB,hC,hP,T7,yr,ze];refine⟨?_,?_⟩
  ·by_cases h:q.num<0
   ·have z:zo q.num.natAbs≠[48]:=fun k=>by have:=h48 _ k;omega
    rw[w4 h,w4 z];rfl
   ·rw[w8 h];rfl
  ·by_cases h:q.den=1
   ·rw[w8 (not_not_intro h)];rfl
   ·have z:zo q.den≠[48]:=fun k=>by have:=h48 _ k;omega
    have y:zo q.den≠[49]:=fun k=>h (h49 _ k)
    rw[w4 h,wc h,T7,w4 z,w4 y];rfl
 unfold Au;rw[wc (by rw[hf];decide),hA,hB,hC];have hb:Jt q=true↔600<(zo q.num.natAbs).length\/600<(if q.den=1 then([]:List UInt8)else zo q.den).length:=by
  unfold Jt Mr;rw[Bool.or_eq_true,w5,w5,zr];by_cases h:q.den=1
  ·rw[wd h,h,jh (show 1<10 by decide)];simp
  ·rw[wc h]
 by_cases h:Jt q=true
 ·rw[wd (hb.1 h),wd h]
 ·rw[wc (fun k=>h (hb.2 k)),wc h];refine wc fun k=>?_
  obtain⟨k1,k2⟩:=k;have k1:q.den≠1:=w6 k1;apply k2;unfold kO nM;rw[hA,hB,wc k1,Hr,Hr,FQ];have hr:=q.reduced;have:qk ((q.num.natAbs:Nat):Int) (q.den:Int)=1:=hr;rw[this];rfl
theorem Lu(q:Rat):FA (AW q)=PX q.num:=by
 have h0:AW q=[48]↔q=0:=by
  have:AW (0:Rat)=[48]:=by
   unfold AW;rw[wd (show Rat.den 0=1 from rfl)];show ye 0=[48];unfold ye;rw[wc (by decide),show(0:Int).toNat=0 from rfl,jh (by decide)];rfl
  rw[<-this];exact⟨YF,fun h=>by rw[h]⟩
 unfold FA PX;by_cases hz:q=0
 ·rw[wd (h0.2 hz),hz];rfl
 ·rw[wc (fun h=>hz (h0.1 h))];have hn:q.num≠0:=fun h=>hz (qn.mp h)
  have hg:(AW q).getD 0 0=(ye q.num).getD 0 0:=by
   unfold AW;split
   ·rfl
   ·have:ye q.num≠[]:=by unfold ye;split;exact List.cons_ne_nil _ _;exact RY _
    cases hi:ye q.num with
    |nil=>exact wh hi this
    |cons c r=>rfl
  rw[hg];unfold ye;by_cases h:q.num<0
  ·rw[wd h,wd h];rfl
  ·rw[wc h,wc h,wc (Fk (DI _)),wd (by omega)]
theorem UE(n:Int)(h:n≠0):ye (-n)=if n<0 then(ye n).drop 1 else 45::ye n:=by
 unfold ye;by_cases c:n<0
 ·rw[wc (by omega),wd c,wd c,show(-n).toNat=n.natAbs by omega];rfl
 ·rw[wd (by omega),wc c,wc c,show(-n).natAbs=n.toNat by omega]
theorem dF(q:Rat):KL (AW q)=AW (-q):=by
 have hs:=Lu q;unfold FA at hs;unfold KL;by_cases h0:AW q=[48]
 ·rw[wd h0]at hs ⊢;have:q.num=0:=by
   unfold PX at hs;split at hs
   ·exact wh hs (by decide)
   ·split at hs
    ·exact wh hs (by decide)
    ·omega
  have:q=0:=qn.mp this;rw[this];rfl
 ·rw[wc h0]at hs ⊢;have hn:q.num≠0:=by
   intro h;rw[h]at hs;split at hs<;>exact wh hs (by decide)
  have e:AW (-q)=if q.num<0 then(AW q).drop 1 else 45::AW q:=by
   unfold AW;rw[j0,j5,UE _ hn];by_cases c:q.num<0
   ·rw[wd c,wd c];have:ye q.num=45::zo q.num.natAbs:=by unfold ye;rw[wd c]
    rw[this];split<;>rfl
   ·rw[wc c,wc c];split<;>rfl
  rw[e];unfold PX at hs;by_cases c:q.num<0
  ·rw[wd c]at hs ⊢;split at hs
   ·next k=>rw[wd k]
   ·exact wh hs (by decide)
  ·rw[wc c,wd (show q.num>0 by omega)]at hs;rw[wc c];split at hs
   ·exact wh hs (by decide)
   ·next k=>rw[wc k]
end Go.Sp
