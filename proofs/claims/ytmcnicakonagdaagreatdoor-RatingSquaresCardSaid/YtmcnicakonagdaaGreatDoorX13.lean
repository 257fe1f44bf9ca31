import Derived.Test.YtmcnicakonagdaaGreatDoorX12
import Derived.Test.YtmcnicakonagdaaGreatDoorX11
import Derived.Test.YtmcnicakonagdaaGreatDoorX10
import Derived.Test.YtmcnicakonagdaaGreatDoorX07
import Derived.Test.YtmcnicakonagdaaGreatDoorX09
/- A part of a proof (no law is stated here). Made by program out of texts by AI agents. -/
noncomputable section
open Go.Pe.Ends renaming tt -> zc, leaf -> zf, Aq -> zj, ite -> zk, ff -> zn, eq -> z8
open Bool renaming and_eq_true -> zd, true_and -> yr, and_true -> jg
open Go.IntKind renaming wrap -> ze, u64 -> y9
open Int renaming toNat_natCast -> zg, mul_le_mul_of_nonneg_left -> zp, lt_of_lt_of_le -> zq, le_of_lt -> zw, lt_of_le_of_lt -> zx, mul_le_mul_of_nonneg_right -> z7, ne_of_gt -> yd, eq_ofNat_of_zero_le -> yk, pow_succ -> yp, toNat -> yt, mul_comm -> qd, le_trans -> qe, gcd -> qf, mul_nonneg -> qg, tdiv_eq_ediv_of_nonneg -> qi, tmod_eq_emod_of_nonneg -> qj, natAbs_natCast -> ql, mul_pos -> qn, mul_one -> qo, ediv_eq_iff_of_pos -> qu, sign_eq_one_of_pos -> qv, one_mul -> qy, le_refl -> qz, add_assoc -> jh, gcd_comm -> jo, ediv_one -> jt
open List renaming length_drop -> zh, length_append -> zl, take_of_length_le -> zm, length_take -> zo, take_length -> zy, all_cons -> z6, length_eq_zero_iff -> yb, getD_eq_getElem?_getD -> ye, getElem?_eq_getElem -> yi, map -> yn, length_map -> yu, take_succ_eq_append_getElem -> yy, take_append_drop -> yz, all_eq_true -> y8, findIdx?_cons -> qh, mem_singleton -> qk, length_cons -> qp, reverse_singleton -> qw, length -> je, take -> jf, drop -> j0
open Go.Sp renaming vI -> zi, AN -> zr, B9 -> zt, val -> yo, gI -> qx, BL -> ji, first -> jk, preB -> jl
open Go.Lib renaming decDigits -> zu, decDigits_length -> qc
open UInt8 renaming ofNat -> zz, toNat -> ya, toNat_inj -> yc
open Go.Pe.Ad renaming of -> yf
open Nat renaming zero_le -> yg, le_refl -> yh, eq_zero_or_pos -> yq, add_sub_cancel -> yv, sub -> yx, ble_eq_true_of_le -> y7, add -> qt, le_trans -> jm, ble -> jz
open Rat renaming divInt -> yj, num_divInt_den -> yw, num_divInt -> q9, den_divInt -> jc
open Classical renaming byContradiction -> qm
open Go.Pe.Obj renaming tbox -> qq
open Go.Pe.Sh renaming int -> jj
namespace Go.Pe
open Sp
open Go.Det
namespace T151
theorem Ao{Q:PV->Ob->Prop}(s:List UInt8)(hs:Aj s=true)(hl:s.length<=18)(hq:∀ob,Q (.dat i64 (AB 0 s)) ob):∀(r:List UInt8) (i:Nat),s.drop i=r->i<=s.length->Ends lG (L1 s (AB 0 (s.take i)) i) Q
 |[],i,h,hi=>by
  have he:i=s.length:=drop_nil h hi;subst he;rw[zy];exact zj (Au ..) (zn (by simp) (zf (hq _)))
 |c::r,i,h,hi=>by
  obtain⟨h1,h2,h3⟩:=drop_cons (d:=0) h;have hb:=Be (Bh hs i);have hlen:(s.take i).length=i:=by rw[zo];omega
  rw[hlen]at hb;have hp:(10:Int)^i<=10^17:=AL (by decide) (by omega);have hc:BT c=true:=by
   unfold Aj at hs;rw[y8]at hs;exact hs c (N5 h)
  have hd:=C3 hc;have hc0:48<=c.toNat/\c.toNat<=57:=by unfold HL at hd;omega
  have e1:ze .i64 (c.toNat:Int)=(c.toNat:Int):=wr _ (by omega) (by omega);have hp17:(10:Int)^17=100000000000000000:=by decide
  have e2:ze .i64 (ze .i64 (ze .i64 (10*AB 0 (s.take i))+(c.toNat:Int))-48)=AB 0 (s.take (i+1)):=by
   rw[Mu h,CP];show _=10*AB 0 (s.take i)+((c.toNat:Int)-48);generalize AB 0 (s.take i)=D at*;rw[wr (10*D) (by omega) (by omega),wr (10*D+(c.toNat:Int)) (by omega) (by omega),wr _ (by omega) (by omega)];omega
  have e3:ze .i64 ((i:Int)+1)=((i+1:Nat):Int):=by rw[wr _ (by omega) (by omega)];omega
  refine zj (Au ..) (zc (by simp;omega) ?_);rw[zg,h2,e1,e2,e3];exact zc (by simp;omega) (Ao s hs hl hq r (i+1) h3 h1)
theorem ok:Ag Bi 151 SI:=by
 refine Cc R5 (fun(s:List UInt8) hs=>?_);have hs:(decide (s.length<=18)&&Aj s)=true:=hs;rw[zd,w5]at hs;exact z8 (An s) (Ao s hs.2 hs.1 (fun ob=>yf rfl rfl rfl) s 0 rfl (yg _))
end T151
theorem nP:Ey bC:=Ab T151.ok (Ab T159.ok AU)
theorem LV{neg:Bool}{w:List Int}{D:Int}(hd:Aw zt w)(hv:yo zt w=D):(Cg neg w,Av w)=(Sp.rN (if neg=true then -D else D),Sp.rW (if neg=true then -D else D)):=by
 have h0:=AA (b:=zt) (by decide) hd;rw[hv]at h0;have hw:Av w=BV D:=by rw[FL hd];show BV (yo zt w)=_;rw[hv]
 have hnil:BV D=[]↔D=0:=xP (by decide) h0;have ea:Ae (if neg=true then -D else D)=D:=by rw[Ah];split<;>omega
 unfold Cg Sp.rW Sp.rN;rw[ea,hw];congr 1;cases neg with
 |false=>simp;omega
 |true=>
  simp only[wk,yr,wm,hnil,decide_eq_decide];omega
namespace T155
variable {Q:PV->Ob->Prop}
theorem Aac:(10:Int)^9=1000000000:=by decide
theorem Jv{s:List UInt8}{m:Nat}(hm:m+9=s.length):AB 0 s=AB 0 (s.take m)*1000000000+AB 0 (s.drop m):=by
 conv=>lhs;rw[<-yz m s]
 rw[CP,EE (s.drop m),zh,show s.length-m=9 by omega,Aac]
theorem Cy{s:List UInt8}(hs:Aj s=true)(h:s.length<=9):0<=AB 0 s/\AB 0 s<1000000000:=by
 have:=Be hs;have h2:(10:Int)^s.length<=10^9:=AL (by decide) h;rw[Aac]at h2;omega
theorem B6{s:List UInt8}(hs:Aj s=true)(h:s.length<=18):D0 s=true:=by
 unfold D0;rw[hs,jg];exact w4 h
theorem Dd(neg:Bool)(D:Int)(hq:∀(w:List Int) ob,Aw zt w->yo zt w=D->Q (.agg [.dat .bool (Cg neg w),.dat li (Av w)]) ob):∀(f:Nat) (s:List UInt8) (o1:List Int),s.length<=f->Aj s=true->o1.length+s.length<=6000->Aw zt o1->yo zt o1+(zt:Int)^o1.length*AB 0 s=D->Ends bC (L3 s neg o1.length o1) Q:=by
 intro f;induction f with
 |zero=>
  intro s o1 hf hs hl hd he;have h9:s.length<=9:=by omega
  have hv:=Cy hs h9;have ht:(o1++[BB s]).take (qt o1.length 1)=o1++[BB s]:=zm (by simp);refine zj (C5 ..) (zn (by simp;omega) (zc (B6 hs (by omega)) (zc (by simp;omega) ?_)));rw[ht];refine zc (by simp;omega) (zf (hq _ _ (Fh hd hv) ?_));rw[Ci];exact he
 |succ f ih=>
  intro s o1 hf hs hl hd he;by_cases h9:s.length<=9
  ·have hv:=Cy hs h9;have ht:(o1++[BB s]).take (qt o1.length 1)=o1++[BB s]:=zm (by simp);refine zj (C5 ..) (zn (by simp;omega) (zc (B6 hs (by omega)) (zc (by simp;omega) ?_)));rw[ht];refine zc (by simp;omega) (zf (hq _ _ (Fh hd hv) ?_));rw[Ci];exact he
  ·obtain⟨m,hm⟩:∃m,m+9=s.length:=⟨s.length-9,by omega⟩;have e1:ze .i64 ((s.length:Int)-9)=(m:Int):=by rw[wr _ (by omega) (by omega)];omega
   have e2:(s.drop m).take (yx s.length m)=s.drop m:=zm (by rw[zh];exact yh _);have hv:=Cy (BY hs m) (by rw[zh];omega);refine zj (C5 ..) (zc (by simp;omega) ?_);rw[e1,zg,e2];refine zc (by simp;omega) (zc (B6 (BY hs m) (by rw[zh];omega)) (zc (by simp;omega) (zc (by simp;omega) ?_)));have:=ih (s.take m) (o1++[BB (s.drop m)]) (by rw[zo];omega) (Bh hs m) (by simp;omega) (Fh hd hv) (by
    rw[Ci,zl];show yo zt o1+(zt:Int)^o1.length*AB 0 (s.drop m)+(zt:Int)^(o1.length+1)*AB 0 (s.take m)=D;rw[JM,jh, <-Int.mul_add, <-he,Jv hm];congr 2;omega)
   rw[zl]at this;exact this
theorem BX(D:Int)(hq:∀(w:List Int) ob,Aw zt w->yo zt w=D->Q (.agg [.dat .bool (Cg false w),.dat li (Av w)]) ob):∀(f:Nat) (s:List UInt8) (o1:List Int),s.length<=f->Aj s=true->o1.length+s.length<=6000->Aw zt o1->yo zt o1+(zt:Int)^o1.length*AB 0 s=D->Ends bC (L4 s o1.length o1) Q:=by
 intro f;induction f with
 |zero=>
  intro s o1 hf hs hl hd he;have h9:s.length<=9:=by omega
  have hv:=Cy hs h9;have ht:(o1++[BB s]).take (qt o1.length 1)=o1++[BB s]:=zm (by simp);refine zj (CT ..) (zn (by simp;omega) (zc (B6 hs (by omega)) (zc (by simp;omega) ?_)));rw[ht];refine zc (by simp;omega) (zf (hq _ _ (Fh hd hv) ?_));rw[Ci];exact he
 |succ f ih=>
  intro s o1 hf hs hl hd he;by_cases h9:s.length<=9
  ·have hv:=Cy hs h9;have ht:(o1++[BB s]).take (qt o1.length 1)=o1++[BB s]:=zm (by simp);refine zj (CT ..) (zn (by simp;omega) (zc (B6 hs (by omega)) (zc (by simp;omega) ?_)));rw[ht];refine zc (by simp;omega) (zf (hq _ _ (Fh hd hv) ?_));rw[Ci];exact he
  ·obtain⟨m,hm⟩:∃m,m+9=s.length:=⟨s.length-9,by omega⟩;have e1:ze .i64 ((s.length:Int)-9)=(m:Int):=by rw[wr _ (by omega) (by omega)];omega
   have e2:(s.drop m).take (yx s.length m)=s.drop m:=zm (by rw[zh];exact yh _);have hv:=Cy (BY hs m) (by rw[zh];omega);refine zj (CT ..) (zc (by simp;omega) ?_);rw[e1,zg,e2];refine zc (by simp;omega) (zc (B6 (BY hs m) (by rw[zh];omega)) (zc (by simp;omega) (zc (by simp;omega) ?_)));have:=ih (s.take m) (o1++[BB (s.drop m)]) (by rw[zo];omega) (Bh hs m) (by simp;omega) (Fh hd hv) (by
    rw[Ci,zl];show yo zt o1+(zt:Int)^o1.length*AB 0 (s.drop m)+(zt:Int)^(o1.length+1)*AB 0 (s.take m)=D;rw[JM,jh, <-Int.mul_add, <-he,Jv hm];congr 2;omega)
   rw[zl]at this;exact this
theorem Ao(neg:Bool)(s:List UInt8)(hs:Aj s=true)(hl:s.length<=5999)(hq:∀(w:List Int) ob,Aw zt w->yo zt w=AB 0 s->Q (.agg [.dat .bool (Cg neg w),.dat li (Av w)]) ob):Ends bC (L1 s neg) Q:=by
 by_cases h9:s.length<=9
 ·have hv:=Cy hs h9;refine zj (Au ..) (zn (by simp;omega) (zc (B6 hs (by omega)) (zc rfl (zc rfl (zf (hq _ _ (Fh (l:=[]) (fun x hx=>by cases hx) hv) ?_))))));show yo zt [AB 0 s]=_;exact Eu _
 ·obtain⟨m,hm⟩:∃m,m+9=s.length:=⟨s.length-9,by omega⟩;have e1:ze .i64 ((s.length:Int)-9)=(m:Int):=by rw[wr _ (by omega) (by omega)];omega
  have e2:(s.drop m).take (yx s.length m)=s.drop m:=zm (by rw[zh];exact yh _);have hv:=Cy (BY hs m) (by rw[zh];omega);refine zj (Au ..) (zc (by simp;omega) ?_);rw[e1,zg,e2];refine zc (by simp;omega) (zc (B6 (BY hs m) (by rw[zh];omega)) (zc rfl (zc (by simp;omega) ?_)));refine Dd neg (AB 0 s) hq m (s.take m) [BB (s.drop m)] (by rw[zo];omega) (Bh hs m) (by simp;omega) (Fh (l:=[]) (fun x hx=>by cases hx) hv) ?_;rw[Eu,Jv hm];show AB 0 (s.drop m)+(zt:Int)^1*_=_;rw[yp,Int.pow_zero,qy,qd];exact Int.add_comm _ _
theorem A4(s:List UInt8)(hs:Aj s=true)(hl:s.length<=5999)(hq:∀(w:List Int) ob,Aw zt w->yo zt w=AB 0 s->Q (.agg [.dat .bool (Cg false w),.dat li (Av w)]) ob):Ends bC (L2 s) Q:=by
 by_cases h9:s.length<=9
 ·have hv:=Cy hs h9;refine zj (AV ..) (zn (by simp;omega) (zc (B6 hs (by omega)) (zc rfl (zc rfl (zf (hq _ _ (Fh (l:=[]) (fun x hx=>by cases hx) hv) ?_))))));show yo zt [AB 0 s]=_;exact Eu _
 ·obtain⟨m,hm⟩:∃m,m+9=s.length:=⟨s.length-9,by omega⟩;have e1:ze .i64 ((s.length:Int)-9)=(m:Int):=by rw[wr _ (by omega) (by omega)];omega
  have e2:(s.drop m).take (yx s.length m)=s.drop m:=zm (by rw[zh];exact yh _);have hv:=Cy (BY hs m) (by rw[zh];omega);refine zj (AV ..) (zc (by simp;omega) ?_);rw[e1,zg,e2];refine zc (by simp;omega) (zc (B6 (BY hs m) (by rw[zh];omega)) (zc rfl (zc (by simp;omega) ?_)));refine BX (AB 0 s) hq m (s.take m) [BB (s.drop m)] (by rw[zo];omega) (Bh hs m) (by simp;omega) (Fh (l:=[]) (fun x hx=>by cases hx) hv) ?_;rw[Eu,Jv hm];show AB 0 (s.drop m)+(zt:Int)^1*_=_;rw[yp,Int.pow_zero,qy,qd];exact Int.add_comm _ _
theorem ok:Ag Bi 155 RG:=by
 refine Cc nP (fun(s:List UInt8) hs=>?_);have hs:(decide (s.length<=5999)&&(if s.getD 0 0=45 then Aj (s.drop 1)else Aj s))=true:=hs;rw[zd,w5]at hs;obtain⟨hl,hs⟩:=hs;have fin:∀(neg:Bool) (D:Int),Ck s=(if neg=true then -D else D)->∀(w:List Int) ob,Aw zt w->yo zt w=D->Ad RG s (.agg [.dat .bool (Cg neg w),.dat li (Av w)]) ob:=by
  intro neg D hr w ob hd hv;refine yf rfl rfl ?_;show(Cg neg w,Av w)=(Sp.rN (Ck s),Sp.rW (Ck s));rw[hr];exact LV hd hv
 refine z8 (An s) ?_;conv=>zeta
 cases s with
 |nil=>exact zn (by decide) (A4 [] rfl (by decide) (fin false 0 rfl))
 |cons c r=>
  have g0:(c::r).getD 0 0=c:=rfl;rw[g0]at hs;rw[g0];refine zc (by simp) (zc (by simp) (zk (fun d=>?_) (fun d=>?_)))
  ·have hc:c=45:=by
    have:(c.toNat:Int)=45:=by simpa using d
    exact yc.1 (by show _=45;omega)
   rw[wd hc]at hs;have e:(j0 1 (c::r)).take (yx (c::r).length 1)=r:=by show r.take ((r.length+1)-1)=r;rw[yv];exact zy
   rw[d,e];refine zc (by simp) (Ao true r hs (by simp at hl;omega) (fin true _ ?_));unfold Ck;rw[g0,wd hc,wd rfl];rfl
  ·have hc:c≠45:=by
    rintro rfl;exact wh d (by decide)
   rw[wc hc]at hs;rw[d];refine Ao false (c::r) hs hl (fin false _ ?_);unfold Ck;rw[g0,wc hc,wc (by decide)]
end T155
theorem rC:Ey Qk:=
 Ab T121n.ok (Ab T185.ok (Ab T136.ok (Ab T146.ok (Ab T171.ok (Ab (GO (by kernel_rfl) (BD (by kernel_rfl))) (Ab (GO (by kernel_rfl) (BD (by kernel_rfl))) AU))))))
theorem Sg(k:Nat):EK 18 (k:Int)=((min 18 k:Nat):Int):=by unfold EK;split<;>omega
theorem tQ(n:Int):ze .u8 n=n % 256:=by simp[ze,IntKind.bits,IntKind.signed]
theorem jH(k:Nat):(10:Int)^k<=(Ai:Int)^k:=by
 induction k with
 |zero=>exact qz _
 |succ k ih=>
  rw[yp,yp];have h1:=z7 ih (show(0:Int)<=10 by decide);have h2:=zp (show(10:Int)<=(Ai:Int)by decide) (zw (AO (b:=Ai) (by decide) k));exact qe h1 h2
theorem GC{n:Int}(h0:0<=n)(h:n<(10:Int)^(6000:Nat)):Bc (CI n)=true:=by
 refine DO ?_;have h1:=jH 6000;have h2:(Ai:Int)^6000<=(Ai:Int)^9000:=AL (by decide) (by decide);have h3:Ae n=n:=by rw[Ah];omega
 rw[h3];exact zq h (qe h1 h2)
theorem NN(m n:Int):FD (CE m,CC m) (CE n,CC n)=CE (m*n)/\FT (CE m,CC m) (CE n,CC n)=CC (m*n):=by
 constructor
 ·show CE (zi (CI _)*zi (CI _))=_;rw[Cw,Cw]
 ·show CC (zi (CI _)*zi (CI _))=_;rw[Cw,Cw]
theorem mA{a b:AT}(h:0<=zi a+zi b):EC a b=CI (zi a+zi b):=by
 unfold EC;split
 ·next c=>
  have:=En c.2.2;rw[Bp c.1,Bp c.2.1]at h ⊢;exact(B5 (by omega)).symm
 ·rfl
theorem Nz{m v:Int}(hm:0<=m)(hv:0<=v):IX (CE m,CC m) (v,Ca v)=CE (m+v)/\Ip (CE m,CC m) (v,Ca v)=CC (m+v):=by
 have e1:zi (CE m,CC m)=m:=Cw m;have e2:zi (v,Ca v)=v:=by rw[Ek,EL]
 have:=mA (a:=(CE m,CC m)) (b:=(v,Ca v)) (by rw[e1,e2];omega);rw[e1,e2]at this;exact⟨wi Prod.fst this,wi Prod.snd this⟩
theorem ND(n:Nat):Va ((10:Int),Ca (10:Int)) (n:Int)=CE (10^n)/\Uy ((10:Int),Ca (10:Int)) (n:Int)=CC (10^n):=by
 have e:Sp.pI (zi ((10:Int),Ca (10:Int))) (n:Int)=10^n:=by rw[RO,Ek,EL,zg]
 unfold Va Uy;rw[e];exact⟨rfl,rfl⟩
theorem eW:Bc ((10:Int),Ca (10:Int))=true:=by rw[Ek];decide
theorem iC{n:Nat}(h:n<=18):dC (zi ((10:Int),Ca (10:Int))) (n:Int)=true:=by
 unfold dC;have e:Sp.pI (zi ((10:Int),Ca (10:Int))) (n:Int)=10^n:=by rw[RO,Ek,EL,zg]
 rw[e];have h1:(10:Int)^n<=10^18:=AL (by decide) h;have h0:(0:Int)<10^n:=AO (by decide) n;have h2:(10:Int)^18<18446744073709551616^1:=by decide
 have h3:(18446744073709551616:Int)^(1:Nat)<=18446744073709551616^(4000:Nat):=AL (by decide) (by decide);have h4:Ae ((10:Int)^n)=10^n:=by rw[Ah];omega
 rw[h4];exact Aa (Aa (w4 (by omega)) (w4 (by omega))) (w4 (zx h1 (zq h2 h3)))
theorem TF{v:Int}(h0:0<=v)(h:v<1000000000000000000):Bc (v,Ca v)=true:=by
 rw[Ek];unfold Bc;exact Aa (KY (DM (by omega) (by omega))) (w4 (yg _))
theorem YO{w:List UInt8}(hs:Aj w=true)(h:w.length<=18):0<=AB 0 w/\AB 0 w<1000000000000000000:=by
 have:=Be hs;have h2:(10:Int)^w.length<=10^18:=AL (by decide) h;have h3:(10:Int)^18=1000000000000000000:=by decide
 omega
namespace T132
variable {Q:PV->Ob->Prop}
theorem Cs(W:List UInt8)(neg:Bool)(b1:Int)(b1w:List Int)(b0:Int)(w:List UInt8)(n:Nat)(hw:w=W.take n)(hW:Aj W=true)(hn:n=min 18 W.length)(h1:1<=W.length)(a o0':Int)(a0:0<=a)(hj:Bc (CI a)=true)(hj2:Bc (CI (a*10^n))=true)
  (hgo:Ends Qk (L5 (W.drop n) neg (CE (a*10^n+AB 0 w)) (CC (a*10^n+AB 0 w)) o0') Q):
  ∀(r:List UInt8) (j:Nat),w.drop j=r->j<=w.length->Ends Qk (L7 W neg b1 b1w b0 w (AB 0 (w.take j)) w.length w.length j (w.map fun b=>(b.toNat:Int)) (CE a) (CC a) o0') Q
 |[],j,hr,hjw=>by
  have hdw:Aj w=true:=by rw[hw];exact Bh hW n
  have hwl:w.length=n:=by rw[hw,zo];omega
  have he:j=w.length:=drop_nil hr hjw;subst he;have hv:=YO hdw (by omega);obtain⟨c,t,hc⟩:∃c t,w=c::t:=by
   cases w with
   |nil=>simp at hwl;omega
   |cons c t=>exact⟨c,t,rfl⟩
  have hc0:((((w.getD 0 0).toNat:Int)==(45:Int))=false):=by
   rw[hc]at hdw ⊢;unfold Aj at hdw;rw[z6,zd]at hdw;have:=C3 hdw.1;unfold HL at this;show(((c.toNat:Int)==(45:Int))=false);simp;omega
  have ht:(W.drop n).take (yx W.length n)=W.drop n:=zm (by rw[zh];exact yh _);have p0:0<=a*10^n:=qg a0 (zw (AO (by decide) n));have jp:Bc (CE (10^n),CC (10^n))=true:=by
   refine FC (GC (n:=(10:Int)^n) (zw (AO (by decide) n)) ?_);have x1:(10:Int)^n<=10^18:=AL (by decide) (by omega);have x2:(10:Int)^18<10^19:=by decide
   have x3:(10:Int)^19<=10^(6000:Nat):=AL (by decide) (by decide);exact zx x1 (zq x2 x3)
  refine zj (Ew ..) (zn (by simp) (zc (w4 (by omega)) ?_));rw[hc0,Sg, <-hn,(ND n).1,(ND n).2,zy];refine zn rfl (zc rfl (zc (Aa eW (iC (by omega))) (zc (Aa hj jp) (zc rfl ?_))));rw[(NN _ _).1,(NN _ _).2,(Nz p0 hv.1).1,(Nz p0 hv.1).2,zg,ht];exact zc (Aa hj2 (TF hv.1 hv.2)) (zc (by simp;omega) hgo)
 |c::r,j,hr,hjw=>by
  have hdw:Aj w=true:=by rw[hw];exact Bh hW n
  have hwl:w.length=n:=by rw[hw,zo];omega
  obtain⟨g1,g2,g3⟩:=drop_cons (d:=0) hr;have hcd:BT c=true:=by
   unfold Aj at hdw;rw[y8]at hdw;exact hdw c (N5 hr)
  have hd:=C3 hcd;have hlt:(w.take j).length=j:=by rw[zo];omega
  have hb:=Be (Bh hdw j);rw[hlt]at hb;have hp:(10:Int)^j<=10^17:=AL (by decide) (by omega);have hp17:(10:Int)^17=100000000000000000:=by decide
  have gm:(w.map fun b=>(b.toNat:Int)).getD j 0=(c.toNat:Int):=by
   rw[ye,List.getElem?_map,yi g1];have:w[j]=c:=by rw[<-g2,ye,yi g1];rfl
   rw[this];rfl
  have e8:ze .u8 ((c.toNat:Int)-48)=HL c:=by
   rw[tQ];unfold HL at hd ⊢;omega
  have e2:ze .i64 (ze .i64 (AB 0 (w.take j)*10)+ze .i64 (HL c))=AB 0 (w.take (j+1)):=by
   rw[Mu hr,CP];show _=10*AB 0 (w.take j)+HL c;generalize AB 0 (w.take j)=D at*;rw[wr (D*10) (by omega) (by omega),wr (HL c) (by omega) (by omega),wr _ (by omega) (by omega)];omega
  have e3:ze .i64 ((j:Int)+1)=((j+1:Nat):Int):=by rw[wr _ (by omega) (by omega)];omega
  refine zj (Ew ..) (zc (by simp;omega) ?_);rw[zg,gm,e8,e2,e3];refine zc (by simp;omega) (zc (by simp;omega) (zn (w8 (by omega)) ?_));exact Cs W neg b1 b1w b0 w n hw hW hn h1 a o0' a0 hj hj2 hgo r (j+1) g3 g1
theorem Dd(W:List UInt8)(neg:Bool)(b1:Int)(b0:Int)(w:List UInt8)(n:Nat)(hw:w=W.take n)(hW:Aj W=true)(hn:n=min 18 W.length)(h1:1<=W.length)(a o0':Int)(ha:a=0)(a0:0<=a)(hj:Bc (CI a)=true)(hj2:Bc (CI (a*10^n))=true)
  (hgo:Ends Qk (L5 (W.drop n) neg (CE (a*10^n+AB 0 w)) (CC (a*10^n+AB 0 w)) o0') Q):
  ∀(r:List UInt8) (j:Nat),w.drop j=r->j<=w.length->Ends Qk (L3 W neg b1 b0 w (AB 0 (w.take j)) w.length w.length j (w.map fun b=>(b.toNat:Int)) 0 o0') Q
 |[],j,hr,hjw=>by
  have hdw:Aj w=true:=by rw[hw];exact Bh hW n
  have hwl:w.length=n:=by rw[hw,zo];omega
  have he:j=w.length:=drop_nil hr hjw;subst he;have hv:=YO hdw (by omega);obtain⟨c,t,hc⟩:∃c t,w=c::t:=by
   cases w with
   |nil=>simp at hwl;omega
   |cons c t=>exact⟨c,t,rfl⟩
  have hc0:((((w.getD 0 0).toNat:Int)==(45:Int))=false):=by
   rw[hc]at hdw ⊢;unfold Aj at hdw;rw[z6,zd]at hdw;have:=C3 hdw.1;unfold HL at this;show(((c.toNat:Int)==(45:Int))=false);simp;omega
  have ht:(W.drop n).take (yx W.length n)=W.drop n:=zm (by rw[zh];exact yh _);have p0:0<=a*10^n:=qg a0 (zw (AO (by decide) n));have jp:Bc (CE (10^n),CC (10^n))=true:=by
   refine FC (GC (n:=(10:Int)^n) (zw (AO (by decide) n)) ?_);have x1:(10:Int)^n<=10^18:=AL (by decide) (by omega);have x2:(10:Int)^18<10^19:=by decide
   have x3:(10:Int)^19<=10^(6000:Nat):=AL (by decide) (by decide);exact zx x1 (zq x2 x3)
  refine zj (C5 ..) (zn (by simp) (zc (w4 (by omega)) ?_));rw[hc0,Sg, <-hn,(ND n).1,(ND n).2,zy];refine zn rfl (zc rfl (zc (Aa eW (iC (by omega))) (zc (Aa (show Bc ((0:Int),[])=true by decide) jp) (zc rfl ?_))));rw[show FD ((0:Int),[]) (CE (10^n),CC (10^n))=CE (a*10^n)by rw[ha];exact(NN 0 _).1,show FT ((0:Int),[]) (CE (10^n),CC (10^n))=CC (a*10^n)by rw[ha];exact(NN 0 _).2,(Nz p0 hv.1).1,(Nz p0 hv.1).2,zg,ht];exact zc (Aa hj2 (TF hv.1 hv.2)) (zc (by simp;omega) hgo)
 |c::r,j,hr,hjw=>by
  have hdw:Aj w=true:=by rw[hw];exact Bh hW n
  have hwl:w.length=n:=by rw[hw,zo];omega
  obtain⟨g1,g2,g3⟩:=drop_cons (d:=0) hr;have hcd:BT c=true:=by
   unfold Aj at hdw;rw[y8]at hdw;exact hdw c (N5 hr)
  have hd:=C3 hcd;have hlt:(w.take j).length=j:=by rw[zo];omega
  have hb:=Be (Bh hdw j);rw[hlt]at hb;have hp:(10:Int)^j<=10^17:=AL (by decide) (by omega);have hp17:(10:Int)^17=100000000000000000:=by decide
  have gm:(w.map fun b=>(b.toNat:Int)).getD j 0=(c.toNat:Int):=by
   rw[ye,List.getElem?_map,yi g1];have:w[j]=c:=by rw[<-g2,ye,yi g1];rfl
   rw[this];rfl
  have e8:ze .u8 ((c.toNat:Int)-48)=HL c:=by
   rw[tQ];unfold HL at hd ⊢;omega
  have e2:ze .i64 (ze .i64 (AB 0 (w.take j)*10)+ze .i64 (HL c))=AB 0 (w.take (j+1)):=by
   rw[Mu hr,CP];show _=10*AB 0 (w.take j)+HL c;generalize AB 0 (w.take j)=D at*;rw[wr (D*10) (by omega) (by omega),wr (HL c) (by omega) (by omega),wr _ (by omega) (by omega)];omega
  have e3:ze .i64 ((j:Int)+1)=((j+1:Nat):Int):=by rw[wr _ (by omega) (by omega)];omega
  refine zj (C5 ..) (zc (by simp;omega) ?_);rw[zg,gm,e8,e2,e3];refine zc (by simp;omega) (zc (by simp;omega) (zn (w8 (by omega)) ?_));exact Dd W neg b1 b0 w n hw hW hn h1 a o0' ha a0 hj hj2 hgo r (j+1) g3 g1
theorem oH(W:List UInt8)(neg:Bool)(o1:Int)(o1w:List Int)(o0:Int)(hW:Aj W=true)(h1:1<=W.length)(n:Nat)(hn:n=min 18 W.length)
  (h:Ends Qk (L7 W neg o1 o1w o0 (W.take n) 0 (W.take n).length (W.take n).length 0 ((W.take n).map fun b=>(b.toNat:Int)) o1 o1w o0) Q):Ends Qk (L5 W neg o1 o1w o0) Q:=by
 have hwl:(W.take n).length=n:=by rw[zo];omega
 have hdw:=Bh hW n;have hc:((((W.take n).getD 0 0).toNat:Int)==(45:Int))=false/\((((W.take n).getD 0 0).toNat:Int)==(43:Int))=false:=by
  cases hq:W.take n with
  |nil=>rw[hq]at hwl;simp at hwl;omega
  |cons c t=>
   rw[hq]at hdw;unfold Aj at hdw;rw[z6,zd]at hdw;have:=C3 hdw.1;unfold HL at this;show(((c.toNat:Int)==(45:Int))=false)/\(((c.toNat:Int)==(43:Int))=false);constructor<;>(simp;omega)
 refine zj (Es ..) (zc (by simp;omega) ?_);rw[Sg, <-hn,zg,hc.1,hc.2];exact zc (by simp;omega) (zc (w4 (by omega)) (zc (w4 (by omega)) (zc (w4 (by omega)) (zn rfl (zc (w4 (by omega)) (zn rfl h))))))
theorem rM(W:List UInt8)(neg:Bool)(o1:Int)(o0:Int)(hW:Aj W=true)(h1:1<=W.length)(n:Nat)(hn:n=min 18 W.length)
  (h:Ends Qk (L3 W neg o1 o0 (W.take n) 0 (W.take n).length (W.take n).length 0 ((W.take n).map fun b=>(b.toNat:Int)) o1 o0) Q):Ends Qk (L1 W neg o1 o0) Q:=by
 have hwl:(W.take n).length=n:=by rw[zo];omega
 have hdw:=Bh hW n;have hc:((((W.take n).getD 0 0).toNat:Int)==(45:Int))=false/\((((W.take n).getD 0 0).toNat:Int)==(43:Int))=false:=by
  cases hq:W.take n with
  |nil=>rw[hq]at hwl;simp at hwl;omega
  |cons c t=>
   rw[hq]at hdw;unfold Aj at hdw;rw[z6,zd]at hdw;have:=C3 hdw.1;unfold HL at this;show(((c.toNat:Int)==(45:Int))=false)/\(((c.toNat:Int)==(43:Int))=false);constructor<;>(simp;omega)
 refine zj (Au ..) (zc (by simp;omega) ?_);rw[Sg, <-hn,zg,hc.1,hc.2];exact zc (by simp;omega) (zc (w4 (by omega)) (zc (w4 (by omega)) (zc (w4 (by omega)) (zn rfl (zc (w4 (by omega)) (zn rfl h))))))
theorem wY(n:Int)(h:0<=n):(Ef (CE n,CC n),Em (CE n,CC n))=CI (-n):=by
 show De (CI n)=_;unfold De;split
 ·next c=>
  have:=Cw n;rw[Bp c.1]at this;rw[this,B5 (n:= -n)];by_cases hb: -9223372036854775808<n/\n<9223372036854775808
  ·omega
  ·exfalso;have e:CI n=(1,Bw (Ae n)):=by unfold CI;rw[wc hb,wc (by omega)]
   rw[e]at this;have:(1:Int)=n:=this;omega
 ·rw[Cw]
theorem XB{a D:Int}{W:List UInt8}{n:Nat}(ha:0<=a)(hW:Aj W=true)(hn:n<=W.length)(hD:a*10^W.length+AB 0 W=D):(a*10^n+AB 0 (W.take n))*10^(W.drop n).length+AB 0 (W.drop n)=D/\a<=D/\a*10^n<=D:=by
 have hs:AB 0 W=AB 0 (W.take n)*10^(W.drop n).length+AB 0 (W.drop n):=by
  conv=>lhs;rw[<-yz n W]
  rw[CP,EE]
 have hl:W.length=n+(W.drop n).length:=by rw[zh];omega
 have hp:(10:Int)^W.length=10^n*10^(W.drop n).length:=by rw[<-Int.pow_add, <-hl]
 have hb:=(Be hW).1;have e1:a*10^W.length=a*10^n*10^(W.drop n).length:=by rw[hp,Int.mul_assoc]
 have one:∀k:Nat,(1:Int)<=10^k:=fun k=>by have:=AO (show(0:Int)<10 by decide) k;omega
 have l1:a<=a*10^W.length:=by have:=zp (one W.length) ha;omega
 have l2:a*10^n<=a*10^n*10^(W.drop n).length:=by
  have:=zp (one (W.drop n).length) (qg ha (show(0:Int)<=10^n by have:=one n;omega));omega
 refine⟨?_,by omega,by omega⟩;rw[Int.add_mul, <-e1];omega
theorem CA(neg:Bool)(o0 D:Int)(hD1:D<(10:Int)^(6000:Nat))(hq:∀ob,Q (.agg [.dat i64 (CE (if neg=true then -D else D)),.dat (.nlist u64) (CC (if neg=true then -D else D))]) ob):∀(f:Nat) (W:List UInt8) (a:Int),W.length<f->W.length<=6000->0<=a->Aj W=true->a*10^W.length+AB 0 W=D->Ends Qk (L5 W neg (CE a) (CC a) o0) Q
 |0,W,a,hf,_,_,_,_=>by omega
 |f+1,W,a,hf,h15,ha,hW,he=>by
  cases hW0:W with
  |nil=>
   subst hW0;have he:a=D:=by rw[<-he];simp[AB]
   subst he;have hok:=GC ha hD1;refine zj (Es ..) (zn (by simp) (zk (fun c=>zc (B2 hok).1 (zf ?_)) (fun c=>zf ?_)))
   ·have:=wY a ha;rw[c,wd rfl]at hq;have x1:Ef (CE a,CC a)=CE (-a):=wi Prod.fst this;have x2:Em (CE a,CC a)=CC (-a):=wi Prod.snd this;rw[x1,x2];exact hq _
   ·rw[c,wc (by decide)]at hq;exact hq _
  |cons c t=>
   rw[<-hW0];have h1:1<=W.length:=by rw[hW0];simp
   obtain⟨r1,r2,r3⟩:=XB (n:=min 18 W.length) ha hW (by omega) he;have hv:=(Be (Bh hW (min 18 W.length))).1;have hp:0<=a*10^(min 18 W.length):=qg ha (zw (AO (by decide) _));refine oH W neg _ _ o0 hW h1 _ rfl (Cs W neg _ _ o0 _ _ rfl hW rfl h1 a o0 ha (GC ha (zx r2 hD1)) (GC hp (zx r3 hD1)) ?_ _ 0 rfl (yg _));exact CA neg o0 D hD1 hq f (W.drop (min 18 W.length)) _ (by rw[zh];omega) (by rw[zh];omega) (by omega) (BY hW _) r1
theorem Ao(neg:Bool)(W:List UInt8)(h15:W.length<=5999)(hW:Aj W=true)(hq:∀ob,Q (.agg [.dat i64 (CE (if neg=true then -AB 0 W else AB 0 W)),.dat (.nlist u64) (CC (if neg=true then -AB 0 W else AB 0 W))]) ob)(hq0:W=[]->∀ob v,(v=.agg [.dat i64 0,.nil]\/v=.agg [.dat i64 (Ef ((0:Int),[])),.dat (.nlist u64) (Em ((0:Int),[]))])->Q v ob):Ends Qk (L1 W neg 0 0) Q:=by
 cases hW0:W with
 |nil=>
  refine zj (Au ..) (zn (by simp) (zk (fun c=>zc (by decide) (zf (hq0 hW0 _ _ (.inr rfl)))) (fun c=>zf (hq0 hW0 _ _ (.inl rfl)))))
 |cons c t=>
  rw[<-hW0];have h1:1<=W.length:=by rw[hW0];simp
  have hD1:AB 0 W<(10:Int)^(6000:Nat):=zq (Be hW).2 (AL (by decide) (by omega));obtain⟨r1,r2,r3⟩:=XB (a:=0) (n:=min 18 W.length) (D:=AB 0 W) (qz _) hW (by omega) (by rw[Int.zero_mul,Int.zero_add]);have hv:=(Be (Bh hW (min 18 W.length))).1;refine rM W neg 0 0 hW h1 _ rfl (Dd W neg 0 0 _ _ rfl hW rfl h1 0 0 rfl (qz _) (by decide) (by rw[Int.zero_mul];decide) ?_ _ 0 rfl (yg _));exact CA neg 0 _ hD1 hq (W.length+1) (W.drop (min 18 W.length)) _ (by rw[zh];omega) (by rw[zh];omega) (by omega) (BY hW _) r1
theorem ok:Ag Bi 132 N8:=by
 refine Cc rC (fun(s:List UInt8) hs=>?_);have hs:(decide (s.length<=5999)&&(if s.getD 0 0=45 then Aj (s.drop 1)else Aj s))=true:=hs;rw[zd,w5]at hs;obtain⟨hl,hs⟩:=hs;have fin:∀D,Ck s=D->∀ob,Ad N8 s (.agg [.dat i64 (CE D),.dat (.nlist u64) (CC D)]) ob:=by
  rintro D rfl ob;exact yf rfl rfl rfl
 have fin0:Ck s=0->∀ob v,(v=.agg [.dat i64 0,.nil]\/v=.agg [.dat i64 (Ef ((0:Int),[])),.dat (.nlist u64) (Em ((0:Int),[]))])->Ad N8 s v ob:=by
  rintro h ob v (rfl|rfl)
  ·refine yf rfl rfl ?_;show((0:Int),([]:List Int))=(CE (Ck s),CC (Ck s));rw[h];rfl
  ·refine yf rfl rfl ?_;show De ((0:Int),([]:List Int))=(CE (Ck s),CC (Ck s));rw[h];rfl
 refine z8 (An s) ?_;conv=>zeta
 cases s with
 |nil=>
  refine zn (by decide) (zn (by decide) (zj (AV ..) (zn (by decide) (zf (fin0 rfl _ _ (.inl rfl))))))
 |cons c r=>
  have ht:(c::r).take 1=[c]:=rfl;have g0:(c::r).getD 0 0=c:=rfl;rw[g0]at hs;have e:(j0 1 (c::r)).take (yx (c::r).length 1)=r:=by show r.take ((r.length+1)-1)=r;rw[yv];exact zy
  have b1:decide (((c::r).length:Int)>=1)=true:=w4 (by simp;omega);have b2:decide (1<=(c::r).length)=true:=w4 (by simp);rw[ht,e];refine zc b1 (zc b2 (zc b1 (zc b2 (zk (fun d=>?_) (fun d=>?_)))))
  ·have hc:c=45:=by simpa using d
   rw[wd hc]at hs;rw[d];have hr:Ck (c::r)= -AB 0 r:=by unfold Ck;rw[g0,wd hc];rfl
   refine zc (by simp) (Ao true r (by simp at hl;omega) hs (fin _ (by rw[hr,wd rfl])) (fun h0=>fin0 (by rw[hr,h0];rfl)))
  ·have hc:c≠45:=by rintro rfl;exact wh d (by decide)
   rw[wc hc]at hs;rw[d];have hr:Ck (c::r)=AB 0 (c::r):=by unfold Ck;rw[g0,wc hc]
   exact Ao false (c::r) hl hs (fin _ (by rw[hr,wc (by decide)])) (fun h0=>by cases h0)
end T132
namespace T142
theorem loop{Q:PV->Ob->Prop}(l:List Int)(hl:l.length<=1000000):∀(r:List Int) (i:Nat),l.drop i=r->i<=l.length->Q (.dat i64 (jk r)) []->Ends NQ (L1 l ((l.length:Int)) i) Q
 |[],i,h,hi,hq=>by
  refine zj (Au ..) ?_;conv=>zeta
  have:¬i<l.length:=by
   intro h1;have:=List.drop_eq_getElem_cons h1;rw[h]at this;cases this
  have he:i=l.length:=by omega
  subst he;simpa [jk]using hq
 |x::r,i,h,hi,hq=>by
  obtain⟨h1,h2,h3⟩:=drop_cons (d:=0) h;refine zj (Au ..) ?_;conv=>zeta
  rw[KW,wd (by simp;omega),KW,wd (by simp;omega),KW];simp only[zg,h2];by_cases hx:x=0
  ·subst hx;rw[wc (by simp),wr _ (by omega) (by omega)];exact loop l hl r (i+1) h3 h1 (by simpa [jk]using hq)
  ·rw[wd (by simpa using hx)];simpa [jk,hx]using hq
theorem ok:Ag Bi 142 J0:=by
 refine Cc EN (fun l hl=>?_);refine z8 (An l) ?_;conv=>zeta
 exact loop l (by simpa [J0]using hl) l 0 rfl (yg _) (yf rfl rfl rfl)
end T142
theorem T143.ok:Ag Bi 143 QX:=by
 refine Cc EN (fun⟨c,e⟩ _=>?_);refine z8 (T143.An c e) ?_;conv=>zeta
 have key:∀x:Int,x=LJ c e->Ad QX (c,e) (.dat i64 x) []:=fun x hx=>yf rfl rfl hx
 simp only[KW,Zu];cases c
 ·exact key _ rfl
 ·exact key _ rfl
theorem sE:Ey Mt:=
 Ab T142.ok (Ab T143.ok (Ab T140.ok (Ab T131.ok (Ab T141.ok (Ab T144.ok (Ab T132.ok (Ab T120.ok (Ab T121n.ok AU))))))))
theorem HK{s:List UInt8}(h:AR s=true):s≠[]/\Aj s=true:=by
 unfold AR at h;rw[zd,zd,w5]at h;exact h.1
theorem Kv{s:List UInt8}(h:Aj s=true)(hl:s.length<=5999):El s=true/\Ck s=AB 0 s:=by
 have h0:s.getD 0 0≠45:=by
  cases s with
  |nil=>decide
  |cons c r=>
   unfold Aj at h;rw[z6,zd]at h;have:=C3 h.1;rintro he;have he:c=45:=he;subst he;exact wh this (by decide)
 unfold El Ck;rw[wc h0,wc h0,h,jg];exact⟨w4 hl,rfl⟩
theorem tY{a b L:Int}(ha:0<=a)(hb:0<=b)(h1:a<L)(h2:b<L):0<=qx a b/\qx a b<L:=by
 rw[FA];obtain⟨x,rfl⟩:=yk ha;obtain⟨y,rfl⟩:=yk hb;have e:qf (x:Int) (y:Int)=Nat.gcd x y:=rfl;rw[e];refine⟨Int.natCast_nonneg _,?_⟩;rcases yq x with h|h
 ·subst h;rw[Nat.gcd_zero_left];exact h2
 ·have:=Nat.gcd_le_left y h;omega
namespace T69
variable {Q:PV->Ob->Prop}
def E(A B:List UInt8)(br form:Bool):Int:=if form=false then 1 else if 600<A.length\/600<B.length then 4 else if br=true/\qx (AB 0 A) (AB 0 B)≠1 then 1 else 0
theorem Fl(A B:List UInt8)(br:Bool)(hA:Aj A=true)(hB:br=true->Aj B=true)(lA:A.length<=600)(lB:B.length<=600)(hq:∀ob,Q (.dat i64 (if br=true/\qx (AB 0 A) (AB 0 B)≠1 then 1 else 0)) ob):Ends Mt (L8 A B br) Q:=by
 refine zj (HX ..) (zk (fun c=>?_) (fun c=>?_))
 ·have hB:=hB c;obtain⟨r1,r2⟩:=Kv hA (by omega);obtain⟨r3,r4⟩:=Kv hB (by omega);have bA:=Be hA;have bB:=Be hB;have uA:AB 0 A<(10:Int)^(6000:Nat):=zq bA.2 (AL (by decide) (by omega));have uB:AB 0 B<(10:Int)^(6000:Nat):=zq bB.2 (AL (by decide) (by omega));have e1:Dr A=CE (AB 0 A):=by unfold Dr;rw[r2]
  have e2:Dg A=CC (AB 0 A):=by unfold Dg;rw[r2]
  have e3:Dr B=CE (AB 0 B):=by unfold Dr;rw[r4]
  have e4:Dg B=CC (AB 0 B):=by unfold Dg;rw[r4]
  have g1:M5 (CE (AB 0 A),CC (AB 0 A)) (CE (AB 0 B),CC (AB 0 B))=CE (qx (AB 0 A) (AB 0 B)):=by
   unfold M5;rw[LK,LK]
  have g2:ML (CE (AB 0 A),CC (AB 0 A)) (CE (AB 0 B),CC (AB 0 B))=CC (qx (AB 0 A) (AB 0 B)):=by
   unfold ML;rw[LK,LK]
  obtain⟨l1,l2⟩:=tY bA.1 bB.1 uA uB;have ec:dE (CE (qx (AB 0 A) (AB 0 B)),CC (qx (AB 0 A) (AB 0 B))) ((1:Int),Ca (1:Int))=Co (qx (AB 0 A) (AB 0 B)) 1:=by
   unfold dE;rw[LK,Ek,EL]
  rw[e1,e2,e3,e4,g1,g2,ec];have j1:Bc ((1:Int),Ca (1:Int))=true:=by rw[Ek];decide
  refine zc r1 (zc r3 (zc (Aa (FC (GC bA.1 uA)) (FC (GC bB.1 uB))) (zc rfl (zc (Aa (FC (GC l1 l2)) j1) ?_))));refine zj (YU ..) (zc rfl (zf ?_));generalize qx (AB 0 A) (AB 0 B)=g at*;have:LJ (Co g 1 !=0) 1=if br=true/\g≠1 then 1 else 0:=by
   unfold Co LJ;by_cases h:g=1
   ·subst h;rw[c];rfl
   ·have x3:(if br=true/\g≠1 then(1:Int)else 0)=1:=wd ⟨c,h⟩;rw[x3];rcases Int.lt_or_gt_of_ne h with q|q
    ·rw[wd q];rfl
    ·rw[wc (by omega),wd q];rfl
  rw[this];exact hq _
 ·refine zj xH (zc rfl (zf ?_));rw[wc (by rw[c];simp)]at hq;exact hq _
theorem Cs(A B:List UInt8)(br form c d:Bool)(hc:c= !form)(hd:d=true↔600<A.length\/600<B.length)(hf:form=true->Aj A=true/\(br=true->Aj B=true))(hq:∀ob,Q (.dat i64 (E A B br form)) ob):Ends Mt (L7 A B br (jk [LJ c 1,LJ d 4])) Q:=by
 subst hc;unfold E at hq;cases form with
 |false=>
  refine zj (Ew ..) (zc ?_ (zf (hq _)));cases d<;>rfl
 |true=>
  rw[wc (by decide)]at hq;cases d with
  |true=>
   rw[wd (hd.1 rfl)]at hq;exact zj (Ew ..) (zc rfl (zf (hq _)))
  |false=>
   have hn:¬(600<A.length\/600<B.length):=fun h=>by have:=hd.2 h;cases this
   rw[wc hn]at hq;obtain⟨f1,f2⟩:=hf rfl;exact zj (Ew ..) (zn rfl (Fl A B br f1 f2 (by omega) (by omega) hq))
theorem BX(A B:List UInt8)(br form:Bool)(hf:form=true->Aj A=true/\(br=true->Aj B=true))(hq:∀ob,Q (.dat i64 (E A B br form)) ob):Ends Mt (L4 A B br form) Q:=by
 refine zj (CT ..) (zc rfl (zk (fun c=>zc rfl (zc rfl ?_)) (fun c=>zc rfl (zc rfl ?_))))
 ·have c:=w6 c;exact Cs A B br form _ _ rfl ⟨fun _=>.inl (by omega),fun _=>rfl⟩ hf hq
 ·have c:=w7 c;exact Cs A B br form _ _ rfl ⟨fun h=>.inr (by have:=w6 h;omega),fun h=>w4 (by omega)⟩ hf hq
theorem CA(A B:List UInt8)(br:Bool)(hq:∀ob,Q (.dat i64 (E A B br false)) ob):Ends Mt (L5 A B br) Q:=by
 refine zj (Es ..) (zc rfl (zk (fun c=>zc rfl (zc rfl ?_)) (fun c=>zc rfl (zc rfl ?_))))
 ·have c:=w6 c;exact Cs A B br false _ _ rfl ⟨fun _=>.inl (by omega),fun _=>rfl⟩ (fun h=>by cases h) hq
 ·have c:=w7 c;exact Cs A B br false _ _ rfl ⟨fun h=>.inr (by have:=w6 h;omega),fun h=>w4 (by omega)⟩ (fun h=>by cases h) hq
theorem ET(A B:List UInt8)(br:Bool)(hf:Aj A=true/\(br=true->Aj B=true))(hq:∀ob,Q (.dat i64 (E A B br true)) ob):Ends Mt (L6 A B br) Q:=by
 refine zj (Fi ..) (zc rfl (zk (fun c=>zc rfl (zc rfl ?_)) (fun c=>zc rfl (zc rfl ?_))))
 ·have c:=w6 c;exact Cs A B br true _ _ rfl ⟨fun _=>.inl (by omega),fun _=>rfl⟩ (fun _=>hf) hq
 ·have c:=w7 c;exact Cs A B br true _ _ rfl ⟨fun h=>.inr (by have:=w6 h;omega),fun h=>w4 (by omega)⟩ (fun _=>hf) hq
theorem Uq{F:Tr}(A B:List UInt8)(br:Bool)(lB:B.length<=1000000)(hA:Aj A=true)(form:Bool)(hform:form=(!br||(AR B&&decide (B≠[48])&&decide (B≠[49]))))(hq:∀ob,Q (.dat i64 (E A B br form)) ob)
  (h:(br=true->Ends Mt (.ite (decide (B.length<=1000000)) (.ite (AR B) (.ite (!B==[(48:UInt8)]) (L4 A B br (!B==[(49:UInt8)])) (L5 A B br)) (L5 A B br)) .fail) Q)->(br=false->form=true)->Ends Mt F Q):Ends Mt F Q:=by
 refine h (fun hb=>zc (w4 lB) ?_) (fun hb=>by rw[hform,hb];rfl);rw[hb]at hform;refine zk (fun c=>zk (fun d=>?_) (fun d=>?_)) (fun c=>?_)
 ·have d:B≠[48]:=by simpa using d
  have e:form=(!B==[(49:UInt8)]):=by
   rw[hform,c,w4 d];by_cases h:B=[49]
   ·rw[h];rfl
   ·rw[w4 h];simp[h]
  rw[<-e];exact BX A B br form (fun _=>⟨hA,fun _=>(HK c).2⟩) hq
 ·have d:B=[48]:=by simpa using d
  have e:form=false:=by rw[hform,w8 (fun h=>h d)];simp
  rw[e]at hq;exact CA A B br hq
 ·have e:form=false:=by rw[hform,c];simp
  rw[e]at hq;exact CA A B br hq
theorem Ds(s:List UInt8):(Ay s).length<=s.length/\(zr s).length<=s.length:=by
 unfold Ay zr;cases s.findIdx? (fun x=>x==47)with
 |none=>simp
 |some i=>simp;omega
theorem Xl(s:List UInt8):(AZ s).length<=s.length:=by
 unfold AZ;split
 ·simp
 ·exact yh _
theorem ok:Ag Bi 69 Gr:=by
 refine Cc sE (fun(a:List UInt8) hl=>?_);have hl:a.length<=1000000:=w6 hl;have l1:=Xl a;obtain⟨l2,l3⟩:=Ds (AZ a);have hq:∀form,form=Gi a->∀ob,Ad Gr a (.dat i64 (E (Ay (AZ a)) (zr (AZ a)) (Bs (AZ a)) form)) ob:=by
  rintro form rfl ob;exact yf rfl rfl rfl
 have hfm:Gi a=(AR (Ay (AZ a))&&(!jl a||decide (Ay (AZ a)≠[48]))&&(!Bs (AZ a)||(AR (zr (AZ a))&&decide (zr (AZ a)≠[48])&&decide (zr (AZ a)≠[49])))):=rfl;refine z8 (An a) (zc (Aa (w4 rfl) (w4 hl)) (zc (Aa (w4 rfl) (w4 (by omega))) (zc (w4 (by omega)) ?_)));generalize Ay (AZ a)=A at*;generalize zr (AZ a)=B at*;generalize Bs (AZ a)=br at*;refine zk (fun c=>?_) (fun c=>?_)
 ·have hA:=(HK c).2;refine zk (fun d=>?_) (fun d=>?_)
  ·have ef:Gi a=(!br||(AR B&&decide (B≠[48])&&decide (B≠[49]))):=by rw[hfm,c,d];rfl
   refine Uq A B br (by omega) hA (Gi a) ef (hq _ rfl) (fun h1 h2=>zj (Au ..) (zk h1 (fun e=>?_)));have h3:=h2 e;exact ET A B br ⟨hA,fun h=>by rw[e]at h;cases h⟩ (hq true h3.symm)
  ·by_cases hz:A=[48]
   ·have ef:Gi a=false:=by rw[hfm,d,w8 (fun h=>h hz)];simp
    have e8:(!A==[(48:UInt8)])=false:=by rw[hz];rfl
    rw[e8];refine zj (AV ..) (zk (fun e=>zn rfl (CA A B br (hq false ef.symm))) (fun e=>BX A B br false (fun h=>by cases h) (hq false ef.symm)))
   ·have e8:(!A==[(48:UInt8)])=true:=by simp[hz]
    have ef:Gi a=(!br||(AR B&&decide (B≠[48])&&decide (B≠[49]))):=by rw[hfm,c,d,w4 hz];rfl
    rw[e8];refine Uq A B br (by omega) hA (Gi a) ef (hq _ rfl) (fun h1 h2=>zj (AV ..) (zk (fun e=>zc rfl (h1 e)) (fun e=>?_)));have h3:=h2 e;exact BX A B br true (fun _=>⟨hA,fun h=>by rw[e]at h;cases h⟩) (hq true h3.symm)
 ·have ef:Gi a=false:=by rw[hfm,c];simp
  exact zj (C5 ..) (zk (fun e=>CA A B br (hq false ef.symm)) (fun e=>CA A B br (hq false ef.symm)))
end T69
theorem D7(c:UInt8)(r:List UInt8):Ay (c::r)=if c=47 then[]else c::Ay r:=by
 unfold Ay;rw[qh];by_cases h:c=47
 ·subst h;rfl
 ·rw[wc (by simpa using h),wc h];cases r.findIdx? (fun x=>x==47)<;>rfl
namespace T127
theorem Ao{Q:PV->Ob->Prop}(s:List UInt8)(hl:s.length<=9223372036854775807):∀(r:List UInt8) (i:Nat),s.drop i=r->i<=s.length->(∀ob,Q (.dat i64 (((i+(Ay r).length:Nat)):Int)) ob)->Ends NQ (L1 s i) Q
 |[],i,h,hi,hq=>by
  have he:i=s.length:=drop_nil h hi;subst he;exact zj (Au ..) (zn (by simp) (zf (hq _)))
 |c::r,i,h,hi,hq=>by
  obtain⟨h1,h2,h3⟩:=drop_cons (d:=0) h;have e3:ze .i64 ((i:Int)+1)=((i+1:Nat):Int):=by rw[wr _ (by omega) (by omega)];omega
  rw[D7]at hq;refine zj (Au ..) (zc (by simp;omega) ?_);rw[zg,h2,e3];refine zc (by simp;omega) (zk (fun d=>?_) (fun d=>?_))
  ·have hc:c=47:=by
    have:(c.toNat:Int)=47:=by simpa using d
    exact yc.1 (by show _=47;omega)
   rw[wd hc]at hq;exact zf (hq _)
  ·have hc:c≠47:=by rintro rfl;exact wh d (by decide)
   rw[wc hc]at hq;refine Ao s hl r (i+1) h3 h1 (fun ob=>?_);have:=hq ob;rw[qp]at this;rw[show i+1+(Ay r).length=i+((Ay r).length+1)by omega];exact this
theorem ok:Ag Bi 127 OP:=by
 refine Cc EN (fun(s:List UInt8) hl=>?_);have hl:s.length<=1000000:=w6 hl;refine z8 (An s) (Ao s (by omega) s 0 rfl (yg _) (fun ob=>yf rfl rfl ?_));rw[Nat.zero_add];rfl
theorem okU:Ag Bi 127 YC:=by
 refine Cc EN (fun(s:List UInt8) hl=>?_);have hl:s.length<=9223372036854775807:=w6 hl;refine z8 (An s) (Ao s hl s 0 rfl (yg _) (fun ob=>yf rfl rfl ?_));rw[Nat.zero_add];rfl
end T127
namespace T128
variable {Q:PV->Ob->Prop}
theorem Tu{s:List UInt8}{r:List UInt8}{c:UInt8}{i:Nat}(h:s.drop i=c::r):Aj (s.drop i)=(BT c&&Aj (s.drop (i+1))):=by
 obtain⟨_,_,h3⟩:=drop_cons (d:=0) h;rw[h3,h];rfl
theorem Ao(s:List UInt8)(hl:s.length<=9223372036854775807):∀(r:List UInt8) (i:Nat),s.drop i=r->i<=s.length->(∀ob,Q (.bl (Aj (s.drop i))) ob)->Ends NQ (L1 s s i) Q
 |[],i,h,hi,hq=>by
  have he:i=s.length:=drop_nil h hi;rw[h]at hq;subst he;exact zj (Au ..) (zn (by simp) (zf (hq _)))
 |c::r,i,h,hi,hq=>by
  obtain⟨h1,h2,h3⟩:=drop_cons (d:=0) h;have e3:ze .i64 ((i:Int)+1)=((i+1:Nat):Int):=by rw[wr _ (by omega) (by omega)];omega
  rw[Tu h]at hq;refine zj (Au ..) (zc (by simp;omega) ?_);rw[zg,h2,e3];refine zc (by simp;omega) (zk (fun d=>?_) (fun d=>zc (by simp;omega) (zk (fun e=>?_) (fun e=>?_))))
  ·have d:=w6 d;have hn:BT c=false:=by unfold BT;rw[w8 (by omega)];rfl
   rw[hn]at hq;exact zf (hq _)
  ·have e:=w6 e;have hn:BT c=false:=by unfold BT;rw[w8 (p:=c.toNat<=57) (by omega),Bool.and_false]
   rw[hn]at hq;exact zf (hq _)
  ·have d:=w7 d;have e:=w7 e;have hn:BT c=true:=by unfold BT;exact Aa (w4 (by omega)) (w4 (by omega))
   rw[hn,yr]at hq;exact Ao s hl r (i+1) h3 h1 hq
theorem A4(s:List UInt8)(hl:s.length<=9223372036854775807):∀(r:List UInt8) (i:Nat),s.drop i=r->i<=s.length->(∀ob,Q (.bl (Aj (s.drop i))) ob)->Ends NQ (L2 s s i) Q
 |[],i,h,hi,hq=>by
  have he:i=s.length:=drop_nil h hi;rw[h]at hq;subst he;exact zj (AV ..) (zn (by simp) (zf (hq _)))
 |c::r,i,h,hi,hq=>by
  obtain⟨h1,h2,h3⟩:=drop_cons (d:=0) h;have e3:ze .i64 ((i:Int)+1)=((i+1:Nat):Int):=by rw[wr _ (by omega) (by omega)];omega
  rw[Tu h]at hq;refine zj (AV ..) (zc (by simp;omega) ?_);rw[zg,h2,e3];refine zc (by simp;omega) (zk (fun d=>?_) (fun d=>zc (by simp;omega) (zk (fun e=>?_) (fun e=>?_))))
  ·have d:=w6 d;have hn:BT c=false:=by unfold BT;rw[w8 (by omega)];rfl
   rw[hn]at hq;exact zf (hq _)
  ·have e:=w6 e;have hn:BT c=false:=by unfold BT;rw[w8 (p:=c.toNat<=57) (by omega),Bool.and_false]
   rw[hn]at hq;exact zf (hq _)
  ·have d:=w7 d;have e:=w7 e;have hn:BT c=true:=by unfold BT;exact Aa (w4 (by omega)) (w4 (by omega))
   rw[hn,yr]at hq;exact A4 s hl r (i+1) h3 h1 hq
theorem okU:Ag Bi 128 SE:=by
 refine Cc EN (fun(s:List UInt8) hl=>?_);have hl:s.length<=9223372036854775807:=w6 hl;have hq:∀b ob,b=AR s->Ad SE s (.bl b) ob:=fun b ob hb=>yf rfl rfl hb
 refine z8 (An s) ?_;conv=>zeta
 cases s with
 |nil=>exact zc rfl (zf (hq _ _ rfl))
 |cons c r=>
  have g0:(c::r).getD 0 0=c:=rfl;rw[g0];refine zn (by simp;omega) (zk (fun d=>zc (by simp) (zk (fun e=>zf (hq _ _ ?_)) (fun e=>?_))) (fun d=>?_))
  ·have d:=w6 d;have hc:c=48:=by
    have:(c.toNat:Int)=48:=by simpa using e
    exact yc.1 (by show _=48;omega)
   have hr:r≠[]:=by rintro rfl;simp at d
   unfold AR;rw[g0,w8 (p:=c≠48) (fun h=>h hc),w8 (p:=c::r=[48]) (by intro h;simp at h;exact hr h.2)];simp
  ·have hc:c≠48:=by rintro rfl;exact wh e (by decide)
   refine Ao (c::r) hl (c::r) 0 rfl (yg _) (fun ob=>hq _ _ ?_);unfold AR;rw[g0,w4 hc];simp
  ·have d:=w7 d;have hr:r=[]:=by
    have:r.length=0:=by simp at d;omega
    exact yb.1 this
   subst hr;refine A4 [c] hl [c] 0 rfl (yg _) (fun ob=>hq _ _ ?_);unfold AR;rw[g0];by_cases hc:c=48
   ·subst hc;rfl
   ·rw[w4 hc];simp
end T128
theorem mK:Ey tU:=Ab T159.ok AU
namespace T152
variable {Q:PV->Ob->Prop}
theorem Ps{v:Int}(hv: -9223372036854775808<=v/\v<9223372036854775808):∃q d:Nat,Ae v=d+1000000000*q/\d<1000000000/\ze .i64 (Int.tdiv v 1000000000)=(if v<0 then -(q:Int)else q)/\Int.tmod v 1000000000=(if v<0 then -(d:Int)else d):=by
 refine⟨v.natAbs/1000000000,v.natAbs % 1000000000,by rw[Ah];omega,by omega,?_,?_⟩
 ·by_cases h:v<0
  ·have:=Int.neg_tdiv (-v) 1000000000;rw[Int.neg_neg]at this;rw[this,qi (by omega),wd h,wr _ (by omega) (by omega)];omega
  ·rw[qi (by omega),wc h,wr _ (by omega) (by omega)];omega
 ·by_cases h:v<0
  ·have:=Int.neg_tmod (-v) 1000000000;rw[Int.neg_neg]at this;rw[this,qj (by omega),wd h];omega
  ·rw[qj (by omega),wc h];omega
theorem A4(neg:Bool)(D:Int)(hq:∀(w:List Int) ob,Aw zt w->yo zt w=D->Q (.agg [.dat .bool (Cg neg w),.dat li (Av w)]) ob):∀(f:Nat) (v:Int) (o1:List Int),Ae v<f->(-9223372036854775808<=v/\v<9223372036854775808)->o1.length<=100->(Ae v≠0->Ae v*1000000000^o1.length<=9223372036854775808)->Aw zt o1->yo zt o1+(zt:Int)^o1.length*Ae v=D->Ends tU (L2 v o1.length neg o1) Q
 |0,v,o1,hf,hv,ho,hb,hd,he=>by
  have:=AG v;omega
 |f+1,v,o1,hf,hv,ho,hb,hd,he=>by
  obtain⟨q,d,s1,s2,s3,s4⟩:=Ps hv;by_cases h0:v=0
  ·subst h0;have e0:Ae 0=0:=rfl;rw[e0,Int.mul_zero,Int.add_zero]at he;refine zj (AV ..) (zn rfl ?_);rw[zy];exact zc (by simp;omega) (zf (hq _ _ hd he))
  ·have hne:Ae v≠0:=by rw[Ah];omega
   have hbb:=hb hne;have ho10:o1.length<=10:=by
    rcases Nat.lt_or_ge 10 o1.length with g|g
    ·exfalso;have x1:(1000000000:Int)^11<=1000000000^o1.length:=AL (by decide) g;have x2:(9223372036854775808:Int)<1000000000^11:=by decide
     have x3:=z7 (show 1<=Ae v by have:=AG v;omega) (show(0:Int)<=1000000000^o1.length by omega);omega
    ·exact g
   have eq:Ae (if v<0 then -(q:Int)else q)=q:=by rw[Ah];split<;>omega
   have go:Ends tU (L2 (if v<0 then -(q:Int)else q) (qt o1.length 1) neg (o1++[(d:Int)])) Q:=by
    have:=A4 neg D hq f (if v<0 then -(q:Int)else q) (o1++[(d:Int)]) (by rw[eq];omega) (by have:=Ah v;split<;>omega) (by simp;omega) (fun _=>by
     rw[eq,zl];show(q:Int)*1000000000^(o1.length+1)<=_;rw[yp, <-Int.mul_assoc,Int.mul_right_comm];have x1:=z7 (show(q:Int)*1000000000<=Ae v by omega) (show(0:Int)<=1000000000^o1.length from zw (AO (by decide) _));omega) (Fh hd (by omega)) (by
     rw[eq,Ci,zl];show yo zt o1+(zt:Int)^o1.length*(d:Int)+(zt:Int)^(o1.length+1)*(q:Int)=D;rw[JM,jh, <-Int.mul_add, <-he,s1])
    rw[zl]at this;exact this
   refine zj (AV ..) (zc (by simpa using h0) (zc rfl ?_));rw[s3,s4];refine zk (fun c=>zc (by simp;omega) (zc rfl ?_)) (fun c=>zc (by simp;omega) (zc rfl ?_))
   ·have c:=w6 c;have hn:v<0:=by split at c<;>omega
    rw[wd hn]at c;rw[wd hn,wd hn];rw[wd hn]at go;have e5:ze .i64 (0 - -(d:Int))=(d:Int):=by rw[wr _ (by omega) (by omega)];omega
    rw[e5];exact go
   ·have c:=w7 c;have e5:(if v<0 then -(d:Int)else(d:Int))=(d:Int):=by split at c<;>split<;>omega
    rw[e5];exact go
theorem ok:Ag Bi 152 Lv:=by
 refine Cc mK (fun(v:Int) hv=>?_);have hv:=En (n:=v) hv;have fin:∀(w:List Int) ob,Aw zt w->yo zt w=Ae v->Ad Lv v (.agg [.dat .bool (Cg (decide (v<0)) w),.dat li (Av w)]) ob:=by
  intro w ob hd hw;refine yf rfl rfl ?_;have:=LV (neg:=decide (v<0)) hd hw;have e:(if decide (v<0)=true then -Ae v else Ae v)=v:=by
   rw[Ah];by_cases h:v<0
   ·rw[wd (w4 h)];omega
   ·rw[wc (by simpa using h)];omega
  rw[e]at this;exact this
 obtain⟨q,d,s1,s2,s3,s4⟩:=Ps hv;have hn:=AG v;refine z8 (An v) ?_;conv=>zeta
 by_cases h0:v=0
 ·subst h0;exact zj (Au ..) (zn rfl (zc rfl (zf (fin [] _ (fun x hx=>by cases hx) rfl))))
 ·have eq:Ae (if v<0 then -(q:Int)else q)=q:=by rw[Ah];split<;>omega
  have go:Ends tU (L2 (if v<0 then -(q:Int)else q) 1 (decide (v<0)) [(d:Int)]) (Ad Lv v):=by
   refine A4 (decide (v<0)) (Ae v) fin (q+1) _ [(d:Int)] (by rw[eq];omega) (by have:=Ah v;split<;>omega) (by simp) (fun _=>?_) (fun x hx=>by rw[qk]at hx;subst hx;show 0<=_/\_<(1000000000:Int);omega) ?_
   ·rw[eq];show(q:Int)*1000000000^1<=_;have:=Ah v;omega
   ·rw[eq,Eu,s1];show(d:Int)+(1000000000:Int)^1*(q:Int)=_;omega
  refine zj (Au ..) (zc (by simpa using h0) (zc rfl ?_));rw[s3,s4];refine zk (fun c=>zc rfl (zc rfl ?_)) (fun c=>zc rfl (zc rfl ?_))
  ·have c:=w6 c;have hn:v<0:=by split at c<;>omega
   rw[wd hn]at c;rw[wd hn,wd hn];rw[wd hn]at go;have e5:ze .i64 (0 - -(d:Int))=(d:Int):=by rw[wr _ (by omega) (by omega)];omega
   rw[e5];exact go
  ·have c:=w7 c;have e5:(if v<0 then -(d:Int)else(d:Int))=(d:Int):=by split at c<;>split<;>omega
   rw[e5];exact go
end T152
theorem pZ:Ey XK3:=Ab T127.ok (Ab T155.ok (Ab T152.ok AU))
theorem BQ:∀(s:List UInt8),Ay s=s.take (Ay s).length/\(Bs s=true->(Ay s).length<s.length/\zr s=s.drop ((Ay s).length+1))/\(Bs s=false->Ay s=s/\zr s=[])
 |[]=>⟨rfl,(fun h=>(by cases h)),fun _=>⟨rfl,rfl⟩⟩
 |c::r=>by
  obtain⟨h1,h2,h3⟩:=BQ r;have hB:zr (c::r)=if c=47 then r else zr r:=by
   unfold zr;rw[qh];by_cases h:c=47
   ·subst h;rfl
   ·rw[wc (by simpa using h),wc h];cases r.findIdx? (fun x=>x==47)<;>rfl
  have hC:Bs (c::r)=(decide (c=47)||Bs r):=by
   unfold Bs;rw[List.any_cons];congr 1
  rw[D7,hB,hC];by_cases h:c=47
  ·rw[wd h,wd h,w4 h];exact⟨rfl,(fun _=>⟨by simp,rfl⟩),fun h=>by cases h⟩
  ·rw[wc h,wc h,w8 h];refine⟨?_,fun g=>?_,fun g=>?_⟩
   ·rw[qp,List.take_succ_cons, <-h1]
   ·obtain⟨k1,k2⟩:=h2 g;refine⟨by simp;omega,?_⟩;rw[qp,List.drop_succ_cons];exact k2
   ·obtain⟨k1,k2⟩:=h3 g;exact⟨by rw[k1],k2⟩
theorem T82.ok:Ag Bi 82 Th:=by
 refine Cc pZ (fun(a:List UInt8) ha=>?_);have ha:(El (Ay a)&&El (zr a)&&decide (a.length<=5999))=true:=ha;rw[zd,zd,w5]at ha;obtain⟨⟨ra,rb⟩,hl⟩:=ha;obtain⟨c1,c2,c3⟩:=BQ a;have es:AY a=((Ay a).length:Int):=rfl;have hle:(Ay a).length<=a.length:=(T69.Ds a).1;refine z8 (T82.An a) (zc (w4 (by omega)) (zk (fun c=>?_) (fun c=>?_)))
 ·have c:(Ay a).length=a.length:=by
   have:((Ay a).length:Int)=(a.length:Int):=by simpa [es]using c
   omega
  have hc:Bs a=false:=by
   cases h:Bs a with
   |false=>rfl
   |true=>have:=(c2 h).1;omega
  obtain⟨k1,k2⟩:=c3 hc;rw[k1]at ra;refine zc ra (zc rfl (zf (yf rfl rfl ?_)));show((Fg a,Fe a),(false,Sp.rW 1))=((BE a,Bv a),(Bn a,Bf a));unfold BE Bv Bn Bf A8 AI Fg Fe;rw[k1,hc];rfl
 ·have hlt:(Ay a).length<a.length:=by
   have:((Ay a).length:Int)≠(a.length:Int):=by simpa [es]using c
   omega
  have hc:Bs a=true:=by
   cases h:Bs a with
   |true=>rfl
   |false=>have:=(c3 h).1;rw[this]at hlt;omega
  obtain⟨k1,k2⟩:=c2 hc;have e1:ze .i64 (((Ay a).length:Int)+1)=(((Ay a).length+1:Nat):Int):=by rw[wr _ (by omega) (by omega)];omega
  have e2:(a.drop ((Ay a).length+1)).take (yx a.length ((Ay a).length+1))=a.drop ((Ay a).length+1):=zm (by rw[zh];exact yh _);rw[es,e1,zg,zg,e2, <-c1, <-k2];refine zc (by simp;omega) (zc (by simp;omega) (zc ra (zc rb (zf (yf rfl rfl ?_)))));show((Fg (Ay a),Fe (Ay a)),(Fg (zr a),Fe (zr a)))=((BE a,Bv a),(Bn a,Bf a));unfold BE Bv Bn Bf A8 AI Fg Fe;rw[hc];rfl
theorem XC:Ey UZ:=Ab T127.okU (Ab T128.okU (Ab T82.ok (Ab T129.ok AU)))
namespace T51
variable {Q:PV->Ob->Prop}
theorem nC{g:Int}(h0:0<=g):BV g=[1]↔g=1:=by
 constructor
 ·intro h;have:=CV (b:=zt) (by decide) h0;have h:Sp.dg zt g=[1]:=h;rw[h]at this;rw[<-this];rfl
 ·rintro rfl;rfl
theorem BX(s:List UInt8)(hA:Aj (Ay s)=true)(hB:Bs s=true->Aj (zr s)=true)(lA:(Ay s).length<=600)(lB:(zr s).length<=600)(hl:s.length<=5999)
  (hq:∀ob,Q (.dat i64 (if Bs s=true/\qx (AB 0 (Ay s)) (AB 0 (zr s))≠1 then 1 else 0)) ob):Ends UZ (L4 s (AY s)) Q:=by
 obtain⟨c1,c2,c3⟩:=BQ s;have es:AY s=((Ay s).length:Int):=rfl;refine zj (CT ..) ?_;conv=>zeta
 rw[es];refine zk (fun c=>?_) (fun c=>?_)
 ·have c:=w6 c;have hc:Bs s=true:=by
   cases h:Bs s with
   |true=>rfl
   |false=>have:=(c3 h).1;rw[this]at c;omega
  have hB:=hB hc;obtain⟨r1,r2⟩:=Kv hA (by omega);obtain⟨r3,r4⟩:=Kv hB (by omega);have bA:=Be hA;have bB:=Be hB;have tR:∀k:Nat,(10:Int)^k<=(zt:Int)^k:=by
   intro k;induction k with
   |zero=>exact qz _
   |succ k ih=>
    rw[yp,yp];have h1:=z7 ih (show(0:Int)<=10 by decide);have h2:=zp (show(10:Int)<=(zt:Int)by decide) (zw (AO (b:=zt) (by decide) k));exact qe h1 h2
  have uA:AB 0 (Ay s)<(zt:Int)^600:=zq bA.2 (qe (tR _) (AL (by decide) lA));have uB:AB 0 (zr s)<(zt:Int)^600:=zq bB.2 (qe (tR _) (AL (by decide) lB));have e1:Bv s=BV (AB 0 (Ay s)):=by
   unfold Bv A8 Sp.rW;rw[r2,show Ae (AB 0 (Ay s))=AB 0 (Ay s)by rw[Ah];omega]
  have e2:Bf s=BV (AB 0 (zr s)):=by
   unfold Bf AI Sp.rW;rw[wd hc,r4,show Ae (AB 0 (zr s))=AB 0 (zr s)by rw[Ah];omega]
  obtain⟨n1,_,v1,l1⟩:=Hc (k:=600) bA.1 uA (by decide);obtain⟨n2,_,v2,l2⟩:=Hc (k:=600) bB.1 uB (by decide);have rat:Da s=true:=by
   unfold Da;rw[r1,r3];exact w4 hl
  rw[e1,e2];refine zc rat (zj (Es ..) (zc (Aa (Aa (Aa n1 n2) (w4 (by omega))) (w4 (by omega))) ?_));have ec:Cr (BV (AB 0 (Ay s))) (BV (AB 0 (zr s)))=BV (qx (AB 0 (Ay s)) (AB 0 (zr s))):=by
   unfold Cr;rw[v1,v2]
  rw[ec];obtain⟨g0,_⟩:=tY bA.1 bB.1 uA uB;generalize qx (AB 0 (Ay s)) (AB 0 (zr s))=g at*;have h1:=nC g0;by_cases h:g=1
  ·rw[wc (fun x=>x.2 h)]at hq;rw[h1.2 h];exact zj (Fi ..) (zn rfl (zc rfl (zn rfl (zf (hq _)))))
  ·rw[wd ⟨hc,h⟩]at hq;have hne:BV g≠[1]:=fun x=>h (h1.1 x)
   refine zj (Fi ..) (zk (fun d=>zf (hq _)) (fun d=>?_));have d:(BV g).length=1:=by
    have:((BV g).length:Int)=1:=by simpa using d
    omega
   obtain⟨x,hx⟩:=List.length_eq_one_iff.1 d;rw[hx]at hne ⊢;have hx1:x≠1:=fun e=>hne (by rw[e])
   exact zc rfl (zc (by simpa using hx1) (zf (hq _)))
 ·have c:=w7 c;have hc:Bs s=false:=by
   cases h:Bs s with
   |false=>rfl
   |true=>have:=(c2 h).1;omega
  rw[wc (fun x=>by rw[hc]at x;cases x.1)]at hq;exact zf (hq _)
theorem A4(s:List UInt8)(hA:Aj (Ay s)=true)(hl:s.length<=9223372036854775807)(hq:∀ob,Q (.dat i64 (T69.E (Ay s) (zr s) (Bs s) (!Bs s||(AR (zr s)&&decide (zr s≠[48])&&decide (zr s≠[49]))))) ob):Ends UZ (L2 s (AY s)) Q:=by
 obtain⟨c1,c2,c3⟩:=BQ s;have es:AY s=((Ay s).length:Int):=rfl;have hle:=T69.Ds s;have big:(Bs s=true->Aj (zr s)=true)->(∀ob,Q (.dat i64 (T69.E (Ay s) (zr s) (Bs s) true)) ob)->Ends UZ (L3 s (AY s)) Q:=by
  intro hB hq;unfold T69.E at hq;rw[wc (by decide)]at hq;have hlen:s.length=(Ay s).length+(if Bs s=true then 1+(zr s).length else 0):=by
   cases h:Bs s with
   |true=>obtain⟨k1,k2⟩:=c2 h;rw[wd rfl,k2,zh];omega
   |false=>obtain⟨k1,k2⟩:=c3 h;rw[wc (by decide),k1];rfl
  have hB0:Bs s=false->(zr s).length=0:=fun h=>by rw[(c3 h).2];rfl
  refine zj (C5 ..) ?_;conv=>zeta
  rw[es,wr ((s.length:Int)-((Ay s).length:Int)) (by omega) (by omega),wr _ (by omega) (by omega)];refine zk (fun c=>?_) (fun c=>zk (fun d=>?_) (fun d=>?_))
  ·have c:=w6 c;rw[wd (.inl (by omega))]at hq;exact zf (hq _)
  ·have c:=w7 c;have d:=w6 d;have:600<(zr s).length:=by split at hlen<;>omega
   rw[wd (.inr this)]at hq;exact zf (hq _)
  ·have c:=w7 c;have d:=w7 d;have hb:(zr s).length<=600:=by
    cases h:Bs s with
    |true=>rw[h,wd rfl]at hlen;omega
    |false=>have:=hB0 h;omega
   rw[wc (by omega)]at hq;exact BX s hA hB (by omega) hb (by split at hlen<;>omega) hq
 refine zj (AV ..) ?_;conv=>zeta
 cases hc:Bs s with
 |false=>
  rw[hc]at hq;have hn:¬(AY s<(s.length:Int)):=by rw[es,(c3 hc).1];omega
  exact zn (w8 hn) (big (fun h=>by rw[hc]at h;cases h) (by rw[hc];exact hq))
 |true=>
  rw[hc]at hq;obtain⟨k1,k2⟩:=c2 hc;have e1:ze .i64 (((Ay s).length:Int)+1)=(((Ay s).length+1:Nat):Int):=by rw[wr _ (by omega) (by omega)];omega
  have e2:(s.drop ((Ay s).length+1)).take (yx s.length ((Ay s).length+1))=s.drop ((Ay s).length+1):=zm (by rw[zh];exact yh _);rw[es,e1,zg,e2, <-k2];rw[es]at big;have bad:(!true||(AR (zr s)&&decide (zr s≠[48])&&decide (zr s≠[49])))=false->∀ob,Q (.dat i64 1) ob:=by
   intro h ob;have:=hq ob;rw[h]at this;exact this
  refine zc (by simp;omega) (zc (by simp;omega) (zc (w4 (by omega)) (zk (fun d=>zf (bad ?_ _)) (fun d=>zc (by simp;omega) (zk (fun e=>zf (bad ?_ _)) (fun e=>zc (by simp;omega) (zk (fun f=>zf (bad ?_ _)) (fun f=>?_))))))))
  ·have d:AR (zr s)=false:=by simpa using d
   rw[d];rfl
  ·have e:zr s=[48]:=by simpa using e
   rw[w8 (p:=zr s≠[48]) (fun h=>h e)];simp
  ·have f:zr s=[49]:=by simpa using f
   rw[w8 (p:=zr s≠[49]) (fun h=>h f)];simp
  ·have d:AR (zr s)=true:=by simpa using d
   have e:zr s≠[48]:=by simpa using e
   have f:zr s≠[49]:=by simpa using f
   rw[d,w4 e,w4 f]at hq;exact big (fun _=>(HK d).2) (by rw[hc];exact hq)
theorem Ao(a s:List UInt8)(hs:s=AZ a)(hl:a.length<=9223372036854775807)(hq:∀ob,Q (.dat i64 (Az a)) ob):Ends UZ (L1 a s) Q:=by
 obtain⟨c1,c2,c3⟩:=BQ s;have es:AY s=((Ay s).length:Int):=rfl;have hsl:s.length<=a.length:=by rw[hs];exact T69.Xl a
 have hle:=T69.Ds s;have hE:Az a=T69.E (Ay s) (zr s) (Bs s) (AR (Ay s)&&(!jl a||decide (Ay s≠[48]))&&(!Bs s||(AR (zr s)&&decide (zr s≠[48])&&decide (zr s≠[49])))):=by rw[hs];rfl
 rw[hE]at hq;have tk:s.take (Ay s).length=Ay s:=c1.symm;refine zj (Au ..) ?_;conv=>zeta
 rw[show AY s=((Ay s).length:Int)from rfl,zg,tk];refine zc (w4 (by omega)) (zc (by simp;omega) (zc (w4 (by omega)) (zk (fun d=>?_) (fun d=>?_))))
 ·have d:AR (Ay s)=false:=by simpa using d
  rw[d]at hq;exact zf (hq _)
 ·have d:AR (Ay s)=true:=by simpa using d
  have hA:=(HK d).2;have hne:a.length≠0:=by
   intro h;have h:=yb.1 h;have:s=[]:=by rw[hs,h];rfl
   rw[this]at d;exact wh d (by decide)
  rw[d,yr]at hq;refine zc (w4 (by omega)) (zk (fun e=>zc (by simp;omega) (zk (fun f=>?_) (fun f=>?_))) (fun e=>?_))
  ·have hp:jl a=true:=by
    unfold jl;refine w4 (yc.1 ?_);have:((a.getD 0 0).toNat:Int)=45:=by simpa using e
    show _=45;omega
   have f:Ay s=[48]:=by simpa using f
   rw[hp,w8 (p:=Ay s≠[48]) (fun h=>h f)]at hq;exact zf (hq _)
  ·have f:Ay s≠[48]:=by simpa using f
   rw[w4 f,Bool.or_true,yr]at hq;exact A4 s hA (by omega) hq
  ·have hp:jl a=false:=by
    unfold jl;refine w8 (fun h=>?_);rw[h]at e;exact wh e (by decide)
   rw[hp,Bool.not_false,Bool.true_or,yr]at hq;exact A4 s hA (by omega) hq
theorem okU:Ag Bi 51 Sv:=by
 refine Cc XC (fun(a:List UInt8) hl=>?_);have hl:a.length<=9223372036854775807:=w6 hl;have hq:∀ob,Ad Sv a (.dat i64 (Az a)) ob:=fun ob=>yf rfl rfl rfl
 refine z8 (An a) ?_;conv=>zeta
 cases a with
 |nil=>exact zn rfl (Ao [] [] rfl hl hq)
 |cons c r=>
  have g0:(c::r).getD 0 0=c:=rfl;rw[g0];refine zc (by simp) (zc (by simp) (zk (fun d=>zc (by simp) ?_) (fun d=>?_)))
  ·have hc:c=45:=by
    have:(c.toNat:Int)=45:=by simpa using d
    exact yc.1 (by show _=45;omega)
   have e:(j0 1 (c::r)).take (yx (c::r).length 1)=r:=by show r.take ((r.length+1)-1)=r;rw[yv];exact zy
   rw[e];exact Ao (c::r) r (by unfold AZ;rw[g0,wd hc];rfl) hl hq
  ·have hc:c≠45:=by rintro rfl;exact wh d (by decide)
   exact Ao (c::r) (c::r) (by unfold AZ;rw[g0,wc hc]) hl hq
theorem ok:Ag Bi 51 Gr:=by
 refine Cc XC (fun(a:List UInt8) hl=>?_);have hl:a.length<=1000000:=w6 hl;have hq:∀ob,Ad Gr a (.dat i64 (Az a)) ob:=fun ob=>yf rfl rfl rfl
 refine z8 (An a) ?_;conv=>zeta
 cases a with
 |nil=>exact zn rfl (Ao [] [] rfl (jm hl (by decide)) hq)
 |cons c r=>
  have g0:(c::r).getD 0 0=c:=rfl;rw[g0];refine zc (by simp) (zc (by simp) (zk (fun d=>zc (by simp) ?_) (fun d=>?_)))
  ·have hc:c=45:=by
    have:(c.toNat:Int)=45:=by simpa using d
    exact yc.1 (by show _=45;omega)
   have e:(j0 1 (c::r)).take (yx (c::r).length 1)=r:=by show r.take ((r.length+1)-1)=r;rw[yv];exact zy
   rw[e];exact Ao (c::r) r (by unfold AZ;rw[g0,wd hc];rfl) (jm hl (by decide)) hq
  ·have hc:c≠45:=by rintro rfl;exact wh d (by decide)
   exact Ao (c::r) (c::r) (by unfold AZ;rw[g0,wc hc]) (jm hl (by decide)) hq
end T51
theorem Jo:Ey sV:=
 Ab T137.ok (Ab T171.ok (Ab T197.ok (Ab T144.ok (Ab T121n.ok (Ab T146.ok (Ab T136.ok (Ab T120.ok (Ab T131.ok (Ab T132.ok AU)))))))))
theorem I1{a:AT}(h:U0 a=true):Bc a=true/\Ae (zi a)<(Ai:Int)^4000:=by
 unfold U0 at h;rw[zd,w5]at h;refine⟨?_,IB h.1 h.2 (by decide)⟩;unfold Bc;exact Aa h.1 (w4 (by omega))
theorem GA{x y:Int}(hx:Ae x<(Ai:Int)^4000)(hy:Ae y<(Ai:Int)^4000):Ae (x*y)<(Ai:Int)^8000:=by
 rw[I6];have h0:=AG x;have hp:=AO (b:=Ai) (by decide) 4000;have a1:=zp (zw hy) h0;have a2:=Int.mul_lt_mul_of_pos_right hx hp;have a3:(Ai:Int)^4000*(Ai:Int)^4000=(Ai:Int)^8000:=(Int.pow_add _ 4000 4000).symm;rw[a3]at a2;exact zx a1 a2
theorem AbD{x:Int}(h:x<(Ai:Int)^8000):x<(Ai:Int)^9000:=zq h (AL (by decide) (by decide))
theorem lN{x y:Int}(hx:Ae x<(Ai:Int)^4000)(hy:Ae y<(Ai:Int)^4000):Bc (CI (x*y))=true:=DO (AbD (GA hx hy))
theorem zY{a b:AT}(ha:Bc a=true)(hb:Bc b=true)(h:Ae (zi a+zi b)<(Ai:Int)^9000):Bc (EC a b)=true:=by
 have h1:=SM ha hb;unfold EC at h1 ⊢;split
 ·rename_i c;rw[wd c]at h1;unfold Bc;exact Aa h1 rfl
 ·exact DO h
theorem mV(n:Nat):(2:Int)*(Ai:Int)^n<=(Ai:Int)^(n+1):=by
 rw[yp,qd];exact zp (by decide) (zw (AO (b:=Ai) (by decide) n))
theorem cM{x y:Int}(hx:Ae x<(Ai:Int)^8000)(hy:Ae y<(Ai:Int)^8000):Ae (x+y)<(Ai:Int)^9000:=by
 have h2:=mV 8000;have h3:(Ai:Int)^8001<=(Ai:Int)^9000:=AL (by decide) (by decide);have h2:(2:Int)*(Ai:Int)^8000<=(Ai:Int)^8001:=h2;generalize (Ai:Int)^8000=p at*;generalize (Ai:Int)^8001=q at*;generalize (Ai:Int)^9000=r at*;rw[Ah]at*;omega
theorem Vn(a:AT):decide (H3 a<0)=decide (zi a<0):=by
 unfold H3 Sp.Ou;rw[Bool.eq_iff_iff,w5,w5];split
 ·omega
 ·split<;>omega
theorem Xh{n d:AT}(h:Mc n d=true):Bc n=true/\Bc d=true/\zi d≠0:=by
 unfold Mc at h;rw[zd,zd,w5]at h;exact⟨h.1.1,h.1.2,h.2⟩
theorem T59.ok:Ag Bi 59 kC:=by
 refine Cc Jo (fun(a:List UInt8) ha=>?_);have ha:(El (Ay a)&&El (zr a)&&decide (a.length<=5999))=true:=ha;rw[zd,zd,w5]at ha;obtain⟨⟨ra,rb⟩,hl⟩:=ha;refine z8 (T59.An a) (zc (Aa (w4 rfl) (w4 (by omega))) (zk (fun c=>zc ra (zc rfl (zf (yf rfl rfl ?_)))) (fun c=>zc ra (zc rb (zf (yf rfl rfl ?_))))))
 ·have c:Bs a=false:=by simpa using c
  show((Dr (Ay a),Dg (Ay a)),((1:Int),Ca 1))=((Mv a,PH a),(JY a,L0 a));unfold JY L0 AI;rw[c,Nv];rfl
 ·have c:Bs a=true:=by simpa using c
  show((Dr (Ay a),Dg (Ay a)),(Dr (zr a),Dg (zr a)))=((Mv a,PH a),(JY a,L0 a));unfold JY L0 AI;rw[c];rfl
theorem T186.ok:Ag Bi 186 cIQ:=by
 refine Cc Jo (fun(i:(Int×List Int)×(Int×List Int)) hi=>?_);obtain⟨a,b⟩:=i;obtain⟨ha,hb,h0⟩:=Xh (n:=a) (d:=b) hi;refine z8 (T186.An a b) (zc (B2 hb).1 ?_);rw[Vn];refine zk (fun c=>zc (B2 ha).1 (zc (B2 hb).1 (zj (T186.Au ..) (zc ?_ (zf (yf rfl rfl ?_)))))) (fun c=>zj (T186.Au ..) (zc ?_ (zf (yf rfl rfl ?_))))
 ·have c:zi b<0:=w6 c;have:=Iy b;exact Aa (Aa (TA ha) (TA hb)) (w4 (by show 0<zi (De b);omega))
 ·have c:zi b<0:=w6 c;show Hu (De a) (De b)=Sp.iQ a b;unfold Sp.iQ;rw[wd c]
 ·have c:¬zi b<0:=w7 c;exact Aa (Aa ha hb) (w4 (by show 0<zi b;omega))
 ·have c:¬zi b<0:=w7 c;show Hu a b=Sp.iQ a b;unfold Sp.iQ;rw[wc c]
theorem mU:Ey xG:=Ab T137.ok (Ab T171.ok (Ab T144.ok (Ab T186.ok AU)))
theorem tH{n d:AT}(hd:Bc d=true)(h0:zi d≠0):Bc (Sp.gR n d)=true/\zi (Sp.gR n d)=(qf (zi n) (zi d):Int)/\0<zi (Sp.gR n d):=by
 have e:zi (Sp.gR n d)=(qf (zi n) (zi d):Int):=by
  show zi (CE _,CC _)=_;rw[LK,FA]
 have hp:0<qf (zi n) (zi d):=Int.gcd_pos_of_ne_zero_right _ h0;refine⟨FC (DO ?_),e,by rw[e];omega⟩;rw[FA,Ah,ql];have hb:=bounds hd;rw[Ah]at hb;have hle:qf (zi n) (zi d)<=(zi d).natAbs:=Nat.gcd_le_right _ (by omega);omega
namespace T135
variable {Q:PV->Ob->Prop}
theorem Ao(z1 z2:Int)(n d:AT)(hn:Bc n=true)(hd:Bc d=true)(h0:zi d≠0)(hq:∀ob,Q (.agg [.dat i64 (Ng n d).1.1,.dat (.nlist u64) (Ng n d).1.2,.dat i64 (Ng n d).2.1,.dat (.nlist u64) (Ng n d).2.2]) ob):
  Ends xG (L1 z1 z2 d.1 d.2 n.1 n.2) Q:=by
 obtain⟨g1,_,g3⟩:=tH (n:=n) hd h0;have next:CR d=false->Ends xG (.ite (Bc (n.1,n.2)&&Bc (d.1,d.2)) (L2 (M5 (n.1,n.2) (d.1,d.2)) (ML (n.1,n.2) (d.1,d.2)) z1 z2 d.1 d.2 n.1 n.2) .fail) Q:=by
  intro ho;unfold Ng at hq;rw[wc (by rw[ho];decide)]at hq;have k:∀x:AT,Bc x=true->Mc x (Sp.gR n d)=true:=fun x hx=>by unfold Mc;exact Aa (Aa hx g1) (w4 (by omega))
  exact zc (Aa hn hd) (zj (AV ..) (zc (k n hn) (zc (k d hd) (zf (hq _)))))
 refine zj (Au ..) (zk (fun c=>zk (fun e=>zf ?_) (fun e=>next ?_)) (fun c=>next ?_))
 ·have c:d.2=[]:=by simpa using c
  have e:d.1=1:=by simpa using e
  unfold Ng at hq;rw[wd (by unfold CR;simp[c,e])]at hq;exact hq _
 ·unfold CR;rw[Bool.and_eq_false_iff];right;simpa using e
 ·unfold CR;rw[Bool.and_eq_false_iff];left;have:d.2≠[]:=by rintro k;rw[k]at c;simp at c
  simpa using this
theorem ok:Ag Bi 135 uF:=by
 refine Cc mU (fun(i:(Int×List Int)×(Int×List Int)) hi=>?_);obtain⟨n,d⟩:=i;obtain⟨hn,hd,h0⟩:=Xh (n:=n) (d:=d) hi;have vn:=Iy d;refine z8 (An n d) (zc (B2 hd).1 ?_);rw[Vn];refine zk (fun c=>zc (B2 hn).1 (zc (B2 hd).1 (Ao 0 0 (De n) (De d) (TA hn) (TA hd) (by omega) (fun ob=>yf rfl rfl ?_)))) (fun c=>Ao 0 0 n d hn hd h0 (fun ob=>yf rfl rfl ?_))
 ·have c:zi d<0:=w6 c;show Ng (De n) (De d)=Xs n d;unfold Xs;rw[wd c]
 ·have c:¬zi d<0:=w7 c;show Ng n d=Xs n d;unfold Xs;rw[wc c]
end T135
theorem T145.ok:Ag Bi 145 OC:=by
 refine Cc Jo (fun(a:(Int×List Int)×(Int×List Int)) _=>?_);refine z8 (T145.An a) (zk (fun c=>zf (yf rfl rfl ?_)) (fun c=>zf (yf rfl rfl ?_)))
 ·have c:a.2.2=[]:=by simpa using c
  show(a.2.1==(1:Int))=CR a.2;unfold CR;rw[w4 c,yr];rfl
 ·have c:a.2.2≠[]:=by rintro k;rw[k]at c;simp at c
  show false=CR a.2;unfold CR;rw[w8 c,Bool.false_and]
theorem T130.ok:Ag Bi 130 cT:=by
 refine Cc Jo (fun(a:Int×List Int) _=>?_);exact z8 (T130.An a) (zc rfl (zf (yf rfl rfl rfl)))
theorem T134.ok:Ag Bi 134 tC:=by
 refine Cc Jo (fun(a:(Int×List Int)×(Int×List Int)) h=>?_);exact z8 (T134.An a) (zc h (zf (yf rfl rfl rfl)))
theorem GI{a:Al}(h:ji a=true):Bc a.1=true/\Bc a.2=true/\Ae (zi a.1)<(Ai:Int)^4000/\Ae (zi a.2)<(Ai:Int)^4000/\0<zi a.2:=by
 unfold ji Sp.EZ at h;rw[zd,zd,w5]at h;obtain⟨a1,b1⟩:=I1 h.1.1;obtain⟨a2,b2⟩:=I1 h.1.2;exact⟨a1,a2,b1,b2,h.2⟩
theorem S3:Ey vN:=Ab T145.ok (Ab T130.ok (Ab T146.ok (Ab T136.ok (Ab T135.ok AU))))
theorem Se{n d:AT}(hn:Bc n=true)(hd:Bc d=true)(h0:zi d≠0):Mc n d=true:=by
 unfold Mc;exact Aa (Aa hn hd) (w4 h0)
theorem Nk{a b:AT}(ha:Ae (zi a)<(Ai:Int)^4000)(hb:Ae (zi b)<(Ai:Int)^4000):Bc (F6 a b)=true:=lN ha hb
theorem T64.ok:Ag Bi 64 YL:=by
 refine Cc S3 (fun(i:((Int×List Int)×(Int×List Int))×((Int×List Int)×(Int×List Int))) hi=>?_);obtain⟨a,b⟩:=i;have hi:(ji a&&ji b)=true:=hi;rw[zd]at hi;obtain⟨a1,a2,la1,la2,a0⟩:=GI hi.1;obtain⟨b1,b2,lb1,lb2,b0⟩:=GI hi.2;have hd:zi (F6 a.2 b.2)≠0:=by rw[Ep];exact yd (qn a0 b0)
 exact z8 (T64.An a b) (zc (Aa a1 b1) (zc (Aa a2 b2) (zc (Se (Nk la1 lb1) (Nk la2 lb2) hd) (zf (yf rfl rfl rfl)))))
namespace T71
variable {Q:PV->Ob->Prop}
theorem Ao(z1 z2:Int)(a b:Al)(ha:ji a=true)(hb:ji b=true)(hq:∀ob f,f=Xs (EC (F6 a.1 b.2) (F6 b.1 a.2)) (F6 a.2 b.2)->Q (.agg [.dat i64 f.1.1,.dat (.nlist u64) f.1.2,.dat i64 f.2.1,.dat (.nlist u64) f.2.2]) ob):
  Ends vN (L1 z1 z2 b.1.1 b.1.2 b.2.1 b.2.2 a.1.1 a.1.2 a.2.1 a.2.2) Q:=by
 obtain⟨a1,a2,la1,la2,a0⟩:=GI ha;obtain⟨b1,b2,lb1,lb2,b0⟩:=GI hb;have hd:zi (F6 a.2 b.2)≠0:=by rw[Ep];exact yd (qn a0 b0)
 have hs:Bc (EC (F6 a.1 b.2) (F6 b.1 a.2))=true:=zY (Nk la1 lb2) (Nk lb1 la2) (by rw[Ep,Ep];exact cM (GA la1 lb2) (GA lb1 la2));exact zj (Au ..) (zc (Aa a1 b2) (zc (Aa b1 a2) (zc (Aa (Nk la1 lb2) (Nk lb1 la2)) (zc (Aa a2 b2) (zc (Se hs (Nk la2 lb2) hd) (zf (hq _ _ rfl)))))))
theorem ok:Ag Bi 71 UR:=by
 refine Cc S3 (fun(i:((Int×List Int)×(Int×List Int))×((Int×List Int)×(Int×List Int))) hi=>?_);obtain⟨a,b⟩:=i;have hi:(ji a&&ji b)=true:=hi;rw[zd]at hi;obtain⟨a1,a2,la1,la2,a0⟩:=GI hi.1;obtain⟨b1,b2,lb1,lb2,b0⟩:=GI hi.2;have far:¬(CR a.2=true/\CR b.2=true)->Ends vN (L1 0 0 b.1.1 b.1.2 b.2.1 b.2.2 a.1.1 a.1.2 a.2.1 a.2.2) (Ad UR (a,b)):=fun hn=>
  Ao 0 0 a b hi.1 hi.2 (fun ob f hf=>yf rfl rfl (by
   show f=Ge a b;unfold Ge;rw[wc hn];exact hf))
 refine z8 (An a b) (zc rfl (zk (fun c=>zc rfl (zk (fun d=>zc (Aa a1 b1) (zc rfl (zf (yf rfl rfl ?_)))) (fun d=>far (fun k=>by have:=k.2;rw[show CR b.2=false from d]at this;cases this)))) (fun c=>far (fun k=>by have:=k.1;rw[show CR a.2=false from c]at this;cases this))));show Sp.fWh (EC a.1 b.1)=Ge a b;unfold Ge;rw[wd ⟨c,d⟩]
end T71
theorem T133.ok:Ag Bi 133 tK:=by
 refine Cc S3 (fun(a:(Int×List Int)×(Int×List Int)) hi=>?_);have hi:(ji a&&decide (zi a.1≠0))=true:=hi;rw[zd,w5]at hi;obtain⟨a1,a2,la1,la2,a0⟩:=GI hi.1;exact z8 (T133.An a) (zc (Se a2 a1 hi.2) (zf (yf rfl rfl rfl)))
theorem V8{a:AT}(h:Sp.Dp a=true){k:Nat}(hb:Ae (zi a)<(Ai:Int)^k):a.2.length<=k:=by
 rcases Qb h with⟨h1,_⟩|h1
 ·rw[h1];exact yg _
 ·rw[<-h1];exact JZ (AG _) hb
theorem Gt{a:AT}(h:Sp.Dp a=true)(hb:Ae (zi a)<(Ai:Int)^4000):U0 a=true:=by
 unfold U0;exact Aa h (w4 (V8 h hb))
structure Fv(f:Al)(q:Rat):Prop where
 n:Sp.Dp f.1=true
 d:Sp.Dp f.2=true
 vn:zi f.1=q.num
 vd:zi f.2=(q.den:Int)
def Lj(k:Nat)(q:Rat):Prop:=Ae q.num<(Ai:Int)^k/\(q.den:Int)<(Ai:Int)^k
theorem Fv.den_pos{f:Al}{q:Rat}(h:Fv f q):0<zi f.2:=by
 rw[h.vd];have:=q.den_pos;omega
theorem Fv.BL{f:Al}{q:Rat}(h:Fv f q)(hs:Lj 4000 q):ji f=true:=by
 unfold ji Sp.EZ;have h2:Ae (zi f.2)=(q.den:Int):=by rw[h.vd,Ah,ql]
 exact Aa (Aa (Gt h.n (by rw[h.vn];exact hs.1)) (Gt h.d (by rw[h2];exact hs.2))) (w4 h.den_pos)
theorem WU{x y:Int}:Ae (x/y)<=Ae x:=by
 rw[Ah,Ah];have h1:=Int.natAbs_ediv_le_natAbs x y;omega
theorem yC{a b:AT}(hb:0<zi b):zi (Hu a b)=zi a/zi b:=by
 unfold Hu;generalize hx:zi a=x;generalize zi b=y at hb;have h1:=Int.mul_ediv_add_emod (Ae x) y;have h2:=Int.emod_nonneg (Ae x) (yd hb);have h3:=Int.emod_lt_of_pos (Ae x) hb;split
 ·next c=>
  rw[fY,Cw,EL];obtain⟨c1,c2⟩:=c;symm;rw[qu hb];have e:Ae x= -x:=by rw[Ah];omega
  rw[e]at h1 h2 h3 c2 ⊢;generalize -x/y=q at*;generalize -x % y=r at*;rw[Int.sub_mul,Int.neg_mul,qd q y];generalize y*q=t at*;omega
 ·next c=>
  rw[Cw];unfold Sp.sg;split
  ·next n=>
   have n:x<0:=w6 n;have c2:Ae x % y=0:=qm fun h=>c ⟨n,h⟩
   symm;rw[qu hb];have e:Ae x= -x:=by rw[Ah];omega
   rw[c2]at h1;rw[e]at h1 ⊢;generalize -x/y=q at*;rw[Int.neg_mul,qd q y];generalize y*q=t at*;omega
  ·next n=>
   have n:¬x<0:=fun h=>n (w4 h)
   have e:Ae x=x:=by rw[Ah];omega
   rw[e]
theorem rX{a b:AT}(ha:Bc a=true)(hb:0<zi b):Sp.Dp (Hu a b)=true:=by
 have hab:=bounds ha;have hd:Ae (zi a)/zi b<=Ae (zi a):=Int.ediv_le_self _ (AG _);have hd0:0<=Ae (zi a)/zi b:=Int.ediv_nonneg (AG _) (zw hb);unfold Hu;generalize Ae (zi a)/zi b=q at*;have hq:Ae q<(Ai:Int)^9000:=by
  refine zx ?_ hab;rw[Ah];omega
 split
 ·exact SM (DO (by rw[Iv];exact hq)) (by decide)
 ·refine(Ns (k:=9000) ?_ (by omega)).1;unfold Sp.sg;split
  ·rw[Iv];exact hq
  ·exact hq
theorem sY{a b:AT}(hb:0<zi b):zi (Sp.iQ a b)=zi a/zi b:=by
 unfold Sp.iQ;rw[wc (by omega)];exact yC hb
theorem dH{a b:AT}(ha:Bc a=true)(hb:0<zi b):Sp.Dp (Sp.iQ a b)=true:=by
 unfold Sp.iQ;rw[wc (by omega)];exact rX ha hb
theorem TM{n d:AT}(hn:Bc n=true)(hd:Bc d=true)(h0:0<zi d):Fv (Ng n d) (yj (zi n) (zi d)):=by
 have hs:(zi d).sign=1:=qv h0;have e1:(yj (zi n) (zi d)).num=zi n/(qf (zi n) (zi d):Int):=by
  rw[q9,hs,qy,jo]
 have e2:((yj (zi n) (zi d)).den:Int)=zi d/(qf (zi n) (zi d):Int):=by
  rw[jc,wc (yd h0),jo,Int.natCast_ediv];rw[Int.natAbs_of_nonneg (zw h0)]
 obtain⟨g1,g2,g3⟩:=tH (n:=n) hd (yd h0);unfold Ng;split
 ·next c=>
  unfold CR at c;rw[zd,w5,w5]at c;have e:zi d=1:=by rw[Bp c.1];exact c.2
  refine⟨(B2 hn).1,(B2 hd).1,?_,?_⟩
  ·rw[e1,e,Int.gcd_one];exact(jt _).symm
  ·rw[e2,e,Int.gcd_one];exact(jt _).symm
 ·refine⟨dH hn g3,dH hd g3,?_,?_⟩
  ·rw[sY g3,e1,g2]
  ·rw[sY g3,e2,g2]
theorem Nt{n d:AT}(hn:Bc n=true)(hd:Bc d=true)(h0:zi d≠0):Fv (Xs n d) (yj (zi n) (zi d)):=by
 unfold Xs;split
 ·next c=>
  have h:=TM (TA hn) (TA hd) (by rw[Iy];omega);rw[Iy,Iy]at h;have e:=Rat.divInt_mul_right (n:=zi n) (d:=zi d) (a:= -1) (by decide);rw[Int.mul_neg,qo,Int.mul_neg,qo]at e;rw[e]at h;exact h
 ·exact TM hn hd (by omega)
theorem Lj.Z6{k:Nat}{f:Al}{q:Rat}(h:Fv f q)(hs:Lj k q):Ae (zi f.1)<(Ai:Int)^k/\Ae (zi f.2)<(Ai:Int)^k:=by
 rw[h.vn,h.vd];refine⟨hs.1,?_⟩;rw[Ah,ql];exact hs.2
theorem Fv.zW{f:Al}{q:Rat}(h:Fv f q):yj (zi f.1) (zi f.2)=q:=by
 rw[h.vn,h.vd];exact yw q
theorem Fv.neg{f:Al}{q:Rat}(h:Fv f q)(hs:Lj 4000 q):Fv (xU f) (-q):=by
 have ha:=Lj.Z6 h hs;have hk:=Wi (k:=4000) h.n (by omega) (by omega) (V8 h.n ha.1);exact⟨hk.1,h.d,by show zi (De f.1)=_;rw[Iy,h.vn,Rat.neg_num],by show zi f.2=_;rw[h.vd,Rat.neg_den]⟩
theorem Lj.neg{k:Nat}{q:Rat}(h:Lj k q):Lj k (-q):=by
 unfold Lj;rw[Rat.neg_num,Rat.neg_den,Iv];exact h
theorem Fv.mul{f g:Al}{p q:Rat}(hf:Fv f p)(hg:Fv g q)(sp:Lj 4000 p)(sq:Lj 4000 q):Fv (Ha f g) (p*q):=by
 have a:=Lj.Z6 hf sp;have b:=Lj.Z6 hg sq;have h:=Nt (n:=F6 f.1 g.1) (d:=F6 f.2 g.2) (Nk a.1 b.1) (Nk a.2 b.2) (by rw[Ep];exact yd (qn hf.den_pos hg.den_pos));rw[Ep,Ep, <-Rat.divInt_mul_divInt,hf.zW,hg.zW]at h;exact h
theorem Fv.add{f g:Al}{p q:Rat}(hf:Fv f p)(hg:Fv g q)(sp:Lj 4000 p)(sq:Lj 4000 q):Fv (Ge f g) (p+q):=by
 have a:=Lj.Z6 hf sp;have b:=Lj.Z6 hg sq;have ja:=I1 (Gt hf.n a.1);have jb:=I1 (Gt hg.n b.1);unfold Ge;split
 ·next c=>
  obtain⟨c1,c2⟩:=c;unfold CR at c1 c2;rw[zd,w5,w5]at c1 c2;have e1:(p.den:Int)=1:=by rw[<-hf.vd,Bp c1.1];exact c1.2
  have e2:(q.den:Int)=1:=by rw[<-hg.vd,Bp c2.1];exact c2.2
  have ep:yj p.num 1=p:=by have:=yw p;rw[e1]at this;exact this
  have eq:yj q.num 1=q:=by have:=yw q;rw[e2]at this;exact this
  have es:p+q=yj (p.num+q.num) 1:=by
   have h:=Rat.divInt_add_divInt p.num q.num (d₁:=1) (d₂:=1) (by decide) (by decide);rw[ep,eq,qo,qo,qo]at h;exact h
  refine⟨SM ja.1 jb.1,by show Sp.Dp (1,Ca 1)=true;rw[Nv];rfl,?_,?_⟩
  ·show zi (EC f.1 g.1)=_;rw[WV,hf.vn,hg.vn,es,q9];simp
  ·show zi (1,Ca 1)=_;rw[Nv,Cw,es,jc];simp
 ·have h:=Nt (n:=EC (F6 f.1 g.2) (F6 g.1 f.2)) (d:=F6 f.2 g.2) (zY (Nk a.1 b.2) (Nk b.1 a.2) (by rw[Ep,Ep];exact cM (GA a.1 b.2) (GA b.1 a.2))) (Nk a.2 b.2) (by rw[Ep];exact yd (qn hf.den_pos hg.den_pos));rw[WV,Ep,Ep,Ep, <-Rat.divInt_add_divInt _ _ (yd hf.den_pos) (yd hg.den_pos),hf.zW,hg.zW]at h;exact h
theorem Fv.sub{f g:Al}{p q:Rat}(hf:Fv f p)(hg:Fv g q)(sp:Lj 4000 p)(sq:Lj 4000 q):Fv (Gc f g) (p-q):=by
 rw[Rat.sub_eq_add_neg];exact hf.add (hg.neg sq) sp sq.neg
theorem Fv.inv{f:Al}{p:Rat}(hf:Fv f p)(sp:Lj 4000 p)(h0:p≠0):Fv (Tt f) p⁻¹:=by
 have a:=Lj.Z6 hf sp;have jn:=I1 (Gt hf.n a.1);have jd:=I1 (Gt hf.d a.2);have h:=Nt jd.1 jn.1 (by rw[hf.vn];exact fun h=>h0 (Rat.num_eq_zero.mp h));rw[<-Rat.inv_divInt,hf.zW]at h;exact h
end Go.Pe
namespace Go.Sp
open Go.Lib
theorem NR{P:Nat->List UInt8->Prop}(h1:∀d,d<10->P d [zz (48+d)])(h2:∀a d,0<a->d<10->P a (decDigits a)->P (10*a+d) (decDigits a++[zz (48+d)]))(n:Nat):P n (decDigits n):=by
 induction n using Nat.strongRecOn with
 |_ n ih=>
  by_cases h:n<10
  ·rw[decDigits_one h];exact h1 n h
  ·have e:n=10*(n/10)+n % 10:=by omega
   have:=h2 (n/10) (n % 10) (by omega) (Nat.mod_lt _ (by decide)) (ih (n/10) (by omega));rw[<-FE _ _ (by omega) (Nat.mod_lt _ (by decide)), <-e]at this;exact this
theorem Ka:∀d:Fin 10,(zz (48+d.1)).toNat=48+d.1:=by decide
theorem Kw{d:Nat}(h:d<10):BT (zz (48+d))=true/\HL (zz (48+d))=d:=by
 have e:(zz (48+d)).toNat=48+d:=Ka ⟨d,h⟩;unfold BT HL;rw[e];refine⟨?_,by omega⟩;rw[w4 (by omega),w4 (by omega)];rfl
theorem fV{c:UInt8}(h:BT c=true):c=zz (48+(HL c).toNat)/\(HL c).toNat<10:=by
 obtain⟨h1,h2⟩:=C3 h;have hl:(HL c).toNat<10:=by omega
 refine⟨yc.1 ?_,hl⟩;rw[Ka ⟨(HL c).toNat,hl⟩];show c.toNat=48+(HL c).toNat;unfold HL at*;omega
theorem Wh(n:Nat):decDigits n≠[]:=NR (P:=fun _ l=>l≠[]) (fun _ _=>by simp) (fun _ _ _ _ _=>by simp) n
theorem DP(n:Nat):Aj (decDigits n)=true:=by
 refine NR (P:=fun _ l=>Aj l=true) (fun d h=>?_) (fun a d _ h ih=>?_) n
 ·unfold Aj;rw[z6,(Kw h).1];rfl
 ·unfold Aj at*;rw[List.all_append,ih,z6,(Kw h).1];rfl
theorem HI(n:Nat):AB 0 (decDigits n)=n:=by
 refine NR (P:=fun n l=>AB 0 l=n) (fun d h=>?_) (fun a d _ h ih=>?_) n
 ·show 10*0+HL (zz (48+d))=d;rw[(Kw h).2];omega
 ·rw[CP,ih];show 10*(a:Int)+HL (zz (48+d))=_;rw[(Kw h).2];omega
theorem kM(n:Nat)(h0:0<n):(decDigits n).getD 0 0≠48:=by
 refine NR (P:=fun n l=>0<n->l.getD 0 0≠48) (fun d h h0=>?_) (fun a d ha _ ih _=>?_) n h0
 ·show zz (48+d)≠48;intro e;have:=Ka ⟨d,h⟩;have e2:=wi ya e;rw[show(zz (48+d)).toNat=48+d from this]at e2;have:(48:UInt8).toNat=48:=rfl;omega
 ·have h1:=ih ha;cases hd:decDigits a with
  |nil=>exact wh hd (Wh a)
  |cons c r=>rw[hd]at h1;exact h1
theorem Vj(n:Nat):AR (decDigits n)=true:=by
 unfold AR;rw[DP,w4 (Wh n)];rcases yq n with rfl|h
 ·rw[decDigits_one (by decide)];rfl
 ·rw[w4 (kM n h)];rfl
theorem FO{s:List UInt8}(h:AR s=true):s≠[]/\Aj s=true/\(s.getD 0 0≠48\/s=[48]):=by
 unfold AR at h;rw[zd,zd,w5,Bool.or_eq_true,w5,w5]at h;exact⟨h.1.1,h.1.2,h.2⟩
theorem IU{s:List UInt8}(h:AR s=true)(h0:s≠[48]):0<AB 0 s:=by
 obtain⟨h1,h2,h3⟩:=FO h;cases s with
 |nil=>exact wh rfl h1
 |cons c r=>
  have g0:(c::r).getD 0 0=c:=rfl;rw[g0]at h3;have hc:c≠48:=by
   rcases h3 with x|x
   ·exact x
   ·exact wh x h0
  unfold Aj at h2;rw[z6,zd]at h2;have hd:=C3 h2.1;have hr:Aj r=true:=h2.2;have hb:=Be hr;show 0<AB (10*0+HL c) r;rw[EE];have hp:(0:Int)<10^r.length:=Int.pow_pos (by decide);have hn:c.toNat≠48:=fun x=>hc (yc.1 x)
  have hg:0<10*0+HL c:=by show 0<10*0+((c.toNat:Int)-48);have hd2:0<=((c.toNat:Int)-48):=hd.1;omega
  have:=qn hg hp;omega
theorem PW{s:List UInt8}(h:AR s=true):s=decDigits (AB 0 s).toNat:=by
 generalize hn:s.length=n;induction n generalizing s with
 |zero=>exact wh (yb.1 hn) (FO h).1
 |succ n ih=>
  obtain⟨h1,h2,h3⟩:=FO h;obtain⟨t,c,rfl⟩:∃t c,s=t++[c]:=⟨_,_,(List.dropLast_concat_getLast h1).symm⟩;unfold Aj at h2;rw[List.all_append,zd,z6,zd]at h2;obtain⟨h4,h5,_⟩:=h2;obtain⟨b1,b2⟩:=fV h5;obtain⟨d1,_⟩:=C3 h5;rw[CP];show t++[c]=decDigits (10*AB 0 t+HL c).toNat;by_cases ht:t=[]
  ·subst ht;show[c]=decDigits (10*0+HL c).toNat;rw[show(10*0+HL c).toNat=(HL c).toNat by omega,decDigits_one b2, <-b1]
  ·have g:(t++[c]).getD 0 0=t.getD 0 0:=by
    cases t with
    |nil=>exact wh rfl ht
    |cons x r=>rfl
   have h6:t.getD 0 0≠48:=by
    rcases h3 with x|x
    ·rw[g]at x;exact x
    ·have h7:=wi je x;rw[zl]at h7;have h8:t.length+1=1:=h7;exact wh (yb.1 (by omega)) ht
   have hf:AR t=true:=by
    unfold AR Aj;rw[w4 ht,h4,w4 h6];rfl
   have hp:=IU hf (fun k=>h6 (by rw[k];rfl));have hi:=ih hf (by rw[zl]at hn;simpa using hn);have e:(10*AB 0 t+HL c).toNat=10*(AB 0 t).toNat+(HL c).toNat:=by omega
   rw[e,FE _ _ (by omega) b2, <-hi, <-b1]
theorem yD:∀ {a:List UInt8},(∀c∈a,c≠47)->Ay a=a/\AN a=[]/\Bs a=false:=by
 intro a h;have hc:Bs a=false:=by
  unfold Bs;rw[List.any_eq_false];intro x hx;simpa using h x hx
 exact⟨((Go.Pe.BQ a).2.2 hc).1,((Go.Pe.BQ a).2.2 hc).2,hc⟩
theorem mL:∀ {a:List UInt8} (b:List UInt8),(∀c∈a,c≠47)->Ay (a++47::b)=a/\AN (a++47::b)=b/\Bs (a++47::b)=true:=by
 intro a b h;have hc:Bs (a++47::b)=true:=by
  unfold Bs;rw[List.any_eq_true];exact⟨47,by simp,rfl⟩
 have ha:∀ {a:List UInt8},(∀c∈a,c≠47)->Ay (a++47::b)=a:=by
  intro a;induction a with
  |nil=>intro _;show Ay (47::b)=[];rw[Go.Pe.D7,wd rfl]
  |cons x r ih=>
   intro h;show Ay (x::(r++47::b))=_;rw[Go.Pe.D7,wc (h x (by simp)),ih (fun c hc=>h c (List.mem_cons_of_mem _ hc))]
 have e:=ha h;refine⟨e,?_,hc⟩;rw[((Go.Pe.BQ _).2.1 hc).2,e];simp
theorem Rd{s:List UInt8}(h:Aj s=true):∀c∈s,c≠47:=by
 intro c hc e;unfold Aj at h;rw[y8]at h;have:=h c hc;rw[e]at this;exact wh this (by decide)
theorem Fx{s:List UInt8}(h:Aj s=true):s.getD 0 0≠45:=by
 cases s with
 |nil=>decide
 |cons c r=>
  unfold Aj at h;rw[z6,zd]at h;show c≠45;intro e;rw[e]at h;exact wh h.1 (by decide)
def AW(q:Rat):List UInt8:=if q.den=1 then itoa q.num else itoa q.num++47::decDigits q.den
def Ar(s:List UInt8):Rat:=yj (A8 s) (AI s)
theorem Dm(n:Int):(∀c∈itoa n,c≠47)/\AZ (itoa n)=decDigits n.natAbs/\preB (itoa n)=decide (n<0)/\Ck (itoa n)=n:=by
 unfold itoa;by_cases h:n<0
 ·rw[wd h];refine⟨fun c hc=>?_,rfl,(w4 h).symm,?_⟩
  ·rcases List.mem_cons.1 hc with rfl|hc
   ·decide
   ·exact Rd (DP _) c hc
  ·show -AB 0 (decDigits n.natAbs)=n;rw[HI];omega
 ·rw[wc h];have hm:=Fx (DP n.toNat);have e:n.toNat=n.natAbs:=by omega
  refine⟨Rd (DP _),?_,?_,?_⟩
  ·unfold AZ;rw[wc hm,e]
  ·unfold preB;rw[w8 hm,w8 h]
  ·unfold Ck;rw[wc hm,HI];omega
theorem FG(q:Rat):Ay (AW q)=itoa q.num/\AN (AW q)=(if q.den=1 then[]else decDigits q.den)/\Bs (AW q)=decide (q.den≠1):=by
 unfold AW;have h:=(Dm q.num).1;by_cases hd:q.den=1
 ·rw[wd hd,wd hd,w8 (not_not_intro hd)];exact yD h
 ·rw[wc hd,wc hd,w4 hd];exact mL _ h
theorem Kd(q:Rat):A8 (AW q)=q.num/\AI (AW q)=q.den:=by
 obtain⟨h1,h2,h3⟩:=FG q;unfold A8 AI;rw[h1,h2,h3];refine⟨(Dm q.num).2.2.2,?_⟩;by_cases hd:q.den=1
 ·rw[wc (by simpa using hd),hd];rfl
 ·rw[wd (w4 hd),wc hd];unfold Ck;rw[wc (Fx (DP _)),HI]
theorem Du(q:Rat):Ar (AW q)=q:=by
 unfold Ar;rw[(Kd q).1,(Kd q).2];exact yw q
theorem Z9{p q:Rat}(h:AW p=AW q):p=q:=by
 rw[<-Du p,h,Du]
theorem RE(a:List UInt8):Ay (AZ a)=AZ (Ay a)/\AN (AZ a)=AN a/\Bs (AZ a)=Bs a/\preB (Ay a)=preB a:=by
 unfold AZ preB;cases a with
 |nil=>exact⟨rfl,rfl,rfl,rfl⟩
 |cons c r=>
  have g0:(c::r).getD 0 0=c:=rfl;rw[g0,Go.Pe.D7];by_cases hc:c=45
  ·subst hc;have e:AN (45::r)=AN r:=by
    unfold AN;rw[qh];cases r.findIdx? (fun x=>x==47)<;>rfl
   exact⟨rfl,e.symm,rfl,rfl⟩
  ·rw[wc hc];by_cases h7:c=47
   ·subst h7;exact⟨(Go.Pe.D7 _ _),rfl,rfl,rfl⟩
   ·rw[wc h7];have g1:(c::Ay r).getD 0 0=c:=rfl;rw[g1,wc hc];exact⟨by rw[Go.Pe.D7,wc h7],rfl,rfl,rfl⟩
theorem VH{a:List UInt8}(h:Az a=0):Gi a=true/\(Ay (AZ a)).length<=600/\(AN (AZ a)).length<=600/\(Bs (AZ a)=true->gI (sJ a) (mT a)=1):=by
 unfold Az at h;cases hf:Gi a with
 |false=>rw[wd hf]at h;exact wh h (by decide)
 |true=>
  rw[wc (by rw[hf];decide)]at h;split at h
  ·exact wh h (by decide)
  ·next c=>
   split at h
   ·exact wh h (by decide)
   ·next d=>exact⟨rfl,by omega,by omega,fun k=>qm fun g=>d ⟨k,g⟩⟩
def C0(k:Nat)(q:Rat):Prop:=q.num.natAbs<10^k/\q.den<10^k
theorem Qe{n d:Int}(hd:0<d)(h:qf n d=1):(yj n d).num=n/\((yj n d).den:Int)=d:=by
 have hs:d.sign=1:=qv hd;rw[q9,jc,wc (yd hd),hs,qy,jo,h];refine⟨jt _,?_⟩;rw[Nat.div_one,Int.natAbs_of_nonneg (zw hd)]
theorem On{s:List UInt8}(h:Aj s=true){k:Nat}(hl:s.length<=k):(AB 0 s).toNat<10^k:=by
 have h1:=Be h;have h2:(10:Int)^s.length<=10^k:=AL (by decide) hl;have h3:((10^k:Nat):Int)=(10:Int)^k:=by simp
 omega
theorem Ki(k:Nat)(h:k≠0):(1:Int).toNat<10^k:=Nat.one_lt_pow h (by decide)
theorem lW:decDigits (yt 1)=[49]:=by rw[show yt 1=1 from rfl,decDigits_one (by decide)];rfl
theorem Mg{s:List UInt8}(h:Az s=0):AW (Ar s)=s/\(Ar s).num=A8 s/\((Ar s).den:Int)=AI s/\C0 600 (Ar s):=by
 obtain⟨hf,l1,l2,hg⟩:=VH h;obtain⟨p1,p2,p3,p4⟩:=RE s;unfold Gi at hf;rw[zd,zd]at hf;obtain⟨⟨fa,fm⟩,fb⟩:=hf;unfold sJ mT at hg;obtain⟨A,hA⟩:∃A,A=Ay (AZ s):=⟨_,rfl⟩;obtain⟨B,hB⟩:∃B,B=AN (AZ s):=⟨_,rfl⟩;rw[<-hA]at fa fm l1 hg;rw[<-hB]at fb l2 hg;rw[p3]at fb hg;have dA:=(FO fa).2.1;have ea:=PW fa;have v0:=Be dA;have hn:A8 s=(if preB s=true then -AB 0 A else AB 0 A)/\Ay s=(if preB s=true then 45::A else A):=by
  have e1:A=AZ (Ay s):=by rw[hA,p1]
  unfold A8 Ck;rw[<-p4];unfold preB;rw[e1];unfold AZ;by_cases hc:(Ay s).getD 0 0=45
  ·rw[wd hc,wd (w4 hc),wd hc,wd (w4 hc)];refine⟨rfl,?_⟩;cases hs:Ay s with
   |nil=>rw[hs]at hc;exact wh hc (by decide)
   |cons c r=>
    rw[hs]at hc;have hc:c=45:=hc;rw[hc];rfl
  ·rw[wc hc,wc (by rw[w8 hc];decide),wc hc,wc (by rw[w8 hc];decide)];exact⟨rfl,rfl⟩
 have hna:(A8 s).natAbs=(AB 0 A).toNat:=by rw[hn.1];split<;>omega
 have hd:0<AI s/\(AI s).toNat<10^600/\qf (A8 s) (AI s)=1/\(Bs s=true->B=decDigits (AI s).toNat/\AI s≠1)/\(Bs s=false->AI s=1):=by
  unfold AI;rw[<-p2, <-hB];cases hc:Bs s with
  |false=>
   rw[wc (by decide)];exact⟨by decide,Ki 600 (by decide),Int.gcd_one,(fun k=>by cases k),fun _=>rfl⟩
  |true=>
   rw[hc]at fb;have fb:(AR B&&decide (B≠[48])&&decide (B≠[49]))=true:=fb;rw[zd,zd,w5,w5]at fb;obtain⟨⟨f1,f2⟩,f3⟩:=fb;have dB:=(FO f1).2.1;have hp:=IU f1 f2;have er:Ck B=AB 0 B:=by unfold Ck;rw[wc (Fx dB)]
   rw[wd rfl,er];refine⟨hp,On (k:=600) dB l2,?_,fun _=>⟨PW f1,?_⟩,(fun k=>by cases k)⟩
   ·have g:=hg hc;rw[FA]at g;have g:qf (AB 0 A) (AB 0 B)=1:=by omega
    rw[hn.1];split
    ·rw[Int.neg_gcd];exact g
    ·exact g
   ·intro e;have:=PW f1;rw[e]at this;exact f3 (this.trans lW)
 obtain⟨d0,d1,d2,d3,d4⟩:=hd;obtain⟨r1,r2⟩:=Qe (n:=A8 s) d0 d2;have r1:(Ar s).num=A8 s:=r1;have r2:((Ar s).den:Int)=AI s:=r2;have r3:(Ar s).den=(AI s).toNat:=by omega
 refine⟨?_,r1,r2,?_,?_⟩
 ·have ei:itoa (A8 s)=Ay s:=by
   rw[hn.2];unfold itoa;by_cases hb:preB s=true
   ·have hA0:A≠[48]:=by
     have hb2:preB s=true:=hb;rw[hb2]at fm;simpa using fm
    have:=IU fa hA0;rw[hn.1,wd hb,wd hb,wd (by omega),Int.natAbs_neg];rw[show(AB 0 A).natAbs=(AB 0 A).toNat by omega, <-ea]
   ·rw[hn.1,wc hb,wc hb,wc (by omega), <-ea]
  unfold AW;rw[r1,r3,ei];obtain⟨c1,c2,c3⟩:=Go.Pe.BQ s;cases hc:Bs s with
  |false=>
   rw[d4 hc,wd (show yt 1=1 from rfl)];exact(c3 hc).1
  |true=>
   obtain⟨k1,k2⟩:=d3 hc;obtain⟨m1,m2⟩:=c2 hc;rw[wc (by omega), <-k1,hB,p2,m2];have hx:s.drop (Ay s).length=47::s.drop ((Ay s).length+1):=by
    have h0:∀t:List UInt8,Bs t=true->t.drop (Ay t).length=47::t.drop ((Ay t).length+1):=by
     intro t;induction t with
     |nil=>intro h;cases h
     |cons c r ih=>
      intro h;rw[Go.Pe.D7];by_cases e:c=47
      ·rw[wd e,e];rfl
      ·rw[wc e];have h2:Bs r=true:=by
        unfold Bs at h ⊢;rw[List.any_cons]at h;simpa [e]using h
       exact ih h2
    exact h0 s hc
   rw[<-hx];conv=>lhs;rw[c1]
   have:=yz (Ay s).length s;rw[<-c1]at this ⊢;exact this
 ·rw[r1,hna];exact On (k:=600) dA l1
 ·rw[r3];exact d1
end Go.Sp
namespace Go.Sp
def A1(n:Int):List UInt8:=Lib.itoa n
def OZ(s:List UInt8)(n:Int):List UInt8:=Lib.repeatL s n.toNat
end Go.Sp
namespace Go.Pe
open Go.Det
def eH:Ap:=⟨[i64],fun n=>Sp.CM n,[.str],fun n=>Sp.A1 n,false⟩
def Tx:Ap:=⟨[u64,i64],fun i=>decide (0<=i.1)&&decide (i.1<1000000000000000000)&&decide (i.2=10),[.str],fun i=>Sp.A1 i.1,false⟩
def RA:Ap:=⟨[.str,i64],fun i=>decide (0<=i.2)&&decide (i.2<=1000)&&decide (i.1.length<=1000),[.str],fun i=>Sp.OZ i.1 i.2,false⟩
def yB:Ap:=⟨[BN],fun a=>Sp.Bc a,[.str],fun a=>Sp.A1 (zi a),false⟩
def Ql:A6:=X7 [(220,eH),(189,Pv),(221,Gw),(222,Tx),(223,RA)]
open Sp
section
open List Int Prod
namespace T193
def T(a:Int×List Int):Tr:=tree Ql false 9 193 (Af ([Sh.pair i64 (Sh.nlist (jj y9))]) a)
def L1(v3:Bool)(v4:List Int)(v5n:Nat)(o0:List Int):Tr:=re ((T (0,[])).R.L) (AF 69 [(3,.dat Sh.bool v3),(4,.dat (Sh.list (jj y9)) v4),(5,.sl 0 1 0 v5n none),(6,.nil)] [(0,.arr false 215 (jj y9) o0)] 1)
theorem An(a:Int×List Int):T a=.ite (!decide (0<length (snd a))) (.ite (CM (fst a)) (.leaf (.dat Sh.str (A1 (fst a))) ([(0,.box [.dat i64 (fst a),.dat (Sh.nlist (jj y9)) (snd a)])])) .fail) (.ite (Sp.Dp (fst a,snd a)) (L1 (decide (zi (fst a,snd a)<0)) (Bw (Ae (zi (fst a,snd a)))) 1 ([1000000000000000000])) .fail):=by kernel_rfl
def L2(v3:Bool)(v4:List Int)(v5n v6n:Nat)(o1:List (List UInt8))(o0:List Int):Tr:=re ((stepT Ql (L1 false [] 0 [])).L.L.L.L.L.L.L.L.L) (AF 69 [(3,.dat Sh.bool v3),(4,.dat (Sh.list (jj y9)) v4),(5,.sl 0 1 0 v5n none),(6,.sl 1 1 0 v6n none)] [(1,.arr false 9 Sh.str o1),(0,.arr true 215 (jj y9) o0)] 2)
def L3(v11:Int)(o1:List Int)(o0n:Nat):Tr:=re ((stepT Ql (L1 false [] 0 [])).R.L.L.L) (AF 69 [(6,.nil),(10,.ptr 0 0),(11,.dat i64 v11)] [(1,.arr false 5 (jj IntKind.u8) o1),(0,qq 255 [.ptr 0 0,.sl 1 1 0 o0n none])] 2)
def L4(v11:Int):Tr:=re ((stepT Ql (L1 false [] 0 [])).R.L.R) (AF 69 [(6,.nil),(10,.ptr 0 0),(11,.dat i64 v11)] [(0,qq 255 [.ptr 0 0,.nil])] 1)
def L5(v11:Int):Tr:=re ((stepT Ql (L1 false [] 0 [])).R.R) (AF 69 [(6,.nil),(10,.ptr 0 0),(11,.dat i64 v11)] [(0,qq 255 [PV.nilp,.nil])] 1)
theorem Au(v3:Bool)(v4:List Int)(v5n:Nat)(o0:List Int):stepT Ql (L1 v3 v4 v5n o0)=let a':=Bw (Am v4 % Am (take v5n o0));let b':=Bw (Am v4/Am (take v5n o0));let d':=decide (1<=1)&&decide (0<1)&&decide ((2*1+1000)*16<=281474976710656);let e':=ze .i64 (0-1);let f':=A1 (getD a' 0 0);let c':=18-(↑(length f'):Int);.ite (decide ((length v4:Int)>0)) (.ite (decide (0+v5n<=length o0)&&true&&R0 v4 (take v5n o0)) (.ite (decide ((↑(length a'):Int)>0)) (.ite (decide (0<(↑(length a'):Int))) (.ite (decide ((0:Sh.T u64)<=getD a' 0 0)&&decide (getD a' 0 0<(1000000000000000000:Sh.T u64))&&decide (10=10)) (.ite (decide ((↑(length b'):Int)>0)) (.ite (decide (0<=ze .i64 c')&&decide (ze .i64 c'<=1000)&&decide (1<=1000)) (.ite (decide (length (OZ [(48:UInt8)] (ze .i64 c'))+length f'<=4611686018427387904)) (.ite d' (L2 v3 b' v5n 1 ([OZ [(48:UInt8)] (ze .i64 c')++A1 (getD a' 0 0)]) o0) .fail) .fail) .fail) (.ite d' (L2 v3 b' v5n 1 ([A1 (getD a' 0 0)]) o0) .fail)) .fail) .fail) (.ite (decide ((↑(length b'):Int)>0)) (.ite true (.ite true (.ite true (L2 v3 b' v5n 1 ([OZ [(48:UInt8)] (ze .i64 (18-1))++[(48:UInt8)]]) o0) .fail) .fail) .fail) (.ite true (L2 v3 b' v5n 1 ([[(48:UInt8)]]) o0) .fail))) .fail) (.ite v3 (.ite true (.ite true (L3 e' (yn (fun b=>(↑(ya b):Int)) [(45:UInt8)]) 1) .fail) (L4 e')) (L5 e')):=by kernel_rfl
def L6(v6n:Nat)(v11:Int)(o2:List Int)(o1n:Nat)(o0:List (List UInt8)):Tr:=re ((stepT Ql (L2 false [] 0 0 [] [])).R.L.L.L) (AF 69 [(6,.sl 0 1 0 v6n none),(10,.ptr 1 0),(11,.dat i64 v11)] [(2,.arr false 5 (jj IntKind.u8) o2),(1,qq 255 [.ptr 1 0,.sl 2 1 0 o1n none]),(0,.arr false 9 Sh.str o0)] 3)
def L7(v6n:Nat)(v11:Int)(o0:List (List UInt8)):Tr:=re ((stepT Ql (L2 false [] 0 0 [] [])).R.L.R) (AF 69 [(6,.sl 0 1 0 v6n none),(10,.ptr 1 0),(11,.dat i64 v11)] [(1,qq 255 [.ptr 1 0,.nil]),(0,.arr false 9 Sh.str o0)] 2)
def L8(v6n:Nat)(v11:Int)(o0:List (List UInt8)):Tr:=re ((stepT Ql (L2 false [] 0 0 [] [])).R.R) (AF 69 [(6,.sl 0 1 0 v6n none),(10,.ptr 1 0),(11,.dat i64 v11)] [(1,qq 255 [PV.nilp,.nil]),(0,.arr false 9 Sh.str o0)] 2)
theorem AV(v3:Bool)(v4:List Int)(v5n v6n:Nat)(o1:List (List UInt8))(o0:List Int):stepT Ql (L2 v3 v4 v5n v6n o1 o0)=let a':=Bw (Am v4 % Am (take v5n o0));let b':=Bw (Am v4/Am (take v5n o0));let d':=decide ((2*(v6n+1)+1000)*16<=281474976710656);let e':=ze .i64 ((↑v6n:Int)-1);let f':=decide (v6n=length o1);let g':=qt v6n 1;let h':=decide (1<=1)&&true&&f'&&d';let i':=A1 (getD a' 0 0);let c':=18-(↑(length i'):Int);.ite (decide ((length v4:Int)>0)) (.ite (decide (0+v5n<=length o0)&&true&&R0 v4 (take v5n o0)) (.ite (decide ((↑(length a'):Int)>0)) (.ite (decide (0<(↑(length a'):Int))) (.ite (decide ((0:Sh.T u64)<=getD a' 0 0)&&decide (getD a' 0 0<(1000000000000000000:Sh.T u64))&&decide (10=10)) (.ite (decide ((↑(length b'):Int)>0)) (.ite (decide (0<=ze .i64 c')&&decide (ze .i64 c'<=1000)&&decide (1<=1000)) (.ite (decide (length (OZ [(48:UInt8)] (ze .i64 c'))+length i'<=4611686018427387904)) (.ite h' (L2 v3 b' v5n g' (o1++[OZ [(48:UInt8)] (ze .i64 c')++A1 (getD a' 0 0)]) o0) .fail) .fail) .fail) (.ite h' (L2 v3 b' v5n g' (o1++[A1 (getD a' 0 0)]) o0) .fail)) .fail) .fail) (.ite (decide ((↑(length b'):Int)>0)) (.ite true (.ite true (.ite (f'&&d') (L2 v3 b' v5n g' (o1++[OZ [(48:UInt8)] (ze .i64 (18-1))++[(48:UInt8)]]) o0) .fail) .fail) .fail) (.ite (f'&&d') (L2 v3 b' v5n g' (o1++[[(48:UInt8)]]) o0) .fail))) .fail) (.ite v3 (.ite true (.ite true (L6 v6n e' (yn (fun b=>(↑(ya b):Int)) [(45:UInt8)]) 1 o1) .fail) (L7 v6n e' o1)) (L8 v6n e' o1)):=by kernel_rfl
theorem Fi(v6n:Nat)(v11:Int)(o2:List Int)(o1n:Nat)(o0:List (List UInt8)):stepT Ql (L6 v6n v11 o2 o1n o0)=let a':=getD o0 (toNat v11) [];.ite (decide (v11>=0)) (.ite (decide (0<=v11)&&decide (v11<(↑v6n:Int))) (.ite (decide (toNat v11<length o0)) (.ite (decide (o1n=length o2)&&decide ((2*(o1n+length (yn (fun b=>(↑(ya b):Int)) a'))+1000)*1<=281474976710656)) (L6 v6n (ze .i64 (v11-1)) (o2++yn (fun b=>(↑(ya b):Int)) a') (qt o1n (length (yn (fun b=>(↑(ya b):Int)) a'))) o0) .fail) .fail) .fail) (.ite (decide (0<o1n)) (.ite (decide (0<(↑o1n:Int))&&decide (toNat (↑o1n:Int)<=length o2)&&decide (toNat (↑o1n:Int)<=9223372036854775807)&&List.all o2 fun x=>decide (0<=x)&&decide (x<256)) (.leaf (.dat Sh.str (yn (fun x=>zz (toNat x)) (take (toNat (↑o1n:Int)) o2))) ([(1,qq 255 [.ptr 1 0,.sl 2 1 0 o1n none]),(0,.arr false 9 Sh.str o0)])) .fail) .fail):=by kernel_rfl
theorem HX(v6n:Nat)(v11:Int)(o0:List (List UInt8)):stepT Ql (L8 v6n v11 o0)=let a':=getD o0 (toNat v11) [];let b':=ze .i64 (v11-1);.ite (decide (v11>=0)) (.ite (decide (0<=v11)&&decide (v11<(↑v6n:Int))) (.ite (decide (toNat v11<length o0)) (.ite (decide (0<length (yn (fun b=>(↑(ya b):Int)) a'))) (.ite (decide ((2*length (yn (fun b=>(↑(ya b):Int)) a')+1000)*1<=281474976710656)) (L6 v6n b' (yn (fun b=>(↑(ya b):Int)) a') (length (yn (fun b=>(↑(ya b):Int)) a')) o0) .fail) (L7 v6n b' o0)) .fail) .fail) .fail:=by kernel_rfl
end T193
end
theorem Mk{f:FuncId}{sp:Ap}{q:List V->H->Option (V×H)}(hp:Bi.prim f=none)(hfn:∃i,Bi.fn f=some i)(hq:Bi.spec f=some q)
  (hrun:∀(F:Fz) (h:H) (args:List V) (i:(BG sp.ins).T),Gh h->MF F (Af sp.ins i) args->sp.pre i=true->∃v,q args h=some (v,h)/\PC F (one (Af sp.outs (sp.f i))) v):Ag Bi f sp:=by
 refine .of0 ⟨hp,hfn,fun F h args i hfz hlt hgh hargs hpre=>?_⟩;obtain⟨v,h1,h2⟩:=hrun F h args i hgh hargs hpre;refine⟨[(v,h)],1,fun m hm=>?_,fun _=>⟨_,rfl⟩,fun x hx=>?_⟩
 ·obtain⟨m',rfl⟩:∃m',m=m'+1:=⟨m-1,by omega⟩;rw[Bl];simp only[hq,h1]
 ·cases qk.1 hx;exact⟨yh _,fun _ _=>rfl,hlt,F,fun _ _ h=>h,fun _ _ h=>.inl h,hfz,h2⟩
theorem AaX:∃cs t fz,(5,O.cells cs t fz)∈Ga/\wC cs Lib.pow10Tab=true:=⟨_,_,_,List.mem_cons_self ..,by kernel_rfl⟩
theorem Yp{h:H}(hg:Gh h):RK h=true:=by
 obtain⟨cs,t,fz,h1,h2⟩:=AaX;have h3:=hg _ h1;unfold RK;rw[h3];exact h2
theorem sI:Ag Bi 220 eH:=by
 refine Mk (q:=Ym) (by kernel_rfl) (BD (by kernel_rfl)) rfl fun F h args (n:Int) hg ha hp=>?_
 have hp:Sp.CM n=true:=hp;have ha:args=[.int .i64 n]:=by
  have:=ha (fun _=>none) 0;simp only[Af,eH,Bd]at this;obtain⟨v,vs,rfl,h1,rfl⟩:=this;obtain rfl:=CH h1;rfl
 subst ha;refine⟨.str (Lib.itoa n),?_,fun ρ N=>Kf _⟩;have:=En hp;have c1:decide (-9223372036854775808<=n)=true:=w4 (by omega);have c2:decide (n<=9223372036854775807)=true:=w4 (by omega);simp only[Ym,Yp hg,c1,c2,Bool.and_self,we]
theorem aS:Ag Bi 223 RA:=by
 refine Mk (q:=Si) (by kernel_rfl) (BD (by kernel_rfl)) rfl fun F h args (i:List UInt8×Int) hg ha hp=>?_
 obtain⟨s,n⟩:=i;have hp:(decide (0<=n)&&decide (n<=1000)&&decide (s.length<=1000))=true:=hp;rw[zd,zd,w5,w5,w5]at hp;obtain⟨⟨h0,h1⟩,h2⟩:=hp;obtain⟨c,rfl⟩:=yk h0;have ha:args=[.str s,.int .i64 (c:Int)]:=by
  have:=ha (fun _=>none) 0;simp only[Af,RA,Bd]at this;obtain⟨v,vs,rfl,h3,w,ws,rfl,h4,rfl⟩:=this;obtain rfl:=Fa h3;obtain rfl:=CH h4;rfl
 subst ha;refine⟨.str (Sp.OZ s (c:Int)),?_,fun ρ N=>Kf _⟩;have c1:jz c 9223372036854775807=true:=y7 (by omega);have c2:jz (Ez s*c) 140737488355328=true:=y7 (by
  rw[CZ];have:s.length*c<=1000*1000:=Nat.mul_le_mul h2 (by omega);omega)
 show(bif jz c 9223372036854775807&&jz (Ez s*c) 140737488355328 then some (V.str (Lib.repeatL s c),h)else none)=_;rw[c1,c2];rfl
theorem iW:Ag Bi 222 Tx:=by
 refine Mk (q:=fmtQ) (by kernel_rfl) (BD (by kernel_rfl)) rfl fun F h args (i:Int×Int) hg ha hp=>?_
 obtain⟨u,b⟩:=i;have hp:(decide (0<=u)&&decide (u<1000000000000000000)&&decide (b=10))=true:=hp;rw[zd,zd,w5,w5,w5]at hp;obtain⟨⟨h0,h1⟩,rfl⟩:=hp;obtain⟨c,rfl⟩:=yk h0;have ha:args=[.int .u64 (c:Int),.int .i64 10]:=by
  have:=ha (fun _=>none) 0;simp only[Af,Tx,Bd]at this;obtain⟨v,vs,rfl,h3,w,ws,rfl,h4,rfl⟩:=this;obtain rfl:=CH h3;obtain rfl:=CH h4;rfl
 subst ha;refine⟨.str (Sp.A1 (c:Int)),?_,fun ρ N=>Kf _⟩;have c1:jz c 18446744073709551615=true:=y7 (by omega);have e:Sp.A1 (c:Int)=zu c:=Lib.itoa_nonneg _;rw[e];show(bif RK h&&(jz c 18446744073709551615&&Nat.beq 10 10)then some (V.str (zu c),h)else none)=_;rw[Yp hg,c1];rfl
namespace T193
abbrev lE(s:List UInt8):List Int:=yn (fun b=>(↑(ya b):Int)) s
theorem UM:∀s:List UInt8,yn (fun x:Int=>zz (yt x)) (lE s)=s
 |[]=>rfl
 |b::s=>by
  have:=UM s;simp only[lE,List.map_cons]at this ⊢;rw[this];simp
theorem XD:∀s:List UInt8,(List.all (lE s) fun x=>decide ((0:Int)<=x)&&decide (x<(256:Int)))=true
 |[]=>rfl
 |b::s=>by
  have h1:=XD s;have h2:=b.toNat_lt;simp only[lE,List.map_cons,z6]at h1 ⊢;rw[h1,jg,zd,w5,w5];omega
theorem pU(a b:List UInt8):lE a++lE b=lE (a++b):=by simp[lE]
variable {Q:PV->Ob->Prop}
theorem ET(o0:List (List UInt8))(T:List UInt8)(hT:T.length<=1000000)(hl:o0.length<=1000000)(hq:∀ob,Q (.dat .str T) ob):∀(i:Nat) (acc:List UInt8) (v11:Int) (n:Nat),i<=o0.length->v11=(i:Int)-1->n=acc.length->0<acc.length->acc++(o0.take i).reverse.flatten=T->
  Ends Ql (L6 o0.length v11 (lE acc) n o0) Q
 |0,acc,v11,n,_,hv,hn,h0,he=>by
  have he:acc=T:=by simpa using he
  subst he hn;refine zj (Fi ..) (zn (w8 (by omega)) (zc (w4 h0) (zc (Aa (Aa (Aa (w4 (by omega)) (w4 (by simp))) (w4 (by simp;omega))) (XD acc)) (zf ?_))));have e:yn (fun x:Int=>zz (yt x)) (jf (yt (acc.length:Int)) (lE acc))=acc:=by
   rw[zg,zm (by simp),UM]
  rw[e];exact hq _
 |i+1,acc,v11,n,hi,hv,hn,h0,he=>by
  have hg:List.getD o0 (yt v11) []=o0[i]:=by
   rw[show yt v11=i from by omega];simp[show i<o0.length from hi]
  have hs:acc++o0[i]++(o0.take i).reverse.flatten=T:=by
   have ht:o0.take (i+1)=o0.take i++[o0[i]]:=yy hi;rw[<-he,ht,List.reverse_append,qw,List.singleton_append,List.flatten_cons,List.append_assoc]
  have hlen:=wi je hs;simp only[zl]at hlen;refine zj (Fi ..) (zc (w4 (by omega)) (zc (Aa (w4 (by omega)) (w4 (by omega))) (zc (w4 (by omega)) ?_)));rw[hg];refine zc (Aa (w4 (by simp[hn])) (w4 (by rw[yu];omega))) ?_;rw[pU,wr (v11-1) (by omega) (by omega)];exact ET o0 T hT hl hq i (acc++o0[i]) (v11-1) _ (by omega) (by omega) (by rw[zl,yu,hn];rfl) (by rw[zl];omega) hs
theorem Fl(o0:List (List UInt8))(T:List UInt8)(hT:T.length<=1000000)(hl:o0.length<=1000000)(hq:∀ob,Q (.dat .str T) ob)(i:Nat)(hi:i+1=o0.length)(v11:Int)(hv:v11=(i:Int))(hpos:0<(o0[i]'(by omega)).length)(he:o0.reverse.flatten=T):
  Ends Ql (L8 o0.length v11 o0) Q:=by
 have hi':i<o0.length:=by omega
 have hg:List.getD o0 (yt v11) []=o0[i]:=by
  rw[show yt v11=i from by omega];simp[hi']
 have hs:o0[i]++(o0.take i).reverse.flatten=T:=by
  have ht:o0.take (i+1)=o0.take i++[o0[i]]:=yy hi';rw[hi,zy]at ht;rw[<-he];conv=>rhs;rw[ht]
  rw[List.reverse_append,qw,List.singleton_append,List.flatten_cons]
 have hlen:=wi je hs;simp only[zl]at hlen;refine zj (HX ..) (zc (w4 (by omega)) (zc (Aa (w4 (by omega)) (w4 (by omega))) (zc (w4 (by omega)) ?_)));rw[hg];refine zc (w4 (by rw[yu];exact hpos)) (zc (w4 (by rw[yu];omega)) ?_);rw[wr (v11-1) (by omega) (by omega)];exact ET o0 T hT hl hq i o0[i] (v11-1) _ (by omega) (by omega) (by rw[yu]) hpos hs
end T193
theorem Ui{r:Int}(h0:0<r)(h1:r<18446744073709551616):Bw r=[r]:=by
 have hd:Aw Ai [r]:=by
  intro x hx;rw[qk]at hx;subst hx;exact⟨by omega,h1⟩
 have hn:Sp.nz [r]:=by
  unfold Sp.nz;simp;omega
 have:=Ix (b:=Ai) (by decide) hd hn;have hv:yo Ai [r]=r:=by simp[yo]
 rw[hv]at this;exact this.symm
theorem Ks:Bw 0=[]:=by
 unfold Bw;rfl
theorem P5:Am [1000000000000000000]=1000000000000000000:=by simp[Am,yo]
theorem ZB(n:Nat):OZ [48] (n:Int)=List.replicate n 48:=by
 unfold OZ;rw[zg];induction n with
 |zero=>rfl
 |succ n ih=>rw[Lib.repeatL,ih];rfl
theorem Sr(V:Nat):Am (Bw (V:Int))=(V:Int):=CV (b:=Ai) (by decide) (by omega)
theorem iD{V:Nat}(hV:(V:Int)<(Ai:Int)^9000):R0 (Bw (V:Int)) [1000000000000000000]=true:=by
 obtain⟨n1,n2,n3⟩:=C6 (n:=(V:Int)) (by omega) hV (by omega);have h1:=JZ (n:=(V:Int)) (by omega) hV;unfold R0;refine Aa (Aa (Aa (Aa n1 ?_) (w4 h1)) (w4 (by decide))) (w4 (by rw[P5];decide));decide
theorem TR(V:Nat):Bw (Am (Bw (V:Int))/Am (jf 1 [1000000000000000000]))=Bw ((V/10^18:Nat):Int):=by
 rw[Sr,show jf 1 [(1000000000000000000:Int)]=[1000000000000000000]from rfl,P5];congr 1
theorem U8(V:Nat):Bw (Am (Bw (V:Int)) % Am (jf 1 [1000000000000000000]))=Bw ((V % 10^18:Nat):Int):=by
 rw[Sr,show jf 1 [(1000000000000000000:Int)]=[1000000000000000000]from rfl,P5];congr 1
theorem Jh{V:Nat}(h:0<V):0<(Bw (V:Int)).length:=by
 rcases yq (Bw (V:Int)).length with e|e
 ·have h1:=Sr V;rw[yb.1 e]at h1;have h2:Am []=0:=rfl;rw[h2]at h1;omega
 ·exact e
theorem NA:∀(k u:Nat),u<10^(k+1)->Lib.nDigits u<=k+1
 |0,u,h=>by rw[Lib.nDigits_small (by omega)];omega
 |k+1,u,h=>by
  by_cases c:u<10
  ·rw[Lib.nDigits_small c];omega
  ·rw[Lib.nDigits_big c];have:u/10<10^(k+1):=by rw[Nat.pow_succ]at h;omega
   have:=NA k (u/10) this;omega
theorem RR{r:Nat}(h:r<10^18):(zu r).length<=18:=by
 rw[qc];exact NA 17 r h
theorem MI(r:Nat):A1 (r:Int)=zu r:=Lib.itoa_nonneg r
theorem R3(r:Nat)(h:r<10^18):OZ [48] ((18:Int)-((zu r).length:Int))++zu r=Gd 18 r:=by
 have:=RR h;rw[show(18:Int)-((zu r).length:Int)=((18-(zu r).length:Nat):Int)from by omega,ZB,qc];rfl
structure Small(V:Nat):Prop where
 h:(V:Int)<(Ai:Int)^9000
theorem Small.le{a b:Nat}(h:Small b)(hab:a<=b):Small a:=⟨zx (Int.ofNat_le.mpr hab) h.h⟩
theorem Small.div{V:Nat}(h:Small V):R0 (Bw (V:Int)) [1000000000000000000]=true:=iD h.h
namespace T193
variable {Q:PV->Ob->Prop}
def Exit(neg:Bool)(G:List (List UInt8))(Q:PV->Ob->Prop):Prop:=Ends Ql (.ite neg (.ite true (.ite true (L6 G.length (ze IntKind.i64 ((G.length:Int)-1)) (yn (fun b=>(↑(ya b):Int)) [(45:UInt8)]) 1 G) .fail) (L7 G.length (ze IntKind.i64 ((G.length:Int)-1)) G)) (L8 G.length (ze IntKind.i64 ((G.length:Int)-1)) G)) Q
theorem A4(neg:Bool)(G:List (List UInt8))(hG:G.length<=1000000)(hfin:Exit neg G Q):∀(f V:Nat) (o1:List (List UInt8)),V<f->Small V->o1++(if V=0 then[]else Cm f V)=G->Ends Ql (L2 neg (Bw (V:Int)) 1 o1.length o1 [1000000000000000000]) Q
 |0,V,o1,h,_,_=>by omega
 |f+1,V,o1,h,hV,he=>by
  rcases yq V with h0|h0
  ·subst h0;have he:o1=G:=by simpa using he
   subst he;refine zj (AV ..) (zn (by rw[show((0:Nat):Int)=0 from rfl,Ks];rfl) ?_);exact hfin
  have hlt:V % 10^18<10^18:=Nat.mod_lt _ (by decide);rw[wc (by omega)]at he;have hg:∀s,s=(if V/10^18=0 then zu (V % 10^18)else Gd 18 (V % 10^18))->(o1++[s])++(if V/10^18=0 then[]else Cm f (V/10^18))=G:=by
   rintro s rfl;rw[<-he,List.append_assoc];congr 1;have eg:Cm (f+1) V=if V<10^18 then[zu V]else Gd 18 (V % 10^18)::Cm f (V/10^18):=rfl
   rw[eg];by_cases c:V<10^18
   ·rw[wd c,wd (by omega),wd (by omega),Nat.mod_eq_of_lt c];rfl
   ·rw[wc c,wc (by omega),wc (by omega)];rfl
  have hsz:o1.length+1<=1000000:=by
   have:=wi je (hg _ rfl);simp only[zl,List.length_singleton]at this;omega
  have next:∀s,s=(if V/10^18=0 then zu (V % 10^18)else Gd 18 (V % 10^18))->Ends Ql (L2 neg (Bw ((V/10^18:Nat):Int)) 1 (qt o1.length 1) (o1++[s]) [1000000000000000000]) Q:=by
   intro s hs;have:=A4 neg G hG hfin f (V/10^18) (o1++[s]) (by omega) (hV.le (Nat.div_le_self _ _)) (hg s hs);rw[zl]at this;exact this
  refine zj (AV ..) (zc (w4 (by have:=Jh h0;omega)) (zc (Aa rfl hV.div) ?_));rw[TR,U8];rcases yq (V % 10^18)with r0|r0
  ·have q0:V/10^18≠0:=by omega
   rw[r0,show((0:Nat):Int)=0 from rfl,Ks];refine zn rfl (zc (w4 (by have:=Jh (V:=V/10^18) (by omega);omega)) (zc rfl (zc rfl (zc (Aa (w4 rfl) (w4 (by omega))) (next _ ?_)))));have hp:=R3 0 (by decide);rw[Lib.decDigits_one (by omega)]at hp;rw[wc q0,r0, <-hp];rfl
  ·rw[Ui (r:=((V % 10^18:Nat):Int)) (by omega) (by omega)];have hgd:List.getD [((V % 10^18:Nat):Int)] 0 0=((V % 10^18:Nat):Int):=rfl;rw[hgd,MI];have hd:=RR hlt;have hr18:((V % 10^18:Nat):Int)<1000000000000000000:=by omega
   have h18:0<(zu (V % 10^18)).length:=by
    rw[qc,Lib.nDigits];split<;>omega
   refine zc rfl (zc rfl (zc (Aa (Aa (w4 (Int.natCast_nonneg _)) (w4 hr18)) rfl) ?_));rw[wr _ (by omega) (by omega)];by_cases q0:V/10^18=0
   ·rw[q0];refine zn (by rw[show((0:Nat):Int)=0 from rfl,Ks];rfl) (zc (Aa (Aa rfl (w4 rfl)) (w4 (by omega))) ?_);have:=next _ rfl;rw[wd q0,q0]at this;exact this
   ·have hpad:=R3 _ hlt;refine zc (w4 (by have:=Jh (V:=V/10^18) (by omega);omega)) (zc (Aa (Aa (w4 (by omega)) (w4 (by omega))) rfl) (zc (w4 ?_) (zc (Aa (Aa rfl (w4 rfl)) (w4 (by omega))) (next _ ?_))))
    ·rw[<-zl,hpad];unfold Gd;rw[zl,List.length_replicate];omega
    ·rw[wc q0];exact hpad
end T193
end Go.Pe
