import Derived.Test.YtobmcolckeoejaaGreatDoorX12
import Derived.Lib.Repeat
/- A part of a proof; no law is stated here. -/
noncomputable section
open Bool renaming and_eq_true -> zc, true_and -> z8, or_eq_true -> qd
open Go.Lib renaming decDigits -> zd, itoa -> zm, decDigits_length -> zn, decDigits_one -> z7, itoa_nonneg -> qy, repeatL -> jf, nDigits -> ji
open Go.Pe.Ends renaming tt -> ze, leaf -> zj, eq -> zr, ite -> zx, An -> yt, ff -> qu
open Go.Sp renaming vI -> zf, B4 -> yw, Da -> qp, first -> j0, B8 -> j8
open Go.IntKind renaming wrap -> zg, u64 -> jg, i64 -> jj
open Int renaming natAbs_natCast -> zh, ne_of_gt -> zu, lt_of_lt_of_le -> zw, mul_le_mul_of_nonneg_left -> yc, lt_of_le_of_lt -> yd, natCast_pow -> yi, toNat -> yj, toNat_natCast -> yk, natAbs_mul -> yn, natAbs_ediv_le_natAbs -> yp, eq_ofNat_of_zero_le -> yx, le_of_lt -> yy, mul_one -> qc, gcd -> qf, ofNat_lt -> qh, natAbs_sign_of_ne_zero -> ql, mul_pos -> qn, ediv_eq_iff_of_pos -> qq, sign_eq_one_of_pos -> qt, mul_comm -> jl, gcd_comm -> jm, ediv_one -> jo, ofNat_le -> jz
open List renaming length_append -> zi, length_cons -> zo, length -> zz, length_eq_zero_iff -> ya, map -> yb, mem_singleton -> yf, append_assoc -> ym, length_flatten -> yq, all_cons -> yr, length_map -> yv, take_succ_eq_append_getElem -> y8, take -> qi, mem_cons_self -> qj, flatten_cons -> qo, take_of_length_le -> qv, reverse_singleton -> qw, all -> jt, getD -> j7
open Go.Pe.Sh renaming str -> zk
open Rat renaming num_divInt_den -> zl, divInt -> zq, num_eq_zero -> yu, num_divInt -> yz, den_divInt -> y7, divInt_add_divInt -> y9, num_intCast -> qz, neg_num -> q9, neg_den -> jc
open UInt8 renaming ofNat -> zp, toNat -> zt
open Go.Pe.Ad renaming of -> zy
open Nat renaming le_refl -> z6, eq_zero_or_pos -> ye, lt_of_le_of_lt -> yg, lt_of_lt_of_le -> yh, pow_le_pow_right -> yo, div_le_self -> qe, pow_succ -> qg, mod_lt -> jk
open Classical renaming byContradiction -> qm
open Go.Pe renaming D3 -> je
open Go.Pe.Obj renaming tbox -> jh
variable {Q:Go.Pe.PV->Go.Pe.Ob->Prop}
namespace Go.Pe
open Sp
open Go.Det
theorem GR[Srt]:CL uU:=
 Aa T133.ok (Aa T130.ok<|Aa T169.ok<|Aa T140.ok<|Aa T77n.ok<|Aa T126.ok<|Aa T127.ok<|Aa T76.ok<|Aa T123.ok<|Aa T124.ok AI)
theorem EN{a:AJ}(h:N9 a=true):A9 a=true/\Ah (zf a)<(Ao:Int)^4000:=by
 unfold N9 at h;rw[zc,w5]at h;refine⟨?_,I5 h.1 h.2 af⟩;unfold A9;exact Ac h.1 (w4 ae)
theorem Ly{x y:Int}(c:Ah x<(Ao:Int)^4000)(a:Ah y<(Ao:Int)^4000):Ah (x*y)<(Ao:Int)^8000:=by
 rw[JH];have h0:=AM x;have hp:=Be (b:=Ao) af 4000;have a1:=yc (yy a) h0;have a2:=Int.mul_lt_mul_of_pos_right c hp;have a3:(Ao:Int)^4000*(Ao:Int)^4000=(Ao:Int)^8000:=(Int.pow_add _ 4000 4000).symm;rw[a3]at a2;exact yd a1 a2
theorem AgO{x:Int}(h:x<(Ao:Int)^8000):x<(Ao:Int)^9000:=zw h (AT af af)
theorem T0{x y:Int}(b:Ah x<(Ao:Int)^4000)(a:Ah y<(Ao:Int)^4000):A9 (CR<|x*y)=true:=DM<|AgO<|Ly b a
theorem AfZ{a b:AJ}(e:A9 a=true)(f:A9 b=true)(h:Ah (zf a+zf b)<(Ao:Int)^9000):A9 (Ex a b)=true:=by
 have d:=UK e f;unfold Ex at d ⊢;split
 ·rename_i c;rw[wd c]at d;unfold A9;exact Ac d rfl
 ·exact DM h
theorem yD(n:Nat):(2:Int)*(Ao:Int)^n<=(Ao:Int)^(n+1):=by
 rw[Int.pow_succ,jl];exact yc af (yy<|Be (b:=Ao) af n)
theorem jC{x y:Int}(d:Ah x<(Ao:Int)^8000)(c:Ah y<(Ao:Int)^8000):Ah (x+y)<(Ao:Int)^9000:=by
 have a:=yD 8000;have b:(Ao:Int)^8001<=(Ao:Int)^9000:=AT af af;have a:(2:Int)*(Ao:Int)^8000<=(Ao:Int)^8001:=a;generalize (Ao:Int)^8000=p at*;generalize (Ao:Int)^8001=q at*;generalize (Ao:Int)^9000=r at*;rw[Aj]at*;omega
theorem Vt(a:AJ):decide (It a<0)=decide (zf a<0):=by
 unfold It Sp.N1;rw[Bool.eq_iff_iff,w5,w5];split
 ·omega
 ·split<;>omega
theorem Zy{n d:AJ}(h:I3 n d=true):A9 n=true/\A9 d=true/\zf d≠0:=by
 unfold I3 at h;rw[zc,zc,w5]at h;exact⟨h.1.1,h.1.2,h.2⟩
theorem T66.ok[Srt]:Af A5 66 Jd:=by
 refine BG GR<|fun(a:Rd) b=>?_;have b:(Em (AF a)&&Em (Sp.AV a)&&decide (a.length<=5999))=true:=b;rw[zc,zc,w5]at b;obtain⟨⟨d,e⟩,f⟩:=b;refine zr (T66.Ak a) (ze (Ac (w4 rfl)<|w4 ae)<|zx (fun c=>ze d<|ze rfl (zj<|zy rfl rfl ?_))<|fun c=>ze d<|ze e<|zj<|zy rfl rfl ?_)
 ·have c:BF a=false:=by simpa using c
  show((Di<|AF a,Dk<|AF a),((1:Int),Bo 1))=((Ro a,Rz a),(Pz a,Pk a));unfold Pz Pk AX;rw[c,Oq];rfl
 ·have c:BF a=true:=by simpa using c
  show((Di<|AF a,Dk<|AF a),(Di<|Sp.AV a,Dk<|Sp.AV a))=((Ro a,Rz a),(Pz a,Pk a));unfold Pz Pk AX;rw[c];rfl
theorem T155.ok[Srt]:Af A5 155 cIQ:=by
 refine BG GR<|fun(i:(Int×List Int)×(Int×List Int)) hi=>?_;obtain⟨a,b⟩:=i;obtain⟨ha,hb,h0⟩:=Zy (n:=a) (d:=b) hi;refine zr (T155.Ak a b)<|ze (B5 hb).1 ?_;rw[Vt];refine zx (fun c=>ze (B5 ha).1<|ze (B5 hb).1<|yt (T155.Al ..)<|ze ?_<|zj<|zy rfl rfl ?_)<|fun c=>yt (T155.Al ..)<|ze ?_<|zj<|zy rfl rfl ?_
 ·have c:zf b<0:=w6 c;have:=Jl b;exact Ac (Ac (WK ha)<|WK hb) (w4<|by show 0<zf (Dd b);omega)
 ·have c:zf b<0:=w6 c;show FX (Dd a) (Dd b)=Sp.iQ a b;unfold Sp.iQ;rw[wd c]
 ·have c:¬zf b<0:=w7 c;exact Ac (Ac ha hb) (w4<|by show 0<zf b;omega)
 ·have c:¬zf b<0:=w7 c;show FX a b=Sp.iQ a b;unfold Sp.iQ;rw[wc c]
theorem xI[Srt]:CL XA1:=Aa T133.ok<|Aa T130.ok<|Aa T140.ok<|Aa T155.ok AI
theorem Ab5{n d:AJ}(b:A9 d=true)(h0:zf d≠0):A9 (Sp.gR n d)=true/\zf (Sp.gR n d)=(qf (zf n) (zf d):Int)/\0<zf (Sp.gR n d):=by
 have e:zf (Sp.gR n d)=(qf (zf n) (zf d):Int):=by
  show zf (CP _,CO _)=_;rw[LB,Gk]
 have hp:0<qf (zf n) (zf d):=Int.gcd_pos_of_ne_zero_right _ h0;refine⟨Gs<|DM ?_,e,by rw[e];omega⟩;rw[Gk,Aj,zh];have c:=bounds b;rw[Aj]at c;have a:qf (zf n) (zf d)<=(zf d).natAbs:=Nat.gcd_le_right _ ae;omega
namespace T121
theorem Ar[Srt](g z2:Int)(n d:AJ)(f:A9 n=true)(b:A9 d=true)(h0:zf d≠0)(a:∀ob,Q (.agg [.dat i64 (Of n d).1.1,.dat (.nlist u64) (Of n d).1.2,.dat i64 (Of n d).2.1,.dat (.nlist u64) (Of n d).2.2]) ob):
  Ends XA1 (L1 g z2 d.1 d.2 n.1 n.2) Q:=by
 obtain⟨j,_,l⟩:=Ab5 (n:=n) b h0;have next:CS d=false->Ends XA1 (.ite (A9 (n.1,n.2)&&A9 (d.1,d.2)) (L2 (NJ (n.1,n.2) (d.1,d.2)) (NS (n.1,n.2) (d.1,d.2)) g z2 d.1 d.2 n.1 n.2) .fail) Q:=by
  intro i;unfold Of at a;rw[wc<|by rw[i];decide]at a;have k:∀x:AJ,A9 x=true->I3 x (Sp.gR n d)=true:=fun x h=>by unfold I3;exact Ac (Ac h j) (w4 ae)
  exact ze (Ac f b)<|yt (AL ..)<|ze (k n f)<|ze (k d b)<|zj<|a _
 refine yt (Al ..)<|zx (fun c=>zx (fun e=>zj ?_)<|fun e=>next ?_)<|fun c=>next ?_
 ·have c:d.2=[]:=by simpa using c
  have e:d.1=1:=by simpa using e
  unfold Of at a;rw[wd<|by unfold CS;simp[c,e]]at a;exact a _
 ·unfold CS;rw[Bool.and_eq_false_iff];right;simpa using e
 ·unfold CS;rw[Bool.and_eq_false_iff];left;have:d.2≠[]:=by rintro k;rw[k]at c;simp at c
  simpa using this
theorem ok[Srt]:Af A5 121 bL:=by
 refine BG xI<|fun(i:(Int×List Int)×(Int×List Int)) hi=>?_;obtain⟨n,d⟩:=i;obtain⟨hn,hd,h0⟩:=Zy (n:=n) (d:=d) hi;have vn:=Jl d;refine zr (Ak n d)<|ze (B5 hd).1 ?_;rw[Vt];refine zx (fun c=>ze (B5 hn).1<|ze (B5 hd).1<|Ar 0 0 (Dd n) (Dd d) (WK hn) (WK hd) ae<|fun ob=>zy rfl rfl ?_)<|fun c=>Ar 0 0 n d hn hd h0<|fun ob=>zy rfl rfl ?_
 ·have c:zf d<0:=w6 c;show Of (Dd n) (Dd d)=Sc n d;unfold Sc;rw[wd c]
 ·have c:¬zf d<0:=w7 c;show Of n d=Sc n d;unfold Sc;rw[wc c]
end T121
theorem T125.ok[Srt]:Af A5 125 QC:=by
 refine BG GR<|fun(a:(Int×List Int)×(Int×List Int)) _=>?_;refine zr (T125.Ak a)<|zx (fun c=>zj<|zy rfl rfl ?_)<|fun c=>zj<|zy rfl rfl ?_
 ·have c:a.2.2=[]:=by simpa using c
  show(a.2.1==(1:Int))=CS a.2;unfold CS;rw[w4 c,z8];rfl
 ·have c:a.2.2≠[]:=by rintro k;rw[k]at c;simp at c
  show false=CS a.2;unfold CS;rw[w8 c,Bool.false_and]
theorem T119.ok[Srt]:Af A5 119 oL:=by
 refine BG GR<|fun(a:Int×List Int) _=>?_;exact zr (T119.Ak a)<|ze rfl (zj<|zy rfl rfl rfl)
theorem T120.ok[Srt]:Af A5 120 AbE:=by
 refine BG GR<|fun(a:(Int×List Int)×(Int×List Int)) h=>?_;exact zr (T120.Ak a)<|ze h<|zj<|zy rfl rfl rfl
theorem T81.ok[Srt]:Af A5 81 Qt:=by
 refine BG GR<|fun(i:((Int×List Int)×(Int×List Int))×((Int×List Int)×(Int×List Int))) c=>?_;obtain⟨a,b⟩:=i;have c:((N9 a.1&&N9 a.2)&&(N9 b.1&&N9 b.2))=true:=c;rw[zc,zc,zc]at c;obtain⟨⟨a1,a2⟩,b1,b2⟩:=c;obtain⟨a1,la1⟩:=EN a1;obtain⟨a2,la2⟩:=EN a2;obtain⟨b1,lb1⟩:=EN b1;obtain⟨b2,lb2⟩:=EN b2;refine zr (T81.Ak a b)<|ze (Ac a1 b2)<|ze (Ac b1 a2)<|ze (Ac (T0 la1 lb2)<|T0 lb1 la2)<|zj<|zy rfl rfl ?_;show Cp (zf<|Fp a.1 b.2) (zf<|Fp b.1 a.2)=Cp _ _;rw[DA,DA]
theorem Ga{a:Ab}(h:yw a=true):A9 a.1=true/\A9 a.2=true/\Ah (zf a.1)<(Ao:Int)^4000/\Ah (zf a.2)<(Ao:Int)^4000/\0<zf a.2:=by
 unfold yw j8 at h;rw[zc,zc,w5]at h;obtain⟨a1,b⟩:=EN h.1.1;obtain⟨a2,b2⟩:=EN h.1.2;exact⟨a1,a2,b,b2,h.2⟩
theorem SP[Srt]:CL XA2:=Aa T125.ok<|Aa T119.ok<|Aa T126.ok<|Aa T127.ok<|Aa T121.ok AI
theorem Ul{n d:AJ}(b:A9 n=true)(a:A9 d=true)(h0:zf d≠0):I3 n d=true:=by
 unfold I3;exact Ac (Ac b a)<|w4 h0
theorem N8{a b:AJ}(c:Ah (zf a)<(Ao:Int)^4000)(d:Ah (zf b)<(Ao:Int)^4000):A9 (Fp a b)=true:=T0 c d
theorem T74.ok[Srt]:Af A5 74 Su:=by
 refine BG SP<|fun(i:((Int×List Int)×(Int×List Int))×((Int×List Int)×(Int×List Int))) c=>?_;obtain⟨a,b⟩:=i;have c:(yw a&&yw b)=true:=c;rw[zc]at c;obtain⟨a1,a2,la1,la2,a0⟩:=Ga c.1;obtain⟨b1,b2,lb1,lb2,b0⟩:=Ga c.2;have d:zf (Fp a.2 b.2)≠0:=by rw[DA];exact zu<|qn a0 b0
 exact zr (T74.Ak a b)<|ze (Ac a1 b1)<|ze (Ac a2 b2)<|ze (Ul (N8 la1 lb1) (N8 la2 lb2) d)<|zj<|zy rfl rfl rfl
namespace T67
theorem Ar[Srt](h z2:Int)(a b:Ab)(e:yw a=true)(j:yw b=true)(k:∀ob f,f=Sc (Ex (Fp a.1 b.2)<|Fp b.1 a.2) (Fp a.2 b.2)->Q (.agg [.dat i64 f.1.1,.dat (.nlist u64) f.1.2,.dat i64 f.2.1,.dat (.nlist u64) f.2.2]) ob):
  Ends XA2 (L1 h z2 b.1.1 b.1.2 b.2.1 b.2.2 a.1.1 a.1.2 a.2.1 a.2.2) Q:=by
 obtain⟨a1,a2,d,c,a0⟩:=Ga e;obtain⟨b1,b2,lb1,lb2,b0⟩:=Ga j;have g:zf (Fp a.2 b.2)≠0:=by rw[DA];exact zu<|qn a0 b0
 have i:A9 (Ex (Fp a.1 b.2)<|Fp b.1 a.2)=true:=AfZ (N8 d lb2) (N8 lb1 c) (by rw[DA,DA];exact jC (Ly d lb2)<|Ly lb1 c);exact yt (Al ..)<|ze (Ac a1 b2)<|ze (Ac b1 a2)<|ze (Ac (N8 d lb2)<|N8 lb1 c)<|ze (Ac a2 b2)<|ze (Ul i (N8 c lb2) g)<|zj<|k _ _ rfl
theorem ok[Srt]:Af A5 67 Hz:=by
 refine BG SP<|fun(i:((Int×List Int)×(Int×List Int))×((Int×List Int)×(Int×List Int))) e=>?_;obtain⟨a,b⟩:=i;have e:(yw a&&yw b)=true:=e;rw[zc]at e;obtain⟨a1,a2,la1,la2,a0⟩:=Ga e.1;obtain⟨b1,b2,lb1,lb2,b0⟩:=Ga e.2;have g:¬(CS a.2=true/\CS b.2=true)->Ends XA2 (L1 0 0 b.1.1 b.1.2 b.2.1 b.2.2 a.1.1 a.1.2 a.2.1 a.2.2) (Ad Hz (a,b)):=fun h=>
  Ar 0 0 a b e.1 e.2 (fun ob f j=>zy rfl rfl (by
   show f=BI a b;unfold BI;rw[wc h];exact j))
 refine zr (Ak a b) (ze rfl (zx (fun c=>ze rfl (zx (fun d=>ze (Ac a1 b1)<|ze rfl (zj<|zy rfl rfl ?_))<|fun d=>g (fun k=>by have:=k.2;rw[show CS b.2=false from d]at this;cases this)))<|fun c=>g (fun k=>by have:=k.1;rw[show CS a.2=false from c]at this;cases this)));show Sp.fWh (Ex a.1 b.1)=BI a b;unfold BI;rw[wd ⟨c,d⟩]
end T67
theorem T128.ok[Srt]:Af A5 128 Aci:=by
 refine BG SP<|fun(a:(Int×List Int)×(Int×List Int)) b=>?_;have b:(yw a&&decide (zf a.1≠0))=true:=b;rw[zc,w5]at b;obtain⟨a1,a2,d,c,a0⟩:=Ga b.1;exact zr (T128.Ak a)<|ze (Ul a2 a1 b.2)<|zj<|zy rfl rfl rfl
theorem S0{a:AJ}(h:qp a=true){k:Nat}(b:Ah (zf a)<(Ao:Int)^k):a.2.length<=k:=by
 rcases QX h with⟨h1,_⟩|h1
 ·rw[h1];exact Nat.zero_le _
 ·rw[<-h1];exact KL (AM _) b
theorem GU{a:AJ}(h:qp a=true)(b:Ah (zf a)<(Ao:Int)^4000):N9 a=true:=by
 unfold N9;exact Ac h<|w4<|S0 h b
theorem aS{a:AJ}(h:qp a=true)(b:Ah (zf a)<(Ao:Int)^9000):A9 a=true:=by
 unfold A9;exact Ac h<|w4<|S0 h b
structure EP(f:Ab)(q:Rat):Prop where
 n:qp f.1=true
 d:qp f.2=true
 vn:zf f.1=q.num
 vd:zf f.2=(q.den:Int)
def Lh(k:Nat)(q:Rat):Prop:=Ah q.num<(Ao:Int)^k/\(q.den:Int)<(Ao:Int)^k
theorem EP.den_pos{f:Ab}{q:Rat}(h:EP f q):0<zf f.2:=by
 rw[h.vd];have:=q.den_pos;omega
theorem EP.B4{f:Ab}{q:Rat}(h:EP f q)(a:Lh 4000 q):yw f=true:=by
 unfold yw j8;have b:Ah (zf f.2)=(q.den:Int):=by rw[h.vd,Aj,zh]
 exact Ac (Ac (GU h.n<|by rw[h.vn];exact a.1)<|GU h.d<|by rw[b];exact a.2)<|w4 h.den_pos
theorem Y5{x y:Int}:Ah (x/y)<=Ah x:=by
 rw[Aj,Aj];have a:=yp x y;omega
theorem kZ{a b:AJ}(d:0<zf b):zf (FX a b)=zf a/zf b:=by
 unfold FX;generalize k:zf a=x;generalize zf b=y at d;have f:=Int.mul_ediv_add_emod (Ah x) y;have j:=Int.emod_nonneg (Ah x)<|zu d;have i:=Int.emod_lt_of_pos (Ah x) d;split
 ·next c=>
  rw[lG,Cz,Fm];obtain⟨l,g⟩:=c;symm;rw[qq d];have e:Ah x= -x:=by rw[Aj];omega
  rw[e]at f j i g ⊢;generalize -x/y=q at*;generalize -x % y=r at*;rw[Int.sub_mul,Int.neg_mul,jl q y];generalize y*q=t at*;omega
 ·next c=>
  rw[Cz];unfold Sp.sg;split
  ·next n=>
   have n:x<0:=w6 n;have g:Ah x % y=0:=qm fun h=>c ⟨n,h⟩
   symm;rw[qq d];have e:Ah x= -x:=by rw[Aj];omega
   rw[g]at f;rw[e]at f ⊢;generalize -x/y=q at*;rw[Int.neg_mul,jl q y];generalize y*q=t at*;omega
  ·next n=>
   have n:¬x<0:=fun h=>n<|w4 h
   have e:Ah x=x:=by rw[Aj];omega
   rw[e]
theorem aE{a b:AJ}(e:A9 a=true)(g:0<zf b):qp (FX a b)=true:=by
 have d:=bounds e;have h:Ah (zf a)/zf b<=Ah (zf a):=Int.ediv_le_self _<|AM _;have f:0<=Ah (zf a)/zf b:=Int.ediv_nonneg (AM _)<|yy g;unfold FX;generalize Ah (zf a)/zf b=q at*;have c:Ah q<(Ao:Int)^9000:=by
  refine yd ?_ d;rw[Aj];omega
 split
 ·exact UK (DM<|by rw[Jj];exact c) af
 ·refine(Oo (k:=9000) ?_ ae).1;unfold Sp.sg;split
  ·rw[Jj];exact c
  ·exact c
theorem AbS{a b:AJ}(c:0<zf b):zf (Sp.iQ a b)=zf a/zf b:=by
 unfold Sp.iQ;rw[wc ae];exact kZ c
theorem tB{a b:AJ}(c:A9 a=true)(d:0<zf b):qp (Sp.iQ a b)=true:=by
 unfold Sp.iQ;rw[wc ae];exact aE c d
theorem VN{n d:AJ}(i:A9 n=true)(b:A9 d=true)(h0:0<zf d):EP (Of n d) (zq (zf n)<|zf d):=by
 have j:(zf d).sign=1:=qt h0;have h:(zq (zf n)<|zf d).num=zf n/(qf (zf n) (zf d):Int):=by
  rw[yz,j,Int.one_mul,jm]
 have f:((zq (zf n)<|zf d).den:Int)=zf d/(qf (zf n) (zf d):Int):=by
  rw[y7,wc<|zu h0,jm,Int.natCast_ediv];rw[Int.natAbs_of_nonneg<|yy h0]
 obtain⟨k,g,a⟩:=Ab5 (n:=n) b<|zu h0;unfold Of;split
 ·next c=>
  unfold CS at c;rw[zc,w5,w5]at c;have e:zf d=1:=by rw[Bv c.1];exact c.2
  refine⟨(B5 i).1,(B5 b).1,?_,?_⟩
  ·rw[h,e,Int.gcd_one];exact(jo _).symm
  ·rw[f,e,Int.gcd_one];exact(jo _).symm
 ·refine⟨tB i a,tB b a,?_,?_⟩
  ·rw[AbS a,h,g]
  ·rw[AbS a,f,g]
theorem JV{n d:AJ}(f:A9 n=true)(b:A9 d=true)(h0:zf d≠0):EP (Sc n d) (zq (zf n)<|zf d):=by
 unfold Sc;split
 ·next c=>
  have h:=VN (WK f) (WK b) (by rw[Jl];omega);rw[Jl,Jl]at h;have e:=Rat.divInt_mul_right (n:=zf n) (d:=zf d) (a:= -1) af;rw[Int.mul_neg,qc,Int.mul_neg,qc]at e;rw[e]at h;exact h
 ·exact VN f b ae
theorem Lh.fD{k:Nat}{f:Ab}{q:Rat}(h:EP f q)(a:Lh k q):Ah (zf f.1)<(Ao:Int)^k/\Ah (zf f.2)<(Ao:Int)^k:=by
 rw[h.vn,h.vd];refine⟨a.1,?_⟩;rw[Aj,zh];exact a.2
theorem EP.eqd{f:Ab}{q:Rat}(h:EP f q):zq (zf f.1) (zf f.2)=q:=by
 rw[h.vn,h.vd];exact zl q
theorem EP.neg{f:Ab}{q:Rat}(h:EP f q)(b:Lh 4000 q):EP (AcY f) (-q):=by
 have a:=Lh.fD h b;have c:=YQ (k:=4000) h.n ae ae<|S0 h.n a.1;exact⟨c.1,h.d,by show zf (Dd f.1)=_;rw[Jl,h.vn,q9],by show zf f.2=_;rw[h.vd,jc]⟩
theorem Lh.neg{k:Nat}{q:Rat}(h:Lh k q):Lh k (-q):=by
 unfold Lh;rw[q9,jc,Jj];exact h
theorem EP.mul{f g:Ab}{p q:Rat}(c:EP f p)(e:EP g q)(sp:Lh 4000 p)(i:Lh 4000 q):EP (Fq f g) (p*q):=by
 have a:=Lh.fD c sp;have b:=Lh.fD e i;have h:=JV (n:=Fp f.1 g.1) (d:=Fp f.2 g.2) (N8 a.1 b.1) (N8 a.2 b.2) (by rw[DA];exact zu<|qn c.den_pos e.den_pos);rw[DA,DA, <-Rat.divInt_mul_divInt,c.eqd,e.eqd]at h;exact h
theorem EP.add{f g:Ab}{p q:Rat}(e:EP f p)(i:EP g q)(sp:Lh 4000 p)(l:Lh 4000 q):EP (BI f g) (p+q):=by
 have a:=Lh.fD e sp;have b:=Lh.fD i l;have m:=EN<|GU e.n a.1;have r:=EN<|GU i.n b.1;unfold BI;split
 ·next c=>
  obtain⟨j,k⟩:=c;unfold CS at j k;rw[zc,w5,w5]at j k;have t:(p.den:Int)=1:=by rw[<-e.vd,Bv j.1];exact j.2
  have o:(q.den:Int)=1:=by rw[<-i.vd,Bv k.1];exact k.2
  have s:zq p.num 1=p:=by have:=zl p;rw[t]at this;exact this
  have eq:zq q.num 1=q:=by have:=zl q;rw[o]at this;exact this
  have es:p+q=zq (p.num+q.num) 1:=by
   have h:=y9 p.num q.num (d₁:=1) (d₂:=1) af af;rw[s,eq,qc,qc,qc]at h;exact h
  refine⟨UK m.1 r.1,by show qp (1,Bo 1)=true;rw[Oq];rfl,?_,?_⟩
  ·show zf (Ex f.1 g.1)=_;rw[XC,e.vn,i.vn,es,yz];simp
  ·show zf (1,Bo 1)=_;rw[Oq,Cz,es,y7];simp
 ·have h:=JV (n:=Ex (Fp f.1 g.2)<|Fp g.1 f.2) (d:=Fp f.2 g.2) (AfZ (N8 a.1 b.2) (N8 b.1 a.2)<|by rw[DA,DA];exact jC (Ly a.1 b.2)<|Ly b.1 a.2) (N8 a.2 b.2) (by rw[DA];exact zu<|qn e.den_pos i.den_pos);rw[XC,DA,DA,DA, <-y9 _ _ (zu e.den_pos) (zu i.den_pos),e.eqd,i.eqd]at h;exact h
theorem EP.sub{f g:Ab}{p q:Rat}(c:EP f p)(b:EP g q)(sp:Lh 4000 p)(a:Lh 4000 q):EP (E9 f g) (p-q):=by
 rw[Rat.sub_eq_add_neg];exact c.add (b.neg a) sp a.neg
theorem EP.inv{f:Ab}{p:Rat}(b:EP f p)(sp:Lh 4000 p)(h0:p≠0):EP (VQ f) p⁻¹:=by
 have a:=Lh.fD b sp;have e:=EN<|GU b.n a.1;have c:=EN<|GU b.d a.2;have h:=JV c.1 e.1 (by rw[b.vn];exact fun h=>h0<|yu.mp h);rw[<-Rat.inv_divInt,b.eqd]at h;exact h
end Go.Pe
namespace Go.Sp
open Go.Lib
theorem OM{P:Nat->Rd->Prop}(c:∀d,d<10->P d [zp<|48+d])(f:∀a d,0<a->d<10->P a (decDigits a)->P (10*a+d) (decDigits a++[zp<|48+d]))(n:Nat):P n (decDigits n):=by
 induction n using Nat.strongRecOn with
 |_ n b=>
  by_cases h:n<10
  ·rw[decDigits_one h];exact c n h
  ·have e:n=10*(n/10)+n % 10:=ae
   have:=f (n/10) (n % 10) ae (jk _ af) (b (n/10) ae);rw[<-Gf _ _ ae (jk _ af), <-e]at this;exact this
theorem KJ:∀d:Fin 10,(zp<|48+d.1).toNat=48+d.1:=af
theorem La{d:Nat}(h:d<10):BN (zp<|48+d)=true/\KY (zp<|48+d)=d:=by
 have e:(zp<|48+d).toNat=48+d:=KJ ⟨d,h⟩;unfold BN KY;rw[e];refine⟨?_,by omega⟩;rw[w4 ae,w4 ae];rfl
theorem nU{c:UInt8}(h:BN c=true):c=zp (48+(KY c).toNat)/\(KY c).toNat<10:=by
 obtain⟨b,d⟩:=Fa h;have a:(KY c).toNat<10:=ae
 refine⟨UInt8.toNat_inj.1 ?_,a⟩;rw[KJ ⟨(KY c).toNat,a⟩];show c.toNat=48+(KY c).toNat;unfold KY at*;omega
theorem Uv(n:Nat):decDigits n≠[]:=OM (P:=fun _ l=>l≠[]) (fun _ _=>by simp) (fun _ _ _ _ _=>by simp) n
theorem DP(n:Nat):Ap (decDigits n)=true:=by
 refine OM (P:=fun _ l=>Ap l=true) (fun d h=>?_) (fun a d _ h b=>?_) n
 ·unfold Ap;rw[yr,(La h).1];rfl
 ·unfold Ap at*;rw[List.all_append,b,yr,(La h).1];rfl
theorem Ii(n:Nat):AG 0 (decDigits n)=n:=by
 refine OM (P:=fun n l=>AG 0 l=n) (fun d h=>?_) (fun a d _ h b=>?_) n
 ·show 10*0+KY (zp<|48+d)=d;rw[(La h).2];omega
 ·rw[CU,b];show 10*(a:Int)+KY (zp<|48+d)=_;rw[(La h).2];omega
theorem kS(n:Nat)(h0:0<n):(decDigits n).getD 0 0≠48:=by
 refine OM (P:=fun n l=>0<n->l.getD 0 0≠48) (fun d h h0=>?_) (fun a d g _ i _=>?_) n h0
 ·show zp (48+d)≠48;intro e;have:=KJ ⟨d,h⟩;have j:=wi zt e;rw[show(zp<|48+d).toNat=48+d from this]at j;have:(48:UInt8).toNat=48:=rfl;omega
 ·have b:=i g;cases f:decDigits a with
  |nil=>exact wh f<|Uv a
  |cons c r=>rw[f]at b;exact b
theorem Xi(n:Nat):AY (decDigits n)=true:=by
 unfold AY;rw[DP,w4<|Uv n];rcases ye n with rfl|h
 ·rw[decDigits_one af];rfl
 ·rw[w4<|kS n h];rfl
theorem FY{s:Rd}(h:AY s=true):s≠[]/\Ap s=true/\(s.getD 0 0≠48\/s=[48]):=by
 unfold AY at h;rw[zc,zc,w5,qd,w5,w5]at h;exact⟨h.1.1,h.1.2,h.2⟩
theorem Ji{s:Rd}(h:AY s=true)(h0:s≠[48]):0<AG 0 s:=by
 obtain⟨e,a,b⟩:=FY h;cases s with
 |nil=>exact wh rfl e
 |cons c r=>
  have g:(c::r).getD 0 0=c:=rfl;rw[g]at b;have f:c≠48:=by
   rcases b with x|x
   ·exact x
   ·exact wh x h0
  unfold Ap at a;rw[yr,zc]at a;have d:=Fa a.1;have hr:Ap r=true:=a.2;have l:=Bf hr;show 0<AG (10*0+KY c) r;rw[EK];have hp:(0:Int)<10^r.length:=Int.pow_pos af;have k:c.toNat≠48:=fun x=>f<|UInt8.toNat_inj.1 x
  have j:0<10*0+KY c:=by show 0<10*0+((c.toNat:Int)-48);have i:0<=((c.toNat:Int)-48):=d.1;omega
  have:=qn j hp;omega
theorem PZ{s:Rd}(h:AY s=true):s=decDigits (AG 0 s).toNat:=by
 generalize d:s.length=n;induction n generalizing s with
 |zero=>exact wh (ya.1 d) (FY h).1
 |succ n l=>
  obtain⟨m,b,o⟩:=FY h;obtain⟨t,c,rfl⟩:∃t c,s=t++[c]:=⟨_,_,(List.dropLast_concat_getLast m).symm⟩;unfold Ap at b;rw[List.all_append,zc,yr,zc]at b;obtain⟨h4,h5,_⟩:=b;obtain⟨b1,b2⟩:=nU h5;obtain⟨d1,_⟩:=Fa h5;rw[CU];show t++[c]=decDigits (10*AG 0 t+KY c).toNat;by_cases a:t=[]
  ·subst a;show[c]=decDigits (10*0+KY c).toNat;rw[show(10*0+KY c).toNat=(KY c).toNat by omega,decDigits_one b2, <-b1]
  ·have g:(t++[c]).getD 0 0=t.getD 0 0:=by
    cases t with
    |nil=>exact wh rfl a
    |cons x r=>rfl
   have j:t.getD 0 0≠48:=by
    rcases o with x|x
    ·rw[g]at x;exact x
    ·have i:=wi zz x;rw[zi]at i;have q:t.length+1=1:=i;exact wh (ya.1 ae) a
   have f:AY t=true:=by
    unfold AY Ap;rw[w4 a,h4,w4 j];rfl
   have hp:=Ji f (fun k=>j (by rw[k];rfl));have p:=l f (by rw[zi]at d;simpa using d);have e:(10*AG 0 t+KY c).toNat=10*(AG 0 t).toNat+(KY c).toNat:=ae
   rw[e,Gf _ _ ae b2, <-p, <-b1]
theorem Ado:∀ {a:Rd},(∀c∈a,c≠47)->AF a=a/\AV a=[]/\BF a=false:=by
 intro a h;have b:BF a=false:=by
  unfold BF;rw[List.any_eq_false];intro x d;simpa using h x d
 exact⟨((Go.Pe.BQ a).2.2 b).1,((Go.Pe.BQ a).2.2 b).2,b⟩
theorem zT:∀ {a:Rd} (b:Rd),(∀c∈a,c≠47)->AF (a++47::b)=a/\AV (a++47::b)=b/\BF (a++47::b)=true:=by
 intro a b h;have d:BF (a++47::b)=true:=by
  unfold BF;rw[List.any_eq_true];exact⟨47,by simp,rfl⟩
 have f:∀ {a:Rd},(∀c∈a,c≠47)->AF (a++47::b)=a:=by
  intro a;induction a with
  |nil=>intro _;show AF (47::b)=[];rw[je,wd rfl]
  |cons x r g=>
   intro h;show AF (x::(r++47::b))=_;rw[je,wc (h x (by simp)),g<|fun c d=>h c<|List.mem_cons_of_mem _ d]
 have e:=f h;refine⟨e,?_,d⟩;rw[((Go.Pe.BQ _).2.1 d).2,e];simp
theorem RG{s:Rd}(h:Ap s=true):∀c∈s,c≠47:=by
 intro c a e;unfold Ap at h;rw[List.all_eq_true]at h;have:=h c a;rw[e]at this;exact wh this af
theorem FO{s:Rd}(h:Ap s=true):s.getD 0 0≠45:=by
 cases s with
 |nil=>decide
 |cons c r=>
  unfold Ap at h;rw[yr,zc]at h;show c≠45;intro e;rw[e]at h;exact wh h.1 af
def AQ(q:Rat):Rd:=if q.den=1 then itoa q.num else itoa q.num++47::decDigits q.den
def Au(s:Rd):Rat:=zq (Bi s)<|AX s
theorem CX(n:Int):(∀c∈itoa n,c≠47)/\A2 (itoa n)=decDigits n.natAbs/\preB (itoa n)=decide (n<0)/\Cw (itoa n)=n:=by
 unfold itoa;by_cases h:n<0
 ·rw[wd h];refine⟨fun c a=>?_,rfl,(w4 h).symm,?_⟩
  ·rcases List.mem_cons.1 a with rfl|a
   ·decide
   ·exact RG (DP _) c a
  ·show -AG 0 (decDigits n.natAbs)=n;rw[Ii];omega
 ·rw[wc h];have b:=FO<|DP n.toNat;have e:n.toNat=n.natAbs:=ae
  refine⟨RG<|DP _,?_,?_,?_⟩
  ·unfold A2;rw[wc b,e]
  ·unfold preB;rw[w8 b,w8 h]
  ·unfold Cw;rw[wc b,Ii];omega
theorem E5(q:Rat):AF (AQ q)=itoa q.num/\AV (AQ q)=(if q.den=1 then[]else decDigits q.den)/\BF (AQ q)=decide (q.den≠1):=by
 unfold AQ;have h:=(CX q.num).1;by_cases a:q.den=1
 ·rw[wd a,wd a,w8<|not_not_intro a];exact Ado h
 ·rw[wc a,wc a,w4 a];exact zT _ h
theorem Kx(q:Rat):Bi (AQ q)=q.num/\AX (AQ q)=q.den:=by
 obtain⟨c,d,b⟩:=E5 q;unfold Bi AX;rw[c,d,b];refine⟨(CX q.num).2.2.2,?_⟩;by_cases a:q.den=1
 ·rw[wc (by simpa using a),a];rfl
 ·rw[wd<|w4 a,wc a];unfold Cw;rw[wc<|FO<|DP _,Ii]
theorem CD(q:Rat):Au (AQ q)=q:=by
 unfold Au;rw[(Kx q).1,(Kx q).2];exact zl q
theorem gA{p q:Rat}(h:AQ p=AQ q):p=q:=by
 rw[<-CD p,h,CD]
theorem Tl(a:Rd):AF (A2 a)=A2 (AF a)/\AV (A2 a)=AV a/\BF (A2 a)=BF a/\preB (AF a)=preB a:=by
 unfold A2 preB;cases a with
 |nil=>exact⟨rfl,rfl,rfl,rfl⟩
 |cons c r=>
  have g:(c::r).getD 0 0=c:=rfl;rw[g,je];by_cases b:c=45
  ·subst b;have e:AV (45::r)=AV r:=by
    unfold AV;rw[List.findIdx?_cons];cases r.findIdx? (fun x=>x==47)<;>rfl
   exact⟨rfl,e.symm,rfl,rfl⟩
  ·rw[wc b];by_cases d:c=47
   ·subst d;exact⟨(je _ _),rfl,rfl,rfl⟩
   ·rw[wc d];have f:(c::AF r).getD 0 0=c:=rfl;rw[f,wc b];exact⟨by rw[je,wc d],rfl,rfl,rfl⟩
theorem YU{a:Rd}(h:Av a=0):GH a=true/\(AF<|A2 a).length<=600/\(AV<|A2 a).length<=600/\(BF (A2 a)=true->gI (yE a) (yF a)=1):=by
 unfold Av at h;cases b:GH a with
 |false=>rw[wd b]at h;exact wh h af
 |true=>
  rw[wc<|by rw[b];decide]at h;split at h
  ·exact wh h af
  ·next c=>
   split at h
   ·exact wh h af
   ·next d=>exact⟨rfl,by omega,by omega,fun k=>qm fun g=>d ⟨k,g⟩⟩
def Cu(k:Nat)(q:Rat):Prop:=q.num.natAbs<10^k/\q.den<10^k
theorem O2{n d:Int}(a:0<d)(h:qf n d=1):(zq n d).num=n/\((zq n d).den:Int)=d:=by
 have b:d.sign=1:=qt a;rw[yz,y7,wc<|zu a,b,Int.one_mul,jm,h];refine⟨jo _,?_⟩;rw[Nat.div_one,Int.natAbs_of_nonneg<|yy a]
theorem Qh{s:Rd}(h:Ap s=true){k:Nat}(a:s.length<=k):(AG 0 s).toNat<10^k:=by
 have c:=Bf h;have d:(10:Int)^s.length<=10^k:=AT af a;have b:((10^k:Nat):Int)=(10:Int)^k:=by simp
 omega
theorem Ky(k:Nat)(h:k≠0):(1:Int).toNat<10^k:=Nat.one_lt_pow h af
theorem Aar:decDigits (yj 1)=[49]:=by rw[show yj 1=1 from rfl,decDigits_one af];rfl
theorem Ss{s:Rd}(h:Av s=0):AQ (Au s)=s/\(Au s).num=Bi s/\((Au s).den:Int)=AX s/\Cu 600 (Au s):=by
 obtain⟨p,l1,C,i⟩:=YU h;obtain⟨p1,p2,p3,p4⟩:=Tl s;unfold GH at p;rw[zc,zc]at p;obtain⟨⟨fa,fm⟩,b⟩:=p;unfold yE yF at i;obtain⟨A,hA⟩:∃A,A=AF (A2 s):=⟨_,rfl⟩;obtain⟨B,hB⟩:∃B,B=AV (A2 s):=⟨_,rfl⟩;rw[<-hA]at fa fm l1 i;rw[<-hB]at b C i;rw[p3]at b i;have w:=(FY fa).2.1;have z:=PZ fa;have v0:=Bf w;have f:Bi s=(if preB s=true then -AG 0 A else AG 0 A)/\AF s=(if preB s=true then 45::A else A):=by
  have T:A=A2 (AF s):=by rw[hA,p1]
  unfold Bi Cw;rw[<-p4];unfold preB;rw[T];unfold A2;by_cases a:(AF s).getD 0 0=45
  ·rw[wd a,wd<|w4 a,wd a,wd<|w4 a];refine⟨rfl,?_⟩;cases D:AF s with
   |nil=>rw[D]at a;exact wh a af
   |cons c r=>
    rw[D]at a;have a:c=45:=a;rw[a];rfl
  ·rw[wc a,wc (by rw[w8 a];decide),wc a,wc<|by rw[w8 a];decide];exact⟨rfl,rfl⟩
 have m:(Bi s).natAbs=(AG 0 A).toNat:=by rw[f.1];split<;>omega
 have E:0<AX s/\(AX s).toNat<10^600/\qf (Bi s) (AX s)=1/\(BF s=true->B=decDigits (AX s).toNat/\AX s≠1)/\(BF s=false->AX s=1):=by
  unfold AX;rw[<-p2, <-hB];cases a:BF s with
  |false=>
   rw[wc af];exact⟨by decide,Ky 600 af,Int.gcd_one,(fun k=>by cases k),fun _=>rfl⟩
  |true=>
   rw[a]at b;have b:(AY B&&decide (B≠[48])&&decide (B≠[49]))=true:=b;rw[zc,zc,w5,w5]at b;obtain⟨⟨l,F⟩,S⟩:=b;have v:=(FY l).2.1;have hp:=Ji l F;have R:Cw B=AG 0 B:=by unfold Cw;rw[wc<|FO v]
   rw[wd rfl,R];refine⟨hp,Qh (k:=600) v C,?_,fun _=>⟨PZ l,?_⟩,(fun k=>by cases k)⟩
   ·have g:=i a;rw[Gk]at g;have g:qf (AG 0 A) (AG 0 B)=1:=ae
    rw[f.1];split
    ·rw[Int.neg_gcd];exact g
    ·exact g
   ·intro e;have:=PZ l;rw[e]at this;exact S<|this.trans Aar
 obtain⟨M,K,J,G,V⟩:=E;obtain⟨j,o⟩:=O2 (n:=Bi s) M J;have j:(Au s).num=Bi s:=j;have o:((Au s).den:Int)=AX s:=o;have y:(Au s).den=(AX s).toNat:=ae
 refine⟨?_,j,o,?_,?_⟩
 ·have O:itoa (Bi s)=AF s:=by
   rw[f.2];unfold itoa;by_cases d:preB s=true
   ·have u:A≠[48]:=by
     have q:preB s=true:=d;rw[q]at fm;simpa using fm
    have:=Ji fa u;rw[f.1,wd d,wd d,wd ae,Int.natAbs_neg];rw[show(AG 0 A).natAbs=(AG 0 A).toNat by omega, <-z]
   ·rw[f.1,wc d,wc d,wc ae, <-z]
  unfold AQ;rw[j,y,O];obtain⟨x,H,U⟩:=Go.Pe.BQ s;cases a:BF s with
  |false=>
   rw[V a,wd<|show yj 1=1 from rfl];exact(U a).1
  |true=>
   obtain⟨N,W⟩:=G a;obtain⟨m1,m2⟩:=H a;rw[wc ae, <-N,hB,p2,m2];have I:s.drop (AF s).length=47::s.drop ((AF s).length+1):=by
    have h0:∀t:Rd,BF t=true->t.drop (AF t).length=47::t.drop ((AF t).length+1):=by
     intro t;induction t with
     |nil=>intro h;cases h
     |cons c r L=>
      intro h;rw[je];by_cases e:c=47
      ·rw[wd e,e];rfl
      ·rw[wc e];have P:BF r=true:=by
        unfold BF at h ⊢;rw[List.any_cons]at h;simpa [e]using h
       exact L P
    exact h0 s a
   rw[<-I];conv=>lhs;rw[x]
   have:=List.take_append_drop (AF s).length s;rw[<-x]at this ⊢;exact this
 ·rw[j,m];exact Qh (k:=600) w l1
 ·rw[y];exact K
def AZ(n:Int):Rd:=zm n
def N5(s:Rd)(n:Int):Rd:=jf s n.toNat
end Go.Sp
namespace Go.Pe
open Go.Det
def pC:Am:=⟨[i64],fun n=>Sp.Cv n,[.str],fun n=>Sp.AZ n,false⟩
def Vc:Am:=⟨[u64,i64],fun i=>decide (0<=i.1)&&decide (i.1<1000000000000000000)&&decide (i.2=10),[.str],fun i=>Sp.AZ i.1,false⟩
def Uk:Am:=⟨[.str,i64],fun i=>decide (0<=i.2)&&decide (i.2<=18)&&decide ((i.1:Rd)=[48]),[.str],fun i=>Sp.N5 i.1 i.2,false⟩
def AcT:Am:=⟨[A0],fun a=>Sp.A9 a,[.str],fun a=>Sp.AZ<|zf a,false⟩
def Ru[Srt]:AO:=X7 [(177,pC),(161,P6),(178,GI),(179,Vc),(180,Uk)]
open Sp
section
open List Int Prod
namespace T142
def T[Srt](a:AJ):Tr:=tree Ru false 9 142<|Ag ([A0]) a
def L1[Srt](v3:Bool)(v4:List Int)(a:Nat)(b:List Int):Tr:=re ((T (0,[])).R.L)<|Ay 69 [(3,.dat Sh.bool v3),(4,.dat (Sh.list<|Sh.int jg) v4),(5,.sl 0 1 0 a none),(6,.nil)] [(0,.arr false 185 (Sh.int jg) b)] 1
theorem Ak[Srt](a:AJ):T a=.ite (!decide (0<length (snd a))) (.ck (Cv<|fst a)<|.leaf (.dat zk<|AZ<|fst a) []) (.ck (qp a)<|L1 (decide (zf a<0)) (Bs<|Ah<|zf a) 1<|[1000000000000000000]):=by kernel_rfl
def L2[Srt](v3:Bool)(v4:List Int)(b a:Nat)(o1:List Rd)(c:List Int):Tr:=re ((stepT Ru<|L1 false [] 0 []).L.L.L.L.L.L.L.L.L)<|Ay 69 [(3,.dat Sh.bool v3),(4,.dat (Sh.list<|Sh.int jg) v4),(5,.sl 0 1 0 b none),(6,.sl 1 1 0 a none)] [(1,.arr false 9 zk o1),(0,.arr true 185 (Sh.int jg) c)] 2
def L3[Srt](b:Int)(o1:List Int)(a:Nat):Tr:=re ((stepT Ru<|L1 false [] 0 []).R.L.L.L)<|Ay 69 [(6,.nil),(10,.ptr 0 0),(11,.dat i64 b)] [(1,.arr false 5 (Sh.int IntKind.u8) o1),(0,jh 203 [.ptr 0 0,.sl 1 1 0 a none])] 2
def L4[Srt](a:Int):Tr:=re ((stepT Ru<|L1 false [] 0 []).R.L.R)<|Ay 69 [(6,.nil),(10,.ptr 0 0),(11,.dat i64 a)] [(0,jh 203 [.ptr 0 0,.nil])] 1
def L5[Srt](a:Int):Tr:=re ((stepT Ru<|L1 false [] 0 []).R.R)<|Ay 69 [(6,.nil),(10,.ptr 0 0),(11,.dat i64 a)] [(0,jh 203 [PV.nilp,.nil])] 1
theorem Al[Srt](v3:Bool)(v4:List Int)(a:Nat)(c:List Int):stepT Ru (L1 v3 v4 a c)=let d:=Bs<|As v4 % As (take a c);let b':=Bs<|As v4/As (take a c);let g:=aa 16;let f:=zg .i64<|0-1;let h:=AZ<|getD d 0 0;let e:=18-(↑(length h):Int);.di ((length v4:Int)>0) (.ck (decide (0+a<=length c)&&true&&UC v4 (take a c))<|.di ((↑(length d):Int)>0) (.cd (0<(↑(length d):Int))<|.ck (decide ((0:Sh.T u64)<=getD d 0 0)&&decide (getD d 0 0<(1000000000000000000:Sh.T u64))&&decide (10=10))<|.di ((↑(length b'):Int)>0) (.ck (decide (0<=zg .i64 e)&&decide (zg .i64 e<=18)&&decide ([(48:UInt8)]=[(48:UInt8)]))<|.cd (length (N5 [(48:UInt8)]<|zg .i64 e)+length h<=4611686018427387904)<|.ck g<|L2 v3 b' a 1 ([N5 [(48:UInt8)] (zg .i64 e)++AZ (getD d 0 0)]) c)<|.ck g<|L2 v3 b' a 1 ([AZ<|getD d 0 0]) c)<|.di ((↑(length b'):Int)>0) (.ck true<|.ck true<|.ck true<|L2 v3 b' a 1 ([N5 [(48:UInt8)] (zg .i64<|18-1)++[(48:UInt8)]]) c)<|.ck true<|L2 v3 b' a 1 ([[(48:UInt8)]]) c) (.ite v3 (.ite true (.ck true<|L3 f (yb (fun b=>(↑(zt b):Int)) [(45:UInt8)]) 1)<|L4 f)<|L5 f):=by kernel_rfl
def L6[Srt](a:Nat)(c:Int)(d:List Int)(b:Nat)(e:List Rd):Tr:=re ((stepT Ru<|L2 false [] 0 0 [] []).R.L.L.L)<|Ay 69 [(6,.sl 0 1 0 a none),(10,.ptr 1 0),(11,.dat i64 c)] [(2,.arr false 5 (Sh.int IntKind.u8) d),(1,jh 203 [.ptr 1 0,.sl 2 1 0 b none]),(0,.arr false 9 zk e)] 3
def L7[Srt](a:Nat)(b:Int)(c:List Rd):Tr:=re ((stepT Ru<|L2 false [] 0 0 [] []).R.L.R)<|Ay 69 [(6,.sl 0 1 0 a none),(10,.ptr 1 0),(11,.dat i64 b)] [(1,jh 203 [.ptr 1 0,.nil]),(0,.arr false 9 zk c)] 2
def L8[Srt](a:Nat)(b:Int)(c:List Rd):Tr:=re ((stepT Ru<|L2 false [] 0 0 [] []).R.R)<|Ay 69 [(6,.sl 0 1 0 a none),(10,.ptr 1 0),(11,.dat i64 b)] [(1,jh 203 [PV.nilp,.nil]),(0,.arr false 9 zk c)] 2
theorem AL[Srt](v3:Bool)(v4:List Int)(a c:Nat)(o1:List Rd)(d:List Int):stepT Ru (L2 v3 v4 a c o1 d)=let e:=Bs<|As v4 % As (take a d);let b':=Bs<|As v4/As (take a d);let h:=decide ((3*(c+1)+2000)*16<=562949953421312);let i:=zg .i64<|(↑c:Int)-1;let j:=decide (c=length o1);let f:=Nat.add c 1;let h':=decide (1<=1)&&true&&j&&h;let k:=AZ<|getD e 0 0;let g:=18-(↑(length k):Int);.di ((length v4:Int)>0) (.ck (decide (0+a<=length d)&&true&&UC v4 (take a d))<|.di ((↑(length e):Int)>0) (.cd (0<(↑(length e):Int))<|.ck (decide ((0:Sh.T u64)<=getD e 0 0)&&decide (getD e 0 0<(1000000000000000000:Sh.T u64))&&decide (10=10))<|.di ((↑(length b'):Int)>0) (.ck (decide (0<=zg .i64 g)&&decide (zg .i64 g<=18)&&decide ([(48:UInt8)]=[(48:UInt8)]))<|.cd (length (N5 [(48:UInt8)]<|zg .i64 g)+length k<=4611686018427387904)<|.ck h'<|L2 v3 b' a f (o1++[N5 [(48:UInt8)] (zg .i64 g)++AZ (getD e 0 0)]) d)<|.ck h'<|L2 v3 b' a f (o1++[AZ<|getD e 0 0]) d)<|.di ((↑(length b'):Int)>0) (.ck true<|.ck true<|.ck (j&&h)<|L2 v3 b' a f (o1++[N5 [(48:UInt8)] (zg .i64<|18-1)++[(48:UInt8)]]) d)<|.ck (j&&h)<|L2 v3 b' a f (o1++[[(48:UInt8)]]) d) (.ite v3 (.ite true (.ck true<|L6 c i (yb (fun b=>(↑(zt b):Int)) [(45:UInt8)]) 1 o1)<|L7 c i o1)<|L8 c i o1):=by kernel_rfl
theorem GG[Srt](d:Nat)(c:Int)(e:List Int)(a:Nat)(f:List Rd):stepT Ru (L6 d c e a f)=let g:=getD f (toNat c) [];.di (c>=0) (.ck (decide (0<=c)&&decide (c<(↑d:Int)))<|.cd (toNat c<length f)<|.ck (decide (a=length e)&&decide ((3*(a+length (yb (fun b=>(↑(zt b):Int)) g))+2000)*1<=562949953421312))<|L6 d (zg .i64<|c-1) (e++yb (fun b=>(↑(zt b):Int)) g) (Nat.add a<|length<|yb (fun b=>(↑(zt b):Int)) g) f) (.cd (0<a)<|.ck (decide (0<(↑a:Int))&&decide (toNat (↑a:Int)<=length e)&&decide (toNat (↑a:Int)<=9223372036854775807)&&jt e fun x=>decide (0<=x)&&decide (x<256))<|.leaf (.dat zk<|yb (fun x=>zp<|toNat x)<|take (toNat (↑a:Int)) e) []):=by kernel_rfl
theorem Kg[Srt](c:Nat)(a:Int)(d:List Rd):stepT Ru (L8 c a d)=let e:=getD d (toNat a) [];let b':=zg .i64<|a-1;.cd (a>=0) (.ck (decide (0<=a)&&decide (a<(↑c:Int)))<|.cd (toNat a<length d)<|.di (0<length (yb (fun b=>(↑(zt b):Int)) e)) (.cd ((3*length (yb (fun b=>(↑(zt b):Int)) e)+2000)*1<=562949953421312)<|L6 c b' (yb (fun b=>(↑(zt b):Int)) e) (length<|yb (fun b=>(↑(zt b):Int)) e) d)<|L7 c b' d):=by kernel_rfl
end T142
end
theorem R1[Srt]{f:FuncId}{sp:Am}{q:List V->H->Option (V×H)}(hp:A5.prim f=none)(e:∃i,A5.fn f=some i)(o:A5.spec f=some q)
  (c:∀(F:Fz) (h:H) (args:List V) (i:(BA sp.ins).T),Gh h->KN F (Ag sp.ins i) args->sp.pre i=true->∃v,q args h=some (v,h)/\PC F (one<|Ag sp.outs<|sp.f i) v):Af A5 f sp:=by
 refine .of0 ⟨hp,e,fun F h args i g j d a b=>?_⟩;obtain⟨v,l,p⟩:=c F h args i d a b;refine⟨[(v,h)],1,fun m r=>?_,fun _=>⟨_,rfl⟩,fun x n=>?_⟩
 ·obtain⟨k,rfl⟩:∃k,m=k+1:=⟨m-1,by omega⟩;rw[Ba];simp only[o,l]
 ·cases yf.1 n;exact⟨z6 _,fun _ _=>rfl,j,F,fun _ _ h=>h,fun _ _ h=>.inl h,g,p⟩
theorem Afi:∃cs t fz,(5,O.cells cs t fz)∈Fg/\eqU cs Lib.pow10Tab=true:=⟨_,_,_,qj ..,by kernel_rfl⟩
theorem ZX{h:H}(b:Gh h):UW h=true:=by
 obtain⟨cs,t,fz,c,d⟩:=Afi;have a:=b _ c;unfold UW;rw[a];exact d
theorem AaY[Srt]:Af A5 177 pC:=by
 refine R1 (q:=bP) ag (Bd ag) rfl fun F h args (n:Int) hg a hp=>?_
 have hp:Sp.Cv n=true:=hp;have a:args=[.int .i64 n]:=by
  have:=a (fun _=>none) 0;simp only[Ag,pC,BE]at this;obtain⟨v,vs,rfl,b,rfl⟩:=this;obtain rfl:=CH b;rfl
 subst a;refine⟨.str<|zm n,?_,fun ρ N=>ME _⟩;have:=ET hp;have d:decide (-9223372036854775808<=n)=true:=w4 ae;have c:decide (n<=9223372036854775807)=true:=w4 ae;simp only[bP,ZX hg,d,c,Bool.and_self,we]
theorem gY[Srt]:Af A5 180 Uk:=by
 refine .of0 ⟨by kernel_rfl,Bd ag,fun F h args (i:Rd×Int) hfz hlt hgh a hp=>?_⟩;obtain⟨s,n⟩:=i;have hp:(decide (0<=n)&&decide (n<=18)&&decide (s=[48]))=true:=hp;rw[zc,zc,w5,w5,w5]at hp;obtain⟨⟨h0,h1⟩,rfl⟩:=hp;obtain⟨c,rfl⟩:=yx h0;have a:args=[.str [48],.int .i64 (c:Int)]:=by
  have:=a (fun _=>none) 0;simp only[Ag,Uk,BE]at this;obtain⟨v,vs,rfl,j,w,ws,rfl,g,rfl⟩:=this;obtain rfl:=Fv j;obtain rfl:=CH g;rfl
 subst a;have fl:∀c,List.replicate c 48=jf [48] c:=fun c=>by
  induction c with
  |zero=>rfl
  |succ c d=>rw[jf, <-d];rfl
 refine⟨[(.str<|Sp.N5 [48] (c:Int),h)],1,fun m k=>?_,fun _=>⟨_,rfl⟩,fun x e=>?_⟩
 ·obtain⟨b,rfl⟩:∃b,m=b+1:=⟨m-1,by omega⟩;have f:A5.spec 180=some fun args h=>bif uX h Fg then(match Ff MRp 180 args with|some v=>some (v,h)|none=>none)else none:=rfl
  rw[Ba];simp only[f,qW hgh,we,uE<|show c<19 by omega];unfold Sp.N5;rw[yk,fl]
 ·cases yf.1 e;exact⟨z6 _,fun _ _=>rfl,hlt,F,fun _ _ h=>h,fun _ _ h=>.inl h,hfz,fun ρ N=>ME _⟩
theorem lP[Srt]:Af A5 179 Vc:=by
 refine R1 (q:=fmtQ) ag (Bd ag) rfl fun F h args (i:Int×Int) hg a hp=>?_
 obtain⟨u,b⟩:=i;have hp:(decide (0<=u)&&decide (u<1000000000000000000)&&decide (b=10))=true:=hp;rw[zc,zc,w5,w5,w5]at hp;obtain⟨⟨h0,h1⟩,rfl⟩:=hp;obtain⟨c,rfl⟩:=yx h0;have a:args=[.int .u64 (c:Int),.int .i64 10]:=by
  have:=a (fun _=>none) 0;simp only[Ag,Vc,BE]at this;obtain⟨v,vs,rfl,d,w,ws,rfl,g,rfl⟩:=this;obtain rfl:=CH d;obtain rfl:=CH g;rfl
 subst a;refine⟨.str<|Sp.AZ (c:Int),?_,fun ρ N=>ME _⟩;have f:Nat.ble c 18446744073709551615=true:=Nat.ble_eq_true_of_le ae;have e:Sp.AZ (c:Int)=zd c:=qy _;rw[e];show(bif UW h&&(Nat.ble c 18446744073709551615&&Nat.beq 10 10)then some (V.str<|zd c,h)else none)=_;rw[ZX hg,f];rfl
namespace T142
abbrev uR(s:Rd):List Int:=yb (fun b=>(↑(zt b):Int)) s
theorem Xb:∀s:Rd,yb (fun x:Int=>zp<|yj x) (uR s)=s
 |[]=>rfl
 |b::s=>by
  have:=Xb s;simp only[uR,List.map_cons]at this ⊢;rw[this];simp
theorem ZO:∀s:Rd,(jt (uR s) fun x=>decide ((0:Int)<=x)&&decide (x<(256:Int)))=true
 |[]=>rfl
 |b::s=>by
  have a:=ZO s;have c:=b.toNat_lt;simp only[uR,List.map_cons,yr]at a ⊢;rw[a,Bool.and_true,zc,w5,w5];omega
theorem zO(a b:Rd):uR a++uR b=uR (a++b):=by simp[uR]
theorem EO[Srt](c:List Rd)(T:Rd)(o:T.length<=1000000)(l:c.length<=1000000)(j:∀ob,Q (.dat .str T) ob):∀(i:Nat) (a:Rd) (b:Int) (n:Nat),i<=c.length->b=(i:Int)-1->n=a.length->0<a.length->a++(c.take i).reverse.flatten=T->
  Ends Ru (L6 c.length b (uR a) n c) Q
 |0,a,b,n,_,p,g,h0,f=>by
  have f:a=T:=by simpa using f
  subst f g;refine yt (GG ..) (qu (w8 ae)<|ze (w4 h0)<|ze (Ac (Ac (Ac (w4 ae)<|w4<|by simp)<|w4<|by simp;omega)<|ZO a)<|zj ?_);have e:yb (fun x:Int=>zp<|yj x) (qi (yj (a.length:Int))<|uR a)=a:=by
   rw[yk,qv (by simp),Xb]
  rw[e];exact j _
 |i+1,a,b,n,k,p,g,h0,f=>by
  have q:j7 c (yj b) []=c[i]:=by
   rw[show yj b=i from by omega];simp[show i<c.length from k]
  have h:a++c[i]++(c.take i).reverse.flatten=T:=by
   have m:c.take (i+1)=c.take i++[c[i]]:=y8 k;rw[<-f,m,List.reverse_append,qw,List.singleton_append,qo,ym]
  have d:=wi zz h;simp only[zi]at d;refine yt (GG ..) (ze (w4 ae)<|ze (ad ae ae)<|ze (w4 ae) ?_);rw[q];refine ze (Ac (w4<|by simp[g])<|w4<|by rw[yv];omega) ?_;rw[zO,wr (b-1) ae ae];exact EO c T o l j i (a++c[i]) (b-1) _ ae ae (by rw[zi,yv,g];rfl) (by rw[zi];omega) h
theorem FG[Srt](a:List Rd)(T:Rd)(j:T.length<=1000000)(h:a.length<=1000000)(n:∀ob,Q (.dat .str T) ob)(i:Nat)(l:i+1=a.length)(b:Int)(o:b=(i:Int))(c:0<(a[i]'ae).length)(k:a.reverse.flatten=T):
  Ends Ru (L8 a.length b a) Q:=by
 have d:i<a.length:=ae
 have m:j7 a (yj b) []=a[i]:=by
  rw[show yj b=i from by omega];simp[d]
 have f:a[i]++(a.take i).reverse.flatten=T:=by
  have g:a.take (i+1)=a.take i++[a[i]]:=y8 d;rw[l,List.take_length]at g;rw[<-k];conv=>rhs;rw[g]
  rw[List.reverse_append,qw,List.singleton_append,qo]
 have e:=wi zz f;simp only[zi]at e;refine yt (Kg ..) (ze (w4 ae)<|ze (ad ae ae)<|ze (w4 ae) ?_);rw[m];refine ze (w4<|by rw[yv];exact c) (ze (w4<|by rw[yv];omega) ?_);rw[wr (b-1) ae ae];exact EO a T j h n i a[i] (b-1) _ ae ae (by rw[yv]) c f
end T142
theorem Wd{r:Int}(h0:0<r)(e:r<18446744073709551616):Bs r=[r]:=by
 have d:Az Ao [r]:=by
  intro x a;rw[yf]at a;subst a;exact⟨by omega,e⟩
 have c:Sp.nz [r]:=by
  unfold Sp.nz;simp;omega
 have:=Jt (b:=Ao) af d c;have f:Sp.val Ao [r]=r:=by simp[Sp.val]
 rw[f]at this;exact this.symm
theorem Ln:Bs 0=[]:=by
 unfold Bs;rfl
theorem Qv:As [1000000000000000000]=1000000000000000000:=by simp[As,Sp.val]
theorem eN(n:Nat):N5 [48] (n:Int)=List.replicate n 48:=by
 unfold N5;rw[yk];induction n with
 |zero=>rfl
 |succ n a=>rw[jf,a];rfl
theorem TZ(V:Nat):As (Bs (V:Int))=(V:Int):=C2 (b:=Ao) af ae
theorem rM{V:Nat}(a:(V:Int)<(Ao:Int)^9000):UC (Bs (V:Int)) [1000000000000000000]=true:=by
 obtain⟨n1,c,d⟩:=C5 (n:=(V:Int)) ae a ae;have b:=KL (n:=(V:Int)) ae a;unfold UC;refine Ac (Ac (Ac (Ac n1 ?_)<|w4 b)<|w4 af) (w4<|by rw[Qv];decide);decide
theorem WE(V:Nat):Bs (As (Bs (V:Int))/As (qi 1 [1000000000000000000]))=Bs ((V/10^18:Nat):Int):=by
 rw[TZ,show qi 1 [(1000000000000000000:Int)]=[1000000000000000000]from rfl,Qv];congr 1
theorem VO(V:Nat):Bs (As (Bs (V:Int)) % As (qi 1 [1000000000000000000]))=Bs ((V % 10^18:Nat):Int):=by
 rw[TZ,show qi 1 [(1000000000000000000:Int)]=[1000000000000000000]from rfl,Qv];congr 1
theorem JC{V:Nat}(h:0<V):0<(Bs (V:Int)).length:=by
 rcases ye (Bs (V:Int)).length with e|e
 ·have a:=TZ V;rw[ya.1 e]at a;have b:As []=0:=rfl;rw[b]at a;omega
 ·exact e
theorem ON:∀(k u:Nat),u<10^(k+1)->ji u<=k+1
 |0,u,h=>by rw[Lib.nDigits_small ae];omega
 |k+1,u,h=>by
  by_cases c:u<10
  ·rw[Lib.nDigits_small c];omega
  ·rw[Lib.nDigits_big c];have:u/10<10^(k+1):=by rw[qg]at h;omega
   have:=ON k (u/10) this;omega
theorem Uc{r:Nat}(h:r<10^18):(zd r).length<=18:=by
 rw[zn];exact ON 17 r h
theorem Nt(r:Nat):AZ (r:Int)=zd r:=qy r
theorem UZ(r:Nat)(h:r<10^18):N5 [48] ((18:Int)-((zd r).length:Int))++zd r=Gv 18 r:=by
 have:=Uc h;rw[show(18:Int)-((zd r).length:Int)=((18-(zd r).length:Nat):Int)from by omega,eN,zn];rfl
structure Small(V:Nat):Prop where
 h:(V:Int)<(Ao:Int)^9000
theorem Small.le{a b:Nat}(h:Small b)(c:a<=b):Small a:=⟨yd (jz.mpr c) h.h⟩
theorem Small.div{V:Nat}(h:Small V):UC (Bs (V:Int)) [1000000000000000000]=true:=rM h.h
namespace T142
def Exit[Srt](neg:Bool)(G:List Rd)(Q:PV->Ob->Prop):Prop:=Ends Ru (.ite neg (.ite true (.ite true (L6 G.length (zg jj<|(G.length:Int)-1) (yb (fun b=>(↑(zt b):Int)) [(45:UInt8)]) 1 G) .fail)<|L7 G.length (zg jj<|(G.length:Int)-1) G)<|L8 G.length (zg jj<|(G.length:Int)-1) G) Q
theorem A1[Srt](neg:Bool)(G:List Rd)(hG:G.length<=1000000)(b:Exit neg G Q):∀(f V:Nat) (o1:List Rd),V<f->Small V->o1++(if V=0 then[]else Cq f V)=G->Ends Ru (L2 neg (Bs (V:Int)) 1 o1.length o1 [1000000000000000000]) Q
 |0,V,o1,h,_,_=>by omega
 |f+1,V,o1,h,l,g=>by
  rcases ye V with h0|h0
  ·subst h0;have g:o1=G:=by simpa using g
   subst g;refine yt (AL ..) (qu (by rw[show((0:Nat):Int)=0 from rfl,Ln];rfl) ?_);exact b
  have i:V % 10^18<10^18:=jk _ af;rw[wc ae]at g;have m:∀s,s=(if V/10^18=0 then zd (V % 10^18)else Gv 18<|V % 10^18)->(o1++[s])++(if V/10^18=0 then[]else Cq f<|V/10^18)=G:=by
   rintro s rfl;rw[<-g,ym];congr 1;have n:Cq (f+1) V=if V<10^18 then[zd V]else Gv 18 (V % 10^18)::Cq f (V/10^18):=rfl
   rw[n];by_cases c:V<10^18
   ·rw[wd c,wd ae,wd ae,Nat.mod_eq_of_lt c];rfl
   ·rw[wc c,wc ae,wc ae];rfl
  have o:o1.length+1<=1000000:=by
   have:=wi zz<|m _ rfl;simp only[zi,List.length_singleton]at this;omega
  have next:∀s,s=(if V/10^18=0 then zd (V % 10^18)else Gv 18<|V % 10^18)->Ends Ru (L2 neg (Bs ((V/10^18:Nat):Int)) 1 (Nat.add o1.length 1) (o1++[s]) [1000000000000000000]) Q:=by
   intro s q;have:=A1 neg G hG b f (V/10^18) (o1++[s]) ae (l.le<|qe _ _)<|m s q;rw[zi]at this;exact this
  refine yt (AL ..) (ze (w4 (by have:=JC h0;omega))<|ze (Ac rfl l.div) ?_);rw[WE,VO];rcases ye (V % 10^18)with k|k
  ·have d:V/10^18≠0:=ae
   rw[k,show((0:Nat):Int)=0 from rfl,Ln];refine qu rfl (ze (w4 (by have:=JC (V:=V/10^18) ae;omega))<|ze rfl (ze rfl (ze (Ac (w4 rfl)<|w4 ae)<|next _ ?_)));have hp:=UZ 0 af;rw[z7 ae]at hp;rw[wc d,k, <-hp];rfl
  ·rw[Wd (r:=((V % 10^18:Nat):Int)) ae ae];have j:j7 [((V % 10^18:Nat):Int)] 0 0=((V % 10^18:Nat):Int):=rfl;rw[j,Nt];have t:=Uc i;have e:((V % 10^18:Nat):Int)<1000000000000000000:=ae
   have p:0<(zd<|V % 10^18).length:=by
    rw[zn,ji];split<;>omega
   refine ze rfl (ze rfl (ze (Ac (Ac (w4<|Int.natCast_nonneg _)<|w4 e) rfl) ?_));rw[wr _ ae ae];by_cases d:V/10^18=0
   ·rw[d];refine qu (by rw[show((0:Nat):Int)=0 from rfl,Ln];rfl) (ze (Ac (Ac rfl (w4 rfl))<|w4 ae) ?_);have:=next _ rfl;rw[wd d,d]at this;exact this
   ·have a:=UZ _ i;refine ze (w4 (by have:=JC (V:=V/10^18) ae;omega)) (ze (Ac (ad ae ae) rfl)<|ze (w4 ?_)<|ze (Ac (Ac rfl (w4 rfl))<|w4 ae)<|next _ ?_)
    ·rw[<-zi,a];unfold Gv;rw[zi,List.length_replicate];omega
    ·rw[wc d];exact a
end T142
end Go.Pe
namespace Go.Sp
theorem FM{n d:Int}(a:d≠0):(zq n d).num.natAbs<=n.natAbs/\(zq n d).den<=d.natAbs:=by
 rw[yz,y7,wc a];refine⟨?_,qe _ _⟩;refine Nat.le_trans (yp _ _) ?_;rw[yn,ql a,Nat.one_mul];exact z6 _
theorem HI{n d:Int}{k:Nat}(a:d≠0)(b:n.natAbs<10^k)(c:d.natAbs<10^k):Cu k (zq n d):=
 ⟨yg (FM a).1 b,yg (FM a).2 c⟩
theorem Cu.mono{j k:Nat}{q:Rat}(h:Cu j q)(a:j<=k):Cu k q:=
 ⟨yh h.1 (yo af a),yh h.2<|yo af a⟩
theorem DK{a b i j:Nat}(c:a<10^i)(d:b<10^j):a*b<10^(i+j):=by
 rw[Nat.pow_add];exact yg (Nat.mul_le_mul_left _<|Nat.le_of_lt d) ((Nat.mul_lt_mul_right<|Nat.pow_pos af).2 c)
theorem IU(q:Rat):(q.den:Int)≠0:=by have:=q.den_pos;omega
theorem Cu.mul{p q:Rat}{i j:Nat}(hp:Cu i p)(a:Cu j q):Cu (i+j) (p*q):=by
 have h:=Rat.divInt_mul_divInt p.num q.num (d₁:=p.den) (d₂:=q.den);rw[zl,zl]at h;rw[h];refine HI ?_ ?_ ?_
 ·exact Int.mul_ne_zero (IU p)<|IU q
 ·rw[yn];exact DK hp.1 a.1
 ·rw[yn,zh,zh];exact DK hp.2 a.2
theorem Cu.add{p q:Rat}{i j:Nat}(hp:Cu i p)(a:Cu j q):Cu (i+j+1) (p+q):=by
 have h:=y9 p.num q.num (IU p)<|IU q;rw[zl,zl]at h;rw[h];have a1:=DK hp.1 a.2;have a2:=DK a.1 hp.2;have a3:=DK hp.2 a.2;rw[Nat.add_comm]at a2;refine HI (Int.mul_ne_zero (IU p)<|IU q) ?_ ?_
 ·refine yg (Int.natAbs_add_le _ _) ?_;rw[yn,yn,zh,zh,qg];omega
 ·rw[yn,zh,zh,qg];omega
theorem Cu.neg{q:Rat}{k:Nat}(h:Cu k q):Cu k (-q):=by
 unfold Cu at*;rw[q9,jc,Int.natAbs_neg];exact h
theorem Cu.sub{p q:Rat}{i j:Nat}(hp:Cu i p)(a:Cu j q):Cu (i+j+1) (p-q):=by
 rw[Rat.sub_eq_add_neg];exact hp.add a.neg
theorem Cu.inv{q:Rat}{k:Nat}(h:Cu k q)(h0:q≠0):Cu k q⁻¹:=by
 have e:=Rat.inv_divInt q.num q.den;rw[zl]at e;rw[e];exact HI (fun x=>h0<|yu.mp x) (by rw[zh];exact h.2) h.1
theorem Cu.div{p q:Rat}{i j:Nat}(hp:Cu i p)(a:Cu j q)(h0:q≠0):Cu (i+j) (p/q):=by
 rw[Rat.div_def];exact hp.mul<|a.inv h0
def NP(n:Int):Bool:=decide (600<(zd n.natAbs).length)
def Kc(q:Rat):Bool:=NP q.num||NP q.den
theorem CZ{u k:Nat}(h:u<10^k)(a:1<=k):(zd u).length<=k:=by
 rw[zn];obtain⟨j,rfl⟩:∃j,k=j+1:=⟨k-1,by omega⟩;exact Go.Pe.ON j u h
theorem BP(u:Nat){k:Nat}(h:(zd u).length<=k):u<10^k:=by
 rw[zn]at h;exact yh (Lib.lt_pow_nDigits u) (yo af h)
theorem Ze{q:Rat}:Kc q=false↔Cu 600 q:=by
 unfold Kc NP Cu;rw[Bool.or_eq_false_iff,w9,w9];refine⟨fun h=>⟨BP (k:=600) _ ae,?_⟩,fun h=>⟨?_,?_⟩⟩
 ·have:=BP (q.den:Int).natAbs (k:=600) ae;rw[zh]at this;exact this
 ·have:=CZ h.1 af;omega
 ·have:=CZ h.2 af;rw[zh];omega
theorem Qg{q:Rat}{k:Nat}(h:Cu k q)(a:1<=k):(AQ q).length<=2*k+2:=by
 have c:=CZ h.1 a;have d:=CZ h.2 a;have b:(zm q.num).length<=k+1:=by
  unfold zm;split
  ·rw[zo];omega
  ·rw[show q.num.toNat=q.num.natAbs by omega];omega
 unfold AQ;split
 ·omega
 ·rw[zi,zo];omega
def Bk(s:Rd):Bool:=decide (AQ (Au s)=s)&&decide (s.length<=4000)
theorem GC{s:Rd}(h:Bk s=true):AQ (Au s)=s/\s.length<=4000:=by
 unfold Bk at h;rwa [zc,w5,w5]at h
theorem RU{q:Rat}{k:Nat}(h:Cu k q)(a:k<=1999):Bk (AQ q)=true:=by
 have b:=Qg (h.mono a) af;unfold Bk;rw[CD,w4 rfl,w4 ae];rfl
theorem Dg{s:Rd}(h:Av s=0):Bk s=true/\Cu 600 (Au s):=by
 obtain⟨b,_,_,a⟩:=Ss h;exact⟨by rw[<-b];exact RU a af,a⟩
theorem TP{s:Rd}(h:Bk s=true):Cu 4000 (Au s):=by
 obtain⟨d,f⟩:=GC h;have e:(AQ<|Au s).length<=4000:=by rw[d];exact f
 generalize Au s=q at*;have a:=BP q.num.natAbs<|z6 _;have b:=BP q.den<|z6 _;have g:(zd q.num.natAbs).length<=(zm q.num).length:=by
  unfold zm;split
  ·rw[zo];omega
  ·rw[show q.num.toNat=q.num.natAbs by omega];exact z6 _
 unfold AQ at e;split at e
 ·next c=>exact⟨BP (k:=4000) _ ae,by rw[c];exact Ky 4000 af⟩
 ·rw[zi,zo]at e;exact⟨BP (k:=4000) _ ae,BP (k:=4000) _ ae⟩
theorem Ye{q:Rat}:Av (AQ q)=if Kc q=true then 4 else 0:=by
 obtain⟨g,l,o⟩:=E5 q;obtain⟨p1,p2,p3,p4⟩:=Tl<|AQ q;obtain⟨i1,i2,i3,i4⟩:=CX q.num;have d:AF (A2<|AQ q)=zd q.num.natAbs:=by rw[p1,g,i2]
 have b:AV (A2<|AQ q)=if q.den=1 then[]else zd q.den:=by rw[p2,l]
 have f:BF (A2<|AQ q)=decide (q.den≠1):=by rw[p3,o]
 have m:preB (AQ q)=decide (q.num<0):=by rw[<-p4,g,i3]
 have a:∀n:Nat,zd n=[48]->n=0:=fun n h=>by
  have:=Ii n;rw[h]at this;have:(0:Int)=n:=this;omega
 have e:∀n:Nat,zd n=[49]->n=1:=fun n h=>by
  have:=Ii n;rw[h]at this;have:(1:Int)=n:=this;omega
 have r:=q.den_pos;have j:GH (AQ q)=true:=by
  unfold GH;rw[d,b,f,m,Xi,z8,zc];refine⟨?_,?_⟩
  ·by_cases h:q.num<0
   ·have z:zd q.num.natAbs≠[48]:=fun k=>by have:=a _ k;omega
    rw[w4 h,w4 z];rfl
   ·rw[w8 h];rfl
  ·by_cases h:q.den=1
   ·rw[w8<|not_not_intro h];rfl
   ·have z:zd q.den≠[48]:=fun k=>by have:=a _ k;omega
    have y:zd q.den≠[49]:=fun k=>h<|e _ k
    rw[w4 h,wc h,Xi,w4 z,w4 y];rfl
 unfold Av;rw[wc (by rw[j];decide),d,b,f];have i:Kc q=true↔600<(zd q.num.natAbs).length\/600<(if q.den=1 then([]:Rd)else zd q.den).length:=by
  unfold Kc NP;rw[qd,w5,w5,zh];by_cases h:q.den=1
  ·rw[wd h,h,z7<|show 1<10 by decide];simp
  ·rw[wc h]
 by_cases h:Kc q=true
 ·rw[wd<|i.1 h,wd h]
 ·rw[wc<|fun k=>h<|i.2 k,wc h];refine wc fun k=>?_
  obtain⟨c,p⟩:=k;have c:q.den≠1:=w6 c;apply p;unfold yE yF;rw[d,b,wc c,Ii,Ii,Gk];have hr:=q.reduced;have:qf ((q.num.natAbs:Nat):Int) (q.den:Int)=1:=hr;rw[this];rfl
theorem R9(q:Rat):Ha (AQ q)=N1 q.num:=by
 have h0:AQ q=[48]↔q=0:=by
  have:AQ (0:Rat)=[48]:=by
   unfold AQ;rw[wd<|show Rat.den 0=1 from rfl];show zm 0=[48];unfold zm;rw[wc af,show(0:Int).toNat=0 from rfl,z7 af];rfl
  rw[<-this];exact⟨gA,fun h=>by rw[h]⟩
 unfold Ha N1;by_cases a:q=0
 ·rw[wd<|h0.2 a,a];rfl
 ·rw[wc<|fun h=>a<|h0.1 h];have e:q.num≠0:=fun h=>a<|yu.mp h
  have d:(AQ q).getD 0 0=(zm q.num).getD 0 0:=by
   unfold AQ;split
   ·rfl
   ·have:zm q.num≠[]:=by unfold zm;split;exact List.cons_ne_nil _ _;exact Uv _
    cases b:zm q.num with
    |nil=>exact wh b this
    |cons c r=>rfl
  rw[d];unfold zm;by_cases h:q.num<0
  ·rw[wd h,wd h];rfl
  ·rw[wc h,wc h,wc<|FO<|DP _,wd ae]
theorem V6(n:Int)(h:n≠0):zm (-n)=if n<0 then(zm n).drop 1 else 45::zm n:=by
 unfold zm;by_cases c:n<0
 ·rw[wc ae,wd c,wd c,show(-n).toNat=n.natAbs by omega];rfl
 ·rw[wd ae,wc c,wc c,show(-n).natAbs=n.toNat by omega]
theorem mU(q:Rat):Md (AQ q)=AQ (-q):=by
 have a:=R9 q;unfold Ha at a;unfold Md;by_cases h0:AQ q=[48]
 ·rw[wd h0]at a ⊢;have:q.num=0:=by
   unfold N1 at a;split at a
   ·exact wh a af
   ·split at a
    ·exact wh a af
    ·omega
  have:q=0:=yu.mp this;rw[this];rfl
 ·rw[wc h0]at a ⊢;have b:q.num≠0:=by
   intro h;rw[h]at a;split at a<;>exact wh a af
  have e:AQ (-q)=if q.num<0 then(AQ q).drop 1 else 45::AQ q:=by
   unfold AQ;rw[q9,jc,V6 _ b];by_cases c:q.num<0
   ·rw[wd c,wd c];have:zm q.num=45::zd q.num.natAbs:=by unfold zm;rw[wd c]
    rw[this];split<;>rfl
   ·rw[wc c,wc c];split<;>rfl
  rw[e];unfold N1 at a;by_cases c:q.num<0
  ·rw[wd c]at a ⊢;split at a
   ·next k=>rw[wd k]
   ·exact wh a af
  ·rw[wc c,wd<|show q.num>0 by omega]at a;rw[wc c];split at a
   ·exact wh a af
   ·next k=>rw[wc k]
open Go.Lib
theorem Ni:∀(f n l:Nat) (a:Rd),l<=a.length->n<10^f->Ig f n l a=if n=0 then a else decDigits n++a
 |0,n,l,a,_,b=>by rw[Nat.pow_zero]at b;rw[wd ae];rfl
 |f+1,n,l,a,d,b=>by
  rw[qg]at b;unfold Ig;by_cases h:n=0
  ·rw[wd ⟨h,d⟩,wd h]
  ·rw[wc<|fun k=>h k.1,wc h,Ni f (n/10) l _ (by rw[zo];omega) ae];by_cases c:n/10=0
   ·rw[wd c,decDigits_one ae,show n % 10=n by omega];rfl
   ·have e:=Gf (n/10) (n % 10) ae ae;rw[show 10*(n/10)+n % 10=n by omega]at e;rw[wc c,e,ym];rfl
theorem oX{d:Nat}(h:d<10):Gv 1 d=[zp<|48+d]:=by
 unfold Gv;rw[nDigits_small h,decDigits_one h];rfl
theorem Vp:∀(k f n l:Nat) (a:Rd),a.length+(k+1)=l->n<10^(k+1)->k+1<=f->Ig f n l a=Gv (k+1) n++a
 |k,0,n,l,a,_,_,h=>by omega
 |0,f+1,n,l,a,c,b,_=>by
  unfold Ig;rw[wc ae,oX ae,Ni f (n/10) l _ (by rw[zo];omega) (by rw[show n/10=0 by omega];exact Nat.pow_pos af),wd ae,show n % 10=n by omega];rfl
 |k+1,f+1,n,l,a,c,b,d=>by
  rw[qg]at b;have e:=SJ (k+1) (n/10) (n % 10) ae ae;rw[show 10*(n/10)+n % 10=n by omega]at e;unfold Ig;rw[wc ae,Vp k f (n/10) l _ (by rw[zo];omega) ae ae,e,ym];rfl
theorem Qo{n:Int}(h0:0<=n)(a:n<9223372036854775808):I2 n 1=decDigits n.toNat:=by
 show Ig 64 n.toNat 1 []=_;unfold Ig;rw[wc<|by simp];rw[Ni 63 (n.toNat/10) 1 _ (by simp) ae];by_cases h:n.toNat<10
 ·rw[wd ae,decDigits_one h,show n.toNat % 10=n.toNat by omega]
 ·have e:=Gf (n.toNat/10) (n.toNat % 10) ae ae;rw[show 10*(n.toNat/10)+n.toNat % 10=n.toNat by omega]at e;rw[wc ae,e]
theorem iI{n:Int}(h0:0<=n)(a:n<1000000000):I2 n 9=Gv 9 n.toNat:=by
 show Ig 64 n.toNat 9 []=_;rw[Vp 8 64 n.toNat 9 [] rfl ae af,List.append_nil]
def Db(n d:Int):Rd:=AQ<|zq n d
theorem fL(n:Int):itoa n=(if n<0 then[45]else[])++decDigits n.natAbs:=by
 unfold itoa;split
 ·rfl
 ·rw[show n.toNat=n.natAbs by omega];rfl
def vR(a:Bool×List Int):Int:=if a.1=true then -Ax a.2 else Ax a.2
def C0(a:Bool×List Int):Bool:=A8 a.2&&decide (a.2.length<=3000)&&(!a.1||decide (a.2≠[]))
def Iz(l:List Int)(i:Int):Int:=l.getD i.toNat 0
def uV(a b:List Int):Bool:=A8 a&&A8 b&&decide (a.length<=9000)&&decide (b.length<=9000)
def Re(a b:List Int):List Int:=B7<|Ax a+Ax b
def I8(a b:List Int):List Int:=B7<|Ax a-Ax b
def NN(a b:Bool×List Int):Bool:=rN<|vR a+vR b
def Nz(a b:Bool×List Int):List Int:=rW<|vR a+vR b
def HV(a b:Bool×List Int):Bool:=rN<|vR a*vR b
def HK(a b:Bool×List Int):List Int:=rW<|vR a*vR b
def UU(a:Bool×List Int):Bool:=rN<| -vR a
def UE(a:Bool×List Int):List Int:=rW<| -vR a
def Is(a:Bool×List Int):Rd:=AZ<|vR a
def Jf(n d:Bool×List Int):Rd:=Db (vR n)<|vR d
def nB(a:Rd):Int:=if En a=true then I6 a else 0
def WH(a:Rd):Int:=if En a=true then UY a else 0
def C8(a b:Rd):Rd:=AQ<|Au a+Au b
def X4(a b:Rd):Rd:=AQ<|Au a-Au b
def Nr(a b:Rd):Rd:=AQ<|Au a*Au b
def TD(a:Rd):Rd:=AQ (Au a)⁻¹
def TO(a b:Rd):Rd:=AQ<|Au a/Au b
def Cf(a b:Rd):Int:=if Au a<Au b then -1 else if Au b<Au a then 1 else 0
def Fl(a:Rd):Int:=if 600<(A2<|AF a).length\/600<(Mv a).length then 4 else 0
def Gx(a:Rd):Bool:=Bk a&&decide (a.length<=3000)
def mB(a:Rd):Bool:=Gx a&&decide (Au a≠0)
end Go.Sp
namespace Go.Pe
open Sp
open Go.Det
def Y9:Am:=⟨[li,i64],fun i=>decide (0<=(i.2:Int)),[i64],fun i=>Iz i.1 i.2,false⟩
def Yx:Am:=⟨[li,li],fun i=>uV i.1 i.2,[li],fun i=>Re i.1 i.2,false⟩
def Xw:Am:=⟨[li,li],fun i=>uV i.1 i.2&&decide (Ax i.2<=Ax i.1),[li],fun i=>I8 i.1 i.2,false⟩
def sF:Am:=⟨[Ka,Ka],fun i=>C0 i.1&&C0 i.2,[Ka],fun i=>(NN i.1 i.2,Nz i.1 i.2),false⟩
def bG:Am:=⟨[Ka,Ka],fun i=>C0 i.1&&C0 i.2,[Ka],fun i=>(HV i.1 i.2,HK i.1 i.2),false⟩
def aG:Am:=⟨[Ka],fun a=>C0 a,[Ka],fun a=>(UU a,UE a),false⟩
def YJ:Am:=⟨[Ka],fun a=>C0 a,[.str],fun a=>Is a,false⟩
def QL:Am:=⟨[Ka,Ka],fun i=>C0 i.1&&C0 i.2&&decide (Sp.vR i.2≠0),[.str],fun i=>Jf i.1 i.2,false⟩
def kI:Am:=⟨[i64,i64],fun i=>Cv i.1&&Cv i.2&&decide ((i.2:Int)≠0),[.str],fun i=>Db i.1 i.2,false⟩
def OB:Am:=⟨[.str],fun s=>Bk s,[i64,i64,.bool],fun s=>(nB s,WH s,En s),false⟩
def PF:Am:=⟨[.str,.str],fun i=>Bk i.1&&Bk i.2,[.str],fun i=>C8 i.1 i.2,false⟩
def AbP:Am:=⟨[.str,.str],fun i=>Bk i.1&&Gx i.2,[.str],fun i=>X4 i.1 i.2,false⟩
def VX:Am:=⟨[.str,.str],fun i=>Bk i.1&&Bk i.2,[.str],fun i=>Nr i.1 i.2,false⟩
def AbW:Am:=⟨[.str],fun s=>mB s,[.str],fun s=>TD s,false⟩
def Abq:Am:=⟨[.str,.str],fun i=>Bk i.1&&mB i.2,[.str],fun i=>TO i.1 i.2,false⟩
def qI:Am:=⟨[.str,.str],fun i=>Bk i.1&&Gx i.2,[i64],fun i=>Cf i.1 i.2,false⟩
def Tm:Am:=⟨[.str],fun s=>decide (s.length<=1000000),[i64],fun s=>Fl s,false⟩
def XR0[Srt]:AO:=X7 []
def Xk[Srt]:AO:=X7 [(149,Y9),(147,T1)]
def XR2[Srt]:AO:=X7 [(110,Hj),(111,Yx),(112,bJ),(113,Xw),(114,aR),(109,SH)]
def XR3[Srt]:AO:=X7 [(106,PT)]
def uY[Srt]:AO:=U9 [(49,[3,7,9])] [] [(49,[(3,[2,3]),(7,[8,10]),(9,[8,10])])] [(108,aG),(102,Lc),(109,SH),(110,Hj),(98,YJ)]
def iO[Srt]:AO:=U9 [(47,[3,5,7,11])] [] [(47,[(3,[0,1]),(5,[0,1]),(7,[0,1]),(11,[1,6])])] [(99,Jw),(49,QL),(105,Ab2),(106,PT)]
def XR6[Srt]:AO:=U9 [(16,[5]),(96,[5])] [] [(16,[(5,[0,1])]),(96,[(5,[0,1])])] [(46,OB),(47,kI),(48,TY),(50,sF),(51,bG),(49,QL)]
def XR7[Srt]:AO:=X7 [(97,AbW),(96,VX),(16,PF),(103,rI)]
def XR8[Srt]:AO:=X7 [(45,AbP),(44,S2),(100,P0),(41,Zk),(42,kR),(43,Z2)]
def Ui:Am:=⟨[],fun _=>true,[.bool],fun _=>true,false⟩
theorem Ve[Srt]:Af A5 5 Ui:=by
 refine .of0 ⟨by kernel_rfl,Bd ag,fun F h args i c d b a _=>?_⟩;have f:args=[]:=by
  have:=a (fun _=>none) 0;simpa [Ag,Ui]using this
 subst f;refine⟨[(.bool true,h)],1,fun m k=>?_,fun _=>⟨_,rfl⟩,fun x g=>?_⟩
 ·obtain⟨e,rfl⟩:∃e,m=e+1:=⟨m-1,by omega⟩;have j:A5.spec 5=some fun args h=>bif uX h Fg then(match Ff A7 5 args with|some v=>some (v,h)|none=>none)else none:=rfl
  rw[Ba];simp only[j,qW b,we];rfl
 ·cases yf.1 g;exact⟨z6 _,fun _ _=>rfl,d,F,fun _ _ h=>h,fun _ _ h=>.inl h,c,fun ρ N=>DQ _⟩
end Go.Pe
namespace Go.Sp
def Qq(a:AJ):Int:=if Bs (Ah<|vI a)=[]then 0 else 64*((Bs<|Ah<|vI a).length-1)+Fh ((Bs<|Ah<|vI a).getD ((Bs<|Ah<|vI a).length-1) 0)
def Ek(a:AJ):Bool:=NP<|vI a
def Jn(a:Ab):Bool:=Ek a.1||Ek a.2
def Kl(a:Ab):Rd:=if CS a.2=true then AZ (vI a.1)else AZ (vI a.1)++47::AZ (vI a.2)
def MZ(a:Ab):Rd:=if Jn a=true then[]else Kl a
def Mt(a:Ab):Int:=if Jn a=true then 4 else 0
def BW:List Rd->Int
 |[]=>0
 |s::l=>if Av s≠0 then Av s else BW l
def Qk(a:Ab):Int:=N1<|vI a.1
def Oc(a b:Rd):Int:=BW [a,b]
def Tu(e:Int)(q:Rat):Rd:=if e≠0 then[]else if Kc q=true then[]else AQ q
def TT(e:Int)(q:Rat):Int:=if e≠0 then e else if Kc q=true then 4 else 0
def FB(a:Rd)(e:Int)(w:Rd)(bad:Int):Bool:=if (if bad=0 then Fl w else bad)≠0 then decide (a=[])&&decide (e=(if bad=0 then Fl w else bad))else decide (e=0)&&decide (a=w)
end Go.Sp
namespace Go.Pe
open Sp
open Go.Det
def uC:Am:=⟨[A0],fun a=>A9 a,[i64],fun a=>Qq a,false⟩
def Zr:Am:=⟨[A0],fun a=>A9 a,[.bool],fun a=>Ek a,false⟩
def Tv:Am:=⟨[.str,.str],fun i=>Ta i.1 i.2,[.str],fun i=>A2 i.1,false⟩
def Z3:Am:=⟨[Ai],fun a=>j8 (a:Ab),[.bool],fun a=>Jn a,false⟩
def lR:Am:=⟨[Ai],fun a=>j8 (a:Ab),[.str],fun a=>Kl a,false⟩
def Ox:Am:=⟨[Ai],fun a=>j8 (a:Ab),[.str,i64],fun a=>(MZ a,Mt a),false⟩
def cX:Am:=⟨[.list .str],fun l=>decide (zz (α:=Rd) l<=1000)&&jt (α:=Rd) l (fun s=>decide (s.length<=1000000)),[i64],fun l=>BW l,false⟩
def rH:Am:=⟨[Ai],fun a=>qp (a:Ab).1,[i64],fun a=>Qk a,false⟩
def XX0[Srt]:AO:=X7 []
def XX1[Srt]:AO:=X7 [(161,P6),(192,Xx)]
def Afe[Srt]:AO:=X7 [(176,uC),(142,AcT),(158,Tv)]
def XX2[Srt]:AO:=X7 [(141,Zr),(125,QC),(142,AcT)]
def XX3[Srt]:AO:=X7 [(89,FL),(133,K1)]
end Go.Pe
namespace Go.Sp
def oT(a:Rd):Rd:=Nr a [49,47,50]
end Go.Sp
namespace Go.Pe
open Go.Det
def Acg:Am:=⟨[.str],fun s=>Sp.Bk s,[.str],fun s=>Sp.oT s,false⟩
end Go.Pe
namespace Go.Sp
abbrev BJ:=Rd×Rd
def E6:Option BJ->List BJ->Int
 |_,[]=>0
 |o,p::l=>if Oc p.1 p.2≠0 then Oc p.1 p.2 else match o with
  |some q=>if Cf p.1 q.1<=0 then 11 else E6 (some p) l
  |none=>E6 (some p) l
def CN(t:List BJ):Int:=if t=[]then 12 else if 64<t.length then 5 else E6 none t
def BR(s:Rd):Ab:=((Ro s,Rz s),(Pz s,Pk s))
def Ef(p:BJ):Ab×Ab:=(BR p.1,BR p.2)
def VU(t:List BJ):List (Ab×Ab):=if CN t≠0 then[]else t.map Ef
def U8:Option (Rat×Rat)->List (Rat×Rat)->Rat->Rat
 |none,[],_=>0
 |some p,[],_=>p.2
 |o,b::l,x=>if b.1<x then U8 (some b) l x else match o with
  |none=>b.2
  |some a=>a.2+(b.2-a.2)*(x-a.1)/(b.1-a.1)
def RA(k:Nat)(t:List BJ):Bool:=t.all fun p=>decide (p.1.length<=k)&&decide (p.2.length<=k)
end Go.Sp
namespace Go.Pe
open Sp
open Go.Det
abbrev Hb:Sh:=.pair .str .str
abbrev ZB:Sh:=.pair Ai Ai
def cJ:Am:=⟨[.list Hb],fun l=>decide (zz (α:=BJ) l<=1000)&&RA 1000000 l,[.list ZB,i64],fun l=>(VU l,CN l),false⟩
def aY:Am:=⟨[.list Hb],fun l=>decide (zz (α:=BJ) l<=1000)&&RA 1000000 l,[i64],fun l=>CN l,false⟩
def XT1[Srt]:AO:=X7 [(138,FR),(139,Hd),(252,cX),(66,Jd),(81,Qt)]
def XT2[Srt]:AO:=X7 [(228,cJ)]
end Go.Pe
namespace Go.Sp
theorem Q2(q:Rat):Mv (AQ q)=zd q.den:=by
 obtain⟨_,a,b⟩:=E5 q;unfold Mv;rw[a,b];by_cases h:q.den=1
 ·rw[wc (by simpa using h),h,z7 af];rfl
 ·rw[wd<|w4 h,wc h]
theorem Xq(q:Rat):Fl (AQ q)=if Kc q=true then 4 else 0:=by
 obtain⟨b,_,_⟩:=E5 q;unfold Fl;rw[Q2,b,(CX q.num).2.1];have a:Kc q=true↔600<(zd q.num.natAbs).length\/600<(zd q.den).length:=by
  unfold Kc NP;rw[qd,w5,w5,zh]
 by_cases h:Kc q=true
 ·rw[wd<|a.1 h,wd h]
 ·rw[wc<|fun k=>h<|a.2 k,wc h]
theorem bU(q:Rat):FB (Tu 0 q) (TT 0 q) (AQ q) 0=true:=by
 unfold FB Tu TT;rw[Xq];by_cases h:Kc q=true
 ·simp[h]
 ·simp[h]
theorem VA{e:Int}(h:e≠0)(q:Rat)(w:Rd):FB (Tu e q) (TT e q) w e=true:=by
 unfold FB Tu TT;simp[h]
theorem zU(a b:Rd):Oc a b=if Av a≠0 then Av a else Av b:=by
 show(if Av a≠0 then Av a else if Av b≠0 then Av b else 0)=_;by_cases h:Av a≠0
 ·rw[wd h,wd h]
 ·rw[wc h,wc h];by_cases k:Av b≠0
  ·rw[wd k]
  ·rw[wc k];omega
theorem JO{a b:Rd}(h:Oc a b=0):Av a=0/\Av b=0:=by
 rw[zU]at h;by_cases k:Av a≠0
 ·rw[wd k]at h;exact wh h k
 ·rw[wc k]at h;exact⟨by omega,h⟩
theorem SA:AQ 0=[48]:=by
 unfold AQ;rw[wd<|show Rat.den 0=1 from rfl];show zm 0=[48];unfold zm;rw[wc af,show(0:Int).toNat=0 from rfl,z7 af];rfl
theorem LF{s:Rd}(h:Bk s=true):s=[48]↔Au s=0:=by
 obtain⟨a,_⟩:=GC h;constructor
 ·rintro rfl;rw[<-SA,CD]
 ·intro e;rw[<-a,e,SA]
theorem JN{s:Rd}(h:Gx s=true):Bk s=true/\s.length<=3000:=by
 unfold Gx at h;rwa [zc,w5]at h
theorem Ac9{s:Rd}(h:Gx s=true)(h0:s≠[48]):mB s=true:=by
 unfold mB;rw[h,z8];exact w4 fun e=>h0<|(LF (JN h).1).2 e
theorem sJ{s:Rd}(h:mB s=true):Gx s=true/\Au s≠0:=by
 unfold mB at h;rwa [zc,w5]at h
theorem K3{q:Rat}{k:Nat}(h:Cu k q)(a:k<=400000):(AQ q).length<=1000000:=by
 have:=Qg (h.mono<|show k<=k+1 by omega) ae;omega
structure Nu(k:Nat)(s:Rd)(q:Rat):Prop where
 t:s=AQ q
 z:Cu k q
theorem Nu.mono{i j:Nat}{s:Rd}{q:Rat}(h:Nu i s q)(k:i<=j):Nu j s q:=⟨h.t,h.z.mono k⟩
theorem Nu.rat{k:Nat}{s:Rd}{q:Rat}(h:Nu k s q):Au s=q:=by rw[h.t,CD]
theorem cN{k:Nat}{q:Rat}(h:Cu k q)(a:k<=600):Kc q=false:=Ze.2<|h.mono a
theorem Nu.check{k:Nat}{s:Rd}{q:Rat}(h:Nu k s q)(a:k<=600):Av s=0:=by
 rw[h.t,Ye,cN h.z a,wc af]
theorem Nu.num{k:Nat}{s:Rd}{q:Rat}(h:Nu k s q)(a:k<=1999):Bk s=true:=by rw[h.t];exact RU h.z a
theorem Nu.Gx{k:Nat}{s:Rd}{q:Rat}(h:Nu k s q)(a:k<=1400):Sp.Gx s=true:=by
 unfold Sp.Gx;rw[h.num ae,z8,w5,h.t];have:=Qg (h.z.mono<|show k<=k+1 by omega) ae;omega
theorem Nu.len{k:Nat}{s:Rd}{q:Rat}(h:Nu k s q)(a:k<=1999):s.length<=1000000:=by
 rw[h.t];exact K3 h.z ae
theorem jZ{k:Nat}{q:Rat}(h:Cu k q)(a:k<=600):Tu 0 q=AQ q/\TT 0 q=0:=by
 unfold Tu TT;rw[cN h a];exact⟨rfl,rfl⟩
theorem Nu.op{k:Nat}{q:Rat}(h:Cu k q)(a:k<=600):Nu k (Tu 0 q) q/\TT 0 q=0:=by
 rw[(jZ h a).1];exact⟨⟨rfl,h⟩,(jZ h a).2⟩
theorem Nu.LF{k:Nat}{s:Rd}{q:Rat}(h:Nu k s q)(a:k<=1999):s=[48]↔q=0:=by
 rw[Sp.LF<|h.num a,h.rat]
theorem Nu.cmp{i j:Nat}{a b:Rd}{p q:Rat}(c:Nu i a p)(d:Nu j b q):Cf a b=if p<q then -1 else if q<p then 1 else 0:=by
 unfold Cf;rw[c.rat,d.rat]
theorem qD{a:Rd}{n:Nat}(h:Eb a (n:Int)=true):Nu n a (Au a)/\Av a=0:=by
 unfold Eb at h;rw[zc,zc,zc,w5,w5,w5,w5]at h;obtain⟨⟨⟨_,c⟩,b⟩,d⟩:=h;obtain⟨t,_,_,_⟩:=Ss c;rw[<-t]at b d;rw[Q2]at d;rw[(E5 _).1,(CX _).2.1]at b;refine⟨⟨t.symm,BP _ ae,BP _ ae⟩,c⟩
theorem gM(n:Int):AZ n=AQ (n:Rat):=by
 unfold AQ AZ;rw[wd<|Rat.den_intCast ..,qz]
theorem mM{p q:Rat}(h:p=q):(if p<q then(-1:Int)else if q<p then 1 else 0)=0:=by
 subst h;rw[wc Rat.lt_irrefl,wc Rat.lt_irrefl]
theorem W6(p q:Rat):(if p<q then(-1:Int)else if q<p then 1 else 0)=0↔p=q:=by
 refine⟨fun h=>?_,mM⟩;split at h
 ·exact wh h af
 ·next c=>
  split at h
  ·exact wh h af
  ·next d=>exact Rat.le_antisymm (Rat.not_lt.1 d)<|Rat.not_lt.1 c
theorem TN:Nu 1 [49,47,50] (1/2):=by
 refine⟨by decide+kernel,?_⟩;unfold Cu;decide+kernel
theorem Nu.C8{i j:Nat}{a b:Rd}{p q:Rat}(c:Nu i a p)(d:Nu j b q):Nu (i+j+1) (Sp.C8 a b) (p+q):=⟨by unfold Sp.C8;rw[c.rat,d.rat],c.z.add d.z⟩
theorem Nu.Nr{i j:Nat}{a b:Rd}{p q:Rat}(c:Nu i a p)(d:Nu j b q):Nu (i+j) (Sp.Nr a b) (p*q):=⟨by unfold Sp.Nr;rw[c.rat,d.rat],c.z.mul d.z⟩
theorem Nu.TO{i j:Nat}{a b:Rd}{p q:Rat}(c:Nu i a p)(d:Nu j b q)(h0:q≠0):Nu (i+j) (Sp.TO a b) (p/q):=⟨by unfold Sp.TO;rw[c.rat,d.rat],c.z.div d.z h0⟩
theorem VS{q:Rat}{k:Nat}(h:Cu k q):Cu k (q.floor:Rat):=by
 obtain⟨a,c⟩:=h;have b:=q.den_pos;unfold Cu;rw[qz,Rat.den_intCast,Rat.floor_def];refine⟨yg (yp _ _) a,by omega⟩
def Iy:List Rat->Rat
 |[]=>0
 |q::l=>q+Iy l
def V4(l:List Rat):Rat:=Iy l/((l.length:Int):Rat)
def OS(w:Rd):Nat:=max (A2<|AF w).length (Mv w).length
def Agl(l:List BJ):List (Rat×Rat):=l.map fun p=>(Au p.1,Au p.2)
def O8:List Rd->Nat
 |[]=>0
 |s::l=>(if Av s=0 then OS s else 0)+1+O8 l
def BK(l:List Rd):Int:=if l=[]then 12 else if 256<l.length then 5 else BW l
def El(l:List Rd):List Rat:=l.map Au
def VP(l:List Rd):Rat:=V4<|El l
def U7(l:List Rd):Rd:=Tu (BK l)<|VP l
def mnE(l:List Rd):Int:=TT (BK l)<|VP l
def mnR(l:List Rd):Rd:=AQ<|VP l
def Nv(l:List Rd):Bool:=decide (l.length<=1000000)&&(l.all fun s=>decide (s.length<=1000000))&&(decide (BK l≠0)||decide (O8 l<=1900))
def YC(n:Int):Bool:=decide (n.natAbs<9223372036854775808)
def Aau(n:Int):Rd:=AQ ((n:Int):Rat)
def Bj(n m:Int):Int:=if n=0 then 12 else if m<n then 5 else 0
end Go.Sp
namespace Go.Pe
open Sp
open Go.Det
def qQ:Am:=⟨[Ai],fun _=>true,[Ai],fun a=>((a.1.1,a.1.2),(a.2.1,a.2.2)),false⟩
def TJ:Am:=⟨[i64,i64],fun _=>true,[i64],fun i=>Bj i.1 i.2,false⟩
def MY:Am:=⟨[.list .str],fun l=>decide (zz (α:=Rd) l<=1000000)&&jt (α:=Rd) l (fun s=>decide (s.length<=1000000)),[i64],fun l=>BK l,false⟩
def Acx:Am:=⟨[.list .str],fun l=>decide (zz (α:=Rd) l<=1000000)&&jt (α:=Rd) l (fun s=>decide (s.length<=9223372036854775807)),[i64],fun l=>BW l,false⟩
def cMn:Am:=⟨[.list .str],fun l=>Nv l,[.str,i64],fun l=>(U7 l,Sp.mnE l),false⟩
def AeK:Am:=⟨[.list .str],fun l=>Nv l&&decide (BK l=0),[.str],fun l=>Sp.mnR l,false⟩
def RT:Am:=⟨[.str,i64,i64,.str],fun i=>decide (zz (α:=UInt8) i.2.2.2<=1000000),[.bool],fun i=>FB i.1 i.2.1 i.2.2.2 i.2.2.1,false⟩
def mE:Am:=⟨[i64],fun n=>YC n,[.str],fun n=>Aau n,false⟩
def Afb[Srt]:AO:=X7 [(57,FR),(59,Hd)]
def Agh[Srt]:AO:=X7 [(90,Z3),(91,lR)]
def cE[Srt]:AO:=X7 [(40,Tw)]
def ZL[Srt]:AO:=X7 [(35,Tm)]
def AbH[Srt]:AO:=X7 [(99,Jw),(98,YJ)]
section
open List Int Prod
namespace T60
def T[Srt](n:Int):Tr:=tree uU false 9 60<|Ag ([Sh.int jj]) n
theorem Ak[Srt](n:Int):T n=.ck true (.ck true<|.leaf (PV.agg [.dat i64 n,.dat wU<|Sp.Bo n,.dat i64 (1:Int),.dat wU<|Sp.Bo 1]) []):=by kernel_rfl
end T60
end
open Sp
section
open List Int Prod
namespace T158
def T[Srt](s t:Rd):Tr:=tree XX0 false 9 158<|Ag ([zk,zk]) (s,t)
theorem Ak[Srt](s t:Rd):T s t=let a:=(length t:Int);let b':=decide (toNat a<=length s);.di ((length s:Int)>=a) (.ck (decide (0<=a)&&decide (0<=toNat a)&&b')<|.ite (take (toNat a) s==t) (.ck (decide (0<=a)&&true&&b'&&decide (length s<=length s))<|.leaf (.dat zk<|take (Nat.sub (length s)<|toNat a)<|drop (toNat a) s) [])<|.leaf (.dat zk s) []) (.leaf (.dat zk s) []):=by kernel_rfl
end T158
namespace T176
def T[Srt](a:AJ):Tr:=tree XX1 false 9 176<|Ag ([A0]) a
theorem Ak[Srt](a:AJ):T a=let c:=Bs<|Ah<|zf a;let b:=(↑(length c):Int);let b':=getD c (toNat<|zg .i64<|b-1) 0;.ck (qp a) (.ite (b==0) (.leaf (.dat i64 (0:Int)) [])<|.ck (decide (0<=zg .i64 (b-1))&&decide (zg .i64 (b-1)<b))<|.ck (Sp.u64 b')<|.leaf (.dat i64<|zg .i64<|zg .i64 (64*zg .i64 (b-1))+Fh b') []):=by kernel_rfl
end T176
namespace T141
def T[Srt](a:AJ):Tr:=tree Afe false 9 141<|Ag ([A0]) a
theorem Ak[Srt](a:AJ):T a=.ck (A9 a) (.di (Qq a>1800) (.ck (A9 a)<|.ck (Ta (AZ<|zf a) [(45:UInt8)])<|.leaf (.dat Sh.bool<|decide ((↑(length<|A2<|AZ<|zf a):Int)>600)) [])<|.leaf (.bl false) []):=by kernel_rfl
end T141
namespace T90
def T[Srt](a:Ab):Tr:=tree XX2 false 9 90<|Ag ([Ai]) a
theorem Ak[Srt](a:Ab):T a=.ck (A9<|fst a) (.ite (Ek<|fst a) (.leaf (.bl true) [])<|.ck (A9<|snd a)<|.leaf (.dat Sh.bool<|Ek<|snd a) []):=by kernel_rfl
end T90
namespace T91
def T[Srt](a:Ab):Tr:=tree XX2 false 9 91<|Ag ([Ai]) a
theorem Ak[Srt](a:Ab):T a=let b:=zf<|fst a;.ck true (.ite (CS<|snd a) (.ck (A9<|fst a)<|.leaf (.dat zk<|AZ b) [])<|.ck (A9<|fst a)<|.cd (length (AZ b)+1<=4611686018427387904)<|.ck (A9<|snd a)<|.cd (length (AZ b++[(47:UInt8)])+length (AZ<|zf<|snd a)<=4611686018427387904)<|.leaf (.dat zk<|AZ b++[(47:UInt8)]++AZ (zf<|snd a)) []):=by kernel_rfl
end T91
namespace T252
def T[Srt](l:List Rd):Tr:=tree XX3 false 9 252<|Ag ([Sh.list zk]) l
def L1[Srt](b:List Rd)(c a:Int):Tr:=re ((T []))<|Ay 18 [(6,.dat (Sh.list zk) b),(7,.dat i64 c),(8,.dat i64 a)] [] 0
theorem Ak[Srt](l:List Rd):T l=L1 l ((length l:Int)) 0:=by kernel_rfl
theorem Al[Srt](b:List Rd)(c a:Int):stepT XX3 (L1 b c a)=let d:=getD b (toNat a) [];.di (a<c) (.ck (decide (0<=a)&&decide (a<(length b:Int)))<|.cd (length d<=1000000)<|.ite (Av d !=0) (.leaf (.dat i64<|Av d) [])<|L1 b c<|zg .i64<|a+1) (.leaf (.dat i64 (0:Int)) []):=by kernel_rfl
end T252
namespace T87
def T[Srt](a:Ab):Tr:=tree XX3 false 9 87<|Ag ([Ai]) a
theorem Ak[Srt](a:Ab):T a=.ck (qp<|fst a) (.leaf (.dat i64<|It<|fst a) []):=by kernel_rfl
end T87
end
namespace T142
theorem Ar[Srt](neg:Bool)(V:Nat)(h0:0<V)(i:Small V)(hG:(Cq (V+1) V).length<=1000000)(e:Exit neg (Cq (V+1) V) Q):Ends Ru (L1 neg (Bs (V:Int)) 1 [1000000000000000000]) Q:=by
 have f:V % 10^18<10^18:=jk _ af;have m:∀s,s=(if V/10^18=0 then zd (V % 10^18)else Gv 18<|V % 10^18)->[s]++(if V/10^18=0 then[]else Cq V<|V/10^18)=Cq (V+1) V:=by
  rintro s rfl;have j:Cq (V+1) V=if V<10^18 then[zd V]else Gv 18 (V % 10^18)::Cq V (V/10^18):=rfl
  rw[j];by_cases c:V<10^18
  ·rw[wd c,wd ae,wd ae,Nat.mod_eq_of_lt c];rfl
  ·rw[wc c,wc ae,wc ae];rfl
 have next:∀s,s=(if V/10^18=0 then zd (V % 10^18)else Gv 18<|V % 10^18)->Ends Ru (L2 neg (Bs ((V/10^18:Nat):Int)) 1 1 [s] [1000000000000000000]) Q:=
  fun s l=>A1 neg _ hG e V (V/10^18) [s] ae (i.le<|qe _ _)<|m s l
 refine yt (Al ..) (ze (w4 (by have:=JC h0;omega))<|ze (Ac rfl i.div) ?_);rw[WE,VO];rcases ye (V % 10^18)with h|h
 ·have b:V/10^18≠0:=ae
  rw[h,show((0:Nat):Int)=0 from rfl,Ln];refine qu rfl (ze (w4 (by have:=JC (V:=V/10^18) ae;omega))<|ze rfl (ze rfl (ze rfl (next _ ?_))));have hp:=UZ 0 af;rw[z7 ae]at hp;rw[wc b,h, <-hp];rfl
 ·rw[Wd (r:=((V % 10^18:Nat):Int)) ae ae];have g:j7 [((V % 10^18:Nat):Int)] 0 0=((V % 10^18:Nat):Int):=rfl;rw[g,Nt];have n:=Uc f;have d:((V % 10^18:Nat):Int)<1000000000000000000:=ae
  have k:0<(zd<|V % 10^18).length:=by
   rw[zn,ji];split<;>omega
  refine ze rfl (ze rfl (ze (Ac (Ac (w4<|Int.natCast_nonneg _)<|w4 d) rfl) ?_));rw[wr _ ae ae];by_cases b:V/10^18=0
  ·rw[b];refine qu (by rw[show((0:Nat):Int)=0 from rfl,Ln];rfl)<|ze rfl ?_;have:=next _ rfl;rw[wd b,b]at this;exact this
  ·have a:=UZ _ f;refine ze (w4 (by have:=JC (V:=V/10^18) ae;omega)) (ze (Ac (ad ae ae) rfl)<|ze (w4 ?_)<|ze rfl (next _ ?_))
   ·rw[<-zi,a];unfold Gv;rw[zi,List.length_replicate];omega
   ·rw[wc b];exact a
end T142
theorem Acn(n:Nat):(18446744073709551616:Nat)^n<=10^(20*n):=by
 rw[Nat.pow_mul];exact Nat.pow_le_pow_left af n
theorem iE{V k:Nat}(h:(V:Int)<(Ao:Int)^k):V<18446744073709551616^k:=by
 rw[<-Tc k]at h;exact qh.mp h
theorem fN{V k:Nat}(h:(V:Int)<(Ao:Int)^k)(c:1<=k):(zd V).length<=20*k:=by
 rw[zn];obtain⟨j,b⟩:∃j,20*k=j+1:=⟨20*k-1,by omega⟩;have a:=yh (iE h)<|Acn k;rw[b]at a ⊢;exact ON j V a
theorem H8{V:Nat}(h:Small V):(zd V).length<=180000:=fN (k:=9000) h.h af
theorem MM:∀(f v:Nat) (s:Rd),s∈Cq f v->0<s.length
 |0,v,s,h=>by cases h
 |f+1,v,s,h=>by
  have b:Cq (f+1) v=if v<10^18 then[zd v]else Gv 18 (v % 10^18)::Cq f (v/10^18):=rfl
  have a:∀r,0<(zd r).length:=fun r=>by rw[zn,ji];split<;>omega
  rw[b]at h;split at h
  ·rw[yf]at h;subst h;exact a _
  ·rcases List.mem_cons.1 h with rfl|h
   ·unfold Gv;rw[zi];have:=a<|v % 10^18;omega
   ·exact MM f _ s h
theorem PJ:∀(l:List Rd),(∀s∈l,0<s.length)->l.length<=l.flatten.length
 |[],_=>z6 _
 |s::l,h=>by
  have b:=PJ l fun x a=>h x<|List.mem_cons_of_mem _ a
  have c:=h s<|qj ..;rw[qo,zi,zo];omega
theorem iB{V:Nat}(h:0<V):AZ (-(V:Int))=45::zd V:=Lib.itoa_neg V h
theorem Aas[Srt](a:Af A5 179 Vc):CL Ru:=Aa AaY<|Aa (T161.ok FD)<|Aa RL<|Aa a<|Aa gY AI
namespace T142
theorem fR[Srt](neg:Bool){V:Nat}(h:Small V)(b:∀ob,Q (.dat .str (if neg=true then 45::zd V else zd V)) ob):Exit neg (Cq (V+1) V) Q:=by
 have a:=MM (V+1) V;have d:=IZ (V+1) V ae;have k:=H8 h;have j:=PJ _ a;have hr:(Cq (V+1) V).flatten.length=(zd V).length:=by
  rw[<-d,yq,yq,List.map_reverse,List.sum_reverse]
 have e:0<(Cq (V+1) V).length:=by
  have f:Cq (V+1) V=if V<10^18 then[zd V]else Gv 18 (V % 10^18)::Cq V (V/10^18):=rfl
  rw[f];split<;>simp
 generalize Cq (V+1) V=G at*;unfold Exit;refine zx (fun c=>ze rfl (ze rfl ?_))<|fun c=>?_
 ·rw[wd c]at b;rw[wr _ ae ae];exact EO G (45::zd V) (by rw[zo];omega) ae b G.length [45] _ 1 (z6 _) rfl rfl af (by rw[List.take_length,d];rfl)
 ·rw[wc<|by rw[c];decide]at b;rw[wr _ ae ae];obtain⟨i,g⟩:∃i,i+1=G.length:=⟨G.length-1,by omega⟩;exact FG G (zd V) ae ae b i g _ ae (a _<|List.getElem_mem _) d
theorem ok[Srt](e:Af A5 179 Vc):Af A5 142 AcT:=by
 refine Ir (X:=Ru) rfl (Aas e) (d:=9) ag ag ag (fun(a:Int×List Int) f=>?_) (Bd ag);have f:A9 a=true:=f;have g:=(B5 f).1;have hr:=(DW g).1;refine zr (Ak a)<|zx (fun c=>ze (EX hr.1 hr.2)<|zj<|zy rfl rfl ?_)<|fun c=>ze g ?_
 ·have c:a.2=[]:=by simpa using c
  show AZ a.1=AZ (zf a);rw[Bv c]
 ·have c:a.2≠[]:=by rintro k;rw[k]at c;simp at c
  have o:=bounds f;have b:(9223372036854775808:Int)<=Ah (zf a):=by
   obtain⟨_,j⟩:=DW g;obtain⟨s,w⟩:=a;rcases j with j|⟨_,_,m⟩
   ·exact wh j c
   ·rw[Yr c,Aj];have m:9223372036854775808<=As w:=m;split<;>omega
  obtain⟨V,q⟩:=yx<|AM<|zf a;have i:=Aj<|zf a;rw[q]at o b i ⊢;have h:Small V:=⟨o⟩;have t:=H8 h;have hp:0<V:=ae
  have r:=PJ _<|MM (V+1) V;have p:=IZ (V+1) V ae;have l:(Cq (V+1) V).flatten.length=(zd V).length:=by
   rw[<-p,yq,yq,List.map_reverse,List.sum_reverse]
  refine Ar _ V hp h ae<|fR _ h fun ob=>zy rfl rfl ?_;show(if decide (zf a<0)=true then 45::zd V else zd V)=AZ (zf a);by_cases n:zf a<0
  ·rw[wd<|w4 n,show zf a= -(V:Int)from by omega,iB hp]
  ·rw[wc (by simpa using n),show zf a=(V:Int)from by omega,Nt]
end T142
theorem Y3{k:Nat}{n d:Int}(a:d≠0)(b:Ah n<(Ao:Int)^k)(c:Ah d<(Ao:Int)^k):Lh k (zq n d):=by
 unfold Lh;rw[yz,y7,wc a];constructor
 ·refine yd Y5 ?_;rw[JH];have:Ah d.sign=1:=by rw[Aj,ql a];rfl
  rw[this,Int.one_mul];exact b
 ·refine yd ?_ c;rw[Aj];exact jz.mpr<|qe _ _
theorem zK{f:Ab}(h:yw f=true)(h0:zf f.1≠0):yw (VQ f)=true:=by
 obtain⟨a1,a2,b,a,a0⟩:=Ga h;exact(JV a2 a1 h0).B4<|Y3 h0 a b
theorem vN{f:Ab}(h:yw f=true):yw (AcY f)=true:=by
 obtain⟨a1,a2,a,b,a0⟩:=Ga h;unfold yw j8 at*;have c:=YQ (k:=4000) (B5 a1).1 ae ae<|S0 (B5 a1).1 a;exact Ac (Ac (GU c.1<|by show Ah (zf<|Dd f.1)<_;rw[Jl,Jj];exact a)<|GU (B5 a2).1 b)<|w4 a0
theorem ZR[Srt]:CL XA3:=Aa T120.ok<|Aa T67.ok<|Aa T74.ok<|Aa T128.ok AI
theorem T61.ok[Srt]:Af A5 61 cO:=by
 refine BG ZR<|fun(i:((Int×List Int)×(Int×List Int))×((Int×List Int)×(Int×List Int))) c=>?_;obtain⟨a,b⟩:=i;have c:(yw a&&yw b)=true:=c;rw[zc]at c;obtain⟨b1,b2,lb1,lb2,b0⟩:=Ga c.2;exact zr (T61.Ak a b)<|ze (B5 b1).1<|ze (Ac c.1<|vN c.2)<|zj<|zy rfl rfl rfl
theorem T68.ok[Srt]:Af A5 68 RO:=by
 refine BG ZR<|fun(i:((Int×List Int)×(Int×List Int))×((Int×List Int)×(Int×List Int))) c=>?_;obtain⟨a,b⟩:=i;have c:(yw a&&yw b&&decide (zf b.1≠0))=true:=c;rw[zc,zc,w5]at c;exact zr (T68.Ak a b)<|ze (Ac c.1.2<|w4 c.2)<|ze (Ac c.1.1<|zK c.1.2 c.2)<|zj<|zy rfl rfl rfl
theorem T129.ok[Srt]:Af A5 129 qF:=by
 refine BG GR<|fun(a:(Int×List Int)×(Int×List Int)) h=>?_;obtain⟨a1,a2,c,b,a0⟩:=Ga h;exact zr (T129.Ak a)<|ze (Ac (Ac a1 a2)<|w4 a0)<|zj<|zy rfl rfl rfl
end Go.Pe
namespace Go.Sp
theorem DE{a:Bool×List Int}(h:C0 a=true):A8 a.2=true/\a.2.length<=3000/\(a.1=true->a.2≠[]):=by
 unfold C0 at h;rw[zc,zc,w5,qd,w5,Bool.not_eq_true']at h;refine⟨h.1.1,h.1.2,fun k=>?_⟩;rcases h.2 with x|x
 ·rw[k]at x;cases x
 ·exact x
theorem GZ{a:Bool×List Int}(h:C0 a=true):Ah (vR a)=Ax a.2/\0<=Ax a.2:=by
 obtain⟨c,e,d⟩:=DE h;have h0:=AE (b:=B9) af (Bq c).2.1;have h0:0<=Ax a.2:=h0;refine⟨?_,h0⟩;unfold vR;rw[Aj];split<;>omega
theorem lU{a:Bool×List Int}(h:C0 a=true):a.1=rN (vR a):=by
 obtain⟨c,f,d⟩:=DE h;obtain⟨_,h0⟩:=GZ h;unfold rN vR;cases e:a.1 with
 |false=>rw[wc af];symm;rw[w9];omega
 |true=>
  rw[wd rfl];symm;rw[w5];have:=J3 (b:=B9) af (Bq c).2.1 (Bq c).2.2<|d e;have:0<Ax a.2:=this;omega
theorem AhK{a:Bool×List Int}(h:C0 a=true):a.2=rW (vR a):=by
 unfold rW;rw[(GZ h).1];exact Jt (b:=B9) af (Bq (DE h).1).2.1 (Bq (DE h).1).2.2
theorem Abo{a:Bool×List Int}(h:C0 a=true):a=(rN<|vR a,rW<|vR a):=Prod.ext (lU h)<|AhK h
theorem X3(k:Nat):(B9:Int)^k=10^(9*k):=by
 have:(B9:Int)=10^9:=af
 rw[this, <-Int.pow_mul]
theorem xY{n:Int}{k:Nat}(h:n.natAbs<10^(9*k)):Ah n<(B9:Int)^k:=by
 rw[Aj,X3];have:((10^(9*k):Nat):Int)=(10:Int)^(9*k):=by simp
 rw[<-this];exact qh.mpr h
theorem Ou(n:Int):0<=Ah n:=by rw[Aj];omega
theorem M7(n:Int):Ax (rW n)=Ah n:=C2 (b:=B9) af<|Ou n
theorem Iw(n:Int):vR (rN n,rW n)=n:=by
 unfold vR;show(if rN n=true then -Ax (rW n)else Ax<|rW n)=n;rw[M7,Aj];unfold rN;by_cases h:n<0
 ·rw[wd<|w4 h];omega
 ·rw[wc<|by simpa using h];omega
theorem UQ{n:Int}(h:n.natAbs<10^27000):C0 (rN n,rW n)=true:=by
 have k:27000=9*3000:=rfl;rw[k]at h;obtain⟨d,_,i,g⟩:=Ho (n:=Ah n) (k:=3000) (Ou n) (xY h) af;unfold C0;have c:A8 (rW n)=true:=d;have f:(rW n).length<=3000:=g;rw[c,w4 f];cases b:rN n with
 |false=>rfl
 |true=>
  have:rW n≠[]:=by
   intro e;have a:=M7 n;rw[e]at a;have a:0=Ah n:=a;unfold rN at b;have b:=w6 b;rw[Aj]at a;omega
  rw[w4 this];rfl
theorem rK(k:Nat):((10^k:Nat):Int)=(10:Int)^k:=by rw[yi];rfl
theorem Adl{x:Nat}(j k:Nat)(h:j<=k)(a:x<10^j):x<10^k:=yh a (yo af h)
theorem Adn{a:Bool×List Int}(h:C0 a=true):(vR a).natAbs<10^27000:=by
 obtain⟨e,g,i⟩:=DE h;have f:=Bp (b:=B9) af (Bq e).2.1;have d:(B9:Int)^a.2.length<=(B9:Int)^3000:=AT af g;have c:Ah (vR a)<(B9:Int)^3000:=by rw[(GZ h).1];exact zw f d
 rw[Aj,X3]at c;have:=rK<|9*3000;rw[<-this]at c;have k:27000=9*3000:=rfl;rw[k];exact qh.mp c
theorem uG{neg:Bool}{w:List Int}{n:Int}(a:Az B9 w)(b:Ax w=Ah n)(c:n≠0->neg=rN n):(CY neg w,AB w)=(rN n,rW n):=by
 have h:=Go.Pe.My (neg:=neg) a b;rw[h];have:(if neg=true then -Ah n else Ah n)=n:=by
  by_cases h0:n=0
  ·rw[h0];unfold Ah;split<;>simp
  ·rw[c h0];unfold rN;rw[Aj];by_cases h:n<0
   ·rw[wd<|w4 h];omega
   ·rw[wc<|by simpa using h];omega
 rw[this]
theorem Ei{s:Rd}(h:Bk s=true):C0 (BV s,BM s)=true/\vR (BV s,BM s)=Bi s/\C0 (BC s,Br s)=true/\vR (BC s,Br s)=AX s/\(Au s).num=Bi s/\((Au s).den:Int)=AX s/\Dc s=true/\(Bi s).natAbs<10^4000/\(AX s).natAbs<10^4000:=by
 obtain⟨a,l⟩:=GC h;obtain⟨s1,s2⟩:=TP h;have e:(Au s).num=Bi s/\((Au s).den:Int)=AX s:=by
  have:=Kx<|Au s;rw[a]at this;exact⟨this.1.symm,this.2.symm⟩
 have l1:(Bi s).natAbs<10^4000:=by rw[<-e.1];exact s1
 have d:(AX s).natAbs<10^4000:=by rw[<-e.2,zh];exact s2
 have m:∀x:Nat,x<10^4000->x<10^27000:=fun x g=>Adl 4000 27000 af g
 refine⟨UQ<|m _ l1,Iw _,UQ<|m _ d,Iw _,e.1,e.2,?_,l1,d⟩;obtain⟨f,b,i⟩:=E5<|Au s;rw[a]at f b i;have j:=Go.Pe.T89.Ew s;unfold Dc Em;rw[w4 (p:=s.length<=5999) ae,w4 (p:=(AF s).length<=5999) ae,w4 (p:=(AV s).length<=5999) ae,z8,z8,Bool.and_true,zc];refine⟨?_,?_⟩
 ·obtain⟨k,i2,i3,i4⟩:=CX (Au s).num;rw[f];unfold A2 at i2;split at i2
  ·next c=>rw[wd c,i2];exact DP _
  ·next c=>rw[wc c,i2];exact DP _
 ·rw[b];split
  ·rfl
  ·rw[wc<|FO<|DP _];exact DP _
end Go.Sp
namespace Go.Pe
open Sp
open Go.Det
theorem Uy{x:Int}{k:Nat}(h:x.natAbs<10^k):Ah x<(Ao:Int)^k:=by
 have a:((10^k:Nat):Int)=(10:Int)^k:=yi ..;rw[Aj];refine zw ?_<|AdN k;rw[<-a];exact qh.mpr h
theorem TC{q:Rat}{k:Nat}(h:Cu k q)(b:k<=4000):Lh 4000 q:=by
 obtain⟨c,d⟩:=h.mono b;have a:=Uy (k:=4000) (x:=(q.den:Int)) (by rw[zh];exact d);rw[Aj,zh]at a;exact⟨Uy c,a⟩
def frS(s:Rd):Ab:=((Ro s,Rz s),(Pz s,Pk s))
theorem Jr{s:Rd}(h:Bk s=true):EP (frS s) (Au s):=by
 obtain⟨_,_,_,_,a,d,_,l1,b⟩:=Ei h;have m:∀x:Int,x.natAbs<10^4000->Ah x<(Ao:Int)^9000:=fun x c=>zw (Uy c) (AT af af)
 exact⟨(B5<|Gs<|DM<|m _ l1).1,(B5<|Gs<|DM<|m _ b).1,(LB _).trans a.symm,(LB _).trans d.symm⟩
theorem gE{d:AJ}(h:qp d=true):CS d=decide (zf d=1):=by
 unfold CS;rw[Bool.eq_iff_iff,zc,w5,w5,w5];refine⟨fun⟨f,g⟩=>by rw[Bv f];exact g,fun e=>?_⟩;by_cases c:d.2=[]
 ·rw[Bv c]at e;exact⟨c,e⟩
 ·obtain⟨_,a⟩:=DW h;obtain⟨s,w⟩:=d;rcases a with a|⟨_,_,b⟩
  ·exact wh a c
  ·rw[Yr c]at e;have b:9223372036854775808<=As w:=b;split at e<;>omega
theorem iH{f:Ab}{q:Rat}(h:EP f q):Jn f=Kc q:=by
 unfold Jn Ek Kc;rw[h.vn,h.vd]
theorem nT{f:Ab}{q:Rat}(h:EP f q):Kl f=AQ q:=by
 unfold Kl AQ;rw[gE h.d,h.vn,h.vd];have e:decide ((q.den:Int)=1)=true↔q.den=1:=by rw[w5];omega
 by_cases c:q.den=1
 ·rw[wd<|e.2 c,wd c];rfl
 ·rw[wc<|fun k=>c<|e.1 k,wc c];show zm q.num++47::zm ((q.den:Nat):Int)=_;rw[qy]
theorem Zz{f:Ab}{q:Rat}(h:EP f q):MZ f=Tu 0 q/\Mt f=TT 0 q:=by
 unfold MZ Mt Tu TT;rw[iH h,nT h];exact⟨rfl,rfl⟩
theorem EP.B8{f:Ab}{q:Rat}(h:EP f q)(a:Lh 4000 q):j8 f=true:=by
 have:=h.B4 a;unfold yw at this;rw[zc]at this;exact this.1
theorem EP.IU{f:Ab}{q:Rat}(h:EP f q):decide (zf f.1≠0)=decide (q≠0):=by
 rw[h.vn,decide_eq_decide,vc,yu]
theorem EP.cmp{f g:Ab}{p q:Rat}(b:EP f p)(h:EP g q):CW f g=if p<q then -1 else if q<p then 1 else 0:=by
 unfold CW Cp;rw[b.vn,b.vd,h.vn,h.vd];have a:p<q↔p.num*(q.den:Int)<q.num*(p.den:Int):=Rat.lt_iff ..;have e:q<p↔q.num*(p.den:Int)<p.num*(q.den:Int):=Rat.lt_iff ..;by_cases c:p<q
 ·rw[wd c,wd<|a.1 c]
 ·rw[wc c,wc<|fun k=>c<|a.2 k];by_cases d:q<p
  ·rw[wd d,wd<|e.1 d]
  ·rw[wc d,wc<|fun k=>d<|e.2 k]
end Go.Pe
namespace Go.Sp
theorem oY{n:Int}(h:0<=n):n+1<=2^(Fh n).toNat:=by
 unfold Fh;split
 ·have:n=0:=ae
  subst this;decide
 ·have b:=Nat.lt_log2_self (n:=n.toNat);have e:((n.toNat.log2:Int)+1).toNat=n.toNat.log2+1:=ae
  have a:((2^(n.toNat.log2+1):Nat):Int)=(2:Int)^(n.toNat.log2+1):=yi ..;rw[e, <-a];generalize 2^(n.toNat.log2+1)=P at*;omega
theorem Ac0{w:List Int}(c:Az Ao w){k:Nat}(g:w.length=k+1):val Ao w<(Ao:Int)^k*(w.getD k 0+1):=by
 have a:=Ck (Ao:Int) w k ae;have f:=Bp (b:=(Ao:Int)) af<|AR c k;rw[List.length_take,Nat.min_eq_left ae]at f;have e:w.drop k=[w.getD k 0]:=by
  rw[Co ae,List.drop_eq_nil_of_le ae]
 rw[e]at a;have d:val Ao [w.getD k 0]=w.getD k 0:=by
  show w.getD k 0+(Ao:Int)*0=_;omega
 rw[d]at a;rw[Int.mul_add,qc];omega
theorem XO(k:Nat):((10^k:Nat):Int)=(10:Int)^k:=by rw[yi];rfl
theorem kY(k:Nat):2^(3*k)<=10^k:=by rw[Nat.pow_mul];exact Nat.pow_le_pow_left af k
theorem tF(k:Nat):(2:Int)^(3*k)<=10^k:=by
 have a:((2^(3*k):Nat):Int)<=((10^k:Nat):Int):=jz.2<|kY k;rw[yi,yi]at a;exact a
theorem Aaq:(2:Int)^1800<=10^600:=by
 have h:=tF 600;have k:3*600=1800:=rfl;rw[k]at h;exact h
theorem AaG{a:AJ}(h:Qq a<=1800):Ek a=false:=by
 have a0:0<=Ah (vI a):=by rw[Aj];omega
 have d:=C2 (b:=Ao) af a0;have c:=FI (b:=Ao) af<|Ah<|vI a;have key:Ah (vI a)<2^1800:=by
  unfold Qq at h;have d:val Ao (Bs<|Ah<|vI a)=Ah (vI a):=d;have c:Az Ao (Bs<|Ah<|vI a):=c;generalize Bs (Ah<|vI a)=w at*;rw[<-d];by_cases f:w=[]
  ·subst f;show(0:Int)<_;exact Int.pow_pos af
  ·rw[wc f]at h;obtain⟨k,m⟩:∃k,w.length=k+1:=⟨w.length-1,by have:=List.length_pos_iff.2 f;omega⟩;have l:=Ac0 c m;have g:=KT (b:=(Ao:Int)) af c k;have hp:=oY g.1;have q:=(Go.Pe.S9 g.1 (by have:(Ao:Int)=18446744073709551616:=rfl;omega)).1;rw[m,Nat.add_sub_cancel,show((k+1:Nat):Int)-1=(k:Int)by omega]at h;have p:(0:Int)<(Ao:Int)^k:=Be af k;have j:=yc hp<|yy p;have n:(Ao:Int)^k=2^(64*k):=by
    have:(Ao:Int)=2^64:=af
    rw[this, <-Int.pow_mul]
   rw[n, <-Int.pow_add]at j;rw[n]at l;have o:(2:Int)^(64*k+(Fh<|w.getD k 0).toNat)<=2^1800:=AT af ae;exact zw l<|Int.le_trans j o
 have i:=zw key Aaq;unfold Ek NP;rw[w9];have:(vI a).natAbs<10^600:=by
  rw[Aj]at i;have e:=XO 600;rw[<-e]at i;exact qh.mp i
 have:=CZ this af;omega
end Go.Sp
namespace Go.Pe
open Sp
open Go.Det
theorem xA[Srt]:CL XX0:=fun g sp h=>by cases h
theorem T158.ok[Srt]:Af A5 158 Tv:=by
 refine BG xA<|fun(i:Rd×Rd) a=>?_;obtain⟨s,t⟩:=i;have a:(decide (t=[45])&&decide (s.length<=1000000))=true:=a;rw[zc,w5,w5]at a;obtain⟨rfl,hl⟩:=a;have e:∀v ob,v=A2 s->Ad Tv (s,[45]) (.dat .str v) ob:=fun v ob h=>zy rfl rfl h
 refine zr (T158.Ak s [45]) ?_;conv=>zeta
 cases s with
 |nil=>exact qu rfl (zj<|e _ _ rfl)
 |cons c r=>
  have j:yj (([(45:UInt8)].length:Nat):Int)=1:=rfl;have g:qi 1 (c::r)=[c]:=rfl;have k:qi (Nat.sub (c::r).length 1) (List.drop 1 (c::r))=r:=qv<|z6 _;have f:(c::r).getD 0 0=c:=rfl;rw[j,g,k];refine ze (w4<|by simp;omega) (ze (by simp)<|zx (fun d=>ze (by simp)<|zj<|e _ _ ?_)<|fun d=>zj<|e _ _ ?_)
  ·have b:c=45:=by simpa using d
   unfold A2;rw[f,wd b];rfl
  ·have b:c≠45:=by simpa using d
   unfold A2;rw[f,wc b]
theorem yQ[Srt]:CL XX1:=Aa (T161.ok FD)<|Aa T192.ok AI
theorem Abg{a:AJ}(h:A9 a=true):(Bs<|Ah<|zf a).length<=9000:=by
 have b:=bounds h;have h0:=AM<|zf a;refine OC Ao af 9000 _ _ ?_;have e:((Ao^9000:Nat):Int)=(Ao:Int)^9000:=Tc 9000;rw[<-e]at b;generalize Ao^9000=P at*;omega
theorem T176.ok[Srt]:Af A5 176 uC:=by
 refine BG yQ<|fun(a:Int×List Int) d=>?_;have d:A9 a=true:=d;have i:=(B5 d).1;have l:=Abg d;have e:=FI (b:=Ao) af<|Ah<|zf a;have e:Az Ao (Bs<|Ah<|zf a):=e;have f:∀v ob,v=Qq a->Ad uC a (.dat i64 v) ob:=fun v ob h=>zy rfl rfl h
 unfold Qq at f;refine zr (T176.Ak a)<|ze i ?_;generalize Bs (Ah<|zf a)=w at*;refine zx (fun c=>zj<|f _ _ ?_)<|fun c=>?_
 ·have:w=[]:=ya.1 (by have:(w.length:Int)=0:=(by simpa using c);omega);rw[wd this]
 ·have c:(w.length:Int)≠0:=by simpa using c
  have k:w≠[]:=by rintro rfl;exact c rfl
  have g:=AW e<|w.length-1;have j:zg .i64 ((w.length:Int)-1)=((w.length-1:Nat):Int):=by rw[wr _ ae ae];omega
  have m:=S9 (Sp.A3 g).1 (Sp.A3 g).2;rw[j,yk,wr (64*_) ae ae,wr _ ae ae];refine ze (ad ae ae)<|ze g<|zj<|f _ _ ?_;rw[wc k];omega
theorem iY[Srt]:CL Afe:=Aa T176.ok<|Aa (T142.ok lP)<|Aa T158.ok AI
theorem jT(n:Int):A2 (AZ n)=zd n.natAbs:=(CX n).2.1
theorem Pv{a:AJ}(h:A9 a=true):(AZ<|zf a).length<=180001:=by
 have c:=bounds h;have b:=Aj<|zf a;have d:(zd (zf a).natAbs).length<=180000:=H8 ⟨by rw[<-b];exact c⟩;unfold AZ zm;split
 ·rw[zo];omega
 ·rw[show(zf a).toNat=(zf a).natAbs by omega];omega
theorem T141.ok[Srt]:Af A5 141 Zr:=by
 refine BG iY<|fun(a:Int×List Int) b=>?_;have b:A9 a=true:=b;have f:=Pv b;have e:∀v ob,v=Ek a->Ad Zr a (.dat .bool v) ob:=fun v ob h=>zy rfl rfl h
 have d:∀v ob,v=Ek a->Ad Zr a (.bl v) ob:=fun v ob h=>zy rfl rfl h
 refine zr (T141.Ak a) (ze b<|zx (fun c=>ze b<|ze (Ac (w4 rfl)<|w4<|by show(AZ<|zf a).length<=1000000;omega)<|zj<|e _ _ ?_)<|fun c=>zj<|d _ _ ?_)
 ·show decide (((A2<|AZ<|zf a).length:Int)>600)=Ek a;rw[jT];unfold Ek NP;rw[decide_eq_decide];omega
 ·have c:=w7 c;have c:¬Qq a>1800:=c;exact(AaG ae).symm
theorem iW{a:AJ}(h:N9 a=true):A9 a=true:=by
 unfold N9 at h;rw[zc,w5]at h;unfold A9;rw[h.1,z8];exact w4 ae
theorem oB{a:Ab}(h:j8 a=true):A9 a.1=true/\A9 a.2=true:=by
 unfold j8 at h;rw[zc]at h;exact⟨iW h.1,iW h.2⟩
theorem aI[Srt]:CL XX2:=Aa T141.ok<|Aa T125.ok<|Aa (T142.ok lP) AI
theorem T90.ok[Srt]:Af A5 90 Z3:=by
 refine BG aI<|fun(a:(Int×List Int)×(Int×List Int)) ha=>?_;obtain⟨d,b⟩:=oB (a:=a) ha;refine zr (T90.Ak a)<|ze d<|zx (fun c=>zj<|zy rfl rfl ?_)<|fun c=>ze b<|zj<|zy rfl rfl ?_
 ·have c:Ek a.1=true:=c;show true=(Ek a.1||Ek a.2);rw[c];rfl
 ·have c:Ek a.1=false:=c;show Ek a.2=(Ek a.1||Ek a.2);rw[c];rfl
theorem T91.ok[Srt]:Af A5 91 lR:=by
 refine BG aI<|fun(a:(Int×List Int)×(Int×List Int)) ha=>?_;obtain⟨b,d⟩:=oB (a:=a) ha;have l1:=Pv b;have e:=Pv d;refine zr (T91.Ak a) (ze rfl (zx (fun c=>ze b<|zj<|zy rfl rfl ?_)<|fun c=>ze b<|ze (w4<|by show(AZ<|zf a.1).length+1<=_;omega)<|ze d<|ze (w4<|by rw[zi,List.length_singleton];show(AZ<|zf a.1).length+1+(AZ<|zf a.2).length<=_;omega)<|zj<|zy rfl rfl ?_))
 ·have c:CS a.2=true:=c;show AZ (zf a.1)=Kl a;unfold Kl;rw[wd c]
 ·have c:CS a.2=false:=c;show AZ (zf a.1)++[47]++AZ (zf a.2)=Kl a;unfold Kl;rw[wc (by rw[c];decide),ym];rfl
theorem ZU[Srt]:CL XX3:=Aa T89.ok<|Aa T133.ok AI
namespace T252
theorem Ar[Srt]{Q:PV->Ob->Prop}(l:List Rd)(f:l.length<=1000)(b:∀s∈l,s.length<=1000000):∀(r:List Rd) (i:Nat),l.drop i=r->i<=l.length->(∀ob,Q (.dat i64<|BW r) ob)->Ends XX3 (L1 l (l.length:Int) (i:Int)) Q
 |[],i,h,e,a=>by
  have:=drop_nil h e;exact yt (Al ..) (qu (w8 ae)<|zj<|a _)
 |x::r,i,h,e,a=>by
  obtain⟨m,j,n⟩:=drop_cons (d:=([]:Rd)) h;have g:x∈l:=List.mem_of_mem_drop (by rw[h];exact qj ..);have k:=wn (i:=i) ae;unfold BW at a;refine yt (Al ..) ?_;conv=>zeta
  rw[yk,j,k];refine ze (w4 ae) (ze (ad ae ae)<|ze (w4<|b x g)<|zx (fun c=>zj ?_)<|fun c=>Ar l f b r (i+1) n m ?_)
  ·have c:Av x≠0:=by simpa using c
   rw[wd c]at a;exact a _
  ·have c:Av x=0:=by simpa using c
   rw[wc<|by rw[c];decide]at a;exact a
theorem ok[Srt]:Af A5 252 cX:=by
 refine BG ZU<|fun(l:List Rd) a=>?_;have a:(decide (l.length<=1000)&&l.all fun s=>decide (s.length<=1000000))=true:=a;rw[zc,w5,List.all_eq_true]at a;exact zr (Ak l)<|Ar l a.1 (fun s h=>w6<|a.2 s h) l 0 rfl (Nat.zero_le _) (fun ob=>zy rfl rfl rfl)
end T252
theorem T87.ok[Srt]:Af A5 87 rH:=by
 refine BG ZU<|fun(a:(Int×List Int)×(Int×List Int)) ha=>?_;exact zr (T87.Ak a)<|ze ha<|zj<|zy rfl rfl rfl
theorem T60.ok[Srt]:Af A5 60 cF:=by
 refine BG GR<|fun(n:Int) _=>?_;exact zr (T60.Ak n)<|ze rfl (ze rfl (zj<|zy rfl rfl rfl))
theorem rR{e:Int}(h:e≠0)(q:Rat):([],e)=(Tu e q,TT e q):=by
 unfold Tu TT;rw[wd h,wd h]
theorem AdY{f:Ab}{q:Rat}(h:EP f q){e:Int}(a:e=0):(MZ f,Mt f)=(Tu e q,TT e q):=by
 rw[a,(Zz h).1,(Zz h).2]
theorem EP.div{f g:Ab}{p q:Rat}(d:EP f p)(c:EP g q)(sp:Lh 4000 p)(b:Lh 4000 q)(a:Lh 4000 q⁻¹)(h0:q≠0):EP (Jb f g) (p/q):=by
 rw[Rat.div_def];exact EP.mul d (EP.inv c b h0) sp a
theorem JZ(x y:Int):j0 [x,y]=if x≠0 then x else y:=by
 by_cases h:x≠0
 ·rw[wd h];unfold j0
  simp[h]
 ·rw[wc h];have h:x=0:=ae
  subst h;unfold j0 j0 j0
  simp;intro k;exact k.symm
theorem AaZ(n:Int):Bo n=[]:=by unfold Bo;split<;>rfl
theorem GY{n:Int}(h:Cv n=true):A9 (n,Bo n)=true/\zf (n,Bo n)=n:=by
 rw[AaZ];have hr:=ET h;refine⟨?_,Bv rfl⟩;unfold A9;rw[show qp (n,([]:List Int))=true from Lg h,z8];rfl
theorem AeT(n:Int)(h:Cv n=true):EP ((n,Bo n),(1,Bo 1)) (n:Rat):=by
 obtain⟨b,a⟩:=GY h;obtain⟨h3,h4⟩:=GY (n:=1) rfl;exact⟨(B5 b).1,(B5 h3).1,a.trans (qz n).symm,h4.trans rfl⟩
section
open List Int Prod
namespace T16
def T[Srt](a b:Rd):Tr:=tree XR6 false 9 16<|Ag ([zk,zk]) (a,b)
def L1[Srt](v0 v1:Rd):Tr:=re ((T [] []).L.L.L.R)<|Ay 63 [(0,.dat zk v0),(1,.dat zk v1)] [] 0
theorem Ak[Srt](a b:Rd):T a b=let c:=zg .i64<|zg .i64 (nB a*WH b)+zg .i64 (nB b*WH a);let b':=zg .i64<|WH a*WH b;.ck (Bk a) (.ck (Bk b)<|.ite (En a) (.ite (En b) (.ck (Cv c&&Cv b'&&decide (zg .i64 (WH a*WH b)≠0))<|.leaf (.dat zk<|Db c b') [])<|L1 a b)<|L1 a b):=by kernel_rfl
theorem Al[Srt](v0 v1:Rd):stepT XR6 (L1 v0 v1)=let b':=(HV (BV v0,BM v0) (BC v1,Br v1),HK (BV v0,BM v0) (BC v1,Br v1));let b:=(HV (BV v1,BM v1) (BC v0,Br v0),HK (BV v1,BM v1) (BC v0,Br v0));let a:=(HV (BC v0,Br v0) (BC v1,Br v1),HK (BC v0,Br v0) (BC v1,Br v1));let c:=(NN b' b,Nz b' b);.ck (Dc v0) (.ck (Dc v1)<|.ck (C0 (BV v0,BM v0)&&C0 (BC v1,Br v1))<|.ck (C0 (BV v1,BM v1)&&C0 (BC v0,Br v0))<|.ck (C0 b'&&C0 b)<|.ck (C0 (BC v0,Br v0)&&C0 (BC v1,Br v1))<|.ck (C0 c&&C0 a&&decide (Sp.vR a≠0))<|.leaf (.dat zk<|Jf c a) []):=by kernel_rfl
end T16
namespace T96
def T[Srt](a b:Rd):Tr:=tree XR6 false 9 96<|Ag ([zk,zk]) (a,b)
def L1[Srt](v0 v1:Rd):Tr:=re ((T [] []).L.L.L.R)<|Ay 55 [(0,.dat zk v0),(1,.dat zk v1)] [] 0
theorem Ak[Srt](a b:Rd):T a b=let c:=zg .i64<|nB a*nB b;let b':=zg .i64<|WH a*WH b;.ck (Bk a) (.ck (Bk b)<|.ite (En a) (.ite (En b) (.ck (Cv c&&Cv b'&&decide (zg .i64 (WH a*WH b)≠0))<|.leaf (.dat zk<|Db c b') [])<|L1 a b)<|L1 a b):=by kernel_rfl
theorem Al[Srt](v0 v1:Rd):stepT XR6 (L1 v0 v1)=let a:=(HV (BC v0,Br v0) (BC v1,Br v1),HK (BC v0,Br v0) (BC v1,Br v1));let b':=(HV (BV v0,BM v0) (BV v1,BM v1),HK (BV v0,BM v0) (BV v1,BM v1));.ck (Dc v0) (.ck (Dc v1)<|.ck (C0 (BV v0,BM v0)&&C0 (BV v1,BM v1))<|.ck (C0 (BC v0,Br v0)&&C0 (BC v1,Br v1))<|.ck (C0 b'&&C0 a&&decide (Sp.vR a≠0))<|.leaf (.dat zk<|Jf b' a) []):=by kernel_rfl
end T96
namespace T97
def T[Srt](a:Rd):Tr:=tree XR6 false 9 97<|Ag ([zk]) a
theorem Ak[Srt](a:Rd):T a=.ck (Dc a) (.ck (C0 (BC a,Br a)&&C0 (BV a,BM a)&&decide (Sp.vR (BV a,BM a)≠0))<|.leaf (.dat zk<|Jf (BC a,Br a) (BV a,BM a)) []):=by kernel_rfl
end T97
namespace T45
def T[Srt](a b:Rd):Tr:=tree XR7 false 9 45<|Ag ([zk,zk]) (a,b)
theorem Ak[Srt](a b:Rd):T a b=.cd (length b<=1000000) (.ck (Bk a&&Bk (Md b))<|.leaf (.dat zk<|C8 a<|Md b) []):=by kernel_rfl
end T45
namespace T36
def T[Srt](a b:Rd):Tr:=tree XR7 false 9 36<|Ag ([zk,zk]) (a,b)
theorem Ak[Srt](a b:Rd):T a b=.ck (mB b) (.ck (Bk a&&Bk (TD b))<|.leaf (.dat zk<|Nr a<|TD b) []):=by kernel_rfl
end T36
namespace T15
def T[Srt](a b:Rd):Tr:=tree XR8 false 9 15<|Ag ([zk,zk]) (a,b)
theorem Ak[Srt](a b:Rd):T a b=.ck (Bk a&&Gx b) (.cd (length (X4 a b)<=1000000)<|.leaf (.dat i64<|Ha<|X4 a b) []):=by kernel_rfl
end T15
namespace T35
def T[Srt](a:Rd):Tr:=tree XR8 false 9 35<|Ag ([zk]) a
theorem Ak[Srt](a:Rd):T a=let b:=decide (length a<=1000000);let b':Tr:=.leaf (.dat i64 (4:Int)) [];.ck b (.cd (length (AF a)<=1000000)<|.di ((↑(length<|A2<|AF a):Int)>600) b'<|.ck b<|.di ((↑(length<|Mv a):Int)>600) b'<|.leaf (.dat i64 (0:Int)) []):=by kernel_rfl
end T35
end
end Go.Pe
