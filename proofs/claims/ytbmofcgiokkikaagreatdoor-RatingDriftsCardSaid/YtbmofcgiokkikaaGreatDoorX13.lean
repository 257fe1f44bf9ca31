import Derived.Test.YtbmofcgiokkikaaGreatDoorX12
import Derived.Lib.Repeat
/- A part of a proof; no law is stated here. -/
noncomputable section
open Bool renaming and_eq_true -> zc, true_and -> z7, or_eq_true -> qd
open Go.Lib renaming decDigits -> zd, itoa -> zm, decDigits_length -> zn, decDigits_one -> z6, itoa_nonneg -> qy, repeatL -> jf, nDigits -> ji
open Go.Pe.Ends renaming tt -> ze, leaf -> zj, eq -> zr, ite -> zx, Ah -> yt, ff -> qu
open Go.Sp renaming vI -> zf, Ck -> yw, Ds -> qp, first -> jz, CA -> j7
open Go.IntKind renaming wrap -> zg, u64 -> jg, i64 -> jj
open Int renaming natAbs_natCast -> zh, ne_of_gt -> zu, lt_of_lt_of_le -> zw, mul_le_mul_of_nonneg_left -> yb, lt_of_le_of_lt -> yc, natCast_pow -> yh, toNat -> yi, toNat_natCast -> yj, natAbs_mul -> yn, natAbs_ediv_le_natAbs -> yp, eq_ofNat_of_zero_le -> yx, le_of_lt -> yy, mul_one -> qc, gcd -> qf, ofNat_lt -> qh, natAbs_sign_of_ne_zero -> ql, mul_pos -> qn, ediv_eq_iff_of_pos -> qq, sign_eq_one_of_pos -> qt, mul_comm -> jl, gcd_comm -> jm, ediv_one -> jo, ofNat_le -> jt
open List renaming length_append -> zi, length_cons -> zo, length_eq_zero_iff -> z8, map -> ya, mem_singleton -> ye, append_assoc -> yk, length -> ym, length_flatten -> yq, all_cons -> yr, length_map -> yv, take_succ_eq_append_getElem -> y8, take -> qi, mem_cons_self -> qj, flatten_cons -> qo, take_of_length_le -> qv, reverse_singleton -> qw, getD -> j0
open Go.Pe.Sh renaming str -> zk
open Rat renaming num_divInt_den -> zl, divInt -> zq, num_eq_zero -> yu, num_divInt -> yz, den_divInt -> y7, divInt_add_divInt -> y9, num_intCast -> qz, neg_num -> q9, neg_den -> jc
open UInt8 renaming ofNat -> zp, toNat -> zt
open Go.Pe.Ac renaming of -> zy
open Nat renaming le_refl -> zz, eq_zero_or_pos -> yd, lt_of_le_of_lt -> yf, lt_of_lt_of_le -> yg, pow_le_pow_right -> yo, div_le_self -> qe, pow_succ -> qg, mod_lt -> jk
open Classical renaming byContradiction -> qm
open Go.Pe renaming Es -> je
open Go.Pe.Obj renaming tbox -> jh
variable {Q:Go.Pe.PV->Go.Pe.Ob->Prop}
namespace Go.Pe
open Sp
open Go.Det
theorem G9[Srt]:Cv wN:=
 Aa T134.ok (Aa T162.ok<|Aa T184.ok<|Aa T171.ok<|Aa T68n.ok<|Aa T124.ok<|Aa T125.ok<|Aa T67.ok<|Aa T159.ok<|Aa T160.ok AB)
theorem Fl{a:AM}(h:OH a=true):Bg a=true/\Ai (zf a)<(Ar:Int)^4000:=by
 unfold OH at h;rw[zc,w5]at h;refine⟨?_,JE h.1 h.2 af⟩;unfold Bg;exact Ab h.1 (w4 ae)
theorem Me{x y:Int}(c:Ai x<(Ar:Int)^4000)(a:Ai y<(Ar:Int)^4000):Ai (x*y)<(Ar:Int)^8000:=by
 rw[Kl];have h0:=AP x;have hp:=Bj (b:=Ar) af 4000;have a1:=yb (yy a) h0;have a2:=Int.mul_lt_mul_of_pos_right c hp;have a3:(Ar:Int)^4000*(Ar:Int)^4000=(Ar:Int)^8000:=(Int.pow_add _ 4000 4000).symm;rw[a3]at a2;exact yc a1 a2
theorem Aia{x:Int}(h:x<(Ar:Int)^8000):x<(Ar:Int)^9000:=zw h (AT af af)
theorem Vo{x y:Int}(b:Ai x<(Ar:Int)^4000)(a:Ai y<(Ar:Int)^4000):Bg (Dd<|x*y)=true:=Ec<|Aia<|Me b a
theorem AfZ{a b:AM}(e:Bg a=true)(f:Bg b=true)(h:Ai (zf a+zf b)<(Ar:Int)^9000):Bg (ES a b)=true:=by
 have d:=UF e f;unfold ES at d ⊢;split
 ·rename_i c;rw[wd c]at d;unfold Bg;exact Ab d rfl
 ·exact Ec h
theorem AaL(n:Nat):(2:Int)*(Ar:Int)^n<=(Ar:Int)^(n+1):=by
 rw[Int.pow_succ,jl];exact yb af (yy<|Bj (b:=Ar) af n)
theorem rM{x y:Int}(d:Ai x<(Ar:Int)^8000)(b:Ai y<(Ar:Int)^8000):Ai (x+y)<(Ar:Int)^9000:=by
 have a:=AaL 8000;have c:(Ar:Int)^8001<=(Ar:Int)^9000:=AT af af;have a:(2:Int)*(Ar:Int)^8000<=(Ar:Int)^8001:=a;generalize (Ar:Int)^8000=p at*;generalize (Ar:Int)^8001=q at*;generalize (Ar:Int)^9000=r at*;rw[Al]at*;omega
theorem VF(a:AM):decide (IQ a<0)=decide (zf a<0):=by
 unfold IQ Sp.Oy;rw[Bool.eq_iff_iff,w5,w5];split
 ·omega
 ·split<;>omega
theorem cM{n d:AM}(h:Js n d=true):Bg n=true/\Bg d=true/\zf d≠0:=by
 unfold Js at h;rw[zc,zc,w5]at h;exact⟨h.1.1,h.1.2,h.2⟩
theorem T96.ok[Srt]:Af AY 96 Mq:=by
 refine BA G9<|fun(a:Rd) b=>?_;have b:(D1 (AJ a)&&D1 (Sp.A1 a)&&decide (a.length<=5999))=true:=b;rw[zc,zc,w5]at b;obtain⟨⟨d,e⟩,f⟩:=b;refine zr (T96.Aj a) (ze (Ab (w4 rfl)<|w4 ae)<|zx (fun c=>ze d<|ze rfl (zj<|zy rfl rfl ?_))<|fun c=>ze d<|ze e<|zj<|zy rfl rfl ?_)
 ·have c:BR a=false:=by simpa using c
  show((DA<|AJ a,DD<|AJ a),((1:Int),BI 1))=((Sg a,Sf a),(QD a,RV a));unfold QD RV AZ;rw[c,O0];rfl
 ·have c:BR a=true:=by simpa using c
  show((DA<|AJ a,DD<|AJ a),(DA<|Sp.A1 a,DD<|Sp.A1 a))=((Sg a,Sf a),(QD a,RV a));unfold QD RV AZ;rw[c];rfl
theorem T172.ok[Srt]:Af AY 172 cIQ:=by
 refine BA G9<|fun(i:(Int×List Int)×(Int×List Int)) hi=>?_;obtain⟨a,b⟩:=i;obtain⟨ha,hb,h0⟩:=cM (n:=a) (d:=b) hi;refine zr (T172.Aj a b)<|ze (Ci hb).1 ?_;rw[VF];refine zx (fun c=>ze (Ci ha).1<|ze (Ci hb).1<|yt (T172.Ak ..)<|ze ?_<|zj<|zy rfl rfl ?_)<|fun c=>yt (T172.Ak ..)<|ze ?_<|zj<|zy rfl rfl ?_
 ·have c:zf b<0:=w6 c;have:=JA b;exact Ab (Ab (WQ ha)<|WQ hb) (w4<|by show 0<zf (Dt b);omega)
 ·have c:zf b<0:=w6 c;show Gv (Dt a) (Dt b)=Sp.iQ a b;unfold Sp.iQ;rw[wd c]
 ·have c:¬zf b<0:=w7 c;exact Ab (Ab ha hb) (w4<|by show 0<zf b;omega)
 ·have c:¬zf b<0:=w7 c;show Gv a b=Sp.iQ a b;unfold Sp.iQ;rw[wc c]
theorem Ab2[Srt]:Cv XA1:=Aa T134.ok<|Aa T162.ok<|Aa T171.ok<|Aa T172.ok AB
theorem AcG{n d:AM}(a:Bg d=true)(h0:zf d≠0):Bg (Sp.gR n d)=true/\zf (Sp.gR n d)=(qf (zf n) (zf d):Int)/\0<zf (Sp.gR n d):=by
 have e:zf (Sp.gR n d)=(qf (zf n) (zf d):Int):=by
  show zf (C8 _,C6 _)=_;rw[MP,GJ]
 have hp:0<qf (zf n) (zf d):=Int.gcd_pos_of_ne_zero_right _ h0;refine⟨GL<|Ec ?_,e,by rw[e];omega⟩;rw[GJ,Al,zh];have c:=bounds a;rw[Al]at c;have b:qf (zf n) (zf d)<=(zf d).natAbs:=Nat.gcd_le_right _ ae;omega
namespace T120
theorem Au[Srt](f z2:Int)(n d:AM)(g:Bg n=true)(b:Bg d=true)(h0:zf d≠0)(a:∀ob,Q (.agg [.dat i64 (OS n d).1.1,.dat (.nlist u64) (OS n d).1.2,.dat i64 (OS n d).2.1,.dat (.nlist u64) (OS n d).2.2]) ob):
  Ends XA1 (L1 f z2 d.1 d.2 n.1 n.2) Q:=by
 obtain⟨h,_,l⟩:=AcG (n:=n) b h0;have next:Da d=false->Ends XA1 (.ite (Bg (n.1,n.2)&&Bg (d.1,d.2)) (L2 (OD (n.1,n.2) (d.1,d.2)) (Oe (n.1,n.2) (d.1,d.2)) f z2 d.1 d.2 n.1 n.2) .fail) Q:=by
  intro i;unfold OS at a;rw[wc<|by rw[i];decide]at a;have k:∀x:AM,Bg x=true->Js x (Sp.gR n d)=true:=fun x j=>by unfold Js;exact Ab (Ab j h) (w4 ae)
  exact ze (Ab g b)<|yt (Az ..)<|ze (k n g)<|ze (k d b)<|zj<|a _
 refine yt (Ak ..)<|zx (fun c=>zx (fun e=>zj ?_)<|fun e=>next ?_)<|fun c=>next ?_
 ·have c:d.2=[]:=by simpa using c
  have e:d.1=1:=by simpa using e
  unfold OS at a;rw[wd<|by unfold Da;simp[c,e]]at a;exact a _
 ·unfold Da;rw[Bool.and_eq_false_iff];right;simpa using e
 ·unfold Da;rw[Bool.and_eq_false_iff];left;have:d.2≠[]:=by rintro k;rw[k]at c;simp at c
  simpa using this
theorem ok[Srt]:Af AY 120 dP:=by
 refine BA Ab2<|fun(i:(Int×List Int)×(Int×List Int)) hi=>?_;obtain⟨n,d⟩:=i;obtain⟨hn,hd,h0⟩:=cM (n:=n) (d:=d) hi;have vn:=JA d;refine zr (Aj n d)<|ze (Ci hd).1 ?_;rw[VF];refine zx (fun c=>ze (Ci hn).1<|ze (Ci hd).1<|Au 0 0 (Dt n) (Dt d) (WQ hn) (WQ hd) ae<|fun ob=>zy rfl rfl ?_)<|fun c=>Au 0 0 n d hn hd h0<|fun ob=>zy rfl rfl ?_
 ·have c:zf d<0:=w6 c;show OS (Dt n) (Dt d)=SQ n d;unfold SQ;rw[wd c]
 ·have c:¬zf d<0:=w7 c;show OS n d=SQ n d;unfold SQ;rw[wc c]
end T120
theorem T123.ok[Srt]:Af AY 123 Qb:=by
 refine BA G9<|fun(a:(Int×List Int)×(Int×List Int)) _=>?_;refine zr (T123.Aj a)<|zx (fun c=>zj<|zy rfl rfl ?_)<|fun c=>zj<|zy rfl rfl ?_
 ·have c:a.2.2=[]:=by simpa using c
  show(a.2.1==(1:Int))=Da a.2;unfold Da;rw[w4 c,z7];rfl
 ·have c:a.2.2≠[]:=by rintro k;rw[k]at c;simp at c
  show false=Da a.2;unfold Da;rw[w8 c,Bool.false_and]
theorem T121.ok[Srt]:Af AY 121 oP:=by
 refine BA G9<|fun(a:Int×List Int) _=>?_;exact zr (T121.Aj a)<|ze rfl (zj<|zy rfl rfl rfl)
theorem T131.ok[Srt]:Af AY 131 Acj:=by
 refine BA G9<|fun(a:(Int×List Int)×(Int×List Int)) h=>?_;exact zr (T131.Aj a)<|ze h<|zj<|zy rfl rfl rfl
theorem T73.ok[Srt]:Af AY 73 Qy:=by
 refine BA G9<|fun(i:((Int×List Int)×(Int×List Int))×((Int×List Int)×(Int×List Int))) c=>?_;obtain⟨a,b⟩:=i;have c:((OH a.1&&OH a.2)&&(OH b.1&&OH b.2))=true:=c;rw[zc,zc,zc]at c;obtain⟨⟨a1,a2⟩,b1,b2⟩:=c;obtain⟨a1,la1⟩:=Fl a1;obtain⟨a2,la2⟩:=Fl a2;obtain⟨b1,lb1⟩:=Fl b1;obtain⟨b2,lb2⟩:=Fl b2;refine zr (T73.Aj a b)<|ze (Ab a1 b2)<|ze (Ab b1 a2)<|ze (Ab (Vo la1 lb2)<|Vo lb1 la2)<|zj<|zy rfl rfl ?_;show CC (zf<|F4 a.1 b.2) (zf<|F4 b.1 a.2)=CC _ _;rw[DT,DT]
theorem GB{a:Ad}(h:yw a=true):Bg a.1=true/\Bg a.2=true/\Ai (zf a.1)<(Ar:Int)^4000/\Ai (zf a.2)<(Ar:Int)^4000/\0<zf a.2:=by
 unfold yw j7 at h;rw[zc,zc,w5]at h;obtain⟨a1,b⟩:=Fl h.1.1;obtain⟨a2,b2⟩:=Fl h.1.2;exact⟨a1,a2,b,b2,h.2⟩
theorem U1[Srt]:Cv XA2:=Aa T123.ok<|Aa T121.ok<|Aa T124.ok<|Aa T125.ok<|Aa T120.ok AB
theorem TQ{n d:AM}(b:Bg n=true)(a:Bg d=true)(h0:zf d≠0):Js n d=true:=by
 unfold Js;exact Ab (Ab b a)<|w4 h0
theorem OT{a b:AM}(c:Ai (zf a)<(Ar:Int)^4000)(d:Ai (zf b)<(Ar:Int)^4000):Bg (F4 a b)=true:=Vo c d
theorem T65.ok[Srt]:Af AY 65 S1:=by
 refine BA U1<|fun(i:((Int×List Int)×(Int×List Int))×((Int×List Int)×(Int×List Int))) c=>?_;obtain⟨a,b⟩:=i;have c:(yw a&&yw b)=true:=c;rw[zc]at c;obtain⟨a1,a2,la1,la2,a0⟩:=GB c.1;obtain⟨b1,b2,lb1,lb2,b0⟩:=GB c.2;have d:zf (F4 a.2 b.2)≠0:=by rw[DT];exact zu<|qn a0 b0
 exact zr (T65.Aj a b)<|ze (Ab a1 b1)<|ze (Ab a2 b2)<|ze (TQ (OT la1 lb1) (OT la2 lb2) d)<|zj<|zy rfl rfl rfl
namespace T59
theorem Au[Srt](j z2:Int)(a b:Ad)(e:yw a=true)(k:yw b=true)(g:∀ob f,f=SQ (ES (F4 a.1 b.2)<|F4 b.1 a.2) (F4 a.2 b.2)->Q (.agg [.dat i64 f.1.1,.dat (.nlist u64) f.1.2,.dat i64 f.2.1,.dat (.nlist u64) f.2.2]) ob):
  Ends XA2 (L1 j z2 b.1.1 b.1.2 b.2.1 b.2.2 a.1.1 a.1.2 a.2.1 a.2.2) Q:=by
 obtain⟨a1,a2,d,c,a0⟩:=GB e;obtain⟨b1,b2,lb1,lb2,b0⟩:=GB k;have h:zf (F4 a.2 b.2)≠0:=by rw[DT];exact zu<|qn a0 b0
 have i:Bg (ES (F4 a.1 b.2)<|F4 b.1 a.2)=true:=AfZ (OT d lb2) (OT lb1 c) (by rw[DT,DT];exact rM (Me d lb2)<|Me lb1 c);exact yt (Ak ..)<|ze (Ab a1 b2)<|ze (Ab b1 a2)<|ze (Ab (OT d lb2)<|OT lb1 c)<|ze (Ab a2 b2)<|ze (TQ i (OT c lb2) h)<|zj<|g _ _ rfl
theorem ok[Srt]:Af AY 59 JN:=by
 refine BA U1<|fun(i:((Int×List Int)×(Int×List Int))×((Int×List Int)×(Int×List Int))) e=>?_;obtain⟨a,b⟩:=i;have e:(yw a&&yw b)=true:=e;rw[zc]at e;obtain⟨a1,a2,la1,la2,a0⟩:=GB e.1;obtain⟨b1,b2,lb1,lb2,b0⟩:=GB e.2;have g:¬(Da a.2=true/\Da b.2=true)->Ends XA2 (L1 0 0 b.1.1 b.1.2 b.2.1 b.2.2 a.1.1 a.1.2 a.2.1 a.2.2) (Ac JN (a,b)):=fun h=>
  Au 0 0 a b e.1 e.2 (fun ob f j=>zy rfl rfl (by
   show f=B2 a b;unfold B2;rw[wc h];exact j))
 refine zr (Aj a b) (ze rfl (zx (fun c=>ze rfl (zx (fun d=>ze (Ab a1 b1)<|ze rfl (zj<|zy rfl rfl ?_))<|fun d=>g (fun k=>by have:=k.2;rw[show Da b.2=false from d]at this;cases this)))<|fun c=>g (fun k=>by have:=k.1;rw[show Da a.2=false from c]at this;cases this)));show Sp.fWh (ES a.1 b.1)=B2 a b;unfold B2;rw[wd ⟨c,d⟩]
end T59
theorem T161.ok[Srt]:Af AY 161 Acp:=by
 refine BA U1<|fun(a:(Int×List Int)×(Int×List Int)) b=>?_;have b:(yw a&&decide (zf a.1≠0))=true:=b;rw[zc,w5]at b;obtain⟨a1,a2,c,d,a0⟩:=GB b.1;exact zr (T161.Aj a)<|ze (TQ a2 a1 b.2)<|zj<|zy rfl rfl rfl
theorem Uk{a:AM}(h:qp a=true){k:Nat}(b:Ai (zf a)<(Ar:Int)^k):a.2.length<=k:=by
 rcases QO h with⟨h1,_⟩|h1
 ·rw[h1];exact Nat.zero_le _
 ·rw[<-h1];exact Li (AP _) b
theorem G1{a:AM}(h:qp a=true)(b:Ai (zf a)<(Ar:Int)^4000):OH a=true:=by
 unfold OH;exact Ab h<|w4<|Uk h b
theorem cA{a:AM}(h:qp a=true)(b:Ai (zf a)<(Ar:Int)^9000):Bg a=true:=by
 unfold Bg;exact Ab h<|w4<|Uk h b
structure Fc(f:Ad)(q:Rat):Prop where
 n:qp f.1=true
 d:qp f.2=true
 vn:zf f.1=q.num
 vd:zf f.2=(q.den:Int)
def Mn(k:Nat)(q:Rat):Prop:=Ai q.num<(Ar:Int)^k/\(q.den:Int)<(Ar:Int)^k
theorem Fc.den_pos{f:Ad}{q:Rat}(h:Fc f q):0<zf f.2:=by
 rw[h.vd];have:=q.den_pos;omega
theorem Fc.Ck{f:Ad}{q:Rat}(h:Fc f q)(a:Mn 4000 q):yw f=true:=by
 unfold yw j7;have b:Ai (zf f.2)=(q.den:Int):=by rw[h.vd,Al,zh]
 exact Ab (Ab (G1 h.n<|by rw[h.vn];exact a.1)<|G1 h.d<|by rw[b];exact a.2)<|w4 h.den_pos
theorem Y3{x y:Int}:Ai (x/y)<=Ai x:=by
 rw[Al,Al];have a:=yp x y;omega
theorem pQ{a b:AM}(d:0<zf b):zf (Gv a b)=zf a/zf b:=by
 unfold Gv;generalize l:zf a=x;generalize zf b=y at d;have f:=Int.mul_ediv_add_emod (Ai x) y;have i:=Int.emod_nonneg (Ai x)<|zu d;have j:=Int.emod_lt_of_pos (Ai x) d;split
 ·next c=>
  rw[uL,CJ,FQ];obtain⟨k,g⟩:=c;symm;rw[qq d];have e:Ai x= -x:=by rw[Al];omega
  rw[e]at f i j g ⊢;generalize -x/y=q at*;generalize -x % y=r at*;rw[Int.sub_mul,Int.neg_mul,jl q y];generalize y*q=t at*;omega
 ·next c=>
  rw[CJ];unfold Sp.sg;split
  ·next n=>
   have n:x<0:=w6 n;have g:Ai x % y=0:=qm fun h=>c ⟨n,h⟩
   symm;rw[qq d];have e:Ai x= -x:=by rw[Al];omega
   rw[g]at f;rw[e]at f ⊢;generalize -x/y=q at*;rw[Int.neg_mul,jl q y];generalize y*q=t at*;omega
  ·next n=>
   have n:¬x<0:=fun h=>n<|w4 h
   have e:Ai x=x:=by rw[Al];omega
   rw[e]
theorem ZL{a b:AM}(g:Bg a=true)(f:0<zf b):qp (Gv a b)=true:=by
 have d:=bounds g;have h:Ai (zf a)/zf b<=Ai (zf a):=Int.ediv_le_self _<|AP _;have e:0<=Ai (zf a)/zf b:=Int.ediv_nonneg (AP _)<|yy f;unfold Gv;generalize Ai (zf a)/zf b=q at*;have c:Ai q<(Ar:Int)^9000:=by
  refine yc ?_ d;rw[Al];omega
 split
 ·exact UF (Ec<|by rw[Jv];exact c) af
 ·refine(Pv (k:=9000) ?_ ae).1;unfold Sp.sg;split
  ·rw[Jv];exact c
  ·exact c
theorem Ac2{a b:AM}(c:0<zf b):zf (Sp.iQ a b)=zf a/zf b:=by
 unfold Sp.iQ;rw[wc ae];exact pQ c
theorem nZ{a b:AM}(d:Bg a=true)(c:0<zf b):qp (Sp.iQ a b)=true:=by
 unfold Sp.iQ;rw[wc ae];exact ZL d c
theorem WR{n d:AM}(i:Bg n=true)(b:Bg d=true)(h0:0<zf d):Fc (OS n d) (zq (zf n)<|zf d):=by
 have j:(zf d).sign=1:=qt h0;have h:(zq (zf n)<|zf d).num=zf n/(qf (zf n) (zf d):Int):=by
  rw[yz,j,Int.one_mul,jm]
 have f:((zq (zf n)<|zf d).den:Int)=zf d/(qf (zf n) (zf d):Int):=by
  rw[y7,wc<|zu h0,jm,Int.natCast_ediv];rw[Int.natAbs_of_nonneg<|yy h0]
 obtain⟨k,g,a⟩:=AcG (n:=n) b<|zu h0;unfold OS;split
 ·next c=>
  unfold Da at c;rw[zc,w5,w5]at c;have e:zf d=1:=by rw[BG c.1];exact c.2
  refine⟨(Ci i).1,(Ci b).1,?_,?_⟩
  ·rw[h,e,Int.gcd_one];exact(jo _).symm
  ·rw[f,e,Int.gcd_one];exact(jo _).symm
 ·refine⟨nZ i a,nZ b a,?_,?_⟩
  ·rw[Ac2 a,h,g]
  ·rw[Ac2 a,f,g]
theorem J3{n d:AM}(f:Bg n=true)(b:Bg d=true)(h0:zf d≠0):Fc (SQ n d) (zq (zf n)<|zf d):=by
 unfold SQ;split
 ·next c=>
  have h:=WR (WQ f) (WQ b) (by rw[JA];omega);rw[JA,JA]at h;have e:=Rat.divInt_mul_right (n:=zf n) (d:=zf d) (a:= -1) af;rw[Int.mul_neg,qc,Int.mul_neg,qc]at e;rw[e]at h;exact h
 ·exact WR f b ae
theorem Mn.fH{k:Nat}{f:Ad}{q:Rat}(h:Fc f q)(a:Mn k q):Ai (zf f.1)<(Ar:Int)^k/\Ai (zf f.2)<(Ar:Int)^k:=by
 rw[h.vn,h.vd];refine⟨a.1,?_⟩;rw[Al,zh];exact a.2
theorem Fc.eqd{f:Ad}{q:Rat}(h:Fc f q):zq (zf f.1) (zf f.2)=q:=by
 rw[h.vn,h.vd];exact zl q
theorem Fc.neg{f:Ad}{q:Rat}(h:Fc f q)(b:Mn 4000 q):Fc (AeD f) (-q):=by
 have a:=Mn.fH h b;have c:=ZI (k:=4000) h.n ae ae<|Uk h.n a.1;exact⟨c.1,h.d,by show zf (Dt f.1)=_;rw[JA,h.vn,q9],by show zf f.2=_;rw[h.vd,jc]⟩
theorem Mn.neg{k:Nat}{q:Rat}(h:Mn k q):Mn k (-q):=by
 unfold Mn;rw[q9,jc,Jv];exact h
theorem Fc.mul{f g:Ad}{p q:Rat}(e:Fc f p)(c:Fc g q)(sp:Mn 4000 p)(i:Mn 4000 q):Fc (FV f g) (p*q):=by
 have a:=Mn.fH e sp;have b:=Mn.fH c i;have h:=J3 (n:=F4 f.1 g.1) (d:=F4 f.2 g.2) (OT a.1 b.1) (OT a.2 b.2) (by rw[DT];exact zu<|qn e.den_pos c.den_pos);rw[DT,DT, <-Rat.divInt_mul_divInt,e.eqd,c.eqd]at h;exact h
theorem Fc.add{f g:Ad}{p q:Rat}(e:Fc f p)(i:Fc g q)(sp:Mn 4000 p)(m:Mn 4000 q):Fc (B2 f g) (p+q):=by
 have a:=Mn.fH e sp;have b:=Mn.fH i m;have o:=Fl<|G1 e.n a.1;have s:=Fl<|G1 i.n b.1;unfold B2;split
 ·next c=>
  obtain⟨j,k⟩:=c;unfold Da at j k;rw[zc,w5,w5]at j k;have t:(p.den:Int)=1:=by rw[<-e.vd,BG j.1];exact j.2
  have l:(q.den:Int)=1:=by rw[<-i.vd,BG k.1];exact k.2
  have r:zq p.num 1=p:=by have:=zl p;rw[t]at this;exact this
  have eq:zq q.num 1=q:=by have:=zl q;rw[l]at this;exact this
  have es:p+q=zq (p.num+q.num) 1:=by
   have h:=y9 p.num q.num (d₁:=1) (d₂:=1) af af;rw[r,eq,qc,qc,qc]at h;exact h
  refine⟨UF o.1 s.1,by show qp (1,BI 1)=true;rw[O0];rfl,?_,?_⟩
  ·show zf (ES f.1 g.1)=_;rw[Zw,e.vn,i.vn,es,yz];simp
  ·show zf (1,BI 1)=_;rw[O0,CJ,es,y7];simp
 ·have h:=J3 (n:=ES (F4 f.1 g.2)<|F4 g.1 f.2) (d:=F4 f.2 g.2) (AfZ (OT a.1 b.2) (OT b.1 a.2)<|by rw[DT,DT];exact rM (Me a.1 b.2)<|Me b.1 a.2) (OT a.2 b.2) (by rw[DT];exact zu<|qn e.den_pos i.den_pos);rw[Zw,DT,DT,DT, <-y9 _ _ (zu e.den_pos) (zu i.den_pos),e.eqd,i.eqd]at h;exact h
theorem Fc.sub{f g:Ad}{p q:Rat}(c:Fc f p)(b:Fc g q)(sp:Mn 4000 p)(a:Mn 4000 q):Fc (Fu f g) (p-q):=by
 rw[Rat.sub_eq_add_neg];exact c.add (b.neg a) sp a.neg
theorem Fc.inv{f:Ad}{p:Rat}(b:Fc f p)(sp:Mn 4000 p)(h0:p≠0):Fc (V2 f) p⁻¹:=by
 have a:=Mn.fH b sp;have c:=Fl<|G1 b.n a.1;have e:=Fl<|G1 b.d a.2;have h:=J3 e.1 c.1 (by rw[b.vn];exact fun h=>h0<|yu.mp h);rw[<-Rat.inv_divInt,b.eqd]at h;exact h
end Go.Pe
namespace Go.Sp
open Go.Lib
theorem Pt{P:Nat->Rd->Prop}(b:∀d,d<10->P d [zp<|48+d])(f:∀a d,0<a->d<10->P a (decDigits a)->P (10*a+d) (decDigits a++[zp<|48+d]))(n:Nat):P n (decDigits n):=by
 induction n using Nat.strongRecOn with
 |_ n c=>
  by_cases h:n<10
  ·rw[decDigits_one h];exact b n h
  ·have e:n=10*(n/10)+n % 10:=ae
   have:=f (n/10) (n % 10) ae (jk _ af) (c (n/10) ae);rw[<-GU _ _ ae (jk _ af), <-e]at this;exact this
theorem Lm:∀d:Fin 10,(zp<|48+d.1).toNat=48+d.1:=af
theorem LW{d:Nat}(h:d<10):B5 (zp<|48+d)=true/\Ly (zp<|48+d)=d:=by
 have e:(zp<|48+d).toNat=48+d:=Lm ⟨d,h⟩;unfold B5 Ly;rw[e];refine⟨?_,by omega⟩;rw[w4 ae,w4 ae];rfl
theorem kK{c:UInt8}(h:B5 c=true):c=zp (48+(Ly c).toNat)/\(Ly c).toNat<10:=by
 obtain⟨b,d⟩:=FA h;have a:(Ly c).toNat<10:=ae
 refine⟨UInt8.toNat_inj.1 ?_,a⟩;rw[Lm ⟨(Ly c).toNat,a⟩];show c.toNat=48+(Ly c).toNat;unfold Ly at*;omega
theorem TE(n:Nat):decDigits n≠[]:=Pt (P:=fun _ l=>l≠[]) (fun _ _=>by simp) (fun _ _ _ _ _=>by simp) n
theorem D6(n:Nat):As (decDigits n)=true:=by
 refine Pt (P:=fun _ l=>As l=true) (fun d h=>?_) (fun a d _ h b=>?_) n
 ·unfold As;rw[yr,(LW h).1];rfl
 ·unfold As at*;rw[List.all_append,b,yr,(LW h).1];rfl
theorem IL(n:Nat):AI 0 (decDigits n)=n:=by
 refine Pt (P:=fun n l=>AI 0 l=n) (fun d h=>?_) (fun a d _ h b=>?_) n
 ·show 10*0+Ly (zp<|48+d)=d;rw[(LW h).2];omega
 ·rw[De,b];show 10*(a:Int)+Ly (zp<|48+d)=_;rw[(LW h).2];omega
theorem mA(n:Nat)(h0:0<n):(decDigits n).getD 0 0≠48:=by
 refine Pt (P:=fun n l=>0<n->l.getD 0 0≠48) (fun d h h0=>?_) (fun a d g _ i _=>?_) n h0
 ·show zp (48+d)≠48;intro e;have:=Lm ⟨d,h⟩;have j:=wi zt e;rw[show(zp<|48+d).toNat=48+d from this]at j;have:(48:UInt8).toNat=48:=rfl;omega
 ·have b:=i g;cases f:decDigits a with
  |nil=>exact wh f<|TE a
  |cons c r=>rw[f]at b;exact b
theorem VG(n:Nat):A2 (decDigits n)=true:=by
 unfold A2;rw[D6,w4<|TE n];rcases yd n with rfl|h
 ·rw[decDigits_one af];rfl
 ·rw[w4<|mA n h];rfl
theorem GR{s:Rd}(h:A2 s=true):s≠[]/\As s=true/\(s.getD 0 0≠48\/s=[48]):=by
 unfold A2 at h;rw[zc,zc,w5,qd,w5,w5]at h;exact⟨h.1.1,h.1.2,h.2⟩
theorem JY{s:Rd}(h:A2 s=true)(h0:s≠[48]):0<AI 0 s:=by
 obtain⟨d,a,b⟩:=GR h;cases s with
 |nil=>exact wh rfl d
 |cons c r=>
  have f:(c::r).getD 0 0=c:=rfl;rw[f]at b;have g:c≠48:=by
   rcases b with x|x
   ·exact x
   ·exact wh x h0
  unfold As at a;rw[yr,zc]at a;have e:=FA a.1;have hr:As r=true:=a.2;have k:=Bn hr;show 0<AI (10*0+Ly c) r;rw[E3];have hp:(0:Int)<10^r.length:=Int.pow_pos af;have l:c.toNat≠48:=fun x=>g<|UInt8.toNat_inj.1 x
  have i:0<10*0+Ly c:=by show 0<10*0+((c.toNat:Int)-48);have j:0<=((c.toNat:Int)-48):=e.1;omega
  have:=qn i hp;omega
theorem RT{s:Rd}(h:A2 s=true):s=decDigits (AI 0 s).toNat:=by
 generalize d:s.length=n;induction n generalizing s with
 |zero=>exact wh (z8.1 d) (GR h).1
 |succ n m=>
  obtain⟨l,b,p⟩:=GR h;obtain⟨t,c,rfl⟩:∃t c,s=t++[c]:=⟨_,_,(List.dropLast_concat_getLast l).symm⟩;unfold As at b;rw[List.all_append,zc,yr,zc]at b;obtain⟨h4,h5,_⟩:=b;obtain⟨b1,b2⟩:=kK h5;obtain⟨d1,_⟩:=FA h5;rw[De];show t++[c]=decDigits (10*AI 0 t+Ly c).toNat;by_cases a:t=[]
  ·subst a;show[c]=decDigits (10*0+Ly c).toNat;rw[show(10*0+Ly c).toNat=(Ly c).toNat by omega,decDigits_one b2, <-b1]
  ·have g:(t++[c]).getD 0 0=t.getD 0 0:=by
    cases t with
    |nil=>exact wh rfl a
    |cons x r=>rfl
   have i:t.getD 0 0≠48:=by
    rcases p with x|x
    ·rw[g]at x;exact x
    ·have j:=wi ym x;rw[zi]at j;have q:t.length+1=1:=j;exact wh (z8.1 ae) a
   have f:A2 t=true:=by
    unfold A2 As;rw[w4 a,h4,w4 i];rfl
   have hp:=JY f (fun k=>i (by rw[k];rfl));have o:=m f (by rw[zi]at d;simpa using d);have e:(10*AI 0 t+Ly c).toNat=10*(AI 0 t).toNat+(Ly c).toNat:=ae
   rw[e,GU _ _ ae b2, <-o, <-b1]
theorem Aeq:∀ {a:Rd},(∀c∈a,c≠47)->AJ a=a/\A1 a=[]/\BR a=false:=by
 intro a h;have b:BR a=false:=by
  unfold BR;rw[List.any_eq_false];intro x d;simpa using h x d
 exact⟨((Go.Pe.BX a).2.2 b).1,((Go.Pe.BX a).2.2 b).2,b⟩
theorem Abn:∀ {a:Rd} (b:Rd),(∀c∈a,c≠47)->AJ (a++47::b)=a/\A1 (a++47::b)=b/\BR (a++47::b)=true:=by
 intro a b h;have d:BR (a++47::b)=true:=by
  unfold BR;rw[List.any_eq_true];exact⟨47,by simp,rfl⟩
 have g:∀ {a:Rd},(∀c∈a,c≠47)->AJ (a++47::b)=a:=by
  intro a;induction a with
  |nil=>intro _;show AJ (47::b)=[];rw[je,wd rfl]
  |cons x r f=>
   intro h;show AJ (x::(r++47::b))=_;rw[je,wc (h x (by simp)),f<|fun c d=>h c<|List.mem_cons_of_mem _ d]
 have e:=g h;refine⟨e,?_,d⟩;rw[((Go.Pe.BX _).2.1 d).2,e];simp
theorem Tw{s:Rd}(h:As s=true):∀c∈s,c≠47:=by
 intro c a e;unfold As at h;rw[List.all_eq_true]at h;have:=h c a;rw[e]at this;exact wh this af
theorem Gq{s:Rd}(h:As s=true):s.getD 0 0≠45:=by
 cases s with
 |nil=>decide
 |cons c r=>
  unfold As at h;rw[yr,zc]at h;show c≠45;intro e;rw[e]at h;exact wh h.1 af
def AO(q:Rat):Rd:=if q.den=1 then itoa q.num else itoa q.num++47::decDigits q.den
def Ao(s:Rd):Rat:=zq (Bo s)<|AZ s
theorem Dy(n:Int):(∀c∈itoa n,c≠47)/\A9 (itoa n)=decDigits n.natAbs/\preB (itoa n)=decide (n<0)/\BU (itoa n)=n:=by
 unfold itoa;by_cases h:n<0
 ·rw[wd h];refine⟨fun c a=>?_,rfl,(w4 h).symm,?_⟩
  ·rcases List.mem_cons.1 a with rfl|a
   ·decide
   ·exact Tw (D6 _) c a
  ·show -AI 0 (decDigits n.natAbs)=n;rw[IL];omega
 ·rw[wc h];have b:=Gq<|D6 n.toNat;have e:n.toNat=n.natAbs:=ae
  refine⟨Tw<|D6 _,?_,?_,?_⟩
  ·unfold A9;rw[wc b,e]
  ·unfold preB;rw[w8 b,w8 h]
  ·unfold BU;rw[wc b,IL];omega
theorem FE(q:Rat):AJ (AO q)=itoa q.num/\A1 (AO q)=(if q.den=1 then[]else decDigits q.den)/\BR (AO q)=decide (q.den≠1):=by
 unfold AO;have h:=(Dy q.num).1;by_cases a:q.den=1
 ·rw[wd a,wd a,w8<|not_not_intro a];exact Aeq h
 ·rw[wc a,wc a,w4 a];exact Abn _ h
theorem Lh(q:Rat):Bo (AO q)=q.num/\AZ (AO q)=q.den:=by
 obtain⟨b,c,d⟩:=FE q;unfold Bo AZ;rw[b,c,d];refine⟨(Dy q.num).2.2.2,?_⟩;by_cases a:q.den=1
 ·rw[wc (by simpa using a),a];rfl
 ·rw[wd<|w4 a,wc a];unfold BU;rw[wc<|Gq<|D6 _,IL]
theorem DH(q:Rat):Ao (AO q)=q:=by
 unfold Ao;rw[(Lh q).1,(Lh q).2];exact zl q
theorem gQ{p q:Rat}(h:AO p=AO q):p=q:=by
 rw[<-DH p,h,DH]
theorem TK(a:Rd):AJ (A9 a)=A9 (AJ a)/\A1 (A9 a)=A1 a/\BR (A9 a)=BR a/\preB (AJ a)=preB a:=by
 unfold A9 preB;cases a with
 |nil=>exact⟨rfl,rfl,rfl,rfl⟩
 |cons c r=>
  have f:(c::r).getD 0 0=c:=rfl;rw[f,je];by_cases b:c=45
  ·subst b;have e:A1 (45::r)=A1 r:=by
    unfold A1;rw[List.findIdx?_cons];cases r.findIdx? (fun x=>x==47)<;>rfl
   exact⟨rfl,e.symm,rfl,rfl⟩
  ·rw[wc b];by_cases d:c=47
   ·subst d;exact⟨(je _ _),rfl,rfl,rfl⟩
   ·rw[wc d];have g:(c::AJ r).getD 0 0=c:=rfl;rw[g,wc b];exact⟨by rw[je,wc d],rfl,rfl,rfl⟩
theorem Zi{a:Rd}(h:Ap a=0):Hf a=true/\(AJ<|A9 a).length<=600/\(A1<|A9 a).length<=600/\(BR (A9 a)=true->gI (AbZ a) (AbQ a)=1):=by
 unfold Ap at h;cases b:Hf a with
 |false=>rw[wd b]at h;exact wh h af
 |true=>
  rw[wc<|by rw[b];decide]at h;split at h
  ·exact wh h af
  ·next c=>
   split at h
   ·exact wh h af
   ·next d=>exact⟨rfl,by omega,by omega,fun k=>qm fun g=>d ⟨k,g⟩⟩
def C3(k:Nat)(q:Rat):Prop:=q.num.natAbs<10^k/\q.den<10^k
theorem RB{n d:Int}(a:0<d)(h:qf n d=1):(zq n d).num=n/\((zq n d).den:Int)=d:=by
 have b:d.sign=1:=qt a;rw[yz,y7,wc<|zu a,b,Int.one_mul,jm,h];refine⟨jo _,?_⟩;rw[Nat.div_one,Int.natAbs_of_nonneg<|yy a]
theorem Rg{s:Rd}(h:As s=true){k:Nat}(a:s.length<=k):(AI 0 s).toNat<10^k:=by
 have b:=Bn h;have c:(10:Int)^s.length<=10^k:=AT af a;have d:((10^k:Nat):Int)=(10:Int)^k:=by simp
 omega
theorem LB(k:Nat)(h:k≠0):(1:Int).toNat<10^k:=Nat.one_lt_pow h af
theorem Aa8:decDigits (yi 1)=[49]:=by rw[show yi 1=1 from rfl,decDigits_one af];rfl
theorem Ny{s:Rd}(h:Ap s=0):AO (Ao s)=s/\(Ao s).num=Bo s/\((Ao s).den:Int)=AZ s/\C3 600 (Ao s):=by
 obtain⟨u,l1,y,j⟩:=Zi h;obtain⟨p1,p2,p3,p4⟩:=TK s;unfold Hf at u;rw[zc,zc]at u;obtain⟨⟨fa,fm⟩,b⟩:=u;unfold AbZ AbQ at j;obtain⟨A,hA⟩:∃A,A=AJ (A9 s):=⟨_,rfl⟩;obtain⟨B,hB⟩:∃B,B=A1 (A9 s):=⟨_,rfl⟩;rw[<-hA]at fa fm l1 j;rw[<-hB]at b y j;rw[p3]at b j;have z:=(GR fa).2.1;have C:=RT fa;have v0:=Bn z;have f:Bo s=(if preB s=true then -AI 0 A else AI 0 A)/\AJ s=(if preB s=true then 45::A else A):=by
  have U:A=A9 (AJ s):=by rw[hA,p1]
  unfold Bo BU;rw[<-p4];unfold preB;rw[U];unfold A9;by_cases a:(AJ s).getD 0 0=45
  ·rw[wd a,wd<|w4 a,wd a,wd<|w4 a];refine⟨rfl,?_⟩;cases D:AJ s with
   |nil=>rw[D]at a;exact wh a af
   |cons c r=>
    rw[D]at a;have a:c=45:=a;rw[a];rfl
  ·rw[wc a,wc (by rw[w8 a];decide),wc a,wc<|by rw[w8 a];decide];exact⟨rfl,rfl⟩
 have q:(Bo s).natAbs=(AI 0 A).toNat:=by rw[f.1];split<;>omega
 have F:0<AZ s/\(AZ s).toNat<10^600/\qf (Bo s) (AZ s)=1/\(BR s=true->B=decDigits (AZ s).toNat/\AZ s≠1)/\(BR s=false->AZ s=1):=by
  unfold AZ;rw[<-p2, <-hB];cases a:BR s with
  |false=>
   rw[wc af];exact⟨by decide,LB 600 af,Int.gcd_one,(fun k=>by cases k),fun _=>rfl⟩
  |true=>
   rw[a]at b;have b:(A2 B&&decide (B≠[48])&&decide (B≠[49]))=true:=b;rw[zc,zc,w5,w5]at b;obtain⟨⟨l,O⟩,N⟩:=b;have w:=(GR l).2.1;have hp:=JY l O;have P:BU B=AI 0 B:=by unfold BU;rw[wc<|Gq w]
   rw[wd rfl,P];refine⟨hp,Rg (k:=600) w y,?_,fun _=>⟨RT l,?_⟩,(fun k=>by cases k)⟩
   ·have g:=j a;rw[GJ]at g;have g:qf (AI 0 A) (AI 0 B)=1:=ae
    rw[f.1];split
    ·rw[Int.neg_gcd];exact g
    ·exact g
   ·intro e;have:=RT l;rw[e]at this;exact N<|this.trans Aa8
 obtain⟨L,S,R,E,J⟩:=F;obtain⟨i,p⟩:=RB (n:=Bo s) L R;have i:(Ao s).num=Bo s:=i;have p:((Ao s).den:Int)=AZ s:=p;have x:(Ao s).den=(AZ s).toNat:=ae
 refine⟨?_,i,p,?_,?_⟩
 ·have M:itoa (Bo s)=AJ s:=by
   rw[f.2];unfold itoa;by_cases d:preB s=true
   ·have m:A≠[48]:=by
     have o:preB s=true:=d;rw[o]at fm;simpa using fm
    have:=JY fa m;rw[f.1,wd d,wd d,wd ae,Int.natAbs_neg];rw[show(AI 0 A).natAbs=(AI 0 A).toNat by omega, <-C]
   ·rw[f.1,wc d,wc d,wc ae, <-C]
  unfold AO;rw[i,x,M];obtain⟨v,K,H⟩:=Go.Pe.BX s;cases a:BR s with
  |false=>
   rw[J a,wd<|show yi 1=1 from rfl];exact(H a).1
  |true=>
   obtain⟨I,W⟩:=E a;obtain⟨m1,m2⟩:=K a;rw[wc ae, <-I,hB,p2,m2];have V:s.drop (AJ s).length=47::s.drop ((AJ s).length+1):=by
    have h0:∀t:Rd,BR t=true->t.drop (AJ t).length=47::t.drop ((AJ t).length+1):=by
     intro t;induction t with
     |nil=>intro h;cases h
     |cons c r G=>
      intro h;rw[je];by_cases e:c=47
      ·rw[wd e,e];rfl
      ·rw[wc e];have T:BR r=true:=by
        unfold BR at h ⊢;rw[List.any_cons]at h;simpa [e]using h
       exact G T
    exact h0 s a
   rw[<-V];conv=>lhs;rw[v]
   have:=List.take_append_drop (AJ s).length s;rw[<-v]at this ⊢;exact this
 ·rw[i,q];exact Rg (k:=600) z l1
 ·rw[x];exact S
def AX(n:Int):Rd:=zm n
def OU(s:Rd)(n:Int):Rd:=jf s n.toNat
end Go.Sp
namespace Go.Pe
open Go.Det
def uS:Am:=⟨[i64],fun n=>Sp.Cn n,[.str],fun n=>Sp.AX n,false⟩
def VM:Am:=⟨[u64,i64],fun i=>decide (0<=i.1)&&decide (i.1<1000000000000000000)&&decide (i.2=10),[.str],fun i=>Sp.AX i.1,false⟩
def Ui:Am:=⟨[.str,i64],fun i=>decide (0<=i.2)&&decide (i.2<=18)&&decide ((i.1:Rd)=[48]),[.str],fun i=>Sp.OU i.1 i.2,false⟩
def AeN:Am:=⟨[A4],fun a=>Sp.Bg a,[.str],fun a=>Sp.AX<|zf a,false⟩
def R6[Srt]:AL:=X7 [(209,uS),(173,Q1),(210,G2),(211,VM),(212,Ui)]
open Sp
section
open List Int Prod
namespace T170
def T[Srt](a:AM):Tr:=tree R6 false 9 170<|Ag ([A4]) a
def L1[Srt](v3:Bool)(v4:List Int)(a:Nat)(b:List Int):Tr:=re ((T (0,[])).R.L)<|Ax 69 [(3,.dat Sh.bool v3),(4,.dat (Sh.list<|Sh.int jg) v4),(5,.sl 0 1 0 a none),(6,.nil)] [(0,.arr false 217 (Sh.int jg) b)] 1
theorem Aj[Srt](a:AM):T a=.ite (!decide (0<length (snd a))) (.ck (Cn<|fst a)<|.leaf (.dat zk<|AX<|fst a) []) (.ck (qp a)<|L1 (decide (zf a<0)) (BD<|Ai<|zf a) 1<|[1000000000000000000]):=by kernel_rfl
def L2[Srt](v3:Bool)(v4:List Int)(a b:Nat)(o1:List Rd)(c:List Int):Tr:=re ((stepT R6<|L1 false [] 0 []).L.L.L.L.L.L.L.L.L)<|Ax 69 [(3,.dat Sh.bool v3),(4,.dat (Sh.list<|Sh.int jg) v4),(5,.sl 0 1 0 a none),(6,.sl 1 1 0 b none)] [(1,.arr false 9 zk o1),(0,.arr true 217 (Sh.int jg) c)] 2
def L3[Srt](a:Int)(o1:List Int)(b:Nat):Tr:=re ((stepT R6<|L1 false [] 0 []).R.L.L.L)<|Ax 69 [(6,.nil),(10,.ptr 0 0),(11,.dat i64 a)] [(1,.arr false 5 (Sh.int IntKind.u8) o1),(0,jh 253 [.ptr 0 0,.sl 1 1 0 b none])] 2
def L4[Srt](a:Int):Tr:=re ((stepT R6<|L1 false [] 0 []).R.L.R)<|Ax 69 [(6,.nil),(10,.ptr 0 0),(11,.dat i64 a)] [(0,jh 253 [.ptr 0 0,.nil])] 1
def L5[Srt](a:Int):Tr:=re ((stepT R6<|L1 false [] 0 []).R.R)<|Ax 69 [(6,.nil),(10,.ptr 0 0),(11,.dat i64 a)] [(0,jh 253 [PV.nilp,.nil])] 1
theorem Ak[Srt](v3:Bool)(v4:List Int)(a:Nat)(c:List Int):stepT R6 (L1 v3 v4 a c)=let d:=BD<|Aw v4 % Aw (take a c);let b':=BD<|Aw v4/Aw (take a c);let g:=aa 16;let f:=zg .i64<|0-1;let h:=AX<|getD d 0 0;let e:=18-(↑(length h):Int);.di ((length v4:Int)>0) (.ck (decide (0+a<=length c)&&true&&Vr v4 (take a c))<|.di ((↑(length d):Int)>0) (.cd (0<(↑(length d):Int))<|.ck (decide ((0:Sh.T u64)<=getD d 0 0)&&decide (getD d 0 0<(1000000000000000000:Sh.T u64))&&decide (10=10))<|.di ((↑(length b'):Int)>0) (.ck (decide (0<=zg .i64 e)&&decide (zg .i64 e<=18)&&decide ([(48:UInt8)]=[(48:UInt8)]))<|.cd (length (OU [(48:UInt8)]<|zg .i64 e)+length h<=4611686018427387904)<|.ck g<|L2 v3 b' a 1 ([OU [(48:UInt8)] (zg .i64 e)++AX (getD d 0 0)]) c)<|.ck g<|L2 v3 b' a 1 ([AX<|getD d 0 0]) c)<|.di ((↑(length b'):Int)>0) (.ck true<|.ck true<|.ck true<|L2 v3 b' a 1 ([OU [(48:UInt8)] (zg .i64<|18-1)++[(48:UInt8)]]) c)<|.ck true<|L2 v3 b' a 1 ([[(48:UInt8)]]) c) (.ite v3 (.ite true (.ck true<|L3 f (ya (fun b=>(↑(zt b):Int)) [(45:UInt8)]) 1)<|L4 f)<|L5 f):=by kernel_rfl
def L6[Srt](c:Nat)(a:Int)(e:List Int)(b:Nat)(d:List Rd):Tr:=re ((stepT R6<|L2 false [] 0 0 [] []).R.L.L.L)<|Ax 69 [(6,.sl 0 1 0 c none),(10,.ptr 1 0),(11,.dat i64 a)] [(2,.arr false 5 (Sh.int IntKind.u8) e),(1,jh 253 [.ptr 1 0,.sl 2 1 0 b none]),(0,.arr false 9 zk d)] 3
def L7[Srt](b:Nat)(a:Int)(c:List Rd):Tr:=re ((stepT R6<|L2 false [] 0 0 [] []).R.L.R)<|Ax 69 [(6,.sl 0 1 0 b none),(10,.ptr 1 0),(11,.dat i64 a)] [(1,jh 253 [.ptr 1 0,.nil]),(0,.arr false 9 zk c)] 2
def L8[Srt](b:Nat)(a:Int)(c:List Rd):Tr:=re ((stepT R6<|L2 false [] 0 0 [] []).R.R)<|Ax 69 [(6,.sl 0 1 0 b none),(10,.ptr 1 0),(11,.dat i64 a)] [(1,jh 253 [PV.nilp,.nil]),(0,.arr false 9 zk c)] 2
theorem Az[Srt](v3:Bool)(v4:List Int)(a c:Nat)(o1:List Rd)(d:List Int):stepT R6 (L2 v3 v4 a c o1 d)=let e:=BD<|Aw v4 % Aw (take a d);let b':=BD<|Aw v4/Aw (take a d);let h:=decide ((3*(c+1)+2000)*16<=562949953421312);let i:=zg .i64<|(↑c:Int)-1;let j:=decide (c=length o1);let g:=Nat.add c 1;let h':=decide (1<=1)&&true&&j&&h;let k:=AX<|getD e 0 0;let f:=18-(↑(length k):Int);.di ((length v4:Int)>0) (.ck (decide (0+a<=length d)&&true&&Vr v4 (take a d))<|.di ((↑(length e):Int)>0) (.cd (0<(↑(length e):Int))<|.ck (decide ((0:Sh.T u64)<=getD e 0 0)&&decide (getD e 0 0<(1000000000000000000:Sh.T u64))&&decide (10=10))<|.di ((↑(length b'):Int)>0) (.ck (decide (0<=zg .i64 f)&&decide (zg .i64 f<=18)&&decide ([(48:UInt8)]=[(48:UInt8)]))<|.cd (length (OU [(48:UInt8)]<|zg .i64 f)+length k<=4611686018427387904)<|.ck h'<|L2 v3 b' a g (o1++[OU [(48:UInt8)] (zg .i64 f)++AX (getD e 0 0)]) d)<|.ck h'<|L2 v3 b' a g (o1++[AX<|getD e 0 0]) d)<|.di ((↑(length b'):Int)>0) (.ck true<|.ck true<|.ck (j&&h)<|L2 v3 b' a g (o1++[OU [(48:UInt8)] (zg .i64<|18-1)++[(48:UInt8)]]) d)<|.ck (j&&h)<|L2 v3 b' a g (o1++[[(48:UInt8)]]) d) (.ite v3 (.ite true (.ck true<|L6 c i (ya (fun b=>(↑(zt b):Int)) [(45:UInt8)]) 1 o1)<|L7 c i o1)<|L8 c i o1):=by kernel_rfl
theorem EW[Srt](d:Nat)(c:Int)(e:List Int)(a:Nat)(f:List Rd):stepT R6 (L6 d c e a f)=let g:=getD f (toNat c) [];.di (c>=0) (.ck (decide (0<=c)&&decide (c<(↑d:Int)))<|.cd (toNat c<length f)<|.ck (decide (a=length e)&&decide ((3*(a+length (ya (fun b=>(↑(zt b):Int)) g))+2000)*1<=562949953421312))<|L6 d (zg .i64<|c-1) (e++ya (fun b=>(↑(zt b):Int)) g) (Nat.add a<|length<|ya (fun b=>(↑(zt b):Int)) g) f) (.cd (0<a)<|.ck (decide (0<(↑a:Int))&&decide (toNat (↑a:Int)<=length e)&&decide (toNat (↑a:Int)<=9223372036854775807)&&List.all e fun x=>decide (0<=x)&&decide (x<256))<|.leaf (.dat zk<|ya (fun x=>zp<|toNat x)<|take (toNat (↑a:Int)) e) []):=by kernel_rfl
theorem HG[Srt](c:Nat)(a:Int)(d:List Rd):stepT R6 (L8 c a d)=let e:=getD d (toNat a) [];let b':=zg .i64<|a-1;.cd (a>=0) (.ck (decide (0<=a)&&decide (a<(↑c:Int)))<|.cd (toNat a<length d)<|.di (0<length (ya (fun b=>(↑(zt b):Int)) e)) (.cd ((3*length (ya (fun b=>(↑(zt b):Int)) e)+2000)*1<=562949953421312)<|L6 c b' (ya (fun b=>(↑(zt b):Int)) e) (length<|ya (fun b=>(↑(zt b):Int)) e) d)<|L7 c b' d):=by kernel_rfl
end T170
end
theorem Tx[Srt]{f:FuncId}{sp:Am}{q:List V->H->Option (V×H)}(hp:AY.prim f=none)(g:∃i,AY.fn f=some i)(n:AY.spec f=some q)
  (c:∀(F:Fz) (h:H) (args:List V) (i:(By sp.ins).T),Gh h->Lr F (Ag sp.ins i) args->sp.pre i=true->∃v,q args h=some (v,h)/\PC F (one<|Ag sp.outs<|sp.f i) v):Af AY f sp:=by
 refine .of0 ⟨hp,g,fun F h args i j e d a b=>?_⟩;obtain⟨v,l,o⟩:=c F h args i d a b;refine⟨[(v,h)],1,fun m r=>?_,fun _=>⟨_,rfl⟩,fun x p=>?_⟩
 ·obtain⟨k,rfl⟩:∃k,m=k+1:=⟨m-1,by omega⟩;rw[Bh];simp only[n,l]
 ·cases ye.1 p;exact⟨zz _,fun _ _=>rfl,e,F,fun _ _ h=>h,fun _ _ h=>.inl h,j,o⟩
theorem AfV:∃cs t fz,(5,O.cells cs t fz)∈FI/\eqU cs Lib.pow10Tab=true:=⟨_,_,_,qj ..,by kernel_rfl⟩
theorem bJ{h:H}(b:Gh h):Vu h=true:=by
 obtain⟨cs,t,fz,a,c⟩:=AfV;have d:=b _ a;unfold Vu;rw[d];exact c
theorem Aa3[Srt]:Af AY 209 uS:=by
 refine Tx (q:=dZ) ag (Bd ag) rfl fun F h args (n:Int) hg a hp=>?_
 have hp:Sp.Cn n=true:=hp;have a:args=[.int .i64 n]:=by
  have:=a (fun _=>none) 0;simp only[Ag,uS,BT]at this;obtain⟨v,vs,rfl,b,rfl⟩:=this;obtain rfl:=CX b;rfl
 subst a;refine⟨.str<|zm n,?_,fun ρ N=>NC _⟩;have:=Fa hp;have d:decide (-9223372036854775808<=n)=true:=w4 ae;have c:decide (n<=9223372036854775807)=true:=w4 ae;simp only[dZ,bJ hg,d,c,Bool.and_self,we]
theorem iO[Srt]:Af AY 212 Ui:=by
 refine .of0 ⟨by kernel_rfl,Bd ag,fun F h args (i:Rd×Int) hfz hlt hgh a hp=>?_⟩;obtain⟨s,n⟩:=i;have hp:(decide (0<=n)&&decide (n<=18)&&decide (s=[48]))=true:=hp;rw[zc,zc,w5,w5,w5]at hp;obtain⟨⟨h0,h1⟩,rfl⟩:=hp;obtain⟨c,rfl⟩:=yx h0;have a:args=[.str [48],.int .i64 (c:Int)]:=by
  have:=a (fun _=>none) 0;simp only[Ag,Ui,BT]at this;obtain⟨v,vs,rfl,g,w,ws,rfl,f,rfl⟩:=this;obtain rfl:=FU g;obtain rfl:=CX f;rfl
 subst a;have fl:∀c,List.replicate c 48=jf [48] c:=fun c=>by
  induction c with
  |zero=>rfl
  |succ c e=>rw[jf, <-e];rfl
 refine⟨[(.str<|Sp.OU [48] (c:Int),h)],1,fun m k=>?_,fun _=>⟨_,rfl⟩,fun x j=>?_⟩
 ·obtain⟨b,rfl⟩:∃b,m=b+1:=⟨m-1,by omega⟩;have d:AY.spec 212=some fun args h=>bif wM h FI then(match FM MRp 212 args with|some v=>some (v,h)|none=>none)else none:=rfl
  rw[Bh];simp only[d,tV hgh,we,jU<|show c<19 by omega];unfold Sp.OU;rw[yj,fl]
 ·cases ye.1 j;exact⟨zz _,fun _ _=>rfl,hlt,F,fun _ _ h=>h,fun _ _ h=>.inl h,hfz,fun ρ N=>NC _⟩
theorem kR[Srt]:Af AY 211 VM:=by
 refine Tx (q:=fmtQ) ag (Bd ag) rfl fun F h args (i:Int×Int) hg a hp=>?_
 obtain⟨u,b⟩:=i;have hp:(decide (0<=u)&&decide (u<1000000000000000000)&&decide (b=10))=true:=hp;rw[zc,zc,w5,w5,w5]at hp;obtain⟨⟨h0,h1⟩,rfl⟩:=hp;obtain⟨c,rfl⟩:=yx h0;have a:args=[.int .u64 (c:Int),.int .i64 10]:=by
  have:=a (fun _=>none) 0;simp only[Ag,VM,BT]at this;obtain⟨v,vs,rfl,g,w,ws,rfl,f,rfl⟩:=this;obtain rfl:=CX g;obtain rfl:=CX f;rfl
 subst a;refine⟨.str<|Sp.AX (c:Int),?_,fun ρ N=>NC _⟩;have d:Nat.ble c 18446744073709551615=true:=Nat.ble_eq_true_of_le ae;have e:Sp.AX (c:Int)=zd c:=qy _;rw[e];show(bif Vu h&&(Nat.ble c 18446744073709551615&&Nat.beq 10 10)then some (V.str<|zd c,h)else none)=_;rw[bJ hg,d];rfl
namespace T170
abbrev wS(s:Rd):List Int:=ya (fun b=>(↑(zt b):Int)) s
theorem V8:∀s:Rd,ya (fun x:Int=>zp<|yi x) (wS s)=s
 |[]=>rfl
 |b::s=>by
  have:=V8 s;simp only[wS,List.map_cons]at this ⊢;rw[this];simp
theorem bC:∀s:Rd,(List.all (wS s) fun x=>decide ((0:Int)<=x)&&decide (x<(256:Int)))=true
 |[]=>rfl
 |b::s=>by
  have a:=bC s;have c:=b.toNat_lt;simp only[wS,List.map_cons,yr]at a ⊢;rw[a,Bool.and_true,zc,w5,w5];omega
theorem wW(a b:Rd):wS a++wS b=wS (a++b):=by simp[wS]
theorem Fk[Srt](c:List Rd)(T:Rd)(q:T.length<=1000000)(o:c.length<=1000000)(h:∀ob,Q (.dat .str T) ob):∀(i:Nat) (a:Rd) (b:Int) (n:Nat),i<=c.length->b=(i:Int)-1->n=a.length->0<a.length->a++(c.take i).reverse.flatten=T->
  Ends R6 (L6 c.length b (wS a) n c) Q
 |0,a,b,n,_,p,g,h0,d=>by
  have d:a=T:=by simpa using d
  subst d g;refine yt (EW ..) (qu (w8 ae)<|ze (w4 h0)<|ze (Ab (Ab (Ab (w4 ae)<|w4<|by simp)<|w4<|by simp;omega)<|bC a)<|zj ?_);have e:ya (fun x:Int=>zp<|yi x) (qi (yi (a.length:Int))<|wS a)=a:=by
   rw[yj,qv (by simp),V8]
  rw[e];exact h _
 |i+1,a,b,n,k,p,g,h0,d=>by
  have m:j0 c (yi b) []=c[i]:=by
   rw[show yi b=i from by omega];simp[show i<c.length from k]
  have j:a++c[i]++(c.take i).reverse.flatten=T:=by
   have l:c.take (i+1)=c.take i++[c[i]]:=y8 k;rw[<-d,l,List.reverse_append,qw,List.singleton_append,qo,yk]
  have f:=wi ym j;simp only[zi]at f;refine yt (EW ..) (ze (w4 ae)<|ze (ad ae ae)<|ze (w4 ae) ?_);rw[m];refine ze (Ab (w4<|by simp[g])<|w4<|by rw[yv];omega) ?_;rw[wW,wr (b-1) ae ae];exact Fk c T q o h i (a++c[i]) (b-1) _ ae ae (by rw[zi,yv,g];rfl) (by rw[zi];omega) j
theorem Gc[Srt](a:List Rd)(T:Rd)(n:T.length<=1000000)(j:a.length<=1000000)(k:∀ob,Q (.dat .str T) ob)(i:Nat)(l:i+1=a.length)(b:Int)(o:b=(i:Int))(c:0<(a[i]'ae).length)(h:a.reverse.flatten=T):
  Ends R6 (L8 a.length b a) Q:=by
 have d:i<a.length:=ae
 have m:j0 a (yi b) []=a[i]:=by
  rw[show yi b=i from by omega];simp[d]
 have f:a[i]++(a.take i).reverse.flatten=T:=by
  have g:a.take (i+1)=a.take i++[a[i]]:=y8 d;rw[l,List.take_length]at g;rw[<-h];conv=>rhs;rw[g]
  rw[List.reverse_append,qw,List.singleton_append,qo]
 have e:=wi ym f;simp only[zi]at e;refine yt (HG ..) (ze (w4 ae)<|ze (ad ae ae)<|ze (w4 ae) ?_);rw[m];refine ze (w4<|by rw[yv];exact c) (ze (w4<|by rw[yv];omega) ?_);rw[wr (b-1) ae ae];exact Fk a T n j k i a[i] (b-1) _ ae ae (by rw[yv]) c f
end T170
theorem Wj{r:Int}(h0:0<r)(c:r<18446744073709551616):BD r=[r]:=by
 have e:AA Ar [r]:=by
  intro x a;rw[ye]at a;subst a;exact⟨by omega,c⟩
 have f:Sp.nz [r]:=by
  unfold Sp.nz;simp;omega
 have:=I5 (b:=Ar) af e f;have d:Sp.val Ar [r]=r:=by simp[Sp.val]
 rw[d]at this;exact this.symm
theorem LV:BD 0=[]:=by
 unfold BD;rfl
theorem QN:Aw [1000000000000000000]=1000000000000000000:=by simp[Aw,Sp.val]
theorem gX(n:Nat):OU [48] (n:Int)=List.replicate n 48:=by
 unfold OU;rw[yj];induction n with
 |zero=>rfl
 |succ n a=>rw[jf,a];rfl
theorem UP(V:Nat):Aw (BD (V:Int))=(V:Int):=Di (b:=Ar) af ae
theorem tX{V:Nat}(a:(V:Int)<(Ar:Int)^9000):Vr (BD (V:Int)) [1000000000000000000]=true:=by
 obtain⟨n1,d,c⟩:=Dm (n:=(V:Int)) ae a ae;have b:=Li (n:=(V:Int)) ae a;unfold Vr;refine Ab (Ab (Ab (Ab n1 ?_)<|w4 b)<|w4 af) (w4<|by rw[QN];decide);decide
theorem Wv(V:Nat):BD (Aw (BD (V:Int))/Aw (qi 1 [1000000000000000000]))=BD ((V/10^18:Nat):Int):=by
 rw[UP,show qi 1 [(1000000000000000000:Int)]=[1000000000000000000]from rfl,QN];congr 1
theorem VO(V:Nat):BD (Aw (BD (V:Int)) % Aw (qi 1 [1000000000000000000]))=BD ((V % 10^18:Nat):Int):=by
 rw[UP,show qi 1 [(1000000000000000000:Int)]=[1000000000000000000]from rfl,QN];congr 1
theorem J7{V:Nat}(h:0<V):0<(BD (V:Int)).length:=by
 rcases yd (BD (V:Int)).length with e|e
 ·have a:=UP V;rw[z8.1 e]at a;have b:Aw []=0:=rfl;rw[b]at a;omega
 ·exact e
theorem OW:∀(k u:Nat),u<10^(k+1)->ji u<=k+1
 |0,u,h=>by rw[Lib.nDigits_small ae];omega
 |k+1,u,h=>by
  by_cases c:u<10
  ·rw[Lib.nDigits_small c];omega
  ·rw[Lib.nDigits_big c];have:u/10<10^(k+1):=by rw[qg]at h;omega
   have:=OW k (u/10) this;omega
theorem Ud{r:Nat}(h:r<10^18):(zd r).length<=18:=by
 rw[zn];exact OW 17 r h
theorem NK(r:Nat):AX (r:Int)=zd r:=qy r
theorem UM(r:Nat)(h:r<10^18):OU [48] ((18:Int)-((zd r).length:Int))++zd r=GZ 18 r:=by
 have:=Ud h;rw[show(18:Int)-((zd r).length:Int)=((18-(zd r).length:Nat):Int)from by omega,gX,zn];rfl
structure Small(V:Nat):Prop where
 h:(V:Int)<(Ar:Int)^9000
theorem Small.le{a b:Nat}(h:Small b)(c:a<=b):Small a:=⟨yc (jt.mpr c) h.h⟩
theorem Small.div{V:Nat}(h:Small V):Vr (BD (V:Int)) [1000000000000000000]=true:=tX h.h
namespace T170
def Exit[Srt](neg:Bool)(G:List Rd)(Q:PV->Ob->Prop):Prop:=Ends R6 (.ite neg (.ite true (.ite true (L6 G.length (zg jj<|(G.length:Int)-1) (ya (fun b=>(↑(zt b):Int)) [(45:UInt8)]) 1 G) .fail)<|L7 G.length (zg jj<|(G.length:Int)-1) G)<|L8 G.length (zg jj<|(G.length:Int)-1) G) Q
theorem A5[Srt](neg:Bool)(G:List Rd)(hG:G.length<=1000000)(a:Exit neg G Q):∀(f V:Nat) (o1:List Rd),V<f->Small V->o1++(if V=0 then[]else CF f V)=G->Ends R6 (L2 neg (BD (V:Int)) 1 o1.length o1 [1000000000000000000]) Q
 |0,V,o1,h,_,_=>by omega
 |f+1,V,o1,h,k,d=>by
  rcases yd V with h0|h0
  ·subst h0;have d:o1=G:=by simpa using d
   subst d;refine yt (Az ..) (qu (by rw[show((0:Nat):Int)=0 from rfl,LV];rfl) ?_);exact a
  have e:V % 10^18<10^18:=jk _ af;rw[wc ae]at d;have l:∀s,s=(if V/10^18=0 then zd (V % 10^18)else GZ 18<|V % 10^18)->(o1++[s])++(if V/10^18=0 then[]else CF f<|V/10^18)=G:=by
   rintro s rfl;rw[<-d,yk];congr 1;have o:CF (f+1) V=if V<10^18 then[zd V]else GZ 18 (V % 10^18)::CF f (V/10^18):=rfl
   rw[o];by_cases c:V<10^18
   ·rw[wd c,wd ae,wd ae,Nat.mod_eq_of_lt c];rfl
   ·rw[wc c,wc ae,wc ae];rfl
  have n:o1.length+1<=1000000:=by
   have:=wi ym<|l _ rfl;simp only[zi,List.length_singleton]at this;omega
  have next:∀s,s=(if V/10^18=0 then zd (V % 10^18)else GZ 18<|V % 10^18)->Ends R6 (L2 neg (BD ((V/10^18:Nat):Int)) 1 (Nat.add o1.length 1) (o1++[s]) [1000000000000000000]) Q:=by
   intro s m;have:=A5 neg G hG a f (V/10^18) (o1++[s]) ae (k.le<|qe _ _)<|l s m;rw[zi]at this;exact this
  refine yt (Az ..) (ze (w4 (by have:=J7 h0;omega))<|ze (Ab rfl k.div) ?_);rw[Wv,VO];rcases yd (V % 10^18)with j|j
  ·have q0:V/10^18≠0:=ae
   rw[j,show((0:Nat):Int)=0 from rfl,LV];refine qu rfl (ze (w4 (by have:=J7 (V:=V/10^18) ae;omega))<|ze rfl (ze rfl (ze (Ab (w4 rfl)<|w4 ae)<|next _ ?_)));have hp:=UM 0 af;rw[z6 ae]at hp;rw[wc q0,j, <-hp];rfl
  ·rw[Wj (r:=((V % 10^18:Nat):Int)) ae ae];have i:j0 [((V % 10^18:Nat):Int)] 0 0=((V % 10^18:Nat):Int):=rfl;rw[i,NK];have q:=Ud e;have g:((V % 10^18:Nat):Int)<1000000000000000000:=ae
   have p:0<(zd<|V % 10^18).length:=by
    rw[zn,ji];split<;>omega
   refine ze rfl (ze rfl (ze (Ab (Ab (w4<|Int.natCast_nonneg _)<|w4 g) rfl) ?_));rw[wr _ ae ae];by_cases q0:V/10^18=0
   ·rw[q0];refine qu (by rw[show((0:Nat):Int)=0 from rfl,LV];rfl) (ze (Ab (Ab rfl (w4 rfl))<|w4 ae) ?_);have:=next _ rfl;rw[wd q0,q0]at this;exact this
   ·have b:=UM _ e;refine ze (w4 (by have:=J7 (V:=V/10^18) ae;omega)) (ze (Ab (ad ae ae) rfl)<|ze (w4 ?_)<|ze (Ab (Ab rfl (w4 rfl))<|w4 ae)<|next _ ?_)
    ·rw[<-zi,b];unfold GZ;rw[zi,List.length_replicate];omega
    ·rw[wc q0];exact b
end T170
end Go.Pe
namespace Go.Sp
theorem Gt{n d:Int}(a:d≠0):(zq n d).num.natAbs<=n.natAbs/\(zq n d).den<=d.natAbs:=by
 rw[yz,y7,wc a];refine⟨?_,qe _ _⟩;refine Nat.le_trans (yp _ _) ?_;rw[yn,ql a,Nat.one_mul];exact zz _
theorem H8{n d:Int}{k:Nat}(a:d≠0)(b:n.natAbs<10^k)(c:d.natAbs<10^k):C3 k (zq n d):=
 ⟨yf (Gt a).1 b,yf (Gt a).2 c⟩
theorem C3.mono{j k:Nat}{q:Rat}(h:C3 j q)(a:j<=k):C3 k q:=
 ⟨yg h.1 (yo af a),yg h.2<|yo af a⟩
theorem D5{a b i j:Nat}(c:a<10^i)(d:b<10^j):a*b<10^(i+j):=by
 rw[Nat.pow_add];exact yf (Nat.mul_le_mul_left _<|Nat.le_of_lt d) ((Nat.mul_lt_mul_right<|Nat.pow_pos af).2 c)
theorem Jj(q:Rat):(q.den:Int)≠0:=by have:=q.den_pos;omega
theorem C3.mul{p q:Rat}{i j:Nat}(hp:C3 i p)(a:C3 j q):C3 (i+j) (p*q):=by
 have h:=Rat.divInt_mul_divInt p.num q.num (d₁:=p.den) (d₂:=q.den);rw[zl,zl]at h;rw[h];refine H8 ?_ ?_ ?_
 ·exact Int.mul_ne_zero (Jj p)<|Jj q
 ·rw[yn];exact D5 hp.1 a.1
 ·rw[yn,zh,zh];exact D5 hp.2 a.2
theorem C3.add{p q:Rat}{i j:Nat}(hp:C3 i p)(a:C3 j q):C3 (i+j+1) (p+q):=by
 have h:=y9 p.num q.num (Jj p)<|Jj q;rw[zl,zl]at h;rw[h];have a1:=D5 hp.1 a.2;have a2:=D5 a.1 hp.2;have a3:=D5 hp.2 a.2;rw[Nat.add_comm]at a2;refine H8 (Int.mul_ne_zero (Jj p)<|Jj q) ?_ ?_
 ·refine yf (Int.natAbs_add_le _ _) ?_;rw[yn,yn,zh,zh,qg];omega
 ·rw[yn,zh,zh,qg];omega
theorem C3.neg{q:Rat}{k:Nat}(h:C3 k q):C3 k (-q):=by
 unfold C3 at*;rw[q9,jc,Int.natAbs_neg];exact h
theorem C3.sub{p q:Rat}{i j:Nat}(hp:C3 i p)(a:C3 j q):C3 (i+j+1) (p-q):=by
 rw[Rat.sub_eq_add_neg];exact hp.add a.neg
theorem C3.inv{q:Rat}{k:Nat}(h:C3 k q)(h0:q≠0):C3 k q⁻¹:=by
 have e:=Rat.inv_divInt q.num q.den;rw[zl]at e;rw[e];exact H8 (fun x=>h0<|yu.mp x) (by rw[zh];exact h.2) h.1
theorem C3.div{p q:Rat}{i j:Nat}(hp:C3 i p)(a:C3 j q)(h0:q≠0):C3 (i+j) (p/q):=by
 rw[Rat.div_def];exact hp.mul<|a.inv h0
def On(n:Int):Bool:=decide (600<(zd n.natAbs).length)
def KI(q:Rat):Bool:=On q.num||On q.den
theorem Ed{u k:Nat}(h:u<10^k)(a:1<=k):(zd u).length<=k:=by
 rw[zn];obtain⟨j,rfl⟩:∃j,k=j+1:=⟨k-1,by omega⟩;exact Go.Pe.OW j u h
theorem Cs(u:Nat){k:Nat}(h:(zd u).length<=k):u<10^k:=by
 rw[zn]at h;exact yg (Lib.lt_pow_nDigits u) (yo af h)
theorem Zf{q:Rat}:KI q=false↔C3 600 q:=by
 unfold KI On C3;rw[Bool.or_eq_false_iff,w9,w9];refine⟨fun h=>⟨Cs (k:=600) _ ae,?_⟩,fun h=>⟨?_,?_⟩⟩
 ·have:=Cs (q.den:Int).natAbs (k:=600) ae;rw[zh]at this;exact this
 ·have:=Ed h.1 af;omega
 ·have:=Ed h.2 af;rw[zh];omega
theorem RA{q:Rat}{k:Nat}(h:C3 k q)(a:1<=k):(AO q).length<=2*k+2:=by
 have b:=Ed h.1 a;have c:=Ed h.2 a;have d:(zm q.num).length<=k+1:=by
  unfold zm;split
  ·rw[zo];omega
  ·rw[show q.num.toNat=q.num.natAbs by omega];omega
 unfold AO;split
 ·omega
 ·rw[zi,zo];omega
def AU(s:Rd):Bool:=decide (AO (Ao s)=s)&&decide (s.length<=4000)
theorem Gg{s:Rd}(h:AU s=true):AO (Ao s)=s/\s.length<=4000:=by
 unfold AU at h;rwa [zc,w5,w5]at h
theorem Sz{q:Rat}{k:Nat}(h:C3 k q)(a:k<=1999):AU (AO q)=true:=by
 have b:=RA (h.mono a) af;unfold AU;rw[DH,w4 rfl,w4 ae];rfl
theorem C1{s:Rd}(h:Ap s=0):AU s=true/\C3 600 (Ao s):=by
 obtain⟨b,_,_,a⟩:=Ny h;exact⟨by rw[<-b];exact Sz a af,a⟩
theorem TO{s:Rd}(h:AU s=true):C3 4000 (Ao s):=by
 obtain⟨d,f⟩:=Gg h;have e:(AO<|Ao s).length<=4000:=by rw[d];exact f
 generalize Ao s=q at*;have a:=Cs q.num.natAbs<|zz _;have b:=Cs q.den<|zz _;have g:(zd q.num.natAbs).length<=(zm q.num).length:=by
  unfold zm;split
  ·rw[zo];omega
  ·rw[show q.num.toNat=q.num.natAbs by omega];exact zz _
 unfold AO at e;split at e
 ·next c=>exact⟨Cs (k:=4000) _ ae,by rw[c];exact LB 4000 af⟩
 ·rw[zi,zo]at e;exact⟨Cs (k:=4000) _ ae,Cs (k:=4000) _ ae⟩
theorem YF{q:Rat}:Ap (AO q)=if KI q=true then 4 else 0:=by
 obtain⟨g,p,m⟩:=FE q;obtain⟨p1,p2,p3,p4⟩:=TK<|AO q;obtain⟨i1,i2,i3,i4⟩:=Dy q.num;have b:AJ (A9<|AO q)=zd q.num.natAbs:=by rw[p1,g,i2]
 have e:A1 (A9<|AO q)=if q.den=1 then[]else zd q.den:=by rw[p2,p]
 have f:BR (A9<|AO q)=decide (q.den≠1):=by rw[p3,m]
 have j:preB (AO q)=decide (q.num<0):=by rw[<-p4,g,i3]
 have a:∀n:Nat,zd n=[48]->n=0:=fun n h=>by
  have:=IL n;rw[h]at this;have:(0:Int)=n:=this;omega
 have c:∀n:Nat,zd n=[49]->n=1:=fun n h=>by
  have:=IL n;rw[h]at this;have:(1:Int)=n:=this;omega
 have r:=q.den_pos;have l:Hf (AO q)=true:=by
  unfold Hf;rw[b,e,f,j,VG,z7,zc];refine⟨?_,?_⟩
  ·by_cases h:q.num<0
   ·have z:zd q.num.natAbs≠[48]:=fun k=>by have:=a _ k;omega
    rw[w4 h,w4 z];rfl
   ·rw[w8 h];rfl
  ·by_cases h:q.den=1
   ·rw[w8<|not_not_intro h];rfl
   ·have z:zd q.den≠[48]:=fun k=>by have:=a _ k;omega
    have y:zd q.den≠[49]:=fun k=>h<|c _ k
    rw[w4 h,wc h,VG,w4 z,w4 y];rfl
 unfold Ap;rw[wc (by rw[l];decide),b,e,f];have i:KI q=true↔600<(zd q.num.natAbs).length\/600<(if q.den=1 then([]:Rd)else zd q.den).length:=by
  unfold KI On;rw[qd,w5,w5,zh];by_cases h:q.den=1
  ·rw[wd h,h,z6<|show 1<10 by decide];simp
  ·rw[wc h]
 by_cases h:KI q=true
 ·rw[wd<|i.1 h,wd h]
 ·rw[wc<|fun k=>h<|i.2 k,wc h];refine wc fun k=>?_
  obtain⟨d,o⟩:=k;have d:q.den≠1:=w6 d;apply o;unfold AbZ AbQ;rw[b,e,wc d,IL,IL,GJ];have hr:=q.reduced;have:qf ((q.num.natAbs:Nat):Int) (q.den:Int)=1:=hr;rw[this];rfl
theorem NN(q:Rat):F6 (AO q)=Oy q.num:=by
 have h0:AO q=[48]↔q=0:=by
  have:AO (0:Rat)=[48]:=by
   unfold AO;rw[wd<|show Rat.den 0=1 from rfl];show zm 0=[48];unfold zm;rw[wc af,show(0:Int).toNat=0 from rfl,z6 af];rfl
  rw[<-this];exact⟨gQ,fun h=>by rw[h]⟩
 unfold F6 Oy;by_cases a:q=0
 ·rw[wd<|h0.2 a,a];rfl
 ·rw[wc<|fun h=>a<|h0.1 h];have e:q.num≠0:=fun h=>a<|yu.mp h
  have d:(AO q).getD 0 0=(zm q.num).getD 0 0:=by
   unfold AO;split
   ·rfl
   ·have:zm q.num≠[]:=by unfold zm;split;exact List.cons_ne_nil _ _;exact TE _
    cases b:zm q.num with
    |nil=>exact wh b this
    |cons c r=>rfl
  rw[d];unfold zm;by_cases h:q.num<0
  ·rw[wd h,wd h];rfl
  ·rw[wc h,wc h,wc<|Gq<|D6 _,wd ae]
theorem V7(n:Int)(h:n≠0):zm (-n)=if n<0 then(zm n).drop 1 else 45::zm n:=by
 unfold zm;by_cases c:n<0
 ·rw[wc ae,wd c,wd c,show(-n).toNat=n.natAbs by omega];rfl
 ·rw[wd ae,wc c,wc c,show(-n).natAbs=n.toNat by omega]
theorem qW(q:Rat):M5 (AO q)=AO (-q):=by
 have a:=NN q;unfold F6 at a;unfold M5;by_cases h0:AO q=[48]
 ·rw[wd h0]at a ⊢;have:q.num=0:=by
   unfold Oy at a;split at a
   ·exact wh a af
   ·split at a
    ·exact wh a af
    ·omega
  have:q=0:=yu.mp this;rw[this];rfl
 ·rw[wc h0]at a ⊢;have b:q.num≠0:=by
   intro h;rw[h]at a;split at a<;>exact wh a af
  have e:AO (-q)=if q.num<0 then(AO q).drop 1 else 45::AO q:=by
   unfold AO;rw[q9,jc,V7 _ b];by_cases c:q.num<0
   ·rw[wd c,wd c];have:zm q.num=45::zd q.num.natAbs:=by unfold zm;rw[wd c]
    rw[this];split<;>rfl
   ·rw[wc c,wc c];split<;>rfl
  rw[e];unfold Oy at a;by_cases c:q.num<0
  ·rw[wd c]at a ⊢;split at a
   ·next k=>rw[wd k]
   ·exact wh a af
  ·rw[wc c,wd<|show q.num>0 by omega]at a;rw[wc c];split at a
   ·exact wh a af
   ·next k=>rw[wc k]
open Go.Lib
theorem NO:∀(f n l:Nat) (a:Rd),l<=a.length->n<10^f->Iz f n l a=if n=0 then a else decDigits n++a
 |0,n,l,a,_,b=>by rw[Nat.pow_zero]at b;rw[wd ae];rfl
 |f+1,n,l,a,d,b=>by
  rw[qg]at b;unfold Iz;by_cases h:n=0
  ·rw[wd ⟨h,d⟩,wd h]
  ·rw[wc<|fun k=>h k.1,wc h,NO f (n/10) l _ (by rw[zo];omega) ae];by_cases c:n/10=0
   ·rw[wd c,decDigits_one ae,show n % 10=n by omega];rfl
   ·have e:=GU (n/10) (n % 10) ae ae;rw[show 10*(n/10)+n % 10=n by omega]at e;rw[wc c,e,yk];rfl
theorem pG{d:Nat}(h:d<10):GZ 1 d=[zp<|48+d]:=by
 unfold GZ;rw[nDigits_small h,decDigits_one h];rfl
theorem Xu:∀(k f n l:Nat) (a:Rd),a.length+(k+1)=l->n<10^(k+1)->k+1<=f->Iz f n l a=GZ (k+1) n++a
 |k,0,n,l,a,_,_,h=>by omega
 |0,f+1,n,l,a,c,b,_=>by
  unfold Iz;rw[wc ae,pG ae,NO f (n/10) l _ (by rw[zo];omega) (by rw[show n/10=0 by omega];exact Nat.pow_pos af),wd ae,show n % 10=n by omega];rfl
 |k+1,f+1,n,l,a,c,b,d=>by
  rw[qg]at b;have e:=SM (k+1) (n/10) (n % 10) ae ae;rw[show 10*(n/10)+n % 10=n by omega]at e;unfold Iz;rw[wc ae,Xu k f (n/10) l _ (by rw[zo];omega) ae ae,e,yk];rfl
theorem P2{n:Int}(h0:0<=n)(a:n<9223372036854775808):JD n 1=decDigits n.toNat:=by
 show Iz 64 n.toNat 1 []=_;unfold Iz;rw[wc<|by simp];rw[NO 63 (n.toNat/10) 1 _ (by simp) ae];by_cases h:n.toNat<10
 ·rw[wd ae,decDigits_one h,show n.toNat % 10=n.toNat by omega]
 ·have e:=GU (n.toNat/10) (n.toNat % 10) ae ae;rw[show 10*(n.toNat/10)+n.toNat % 10=n.toNat by omega]at e;rw[wc ae,e]
theorem iD{n:Int}(h0:0<=n)(a:n<1000000000):JD n 9=GZ 9 n.toNat:=by
 show Iz 64 n.toNat 9 []=_;rw[Xu 8 64 n.toNat 9 [] rfl ae af,List.append_nil]
def CT(n d:Int):Rd:=AO<|zq n d
theorem iP(n:Int):itoa n=(if n<0 then[45]else[])++decDigits n.natAbs:=by
 unfold itoa;split
 ·rfl
 ·rw[show n.toNat=n.natAbs by omega];rfl
def vR(a:Bool×List Int):Int:=if a.1=true then -Aq a.2 else Aq a.2
def CG(a:Bool×List Int):Bool:=Bb a.2&&decide (a.2.length<=3000)&&(!a.1||decide (a.2≠[]))
def I0(l:List Int)(i:Int):Int:=l.getD i.toNat 0
def vH(a b:List Int):Bool:=Bb a&&Bb b&&decide (a.length<=9000)&&decide (b.length<=9000)
def Iu(a b:List Int):List Int:=BW<|Aq a+Aq b
def Jx(a b:List Int):List Int:=BW<|Aq a-Aq b
def Ow(a b:Bool×List Int):Bool:=rN<|vR a+vR b
def N8(a b:Bool×List Int):List Int:=rW<|vR a+vR b
def Ir(a b:Bool×List Int):Bool:=rN<|vR a*vR b
def Ie(a b:Bool×List Int):List Int:=rW<|vR a*vR b
def Vw(a:Bool×List Int):Bool:=rN<| -vR a
def Ub(a:Bool×List Int):List Int:=rW<| -vR a
def JP(a b:Bool×List Int):Bool:=rN<|vR a/vR b
def JT(a b:Bool×List Int):List Int:=rW<|vR a/vR b
def F8(a:Bool×List Int):Rd:=AX<|vR a
def JU(n d:Bool×List Int):Rd:=CT (vR n)<|vR d
def jV(a:Rd):Int:=if EN a=true then Jf a else 0
def Xa(a:Rd):Int:=if EN a=true then Uu a else 0
def B0(a b:Rd):Rd:=AO<|Ao a+Ao b
def Gz(a b:Rd):Rd:=AO<|Ao a-Ao b
def DR(a b:Rd):Rd:=AO<|Ao a*Ao b
def Vy(a:Rd):Rd:=AO (Ao a)⁻¹
def FF(a b:Rd):Rd:=AO<|Ao a/Ao b
def Eu(a b:Rd):Int:=if Ao a<Ao b then -1 else if Ao b<Ao a then 1 else 0
def GG(a:Rd):Rd:=AX (Ao a).floor
def Lj(a:Rd):Bool:= !BR a
def FR(a:Rd):Int:=if 600<(A9<|AJ a).length\/600<(QE a).length then 4 else 0
def C0(a:Rd):Bool:=AU a&&decide (a.length<=3000)
def Wf(a:Rd):Bool:=C0 a&&decide (Ao a≠0)
end Go.Sp
namespace Go.Pe
open Sp
open Go.Det
def X5:Am:=⟨[li,i64],fun i=>decide (0<=(i.2:Int)),[i64],fun i=>I0 i.1 i.2,false⟩
def Zy:Am:=⟨[li,li],fun i=>vH i.1 i.2,[li],fun i=>Iu i.1 i.2,false⟩
def Zp:Am:=⟨[li,li],fun i=>vH i.1 i.2&&decide (Aq i.2<=Aq i.1),[li],fun i=>Jx i.1 i.2,false⟩
def pO:Am:=⟨[Io,Io],fun i=>CG i.1&&CG i.2,[Io],fun i=>(Ow i.1 i.2,N8 i.1 i.2),false⟩
def cK:Am:=⟨[Io,Io],fun i=>CG i.1&&CG i.2,[Io],fun i=>(Ir i.1 i.2,Ie i.1 i.2),false⟩
def bG:Am:=⟨[Io],fun a=>CG a,[Io],fun a=>(Vw a,Ub a),false⟩
def dM:Am:=⟨[Io,Io],fun i=>CG i.1&&CG i.2&&decide (0<Sp.vR i.2),[Io],fun i=>(JP i.1 i.2,JT i.1 i.2),false⟩
def PF:Am:=⟨[Io],fun a=>CG a,[.str],fun a=>F8 a,false⟩
def RP:Am:=⟨[Io,Io],fun i=>CG i.1&&CG i.2&&decide (Sp.vR i.2≠0),[.str],fun i=>JU i.1 i.2,false⟩
def dJ:Am:=⟨[i64,i64],fun i=>Cn i.1&&Cn i.2&&decide ((i.2:Int)≠0),[.str],fun i=>CT i.1 i.2,false⟩
def O2:Am:=⟨[.str],fun s=>AU s,[i64,i64,.bool],fun s=>(jV s,Xa s,EN s),false⟩
def IS:Am:=⟨[.str,.str],fun i=>AU i.1&&AU i.2,[.str],fun i=>B0 i.1 i.2,false⟩
def V9:Am:=⟨[.str,.str],fun i=>AU i.1&&C0 i.2,[.str],fun i=>Gz i.1 i.2,false⟩
def MW:Am:=⟨[.str,.str],fun i=>AU i.1&&AU i.2,[.str],fun i=>DR i.1 i.2,false⟩
def Acf:Am:=⟨[.str],fun s=>Wf s,[.str],fun s=>Vy s,false⟩
def bM:Am:=⟨[.str,.str],fun i=>AU i.1&&Wf i.2,[.str],fun i=>FF i.1 i.2,false⟩
def Oi:Am:=⟨[.str,.str],fun i=>AU i.1&&C0 i.2,[i64],fun i=>Eu i.1 i.2,false⟩
def UC:Am:=⟨[.str],fun s=>AU s,[.str],fun s=>GG s,false⟩
def Ur:Am:=⟨[.str],fun s=>decide (s.length<=1000000),[.bool],fun s=>Lj s,false⟩
def TJ:Am:=⟨[.str],fun s=>decide (s.length<=1000000),[i64],fun s=>FR s,false⟩
def XR0[Srt]:AL:=X7 []
def XS[Srt]:AL:=X7 [(192,X5),(190,T5)]
def XR2[Srt]:AL:=X7 [(149,HL),(150,Zy),(151,bF),(152,Zp),(153,Z6),(147,Sw)]
def XR3[Srt]:AL:=X7 [(145,RE)]
def wQ[Srt]:AL:=RW [(83,[3,7,9])] [] [(83,[(3,[2,3]),(7,[8,10]),(9,[8,10])])] [(146,bG),(141,MC),(147,Sw),(149,HL),(148,PF)]
def jO[Srt]:AL:=RW [(81,[3,5,7,11])] [] [(81,[(3,[0,1]),(5,[0,1]),(7,[0,1]),(11,[1,6])])] [(143,IE),(83,RP),(144,AcV),(145,RE)]
def XR6[Srt]:AL:=RW [(30,[5]),(74,[5])] [] [(30,[(5,[0,1])]),(74,[(5,[0,1])])] [(80,O2),(81,dJ),(82,Pj),(84,pO),(85,cK),(83,RP)]
def XR7[Srt]:AL:=X7 [(183,Acf),(74,MW),(30,IS),(86,aK)]
def XR8[Srt]:AL:=X7 [(31,V9),(87,NS),(139,QY),(33,cJ),(113,oL),(114,cN)]
def XR9[Srt]:AL:=X7 [(82,Pj),(182,dM),(148,PF),(137,Ur)]
def Y8:Am:=⟨[],fun _=>true,[.bool],fun _=>true,false⟩
theorem qS[Srt]:Af AY 8 Y8:=by
 refine .of0 ⟨by kernel_rfl,Bd ag,fun F h args i d c b a _=>?_⟩;have g:args=[]:=by
  have:=a (fun _=>none) 0;simpa [Ag,Y8]using this
 subst g;refine⟨[(.bool true,h)],1,fun m k=>?_,fun _=>⟨_,rfl⟩,fun x j=>?_⟩
 ·obtain⟨e,rfl⟩:∃e,m=e+1:=⟨m-1,by omega⟩;have f:AY.spec 8=some fun args h=>bif wM h FI then(match FM A7 8 args with|some v=>some (v,h)|none=>none)else none:=rfl
  rw[Bh];simp only[f,tV b,we];rfl
 ·cases ye.1 j;exact⟨zz _,fun _ _=>rfl,c,F,fun _ _ h=>h,fun _ _ h=>.inl h,d,fun ρ N=>D9 _⟩
end Go.Pe
namespace Go.Sp
def QU(a:AM):Int:=if BD (Ai<|vI a)=[]then 0 else 64*((BD<|Ai<|vI a).length-1)+Fy ((BD<|Ai<|vI a).getD ((BD<|Ai<|vI a).length-1) 0)
def EO(a:AM):Bool:=On<|vI a
def JO(a:Ad):Bool:=EO a.1||EO a.2
def KQ(a:Ad):Rd:=if Da a.2=true then AX (vI a.1)else AX (vI a.1)++47::AX (vI a.2)
def Qr(a:Ad):Rd:=if JO a=true then[]else KQ a
def Q0(a:Ad):Int:=if JO a=true then 4 else 0
def E9:List Rd->Int
 |[]=>0
 |s::l=>if Ap s≠0 then Ap s else E9 l
def Q7(a:Ad):Int:=Oy<|vI a.1
def OM(a b:Rd):Int:=E9 [a,b]
def sM(e:Int)(q:Rat):Rd:=if e≠0 then[]else if KI q=true then[]else AO q
def pU(e:Int)(q:Rat):Int:=if e≠0 then e else if KI q=true then 4 else 0
def HC(a:Rd)(e:Int)(w:Rd)(bad:Int):Bool:=if (if bad=0 then FR w else bad)≠0 then decide (a=[])&&decide (e=(if bad=0 then FR w else bad))else decide (e=0)&&decide (a=w)
end Go.Sp
namespace Go.Pe
open Sp
open Go.Det
def jW:Am:=⟨[A4],fun a=>Bg a,[i64],fun a=>QU a,false⟩
def ZV:Am:=⟨[A4],fun a=>Bg a,[.bool],fun a=>EO a,false⟩
def UH:Am:=⟨[.str,.str],fun i=>TV i.1 i.2,[.str],fun i=>A9 i.1,false⟩
def bW:Am:=⟨[An],fun a=>j7 (a:Ad),[.bool],fun a=>JO a,false⟩
def vK:Am:=⟨[An],fun a=>j7 (a:Ad),[.str],fun a=>KQ a,false⟩
def aR:Am:=⟨[An],fun a=>j7 (a:Ad),[.str,i64],fun a=>(Qr a,Q0 a),false⟩
def ZR:Am:=⟨[.list .str],fun l=>decide (ym (α:=Rd) l<=1000)&&List.all (α:=Rd) l (fun s=>decide (s.length<=1000000)),[i64],fun l=>E9 l,false⟩
def rY:Am:=⟨[An],fun a=>qp (a:Ad).1,[i64],fun a=>Q7 a,false⟩
def XX0[Srt]:AL:=X7 []
def XX1[Srt]:AL:=X7 [(173,Q1),(229,Zc)]
def AfN[Srt]:AL:=X7 [(208,jW),(170,AeN),(197,UH)]
def XX2[Srt]:AL:=X7 [(169,ZV),(123,Qb),(170,AeN)]
def XX3[Srt]:AL:=X7 [(163,EC),(134,Ll)]
end Go.Pe
namespace Go.Sp
def yE(a u:Rd):Bool:=AU a&&Wf u&&AU (FF a u)&&AU (B0 (FF a u) [49,47,50])&&AU (GG<|B0 (FF a u) [49,47,50])
def Afe(a u:Rd):Rd:=DR (GG<|B0 (FF a u) [49,47,50]) u
def uN(a:Rd):Rd:=DR a [49,47,50]
end Go.Sp
namespace Go.Pe
open Go.Det
def AcJ:Am:=⟨[.str],fun s=>Sp.AU s,[.str],fun s=>Sp.uN s,false⟩
def dX:Am:=⟨[.str,.str],fun i=>Sp.yE i.1 i.2,[.str],fun i=>Sp.Afe i.1 i.2,false⟩
end Go.Pe
namespace Go.Sp
abbrev AW:=Rd×Rd
def Dz:Option AW->List AW->Int
 |_,[]=>0
 |o,p::l=>if OM p.1 p.2≠0 then OM p.1 p.2 else match o with
  |some q=>if Eu p.1 q.1<=0 then 11 else Dz (some p) l
  |none=>Dz (some p) l
def BL(t:List AW):Int:=if t=[]then 12 else if 64<t.length then 5 else Dz none t
def Cw(s:Rd):Ad:=((Sg s,Sf s),(QD s,RV s))
def EF(p:AW):Ad×Ad:=(Cw p.1,Cw p.2)
def WT(t:List AW):List (Ad×Ad):=if BL t≠0 then[]else t.map EF
def O7:Option (Rat×Rat)->List (Rat×Rat)->Rat->Rat
 |none,[],_=>0
 |some p,[],_=>p.2
 |o,b::l,x=>if b.1<x then O7 (some b) l x else match o with
  |none=>b.2
  |some a=>a.2+(b.2-a.2)*(x-a.1)/(b.1-a.1)
def LY(t:List AW)(x:Rd):Rat:=O7 none (t.map fun p=>(Ao p.1,Ao p.2))<|Ao x
def Y7(t:List AW)(x:Rd):Int:=if BL t≠0 then BL t else Ap x
def sL(t:List AW)(x:Rd):Rd:=AO<|LY t x
def GY(k:Nat)(t:List AW):Bool:=t.all fun p=>decide (p.1.length<=k)&&decide (p.2.length<=k)
end Go.Sp
namespace Go.Pe
open Sp
open Go.Det
abbrev B8:Sh:=.pair .str .str
abbrev dN:Sh:=.pair An An
def dY:Am:=⟨[.list B8],fun l=>decide (ym (α:=AW) l<=1000)&&GY 1000000 l,[.list dN,i64],fun l=>(WT l,BL l),false⟩
def Ml:Am:=⟨[.list B8],fun l=>decide (ym (α:=AW) l<=1000)&&GY 1000000 l,[i64],fun l=>BL l,false⟩
def XT1[Srt]:AL:=X7 [(202,GV),(203,Gw),(270,ZR),(96,Mq),(73,Qy)]
def XT2[Srt]:AL:=X7 [(237,dY)]
def XT4[Srt]:AL:=X7 [(78,EC),(32,Oi)]
def XT5[Srt]:AL:=X7 [(32,Oi),(130,bM),(31,V9),(74,MW),(30,IS)]
end Go.Pe
namespace Go.Sp
theorem VH(q:Rat):QE (AO q)=zd q.den:=by
 obtain⟨_,b,a⟩:=FE q;unfold QE;rw[b,a];by_cases h:q.den=1
 ·rw[wc (by simpa using h),h,z6 af];rfl
 ·rw[wd<|w4 h,wc h]
theorem YC(q:Rat):FR (AO q)=if KI q=true then 4 else 0:=by
 obtain⟨b,_,_⟩:=FE q;unfold FR;rw[VH,b,(Dy q.num).2.1];have a:KI q=true↔600<(zd q.num.natAbs).length\/600<(zd q.den).length:=by
  unfold KI On;rw[qd,w5,w5,zh]
 by_cases h:KI q=true
 ·rw[wd<|a.1 h,wd h]
 ·rw[wc<|fun k=>h<|a.2 k,wc h]
theorem yW(q:Rat):HC (sM 0 q) (pU 0 q) (AO q) 0=true:=by
 unfold HC sM pU;rw[YC];by_cases h:KI q=true
 ·simp[h]
 ·simp[h]
theorem rJ{e:Int}(h:e≠0)(q:Rat)(w:Rd):HC (sM e q) (pU e q) w e=true:=by
 unfold HC sM pU;simp[h]
theorem aH(a b:Rd):OM a b=if Ap a≠0 then Ap a else Ap b:=by
 show(if Ap a≠0 then Ap a else if Ap b≠0 then Ap b else 0)=_;by_cases h:Ap a≠0
 ·rw[wd h,wd h]
 ·rw[wc h,wc h];by_cases k:Ap b≠0
  ·rw[wd k]
  ·rw[wc k];omega
theorem Ka{a b:Rd}(h:OM a b=0):Ap a=0/\Ap b=0:=by
 rw[aH]at h;by_cases k:Ap a≠0
 ·rw[wd k]at h;exact wh h k
 ·rw[wc k]at h;exact⟨by omega,h⟩
theorem Tn:AO 0=[48]:=by
 unfold AO;rw[wd<|show Rat.den 0=1 from rfl];show zm 0=[48];unfold zm;rw[wc af,show(0:Int).toNat=0 from rfl,z6 af];rfl
theorem Jk{s:Rd}(h:AU s=true):s=[48]↔Ao s=0:=by
 obtain⟨a,_⟩:=Gg h;constructor
 ·rintro rfl;rw[<-Tn,DH]
 ·intro e;rw[<-a,e,Tn]
theorem Is{s:Rd}(h:C0 s=true):AU s=true/\s.length<=3000:=by
 unfold C0 at h;rwa [zc,w5]at h
theorem uC{s:Rd}(h:C0 s=true)(h0:s≠[48]):Wf s=true:=by
 unfold Wf;rw[h,z7];exact w4 fun e=>h0<|(Jk (Is h).1).2 e
theorem ZE{s:Rd}(h:Wf s=true):C0 s=true/\Ao s≠0:=by
 unfold Wf at h;rwa [zc,w5]at h
theorem WO{q:Rat}{k:Nat}(h:C3 k q)(a:k<=400000):(AO q).length<=1000000:=by
 have:=RA (h.mono<|show k<=k+1 by omega) ae;omega
structure Nu(k:Nat)(s:Rd)(q:Rat):Prop where
 t:s=AO q
 z:C3 k q
theorem Nu.mono{i j:Nat}{s:Rd}{q:Rat}(h:Nu i s q)(k:i<=j):Nu j s q:=⟨h.t,h.z.mono k⟩
theorem Nu.rat{k:Nat}{s:Rd}{q:Rat}(h:Nu k s q):Ao s=q:=by rw[h.t,DH]
theorem Aa5{k:Nat}{q:Rat}(h:C3 k q)(a:k<=600):KI q=false:=Zf.2<|h.mono a
theorem Nu.check{k:Nat}{s:Rd}{q:Rat}(h:Nu k s q)(a:k<=600):Ap s=0:=by
 rw[h.t,YF,Aa5 h.z a,wc af]
theorem Nu.num{k:Nat}{s:Rd}{q:Rat}(h:Nu k s q)(a:k<=1999):AU s=true:=by rw[h.t];exact Sz h.z a
theorem Nu.C0{k:Nat}{s:Rd}{q:Rat}(h:Nu k s q)(a:k<=1400):Sp.C0 s=true:=by
 unfold Sp.C0;rw[h.num ae,z7,w5,h.t];have:=RA (h.z.mono<|show k<=k+1 by omega) ae;omega
theorem Nu.Jk{k:Nat}{s:Rd}{q:Rat}(h:Nu k s q)(a:k<=1999):s=[48]↔q=0:=by
 rw[Sp.Jk<|h.num a,h.rat]
theorem Nu.cmp{i j:Nat}{a b:Rd}{p q:Rat}(c:Nu i a p)(d:Nu j b q):Eu a b=if p<q then -1 else if q<p then 1 else 0:=by
 unfold Eu;rw[c.rat,d.rat]
theorem LR{a:Rd}(h:Ap a=0):Nu 600 a (Ao a):=by
 obtain⟨t,_,_,z⟩:=Ny h;exact⟨t.symm,z⟩
theorem Tc(n:Int):AX n=AO (n:Rat):=by
 unfold AO AX;rw[wd<|Rat.den_intCast ..,qz]
theorem lC{p q:Rat}(h:p=q):(if p<q then(-1:Int)else if q<p then 1 else 0)=0:=by
 subst h;rw[wc Rat.lt_irrefl,wc Rat.lt_irrefl]
theorem WA(p q:Rat):(if p<q then(-1:Int)else if q<p then 1 else 0)=0↔p=q:=by
 refine⟨fun h=>?_,lC⟩;split at h
 ·exact wh h af
 ·next c=>
  split at h
  ·exact wh h af
  ·next d=>exact Rat.le_antisymm (Rat.not_lt.1 d)<|Rat.not_lt.1 c
theorem oT(p q:Rat):(if q<p then(-1:Int)else if p<q then 1 else 0)= -(if p<q then(-1:Int)else if q<p then 1 else 0):=by
 by_cases h:p<q
 ·have:¬q<p:=Rat.not_lt.2<|Rat.le_of_lt h;rw[wc this,wd h,wd h];rfl
 ·rw[wc h,wc h];split<;>rfl
theorem Mj:Nu 1 [49,47,50] (1/2):=by
 refine⟨by decide+kernel,?_⟩;unfold C3;decide+kernel
theorem Nu.B0{i j:Nat}{a b:Rd}{p q:Rat}(c:Nu i a p)(d:Nu j b q):Nu (i+j+1) (Sp.B0 a b) (p+q):=⟨by unfold Sp.B0;rw[c.rat,d.rat],c.z.add d.z⟩
theorem Nu.Gz{i j:Nat}{a b:Rd}{p q:Rat}(c:Nu i a p)(d:Nu j b q):Nu (i+j+1) (Sp.Gz a b) (p-q):=⟨by unfold Sp.Gz;rw[c.rat,d.rat],c.z.sub d.z⟩
theorem Nu.DR{i j:Nat}{a b:Rd}{p q:Rat}(c:Nu i a p)(d:Nu j b q):Nu (i+j) (Sp.DR a b) (p*q):=⟨by unfold Sp.DR;rw[c.rat,d.rat],c.z.mul d.z⟩
theorem Nu.FF{i j:Nat}{a b:Rd}{p q:Rat}(c:Nu i a p)(d:Nu j b q)(h0:q≠0):Nu (i+j) (Sp.FF a b) (p/q):=⟨by unfold Sp.FF;rw[c.rat,d.rat],c.z.div d.z h0⟩
theorem QZ{q:Rat}{k:Nat}(h:C3 k q):C3 k (q.floor:Rat):=by
 obtain⟨a,b⟩:=h;have c:=q.den_pos;unfold C3;rw[qz,Rat.den_intCast,Rat.floor_def];refine⟨yf (yp _ _) a,by omega⟩
def YE(w:Rd):Nat:=max (A9<|AJ w).length (QE w).length
def AeP(l:List AW):List (Rat×Rat):=l.map fun p=>(Ao p.1,Ao p.2)
def Lt(n:Int):Bool:=decide (n.natAbs<9223372036854775808)
def Nr(n:Int):Rd:=AO ((n:Int):Rat)
def BJ(n m:Int):Int:=if n=0 then 12 else if m<n then 5 else 0
end Go.Sp
namespace Go.Pe
open Go.Det
def Zr:Am:=⟨[i64,i64],fun _=>true,[i64],fun i=>Sp.BJ i.1 i.2,false⟩
def Tf:Am:=⟨[.str,i64,i64,.str],fun i=>decide (ym (α:=UInt8) i.2.2.2<=1000000),[.bool],fun i=>Sp.HC i.1 i.2.1 i.2.2.2 i.2.2.1,false⟩
def Yt:Am:=⟨[i64],fun n=>Sp.Lt n,[.str],fun n=>Sp.Nr n,false⟩
def Agn[Srt]:AL:=X7 [(60,GV),(91,Gw)]
def Ag4[Srt]:AL:=X7 [(118,bW),(119,vK)]
def bD[Srt]:AL:=X7 [(61,TJ)]
def AcR[Srt]:AL:=X7 [(143,IE),(148,PF)]
section
open List Int Prod
namespace T57
def T[Srt](n:Int):Tr:=tree wN false 9 57<|Ag ([Sh.int jj]) n
theorem Aj[Srt](n:Int):T n=.ck true (.ck true<|.leaf (PV.agg [.dat i64 n,.dat wU<|Sp.BI n,.dat i64 (1:Int),.dat wU<|Sp.BI 1]) []):=by kernel_rfl
end T57
end
open Sp
section
open List Int Prod
namespace T197
def T[Srt](s t:Rd):Tr:=tree XX0 false 9 197<|Ag ([zk,zk]) (s,t)
theorem Aj[Srt](s t:Rd):T s t=let a:=(length t:Int);let b':=decide (toNat a<=length s);.di ((length s:Int)>=a) (.ck (decide (0<=a)&&decide (0<=toNat a)&&b')<|.ite (take (toNat a) s==t) (.ck (decide (0<=a)&&true&&b'&&decide (length s<=length s))<|.leaf (.dat zk<|take (Nat.sub (length s)<|toNat a)<|drop (toNat a) s) [])<|.leaf (.dat zk s) []) (.leaf (.dat zk s) []):=by kernel_rfl
end T197
namespace T208
def T[Srt](a:AM):Tr:=tree XX1 false 9 208<|Ag ([A4]) a
theorem Aj[Srt](a:AM):T a=let c:=BD<|Ai<|zf a;let b:=(↑(length c):Int);let b':=getD c (toNat<|zg .i64<|b-1) 0;.ck (qp a) (.ite (b==0) (.leaf (.dat i64 (0:Int)) [])<|.ck (decide (0<=zg .i64 (b-1))&&decide (zg .i64 (b-1)<b))<|.ck (Sp.u64 b')<|.leaf (.dat i64<|zg .i64<|zg .i64 (64*zg .i64 (b-1))+Fy b') []):=by kernel_rfl
end T208
namespace T169
def T[Srt](a:AM):Tr:=tree AfN false 9 169<|Ag ([A4]) a
theorem Aj[Srt](a:AM):T a=.ck (Bg a) (.di (QU a>1800) (.ck (Bg a)<|.ck (TV (AX<|zf a) [(45:UInt8)])<|.leaf (.dat Sh.bool<|decide ((↑(length<|A9<|AX<|zf a):Int)>600)) [])<|.leaf (.bl false) []):=by kernel_rfl
end T169
namespace T118
def T[Srt](a:Ad):Tr:=tree XX2 false 9 118<|Ag ([An]) a
theorem Aj[Srt](a:Ad):T a=.ck (Bg<|fst a) (.ite (EO<|fst a) (.leaf (.bl true) [])<|.ck (Bg<|snd a)<|.leaf (.dat Sh.bool<|EO<|snd a) []):=by kernel_rfl
end T118
namespace T119
def T[Srt](a:Ad):Tr:=tree XX2 false 9 119<|Ag ([An]) a
theorem Aj[Srt](a:Ad):T a=let b:=zf<|fst a;.ck true (.ite (Da<|snd a) (.ck (Bg<|fst a)<|.leaf (.dat zk<|AX b) [])<|.ck (Bg<|fst a)<|.cd (length (AX b)+1<=4611686018427387904)<|.ck (Bg<|snd a)<|.cd (length (AX b++[(47:UInt8)])+length (AX<|zf<|snd a)<=4611686018427387904)<|.leaf (.dat zk<|AX b++[(47:UInt8)]++AX (zf<|snd a)) []):=by kernel_rfl
end T119
namespace T270
def T[Srt](l:List Rd):Tr:=tree XX3 false 9 270<|Ag ([Sh.list zk]) l
def L1[Srt](a:List Rd)(b c:Int):Tr:=re ((T []))<|Ax 18 [(6,.dat (Sh.list zk) a),(7,.dat i64 b),(8,.dat i64 c)] [] 0
theorem Aj[Srt](l:List Rd):T l=L1 l ((length l:Int)) 0:=by kernel_rfl
theorem Ak[Srt](b:List Rd)(c a:Int):stepT XX3 (L1 b c a)=let d:=getD b (toNat a) [];.di (a<c) (.ck (decide (0<=a)&&decide (a<(length b:Int)))<|.cd (length d<=1000000)<|.ite (Ap d !=0) (.leaf (.dat i64<|Ap d) [])<|L1 b c<|zg .i64<|a+1) (.leaf (.dat i64 (0:Int)) []):=by kernel_rfl
end T270
namespace T106
def T[Srt](a:Ad):Tr:=tree XX3 false 9 106<|Ag ([An]) a
theorem Aj[Srt](a:Ad):T a=.ck (qp<|fst a) (.leaf (.dat i64<|IQ<|fst a) []):=by kernel_rfl
end T106
end
namespace T170
theorem Au[Srt](neg:Bool)(V:Nat)(h0:0<V)(h:Small V)(hG:(CF (V+1) V).length<=1000000)(b:Exit neg (CF (V+1) V) Q):Ends R6 (L1 neg (BD (V:Int)) 1 [1000000000000000000]) Q:=by
 have d:V % 10^18<10^18:=jk _ af;have k:∀s,s=(if V/10^18=0 then zd (V % 10^18)else GZ 18<|V % 10^18)->[s]++(if V/10^18=0 then[]else CF V<|V/10^18)=CF (V+1) V:=by
  rintro s rfl;have j:CF (V+1) V=if V<10^18 then[zd V]else GZ 18 (V % 10^18)::CF V (V/10^18):=rfl
  rw[j];by_cases c:V<10^18
  ·rw[wd c,wd ae,wd ae,Nat.mod_eq_of_lt c];rfl
  ·rw[wc c,wc ae,wc ae];rfl
 have next:∀s,s=(if V/10^18=0 then zd (V % 10^18)else GZ 18<|V % 10^18)->Ends R6 (L2 neg (BD ((V/10^18:Nat):Int)) 1 1 [s] [1000000000000000000]) Q:=
  fun s i=>A5 neg _ hG b V (V/10^18) [s] ae (h.le<|qe _ _)<|k s i
 refine yt (Ak ..) (ze (w4 (by have:=J7 h0;omega))<|ze (Ab rfl h.div) ?_);rw[Wv,VO];rcases yd (V % 10^18)with g|g
 ·have q0:V/10^18≠0:=ae
  rw[g,show((0:Nat):Int)=0 from rfl,LV];refine qu rfl (ze (w4 (by have:=J7 (V:=V/10^18) ae;omega))<|ze rfl (ze rfl (ze rfl (next _ ?_))));have hp:=UM 0 af;rw[z6 ae]at hp;rw[wc q0,g, <-hp];rfl
 ·rw[Wj (r:=((V % 10^18:Nat):Int)) ae ae];have f:j0 [((V % 10^18:Nat):Int)] 0 0=((V % 10^18:Nat):Int):=rfl;rw[f,NK];have m:=Ud d;have e:((V % 10^18:Nat):Int)<1000000000000000000:=ae
  have l:0<(zd<|V % 10^18).length:=by
   rw[zn,ji];split<;>omega
  refine ze rfl (ze rfl (ze (Ab (Ab (w4<|Int.natCast_nonneg _)<|w4 e) rfl) ?_));rw[wr _ ae ae];by_cases q0:V/10^18=0
  ·rw[q0];refine qu (by rw[show((0:Nat):Int)=0 from rfl,LV];rfl)<|ze rfl ?_;have:=next _ rfl;rw[wd q0,q0]at this;exact this
  ·have a:=UM _ d;refine ze (w4 (by have:=J7 (V:=V/10^18) ae;omega)) (ze (Ab (ad ae ae) rfl)<|ze (w4 ?_)<|ze rfl (next _ ?_))
   ·rw[<-zi,a];unfold GZ;rw[zi,List.length_replicate];omega
   ·rw[wc q0];exact a
end T170
theorem Ac7(n:Nat):(18446744073709551616:Nat)^n<=10^(20*n):=by
 rw[Nat.pow_mul];exact Nat.pow_le_pow_left af n
theorem jJ{V k:Nat}(h:(V:Int)<(Ar:Int)^k):V<18446744073709551616^k:=by
 rw[<-Vl k]at h;exact qh.mp h
theorem gO{V k:Nat}(h:(V:Int)<(Ar:Int)^k)(c:1<=k):(zd V).length<=20*k:=by
 rw[zn];obtain⟨j,b⟩:∃j,20*k=j+1:=⟨20*k-1,by omega⟩;have a:=yg (jJ h)<|Ac7 k;rw[b]at a ⊢;exact OW j V a
theorem II{V:Nat}(h:Small V):(zd V).length<=180000:=gO (k:=9000) h.h af
theorem NG:∀(f v:Nat) (s:Rd),s∈CF f v->0<s.length
 |0,v,s,h=>by cases h
 |f+1,v,s,h=>by
  have b:CF (f+1) v=if v<10^18 then[zd v]else GZ 18 (v % 10^18)::CF f (v/10^18):=rfl
  have a:∀r,0<(zd r).length:=fun r=>by rw[zn,ji];split<;>omega
  rw[b]at h;split at h
  ·rw[ye]at h;subst h;exact a _
  ·rcases List.mem_cons.1 h with rfl|h
   ·unfold GZ;rw[zi];have:=a<|v % 10^18;omega
   ·exact NG f _ s h
theorem Ry:∀(l:List Rd),(∀s∈l,0<s.length)->l.length<=l.flatten.length
 |[],_=>zz _
 |s::l,h=>by
  have b:=Ry l fun x a=>h x<|List.mem_cons_of_mem _ a
  have c:=h s<|qj ..;rw[qo,zi,zo];omega
theorem eS{V:Nat}(h:0<V):AX (-(V:Int))=45::zd V:=Lib.itoa_neg V h
theorem AaT[Srt](a:Af AY 211 VM):Cv R6:=Aa Aa3<|Aa (T173.ok Ga)<|Aa Sy<|Aa a<|Aa iO AB
namespace T170
theorem fD[Srt](neg:Bool){V:Nat}(f:Small V)(b:∀ob,Q (.dat .str (if neg=true then 45::zd V else zd V)) ob):Exit neg (CF (V+1) V) Q:=by
 have a:=NG (V+1) V;have d:=Jb (V+1) V ae;have k:=II f;have j:=Ry _ a;have hr:(CF (V+1) V).flatten.length=(zd V).length:=by
  rw[<-d,yq,yq,List.map_reverse,List.sum_reverse]
 have e:0<(CF (V+1) V).length:=by
  have h:CF (V+1) V=if V<10^18 then[zd V]else GZ 18 (V % 10^18)::CF V (V/10^18):=rfl
  rw[h];split<;>simp
 generalize CF (V+1) V=G at*;unfold Exit;refine zx (fun c=>ze rfl (ze rfl ?_))<|fun c=>?_
 ·rw[wd c]at b;rw[wr _ ae ae];exact Fk G (45::zd V) (by rw[zo];omega) ae b G.length [45] _ 1 (zz _) rfl rfl af (by rw[List.take_length,d];rfl)
 ·rw[wc<|by rw[c];decide]at b;rw[wr _ ae ae];obtain⟨i,g⟩:∃i,i+1=G.length:=⟨G.length-1,by omega⟩;exact Gc G (zd V) ae ae b i g _ ae (a _<|List.getElem_mem _) d
theorem ok[Srt](b:Af AY 211 VM):Af AY 170 AeN:=by
 refine He (X:=R6) rfl (AaT b) (d:=9) ag ag ag (fun(a:Int×List Int) f=>?_) (Bd ag);have f:Bg a=true:=f;have j:=(Ci f).1;have hr:=(Ei j).1;refine zr (Aj a)<|zx (fun c=>ze (Fo hr.1 hr.2)<|zj<|zy rfl rfl ?_)<|fun c=>ze j ?_
 ·have c:a.2=[]:=by simpa using c
  show AX a.1=AX (zf a);rw[BG c]
 ·have c:a.2≠[]:=by rintro k;rw[k]at c;simp at c
  have m:=bounds f;have e:(9223372036854775808:Int)<=Ai (zf a):=by
   obtain⟨_,i⟩:=Ei j;obtain⟨s,w⟩:=a;rcases i with i|⟨_,_,o⟩
   ·exact wh i c
   ·rw[Ye c,Al];have o:9223372036854775808<=Aw w:=o;split<;>omega
  obtain⟨V,q⟩:=yx<|AP<|zf a;have h:=Al<|zf a;rw[q]at m e h ⊢;have g:Small V:=⟨m⟩;have r:=II g;have hp:0<V:=ae
  have t:=Ry _<|NG (V+1) V;have p:=Jb (V+1) V ae;have l:(CF (V+1) V).flatten.length=(zd V).length:=by
   rw[<-p,yq,yq,List.map_reverse,List.sum_reverse]
  refine Au _ V hp g ae<|fD _ g fun ob=>zy rfl rfl ?_;show(if decide (zf a<0)=true then 45::zd V else zd V)=AX (zf a);by_cases n:zf a<0
  ·rw[wd<|w4 n,show zf a= -(V:Int)from by omega,eS hp]
  ·rw[wc (by simpa using n),show zf a=(V:Int)from by omega,NK]
end T170
theorem XT{k:Nat}{n d:Int}(a:d≠0)(b:Ai n<(Ar:Int)^k)(c:Ai d<(Ar:Int)^k):Mn k (zq n d):=by
 unfold Mn;rw[yz,y7,wc a];constructor
 ·refine yc Y3 ?_;rw[Kl];have:Ai d.sign=1:=by rw[Al,ql a];rfl
  rw[this,Int.one_mul];exact b
 ·refine yc ?_ c;rw[Al];exact jt.mpr<|qe _ _
theorem AaZ{f:Ad}(h:yw f=true)(h0:zf f.1≠0):yw (V2 f)=true:=by
 obtain⟨a1,a2,a,b,a0⟩:=GB h;exact(J3 a2 a1 h0).Ck<|XT h0 b a
theorem AbT{f:Ad}(h:yw f=true):yw (AeD f)=true:=by
 obtain⟨a1,a2,a,b,a0⟩:=GB h;unfold yw j7 at*;have c:=ZI (k:=4000) (Ci a1).1 ae ae<|Uk (Ci a1).1 a;exact Ab (Ab (G1 c.1<|by show Ai (zf<|Dt f.1)<_;rw[JA,Jv];exact a)<|G1 (Ci a2).1 b)<|w4 a0
theorem aT[Srt]:Cv XA3:=Aa T131.ok<|Aa T59.ok<|Aa T65.ok<|Aa T161.ok AB
theorem T64.ok[Srt]:Af AY 64 dE:=by
 refine BA aT<|fun(i:((Int×List Int)×(Int×List Int))×((Int×List Int)×(Int×List Int))) c=>?_;obtain⟨a,b⟩:=i;have c:(yw a&&yw b)=true:=c;rw[zc]at c;obtain⟨b1,b2,lb1,lb2,b0⟩:=GB c.2;exact zr (T64.Aj a b)<|ze (Ci b1).1<|ze (Ab c.1<|AbT c.2)<|zj<|zy rfl rfl rfl
theorem T97.ok[Srt]:Af AY 97 bN:=by
 refine BA aT<|fun(i:((Int×List Int)×(Int×List Int))×((Int×List Int)×(Int×List Int))) c=>?_;obtain⟨a,b⟩:=i;have c:(yw a&&yw b&&decide (zf b.1≠0))=true:=c;rw[zc,zc,w5]at c;exact zr (T97.Aj a b)<|ze (Ab c.1.2<|w4 c.2)<|ze (Ab c.1.1<|AaZ c.1.2 c.2)<|zj<|zy rfl rfl rfl
theorem T132.ok[Srt]:Af AY 132 lD:=by
 refine BA G9<|fun(a:(Int×List Int)×(Int×List Int)) h=>?_;obtain⟨a1,a2,b,c,a0⟩:=GB h;exact zr (T132.Aj a)<|ze (Ab (Ab a1 a2)<|w4 a0)<|zj<|zy rfl rfl rfl
end Go.Pe
namespace Go.Sp
theorem Dp{a:Bool×List Int}(h:CG a=true):Bb a.2=true/\a.2.length<=3000/\(a.1=true->a.2≠[]):=by
 unfold CG at h;rw[zc,zc,w5,qd,w5,Bool.not_eq_true']at h;refine⟨h.1.1,h.1.2,fun k=>?_⟩;rcases h.2 with x|x
 ·rw[k]at x;cases x
 ·exact x
theorem E2{a:Bool×List Int}(h:CG a=true):Ai (vR a)=Aq a.2/\0<=Aq a.2:=by
 obtain⟨c,d,e⟩:=Dp h;have h0:=AH (b:=B9) af (BB c).2.1;have h0:0<=Aq a.2:=h0;refine⟨?_,h0⟩;unfold vR;rw[Al];split<;>omega
theorem kY{a:Bool×List Int}(h:CG a=true):a.1=rN (vR a):=by
 obtain⟨c,f,e⟩:=Dp h;obtain⟨_,h0⟩:=E2 h;unfold rN vR;cases d:a.1 with
 |false=>rw[wc af];symm;rw[w9];omega
 |true=>
  rw[wd rfl];symm;rw[w5];have:=Ks (b:=B9) af (BB c).2.1 (BB c).2.2<|e d;have:0<Aq a.2:=this;omega
theorem Ajf{a:Bool×List Int}(h:CG a=true):a.2=rW (vR a):=by
 unfold rW;rw[(E2 h).1];exact I5 (b:=B9) af (BB (Dp h).1).2.1 (BB (Dp h).1).2.2
theorem Acl{a:Bool×List Int}(h:CG a=true):a=(rN<|vR a,rW<|vR a):=Prod.ext (kY h)<|Ajf h
theorem Yf(k:Nat):(B9:Int)^k=10^(9*k):=by
 have:(B9:Int)=10^9:=af
 rw[this, <-Int.pow_mul]
theorem Ab0{n:Int}{k:Nat}(h:n.natAbs<10^(9*k)):Ai n<(B9:Int)^k:=by
 rw[Al,Yf];have:((10^(9*k):Nat):Int)=(10:Int)^(9*k):=by simp
 rw[<-this];exact qh.mpr h
theorem Pz(n:Int):0<=Ai n:=by rw[Al];omega
theorem N5(n:Int):Aq (rW n)=Ai n:=Di (b:=B9) af<|Pz n
theorem IP(n:Int):vR (rN n,rW n)=n:=by
 unfold vR;show(if rN n=true then -Aq (rW n)else Aq<|rW n)=n;rw[N5,Al];unfold rN;by_cases h:n<0
 ·rw[wd<|w4 h];omega
 ·rw[wc<|by simpa using h];omega
theorem TZ{n:Int}(h:n.natAbs<10^27000):CG (rN n,rW n)=true:=by
 have k:27000=9*3000:=rfl;rw[k]at h;obtain⟨c,_,i,f⟩:=Gs (n:=Ai n) (k:=3000) (Pz n) (Ab0 h) af;unfold CG;have g:Bb (rW n)=true:=c;have d:(rW n).length<=3000:=f;rw[g,w4 d];cases b:rN n with
 |false=>rfl
 |true=>
  have:rW n≠[]:=by
   intro e;have a:=N5 n;rw[e]at a;have a:0=Ai n:=a;unfold rN at b;have b:=w6 b;rw[Al]at a;omega
  rw[w4 this];rfl
theorem oH(k:Nat):((10^k:Nat):Int)=(10:Int)^k:=by rw[yh];rfl
theorem Aef{x:Nat}(j k:Nat)(h:j<=k)(a:x<10^j):x<10^k:=yg a (yo af h)
theorem AeU{a:Bool×List Int}(h:CG a=true):(vR a).natAbs<10^27000:=by
 obtain⟨d,f,i⟩:=Dp h;have e:=Bz (b:=B9) af (BB d).2.1;have g:(B9:Int)^a.2.length<=(B9:Int)^3000:=AT af f;have c:Ai (vR a)<(B9:Int)^3000:=by rw[(E2 h).1];exact zw e g
 rw[Al,Yf]at c;have:=oH<|9*3000;rw[<-this]at c;have k:27000=9*3000:=rfl;rw[k];exact qh.mp c
theorem oG{neg:Bool}{w:List Int}{n:Int}(b:AA B9 w)(a:Aq w=Ai n)(c:n≠0->neg=rN n):(CQ neg w,AD w)=(rN n,rW n):=by
 have h:=Go.Pe.Nq (neg:=neg) b a;rw[h];have:(if neg=true then -Ai n else Ai n)=n:=by
  by_cases h0:n=0
  ·rw[h0];unfold Ai;split<;>simp
  ·rw[c h0];unfold rN;rw[Al];by_cases h:n<0
   ·rw[wd<|w4 h];omega
   ·rw[wc<|by simpa using h];omega
 rw[this]
theorem Ea{s:Rd}(h:AU s=true):CG (BZ s,BQ s)=true/\vR (BZ s,BQ s)=Bo s/\CG (Bv s,Bp s)=true/\vR (Bv s,Bp s)=AZ s/\(Ao s).num=Bo s/\((Ao s).den:Int)=AZ s/\DS s=true/\(Bo s).natAbs<10^4000/\(AZ s).natAbs<10^4000:=by
 obtain⟨a,k⟩:=Gg h;obtain⟨s1,s2⟩:=TO h;have e:(Ao s).num=Bo s/\((Ao s).den:Int)=AZ s:=by
  have:=Lh<|Ao s;rw[a]at this;exact⟨this.1.symm,this.2.symm⟩
 have l1:(Bo s).natAbs<10^4000:=by rw[<-e.1];exact s1
 have b:(AZ s).natAbs<10^4000:=by rw[<-e.2,zh];exact s2
 have m:∀x:Nat,x<10^4000->x<10^27000:=fun x i=>Aef 4000 27000 af i
 refine⟨TZ<|m _ l1,IP _,TZ<|m _ b,IP _,e.1,e.2,?_,l1,b⟩;obtain⟨d,f,g⟩:=FE<|Ao s;rw[a]at d f g;have j:=Go.Pe.T163.EA s;unfold DS D1;rw[w4 (p:=s.length<=5999) ae,w4 (p:=(AJ s).length<=5999) ae,w4 (p:=(A1 s).length<=5999) ae,z7,z7,Bool.and_true,zc];refine⟨?_,?_⟩
 ·obtain⟨l,i2,i3,i4⟩:=Dy (Ao s).num;rw[d];unfold A9 at i2;split at i2
  ·next c=>rw[wd c,i2];exact D6 _
  ·next c=>rw[wc c,i2];exact D6 _
 ·rw[f];split
  ·rfl
  ·rw[wc<|Gq<|D6 _];exact D6 _
end Go.Sp
namespace Go.Pe
open Sp
open Go.Det
theorem U4{x:Int}{k:Nat}(h:x.natAbs<10^k):Ai x<(Ar:Int)^k:=by
 have a:((10^k:Nat):Int)=(10:Int)^k:=yh ..;rw[Al];refine zw ?_<|Adx k;rw[<-a];exact qh.mpr h
theorem TB{q:Rat}{k:Nat}(h:C3 k q)(d:k<=4000):Mn 4000 q:=by
 obtain⟨b,c⟩:=h.mono d;have a:=U4 (k:=4000) (x:=(q.den:Int)) (by rw[zh];exact c);rw[Al,zh]at a;exact⟨U4 b,a⟩
def frS(s:Rd):Ad:=((Sg s,Sf s),(QD s,RV s))
theorem Jw{s:Rd}(h:AU s=true):Fc (frS s) (Ao s):=by
 obtain⟨_,_,_,_,c,b,_,l1,a⟩:=Ea h;have m:∀x:Int,x.natAbs<10^4000->Ai x<(Ar:Int)^9000:=fun x d=>zw (U4 d) (AT af af)
 exact⟨(Ci<|GL<|Ec<|m _ l1).1,(Ci<|GL<|Ec<|m _ a).1,(MP _).trans c.symm,(MP _).trans b.symm⟩
theorem eO{d:AM}(h:qp d=true):Da d=decide (zf d=1):=by
 unfold Da;rw[Bool.eq_iff_iff,zc,w5,w5,w5];refine⟨fun⟨f,g⟩=>by rw[BG f];exact g,fun e=>?_⟩;by_cases c:d.2=[]
 ·rw[BG c]at e;exact⟨c,e⟩
 ·obtain⟨_,a⟩:=Ei h;obtain⟨s,w⟩:=d;rcases a with a|⟨_,_,b⟩
  ·exact wh a c
  ·rw[Ye c]at e;have b:9223372036854775808<=Aw w:=b;split at e<;>omega
theorem iC{f:Ad}{q:Rat}(h:Fc f q):JO f=KI q:=by
 unfold JO EO KI;rw[h.vn,h.vd]
theorem kV{f:Ad}{q:Rat}(h:Fc f q):KQ f=AO q:=by
 unfold KQ AO;rw[eO h.d,h.vn,h.vd];have e:decide ((q.den:Int)=1)=true↔q.den=1:=by rw[w5];omega
 by_cases c:q.den=1
 ·rw[wd<|e.2 c,wd c];rfl
 ·rw[wc<|fun k=>c<|e.1 k,wc c];show zm q.num++47::zm ((q.den:Nat):Int)=_;rw[qy]
theorem bR{f:Ad}{q:Rat}(h:Fc f q):Qr f=sM 0 q/\Q0 f=pU 0 q:=by
 unfold Qr Q0 sM pU;rw[iC h,kV h];exact⟨rfl,rfl⟩
theorem Fc.CA{f:Ad}{q:Rat}(h:Fc f q)(a:Mn 4000 q):j7 f=true:=by
 have:=h.Ck a;unfold yw at this;rw[zc]at this;exact this.1
theorem Fc.Jj{f:Ad}{q:Rat}(h:Fc f q):decide (zf f.1≠0)=decide (q≠0):=by
 rw[h.vn,decide_eq_decide,vc,yu]
theorem Fc.cmp{f g:Ad}{p q:Rat}(h:Fc f p)(b:Fc g q):Dh f g=if p<q then -1 else if q<p then 1 else 0:=by
 unfold Dh CC;rw[h.vn,h.vd,b.vn,b.vd];have a:p<q↔p.num*(q.den:Int)<q.num*(p.den:Int):=Rat.lt_iff ..;have e:q<p↔q.num*(p.den:Int)<p.num*(q.den:Int):=Rat.lt_iff ..;by_cases c:p<q
 ·rw[wd c,wd<|a.1 c]
 ·rw[wc c,wc<|fun k=>c<|a.2 k];by_cases d:q<p
  ·rw[wd d,wd<|e.1 d]
  ·rw[wc d,wc<|fun k=>d<|e.2 k]
end Go.Pe
namespace Go.Sp
theorem wF{n:Int}(h:0<=n):n+1<=2^(Fy n).toNat:=by
 unfold Fy;split
 ·have:n=0:=ae
  subst this;decide
 ·have b:=Nat.lt_log2_self (n:=n.toNat);have e:((n.toNat.log2:Int)+1).toNat=n.toNat.log2+1:=ae
  have a:((2^(n.toNat.log2+1):Nat):Int)=(2:Int)^(n.toNat.log2+1):=yh ..;rw[e, <-a];generalize 2^(n.toNat.log2+1)=P at*;omega
theorem AdX{w:List Int}(c:AA Ar w){k:Nat}(g:w.length=k+1):val Ar w<(Ar:Int)^k*(w.getD k 0+1):=by
 have a:=CB (Ar:Int) w k ae;have e:=Bz (b:=(Ar:Int)) af<|AS c k;rw[List.length_take,Nat.min_eq_left ae]at e;have f:w.drop k=[w.getD k 0]:=by
  rw[Cz ae,List.drop_eq_nil_of_le ae]
 rw[f]at a;have d:val Ar [w.getD k 0]=w.getD k 0:=by
  show w.getD k 0+(Ar:Int)*0=_;omega
 rw[d]at a;rw[Int.mul_add,qc];omega
theorem X8(k:Nat):((10^k:Nat):Int)=(10:Int)^k:=by rw[yh];rfl
theorem uI(k:Nat):2^(3*k)<=10^k:=by rw[Nat.pow_mul];exact Nat.pow_le_pow_left af k
theorem tZ(k:Nat):(2:Int)^(3*k)<=10^k:=by
 have a:((2^(3*k):Nat):Int)<=((10^k:Nat):Int):=jt.2<|uI k;rw[yh,yh]at a;exact a
theorem Aah:(2:Int)^1800<=10^600:=by
 have h:=tZ 600;have k:3*600=1800:=rfl;rw[k]at h;exact h
theorem AbN{a:AM}(h:QU a<=1800):EO a=false:=by
 have a0:0<=Ai (vI a):=by rw[Al];omega
 have f:=Di (b:=Ar) af a0;have c:=Gj (b:=Ar) af<|Ai<|vI a;have key:Ai (vI a)<2^1800:=by
  unfold QU at h;have f:val Ar (BD<|Ai<|vI a)=Ai (vI a):=f;have c:AA Ar (BD<|Ai<|vI a):=c;generalize BD (Ai<|vI a)=w at*;rw[<-f];by_cases d:w=[]
  ·subst d;show(0:Int)<_;exact Int.pow_pos af
  ·rw[wc d]at h;obtain⟨k,m⟩:∃k,w.length=k+1:=⟨w.length-1,by have:=List.length_pos_iff.2 d;omega⟩;have j:=AdX c m;have g:=LA (b:=(Ar:Int)) af c k;have hp:=wF g.1;have q:=(Go.Pe.TR g.1 (by have:(Ar:Int)=18446744073709551616:=rfl;omega)).1;rw[m,Nat.add_sub_cancel,show((k+1:Nat):Int)-1=(k:Int)by omega]at h;have o:(0:Int)<(Ar:Int)^k:=Bj af k;have n:=yb hp<|yy o;have l:(Ar:Int)^k=2^(64*k):=by
    have:(Ar:Int)=2^64:=af
    rw[this, <-Int.pow_mul]
   rw[l, <-Int.pow_add]at n;rw[l]at j;have p:(2:Int)^(64*k+(Fy<|w.getD k 0).toNat)<=2^1800:=AT af ae;exact zw j<|Int.le_trans n p
 have i:=zw key Aah;unfold EO On;rw[w9];have:(vI a).natAbs<10^600:=by
  rw[Al]at i;have e:=X8 600;rw[<-e]at i;exact qh.mp i
 have:=Ed this af;omega
end Go.Sp
namespace Go.Pe
open Sp
open Go.Det
theorem AaK[Srt]:Cv XX0:=fun g sp h=>by cases h
theorem T197.ok[Srt]:Af AY 197 UH:=by
 refine BA AaK<|fun(i:Rd×Rd) a=>?_;obtain⟨s,t⟩:=i;have a:(decide (t=[45])&&decide (s.length<=1000000))=true:=a;rw[zc,w5,w5]at a;obtain⟨rfl,hl⟩:=a;have b:∀v ob,v=A9 s->Ac UH (s,[45]) (.dat .str v) ob:=fun v ob h=>zy rfl rfl h
 refine zr (T197.Aj s [45]) ?_;conv=>zeta
 cases s with
 |nil=>exact qu rfl (zj<|b _ _ rfl)
 |cons c r=>
  have k:yi (([(45:UInt8)].length:Nat):Int)=1:=rfl;have j:qi 1 (c::r)=[c]:=rfl;have g:qi (Nat.sub (c::r).length 1) (List.drop 1 (c::r))=r:=qv<|zz _;have f:(c::r).getD 0 0=c:=rfl;rw[k,j,g];refine ze (w4<|by simp;omega) (ze (by simp)<|zx (fun d=>ze (by simp)<|zj<|b _ _ ?_)<|fun d=>zj<|b _ _ ?_)
  ·have e:c=45:=by simpa using d
   unfold A9;rw[f,wd e];rfl
  ·have e:c≠45:=by simpa using d
   unfold A9;rw[f,wc e]
theorem zB[Srt]:Cv XX1:=Aa (T173.ok Ga)<|Aa T229.ok AB
theorem Aaj{a:AM}(h:Bg a=true):(BD<|Ai<|zf a).length<=9000:=by
 have b:=bounds h;have h0:=AP<|zf a;refine Pw Ar af 9000 _ _ ?_;have e:((Ar^9000:Nat):Int)=(Ar:Int)^9000:=Vl 9000;rw[<-e]at b;generalize Ar^9000=P at*;omega
theorem T208.ok[Srt]:Af AY 208 jW:=by
 refine BA zB<|fun(a:Int×List Int) d=>?_;have d:Bg a=true:=d;have i:=(Ci d).1;have m:=Aaj d;have e:=Gj (b:=Ar) af<|Ai<|zf a;have e:AA Ar (BD<|Ai<|zf a):=e;have f:∀v ob,v=QU a->Ac jW a (.dat i64 v) ob:=fun v ob h=>zy rfl rfl h
 unfold QU at f;refine zr (T208.Aj a)<|ze i ?_;generalize BD (Ai<|zf a)=w at*;refine zx (fun c=>zj<|f _ _ ?_)<|fun c=>?_
 ·have:w=[]:=z8.1 (by have:(w.length:Int)=0:=(by simpa using c);omega);rw[wd this]
 ·have c:(w.length:Int)≠0:=by simpa using c
  have j:w≠[]:=by rintro rfl;exact c rfl
  have g:=A0 e<|w.length-1;have k:zg .i64 ((w.length:Int)-1)=((w.length-1:Nat):Int):=by rw[wr _ ae ae];omega
  have l:=TR (Sp.A6 g).1 (Sp.A6 g).2;rw[k,yj,wr (64*_) ae ae,wr _ ae ae];refine ze (ad ae ae)<|ze g<|zj<|f _ _ ?_;rw[wc j];omega
theorem tY[Srt]:Cv AfN:=Aa T208.ok<|Aa (T170.ok kR)<|Aa T197.ok AB
theorem pB(n:Int):A9 (AX n)=zd n.natAbs:=(Dy n).2.1
theorem P5{a:AM}(h:Bg a=true):(AX<|zf a).length<=180001:=by
 have c:=bounds h;have b:=Al<|zf a;have d:(zd (zf a).natAbs).length<=180000:=II ⟨by rw[<-b];exact c⟩;unfold AX zm;split
 ·rw[zo];omega
 ·rw[show(zf a).toNat=(zf a).natAbs by omega];omega
theorem T169.ok[Srt]:Af AY 169 ZV:=by
 refine BA tY<|fun(a:Int×List Int) b=>?_;have b:Bg a=true:=b;have f:=P5 b;have e:∀v ob,v=EO a->Ac ZV a (.dat .bool v) ob:=fun v ob h=>zy rfl rfl h
 have d:∀v ob,v=EO a->Ac ZV a (.bl v) ob:=fun v ob h=>zy rfl rfl h
 refine zr (T169.Aj a) (ze b<|zx (fun c=>ze b<|ze (Ab (w4 rfl)<|w4<|by show(AX<|zf a).length<=1000000;omega)<|zj<|e _ _ ?_)<|fun c=>zj<|d _ _ ?_)
 ·show decide (((A9<|AX<|zf a).length:Int)>600)=EO a;rw[pB];unfold EO On;rw[decide_eq_decide];omega
 ·have c:=w7 c;have c:¬QU a>1800:=c;exact(AbN ae).symm
theorem mK{a:AM}(h:OH a=true):Bg a=true:=by
 unfold OH at h;rw[zc,w5]at h;unfold Bg;rw[h.1,z7];exact w4 ae
theorem pS{a:Ad}(h:j7 a=true):Bg a.1=true/\Bg a.2=true:=by
 unfold j7 at h;rw[zc]at h;exact⟨mK h.1,mK h.2⟩
theorem aW[Srt]:Cv XX2:=Aa T169.ok<|Aa T123.ok<|Aa (T170.ok kR) AB
theorem T118.ok[Srt]:Af AY 118 bW:=by
 refine BA aW<|fun(a:(Int×List Int)×(Int×List Int)) ha=>?_;obtain⟨b,d⟩:=pS (a:=a) ha;refine zr (T118.Aj a)<|ze b<|zx (fun c=>zj<|zy rfl rfl ?_)<|fun c=>ze d<|zj<|zy rfl rfl ?_
 ·have c:EO a.1=true:=c;show true=(EO a.1||EO a.2);rw[c];rfl
 ·have c:EO a.1=false:=c;show EO a.2=(EO a.1||EO a.2);rw[c];rfl
theorem T119.ok[Srt]:Af AY 119 vK:=by
 refine BA aW<|fun(a:(Int×List Int)×(Int×List Int)) ha=>?_;obtain⟨b,d⟩:=pS (a:=a) ha;have l1:=P5 b;have e:=P5 d;refine zr (T119.Aj a) (ze rfl (zx (fun c=>ze b<|zj<|zy rfl rfl ?_)<|fun c=>ze b<|ze (w4<|by show(AX<|zf a.1).length+1<=_;omega)<|ze d<|ze (w4<|by rw[zi,List.length_singleton];show(AX<|zf a.1).length+1+(AX<|zf a.2).length<=_;omega)<|zj<|zy rfl rfl ?_))
 ·have c:Da a.2=true:=c;show AX (zf a.1)=KQ a;unfold KQ;rw[wd c]
 ·have c:Da a.2=false:=c;show AX (zf a.1)++[47]++AX (zf a.2)=KQ a;unfold KQ;rw[wc (by rw[c];decide),yk];rfl
theorem aO[Srt]:Cv XX3:=Aa T163.ok<|Aa T134.ok AB
namespace T270
theorem Au[Srt]{Q:PV->Ob->Prop}(l:List Rd)(g:l.length<=1000)(b:∀s∈l,s.length<=1000000):∀(r:List Rd) (i:Nat),l.drop i=r->i<=l.length->(∀ob,Q (.dat i64<|E9 r) ob)->Ends XX3 (L1 l (l.length:Int) (i:Int)) Q
 |[],i,h,e,a=>by
  have:=drop_nil h e;exact yt (Ak ..) (qu (w8 ae)<|zj<|a _)
 |x::r,i,h,e,a=>by
  obtain⟨f,k,j⟩:=drop_cons (d:=([]:Rd)) h;have n:x∈l:=List.mem_of_mem_drop (by rw[h];exact qj ..);have m:=wn (i:=i) ae;unfold E9 at a;refine yt (Ak ..) ?_;conv=>zeta
  rw[yj,k,m];refine ze (w4 ae) (ze (ad ae ae)<|ze (w4<|b x n)<|zx (fun c=>zj ?_)<|fun c=>Au l g b r (i+1) j f ?_)
  ·have c:Ap x≠0:=by simpa using c
   rw[wd c]at a;exact a _
  ·have c:Ap x=0:=by simpa using c
   rw[wc<|by rw[c];decide]at a;exact a
theorem ok[Srt]:Af AY 270 ZR:=by
 refine BA aO<|fun(l:List Rd) a=>?_;have a:(decide (l.length<=1000)&&l.all fun s=>decide (s.length<=1000000))=true:=a;rw[zc,w5,List.all_eq_true]at a;exact zr (Aj l)<|Au l a.1 (fun s h=>w6<|a.2 s h) l 0 rfl (Nat.zero_le _) (fun ob=>zy rfl rfl rfl)
end T270
theorem T106.ok[Srt]:Af AY 106 rY:=by
 refine BA aO<|fun(a:(Int×List Int)×(Int×List Int)) ha=>?_;exact zr (T106.Aj a)<|ze ha<|zj<|zy rfl rfl rfl
theorem T57.ok[Srt]:Af AY 57 cF:=by
 refine BA G9<|fun(n:Int) _=>?_;exact zr (T57.Aj n)<|ze rfl (ze rfl (zj<|zy rfl rfl rfl))
theorem AeO{f:Ad}{q:Rat}(h:Fc f q){e:Int}(a:e=0):(Qr f,Q0 f)=(sM e q,pU e q):=by
 rw[a,(bR h).1,(bR h).2]
theorem Fc.div{f g:Ad}{p q:Rat}(d:Fc f p)(a:Fc g q)(sp:Mn 4000 p)(c:Mn 4000 q)(b:Mn 4000 q⁻¹)(h0:q≠0):Fc (KJ f g) (p/q):=by
 rw[Rat.div_def];exact Fc.mul d (Fc.inv a c h0) sp b
theorem Km(x y:Int):jz [x,y]=if x≠0 then x else y:=by
 by_cases h:x≠0
 ·rw[wd h];unfold jz
  simp[h]
 ·rw[wc h];have h:x=0:=ae
  subst h;unfold jz jz jz
  simp;intro k;exact k.symm
theorem Aap(n:Int):BI n=[]:=by unfold BI;split<;>rfl
theorem G5{n:Int}(h:Cn n=true):Bg (n,BI n)=true/\zf (n,BI n)=n:=by
 rw[Aap];have hr:=Fa h;refine⟨?_,BG rfl⟩;unfold Bg;rw[show qp (n,([]:List Int))=true from MT h,z7];rfl
theorem Aga(n:Int)(h:Cn n=true):Fc ((n,BI n),(1,BI 1)) (n:Rat):=by
 obtain⟨a,b⟩:=G5 h;obtain⟨h3,h4⟩:=G5 (n:=1) rfl;exact⟨(Ci a).1,(Ci h3).1,b.trans (qz n).symm,h4.trans rfl⟩
section
open List Int Prod
namespace T30
def T[Srt](a b:Rd):Tr:=tree XR6 false 9 30<|Ag ([zk,zk]) (a,b)
def L1[Srt](v0 v1:Rd):Tr:=re ((T [] []).L.L.L.R)<|Ax 63 [(0,.dat zk v0),(1,.dat zk v1)] [] 0
theorem Aj[Srt](a b:Rd):T a b=let c:=zg .i64<|zg .i64 (jV a*Xa b)+zg .i64 (jV b*Xa a);let b':=zg .i64<|Xa a*Xa b;.ck (AU a) (.ck (AU b)<|.ite (EN a) (.ite (EN b) (.ck (Cn c&&Cn b'&&decide (zg .i64 (Xa a*Xa b)≠0))<|.leaf (.dat zk<|CT c b') [])<|L1 a b)<|L1 a b):=by kernel_rfl
theorem Ak[Srt](v0 v1:Rd):stepT XR6 (L1 v0 v1)=let b':=(Ir (BZ v0,BQ v0) (Bv v1,Bp v1),Ie (BZ v0,BQ v0) (Bv v1,Bp v1));let a:=(Ir (BZ v1,BQ v1) (Bv v0,Bp v0),Ie (BZ v1,BQ v1) (Bv v0,Bp v0));let b:=(Ir (Bv v0,Bp v0) (Bv v1,Bp v1),Ie (Bv v0,Bp v0) (Bv v1,Bp v1));let c:=(Ow b' a,N8 b' a);.ck (DS v0) (.ck (DS v1)<|.ck (CG (BZ v0,BQ v0)&&CG (Bv v1,Bp v1))<|.ck (CG (BZ v1,BQ v1)&&CG (Bv v0,Bp v0))<|.ck (CG b'&&CG a)<|.ck (CG (Bv v0,Bp v0)&&CG (Bv v1,Bp v1))<|.ck (CG c&&CG b&&decide (Sp.vR b≠0))<|.leaf (.dat zk<|JU c b) []):=by kernel_rfl
end T30
namespace T74
def T[Srt](a b:Rd):Tr:=tree XR6 false 9 74<|Ag ([zk,zk]) (a,b)
def L1[Srt](v0 v1:Rd):Tr:=re ((T [] []).L.L.L.R)<|Ax 55 [(0,.dat zk v0),(1,.dat zk v1)] [] 0
theorem Aj[Srt](a b:Rd):T a b=let c:=zg .i64<|jV a*jV b;let b':=zg .i64<|Xa a*Xa b;.ck (AU a) (.ck (AU b)<|.ite (EN a) (.ite (EN b) (.ck (Cn c&&Cn b'&&decide (zg .i64 (Xa a*Xa b)≠0))<|.leaf (.dat zk<|CT c b') [])<|L1 a b)<|L1 a b):=by kernel_rfl
theorem Ak[Srt](v0 v1:Rd):stepT XR6 (L1 v0 v1)=let a:=(Ir (Bv v0,Bp v0) (Bv v1,Bp v1),Ie (Bv v0,Bp v0) (Bv v1,Bp v1));let b':=(Ir (BZ v0,BQ v0) (BZ v1,BQ v1),Ie (BZ v0,BQ v0) (BZ v1,BQ v1));.ck (DS v0) (.ck (DS v1)<|.ck (CG (BZ v0,BQ v0)&&CG (BZ v1,BQ v1))<|.ck (CG (Bv v0,Bp v0)&&CG (Bv v1,Bp v1))<|.ck (CG b'&&CG a&&decide (Sp.vR a≠0))<|.leaf (.dat zk<|JU b' a) []):=by kernel_rfl
end T74
namespace T183
def T[Srt](a:Rd):Tr:=tree XR6 false 9 183<|Ag ([zk]) a
theorem Aj[Srt](a:Rd):T a=.ck (DS a) (.ck (CG (Bv a,Bp a)&&CG (BZ a,BQ a)&&decide (Sp.vR (BZ a,BQ a)≠0))<|.leaf (.dat zk<|JU (Bv a,Bp a) (BZ a,BQ a)) []):=by kernel_rfl
end T183
namespace T31
def T[Srt](a b:Rd):Tr:=tree XR7 false 9 31<|Ag ([zk,zk]) (a,b)
theorem Aj[Srt](a b:Rd):T a b=.cd (length b<=1000000) (.ck (AU a&&AU (M5 b))<|.leaf (.dat zk<|B0 a<|M5 b) []):=by kernel_rfl
end T31
namespace T130
def T[Srt](a b:Rd):Tr:=tree XR7 false 9 130<|Ag ([zk,zk]) (a,b)
theorem Aj[Srt](a b:Rd):T a b=.ck (Wf b) (.ck (AU a&&AU (Vy b))<|.leaf (.dat zk<|DR a<|Vy b) []):=by kernel_rfl
end T130
namespace T32
def T[Srt](a b:Rd):Tr:=tree XR8 false 9 32<|Ag ([zk,zk]) (a,b)
theorem Aj[Srt](a b:Rd):T a b=.ck (AU a&&C0 b) (.cd (length (Gz a b)<=1000000)<|.leaf (.dat i64<|F6<|Gz a b) []):=by kernel_rfl
end T32
namespace T137
def T[Srt](a:Rd):Tr:=tree XR8 false 9 137<|Ag ([zk]) a
theorem Aj[Srt](a:Rd):T a=.cd (length a<=1000000) (.leaf (.dat Sh.bool<|A3 a==(length a:Int)) []):=by kernel_rfl
end T137
namespace T61
def T[Srt](a:Rd):Tr:=tree XR8 false 9 61<|Ag ([zk]) a
theorem Aj[Srt](a:Rd):T a=let b:=decide (length a<=1000000);let b':Tr:=.leaf (.dat i64 (4:Int)) [];.ck b (.cd (length (AJ a)<=1000000)<|.di ((↑(length<|A9<|AJ a):Int)>600) b'<|.ck b<|.di ((↑(length<|QE a):Int)>600) b'<|.leaf (.dat i64 (0:Int)) []):=by kernel_rfl
end T61
namespace T129
def T[Srt](a:Rd):Tr:=tree XR9 false 9 129<|Ag ([zk]) a
theorem Aj[Srt](a:Rd):T a=let b:=(JP (BZ a,BQ a) (Bv a,Bp a),JT (BZ a,BQ a) (Bv a,Bp a));.cd (length a<=1000000) (.ite (Lj a) (.leaf (.dat zk a) [])<|.ck (DS a)<|.ck (CG (BZ a,BQ a)&&CG (Bv a,Bp a)&&decide (0<Sp.vR (Bv a,Bp a)))<|.ck (CG b)<|.leaf (.dat zk<|F8 b) []):=by kernel_rfl
end T129
end
end Go.Pe
