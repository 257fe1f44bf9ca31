import Derived.Test.YtbmofcgiokkikaaGreatDoorX11
/- A part of a proof; no law is stated here. -/
noncomputable section
open Go.Lib renaming decDigits -> zc, itoa -> zm, decDigits_length -> zn, decDigits_one -> zy, itoa_nonneg -> qx, nDigits -> jg
open Go.IntKind renaming wrap -> zd, u64 -> je, i64 -> jh
open Bool renaming and_eq_true -> ze, true_and -> ye
open Go.Pe.Ends renaming tt -> zf, leaf -> zo, eq -> yy, ite -> qh, Ah -> qt, ff -> qu
open Go.Sp renaming vI -> zh, Dz -> ql, first -> qn, Ce -> qz, BJ -> ji
open Int renaming natAbs_natCast -> zi, ne_of_gt -> z7, lt_of_lt_of_le -> yc, natCast_pow -> yd, natAbs_mul -> yg, natAbs_ediv_le_natAbs -> yi, lt_of_le_of_lt -> yn, toNat -> yq, eq_ofNat_of_zero_le -> yr, toNat_natCast -> yw, mul_one -> y8, ofNat_lt -> qd, natAbs_sign_of_ne_zero -> qg, ediv_eq_iff_of_pos -> qo, le_of_lt -> qp, sign_eq_one_of_pos -> qq, gcd_comm -> jj, ofNat_le -> jm, gcd -> jt
open List renaming length_append -> zj, length_cons -> zp, length -> zu, map -> zz, append_assoc -> yf, length_flatten -> yj, length_map -> ym, mem_singleton -> yo, length_eq_zero_iff -> yp, take_succ_eq_append_getElem -> yx, take -> qe, mem_cons_self -> qf, flatten_cons -> qj, all_cons -> qk, all -> qm, take_of_length_le -> qv, reverse_singleton -> qw, getD -> jo
open Go.Pe.Sh renaming str -> zk, list -> yv
open Rat renaming num_divInt_den -> zl, divInt -> zq, num_eq_zero -> yk, num_divInt -> yt, den_divInt -> yu, divInt_add_divInt -> yz, num_intCast -> qy, neg_num -> q9, neg_den -> jc
open UInt8 renaming ofNat -> zr, toNat -> zt
open Nat renaming le_refl -> z6, eq_zero_or_pos -> z8, lt_of_le_of_lt -> ya, lt_of_lt_of_le -> yb, pow_le_pow_right -> yh, ble_eq_true_of_le -> y7, div_le_self -> y9, pow_succ -> qc, ble -> jl
open Go.Pe.Ac renaming of -> qi
open Go.Pe.Obj renaming tbox -> jf
open Go.Pe renaming Fo -> jk
variable {Q:Go.Pe.PV->Go.Pe.Ob->Prop}
namespace Go.Pe
open Sp
open Go.Det
theorem Wb{a:AL}(h:ql a=true){k:Nat}(c:Aj (zh a)<(Av:Int)^k):a.2.length<=k:=by
 rcases R1 h with⟨b,_⟩|b
 ·rw[b];exact Nat.zero_le _
 ·rw[<-b];exact OP (AS _) c
theorem Hr{a:AL}(h:ql a=true)(b:Aj (zh a)<(Av:Int)^4000):PF a=true:=by
 unfold PF;exact Ab h<|w4<|Wb h b
theorem gN{a:AL}(h:ql a=true)(b:Aj (zh a)<(Av:Int)^9000):Bk a=true:=by
 unfold Bk;exact Ab h<|w4<|Wb h b
structure FH(f:Ad)(q:Rat):Prop where
 n:ql f.1=true
 d:ql f.2=true
 vn:zh f.1=q.num
 vd:zh f.2=(q.den:Int)
def MK(k:Nat)(q:Rat):Prop:=Aj q.num<(Av:Int)^k/\(q.den:Int)<(Av:Int)^k
theorem FH.den_pos{f:Ad}{q:Rat}(h:FH f q):0<zh f.2:=by
 rw[h.vd];have:=q.den_pos;omega
theorem FH.Ce{f:Ad}{q:Rat}(h:FH f q)(a:MK 4000 q):qz f=true:=by
 unfold qz ji;have b:Aj (zh f.2)=(q.den:Int):=by rw[h.vd,An,zi]
 exact Ab (Ab (Hr h.n<|by rw[h.vn];exact a.1)<|Hr h.d<|by rw[b];exact a.2)<|w4 h.den_pos
theorem aL{x y:Int}:Aj (x/y)<=Aj x:=by
 rw[An,An];have a:=yi x y;omega
theorem tK{a b:AL}(d:0<zh b):zh (Hb a b)=zh a/zh b:=by
 unfold Hb;generalize k:zh a=x;generalize zh b=y at d;have g:=Int.mul_ediv_add_emod (Aj x) y;have j:=Int.emod_nonneg (Aj x)<|z7 d;have i:=Int.emod_lt_of_pos (Aj x) d;split
 ·next c=>
  rw[oQ,Dr,Gf];obtain⟨l,f⟩:=c;symm;rw[qo d];have e:Aj x= -x:=by rw[An];omega
  rw[e]at g j i f ⊢;generalize -x/y=q at*;generalize -x % y=r at*;rw[Int.sub_mul,Int.neg_mul,Int.mul_comm q y];generalize y*q=t at*;omega
 ·next c=>
  rw[Dr];unfold Sp.sg;split
  ·next n=>
   have n:x<0:=w6 n;have f:Aj x % y=0:=Classical.byContradiction fun h=>c ⟨n,h⟩
   symm;rw[qo d];have e:Aj x= -x:=by rw[An];omega
   rw[f]at g;rw[e]at g ⊢;generalize -x/y=q at*;rw[Int.neg_mul,Int.mul_comm q y];generalize y*q=t at*;omega
  ·next n=>
   have n:¬x<0:=fun h=>n<|w4 h
   have e:Aj x=x:=by rw[An];omega
   rw[e]
theorem dY{a b:AL}(e:Bk a=true)(f:0<zh b):ql (Hb a b)=true:=by
 have d:=bounds e;have h:Aj (zh a)/zh b<=Aj (zh a):=Int.ediv_le_self _<|AS _;have g:0<=Aj (zh a)/zh b:=Int.ediv_nonneg (AS _)<|qp f;unfold Hb;generalize Aj (zh a)/zh b=q at*;have c:Aj q<(Av:Int)^9000:=by
  refine yn ?_ d;rw[An];omega
 split
 ·exact Wg (Eh<|by rw[J9];exact c) af
 ·refine(PN (k:=9000) ?_ ae).1;unfold Sp.sg;split
  ·rw[J9];exact c
  ·exact c
theorem AdD{a b:AL}(c:0<zh b):zh (Sp.iQ a b)=zh a/zh b:=by
 unfold Sp.iQ;rw[wc ae];exact tK c
theorem pF{a b:AL}(d:Bk a=true)(c:0<zh b):ql (Sp.iQ a b)=true:=by
 unfold Sp.iQ;rw[wc ae];exact dY d c
theorem X4{n d:AL}(h:Bk n=true)(b:Bk d=true)(h0:0<zh d):FH (Pw n d) (zq (zh n)<|zh d):=by
 have j:(zh d).sign=1:=qq h0;have g:(zq (zh n)<|zh d).num=zh n/(jt (zh n) (zh d):Int):=by
  rw[yt,j,Int.one_mul,jj]
 have i:((zq (zh n)<|zh d).den:Int)=zh d/(jt (zh n) (zh d):Int):=by
  rw[yu,wc<|z7 h0,jj,Int.natCast_ediv];rw[Int.natAbs_of_nonneg<|qp h0]
 obtain⟨k,f,a⟩:=Ad5 (n:=n) b<|z7 h0;unfold Pw;split
 ·next c=>
  unfold Di at c;rw[ze,w5,w5]at c;have e:zh d=1:=by rw[BZ c.1];exact c.2
  refine⟨(Cg h).1,(Cg b).1,?_,?_⟩
  ·rw[g,e,Int.gcd_one];exact(Int.ediv_one _).symm
  ·rw[i,e,Int.gcd_one];exact(Int.ediv_one _).symm
 ·refine⟨pF h a,pF b a,?_,?_⟩
  ·rw[AdD a,g,f]
  ·rw[AdD a,i,f]
theorem KY{n d:AL}(f:Bk n=true)(b:Bk d=true)(h0:zh d≠0):FH (TW n d) (zq (zh n)<|zh d):=by
 unfold TW;split
 ·next c=>
  have h:=X4 (YE f) (YE b) (by rw[JT];omega);rw[JT,JT]at h;have e:=Rat.divInt_mul_right (n:=zh n) (d:=zh d) (a:= -1) af;rw[Int.mul_neg,y8,Int.mul_neg,y8]at e;rw[e]at h;exact h
 ·exact X4 f b ae
theorem MK.kK{k:Nat}{f:Ad}{q:Rat}(h:FH f q)(a:MK k q):Aj (zh f.1)<(Av:Int)^k/\Aj (zh f.2)<(Av:Int)^k:=by
 rw[h.vn,h.vd];refine⟨a.1,?_⟩;rw[An,zi];exact a.2
theorem FH.eqd{f:Ad}{q:Rat}(h:FH f q):zq (zh f.1) (zh f.2)=q:=by
 rw[h.vn,h.vd];exact zl q
theorem FH.neg{f:Ad}{q:Rat}(h:FH f q)(c:MK 4000 q):FH (AfE f) (-q):=by
 have b:=MK.kK h c;have a:=Y4 (k:=4000) h.n ae ae<|Wb h.n b.1;exact⟨a.1,h.d,by show zh (DH f.1)=_;rw[JT,h.vn,q9],by show zh f.2=_;rw[h.vd,jc]⟩
theorem MK.neg{k:Nat}{q:Rat}(h:MK k q):MK k (-q):=by
 unfold MK;rw[q9,jc,J9];exact h
theorem FH.mul{f g:Ad}{p q:Rat}(c:FH f p)(e:FH g q)(sp:MK 4000 p)(i:MK 4000 q):FH (Ed f g) (p*q):=by
 have a:=MK.kK c sp;have b:=MK.kK e i;have h:=KY (n:=Gk f.1 g.1) (d:=Gk f.2 g.2) (PI a.1 b.1) (PI a.2 b.2) (by rw[D9];exact z7<|Int.mul_pos c.den_pos e.den_pos);rw[D9,D9, <-Rat.divInt_mul_divInt,c.eqd,e.eqd]at h;exact h
theorem FH.add{f g:Ad}{p q:Rat}(e:FH f p)(i:FH g q)(sp:MK 4000 p)(s:MK 4000 q):FH (B4 f g) (p+q):=by
 have a:=MK.kK e sp;have b:=MK.kK i s;have o:=FJ<|Hr e.n a.1;have l:=FJ<|Hr i.n b.1;unfold B4;split
 ·next c=>
  obtain⟨k,j⟩:=c;unfold Di at k j;rw[ze,w5,w5]at k j;have m:(p.den:Int)=1:=by rw[<-e.vd,BZ k.1];exact k.2
  have t:(q.den:Int)=1:=by rw[<-i.vd,BZ j.1];exact j.2
  have r:zq p.num 1=p:=by have:=zl p;rw[m]at this;exact this
  have eq:zq q.num 1=q:=by have:=zl q;rw[t]at this;exact this
  have es:p+q=zq (p.num+q.num) 1:=by
   have h:=yz p.num q.num (d₁:=1) (d₂:=1) af af;rw[r,eq,y8,y8,y8]at h;exact h
  refine⟨Wg o.1 l.1,by show ql (1,BA 1)=true;rw[PW];rfl,?_,?_⟩
  ·show zh (Fc f.1 g.1)=_;rw[ZA,e.vn,i.vn,es,yt];simp
  ·show zh (1,BA 1)=_;rw[PW,Dr,es,yu];simp
 ·have h:=KY (n:=Fc (Gk f.1 g.2)<|Gk g.1 f.2) (d:=Gk f.2 g.2) (Ahd (PI a.1 b.2) (PI b.1 a.2)<|by rw[D9,D9];exact pC (MY a.1 b.2)<|MY b.1 a.2) (PI a.2 b.2) (by rw[D9];exact z7<|Int.mul_pos e.den_pos i.den_pos);rw[ZA,D9,D9,D9, <-yz _ _ (z7 e.den_pos) (z7 i.den_pos),e.eqd,i.eqd]at h;exact h
theorem FH.sub{f g:Ad}{p q:Rat}(b:FH f p)(c:FH g q)(sp:MK 4000 p)(a:MK 4000 q):FH (D7 f g) (p-q):=by
 rw[Rat.sub_eq_add_neg];exact b.add (c.neg a) sp a.neg
theorem FH.inv{f:Ad}{p:Rat}(b:FH f p)(sp:MK 4000 p)(h0:p≠0):FH (YM f) p⁻¹:=by
 have a:=MK.kK b sp;have e:=FJ<|Hr b.n a.1;have c:=FJ<|Hr b.d a.2;have h:=KY c.1 e.1 (by rw[b.vn];exact fun h=>h0<|yk.mp h);rw[<-Rat.inv_divInt,b.eqd]at h;exact h
end Go.Pe
namespace Go.Sp
open Go.Lib
theorem P8{P:Nat->Z->Prop}(e:∀d,d<10->P d [zr<|48+d])(c:∀a d,0<a->d<10->P a (decDigits a)->P (10*a+d) (decDigits a++[zr<|48+d]))(n:Nat):P n (decDigits n):=by
 induction n using Nat.strongRecOn with
 |_ n b=>
  grind [decDigits]
theorem LB:∀d:Fin 10,(zr<|48+d.1).toNat=48+d.1:=af
theorem Ns{d:Nat}(h:d<10):B7 (zr<|48+d)=true/\O7 (zr<|48+d)=d:=by
 have e:(zr<|48+d).toNat=48+d:=LB ⟨d,h⟩;grind [B7,O7]
theorem vQ{c:UInt8}(h:B7 c=true):c=zr (48+(O7 c).toNat)/\(O7 c).toNat<10:=by
 obtain⟨d,b⟩:=FN h;have a:(O7 c).toNat<10:=ae
 refine⟨UInt8.toNat_inj.1 ?_,a⟩;rw[LB ⟨(O7 c).toNat,a⟩];grind [O7]
theorem RY(n:Nat):decDigits n≠[]:=P8 (P:=fun _ l=>l≠[]) (by simp) (by simp) n
theorem DU(n:Nat):Au (decDigits n)=true:=by
 refine P8 (P:=fun _ l=>Au l=true) (fun d h=>?_) (fun a d _ h b=>?_) n
 ·grind [Au,Ns]
 grind [Au,Ns]
theorem IJ(n:Nat):AK 0 (decDigits n)=n:=by
 refine P8 (P:=fun n l=>AK 0 l=n) (fun d h=>?_) (fun a d _ h b=>?_) n
 ·grind [Ns,AK]
 grind [Dh,Ns,AK]
theorem wC(n:Nat)(h0:0<n):(decDigits n).getD 0 0≠48:=by
 refine P8 (P:=fun n l=>0<n->l.getD 0 0≠48) (fun d h h0=>?_) (fun a d c _ b _=>?_) n h0
 ·intro e;have:=LB ⟨d,h⟩;simp_all
 grind [RY]
theorem Yo(n:Nat):A6 (decDigits n)=true:=by
 unfold A6;rw[DU,w4<|RY n];rcases z8 n with rfl|h
 ·grind [decDigits_one]
 grind [wC]
theorem G9{s:Z}(h:A6 s=true):s≠[]/\Au s=true/\(s.getD 0 0≠48\/s=[48]):=by
 simp_all [A6]
theorem Ju{s:Z}(h:A6 s=true)(h0:s≠[48]):0<AK 0 s:=by
 obtain⟨e,a,f⟩:=G9 h;cases s with
 |nil=>grind
 |cons c r=>
  have d:c≠48:=by
   grind
  unfold Au at a;rw[qk,ze]at a;have j:=FN a.1;have hr:Au r=true:=a.2;have g:=Br hr;show 0<AK (10*0+O7 c) r;rw[Fv];have hp:(0:Int)<10^r.length:=ae;have i:c.toNat≠48:=fun x=>d<|UInt8.toNat_inj.1 x
  have b:0<10*0+O7 c:=by grind [O7]
  have:=Int.mul_pos b hp;omega
theorem SM{s:Z}(h:A6 s=true):s=decDigits (AK 0 s).toNat:=by
 generalize l:s.length=n;induction n generalizing s with
 |zero=>simp_all [G9]
 |succ n f=>
  obtain⟨d,a,g⟩:=G9 h;obtain⟨t,c,rfl⟩:∃t c,s=t++[c]:=⟨_,_,(List.dropLast_concat_getLast d).symm⟩;unfold Au at a;rw[List.all_append,ze,qk,ze]at a;obtain⟨h4,h5,_⟩:=a;obtain⟨b1,b2⟩:=vQ h5;obtain⟨d1,_⟩:=FN h5;rw[Dh];show t++[c]=decDigits (10*AK 0 t+O7 c).toNat;by_cases k:t=[]
  ·grind [decDigits_one,AK]
  ·have j:t.getD 0 0≠48:=by
    rcases g with x|x
    ·grind
    ·grind [yp]
   have b:A6 t=true:=by
    grind [A6,Au]
   have hp:=Ju b ah;have i:=f b ah;have e:(10*AK 0 t+O7 c).toNat=10*(AK 0 t).toNat+(O7 c).toNat:=ae
   rw[e,Ib _ _ ae b2, <-i, <-b1]
theorem Af7:∀ {a:Z},(∀c∈a,c≠47)->AO a=a/\Bb a=[]/\B1 a=false:=by
 grind [B1,Go.Pe.Cc]
theorem Abx:∀ {a:Z} (b:Z),(∀c∈a,c≠47)->AO (a++47::b)=a/\Bb (a++47::b)=b/\B1 (a++47::b)=true:=by
 intro a b h;have d:B1 (a++47::b)=true:=by
  simp_all [B1]
 have f:∀ {a:Z},(∀c∈a,c≠47)->AO (a++47::b)=a:=by
  intro a;induction a with
  |nil=>intro _;rfl
  |cons x r g=>
   simp_all [jk]
 have e:=f h;refine⟨e,?_,d⟩;rw[((Go.Pe.Cc _).2.1 d).2,e];simp
theorem TY{s:Z}(h:Au s=true):∀c∈s,c≠47:=by
 intro c a e;unfold Au at h;rw[List.all_eq_true]at h;have:=h c a;rw[e]at this;exact wh this af
theorem Fx{s:Z}(h:Au s=true):s.getD 0 0≠45:=by
 cases s with
 |nil=>decide
 |cons c r=>
  unfold Au at h;rw[qk,ze]at h;show c≠45;intro e;rw[e]at h;exact wh h.1 af
def Az(q:Rat):Z:=if q.den=1 then itoa q.num else itoa q.num++47::decDigits q.den
def Ax(s:Z):Rat:=zq (Bs s)<|A5 s
theorem Dp(n:Int):(∀c∈itoa n,c≠47)/\A9 (itoa n)=decDigits n.natAbs/\preB (itoa n)=decide (n<0)/\Bu (itoa n)=n:=by
 unfold itoa;by_cases h:n<0
 ·rw[wd h];refine⟨fun c a=>?_,rfl,(w4 h).symm,?_⟩
  ·rcases List.mem_cons.1 a with rfl|a
   ·decide
   grind [TY,DU]
  grind [IJ,Bu]
 ·rw[wc h];have b:=Fx<|DU n.toNat;have e:n.toNat=n.natAbs:=ae
  refine⟨TY<|DU _,?_,?_,?_⟩
  ·simp_all [A9]
  ·grind [preB]
  ·unfold Bu;rw[wc b,IJ];omega
theorem F6(q:Rat):AO (Az q)=itoa q.num/\Bb (Az q)=(if q.den=1 then[]else decDigits q.den)/\B1 (Az q)=decide (q.den≠1):=by
 unfold Az;have h:=(Dp q.num).1;by_cases a:q.den=1
 ·simp_all [Af7]
 simp_all [Abx]
theorem RA(q:Rat):Bs (Az q)=q.num/\A5 (Az q)=q.den:=by
 obtain⟨c,b,a⟩:=F6 q;unfold Bs A5;rw[c,b,a];refine⟨(Dp q.num).2.2.2,?_⟩;by_cases d:q.den=1
 ·grind
 ·rw[wd ah,wc d];unfold Bu;rw[wc<|Fx<|DU _,IJ]
theorem EE(q:Rat):Ax (Az q)=q:=by
 grind [Ax,RA,zl]
theorem jI{p q:Rat}(h:Az p=Az q):p=q:=by
 grind [EE]
theorem V5(a:Z):AO (A9 a)=A9 (AO a)/\Bb (A9 a)=Bb a/\B1 (A9 a)=B1 a/\preB (AO a)=preB a:=by
 unfold A9 preB;cases a with
 |nil=>exact⟨rfl,rfl,rfl,rfl⟩
 |cons c r=>
  have b:(c::r).getD 0 0=c:=rfl;rw[b,jk];by_cases d:c=45
  ·subst d;have e:Bb (45::r)=Bb r:=by
    grind [Bb]
   exact⟨rfl,e.symm,rfl,rfl⟩
  ·by_cases f:c=47
   ·simp_all [jk]
   ·simp_all [jk]
theorem ZQ{a:Z}(h:Ao a=0):H7 a=true/\(AO<|A9 a).length<=600/\(Bb<|A9 a).length<=600/\(B1 (A9 a)=true->gI (Abo a) (AcO a)=1):=by
 unfold Ao at h;grind
def Cz(k:Nat)(q:Rat):Prop:=q.num.natAbs<10^k/\q.den<10^k
theorem Sf{n d:Int}(a:0<d)(h:jt n d=1):(zq n d).num=n/\((zq n d).den:Int)=d:=by
 simp_all [qq,yt,yu,z7,jj,Int.natAbs_of_nonneg,qp]
theorem QE{s:Z}(h:Au s=true){k:Nat}(a:s.length<=k):(AK 0 s).toNat<10^k:=by
 have c:=Br h;have b:(10:Int)^s.length<=10^k:=AY af a;grind
theorem R3(k:Nat)(h:k≠0):(1:Int).toNat<10^k:=(by simp_all)
theorem Abu:decDigits (yq 1)=[49]:=by simp_all [decDigits_one]
theorem N9{s:Z}(h:Ao s=0):Az (Ax s)=s/\(Ax s).num=Bs s/\((Ax s).den:Int)=A5 s/\Cz 600 (Ax s):=by
 obtain⟨g,l1,o,b⟩:=ZQ h;obtain⟨p1,p2,p3,p4⟩:=V5 s;unfold H7 at g;rw[ze,ze]at g;obtain⟨⟨fa,fm⟩,a⟩:=g;unfold Abo AcO at b;obtain⟨A,hA⟩:∃A,A=AO (A9 s):=⟨_,rfl⟩;obtain⟨B,hB⟩:∃B,B=Bb (A9 s):=⟨_,rfl⟩;rw[<-hA]at fa fm l1 b;rw[<-hB]at a o b;rw[p3]at a b;have q:=(G9 fa).2.1;have G:=SM fa;have v0:=Br q;have E:Bs s=(if preB s=true then -AK 0 A else AK 0 A)/\AO s=(if preB s=true then 45::A else A):=by
  have w:A=A9 (AO s):=ah
  unfold Bs Bu;rw[<-p4];unfold preB;rw[w];unfold A9;by_cases j:(AO s).getD 0 0=45
  ·cases H:AO s with
   |nil=>grind
   |cons c r=>
    grind
  grind
 have i:(Bs s).natAbs=(AK 0 A).toNat:=ae
 have x:0<A5 s/\(A5 s).toNat<10^600/\jt (Bs s) (A5 s)=1/\(B1 s=true->B=decDigits (A5 s).toNat/\A5 s≠1)/\(B1 s=false->A5 s=1):=by
  unfold A5;rw[<-p2, <-hB];cases j:B1 s with
  |false=>
   rw[wc af];exact⟨by decide,ae,Int.gcd_one,(by simp),fun _=>rfl⟩
  |true=>
   rw[j]at a;have a:(A6 B&&decide (B≠[48])&&decide (B≠[49]))=true:=a;rw[ze,ze,w5,w5]at a;obtain⟨⟨f,y⟩,M⟩:=a;have p:=(G9 f).2.1;have hp:=Ju f y;have z:Bu B=AK 0 B:=by unfold Bu;rw[wc<|Fx p]
   rw[wd rfl,z];refine⟨hp,QE (k:=600) p o,?_,fun _=>⟨SM f,?_⟩,(by simp)⟩
   ·grind [HL,Int.neg_gcd]
   grind [SM,Abu]
 obtain⟨u,O,v,N,K⟩:=x;obtain⟨d,l⟩:=Sf (n:=Bs s) u v;have d:(Ax s).num=Bs s:=d;have l:((Ax s).den:Int)=A5 s:=l;refine⟨?_,d,l,?_,?_⟩
 ·have P:itoa (Bs s)=AO s:=by
   unfold itoa;by_cases D:preB s=true
   ·have m:A≠[48]:=by
     grind
    have:=Ju fa m;grind
   grind
  unfold Az;obtain⟨C,J,F⟩:=Go.Pe.Cc s;cases j:B1 s with
  |false=>
   grind
  |true=>
   have I:s.drop (AO s).length=47::s.drop ((AO s).length+1):=by
    have h0:∀t:Z,B1 t=true->t.drop (AO t).length=47::t.drop ((AO t).length+1):=by
     intro t;induction t with
     |nil=>intro h;cases h
     |cons c r L=>
      rw[jk];by_cases e:c=47
      ·grind
      ·grind [B1]
    grind
   grind [List.take_append_drop]
 ·rw[d,i];exact QE (k:=600) q l1
 omega
def A2(n:Int):Z:=zm n
def Rz(s:Z)(n:Int):Z:=Lib.repeatL s n.toNat
end Go.Sp
namespace Go.Pe
open Go.Det
def yK:Am:=⟨[i64],fun n=>Sp.Cn n,[.str],fun n=>Sp.A2 n,false⟩
def Xx:Am:=⟨[u64,i64],fun i=>decide (0<=i.1)&&decide (i.1<1000000000000000000)&&decide (i.2=10),[.str],fun i=>Sp.A2 i.1,false⟩
def VD:Am:=⟨[.str,i64],fun i=>decide (0<=i.2)&&decide (i.2<=1000)&&decide (i.1.length<=1000),[.str],fun i=>Sp.Rz i.1 i.2,false⟩
def Afh:Am:=⟨[A4],fun a=>Sp.Bk a,[.str],fun a=>Sp.A2<|zh a,false⟩
def Tf:AG:=X7 [(209,yK),(173,OI),(210,Ht),(211,Xx),(212,VD)]
open Sp
section
open List Int Prod
namespace T170
def T(a:AL):Tr:=tree Tf false 9 170<|Af ([A4]) a
def L1(v3:Bool)(v4:List Int)(a:Nat)(b:List Int):Tr:=re ((T (0,[])).R.L)<|Ap 69 [(3,.dat Sh.bool v3),(4,.dat (yv<|Sh.int je) v4),(5,.sl 0 1 0 a none),(6,.nil)] [(0,.arr false 217 (Sh.int je) b)] 1
theorem Ai(a:AL):T a=.ite (!decide (0<length (snd a))) (.ck (Cn<|fst a)<|.leaf (.dat zk<|A2<|fst a) []) (.ck (ql a)<|L1 (decide (zh a<0)) (BI<|Aj<|zh a) 1<|[1000000000000000000]):=by kernel_rfl
def L2(v3:Bool)(v4:List Int)(b a:Nat)(o1:List Z)(c:List Int):Tr:=re ((stepT Tf<|L1 false [] 0 []).L.L.L.L.L.L.L.L.L)<|Ap 69 [(3,.dat Sh.bool v3),(4,.dat (yv<|Sh.int je) v4),(5,.sl 0 1 0 b none),(6,.sl 1 1 0 a none)] [(1,.arr false 9 zk o1),(0,.arr true 217 (Sh.int je) c)] 2
def L3(a:Int)(o1:List Int)(b:Nat):Tr:=re ((stepT Tf<|L1 false [] 0 []).R.L.L.L)<|Ap 69 [(6,.nil),(10,.ptr 0 0),(11,.dat i64 a)] [(1,.arr false 5 (Sh.int IntKind.u8) o1),(0,jf 253 [.ptr 0 0,.sl 1 1 0 b none])] 2
def L4(a:Int):Tr:=re ((stepT Tf<|L1 false [] 0 []).R.L.R)<|Ap 69 [(6,.nil),(10,.ptr 0 0),(11,.dat i64 a)] [(0,jf 253 [.ptr 0 0,.nil])] 1
def L5(a:Int):Tr:=re ((stepT Tf<|L1 false [] 0 []).R.R)<|Ap 69 [(6,.nil),(10,.ptr 0 0),(11,.dat i64 a)] [(0,jf 253 [PV.nilp,.nil])] 1
theorem Al(v3:Bool)(v4:List Int)(a:Nat)(c:List Int):stepT Tf (L1 v3 v4 a c)=let d:=BI<|Ay v4 % Ay (take a c);let b':=BI<|Ay v4/Ay (take a c);let h:=aa 16;let f:=zd .i64<|0-1;let g:=A2<|getD d 0 0;let e:=18-(↑(length g):Int);.di ((length v4:Int)>0) (.ck (decide (0+a<=length c)&&true&&VF v4 (take a c))<|.di ((↑(length d):Int)>0) (.cd (0<(↑(length d):Int))<|.ck (decide ((0:Sh.T u64)<=getD d 0 0)&&decide (getD d 0 0<(1000000000000000000:Sh.T u64))&&decide (10=10))<|.di ((↑(length b'):Int)>0) (.ck (decide (0<=zd .i64 e)&&decide (zd .i64 e<=1000)&&decide (1<=1000))<|.cd (length (Rz [(48:UInt8)]<|zd .i64 e)+length g<=4611686018427387904)<|.ck h<|L2 v3 b' a 1 ([Rz [(48:UInt8)] (zd .i64 e)++A2 (getD d 0 0)]) c)<|.ck h<|L2 v3 b' a 1 ([A2<|getD d 0 0]) c)<|.di ((↑(length b'):Int)>0) (.ck true<|.ck true<|.ck true<|L2 v3 b' a 1 ([Rz [(48:UInt8)] (zd .i64<|18-1)++[(48:UInt8)]]) c)<|.ck true<|L2 v3 b' a 1 ([[(48:UInt8)]]) c) (.ite v3 (.ite true (.ck true<|L3 f (zz (fun b=>(↑(zt b):Int)) [(45:UInt8)]) 1)<|L4 f)<|L5 f):=by kernel_rfl
def L6(b:Nat)(c:Int)(d:List Int)(a:Nat)(e:List Z):Tr:=re ((stepT Tf<|L2 false [] 0 0 [] []).R.L.L.L)<|Ap 69 [(6,.sl 0 1 0 b none),(10,.ptr 1 0),(11,.dat i64 c)] [(2,.arr false 5 (Sh.int IntKind.u8) d),(1,jf 253 [.ptr 1 0,.sl 2 1 0 a none]),(0,.arr false 9 zk e)] 3
def L7(a:Nat)(b:Int)(c:List Z):Tr:=re ((stepT Tf<|L2 false [] 0 0 [] []).R.L.R)<|Ap 69 [(6,.sl 0 1 0 a none),(10,.ptr 1 0),(11,.dat i64 b)] [(1,jf 253 [.ptr 1 0,.nil]),(0,.arr false 9 zk c)] 2
def L8(a:Nat)(b:Int)(c:List Z):Tr:=re ((stepT Tf<|L2 false [] 0 0 [] []).R.R)<|Ap 69 [(6,.sl 0 1 0 a none),(10,.ptr 1 0),(11,.dat i64 b)] [(1,jf 253 [PV.nilp,.nil]),(0,.arr false 9 zk c)] 2
theorem AA(v3:Bool)(v4:List Int)(a c:Nat)(o1:List Z)(d:List Int):stepT Tf (L2 v3 v4 a c o1 d)=let e:=BI<|Ay v4 % Ay (take a d);let b':=BI<|Ay v4/Ay (take a d);let j:=decide ((3*(c+1)+2000)*16<=562949953421312);let i:=zd .i64<|(↑c:Int)-1;let h:=decide (c=length o1);let g:=Nat.add c 1;let h':=decide (1<=1)&&true&&h&&j;let k:=A2<|getD e 0 0;let f:=18-(↑(length k):Int);.di ((length v4:Int)>0) (.ck (decide (0+a<=length d)&&true&&VF v4 (take a d))<|.di ((↑(length e):Int)>0) (.cd (0<(↑(length e):Int))<|.ck (decide ((0:Sh.T u64)<=getD e 0 0)&&decide (getD e 0 0<(1000000000000000000:Sh.T u64))&&decide (10=10))<|.di ((↑(length b'):Int)>0) (.ck (decide (0<=zd .i64 f)&&decide (zd .i64 f<=1000)&&decide (1<=1000))<|.cd (length (Rz [(48:UInt8)]<|zd .i64 f)+length k<=4611686018427387904)<|.ck h'<|L2 v3 b' a g (o1++[Rz [(48:UInt8)] (zd .i64 f)++A2 (getD e 0 0)]) d)<|.ck h'<|L2 v3 b' a g (o1++[A2<|getD e 0 0]) d)<|.di ((↑(length b'):Int)>0) (.ck true<|.ck true<|.ck (h&&j)<|L2 v3 b' a g (o1++[Rz [(48:UInt8)] (zd .i64<|18-1)++[(48:UInt8)]]) d)<|.ck (h&&j)<|L2 v3 b' a g (o1++[[(48:UInt8)]]) d) (.ite v3 (.ite true (.ck true<|L6 c i (zz (fun b=>(↑(zt b):Int)) [(45:UInt8)]) 1 o1)<|L7 c i o1)<|L8 c i o1):=by kernel_rfl
theorem CL(d:Nat)(c:Int)(e:List Int)(a:Nat)(f:List Z):stepT Tf (L6 d c e a f)=let g:=getD f (toNat c) [];.di (c>=0) (.ck (decide (0<=c)&&decide (c<(↑d:Int)))<|.cd (toNat c<length f)<|.ck (decide (a=length e)&&decide ((3*(a+length (zz (fun b=>(↑(zt b):Int)) g))+2000)*1<=562949953421312))<|L6 d (zd .i64<|c-1) (e++zz (fun b=>(↑(zt b):Int)) g) (Nat.add a<|length<|zz (fun b=>(↑(zt b):Int)) g) f) (.cd (0<a)<|.ck (decide (0<(↑a:Int))&&decide (toNat (↑a:Int)<=length e)&&decide (toNat (↑a:Int)<=9223372036854775807)&&qm e fun x=>decide (0<=x)&&decide (x<256))<|.leaf (.dat zk<|zz (fun x=>zr<|toNat x)<|take (toNat (↑a:Int)) e) []):=by kernel_rfl
theorem DM(c:Nat)(a:Int)(d:List Z):stepT Tf (L8 c a d)=let e:=getD d (toNat a) [];let b':=zd .i64<|a-1;.cd (a>=0) (.ck (decide (0<=a)&&decide (a<(↑c:Int)))<|.cd (toNat a<length d)<|.di (0<length (zz (fun b=>(↑(zt b):Int)) e)) (.cd ((3*length (zz (fun b=>(↑(zt b):Int)) e)+2000)*1<=562949953421312)<|L6 c b' (zz (fun b=>(↑(zt b):Int)) e) (length<|zz (fun b=>(↑(zt b):Int)) e) d)<|L7 c b' d):=by kernel_rfl
end T170
end
theorem OF{f:FuncId}{sp:Am}{q:List V->H->Option (V×H)}(hp:A1.prim f=none)(e:∃i,A1.fn f=some i)(n:A1.spec f=some q)
  (c:∀(F:Fz) (h:H) (args:List V) (i:(BF sp.ins).T),Gh h->NK F (Af sp.ins i) args->sp.pre i=true->∃v,q args h=some (v,h)/\PC F (one<|Af sp.outs<|sp.f i) v):Ae A1 f sp:=by
 refine .of0 ⟨hp,e,fun F h args i g d j a b=>?_⟩;obtain⟨v,o,p⟩:=c F h args i j a b;refine⟨[(v,h)],1,fun m r=>?_,fun _=>⟨_,rfl⟩,fun x l=>?_⟩
 ·obtain⟨k,rfl⟩:∃k,m=k+1:=⟨m-1,by omega⟩;rw[Bp];simp only[n,o]
 ·cases yo.1 l;exact⟨z6 _,fun _ _=>rfl,d,F,fun _ _ h=>h,fun _ _ h=>.inl h,g,p⟩
theorem Ah7:∃cs t fz,(5,O.cells cs t fz)∈Hd/\eqU cs Lib.pow10Tab=true:=⟨_,_,_,qf ..,by kernel_rfl⟩
theorem gG{h:H}(d:Gh h):VI h=true:=by
 obtain⟨cs,t,fz,c,b⟩:=Ah7;have a:=d _ c;unfold VI;rw[a];exact b
theorem Aai:Ae A1 209 yK:=by
 refine OF (q:=fH) ag (Ak ag) rfl fun F h args (n:Int) hg a hp=>?_
 have hp:Sp.Cn n=true:=hp;have a:args=[.int .i64 n]:=by
  have:=a (fun _=>none) 0;simp only[Af,yK,Ca]at this;obtain⟨v,vs,rfl,d,rfl⟩:=this;obtain rfl:=Db d;rfl
 subst a;refine⟨.str<|zm n,?_,fun ρ N=>OO _⟩;have:=Hq hp;have c:decide (-9223372036854775808<=n)=true:=w4 ae;have b:decide (n<=9223372036854775807)=true:=w4 ae;simp only[fH,gG hg,c,b,Bool.and_self,we]
theorem kL:Ae A1 212 VD:=by
 refine OF (q:=VM) ag (Ak ag) rfl fun F h args (i:Z×Int) hg a hp=>?_
 obtain⟨s,n⟩:=i;have hp:(decide (0<=n)&&decide (n<=1000)&&decide (s.length<=1000))=true:=hp;rw[ze,ze,w5,w5,w5]at hp;obtain⟨⟨h0,h1⟩,h2⟩:=hp;obtain⟨c,rfl⟩:=yr h0;have a:args=[.str s,.int .i64 (c:Int)]:=by
  have:=a (fun _=>none) 0;simp only[Af,VD,Ca]at this;obtain⟨v,vs,rfl,f,w,ws,rfl,d,rfl⟩:=this;obtain rfl:=Ge f;obtain rfl:=Db d;rfl
 subst a;refine⟨.str<|Sp.Rz s (c:Int),?_,fun ρ N=>OO _⟩;have e:jl c 9223372036854775807=true:=y7 ae;have b:jl (Fb s*c) 140737488355328=true:=y7 (by
  rw[DF];have:s.length*c<=1000*1000:=Nat.mul_le_mul h2 ae;omega)
 show(bif jl c 9223372036854775807&&jl (Fb s*c) 140737488355328 then some (V.str<|Lib.repeatL s c,h)else none)=_;rw[e,b];rfl
theorem nT:Ae A1 211 Xx:=by
 refine OF (q:=fmtQ) ag (Ak ag) rfl fun F h args (i:Int×Int) hg a hp=>?_
 obtain⟨u,b⟩:=i;have hp:(decide (0<=u)&&decide (u<1000000000000000000)&&decide (b=10))=true:=hp;rw[ze,ze,w5,w5,w5]at hp;obtain⟨⟨h0,h1⟩,rfl⟩:=hp;obtain⟨c,rfl⟩:=yr h0;have a:args=[.int .u64 (c:Int),.int .i64 10]:=by
  have:=a (fun _=>none) 0;simp only[Af,Xx,Ca]at this;obtain⟨v,vs,rfl,g,w,ws,rfl,d,rfl⟩:=this;obtain rfl:=Db g;obtain rfl:=Db d;rfl
 subst a;refine⟨.str<|Sp.A2 (c:Int),?_,fun ρ N=>OO _⟩;have f:jl c 18446744073709551615=true:=y7 ae;have e:Sp.A2 (c:Int)=zc c:=qx _;rw[e];show(bif VI h&&(jl c 18446744073709551615&&Nat.beq 10 10)then some (V.str<|zc c,h)else none)=_;rw[gG hg,f];rfl
namespace T170
abbrev zY(s:Z):List Int:=zz (fun b=>(↑(zt b):Int)) s
theorem Ys:∀s:Z,zz (fun x:Int=>zr<|yq x) (zY s)=s
 |[]=>rfl
 |b::s=>by
  have:=Ys s;simp only[zY,List.map_cons]at this ⊢;rw[this];simp
theorem eS:∀s:Z,(qm (zY s) fun x=>decide ((0:Int)<=x)&&decide (x<(256:Int)))=true
 |[]=>rfl
 |b::s=>by
  have a:=eS s;have c:=b.toNat_lt;simp only[zY,List.map_cons,qk]at a ⊢;rw[a,Bool.and_true,ze,w5,w5];omega
theorem Ab1(a b:Z):zY a++zY b=zY (a++b):=by simp[zY]
theorem FI(c:List Z)(T:Z)(q:T.length<=1000000)(p:c.length<=1000000)(h:∀ob,Q (.dat .str T) ob):∀(i:Nat) (a:Z) (b:Int) (n:Nat),i<=c.length->b=(i:Int)-1->n=a.length->0<a.length->a++(c.take i).reverse.flatten=T->
  Ends Tf (L6 c.length b (zY a) n c) Q
 |0,a,b,n,_,l,g,h0,d=>by
  have d:a=T:=by simpa using d
  subst d g;refine qt (CL ..) (qu (w8 ae)<|zf (w4 h0)<|zf (Ab (Ab (Ab (w4 ae)<|w4<|by simp)<|w4<|by simp;omega)<|eS a)<|zo ?_);have e:zz (fun x:Int=>zr<|yq x) (qe (yq (a.length:Int))<|zY a)=a:=by
   rw[yw,qv (by simp),Ys]
  rw[e];exact h _
 |i+1,a,b,n,k,l,g,h0,d=>by
  have m:jo c (yq b) []=c[i]:=by
   rw[show yq b=i from by omega];simp[show i<c.length from k]
  have j:a++c[i]++(c.take i).reverse.flatten=T:=by
   have o:c.take (i+1)=c.take i++[c[i]]:=yx k;rw[<-d,o,List.reverse_append,qw,List.singleton_append,qj,yf]
  have f:=wi zu j;simp only[zj]at f;refine qt (CL ..) (zf (w4 ae)<|zf (ad ae ae)<|zf (w4 ae) ?_);rw[m];refine zf (Ab (w4<|by simp[g])<|w4<|by rw[ym];omega) ?_;rw[Ab1,wr (b-1) ae ae];exact FI c T q p h i (a++c[i]) (b-1) _ ae ae (by rw[zj,ym,g];rfl) (by rw[zj];omega) j
theorem GA(a:List Z)(T:Z)(l:T.length<=1000000)(h:a.length<=1000000)(k:∀ob,Q (.dat .str T) ob)(i:Nat)(m:i+1=a.length)(b:Int)(o:b=(i:Int))(c:0<(a[i]'ae).length)(j:a.reverse.flatten=T):
  Ends Tf (L8 a.length b a) Q:=by
 have d:i<a.length:=ae
 have n:jo a (yq b) []=a[i]:=by
  rw[show yq b=i from by omega];simp[d]
 have g:a[i]++(a.take i).reverse.flatten=T:=by
  have f:a.take (i+1)=a.take i++[a[i]]:=yx d;rw[m,List.take_length]at f;rw[<-j];conv=>rhs;rw[f]
  rw[List.reverse_append,qw,List.singleton_append,qj]
 have e:=wi zu g;simp only[zj]at e;refine qt (DM ..) (zf (w4 ae)<|zf (ad ae ae)<|zf (w4 ae) ?_);rw[n];refine zf (w4<|by rw[ym];exact c) (zf (w4<|by rw[ym];omega) ?_);rw[wr (b-1) ae ae];exact FI a T l h k i a[i] (b-1) _ ae ae (by rw[ym]) c g
end T170
theorem Yz{r:Int}(h0:0<r)(d:r<18446744073709551616):BI r=[r]:=by
 have e:AD Av [r]:=by
  intro x a;rw[yo]at a;subst a;exact⟨by omega,d⟩
 have f:Sp.nz [r]:=by
  unfold Sp.nz;simp;omega
 have:=JO (b:=Av) af e f;have c:Sp.val Av [r]=r:=by simp[Sp.val]
 rw[c]at this;exact this.symm
theorem NA:BI 0=[]:=by
 unfold BI;rfl
theorem Rq:Ay [1000000000000000000]=1000000000000000000:=by simp[Ay,Sp.val]
theorem mS(n:Nat):Rz [48] (n:Int)=List.replicate n 48:=by
 unfold Rz;rw[yw];induction n with
 |zero=>rfl
 |succ n a=>rw[Lib.repeatL,a];rfl
theorem UW(V:Nat):Ay (BI (V:Int))=(V:Int):=Du (b:=Av) af ae
theorem qM{V:Nat}(a:(V:Int)<(Av:Int)^9000):VF (BI (V:Int)) [1000000000000000000]=true:=by
 obtain⟨n1,d,c⟩:=Dy (n:=(V:Int)) ae a ae;have b:=OP (n:=(V:Int)) ae a;unfold VF;refine Ab (Ab (Ab (Ab n1 ?_)<|w4 b)<|w4 af) (w4<|by rw[Rq];decide);decide
theorem YQ(V:Nat):BI (Ay (BI (V:Int))/Ay (qe 1 [1000000000000000000]))=BI ((V/10^18:Nat):Int):=by
 rw[UW,show qe 1 [(1000000000000000000:Int)]=[1000000000000000000]from rfl,Rq];congr 1
theorem Xk(V:Nat):BI (Ay (BI (V:Int)) % Ay (qe 1 [1000000000000000000]))=BI ((V % 10^18:Nat):Int):=by
 rw[UW,show qe 1 [(1000000000000000000:Int)]=[1000000000000000000]from rfl,Rq];congr 1
theorem Kv{V:Nat}(h:0<V):0<(BI (V:Int)).length:=by
 rcases z8 (BI (V:Int)).length with e|e
 ·have a:=UW V;rw[yp.1 e]at a;have b:Ay []=0:=rfl;rw[b]at a;omega
 ·exact e
theorem Qd:∀(k u:Nat),u<10^(k+1)->jg u<=k+1
 |0,u,h=>by rw[Lib.nDigits_small ae];omega
 |k+1,u,h=>by
  by_cases c:u<10
  ·rw[Lib.nDigits_small c];omega
  ·rw[Lib.nDigits_big c];have:u/10<10^(k+1):=by rw[qc]at h;omega
   have:=Qd k (u/10) this;omega
theorem VQ{r:Nat}(h:r<10^18):(zc r).length<=18:=by
 rw[zn];exact Qd 17 r h
theorem NM(r:Nat):A2 (r:Int)=zc r:=qx r
theorem VL(r:Nat)(h:r<10^18):Rz [48] ((18:Int)-((zc r).length:Int))++zc r=Hf 18 r:=by
 have:=VQ h;rw[show(18:Int)-((zc r).length:Int)=((18-(zc r).length:Nat):Int)from by omega,mS,zn];rfl
structure Small(V:Nat):Prop where
 h:(V:Int)<(Av:Int)^9000
theorem Small.le{a b:Nat}(h:Small b)(c:a<=b):Small a:=⟨yn (jm.mpr c) h.h⟩
theorem Small.div{V:Nat}(h:Small V):VF (BI (V:Int)) [1000000000000000000]=true:=qM h.h
namespace T170
def Exit(neg:Bool)(G:List Z)(Q:PV->Ob->Prop):Prop:=Ends Tf (.ite neg (.ite true (.ite true (L6 G.length (zd jh<|(G.length:Int)-1) (zz (fun b=>(↑(zt b):Int)) [(45:UInt8)]) 1 G) .fail)<|L7 G.length (zd jh<|(G.length:Int)-1) G)<|L8 G.length (zd jh<|(G.length:Int)-1) G) Q
theorem Bc(neg:Bool)(G:List Z)(hG:G.length<=1000000)(a:Exit neg G Q):∀(f V:Nat) (o1:List Z),V<f->Small V->o1++(if V=0 then[]else CM f V)=G->Ends Tf (L2 neg (BI (V:Int)) 1 o1.length o1 [1000000000000000000]) Q
 |0,V,o1,h,_,_=>by omega
 |f+1,V,o1,h,k,d=>by
  rcases z8 V with h0|h0
  ·subst h0;have d:o1=G:=by simpa using d
   subst d;refine qt (AA ..) (qu (by rw[show((0:Nat):Int)=0 from rfl,NA];rfl) ?_);exact a
  have g:V % 10^18<10^18:=Nat.mod_lt _ af;rw[wc ae]at d;have l:∀s,s=(if V/10^18=0 then zc (V % 10^18)else Hf 18<|V % 10^18)->(o1++[s])++(if V/10^18=0 then[]else CM f<|V/10^18)=G:=by
   rintro s rfl;rw[<-d,yf];congr 1;have m:CM (f+1) V=if V<10^18 then[zc V]else Hf 18 (V % 10^18)::CM f (V/10^18):=rfl
   rw[m];by_cases c:V<10^18
   ·rw[wd c,wd ae,wd ae,Nat.mod_eq_of_lt c];rfl
   ·rw[wc c,wc ae,wc ae];rfl
  have p:o1.length+1<=1000000:=by
   have:=wi zu<|l _ rfl;simp only[zj,List.length_singleton]at this;omega
  have next:∀s,s=(if V/10^18=0 then zc (V % 10^18)else Hf 18<|V % 10^18)->Ends Tf (L2 neg (BI ((V/10^18:Nat):Int)) 1 (Nat.add o1.length 1) (o1++[s]) [1000000000000000000]) Q:=by
   intro s o;have:=Bc neg G hG a f (V/10^18) (o1++[s]) ae (k.le<|y9 _ _)<|l s o;rw[zj]at this;exact this
  refine qt (AA ..) (zf (w4 (by have:=Kv h0;omega))<|zf (Ab rfl k.div) ?_);rw[YQ,Xk];rcases z8 (V % 10^18)with j|j
  ·have q0:V/10^18≠0:=ae
   rw[j,show((0:Nat):Int)=0 from rfl,NA];refine qu rfl (zf (w4 (by have:=Kv (V:=V/10^18) ae;omega))<|zf rfl (zf rfl (zf (Ab (w4 rfl)<|w4 ae)<|next _ ?_)));have hp:=VL 0 af;rw[zy ae]at hp;rw[wc q0,j, <-hp];rfl
  ·rw[Yz (r:=((V % 10^18:Nat):Int)) ae ae];have i:jo [((V % 10^18:Nat):Int)] 0 0=((V % 10^18:Nat):Int):=rfl;rw[i,NM];have q:=VQ g;have e:((V % 10^18:Nat):Int)<1000000000000000000:=ae
   have n:0<(zc<|V % 10^18).length:=by
    rw[zn,jg];split<;>omega
   refine zf rfl (zf rfl (zf (Ab (Ab (w4<|Int.natCast_nonneg _)<|w4 e) rfl) ?_));rw[wr _ ae ae];by_cases q0:V/10^18=0
   ·rw[q0];refine qu (by rw[show((0:Nat):Int)=0 from rfl,NA];rfl) (zf (Ab (Ab rfl (w4 rfl))<|w4 ae) ?_);have:=next _ rfl;rw[wd q0,q0]at this;exact this
   ·have b:=VL _ g;refine zf (w4 (by have:=Kv (V:=V/10^18) ae;omega)) (zf (Ab (ad ae ae) rfl)<|zf (w4 ?_)<|zf (Ab (Ab rfl (w4 rfl))<|w4 ae)<|next _ ?_)
    ·rw[<-zj,b];unfold Hf;rw[zj,List.length_replicate];omega
    ·rw[wc q0];exact b
end T170
end Go.Pe
namespace Go.Sp
theorem GK{n d:Int}(a:d≠0):(zq n d).num.natAbs<=n.natAbs/\(zq n d).den<=d.natAbs:=by
 rw[yt,yu,wc a];refine⟨?_,y9 _ _⟩;refine Nat.le_trans (yi _ _) ?_;rw[yg,qg a,Nat.one_mul];exact z6 _
theorem I5{n d:Int}{k:Nat}(a:d≠0)(c:n.natAbs<10^k)(b:d.natAbs<10^k):Cz k (zq n d):=
 ⟨ya (GK a).1 c,ya (GK a).2 b⟩
theorem Cz.mono{j k:Nat}{q:Rat}(h:Cz j q)(a:j<=k):Cz k q:=
 ⟨yb h.1 (yh af a),yb h.2<|yh af a⟩
theorem Ef{a b i j:Nat}(d:a<10^i)(c:b<10^j):a*b<10^(i+j):=by
 rw[Nat.pow_add];exact ya (Nat.mul_le_mul_left _<|Nat.le_of_lt c) ((Nat.mul_lt_mul_right<|Nat.pow_pos af).2 d)
theorem JW(q:Rat):(q.den:Int)≠0:=by have:=q.den_pos;omega
theorem Cz.mul{p q:Rat}{i j:Nat}(hp:Cz i p)(a:Cz j q):Cz (i+j) (p*q):=by
 have h:=Rat.divInt_mul_divInt p.num q.num (d₁:=p.den) (d₂:=q.den);rw[zl,zl]at h;rw[h];refine I5 ?_ ?_ ?_
 ·exact Int.mul_ne_zero (JW p)<|JW q
 ·rw[yg];exact Ef hp.1 a.1
 ·rw[yg,zi,zi];exact Ef hp.2 a.2
theorem Cz.add{p q:Rat}{i j:Nat}(hp:Cz i p)(a:Cz j q):Cz (i+j+1) (p+q):=by
 have h:=yz p.num q.num (JW p)<|JW q;rw[zl,zl]at h;rw[h];have a1:=Ef hp.1 a.2;have a2:=Ef a.1 hp.2;have a3:=Ef hp.2 a.2;rw[Nat.add_comm]at a2;refine I5 (Int.mul_ne_zero (JW p)<|JW q) ?_ ?_
 ·refine ya (Int.natAbs_add_le _ _) ?_;rw[yg,yg,zi,zi,qc];omega
 ·rw[yg,zi,zi,qc];omega
theorem Cz.neg{q:Rat}{k:Nat}(h:Cz k q):Cz k (-q):=by
 unfold Cz at*;rw[q9,jc,Int.natAbs_neg];exact h
theorem Cz.sub{p q:Rat}{i j:Nat}(hp:Cz i p)(a:Cz j q):Cz (i+j+1) (p-q):=by
 rw[Rat.sub_eq_add_neg];exact hp.add a.neg
theorem Cz.inv{q:Rat}{k:Nat}(h:Cz k q)(h0:q≠0):Cz k q⁻¹:=by
 have e:=Rat.inv_divInt q.num q.den;rw[zl]at e;rw[e];exact I5 (fun x=>h0<|yk.mp x) (by rw[zi];exact h.2) h.1
theorem Cz.div{p q:Rat}{i j:Nat}(hp:Cz i p)(a:Cz j q)(h0:q≠0):Cz (i+j) (p/q):=by
 rw[Rat.div_def];exact hp.mul<|a.inv h0
def Q6(n:Int):Bool:=decide (600<(zc n.natAbs).length)
def QI(q:Rat):Bool:=Q6 q.num||Q6 q.den
theorem Et{u k:Nat}(h:u<10^k)(a:1<=k):(zc u).length<=k:=by
 rw[zn];obtain⟨j,rfl⟩:∃j,k=j+1:=⟨k-1,by omega⟩;exact Go.Pe.Qd j u h
theorem Cv(u:Nat){k:Nat}(h:(zc u).length<=k):u<10^k:=by
 rw[zn]at h;exact yb (Lib.lt_pow_nDigits u) (yh af h)
theorem ZX{q:Rat}:QI q=false↔Cz 600 q:=by
 unfold QI Q6 Cz;rw[Bool.or_eq_false_iff,w9,w9];refine⟨fun h=>⟨Cv (k:=600) _ ae,?_⟩,fun h=>⟨?_,?_⟩⟩
 ·have:=Cv (q.den:Int).natAbs (k:=600) ae;rw[zi]at this;exact this
 ·have:=Et h.1 af;omega
 ·have:=Et h.2 af;rw[zi];omega
theorem Nv{q:Rat}{k:Nat}(h:Cz k q)(a:1<=k):(Az q).length<=2*k+2:=by
 have d:=Et h.1 a;have c:=Et h.2 a;have b:(zm q.num).length<=k+1:=by
  unfold zm;split
  ·rw[zp];omega
  ·rw[show q.num.toNat=q.num.natAbs by omega];omega
 unfold Az;split
 ·omega
 ·rw[zj,zp];omega
def AR(s:Z):Bool:=decide (Az (Ax s)=s)&&decide (s.length<=4000)
theorem GG{s:Z}(h:AR s=true):Az (Ax s)=s/\s.length<=4000:=by
 unfold AR at h;rwa [ze,w5,w5]at h
theorem Tp{q:Rat}{k:Nat}(h:Cz k q)(a:k<=1999):AR (Az q)=true:=by
 have b:=Nv (h.mono a) af;unfold AR;rw[EE,w4 rfl,w4 ae];rfl
theorem Dv{s:Z}(h:Ao s=0):AR s=true/\Cz 600 (Ax s):=by
 obtain⟨b,_,_,a⟩:=N9 h;exact⟨by rw[<-b];exact Tp a af,a⟩
theorem VG{s:Z}(h:AR s=true):Cz 4000 (Ax s):=by
 obtain⟨f,d⟩:=GG h;have e:(Az<|Ax s).length<=4000:=by rw[f];exact d
 generalize Ax s=q at*;have a:=Cv q.num.natAbs<|z6 _;have b:=Cv q.den<|z6 _;have g:(zc q.num.natAbs).length<=(zm q.num).length:=by
  unfold zm;split
  ·rw[zp];omega
  ·rw[show q.num.toNat=q.num.natAbs by omega];exact z6 _
 unfold Az at e;split at e
 ·next c=>exact⟨Cv (k:=4000) _ ae,by rw[c];exact R3 4000 af⟩
 ·rw[zj,zp]at e;exact⟨Cv (k:=4000) _ ae,Cv (k:=4000) _ ae⟩
theorem ZI{q:Rat}:Ao (Az q)=if QI q=true then 4 else 0:=by
 obtain⟨f,j,m⟩:=F6 q;obtain⟨p1,p2,p3,p4⟩:=V5<|Az q;obtain⟨i1,i2,i3,i4⟩:=Dp q.num;have b:AO (A9<|Az q)=zc q.num.natAbs:=by rw[p1,f,i2]
 have e:Bb (A9<|Az q)=if q.den=1 then[]else zc q.den:=by rw[p2,j]
 have i:B1 (A9<|Az q)=decide (q.den≠1):=by rw[p3,m]
 have p:preB (Az q)=decide (q.num<0):=by rw[<-p4,f,i3]
 have a:∀n:Nat,zc n=[48]->n=0:=fun n h=>by
  have:=IJ n;rw[h]at this;have:(0:Int)=n:=this;omega
 have d:∀n:Nat,zc n=[49]->n=1:=fun n h=>by
  have:=IJ n;rw[h]at this;have:(1:Int)=n:=this;omega
 have r:=q.den_pos;have l:H7 (Az q)=true:=by
  unfold H7;rw[b,e,i,p,Yo,ye,ze];refine⟨?_,?_⟩
  ·by_cases h:q.num<0
   ·have z:zc q.num.natAbs≠[48]:=fun k=>by have:=a _ k;omega
    rw[w4 h,w4 z];rfl
   ·rw[w8 h];rfl
  ·by_cases h:q.den=1
   ·rw[w8<|not_not_intro h];rfl
   ·have z:zc q.den≠[48]:=fun k=>by have:=a _ k;omega
    have y:zc q.den≠[49]:=fun k=>h<|d _ k
    rw[w4 h,wc h,Yo,w4 z,w4 y];rfl
 unfold Ao;rw[wc (by rw[l];decide),b,e,i];have g:QI q=true↔600<(zc q.num.natAbs).length\/600<(if q.den=1 then([]:Z)else zc q.den).length:=by
  unfold QI Q6;rw[Bool.or_eq_true,w5,w5,zi];by_cases h:q.den=1
  ·rw[wd h,h,zy<|show 1<10 by decide];simp
  ·rw[wc h]
 by_cases h:QI q=true
 ·rw[wd<|g.1 h,wd h]
 ·rw[wc<|fun k=>h<|g.2 k,wc h];refine wc fun k=>?_
  obtain⟨c,o⟩:=k;have c:q.den≠1:=w6 c;apply o;unfold Abo AcO;rw[b,e,wc c,IJ,IJ,HL];have hr:=q.reduced;have:jt ((q.num.natAbs:Nat):Int) (q.den:Int)=1:=hr;rw[this];rfl
theorem Od(q:Rat):Gr (Az q)=Pm q.num:=by
 have h0:Az q=[48]↔q=0:=by
  have:Az (0:Rat)=[48]:=by
   unfold Az;rw[wd<|show Rat.den 0=1 from rfl];show zm 0=[48];unfold zm;rw[wc af,show(0:Int).toNat=0 from rfl,zy af];rfl
  rw[<-this];exact⟨jI,fun h=>by rw[h]⟩
 unfold Gr Pm;by_cases a:q=0
 ·rw[wd<|h0.2 a,a];rfl
 ·rw[wc<|fun h=>a<|h0.1 h];have e:q.num≠0:=fun h=>a<|yk.mp h
  have d:(Az q).getD 0 0=(zm q.num).getD 0 0:=by
   unfold Az;split
   ·rfl
   ·have:zm q.num≠[]:=by unfold zm;split;exact List.cons_ne_nil _ _;exact RY _
    cases b:zm q.num with
    |nil=>exact wh b this
    |cons c r=>rfl
  rw[d];unfold zm;by_cases h:q.num<0
  ·rw[wd h,wd h];rfl
  ·rw[wc h,wc h,wc<|Fx<|DU _,wd ae]
theorem Yg(n:Int)(h:n≠0):zm (-n)=if n<0 then(zm n).drop 1 else 45::zm n:=by
 unfold zm;by_cases c:n<0
 ·rw[wc ae,wd c,wd c,show(-n).toNat=n.natAbs by omega];rfl
 ·rw[wd ae,wc c,wc c,show(-n).natAbs=n.toNat by omega]
theorem yB(q:Rat):M6 (Az q)=Az (-q):=by
 have a:=Od q;unfold Gr at a;unfold M6;by_cases h0:Az q=[48]
 ·rw[wd h0]at a ⊢;have:q.num=0:=by
   unfold Pm at a;split at a
   ·exact wh a af
   ·split at a
    ·exact wh a af
    ·omega
  have:q=0:=yk.mp this;rw[this];rfl
 ·rw[wc h0]at a ⊢;have b:q.num≠0:=by
   intro h;rw[h]at a;split at a<;>exact wh a af
  have e:Az (-q)=if q.num<0 then(Az q).drop 1 else 45::Az q:=by
   unfold Az;rw[q9,jc,Yg _ b];by_cases c:q.num<0
   ·rw[wd c,wd c];have:zm q.num=45::zc q.num.natAbs:=by unfold zm;rw[wd c]
    rw[this];split<;>rfl
   ·rw[wc c,wc c];split<;>rfl
  rw[e];unfold Pm at a;by_cases c:q.num<0
  ·rw[wd c]at a ⊢;split at a
   ·next k=>rw[wd k]
   ·exact wh a af
  ·rw[wc c,wd<|show q.num>0 by omega]at a;rw[wc c];split at a
   ·exact wh a af
   ·next k=>rw[wc k]
open Go.Lib
theorem OD:∀(f n l:Nat) (a:Z),l<=a.length->n<10^f->J6 f n l a=if n=0 then a else decDigits n++a
 |0,n,l,a,_,b=>by rw[Nat.pow_zero]at b;rw[wd ae];rfl
 |f+1,n,l,a,d,b=>by
  rw[qc]at b;unfold J6;by_cases h:n=0
  ·rw[wd ⟨h,d⟩,wd h]
  ·rw[wc<|fun k=>h k.1,wc h,OD f (n/10) l _ (by rw[zp];omega) ae];by_cases c:n/10=0
   ·rw[wd c,decDigits_one ae,show n % 10=n by omega];rfl
   ·have e:=Ib (n/10) (n % 10) ae ae;rw[show 10*(n/10)+n % 10=n by omega]at e;rw[wc c,e,yf];rfl
theorem rL{d:Nat}(h:d<10):Hf 1 d=[zr<|48+d]:=by
 unfold Hf;rw[nDigits_small h,decDigits_one h];rfl
theorem WZ:∀(k f n l:Nat) (a:Z),a.length+(k+1)=l->n<10^(k+1)->k+1<=f->J6 f n l a=Hf (k+1) n++a
 |k,0,n,l,a,_,_,h=>by omega
 |0,f+1,n,l,a,c,b,_=>by
  unfold J6;rw[wc ae,rL ae,OD f (n/10) l _ (by rw[zp];omega) (by rw[show n/10=0 by omega];exact Nat.pow_pos af),wd ae,show n % 10=n by omega];rfl
 |k+1,f+1,n,l,a,c,b,d=>by
  rw[qc]at b;have e:=Tz (k+1) (n/10) (n % 10) ae ae;rw[show 10*(n/10)+n % 10=n by omega]at e;unfold J6;rw[wc ae,WZ k f (n/10) l _ (by rw[zp];omega) ae ae,e,yf];rfl
theorem Rg{n:Int}(h0:0<=n)(a:n<9223372036854775808):JF n 1=decDigits n.toNat:=by
 show J6 64 n.toNat 1 []=_;unfold J6;rw[wc<|by simp];rw[OD 63 (n.toNat/10) 1 _ (by simp) ae];by_cases h:n.toNat<10
 ·rw[wd ae,decDigits_one h,show n.toNat % 10=n.toNat by omega]
 ·have e:=Ib (n.toNat/10) (n.toNat % 10) ae ae;rw[show 10*(n.toNat/10)+n.toNat % 10=n.toNat by omega]at e;rw[wc ae,e]
theorem jH{n:Int}(h0:0<=n)(a:n<1000000000):JF n 9=Hf 9 n.toNat:=by
 show J6 64 n.toNat 9 []=_;rw[WZ 8 64 n.toNat 9 [] rfl ae af,List.append_nil]
def CZ(n d:Int):Z:=Az<|zq n d
theorem lK(n:Int):itoa n=(if n<0 then[45]else[])++decDigits n.natAbs:=by
 unfold itoa;split
 ·rfl
 ·rw[show n.toNat=n.natAbs by omega];rfl
def vR(a:Bool×List Int):Int:=if a.1=true then -Ar a.2 else Ar a.2
def CP(a:Bool×List Int):Bool:=Bh a.2&&decide (a.2.length<=3000)&&(!a.1||decide (a.2≠[]))
def Jo(l:List Int)(i:Int):Int:=l.getD i.toNat 0
def sO(a b:List Int):Bool:=Bh a&&Bh b&&decide (a.length<=9000)&&decide (b.length<=9000)
def IG(a b:List Int):List Int:=B0<|Ar a+Ar b
def Km(a b:List Int):List Int:=B0<|Ar a-Ar b
def Pb(a b:Bool×List Int):Bool:=rN<|vR a+vR b
def Pn(a b:Bool×List Int):List Int:=rW<|vR a+vR b
def I8(a b:Bool×List Int):Bool:=rN<|vR a*vR b
def I1(a b:Bool×List Int):List Int:=rW<|vR a*vR b
def U6(a:Bool×List Int):Bool:=rN<| -vR a
def Wm(a:Bool×List Int):List Int:=rW<| -vR a
def J5(a b:Bool×List Int):Bool:=rN<|vR a/vR b
def JR(a b:Bool×List Int):List Int:=rW<|vR a/vR b
def Gt(a:Bool×List Int):Z:=A2<|vR a
def JL(n d:Bool×List Int):Z:=CZ (vR n)<|vR d
def pY(a:Z):Int:=if EM a=true then JM a else 0
def Xv(a:Z):Int:=if EM a=true then VW a else 0
def BW(a b:Z):Z:=Az<|Ax a+Ax b
def DS(a b:Z):Z:=Az<|Ax a-Ax b
def DI(a b:Z):Z:=Az<|Ax a*Ax b
def UJ(a:Z):Z:=Az (Ax a)⁻¹
def Fj(a b:Z):Z:=Az<|Ax a/Ax b
def CW(a b:Z):Int:=if Ax a<Ax b then -1 else if Ax b<Ax a then 1 else 0
def Gd(a:Z):Z:=A2 (Ax a).floor
def I0(a:Z):Bool:= !B1 a
def BV(a:Z):Bool:=AR a&&decide (a.length<=3000)
def XC(a:Z):Bool:=BV a&&decide (Ax a≠0)
end Go.Sp
namespace Go.Pe
open Sp
open Go.Det
def bW:Am:=⟨[li,i64],fun i=>decide (0<=(i.2:Int)),[i64],fun i=>Jo i.1 i.2,false⟩
def bG:Am:=⟨[li,li],fun i=>sO i.1 i.2,[li],fun i=>IG i.1 i.2,false⟩
def bU:Am:=⟨[li,li],fun i=>sO i.1 i.2&&decide (Ar i.2<=Ar i.1),[li],fun i=>Km i.1 i.2,false⟩
def qA:Am:=⟨[I2,I2],fun i=>CP i.1&&CP i.2,[I2],fun i=>(Pb i.1 i.2,Pn i.1 i.2),false⟩
def dD:Am:=⟨[I2,I2],fun i=>CP i.1&&CP i.2,[I2],fun i=>(I8 i.1 i.2,I1 i.1 i.2),false⟩
def eR:Am:=⟨[I2],fun a=>CP a,[I2],fun a=>(U6 a,Wm a),false⟩
def fP:Am:=⟨[I2,I2],fun i=>CP i.1&&CP i.2&&decide (0<Sp.vR i.2),[I2],fun i=>(J5 i.1 i.2,JR i.1 i.2),false⟩
def Sd:Am:=⟨[I2],fun a=>CP a,[.str],fun a=>Gt a,false⟩
def Q4:Am:=⟨[I2,I2],fun i=>CP i.1&&CP i.2&&decide (Sp.vR i.2≠0),[.str],fun i=>JL i.1 i.2,false⟩
def cN:Am:=⟨[i64,i64],fun i=>Cn i.1&&Cn i.2&&decide ((i.2:Int)≠0),[.str],fun i=>CZ i.1 i.2,false⟩
def Qb:Am:=⟨[.str],fun s=>AR s,[i64,i64,.bool],fun s=>(pY s,Xv s,EM s),false⟩
def Jg:Am:=⟨[.str,.str],fun i=>AR i.1&&AR i.2,[.str],fun i=>BW i.1 i.2,false⟩
def R5:Am:=⟨[.str,.str],fun i=>AR i.1&&BV i.2,[.str],fun i=>DS i.1 i.2,false⟩
def Na:Am:=⟨[.str,.str],fun i=>AR i.1&&AR i.2,[.str],fun i=>DI i.1 i.2,false⟩
def AdR:Am:=⟨[.str],fun s=>XC s,[.str],fun s=>UJ s,false⟩
def gX:Am:=⟨[.str,.str],fun i=>AR i.1&&XC i.2,[.str],fun i=>Fj i.1 i.2,false⟩
def Lp:Am:=⟨[.str,.str],fun i=>AR i.1&&BV i.2,[i64],fun i=>CW i.1 i.2,false⟩
def V6:Am:=⟨[.str],fun s=>AR s,[.str],fun s=>Gd s,false⟩
def UP:Am:=⟨[.str],fun s=>decide (s.length<=1000000),[.bool],fun s=>I0 s,false⟩
def XR0:AG:=X7 []
def WA:AG:=X7 [(192,bW),(190,UM)]
def XR2:AG:=X7 [(149,H9),(150,bG),(151,dH),(152,bU),(153,fR),(147,TM)]
def XR3:AG:=X7 [(145,RV)]
def yN:AG:=SV [(83,[3,7,9])] [] [(83,[(3,[2,3]),(7,[8,10]),(9,[8,10])])] [(146,eR),(141,MO),(147,TM),(149,H9),(148,Sd)]
def mK:AG:=SV [(81,[3,5,7,11])] [] [(81,[(3,[0,1]),(5,[0,1]),(7,[0,1]),(11,[1,6])])] [(143,I3),(83,Q4),(144,Adp),(145,RV)]
def sR:AG:=SV [(30,[5]),(74,[5])] [] [(30,[(5,[0,1])]),(74,[(5,[0,1])])] [(80,Qb),(81,cN),(82,P3),(84,qA),(85,dD),(83,Q4)]
def XR7:AG:=X7 [(183,AdR),(74,Na),(30,Jg),(86,dG)]
def XR8:AG:=X7 [(31,R5),(87,N4),(139,Rn),(33,Xd),(113,vM),(114,gD)]
def XR9:AG:=X7 [(82,P3),(182,fP),(148,Sd),(137,UP)]
def UE:Am:=⟨[],fun _=>true,[.bool],fun _=>true,false⟩
theorem XH:Ae A1 8 UE:=by
 refine .of0 ⟨by kernel_rfl,Ak ag,fun F h args i c b d a _=>?_⟩;have g:args=[]:=by
  have:=a (fun _=>none) 0;simpa [Af,UE]using this
 subst g;refine⟨[(.bool true,h)],1,fun m k=>?_,fun _=>⟨_,rfl⟩,fun x f=>?_⟩
 ·obtain⟨e,rfl⟩:∃e,m=e+1:=⟨m-1,by omega⟩;have j:A1.spec 8=some fun args h=>bif ghB h Hd then(match Kf A7 8 args with|some v=>some (v,h)|none=>none)else none:=rfl
  rw[Bp];simp only[j,AfM d,we];rfl
 ·cases yo.1 f;exact⟨z6 _,fun _ _=>rfl,b,F,fun _ _ h=>h,fun _ _ h=>.inl h,c,fun ρ N=>Ej _⟩
end Go.Pe
namespace Go.Sp
def QW(a:AL):Int:=if BI (Aj<|vI a)=[]then 0 else 64*((BI<|Aj<|vI a).length-1)+F9 ((BI<|Aj<|vI a).getD ((BI<|Aj<|vI a).length-1) 0)
def EZ(a:AL):Bool:=Q6<|vI a
def JK(a:Ad):Bool:=EZ a.1||EZ a.2
def Li(a:Ad):Z:=if Di a.2=true then A2 (vI a.1)else A2 (vI a.1)++47::A2 (vI a.2)
def H8(a:Ad):Z:=if JK a=true then[]else Li a
def EO(a:Ad):Int:=if JK a=true then 4 else 0
def B8:List Z->Int
 |[]=>0
 |s::l=>if Ao s≠0 then Ao s else B8 l
def Rl(a:Ad):Int:=Pm<|vI a.1
def PB(a b:Z):Int:=B8 [a,b]
def jR(e:Int)(q:Rat):Z:=if e≠0 then[]else if QI q=true then[]else Az q
def lQ(e:Int)(q:Rat):Int:=if e≠0 then e else if QI q=true then 4 else 0
end Go.Sp
namespace Go.Pe
open Sp
open Go.Det
def qN:Am:=⟨[A4],fun a=>Bk a,[i64],fun a=>QW a,false⟩
def dU:Am:=⟨[A4],fun a=>Bk a,[.bool],fun a=>EZ a,false⟩
def Vu:Am:=⟨[.str,.str],fun i=>VU i.1 i.2,[.str],fun i=>A9 i.1,false⟩
def eP:Am:=⟨[Aq],fun a=>ji (a:Ad),[.bool],fun a=>JK a,false⟩
def uK:Am:=⟨[Aq],fun a=>ji (a:Ad),[.str],fun a=>Li a,false⟩
def Nk:Am:=⟨[Aq],fun a=>ji (a:Ad),[.str,i64],fun a=>(H8 a,EO a),false⟩
def gB:Am:=⟨[.list .str],fun l=>decide (zu (α:=Z) l<=1000)&&qm (α:=Z) l (fun s=>decide (s.length<=1000000)),[i64],fun l=>B8 l,false⟩
def qF:Am:=⟨[Aq],fun a=>ql (a:Ad).1,[i64],fun a=>Rl a,false⟩
def XX0:AG:=X7 []
def XX1:AG:=X7 [(173,OI),(229,ZW)]
def Aij:AG:=X7 [(208,qN),(170,Afh),(197,Vu)]
def XX2:AG:=X7 [(169,dU),(123,RR),(170,Afh)]
def XX3:AG:=X7 [(163,EY),(134,LH)]
end Go.Pe
namespace Go.Sp
def Zh(a u:Z):Bool:=AR a&&XC u&&AR (Fj a u)&&AR (BW (Fj a u) [49,47,50])&&AR (Gd<|BW (Fj a u) [49,47,50])
def YS(a u:Z):Z:=DI (Gd<|BW (Fj a u) [49,47,50]) u
end Go.Sp
namespace Go.Pe
open Go.Det
def Wq:Am:=⟨[.str,.str],fun i=>Sp.Zh i.1 i.2,[.str],fun i=>Sp.YS i.1 i.2,false⟩
end Go.Pe
namespace Go.Sp
abbrev AZ:=Z×Z
def D0:Option AZ->List AZ->Int
 |_,[]=>0
 |o,p::l=>if PB p.1 p.2≠0 then PB p.1 p.2 else match o with
  |some q=>if CW p.1 q.1<=0 then 11 else D0 (some p) l
  |none=>D0 (some p) l
def BL(t:List AZ):Int:=if t=[]then 12 else if 64<t.length then 5 else D0 none t
def CC(s:Z):Ad:=((S7 s,S0 s),(Qt s,SD s))
def Gn(p:AZ):Ad×Ad:=(CC p.1,CC p.2)
def X0(t:List AZ):List (Ad×Ad):=if BL t≠0 then[]else t.map Gn
def Qj:Option (Rat×Rat)->List (Rat×Rat)->Rat->Rat
 |none,[],_=>0
 |some p,[],_=>p.2
 |o,b::l,x=>if b.1<x then Qj (some b) l x else match o with
  |none=>b.2
  |some a=>a.2+(b.2-a.2)*(x-a.1)/(b.1-a.1)
def MS(t:List AZ)(x:Z):Rat:=Qj none (t.map fun p=>(Ax p.1,Ax p.2))<|Ax x
def ZK(t:List AZ)(x:Z):Int:=if BL t≠0 then BL t else Ao x
def wF(t:List AZ)(x:Z):Z:=Az<|MS t x
def He(k:Nat)(t:List AZ):Bool:=t.all fun p=>decide (p.1.length<=k)&&decide (p.2.length<=k)
end Go.Sp
namespace Go.Pe
open Sp
open Go.Det
abbrev Cf:Sh:=.pair .str .str
abbrev cG:Sh:=.pair Aq Aq
def cO:Am:=⟨[.list Cf],fun l=>decide (zu (α:=AZ) l<=1000)&&He 1000000 l,[.list cG,i64],fun l=>(X0 l,BL l),false⟩
def Mo:Am:=⟨[.list Cf],fun l=>decide (zu (α:=AZ) l<=1000)&&He 1000000 l,[i64],fun l=>BL l,false⟩
def XT1:AG:=X7 [(202,G6),(203,Hz),(270,gB),(96,M7),(73,OW)]
def XT2:AG:=X7 [(237,cO)]
def XT4:AG:=X7 [(78,EY),(32,Lp)]
def XT5:AG:=X7 [(32,Lp),(130,gX),(31,R5),(74,Na),(30,Jg)]
end Go.Pe
namespace Go.Sp
theorem zV(q:Rat):Wr (Az q)=zc q.den:=by
 obtain⟨_,a,b⟩:=F6 q;unfold Wr;rw[a,b];by_cases h:q.den=1
 ·rw[wc (by simpa using h),h,zy af];rfl
 ·rw[wd<|w4 h,wc h]
theorem cB(a b:Z):PB a b=if Ao a≠0 then Ao a else Ao b:=by
 show(if Ao a≠0 then Ao a else if Ao b≠0 then Ao b else 0)=_;by_cases h:Ao a≠0
 ·rw[wd h,wd h]
 ·rw[wc h,wc h];by_cases k:Ao b≠0
  ·rw[wd k]
  ·rw[wc k];omega
theorem Kt{a b:Z}(h:PB a b=0):Ao a=0/\Ao b=0:=by
 rw[cB]at h;by_cases k:Ao a≠0
 ·rw[wd k]at h;exact wh h k
 ·rw[wc k]at h;exact⟨by omega,h⟩
theorem Tx:Az 0=[48]:=by
 unfold Az;rw[wd<|show Rat.den 0=1 from rfl];show zm 0=[48];unfold zm;rw[wc af,show(0:Int).toNat=0 from rfl,zy af];rfl
theorem J0{s:Z}(h:AR s=true):s=[48]↔Ax s=0:=by
 obtain⟨a,_⟩:=GG h;constructor
 ·rintro rfl;rw[<-Tx,EE]
 ·intro e;rw[<-a,e,Tx]
theorem I4{s:Z}(h:BV s=true):AR s=true/\s.length<=3000:=by
 unfold BV at h;rwa [ze,w5]at h
theorem tH{s:Z}(h:BV s=true)(h0:s≠[48]):XC s=true:=by
 unfold XC;rw[h,ye];exact w4 fun e=>h0<|(J0 (I4 h).1).2 e
theorem ZM{s:Z}(h:XC s=true):BV s=true/\Ax s≠0:=by
 unfold XC at h;rwa [ze,w5]at h
theorem WT{q:Rat}{k:Nat}(h:Cz k q)(a:k<=400000):(Az q).length<=1000000:=by
 have:=Nv (h.mono<|show k<=k+1 by omega) ae;omega
structure Nu(k:Nat)(s:Z)(q:Rat):Prop where
 t:s=Az q
 z:Cz k q
theorem Nu.mono{i j:Nat}{s:Z}{q:Rat}(h:Nu i s q)(k:i<=j):Nu j s q:=⟨h.t,h.z.mono k⟩
theorem Nu.rat{k:Nat}{s:Z}{q:Rat}(h:Nu k s q):Ax s=q:=by rw[h.t,EE]
theorem cP{k:Nat}{q:Rat}(h:Cz k q)(a:k<=600):QI q=false:=ZX.2<|h.mono a
theorem Nu.check{k:Nat}{s:Z}{q:Rat}(h:Nu k s q)(a:k<=600):Ao s=0:=by
 rw[h.t,ZI,cP h.z a,wc af]
theorem Nu.num{k:Nat}{s:Z}{q:Rat}(h:Nu k s q)(a:k<=1999):AR s=true:=by rw[h.t];exact Tp h.z a
theorem Nu.BV{k:Nat}{s:Z}{q:Rat}(h:Nu k s q)(a:k<=1400):Sp.BV s=true:=by
 unfold Sp.BV;rw[h.num ae,ye,w5,h.t];have:=Nv (h.z.mono<|show k<=k+1 by omega) ae;omega
theorem Nu.len{k:Nat}{s:Z}{q:Rat}(h:Nu k s q)(a:k<=1999):s.length<=1000000:=by
 rw[h.t];exact WT h.z ae
theorem oR{k:Nat}{q:Rat}(h:Cz k q)(a:k<=600):jR 0 q=Az q/\lQ 0 q=0:=by
 unfold jR lQ;rw[cP h a];exact⟨rfl,rfl⟩
theorem Nu.op{k:Nat}{q:Rat}(h:Cz k q)(a:k<=600):Nu k (jR 0 q) q/\lQ 0 q=0:=by
 rw[(oR h a).1];exact⟨⟨rfl,h⟩,(oR h a).2⟩
theorem Nu.J0{k:Nat}{s:Z}{q:Rat}(h:Nu k s q)(a:k<=1999):s=[48]↔q=0:=by
 rw[Sp.J0<|h.num a,h.rat]
theorem Nu.cmp{i j:Nat}{a b:Z}{p q:Rat}(c:Nu i a p)(d:Nu j b q):CW a b=if p<q then -1 else if q<p then 1 else 0:=by
 unfold CW;rw[c.rat,d.rat]
theorem MP{a:Z}(h:Ao a=0):Nu 600 a (Ax a):=by
 obtain⟨t,_,_,z⟩:=N9 h;exact⟨t.symm,z⟩
theorem Ub(n:Int):A2 n=Az (n:Rat):=by
 unfold Az A2;rw[wd<|Rat.den_intCast ..,qy]
theorem uI{p q:Rat}(h:p=q):(if p<q then(-1:Int)else if q<p then 1 else 0)=0:=by
 subst h;rw[wc Rat.lt_irrefl,wc Rat.lt_irrefl]
theorem YR(p q:Rat):(if p<q then(-1:Int)else if q<p then 1 else 0)=0↔p=q:=by
 refine⟨fun h=>?_,uI⟩;split at h
 ·exact wh h af
 ·next c=>
  split at h
  ·exact wh h af
  ·next d=>exact Rat.le_antisymm (Rat.not_lt.1 d)<|Rat.not_lt.1 c
theorem P4:Nu 1 [49,47,50] (1/2):=by
 refine⟨by decide+kernel,?_⟩;unfold Cz;decide+kernel
theorem Nu.BW{i j:Nat}{a b:Z}{p q:Rat}(c:Nu i a p)(d:Nu j b q):Nu (i+j+1) (Sp.BW a b) (p+q):=⟨by unfold Sp.BW;rw[c.rat,d.rat],c.z.add d.z⟩
theorem Nu.DS{i j:Nat}{a b:Z}{p q:Rat}(c:Nu i a p)(d:Nu j b q):Nu (i+j+1) (Sp.DS a b) (p-q):=⟨by unfold Sp.DS;rw[c.rat,d.rat],c.z.sub d.z⟩
theorem Nu.DI{i j:Nat}{a b:Z}{p q:Rat}(c:Nu i a p)(d:Nu j b q):Nu (i+j) (Sp.DI a b) (p*q):=⟨by unfold Sp.DI;rw[c.rat,d.rat],c.z.mul d.z⟩
theorem Nu.Fj{i j:Nat}{a b:Z}{p q:Rat}(d:Nu i a p)(c:Nu j b q)(h0:q≠0):Nu (i+j) (Sp.Fj a b) (p/q):=⟨by unfold Sp.Fj;rw[d.rat,c.rat],d.z.div c.z h0⟩
theorem R2{q:Rat}{k:Nat}(h:Cz k q):Cz k (q.floor:Rat):=by
 obtain⟨a,c⟩:=h;have b:=q.den_pos;unfold Cz;rw[qy,Rat.den_intCast,Rat.floor_def];refine⟨ya (yi _ _) a,by omega⟩
def aG(w:Z):Nat:=max (A9<|AO w).length (Wr w).length
def Agk(l:List AZ):List (Rat×Rat):=l.map fun p=>(Ax p.1,Ax p.2)
def Zs(n:Int):Bool:=decide (n.natAbs<9223372036854775808)
def aN(n:Int):Z:=Az ((n:Int):Rat)
def Dc(n m:Int):Int:=if n=0 then 12 else if m<n then 5 else 0
end Go.Sp
namespace Go.Pe
open Go.Det
def qV:Am:=⟨[i64,i64],fun _=>true,[i64],fun i=>Sp.Dc i.1 i.2,false⟩
def Ahn:Am:=⟨[.list .str],fun l=>decide (zu (α:=Z) l<=1000000)&&qm (α:=Z) l (fun s=>decide (s.length<=9223372036854775807)),[i64],fun l=>Sp.B8 l,false⟩
def nC:Am:=⟨[i64],fun n=>Sp.Zs n,[.str],fun n=>Sp.aN n,false⟩
def Ail:AG:=X7 [(60,G6),(91,Hz)]
def Ain:AG:=X7 [(118,eP),(119,uK)]
def fJ:AG:=X7 [(78,UN)]
def AdH:AG:=X7 [(143,I3),(148,Sd)]
end Go.Pe
namespace Go.Sp
def iS(p h n r:Rat):Rat:=if p<=h+r then p*h/(h+r)else h+(p-(h+r))*n/(n+r)
abbrev Be:=Bm×Bm×Bm×List AZ×List AZ
abbrev EJ:=Bm×Int
abbrev Bi:=Bm×Bm×Bm×Bm×List EJ
abbrev Bw:=Bm×List Int
abbrev At:=List Bi×List Bw×List Be
def BQ(a:Bm)(lo b:Int):Int:=if Ao a≠0 then Ao a else if Ax a<(lo:Rat)\/(b:Rat)<Ax a then 3 else 0
def YW(seen:List Bm):List AZ->Int
 |[]=>0
 |w::l=>if isName w.1=false then 8 else if has seen w.1=true then 9 else if Ao w.2≠0 then Ao w.2 else if Ax w.2<0 then 3 else YW (w.1::seen) l
def OB(l:List AZ):Int:=if 16<l.length then 5 else YW [] l
def TB:Option Bm->List AZ->Int
 |_,[]=>0
 |none,p::l=>TB (some p.2) l
 |some y,p::l=>if CW p.2 y<0 then 11 else TB (some p.2) l
def Pu(l:Be):Int:=first [CB (!isName l.1) 8,BQ l.2.1 1 10000,BQ l.2.2.1 1 10000,BL l.2.2.2.1]
def KU(l:Be):Int:=if Pu l≠0 then Pu l else if TB none l.2.2.2.1≠0 then TB none l.2.2.2.1 else OB l.2.2.2.2
def mV:List EJ->Int
 |[]=>0
 |o::l=>if isName o.1=false then 8 else if o.2<0\/10<o.2 then 3 else mV l
def VH(s:Bi):Int:=first [BQ s.1 (-10000) 10000,BQ s.2.1 (-10000) 10000,BQ s.2.2.1 0 10000,BQ s.2.2.2.1 0 10000,CB (decide (16<s.2.2.2.2.length)) 5]
def Oe(s:Bi):Int:=if VH s≠0 then VH s else mV s.2.2.2.2
def Lf:List Bi->Int
 |[]=>0
 |s::l=>if Oe s≠0 then Oe s else Lf l
def E9(l:List Int):Bool:=l.any fun n=>decide (n<1)||decide (10000<n)
def GZ(n:Int)(seen:List Bm):List Bw->Int
 |[]=>0
 |t::l=>if isName t.1=false then 8 else if has seen t.1=true then 9 else if (t.2.length:Int)≠n then 2 else if E9 t.2=true then 3 else GZ n (t.1::seen) l
def Nb(seen:List Bm):List Be->Int
 |[]=>0
 |l::r=>if KU l≠0 then KU l else if has seen l.1=true then 9 else Nb (l.1::seen) r
def S2(c:At):Int:=if c.2.2=[]then 12 else if 8<c.2.2.length then 5 else Nb [] c.2.2
def VC(c:At):Int:=if c.2.1=[]then 12 else if 8<c.2.1.length then 5 else if GZ (c.1.length:Int) [] c.2.1≠0 then GZ (c.1.length:Int) [] c.2.1 else S2 c
def HR(c:At):Int:=if c.1=[]then 12 else if 36<c.1.length then 5 else if Lf c.1≠0 then Lf c.1 else VC c
def HQ(l:List AZ)(n m:Nat):Bool:=l.all fun p=>decide (p.1.length<=n)&&decide (p.2.length<=m)
def Ba(l:Be):Bool:=decide (l.1.length<=40)&&decide (l.2.1.length<=20)&&decide (l.2.2.1.length<=20)&&decide (l.2.2.2.1.length<=70)&&decide (l.2.2.2.2.length<=20)&&HQ l.2.2.2.1 20 20&&HQ l.2.2.2.2 40 20
def Bg(s:Bi):Bool:=decide (s.1.length<=20)&&decide (s.2.1.length<=20)&&decide (s.2.2.1.length<=20)&&decide (s.2.2.2.1.length<=20)&&decide (s.2.2.2.2.length<=20)
def BU(t:Bw):Bool:=decide (t.1.length<=40)&&decide (t.2.length<=40)
def Gc(c:At):Bool:=decide (c.1.length<=38)&&decide (c.2.1.length<=10)&&decide (c.2.2.length<=10)&&c.1.all Bg&&c.2.1.all BU&&c.2.2.all Ba
def LN(l:Be):Bool:=decide (l.2.1.length<=20)&&decide (l.2.2.1.length<=20)&&decide (l.2.2.2.1.length<=70)&&HQ l.2.2.2.1 20 20&&l.2.2.2.2.all fun p=>decide (p.2.length<=20)
def PD(t:Bw):Bool:=decide (t.2.length<=4611686018427387904)
def iO(c:At):Bool:=decide (c.1.length<=38)&&decide (c.2.1.length<=10)&&decide (c.2.2.length<=10)&&c.1.all Bg&&c.2.1.all PD&&c.2.2.all LN
def BC(c:At)(h:Int):Bi:=c.1.getD h.toNat ([],[],[],[],[])
def HH(c:At)(t h:Int):Int:=(c.2.1.getD t.toNat ([],[])).2.getD h.toNat 0
def CQ(c:At)(l:Int):Be:=c.2.2.getD l.toNat ([],[],[],[],[])
def HS(i n:Int):Bool:=decide (i<0)||decide (n<=i)
def GD(c:At)(b:Bool):Int:=if HR c≠0 then HR c else if b=true then 10 else 0
def ME(c:At)(t:Int):Bool:=HS t (c.2.1.length:Int)
def XU(c:At)(h:Int):Bool:=HS h (c.1.length:Int)
def Hc(c:At)(l:Int):Bool:=HS l (c.2.2.length:Int)
def Ajh(c:At)(t h:Int):Int:=GD c<|ME c t||XU c h
def SX(c:At)(t h l:Int):Int:=GD c<|ME c t||(XU c h||Hc c l)
def Ahl(c:At)(h l:Int):Int:=GD c<|XU c h||Hc c l
def plV(s:Bi)(n:Int):Rat:=let p:=(n:Rat)+(Ax s.1+Ax s.2.1+Ax s.2.2.1);if p<0 then 0 else p
def My(c:At)(t h:Int):Rat:=plV (BC c h)<|HH c t h
def S4(c:At)(t h l:Int):Rat:=iS (My c t h) (Ax (CQ c l).2.1) (Ax (CQ c l).2.2.1)<|Ax (BC c h).2.2.2.1
def lookW:List AZ->Bm->Rat
 |[],_=>0
 |w::l,k=>if w.1=k then Ax w.2 else lookW l k
def obV(ws:List AZ):List EJ->Rat
 |[]=>0
 |o::l=>lookW ws o.1*((o.2:Rat)/10)+obV ws l
def rM(c:At)(h l:Int):Rat:=obV (CQ c l).2.2.2.2 (BC c h).2.2.2.2
def CA(c:At)(t h l:Int):Rat:=Qj none (Agk (CQ c l).2.2.2.1) (S4 c t h l)+rM c h l
def VB(c:At)(t h l:Int):Bm:=jR (SX c t h l)<|CA c t h l
def wT(c:At)(t h l:Int):Int:=lQ (SX c t h l)<|CA c t h l
def aS(c:At)(t h:Int):Bm:=Az<|My c t h
def efR(c:At)(t h l:Int):Bm:=Az<|S4 c t h l
def obR(c:At)(h l:Int):Bm:=Az<|rM c h l
def NG(c:At)(t h l:Int):Bm:=Az<|CA c t h l
def zF:Ad:=((0,BA 0),(1,BA 1))
def iF(n:Int):Ad:=((n,BA n),(1,BA 1))
def zR(c:At)(t h:Int):Ad:=B4 (iF<|HH c t h)<|B4 (B4 (B4 zF<|CC (BC c h).1)<|CC (BC c h).2.1)<|CC (BC c h).2.2.1
def V1(c:At)(t h:Int):Ad:=if Rl (zR c t h)<0 then zF else zR c t h
def Lu(c:At)(h:Int):Ad:=CC (BC c h).2.2.2.1
def Jc(c:At)(l:Int):Ad:=CC (CQ c l).2.1
def Yy(c:At)(l:Int):Ad:=CC (CQ c l).2.2.1
def eH(c:At)(t h l:Int):Ad:=if DD (V1 c t h) (B4 (Jc c l)<|Lu c h)<=0 then LJ (Ed (V1 c t h)<|Jc c l) (B4 (Jc c l)<|Lu c h)else B4 (Jc c l)<|LJ (Ed (D7 (V1 c t h)<|B4 (Jc c l)<|Lu c h)<|Yy c l)<|B4 (Yy c l)<|Lu c h
def YJ(ws:List AZ)(f:Ad):List EJ->Ad
 |[]=>f
 |o::l=>match ws.find? fun w=>decide (w.1=o.1)with
  |some w=>YJ ws (B4 f<|Ed (CC w.2)<|TW (o.2,BA o.2) (10,BA 10)) l
  |none=>YJ ws f l
def obF(c:At)(h l:Int):Ad:=YJ (CQ c l).2.2.2.2 zF (BC c h).2.2.2.2
def cvF:Option AZ->List AZ->Ad->Ad
 |none,[],_=>zF
 |some q,[],_=>CC q.2
 |o,p::l,x=>if DD x (CC p.1)>0 then cvF (some p) l x else match o with
  |none=>CC p.2
  |some q=>if DD x (CC p.1)=0 then CC p.2 else B4 (CC q.2)<|LJ (Ed (D7 (CC p.2)<|CC q.2)<|D7 x<|CC q.1)<|D7 (CC p.1)<|CC q.1
def vlF(t:List AZ)(x:Ad):Ad:=cvF none t x
def UQ(c:At)(t h l:Int):Ad:=B4 (vlF (CQ c l).2.2.2.1<|eH c t h l)<|obF c h l
def AjV(c:At)(t h:Int):Int:=nS<|V1 c t h
def Aka(c:At)(t h:Int):List Int:=nW<|V1 c t h
def Ajj(c:At)(t h:Int):Int:=dS<|V1 c t h
def Aj9(c:At)(t h:Int):List Int:=dW<|V1 c t h
def Aj4(c:At)(t h l:Int):Int:=nS<|eH c t h l
def AjI(c:At)(t h l:Int):List Int:=nW<|eH c t h l
def AjP(c:At)(t h l:Int):Int:=dS<|eH c t h l
def AjW(c:At)(t h l:Int):List Int:=dW<|eH c t h l
def Aju(c:At)(h l:Int):Int:=nS<|obF c h l
def Ai5(c:At)(h l:Int):List Int:=nW<|obF c h l
def Ai8(c:At)(h l:Int):Int:=dS<|obF c h l
def AjH(c:At)(h l:Int):List Int:=dW<|obF c h l
def AiW(t:List AZ)(x:Ad):Int:=nS<|vlF t x
def AjD(t:List AZ)(x:Ad):List Int:=nW<|vlF t x
def Ajn(t:List AZ)(x:Ad):Int:=dS<|vlF t x
def Ajs(t:List AZ)(x:Ad):List Int:=dW<|vlF t x
def Aj1(c:At)(t h l:Int):Int:=nS<|UQ c t h l
def Ai7(c:At)(t h l:Int):List Int:=nW<|UQ c t h l
def AiU(c:At)(t h l:Int):Int:=dS<|UQ c t h l
def Ajb(c:At)(t h l:Int):List Int:=dW<|UQ c t h l
def RN(l:List (Int×Int)):Bool:=l.any fun p=>HS p.1 p.2
def Fp(c:At)(l:List (Int×Int)):Int:=GD c<|RN l
def okP(c:At)(t h:Int):Bool:=Gc c&&decide (Ajh c t h=0)
def Nf(c:At)(t h l:Int):Bool:=Gc c&&decide (SX c t h l=0)
def okO(c:At)(h l:Int):Bool:=Gc c&&decide (Ahl c h l=0)
def mY(l:Be):Bool:=decide (l.2.2.2.2.length<=4398046511104)
def smS(s:Bi):Bool:=decide (s.2.2.2.2.length<=5864062014805)
def rQ(c:At):Bool:=decide (c.1.length<=1599289640401)&&decide (c.2.1.length<=3518437208883)&&decide (c.2.2.length<=1466015503701)&&c.1.all smS&&c.2.2.all mY
def HE(n:Int):Bool:=decide (-100000<n)&&decide (n<100000)
def Lg(s:Bm)(l:List Bm):Int:=if isName s=false then 8 else if has l s=true then 9 else 0
end Go.Sp
namespace Go.Pe
open Sp
open Go.Det
abbrev Ba:Sh:=.pair .str<|.pair .str<|.pair .str<|.pair (.list Cf)<|.list Cf
abbrev Vk:Sh:=.pair .str i64
abbrev Bg:Sh:=.pair .str<|.pair .str<|.pair .str<|.pair .str<|.list Vk
abbrev BU:Sh:=.pair .str jT
abbrev AT:Sh:=.pair (.list Bg)<|.pair (.list BU)<|.list Ba
def iX:Am:=⟨[.str],fun _=>true,[.bool],fun s=>Sp.isName s,false⟩
def WE:Am:=⟨[.str,i64,i64],fun i=>decide (zu (α:=UInt8) i.1<=1000000)&&HE i.2.1&&HE i.2.2,[i64],fun i=>BQ i.1 i.2.1 i.2.2,false⟩
def Afn:Am:=⟨[.list Cf],fun l=>HQ l 40 20,[i64],fun l=>OB l,false⟩
def cLv:Am:=⟨[Ba],fun l=>Sp.Ba l,[i64],fun l=>KU l,false⟩
def mC:Am:=⟨[Bg],fun s=>Sp.Bg s,[i64],fun s=>Oe s,false⟩
def cCo:Am:=⟨[AT],fun c=>Gc c,[i64],fun c=>HR c,false⟩
def AfB:Am:=⟨[Ba],fun l=>LN l,[i64],fun l=>KU l,false⟩
def Ae9:Am:=⟨[AT],fun c=>iO c,[i64],fun c=>HR c,false⟩
def eO:Am:=⟨[Ba],fun _=>true,[.bool],fun l=>Sp.Ba l,false⟩
def Aa3:Am:=⟨[AT],fun _=>true,[.bool],fun c=>Gc c,false⟩
def Jt:Am:=⟨[AT],fun c=>rQ c,[AT],fun c=>c,false⟩
def tC:Am:=⟨[Ba],fun l=>mY l,[Ba],fun l=>l,false⟩
def Hk:Am:=⟨[AT,.list<|.pair i64 i64],fun i=>Gc i.1&&decide (zu (α:=Int×Int) i.2<=1000),[i64],fun i=>Fp i.1 i.2,false⟩
def cPl:Am:=⟨[AT,i64,i64],fun i=>Sp.okP i.1 i.2.1 i.2.2,[Aq],fun i=>((AjV i.1 i.2.1 i.2.2,Aka i.1 i.2.1 i.2.2),(Ajj i.1 i.2.1 i.2.2,Aj9 i.1 i.2.1 i.2.2)),false⟩
def cEf:Am:=⟨[AT,i64,i64,i64],fun i=>Nf i.1 i.2.1 i.2.2.1 i.2.2.2,[Aq],fun i=>((Aj4 i.1 i.2.1 i.2.2.1 i.2.2.2,AjI i.1 i.2.1 i.2.2.1 i.2.2.2),(AjP i.1 i.2.1 i.2.2.1 i.2.2.2,AjW i.1 i.2.1 i.2.2.1 i.2.2.2)),false⟩
def cOb:Am:=⟨[AT,i64,i64],fun i=>Sp.okO i.1 i.2.1 i.2.2,[Aq],fun i=>((Aju i.1 i.2.1 i.2.2,Ai5 i.1 i.2.1 i.2.2),(Ai8 i.1 i.2.1 i.2.2,AjH i.1 i.2.1 i.2.2)),false⟩
def cRt:Am:=⟨[AT,i64,i64,i64],fun i=>Nf i.1 i.2.1 i.2.2.1 i.2.2.2,[Aq],fun i=>((Aj1 i.1 i.2.1 i.2.2.1 i.2.2.2,Ai7 i.1 i.2.1 i.2.2.1 i.2.2.2),(AiU i.1 i.2.1 i.2.2.1 i.2.2.2,Ajb i.1 i.2.1 i.2.2.1 i.2.2.2)),false⟩
def cHo:Am:=⟨[AT,i64,i64,i64],fun i=>Gc i.1,[.str,i64],fun i=>(VB i.1 i.2.1 i.2.2.1 i.2.2.2,wT i.1 i.2.1 i.2.2.1 i.2.2.2),false⟩
def AhQ:Am:=⟨[AT,i64,i64],fun i=>Sp.okP i.1 i.2.1 i.2.2,[.str],fun i=>aS i.1 i.2.1 i.2.2,false⟩
def AhW:Am:=⟨[AT,i64,i64,i64],fun i=>Nf i.1 i.2.1 i.2.2.1 i.2.2.2,[.str],fun i=>Sp.efR i.1 i.2.1 i.2.2.1 i.2.2.2,false⟩
def Aim:Am:=⟨[AT,i64,i64],fun i=>Sp.okO i.1 i.2.1 i.2.2,[.str],fun i=>Sp.obR i.1 i.2.1 i.2.2,false⟩
def Agb:Am:=⟨[AT,i64,i64,i64],fun i=>Nf i.1 i.2.1 i.2.2.1 i.2.2.2,[.str],fun i=>NG i.1 i.2.1 i.2.2.1 i.2.2.2,false⟩
def Uv:Am:=⟨[.str,.list .str],fun i=>decide (zu (α:=Z) i.2<=1000),[i64],fun i=>Lg i.1 i.2,false⟩
def AfC:AG:=X7 [(163,EY),(96,M7),(73,OW),(57,cF),(91,Hz)]
def pN:AG:=X7 [(166,iX),(60,G6),(91,Hz),(163,EY),(96,M7),(106,qF)]
def oX:AG:=X7 [(166,iX),(60,G6),(91,Hz),(204,WE),(206,Mo),(96,M7),(73,OW),(207,Afn)]
def oK:AG:=X7 [(166,iX),(60,G6),(91,Hz),(204,WE)]
def NB:AG:=X7 [(90,qV),(164,mC),(166,iX),(60,G6),(91,Hz),(167,cLv)]
def Ack:AG:=X7 [(115,cCo),(91,Hz)]
def E6:AG:=X7 []
def Aid:AG:=X7 [(78,EY),(32,Lp),(143,I3),(148,Sd)]
def Aba:AG:=X7 [(111,iX)]
def Tc:AG:=X7 [(111,iX),(110,WE),(112,Mo),(32,Lp),(47,Uv),(78,EY),(87,N4)]
def AaG:AG:=X7 [(110,WE),(111,iX)]
def Fk:AG:=X7 [(46,mC),(47,Uv),(48,AfB)]
def Tg:AG:=X7 [(45,eO)]
def B2:AG:=SV [(7,[2])] [(7,[(2,[(1,AT)])])] [(7,[(18,[1,2,3,8]),(16,[1,2,3,8]),(14,[1,2,3,7]),(12,[1,2,3,7]),(9,[1,2,3,4,5,6]),(7,[1,2,3,4,5,6]),(5,[1,2,3,4]),(3,[1,2,3,4]),(2,[1,2,3])])] [(37,tC)]
end Go.Pe
namespace Go.Sp
def Zb(s:Bm):Bool:=I0 s&&decide (s.length<=20)&&DR s&&decide (0<=Bu s)&&decide (Bu s<1000000000)
def Vz(c:At):Int:=(c.2.1.length:Int)
def nHo(c:At):Int:=(c.1.length:Int)
def OY(c:At):Int:=(c.2.2.length:Int)
def Rm(a e bad b:Int):Bool:=if bad≠0 then decide (a=0)&&decide (e=bad)else decide (e=0)&&decide (a=b)
end Go.Sp
namespace Go.Pe
open Sp
open Go.Det
def Wo:Am:=⟨[.str],fun s=>Zb s,[i64,.bool],fun s=>(Bu s,true),false⟩
def wK:Am:=⟨[A4],fun _=>true,[i64,.bool],fun a=>((a:AL).1,decide ((a:AL).2=[])),false⟩
def TC:Am:=⟨[AT,i64],fun _=>true,[.pair i64 i64],fun i=>(i.2,Vz i.1),false⟩
def qO:Am:=⟨[AT,i64],fun _=>true,[.pair i64 i64],fun i=>(i.2,Sp.nHo i.1),false⟩
def K5:Am:=⟨[AT,i64],fun _=>true,[.pair i64 i64],fun i=>(i.2,OY i.1),false⟩
def qY:Am:=⟨[i64,i64],fun _=>true,[.bool],fun i=>HS i.1 i.2,false⟩
def gM:Am:=⟨[i64,i64,i64,i64],fun _=>true,[.bool],fun i=>Rm i.1 i.2.1 i.2.2.1 i.2.2.2,false⟩
def Um:AG:=SV [(95,[2])] [(95,[(2,[(3,AT),(7,Bg)])])] [(95,[(2,[1,2,3,6,7])])] [(96,M7),(57,cF),(59,JG),(106,qF)]
def rD:AG:=SV [(99,[4,6])] [(99,[(4,[(10,Aq),(11,Aq),(12,Aq),(13,Aq),(14,Aq)])])] [(99,[(4,[8,10,11,12,13,14]),(6,[8,10,11,12,13,14])])] [(95,cPl),(96,M7),(73,OW),(59,JG),(64,W9),(65,QR),(97,tS)]
def Aav:AG:=X7 [(137,UP),(138,PT)]
def AgR:AG:=X7 [(93,nC),(30,Jg),(32,Lp)]
def AgX:AG:=X7 [(181,AhQ),(30,Jg),(31,R5),(74,Na),(130,gX),(32,Lp),(87,N4),(86,dG),(129,V6),(77,Wo)]
end Go.Pe
namespace Go.Sp
def fwP(l:List AZ)(d:Int):Bool:=l.all fun p=>Cp p.1 d&&Cp p.2 d
def fwW(l:List AZ)(d:Int):Bool:=l.all fun p=>Cp p.2 d
def EH(l:Be)(n d:Int):Bool:=decide (l.1.length<=30)&&decide ((l.2.2.2.1.length:Int)<=n)&&decide ((l.2.2.2.2.length:Int)<=n)&&Cp l.2.1 d&&Cp l.2.2.1 d&&(fwP l.2.2.2.1 d&&fwW l.2.2.2.2 d)
def Il(s:Bi)(n d:Int):Bool:=decide ((s.2.2.2.2.length:Int)<=n)&&Cp s.1 d&&Cp s.2.1 d&&Cp s.2.2.1 d&&Cp s.2.2.2.1 d
def KS(c:At)(n d:Int):Bool:=decide ((c.1.length:Int)<=n)&&decide ((c.2.1.length:Int)<=n)&&decide ((c.2.2.length:Int)<=n)&&(c.1.all (fun s=>Il s n d)&&(c.2.2.all (fun l=>EH l n d)&&decide (HR c=0)))
def YZ(n d:Int):Bool:=decide (0<=n)&&decide (n<=8)&&decide (0<=d)&&decide (d<=9)
end Go.Sp
namespace Go.Pe
open Sp
open Go.Det
def gJ:Am:=⟨[Ba,i64,i64],fun i=>YZ i.2.1 i.2.2,[.bool],fun i=>EH i.1 i.2.1 i.2.2,false⟩
def xZ:Am:=⟨[AT,i64,i64],fun i=>YZ i.2.1 i.2.2&&qm (α:=Bw) (Prod.fst<|Prod.snd (i.1:At)) PD,[.bool],fun i=>KS i.1 i.2.1 i.2.2,false⟩
def ZZ:AG:=X7 [(49,gL)]
def Z2:AG:=X7 [(49,gL),(50,gJ),(10,Ae9)]
section
open List Int Prod
namespace T126
def T(l:List AZ)(x:Z):Tr:=tree XT5 false 9 126<|Af ([yv Cf,zk]) (l,x)
def L1(v0:List AZ)(v1:Z)(v5:Int):Tr:=re ((T [] []).L.L.R)<|Ap 70 [(0,.dat (yv Cf) v0),(1,.dat zk v1),(5,.dat i64 v5)] [] 0
theorem Ai(l:List AZ)(x:Z):T l x=let a:=getD l 0 ([],[]);let b':=decide (0<(length l:Int));.ck b' (.ck (AR x&&BV (fst a))<|.di (CW x (fst a)<=0) (.ck b'<|.leaf (.dat zk<|snd a) [])<|L1 l x 1):=by kernel_rfl
theorem Al(v0:List AZ)(v1:Z)(v5:Int):stepT XT5 (L1 v0 v1 v5)=let a:=getD v0 (toNat<|zd .i64<|v5-1) ([],[]);let b':=getD v0 (toNat v5) ([],[]);let b:=(length v0:Int);let d:=DS v1<|fst a;let f:=decide (0<=v5)&&decide (v5<b);let e:=DS (snd b')<|snd a;let h':=DS (fst b')<|fst a;let c:=Fj e h';.di (v5<b) (.ck f<|.ck (AR v1&&BV (fst b'))<|.di (CW v1 (fst b')<=0) (.ck (decide (0<=zd .i64 (v5-1))&&decide (zd .i64 (v5-1)<b))<|.ck f<|.ck (AR (snd b')&&BV (snd a))<|.ck (AR (fst b')&&BV (fst a))<|.ck (AR e&&XC h')<|.ck (AR v1&&BV (fst a))<|.ck (AR c&&AR d)<|.ck (AR (snd a)&&AR (DI c d))<|.leaf (.dat zk<|BW (snd a)<|DI c d) [])<|L1 v0 v1<|zd .i64<|v5+1) (.ck (decide (0<=zd .i64 (b-1))&&decide (zd .i64 (b-1)<b))<|.leaf (.dat zk<|snd<|getD v0 (toNat<|zd .i64<|b-1) ([],[])) []):=by kernel_rfl
end T126
namespace T237
def T(l:List AZ):Tr:=tree XT1 false 9 237<|Af ([yv Cf]) l
def L1(c:List AZ)(b a:Int):Tr:=re ((T []).L.L.L.R)<|Ap 66 [(5,.nil),(23,.dat (yv Cf) c),(24,.dat i64 b),(25,.dat i64 a)] [] 0
theorem Ai(l:List AZ):T l=let a:=(length l:Int);.ck true (.ck true<|.ck (decide (2<=2)&&true&&decide (2<=1000000))<|.ite (qn [CB (a==0) 12,CB (decide (a>64)) 5] !=0) (.leaf (.tup [.nil,.dat i64<|qn [CB (a==0) 12,CB (decide (a>64)) 5]]) [])<|L1 l a 0):=by kernel_rfl
def L2(b:Nat)(c:List AZ)(d a:Int)(e:List (Ad×Ad)):Tr:=re ((stepT XT1<|L1 [] 0 0).L.L.L.R.L.L.R.L)<|Ap 66 [(5,.sl 0 8 0 b none),(23,.dat (yv Cf) c),(24,.dat i64 d),(25,.dat i64 a)] [(0,.arr false 300 (Sh.pair Aq Aq) e)] 1
theorem Al(c:List AZ)(d a:Int):stepT XT1 (L1 c d a)=let b:=getD c (toNat a) ([],[]);.di (a<d) (.ck (decide (0<=a)&&decide (a<(length c:Int)))<|.ck (decide (2<=2)&&true&&(decide (2<=1000)&&qm [fst b,snd b] fun s=>decide (length s<=1000000)))<|.ite (B8 [fst b,snd b] !=0) (.leaf (.tup [.nil,.dat i64<|B8 [fst b,snd b]]) [])<|.ck (D8<|fst b)<|.ck (D8<|snd b)<|.di (a>0) .fail<|.ck (aa 128)<|L2 1 c d (zd .i64<|a+1)<|[((CC<|fst b),(S7<|snd b,S0<|snd b),Qt<|snd b,SD<|snd b)]) (.leaf (.tup [.nil,.dat i64 (0:Int)]) []):=by kernel_rfl
theorem AA(c:Nat)(d:List AZ)(e a:Int)(f:List (Ad×Ad)):stepT XT1 (L2 c d e a f)=let b:=getD d (toNat a) ([],[]);let h:=zd .i64<|a-1;let b':=fst<|getD f (toNat h) (((0,[]),0,[]),(0,[]),0,[]);let g:=CC<|fst b;let i:Tr:=.ck (ac c (length f) 128)<|L2 (Nat.add c 1) d e (zd .i64<|a+1)<|f++[(g,(S7<|snd b,S0<|snd b),Qt<|snd b,SD<|snd b)];let j:=((fst b'),fst<|snd b',snd<|snd b');.di (a<e) (.ck (decide (0<=a)&&decide (a<(length d:Int)))<|.ck (decide (2<=2)&&true&&(decide (2<=1000)&&qm [fst b,snd b] fun s=>decide (length s<=1000000)))<|.ite (B8 [fst b,snd b] !=0) (.leaf (.tup [.nil,.dat i64<|B8 [fst b,snd b]]) [])<|.ck (D8<|fst b)<|.ck (D8<|snd b)<|.di (a>0) (.ck (decide (0<=zd .i64 (a-1))&&decide (zd .i64 (a-1)<(↑c:Int)))<|.cd (toNat h<length f)<|.ck (ji g&&ji j)<|.di (DD g j<=0) (.leaf (.tup [.nil,.dat i64 (11:Int)]) []) i) i) (.leaf (.tup [.sl 0 8 0 c none,.dat i64 (0:Int)])<|[(0,.arr false 300 (Sh.pair Aq Aq) f)]):=by kernel_rfl
end T237
namespace T206
def T(l:List AZ):Tr:=tree XT2 false 9 206<|Af ([yv Cf]) l
theorem Ai(l:List AZ):T l=.ck (decide (length l<=1000)&&He 1000000 l) (.leaf (.dat i64<|BL l) []):=by kernel_rfl
end T206
namespace T112
def T(l:List AZ):Tr:=tree XT4 false 9 112<|Af ([yv Cf]) l
def L1(v0:List AZ)(v3:Int):Tr:=re ((T []).R.R)<|Ap 55 [(0,.dat (yv Cf) v0),(3,.dat i64 v3)] [] 0
theorem Ai(l:List AZ):T l=.ite ((length l:Int)==0) (.leaf (.dat i64 (12:Int)) []) (.di ((length l:Int)>64) (.leaf (.dat i64 (5:Int)) [])<|L1 l 0):=by kernel_rfl
theorem Al(v0:List AZ)(v3:Int):stepT XT4 (L1 v0 v3)=let a:=getD v0 (toNat v3) ([],[]);let b':=L1 v0<|zd .i64<|v3+1;let f:=fst<|getD v0 (toNat<|zd .i64<|v3-1) ([],[]);let c:=(length v0:Int);let e:Tr:=.ite (Ao (snd a) !=0) (.leaf (.dat i64<|Ao<|snd a) []) b';let d:Tr:=.ite (Ao (fst a) !=0) (.leaf (.dat i64<|Ao<|fst a) []) b';let b:=decide (0<=v3)&&decide (v3<c);let i:=decide (0<=zd .i64 (v3-1))&&decide (zd .i64 (v3-1)<c);let h':Tr:=.ite true (.leaf (.dat i64 (11:Int)) []) b';let g:=decide (CW f (fst a)>=0);let h:=AR f&&BV (fst a);.di (v3<c) (.ck b<|.cd (length (fst a)<=1000000)<|.ite (Ao (fst a)==0) (.ck b<|.cd (length (snd a)<=1000000)<|.ite (Ao (snd a)==0) (.di (v3>0) (.ck i<|.ck b<|.ck h<|.ite g h' e) e) e)<|.ite (Ao (fst a)==0) (.di (v3>0) (.ck i<|.ck b<|.ck h<|.ite g h' d) d) d) (.leaf (.dat i64 (0:Int)) []):=by kernel_rfl
end T112
namespace T57
def T(n:Int):Tr:=tree XA0 false 9 57<|Af ([Sh.int jh]) n
theorem Ai(n:Int):T n=.ck true (.ck true<|.leaf (PV.agg [.dat i64 n,.dat wU<|Sp.BA n,.dat i64 (1:Int),.dat wU<|Sp.BA 1]) []):=by kernel_rfl
end T57
namespace T197
def T(s t:Z):Tr:=tree XX0 false 9 197<|Af ([zk,zk]) (s,t)
theorem Ai(s t:Z):T s t=let a:=(length t:Int);let b':=decide (toNat a<=length s);.di ((length s:Int)>=a) (.ck (decide (0<=a)&&decide (0<=toNat a)&&b')<|.ite (take (toNat a) s==t) (.ck (decide (0<=a)&&true&&b'&&decide (length s<=length s))<|.leaf (.dat zk<|take (Nat.sub (length s)<|toNat a)<|drop (toNat a) s) [])<|.leaf (.dat zk s) []) (.leaf (.dat zk s) []):=by kernel_rfl
end T197
namespace T208
def T(a:AL):Tr:=tree XX1 false 9 208<|Af ([A4]) a
theorem Ai(a:AL):T a=let c:=BI<|Aj<|zh a;let b:=(↑(length c):Int);let b':=getD c (toNat<|zd .i64<|b-1) 0;.ck (ql a) (.ite (b==0) (.leaf (.dat i64 (0:Int)) [])<|.ck (decide (0<=zd .i64 (b-1))&&decide (zd .i64 (b-1)<b))<|.ck (Sp.u64 b')<|.leaf (.dat i64<|zd .i64<|zd .i64 (64*zd .i64 (b-1))+F9 b') []):=by kernel_rfl
end T208
namespace T169
def T(a:AL):Tr:=tree Aij false 9 169<|Af ([A4]) a
theorem Ai(a:AL):T a=.ck (Bk a) (.di (QW a>1800) (.ck (Bk a)<|.ck (VU (A2<|zh a) [(45:UInt8)])<|.leaf (.dat Sh.bool<|decide ((↑(length<|A9<|A2<|zh a):Int)>600)) [])<|.leaf (.bl false) []):=by kernel_rfl
end T169
namespace T118
def T(a:Ad):Tr:=tree XX2 false 9 118<|Af ([Aq]) a
theorem Ai(a:Ad):T a=.ck (Bk<|fst a) (.ite (EZ<|fst a) (.leaf (.bl true) [])<|.ck (Bk<|snd a)<|.leaf (.dat Sh.bool<|EZ<|snd a) []):=by kernel_rfl
end T118
namespace T119
def T(a:Ad):Tr:=tree XX2 false 9 119<|Af ([Aq]) a
theorem Ai(a:Ad):T a=let b:=zh<|fst a;.ck true (.ite (Di<|snd a) (.ck (Bk<|fst a)<|.leaf (.dat zk<|A2 b) [])<|.ck (Bk<|fst a)<|.cd (length (A2 b)+1<=4611686018427387904)<|.ck (Bk<|snd a)<|.cd (length (A2 b++[(47:UInt8)])+length (A2<|zh<|snd a)<=4611686018427387904)<|.leaf (.dat zk<|A2 b++[(47:UInt8)]++A2 (zh<|snd a)) []):=by kernel_rfl
end T119
namespace T270
def T(l:List Z):Tr:=tree XX3 false 9 270<|Af ([yv zk]) l
def L1(c:List Z)(a b:Int):Tr:=re ((T []))<|Ap 18 [(6,.dat (yv zk) c),(7,.dat i64 a),(8,.dat i64 b)] [] 0
theorem Ai(l:List Z):T l=L1 l ((length l:Int)) 0:=by kernel_rfl
theorem Al(b:List Z)(c a:Int):stepT XX3 (L1 b c a)=let d:=getD b (toNat a) [];.di (a<c) (.ck (decide (0<=a)&&decide (a<(length b:Int)))<|.cd (length d<=1000000)<|.ite (Ao d !=0) (.leaf (.dat i64<|Ao d) [])<|L1 b c<|zd .i64<|a+1) (.leaf (.dat i64 (0:Int)) []):=by kernel_rfl
end T270
namespace T106
def T(a:Ad):Tr:=tree XX3 false 9 106<|Af ([Aq]) a
theorem Ai(a:Ad):T a=.ck (ql<|fst a) (.leaf (.dat i64<|Jh<|fst a) []):=by kernel_rfl
end T106
end
namespace T170
theorem As(neg:Bool)(V:Nat)(h0:0<V)(h:Small V)(hG:(CM (V+1) V).length<=1000000)(b:Exit neg (CM (V+1) V) Q):Ends Tf (L1 neg (BI (V:Int)) 1 [1000000000000000000]) Q:=by
 have e:V % 10^18<10^18:=Nat.mod_lt _ af;have k:∀s,s=(if V/10^18=0 then zc (V % 10^18)else Hf 18<|V % 10^18)->[s]++(if V/10^18=0 then[]else CM V<|V/10^18)=CM (V+1) V:=by
  rintro s rfl;have i:CM (V+1) V=if V<10^18 then[zc V]else Hf 18 (V % 10^18)::CM V (V/10^18):=rfl
  rw[i];by_cases c:V<10^18
  ·rw[wd c,wd ae,wd ae,Nat.mod_eq_of_lt c];rfl
  ·rw[wc c,wc ae,wc ae];rfl
 have next:∀s,s=(if V/10^18=0 then zc (V % 10^18)else Hf 18<|V % 10^18)->Ends Tf (L2 neg (BI ((V/10^18:Nat):Int)) 1 1 [s] [1000000000000000000]) Q:=
  fun s l=>Bc neg _ hG b V (V/10^18) [s] ae (h.le<|y9 _ _)<|k s l
 refine qt (Al ..) (zf (w4 (by have:=Kv h0;omega))<|zf (Ab rfl h.div) ?_);rw[YQ,Xk];rcases z8 (V % 10^18)with g|g
 ·have q0:V/10^18≠0:=ae
  rw[g,show((0:Nat):Int)=0 from rfl,NA];refine qu rfl (zf (w4 (by have:=Kv (V:=V/10^18) ae;omega))<|zf rfl (zf rfl (zf rfl (next _ ?_))));have hp:=VL 0 af;rw[zy ae]at hp;rw[wc q0,g, <-hp];rfl
 ·rw[Yz (r:=((V % 10^18:Nat):Int)) ae ae];have f:jo [((V % 10^18:Nat):Int)] 0 0=((V % 10^18:Nat):Int):=rfl;rw[f,NM];have m:=VQ e;have d:((V % 10^18:Nat):Int)<1000000000000000000:=ae
  have j:0<(zc<|V % 10^18).length:=by
   rw[zn,jg];split<;>omega
  refine zf rfl (zf rfl (zf (Ab (Ab (w4<|Int.natCast_nonneg _)<|w4 d) rfl) ?_));rw[wr _ ae ae];by_cases q0:V/10^18=0
  ·rw[q0];refine qu (by rw[show((0:Nat):Int)=0 from rfl,NA];rfl)<|zf rfl ?_;have:=next _ rfl;rw[wd q0,q0]at this;exact this
  ·have a:=VL _ e;refine zf (w4 (by have:=Kv (V:=V/10^18) ae;omega)) (zf (Ab (ad ae ae) rfl)<|zf (w4 ?_)<|zf rfl (next _ ?_))
   ·rw[<-zj,a];unfold Hf;rw[zj,List.length_replicate];omega
   ·rw[wc q0];exact a
end T170
theorem AfW(n:Nat):(18446744073709551616:Nat)^n<=10^(20*n):=by
 rw[Nat.pow_mul];exact Nat.pow_le_pow_left af n
theorem jV{V k:Nat}(h:(V:Int)<(Av:Int)^k):V<18446744073709551616^k:=by
 rw[<-UB k]at h;exact qd.mp h
theorem kA{V k:Nat}(h:(V:Int)<(Av:Int)^k)(c:1<=k):(zc V).length<=20*k:=by
 rw[zn];obtain⟨j,b⟩:∃j,20*k=j+1:=⟨20*k-1,by omega⟩;have a:=yb (jV h)<|AfW k;rw[b]at a ⊢;exact Qd j V a
theorem IF{V:Nat}(h:Small V):(zc V).length<=180000:=kA (k:=9000) h.h af
theorem On:∀(f v:Nat) (s:Z),s∈CM f v->0<s.length
 |0,v,s,h=>by cases h
 |f+1,v,s,h=>by
  have b:CM (f+1) v=if v<10^18 then[zc v]else Hf 18 (v % 10^18)::CM f (v/10^18):=rfl
  have a:∀r,0<(zc r).length:=fun r=>by rw[zn,jg];split<;>omega
  rw[b]at h;split at h
  ·rw[yo]at h;subst h;exact a _
  ·rcases List.mem_cons.1 h with rfl|h
   ·unfold Hf;rw[zj];have:=a<|v % 10^18;omega
   ·exact On f _ s h
theorem QQ:∀(l:List Z),(∀s∈l,0<s.length)->l.length<=l.flatten.length
 |[],_=>z6 _
 |s::l,h=>by
  have c:=QQ l fun x a=>h x<|List.mem_cons_of_mem _ a
  have b:=h s<|qf ..;rw[qj,zj,zp];omega
theorem lM{V:Nat}(h:0<V):A2 (-(V:Int))=45::zc V:=Lib.itoa_neg V h
theorem Acd(a:Ae A1 211 Xx):Cr Tf:=Aa Aai<|Aa (T173.ok Gx)<|Aa Tl<|Aa a<|Aa kL AI
namespace T170
theorem jA(neg:Bool){V:Nat}(g:Small V)(b:∀ob,Q (.dat .str (if neg=true then 45::zc V else zc V)) ob):Exit neg (CM (V+1) V) Q:=by
 have a:=On (V+1) V;have d:=Ki (V+1) V ae;have k:=IF g;have j:=QQ _ a;have hr:(CM (V+1) V).flatten.length=(zc V).length:=by
  rw[<-d,yj,yj,List.map_reverse,List.sum_reverse]
 have e:0<(CM (V+1) V).length:=by
  have f:CM (V+1) V=if V<10^18 then[zc V]else Hf 18 (V % 10^18)::CM V (V/10^18):=rfl
  rw[f];split<;>simp
 generalize CM (V+1) V=G at*;unfold Exit;refine qh (fun c=>zf rfl (zf rfl ?_))<|fun c=>?_
 ·rw[wd c]at b;rw[wr _ ae ae];exact FI G (45::zc V) (by rw[zp];omega) ae b G.length [45] _ 1 (z6 _) rfl rfl af (by rw[List.take_length,d];rfl)
 ·rw[wc<|by rw[c];decide]at b;rw[wr _ ae ae];obtain⟨i,h⟩:∃i,i+1=G.length:=⟨G.length-1,by omega⟩;exact GA G (zc V) ae ae b i h _ ae (a _<|List.getElem_mem _) d
theorem ok(e:Ae A1 211 Xx):Ae A1 170 Afh:=by
 refine AX (X:=Tf) rfl (Acd e) (d:=9) ag ag ag (fun(a:Int×List Int) f=>?_) (Ak ag);have f:Bk a=true:=f;have g:=(Cg f).1;have hr:=(Es g).1;refine yy (Ai a)<|qh (fun c=>zf (FL hr.1 hr.2)<|zo<|qi rfl rfl ?_)<|fun c=>zf g ?_
 ·have c:a.2=[]:=by simpa using c
  show A2 a.1=A2 (zh a);rw[BZ c]
 ·have c:a.2≠[]:=by rintro k;rw[k]at c;simp at c
  have m:=bounds f;have b:(9223372036854775808:Int)<=Aj (zh a):=by
   obtain⟨_,h⟩:=Es g;obtain⟨s,w⟩:=a;rcases h with h|⟨_,_,l⟩
   ·exact wh h c
   ·rw[Y1 c,An];have l:9223372036854775808<=Ay w:=l;split<;>omega
  obtain⟨V,q⟩:=yr<|AS<|zh a;have i:=An<|zh a;rw[q]at m b i ⊢;have j:Small V:=⟨m⟩;have t:=IF j;have hp:0<V:=ae
  have r:=QQ _<|On (V+1) V;have p:=Ki (V+1) V ae;have o:(CM (V+1) V).flatten.length=(zc V).length:=by
   rw[<-p,yj,yj,List.map_reverse,List.sum_reverse]
  refine As _ V hp j ae<|jA _ j fun ob=>qi rfl rfl ?_;show(if decide (zh a<0)=true then 45::zc V else zc V)=A2 (zh a);by_cases n:zh a<0
  ·rw[wd<|w4 n,show zh a= -(V:Int)from by omega,lM hp]
  ·rw[wc (by simpa using n),show zh a=(V:Int)from by omega,NM]
end T170
theorem aZ{k:Nat}{n d:Int}(a:d≠0)(b:Aj n<(Av:Int)^k)(c:Aj d<(Av:Int)^k):MK k (zq n d):=by
 unfold MK;rw[yt,yu,wc a];constructor
 ·refine yn aL ?_;rw[KT];have:Aj d.sign=1:=by rw[An,qg a];rfl
  rw[this,Int.one_mul];exact b
 ·refine yn ?_ c;rw[An];exact jm.mpr<|y9 _ _
theorem Acl{f:Ad}(h:qz f=true)(h0:zh f.1≠0):qz (YM f)=true:=by
 obtain⟨a1,a2,a,b,a0⟩:=GY h;exact(KY a2 a1 h0).Ce<|aZ h0 b a
theorem Aan{f:Ad}(h:qz f=true):qz (AfE f)=true:=by
 obtain⟨a1,a2,a,b,a0⟩:=GY h;unfold qz ji at*;have c:=Y4 (k:=4000) (Cg a1).1 ae ae<|Wb (Cg a1).1 a;exact Ab (Ab (Hr c.1<|by show Aj (zh<|DH f.1)<_;rw[JT,J9];exact a)<|Hr (Cg a2).1 b)<|w4 a0
theorem dI:Cr XA3:=Aa T131.ok<|Aa T59.ok<|Aa T65.ok<|Aa T161.ok AI
theorem T64.ok:Ae A1 64 W9:=by
 refine C3 dI<|fun(i:((Int×List Int)×(Int×List Int))×((Int×List Int)×(Int×List Int))) c=>?_;obtain⟨a,b⟩:=i;have c:(qz a&&qz b)=true:=c;rw[ze]at c;obtain⟨b1,b2,lb1,lb2,b0⟩:=GY c.2;exact yy (T64.Ai a b)<|zf (Cg b1).1<|zf (Ab c.1<|Aan c.2)<|zo<|qi rfl rfl rfl
theorem T97.ok:Ae A1 97 tS:=by
 refine C3 dI<|fun(i:((Int×List Int)×(Int×List Int))×((Int×List Int)×(Int×List Int))) c=>?_;obtain⟨a,b⟩:=i;have c:(qz a&&qz b&&decide (zh b.1≠0))=true:=c;rw[ze,ze,w5]at c;exact yy (T97.Ai a b)<|zf (Ab c.1.2<|w4 c.2)<|zf (Ab c.1.1<|Acl c.1.2 c.2)<|zo<|qi rfl rfl rfl
theorem T132.ok:Ae A1 132 oN:=by
 refine C3 Hx<|fun(a:(Int×List Int)×(Int×List Int)) h=>?_;obtain⟨a1,a2,c,b,a0⟩:=GY h;exact yy (T132.Ai a)<|zf (Ab (Ab a1 a2)<|w4 a0)<|zo<|qi rfl rfl rfl
end Go.Pe
namespace Go.Sp
theorem DA{a:Bool×List Int}(h:CP a=true):Bh a.2=true/\a.2.length<=3000/\(a.1=true->a.2≠[]):=by
 unfold CP at h;rw[ze,ze,w5,Bool.or_eq_true,w5,Bool.not_eq_true']at h;refine⟨h.1.1,h.1.2,fun k=>?_⟩;rcases h.2 with x|x
 ·rw[k]at x;cases x
 ·exact x
theorem Fu{a:Bool×List Int}(h:CP a=true):Aj (vR a)=Ar a.2/\0<=Ar a.2:=by
 obtain⟨c,e,d⟩:=DA h;have h0:=AJ (b:=B9) af (BB c).2.1;have h0:0<=Ar a.2:=h0;refine⟨?_,h0⟩;unfold vR;rw[An];split<;>omega
theorem tL{a:Bool×List Int}(h:CP a=true):a.1=rN (vR a):=by
 obtain⟨c,f,d⟩:=DA h;obtain⟨_,h0⟩:=Fu h;unfold rN vR;cases e:a.1 with
 |false=>rw[wc af];symm;rw[w9];omega
 |true=>
  rw[wd rfl];symm;rw[w5];have:=Kz (b:=B9) af (BB c).2.1 (BB c).2.2<|d e;have:0<Ar a.2:=this;omega
theorem AjZ{a:Bool×List Int}(h:CP a=true):a.2=rW (vR a):=by
 unfold rW;rw[(Fu h).1];exact JO (b:=B9) af (BB (DA h).1).2.1 (BB (DA h).1).2.2
theorem AdM{a:Bool×List Int}(h:CP a=true):a=(rN<|vR a,rW<|vR a):=Prod.ext (tL h)<|AjZ h
theorem bL(k:Nat):(B9:Int)^k=10^(9*k):=by
 have:(B9:Int)=10^9:=af
 rw[this, <-Int.pow_mul]
theorem AaO{n:Int}{k:Nat}(h:n.natAbs<10^(9*k)):Aj n<(B9:Int)^k:=by
 rw[An,bL];have:((10^(9*k):Nat):Int)=(10:Int)^(9*k):=by simp
 rw[<-this];exact qd.mpr h
theorem Qk(n:Int):0<=Aj n:=by rw[An];omega
theorem ON(n:Int):Ar (rW n)=Aj n:=Du (b:=B9) af<|Qk n
theorem Jl(n:Int):vR (rN n,rW n)=n:=by
 unfold vR;show(if rN n=true then -Ar (rW n)else Ar<|rW n)=n;rw[ON,An];unfold rN;by_cases h:n<0
 ·rw[wd<|w4 h];omega
 ·rw[wc<|by simpa using h];omega
theorem V8{n:Int}(h:n.natAbs<10^27000):CP (rN n,rW n)=true:=by
 have k:27000=9*3000:=rfl;rw[k]at h;obtain⟨f,_,i,g⟩:=GJ (n:=Aj n) (k:=3000) (Qk n) (AaO h) af;unfold CP;have c:Bh (rW n)=true:=f;have d:(rW n).length<=3000:=g;rw[c,w4 d];cases b:rN n with
 |false=>rfl
 |true=>
  have:rW n≠[]:=by
   intro e;have a:=ON n;rw[e]at a;have a:0=Aj n:=a;unfold rN at b;have b:=w6 b;rw[An]at a;omega
  rw[w4 this];rfl
theorem tN(k:Nat):((10^k:Nat):Int)=(10:Int)^k:=by rw[yd];rfl
theorem Aeq{x:Nat}(j k:Nat)(h:j<=k)(a:x<10^j):x<10^k:=yb a (yh af h)
theorem Ael{a:Bool×List Int}(h:CP a=true):(vR a).natAbs<10^27000:=by
 obtain⟨e,g,i⟩:=DA h;have f:=BD (b:=B9) af (BB e).2.1;have d:(B9:Int)^a.2.length<=(B9:Int)^3000:=AY af g;have c:Aj (vR a)<(B9:Int)^3000:=by rw[(Fu h).1];exact yc f d
 rw[An,bL]at c;have:=tN<|9*3000;rw[<-this]at c;have k:27000=9*3000:=rfl;rw[k];exact qd.mp c
theorem qT{neg:Bool}{w:List Int}{n:Int}(b:AD B9 w)(a:Ar w=Aj n)(c:n≠0->neg=rN n):(CY neg w,AE w)=(rN n,rW n):=by
 have h:=Go.Pe.N0 (neg:=neg) b a;rw[h];have:(if neg=true then -Aj n else Aj n)=n:=by
  by_cases h0:n=0
  ·rw[h0];unfold Aj;split<;>simp
  ·rw[c h0];unfold rN;rw[An];by_cases h:n<0
   ·rw[wd<|w4 h];omega
   ·rw[wc<|by simpa using h];omega
 rw[this]
theorem Em{s:Z}(h:AR s=true):CP (B3 s,BS s)=true/\vR (B3 s,BS s)=Bs s/\CP (By s,Bt s)=true/\vR (By s,Bt s)=A5 s/\(Ax s).num=Bs s/\((Ax s).den:Int)=A5 s/\D8 s=true/\(Bs s).natAbs<10^4000/\(A5 s).natAbs<10^4000:=by
 obtain⟨d,k⟩:=GG h;obtain⟨s1,s2⟩:=VG h;have e:(Ax s).num=Bs s/\((Ax s).den:Int)=A5 s:=by
  have:=RA<|Ax s;rw[d]at this;exact⟨this.1.symm,this.2.symm⟩
 have l1:(Bs s).natAbs<10^4000:=by rw[<-e.1];exact s1
 have a:(A5 s).natAbs<10^4000:=by rw[<-e.2,zi];exact s2
 have m:∀x:Nat,x<10^4000->x<10^27000:=fun x g=>Aeq 4000 27000 af g
 refine⟨V8<|m _ l1,Jl _,V8<|m _ a,Jl _,e.1,e.2,?_,l1,a⟩;obtain⟨f,b,i⟩:=F6<|Ax s;rw[d]at f b i;have l:=Go.Pe.T163.Kr s;unfold D8 DR;rw[w4 (p:=s.length<=5999) ae,w4 (p:=(AO s).length<=5999) ae,w4 (p:=(Bb s).length<=5999) ae,ye,ye,Bool.and_true,ze];refine⟨?_,?_⟩
 ·obtain⟨j,i2,i3,i4⟩:=Dp (Ax s).num;rw[f];unfold A9 at i2;split at i2
  ·next c=>rw[wd c,i2];exact DU _
  ·next c=>rw[wc c,i2];exact DU _
 ·rw[b];split
  ·rfl
  ·rw[wc<|Fx<|DU _];exact DU _
end Go.Sp
namespace Go.Pe
open Sp
open Go.Det
theorem Wu{x:Int}{k:Nat}(h:x.natAbs<10^k):Aj x<(Av:Int)^k:=by
 have a:((10^k:Nat):Int)=(10:Int)^k:=yd ..;rw[An];refine yc ?_<|Afg k;rw[<-a];exact qd.mpr h
theorem Wi{q:Rat}{k:Nat}(h:Cz k q)(b:k<=4000):MK 4000 q:=by
 obtain⟨d,c⟩:=h.mono b;have a:=Wu (k:=4000) (x:=(q.den:Int)) (by rw[zi];exact c);rw[An,zi]at a;exact⟨Wu d,a⟩
def frS(s:Z):Ad:=((S7 s,S0 s),(Qt s,SD s))
theorem Mx{s:Z}(h:AR s=true):FH (frS s) (Ax s):=by
 obtain⟨_,_,_,_,b,d,_,l1,a⟩:=Em h;have m:∀x:Int,x.natAbs<10^4000->Aj x<(Av:Int)^9000:=fun x c=>yc (Wu c) (AY af af)
 exact⟨(Cg<|HU<|Eh<|m _ l1).1,(Cg<|HU<|Eh<|m _ a).1,(MX _).trans b.symm,(MX _).trans d.symm⟩
theorem iT{d:AL}(h:ql d=true):Di d=decide (zh d=1):=by
 unfold Di;rw[Bool.eq_iff_iff,ze,w5,w5,w5];refine⟨fun⟨g,f⟩=>by rw[BZ g];exact f,fun e=>?_⟩;by_cases c:d.2=[]
 ·rw[BZ c]at e;exact⟨c,e⟩
 ·obtain⟨_,a⟩:=Es h;obtain⟨s,w⟩:=d;rcases a with a|⟨_,_,b⟩
  ·exact wh a c
  ·rw[Y1 c]at e;have b:9223372036854775808<=Ay w:=b;split at e<;>omega
theorem jS{f:Ad}{q:Rat}(h:FH f q):JK f=QI q:=by
 unfold JK EZ QI;rw[h.vn,h.vd]
theorem qJ{f:Ad}{q:Rat}(h:FH f q):Li f=Az q:=by
 unfold Li Az;rw[iT h.d,h.vn,h.vd];have e:decide ((q.den:Int)=1)=true↔q.den=1:=by rw[w5];omega
 by_cases c:q.den=1
 ·rw[wd<|e.2 c,wd c];rfl
 ·rw[wc<|fun k=>c<|e.1 k,wc c];show zm q.num++47::zm ((q.den:Nat):Int)=_;rw[qx]
theorem eV{f:Ad}{q:Rat}(h:FH f q):H8 f=jR 0 q/\EO f=lQ 0 q:=by
 unfold H8 EO jR lQ;rw[jS h,qJ h];exact⟨rfl,rfl⟩
theorem FH.BJ{f:Ad}{q:Rat}(h:FH f q)(a:MK 4000 q):ji f=true:=by
 have:=h.Ce a;unfold qz at this;rw[ze]at this;exact this.1
theorem FH.JW{f:Ad}{q:Rat}(h:FH f q):decide (zh f.1≠0)=decide (q≠0):=by
 rw[h.vn,decide_eq_decide,wm,yk]
theorem FH.cmp{f g:Ad}{p q:Rat}(a:FH f p)(e:FH g q):DD f g=if p<q then -1 else if q<p then 1 else 0:=by
 unfold DD Cd;rw[a.vn,a.vd,e.vn,e.vd];have b:p<q↔p.num*(q.den:Int)<q.num*(p.den:Int):=Rat.lt_iff ..;have h:q<p↔q.num*(p.den:Int)<p.num*(q.den:Int):=Rat.lt_iff ..;by_cases c:p<q
 ·rw[wd c,wd<|b.1 c]
 ·rw[wc c,wc<|fun k=>c<|b.2 k];by_cases d:q<p
  ·rw[wd d,wd<|h.1 d]
  ·rw[wc d,wc<|fun k=>d<|h.2 k]
end Go.Pe
namespace Go.Sp
theorem rI{n:Int}(h:0<=n):n+1<=2^(F9 n).toNat:=by
 unfold F9;split
 ·have:n=0:=ae
  subst this;decide
 ·have b:=Nat.lt_log2_self (n:=n.toNat);have e:((n.toNat.log2:Int)+1).toNat=n.toNat.log2+1:=ae
  have a:((2^(n.toNat.log2+1):Nat):Int)=(2:Int)^(n.toNat.log2+1):=yd ..;rw[e, <-a];generalize 2^(n.toNat.log2+1)=P at*;omega
theorem AeL{w:List Int}(f:AD Av w){k:Nat}(g:w.length=k+1):val Av w<(Av:Int)^k*(w.getD k 0+1):=by
 have a:=CG (Av:Int) w k ae;have e:=BD (b:=(Av:Int)) af<|AW f k;rw[List.length_take,Nat.min_eq_left ae]at e;have d:w.drop k=[w.getD k 0]:=by
  rw[CI ae,List.drop_eq_nil_of_le ae]
 rw[d]at a;have c:val Av [w.getD k 0]=w.getD k 0:=by
  show w.getD k 0+(Av:Int)*0=_;omega
 rw[c]at a;rw[Int.mul_add,y8];omega
theorem Zy(k:Nat):((10^k:Nat):Int)=(10:Int)^k:=by rw[yd];rfl
theorem oH(k:Nat):2^(3*k)<=10^k:=by rw[Nat.pow_mul];exact Nat.pow_le_pow_left af k
theorem wI(k:Nat):(2:Int)^(3*k)<=10^k:=by
 have a:((2^(3*k):Nat):Int)<=((10^k:Nat):Int):=jm.2<|oH k;rw[yd,yd]at a;exact a
theorem Abh:(2:Int)^1800<=10^600:=by
 have h:=wI 600;have k:3*600=1800:=rfl;rw[k]at h;exact h
theorem Aa8{a:AL}(h:QW a<=1800):EZ a=false:=by
 have a0:0<=Aj (vI a):=by rw[An];omega
 have i:=Du (b:=Av) af a0;have c:=Gz (b:=Av) af<|Aj<|vI a;have key:Aj (vI a)<2^1800:=by
  unfold QW at h;have i:val Av (BI<|Aj<|vI a)=Aj (vI a):=i;have c:AD Av (BI<|Aj<|vI a):=c;generalize BI (Aj<|vI a)=w at*;rw[<-i];by_cases d:w=[]
  ·subst d;show(0:Int)<_;exact Int.pow_pos af
  ·rw[wc d]at h;obtain⟨k,j⟩:∃k,w.length=k+1:=⟨w.length-1,by have:=List.length_pos_iff.2 d;omega⟩;have m:=AeL c j;have g:=LF (b:=(Av:Int)) af c k;have hp:=rI g.1;have q:=(Go.Pe.UD g.1 (by have:(Av:Int)=18446744073709551616:=rfl;omega)).1;rw[j,Nat.add_sub_cancel,show((k+1:Nat):Int)-1=(k:Int)by omega]at h;have p:(0:Int)<(Av:Int)^k:=Bn af k;have l:=Int.mul_le_mul_of_nonneg_left hp<|qp p;have n:(Av:Int)^k=2^(64*k):=by
    have:(Av:Int)=2^64:=af
    rw[this, <-Int.pow_mul]
   rw[n, <-Int.pow_add]at l;rw[n]at m;have o:(2:Int)^(64*k+(F9<|w.getD k 0).toNat)<=2^1800:=AY af ae;exact yc m<|Int.le_trans l o
 have f:=yc key Abh;unfold EZ Q6;rw[w9];have:(vI a).natAbs<10^600:=by
  rw[An]at f;have e:=Zy 600;rw[<-e]at f;exact qd.mp f
 have:=Et this af;omega
end Go.Sp
namespace Go.Pe
open Sp
open Go.Det
theorem Aak:Cr XX0:=fun g sp h=>by cases h
theorem T197.ok:Ae A1 197 Vu:=by
 refine C3 Aak<|fun(i:Z×Z) a=>?_;obtain⟨s,t⟩:=i;have a:(decide (t=[45])&&decide (s.length<=1000000))=true:=a;rw[ze,w5,w5]at a;obtain⟨rfl,hl⟩:=a;have b:∀v ob,v=A9 s->Ac Vu (s,[45]) (.dat .str v) ob:=fun v ob h=>qi rfl rfl h
 refine yy (T197.Ai s [45]) ?_;conv=>zeta
 cases s with
 |nil=>exact qu rfl (zo<|b _ _ rfl)
 |cons c r=>
  have j:yq (([(45:UInt8)].length:Nat):Int)=1:=rfl;have k:qe 1 (c::r)=[c]:=rfl;have g:qe (Nat.sub (c::r).length 1) (List.drop 1 (c::r))=r:=qv<|z6 _;have f:(c::r).getD 0 0=c:=rfl;rw[j,k,g];refine zf (w4<|by simp;omega) (zf (by simp)<|qh (fun d=>zf (by simp)<|zo<|b _ _ ?_)<|fun d=>zo<|b _ _ ?_)
  ·have e:c=45:=by simpa using d
   unfold A9;rw[f,wd e];rfl
  ·have e:c≠45:=by simpa using d
   unfold A9;rw[f,wc e]
theorem AcD:Cr XX1:=Aa (T173.ok Gx)<|Aa T229.ok AI
theorem Abf{a:AL}(h:Bk a=true):(BI<|Aj<|zh a).length<=9000:=by
 have b:=bounds h;have h0:=AS<|zh a;refine PQ Av af 9000 _ _ ?_;have e:((Av^9000:Nat):Int)=(Av:Int)^9000:=UB 9000;rw[<-e]at b;generalize Av^9000=P at*;omega
theorem T208.ok:Ae A1 208 qN:=by
 refine C3 AcD<|fun(a:Int×List Int) d=>?_;have d:Bk a=true:=d;have i:=(Cg d).1;have m:=Abf d;have f:=Gz (b:=Av) af<|Aj<|zh a;have f:AD Av (BI<|Aj<|zh a):=f;have e:∀v ob,v=QW a->Ac qN a (.dat i64 v) ob:=fun v ob h=>qi rfl rfl h
 unfold QW at e;refine yy (T208.Ai a)<|zf i ?_;generalize BI (Aj<|zh a)=w at*;refine qh (fun c=>zo<|e _ _ ?_)<|fun c=>?_
 ·have:w=[]:=yp.1 (by have:(w.length:Int)=0:=(by simpa using c);omega);rw[wd this]
 ·have c:(w.length:Int)≠0:=by simpa using c
  have k:w≠[]:=by rintro rfl;exact c rfl
  have g:=A3 f<|w.length-1;have j:zd .i64 ((w.length:Int)-1)=((w.length-1:Nat):Int):=by rw[wr _ ae ae];omega
  have l:=UD (Sp.Bd g).1 (Sp.Bd g).2;rw[j,yw,wr (64*_) ae ae,wr _ ae ae];refine zf (ad ae ae)<|zf g<|zo<|e _ _ ?_;rw[wc k];omega
theorem xQ:Cr Aij:=Aa T208.ok<|Aa (T170.ok nT)<|Aa T197.ok AI
theorem oM(n:Int):A9 (A2 n)=zc n.natAbs:=(Dp n).2.1
theorem R4{a:AL}(h:Bk a=true):(A2<|zh a).length<=180001:=by
 have b:=bounds h;have c:=An<|zh a;have d:(zc (zh a).natAbs).length<=180000:=IF ⟨by rw[<-c];exact b⟩;unfold A2 zm;split
 ·rw[zp];omega
 ·rw[show(zh a).toNat=(zh a).natAbs by omega];omega
theorem T169.ok:Ae A1 169 dU:=by
 refine C3 xQ<|fun(a:Int×List Int) b=>?_;have b:Bk a=true:=b;have f:=R4 b;have e:∀v ob,v=EZ a->Ac dU a (.dat .bool v) ob:=fun v ob h=>qi rfl rfl h
 have d:∀v ob,v=EZ a->Ac dU a (.bl v) ob:=fun v ob h=>qi rfl rfl h
 refine yy (T169.Ai a) (zf b<|qh (fun c=>zf b<|zf (Ab (w4 rfl)<|w4<|by show(A2<|zh a).length<=1000000;omega)<|zo<|e _ _ ?_)<|fun c=>zo<|d _ _ ?_)
 ·show decide (((A9<|A2<|zh a).length:Int)>600)=EZ a;rw[oM];unfold EZ Q6;rw[decide_eq_decide];omega
 ·have c:=w7 c;have c:¬QW a>1800:=c;exact(Aa8 ae).symm
theorem rA{a:AL}(h:PF a=true):Bk a=true:=by
 unfold PF at h;rw[ze,w5]at h;unfold Bk;rw[h.1,ye];exact w4 ae
theorem yL{a:Ad}(h:ji a=true):Bk a.1=true/\Bk a.2=true:=by
 unfold ji at h;rw[ze]at h;exact⟨rA h.1,rA h.2⟩
theorem dN:Cr XX2:=Aa T169.ok<|Aa T123.ok<|Aa (T170.ok nT) AI
theorem T118.ok:Ae A1 118 eP:=by
 refine C3 dN<|fun(a:(Int×List Int)×(Int×List Int)) ha=>?_;obtain⟨b,d⟩:=yL (a:=a) ha;refine yy (T118.Ai a)<|zf b<|qh (fun c=>zo<|qi rfl rfl ?_)<|fun c=>zf d<|zo<|qi rfl rfl ?_
 ·have c:EZ a.1=true:=c;show true=(EZ a.1||EZ a.2);rw[c];rfl
 ·have c:EZ a.1=false:=c;show EZ a.2=(EZ a.1||EZ a.2);rw[c];rfl
theorem T119.ok:Ae A1 119 uK:=by
 refine C3 dN<|fun(a:(Int×List Int)×(Int×List Int)) ha=>?_;obtain⟨b,d⟩:=yL (a:=a) ha;have l1:=R4 b;have e:=R4 d;refine yy (T119.Ai a) (zf rfl (qh (fun c=>zf b<|zo<|qi rfl rfl ?_)<|fun c=>zf b<|zf (w4<|by show(A2<|zh a.1).length+1<=_;omega)<|zf d<|zf (w4<|by rw[zj,List.length_singleton];show(A2<|zh a.1).length+1+(A2<|zh a.2).length<=_;omega)<|zo<|qi rfl rfl ?_))
 ·have c:Di a.2=true:=c;show A2 (zh a.1)=Li a;unfold Li;rw[wd c]
 ·have c:Di a.2=false:=c;show A2 (zh a.1)++[47]++A2 (zh a.2)=Li a;unfold Li;rw[wc (by rw[c];decide),yf];rfl
theorem dE:Cr XX3:=Aa T163.ok<|Aa T134.ok AI
namespace T270
theorem As{Q:PV->Ob->Prop}(l:List Z)(k:l.length<=1000)(b:∀s∈l,s.length<=1000000):∀(r:List Z) (i:Nat),l.drop i=r->i<=l.length->(∀ob,Q (.dat i64<|B8 r) ob)->Ends XX3 (L1 l (l.length:Int) (i:Int)) Q
 |[],i,h,e,a=>by
  have:=drop_nil h e;exact qt (Al ..) (qu (w8 ae)<|zo<|a _)
 |x::r,i,h,e,a=>by
  obtain⟨f,j,n⟩:=drop_cons (d:=([]:Z)) h;have g:x∈l:=List.mem_of_mem_drop (by rw[h];exact qf ..);have m:=wn (i:=i) ae;unfold B8 at a;refine qt (Al ..) ?_;conv=>zeta
  rw[yw,j,m];refine zf (w4 ae) (zf (ad ae ae)<|zf (w4<|b x g)<|qh (fun c=>zo ?_)<|fun c=>As l k b r (i+1) n f ?_)
  ·have c:Ao x≠0:=by simpa using c
   rw[wd c]at a;exact a _
  ·have c:Ao x=0:=by simpa using c
   rw[wc<|by rw[c];decide]at a;exact a
theorem ok:Ae A1 270 gB:=by
 refine C3 dE<|fun(l:List Z) a=>?_;have a:(decide (l.length<=1000)&&l.all fun s=>decide (s.length<=1000000))=true:=a;rw[ze,w5,List.all_eq_true]at a;exact yy (Ai l)<|As l a.1 (fun s h=>w6<|a.2 s h) l 0 rfl (Nat.zero_le _) (fun ob=>qi rfl rfl rfl)
end T270
theorem T106.ok:Ae A1 106 qF:=by
 refine C3 dE<|fun(a:(Int×List Int)×(Int×List Int)) ha=>?_;exact yy (T106.Ai a)<|zf ha<|zo<|qi rfl rfl rfl
theorem T57.ok:Ae A1 57 cF:=by
 refine C3 Hx<|fun(n:Int) _=>?_;exact yy (T57.Ai n)<|zf rfl (zf rfl (zo<|qi rfl rfl rfl))
theorem Afc{f:Ad}{q:Rat}(h:FH f q){e:Int}(a:e=0):(H8 f,EO f)=(jR e q,lQ e q):=by
 rw[a,(eV h).1,(eV h).2]
theorem FH.div{f g:Ad}{p q:Rat}(a:FH f p)(c:FH g q)(sp:MK 4000 p)(b:MK 4000 q)(d:MK 4000 q⁻¹)(h0:q≠0):FH (LJ f g) (p/q):=by
 rw[Rat.div_def];exact FH.mul a (FH.inv c b h0) sp d
theorem K3(x y:Int):qn [x,y]=if x≠0 then x else y:=by
 by_cases h:x≠0
 ·rw[wd h];unfold qn
  simp[h]
 ·rw[wc h];have h:x=0:=ae
  subst h;unfold qn qn qn
  simp;intro k;exact k.symm
theorem Ach(n:Int):BA n=[]:=by unfold BA;split<;>rfl
theorem FF{n:Int}(h:Cn n=true):Bk (n,BA n)=true/\zh (n,BA n)=n:=by
 rw[Ach];have hr:=Hq h;refine⟨?_,BZ rfl⟩;unfold Bk;rw[show ql (n,([]:List Int))=true from MV h,ye];rfl
theorem AhB(n:Int)(h:Cn n=true):FH ((n,BA n),(1,BA 1)) (n:Rat):=by
 obtain⟨a,b⟩:=FF h;obtain⟨h3,h4⟩:=FF (n:=1) rfl;exact⟨(Cg a).1,(Cg h3).1,b.trans (qy n).symm,h4.trans rfl⟩
section
open List Int Prod
namespace T30
def T(a b:Z):Tr:=tree sR false 9 30<|Af ([zk,zk]) (a,b)
def L1(v0 v1:Z):Tr:=re ((T [] []).L.L.L.R)<|Ap 63 [(0,.dat zk v0),(1,.dat zk v1)] [] 0
theorem Ai(a b:Z):T a b=let c:=zd .i64<|zd .i64 (pY a*Xv b)+zd .i64 (pY b*Xv a);let b':=zd .i64<|Xv a*Xv b;.ck (AR a) (.ck (AR b)<|.ite (EM a) (.ite (EM b) (.ck (Cn c&&Cn b'&&decide (zd .i64 (Xv a*Xv b)≠0))<|.leaf (.dat zk<|CZ c b') [])<|L1 a b)<|L1 a b):=by kernel_rfl
theorem Al(v0 v1:Z):stepT sR (L1 v0 v1)=let b':=(I8 (B3 v0,BS v0) (By v1,Bt v1),I1 (B3 v0,BS v0) (By v1,Bt v1));let a:=(I8 (B3 v1,BS v1) (By v0,Bt v0),I1 (B3 v1,BS v1) (By v0,Bt v0));let b:=(I8 (By v0,Bt v0) (By v1,Bt v1),I1 (By v0,Bt v0) (By v1,Bt v1));let c:=(Pb b' a,Pn b' a);.ck (D8 v0) (.ck (D8 v1)<|.ck (CP (B3 v0,BS v0)&&CP (By v1,Bt v1))<|.ck (CP (B3 v1,BS v1)&&CP (By v0,Bt v0))<|.ck (CP b'&&CP a)<|.ck (CP (By v0,Bt v0)&&CP (By v1,Bt v1))<|.ck (CP c&&CP b&&decide (Sp.vR b≠0))<|.leaf (.dat zk<|JL c b) []):=by kernel_rfl
end T30
namespace T74
def T(a b:Z):Tr:=tree sR false 9 74<|Af ([zk,zk]) (a,b)
def L1(v0 v1:Z):Tr:=re ((T [] []).L.L.L.R)<|Ap 55 [(0,.dat zk v0),(1,.dat zk v1)] [] 0
theorem Ai(a b:Z):T a b=let c:=zd .i64<|pY a*pY b;let b':=zd .i64<|Xv a*Xv b;.ck (AR a) (.ck (AR b)<|.ite (EM a) (.ite (EM b) (.ck (Cn c&&Cn b'&&decide (zd .i64 (Xv a*Xv b)≠0))<|.leaf (.dat zk<|CZ c b') [])<|L1 a b)<|L1 a b):=by kernel_rfl
theorem Al(v0 v1:Z):stepT sR (L1 v0 v1)=let a:=(I8 (By v0,Bt v0) (By v1,Bt v1),I1 (By v0,Bt v0) (By v1,Bt v1));let b':=(I8 (B3 v0,BS v0) (B3 v1,BS v1),I1 (B3 v0,BS v0) (B3 v1,BS v1));.ck (D8 v0) (.ck (D8 v1)<|.ck (CP (B3 v0,BS v0)&&CP (B3 v1,BS v1))<|.ck (CP (By v0,Bt v0)&&CP (By v1,Bt v1))<|.ck (CP b'&&CP a&&decide (Sp.vR a≠0))<|.leaf (.dat zk<|JL b' a) []):=by kernel_rfl
end T74
namespace T183
def T(a:Z):Tr:=tree sR false 9 183<|Af ([zk]) a
theorem Ai(a:Z):T a=.ck (D8 a) (.ck (CP (By a,Bt a)&&CP (B3 a,BS a)&&decide (Sp.vR (B3 a,BS a)≠0))<|.leaf (.dat zk<|JL (By a,Bt a) (B3 a,BS a)) []):=by kernel_rfl
end T183
namespace T31
def T(a b:Z):Tr:=tree XR7 false 9 31<|Af ([zk,zk]) (a,b)
theorem Ai(a b:Z):T a b=.cd (length b<=1000000) (.ck (AR a&&AR (M6 b))<|.leaf (.dat zk<|BW a<|M6 b) []):=by kernel_rfl
end T31
namespace T130
def T(a b:Z):Tr:=tree XR7 false 9 130<|Af ([zk,zk]) (a,b)
theorem Ai(a b:Z):T a b=.ck (XC b) (.ck (AR a&&AR (UJ b))<|.leaf (.dat zk<|DI a<|UJ b) []):=by kernel_rfl
end T130
namespace T32
def T(a b:Z):Tr:=tree XR8 false 9 32<|Af ([zk,zk]) (a,b)
theorem Ai(a b:Z):T a b=.ck (AR a&&BV b) (.cd (length (DS a b)<=1000000)<|.leaf (.dat i64<|Gr<|DS a b) []):=by kernel_rfl
end T32
namespace T137
def T(a:Z):Tr:=tree XR8 false 9 137<|Af ([zk]) a
theorem Ai(a:Z):T a=.cd (length a<=1000000) (.leaf (.dat Sh.bool<|A8 a==(length a:Int)) []):=by kernel_rfl
end T137
namespace T129
def T(a:Z):Tr:=tree XR9 false 9 129<|Af ([zk]) a
theorem Ai(a:Z):T a=let b:=(J5 (B3 a,BS a) (By a,Bt a),JR (B3 a,BS a) (By a,Bt a));.cd (length a<=1000000) (.ite (I0 a) (.leaf (.dat zk a) [])<|.ck (D8 a)<|.ck (CP (B3 a,BS a)&&CP (By a,Bt a)&&decide (0<Sp.vR (By a,Bt a)))<|.ck (CP b)<|.leaf (.dat zk<|Gt b) []):=by kernel_rfl
end T129
end
end Go.Pe
