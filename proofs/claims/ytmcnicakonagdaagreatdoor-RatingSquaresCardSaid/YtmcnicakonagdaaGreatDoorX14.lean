import Derived.Test.YtmcnicakonagdaaGreatDoorX11
import Derived.Test.YtmcnicakonagdaaGreatDoorX13
import Derived.Test.YtmcnicakonagdaaGreatDoorX09
import Derived.Test.YtmcnicakonagdaaGreatDoorX12
import Derived.Test.YtmcnicakonagdaaGreatDoorX10
/- A part of a proof (no law is stated here). Made by program out of texts by AI agents. -/
noncomputable section
open Go.IntKind renaming wrap -> zc, u64 -> zw, i64 -> yj
open Go.Lib renaming decDigits -> zd, itoa -> z6, decDigits_length -> yu, decDigits_one -> y8
open Go.Pe.Sh renaming list -> ze, str -> zf, bool -> zj, pair -> z7, int -> yd, nlist -> yk
open Int renaming le_of_lt -> zg, mul_le_mul_of_nonneg_right -> zh, natAbs_natCast -> zp, natCast_pow -> zy, mul_pos -> zz, pow_pos -> yc, mul_nonneg -> yh, pow_add -> yi, mul_le_mul -> yq, mul_le_mul_of_nonneg_left -> yw, lt_of_lt_of_le -> yz, natCast_add -> y7, natAbs_mul -> y9, pow_nonneg -> qf, one_mul -> qg, tmod -> qh, tdiv -> qt, pow_succ -> qw, ofNat_lt -> qz, natAbs_sign_of_ne_zero -> jc, mul_assoc -> jj, zero_mul -> j7, add_comm -> j8, le_trans -> ke
open List renaming mem_map -> zi, length_cons -> zm, length_map -> zq, mem_cons_self -> zr, mem_cons_of_mem -> zt, length_append -> ye, map_cons -> yn, length_flatten -> qj, append_assoc -> jh, length_take -> jl, length -> j5, mem_cons -> j6
open Bool renaming and_eq_true -> zk, true_and -> qk
open Prod renaming fst -> zl, snd -> yb
open Rat renaming intCast_mul -> zn, mul_assoc -> zx, intCast_le_intCast -> ya, mul_le_mul_of_nonneg_right -> yf, num_divInt_den -> yo, div_mul_cancel -> yp, le_of_mul_le_mul_right -> yr, intCast_pos -> yt, intCast_eq_zero_iff -> yv, mul_div_cancel -> yy, neg_le_neg -> qe, mul_comm -> qi, intCast_add -> ql, neg_mul -> qn, divInt -> qq, num_eq_zero -> qu, le_trans -> qv, ne_of_gt -> qx, sub_eq_add_neg -> je, mul_nonneg -> jf, divInt_eq_div -> ji, intCast_zero -> jk, intCast_neg -> j0, le_total -> j9, neg_zero -> kc, add_zero -> kf, mul_zero -> kg
open Go.Pe.Ends renaming tt -> zo, leaf -> yg, eq -> q9, ite -> jm
open Nat renaming add -> zu, lt_of_lt_of_le -> yx, le_refl -> qc, pow_le_pow_right -> qd, lt_of_le_of_lt -> qm, sub -> qy, pow_succ -> jt, div_le_self -> jz
open Go.Sp renaming vI -> z8, rN -> qo, rW -> qp, first -> jg, BL -> kh, EZ -> ki
open Go.Pe.Ad renaming of -> jo
namespace Go.Sp
theorem GY{n d:Int}(hd:d≠0):(qq n d).num.natAbs<=n.natAbs/\(qq n d).den<=d.natAbs:=by
 rw[Rat.num_divInt,Rat.den_divInt,wc hd];refine⟨?_,jz _ _⟩;refine Nat.le_trans (Int.natAbs_ediv_le_natAbs _ _) ?_;rw[y9,jc hd,Nat.one_mul];exact qc _
theorem F8{n d:Int}{k:Nat}(hd:d≠0)(h1:n.natAbs<10^k)(h2:d.natAbs<10^k):C0 k (qq n d):=
 ⟨qm (GY hd).1 h1,qm (GY hd).2 h2⟩
theorem C0.mono{j k:Nat}{q:Rat}(h:C0 j q)(hk:j<=k):C0 k q:=
 ⟨yx h.1 (qd (by decide) hk),yx h.2 (qd (by decide) hk)⟩
theorem DH{a b i j:Nat}(h1:a<10^i)(h2:b<10^j):a*b<10^(i+j):=by
 rw[Nat.pow_add];exact qm (Nat.mul_le_mul_left _ (Nat.le_of_lt h2)) ((Nat.mul_lt_mul_right (Nat.pow_pos (by decide))).2 h1)
theorem HH(q:Rat):(q.den:Int)≠0:=by have:=q.den_pos;omega
theorem C0.mul{p q:Rat}{i j:Nat}(hp:C0 i p)(hq:C0 j q):C0 (i+j) (p*q):=by
 have h:=Rat.divInt_mul_divInt p.num q.num (d₁:=p.den) (d₂:=q.den);rw[yo,yo]at h;rw[h];refine F8 ?_ ?_ ?_
 ·exact Int.mul_ne_zero (HH p) (HH q)
 ·rw[y9];exact DH hp.1 hq.1
 ·rw[y9,zp,zp];exact DH hp.2 hq.2
theorem C0.add{p q:Rat}{i j:Nat}(hp:C0 i p)(hq:C0 j q):C0 (i+j+1) (p+q):=by
 have h:=Rat.divInt_add_divInt p.num q.num (HH p) (HH q);rw[yo,yo]at h;rw[h];have a1:=DH hp.1 hq.2;have a2:=DH hq.1 hp.2;have a3:=DH hp.2 hq.2;rw[Nat.add_comm]at a2;refine F8 (Int.mul_ne_zero (HH p) (HH q)) ?_ ?_
 ·refine qm (Int.natAbs_add_le _ _) ?_;rw[y9,y9,zp,zp,jt];omega
 ·rw[y9,zp,zp,jt];omega
theorem C0.neg{q:Rat}{k:Nat}(h:C0 k q):C0 k (-q):=by
 unfold C0 at*;rw[Rat.neg_num,Rat.neg_den,Int.natAbs_neg];exact h
theorem C0.sub{p q:Rat}{i j:Nat}(hp:C0 i p)(hq:C0 j q):C0 (i+j+1) (p-q):=by
 rw[je];exact hp.add hq.neg
theorem C0.inv{q:Rat}{k:Nat}(h:C0 k q)(h0:q≠0):C0 k q⁻¹:=by
 have e:=Rat.inv_divInt q.num q.den;rw[yo]at e;rw[e];exact F8 (fun x=>h0 (qu.mp x)) (by rw[zp];exact h.2) h.1
theorem C0.div{p q:Rat}{i j:Nat}(hp:C0 i p)(hq:C0 j q)(h0:q≠0):C0 (i+j) (p/q):=by
 rw[Rat.div_def];exact hp.mul (hq.inv h0)
def OW(n:Int):Bool:=decide (600<(zd n.natAbs).length)
def P3(q:Rat):Bool:=OW q.num||OW q.den
theorem Dl{u k:Nat}(h:u<10^k)(hk:1<=k):(zd u).length<=k:=by
 rw[yu];obtain⟨j,rfl⟩:∃j,k=j+1:=⟨k-1,by omega⟩;exact Go.Pe.NA j u h
theorem BP(u:Nat){k:Nat}(h:(zd u).length<=k):u<10^k:=by
 rw[yu]at h;exact yx (Lib.lt_pow_nDigits u) (qd (by decide) h)
theorem WX{q:Rat}:P3 q=false↔C0 600 q:=by
 unfold P3 OW C0;rw[Bool.or_eq_false_iff,w9,w9];refine⟨fun h=>⟨BP (k:=600) _ (by omega),?_⟩,fun h=>⟨?_,?_⟩⟩
 ·have:=BP (q.den:Int).natAbs (k:=600) (by omega);rw[zp]at this;exact this
 ·have:=Dl h.1 (by decide);omega
 ·have:=Dl h.2 (by decide);rw[zp];omega
theorem Pt{q:Rat}{k:Nat}(h:C0 k q)(hk:1<=k):(AW q).length<=2*k+2:=by
 have h1:=Dl h.1 hk;have h2:=Dl h.2 hk;have h3:(z6 q.num).length<=k+1:=by
  unfold z6;split
  ·rw[zm];omega
  ·rw[show q.num.toNat=q.num.natAbs by omega];omega
 unfold AW;split
 ·omega
 ·rw[ye,zm];omega
def Bk(s:List UInt8):Bool:=decide (AW (Ar s)=s)&&decide (s.length<=4000)
theorem Ho{s:List UInt8}(h:Bk s=true):AW (Ar s)=s/\s.length<=4000:=by
 unfold Bk at h;rwa [zk,w5,w5]at h
theorem QI{q:Rat}{k:Nat}(h:C0 k q)(hk:k<=1999):Bk (AW q)=true:=by
 have hl:=Pt (h.mono hk) (by decide);unfold Bk;rw[Du,w4 rfl,w4 (by omega)];rfl
theorem J7{s:List UInt8}(h:Az s=0):Bk s=true/\C0 600 (Ar s):=by
 obtain⟨h1,_,_,h4⟩:=Mg h;exact⟨by rw[<-h1];exact QI h4 (by decide),h4⟩
theorem Sc{s:List UInt8}(h:Bk s=true):C0 4000 (Ar s):=by
 obtain⟨h1,h2⟩:=Ho h;have e:(AW (Ar s)).length<=4000:=by rw[h1];exact h2
 generalize Ar s=q at*;have a:=BP q.num.natAbs (qc _);have b:=BP q.den (qc _);have h3:(zd q.num.natAbs).length<=(z6 q.num).length:=by
  unfold z6;split
  ·rw[zm];omega
  ·rw[show q.num.toNat=q.num.natAbs by omega];exact qc _
 unfold AW at e;split at e
 ·next c=>exact⟨BP (k:=4000) _ (by omega),by rw[c];exact Ki 4000 (by decide)⟩
 ·rw[ye,zm]at e;exact⟨BP (k:=4000) _ (by omega),BP (k:=4000) _ (by omega)⟩
theorem Vv{q:Rat}:Az (AW q)=if P3 q=true then 4 else 0:=by
 obtain⟨c1,c2,c3⟩:=FG q;obtain⟨p1,p2,p3,p4⟩:=RE (AW q);obtain⟨i1,i2,i3,i4⟩:=Dm q.num;have hA:Ay (AZ (AW q))=zd q.num.natAbs:=by rw[p1,c1,i2]
 have hB:AN (AZ (AW q))=if q.den=1 then[]else zd q.den:=by rw[p2,c2]
 have hC:Bs (AZ (AW q))=decide (q.den≠1):=by rw[p3,c3]
 have hP:preB (AW q)=decide (q.num<0):=by rw[<-p4,c1,i3]
 have h48:∀n:Nat,zd n=[48]->n=0:=fun n h=>by
  have:=HI n;rw[h]at this;have:(0:Int)=n:=this;omega
 have h49:∀n:Nat,zd n=[49]->n=1:=fun n h=>by
  have:=HI n;rw[h]at this;have:(1:Int)=n:=this;omega
 have hd:=q.den_pos;have hf:Gi (AW q)=true:=by
  unfold Gi;rw[hA,hB,hC,hP,Vj,qk,zk];refine⟨?_,?_⟩
  ·by_cases h:q.num<0
   ·have z:zd q.num.natAbs≠[48]:=fun k=>by have:=h48 _ k;omega
    rw[w4 h,w4 z];rfl
   ·rw[w8 h];rfl
  ·by_cases h:q.den=1
   ·rw[w8 (not_not_intro h)];rfl
   ·have z:zd q.den≠[48]:=fun k=>by have:=h48 _ k;omega
    have y:zd q.den≠[49]:=fun k=>h (h49 _ k)
    rw[w4 h,wc h,Vj,w4 z,w4 y];rfl
 unfold Az;rw[wc (by rw[hf];decide),hA,hB,hC];have hb:P3 q=true↔600<(zd q.num.natAbs).length\/600<(if q.den=1 then([]:List UInt8)else zd q.den).length:=by
  unfold P3 OW;rw[Bool.or_eq_true,w5,w5,zp];by_cases h:q.den=1
  ·rw[wd h,h,y8 (show 1<10 by decide)];simp
  ·rw[wc h]
 by_cases h:P3 q=true
 ·rw[wd (hb.1 h),wd h]
 ·rw[wc (fun k=>h (hb.2 k)),wc h];refine wc fun k=>?_
  obtain⟨k1,k2⟩:=k;have k1:q.den≠1:=w6 k1;apply k2;unfold sJ mT;rw[hA,hB,wc k1,HI,HI,FA];have hr:=q.reduced;have:Int.gcd ((q.num.natAbs:Nat):Int) (q.den:Int)=1:=hr;rw[this];rfl
theorem QQ(q:Rat):Hf (AW q)=Ou q.num:=by
 have h0:AW q=[48]↔q=0:=by
  have:AW (0:Rat)=[48]:=by
   unfold AW;rw[wd (show Rat.den 0=1 from rfl)];show z6 0=[48];unfold z6;rw[wc (by decide),show(0:Int).toNat=0 from rfl,y8 (by decide)];rfl
  rw[<-this];exact⟨Z9,fun h=>by rw[h]⟩
 unfold Hf Ou;by_cases hz:q=0
 ·rw[wd (h0.2 hz),hz];rfl
 ·rw[wc (fun h=>hz (h0.1 h))];have hn:q.num≠0:=fun h=>hz (qu.mp h)
  have hg:(AW q).getD 0 0=(z6 q.num).getD 0 0:=by
   unfold AW;split
   ·rfl
   ·have:z6 q.num≠[]:=by unfold z6;split;exact List.cons_ne_nil _ _;exact Wh _
    cases hi:z6 q.num with
    |nil=>exact wh hi this
    |cons c r=>rfl
  rw[hg];unfold z6;by_cases h:q.num<0
  ·rw[wd h,wd h];rfl
  ·rw[wc h,wc h,wc (Fx (DP _)),wd (by omega)]
theorem UP(n:Int)(h:n≠0):z6 (-n)=if n<0 then(z6 n).drop 1 else 45::z6 n:=by
 unfold z6;by_cases c:n<0
 ·rw[wc (by omega),wd c,wd c,show(-n).toNat=n.natAbs by omega];rfl
 ·rw[wd (by omega),wc c,wc c,show(-n).natAbs=n.toNat by omega]
theorem dM(q:Rat):Lm (AW q)=AW (-q):=by
 have hs:=QQ q;unfold Hf at hs;unfold Lm;by_cases h0:AW q=[48]
 ·rw[wd h0]at hs ⊢;have:q.num=0:=by
   unfold Ou at hs;split at hs
   ·exact wh hs (by decide)
   ·split at hs
    ·exact wh hs (by decide)
    ·omega
  have:q=0:=qu.mp this;rw[this];rfl
 ·rw[wc h0]at hs ⊢;have hn:q.num≠0:=by
   intro h;rw[h]at hs;split at hs<;>exact wh hs (by decide)
  have e:AW (-q)=if q.num<0 then(AW q).drop 1 else 45::AW q:=by
   unfold AW;rw[Rat.neg_num,Rat.neg_den,UP _ hn];by_cases c:q.num<0
   ·rw[wd c,wd c];have:z6 q.num=45::zd q.num.natAbs:=by unfold z6;rw[wd c]
    rw[this];split<;>rfl
   ·rw[wc c,wc c];split<;>rfl
  rw[e];unfold Ou at hs;by_cases c:q.num<0
  ·rw[wd c]at hs ⊢;split at hs
   ·next k=>rw[wd k]
   ·exact wh hs (by decide)
  ·rw[wc c,wd (show q.num>0 by omega)]at hs;rw[wc c];split at hs
   ·exact wh hs (by decide)
   ·next k=>rw[wc k]
open Go.Lib
theorem Mh:∀(f n l:Nat) (acc:List UInt8),l<=acc.length->n<10^f->Hv f n l acc=if n=0 then acc else decDigits n++acc
 |0,n,l,acc,_,hn=>by rw[Nat.pow_zero]at hn;rw[wd (by omega)];rfl
 |f+1,n,l,acc,hl,hn=>by
  rw[jt]at hn;unfold Hv;by_cases h:n=0
  ·rw[wd ⟨h,hl⟩,wd h]
  ·rw[wc (fun k=>h k.1),wc h,Mh f (n/10) l _ (by rw[zm];omega) (by omega)];by_cases h2:n/10=0
   ·rw[wd h2,decDigits_one (by omega),show n % 10=n by omega];rfl
   ·have e:=FE (n/10) (n % 10) (by omega) (by omega);rw[show 10*(n/10)+n % 10=n by omega]at e;rw[wc h2,e,jh];rfl
theorem bF{d:Nat}(h:d<10):Gd 1 d=[UInt8.ofNat (48+d)]:=by
 unfold Gd;rw[nDigits_small h,decDigits_one h];rfl
theorem Tw:∀(k f n l:Nat) (acc:List UInt8),acc.length+(k+1)=l->n<10^(k+1)->k+1<=f->Hv f n l acc=Gd (k+1) n++acc
 |k,0,n,l,acc,_,_,h=>by omega
 |0,f+1,n,l,acc,hl,hn,_=>by
  unfold Hv;rw[wc (by omega),bF (by omega),Mh f (n/10) l _ (by rw[zm];omega) (by rw[show n/10=0 by omega];exact Nat.pow_pos (by decide)),wd (by omega),show n % 10=n by omega];rfl
 |k+1,f+1,n,l,acc,hl,hn,hf=>by
  rw[jt]at hn;have e:=Qx (k+1) (n/10) (n % 10) (by omega) (by omega);rw[show 10*(n/10)+n % 10=n by omega]at e;unfold Hv;rw[wc (by omega),Tw k f (n/10) l _ (by rw[zm];omega) (by omega) (by omega),e,jh];rfl
theorem OA{n:Int}(h0:0<=n)(h1:n<9223372036854775808):H5 n 1=decDigits n.toNat:=by
 show Hv 64 n.toNat 1 []=_;unfold Hv;rw[wc (by simp)];rw[Mh 63 (n.toNat/10) 1 _ (by simp) (by omega)];by_cases h:n.toNat<10
 ·rw[wd (by omega),decDigits_one h,show n.toNat % 10=n.toNat by omega]
 ·have e:=FE (n.toNat/10) (n.toNat % 10) (by omega) (by omega);rw[show 10*(n.toNat/10)+n.toNat % 10=n.toNat by omega]at e;rw[wc (by omega),e]
theorem Y8{n:Int}(h0:0<=n)(h1:n<1000000000):H5 n 9=Gd 9 n.toNat:=by
 show Hv 64 n.toNat 9 []=_;rw[Tw 8 64 n.toNat 9 [] rfl (by omega) (by decide),List.append_nil]
def Dc(n d:Int):List UInt8:=AW (qq n d)
theorem Zk(n:Int):itoa n=(if n<0 then[45]else[])++decDigits n.natAbs:=by
 unfold itoa;split
 ·rfl
 ·rw[show n.toNat=n.natAbs by omega];rfl
end Go.Sp
namespace Go.Sp
def vR(a:Bool×List Int):Int:=if a.1=true then -At a.2 else At a.2
def CQ(a:Bool×List Int):Bool:=A9 a.2&&decide (a.2.length<=3000)&&(!a.1||decide (a.2≠[]))
def H2(l:List Int)(i:Int):Int:=l.getD i.toNat 0
def lH(a b:List Int):Bool:=A9 a&&A9 b&&decide (a.length<=9000)&&decide (b.length<=9000)
def Me(a b:List Int):List Int:=BV (At a+At b)
def GH(a b:List Int):List Int:=BV (At a-At b)
def MS(a b:Bool×List Int):Bool:=rN (vR a+vR b)
def MO(a b:Bool×List Int):List Int:=rW (vR a+vR b)
def Hl(a b:Bool×List Int):Bool:=rN (vR a*vR b)
def Hy(a b:Bool×List Int):List Int:=rW (vR a*vR b)
def RP(a:Bool×List Int):Bool:=rN (-vR a)
def RL(a:Bool×List Int):List Int:=rW (-vR a)
def JQ(a:Bool×List Int):List UInt8:=A1 (vR a)
def HY(n d:Bool×List Int):List UInt8:=Dc (vR n) (vR d)
def iU(a:List UInt8):Int:=if DU a=true then ID a else 0
def Tq(a:List UInt8):Int:=if DU a=true then Tj a else 0
def Df(a b:List UInt8):List UInt8:=AW (Ar a+Ar b)
def Kz(a b:List UInt8):List UInt8:=AW (Ar a-Ar b)
def Eb(a b:List UInt8):List UInt8:=AW (Ar a*Ar b)
def rK(a:List UInt8):List UInt8:=AW (Ar a)⁻¹
def Xd(a b:List UInt8):Int:=if Ar a<Ar b then -1 else if Ar b<Ar a then 1 else 0
def E9(a:List UInt8):Bool:=Bk a&&decide (a.length<=3000)
def nzT(a:List UInt8):Bool:=E9 a&&decide (Ar a≠0)
end Go.Sp
namespace Go.Pe
open Sp
open Go.Det
def V5:Ap:=⟨[li,i64],fun i=>decide (0<=(i.2:Int)),[i64],fun i=>H2 i.1 i.2,false⟩
def VW:Ap:=⟨[li,li],fun i=>lH i.1 i.2,[li],fun i=>Me i.1 i.2,false⟩
def VA:Ap:=⟨[li,li],fun i=>lH i.1 i.2&&decide (At i.2<=At i.1),[li],fun i=>GH i.1 i.2,false⟩
def iY:Ap:=⟨[JC,JC],fun i=>CQ i.1&&CQ i.2,[JC],fun i=>(MS i.1 i.2,MO i.1 i.2),false⟩
def X9:Ap:=⟨[JC,JC],fun i=>CQ i.1&&CQ i.2,[JC],fun i=>(Hl i.1 i.2,Hy i.1 i.2),false⟩
def X3:Ap:=⟨[JC],fun a=>CQ a,[JC],fun a=>(RP a,RL a),false⟩
def fO:Ap:=⟨[JC],fun a=>CQ a,[.str],fun a=>JQ a,false⟩
def MD:Ap:=⟨[JC,JC],fun i=>CQ i.1&&CQ i.2&&decide (Sp.vR i.2≠0),[.str],fun i=>HY i.1 i.2,false⟩
def fM:Ap:=⟨[i64,i64],fun i=>CM i.1&&CM i.2&&decide ((i.2:Int)≠0),[.str],fun i=>Dc i.1 i.2,false⟩
def No:Ap:=⟨[.str],fun s=>Bk s,[i64,i64,.bool],fun s=>(iU s,Tq s,DU s),false⟩
def UW:Ap:=⟨[.str,.str],fun i=>Bk i.1&&Bk i.2,[.str],fun i=>Df i.1 i.2,false⟩
def iB:Ap:=⟨[.str,.str],fun i=>Bk i.1&&E9 i.2,[.str],fun i=>Kz i.1 i.2,false⟩
def Ul:Ap:=⟨[.str,.str],fun i=>Bk i.1&&Bk i.2,[.str],fun i=>Eb i.1 i.2,false⟩
def tT:Ap:=⟨[.str],fun s=>Sp.nzT s,[.str],fun s=>rK s,false⟩
def sX:Ap:=⟨[.str,.str],fun i=>Bk i.1&&E9 i.2,[i64],fun i=>Xd i.1 i.2,false⟩
def XR0:A6:=X7 []
def Vt:A6:=X7 [(204,V5),(202,SS)]
def XR2:A6:=X7 [(159,Ig),(160,VW),(161,YA),(162,VA),(163,XH),(157,QF)]
def XR3:A6:=X7 [(154,Pa)]
def lC:A6:=aY [(83,[3,7,9])] [] [(83,[(3,[2,3]),(7,[8,10]),(9,[8,10])])] [(156,X3),(129,K3),(157,QF),(159,Ig),(158,fO)]
def bD:A6:=aY [(81,[3,5,7,11])] [] [(81,[(3,[0,1]),(5,[0,1]),(7,[0,1]),(11,[1,6])])] [(152,Lv),(83,MD),(153,uG),(154,Pa)]
def uC:A6:=aY [(19,[5]),(20,[5])] [] [(19,[(5,[0,1])]),(20,[(5,[0,1])])] [(80,No),(81,fM),(82,Th),(84,iY),(85,X9),(83,MD)]
def XR7:A6:=X7 [(148,tT),(20,Ul),(19,UW),(86,bG)]
def XR8:A6:=X7 [(21,iB),(79,SK),(127,OP),(52,YI),(53,iN),(54,XS)]
def Vx:Ap:=⟨[],fun _=>true,[.bool],fun _=>true,false⟩
theorem jP:Ag Bi 8 Vx:=by
 refine .of0 ⟨by kernel_rfl,BD (by kernel_rfl),fun F h args i hfz hlt hgh hargs _=>?_⟩;have ha:args=[]:=by
  have:=hargs (fun _=>none) 0;simpa [Af,Vx]using this
 subst ha;refine⟨[(.bool true,h)],1,fun m hm=>?_,fun _=>⟨_,rfl⟩,fun x hx=>?_⟩
 ·obtain⟨m',rfl⟩:∃m',m=m'+1:=⟨m-1,by omega⟩;have hq:Bi.spec 8=some fun args h=>bif pH h Ga then(match Il A7 8 args with|some v=>some (v,h)|none=>none)else none:=rfl
  rw[Bl];simp only[hq,vO hgh,we];rfl
 ·cases List.mem_singleton.1 hx;exact⟨qc _,fun _ _=>rfl,hlt,F,fun _ _ h=>h,fun _ _ h=>.inl h,hfz,fun ρ N=>DN _⟩
end Go.Pe
namespace Go.Sp
def OU(a:AT):Int:=if Bw (Ae (vI a))=[]then 0 else 64*((Bw (Ae (vI a))).length-1)+E7 ((Bw (Ae (vI a))).getD ((Bw (Ae (vI a))).length-1) 0)
def Ex(a:AT):Bool:=OW (vI a)
def It(a:Al):Bool:=Ex a.1||Ex a.2
def JD(a:Al):List UInt8:=if CR a.2=true then A1 (vI a.1)else A1 (vI a.1)++47::A1 (vI a.2)
def JB(a:Al):List UInt8:=if It a=true then[]else JD a
def Hd(a:Al):Int:=if It a=true then 4 else 0
def Cn:List (List UInt8)->Int
 |[]=>0
 |s::l=>if Az s≠0 then Az s else Cn l
def Qm(a:Al):Int:=Ou (vI a.1)
def Lo(a b:List UInt8):Int:=Cn [a,b]
def jT(e:Int)(q:Rat):List UInt8:=if e≠0 then[]else if P3 q=true then[]else AW q
def iR(e:Int)(q:Rat):Int:=if e≠0 then e else if P3 q=true then 4 else 0
end Go.Sp
namespace Go.Pe
open Sp
open Go.Det
def kT:Ap:=⟨[BN],fun a=>Bc a,[i64],fun a=>OU a,false⟩
def XJ:Ap:=⟨[BN],fun a=>Bc a,[.bool],fun a=>Ex a,false⟩
def SF:Ap:=⟨[.str,.str],fun i=>Sm i.1 i.2,[.str],fun i=>AZ i.1,false⟩
def YD:Ap:=⟨[Bj],fun a=>ki (a:Al),[.bool],fun a=>It a,false⟩
def kV:Ap:=⟨[Bj],fun a=>ki (a:Al),[.str],fun a=>JD a,false⟩
def XN:Ap:=⟨[Bj],fun a=>ki (a:Al),[.str,i64],fun a=>(JB a,Hd a),false⟩
def uD:Ap:=⟨[Bj],fun a=>Sp.Dp (a:Al).1,[i64],fun a=>Qm a,false⟩
def XX0:A6:=X7 []
def XX1:A6:=X7 [(189,Pv),(244,WM)]
def Aat:A6:=X7 [(219,kT),(193,yB),(183,SF)]
def XX2:A6:=X7 [(192,XJ),(145,OC),(193,yB)]
def XX3:A6:=X7 [(69,Gr),(137,JU)]
end Go.Pe
namespace Go.Sp
abbrev BI:=List UInt8×List UInt8
def Fc(s:List UInt8):Al:=((Mv s,PH s),(JY s,L0 s))
def Hw(k:Nat)(t:List BI):Bool:=t.all fun p=>decide (p.1.length<=k)&&decide (p.2.length<=k)
end Go.Sp
namespace Go.Pe
open Go.Det
abbrev Qu:Sh:=.pair .str .str
end Go.Pe
namespace Go.Sp
theorem T7(q:Rat):SZ (AW q)=zd q.den:=by
 obtain⟨_,c2,c3⟩:=FG q;unfold SZ;rw[c2,c3];by_cases h:q.den=1
 ·rw[wc (by simpa using h),h,y8 (by decide)];rfl
 ·rw[wd (w4 h),wc h]
theorem Kp(a b:List UInt8):Lo a b=if Az a≠0 then Az a else Az b:=by
 show(if Az a≠0 then Az a else if Az b≠0 then Az b else 0)=_;by_cases h:Az a≠0
 ·rw[wd h,wd h]
 ·rw[wc h,wc h];by_cases k:Az b≠0
  ·rw[wd k]
  ·rw[wc k];omega
theorem Rr{a b:List UInt8}(h:Lo a b=0):Az a=0/\Az b=0:=by
 rw[Kp]at h;by_cases k:Az a≠0
 ·rw[wd k]at h;exact wh h k
 ·rw[wc k]at h;exact⟨by omega,h⟩
theorem QP:AW 0=[48]:=by
 unfold AW;rw[wd (show Rat.den 0=1 from rfl)];show z6 0=[48];unfold z6;rw[wc (by decide),show(0:Int).toNat=0 from rfl,y8 (by decide)];rfl
theorem NW{s:List UInt8}(h:Bk s=true):s=[48]↔Ar s=0:=by
 obtain⟨h1,_⟩:=Ho h;constructor
 ·rintro rfl;rw[<-QP,Du]
 ·intro e;rw[<-h1,e,QP]
theorem NS{s:List UInt8}(h:E9 s=true):Bk s=true/\s.length<=3000:=by
 unfold E9 at h;rwa [zk,w5]at h
theorem xB{s:List UInt8}(h:nzT s=true):E9 s=true/\Ar s≠0:=by
 unfold nzT at h;rwa [zk,w5]at h
theorem Ve{q:Rat}{k:Nat}(h:C0 k q)(hk:k<=400000):(AW q).length<=1000000:=by
 have:=Pt (h.mono (show k<=k+1 by omega)) (by omega);omega
structure Nu(k:Nat)(s:List UInt8)(q:Rat):Prop where
 t:s=AW q
 z:C0 k q
theorem Nu.mono{i j:Nat}{s:List UInt8}{q:Rat}(h:Nu i s q)(k:i<=j):Nu j s q:=⟨h.t,h.z.mono k⟩
theorem Nu.rat{k:Nat}{s:List UInt8}{q:Rat}(h:Nu k s q):Ar s=q:=by rw[h.t,Du]
theorem Yv{k:Nat}{q:Rat}(h:C0 k q)(hk:k<=600):P3 q=false:=WX.2 (h.mono hk)
theorem Nu.check{k:Nat}{s:List UInt8}{q:Rat}(h:Nu k s q)(hk:k<=600):Az s=0:=by
 rw[h.t,Vv,Yv h.z hk,wc (by decide)]
theorem Nu.num{k:Nat}{s:List UInt8}{q:Rat}(h:Nu k s q)(hk:k<=1999):Bk s=true:=by rw[h.t];exact QI h.z hk
theorem Nu.E9{k:Nat}{s:List UInt8}{q:Rat}(h:Nu k s q)(hk:k<=1400):Sp.E9 s=true:=by
 unfold Sp.E9;rw[h.num (by omega),qk,w5,h.t];have:=Pt (h.z.mono (show k<=k+1 by omega)) (by omega);omega
theorem Nu.len{k:Nat}{s:List UInt8}{q:Rat}(h:Nu k s q)(hk:k<=1999):s.length<=1000000:=by
 rw[h.t];exact Ve h.z (by omega)
theorem WR{k:Nat}{q:Rat}(h:C0 k q)(hk:k<=600):jT 0 q=AW q/\iR 0 q=0:=by
 unfold jT iR;rw[Yv h hk];exact⟨rfl,rfl⟩
theorem Nu.NW{k:Nat}{s:List UInt8}{q:Rat}(h:Nu k s q)(hk:k<=1999):s=[48]↔q=0:=by
 rw[Sp.NW (h.num hk),h.rat]
theorem Nu.cmp{i j:Nat}{a b:List UInt8}{p q:Rat}(ha:Nu i a p)(hb:Nu j b q):Xd a b=if p<q then -1 else if q<p then 1 else 0:=by
 unfold Xd;rw[ha.rat,hb.rat]
theorem Nu.same{i j:Nat}{s t:List UInt8}{p q:Rat}(h:Nu i s p)(k:Nu j t q)(e:p=q):s=t:=by rw[h.t,k.t,e]
theorem fD{a:List UInt8}{n:Nat}(h:C9 a (n:Int)=true):Nu n a (Ar a)/\Az a=0:=by
 unfold C9 at h;rw[zk,zk,zk,w5,w5,w5,w5]at h;obtain⟨⟨⟨_,f2⟩,f3⟩,f4⟩:=h;obtain⟨t,_,_,_⟩:=Mg f2;rw[<-t]at f3 f4;rw[T7]at f4;rw[(FG _).1,(Dm _).2.1]at f3;refine⟨⟨t.symm,BP _ (by omega),BP _ (by omega)⟩,f2⟩
theorem TJ{a:List UInt8}(h:Az a=0):Nu 600 a (Ar a):=by
 obtain⟨t,_,_,z⟩:=Mg h;exact⟨t.symm,z⟩
theorem Nu.Df{i j:Nat}{a b:List UInt8}{p q:Rat}(ha:Nu i a p)(hb:Nu j b q):Nu (i+j+1) (Sp.Df a b) (p+q):=⟨by unfold Sp.Df;rw[ha.rat,hb.rat],ha.z.add hb.z⟩
theorem Nu.Kz{i j:Nat}{a b:List UInt8}{p q:Rat}(ha:Nu i a p)(hb:Nu j b q):Nu (i+j+1) (Sp.Kz a b) (p-q):=⟨by unfold Sp.Kz;rw[ha.rat,hb.rat],ha.z.sub hb.z⟩
theorem Nu.Eb{i j:Nat}{a b:List UInt8}{p q:Rat}(ha:Nu i a p)(hb:Nu j b q):Nu (i+j) (Sp.Eb a b) (p*q):=⟨by unfold Sp.Eb;rw[ha.rat,hb.rat],ha.z.mul hb.z⟩
def Ml(D:Int)(q:Rat):Prop:=∃z:Int,q*(D:Rat)=(z:Rat)
theorem Ml.add{D:Int}{p q:Rat}:Ml D p->Ml D q->Ml D (p+q)
 |⟨y,hy⟩,⟨z,hz⟩=>⟨y+z,by rw[Rat.add_mul,hy,hz,ql]⟩
theorem Ml.neg{D:Int}{p:Rat}:Ml D p->Ml D (-p)
 |⟨y,hy⟩=>⟨-y,by rw[qn,hy,j0]⟩
theorem Ml.sub{D:Int}{p q:Rat}(hp:Ml D p)(hq:Ml D q):Ml D (p-q):=by
 rw[je];exact hp.add hq.neg
theorem Ml.mul{D E:Int}{p q:Rat}:Ml D p->Ml E q->Ml (D*E) (p*q)
 |⟨y,hy⟩,⟨z,hz⟩=>⟨y*z,by rw[zn,zn, <-hy, <-hz,zx,zx, <-zx q,qi q,zx]⟩
theorem Ml.left{D:Int}{p:Rat}(E:Int):Ml D p->Ml (E*D) p
 |⟨y,hy⟩=>⟨y*E,by rw[zn,zn,qi (E:Rat), <-zx,hy]⟩
theorem Ml.right{D:Int}{p:Rat}(E:Int):Ml D p->Ml (D*E) p
 |⟨y,hy⟩=>⟨y*E,by rw[zn,zn, <-zx,hy]⟩
theorem Ml.zero{D:Int}:Ml D 0:=⟨0,Rat.zero_mul _⟩
theorem OT(q:Rat):q*((q.den:Int):Rat)=(q.num:Rat):=by
 have e:(q.num:Rat)/((q.den:Int):Rat)=q:=by rw[<-ji,yo]
 have:=yp (a:=(q.num:Rat)) (b:=((q.den:Int):Rat)) fun x=>HH q (yv.1 x)
 rwa [e]at this
theorem bL(q:Rat):Ml (q.den:Int) q:=⟨q.num,OT q⟩
theorem Ml.div{D n:Int}{p:Rat}(hn:n≠0):Ml D p->Ml (n*D) (p/(n:Rat))
 |⟨y,hy⟩=>⟨y,by
  have hn:(n:Rat)≠0:=fun x=>hn (yv.1 x)
  rw[zn, <-zx,yp hn,hy]⟩
def EI(B:Int)(q:Rat):Prop:=(-(B:Rat))<=q/\q<=(B:Rat)
theorem dL{a b c d:Rat}(h:a<=b)(k:c<=d):a+c<=b+d:=qv (Rat.add_le_add_right.2 h) (Rat.add_le_add_left.2 k)
theorem EI.add{A B:Int}{p q:Rat}(hp:EI A p)(hq:EI B q):EI (A+B) (p+q):=by
 unfold EI;rw[ql,Rat.neg_add];exact⟨dL hp.1 hq.1,dL hp.2 hq.2⟩
theorem EI.neg{B:Int}{q:Rat}(h:EI B q):EI B (-q):=⟨qe h.2,Rat.neg_le_iff.1 h.1⟩
theorem EI.sub{A B:Int}{p q:Rat}(hp:EI A p)(hq:EI B q):EI (A+B) (p-q):=by
 rw[je];exact hp.add hq.neg
theorem EI.mono{A B:Int}{q:Rat}(h:EI A q)(k:A<=B):EI B q:=
 ⟨qv (qe (ya.2 k)) h.1,qv h.2 (ya.2 k)⟩
theorem Ml.int{D B z:Int}{q:Rat}(hD:0<=D)(hz:q*(D:Rat)=(z:Rat))(hB:EI B q): -(B*D)<=z/\z<=B*D:=by
 have h0:(0:Rat)<=(D:Rat):=Rat.intCast_nonneg.2 hD;have h1:=yf hB.1 h0;have h2:=yf hB.2 h0;rw[hz,qn, <-zn]at h1;rw[hz, <-zn]at h2;have h1:((-(B*D):Int):Rat)<=(z:Rat):=by rw[j0];exact h1
 exact⟨ya.1 h1,ya.1 h2⟩
theorem Ml.sz{D B:Int}{q:Rat}{k:Nat}(h:Ml D q)(hD:0<D)(hB:EI B q)(h1:B*D<(10:Int)^k)(h2:D<(10:Int)^k):C0 k q:=by
 obtain⟨z,hz⟩:=h;have hb:=Ml.int (zg hD) hz hB;have hn:(D:Rat)≠0:=fun x=>by have:=yv.1 x;omega
 have e:q=qq z D:=by rw[ji, <-hz,yy hn]
 have c:(10:Int)^k=((10^k:Nat):Int):=by rw[zy];rfl
 rw[e];rw[c]at h1 h2;exact F8 (by omega) (by omega) (by omega)
def Hn:List Rat->Int
 |[]=>1
 |q::l=>(q.den:Int)*Hn l
theorem T5:∀l:List Rat,0<Hn l
 |[]=>by decide
 |q::l=>zz (by have:=q.den_pos;omega) (T5 l)
theorem RN:∀ {l:List Rat},∀q∈l,Ml (Hn l) q
 |_::_,q,h=>by
  rcases j6.1 h with rfl|h
  ·exact(bL q).right _
  ·exact(RN q h).left _
theorem Xy{k:Nat}:∀ {l:List Rat},(∀q∈l,C0 k q)->Hn l<=((10:Int)^k)^l.length
 |[],_=>by show(1:Int)<=_^0;rw[Int.pow_zero];exact Int.le_refl _
 |q::l,h=>by
  have h1:=Xy fun x hx=>h x (zt _ hx)
  have h2:=(h q (zr ..)).2;have c:(10:Int)^k=((10^k:Nat):Int):=by rw[zy];rfl
  rw[Hn,zm,qw,Int.mul_comm];exact yq h1 (by rw[c];omega) (by omega) (qf (qf (by decide)))
def Cp:List Rat->Rat
 |[]=>0
 |q::l=>q+Cp l
theorem bK{D:Int}:∀ {l:List Rat},(∀q∈l,Ml D q)->Ml D (Cp l)
 |[],_=>Ml.zero
 |q::_,h=>(h q (zr ..)).add (bK fun x hx=>h x (zt _ hx))
theorem iV{B:Int}:∀ {l:List Rat},(∀q∈l,EI B q)->EI (l.length*B) (Cp l)
 |[],_=>by
  show EI (0*B) 0;rw[j7];exact⟨by decide+kernel,by decide+kernel⟩
 |q::l,h=>by
  have:=(h q (zr ..)).add (iV fun x hx=>h x (zt _ hx));rw[show(((q::l).length:Nat):Int)*B=B+l.length*B by rw[zm,y7,Int.add_mul,j8];congr 1;exact qg B];exact this
theorem kS{k:Nat}{q:Rat}(h:C0 k q):EI ((10:Int)^k) q:=by
 have c:(10:Int)^k=((10^k:Nat):Int):=by rw[zy];rfl
 have h1:=h.1;have h2:=q.den_pos;have hd:(0:Rat)<((q.den:Int):Rat):=yt.2 (by omega);have h3:(10^k:Nat)<=10^k*q.den:=Nat.le_mul_of_pos_right _ h2;have h4:(((10^k*q.den:Nat):Int))=(10:Int)^k*(q.den:Int):=by rw[c];exact Int.natCast_mul ..
 constructor
 ·refine yr (c:=((q.den:Int):Rat)) ?_ hd;rw[OT,qn, <-zn, <-j0];exact ya.2 (by rw[<-h4];omega)
 ·refine yr (c:=((q.den:Int):Rat)) ?_ hd;rw[OT, <-zn];exact ya.2 (by rw[<-h4];omega)
theorem OD{A B:Int}{p q:Rat}(hA:0<=A)(hp:EI A p)(h0:0<=q)(hq:q<=(B:Rat)):EI (A*B) (p*q):=by
 have a0:(0:Rat)<=(A:Rat):=Rat.intCast_nonneg.2 hA;have h1:=yf hp.1 h0;have h2:=yf hp.2 h0;have h3:=Rat.mul_le_mul_of_nonneg_left hq a0;unfold EI;rw[zn];refine⟨qv ?_ h1,qv h2 h3⟩;rw[qn];exact qe h3
theorem EI.mul{A B:Int}{p q:Rat}(hA:0<=A)(hp:EI A p)(hq:EI B q):EI (A*B) (p*q):=by
 rcases j9 (a:=0) (b:=q)with h|h
 ·exact OD hA hp h hq.2
 ·have h':0<= -q:=by have:=qe h;rwa [kc]at this
  have:=(OD hA hp h' (Rat.neg_le_iff.1 hq.1)).neg;rwa [Rat.mul_neg,Rat.neg_neg]at this
theorem EI.div{B n:Int}{q:Rat}(hn:0<n)(h:EI (n*B) q):EI B (q/(n:Rat)):=by
 have h0:(0:Rat)<(n:Rat):=yt.2 hn;have e:=yp (a:=q) (qx h0);unfold EI at h;rw[zn]at h;constructor
 ·refine yr ?_ h0;rw[e,qn,qi];exact h.1
 ·refine yr ?_ h0;rw[e,qi];exact h.2
def Ba(l:List Rat):Rat:=Cp l/((l.length:Int):Rat)
def Fj(a b:Rat):List (Rat×Rat)->Rat
 |[]=>0
 |p::l=>(p.1-a)*(p.2-b)+Fj a b l
def B7(a:Rat):List (Rat×Rat)->Rat
 |[]=>0
 |p::l=>(p.1-a)*(p.1-a)+B7 a l
def Bm(l:List (Rat×Rat)):Rat:=Fj (Ba (l.map zl)) (Ba (l.map yb)) l/B7 (Ba (l.map zl)) l
def DS(l:List (Rat×Rat)):Rat:=Ba (l.map yb)-Bm l*Ba (l.map zl)
def J5(a b:Rat):List (Rat×Rat)->Rat
 |[]=>0
 |p::l=>(p.2-(a*p.1+b))*(p.2-(a*p.1+b))+J5 a b l
theorem Ku{D E:Int}{a b:Rat}:∀ {l:List (Rat×Rat)},(∀p∈l,Ml D (p.1-a)/\Ml E (p.2-b))->Ml (D*E) (Fj a b l)
 |[],_=>Ml.zero
 |p::_,h=>((h p (zr ..)).1.mul (h p (zr ..)).2).add (Ku fun x hx=>h x (zt _ hx))
theorem LL{A B:Int}(hA:0<=A){a b:Rat}:∀ {l:List (Rat×Rat)},(∀p∈l,EI A (p.1-a)/\EI B (p.2-b))->EI (l.length*(A*B)) (Fj a b l)
 |[],_=>by
  show EI (0*_) 0;rw[j7];exact⟨by decide+kernel,by decide+kernel⟩
 |p::l,h=>by
  have:=(EI.mul hA (h p (zr ..)).1 (h p (zr ..)).2).add (LL hA fun x hx=>h x (zt _ hx));rw[show(((p::l).length:Nat):Int)*(A*B)=A*B+l.length*(A*B)by rw[zm,y7,Int.add_mul,j8];congr 1;exact qg _];exact this
theorem I0(a:Rat):∀l:List (Rat×Rat),B7 a l=Fj a a (l.map fun p=>(p.1,p.1))
 |[]=>rfl
 |p::l=>by
  show _+B7 a l=_+Fj a a (l.map fun p=>(p.1,p.1));rw[I0 a l]
theorem Iu(a:Rat):∀l:List (Rat×Rat),0<=B7 a l
 |[]=>Rat.le_refl
 |p::l=>by
  refine Rat.add_nonneg ?_ (Iu a l);rcases j9 (a:=0) (b:=p.1-a)with h|h
  ·exact jf h h
  ·have h':0<= -(p.1-a):=by have:=qe h;rwa [kc]at this
   have:=jf h' h';rwa [qn,Rat.mul_neg,Rat.neg_neg]at this
theorem qY{p q:Rat}{D E C:Int}{a c:Nat}(hp:Ml (D*E) p)(hq:Ml (D*D) q)(h0:0<q)(bp:EI C p)(bq:EI C q)(hD:0<D)(hE:0<E)(D1:D<=(10:Int)^a)(E1:E<=(10:Int)^a)(C1:C<=(10:Int)^c):C0 (c+a+a+a+1) (p/q):=by
 obtain⟨u,hu⟩:=hp;obtain⟨v,hv⟩:=hq;have hDE:0<D*E:=zz hD hE;have hDD:0<D*D:=zz hD hD;have bu:=Ml.int (zg hDE) hu bp;have bv:=Ml.int (zg hDD) hv bq;have v0:0<v:=by
  have:=Rat.mul_pos h0 (yt.2 hDD);rw[hv]at this;exact yt.1 this
 have vE:0<v*E:=zz v0 hE;have e1:p/q*((v*E:Int):Rat)=((u*D:Int):Rat):=by
  have e:=yp (a:=p) (qx h0);rw[zn,zn, <-hv, <-hu, <-zx, <-zx,e,zn,zn,zx,zx,zx,zx,qi (D:Rat) (E:Rat)]
 have hn:((v*E:Int):Rat)≠0:=fun x=>by have:=yv.1 x;omega
 have e:p/q=qq (u*D) (v*E):=by rw[ji, <-e1,yy hn]
 have p0:(0:Int)<=10^a:=qf (by decide);have q0:(0:Int)<=10^c:=qf (by decide);have top:∀ {X Y Z:Int},0<=X->0<=Y->0<=Z->X<=10^a->Y<=10^a->Z<=10^a->C*(X*Y)*Z<((10^(c+a+a+a+1):Nat):Int):=fun {X Y Z} x0 y0 z0 x1 y1 z1=>by
  have k1:X*Y<=(10:Int)^a*10^a:=yq x1 y1 y0 p0;have k2:C*(X*Y)<=(10:Int)^c*(10^a*10^a):=yq C1 k1 (yh x0 y0) q0;have k3:C*(X*Y)*Z<=(10:Int)^c*(10^a*10^a)*10^a:=yq k2 z1 z0 (yh q0 (yh p0 p0));have k4:((10^(c+a+a+a+1):Nat):Int)=(10:Int)^c*(10^a*10^a)*10^a*10:=by
   rw[zy,show((10:Nat):Int)=10 from rfl,qw,yi,yi,yi,jj ((10:Int)^c)]
  have k5:0<(10:Int)^c*(10^a*10^a)*10^a:=zz (zz (yc (by decide)) (zz (yc (by decide)) (yc (by decide)))) (yc (by decide));omega
 rw[e];refine F8 (by omega) ?_ ?_
 ·have l1:=zh bu.1 (zg hD);have l2:=zh bu.2 (zg hD);have l3:=top (zg hD) (zg hE) (zg hD) D1 E1 D1;rw[Int.neg_mul]at l1;omega
 ·have l2:=zh bv.2 (zg hE);have l3:=top (zg hD) (zg hD) (zg hE) D1 D1 E1;omega
structure RF(k n:Nat)(l:List (Rat×Rat)):Prop where
 pos:0<l.length
 le:l.length<=n
 sz:∀p∈l,C0 k p.1/\C0 k p.2
theorem DT{k n a:Nat}{x:List Rat}(h0:0<x.length)(hn:x.length<=n)(hs:∀q∈x,C0 k q)(ha:(n:Int)*((10:Int)^k)^n<=(10:Int)^a):
  0<(x.length:Int)*Hn x/\(x.length:Int)*Hn x<=(10:Int)^a/\Ml ((x.length:Int)*Hn x) (Ba x)/\EI ((10:Int)^k) (Ba x)/\∀q∈x,Ml ((x.length:Int)*Hn x) (q-Ba x)/\EI (2*(10:Int)^k) (q-Ba x):=by
 have hl:(0:Int)<x.length:=by omega
 have d0:=T5 x;have d1:=Xy hs;have hm:Ml ((x.length:Int)*Hn x) (Ba x):=Ml.div (by omega) (bK fun q hq=>RN q hq);have hb:EI ((10:Int)^k) (Ba x):=EI.div hl (iV fun q hq=>kS (hs q hq));have t0:(0:Int)<10^k:=yc (by decide);have d2:((10:Int)^k)^x.length<=((10:Int)^k)^n:=by
  obtain⟨j,rfl⟩:∃j,n=x.length+j:=⟨n-x.length,by omega⟩;rw[yi];have:(1:Int)<=((10:Int)^k)^j:=by have:0<((10:Int)^k)^j:=yc t0;omega
  have:=yw this (zg (yc t0:0<((10:Int)^k)^x.length));rwa [Int.mul_one]at this
 refine⟨zz hl d0,ke (yq (by omega) (ke d1 d2) (by omega) (by omega)) ha,hm,hb,fun q hq=>⟨((RN q hq).left _).sub hm,?_⟩⟩;have:=(kS (hs q hq)).sub hb;rwa [show(10:Int)^k+10^k=2*10^k by omega]at this
theorem O1{k n a c:Nat}{l:List (Rat×Rat)}(h:RF k n l)(ha:(n:Int)*((10:Int)^k)^n<=(10:Int)^a)(hc:(n:Int)*(2*(10:Int)^k*(2*(10:Int)^k))<=(10:Int)^c)(hw:B7 (Ba (l.map zl)) l≠0):C0 (c+a+a+a+1) (Bm l):=by
 have lx:(l.map zl).length=l.length:=zq ..;have ly:(l.map yb).length=l.length:=zq ..;obtain⟨x0,x1,x2,x3,x4⟩:=DT (x:=l.map zl) (by rw[lx];exact h.pos) (by rw[lx];exact h.le) (fun q hq=>by obtain⟨p,hp,rfl⟩:=zi.1 hq;exact(h.sz p hp).1) ha;obtain⟨y0,y1,y2,y3,y4⟩:=DT (x:=l.map yb) (by rw[ly];exact h.pos) (by rw[ly];exact h.le) (fun q hq=>by obtain⟨p,hp,rfl⟩:=zi.1 hq;exact(h.sz p hp).2) ha;have t0:(0:Int)<=2*10^k:=yh (by decide) (qf (by decide));have tt:(0:Int)<=2*10^k*(2*10^k):=yh t0 t0;have lt:(l.length:Int)*(2*10^k*(2*10^k))<=(n:Int)*(2*10^k*(2*10^k)):=zh (by have:=h.le;omega) tt;have b1:=Ku (l:=l) fun p hp=>⟨(x4 p.1 (zi.2 ⟨p,hp,rfl⟩)).1,(y4 p.2 (zi.2 ⟨p,hp,rfl⟩)).1⟩
 have b2:=(LL t0 (l:=l) fun p hp=>⟨(x4 p.1 (zi.2 ⟨p,hp,rfl⟩)).2,(y4 p.2 (zi.2 ⟨p,hp,rfl⟩)).2⟩).mono lt;have w1:Ml (((l.map zl).length:Int)*Hn (l.map zl)*(((l.map zl).length:Int)*Hn (l.map zl))) (B7 (Ba (l.map zl)) l):=by
  rw[I0];exact Ku fun p hp=>by
   obtain⟨r,hr,rfl⟩:=zi.1 hp;have:=(x4 r.1 (zi.2 ⟨r,hr,rfl⟩)).1;exact⟨this,this⟩
 have w2:EI ((n:Int)*(2*10^k*(2*10^k))) (B7 (Ba (l.map zl)) l):=by
  rw[I0];refine(LL t0 fun p hp=>?_).mono (by rw[zq];exact lt);obtain⟨r,hr,rfl⟩:=zi.1 hp;have:=(x4 r.1 (zi.2 ⟨r,hr,rfl⟩)).2;exact⟨this,this⟩
 have wp:0<B7 (Ba (l.map zl)) l:=Rat.lt_of_le_of_ne (Iu _ _) (fun e=>hw e.symm);exact qY b1 w1 wp b2 w2 x0 y0 x1 y1 hc
def HC(a b:Rat):List (Rat×Rat)->Rat
 |[]=>0
 |p::l=>(p.2-(a*p.1+b))+HC a b l
def YZ(a b:Rat):List (Rat×Rat)->Rat
 |[]=>0
 |p::l=>(p.2-(a*p.1+b))*p.1+YZ a b l
def oG(u v:Rat):List (Rat×Rat)->Rat
 |[]=>0
 |p::l=>(u*p.1+v)*(u*p.1+v)+oG u v l
theorem sq_nonneg(x:Rat):0<=x*x:=by
 rcases j9 (a:=0) (b:=x)with h|h
 ·exact jf h h
 ·have h':0<= -x:=by have:=qe h;rwa [kc]at this
  have:=jf h' h';rwa [qn,Rat.mul_neg,Rat.neg_neg]at this
theorem Px(u v:Rat):∀l:List (Rat×Rat),0<=oG u v l
 |[]=>Rat.le_refl
 |_::l=>Rat.add_nonneg (sq_nonneg _) (Px u v l)
theorem JJ{p q:Rat}(h:0<=q):p<=p+q:=by
 have:=(Rat.add_le_add_left (c:=p)).2 h;rwa [kf]at this
theorem TY(a b s o:Rat):∀l:List (Rat×Rat),J5 s o l=J5 a b l+2*(a-s)*YZ a b l+2*(b-o)*HC a b l+oG (a-s) (b-o) l
 |[]=>by
  show(0:Rat)=0+2*(a-s)*0+2*(b-o)*0+0;grind
 |p::l=>by
  have:=TY a b s o l;rw[J5,J5,YZ,HC,oG,this];grind
theorem Uw(a b:Rat):∀l:List (Rat×Rat),HC a b l=Cp (l.map yb)-a*Cp (l.map zl)-((l.length:Int):Rat)*b
 |[]=>by
  show(0:Rat)=0-a*0-((0:Int):Rat)*b;rw[jk];grind
 |p::l=>by
  have:=Uw a b l;rw[HC,this,yn,yn,Cp,Cp,zm,y7,ql,show(((1:Nat):Int):Rat)=1 from rfl];grind
theorem QC{a b xm ym:Rat}(hb:b=ym-a*xm):∀l:List (Rat×Rat),YZ a b l-xm*HC a b l=Fj xm ym l-a*B7 xm l
 |[]=>by
  show(0:Rat)-xm*0=0-a*0;grind
 |p::l=>by
  have:=QC hb l;rw[YZ,HC,Fj,B7];grind
theorem NU{x:List Rat}(h:0<x.length):Cp x=((x.length:Int):Rat)*Ba x:=by
 have h0:(0:Rat)<((x.length:Int):Rat):=yt.2 (by omega);unfold Ba;rw[qi,yp (qx h0)]
theorem Qz{l:List (Rat×Rat)}(h:0<l.length):HC (Bm l) (DS l) l=0:=by
 rw[Uw,NU (by rw[zq];exact h),NU (by rw[zq];exact h),zq,zq];unfold DS;grind
theorem Zi{l:List (Rat×Rat)}(h:0<l.length)(hw:B7 (Ba (l.map zl)) l≠0)(s o:Rat):J5 (Bm l) (DS l) l<=J5 s o l:=by
 have h0:=Qz h;have h1:=QC (a:=Bm l) (b:=DS l) (xm:=Ba (l.map zl)) (ym:=Ba (l.map yb)) rfl l;have h2:Bm l*B7 (Ba (l.map zl)) l=Fj (Ba (l.map zl)) (Ba (l.map yb)) l:=by
  unfold Bm;exact yp hw
 have h3:YZ (Bm l) (DS l) l=0:=by grind
 rw[TY (Bm l) (DS l) s o l,h0,h3,kg,kg,kf,kf];exact JJ (Px _ _ l)
theorem QG{s o:Rat}:∀(x:List Rat),Cp (x.map fun q=>s*q+o)=s*Cp x+((x.length:Int):Rat)*o
 |[]=>by
  show(0:Rat)=s*0+((0:Int):Rat)*o;rw[jk];grind
 |q::x=>by
  have:=QG (s:=s) (o:=o) x;rw[yn,Cp,this,Cp,zm,y7,ql,show(((1:Nat):Int):Rat)=1 from rfl];grind
theorem Ri{s o xm ym:Rat}(h:ym=s*xm+o):∀x:List Rat,Fj xm ym (x.map fun q=>(q,s*q+o))=s*B7 xm (x.map fun q=>(q,s*q+o))
 |[]=>(kg _).symm
 |q::x=>by
  have:=Ri h x;rw[yn,Fj,B7,this];grind
theorem Rt{a:Rat}:∀ {l:List (Rat×Rat)},B7 a l=0->∀p∈l,p.1=a
 |p::l,h,q,hq=>by
  have h1:=sq_nonneg (p.1-a);have h2:=Iu a l;have h3:(p.1-a)*(p.1-a)+B7 a l=0:=h;have h4:(p.1-a)*(p.1-a)=0:=Rat.le_antisymm (by have:=JJ (p:=(p.1-a)*(p.1-a)) h2;rwa [h3]at this) h1;have h5:B7 a l=0:=by rw[h4,Rat.zero_add]at h3;exact h3
  rcases j6.1 hq with rfl|hq
  ·rcases Rat.mul_eq_zero.1 h4 with k|k<;>grind
  ·exact Rt h5 q hq
theorem TZ{c:Rat}:∀ {x:List Rat},(∀q∈x,q=c)->Cp x=((x.length:Int):Rat)*c
 |[],_=>by
  show(0:Rat)=((0:Int):Rat)*c;rw[jk,Rat.zero_mul]
 |q::x,h=>by
  rw[Cp,TZ fun y hy=>h y (zt _ hy),h q (zr ..),zm,y7,ql,show(((1:Nat):Int):Rat)=1 from rfl];grind
theorem Y5{c:Rat}{x:List Rat}(h0:0<x.length)(h:∀q∈x,q=c):Ba x=c:=by
 have l0:(0:Rat)<((x.length:Int):Rat):=yt.2 (by omega);unfold Ba;rw[TZ h,qi,yy (qx l0)]
theorem Rg{c:Rat}:∀ {l:List (Rat×Rat)},(∀p∈l,p.1=c)->B7 c l=0
 |[],_=>rfl
 |p::l,h=>by
  rw[B7,Rg fun y hy=>h y (zt _ hy),h p (zr ..)];grind
theorem jJ(a b:Rat):∀l k:List (Rat×Rat),J5 a b (l++k)=J5 a b l+J5 a b k
 |[],k=>(Rat.zero_add _).symm
 |p::l,k=>by
  rw[List.cons_append,J5,J5,jJ a b l k];grind
def H7(w:List UInt8):Nat:=max (AZ (Ay w)).length (SZ w).length
def lF:List BI->Int
 |[]=>0
 |p::l=>if Lo p.1 p.2≠0 then Lo p.1 p.2 else lF l
def CY(l:List BI):Int:=if l=[]then 12 else if 256<l.length then 5 else lF l
def AH(l:List BI):List (Rat×Rat):=l.map fun p=>(Ar p.1,Ar p.2)
def E8(l:List BI):Rat:=B7 (Ba ((AH l).map zl)) (AH l)
def EB(l:List BI):Int:=if CY l≠0 then CY l else if E8 l=0 then 14 else 0
def BR(l:List BI):List UInt8:=if EB l=0 then AW (Bm (AH l))else[]
def BS(l:List BI):List UInt8:=if EB l=0 then AW (DS (AH l))else[]
def J3(l:List BI):Bool:=decide (l.length<=10)&&l.all fun p=>decide (H7 p.1<=10)&&decide (H7 p.2<=10)
def IM(l:List BI):Bool:=decide (l.length<=1000000)&&Hw 1000000 l&&(decide (CY l≠0)||J3 l)
def ZI(l:List BI)(a b:List UInt8):Int:=if CY l≠0 then CY l else Lo a b
def zC(l:List BI)(a b:List UInt8):Rat:=J5 (Ar a) (Ar b) (AH l)
def Kk(l:List BI)(a b:List UInt8):List UInt8:=jT (ZI l a b) (zC l a b)
def lD(l:List BI)(a b:List UInt8):Int:=iR (ZI l a b) (zC l a b)
def Qs(a b:Rat)(l:List (Rat×Rat)):Bool:=(List.range (l.length+1)).all fun i=>E9 (AW (J5 a b (l.take i)))
def uY(l:List BI)(a b:List UInt8):Bool:=J3 l&&decide (H7 a<=350)&&decide (H7 b<=560)&&Qs (Ar a) (Ar b) (AH l)
def Mm(l:List BI)(a b:List UInt8):Bool:=decide (l.length<=1000000)&&Hw 1000000 l&&decide (a.length<=1000000)&&decide (b.length<=1000000)&&(decide (ZI l a b≠0)||uY l a b)
def Qo:List (List UInt8)->Nat
 |[]=>0
 |s::l=>(if Az s=0 then H7 s else 0)+1+Qo l
def FJ(l:List (List UInt8)):Int:=if l=[]then 12 else if 256<l.length then 5 else Cn l
def KN(l:List (List UInt8)):List Rat:=l.map Ar
def sR(l:List (List UInt8)):Rat:=Ba (KN l)
def JX(l:List (List UInt8)):List UInt8:=jT (FJ l) (sR l)
def fZ(l:List (List UInt8)):Int:=iR (FJ l) (sR l)
def LX(l:List (List UInt8)):Bool:=decide (l.length<=1000000)&&(l.all fun s=>decide (s.length<=1000000))&&(decide (FJ l≠0)||decide (Qo l<=1900))
def xS(p:BI)(x:Al):Al:=Ha (Gc (Fc p.1) x) (Gc (Fc p.1) x)
def xM(p:BI)(x y:Al):Al:=Ha (Gc (Fc p.1) x) (Gc (Fc p.2) y)
def dF(p:BI)(a b:Al):Al:=Gc (Fc p.2) (Ge (Ha a (Fc p.1)) b)
def uK(p:BI)(a b:Al):Al:=Ha (dF p a b) (dF p a b)
def okW(p:BI)(x:Al):Bool:=Da p.1&&BL (Fc p.1)&&BL x&&BL (Gc (Fc p.1) x)
def okB(p:BI)(x y:Al):Bool:=Da p.1&&Da p.2&&BL (Fc p.1)&&BL (Fc p.2)&&BL x&&BL y&&BL (Gc (Fc p.1) x)&&BL (Gc (Fc p.2) y)
def okM(p:BI)(a b:Al):Bool:=Da p.1&&Da p.2&&BL (Fc p.1)&&BL (Fc p.2)&&BL a&&BL b&&BL (Ha a (Fc p.1))&&BL (Ge (Ha a (Fc p.1)) b)&&BL (dF p a b)
def Et(n m:Int):Int:=if n=0 then 12 else if m<n then 5 else 0
end Go.Sp
namespace Go.Pe
open Sp
open Go.Det
abbrev eX:Sh:=.ptr Bj
def cXa:Ap:=⟨[Qu],fun p=>Da p.1,[Bj],fun p=>((Mv p.1,PH p.1),(JY p.1,L0 p.1)),false⟩
def cXb:Ap:=⟨[Qu],fun p=>Da p.2,[Bj],fun p=>((Mv p.2,PH p.2),(JY p.2,L0 p.2)),false⟩
def cWd:Ap:=⟨[Qu,eX],fun i=>Sp.okW i.1 i.2,[Bj],fun i=>((Sp.nS (xS i.1 i.2),Sp.nW (xS i.1 i.2)),(Sp.dS (xS i.1 i.2),Sp.dW (xS i.1 i.2))),false⟩
def cBt:Ap:=⟨[Qu,eX,eX],fun i=>Sp.okB i.1 i.2.1 i.2.2,[Bj],fun i=>((Sp.nS (xM i.1 i.2.1 i.2.2),Sp.nW (xM i.1 i.2.1 i.2.2)),(Sp.dS (xM i.1 i.2.1 i.2.2),Sp.dW (xM i.1 i.2.1 i.2.2))),false⟩
def cMs:Ap:=⟨[Qu,eX,eX],fun i=>Sp.okM i.1 i.2.1 i.2.2,[Bj],fun i=>((Sp.nS (uK i.1 i.2.1 i.2.2),Sp.nW (uK i.1 i.2.1 i.2.2)),(Sp.dS (uK i.1 i.2.1 i.2.2),Sp.dW (uK i.1 i.2.1 i.2.2))),false⟩
def iO:Ap:=⟨[Bj],fun _=>true,[Bj],fun a=>((a.1.1,a.1.2),(a.2.1,a.2.2)),false⟩
def cW:Ap:=⟨[i64,i64],fun _=>true,[i64],fun i=>Et i.1 i.2,false⟩
def vG:Ap:=⟨[.list Qu],fun l=>decide (j5 (α:=BI) l<=1000000)&&Hw 1000000 l,[i64],fun l=>CY l,false⟩
def kY:Ap:=⟨[.list Qu],fun l=>Sp.IM l,[.str,.str,i64],fun l=>(BR l,BS l,EB l),false⟩
def cSq:Ap:=⟨[.list Qu,.str,.str],fun i=>Mm i.1 i.2.1 i.2.2,[.str,i64],fun i=>(Kk i.1 i.2.1 i.2.2,lD i.1 i.2.1 i.2.2),false⟩
def iX:Ap:=⟨[.list .str],fun l=>decide (j5 (α:=List UInt8) l<=1000000)&&List.all (α:=List UInt8) l (fun s=>decide (s.length<=1000000)),[i64],fun l=>FJ l,false⟩
def jM:Ap:=⟨[.list Qu],fun l=>decide (j5 (α:=BI) l<=1000000)&&Hw 9223372036854775807 l,[i64],fun l=>CY l,false⟩
def wF:Ap:=⟨[.list .str],fun l=>decide (j5 (α:=List UInt8) l<=1000000)&&List.all (α:=List UInt8) l (fun s=>decide (s.length<=9223372036854775807)),[i64],fun l=>Cn l,false⟩
def cMn:Ap:=⟨[.list .str],fun l=>LX l,[.str,i64],fun l=>(JX l,fZ l),false⟩
def J4:Ap:=⟨[.list Qu,.str,.str],fun i=>Hw 9223372036854775807 i.1,[.bool],fun _=>true,false⟩
def Aaf:A6:=X7 [(68,J0),(87,QX)]
def VP:A6:=X7 [(69,Gr),(68,J0),(87,QX),(97,cW)]
def zH:A6:=X7 [(138,YD),(139,kV)]
def V2:A6:=X7 [(59,kC),(71,UR),(63,fF),(64,YL)]
def CN:A6:=aY [(11,[5,7,10]),(12,[5])] [(11,[(5,[(6,Bj)]),(7,[(7,Bj)]),(10,[(8,Bj)])]),(12,[(5,[(9,Bj),(10,Bj)])])] [(11,[(5,[0,6]),(7,[0,7,8]),(10,[0,7,8,9])]),(12,[(5,[0,9,10])])] [(55,vG),(76,iX),(68,J0),(69,Gr),(59,kC),(56,cF),(71,UR),(63,fF),(64,YL),(60,tS),(65,uD),(67,XN),(58,cXa),(61,cXb),(62,cWd),(66,cBt),(70,cMs),(150,iO)]
def XR:A6:=X7 [(51,Sv)]
def mH:A6:=X7 [(15,wF)]
def EA:A6:=aY [(4,[13,24])] [(4,[(13,[(7,.str),(8,.str)])])] [(4,[(13,[0,1,2,7,8,9]),(24,[0,1,2,7,8,11,12]),(27,[1,2,7,8,11,12,22,23,180,181]),(6,[0,1,2,7,8,9,52,53])])] [(8,Vx),(9,jM),(10,iL),(11,kY),(12,cSq),(17,cMn),(15,wF),(18,sX),(19,UW),(20,Ul),(21,iB)]
section
open List Int Prod
namespace T68
def T(l:List Int):Tr:=tree zB false 9 68 (Af ([ze i64]) l)
def L1(v5:List Int)(v6 v7:Int):Tr:=re ((T [])) (AF 15 [(5,.dat (ze i64) v5),(6,.dat i64 v6),(7,.dat i64 v7)] [] 0)
theorem An(l:List Int):T l=L1 l ((length l:Int)) 0:=by kernel_rfl
theorem Au(v5:List Int)(v6 v7:Int):stepT zB (L1 v5 v6 v7)=.ite (decide (v7<v6)) (.ite (decide (0<=v7)&&decide (v7<(length v5:Int))) (.ite (getD v5 (toNat v7) 0 !=0) (.leaf (.dat i64 (getD v5 (toNat v7) 0)) []) (L1 v5 v6 (zc .i64 (v7+1)))) .fail) (.leaf (.dat i64 (0:Int)) []):=by kernel_rfl
end T68
namespace T87
def T(c:Bool)(e:Int):Tr:=tree zB false 9 87 (Af ([zj,yd yj]) (c,e))
theorem An(c:Bool)(e:Int):T c e=.ite c (.leaf (.dat i64 e) []) (.leaf (.dat i64 (0:Int)) []):=by kernel_rfl
end T87
namespace T97
def T(n m:Int):Tr:=tree Aaf false 9 97 (Af ([yd yj,yd yj]) (n,m))
theorem An(n m:Int):T n m=.ite true (.ite true (.ite (decide (2<=2)&&true&&decide (2<=1000000)) (.leaf (.dat i64 (jg [LJ (n==0) 12,LJ (decide (n>m)) 5])) ([(0,.arr false 29 i64 [LJ (n==0) 12,LJ (decide (n>m)) 5])])) .fail) .fail) .fail:=by kernel_rfl
end T97
namespace T55
def T(l:List (List UInt8×List UInt8)):Tr:=tree VP false 9 55 (Af ([ze (z7 zf zf)]) l)
def L1(v13:List (List UInt8×List UInt8))(v14 v15:Int):Tr:=re ((T []).L.R) (AF 31 [(13,.dat (ze (z7 zf zf)) v13),(14,.dat i64 v14),(15,.dat i64 v15)] [] 0)
theorem An(l:List (List UInt8×List UInt8)):T l=.ite true (.ite (Et (length l:Int) 256 !=0) (.leaf (.dat i64 (Et (length l:Int) 256)) []) (L1 l ((length l:Int)) 0)) .fail:=by kernel_rfl
theorem Au(v13:List (List UInt8×List UInt8))(v14 v15:Int):stepT VP (L1 v13 v14 v15)=let a':=getD v13 (toNat v15) ([],[]);.ite (decide (v15<v14)) (.ite (decide (0<=v15)&&decide (v15<(length v13:Int))) (.ite (decide (length (fst a')<=1000000)) (.ite (decide (length (snd a')<=1000000)) (.ite (decide (2<=2)&&true&&decide (2<=1000000)) (.ite (jg [Az (fst a'),Az (snd a')] !=0) (.leaf (.dat i64 (jg [Az (fst a'),Az (snd a')])) ([(zu 0 1,.arr false 29 i64 [Az (fst a'),Az (snd a')]),(0,.box [.dat zf (fst a'),.dat zf (snd a')])])) (L1 v13 v14 (zc .i64 (v15+1)))) .fail) .fail) .fail) .fail) (.leaf (.dat i64 (0:Int)) []):=by kernel_rfl
end T55
namespace T76
def T(l:List (List UInt8)):Tr:=tree VP false 9 76 (Af ([ze zf]) l)
def L1(v0:List (List UInt8))(v3 v4:Int):Tr:=re ((T []).L) (AF 24 [(0,.dat (ze zf) v0),(3,.dat i64 v3),(4,.dat i64 v4)] [] 0)
theorem An(l:List (List UInt8)):T l=.ite true (L1 l (Et (length l:Int) 256) 0) .fail:=by kernel_rfl
theorem Au(v0:List (List UInt8))(v3 v4:Int):stepT VP (L1 v0 v3 v4)=let a':=decide (v4<(length v0:Int));.ite (a') (.ite (v3==0) (.ite (decide (0<=v4)&&a') (.ite (decide (length (getD v0 (toNat v4) [])<=1000000)) (L1 v0 (Az (getD v0 (toNat v4) [])) (zc .i64 (v4+1))) .fail) .fail) (.leaf (.dat i64 v3) [])) (.leaf (.dat i64 v3) []):=by kernel_rfl
end T76
namespace T67
def T(a:(Int×List Int)×Int×List Int):Tr:=tree zH false 9 67 (Af ([z7 (z7 i64 (yk (yd zw))) (z7 i64 (yk (yd zw)))]) a)
theorem An(a:(Int×List Int)×Int×List Int):T a=let b':=((fst (fst a),snd (fst a)),fst (snd a),snd (snd a));let c':=yk (yd zw);let a':=[(0,.box [.dat i64 (fst (fst a)),.dat c' (snd (fst a)),.dat i64 (fst (snd a)),.dat c' (snd (snd a))])];.ite (ki b') (.ite (It b') (.leaf (.tup [.dat zf [],.dat i64 (4:Int)]) a') (.ite (ki b') (.leaf (.tup [.dat zf (JD b'),.dat i64 (0:Int)]) a') .fail)) .fail:=by kernel_rfl
end T67
namespace T15
def T(l:List (List UInt8)):Tr:=tree XR false 9 15 (Af ([ze zf]) l)
def L1(v0:List (List UInt8))(v3:Int):Tr:=re ((T [])) (AF 19 [(0,.dat (ze zf) v0),(3,.dat i64 v3)] [] 0)
theorem An(l:List (List UInt8)):T l=L1 l 0:=by kernel_rfl
theorem Au(v0:List (List UInt8))(v3:Int):stepT XR (L1 v0 v3)=let a':=getD v0 (toNat v3) [];let b':=decide (v3<(length v0:Int));.ite (b') (.ite (decide (0<=v3)&&b') (.ite (decide (length a'<=9223372036854775807)) (.ite (Az a' !=0) (.leaf (.dat i64 (Az a')) []) (L1 v0 (zc .i64 (v3+1)))) .fail) .fail) (.leaf (.dat i64 (0:Int)) []):=by kernel_rfl
end T15
namespace T9
def T(l:List (List UInt8×List UInt8)):Tr:=tree mH false 9 9 (Af ([ze (z7 zf zf)]) l)
def L1(v0:List (List UInt8×List UInt8))(v3:Int):Tr:=re ((T []).R.R) (AF 32 [(0,.dat (ze (z7 zf zf)) v0),(3,.dat i64 v3)] [] 0)
theorem An(l:List (List UInt8×List UInt8)):T l=.ite ((length l:Int)==0) (.leaf (.dat i64 (12:Int)) []) (.ite (decide ((length l:Int)>256)) (.leaf (.dat i64 (5:Int)) []) (L1 l 0)):=by kernel_rfl
theorem Au(v0:List (List UInt8×List UInt8))(v3:Int):stepT mH (L1 v0 v3)=let a':=getD v0 (toNat v3) ([],[]);let b':=decide (v3<(length v0:Int));.ite (b') (.ite (decide (0<=v3)&&b') (.ite (decide (0<=v3)&&b') (.ite (decide (2<=2)&&true&&(decide (2<=1000000)&&List.all [fst a',snd a'] fun s=>decide (length s<=9223372036854775807))) (.ite (Cn [fst a',snd a'] !=0) (.leaf (.dat i64 (Cn [fst a',snd a'])) ([(0,.arr false 23 zf [fst a',snd a'])])) (L1 v0 (zc .i64 (v3+1)))) .fail) .fail) .fail) (.leaf (.dat i64 (0:Int)) []):=by kernel_rfl
end T9
end
end Go.Pe
namespace Go.Sp
theorem GA{B D E:Int}{a c:Nat}(hD:0<=D)(hE:0<=E)(B1:B<=(10:Int)^c)(D1:D<=(10:Int)^a)(E1:E<=(10:Int)^a):B*(D*E)<(10:Int)^(c+a+a+1)/\D*E<(10:Int)^(c+a+a+1):=by
 have p0:(0:Int)<10^a:=yc (by decide);have q0:(0:Int)<10^c:=yc (by decide);have k1:D*E<=(10:Int)^a*10^a:=yq D1 E1 hE (zg p0);have k2:B*(D*E)<=(10:Int)^c*(10^a*10^a):=yq B1 k1 (yh hD hE) (zg q0);have k3:(10:Int)^(c+a+a+1)=(10:Int)^c*(10^a*10^a)*10:=by rw[qw,yi,yi,jj ((10:Int)^c)]
 have k4:0<(10:Int)^a*10^a:=zz p0 p0;have k5:(10:Int)^a*10^a<=(10:Int)^c*(10^a*10^a):=by
  have:=zh (show 1<=(10:Int)^c by omega) (zg k4);rwa [qg]at this
 rw[k3];omega
theorem cN{k n a c:Nat}{l:List (Rat×Rat)}(h:RF k n l)(ha:(n:Int)*((10:Int)^k)^n<=(10:Int)^a)(hc:(n:Int)*(2*(10:Int)^k*(2*(10:Int)^k))<=(10:Int)^c)(i:Nat):
  C0 (c+a+a+1) (Fj (Ba (l.map zl)) (Ba (l.map yb)) (l.take i))/\C0 (c+a+a+1) (B7 (Ba (l.map zl)) (l.take i)):=by
 have lx:(l.map zl).length=l.length:=zq ..;have ly:(l.map yb).length=l.length:=zq ..;obtain⟨x0,x1,_,_,x4⟩:=DT (x:=l.map zl) (by rw[lx];exact h.pos) (by rw[lx];exact h.le) (fun q hq=>by obtain⟨p,hp,rfl⟩:=zi.1 hq;exact(h.sz p hp).1) ha;obtain⟨y0,y1,_,_,y4⟩:=DT (x:=l.map yb) (by rw[ly];exact h.pos) (by rw[ly];exact h.le) (fun q hq=>by obtain⟨p,hp,rfl⟩:=zi.1 hq;exact(h.sz p hp).2) ha;have t0:(0:Int)<=2*10^k:=yh (by decide) (qf (by decide));have tt:(0:Int)<=2*10^k*(2*10^k):=yh t0 t0;have hl:(l.take i).length<=n:=by rw[jl];have:=h.le;omega
 have lt:((l.take i).length:Int)*(2*10^k*(2*10^k))<=(n:Int)*(2*10^k*(2*10^k)):=zh (by omega) tt;have mem:∀p∈l.take i,p∈l:=fun p hp=>List.mem_of_mem_take hp
 have s1:=GA (zg x0) (zg y0) hc x1 y1;have s2:=GA (zg x0) (zg x0) hc x1 x1;constructor
 ·exact Ml.sz (Ku fun p hp=>⟨(x4 p.1 (zi.2 ⟨p,mem p hp,rfl⟩)).1,(y4 p.2 (zi.2 ⟨p,mem p hp,rfl⟩)).1⟩) (zz x0 y0) ((LL t0 fun p hp=>⟨(x4 p.1 (zi.2 ⟨p,mem p hp,rfl⟩)).2,(y4 p.2 (zi.2 ⟨p,mem p hp,rfl⟩)).2⟩).mono lt) s1.1 s1.2
 ·rw[I0];refine Ml.sz (D:=((l.map zl).length:Int)*Hn (l.map zl)*(((l.map zl).length:Int)*Hn (l.map zl))) (Ku fun p hp=>?_) (zz x0 x0) ((LL t0 fun p hp=>?_).mono (by rw[zq];exact lt)) s2.1 s2.2
  ·obtain⟨r,hr,rfl⟩:=zi.1 hp;have:=(x4 r.1 (zi.2 ⟨r,mem r hr,rfl⟩)).1;exact⟨this,this⟩
  ·obtain⟨r,hr,rfl⟩:=zi.1 hp;have:=(x4 r.1 (zi.2 ⟨r,mem r hr,rfl⟩)).2;exact⟨this,this⟩
theorem G9{k n a:Nat}{x:List Rat}(h0:0<x.length)(hn:x.length<=n)(hs:∀q∈x,C0 k q)(ha:(n:Int)*((10:Int)^k)^n<=(10:Int)^a):C0 (k+a+1) (Ba x):=by
 obtain⟨x0,x1,x2,x3,_⟩:=DT h0 hn hs ha;have p0:(0:Int)<10^a:=yc (by decide);have q0:(0:Int)<10^k:=yc (by decide);have k1:(10:Int)^k*((x.length:Int)*Hn x)<=(10:Int)^k*10^a:=yw x1 (zg q0);have k2:(10:Int)^(k+a+1)=(10:Int)^k*10^a*10:=by rw[qw,yi]
 have k3:(0:Int)<10^k*10^a:=zz q0 p0;have k4:(10:Int)^a<=(10:Int)^k*10^a:=by
  have:=zh (show 1<=(10:Int)^k by omega) (zg p0);rwa [qg]at this
 exact Ml.sz x2 x0 x3 (by rw[k2];omega) (by rw[k2];omega)
theorem jZ{k n a c:Nat}{l:List (Rat×Rat)}(h:RF k n l)(ha:(n:Int)*((10:Int)^k)^n<=(10:Int)^a)(hc:(n:Int)*(2*(10:Int)^k*(2*(10:Int)^k))<=(10:Int)^c)(hw:B7 (Ba (l.map zl)) l≠0):C0 ((k+a+1)+((c+a+a+a+1)+(k+a+1))+1) (DS l):=by
 have lx:(l.map zl).length=l.length:=zq ..;have ly:(l.map yb).length=l.length:=zq ..;have m1:=G9 (x:=l.map zl) (by rw[lx];exact h.pos) (by rw[lx];exact h.le) (fun q hq=>by obtain⟨p,hp,rfl⟩:=zi.1 hq;exact(h.sz p hp).1) ha;have m2:=G9 (x:=l.map yb) (by rw[ly];exact h.pos) (by rw[ly];exact h.le) (fun q hq=>by obtain⟨p,hp,rfl⟩:=zi.1 hq;exact(h.sz p hp).2) ha;exact m2.sub ((O1 h ha hc hw).mul m1)
theorem aF{D E F X Y A:Int}{a b xm ym:Rat}(hb:b=ym-a*xm)(hF:Ml F a)(hA:EI A a)(A0:0<=A){p:Rat×Rat}(h1:Ml D (p.1-xm))(h2:EI X (p.1-xm))(h3:Ml E (p.2-ym))(h4:EI Y (p.2-ym)):
  Ml (E*(F*D)) (p.2-(a*p.1+b))/\EI (Y+A*X) (p.2-(a*p.1+b)):=by
 have e:p.2-(a*p.1+b)=(p.2-ym)-a*(p.1-xm):=by rw[hb];grind
 rw[e];exact⟨(h3.right _).sub ((hF.mul h1).left _),h4.sub (EI.mul A0 hA h2)⟩
theorem UL{G B:Int}{a b:Rat}(B0:0<=B):∀ {l:List (Rat×Rat)},(∀p∈l,Ml G (p.2-(a*p.1+b))/\EI B (p.2-(a*p.1+b)))->Ml (G*G) (J5 a b l)/\EI (l.length*(B*B)) (J5 a b l)
 |[],_=>⟨Ml.zero,by
  show EI (0*_) 0;rw[j7];exact⟨by decide+kernel,by decide+kernel⟩⟩
 |p::l,h=>by
  obtain⟨h1,h2⟩:=h p (zr ..);obtain⟨k1,k2⟩:=UL B0 (l:=l) fun x hx=>h x (zt _ hx)
  refine⟨(h1.mul h1).add k1,?_⟩;have:=(EI.mul B0 h2 h2).add k2;rw[show(((p::l).length:Nat):Int)*(B*B)=B*B+l.length*(B*B)by rw[zm,y7,Int.add_mul,j8];congr 1;exact qg _];exact this
theorem P0{k j:Nat}{a b:Rat}(ha:C0 j a)(hb:C0 j b):∀ {l:List (Rat×Rat)},(∀p∈l,C0 k p.1/\C0 k p.2)->C0 ((2*(2*k+2*j+2)+1)*l.length+1) (J5 a b l)
 |[],_=>by
  rw[List.length_nil,Nat.mul_zero];exact show C0 1 0 from⟨by decide,by decide⟩
 |p::l,h=>by
  have h1:=h p (zr ..);have d:=h1.2.sub ((ha.mul h1.1).add hb);have r:=P0 ha hb (l:=l) fun x hx=>h x (zt _ hx)
  rw[J5];refine((d.mul d).add r).mono ?_;have e:(2*(2*k+2*j+2)+1)*(p::l).length=(2*(2*k+2*j+2)+1)*l.length+(2*(2*k+2*j+2)+1):=Nat.mul_succ ..;rw[e];generalize (2*(2*k+2*j+2)+1)*l.length=m;omega
theorem G3(k:Nat):(0:Int)<10^k:=yc (by decide)
theorem Fu{A B:Int}{a b:Nat}(hB:0<=B)(h1:A<=(10:Int)^a)(h2:B<=(10:Int)^b):A*B<=(10:Int)^(a+b):=by
 rw[yi];exact yq h1 h2 hB (zg (G3 a))
theorem uU{f:Nat}{q:Rat}(h:C0 f q):0<(q.den:Int)/\(q.den:Int)<=(10:Int)^f:=by
 have c:(10:Int)^f=((10^f:Nat):Int):=by rw[zy];rfl
 have h1:=h.2;have h2:=q.den_pos;rw[c];omega
theorem ZP{k n a f:Nat}{l:List (Rat×Rat)}(h:RF k n l)(hn:n<=10)(ha:(n:Int)*((10:Int)^k)^n<=(10:Int)^a)(hs:C0 f (Bm l))(i:Nat):C0 (1+(f+k+2+(f+k+2))+(a+(f+a)+(a+(f+a)))+1) (J5 (Bm l) (DS l) (l.take i)):=by
 have lx:(l.map zl).length=l.length:=zq ..;have ly:(l.map yb).length=l.length:=zq ..;obtain⟨x0,x1,_,_,x4⟩:=DT (x:=l.map zl) (by rw[lx];exact h.pos) (by rw[lx];exact h.le) (fun q hq=>by obtain⟨p,hp,rfl⟩:=zi.1 hq;exact(h.sz p hp).1) ha;obtain⟨y0,y1,_,_,y4⟩:=DT (x:=l.map yb) (by rw[ly];exact h.pos) (by rw[ly];exact h.le) (fun q hq=>by obtain⟨p,hp,rfl⟩:=zi.1 hq;exact(h.sz p hp).2) ha;obtain⟨F0,F1⟩:=uU hs;have t0:=G3 k;have f0:=G3 f;have hl:(l.take i).length<=10:=by rw[jl];have:=h.le;omega
 have key:∀p∈l.take i,Ml (((l.map yb).length:Int)*Hn (l.map yb)*(((Bm l).den:Int)*(((l.map zl).length:Int)*Hn (l.map zl)))) (p.2-(Bm l*p.1+DS l))/\EI (2*(10:Int)^k+(10:Int)^f*(2*(10:Int)^k)) (p.2-(Bm l*p.1+DS l)):=fun p hp=>by
  have hp:=List.mem_of_mem_take hp;have hx:=x4 p.1 (zi.2 ⟨p,hp,rfl⟩);have hy:=y4 p.2 (zi.2 ⟨p,hp,rfl⟩);exact aF (a:=Bm l) (b:=DS l) rfl (bL _) (kS hs) (zg f0) hx.1 hx.2 hy.1 hy.2
 generalize ((l.map yb).length:Int)*Hn (l.map yb)=E at*;generalize ((l.map zl).length:Int)*Hn (l.map zl)=D at*;generalize ((Bm l).den:Int)=F at*;have FD0:0<F*D:=zz F0 x0;have G0:0<E*(F*D):=zz y0 FD0;have G1:E*(F*D)<=(10:Int)^(a+(f+a)):=Fu (zg FD0) y1 (Fu (zg x0) F1 x1);have c1:(10:Int)^(f+k+2)=10^f*10^k*100:=by rw[yi,yi];rfl
 have c2:(10:Int)^f*(2*10^k)=2*(10^f*10^k):=by rw[<-jj,Int.mul_comm _ 2,jj]
 have c3:(10:Int)^k<=10^f*10^k:=by
  have:=zh (show 1<=(10:Int)^f by omega) (zg t0);rwa [qg]at this
 have B1:2*(10:Int)^k+(10:Int)^f*(2*(10:Int)^k)<=(10:Int)^(f+k+2):=by rw[c1,c2];omega
 have B0:0<=2*(10:Int)^k+(10:Int)^f*(2*(10:Int)^k):=by rw[c2];omega
 generalize 2*(10:Int)^k+(10:Int)^f*(2*(10:Int)^k)=B at*;obtain⟨s1,s2⟩:=UL B0 key;have BB0:0<=B*B:=yh B0 B0;have BB1:B*B<=(10:Int)^(f+k+2+(f+k+2)):=Fu B0 B1 B1;have s3:EI (10*(B*B)) (J5 (Bm l) (DS l) (l.take i)):=s2.mono (zh (by omega) BB0);have GG0:0<E*(F*D)*(E*(F*D)):=zz G0 G0;have GG1:E*(F*D)*(E*(F*D))<=(10:Int)^(a+(f+a)+(a+(f+a))):=Fu (zg G0) G1 G1;have T1:10*(B*B)<=(10:Int)^(1+(f+k+2+(f+k+2))):=Fu BB0 (Int.le_refl (10:Int)) BB1;have T2:=Fu (zg GG0) T1 GG1;have p1:=G3 (a+(f+a)+(a+(f+a)));have p2:=G3 (1+(f+k+2+(f+k+2)));have c4:(10:Int)^(1+(f+k+2+(f+k+2))+(a+(f+a)+(a+(f+a)))+1)=10^(1+(f+k+2+(f+k+2))+(a+(f+a)+(a+(f+a))))*10:=qw ..;have c5:(10:Int)^(a+(f+a)+(a+(f+a)))<=10^(1+(f+k+2+(f+k+2))+(a+(f+a)+(a+(f+a)))):=by
  rw[yi _ (1+(f+k+2+(f+k+2)))];have:=zh (show 1<=(10:Int)^(1+(f+k+2+(f+k+2)))by omega) (zg p1);rwa [qg]at this
 exact Ml.sz s1 GG0 s3 (by rw[c4];omega) (by rw[c4];omega)
theorem T0(a:Rat)(g:Rat->Rat):∀l:List (Rat×Rat),B7 a ((l.map zl).map fun q=>(q,g q))=B7 a l
 |[]=>rfl
 |p::l=>by
  show _+B7 a ((l.map zl).map fun q=>(q,g q))=_+B7 a l;rw[T0 a g l]
theorem P6(g:Rat->Rat):∀x:List Rat,(x.map fun q=>(q,g q)).map zl=x
 |[]=>rfl
 |q::x=>by
  rw[yn,yn,P6 g x]
theorem Us(g:Rat->Rat):∀x:List Rat,(x.map fun q=>(q,g q)).map yb=x.map g
 |[]=>rfl
 |q::x=>by
  rw[yn,yn,Us g x,yn]
theorem Vw{s o:Rat}{x:List Rat}(h:0<x.length):Ba (x.map fun q=>s*q+o)=s*Ba x+o:=by
 have l0:(0:Rat)<((x.length:Int):Rat):=yt.2 (by omega);have l1:=qx l0;have e:=NU h;have e2:s*Cp x+((x.length:Int):Rat)*o=(s*Ba x+o)*((x.length:Int):Rat):=by rw[e];grind
 rw[Ba,QG,zq,e2,yy l1]
theorem gD{s o:Rat}{x:List Rat}(h:0<x.length)(hw:B7 (Ba x) (x.map fun q=>(q,s*q+o))≠0):Bm (x.map fun q=>(q,s*q+o))=s/\DS (x.map fun q=>(q,s*q+o))=o:=by
 have e1:=P6 (fun q=>s*q+o) x;have e2:=Us (fun q=>s*q+o) x;have e3:=Vw (s:=s) (o:=o) h;have hs:Bm (x.map fun q=>(q,s*q+o))=s:=by
  unfold Bm;rw[e1,e2,Ri e3,yy hw]
 refine⟨hs,?_⟩;unfold DS;rw[hs,e1,e2,e3];grind
theorem ZZ{l:List (Rat×Rat)}{c:Rat}(h0:0<l.length)(h:∀p∈l,p.1=c):B7 (Ba (l.map zl)) l=0:=by
 have e:Ba (l.map zl)=c:=Y5 (by rw[zq];exact h0) fun q hq=>by
  obtain⟨p,hp,rfl⟩:=zi.1 hq;exact h p hp
 rw[e];exact Rg h
end Go.Sp
namespace Go.Pe
open Sp
open Go.Det
section
open List Int Prod
namespace T56
def T(n:Int):Tr:=tree sV false 9 56 (Af ([yd yj]) n)
theorem An(n:Int):T n=let a':=yk (yd zw);.ite true (.ite true (.leaf (PV.agg [.dat i64 n,.dat a' (Ca n),.dat i64 (1:Int),.dat a' (Ca 1)]) ([(zu (zu 0 1) 1,.box [.dat i64 n,.dat a' (Ca n),.dat i64 (1:Int),.dat a' (Ca 1)]),(zu 0 1,.box [.dat i64 n,.dat a' (Ca n)]),(0,.box [.dat i64 n,.dat a' (Ca n),.dat i64 (1:Int),.dat a' (Ca 1)])])) .fail) .fail:=by kernel_rfl
end T56
namespace T183
def T(s t:List UInt8):Tr:=tree XX0 false 9 183 (Af ([zf,zf]) (s,t))
theorem An(s t:List UInt8):T s t=let a':=(length t:Int);let b':=decide (toNat a'<=length s);.ite (decide ((length s:Int)>=a')) (.ite (decide (0<=a')&&decide (0<=toNat a')&&b') (.ite (take (toNat a') s==t) (.ite (decide (0<=a')&&true&&b'&&decide (length s<=length s)) (.leaf (.dat zf (take (qy (length s) (toNat a')) (drop (toNat a') s))) []) .fail) (.leaf (.dat zf s) [])) .fail) (.leaf (.dat zf s) []):=by kernel_rfl
end T183
namespace T219
def T(a:Int×List Int):Tr:=tree XX1 false 9 219 (Af ([z7 i64 (yk (yd zw))]) a)
theorem An(a:Int×List Int):T a=let c':=[(0,.box [.dat i64 (fst a),.dat (yk (yd zw)) (snd a)])];let d':=Bw (Ae (z8 (fst a,snd a)));let a':=(↑(length d'):Int);let b':=getD d' (toNat (zc .i64 (a'-1))) 0;.ite (Sp.Dp (fst a,snd a)) (.ite (a'==0) (.leaf (.dat i64 (0:Int)) c') (.ite (decide (0<=zc .i64 (a'-1))&&decide (zc .i64 (a'-1)<a')) (.ite (Sp.u64 b') (.leaf (.dat i64 (zc .i64 (zc .i64 (64*zc .i64 (a'-1))+E7 b'))) c') .fail) .fail)) .fail:=by kernel_rfl
end T219
namespace T192
def T(a:Int×List Int):Tr:=tree Aat false 9 192 (Af ([z7 i64 (yk (yd zw))]) a)
theorem An(a:Int×List Int):T a=let a':=[(0,.box [.dat i64 (fst a),.dat (yk (yd zw)) (snd a)])];let b':=A1 (z8 (fst a,snd a));.ite (Bc (fst a,snd a)) (.ite (decide (OU (fst a,snd a)>1800)) (.ite (Bc (fst a,snd a)) (.ite (Sm b' [(45:UInt8)]) (.leaf (.dat zj (decide ((↑(length (AZ b')):Int)>600))) a') .fail) .fail) (.leaf (.bl false) a')) .fail:=by kernel_rfl
end T192
namespace T138
def T(a:(Int×List Int)×Int×List Int):Tr:=tree XX2 false 9 138 (Af ([z7 (z7 i64 (yk (yd zw))) (z7 i64 (yk (yd zw)))]) a)
theorem An(a:(Int×List Int)×Int×List Int):T a=let b':=yk (yd zw);let c':=(fst (fst a),snd (fst a));let d':=(fst (snd a),snd (snd a));let a':=[(0,.box [.dat i64 (fst (fst a)),.dat b' (snd (fst a)),.dat i64 (fst (snd a)),.dat b' (snd (snd a))])];.ite (Bc c') (.ite (Ex c') (.leaf (.bl true) a') (.ite (Bc d') (.leaf (.dat zj (Ex d')) a') .fail)) .fail:=by kernel_rfl
end T138
namespace T139
def T(a:(Int×List Int)×Int×List Int):Tr:=tree XX2 false 9 139 (Af ([z7 (z7 i64 (yk (yd zw))) (z7 i64 (yk (yd zw)))]) a)
theorem An(a:(Int×List Int)×Int×List Int):T a=let b':=(fst (fst a),snd (fst a));let c':=(fst (snd a),snd (snd a));let d':=yk (yd zw);let a':=[(0,.box [.dat i64 (fst (fst a)),.dat d' (snd (fst a)),.dat i64 (fst (snd a)),.dat d' (snd (snd a))])];.ite true (.ite (CR c') (.ite (Bc b') (.leaf (.dat zf (A1 (z8 b'))) a') .fail) (.ite (Bc b') (.ite (decide (length (A1 (z8 b'))+1<=4611686018427387904)) (.ite (Bc c') (.ite (decide (length (A1 (z8 b')++[(47:UInt8)])+length (A1 (z8 c'))<=4611686018427387904)) (.leaf (.dat zf (A1 (z8 b')++[(47:UInt8)]++A1 (z8 c'))) a') .fail) .fail) .fail) .fail)) .fail:=by kernel_rfl
end T139
namespace T65
def T(a:(Int×List Int)×Int×List Int):Tr:=tree XX3 false 9 65 (Af ([z7 (z7 i64 (yk (yd zw))) (z7 i64 (yk (yd zw)))]) a)
theorem An(a:(Int×List Int)×Int×List Int):T a=let a':=yk (yd zw);let b':=(fst (fst a),snd (fst a));.ite (Sp.Dp b') (.leaf (.dat i64 (H3 b')) ([(0,.box [.dat i64 (fst (fst a)),.dat a' (snd (fst a)),.dat i64 (fst (snd a)),.dat a' (snd (snd a))])])) .fail:=by kernel_rfl
end T65
end
namespace T193
variable {Q:PV->Ob->Prop}
theorem Ao(neg:Bool)(V:Nat)(h0:0<V)(hV:Small V)(hG:(Cm (V+1) V).length<=1000000)(hfin:Exit neg (Cm (V+1) V) Q):Ends Ql (L1 neg (Bw (V:Int)) 1 [1000000000000000000]) Q:=by
 have hlt:V % 10^18<10^18:=Nat.mod_lt _ (by decide);have hg:∀s,s=(if V/10^18=0 then zd (V % 10^18)else Gd 18 (V % 10^18))->[s]++(if V/10^18=0 then[]else Cm V (V/10^18))=Cm (V+1) V:=by
  rintro s rfl;have eg:Cm (V+1) V=if V<10^18 then[zd V]else Gd 18 (V % 10^18)::Cm V (V/10^18):=rfl
  rw[eg];by_cases c:V<10^18
  ·rw[wd c,wd (by omega),wd (by omega),Nat.mod_eq_of_lt c];rfl
  ·rw[wc c,wc (by omega),wc (by omega)];rfl
 have next:∀s,s=(if V/10^18=0 then zd (V % 10^18)else Gd 18 (V % 10^18))->Ends Ql (L2 neg (Bw ((V/10^18:Nat):Int)) 1 1 [s] [1000000000000000000]) Q:=
  fun s hs=>A4 neg _ hG hfin V (V/10^18) [s] (by omega) (hV.le (jz _ _)) (hg s hs)
 refine Ends.Aq (Au ..) (zo (w4 (by have:=Jh h0;omega)) (zo (Aa rfl hV.div) ?_));rw[TR,U8];rcases Nat.eq_zero_or_pos (V % 10^18)with r0|r0
 ·have q0:V/10^18≠0:=by omega
  rw[r0,show((0:Nat):Int)=0 from rfl,Ks];refine Ends.ff rfl (zo (w4 (by have:=Jh (V:=V/10^18) (by omega);omega)) (zo rfl (zo rfl (zo rfl (next _ ?_)))));have hp:=R3 0 (by decide);rw[y8 (by omega)]at hp;rw[wc q0,r0, <-hp];rfl
 ·rw[Ui (r:=((V % 10^18:Nat):Int)) (by omega) (by omega)];have hgd:List.getD [((V % 10^18:Nat):Int)] 0 0=((V % 10^18:Nat):Int):=rfl;rw[hgd,MI];have hd:=RR hlt;have hr18:((V % 10^18:Nat):Int)<1000000000000000000:=by omega
  have h18:0<(zd (V % 10^18)).length:=by
   rw[yu,Lib.nDigits];split<;>omega
  refine zo rfl (zo rfl (zo (Aa (Aa (w4 (Int.natCast_nonneg _)) (w4 hr18)) rfl) ?_));rw[wr _ (by omega) (by omega)];by_cases q0:V/10^18=0
  ·rw[q0];refine Ends.ff (by rw[show((0:Nat):Int)=0 from rfl,Ks];rfl) (zo rfl ?_);have:=next _ rfl;rw[wd q0,q0]at this;exact this
  ·have hpad:=R3 _ hlt;refine zo (w4 (by have:=Jh (V:=V/10^18) (by omega);omega)) (zo (Aa (Aa (w4 (by omega)) (w4 (by omega))) rfl) (zo (w4 ?_) (zo rfl (next _ ?_))))
   ·rw[<-ye,hpad];unfold Gd;rw[ye,List.length_replicate];omega
   ·rw[wc q0];exact hpad
end T193
theorem vF(n:Nat):(18446744073709551616:Nat)^n<=10^(20*n):=by
 rw[Nat.pow_mul];exact Nat.pow_le_pow_left (by decide) n
theorem Zb{V k:Nat}(h:(V:Int)<(Ai:Int)^k):V<18446744073709551616^k:=by
 rw[<-SX k]at h;exact qz.mp h
theorem Ze{V k:Nat}(h:(V:Int)<(Ai:Int)^k)(hk:1<=k):(zd V).length<=20*k:=by
 rw[yu];obtain⟨j,hj⟩:∃j,20*k=j+1:=⟨20*k-1,by omega⟩;have h3:=yx (Zb h) (vF k);rw[hj]at h3 ⊢;exact NA j V h3
theorem HG{V:Nat}(h:Small V):(zd V).length<=180000:=Ze (k:=9000) h.h (by decide)
theorem Ms:∀(f v:Nat) (s:List UInt8),s∈Cm f v->0<s.length
 |0,v,s,h=>by cases h
 |f+1,v,s,h=>by
  have eg:Cm (f+1) v=if v<10^18 then[zd v]else Gd 18 (v % 10^18)::Cm f (v/10^18):=rfl
  have hd:∀r,0<(zd r).length:=fun r=>by rw[yu,Lib.nDigits];split<;>omega
  rw[eg]at h;split at h
  ·rw[List.mem_singleton]at h;subst h;exact hd _
  ·rcases j6.1 h with rfl|h
   ·unfold Gd;rw[ye];have:=hd (v % 10^18);omega
   ·exact Ms f _ s h
theorem OB:∀(l:List (List UInt8)),(∀s∈l,0<s.length)->l.length<=l.flatten.length
 |[],_=>qc _
 |s::l,h=>by
  have h1:=OB l fun x hx=>h x (zt _ hx)
  have h2:=h s (zr ..);rw[List.flatten_cons,ye,zm];omega
theorem Zs{V:Nat}(h:0<V):A1 (-(V:Int))=45::zd V:=Lib.itoa_neg V h
theorem sC(hfmt:Ag Bi 222 Tx):Ey Ql:=Ab sI (Ab (T189.ok Fm) (Ab Rl (Ab hfmt (Ab aS AU))))
namespace T193
variable {Q:PV->Ob->Prop}
theorem aM(neg:Bool){V:Nat}(hV:Small V)(hq:∀ob,Q (.dat .str (if neg=true then 45::zd V else zd V)) ob):Exit neg (Cm (V+1) V) Q:=by
 have hne:=Ms (V+1) V;have ht:=Ia (V+1) V (by omega);have hd:=HG hV;have hl:=OB _ hne;have hr:(Cm (V+1) V).flatten.length=(zd V).length:=by
  rw[<-ht,qj,qj,List.map_reverse,List.sum_reverse]
 have hpos:0<(Cm (V+1) V).length:=by
  have eg:Cm (V+1) V=if V<10^18 then[zd V]else Gd 18 (V % 10^18)::Cm V (V/10^18):=rfl
  rw[eg];split<;>simp
 generalize Cm (V+1) V=G at*;unfold Exit;refine jm (fun c=>zo rfl (zo rfl ?_)) (fun c=>?_)
 ·rw[wd c]at hq;rw[wr _ (by omega) (by omega)];exact ET G (45::zd V) (by rw[zm];omega) (by omega) hq G.length [45] _ 1 (qc _) rfl rfl (by decide) (by rw[List.take_length,ht];rfl)
 ·rw[wc (by rw[c];decide)]at hq;rw[wr _ (by omega) (by omega)];obtain⟨i,hi⟩:∃i,i+1=G.length:=⟨G.length-1,by omega⟩;exact Fl G (zd V) (by omega) (by omega) hq i hi _ (by omega) (hne _ (List.getElem_mem _)) ht
theorem ok(hfmt:Ag Bi 222 Tx):Ag Bi 193 yB:=by
 refine MN (X:=Ql) rfl (sC hfmt) (d:=9) (by kernel_rfl) (by kernel_rfl) (by kernel_rfl) (fun(a:Int×List Int) ha=>?_) (BD (by kernel_rfl));have ha:Bc a=true:=ha;have hk:=(B2 ha).1;have hr:=(DZ hk).1;refine q9 (An a) (jm (fun c=>zo (DM hr.1 hr.2) (yg (jo rfl rfl ?_))) (fun c=>zo hk ?_))
 ·have c:a.2=[]:=by simpa using c
  show A1 a.1=A1 (z8 a);rw[Bp c]
 ·have c:a.2≠[]:=by rintro k;rw[k]at c;simp at c
  have hb:=bounds ha;have hbig:(9223372036854775808:Int)<=Ae (z8 a):=by
   obtain⟨_,hw⟩:=DZ hk;obtain⟨s,w⟩:=a;rcases hw with hw|⟨_,_,h3⟩
   ·exact wh hw c
   ·rw[V0 c,Ah];have h3:9223372036854775808<=Am w:=h3;split<;>omega
  obtain⟨V,hV⟩:=Int.eq_ofNat_of_zero_le (AG (z8 a));have hVa:=Ah (z8 a);rw[hV]at hb hbig hVa ⊢;have hs:Small V:=⟨hb⟩;have hd:=HG hs;have hp:0<V:=by omega
  have hl:=OB _ (Ms (V+1) V);have ht:=Ia (V+1) V (by omega);have hlen:(Cm (V+1) V).flatten.length=(zd V).length:=by
   rw[<-ht,qj,qj,List.map_reverse,List.sum_reverse]
  refine Ao _ V hp hs (by omega) (aM _ hs fun ob=>jo rfl rfl ?_);show(if decide (z8 a<0)=true then 45::zd V else zd V)=A1 (z8 a);by_cases n:z8 a<0
  ·rw[wd (w4 n),show z8 a= -(V:Int)from by omega,Zs hp]
  ·rw[wc (by simpa using n),show z8 a=(V:Int)from by omega,MI]
end T193
theorem W9{k:Nat}{n d:Int}(hd:d≠0)(h1:Ae n<(Ai:Int)^k)(h2:Ae d<(Ai:Int)^k):Lj k (qq n d):=by
 unfold Lj;rw[Rat.num_divInt,Rat.den_divInt,wc hd];constructor
 ·refine Int.lt_of_le_of_lt WU ?_;rw[I6];have:Ae d.sign=1:=by rw[Ah,jc hd];rfl
  rw[this,qg];exact h1
 ·refine Int.lt_of_le_of_lt ?_ h2;rw[Ah];exact Int.ofNat_le.mpr (jz _ _)
theorem qI{f:Al}(h:kh f=true)(h0:z8 f.1≠0):kh (Tt f)=true:=by
 obtain⟨a1,a2,la1,la2,a0⟩:=GI h;exact(Nt a2 a1 h0).BL (W9 h0 la2 la1)
theorem nK{f:Al}(h:kh f=true):kh (xU f)=true:=by
 obtain⟨a1,a2,la1,la2,a0⟩:=GI h;unfold kh ki at*;have hk:=Wi (k:=4000) (B2 a1).1 (by omega) (by omega) (V8 (B2 a1).1 la1);exact Aa (Aa (Gt hk.1 (by show Ae (z8 (De f.1))<_;rw[Iy,Iv];exact la1)) (Gt (B2 a2).1 la2)) (w4 a0)
theorem XM:Ey XA3:=Ab T134.ok (Ab T71.ok (Ab T64.ok (Ab T133.ok AU)))
theorem T63.ok:Ag Bi 63 fF:=by
 refine Cc XM (fun(i:((Int×List Int)×(Int×List Int))×((Int×List Int)×(Int×List Int))) hi=>?_);obtain⟨a,b⟩:=i;have hi:(kh a&&kh b)=true:=hi;rw[zk]at hi;obtain⟨b1,b2,lb1,lb2,b0⟩:=GI hi.2;exact q9 (T63.An a b) (zo (B2 b1).1 (zo (Aa hi.1 (nK hi.2)) (yg (jo rfl rfl rfl))))
theorem T60.ok:Ag Bi 60 tS:=by
 refine Cc XM (fun(i:((Int×List Int)×(Int×List Int))×((Int×List Int)×(Int×List Int))) hi=>?_);obtain⟨a,b⟩:=i;have hi:(kh a&&kh b&&decide (z8 b.1≠0))=true:=hi;rw[zk,zk,w5]at hi;exact q9 (T60.An a b) (zo (Aa hi.1.2 (w4 hi.2)) (zo (Aa hi.1.1 (qI hi.1.2 hi.2)) (yg (jo rfl rfl rfl))))
end Go.Pe
namespace Go.Sp
theorem DB{a:Bool×List Int}(h:CQ a=true):A9 a.2=true/\a.2.length<=3000/\(a.1=true->a.2≠[]):=by
 unfold CQ at h;rw[zk,zk,w5,Bool.or_eq_true,w5,Bool.not_eq_true']at h;refine⟨h.1.1,h.1.2,fun k=>?_⟩;rcases h.2 with x|x
 ·rw[k]at x;cases x
 ·exact x
theorem GK{a:Bool×List Int}(h:CQ a=true):Ae (vR a)=At a.2/\0<=At a.2:=by
 obtain⟨h1,h2,h3⟩:=DB h;have h0:=AA (b:=B9) (by decide) (Bo h1).2.1;have h0:0<=At a.2:=h0;refine⟨?_,h0⟩;unfold vR;rw[Ah];split<;>omega
theorem PL{a:Bool×List Int}(h:CQ a=true):a.1=rN (vR a):=by
 obtain⟨h1,h2,h3⟩:=DB h;obtain⟨_,h0⟩:=GK h;unfold rN vR;cases ha:a.1 with
 |false=>rw[wc (by decide)];symm;rw[w9];omega
 |true=>
  rw[wd rfl];symm;rw[w5];have:=Jm (b:=B9) (by decide) (Bo h1).2.1 (Bo h1).2.2 (h3 ha);have:0<At a.2:=this;omega
theorem uZ{a:Bool×List Int}(h:CQ a=true):a.2=rW (vR a):=by
 unfold rW;rw[(GK h).1];exact Ix (b:=B9) (by decide) (Bo (DB h).1).2.1 (Bo (DB h).1).2.2
theorem tE{a:Bool×List Int}(h:CQ a=true):a=(rN (vR a),rW (vR a)):=Prod.ext (PL h) (uZ h)
theorem VJ(k:Nat):(B9:Int)^k=10^(9*k):=by
 have:(B9:Int)=10^9:=by decide
 rw[this, <-Int.pow_mul]
theorem rG{n:Int}{k:Nat}(h:n.natAbs<10^(9*k)):Ae n<(B9:Int)^k:=by
 rw[Ah,VJ];have:((10^(9*k):Nat):Int)=(10:Int)^(9*k):=by simp
 rw[<-this];exact qz.mpr h
theorem NO(n:Int):0<=Ae n:=by rw[Ah];omega
theorem J6(n:Int):At (rW n)=Ae n:=CV (b:=B9) (by decide) (NO n)
theorem EY(n:Int):vR (rN n,rW n)=n:=by
 unfold vR;show(if rN n=true then -At (rW n)else At (rW n))=n;rw[J6,Ah];unfold rN;by_cases h:n<0
 ·rw[wd (w4 h)];omega
 ·rw[wc (by simpa using h)];omega
theorem S8{n:Int}(h:n.natAbs<10^27000):CQ (rN n,rW n)=true:=by
 have k:27000=9*3000:=rfl;rw[k]at h;obtain⟨h1,_,h3,h4⟩:=Hc (n:=Ae n) (k:=3000) (NO n) (rG h) (by decide);unfold CQ;have h5:A9 (rW n)=true:=h1;have h6:(rW n).length<=3000:=h4;rw[h5,w4 h6];cases hb:rN n with
 |false=>rfl
 |true=>
  have:rW n≠[]:=by
   intro e;have h7:=J6 n;rw[e]at h7;have h7:0=Ae n:=h7;unfold rN at hb;have hb:=w6 hb;rw[Ah]at h7;omega
  rw[w4 this];rfl
theorem bT(k:Nat):((10^k:Nat):Int)=(10:Int)^k:=by rw[zy];rfl
theorem yH{x:Nat}(j k:Nat)(h:j<=k)(hx:x<10^j):x<10^k:=yx hx (qd (by decide) h)
theorem wQ{a:Bool×List Int}(h:CQ a=true):(vR a).natAbs<10^27000:=by
 obtain⟨h1,h2,h3⟩:=DB h;have h4:=Bu (b:=B9) (by decide) (Bo h1).2.1;have h5:(B9:Int)^a.2.length<=(B9:Int)^3000:=AL (by decide) h2;have h6:Ae (vR a)<(B9:Int)^3000:=by rw[(GK h).1];exact yz h4 h5
 rw[Ah,VJ]at h6;have:=bT (9*3000);rw[<-this]at h6;have k:27000=9*3000:=rfl;rw[k];exact qz.mp h6
theorem bV{neg:Bool}{w:List Int}{n:Int}(hd:Aw B9 w)(hv:At w=Ae n)(hn:n≠0->neg=rN n):(Cg neg w,Av w)=(rN n,rW n):=by
 have h:=Go.Pe.LV (neg:=neg) hd hv;rw[h];have:(if neg=true then -Ae n else Ae n)=n:=by
  by_cases h0:n=0
  ·rw[h0];unfold Ae;split<;>simp
  ·rw[hn h0];unfold rN;rw[Ah];by_cases h:n<0
   ·rw[wd (w4 h)];omega
   ·rw[wc (by simpa using h)];omega
 rw[this]
theorem ES{s:List UInt8}(h:Bk s=true):CQ (BE s,Bv s)=true/\vR (BE s,Bv s)=A8 s/\CQ (Bn s,Bf s)=true/\vR (Bn s,Bf s)=AI s/\(Ar s).num=A8 s/\((Ar s).den:Int)=AI s/\Da s=true/\(A8 s).natAbs<10^4000/\(AI s).natAbs<10^4000:=by
 obtain⟨h1,h2⟩:=Ho h;obtain⟨s1,s2⟩:=Sc h;have e:(Ar s).num=A8 s/\((Ar s).den:Int)=AI s:=by
  have:=Kd (Ar s);rw[h1]at this;exact⟨this.1.symm,this.2.symm⟩
 have l1:(A8 s).natAbs<10^4000:=by rw[<-e.1];exact s1
 have l2:(AI s).natAbs<10^4000:=by rw[<-e.2,zp];exact s2
 have m:∀x:Nat,x<10^4000->x<10^27000:=fun x hx=>yH 4000 27000 (by decide) hx
 refine⟨S8 (m _ l1),EY _,S8 (m _ l2),EY _,e.1,e.2,?_,l1,l2⟩;obtain⟨c1,c2,c3⟩:=FG (Ar s);rw[h1]at c1 c2 c3;have k1:=Go.Pe.T69.Ds s;unfold Da El;rw[w4 (p:=s.length<=5999) (by omega),w4 (p:=(Ay s).length<=5999) (by omega),w4 (p:=(AN s).length<=5999) (by omega),qk,qk,Bool.and_true,zk];refine⟨?_,?_⟩
 ·obtain⟨i1,i2,i3,i4⟩:=Dm (Ar s).num;rw[c1];unfold AZ at i2;split at i2
  ·next c=>rw[wd c,i2];exact DP _
  ·next c=>rw[wc c,i2];exact DP _
 ·rw[c2];split
  ·rfl
  ·rw[wc (Fx (DP _))];exact DP _
end Go.Sp
namespace Go.Pe
open Sp
open Go.Det
theorem W8{x:Int}{k:Nat}(h:x.natAbs<10^k):Ae x<(Ai:Int)^k:=by
 have h4:((10^k:Nat):Int)=(10:Int)^k:=zy ..;rw[Ah];refine yz ?_ (jH k);rw[<-h4];exact qz.mpr h
theorem VR{q:Rat}{k:Nat}(h:C0 k q)(hk:k<=4000):Lj 4000 q:=by
 obtain⟨h1,h2⟩:=h.mono hk;have h3:=W8 (k:=4000) (x:=(q.den:Int)) (by rw[zp];exact h2);rw[Ah,zp]at h3;exact⟨W8 h1,h3⟩
def frS(s:List UInt8):Al:=((Mv s,PH s),(JY s,L0 s))
theorem TP{s:List UInt8}(h:Bk s=true):Fv (frS s) (Ar s):=by
 obtain⟨_,_,_,_,e1,e2,_,l1,l2⟩:=ES h;have m:∀x:Int,x.natAbs<10^4000->Ae x<(Ai:Int)^9000:=fun x hx=>yz (W8 hx) (AL (by decide) (by decide))
 exact⟨(B2 (FC (DO (m _ l1)))).1,(B2 (FC (DO (m _ l2)))).1,(LK _).trans e1.symm,(LK _).trans e2.symm⟩
theorem Zw{d:AT}(h:Sp.Dp d=true):CR d=decide (z8 d=1):=by
 unfold CR;rw[Bool.eq_iff_iff,zk,w5,w5,w5];refine⟨fun⟨h1,h2⟩=>by rw[Bp h1];exact h2,fun e=>?_⟩;by_cases c:d.2=[]
 ·rw[Bp c]at e;exact⟨c,e⟩
 ·obtain⟨_,hw⟩:=DZ h;obtain⟨s,w⟩:=d;rcases hw with hw|⟨_,_,h3⟩
  ·exact wh hw c
  ·rw[V0 c]at e;have h3:9223372036854775808<=Am w:=h3;split at e<;>omega
theorem aI{f:Al}{q:Rat}(h:Fv f q):It f=P3 q:=by
 unfold It Ex P3;rw[h.vn,h.vd]
theorem fS{f:Al}{q:Rat}(h:Fv f q):JD f=AW q:=by
 unfold JD AW;rw[Zw h.d,h.vn,h.vd];have e:decide ((q.den:Int)=1)=true↔q.den=1:=by rw[w5];omega
 by_cases c:q.den=1
 ·rw[wd (e.2 c),wd c];rfl
 ·rw[wc (fun k=>c (e.1 k)),wc c];show z6 q.num++47::z6 ((q.den:Nat):Int)=_;rw[Lib.itoa_nonneg]
theorem XU{f:Al}{q:Rat}(h:Fv f q):JB f=jT 0 q/\Hd f=iR 0 q:=by
 unfold JB Hd jT iR;rw[aI h,fS h];exact⟨rfl,rfl⟩
theorem Fv.EZ{f:Al}{q:Rat}(h:Fv f q)(hs:Lj 4000 q):ki f=true:=by
 have:=h.BL hs;unfold kh at this;rw[zk]at this;exact this.1
theorem Fv.HH{f:Al}{q:Rat}(h:Fv f q):decide (z8 f.1≠0)=decide (q≠0):=by
 rw[h.vn,decide_eq_decide,wm,qu]
end Go.Pe
namespace Go.Sp
theorem fE{n:Int}(h:0<=n):n+1<=2^(E7 n).toNat:=by
 unfold E7;split
 ·have:n=0:=by omega
  subst this;decide
 ·have hb:=Nat.lt_log2_self (n:=n.toNat);have e:((n.toNat.log2:Int)+1).toNat=n.toNat.log2+1:=by omega
  have e2:((2^(n.toNat.log2+1):Nat):Int)=(2:Int)^(n.toNat.log2+1):=zy ..;rw[e, <-e2];generalize 2^(n.toNat.log2+1)=P at*;omega
theorem wL{w:List Int}(hd:Aw Ai w){k:Nat}(hl:w.length=k+1):val Ai w<(Ai:Int)^k*(w.getD k 0+1):=by
 have h1:=Cj (Ai:Int) w k (by omega);have h2:=Bu (b:=(Ai:Int)) (by decide) (AM hd k);rw[jl,Nat.min_eq_left (by omega)]at h2;have h3:w.drop k=[w.getD k 0]:=by
  rw[Ch (by omega),List.drop_eq_nil_of_le (by omega)]
 rw[h3]at h1;have h4:val Ai [w.getD k 0]=w.getD k 0:=by
  show w.getD k 0+(Ai:Int)*0=_;omega
 rw[h4]at h1;rw[Int.mul_add,Int.mul_one];omega
theorem Wc(k:Nat):((10^k:Nat):Int)=(10:Int)^k:=by rw[zy];rfl
theorem jB(k:Nat):2^(3*k)<=10^k:=by rw[Nat.pow_mul];exact Nat.pow_le_pow_left (by decide) k
theorem kU(k:Nat):(2:Int)^(3*k)<=10^k:=by
 have h2:((2^(3*k):Nat):Int)<=((10^k:Nat):Int):=Int.ofNat_le.2 (jB k);rw[zy,zy]at h2;exact h2
theorem sO:(2:Int)^1800<=10^600:=by
 have h:=kU 600;have k:3*600=1800:=rfl;rw[k]at h;exact h
theorem oO{a:AT}(h:OU a<=1800):Ex a=false:=by
 have a0:0<=Ae (vI a):=by rw[Ah];omega
 have hv:=CV (b:=Ai) (by decide) a0;have hd:=Fp (b:=Ai) (by decide) (Ae (vI a));have key:Ae (vI a)<2^1800:=by
  unfold OU at h;have hv:val Ai (Bw (Ae (vI a)))=Ae (vI a):=hv;have hd:Aw Ai (Bw (Ae (vI a))):=hd;generalize Bw (Ae (vI a))=w at*;rw[<-hv];by_cases hw:w=[]
  ·subst hw;show(0:Int)<_;exact yc (by decide)
  ·rw[wc hw]at h;obtain⟨k,hk⟩:∃k,w.length=k+1:=⟨w.length-1,by have:=List.length_pos_iff.2 hw;omega⟩;have ht:=wL hd hk;have g:=J1 (b:=(Ai:Int)) (by decide) hd k;have hp:=fE g.1;have hl:=(Go.Pe.Sb g.1 (by have:(Ai:Int)=18446744073709551616:=rfl;omega)).1;rw[hk,Nat.add_sub_cancel,show((k+1:Nat):Int)-1=(k:Int)by omega]at h;have hB:(0:Int)<(Ai:Int)^k:=AO (by decide) k;have h5:=yw hp (zg hB);have e1:(Ai:Int)^k=2^(64*k):=by
    have:(Ai:Int)=2^64:=by decide
    rw[this, <-Int.pow_mul]
   rw[e1, <-yi]at h5;rw[e1]at ht;have h6:(2:Int)^(64*k+(E7 (w.getD k 0)).toNat)<=2^1800:=AL (by decide) (by omega);exact yz ht (ke h5 h6)
 have h7:=yz key sO;unfold Ex OW;rw[w9];have:(vI a).natAbs<10^600:=by
  rw[Ah]at h7;have e:=Wc 600;rw[<-e]at h7;exact qz.mp h7
 have:=Dl this (by decide);omega
end Go.Sp
namespace Go.Pe
open Sp
open Go.Det
theorem rV:Ey XX0:=fun g sp h=>by cases h
theorem T183.ok:Ag Bi 183 SF:=by
 refine Cc rV (fun(i:List UInt8×List UInt8) hi=>?_);obtain⟨s,t⟩:=i;have hi:(decide (t=[45])&&decide (s.length<=1000000))=true:=hi;rw[zk,w5,w5]at hi;obtain⟨rfl,hl⟩:=hi;have hq:∀v ob,v=AZ s->Ad SF (s,[45]) (.dat .str v) ob:=fun v ob h=>jo rfl rfl h
 refine q9 (T183.An s [45]) ?_;conv=>zeta
 cases s with
 |nil=>exact Ends.ff rfl (yg (hq _ _ rfl))
 |cons c r=>
  have e1:Int.toNat (([(45:UInt8)].length:Nat):Int)=1:=rfl;have e2:List.take 1 (c::r)=[c]:=rfl;have e3:List.take (qy (c::r).length 1) (List.drop 1 (c::r))=r:=List.take_of_length_le (qc _);have g0:(c::r).getD 0 0=c:=rfl;rw[e1,e2,e3];refine zo (w4 (by simp;omega)) (zo (by simp) (jm (fun d=>zo (by simp) (yg (hq _ _ ?_))) (fun d=>yg (hq _ _ ?_))))
  ·have hc:c=45:=by simpa using d
   unfold AZ;rw[g0,wd hc];rfl
  ·have hc:c≠45:=by simpa using d
   unfold AZ;rw[g0,wc hc]
theorem pP:Ey XX1:=Ab (T189.ok Fm) (Ab T244.ok AU)
theorem mE{a:AT}(h:Bc a=true):(Bw (Ae (z8 a))).length<=9000:=by
 have hb:=bounds h;have h0:=AG (z8 a);refine NB Ai (by decide) 9000 _ _ ?_;have e:((Ai^9000:Nat):Int)=(Ai:Int)^9000:=SX 9000;rw[<-e]at hb;generalize Ai^9000=P at*;omega
theorem T219.ok:Ag Bi 219 kT:=by
 refine Cc pP (fun(a:Int×List Int) ha=>?_);have ha:Bc a=true:=ha;have hk:=(B2 ha).1;have hl:=mE ha;have hd:=Fp (b:=Ai) (by decide) (Ae (z8 a));have hd:Aw Ai (Bw (Ae (z8 a))):=hd;have hq:∀v ob,v=OU a->Ad kT a (.dat i64 v) ob:=fun v ob h=>jo rfl rfl h
 unfold OU at hq;refine q9 (T219.An a) (zo hk ?_);have ea:(zl a,yb a)=a:=rfl;rw[ea];generalize Bw (Ae (z8 a))=w at*;refine jm (fun c=>yg (hq _ _ ?_)) (fun c=>?_)
 ·have:w=[]:=List.length_eq_zero_iff.1 (by have:(w.length:Int)=0:=(by simpa using c);omega);rw[wd this]
 ·have c:(w.length:Int)≠0:=by simpa using c
  have hn:w≠[]:=by rintro rfl;exact c rfl
  have g:=AS hd (w.length-1);have e1:zc .i64 ((w.length:Int)-1)=((w.length-1:Nat):Int):=by rw[wr _ (by omega) (by omega)];omega
  have l2:=Sb (Sp.A2 g).1 (Sp.A2 g).2;rw[e1,Int.toNat_natCast,wr (64*_) (by omega) (by omega),wr _ (by omega) (by omega)];refine zo (Aa (w4 (by omega)) (w4 (by omega))) (zo g (yg (hq _ _ ?_)));rw[wc hn];omega
theorem bW:Ey Aat:=Ab T219.ok (Ab (T193.ok iW) (Ab T183.ok AU))
theorem hH(n:Int):AZ (A1 n)=zd n.natAbs:=(Dm n).2.1
theorem OF{a:AT}(h:Bc a=true):(A1 (z8 a)).length<=180001:=by
 have hb:=bounds h;have ha:=Ah (z8 a);have h1:(zd (z8 a).natAbs).length<=180000:=HG ⟨by rw[<-ha];exact hb⟩;unfold A1 z6;split
 ·rw[zm];omega
 ·rw[show(z8 a).toNat=(z8 a).natAbs by omega];omega
theorem T192.ok:Ag Bi 192 XJ:=by
 refine Cc bW (fun(a:Int×List Int) ha=>?_);have ha:Bc a=true:=ha;have hl:=OF ha;have hq:∀v ob,v=Ex a->Ad XJ a (.dat .bool v) ob:=fun v ob h=>jo rfl rfl h
 have hqb:∀v ob,v=Ex a->Ad XJ a (.bl v) ob:=fun v ob h=>jo rfl rfl h
 refine q9 (T192.An a) (zo ha (jm (fun c=>zo ha (zo (Aa (w4 rfl) (w4 (by show(A1 (z8 a)).length<=1000000;omega))) (yg (hq _ _ ?_)))) (fun c=>yg (hqb _ _ ?_))))
 ·show decide (((AZ (A1 (z8 a))).length:Int)>600)=Ex a;rw[hH];unfold Ex OW;rw[decide_eq_decide];omega
 ·have c:=w7 c;have c:¬OU a>1800:=c;exact(oO (by omega)).symm
theorem iG{a:AT}(h:U0 a=true):Bc a=true:=by
 unfold U0 at h;rw[zk,w5]at h;unfold Bc;rw[h.1,qk];exact w4 (by omega)
theorem kO{a:Al}(h:ki a=true):Bc a.1=true/\Bc a.2=true:=by
 unfold ki at h;rw[zk]at h;exact⟨iG h.1,iG h.2⟩
theorem YJ:Ey XX2:=Ab T192.ok (Ab T145.ok (Ab (T193.ok iW) AU))
theorem T138.ok:Ag Bi 138 YD:=by
 refine Cc YJ (fun(a:(Int×List Int)×(Int×List Int)) ha=>?_);obtain⟨h1,h2⟩:=kO (a:=a) ha;refine q9 (T138.An a) (zo h1 (jm (fun c=>yg (jo rfl rfl ?_)) (fun c=>zo h2 (yg (jo rfl rfl ?_)))))
 ·have c:Ex a.1=true:=c;show true=(Ex a.1||Ex a.2);rw[c];rfl
 ·have c:Ex a.1=false:=c;show Ex a.2=(Ex a.1||Ex a.2);rw[c];rfl
theorem T139.ok:Ag Bi 139 kV:=by
 refine Cc YJ (fun(a:(Int×List Int)×(Int×List Int)) ha=>?_);obtain⟨h1,h2⟩:=kO (a:=a) ha;have l1:=OF h1;have l2:=OF h2;refine q9 (T139.An a) (zo rfl (jm (fun c=>zo h1 (yg (jo rfl rfl ?_))) (fun c=>zo h1 (zo (w4 (by show(A1 (z8 a.1)).length+1<=_;omega)) (zo h2 (zo (w4 (by rw[ye,List.length_singleton];show(A1 (z8 a.1)).length+1+(A1 (z8 a.2)).length<=_;omega)) (yg (jo rfl rfl ?_))))))))
 ·have c:CR a.2=true:=c;show A1 (z8 a.1)=JD a;unfold JD;rw[wd c]
 ·have c:CR a.2=false:=c;show A1 (z8 a.1)++[47]++A1 (z8 a.2)=JD a;unfold JD;rw[wc (by rw[c];decide),jh];rfl
theorem pN:Ey XX3:=Ab T69.ok (Ab T137.ok AU)
theorem T65.ok:Ag Bi 65 uD:=by
 refine Cc pN (fun(a:(Int×List Int)×(Int×List Int)) ha=>?_);exact q9 (T65.An a) (zo ha (yg (jo rfl rfl rfl)))
theorem T56.ok:Ag Bi 56 cF:=by
 refine Cc Jo (fun(n:Int) _=>?_);exact q9 (T56.An n) (zo rfl (zo rfl (yg (jo rfl rfl rfl))))
theorem fG{e:Int}(h:e≠0)(q:Rat):([],e)=(jT e q,iR e q):=by
 unfold jT iR;rw[wd h,wd h]
theorem xT{f:Al}{q:Rat}(h:Fv f q){e:Int}(he:e=0):(JB f,Hd f)=(jT e q,iR e q):=by
 rw[he,(XU h).1,(XU h).2]
theorem Fv.div{f g:Al}{p q:Rat}(hf:Fv f p)(hg:Fv g q)(sp:Lj 4000 p)(sq:Lj 4000 q)(si:Lj 4000 q⁻¹)(h0:q≠0):Fv (HJ f g) (p/q):=by
 rw[Rat.div_def];exact Fv.mul hf (Fv.inv hg sq h0) sp si
theorem QZ(x y:Int):jg [x,y]=if x≠0 then x else y:=by
 by_cases h:x≠0
 ·rw[wd h];unfold jg
  simp[h]
 ·rw[wc h];have h:x=0:=by omega
  subst h;unfold jg jg jg
  simp;intro k;exact k.symm
theorem mJ(n:Int):Ca n=[]:=by unfold Ca;split<;>rfl
theorem XV{n:Int}(h:CM n=true):Bc (n,Ca n)=true/\z8 (n,Ca n)=n:=by
 rw[mJ];have hr:=En h;refine⟨?_,Bp rfl⟩;unfold Bc;rw[show Sp.Dp (n,([]:List Int))=true from KY h,qk];rfl
theorem yW(n:Int)(h:CM n=true):Fv ((n,Ca n),(1,Ca 1)) (n:Rat):=by
 obtain⟨h1,h2⟩:=XV h;obtain⟨h3,h4⟩:=XV (n:=1) rfl;exact⟨(B2 h1).1,(B2 h3).1,h2.trans (Rat.num_intCast n).symm,h4.trans rfl⟩
section
open List Int Prod
namespace T19
def T(a b:List UInt8):Tr:=tree uC false 9 19 (Af ([zf,zf]) (a,b))
def L1(v0 v1:List UInt8):Tr:=re ((T [] []).L.L.L.R) (AF 63 [(0,.dat zf v0),(1,.dat zf v1)] [] 0)
theorem An(a b:List UInt8):T a b=let a':=zc .i64 (zc .i64 (iU a*Tq b)+zc .i64 (iU b*Tq a));let b':=zc .i64 (Tq a*Tq b);.ite (Bk a) (.ite (Bk b) (.ite (DU a) (.ite (DU b) (.ite (CM a'&&CM b'&&decide (zc .i64 (Tq a*Tq b)≠0)) (.leaf (.dat zf (Dc a' b')) []) .fail) (L1 a b)) (L1 a b)) .fail) .fail:=by kernel_rfl
theorem Au(v0 v1:List UInt8):stepT uC (L1 v0 v1)=let b':=(Hl (BE v0,Bv v0) (Bn v1,Bf v1),Hy (BE v0,Bv v0) (Bn v1,Bf v1));let c':=(Hl (BE v1,Bv v1) (Bn v0,Bf v0),Hy (BE v1,Bv v1) (Bn v0,Bf v0));let d':=(Hl (Bn v0,Bf v0) (Bn v1,Bf v1),Hy (Bn v0,Bf v0) (Bn v1,Bf v1));let a':=(MS b' c',MO b' c');.ite (Da v0) (.ite (Da v1) (.ite (CQ (BE v0,Bv v0)&&CQ (Bn v1,Bf v1)) (.ite (CQ (BE v1,Bv v1)&&CQ (Bn v0,Bf v0)) (.ite (CQ b'&&CQ c') (.ite (CQ (Bn v0,Bf v0)&&CQ (Bn v1,Bf v1)) (.ite (CQ a'&&CQ d'&&decide (Sp.vR d'≠0)) (.leaf (.dat zf (HY a' d')) ([(zu (zu (zu 0 1) 1) 1,.box [.dat zj (Bn v1),.dat (ze i64) (Bf v1)]),(zu (zu 0 1) 1,.box [.dat zj (BE v1),.dat (ze i64) (Bv v1)]),(zu 0 1,.box [.dat zj (Bn v0),.dat (ze i64) (Bf v0)]),(0,.box [.dat zj (BE v0),.dat (ze i64) (Bv v0)])])) .fail) .fail) .fail) .fail) .fail) .fail) .fail:=by kernel_rfl
end T19
namespace T20
def T(a b:List UInt8):Tr:=tree uC false 9 20 (Af ([zf,zf]) (a,b))
def L1(v0 v1:List UInt8):Tr:=re ((T [] []).L.L.L.R) (AF 55 [(0,.dat zf v0),(1,.dat zf v1)] [] 0)
theorem An(a b:List UInt8):T a b=let a':=zc .i64 (iU a*iU b);let b':=zc .i64 (Tq a*Tq b);.ite (Bk a) (.ite (Bk b) (.ite (DU a) (.ite (DU b) (.ite (CM a'&&CM b'&&decide (zc .i64 (Tq a*Tq b)≠0)) (.leaf (.dat zf (Dc a' b')) []) .fail) (L1 a b)) (L1 a b)) .fail) .fail:=by kernel_rfl
theorem Au(v0 v1:List UInt8):stepT uC (L1 v0 v1)=let a':=(Hl (Bn v0,Bf v0) (Bn v1,Bf v1),Hy (Bn v0,Bf v0) (Bn v1,Bf v1));let b':=(Hl (BE v0,Bv v0) (BE v1,Bv v1),Hy (BE v0,Bv v0) (BE v1,Bv v1));.ite (Da v0) (.ite (Da v1) (.ite (CQ (BE v0,Bv v0)&&CQ (BE v1,Bv v1)) (.ite (CQ (Bn v0,Bf v0)&&CQ (Bn v1,Bf v1)) (.ite (CQ b'&&CQ a'&&decide (Sp.vR a'≠0)) (.leaf (.dat zf (HY b' a')) ([(zu (zu (zu 0 1) 1) 1,.box [.dat zj (Bn v1),.dat (ze i64) (Bf v1)]),(zu (zu 0 1) 1,.box [.dat zj (BE v1),.dat (ze i64) (Bv v1)]),(zu 0 1,.box [.dat zj (Bn v0),.dat (ze i64) (Bf v0)]),(0,.box [.dat zj (BE v0),.dat (ze i64) (Bv v0)])])) .fail) .fail) .fail) .fail) .fail:=by kernel_rfl
end T20
namespace T148
def T(a:List UInt8):Tr:=tree uC false 9 148 (Af ([zf]) a)
theorem An(a:List UInt8):T a=.ite (Da a) (.ite (CQ (Bn a,Bf a)&&CQ (BE a,Bv a)&&decide (Sp.vR (BE a,Bv a)≠0)) (.leaf (.dat zf (HY (Bn a,Bf a) (BE a,Bv a))) ([(zu 0 1,.box [.dat zj (Bn a),.dat (ze i64) (Bf a)]),(0,.box [.dat zj (BE a),.dat (ze i64) (Bv a)])])) .fail) .fail:=by kernel_rfl
end T148
namespace T21
def T(a b:List UInt8):Tr:=tree XR7 false 9 21 (Af ([zf,zf]) (a,b))
theorem An(a b:List UInt8):T a b=.ite (decide (length b<=1000000)) (.ite (Bk a&&Bk (Lm b)) (.leaf (.dat zf (Df a (Lm b))) []) .fail) .fail:=by kernel_rfl
end T21
namespace T18
def T(a b:List UInt8):Tr:=tree XR8 false 9 18 (Af ([zf,zf]) (a,b))
theorem An(a b:List UInt8):T a b=.ite (Bk a&&E9 b) (.ite (decide (length (Kz a b)<=1000000)) (.leaf (.dat i64 (Hf (Kz a b))) []) .fail) .fail:=by kernel_rfl
end T18
namespace T204
def T(a:List Int)(i:Int):Tr:=tree XR0 false 9 204 (Af ([ze i64,yd yj]) (a,i))
theorem An(a:List Int)(i:Int):T a i=.ite (decide (i<(length a:Int))) (.ite (decide (0<=i)&&decide (i<(length a:Int))) (.leaf (.dat i64 (getD a (toNat i) 0)) []) .fail) (.leaf (.dat i64 (0:Int)) []):=by kernel_rfl
end T204
namespace T160
def T(a b:List Int):Tr:=tree Vt false 9 160 (Af ([ze i64,ze i64]) (a,b))
def L1(v0 v1:List Int)(v6 v7:Int):Tr:=re ((T [] [])) (AF 42 [(0,.dat (ze i64) v0),(1,.dat (ze i64) v1),(5,.nil),(6,.dat i64 v6),(7,.dat i64 v7)] [] 0)
theorem An(a b:List Int):T a b=L1 a b 0 0:=by kernel_rfl
def L2(v0 v1:List Int)(v5n:Nat)(v6 v7:Int)(o0:List Int):Tr:=re ((stepT Vt (L1 [] [] 0 0)).L.L.L.L.L.L) (AF 42 [(0,.dat (ze i64) v0),(1,.dat (ze i64) v1),(5,.sl 0 1 0 v5n none),(6,.dat i64 v6),(7,.dat i64 v7)] [(0,.arr false 3 i64 o0)] 1)
theorem Au(v0 v1:List Int)(v6 v7:Int):stepT Vt (L1 v0 v1 v6 v7)=.ite (decide (v7<(length v0:Int))) (.ite (decide (0<=v7)) (.ite (decide (0<=v7)) (.ite true (.ite (decide (1<=1)&&decide (0<1)&&decide ((2*1+1000)*8<=281474976710656)) (.ite true (L2 v0 v1 1 (zc .i64 (qt (zc .i64 (zc .i64 (H2 v0 v7+H2 v1 v7)+v6)) 1000000000)) (zc .i64 (v7+1)) ([qh (zc .i64 (zc .i64 (H2 v0 v7+H2 v1 v7)+v6)) 1000000000])) .fail) .fail) .fail) .fail) .fail) (.ite (decide (v7<(length v1:Int))) (.ite (decide (0<=v7)) (.ite (decide (0<=v7)) (.ite true (.ite (decide (1<=1)&&decide (0<1)&&decide ((2*1+1000)*8<=281474976710656)) (.ite true (L2 v0 v1 1 (zc .i64 (qt (zc .i64 (zc .i64 (H2 v0 v7+H2 v1 v7)+v6)) 1000000000)) (zc .i64 (v7+1)) ([qh (zc .i64 (zc .i64 (H2 v0 v7+H2 v1 v7)+v6)) 1000000000])) .fail) .fail) .fail) .fail) .fail) (.ite (decide (v6>0)) (.ite (decide (0<=v7)) (.ite (decide (0<=v7)) (.ite true (.ite (decide (1<=1)&&decide (0<1)&&decide ((2*1+1000)*8<=281474976710656)) (.ite true (L2 v0 v1 1 (zc .i64 (qt (zc .i64 (zc .i64 (H2 v0 v7+H2 v1 v7)+v6)) 1000000000)) (zc .i64 (v7+1)) ([qh (zc .i64 (zc .i64 (H2 v0 v7+H2 v1 v7)+v6)) 1000000000])) .fail) .fail) .fail) .fail) .fail) (.leaf .nil []))):=by kernel_rfl
theorem AV(v0 v1:List Int)(v5n:Nat)(v6 v7:Int)(o0:List Int):stepT Vt (L2 v0 v1 v5n v6 v7 o0)=.ite (decide (v7<(length v0:Int))) (.ite (decide (0<=v7)) (.ite (decide (0<=v7)) (.ite true (.ite (decide (1<=1)&&true&&decide (v5n=length o0)&&decide ((2*(v5n+1)+1000)*8<=281474976710656)) (.ite true (L2 v0 v1 (zu v5n 1) (zc .i64 (qt (zc .i64 (zc .i64 (H2 v0 v7+H2 v1 v7)+v6)) 1000000000)) (zc .i64 (v7+1)) (o0++[qh (zc .i64 (zc .i64 (H2 v0 v7+H2 v1 v7)+v6)) 1000000000])) .fail) .fail) .fail) .fail) .fail) (.ite (decide (v7<(length v1:Int))) (.ite (decide (0<=v7)) (.ite (decide (0<=v7)) (.ite true (.ite (decide (1<=1)&&true&&decide (v5n=length o0)&&decide ((2*(v5n+1)+1000)*8<=281474976710656)) (.ite true (L2 v0 v1 (zu v5n 1) (zc .i64 (qt (zc .i64 (zc .i64 (H2 v0 v7+H2 v1 v7)+v6)) 1000000000)) (zc .i64 (v7+1)) (o0++[qh (zc .i64 (zc .i64 (H2 v0 v7+H2 v1 v7)+v6)) 1000000000])) .fail) .fail) .fail) .fail) .fail) (.ite (decide (v6>0)) (.ite (decide (0<=v7)) (.ite (decide (0<=v7)) (.ite true (.ite (decide (1<=1)&&true&&decide (v5n=length o0)&&decide ((2*(v5n+1)+1000)*8<=281474976710656)) (.ite true (L2 v0 v1 (zu v5n 1) (zc .i64 (qt (zc .i64 (zc .i64 (H2 v0 v7+H2 v1 v7)+v6)) 1000000000)) (zc .i64 (v7+1)) (o0++[qh (zc .i64 (zc .i64 (H2 v0 v7+H2 v1 v7)+v6)) 1000000000])) .fail) .fail) .fail) .fail) .fail) (.leaf (.sl 0 1 0 v5n none) ([(0,.arr false 3 i64 o0)])))):=by kernel_rfl
end T160
namespace T162
def T(a b:List Int):Tr:=tree Vt false 9 162 (Af ([ze i64,ze i64]) (a,b))
def L1(v0 v1:List Int)(v6 v7:Int):Tr:=re ((T [] [])) (AF 35 [(0,.dat (ze i64) v0),(1,.dat (ze i64) v1),(5,.nil),(6,.dat i64 v6),(7,.dat i64 v7)] [] 0)
theorem An(a b:List Int):T a b=L1 a b 0 0:=by kernel_rfl
def L2(v0 v1:List Int)(v5n:Nat)(v6 v7:Int)(o0:List Int):Tr:=re ((stepT Vt (L1 [] [] 0 0)).L.L.L.L.L) (AF 35 [(0,.dat (ze i64) v0),(1,.dat (ze i64) v1),(5,.sl 0 1 0 v5n none),(6,.dat i64 v6),(7,.dat i64 v7)] [(0,.arr false 3 i64 o0)] 1)
theorem Au(v0 v1:List Int)(v6 v7:Int):stepT Vt (L1 v0 v1 v6 v7)=.ite (decide (v7<(length v0:Int))) (.ite (decide (0<=v7)&&decide (v7<(length v0:Int))) (.ite (decide (0<=v7)) (.ite (decide (zc .i64 (zc .i64 (getD v0 (toNat v7) 0-H2 v1 v7)-v6)<0)) (.ite (decide (1<=1)&&decide (0<1)&&decide ((2*1+1000)*8<=281474976710656)) (L2 v0 v1 1 1 (zc .i64 (v7+1)) ([zc .i64 (zc .i64 (zc .i64 (getD v0 (toNat v7) 0-H2 v1 v7)-v6)+1000000000)])) .fail) (.ite (decide (1<=1)&&decide (0<1)&&decide ((2*1+1000)*8<=281474976710656)) (L2 v0 v1 1 0 (zc .i64 (v7+1)) ([zc .i64 (zc .i64 (getD v0 (toNat v7) 0-H2 v1 v7)-v6)])) .fail)) .fail) .fail) (.ite true (.leaf (.dat (ze i64) (Av [])) []) .fail):=by kernel_rfl
theorem AV(v0 v1:List Int)(v5n:Nat)(v6 v7:Int)(o0:List Int):stepT Vt (L2 v0 v1 v5n v6 v7 o0)=.ite (decide (v7<(length v0:Int))) (.ite (decide (0<=v7)&&decide (v7<(length v0:Int))) (.ite (decide (0<=v7)) (.ite (decide (zc .i64 (zc .i64 (getD v0 (toNat v7) 0-H2 v1 v7)-v6)<0)) (.ite (decide (1<=1)&&true&&decide (v5n=length o0)&&decide ((2*(v5n+1)+1000)*8<=281474976710656)) (L2 v0 v1 (zu v5n 1) 1 (zc .i64 (v7+1)) (o0++[zc .i64 (zc .i64 (zc .i64 (getD v0 (toNat v7) 0-H2 v1 v7)-v6)+1000000000)])) .fail) (.ite (decide (1<=1)&&true&&decide (v5n=length o0)&&decide ((2*(v5n+1)+1000)*8<=281474976710656)) (L2 v0 v1 (zu v5n 1) 0 (zc .i64 (v7+1)) (o0++[zc .i64 (zc .i64 (getD v0 (toNat v7) 0-H2 v1 v7)-v6)])) .fail)) .fail) .fail) (.ite (decide (0+v5n<=length o0)&&true&&decide (length (take v5n o0)<=20000)) (.leaf (.dat (ze i64) (Av (take v5n o0))) ([(0,.arr true 3 i64 o0)])) .fail):=by kernel_rfl
end T162
namespace T84
def T(a b:Bool×List Int):Tr:=tree XR2 false 9 84 (Af ([z7 zj (ze i64),z7 zj (ze i64)]) (a,b))
theorem An(a b:Bool×List Int):T a b=.ite (fst a==fst b) (.ite (lH (snd a) (snd b)) (.ite (decide (length (Me (snd a) (snd b))<=20000)) (.leaf (PV.agg [.dat zj (Cg (fst a) (Me (snd a) (snd b))),.dat (ze i64) (Av (Me (snd a) (snd b)))]) ([(zu (zu 0 1) 1,.box [.dat zj (Cg (fst a) (Me (snd a) (snd b))),.dat (ze i64) (Av (Me (snd a) (snd b)))]),(zu 0 1,.box [.dat zj (fst b),.dat (ze i64) (snd b)]),(0,.box [.dat zj (fst a),.dat (ze i64) (snd a)])])) .fail) .fail) (.ite (A9 (snd a)&&A9 (snd b)) (.ite (decide (Co (At (snd a)) (At (snd b))>=0)) (.ite (lH (snd a) (snd b)&&decide (At (snd b)<=At (snd a))) (.ite (decide (length (GH (snd a) (snd b))<=20000)) (.leaf (PV.agg [.dat zj (Cg (fst a) (GH (snd a) (snd b))),.dat (ze i64) (Av (GH (snd a) (snd b)))]) ([(zu (zu 0 1) 1,.box [.dat zj (Cg (fst a) (GH (snd a) (snd b))),.dat (ze i64) (Av (GH (snd a) (snd b)))]),(zu 0 1,.box [.dat zj (fst b),.dat (ze i64) (snd b)]),(0,.box [.dat zj (fst a),.dat (ze i64) (snd a)])])) .fail) .fail) (.ite (lH (snd b) (snd a)&&decide (At (snd a)<=At (snd b))) (.ite (decide (length (GH (snd b) (snd a))<=20000)) (.leaf (PV.agg [.dat zj (Cg (fst b) (GH (snd b) (snd a))),.dat (ze i64) (Av (GH (snd b) (snd a)))]) ([(zu (zu 0 1) 1,.box [.dat zj (Cg (fst b) (GH (snd b) (snd a))),.dat (ze i64) (Av (GH (snd b) (snd a)))]),(zu 0 1,.box [.dat zj (fst b),.dat (ze i64) (snd b)]),(0,.box [.dat zj (fst a),.dat (ze i64) (snd a)])])) .fail) .fail)) .fail):=by kernel_rfl
end T84
namespace T85
def T(a b:Bool×List Int):Tr:=tree XR2 false 9 85 (Af ([z7 zj (ze i64),z7 zj (ze i64)]) (a,b))
theorem An(a b:Bool×List Int):T a b=.ite (Sp.hR (snd a)&&Sp.hR (snd b)) (.ite (decide (length (BV (At (snd a)*At (snd b)))<=20000)) (.leaf (PV.agg [.dat zj (Cg (!fst a==fst b) (BV (At (snd a)*At (snd b)))),.dat (ze i64) (Av (BV (At (snd a)*At (snd b))))]) ([(zu (zu 0 1) 1,.box [.dat zj (Cg (!fst a==fst b) (BV (At (snd a)*At (snd b)))),.dat (ze i64) (Av (BV (At (snd a)*At (snd b))))]),(zu 0 1,.box [.dat zj (fst b),.dat (ze i64) (snd b)]),(0,.box [.dat zj (fst a),.dat (ze i64) (snd a)])])) .fail) .fail:=by kernel_rfl
end T85
namespace T156
def T(a:Bool×List Int):Tr:=tree XR2 false 9 156 (Af ([z7 zj (ze i64)]) a)
theorem An(a:Bool×List Int):T a=.ite (decide (length (snd a)<=20000)) (.leaf (PV.agg [.dat zj (Cg (!fst a) (snd a)),.dat (ze i64) (Av (snd a))]) ([(zu 0 1,.box [.dat zj (Cg (!fst a) (snd a)),.dat (ze i64) (Av (snd a))]),(0,.box [.dat zj (fst a),.dat (ze i64) (snd a)])])) .fail:=by kernel_rfl
end T156
namespace T158
def T(a:Bool×List Int):Tr:=tree XR3 false 9 158 (Af ([z7 zj (ze i64)]) a)
def L1(v3:List UInt8)(v4:Int)(o0:Bool)(o0_1:List Int):Tr:=re ((T (false,[])).R.L.L) (AF 39 [(1,.ptr 0 0),(3,.dat zf v3),(4,.dat i64 v4)] [(0,.box [.dat zj o0,.dat (ze i64) o0_1])] 1)
theorem An(a:Bool×List Int):T a=.ite ((↑(length (snd a)):Int)==0) (.leaf (.dat zf [(48:UInt8)]) ([(0,.box [.dat zj (fst a),.dat (ze i64) (snd a)])])) (.ite (decide (0<=zc .i64 ((↑(length (snd a)):Int)-1))&&decide (zc .i64 ((↑(length (snd a)):Int)-1)<(↑(length (snd a)):Int))) (.ite (decide (0<=getD (snd a) (toNat (zc .i64 ((↑(length (snd a)):Int)-1))) 0)&&decide (getD (snd a) (toNat (zc .i64 ((↑(length (snd a)):Int)-1))) 0<9223372036854775808)&&decide (0<=1)&&decide (1<=20)) (L1 (H5 (getD (snd a) (toNat (zc .i64 ((↑(length (snd a)):Int)-1))) 0) 1) (zc .i64 ((↑(length (snd a)):Int)-2)) (fst a) (snd a)) .fail) .fail):=by kernel_rfl
theorem Au(v3:List UInt8)(v4:Int)(o0:Bool)(o0_1:List Int):stepT XR3 (L1 v3 v4 o0 o0_1)=.ite (decide (v4>=0)) (.ite (decide (0<=v4)&&decide (v4<(length o0_1:Int))) (.ite (decide (0<=getD o0_1 (toNat v4) 0)&&decide (getD o0_1 (toNat v4) 0<9223372036854775808)&&decide (0<=9)&&decide (9<=20)) (.ite (decide (length v3+length (H5 (getD o0_1 (toNat v4) 0) 9)<=4611686018427387904)) (L1 (v3++H5 (getD o0_1 (toNat v4) 0) 9) (zc .i64 (v4-1)) o0 o0_1) .fail) .fail) .fail) (.ite o0 (.ite (decide (1+length v3<=4611686018427387904)) (.leaf (.dat zf ([(45:UInt8)]++v3)) ([(0,.box [.dat zj o0,.dat (ze i64) o0_1])])) .fail) (.leaf (.dat zf v3) ([(0,.box [.dat zj o0,.dat (ze i64) o0_1])]))):=by kernel_rfl
end T158
namespace T83
def T(a b:Bool×List Int):Tr:=tree lC false 9 83 (Af ([z7 zj (ze i64),z7 zj (ze i64)]) (a,b))
def L1(o1:Bool)(o1_1:List Int)(o0:Bool)(o0_1:List Int):Tr:=re ((T (false,[]) (false,[])).L.L.L) (AF 57 [(2,.ptr 0 0),(3,.ptr 1 0)] [(1,.box [.dat zj o1,.dat (ze i64) o1_1]),(0,.box [.dat zj o0,.dat (ze i64) o0_1])] 2)
theorem An(a b:Bool×List Int):T a b=.ite (fst b) (.ite (CQ (fst a,snd a)) (.ite (CQ (fst b,snd b)) (L1 (RP (fst b,snd b)) (RL (fst b,snd b)) (RP (fst a,snd a)) (RL (fst a,snd a))) .fail) .fail) (L1 (fst b) (snd b) (fst a) (snd a)):=by kernel_rfl
def L2(v8:List Int)(v10:List UInt8):Tr:=re ((stepT lC (L1 false [] false [])).L.L.L.L.L) (AF 57 [(8,.dat (ze i64) v8),(10,.dat zf v10)] [] 0)
theorem Au(o1:Bool)(o1_1:List Int)(o0:Bool)(o0_1:List Int):stepT lC (L1 o1 o1_1 o0 o0_1)=.ite (A9 o0_1&&A9 o1_1&&decide (length o0_1<=9000)&&decide (length o1_1<=9000)) (.ite (A9 o0_1&&A9 (Cr o0_1 o1_1)&&decide (length o0_1<=9000)&&decide (length (Cr o0_1 o1_1)<=9000)&&decide (0<At (Cr o0_1 o1_1))) (.ite (A9 o1_1&&A9 (Cr o0_1 o1_1)&&decide (length o1_1<=9000)&&decide (length (Cr o0_1 o1_1)<=9000)&&decide (0<At (Cr o0_1 o1_1))) (.ite (decide (length (BV (At o0_1/At (Cr o0_1 o1_1)))<=20000)) (.ite (CQ (Cg o0 (BV (At o0_1/At (Cr o0_1 o1_1))),Av (BV (At o0_1/At (Cr o0_1 o1_1))))) (L2 (BV (At o1_1/At (Cr o0_1 o1_1))) (JQ (Cg o0 (BV (At o0_1/At (Cr o0_1 o1_1))),Av (BV (At o0_1/At (Cr o0_1 o1_1)))))) .fail) .fail) .fail) .fail) .fail:=by kernel_rfl
def L3(v8:List Int)(v10:List UInt8):Tr:=re ((stepT lC (L2 [] [])).L.L.R) (AF 57 [(8,.dat (ze i64) v8),(10,.dat zf v10)] [] 0)
theorem AV(v8:List Int)(v10:List UInt8):stepT lC (L2 v8 v10)=.ite ((length v8:Int)==1) (.ite (decide (0<(length v8:Int))) (.ite (getD v8 0 0==1) (.leaf (.dat zf v10) []) (L3 v8 v10)) .fail) (L3 v8 v10):=by kernel_rfl
theorem C5(v8:List Int)(v10:List UInt8):stepT lC (L3 v8 v10)=.ite (decide (length v10+1<=4611686018427387904)) (.ite (decide (length v8<=20000)) (.ite (CQ (Cg false v8,Av v8)) (.ite (decide (length (v10++[(47:UInt8)])+length (JQ (Cg false v8,Av v8))<=4611686018427387904)) (.leaf (.dat zf (v10++[(47:UInt8)]++JQ (Cg false v8,Av v8))) []) .fail) .fail) .fail) .fail:=by kernel_rfl
end T83
namespace T81
def T(n d:Int):Tr:=tree bD false 9 81 (Af ([yd yj,yd yj]) (n,d))
def L1(v0 v1:Int):Tr:=re ((T 0 0).R.R.R.R) (AF 61 [(0,.dat i64 v0),(1,.dat i64 v1)] [] 0)
theorem An(n d:Int):T n d=.ite (decide (n<(-4000000000000000000))) (.ite (CM n) (.ite (CM d) (.ite (CQ (qo n,qp n)&&CQ (qo d,qp d)&&decide (Sp.vR (qo d,qp d)≠0)) (.leaf (.dat zf (HY (qo n,qp n) (qo d,qp d))) []) .fail) .fail) .fail) (.ite (decide (n>4000000000000000000)) (.ite (CM n) (.ite (CM d) (.ite (CQ (qo n,qp n)&&CQ (qo d,qp d)&&decide (Sp.vR (qo d,qp d)≠0)) (.leaf (.dat zf (HY (qo n,qp n) (qo d,qp d))) []) .fail) .fail) .fail) (.ite (decide (d<(-4000000000000000000))) (.ite (CM n) (.ite (CM d) (.ite (CQ (qo n,qp n)&&CQ (qo d,qp d)&&decide (Sp.vR (qo d,qp d)≠0)) (.leaf (.dat zf (HY (qo n,qp n) (qo d,qp d))) []) .fail) .fail) .fail) (.ite (decide (d>4000000000000000000)) (.ite (CM n) (.ite (CM d) (.ite (CQ (qo n,qp n)&&CQ (qo d,qp d)&&decide (Sp.vR (qo d,qp d)≠0)) (.leaf (.dat zf (HY (qo n,qp n) (qo d,qp d))) []) .fail) .fail) .fail) (L1 n d)))):=by kernel_rfl
def L2(v0 v1:Int):Tr:=re ((stepT bD (L1 0 0)).L) (AF 61 [(0,.dat i64 v0),(1,.dat i64 v1)] [] 0)
theorem Au(v0 v1:Int):stepT bD (L1 v0 v1)=.ite (decide (v1<0)) (L2 (zc .i64 (0-v0)) (zc .i64 (0-v1))) (L2 v0 v1):=by kernel_rfl
def L3(v0 v1:Int):Tr:=re ((stepT bD (L2 0 0)).L.L.L) (AF 61 [(0,.dat i64 v0),(1,.dat i64 v1)] [] 0)
theorem AV(v0 v1:Int):stepT bD (L2 v0 v1)=.ite (yV (imax v0 (zc .i64 (0-v0))) v1) (.ite (decide (Sp.gI (imax v0 (zc .i64 (0-v0))) v1≠0)) (.ite (decide (Sp.gI (imax v0 (zc .i64 (0-v0))) v1≠0)) (L3 (zc .i64 (qt v0 (Sp.gI (imax v0 (zc .i64 (0-v0))) v1))) (zc .i64 (qt v1 (Sp.gI (imax v0 (zc .i64 (0-v0))) v1)))) .fail) .fail) .fail:=by kernel_rfl
def L4(v1:Int)(v6:List UInt8):Tr:=re ((stepT bD (L3 0 0)).L.L.L) (AF 61 [(1,.dat i64 v1),(6,.dat zf v6)] [] 0)
theorem C5(v0 v1:Int):stepT bD (L3 v0 v1)=.ite (decide (v0<0)) (.ite (decide (0<=imax v0 (zc .i64 (0-v0)))&&decide (imax v0 (zc .i64 (0-v0))<9223372036854775808)&&decide (0<=1)&&decide (1<=20)) (.ite (decide (1+length (H5 (imax v0 (zc .i64 (0-v0))) 1)<=4611686018427387904)) (L4 v1 ([(45:UInt8)]++H5 (imax v0 (zc .i64 (0-v0))) 1)) .fail) .fail) (.ite (decide (0<=imax v0 (zc .i64 (0-v0)))&&decide (imax v0 (zc .i64 (0-v0))<9223372036854775808)&&decide (0<=1)&&decide (1<=20)) (.ite (decide (0+length (H5 (imax v0 (zc .i64 (0-v0))) 1)<=4611686018427387904)) (L4 v1 ([]++H5 (imax v0 (zc .i64 (0-v0))) 1)) .fail) .fail):=by kernel_rfl
theorem CT(v1:Int)(v6:List UInt8):stepT bD (L4 v1 v6)=.ite (decide (v1>1)) (.ite (decide (length v6+1<=4611686018427387904)) (.ite (decide (0<=v1)&&decide (v1<9223372036854775808)&&decide (0<=1)&&decide (1<=20)) (.ite (decide (length (v6++[(47:UInt8)])+length (H5 v1 1)<=4611686018427387904)) (.leaf (.dat zf (v6++[(47:UInt8)]++H5 v1 1)) []) .fail) .fail) .fail) (.leaf (.dat zf v6) []):=by kernel_rfl
end T81
namespace T153
def T(a b:Int):Tr:=tree NQ false 9 153 (Af ([yd yj,yd yj]) (a,b))
def L1(v0 v1:Int):Tr:=re ((T 0 0)) (AF 12 [(0,.dat i64 v0),(1,.dat i64 v1)] [] 0)
theorem An(a b:Int):T a b=L1 a b:=by kernel_rfl
theorem Au(v0 v1:Int):stepT NQ (L1 v0 v1)=.ite (decide (v1>0)) (.ite (decide (v1≠0)) (L1 v1 (qh v0 v1)) .fail) (.leaf (.dat i64 v0) []):=by kernel_rfl
end T153
namespace T79
def T(s:List UInt8):Tr:=tree NQ false 9 79 (Af ([zf]) s)
theorem An(s:List UInt8):T s=let a':Tr:=.leaf (.dat i64 (1:Int)) [];.ite (s==[(48:UInt8)]) (.leaf (.dat i64 (0:Int)) []) (.ite (decide ((length s:Int)>0)) (.ite (decide (0<(length s:Int))) (.ite ((↑(UInt8.toNat (getD s 0 (0:UInt8))):Int)==45) (.leaf (.dat i64 (-1:Int)) []) a') .fail) a'):=by kernel_rfl
end T79
namespace T86
def T(s:List UInt8):Tr:=tree XO2 false 9 86 (Af ([zf]) s)
theorem An(s:List UInt8):T s=let a':=decide (length s<=1000000);.ite a' (.ite (decide (Hf s<0)) (.ite (decide (1<=length s)&&decide (length s<=length s)) (.leaf (.dat zf (take (qy (length s) 1) (drop 1 s))) []) .fail) (.ite a' (.ite (Hf s==0) (.leaf (.dat zf s) []) (.ite (decide (1+length s<=4611686018427387904)) (.leaf (.dat zf ([(45:UInt8)]++s)) []) .fail)) .fail)) .fail:=by kernel_rfl
end T86
namespace T154
def T(n l:Int):Tr:=tree NQ false 9 154 (Af ([yd yj,yd yj]) (n,l))
def L1(v0 v1:Int)(v5:List UInt8):Tr:=re ((T 0 0)) (AF 25 [(0,.dat i64 v0),(1,.dat i64 v1),(5,.dat zf v5)] [] 0)
theorem An(n l:Int):T n l=L1 n l []:=by kernel_rfl
theorem Au(v0 v1:Int)(v5:List UInt8):stepT NQ (L1 v0 v1 v5)=let c':=zc .i64 (qh v0 10+1);let d':=toNat (qh v0 10);let b':=drop d' [(48:UInt8),(49:UInt8),(50:UInt8),(51:UInt8),(52:UInt8),(53:UInt8),(54:UInt8),(55:UInt8),(56:UInt8),(57:UInt8)];let a':Tr:=.ite true (.ite true (.ite (decide (0<=qh v0 10)&&decide (0<=zc .i64 (qh v0 10+1))&&decide (toNat (qh v0 10)<=toNat c')&&decide (toNat c'<=10)) (.ite (decide (length (take (qy (toNat c') d') b')+length v5<=4611686018427387904)) (.ite true (L1 (zc .i64 (qt v0 10)) v1 (take (qy (toNat c') d') b'++v5)) .fail) .fail) .fail) .fail) .fail;.ite (decide (v0>0)) a' (.ite (decide ((length v5:Int)<v1)) a' (.leaf (.dat zf v5) [])):=by kernel_rfl
end T154
namespace T80
def T(s:List UInt8):Tr:=tree NI false 9 80 (Af ([zf]) s)
def L1(v5:List UInt8)(v6:Bool):Tr:=re ((T []).R.L.L) (AF 54 [(5,.dat zf v5),(6,.dat zj v6)] [] 0)
def L2(v5:List UInt8):Tr:=re ((T []).R.R) (AF 54 [(5,.dat zf v5),(6,.bl false)] [] 0)
theorem An(s:List UInt8):T s=let a':=(length s:Int);.ite (decide (a'>20)) (.leaf (.tup [.dat i64 (0:Int),.dat i64 (0:Int),.bl false]) []) (.ite (decide (a'>0)) (.ite (decide (0<a')) (L1 s ((↑(UInt8.toNat (getD s 0 (0:UInt8))):Int)==45)) .fail) (L2 s)):=by kernel_rfl
def L3(v5:List UInt8)(v6:Bool):Tr:=re ((stepT NI (L1 [] false)).L.L) (AF 54 [(5,.dat zf v5),(6,.dat zj v6)] [] 0)
theorem Au(v5:List UInt8)(v6:Bool):stepT NI (L1 v5 v6)=.ite v6 (.ite (decide (1<=length v5)&&decide (length v5<=length v5)) (L3 (take (qy (length v5) 1) (drop 1 v5)) v6) .fail) (L3 v5 v6):=by kernel_rfl
def L4(v5:List UInt8):Tr:=re ((stepT NI (L2 []))) (AF 54 [(5,.dat zf v5),(6,.bl false)] [] 0)
theorem AV(v5:List UInt8):stepT NI (L2 v5)=L4 v5:=by kernel_rfl
def L5(v5:List UInt8)(v6:Bool)(v7 v8 v9:Int):Tr:=re ((stepT NI (L3 [] false)).L.R.R.L.L) (AF 54 [(5,.dat zf v5),(6,.dat zj v6),(7,.dat i64 v7),(8,.dat i64 v8),(9,.dat i64 v9)] [] 0)
theorem C5(v5:List UInt8)(v6:Bool):stepT NI (L3 v5 v6)=let a':Tr:=.leaf (.tup [.dat i64 (0:Int),.dat i64 (0:Int),.bl false]) [];let b':=AY v5;.ite (decide (length v5<=1000000)) (.ite (decide (AY v5>9)) a' (.ite (decide (zc .i64 ((length v5:Int)-AY v5)>10)) a' (.ite (decide (0<=AY v5)&&decide (0<=toNat b')&&decide (toNat b'<=length v5)) (.ite (D0 (take (toNat b') v5)) (L5 v5 v6 b' (BB (take (toNat b') v5)) 1) .fail) .fail))) .fail:=by kernel_rfl
def L6(v5:List UInt8)(v7 v8 v9:Int):Tr:=re ((stepT NI (L4 [])).L.R.R.L.L) (AF 54 [(5,.dat zf v5),(6,.bl false),(7,.dat i64 v7),(8,.dat i64 v8),(9,.dat i64 v9)] [] 0)
theorem CT(v5:List UInt8):stepT NI (L4 v5)=let a':Tr:=.leaf (.tup [.dat i64 (0:Int),.dat i64 (0:Int),.bl false]) [];let b':=AY v5;.ite (decide (length v5<=1000000)) (.ite (decide (AY v5>9)) a' (.ite (decide (zc .i64 ((length v5:Int)-AY v5)>10)) a' (.ite (decide (0<=AY v5)&&decide (0<=toNat b')&&decide (toNat b'<=length v5)) (.ite (D0 (take (toNat b') v5)) (L6 v5 b' (BB (take (toNat b') v5)) 1) .fail) .fail))) .fail:=by kernel_rfl
def L7(v6:Bool)(v8 v9:Int):Tr:=re ((stepT NI (L5 [] false 0 0 0)).L.L.L) (AF 54 [(6,.dat zj v6),(8,.dat i64 v8),(9,.dat i64 v9)] [] 0)
theorem Es(v5:List UInt8)(v6:Bool)(v7 v8 v9:Int):stepT NI (L5 v5 v6 v7 v8 v9)=let b':=zc .i64 (v7+1);let a':=take (qy (length v5) (toNat b')) (drop (toNat b') v5);.ite (decide (v7<(length v5:Int))) (.ite (decide (0<=zc .i64 (v7+1))&&true&&decide (toNat b'<=length v5)&&decide (length v5<=length v5)) (.ite (D0 a') (L7 v6 v8 (BB a')) .fail) .fail) (L7 v6 v8 v9):=by kernel_rfl
def L8(v8 v9:Int):Tr:=re ((stepT NI (L6 [] 0 0 0)).L.L.L) (AF 54 [(6,.bl false),(8,.dat i64 v8),(9,.dat i64 v9)] [] 0)
theorem Fi(v5:List UInt8)(v7 v8 v9:Int):stepT NI (L6 v5 v7 v8 v9)=let b':=zc .i64 (v7+1);let a':=take (qy (length v5) (toNat b')) (drop (toNat b') v5);.ite (decide (v7<(length v5:Int))) (.ite (decide (0<=zc .i64 (v7+1))&&true&&decide (toNat b'<=length v5)&&decide (length v5<=length v5)) (.ite (D0 a') (L8 v8 (BB a')) .fail) .fail) (L8 v8 v9):=by kernel_rfl
theorem Ew(v6:Bool)(v8 v9:Int):stepT NI (L7 v6 v8 v9)=.ite v6 (.leaf (.tup [.dat i64 (zc .i64 (0-v8)),.dat i64 v9,.bl true]) []) (.leaf (.tup [.dat i64 v8,.dat i64 v9,.bl true]) []):=by kernel_rfl
theorem HX(v8 v9:Int):stepT NI (L8 v8 v9)=.leaf (.tup [.dat i64 v8,.dat i64 v9,.bl true]) []:=by kernel_rfl
end T80
namespace T52
def T(a:List UInt8):Tr:=tree NQ false 9 52 (Af ([zf]) a)
theorem An(a:List UInt8):T a=let a':Tr:=.ite (decide (1<=length a)&&decide (length a<=length a)) (.leaf (.dat zf (take (qy (length a) 1) (drop 1 a))) []) .fail;let b':Tr:=.ite false a' (.leaf (.dat zf a) []);.ite (a==[(48:UInt8)]) b' (.ite (decide ((length a:Int)>0)) (.ite (decide (0<(length a:Int))) (.ite ((↑(UInt8.toNat (getD a 0 (0:UInt8))):Int)==45) (.ite true a' (.leaf (.dat zf a) [])) b') .fail) b'):=by kernel_rfl
end T52
namespace T53
def T(a:List UInt8):Tr:=tree XM5 false 9 53 (Af ([zf]) a)
theorem An(a:List UInt8):T a=.ite (decide (length a<=1000000)) (.ite (decide (0<=AY a)&&decide (0<=toNat (AY a))&&decide (toNat (AY a)<=length a)) (.leaf (.dat zf (take (toNat (AY a)) a)) []) .fail) .fail:=by kernel_rfl
end T53
namespace T54
def T(a:List UInt8):Tr:=tree XM5 false 9 54 (Af ([zf]) a)
theorem An(a:List UInt8):T a=let a':=zc .i64 (AY a+1);.ite (decide (length a<=1000000)) (.ite (AY a==(length a:Int)) (.leaf (.dat zf [(49:UInt8)]) []) (.ite (decide (0<=zc .i64 (AY a+1))&&true&&decide (toNat a'<=length a)&&decide (length a<=length a)) (.leaf (.dat zf (take (qy (length a) (toNat a')) (drop (toNat a') a))) []) .fail)) .fail:=by kernel_rfl
end T54
namespace T10
def T(a:List UInt8)(n:Int):Tr:=tree XM3 false 9 10 (Af ([zf,yd yj]) (a,n))
theorem An(a:List UInt8)(n:Int):T a n=let a':=decide (length a<=1000000);let b':Tr:=.leaf (.bl false) [];.ite (decide ((length a:Int)<=zc .i64 (zc .i64 (2*n)+2))) (.ite a' (.ite (Az a==0) (.ite a' (.ite (decide (length (Ay a)<=1000000)) (.ite (decide ((↑(length (AZ (Ay a))):Int)<=n)) (.ite a' (.leaf (.dat zj (decide ((↑(length (SZ a)):Int)<=n))) []) .fail) b') .fail) .fail) b') .fail) b':=by kernel_rfl
end T10
end
end Go.Pe
