import Derived.Test.YtknhdhchejmpgaaGreatDoorX10
import Derived.Test.YtknhdhchejmpgaaGreatDoorX13
import Derived.Test.YtknhdhchejmpgaaGreatDoorX09
import Derived.Test.YtknhdhchejmpgaaGreatDoorX12
/- A part of a proof (no law is stated here). Made by program out of texts by AI agents. -/
open Go.IntKind renaming wrap → zc, u64 → zn, i64 → zr
open Go.Pe.Sh renaming str → ze, list → zj, bool → zm, int → zp, nlist → zt, pair → zz
open Go.Lib renaming decDigits → zg, itoa → zw, decDigits_length → zN, decDigits_one → zU
open Go.Pe.Ends renaming tt → zh, leaf → zl, eq → zK, ite → zL, ff → yg
open Bool renaming and_eq_true → zk, true_and → zT, or_eq_true → yo
open Int renaming natAbs_natCast → zo, lt_of_lt_of_le → zR, natCast_pow → zS, toNat_natCast → zV, natAbs_mul → zW, tmod → zY, tdiv → ya, ofNat_lt → yc, natAbs_sign_of_ne_zero → yj, ofNat_le → yr
open Nat renaming add → zq, le_refl → zO, lt_of_lt_of_le → zP, pow_le_pow_right → zX, lt_of_le_of_lt → z7, sub → yb, pow_succ → yi, div_le_self → yn
open List renaming length_cons → zu, length_append → zy, length_flatten → zZ, append_assoc → yk, take_of_length_le → ym, length → yq
open Go.Sp renaming vI → zx, Dj → z8, rN → ye, rW → yf, E0 → yp
open Go.Pe.Af renaming of → zM
open Rat renaming num_divInt_den → zQ, divInt → z6, num_eq_zero → yh
section
namespace Go.Sp
theorem EY{n d:Int}(hd:d≠0):(z6 n d).num.natAbs≤n.natAbs∧(z6 n d).den≤d.natAbs:=by
 rw[Rat.num_divInt,Rat.den_divInt,if_neg hd];refine⟨?_,yn _ _⟩;refine Nat.le_trans (Int.natAbs_ediv_le_natAbs _ _) ?_;rw[zW,yj hd,Nat.one_mul];exact zO _
theorem E9{n d:Int}{k:Nat}(hd:d≠0)(h1:n.natAbs<10^k)(h2:d.natAbs<10^k):DO k (z6 n d):=
 ⟨z7 (EY hd).1 h1,z7 (EY hd).2 h2⟩
theorem DO.mono{j k:Nat}{q:Rat}(h:DO j q)(hk:j≤k):DO k q:=
 ⟨zP h.1 (zX (by decide) hk),zP h.2 (zX (by decide) hk)⟩
theorem Dn{a b i j:Nat}(h1:a<10^i)(h2:b<10^j):a*b<10^(i+j):=by
 rw[Nat.pow_add];exact z7 (Nat.mul_le_mul_left _ (Nat.le_of_lt h2)) ((Nat.mul_lt_mul_right (Nat.pow_pos (by decide))).2 h1)
theorem GS(q:Rat):(q.den:Int)≠0:=by have:=q.den_pos;omega
theorem DO.mul{p q:Rat}{i j:Nat}(hp:DO i p)(hq:DO j q):DO (i+j) (p*q):=by
 have h:=Rat.divInt_mul_divInt p.num q.num (d₁:=p.den) (d₂:=q.den);rw[zQ,zQ]at h;rw[h];refine E9 ?_ ?_ ?_
 ·exact Int.mul_ne_zero (GS p) (GS q)
 ·rw[zW];exact Dn hp.1 hq.1
 ·rw[zW,zo,zo];exact Dn hp.2 hq.2
theorem DO.add{p q:Rat}{i j:Nat}(hp:DO i p)(hq:DO j q):DO (i+j+1) (p+q):=by
 have h:=Rat.divInt_add_divInt p.num q.num (GS p) (GS q);rw[zQ,zQ]at h;rw[h];have a1:=Dn hp.1 hq.2;have a2:=Dn hq.1 hp.2;have a3:=Dn hp.2 hq.2;rw[Nat.add_comm]at a2;refine E9 (Int.mul_ne_zero (GS p) (GS q)) ?_ ?_
 ·refine z7 (Int.natAbs_add_le _ _) ?_;rw[zW,zW,zo,zo,yi];omega
 ·rw[zW,zo,zo,yi];omega
theorem DO.neg{q:Rat}{k:Nat}(h:DO k q):DO k (-q):=by
 unfold DO at*;rw[Rat.neg_num,Rat.neg_den,Int.natAbs_neg];exact h
theorem DO.sub{p q:Rat}{i j:Nat}(hp:DO i p)(hq:DO j q):DO (i+j+1) (p-q):=by
 rw[Rat.sub_eq_add_neg];exact hp.add hq.neg
theorem DO.inv{q:Rat}{k:Nat}(h:DO k q)(h0:q≠0):DO k q⁻¹:=by
 have e:=Rat.inv_divInt q.num q.den;rw[zQ]at e;rw[e];exact E9 (fun x=>h0 (yh.mp x)) (by rw[zo];exact h.2) h.1
theorem DO.div{p q:Rat}{i j:Nat}(hp:DO i p)(hq:DO j q)(h0:q≠0):DO (i+j) (p/q):=by
 rw[Rat.div_def];exact hp.mul (hq.inv h0)
def LY(n:Int):Bool:=decide (600<(zg n.natAbs).length)
def IW(q:Rat):Bool:=LY q.num||LY q.den
theorem Dy{u k:Nat}(h:u<10^k)(hk:1≤k):(zg u).length≤k:=by
 rw[zN];obtain⟨j,rfl⟩:∃j,k=j+1:=⟨k-1,by omega⟩;exact Go.Pe.MZ j u h
theorem CG(u:Nat){k:Nat}(h:(zg u).length≤k):u<10^k:=by
 rw[zN]at h;exact zP (Lib.lt_pow_nDigits u) (zX (by decide) h)
theorem UJ{q:Rat}:IW q=false↔DO 600 q:=by
 unfold IW LY DO;rw[Bool.or_eq_false_iff,decide_eq_false_iff_not,decide_eq_false_iff_not];refine⟨fun h=>⟨CG (k:=600) _ (by omega),?_⟩,fun h=>⟨?_,?_⟩⟩
 ·have:=CG (q.den:Int).natAbs (k:=600) (by omega);rw[zo]at this;exact this
 ·have:=Dy h.1 (by decide);omega
 ·have:=Dy h.2 (by decide);rw[zo];omega
theorem O7{q:Rat}{k:Nat}(h:DO k q)(hk:1≤k):(A0 q).length≤2*k+2:=by
 have h1:=Dy h.1 hk;have h2:=Dy h.2 hk;have h3:(zw q.num).length≤k+1:=by
  unfold zw;split
  ·rw[zu];omega
  ·rw[show q.num.toNat=q.num.natAbs by omega];omega
 unfold A0;split
 ·omega
 ·rw[zy,zu];omega
def Bw(s:List UInt8):Bool:=decide (A0 (AW s)=s)&&decide (s.length≤4000)
theorem GN{s:List UInt8}(h:Bw s=true):A0 (AW s)=s∧s.length≤4000:=by
 unfold Bw at h;rwa [zk,decide_eq_true_eq,decide_eq_true_eq]at h
theorem Px{q:Rat}{k:Nat}(h:DO k q)(hk:k≤1999):Bw (A0 q)=true:=by
 have hl:=O7 (h.mono hk) (by decide);unfold Bw;rw[DM,decide_eq_true rfl,decide_eq_true (by omega)];rfl
theorem GX{s:List UInt8}(h:AP s=0):Bw s=true∧DO 600 (AW s):=by
 obtain⟨h1,_,_,h4⟩:=Ln h;exact⟨by rw[←h1];exact Px h4 (by decide),h4⟩
theorem Rd{s:List UInt8}(h:Bw s=true):DO 4000 (AW s):=by
 obtain⟨h1,h2⟩:=GN h;have e:(A0 (AW s)).length≤4000:=by rw[h1];exact h2
 generalize AW s=q at*;have a:=CG q.num.natAbs (zO _);have b:=CG q.den (zO _);have h3:(zg q.num.natAbs).length≤(zw q.num).length:=by
  unfold zw;split
  ·rw[zu];omega
  ·rw[show q.num.toNat=q.num.natAbs by omega];exact zO _
 unfold A0 at e;split at e
 ·next c=>exact⟨CG (k:=4000) _ (by omega),by rw[c];exact Nt 4000 (by decide)⟩
 ·rw[zy,zu]at e;exact⟨CG (k:=4000) _ (by omega),CG (k:=4000) _ (by omega)⟩
theorem U5{q:Rat}:AP (A0 q)=if IW q=true then 4 else 0:=by
 obtain⟨c1,c2,c3⟩:=Ez q;obtain⟨p1,p2,p3,p4⟩:=QN (A0 q);obtain⟨i1,i2,i3,i4⟩:=CY q.num;have hA:Ax (AY (A0 q))=zg q.num.natAbs:=by rw[p1,c1,i2]
 have hB:AL (AY (A0 q))=if q.den=1 then[]else zg q.den:=by rw[p2,c2]
 have hC:Bk (AY (A0 q))=decide (q.den≠1):=by rw[p3,c3]
 have hP:preB (A0 q)=decide (q.num<0):=by rw[←p4,c1,i3]
 have h48:∀n:Nat,zg n=[48]→n=0:=fun n h=>by
  have:=GG n;rw[h]at this;have:(0:Int)=n:=this;omega
 have h49:∀n:Nat,zg n=[49]→n=1:=fun n h=>by
  have:=GG n;rw[h]at this;have:(1:Int)=n:=this;omega
 have hd:=q.den_pos;have hf:FQ (A0 q)=true:=by
  unfold FQ;rw[hA,hB,hC,hP,SV,zT,zk];refine⟨?_,?_⟩
  ·by_cases h:q.num<0
   ·have z:zg q.num.natAbs≠[48]:=fun k=>by have:=h48 _ k;omega
    rw[decide_eq_true h,decide_eq_true z];rfl
   ·rw[decide_eq_false h];rfl
  ·by_cases h:q.den=1
   ·rw[decide_eq_false (not_not_intro h)];rfl
   ·have z:zg q.den≠[48]:=fun k=>by have:=h48 _ k;omega
    have y:zg q.den≠[49]:=fun k=>h (h49 _ k)
    rw[decide_eq_true h,if_neg h,SV,decide_eq_true z,decide_eq_true y];rfl
 unfold AP;rw[if_neg (by rw[hf];decide),hA,hB,hC];have hb:IW q=true↔600<(zg q.num.natAbs).length∨600<(if q.den=1 then([]:List UInt8)else zg q.den).length:=by
  unfold IW LY;rw[yo,decide_eq_true_eq,decide_eq_true_eq,zo];by_cases h:q.den=1
  ·rw[if_pos h,h,zU (show 1<10 by decide)];simp
  ·rw[if_neg h]
 by_cases h:IW q=true
 ·rw[if_pos (hb.1 h),if_pos h]
 ·rw[if_neg (fun k=>h (hb.2 k)),if_neg h];refine if_neg fun k=>?_
  obtain⟨k1,k2⟩:=k;have k1:q.den≠1:=of_decide_eq_true k1;apply k2;unfold mQ mT;rw[hA,hB,if_neg k1,GG,GG,E3];have hr:=q.reduced;have:Int.gcd ((q.num.natAbs:Nat):Int) (q.den:Int)=1:=hr;rw[this];rfl
theorem Lp(q:Rat):Fp (A0 q)=Pd q.num:=by
 have h0:A0 q=[48]↔q=0:=by
  have:A0 (0:Rat)=[48]:=by
   unfold A0;rw[if_pos (show Rat.den 0=1 from rfl)];show zw 0=[48];unfold zw;rw[if_neg (by decide),show(0:Int).toNat=0 from rfl,zU (by decide)];rfl
  rw[←this];exact⟨YJ,fun h=>by rw[h]⟩
 unfold Fp Pd;by_cases hz:q=0
 ·rw[if_pos (h0.2 hz),hz];rfl
 ·rw[if_neg (fun h=>hz (h0.1 h))];have hn:q.num≠0:=fun h=>hz (yh.mp h)
  have hg:(A0 q).getD 0 0=(zw q.num).getD 0 0:=by
   unfold A0;split
   ·rfl
   ·have:zw q.num≠[]:=by unfold zw;split;exact List.cons_ne_nil _ _;exact Ro _
    cases hi:zw q.num with
    |nil=>exact absurd hi this
    |cons c r=>rfl
  rw[hg];unfold zw;by_cases h:q.num<0
  ·rw[if_pos h,if_pos h];rfl
  ·rw[if_neg h,if_neg h,if_neg (EW (Dx _)),if_pos (by omega)]
theorem TA(n:Int)(h:n≠0):zw (-n)=if n<0 then(zw n).drop 1 else 45::zw n:=by
 unfold zw;by_cases c:n<0
 ·rw[if_neg (by omega),if_pos c,if_pos c,show(-n).toNat=n.natAbs by omega];rfl
 ·rw[if_pos (by omega),if_neg c,if_neg c,show(-n).natAbs=n.toNat by omega]
theorem gA(q:Rat):Kb (A0 q)=A0 (-q):=by
 have hs:=Lp q;unfold Fp at hs;unfold Kb;by_cases h0:A0 q=[48]
 ·rw[if_pos h0]at hs ⊢;have:q.num=0:=by
   unfold Pd at hs;split at hs
   ·exact absurd hs (by decide)
   ·split at hs
    ·exact absurd hs (by decide)
    ·omega
  have:q=0:=yh.mp this;rw[this];rfl
 ·rw[if_neg h0]at hs ⊢;have hn:q.num≠0:=by
   intro h;rw[h]at hs;split at hs<;>exact absurd hs (by decide)
  have e:A0 (-q)=if q.num<0 then(A0 q).drop 1 else 45::A0 q:=by
   unfold A0;rw[Rat.neg_num,Rat.neg_den,TA _ hn];by_cases c:q.num<0
   ·rw[if_pos c,if_pos c];have:zw q.num=45::zg q.num.natAbs:=by unfold zw;rw[if_pos c]
    rw[this];split<;>rfl
   ·rw[if_neg c,if_neg c];split<;>rfl
  rw[e];unfold Pd at hs;by_cases c:q.num<0
  ·rw[if_pos c]at hs ⊢;split at hs
   ·next k=>rw[if_pos k]
   ·exact absurd hs (by decide)
  ·rw[if_neg c,if_pos (show q.num>0 by omega)]at hs;rw[if_neg c];split at hs
   ·exact absurd hs (by decide)
   ·next k=>rw[if_neg k]
end Go.Sp
end
section
namespace Go.Sp
open Go.Lib
theorem LI:∀(f n l:Nat) (acc:List UInt8),l≤acc.length→n<10^f→GH f n l acc=if n=0 then acc else decDigits n++acc
 |0,n,l,acc,_,hn=>by rw[Nat.pow_zero]at hn;rw[if_pos (by omega)];rfl
 |f+1,n,l,acc,hl,hn=>by
  rw[yi]at hn;unfold GH;by_cases h:n=0
  ·rw[if_pos ⟨h,hl⟩,if_pos h]
  ·rw[if_neg (fun k=>h k.1),if_neg h,LI f (n/10) l _ (by rw[zu];omega) (by omega)];by_cases h2:n/10=0
   ·rw[if_pos h2,decDigits_one (by omega),show n % 10=n by omega];rfl
   ·have e:=Fh (n/10) (n % 10) (by omega) (by omega);rw[show 10*(n/10)+n % 10=n by omega]at e;rw[if_neg h2,e,yk];rfl
theorem cJ{d:Nat}(h:d<10):Fv 1 d=[UInt8.ofNat (48+d)]:=by
 unfold Fv;rw[nDigits_small h,decDigits_one h];rfl
theorem T9:∀(k f n l:Nat) (acc:List UInt8),acc.length+(k+1)=l→n<10^(k+1)→k+1≤f→GH f n l acc=Fv (k+1) n++acc
 |k,0,n,l,acc,_,_,h=>by omega
 |0,f+1,n,l,acc,hl,hn,_=>by
  unfold GH;rw[if_neg (by omega),cJ (by omega),LI f (n/10) l _ (by rw[zu];omega) (by rw[show n/10=0 by omega];exact Nat.pow_pos (by decide)),if_pos (by omega),show n % 10=n by omega];rfl
 |k+1,f+1,n,l,acc,hl,hn,hf=>by
  rw[yi]at hn;have e:=Qq (k+1) (n/10) (n % 10) (by omega) (by omega);rw[show 10*(n/10)+n % 10=n by omega]at e;unfold GH;rw[if_neg (by omega),T9 k f (n/10) l _ (by rw[zu];omega) (by omega) (by omega),e,yk];rfl
theorem NQ{n:Int}(h0:0≤n)(h1:n<9223372036854775808):Hn n 1=decDigits n.toNat:=by
 show GH 64 n.toNat 1 []=_;unfold GH;rw[if_neg (by simp)];rw[LI 63 (n.toNat/10) 1 _ (by simp) (by omega)];by_cases h:n.toNat<10
 ·rw[if_pos (by omega),decDigits_one h,show n.toNat % 10=n.toNat by omega]
 ·have e:=Fh (n.toNat/10) (n.toNat % 10) (by omega) (by omega);rw[show 10*(n.toNat/10)+n.toNat % 10=n.toNat by omega]at e;rw[if_neg (by omega),e]
theorem YD{n:Int}(h0:0≤n)(h1:n<1000000000):Hn n 9=Fv 9 n.toNat:=by
 show GH 64 n.toNat 9 []=_;rw[T9 8 64 n.toNat 9 [] rfl (by omega) (by decide),List.append_nil]
def Cm(n d:Int):List UInt8:=A0 (z6 n d)
theorem Yv(n:Int):itoa n=(if n<0 then[45]else[])++decDigits n.natAbs:=by
 unfold itoa;split
 ·rfl
 ·rw[show n.toNat=n.natAbs by omega];rfl
end Go.Sp
end
section
namespace Go.Sp
def vR(a:Bool×List Int):Int:=if a.1=true then -Aq a.2 else Aq a.2
def CB(a:Bool×List Int):Bool:=A4 a.2&&decide (a.2.length≤3000)&&(!a.1||decide (a.2≠[]))
def Hl(l:List Int)(i:Int):Int:=l.getD i.toNat 0
def gN(a b:List Int):Bool:=A4 a&&A4 b&&decide (a.length≤9000)&&decide (b.length≤9000)
def LG(a b:List Int):List Int:=BL (Aq a+Aq b)
def F5(a b:List Int):List Int:=BL (Aq a-Aq b)
def LR(a b:Bool×List Int):Bool:=rN (vR a+vR b)
def L0(a b:Bool×List Int):List Int:=rW (vR a+vR b)
def G3(a b:Bool×List Int):Bool:=rN (vR a*vR b)
def GD(a b:Bool×List Int):List Int:=rW (vR a*vR b)
def Sd(a:Bool×List Int):Bool:=rN (-vR a)
def RQ(a:Bool×List Int):List Int:=rW (-vR a)
def Ja(a:Bool×List Int):List UInt8:=AX (vR a)
def Hi(n d:Bool×List Int):List UInt8:=Cm (vR n) (vR d)
def Z1(a:List UInt8):Int:=if DF a=true then HF a else 0
def Uk(a:List UInt8):Int:=if DF a=true then QM a else 0
def JA(a b:List UInt8):List UInt8:=A0 (AW a+AW b)
def Kw(a b:List UInt8):List UInt8:=A0 (AW a-AW b)
def Et(a b:List UInt8):List UInt8:=A0 (AW a*AW b)
def Pw(a:List UInt8):List UInt8:=A0 (AW a)⁻¹
def Mm(a b:List UInt8):List UInt8:=A0 (AW a/AW b)
def SE(a b:List UInt8):Int:=if AW a<AW b then -1 else if AW b<AW a then 1 else 0
def Jx(a:List UInt8):Bool:= !Bk a
def EJ(a:List UInt8):Int:=if 600<(AY (Ax a)).length∨600<(Pk a).length then 4 else 0
def Dc(a:List UInt8):Bool:=Bw a&&decide (a.length≤3000)
def dL(a:List UInt8):Bool:=Dc a&&decide (AW a≠0)
end Go.Sp
namespace Go.Pe
open Sp
open Go.Det
noncomputable section
noncomputable def UF:Ao:=⟨[li,i64],fun i=>decide (0≤(i.2:Int)),[i64],fun i=>Hl i.1 i.2,false⟩
noncomputable def VC:Ao:=⟨[li,li],fun i=>gN i.1 i.2,[li],fun i=>LG i.1 i.2,false⟩
noncomputable def UU:Ao:=⟨[li,li],fun i=>gN i.1 i.2&&decide (Aq i.2≤Aq i.1),[li],fun i=>F5 i.1 i.2,false⟩
noncomputable def eE:Ao:=⟨[IS,IS],fun i=>CB i.1&&CB i.2,[IS],fun i=>(LR i.1 i.2,L0 i.1 i.2),false⟩
noncomputable def V8:Ao:=⟨[IS,IS],fun i=>CB i.1&&CB i.2,[IS],fun i=>(G3 i.1 i.2,GD i.1 i.2),false⟩
noncomputable def Wf:Ao:=⟨[IS],fun a=>CB a,[IS],fun a=>(Sd a,RQ a),false⟩
noncomputable def Zl:Ao:=⟨[IS],fun a=>CB a,[.str],fun a=>Ja a,false⟩
noncomputable def LF:Ao:=⟨[IS,IS],fun i=>CB i.1&&CB i.2&&decide (Sp.vR i.2≠0),[.str],fun i=>Hi i.1 i.2,false⟩
noncomputable def WJ:Ao:=⟨[i64,i64],fun i=>BG i.1&&BG i.2&&decide ((i.2:Int)≠0),[.str],fun i=>Cm i.1 i.2,false⟩
noncomputable def MB:Ao:=⟨[.str],fun s=>Bw s,[i64,i64,.bool],fun s=>(Z1 s,Uk s,DF s),false⟩
noncomputable def SB:Ao:=⟨[.str,.str],fun i=>Bw i.1&&Bw i.2,[.str],fun i=>JA i.1 i.2,false⟩
noncomputable def Z9:Ao:=⟨[.str,.str],fun i=>Bw i.1&&Dc i.2,[.str],fun i=>Kw i.1 i.2,false⟩
noncomputable def Ta:Ao:=⟨[.str,.str],fun i=>Bw i.1&&Bw i.2,[.str],fun i=>Et i.1 i.2,false⟩
noncomputable def oI:Ao:=⟨[.str],fun s=>dL s,[.str],fun s=>Pw s,false⟩
noncomputable def oB:Ao:=⟨[.str,.str],fun i=>Bw i.1&&dL i.2,[.str],fun i=>Mm i.1 i.2,false⟩
noncomputable def oA:Ao:=⟨[.str,.str],fun i=>Bw i.1&&Dc i.2,[i64],fun i=>SE i.1 i.2,false⟩
noncomputable def Xs:Ao:=⟨[.str],fun s=>decide (s.length≤1000000),[.bool],fun s=>Jx s,false⟩
noncomputable def Qz:Ao:=⟨[.str],fun s=>decide (s.length≤1000000),[i64],fun s=>EJ s,false⟩
noncomputable def wT:A6:=X7 []
noncomputable def Sm:A6:=X7 [(229,UF),(227,Rj)]
noncomputable def pJ:A6:=X7 [(168,HU),(169,VC),(170,WD),(171,UU),(172,WM),(164,PZ)]
noncomputable def wA:A6:=X7 [(109,Oc)]
noncomputable def Zu:A6:=Ze [(96,[3,7,9])] [] [(96,[(3,[2,3]),(7,[8,10]),(9,[8,10])])] [(166,Wf),(92,JD),(164,PZ),(168,HU),(167,Zl)]
noncomputable def YZ:A6:=Ze [(36,[3,5,7,11])] [] [(36,[(3,[0,1]),(5,[0,1]),(7,[0,1]),(11,[1,6])])] [(107,J7),(96,LF),(108,oE),(109,Oc)]
noncomputable def aS:A6:=Ze [(27,[5]),(29,[5])] [] [(27,[(5,[0,1])]),(29,[(5,[0,1])])] [(95,MB),(36,WJ),(91,RT),(97,eE),(98,V8),(96,LF)]
noncomputable def tX:A6:=X7 [(94,oI),(29,Ta),(27,SB),(99,cK)]
noncomputable def qD:A6:=X7 [(28,Z9),(41,Nl),(89,K2),(100,Xn),(101,dE),(102,Xv)]
end
noncomputable def RO:Ao:=⟨[],fun _=>true,[.bool],fun _=>true,false⟩
theorem Tt:Ae AT 17 RO:=by
 refine .wR ⟨by kernel_rfl,Ad (by kernel_rfl),fun F h args i hfz hlt hgh hargs _=>?_⟩;have ha:args=[]:=by
  have:=hargs (fun _=>none) 0;simpa [Ah,RO]using this
 subst ha;refine⟨[(.bool true,h)],1,fun m hm=>?_,fun _=>⟨_,rfl⟩,fun x hx=>?_⟩
 ·obtain⟨m',rfl⟩:∃m',m=m'+1:=⟨m-1,by omega⟩;have hq:AT.spec 17=some fun args h=>bif jP h Fu then(match H7 A7 17 args with|some v=>some (v,h)|none=>none)else none:=rfl
  rw[Bf];simp only[hq,pS hgh,cond_true];rfl
 ·cases List.mem_singleton.1 hx;exact⟨zO _,fun _ _=>rfl,hlt,F,fun _ _ h=>h,fun _ _ h=>.inl h,hfz,fun ρ N=>Dw _⟩
end Go.Pe
end
section
namespace Go.Sp
def OS(a:AQ):Int:=if Bo (Ag (vI a))=[]then 0 else 64*((Bo (Ag (vI a))).length-1)+Es ((Bo (Ag (vI a))).getD ((Bo (Ag (vI a))).length-1) 0)
def DW(a:AQ):Bool:=LY (vI a)
def HB(a:AA):Bool:=DW a.1||DW a.2
def IX(a:AA):List UInt8:=if CC a.2=true then AX (vI a.1)else AX (vI a.1)++47::AX (vI a.2)
def KW(a:AA):List UInt8:=if HB a=true then[]else IX a
def Lg(a:AA):Int:=if HB a=true then 4 else 0
def Ga:List (List UInt8)→Int
 |[]=>0
 |s::l=>if AP s≠0 then AP s else Ga l
def dP(a:AA):Int:=Pd (vI a.1)
def NU(a b:List UInt8):Int:=Ga [a,b]
def QP(e:Int)(q:Rat):List UInt8:=if e≠0 then[]else if IW q=true then[]else A0 q
def R5(e:Int)(q:Rat):Int:=if e≠0 then e else if IW q=true then 4 else 0
def Mt(d:Int):Int:=if d=0 then 6 else 0
def X9(n d:Int):List UInt8:=QP (Mt d) (z6 n d)
def XX(n d:Int):Int:=R5 (Mt d) (z6 n d)
def Jc(a u:List UInt8):Int:=if NU a u≠0 then NU a u else if AW u≤0 then 3 else 0
def rY(a u:List UInt8):Rat:=((AW a/AW u+1/2).floor:Int)*AW u
def DK(a u:List UInt8):List UInt8:=QP (Jc a u) (rY a u)
def OE(a u:List UInt8):Int:=R5 (Jc a u) (rY a u)
def KK(a:List UInt8):List UInt8:=QP (AP a) (AW a/(1143/1250))
def Pn(a:List UInt8):Int:=R5 (AP a) (AW a/(1143/1250))
def Pp(a:List UInt8):List UInt8:=QP (AP a) (AW a*(1143/1250))
def Pv(a:List UInt8):Int:=R5 (AP a) (AW a*(1143/1250))
def Xt:AA:=Lz ((1143,B1 1143),(1,B1 1)) ((1250,B1 1250),(1,B1 1))
def vM:Int:=nS Xt
def uP:List Int:=nW Xt
def wF:Int:=dS Xt
def wH:List Int:=dW Xt
def Fb:Nat→Nat→Nat→Nat
 |0,_,r=>r
 |b+1,n,r=>if (r+2^b)*(r+2^b)≤n then Fb b n (r+2^b)else Fb b n r
def BA(n:Int):Int:=if n<0 then 0 else(Fb 32 n.toNat 0:Nat)
def FF(n:Int):Int:=if n<0 then 3 else 0
def H6(l:List (List UInt8)):Bool:=l.all fun s=>decide (s.length≤1300)
def Ea(a:List UInt8)(e:Int)(w:List UInt8)(bad:Int):Bool:=if (if bad=0 then EJ w else bad)≠0 then decide (a=[])&&decide (e=(if bad=0 then EJ w else bad))else decide (e=0)&&decide (a=w)
def tC(a b:List UInt8):Bool:=decide (a.length≤1000000)&&decide (b.length≤1000000)
end Go.Sp
namespace Go.Pe
open Sp
open Go.Det
noncomputable section
noncomputable def aU:Ao:=⟨[BE],fun a=>A5 a,[i64],fun a=>OS a,false⟩
noncomputable def XD:Ao:=⟨[BE],fun a=>A5 a,[.bool],fun a=>DW a,false⟩
noncomputable def QX:Ao:=⟨[.str,.str],fun i=>RX i.1 i.2,[.str],fun i=>AY i.1,false⟩
noncomputable def V6:Ao:=⟨[BI],fun a=>yp (a:AA),[.bool],fun a=>HB a,false⟩
noncomputable def cX:Ao:=⟨[BI],fun a=>yp (a:AA),[.str],fun a=>IX a,false⟩
noncomputable def MX:Ao:=⟨[BI],fun a=>yp (a:AA),[.str,i64],fun a=>(KW a,Lg a),false⟩
noncomputable def Qs:Ao:=⟨[.list .str],fun l=>decide (yq (α:=List UInt8) l≤1000)&&List.all (α:=List UInt8) l (fun s=>decide (s.length≤1000000)),[i64],fun l=>Ga l,false⟩
noncomputable def ZH:Ao:=⟨[BI],fun a=>C8 (a:AA).1,[i64],fun a=>dP a,false⟩
noncomputable def tQ:Ao:=⟨[i64,i64],fun i=>BG i.1&&BG i.2,[.str,i64],fun i=>(X9 i.1 i.2,XX i.1 i.2),false⟩
noncomputable def KR:Ao:=⟨[.str,.str],fun i=>tC i.1 i.2,[.str,i64],fun i=>(DK i.1 i.2,OE i.1 i.2),false⟩
noncomputable def QO:Ao:=⟨[.str],fun s=>decide (s.length≤1000000),[.str,i64],fun s=>(KK s,Pn s),false⟩
noncomputable def Nb:Ao:=⟨[.str],fun s=>decide (s.length≤1000000),[.str,i64],fun s=>(Pp s,Pv s),false⟩
noncomputable def VY:Ao:=⟨[i64],fun n=>BG n,[i64,i64],fun n=>(BA n,FF n),false⟩
noncomputable def aD:Ao:=⟨[.list .str],fun l=>decide (yq (α:=List UInt8) l≤1000),[.bool],fun l=>H6 l,false⟩
noncomputable def Qh:Ao:=⟨[.str,i64,.str,i64],fun i=>decide (yq (α:=UInt8) i.2.2.1≤1000000),[.bool],fun i=>Ea i.1 i.2.1 i.2.2.1 i.2.2.2,false⟩
noncomputable def Vb:A6:=X7 []
noncomputable def xK:A6:=X7 [(218,O2),(247,VF)]
noncomputable def pX:A6:=X7 [(248,aU),(200,pB),(214,QX)]
noncomputable def wC:A6:=X7 [(199,XD),(156,OT),(200,pB)]
noncomputable def sA:A6:=X7 [(131,V6),(132,cX)]
noncomputable def sM:A6:=X7 [(77,D6),(173,Jn)]
noncomputable def nJ:Ao:=⟨[],fun _=>true,[BI],fun _=>((vM,uP),(wF,wH)),false⟩
noncomputable def vF:A6:=X7 [(83,Nz),(85,TK),(84,Qs),(87,Xm),(80,Ui),(81,cN),(82,T0),(86,V4),(88,eX),(103,MX),(104,W8),(105,TC),(110,ZH),(111,cF),(112,UL),(77,D6)]
noncomputable def Uh:A6:=Ze [(40,[5,8])] [] [(40,[(5,[0,1,7]),(8,[7,8])])] [(83,Nz),(85,TK),(84,Qs),(87,Xm),(80,Ui),(81,cN),(82,T0),(86,V4),(88,eX),(103,MX),(104,W8),(105,TC),(110,ZH),(111,cF),(112,UL),(77,D6)]
noncomputable def uC:A6:=X7 [(77,D6),(87,Xm),(82,T0),(86,V4),(106,nJ),(103,MX)]
noncomputable def tS:A6:=X7 [(93,Qz)]
end
end Go.Pe
end
section
namespace Go.Sp
def PB(a:List UInt8):List UInt8:=Et a [49,47,50]
def wO(a:List UInt8):List UInt8:=Et a [49,50,53,48,47,49,49,52,51]
def wK(a:List UInt8):List UInt8:=Et a [49,49,52,51,47,49,50,53,48]
end Go.Sp
namespace Go.Pe
open Sp
open Go.Det
noncomputable section
noncomputable def Wk:Ao:=⟨[.str],fun s=>Bw s,[.str],fun s=>wO s,false⟩
noncomputable def Th:Ao:=⟨[.str],fun s=>Bw s,[.str],fun s=>wK s,false⟩
noncomputable def nH:Ao:=⟨[.str],fun s=>Bw s,[.str],fun s=>PB s,false⟩
noncomputable def Zm:Ao:=⟨[i64],fun n=>BG n&&decide (0≤(n:Int)),[i64],fun n=>BA n,false⟩
noncomputable def qZ:A6:=X7 [(29,Ta)]
noncomputable def Jv:Ao:=⟨[.str,i64,i64],fun i=>BG i.2.1&&BG i.2.2,[.bool],fun _=>true,false⟩
noncomputable def LD:Ao:=⟨[.str,.str,i64],fun i=>BG i.2.2,[.bool],fun _=>true,false⟩
noncomputable def oG:A6:=Ze [(5,[12,14])] [] [(5,[(12,[0,1,9,10,11,12,13,14]),(14,[0,11,12,13,14])])] [(16,aD),(17,RO),(32,tQ),(33,VY),(34,QO),(35,Nb),(36,WJ),(37,Zm),(38,Wk),(39,Th),(24,D6),(25,Qh)]
noncomputable def yG:A6:=X7 [(31,dR),(17,RO),(40,KR),(24,D6),(43,Xs),(26,oB),(44,nH),(28,Z9),(27,SB),(30,oA),(34,QO),(35,Nb),(33,VY),(41,Nl)]
end
end Go.Pe
end
section
namespace Go.Pe
open Sp
open Go.Det
noncomputable section
open List Int Prod
namespace T5
def T(a:List UInt8)(n d:Int):Tr:=tree oG false 9 5 (Ah ([ze,zp zr,zp zr]) (a,n,d))
def L1(v0:List UInt8)(v1 v9 v10:Int)(v11:List UInt8)(v12:Int)(v13:List UInt8)(v14:Int):Tr:=re ((T [] 0 0).L.R.L.L.L.L.L.L.R) (AH 111 [(0,.dat ze v0),(1,.dat i64 v1),(9,.dat i64 v9),(10,.dat i64 v10),(11,.dat ze v11),(12,.dat i64 v12),(13,.dat ze v13),(14,.dat i64 v14)] [] 0)
theorem Am(a:List UInt8)(n d:Int):T a n d=let a':=L1 a n (BA n) (FF n) (KK a) (Pn a) (Pp a) (Pv a);let b':=[(0,.arr false 22 ze [a])];let c':=decide (length a≤1000000);.ite (decide (1≤1)&&true&&decide (1≤1000)) (.ite (!H6 [a]) (.ite true (.leaf (.dat zm true) b') .fail) (.ite (BG n&&BG d) (.ite (BG n) (.ite c' (.ite c' (.ite (d==0) (.ite (decide (1≤1000000)) (.ite (!Ea (X9 n d) (XX n d) [(48:UInt8)] 6) (.leaf (.bl false) b') a') .fail) (.ite (BG n&&BG d&&decide (d≠0)) (.ite (decide (length (Cm n d)≤1000000)) (.ite (!Ea (X9 n d) (XX n d) (Cm n d) 0) (.leaf (.bl false) b') a') .fail) .fail)) .fail) .fail) .fail) .fail)) .fail:=by kernel_rfl
def L2(v0 v11:List UInt8)(v12:Int)(v13:List UInt8)(v14:Int):Tr:=re ((stepT oG (L1 [] 0 0 0 [] 0 [] 0)).L.R.R.L.L.R.R) (AH 111 [(0,.dat ze v0),(11,.dat ze v11),(12,.dat i64 v12),(13,.dat ze v13),(14,.dat i64 v14)] [] 0)
theorem As(v0:List UInt8)(v1 v9 v10:Int)(v11:List UInt8)(v12:Int)(v13:List UInt8)(v14:Int):stepT oG (L1 v0 v1 v9 v10 v11 v12 v13 v14)=let b':Tr:=.leaf (.bl false) [];let a':Tr:=.ite (decide (v1≥0)) (.ite (BG v1&&decide (0≤v1)) (.ite (v9 !=BA v1) b' (.ite (v10 !=0) b' (L2 v0 v11 v12 v13 v14))) .fail) (L2 v0 v11 v12 v13 v14);.ite (decide (v1<0)) (.ite (v9 !=0) b' (.ite (v10 !=3) b' a')) a':=by kernel_rfl
theorem A3(v0 v11:List UInt8)(v12:Int)(v13:List UInt8)(v14:Int):stepT oG (L2 v0 v11 v12 v13 v14)=let a':Tr:=.leaf (.bl false) [];let b':Tr:=.ite true (.leaf (.dat zm true) []) .fail;.ite (decide (length v0≤1000000)) (.ite (AP v0 !=0) (.ite (decide (1≤1000000)) (.ite (Ea v11 v12 [(48:UInt8)] (AP v0)) (.ite (decide (1≤1000000)) (.ite (Ea v13 v14 [(48:UInt8)] (AP v0)) b' a') .fail) a') .fail) (.ite (Bw v0) (.ite (decide (length (wO v0)≤1000000)) (.ite (Ea v11 v12 (wO v0) 0) (.ite (Bw v0) (.ite (decide (length (wK v0)≤1000000)) (.ite (Ea v13 v14 (wK v0) 0) b' a') .fail) .fail) a') .fail) .fail)) .fail:=by kernel_rfl
end T5
namespace T7
def T(a u:List UInt8)(n:Int):Tr:=tree yG false 9 7 (Ah ([ze,ze,zp zr]) (a,u,n))
theorem Am(a u:List UInt8)(n:Int):T a u n=let a':Tr:=.leaf (.bl false) [];let b':Tr:=.ite true (.leaf (.dat zm true) []) .fail;let c':=DK a u;let d':=decide (0≤60)&&decide (60≤1000);let e':=Kw c' (PB u);let f':=JA c' (PB u);.ite d' (.ite (!Jl a 60) b' (.ite d' (.ite (!Jl u 60) b' (.ite (decide (length u≤1000000)) (.ite (decide (Fp u≤0)) b' (.ite (tC a u) (.ite (OE a u !=0) a' (.ite (decide (length c'≤1000000)) (.ite (AP c' !=0) a' (.ite (Bw c'&&dL u) (.ite (decide (length (Mm c' u)≤1000000)) (.ite (!Jx (Mm c' u)) a' (.ite (Bw u) (.ite (Bw c'&&Dc (PB u)) (.ite (Bw e'&&Dc a) (.ite (decide (SE e' a>0)) a' (.ite (Bw c'&&Bw (PB u)) (.ite (Bw f'&&Dc a) (.ite (decide (SE f' a≤0)) a' (.ite (tC c' u) (.ite (decide (length a≤1000000)) (.ite (zc .i64 (OE c' u+Pn a) !=0) a' (.ite (!DK c' u==DK a u) a' (.ite (decide (length (KK a)≤1000000)) (.ite (Pv (KK a) !=0) a' (.ite (!Pp (KK a)==a) a' (.ite (decide (n<0)) b' (.ite (BG n) (.ite (FF n !=0) a' (.ite (decide (BA n<0)) a' (.ite (decide (BA n>3037000499)) a' (.ite (decide (zc .i64 (BA n*BA n)>n)) a' (.ite (decide (zc .i64 (n-zc .i64 (BA n*BA n))≤zc .i64 (2*BA n))) b' a'))))) .fail)))) .fail))) .fail) .fail)) .fail) .fail)) .fail) .fail) .fail)) .fail) .fail)) .fail)) .fail)) .fail)) .fail)) .fail:=by kernel_rfl
end T7
end
end Go.Pe
end
section
namespace Go.Pe
open Sp
open Go.Det
noncomputable section
open List Int Prod
namespace T32
def T(n d:Int):Tr:=tree vF false 9 32 (Ah ([zp zr,zp zr]) (n,d))
theorem Am(n d:Int):T n d=let a':=Sk (n,B1 n) (d,B1 d);.ite (d==0) (.leaf (.tup [.dat ze [],.dat i64 (6:Int)]) []) (.ite true (.ite true (.ite (Jy (n,B1 n) (d,B1 d)) (.ite (yp a') (.leaf (.tup [.dat ze (KW a'),.dat i64 (Lg a')]) []) .fail) .fail) .fail) .fail):=by kernel_rfl
end T32
namespace T111
def T(n:Int):Tr:=tree Sn false 9 111 (Ah ([zp zr]) n)
theorem Am(n:Int):T n=let a':=zt (zp zn);.ite true (.ite true (.leaf (PV.agg [.dat i64 n,.dat a' (B1 n),.dat i64 (1:Int),.dat a' (B1 1)]) ([(zq (zq 0 1) 1,.box [.dat i64 n,.dat a' (B1 n),.dat i64 (1:Int),.dat a' (B1 1)]),(zq 0 1,.box [.dat i64 n,.dat a' (B1 n)]),(0,.box [.dat i64 n,.dat a' (B1 n),.dat i64 (1:Int),.dat a' (B1 1)])])) .fail) .fail:=by kernel_rfl
end T111
namespace T106
def T:Tr:=tree vF false 9 106 (Ah [] ())
theorem Am:T=let a':=((1143,B1 1143),1,B1 1);let b':=((1250,B1 1250),1,B1 1);let c':=zt (zp zn);.ite true (.ite true (.ite true (.leaf (PV.agg [.dat i64 (dM a' b'),.dat c' (Zn a' b'),.dat i64 (aG a' b'),.dat c' (gC a' b')]) ([(0,.box [.dat i64 (dM a' b'),.dat c' (Zn a' b'),.dat i64 (aG a' b'),.dat c' (gC a' b')])])) .fail) .fail) .fail:=by kernel_rfl
end T106
namespace T34
def T(a:List UInt8):Tr:=tree uC false 9 34 (Ah ([ze]) a)
theorem Am(a:List UInt8):T a=let b':=((Mu a,Mk a),KN a,Ka a);let c':=((vM,uP),wF,wH);let a':=Lz b' c';.ite (decide (length a≤1000000)) (.ite (AP a !=0) (.leaf (.tup [.dat ze [],.dat i64 (AP a)]) []) (.ite (Ho a) (.ite true (.ite (z8 b'&&z8 c'&&decide (zx (vM,uP)≠0)) (.ite (yp a') (.leaf (.tup [.dat ze (KW a'),.dat i64 (Lg a')]) []) .fail) .fail) .fail) .fail)) .fail:=by kernel_rfl
end T34
namespace T35
def T(a:List UInt8):Tr:=tree uC false 9 35 (Ah ([ze]) a)
theorem Am(a:List UInt8):T a=let b':=((Mu a,Mk a),KN a,Ka a);let c':=((vM,uP),wF,wH);let a':=Pm b' c';.ite (decide (length a≤1000000)) (.ite (AP a !=0) (.leaf (.tup [.dat ze [],.dat i64 (AP a)]) []) (.ite (Ho a) (.ite true (.ite (z8 b'&&z8 c') (.ite (yp a') (.leaf (.tup [.dat ze (KW a'),.dat i64 (Lg a')]) []) .fail) .fail) .fail) .fail)) .fail:=by kernel_rfl
end T35
namespace T33
def T(n:Int):Tr:=tree Vb false 9 33 (Ah ([zp zr]) n)
def L1(v0 v4 v5:Int):Tr:=re ((T 0).R) (AH 27 [(0,.dat i64 v0),(4,.dat i64 v4),(5,.dat i64 v5)] [] 0)
theorem Am(n:Int):T n=.ite (decide (n<0)) (.leaf (.tup [.dat i64 (0:Int),.dat i64 (3:Int)]) []) (L1 n 0 31):=by kernel_rfl
theorem As(v0 v4 v5:Int):stepT Vb (L1 v0 v4 v5)=let a':=zc .u64 (1*2^Min.min (toNat v5) 64);let b':=zc .u64 v4;let c':=zc .i64 (v5-1);.ite (decide (v5≥0)) (.ite (decide (0≤v5)) (.ite (decide (zc .u64 (TZ zn b' a'*TZ zn b' a')≤zc .u64 v0)) (L1 v0 (zc .i64 (TZ zn b' a')) c') (L1 v0 v4 c')) .fail) (.leaf (.tup [.dat i64 v4,.dat i64 (0:Int)]) []):=by kernel_rfl
end T33
namespace T37
def T(n:Int):Tr:=tree Vb false 9 37 (Ah ([zp zr]) n)
def L1(v0 v3 v4:Int):Tr:=re ((T 0)) (AH 23 [(0,.dat i64 v0),(3,.dat i64 v3),(4,.dat i64 v4)] [] 0)
theorem Am(n:Int):T n=L1 n 0 3037000499:=by kernel_rfl
theorem As(v0 v3 v4:Int):stepT Vb (L1 v0 v3 v4)=let a':=ya (zc .i64 (zc .i64 (v3+v4)+1)) 2;.ite (decide (v3<v4)) (.ite true (.ite (decide (zc .i64 (zc .i64 a'*zc .i64 a')≤v0)) (L1 v0 (zc .i64 a') v4) (L1 v0 v3 (zc .i64 (zc .i64 a'-1)))) .fail) (.leaf (.dat i64 v3) []):=by kernel_rfl
end T37
namespace T38
def T(a:List UInt8):Tr:=tree qZ false 9 38 (Ah ([ze]) a)
theorem Am(a:List UInt8):T a=let a':=([49,50,53,48,47,49,49,52,51]:List UInt8);.ite (Bw a&&Bw a') (.leaf (.dat ze (Et a a')) []) .fail:=by kernel_rfl
end T38
namespace T39
def T(a:List UInt8):Tr:=tree qZ false 9 39 (Ah ([ze]) a)
theorem Am(a:List UInt8):T a=let a':=([49,49,52,51,47,49,50,53,48]:List UInt8);.ite (Bw a&&Bw a') (.leaf (.dat ze (Et a a')) []) .fail:=by kernel_rfl
end T39
namespace T44
def T(a:List UInt8):Tr:=tree qZ false 9 44 (Ah ([ze]) a)
theorem Am(a:List UInt8):T a=.ite (Bw a&&Bw [(49:UInt8),(47:UInt8),(50:UInt8)]) (.leaf (.dat ze (Et a [(49:UInt8),(47:UInt8),(50:UInt8)])) []) .fail:=by kernel_rfl
end T44
end
end Go.Pe
end
section
namespace Go.Pe
open Sp
open Go.Det
noncomputable section
open List Int Prod
namespace T40
def T(a u:List UInt8):Tr:=tree Uh false 9 40 (Ah ([ze,ze]) (a,u))
def L1(v0 v1:List UInt8)(o0:Int)(o0_1:List Int)(o0_2:Int)(o0_3:List Int):Tr:=re ((T [] []).L.R.L) (AH 38 [(0,.dat ze v0),(1,.dat ze v1),(7,.ptr 0 0)] [(0,.box [.dat i64 o0,.dat (zt (zp zn)) o0_1,.dat i64 o0_2,.dat (zt (zp zn)) o0_3])] 1)
theorem Am(a u:List UInt8):T a u=.ite (decide (2≤2)&&true&&(decide (2≤1000)&&List.all [a,u] fun s=>decide (length s≤1000000))) (.ite (Ga [a,u] !=0) (.leaf (.tup [.dat ze [],.dat i64 (Ga [a,u])]) ([(0,.arr false 22 ze [a,u])])) (.ite (Ho u) (L1 a u (Mu u) (Mk u) (KN u) (Ka u)) .fail)) .fail:=by kernel_rfl
def L2(o1:Int)(o1_1:List Int)(o0:Int)(o0_1:List Int)(o0_2:Int)(o0_3:List Int):Tr:=re ((stepT Uh (L1 [] [] 0 [] 0 [])).L.R.L.L.L.L.L.L.L) (AH 38 [(7,.ptr 0 0),(8,.ptr 1 0)] [(1,.box [.dat i64 o1,.dat (zt (zp zn)) o1_1]),(0,.box [.dat i64 o0,.dat (zt (zp zn)) o0_1,.dat i64 o0_2,.dat (zt (zp zn)) o0_3])] 2)
theorem As(v0 v1:List UInt8)(o0:Int)(o0_1:List Int)(o0_2:Int)(o0_3:List Int):stepT Uh (L1 v0 v1 o0 o0_1 o0_2 o0_3)=let b':=((Mu v0,Mk v0),KN v0,Ka v0);let c':=Lz ((1,B1 1),1,B1 1) ((2,B1 2),1,B1 1);let d':=((o0,o0_1),o0_2,o0_3);let e':=zt (zp zn);let a':=Ly (Lz b' d') c';.ite (C8 (o0,o0_1)) (.ite (decide (dP d'≤0)) (.leaf (.tup [.dat ze [],.dat i64 (3:Int)]) ([(0,.box [.dat i64 o0,.dat e' o0_1,.dat i64 o0_2,.dat e' o0_3])])) (.ite (Ho v0) (.ite (z8 b'&&z8 d'&&decide (zx (o0,o0_1)≠0)) (.ite true (.ite true (.ite true (.ite (z8 (Lz b' d')&&z8 c') (.ite (z8 a') (L2 (yO a') (yK a') o0 o0_1 o0_2 o0_3) .fail) .fail) .fail) .fail) .fail) .fail) .fail)) .fail:=by kernel_rfl
theorem A3(o1:Int)(o1_1:List Int)(o0:Int)(o0_1:List Int)(o0_2:Int)(o0_3:List Int):stepT Uh (L2 o1 o1_1 o0 o0_1 o0_2 o0_3)=let b':=zt (zp zn);let c':=Sk (o1,o1_1) (1,B1 1);let a':=Pm c' ((o0,o0_1),o0_2,o0_3);.ite true (.ite (Jy (o1,o1_1) (1,B1 1)) (.ite (z8 c'&&z8 ((o0,o0_1),o0_2,o0_3)) (.ite (yp a') (.leaf (.tup [.dat ze (KW a'),.dat i64 (Lg a')]) ([(1,.box [.dat i64 o1,.dat b' o1_1]),(0,.box [.dat i64 o0,.dat b' o0_1,.dat i64 o0_2,.dat b' o0_3])])) .fail) .fail) .fail) .fail:=by kernel_rfl
end T40
end
end Go.Pe
end
section
namespace Go.Pe
open Sp
open Go.Det
noncomputable section
open List Int Prod
namespace T214
def T(s t:List UInt8):Tr:=tree Vb false 9 214 (Ah ([ze,ze]) (s,t))
theorem Am(s t:List UInt8):T s t=let a':=(length t:Int);let b':=decide (toNat a'≤length s);.ite (decide ((length s:Int)≥a')) (.ite (decide (0≤a')&&decide (0≤toNat a')&&b') (.ite (take (toNat a') s==t) (.ite (decide (0≤a')&&true&&b'&&decide (length s≤length s)) (.leaf (.dat ze (take (yb (length s) (toNat a')) (drop (toNat a') s))) []) .fail) (.leaf (.dat ze s) [])) .fail) (.leaf (.dat ze s) []):=by kernel_rfl
end T214
namespace T248
def T(a:Int×List Int):Tr:=tree xK false 9 248 (Ah ([zz i64 (zt (zp zn))]) a)
theorem Am(a:Int×List Int):T a=let c':=[(0,.box [.dat i64 (fst a),.dat (zt (zp zn)) (snd a)])];let d':=Bo (Ag (zx (fst a,snd a)));let a':=(↑(length d'):Int);let b':=getD d' (toNat (zc .i64 (a'-1))) 0;.ite (C8 (fst a,snd a)) (.ite (a'==0) (.leaf (.dat i64 (0:Int)) c') (.ite (decide (0≤zc .i64 (a'-1))&&decide (zc .i64 (a'-1)<a')) (.ite (Sp.u64 b') (.leaf (.dat i64 (zc .i64 (zc .i64 (64*zc .i64 (a'-1))+Es b'))) c') .fail) .fail)) .fail:=by kernel_rfl
end T248
namespace T199
def T(a:Int×List Int):Tr:=tree pX false 9 199 (Ah ([zz i64 (zt (zp zn))]) a)
theorem Am(a:Int×List Int):T a=let a':=[(0,.box [.dat i64 (fst a),.dat (zt (zp zn)) (snd a)])];let b':=AX (zx (fst a,snd a));.ite (A5 (fst a,snd a)) (.ite (decide (OS (fst a,snd a)>1800)) (.ite (A5 (fst a,snd a)) (.ite (RX b' [(45:UInt8)]) (.leaf (.dat zm (decide ((↑(length (AY b')):Int)>600))) a') .fail) .fail) (.leaf (.bl false) a')) .fail:=by kernel_rfl
end T199
namespace T131
def T(a:(Int×List Int)×Int×List Int):Tr:=tree wC false 9 131 (Ah ([zz (zz i64 (zt (zp zn))) (zz i64 (zt (zp zn)))]) a)
theorem Am(a:(Int×List Int)×Int×List Int):T a=let b':=zt (zp zn);let c':=(fst (fst a),snd (fst a));let d':=(fst (snd a),snd (snd a));let a':=[(0,.box [.dat i64 (fst (fst a)),.dat b' (snd (fst a)),.dat i64 (fst (snd a)),.dat b' (snd (snd a))])];.ite (A5 c') (.ite (DW c') (.leaf (.bl true) a') (.ite (A5 d') (.leaf (.dat zm (DW d')) a') .fail)) .fail:=by kernel_rfl
end T131
namespace T132
def T(a:(Int×List Int)×Int×List Int):Tr:=tree wC false 9 132 (Ah ([zz (zz i64 (zt (zp zn))) (zz i64 (zt (zp zn)))]) a)
theorem Am(a:(Int×List Int)×Int×List Int):T a=let b':=(fst (fst a),snd (fst a));let c':=(fst (snd a),snd (snd a));let d':=zt (zp zn);let a':=[(0,.box [.dat i64 (fst (fst a)),.dat d' (snd (fst a)),.dat i64 (fst (snd a)),.dat d' (snd (snd a))])];.ite true (.ite (CC c') (.ite (A5 b') (.leaf (.dat ze (AX (zx b'))) a') .fail) (.ite (A5 b') (.ite (decide (length (AX (zx b'))+1≤4611686018427387904)) (.ite (A5 c') (.ite (decide (length (AX (zx b')++[(47:UInt8)])+length (AX (zx c'))≤4611686018427387904)) (.leaf (.dat ze (AX (zx b')++[(47:UInt8)]++AX (zx c'))) a') .fail) .fail) .fail) .fail)) .fail:=by kernel_rfl
end T132
namespace T103
def T(a:(Int×List Int)×Int×List Int):Tr:=tree sA false 9 103 (Ah ([zz (zz i64 (zt (zp zn))) (zz i64 (zt (zp zn)))]) a)
theorem Am(a:(Int×List Int)×Int×List Int):T a=let b':=((fst (fst a),snd (fst a)),fst (snd a),snd (snd a));let c':=zt (zp zn);let a':=[(0,.box [.dat i64 (fst (fst a)),.dat c' (snd (fst a)),.dat i64 (fst (snd a)),.dat c' (snd (snd a))])];.ite (yp b') (.ite (HB b') (.leaf (.tup [.dat ze [],.dat i64 (4:Int)]) a') (.ite (yp b') (.leaf (.tup [.dat ze (IX b'),.dat i64 (0:Int)]) a') .fail)) .fail:=by kernel_rfl
end T103
namespace T84
def T(l:List (List UInt8)):Tr:=tree sM false 9 84 (Ah ([zj ze]) l)
def L1(v6:List (List UInt8))(v7 v8:Int):Tr:=re ((T [])) (AH 18 [(6,.dat (zj ze) v6),(7,.dat i64 v7),(8,.dat i64 v8)] [] 0)
theorem Am(l:List (List UInt8)):T l=L1 l ((length l:Int)) 0:=by kernel_rfl
theorem As(v6:List (List UInt8))(v7 v8:Int):stepT sM (L1 v6 v7 v8)=let a':=getD v6 (toNat v8) [];.ite (decide (v8<v7)) (.ite (decide (0≤v8)&&decide (v8<(length v6:Int))) (.ite (decide (length a'≤1000000)) (.ite (AP a' !=0) (.leaf (.dat i64 (AP a')) []) (L1 v6 v7 (zc .i64 (v8+1)))) .fail) .fail) (.leaf (.dat i64 (0:Int)) []):=by kernel_rfl
end T84
namespace T110
def T(a:(Int×List Int)×Int×List Int):Tr:=tree sM false 9 110 (Ah ([zz (zz i64 (zt (zp zn))) (zz i64 (zt (zp zn)))]) a)
theorem Am(a:(Int×List Int)×Int×List Int):T a=let a':=zt (zp zn);let b':=(fst (fst a),snd (fst a));.ite (C8 b') (.leaf (.dat i64 (Hf b')) ([(0,.box [.dat i64 (fst (fst a)),.dat a' (snd (fst a)),.dat i64 (fst (snd a)),.dat a' (snd (snd a))])])) .fail:=by kernel_rfl
end T110
namespace T16
def T(l:List (List UInt8)):Tr:=tree Vb false 9 16 (Ah ([zj ze]) l)
def L1(v0:List (List UInt8))(v3:Int):Tr:=re ((T [])) (AH 16 [(0,.dat (zj ze) v0),(3,.dat i64 v3)] [] 0)
theorem Am(l:List (List UInt8)):T l=L1 l 0:=by kernel_rfl
theorem As(v0:List (List UInt8))(v3:Int):stepT Vb (L1 v0 v3)=let a':=decide (v3<(length v0:Int));.ite (a') (.ite (decide (0≤v3)&&a') (.ite (decide ((↑(length (getD v0 (toNat v3) [])):Int)>1300)) (.leaf (.bl false) []) (L1 v0 (zc .i64 (v3+1)))) .fail) (.leaf (.bl true) []):=by kernel_rfl
end T16
namespace T25
def T(a:List UInt8)(e:Int)(w:List UInt8)(bad:Int):Tr:=tree tS false 9 25 (Ah ([ze,zp zr,ze,zp zr]) (a,e,w,bad))
theorem Am(a:List UInt8)(e:Int)(w:List UInt8)(bad:Int):T a e w bad=let b':Tr:=.leaf (.bl false) [];let a':Tr:=.ite (e==0) (.leaf (.dat zm (a==w)) []) b';.ite (bad==0) (.ite (decide (length w≤1000000)) (.ite (EJ w !=0) (.ite (a==[]) (.leaf (.dat zm (e==EJ w)) []) b') a') .fail) (.ite (bad !=0) (.ite (a==[]) (.leaf (.dat zm (e==bad)) []) b') a'):=by kernel_rfl
end T25
end
end Go.Pe
end
section
namespace Go.Pe
open Sp
open Go.Det
namespace T200
variable {Q:PV→Ob→Prop}
theorem Aj(neg:Bool)(V:Nat)(h0:0<V)(hV:Small V)(hG:(B8 (V+1) V).length≤1000000)(hfin:Exit neg (B8 (V+1) V) Q):Ends Ph (L1 neg (Bo (V:Int)) 1 [1000000000000000000]) Q:=by
 have hlt:V % 10^18<10^18:=Nat.mod_lt _ (by decide);have hg:∀s,s=(if V/10^18=0 then zg (V % 10^18)else Fv 18 (V % 10^18))→[s]++(if V/10^18=0 then[]else B8 V (V/10^18))=B8 (V+1) V:=by
  rintro s rfl;have eg:B8 (V+1) V=if V<10^18 then[zg V]else Fv 18 (V % 10^18)::B8 V (V/10^18):=rfl
  rw[eg];by_cases c:V<10^18
  ·rw[if_pos c,if_pos (by omega),if_pos (by omega),Nat.mod_eq_of_lt c];rfl
  ·rw[if_neg c,if_neg (by omega),if_neg (by omega)];rfl
 have next:∀s,s=(if V/10^18=0 then zg (V % 10^18)else Fv 18 (V % 10^18))→Ends Ph (L2 neg (Bo ((V/10^18:Nat):Int)) 1 1 [s] [1000000000000000000]) Q:=
  fun s hs=>AU neg _ hG hfin V (V/10^18) [s] (by omega) (hV.le (yn _ _)) (hg s hs)
 refine Ends.At (As ..) (zh (decide_eq_true (by have:=Is h0;omega)) (zh (Ac rfl hV.div) ?_));rw[Ts,Tx];rcases Nat.eq_zero_or_pos (V % 10^18)with r0|r0
 ·have q0:V/10^18≠0:=by omega
  rw[r0,show((0:Nat):Int)=0 from rfl,Ky];refine yg rfl (zh (decide_eq_true (by have:=Is (V:=V/10^18) (by omega);omega)) (zh rfl (zh rfl (zh rfl (next _ ?_)))));have hp:=Rn 0 (by decide);rw[zU (by omega)]at hp;rw[if_neg q0,r0, ←hp];rfl
 ·rw[Tn (r:=((V % 10^18:Nat):Int)) (by omega) (by omega)];have hgd:List.getD [((V % 10^18:Nat):Int)] 0 0=((V % 10^18:Nat):Int):=rfl;rw[hgd,Lf];have hd:=Ra hlt;have hr18:((V % 10^18:Nat):Int)<1000000000000000000:=by omega
  have h18:0<(zg (V % 10^18)).length:=by
   rw[zN,Lib.nDigits];split<;>omega
  refine zh rfl (zh rfl (zh (Ac (Ac (decide_eq_true (Int.natCast_nonneg _)) (decide_eq_true hr18)) rfl) ?_));rw[wr _ (by omega) (by omega)];by_cases q0:V/10^18=0
  ·rw[q0];refine yg (by rw[show((0:Nat):Int)=0 from rfl,Ky];rfl) (zh rfl ?_);have:=next _ rfl;rw[if_pos q0,q0]at this;exact this
  ·have hpad:=Rn _ hlt;refine zh (decide_eq_true (by have:=Is (V:=V/10^18) (by omega);omega)) (zh (Ac (Ac (decide_eq_true (by omega)) (decide_eq_true (by omega))) rfl) (zh (decide_eq_true ?_) (zh rfl (next _ ?_))))
   ·rw[←zy,hpad];unfold Fv;rw[zy,List.length_replicate];omega
   ·rw[if_neg q0];exact hpad
end T200
end Go.Pe
end
section
namespace Go.Pe
open Sp
open Go.Det
theorem qS(n:Nat):(18446744073709551616:Nat)^n≤10^(20*n):=by
 rw[Nat.pow_mul];exact Nat.pow_le_pow_left (by decide) n
theorem XN{V k:Nat}(h:(V:Int)<(Ak:Int)^k):V<18446744073709551616^k:=by
 rw[←QQ k]at h;exact yc.mp h
theorem X1{V k:Nat}(h:(V:Int)<(Ak:Int)^k)(hk:1≤k):(zg V).length≤20*k:=by
 rw[zN];obtain⟨j,hj⟩:∃j,20*k=j+1:=⟨20*k-1,by omega⟩;have h3:=zP (XN h) (qS k);rw[hj]at h3 ⊢;exact MZ j V h3
theorem GP{V:Nat}(h:Small V):(zg V).length≤180000:=X1 (k:=9000) h.h (by decide)
theorem K5:∀(f v:Nat) (s:List UInt8),s∈B8 f v→0<s.length
 |0,v,s,h=>by cases h
 |f+1,v,s,h=>by
  have eg:B8 (f+1) v=if v<10^18 then[zg v]else Fv 18 (v % 10^18)::B8 f (v/10^18):=rfl
  have hd:∀r,0<(zg r).length:=fun r=>by rw[zN,Lib.nDigits];split<;>omega
  rw[eg]at h;split at h
  ·rw[List.mem_singleton]at h;subst h;exact hd _
  ·rcases List.mem_cons.1 h with rfl|h
   ·unfold Fv;rw[zy];have:=hd (v % 10^18);omega
   ·exact K5 f _ s h
theorem Nd:∀(l:List (List UInt8)),(∀s∈l,0<s.length)→l.length≤l.flatten.length
 |[],_=>zO _
 |s::l,h=>by
  have h1:=Nd l fun x hx=>h x (List.mem_cons_of_mem _ hx)
  have h2:=h s (List.mem_cons_self ..);rw[List.flatten_cons,zy,zu];omega
theorem XY{V:Nat}(h:0<V):AX (-(V:Int))=45::zg V:=Lib.itoa_neg V h
theorem kU(hfmt:Ae AT 249 Tg):∀g sp,Ph.sp g=some sp→Ae AT g sp:=Aa lG (Aa (T218.ok EO) (Aa PX (Aa hfmt (Aa X5 (fun g sp h=>by cases h)))))
namespace T200
variable {Q:PV→Ob→Prop}
theorem Yu(neg:Bool){V:Nat}(hV:Small V)(hq:∀ob,Q (.dat .str (if neg=true then 45::zg V else zg V)) ob):Exit neg (B8 (V+1) V) Q:=by
 have hne:=K5 (V+1) V;have ht:=HC (V+1) V (by omega);have hd:=GP hV;have hl:=Nd _ hne;have hr:(B8 (V+1) V).flatten.length=(zg V).length:=by
  rw[←ht,zZ,zZ,List.map_reverse,List.sum_reverse]
 have hpos:0<(B8 (V+1) V).length:=by
  have eg:B8 (V+1) V=if V<10^18 then[zg V]else Fv 18 (V % 10^18)::B8 V (V/10^18):=rfl
  rw[eg];split<;>simp
 generalize B8 (V+1) V=G at*;unfold Exit;refine zL (fun c=>zh rfl (zh rfl ?_)) (fun c=>?_)
 ·rw[if_pos c]at hq;rw[wr _ (by omega) (by omega)];exact Em G (45::zg V) (by rw[zu];omega) (by omega) hq G.length [45] _ 1 (zO _) rfl rfl (by decide) (by rw[List.take_length,ht];rfl)
 ·rw[if_neg (by rw[c];decide)]at hq;rw[wr _ (by omega) (by omega)];obtain⟨i,hi⟩:∃i,i+1=G.length:=⟨G.length-1,by omega⟩;exact EN G (zg V) (by omega) (by omega) hq i hi _ (by omega) (hne _ (List.getElem_mem _)) ht
theorem ok(hfmt:Ae AT 249 Tg):Ae AT 200 pB:=by
 refine Av (X:=Ph) rfl (kU hfmt) (d:=9) (by kernel_rfl) (by kernel_rfl) (by kernel_rfl) (fun(a:Int×List Int) ha=>?_) (Ad (by kernel_rfl));have ha:A5 a=true:=ha;have hk:=(BQ ha).1;have hr:=(Dz hk).1;refine zK (Am a) (zL (fun c=>zh (C3 hr.1 hr.2) (zl (zM rfl rfl ?_))) (fun c=>zh hk ?_))
 ·have c:a.2=[]:=by simpa using c
  show AX a.1=AX (zx a);rw[Bj c]
 ·have c:a.2≠[]:=by rintro k;rw[k]at c;simp at c
  have hb:=bounds ha;have hbig:(9223372036854775808:Int)≤Ag (zx a):=by
   obtain⟨_,hw⟩:=Dz hk;obtain⟨s,w⟩:=a;rcases hw with hw|⟨_,_,h3⟩
   ·exact absurd hw c
   ·rw[Us c,Ai];have h3:9223372036854775808≤An w:=h3;split<;>omega
  obtain⟨V,hV⟩:=Int.eq_ofNat_of_zero_le (AE (zx a));have hVa:=Ai (zx a);rw[hV]at hb hbig hVa ⊢;have hs:Small V:=⟨hb⟩;have hd:=GP hs;have hp:0<V:=by omega
  have hl:=Nd _ (K5 (V+1) V);have ht:=HC (V+1) V (by omega);have hlen:(B8 (V+1) V).flatten.length=(zg V).length:=by
   rw[←ht,zZ,zZ,List.map_reverse,List.sum_reverse]
  refine Aj _ V hp hs (by omega) (Yu _ hs fun ob=>zM rfl rfl ?_);show(if decide (zx a<0)=true then 45::zg V else zg V)=AX (zx a);by_cases n:zx a<0
  ·rw[if_pos (decide_eq_true n),show zx a= -(V:Int)from by omega,XY hp]
  ·rw[if_neg (by simpa using n),show zx a=(V:Int)from by omega,Lf]
end T200
end Go.Pe
end
section
namespace Go.Pe
open Sp
open Go.Det
theorem UY{k:Nat}{n d:Int}(hd:d≠0)(h1:Ag n<(Ak:Int)^k)(h2:Ag d<(Ak:Int)^k):Pc k (z6 n d):=by
 unfold Pc;rw[Rat.num_divInt,Rat.den_divInt,if_neg hd];constructor
 ·refine Int.lt_of_le_of_lt VK ?_;rw[ID];have:Ag d.sign=1:=by rw[Ai,yj hd];rfl
  rw[this,Int.one_mul];exact h1
 ·refine Int.lt_of_le_of_lt ?_ h2;rw[Ai];exact yr.mpr (yn _ _)
theorem mM{f:AA}(h:z8 f=true)(h0:zx f.1≠0):z8 (T6 f)=true:=by
 obtain⟨a1,a2,la1,la2,a0⟩:=Fi h;exact(IP a2 a1 h0).Dj (UY h0 la2 la1)
theorem mV{f:AA}(h:z8 f=true):z8 (vH f)=true:=by
 obtain⟨a1,a2,la1,la2,a0⟩:=Fi h;unfold z8 yp at*;have hk:=gB (k:=4000) (BQ a1).1 (by omega) (by omega) (Vq (BQ a1).1 la1);exact Ac (Ac (FO hk.1 (by show Ag (zx (CV f.1))<_;rw[Jr,JI];exact la1)) (FO (BQ a2).1 la2)) (decide_eq_true a0)
theorem V9:∀g sp,uK.sp g=some sp→Ae AT g sp:=Aa T160.ok (Aa T80.ok (Aa T82.ok (Aa T161.ok (fun g sp h=>by cases h))))
theorem T81.ok:Ae AT 81 cN:=by
 refine Av (X:=uK) rfl V9 (d:=9) (by kernel_rfl) (by kernel_rfl) (by kernel_rfl) (fun(i:((Int×List Int)×(Int×List Int))×((Int×List Int)×(Int×List Int))) hi=>?_) (Ad (by kernel_rfl));obtain⟨a,b⟩:=i;have hi:(z8 a&&z8 b)=true:=hi;rw[zk]at hi;obtain⟨b1,b2,lb1,lb2,b0⟩:=Fi hi.2;exact zK (T81.Am a b) (zh (BQ b1).1 (zh (Ac hi.1 (mV hi.2)) (zl (zM rfl rfl rfl))))
theorem T86.ok:Ae AT 86 V4:=by
 refine Av (X:=uK) rfl V9 (d:=9) (by kernel_rfl) (by kernel_rfl) (by kernel_rfl) (fun(i:((Int×List Int)×(Int×List Int))×((Int×List Int)×(Int×List Int))) hi=>?_) (Ad (by kernel_rfl));obtain⟨a,b⟩:=i;have hi:(z8 a&&z8 b&&decide (zx b.1≠0))=true:=hi;rw[zk,zk,decide_eq_true_eq]at hi;exact zK (T86.Am a b) (zh (Ac hi.1.2 (decide_eq_true hi.2)) (zh (Ac hi.1.1 (mM hi.1.2 hi.2)) (zl (zM rfl rfl rfl))))
theorem T112.ok:Ae AT 112 UL:=by
 refine Av (X:=Sn) rfl FI (d:=9) (by kernel_rfl) (by kernel_rfl) rfl (fun(a:(Int×List Int)×(Int×List Int)) h=>?_) (Ad (by kernel_rfl));obtain⟨a1,a2,la1,la2,a0⟩:=Fi h;exact zK (T112.Am a) (zh (Ac (Ac a1 a2) (decide_eq_true a0)) (zl (zM rfl rfl rfl)))
end Go.Pe
end
section
namespace Go.Sp
theorem De{a:Bool×List Int}(h:CB a=true):A4 a.2=true∧a.2.length≤3000∧(a.1=true→a.2≠[]):=by
 unfold CB at h;rw[zk,zk,decide_eq_true_eq,yo,decide_eq_true_eq,Bool.not_eq_true']at h;refine⟨h.1.1,h.1.2,fun k=>?_⟩;rcases h.2 with x|x
 ·rw[k]at x;cases x
 ·exact x
theorem F6{a:Bool×List Int}(h:CB a=true):Ag (vR a)=Aq a.2∧0≤Aq a.2:=by
 obtain⟨h1,h2,h3⟩:=De h;have h0:=Ay (b:=B9) (by decide) (Bh h1).2.1;have h0:0≤Aq a.2:=h0;refine⟨?_,h0⟩;unfold vR;rw[Ai];split<;>omega
theorem OP{a:Bool×List Int}(h:CB a=true):a.1=rN (vR a):=by
 obtain⟨h1,h2,h3⟩:=De h;obtain⟨_,h0⟩:=F6 h;unfold rN vR;cases ha:a.1 with
 |false=>rw[if_neg (by decide)];symm;rw[decide_eq_false_iff_not];omega
 |true=>
  rw[if_pos rfl];symm;rw[decide_eq_true_eq];have:=IA (b:=B9) (by decide) (Bh h1).2.1 (Bh h1).2.2 (h3 ha);have:0<Aq a.2:=this;omega
theorem pT{a:Bool×List Int}(h:CB a=true):a.2=rW (vR a):=by
 unfold rW;rw[(F6 h).1];exact HN (b:=B9) (by decide) (Bh (De h).1).2.1 (Bh (De h).1).2.2
theorem oN{a:Bool×List Int}(h:CB a=true):a=(rN (vR a),rW (vR a)):=Prod.ext (OP h) (pT h)
theorem UE(k:Nat):(B9:Int)^k=10^(9*k):=by
 have:(B9:Int)=10^9:=by decide
 rw[this, ←Int.pow_mul]
theorem lL{n:Int}{k:Nat}(h:n.natAbs<10^(9*k)):Ag n<(B9:Int)^k:=by
 rw[Ai,UE];have:((10^(9*k):Nat):Int)=(10:Int)^(9*k):=by simp
 rw[←this];exact yc.mpr h
theorem MN(n:Int):0≤Ag n:=by rw[Ai];omega
theorem Jq(n:Int):Aq (rW n)=Ag n:=CH (b:=B9) (by decide) (MN n)
theorem EE(n:Int):vR (rN n,rW n)=n:=by
 unfold vR;show(if rN n=true then -Aq (rW n)else Aq (rW n))=n;rw[Jq,Ai];unfold rN;by_cases h:n<0
 ·rw[if_pos (decide_eq_true h)];omega
 ·rw[if_neg (by simpa using h)];omega
theorem QF{n:Int}(h:n.natAbs<10^27000):CB (rN n,rW n)=true:=by
 have k:27000=9*3000:=rfl;rw[k]at h;obtain⟨h1,_,h3,h4⟩:=Gw (n:=Ag n) (k:=3000) (MN n) (lL h) (by decide);unfold CB;have h5:A4 (rW n)=true:=h1;have h6:(rW n).length≤3000:=h4;rw[h5,decide_eq_true h6];cases hb:rN n with
 |false=>rfl
 |true=>
  have:rW n≠[]:=by
   intro e;have h7:=Jq n;rw[e]at h7;have h7:0=Ag n:=h7;unfold rN at hb;have hb:=of_decide_eq_true hb;rw[Ai]at h7;omega
  rw[decide_eq_true this];rfl
theorem cH(k:Nat):((10^k:Nat):Int)=(10:Int)^k:=by rw[zS];rfl
theorem pL{x:Nat}(j k:Nat)(h:j≤k)(hx:x<10^j):x<10^k:=zP hx (zX (by decide) h)
theorem rF{a:Bool×List Int}(h:CB a=true):(vR a).natAbs<10^27000:=by
 obtain⟨h1,h2,h3⟩:=De h;have h4:=Bn (b:=B9) (by decide) (Bh h1).2.1;have h5:(B9:Int)^a.2.length≤(B9:Int)^3000:=AI (by decide) h2;have h6:Ag (vR a)<(B9:Int)^3000:=by rw[(F6 h).1];exact zR h4 h5
 rw[Ai,UE]at h6;have:=cH (9*3000);rw[←this]at h6;have k:27000=9*3000:=rfl;rw[k];exact yc.mp h6
theorem Z6{neg:Bool}{w:List Int}{n:Int}(hd:Au B9 w)(hv:Aq w=Ag n)(hn:n≠0→neg=rN n):(B4 neg w,Ar w)=(rN n,rW n):=by
 have h:=Go.Pe.K8 (neg:=neg) hd hv;rw[h];have:(if neg=true then -Ag n else Ag n)=n:=by
  by_cases h0:n=0
  ·rw[h0];unfold Ag;split<;>simp
  ·rw[hn h0];unfold rN;rw[Ai];by_cases h:n<0
   ·rw[if_pos (decide_eq_true h)];omega
   ·rw[if_neg (by simpa using h)];omega
 rw[this]
theorem C2{s:List UInt8}(h:Bw s=true):CB (Bx s,Bp s)=true∧vR (Bx s,Bp s)=A8 s∧CB (Bg s,Bd s)=true∧vR (Bg s,Bd s)=AF s∧(AW s).num=A8 s∧((AW s).den:Int)=AF s∧Ho s=true∧(A8 s).natAbs<10^4000∧(AF s).natAbs<10^4000:=by
 obtain⟨h1,h2⟩:=GN h;obtain⟨s1,s2⟩:=Rd h;have e:(AW s).num=A8 s∧((AW s).den:Int)=AF s:=by
  have:=Jk (AW s);rw[h1]at this;exact⟨this.1.symm,this.2.symm⟩
 have l1:(A8 s).natAbs<10^4000:=by rw[←e.1];exact s1
 have l2:(AF s).natAbs<10^4000:=by rw[←e.2,zo];exact s2
 have m:∀x:Nat,x<10^4000→x<10^27000:=fun x hx=>pL 4000 27000 (by decide) hx
 refine⟨QF (m _ l1),EE _,QF (m _ l2),EE _,e.1,e.2,?_,l1,l2⟩;obtain⟨c1,c2,c3⟩:=Ez (AW s);rw[h1]at c1 c2 c3;have k1:=Go.Pe.T77.CP s;unfold Ho D7;rw[decide_eq_true (p:=s.length≤5999) (by omega),decide_eq_true (p:=(Ax s).length≤5999) (by omega),decide_eq_true (p:=(AL s).length≤5999) (by omega),zT,zT,Bool.and_true,zk];refine⟨?_,?_⟩
 ·obtain⟨i1,i2,i3,i4⟩:=CY (AW s).num;rw[c1];unfold AY at i2;split at i2
  ·next c=>rw[if_pos c,i2];exact Dx _
  ·next c=>rw[if_neg c,i2];exact Dx _
 ·rw[c2];split
  ·rfl
  ·rw[if_neg (EW (Dx _))];exact Dx _
end Go.Sp
end
section
namespace Go.Pe
open Sp
open Go.Det
theorem Q9{x:Int}{k:Nat}(h:x.natAbs<10^k):Ag x<(Ak:Int)^k:=by
 have h4:((10^k:Nat):Int)=(10:Int)^k:=zS ..;rw[Ai];refine zR ?_ (dT k);rw[←h4];exact yc.mpr h
theorem Ca{q:Rat}{k:Nat}(h:DO k q)(hk:k≤4000):Pc 4000 q:=by
 obtain⟨h1,h2⟩:=h.mono hk;have h3:=Q9 (k:=4000) (x:=(q.den:Int)) (by rw[zo];exact h2);rw[Ai,zo]at h3;exact⟨Q9 h1,h3⟩
def YT(s:List UInt8):AA:=((Mu s,Mk s),(KN s,Ka s))
theorem Ki{s:List UInt8}(h:Bw s=true):EX (YT s) (AW s):=by
 obtain⟨_,_,_,_,e1,e2,_,l1,l2⟩:=C2 h;have m:∀x:Int,x.natAbs<10^4000→Ag x<(Ak:Int)^9000:=fun x hx=>zR (Q9 hx) (AI (by decide) (by decide))
 exact⟨(BQ (Fa (Du (m _ l1)))).1,(BQ (Fa (Du (m _ l2)))).1,(Kz _).trans e1.symm,(Kz _).trans e2.symm⟩
theorem Yc{d:AQ}(h:C8 d=true):CC d=decide (zx d=1):=by
 unfold CC;rw[Bool.eq_iff_iff,zk,decide_eq_true_eq,decide_eq_true_eq,decide_eq_true_eq];refine⟨fun⟨h1,h2⟩=>by rw[Bj h1];exact h2,fun e=>?_⟩;by_cases c:d.2=[]
 ·rw[Bj c]at e;exact⟨c,e⟩
 ·obtain⟨_,hw⟩:=Dz h;obtain⟨s,w⟩:=d;rcases hw with hw|⟨_,_,h3⟩
  ·exact absurd hw c
  ·rw[Us c]at e;have h3:9223372036854775808≤An w:=h3;split at e<;>omega
theorem Yn{f:AA}{q:Rat}(h:EX f q):HB f=IW q:=by
 unfold HB DW IW;rw[h.vn,h.vd]
theorem ZR{f:AA}{q:Rat}(h:EX f q):IX f=A0 q:=by
 unfold IX A0;rw[Yc h.d,h.vn,h.vd];have e:decide ((q.den:Int)=1)=true↔q.den=1:=by rw[decide_eq_true_eq];omega
 by_cases c:q.den=1
 ·rw[if_pos (e.2 c),if_pos c];rfl
 ·rw[if_neg (fun k=>c (e.1 k)),if_neg c];show zw q.num++47::zw ((q.den:Nat):Int)=_;rw[Lib.itoa_nonneg]
theorem WW{f:AA}{q:Rat}(h:EX f q):KW f=QP 0 q∧Lg f=R5 0 q:=by
 unfold KW Lg QP R5;rw[Yn h,ZR h];exact⟨rfl,rfl⟩
theorem EX.E0{f:AA}{q:Rat}(h:EX f q)(hs:Pc 4000 q):yp f=true:=by
 have:=h.Dj hs;unfold z8 at this;rw[zk]at this;exact this.1
theorem EX.GS{f:AA}{q:Rat}(h:EX f q):decide (zx f.1≠0)=decide (q≠0):=by
 rw[h.vn,decide_eq_decide,ne_eq,yh]
end Go.Pe
end
section
namespace Go.Sp
theorem bD{n:Int}(h:0≤n):n+1≤2^(Es n).toNat:=by
 unfold Es;split
 ·have:n=0:=by omega
  subst this;decide
 ·have hb:=Nat.lt_log2_self (n:=n.toNat);have e:((n.toNat.log2:Int)+1).toNat=n.toNat.log2+1:=by omega
  have e2:((2^(n.toNat.log2+1):Nat):Int)=(2:Int)^(n.toNat.log2+1):=zS ..;rw[e, ←e2];generalize 2^(n.toNat.log2+1)=P at*;omega
theorem rT{w:List Int}(hd:Au Ak w){k:Nat}(hl:w.length=k+1):val Ak w<(Ak:Int)^k*(w.getD k 0+1):=by
 have h1:=B6 (Ak:Int) w k (by omega);have h2:=Bn (b:=(Ak:Int)) (by decide) (AK hd k);rw[List.length_take,Nat.min_eq_left (by omega)]at h2;have h3:w.drop k=[w.getD k 0]:=by
  rw[B5 (by omega),List.drop_eq_nil_of_le (by omega)]
 rw[h3]at h1;have h4:val Ak [w.getD k 0]=w.getD k 0:=by
  show w.getD k 0+(Ak:Int)*0=_;omega
 rw[h4]at h1;rw[Int.mul_add,Int.mul_one];omega
theorem Uz(k:Nat):((10^k:Nat):Int)=(10:Int)^k:=by rw[zS];rfl
theorem cC(k:Nat):2^(3*k)≤10^k:=by rw[Nat.pow_mul];exact Nat.pow_le_pow_left (by decide) k
theorem fR(k:Nat):(2:Int)^(3*k)≤10^k:=by
 have h2:((2^(3*k):Nat):Int)≤((10^k:Nat):Int):=yr.2 (cC k);rw[zS,zS]at h2;exact h2
theorem kY:(2:Int)^1800≤10^600:=by
 have h:=fR 600;have k:3*600=1800:=rfl;rw[k]at h;exact h
theorem jM{a:AQ}(h:OS a≤1800):DW a=false:=by
 have a0:0≤Ag (vI a):=by rw[Ai];omega
 have hv:=CH (b:=Ak) (by decide) a0;have hd:=ET (b:=Ak) (by decide) (Ag (vI a));have key:Ag (vI a)<2^1800:=by
  unfold OS at h;have hv:val Ak (Bo (Ag (vI a)))=Ag (vI a):=hv;have hd:Au Ak (Bo (Ag (vI a))):=hd;generalize Bo (Ag (vI a))=w at*;rw[←hv];by_cases hw:w=[]
  ·subst hw;show(0:Int)<_;exact Int.pow_pos (by decide)
  ·rw[if_neg hw]at h;obtain⟨k,hk⟩:∃k,w.length=k+1:=⟨w.length-1,by have:=List.length_pos_iff.2 hw;omega⟩;have ht:=rT hd hk;have g:=Jd (b:=(Ak:Int)) (by decide) hd k;have hp:=bD g.1;have hl:=(Go.Pe.RZ g.1 (by have:(Ak:Int)=18446744073709551616:=rfl;omega)).1;rw[hk,Nat.add_sub_cancel,show((k+1:Nat):Int)-1=(k:Int)by omega]at h;have hB:(0:Int)<(Ak:Int)^k:=AM (by decide) k;have h5:=Int.mul_le_mul_of_nonneg_left hp (Int.le_of_lt hB);have e1:(Ak:Int)^k=2^(64*k):=by
    have:(Ak:Int)=2^64:=by decide
    rw[this, ←Int.pow_mul]
   rw[e1, ←Int.pow_add]at h5;rw[e1]at ht;have h6:(2:Int)^(64*k+(Es (w.getD k 0)).toNat)≤2^1800:=AI (by decide) (by omega);exact zR ht (Int.le_trans h5 h6)
 have h7:=zR key kY;unfold DW LY;rw[decide_eq_false_iff_not];have:(vI a).natAbs<10^600:=by
  rw[Ai]at h7;have e:=Uz 600;rw[←e]at h7;exact yc.mp h7
 have:=Dy this (by decide);omega
end Go.Sp
end
section
namespace Go.Sp
theorem TD(q:Rat):Pk (A0 q)=zg q.den:=by
 obtain⟨_,c2,c3⟩:=Ez q;unfold Pk;rw[c2,c3];by_cases h:q.den=1
 ·rw[if_neg (by simpa using h),h,zU (by decide)];rfl
 ·rw[if_pos (decide_eq_true h),if_neg h]
theorem VO(q:Rat):EJ (A0 q)=if IW q=true then 4 else 0:=by
 obtain⟨c1,_,_⟩:=Ez q;unfold EJ;rw[TD,c1,(CY q.num).2.1];have hb:IW q=true↔600<(zg q.num.natAbs).length∨600<(zg q.den).length:=by
  unfold IW LY;rw[yo,decide_eq_true_eq,decide_eq_true_eq,zo]
 by_cases h:IW q=true
 ·rw[if_pos (hb.1 h),if_pos h]
 ·rw[if_neg (fun k=>h (hb.2 k)),if_neg h]
theorem RV(q:Rat):Ea (QP 0 q) (R5 0 q) (A0 q) 0=true:=by
 unfold Ea QP R5;rw[VO];by_cases h:IW q=true
 ·simp[h]
 ·simp[h]
theorem Np{e:Int}(h:e≠0)(q:Rat)(w:List UInt8):Ea (QP e q) (R5 e q) w e=true:=by
 unfold Ea QP R5;simp[h]
theorem WX(a b:List UInt8):NU a b=if AP a≠0 then AP a else AP b:=by
 show(if AP a≠0 then AP a else if AP b≠0 then AP b else 0)=_;by_cases h:AP a≠0
 ·rw[if_pos h,if_pos h]
 ·rw[if_neg h,if_neg h];by_cases k:AP b≠0
  ·rw[if_pos k]
  ·rw[if_neg k];omega
theorem Y8{a b:List UInt8}(h:NU a b=0):AP a=0∧AP b=0:=by
 rw[WX]at h;by_cases k:AP a≠0
 ·rw[if_pos k]at h;exact absurd h k
 ·rw[if_neg k]at h;exact⟨by omega,h⟩
theorem PQ:A0 0=[48]:=by
 unfold A0;rw[if_pos (show Rat.den 0=1 from rfl)];show zw 0=[48];unfold zw;rw[if_neg (by decide),show(0:Int).toNat=0 from rfl,zU (by decide)];rfl
theorem JJ{s:List UInt8}(h:Bw s=true):s=[48]↔AW s=0:=by
 obtain⟨h1,_⟩:=GN h;constructor
 ·rintro rfl;rw[←PQ,DM]
 ·intro e;rw[←h1,e,PQ]
theorem Hc{s:List UInt8}(h:Dc s=true):Bw s=true∧s.length≤3000:=by
 unfold Dc at h;rwa [zk,decide_eq_true_eq]at h
theorem pY{s:List UInt8}(h:Dc s=true)(h0:s≠[48]):dL s=true:=by
 unfold dL;rw[h,zT];exact decide_eq_true fun e=>h0 ((JJ (Hc h).1).2 e)
theorem bF{s:List UInt8}(h:dL s=true):Dc s=true∧AW s≠0:=by
 unfold dL at h;rwa [zk,decide_eq_true_eq]at h
theorem HQ{q:Rat}{k:Nat}(h:DO k q)(hk:k≤400000):(A0 q).length≤1000000:=by
 have:=O7 (h.mono (show k≤k+1 by omega)) (by omega);omega
end Go.Sp
end
section
namespace Go.Pe
open Sp
open Go.Det
theorem MP:∀g sp,Vb.sp g=some sp→Ae AT g sp:=fun g sp h=>by cases h
theorem T214.ok:Ae AT 214 QX:=by
 refine Av (X:=Vb) rfl MP (d:=9) (by kernel_rfl) (by kernel_rfl) (by kernel_rfl) (fun(i:List UInt8×List UInt8) hi=>?_) (Ad (by kernel_rfl));obtain⟨s,t⟩:=i;have hi:(decide (t=[45])&&decide (s.length≤1000000))=true:=hi;rw[zk,decide_eq_true_eq,decide_eq_true_eq]at hi;obtain⟨rfl,hl⟩:=hi;have hq:∀v ob,v=AY s→Af QX (s,[45]) (.dat .str v) ob:=fun v ob h=>zM rfl rfl h
 refine zK (T214.Am s [45]) ?_;conv=>zeta
 cases s with
 |nil=>exact yg rfl (zl (hq _ _ rfl))
 |cons c r=>
  have e1:Int.toNat (([(45:UInt8)].length:Nat):Int)=1:=rfl;have e2:List.take 1 (c::r)=[c]:=rfl;have e3:List.take (yb (c::r).length 1) (List.drop 1 (c::r))=r:=ym (zO _);have g0:(c::r).getD 0 0=c:=rfl;rw[e1,e2,e3];refine zh (decide_eq_true (by simp;omega)) (zh (by simp) (zL (fun d=>zh (by simp) (zl (hq _ _ ?_))) (fun d=>zl (hq _ _ ?_))))
  ·have hc:c=45:=by simpa using d
   unfold AY;rw[g0,if_pos hc];rfl
  ·have hc:c≠45:=by simpa using d
   unfold AY;rw[g0,if_neg hc]
theorem mU:∀g sp,xK.sp g=some sp→Ae AT g sp:=Aa (T218.ok EO) (Aa T247.ok (fun g sp h=>by cases h))
theorem kR{a:AQ}(h:A5 a=true):(Bo (Ag (zx a))).length≤9000:=by
 have hb:=bounds h;have h0:=AE (zx a);refine MF Ak (by decide) 9000 _ _ ?_;have e:((Ak^9000:Nat):Int)=(Ak:Int)^9000:=QQ 9000;rw[←e]at hb;generalize Ak^9000=P at*;omega
theorem T248.ok:Ae AT 248 aU:=by
 refine Av (X:=xK) rfl mU (d:=9) (by kernel_rfl) (by kernel_rfl) (by kernel_rfl) (fun(a:Int×List Int) ha=>?_) (Ad (by kernel_rfl));have ha:A5 a=true:=ha;have hk:=(BQ ha).1;have hl:=kR ha;have hd:=ET (b:=Ak) (by decide) (Ag (zx a));have hd:Au Ak (Bo (Ag (zx a))):=hd;have hq:∀v ob,v=OS a→Af aU a (.dat i64 v) ob:=fun v ob h=>zM rfl rfl h
 unfold OS at hq;refine zK (T248.Am a) (zh hk ?_);have ea:(Prod.fst a,Prod.snd a)=a:=rfl;rw[ea];generalize Bo (Ag (zx a))=w at*;refine zL (fun c=>zl (hq _ _ ?_)) (fun c=>?_)
 ·have:w=[]:=List.length_eq_zero_iff.1 (by have:(w.length:Int)=0:=(by simpa using c);omega);rw[if_pos this]
 ·have c:(w.length:Int)≠0:=by simpa using c
  have hn:w≠[]:=by rintro rfl;exact c rfl
  have g:=AS hd (w.length-1);have e1:zc .i64 ((w.length:Int)-1)=((w.length-1:Nat):Int):=by rw[wr _ (by omega) (by omega)];omega
  have l2:=RZ (Sp.AZ g).1 (Sp.AZ g).2;rw[e1,zV,wr (64*_) (by omega) (by omega),wr _ (by omega) (by omega)];refine zh (Ac (decide_eq_true (by omega)) (decide_eq_true (by omega))) (zh g (zl (hq _ _ ?_)));rw[if_neg hn];omega
theorem fI:∀g sp,pX.sp g=some sp→Ae AT g sp:=Aa T248.ok (Aa (T200.ok cY) (Aa T214.ok (fun g sp h=>by cases h)))
theorem aR(n:Int):AY (AX n)=zg n.natAbs:=(CY n).2.1
theorem NW{a:AQ}(h:A5 a=true):(AX (zx a)).length≤180001:=by
 have hb:=bounds h;have ha:=Ai (zx a);have h1:(zg (zx a).natAbs).length≤180000:=GP ⟨by rw[←ha];exact hb⟩;unfold AX zw;split
 ·rw[zu];omega
 ·rw[show(zx a).toNat=(zx a).natAbs by omega];omega
theorem T199.ok:Ae AT 199 XD:=by
 refine Av (X:=pX) rfl fI (d:=9) (by kernel_rfl) (by kernel_rfl) (by kernel_rfl) (fun(a:Int×List Int) ha=>?_) (Ad (by kernel_rfl));have ha:A5 a=true:=ha;have hl:=NW ha;have hq:∀v ob,v=DW a→Af XD a (.dat .bool v) ob:=fun v ob h=>zM rfl rfl h
 have hqb:∀v ob,v=DW a→Af XD a (.bl v) ob:=fun v ob h=>zM rfl rfl h
 refine zK (T199.Am a) (zh ha (zL (fun c=>zh ha (zh (Ac (decide_eq_true rfl) (decide_eq_true (by show(AX (zx a)).length≤1000000;omega))) (zl (hq _ _ ?_)))) (fun c=>zl (hqb _ _ ?_))))
 ·show decide (((AY (AX (zx a))).length:Int)>600)=DW a;rw[aR];unfold DW LY;rw[decide_eq_decide];omega
 ·have c:=of_decide_eq_false c;have c:¬OS a>1800:=c;exact(jM (by omega)).symm
theorem eT{a:AQ}(h:Mv a=true):A5 a=true:=by
 unfold Mv at h;rw[zk,decide_eq_true_eq]at h;unfold A5;rw[h.1,zT];exact decide_eq_true (by omega)
theorem eB{a:AA}(h:yp a=true):A5 a.1=true∧A5 a.2=true:=by
 unfold yp at h;rw[zk]at h;exact⟨eT h.1,eT h.2⟩
theorem XG:∀g sp,wC.sp g=some sp→Ae AT g sp:=Aa T199.ok (Aa T156.ok (Aa (T200.ok cY) (fun g sp h=>by cases h)))
theorem T131.ok:Ae AT 131 V6:=by
 refine Av (X:=wC) rfl XG (d:=9) (by kernel_rfl) (by kernel_rfl) (by kernel_rfl) (fun(a:(Int×List Int)×(Int×List Int)) ha=>?_) (Ad (by kernel_rfl));obtain⟨h1,h2⟩:=eB (a:=a) ha;refine zK (T131.Am a) (zh h1 (zL (fun c=>zl (zM rfl rfl ?_)) (fun c=>zh h2 (zl (zM rfl rfl ?_)))))
 ·have c:DW a.1=true:=c;show true=(DW a.1||DW a.2);rw[c];rfl
 ·have c:DW a.1=false:=c;show DW a.2=(DW a.1||DW a.2);rw[c];rfl
theorem T132.ok:Ae AT 132 cX:=by
 refine Av (X:=wC) rfl XG (d:=9) (by kernel_rfl) (by kernel_rfl) (by kernel_rfl) (fun(a:(Int×List Int)×(Int×List Int)) ha=>?_) (Ad (by kernel_rfl));obtain⟨h1,h2⟩:=eB (a:=a) ha;have l1:=NW h1;have l2:=NW h2;refine zK (T132.Am a) (zh rfl (zL (fun c=>zh h1 (zl (zM rfl rfl ?_))) (fun c=>zh h1 (zh (decide_eq_true (by show(AX (zx a.1)).length+1≤_;omega)) (zh h2 (zh (decide_eq_true (by rw[zy,List.length_singleton];show(AX (zx a.1)).length+1+(AX (zx a.2)).length≤_;omega)) (zl (zM rfl rfl ?_))))))))
 ·have c:CC a.2=true:=c;show AX (zx a.1)=IX a;unfold IX;rw[if_pos c]
 ·have c:CC a.2=false:=c;show AX (zx a.1)++[47]++AX (zx a.2)=IX a;unfold IX;rw[if_neg (by rw[c];decide),yk];rfl
theorem aN:∀g sp,sA.sp g=some sp→Ae AT g sp:=Aa T131.ok (Aa T132.ok (fun g sp h=>by cases h))
theorem T103.ok:Ae AT 103 MX:=by
 refine Av (X:=sA) rfl aN (d:=9) (by kernel_rfl) (by kernel_rfl) (by kernel_rfl) (fun(a:(Int×List Int)×(Int×List Int)) ha=>?_) (Ad (by kernel_rfl));refine zK (T103.Am a) (zh ha (zL (fun c=>zl (zM rfl rfl ?_)) (fun c=>zh ha (zl (zM rfl rfl ?_)))))
 ·have c:HB a=true:=c;show([],(4:Int))=(KW a,Lg a);unfold KW Lg;rw[if_pos c,if_pos c]
 ·have c:HB a=false:=c;show(IX a,(0:Int))=(KW a,Lg a);unfold KW Lg;rw[if_neg (by rw[c];decide),if_neg (by rw[c];decide)]
theorem Xf:∀g sp,sM.sp g=some sp→Ae AT g sp:=Aa T77.ok (Aa T173.ok (fun g sp h=>by cases h))
namespace T84
theorem Aj{Q:PV→Ob→Prop}(l:List (List UInt8))(hl:l.length≤1000)(hs:∀s∈l,s.length≤1000000):∀(r:List (List UInt8)) (i:Nat),l.drop i=r→i≤l.length→(∀ob,Q (.dat i64 (Ga r)) ob)→Ends sM (L1 l (l.length:Int) (i:Int)) Q
 |[],i,h,hi,hq=>by
  have:=drop_nil h hi;exact Ends.At (As ..) (yg (decide_eq_false (by omega)) (zl (hq _)))
 |x::r,i,h,hi,hq=>by
  obtain⟨g1,g2,g3⟩:=drop_cons (d:=([]:List UInt8)) h;have hx:x∈l:=List.mem_of_mem_drop (by rw[h];exact List.mem_cons_self ..);have e1:zc .i64 ((i:Int)+1)=((i+1:Nat):Int):=by rw[wr _ (by omega) (by omega)];omega
  unfold Ga at hq;refine Ends.At (As ..) ?_;conv=>zeta
  rw[zV,g2,e1];refine zh (decide_eq_true (by omega)) (zh (Ac (decide_eq_true (by omega)) (decide_eq_true (by omega))) (zh (decide_eq_true (hs x hx)) (zL (fun c=>zl ?_) (fun c=>Aj l hl hs r (i+1) g3 g1 ?_))))
  ·have c:AP x≠0:=by simpa using c
   rw[if_pos c]at hq;exact hq _
  ·have c:AP x=0:=by simpa using c
   rw[if_neg (by rw[c];decide)]at hq;exact hq
theorem ok:Ae AT 84 Qs:=by
 refine Av (X:=sM) rfl Xf (d:=9) (by kernel_rfl) (by kernel_rfl) (by kernel_rfl) (fun(l:List (List UInt8)) hi=>?_) (Ad (by kernel_rfl));have hi:(decide (l.length≤1000)&&l.all fun s=>decide (s.length≤1000000))=true:=hi;rw[zk,decide_eq_true_eq,List.all_eq_true]at hi;exact zK (Am l) (Aj l hi.1 (fun s h=>of_decide_eq_true (hi.2 s h)) l 0 rfl (Nat.zero_le _) (fun ob=>zM rfl rfl rfl))
end T84
theorem T110.ok:Ae AT 110 ZH:=by
 refine Av (X:=sM) rfl Xf (d:=9) (by kernel_rfl) (by kernel_rfl) (by kernel_rfl) (fun(a:(Int×List Int)×(Int×List Int)) ha=>?_) (Ad (by kernel_rfl));exact zK (T110.Am a) (zh ha (zl (zM rfl rfl rfl)))
end Go.Pe
end
section
namespace Go.Sp
structure Nu(k:Nat)(s:List UInt8)(q:Rat):Prop where
 t:s=A0 q
 z:DO k q
theorem Nu.rat{k:Nat}{s:List UInt8}{q:Rat}(h:Nu k s q):AW s=q:=by rw[h.t,DM]
theorem WR{k:Nat}{q:Rat}(h:DO k q)(hk:k≤600):IW q=false:=UJ.2 (h.mono hk)
theorem Nu.check{k:Nat}{s:List UInt8}{q:Rat}(h:Nu k s q)(hk:k≤600):AP s=0:=by
 rw[h.t,U5,WR h.z hk,if_neg (by decide)]
theorem Nu.num{k:Nat}{s:List UInt8}{q:Rat}(h:Nu k s q)(hk:k≤1999):Bw s=true:=by rw[h.t];exact Px h.z hk
theorem Nu.Dc{k:Nat}{s:List UInt8}{q:Rat}(h:Nu k s q)(hk:k≤1400):Sp.Dc s=true:=by
 unfold Sp.Dc;rw[h.num (by omega),zT,decide_eq_true_eq,h.t];have:=O7 (h.z.mono (show k≤k+1 by omega)) (by omega);omega
theorem Nu.len{k:Nat}{s:List UInt8}{q:Rat}(h:Nu k s q)(hk:k≤1999):s.length≤1000000:=by
 rw[h.t];exact HQ h.z (by omega)
theorem Nu.NU{i j:Nat}{a b:List UInt8}{p q:Rat}(ha:Nu i a p)(hb:Nu j b q)(hi:i≤600)(hj:j≤600):Sp.NU a b=0:=by
 rw[WX,ha.check hi,hb.check hj,if_neg (by decide)]
theorem ZG{k:Nat}{q:Rat}(h:DO k q)(hk:k≤600):QP 0 q=A0 q∧R5 0 q=0:=by
 unfold QP R5;rw[WR h hk];exact⟨rfl,rfl⟩
theorem Nu.op{k:Nat}{q:Rat}(h:DO k q)(hk:k≤600):Nu k (QP 0 q) q∧R5 0 q=0:=by
 rw[(ZG h hk).1];exact⟨⟨rfl,h⟩,(ZG h hk).2⟩
theorem Nu.JJ{k:Nat}{s:List UInt8}{q:Rat}(h:Nu k s q)(hk:k≤1999):s=[48]↔q=0:=by
 rw[Sp.JJ (h.num hk),h.rat]
theorem Nu.cmp{i j:Nat}{a b:List UInt8}{p q:Rat}(ha:Nu i a p)(hb:Nu j b q):SE a b=if p<q then -1 else if q<p then 1 else 0:=by
 unfold SE;rw[ha.rat,hb.rat]
theorem Nu.same{i j:Nat}{s t:List UInt8}{p q:Rat}(h:Nu i s p)(k:Nu j t q)(e:p=q):s=t:=by rw[h.t,k.t,e]
theorem U7{a:List UInt8}{n:Nat}(h:Jl a (n:Int)=true):Nu n a (AW a)∧AP a=0:=by
 unfold Jl at h;rw[zk,zk,zk,decide_eq_true_eq,decide_eq_true_eq,decide_eq_true_eq,decide_eq_true_eq]at h;obtain⟨⟨⟨_,f2⟩,f3⟩,f4⟩:=h;obtain⟨t,_,_,_⟩:=Ln f2;rw[←t]at f3 f4;rw[TD]at f4;rw[(Ez _).1,(CY _).2.1]at f3;refine⟨⟨t.symm,CG _ (by omega),CG _ (by omega)⟩,f2⟩
theorem cG{a:List UInt8}(h:AP a=0):Nu 600 a (AW a):=by
 obtain⟨t,_,_,z⟩:=Ln h;exact⟨t.symm,z⟩
theorem vE:AW [49,50,53,48,47,49,49,52,51]=1250/1143:=by decide+kernel
theorem vU:AW [49,49,52,51,47,49,50,53,48]=1143/1250:=by decide+kernel
theorem qE:(1143/1250:Rat)⁻¹=1250/1143:=by decide+kernel
theorem IQ:Nu 1 [49,47,50] (1/2):=by
 refine⟨by decide+kernel,?_⟩;unfold DO;decide+kernel
theorem oP:Nu 4 [49,50,53,48,47,49,49,52,51] (1250/1143):=by
 refine⟨by decide+kernel,?_⟩;unfold DO;decide+kernel
theorem SM:Nu 4 [49,49,52,51,47,49,50,53,48] (1143/1250):=by
 refine⟨by decide+kernel,?_⟩;unfold DO;decide+kernel
theorem iX{a:List UInt8}(h:AP a=0):Ea (KK a) (Pn a) (Et a [49,50,53,48,47,49,49,52,51]) 0=true:=by
 unfold KK Pn Et;rw[h,vE,Rat.div_def,qE];exact RV _
theorem jT{a:List UInt8}(h:AP a=0):Ea (Pp a) (Pv a) (Et a [49,49,52,51,47,49,50,53,48]) 0=true:=by
 unfold Pp Pv Et;rw[h,vU];exact RV _
theorem jN{n d:Int}(h:d≠0):Ea (X9 n d) (XX n d) (Cm n d) 0=true:=by
 unfold X9 XX Cm Mt;rw[if_neg h];exact RV _
end Go.Sp
end
section
namespace Go.Sp
theorem Js:∀(b n r:Nat),r*r≤n→n<(r+2^b)*(r+2^b)→Fb b n r*Fb b n r≤n∧n<(Fb b n r+1)*(Fb b n r+1)
 |0,n,r,h1,h2=>⟨h1,h2⟩
 |b+1,n,r,h1,h2=>by
  have e:r+2^(b+1)=r+2^b+2^b:=by rw[yi];omega
  rw[e]at h2;unfold Fb;split
  ·next c=>exact Js b n _ c h2
  ·next c=>exact Js b n r h1 (by omega)
theorem fK{a b:Int}(ha:0≤a)(h:a<b):(a+1)*(a+1)≤b*b:=Int.mul_le_mul (by omega) (by omega) (by omega) (by omega)
theorem SJ{n r s:Int}(r0:0≤r)(s0:0≤s)(h1:r*r≤n)(h2:n<(r+1)*(r+1))(h3:s*s≤n)(h4:n<(s+1)*(s+1)):r=s:=by
 rcases Int.lt_trichotomy r s with h|h|h
 ·have:=fK r0 h;omega
 ·exact h
 ·have:=fK s0 h;omega
theorem PI{n:Int}(h0:0≤n)(h:n<9223372036854775808):0≤BA n∧BA n≤3037000499∧BA n*BA n≤n∧n<(BA n+1)*(BA n+1):=by
 have hb:n.toNat<(0+2^32)*(0+2^32):=by
  have:(0+2^32)*(0+2^32)=18446744073709551616:=by decide
  omega
 obtain⟨h1,h2⟩:=Js 32 n.toNat 0 (Nat.zero_le _) hb;have e:BA n=((Fb 32 n.toNat 0:Nat):Int):=by unfold BA;rw[if_neg (by omega)]
 rw[e];generalize Fb 32 n.toNat 0=R at*;have k1:((R*R:Nat):Int)≤(n.toNat:Int):=yr.2 h1;have k2:(n.toNat:Int)<(((R+1)*(R+1):Nat):Int):=yc.2 h2;rw[Int.natCast_mul]at k1 k2;rw[Int.natCast_add]at k2;have hn:(n.toNat:Int)=n:=by omega
 rw[hn]at k1 k2;refine⟨Int.natCast_nonneg _,?_,k1,k2⟩;rcases Int.lt_or_le 3037000499 (R:Int)with c|c
 ·have:=fK (a:=3037000499) (by decide) c;omega
 ·exact c
end Go.Sp
end
section
namespace Go.Pe
open Sp
open Go.Det
theorem T111.ok:Ae AT 111 cF:=by
 refine Av (X:=Sn) rfl FI (d:=9) (by kernel_rfl) (by kernel_rfl) (by kernel_rfl) (fun(n:Int) _=>?_) (Ad (by kernel_rfl));exact zK (T111.Am n) (zh rfl (zh rfl (zl (zM rfl rfl rfl))))
theorem RU:∀g sp,vF.sp g=some sp→Ae AT g sp:=Aa T83.ok (Aa T85.ok (Aa T84.ok (Aa T87.ok (Aa T80.ok (Aa T81.ok (Aa T82.ok (Aa T86.ok (Aa T88.ok (Aa T103.ok (Aa T104.ok (Aa T105n.ok (Aa T110.ok (Aa T111.ok (Aa T112.ok (Aa T77.ok (fun g sp h=>by cases h))))))))))))))))
theorem aJ:∀g sp,Uh.sp g=some sp→Ae AT g sp:=RU
structure rS(a b:List UInt8):Prop where
 na:Bw a=true
 nb:Bw b=true
 za:DO 600 (AW a)
 zb:DO 600 (AW b)
 ra:EX (YT a) (AW a)
 rb:EX (YT b) (AW b)
 sa:Pc 4000 (AW a)
 sb:Pc 4000 (AW b)
 ta:Ho a=true
 tb:Ho b=true
theorem jG{a b:List UInt8}(h:Ga [a,b]=0):rS a b:=by
 obtain⟨h1,h2⟩:=Y8 (a:=a) (b:=b) h;obtain⟨n1,z1⟩:=GX h1;obtain⟨n2,z2⟩:=GX h2;exact⟨n1,n2,z1,z2,Ki n1,Ki n2,Ca z1 (by decide),Ca z2 (by decide),(C2 n1).2.2.2.2.2.2.1,(C2 n2).2.2.2.2.2.2.1⟩
theorem iM{a b:List UInt8}(h:tC a b=true):(decide ((2:Nat)≤2)&&true&&(decide ((2:Nat)≤1000)&&List.all [a,b] fun s=>decide (yq s≤1000000)))=true:=by
 unfold tC at h;rw[zk]at h;show(decide (a.length≤1000000)&&(decide (b.length≤1000000)&&true))=true;rw[h.1,h.2];rfl
theorem NS{e:Int}(h:e≠0)(q:Rat):([],e)=(QP e q,R5 e q):=by
 unfold QP R5;rw[if_pos h,if_pos h]
theorem RS{f:AA}{q:Rat}(h:EX f q){e:Int}(he:e=0):(KW f,Lg f)=(QP e q,R5 e q):=by
 rw[he,(WW h).1,(WW h).2]
theorem EX.div{f g:AA}{p q:Rat}(hf:EX f p)(hg:EX g q)(sp:Pc 4000 p)(sq:Pc 4000 q)(si:Pc 4000 q⁻¹)(h0:q≠0):EX (Lz f g) (p/q):=by
 rw[Rat.div_def];exact EX.mul hf (EX.inv hg sq h0) sp si
theorem jC(n:Int):B1 n=[]:=by unfold B1;split<;>rfl
theorem J3{n:Int}(h:BG n=true):A5 (n,B1 n)=true∧zx (n,B1 n)=n:=by
 rw[jC];have hr:=Ce h;refine⟨?_,Bj rfl⟩;unfold A5;rw[show C8 (n,([]:List Int))=true from J9 h,zT];rfl
theorem T32.ok:Ae AT 32 tQ:=by
 refine Av (X:=vF) rfl RU (d:=9) (by kernel_rfl) (by kernel_rfl) (by kernel_rfl) (fun(i:Int×Int) hi=>?_) (Ad (by kernel_rfl));obtain⟨n,d⟩:=i;have hi:(BG n&&BG d)=true:=hi;rw[zk]at hi;obtain⟨hn,hd⟩:=hi;obtain⟨n1,n2⟩:=J3 hn;obtain⟨d1,d2⟩:=J3 hd;have rn:=Ce hn;have rd:=Ce hd;refine zK (T32.Am n d) (zL (fun c=>zl (zM rfl rfl ?_)) (fun c=>?_))
 ·have c:d=0:=by simpa using c
  have e:Mt d=6:=by unfold Mt;rw[if_pos c]
  show(([]:List UInt8),(6:Int))=(QP (Mt d) _,R5 (Mt d) _);rw[e];exact NS (by decide) _
 ·have c:d≠0:=by simpa using c
  have e:Mt d=0:=by unfold Mt;rw[if_neg c]
  have r:=IP n1 d1 (by rw[d2];exact c);rw[n2,d2]at r;have z:DO 20 (z6 n d):=E9 c (by have:10^20=100000000000000000000:=rfl;omega) (by have:10^20=100000000000000000000:=rfl;omega);refine zh rfl (zh rfl (zh (Ac (Ac n1 d1) (by rw[d2];exact decide_eq_true c)) (zh (r.E0 (Ca z (by decide))) (zl (zM rfl rfl (RS r e))))))
theorem Xi(n:Int)(h:BG n=true):EX ((n,B1 n),(1,B1 1)) (n:Rat):=by
 obtain⟨h1,h2⟩:=J3 h;obtain⟨h3,h4⟩:=J3 (n:=1) rfl;exact⟨(BQ h1).1,(BQ h3).1,h2.trans (Rat.num_intCast n).symm,h4.trans rfl⟩
theorem gO(n:Int)(h:n.natAbs<10^20):DO 20 (n:Rat):=by
 unfold DO;rw[Rat.num_intCast,Rat.den_intCast];exact⟨h,by decide⟩
theorem Ia:EX ((vM,uP),(wF,wH)) (1143/1250):=by
 have z1:=gO 1143 (by decide);have z2:=gO 1250 (by decide);have h0:((1250:Int):Rat)≠0:=by decide+kernel
 have r:=EX.div (Xi 1143 rfl) (Xi 1250 rfl) (Ca z1 (by decide)) (Ca z2 (by decide)) (Ca (z2.inv h0) (by decide)) h0;exact r
theorem JE:DO 4 (1143/1250:Rat):=SM.z
theorem ML:(1143/1250:Rat)≠0:=by decide+kernel
theorem T106.ok:Ae AT 106 nJ:=by
 refine Av (X:=vF) rfl RU (d:=9) (by kernel_rfl) (by kernel_rfl) (by kernel_rfl) (fun(u:Unit) _=>?_) (Ad (by kernel_rfl));exact zK T106.Am (zh rfl (zh rfl (zh rfl (zl (zM rfl rfl rfl)))))
theorem Xh:∀g sp,uC.sp g=some sp→Ae AT g sp:=Aa T77.ok (Aa T87.ok (Aa T82.ok (Aa T86.ok (Aa T106.ok (Aa T103.ok (fun g sp h=>by cases h))))))
theorem T34.ok:Ae AT 34 QO:=by
 refine Av (X:=uC) rfl Xh (d:=9) (by kernel_rfl) (by kernel_rfl) (by kernel_rfl) (fun(a:List UInt8) ha=>?_) (Ad (by kernel_rfl));refine zK (T34.Am a) (zh ha (zL (fun c=>zl (zM rfl rfl (NS (by simpa using c) _))) (fun c=>?_)));have c:AP a=0:=by simpa using c
 obtain⟨n1,z1⟩:=GX c;have ra:=Ki n1;have sa:=Ca z1 (by decide);have sy:=Ca JE (by decide);have r:=EX.div ra Ia sa sy (Ca (JE.inv ML) (by decide)) ML;exact zh (C2 n1).2.2.2.2.2.2.1 (zh rfl (zh (Ac (Ac (ra.Dj sa) (Ia.Dj sy)) (Ia.GS.trans (decide_eq_true ML))) (zh (r.E0 (Ca (z1.div JE ML) (by decide))) (zl (zM rfl rfl (RS r c))))))
theorem T35.ok:Ae AT 35 Nb:=by
 refine Av (X:=uC) rfl Xh (d:=9) (by kernel_rfl) (by kernel_rfl) (by kernel_rfl) (fun(a:List UInt8) ha=>?_) (Ad (by kernel_rfl));refine zK (T35.Am a) (zh ha (zL (fun c=>zl (zM rfl rfl (NS (by simpa using c) _))) (fun c=>?_)));have c:AP a=0:=by simpa using c
 obtain⟨n1,z1⟩:=GX c;have ra:=Ki n1;have sa:=Ca z1 (by decide);have sy:=Ca JE (by decide);have r:=EX.mul ra Ia sa sy;exact zh (C2 n1).2.2.2.2.2.2.1 (zh rfl (zh (Ac (ra.Dj sa) (Ia.Dj sy)) (zh (r.E0 (Ca (z1.mul JE) (by decide))) (zl (zM rfl rfl (RS r c))))))
namespace T16
theorem Aj{Q:PV→Ob→Prop}(l:List (List UInt8))(hl:l.length≤1000):∀(r:List (List UInt8)) (i:Nat),l.drop i=r→i≤l.length→(∀ob,Q (.bl (H6 r)) ob)→Ends Vb (L1 l (i:Int)) Q
 |[],i,h,hi,hq=>by
  have:=drop_nil h hi;exact Ends.At (As ..) (yg (decide_eq_false (by omega)) (zl (hq _)))
 |x::r,i,h,hi,hq=>by
  obtain⟨g1,g2,g3⟩:=drop_cons (d:=([]:List UInt8)) h;have e1:zc .i64 ((i:Int)+1)=((i+1:Nat):Int):=by rw[wr _ (by omega) (by omega)];omega
  have eb:H6 (x::r)=(decide (x.length≤1300)&&H6 r):=rfl;rw[eb]at hq;refine Ends.At (As ..) ?_;conv=>zeta
  rw[zV,g2,e1];refine zh (decide_eq_true (by omega)) (zh (Ac (decide_eq_true (by omega)) (decide_eq_true (by omega))) (zL (fun c=>zl ?_) (fun c=>Aj l hl r (i+1) g3 g1 ?_)))
  ·have c:=of_decide_eq_true c;rw[decide_eq_false (show ¬x.length≤1300 by omega)]at hq;exact hq _
  ·have c:=of_decide_eq_false c;rw[decide_eq_true (show x.length≤1300 by omega)]at hq;exact hq
theorem ok:Ae AT 16 aD:=by
 refine Av (X:=Vb) rfl MP (d:=9) (by kernel_rfl) (by kernel_rfl) (by kernel_rfl) (fun(l:List (List UInt8)) hi=>?_) (Ad (by kernel_rfl));exact zK (Am l) (Aj l (of_decide_eq_true hi) l 0 rfl (Nat.zero_le _) (fun ob=>zM rfl rfl rfl))
end T16
end Go.Pe
end
section
namespace Go.Pe
open Sp
open Go.Det
noncomputable section
open List Int Prod
namespace T27
def T(a b:List UInt8):Tr:=tree aS false 9 27 (Ah ([ze,ze]) (a,b))
def L1(v0 v1:List UInt8):Tr:=re ((T [] []).L.L.L.R) (AH 63 [(0,.dat ze v0),(1,.dat ze v1)] [] 0)
theorem Am(a b:List UInt8):T a b=let a':=zc .i64 (zc .i64 (Z1 a*Uk b)+zc .i64 (Z1 b*Uk a));let b':=zc .i64 (Uk a*Uk b);.ite (Bw a) (.ite (Bw b) (.ite (DF a) (.ite (DF b) (.ite (BG a'&&BG b'&&decide (zc .i64 (Uk a*Uk b)≠0)) (.leaf (.dat ze (Cm a' b')) []) .fail) (L1 a b)) (L1 a b)) .fail) .fail:=by kernel_rfl
theorem As(v0 v1:List UInt8):stepT aS (L1 v0 v1)=let b':=(G3 (Bx v0,Bp v0) (Bg v1,Bd v1),GD (Bx v0,Bp v0) (Bg v1,Bd v1));let c':=(G3 (Bx v1,Bp v1) (Bg v0,Bd v0),GD (Bx v1,Bp v1) (Bg v0,Bd v0));let d':=(G3 (Bg v0,Bd v0) (Bg v1,Bd v1),GD (Bg v0,Bd v0) (Bg v1,Bd v1));let a':=(LR b' c',L0 b' c');.ite (Ho v0) (.ite (Ho v1) (.ite (CB (Bx v0,Bp v0)&&CB (Bg v1,Bd v1)) (.ite (CB (Bx v1,Bp v1)&&CB (Bg v0,Bd v0)) (.ite (CB b'&&CB c') (.ite (CB (Bg v0,Bd v0)&&CB (Bg v1,Bd v1)) (.ite (CB a'&&CB d'&&decide (Sp.vR d'≠0)) (.leaf (.dat ze (Hi a' d')) ([(zq (zq (zq 0 1) 1) 1,.box [.dat zm (Bg v1),.dat (zj i64) (Bd v1)]),(zq (zq 0 1) 1,.box [.dat zm (Bx v1),.dat (zj i64) (Bp v1)]),(zq 0 1,.box [.dat zm (Bg v0),.dat (zj i64) (Bd v0)]),(0,.box [.dat zm (Bx v0),.dat (zj i64) (Bp v0)])])) .fail) .fail) .fail) .fail) .fail) .fail) .fail:=by kernel_rfl
end T27
namespace T29
def T(a b:List UInt8):Tr:=tree aS false 9 29 (Ah ([ze,ze]) (a,b))
def L1(v0 v1:List UInt8):Tr:=re ((T [] []).L.L.L.R) (AH 55 [(0,.dat ze v0),(1,.dat ze v1)] [] 0)
theorem Am(a b:List UInt8):T a b=let a':=zc .i64 (Z1 a*Z1 b);let b':=zc .i64 (Uk a*Uk b);.ite (Bw a) (.ite (Bw b) (.ite (DF a) (.ite (DF b) (.ite (BG a'&&BG b'&&decide (zc .i64 (Uk a*Uk b)≠0)) (.leaf (.dat ze (Cm a' b')) []) .fail) (L1 a b)) (L1 a b)) .fail) .fail:=by kernel_rfl
theorem As(v0 v1:List UInt8):stepT aS (L1 v0 v1)=let a':=(G3 (Bg v0,Bd v0) (Bg v1,Bd v1),GD (Bg v0,Bd v0) (Bg v1,Bd v1));let b':=(G3 (Bx v0,Bp v0) (Bx v1,Bp v1),GD (Bx v0,Bp v0) (Bx v1,Bp v1));.ite (Ho v0) (.ite (Ho v1) (.ite (CB (Bx v0,Bp v0)&&CB (Bx v1,Bp v1)) (.ite (CB (Bg v0,Bd v0)&&CB (Bg v1,Bd v1)) (.ite (CB b'&&CB a'&&decide (Sp.vR a'≠0)) (.leaf (.dat ze (Hi b' a')) ([(zq (zq (zq 0 1) 1) 1,.box [.dat zm (Bg v1),.dat (zj i64) (Bd v1)]),(zq (zq 0 1) 1,.box [.dat zm (Bx v1),.dat (zj i64) (Bp v1)]),(zq 0 1,.box [.dat zm (Bg v0),.dat (zj i64) (Bd v0)]),(0,.box [.dat zm (Bx v0),.dat (zj i64) (Bp v0)])])) .fail) .fail) .fail) .fail) .fail:=by kernel_rfl
end T29
namespace T94
def T(a:List UInt8):Tr:=tree aS false 9 94 (Ah ([ze]) a)
theorem Am(a:List UInt8):T a=.ite (Ho a) (.ite (CB (Bg a,Bd a)&&CB (Bx a,Bp a)&&decide (Sp.vR (Bx a,Bp a)≠0)) (.leaf (.dat ze (Hi (Bg a,Bd a) (Bx a,Bp a))) ([(zq 0 1,.box [.dat zm (Bg a),.dat (zj i64) (Bd a)]),(0,.box [.dat zm (Bx a),.dat (zj i64) (Bp a)])])) .fail) .fail:=by kernel_rfl
end T94
namespace T28
def T(a b:List UInt8):Tr:=tree tX false 9 28 (Ah ([ze,ze]) (a,b))
theorem Am(a b:List UInt8):T a b=.ite (decide (length b≤1000000)) (.ite (Bw a&&Bw (Kb b)) (.leaf (.dat ze (JA a (Kb b))) []) .fail) .fail:=by kernel_rfl
end T28
namespace T26
def T(a b:List UInt8):Tr:=tree tX false 9 26 (Ah ([ze,ze]) (a,b))
theorem Am(a b:List UInt8):T a b=.ite (dL b) (.ite (Bw a&&Bw (Pw b)) (.leaf (.dat ze (Et a (Pw b))) []) .fail) .fail:=by kernel_rfl
end T26
namespace T30
def T(a b:List UInt8):Tr:=tree qD false 9 30 (Ah ([ze,ze]) (a,b))
theorem Am(a b:List UInt8):T a b=.ite (Bw a&&Dc b) (.ite (decide (length (Kw a b)≤1000000)) (.leaf (.dat i64 (Fp (Kw a b))) []) .fail) .fail:=by kernel_rfl
end T30
namespace T43
def T(a:List UInt8):Tr:=tree qD false 9 43 (Ah ([ze]) a)
theorem Am(a:List UInt8):T a=.ite (decide (length a≤1000000)) (.leaf (.dat zm (AV a==(length a:Int))) []) .fail:=by kernel_rfl
end T43
namespace T93
def T(a:List UInt8):Tr:=tree qD false 9 93 (Ah ([ze]) a)
theorem Am(a:List UInt8):T a=let a':=decide (length a≤1000000);let b':Tr:=.leaf (.dat i64 (4:Int)) [];.ite a' (.ite (decide (length (Ax a)≤1000000)) (.ite (decide ((↑(length (AY (Ax a))):Int)>600)) b' (.ite a' (.ite (decide ((↑(length (Pk a)):Int)>600)) b' (.leaf (.dat i64 (0:Int)) [])) .fail)) .fail) .fail:=by kernel_rfl
end T93
end
end Go.Pe
end
section
namespace Go.Pe
open Sp
open Go.Det
noncomputable section
open List Int Prod
namespace T229
def T(a:List Int)(i:Int):Tr:=tree wT false 9 229 (Ah ([zj i64,zp zr]) (a,i))
theorem Am(a:List Int)(i:Int):T a i=.ite (decide (i<(length a:Int))) (.ite (decide (0≤i)&&decide (i<(length a:Int))) (.leaf (.dat i64 (getD a (toNat i) 0)) []) .fail) (.leaf (.dat i64 (0:Int)) []):=by kernel_rfl
end T229
namespace T169
def T(a b:List Int):Tr:=tree Sm false 9 169 (Ah ([zj i64,zj i64]) (a,b))
def L1(v0 v1:List Int)(v6 v7:Int):Tr:=re ((T [] [])) (AH 42 [(0,.dat (zj i64) v0),(1,.dat (zj i64) v1),(5,.nil),(6,.dat i64 v6),(7,.dat i64 v7)] [] 0)
theorem Am(a b:List Int):T a b=L1 a b 0 0:=by kernel_rfl
def L2(v0 v1:List Int)(v5n:Nat)(v6 v7:Int)(o0:List Int):Tr:=re ((stepT Sm (L1 [] [] 0 0)).L.L.L.L.L.L) (AH 42 [(0,.dat (zj i64) v0),(1,.dat (zj i64) v1),(5,.sl 0 1 0 v5n none),(6,.dat i64 v6),(7,.dat i64 v7)] [(0,.arr false 3 i64 o0)] 1)
theorem As(v0 v1:List Int)(v6 v7:Int):stepT Sm (L1 v0 v1 v6 v7)=.ite (decide (v7<(length v0:Int))) (.ite (decide (0≤v7)) (.ite (decide (0≤v7)) (.ite true (.ite (decide (1≤1)&&decide (0<1)&&decide ((2*1+1000)*8≤281474976710656)) (.ite true (L2 v0 v1 1 (zc .i64 (ya (zc .i64 (zc .i64 (Hl v0 v7+Hl v1 v7)+v6)) 1000000000)) (zc .i64 (v7+1)) ([zY (zc .i64 (zc .i64 (Hl v0 v7+Hl v1 v7)+v6)) 1000000000])) .fail) .fail) .fail) .fail) .fail) (.ite (decide (v7<(length v1:Int))) (.ite (decide (0≤v7)) (.ite (decide (0≤v7)) (.ite true (.ite (decide (1≤1)&&decide (0<1)&&decide ((2*1+1000)*8≤281474976710656)) (.ite true (L2 v0 v1 1 (zc .i64 (ya (zc .i64 (zc .i64 (Hl v0 v7+Hl v1 v7)+v6)) 1000000000)) (zc .i64 (v7+1)) ([zY (zc .i64 (zc .i64 (Hl v0 v7+Hl v1 v7)+v6)) 1000000000])) .fail) .fail) .fail) .fail) .fail) (.ite (decide (v6>0)) (.ite (decide (0≤v7)) (.ite (decide (0≤v7)) (.ite true (.ite (decide (1≤1)&&decide (0<1)&&decide ((2*1+1000)*8≤281474976710656)) (.ite true (L2 v0 v1 1 (zc .i64 (ya (zc .i64 (zc .i64 (Hl v0 v7+Hl v1 v7)+v6)) 1000000000)) (zc .i64 (v7+1)) ([zY (zc .i64 (zc .i64 (Hl v0 v7+Hl v1 v7)+v6)) 1000000000])) .fail) .fail) .fail) .fail) .fail) (.leaf .nil []))):=by kernel_rfl
theorem A3(v0 v1:List Int)(v5n:Nat)(v6 v7:Int)(o0:List Int):stepT Sm (L2 v0 v1 v5n v6 v7 o0)=.ite (decide (v7<(length v0:Int))) (.ite (decide (0≤v7)) (.ite (decide (0≤v7)) (.ite true (.ite (decide (1≤1)&&true&&decide (v5n=length o0)&&decide ((2*(v5n+1)+1000)*8≤281474976710656)) (.ite true (L2 v0 v1 (zq v5n 1) (zc .i64 (ya (zc .i64 (zc .i64 (Hl v0 v7+Hl v1 v7)+v6)) 1000000000)) (zc .i64 (v7+1)) (o0++[zY (zc .i64 (zc .i64 (Hl v0 v7+Hl v1 v7)+v6)) 1000000000])) .fail) .fail) .fail) .fail) .fail) (.ite (decide (v7<(length v1:Int))) (.ite (decide (0≤v7)) (.ite (decide (0≤v7)) (.ite true (.ite (decide (1≤1)&&true&&decide (v5n=length o0)&&decide ((2*(v5n+1)+1000)*8≤281474976710656)) (.ite true (L2 v0 v1 (zq v5n 1) (zc .i64 (ya (zc .i64 (zc .i64 (Hl v0 v7+Hl v1 v7)+v6)) 1000000000)) (zc .i64 (v7+1)) (o0++[zY (zc .i64 (zc .i64 (Hl v0 v7+Hl v1 v7)+v6)) 1000000000])) .fail) .fail) .fail) .fail) .fail) (.ite (decide (v6>0)) (.ite (decide (0≤v7)) (.ite (decide (0≤v7)) (.ite true (.ite (decide (1≤1)&&true&&decide (v5n=length o0)&&decide ((2*(v5n+1)+1000)*8≤281474976710656)) (.ite true (L2 v0 v1 (zq v5n 1) (zc .i64 (ya (zc .i64 (zc .i64 (Hl v0 v7+Hl v1 v7)+v6)) 1000000000)) (zc .i64 (v7+1)) (o0++[zY (zc .i64 (zc .i64 (Hl v0 v7+Hl v1 v7)+v6)) 1000000000])) .fail) .fail) .fail) .fail) .fail) (.leaf (.sl 0 1 0 v5n none) ([(0,.arr false 3 i64 o0)])))):=by kernel_rfl
end T169
namespace T171
def T(a b:List Int):Tr:=tree Sm false 9 171 (Ah ([zj i64,zj i64]) (a,b))
def L1(v0 v1:List Int)(v6 v7:Int):Tr:=re ((T [] [])) (AH 35 [(0,.dat (zj i64) v0),(1,.dat (zj i64) v1),(5,.nil),(6,.dat i64 v6),(7,.dat i64 v7)] [] 0)
theorem Am(a b:List Int):T a b=L1 a b 0 0:=by kernel_rfl
def L2(v0 v1:List Int)(v5n:Nat)(v6 v7:Int)(o0:List Int):Tr:=re ((stepT Sm (L1 [] [] 0 0)).L.L.L.L.L) (AH 35 [(0,.dat (zj i64) v0),(1,.dat (zj i64) v1),(5,.sl 0 1 0 v5n none),(6,.dat i64 v6),(7,.dat i64 v7)] [(0,.arr false 3 i64 o0)] 1)
theorem As(v0 v1:List Int)(v6 v7:Int):stepT Sm (L1 v0 v1 v6 v7)=.ite (decide (v7<(length v0:Int))) (.ite (decide (0≤v7)&&decide (v7<(length v0:Int))) (.ite (decide (0≤v7)) (.ite (decide (zc .i64 (zc .i64 (getD v0 (toNat v7) 0-Hl v1 v7)-v6)<0)) (.ite (decide (1≤1)&&decide (0<1)&&decide ((2*1+1000)*8≤281474976710656)) (L2 v0 v1 1 1 (zc .i64 (v7+1)) ([zc .i64 (zc .i64 (zc .i64 (getD v0 (toNat v7) 0-Hl v1 v7)-v6)+1000000000)])) .fail) (.ite (decide (1≤1)&&decide (0<1)&&decide ((2*1+1000)*8≤281474976710656)) (L2 v0 v1 1 0 (zc .i64 (v7+1)) ([zc .i64 (zc .i64 (getD v0 (toNat v7) 0-Hl v1 v7)-v6)])) .fail)) .fail) .fail) (.ite true (.leaf (.dat (zj i64) (Ar [])) []) .fail):=by kernel_rfl
theorem A3(v0 v1:List Int)(v5n:Nat)(v6 v7:Int)(o0:List Int):stepT Sm (L2 v0 v1 v5n v6 v7 o0)=.ite (decide (v7<(length v0:Int))) (.ite (decide (0≤v7)&&decide (v7<(length v0:Int))) (.ite (decide (0≤v7)) (.ite (decide (zc .i64 (zc .i64 (getD v0 (toNat v7) 0-Hl v1 v7)-v6)<0)) (.ite (decide (1≤1)&&true&&decide (v5n=length o0)&&decide ((2*(v5n+1)+1000)*8≤281474976710656)) (L2 v0 v1 (zq v5n 1) 1 (zc .i64 (v7+1)) (o0++[zc .i64 (zc .i64 (zc .i64 (getD v0 (toNat v7) 0-Hl v1 v7)-v6)+1000000000)])) .fail) (.ite (decide (1≤1)&&true&&decide (v5n=length o0)&&decide ((2*(v5n+1)+1000)*8≤281474976710656)) (L2 v0 v1 (zq v5n 1) 0 (zc .i64 (v7+1)) (o0++[zc .i64 (zc .i64 (getD v0 (toNat v7) 0-Hl v1 v7)-v6)])) .fail)) .fail) .fail) (.ite (decide (0+v5n≤length o0)&&true&&decide (length (take v5n o0)≤20000)) (.leaf (.dat (zj i64) (Ar (take v5n o0))) ([(0,.arr true 3 i64 o0)])) .fail):=by kernel_rfl
end T171
namespace T97
def T(a b:Bool×List Int):Tr:=tree pJ false 9 97 (Ah ([zz zm (zj i64),zz zm (zj i64)]) (a,b))
theorem Am(a b:Bool×List Int):T a b=.ite (fst a==fst b) (.ite (gN (snd a) (snd b)) (.ite (decide (length (LG (snd a) (snd b))≤20000)) (.leaf (PV.agg [.dat zm (B4 (fst a) (LG (snd a) (snd b))),.dat (zj i64) (Ar (LG (snd a) (snd b)))]) ([(zq (zq 0 1) 1,.box [.dat zm (B4 (fst a) (LG (snd a) (snd b))),.dat (zj i64) (Ar (LG (snd a) (snd b)))]),(zq 0 1,.box [.dat zm (fst b),.dat (zj i64) (snd b)]),(0,.box [.dat zm (fst a),.dat (zj i64) (snd a)])])) .fail) .fail) (.ite (A4 (snd a)&&A4 (snd b)) (.ite (decide (BW (Aq (snd a)) (Aq (snd b))≥0)) (.ite (gN (snd a) (snd b)&&decide (Aq (snd b)≤Aq (snd a))) (.ite (decide (length (F5 (snd a) (snd b))≤20000)) (.leaf (PV.agg [.dat zm (B4 (fst a) (F5 (snd a) (snd b))),.dat (zj i64) (Ar (F5 (snd a) (snd b)))]) ([(zq (zq 0 1) 1,.box [.dat zm (B4 (fst a) (F5 (snd a) (snd b))),.dat (zj i64) (Ar (F5 (snd a) (snd b)))]),(zq 0 1,.box [.dat zm (fst b),.dat (zj i64) (snd b)]),(0,.box [.dat zm (fst a),.dat (zj i64) (snd a)])])) .fail) .fail) (.ite (gN (snd b) (snd a)&&decide (Aq (snd a)≤Aq (snd b))) (.ite (decide (length (F5 (snd b) (snd a))≤20000)) (.leaf (PV.agg [.dat zm (B4 (fst b) (F5 (snd b) (snd a))),.dat (zj i64) (Ar (F5 (snd b) (snd a)))]) ([(zq (zq 0 1) 1,.box [.dat zm (B4 (fst b) (F5 (snd b) (snd a))),.dat (zj i64) (Ar (F5 (snd b) (snd a)))]),(zq 0 1,.box [.dat zm (fst b),.dat (zj i64) (snd b)]),(0,.box [.dat zm (fst a),.dat (zj i64) (snd a)])])) .fail) .fail)) .fail):=by kernel_rfl
end T97
namespace T98
def T(a b:Bool×List Int):Tr:=tree pJ false 9 98 (Ah ([zz zm (zj i64),zz zm (zj i64)]) (a,b))
theorem Am(a b:Bool×List Int):T a b=.ite (Sp.hR (snd a)&&Sp.hR (snd b)) (.ite (decide (length (BL (Aq (snd a)*Aq (snd b)))≤20000)) (.leaf (PV.agg [.dat zm (B4 (!fst a==fst b) (BL (Aq (snd a)*Aq (snd b)))),.dat (zj i64) (Ar (BL (Aq (snd a)*Aq (snd b))))]) ([(zq (zq 0 1) 1,.box [.dat zm (B4 (!fst a==fst b) (BL (Aq (snd a)*Aq (snd b)))),.dat (zj i64) (Ar (BL (Aq (snd a)*Aq (snd b))))]),(zq 0 1,.box [.dat zm (fst b),.dat (zj i64) (snd b)]),(0,.box [.dat zm (fst a),.dat (zj i64) (snd a)])])) .fail) .fail:=by kernel_rfl
end T98
namespace T166
def T(a:Bool×List Int):Tr:=tree pJ false 9 166 (Ah ([zz zm (zj i64)]) a)
theorem Am(a:Bool×List Int):T a=.ite (decide (length (snd a)≤20000)) (.leaf (PV.agg [.dat zm (B4 (!fst a) (snd a)),.dat (zj i64) (Ar (snd a))]) ([(zq 0 1,.box [.dat zm (B4 (!fst a) (snd a)),.dat (zj i64) (Ar (snd a))]),(0,.box [.dat zm (fst a),.dat (zj i64) (snd a)])])) .fail:=by kernel_rfl
end T166
namespace T167
def T(a:Bool×List Int):Tr:=tree wA false 9 167 (Ah ([zz zm (zj i64)]) a)
def L1(v3:List UInt8)(v4:Int)(o0:Bool)(o0_1:List Int):Tr:=re ((T (false,[])).R.L.L) (AH 39 [(1,.ptr 0 0),(3,.dat ze v3),(4,.dat i64 v4)] [(0,.box [.dat zm o0,.dat (zj i64) o0_1])] 1)
theorem Am(a:Bool×List Int):T a=.ite ((↑(length (snd a)):Int)==0) (.leaf (.dat ze [(48:UInt8)]) ([(0,.box [.dat zm (fst a),.dat (zj i64) (snd a)])])) (.ite (decide (0≤zc .i64 ((↑(length (snd a)):Int)-1))&&decide (zc .i64 ((↑(length (snd a)):Int)-1)<(↑(length (snd a)):Int))) (.ite (decide (0≤getD (snd a) (toNat (zc .i64 ((↑(length (snd a)):Int)-1))) 0)&&decide (getD (snd a) (toNat (zc .i64 ((↑(length (snd a)):Int)-1))) 0<9223372036854775808)&&decide (0≤1)&&decide (1≤20)) (L1 (Hn (getD (snd a) (toNat (zc .i64 ((↑(length (snd a)):Int)-1))) 0) 1) (zc .i64 ((↑(length (snd a)):Int)-2)) (fst a) (snd a)) .fail) .fail):=by kernel_rfl
theorem As(v3:List UInt8)(v4:Int)(o0:Bool)(o0_1:List Int):stepT wA (L1 v3 v4 o0 o0_1)=.ite (decide (v4≥0)) (.ite (decide (0≤v4)&&decide (v4<(length o0_1:Int))) (.ite (decide (0≤getD o0_1 (toNat v4) 0)&&decide (getD o0_1 (toNat v4) 0<9223372036854775808)&&decide (0≤9)&&decide (9≤20)) (.ite (decide (length v3+length (Hn (getD o0_1 (toNat v4) 0) 9)≤4611686018427387904)) (L1 (v3++Hn (getD o0_1 (toNat v4) 0) 9) (zc .i64 (v4-1)) o0 o0_1) .fail) .fail) .fail) (.ite o0 (.ite (decide (1+length v3≤4611686018427387904)) (.leaf (.dat ze ([(45:UInt8)]++v3)) ([(0,.box [.dat zm o0,.dat (zj i64) o0_1])])) .fail) (.leaf (.dat ze v3) ([(0,.box [.dat zm o0,.dat (zj i64) o0_1])]))):=by kernel_rfl
end T167
namespace T96
def T(a b:Bool×List Int):Tr:=tree Zu false 9 96 (Ah ([zz zm (zj i64),zz zm (zj i64)]) (a,b))
def L1(o1:Bool)(o1_1:List Int)(o0:Bool)(o0_1:List Int):Tr:=re ((T (false,[]) (false,[])).L.L.L) (AH 57 [(2,.ptr 0 0),(3,.ptr 1 0)] [(1,.box [.dat zm o1,.dat (zj i64) o1_1]),(0,.box [.dat zm o0,.dat (zj i64) o0_1])] 2)
theorem Am(a b:Bool×List Int):T a b=.ite (fst b) (.ite (CB (fst a,snd a)) (.ite (CB (fst b,snd b)) (L1 (Sd (fst b,snd b)) (RQ (fst b,snd b)) (Sd (fst a,snd a)) (RQ (fst a,snd a))) .fail) .fail) (L1 (fst b) (snd b) (fst a) (snd a)):=by kernel_rfl
def L2(v8:List Int)(v10:List UInt8):Tr:=re ((stepT Zu (L1 false [] false [])).L.L.L.L.L) (AH 57 [(8,.dat (zj i64) v8),(10,.dat ze v10)] [] 0)
theorem As(o1:Bool)(o1_1:List Int)(o0:Bool)(o0_1:List Int):stepT Zu (L1 o1 o1_1 o0 o0_1)=.ite (A4 o0_1&&A4 o1_1&&decide (length o0_1≤9000)&&decide (length o1_1≤9000)) (.ite (A4 o0_1&&A4 (Cc o0_1 o1_1)&&decide (length o0_1≤9000)&&decide (length (Cc o0_1 o1_1)≤9000)&&decide (0<Aq (Cc o0_1 o1_1))) (.ite (A4 o1_1&&A4 (Cc o0_1 o1_1)&&decide (length o1_1≤9000)&&decide (length (Cc o0_1 o1_1)≤9000)&&decide (0<Aq (Cc o0_1 o1_1))) (.ite (decide (length (BL (Aq o0_1/Aq (Cc o0_1 o1_1)))≤20000)) (.ite (CB (B4 o0 (BL (Aq o0_1/Aq (Cc o0_1 o1_1))),Ar (BL (Aq o0_1/Aq (Cc o0_1 o1_1))))) (L2 (BL (Aq o1_1/Aq (Cc o0_1 o1_1))) (Ja (B4 o0 (BL (Aq o0_1/Aq (Cc o0_1 o1_1))),Ar (BL (Aq o0_1/Aq (Cc o0_1 o1_1)))))) .fail) .fail) .fail) .fail) .fail:=by kernel_rfl
def L3(v8:List Int)(v10:List UInt8):Tr:=re ((stepT Zu (L2 [] [])).L.L.R) (AH 57 [(8,.dat (zj i64) v8),(10,.dat ze v10)] [] 0)
theorem A3(v8:List Int)(v10:List UInt8):stepT Zu (L2 v8 v10)=.ite ((length v8:Int)==1) (.ite (decide (0<(length v8:Int))) (.ite (getD v8 0 0==1) (.leaf (.dat ze v10) []) (L3 v8 v10)) .fail) (L3 v8 v10):=by kernel_rfl
theorem C9(v8:List Int)(v10:List UInt8):stepT Zu (L3 v8 v10)=.ite (decide (length v10+1≤4611686018427387904)) (.ite (decide (length v8≤20000)) (.ite (CB (B4 false v8,Ar v8)) (.ite (decide (length (v10++[(47:UInt8)])+length (Ja (B4 false v8,Ar v8))≤4611686018427387904)) (.leaf (.dat ze (v10++[(47:UInt8)]++Ja (B4 false v8,Ar v8))) []) .fail) .fail) .fail) .fail:=by kernel_rfl
end T96
namespace T36
def T(n d:Int):Tr:=tree YZ false 9 36 (Ah ([zp zr,zp zr]) (n,d))
def L1(v0 v1:Int):Tr:=re ((T 0 0).R.R.R.R) (AH 61 [(0,.dat i64 v0),(1,.dat i64 v1)] [] 0)
theorem Am(n d:Int):T n d=.ite (decide (n<(-4000000000000000000))) (.ite (BG n) (.ite (BG d) (.ite (CB (ye n,yf n)&&CB (ye d,yf d)&&decide (Sp.vR (ye d,yf d)≠0)) (.leaf (.dat ze (Hi (ye n,yf n) (ye d,yf d))) []) .fail) .fail) .fail) (.ite (decide (n>4000000000000000000)) (.ite (BG n) (.ite (BG d) (.ite (CB (ye n,yf n)&&CB (ye d,yf d)&&decide (Sp.vR (ye d,yf d)≠0)) (.leaf (.dat ze (Hi (ye n,yf n) (ye d,yf d))) []) .fail) .fail) .fail) (.ite (decide (d<(-4000000000000000000))) (.ite (BG n) (.ite (BG d) (.ite (CB (ye n,yf n)&&CB (ye d,yf d)&&decide (Sp.vR (ye d,yf d)≠0)) (.leaf (.dat ze (Hi (ye n,yf n) (ye d,yf d))) []) .fail) .fail) .fail) (.ite (decide (d>4000000000000000000)) (.ite (BG n) (.ite (BG d) (.ite (CB (ye n,yf n)&&CB (ye d,yf d)&&decide (Sp.vR (ye d,yf d)≠0)) (.leaf (.dat ze (Hi (ye n,yf n) (ye d,yf d))) []) .fail) .fail) .fail) (L1 n d)))):=by kernel_rfl
def L2(v0 v1:Int):Tr:=re ((stepT YZ (L1 0 0)).L) (AH 61 [(0,.dat i64 v0),(1,.dat i64 v1)] [] 0)
theorem As(v0 v1:Int):stepT YZ (L1 v0 v1)=.ite (decide (v1<0)) (L2 (zc .i64 (0-v0)) (zc .i64 (0-v1))) (L2 v0 v1):=by kernel_rfl
def L3(v0 v1:Int):Tr:=re ((stepT YZ (L2 0 0)).L.L.L) (AH 61 [(0,.dat i64 v0),(1,.dat i64 v1)] [] 0)
theorem A3(v0 v1:Int):stepT YZ (L2 v0 v1)=.ite (vN (imax v0 (zc .i64 (0-v0))) v1) (.ite (decide (Sp.gI (imax v0 (zc .i64 (0-v0))) v1≠0)) (.ite (decide (Sp.gI (imax v0 (zc .i64 (0-v0))) v1≠0)) (L3 (zc .i64 (ya v0 (Sp.gI (imax v0 (zc .i64 (0-v0))) v1))) (zc .i64 (ya v1 (Sp.gI (imax v0 (zc .i64 (0-v0))) v1)))) .fail) .fail) .fail:=by kernel_rfl
def L4(v1:Int)(v6:List UInt8):Tr:=re ((stepT YZ (L3 0 0)).L.L.L) (AH 61 [(1,.dat i64 v1),(6,.dat ze v6)] [] 0)
theorem C9(v0 v1:Int):stepT YZ (L3 v0 v1)=.ite (decide (v0<0)) (.ite (decide (0≤imax v0 (zc .i64 (0-v0)))&&decide (imax v0 (zc .i64 (0-v0))<9223372036854775808)&&decide (0≤1)&&decide (1≤20)) (.ite (decide (1+length (Hn (imax v0 (zc .i64 (0-v0))) 1)≤4611686018427387904)) (L4 v1 ([(45:UInt8)]++Hn (imax v0 (zc .i64 (0-v0))) 1)) .fail) .fail) (.ite (decide (0≤imax v0 (zc .i64 (0-v0)))&&decide (imax v0 (zc .i64 (0-v0))<9223372036854775808)&&decide (0≤1)&&decide (1≤20)) (.ite (decide (0+length (Hn (imax v0 (zc .i64 (0-v0))) 1)≤4611686018427387904)) (L4 v1 ([]++Hn (imax v0 (zc .i64 (0-v0))) 1)) .fail) .fail):=by kernel_rfl
theorem Dp(v1:Int)(v6:List UInt8):stepT YZ (L4 v1 v6)=.ite (decide (v1>1)) (.ite (decide (length v6+1≤4611686018427387904)) (.ite (decide (0≤v1)&&decide (v1<9223372036854775808)&&decide (0≤1)&&decide (1≤20)) (.ite (decide (length (v6++[(47:UInt8)])+length (Hn v1 1)≤4611686018427387904)) (.leaf (.dat ze (v6++[(47:UInt8)]++Hn v1 1)) []) .fail) .fail) .fail) (.leaf (.dat ze v6) []):=by kernel_rfl
end T36
end
end Go.Pe
end
section
namespace Go.Pe
open Sp
open Go.Det
noncomputable section
open List Int Prod
namespace T108
def T(a b:Int):Tr:=tree IT false 9 108 (Ah ([zp zr,zp zr]) (a,b))
def L1(v0 v1:Int):Tr:=re ((T 0 0)) (AH 12 [(0,.dat i64 v0),(1,.dat i64 v1)] [] 0)
theorem Am(a b:Int):T a b=L1 a b:=by kernel_rfl
theorem As(v0 v1:Int):stepT IT (L1 v0 v1)=.ite (decide (v1>0)) (.ite (decide (v1≠0)) (L1 v1 (zY v0 v1)) .fail) (.leaf (.dat i64 v0) []):=by kernel_rfl
end T108
namespace T41
def T(s:List UInt8):Tr:=tree IT false 9 41 (Ah ([ze]) s)
theorem Am(s:List UInt8):T s=let a':Tr:=.leaf (.dat i64 (1:Int)) [];.ite (s==[(48:UInt8)]) (.leaf (.dat i64 (0:Int)) []) (.ite (decide ((length s:Int)>0)) (.ite (decide (0<(length s:Int))) (.ite ((↑(UInt8.toNat (getD s 0 (0:UInt8))):Int)==45) (.leaf (.dat i64 (-1:Int)) []) a') .fail) a'):=by kernel_rfl
end T41
namespace T99
def T(s:List UInt8):Tr:=tree xZ false 9 99 (Ah ([ze]) s)
theorem Am(s:List UInt8):T s=let a':=decide (length s≤1000000);.ite a' (.ite (decide (Fp s<0)) (.ite (decide (1≤length s)&&decide (length s≤length s)) (.leaf (.dat ze (take (yb (length s) 1) (drop 1 s))) []) .fail) (.ite a' (.ite (Fp s==0) (.leaf (.dat ze s) []) (.ite (decide (1+length s≤4611686018427387904)) (.leaf (.dat ze ([(45:UInt8)]++s)) []) .fail)) .fail)) .fail:=by kernel_rfl
end T99
namespace T109
def T(n l:Int):Tr:=tree IT false 9 109 (Ah ([zp zr,zp zr]) (n,l))
def L1(v0 v1:Int)(v5:List UInt8):Tr:=re ((T 0 0)) (AH 25 [(0,.dat i64 v0),(1,.dat i64 v1),(5,.dat ze v5)] [] 0)
theorem Am(n l:Int):T n l=L1 n l []:=by kernel_rfl
theorem As(v0 v1:Int)(v5:List UInt8):stepT IT (L1 v0 v1 v5)=let c':=zc .i64 (zY v0 10+1);let d':=toNat (zY v0 10);let b':=drop d' [(48:UInt8),(49:UInt8),(50:UInt8),(51:UInt8),(52:UInt8),(53:UInt8),(54:UInt8),(55:UInt8),(56:UInt8),(57:UInt8)];let a':Tr:=.ite true (.ite true (.ite (decide (0≤zY v0 10)&&decide (0≤zc .i64 (zY v0 10+1))&&decide (toNat (zY v0 10)≤toNat c')&&decide (toNat c'≤10)) (.ite (decide (length (take (yb (toNat c') d') b')+length v5≤4611686018427387904)) (.ite true (L1 (zc .i64 (ya v0 10)) v1 (take (yb (toNat c') d') b'++v5)) .fail) .fail) .fail) .fail) .fail;.ite (decide (v0>0)) a' (.ite (decide ((length v5:Int)<v1)) a' (.leaf (.dat ze v5) [])):=by kernel_rfl
end T109
namespace T95
def T(s:List UInt8):Tr:=tree Ms false 9 95 (Ah ([ze]) s)
def L1(v5:List UInt8)(v6:Bool):Tr:=re ((T []).R.L.L) (AH 54 [(5,.dat ze v5),(6,.dat zm v6)] [] 0)
def L2(v5:List UInt8):Tr:=re ((T []).R.R) (AH 54 [(5,.dat ze v5),(6,.bl false)] [] 0)
theorem Am(s:List UInt8):T s=let a':=(length s:Int);.ite (decide (a'>20)) (.leaf (.tup [.dat i64 (0:Int),.dat i64 (0:Int),.bl false]) []) (.ite (decide (a'>0)) (.ite (decide (0<a')) (L1 s ((↑(UInt8.toNat (getD s 0 (0:UInt8))):Int)==45)) .fail) (L2 s)):=by kernel_rfl
def L3(v5:List UInt8)(v6:Bool):Tr:=re ((stepT Ms (L1 [] false)).L.L) (AH 54 [(5,.dat ze v5),(6,.dat zm v6)] [] 0)
theorem As(v5:List UInt8)(v6:Bool):stepT Ms (L1 v5 v6)=.ite v6 (.ite (decide (1≤length v5)&&decide (length v5≤length v5)) (L3 (take (yb (length v5) 1) (drop 1 v5)) v6) .fail) (L3 v5 v6):=by kernel_rfl
def L4(v5:List UInt8):Tr:=re ((stepT Ms (L2 []))) (AH 54 [(5,.dat ze v5),(6,.bl false)] [] 0)
theorem A3(v5:List UInt8):stepT Ms (L2 v5)=L4 v5:=by kernel_rfl
def L5(v5:List UInt8)(v6:Bool)(v7 v8 v9:Int):Tr:=re ((stepT Ms (L3 [] false)).L.R.R.L.L) (AH 54 [(5,.dat ze v5),(6,.dat zm v6),(7,.dat i64 v7),(8,.dat i64 v8),(9,.dat i64 v9)] [] 0)
theorem C9(v5:List UInt8)(v6:Bool):stepT Ms (L3 v5 v6)=let a':Tr:=.leaf (.tup [.dat i64 (0:Int),.dat i64 (0:Int),.bl false]) [];let b':=AV v5;.ite (decide (length v5≤1000000)) (.ite (decide (AV v5>9)) a' (.ite (decide (zc .i64 ((length v5:Int)-AV v5)>10)) a' (.ite (decide (0≤AV v5)&&decide (0≤toNat b')&&decide (toNat b'≤length v5)) (.ite (DB (take (toNat b') v5)) (L5 v5 v6 b' (Bu (take (toNat b') v5)) 1) .fail) .fail))) .fail:=by kernel_rfl
def L6(v5:List UInt8)(v7 v8 v9:Int):Tr:=re ((stepT Ms (L4 [])).L.R.R.L.L) (AH 54 [(5,.dat ze v5),(6,.bl false),(7,.dat i64 v7),(8,.dat i64 v8),(9,.dat i64 v9)] [] 0)
theorem Dp(v5:List UInt8):stepT Ms (L4 v5)=let a':Tr:=.leaf (.tup [.dat i64 (0:Int),.dat i64 (0:Int),.bl false]) [];let b':=AV v5;.ite (decide (length v5≤1000000)) (.ite (decide (AV v5>9)) a' (.ite (decide (zc .i64 ((length v5:Int)-AV v5)>10)) a' (.ite (decide (0≤AV v5)&&decide (0≤toNat b')&&decide (toNat b'≤length v5)) (.ite (DB (take (toNat b') v5)) (L6 v5 b' (Bu (take (toNat b') v5)) 1) .fail) .fail))) .fail:=by kernel_rfl
def L7(v6:Bool)(v8 v9:Int):Tr:=re ((stepT Ms (L5 [] false 0 0 0)).L.L.L) (AH 54 [(6,.dat zm v6),(8,.dat i64 v8),(9,.dat i64 v9)] [] 0)
theorem Gr(v5:List UInt8)(v6:Bool)(v7 v8 v9:Int):stepT Ms (L5 v5 v6 v7 v8 v9)=let b':=zc .i64 (v7+1);let a':=take (yb (length v5) (toNat b')) (drop (toNat b') v5);.ite (decide (v7<(length v5:Int))) (.ite (decide (0≤zc .i64 (v7+1))&&true&&decide (toNat b'≤length v5)&&decide (length v5≤length v5)) (.ite (DB a') (L7 v6 v8 (Bu a')) .fail) .fail) (L7 v6 v8 v9):=by kernel_rfl
def L8(v8 v9:Int):Tr:=re ((stepT Ms (L6 [] 0 0 0)).L.L.L) (AH 54 [(6,.bl false),(8,.dat i64 v8),(9,.dat i64 v9)] [] 0)
theorem Hg(v5:List UInt8)(v7 v8 v9:Int):stepT Ms (L6 v5 v7 v8 v9)=let b':=zc .i64 (v7+1);let a':=take (yb (length v5) (toNat b')) (drop (toNat b') v5);.ite (decide (v7<(length v5:Int))) (.ite (decide (0≤zc .i64 (v7+1))&&true&&decide (toNat b'≤length v5)&&decide (length v5≤length v5)) (.ite (DB a') (L8 v8 (Bu a')) .fail) .fail) (L8 v8 v9):=by kernel_rfl
theorem FT(v6:Bool)(v8 v9:Int):stepT Ms (L7 v6 v8 v9)=.ite v6 (.leaf (.tup [.dat i64 (zc .i64 (0-v8)),.dat i64 v9,.bl true]) []) (.leaf (.tup [.dat i64 v8,.dat i64 v9,.bl true]) []):=by kernel_rfl
theorem I5(v8 v9:Int):stepT Ms (L8 v8 v9)=.leaf (.tup [.dat i64 v8,.dat i64 v9,.bl true]) []:=by kernel_rfl
end T95
end
end Go.Pe
end
section
namespace Go.Pe
open Sp
open Go.Det
noncomputable section
open List Int Prod
namespace T100
def T(a:List UInt8):Tr:=tree IT false 9 100 (Ah ([ze]) a)
theorem Am(a:List UInt8):T a=let a':Tr:=.ite (decide (1≤length a)&&decide (length a≤length a)) (.leaf (.dat ze (take (yb (length a) 1) (drop 1 a))) []) .fail;let b':Tr:=.ite false a' (.leaf (.dat ze a) []);.ite (a==[(48:UInt8)]) b' (.ite (decide ((length a:Int)>0)) (.ite (decide (0<(length a:Int))) (.ite ((↑(UInt8.toNat (getD a 0 (0:UInt8))):Int)==45) (.ite true a' (.leaf (.dat ze a) [])) b') .fail) b'):=by kernel_rfl
end T100
namespace T101
def T(a:List UInt8):Tr:=tree uJ false 9 101 (Ah ([ze]) a)
theorem Am(a:List UInt8):T a=.ite (decide (length a≤1000000)) (.ite (decide (0≤AV a)&&decide (0≤toNat (AV a))&&decide (toNat (AV a)≤length a)) (.leaf (.dat ze (take (toNat (AV a)) a)) []) .fail) .fail:=by kernel_rfl
end T101
namespace T102
def T(a:List UInt8):Tr:=tree uJ false 9 102 (Ah ([ze]) a)
theorem Am(a:List UInt8):T a=let a':=zc .i64 (AV a+1);.ite (decide (length a≤1000000)) (.ite (AV a==(length a:Int)) (.leaf (.dat ze [(49:UInt8)]) []) (.ite (decide (0≤zc .i64 (AV a+1))&&true&&decide (toNat a'≤length a)&&decide (length a≤length a)) (.leaf (.dat ze (take (yb (length a) (toNat a')) (drop (toNat a') a))) []) .fail)) .fail:=by kernel_rfl
end T102
namespace T31
def T(a:List UInt8)(n:Int):Tr:=tree xC false 9 31 (Ah ([ze,zp zr]) (a,n))
theorem Am(a:List UInt8)(n:Int):T a n=let a':=decide (length a≤1000000);let b':Tr:=.leaf (.bl false) [];.ite (decide ((length a:Int)≤zc .i64 (zc .i64 (2*n)+2))) (.ite a' (.ite (AP a==0) (.ite a' (.ite (decide (length (Ax a)≤1000000)) (.ite (decide ((↑(length (AY (Ax a))):Int)≤n)) (.ite a' (.leaf (.dat zm (decide ((↑(length (Pk a)):Int)≤n))) []) .fail) b') .fail) .fail) b') .fail) b':=by kernel_rfl
end T31
end
end Go.Pe
end
section
namespace Go.Pe
open Sp
open Go.Det
theorem W6:∀g sp,uJ.sp g=some sp→Ae AT g sp:=Aa T89.ok (fun g sp h=>by cases h)
theorem T100.ok:Ae AT 100 Xn:=by
 refine Av (X:=IT) rfl EP (d:=9) (by kernel_rfl) (by kernel_rfl) (by kernel_rfl) (fun(a:List UInt8) hl=>?_) (Ad (by kernel_rfl));have hl:a.length≤1000000:=of_decide_eq_true hl;have hq:∀s ob,s=AY a→Af Xn a (.dat .str s) ob:=fun s ob h=>zM rfl rfl h
 refine zK (T100.Am a) (zL (fun c=>yg rfl (zl (hq _ _ ?_))) (fun c=>?_))
 ·have c:a=[48]:=by simpa using c
  subst c;rfl
 ·cases a with
  |nil=>exact yg rfl (yg rfl (zl (hq _ _ rfl)))
  |cons x r=>
   have g0:(x::r).getD 0 0=x:=rfl;have e:(List.drop 1 (x::r)).take (yb (x::r).length 1)=r:=by show r.take ((r.length+1)-1)=r;rw[Nat.add_sub_cancel];exact List.take_length
   rw[g0,e];refine zh (by simp) (zh (by simp) (zL (fun d=>zh rfl (zh (by simp) (zl (hq _ _ ?_)))) (fun d=>yg rfl (zl (hq _ _ ?_)))))
   ·have hc:x=45:=by
     have:(x.toNat:Int)=45:=by simpa using d
     exact UInt8.toNat_inj.1 (by show _=45;omega)
    unfold AY;rw[g0,if_pos hc];rfl
   ·have hc:x≠45:=by rintro rfl;exact absurd d (by decide)
    unfold AY;rw[g0,if_neg hc]
theorem T101.ok:Ae AT 101 dE:=by
 refine Av (X:=uJ) rfl W6 (d:=9) (by kernel_rfl) (by kernel_rfl) (by kernel_rfl) (fun(a:List UInt8) hl=>?_) (Ad (by kernel_rfl));have hle:=(T77.CP a).1;refine zK (T101.Am a) (zh hl ?_);rw[show AV a=((Ax a).length:Int)from rfl,zV];exact zh (by simp;omega) (zl (zM rfl rfl (BC a).1.symm))
theorem T102.ok:Ae AT 102 Xv:=by
 refine Av (X:=uJ) rfl W6 (d:=9) (by kernel_rfl) (by kernel_rfl) (by kernel_rfl) (fun(a:List UInt8) hl=>?_) (Ad (by kernel_rfl));have hl':a.length≤1000000:=of_decide_eq_true hl;obtain⟨c1,c2,c3⟩:=BC a;have hq:∀s ob,s=Pk a→Af Xv a (.dat .str s) ob:=fun s ob h=>zM rfl rfl h
 have hle:=(T77.CP a).1;have es:AV a=((Ax a).length:Int):=rfl;refine zK (T102.Am a) (zh hl ?_);rw[es];cases hc:Bk a with
 |false=>
  refine zh (by rw[(c3 hc).1];simp) (zl (hq _ _ ?_));unfold Pk;rw[hc];rfl
 |true=>
  obtain⟨k1,k2⟩:=c2 hc;have e1:zc .i64 (((Ax a).length:Int)+1)=(((Ax a).length+1:Nat):Int):=by rw[wr _ (by omega) (by omega)];omega
  have e2:(a.drop ((Ax a).length+1)).take (yb a.length ((Ax a).length+1))=a.drop ((Ax a).length+1):=ym (by rw[List.length_drop];exact zO _);rw[e1,zV,e2];refine yg (by simp;omega) (zh (by simp;omega) (zl (hq _ _ ?_)));unfold Pk;rw[hc,k2];rfl
theorem iC:∀g sp,xC.sp g=some sp→Ae AT g sp:=Aa T24.ok (Aa T100.ok (Aa T101.ok (Aa T102.ok (fun g sp h=>by cases h))))
theorem T31.ok:Ae AT 31 dR:=by
 refine Av (X:=xC) rfl iC (d:=9) (by kernel_rfl) (by kernel_rfl) (by kernel_rfl) (fun(i:List UInt8×Int) hi=>?_) (Ad (by kernel_rfl));obtain⟨a,n⟩:=i;have hi:(decide (0≤n)&&decide (n≤1000))=true:=hi;rw[zk,decide_eq_true_eq,decide_eq_true_eq]at hi;obtain⟨h0,h1⟩:=hi;have hq:∀v b ob,v=.bl b∨v=.dat .bool b→b=Jl a n→Af dR (a,n) v ob:=by
  rintro v b ob (rfl|rfl) hb
  ·exact zM rfl rfl hb
  ·exact zM rfl rfl hb
 have e1:zc .i64 (zc .i64 (2*n)+2)=2*n+2:=by rw[wr (2*n) (by omega) (by omega)];exact wr _ (by omega) (by omega)
 have hle:=(T77.CP a).1;refine zK (T31.Am a n) ?_;conv=>zeta
 rw[e1];by_cases hl:a.length≤1000000
 case neg=>
  have c:decide ((a.length:Int)≤2*n+2)=false:=decide_eq_false (by omega);refine yg c (zl (hq _ _ _ (.inl rfl) ?_));unfold Jl;rw[c];rfl
 refine zL (fun c=>zh (decide_eq_true hl) (zL (fun d=>zh (decide_eq_true hl) (zh (decide_eq_true (by omega)) (zL (fun e=>zh (decide_eq_true hl) (zl (hq _ _ _ (.inr rfl) ?_))) (fun e=>zl (hq _ _ _ (.inl rfl) ?_))))) (fun d=>zl (hq _ _ _ (.inl rfl) ?_)))) (fun c=>zl (hq _ _ _ (.inl rfl) ?_))
 ·have d:AP a=0:=by simpa using d
  unfold Jl;rw[c,e,decide_eq_true d];rfl
 ·unfold Jl;rw[e];simp
 ·have d:AP a≠0:=by simpa using d
  unfold Jl;rw[decide_eq_false d];simp
 ·unfold Jl;rw[c];rfl
end Go.Pe
end
