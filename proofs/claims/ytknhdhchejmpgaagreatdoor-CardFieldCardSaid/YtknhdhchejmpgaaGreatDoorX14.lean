import Derived.Test.YtknhdhchejmpgaaGreatDoorX10
import Derived.Test.YtknhdhchejmpgaaGreatDoorX13
import Derived.Test.YtknhdhchejmpgaaGreatDoorX09
import Derived.Test.YtknhdhchejmpgaaGreatDoorX12
/- A part of a proof (no law is stated here). Made by program out of texts by AI agents. -/
open Go.IntKind renaming wrap → zc, u64 → zo, i64 → zD
open Go.Pe.Ends renaming tt → zd, leaf → zg, ff → zp, ite → zq, eq → zr, As → zQ
open Go.Pe.Sh renaming str → ze, list → zi, bool → zj, int → zy, pair → zz, nlist → zB
open Go.Lib renaming decDigits → zf, itoa → zt, decDigits_length → zF, decDigits_one → zN
open Bool renaming and_eq_true → zh, true_and → zS, or_eq_true → yk
open Int renaming natAbs_natCast → zk, toNat_natCast → zm, eq_ofNat_of_zero_le → zA, tmod → zG, lt_of_lt_of_le → zL, natCast_pow → zM, natAbs_mul → zO, natCast_nonneg → zV, tdiv → zW, ofNat_lt → yb, natAbs_sign_of_ne_zero → yc, tmod_eq_emod_of_nonneg → ye
open Nat renaming add → zl, le_refl → zE, lt_of_lt_of_le → zI, sub → zK, pow_le_pow_right → zP, lt_of_le_of_lt → zU, pow_succ → ya, div_le_self → yj, mod_lt → yn
open List renaming length_cons → zn, length_append → zx, take_of_length_le → zC, length_drop → zH, length_flatten → zR, all → yd, append_assoc → yf, take → yh, length → ym, drop → yo
open Go.Sp renaming vI → zu, first → zT, rN → zX, rW → zY, AL → zZ, D5 → z7, Ec → yg
open Go.Pe.Af renaming of → zw
open Rat renaming num_divInt_den → zJ, num_eq_zero → z8, divInt → yi
open UInt8 renaming ofNat → z6
section
namespace Go.Sp
theorem EY{n d:Int}(hd:d≠0):(yi n d).num.natAbs≤n.natAbs∧(yi n d).den≤d.natAbs:=by
 rw[Rat.num_divInt,Rat.den_divInt,if_neg hd];refine⟨?_,yj _ _⟩;refine Nat.le_trans (Int.natAbs_ediv_le_natAbs _ _) ?_;rw[zO,yc hd,Nat.one_mul];exact zE _
theorem Jz{n d:Int}{k:Nat}(hd:d≠0)(h1:n.natAbs<10^k)(h2:d.natAbs<10^k):F7 k (yi n d):=
 ⟨zU (EY hd).1 h1,zU (EY hd).2 h2⟩
theorem F7.mono{j k:Nat}{q:Rat}(h:F7 j q)(hk:j≤k):F7 k q:=
 ⟨zI h.1 (zP (by decide) hk),zI h.2 (zP (by decide) hk)⟩
theorem Di{a b i j:Nat}(h1:a<10^i)(h2:b<10^j):a*b<10^(i+j):=by
 rw[Nat.pow_add];exact zU (Nat.mul_le_mul_left _ (Nat.le_of_lt h2)) ((Nat.mul_lt_mul_right (Nat.pow_pos (by decide))).2 h1)
theorem HS(q:Rat):(q.den:Int)≠0:=by have:=q.den_pos;omega
theorem F7.mul{p q:Rat}{i j:Nat}(hp:F7 i p)(hq:F7 j q):F7 (i+j) (p*q):=by
 have h:=Rat.divInt_mul_divInt p.num q.num (d₁:=p.den) (d₂:=q.den);rw[zJ,zJ]at h;rw[h];refine Jz ?_ ?_ ?_
 ·exact Int.mul_ne_zero (HS p) (HS q)
 ·rw[zO];exact Di hp.1 hq.1
 ·rw[zO,zk,zk];exact Di hp.2 hq.2
theorem F7.add{p q:Rat}{i j:Nat}(hp:F7 i p)(hq:F7 j q):F7 (i+j+1) (p+q):=by
 have h:=Rat.divInt_add_divInt p.num q.num (HS p) (HS q);rw[zJ,zJ]at h;rw[h];have a1:=Di hp.1 hq.2;have a2:=Di hq.1 hp.2;have a3:=Di hp.2 hq.2;rw[Nat.add_comm]at a2;refine Jz (Int.mul_ne_zero (HS p) (HS q)) ?_ ?_
 ·refine zU (Int.natAbs_add_le _ _) ?_;rw[zO,zO,zk,zk,ya];omega
 ·rw[zO,zk,zk,ya];omega
theorem F7.neg{q:Rat}{k:Nat}(h:F7 k q):F7 k (-q):=by
 unfold F7 at*;rw[Rat.neg_num,Rat.neg_den,Int.natAbs_neg];exact h
theorem F7.sub{p q:Rat}{i j:Nat}(hp:F7 i p)(hq:F7 j q):F7 (i+j+1) (p-q):=by
 rw[Rat.sub_eq_add_neg];exact hp.add hq.neg
theorem F7.inv{q:Rat}{k:Nat}(h:F7 k q)(h0:q≠0):F7 k q⁻¹:=by
 have e:=Rat.inv_divInt q.num q.den;rw[zJ]at e;rw[e];exact Jz (fun x=>h0 (z8.mp x)) (by rw[zk];exact h.2) h.1
theorem F7.div{p q:Rat}{i j:Nat}(hp:F7 i p)(hq:F7 j q)(h0:q≠0):F7 (i+j) (p/q):=by
 rw[Rat.div_def];exact hp.mul (hq.inv h0)
def LW(n:Int):Bool:=decide (600<(zf n.natAbs).length)
def IT(q:Rat):Bool:=LW q.num||LW q.den
theorem DB{u k:Nat}(h:u<10^k)(hk:1≤k):(zf u).length≤k:=by
 rw[zF];obtain⟨j,rfl⟩:∃j,k=j+1:=⟨k-1,by omega⟩;exact Go.Pe.MN j u h
theorem CB(u:Nat){k:Nat}(h:(zf u).length≤k):u<10^k:=by
 rw[zF]at h;exact zI (Lib.lt_pow_nDigits u) (zP (by decide) h)
theorem Uz{q:Rat}:IT q=false↔F7 600 q:=by
 unfold IT LW F7;rw[Bool.or_eq_false_iff,decide_eq_false_iff_not,decide_eq_false_iff_not];refine⟨fun h=>⟨CB (k:=600) _ (by omega),?_⟩,fun h=>⟨?_,?_⟩⟩
 ·have:=CB (q.den:Int).natAbs (k:=600) (by omega);rw[zk]at this;exact this
 ·have:=DB h.1 (by decide);omega
 ·have:=DB h.2 (by decide);rw[zk];omega
theorem Nb{q:Rat}{k:Nat}(h:F7 k q)(hk:1≤k):(AX q).length≤2*k+2:=by
 have h1:=DB h.1 hk;have h2:=DB h.2 hk;have h3:(zt q.num).length≤k+1:=by
  unfold zt;split
  ·rw[zn];omega
  ·rw[show q.num.toNat=q.num.natAbs by omega];omega
 unfold AX;split
 ·omega
 ·rw[zx,zn];omega
def BJ(s:List UInt8):Bool:=decide (AX (A2 s)=s)&&decide (s.length≤4000)
theorem Iy{s:List UInt8}(h:BJ s=true):AX (A2 s)=s∧s.length≤4000:=by
 unfold BJ at h;rwa [zh,decide_eq_true_eq,decide_eq_true_eq]at h
theorem PI{q:Rat}{k:Nat}(h:F7 k q)(hk:k≤1999):BJ (AX q)=true:=by
 have hl:=Nb (h.mono hk) (by decide);unfold BJ;rw[DL,decide_eq_true rfl,decide_eq_true (by omega)];rfl
theorem N9{s:List UInt8}(h:A1 s=0):BJ s=true∧F7 600 (A2 s):=by
 obtain⟨h1,_,_,h4⟩:=K3 h;exact⟨by rw[←h1];exact PI h4 (by decide),h4⟩
theorem QW{s:List UInt8}(h:BJ s=true):F7 4000 (A2 s):=by
 obtain⟨h1,h2⟩:=Iy h;have e:(AX (A2 s)).length≤4000:=by rw[h1];exact h2
 generalize A2 s=q at*;have a:=CB q.num.natAbs (zE _);have b:=CB q.den (zE _);have h3:(zf q.num.natAbs).length≤(zt q.num).length:=by
  unfold zt;split
  ·rw[zn];omega
  ·rw[show q.num.toNat=q.num.natAbs by omega];exact zE _
 unfold AX at e;split at e
 ·next c=>exact⟨CB (k:=4000) _ (by omega),by rw[c];exact N5 4000 (by decide)⟩
 ·rw[zx,zn]at e;exact⟨CB (k:=4000) _ (by omega),CB (k:=4000) _ (by omega)⟩
theorem UD{q:Rat}:A1 (AX q)=if IT q=true then 4 else 0:=by
 obtain⟨c1,c2,c3⟩:=E9 q;obtain⟨p1,p2,p3,p4⟩:=Ri (AX q);obtain⟨i1,i2,i3,i4⟩:=C2 q.num;have hA:Aw (AU (AX q))=zf q.num.natAbs:=by rw[p1,c1,i2]
 have hB:AL (AU (AX q))=if q.den=1 then[]else zf q.den:=by rw[p2,c2]
 have hC:Bk (AU (AX q))=decide (q.den≠1):=by rw[p3,c3]
 have hP:preB (AX q)=decide (q.num<0):=by rw[←p4,c1,i3]
 have h48:∀n:Nat,zf n=[48]→n=0:=fun n h=>by
  have:=GS n;rw[h]at this;have:(0:Int)=n:=this;omega
 have h49:∀n:Nat,zf n=[49]→n=1:=fun n h=>by
  have:=GS n;rw[h]at this;have:(1:Int)=n:=this;omega
 have hd:=q.den_pos;have hf:FL (AX q)=true:=by
  unfold FL;rw[hA,hB,hC,hP,SC,zS,zh];refine⟨?_,?_⟩
  ·by_cases h:q.num<0
   ·have z:zf q.num.natAbs≠[48]:=fun k=>by have:=h48 _ k;omega
    rw[decide_eq_true h,decide_eq_true z];rfl
   ·rw[decide_eq_false h];rfl
  ·by_cases h:q.den=1
   ·rw[decide_eq_false (not_not_intro h)];rfl
   ·have z:zf q.den≠[48]:=fun k=>by have:=h48 _ k;omega
    have y:zf q.den≠[49]:=fun k=>h (h49 _ k)
    rw[decide_eq_true h,if_neg h,SC,decide_eq_true z,decide_eq_true y];rfl
 unfold A1;rw[if_neg (by rw[hf];decide),hA,hB,hC];have hb:IT q=true↔600<(zf q.num.natAbs).length∨600<(if q.den=1 then([]:List UInt8)else zf q.den).length:=by
  unfold IT LW;rw[yk,decide_eq_true_eq,decide_eq_true_eq,zk];by_cases h:q.den=1
  ·rw[if_pos h,h,zN (show 1<10 by decide)];simp
  ·rw[if_neg h]
 by_cases h:IT q=true
 ·rw[if_pos (hb.1 h),if_pos h]
 ·rw[if_neg (fun k=>h (hb.2 k)),if_neg h];refine if_neg fun k=>?_
  obtain⟨k1,k2⟩:=k;have k1:q.den≠1:=of_decide_eq_true k1;apply k2;unfold jF hZ;rw[hA,hB,if_neg k1,GS,GS,Fc];have hr:=q.reduced;have:Int.gcd ((q.num.natAbs:Nat):Int) (q.den:Int)=1:=hr;rw[this];rfl
theorem Ps(q:Rat):Gs (AX q)=RX q.num:=by
 have h0:AX q=[48]↔q=0:=by
  have:AX (0:Rat)=[48]:=by
   unfold AX;rw[if_pos (show Rat.den 0=1 from rfl)];show zt 0=[48];unfold zt;rw[if_neg (by decide),show(0:Int).toNat=0 from rfl,zN (by decide)];rfl
  rw[←this];exact⟨Pg,fun h=>by rw[h]⟩
 unfold Gs RX;by_cases hz:q=0
 ·rw[if_pos (h0.2 hz),hz];rfl
 ·rw[if_neg (fun h=>hz (h0.1 h))];have hn:q.num≠0:=fun h=>hz (z8.mp h)
  have hg:(AX q).getD 0 0=(zt q.num).getD 0 0:=by
   unfold AX;split
   ·rfl
   ·have:zt q.num≠[]:=by unfold zt;split;exact List.cons_ne_nil _ _;exact RM _
    cases hi:zt q.num with
    |nil=>exact absurd hi this
    |cons c r=>rfl
  rw[hg];unfold zt;by_cases h:q.num<0
  ·rw[if_pos h,if_pos h];rfl
  ·rw[if_neg h,if_neg h,if_neg (EZ (Dr _)),if_pos (by omega)]
theorem S0(n:Int)(h:n≠0):zt (-n)=if n<0 then(zt n).drop 1 else 45::zt n:=by
 unfold zt;by_cases c:n<0
 ·rw[if_neg (by omega),if_pos c,if_pos c,show(-n).toNat=n.natAbs by omega];rfl
 ·rw[if_pos (by omega),if_neg c,if_neg c,show(-n).natAbs=n.toNat by omega]
theorem Zm(q:Rat):JG (AX q)=AX (-q):=by
 have hs:=Ps q;unfold Gs at hs;unfold JG;by_cases h0:AX q=[48]
 ·rw[if_pos h0]at hs ⊢;have:q.num=0:=by
   unfold RX at hs;split at hs
   ·exact absurd hs (by decide)
   ·split at hs
    ·exact absurd hs (by decide)
    ·omega
  have:q=0:=z8.mp this;rw[this];rfl
 ·rw[if_neg h0]at hs ⊢;have hn:q.num≠0:=by
   intro h;rw[h]at hs;split at hs<;>exact absurd hs (by decide)
  have e:AX (-q)=if q.num<0 then(AX q).drop 1 else 45::AX q:=by
   unfold AX;rw[Rat.neg_num,Rat.neg_den,S0 _ hn];by_cases c:q.num<0
   ·rw[if_pos c,if_pos c];have:zt q.num=45::zf q.num.natAbs:=by unfold zt;rw[if_pos c]
    rw[this];split<;>rfl
   ·rw[if_neg c,if_neg c];split<;>rfl
  rw[e];unfold RX at hs;by_cases c:q.num<0
  ·rw[if_pos c]at hs ⊢;split at hs
   ·next k=>rw[if_pos k]
   ·exact absurd hs (by decide)
  ·rw[if_neg c,if_pos (show q.num>0 by omega)]at hs;rw[if_neg c];split at hs
   ·exact absurd hs (by decide)
   ·next k=>rw[if_neg k]
end Go.Sp
end
section
namespace Go.Sp
open Go.Lib
theorem Lg:∀(f n l:Nat) (acc:List UInt8),l≤acc.length→n<10^f→G3 f n l acc=if n=0 then acc else decDigits n++acc
 |0,n,l,acc,_,hn=>by rw[Nat.pow_zero]at hn;rw[if_pos (by omega)];rfl
 |f+1,n,l,acc,hl,hn=>by
  rw[ya]at hn;unfold G3;by_cases h:n=0
  ·rw[if_pos ⟨h,hl⟩,if_pos h]
  ·rw[if_neg (fun k=>h k.1),if_neg h,Lg f (n/10) l _ (by rw[zn];omega) (by omega)];by_cases h2:n/10=0
   ·rw[if_pos h2,decDigits_one (by omega),show n % 10=n by omega];rfl
   ·have e:=Fh (n/10) (n % 10) (by omega) (by omega);rw[show 10*(n/10)+n % 10=n by omega]at e;rw[if_neg h2,e,yf];rfl
theorem cO{d:Nat}(h:d<10):Fq 1 d=[z6 (48+d)]:=by
 unfold Fq;rw[nDigits_small h,decDigits_one h];rfl
theorem SQ:∀(k f n l:Nat) (acc:List UInt8),acc.length+(k+1)=l→n<10^(k+1)→k+1≤f→G3 f n l acc=Fq (k+1) n++acc
 |k,0,n,l,acc,_,_,h=>by omega
 |0,f+1,n,l,acc,hl,hn,_=>by
  unfold G3;rw[if_neg (by omega),cO (by omega),Lg f (n/10) l _ (by rw[zn];omega) (by rw[show n/10=0 by omega];exact Nat.pow_pos (by decide)),if_pos (by omega),show n % 10=n by omega];rfl
 |k+1,f+1,n,l,acc,hl,hn,hf=>by
  rw[ya]at hn;have e:=Pp (k+1) (n/10) (n % 10) (by omega) (by omega);rw[show 10*(n/10)+n % 10=n by omega]at e;unfold G3;rw[if_neg (by omega),SQ k f (n/10) l _ (by rw[zn];omega) (by omega) (by omega),e,yf];rfl
theorem MX{n:Int}(h0:0≤n)(h1:n<9223372036854775808):Hn n 1=decDigits n.toNat:=by
 show G3 64 n.toNat 1 []=_;unfold G3;rw[if_neg (by simp)];rw[Lg 63 (n.toNat/10) 1 _ (by simp) (by omega)];by_cases h:n.toNat<10
 ·rw[if_pos (by omega),decDigits_one h,show n.toNat % 10=n.toNat by omega]
 ·have e:=Fh (n.toNat/10) (n.toNat % 10) (by omega) (by omega);rw[show 10*(n.toNat/10)+n.toNat % 10=n.toNat by omega]at e;rw[if_neg (by omega),e]
theorem X3{n:Int}(h0:0≤n)(h1:n<1000000000):Hn n 9=Fq 9 n.toNat:=by
 show G3 64 n.toNat 9 []=_;rw[SQ 8 64 n.toNat 9 [] rfl (by omega) (by decide),List.append_nil]
def CQ(n d:Int):List UInt8:=AX (yi n d)
theorem X8(n:Int):itoa n=(if n<0 then[45]else[])++decDigits n.natAbs:=by
 unfold itoa;split
 ·rfl
 ·rw[show n.toNat=n.natAbs by omega];rfl
end Go.Sp
end
section
namespace Go.Sp
def vR(a:Bool×List Int):Int:=if a.1=true then -Aq a.2 else Aq a.2
def CA(a:Bool×List Int):Bool:=A3 a.2&&decide (a.2.length≤3000)&&(!a.1||decide (a.2≠[]))
def Hd(l:List Int)(i:Int):Int:=l.getD i.toNat 0
def fH(a b:List Int):Bool:=A3 a&&A3 b&&decide (a.length≤9000)&&decide (b.length≤9000)
def Lp(a b:List Int):List Int:=BM (Aq a+Aq b)
def FT(a b:List Int):List Int:=BM (Aq a-Aq b)
def LH(a b:Bool×List Int):Bool:=rN (vR a+vR b)
def LY(a b:Bool×List Int):List Int:=rW (vR a+vR b)
def GV(a b:Bool×List Int):Bool:=rN (vR a*vR b)
def G2(a b:Bool×List Int):List Int:=rW (vR a*vR b)
def QE(a:Bool×List Int):Bool:=rN (-vR a)
def QQ(a:Bool×List Int):List Int:=rW (-vR a)
def I1(a:Bool×List Int):List UInt8:=AT (vR a)
def Hj(n d:Bool×List Int):List UInt8:=CQ (vR n) (vR d)
def aD(a:List UInt8):Int:=if DE a=true then H8 a else 0
def Tm(a:List UInt8):Int:=if DE a=true then QA a else 0
def Lo(a b:List UInt8):List UInt8:=AX (A2 a+A2 b)
def Mp(a b:List UInt8):List UInt8:=AX (A2 a-A2 b)
def NJ(a b:List UInt8):List UInt8:=AX (A2 a*A2 b)
def Pf(a:List UInt8):List UInt8:=AX (A2 a)⁻¹
def Sx(a b:List UInt8):List UInt8:=AX (A2 a/A2 b)
def TE(a b:List UInt8):Int:=if A2 a<A2 b then -1 else if A2 b<A2 a then 1 else 0
def EF(a:List UInt8):Int:=if 600<(AU (Aw a)).length∨600<(O7 a).length then 4 else 0
def Hm(a:List UInt8):Bool:=BJ a&&decide (a.length≤3000)
def fG(a:List UInt8):Bool:=Hm a&&decide (A2 a≠0)
end Go.Sp
namespace Go.Pe
open Sp
open Go.Det
noncomputable section
noncomputable def Va:Ao:=⟨[li,i64],fun i=>decide (0≤(i.2:Int)),[i64],fun i=>Hd i.1 i.2,false⟩
noncomputable def UR:Ao:=⟨[li,li],fun i=>fH i.1 i.2,[li],fun i=>Lp i.1 i.2,false⟩
noncomputable def Vw:Ao:=⟨[li,li],fun i=>fH i.1 i.2&&decide (Aq i.2≤Aq i.1),[li],fun i=>FT i.1 i.2,false⟩
noncomputable def aQ:Ao:=⟨[IS,IS],fun i=>CA i.1&&CA i.2,[IS],fun i=>(LH i.1 i.2,LY i.1 i.2),false⟩
noncomputable def V4:Ao:=⟨[IS,IS],fun i=>CA i.1&&CA i.2,[IS],fun i=>(GV i.1 i.2,G2 i.1 i.2),false⟩
noncomputable def Wx:Ao:=⟨[IS],fun a=>CA a,[IS],fun a=>(QE a,QQ a),false⟩
noncomputable def cB:Ao:=⟨[IS],fun a=>CA a,[.str],fun a=>I1 a,false⟩
noncomputable def Lz:Ao:=⟨[IS,IS],fun i=>CA i.1&&CA i.2&&decide (Sp.vR i.2≠0),[.str],fun i=>Hj i.1 i.2,false⟩
noncomputable def eB:Ao:=⟨[i64,i64],fun i=>CS i.1&&CS i.2&&decide ((i.2:Int)≠0),[.str],fun i=>CQ i.1 i.2,false⟩
noncomputable def Mv:Ao:=⟨[.str],fun s=>BJ s,[i64,i64,.bool],fun s=>(aD s,Tm s,DE s),false⟩
noncomputable def SP:Ao:=⟨[.str,.str],fun i=>BJ i.1&&BJ i.2,[.str],fun i=>Lo i.1 i.2,false⟩
noncomputable def ZX:Ao:=⟨[.str,.str],fun i=>BJ i.1&&Hm i.2,[.str],fun i=>Mp i.1 i.2,false⟩
noncomputable def TX:Ao:=⟨[.str,.str],fun i=>BJ i.1&&BJ i.2,[.str],fun i=>NJ i.1 i.2,false⟩
noncomputable def lZ:Ao:=⟨[.str],fun s=>fG s,[.str],fun s=>Pf s,false⟩
noncomputable def mD:Ao:=⟨[.str,.str],fun i=>BJ i.1&&fG i.2,[.str],fun i=>Sx i.1 i.2,false⟩
noncomputable def mP:Ao:=⟨[.str,.str],fun i=>BJ i.1&&Hm i.2,[i64],fun i=>TE i.1 i.2,false⟩
noncomputable def RK:Ao:=⟨[.str],fun s=>decide (s.length≤1000000),[i64],fun s=>EF s,false⟩
noncomputable def vT:A9:=X7 []
noncomputable def RZ:A9:=X7 [(229,Va),(227,QJ)]
noncomputable def nO:A9:=X7 [(168,H7),(169,UR),(170,WW),(171,Vw),(172,Wf),(164,Pn)]
noncomputable def sU:A9:=X7 [(109,Nc)]
noncomputable def aB:A9:=fJ [(96,[3,7,9])] [] [(96,[(3,[2,3]),(7,[8,10]),(9,[8,10])])] [(166,Wx),(92,Kg),(164,Pn),(168,H7),(167,cB)]
noncomputable def Xy:A9:=fJ [(36,[3,5,7,11])] [] [(36,[(3,[0,1]),(5,[0,1]),(7,[0,1]),(11,[1,6])])] [(107,JR),(96,Lz),(108,mY),(109,Nc)]
noncomputable def bU:A9:=fJ [(27,[5]),(29,[5])] [] [(27,[(5,[0,1])]),(29,[(5,[0,1])])] [(95,Mv),(36,eB),(91,Rd),(97,aQ),(98,V4),(96,Lz)]
noncomputable def tS:A9:=X7 [(94,lZ),(29,TX),(27,SP),(99,fC)]
noncomputable def tT:A9:=X7 [(28,ZX),(41,Qv),(89,Lf),(100,Xd),(101,dI),(102,V6)]
end
noncomputable def Re:Ao:=⟨[],fun _=>true,[.bool],fun _=>true,false⟩
theorem TP:Ae AS 17 Re:=by
 refine .uT ⟨by kernel_rfl,Ad (by kernel_rfl),fun F h args i hfz hlt hgh hargs _=>?_⟩;have ha:args=[]:=by
  have:=hargs (fun _=>none) 0;simpa [Ah,Re]using this
 subst ha;refine⟨[(.bool true,h)],1,fun m hm=>?_,fun _=>⟨_,rfl⟩,fun x hx=>?_⟩
 ·obtain⟨m',rfl⟩:∃m',m=m'+1:=⟨m-1,by omega⟩;have hq:AS.spec 17=some fun args h=>bif iN h Fu then(match HE A7 17 args with|some v=>some (v,h)|none=>none)else none:=rfl
  rw[Bf];simp only[hq,pG hgh,cond_true];rfl
 ·cases List.mem_singleton.1 hx;exact⟨zE _,fun _ _=>rfl,hlt,F,fun _ _ h=>h,fun _ _ h=>.inl h,hfz,fun ρ N=>Ds _⟩
end Go.Pe
end
section
namespace Go.Sp
def NV(a:AR):Int:=if Bp (Ag (vI a))=[]then 0 else 64*((Bp (Ag (vI a))).length-1)+Er ((Bp (Ag (vI a))).getD ((Bp (Ag (vI a))).length-1) 0)
def D0(a:AR):Bool:=LW (vI a)
def Hx(a:AA):Bool:=D0 a.1||D0 a.2
def I3(a:AA):List UInt8:=if Cz a.2=true then AT (vI a.1)else AT (vI a.1)++47::AT (vI a.2)
def Mf(a:AA):List UInt8:=if Hx a=true then[]else I3 a
def Mj(a:AA):Int:=if Hx a=true then 4 else 0
def BK:List (List UInt8)→Int
 |[]=>0
 |s::l=>if A1 s≠0 then A1 s else BK l
def vB(a:AA):Int:=RX (vI a.1)
def BG(a b:List UInt8):Int:=BK [a,b]
def TZ(e:Int)(q:Rat):List UInt8:=if e≠0 then[]else if IT q=true then[]else AX q
def SD(e:Int)(q:Rat):Int:=if e≠0 then e else if IT q=true then 4 else 0
def BE(a b:List UInt8):List UInt8:=TZ (BG a b) (A2 a+A2 b)
def DG(a b:List UInt8):Int:=SD (BG a b) (A2 a+A2 b)
def Je(a b:List UInt8):List UInt8:=TZ (BG a b) (A2 a-A2 b)
def Jb(a b:List UInt8):Int:=SD (BG a b) (A2 a-A2 b)
def CO(a b:List UInt8):List UInt8:=TZ (BG a b) (A2 a*A2 b)
def EM(a b:List UInt8):Int:=SD (BG a b) (A2 a*A2 b)
def Gn(a b:List UInt8):Int:=if BG a b≠0 then BG a b else if b=[48]then 6 else 0
def Ky(a b:List UInt8):List UInt8:=TZ (Gn a b) (A2 a/A2 b)
def He(a b:List UInt8):Int:=SD (Gn a b) (A2 a/A2 b)
def Cs(a b:List UInt8):Int:=if BG a b≠0 then 0 else TE a b
def HK(l:List (List UInt8)):Bool:=l.all fun s=>decide (s.length≤1300)
def CH(a:List UInt8)(e:Int)(w:List UInt8)(bad:Int):Bool:=if (if bad=0 then EF w else bad)≠0 then decide (a=[])&&decide (e=(if bad=0 then EF w else bad))else decide (e=0)&&decide (a=w)
def Ju(a b:List UInt8):Bool:=decide (a.length≤1000000)&&decide (b.length≤1000000)
end Go.Sp
namespace Go.Pe
open Sp
open Go.Det
noncomputable section
noncomputable def eG:Ao:=⟨[By],fun a=>A8 a,[i64],fun a=>NV a,false⟩
noncomputable def Wy:Ao:=⟨[By],fun a=>A8 a,[.bool],fun a=>D0 a,false⟩
noncomputable def Qi:Ao:=⟨[.str,.str],fun i=>Ra i.1 i.2,[.str],fun i=>AU i.1,false⟩
noncomputable def V8:Ao:=⟨[BH],fun a=>yg (a:AA),[.bool],fun a=>Hx a,false⟩
noncomputable def ZD:Ao:=⟨[BH],fun a=>yg (a:AA),[.str],fun a=>I3 a,false⟩
noncomputable def VO:Ao:=⟨[BH],fun a=>yg (a:AA),[.str,i64],fun a=>(Mf a,Mj a),false⟩
noncomputable def Wi:Ao:=⟨[.list .str],fun l=>decide (ym (α:=List UInt8) l≤1000)&&yd (α:=List UInt8) l (fun s=>decide (s.length≤1000000)),[i64],fun l=>BK l,false⟩
noncomputable def mH:Ao:=⟨[BH],fun a=>De (a:AA).1,[i64],fun a=>vB a,false⟩
noncomputable def eV:Ao:=⟨[.str,.str],fun i=>Ju i.1 i.2,[.str,i64],fun i=>(BE i.1 i.2,DG i.1 i.2),false⟩
noncomputable def Zy:Ao:=⟨[.str,.str],fun i=>Ju i.1 i.2,[.str,i64],fun i=>(Je i.1 i.2,Jb i.1 i.2),false⟩
noncomputable def eF:Ao:=⟨[.str,.str],fun i=>Ju i.1 i.2,[.str,i64],fun i=>(CO i.1 i.2,EM i.1 i.2),false⟩
noncomputable def bJ:Ao:=⟨[.str,.str],fun i=>Ju i.1 i.2,[.str,i64],fun i=>(Ky i.1 i.2,He i.1 i.2),false⟩
noncomputable def Z8:Ao:=⟨[.str,.str],fun i=>Ju i.1 i.2,[i64,i64],fun i=>(Cs i.1 i.2,BG i.1 i.2),false⟩
noncomputable def cY:Ao:=⟨[.list .str],fun l=>decide (ym (α:=List UInt8) l≤1000),[.bool],fun l=>HK l,false⟩
noncomputable def P4:Ao:=⟨[.str,i64,.str,i64],fun i=>decide (ym (α:=UInt8) i.2.2.1≤1000000),[.bool],fun i=>CH i.1 i.2.1 i.2.2.1 i.2.2.2,false⟩
noncomputable def ZP:A9:=X7 []
noncomputable def vZ:A9:=X7 [(218,NZ),(247,Vk)]
noncomputable def qB:A9:=X7 [(248,eG),(200,oL),(214,Qi)]
noncomputable def rQ:A9:=X7 [(199,Wy),(156,NT),(200,oL)]
noncomputable def pM:A9:=X7 [(131,V8),(132,ZD)]
noncomputable def pT:A9:=X7 [(77,Fy),(173,Jt)]
noncomputable def bN:A9:=X7 [(83,Lx),(85,Wv),(84,Wi),(87,nH),(80,Wr),(81,nD),(82,Zi),(86,mQ),(88,mX),(103,VO),(104,cQ),(105,Uc),(110,mH),(111,cF),(112,ZV),(77,Fy)]
noncomputable def sD:A9:=X7 [(93,RK)]
end
end Go.Pe
end
section
namespace Go.Sp
end Go.Sp
namespace Go.Pe
open Go.Det
noncomputable section
noncomputable def T8:Ao:=⟨[.str,.str],fun _=>true,[.bool],fun _=>true,false⟩
noncomputable def Ue:Ao:=⟨[.str,.str,.str],fun _=>true,[.bool],fun _=>true,false⟩
noncomputable def wB:A9:=X7 [(16,cY),(17,Re),(18,eV),(19,Zy),(20,eF),(21,bJ),(22,Z8),(23,Lx),(24,Fy),(25,P4),(26,mD),(27,SP),(28,ZX),(29,TX),(30,mP)]
noncomputable def vW:A9:=X7 [(31,aL),(17,Re),(18,eV),(19,Zy),(20,eF),(21,bJ),(22,Z8)]
end
end Go.Pe
end
section
namespace Go.Pe
open Sp
open Go.Det
noncomputable section
open List Int Prod
namespace T23
def T(l:List Int):Tr:=tree ZP false 9 23 (Ah ([zi i64]) l)
def L1(v0:List Int)(v3:Int):Tr:=re ((T [])) (AI 19 [(0,.dat (zi i64) v0),(3,.dat i64 v3)] [] 0)
theorem An(l:List Int):T l=L1 l 0:=by kernel_rfl
theorem Au(v0:List Int)(v3:Int):stepT ZP (L1 v0 v3)=let a':=decide (v3<(length v0:Int));.ite (a') (.ite (decide (0≤v3)&&a') (.ite (getD v0 (toNat v3) 0 !=0) (.ite (decide (0≤v3)&&a') (.leaf (.dat i64 (getD v0 (toNat v3) 0)) []) .fail) (L1 v0 (zc .i64 (v3+1)))) .fail) (.leaf (.dat i64 (0:Int)) []):=by kernel_rfl
end T23
namespace T3
def T(a b:List UInt8):Tr:=tree wB false 9 3 (Ah ([ze,ze]) (a,b))
theorem An(a b:List UInt8):T a b=let c':=[(zl 0 1,.arr false 3 i64 [A1 a,A1 b]),(0,.arr false 22 ze [a,b])];let d':=zT [A1 a,A1 b];let e':=decide (1≤1000000);let g':=Ky a b;let h':=He a b;let a':Tr:=.leaf (.bl false) c';let f':Tr:=.ite true (.leaf (.dat zj true) c') .fail;let b':Tr:=.ite (BJ a&&BJ b) (.ite (decide (length (Lo a b)≤1000000)) (.ite (CH (BE a b) (DG a b) (Lo a b) 0) (.ite (BJ a&&Hm b) (.ite (decide (length (Mp a b)≤1000000)) (.ite (CH (Je a b) (Jb a b) (Mp a b) 0) (.ite (BJ a&&BJ b) (.ite (decide (length (NJ a b)≤1000000)) (.ite (CH (CO a b) (EM a b) (NJ a b) 0) (.ite (BJ a&&Hm b) (.ite (Cs a b==TE a b) (.ite (BG a b==0) f' a') a') .fail) a') .fail) .fail) a') .fail) .fail) a') .fail) .fail;.ite (decide (2≤2)&&true&&decide (2≤1000)) (.ite (!HK [a,b]) (.ite true (.leaf (.dat zj true) ([(0,.arr false 22 ze [a,b])])) .fail) (.ite (Ju a b) (.ite (Ju a b) (.ite (Ju a b) (.ite (Ju a b) (.ite (Ju a b) (.ite (decide (length a≤1000000)) (.ite (decide (length b≤1000000)) (.ite (decide (2≤2)&&true&&decide (2≤1000000)) (.ite (zT [A1 a,A1 b] !=0) (.ite e' (.ite (CH (BE a b) (DG a b) [(48:UInt8)] d') (.ite e' (.ite (CH (Je a b) (Jb a b) [(48:UInt8)] d') (.ite e' (.ite (CH (CO a b) (EM a b) [(48:UInt8)] d') (.ite e' (.ite (CH g' h' [(48:UInt8)] d') (.ite (Cs a b==0) (.ite (BG a b==zT [A1 a,A1 b]) f' a') a') a') .fail) a') .fail) a') .fail) a') .fail) (.ite (b==[(48:UInt8)]) (.ite e' (.ite (!CH g' h' [(48:UInt8)] 6) a' b') .fail) (.ite (BJ a&&fG b) (.ite (decide (length (Sx a b)≤1000000)) (.ite (!CH g' h' (Sx a b) 0) a' b') .fail) .fail))) .fail) .fail) .fail) .fail) .fail) .fail) .fail) .fail)) .fail:=by kernel_rfl
end T3
namespace T4
def T(a b c:List UInt8):Tr:=tree vW false 9 4 (Ah ([ze,ze,ze]) (a,b,c))
theorem An(a b c:List UInt8):T a b c=let a':Tr:=.leaf (.bl false) [];let b':Tr:=.ite true (.leaf (.dat zj true) []) .fail;let c':=BE a b;let d':=BE b c;let e':=decide (0≤60)&&decide (60≤1000);let f':=CO a b;let h':=CO a c;let g':=BE c' c;.ite e' (.ite (!Jw a 60) b' (.ite e' (.ite (!Jw b 60) b' (.ite e' (.ite (!Jw c 60) b' (.ite (Ju a b) (.ite (Ju b a) (.ite (Ju c' c) (.ite (Ju b c) (.ite (Ju a d') (.ite (Ju c' b) (.ite (zc .i64 (zc .i64 (zc .i64 (zc .i64 (zc .i64 (DG a b+DG b a)+DG c' c)+DG b c)+DG a d')+Jb c' b) !=0) a' (.ite (!BE a b==BE b a) a' (.ite (!BE c' c==BE a d') a' (.ite (!Je c' b==a) a' (.ite (Ju a b) (.ite (Ju a c) (.ite (Ju f' h') (.ite (Ju a d') (.ite (Ju b a) (.ite (Ju a b) (.ite (Ju g' d') (.ite (Ju a [(48:UInt8)]) (.ite (zc .i64 (zc .i64 (zc .i64 (zc .i64 (zc .i64 (zc .i64 (zc .i64 (EM a b+EM a c)+DG f' h')+EM a d')+EM b a)+BG a b)+BG g' d')+BG a [(48:UInt8)]) !=0) a' (.ite (!BE f' h'==CO a d') a' (.ite (!CO a b==CO b a) a' (.ite (Cs g' d' !=Cs a [(48:UInt8)]) a' (.ite (!(Cs a b==0)==(a==b)) a' (.ite (Ju b a) (.ite (BG b a !=0) a' (.ite (Cs b a !=zc .i64 (0-Cs a b)) a' (.ite (b==[(48:UInt8)]) (.ite (Ju a b) (.ite (He a b==6) b' a') .fail) (.ite (Ju f' b) (.ite (He f' b==0) (.ite (Ky f' b==a) b' a') a') .fail)))) .fail)))))) .fail) .fail) .fail) .fail) .fail) .fail) .fail) .fail))))) .fail) .fail) .fail) .fail) .fail) .fail)) .fail)) .fail)) .fail:=by kernel_rfl
end T4
end
end Go.Pe
end
section
namespace Go.Pe
open Sp
open Go.Det
noncomputable section
open List Int Prod
namespace T111
def T(n:Int):Tr:=tree RW false 9 111 (Ah ([zy zD]) n)
theorem An(n:Int):T n=let a':=zB (zy zo);.ite true (.ite true (.leaf (PV.agg [.dat i64 n,.dat a' (Dw n),.dat i64 (1:Int),.dat a' (Dw 1)]) ([(zl (zl 0 1) 1,.box [.dat i64 n,.dat a' (Dw n),.dat i64 (1:Int),.dat a' (Dw 1)]),(zl 0 1,.box [.dat i64 n,.dat a' (Dw n)]),(0,.box [.dat i64 n,.dat a' (Dw n),.dat i64 (1:Int),.dat a' (Dw 1)])])) .fail) .fail:=by kernel_rfl
end T111
end
end Go.Pe
end
section
namespace Go.Pe
open Sp
open Go.Det
noncomputable section
open List Int Prod
namespace T214
def T(s t:List UInt8):Tr:=tree ZP false 9 214 (Ah ([ze,ze]) (s,t))
theorem An(s t:List UInt8):T s t=let a':=(length t:Int);let b':=decide (toNat a'≤length s);.ite (decide ((length s:Int)≥a')) (.ite (decide (0≤a')&&decide (0≤toNat a')&&b') (.ite (take (toNat a') s==t) (.ite (decide (0≤a')&&true&&b'&&decide (length s≤length s)) (.leaf (.dat ze (take (zK (length s) (toNat a')) (drop (toNat a') s))) []) .fail) (.leaf (.dat ze s) [])) .fail) (.leaf (.dat ze s) []):=by kernel_rfl
end T214
namespace T248
def T(a:Int×List Int):Tr:=tree vZ false 9 248 (Ah ([zz i64 (zB (zy zo))]) a)
theorem An(a:Int×List Int):T a=let c':=[(0,.box [.dat i64 (fst a),.dat (zB (zy zo)) (snd a)])];let d':=Bp (Ag (zu (fst a,snd a)));let a':=(↑(length d'):Int);let b':=getD d' (toNat (zc .i64 (a'-1))) 0;.ite (De (fst a,snd a)) (.ite (a'==0) (.leaf (.dat i64 (0:Int)) c') (.ite (decide (0≤zc .i64 (a'-1))&&decide (zc .i64 (a'-1)<a')) (.ite (Sp.u64 b') (.leaf (.dat i64 (zc .i64 (zc .i64 (64*zc .i64 (a'-1))+Er b'))) c') .fail) .fail)) .fail:=by kernel_rfl
end T248
namespace T199
def T(a:Int×List Int):Tr:=tree qB false 9 199 (Ah ([zz i64 (zB (zy zo))]) a)
theorem An(a:Int×List Int):T a=let a':=[(0,.box [.dat i64 (fst a),.dat (zB (zy zo)) (snd a)])];let b':=AT (zu (fst a,snd a));.ite (A8 (fst a,snd a)) (.ite (decide (NV (fst a,snd a)>1800)) (.ite (A8 (fst a,snd a)) (.ite (Ra b' [(45:UInt8)]) (.leaf (.dat zj (decide ((↑(length (AU b')):Int)>600))) a') .fail) .fail) (.leaf (.bl false) a')) .fail:=by kernel_rfl
end T199
namespace T131
def T(a:(Int×List Int)×Int×List Int):Tr:=tree rQ false 9 131 (Ah ([zz (zz i64 (zB (zy zo))) (zz i64 (zB (zy zo)))]) a)
theorem An(a:(Int×List Int)×Int×List Int):T a=let b':=zB (zy zo);let c':=(fst (fst a),snd (fst a));let d':=(fst (snd a),snd (snd a));let a':=[(0,.box [.dat i64 (fst (fst a)),.dat b' (snd (fst a)),.dat i64 (fst (snd a)),.dat b' (snd (snd a))])];.ite (A8 c') (.ite (D0 c') (.leaf (.bl true) a') (.ite (A8 d') (.leaf (.dat zj (D0 d')) a') .fail)) .fail:=by kernel_rfl
end T131
namespace T132
def T(a:(Int×List Int)×Int×List Int):Tr:=tree rQ false 9 132 (Ah ([zz (zz i64 (zB (zy zo))) (zz i64 (zB (zy zo)))]) a)
theorem An(a:(Int×List Int)×Int×List Int):T a=let b':=(fst (fst a),snd (fst a));let c':=(fst (snd a),snd (snd a));let d':=zB (zy zo);let a':=[(0,.box [.dat i64 (fst (fst a)),.dat d' (snd (fst a)),.dat i64 (fst (snd a)),.dat d' (snd (snd a))])];.ite true (.ite (Cz c') (.ite (A8 b') (.leaf (.dat ze (AT (zu b'))) a') .fail) (.ite (A8 b') (.ite (decide (length (AT (zu b'))+1≤4611686018427387904)) (.ite (A8 c') (.ite (decide (length (AT (zu b')++[(47:UInt8)])+length (AT (zu c'))≤4611686018427387904)) (.leaf (.dat ze (AT (zu b')++[(47:UInt8)]++AT (zu c'))) a') .fail) .fail) .fail) .fail)) .fail:=by kernel_rfl
end T132
namespace T103
def T(a:(Int×List Int)×Int×List Int):Tr:=tree pM false 9 103 (Ah ([zz (zz i64 (zB (zy zo))) (zz i64 (zB (zy zo)))]) a)
theorem An(a:(Int×List Int)×Int×List Int):T a=let b':=((fst (fst a),snd (fst a)),fst (snd a),snd (snd a));let c':=zB (zy zo);let a':=[(0,.box [.dat i64 (fst (fst a)),.dat c' (snd (fst a)),.dat i64 (fst (snd a)),.dat c' (snd (snd a))])];.ite (yg b') (.ite (Hx b') (.leaf (.tup [.dat ze [],.dat i64 (4:Int)]) a') (.ite (yg b') (.leaf (.tup [.dat ze (I3 b'),.dat i64 (0:Int)]) a') .fail)) .fail:=by kernel_rfl
end T103
namespace T84
def T(l:List (List UInt8)):Tr:=tree pT false 9 84 (Ah ([zi ze]) l)
def L1(v6:List (List UInt8))(v7 v8:Int):Tr:=re ((T [])) (AI 18 [(6,.dat (zi ze) v6),(7,.dat i64 v7),(8,.dat i64 v8)] [] 0)
theorem An(l:List (List UInt8)):T l=L1 l ((length l:Int)) 0:=by kernel_rfl
theorem Au(v6:List (List UInt8))(v7 v8:Int):stepT pT (L1 v6 v7 v8)=let a':=getD v6 (toNat v8) [];.ite (decide (v8<v7)) (.ite (decide (0≤v8)&&decide (v8<(length v6:Int))) (.ite (decide (length a'≤1000000)) (.ite (A1 a' !=0) (.leaf (.dat i64 (A1 a')) []) (L1 v6 v7 (zc .i64 (v8+1)))) .fail) .fail) (.leaf (.dat i64 (0:Int)) []):=by kernel_rfl
end T84
namespace T110
def T(a:(Int×List Int)×Int×List Int):Tr:=tree pT false 9 110 (Ah ([zz (zz i64 (zB (zy zo))) (zz i64 (zB (zy zo)))]) a)
theorem An(a:(Int×List Int)×Int×List Int):T a=let a':=zB (zy zo);let b':=(fst (fst a),snd (fst a));.ite (De b') (.leaf (.dat i64 (Hf b')) ([(0,.box [.dat i64 (fst (fst a)),.dat a' (snd (fst a)),.dat i64 (fst (snd a)),.dat a' (snd (snd a))])])) .fail:=by kernel_rfl
end T110
namespace T18
def T(a b:List UInt8):Tr:=tree bN false 9 18 (Ah ([ze,ze]) (a,b))
theorem An(a b:List UInt8):T a b=let b':=((Jy a,Jf a),IY a,IX a);let c':=((Jy b,Jf b),IY b,IX b);let d':=[(0,.arr false 22 ze [a,b])];let a':=Mk b' c';.ite (decide (2≤2)&&true&&(decide (2≤1000)&&yd [a,b] fun s=>decide (length s≤1000000))) (.ite (BK [a,b] !=0) (.leaf (.tup [.dat ze [],.dat i64 (BK [a,b])]) d') (.ite (EW a) (.ite (EW b) (.ite (z7 b'&&z7 c') (.ite (yg a') (.leaf (.tup [.dat ze (Mf a'),.dat i64 (Mj a')]) d') .fail) .fail) .fail) .fail)) .fail:=by kernel_rfl
end T18
namespace T19
def T(a b:List UInt8):Tr:=tree bN false 9 19 (Ah ([ze,ze]) (a,b))
theorem An(a b:List UInt8):T a b=let b':=((Jy a,Jf a),IY a,IX a);let c':=((Jy b,Jf b),IY b,IX b);let d':=[(0,.arr false 22 ze [a,b])];let a':=YG b' c';.ite (decide (2≤2)&&true&&(decide (2≤1000)&&yd [a,b] fun s=>decide (length s≤1000000))) (.ite (BK [a,b] !=0) (.leaf (.tup [.dat ze [],.dat i64 (BK [a,b])]) d') (.ite (EW a) (.ite (EW b) (.ite (z7 b'&&z7 c') (.ite (yg a') (.leaf (.tup [.dat ze (Mf a'),.dat i64 (Mj a')]) d') .fail) .fail) .fail) .fail)) .fail:=by kernel_rfl
end T19
namespace T20
def T(a b:List UInt8):Tr:=tree bN false 9 20 (Ah ([ze,ze]) (a,b))
theorem An(a b:List UInt8):T a b=let b':=((Jy a,Jf a),IY a,IX a);let c':=((Jy b,Jf b),IY b,IX b);let d':=[(0,.arr false 22 ze [a,b])];let a':=Us b' c';.ite (decide (2≤2)&&true&&(decide (2≤1000)&&yd [a,b] fun s=>decide (length s≤1000000))) (.ite (BK [a,b] !=0) (.leaf (.tup [.dat ze [],.dat i64 (BK [a,b])]) d') (.ite (EW a) (.ite (EW b) (.ite (z7 b'&&z7 c') (.ite (yg a') (.leaf (.tup [.dat ze (Mf a'),.dat i64 (Mj a')]) d') .fail) .fail) .fail) .fail)) .fail:=by kernel_rfl
end T20
namespace T21
def T(a b:List UInt8):Tr:=tree bN false 9 21 (Ah ([ze,ze]) (a,b))
theorem An(a b:List UInt8):T a b=let c':=b==[(48:UInt8)];let d':=((Jy a,Jf a),IY a,IX a);let e':=((Jy b,Jf b),IY b,IX b);let a':=X9 d' e';let b':=[(zl (zl 0 1) 1,.arr false 22 ze [a,b]),(zl 0 1,.arr false 25 i64 [BK [a,b],LQ c' 6]),(0,.arr false 22 ze [a,b])];.ite (decide (2≤2)&&true&&(decide (2≤1000)&&yd [a,b] fun s=>decide (length s≤1000000))) (.ite true (.ite (decide (2≤2)&&true&&decide (2≤1000000)) (.ite (zT [BK [a,b],LQ c' 6] !=0) (.leaf (.tup [.dat ze [],.dat i64 (zT [BK [a,b],LQ c' 6])]) ([(zl 0 1,.arr false 25 i64 [BK [a,b],LQ c' 6]),(0,.arr false 22 ze [a,b])])) (.ite (decide (2≤2)&&true&&(decide (2≤1000)&&yd [a,b] fun s=>decide (length s≤1000000))) (.ite (BK [a,b] !=0) (.leaf (.tup [.dat ze [],.dat i64 (BK [a,b])]) b') (.ite (EW a) (.ite (EW b) (.ite (z7 d'&&z7 e'&&decide (zu (Jy b,Jf b)≠0)) (.ite (yg a') (.leaf (.tup [.dat ze (Mf a'),.dat i64 (Mj a')]) b') .fail) .fail) .fail) .fail)) .fail)) .fail) .fail) .fail:=by kernel_rfl
end T21
namespace T22
def T(a b:List UInt8):Tr:=tree bN false 9 22 (Ah ([ze,ze]) (a,b))
theorem An(a b:List UInt8):T a b=let a':=((Jy a,Jf a),IY a,IX a);let b':=((Jy b,Jf b),IY b,IX b);let c':=[(0,.arr false 22 ze [a,b])];.ite (decide (2≤2)&&true&&(decide (2≤1000)&&yd [a,b] fun s=>decide (length s≤1000000))) (.ite (BK [a,b] !=0) (.leaf (.tup [.dat i64 (0:Int),.dat i64 (BK [a,b])]) c') (.ite (EW a) (.ite (EW b) (.ite (yg a'&&yg b') (.leaf (.tup [.dat i64 (bY a' b'),.dat i64 (0:Int)]) c') .fail) .fail) .fail)) .fail:=by kernel_rfl
end T22
namespace T16
def T(l:List (List UInt8)):Tr:=tree ZP false 9 16 (Ah ([zi ze]) l)
def L1(v0:List (List UInt8))(v3:Int):Tr:=re ((T [])) (AI 16 [(0,.dat (zi ze) v0),(3,.dat i64 v3)] [] 0)
theorem An(l:List (List UInt8)):T l=L1 l 0:=by kernel_rfl
theorem Au(v0:List (List UInt8))(v3:Int):stepT ZP (L1 v0 v3)=let a':=decide (v3<(length v0:Int));.ite (a') (.ite (decide (0≤v3)&&a') (.ite (decide ((↑(length (getD v0 (toNat v3) [])):Int)>1300)) (.leaf (.bl false) []) (L1 v0 (zc .i64 (v3+1)))) .fail) (.leaf (.bl true) []):=by kernel_rfl
end T16
namespace T25
def T(a:List UInt8)(e:Int)(w:List UInt8)(bad:Int):Tr:=tree sD false 9 25 (Ah ([ze,zy zD,ze,zy zD]) (a,e,w,bad))
theorem An(a:List UInt8)(e:Int)(w:List UInt8)(bad:Int):T a e w bad=let b':Tr:=.leaf (.bl false) [];let a':Tr:=.ite (e==0) (.leaf (.dat zj (a==w)) []) b';.ite (bad==0) (.ite (decide (length w≤1000000)) (.ite (EF w !=0) (.ite (a==[]) (.leaf (.dat zj (e==EF w)) []) b') a') .fail) (.ite (bad !=0) (.ite (a==[]) (.leaf (.dat zj (e==bad)) []) b') a'):=by kernel_rfl
end T25
end
end Go.Pe
end
section
namespace Go.Pe
open Sp
open Go.Det
namespace T200
variable {Q:PV→Ob→Prop}
theorem Am(neg:Bool)(V:Nat)(h0:0<V)(hV:Small V)(hG:(B8 (V+1) V).length≤1000000)(hfin:Exit neg (B8 (V+1) V) Q):Ends O5 (L1 neg (Bp (V:Int)) 1 [1000000000000000000]) Q:=by
 have hlt:V % 10^18<10^18:=yn _ (by decide);have hg:∀s,s=(if V/10^18=0 then zf (V % 10^18)else Fq 18 (V % 10^18))→[s]++(if V/10^18=0 then[]else B8 V (V/10^18))=B8 (V+1) V:=by
  rintro s rfl;have eg:B8 (V+1) V=if V<10^18 then[zf V]else Fq 18 (V % 10^18)::B8 V (V/10^18):=rfl
  rw[eg];by_cases c:V<10^18
  ·rw[if_pos c,if_pos (by omega),if_pos (by omega),Nat.mod_eq_of_lt c];rfl
  ·rw[if_neg c,if_neg (by omega),if_neg (by omega)];rfl
 have next:∀s,s=(if V/10^18=0 then zf (V % 10^18)else Fq 18 (V % 10^18))→Ends O5 (L2 neg (Bp ((V/10^18:Nat):Int)) 1 1 [s] [1000000000000000000]) Q:=
  fun s hs=>AZ neg _ hG hfin V (V/10^18) [s] (by omega) (hV.le (yj _ _)) (hg s hs)
 refine zQ (Au ..) (zd (decide_eq_true (by have:=Ig h0;omega)) (zd (Ac rfl hV.div) ?_));rw[S9,R6];rcases Nat.eq_zero_or_pos (V % 10^18)with r0|r0
 ·have q0:V/10^18≠0:=by omega
  rw[r0,show((0:Nat):Int)=0 from rfl,Kf];refine zp rfl (zd (decide_eq_true (by have:=Ig (V:=V/10^18) (by omega);omega)) (zd rfl (zd rfl (zd rfl (next _ ?_)))));have hp:=Rr 0 (by decide);rw[zN (by omega)]at hp;rw[if_neg q0,r0, ←hp];rfl
 ·rw[Sq (r:=((V % 10^18:Nat):Int)) (by omega) (by omega)];have hgd:List.getD [((V % 10^18:Nat):Int)] 0 0=((V % 10^18:Nat):Int):=rfl;rw[hgd,KV];have hd:=Qy hlt;have hr18:((V % 10^18:Nat):Int)<1000000000000000000:=by omega
  have h18:0<(zf (V % 10^18)).length:=by
   rw[zF,Lib.nDigits];split<;>omega
  refine zd rfl (zd rfl (zd (Ac (Ac (decide_eq_true (zV _)) (decide_eq_true hr18)) rfl) ?_));rw[wr _ (by omega) (by omega)];by_cases q0:V/10^18=0
  ·rw[q0];refine zp (by rw[show((0:Nat):Int)=0 from rfl,Kf];rfl) (zd rfl ?_);have:=next _ rfl;rw[if_pos q0,q0]at this;exact this
  ·have hpad:=Rr _ hlt;refine zd (decide_eq_true (by have:=Ig (V:=V/10^18) (by omega);omega)) (zd (Ac (Ac (decide_eq_true (by omega)) (decide_eq_true (by omega))) rfl) (zd (decide_eq_true ?_) (zd rfl (next _ ?_))))
   ·rw[←zx,hpad];unfold Fq;rw[zx,List.length_replicate];omega
   ·rw[if_neg q0];exact hpad
end T200
end Go.Pe
end
section
namespace Go.Pe
open Sp
open Go.Det
theorem qY(n:Nat):(18446744073709551616:Nat)^n≤10^(20*n):=by
 rw[Nat.pow_mul];exact Nat.pow_le_pow_left (by decide) n
theorem Xx{V k:Nat}(h:(V:Int)<(Aj:Int)^k):V<18446744073709551616^k:=by
 rw[←Rn k]at h;exact yb.mp h
theorem XB{V k:Nat}(h:(V:Int)<(Aj:Int)^k)(hk:1≤k):(zf V).length≤20*k:=by
 rw[zF];obtain⟨j,hj⟩:∃j,20*k=j+1:=⟨20*k-1,by omega⟩;have h3:=zI (Xx h) (qY k);rw[hj]at h3 ⊢;exact MN j V h3
theorem GZ{V:Nat}(h:Small V):(zf V).length≤180000:=XB (k:=9000) h.h (by decide)
theorem KT:∀(f v:Nat) (s:List UInt8),s∈B8 f v→0<s.length
 |0,v,s,h=>by cases h
 |f+1,v,s,h=>by
  have eg:B8 (f+1) v=if v<10^18 then[zf v]else Fq 18 (v % 10^18)::B8 f (v/10^18):=rfl
  have hd:∀r,0<(zf r).length:=fun r=>by rw[zF,Lib.nDigits];split<;>omega
  rw[eg]at h;split at h
  ·rw[List.mem_singleton]at h;subst h;exact hd _
  ·rcases List.mem_cons.1 h with rfl|h
   ·unfold Fq;rw[zx];have:=hd (v % 10^18);omega
   ·exact KT f _ s h
theorem NA:∀(l:List (List UInt8)),(∀s∈l,0<s.length)→l.length≤l.flatten.length
 |[],_=>zE _
 |s::l,h=>by
  have h1:=NA l fun x hx=>h x (List.mem_cons_of_mem _ hx)
  have h2:=h s (List.mem_cons_self ..);rw[List.flatten_cons,zx,zn];omega
theorem Yq{V:Nat}(h:0<V):AT (-(V:Int))=45::zf V:=Lib.itoa_neg V h
theorem kC(hfmt:Ae AS 249 Tz):∀g sp,O5.sp g=some sp→Ae AS g sp:=Aa gD (Aa (T218.ok ER) (Aa PT (Aa hfmt (Aa XK (fun g sp h=>by cases h)))))
namespace T200
variable {Q:PV→Ob→Prop}
theorem YL(neg:Bool){V:Nat}(hV:Small V)(hq:∀ob,Q (.dat .str (if neg=true then 45::zf V else zf V)) ob):Exit neg (B8 (V+1) V) Q:=by
 have hne:=KT (V+1) V;have ht:=HV (V+1) V (by omega);have hd:=GZ hV;have hl:=NA _ hne;have hr:(B8 (V+1) V).flatten.length=(zf V).length:=by
  rw[←ht,zR,zR,List.map_reverse,List.sum_reverse]
 have hpos:0<(B8 (V+1) V).length:=by
  have eg:B8 (V+1) V=if V<10^18 then[zf V]else Fq 18 (V % 10^18)::B8 V (V/10^18):=rfl
  rw[eg];split<;>simp
 generalize B8 (V+1) V=G at*;unfold Exit;refine zq (fun c=>zd rfl (zd rfl ?_)) (fun c=>?_)
 ·rw[if_pos c]at hq;rw[wr _ (by omega) (by omega)];exact Ep G (45::zf V) (by rw[zn];omega) (by omega) hq G.length [45] _ 1 (zE _) rfl rfl (by decide) (by rw[List.take_length,ht];rfl)
 ·rw[if_neg (by rw[c];decide)]at hq;rw[wr _ (by omega) (by omega)];obtain⟨i,hi⟩:∃i,i+1=G.length:=⟨G.length-1,by omega⟩;exact ES G (zf V) (by omega) (by omega) hq i hi _ (by omega) (hne _ (List.getElem_mem _)) ht
theorem ok(hfmt:Ae AS 249 Tz):Ae AS 200 oL:=by
 refine Ax (X:=O5) rfl (kC hfmt) (d:=9) (by kernel_rfl) (by kernel_rfl) (by kernel_rfl) (fun(a:Int×List Int) ha=>?_) (Ad (by kernel_rfl));have ha:A8 a=true:=ha;have hk:=(B0 ha).1;have hr:=(DA hk).1;refine zr (An a) (zq (fun c=>zd (Du hr.1 hr.2) (zg (zw rfl rfl ?_))) (fun c=>zd hk ?_))
 ·have c:a.2=[]:=by simpa using c
  show AT a.1=AT (zu a);rw[Bn c]
 ·have c:a.2≠[]:=by rintro k;rw[k]at c;simp at c
  have hb:=bounds ha;have hbig:(9223372036854775808:Int)≤Ag (zu a):=by
   obtain⟨_,hw⟩:=DA hk;obtain⟨s,w⟩:=a;rcases hw with hw|⟨_,_,h3⟩
   ·exact absurd hw c
   ·rw[T9 c,Ai];have h3:9223372036854775808≤Al w:=h3;split<;>omega
  obtain⟨V,hV⟩:=zA (AE (zu a));have hVa:=Ai (zu a);rw[hV]at hb hbig hVa ⊢;have hs:Small V:=⟨hb⟩;have hd:=GZ hs;have hp:0<V:=by omega
  have hl:=NA _ (KT (V+1) V);have ht:=HV (V+1) V (by omega);have hlen:(B8 (V+1) V).flatten.length=(zf V).length:=by
   rw[←ht,zR,zR,List.map_reverse,List.sum_reverse]
  refine Am _ V hp hs (by omega) (YL _ hs fun ob=>zw rfl rfl ?_);show(if decide (zu a<0)=true then 45::zf V else zf V)=AT (zu a);by_cases n:zu a<0
  ·rw[if_pos (decide_eq_true n),show zu a= -(V:Int)from by omega,Yq hp]
  ·rw[if_neg (by simpa using n),show zu a=(V:Int)from by omega,KV]
end T200
end Go.Pe
end
section
namespace Go.Pe
open Sp
open Go.Det
theorem Ua{k:Nat}{n d:Int}(hd:d≠0)(h1:Ag n<(Aj:Int)^k)(h2:Ag d<(Aj:Int)^k):JE k (yi n d):=by
 unfold JE;rw[Rat.num_divInt,Rat.den_divInt,if_neg hd];constructor
 ·refine Int.lt_of_le_of_lt UE ?_;rw[Ip];have:Ag d.sign=1:=by rw[Ai,yc hd];rfl
  rw[this,Int.one_mul];exact h1
 ·refine Int.lt_of_le_of_lt ?_ h2;rw[Ai];exact Int.ofNat_le.mpr (yj _ _)
theorem lK{f:AA}(h:z7 f=true)(h0:zu f.1≠0):z7 (TS f)=true:=by
 obtain⟨a1,a2,la1,la2,a0⟩:=E1 h;exact(MC a2 a1 h0).D5 (Ua h0 la2 la1)
theorem kM{f:AA}(h:z7 f=true):z7 (oA f)=true:=by
 obtain⟨a1,a2,la1,la2,a0⟩:=E1 h;unfold z7 yg at*;have hk:=Ub (k:=4000) (B0 a1).1 (by omega) (by omega) (Ud (B0 a1).1 la1);exact Ac (Ac (FF hk.1 (by show Ag (zu (CT f.1))<_;rw[HW,HG];exact la1)) (FF (B0 a2).1 la2)) (decide_eq_true a0)
theorem Wz:∀g sp,uM.sp g=some sp→Ae AS g sp:=Aa T160.ok (Aa T80.ok (Aa T82.ok (Aa T161.ok (fun g sp h=>by cases h))))
theorem T81.ok:Ae AS 81 nD:=by
 refine Ax (X:=uM) rfl Wz (d:=9) (by kernel_rfl) (by kernel_rfl) (by kernel_rfl) (fun(i:((Int×List Int)×(Int×List Int))×((Int×List Int)×(Int×List Int))) hi=>?_) (Ad (by kernel_rfl));obtain⟨a,b⟩:=i;have hi:(z7 a&&z7 b)=true:=hi;rw[zh]at hi;obtain⟨b1,b2,lb1,lb2,b0⟩:=E1 hi.2;exact zr (T81.An a b) (zd (B0 b1).1 (zd (Ac hi.1 (kM hi.2)) (zg (zw rfl rfl rfl))))
theorem T86.ok:Ae AS 86 mQ:=by
 refine Ax (X:=uM) rfl Wz (d:=9) (by kernel_rfl) (by kernel_rfl) (by kernel_rfl) (fun(i:((Int×List Int)×(Int×List Int))×((Int×List Int)×(Int×List Int))) hi=>?_) (Ad (by kernel_rfl));obtain⟨a,b⟩:=i;have hi:(z7 a&&z7 b&&decide (zu b.1≠0))=true:=hi;rw[zh,zh,decide_eq_true_eq]at hi;exact zr (T86.An a b) (zd (Ac hi.1.2 (decide_eq_true hi.2)) (zd (Ac hi.1.1 (lK hi.1.2 hi.2)) (zg (zw rfl rfl rfl))))
theorem T112.ok:Ae AS 112 ZV:=by
 refine Ax (X:=RW) rfl FC (d:=9) (by kernel_rfl) (by kernel_rfl) rfl (fun(a:(Int×List Int)×(Int×List Int)) h=>?_) (Ad (by kernel_rfl));obtain⟨a1,a2,la1,la2,a0⟩:=E1 h;exact zr (T112.An a) (zd (Ac (Ac a1 a2) (decide_eq_true a0)) (zg (zw rfl rfl rfl)))
end Go.Pe
end
section
namespace Go.Sp
theorem Db{a:Bool×List Int}(h:CA a=true):A3 a.2=true∧a.2.length≤3000∧(a.1=true→a.2≠[]):=by
 unfold CA at h;rw[zh,zh,decide_eq_true_eq,yk,decide_eq_true_eq,Bool.not_eq_true']at h;refine⟨h.1.1,h.1.2,fun k=>?_⟩;rcases h.2 with x|x
 ·rw[k]at x;cases x
 ·exact x
theorem FX{a:Bool×List Int}(h:CA a=true):Ag (vR a)=Aq a.2∧0≤Aq a.2:=by
 obtain⟨h1,h2,h3⟩:=Db h;have h0:=Ay (b:=B9) (by decide) (Bi h1).2.1;have h0:0≤Aq a.2:=h0;refine⟨?_,h0⟩;unfold vR;rw[Ai];split<;>omega
theorem Np{a:Bool×List Int}(h:CA a=true):a.1=rN (vR a):=by
 obtain⟨h1,h2,h3⟩:=Db h;obtain⟨_,h0⟩:=FX h;unfold rN vR;cases ha:a.1 with
 |false=>rw[if_neg (by decide)];symm;rw[decide_eq_false_iff_not];omega
 |true=>
  rw[if_pos rfl];symm;rw[decide_eq_true_eq];have:=Iz (b:=B9) (by decide) (Bi h1).2.1 (Bi h1).2.2 (h3 ha);have:0<Aq a.2:=this;omega
theorem oD{a:Bool×List Int}(h:CA a=true):a.2=rW (vR a):=by
 unfold rW;rw[(FX h).1];exact HJ (b:=B9) (by decide) (Bi (Db h).1).2.1 (Bi (Db h).1).2.2
theorem nE{a:Bool×List Int}(h:CA a=true):a=(rN (vR a),rW (vR a)):=Prod.ext (Np h) (oD h)
theorem U9(k:Nat):(B9:Int)^k=10^(9*k):=by
 have:(B9:Int)=10^9:=by decide
 rw[this, ←Int.pow_mul]
theorem jR{n:Int}{k:Nat}(h:n.natAbs<10^(9*k)):Ag n<(B9:Int)^k:=by
 rw[Ai,U9];have:((10^(9*k):Nat):Int)=(10:Int)^(9*k):=by simp
 rw[←this];exact yb.mpr h
theorem Mw(n:Int):0≤Ag n:=by rw[Ai];omega
theorem Jg(n:Int):Aq (rW n)=Ag n:=CD (b:=B9) (by decide) (Mw n)
theorem Eu(n:Int):vR (rN n,rW n)=n:=by
 unfold vR;show(if rN n=true then -Aq (rW n)else Aq (rW n))=n;rw[Jg,Ai];unfold rN;by_cases h:n<0
 ·rw[if_pos (decide_eq_true h)];omega
 ·rw[if_neg (by simpa using h)];omega
theorem Qr{n:Int}(h:n.natAbs<10^27000):CA (rN n,rW n)=true:=by
 have k:27000=9*3000:=rfl;rw[k]at h;obtain⟨h1,_,h3,h4⟩:=Gj (n:=Ag n) (k:=3000) (Mw n) (jR h) (by decide);unfold CA;have h5:A3 (rW n)=true:=h1;have h6:(rW n).length≤3000:=h4;rw[h5,decide_eq_true h6];cases hb:rN n with
 |false=>rfl
 |true=>
  have:rW n≠[]:=by
   intro e;have h7:=Jg n;rw[e]at h7;have h7:0=Ag n:=h7;unfold rN at hb;have hb:=of_decide_eq_true hb;rw[Ai]at h7;omega
  rw[decide_eq_true this];rfl
theorem Y3(k:Nat):((10^k:Nat):Int)=(10:Int)^k:=by rw[zM];rfl
theorem qP{x:Nat}(j k:Nat)(h:j≤k)(hx:x<10^j):x<10^k:=zI hx (zP (by decide) h)
theorem pQ{a:Bool×List Int}(h:CA a=true):(vR a).natAbs<10^27000:=by
 obtain⟨h1,h2,h3⟩:=Db h;have h4:=Bm (b:=B9) (by decide) (Bi h1).2.1;have h5:(B9:Int)^a.2.length≤(B9:Int)^3000:=AJ (by decide) h2;have h6:Ag (vR a)<(B9:Int)^3000:=by rw[(FX h).1];exact zL h4 h5
 rw[Ai,U9]at h6;have:=Y3 (9*3000);rw[←this]at h6;have k:27000=9*3000:=rfl;rw[k];exact yb.mp h6
theorem bD{neg:Bool}{w:List Int}{n:Int}(hd:At B9 w)(hv:Aq w=Ag n)(hn:n≠0→neg=rN n):(B5 neg w,Ar w)=(rN n,rW n):=by
 have h:=Go.Pe.Lv (neg:=neg) hd hv;rw[h];have:(if neg=true then -Ag n else Ag n)=n:=by
  by_cases h0:n=0
  ·rw[h0];unfold Ag;split<;>simp
  ·rw[hn h0];unfold rN;rw[Ai];by_cases h:n<0
   ·rw[if_pos (decide_eq_true h)];omega
   ·rw[if_neg (by simpa using h)];omega
 rw[this]
theorem D3{s:List UInt8}(h:BJ s=true):CA (Bw s,Bo s)=true∧vR (Bw s,Bo s)=A5 s∧CA (Bg s,Be s)=true∧vR (Bg s,Be s)=AF s∧(A2 s).num=A5 s∧((A2 s).den:Int)=AF s∧EW s=true∧(A5 s).natAbs<10^4000∧(AF s).natAbs<10^4000:=by
 obtain⟨h1,h2⟩:=Iy h;obtain⟨s1,s2⟩:=QW h;have e:(A2 s).num=A5 s∧((A2 s).den:Int)=AF s:=by
  have:=JC (A2 s);rw[h1]at this;exact⟨this.1.symm,this.2.symm⟩
 have l1:(A5 s).natAbs<10^4000:=by rw[←e.1];exact s1
 have l2:(AF s).natAbs<10^4000:=by rw[←e.2,zk];exact s2
 have m:∀x:Nat,x<10^4000→x<10^27000:=fun x hx=>qP 4000 27000 (by decide) hx
 refine⟨Qr (m _ l1),Eu _,Qr (m _ l2),Eu _,e.1,e.2,?_,l1,l2⟩;obtain⟨c1,c2,c3⟩:=E9 (A2 s);rw[h1]at c1 c2 c3;have k1:=Go.Pe.T77.CP s;unfold EW DW;rw[decide_eq_true (p:=s.length≤5999) (by omega),decide_eq_true (p:=(Aw s).length≤5999) (by omega),decide_eq_true (p:=(AL s).length≤5999) (by omega),zS,zS,Bool.and_true,zh];refine⟨?_,?_⟩
 ·obtain⟨i1,i2,i3,i4⟩:=C2 (A2 s).num;rw[c1];unfold AU at i2;split at i2
  ·next c=>rw[if_pos c,i2];exact Dr _
  ·next c=>rw[if_neg c,i2];exact Dr _
 ·rw[c2];split
  ·rfl
  ·rw[if_neg (EZ (Dr _))];exact Dr _
end Go.Sp
end
section
namespace Go.Pe
open Sp
open Go.Det
theorem VG{x:Int}{k:Nat}(h:x.natAbs<10^k):Ag x<(Aj:Int)^k:=by
 have h4:((10^k:Nat):Int)=(10:Int)^k:=zM ..;rw[Ai];refine zL ?_ (bQ k);rw[←h4];exact yb.mpr h
theorem Jx{q:Rat}{k:Nat}(h:F7 k q)(hk:k≤4000):JE 4000 q:=by
 obtain⟨h1,h2⟩:=h.mono hk;have h3:=VG (k:=4000) (x:=(q.den:Int)) (by rw[zk];exact h2);rw[Ai,zk]at h3;exact⟨VG h1,h3⟩
def tI(s:List UInt8):AA:=((Jy s,Jf s),(IY s,IX s))
theorem SL{s:List UInt8}(h:BJ s=true):EE (tI s) (A2 s):=by
 obtain⟨_,_,_,_,e1,e2,_,l1,l2⟩:=D3 h;have m:∀x:Int,x.natAbs<10^4000→Ag x<(Aj:Int)^9000:=fun x hx=>zL (VG hx) (AJ (by decide) (by decide))
 exact⟨(B0 (E6 (Dx (m _ l1)))).1,(B0 (E6 (Dx (m _ l2)))).1,(Ke _).trans e1.symm,(Ke _).trans e2.symm⟩
theorem Yt{d:AR}(h:De d=true):Cz d=decide (zu d=1):=by
 unfold Cz;rw[Bool.eq_iff_iff,zh,decide_eq_true_eq,decide_eq_true_eq,decide_eq_true_eq];refine⟨fun⟨h1,h2⟩=>by rw[Bn h1];exact h2,fun e=>?_⟩;by_cases c:d.2=[]
 ·rw[Bn c]at e;exact⟨c,e⟩
 ·obtain⟨_,hw⟩:=DA h;obtain⟨s,w⟩:=d;rcases hw with hw|⟨_,_,h3⟩
  ·exact absurd hw c
  ·rw[T9 c]at e;have h3:9223372036854775808≤Al w:=h3;split at e<;>omega
theorem Xm{f:AA}{q:Rat}(h:EE f q):Hx f=IT q:=by
 unfold Hx D0 IT;rw[h.vn,h.vd]
theorem eZ{f:AA}{q:Rat}(h:EE f q):I3 f=AX q:=by
 unfold I3 AX;rw[Yt h.d,h.vn,h.vd];have e:decide ((q.den:Int)=1)=true↔q.den=1:=by rw[decide_eq_true_eq];omega
 by_cases c:q.den=1
 ·rw[if_pos (e.2 c),if_pos c];rfl
 ·rw[if_neg (fun k=>c (e.1 k)),if_neg c];show zt q.num++47::zt ((q.den:Nat):Int)=_;rw[Lib.itoa_nonneg]
theorem VL{f:AA}{q:Rat}(h:EE f q):Mf f=TZ 0 q∧Mj f=SD 0 q:=by
 unfold Mf Mj TZ SD;rw[Xm h,eZ h];exact⟨rfl,rfl⟩
theorem EE.Ec{f:AA}{q:Rat}(h:EE f q)(hs:JE 4000 q):yg f=true:=by
 have:=h.D5 hs;unfold z7 at this;rw[zh]at this;exact this.1
theorem EE.HS{f:AA}{q:Rat}(h:EE f q):decide (zu f.1≠0)=decide (q≠0):=by
 rw[h.vn,decide_eq_decide,ne_eq,z8]
theorem EE.cmp{f g:AA}{p q:Rat}(hf:EE f p)(hg:EE g q):bY f g=if p<q then -1 else if q<p then 1 else 0:=by
 unfold bY BW;rw[hf.vn,hf.vd,hg.vn,hg.vd];have h1:p<q↔p.num*(q.den:Int)<q.num*(p.den:Int):=Rat.lt_iff ..;have h2:q<p↔q.num*(p.den:Int)<p.num*(q.den:Int):=Rat.lt_iff ..;by_cases c:p<q
 ·rw[if_pos c,if_pos (h1.1 c)]
 ·rw[if_neg c,if_neg (fun k=>c (h1.2 k))];by_cases d:q<p
  ·rw[if_pos d,if_pos (h2.1 d)]
  ·rw[if_neg d,if_neg (fun k=>d (h2.2 k))]
end Go.Pe
end
section
namespace Go.Sp
theorem bM{n:Int}(h:0≤n):n+1≤2^(Er n).toNat:=by
 unfold Er;split
 ·have:n=0:=by omega
  subst this;decide
 ·have hb:=Nat.lt_log2_self (n:=n.toNat);have e:((n.toNat.log2:Int)+1).toNat=n.toNat.log2+1:=by omega
  have e2:((2^(n.toNat.log2+1):Nat):Int)=(2:Int)^(n.toNat.log2+1):=zM ..;rw[e, ←e2];generalize 2^(n.toNat.log2+1)=P at*;omega
theorem nX{w:List Int}(hd:At Aj w){k:Nat}(hl:w.length=k+1):val Aj w<(Aj:Int)^k*(w.getD k 0+1):=by
 have h1:=B4 (Aj:Int) w k (by omega);have h2:=Bm (b:=(Aj:Int)) (by decide) (AK hd k);rw[List.length_take,Nat.min_eq_left (by omega)]at h2;have h3:w.drop k=[w.getD k 0]:=by
  rw[B3 (by omega),List.drop_eq_nil_of_le (by omega)]
 rw[h3]at h1;have h4:val Aj [w.getD k 0]=w.getD k 0:=by
  show w.getD k 0+(Aj:Int)*0=_;omega
 rw[h4]at h1;rw[Int.mul_add,Int.mul_one];omega
theorem Vx(k:Nat):((10^k:Nat):Int)=(10:Int)^k:=by rw[zM];rfl
theorem Zf(k:Nat):2^(3*k)≤10^k:=by rw[Nat.pow_mul];exact Nat.pow_le_pow_left (by decide) k
theorem bG(k:Nat):(2:Int)^(3*k)≤10^k:=by
 have h2:((2^(3*k):Nat):Int)≤((10^k:Nat):Int):=Int.ofNat_le.2 (Zf k);rw[zM,zM]at h2;exact h2
theorem lQ:(2:Int)^1800≤10^600:=by
 have h:=bG 600;have k:3*600=1800:=rfl;rw[k]at h;exact h
theorem jL{a:AR}(h:NV a≤1800):D0 a=false:=by
 have a0:0≤Ag (vI a):=by rw[Ai];omega
 have hv:=CD (b:=Aj) (by decide) a0;have hd:=EX (b:=Aj) (by decide) (Ag (vI a));have key:Ag (vI a)<2^1800:=by
  unfold NV at h;have hv:val Aj (Bp (Ag (vI a)))=Ag (vI a):=hv;have hd:At Aj (Bp (Ag (vI a))):=hd;generalize Bp (Ag (vI a))=w at*;rw[←hv];by_cases hw:w=[]
  ·subst hw;show(0:Int)<_;exact Int.pow_pos (by decide)
  ·rw[if_neg hw]at h;obtain⟨k,hk⟩:∃k,w.length=k+1:=⟨w.length-1,by have:=List.length_pos_iff.2 hw;omega⟩;have ht:=nX hd hk;have g:=Jh (b:=(Aj:Int)) (by decide) hd k;have hp:=bM g.1;have hl:=(Go.Pe.RR g.1 (by have:(Aj:Int)=18446744073709551616:=rfl;omega)).1;rw[hk,Nat.add_sub_cancel,show((k+1:Nat):Int)-1=(k:Int)by omega]at h;have hB:(0:Int)<(Aj:Int)^k:=AM (by decide) k;have h5:=Int.mul_le_mul_of_nonneg_left hp (Int.le_of_lt hB);have e1:(Aj:Int)^k=2^(64*k):=by
    have:(Aj:Int)=2^64:=by decide
    rw[this, ←Int.pow_mul]
   rw[e1, ←Int.pow_add]at h5;rw[e1]at ht;have h6:(2:Int)^(64*k+(Er (w.getD k 0)).toNat)≤2^1800:=AJ (by decide) (by omega);exact zL ht (Int.le_trans h5 h6)
 have h7:=zL key lQ;unfold D0 LW;rw[decide_eq_false_iff_not];have:(vI a).natAbs<10^600:=by
  rw[Ai]at h7;have e:=Vx 600;rw[←e]at h7;exact yb.mp h7
 have:=DB this (by decide);omega
end Go.Sp
end
section
namespace Go.Sp
theorem S3(q:Rat):O7 (AX q)=zf q.den:=by
 obtain⟨_,c2,c3⟩:=E9 q;unfold O7;rw[c2,c3];by_cases h:q.den=1
 ·rw[if_neg (by simpa using h),h,zN (by decide)];rfl
 ·rw[if_pos (decide_eq_true h),if_neg h]
theorem UY(q:Rat):EF (AX q)=if IT q=true then 4 else 0:=by
 obtain⟨c1,_,_⟩:=E9 q;unfold EF;rw[S3,c1,(C2 q.num).2.1];have hb:IT q=true↔600<(zf q.num.natAbs).length∨600<(zf q.den).length:=by
  unfold IT LW;rw[yk,decide_eq_true_eq,decide_eq_true_eq,zk]
 by_cases h:IT q=true
 ·rw[if_pos (hb.1 h),if_pos h]
 ·rw[if_neg (fun k=>h (hb.2 k)),if_neg h]
theorem MS(q:Rat):CH (TZ 0 q) (SD 0 q) (AX q) 0=true:=by
 unfold CH TZ SD;rw[UY];by_cases h:IT q=true
 ·simp[h]
 ·simp[h]
theorem JW{e:Int}(h:e≠0)(q:Rat)(w:List UInt8):CH (TZ e q) (SD e q) w e=true:=by
 unfold CH TZ SD;simp[h]
theorem QI(a b:List UInt8):BG a b=if A1 a≠0 then A1 a else A1 b:=by
 show(if A1 a≠0 then A1 a else if A1 b≠0 then A1 b else 0)=_;by_cases h:A1 a≠0
 ·rw[if_pos h,if_pos h]
 ·rw[if_neg h,if_neg h];by_cases k:A1 b≠0
  ·rw[if_pos k]
  ·rw[if_neg k];omega
theorem PX{a b:List UInt8}(h:BG a b=0):A1 a=0∧A1 b=0:=by
 rw[QI]at h;by_cases k:A1 a≠0
 ·rw[if_pos k]at h;exact absurd h k
 ·rw[if_neg k]at h;exact⟨by omega,h⟩
theorem KR:AX 0=[48]:=by
 unfold AX;rw[if_pos (show Rat.den 0=1 from rfl)];show zt 0=[48];unfold zt;rw[if_neg (by decide),show(0:Int).toNat=0 from rfl,zN (by decide)];rfl
theorem Ga{s:List UInt8}(h:BJ s=true):s=[48]↔A2 s=0:=by
 obtain⟨h1,_⟩:=Iy h;constructor
 ·rintro rfl;rw[←KR,DL]
 ·intro e;rw[←h1,e,KR]
theorem Iu{s:List UInt8}(h:Hm s=true):BJ s=true∧s.length≤3000:=by
 unfold Hm at h;rwa [zh,decide_eq_true_eq]at h
theorem rC{s:List UInt8}(h:Hm s=true)(h0:s≠[48]):fG s=true:=by
 unfold fG;rw[h,zS];exact decide_eq_true fun e=>h0 ((Ga (Iu h).1).2 e)
theorem UN{s:List UInt8}(h:fG s=true):Hm s=true∧A2 s≠0:=by
 unfold fG at h;rwa [zh,decide_eq_true_eq]at h
theorem Tq{a b:List UInt8}(h:BG a b=0):CH (BE a b) (DG a b) (Lo a b) 0=true:=by unfold BE DG Lo;rw[h];exact MS _
theorem SA{a b:List UInt8}(h:BG a b=0):CH (Je a b) (Jb a b) (Mp a b) 0=true:=by unfold Je Jb Mp;rw[h];exact MS _
theorem TJ{a b:List UInt8}(h:BG a b=0):CH (CO a b) (EM a b) (NJ a b) 0=true:=by unfold CO EM NJ;rw[h];exact MS _
theorem Zk{a b:List UInt8}(h:Gn a b=0):CH (Ky a b) (He a b) (Sx a b) 0=true:=by unfold Ky He Sx;rw[h];exact MS _
theorem iX{a b:List UInt8}(h:BG a b≠0)(w:List UInt8):CH (BE a b) (DG a b) w (BG a b)=true:=JW h _ _
theorem iY{a b:List UInt8}(h:BG a b≠0)(w:List UInt8):CH (Je a b) (Jb a b) w (BG a b)=true:=JW h _ _
theorem kQ{a b:List UInt8}(h:BG a b≠0)(w:List UInt8):CH (CO a b) (EM a b) w (BG a b)=true:=JW h _ _
theorem V3{a b:List UInt8}(h:Gn a b≠0)(w:List UInt8):CH (Ky a b) (He a b) w (Gn a b)=true:=JW h _ _
theorem Gq{q:Rat}{k:Nat}(h:F7 k q)(hk:k≤400000):(AX q).length≤1000000:=by
 have:=Nb (h.mono (show k≤k+1 by omega)) (by omega);omega
end Go.Sp
end
section
namespace Go.Pe
open Sp
open Go.Det
theorem QV:∀g sp,ZP.sp g=some sp→Ae AS g sp:=fun g sp h=>by cases h
theorem T214.ok:Ae AS 214 Qi:=by
 refine Ax (X:=ZP) rfl QV (d:=9) (by kernel_rfl) (by kernel_rfl) (by kernel_rfl) (fun(i:List UInt8×List UInt8) hi=>?_) (Ad (by kernel_rfl));obtain⟨s,t⟩:=i;have hi:(decide (t=[45])&&decide (s.length≤1000000))=true:=hi;rw[zh,decide_eq_true_eq,decide_eq_true_eq]at hi;obtain⟨rfl,hl⟩:=hi;have hq:∀v ob,v=AU s→Af Qi (s,[45]) (.dat .str v) ob:=fun v ob h=>zw rfl rfl h
 refine zr (T214.An s [45]) ?_;conv=>zeta
 cases s with
 |nil=>exact zp rfl (zg (hq _ _ rfl))
 |cons c r=>
  have e1:Int.toNat (([(45:UInt8)].length:Nat):Int)=1:=rfl;have e2:yh 1 (c::r)=[c]:=rfl;have e3:yh (zK (c::r).length 1) (yo 1 (c::r))=r:=zC (zE _);have g0:(c::r).getD 0 0=c:=rfl;rw[e1,e2,e3];refine zd (decide_eq_true (by simp;omega)) (zd (by simp) (zq (fun d=>zd (by simp) (zg (hq _ _ ?_))) (fun d=>zg (hq _ _ ?_))))
  ·have hc:c=45:=by simpa using d
   unfold AU;rw[g0,if_pos hc];rfl
  ·have hc:c≠45:=by simpa using d
   unfold AU;rw[g0,if_neg hc]
theorem gX:∀g sp,vZ.sp g=some sp→Ae AS g sp:=Aa (T218.ok ER) (Aa T247.ok (fun g sp h=>by cases h))
theorem lV{a:AR}(h:A8 a=true):(Bp (Ag (zu a))).length≤9000:=by
 have hb:=bounds h;have h0:=AE (zu a);refine MJ Aj (by decide) 9000 _ _ ?_;have e:((Aj^9000:Nat):Int)=(Aj:Int)^9000:=Rn 9000;rw[←e]at hb;generalize Aj^9000=P at*;omega
theorem T248.ok:Ae AS 248 eG:=by
 refine Ax (X:=vZ) rfl gX (d:=9) (by kernel_rfl) (by kernel_rfl) (by kernel_rfl) (fun(a:Int×List Int) ha=>?_) (Ad (by kernel_rfl));have ha:A8 a=true:=ha;have hk:=(B0 ha).1;have hl:=lV ha;have hd:=EX (b:=Aj) (by decide) (Ag (zu a));have hd:At Aj (Bp (Ag (zu a))):=hd;have hq:∀v ob,v=NV a→Af eG a (.dat i64 v) ob:=fun v ob h=>zw rfl rfl h
 unfold NV at hq;refine zr (T248.An a) (zd hk ?_);have ea:(Prod.fst a,Prod.snd a)=a:=rfl;rw[ea];generalize Bp (Ag (zu a))=w at*;refine zq (fun c=>zg (hq _ _ ?_)) (fun c=>?_)
 ·have:w=[]:=List.length_eq_zero_iff.1 (by have:(w.length:Int)=0:=(by simpa using c);omega);rw[if_pos this]
 ·have c:(w.length:Int)≠0:=by simpa using c
  have hn:w≠[]:=by rintro rfl;exact c rfl
  have g:=AP hd (w.length-1);have e1:zc .i64 ((w.length:Int)-1)=((w.length-1:Nat):Int):=by rw[wr _ (by omega) (by omega)];omega
  have l2:=RR (Sp.AW g).1 (Sp.AW g).2;rw[e1,zm,wr (64*_) (by omega) (by omega),wr _ (by omega) (by omega)];refine zd (Ac (decide_eq_true (by omega)) (decide_eq_true (by omega))) (zd g (zg (hq _ _ ?_)));rw[if_neg hn];omega
theorem eP:∀g sp,qB.sp g=some sp→Ae AS g sp:=Aa T248.ok (Aa (T200.ok eS) (Aa T214.ok (fun g sp h=>by cases h)))
theorem ZL(n:Int):AU (AT n)=zf n.natAbs:=(C2 n).2.1
theorem OE{a:AR}(h:A8 a=true):(AT (zu a)).length≤180001:=by
 have hb:=bounds h;have ha:=Ai (zu a);have h1:(zf (zu a).natAbs).length≤180000:=GZ ⟨by rw[←ha];exact hb⟩;unfold AT zt;split
 ·rw[zn];omega
 ·rw[show(zu a).toNat=(zu a).natAbs by omega];omega
theorem T199.ok:Ae AS 199 Wy:=by
 refine Ax (X:=qB) rfl eP (d:=9) (by kernel_rfl) (by kernel_rfl) (by kernel_rfl) (fun(a:Int×List Int) ha=>?_) (Ad (by kernel_rfl));have ha:A8 a=true:=ha;have hl:=OE ha;have hq:∀v ob,v=D0 a→Af Wy a (.dat .bool v) ob:=fun v ob h=>zw rfl rfl h
 have hqb:∀v ob,v=D0 a→Af Wy a (.bl v) ob:=fun v ob h=>zw rfl rfl h
 refine zr (T199.An a) (zd ha (zq (fun c=>zd ha (zd (Ac (decide_eq_true rfl) (decide_eq_true (by show(AT (zu a)).length≤1000000;omega))) (zg (hq _ _ ?_)))) (fun c=>zg (hqb _ _ ?_))))
 ·show decide (((AU (AT (zu a))).length:Int)>600)=D0 a;rw[ZL];unfold D0 LW;rw[decide_eq_decide];omega
 ·have c:=of_decide_eq_false c;have c:¬NV a>1800:=c;exact(jL (by omega)).symm
theorem Z0{a:AR}(h:Mm a=true):A8 a=true:=by
 unfold Mm at h;rw[zh,decide_eq_true_eq]at h;unfold A8;rw[h.1,zS];exact decide_eq_true (by omega)
theorem Zn{a:AA}(h:yg a=true):A8 a.1=true∧A8 a.2=true:=by
 unfold yg at h;rw[zh]at h;exact⟨Z0 h.1,Z0 h.2⟩
theorem Wb:∀g sp,rQ.sp g=some sp→Ae AS g sp:=Aa T199.ok (Aa T156.ok (Aa (T200.ok eS) (fun g sp h=>by cases h)))
theorem T131.ok:Ae AS 131 V8:=by
 refine Ax (X:=rQ) rfl Wb (d:=9) (by kernel_rfl) (by kernel_rfl) (by kernel_rfl) (fun(a:(Int×List Int)×(Int×List Int)) ha=>?_) (Ad (by kernel_rfl));obtain⟨h1,h2⟩:=Zn (a:=a) ha;refine zr (T131.An a) (zd h1 (zq (fun c=>zg (zw rfl rfl ?_)) (fun c=>zd h2 (zg (zw rfl rfl ?_)))))
 ·have c:D0 a.1=true:=c;show true=(D0 a.1||D0 a.2);rw[c];rfl
 ·have c:D0 a.1=false:=c;show D0 a.2=(D0 a.1||D0 a.2);rw[c];rfl
theorem T132.ok:Ae AS 132 ZD:=by
 refine Ax (X:=rQ) rfl Wb (d:=9) (by kernel_rfl) (by kernel_rfl) (by kernel_rfl) (fun(a:(Int×List Int)×(Int×List Int)) ha=>?_) (Ad (by kernel_rfl));obtain⟨h1,h2⟩:=Zn (a:=a) ha;have l1:=OE h1;have l2:=OE h2;refine zr (T132.An a) (zd rfl (zq (fun c=>zd h1 (zg (zw rfl rfl ?_))) (fun c=>zd h1 (zd (decide_eq_true (by show(AT (zu a.1)).length+1≤_;omega)) (zd h2 (zd (decide_eq_true (by rw[zx,List.length_singleton];show(AT (zu a.1)).length+1+(AT (zu a.2)).length≤_;omega)) (zg (zw rfl rfl ?_))))))))
 ·have c:Cz a.2=true:=c;show AT (zu a.1)=I3 a;unfold I3;rw[if_pos c]
 ·have c:Cz a.2=false:=c;show AT (zu a.1)++[47]++AT (zu a.2)=I3 a;unfold I3;rw[if_neg (by rw[c];decide),yf];rfl
theorem dZ:∀g sp,pM.sp g=some sp→Ae AS g sp:=Aa T131.ok (Aa T132.ok (fun g sp h=>by cases h))
theorem T103.ok:Ae AS 103 VO:=by
 refine Ax (X:=pM) rfl dZ (d:=9) (by kernel_rfl) (by kernel_rfl) (by kernel_rfl) (fun(a:(Int×List Int)×(Int×List Int)) ha=>?_) (Ad (by kernel_rfl));refine zr (T103.An a) (zd ha (zq (fun c=>zg (zw rfl rfl ?_)) (fun c=>zd ha (zg (zw rfl rfl ?_)))))
 ·have c:Hx a=true:=c;show([],(4:Int))=(Mf a,Mj a);unfold Mf Mj;rw[if_pos c,if_pos c]
 ·have c:Hx a=false:=c;show(I3 a,(0:Int))=(Mf a,Mj a);unfold Mf Mj;rw[if_neg (by rw[c];decide),if_neg (by rw[c];decide)]
theorem VJ:∀g sp,pT.sp g=some sp→Ae AS g sp:=Aa T77.ok (Aa T173.ok (fun g sp h=>by cases h))
namespace T84
theorem Am{Q:PV→Ob→Prop}(l:List (List UInt8))(hl:l.length≤1000)(hs:∀s∈l,s.length≤1000000):∀(r:List (List UInt8)) (i:Nat),l.drop i=r→i≤l.length→(∀ob,Q (.dat i64 (BK r)) ob)→Ends pT (L1 l (l.length:Int) (i:Int)) Q
 |[],i,h,hi,hq=>by
  have:=drop_nil h hi;exact zQ (Au ..) (zp (decide_eq_false (by omega)) (zg (hq _)))
 |x::r,i,h,hi,hq=>by
  obtain⟨g1,g2,g3⟩:=drop_cons (d:=([]:List UInt8)) h;have hx:x∈l:=List.mem_of_mem_drop (by rw[h];exact List.mem_cons_self ..);have e1:zc .i64 ((i:Int)+1)=((i+1:Nat):Int):=by rw[wr _ (by omega) (by omega)];omega
  unfold BK at hq;refine zQ (Au ..) ?_;conv=>zeta
  rw[zm,g2,e1];refine zd (decide_eq_true (by omega)) (zd (Ac (decide_eq_true (by omega)) (decide_eq_true (by omega))) (zd (decide_eq_true (hs x hx)) (zq (fun c=>zg ?_) (fun c=>Am l hl hs r (i+1) g3 g1 ?_))))
  ·have c:A1 x≠0:=by simpa using c
   rw[if_pos c]at hq;exact hq _
  ·have c:A1 x=0:=by simpa using c
   rw[if_neg (by rw[c];decide)]at hq;exact hq
theorem ok:Ae AS 84 Wi:=by
 refine Ax (X:=pT) rfl VJ (d:=9) (by kernel_rfl) (by kernel_rfl) (by kernel_rfl) (fun(l:List (List UInt8)) hi=>?_) (Ad (by kernel_rfl));have hi:(decide (l.length≤1000)&&l.all fun s=>decide (s.length≤1000000))=true:=hi;rw[zh,decide_eq_true_eq,List.all_eq_true]at hi;exact zr (An l) (Am l hi.1 (fun s h=>of_decide_eq_true (hi.2 s h)) l 0 rfl (Nat.zero_le _) (fun ob=>zw rfl rfl rfl))
end T84
theorem T110.ok:Ae AS 110 mH:=by
 refine Ax (X:=pT) rfl VJ (d:=9) (by kernel_rfl) (by kernel_rfl) (by kernel_rfl) (fun(a:(Int×List Int)×(Int×List Int)) ha=>?_) (Ad (by kernel_rfl));exact zr (T110.An a) (zd ha (zg (zw rfl rfl rfl)))
end Go.Pe
end
section
namespace Go.Sp
structure Nu(k:Nat)(s:List UInt8)(q:Rat):Prop where
 t:s=AX q
 z:F7 k q
theorem Nu.rat{k:Nat}{s:List UInt8}{q:Rat}(h:Nu k s q):A2 s=q:=by rw[h.t,DL]
theorem VS{k:Nat}{q:Rat}(h:F7 k q)(hk:k≤600):IT q=false:=Uz.2 (h.mono hk)
theorem Nu.check{k:Nat}{s:List UInt8}{q:Rat}(h:Nu k s q)(hk:k≤600):A1 s=0:=by
 rw[h.t,UD,VS h.z hk,if_neg (by decide)]
theorem Nu.num{k:Nat}{s:List UInt8}{q:Rat}(h:Nu k s q)(hk:k≤1999):BJ s=true:=by rw[h.t];exact PI h.z hk
theorem Nu.Hm{k:Nat}{s:List UInt8}{q:Rat}(h:Nu k s q)(hk:k≤1400):Sp.Hm s=true:=by
 unfold Sp.Hm;rw[h.num (by omega),zS,decide_eq_true_eq,h.t];have:=Nb (h.z.mono (show k≤k+1 by omega)) (by omega);omega
theorem Nu.len{k:Nat}{s:List UInt8}{q:Rat}(h:Nu k s q)(hk:k≤1999):s.length≤1000000:=by
 rw[h.t];exact Gq h.z (by omega)
theorem Nu.BG{i j:Nat}{a b:List UInt8}{p q:Rat}(ha:Nu i a p)(hb:Nu j b q)(hi:i≤600)(hj:j≤600):Sp.BG a b=0:=by
 rw[QI,ha.check hi,hb.check hj,if_neg (by decide)]
theorem cE{k:Nat}{q:Rat}(h:F7 k q)(hk:k≤600):TZ 0 q=AX q∧SD 0 q=0:=by
 unfold TZ SD;rw[VS h hk];exact⟨rfl,rfl⟩
theorem Nu.op{k:Nat}{q:Rat}(h:F7 k q)(hk:k≤600):Nu k (TZ 0 q) q∧SD 0 q=0:=by
 rw[(cE h hk).1];exact⟨⟨rfl,h⟩,(cE h hk).2⟩
theorem Nu.add{i j:Nat}{a b:List UInt8}{p q:Rat}(ha:Nu i a p)(hb:Nu j b q)(h:i+j+1≤600):Nu (i+j+1) (BE a b) (p+q)∧DG a b=0:=by
 unfold BE DG;rw[Nu.BG ha hb (by omega) (by omega),ha.rat,hb.rat];exact Nu.op (ha.z.add hb.z) h
theorem Nu.sub{i j:Nat}{a b:List UInt8}{p q:Rat}(ha:Nu i a p)(hb:Nu j b q)(h:i+j+1≤600):Nu (i+j+1) (Je a b) (p-q)∧Jb a b=0:=by
 unfold Je Jb;rw[Nu.BG ha hb (by omega) (by omega),ha.rat,hb.rat];exact Nu.op (ha.z.sub hb.z) h
theorem Nu.mul{i j:Nat}{a b:List UInt8}{p q:Rat}(ha:Nu i a p)(hb:Nu j b q)(h:i+j≤600):Nu (i+j) (CO a b) (p*q)∧EM a b=0:=by
 unfold CO EM;rw[Nu.BG ha hb (by omega) (by omega),ha.rat,hb.rat];exact Nu.op (ha.z.mul hb.z) h
theorem Nu.Ga{k:Nat}{s:List UInt8}{q:Rat}(h:Nu k s q)(hk:k≤1999):s=[48]↔q=0:=by
 rw[Sp.Ga (h.num hk),h.rat]
theorem Nu.div{i j:Nat}{a b:List UInt8}{p q:Rat}(ha:Nu i a p)(hb:Nu j b q)(h:i+j≤600)(h0:q≠0):Nu (i+j) (Ky a b) (p/q)∧He a b=0:=by
 have hz:b≠[48]:=fun e=>h0 ((hb.Ga (by omega)).1 e)
 unfold Ky He Gn;rw[Nu.BG ha hb (by omega) (by omega),if_neg (by decide),if_neg hz,ha.rat,hb.rat];exact Nu.op (ha.z.div hb.z h0) h
theorem Nu.cmp{i j:Nat}{a b:List UInt8}{p q:Rat}(ha:Nu i a p)(hb:Nu j b q):TE a b=if p<q then -1 else if q<p then 1 else 0:=by
 unfold TE;rw[ha.rat,hb.rat]
theorem Nu.lO{i j:Nat}{a b:List UInt8}{p q:Rat}(ha:Nu i a p)(hb:Nu j b q)(hi:i≤600)(hj:j≤600):Cs a b=if p<q then -1 else if q<p then 1 else 0:=by
 unfold Cs;rw[Nu.BG ha hb hi hj,if_neg (by decide),Nu.cmp ha hb]
theorem Nu.eq_iff{i j:Nat}{a b:List UInt8}{p q:Rat}(ha:Nu i a p)(hb:Nu j b q):a=b↔p=q:=by
 rw[ha.t,hb.t];exact⟨Pg,fun h=>by rw[h]⟩
theorem Nu.same{i j:Nat}{s t:List UInt8}{p q:Rat}(h:Nu i s p)(k:Nu j t q)(e:p=q):s=t:=by rw[h.t,k.t,e]
theorem UL{a:List UInt8}{n:Nat}(h:Jw a (n:Int)=true):Nu n a (A2 a)∧A1 a=0:=by
 unfold Jw at h;rw[zh,zh,zh,decide_eq_true_eq,decide_eq_true_eq,decide_eq_true_eq,decide_eq_true_eq]at h;obtain⟨⟨⟨_,f2⟩,f3⟩,f4⟩:=h;obtain⟨t,_,_,_⟩:=K3 f2;rw[←t]at f3 f4;rw[S3]at f4;rw[(E9 _).1,(C2 _).2.1]at f3;refine⟨⟨t.symm,CB _ (by omega),CB _ (by omega)⟩,f2⟩
theorem R2{a:List UInt8}(h:A1 a=0):Nu 600 a (A2 a):=by
 obtain⟨t,_,_,z⟩:=K3 h;exact⟨t.symm,z⟩
theorem dV{p q:Rat}(h:p=q):(if p<q then(-1:Int)else if q<p then 1 else 0)=0:=by
 subst h;rw[if_neg Rat.lt_irrefl,if_neg Rat.lt_irrefl]
theorem Sd(p q:Rat):(if p<q then(-1:Int)else if q<p then 1 else 0)=0↔p=q:=by
 refine⟨fun h=>?_,dV⟩;split at h
 ·exact absurd h (by decide)
 ·next c=>
  split at h
  ·exact absurd h (by decide)
  ·next d=>exact Rat.le_antisymm (Rat.not_lt.1 d) (Rat.not_lt.1 c)
theorem Yl(a c:Rat):(if a+c<c then(-1:Int)else if c<a+c then 1 else 0)=if a<0 then -1 else if 0<a then 1 else 0:=by
 have h1:a+c<c↔a<0:=by
  have:=Rat.add_lt_add_right (a:=a) (b:=0) (c:=c);rwa [Rat.zero_add]at this
 have h2:c<a+c↔0<a:=by
  have:=Rat.add_lt_add_right (a:=0) (b:=a) (c:=c);rwa [Rat.zero_add]at this
 simp only[h1,h2]
theorem bE(p q:Rat):(if q<p then(-1:Int)else if p<q then 1 else 0)= -(if p<q then(-1:Int)else if q<p then 1 else 0):=by
 by_cases h:p<q
 ·have:¬q<p:=Rat.not_lt.2 (Rat.le_of_lt h);rw[if_neg this,if_pos h,if_pos h];rfl
 ·rw[if_neg h,if_neg h];split<;>rfl
end Go.Sp
end
section
namespace Go.Sp
end Go.Sp
end
section
namespace Go.Pe
open Sp
open Go.Det
theorem T111.ok:Ae AS 111 cF:=by
 refine Ax (X:=RW) rfl FC (d:=9) (by kernel_rfl) (by kernel_rfl) (by kernel_rfl) (fun(n:Int) _=>?_) (Ad (by kernel_rfl));exact zr (T111.An n) (zd rfl (zd rfl (zg (zw rfl rfl rfl))))
theorem Kl:∀g sp,bN.sp g=some sp→Ae AS g sp:=Aa T83.ok (Aa T85.ok (Aa T84.ok (Aa T87.ok (Aa T80.ok (Aa T81.ok (Aa T82.ok (Aa T86.ok (Aa T88.ok (Aa T103.ok (Aa T104.ok (Aa T105n.ok (Aa T110.ok (Aa T111.ok (Aa T112.ok (Aa T77.ok (fun g sp h=>by cases h))))))))))))))))
structure wJ(a b:List UInt8):Prop where
 na:BJ a=true
 nb:BJ b=true
 za:F7 600 (A2 a)
 zb:F7 600 (A2 b)
 ra:EE (tI a) (A2 a)
 rb:EE (tI b) (A2 b)
 sa:JE 4000 (A2 a)
 sb:JE 4000 (A2 b)
 ta:EW a=true
 tb:EW b=true
theorem JX{a b:List UInt8}(h:BK [a,b]=0):wJ a b:=by
 obtain⟨h1,h2⟩:=PX (a:=a) (b:=b) h;obtain⟨n1,z1⟩:=N9 h1;obtain⟨n2,z2⟩:=N9 h2;exact⟨n1,n2,z1,z2,SL n1,SL n2,Jx z1 (by decide),Jx z2 (by decide),(D3 n1).2.2.2.2.2.2.1,(D3 n2).2.2.2.2.2.2.1⟩
theorem Kx{a b:List UInt8}(h:Ju a b=true):(decide ((2:Nat)≤2)&&true&&(decide ((2:Nat)≤1000)&&yd [a,b] fun s=>decide (ym s≤1000000)))=true:=by
 unfold Ju at h;rw[zh]at h;show(decide (a.length≤1000000)&&(decide (b.length≤1000000)&&true))=true;rw[h.1,h.2];rfl
theorem Qg{e:Int}(h:e≠0)(q:Rat):([],e)=(TZ e q,SD e q):=by
 unfold TZ SD;rw[if_pos h,if_pos h]
theorem Ql{f:AA}{q:Rat}(h:EE f q){e:Int}(he:e=0):(Mf f,Mj f)=(TZ e q,SD e q):=by
 rw[he,(VL h).1,(VL h).2]
theorem EE.div{f g:AA}{p q:Rat}(hf:EE f p)(hg:EE g q)(sp:JE 4000 p)(sq:JE 4000 q)(si:JE 4000 q⁻¹)(h0:q≠0):EE (X9 f g) (p/q):=by
 rw[Rat.div_def];exact EE.mul hf (EE.inv hg sq h0) sp si
theorem T18.ok:Ae AS 18 eV:=by
 refine Ax (X:=bN) rfl Kl (d:=9) (by kernel_rfl) (by kernel_rfl) (by kernel_rfl) (fun(i:List UInt8×List UInt8) hi=>?_) (Ad (by kernel_rfl));obtain⟨a,b⟩:=i;refine zr (T18.An a b) (zd (Kx hi) (zq (fun c=>zg (zw rfl rfl (Qg (by simpa using c) _))) (fun c=>?_)));have c:BK [a,b]=0:=by simpa using c
 have p:=JX c;have r:=EE.add p.ra p.rb p.sa p.sb;exact zd p.ta (zd p.tb (zd (Ac (p.ra.D5 p.sa) (p.rb.D5 p.sb)) (zd (r.Ec (Jx (p.za.add p.zb) (by decide))) (zg (zw rfl rfl (Ql r c))))))
theorem T19.ok:Ae AS 19 Zy:=by
 refine Ax (X:=bN) rfl Kl (d:=9) (by kernel_rfl) (by kernel_rfl) (by kernel_rfl) (fun(i:List UInt8×List UInt8) hi=>?_) (Ad (by kernel_rfl));obtain⟨a,b⟩:=i;refine zr (T19.An a b) (zd (Kx hi) (zq (fun c=>zg (zw rfl rfl (Qg (by simpa using c) _))) (fun c=>?_)));have c:BK [a,b]=0:=by simpa using c
 have p:=JX c;have r:=EE.sub p.ra p.rb p.sa p.sb;exact zd p.ta (zd p.tb (zd (Ac (p.ra.D5 p.sa) (p.rb.D5 p.sb)) (zd (r.Ec (Jx (p.za.sub p.zb) (by decide))) (zg (zw rfl rfl (Ql r c))))))
theorem T20.ok:Ae AS 20 eF:=by
 refine Ax (X:=bN) rfl Kl (d:=9) (by kernel_rfl) (by kernel_rfl) (by kernel_rfl) (fun(i:List UInt8×List UInt8) hi=>?_) (Ad (by kernel_rfl));obtain⟨a,b⟩:=i;refine zr (T20.An a b) (zd (Kx hi) (zq (fun c=>zg (zw rfl rfl (Qg (by simpa using c) _))) (fun c=>?_)));have c:BK [a,b]=0:=by simpa using c
 have p:=JX c;have r:=EE.mul p.ra p.rb p.sa p.sb;exact zd p.ta (zd p.tb (zd (Ac (p.ra.D5 p.sa) (p.rb.D5 p.sb)) (zd (r.Ec (Jx (p.za.mul p.zb) (by decide))) (zg (zw rfl rfl (Ql r c))))))
theorem Px(x y:Int):zT [x,y]=if x≠0 then x else y:=by
 by_cases h:x≠0
 ·rw[if_pos h];unfold zT
  simp[h]
 ·rw[if_neg h];have h:x=0:=by omega
  subst h;unfold zT zT zT
  simp;intro k;exact k.symm
theorem XN(a b:List UInt8):zT [BK [a,b],LQ (b==[48]) 6]=Gn a b:=by
 rw[Px];unfold Gn;show(if BG a b≠0 then BG a b else _)=_;by_cases h:BG a b≠0
 ·rw[if_pos h,if_pos h]
 ·rw[if_neg h,if_neg h];unfold LQ;by_cases k:b=[48]
  ·rw[if_pos k,k];rfl
  ·rw[if_neg k];have:(b==[48])=false:=by simpa using k
   rw[this];rfl
theorem T21.ok:Ae AS 21 bJ:=by
 refine Ax (X:=bN) rfl Kl (d:=9) (by kernel_rfl) (by kernel_rfl) (by kernel_rfl) (fun(i:List UInt8×List UInt8) hi=>?_) (Ad (by kernel_rfl));obtain⟨a,b⟩:=i;have ha:=Kx hi;refine zr (T21.An a b) ?_;conv=>zeta
 rw[XN];refine zd ha (zd rfl (zd rfl (zq (fun c=>zg (zw rfl rfl (Qg (by simpa using c) _))) (fun c=>zd ha (zp ?_ ?_)))))
 ·have c:Gn a b=0:=by simpa using c
  have h2:BG a b=0:=by
   unfold Gn at c;split at c
   ·next h=>exact absurd c h
   ·next h=>omega
  have h2:BK [a,b]=0:=h2;rw[h2];rfl
 ·have c:Gn a b=0:=by simpa using c
  have h2:BG a b=0∧b≠[48]:=by
   unfold Gn at c;split at c
   ·next h=>exact absurd c h
   ·next h=>
    refine⟨by omega,fun k=>?_⟩;rw[if_pos k]at c;exact absurd c (by decide)
  have p:=JX (a:=a) (b:=b) h2.1;have h0:A2 b≠0:=fun e=>h2.2 ((Ga p.nb).2 e)
  have r:=EE.div p.ra p.rb p.sa p.sb (Jx (p.zb.inv h0) (by decide)) h0;exact zd p.ta (zd p.tb (zd (Ac (Ac (p.ra.D5 p.sa) (p.rb.D5 p.sb)) ((p.rb.HS).trans (decide_eq_true h0))) (zd (r.Ec (Jx (p.za.div p.zb h0) (by decide))) (zg (zw rfl rfl (Ql r c))))))
theorem T22.ok:Ae AS 22 Z8:=by
 refine Ax (X:=bN) rfl Kl (d:=9) (by kernel_rfl) (by kernel_rfl) (by kernel_rfl) (fun(i:List UInt8×List UInt8) hi=>?_) (Ad (by kernel_rfl));obtain⟨a,b⟩:=i;refine zr (T22.An a b) (zd (Kx hi) (zq (fun c=>zg (zw rfl rfl ?_)) (fun c=>?_)))
 ·have c:BK [a,b]≠0:=by simpa using c
  have c:BG a b≠0:=c;show((0:Int),BG a b)=(Cs a b,BG a b);unfold Cs;rw[if_pos c]
 ·have c:BK [a,b]=0:=by simpa using c
  have p:=JX c;refine zd p.ta (zd p.tb (zd (Ac (p.ra.Ec p.sa) (p.rb.Ec p.sb)) (zg (zw rfl rfl ?_))));show(bY (tI a) (tI b),(0:Int))=(Cs a b,BG a b);have c:BG a b=0:=c;unfold Cs;rw[c,if_neg (by decide),EE.cmp p.ra p.rb];rfl
namespace T16
theorem Am{Q:PV→Ob→Prop}(l:List (List UInt8))(hl:l.length≤1000):∀(r:List (List UInt8)) (i:Nat),l.drop i=r→i≤l.length→(∀ob,Q (.bl (HK r)) ob)→Ends ZP (L1 l (i:Int)) Q
 |[],i,h,hi,hq=>by
  have:=drop_nil h hi;exact zQ (Au ..) (zp (decide_eq_false (by omega)) (zg (hq _)))
 |x::r,i,h,hi,hq=>by
  obtain⟨g1,g2,g3⟩:=drop_cons (d:=([]:List UInt8)) h;have e1:zc .i64 ((i:Int)+1)=((i+1:Nat):Int):=by rw[wr _ (by omega) (by omega)];omega
  have eb:HK (x::r)=(decide (x.length≤1300)&&HK r):=rfl;rw[eb]at hq;refine zQ (Au ..) ?_;conv=>zeta
  rw[zm,g2,e1];refine zd (decide_eq_true (by omega)) (zd (Ac (decide_eq_true (by omega)) (decide_eq_true (by omega))) (zq (fun c=>zg ?_) (fun c=>Am l hl r (i+1) g3 g1 ?_)))
  ·have c:=of_decide_eq_true c;rw[decide_eq_false (show ¬x.length≤1300 by omega)]at hq;exact hq _
  ·have c:=of_decide_eq_false c;rw[decide_eq_true (show x.length≤1300 by omega)]at hq;exact hq
theorem ok:Ae AS 16 cY:=by
 refine Ax (X:=ZP) rfl QV (d:=9) (by kernel_rfl) (by kernel_rfl) (by kernel_rfl) (fun(l:List (List UInt8)) hi=>?_) (Ad (by kernel_rfl));exact zr (An l) (Am l (of_decide_eq_true hi) l 0 rfl (Nat.zero_le _) (fun ob=>zw rfl rfl rfl))
end T16
end Go.Pe
end
section
namespace Go.Pe
open Sp
open Go.Det
noncomputable section
open List Int Prod
namespace T27
def T(a b:List UInt8):Tr:=tree bU false 9 27 (Ah ([ze,ze]) (a,b))
def L1(v0 v1:List UInt8):Tr:=re ((T [] []).L.L.L.R) (AI 63 [(0,.dat ze v0),(1,.dat ze v1)] [] 0)
theorem An(a b:List UInt8):T a b=let a':=zc .i64 (zc .i64 (aD a*Tm b)+zc .i64 (aD b*Tm a));let b':=zc .i64 (Tm a*Tm b);.ite (BJ a) (.ite (BJ b) (.ite (DE a) (.ite (DE b) (.ite (CS a'&&CS b'&&decide (zc .i64 (Tm a*Tm b)≠0)) (.leaf (.dat ze (CQ a' b')) []) .fail) (L1 a b)) (L1 a b)) .fail) .fail:=by kernel_rfl
theorem Au(v0 v1:List UInt8):stepT bU (L1 v0 v1)=let b':=(GV (Bw v0,Bo v0) (Bg v1,Be v1),G2 (Bw v0,Bo v0) (Bg v1,Be v1));let c':=(GV (Bw v1,Bo v1) (Bg v0,Be v0),G2 (Bw v1,Bo v1) (Bg v0,Be v0));let d':=(GV (Bg v0,Be v0) (Bg v1,Be v1),G2 (Bg v0,Be v0) (Bg v1,Be v1));let a':=(LH b' c',LY b' c');.ite (EW v0) (.ite (EW v1) (.ite (CA (Bw v0,Bo v0)&&CA (Bg v1,Be v1)) (.ite (CA (Bw v1,Bo v1)&&CA (Bg v0,Be v0)) (.ite (CA b'&&CA c') (.ite (CA (Bg v0,Be v0)&&CA (Bg v1,Be v1)) (.ite (CA a'&&CA d'&&decide (Sp.vR d'≠0)) (.leaf (.dat ze (Hj a' d')) ([(zl (zl (zl 0 1) 1) 1,.box [.dat zj (Bg v1),.dat (zi i64) (Be v1)]),(zl (zl 0 1) 1,.box [.dat zj (Bw v1),.dat (zi i64) (Bo v1)]),(zl 0 1,.box [.dat zj (Bg v0),.dat (zi i64) (Be v0)]),(0,.box [.dat zj (Bw v0),.dat (zi i64) (Bo v0)])])) .fail) .fail) .fail) .fail) .fail) .fail) .fail:=by kernel_rfl
end T27
namespace T29
def T(a b:List UInt8):Tr:=tree bU false 9 29 (Ah ([ze,ze]) (a,b))
def L1(v0 v1:List UInt8):Tr:=re ((T [] []).L.L.L.R) (AI 55 [(0,.dat ze v0),(1,.dat ze v1)] [] 0)
theorem An(a b:List UInt8):T a b=let a':=zc .i64 (aD a*aD b);let b':=zc .i64 (Tm a*Tm b);.ite (BJ a) (.ite (BJ b) (.ite (DE a) (.ite (DE b) (.ite (CS a'&&CS b'&&decide (zc .i64 (Tm a*Tm b)≠0)) (.leaf (.dat ze (CQ a' b')) []) .fail) (L1 a b)) (L1 a b)) .fail) .fail:=by kernel_rfl
theorem Au(v0 v1:List UInt8):stepT bU (L1 v0 v1)=let a':=(GV (Bg v0,Be v0) (Bg v1,Be v1),G2 (Bg v0,Be v0) (Bg v1,Be v1));let b':=(GV (Bw v0,Bo v0) (Bw v1,Bo v1),G2 (Bw v0,Bo v0) (Bw v1,Bo v1));.ite (EW v0) (.ite (EW v1) (.ite (CA (Bw v0,Bo v0)&&CA (Bw v1,Bo v1)) (.ite (CA (Bg v0,Be v0)&&CA (Bg v1,Be v1)) (.ite (CA b'&&CA a'&&decide (Sp.vR a'≠0)) (.leaf (.dat ze (Hj b' a')) ([(zl (zl (zl 0 1) 1) 1,.box [.dat zj (Bg v1),.dat (zi i64) (Be v1)]),(zl (zl 0 1) 1,.box [.dat zj (Bw v1),.dat (zi i64) (Bo v1)]),(zl 0 1,.box [.dat zj (Bg v0),.dat (zi i64) (Be v0)]),(0,.box [.dat zj (Bw v0),.dat (zi i64) (Bo v0)])])) .fail) .fail) .fail) .fail) .fail:=by kernel_rfl
end T29
namespace T94
def T(a:List UInt8):Tr:=tree bU false 9 94 (Ah ([ze]) a)
theorem An(a:List UInt8):T a=.ite (EW a) (.ite (CA (Bg a,Be a)&&CA (Bw a,Bo a)&&decide (Sp.vR (Bw a,Bo a)≠0)) (.leaf (.dat ze (Hj (Bg a,Be a) (Bw a,Bo a))) ([(zl 0 1,.box [.dat zj (Bg a),.dat (zi i64) (Be a)]),(0,.box [.dat zj (Bw a),.dat (zi i64) (Bo a)])])) .fail) .fail:=by kernel_rfl
end T94
namespace T28
def T(a b:List UInt8):Tr:=tree tS false 9 28 (Ah ([ze,ze]) (a,b))
theorem An(a b:List UInt8):T a b=.ite (decide (length b≤1000000)) (.ite (BJ a&&BJ (JG b)) (.leaf (.dat ze (Lo a (JG b))) []) .fail) .fail:=by kernel_rfl
end T28
namespace T26
def T(a b:List UInt8):Tr:=tree tS false 9 26 (Ah ([ze,ze]) (a,b))
theorem An(a b:List UInt8):T a b=.ite (fG b) (.ite (BJ a&&BJ (Pf b)) (.leaf (.dat ze (NJ a (Pf b))) []) .fail) .fail:=by kernel_rfl
end T26
namespace T30
def T(a b:List UInt8):Tr:=tree tT false 9 30 (Ah ([ze,ze]) (a,b))
theorem An(a b:List UInt8):T a b=.ite (BJ a&&Hm b) (.ite (decide (length (Mp a b)≤1000000)) (.leaf (.dat i64 (Gs (Mp a b))) []) .fail) .fail:=by kernel_rfl
end T30
namespace T93
def T(a:List UInt8):Tr:=tree tT false 9 93 (Ah ([ze]) a)
theorem An(a:List UInt8):T a=let a':=decide (length a≤1000000);let b':Tr:=.leaf (.dat i64 (4:Int)) [];.ite a' (.ite (decide (length (Aw a)≤1000000)) (.ite (decide ((↑(length (AU (Aw a))):Int)>600)) b' (.ite a' (.ite (decide ((↑(length (O7 a)):Int)>600)) b' (.leaf (.dat i64 (0:Int)) [])) .fail)) .fail) .fail:=by kernel_rfl
end T93
end
end Go.Pe
end
section
namespace Go.Pe
open Sp
open Go.Det
noncomputable section
open List Int Prod
namespace T229
def T(a:List Int)(i:Int):Tr:=tree vT false 9 229 (Ah ([zi i64,zy zD]) (a,i))
theorem An(a:List Int)(i:Int):T a i=.ite (decide (i<(length a:Int))) (.ite (decide (0≤i)&&decide (i<(length a:Int))) (.leaf (.dat i64 (getD a (toNat i) 0)) []) .fail) (.leaf (.dat i64 (0:Int)) []):=by kernel_rfl
end T229
namespace T169
def T(a b:List Int):Tr:=tree RZ false 9 169 (Ah ([zi i64,zi i64]) (a,b))
def L1(v0 v1:List Int)(v6 v7:Int):Tr:=re ((T [] [])) (AI 42 [(0,.dat (zi i64) v0),(1,.dat (zi i64) v1),(5,.nil),(6,.dat i64 v6),(7,.dat i64 v7)] [] 0)
theorem An(a b:List Int):T a b=L1 a b 0 0:=by kernel_rfl
def L2(v0 v1:List Int)(v5n:Nat)(v6 v7:Int)(o0:List Int):Tr:=re ((stepT RZ (L1 [] [] 0 0)).L.L.L.L.L.L) (AI 42 [(0,.dat (zi i64) v0),(1,.dat (zi i64) v1),(5,.sl 0 1 0 v5n none),(6,.dat i64 v6),(7,.dat i64 v7)] [(0,.arr false 3 i64 o0)] 1)
theorem Au(v0 v1:List Int)(v6 v7:Int):stepT RZ (L1 v0 v1 v6 v7)=.ite (decide (v7<(length v0:Int))) (.ite (decide (0≤v7)) (.ite (decide (0≤v7)) (.ite true (.ite (decide (1≤1)&&decide (0<1)&&decide ((2*1+1000)*8≤281474976710656)) (.ite true (L2 v0 v1 1 (zc .i64 (zW (zc .i64 (zc .i64 (Hd v0 v7+Hd v1 v7)+v6)) 1000000000)) (zc .i64 (v7+1)) ([zG (zc .i64 (zc .i64 (Hd v0 v7+Hd v1 v7)+v6)) 1000000000])) .fail) .fail) .fail) .fail) .fail) (.ite (decide (v7<(length v1:Int))) (.ite (decide (0≤v7)) (.ite (decide (0≤v7)) (.ite true (.ite (decide (1≤1)&&decide (0<1)&&decide ((2*1+1000)*8≤281474976710656)) (.ite true (L2 v0 v1 1 (zc .i64 (zW (zc .i64 (zc .i64 (Hd v0 v7+Hd v1 v7)+v6)) 1000000000)) (zc .i64 (v7+1)) ([zG (zc .i64 (zc .i64 (Hd v0 v7+Hd v1 v7)+v6)) 1000000000])) .fail) .fail) .fail) .fail) .fail) (.ite (decide (v6>0)) (.ite (decide (0≤v7)) (.ite (decide (0≤v7)) (.ite true (.ite (decide (1≤1)&&decide (0<1)&&decide ((2*1+1000)*8≤281474976710656)) (.ite true (L2 v0 v1 1 (zc .i64 (zW (zc .i64 (zc .i64 (Hd v0 v7+Hd v1 v7)+v6)) 1000000000)) (zc .i64 (v7+1)) ([zG (zc .i64 (zc .i64 (Hd v0 v7+Hd v1 v7)+v6)) 1000000000])) .fail) .fail) .fail) .fail) .fail) (.leaf .nil []))):=by kernel_rfl
theorem A4(v0 v1:List Int)(v5n:Nat)(v6 v7:Int)(o0:List Int):stepT RZ (L2 v0 v1 v5n v6 v7 o0)=.ite (decide (v7<(length v0:Int))) (.ite (decide (0≤v7)) (.ite (decide (0≤v7)) (.ite true (.ite (decide (1≤1)&&true&&decide (v5n=length o0)&&decide ((2*(v5n+1)+1000)*8≤281474976710656)) (.ite true (L2 v0 v1 (zl v5n 1) (zc .i64 (zW (zc .i64 (zc .i64 (Hd v0 v7+Hd v1 v7)+v6)) 1000000000)) (zc .i64 (v7+1)) (o0++[zG (zc .i64 (zc .i64 (Hd v0 v7+Hd v1 v7)+v6)) 1000000000])) .fail) .fail) .fail) .fail) .fail) (.ite (decide (v7<(length v1:Int))) (.ite (decide (0≤v7)) (.ite (decide (0≤v7)) (.ite true (.ite (decide (1≤1)&&true&&decide (v5n=length o0)&&decide ((2*(v5n+1)+1000)*8≤281474976710656)) (.ite true (L2 v0 v1 (zl v5n 1) (zc .i64 (zW (zc .i64 (zc .i64 (Hd v0 v7+Hd v1 v7)+v6)) 1000000000)) (zc .i64 (v7+1)) (o0++[zG (zc .i64 (zc .i64 (Hd v0 v7+Hd v1 v7)+v6)) 1000000000])) .fail) .fail) .fail) .fail) .fail) (.ite (decide (v6>0)) (.ite (decide (0≤v7)) (.ite (decide (0≤v7)) (.ite true (.ite (decide (1≤1)&&true&&decide (v5n=length o0)&&decide ((2*(v5n+1)+1000)*8≤281474976710656)) (.ite true (L2 v0 v1 (zl v5n 1) (zc .i64 (zW (zc .i64 (zc .i64 (Hd v0 v7+Hd v1 v7)+v6)) 1000000000)) (zc .i64 (v7+1)) (o0++[zG (zc .i64 (zc .i64 (Hd v0 v7+Hd v1 v7)+v6)) 1000000000])) .fail) .fail) .fail) .fail) .fail) (.leaf (.sl 0 1 0 v5n none) ([(0,.arr false 3 i64 o0)])))):=by kernel_rfl
end T169
namespace T171
def T(a b:List Int):Tr:=tree RZ false 9 171 (Ah ([zi i64,zi i64]) (a,b))
def L1(v0 v1:List Int)(v6 v7:Int):Tr:=re ((T [] [])) (AI 35 [(0,.dat (zi i64) v0),(1,.dat (zi i64) v1),(5,.nil),(6,.dat i64 v6),(7,.dat i64 v7)] [] 0)
theorem An(a b:List Int):T a b=L1 a b 0 0:=by kernel_rfl
def L2(v0 v1:List Int)(v5n:Nat)(v6 v7:Int)(o0:List Int):Tr:=re ((stepT RZ (L1 [] [] 0 0)).L.L.L.L.L) (AI 35 [(0,.dat (zi i64) v0),(1,.dat (zi i64) v1),(5,.sl 0 1 0 v5n none),(6,.dat i64 v6),(7,.dat i64 v7)] [(0,.arr false 3 i64 o0)] 1)
theorem Au(v0 v1:List Int)(v6 v7:Int):stepT RZ (L1 v0 v1 v6 v7)=.ite (decide (v7<(length v0:Int))) (.ite (decide (0≤v7)&&decide (v7<(length v0:Int))) (.ite (decide (0≤v7)) (.ite (decide (zc .i64 (zc .i64 (getD v0 (toNat v7) 0-Hd v1 v7)-v6)<0)) (.ite (decide (1≤1)&&decide (0<1)&&decide ((2*1+1000)*8≤281474976710656)) (L2 v0 v1 1 1 (zc .i64 (v7+1)) ([zc .i64 (zc .i64 (zc .i64 (getD v0 (toNat v7) 0-Hd v1 v7)-v6)+1000000000)])) .fail) (.ite (decide (1≤1)&&decide (0<1)&&decide ((2*1+1000)*8≤281474976710656)) (L2 v0 v1 1 0 (zc .i64 (v7+1)) ([zc .i64 (zc .i64 (getD v0 (toNat v7) 0-Hd v1 v7)-v6)])) .fail)) .fail) .fail) (.ite true (.leaf (.dat (zi i64) (Ar [])) []) .fail):=by kernel_rfl
theorem A4(v0 v1:List Int)(v5n:Nat)(v6 v7:Int)(o0:List Int):stepT RZ (L2 v0 v1 v5n v6 v7 o0)=.ite (decide (v7<(length v0:Int))) (.ite (decide (0≤v7)&&decide (v7<(length v0:Int))) (.ite (decide (0≤v7)) (.ite (decide (zc .i64 (zc .i64 (getD v0 (toNat v7) 0-Hd v1 v7)-v6)<0)) (.ite (decide (1≤1)&&true&&decide (v5n=length o0)&&decide ((2*(v5n+1)+1000)*8≤281474976710656)) (L2 v0 v1 (zl v5n 1) 1 (zc .i64 (v7+1)) (o0++[zc .i64 (zc .i64 (zc .i64 (getD v0 (toNat v7) 0-Hd v1 v7)-v6)+1000000000)])) .fail) (.ite (decide (1≤1)&&true&&decide (v5n=length o0)&&decide ((2*(v5n+1)+1000)*8≤281474976710656)) (L2 v0 v1 (zl v5n 1) 0 (zc .i64 (v7+1)) (o0++[zc .i64 (zc .i64 (getD v0 (toNat v7) 0-Hd v1 v7)-v6)])) .fail)) .fail) .fail) (.ite (decide (0+v5n≤length o0)&&true&&decide (length (take v5n o0)≤20000)) (.leaf (.dat (zi i64) (Ar (take v5n o0))) ([(0,.arr true 3 i64 o0)])) .fail):=by kernel_rfl
end T171
namespace T97
def T(a b:Bool×List Int):Tr:=tree nO false 9 97 (Ah ([zz zj (zi i64),zz zj (zi i64)]) (a,b))
theorem An(a b:Bool×List Int):T a b=.ite (fst a==fst b) (.ite (fH (snd a) (snd b)) (.ite (decide (length (Lp (snd a) (snd b))≤20000)) (.leaf (PV.agg [.dat zj (B5 (fst a) (Lp (snd a) (snd b))),.dat (zi i64) (Ar (Lp (snd a) (snd b)))]) ([(zl (zl 0 1) 1,.box [.dat zj (B5 (fst a) (Lp (snd a) (snd b))),.dat (zi i64) (Ar (Lp (snd a) (snd b)))]),(zl 0 1,.box [.dat zj (fst b),.dat (zi i64) (snd b)]),(0,.box [.dat zj (fst a),.dat (zi i64) (snd a)])])) .fail) .fail) (.ite (A3 (snd a)&&A3 (snd b)) (.ite (decide (BW (Aq (snd a)) (Aq (snd b))≥0)) (.ite (fH (snd a) (snd b)&&decide (Aq (snd b)≤Aq (snd a))) (.ite (decide (length (FT (snd a) (snd b))≤20000)) (.leaf (PV.agg [.dat zj (B5 (fst a) (FT (snd a) (snd b))),.dat (zi i64) (Ar (FT (snd a) (snd b)))]) ([(zl (zl 0 1) 1,.box [.dat zj (B5 (fst a) (FT (snd a) (snd b))),.dat (zi i64) (Ar (FT (snd a) (snd b)))]),(zl 0 1,.box [.dat zj (fst b),.dat (zi i64) (snd b)]),(0,.box [.dat zj (fst a),.dat (zi i64) (snd a)])])) .fail) .fail) (.ite (fH (snd b) (snd a)&&decide (Aq (snd a)≤Aq (snd b))) (.ite (decide (length (FT (snd b) (snd a))≤20000)) (.leaf (PV.agg [.dat zj (B5 (fst b) (FT (snd b) (snd a))),.dat (zi i64) (Ar (FT (snd b) (snd a)))]) ([(zl (zl 0 1) 1,.box [.dat zj (B5 (fst b) (FT (snd b) (snd a))),.dat (zi i64) (Ar (FT (snd b) (snd a)))]),(zl 0 1,.box [.dat zj (fst b),.dat (zi i64) (snd b)]),(0,.box [.dat zj (fst a),.dat (zi i64) (snd a)])])) .fail) .fail)) .fail):=by kernel_rfl
end T97
namespace T98
def T(a b:Bool×List Int):Tr:=tree nO false 9 98 (Ah ([zz zj (zi i64),zz zj (zi i64)]) (a,b))
theorem An(a b:Bool×List Int):T a b=.ite (Sp.hR (snd a)&&Sp.hR (snd b)) (.ite (decide (length (BM (Aq (snd a)*Aq (snd b)))≤20000)) (.leaf (PV.agg [.dat zj (B5 (!fst a==fst b) (BM (Aq (snd a)*Aq (snd b)))),.dat (zi i64) (Ar (BM (Aq (snd a)*Aq (snd b))))]) ([(zl (zl 0 1) 1,.box [.dat zj (B5 (!fst a==fst b) (BM (Aq (snd a)*Aq (snd b)))),.dat (zi i64) (Ar (BM (Aq (snd a)*Aq (snd b))))]),(zl 0 1,.box [.dat zj (fst b),.dat (zi i64) (snd b)]),(0,.box [.dat zj (fst a),.dat (zi i64) (snd a)])])) .fail) .fail:=by kernel_rfl
end T98
namespace T166
def T(a:Bool×List Int):Tr:=tree nO false 9 166 (Ah ([zz zj (zi i64)]) a)
theorem An(a:Bool×List Int):T a=.ite (decide (length (snd a)≤20000)) (.leaf (PV.agg [.dat zj (B5 (!fst a) (snd a)),.dat (zi i64) (Ar (snd a))]) ([(zl 0 1,.box [.dat zj (B5 (!fst a) (snd a)),.dat (zi i64) (Ar (snd a))]),(0,.box [.dat zj (fst a),.dat (zi i64) (snd a)])])) .fail:=by kernel_rfl
end T166
namespace T167
def T(a:Bool×List Int):Tr:=tree sU false 9 167 (Ah ([zz zj (zi i64)]) a)
def L1(v3:List UInt8)(v4:Int)(o0:Bool)(o0_1:List Int):Tr:=re ((T (false,[])).R.L.L) (AI 39 [(1,.ptr 0 0),(3,.dat ze v3),(4,.dat i64 v4)] [(0,.box [.dat zj o0,.dat (zi i64) o0_1])] 1)
theorem An(a:Bool×List Int):T a=.ite ((↑(length (snd a)):Int)==0) (.leaf (.dat ze [(48:UInt8)]) ([(0,.box [.dat zj (fst a),.dat (zi i64) (snd a)])])) (.ite (decide (0≤zc .i64 ((↑(length (snd a)):Int)-1))&&decide (zc .i64 ((↑(length (snd a)):Int)-1)<(↑(length (snd a)):Int))) (.ite (decide (0≤getD (snd a) (toNat (zc .i64 ((↑(length (snd a)):Int)-1))) 0)&&decide (getD (snd a) (toNat (zc .i64 ((↑(length (snd a)):Int)-1))) 0<9223372036854775808)&&decide (0≤1)&&decide (1≤20)) (L1 (Hn (getD (snd a) (toNat (zc .i64 ((↑(length (snd a)):Int)-1))) 0) 1) (zc .i64 ((↑(length (snd a)):Int)-2)) (fst a) (snd a)) .fail) .fail):=by kernel_rfl
theorem Au(v3:List UInt8)(v4:Int)(o0:Bool)(o0_1:List Int):stepT sU (L1 v3 v4 o0 o0_1)=.ite (decide (v4≥0)) (.ite (decide (0≤v4)&&decide (v4<(length o0_1:Int))) (.ite (decide (0≤getD o0_1 (toNat v4) 0)&&decide (getD o0_1 (toNat v4) 0<9223372036854775808)&&decide (0≤9)&&decide (9≤20)) (.ite (decide (length v3+length (Hn (getD o0_1 (toNat v4) 0) 9)≤4611686018427387904)) (L1 (v3++Hn (getD o0_1 (toNat v4) 0) 9) (zc .i64 (v4-1)) o0 o0_1) .fail) .fail) .fail) (.ite o0 (.ite (decide (1+length v3≤4611686018427387904)) (.leaf (.dat ze ([(45:UInt8)]++v3)) ([(0,.box [.dat zj o0,.dat (zi i64) o0_1])])) .fail) (.leaf (.dat ze v3) ([(0,.box [.dat zj o0,.dat (zi i64) o0_1])]))):=by kernel_rfl
end T167
namespace T96
def T(a b:Bool×List Int):Tr:=tree aB false 9 96 (Ah ([zz zj (zi i64),zz zj (zi i64)]) (a,b))
def L1(o1:Bool)(o1_1:List Int)(o0:Bool)(o0_1:List Int):Tr:=re ((T (false,[]) (false,[])).L.L.L) (AI 57 [(2,.ptr 0 0),(3,.ptr 1 0)] [(1,.box [.dat zj o1,.dat (zi i64) o1_1]),(0,.box [.dat zj o0,.dat (zi i64) o0_1])] 2)
theorem An(a b:Bool×List Int):T a b=.ite (fst b) (.ite (CA (fst a,snd a)) (.ite (CA (fst b,snd b)) (L1 (QE (fst b,snd b)) (QQ (fst b,snd b)) (QE (fst a,snd a)) (QQ (fst a,snd a))) .fail) .fail) (L1 (fst b) (snd b) (fst a) (snd a)):=by kernel_rfl
def L2(v8:List Int)(v10:List UInt8):Tr:=re ((stepT aB (L1 false [] false [])).L.L.L.L.L) (AI 57 [(8,.dat (zi i64) v8),(10,.dat ze v10)] [] 0)
theorem Au(o1:Bool)(o1_1:List Int)(o0:Bool)(o0_1:List Int):stepT aB (L1 o1 o1_1 o0 o0_1)=.ite (A3 o0_1&&A3 o1_1&&decide (length o0_1≤9000)&&decide (length o1_1≤9000)) (.ite (A3 o0_1&&A3 (Cb o0_1 o1_1)&&decide (length o0_1≤9000)&&decide (length (Cb o0_1 o1_1)≤9000)&&decide (0<Aq (Cb o0_1 o1_1))) (.ite (A3 o1_1&&A3 (Cb o0_1 o1_1)&&decide (length o1_1≤9000)&&decide (length (Cb o0_1 o1_1)≤9000)&&decide (0<Aq (Cb o0_1 o1_1))) (.ite (decide (length (BM (Aq o0_1/Aq (Cb o0_1 o1_1)))≤20000)) (.ite (CA (B5 o0 (BM (Aq o0_1/Aq (Cb o0_1 o1_1))),Ar (BM (Aq o0_1/Aq (Cb o0_1 o1_1))))) (L2 (BM (Aq o1_1/Aq (Cb o0_1 o1_1))) (I1 (B5 o0 (BM (Aq o0_1/Aq (Cb o0_1 o1_1))),Ar (BM (Aq o0_1/Aq (Cb o0_1 o1_1)))))) .fail) .fail) .fail) .fail) .fail:=by kernel_rfl
def L3(v8:List Int)(v10:List UInt8):Tr:=re ((stepT aB (L2 [] [])).L.L.R) (AI 57 [(8,.dat (zi i64) v8),(10,.dat ze v10)] [] 0)
theorem A4(v8:List Int)(v10:List UInt8):stepT aB (L2 v8 v10)=.ite ((length v8:Int)==1) (.ite (decide (0<(length v8:Int))) (.ite (getD v8 0 0==1) (.leaf (.dat ze v10) []) (L3 v8 v10)) .fail) (L3 v8 v10):=by kernel_rfl
theorem C9(v8:List Int)(v10:List UInt8):stepT aB (L3 v8 v10)=.ite (decide (length v10+1≤4611686018427387904)) (.ite (decide (length v8≤20000)) (.ite (CA (B5 false v8,Ar v8)) (.ite (decide (length (v10++[(47:UInt8)])+length (I1 (B5 false v8,Ar v8))≤4611686018427387904)) (.leaf (.dat ze (v10++[(47:UInt8)]++I1 (B5 false v8,Ar v8))) []) .fail) .fail) .fail) .fail:=by kernel_rfl
end T96
namespace T36
def T(n d:Int):Tr:=tree Xy false 9 36 (Ah ([zy zD,zy zD]) (n,d))
def L1(v0 v1:Int):Tr:=re ((T 0 0).R.R.R.R) (AI 61 [(0,.dat i64 v0),(1,.dat i64 v1)] [] 0)
theorem An(n d:Int):T n d=.ite (decide (n<(-4000000000000000000))) (.ite (CS n) (.ite (CS d) (.ite (CA (zX n,zY n)&&CA (zX d,zY d)&&decide (Sp.vR (zX d,zY d)≠0)) (.leaf (.dat ze (Hj (zX n,zY n) (zX d,zY d))) []) .fail) .fail) .fail) (.ite (decide (n>4000000000000000000)) (.ite (CS n) (.ite (CS d) (.ite (CA (zX n,zY n)&&CA (zX d,zY d)&&decide (Sp.vR (zX d,zY d)≠0)) (.leaf (.dat ze (Hj (zX n,zY n) (zX d,zY d))) []) .fail) .fail) .fail) (.ite (decide (d<(-4000000000000000000))) (.ite (CS n) (.ite (CS d) (.ite (CA (zX n,zY n)&&CA (zX d,zY d)&&decide (Sp.vR (zX d,zY d)≠0)) (.leaf (.dat ze (Hj (zX n,zY n) (zX d,zY d))) []) .fail) .fail) .fail) (.ite (decide (d>4000000000000000000)) (.ite (CS n) (.ite (CS d) (.ite (CA (zX n,zY n)&&CA (zX d,zY d)&&decide (Sp.vR (zX d,zY d)≠0)) (.leaf (.dat ze (Hj (zX n,zY n) (zX d,zY d))) []) .fail) .fail) .fail) (L1 n d)))):=by kernel_rfl
def L2(v0 v1:Int):Tr:=re ((stepT Xy (L1 0 0)).L) (AI 61 [(0,.dat i64 v0),(1,.dat i64 v1)] [] 0)
theorem Au(v0 v1:Int):stepT Xy (L1 v0 v1)=.ite (decide (v1<0)) (L2 (zc .i64 (0-v0)) (zc .i64 (0-v1))) (L2 v0 v1):=by kernel_rfl
def L3(v0 v1:Int):Tr:=re ((stepT Xy (L2 0 0)).L.L.L) (AI 61 [(0,.dat i64 v0),(1,.dat i64 v1)] [] 0)
theorem A4(v0 v1:Int):stepT Xy (L2 v0 v1)=.ite (sZ (imax v0 (zc .i64 (0-v0))) v1) (.ite (decide (Sp.gI (imax v0 (zc .i64 (0-v0))) v1≠0)) (.ite (decide (Sp.gI (imax v0 (zc .i64 (0-v0))) v1≠0)) (L3 (zc .i64 (zW v0 (Sp.gI (imax v0 (zc .i64 (0-v0))) v1))) (zc .i64 (zW v1 (Sp.gI (imax v0 (zc .i64 (0-v0))) v1)))) .fail) .fail) .fail:=by kernel_rfl
def L4(v1:Int)(v6:List UInt8):Tr:=re ((stepT Xy (L3 0 0)).L.L.L) (AI 61 [(1,.dat i64 v1),(6,.dat ze v6)] [] 0)
theorem C9(v0 v1:Int):stepT Xy (L3 v0 v1)=.ite (decide (v0<0)) (.ite (decide (0≤imax v0 (zc .i64 (0-v0)))&&decide (imax v0 (zc .i64 (0-v0))<9223372036854775808)&&decide (0≤1)&&decide (1≤20)) (.ite (decide (1+length (Hn (imax v0 (zc .i64 (0-v0))) 1)≤4611686018427387904)) (L4 v1 ([(45:UInt8)]++Hn (imax v0 (zc .i64 (0-v0))) 1)) .fail) .fail) (.ite (decide (0≤imax v0 (zc .i64 (0-v0)))&&decide (imax v0 (zc .i64 (0-v0))<9223372036854775808)&&decide (0≤1)&&decide (1≤20)) (.ite (decide (0+length (Hn (imax v0 (zc .i64 (0-v0))) 1)≤4611686018427387904)) (L4 v1 ([]++Hn (imax v0 (zc .i64 (0-v0))) 1)) .fail) .fail):=by kernel_rfl
theorem Dp(v1:Int)(v6:List UInt8):stepT Xy (L4 v1 v6)=.ite (decide (v1>1)) (.ite (decide (length v6+1≤4611686018427387904)) (.ite (decide (0≤v1)&&decide (v1<9223372036854775808)&&decide (0≤1)&&decide (1≤20)) (.ite (decide (length (v6++[(47:UInt8)])+length (Hn v1 1)≤4611686018427387904)) (.leaf (.dat ze (v6++[(47:UInt8)]++Hn v1 1)) []) .fail) .fail) .fail) (.leaf (.dat ze v6) []):=by kernel_rfl
end T36
end
end Go.Pe
end
section
namespace Go.Pe
open Sp
open Go.Det
noncomputable section
open List Int Prod
namespace T108
def T(a b:Int):Tr:=tree IU false 9 108 (Ah ([zy zD,zy zD]) (a,b))
def L1(v0 v1:Int):Tr:=re ((T 0 0)) (AI 12 [(0,.dat i64 v0),(1,.dat i64 v1)] [] 0)
theorem An(a b:Int):T a b=L1 a b:=by kernel_rfl
theorem Au(v0 v1:Int):stepT IU (L1 v0 v1)=.ite (decide (v1>0)) (.ite (decide (v1≠0)) (L1 v1 (zG v0 v1)) .fail) (.leaf (.dat i64 v0) []):=by kernel_rfl
end T108
namespace T41
def T(s:List UInt8):Tr:=tree IU false 9 41 (Ah ([ze]) s)
theorem An(s:List UInt8):T s=let a':Tr:=.leaf (.dat i64 (1:Int)) [];.ite (s==[(48:UInt8)]) (.leaf (.dat i64 (0:Int)) []) (.ite (decide ((length s:Int)>0)) (.ite (decide (0<(length s:Int))) (.ite ((↑(UInt8.toNat (getD s 0 (0:UInt8))):Int)==45) (.leaf (.dat i64 (-1:Int)) []) a') .fail) a'):=by kernel_rfl
end T41
namespace T99
def T(s:List UInt8):Tr:=tree vG false 9 99 (Ah ([ze]) s)
theorem An(s:List UInt8):T s=let a':=decide (length s≤1000000);.ite a' (.ite (decide (Gs s<0)) (.ite (decide (1≤length s)&&decide (length s≤length s)) (.leaf (.dat ze (take (zK (length s) 1) (drop 1 s))) []) .fail) (.ite a' (.ite (Gs s==0) (.leaf (.dat ze s) []) (.ite (decide (1+length s≤4611686018427387904)) (.leaf (.dat ze ([(45:UInt8)]++s)) []) .fail)) .fail)) .fail:=by kernel_rfl
end T99
namespace T109
def T(n l:Int):Tr:=tree IU false 9 109 (Ah ([zy zD,zy zD]) (n,l))
def L1(v0 v1:Int)(v5:List UInt8):Tr:=re ((T 0 0)) (AI 25 [(0,.dat i64 v0),(1,.dat i64 v1),(5,.dat ze v5)] [] 0)
theorem An(n l:Int):T n l=L1 n l []:=by kernel_rfl
theorem Au(v0 v1:Int)(v5:List UInt8):stepT IU (L1 v0 v1 v5)=let c':=zc .i64 (zG v0 10+1);let d':=toNat (zG v0 10);let b':=drop d' [(48:UInt8),(49:UInt8),(50:UInt8),(51:UInt8),(52:UInt8),(53:UInt8),(54:UInt8),(55:UInt8),(56:UInt8),(57:UInt8)];let a':Tr:=.ite true (.ite true (.ite (decide (0≤zG v0 10)&&decide (0≤zc .i64 (zG v0 10+1))&&decide (toNat (zG v0 10)≤toNat c')&&decide (toNat c'≤10)) (.ite (decide (length (take (zK (toNat c') d') b')+length v5≤4611686018427387904)) (.ite true (L1 (zc .i64 (zW v0 10)) v1 (take (zK (toNat c') d') b'++v5)) .fail) .fail) .fail) .fail) .fail;.ite (decide (v0>0)) a' (.ite (decide ((length v5:Int)<v1)) a' (.leaf (.dat ze v5) [])):=by kernel_rfl
end T109
namespace T95
def T(s:List UInt8):Tr:=tree Mr false 9 95 (Ah ([ze]) s)
def L1(v5:List UInt8)(v6:Bool):Tr:=re ((T []).R.L.L) (AI 54 [(5,.dat ze v5),(6,.dat zj v6)] [] 0)
def L2(v5:List UInt8):Tr:=re ((T []).R.R) (AI 54 [(5,.dat ze v5),(6,.bl false)] [] 0)
theorem An(s:List UInt8):T s=let a':=(length s:Int);.ite (decide (a'>20)) (.leaf (.tup [.dat i64 (0:Int),.dat i64 (0:Int),.bl false]) []) (.ite (decide (a'>0)) (.ite (decide (0<a')) (L1 s ((↑(UInt8.toNat (getD s 0 (0:UInt8))):Int)==45)) .fail) (L2 s)):=by kernel_rfl
def L3(v5:List UInt8)(v6:Bool):Tr:=re ((stepT Mr (L1 [] false)).L.L) (AI 54 [(5,.dat ze v5),(6,.dat zj v6)] [] 0)
theorem Au(v5:List UInt8)(v6:Bool):stepT Mr (L1 v5 v6)=.ite v6 (.ite (decide (1≤length v5)&&decide (length v5≤length v5)) (L3 (take (zK (length v5) 1) (drop 1 v5)) v6) .fail) (L3 v5 v6):=by kernel_rfl
def L4(v5:List UInt8):Tr:=re ((stepT Mr (L2 []))) (AI 54 [(5,.dat ze v5),(6,.bl false)] [] 0)
theorem A4(v5:List UInt8):stepT Mr (L2 v5)=L4 v5:=by kernel_rfl
def L5(v5:List UInt8)(v6:Bool)(v7 v8 v9:Int):Tr:=re ((stepT Mr (L3 [] false)).L.R.R.L.L) (AI 54 [(5,.dat ze v5),(6,.dat zj v6),(7,.dat i64 v7),(8,.dat i64 v8),(9,.dat i64 v9)] [] 0)
theorem C9(v5:List UInt8)(v6:Bool):stepT Mr (L3 v5 v6)=let a':Tr:=.leaf (.tup [.dat i64 (0:Int),.dat i64 (0:Int),.bl false]) [];let b':=AV v5;.ite (decide (length v5≤1000000)) (.ite (decide (AV v5>9)) a' (.ite (decide (zc .i64 ((length v5:Int)-AV v5)>10)) a' (.ite (decide (0≤AV v5)&&decide (0≤toNat b')&&decide (toNat b'≤length v5)) (.ite (Dz (take (toNat b') v5)) (L5 v5 v6 b' (Bu (take (toNat b') v5)) 1) .fail) .fail))) .fail:=by kernel_rfl
def L6(v5:List UInt8)(v7 v8 v9:Int):Tr:=re ((stepT Mr (L4 [])).L.R.R.L.L) (AI 54 [(5,.dat ze v5),(6,.bl false),(7,.dat i64 v7),(8,.dat i64 v8),(9,.dat i64 v9)] [] 0)
theorem Dp(v5:List UInt8):stepT Mr (L4 v5)=let a':Tr:=.leaf (.tup [.dat i64 (0:Int),.dat i64 (0:Int),.bl false]) [];let b':=AV v5;.ite (decide (length v5≤1000000)) (.ite (decide (AV v5>9)) a' (.ite (decide (zc .i64 ((length v5:Int)-AV v5)>10)) a' (.ite (decide (0≤AV v5)&&decide (0≤toNat b')&&decide (toNat b'≤length v5)) (.ite (Dz (take (toNat b') v5)) (L6 v5 b' (Bu (take (toNat b') v5)) 1) .fail) .fail))) .fail:=by kernel_rfl
def L7(v6:Bool)(v8 v9:Int):Tr:=re ((stepT Mr (L5 [] false 0 0 0)).L.L.L) (AI 54 [(6,.dat zj v6),(8,.dat i64 v8),(9,.dat i64 v9)] [] 0)
theorem Gk(v5:List UInt8)(v6:Bool)(v7 v8 v9:Int):stepT Mr (L5 v5 v6 v7 v8 v9)=let b':=zc .i64 (v7+1);let a':=take (zK (length v5) (toNat b')) (drop (toNat b') v5);.ite (decide (v7<(length v5:Int))) (.ite (decide (0≤zc .i64 (v7+1))&&true&&decide (toNat b'≤length v5)&&decide (length v5≤length v5)) (.ite (Dz a') (L7 v6 v8 (Bu a')) .fail) .fail) (L7 v6 v8 v9):=by kernel_rfl
def L8(v8 v9:Int):Tr:=re ((stepT Mr (L6 [] 0 0 0)).L.L.L) (AI 54 [(6,.bl false),(8,.dat i64 v8),(9,.dat i64 v9)] [] 0)
theorem Hl(v5:List UInt8)(v7 v8 v9:Int):stepT Mr (L6 v5 v7 v8 v9)=let b':=zc .i64 (v7+1);let a':=take (zK (length v5) (toNat b')) (drop (toNat b') v5);.ite (decide (v7<(length v5:Int))) (.ite (decide (0≤zc .i64 (v7+1))&&true&&decide (toNat b'≤length v5)&&decide (length v5≤length v5)) (.ite (Dz a') (L8 v8 (Bu a')) .fail) .fail) (L8 v8 v9):=by kernel_rfl
theorem FN(v6:Bool)(v8 v9:Int):stepT Mr (L7 v6 v8 v9)=.ite v6 (.leaf (.tup [.dat i64 (zc .i64 (0-v8)),.dat i64 v9,.bl true]) []) (.leaf (.tup [.dat i64 v8,.dat i64 v9,.bl true]) []):=by kernel_rfl
theorem I2(v8 v9:Int):stepT Mr (L8 v8 v9)=.leaf (.tup [.dat i64 v8,.dat i64 v9,.bl true]) []:=by kernel_rfl
end T95
end
end Go.Pe
end
section
namespace Go.Pe
open Sp
open Go.Det
noncomputable section
open List Int Prod
namespace T100
def T(a:List UInt8):Tr:=tree IU false 9 100 (Ah ([ze]) a)
theorem An(a:List UInt8):T a=let a':Tr:=.ite (decide (1≤length a)&&decide (length a≤length a)) (.leaf (.dat ze (take (zK (length a) 1) (drop 1 a))) []) .fail;let b':Tr:=.ite false a' (.leaf (.dat ze a) []);.ite (a==[(48:UInt8)]) b' (.ite (decide ((length a:Int)>0)) (.ite (decide (0<(length a:Int))) (.ite ((↑(UInt8.toNat (getD a 0 (0:UInt8))):Int)==45) (.ite true a' (.leaf (.dat ze a) [])) b') .fail) b'):=by kernel_rfl
end T100
namespace T101
def T(a:List UInt8):Tr:=tree uG false 9 101 (Ah ([ze]) a)
theorem An(a:List UInt8):T a=.ite (decide (length a≤1000000)) (.ite (decide (0≤AV a)&&decide (0≤toNat (AV a))&&decide (toNat (AV a)≤length a)) (.leaf (.dat ze (take (toNat (AV a)) a)) []) .fail) .fail:=by kernel_rfl
end T101
namespace T102
def T(a:List UInt8):Tr:=tree uG false 9 102 (Ah ([ze]) a)
theorem An(a:List UInt8):T a=let a':=zc .i64 (AV a+1);.ite (decide (length a≤1000000)) (.ite (AV a==(length a:Int)) (.leaf (.dat ze [(49:UInt8)]) []) (.ite (decide (0≤zc .i64 (AV a+1))&&true&&decide (toNat a'≤length a)&&decide (length a≤length a)) (.leaf (.dat ze (take (zK (length a) (toNat a')) (drop (toNat a') a))) []) .fail)) .fail:=by kernel_rfl
end T102
namespace T31
def T(a:List UInt8)(n:Int):Tr:=tree vX false 9 31 (Ah ([ze,zy zD]) (a,n))
theorem An(a:List UInt8)(n:Int):T a n=let a':=decide (length a≤1000000);let b':Tr:=.leaf (.bl false) [];.ite (decide ((length a:Int)≤zc .i64 (zc .i64 (2*n)+2))) (.ite a' (.ite (A1 a==0) (.ite a' (.ite (decide (length (Aw a)≤1000000)) (.ite (decide ((↑(length (AU (Aw a))):Int)≤n)) (.ite a' (.leaf (.dat zj (decide ((↑(length (O7 a)):Int)≤n))) []) .fail) b') .fail) .fail) b') .fail) b':=by kernel_rfl
end T31
end
end Go.Pe
end
section
namespace Go.Pe
open Sp
open Go.Det
theorem WD:∀g sp,uG.sp g=some sp→Ae AS g sp:=Aa T89.ok (fun g sp h=>by cases h)
theorem T100.ok:Ae AS 100 Xd:=by
 refine Ax (X:=IU) rfl ET (d:=9) (by kernel_rfl) (by kernel_rfl) (by kernel_rfl) (fun(a:List UInt8) hl=>?_) (Ad (by kernel_rfl));have hl:a.length≤1000000:=of_decide_eq_true hl;have hq:∀s ob,s=AU a→Af Xd a (.dat .str s) ob:=fun s ob h=>zw rfl rfl h
 refine zr (T100.An a) (zq (fun c=>zp rfl (zg (hq _ _ ?_))) (fun c=>?_))
 ·have c:a=[48]:=by simpa using c
  subst c;rfl
 ·cases a with
  |nil=>exact zp rfl (zp rfl (zg (hq _ _ rfl)))
  |cons x r=>
   have g0:(x::r).getD 0 0=x:=rfl;have e:(yo 1 (x::r)).take (zK (x::r).length 1)=r:=by show r.take ((r.length+1)-1)=r;rw[Nat.add_sub_cancel];exact List.take_length
   rw[g0,e];refine zd (by simp) (zd (by simp) (zq (fun d=>zd rfl (zd (by simp) (zg (hq _ _ ?_)))) (fun d=>zp rfl (zg (hq _ _ ?_)))))
   ·have hc:x=45:=by
     have:(x.toNat:Int)=45:=by simpa using d
     exact UInt8.toNat_inj.1 (by show _=45;omega)
    unfold AU;rw[g0,if_pos hc];rfl
   ·have hc:x≠45:=by rintro rfl;exact absurd d (by decide)
    unfold AU;rw[g0,if_neg hc]
theorem T101.ok:Ae AS 101 dI:=by
 refine Ax (X:=uG) rfl WD (d:=9) (by kernel_rfl) (by kernel_rfl) (by kernel_rfl) (fun(a:List UInt8) hl=>?_) (Ad (by kernel_rfl));have hle:=(T77.CP a).1;refine zr (T101.An a) (zd hl ?_);rw[show AV a=((Aw a).length:Int)from rfl,zm];exact zd (by simp;omega) (zg (zw rfl rfl (BF a).1.symm))
theorem T102.ok:Ae AS 102 V6:=by
 refine Ax (X:=uG) rfl WD (d:=9) (by kernel_rfl) (by kernel_rfl) (by kernel_rfl) (fun(a:List UInt8) hl=>?_) (Ad (by kernel_rfl));have hl':a.length≤1000000:=of_decide_eq_true hl;obtain⟨c1,c2,c3⟩:=BF a;have hq:∀s ob,s=O7 a→Af V6 a (.dat .str s) ob:=fun s ob h=>zw rfl rfl h
 have hle:=(T77.CP a).1;have es:AV a=((Aw a).length:Int):=rfl;refine zr (T102.An a) (zd hl ?_);rw[es];cases hc:Bk a with
 |false=>
  refine zd (by rw[(c3 hc).1];simp) (zg (hq _ _ ?_));unfold O7;rw[hc];rfl
 |true=>
  obtain⟨k1,k2⟩:=c2 hc;have e1:zc .i64 (((Aw a).length:Int)+1)=(((Aw a).length+1:Nat):Int):=by rw[wr _ (by omega) (by omega)];omega
  have e2:(a.drop ((Aw a).length+1)).take (zK a.length ((Aw a).length+1))=a.drop ((Aw a).length+1):=zC (by rw[zH];exact zE _);rw[e1,zm,e2];refine zp (by simp;omega) (zd (by simp;omega) (zg (hq _ _ ?_)));unfold O7;rw[hc,k2];rfl
theorem iU:∀g sp,vX.sp g=some sp→Ae AS g sp:=Aa T24.ok (Aa T100.ok (Aa T101.ok (Aa T102.ok (fun g sp h=>by cases h))))
theorem T31.ok:Ae AS 31 aL:=by
 refine Ax (X:=vX) rfl iU (d:=9) (by kernel_rfl) (by kernel_rfl) (by kernel_rfl) (fun(i:List UInt8×Int) hi=>?_) (Ad (by kernel_rfl));obtain⟨a,n⟩:=i;have hi:(decide (0≤n)&&decide (n≤1000))=true:=hi;rw[zh,decide_eq_true_eq,decide_eq_true_eq]at hi;obtain⟨h0,h1⟩:=hi;have hq:∀v b ob,v=.bl b∨v=.dat .bool b→b=Jw a n→Af aL (a,n) v ob:=by
  rintro v b ob (rfl|rfl) hb
  ·exact zw rfl rfl hb
  ·exact zw rfl rfl hb
 have e1:zc .i64 (zc .i64 (2*n)+2)=2*n+2:=by rw[wr (2*n) (by omega) (by omega)];exact wr _ (by omega) (by omega)
 have hle:=(T77.CP a).1;refine zr (T31.An a n) ?_;conv=>zeta
 rw[e1];by_cases hl:a.length≤1000000
 case neg=>
  have c:decide ((a.length:Int)≤2*n+2)=false:=decide_eq_false (by omega);refine zp c (zg (hq _ _ _ (.inl rfl) ?_));unfold Jw;rw[c];rfl
 refine zq (fun c=>zd (decide_eq_true hl) (zq (fun d=>zd (decide_eq_true hl) (zd (decide_eq_true (by omega)) (zq (fun e=>zd (decide_eq_true hl) (zg (hq _ _ _ (.inr rfl) ?_))) (fun e=>zg (hq _ _ _ (.inl rfl) ?_))))) (fun d=>zg (hq _ _ _ (.inl rfl) ?_)))) (fun c=>zg (hq _ _ _ (.inl rfl) ?_))
 ·have d:A1 a=0:=by simpa using d
  unfold Jw;rw[c,e,decide_eq_true d];rfl
 ·unfold Jw;rw[e];simp
 ·have d:A1 a≠0:=by simpa using d
  unfold Jw;rw[decide_eq_false d];simp
 ·unfold Jw;rw[c];rfl
end Go.Pe
end
section
namespace Go.Pe
open Sp
open Go.Det
namespace T108
variable {Q:PV→Ob→Prop}
theorem Am(g:Nat)(hq:∀ob,Q (.dat i64 (g:Int)) ob):∀(f x y:Nat),y<f→Nat.gcd x y=g→Ends IU (L1 (x:Int) (y:Int)) Q
 |0,x,y,h,_=>by omega
 |f+1,x,y,hy,hg=>by
  refine zQ (Au ..) ?_;conv=>zeta
  by_cases h0:y=0
  ·subst h0;rw[Nat.gcd_zero_right]at hg;subst hg;exact zp rfl (zg (hq _))
  ·have e:zG (x:Int) (y:Int)=((x % y:Nat):Int):=by rw[ye (zV x)];rfl
   rw[e];have hlt:x % y<y:=yn _ (by omega);exact zd (by simp;omega) (zd (by simp;omega) (Am g hq f y (x % y) (by omega) (by rw[Nat.gcd_comm, ←Nat.gcd_rec,Nat.gcd_comm];exact hg)))
theorem ok:Ae AS 108 mY:=by
 refine Ax (X:=IU) rfl ET (d:=9) (by kernel_rfl) (by kernel_rfl) (by kernel_rfl) (fun(i:Int×Int) hi=>?_) (Ad (by kernel_rfl));obtain⟨a,b⟩:=i;have hi:(decide (0≤a)&&decide (a<9223372036854775808)&&decide (0≤b)&&decide (b<9223372036854775808))=true:=hi;rw[zh,zh,zh,decide_eq_true_eq,decide_eq_true_eq,decide_eq_true_eq,decide_eq_true_eq]at hi;obtain⟨⟨⟨a0,_⟩,b0⟩,_⟩:=hi;obtain⟨x,rfl⟩:=zA a0;obtain⟨y,rfl⟩:=zA b0;refine zr (An x y) (Am (Nat.gcd x y) (fun ob=>zw rfl rfl ?_) (y+1) x y (Nat.lt_succ_self _) rfl);show((Nat.gcd x y:Nat):Int)=Sp.gI (x:Int) (y:Int);rw[Fc];rfl
end T108
namespace T41
theorem ok:Ae AS 41 Qv:=by
 refine Ax (X:=IU) rfl ET (d:=9) (by kernel_rfl) (by kernel_rfl) (by kernel_rfl) (fun(s:List UInt8) hl=>?_) (Ad (by kernel_rfl));have hq:∀v ob,v=Gs s→Af Qv s (.dat i64 v) ob:=fun v ob hb=>zw rfl rfl hb
 refine zr (An s) (zq (fun c=>zg (hq _ _ ?_)) (fun c=>?_))
 ·have c:s=[48]:=by simpa using c
  unfold Gs;rw[if_pos c]
 ·have c:¬s=[48]:=by simpa using c
  cases s with
  |nil=>exact zp rfl (zg (hq _ _ rfl))
  |cons x r=>
   have g0:(x::r).getD 0 0=x:=rfl;rw[g0];refine zd (by simp) (zd (by simp) (zq (fun d=>zg (hq _ _ ?_)) (fun d=>zg (hq _ _ ?_))))
   ·have hx:x=45:=by
     have:(x.toNat:Int)=45:=by simpa using d
     exact UInt8.toNat_inj.1 (by show _=45;omega)
    unfold Gs;rw[if_neg c,g0,if_pos hx]
   ·have hx:x≠45:=by rintro rfl;exact absurd d (by decide)
    unfold Gs;rw[if_neg c,g0,if_neg hx]
end T41
theorem kE:∀g sp,vG.sp g=some sp→Ae AS g sp:=Aa T41.ok (fun g sp h=>by cases h)
theorem T99.ok:Ae AS 99 fC:=by
 refine Ax (X:=vG) rfl kE (d:=9) (by kernel_rfl) (by kernel_rfl) (by kernel_rfl) (fun(s:List UInt8) hl=>?_) (Ad (by kernel_rfl));have hl:s.length≤1000000:=of_decide_eq_true hl;have hq:∀v ob,v=JG s→Af fC s (.dat .str v) ob:=fun v ob hb=>zw rfl rfl hb
 refine zr (T99.An s) (zd (decide_eq_true hl) ?_);unfold JG at hq;unfold Gs;by_cases c:s=[48]
 ·rw[if_pos c];rw[if_pos c]at hq;exact zp rfl (zd (decide_eq_true hl) (zd rfl (zg (hq _ _ rfl))))
 ·rw[if_neg c];rw[if_neg c]at hq;by_cases d:s.getD 0 0=45
  ·rw[if_pos d];rw[if_pos d]at hq;have hn:s≠[]:=by rintro rfl;exact absurd d (by decide)
   have hp:1≤s.length:=List.length_pos_iff.2 hn;refine zd rfl (zd (by simp;omega) (zg (hq _ _ ?_)));exact zC (by rw[zH];exact zE _)
  ·rw[if_neg d];rw[if_neg d]at hq;exact zp rfl (zd (decide_eq_true hl) (zp rfl (zd (by simp;omega) (zg (hq _ _ rfl)))))
namespace T109
theorem YE:∀k:Fin 10,yh (zK (k.1+1) k.1) (yo k.1 [(48:UInt8),49,50,51,52,53,54,55,56,57])=[z6 (48+k.1)]:=by decide
theorem Am{Q:PV→Ob→Prop}(l:Nat)(hl:l≤20):∀(f n:Nat) (acc:List UInt8),n<9223372036854775808→n<10^f→l≤acc.length+f→acc.length+f≤64→(∀ob,Q (.dat .str (G3 (f+1) n l acc)) ob)→Ends IU (L1 (n:Int) (l:Int) acc) Q:=by
 intro f;induction f with
 |zero=>
  intro n acc hn hf hle h64 hq;have h0:n=0:=by rw[Nat.pow_zero]at hf;omega
  subst h0;unfold G3 at hq;rw[if_pos ⟨rfl,by omega⟩]at hq;exact zQ (Au ..) (zp rfl (zp (by simp;omega) (zg (hq _))))
 |succ f ih=>
  intro n acc hn hf hle h64 hq;have e1:zG (n:Int) 10=((n % 10:Nat):Int):=by rw[ye (zV n)];rfl
  have e2:zc .i64 (((n % 10:Nat):Int)+1)=((n % 10+1:Nat):Int):=by rw[wr _ (by omega) (by omega)];omega
  have e3:zc .i64 (zW (n:Int) 10)=((n/10:Nat):Int):=by rw[Int.tdiv_eq_ediv_of_nonneg (zV n),wr _ (by omega) (by omega)];rfl
  have hd:=YE ⟨n % 10,yn _ (by decide)⟩;have hd:yh (zK (n % 10+1) (n % 10)) (yo (n % 10) [(48:UInt8),49,50,51,52,53,54,55,56,57])=[z6 (48+n % 10)]:=hd;have hm:n % 10<10:=yn _ (by decide);rw[ya]at hf;refine zQ (Au ..) ?_;conv=>zeta
  rw[e1,e2,e3,zm,zm,hd];by_cases hz:n=0∧l≤acc.length
  ·obtain⟨z1,z2⟩:=hz;subst z1;unfold G3 at hq;rw[if_pos ⟨rfl,z2⟩]at hq;exact zp rfl (zp (by simp;omega) (zg (hq _)))
  ·have hq2:∀ob,Q (.dat .str (G3 (f+1) (n/10) l (z6 (48+n % 10)::acc))) ob:=by
    intro ob;have:=hq ob;unfold G3 at this;rw[if_neg hz]at this;exact this
   have go:Ends IU (L1 ((n/10:Nat):Int) (l:Int) ([z6 (48+n % 10)]++acc)) Q:=ih (n/10) (z6 (48+n % 10)::acc) (by omega) (by omega) (by rw[zn];omega) (by rw[zn];omega) hq2;refine zq (fun _=>?_) (fun c=>zd ?_ ?_)
   ·exact zd rfl (zd rfl (zd (by simp;omega) (zd (by simp;omega) (zd rfl go))))
   ·have c:=of_decide_eq_false c;exact decide_eq_true (by omega)
   ·exact zd rfl (zd rfl (zd (by simp;omega) (zd (by simp;omega) (zd rfl go))))
theorem ok:Ae AS 109 Nc:=by
 refine Ax (X:=IU) rfl ET (d:=9) (by kernel_rfl) (by kernel_rfl) (by kernel_rfl) (fun(i:Int×Int) hi=>?_) (Ad (by kernel_rfl));obtain⟨a,b⟩:=i;have hi:(decide (0≤a)&&decide (a<9223372036854775808)&&decide (0≤b)&&decide (b≤20))=true:=hi;rw[zh,zh,zh,decide_eq_true_eq,decide_eq_true_eq,decide_eq_true_eq,decide_eq_true_eq]at hi;obtain⟨⟨⟨a0,a1⟩,b0⟩,b1⟩:=hi;obtain⟨x,rfl⟩:=zA a0;obtain⟨y,rfl⟩:=zA b0;refine zr (An x y) (Am y (by omega) 63 x [] (by omega) (by omega) (by show y≤0+63;omega) (by decide) (fun ob=>zw rfl rfl ?_));show G3 64 x y []=G3 64 (x:Int).toNat (y:Int).toNat [];rw[zm,zm]
end T109
theorem kL:∀g sp,Mr.sp g=some sp→Ae AS g sp:=Aa T165.ok (Aa T89.ok (fun g sp h=>by cases h))
namespace T95
variable {Q:PV→Ob→Prop}
theorem Cc(neg:Bool)(n d:Int)(h0:0≤n)(h1:n<1000000000)(hq:∀ob,Q (.tup [.dat i64 (if neg=true then -n else n),.dat i64 d,.bl true]) ob):Ends Mr (L7 neg n d) Q:=by
 refine zQ (FN ..) ?_;conv=>zeta
 cases neg with
 |true=>
  refine zd rfl (zg ?_);rw[wr _ (by omega) (by omega),Int.zero_sub];exact hq _
 |false=>exact zp rfl (zg (hq _))
theorem Cj(s:List UInt8)(neg:Bool)(n:Int)(h0:0≤n)(h1:n<1000000000)(hl:s.length≤20)(lb:(zZ s).length≤9)(db:Ak (zZ s)=true)(hq:∀ob,Q (.tup [.dat i64 (if neg=true then -n else n),.dat i64 (if Bk s=true then Az 0 (zZ s)else 1),.bl true]) ob):Ends Mr (L5 s neg (AV s) n 1) Q:=by
 obtain⟨c1,c2,c3⟩:=BF s;refine zQ (Gk ..) ?_;conv=>zeta
 have es:AV s=((Aw s).length:Int):=rfl;have hle:=(T77.CP s).1;cases hc:Bk s with
 |true=>
  rw[hc]at hq;obtain⟨k1,k2⟩:=c2 hc;have e3:zc .i64 (AV s+1)=(((Aw s).length+1:Nat):Int):=by rw[es,wr _ (by omega) (by omega)];omega
  have hl2:(zZ s).length=s.length-((Aw s).length+1):=by rw[k2,zH]
  have et:(zZ s).take (zK s.length ((Aw s).length+1))=zZ s:=zC (by show _≤s.length-_;omega);rw[e3,zm, ←k2,et];exact zd (by simp[es];omega) (zd (by simp;omega) (zd (T163.BU db (by omega)) (Cc neg n _ h0 h1 hq)))
 |false=>
  obtain⟨k1,k2⟩:=c3 hc;rw[hc]at hq;exact zp (by simp[es,k1]) (Cc neg n 1 h0 h1 hq)
theorem CN(s:List UInt8)(neg:Bool)(hl:s.length≤20)(la:(Aw s).length≤9)(lb:(zZ s).length≤9)(da:Ak (Aw s)=true)(db:Ak (zZ s)=true)(hq:∀n ob,n=Az 0 (Aw s)→Q (.tup [.dat i64 (if neg=true then -n else n),.dat i64 (if Bk s=true then Az 0 (zZ s)else 1),.bl true]) ob):Ends Mr (L3 s neg ) Q:=by
 obtain⟨c1,c2,c3⟩:=BF s;have es:AV s=((Aw s).length:Int):=rfl;have hle:=(T77.CP s).1;have hlen:s.length-(Aw s).length≤10:=by
  cases hc:Bk s with
  |true=>
   obtain⟨k1,k2⟩:=c2 hc;have:(zZ s).length=s.length-((Aw s).length+1):=by rw[k2,zH]
   omega
  |false=>rw[(c3 hc).1];omega
 have et:yh (Int.toNat (AV s)) s=Aw s:=by rw[es,zm];exact c1.symm
 obtain⟨v0,v1⟩:=T163.Ci da la;refine zQ (C9 ..) ?_;conv=>zeta
 rw[et];refine zd (by simp;omega) (zp (by simp[es];omega) (zp ?_ (zd (by simp[es];omega) (zd (T163.BU da (by omega)) ?_))))
 ·rw[es,wr _ (by omega) (by omega)];exact decide_eq_false (by omega)
 ·exact Cj s neg (Az 0 (Aw s)) v0 v1 hl lb db (fun ob=>hq _ ob rfl)
theorem ES(n d:Int)(hq:∀ob,Q (.tup [.dat i64 n,.dat i64 d,.bl true]) ob):Ends Mr (L8 n d) Q:=by
 refine zQ (I2 ..) ?_;conv=>zeta
 exact zg (hq _)
theorem Ep(s:List UInt8)(n:Int)(hl:s.length≤20)(lb:(zZ s).length≤9)(db:Ak (zZ s)=true)(hq:∀ob,Q (.tup [.dat i64 n,.dat i64 (if Bk s=true then Az 0 (zZ s)else 1),.bl true]) ob):Ends Mr (L6 s (AV s) n 1) Q:=by
 obtain⟨c1,c2,c3⟩:=BF s;refine zQ (Hl ..) ?_;conv=>zeta
 have es:AV s=((Aw s).length:Int):=rfl;have hle:=(T77.CP s).1;cases hc:Bk s with
 |true=>
  rw[hc]at hq;obtain⟨k1,k2⟩:=c2 hc;have e3:zc .i64 (AV s+1)=(((Aw s).length+1:Nat):Int):=by rw[es,wr _ (by omega) (by omega)];omega
  have hl2:(zZ s).length=s.length-((Aw s).length+1):=by rw[k2,zH]
  have et:(zZ s).take (zK s.length ((Aw s).length+1))=zZ s:=zC (by show _≤s.length-_;omega);rw[e3,zm, ←k2,et];exact zd (by simp[es];omega) (zd (by simp;omega) (zd (T163.BU db (by omega)) (ES n _ hq)))
 |false=>
  obtain⟨k1,k2⟩:=c3 hc;rw[hc]at hq;exact zp (by simp[es,k1]) (ES n 1 hq)
theorem BN(s:List UInt8)(hl:s.length≤20)(la:(Aw s).length≤9)(lb:(zZ s).length≤9)(da:Ak (Aw s)=true)(db:Ak (zZ s)=true)(hq:∀n ob,n=Az 0 (Aw s)→Q (.tup [.dat i64 n,.dat i64 (if Bk s=true then Az 0 (zZ s)else 1),.bl true]) ob):Ends Mr (L4 s ) Q:=by
 obtain⟨c1,c2,c3⟩:=BF s;have es:AV s=((Aw s).length:Int):=rfl;have hle:=(T77.CP s).1;have hlen:s.length-(Aw s).length≤10:=by
  cases hc:Bk s with
  |true=>
   obtain⟨k1,k2⟩:=c2 hc;have:(zZ s).length=s.length-((Aw s).length+1):=by rw[k2,zH]
   omega
  |false=>rw[(c3 hc).1];omega
 have et:yh (Int.toNat (AV s)) s=Aw s:=by rw[es,zm];exact c1.symm
 obtain⟨v0,v1⟩:=T163.Ci da la;refine zQ (Dp ..) ?_;conv=>zeta
 rw[et];refine zd (by simp;omega) (zp (by simp[es];omega) (zp ?_ (zd (by simp[es];omega) (zd (T163.BU da (by omega)) ?_))))
 ·rw[es,wr _ (by omega) (by omega)];exact decide_eq_false (by omega)
 ·exact Ep s (Az 0 (Aw s)) hl lb db (fun ob=>hq _ ob rfl)
end T95
end Go.Pe
end
