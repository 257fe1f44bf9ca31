import Derived.Test.YtknhdhchejmpgaaGreatDoorX14
import Derived.Test.YtknhdhchejmpgaaGreatDoorX03
import Derived.ChangeSame
import Derived.Below
import Derived.Test.YtknhdhchejmpgaaGreatDoorX09
/- A part of a proof (no law is stated here). Made by program out of texts by AI agents. -/
open Go.Pe.Ends renaming tt → zc, leaf → ze, ite → zf, As → zk, eq → zt, ff → zu
open Bool renaming and_eq_true → zd, true_and → zC
open Go.IntKind renaming wrap → zg
open List renaming length_cons → zh, getElem?_eq_getElem → zj, getD_eq_getElem?_getD → zn, length_append → zo, mem_cons_self → zw, length_eq_zero_iff → zy, length_map → zz, all_eq_true → zD, getElem?_eq_none → zE, take_of_length_le → zG, map_cons → zJ, length_singleton → zK, mem_of_mem_drop → zN, mem_flatMap → zO, getElem?_take_of_lt → zP, mem_append_right → zT, length_take → zU, getElem?_map → ya, length_drop → yc, all_cons → ym, map_take → yn, map_drop → yo, range → yp
open Int renaming toNat_natCast → zi, gcd → zV, natAbs_of_nonneg → zW, mul_ne_zero → zY, natAbs_mul → zZ, mul_ediv_cancel_left → yb, tdiv_eq_ediv_of_dvd → yd, sign_eq_one_of_pos → yf, le_of_lt → yg, mul_nonneg → yi, gcd_comm → yq
open Go.Lib renaming decDigits → zl, itoa → z8
open Rat renaming divInt → zm
open Array renaming getElem?_eq_some_iff → zp, getElem?_eq_none → zI
open Go.DataW renaming trod → zq
open Nat renaming le_refl → zr, eq_of_beq_eq_true → zA, add_sub_cancel → zH, zero_le → zR, beq → zS, lt_of_le_of_lt → z7, beq_refl → yh
open Go.Pe.Af renaming of → zB
open Option renaming bind_some → zF, bind_eq_some_iff → ye
open Classical renaming not_not → zL
open Go.Sp renaming rW → zM, rN → zQ, B9 → zX, first → yj, vR → yr
open Go.World renaming cell? → yk
open Go.Addr renaming add → yt
section
namespace Go.Sp
open Go.Lib
theorem Vt(n:Int):rN n=decide (n<0):=rfl
theorem LZ(a:Bool×List Int):(a.1=true→vR a= -Aq a.2)∧(a.1=false→vR a=Aq a.2):=by
 unfold vR;exact⟨fun h=>by rw[if_pos h],fun h=>by rw[if_neg (by rw[h];decide)]⟩
theorem MY{neg:Bool}{w:List Int}{n:Int}(hd:Av B9 w)(h0:0≤Aq w)(h1:neg=true→n= -Aq w)(h2:neg=false→n=Aq w):(B5 neg w,Au w)=(rN n,rW n):=by
 refine Y8 hd ?_ (fun hn=>?_)
 ·rw[Ai];cases neg with
  |true=>have:=h1 rfl;omega
  |false=>have:=h2 rfl;omega
 ·rw[Vt];cases neg with
  |true=>have:=h1 rfl;symm;rw[decide_eq_true_eq];omega
  |false=>have:=h2 rfl;symm;rw[decide_eq_false_iff_not];omega
theorem I3{n:Int}(h:0≤n):Aq (BN n)=n∧Av B9 (BN n):=⟨CE (b:=B9) (by decide) h,ET (b:=B9) (by decide) n⟩
theorem XD{a b:Bool×List Int}(ha:Cy a=true)(hb:Cy b=true)(h:a.1=b.1):(B5 a.1 (LA a.2 b.2),Au (LA a.2 b.2))=(LY a b,Me a b):=by
 have a0:=(FV ha).2;have b0:=(FV hb).2;obtain⟨e1,e2⟩:=LZ a;obtain⟨f1,f2⟩:=LZ b;obtain⟨hv,hd⟩:=I3 (n:=Aq a.2+Aq b.2) (by omega);refine MY hd (by show 0≤Aq (BN _);omega) (fun k=>?_) (fun k=>?_)
 ·rw[e1 k,f1 (by rw[←h];exact k)];show _= -Aq (BN _);omega
 ·rw[e2 k,f2 (by rw[←h];exact k)];show _=Aq (BN _);omega
theorem VO{a b:Bool×List Int}(hb:Cy b=true)(h:a.1≠b.1)(hl:Aq b.2≤Aq a.2):(B5 a.1 (Gb a.2 b.2),Au (Gb a.2 b.2))=(LY a b,Me a b):=by
 have b0:=(FV hb).2;obtain⟨e1,e2⟩:=LZ a;obtain⟨f1,f2⟩:=LZ b;obtain⟨hv,hd⟩:=I3 (n:=Aq a.2-Aq b.2) (by omega);refine MY hd (by show 0≤Aq (BN _);omega) (fun k=>?_) (fun k=>?_)
 ·rw[e1 k,f2 (by rw[k]at h;cases hb:b.1 with|true=>exact absurd hb.symm h|false=>rfl)];show _= -Aq (BN _);omega
 ·rw[e2 k,f1 (by rw[k]at h;cases hb:b.1 with|true=>rfl|false=>exact absurd hb.symm h)];show _=Aq (BN _);omega
theorem jL{a b:Bool×List Int}(ha:Cy a=true)(h:a.1≠b.1)(hl:Aq a.2≤Aq b.2):(B5 b.1 (Gb b.2 a.2),Au (Gb b.2 a.2))=(LY a b,Me a b):=by
 have:=VO ha (fun k=>h k.symm) hl;rw[this];unfold LY Me;rw[Int.add_comm]
theorem Z2{a b:Bool×List Int}(ha:Cy a=true)(hb:Cy b=true):(B5 (a.1 !=b.1) (BN (Aq a.2*Aq b.2)),Au (BN (Aq a.2*Aq b.2)))=(G6 a b,Hc a b):=by
 have a0:=(FV ha).2;have b0:=(FV hb).2;obtain⟨e1,e2⟩:=LZ a;obtain⟨f1,f2⟩:=LZ b;have p0:=yi a0 b0;obtain⟨hv,hd⟩:=I3 p0;refine MY hd (by omega) (fun k=>?_) (fun k=>?_)
 ·rw[hv];cases h1:a.1<;>cases h2:b.1<;>rw[h1,h2]at k
  ·exact absurd k (by decide)
  ·rw[e2 h1,f1 h2,Int.mul_neg]
  ·rw[e1 h1,f2 h2,Int.neg_mul]
  ·exact absurd k (by decide)
 ·rw[hv];cases h1:a.1<;>cases h2:b.1<;>rw[h1,h2]at k
  ·rw[e2 h1,f2 h2]
  ·exact absurd k (by decide)
  ·exact absurd k (by decide)
  ·rw[e1 h1,f1 h2,Int.neg_mul,Int.mul_neg,Int.neg_neg]
theorem aO{a:Bool×List Int}(ha:Cy a=true):(B5 (!a.1) a.2,Au a.2)=(QG a,RM a):=by
 have a0:=(FV ha).2;obtain⟨e1,e2⟩:=LZ a;refine MY (Bj (Dc ha).1).2.1 a0 (fun k=>?_) (fun k=>?_)
 ·rw[e2 (by simpa using k)]
 ·rw[e1 (by simpa using k),Int.neg_neg]
theorem gF{w:List Int}{i:Nat}(hl:w.length=i+1):val B9 (w.drop i)=w.getD i 0:=by
 rw[Gt,List.drop_eq_nil_of_le (by omega)];show _+1000000000*0=_;omega
theorem U5{w:List Int}(hw:A4 w=true){i:Nat}(hl:w.length=i+1):Ht (w.getD i 0) 1=decDigits (val B9 (w.drop i)).toNat∧0<val B9 (w.drop i):=by
 have g:=Bu hw i;have t:=RJ hw (i:=i) (by omega) (by omega);rw[gF hl];exact⟨OV g.1 (by omega),by omega⟩
theorem Ye{w:List Int}(hw:A4 w=true)(i:Nat)(h0:0<val B9 (w.drop (i+1))):decDigits (val B9 (w.drop (i+1))).toNat++Ht (w.getD i 0) 9=decDigits (val B9 (w.drop i)).toNat∧0<val B9 (w.drop i):=by
 have g:=Bu hw i;rw[Gt w i,X1 g.1 g.2];generalize val B9 (w.drop (i+1))=V at*;generalize w.getD i 0=x at*;have h:=RK 9 V.toNat x.toNat (by decide) (by omega) (by omega);refine⟨?_,by omega⟩;rw[←h];congr 1;omega
theorem cP{a:Bool×List Int}(ha:Cy a=true)(hne:a.2≠[]):(if a.1=true then 45::decDigits (Aq a.2).toNat else decDigits (Aq a.2).toNat)=Jd a:=by
 obtain⟨e1,e2⟩:=LZ a;have h0:0<Aq a.2:=II (b:=B9) (by decide) (Bj (Dc ha).1).2.1 (Bj (Dc ha).1).2.2 hne;unfold Jd AW itoa;by_cases h:a.1=true
 ·rw[if_pos h,e1 h,if_pos (by omega),show(-Aq a.2).natAbs=(Aq a.2).toNat by omega]
 ·have h:a.1=false:=by simpa using h
  rw[if_neg (by rw[h];decide),e2 h,if_neg (by omega)]
theorem eN{a:Bool×List Int}(h:a.2=[]):[48]=Jd a:=by
 have:vR a=0:=by
  unfold vR;rw[h];split<;>rfl
 unfold Jd AW itoa;rw[this,if_neg (by decide),show(0:Int).toNat=0 from rfl,decDigits_one (by decide)];rfl
theorem Hj{N D:Int}(hD:0<D):0<gI (Ag N) D∧Ag N/gI (Ag N) D=Ag (zm N D).num∧D/gI (Ag N) D=((zm N D).den:Int)∧(N<0↔(zm N D).num<0):=by
 have hs:D.sign=1:=yf hD;have e1:(zm N D).num=N/(zV N D:Int):=by rw[Rat.num_divInt,hs,Int.one_mul,yq]
 have e2:((zm N D).den:Int)=D/(zV N D:Int):=by
  rw[Rat.den_divInt,if_neg (Int.ne_of_gt hD),yq,Int.natCast_ediv];rw[zW (yg hD)]
 have eg:gI (Ag N) D=(zV N D:Int):=by rw[F8,Ai];rfl
 have hg:0<zV N D:=Int.gcd_pos_of_ne_zero_right _ (by omega);obtain⟨k,hk⟩:(zV N D:Int)∣N:=Int.gcd_dvd_left ..;rw[eg,e1,e2];have hg:(0:Int)<(zV N D:Int):=by omega
 generalize (zV N D:Int)=g at*;have h1:N/g=k:=by rw[hk,yb _ (by omega)]
 have h2:Ag N/g=Ag k:=by
  rw[Ai,Ai,hk,zZ,Int.natCast_mul,show((g.natAbs:Nat):Int)=g by omega,yb _ (by omega)]
 refine⟨hg,by rw[h1,h2],rfl,?_⟩;rw[h1];constructor
 ·intro h;rcases Int.lt_or_le k 0 with x|x
  ·exact x
  ·have:=yi (yg hg) x;omega
 ·intro h;have:=Int.mul_neg_of_pos_of_neg hg h;omega
theorem cL{N D:Int}(hD:0<D){neg:Bool}(hn:neg=rN N):(B5 neg (BN (Ag N/gI (Ag N) D)),Au (BN (Ag N/gI (Ag N) D)))=(rN (zm N D).num,rW (zm N D).num):=by
 obtain⟨_,h1,_,h3⟩:=Hj (N:=N) hD;rw[h1];have a0:=Mv (zm N D).num;obtain⟨hv,hd⟩:=I3 a0;refine Y8 hd hv (fun _=>?_);rw[hn,Vt,Vt,decide_eq_decide];exact h3
theorem kH{n:Int}(h0:0≤n):BN n=[1]↔n=1:=by
 constructor
 ·intro h;have:=(I3 h0).1;rw[h]at this;exact this.symm
 ·rintro rfl;rfl
theorem PD{N D:Int}:CO N D=if (zm N D).den=1 then AW (zm N D).num else AW (zm N D).num++47::AW ((zm N D).den:Int):=by
 unfold CO A3;split
 ·rfl
 ·rw[show AW ((zm N D).den:Int)=decDigits (zm N D).den from Lib.itoa_nonneg _];rfl
theorem Tv(N D:Int):CO (-N) (-D)=CO N D:=by
 unfold CO;rw[Rat.neg_divInt_neg]
theorem O3{s:List UInt8}(h:BI s=true):A8 s=HD s∧AJ s=QX s∧Al (Ax (AZ s))=true∧Al (AO (AZ s))=true:=by
 obtain⟨t,_⟩:=Hi h;obtain⟨c1,c2,c3⟩:=Ib (AG s);obtain⟨p1,p2,p3,p4⟩:=VZ s;obtain⟨i1,i2,i3,i4⟩:=Ej (AG s).num;rw[t]at c1 c2 c3;have hB:Al (AO s)=true:=by
  rw[c2];split
  ·rfl
  ·exact DS _
 refine⟨?_,?_,?_,?_⟩
 ·unfold A8 HD Ca;rw[p1, ←p4];unfold AZ preB;by_cases hc:(Ax s).getD 0 0=45
  ·rw[if_pos hc,if_pos hc,if_pos (decide_eq_true hc)]
  ·rw[if_neg hc,if_neg hc,if_neg (by rw[decide_eq_false hc];decide)]
 ·unfold AJ QX Ca;rw[p2,p3,if_neg (E3 hB)]
 ·rw[p1,c1,i2];exact DS _
 ·rw[p2];exact hB
theorem FO{s:List UInt8}(h:BI s=true)(hq:DA s=true):Y6 s=A8 s∧SN s=AJ s∧ -1000000000<A8 s∧A8 s<1000000000∧0<AJ s∧AJ s<1000000000:=by
 obtain⟨h1,h2,h3,h4⟩:=O3 h;have hd:0<AJ s:=by
  have:=(Ep h).2.2.2.2.2.1;have:=(AG s).den_pos;omega
 unfold Y6 SN;rw[if_pos hq,if_pos hq];unfold DA at hq;rw[zd,zd,decide_eq_true_eq,decide_eq_true_eq,decide_eq_true_eq]at hq;obtain⟨⟨_,l1⟩,l2⟩:=hq;have b1:=Be h3;have b2:=Be h4;have m1:(10:Int)^(Ax (AZ s)).length≤10^9:=AL (by decide) l1;have m2:(10:Int)^(AO (AZ s)).length≤10^9:=AL (by decide) l2;refine⟨h1.symm,h2.symm,?_,?_,hd,?_⟩
 ·rw[h1];unfold HD;split<;>omega
 ·rw[h1];unfold HD;split<;>omega
 ·rw[h2];unfold QX;split<;>omega
theorem XW{a b:List UInt8}(ha:BI a=true)(hb:BI b=true):Lh a b=CO (A8 a*AJ b+AJ a*A8 b) (AJ a*AJ b)∧Lh a b=CO (A8 a*AJ b+A8 b*AJ a) (AJ a*AJ b):=by
 have d1:AJ a≠0:=by
  have:=(Ep ha).2.2.2.2.2.1;have:=(AG a).den_pos;omega
 have d2:AJ b≠0:=by
  have:=(Ep hb).2.2.2.2.2.1;have:=(AG b).den_pos;omega
 have e:Lh a b=CO (A8 a*AJ b+A8 b*AJ a) (AJ a*AJ b):=by
  unfold Lh CO AG;rw[Rat.divInt_add_divInt _ _ d1 d2]
 exact⟨by rw[e,Int.mul_comm (AJ a) (A8 b)],e⟩
theorem X5{a b:List UInt8}:Mt a b=CO (A8 a*A8 b) (AJ a*AJ b):=by
 unfold Mt CO AG;rw[Rat.divInt_mul_divInt]
theorem Xu{a:List UInt8}:Pa a=CO (AJ a) (A8 a):=by
 unfold Pa CO AG;rw[Rat.inv_divInt]
end Go.Sp
end
section
namespace Go.Sp
theorem Tu:∀(f n l:Nat) (acc:List UInt8),(GK f n l acc).length≤acc.length+f
 |0,_,_,acc=>zr _
 |f+1,n,l,acc=>by
  unfold GK;split
  ·omega
  ·have:=Tu f (n/10) l (UInt8.ofNat (48+n % 10)::acc);rw[zh]at this;omega
theorem Nl(n l:Int):(Ht n l).length≤64:=by
 have:=Tu 64 n.toNat l.toNat [];rw[List.length_nil,Nat.zero_add]at this;exact this
theorem Sw{v:Int}{k:Nat}(h:v<(B9:Int)^k)(hk:1≤k):(zl v.toNat).length≤9*k:=by
 rw[Un]at h;have h4:((10^(9*k):Nat):Int)=(10:Int)^(9*k):=Int.natCast_pow ..;rw[←h4]at h;refine E6 (k:=9*k) ?_ (by omega);have hp:0<10^(9*k):=Nat.pow_pos (by decide);generalize 10^(9*k)=P at*;omega
end Go.Sp
namespace Go.Pe
open Sp
open Go.Det
theorem pY{s:Sh}(hs:s.sz=1){id n:Nat}{tail:Ob}{fz:Bool}{t:TypeId}{o:List s.T}(hn:n=o.length):HA ⟨0,.leaf,(id,.arr fz t s o)::tail,0⟩ (.list s) (.sl id 1 0 n none)=some (true,o):=by
 subst hn;have h1:AP ((id,Obj.arr fz t s o)::tail) id=some (.arr fz t s o):=by unfold AP;rw[yh];rfl
 unfold HA;have h2:Ea ⟨0,.leaf,(id,.arr fz t s o)::tail,0⟩ (PV.cells (.sl id 1 0 o.length none))=some (true,[.dat (.list s) o]):=by
  show(match Ct ⟨0,.leaf,(id,.arr fz t s o)::tail,0⟩ (.sl id 1 0 o.length none),some (true,[])with|some (c,x),some (d,xs)=>some (c&&d,x::xs)|_,_=>none)=_;have:Ct ⟨0,.leaf,(id,.arr fz t s o)::tail,0⟩ (.sl id 1 0 o.length none)=some (true,.dat (.list s) o):=by
   unfold Ct AK.obj;simp only[h1,hs,yh,cond_true];simp
  rw[this];rfl
 simp only[J8,Sh.O9];show(match Ea ⟨0,.leaf,(id,.arr fz t s o)::tail,0⟩ (PV.cells (.sl id 1 0 o.length none))with|some (c,cs)=>_|none=>none)=_;rw[h2];have:CQ (.list s) [PV.dat (.list s) o]=some o:=by
  unfold CQ Co kC DG;simp
 simp only[Nr,this,zC]
theorem iV{s:Sh}(hs:s.sz=1){id n:Nat}{tail:Ob}{fz:Bool}{t:TypeId}{o:List s.T}(hn:n=o.length):P8 [.list s] (.sl id 1 0 n none) ((id,.arr fz t s o)::tail)=some (true,o):=pY hs hn
theorem G9(a:List Int)(i:Nat):Hl a (i:Int)=a.getD i 0:=by unfold Hl;rw[zi]
theorem fO:∀g sp,wE.sp g=some sp→Ae AV g sp:=fun g sp h=>by cases h
theorem T229.ok:Ae AV 229 Ue:=by
 refine AB (X:=wE) rfl fO (d:=9) (by kernel_rfl) (by kernel_rfl) (by kernel_rfl) (fun(i:List Int×Int) hi=>?_) (Ad (by kernel_rfl));obtain⟨a,i⟩:=i;have h0:0≤i:=of_decide_eq_true hi;have hq:∀v ob,v=Hl a i→Af Ue (a,i) (.dat i64 v) ob:=fun v ob h=>zB rfl rfl h
 refine zt (T229.An a i) (zf (fun c=>zc (Aa (decide_eq_true h0) c) (ze (hq _ _ rfl))) (fun c=>ze (hq _ _ ?_)));have c:=of_decide_eq_false c;unfold Hl;rw[zn,zE (by omega)];rfl
theorem WA:∀g sp,R3.sp g=some sp→Ae AV g sp:=Ac T229.ok (Ac T227.ok (fun g sp h=>by cases h))
theorem PH{x y c:Int}(hx:0≤x∧x<1000000000)(hy:0≤y∧y<1000000000)(hc:0≤c∧c≤1):
  zg .i64 (zg .i64 (x+y)+c)=x+y+c∧Int.tmod (x+y+c) 1000000000=(x+y+c) % 1000000000∧zg .i64 (Int.tdiv (x+y+c) 1000000000)=(x+y+c)/1000000000:=by
 refine⟨?_,Int.tmod_eq_emod_of_nonneg (by omega),?_⟩
 ·rw[wr (x+y) (by omega) (by omega)];exact wr _ (by omega) (by omega)
 ·rw[Int.tdiv_eq_ediv_of_nonneg (by omega)];exact wr _ (by omega) (by omega)
theorem cH{a b:List Int}(h:fE a b=true):A4 a=true∧A4 b=true∧a.length≤9000∧b.length≤9000:=by
 unfold fE at h;rw[zd,zd,zd,decide_eq_true_eq,decide_eq_true_eq]at h;exact⟨h.1.1.1,h.1.1.2,h.1.2,h.2⟩
theorem Z5{a b:List Int}(h1:A4 a=true)(h2:A4 b=true)(h3:a.length≤9000)(h4:b.length≤9000):fE a b=true:=by
 unfold fE;rw[h1,h2,decide_eq_true h3,decide_eq_true h4];rfl
namespace T169
variable {Q:PV→Ob→Prop}
theorem done(a b o:List Int)(i:Nat)(ha:a.length≤i)(hb:b.length≤i)(hq:Q (.sl 0 1 0 o.length none) [(0,.arr false 3 (.int .i64) o)]):Ends R3 (L2 a b o.length 0 i o) Q:=
 zk (A1 ..) (zu (decide_eq_false (by omega)) (zu (decide_eq_false (by omega)) (zu (by decide) (ze hq))))
set_option maxRecDepth 10000 in
theorem AS(a b:List Int)(ha:A4 a=true)(hb:A4 b=true)(la:a.length≤9000)(lb:b.length≤9000)(hq:Q (.sl 0 1 0 (LA a b).length none) [(0,.arr false 3 (.int .i64) (LA a b))]):∀(k i:Nat) (o:List Int) (c:Int),i+k=max a.length b.length→Ff a b i o c→Ends R3 (L2 a b o.length c i o) Q:=by
 have stop:∀(i:Nat) (o:List Int),a.length≤i→b.length≤i→Ff a b i o 0→Ends R3 (L2 a b o.length 0 i o) Q:=fun i o h1 h2 h=>by
  have:=h.fin h1 h2;exact done a b o i h1 h2 (by rw[this];exact hq)
 have next:∀(i:Nat) (o:List Int) (c:Int),i≤9000→Ff a b i o c→(i<a.length∨i<b.length∨0<c→Ends R3 (L2 a b (o++[(a.getD i 0+b.getD i 0+c) % 1000000000]).length ((a.getD i 0+b.getD i 0+c)/1000000000) ((i+1:Nat):Int) (o++[(a.getD i 0+b.getD i 0+c) % 1000000000])) Q)→Ends R3 (L2 a b o.length c i o) Q:=fun i o c hi h go=>by
  obtain⟨s1,s2,s3⟩:=PH (Bu ha i) (Bu hb i) h.c01;have e1:zg .i64 ((i:Int)+1)=((i+1:Nat):Int):=by rw[wr _ (by omega) (by omega)];omega
  have hl:=h.len;have cap:(decide ((1:Nat)≤(1:Nat))&&true&&decide (o.length=o.length)&&decide ((2*(o.length+1)+1000)*8≤281474976710656))=true:=by
   rw[decide_eq_true (zr 1),decide_eq_true (p:=o.length=o.length) rfl,Bool.and_true,zC];exact decide_eq_true (by omega)
  have h0:decide ((0:Int)≤(i:Int))=true:=decide_eq_true (by omega);rw[zo]at go;by_cases c1:(i:Int)<(a.length:Int)
  ·refine zk (A1 ..) ?_;conv=>zeta
   rw[G9,G9,s1,s2,s3,e1];exact zc (decide_eq_true c1) (zc h0 (zc h0 (zc rfl (zc cap (zc rfl (go (.inl (by omega))))))))
  ·by_cases c2:(i:Int)<(b.length:Int)
   ·refine zk (A1 ..) ?_;conv=>zeta
    rw[G9,G9,s1,s2,s3,e1];exact zu (decide_eq_false c1) (zc (decide_eq_true c2) (zc h0 (zc h0 (zc rfl (zc cap (zc rfl (go (.inr (.inl (by omega))))))))))
   ·by_cases c3:c>0
    ·refine zk (A1 ..) ?_;conv=>zeta
     rw[G9,G9,s1,s2,s3,e1];exact zu (decide_eq_false c1) (zu (decide_eq_false c2) (zc (decide_eq_true c3) (zc h0 (zc h0 (zc rfl (zc cap (zc rfl (go (.inr (.inr c3))))))))))
    ·obtain rfl:c=0:=by have:=h.c01;omega
     exact stop i o (by omega) (by omega) h
 intro k;induction k with
 |zero=>
  intro i o c hi h;refine next i o c (by omega) h (fun hc=>?_);have h2:=h.step ha hb hc;have z1:a.getD i 0=0:=by rw[zn,zE (by omega)];rfl
  have z2:b.getD i 0=0:=by rw[zn,zE (by omega)];rfl
  have hc0:=h.c01;have z3:(a.getD i 0+b.getD i 0+c)/1000000000=0:=by rw[z1,z2];omega
  rw[z3]at h2 ⊢;exact stop (i+1) _ (by omega) (by omega) h2
 |succ k ih=>
  intro i o c hi h;exact next i o c (by omega) h (fun hc=>ih (i+1) _ _ (by omega) (h.step ha hb hc))
set_option maxRecDepth 10000 in
theorem ok:Ae AV 169 Uj:=by
 refine AB (X:=R3) rfl WA (d:=9) (by kernel_rfl) (by kernel_rfl) (by kernel_rfl) (fun(i:List Int×List Int) hi=>?_) (Ad (by kernel_rfl));obtain⟨a,b⟩:=i;obtain⟨ha,hb,la,lb⟩:=cH hi;obtain⟨s1,s2,s3⟩:=PH (Bu ha 0) (Bu hb 0) (c:=0) (by decide);have h0:=Ff.start a b;have e0:(0:Int)=((0:Nat):Int):=rfl;have go:(0<a.length∨0<b.length)→Ends R3 (L2 a b 1 ((a.getD 0 0+b.getD 0 0+0)/1000000000) ((1:Nat):Int) [(a.getD 0 0+b.getD 0 0+0) % 1000000000]) (Af Uj (a,b)):=fun hc=>
  AS a b ha hb la lb (zB (iV rfl rfl) rfl rfl) (max a.length b.length-1) 1 _ _ (by omega) (h0.step ha hb (by rcases hc with h|h<;>omega))
 refine zt (An a b) (zk (Ar ..) ?_);have d1:Hl a 0=a.getD 0 0:=rfl;have d2:Hl b 0=b.getD 0 0:=rfl;have e1:zg .i64 ((0:Int)+1)=((1:Nat):Int):=rfl;rw[d1,d2,s1,s2,s3,e1];refine zf (fun c=>?_) (fun c1=>zf (fun c=>?_) (fun c2=>zu rfl (ze (zB (y:=[]) rfl rfl ?_))))
 ·exact zc rfl (zc rfl (zc rfl (zc rfl (zc rfl (go (.inl (by have:=of_decide_eq_true c;omega)))))))
 ·exact zc rfl (zc rfl (zc rfl (zc rfl (zc rfl (go (.inr (by have:=of_decide_eq_true c;omega)))))))
 ·have c1:=of_decide_eq_false c1;have c2:=of_decide_eq_false c2;exact h0.fin (by omega) (by omega)
end T169
namespace T171
variable {Q:PV→Ob→Prop}
theorem Gj{x y c:Int}(hx:0≤x∧x<1000000000)(hy:0≤y∧y<1000000000)(hc:0≤c∧c≤1):
  zg .i64 (zg .i64 (x-y)-c)=x-y-c∧zg .i64 (x-y-c+1000000000)=x-y-c+1000000000:=by
 refine⟨?_,wr _ (by omega) (by omega)⟩;rw[wr (x-y) (by omega) (by omega)];exact wr _ (by omega) (by omega)
set_option maxRecDepth 10000 in
theorem AS(a b:List Int)(ha:A4 a=true)(hb:A4 b=true)(la:a.length≤9000)(hle:Aq b≤Aq a)(hq:∀ob,Q (.dat li (Gb a b)) ob):∀(k i:Nat) (o:List Int) (c:Int),i+k=a.length→FT a b i o c→Ends R3 (L2 a b o.length c i o) Q
 |0,i,o,c,hi,h=>by
  have hi:i=a.length:=by omega
  subst hi;have hl:=h.len;refine zk (A1 ..) (zu (decide_eq_false (by omega)) ?_);rw[zG (zr _)];refine zc (Aa (Aa (decide_eq_true (by omega)) rfl) (decide_eq_true (by omega))) (ze ?_);rw[h.fin hb hle];exact hq _
 |k+1,i,o,c,hi,h=>by
  obtain⟨s1,s2⟩:=Gj (Bu ha i) (Bu hb i) h.c01;have e1:zg .i64 ((i:Int)+1)=((i+1:Nat):Int):=by rw[wr _ (by omega) (by omega)];omega
  have hl:=h.len;have cap:(decide ((1:Nat)≤(1:Nat))&&true&&decide (o.length=o.length)&&decide ((2*(o.length+1)+1000)*8≤281474976710656))=true:=by
   rw[decide_eq_true (zr 1),decide_eq_true (p:=o.length=o.length) rfl,Bool.and_true,zC];exact decide_eq_true (by omega)
  refine zk (A1 ..) ?_;conv=>zeta
  rw[G9,zi,s1,s2,e1];refine zc (decide_eq_true (by omega)) (zc (Aa (decide_eq_true (by omega)) (decide_eq_true (by omega))) (zc (decide_eq_true (by omega)) (zf (fun d=>zc cap ?_) (fun d=>zc cap ?_))))
  ·have:=AS a b ha hb la hle hq k (i+1) _ _ (by omega) (h.step ha hb _ 1 (.inl ⟨of_decide_eq_true d,rfl,rfl⟩));rw[zo]at this;exact this
  ·have:=AS a b ha hb la hle hq k (i+1) _ _ (by omega) (h.step ha hb _ 0 (.inr ⟨of_decide_eq_false d,rfl,rfl⟩));rw[zo]at this;exact this
set_option maxRecDepth 10000 in
theorem ok:Ae AV 171 US:=by
 refine AB (X:=R3) rfl WA (d:=9) (by kernel_rfl) (by kernel_rfl) (by kernel_rfl) (fun(i:List Int×List Int) hi=>?_) (Ad (by kernel_rfl));obtain⟨a,b⟩:=i;have hi:(fE a b&&decide (Aq b≤Aq a))=true:=hi;rw[zd,decide_eq_true_eq]at hi;obtain⟨hi,hle⟩:=hi;obtain⟨ha,hb,la,lb⟩:=cH hi;have h0:=FT.start a b;have hq:∀ob,Af US (a,b) (.dat li (Gb a b)) ob:=fun ob=>zB rfl rfl rfl
 refine zt (An a b) (zk (Ar ..) ?_);obtain⟨s1,s2⟩:=Gj (Bu ha 0) (Bu hb 0) (c:=0) (by decide);have d2:Hl b 0=b.getD 0 0:=rfl;have e1:zg .i64 ((0:Int)+1)=((1:Nat):Int):=rfl;rw[d2,show Int.toNat 0=0 from rfl,s1,s2,e1];refine zf (fun c=>?_) (fun c=>?_)
 ·have c1:=of_decide_eq_true c;refine zc (Aa rfl c) (zc rfl (zf (fun d=>zc rfl ?_) (fun d=>zc rfl ?_)))
  ·exact AS a b ha hb la hle hq (a.length-1) 1 _ _ (by omega) (h0.step ha hb _ 1 (.inl ⟨of_decide_eq_true d,rfl,rfl⟩))
  ·exact AS a b ha hb la hle hq (a.length-1) 1 _ _ (by omega) (h0.step ha hb _ 0 (.inr ⟨of_decide_eq_false d,rfl,rfl⟩))
 ·have c:=of_decide_eq_false c;have hz:a=[]:=zy.1 (by omega);subst hz;refine zc rfl (ze ?_);rw[FT.fin h0 hb hle];exact hq _
end T171
theorem Rt:∀g sp,rH.sp g=some sp→Ae AV g sp:=Ac T168.ok (Ac T169.ok (Ac T170.ok (Ac T171.ok (Ac T172.ok (Ac T164.ok (fun g sp h=>by cases h))))))
theorem JY{n:Int}{k:Nat}(h0:0≤n)(h:n<(zX:Int)^k):(BN n).length≤k:=MV h0 h
theorem JQ{a:Bool×List Int}(h:Cy a=true):0≤Aq a.2∧Aq a.2<(zX:Int)^3000:=by
 obtain⟨h1,h2,_⟩:=Dc h;refine⟨(FV h).2,Int.lt_of_lt_of_le (Bo (b:=zX) (by decide) (Bj h1).2.1) (AL (by decide) h2)⟩
theorem Ui{x y:Int}{k:Nat}(h1:x<(zX:Int)^k)(h2:y<(zX:Int)^k):x+y<(zX:Int)^(k+1):=by
 have:(zX:Int)^(k+1)=(zX:Int)^k*1000000000:=Int.pow_succ ..;have hp:=AN (b:=(zX:Int)) (by decide) k;rw[this];omega
theorem T97.ok:Ae AV 97 YQ:=by
 refine AB (X:=rH) rfl Rt (d:=9) (by kernel_rfl) (by kernel_rfl) (by kernel_rfl) (fun(i:(Bool×List Int)×(Bool×List Int)) hi=>?_) (Ad (by kernel_rfl));obtain⟨a,b⟩:=i;have hi:(Cy a&&Cy b)=true:=hi;rw[zd]at hi;obtain⟨ha,hb⟩:=hi;obtain⟨a1,a2,_⟩:=Dc ha;obtain⟨b1,b2,_⟩:=Dc hb;obtain⟨va,wa⟩:=JQ ha;obtain⟨vb,wb⟩:=JQ hb;have pl:=Z5 a1 b1 (by omega) (by omega);have pl2:=Z5 b1 a1 (by omega) (by omega);refine zt (T97.An a b) (zf (fun c=>?_) (fun c=>zc (Aa a1 b1) (zf (fun d=>?_) (fun d=>?_))))
 ·have hl:(LA a.2 b.2).length≤3001:=JY (by omega) (Ui wa wb);exact zc pl (zc (decide_eq_true (by omega)) (ze (zB rfl rfl (XD ha hb (by simpa using c)))))
 ·have hle:Aq b.2≤Aq a.2:=by
   have d:=of_decide_eq_true d;unfold BX at d;split at d
   ·omega
   ·omega
  have hl:(Gb a.2 b.2).length≤3000:=JY (by omega) (by omega);exact zc (Aa pl (decide_eq_true hle)) (zc (decide_eq_true (by omega)) (ze (zB rfl rfl (VO hb (by simpa using c) hle))))
 ·have hle:Aq a.2≤Aq b.2:=by
   have d:=of_decide_eq_false d;unfold BX at d;split at d
   ·omega
   ·split at d<;>omega
  have hl:(Gb b.2 a.2).length≤3000:=JY (by omega) (by omega);exact zc (Aa pl2 (decide_eq_true hle)) (zc (decide_eq_true (by omega)) (ze (zB rfl rfl (jL ha (by simpa using c) hle))))
theorem T98.ok:Ae AV 98 VS:=by
 refine AB (X:=rH) rfl Rt (d:=9) (by kernel_rfl) (by kernel_rfl) (by kernel_rfl) (fun(i:(Bool×List Int)×(Bool×List Int)) hi=>?_) (Ad (by kernel_rfl));obtain⟨a,b⟩:=i;have hi:(Cy a&&Cy b)=true:=hi;rw[zd]at hi;obtain⟨ha,hb⟩:=hi;obtain⟨a1,a2,_⟩:=Dc ha;obtain⟨b1,b2,_⟩:=Dc hb;obtain⟨va,wa⟩:=JQ ha;obtain⟨vb,wb⟩:=JQ hb;have hm:Aq a.2*Aq b.2<(zX:Int)^(3000+3000):=by
  rw[Int.pow_add];have hp:(0:Int)<(zX:Int)^3000:=AN (by decide) 3000;exact Int.lt_of_le_of_lt (Int.mul_le_mul_of_nonneg_left (yg wb) va) (Int.mul_lt_mul_of_pos_right wa hp)
 have hl:=JY (yi va vb) hm;exact zt (T98.An a b) (zc (Aa (Pn (by omega) (Bj a1).2.1) (Pn (by omega) (Bj b1).2.1)) (zc (decide_eq_true (by omega)) (ze (zB rfl rfl (Z2 ha hb)))))
theorem T166.ok:Ae AV 166 Ww:=by
 refine AB (X:=rH) rfl Rt (d:=9) (by kernel_rfl) (by kernel_rfl) (by kernel_rfl) (fun(a:Bool×List Int) ha=>?_) (Ad (by kernel_rfl));have ha:Cy a=true:=ha;have:=(Dc ha).2.1;exact zt (T166.An a) (zc (decide_eq_true (by omega)) (ze (zB rfl rfl (aO ha))))
theorem lQ:∀g sp,sP.sp g=some sp→Ae AV g sp:=Ac T109.ok (fun g sp h=>by cases h)
namespace T167
variable {Q:PV→Ob→Prop}
theorem Aj(neg:Bool)(w:List Int)(hw:A4 w=true)(hwl:w.length≤3000)(hq:∀ob,Q (.dat .str (if neg=true then 45::zl (Aq w).toNat else zl (Aq w).toNat)) ob):∀(i:Nat),i≤w.length→0<Sp.val zX (w.drop i)→Ends sP (L1 (zl (Sp.val zX (w.drop i)).toNat) ((i:Int)-1) neg w) Q:=by
 have hlen:∀i,(zl (Sp.val zX (w.drop i)).toNat).length≤27000:=fun i=>by
  have h1:=Bo (b:=zX) (by decide) (Eb (Bj hw).2.1 i);have h2:(zX:Int)^(w.drop i).length≤(zX:Int)^3000:=AL (by decide) (by rw[yc];omega);exact Sw (k:=3000) (Int.lt_of_lt_of_le h1 h2) (by decide)
 intro i;induction i with
 |zero=>
  intro _ _;have hl:=hlen 0;rw[List.drop_zero]at hl ⊢;have hl:(zl (Aq w).toNat).length≤27000:=hl;refine zk (Ar ..) (zu (by decide) (zf (fun c=>zc (decide_eq_true (by show 1+(zl (Aq w).toNat).length≤_;omega)) (ze ?_)) (fun c=>ze ?_)))
  ·rw[if_pos c]at hq;exact hq _
  ·rw[if_neg (by rw[c];decide)]at hq;exact hq _
 |succ i ih=>
  intro hi h0;have g:=Bu hw i;have e1:(((i+1:Nat):Int)-1)=(i:Int):=by omega
  have hl:=hlen (i+1);have h9:(Ht (w.getD i 0) 9).length≤64:=by
   have:=Nl (w.getD i 0) 9;exact this
  obtain⟨s1,s2⟩:=Ye hw i h0;rw[e1];refine zk (Ar ..) ?_;conv=>zeta
  rw[zi,s1,wr ((i:Int)-1) (by omega) (by omega)];exact zc (decide_eq_true (by omega)) (zc (Aa (decide_eq_true (by omega)) (decide_eq_true (by omega))) (zc (Aa (Aa (Aa (decide_eq_true g.1) (decide_eq_true (by omega))) rfl) rfl) (zc (decide_eq_true (by omega)) (ih (by omega) s2))))
theorem ok:Ae AV 167 ZQ:=by
 refine AB (X:=sP) rfl lQ (d:=9) (by kernel_rfl) (by kernel_rfl) (by kernel_rfl) (fun(a:Bool×List Int) ha=>?_) (Ad (by kernel_rfl));have ha:Cy a=true:=ha;obtain⟨a1,a2,_⟩:=Dc ha;refine zt (An a) (zf (fun c=>ze (zB rfl rfl (eN ?_))) (fun c=>?_))
 ·exact zy.1 (by have:(a.2.length:Int)=0:=(by simpa using c);omega)
 ·have c:(a.2.length:Int)≠0:=by simpa using c
  obtain⟨i,hi⟩:∃i,a.2.length=i+1:=⟨a.2.length-1,by omega⟩;have g:=Bu a1 i;obtain⟨s1,s2⟩:=U5 a1 hi;have e1:zg .i64 ((a.2.length:Int)-1)=(i:Int):=by rw[wr _ (by omega) (by omega)];omega
  have e2:zg .i64 ((a.2.length:Int)-2)=(i:Int)-1:=by rw[wr _ (by omega) (by omega)];omega
  rw[e1,e2,zi,s1];refine zc (Aa (decide_eq_true (by omega)) (decide_eq_true (by omega))) (zc (Aa (Aa (Aa (decide_eq_true g.1) (decide_eq_true (by omega))) rfl) rfl) (Aj a.1 a.2 a1 a2 (fun ob=>zB rfl rfl ?_) i (by omega) s2));exact cP ha (by intro h;rw[h]at hi;cases hi)
end T167
end Go.Pe
end
section
namespace Go.Sp
theorem Zw{a k m:Nat}(h:a<10^k)(hk:k≤m):a<10^m:=Nat.lt_of_lt_of_le h (Nat.pow_le_pow_right (by decide) hk)
theorem cS{a b k:Nat}(h1:a<10^k)(h2:b<10^k):a+b<10^(k+1):=by rw[Nat.pow_succ];omega
theorem JE{n:Int}{k:Nat}(h:n.natAbs<10^k)(hk:k≤27000):Cy (rN n,rW n)=true:=QQ (Zw (m:=27000) h hk)
theorem It{m n:Int}(h:Cy (rN n,rW n)=true)(hm:m.natAbs≤n.natAbs):Cy (rN m,rW m)=true:=by
 have:=qW h;rw[EB]at this;exact QQ (z7 hm this)
theorem W9{n:Int}(h:CS n=true):Cy (rN n,rW n)=true:=by
 have h:=Go.Pe.Em h;exact JE (k:=20) (by have:10^20=100000000000000000000:=rfl;omega) (by decide)
theorem TR{n:Int}(h:Cy (rN n,rW n)=true):A4 (rW n)=true∧(rW n).length≤3000∧Ag n<(B9:Int)^3000:=by
 obtain⟨h1,h2,_⟩:=Dc h;refine⟨h1,h2,?_⟩;have:=(Go.Pe.JQ h).2;rwa [show Aq (rN n,rW n).2=Ag n from Js n]at this
theorem S0{n:Int}(h:Cy (rN n,rW n)=true):(AW n).length≤27001:=by
 have h1:=(TR h).2.2;have h2:=Sw h1 (by decide);have e:(Ag n).toNat=n.natAbs:=by rw[Ai];omega
 rw[e]at h2;unfold AW z8;split
 ·rw[zh];omega
 ·rw[show n.toNat=n.natAbs by omega];omega
theorem Sr(n:Int):Jd (rN n,rW n)=AW n:=by unfold Jd;rw[EB]
theorem UM{N D:Int}(hD:0<D):Int.tdiv N (gI (Ag N) D)=(zm N D).num∧Int.tdiv D (gI (Ag N) D)=((zm N D).den:Int):=by
 have hs:D.sign=1:=yf hD;have eg:gI (Ag N) D=(zV N D:Int):=by rw[F8,Ai];rfl
 have d1:(zV N D:Int)∣N:=Int.gcd_dvd_left ..;have d2:(zV N D:Int)∣D:=Int.gcd_dvd_right ..;rw[eg,yd d1,yd d2];refine⟨?_,(Hj (N:=N) hD).2.2.1▸?_⟩
 ·rw[Rat.num_divInt,hs,Int.one_mul,yq]
 ·rw[eg]
theorem Px(x y:Int):G6 (rN x,rW x) (rN y,rW y)=rN (x*y):=by unfold G6;rw[EB,EB]
theorem Pp(x y:Int):Hc (rN x,rW x) (rN y,rW y)=rW (x*y):=by unfold Hc;rw[EB,EB]
theorem YS(x y:Int):LY (rN x,rW x) (rN y,rW y)=rN (x+y):=by unfold LY;rw[EB,EB]
theorem eU(x y:Int):Me (rN x,rW x) (rN y,rW y)=rW (x+y):=by unfold Me;rw[EB,EB]
theorem OM(x y:Int):Hn (rN x,rW x) (rN y,rW y)=CO x y:=by unfold Hn;rw[EB,EB]
theorem Ti{a b:Nat}(h:a≤b):(zl a).length≤(zl b).length:=by
 have h1:=Lib.lt_pow_nDigits b;have h2:1≤(zl b).length:=List.length_pos_iff.2 (cF b);rw[←Lib.decDigits_length]at h1;exact E6 (z7 h h1) h2
theorem neg_num(x:Rat):(x.num<0↔x<0)∧(x.num>0↔0<x):=by
 rw[Rat.lt_iff,Rat.lt_iff];have:(0:Rat).num=0:=rfl;have h1:((0:Rat).den:Int)=1:=rfl;rw[this,h1];omega
theorem ZX(p q:Rat):SC (p-q).num=if p<q then -1 else if q<p then 1 else 0:=by
 obtain⟨h1,h2⟩:=neg_num (p-q);have h3:p-q<0↔p<q:=by rw[Rat.sub_lt_iff,Rat.zero_add]
 have h4:0<p-q↔q<p:=(Rat.lt_iff_sub_pos q p).symm;unfold SC;simp only[h1,h2,h3,h4]
end Go.Sp
namespace Go.Pe
open Sp
open Go.Det
theorem iS:∀g sp,cZ.sp g=some sp→Ae AV g sp:=Ac T166.ok (Ac T92.ok (Ac T164.ok (Ac T168.ok (Ac T167.ok (fun g sp h=>by cases h)))))
namespace T96
variable {Q:PV→Ob→Prop}
theorem Cs(n d:Int)(hn:Cy (zQ n,zM n)=true)(hd:Cy (zQ d,zM d)=true)(d0:0≤d)(hq:∀ob,Q (.dat .str (AW n++47::AW d)) ob):Ends cZ (L3 (BN d) (AW n)) Q:=by
 have l1:=S0 hn;have l2:=S0 hd;have e:zM d=BN d:=by unfold zM;rw[Ai,zW d0]
 have l3:=(TR hd).2.1;rw[e]at l3;obtain⟨hv,hg⟩:=I3 d0;have hp:(B5 false (BN d),Au (BN d))=(zQ d,zM d):=MY hg (by omega) (fun k=>(by cases k)) (fun _=>hv.symm);refine zk (CN ..) ?_;conv=>zeta
 rw[hp,Sr];refine zc (decide_eq_true (by omega)) (zc (decide_eq_true (by omega)) (zc hd (zc (decide_eq_true (by rw[zo,zK];omega)) (ze ?_))));rw[List.append_assoc];exact hq _
theorem AS(n d:Int)(hn:Cy (zQ n,zM n)=true)(hd:Cy (zQ d,zM d)=true)(d0:0<d)(hq1:d=1→∀ob,Q (.dat .str (AW n)) ob)(hq:d≠1→∀ob,Q (.dat .str (AW n++47::AW d)) ob):Ends cZ (L2 (BN d) (AW n)) Q:=by
 have h1:=kH (n:=d) (by omega);by_cases h:d=1
 ·rw[h1.2 h];exact zk (A1 ..) (zc rfl (zc rfl (zc rfl (ze (hq1 h _)))))
 ·have h3:=Cs n d hn hd (by omega) (hq h);refine zk (A1 ..) (zf (fun c=>zc ?_ (zf (fun e=>?_) (fun _=>h3))) (fun _=>h3))
  ·have c:((BN d).length:Int)=1:=by simpa using c
   exact decide_eq_true (by omega)
  ·exfalso;have c:((BN d).length:Int)=1:=by simpa using c
   have e:(BN d).getD 0 0=1:=by simpa using e
   refine h (h1.1 ?_);cases hl:BN d with
   |nil=>rw[hl]at c;cases c
   |cons x r=>
    rw[hl]at c e;have hr:r=[]:=zy.1 (by have:((r.length+1:Nat):Int)=1:=c;omega);have e:x=1:=e;rw[hr,e]
theorem Aj(N D:Int)(hN:Cy (zQ N,zM N)=true)(hD:Cy (zQ D,zM D)=true)(h0:0<D)(hq:∀ob,Q (.dat .str (CO N D)) ob):Ends cZ (L1 (zQ D) (zM D) (zQ N) (zM N)) Q:=by
 obtain⟨n1,n2,n3⟩:=TR hN;obtain⟨d1,d2,d3⟩:=TR hD;obtain⟨g0,f1,f2,f3⟩:=Hj (N:=N) h0;have eD:Ag D=D:=by rw[Ai,zW (yg h0)]
 have ec:Cd (zM N) (zM D)=BN (Sp.gI (Ag N) D):=by
  unfold Cd;rw[Js,Js,eD]
 have gd:Sp.gI (Ag N) D≤D:=by
  have eg:Sp.gI (Ag N) D=(zV N D:Int):=by rw[F8,Ai];rfl
  rw[eg];exact Int.le_of_dvd h0 (Int.gcd_dvd_right ..)
 have fn:=cL h0 (neg:=zQ N) rfl;have nn:(zm N D).num.natAbs≤N.natAbs:=(E1 (n:=N) (d:=D) (by omega)).1;have dd:(zm N D).den≤D.natAbs:=(E1 (n:=N) (d:=D) (by omega)).2;have De:=It (m:=(zm N D).num) hN nn;have okD:=It (m:=((zm N D).den:Int)) hD (by rw[Int.natAbs_natCast];exact dd);have lg:Ag (zm N D).num<(zX:Int)^3000:=(TR De).2.2;have ft:=PD (N:=N) (D:=D);have dp:=(zm N D).den_pos;have a0:=Mv (zm N D).num;rw[eD]at d3;refine zk (Ar ..) ?_;conv=>zeta
 rw[ec,Js,Js,eD];generalize Sp.gI (Ag N) D=g at*;have fg:=Gw (n:=g) (k:=3000) (by omega) (by omega) (by decide);rw[fg.2.2.1,fn,f1,f2,Sr];have ll:=JY a0 lg;refine zc (Aa (Aa (Aa n1 d1) (decide_eq_true (by omega))) (decide_eq_true (by omega))) (zc (Aa (Aa (Aa (Aa n1 fg.1) (decide_eq_true (by omega))) (decide_eq_true (by omega))) (decide_eq_true g0)) (zc (Aa (Aa (Aa (Aa d1 fg.1) (decide_eq_true (by omega))) (decide_eq_true (by omega))) (decide_eq_true g0)) (zc (decide_eq_true (by omega)) (zc De (AS _ _ De okD (by omega) (fun h ob=>?_) (fun h ob=>?_))))))
 ·have:=hq ob;rw[ft,if_pos (by omega)]at this;exact this
 ·have:=hq ob;rw[ft,if_neg (by omega)]at this;exact this
theorem ok:Ae AV 96 LD:=by
 refine AB (X:=cZ) rfl iS (d:=9) (by kernel_rfl) (by kernel_rfl) (by kernel_rfl) (fun(i:(Bool×List Int)×(Bool×List Int)) hi=>?_) (Ad (by kernel_rfl));obtain⟨a,b⟩:=i;have hi:(Cy a&&Cy b&&decide (yr b≠0))=true:=hi;rw[zd,zd,decide_eq_true_eq]at hi;obtain⟨⟨ha,hb⟩,h0⟩:=hi;have ea:=mB ha;have eb:=mB hb;have hq:∀ob,Af LD (a,b) (.dat .str (CO (yr a) (yr b))) ob:=fun ob=>zB rfl rfl rfl
 have ha2:=ha;have hb2:=hb;rw[ea]at ha2;rw[eb]at hb2;refine zt (An a b) (zf (fun c=>zc ha (zc hb ?_)) (fun c=>?_))
 ·have hneg:yr b<0:=by
   have:=OQ hb;rw[c]at this;exact of_decide_eq_true this.symm
  have:=Aj (Q:=Af LD (a,b)) (-yr a) (-yr b) (It ha2 (by rw[Int.natAbs_neg];exact zr _)) (It hb2 (by rw[Int.natAbs_neg];exact zr _)) (by omega) (fun ob=>by rw[Tv];exact hq ob);exact this
 ·have hpos:0<yr b:=by
   have:=OQ hb;rw[c]at this;have:=of_decide_eq_false this.symm;omega
  have:=Aj (Q:=Af LD (a,b)) (yr a) (yr b) ha2 hb2 hpos hq;rw[←OQ ha, ←nU ha, ←OQ hb, ←nU hb]at this;exact this
end T96
theorem fS:∀g sp,X4.sp g=some sp→Ae AV g sp:=Ac T107.ok (Ac T96.ok (Ac T108.ok (Ac T109.ok (fun g sp h=>by cases h))))
namespace T36
variable {Q:PV→Ob→Prop}
theorem Td{n:Int}(h1: -9000000000000000000≤n)(h2:n≤9000000000000000000):imax n (zg .i64 (0-n))=Ag n:=by
 rw[wr _ (by omega) (by omega)];unfold imax Ag;split<;>split<;>omega
theorem BR(n d:Int)(v:List UInt8)(hv:v=AW n)(hl:v.length≤27001)(d0:0<d)(d1:d<9000000000000000000)(hq1:d=1→∀ob,Q (.dat .str (AW n)) ob)(hq:d≠1→∀ob,Q (.dat .str (AW n++47::AW d)) ob):Ends X4 (L4 d v) Q:=by
 have h9:=Nl d 1;have e:Ht d 1=AW d:=by
  rw[OV (by omega) (by omega)];unfold AW z8;rw[if_neg (by omega)]
 refine zk (Dm ..) (zf (fun c=>zc (decide_eq_true (by omega)) (zc (Aa (Aa (Aa (decide_eq_true (by omega)) (decide_eq_true (by omega))) rfl) rfl) (zc (decide_eq_true (by rw[zo,zK];omega)) (ze ?_)))) (fun c=>ze ?_))
 ·have c:=of_decide_eq_true c;rw[hv,e,List.append_assoc];exact hq (by omega) _
 ·have c:=of_decide_eq_false c;rw[hv];exact hq1 (by omega) _
theorem Cs(n d:Int)(n1: -9000000000000000000<n)(n2:n<9000000000000000000)(d0:0<d)(d1:d<9000000000000000000)(hq1:d=1→∀ob,Q (.dat .str (AW n)) ob)(hq:d≠1→∀ob,Q (.dat .str (AW n++47::AW d)) ob):Ends X4 (L3 n d) Q:=by
 have h9:=Nl (Ag n) 1;have ha:=Ai n;have e:Ht (Ag n) 1=zl n.natAbs:=by
  rw[OV (by omega) (by omega)];congr 1;omega
 have ei:=Xf n;refine zk (CN ..) ?_;conv=>zeta
 rw[Td (by omega) (by omega)];have hr:(decide (0≤Ag n)&&decide (Ag n<9223372036854775808)&&decide ((0:Int)≤1)&&decide ((1:Int)≤20))=true:=Aa (Aa (Aa (decide_eq_true (by omega)) (decide_eq_true (by omega))) rfl) rfl;refine zf (fun c=>zc hr (zc (decide_eq_true (by omega)) (BR n d _ ?_ ?_ d0 d1 hq1 hq))) (fun c=>zc hr (zc (decide_eq_true (by omega)) (BR n d _ ?_ ?_ d0 d1 hq1 hq)))
 ·have c:=of_decide_eq_true c;rw[if_pos c]at ei;rw[e];exact ei.symm
 ·rw[zo,zK];omega
 ·have c:=of_decide_eq_false c;rw[if_neg c]at ei;rw[e];exact ei.symm
 ·rw[List.nil_append];omega
theorem AS(n d:Int)(n1: -9000000000000000000<n)(n2:n<9000000000000000000)(d0:0<d)(d1:d<9000000000000000000)(hq:∀ob,Q (.dat .str (CO n d)) ob):Ends X4 (L2 n d) Q:=by
 obtain⟨g0,_⟩:=Hj (N:=n) d0;obtain⟨q1,q2⟩:=UM (N:=n) d0;obtain⟨l1,l2⟩:=E1 (n:=n) (d:=d) (by omega);have ha:=Ai n;have dp:=(zm n d).den_pos;have ft:=PD (N:=n) (D:=d);refine zk (A1 ..) ?_;conv=>zeta
 rw[Td (by omega) (by omega),q1,q2,wr _ (by omega) (by omega),wr _ (by omega) (by omega)];have hg:decide (Sp.gI (Ag n) d≠0)=true:=decide_eq_true (by omega);refine zc (Aa (Aa (Aa (decide_eq_true (by omega)) (decide_eq_true (by omega))) (decide_eq_true (by omega))) (decide_eq_true (by omega))) (zc hg (zc hg (Cs _ _ (by omega) (by omega) (by omega) (by omega) (fun h ob=>?_) (fun h ob=>?_))))
 ·have:=hq ob;rw[ft,if_pos (by omega)]at this;exact this
 ·have:=hq ob;rw[ft,if_neg (by omega)]at this;exact this
theorem ok:Ae AV 36 Zm:=by
 refine AB (X:=X4) rfl fS (d:=9) (by kernel_rfl) (by kernel_rfl) (by kernel_rfl) (fun(i:Int×Int) hi=>?_) (Ad (by kernel_rfl));obtain⟨n,d⟩:=i;have hi:(CS n&&CS d&&decide (d≠0))=true:=hi;rw[zd,zd,decide_eq_true_eq]at hi;obtain⟨⟨hn,hd⟩,h0⟩:=hi;have hq:∀ob,Af Zm (n,d) (.dat .str (CO n d)) ob:=fun ob=>zB rfl rfl rfl
 have slow:(Cy (zQ n,zM n)&&Cy (zQ d,zM d)&&decide (yr (zQ d,zM d)≠0))=true:=Aa (Aa (W9 hn) (W9 hd)) (by rw[EB];exact decide_eq_true h0);refine zt (An n d) ?_;conv=>zeta
 rw[OM];refine zf (fun _=>zc hn (zc hd (zc slow (ze (hq _))))) (fun c1=>zf (fun _=>zc hn (zc hd (zc slow (ze (hq _))))) (fun c2=>zf (fun _=>zc hn (zc hd (zc slow (ze (hq _))))) (fun c3=>zf (fun _=>zc hn (zc hd (zc slow (ze (hq _))))) (fun c4=>?_))));have c1:=of_decide_eq_false c1;have c2:=of_decide_eq_false c2;have c3:=of_decide_eq_false c3;have c4:=of_decide_eq_false c4;refine zk (Ar ..) (zf (fun c=>?_) (fun c=>?_))
 ·have c:=of_decide_eq_true c;rw[wr (0-n) (by omega) (by omega),wr (0-d) (by omega) (by omega),Int.zero_sub,Int.zero_sub];exact AS (-n) (-d) (by omega) (by omega) (by omega) (by omega) (fun ob=>by rw[Tv];exact hq ob)
 ·have c:=of_decide_eq_false c;exact AS n d (by omega) (by omega) (by omega) (by omega) hq
end T36
namespace T95
theorem vV{Q:PV→Ob→Prop}(s:List UInt8)(neg:Bool)(hl:s.length≤20)(h:9<(Ax s).length∨9<(Sp.AO s).length)(hq:∀ob,Q (.tup [.dat i64 0,.dat i64 0,.bl false]) ob):Ends Ml (L3 s neg) Q∧Ends Ml (L4 s) Q:=by
 obtain⟨c1,c2,c3⟩:=BG s;have es:AY s=((Ax s).length:Int):=rfl;have hle:=(T77.CP s).1;have hB:9<(Sp.AO s).length→(s.length:Int)-(Ax s).length>10:=fun h=>by
  cases hc:Bm s with
  |true=>
   have k2:=congrArg List.length (c2 hc).2;rw[yc]at k2;omega
  |false=>rw[(c3 hc).2]at h;cases h
 refine⟨zk (CN ..) (zc (decide_eq_true (by omega)) (zf (fun _=>ze (hq _)) (fun c=>?_))),zk (Dm ..) (zc (decide_eq_true (by omega)) (zf (fun _=>ze (hq _)) (fun c=>?_)))⟩
 ·have c:=of_decide_eq_false c;rw[es]at c;have hb:=hB (by omega);refine zc ?_ (ze (hq _));rw[es,wr _ (by omega) (by omega)];exact decide_eq_true hb
 ·have c:=of_decide_eq_false c;rw[es]at c;have hb:=hB (by omega);refine zc ?_ (ze (hq _));rw[es,wr _ (by omega) (by omega)];exact decide_eq_true hb
theorem xO:Ae AV 95 MA:=by
 refine AB (X:=Ml) rfl fV (d:=9) (by kernel_rfl) (by kernel_rfl) (by kernel_rfl) (fun(a:List UInt8) ha=>?_) (Ad (by kernel_rfl));obtain⟨_,_,da,db⟩:=O3 ha;by_cases hqk:DA a=true
 ·have hq:∀n ob,n=HD a→Af MA a (.tup [.dat i64 n,.dat i64 (if Bm (AZ a)=true then AA 0 (Sp.AO (AZ a))else 1),.bl true]) ob:=fun n ob h=>zB rfl rfl (by
   show(n,_,true)=(Y6 a,SN a,DA a);unfold Y6 SN;rw[if_pos hqk,if_pos hqk,hqk,h];rfl)
  unfold DA at hqk;rw[zd,zd,decide_eq_true_eq,decide_eq_true_eq,decide_eq_true_eq]at hqk;obtain⟨⟨hl,la⟩,lb⟩:=hqk;clear ha;refine zt (An a) (zu (by simp;omega) ?_);cases a with
  |nil=>exact zu rfl (zk (A1 ..) (BR [] hl la lb da db (fun n ob h=>hq n ob (by rw[h];rfl))))
  |cons c r=>
   have g0:(c::r).getD 0 0=c:=rfl;rw[g0];refine zc (by simp) (zc (by simp) (zk (Ar ..) (zf (fun d=>zc (by simp) ?_) (fun d=>?_))))
   ·have hc:c=45:=by
     have:(c.toNat:Int)=45:=by simpa using d
     exact UInt8.toNat_inj.1 (by show _=45;omega)
    have ep:AZ (c::r)=r:=by unfold AZ;rw[g0,if_pos hc];rfl
    have eb:Sp.preB (c::r)=true:=by unfold Sp.preB;rw[g0];exact decide_eq_true hc
    have et:List.take (Nat.sub (c::r).length 1) (List.drop 1 (c::r))=r:=zG (zr _);unfold HD at hq;rw[ep]at la lb da db hq;rw[eb]at hq;rw[et,d];exact Cs r true (by rw[zh]at hl;omega) la lb da db (fun n ob h=>hq _ ob (by rw[h];try rfl))
   ·have hc:c≠45:=by rintro rfl;exact absurd d (by decide)
    have ep:AZ (c::r)=c::r:=by unfold AZ;rw[g0,if_neg hc]
    have eb:Sp.preB (c::r)=false:=by unfold Sp.preB;rw[g0];exact decide_eq_false hc
    unfold HD at hq;rw[ep]at la lb da db hq;rw[eb]at hq;rw[d];exact Cs (c::r) false hl la lb da db (fun n ob h=>hq _ ob (by rw[h];try rfl))
 ·have hf:DA a=false:=by simpa using hqk
  have hq:∀ob,Af MA a (.tup [.dat i64 0,.dat i64 0,.bl false]) ob:=fun ob=>zB rfl rfl (by
   show((0:Int),(0:Int),false)=(Y6 a,SN a,DA a);unfold Y6 SN;rw[if_neg hqk,if_neg hqk,hf])
  refine zt (An a) (zf (fun _=>ze (hq _)) (fun hl=>?_));have hl:a.length≤20:=by have:=of_decide_eq_false hl;omega
  have h9:9<(Ax (AZ a)).length∨9<(Sp.AO (AZ a)).length:=by
   by_cases h1:(Ax (AZ a)).length≤9
   ·by_cases h2:(Sp.AO (AZ a)).length≤9
    ·exact absurd (by unfold DA;rw[decide_eq_true hl,decide_eq_true h1,decide_eq_true h2];rfl) hqk
    ·exact .inr (by omega)
   ·exact .inl (by omega)
  cases a with
  |nil=>exact zu rfl (zk (A1 ..) (vV [] false hl h9 hq).2)
  |cons c r=>
   have g0:(c::r).getD 0 0=c:=rfl;rw[g0];refine zc (by simp) (zc (by simp) (zk (Ar ..) (zf (fun d=>zc (by simp) ?_) (fun d=>?_))))
   ·have hc:c=45:=by
     have:(c.toNat:Int)=45:=by simpa using d
     exact UInt8.toNat_inj.1 (by show _=45;omega)
    have ep:AZ (c::r)=r:=by unfold AZ;rw[g0,if_pos hc];rfl
    have et:List.take (Nat.sub (c::r).length 1) (List.drop 1 (c::r))=r:=zG (zr _);rw[ep]at h9;rw[et];exact(vV r _ (by rw[zh]at hl;omega) h9 hq).1
   ·have hc:c≠45:=by rintro rfl;exact absurd d (by decide)
    have ep:AZ (c::r)=c::r:=by unfold AZ;rw[g0,if_neg hc]
    rw[ep]at h9;exact(vV (c::r) _ hl h9 hq).1
end T95
theorem Rz:∀g sp,bK.sp g=some sp→Ae AV g sp:=Ac T95.xO (Ac T36.ok (Ac (T91.ok) (Ac T97.ok (Ac T98.ok (Ac T96.ok (fun g sp h=>by cases h))))))
theorem Ts{x y:Int}(h1: -1000000000<x)(h2:x<1000000000)(h3: -1000000000<y)(h4:y<1000000000): -1000000000000000000≤x*y∧x*y≤1000000000000000000:=by
 have h:(x*y).natAbs≤1000000000*1000000000:=by
  rw[zZ];exact Nat.mul_le_mul (by omega) (by omega)
 omega
theorem T27.ok:Ae AV 27 Tl:=by
 refine AB (X:=bK) rfl Rz (d:=9) (by kernel_rfl) (by kernel_rfl) (by kernel_rfl) (fun(i:List UInt8×List UInt8) hi=>?_) (Ad (by kernel_rfl));obtain⟨a,b⟩:=i;have hi:(BI a&&BI b)=true:=hi;rw[zd]at hi;obtain⟨ha,hb⟩:=hi;obtain⟨a1,a2,a3,a4,a5,a6,a7,a8,a9⟩:=Ep ha;obtain⟨b1,b2,b3,b4,b5,b6,b7,b8,b9⟩:=Ep hb;have ad:=(AG a).den_pos;have bd:=(AG b).den_pos;have eq:=(XW ha hb).2;have hq:∀ob,Af Tl (a,b) (.dat .str (CO (A8 a*AJ b+A8 b*AJ a) (AJ a*AJ b))) ob:=fun ob=>zB rfl rfl eq.symm
 have slow:Ends bK (T27.L1 a b) (Af Tl (a,b)):=by
  have e1:Bx a=zQ (A8 a):=rfl;have e2:Br a=zM (A8 a):=rfl;have e3:Bh a=zQ (AJ a):=rfl;have e4:Bd a=zM (AJ a):=rfl;have e5:Bx b=zQ (A8 b):=rfl;have e6:Br b=zM (A8 b):=rfl;have e7:Bh b=zQ (AJ b):=rfl;have e8:Bd b=zM (AJ b):=rfl;rw[e1,e2]at a1;rw[e3,e4]at a3;rw[e5,e6]at b1;rw[e7,e8]at b3;refine zk (T27.Ar ..) ?_;conv=>zeta
  simp only[e1,e2,e3,e4,e5,e6,e7,e8,Px,Pp,YS,eU,OM,EB];have m1:=Df a8 b9;have m2:=Df b8 a9;have m3:=Df a9 b9;rw[←zZ]at m1 m2 m3;have m4:=z7 (Int.natAbs_add_le (A8 a*AJ b) (A8 b*AJ a)) (cS (k:=4000+4000) m1 m2);have k1:=JE m1 (by decide);have k2:=JE m2 (by decide);have k3:=JE m3 (by decide);have k4:=JE m4 (by decide);have k5:AJ a*AJ b≠0:=zY (by omega) (by omega);exact zc a7 (zc b7 (zc (Aa a1 b3) (zc (Aa b1 a3) (zc (Aa k1 k2) (zc (Aa a3 b3) (zc (Aa (Aa k4 k3) (decide_eq_true k5)) (ze (hq _))))))))
 refine zt (T27.An a b) (zc ha (zc hb (zf (fun qa=>zf (fun qb=>?_) (fun _=>slow)) (fun _=>slow))));obtain⟨x1,x2,x3,x4,x5,x6⟩:=FO ha qa;obtain⟨y1,y2,y3,y4,y5,y6⟩:=FO hb qb;have p1:=Ts x3 x4 (by omega) y6;have p2:=Ts y3 y4 (by omega) x6;have p3:=Ts (by omega) x6 (by omega) y6;have p4:AJ a*AJ b≠0:=zY (by omega) (by omega);rw[x1,x2,y1,y2,wr (A8 a*AJ b) (by omega) (by omega),wr (A8 b*AJ a) (by omega) (by omega),wr (A8 a*AJ b+A8 b*AJ a) (by omega) (by omega),wr (AJ a*AJ b) (by omega) (by omega)];exact zc (Aa (Aa (Ds (by omega) (by omega)) (Ds (by omega) (by omega))) (decide_eq_true p4)) (ze (hq _))
theorem T29.ok:Ae AV 29 R6:=by
 refine AB (X:=bK) rfl Rz (d:=9) (by kernel_rfl) (by kernel_rfl) (by kernel_rfl) (fun(i:List UInt8×List UInt8) hi=>?_) (Ad (by kernel_rfl));obtain⟨a,b⟩:=i;have hi:(BI a&&BI b)=true:=hi;rw[zd]at hi;obtain⟨ha,hb⟩:=hi;obtain⟨a1,a2,a3,a4,a5,a6,a7,a8,a9⟩:=Ep ha;obtain⟨b1,b2,b3,b4,b5,b6,b7,b8,b9⟩:=Ep hb;have ad:=(AG a).den_pos;have bd:=(AG b).den_pos;have hq:∀ob,Af R6 (a,b) (.dat .str (CO (A8 a*A8 b) (AJ a*AJ b))) ob:=fun ob=>zB rfl rfl (X5).symm
 have slow:Ends bK (T29.L1 a b) (Af R6 (a,b)):=by
  have e1:Bx a=zQ (A8 a):=rfl;have e2:Br a=zM (A8 a):=rfl;have e3:Bh a=zQ (AJ a):=rfl;have e4:Bd a=zM (AJ a):=rfl;have e5:Bx b=zQ (A8 b):=rfl;have e6:Br b=zM (A8 b):=rfl;have e7:Bh b=zQ (AJ b):=rfl;have e8:Bd b=zM (AJ b):=rfl;rw[e1,e2]at a1;rw[e3,e4]at a3;rw[e5,e6]at b1;rw[e7,e8]at b3;refine zk (T29.Ar ..) ?_;conv=>zeta
  simp only[e1,e2,e3,e4,e5,e6,e7,e8,Px,Pp,OM,EB];have m1:=Df a8 b8;have m3:=Df a9 b9;rw[←zZ]at m1 m3;have k1:=JE m1 (by decide);have k3:=JE m3 (by decide);have k5:AJ a*AJ b≠0:=zY (by omega) (by omega);exact zc a7 (zc b7 (zc (Aa a1 b1) (zc (Aa a3 b3) (zc (Aa (Aa k1 k3) (decide_eq_true k5)) (ze (hq _))))))
 refine zt (T29.An a b) (zc ha (zc hb (zf (fun qa=>zf (fun qb=>?_) (fun _=>slow)) (fun _=>slow))));obtain⟨x1,x2,x3,x4,x5,x6⟩:=FO ha qa;obtain⟨y1,y2,y3,y4,y5,y6⟩:=FO hb qb;have p1:=Ts x3 x4 y3 y4;have p3:=Ts (by omega) x6 (by omega) y6;have p4:AJ a*AJ b≠0:=zY (by omega) (by omega);rw[x1,x2,y1,y2,wr _ (by omega) (by omega),wr (AJ a*AJ b) (by omega) (by omega)];exact zc (Aa (Aa (Ds (by omega) (by omega)) (Ds (by omega) (by omega))) (decide_eq_true p4)) (ze (hq _))
theorem T94.ok:Ae AV 94 nH:=by
 refine AB (X:=bK) rfl Rz (d:=9) (by kernel_rfl) (by kernel_rfl) (by kernel_rfl) (fun(a:List UInt8) hi=>?_) (Ad (by kernel_rfl));obtain⟨hs,h0⟩:=eA hi;obtain⟨a1,a2,a3,a4,a5,a6,a7,a8,a9⟩:=Ep (Iu hs).1;refine zt (T94.An a) (zc a7 (zc (Aa (Aa a3 a1) ?_) (ze (zB rfl rfl ?_))))
 ·rw[a2];exact decide_eq_true fun e=>h0 (Rat.num_eq_zero.mp (by rw[a5,e]))
 ·show Hn _ _=Pa a;unfold Hn;rw[a2,a4];exact Xu.symm
end Go.Pe
end
section
namespace Go.Pe
open Sp
open Go.Det
theorem Wx:∀g sp,sM.sp g=some sp→Ae AV g sp:=Ac T94.ok (Ac T29.ok (Ac T27.ok (Ac T99.ok (fun g sp h=>by cases h))))
theorem cJ{s:List UInt8}(h:Ed s=true):BI (J4 s)=true∧AG (J4 s)= -AG s:=by
 obtain⟨h1,h2⟩:=Iu h;obtain⟨t,_⟩:=Hi h1;have e:J4 s=A3 (-AG s):=by
  have:=eB (AG s);rwa [t]at this
 have r:AG (J4 s)= -AG s:=by rw[e,DF]
 refine⟨?_,r⟩;have hl:(J4 s).length≤4000:=by
  unfold J4;split
  ·omega
  ·split
   ·rw[yc];omega
   ·rw[zh];omega
 unfold BI;rw[r, ←e,decide_eq_true rfl,decide_eq_true hl];rfl
theorem T28.ok:Ae AV 28 Zh:=by
 refine AB (X:=sM) rfl Wx (d:=9) (by kernel_rfl) (by kernel_rfl) (by kernel_rfl) (fun(i:List UInt8×List UInt8) hi=>?_) (Ad (by kernel_rfl));obtain⟨a,b⟩:=i;have hi:(BI a&&Ed b)=true:=hi;rw[zd]at hi;obtain⟨ha,hb⟩:=hi;obtain⟨n1,n2⟩:=cJ hb;have hl:=(Iu hb).2;refine zt (T28.An a b) (zc (decide_eq_true (by omega)) (zc (Aa ha n1) (ze (zB rfl rfl ?_))));show Lh a (J4 b)=H3 a b;unfold Lh H3;rw[n2,Rat.sub_eq_add_neg]
theorem bR{s:List UInt8}(h:Zl s=true):BI (Pa s)=true:=by
 obtain⟨h1,h0⟩:=eA h;obtain⟨h1,h2⟩:=Iu h1;obtain⟨t,_⟩:=Hi h1;have hl:(A3 (AG s)).length≤3000:=by rw[t];exact h2
 unfold Pa;generalize AG s=q at*;have l1:(zl q.num.natAbs).length≤(z8 q.num).length:=by
  unfold z8;split
  ·rw[zh];omega
  ·rw[show q.num.toNat=q.num.natAbs by omega];exact zr _
 have key:(A3 q⁻¹).length≤(zl q.num.natAbs).length+(zl q.den).length+2:=by
  have hi:=Rat.inv_def q;have hz:q.num≠0:=fun e=>h0 (Rat.num_eq_zero.mp e)
  have hd:=q.den_pos;have m:=E1 (n:=(q.den:Int)) (d:=q.num) hz;rw[←hi,Int.natAbs_natCast]at m;have k1:=Ti m.1;have k2:=Ti m.2;have l2:(z8 q⁻¹.num).length≤(zl q⁻¹.num.natAbs).length+1:=by
   unfold z8;split
   ·rw[zh];omega
   ·rw[show q⁻¹.num.toNat=q⁻¹.num.natAbs by omega];omega
  unfold A3;split
  ·omega
  ·rw[zo,zh];omega
 have l3:(zl q.num.natAbs).length+(zl q.den).length≤3001:=by
  unfold A3 at hl;split at hl
  ·next c=>rw[c,Lib.decDigits_one (show 1<10 by decide),zK];omega
  ·rw[zo,zh]at hl;omega
 unfold BI;rw[DF,decide_eq_true rfl,decide_eq_true (by omega)];rfl
theorem T26.ok:Ae AV 26 lZ:=by
 refine AB (X:=sM) rfl Wx (d:=9) (by kernel_rfl) (by kernel_rfl) (by kernel_rfl) (fun(i:List UInt8×List UInt8) hi=>?_) (Ad (by kernel_rfl));obtain⟨a,b⟩:=i;have hi:(BI a&&Zl b)=true:=hi;rw[zd]at hi;obtain⟨ha,hb⟩:=hi;refine zt (T26.An a b) (zc hb (zc (Aa ha (bR hb)) (ze (zB rfl rfl ?_))));show Mt a (Pa b)=Te a b;unfold Mt Te Pa;rw[DF,Rat.div_def]
theorem VB:∀g sp,tI.sp g=some sp→Ae AV g sp:=Ac T28.ok (Ac T41.ok (Ac T89.ok (Ac T100.ok (Ac T101.ok (Ac T102.ok (fun g sp h=>by cases h))))))
theorem T30.ok:Ae AV 30 aI:=by
 refine AB (X:=tI) rfl VB (d:=9) (by kernel_rfl) (by kernel_rfl) (by kernel_rfl) (fun(i:List UInt8×List UInt8) hi=>?_) (Ad (by kernel_rfl));obtain⟨a,b⟩:=i;have hi:(BI a&&Ed b)=true:=hi;have hi2:=hi;rw[zd]at hi2;obtain⟨ha,hb⟩:=hi2;have z:=(Qr ha).sub (Qr (Iu hb).1);refine zt (T30.An a b) (zc hi (zc (decide_eq_true (Tx z (by decide))) (ze (zB rfl rfl ?_))));show Gk (H3 a b)=Jy a b;unfold H3;rw[Pu,ZX];rfl
theorem T93.ok:Ae AV 93 QM:=by
 refine AB (X:=tI) rfl VB (d:=9) (by kernel_rfl) (by kernel_rfl) (by kernel_rfl) (fun(a:List UInt8) ha=>?_) (Ad (by kernel_rfl));have hl:a.length≤1000000:=of_decide_eq_true ha;have hc:=(T77.CP a).1;have hq:∀v ob,v=EM a→Af QM a (.dat i64 v) ob:=fun v ob h=>zB rfl rfl h
 unfold EM at hq;refine zt (T93.An a) (zc ha (zc (decide_eq_true (by omega)) (zf (fun c=>ze (hq _ _ ?_)) (fun c=>zc ha (zf (fun d=>ze (hq _ _ ?_)) (fun d=>ze (hq _ _ ?_)))))))
 ·have c:=of_decide_eq_true c;rw[if_pos (.inl (by omega))]
 ·have d:=of_decide_eq_true d;rw[if_pos (.inr (by omega))]
 ·have c:=of_decide_eq_false c;have d:=of_decide_eq_false d;rw[if_neg (by omega)]
namespace T23
theorem loop{Q:PV→Ob→Prop}(l:List Int)(hl:l.length≤1000000):∀(r:List Int) (i:Nat),l.drop i=r→i≤l.length→(∀ob,Q (.dat i64 (yj r)) ob)→Ends pG (L1 l (i:Int)) Q
 |[],i,h,hi,hq=>by
  have:=drop_nil h hi;exact zk (Ar ..) (zu (decide_eq_false (by omega)) (ze (hq _)))
 |x::r,i,h,hi,hq=>by
  obtain⟨g1,g2,g3⟩:=drop_cons (d:=(0:Int)) h;have e1:zg .i64 ((i:Int)+1)=((i+1:Nat):Int):=by rw[wr _ (by omega) (by omega)];omega
  have ef:yj (x::r)=if x≠0 then x else yj r:=rfl
  rw[ef]at hq;have hc:(decide ((0:Int)≤(i:Int))&&decide ((i:Int)<(l.length:Int)))=true:=Aa (decide_eq_true (by omega)) (decide_eq_true (by omega));refine zk (Ar ..) ?_;conv=>zeta
  rw[zi,g2,e1];refine zc (decide_eq_true (by omega)) (zc hc (zf (fun c=>?_) (fun c=>loop l hl r (i+1) g3 g1 ?_)))
  ·have c:x≠0:=by simpa using c
   rw[if_pos c]at hq;exact zc hc (ze (hq _))
  ·have c:x=0:=by simpa using c
   rw[if_neg (by rw[c];decide)]at hq;exact hq
theorem ok:Ae AV 23 Jz:=by
 refine AB (X:=pG) rfl Xa (d:=9) (by kernel_rfl) (by kernel_rfl) (by kernel_rfl) (fun(l:List Int) hl=>?_) (Ad (by kernel_rfl));exact zt (An l) (loop l (of_decide_eq_true hl) l 0 rfl (zR _) (fun ob=>zB rfl rfl rfl))
end T23
theorem fJ:∀g sp,tY.sp g=some sp→Ae AV g sp:=Ac T93.ok (fun g sp h=>by cases h)
theorem T25.ok:Ae AV 25 Pz:=by
 refine AB (X:=tY) rfl fJ (d:=9) (by kernel_rfl) (by kernel_rfl) (by kernel_rfl) (fun(i:List UInt8×Int×List UInt8×Int) hi=>?_) (Ad (by kernel_rfl));obtain⟨a,e,w,bad⟩:=i;have hq:∀v ob,v=Sp.HV a e w bad→Af Pz (a,e,w,bad) (.dat .bool v) ob:=fun v ob h=>zB rfl rfl h
 have hqb:∀v ob,v=Sp.HV a e w bad→Af Pz (a,e,w,bad) (.bl v) ob:=fun v ob h=>zB rfl rfl h
 have key:∀x:Int,x=(if bad=0 then Sp.EM w else bad)→Sp.HV a e w bad=if x≠0 then decide (a=[])&&decide (e=x)else decide (e=0)&&decide (a=w):=by
  rintro x rfl;rfl
 have yes:∀(x:Int) ob,x=(if bad=0 then Sp.EM w else bad)→x≠0→Ends tY (.ite (a==[]) (.leaf (PV.dat Sh.bool (e==x)) ob) (.leaf (PV.bl false) ob)) (Af Pz (a,e,w,bad)):=fun x ob h h0=>by
  have k:=key x h;rw[if_pos h0]at k;refine zf (fun c=>ze (hq _ _ ?_)) (fun c=>ze (hqb _ _ ?_))
  ·have c:a=[]:=by simpa using c
   rw[k,decide_eq_true c,zC];rfl
  ·have c:a≠[]:=by simpa using c
   rw[k,decide_eq_false c];rfl
 have no:∀(x:Int) ob,x=(if bad=0 then Sp.EM w else bad)→x=0→Ends tY (.ite (e==0) (.leaf (PV.dat Sh.bool (a==w)) ob) (.leaf (PV.bl false) ob)) (Af Pz (a,e,w,bad)):=fun x ob h h0=>by
  have k:=key x h;rw[if_neg (by rw[h0];decide)]at k;refine zf (fun c=>ze (hq _ _ ?_)) (fun c=>ze (hqb _ _ ?_))
  ·have c:e=0:=by simpa using c
   rw[k,decide_eq_true c,zC];by_cases h:a=w
   ·rw[decide_eq_true h];simpa using h
   ·rw[decide_eq_false h];simpa using h
  ·have c:e≠0:=by simpa using c
   rw[k,decide_eq_false c];rfl
 refine zt (T25.An a e w bad) (zf (fun c=>zc hi (zf (fun d=>?_) (fun d=>?_))) (fun c=>zf (fun d=>?_) (fun d=>?_)))
 ·have c:bad=0:=by simpa using c
  exact yes _ _ (by rw[if_pos c]) (by simpa using d)
 ·have c:bad=0:=by simpa using c
  exact no _ _ (by rw[if_pos c]) (by simpa using d)
 ·have c:bad≠0:=by simpa using c
  exact yes _ _ (by rw[if_neg c]) c
 ·have c:bad≠0:=by simpa using c
  exact absurd (by simpa using d) c
end Go.Pe
end
section
namespace Go.Sp
theorem Nu.Lh{i j:Nat}{a b:List UInt8}{p q:Rat}(ha:Nu i a p)(hb:Nu j b q):Nu (i+j+1) (Sp.Lh a b) (p+q):=⟨by unfold Sp.Lh;rw[ha.rat,hb.rat],ha.z.add hb.z⟩
theorem Nu.H3{i j:Nat}{a b:List UInt8}{p q:Rat}(ha:Nu i a p)(hb:Nu j b q):Nu (i+j+1) (Sp.H3 a b) (p-q):=⟨by unfold Sp.H3;rw[ha.rat,hb.rat],ha.z.sub hb.z⟩
theorem Nu.Mt{i j:Nat}{a b:List UInt8}{p q:Rat}(ha:Nu i a p)(hb:Nu j b q):Nu (i+j) (Sp.Mt a b) (p*q):=⟨by unfold Sp.Mt;rw[ha.rat,hb.rat],ha.z.mul hb.z⟩
theorem Nu.Te{i j:Nat}{a b:List UInt8}{p q:Rat}(ha:Nu i a p)(hb:Nu j b q)(h0:q≠0):Nu (i+j) (Sp.Te a b) (p/q):=⟨by unfold Sp.Te;rw[ha.rat,hb.rat],ha.z.div hb.z h0⟩
end Go.Sp
end
section
namespace Go.Pe
open Go.Det
end Go.Pe
end
section
namespace Go.Sp
theorem E0{k:Nat}{t:List Dj}(h:D1 k t=true):∀p∈t,p.1.length≤k∧p.2.length≤k:=by
 unfold D1 at h;rw[zD]at h;intro p hp;have:=h p hp;rw[zd,decide_eq_true_eq,decide_eq_true_eq]at this;exact this
theorem Gv{j k:Nat}{t:List Dj}(h:D1 j t=true)(hk:j≤k):D1 k t=true:=by
 have h:=E0 h;unfold D1;rw[zD];intro p hp;have:=h p hp;rw[decide_eq_true (by omega),decide_eq_true (by omega)];rfl
theorem SF(a b:List UInt8):Jy a b≤0↔0≤Jy b a:=by
 unfold Jy;rw[Y5 (AG a) (AG b)];omega
theorem G8(a b:List UInt8):Jy a b≤0↔¬AG b<AG a:=by
 unfold Jy;by_cases h:AG a<AG b
 ·rw[if_pos h];exact⟨fun _=>Rat.not_lt.2 (Rat.le_of_lt h),fun _=>by decide⟩
 ·rw[if_neg h];by_cases k:AG b<AG a
  ·rw[if_pos k];exact⟨fun x=>absurd x (by decide),fun x=>absurd k x⟩
  ·rw[if_neg k];exact⟨fun _=>k,fun _=>by decide⟩
def Ge(t:List Dj)(i:Nat):Option Dj:=if i=0 then none else some (t.getD (i-1) ([],[]))
theorem E2(p:Dj)(l:List Dj):C6 none (p::l)=if Mp p.1 p.2≠0 then Mp p.1 p.2 else C6 (some p) l:=by
 rw[C6]
theorem Gg(q p:Dj)(l:List Dj):C6 (some q) (p::l)=if Mp p.1 p.2≠0 then Mp p.1 p.2 else if Jy p.1 q.1≤0 then 11 else C6 (some p) l:=by
 rw[C6]
theorem S4(o:Option Dj):C6 o []=0:=by rw[C6]
theorem JI{t:List Dj}{i:Nat}{p:Dj}(h:t.getD i ([],[])=p):Ge t (i+1)=some p:=by
 unfold Ge;rw[if_neg (by omega),zH,h]
end Go.Sp
namespace Go.Pe
open Sp
open Go.Det
theorem ZK{s:Sh}{sz:Nat}(hs:s.sz=sz){id n:Nat}{tail:Ob}{fz:Bool}{t:TypeId}{o:List s.T}{e:Int}(hn:n=o.length):P8 [.list s,i64] (.tup [.sl id sz 0 n none,.dat i64 e]) ((id,.arr fz t s o)::tail)=some (true,(o,e)):=by
 subst hn hs;have h1:AP ((id,Obj.arr fz t s o)::tail) id=some (.arr fz t s o):=by unfold AP;rw[yh];rfl
 have h0:HA ⟨0,.leaf,(id,.arr fz t s o)::tail,0⟩ (.list s) (.sl id s.sz 0 o.length none)=some (true,o):=by
  unfold HA;have h2:Ea ⟨0,.leaf,(id,.arr fz t s o)::tail,0⟩ (PV.cells (.sl id s.sz 0 o.length none))=some (true,[.dat (.list s) o]):=by
   show(match Ct ⟨0,.leaf,(id,.arr fz t s o)::tail,0⟩ (.sl id s.sz 0 o.length none),some (true,[])with|some (c,x),some (d,xs)=>some (c&&d,x::xs)|_,_=>none)=_;have:Ct ⟨0,.leaf,(id,.arr fz t s o)::tail,0⟩ (.sl id s.sz 0 o.length none)=some (true,.dat (.list s) o):=by
    unfold Ct AK.obj;simp only[h1,yh,cond_true];simp
   rw[this];rfl
  simp only[J8,Sh.O9];show(match Ea ⟨0,.leaf,(id,.arr fz t s o)::tail,0⟩ (PV.cells (.sl id s.sz 0 o.length none))with|some (c,cs)=>_|none=>none)=_;rw[h2];have:CQ (.list s) [PV.dat (.list s) o]=some o:=by
   unfold CQ Co kC DG;simp
  simp only[Nr,this,zC]
 unfold P8 IU;simp only;unfold DU;rw[h0];rfl
theorem iP:∀g sp,oX.sp g=some sp→Ae AV g sp:=Ac T83.ok (Ac T85.ok (Ac T84.ok (Ac T87.ok (Ac T88.ok (fun g sp h=>by cases h)))))
theorem Wm{a b:List UInt8}(ha:Ay a=0)(hb:Ay b=0):J2 (XY a) (XY b)=Jy a b:=by
 rw[D8.cmp (J7 (GU ha).1) (J7 (GU hb).1)];rfl
theorem Lg{a:List UInt8}(ha:Ay a=0):Sp.Dy (XY a)=true∧Hs a=true:=by
 obtain⟨n,z⟩:=GU ha;exact⟨(J7 n).Dy (G3 z (by decide)),(Ep n).2.2.2.2.2.2.1⟩
namespace T114
variable {Q:PV→Ob→Prop}
theorem tF{p:Dj}{k:Nat}(h:p.1.length≤k∧p.2.length≤k)(hk:k≤1000000):(decide ((2:Nat)≤2)&&true&&(decide ((2:Nat)≤1000)&&List.all [p.1,p.2] fun s=>decide (List.length s≤1000000)))=true:=by
 show(decide (p.1.length≤1000000)&&(decide (p.2.length≤1000000)&&true))=true;rw[decide_eq_true (by omega),decide_eq_true (by omega)];rfl
theorem Yj(t:List Dj)(i:Nat)(p:Dj)(h:i<t.length)(hp:t.getD i ([],[])=p):(t.take i).map BL++[(fG p.1,fG p.2)]=(t.take (i+1)).map BL:=by
 rw[List.take_add_one,List.map_append];congr 1;rw[zn]at hp;rw[zj h]at hp ⊢;have hp:t[i]=p:=hp;rw[hp];rfl
set_option maxRecDepth 10000 in
theorem AS(t:List Dj)(h64:t.length≤64)(hl:D1 1000000 t=true)(hbad:∀e ob,e≠0→C6 none t=e→Q (.tup [.nil,.dat i64 e]) ob)
  (hok:C6 none t=0→Q (.tup [.sl 0 8 0 ((t.take t.length).map BL).length none,.dat i64 0]) [(0,.arr false 142 WK ((t.take t.length).map BL))]):
  ∀(r:List Dj) (i n:Nat) (q:Dj),t.drop i=r→1≤i→i≤t.length→n=((t.take i).map BL).length→t.getD (i-1) ([],[])=q→Ay q.1=0→C6 none t=C6 (some q) r→Ends oX (L2 n t (t.length:Int) (i:Int) ((t.take i).map BL)) Q
 |[],i,n,q,h,h1,hi,hn,hq,hc,he=>by
  have:=drop_nil h hi;have e:i=t.length:=by omega
  subst e;rw[S4]at he;rw[hn];exact zk (A1 ..) (zu (decide_eq_false (by omega)) (ze (hok he)))
 |p::r,i,n,q,h,h1,hi,hn,hq,hc,he=>by
  obtain⟨g1,g2,g3⟩:=drop_cons (d:=(([],[]):Dj)) h;have hm:p∈t:=zN (by rw[h];exact zw ..);have hp:=E0 hl p hm;have hni:n=i:=by rw[hn,zz,zU];omega
  have e1:zg .i64 ((i:Int)+1)=((i+1:Nat):Int):=by rw[wr _ (by omega) (by omega)];omega
  have e2:zg .i64 ((i:Int)-1)=((i-1:Nat):Int):=by rw[wr _ (by omega) (by omega)];omega
  have eo:∀d,((t.take i).map BL).getD (i-1) d=BL q:=by
   intro d;rw[zn,ya,zP (by omega)];rw[zn,zj (by omega)]at hq;rw[zj (by omega)];have hq:t[i-1]=q:=hq;rw[hq];rfl
  have hol:((t.take i).map BL).length=i:=by rw[zz,zU];omega
  rw[Gg]at he;refine zk (A1 ..) ?_;conv=>zeta
  rw[e1,e2,zi,zi,g2,eo];refine zc (decide_eq_true (by omega)) (zc (Aa (decide_eq_true (by omega)) (decide_eq_true (by omega))) (zc (tF hp (zr _)) (zf (fun c=>ze ?_) (fun c=>?_))))
  ·have c:Ef [p.1,p.2]≠0:=by simpa using c
   have c2:Mp p.1 p.2≠0:=c;rw[if_pos c2]at he;exact hbad _ _ c2 he
  ·have c:Ef [p.1,p.2]=0:=by simpa using c
   have c2:Mp p.1 p.2=0:=c;rw[if_neg (by rw[c2];decide)]at he;obtain⟨k1,k2⟩:=IC c2;have f1:=Lg k1;have f2:=Lg k2;have fq:=Lg hc;have hcmp:J2 (fG p.1) (BL q).1=Jy p.1 q.1:=Wm k1 hc;refine zc f1.2 (zc f2.2 (zc (decide_eq_true (by omega)) (zc (Aa (decide_eq_true (by omega)) (decide_eq_true (by omega))) (zc (decide_eq_true (by omega)) (zc (Aa f1.1 fq.1) (zf (fun d=>ze ?_) (fun d=>?_)))))))
   ·have d:=of_decide_eq_true d;have d:J2 (fG p.1) (BL q).1≤0:=d;rw[hcmp]at d;rw[if_pos d]at he;exact hbad 11 _ (by decide) he
   ·have d:=of_decide_eq_false d;have d:¬J2 (fG p.1) (BL q).1≤0:=d;rw[hcmp]at d;rw[if_neg d]at he;have go:=AS t h64 hl hbad hok r (i+1) (n+1) p g3 (by omega) g1 (by rw[zz,zU];omega) (by rw[zH];exact g2) k1 he;rw[←Yj t i p g1 g2]at go;refine zc (Aa (Aa (Aa rfl rfl) (decide_eq_true (by omega))) (decide_eq_true (by omega))) go
set_option maxRecDepth 10000 in
theorem ok:Ae AV 114 Se:=by
 refine AB (X:=oX) rfl iP (d:=9) (by kernel_rfl) (by kernel_rfl) (by kernel_rfl) (fun(t:List (List UInt8×List UInt8)) hi=>?_) (Ad (by kernel_rfl));have hi:(decide (t.length≤1000)&&D1 1000000 t)=true:=hi;rw[zd,decide_eq_true_eq]at hi;obtain⟨hl,hp⟩:=hi;have hbad:∀e ob,e≠0→BH t=e→Af Se t (.tup [.nil,.dat i64 e]) ob:=fun e ob h k=>zB (y:=([],e)) rfl rfl (by
  show([],e)=(Jh t,BH t);unfold Jh;rw[if_pos (by rw[k];exact h),k])
 have ef:yj [KX ((t.length:Int)==0) 12,KX (decide ((t.length:Int)>64)) 5]=if t=[]then 12 else if 64<t.length then 5 else 0:=by
  rw[Lf];by_cases h:t=[]
  ·rw[if_pos h,h];rfl
  ·have h1:((t.length:Int)==0)=false:=by
    have:t.length≠0:=fun k=>h (zy.1 k)
    simp;omega
   rw[if_neg h,h1,if_neg (by decide)];by_cases k:64<t.length
   ·rw[if_pos k,decide_eq_true (show(t.length:Int)>64 by omega)];rfl
   ·rw[if_neg k,decide_eq_false (show ¬(t.length:Int)>64 by omega)];rfl
 refine zt (An t) ?_;conv=>zeta
 rw[ef];refine zc rfl (zc rfl (zc rfl ?_));by_cases h:t=[]
 ·rw[if_pos h];exact zc rfl (ze (hbad 12 _ (by decide) (by unfold BH;rw[if_pos h])))
 ·rw[if_neg h];by_cases k:64<t.length
  ·rw[if_pos k];exact zc rfl (ze (hbad 5 _ (by decide) (by unfold BH;rw[if_neg h,if_pos k])))
  ·rw[if_neg k];have ec:BH t=C6 none t:=by unfold BH;rw[if_neg h,if_neg k]
   refine zu rfl ?_;obtain⟨p,r,rfl⟩:∃p r,t=p::r:=by
    cases t with
    |nil=>exact absurd rfl h
    |cons p r=>exact⟨p,r,rfl⟩
   have g2:(p::r).getD 0 ([],[])=p:=rfl;have hpp:=E0 hp p (zw ..);refine zk (Ar ..) ?_;conv=>zeta
   rw[show Int.toNat 0=0 from rfl,g2];refine zc (decide_eq_true (by rw[zh];omega)) (zc (Aa rfl (decide_eq_true (by rw[zh];omega))) (zc (tF hpp (zr _)) (zf (fun c=>ze ?_) (fun c=>?_))))
   ·have c:Ef [p.1,p.2]≠0:=by simpa using c
    have c2:Mp p.1 p.2≠0:=c;exact hbad _ _ c2 (by rw[ec,E2,if_pos c2];rfl)
   ·have c:Ef [p.1,p.2]=0:=by simpa using c
    have c2:Mp p.1 p.2=0:=c;obtain⟨k1,k2⟩:=IC c2;have f1:=Lg k1;have f2:=Lg k2;have e1:zg .i64 ((0:Int)+1)=((1:Nat):Int):=rfl;rw[e1];have go:=AS (Q:=Af Se (p::r)) (p::r) (by omega) hp (fun e ob h1 h2=>hbad e ob h1 (by rw[ec];exact h2)) (fun h0=>zB (ZK rfl rfl) rfl (by
     show(((p::r).take (p::r).length).map BL,(0:Int))=(Jh (p::r),BH (p::r));unfold Jh;rw[ec,h0,if_neg (by decide),List.take_length])) r 1 1 p rfl (by decide) (by rw[zh];omega) (by rw[zz,zU,zh];omega) rfl k1 (by rw[E2,if_neg (by rw[c2];decide)])
    exact zc f1.2 (zc f2.2 (zu rfl (zc rfl go)))
end T114
theorem lW:∀g sp,wN.sp g=some sp→Ae AV g sp:=Ac T114.ok (fun g sp h=>by cases h)
theorem T49.ok:Ae AV 49 JW:=by
 refine AB (X:=wN) rfl lW (d:=9) (by kernel_rfl) (by kernel_rfl) (by kernel_rfl) (fun(t:List (List UInt8×List UInt8)) hi=>?_) (Ad (by kernel_rfl));exact zt (T49.An t) (zc hi (ze (zB rfl rfl rfl)))
theorem Wz:∀g sp,fF.sp g=some sp→Ae AV g sp:=Ac T24.ok (Ac T30.ok (Ac T46.ok (fun g sp h=>by cases h)))
namespace T48
variable {Q:PV→Ob→Prop}
set_option maxRecDepth 10000 in
theorem Aj(t:List Dj)(h64:t.length≤64)(hl:D1 1000000 t=true)(hq:∀ob,Q (.dat i64 (C6 none t)) ob):
  ∀(r:List Dj) (i:Nat),t.drop i=r→i≤t.length→(0<i→Ay (t.getD (i-1) ([],[])).1=0)→C6 none t=C6 (Ge t i) r→Ends fF (L1 t (i:Int)) Q
 |[],i,h,hi,hc,he=>by
  have:=drop_nil h hi;rw[S4]at he;rw[he]at hq;exact zk (Ar ..) (zu (decide_eq_false (by omega)) (ze (hq _)))
 |p::r,i,h,hi,hc,he=>by
  obtain⟨g1,g2,g3⟩:=drop_cons (d:=(([],[]):Dj)) h;have hm:p∈t:=zN (by rw[h];exact zw ..);obtain⟨l1,l2⟩:=E0 hl p hm;have e1:zg .i64 ((i:Int)+1)=((i+1:Nat):Int):=by rw[wr _ (by omega) (by omega)];omega
  have hx:(decide ((0:Int)≤(i:Int))&&decide ((i:Int)<(t.length:Int)))=true:=Aa (decide_eq_true (by omega)) (decide_eq_true (by omega));have ee:=VC p.1 p.2;refine zk (Ar ..) ?_;conv=>zeta
  rw[e1,zi,g2];refine zc (decide_eq_true (by omega)) (zc hx (zc (decide_eq_true l1) (zf (fun c=>zc hx (zc (decide_eq_true l2) (zf (fun d=>?_) (fun d=>?_)))) (fun c=>?_))))
  ·have c:Ay p.1=0:=by simpa using c
   have d:Ay p.2=0:=by simpa using d
   rw[if_neg (by rw[c];decide),d]at ee;have db:(Ay p.2 !=0)=false:=by rw[d];rfl
   have n1:=S6 c;have nx:∀i',i'=i+1→C6 none t=C6 (some p) r→Ends fF (L1 t ((i+1:Nat):Int)) Q:=fun i' _ h2=>
    Aj t h64 hl hq r (i+1) g3 g1 (fun _=>by rw[zH,g2];exact c) (by rw[JI g2];exact h2)
   by_cases h0:i=0
   ·subst h0;refine zu rfl (zu db (nx _ rfl ?_));rw[he];show C6 none (p::r)=_;rw[E2,if_neg (by rw[ee];decide)]
   ·have e2:zg .i64 ((i:Int)-1)=((i-1:Nat):Int):=by rw[wr _ (by omega) (by omega)];omega
    have hc:=hc (by omega);have ep:Ge t i=some (t.getD (i-1) ([],[])):=by unfold Ge;rw[if_neg h0]
    rw[ep,Gg,if_neg (by rw[ee];decide)]at he;rw[e2,zi];generalize t.getD (i-1) ([],[])=q at*;have n0:=S6 hc;refine zc (decide_eq_true (by omega)) (zc (Aa (decide_eq_true (by omega)) (decide_eq_true (by omega))) (zc hx (zc (Aa (n0.num (by decide)) (n1.Ed (by decide))) (zf (fun k=>zc rfl (ze ?_)) (fun k=>zu db (nx _ rfl ?_))))))
    ·have k:=of_decide_eq_true k;rw[if_pos ((SF _ _).2 k)]at he;rw[he]at hq;exact hq _
    ·have k:=of_decide_eq_false k;rw[if_neg (fun x=>k ((SF _ _).1 x))]at he;exact he
  ·have c:Ay p.1=0:=by simpa using c
   have d2:Ay p.2≠0:=by simpa using d
   rw[if_neg (by rw[c];decide)]at ee;refine zc (by simpa using d2) (ze ?_);have:C6 none t=Ay p.2:=by
    rw[he];cases Ge t i with
    |none=>rw[E2,if_pos (by rw[ee];exact d2),ee]
    |some q=>rw[Gg,if_pos (by rw[ee];exact d2),ee]
   rw[←this];exact hq _
  ·have c2:Ay p.1≠0:=by simpa using c
   rw[if_pos c2]at ee;have:C6 none t=Ay p.1:=by
    rw[he];cases Ge t i with
    |none=>rw[E2,if_pos (by rw[ee];exact c2),ee]
    |some q=>rw[Gg,if_pos (by rw[ee];exact c2),ee]
   refine zu (by simpa using c2) (zc (by simpa using c2) (ze ?_));rw[←this];exact hq _
theorem ok:Ae AV 48 JW:=by
 refine AB (X:=fF) rfl Wz (d:=9) (by kernel_rfl) (by kernel_rfl) (by kernel_rfl) (fun(t:List (List UInt8×List UInt8)) hi=>?_) (Ad (by kernel_rfl));have hi:(decide (t.length≤1000)&&D1 1000000 t)=true:=hi;rw[zd,decide_eq_true_eq]at hi;have hq:∀e ob,BH t=e→Af JW t (.dat i64 e) ob:=fun e ob h=>zB rfl rfl h.symm
 unfold BH at hq;refine zt (An t) (zf (fun c=>ze (hq _ _ ?_)) (fun c=>zf (fun d=>ze (hq _ _ ?_)) (fun d=>?_)))
 ·have:t=[]:=zy.1 (by have:(t.length:Int)=0:=(by simpa using c);omega);rw[if_pos this]
 ·have c:(t.length:Int)≠0:=by simpa using c
  have d:=of_decide_eq_true d;rw[if_neg (by rintro rfl;exact c rfl),if_pos (by omega)]
 ·have c:(t.length:Int)≠0:=by simpa using c
  have d:=of_decide_eq_false d;rw[if_neg (by rintro rfl;exact c rfl),if_neg (by omega)]at hq;exact Aj t (by omega) hi.2 (fun ob=>hq _ ob rfl) t 0 rfl (zR _) (fun h=>absurd h (by decide)) rfl
end T48
namespace T45
theorem Aj{Q:PV→Ob→Prop}(t:List Dj)(d:Int)(hn:t.length≤1000000)(hd:0≤d∧d≤1000):∀(r:List Dj) (i:Nat),t.drop i=r→i≤t.length→(∀ob,Q (.bl (r.all fun p=>A6 p.1 d&&A6 p.2 d)) ob)→Ends fF (L1 t d (i:Int)) Q
 |[],i,h,hi,hq=>by
  have:=drop_nil h hi;exact zk (Ar ..) (zu (decide_eq_false (by omega)) (ze (hq _)))
 |p::r,i,h,hi,hq=>by
  obtain⟨g1,g2,g3⟩:=drop_cons (d:=(([],[]):Dj)) h;have e1:zg .i64 ((i:Int)+1)=((i+1:Nat):Int):=by rw[wr _ (by omega) (by omega)];omega
  have hx:(decide ((0:Int)≤(i:Int))&&decide ((i:Int)<(t.length:Int)))=true:=Aa (decide_eq_true (by omega)) (decide_eq_true (by omega));have hdd:(decide ((0:Int)≤d)&&decide (d≤1000))=true:=Aa (decide_eq_true hd.1) (decide_eq_true hd.2);rw[ym]at hq;refine zk (Ar ..) ?_;conv=>zeta
  rw[e1,zi,g2];refine zc (decide_eq_true (by omega)) (zc hx (zc hdd (zf (fun c=>ze ?_) (fun c=>zc hx (zc hdd (zf (fun e=>ze ?_) (fun e=>Aj t d hn hd r (i+1) g3 g1 ?_)))))))
  ·have c:A6 p.1 d=false:=by simpa using c
   rw[c]at hq;exact hq _
  ·have c:A6 p.1 d=true:=by simpa using c
   have e:A6 p.2 d=false:=by simpa using e
   rw[c,e]at hq;exact hq _
  ·have c:A6 p.1 d=true:=by simpa using c
   have e:A6 p.2 d=true:=by simpa using e
   rw[c,e,zC,zC]at hq;exact hq
theorem ok:Ae AV 45 Rm:=by
 refine AB (X:=fF) rfl Wz (d:=9) (by kernel_rfl) (by kernel_rfl) (by kernel_rfl) (fun(i:List (List UInt8×List UInt8)×Int×Int) hi=>?_) (Ad (by kernel_rfl));obtain⟨t,n,d⟩:=i;have hi:(decide (n≤1000000)&&decide (0≤d)&&decide (d≤1000))=true:=hi;rw[zd,zd,decide_eq_true_eq,decide_eq_true_eq,decide_eq_true_eq]at hi;have hq:∀v ob,v=JB t n d→Af Rm (t,n,d) (.bl v) ob:=fun v ob h=>zB rfl rfl h
 unfold JB at hq;refine zt (An t n d) (zf (fun c=>ze (hq _ _ ?_)) (fun c=>?_))
 ·have c:=of_decide_eq_true c;rw[decide_eq_false (by omega)];rfl
 ·have c:=of_decide_eq_false c;rw[decide_eq_true (by omega),zC]at hq;exact Aj t d (by omega) ⟨hi.1.2,hi.2⟩ t 0 rfl (zR _) (fun ob=>hq _ ob rfl)
end T45
end Go.Pe
end
section
namespace Go.Sp
theorem rB{s:List UInt8}(h:BI s=true){k:Nat}(hl:s.length≤k)(hk:1≤k):Nu k s (AG s):=by
 obtain⟨h1,_⟩:=Hi h;have e:(A3 (AG s)).length≤k:=by rw[h1];exact hl
 refine⟨h1.symm,?_⟩;generalize AG s=q at*;have h3:(zl q.num.natAbs).length≤(z8 q.num).length:=by
  unfold z8;split
  ·rw[zh];omega
  ·rw[show q.num.toNat=q.num.natAbs by omega];exact zr _
 unfold A3 at e;split at e
 ·next c=>exact⟨CZ (k:=k) _ (by omega),by rw[c];exact Jx k (by omega)⟩
 ·rw[zo,zh]at e;exact⟨CZ (k:=k) _ (by omega),CZ (k:=k) _ (by omega)⟩
theorem C2{s:List UInt8}(h:Ay s=0){k:Nat}(hl:s.length≤k)(hk:1≤k):Nu k s (AG s):=rB (GU h).1 hl hk
def pt(p:Dj):Rat×Rat:=(AG p.1,AG p.2)
theorem R5(t:List Dj)(x:List UInt8):EI t x=R0 none (t.map pt) (AG x):=rfl
theorem O0(p:Rat×Rat)(l:List (Rat×Rat))(x:Rat):R0 none (p::l) x=if p.1<x then R0 (some p) l x else p.2:=by rw[R0]
theorem Oz(a b:Rat×Rat)(l:List (Rat×Rat))(x:Rat):R0 (some a) (b::l) x=if b.1<x then R0 (some b) l x else a.2+(b.2-a.2)*(x-a.1)/(b.1-a.1):=by rw[R0]
theorem Rj(p:Rat×Rat)(x:Rat):R0 (some p) [] x=p.2:=by rw[R0]
theorem Zu(a b c d:Rat):a+b/c*d=a+b*d/c:=by
 rw[Rat.div_def,Rat.div_def,Rat.mul_assoc,Rat.mul_comm c⁻¹ d, ←Rat.mul_assoc]
theorem K4{t:List Dj}{x:List UInt8}(h:K1 t x=0):BH t=0∧Ay x=0:=by
 unfold K1 at h;split at h
 ·next k=>exact absurd h k
 ·next k=>exact⟨by omega,h⟩
theorem HB{t:List Dj}(h:BH t=0):t≠[]∧t.length≤64∧C6 none t=0:=by
 unfold BH at h;split at h
 ·exact absurd h (by decide)
 ·next k=>
  split at h
  ·exact absurd h (by decide)
  ·exact⟨k,by omega,h⟩
theorem Oi{q p:Dj}{l:List Dj}(h:C6 (some q) (p::l)=0):Ay p.1=0∧Ay p.2=0∧AG q.1<AG p.1∧C6 (some p) l=0:=by
 rw[Gg]at h;split at h
 ·next k=>exact absurd h k
 ·next k=>
  split at h
  ·exact absurd h (by decide)
  ·next d=>
   obtain⟨k1,k2⟩:=IC (a:=p.1) (b:=p.2) (by omega);rw[G8]at d;exact⟨k1,k2,zL.1 d,h⟩
theorem Nt{p:Dj}{l:List Dj}(h:C6 none (p::l)=0):Ay p.1=0∧Ay p.2=0∧C6 (some p) l=0:=by
 rw[E2]at h;split at h
 ·next k=>exact absurd h k
 ·next k=>
  obtain⟨k1,k2⟩:=IC (a:=p.1) (b:=p.2) (by omega);exact⟨k1,k2,h⟩
theorem Ve{p q:Rat}(h:q<p):p-q≠0:=fun e=>by
 have:=(Rat.lt_iff_sub_pos q p).1 h;rw[e]at this;exact Rat.lt_irrefl this
end Go.Sp
namespace Go.Pe
open Sp
open Go.Det
theorem kD:∀g sp,tL.sp g=some sp→Ae AV g sp:=Ac T30.ok (Ac T26.ok (Ac T28.ok (Ac T29.ok (Ac T27.ok (fun g sp h=>by cases h)))))
namespace T50
variable {Q:PV→Ob→Prop}
set_option maxRecDepth 10000 in
theorem Aj(t:List Dj)(x:List UInt8)(h64:t.length≤64)(hl:D1 100 t=true)(nx:Sp.Nu 100 x (AG x))(hq:∀ob,Q (.dat .str (A3 (EI t x))) ob):
  ∀(r:List Dj) (i:Nat) (q:Dj),t.drop i=r→1≤i→i≤t.length→t.getD (i-1) ([],[])=q→Sp.Nu 100 q.1 (AG q.1)→Sp.Nu 100 q.2 (AG q.2)→C6 (some q) r=0→EI t x=R0 (some (Sp.pt q)) (r.map Sp.pt) (AG x)→Ends tL (L1 t x (i:Int)) Q
 |[],i,q,h,h1,hi,hqi,n1,n2,he,hv=>by
  have:=drop_nil h hi;have e:i=t.length:=by omega
  have e2:zg .i64 ((t.length:Int)-1)=((i-1:Nat):Int):=by rw[wr _ (by omega) (by omega)];omega
  have hv:EI t x=AG q.2:=by rw[hv];exact Rj _ _
  refine zk (Ar ..) (zu (decide_eq_false (by omega)) ?_);rw[e2,zi,hqi];refine zc (Aa (decide_eq_true (by omega)) (decide_eq_true (by omega))) (ze ?_);have hq:=hq;rw[hv, ←n2.t]at hq;exact hq _
 |p::r,i,q,h,h1,hi,hqi,n1,n2,he,hv=>by
  obtain⟨g1,g2,g3⟩:=drop_cons (d:=(([],[]):Dj)) h;have hm:p∈t:=zN (by rw[h];exact zw ..);obtain⟨l1,l2⟩:=E0 hl p hm;have e1:zg .i64 ((i:Int)+1)=((i+1:Nat):Int):=by rw[wr _ (by omega) (by omega)];omega
  have e2:zg .i64 ((i:Int)-1)=((i-1:Nat):Int):=by rw[wr _ (by omega) (by omega)];omega
  have hx:(decide ((0:Int)≤(i:Int))&&decide ((i:Int)<(t.length:Int)))=true:=Aa (decide_eq_true (by omega)) (decide_eq_true (by omega));obtain⟨k1,k2,hlt,he⟩:=Oi he;have m1:=C2 k1 l1 (by decide);have m2:=C2 k2 l2 (by decide);have hv:EI t x=if AG p.1<AG x then R0 (some (Sp.pt p)) (r.map Sp.pt) (AG x)else AG q.2+(AG p.2-AG q.2)*(AG x-AG q.1)/(AG p.1-AG q.1):=by
   rw[hv,zJ,Oz];rfl
  have hne:=Ve hlt;refine zk (Ar ..) ?_;conv=>zeta
  rw[e1,e2,zi,zi,g2,hqi];refine zc (decide_eq_true (by omega)) (zc hx (zc (Aa (nx.num (by decide)) (m1.Ed (by decide))) (zf (fun c=>?_) (fun c=>?_))))
  ·have c:=(G8 _ _).1 (of_decide_eq_true c);rw[if_neg c]at hv;have s1:=m2.H3 n2;have s2:=m1.H3 n1;have s3:=s1.Te s2 hne;have s4:=nx.H3 n1;have s5:=s3.Mt s4;have s6:=n2.Lh s5;have z2:Zl (H3 p.1 q.1)=true:=qQ (s2.Ed (by decide)) (fun e=>hne ((s2.KO (by decide)).1 e));refine zc (Aa (decide_eq_true (by omega)) (decide_eq_true (by omega))) (zc hx (zc (Aa (m2.num (by decide)) (n2.Ed (by decide))) (zc (Aa (m1.num (by decide)) (n1.Ed (by decide))) (zc (Aa (s1.num (by decide)) z2) (zc (Aa (nx.num (by decide)) (n1.Ed (by decide))) (zc (Aa (s3.num (by decide)) (s4.num (by decide))) (zc (Aa (n2.num (by decide)) (s5.num (by decide))) (ze ?_))))))));rw[s6.t,Zu, ←hv];exact hq _
  ·have c:AG p.1<AG x:=by
    have:=of_decide_eq_false c;rw[G8]at this;exact zL.1 this
   rw[if_pos c]at hv;exact Aj t x h64 hl nx hq r (i+1) p g3 (by omega) g1 (by rw[zH];exact g2) m1 m2 he hv
theorem ok:Ae AV 50 Q5:=by
 refine AB (X:=tL) rfl kD (d:=9) (by kernel_rfl) (by kernel_rfl) (by kernel_rfl) (fun(i:List (List UInt8×List UInt8)×List UInt8) hi=>?_) (Ad (by kernel_rfl));obtain⟨t,x⟩:=i;have hi:(decide (t.length≤1000)&&D1 100 t&&decide (x.length≤100)&&decide (K1 t x=0))=true:=hi;rw[zd,zd,zd,decide_eq_true_eq,decide_eq_true_eq,decide_eq_true_eq]at hi;obtain⟨⟨⟨_,hl⟩,hx⟩,he⟩:=hi;obtain⟨ht,hcx⟩:=K4 he;obtain⟨hne,h64,h0⟩:=HB ht;have nx:=C2 hcx hx (by decide);have hq:∀ob,Af Q5 (t,x) (.dat .str (A3 (EI t x))) ob:=fun ob=>zB rfl rfl rfl
 obtain⟨p,r,rfl⟩:∃p r,t=p::r:=by
  cases t with
  |nil=>exact absurd rfl hne
  |cons p r=>exact⟨p,r,rfl⟩
 obtain⟨k1,k2,h1⟩:=Nt h0;obtain⟨l1,l2⟩:=E0 hl p (zw ..);have m1:=C2 k1 l1 (by decide);have m2:=C2 k2 l2 (by decide);have hv:EI (p::r) x=if AG p.1<AG x then R0 (some (Sp.pt p)) (r.map Sp.pt) (AG x)else AG p.2:=by
  rw[R5,zJ,O0];rfl
 have g2:(p::r).getD 0 ([],[])=p:=rfl;refine zt (An (p::r) x) ?_;conv=>zeta
 rw[g2];refine zc (decide_eq_true (by rw[zh];omega)) (zc (Aa (nx.num (by decide)) (m1.Ed (by decide))) (zf (fun c=>zc (decide_eq_true (by rw[zh];omega)) (ze ?_)) (fun c=>?_)))
 ·have c:=(G8 _ _).1 (of_decide_eq_true c);rw[if_neg c]at hv;have hq:=hq;rw[hv, ←m2.t]at hq;exact hq _
 ·have c:AG p.1<AG x:=by
   have:=of_decide_eq_false c;rw[G8]at this;exact zL.1 this
  rw[if_pos c]at hv;exact Aj (p::r) x h64 hl nx hq r 1 p rfl (by decide) (by rw[zh];omega) rfl m1 m2 h1 hv
end T50
theorem fU:∀g sp,YL.sp g=some sp→Ae AV g sp:=Ac T114.ok (Ac T83.ok (Ac T77.ok (Ac T87.ok (Ac T88.ok (Ac T80.ok (Ac T81.ok (Ac T82.ok (Ac T86.ok (Ac T103.ok (fun g sp h=>by cases h))))))))))
structure NF(s:List UInt8):Prop where
 c:Ay s=0
 r:D8 (XY s) (AG s)
 z:Gr 300 (AG s)
 s:KP 4000 (AG s)
theorem Z3{s:List UInt8}(h:Ay s=0)(hl:s.length≤300):NF s:=by
 have n:=C2 h hl (by decide);exact⟨h,J7 (n.num (by decide)),n.z,G3 n.z (by decide)⟩
namespace T47
variable {Q:PV→Ob→Prop}
set_option maxRecDepth 10000 in
theorem Cs(q p:Dj)(x:List UInt8)(a1:NF q.1)(a2:NF q.2)(b1:NF p.1)(b2:NF p.2)(nx:NF x)(hlt:AG q.1<AG p.1)
  (hq:∀f ob,D8 f (AG q.2+(AG p.2-AG q.2)*(AG x-AG q.1)/(AG p.1-AG q.1))→Q (.tup [.dat .str (Kg f),.dat i64 (Kl f)]) ob):
  Ends YL (L3 (F6 q.1) (F9 q.1) (Fk q.1) (Fl q.1) (F6 q.2) (F9 q.2) (Fk q.2) (Fl q.2) (F6 p.1) (F9 p.1) (Fk p.1) (Fl p.1) (F6 p.2) (F9 p.2) (Fk p.2) (Fl p.2) (F6 x) (F9 x) (Fk x) (Fl x)) Q:=by
 have hne:=Ve hlt;have r1:=D8.sub b2.r a2.r b2.s a2.s;have z1:=b2.z.sub a2.z;have s1:=G3 z1 (by decide);have r2:=D8.sub nx.r a1.r nx.s a1.s;have z2:=nx.z.sub a1.z;have s2:=G3 z2 (by decide);have r3:=D8.mul r1 r2 s1 s2;have z3:=z1.mul z2;have s3:=G3 z3 (by decide);have r4:=D8.sub b1.r a1.r b1.s a1.s;have z4:=b1.z.sub a1.z;have s4:=G3 z4 (by decide);have r5:=D8.div r3 r4 s3 s4 (G3 (z4.inv hne) (by decide)) hne;have z5:=z3.div z4 hne;have s5:=G3 z5 (by decide);have r6:=D8.add a2.r r5 a2.s s5;have z6:=a2.z.add z5;refine zk (CN ..) ?_;conv=>zeta
 have fe:∀s:List UInt8,((F6 s,F9 s),(Fk s,Fl s))=XY s:=fun _=>rfl
 simp only[fe];exact zc (Aa (b2.r.De b2.s) (a2.r.De a2.s)) (zc (Aa (nx.r.De nx.s) (a1.r.De a1.s)) (zc (Aa (r1.De s1) (r2.De s2)) (zc (Aa (b1.r.De b1.s) (a1.r.De a1.s)) (zc (Aa (Aa (r3.De s3) (r4.De s4)) (r4.HH.trans (decide_eq_true hne))) (zc (Aa (a2.r.De a2.s) (r5.De s5)) (zc (r6.Dy (G3 z6 (by decide))) (ze (hq _ _ r6))))))))
theorem get_map(t:List Dj)(i:Nat)(p:Dj)(h:i<t.length)(hp:t.getD i ([],[])=p)(d):(t.map BL).getD i d=BL p:=by
 rw[zn,ya];rw[zn,zj h]at hp;rw[zj h];have hp:t[i]=p:=hp;rw[hp];rfl
set_option maxRecDepth 10000 in
theorem AS(t:List Dj)(q p:Dj)(x:List UInt8)(i:Nat)(h1:1≤i)(hi:i<t.length)(h64:t.length≤64)(hqi:t.getD (i-1) ([],[])=q)(a1:NF q.1)(a2:NF q.2)(b1:NF p.1)(b2:NF p.2)(nx:NF x)(hlt:AG q.1<AG p.1)
  (hq:∀f ob,D8 f (AG q.2+(AG p.2-AG q.2)*(AG x-AG q.1)/(AG p.1-AG q.1))→Q (.tup [.dat .str (Kg f),.dat i64 (Kl f)]) ob):
  Ends YL (L2 (t.map BL) (i:Int) (F6 p.1) (F9 p.1) (Fk p.1) (Fl p.1) (F6 p.2) (F9 p.2) (Fk p.2) (Fl p.2) (F6 x) (F9 x) (Fk x) (Fl x)) Q:=by
 have e2:zg .i64 ((i:Int)-1)=((i-1:Nat):Int):=by rw[wr _ (by omega) (by omega)];omega
 have l3:=Cs (Q:=Q) q p x a1 a2 b1 b2 nx hlt hq;refine zk (A1 ..) ?_;conv=>zeta
 rw[e2,zi,get_map t (i-1) q (by omega) hqi];exact zc (Aa (decide_eq_true (by omega)) (decide_eq_true (by rw[zz];omega))) l3
set_option maxRecDepth 10000 in
theorem Aj(t:List Dj)(x:List UInt8)(h64:t.length≤64)(hl:D1 300 t=true)(nx:NF x)(hq:∀f ob,D8 f (EI t x)→Q (.tup [.dat .str (Kg f),.dat i64 (Kl f)]) ob):
  ∀(r:List Dj) (i:Nat),t.drop i=r→i≤t.length→(i=0→r≠[])→(0<i→NF (t.getD (i-1) ([],[])).1∧NF (t.getD (i-1) ([],[])).2)→C6 (Ge t i) r=0→EI t x=R0 ((Ge t i).map Sp.pt) (r.map Sp.pt) (AG x)→Ends YL (L1 (t.map BL) (t.map BL) (t.length:Int) (i:Int) (F6 x) (F9 x) (Fk x) (Fl x)) Q
 |[],i,h,hi,hne,hp,he,hv=>by
  have:=drop_nil h hi;have h0:0<i:=by
   rcases Nat.eq_zero_or_pos i with e|e
   ·exact absurd rfl (hne e)
   ·exact e
  have e:i=t.length:=by omega
  have ep:Ge t i=some (t.getD (i-1) ([],[])):=by unfold Ge;rw[if_neg (by omega)]
  have e2:zg .i64 ((t.length:Int)-1)=((i-1:Nat):Int):=by rw[wr _ (by omega) (by omega)];omega
  obtain⟨p1,p2⟩:=hp h0;have gm:=get_map t (i-1) (t.getD (i-1) ([],[])) (by omega) rfl;rw[ep]at hv;have hv:EI t x=AG (t.getD (i-1) ([],[])).2:=by rw[hv];exact Rj _ _
  refine zk (Ar ..) (zu (decide_eq_false (by omega)) ?_);rw[zz,e2,zi,gm];refine(zc (Aa (decide_eq_true (by omega)) (decide_eq_true (by omega))) (zc (p2.r.Dy p2.s) (ze (hq (XY (t.getD (i-1) ([],[])).2) _ (by rw[hv];exact p2.r)))))
 |p::r,i,h,hi,hne,hp,he,hv=>by
  obtain⟨g1,g2,g3⟩:=drop_cons (d:=(([],[]):Dj)) h;have hm:p∈t:=zN (by rw[h];exact zw ..);obtain⟨l1,l2⟩:=E0 hl p hm;have e1:zg .i64 ((i:Int)+1)=((i+1:Nat):Int):=by rw[wr _ (by omega) (by omega)];omega
  have gm:=get_map t i p g1 g2;have step:∀(k1:Ay p.1=0) (k2:Ay p.2=0),NF p.1∧NF p.2:=fun k1 k2=>⟨Z3 k1 l1,Z3 k2 l2⟩
  have hcmp:∀k1:Ay p.1=0,J2 (XY x) (BL p).1=Jy x p.1:=fun k1=>Wm nx.c k1
  have next:Ay p.1=0→Ay p.2=0→C6 (some p) r=0→EI t x=R0 (some (Sp.pt p)) (r.map Sp.pt) (AG x)→Ends YL (L1 (t.map BL) (t.map BL) (t.length:Int) ((i+1:Nat):Int) (F6 x) (F9 x) (Fk x) (Fl x)) Q:=fun k1 k2 h2 hv2=>
   Aj t x h64 hl nx hq r (i+1) g3 g1 (fun k=>absurd k (by omega)) (fun _=>by rw[zH,g2];exact step k1 k2) (by rw[JI g2];exact h2) (by rw[JI g2];exact hv2)
  refine zk (Ar ..) ?_;conv=>zeta
  rw[e1,zi,gm,zz];by_cases h0:i=0
  ·subst h0;have he:C6 none (p::r)=0:=he;have hv:EI t x=R0 none ((p::r).map Sp.pt) (AG x):=hv;obtain⟨k1,k2,h2⟩:=Nt he;obtain⟨b1,b2⟩:=step k1 k2;rw[zJ,O0]at hv;refine zc (decide_eq_true (by omega)) (zc (Aa rfl (decide_eq_true (by omega))) (zc (Aa (nx.r.Dy nx.s) (b1.r.Dy b1.s)) (zf (fun c=>?_) (fun c=>?_))))
   ·have c:=of_decide_eq_true c;have c:J2 (XY x) (BL p).1>0:=c;rw[hcmp k1]at c;have c2:AG p.1<AG x:=zL.1 (fun k=>by have:=(G8 x p.1).2 k;omega);rw[if_pos (show(Sp.pt p).1<AG x from c2)]at hv;exact next k1 k2 h2 hv
   ·have c:=of_decide_eq_false c;have c:¬J2 (XY x) (BL p).1>0:=c;rw[hcmp k1]at c;have c2:=(G8 x p.1).1 (by omega);rw[if_neg (show ¬(Sp.pt p).1<AG x from c2)]at hv;exact zc rfl (zc (b2.r.Dy b2.s) (ze (hq (XY p.2) _ (by rw[hv];exact b2.r))))
  ·have ep:Ge t i=some (t.getD (i-1) ([],[])):=by unfold Ge;rw[if_neg h0]
   obtain⟨a1,a2⟩:=hp (by omega);rw[ep]at he hv;have hv:EI t x=R0 (some (Sp.pt (t.getD (i-1) ([],[])))) ((p::r).map Sp.pt) (AG x):=hv;have hqi:t.getD (i-1) ([],[])=t.getD (i-1) ([],[]):=rfl;obtain⟨k1,k2,hlt,h2⟩:=Oi he;obtain⟨b1,b2⟩:=step k1 k2;rw[zJ,Oz]at hv;refine zc (decide_eq_true (by omega)) (zc (Aa (decide_eq_true (by omega)) (decide_eq_true (by omega))) (zc (Aa (nx.r.Dy nx.s) (b1.r.Dy b1.s)) (zf (fun c=>?_) (fun c=>?_))))
   ·have c:=of_decide_eq_true c;have c:J2 (XY x) (BL p).1>0:=c;rw[hcmp k1]at c;have c2:AG p.1<AG x:=zL.1 (fun k=>by have:=(G8 x p.1).2 k;omega);rw[if_pos (show(Sp.pt p).1<AG x from c2)]at hv;exact next k1 k2 h2 hv
   ·have c:=of_decide_eq_false c;have c:¬J2 (XY x) (BL p).1>0:=c;rw[hcmp k1]at c;have c2:=(G8 x p.1).1 (by omega);rw[if_neg (show ¬(Sp.pt p).1<AG x from c2)]at hv;refine zu (by simp;omega) ?_;exact AS t (t.getD (i-1) ([],[])) p x i (by omega) g1 h64 hqi a1 a2 b1 b2 nx hlt (fun f ob hr=>hq f ob (by rw[hv];exact hr))
theorem ok:Ae AV 47 VR:=by
 refine AB (X:=YL) rfl fU (d:=9) (by kernel_rfl) (by kernel_rfl) (by kernel_rfl) (fun(i:List (List UInt8×List UInt8)×List UInt8) hi=>?_) (Ad (by kernel_rfl));obtain⟨t,x⟩:=i;have hi:(decide (t.length≤1000)&&D1 300 t&&decide (x.length≤300))=true:=hi;rw[zd,zd,decide_eq_true_eq,decide_eq_true_eq]at hi;obtain⟨⟨h1000,hl⟩,hx⟩:=hi;have ef:yj [BH t,Ay x]=K1 t x:=by rw[Lf];rfl
 refine zt (An t x) ?_;conv=>zeta
 rw[ef];refine zc (Aa (decide_eq_true h1000) (Gv hl (by decide))) (zc (decide_eq_true (by omega)) (zc rfl (zf (fun c=>ze (zB rfl rfl (oS (by simpa using c) _))) (fun c=>?_))));have c:K1 t x=0:=by simpa using c
 obtain⟨ht,hcx⟩:=K4 c;obtain⟨hne,h64,h0⟩:=HB ht;have nx:=Z3 hcx hx;have eo:Jh t=t.map BL:=by unfold Jh;rw[if_neg (by rw[ht];decide)]
 rw[eo,zz];exact zc (Lg hcx).2 (Aj t x h64 hl nx (fun f ob hr=>zB rfl rfl (oT hr c)) t 0 rfl (zR _) (fun _=>hne) (fun h=>absurd h (by decide)) h0 rfl)
end T47
end Go.Pe
end
section
namespace Go.Sp
theorem GY{a:List UInt8}{n:Int}(h:A6 a n=true):a.length≤40∧(Ay a=0→Pd a n=true):=by
 unfold A6 at h;rw[zd,decide_eq_true_eq,Bool.or_eq_true,decide_eq_true_eq]at h;refine⟨h.1,fun k=>?_⟩;rcases h.2 with x|x
 ·exact absurd k x
 ·exact x
theorem XH{t:List Dj}{n d:Int}(h:JB t n d=true):(t.length:Int)≤n∧D1 40 t=true∧∀p∈t,A6 p.1 d=true∧A6 p.2 d=true:=by
 unfold JB at h;rw[zd,decide_eq_true_eq,zD]at h;have h2:∀p∈t,A6 p.1 d=true∧A6 p.2 d=true:=fun p hp=>by
  have:=h.2 p hp;rwa [zd]at this
 refine⟨h.1,?_,h2⟩;unfold D1;rw[zD];intro p hp;have:=h2 p hp;rw[decide_eq_true (GY this.1).1,decide_eq_true (GY this.2).1];rfl
theorem nE(X:Rat)(zx:Gr 100 X):∀(r:List Dj) (q:Dj),Gr 100 (AG q.1)→Gr 100 (AG q.2)→C6 (some q) r=0→D1 100 r=true→Gr 1000 (R0 (some (pt q)) (r.map pt) X)
 |[],q,z1,z2,_,_=>by
  rw[List.map_nil,Rj];exact z2.mono (by decide)
 |p::r,q,z1,z2,he,hl=>by
  obtain⟨k1,k2,hlt,he⟩:=Oi he;obtain⟨l1,l2⟩:=E0 hl p (zw ..);have m1:=C2 k1 l1 (by decide);have m2:=C2 k2 l2 (by decide);rw[zJ,Oz];split
  ·refine nE X zx r p m1.z m2.z he ?_;unfold D1 at hl ⊢;rw[ym,zd]at hl;exact hl.2
  ·exact(z2.add (((m2.z.sub z2).mul (zx.sub z1)).div (m1.z.sub z1) (Ve hlt))).mono (by decide)
theorem ZD{t:List Dj}{x:List UInt8}(hl:D1 100 t=true)(hx:x.length≤100)(h:K1 t x=0):Gr 1000 (EI t x):=by
 obtain⟨ht,hcx⟩:=K4 h;obtain⟨hne,_,h0⟩:=HB ht;have nx:=C2 hcx hx (by decide);cases t with
 |nil=>exact absurd rfl hne
 |cons p r=>
  obtain⟨k1,k2,h1⟩:=Nt h0;obtain⟨l1,l2⟩:=E0 hl p (zw ..);have m1:=C2 k1 l1 (by decide);have m2:=C2 k2 l2 (by decide);rw[R5,zJ,O0];split
  ·refine nE _ nx.z r p m1.z m2.z h1 ?_;unfold D1 at hl ⊢;rw[ym,zd]at hl;exact hl.2
  ·exact m2.z.mono (by decide)
end Go.Sp
namespace Go.Pe
open Sp
open Go.Det
noncomputable abbrev TD:Ao:=U2
theorem fW:∀g sp,sN.sp g=some sp→Ae AV g sp:=Ac T45.ok (Ac T46.ok (Ac cT (Ac T47.ok (Ac T48.ok (Ac T49.ok (Ac T23.ok (Ac T24.ok (Ac T25.ok (Ac T50.ok (fun g sp h=>by cases h))))))))))
namespace T8
variable {Q:PV→Ob→Prop}
set_option maxRecDepth 10000 in
theorem Aj(t:List Dj)(x:List UInt8)(ht:JB t 69 9=true)(hx:A6 x 9=true)(hq:∀ob,Q (.dat .bool true) ob):Ends sN (L1 t x) Q:=by
 obtain⟨l1,l2,_⟩:=XH ht;have lx:=(GY hx).1;have ef:yj [BH t,Ay x]=K1 t x:=by rw[Lf];rfl
 have ok:(decide (t.length≤1000)&&D1 1000000 t)=true:=Aa (decide_eq_true (by omega)) (Gv l2 (by decide));refine zk (Ar ..) ?_;conv=>zeta
 rw[ef];refine zc (Aa (Aa (decide_eq_true (by omega)) (Gv l2 (by decide))) (decide_eq_true (by omega))) (zc ok (zc ok (zu (by simp) (zc (decide_eq_true (by omega)) (zc rfl (zf (fun e=>?_) (fun e=>?_)))))))
 ·have e:K1 t x≠0:=by simpa using e
  exact zc rfl (zc (dY e _ _) (zc rfl (ze (hq _))))
 ·have e:K1 t x=0:=by simpa using e
  have z:=ZD (Gv l2 (by decide)) (by omega) e;have lc:(Ya t x).length≤1000000:=Tx z (by decide);have told:HV (aW t x) (cK t x) (Ya t x) 0=true:=by
   unfold aW cK Ya;rw[e];exact fM _
  exact zc (Aa (Aa (Aa (decide_eq_true (by omega)) (Gv l2 (by decide))) (decide_eq_true (by omega))) (decide_eq_true e)) (zc (decide_eq_true lc) (zc told (zc rfl (ze (hq _)))))
theorem ok:Ae AV 8 U2:=by
 refine AB (X:=sN) rfl fW (d:=9) (by kernel_rfl) (by kernel_rfl) (by kernel_rfl) (fun(i:List (List UInt8×List UInt8)×List UInt8) _=>?_) (Ad (by kernel_rfl));obtain⟨t,x⟩:=i;have hq:∀ob,Af U2 (t,x) (.dat .bool true) ob:=fun ob=>zB rfl rfl rfl
 refine zt (An t x) (zf (fun _=>zf (fun _=>zc rfl (ze (hq _))) (fun _=>zc rfl (zf (fun _=>zc rfl (ze (hq _))) (fun c=>zc rfl (zf (fun _=>zc rfl (ze (hq _))) (fun d=>?_)))))) (fun _=>zc rfl (zf (fun _=>zc rfl (ze (hq _))) (fun c=>zc rfl (zf (fun _=>zc rfl (ze (hq _))) (fun d=>?_))))))
 ·exact Aj t x (by simpa using c) (by simpa using d) hq
 ·exact Aj t x (by simpa using c) (by simpa using d) hq
end T8
end Go.Pe
end
section
namespace Go.Det
open Go.ChangeShapes Go.WideShapes Go.RowKit
theorem BW{α β:Type}{f g:α→Option β}:∀ {l:List α} {ys:List β},l.mapM f=some ys→(∀a∈l,∀y∈ys,f a=some y→g a=some y)→l.mapM g=some ys
 |[],ys,h,_=>by simpa using h
 |a::l,ys,h,hg=>by
  rw[List.mapM_cons]at h ⊢;cases hf:f a with
  |none=>rw[hf]at h;cases h
  |some y=>
   rw[hf]at h;cases hl:l.mapM f with
   |none=>rw[hl]at h;cases h
   |some zs=>
    rw[hl]at h;cases h;rw[hg a (by simp) y (by simp) hf,BW hl (fun b hb z hz hfz=>hg b (by simp[hb]) z (by simp[hz]) hfz)];rfl
def aQ(P:Program)(L:List TypeId)(t:TypeId):Bool:=match P.underlying t with
 |some (.pointer e)|some (.array _ e)|some (.map _ e)=>L.contains e
 |some (.slice e)=>L.contains e&&Nat.ble 1 (P.cellsOf e)
 |some (.struct fs)=>fs.toList.all fun f=>L.contains f.type
 |_=>true
def Kq(P:Program)(L:List TypeId):Bool:=L.all (aQ P L)
section
variable {H:Type}{enc:TypeId×Value→H}{P:Program}{W W':World}
theorem gS{L:List TypeId}(h:Kq P L=true){t:TypeId}(ht:t∈L):aQ P L t=true:=zD.1 h t ht
theorem Ud(hb:Below W.heap.size W W'){a:Addr}{v:Value}(h:W.cell? a=some v):W'.cell? a=some v:=by
 have hl:a.block<W.heap.size:=by
  unfold yk at h;by_cases hh:a.block<W.heap.size
  ·exact hh
  ·rw[zI (by omega)]at h;cases h
 unfold yk at h ⊢;rw[hb.block _ hl];exact h
theorem Sl(hb:Below W.heap.size W W'){a:Addr}{n:Nat}{cs:List Value}(h:W.cells? 0 a n=some cs):W'.cells? 0 a n=some cs:=by
 unfold World.cells? at h ⊢;rw[if_pos (zR _)]at h ⊢;exact BW h fun i _ v _ hv=>Ud hb hv
theorem GA(hb:Below W.heap.size W W'){β:Type}{a:Addr}{n:Nat}{f g:List Value→Option β}{y:β}(h:(W.cells? 0 a n).bind f=some y)(hfg:∀cs,f cs=some y→g cs=some y):(W'.cells? 0 a n).bind g=some y:=by
 cases hc:W.cells? 0 a n with
 |none=>rw[hc]at h;cases h
 |some cs=>
  rw[hc]at h;rw[Sl hb hc];exact hfg cs h
theorem Ni(hb:Below W.heap.size W W'){L:List TypeId}(hz:Kq P L=true){sp:Nat→Bool}:∀(fuel:Nat) (t:TypeId) (cs:List Value) (x:DataW H×List MemPlace),t∈L→
  zq enc P W 0 (fun _=>true) true fuel t cs=some x→(∀p∈x.2,sp p.block=true)→zq enc P W' 0 sp true fuel t cs=some x
 |0,_,_,_,_,h,_=>by cases h
 |fuel+1,t,cs,x,ht,h,hs=>by
  have ih:=Ni hb hz (sp:=sp) fuel;have hk:=gS hz ht;unfold aQ at hk;unfold zq at h ⊢;split at h<;>try simp only[reduceCtorEq]at h
  all_goals try exact h
  case h_6 e a hu=>
   have hke:e∈L:=by rw[hu]at hk;simpa using hk
   cases hm:(W.cells? 0 a (P.cellsOf e)).bind (zq enc P W 0 (fun _=>true) true fuel e)with
   |none=>rw[hm]at h;cases h
   |some y=>
    rw[hm]at h;cases h;rw[GA hb hm (g:=zq enc P W' 0 sp true fuel e) (fun cs hc=>ih e cs y hke hc (fun p hp=>hs p (by simp[hp])))];rfl
  case h_8 e a len cap hu=>
   have hke:e∈L∧P.cellsOf e≠0:=by
    rw[hu]at hk;simp only[zd,List.contains_iff_mem]at hk;have:=Nat.le_of_ble_eq_true hk.2;exact⟨hk.1,by omega⟩
   by_cases hc:0≤a.block∧len≤cap∧cap≤maxLen
   ·rw[if_pos hc]at h ⊢;have step:∀(i:Nat) (y:DataW H×List MemPlace),(W.cells? 0 (a.add (i*P.cellsOf e)) (P.cellsOf e)).bind (zq enc P W 0 (fun _=>true) true fuel e)=some y→(∀p∈y.2,sp p.block=true)→
      (W'.cells? 0 (a.add (i*P.cellsOf e)) (P.cellsOf e)).bind (zq enc P W' 0 sp true fuel e)=some y:=fun i y hy hp=>GA hb hy fun cs hc=>ih e cs y hke.1 hc hp
    cases h1:(yp len).mapM (fun i=>(W.cells? 0 (a.add (i*P.cellsOf e)) (P.cellsOf e)).bind (zq enc P W 0 (fun _=>true) true fuel e))with
    |none=>rw[h1]at h;cases h
    |some ys=>
     rw[h1]at h;simp only[if_true,zF]at h;cases h2:(yp (cap-len)).mapM (fun j=>(W.cells? 0 (a.add ((len+j)*P.cellsOf e)) (P.cellsOf e)).bind (zq enc P W 0 (fun _=>true) true fuel e))with
     |none=>rw[h2]at h;cases h
     |some zs=>
      rw[h2]at h;cases h;rw[BW h1 fun i _ y hy hi=>step i y hi fun p hp=>hs p (zT _ (zO.2 ⟨y,List.mem_append_left _ hy,hp⟩))];have h2':=BW h2 fun j _ y hy hj=>step (len+j) y hj fun p hp=>hs p (zT _ (zO.2 ⟨y,zT _ hy,hp⟩))
      by_cases hsp:sp a.block=true
      ·simp only[hsp,if_true,zF];rw[h2'];rfl
      ·have e0:(ys.length+zs.length)*P.cellsOf e=0:=by
        rcases Nat.eq_zero_or_pos ((ys.length+zs.length)*P.cellsOf e)with h0|h0
        ·exact h0
        ·refine absurd (hs (.cell a.block (a.off+0)) (List.mem_append_left _ ?_)) hsp;simp only[MemPlace.row,List.mem_map,List.mem_range];exact⟨0,h0,rfl⟩
       have e1:zs=[]:=by
        rcases Nat.mul_eq_zero.1 e0 with h0|h0
        ·exact zy.1 (by omega)
        ·exact absurd h0 hke.2
       subst e1;simp only[hsp,zF];rfl
   ·rw[if_neg hc]at h;cases h
  case h_9 cs _ _ fs hu=>
   have hke:∀f∈fs.toList,f.type∈L:=by
    rw[hu]at hk;intro f hf;have:=zD.1 hk f hf;simpa using this
   by_cases hc:cs.length=P.cellsOf t
   ·rw[if_pos hc]at h ⊢;cases h1:fs.toList.mapM (fun f=>zq enc P W 0 (fun _=>true) true fuel f.type ((cs.drop f.offset).take (P.cellsOf f.type)))with
    |none=>rw[h1]at h;cases h
    |some ys=>
     rw[h1]at h;cases h;rw[BW h1 fun f hfm y hy hf=>ih _ _ y (hke f hfm) hf fun p hp=>hs p (zO.2 ⟨y,hy,hp⟩)];rfl
   ·rw[if_neg hc]at h;cases h
  case h_10 cs _ _ n e hu=>
   have hke:e∈L:=by rw[hu]at hk;simpa using hk
   by_cases hc:cs.length=P.cellsOf t
   ·rw[if_pos hc]at h ⊢;cases h1:(yp n).mapM (fun i=>zq enc P W 0 (fun _=>true) true fuel e ((cs.drop (i*P.cellsOf e)).take (P.cellsOf e)))with
    |none=>rw[h1]at h;cases h
    |some ys=>
     rw[h1]at h;cases h;rw[BW h1 fun f _ y hy hf=>ih _ _ y hke hf fun p hp=>hs p (zO.2 ⟨y,hy,hp⟩)];rfl
   ·rw[if_neg hc]at h;cases h
  case h_14 k e b hu=>
   have hke:e∈L:=by rw[hu]at hk;simpa using hk
   have hl:b<W.heap.size:=by
    by_cases hh:b<W.heap.size
    ·exact hh
    ·rw[zI (by omega)]at h;cases h
   rw[hb.block _ hl];split at h
   case h_2=>cases h
   rename_i es clock hes;simp only;split at h
   case isFalse=>cases h
   rename_i hcond;rw[if_pos hcond];cases h1:(es.toList.mapM fun x=>(keyOf P k x.key).bind fun key=>if x.val.formed P e then(zq enc P W 0 (fun _=>true) true fuel e x.val.cells.toList).map fun y=>((key,y.1),y.2)else none)with
   |none=>rw[h1]at h;cases h
   |some ys=>
    rw[h1]at h;simp only[zF]at h;split at h
    case isFalse=>cases h
    rename_i hri;cases h;rw[BW h1 fun en _ y hy hf=>?_]
    ·simp only[zF];rw[if_pos hri]
    ·cases hk:keyOf P k en.key with
     |none=>rw[hk]at hf;cases hf
     |some key=>
      rw[hk]at hf;simp only[zF]at hf ⊢;split at hf
      case isFalse=>cases hf
      rename_i hfo;rw[if_pos hfo];cases htt:zq enc P W 0 (fun _=>true) true fuel e en.val.cells.toList with
      |none=>rw[htt]at hf;cases hf
      |some u=>
       rw[htt]at hf;cases hf;rw[ih _ _ u hke htt fun p hp=>hs p (by simp only[List.mem_cons,zO];exact .inr ⟨_,hy,hp⟩)];rfl
theorem Ug(hb:Below W.heap.size W W'){L:List TypeId}(hz:Kq P L=true){sp:Nat→Bool}{t:TypeId}{v:Value}{d:DataW H}{p:List MemPlace}
  (ht:t∈L) (h:DataW.Trod enc P W 0 (fun _=>true) true t v d p) (hs:∀q∈p,sp q.block=true):DataW.Trod enc P W' 0 sp true t v d p:=by
 obtain⟨fuel,hf⟩:=h;exact⟨fuel,Ni hb hz fuel t _ _ ht hf hs⟩
theorem F7(hb:Below W.heap.size W W'){L:List TypeId}(hz:Kq P L=true){sp:Nat→Bool}:∀ {ts:List TypeId} {vs:List Value} {ds:List (DataW H)} {p:List MemPlace},(∀t∈ts,t∈L)→
  DataW.TrodAll enc P W 0 (fun _=>true) true ts vs ds p→(∀q∈p,sp q.block=true)→DataW.TrodAll enc P W' 0 sp true ts vs ds p
 |[],vs,ds,p,_,h,_=>by
  obtain⟨rfl,rfl,rfl⟩:=trodAll_nil h;rfl
 |t::ts,vs,ds,p,hl,h,hs=>by
  obtain⟨v,vs1,d,ds1,a,b,rfl,rfl,rfl,h1,h2⟩:=trodAll_cons h;exact⟨a,b,Ug hb hz (hl t (by simp)) h1 (fun q hq=>hs q (by simp[hq])),F7 hb hz (fun u hu=>hl u (by simp[hu])) h2 (fun q hq=>hs q (by simp[hq])),rfl⟩
theorem Yq{f:Func}{s:ChangeSpec}{apart fresh handsOn again:Bool}{args:Array Value}{ds gs:List (DataW H)}{before:List MemPlace}{tb:TypeId}
  (hW:DataW.Whole enc P f.params.toList s.vars apart W args.toList ds gs before) (hv:s.vars=[]) (hr:f.resultTypes= #[tb]) (ht:P.underlying tb=some .bool)
  (hfn:s.fn H ds={ results:=[.lit (.bool true)],args:=ds }) (hb:Below W.heap.size W W') {L:List TypeId} (hz:Kq P L=true) (hl:f.params.toList.all L.contains=true):
  s.post enc P f apart fresh handsOn again W args (.bool true) W':=by
 have hlt:=hW.lt;have hl:∀t∈f.params.toList,t∈L:=fun t ht=>by have:=zD.1 hl t ht;simpa using this
 obtain⟨p,q,hA,hV,rfl,hfz,hnd⟩:=hW;have hV':=hV;rw[hv]at hV';obtain⟨rfl,rfl⟩:=trodVars_none hV';simp only[List.append_nil]at hlt hfz hnd ⊢;have hold:∀x∈p,(fun b=>decide (b<W.heap.size)) x.block=true:=fun x hx=>by simpa using hlt x hx
 have hW0:DataW.Whole enc P f.params.toList s.vars apart W args.toList ds [] p:=⟨p,[],hA,hV,by simp,hfz,hnd⟩;have hres:∀(b:Nat) (sp:Nat→Bool) (hd:Bool),DataW.TrodAll enc P W' b sp hd f.resultTypes.toList ((Value.bool true).resultList f.resultTypes.size) [.lit (.bool true)] []:=by
  intro b sp hd;rw[hr];exact⟨[],[],shut_bool ht true,rfl,rfl⟩
 have hok:∀(j:Nat) (t:TypeId) (r:Value),f.resultTypes[j]?=some t→((Value.bool true).resultList f.resultTypes.size)[j]?=some r→Value.okWide P W' .any 0 t r:=by
  exact ok_one hr rfl (okWide_bool_mk ht true)
 have hvars:∀sp:Nat→Bool,DataW.TrodVars enc P W' sp s.vars [] []:=fun sp=>by rw[hv];rfl
 have hfn:s.fn H (ds++[])={ results:=[.lit (.bool true)],args:=ds }:=by rw[List.append_nil];exact hfn
 refine⟨ds,[],p,[],p,[],hW0,?_,?_,?_,World.keptBut_mono (fun x hx=>⟨hx,.inr (.inl hx)⟩) (hb.frame (· ∈p)),fun _=>?_⟩
 ·rw[hfn];exact hres _ _ _
 ·rw[hfn];exact F7 hb hz hl hA hold
 ·rw[hfn];exact hvars _
 ·refine⟨hok,_,_,([]++p)++[],⟨[]++p,[],trodAll_append (F7 hb hz hl hA (fun _ _=>rfl)) (hres _ _ _),hvars _,rfl,?_,?_⟩,?_⟩
  ·intro b off hp;have hp:MemPlace.cell b off∈p:=by simpa using hp
   rw[hb.frozen (show b<W.heap.size from hlt _ hp)];exact hfz b off hp
  ·intro ha;simpa using hnd ha
  ·intro x hx _;simpa using hx
end
end Go.Det
end
section
namespace Go.Det
noncomputable section
def MT(k:Nat):Value→V
 | .bool b=>.bool b
 | .int q n=>.int q n
 | .string s=>.str s.data.toList
 | .pointer none=>.nilp
 | .slice none 0 0=>.nils
 | .slice (some _) 0 0=>.es0
 | .slice (some ⟨r,off,none⟩) len cap=>if r<k∧len≤cap then .sl r off len cap 0 else .junk
 | .map none=>.nilm
 | .nilFunc=>.nilf
 | .nilIface=>.nili
 |_=>.junk
def nK(W:World)(r:Nat):Nat:=match W.heap[r]? with
 |some (.cells c _ _)=>c.size
 |_=>0
def pW(W:World):Pl:=(yp W.heap.size).map fun r=>(r,nK W r)
theorem LF{W:World}{r:Nat}(h:r<W.heap.size):(pW W)[r]?=some (r,nK W r):=by
 simp[pW,h]
def Oe(W:World)(r:Nat):Option O:=match W.heap[r]? with
 |some (.cells c t _)=>if c.size=0 then none else some (.cells (c.toList.map (MT W.heap.size)) t (0,c.size))
 |_=>none
def YG(W:World):Nat→H
 |0=>⟨.leaf,0⟩
 |n+1=>⟨(YG W n).m.set n (Oe W n),n+1⟩
theorem iC(W:World):∀n,(YG W n).nx=n
 |0=>rfl
 |_+1=>rfl
theorem Tq(W:World):∀(n b:Nat),(YG W n).get b=if b<n then Oe W b else none
 |0,b=>by simp[YG,H.get]
 |n+1,b=>by
  have ih:=Tq W n b;unfold H.get at ih ⊢;simp only[YG,PM.CM];by_cases e:b=n
  ·subst e;simp
  ·rw[if_neg e,ih];by_cases h:b<n
   ·rw[if_pos h,if_pos (by omega)]
   ·rw[if_neg h,if_neg (by omega)]
def hW(W:World):H:=YG W W.heap.size
theorem Oa(W:World)(b:Nat):(hW W).get b=Oe W b:=by
 unfold hW;rw[Tq];by_cases h:b<W.heap.size
 ·rw[if_pos h]
 ·rw[if_neg h];unfold Oe;rw[zI (by omega)]
theorem Qm{W:World}{v:Value}(h:(MT W.heap.size v).ok=true):Ab (pW W) (MT W.heap.size v) v:=by
 revert h;unfold MT;split<;>intro h
 case h_6=>simp only[Ab];exact⟨_,rfl⟩
 case h_7 r off len cap _=>
  split
  ·rename_i hc;simp only[Ab];exact⟨r,_,cap,LF hc.1,rfl,hc.2,zr _,fun _=>rfl,fun e=>absurd rfl e⟩
  ·rename_i hc;rw[if_neg hc]at h;cases h
 case h_11=>cases h
 all_goals simp only[Ab]
 all_goals rfl
theorem xB(W:World):R (pW W) (hW W) W:=by
 refine⟨by simp[pW,hW,iC],fun b o hb=>?_,fun b b' o o' r n n' hb hb' h1 h2=>?_⟩
 ·rw[Oa]at hb;unfold Oe at hb;split at hb
  case h_2=>cases hb
  rename_i c t fz hc;split at hb
  case isTrue=>cases hb
  cases hb;have hlt:b<W.heap.size:=(zp.1 hc).1;have hs:nK W b=c.size:=by unfold nK;rw[hc]
  refine⟨b,c.size,_,by rw[LF hlt,hs],hc,c,fz,rfl,rfl,by simp,⟨by simp,fun i d v hd hv hok=>?_⟩,fun i hi h1 h2=>⟨zR _,hi⟩⟩;rw[ya]at hd;rw[zz,zP (by have:=(List.getElem?_eq_some_iff.1 hv).1;simp at this;simpa using this)]at hv;rw[hv]at hd;cases hd;exact Qm hok
 ·have key:∀b o r n,(hW W).get b=some o→(pW W)[b]?=some (r,n)→r=b:=by
   intro b o r n hb h1;rw[Oa]at hb;have hlt:b<W.heap.size:=by
    unfold Oe at hb;by_cases h:b<W.heap.size
    ·exact h
    ·rw[zI (by omega)]at hb;cases hb
   rw[LF hlt]at h1;cases h1;rfl
  rw[←key b o r n hb h1, ←key b' o' r n' hb' h2]
theorem lH{W W':World}{p':Pl}{h':H}(he:Ext (pW W) (hW W) W p' h' W'):RowKit.Below W.heap.size W W':=by
 refine⟨he.os,he.tape,he.out,he.size,fun k hk=>?_⟩;by_cases hi:Im (pW W) (hW W) k
 ·obtain⟨b,o,n,h1,h2⟩:=hi;have h1':=h1;rw[Oa]at h1';unfold Oe at h1';split at h1'
  case h_2=>cases h1'
  rename_i c t fz hc;split at h1'
  case isTrue=>cases h1'
  rename_i h0;cases h1';have hlt:b<W.heap.size:=(zp.1 hc).1;have hs:nK W b=c.size:=by unfold nK;rw[hc]
  rw[LF hlt,hs]at h2;cases h2;exact(he.lock _ hk ⟨_,_,_,_,_,h1,by rw[LF hlt,hs],rfl,zr _,Nat.pos_of_ne_zero h0⟩).1
 ·exact he.same k hk hi
end
end Go.Det
end
section
namespace Go.Pe
open Go.Det
noncomputable section
def FW(W:World):Fz:=fun b=>match (hW W).get b with
 |some (.cells cs _ _)=>some cs
 |_=>none
def Tp:(s:Sh)→s.T→Prop
 | .int k,x=>k.min≤(x:Int)∧(x:Int)≤k.max
 | .bool,_=>True
 | .str,x=>(x:List UInt8).length≤maxLen
 | .list s,l=>(l:List s.T).length≤maxLen∧∀x∈(l:List s.T),Tp s x
 | .pair a b,x=>Tp a x.1∧Tp b x.2
 | .unit,_=>True
 | .nlist _,_=>True
 | .fnv,_=>True
def ZO(P:Program)(f:TypeId→Option Sh):Nat→List Field→Option Sh
 |_,[]=>some .unit
 |o,[x]=>match f x.type with
  |some s=>bif zS x.offset o&&zS (P.cellsOf x.type) s.sz then some s else none
  |none=>none
 |o,x::y::l=>match f x.type with
  |some s=>bif zS x.offset o&&zS (P.cellsOf x.type) s.sz then(ZO P f (o+s.sz) (y::l)).map (.pair s)else none
  |none=>none
def rT(P:Program):Nat→TypeId→Option Sh
 |0,_=>none
 |f+1,t=>match P.underlying t with
  |some (.int k)=>some (.int k)
  |some .bool=>some .bool
  |some .string=>some .str
  |some (.slice e)=>match rT P f e with
   |some s=>bif zS (P.cellsOf e) s.sz&&Nat.blt 0 s.sz then some (.list s)else none
   |none=>none
  |some (.struct fs)=>match ZO P (rT P f) 0 fs.toList with
   |some s=>bif zS (P.cellsOf t) s.sz then some s else none
   |none=>none
  |_=>none
section
variable {H:Type}{enc:TypeId×Value→H}{P:Program}{W:World}
theorem cX{r:Nat}{c:Array Value}{t:TypeId}{fz:Nat×Nat}(h:W.heap[r]?=some (.cells c t fz))(h0:c.size≠0):FW W r=some (c.toList.map (MT W.heap.size)):=by
 unfold FW;rw[Oa];unfold Oe;rw[h];simp only[if_neg h0]
theorem P2{a:Addr}{n:Nat}{cs:List Value}(h:W.cells? 0 a n=some cs)(hn:0<n):
  ∃c t fz,W.heap[a.block]?=some (.cells c t fz)∧a.spot=none∧a.off+n≤c.size∧cs=(c.toList.drop a.off).take n:=by
 unfold World.cells? at h;rw[if_pos (zR _)]at h;have hl:=mapM_some_length h;have hg:=mapM_some_get h;simp only[List.length_range]at hl;have h0:=hg 0 0 (by simp[hn]);have ha0:a.add 0=a:=by simp[yt]
 rw[ha0]at h0;obtain⟨v0,hv0⟩:∃v,cs[0]?=some v:=⟨cs[0],zj (by omega)⟩;rw[hv0]at h0;unfold yk at h0;split at h0
 case h_2=>cases h0
 rename_i c t fz hb;split at h0
 case isTrue=>cases h0
 rename_i hs;have hs:a.spot=none:=by simpa using hs
 have hc:∀i,i<n→c[a.off+i]?=cs[i]?:=by
  intro i hi;have:=hg i i (by simp[hi]);unfold yk at this;have hb':(a.add i).block=a.block:=by unfold yt;split<;>rfl
  have hs':(a.add i).spot=none:=by unfold yt;split<;>simp[hs]
  have ho':(a.add i).off=a.off+i:=by unfold yt;split<;>simp_all
  rw[hb',hb]at this;simpa [hs',ho']using this
 refine⟨c,t,fz,hb,hs,?_,?_⟩
 ·have:=hc (n-1) (by omega);rw[zj (by omega)]at this;have:=(zp.1 this).1;omega
 ·apply List.ext_getElem?;intro i;by_cases hi:i<n
  ·rw[←hc i hi,zP hi,List.getElem?_drop];simp
  ·rw[zE (by omega),zE (by simp;omega)]
theorem WS{α:Type}{p:Nat→α→Prop}:∀n:Nat,(∀i,i<n→∃x,p i x)→∃l:List α,l.length=n∧∀i (h:i<l.length),p i l[i]
 |0,_=>⟨[],rfl,fun i h=>absurd h (Nat.not_lt_zero _)⟩
 |n+1,h=>by
  obtain⟨l,h1,h2⟩:=WS n fun i hi=>h i (by omega)
  obtain⟨x,hx⟩:=h n (by omega);refine⟨l++[x],by simp[h1],fun i hi=>?_⟩;by_cases e:i<l.length
  ·rw[List.getElem_append_left e];exact h2 i e
  ·have:i=n:=by simp at hi;omega
   subst this;rw[List.getElem_append_right (by omega)];simpa [h1]using hx
theorem Ps{f:TypeId→Option Sh}{n:Nat}{cs:List Value}
  (ih:∀(t:TypeId) (s:Sh) (cs:List Value) (y:DataW H×List MemPlace),f t=some s→zq enc P W 0 (fun _=>true) true n t cs=some y→∃x:s.T,DC (FW W) s x (cs.map (MT W.heap.size))∧Tp s x):
  ∀(fs:List Field) (o:Nat) (s:Sh),ZO P f o fs=some s→(∀x∈fs,∃z,zq enc P W 0 (fun _=>true) true n x.type ((cs.drop x.offset).take (P.cellsOf x.type))=some z)→
   ∃x:s.T,DC (FW W) s x (((cs.map (MT W.heap.size)).drop o).take s.sz)∧Tp s x
 |[],o,s,hs,_=>by
  cases hs;exact⟨(),by simp[DC,Sh.sz],trivial⟩
 |[x],o,s,hs,hx=>by
  unfold ZO at hs;split at hs
  case h_2=>cases hs
  rename_i s' hs';cases hc:(zS x.offset o&&zS (P.cellsOf x.type) s'.sz)with
  |false=>rw[hc]at hs;cases hs
  |true=>
  rw[hc]at hs;cases hs;simp only[zd]at hc;obtain⟨z,hz⟩:=hx x (by simp);rw[zA hc.1,zA hc.2]at hz;have:=ih _ _ _ _ hs' hz;simpa [yn,yo]using this
 |x::x'::l,o,s,hs,hx=>by
  unfold ZO at hs;split at hs
  case h_2=>cases hs
  rename_i s' hs';cases hc:(zS x.offset o&&zS (P.cellsOf x.type) s'.sz)with
  |false=>rw[hc]at hs;cases hs
  |true=>
  rw[hc]at hs;simp only[cond_true,Option.map_eq_some_iff]at hs;obtain⟨s2,h2,rfl⟩:=hs;simp only[zd]at hc;obtain⟨z,hz⟩:=hx x (by simp);rw[zA hc.1,zA hc.2]at hz;obtain⟨a,a1,a2⟩:=ih _ _ _ _ hs' hz;obtain⟨b,b1,b2⟩:=Ps ih (x'::l) (o+s'.sz) s2 h2 (fun u hu=>hx u (List.mem_cons_of_mem _ hu));refine⟨(a,b),?_,a2,b2⟩;simp only[DC];refine⟨_,_,?_,a1,b1⟩;rw[yn,yo, ←List.drop_drop];exact List.take_add
theorem Qx:∀(k fuel:Nat) (t:TypeId) (s:Sh) (cs:List Value) (y:DataW H×List MemPlace),rT P k t=some s→zq enc P W 0 (fun _=>true) true fuel t cs=some y→
  ∃x:s.T,DC (FW W) s x (cs.map (MT W.heap.size))∧Tp s x
 |0,_,_,_,_,_,hs,_=>by cases hs
 |k+1,fuel,t,s,cs,y,hs,h=>by
  have ih:=Qx k;unfold rT at hs;split at hs
  case h_1 q hu=>
   cases hs;obtain⟨n,rfl,_,hw⟩:=DataW.trod_int hu h;exact⟨(n:Int),by simp[DC,MT],by simpa [Tp,Lit.wf]using hw⟩
  case h_2 hu=>
   cases hs;obtain⟨b,rfl,_⟩:=DataW.trod_bool hu h;exact⟨b,by simp[DC,MT],trivial⟩
  case h_3 hu=>
   cases hs;obtain⟨b,rfl,_,hw⟩:=DataW.trod_string hu h;exact⟨b.data.toList,by simp[DC,MT],by show b.data.toList.length≤maxLen;rw[Array.length_toList];exact hw⟩
  case h_4 e hu=>
   split at hs
   case h_2=>cases hs
   rename_i s' hs';cases hc:(zS (P.cellsOf e) s'.sz&&Nat.blt 0 s'.sz)with
   |false=>rw[hc]at hs;cases hs
   |true=>
   rw[hc]at hs;cases hs;simp only[zd]at hc;have hsz:=zA hc.1;have hpos:=Nat.le_of_ble_eq_true hc.2;rcases DataW.trod_slice hu h with⟨rfl,_⟩|⟨a,len,cap,elems,rest,n,rfl,rfl,_,_,hlc,hcm,hel,he,hr,_⟩
   ·exact⟨[],by simp[DC,MT],by simp[Tp]⟩
   ·obtain⟨hrl,hr⟩:=hr rfl;rw[hsz]at he hr;by_cases h0:cap=0
    ·obtain rfl:len=0:=by omega
     subst h0;exact⟨[],by simp[DC,MT],by simp[Tp]⟩
    ·
     have all:∀i,i<cap→∃ci z,W.cells? 0 (a.add (i*s'.sz)) s'.sz=some ci∧zq enc P W 0 (fun _=>true) true n e ci=some z:=by
      intro i hi;by_cases hl:i<len
      ·have h1:=he i hl;rw[zj (by omega)]at h1;rw[ye]at h1;obtain⟨ci,h2,h3⟩:=h1;exact⟨ci,_,h2,h3⟩
      ·have h1:=hr (i-len) (by omega);rw[show len+(i-len)=i by omega,zj (by omega)]at h1;rw[ye]at h1;obtain⟨ci,h2,h3⟩:=h1;exact⟨ci,_,h2,h3⟩
     obtain⟨c0,z0,g0,_⟩:=all 0 (by omega);rw[Nat.zero_mul,show a.add 0=a from by simp[yt]]at g0;obtain⟨c,tc,fz,hb,hsp,hoff,_⟩:=P2 g0 hpos;have hlt:a.block<W.heap.size:=(zp.1 hb).1;have hF:=cX hb (by omega);obtain⟨ab,ao,ax⟩:=a;simp only at hsp hb hoff hlt hF;subst hsp;have cell:∀i,i<cap→ao+i*s'.sz+s'.sz≤c.size∧∃x:s'.T,DC (FW W) s' x (((c.toList.map (MT W.heap.size)).drop (ao+i*s'.sz)).take s'.sz)∧Tp s' x:=by
      intro i hi;obtain⟨ci,z,h1,h2⟩:=all i hi;rw[Addr.GX]at h1;obtain⟨c',tc',fz',hb',_,ho',rfl⟩:=P2 h1 (by omega);simp only at hb' ho';rw[hb]at hb';cases hb';refine⟨ho',?_⟩;have:=ih _ _ _ _ _ hs' h2;simpa [yn,yo]using this
     obtain⟨l,hl1,hl2⟩:=WS (p:=fun i (x:s'.T)=>DC (FW W) s' x (((c.toList.map (MT W.heap.size)).drop (ao+i*s'.sz)).take s'.sz)∧Tp s' x) len fun i hi=>(cell i (by omega)).2
     refine⟨l,?_,?_⟩
     ·simp only[DC];refine⟨.sl ab ao len cap 0,?_,.inr ⟨ab,ao,cap,0,_,by rw[hl1],by omega,hF,?_,.inl rfl,fun i hi=>(hl2 i hi).1⟩⟩
      ·have:(Value.slice (some ⟨ab,ao,none⟩) len cap)=.slice (some ⟨ab,ao,none⟩) len cap:=rfl;have hne:¬(len=0∧cap=0):=fun h=>h0 h.2
       cases cap with
       |zero=>exact absurd rfl h0
       |succ cap=>simp[MT,hlt,hlc]
      ·rw[hl1];have:=(cell (cap-1) (by omega)).1;have h2:len*s'.sz≤cap*s'.sz:=Nat.mul_le_mul_right _ hlc;have h3:cap*s'.sz=(cap-1)*s'.sz+s'.sz:=by rw[←Nat.succ_mul];congr 1;omega
       simp;omega
     ·simp only[Tp];refine⟨by omega,fun x hx=>?_⟩;obtain⟨i,hi,rfl⟩:=List.mem_iff_getElem.1 hx;exact(hl2 i hi).2
  case h_5 fs hu=>
   split at hs
   case h_2=>cases hs
   rename_i s' hs';cases hc:zS (P.cellsOf t) s'.sz with
   |false=>rw[hc]at hs;cases hs
   |true=>
   rw[hc]at hs;cases hs;have hsz:=zA hc;obtain⟨xs,n,rfl,_,hlen,hxl,hf⟩:=DataW.trod_struct hu h;obtain⟨x,h1,h2⟩:=Ps (cs:=cs) (fun t s cs y h1 h2=>ih n t s cs y h1 h2) fs.toList 0 _ hs' (fun f hfm=>by
    obtain⟨i,hi⟩:=List.mem_iff_getElem?.1 hfm;have hi':fs[i]?=some f:=by simpa using hi
    have:=hf i f hi';have hlt:=(zp.1 hi').1;rw[zj (by omega)]at this;exact⟨_,this⟩)
   refine⟨x,?_,h2⟩;rw[List.drop_zero,zG (by simp;omega)]at h1;exact h1
  case h_6=>cases hs
theorem iB{k:Nat}{t:TypeId}{s:Sh}{v:Value}{d:DataW H}{p:List MemPlace}(hs:rT P k t=some s)(hp:s.O9=false)(hc:v.cells.toList=[v])(h:DataW.Trod enc P W 0 (fun _=>true) true t v d p):
  ∃x:s.T,PC (FW W) (B4 s x) (MT W.heap.size v)∧Tp s x∧Ab (pW W) (MT W.heap.size v) v:=by
 obtain⟨fuel,hf⟩:=h;rw[hc]at hf;obtain⟨x,h1,h2⟩:=Qx k fuel t s [v] (d,p) hs hf;simp only[zJ,List.map_nil]at h1;exact⟨x,(PC.B4 h1).2 hp _ rfl,h2,Qm (h1.ok _ (by simp))⟩
end
end
end Go.Pe
end
section
namespace Go.Pe
open Go.Det Go.RowKit
noncomputable section
open Go.Proofs.Tryz (prog)
theorem ZM{F':Fz}{v:V}(h:PC F' (.dat .bool true) v):v=.bool true:=by
 have:=h (fun _=>none) 0;simp only[PR,DC]at this;simpa using this
def GW(W:World):Prop:=∀x∈Ft,Oe W x.1=some x.2
theorem GW.h{W:World}(h:GW W):Gh (hW W):=fun x hx=>by rw[Oa];exact h x hx
theorem GW.p{W:World}(h:GW W):Gp (pW W):=fun x hx=>by
 have h1:=h x hx;unfold Oe at h1;split at h1
 case h_2=>cases h1
 rename_i c t fz hc;split at h1
 case isTrue=>cases h1
 have hlt:x.1<W.heap.size:=(zp.1 hc).1;have hs:nK W x.1=c.size:=by unfold nK;rw[hc]
 rw[LF hlt,hs];cases hx2:x.2 with
 |cells cs t' fz'=>rw[hx2]at h1;cases h1;simp[wW]
 |_=>rw[hx2]at h1;cases h1
theorem N6{f:FuncId}{sp:Ao}(ok:Ae AV f sp)(i:(BA sp.ins).T)(hpre:sp.pre i=true){args:List V}{args':Array Value}{W:World}(hgw:GW W)(hP:Lj (FW W) (Ah sp.ins i) args)
  (ha:Ap (pW W) args args'.toList) (hres:∀F' v,PC F' (one (Ah sp.outs (sp.f i))) v→v=.bool true) (hp:AV.prim f=none:=by kernel_rfl):
  Calls prog f args' W fun e W'=>e=.returned (.bool true)∧Below W.heap.size W W':=by
 obtain⟨l,M,h1,_,h2⟩:=(ok.zero hp).run (FW W) (hW W) args i (fun b cs h=>by
  unfold FW at h;split at h
  case h_2=>cases h
  rename_i cs' t fz hg;cases h;exact⟨t,fz,hg⟩) (fun b o h=>(xB W).lt h) hgw.h hP hpre
 refine((Ik qA X3 Qo M).fn f args (hW W) l (h1 M (zr _)) (pW W) W args' (xB W) hgw.p ha).mono ?_;rintro e w' ⟨v,h',v',p',hm,rfl,hv,hx⟩;obtain⟨_,_,_,F',_,_,_,hr⟩:=h2 _ hm;obtain rfl:=hres F' v hr;refine⟨?_,lH hx⟩;simp only[Ab]at hv;rw[hv]
end
end Go.Pe
end
