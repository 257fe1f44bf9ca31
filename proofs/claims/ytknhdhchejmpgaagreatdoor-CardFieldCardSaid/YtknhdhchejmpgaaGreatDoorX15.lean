import Derived.Test.YtknhdhchejmpgaaGreatDoorX14
import Derived.Test.YtknhdhchejmpgaaGreatDoorX12
import Derived.Test.YtknhdhchejmpgaaGreatDoorX03
import Derived.ChangeSame
import Derived.Below
import Derived.Test.YtknhdhchejmpgaaGreatDoorX09
/- A part of a proof (no law is stated here). Made by program out of texts by AI agents. -/
open Go.Pe.Ends renaming tt → zc, leaf → zd, ite → zf, As → zl, ff → zn, eq → zr
open Bool renaming and_eq_true → ze, true_and → zO
open Rat renaming divInt → zg
open Go.Lib renaming decDigits → zh, itoa → yc
open List renaming length_append → zi, length_cons → zo, getElem?_eq_none → zp, getElem?_eq_getElem → zt, length_eq_zero_iff → zw, drop_eq_nil_of_le → zx, getD_eq_getElem?_getD → zy, take_of_length_le → zC, length_singleton → zE, mem_flatMap → zH, mem_append_right → zL, all_eq_true → zM, mem_append_left → zP, getElem?_take_of_lt → zW, length_drop → zX, map_take → yg, map_drop → yh, range → yi
open Array renaming getElem?_eq_some_iff → zj, getElem?_eq_none → zD
open Go.IntKind renaming wrap → zk
open Go.DataW renaming trod → zm
open Nat renaming eq_of_beq_eq_true → zq, le_refl → zu, beq → zK, lt_of_le_of_lt → zU, zero_le → yd
open Option renaming bind_some → zz, bind_eq_some_iff → zZ
open Int renaming mul_le_mul_of_nonneg_left → zA, toNat_natCast → zF, le_of_lt → zJ, gcd → zN, natAbs_of_nonneg → zQ, mul_ne_zero → zS, natAbs_mul → zT, mul_ediv_cancel_left → zV, tdiv_eq_ediv_of_dvd → zY, mul_zero → z6, add_zero → z7, sign_eq_one_of_pos → z8, one_mul → ya, mul_nonneg → yb, add_assoc → yf, gcd_comm → yj, zero_sub → ym
open Go.Pe.Af renaming of → zB
open Go.Sp renaming rW → zG, rN → zI, B9 → zR, vR → yk
open Go.World renaming cell? → ye
open Go.Addr renaming add → yn
section
namespace Go.Sp
theorem Gc(a:List Int)(i:Nat):val B9 (a.drop i)=a.getD i 0+1000000000*val B9 (a.drop (i+1)):=by
 by_cases h:i<a.length
 ·rw[B3 h];rfl
 ·rw[zx (by omega),zx (by omega),show a.getD i 0=0 by rw[zy,zp (by omega)];rfl];rfl
structure Fi(a b:List Int)(i:Nat)(o:List Int)(c:Int):Prop where
 len:o.length=i
 d:At B9 o
 c01:0≤c∧c≤1
 v:val B9 o+(B9:Int)^i*(c+val B9 (a.drop i)+val B9 (b.drop i))=Aq a+Aq b
 top:a.length≤i→b.length≤i→i=0∨(B9:Int)^(i-1)≤val B9 o+(B9:Int)^i*c
theorem Fi.start(a b:List Int):Fi a b 0 [] 0:=⟨rfl,(fun x hx=>by cases hx),by decide,by
 show 0+(B9:Int)^0*(0+val B9 a+val B9 b)=val B9 a+val B9 b;rw[Int.pow_zero,ya];omega,fun _ _=>.inl rfl⟩
theorem Bt{a:List Int}(h:A3 a=true)(i:Nat):0≤a.getD i 0∧a.getD i 0<1000000000:=F6 (Bi h).2.1 i
theorem Qd{a:List Int}(h:A3 a=true){i:Nat}(h1:i<a.length)(h2:a.length≤i+1):1≤a.getD i 0:=by
 have:=(Go.Pe.Fv (Bi h).2.1 (Bi h).2.2 (k:=i) (by omega)).1;omega
theorem Fi.step{a b:List Int}{i:Nat}{o:List Int}{c:Int}(h:Fi a b i o c)(ha:A3 a=true)(hb:A3 b=true)(hc:i<a.length∨i<b.length∨0<c):
  Fi a b (i+1) (o++[(a.getD i 0+b.getD i 0+c) % 1000000000]) ((a.getD i 0+b.getD i 0+c)/1000000000):=by
 obtain⟨x0,x1⟩:=Bt ha i;obtain⟨y0,y1⟩:=Bt hb i;obtain⟨c0,c1⟩:=h.c01;have hv:=h.v;rw[Gc a i,Gc b i]at hv;have hs:1≤a.getD i 0+b.getD i 0+c∨¬(a.length≤i+1∧b.length≤i+1):=by
  by_cases k:a.length≤i+1∧b.length≤i+1
  ·refine .inl ?_;rcases hc with hc|hc|hc
   ·have:=Qd ha hc k.1;omega
   ·have:=Qd hb hc k.2;omega
   ·omega
  ·exact .inr k
 have ho:=Ay (b:=B9) (by decide) h.d;have hP:=AM (b:=B9) (by decide) i;generalize a.getD i 0=x at*;generalize b.getD i 0=y at*;have hval:val B9 (o++[(x+y+c) % 1000000000])=val B9 o+(B9:Int)^i*((x+y+c) % 1000000000):=by rw[B6,h.len]
 refine⟨by rw[zi,h.len];rfl,EN h.d (by omega),by omega,?_,fun k1 k2=>.inr ?_⟩
 ·rw[hval,I5,yf, ←Int.mul_add, ←hv];congr 2;omega
 ·rw[hval,I5,yf, ←Int.mul_add,Nat.add_sub_cancel];have e:(x+y+c) % 1000000000+1000000000*((x+y+c)/1000000000)=x+y+c:=by omega
  rw[e];rcases hs with hs|hs
  ·have:=zA hs (zJ hP);rw[Int.mul_one]at this;omega
  ·exact absurd ⟨k1,k2⟩ hs
theorem sR{o:List Int}(hd:At B9 o)(h:o=[]∨(B9:Int)^(o.length-1)≤val B9 o):nz o:=by
 rcases h with rfl|h
 ·unfold nz;simp
 ·intro e;have hn:o≠[]:=by rintro rfl;simp at e
  have e2:o=o.dropLast++[0]:=by
   have h1:=(List.dropLast_concat_getLast hn).symm;rw[List.getLast?_eq_some_getLast hn]at e;rw[Option.some.inj e]at h1;exact h1
  have hl:o.length=o.dropLast.length+1:=by rw[List.length_dropLast];have:=List.length_pos_iff.2 hn;omega
  have hv:val B9 o=val B9 o.dropLast:=by
   conv=>lhs;rw[e2]
   rw[B6,z6,z7]
  have hd2:At B9 o.dropLast:=fun x hx=>hd x (by rw[e2];exact zP _ hx)
  have:=Bm (b:=B9) (by decide) hd2;rw[hv,hl,Nat.add_sub_cancel]at h;omega
theorem Fi.fin{a b:List Int}{i:Nat}{o:List Int}(h:Fi a b i o 0)(h1:a.length≤i)(h2:b.length≤i):o=Lp a b:=by
 have hv:=h.v;rw[zx h1,zx h2]at hv;have hv:val B9 o+(B9:Int)^i*(0+0+0)=Aq a+Aq b:=hv;rw[show(0+0+0:Int)=0 from rfl,z6,z7]at hv;have ht:=h.top h1 h2;rw[z6,z7, ←h.len]at ht;have hn:nz o:=sR h.d (by
  rcases ht with k|k
  ·exact .inl (zw.1 k)
  ·exact .inr k)
 unfold Lp;rw[←hv];exact HJ (b:=B9) (by decide) h.d hn
structure F5(a b:List Int)(i:Nat)(o:List Int)(c:Int):Prop where
 len:o.length=i
 d:At B9 o
 c01:0≤c∧c≤1
 v:val B9 o+(B9:Int)^i*(val B9 (a.drop i)-val B9 (b.drop i)-c)=Aq a-Aq b
theorem F5.start(a b:List Int):F5 a b 0 [] 0:=⟨rfl,(fun x hx=>by cases hx),by decide,by
 show 0+(B9:Int)^0*(val B9 a-val B9 b-0)=val B9 a-val B9 b;rw[Int.pow_zero,ya];omega⟩
theorem F5.step{a b:List Int}{i:Nat}{o:List Int}{c:Int}(h:F5 a b i o c)(ha:A3 a=true)(hb:A3 b=true)(d c':Int)(hd:(a.getD i 0-b.getD i 0-c<0∧d=a.getD i 0-b.getD i 0-c+1000000000∧c'=1)∨(¬a.getD i 0-b.getD i 0-c<0∧d=a.getD i 0-b.getD i 0-c∧c'=0)):
  F5 a b (i+1) (o++[d]) c':=by
 obtain⟨x0,x1⟩:=Bt ha i;obtain⟨y0,y1⟩:=Bt hb i;obtain⟨c0,c1⟩:=h.c01;have hv:=h.v;rw[Gc a i,Gc b i]at hv;generalize a.getD i 0=x at*;generalize b.getD i 0=y at*;refine⟨by rw[zi,h.len];rfl,EN h.d (by omega),by omega,?_⟩;rw[B6,h.len,I5,yf, ←Int.mul_add, ←hv];congr 2;omega
theorem F5.fin{a b:List Int}{o:List Int}{c:Int}(h:F5 a b a.length o c)(hb:A3 b=true)(hle:Aq b≤Aq a):Ar o=FT a b:=by
 have hv:=h.v;rw[List.drop_length]at hv;have h0:=Ay (b:=B9) (by decide) (Eb (Bi hb).2.1 a.length);have hlt:=Bm (b:=B9) (by decide) h.d;rw[h.len]at hlt;obtain⟨c0,c1⟩:=h.c01;have hP:=AM (b:=B9) (by decide) a.length;have hv:val B9 o+(B9:Int)^a.length*(0-val B9 (b.drop a.length)-c)=Aq a-Aq b:=hv;generalize val B9 (b.drop a.length)=z at*;have hz:0-z-c=0:=by
  rcases Int.lt_or_le (0-z-c) 0 with k|k
  ·have:=zA (show 0-z-c≤ -1 by omega) (zJ hP);rw[Int.mul_neg,Int.mul_one]at this;omega
  ·omega
 rw[hz,z6,z7]at hv;unfold FT;rw[Fo h.d, ←hv];rfl
end Go.Sp
end
section
namespace Go.Sp
open Go.Lib
theorem Vr(n:Int):rN n=decide (n<0):=rfl
theorem LN(a:Bool×List Int):(a.1=true→vR a= -Aq a.2)∧(a.1=false→vR a=Aq a.2):=by
 unfold vR;exact⟨fun h=>by rw[if_pos h],fun h=>by rw[if_neg (by rw[h];decide)]⟩
theorem Ny{neg:Bool}{w:List Int}{n:Int}(hd:At B9 w)(h0:0≤Aq w)(h1:neg=true→n= -Aq w)(h2:neg=false→n=Aq w):(B5 neg w,Ar w)=(rN n,rW n):=by
 refine bD hd ?_ (fun hn=>?_)
 ·rw[Ai];cases neg with
  |true=>have:=h1 rfl;omega
  |false=>have:=h2 rfl;omega
 ·rw[Vr];cases neg with
  |true=>have:=h1 rfl;symm;rw[decide_eq_true_eq];omega
  |false=>have:=h2 rfl;symm;rw[decide_eq_false_iff_not];omega
theorem IC{n:Int}(h:0≤n):Aq (BM n)=n∧At B9 (BM n):=⟨CD (b:=B9) (by decide) h,EX (b:=B9) (by decide) n⟩
theorem Xn{a b:Bool×List Int}(ha:CA a=true)(hb:CA b=true)(h:a.1=b.1):(B5 a.1 (Lp a.2 b.2),Ar (Lp a.2 b.2))=(LH a b,LY a b):=by
 have a0:=(FX ha).2;have b0:=(FX hb).2;obtain⟨e1,e2⟩:=LN a;obtain⟨f1,f2⟩:=LN b;obtain⟨hv,hd⟩:=IC (n:=Aq a.2+Aq b.2) (by omega);refine Ny hd (by show 0≤Aq (BM _);omega) (fun k=>?_) (fun k=>?_)
 ·rw[e1 k,f1 (by rw[←h];exact k)];show _= -Aq (BM _);omega
 ·rw[e2 k,f2 (by rw[←h];exact k)];show _=Aq (BM _);omega
theorem Wa{a b:Bool×List Int}(hb:CA b=true)(h:a.1≠b.1)(hl:Aq b.2≤Aq a.2):(B5 a.1 (FT a.2 b.2),Ar (FT a.2 b.2))=(LH a b,LY a b):=by
 have b0:=(FX hb).2;obtain⟨e1,e2⟩:=LN a;obtain⟨f1,f2⟩:=LN b;obtain⟨hv,hd⟩:=IC (n:=Aq a.2-Aq b.2) (by omega);refine Ny hd (by show 0≤Aq (BM _);omega) (fun k=>?_) (fun k=>?_)
 ·rw[e1 k,f2 (by rw[k]at h;cases hb:b.1 with|true=>exact absurd hb.symm h|false=>rfl)];show _= -Aq (BM _);omega
 ·rw[e2 k,f1 (by rw[k]at h;cases hb:b.1 with|true=>rfl|false=>exact absurd hb.symm h)];show _=Aq (BM _);omega
theorem iW{a b:Bool×List Int}(ha:CA a=true)(h:a.1≠b.1)(hl:Aq a.2≤Aq b.2):(B5 b.1 (FT b.2 a.2),Ar (FT b.2 a.2))=(LH a b,LY a b):=by
 have:=Wa ha (fun k=>h k.symm) hl;rw[this];unfold LH LY;rw[Int.add_comm]
theorem bX{a b:Bool×List Int}(ha:CA a=true)(hb:CA b=true):(B5 (a.1 !=b.1) (BM (Aq a.2*Aq b.2)),Ar (BM (Aq a.2*Aq b.2)))=(GV a b,G2 a b):=by
 have a0:=(FX ha).2;have b0:=(FX hb).2;obtain⟨e1,e2⟩:=LN a;obtain⟨f1,f2⟩:=LN b;have p0:=yb a0 b0;obtain⟨hv,hd⟩:=IC p0;refine Ny hd (by omega) (fun k=>?_) (fun k=>?_)
 ·rw[hv];cases h1:a.1<;>cases h2:b.1<;>rw[h1,h2]at k
  ·exact absurd k (by decide)
  ·rw[e2 h1,f1 h2,Int.mul_neg]
  ·rw[e1 h1,f2 h2,Int.neg_mul]
  ·exact absurd k (by decide)
 ·rw[hv];cases h1:a.1<;>cases h2:b.1<;>rw[h1,h2]at k
  ·rw[e2 h1,f2 h2]
  ·exact absurd k (by decide)
  ·exact absurd k (by decide)
  ·rw[e1 h1,f1 h2,Int.neg_mul,Int.mul_neg,Int.neg_neg]
theorem Y0{a:Bool×List Int}(ha:CA a=true):(B5 (!a.1) a.2,Ar a.2)=(QE a,QQ a):=by
 have a0:=(FX ha).2;obtain⟨e1,e2⟩:=LN a;refine Ny (Bi (Db ha).1).2.1 a0 (fun k=>?_) (fun k=>?_)
 ·rw[e2 (by simpa using k)]
 ·rw[e1 (by simpa using k),Int.neg_neg]
theorem kH{w:List Int}{i:Nat}(hl:w.length=i+1):val B9 (w.drop i)=w.getD i 0:=by
 rw[Gc,zx (by omega)];show _+1000000000*0=_;omega
theorem VD{w:List Int}(hw:A3 w=true){i:Nat}(hl:w.length=i+1):Hn (w.getD i 0) 1=decDigits (val B9 (w.drop i)).toNat∧0<val B9 (w.drop i):=by
 have g:=Bt hw i;have t:=Qd hw (i:=i) (by omega) (by omega);rw[kH hl];exact⟨MX g.1 (by omega),by omega⟩
theorem Yk{w:List Int}(hw:A3 w=true)(i:Nat)(h0:0<val B9 (w.drop (i+1))):decDigits (val B9 (w.drop (i+1))).toNat++Hn (w.getD i 0) 9=decDigits (val B9 (w.drop i)).toNat∧0<val B9 (w.drop i):=by
 have g:=Bt hw i;rw[Gc w i,X3 g.1 g.2];generalize val B9 (w.drop (i+1))=V at*;generalize w.getD i 0=x at*;have h:=Rq 9 V.toNat x.toNat (by decide) (by omega) (by omega);refine⟨?_,by omega⟩;rw[←h];congr 1;omega
theorem cA{a:Bool×List Int}(ha:CA a=true)(hne:a.2≠[]):(if a.1=true then 45::decDigits (Aq a.2).toNat else decDigits (Aq a.2).toNat)=I1 a:=by
 obtain⟨e1,e2⟩:=LN a;have h0:0<Aq a.2:=Iz (b:=B9) (by decide) (Bi (Db ha).1).2.1 (Bi (Db ha).1).2.2 hne;unfold I1 AT itoa;by_cases h:a.1=true
 ·rw[if_pos h,e1 h,if_pos (by omega),show(-Aq a.2).natAbs=(Aq a.2).toNat by omega]
 ·have h:a.1=false:=by simpa using h
  rw[if_neg (by rw[h];decide),e2 h,if_neg (by omega)]
theorem Y2{a:Bool×List Int}(h:a.2=[]):[48]=I1 a:=by
 have:vR a=0:=by
  unfold vR;rw[h];split<;>rfl
 unfold I1 AT itoa;rw[this,if_neg (by decide),show(0:Int).toNat=0 from rfl,decDigits_one (by decide)];rfl
theorem GG{N D:Int}(hD:0<D):0<gI (Ag N) D∧Ag N/gI (Ag N) D=Ag (zg N D).num∧D/gI (Ag N) D=((zg N D).den:Int)∧(N<0↔(zg N D).num<0):=by
 have hs:D.sign=1:=z8 hD;have e1:(zg N D).num=N/(zN N D:Int):=by rw[Rat.num_divInt,hs,ya,yj]
 have e2:((zg N D).den:Int)=D/(zN N D:Int):=by
  rw[Rat.den_divInt,if_neg (Int.ne_of_gt hD),yj,Int.natCast_ediv];rw[zQ (zJ hD)]
 have eg:gI (Ag N) D=(zN N D:Int):=by rw[Fc,Ai];rfl
 have hg:0<zN N D:=Int.gcd_pos_of_ne_zero_right _ (by omega);obtain⟨k,hk⟩:(zN N D:Int)∣N:=Int.gcd_dvd_left ..;rw[eg,e1,e2];have hg:(0:Int)<(zN N D:Int):=by omega
 generalize (zN N D:Int)=g at*;have h1:N/g=k:=by rw[hk,zV _ (by omega)]
 have h2:Ag N/g=Ag k:=by
  rw[Ai,Ai,hk,zT,Int.natCast_mul,show((g.natAbs:Nat):Int)=g by omega,zV _ (by omega)]
 refine⟨hg,by rw[h1,h2],rfl,?_⟩;rw[h1];constructor
 ·intro h;rcases Int.lt_or_le k 0 with x|x
  ·exact x
  ·have:=yb (zJ hg) x;omega
 ·intro h;have:=Int.mul_neg_of_pos_of_neg hg h;omega
theorem eX{N D:Int}(hD:0<D){neg:Bool}(hn:neg=rN N):(B5 neg (BM (Ag N/gI (Ag N) D)),Ar (BM (Ag N/gI (Ag N) D)))=(rN (zg N D).num,rW (zg N D).num):=by
 obtain⟨_,h1,_,h3⟩:=GG (N:=N) hD;rw[h1];have a0:=Mw (zg N D).num;obtain⟨hv,hd⟩:=IC a0;refine bD hd hv (fun _=>?_);rw[hn,Vr,Vr,decide_eq_decide];exact h3
theorem lW{n:Int}(h0:0≤n):BM n=[1]↔n=1:=by
 constructor
 ·intro h;have:=(IC h0).1;rw[h]at this;exact this.symm
 ·rintro rfl;rfl
theorem P5{N D:Int}:CQ N D=if (zg N D).den=1 then AT (zg N D).num else AT (zg N D).num++47::AT ((zg N D).den:Int):=by
 unfold CQ AX;split
 ·rfl
 ·rw[show AT ((zg N D).den:Int)=decDigits (zg N D).den from Lib.itoa_nonneg _];rfl
theorem TH(N D:Int):CQ (-N) (-D)=CQ N D:=by
 unfold CQ;rw[Rat.neg_divInt_neg]
theorem NC{s:List UInt8}(h:BJ s=true):A5 s=H8 s∧AF s=QA s∧Ak (Aw (AU s))=true∧Ak (AL (AU s))=true:=by
 obtain⟨t,_⟩:=Iy h;obtain⟨c1,c2,c3⟩:=E9 (A2 s);obtain⟨p1,p2,p3,p4⟩:=Ri s;obtain⟨i1,i2,i3,i4⟩:=C2 (A2 s).num;rw[t]at c1 c2 c3;have hB:Ak (AL s)=true:=by
  rw[c2];split
  ·rfl
  ·exact Dr _
 refine⟨?_,?_,?_,?_⟩
 ·unfold A5 H8 Ca;rw[p1, ←p4];unfold AU preB;by_cases hc:(Aw s).getD 0 0=45
  ·rw[if_pos hc,if_pos hc,if_pos (decide_eq_true hc)]
  ·rw[if_neg hc,if_neg hc,if_neg (by rw[decide_eq_false hc];decide)]
 ·unfold AF QA Ca;rw[p2,p3,if_neg (EZ hB)]
 ·rw[p1,c1,i2];exact Dr _
 ·rw[p2];exact hB
theorem FM{s:List UInt8}(h:BJ s=true)(hq:DE s=true):aD s=A5 s∧Tm s=AF s∧ -1000000000<A5 s∧A5 s<1000000000∧0<AF s∧AF s<1000000000:=by
 obtain⟨h1,h2,h3,h4⟩:=NC h;have hd:0<AF s:=by
  have:=(D3 h).2.2.2.2.2.1;have:=(A2 s).den_pos;omega
 unfold aD Tm;rw[if_pos hq,if_pos hq];unfold DE at hq;rw[ze,ze,decide_eq_true_eq,decide_eq_true_eq,decide_eq_true_eq]at hq;obtain⟨⟨_,l1⟩,l2⟩:=hq;have b1:=Bb h3;have b2:=Bb h4;have m1:(10:Int)^(Aw (AU s)).length≤10^9:=AJ (by decide) l1;have m2:(10:Int)^(AL (AU s)).length≤10^9:=AJ (by decide) l2;refine⟨h1.symm,h2.symm,?_,?_,hd,?_⟩
 ·rw[h1];unfold H8;split<;>omega
 ·rw[h1];unfold H8;split<;>omega
 ·rw[h2];unfold QA;split<;>omega
theorem XP{a b:List UInt8}(ha:BJ a=true)(hb:BJ b=true):Lo a b=CQ (A5 a*AF b+AF a*A5 b) (AF a*AF b)∧Lo a b=CQ (A5 a*AF b+A5 b*AF a) (AF a*AF b):=by
 have d1:AF a≠0:=by
  have:=(D3 ha).2.2.2.2.2.1;have:=(A2 a).den_pos;omega
 have d2:AF b≠0:=by
  have:=(D3 hb).2.2.2.2.2.1;have:=(A2 b).den_pos;omega
 have e:Lo a b=CQ (A5 a*AF b+A5 b*AF a) (AF a*AF b):=by
  unfold Lo CQ A2;rw[Rat.divInt_add_divInt _ _ d1 d2]
 exact⟨by rw[e,Int.mul_comm (AF a) (A5 b)],e⟩
theorem X1{a b:List UInt8}:NJ a b=CQ (A5 a*A5 b) (AF a*AF b):=by
 unfold NJ CQ A2;rw[Rat.divInt_mul_divInt]
theorem XO{a:List UInt8}:Pf a=CQ (AF a) (A5 a):=by
 unfold Pf CQ A2;rw[Rat.inv_divInt]
end Go.Sp
end
section
namespace Go.Sp
theorem Tc:∀(f n l:Nat) (acc:List UInt8),(G3 f n l acc).length≤acc.length+f
 |0,_,_,acc=>zu _
 |f+1,n,l,acc=>by
  unfold G3;split
  ·omega
  ·have:=Tc f (n/10) l (UInt8.ofNat (48+n % 10)::acc);rw[zo]at this;omega
theorem Nq(n l:Int):(Hn n l).length≤64:=by
 have:=Tc 64 n.toNat l.toNat [];rw[List.length_nil,Nat.zero_add]at this;exact this
theorem Si{v:Int}{k:Nat}(h:v<(B9:Int)^k)(hk:1≤k):(zh v.toNat).length≤9*k:=by
 rw[U9]at h;have h4:((10^(9*k):Nat):Int)=(10:Int)^(9*k):=Int.natCast_pow ..;rw[←h4]at h;refine DB (k:=9*k) ?_ (by omega);have hp:0<10^(9*k):=Nat.pow_pos (by decide);generalize 10^(9*k)=P at*;omega
end Go.Sp
namespace Go.Pe
open Sp
open Go.Det
theorem pU{s:Sh}(hs:s.sz=1){id n:Nat}{tail:Ob}{fz:Bool}{t:TypeId}{o:List s.T}(hn:n=o.length):Ks ⟨0,.leaf,(id,.arr fz t s o)::tail,0⟩ (.list s) (.sl id 1 0 n none)=some (true,o):=by
 subst hn;have h1:AN ((id,Obj.arr fz t s o)::tail) id=some (.arr fz t s o):=by unfold AN;rw[Nat.beq_refl];rfl
 unfold Ks;have h2:E5 ⟨0,.leaf,(id,.arr fz t s o)::tail,0⟩ (PV.cells (.sl id 1 0 o.length none))=some (true,[.dat (.list s) o]):=by
  show(match CR ⟨0,.leaf,(id,.arr fz t s o)::tail,0⟩ (.sl id 1 0 o.length none),some (true,[])with|some (c,x),some (d,xs)=>some (c&&d,x::xs)|_,_=>none)=_;have:CR ⟨0,.leaf,(id,.arr fz t s o)::tail,0⟩ (.sl id 1 0 o.length none)=some (true,.dat (.list s) o):=by
   unfold CR AH.obj;simp only[h1,hs,Nat.beq_refl,cond_true];simp
  rw[this];rfl
 simp only[Lt,Sh.O6];show(match E5 ⟨0,.leaf,(id,.arr fz t s o)::tail,0⟩ (PV.cells (.sl id 1 0 o.length none))with|some (c,cs)=>_|none=>none)=_;rw[h2];have:Dt (.list s) [PV.dat (.list s) o]=some o:=by
  unfold Dt Ct mB DS;simp
 simp only[T5,this,zO]
theorem gP{s:Sh}(hs:s.sz=1){id n:Nat}{tail:Ob}{fz:Bool}{t:TypeId}{o:List s.T}(hn:n=o.length):WI [.list s] (.sl id 1 0 n none) ((id,.arr fz t s o)::tail)=some (true,o):=pU hs hn
theorem G9(a:List Int)(i:Nat):Hd a (i:Int)=a.getD i 0:=by unfold Hd;rw[zF]
theorem jC:∀g sp,vT.sp g=some sp→Ae AS g sp:=fun g sp h=>by cases h
theorem T229.ok:Ae AS 229 Va:=by
 refine Ax (X:=vT) rfl jC (d:=9) (by kernel_rfl) (by kernel_rfl) (by kernel_rfl) (fun(i:List Int×Int) hi=>?_) (Ad (by kernel_rfl));obtain⟨a,i⟩:=i;have h0:0≤i:=of_decide_eq_true hi;have hq:∀v ob,v=Hd a i→Af Va (a,i) (.dat i64 v) ob:=fun v ob h=>zB rfl rfl h
 refine zr (T229.An a i) (zf (fun c=>zc (Ac (decide_eq_true h0) c) (zd (hq _ _ rfl))) (fun c=>zd (hq _ _ ?_)));have c:=of_decide_eq_false c;unfold Hd;rw[zy,zp (by omega)];rfl
theorem VP:∀g sp,RZ.sp g=some sp→Ae AS g sp:=Aa T229.ok (Aa T227.ok (fun g sp h=>by cases h))
theorem Pv{x y c:Int}(hx:0≤x∧x<1000000000)(hy:0≤y∧y<1000000000)(hc:0≤c∧c≤1):
  zk .i64 (zk .i64 (x+y)+c)=x+y+c∧Int.tmod (x+y+c) 1000000000=(x+y+c) % 1000000000∧zk .i64 (Int.tdiv (x+y+c) 1000000000)=(x+y+c)/1000000000:=by
 refine⟨?_,Int.tmod_eq_emod_of_nonneg (by omega),?_⟩
 ·rw[wr (x+y) (by omega) (by omega)];exact wr _ (by omega) (by omega)
 ·rw[Int.tdiv_eq_ediv_of_nonneg (by omega)];exact wr _ (by omega) (by omega)
theorem eL{a b:List Int}(h:fH a b=true):A3 a=true∧A3 b=true∧a.length≤9000∧b.length≤9000:=by
 unfold fH at h;rw[ze,ze,ze,decide_eq_true_eq,decide_eq_true_eq]at h;exact⟨h.1.1.1,h.1.1.2,h.1.2,h.2⟩
theorem Z2{a b:List Int}(h1:A3 a=true)(h2:A3 b=true)(h3:a.length≤9000)(h4:b.length≤9000):fH a b=true:=by
 unfold fH;rw[h1,h2,decide_eq_true h3,decide_eq_true h4];rfl
namespace T169
variable {Q:PV→Ob→Prop}
theorem done(a b o:List Int)(i:Nat)(ha:a.length≤i)(hb:b.length≤i)(hq:Q (.sl 0 1 0 o.length none) [(0,.arr false 3 (.int .i64) o)]):Ends RZ (L2 a b o.length 0 i o) Q:=
 zl (A4 ..) (zn (decide_eq_false (by omega)) (zn (decide_eq_false (by omega)) (zn (by decide) (zd hq))))
set_option maxRecDepth 10000 in
theorem AZ(a b:List Int)(ha:A3 a=true)(hb:A3 b=true)(la:a.length≤9000)(lb:b.length≤9000)(hq:Q (.sl 0 1 0 (Lp a b).length none) [(0,.arr false 3 (.int .i64) (Lp a b))]):∀(k i:Nat) (o:List Int) (c:Int),i+k=max a.length b.length→Fi a b i o c→Ends RZ (L2 a b o.length c i o) Q:=by
 have stop:∀(i:Nat) (o:List Int),a.length≤i→b.length≤i→Fi a b i o 0→Ends RZ (L2 a b o.length 0 i o) Q:=fun i o h1 h2 h=>by
  have:=h.fin h1 h2;exact done a b o i h1 h2 (by rw[this];exact hq)
 have next:∀(i:Nat) (o:List Int) (c:Int),i≤9000→Fi a b i o c→(i<a.length∨i<b.length∨0<c→Ends RZ (L2 a b (o++[(a.getD i 0+b.getD i 0+c) % 1000000000]).length ((a.getD i 0+b.getD i 0+c)/1000000000) ((i+1:Nat):Int) (o++[(a.getD i 0+b.getD i 0+c) % 1000000000])) Q)→Ends RZ (L2 a b o.length c i o) Q:=fun i o c hi h go=>by
  obtain⟨s1,s2,s3⟩:=Pv (Bt ha i) (Bt hb i) h.c01;have e1:zk .i64 ((i:Int)+1)=((i+1:Nat):Int):=by rw[wr _ (by omega) (by omega)];omega
  have hl:=h.len;have cap:(decide ((1:Nat)≤(1:Nat))&&true&&decide (o.length=o.length)&&decide ((2*(o.length+1)+1000)*8≤281474976710656))=true:=by
   rw[decide_eq_true (zu 1),decide_eq_true (p:=o.length=o.length) rfl,Bool.and_true,zO];exact decide_eq_true (by omega)
  have h0:decide ((0:Int)≤(i:Int))=true:=decide_eq_true (by omega);rw[zi]at go;by_cases c1:(i:Int)<(a.length:Int)
  ·refine zl (A4 ..) ?_;conv=>zeta
   rw[G9,G9,s1,s2,s3,e1];exact zc (decide_eq_true c1) (zc h0 (zc h0 (zc rfl (zc cap (zc rfl (go (.inl (by omega))))))))
  ·by_cases c2:(i:Int)<(b.length:Int)
   ·refine zl (A4 ..) ?_;conv=>zeta
    rw[G9,G9,s1,s2,s3,e1];exact zn (decide_eq_false c1) (zc (decide_eq_true c2) (zc h0 (zc h0 (zc rfl (zc cap (zc rfl (go (.inr (.inl (by omega))))))))))
   ·by_cases c3:c>0
    ·refine zl (A4 ..) ?_;conv=>zeta
     rw[G9,G9,s1,s2,s3,e1];exact zn (decide_eq_false c1) (zn (decide_eq_false c2) (zc (decide_eq_true c3) (zc h0 (zc h0 (zc rfl (zc cap (zc rfl (go (.inr (.inr c3))))))))))
    ·obtain rfl:c=0:=by have:=h.c01;omega
     exact stop i o (by omega) (by omega) h
 intro k;induction k with
 |zero=>
  intro i o c hi h;refine next i o c (by omega) h (fun hc=>?_);have h2:=h.step ha hb hc;have z1:a.getD i 0=0:=by rw[zy,zp (by omega)];rfl
  have z2:b.getD i 0=0:=by rw[zy,zp (by omega)];rfl
  have hc0:=h.c01;have z3:(a.getD i 0+b.getD i 0+c)/1000000000=0:=by rw[z1,z2];omega
  rw[z3]at h2 ⊢;exact stop (i+1) _ (by omega) (by omega) h2
 |succ k ih=>
  intro i o c hi h;exact next i o c (by omega) h (fun hc=>ih (i+1) _ _ (by omega) (h.step ha hb hc))
set_option maxRecDepth 10000 in
theorem ok:Ae AS 169 UR:=by
 refine Ax (X:=RZ) rfl VP (d:=9) (by kernel_rfl) (by kernel_rfl) (by kernel_rfl) (fun(i:List Int×List Int) hi=>?_) (Ad (by kernel_rfl));obtain⟨a,b⟩:=i;obtain⟨ha,hb,la,lb⟩:=eL hi;obtain⟨s1,s2,s3⟩:=Pv (Bt ha 0) (Bt hb 0) (c:=0) (by decide);have h0:=Fi.start a b;have e0:(0:Int)=((0:Nat):Int):=rfl;have go:(0<a.length∨0<b.length)→Ends RZ (L2 a b 1 ((a.getD 0 0+b.getD 0 0+0)/1000000000) ((1:Nat):Int) [(a.getD 0 0+b.getD 0 0+0) % 1000000000]) (Af UR (a,b)):=fun hc=>
  AZ a b ha hb la lb (zB (gP rfl rfl) rfl rfl) (max a.length b.length-1) 1 _ _ (by omega) (h0.step ha hb (by rcases hc with h|h<;>omega))
 refine zr (An a b) (zl (Au ..) ?_);have d1:Hd a 0=a.getD 0 0:=rfl;have d2:Hd b 0=b.getD 0 0:=rfl;have e1:zk .i64 ((0:Int)+1)=((1:Nat):Int):=rfl;rw[d1,d2,s1,s2,s3,e1];refine zf (fun c=>?_) (fun c1=>zf (fun c=>?_) (fun c2=>zn rfl (zd (zB (y:=[]) rfl rfl ?_))))
 ·exact zc rfl (zc rfl (zc rfl (zc rfl (zc rfl (go (.inl (by have:=of_decide_eq_true c;omega)))))))
 ·exact zc rfl (zc rfl (zc rfl (zc rfl (zc rfl (go (.inr (by have:=of_decide_eq_true c;omega)))))))
 ·have c1:=of_decide_eq_false c1;have c2:=of_decide_eq_false c2;exact h0.fin (by omega) (by omega)
end T169
namespace T171
variable {Q:PV→Ob→Prop}
theorem Gg{x y c:Int}(hx:0≤x∧x<1000000000)(hy:0≤y∧y<1000000000)(hc:0≤c∧c≤1):
  zk .i64 (zk .i64 (x-y)-c)=x-y-c∧zk .i64 (x-y-c+1000000000)=x-y-c+1000000000:=by
 refine⟨?_,wr _ (by omega) (by omega)⟩;rw[wr (x-y) (by omega) (by omega)];exact wr _ (by omega) (by omega)
set_option maxRecDepth 10000 in
theorem AZ(a b:List Int)(ha:A3 a=true)(hb:A3 b=true)(la:a.length≤9000)(hle:Aq b≤Aq a)(hq:∀ob,Q (.dat li (FT a b)) ob):∀(k i:Nat) (o:List Int) (c:Int),i+k=a.length→F5 a b i o c→Ends RZ (L2 a b o.length c i o) Q
 |0,i,o,c,hi,h=>by
  have hi:i=a.length:=by omega
  subst hi;have hl:=h.len;refine zl (A4 ..) (zn (decide_eq_false (by omega)) ?_);rw[zC (zu _)];refine zc (Ac (Ac (decide_eq_true (by omega)) rfl) (decide_eq_true (by omega))) (zd ?_);rw[h.fin hb hle];exact hq _
 |k+1,i,o,c,hi,h=>by
  obtain⟨s1,s2⟩:=Gg (Bt ha i) (Bt hb i) h.c01;have e1:zk .i64 ((i:Int)+1)=((i+1:Nat):Int):=by rw[wr _ (by omega) (by omega)];omega
  have hl:=h.len;have cap:(decide ((1:Nat)≤(1:Nat))&&true&&decide (o.length=o.length)&&decide ((2*(o.length+1)+1000)*8≤281474976710656))=true:=by
   rw[decide_eq_true (zu 1),decide_eq_true (p:=o.length=o.length) rfl,Bool.and_true,zO];exact decide_eq_true (by omega)
  refine zl (A4 ..) ?_;conv=>zeta
  rw[G9,zF,s1,s2,e1];refine zc (decide_eq_true (by omega)) (zc (Ac (decide_eq_true (by omega)) (decide_eq_true (by omega))) (zc (decide_eq_true (by omega)) (zf (fun d=>zc cap ?_) (fun d=>zc cap ?_))))
  ·have:=AZ a b ha hb la hle hq k (i+1) _ _ (by omega) (h.step ha hb _ 1 (.inl ⟨of_decide_eq_true d,rfl,rfl⟩));rw[zi]at this;exact this
  ·have:=AZ a b ha hb la hle hq k (i+1) _ _ (by omega) (h.step ha hb _ 0 (.inr ⟨of_decide_eq_false d,rfl,rfl⟩));rw[zi]at this;exact this
set_option maxRecDepth 10000 in
theorem ok:Ae AS 171 Vw:=by
 refine Ax (X:=RZ) rfl VP (d:=9) (by kernel_rfl) (by kernel_rfl) (by kernel_rfl) (fun(i:List Int×List Int) hi=>?_) (Ad (by kernel_rfl));obtain⟨a,b⟩:=i;have hi:(fH a b&&decide (Aq b≤Aq a))=true:=hi;rw[ze,decide_eq_true_eq]at hi;obtain⟨hi,hle⟩:=hi;obtain⟨ha,hb,la,lb⟩:=eL hi;have h0:=F5.start a b;have hq:∀ob,Af Vw (a,b) (.dat li (FT a b)) ob:=fun ob=>zB rfl rfl rfl
 refine zr (An a b) (zl (Au ..) ?_);obtain⟨s1,s2⟩:=Gg (Bt ha 0) (Bt hb 0) (c:=0) (by decide);have d2:Hd b 0=b.getD 0 0:=rfl;have e1:zk .i64 ((0:Int)+1)=((1:Nat):Int):=rfl;rw[d2,show Int.toNat 0=0 from rfl,s1,s2,e1];refine zf (fun c=>?_) (fun c=>?_)
 ·have c1:=of_decide_eq_true c;refine zc (Ac rfl c) (zc rfl (zf (fun d=>zc rfl ?_) (fun d=>zc rfl ?_)))
  ·exact AZ a b ha hb la hle hq (a.length-1) 1 _ _ (by omega) (h0.step ha hb _ 1 (.inl ⟨of_decide_eq_true d,rfl,rfl⟩))
  ·exact AZ a b ha hb la hle hq (a.length-1) 1 _ _ (by omega) (h0.step ha hb _ 0 (.inr ⟨of_decide_eq_false d,rfl,rfl⟩))
 ·have c:=of_decide_eq_false c;have hz:a=[]:=zw.1 (by omega);subst hz;refine zc rfl (zd ?_);rw[F5.fin h0 hb hle];exact hq _
end T171
theorem RH:∀g sp,nO.sp g=some sp→Ae AS g sp:=Aa T168.ok (Aa T169.ok (Aa T170.ok (Aa T171.ok (Aa T172.ok (Aa T164.ok (fun g sp h=>by cases h))))))
theorem Kv{n:Int}{k:Nat}(h0:0≤n)(h:n<(zR:Int)^k):(BM n).length≤k:=ME h0 h
theorem Kr{a:Bool×List Int}(h:CA a=true):0≤Aq a.2∧Aq a.2<(zR:Int)^3000:=by
 obtain⟨h1,h2,_⟩:=Db h;refine⟨(FX h).2,Int.lt_of_lt_of_le (Bm (b:=zR) (by decide) (Bi h1).2.1) (AJ (by decide) h2)⟩
theorem U1{x y:Int}{k:Nat}(h1:x<(zR:Int)^k)(h2:y<(zR:Int)^k):x+y<(zR:Int)^(k+1):=by
 have:(zR:Int)^(k+1)=(zR:Int)^k*1000000000:=Int.pow_succ ..;have hp:=AM (b:=(zR:Int)) (by decide) k;rw[this];omega
theorem T97.ok:Ae AS 97 aQ:=by
 refine Ax (X:=nO) rfl RH (d:=9) (by kernel_rfl) (by kernel_rfl) (by kernel_rfl) (fun(i:(Bool×List Int)×(Bool×List Int)) hi=>?_) (Ad (by kernel_rfl));obtain⟨a,b⟩:=i;have hi:(CA a&&CA b)=true:=hi;rw[ze]at hi;obtain⟨ha,hb⟩:=hi;obtain⟨a1,a2,_⟩:=Db ha;obtain⟨b1,b2,_⟩:=Db hb;obtain⟨va,wa⟩:=Kr ha;obtain⟨vb,wb⟩:=Kr hb;have pl:=Z2 a1 b1 (by omega) (by omega);have pl2:=Z2 b1 a1 (by omega) (by omega);refine zr (T97.An a b) (zf (fun c=>?_) (fun c=>zc (Ac a1 b1) (zf (fun d=>?_) (fun d=>?_))))
 ·have hl:(Lp a.2 b.2).length≤3001:=Kv (by omega) (U1 wa wb);exact zc pl (zc (decide_eq_true (by omega)) (zd (zB rfl rfl (Xn ha hb (by simpa using c)))))
 ·have hle:Aq b.2≤Aq a.2:=by
   have d:=of_decide_eq_true d;unfold BW at d;split at d
   ·omega
   ·omega
  have hl:(FT a.2 b.2).length≤3000:=Kv (by omega) (by omega);exact zc (Ac pl (decide_eq_true hle)) (zc (decide_eq_true (by omega)) (zd (zB rfl rfl (Wa hb (by simpa using c) hle))))
 ·have hle:Aq a.2≤Aq b.2:=by
   have d:=of_decide_eq_false d;unfold BW at d;split at d
   ·omega
   ·split at d<;>omega
  have hl:(FT b.2 a.2).length≤3000:=Kv (by omega) (by omega);exact zc (Ac pl2 (decide_eq_true hle)) (zc (decide_eq_true (by omega)) (zd (zB rfl rfl (iW ha (by simpa using c) hle))))
theorem T98.ok:Ae AS 98 V4:=by
 refine Ax (X:=nO) rfl RH (d:=9) (by kernel_rfl) (by kernel_rfl) (by kernel_rfl) (fun(i:(Bool×List Int)×(Bool×List Int)) hi=>?_) (Ad (by kernel_rfl));obtain⟨a,b⟩:=i;have hi:(CA a&&CA b)=true:=hi;rw[ze]at hi;obtain⟨ha,hb⟩:=hi;obtain⟨a1,a2,_⟩:=Db ha;obtain⟨b1,b2,_⟩:=Db hb;obtain⟨va,wa⟩:=Kr ha;obtain⟨vb,wb⟩:=Kr hb;have hm:Aq a.2*Aq b.2<(zR:Int)^(3000+3000):=by
  rw[Int.pow_add];have hp:(0:Int)<(zR:Int)^3000:=AM (by decide) 3000;exact Int.lt_of_le_of_lt (zA (zJ wb) va) (Int.mul_lt_mul_of_pos_right wa hp)
 have hl:=Kv (yb va vb) hm;exact zr (T98.An a b) (zc (Ac (Qa (by omega) (Bi a1).2.1) (Qa (by omega) (Bi b1).2.1)) (zc (decide_eq_true (by omega)) (zd (zB rfl rfl (bX ha hb)))))
theorem T166.ok:Ae AS 166 Wx:=by
 refine Ax (X:=nO) rfl RH (d:=9) (by kernel_rfl) (by kernel_rfl) (by kernel_rfl) (fun(a:Bool×List Int) ha=>?_) (Ad (by kernel_rfl));have ha:CA a=true:=ha;have:=(Db ha).2.1;exact zr (T166.An a) (zc (decide_eq_true (by omega)) (zd (zB rfl rfl (Y0 ha))))
theorem jE:∀g sp,sU.sp g=some sp→Ae AS g sp:=Aa T109.ok (fun g sp h=>by cases h)
namespace T167
variable {Q:PV→Ob→Prop}
theorem Am(neg:Bool)(w:List Int)(hw:A3 w=true)(hwl:w.length≤3000)(hq:∀ob,Q (.dat .str (if neg=true then 45::zh (Aq w).toNat else zh (Aq w).toNat)) ob):∀(i:Nat),i≤w.length→0<Sp.val zR (w.drop i)→Ends sU (L1 (zh (Sp.val zR (w.drop i)).toNat) ((i:Int)-1) neg w) Q:=by
 have hlen:∀i,(zh (Sp.val zR (w.drop i)).toNat).length≤27000:=fun i=>by
  have h1:=Bm (b:=zR) (by decide) (Eb (Bi hw).2.1 i);have h2:(zR:Int)^(w.drop i).length≤(zR:Int)^3000:=AJ (by decide) (by rw[zX];omega);exact Si (k:=3000) (Int.lt_of_lt_of_le h1 h2) (by decide)
 intro i;induction i with
 |zero=>
  intro _ _;have hl:=hlen 0;rw[List.drop_zero]at hl ⊢;have hl:(zh (Aq w).toNat).length≤27000:=hl;refine zl (Au ..) (zn (by decide) (zf (fun c=>zc (decide_eq_true (by show 1+(zh (Aq w).toNat).length≤_;omega)) (zd ?_)) (fun c=>zd ?_)))
  ·rw[if_pos c]at hq;exact hq _
  ·rw[if_neg (by rw[c];decide)]at hq;exact hq _
 |succ i ih=>
  intro hi h0;have g:=Bt hw i;have e1:(((i+1:Nat):Int)-1)=(i:Int):=by omega
  have hl:=hlen (i+1);have h9:(Hn (w.getD i 0) 9).length≤64:=by
   have:=Nq (w.getD i 0) 9;exact this
  obtain⟨s1,s2⟩:=Yk hw i h0;rw[e1];refine zl (Au ..) ?_;conv=>zeta
  rw[zF,s1,wr ((i:Int)-1) (by omega) (by omega)];exact zc (decide_eq_true (by omega)) (zc (Ac (decide_eq_true (by omega)) (decide_eq_true (by omega))) (zc (Ac (Ac (Ac (decide_eq_true g.1) (decide_eq_true (by omega))) rfl) rfl) (zc (decide_eq_true (by omega)) (ih (by omega) s2))))
theorem ok:Ae AS 167 cB:=by
 refine Ax (X:=sU) rfl jE (d:=9) (by kernel_rfl) (by kernel_rfl) (by kernel_rfl) (fun(a:Bool×List Int) ha=>?_) (Ad (by kernel_rfl));have ha:CA a=true:=ha;obtain⟨a1,a2,_⟩:=Db ha;refine zr (An a) (zf (fun c=>zd (zB rfl rfl (Y2 ?_))) (fun c=>?_))
 ·exact zw.1 (by have:(a.2.length:Int)=0:=(by simpa using c);omega)
 ·have c:(a.2.length:Int)≠0:=by simpa using c
  obtain⟨i,hi⟩:∃i,a.2.length=i+1:=⟨a.2.length-1,by omega⟩;have g:=Bt a1 i;obtain⟨s1,s2⟩:=VD a1 hi;have e1:zk .i64 ((a.2.length:Int)-1)=(i:Int):=by rw[wr _ (by omega) (by omega)];omega
  have e2:zk .i64 ((a.2.length:Int)-2)=(i:Int)-1:=by rw[wr _ (by omega) (by omega)];omega
  rw[e1,e2,zF,s1];refine zc (Ac (decide_eq_true (by omega)) (decide_eq_true (by omega))) (zc (Ac (Ac (Ac (decide_eq_true g.1) (decide_eq_true (by omega))) rfl) rfl) (Am a.1 a.2 a1 a2 (fun ob=>zB rfl rfl ?_) i (by omega) s2));exact cA ha (by intro h;rw[h]at hi;cases hi)
end T167
end Go.Pe
end
section
namespace Go.Sp
theorem YQ{a k m:Nat}(h:a<10^k)(hk:k≤m):a<10^m:=Nat.lt_of_lt_of_le h (Nat.pow_le_pow_right (by decide) hk)
theorem bH{a b k:Nat}(h1:a<10^k)(h2:b<10^k):a+b<10^(k+1):=by rw[Nat.pow_succ];omega
theorem Jq{n:Int}{k:Nat}(h:n.natAbs<10^k)(hk:k≤27000):CA (rN n,rW n)=true:=Qr (YQ (m:=27000) h hk)
theorem IM{m n:Int}(h:CA (rN n,rW n)=true)(hm:m.natAbs≤n.natAbs):CA (rN m,rW m)=true:=by
 have:=pQ h;rw[Eu]at this;exact Qr (zU hm this)
theorem WE{n:Int}(h:CS n=true):CA (rN n,rW n)=true:=by
 have h:=Go.Pe.El h;exact Jq (k:=20) (by have:10^20=100000000000000000000:=rfl;omega) (by decide)
theorem Sr{n:Int}(h:CA (rN n,rW n)=true):A3 (rW n)=true∧(rW n).length≤3000∧Ag n<(B9:Int)^3000:=by
 obtain⟨h1,h2,_⟩:=Db h;refine⟨h1,h2,?_⟩;have:=(Go.Pe.Kr h).2;rwa [show Aq (rN n,rW n).2=Ag n from Jg n]at this
theorem Sn{n:Int}(h:CA (rN n,rW n)=true):(AT n).length≤27001:=by
 have h1:=(Sr h).2.2;have h2:=Si h1 (by decide);have e:(Ag n).toNat=n.natAbs:=by rw[Ai];omega
 rw[e]at h2;unfold AT yc;split
 ·rw[zo];omega
 ·rw[show n.toNat=n.natAbs by omega];omega
theorem TQ(n:Int):I1 (rN n,rW n)=AT n:=by unfold I1;rw[Eu]
theorem UG{N D:Int}(hD:0<D):Int.tdiv N (gI (Ag N) D)=(zg N D).num∧Int.tdiv D (gI (Ag N) D)=((zg N D).den:Int):=by
 have hs:D.sign=1:=z8 hD;have eg:gI (Ag N) D=(zN N D:Int):=by rw[Fc,Ai];rfl
 have d1:(zN N D:Int)∣N:=Int.gcd_dvd_left ..;have d2:(zN N D:Int)∣D:=Int.gcd_dvd_right ..;rw[eg,zY d1,zY d2];refine⟨?_,(GG (N:=N) hD).2.2.1▸?_⟩
 ·rw[Rat.num_divInt,hs,ya,yj]
 ·rw[eg]
theorem Pt(x y:Int):GV (rN x,rW x) (rN y,rW y)=rN (x*y):=by unfold GV;rw[Eu,Eu]
theorem P3(x y:Int):G2 (rN x,rW x) (rN y,rW y)=rW (x*y):=by unfold G2;rw[Eu,Eu]
theorem bI(x y:Int):LH (rN x,rW x) (rN y,rW y)=rN (x+y):=by unfold LH;rw[Eu,Eu]
theorem fB(x y:Int):LY (rN x,rW x) (rN y,rW y)=rW (x+y):=by unfold LY;rw[Eu,Eu]
theorem NX(x y:Int):Hj (rN x,rW x) (rN y,rW y)=CQ x y:=by unfold Hj;rw[Eu,Eu]
theorem S4{a b:Nat}(h:a≤b):(zh a).length≤(zh b).length:=by
 have h1:=Lib.lt_pow_nDigits b;have h2:1≤(zh b).length:=List.length_pos_iff.2 (RM b);rw[←Lib.decDigits_length]at h1;exact DB (zU h h1) h2
theorem neg_num(x:Rat):(x.num<0↔x<0)∧(x.num>0↔0<x):=by
 rw[Rat.lt_iff,Rat.lt_iff];have:(0:Rat).num=0:=rfl;have h1:((0:Rat).den:Int)=1:=rfl;rw[this,h1];omega
theorem fD(p q:Rat):RX (p-q).num=if p<q then -1 else if q<p then 1 else 0:=by
 obtain⟨h1,h2⟩:=neg_num (p-q);have h3:p-q<0↔p<q:=by rw[Rat.sub_lt_iff,Rat.zero_add]
 have h4:0<p-q↔q<p:=(Rat.lt_iff_sub_pos q p).symm;unfold RX;simp only[h1,h2,h3,h4]
end Go.Sp
namespace Go.Pe
open Sp
open Go.Det
theorem gJ:∀g sp,aB.sp g=some sp→Ae AS g sp:=Aa T166.ok (Aa T92.ok (Aa T164.ok (Aa T168.ok (Aa T167.ok (fun g sp h=>by cases h)))))
namespace T96
variable {Q:PV→Ob→Prop}
theorem CN(n d:Int)(hn:CA (zI n,zG n)=true)(hd:CA (zI d,zG d)=true)(d0:0≤d)(hq:∀ob,Q (.dat .str (AT n++47::AT d)) ob):Ends aB (L3 (BM d) (AT n)) Q:=by
 have l1:=Sn hn;have l2:=Sn hd;have e:zG d=BM d:=by unfold zG;rw[Ai,zQ d0]
 have l3:=(Sr hd).2.1;rw[e]at l3;obtain⟨hv,hg⟩:=IC d0;have hp:(B5 false (BM d),Ar (BM d))=(zI d,zG d):=Ny hg (by omega) (fun k=>(by cases k)) (fun _=>hv.symm);refine zl (C9 ..) ?_;conv=>zeta
 rw[hp,TQ];refine zc (decide_eq_true (by omega)) (zc (decide_eq_true (by omega)) (zc hd (zc (decide_eq_true (by rw[zi,zE];omega)) (zd ?_))));rw[List.append_assoc];exact hq _
theorem AZ(n d:Int)(hn:CA (zI n,zG n)=true)(hd:CA (zI d,zG d)=true)(d0:0<d)(hq1:d=1→∀ob,Q (.dat .str (AT n)) ob)(hq:d≠1→∀ob,Q (.dat .str (AT n++47::AT d)) ob):Ends aB (L2 (BM d) (AT n)) Q:=by
 have h1:=lW (n:=d) (by omega);by_cases h:d=1
 ·rw[h1.2 h];exact zl (A4 ..) (zc rfl (zc rfl (zc rfl (zd (hq1 h _)))))
 ·have h3:=CN n d hn hd (by omega) (hq h);refine zl (A4 ..) (zf (fun c=>zc ?_ (zf (fun e=>?_) (fun _=>h3))) (fun _=>h3))
  ·have c:((BM d).length:Int)=1:=by simpa using c
   exact decide_eq_true (by omega)
  ·exfalso;have c:((BM d).length:Int)=1:=by simpa using c
   have e:(BM d).getD 0 0=1:=by simpa using e
   refine h (h1.1 ?_);cases hl:BM d with
   |nil=>rw[hl]at c;cases c
   |cons x r=>
    rw[hl]at c e;have hr:r=[]:=zw.1 (by have:((r.length+1:Nat):Int)=1:=c;omega);have e:x=1:=e;rw[hr,e]
theorem Am(N D:Int)(hN:CA (zI N,zG N)=true)(hD:CA (zI D,zG D)=true)(h0:0<D)(hq:∀ob,Q (.dat .str (CQ N D)) ob):Ends aB (L1 (zI D) (zG D) (zI N) (zG N)) Q:=by
 obtain⟨n1,n2,n3⟩:=Sr hN;obtain⟨d1,d2,d3⟩:=Sr hD;obtain⟨g0,f1,f2,f3⟩:=GG (N:=N) h0;have eD:Ag D=D:=by rw[Ai,zQ (zJ h0)]
 have ec:Cb (zG N) (zG D)=BM (Sp.gI (Ag N) D):=by
  unfold Cb;rw[Jg,Jg,eD]
 have gd:Sp.gI (Ag N) D≤D:=by
  have eg:Sp.gI (Ag N) D=(zN N D:Int):=by rw[Fc,Ai];rfl
  rw[eg];exact Int.le_of_dvd h0 (Int.gcd_dvd_right ..)
 have fn:=eX h0 (neg:=zI N) rfl;have nn:(zg N D).num.natAbs≤N.natAbs:=(EY (n:=N) (d:=D) (by omega)).1;have dd:(zg N D).den≤D.natAbs:=(EY (n:=N) (d:=D) (by omega)).2;have D5:=IM (m:=(zg N D).num) hN nn;have okD:=IM (m:=((zg N D).den:Int)) hD (by rw[Int.natAbs_natCast];exact dd);have lg:Ag (zg N D).num<(zR:Int)^3000:=(Sr D5).2.2;have ft:=P5 (N:=N) (D:=D);have dp:=(zg N D).den_pos;have a0:=Mw (zg N D).num;rw[eD]at d3;refine zl (Au ..) ?_;conv=>zeta
 rw[ec,Jg,Jg,eD];generalize Sp.gI (Ag N) D=g at*;have fg:=Gj (n:=g) (k:=3000) (by omega) (by omega) (by decide);rw[fg.2.2.1,fn,f1,f2,TQ];have ll:=Kv a0 lg;refine zc (Ac (Ac (Ac n1 d1) (decide_eq_true (by omega))) (decide_eq_true (by omega))) (zc (Ac (Ac (Ac (Ac n1 fg.1) (decide_eq_true (by omega))) (decide_eq_true (by omega))) (decide_eq_true g0)) (zc (Ac (Ac (Ac (Ac d1 fg.1) (decide_eq_true (by omega))) (decide_eq_true (by omega))) (decide_eq_true g0)) (zc (decide_eq_true (by omega)) (zc D5 (AZ _ _ D5 okD (by omega) (fun h ob=>?_) (fun h ob=>?_))))))
 ·have:=hq ob;rw[ft,if_pos (by omega)]at this;exact this
 ·have:=hq ob;rw[ft,if_neg (by omega)]at this;exact this
theorem ok:Ae AS 96 Lz:=by
 refine Ax (X:=aB) rfl gJ (d:=9) (by kernel_rfl) (by kernel_rfl) (by kernel_rfl) (fun(i:(Bool×List Int)×(Bool×List Int)) hi=>?_) (Ad (by kernel_rfl));obtain⟨a,b⟩:=i;have hi:(CA a&&CA b&&decide (yk b≠0))=true:=hi;rw[ze,ze,decide_eq_true_eq]at hi;obtain⟨⟨ha,hb⟩,h0⟩:=hi;have ea:=nE ha;have eb:=nE hb;have hq:∀ob,Af Lz (a,b) (.dat .str (CQ (yk a) (yk b))) ob:=fun ob=>zB rfl rfl rfl
 have ha2:=ha;have hb2:=hb;rw[ea]at ha2;rw[eb]at hb2;refine zr (An a b) (zf (fun c=>zc ha (zc hb ?_)) (fun c=>?_))
 ·have hneg:yk b<0:=by
   have:=Np hb;rw[c]at this;exact of_decide_eq_true this.symm
  have:=Am (Q:=Af Lz (a,b)) (-yk a) (-yk b) (IM ha2 (by rw[Int.natAbs_neg];exact zu _)) (IM hb2 (by rw[Int.natAbs_neg];exact zu _)) (by omega) (fun ob=>by rw[TH];exact hq ob);exact this
 ·have hpos:0<yk b:=by
   have:=Np hb;rw[c]at this;have:=of_decide_eq_false this.symm;omega
  have:=Am (Q:=Af Lz (a,b)) (yk a) (yk b) ha2 hb2 hpos hq;rw[←Np ha, ←oD ha, ←Np hb, ←oD hb]at this;exact this
end T96
theorem iV:∀g sp,Xy.sp g=some sp→Ae AS g sp:=Aa T107.ok (Aa T96.ok (Aa T108.ok (Aa T109.ok (fun g sp h=>by cases h))))
namespace T36
variable {Q:PV→Ob→Prop}
theorem Tk{n:Int}(h1: -9000000000000000000≤n)(h2:n≤9000000000000000000):imax n (zk .i64 (0-n))=Ag n:=by
 rw[wr _ (by omega) (by omega)];unfold imax Ag;split<;>split<;>omega
theorem BN(n d:Int)(v:List UInt8)(hv:v=AT n)(hl:v.length≤27001)(d0:0<d)(d1:d<9000000000000000000)(hq1:d=1→∀ob,Q (.dat .str (AT n)) ob)(hq:d≠1→∀ob,Q (.dat .str (AT n++47::AT d)) ob):Ends Xy (L4 d v) Q:=by
 have h9:=Nq d 1;have e:Hn d 1=AT d:=by
  rw[MX (by omega) (by omega)];unfold AT yc;rw[if_neg (by omega)]
 refine zl (Dp ..) (zf (fun c=>zc (decide_eq_true (by omega)) (zc (Ac (Ac (Ac (decide_eq_true (by omega)) (decide_eq_true (by omega))) rfl) rfl) (zc (decide_eq_true (by rw[zi,zE];omega)) (zd ?_)))) (fun c=>zd ?_))
 ·have c:=of_decide_eq_true c;rw[hv,e,List.append_assoc];exact hq (by omega) _
 ·have c:=of_decide_eq_false c;rw[hv];exact hq1 (by omega) _
theorem CN(n d:Int)(n1: -9000000000000000000<n)(n2:n<9000000000000000000)(d0:0<d)(d1:d<9000000000000000000)(hq1:d=1→∀ob,Q (.dat .str (AT n)) ob)(hq:d≠1→∀ob,Q (.dat .str (AT n++47::AT d)) ob):Ends Xy (L3 n d) Q:=by
 have h9:=Nq (Ag n) 1;have ha:=Ai n;have e:Hn (Ag n) 1=zh n.natAbs:=by
  rw[MX (by omega) (by omega)];congr 1;omega
 have ei:=X8 n;refine zl (C9 ..) ?_;conv=>zeta
 rw[Tk (by omega) (by omega)];have hr:(decide (0≤Ag n)&&decide (Ag n<9223372036854775808)&&decide ((0:Int)≤1)&&decide ((1:Int)≤20))=true:=Ac (Ac (Ac (decide_eq_true (by omega)) (decide_eq_true (by omega))) rfl) rfl;refine zf (fun c=>zc hr (zc (decide_eq_true (by omega)) (BN n d _ ?_ ?_ d0 d1 hq1 hq))) (fun c=>zc hr (zc (decide_eq_true (by omega)) (BN n d _ ?_ ?_ d0 d1 hq1 hq)))
 ·have c:=of_decide_eq_true c;rw[if_pos c]at ei;rw[e];exact ei.symm
 ·rw[zi,zE];omega
 ·have c:=of_decide_eq_false c;rw[if_neg c]at ei;rw[e];exact ei.symm
 ·rw[List.nil_append];omega
theorem AZ(n d:Int)(n1: -9000000000000000000<n)(n2:n<9000000000000000000)(d0:0<d)(d1:d<9000000000000000000)(hq:∀ob,Q (.dat .str (CQ n d)) ob):Ends Xy (L2 n d) Q:=by
 obtain⟨g0,_⟩:=GG (N:=n) d0;obtain⟨q1,q2⟩:=UG (N:=n) d0;obtain⟨l1,l2⟩:=EY (n:=n) (d:=d) (by omega);have ha:=Ai n;have dp:=(zg n d).den_pos;have ft:=P5 (N:=n) (D:=d);refine zl (A4 ..) ?_;conv=>zeta
 rw[Tk (by omega) (by omega),q1,q2,wr _ (by omega) (by omega),wr _ (by omega) (by omega)];have hg:decide (Sp.gI (Ag n) d≠0)=true:=decide_eq_true (by omega);refine zc (Ac (Ac (Ac (decide_eq_true (by omega)) (decide_eq_true (by omega))) (decide_eq_true (by omega))) (decide_eq_true (by omega))) (zc hg (zc hg (CN _ _ (by omega) (by omega) (by omega) (by omega) (fun h ob=>?_) (fun h ob=>?_))))
 ·have:=hq ob;rw[ft,if_pos (by omega)]at this;exact this
 ·have:=hq ob;rw[ft,if_neg (by omega)]at this;exact this
theorem ok:Ae AS 36 eB:=by
 refine Ax (X:=Xy) rfl iV (d:=9) (by kernel_rfl) (by kernel_rfl) (by kernel_rfl) (fun(i:Int×Int) hi=>?_) (Ad (by kernel_rfl));obtain⟨n,d⟩:=i;have hi:(CS n&&CS d&&decide (d≠0))=true:=hi;rw[ze,ze,decide_eq_true_eq]at hi;obtain⟨⟨hn,hd⟩,h0⟩:=hi;have hq:∀ob,Af eB (n,d) (.dat .str (CQ n d)) ob:=fun ob=>zB rfl rfl rfl
 have slow:(CA (zI n,zG n)&&CA (zI d,zG d)&&decide (yk (zI d,zG d)≠0))=true:=Ac (Ac (WE hn) (WE hd)) (by rw[Eu];exact decide_eq_true h0);refine zr (An n d) ?_;conv=>zeta
 rw[NX];refine zf (fun _=>zc hn (zc hd (zc slow (zd (hq _))))) (fun c1=>zf (fun _=>zc hn (zc hd (zc slow (zd (hq _))))) (fun c2=>zf (fun _=>zc hn (zc hd (zc slow (zd (hq _))))) (fun c3=>zf (fun _=>zc hn (zc hd (zc slow (zd (hq _))))) (fun c4=>?_))));have c1:=of_decide_eq_false c1;have c2:=of_decide_eq_false c2;have c3:=of_decide_eq_false c3;have c4:=of_decide_eq_false c4;refine zl (Au ..) (zf (fun c=>?_) (fun c=>?_))
 ·have c:=of_decide_eq_true c;rw[wr (0-n) (by omega) (by omega),wr (0-d) (by omega) (by omega),ym,ym];exact AZ (-n) (-d) (by omega) (by omega) (by omega) (by omega) (fun ob=>by rw[TH];exact hq ob)
 ·have c:=of_decide_eq_false c;exact AZ n d (by omega) (by omega) (by omega) (by omega) hq
end T36
namespace T95
theorem vE{Q:PV→Ob→Prop}(s:List UInt8)(neg:Bool)(hl:s.length≤20)(h:9<(Aw s).length∨9<(Sp.AL s).length)(hq:∀ob,Q (.tup [.dat i64 0,.dat i64 0,.bl false]) ob):Ends Mr (L3 s neg) Q∧Ends Mr (L4 s) Q:=by
 obtain⟨c1,c2,c3⟩:=BF s;have es:AV s=((Aw s).length:Int):=rfl;have hle:=(T77.CP s).1;have hB:9<(Sp.AL s).length→(s.length:Int)-(Aw s).length>10:=fun h=>by
  cases hc:Bk s with
  |true=>
   have k2:=congrArg List.length (c2 hc).2;rw[zX]at k2;omega
  |false=>rw[(c3 hc).2]at h;cases h
 refine⟨zl (C9 ..) (zc (decide_eq_true (by omega)) (zf (fun _=>zd (hq _)) (fun c=>?_))),zl (Dp ..) (zc (decide_eq_true (by omega)) (zf (fun _=>zd (hq _)) (fun c=>?_)))⟩
 ·have c:=of_decide_eq_false c;rw[es]at c;have hb:=hB (by omega);refine zc ?_ (zd (hq _));rw[es,wr _ (by omega) (by omega)];exact decide_eq_true hb
 ·have c:=of_decide_eq_false c;rw[es]at c;have hb:=hB (by omega);refine zc ?_ (zd (hq _));rw[es,wr _ (by omega) (by omega)];exact decide_eq_true hb
theorem xC:Ae AS 95 Mv:=by
 refine Ax (X:=Mr) rfl kL (d:=9) (by kernel_rfl) (by kernel_rfl) (by kernel_rfl) (fun(a:List UInt8) ha=>?_) (Ad (by kernel_rfl));obtain⟨_,_,da,db⟩:=NC ha;by_cases hqk:DE a=true
 ·have hq:∀n ob,n=H8 a→Af Mv a (.tup [.dat i64 n,.dat i64 (if Bk (AU a)=true then Az 0 (Sp.AL (AU a))else 1),.bl true]) ob:=fun n ob h=>zB rfl rfl (by
   show(n,_,true)=(aD a,Tm a,DE a);unfold aD Tm;rw[if_pos hqk,if_pos hqk,hqk,h];rfl)
  unfold DE at hqk;rw[ze,ze,decide_eq_true_eq,decide_eq_true_eq,decide_eq_true_eq]at hqk;obtain⟨⟨hl,la⟩,lb⟩:=hqk;clear ha;refine zr (An a) (zn (by simp;omega) ?_);cases a with
  |nil=>exact zn rfl (zl (A4 ..) (BN [] hl la lb da db (fun n ob h=>hq n ob (by rw[h];rfl))))
  |cons c r=>
   have g0:(c::r).getD 0 0=c:=rfl;rw[g0];refine zc (by simp) (zc (by simp) (zl (Au ..) (zf (fun d=>zc (by simp) ?_) (fun d=>?_))))
   ·have hc:c=45:=by
     have:(c.toNat:Int)=45:=by simpa using d
     exact UInt8.toNat_inj.1 (by show _=45;omega)
    have ep:AU (c::r)=r:=by unfold AU;rw[g0,if_pos hc];rfl
    have eb:Sp.preB (c::r)=true:=by unfold Sp.preB;rw[g0];exact decide_eq_true hc
    have et:List.take (Nat.sub (c::r).length 1) (List.drop 1 (c::r))=r:=zC (zu _);unfold H8 at hq;rw[ep]at la lb da db hq;rw[eb]at hq;rw[et,d];exact CN r true (by rw[zo]at hl;omega) la lb da db (fun n ob h=>hq _ ob (by rw[h];try rfl))
   ·have hc:c≠45:=by rintro rfl;exact absurd d (by decide)
    have ep:AU (c::r)=c::r:=by unfold AU;rw[g0,if_neg hc]
    have eb:Sp.preB (c::r)=false:=by unfold Sp.preB;rw[g0];exact decide_eq_false hc
    unfold H8 at hq;rw[ep]at la lb da db hq;rw[eb]at hq;rw[d];exact CN (c::r) false hl la lb da db (fun n ob h=>hq _ ob (by rw[h];try rfl))
 ·have hf:DE a=false:=by simpa using hqk
  have hq:∀ob,Af Mv a (.tup [.dat i64 0,.dat i64 0,.bl false]) ob:=fun ob=>zB rfl rfl (by
   show((0:Int),(0:Int),false)=(aD a,Tm a,DE a);unfold aD Tm;rw[if_neg hqk,if_neg hqk,hf])
  refine zr (An a) (zf (fun _=>zd (hq _)) (fun hl=>?_));have hl:a.length≤20:=by have:=of_decide_eq_false hl;omega
  have h9:9<(Aw (AU a)).length∨9<(Sp.AL (AU a)).length:=by
   by_cases h1:(Aw (AU a)).length≤9
   ·by_cases h2:(Sp.AL (AU a)).length≤9
    ·exact absurd (by unfold DE;rw[decide_eq_true hl,decide_eq_true h1,decide_eq_true h2];rfl) hqk
    ·exact .inr (by omega)
   ·exact .inl (by omega)
  cases a with
  |nil=>exact zn rfl (zl (A4 ..) (vE [] false hl h9 hq).2)
  |cons c r=>
   have g0:(c::r).getD 0 0=c:=rfl;rw[g0];refine zc (by simp) (zc (by simp) (zl (Au ..) (zf (fun d=>zc (by simp) ?_) (fun d=>?_))))
   ·have hc:c=45:=by
     have:(c.toNat:Int)=45:=by simpa using d
     exact UInt8.toNat_inj.1 (by show _=45;omega)
    have ep:AU (c::r)=r:=by unfold AU;rw[g0,if_pos hc];rfl
    have et:List.take (Nat.sub (c::r).length 1) (List.drop 1 (c::r))=r:=zC (zu _);rw[ep]at h9;rw[et];exact(vE r _ (by rw[zo]at hl;omega) h9 hq).1
   ·have hc:c≠45:=by rintro rfl;exact absurd d (by decide)
    have ep:AU (c::r)=c::r:=by unfold AU;rw[g0,if_neg hc]
    rw[ep]at h9;exact(vE (c::r) _ hl h9 hq).1
end T95
theorem RN:∀g sp,bU.sp g=some sp→Ae AS g sp:=Aa T95.xC (Aa T36.ok (Aa (T91.ok) (Aa T97.ok (Aa T98.ok (Aa T96.ok (fun g sp h=>by cases h))))))
theorem Ta{x y:Int}(h1: -1000000000<x)(h2:x<1000000000)(h3: -1000000000<y)(h4:y<1000000000): -1000000000000000000≤x*y∧x*y≤1000000000000000000:=by
 have h:(x*y).natAbs≤1000000000*1000000000:=by
  rw[zT];exact Nat.mul_le_mul (by omega) (by omega)
 omega
theorem T27.ok:Ae AS 27 SP:=by
 refine Ax (X:=bU) rfl RN (d:=9) (by kernel_rfl) (by kernel_rfl) (by kernel_rfl) (fun(i:List UInt8×List UInt8) hi=>?_) (Ad (by kernel_rfl));obtain⟨a,b⟩:=i;have hi:(BJ a&&BJ b)=true:=hi;rw[ze]at hi;obtain⟨ha,hb⟩:=hi;obtain⟨a1,a2,a3,a4,a5,a6,a7,a8,a9⟩:=D3 ha;obtain⟨b1,b2,b3,b4,b5,b6,b7,b8,b9⟩:=D3 hb;have ad:=(A2 a).den_pos;have bd:=(A2 b).den_pos;have eq:=(XP ha hb).2;have hq:∀ob,Af SP (a,b) (.dat .str (CQ (A5 a*AF b+A5 b*AF a) (AF a*AF b))) ob:=fun ob=>zB rfl rfl eq.symm
 have slow:Ends bU (T27.L1 a b) (Af SP (a,b)):=by
  have e1:Bw a=zI (A5 a):=rfl;have e2:Bo a=zG (A5 a):=rfl;have e3:Bg a=zI (AF a):=rfl;have e4:Be a=zG (AF a):=rfl;have e5:Bw b=zI (A5 b):=rfl;have e6:Bo b=zG (A5 b):=rfl;have e7:Bg b=zI (AF b):=rfl;have e8:Be b=zG (AF b):=rfl;rw[e1,e2]at a1;rw[e3,e4]at a3;rw[e5,e6]at b1;rw[e7,e8]at b3;refine zl (T27.Au ..) ?_;conv=>zeta
  simp only[e1,e2,e3,e4,e5,e6,e7,e8,Pt,P3,bI,fB,NX,Eu];have m1:=Di a8 b9;have m2:=Di b8 a9;have m3:=Di a9 b9;rw[←zT]at m1 m2 m3;have m4:=zU (Int.natAbs_add_le (A5 a*AF b) (A5 b*AF a)) (bH (k:=4000+4000) m1 m2);have k1:=Jq m1 (by decide);have k2:=Jq m2 (by decide);have k3:=Jq m3 (by decide);have k4:=Jq m4 (by decide);have k5:AF a*AF b≠0:=zS (by omega) (by omega);exact zc a7 (zc b7 (zc (Ac a1 b3) (zc (Ac b1 a3) (zc (Ac k1 k2) (zc (Ac a3 b3) (zc (Ac (Ac k4 k3) (decide_eq_true k5)) (zd (hq _))))))))
 refine zr (T27.An a b) (zc ha (zc hb (zf (fun qa=>zf (fun qb=>?_) (fun _=>slow)) (fun _=>slow))));obtain⟨x1,x2,x3,x4,x5,x6⟩:=FM ha qa;obtain⟨y1,y2,y3,y4,y5,y6⟩:=FM hb qb;have p1:=Ta x3 x4 (by omega) y6;have p2:=Ta y3 y4 (by omega) x6;have p3:=Ta (by omega) x6 (by omega) y6;have p4:AF a*AF b≠0:=zS (by omega) (by omega);rw[x1,x2,y1,y2,wr (A5 a*AF b) (by omega) (by omega),wr (A5 b*AF a) (by omega) (by omega),wr (A5 a*AF b+A5 b*AF a) (by omega) (by omega),wr (AF a*AF b) (by omega) (by omega)];exact zc (Ac (Ac (Du (by omega) (by omega)) (Du (by omega) (by omega))) (decide_eq_true p4)) (zd (hq _))
theorem T29.ok:Ae AS 29 TX:=by
 refine Ax (X:=bU) rfl RN (d:=9) (by kernel_rfl) (by kernel_rfl) (by kernel_rfl) (fun(i:List UInt8×List UInt8) hi=>?_) (Ad (by kernel_rfl));obtain⟨a,b⟩:=i;have hi:(BJ a&&BJ b)=true:=hi;rw[ze]at hi;obtain⟨ha,hb⟩:=hi;obtain⟨a1,a2,a3,a4,a5,a6,a7,a8,a9⟩:=D3 ha;obtain⟨b1,b2,b3,b4,b5,b6,b7,b8,b9⟩:=D3 hb;have ad:=(A2 a).den_pos;have bd:=(A2 b).den_pos;have hq:∀ob,Af TX (a,b) (.dat .str (CQ (A5 a*A5 b) (AF a*AF b))) ob:=fun ob=>zB rfl rfl (X1).symm
 have slow:Ends bU (T29.L1 a b) (Af TX (a,b)):=by
  have e1:Bw a=zI (A5 a):=rfl;have e2:Bo a=zG (A5 a):=rfl;have e3:Bg a=zI (AF a):=rfl;have e4:Be a=zG (AF a):=rfl;have e5:Bw b=zI (A5 b):=rfl;have e6:Bo b=zG (A5 b):=rfl;have e7:Bg b=zI (AF b):=rfl;have e8:Be b=zG (AF b):=rfl;rw[e1,e2]at a1;rw[e3,e4]at a3;rw[e5,e6]at b1;rw[e7,e8]at b3;refine zl (T29.Au ..) ?_;conv=>zeta
  simp only[e1,e2,e3,e4,e5,e6,e7,e8,Pt,P3,NX,Eu];have m1:=Di a8 b8;have m3:=Di a9 b9;rw[←zT]at m1 m3;have k1:=Jq m1 (by decide);have k3:=Jq m3 (by decide);have k5:AF a*AF b≠0:=zS (by omega) (by omega);exact zc a7 (zc b7 (zc (Ac a1 b1) (zc (Ac a3 b3) (zc (Ac (Ac k1 k3) (decide_eq_true k5)) (zd (hq _))))))
 refine zr (T29.An a b) (zc ha (zc hb (zf (fun qa=>zf (fun qb=>?_) (fun _=>slow)) (fun _=>slow))));obtain⟨x1,x2,x3,x4,x5,x6⟩:=FM ha qa;obtain⟨y1,y2,y3,y4,y5,y6⟩:=FM hb qb;have p1:=Ta x3 x4 y3 y4;have p3:=Ta (by omega) x6 (by omega) y6;have p4:AF a*AF b≠0:=zS (by omega) (by omega);rw[x1,x2,y1,y2,wr _ (by omega) (by omega),wr (AF a*AF b) (by omega) (by omega)];exact zc (Ac (Ac (Du (by omega) (by omega)) (Du (by omega) (by omega))) (decide_eq_true p4)) (zd (hq _))
theorem T94.ok:Ae AS 94 lZ:=by
 refine Ax (X:=bU) rfl RN (d:=9) (by kernel_rfl) (by kernel_rfl) (by kernel_rfl) (fun(a:List UInt8) hi=>?_) (Ad (by kernel_rfl));obtain⟨hs,h0⟩:=UN hi;obtain⟨a1,a2,a3,a4,a5,a6,a7,a8,a9⟩:=D3 (Iu hs).1;refine zr (T94.An a) (zc a7 (zc (Ac (Ac a3 a1) ?_) (zd (zB rfl rfl ?_))))
 ·rw[a2];exact decide_eq_true fun e=>h0 (Rat.num_eq_zero.mp (by rw[a5,e]))
 ·show Hj _ _=Pf a;unfold Hj;rw[a2,a4];exact XO.symm
end Go.Pe
end
section
namespace Go.Pe
open Sp
open Go.Det
theorem Xk:∀g sp,tS.sp g=some sp→Ae AS g sp:=Aa T94.ok (Aa T29.ok (Aa T27.ok (Aa T99.ok (fun g sp h=>by cases h))))
theorem dH{s:List UInt8}(h:Hm s=true):BJ (JG s)=true∧A2 (JG s)= -A2 s:=by
 obtain⟨h1,h2⟩:=Iu h;obtain⟨t,_⟩:=Iy h1;have e:JG s=AX (-A2 s):=by
  have:=Zm (A2 s);rwa [t]at this
 have r:A2 (JG s)= -A2 s:=by rw[e,DL]
 refine⟨?_,r⟩;have hl:(JG s).length≤4000:=by
  unfold JG;split
  ·omega
  ·split
   ·rw[zX];omega
   ·rw[zo];omega
 unfold BJ;rw[r, ←e,decide_eq_true rfl,decide_eq_true hl];rfl
theorem T28.ok:Ae AS 28 ZX:=by
 refine Ax (X:=tS) rfl Xk (d:=9) (by kernel_rfl) (by kernel_rfl) (by kernel_rfl) (fun(i:List UInt8×List UInt8) hi=>?_) (Ad (by kernel_rfl));obtain⟨a,b⟩:=i;have hi:(BJ a&&Hm b)=true:=hi;rw[ze]at hi;obtain⟨ha,hb⟩:=hi;obtain⟨n1,n2⟩:=dH hb;have hl:=(Iu hb).2;refine zr (T28.An a b) (zc (decide_eq_true (by omega)) (zc (Ac ha n1) (zd (zB rfl rfl ?_))));show Lo a (JG b)=Mp a b;unfold Lo Mp;rw[n2,Rat.sub_eq_add_neg]
theorem cL{s:List UInt8}(h:fG s=true):BJ (Pf s)=true:=by
 obtain⟨h1,h0⟩:=UN h;obtain⟨h1,h2⟩:=Iu h1;obtain⟨t,_⟩:=Iy h1;have hl:(AX (A2 s)).length≤3000:=by rw[t];exact h2
 unfold Pf;generalize A2 s=q at*;have l1:(zh q.num.natAbs).length≤(yc q.num).length:=by
  unfold yc;split
  ·rw[zo];omega
  ·rw[show q.num.toNat=q.num.natAbs by omega];exact zu _
 have key:(AX q⁻¹).length≤(zh q.num.natAbs).length+(zh q.den).length+2:=by
  have hi:=Rat.inv_def q;have hz:q.num≠0:=fun e=>h0 (Rat.num_eq_zero.mp e)
  have hd:=q.den_pos;have m:=EY (n:=(q.den:Int)) (d:=q.num) hz;rw[←hi,Int.natAbs_natCast]at m;have k1:=S4 m.1;have k2:=S4 m.2;have l2:(yc q⁻¹.num).length≤(zh q⁻¹.num.natAbs).length+1:=by
   unfold yc;split
   ·rw[zo];omega
   ·rw[show q⁻¹.num.toNat=q⁻¹.num.natAbs by omega];omega
  unfold AX;split
  ·omega
  ·rw[zi,zo];omega
 have l3:(zh q.num.natAbs).length+(zh q.den).length≤3001:=by
  unfold AX at hl;split at hl
  ·next c=>rw[c,Lib.decDigits_one (show 1<10 by decide),zE];omega
  ·rw[zi,zo]at hl;omega
 unfold BJ;rw[DL,decide_eq_true rfl,decide_eq_true (by omega)];rfl
theorem T26.ok:Ae AS 26 mD:=by
 refine Ax (X:=tS) rfl Xk (d:=9) (by kernel_rfl) (by kernel_rfl) (by kernel_rfl) (fun(i:List UInt8×List UInt8) hi=>?_) (Ad (by kernel_rfl));obtain⟨a,b⟩:=i;have hi:(BJ a&&fG b)=true:=hi;rw[ze]at hi;obtain⟨ha,hb⟩:=hi;refine zr (T26.An a b) (zc hb (zc (Ac ha (cL hb)) (zd (zB rfl rfl ?_))));show NJ a (Pf b)=Sx a b;unfold NJ Sx Pf;rw[DL,Rat.div_def]
theorem WZ:∀g sp,tT.sp g=some sp→Ae AS g sp:=Aa T28.ok (Aa T41.ok (Aa T89.ok (Aa T100.ok (Aa T101.ok (Aa T102.ok (fun g sp h=>by cases h))))))
theorem T30.ok:Ae AS 30 mP:=by
 refine Ax (X:=tT) rfl WZ (d:=9) (by kernel_rfl) (by kernel_rfl) (by kernel_rfl) (fun(i:List UInt8×List UInt8) hi=>?_) (Ad (by kernel_rfl));obtain⟨a,b⟩:=i;have hi:(BJ a&&Hm b)=true:=hi;have hi2:=hi;rw[ze]at hi2;obtain⟨ha,hb⟩:=hi2;have z:=(QW ha).sub (QW (Iu hb).1);refine zr (T30.An a b) (zc hi (zc (decide_eq_true (Gq z (by decide))) (zd (zB rfl rfl ?_))));show Gs (Mp a b)=TE a b;unfold Mp;rw[Ps,fD];rfl
theorem T93.ok:Ae AS 93 RK:=by
 refine Ax (X:=tT) rfl WZ (d:=9) (by kernel_rfl) (by kernel_rfl) (by kernel_rfl) (fun(a:List UInt8) ha=>?_) (Ad (by kernel_rfl));have hl:a.length≤1000000:=of_decide_eq_true ha;have hc:=(T77.CP a).1;have hq:∀v ob,v=EF a→Af RK a (.dat i64 v) ob:=fun v ob h=>zB rfl rfl h
 unfold EF at hq;refine zr (T93.An a) (zc ha (zc (decide_eq_true (by omega)) (zf (fun c=>zd (hq _ _ ?_)) (fun c=>zc ha (zf (fun d=>zd (hq _ _ ?_)) (fun d=>zd (hq _ _ ?_)))))))
 ·have c:=of_decide_eq_true c;rw[if_pos (.inl (by omega))]
 ·have d:=of_decide_eq_true d;rw[if_pos (.inr (by omega))]
 ·have c:=of_decide_eq_false c;have d:=of_decide_eq_false d;rw[if_neg (by omega)]
end Go.Pe
end
section
namespace Go.Pe
open Sp
open Go.Det
namespace T23
theorem loop{Q:PV→Ob→Prop}(l:List Int)(hl:l.length≤1000000):∀(r:List Int) (i:Nat),l.drop i=r→i≤l.length→(∀ob,Q (.dat i64 (Sp.first r)) ob)→Ends ZP (L1 l (i:Int)) Q
 |[],i,h,hi,hq=>by
  have:=drop_nil h hi;exact zl (Au ..) (zn (decide_eq_false (by omega)) (zd (hq _)))
 |x::r,i,h,hi,hq=>by
  obtain⟨g1,g2,g3⟩:=drop_cons (d:=(0:Int)) h;have e1:zk .i64 ((i:Int)+1)=((i+1:Nat):Int):=by rw[wr _ (by omega) (by omega)];omega
  have ef:Sp.first (x::r)=if x≠0 then x else Sp.first r:=rfl
  rw[ef]at hq;have hc:(decide ((0:Int)≤(i:Int))&&decide ((i:Int)<(l.length:Int)))=true:=Ac (decide_eq_true (by omega)) (decide_eq_true (by omega));refine zl (Au ..) ?_;conv=>zeta
  rw[zF,g2,e1];refine zc (decide_eq_true (by omega)) (zc hc (zf (fun c=>?_) (fun c=>loop l hl r (i+1) g3 g1 ?_)))
  ·have c:x≠0:=by simpa using c
   rw[if_pos c]at hq;exact zc hc (zd (hq _))
  ·have c:x=0:=by simpa using c
   rw[if_neg (by rw[c];decide)]at hq;exact hq
theorem ok:Ae AS 23 Lx:=by
 refine Ax (X:=ZP) rfl QV (d:=9) (by kernel_rfl) (by kernel_rfl) (by kernel_rfl) (fun(l:List Int) hl=>?_) (Ad (by kernel_rfl));exact zr (An l) (loop l (of_decide_eq_true hl) l 0 rfl (yd _) (fun ob=>zB rfl rfl rfl))
end T23
theorem jJ:∀g sp,sD.sp g=some sp→Ae AS g sp:=Aa T93.ok (fun g sp h=>by cases h)
theorem T25.ok:Ae AS 25 P4:=by
 refine Ax (X:=sD) rfl jJ (d:=9) (by kernel_rfl) (by kernel_rfl) (by kernel_rfl) (fun(i:List UInt8×Int×List UInt8×Int) hi=>?_) (Ad (by kernel_rfl));obtain⟨a,e,w,bad⟩:=i;have hq:∀v ob,v=CH a e w bad→Af P4 (a,e,w,bad) (.dat .bool v) ob:=fun v ob h=>zB rfl rfl h
 have hqb:∀v ob,v=CH a e w bad→Af P4 (a,e,w,bad) (.bl v) ob:=fun v ob h=>zB rfl rfl h
 have key:∀x:Int,x=(if bad=0 then EF w else bad)→CH a e w bad=if x≠0 then decide (a=[])&&decide (e=x)else decide (e=0)&&decide (a=w):=by
  rintro x rfl;rfl
 have yes:∀(x:Int) ob,x=(if bad=0 then EF w else bad)→x≠0→Ends sD (.ite (a==[]) (.leaf (PV.dat Sh.bool (e==x)) ob) (.leaf (PV.bl false) ob)) (Af P4 (a,e,w,bad)):=fun x ob h h0=>by
  have k:=key x h;rw[if_pos h0]at k;refine zf (fun c=>zd (hq _ _ ?_)) (fun c=>zd (hqb _ _ ?_))
  ·have c:a=[]:=by simpa using c
   rw[k,decide_eq_true c,zO];rfl
  ·have c:a≠[]:=by simpa using c
   rw[k,decide_eq_false c];rfl
 have no:∀(x:Int) ob,x=(if bad=0 then EF w else bad)→x=0→Ends sD (.ite (e==0) (.leaf (PV.dat Sh.bool (a==w)) ob) (.leaf (PV.bl false) ob)) (Af P4 (a,e,w,bad)):=fun x ob h h0=>by
  have k:=key x h;rw[if_neg (by rw[h0];decide)]at k;refine zf (fun c=>zd (hq _ _ ?_)) (fun c=>zd (hqb _ _ ?_))
  ·have c:e=0:=by simpa using c
   rw[k,decide_eq_true c,zO];by_cases h:a=w
   ·rw[decide_eq_true h];simpa using h
   ·rw[decide_eq_false h];simpa using h
  ·have c:e≠0:=by simpa using c
   rw[k,decide_eq_false c];rfl
 refine zr (T25.An a e w bad) (zf (fun c=>zc hi (zf (fun d=>?_) (fun d=>?_))) (fun c=>zf (fun d=>?_) (fun d=>?_)))
 ·have c:bad=0:=by simpa using c
  exact yes _ _ (by rw[if_pos c]) (by simpa using d)
 ·have c:bad=0:=by simpa using c
  exact no _ _ (by rw[if_pos c]) (by simpa using d)
 ·have c:bad≠0:=by simpa using c
  exact yes _ _ (by rw[if_neg c]) c
 ·have c:bad≠0:=by simpa using c
  exact absurd (by simpa using d) c
theorem dL{l:List (List UInt8)}(h:(!HK l)=false):∀s∈l,s.length≤1300:=by
 have h:HK l=true:=by simpa using h
 unfold HK at h;rw[zM]at h;exact fun s hs=>of_decide_eq_true (h s hs)
theorem Xs(a b:List UInt8):Sp.first [A1 a,A1 b]=BG a b:=by
 rw[Px,QI]
theorem fV:∀g sp,wB.sp g=some sp→Ae AS g sp:=Aa T16.ok (Aa TP (Aa T18.ok (Aa T19.ok (Aa T20.ok (Aa T21.ok (Aa T22.ok (Aa T23.ok (Aa T24.ok (Aa T25.ok (Aa T26.ok (Aa T27.ok (Aa T28.ok (Aa T29.ok (Aa T30.ok (fun g sp h=>by cases h)))))))))))))))
set_option maxRecDepth 10000 in
theorem T3.ok:Ae AS 3 T8:=by
 refine Ax (X:=wB) rfl fV (d:=9) (by kernel_rfl) (by kernel_rfl) (by kernel_rfl) (fun(i:List UInt8×List UInt8) _=>?_) (Ad (by kernel_rfl));obtain⟨a,b⟩:=i;have hq:∀ob,Af T8 (a,b) (.dat .bool true) ob:=fun ob=>zB rfl rfl rfl
 refine zr (T3.An a b) ?_;conv=>zeta
 rw[Xs];refine zc rfl (zf (fun c=>zc rfl (zd (hq _))) (fun c=>?_));have hb:=dL c;have la:a.length≤1300:=hb a (by simp);have lb:b.length≤1300:=hb b (by simp);have ok:Ju a b=true:=Ac (decide_eq_true (by omega)) (decide_eq_true (by omega));refine zc ok (zc ok (zc ok (zc ok (zc ok (zc (decide_eq_true (by omega)) (zc (decide_eq_true (by omega)) (zc rfl (zf (fun e=>?_) (fun e=>?_)))))))))
 ·have e:BG a b≠0:=by simpa using e
  have ed:Gn a b=BG a b:=by unfold Gn;rw[if_pos e]
  have t4:=V3 (a:=a) (b:=b) (by rw[ed];exact e) [48];rw[ed]at t4;have t5:Cs a b=0:=by unfold Cs;rw[if_pos e]
  exact zc rfl (zc (iX e _) (zc rfl (zc (iY e _) (zc rfl (zc (kQ e _) (zc rfl (zc t4 (zc (by rw[t5];rfl) (zc (by simp) (zc rfl (zd (hq _))))))))))))
 ·have e:BG a b=0:=by simpa using e
  obtain⟨ca,cb⟩:=PX e;have na:=R2 ca;have nb:=R2 cb;have n1:=na.num (by decide);have n2:=nb.num (by decide);have s2:=nb.Hm (by decide);have h1:(BJ a&&BJ b)=true:=Ac n1 n2;have h2:(BJ a&&Hm b)=true:=Ac n1 s2;have l1:(Lo a b).length≤1000000:=Gq (na.z.add nb.z) (by decide);have l2:(Mp a b).length≤1000000:=Gq (na.z.sub nb.z) (by decide);have l3:(NJ a b).length≤1000000:=Gq (na.z.mul nb.z) (by decide);have cv:Cs a b=TE a b:=by unfold Cs;rw[if_neg (by rw[e];decide)]
  have cvb:(Cs a b==TE a b)=true:=by rw[cv];simp
  have eb:(BG a b==0)=true:=by rw[e];rfl
  refine zf (fun k=>?_) (fun k=>?_)
  ·have k:b=[48]:=by simpa using k
   have ed:Gn a b=6:=by unfold Gn;rw[if_neg (by rw[e];decide),if_pos k]
   have t4:=V3 (a:=a) (b:=b) (by rw[ed];decide) [48];rw[ed]at t4;exact zc rfl (zn (by rw[t4];rfl) (zc h1 (zc (decide_eq_true l1) (zc (Tq e) (zc h2 (zc (decide_eq_true l2) (zc (SA e) (zc h1 (zc (decide_eq_true l3) (zc (TJ e) (zc h2 (zc cvb (zc eb (zc rfl (zd (hq _))))))))))))))))
  ·have k:b≠[48]:=by simpa using k
   have ed:Gn a b=0:=by unfold Gn;rw[if_neg (by rw[e];decide),if_neg k]
   have nz:=rC s2 k;have l4:(Sx a b).length≤1000000:=Gq (na.z.div nb.z (UN nz).2) (by decide);exact zc (Ac n1 nz) (zc (decide_eq_true l4) (zn (by rw[Zk ed];rfl) (zc h1 (zc (decide_eq_true l1) (zc (Tq e) (zc h2 (zc (decide_eq_true l2) (zc (SA e) (zc h1 (zc (decide_eq_true l3) (zc (TJ e) (zc h2 (zc cvb (zc eb (zc rfl (zd (hq _)))))))))))))))))
end Go.Pe
end
section
namespace Go.Sp
theorem WQ:Nu 1 [48] 0:=⟨KR.symm,by unfold F7;decide+kernel⟩
structure pF(a b c:List UInt8):Prop where
 l:a.length≤1000000∧b.length≤1000000∧c.length≤1000000∧(BE a b).length≤1000000∧(BE b c).length≤1000000∧(CO a b).length≤1000000∧(CO a c).length≤1000000∧(BE (BE a b) c).length≤1000000
 e1:DG a b=0
 e2:DG b a=0
 e3:DG (BE a b) c=0
 e4:DG b c=0
 e5:DG a (BE b c)=0
 e6:Jb (BE a b) b=0
 s1:BE b a=BE a b
 s2:BE a (BE b c)=BE (BE a b) c
 s3:Je (BE a b) b=a
 e7:EM a b=0
 e8:EM a c=0
 e9:DG (CO a b) (CO a c)=0
 e10:EM a (BE b c)=0
 e11:EM b a=0
 e12:BG a b=0
 e13:BG (BE (BE a b) c) (BE b c)=0
 e14:BG a [48]=0
 s4:CO a (BE b c)=BE (CO a b) (CO a c)
 s5:CO b a=CO a b
 s6:Cs (BE (BE a b) c) (BE b c)=Cs a [48]
 s7:Cs a b=0↔a=b
 e15:BG b a=0
 s8:Cs b a= -Cs a b
 s9: -1≤Cs a b∧Cs a b≤1
 z:b=[48]→He a b=6
 d:b≠[48]→He (CO a b) b=0∧Ky (CO a b) b=a
theorem SN{a b c:List UInt8}(fa:Jw a 60=true)(fb:Jw b 60=true)(fc:Jw c 60=true):pF a b c:=by
 obtain⟨na,ca⟩:=UL (n:=60) fa;obtain⟨nb,cb⟩:=UL (n:=60) fb;obtain⟨nc,cc⟩:=UL (n:=60) fc;generalize A2 a=p at*;generalize A2 b=q at*;generalize A2 c=r at*;obtain⟨ab,ab0⟩:=na.add nb (by decide);obtain⟨ba,ba0⟩:=nb.add na (by decide);obtain⟨bc,bc0⟩:=nb.add nc (by decide);obtain⟨one,one0⟩:=ab.add nc (by decide);obtain⟨two,two0⟩:=na.add bc (by decide);obtain⟨back,back0⟩:=ab.sub nb (by decide);obtain⟨mp,mp0⟩:=na.mul nb (by decide);obtain⟨mq,mq0⟩:=na.mul nc (by decide);obtain⟨sum,sum0⟩:=mp.add mq (by decide);obtain⟨all,all0⟩:=na.mul bc (by decide);obtain⟨mr,mr0⟩:=nb.mul na (by decide);have cm:=Nu.lO na nb (by decide) (by decide);refine⟨⟨na.len (by decide),nb.len (by decide),nc.len (by decide),ab.len (by decide),bc.len (by decide),mp.len (by decide),mq.len (by decide),one.len (by decide)⟩,ab0,ba0,one0,bc0,two0,back0,ba.same ab (Rat.add_comm ..),two.same one (Rat.add_assoc ..).symm,back.same na Rat.add_sub_cancel,mp0,mq0,sum0,all0,mr0,Nu.BG na nb (by decide) (by decide),Nu.BG one bc (by decide) (by decide),Nu.BG na WQ (by decide) (by decide),all.same sum (Rat.mul_add ..),mr.same mp (Rat.mul_comm ..),?_,?_,Nu.BG nb na (by decide) (by decide),?_,?_,?_,?_⟩
 ·rw[Nu.lO one bc (by decide) (by decide),Nu.lO na WQ (by decide) (by decide),Rat.add_assoc];exact Yl p (q+r)
 ·rw[cm,Sd,Nu.eq_iff na nb]
 ·rw[cm,Nu.lO nb na (by decide) (by decide)];exact bE p q
 ·rw[cm];split
  ·decide
  ·split<;>decide
 ·intro h;have e:Gn a b=6:=by
   unfold Gn;rw[Nu.BG na nb (by decide) (by decide),if_neg (show ¬(0:Int)≠0 by decide),if_pos h]
  unfold He SD;rw[e,if_pos (by decide)]
 ·intro h;have hq:q≠0:=fun e=>h ((nb.Ga (by decide)).2 e)
  obtain⟨dv,dv0⟩:=mp.div nb (by decide) hq;exact⟨dv0,dv.same na (Rat.mul_div_cancel hq)⟩
end Go.Sp
end
section
namespace Go.Pe
open Go.Det
noncomputable abbrev Mi:Ao:=T8
noncomputable abbrev Uf:Ao:=Ue
theorem lR:∀g sp,vW.sp g=some sp→Ae AS g sp:=Aa T31.ok (Aa TP (Aa T18.ok (Aa T19.ok (Aa T20.ok (Aa T21.ok (Aa T22.ok (fun g sp h=>by cases h)))))))
set_option maxRecDepth 10000 in
theorem T4.ok:Ae AS 4 Ue:=by
 refine Ax (X:=vW) rfl lR (d:=9) (by kernel_rfl) (by kernel_rfl) (by kernel_rfl) (fun(i:List UInt8×List UInt8×List UInt8) _=>?_) (Ad (by kernel_rfl));obtain⟨a,b,c⟩:=i;have hq:∀ob,Af Ue (a,b,c) (.dat .bool true) ob:=fun ob=>zB rfl rfl rfl
 refine zr (T4.An a b c) (zc rfl (zf (fun _=>zc rfl (zd (hq _))) (fun fa=>zc rfl (zf (fun _=>zc rfl (zd (hq _))) (fun fb=>zc rfl (zf (fun _=>zc rfl (zd (hq _))) (fun fc=>?_)))))));have f:=Sp.SN (a:=a) (b:=b) (c:=c) (by simpa using fa) (by simpa using fb) (by simpa using fc);obtain⟨l1,l2,l3,l4,l5,l6,l7,l8⟩:=f.l;have ok:∀ {x y:List UInt8},x.length≤1000000→y.length≤1000000→Sp.Ju x y=true:=fun h k=>Ac (decide_eq_true h) (decide_eq_true k)
 have lz:[(48:UInt8)].length≤1000000:=by decide
 have beq:∀x:List UInt8,(!x==x)=false:=fun x=>by simp
 rw[f.e1,f.e2,f.e3,f.e4,f.e5,f.e6,f.s1,f.s2,f.s3,f.e7,f.e8,f.e9,f.e10,f.e11,f.e12,f.e13,f.e14,f.s4,f.s5,f.s6,f.e15,f.s8];refine zc (ok l1 l2) (zc (ok l2 l1) (zc (ok l4 l3) (zc (ok l2 l3) (zc (ok l1 l5) (zc (ok l4 l2) (zn rfl (zn (beq _) (zn (beq _) (zn (beq _) (zc (ok l1 l2) (zc (ok l1 l3) (zc (ok l6 l7) (zc (ok l1 l5) (zc (ok l2 l1) (zc (ok l1 l2) (zc (ok l8 l5) (zc (ok l1 lz) (zn rfl (zn (beq _) (zn (beq _) (zn (by simp) (zn ?_ (zc (ok l2 l1) (zn rfl (zn ?_ (zf (fun z=>?_) (fun z=>?_)))))))))))))))))))))))))))
 ·have h:=f.s7;by_cases k:a=b
  ·rw[h.2 k,k];simp
  ·have k2:(Sp.Cs a b==0)=false:=by simpa using fun e=>k (h.1 e)
   have k3:(a==b)=false:=by simpa using k
   rw[k2,k3];rfl
 ·have h:=f.s9;rw[wr _ (by omega) (by omega),ym];simp
 ·have z:b=[48]:=by simpa using z
  rw[f.z z];exact zc (ok l1 l2) (zc rfl (zc rfl (zd (hq _))))
 ·have z:b≠[48]:=by simpa using z
  rw[(f.d z).1,(f.d z).2];exact zc (ok l6 l2) (zc rfl (zc (by simp) (zc rfl (zd (hq _)))))
end Go.Pe
end
section
namespace Go.Det
open Go.ChangeShapes Go.WideShapes Go.RowKit
theorem BV{α β:Type}{f g:α→Option β}:∀ {l:List α} {ys:List β},l.mapM f=some ys→(∀a∈l,∀y∈ys,f a=some y→g a=some y)→l.mapM g=some ys
 |[],ys,h,_=>by simpa using h
 |a::l,ys,h,hg=>by
  rw[List.mapM_cons]at h ⊢;cases hf:f a with
  |none=>rw[hf]at h;cases h
  |some y=>
   rw[hf]at h;cases hl:l.mapM f with
   |none=>rw[hl]at h;cases h
   |some zs=>
    rw[hl]at h;cases h;rw[hg a (by simp) y (by simp) hf,BV hl (fun b hb z hz hfz=>hg b (by simp[hb]) z (by simp[hz]) hfz)];rfl
def aH(P:Program)(L:List TypeId)(t:TypeId):Bool:=match P.underlying t with
 |some (.pointer e)|some (.array _ e)|some (.map _ e)=>L.contains e
 |some (.slice e)=>L.contains e&&Nat.ble 1 (P.cellsOf e)
 |some (.struct fs)=>fs.toList.all fun f=>L.contains f.type
 |_=>true
def JF(P:Program)(L:List TypeId):Bool:=L.all (aH P L)
section
variable {H:Type}{enc:TypeId×Value→H}{P:Program}{W W':World}
theorem iR{L:List TypeId}(h:JF P L=true){t:TypeId}(ht:t∈L):aH P L t=true:=zM.1 h t ht
theorem UB(hb:Below W.heap.size W W'){a:Addr}{v:Value}(h:W.cell? a=some v):W'.cell? a=some v:=by
 have hl:a.block<W.heap.size:=by
  unfold ye at h;by_cases hh:a.block<W.heap.size
  ·exact hh
  ·rw[zD (by omega)]at h;cases h
 unfold ye at h ⊢;rw[hb.block _ hl];exact h
theorem Tw(hb:Below W.heap.size W W'){a:Addr}{n:Nat}{cs:List Value}(h:W.cells? 0 a n=some cs):W'.cells? 0 a n=some cs:=by
 unfold World.cells? at h ⊢;rw[if_pos (yd _)]at h ⊢;exact BV h fun i _ v _ hv=>UB hb hv
theorem GB(hb:Below W.heap.size W W'){β:Type}{a:Addr}{n:Nat}{f g:List Value→Option β}{y:β}(h:(W.cells? 0 a n).bind f=some y)(hfg:∀cs,f cs=some y→g cs=some y):(W'.cells? 0 a n).bind g=some y:=by
 cases hc:W.cells? 0 a n with
 |none=>rw[hc]at h;cases h
 |some cs=>
  rw[hc]at h;rw[Tw hb hc];exact hfg cs h
theorem Nf(hb:Below W.heap.size W W'){L:List TypeId}(hz:JF P L=true){sp:Nat→Bool}:∀(fuel:Nat) (t:TypeId) (cs:List Value) (x:DataW H×List MemPlace),t∈L→
  zm enc P W 0 (fun _=>true) true fuel t cs=some x→(∀p∈x.2,sp p.block=true)→zm enc P W' 0 sp true fuel t cs=some x
 |0,_,_,_,_,h,_=>by cases h
 |fuel+1,t,cs,x,ht,h,hs=>by
  have ih:=Nf hb hz (sp:=sp) fuel;have hk:=iR hz ht;unfold aH at hk;unfold zm at h ⊢;split at h<;>try simp only[reduceCtorEq]at h
  all_goals try exact h
  case h_6 e a hu=>
   have hke:e∈L:=by rw[hu]at hk;simpa using hk
   cases hm:(W.cells? 0 a (P.cellsOf e)).bind (zm enc P W 0 (fun _=>true) true fuel e)with
   |none=>rw[hm]at h;cases h
   |some y=>
    rw[hm]at h;cases h;rw[GB hb hm (g:=zm enc P W' 0 sp true fuel e) (fun cs hc=>ih e cs y hke hc (fun p hp=>hs p (by simp[hp])))];rfl
  case h_8 e a len cap hu=>
   have hke:e∈L∧P.cellsOf e≠0:=by
    rw[hu]at hk;simp only[ze,List.contains_iff_mem]at hk;have:=Nat.le_of_ble_eq_true hk.2;exact⟨hk.1,by omega⟩
   by_cases hc:0≤a.block∧len≤cap∧cap≤maxLen
   ·rw[if_pos hc]at h ⊢;have step:∀(i:Nat) (y:DataW H×List MemPlace),(W.cells? 0 (a.add (i*P.cellsOf e)) (P.cellsOf e)).bind (zm enc P W 0 (fun _=>true) true fuel e)=some y→(∀p∈y.2,sp p.block=true)→
      (W'.cells? 0 (a.add (i*P.cellsOf e)) (P.cellsOf e)).bind (zm enc P W' 0 sp true fuel e)=some y:=fun i y hy hp=>GB hb hy fun cs hc=>ih e cs y hke.1 hc hp
    cases h1:(yi len).mapM (fun i=>(W.cells? 0 (a.add (i*P.cellsOf e)) (P.cellsOf e)).bind (zm enc P W 0 (fun _=>true) true fuel e))with
    |none=>rw[h1]at h;cases h
    |some ys=>
     rw[h1]at h;simp only[if_true,zz]at h;cases h2:(yi (cap-len)).mapM (fun j=>(W.cells? 0 (a.add ((len+j)*P.cellsOf e)) (P.cellsOf e)).bind (zm enc P W 0 (fun _=>true) true fuel e))with
     |none=>rw[h2]at h;cases h
     |some zs=>
      rw[h2]at h;cases h;rw[BV h1 fun i _ y hy hi=>step i y hi fun p hp=>hs p (zL _ (zH.2 ⟨y,zP _ hy,hp⟩))];have h2':=BV h2 fun j _ y hy hj=>step (len+j) y hj fun p hp=>hs p (zL _ (zH.2 ⟨y,zL _ hy,hp⟩))
      by_cases hsp:sp a.block=true
      ·simp only[hsp,if_true,zz];rw[h2'];rfl
      ·have e0:(ys.length+zs.length)*P.cellsOf e=0:=by
        rcases Nat.eq_zero_or_pos ((ys.length+zs.length)*P.cellsOf e)with h0|h0
        ·exact h0
        ·refine absurd (hs (.cell a.block (a.off+0)) (zP _ ?_)) hsp;simp only[MemPlace.row,List.mem_map,List.mem_range];exact⟨0,h0,rfl⟩
       have e1:zs=[]:=by
        rcases Nat.mul_eq_zero.1 e0 with h0|h0
        ·exact zw.1 (by omega)
        ·exact absurd h0 hke.2
       subst e1;simp only[hsp,zz];rfl
   ·rw[if_neg hc]at h;cases h
  case h_9 cs _ _ fs hu=>
   have hke:∀f∈fs.toList,f.type∈L:=by
    rw[hu]at hk;intro f hf;have:=zM.1 hk f hf;simpa using this
   by_cases hc:cs.length=P.cellsOf t
   ·rw[if_pos hc]at h ⊢;cases h1:fs.toList.mapM (fun f=>zm enc P W 0 (fun _=>true) true fuel f.type ((cs.drop f.offset).take (P.cellsOf f.type)))with
    |none=>rw[h1]at h;cases h
    |some ys=>
     rw[h1]at h;cases h;rw[BV h1 fun f hfm y hy hf=>ih _ _ y (hke f hfm) hf fun p hp=>hs p (zH.2 ⟨y,hy,hp⟩)];rfl
   ·rw[if_neg hc]at h;cases h
  case h_10 cs _ _ n e hu=>
   have hke:e∈L:=by rw[hu]at hk;simpa using hk
   by_cases hc:cs.length=P.cellsOf t
   ·rw[if_pos hc]at h ⊢;cases h1:(yi n).mapM (fun i=>zm enc P W 0 (fun _=>true) true fuel e ((cs.drop (i*P.cellsOf e)).take (P.cellsOf e)))with
    |none=>rw[h1]at h;cases h
    |some ys=>
     rw[h1]at h;cases h;rw[BV h1 fun f _ y hy hf=>ih _ _ y hke hf fun p hp=>hs p (zH.2 ⟨y,hy,hp⟩)];rfl
   ·rw[if_neg hc]at h;cases h
  case h_14 k e b hu=>
   have hke:e∈L:=by rw[hu]at hk;simpa using hk
   have hl:b<W.heap.size:=by
    by_cases hh:b<W.heap.size
    ·exact hh
    ·rw[zD (by omega)]at h;cases h
   rw[hb.block _ hl];split at h
   case h_2=>cases h
   rename_i es clock hes;simp only;split at h
   case isFalse=>cases h
   rename_i hcond;rw[if_pos hcond];cases h1:(es.toList.mapM fun x=>(keyOf P k x.key).bind fun key=>if x.val.formed P e then(zm enc P W 0 (fun _=>true) true fuel e x.val.cells.toList).map fun y=>((key,y.1),y.2)else none)with
   |none=>rw[h1]at h;cases h
   |some ys=>
    rw[h1]at h;simp only[zz]at h;split at h
    case isFalse=>cases h
    rename_i hri;cases h;rw[BV h1 fun en _ y hy hf=>?_]
    ·simp only[zz];rw[if_pos hri]
    ·cases hk:keyOf P k en.key with
     |none=>rw[hk]at hf;cases hf
     |some key=>
      rw[hk]at hf;simp only[zz]at hf ⊢;split at hf
      case isFalse=>cases hf
      rename_i hfo;rw[if_pos hfo];cases htt:zm enc P W 0 (fun _=>true) true fuel e en.val.cells.toList with
      |none=>rw[htt]at hf;cases hf
      |some u=>
       rw[htt]at hf;cases hf;rw[ih _ _ u hke htt fun p hp=>hs p (by simp only[List.mem_cons,zH];exact .inr ⟨_,hy,hp⟩)];rfl
theorem US(hb:Below W.heap.size W W'){L:List TypeId}(hz:JF P L=true){sp:Nat→Bool}{t:TypeId}{v:Value}{d:DataW H}{p:List MemPlace}
  (ht:t∈L) (h:DataW.Trod enc P W 0 (fun _=>true) true t v d p) (hs:∀q∈p,sp q.block=true):DataW.Trod enc P W' 0 sp true t v d p:=by
 obtain⟨fuel,hf⟩:=h;exact⟨fuel,Nf hb hz fuel t _ _ ht hf hs⟩
theorem FV(hb:Below W.heap.size W W'){L:List TypeId}(hz:JF P L=true){sp:Nat→Bool}:∀ {ts:List TypeId} {vs:List Value} {ds:List (DataW H)} {p:List MemPlace},(∀t∈ts,t∈L)→
  DataW.TrodAll enc P W 0 (fun _=>true) true ts vs ds p→(∀q∈p,sp q.block=true)→DataW.TrodAll enc P W' 0 sp true ts vs ds p
 |[],vs,ds,p,_,h,_=>by
  obtain⟨rfl,rfl,rfl⟩:=trodAll_nil h;rfl
 |t::ts,vs,ds,p,hl,h,hs=>by
  obtain⟨v,vs1,d,ds1,a,b,rfl,rfl,rfl,h1,h2⟩:=trodAll_cons h;exact⟨a,b,US hb hz (hl t (by simp)) h1 (fun q hq=>hs q (by simp[hq])),FV hb hz (fun u hu=>hl u (by simp[hu])) h2 (fun q hq=>hs q (by simp[hq])),rfl⟩
theorem PN{f:Func}{s:ChangeSpec}{apart fresh handsOn again:Bool}{args:Array Value}{ds gs:List (DataW H)}{before:List MemPlace}{tb:TypeId}
  (hW:DataW.Whole enc P f.params.toList s.vars apart W args.toList ds gs before) (hv:s.vars=[]) (hr:f.resultTypes= #[tb]) (ht:P.underlying tb=some .bool)
  (hfn:s.fn H ds={ results:=[.lit (.bool true)],args:=ds }) (hb:Below W.heap.size W W') {L:List TypeId} (hz:JF P L=true) (hl:f.params.toList.all L.contains=true):
  s.post enc P f apart fresh handsOn again W args (.bool true) W':=by
 have hlt:=hW.lt;have hl:∀t∈f.params.toList,t∈L:=fun t ht=>by have:=zM.1 hl t ht;simpa using this
 obtain⟨p,q,hA,hV,rfl,hfz,hnd⟩:=hW;have hV':=hV;rw[hv]at hV';obtain⟨rfl,rfl⟩:=trodVars_none hV';simp only[List.append_nil]at hlt hfz hnd ⊢;have hold:∀x∈p,(fun b=>decide (b<W.heap.size)) x.block=true:=fun x hx=>by simpa using hlt x hx
 have hW0:DataW.Whole enc P f.params.toList s.vars apart W args.toList ds [] p:=⟨p,[],hA,hV,by simp,hfz,hnd⟩;have hres:∀(b:Nat) (sp:Nat→Bool) (hd:Bool),DataW.TrodAll enc P W' b sp hd f.resultTypes.toList ((Value.bool true).resultList f.resultTypes.size) [.lit (.bool true)] []:=by
  intro b sp hd;rw[hr];exact⟨[],[],shut_bool ht true,rfl,rfl⟩
 have hok:∀(j:Nat) (t:TypeId) (r:Value),f.resultTypes[j]?=some t→((Value.bool true).resultList f.resultTypes.size)[j]?=some r→Value.okWide P W' .any 0 t r:=by
  exact ok_one hr rfl (okWide_bool_mk ht true)
 have hvars:∀sp:Nat→Bool,DataW.TrodVars enc P W' sp s.vars [] []:=fun sp=>by rw[hv];rfl
 have hfn:s.fn H (ds++[])={ results:=[.lit (.bool true)],args:=ds }:=by rw[List.append_nil];exact hfn
 refine⟨ds,[],p,[],p,[],hW0,?_,?_,?_,World.keptBut_mono (fun x hx=>⟨hx,.inr (.inl hx)⟩) (hb.frame (· ∈p)),fun _=>?_⟩
 ·rw[hfn];exact hres _ _ _
 ·rw[hfn];exact FV hb hz hl hA hold
 ·rw[hfn];exact hvars _
 ·refine⟨hok,_,_,([]++p)++[],⟨[]++p,[],trodAll_append (FV hb hz hl hA (fun _ _=>rfl)) (hres _ _ _),hvars _,rfl,?_,?_⟩,?_⟩
  ·intro b off hp;have hp:MemPlace.cell b off∈p:=by simpa using hp
   rw[hb.frozen (show b<W.heap.size from hlt _ hp)];exact hfz b off hp
  ·intro ha;simpa using hnd ha
  ·intro x hx _;simpa using hx
end
end Go.Det
end
section
namespace Go.Det
noncomputable section
def MA(k:Nat):Value→V
 | .bool b=>.bool b
 | .int q n=>.int q n
 | .string s=>.str s.data.toList
 | .pointer none=>.nilp
 | .slice none 0 0=>.nils
 | .slice (some _) 0 0=>.es0
 | .slice (some ⟨r,off,none⟩) len cap=>if r<k∧len≤cap then .sl r off len cap 0 else .junk
 | .map none=>.nilm
 | .nilFunc=>.nilf
 | .nilIface=>.nili
 |_=>.junk
def nN(W:World)(r:Nat):Nat:=match W.heap[r]? with
 |some (.cells c _ _)=>c.size
 |_=>0
def pW(W:World):Pl:=(yi W.heap.size).map fun r=>(r,nN W r)
theorem KS{W:World}{r:Nat}(h:r<W.heap.size):(pW W)[r]?=some (r,nN W r):=by
 simp[pW,h]
def Oh(W:World)(r:Nat):Option O:=match W.heap[r]? with
 |some (.cells c t _)=>if c.size=0 then none else some (.cells (c.toList.map (MA W.heap.size)) t (0,c.size))
 |_=>none
def Xz(W:World):Nat→H
 |0=>⟨.leaf,0⟩
 |n+1=>⟨(Xz W n).m.set n (Oh W n),n+1⟩
theorem jW(W:World):∀n,(Xz W n).nx=n
 |0=>rfl
 |_+1=>rfl
theorem SE(W:World):∀(n b:Nat),(Xz W n).get b=if b<n then Oh W b else none
 |0,b=>by simp[Xz,H.get]
 |n+1,b=>by
  have ih:=SE W n b;unfold H.get at ih ⊢;simp only[Xz,PM.CM];by_cases e:b=n
  ·subst e;simp
  ·rw[if_neg e,ih];by_cases h:b<n
   ·rw[if_pos h,if_pos (by omega)]
   ·rw[if_neg h,if_neg (by omega)]
def hW(W:World):H:=Xz W W.heap.size
theorem MZ(W:World)(b:Nat):(hW W).get b=Oh W b:=by
 unfold hW;rw[SE];by_cases h:b<W.heap.size
 ·rw[if_pos h]
 ·rw[if_neg h];unfold Oh;rw[zD (by omega)]
theorem Qf{W:World}{v:Value}(h:(MA W.heap.size v).ok=true):Ab (pW W) (MA W.heap.size v) v:=by
 revert h;unfold MA;split<;>intro h
 case h_6=>simp only[Ab];exact⟨_,rfl⟩
 case h_7 r off len cap _=>
  split
  ·rename_i hc;simp only[Ab];exact⟨r,_,cap,KS hc.1,rfl,hc.2,zu _,fun _=>rfl,fun e=>absurd rfl e⟩
  ·rename_i hc;rw[if_neg hc]at h;cases h
 case h_11=>cases h
 all_goals simp only[Ab]
 all_goals rfl
theorem wO(W:World):R (pW W) (hW W) W:=by
 refine⟨by simp[pW,hW,jW],fun b o hb=>?_,fun b b' o o' r n n' hb hb' h1 h2=>?_⟩
 ·rw[MZ]at hb;unfold Oh at hb;split at hb
  case h_2=>cases hb
  rename_i c t fz hc;split at hb
  case isTrue=>cases hb
  cases hb;have hlt:b<W.heap.size:=(zj.1 hc).1;have hs:nN W b=c.size:=by unfold nN;rw[hc]
  refine⟨b,c.size,_,by rw[KS hlt,hs],hc,c,fz,rfl,rfl,by simp,⟨by simp,fun i d v hd hv hok=>?_⟩,fun i hi h1 h2=>⟨yd _,hi⟩⟩;rw[List.getElem?_map]at hd;rw[List.length_map,zW (by have:=(List.getElem?_eq_some_iff.1 hv).1;simp at this;simpa using this)]at hv;rw[hv]at hd;cases hd;exact Qf hok
 ·have key:∀b o r n,(hW W).get b=some o→(pW W)[b]?=some (r,n)→r=b:=by
   intro b o r n hb h1;rw[MZ]at hb;have hlt:b<W.heap.size:=by
    unfold Oh at hb;by_cases h:b<W.heap.size
    ·exact h
    ·rw[zD (by omega)]at hb;cases hb
   rw[KS hlt]at h1;cases h1;rfl
  rw[←key b o r n hb h1, ←key b' o' r n' hb' h2]
theorem fU{W W':World}{p':Pl}{h':H}(he:Ext (pW W) (hW W) W p' h' W'):RowKit.Below W.heap.size W W':=by
 refine⟨he.os,he.tape,he.out,he.size,fun k hk=>?_⟩;by_cases hi:Im (pW W) (hW W) k
 ·obtain⟨b,o,n,h1,h2⟩:=hi;have h1':=h1;rw[MZ]at h1';unfold Oh at h1';split at h1'
  case h_2=>cases h1'
  rename_i c t fz hc;split at h1'
  case isTrue=>cases h1'
  rename_i h0;cases h1';have hlt:b<W.heap.size:=(zj.1 hc).1;have hs:nN W b=c.size:=by unfold nN;rw[hc]
  rw[KS hlt,hs]at h2;cases h2;exact(he.lock _ hk ⟨_,_,_,_,_,h1,by rw[KS hlt,hs],rfl,zu _,Nat.pos_of_ne_zero h0⟩).1
 ·exact he.same k hk hi
end
end Go.Det
end
section
namespace Go.Pe
open Go.Det
noncomputable section
def FW(W:World):Fz:=fun b=>match (hW W).get b with
 |some (.cells cs _ _)=>some cs
 |_=>none
def Ts:(s:Sh)→s.T→Prop
 | .int k,x=>k.min≤(x:Int)∧(x:Int)≤k.max
 | .bool,_=>True
 | .str,x=>(x:List UInt8).length≤maxLen
 | .list s,l=>(l:List s.T).length≤maxLen∧∀x∈(l:List s.T),Ts s x
 | .pair a b,x=>Ts a x.1∧Ts b x.2
 | .unit,_=>True
 | .nlist _,_=>True
 | .fnv,_=>True
def ZJ(P:Program)(f:TypeId→Option Sh):Nat→List Field→Option Sh
 |_,[]=>some .unit
 |o,[x]=>match f x.type with
  |some s=>bif zK x.offset o&&zK (P.cellsOf x.type) s.sz then some s else none
  |none=>none
 |o,x::y::l=>match f x.type with
  |some s=>bif zK x.offset o&&zK (P.cellsOf x.type) s.sz then(ZJ P f (o+s.sz) (y::l)).map (.pair s)else none
  |none=>none
def rF(P:Program):Nat→TypeId→Option Sh
 |0,_=>none
 |f+1,t=>match P.underlying t with
  |some (.int k)=>some (.int k)
  |some .bool=>some .bool
  |some .string=>some .str
  |some (.slice e)=>match rF P f e with
   |some s=>bif zK (P.cellsOf e) s.sz&&Nat.blt 0 s.sz then some (.list s)else none
   |none=>none
  |some (.struct fs)=>match ZJ P (rF P f) 0 fs.toList with
   |some s=>bif zK (P.cellsOf t) s.sz then some s else none
   |none=>none
  |_=>none
section
variable {H:Type}{enc:TypeId×Value→H}{P:Program}{W:World}
theorem Zv{r:Nat}{c:Array Value}{t:TypeId}{fz:Nat×Nat}(h:W.heap[r]?=some (.cells c t fz))(h0:c.size≠0):FW W r=some (c.toList.map (MA W.heap.size)):=by
 unfold FW;rw[MZ];unfold Oh;rw[h];simp only[if_neg h0]
theorem Pm{a:Addr}{n:Nat}{cs:List Value}(h:W.cells? 0 a n=some cs)(hn:0<n):
  ∃c t fz,W.heap[a.block]?=some (.cells c t fz)∧a.spot=none∧a.off+n≤c.size∧cs=(c.toList.drop a.off).take n:=by
 unfold World.cells? at h;rw[if_pos (yd _)]at h;have hl:=mapM_some_length h;have hg:=mapM_some_get h;simp only[List.length_range]at hl;have h0:=hg 0 0 (by simp[hn]);have ha0:a.add 0=a:=by simp[yn]
 rw[ha0]at h0;obtain⟨v0,hv0⟩:∃v,cs[0]?=some v:=⟨cs[0],zt (by omega)⟩;rw[hv0]at h0;unfold ye at h0;split at h0
 case h_2=>cases h0
 rename_i c t fz hb;split at h0
 case isTrue=>cases h0
 rename_i hs;have hs:a.spot=none:=by simpa using hs
 have hc:∀i,i<n→c[a.off+i]?=cs[i]?:=by
  intro i hi;have:=hg i i (by simp[hi]);unfold ye at this;have hb':(a.add i).block=a.block:=by unfold yn;split<;>rfl
  have hs':(a.add i).spot=none:=by unfold yn;split<;>simp[hs]
  have ho':(a.add i).off=a.off+i:=by unfold yn;split<;>simp_all
  rw[hb',hb]at this;simpa [hs',ho']using this
 refine⟨c,t,fz,hb,hs,?_,?_⟩
 ·have:=hc (n-1) (by omega);rw[zt (by omega)]at this;have:=(zj.1 this).1;omega
 ·apply List.ext_getElem?;intro i;by_cases hi:i<n
  ·rw[←hc i hi,zW hi,List.getElem?_drop];simp
  ·rw[zp (by omega),zp (by simp;omega)]
theorem Wd{α:Type}{p:Nat→α→Prop}:∀n:Nat,(∀i,i<n→∃x,p i x)→∃l:List α,l.length=n∧∀i (h:i<l.length),p i l[i]
 |0,_=>⟨[],rfl,fun i h=>absurd h (Nat.not_lt_zero _)⟩
 |n+1,h=>by
  obtain⟨l,h1,h2⟩:=Wd n fun i hi=>h i (by omega)
  obtain⟨x,hx⟩:=h n (by omega);refine⟨l++[x],by simp[h1],fun i hi=>?_⟩;by_cases e:i<l.length
  ·rw[List.getElem_append_left e];exact h2 i e
  ·have:i=n:=by simp at hi;omega
   subst this;rw[List.getElem_append_right (by omega)];simpa [h1]using hx
theorem PJ{f:TypeId→Option Sh}{n:Nat}{cs:List Value}
  (ih:∀(t:TypeId) (s:Sh) (cs:List Value) (y:DataW H×List MemPlace),f t=some s→zm enc P W 0 (fun _=>true) true n t cs=some y→∃x:s.T,DC (FW W) s x (cs.map (MA W.heap.size))∧Ts s x):
  ∀(fs:List Field) (o:Nat) (s:Sh),ZJ P f o fs=some s→(∀x∈fs,∃z,zm enc P W 0 (fun _=>true) true n x.type ((cs.drop x.offset).take (P.cellsOf x.type))=some z)→
   ∃x:s.T,DC (FW W) s x (((cs.map (MA W.heap.size)).drop o).take s.sz)∧Ts s x
 |[],o,s,hs,_=>by
  cases hs;exact⟨(),by simp[DC,Sh.sz],trivial⟩
 |[x],o,s,hs,hx=>by
  unfold ZJ at hs;split at hs
  case h_2=>cases hs
  rename_i s' hs';cases hc:(zK x.offset o&&zK (P.cellsOf x.type) s'.sz)with
  |false=>rw[hc]at hs;cases hs
  |true=>
  rw[hc]at hs;cases hs;simp only[ze]at hc;obtain⟨z,hz⟩:=hx x (by simp);rw[zq hc.1,zq hc.2]at hz;have:=ih _ _ _ _ hs' hz;simpa [yg,yh]using this
 |x::x'::l,o,s,hs,hx=>by
  unfold ZJ at hs;split at hs
  case h_2=>cases hs
  rename_i s' hs';cases hc:(zK x.offset o&&zK (P.cellsOf x.type) s'.sz)with
  |false=>rw[hc]at hs;cases hs
  |true=>
  rw[hc]at hs;simp only[cond_true,Option.map_eq_some_iff]at hs;obtain⟨s2,h2,rfl⟩:=hs;simp only[ze]at hc;obtain⟨z,hz⟩:=hx x (by simp);rw[zq hc.1,zq hc.2]at hz;obtain⟨a,a1,a2⟩:=ih _ _ _ _ hs' hz;obtain⟨b,b1,b2⟩:=PJ ih (x'::l) (o+s'.sz) s2 h2 (fun u hu=>hx u (List.mem_cons_of_mem _ hu));refine⟨(a,b),?_,a2,b2⟩;simp only[DC];refine⟨_,_,?_,a1,b1⟩;rw[yg,yh, ←List.drop_drop];exact List.take_add
theorem QH:∀(k fuel:Nat) (t:TypeId) (s:Sh) (cs:List Value) (y:DataW H×List MemPlace),rF P k t=some s→zm enc P W 0 (fun _=>true) true fuel t cs=some y→
  ∃x:s.T,DC (FW W) s x (cs.map (MA W.heap.size))∧Ts s x
 |0,_,_,_,_,_,hs,_=>by cases hs
 |k+1,fuel,t,s,cs,y,hs,h=>by
  have ih:=QH k;unfold rF at hs;split at hs
  case h_1 q hu=>
   cases hs;obtain⟨n,rfl,_,hw⟩:=DataW.trod_int hu h;exact⟨(n:Int),by simp[DC,MA],by simpa [Ts,Lit.wf]using hw⟩
  case h_2 hu=>
   cases hs;obtain⟨b,rfl,_⟩:=DataW.trod_bool hu h;exact⟨b,by simp[DC,MA],trivial⟩
  case h_3 hu=>
   cases hs;obtain⟨b,rfl,_,hw⟩:=DataW.trod_string hu h;exact⟨b.data.toList,by simp[DC,MA],by show b.data.toList.length≤maxLen;rw[Array.length_toList];exact hw⟩
  case h_4 e hu=>
   split at hs
   case h_2=>cases hs
   rename_i s' hs';cases hc:(zK (P.cellsOf e) s'.sz&&Nat.blt 0 s'.sz)with
   |false=>rw[hc]at hs;cases hs
   |true=>
   rw[hc]at hs;cases hs;simp only[ze]at hc;have hsz:=zq hc.1;have hpos:=Nat.le_of_ble_eq_true hc.2;rcases DataW.trod_slice hu h with⟨rfl,_⟩|⟨a,len,cap,elems,rest,n,rfl,rfl,_,_,hlc,hcm,hel,he,hr,_⟩
   ·exact⟨[],by simp[DC,MA],by simp[Ts]⟩
   ·obtain⟨hrl,hr⟩:=hr rfl;rw[hsz]at he hr;by_cases h0:cap=0
    ·obtain rfl:len=0:=by omega
     subst h0;exact⟨[],by simp[DC,MA],by simp[Ts]⟩
    ·
     have all:∀i,i<cap→∃ci z,W.cells? 0 (a.add (i*s'.sz)) s'.sz=some ci∧zm enc P W 0 (fun _=>true) true n e ci=some z:=by
      intro i hi;by_cases hl:i<len
      ·have h1:=he i hl;rw[zt (by omega)]at h1;rw[zZ]at h1;obtain⟨ci,h2,h3⟩:=h1;exact⟨ci,_,h2,h3⟩
      ·have h1:=hr (i-len) (by omega);rw[show len+(i-len)=i by omega,zt (by omega)]at h1;rw[zZ]at h1;obtain⟨ci,h2,h3⟩:=h1;exact⟨ci,_,h2,h3⟩
     obtain⟨c0,z0,g0,_⟩:=all 0 (by omega);rw[Nat.zero_mul,show a.add 0=a from by simp[yn]]at g0;obtain⟨c,tc,fz,hb,hsp,hoff,_⟩:=Pm g0 hpos;have hlt:a.block<W.heap.size:=(zj.1 hb).1;have hF:=Zv hb (by omega);obtain⟨ab,ao,ax⟩:=a;simp only at hsp hb hoff hlt hF;subst hsp;have cell:∀i,i<cap→ao+i*s'.sz+s'.sz≤c.size∧∃x:s'.T,DC (FW W) s' x (((c.toList.map (MA W.heap.size)).drop (ao+i*s'.sz)).take s'.sz)∧Ts s' x:=by
      intro i hi;obtain⟨ci,z,h1,h2⟩:=all i hi;rw[Addr.GP]at h1;obtain⟨c',tc',fz',hb',_,ho',rfl⟩:=Pm h1 (by omega);simp only at hb' ho';rw[hb]at hb';cases hb';refine⟨ho',?_⟩;have:=ih _ _ _ _ _ hs' h2;simpa [yg,yh]using this
     obtain⟨l,hl1,hl2⟩:=Wd (p:=fun i (x:s'.T)=>DC (FW W) s' x (((c.toList.map (MA W.heap.size)).drop (ao+i*s'.sz)).take s'.sz)∧Ts s' x) len fun i hi=>(cell i (by omega)).2
     refine⟨l,?_,?_⟩
     ·simp only[DC];refine⟨.sl ab ao len cap 0,?_,.inr ⟨ab,ao,cap,0,_,by rw[hl1],by omega,hF,?_,.inl rfl,fun i hi=>(hl2 i hi).1⟩⟩
      ·have:(Value.slice (some ⟨ab,ao,none⟩) len cap)=.slice (some ⟨ab,ao,none⟩) len cap:=rfl;have hne:¬(len=0∧cap=0):=fun h=>h0 h.2
       cases cap with
       |zero=>exact absurd rfl h0
       |succ cap=>simp[MA,hlt,hlc]
      ·rw[hl1];have:=(cell (cap-1) (by omega)).1;have h2:len*s'.sz≤cap*s'.sz:=Nat.mul_le_mul_right _ hlc;have h3:cap*s'.sz=(cap-1)*s'.sz+s'.sz:=by rw[←Nat.succ_mul];congr 1;omega
       simp;omega
     ·simp only[Ts];refine⟨by omega,fun x hx=>?_⟩;obtain⟨i,hi,rfl⟩:=List.mem_iff_getElem.1 hx;exact(hl2 i hi).2
  case h_5 fs hu=>
   split at hs
   case h_2=>cases hs
   rename_i s' hs';cases hc:zK (P.cellsOf t) s'.sz with
   |false=>rw[hc]at hs;cases hs
   |true=>
   rw[hc]at hs;cases hs;have hsz:=zq hc;obtain⟨xs,n,rfl,_,hlen,hxl,hf⟩:=DataW.trod_struct hu h;obtain⟨x,h1,h2⟩:=PJ (cs:=cs) (fun t s cs y h1 h2=>ih n t s cs y h1 h2) fs.toList 0 _ hs' (fun f hfm=>by
    obtain⟨i,hi⟩:=List.mem_iff_getElem?.1 hfm;have hi':fs[i]?=some f:=by simpa using hi
    have:=hf i f hi';have hlt:=(zj.1 hi').1;rw[zt (by omega)]at this;exact⟨_,this⟩)
   refine⟨x,?_,h2⟩;rw[List.drop_zero,zC (by simp;omega)]at h1;exact h1
  case h_6=>cases hs
theorem jS{k:Nat}{t:TypeId}{s:Sh}{v:Value}{d:DataW H}{p:List MemPlace}(hs:rF P k t=some s)(hp:s.O6=false)(hc:v.cells.toList=[v])(h:DataW.Trod enc P W 0 (fun _=>true) true t v d p):
  ∃x:s.T,PC (FW W) (B2 s x) (MA W.heap.size v)∧Ts s x∧Ab (pW W) (MA W.heap.size v) v:=by
 obtain⟨fuel,hf⟩:=h;rw[hc]at hf;obtain⟨x,h1,h2⟩:=QH k fuel t s [v] (d,p) hs hf;simp only[List.map_cons,List.map_nil]at h1;exact⟨x,(PC.B2 h1).2 hp _ rfl,h2,Qf (h1.ok _ (by simp))⟩
end
end
end Go.Pe
end
section
namespace Go.Pe
open Go.Det Go.RowKit
noncomputable section
open Go.Proofs.Tryz (prog)
theorem Ty{F':Fz}{v:V}(h:PC F' (.dat .bool true) v):v=.bool true:=by
 have:=h (fun _=>none) 0;simp only[PR,DC]at this;simpa using this
def GW(W:World):Prop:=∀x∈Fu,Oh W x.1=some x.2
theorem GW.h{W:World}(h:GW W):Gh (hW W):=fun x hx=>by rw[MZ];exact h x hx
theorem GW.p{W:World}(h:GW W):Gp (pW W):=fun x hx=>by
 have h1:=h x hx;unfold Oh at h1;split at h1
 case h_2=>cases h1
 rename_i c t fz hc;split at h1
 case isTrue=>cases h1
 have hlt:x.1<W.heap.size:=(zj.1 hc).1;have hs:nN W x.1=c.size:=by unfold nN;rw[hc]
 rw[KS hlt,hs];cases hx2:x.2 with
 |cells cs t' fz'=>rw[hx2]at h1;cases h1;simp[wZ]
 |_=>rw[hx2]at h1;cases h1
theorem Hw{f:FuncId}{sp:Ao}(ok:Ae AS f sp)(i:(Bz sp.ins).T)(hpre:sp.pre i=true){args:List V}{args':Array Value}{W:World}(hgw:GW W)(hP:Ll (FW W) (Ah sp.ins i) args)
  (ha:Ap (pW W) args args'.toList) (hres:∀F' v,PC F' (one (Ah sp.outs (sp.f i))) v→v=.bool true) (hp:AS.prim f=none:=by kernel_rfl):
  Calls prog f args' W fun e W'=>e=.returned (.bool true)∧Below W.heap.size W W':=by
 obtain⟨l,M,h1,_,h2⟩:=(ok.zero hp).run (FW W) (hW W) args i (fun b cs h=>by
  unfold FW at h;split at h
  case h_2=>cases h
  rename_i cs' t fz hg;cases h;exact⟨t,fz,hg⟩) (fun b o h=>(wO W).lt h) hgw.h hP hpre
 refine((HQ qQ Yu Q3 M).fn f args (hW W) l (h1 M (zu _)) (pW W) W args' (wO W) hgw.p ha).mono ?_;rintro e w' ⟨v,h',v',p',hm,rfl,hv,hx⟩;obtain⟨_,_,_,F',_,_,_,hr⟩:=h2 _ hm;obtain rfl:=hres F' v hr;refine⟨?_,fU hx⟩;simp only[Ab]at hv;rw[hv]
end
end Go.Pe
end
