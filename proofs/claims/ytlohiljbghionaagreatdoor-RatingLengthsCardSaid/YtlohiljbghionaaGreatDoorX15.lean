import Derived.Test.YtlohiljbghionaaGreatDoorX14
import Derived.Test.YtlohiljbghionaaGreatDoorX13
import Derived.Test.YtlohiljbghionaaGreatDoorX09
/- A part of a proof (no law is stated here). Made by program out of texts by AI agents. -/
noncomputable section
set_option maxRecDepth 10000
open Go.Pe.Ends renaming tt -> zc, leaf -> ze, ite -> zf, Ah -> zl, eq -> zn, ff -> zw
open Bool renaming and_eq_true -> zd, or_eq_false_iff -> z7, true_and -> z8, not_eq_true' -> yp, and_eq_false_iff -> yr, and_true -> qe, or_eq_true -> qp
open Go.IntKind renaming wrap -> zg, i64 -> yh
open List renaming length_cons -> zh, all_eq_true -> zk, getD_eq_getElem?_getD -> zm, length_append -> zp, length_eq_zero_iff -> zu, getElem?_eq_getElem -> zx, length_singleton -> ye, mem_cons_self -> ym, take_of_length_le -> yo, getElem?_eq_none -> yq, length_take -> yt, mem_cons -> yv, length_map -> yz, all_cons -> qf, length_drop -> qg, drop_eq_nil_of_le -> qi, headD_cons -> qq
open Go.Lib renaming decDigits -> zi, itoa -> y9
open Rat renaming divInt -> zj, not_lt -> yk, ne_of_gt -> ql, num_eq_zero -> qn, num_intCast -> qo, floor_def -> qw, le_of_lt -> qz
open Int renaming toNat_natCast -> zo, lt_of_lt_of_le -> yb, le_of_lt -> yi, gcd -> yu, natAbs_of_nonneg -> yx, mul_ne_zero -> yy, natAbs_mul -> y7, mul_ediv_cancel_left -> qd, tdiv_eq_ediv_of_dvd -> qh, sign_eq_one_of_pos -> qj, ediv_nonneg -> qm, mul_nonneg -> qt, mul_neg -> qu, gcd_comm -> qy
open Go.Sp renaming first -> zq, isName -> zz, letter -> z6, rW -> yd, rN -> yj, B9 -> yn, mark -> yw, vR -> qv, Df -> q9
open Go.Pe.Ad renaming of -> zr
open Go.Pe.Sh renaming list -> zt, str -> ya, bool -> yc, int -> qx
open Nat renaming le_refl -> zy, pow_le_pow_right -> yg, lt_of_le_of_lt -> y8, add_sub_cancel -> qc, beq_refl -> qk
open Classical renaming not_not -> yf
namespace Go.Sp
open Go.Lib
theorem W8(n:Int):rN n=decide (n<0):=rfl
theorem Jo(a:Bool×List Int):(a.1=true->vR a= -An a.2)/\(a.1=false->vR a=An a.2):=by
 unfold vR;exact⟨fun h=>by rw[wd h],fun h=>by rw[wc<|by rw[h];decide]⟩
theorem KU{neg:Bool}{w:List Int}{n:Int}(c:Ay B9 w)(h0:0<=An w)(a:neg=true->n= -An w)(b:neg=false->n=An w):(CH neg w,Ax w)=(rN n,rW n):=by
 refine jU c ?_<|fun d=>?_
 ·rw[Aj];cases neg with
  |true=>have:=a rfl;omega
  |false=>have:=b rfl;omega
 ·rw[W8];cases neg with
  |true=>have:=a rfl;symm;rw[w5];omega
  |false=>have:=b rfl;symm;rw[w9];omega
theorem ED{n:Int}(h:0<=n):An (BL n)=n/\Ay B9 (BL n):=⟨Dd (b:=B9) (by decide) h,FR (b:=B9) (by decide) n⟩
theorem bS{a b:Bool×List Int}(f:Cu a=true)(e:Cu b=true)(h:a.1=b.1):(CH a.1<|Ij a.2 b.2,Ax<|Ij a.2 b.2)=(Nq a b,NC a b):=by
 have a0:=(EV f).2;have g:=(EV e).2;obtain⟨c,d⟩:=Jo a;obtain⟨f1,f2⟩:=Jo b;obtain⟨hv,hd⟩:=ED (n:=An a.2+An b.2) (by omega);refine KU hd (by show 0<=An (BL _);omega) (fun k=>?_)<|fun k=>?_
 ·rw[c k,f1<|by rw[<-h];exact k];show _= -An (BL _);omega
 ·rw[d k,f2<|by rw[<-h];exact k];show _=An (BL _);omega
theorem ZL{a b:Bool×List Int}(c:Cu b=true)(h:a.1≠b.1)(f:An b.2<=An a.2):(CH a.1<|Jc a.2 b.2,Ax<|Jc a.2 b.2)=(Nq a b,NC a b):=by
 have g:=(EV c).2;obtain⟨d,e⟩:=Jo a;obtain⟨f1,f2⟩:=Jo b;obtain⟨hv,hd⟩:=ED (n:=An a.2-An b.2) (by omega);refine KU hd (by show 0<=An (BL _);omega) (fun k=>?_)<|fun k=>?_
 ·rw[d k,f2 (by rw[k]at h;cases c:b.1 with|true=>exact wh c.symm h|false=>rfl)];show _= -An (BL _);omega
 ·rw[e k,f1 (by rw[k]at h;cases c:b.1 with|true=>rfl|false=>exact wh c.symm h)];show _=An (BL _);omega
theorem wT{a b:Bool×List Int}(d:Cu a=true)(h:a.1≠b.1)(c:An a.2<=An b.2):(CH b.1<|Jc b.2 a.2,Ax<|Jc b.2 a.2)=(Nq a b,NC a b):=by
 have:=ZL d (fun k=>h k.symm) c;rw[this];unfold Nq NC;rw[Int.add_comm]
theorem nB{a b:Bool×List Int}(i:Cu a=true)(h:Cu b=true):(CH (a.1 !=b.1)<|BL<|An a.2*An b.2,Ax<|BL<|An a.2*An b.2)=(Ib a b,HT a b):=by
 have a0:=(EV i).2;have g:=(EV h).2;obtain⟨e,f⟩:=Jo a;obtain⟨f1,f2⟩:=Jo b;have p0:=qt a0 g;obtain⟨hv,hd⟩:=ED p0;refine KU hd (by omega) (fun k=>?_)<|fun k=>?_
 ·rw[hv];cases d:a.1<;>cases c:b.1<;>rw[d,c]at k
  ·exact wh k (by decide)
  ·rw[f d,f1 c,qu]
  ·rw[e d,f2 c,Int.neg_mul]
  ·exact wh k (by decide)
 ·rw[hv];cases d:a.1<;>cases c:b.1<;>rw[d,c]at k
  ·rw[f d,f2 c]
  ·exact wh k (by decide)
  ·exact wh k (by decide)
  ·rw[e d,f1 c,Int.neg_mul,qu,Int.neg_neg]
theorem oI{a:Bool×List Int}(b:Cu a=true):(CH (!a.1) a.2,Ax a.2)=(SA a,S6 a):=by
 have a0:=(EV b).2;obtain⟨d,c⟩:=Jo a;refine KU (Bp (Dl b).1).2.1 a0 (fun k=>?_)<|fun k=>?_
 ·rw[c<|by simpa using k]
 ·rw[d (by simpa using k),Int.neg_neg]
theorem MH{b:Bool×List Int}(a:Cu b=true)(h0:0<vR b):b.1=false/\vR b=An b.2:=by
 have e:=(EV a).2;obtain⟨d,c⟩:=Jo b;cases h:b.1 with
 |true=>have:=d h;omega
 |false=>exact⟨rfl,c h⟩
theorem pP{A b:Int}(c:0<b)(hr:A % b≠0): -A/b= -(A/b+1):=by
 have d:=Int.mul_ediv_add_emod A b;have e:=Int.emod_nonneg A (show b≠0 by omega);have f:=Int.emod_lt_of_pos A c;refine((Int.ediv_emod_unique (a:= -A) (b:=b) (r:=b-A % b) (q:= -(A/b+1)) c).2 ⟨?_,by omega,by omega⟩).1;rw[qu,Int.mul_add,Int.mul_one];omega
theorem XB{A b:Int}(c:0<b)(hr:A % b=0): -A/b= -(A/b):=by
 have d:=Int.mul_ediv_add_emod A b;refine((Int.ediv_emod_unique (a:= -A) (b:=b) (r:=0) (q:= -(A/b)) c).2 ⟨?_,by omega,c⟩).1;rw[qu];omega
theorem PZ{a b:Bool×List Int}(d:Cu a=true)(c:Cu b=true)(h0:0<vR b)(h:a.1=false\/An a.2 % An b.2=0):(CH a.1<|BL<|An a.2/An b.2,Ax<|BL<|An a.2/An b.2)=(I3 a b,IN a b):=by
 have a0:=(EV d).2;obtain⟨e,g⟩:=Jo a;obtain⟨_,f⟩:=MH c h0;rw[f]at h0;have q0:=qm a0<|yi h0;obtain⟨hv,hd⟩:=ED q0;refine KU hd (by omega) (fun k=>?_)<|fun k=>?_
 ·rw[hv,e k,f];rcases h with h|h
  ·rw[k]at h;cases h
  ·exact XB h0 h
 ·rw[hv,g k,f]
theorem WZ{a b:Bool×List Int}(i:Cu a=true)(c:Cu b=true)(h0:0<vR b)(h:a.1=true)(hr:An a.2 % An b.2≠0):(CH a.1<|Ij (BL<|An a.2/An b.2) [1],Ax<|Ij (BL<|An a.2/An b.2) [1])=(I3 a b,IN a b):=by
 have a0:=(EV i).2;obtain⟨j,l⟩:=Jo a;obtain⟨_,f⟩:=MH c h0;rw[f]at h0;have q0:=qm a0<|yi h0;have e:Ij (BL<|An a.2/An b.2) [1]=BL (An a.2/An b.2+1):=by
  unfold Ij;rw[(ED q0).1];rfl
 rw[e];obtain⟨d,g⟩:=ED (n:=An a.2/An b.2+1) (by omega);refine KU g (by omega) (fun k=>?_)<|fun k=>?_
 ·rw[d,j k,f];exact pP h0 hr
 ·rw[h]at k;cases k
theorem qU{w:List Int}{i:Nat}(a:w.length=i+1):val B9 (w.drop i)=w.getD i 0:=by
 rw[Hm,qi<|by omega];show _+1000000000*0=_;omega
theorem XP{w:List Int}(a:Ba w=true){i:Nat}(b:w.length=i+1):Iz (w.getD i 0) 1=decDigits (val B9<|w.drop i).toNat/\0<val B9 (w.drop i):=by
 have g:=BG a i;have t:=SW a (i:=i) (by omega) (by omega);rw[qU b];exact⟨PY g.1 (by omega),by omega⟩
theorem cI{w:List Int}(a:Ba w=true)(i:Nat)(h0:0<val B9 (w.drop<|i+1)):decDigits (val B9<|w.drop<|i+1).toNat++Iz (w.getD i 0) 9=decDigits (val B9<|w.drop i).toNat/\0<val B9 (w.drop i):=by
 have g:=BG a i;rw[Hm w i,eR g.1 g.2];generalize val B9 (w.drop<|i+1)=V at*;generalize w.getD i 0=x at*;have h:=TH 9 V.toNat x.toNat (by decide) (by omega) (by omega);refine⟨?_,by omega⟩;rw[<-h];congr 1;omega
theorem lT{a:Bool×List Int}(d:Cu a=true)(c:a.2≠[]):(if a.1=true then 45::decDigits (An a.2).toNat else decDigits (An a.2).toNat)=FO a:=by
 obtain⟨f,e⟩:=Jo a;have h0:0<An a.2:=JV (b:=B9) (by decide) (Bp (Dl d).1).2.1 (Bp (Dl d).1).2.2 c;unfold FO AX itoa;by_cases h:a.1=true
 ·rw[wd h,f h,wd (by omega),show(-An a.2).natAbs=(An a.2).toNat by omega]
 ·have h:a.1=false:=by simpa using h
  rw[wc (by rw[h];decide),e h,wc<|by omega]
theorem jG{a:Bool×List Int}(h:a.2=[]):[48]=FO a:=by
 have:vR a=0:=by
  unfold vR;rw[h];split<;>rfl
 unfold FO AX itoa;rw[this,wc (by decide),show(0:Int).toNat=0 from rfl,decDigits_one<|by decide];rfl
theorem HQ{N D:Int}(b:0<D):0<gI (Ag N) D/\Ag N/gI (Ag N) D=Ag (zj N D).num/\D/gI (Ag N) D=((zj N D).den:Int)/\(N<0↔(zj N D).num<0):=by
 have l:D.sign=1:=qj b;have e:(zj N D).num=N/(yu N D:Int):=by rw[Rat.num_divInt,l,Int.one_mul,qy]
 have f:((zj N D).den:Int)=D/(yu N D:Int):=by
  rw[Rat.den_divInt,wc<|Int.ne_of_gt b,qy,Int.natCast_ediv];rw[yx<|yi b]
 have i:gI (Ag N) D=(yu N D:Int):=by rw[Ha,Aj];rfl
 have a:0<yu N D:=Int.gcd_pos_of_ne_zero_right _ (by omega);obtain⟨k,d⟩:(yu N D:Int)∣N:=Int.gcd_dvd_left ..;rw[i,e,f];have a:(0:Int)<(yu N D:Int):=by omega
 generalize (yu N D:Int)=g at*;have c:N/g=k:=by rw[d,qd _<|by omega]
 have j:Ag N/g=Ag k:=by
  rw[Aj,Aj,d,y7,Int.natCast_mul,show((g.natAbs:Nat):Int)=g by omega,qd _<|by omega]
 refine⟨a,by rw[c,j],rfl,?_⟩;rw[c];constructor
 ·intro h;rcases Int.lt_or_le k 0 with x|x
  ·exact x
  ·have:=qt (yi a) x;omega
 ·intro h;have:=Int.mul_neg_of_pos_of_neg a h;omega
theorem iN{N D:Int}(d:0<D){neg:Bool}(a:neg=rN N):(CH neg<|BL<|Ag N/gI (Ag N) D,Ax<|BL<|Ag N/gI (Ag N) D)=(rN (zj N D).num,rW (zj N D).num):=by
 obtain⟨_,b,_,c⟩:=HQ (N:=N) d;rw[b];have a0:=Od (zj N D).num;obtain⟨hv,hd⟩:=ED a0;refine jU hd hv<|fun _=>?_;rw[a,W8,W8,decide_eq_decide];exact c
theorem wX{n:Int}(h0:0<=n):BL n=[1]↔n=1:=by
 constructor
 ·intro h;have:=(ED h0).1;rw[h]at this;exact this.symm
 ·rintro rfl;rfl
theorem R8{N D:Int}:Dp N D=if (zj N D).den=1 then AX (zj N D).num else AX (zj N D).num++47::AX ((zj N D).den:Int):=by
 unfold Dp AU;split
 ·rfl
 ·rw[show AX ((zj N D).den:Int)=decDigits (zj N D).den from Lib.itoa_nonneg _];rfl
theorem Wn(N D:Int):Dp (-N) (-D)=Dp N D:=by
 unfold Dp;rw[Rat.neg_divInt_neg]
theorem QC{s:Z}(h:Bj s=true):Bd s=IP s/\AN s=Uy s/\Ap (AA<|A8 s)=true/\Ap (AS<|A8 s)=true:=by
 obtain⟨t,_⟩:=F5 h;obtain⟨c1,c2,c3⟩:=FA<|Au s;obtain⟨p1,p2,p3,p4⟩:=YQ s;obtain⟨i1,i2,i3,i4⟩:=Dw (Au s).num;rw[t]at c1 c2 c3;have b:Ap (AS s)=true:=by
  rw[c2];split
  ·rfl
  ·exact D3 _
 refine⟨?_,?_,?_,?_⟩
 ·unfold Bd IP BC;rw[p1, <-p4];unfold A8 preB;by_cases a:(AA s).getD 0 0=45
  ·rw[wd a,wd a,wd<|w4 a]
  ·rw[wc a,wc a,wc<|by rw[w8 a];decide]
 ·unfold AN Uy BC;rw[p2,p3,wc<|EZ b]
 ·rw[p1,c1,i2];exact D3 _
 ·rw[p2];exact b
theorem GU{s:Z}(h:Bj s=true)(a:Ee s=true):lX s=Bd s/\VB s=AN s/\ -1000000000<Bd s/\Bd s<1000000000/\0<AN s/\AN s<1000000000:=by
 obtain⟨b,c,g,f⟩:=QC h;have e:0<AN s:=by
  have:=(D8 h).2.2.2.2.2.1;have:=(Au s).den_pos;omega
 unfold lX VB;rw[wd a,wd a];unfold Ee at a;rw[zd,zd,w5,w5,w5]at a;obtain⟨⟨_,l1⟩,d⟩:=a;have k:=Bg g;have i:=Bg f;have j:(10:Int)^(AA<|A8 s).length<=10^9:=AL (by decide) l1;have l:(10:Int)^(AS<|A8 s).length<=10^9:=AL (by decide) d;refine⟨b.symm,c.symm,?_,?_,e,?_⟩
 ·rw[b];unfold IP;split<;>omega
 ·rw[b];unfold IP;split<;>omega
 ·rw[c];unfold Uy;split<;>omega
theorem cZ{a b:Z}(d:Bj a=true)(c:Bj b=true):CR a b=Dp (Bd a*AN b+AN a*Bd b) (AN a*AN b)/\CR a b=Dp (Bd a*AN b+Bd b*AN a) (AN a*AN b):=by
 have f:AN a≠0:=by
  have:=(D8 d).2.2.2.2.2.1;have:=(Au a).den_pos;omega
 have g:AN b≠0:=by
  have:=(D8 c).2.2.2.2.2.1;have:=(Au b).den_pos;omega
 have e:CR a b=Dp (Bd a*AN b+Bd b*AN a) (AN a*AN b):=by
  unfold CR Dp Au;rw[Rat.divInt_add_divInt _ _ f g]
 exact⟨by rw[e,Int.mul_comm (AN a)<|Bd b],e⟩
theorem bL{a b:Z}:Ka a b=Dp (Bd a*Bd b) (AN a*AN b):=by
 unfold Ka Dp Au;rw[Rat.divInt_mul_divInt]
theorem bJ{a:Z}:Rb a=Dp (AN a) (Bd a):=by
 unfold Rb Dp Au;rw[Rat.inv_divInt]
end Go.Sp
namespace Go.Sp
theorem V8:∀(f n l:Nat) (a:Z),(HL f n l a).length<=a.length+f
 |0,_,_,a=>zy _
 |f+1,n,l,a=>by
  unfold HL;split
  ·omega
  ·have:=V8 f (n/10) l (UInt8.ofNat (48+n % 10)::a);rw[zh]at this;omega
theorem OM(n l:Int):(Iz n l).length<=64:=by
 have:=V8 64 n.toNat l.toNat [];rw[List.length_nil,Nat.zero_add]at this;exact this
theorem UE{v:Int}{k:Nat}(h:v<(B9:Int)^k)(b:1<=k):(zi v.toNat).length<=9*k:=by
 rw[Yr]at h;have a:((10^(9*k):Nat):Int)=(10:Int)^(9*k):=Int.natCast_pow ..;rw[<-a]at h;refine Gn (k:=9*k) ?_ (by omega);have hp:0<10^(9*k):=Nat.pow_pos (by decide);generalize 10^(9*k)=P at*;omega
end Go.Sp
namespace Go.Pe
open Sp
open Go.Det
theorem Abo{s:Sh}(b:s.sz=1){id n:Nat}{tail:Ob}{fz:Bool}{t:TypeId}{o:List s.T}(e:n=o.length):EC ⟨0,.leaf,(id,.arr fz t s o)::tail,0⟩ (.list s) (.sl id 1 0 n none)=some (true,o):=by
 subst e;have f:AP ((id,Obj.arr fz t s o)::tail) id=some (.arr fz t s o):=by unfold AP;rw[qk];rfl
 unfold EC;have a:Dk ⟨0,.leaf,(id,.arr fz t s o)::tail,0⟩ (PV.cells<|.sl id 1 0 o.length none)=some (true,[.dat (.list s) o]):=by
  show(match B1 ⟨0,.leaf,(id,.arr fz t s o)::tail,0⟩ (.sl id 1 0 o.length none),some (true,[])with|some (c,x),some (d,xs)=>some (c&&d,x::xs)|_,_=>none)=_;have:B1 ⟨0,.leaf,(id,.arr fz t s o)::tail,0⟩ (.sl id 1 0 o.length none)=some (true,.dat (.list s) o):=by
   unfold B1 AM.obj;simp only[f,b,qk,we];simp
  rw[this];rfl
 simp only[Mr,Sh.Q4];show(match Dk ⟨0,.leaf,(id,.arr fz t s o)::tail,0⟩ (PV.cells<|.sl id 1 0 o.length none)with|some (c,cs)=>_|none=>none)=_;rw[a];have:Dq (.list s) [PV.dat (.list s) o]=some o:=by
  unfold Dq Cx uT DT;simp
 simp only[QM,this,z8]
theorem uH{s:Sh}(b:s.sz=1){id n:Nat}{tail:Ob}{fz:Bool}{t:TypeId}{o:List s.T}(a:n=o.length):Iq [.list s] (.sl id 1 0 n none) ((id,.arr fz t s o)::tail)=some (true,o):=Abo b a
theorem Ia(a:List Int)(i:Nat):Il a (i:Int)=a.getD i 0:=by unfold Il;rw[zo]
theorem sL:C9 XR0:=fun g sp h=>by cases h
theorem T195.ok:Af A6 195 Xq:=by
 refine BO sL<|fun(i:List Int×Int) hi=>?_;obtain⟨a,i⟩:=i;have h0:0<=i:=w6 hi;have b:∀v ob,v=Il a i->Ad Xq (a,i) (.dat i64 v) ob:=fun v ob h=>zr rfl rfl h
 refine zn (T195.Ai a i)<|zf (fun c=>zc (Ab (w4 h0) c)<|ze<|b _ _ rfl)<|fun c=>ze<|b _ _ ?_;have c:=w7 c;unfold Il;rw[zm,yq<|by omega];rfl
theorem Y1:C9 WK:=Aa T195.ok<|Aa T193.ok AI
theorem RB{x y c:Int}(d:0<=x/\x<1000000000)(a:0<=y/\y<1000000000)(b:0<=c/\c<=1):
  zg .i64 (zg .i64 (x+y)+c)=x+y+c/\Int.tmod (x+y+c) 1000000000=(x+y+c) % 1000000000/\zg .i64 (Int.tdiv (x+y+c) 1000000000)=(x+y+c)/1000000000:=by
 refine⟨?_,Int.tmod_eq_emod_of_nonneg (by omega),?_⟩
 ·rw[wr (x+y) (by omega)<|by omega];exact wr _ (by omega) (by omega)
 ·rw[Int.tdiv_eq_ediv_of_nonneg<|by omega];exact wr _ (by omega) (by omega)
theorem lY{a b:List Int}(h:mO a b=true):Ba a=true/\Ba b=true/\a.length<=9000/\b.length<=9000:=by
 unfold mO at h;rw[zd,zd,zd,w5,w5]at h;exact⟨h.1.1.1,h.1.1.2,h.1.2,h.2⟩
theorem Yp{a b:List Int}(f:Ba a=true)(c:Ba b=true)(e:a.length<=9000)(d:b.length<=9000):mO a b=true:=by
 unfold mO;rw[f,c,w4 e,w4 d];rfl
namespace T156
variable {Q:PV->Ob->Prop}
theorem done(a b o:List Int)(i:Nat)(e:a.length<=i)(d:b.length<=i)(c:Q (.sl 0 1 0 o.length none) [(0,.arr false 3 (.int .i64) o)]):Ends WK (L2 a b o.length 0 i o) Q:=
 zl (AH ..) (zw (w8<|by omega)<|zw (w8<|by omega)<|zw (by decide)<|ze c)
theorem A2(a b:List Int)(l:Ba a=true)(j:Ba b=true)(x:a.length<=9000)(z:b.length<=9000)(w:Q (.sl 0 1 0 (Ij a b).length none) [(0,.arr false 3 (.int .i64)<|Ij a b)]):∀(k i:Nat) (o:List Int) (c:Int),i+k=max a.length b.length->Gc a b i o c->Ends WK (L2 a b o.length c i o) Q:=by
 have d:∀(i:Nat) (o:List Int),a.length<=i->b.length<=i->Gc a b i o 0->Ends WK (L2 a b o.length 0 i o) Q:=fun i o n e h=>by
  have:=h.fin n e;exact done a b o i n e (by rw[this];exact w)
 have next:∀(i:Nat) (o:List Int) (c:Int),i<=9000->Gc a b i o c->(i<a.length\/i<b.length\/0<c->Ends WK (L2 a b (o++[(a.getD i 0+b.getD i 0+c) % 1000000000]).length ((a.getD i 0+b.getD i 0+c)/1000000000) ((i+1:Nat):Int)<|o++[(a.getD i 0+b.getD i 0+c) % 1000000000]) Q)->Ends WK (L2 a b o.length c i o) Q:=fun i o c s h go=>by
  obtain⟨s1,s2,s3⟩:=RB (BG l i) (BG j i) h.c01;have g:=wn (i:=i) (by omega);have y:=h.len;have cap:(decide ((1:Nat)<=(1:Nat))&&true&&decide (o.length=o.length)&&decide ((3*(o.length+1)+2000)*8<=562949953421312))=true:=by
   rw[w4<|zy 1,w4 (p:=o.length=o.length) rfl,qe,z8];exact w4 (by omega)
  have h0:decide ((0:Int)<=(i:Int))=true:=w4 (by omega);rw[zp]at go;by_cases m:(i:Int)<(a.length:Int)
  ·refine zl (AH ..) ?_;conv=>zeta
   rw[Ia,Ia,s1,s2,s3,g];exact zc (w4 m) (zc h0<|zc h0<|zc rfl (zc cap<|zc rfl (go<|.inl<|by omega)))
  ·by_cases q:(i:Int)<(b.length:Int)
   ·refine zl (AH ..) ?_;conv=>zeta
    rw[Ia,Ia,s1,s2,s3,g];exact zw (w8 m) (zc (w4 q)<|zc h0 (zc h0<|zc rfl (zc cap<|zc rfl (go<|.inr<|.inl<|by omega))))
   ·by_cases r:c>0
    ·refine zl (AH ..) ?_;conv=>zeta
     rw[Ia,Ia,s1,s2,s3,g];exact zw (w8 m)<|zw (w8 q)<|zc (w4 r)<|zc h0<|zc h0<|zc rfl (zc cap<|zc rfl (go<|.inr<|.inr r))
    ·obtain rfl:c=0:=by have:=h.c01;omega
     exact d i o (by omega) (by omega) h
 intro k;induction k with
 |zero=>
  intro i o c s h;refine next i o c (by omega) h (fun f=>?_);have e:=h.step l j f;have t:a.getD i 0=0:=by rw[zm,yq<|by omega];rfl
  have z2:b.getD i 0=0:=by rw[zm,yq<|by omega];rfl
  have v:=h.c01;have z3:(a.getD i 0+b.getD i 0+c)/1000000000=0:=by rw[t,z2];omega
  rw[z3]at e ⊢;exact d (i+1) _ (by omega) (by omega) e
 |succ k u=>
  intro i o c s h;exact next i o c (by omega) h (fun f=>u (i+1) _ _ (by omega)<|h.step l j f)
theorem ok:Af A6 156 Xx:=by
 refine BO Y1<|fun(i:List Int×List Int) hi=>?_;obtain⟨a,b⟩:=i;obtain⟨ha,hb,la,lb⟩:=lY hi;obtain⟨s1,s2,s3⟩:=RB (BG ha 0) (BG hb 0) (c:=0) (by decide);have h0:=Gc.start a b;have l:(0:Int)=((0:Nat):Int):=rfl;have go:(0<a.length\/0<b.length)->Ends WK (L2 a b 1 ((a.getD 0 0+b.getD 0 0+0)/1000000000) ((1:Nat):Int) [(a.getD 0 0+b.getD 0 0+0) % 1000000000]) (Ad Xx (a,b)):=fun f=>
  A2 a b ha hb la lb (zr (uH rfl rfl) rfl rfl) (max a.length b.length-1) 1 _ _ (by omega) (h0.step ha hb<|by rcases f with h|h<;>omega)
 refine zn (Ai a b)<|zl (Al ..) ?_;have j:Il a 0=a.getD 0 0:=rfl;have k:Il b 0=b.getD 0 0:=rfl;have g:zg .i64 ((0:Int)+1)=((1:Nat):Int):=rfl;rw[j,k,s1,s2,s3,g];refine zf (fun c=>?_)<|fun e=>zf (fun c=>?_)<|fun d=>zw rfl (ze<|zr (y:=[]) rfl rfl ?_)
 ·exact zc rfl (zc rfl (zc rfl (zc rfl (zc rfl (go<|.inl (by have:=w6 c;omega))))))
 ·exact zc rfl (zc rfl (zc rfl (zc rfl (zc rfl (go<|.inr (by have:=w6 c;omega))))))
 ·have e:=w7 e;have d:=w7 d;exact h0.fin (by omega) (by omega)
end T156
namespace T158
variable {Q:PV->Ob->Prop}
theorem Hp{x y c:Int}(d:0<=x/\x<1000000000)(a:0<=y/\y<1000000000)(b:0<=c/\c<=1):
  zg .i64 (zg .i64 (x-y)-c)=x-y-c/\zg .i64 (x-y-c+1000000000)=x-y-c+1000000000:=by
 refine⟨?_,wr _ (by omega)<|by omega⟩;rw[wr (x-y) (by omega)<|by omega];exact wr _ (by omega) (by omega)
theorem A2(a b:List Int)(g:Ba a=true)(f:Ba b=true)(m:a.length<=9000)(e:An b<=An a)(l:∀ob,Q (.dat li<|Jc a b) ob):∀(k i:Nat) (o:List Int) (c:Int),i+k=a.length->Hb a b i o c->Ends WK (L2 a b o.length c i o) Q
 |0,i,o,c,j,h=>by
  have j:i=a.length:=by omega
  subst j;have n:=h.len;refine zl (AH ..) (zw (w8<|by omega) ?_);rw[yo<|zy _];refine zc (Ab (Ab (w4<|by omega) rfl)<|w4<|by omega)<|ze ?_;rw[h.fin f e];exact l _
 |k+1,i,o,c,j,h=>by
  obtain⟨s1,s2⟩:=Hp (BG g i) (BG f i) h.c01;have q:=wn (i:=i) (by omega);have n:=h.len;have cap:(decide ((1:Nat)<=(1:Nat))&&true&&decide (o.length=o.length)&&decide ((3*(o.length+1)+2000)*8<=562949953421312))=true:=by
   rw[w4<|zy 1,w4 (p:=o.length=o.length) rfl,qe,z8];exact w4 (by omega)
  refine zl (AH ..) ?_;conv=>zeta
  rw[Ia,zo,s1,s2,q];refine zc (w4<|by omega) (zc (ad (by omega)<|by omega) (zc (w4<|by omega)<|zf (fun d=>zc cap ?_)<|fun d=>zc cap ?_))
  ·have:=A2 a b g f m e l k (i+1) _ _ (by omega)<|h.step g f _ 1<|.inl ⟨w6 d,rfl,rfl⟩;rw[zp]at this;exact this
  ·have:=A2 a b g f m e l k (i+1) _ _ (by omega)<|h.step g f _ 0<|.inr ⟨w7 d,rfl,rfl⟩;rw[zp]at this;exact this
theorem ok:Af A6 158 Xo:=by
 refine BO Y1<|fun(i:List Int×List Int) e=>?_;obtain⟨a,b⟩:=i;have e:(mO a b&&decide (An b<=An a))=true:=e;rw[zd,w5]at e;obtain⟨e,hle⟩:=e;obtain⟨ha,hb,la,lb⟩:=lY e;have h0:=Hb.start a b;have f:∀ob,Ad Xo (a,b) (.dat li<|Jc a b) ob:=fun ob=>zr rfl rfl rfl
 refine zn (Ai a b)<|zl (Al ..) ?_;obtain⟨s1,s2⟩:=Hp (BG ha 0) (BG hb 0) (c:=0) (by decide);have j:Il b 0=b.getD 0 0:=rfl;have g:zg .i64 ((0:Int)+1)=((1:Nat):Int):=rfl;rw[j,show Int.toNat 0=0 from rfl,s1,s2,g];refine zf (fun c=>?_)<|fun c=>?_
 ·have k:=w6 c;refine zc (Ab rfl c)<|zc rfl (zf (fun d=>zc rfl ?_)<|fun d=>zc rfl ?_)
  ·exact A2 a b ha hb la hle f (a.length-1) 1 _ _ (by omega)<|h0.step ha hb _ 1<|.inl ⟨w6 d,rfl,rfl⟩
  ·exact A2 a b ha hb la hle f (a.length-1) 1 _ _ (by omega)<|h0.step ha hb _ 0<|.inr ⟨w7 d,rfl,rfl⟩
 ·have c:=w7 c;have h:a=[]:=zu.1 (by omega);subst h;refine zc rfl (ze ?_);rw[Hb.fin h0 hb hle];exact f _
end T158
theorem Ov:C9 XR2:=Aa T155.ok<|Aa T156.ok<|Aa T157.ok<|Aa T158.ok<|Aa T159.ok<|Aa T154.ok AI
theorem H3{n:Int}{k:Nat}(h0:0<=n)(h:n<(yn:Int)^k):(BL n).length<=k:=Ot h0 h
theorem JP{a:Bool×List Int}(h:Cu a=true):0<=An a.2/\An a.2<(yn:Int)^3000:=by
 obtain⟨d,c,_⟩:=Dl h;refine⟨(EV h).2,yb (Bw (b:=yn) (by decide) (Bp d).2.1)<|AL (by decide) c⟩
theorem Qd{x y:Int}{k:Nat}(c:x<(yn:Int)^k)(a:y<(yn:Int)^k):x+y<(yn:Int)^(k+1):=by
 have:(yn:Int)^(k+1)=(yn:Int)^k*1000000000:=Int.pow_succ ..;have hp:=AR (b:=(yn:Int)) (by decide) k;rw[this];omega
theorem T94.ok:Af A6 94 jF:=by
 refine BO Ov<|fun(i:(Bool×List Int)×(Bool×List Int)) f=>?_;obtain⟨a,b⟩:=i;have f:(Cu a&&Cu b)=true:=f;rw[zd]at f;obtain⟨ha,hb⟩:=f;obtain⟨a1,a2,_⟩:=Dl ha;obtain⟨b1,b2,_⟩:=Dl hb;obtain⟨va,wa⟩:=JP ha;obtain⟨vb,wb⟩:=JP hb;have pl:=Yp a1 b1 (by omega) (by omega);have g:=Yp b1 a1 (by omega) (by omega);refine zn (T94.Ai a b)<|zf (fun c=>?_)<|fun c=>zc (Ab a1 b1)<|zf (fun d=>?_)<|fun d=>?_
 ·have h:(Ij a.2 b.2).length<=3001:=H3 (by omega)<|Qd wa wb;exact zc pl (zc (w4<|by omega)<|ze<|zr rfl rfl (bS ha hb<|by simpa using c))
 ·have e:An b.2<=An a.2:=by
   have d:=w6 d;unfold Cg at d;split at d
   ·omega
   ·omega
  have h:(Jc a.2 b.2).length<=3000:=H3 (by omega) (by omega);exact zc (Ab pl<|w4 e) (zc (w4<|by omega)<|ze (zr rfl rfl (ZL hb (by simpa using c) e)))
 ·have e:An a.2<=An b.2:=by
   have d:=w7 d;unfold Cg at d;split at d
   ·omega
   ·split at d<;>omega
  have h:(Jc b.2 a.2).length<=3000:=H3 (by omega) (by omega);exact zc (Ab g<|w4 e) (zc (w4<|by omega)<|ze<|zr rfl rfl (wT ha (by simpa using c) e))
theorem T95.ok:Af A6 95 Z7:=by
 refine BO Ov<|fun(i:(Bool×List Int)×(Bool×List Int)) c=>?_;obtain⟨a,b⟩:=i;have c:(Cu a&&Cu b)=true:=c;rw[zd]at c;obtain⟨ha,hb⟩:=c;obtain⟨a1,a2,_⟩:=Dl ha;obtain⟨b1,b2,_⟩:=Dl hb;obtain⟨va,wa⟩:=JP ha;obtain⟨vb,wb⟩:=JP hb;have d:An a.2*An b.2<(yn:Int)^(3000+3000):=by
  rw[Int.pow_add];have hp:(0:Int)<(yn:Int)^3000:=AR (by decide) 3000;exact Int.lt_of_le_of_lt (Int.mul_le_mul_of_nonneg_left (yi wb) va)<|Int.mul_lt_mul_of_pos_right wa hp
 have e:=H3 (qt va vb) d;exact zn (T95.Ai a b) (zc (Ab (Sb (by omega) (Bp a1).2.1)<|Sb (by omega) (Bp b1).2.1) (zc (w4<|by omega)<|ze<|zr rfl rfl (nB ha hb)))
theorem T153.ok:Af A6 153 YY:=by
 refine BO Ov<|fun(a:Bool×List Int) b=>?_;have b:Cu a=true:=b;have:=(Dl b).2.1;exact zn (T153.Ai a) (zc (w4<|by omega)<|ze<|zr rfl rfl (oI b))
theorem T150.ok:Af A6 150 Zi:=by
 refine BO Ov<|fun(i:(Bool×List Int)×(Bool×List Int)) f=>?_;obtain⟨a,b⟩:=i;have f:(Cu a&&Cu b&&decide (0<qv b))=true:=f;rw[zd,zd,w5]at f;obtain⟨⟨ha,hb⟩,h0⟩:=f;obtain⟨a1,a2,_⟩:=Dl ha;obtain⟨b1,b2,_⟩:=Dl hb;obtain⟨va,wa⟩:=JP ha;have h:=(MH hb h0).2;have hp:0<An b.2:=by rw[<-h];exact h0
 have q0:=qm va<|yi hp;have q1:An a.2/An b.2<(yn:Int)^3000:=Int.lt_of_le_of_lt (Int.ediv_le_self _ va) wa;have j:=Int.emod_nonneg (An a.2) (show An b.2≠0 by omega);have m:=H3 q0 q1;have k:=(F8 q0 q1<|by decide).1;have g:(BL<|An a.2 % An b.2).length=0↔An a.2 % An b.2=0:=by
  rw[zu];exact jX (b:=yn) (by decide) j
 refine zn (T150.Ai a b) (zc (Ab (Ab (Ab (Ab a1 b1)<|w4<|by omega)<|w4<|by omega)<|w4 hp)<|zf (fun c=>zf (fun d=>?_)<|fun d=>?_)<|fun c=>?_)
 ·have d:=w6 d;have hr:An a.2 % An b.2≠0:=fun e=>by have:=g.2 e;omega
  have l:(Ij (BL<|An a.2/An b.2) [1]).length<=3001:=by
   refine H3 ?_ ?_
   ·rw[(ED q0).1];show 0<=_+(1:Int);omega
   ·rw[(ED q0).1];exact Qd q1 (yb (show(1:Int)<(yn:Int)^1 by decide) (AL (by decide)<|by decide))
  exact zc (Yp k rfl (by omega) (by decide)) (zc (w4<|by omega)<|ze<|zr rfl rfl (WZ ha hb h0 c hr))
 ·have d:=w7 d;exact zc (w4<|by omega) (ze (zr rfl rfl (PZ ha hb h0<|.inr<|g.1<|by omega)))
 ·exact zc (w4<|by omega)<|ze<|zr rfl rfl (PZ ha hb h0<|.inl c)
theorem sO:C9 XR3:=Aa T99.ok AI
namespace T96
variable {Q:PV->Ob->Prop}
theorem Ar(neg:Bool)(w:List Int)(f:Ba w=true)(h:w.length<=3000)(e:∀ob,Q (.dat .str (if neg=true then 45::zi (An w).toNat else zi (An w).toNat)) ob):∀(i:Nat),i<=w.length->0<Sp.val yn (w.drop i)->Ends XR3 (L1 (zi (Sp.val yn<|w.drop i).toNat) ((i:Int)-1) neg w) Q:=by
 have a:∀i,(zi (Sp.val yn<|w.drop i).toNat).length<=27000:=fun i=>by
  have m:=Bw (b:=yn) (by decide)<|E5 (Bp f).2.1 i;have l:(yn:Int)^(w.drop i).length<=(yn:Int)^3000:=AL (by decide) (by rw[qg];omega);exact UE (k:=3000) (yb m l) (by decide)
 intro i;induction i with
 |zero=>
  intro _ _;have d:=a 0;rw[List.drop_zero]at d ⊢;have d:(zi (An w).toNat).length<=27000:=d;refine zl (Al ..) (zw (by decide) (zf (fun c=>zc (w4<|by show 1+(zi (An w).toNat).length<=_;omega)<|ze ?_)<|fun c=>ze ?_))
  ·rw[wd c]at e;exact e _
  ·rw[wc<|by rw[c];decide]at e;exact e _
 |succ i n=>
  intro p h0;have g:=BG f i;have j:(((i+1:Nat):Int)-1)=(i:Int):=by omega
  have d:=a<|i+1;have o:(Iz (w.getD i 0) 9).length<=64:=by
   have:=OM (w.getD i 0) 9;exact this
  obtain⟨s1,s2⟩:=cI f i h0;rw[j];refine zl (Al ..) ?_;conv=>zeta
  rw[zo,s1,wr ((i:Int)-1) (by omega)<|by omega];exact zc (w4<|by omega) (zc (ad (by omega)<|by omega)<|zc (Ab (Ab (Ab (w4 g.1)<|w4<|by omega) rfl) rfl) (zc (w4<|by omega)<|n (by omega) s2))
theorem ok:Af A6 96 PA:=by
 refine BO sO<|fun(a:Bool×List Int) b=>?_;have b:Cu a=true:=b;obtain⟨a1,a2,_⟩:=Dl b;refine zn (Ai a)<|zf (fun c=>ze<|zr rfl rfl (jG ?_))<|fun c=>?_
 ·exact zu.1 (by have:(a.2.length:Int)=0:=(by simpa using c);omega)
 ·have c:(a.2.length:Int)≠0:=by simpa using c
  obtain⟨i,d⟩:∃i,a.2.length=i+1:=⟨a.2.length-1,by omega⟩;have g:=BG a1 i;obtain⟨s1,s2⟩:=XP a1 d;have e:zg .i64 ((a.2.length:Int)-1)=(i:Int):=by rw[wr _ (by omega)<|by omega];omega
  have f:zg .i64 ((a.2.length:Int)-2)=(i:Int)-1:=by rw[wr _ (by omega)<|by omega];omega
  rw[e,f,zo,s1];refine zc (ad (by omega)<|by omega) (zc (Ab (Ab (Ab (w4 g.1)<|w4<|by omega) rfl) rfl)<|Ar a.1 a.2 a1 a2 (fun ob=>zr rfl rfl ?_) i (by omega) s2);exact lT b (by intro h;rw[h]at d;cases d)
end T96
end Go.Pe
namespace Go.Sp
theorem iK{a k m:Nat}(h:a<10^k)(b:k<=m):a<10^m:=Nat.lt_of_lt_of_le h (yg (by decide) b)
theorem oR{a b k:Nat}(d:a<10^k)(c:b<10^k):a+b<10^(k+1):=by rw[Nat.pow_succ];omega
theorem Ky{n:Int}{k:Nat}(h:n.natAbs<10^k)(a:k<=27000):Cu (rN n,rW n)=true:=TT<|iK (m:=27000) h a
theorem Hv{m n:Int}(h:Cu (rN n,rW n)=true)(a:m.natAbs<=n.natAbs):Cu (rN m,rW m)=true:=by
 have:=Ab4 h;rw[Fx]at this;exact TT<|y8 a this
theorem LM{n:Int}(h:CI n=true):Cu (rN n,rW n)=true:=by
 have h:=Go.Pe.EK h;exact Ky (k:=20) (by have:10^20=100000000000000000000:=rfl;omega) (by decide)
theorem Wo{n:Int}(h:Cu (rN n,rW n)=true):Ba (rW n)=true/\(rW n).length<=3000/\Ag n<(B9:Int)^3000:=by
 obtain⟨b,a,_⟩:=Dl h;refine⟨b,a,?_⟩;have:=(Go.Pe.JP h).2;rwa [show An (rN n,rW n).2=Ag n from Kx n]at this
theorem Wc{n:Int}(h:Cu (rN n,rW n)=true):(AX n).length<=27001:=by
 have a:=(Wo h).2.2;have b:=UE a (by decide);have e:(Ag n).toNat=n.natAbs:=by rw[Aj];omega
 rw[e]at b;unfold AX y9;split
 ·rw[zh];omega
 ·rw[show n.toNat=n.natAbs by omega];omega
theorem Lu(n:Int):FO (rN n,rW n)=AX n:=by unfold FO;rw[Fx]
theorem X2{N D:Int}(b:0<D):Int.tdiv N (gI (Ag N) D)=(zj N D).num/\Int.tdiv D (gI (Ag N) D)=((zj N D).den:Int):=by
 have e:D.sign=1:=qj b;have a:gI (Ag N) D=(yu N D:Int):=by rw[Ha,Aj];rfl
 have d:(yu N D:Int)∣N:=Int.gcd_dvd_left ..;have c:(yu N D:Int)∣D:=Int.gcd_dvd_right ..;rw[a,qh d,qh c];refine⟨?_,(HQ (N:=N) b).2.2.1▸?_⟩
 ·rw[Rat.num_divInt,e,Int.one_mul,qy]
 ·rw[a]
theorem RZ(x y:Int):Ib (rN x,rW x) (rN y,rW y)=rN (x*y):=by unfold Ib;rw[Fx,Fx]
theorem RI(x y:Int):HT (rN x,rW x) (rN y,rW y)=rW (x*y):=by unfold HT;rw[Fx,Fx]
theorem kH(x y:Int):Nq (rN x,rW x) (rN y,rW y)=rN (x+y):=by unfold Nq;rw[Fx,Fx]
theorem lD(x y:Int):NC (rN x,rW x) (rN y,rW y)=rW (x+y):=by unfold NC;rw[Fx,Fx]
theorem ON(x y:Int):Iv (rN x,rW x) (rN y,rW y)=Dp x y:=by unfold Iv;rw[Fx,Fx]
theorem V1{a b:Nat}(h:a<=b):(zi a).length<=(zi b).length:=by
 have c:=Lib.lt_pow_nDigits b;have d:1<=(zi b).length:=List.length_pos_iff.2<|pB b;rw[<-Lib.decDigits_length]at c;exact Gn (y8 h c) d
theorem neg_num(x:Rat):(x.num<0↔x<0)/\(x.num>0↔0<x):=by
 rw[Rat.lt_iff,Rat.lt_iff];have:(0:Rat).num=0:=rfl;have a:((0:Rat).den:Int)=1:=rfl;rw[this,a];omega
theorem oB(p q:Rat):Mt (p-q).num=if p<q then -1 else if q<p then 1 else 0:=by
 obtain⟨a,b⟩:=neg_num<|p-q;have d:p-q<0↔p<q:=by rw[Rat.sub_lt_iff,Rat.zero_add]
 have c:0<p-q↔q<p:=(Rat.lt_iff_sub_pos q p).symm;unfold Mt;simp only[a,b,d,c]
end Go.Sp
namespace Go.Pe
open Sp
open Go.Det
theorem rF:C9 qN:=Aa T153.ok<|Aa T130.ok<|Aa T154.ok<|Aa T155.ok<|Aa T96.ok AI
namespace T93
variable {Q:PV->Ob->Prop}
theorem Dm(n d:Int)(f:Cu (yj n,yd n)=true)(a:Cu (yj d,yd d)=true)(b:0<=d)(i:∀ob,Q (.dat .str (AX n++47::AX d)) ob):Ends qN (L3 (BL d)<|AX n) Q:=by
 have l1:=Wc f;have j:=Wc a;have e:yd d=BL d:=by unfold yd;rw[Aj,yx b]
 have h:=(Wo a).2.1;rw[e]at h;obtain⟨c,g⟩:=ED b;have hp:(CH false<|BL d,Ax<|BL d)=(yj d,yd d):=KU g (by omega) (fun k=>(by cases k))<|fun _=>c.symm;refine zl (B5 ..) ?_;conv=>zeta
 rw[hp,Lu];refine zc (w4<|by omega) (zc (w4<|by omega)<|zc a<|zc (w4<|by rw[zp,ye];omega)<|ze ?_);rw[List.append_assoc];exact i _
theorem A2(n d:Int)(j:Cu (yj n,yd n)=true)(k:Cu (yj d,yd d)=true)(l:0<d)(a:d=1->∀ob,Q (.dat .str<|AX n) ob)(i:d≠1->∀ob,Q (.dat .str (AX n++47::AX d)) ob):Ends qN (L2 (BL d)<|AX n) Q:=by
 have f:=wX (n:=d) (by omega);by_cases h:d=1
 ·rw[f.2 h];exact zl (AH ..)<|zc rfl (zc rfl (zc rfl (ze<|a h _)))
 ·have g:=Dm n d j k (by omega)<|i h;refine zl (AH ..)<|zf (fun c=>zc ?_<|zf (fun e=>?_)<|fun _=>g)<|fun _=>g
  ·have c:((BL d).length:Int)=1:=by simpa using c
   exact w4 (by omega)
  ·exfalso;have c:((BL d).length:Int)=1:=by simpa using c
   have e:(BL d).getD 0 0=1:=by simpa using e
   refine h<|f.1 ?_;cases b:BL d with
   |nil=>rw[b]at c;cases c
   |cons x r=>
    rw[b]at c e;have hr:r=[]:=zu.1 (by have:((r.length+1:Nat):Int)=1:=c;omega);have e:x=1:=e;rw[hr,e]
theorem Ar(N D:Int)(e:Cu (yj N,yd N)=true)(j:Cu (yj D,yd D)=true)(h0:0<D)(i:∀ob,Q (.dat .str<|Dp N D) ob):Ends qN (L1 (yj D) (yd D) (yj N)<|yd N) Q:=by
 obtain⟨n1,t,s⟩:=Wo e;obtain⟨d1,d2,d3⟩:=Wo j;obtain⟨g0,f1,f2,f3⟩:=HQ (N:=N) h0;have b:Ag D=D:=by rw[Aj,yx<|yi h0]
 have q:CA (yd N) (yd D)=BL (Sp.gI (Ag N) D):=by
  unfold CA;rw[Kx,Kx,b]
 have u:Sp.gI (Ag N) D<=D:=by
  have l:Sp.gI (Ag N) D=(yu N D:Int):=by rw[Ha,Aj];rfl
  rw[l];exact Int.le_of_dvd h0<|Int.gcd_dvd_right ..
 have fn:=iN h0 (neg:=yj N) rfl;have o:(zj N D).num.natAbs<=N.natAbs:=(Ga (n:=N) (d:=D)<|by omega).1;have r:(zj N D).den<=D.natAbs:=(Ga (n:=N) (d:=D)<|by omega).2;have CS:=Hv (m:=(zj N D).num) e o;have a:=Hv (m:=((zj N D).den:Int)) j (by rw[Int.natAbs_natCast];exact r);have p:Ag (zj N D).num<(yn:Int)^3000:=(Wo CS).2.2;have f:=R8 (N:=N) (D:=D);have w:=(zj N D).den_pos;have a0:=Od (zj N D).num;rw[b]at d3;refine zl (Al ..) ?_;conv=>zeta
 rw[q,Kx,Kx,b];generalize Sp.gI (Ag N) D=g at*;have c:=F8 (n:=g) (k:=3000) (by omega) (by omega) (by decide);rw[c.2.2.1,fn,f1,f2,Lu];have v:=H3 a0 p;refine zc (Ab (Ab (Ab n1 d1)<|w4<|by omega)<|w4<|by omega) (zc (Ab (Ab (Ab (Ab n1 c.1)<|w4<|by omega)<|w4<|by omega)<|w4 g0) (zc (Ab (Ab (Ab (Ab d1 c.1)<|w4<|by omega)<|w4<|by omega)<|w4 g0)<|zc (w4<|by omega)<|zc CS<|A2 _ _ CS a (by omega) (fun h ob=>?_)<|fun h ob=>?_))
 ·have:=i ob;rw[f,wd<|by omega]at this;exact this
 ·have:=i ob;rw[f,wc<|by omega]at this;exact this
theorem ok:Af A6 93 MC:=by
 refine BO rF<|fun(i:(Bool×List Int)×(Bool×List Int)) g=>?_;obtain⟨a,b⟩:=i;have g:(Cu a&&Cu b&&decide (qv b≠0))=true:=g;rw[zd,zd,w5]at g;obtain⟨⟨ha,hb⟩,h0⟩:=g;have l:=Aaj ha;have k:=Aaj hb;have j:∀ob,Ad MC (a,b) (.dat .str<|Dp (qv a)<|qv b) ob:=fun ob=>zr rfl rfl rfl
 have d:=ha;have e:=hb;rw[l]at d;rw[k]at e;refine zn (Ai a b)<|zf (fun c=>zc ha<|zc hb ?_)<|fun c=>?_
 ·have h:qv b<0:=by
   have:=QA hb;rw[c]at this;exact w6 this.symm
  have:=Ar (Q:=Ad MC (a,b)) (-qv a) (-qv b) (Hv d<|by rw[Int.natAbs_neg];exact zy _) (Hv e<|by rw[Int.natAbs_neg];exact zy _) (by omega) (fun ob=>by rw[Wn];exact j ob);exact this
 ·have f:0<qv b:=by
   have:=QA hb;rw[c]at this;have:=w7 this.symm;omega
  have:=Ar (Q:=Ad MC (a,b)) (qv a) (qv b) d e f j;rw[<-QA ha, <-AbS ha, <-QA hb, <-AbS hb]at this;exact this
end T93
theorem tO:C9 fL:=Aa T97.ok<|Aa T93.ok<|Aa T98.ok<|Aa T99.ok AI
namespace T40
variable {Q:PV->Ob->Prop}
theorem VJ{n:Int}(b: -9000000000000000000<=n)(a:n<=9000000000000000000):imax n (zg .i64<|0-n)=Ag n:=by
 rw[wr _ (by omega)<|by omega];unfold imax Ag;split<;>split<;>omega
theorem Ca(n d:Int)(v:Z)(b:v=AX n)(g:v.length<=27001)(j:0<d)(i:d<9000000000000000000)(a:d=1->∀ob,Q (.dat .str<|AX n) ob)(f:d≠1->∀ob,Q (.dat .str (AX n++47::AX d)) ob):Ends fL (L4 d v) Q:=by
 have h:=OM d 1;have e:Iz d 1=AX d:=by
  rw[PY (by omega)<|by omega];unfold AX y9;rw[wc<|by omega]
 refine zl (CD ..) (zf (fun c=>zc (w4<|by omega)<|zc (Ab (Ab (ad (by omega)<|by omega) rfl) rfl)<|zc (w4<|by rw[zp,ye];omega)<|ze ?_)<|fun c=>ze ?_)
 ·have c:=w6 c;rw[b,e,List.append_assoc];exact f (by omega) _
 ·have c:=w7 c;rw[b];exact a (by omega) _
theorem Dm(n d:Int)(n1: -9000000000000000000<n)(j:n<9000000000000000000)(g:0<d)(f:d<9000000000000000000)(a:d=1->∀ob,Q (.dat .str<|AX n) ob)(h:d≠1->∀ob,Q (.dat .str (AX n++47::AX d)) ob):Ends fL (L3 n d) Q:=by
 have k:=OM (Ag n) 1;have i:=Aj n;have e:Iz (Ag n) 1=zi n.natAbs:=by
  rw[PY (by omega)<|by omega];congr 1;omega
 have b:=dD n;refine zl (B5 ..) ?_;conv=>zeta
 rw[VJ (by omega)<|by omega];have hr:(decide (0<=Ag n)&&decide (Ag n<9223372036854775808)&&decide ((0:Int)<=1)&&decide ((1:Int)<=20))=true:=Ab (Ab (ad (by omega)<|by omega) rfl) rfl;refine zf (fun c=>zc hr<|zc (w4<|by omega)<|Ca n d _ ?_ ?_ g f a h) (fun c=>zc hr<|zc (w4<|by omega)<|Ca n d _ ?_ ?_ g f a h)
 ·have c:=w6 c;rw[wd c]at b;rw[e];exact b.symm
 ·rw[zp,ye];omega
 ·have c:=w7 c;rw[wc c]at b;rw[e];exact b.symm
 ·rw[List.nil_append];omega
theorem A2(n d:Int)(n1: -9000000000000000000<n)(g:n<9000000000000000000)(c:0<d)(j:d<9000000000000000000)(e:∀ob,Q (.dat .str<|Dp n d) ob):Ends fL (L2 n d) Q:=by
 obtain⟨k,_⟩:=HQ (N:=n) c;obtain⟨q1,q2⟩:=X2 (N:=n) c;obtain⟨l1,l2⟩:=Ga (n:=n) (d:=d) (by omega);have f:=Aj n;have i:=(zj n d).den_pos;have b:=R8 (N:=n) (D:=d);refine zl (AH ..) ?_;conv=>zeta
 rw[VJ (by omega) (by omega),q1,q2,wr _ (by omega) (by omega),wr _ (by omega)<|by omega];have a:decide (Sp.gI (Ag n) d≠0)=true:=w4 (by omega);refine zc (Ab (Ab (ad (by omega)<|by omega)<|w4<|by omega)<|w4<|by omega) (zc a<|zc a<|Dm _ _ (by omega) (by omega) (by omega) (by omega) (fun h ob=>?_)<|fun h ob=>?_)
 ·have:=e ob;rw[b,wd<|by omega]at this;exact this
 ·have:=e ob;rw[b,wc<|by omega]at this;exact this
theorem ok:Af A6 40 kC:=by
 refine BO tO<|fun(i:Int×Int) e=>?_;obtain⟨n,d⟩:=i;have e:(CI n&&CI d&&decide (d≠0))=true:=e;rw[zd,zd,w5]at e;obtain⟨⟨hn,hd⟩,h0⟩:=e;have b:∀ob,Ad kC (n,d) (.dat .str<|Dp n d) ob:=fun ob=>zr rfl rfl rfl
 have a:(Cu (yj n,yd n)&&Cu (yj d,yd d)&&decide (qv (yj d,yd d)≠0))=true:=Ab (Ab (LM hn)<|LM hd) (by rw[Fx];exact w4 h0);refine zn (Ai n d) ?_;conv=>zeta
 rw[ON];refine zf (fun _=>zc hn<|zc hd<|zc a<|ze<|b _)<|fun h=>zf (fun _=>zc hn<|zc hd<|zc a<|ze<|b _)<|fun f=>zf (fun _=>zc hn<|zc hd<|zc a<|ze<|b _)<|fun g=>zf (fun _=>zc hn<|zc hd<|zc a<|ze<|b _)<|fun j=>?_;have h:=w7 h;have f:=w7 f;have g:=w7 g;have j:=w7 j;refine zl (Al ..)<|zf (fun c=>?_)<|fun c=>?_
 ·have c:=w6 c;rw[wr (0-n) (by omega) (by omega),wr (0-d) (by omega) (by omega),Int.zero_sub,Int.zero_sub];exact A2 (-n) (-d) (by omega) (by omega) (by omega) (by omega) (fun ob=>by rw[Wn];exact b ob)
 ·have c:=w7 c;exact A2 n d (by omega) (by omega) (by omega) (by omega) b
end T40
namespace T91
theorem no3{Q:PV->Ob->Prop}(s:Z)(neg:Bool)(k:s.length<=20)(h:9<(AA s).length\/9<(Sp.AS s).length)(a:∀ob,Q (.tup [.dat i64 0,.dat i64 0,.bl false]) ob):Ends Oz (L3 s neg) Q/\Ends Oz (L4 s) Q:=by
 obtain⟨l,g,i⟩:=BQ s;have es:A0 s=((AA s).length:Int):=rfl;have f:=(T122.DK s).1;have e:9<(Sp.AS s).length->(s.length:Int)-(AA s).length>10:=fun h=>by
  cases d:Bs s with
  |true=>
   have j:=wi List.length (g d).2;rw[qg]at j;omega
  |false=>rw[(i d).2]at h;cases h
 refine⟨zl (B5 ..) (zc (w4<|by omega)<|zf (fun _=>ze<|a _)<|fun c=>?_),zl (CD ..)<|zc (w4<|by omega)<|zf (fun _=>ze<|a _)<|fun c=>?_⟩
 ·have c:=w7 c;rw[es]at c;have b:=e (by omega);refine zc ?_<|ze<|a _;rw[es,wr _ (by omega)<|by omega];exact w4 b
 ·have c:=w7 c;rw[es]at c;have b:=e (by omega);refine zc ?_<|ze<|a _;rw[es,wr _ (by omega)<|by omega];exact w4 b
theorem okG:Af A6 91 OB:=by
 refine BO xV<|fun(a:Z) ha=>?_;obtain⟨_,_,o,db⟩:=QC ha;by_cases b:Ee a=true
 ·have e:∀n ob,n=IP a->Ad OB a (.tup [.dat i64 n,.dat i64<|if Bs (A8 a)=true then AE 0 (Sp.AS<|A8 a)else 1,.bl true]) ob:=fun n ob h=>zr rfl rfl (by
   show(n,_,true)=(lX a,VB a,Ee a);unfold lX VB;rw[wd b,wd b,b,h];rfl)
  unfold Ee at b;rw[zd,zd,w5,w5,w5]at b;obtain⟨⟨f,k⟩,l⟩:=b;clear ha;refine zn (Ai a) (zw (by simp;omega) ?_);cases a with
  |nil=>exact zw rfl (zl (AH ..)<|Ca [] f k l o db<|fun n ob h=>e n ob<|by rw[h];rfl)
  |cons c r=>
   have i:(c::r).getD 0 0=c:=rfl;rw[i];refine zc (by simp) (zc (by simp) (zl (Al ..)<|zf (fun d=>zc (by simp) ?_)<|fun d=>?_))
   ·have g:c=45:=by
     have:(c.toNat:Int)=45:=by simpa using d
     exact UInt8.toNat_inj.1 (by show _=45;omega)
    have j:A8 (c::r)=r:=by unfold A8;rw[i,wd g];rfl
    have q:Sp.preB (c::r)=true:=by unfold Sp.preB;rw[i];exact w4 g
    have p:List.take (Nat.sub (c::r).length 1) (List.drop 1 (c::r))=r:=yo<|zy _;unfold IP at e;rw[j]at k l o db e;rw[q]at e;rw[p,d];exact Dm r true (by rw[zh]at f;omega) k l o db (fun n ob h=>e _ ob (by rw[h];try rfl))
   ·have g:c≠45:=by rintro rfl;exact wh d (by decide)
    have j:A8 (c::r)=c::r:=by unfold A8;rw[i,wc g]
    have q:Sp.preB (c::r)=false:=by unfold Sp.preB;rw[i];exact w8 g
    unfold IP at e;rw[j]at k l o db e;rw[q]at e;rw[d];exact Dm (c::r) false f k l o db (fun n ob h=>e _ ob (by rw[h];try rfl))
 ·have u:Ee a=false:=by simpa using b
  have e:∀ob,Ad OB a (.tup [.dat i64 0,.dat i64 0,.bl false]) ob:=fun ob=>zr rfl rfl (by
   show((0:Int),(0:Int),false)=(lX a,VB a,Ee a);unfold lX VB;rw[wc b,wc b,u])
  refine zn (Ai a)<|zf (fun _=>ze<|e _)<|fun f=>?_;have f:a.length<=20:=by have:=w7 f;omega
  have m:9<(AA<|A8 a).length\/9<(Sp.AS<|A8 a).length:=by
   by_cases t:(AA<|A8 a).length<=9
   ·by_cases s:(Sp.AS<|A8 a).length<=9
    ·exact wh (by unfold Ee;rw[w4 f,w4 t,w4 s];rfl) b
    ·exact .inr (by omega)
   ·exact .inl (by omega)
  cases a with
  |nil=>exact zw rfl (zl (AH ..) (no3 [] false f m e).2)
  |cons c r=>
   have i:(c::r).getD 0 0=c:=rfl;rw[i];refine zc (by simp) (zc (by simp)<|zl (Al ..)<|zf (fun d=>zc (by simp) ?_)<|fun d=>?_)
   ·have g:c=45:=by
     have:(c.toNat:Int)=45:=by simpa using d
     exact UInt8.toNat_inj.1 (by show _=45;omega)
    have j:A8 (c::r)=r:=by unfold A8;rw[i,wd g];rfl
    have p:List.take (Nat.sub (c::r).length 1) (List.drop 1 (c::r))=r:=yo<|zy _;rw[j]at m;rw[p];exact(no3 r _ (by rw[zh]at f;omega) m e).1
   ·have g:c≠45:=by rintro rfl;exact wh d (by decide)
    have j:A8 (c::r)=c::r:=by unfold A8;rw[i,wc g]
    rw[j]at m;exact(no3 (c::r) _ f m e).1
end T91
theorem S7:C9 zW:=Aa T91.okG<|Aa T40.ok<|Aa (T92.ok)<|Aa T94.ok<|Aa T95.ok<|Aa T93.ok AI
theorem VX{x y:Int}(d: -1000000000<x)(a:x<1000000000)(c: -1000000000<y)(b:y<1000000000): -1000000000000000000<=x*y/\x*y<=1000000000000000000:=by
 have h:(x*y).natAbs<=1000000000*1000000000:=by
  rw[y7];exact Nat.mul_le_mul (by omega) (by omega)
 omega
theorem T33.ok:Af A6 33 RL:=by
 refine BO S7<|fun(i:Z×Z) d=>?_;obtain⟨a,b⟩:=i;have d:(Bj a&&Bj b)=true:=d;rw[zd]at d;obtain⟨ha,hb⟩:=d;obtain⟨a1,a2,a3,a4,a5,a6,a7,a8,a9⟩:=D8 ha;obtain⟨b1,b2,b3,b4,b5,b6,b7,b8,b9⟩:=D8 hb;have ad:=(Au a).den_pos;have I:=(Au b).den_pos;have eq:=(cZ ha hb).2;have s:∀ob,Ad RL (a,b) (.dat .str<|Dp (Bd a*AN b+Bd b*AN a)<|AN a*AN b) ob:=fun ob=>zr rfl rfl eq.symm
 have c:Ends zW (T33.L1 a b) (Ad RL (a,b)):=by
  have j:BS a=yj (Bd a):=rfl;have p:BJ a=yd (Bd a):=rfl;have m:Br a=yj (AN a):=rfl;have g:Bk a=yd (AN a):=rfl;have q:BS b=yj (Bd b):=rfl;have l:BJ b=yd (Bd b):=rfl;have n:Br b=yj (AN b):=rfl;have r:Bk b=yd (AN b):=rfl;rw[j,p]at a1;rw[m,g]at a3;rw[q,l]at b1;rw[n,r]at b3;refine zl (T33.Al ..) ?_;conv=>zeta
  simp only[j,p,m,g,q,l,n,r,RZ,RI,kH,lD,ON,Fx];have e:=DW a8 b9;have f:=DW b8 a9;have h:=DW a9 b9;rw[<-y7]at e f h;have v:=y8 (Int.natAbs_add_le (Bd a*AN b)<|Bd b*AN a)<|oR (k:=4000+4000) e f;have A:=Ky e (by decide);have E:=Ky f (by decide);have D:=Ky h (by decide);have w:=Ky v (by decide);have B:AN a*AN b≠0:=yy (by omega) (by omega);exact zc a7<|zc b7<|zc (Ab a1 b3)<|zc (Ab b1 a3)<|zc (Ab A E)<|zc (Ab a3 b3)<|zc (Ab (Ab w D)<|w4 B)<|ze<|s _
 refine zn (T33.Ai a b)<|zc ha<|zc hb<|zf (fun C=>zf (fun y=>?_)<|fun _=>c)<|fun _=>c;obtain⟨z,t,F,x,H,o⟩:=GU ha C;obtain⟨y1,y2,y3,y4,y5,y6⟩:=GU hb y;have G:=VX F x (by omega) y6;have K:=VX y3 y4 (by omega) o;have J:=VX (by omega) o (by omega) y6;have u:AN a*AN b≠0:=yy (by omega) (by omega);rw[z,t,y1,y2,wr (Bd a*AN b) (by omega) (by omega),wr (Bd b*AN a) (by omega) (by omega),wr (Bd a*AN b+Bd b*AN a) (by omega) (by omega),wr (AN a*AN b) (by omega)<|by omega];exact zc (Ab (Ab (D7 (by omega)<|by omega)<|D7 (by omega)<|by omega)<|w4 u)<|ze<|s _
theorem T34.ok:Af A6 34 Ws:=by
 refine BO S7<|fun(i:Z×Z) d=>?_;obtain⟨a,b⟩:=i;have d:(Bj a&&Bj b)=true:=d;rw[zd]at d;obtain⟨ha,hb⟩:=d;obtain⟨a1,a2,a3,a4,a5,a6,a7,a8,a9⟩:=D8 ha;obtain⟨b1,b2,b3,b4,b5,b6,b7,b8,b9⟩:=D8 hb;have ad:=(Au a).den_pos;have D:=(Au b).den_pos;have p:∀ob,Ad Ws (a,b) (.dat .str<|Dp (Bd a*Bd b)<|AN a*AN b) ob:=fun ob=>zr rfl rfl (bL).symm
 have c:Ends zW (T34.L1 a b) (Ad Ws (a,b)):=by
  have g:BS a=yj (Bd a):=rfl;have m:BJ a=yd (Bd a):=rfl;have k:Br a=yj (AN a):=rfl;have e:Bk a=yd (AN a):=rfl;have n:BS b=yj (Bd b):=rfl;have j:BJ b=yd (Bd b):=rfl;have l:Br b=yj (AN b):=rfl;have o:Bk b=yd (AN b):=rfl;rw[g,m]at a1;rw[k,e]at a3;rw[n,j]at b1;rw[l,o]at b3;refine zl (T34.Al ..) ?_;conv=>zeta
  simp only[g,m,k,e,n,j,l,o,RZ,RI,ON,Fx];have h:=DW a8 b8;have f:=DW a9 b9;rw[<-y7]at h f;have w:=Ky h (by decide);have z:=Ky f (by decide);have x:AN a*AN b≠0:=yy (by omega) (by omega);exact zc a7<|zc b7<|zc (Ab a1 b1)<|zc (Ab a3 b3)<|zc (Ab (Ab w z)<|w4 x)<|ze<|p _
 refine zn (T34.Ai a b)<|zc ha<|zc hb<|zf (fun y=>zf (fun t=>?_)<|fun _=>c)<|fun _=>c;obtain⟨u,q,A,s,C,v⟩:=GU ha y;obtain⟨y1,y2,y3,y4,y5,y6⟩:=GU hb t;have B:=VX A s y3 y4;have E:=VX (by omega) v (by omega) y6;have r:AN a*AN b≠0:=yy (by omega) (by omega);rw[u,q,y1,y2,wr _ (by omega) (by omega),wr (AN a*AN b) (by omega)<|by omega];exact zc (Ab (Ab (D7 (by omega)<|by omega)<|D7 (by omega)<|by omega)<|w4 r)<|ze<|p _
theorem T147.ok:Af A6 147 yO:=by
 refine BO S7<|fun(a:Z) hi=>?_;obtain⟨b,h0⟩:=fZ hi;obtain⟨a1,a2,a3,a4,a5,a6,a7,a8,a9⟩:=D8 (JM b).1;refine zn (T147.Ai a)<|zc a7<|zc (Ab (Ab a3 a1) ?_)<|ze<|zr rfl rfl ?_
 ·rw[a2];exact w4 fun e=>h0 (qn.mp (by rw[a5,e]))
 ·show Iv _ _=Rb a;unfold Iv;rw[a2,a4];exact bJ.symm
theorem YP:C9 XR7:=Aa T147.ok<|Aa T34.ok<|Aa T33.ok<|Aa T84.ok AI
theorem oL{s:Z}(h:Ep s=true):Bj (GD s)=true/\Au (GD s)= -Au s:=by
 obtain⟨b,c⟩:=JM h;obtain⟨t,_⟩:=F5 b;have e:GD s=AU (-Au s):=by
  have:=VS<|Au s;rwa [t]at this
 have r:Au (GD s)= -Au s:=by rw[e,DJ]
 refine⟨?_,r⟩;have a:(GD s).length<=4000:=by
  unfold GD;split
  ·omega
  ·split
   ·rw[qg];omega
   ·rw[zh];omega
 unfold Bj;rw[r, <-e,w4 rfl,w4 a];rfl
theorem T37.ok:Af A6 37 iX:=by
 refine BO YP<|fun(i:Z×Z) c=>?_;obtain⟨a,b⟩:=i;have c:(Bj a&&Ep b)=true:=c;rw[zd]at c;obtain⟨ha,hb⟩:=c;obtain⟨n1,n2⟩:=oL hb;have d:=(JM hb).2;refine zn (T37.Ai a b) (zc (w4<|by omega)<|zc (Ab ha n1)<|ze<|zr rfl rfl ?_);show CR a (GD b)=J6 a b;unfold CR J6;rw[n2,Rat.sub_eq_add_neg]
theorem lM{s:Z}(h:eP s=true):Bj (Rb s)=true:=by
 obtain⟨b,h0⟩:=fZ h;obtain⟨b,h2⟩:=JM b;obtain⟨t,_⟩:=F5 b;have a:(AU<|Au s).length<=3000:=by rw[t];exact h2
 unfold Rb;generalize Au s=q at*;have l1:(zi q.num.natAbs).length<=(y9 q.num).length:=by
  unfold y9;split
  ·rw[zh];omega
  ·rw[show q.num.toNat=q.num.natAbs by omega];exact zy _
 have key:(AU q⁻¹).length<=(zi q.num.natAbs).length+(zi q.den).length+2:=by
  have g:=Rat.inv_def q;have f:q.num≠0:=fun e=>h0<|qn.mp e
  have k:=q.den_pos;have m:=Ga (n:=(q.den:Int)) (d:=q.num) f;rw[<-g,Int.natAbs_natCast]at m;have i:=V1 m.1;have l:=V1 m.2;have j:(y9 q⁻¹.num).length<=(zi q⁻¹.num.natAbs).length+1:=by
   unfold y9;split
   ·rw[zh];omega
   ·rw[show q⁻¹.num.toNat=q⁻¹.num.natAbs by omega];omega
  unfold AU;split
  ·omega
  ·rw[zp,zh];omega
 have o:(zi q.num.natAbs).length+(zi q.den).length<=3001:=by
  unfold AU at a;split at a
  ·next c=>rw[c,Lib.decDigits_one (show 1<10 by decide),ye];omega
  ·rw[zp,zh]at a;omega
 unfold Bj;rw[DJ,w4 rfl,w4<|by omega];rfl
theorem T82.ok:Af A6 82 zS:=by
 refine BO YP<|fun(i:Z×Z) c=>?_;obtain⟨a,b⟩:=i;have c:(Bj a&&eP b)=true:=c;rw[zd]at c;obtain⟨ha,hb⟩:=c;refine zn (T82.Ai a b)<|zc hb<|zc (Ab ha<|lM hb)<|ze<|zr rfl rfl ?_;show Ka a (Rb b)=KK a b;unfold Ka KK Rb;rw[DJ,Rat.div_def]
theorem Uv:C9 XR8:=Aa T37.ok<|Aa T38.ok<|Aa T128.ok<|Aa T144.ok<|Aa T145.ok<|Aa T146.ok AI
theorem T36.ok:Af A6 36 Sc:=by
 refine BO Uv<|fun(i:Z×Z) d=>?_;obtain⟨a,b⟩:=i;have d:(Bj a&&Ep b)=true:=d;have c:=d;rw[zd]at c;obtain⟨ha,hb⟩:=c;have z:=(T7 ha).sub<|T7 (JM hb).1;refine zn (T36.Ai a b) (zc d (zc (w4<|OS z<|by decide)<|ze<|zr rfl rfl ?_));show EU (J6 a b)=E0 a b;unfold J6;rw[JI,oB];rfl
theorem T148.ok:Af A6 148 SG:=by
 refine BO Uv<|fun(a:Z) ha=>?_;refine zn (T148.Ai a)<|zc ha<|ze<|zr rfl rfl ?_;show(A0 a==(a.length:Int))=H5 a;obtain⟨g,c,d⟩:=BQ a;have es:A0 a=((AA a).length:Int):=rfl;unfold H5;cases b:Bs a with
 |false=>rw[es,(d b).1];simp
 |true=>
  obtain⟨e,f⟩:=c b;rw[es];simp;omega
theorem T80.ok:Af A6 80 TL:=by
 refine BO Uv<|fun(a:Z) ha=>?_;have f:a.length<=1000000:=w6 ha;have e:=(T122.DK a).1;have b:∀v ob,v=FH a->Ad TL a (.dat i64 v) ob:=fun v ob h=>zr rfl rfl h
 unfold FH at b;refine zn (T80.Ai a) (zc ha<|zc (w4<|by omega)<|zf (fun c=>ze<|b _ _ ?_)<|fun c=>zc ha<|zf (fun d=>ze<|b _ _ ?_)<|fun d=>ze<|b _ _ ?_)
 ·have c:=w6 c;rw[wd<|.inl<|by omega]
 ·have d:=w6 d;rw[wd<|.inr<|by omega]
 ·have c:=w7 c;have d:=w7 d;rw[wc<|by omega]
theorem uX:C9 XR9:=Aa T92.ok<|Aa T150.ok<|Aa T96.ok<|Aa T148.ok AI
theorem T85.ok:Af A6 85 Y9:=by
 refine BO uX<|fun(a:Z) ha=>?_;obtain⟨a1,a2,a3,a4,a5,f,e,g,a9⟩:=D8 ha;obtain⟨t,hl⟩:=F5 ha;have h:=(Au a).den_pos;refine zn (T85.Ai a) (zc (w4<|by omega) (zf (fun c=>ze<|zr rfl rfl ?_) (fun c=>zc e<|zc (Ab (Ab a1 a3)<|by rw[a4];exact w4<|by omega)<|zc ?_<|ze<|zr rfl rfl ?_)))
 ·show a=AX (Au a).floor;have b:(Au a).den=1:=by
   have d:=(FA<|Au a).2.2;rw[t]at d;unfold H5 at c;rw[d]at c;simpa using c
  rw[qw,b];have:(Au a).num/((1:Nat):Int)=(Au a).num:=Int.ediv_one _;rw[this];conv=>lhs;rw[<-t]
  unfold AU;rw[wd b];rfl
 ·show Cu (I3 _ _,IN _ _)=true;unfold I3 IN;rw[a2,a4];exact Hv a1<|Int.natAbs_ediv_le_natAbs _ _
 ·show FO (I3 _ _,IN _ _)=AX (Au a).floor;unfold I3 IN;rw[a2,a4,Lu,qw,a5,f]
theorem AaP{n:Int}:Sp.Mt n<=0↔n<=0:=by
 unfold Sp.Mt;split
 ·omega
 ·split<;>omega
theorem cX{f:Ak}{q:Rat}(h:EX f q){k:Nat}(z:Hf k q)(d:k<=4000):Bc (Et f.1 f.2)=true/\Sp.vI (Et f.1 f.2)=q.floor:=by
 have s:=Pr z d;have b:=h.den_pos;have c:=ZI h.n (by rw[h.vn];exact yb s.1<|AL (by decide)<|by decide);have a:Sp.vI (Et f.1 f.2)=q.floor:=by rw[kG b,h.vn,h.vd,qw]
 refine⟨ZI (Tc c b) ?_,a⟩;have e:=(Ww z).1;rw[qo]at e;rw[a];exact yb (TQ e) (AL (by decide) (by omega))
end Go.Pe
namespace Go.Sp
theorem SS{k:Nat}{t:List BM}(h:J5 k t=true):∀p∈t,p.1.length<=k/\p.2.length<=k:=by
 unfold J5 at h;rw[zk]at h;intro p hp;have:=h p hp;rw[zd,w5,w5]at this;exact this
theorem Vr(a b:Z):E0 a b<=0↔0<=E0 b a:=by
 unfold E0;rw[jZ (Au a)<|Au b];omega
theorem OF(a b:Z):E0 a b<=0↔¬Au b<Au a:=by
 unfold E0;by_cases h:Au a<Au b
 ·rw[wd h];exact⟨fun _=>yk.2<|qz h,fun _=>by decide⟩
 ·rw[wc h];by_cases k:Au b<Au a
  ·rw[wd k];exact⟨fun x=>wh x (by decide),fun x=>wh k x⟩
  ·rw[wc k];exact⟨fun _=>k,fun _=>by decide⟩
def Qi(t:List BM)(i:Nat):Option BM:=if i=0 then none else some<|t.getD (i-1) ([],[])
theorem F9(p:BM)(l:List BM):Es none (p::l)=if NM p.1 p.2≠0 then NM p.1 p.2 else Es (some p) l:=by
 rw[Es]
theorem HD(q p:BM)(l:List BM):Es (some q) (p::l)=if NM p.1 p.2≠0 then NM p.1 p.2 else if E0 p.1 q.1<=0 then 11 else Es (some p) l:=by
 rw[Es]
theorem Wk(o:Option BM):Es o []=0:=by rw[Es]
theorem XX{t:List BM}{i:Nat}{p:BM}(h:t.getD i ([],[])=p):Qi t (i+1)=some p:=by
 unfold Qi;rw[wc (by omega),qc,h]
end Go.Sp
namespace Go.Pe
open Sp
open Go.Det
theorem mE{s:Sh}{sz:Nat}(b:s.sz=sz){id n:Nat}{tail:Ob}{fz:Bool}{t:TypeId}{o:List s.T}{e:Int}(f:n=o.length):Iq [.list s,i64] (.tup [.sl id sz 0 n none,.dat i64 e]) ((id,.arr fz t s o)::tail)=some (true,(o,e)):=by
 subst f b;have g:AP ((id,Obj.arr fz t s o)::tail) id=some (.arr fz t s o):=by unfold AP;rw[qk];rfl
 have h0:EC ⟨0,.leaf,(id,.arr fz t s o)::tail,0⟩ (.list s) (.sl id s.sz 0 o.length none)=some (true,o):=by
  unfold EC;have a:Dk ⟨0,.leaf,(id,.arr fz t s o)::tail,0⟩ (PV.cells<|.sl id s.sz 0 o.length none)=some (true,[.dat (.list s) o]):=by
   show(match B1 ⟨0,.leaf,(id,.arr fz t s o)::tail,0⟩ (.sl id s.sz 0 o.length none),some (true,[])with|some (c,x),some (d,xs)=>some (c&&d,x::xs)|_,_=>none)=_;have:B1 ⟨0,.leaf,(id,.arr fz t s o)::tail,0⟩ (.sl id s.sz 0 o.length none)=some (true,.dat (.list s) o):=by
    unfold B1 AM.obj;simp only[g,qk,we];simp
   rw[this];rfl
  simp only[Mr,Sh.Q4];show(match Dk ⟨0,.leaf,(id,.arr fz t s o)::tail,0⟩ (PV.cells<|.sl id s.sz 0 o.length none)with|some (c,cs)=>_|none=>none)=_;rw[a];have:Dq (.list s) [PV.dat (.list s) o]=some o:=by
   unfold Dq Cx uT DT;simp
  simp only[QM,this,z8]
 unfold Iq H9;simp only;unfold Dx;rw[h0];rfl
theorem xC:C9 XT1:=Aa T168.ok<|Aa T169.ok<|Aa T171.ok<|Aa T55.ok<|Aa T56.ok AI
theorem aK{a b:Z}(d:At a=0)(c:At b=0):FZ (zH a) (zH b)=E0 a b:=by
 rw[EX.cmp (IS (CQ d).1)<|IS (CQ c).1];rfl
theorem HJ{a:Z}(b:At a=0):q9 (zH a)=true/\Eu a=true:=by
 obtain⟨n,z⟩:=CQ b;exact⟨(IS n).Df (Pr z<|by decide),(D8 n).2.2.2.2.2.2.1⟩
namespace T123
variable {Q:PV->Ob->Prop}
theorem Ac6{p:BM}{k:Nat}(h:p.1.length<=k/\p.2.length<=k)(a:k<=1000000):(decide ((2:Nat)<=2)&&true&&(decide ((2:Nat)<=1000)&&List.all [p.1,p.2] fun s=>decide (List.length s<=1000000)))=true:=by
 show(decide (p.1.length<=1000000)&&(decide (p.2.length<=1000000)&&true))=true;rw[w4 (by omega),w4<|by omega];rfl
theorem eO(t:List BM)(i:Nat)(p:BM)(h:i<t.length)(hp:t.getD i ([],[])=p):(t.take i).map EI++[(Fk p.1,Fk p.2)]=(t.take<|i+1).map EI:=by
 rw[List.take_add_one,List.map_append];congr 1;rw[zm]at hp;rw[zx h]at hp ⊢;have hp:t[i]=p:=hp;rw[hp];rfl
theorem A2(t:List BM)(m:t.length<=64)(v:J5 1000000 t=true)(b:∀e ob,e≠0->Es none t=e->Q (.tup [.nil,.dat i64 e]) ob)
  (j:Es none t=0->Q (.tup [.sl 0 8 0 ((t.take t.length).map EI).length none,.dat i64 0]) [(0,.arr false 209 YH<|(t.take t.length).map EI)]):
  ∀(r:List BM) (i n:Nat) (q:BM),t.drop i=r->1<=i->i<=t.length->n=((t.take i).map EI).length->t.getD (i-1) ([],[])=q->At q.1=0->Es none t=Es (some q) r->Ends XT1 (L2 n t (t.length:Int) (i:Int)<|(t.take i).map EI) Q
 |[],i,n,q,h,B,w,o,k,l,a=>by
  have:=drop_nil h w;have e:i=t.length:=by omega
  subst e;rw[Wk]at a;rw[o];exact zl (AH ..) (zw (w8<|by omega)<|ze<|j a)
 |p::r,i,n,q,h,B,w,o,k,l,a=>by
  obtain⟨x,u,C⟩:=drop_cons (d:=(([],[]):BM)) h;have J:p∈t:=List.mem_of_mem_drop (by rw[h];exact ym ..);have hp:=SS v p J;have z:n=i:=by rw[o,yz,yt];omega
  have A:=wn (i:=i) (by omega);have G:zg .i64 ((i:Int)-1)=((i-1:Nat):Int):=by rw[wr _ (by omega)<|by omega];omega
  have D:∀d,((t.take i).map EI).getD (i-1) d=EI q:=by
   intro d;rw[zm,List.getElem?_map,List.getElem?_take_of_lt<|by omega];rw[zm,zx<|by omega]at k;rw[zx<|by omega];have k:t[i-1]=q:=k;rw[k];rfl
  have F:((t.take i).map EI).length=i:=by rw[yz,yt];omega
  rw[HD]at a;refine zl (AH ..) ?_;conv=>zeta
  rw[A,G,zo,zo,u,D];refine zc (w4<|by omega) (zc (ad (by omega)<|by omega)<|zc (Ac6 hp<|zy _)<|zf (fun c=>ze ?_)<|fun c=>?_)
  ·have c:Fb [p.1,p.2]≠0:=by simpa using c
   have g:NM p.1 p.2≠0:=c;rw[wd g]at a;exact b _ _ g a
  ·have c:Fb [p.1,p.2]=0:=by simpa using c
   have g:NM p.1 p.2=0:=c;rw[wc<|by rw[g];decide]at a;obtain⟨s,I⟩:=JD g;have y:=HJ s;have H:=HJ I;have E:=HJ l;have f:FZ (Fk p.1) (EI q).1=E0 p.1 q.1:=aK s l;refine zc y.2 (zc H.2<|zc (w4<|by omega)<|zc (ad (by omega)<|by omega)<|zc (w4<|by omega)<|zc (Ab y.1 E.1)<|zf (fun d=>ze ?_)<|fun d=>?_)
   ·have d:=w6 d;have d:FZ (Fk p.1) (EI q).1<=0:=d;rw[f]at d;rw[wd d]at a;exact b 11 _ (by decide) a
   ·have d:=w7 d;have d:¬FZ (Fk p.1) (EI q).1<=0:=d;rw[f]at d;rw[wc d]at a;have go:=A2 t m v b j r (i+1) (n+1) p C (by omega) x (by rw[yz,yt];omega) (by rw[qc];exact u) s a;rw[<-eO t i p x u]at go;refine zc (Ab (Ab (Ab rfl rfl)<|w4<|by omega)<|w4<|by omega) go
theorem ok:Af A6 123 ZM:=by
 refine BO xC<|fun(t:List (Z×Z)) d=>?_;have d:(decide (t.length<=1000)&&J5 1000000 t)=true:=d;rw[zd,w5]at d;obtain⟨v,hp⟩:=d;have a:∀e ob,e≠0->B2 t=e->Ad ZM t (.tup [.nil,.dat i64 e]) ob:=fun e ob h k=>zr (y:=([],e)) rfl rfl (by
  show([],e)=(Vt t,B2 t);unfold Vt;rw[wd (by rw[k];exact h),k])
 have n:zq [Cj ((t.length:Int)==0) 12,Cj (decide ((t.length:Int)>64)) 5]=if t=[]then 12 else if 64<t.length then 5 else 0:=by
  rw[J1];by_cases h:t=[]
  ·rw[wd h,h];rfl
  ·have f:((t.length:Int)==0)=false:=by
    have:t.length≠0:=fun k=>h<|zu.1 k
    simp;omega
   rw[wc h,f,wc<|by decide];by_cases k:64<t.length
   ·rw[wd k,w4<|show(t.length:Int)>64 by omega];rfl
   ·rw[wc k,w8<|show ¬(t.length:Int)>64 by omega];rfl
 refine zn (Ai t) ?_;conv=>zeta
 rw[n];refine zc rfl (zc rfl (zc rfl ?_));by_cases h:t=[]
 ·rw[wd h];exact zc rfl (ze<|a 12 _ (by decide)<|by unfold B2;rw[wd h])
 ·rw[wc h];by_cases k:64<t.length
  ·rw[wd k];exact zc rfl (ze<|a 5 _ (by decide)<|by unfold B2;rw[wc h,wd k])
  ·rw[wc k];have g:B2 t=Es none t:=by unfold B2;rw[wc h,wc k]
   refine zw rfl ?_;obtain⟨p,r,rfl⟩:∃p r,t=p::r:=by
    cases t with
    |nil=>exact wh rfl h
    |cons p r=>exact⟨p,r,rfl⟩
   have q:(p::r).getD 0 ([],[])=p:=rfl;have i:=SS hp p<|ym ..;refine zl (Al ..) ?_;conv=>zeta
   rw[show Int.toNat 0=0 from rfl,q];refine zc (w4<|by rw[zh];omega) (zc (Ab rfl (w4<|by rw[zh];omega))<|zc (Ac6 i<|zy _)<|zf (fun c=>ze ?_)<|fun c=>?_)
   ·have c:Fb [p.1,p.2]≠0:=by simpa using c
    have b:NM p.1 p.2≠0:=c;exact a _ _ b (by rw[g,F9,wd b];rfl)
   ·have c:Fb [p.1,p.2]=0:=by simpa using c
    have b:NM p.1 p.2=0:=c;obtain⟨j,s⟩:=JD b;have u:=HJ j;have o:=HJ s;have l:zg .i64 ((0:Int)+1)=((1:Nat):Int):=rfl;rw[l];have go:=A2 (Q:=Ad ZM (p::r)) (p::r) (by omega) hp (fun e ob f m=>a e ob f<|by rw[g];exact m) (fun h0=>zr (mE rfl rfl) rfl (by
     show(((p::r).take (p::r).length).map EI,(0:Int))=(Vt (p::r),B2 (p::r));unfold Vt;rw[g,h0,wc (by decide),List.take_length])) r 1 1 p rfl (by decide) (by rw[zh];omega) (by rw[yz,yt,zh];omega) rfl j (by rw[F9,wc<|by rw[b];decide])
    exact zc u.2<|zc o.2<|zw rfl (zc rfl go)
end T123
theorem rJ:C9 XT2:=Aa T123.ok AI
theorem T54.ok:Af A6 54 Lz:=by
 refine BO rJ<|fun(t:List (Z×Z)) hi=>?_;exact zn (T54.Ai t)<|zc hi<|ze<|zr rfl rfl rfl
theorem rC:C9 XT4:=Aa T62.ok<|Aa T36.ok AI
namespace T60
variable {Q:PV->Ob->Prop}
theorem Ar(t:List BM)(j:t.length<=64)(s:J5 1000000 t=true)(e:∀ob,Q (.dat i64<|Es none t) ob):
  ∀(r:List BM) (i:Nat),t.drop i=r->i<=t.length->(0<i->At (t.getD (i-1) ([],[])).1=0)->Es none t=Es (Qi t i) r->Ends XT4 (L1 t (i:Int)) Q
 |[],i,h,v,g,b=>by
  have:=drop_nil h v;rw[Wk]at b;rw[b]at e;exact zl (Al ..) (zw (w8<|by omega)<|ze<|e _)
 |p::r,i,h,v,g,b=>by
  obtain⟨C,m,z⟩:=drop_cons (d:=(([],[]):BM)) h;have D:p∈t:=List.mem_of_mem_drop (by rw[h];exact ym ..);obtain⟨l1,l2⟩:=SS s p D;have w:=wn (i:=i) (by omega);have o:=nb (i:=i) (n:=t.length) (by omega);have a:=YI p.1 p.2;refine zl (Al ..) ?_;conv=>zeta
  rw[w,zo,m];refine zc (w4<|by omega)<|zc o<|zc (w4 l1)<|zf (fun c=>zc o<|zc (w4 l2)<|zf (fun d=>?_)<|fun d=>?_)<|fun c=>?_
  ·have c:At p.1=0:=by simpa using c
   have d:At p.2=0:=by simpa using d
   rw[wc (by rw[c];decide),d]at a;have db:(At p.2 !=0)=false:=by rw[d];rfl
   have n1:=Qm c;have nx:∀u,u=i+1->Es none t=Es (some p) r->Ends XT4 (L1 t ((i+1:Nat):Int)) Q:=fun u _ y=>
    Ar t j s e r (i+1) z C (fun _=>by rw[qc,m];exact c) (by rw[XX m];exact y)
   by_cases h0:i=0
   ·subst h0;refine zw rfl (zw db<|nx _ rfl ?_);rw[b];show Es none (p::r)=_;rw[F9,wc<|by rw[a];decide]
   ·have A:zg .i64 ((i:Int)-1)=((i-1:Nat):Int):=by rw[wr _ (by omega)<|by omega];omega
    have g:=g (by omega);have B:Qi t i=some (t.getD (i-1) ([],[])):=by unfold Qi;rw[wc h0]
    rw[B,HD,wc<|by rw[a];decide]at b;rw[A,zo];generalize t.getD (i-1) ([],[])=q at*;have n0:=Qm g;refine zc (w4<|by omega) (zc (ad (by omega)<|by omega)<|zc o<|zc (Ab (n0.num<|by decide)<|n1.Ep<|by decide)<|zf (fun k=>zc rfl (ze ?_))<|fun k=>zw db<|nx _ rfl ?_)
    ·have k:=w6 k;rw[wd<|(Vr _ _).2 k]at b;rw[b]at e;exact e _
    ·have k:=w7 k;rw[wc<|fun x=>k<|(Vr _ _).1 x]at b;exact b
  ·have c:At p.1=0:=by simpa using c
   have l:At p.2≠0:=by simpa using d
   rw[wc<|by rw[c];decide]at a;refine zc (by simpa using l)<|ze ?_;have:Es none t=At p.2:=by
    rw[b];cases Qi t i with
    |none=>rw[F9,wd (by rw[a];exact l),a]
    |some q=>rw[HD,wd (by rw[a];exact l),a]
   rw[<-this];exact e _
  ·have f:At p.1≠0:=by simpa using c
   rw[wd f]at a;have:Es none t=At p.1:=by
    rw[b];cases Qi t i with
    |none=>rw[F9,wd (by rw[a];exact f),a]
    |some q=>rw[HD,wd (by rw[a];exact f),a]
   refine zw (by simpa using f) (zc (by simpa using f)<|ze ?_);rw[<-this];exact e _
theorem ok:Af A6 60 Lz:=by
 refine BO rC<|fun(t:List (Z×Z)) b=>?_;have b:(decide (t.length<=1000)&&J5 1000000 t)=true:=b;rw[zd,w5]at b;have a:∀e ob,B2 t=e->Ad Lz t (.dat i64 e) ob:=fun e ob h=>zr rfl rfl h.symm
 unfold B2 at a;refine zn (Ai t)<|zf (fun c=>ze<|a _ _ ?_)<|fun c=>zf (fun d=>ze<|a _ _ ?_)<|fun d=>?_
 ·have:t=[]:=zu.1 (by have:(t.length:Int)=0:=(by simpa using c);omega);rw[wd this]
 ·have c:(t.length:Int)≠0:=by simpa using c
  have d:=w6 d;rw[wc (by rintro rfl;exact c rfl),wd<|by omega]
 ·have c:(t.length:Int)≠0:=by simpa using c
  have d:=w7 d;rw[wc (by rintro rfl;exact c rfl),wc<|by omega]at a;exact Ar t (by omega) b.2 (fun ob=>a _ ob rfl) t 0 rfl (Nat.zero_le _) (fun h=>wh h<|by decide) rfl
end T60
end Go.Pe
namespace Go.Sp
theorem Aaz{s:Z}(h:Bj s=true){k:Nat}(b:s.length<=k)(d:1<=k):Nu k s (Au s):=by
 obtain⟨a,_⟩:=F5 h;have e:(AU<|Au s).length<=k:=by rw[a];exact b
 refine⟨a.symm,?_⟩;generalize Au s=q at*;have f:(zi q.num.natAbs).length<=(y9 q.num).length:=by
  unfold y9;split
  ·rw[zh];omega
  ·rw[show q.num.toNat=q.num.natAbs by omega];exact zy _
 unfold AU at e;split at e
 ·next c=>exact⟨CP (k:=k) _ (by omega),by rw[c];exact Kv k<|by omega⟩
 ·rw[zp,zh]at e;exact⟨CP (k:=k) _ (by omega),CP (k:=k) _<|by omega⟩
theorem Vi{s:Z}(h:At s=0){k:Nat}(b:s.length<=k)(a:1<=k):Nu k s (Au s):=Aaz (CQ h).1 b a
theorem No{t:List BM}(h:B2 t=0):t≠[]/\t.length<=64/\Es none t=0:=by
 unfold B2 at h;split at h
 ·exact wh h (by decide)
 ·next k=>
  split at h
  ·exact wh h (by decide)
  ·exact⟨k,by omega,h⟩
theorem mZ{q p:BM}{l:List BM}(h:Es (some q) (p::l)=0):At p.1=0/\At p.2=0/\Au q.1<Au p.1/\Es (some p) l=0:=by
 rw[HD]at h;split at h
 ·next k=>exact wh h k
 ·next k=>
  split at h
  ·exact wh h (by decide)
  ·next d=>
   obtain⟨e,c⟩:=JD (a:=p.1) (b:=p.2) (by omega);rw[OF]at d;exact⟨e,c,yf.1 d,h⟩
theorem qE{p:BM}{l:List BM}(h:Es none (p::l)=0):At p.1=0/\At p.2=0/\Es (some p) l=0:=by
 rw[F9]at h;split at h
 ·next k=>exact wh h k
 ·next k=>
  obtain⟨d,c⟩:=JD (a:=p.1) (b:=p.2) (by omega);exact⟨d,c,h⟩
theorem Bm(x:Int)(l:List Int):first (x::l)=0↔x=0/\first l=0:=by
 rw[first];by_cases h:x=0
 ·simp[h]
 ·simp[h]
theorem pT{b:Bool}{e:Int}(a:e≠0):Cj b e=0↔b=false:=by
 cases b
 ·exact⟨fun _=>rfl,fun _=>rfl⟩
 ·exact⟨fun h=>wh h a,fun h=>by cases h⟩
theorem F7{a:B0}{lo b:Int}(h:BI a lo b=0):At a=0/\(lo:Rat)<=Au a/\Au a<=(b:Rat):=by
 unfold BI at h;by_cases k:At a=0
 ·rw[wc<|by simpa using k]at h;split at h
  ·exact wh h (by decide)
  ·next d=>
   rw[not_or]at d;exact⟨k,yk.1 d.1,yk.1 d.2⟩
 ·rw[wd k]at h;exact wh h k
structure Xg(s:BX):Prop where
 rise:At s.1=0
 wind:At s.2.1=0
 lay:At s.2.2.1=0
 roll:At s.2.2.2.1=0
 riseB:(-10000:Rat)<=Au s.1/\Au s.1<=10000
 windB:(-10000:Rat)<=Au s.2.1/\Au s.2.1<=10000
 layB:0<=Au s.2.2.1/\Au s.2.2.1<=10000
 rollB:0<=Au s.2.2.2.1/\Au s.2.2.2.1<=10000
 len:s.2.2.2.2.length<=16
 obs:∀o∈s.2.2.2.2,0<=o.2/\o.2<=10
theorem Vz:∀ {l:List Io},fF l=0->∀o∈l,0<=o.2/\o.2<=10
 |[],_,o,a=>by cases a
 |x::l,h,o,a=>by
  unfold fF at h;split at h
  ·exact wh h (by decide)
  ·split at h
   ·exact wh h (by decide)
   ·next d=>
    rcases yv.1 a with rfl|a
    ·omega
    ·exact Vz h o a
theorem nR{s:BX}(h:K5 s=0):Xg s:=by
 unfold K5 at h;by_cases k:Uf s=0
 ·rw[wc<|by simpa using k]at h;unfold Uf at k;rw[Bm,Bm,Bm,Bm,Bm]at k;obtain⟨b,d,c,e,a,_⟩:=k;rw[pT<|by decide]at a;have a:=w7 a;obtain⟨a1,a2,a3⟩:=F7 b;obtain⟨b1,b2,b3⟩:=F7 d;obtain⟨c1,c2,c3⟩:=F7 c;obtain⟨d1,d2,d3⟩:=F7 e;exact⟨a1,b1,c1,d1,⟨a2,a3⟩,⟨b2,b3⟩,⟨c2,c3⟩,⟨d2,d3⟩,by omega,Vz h⟩
 ·rw[wd k]at h;exact wh h k
theorem RU:∀ {l:List BX},I4 l=0->∀s∈l,K5 s=0
 |[],_,s,a=>by cases a
 |x::l,h,s,a=>by
  unfold I4 at h;by_cases k:K5 x=0
  ·rw[wc<|by simpa using k]at h;rcases yv.1 a with rfl|a
   ·exact k
   ·exact RU h s a
  ·rw[wd k]at h;exact wh h k
theorem Se{n:Int}:∀ {l:List Ct} {seen:List B0},FV n seen l=0->∀t∈l,(t.2.length:Int)=n/\Er t.2=false
 |[],_,_,t,a=>by cases a
 |x::l,seen,h,t,a=>by
  unfold FV at h;split at h
  ·exact wh h (by decide)
  ·split at h
   ·exact wh h (by decide)
   ·split at h
    ·exact wh h (by decide)
    ·next k=>
     split at h
     ·exact wh h (by decide)
     ·next d=>
      rcases yv.1 a with rfl|a
      ·exact⟨yf.1 k,by simpa using d⟩
      ·exact Se h t a
theorem Yl{l:List Int}(h:Er l=false):∀n∈l,1<=n/\n<=10000:=by
 intro n a;unfold Er at h;rw[List.any_eq_false]at h;have:=h n a;rw[qp,w5,w5]at this;omega
theorem RK:∀ {l:List BW} {seen:List B0},LN seen l=0->∀x∈l,JL x=0
 |[],_,_,x,a=>by cases a
 |y::l,seen,h,x,a=>by
  unfold LN at h;by_cases k:JL y=0
  ·rw[wc<|by simpa using k]at h;split at h
   ·exact wh h (by decide)
   ·rcases yv.1 a with rfl|a
    ·exact k
    ·exact RK h x a
  ·rw[wd k]at h;exact wh h k
theorem V3:∀ {l:List BM} {seen:List B0},ZA seen l=0->(∀w∈l,At w.2=0/\0<=Au w.2/\w.1∉seen)/\(l.map Prod.fst).Nodup
 |[],_,_=>⟨fun w hw=>(by cases hw),List.nodup_nil⟩
 |x::l,seen,h=>by
  unfold ZA at h;split at h
  ·exact wh h (by decide)
  ·split at h
   ·exact wh h (by decide)
   ·next a=>
    have a:x.1∉seen:=by
     unfold has at a;simpa using a
    by_cases k:At x.2=0
    ·rw[wc<|by simpa using k]at h;split at h
     ·exact wh h (by decide)
     ·next d=>
      obtain⟨b,c⟩:=V3 h;refine⟨fun w hw=>?_,?_⟩
      ·rcases yv.1 hw with rfl|hw
       ·exact⟨k,yk.1 d,a⟩
       ·obtain⟨i,f,j⟩:=b w hw;exact⟨i,f,fun x=>j<|List.mem_cons_of_mem _ x⟩
      ·rw[List.map_cons,List.nodup_cons];refine⟨fun g=>?_,c⟩;obtain⟨w,hw,e⟩:=List.mem_map.1 g;exact(b w hw).2.2 (by rw[e];exact ym ..)
    ·rw[wd k]at h;exact wh h k
structure jC(l:BW):Prop where
 head:At l.2.1=0
 next:At l.2.2.1=0
 headB:(1:Rat)<=Au l.2.1/\Au l.2.1<=10000
 nextB:(1:Rat)<=Au l.2.2.1/\Au l.2.2.1<=10000
 tab:B2 l.2.2.2.1=0
 up:RX none l.2.2.2.1=0
 wlen:l.2.2.2.2.length<=16
 wts:∀w∈l.2.2.2.2,At w.2=0/\0<=Au w.2
 one:(l.2.2.2.2.map Prod.fst).Nodup
theorem gS{l:BW}(h:JL l=0):jC l:=by
 unfold JL at h;by_cases k:Mh l=0
 ·rw[wc<|by simpa using k]at h;by_cases u:RX none l.2.2.2.1=0
  ·rw[wc<|by simpa using u]at h;unfold Mh at k;rw[Bm,Bm,Bm,Bm]at k;obtain⟨_,e,c,g,_⟩:=k;obtain⟨a1,a2,a3⟩:=F7 e;obtain⟨b1,b2,b3⟩:=F7 c;unfold NL at h;split at h
   ·exact wh h (by decide)
   ·next d=>
    obtain⟨b,f⟩:=V3 h;exact⟨a1,b1,⟨a2,a3⟩,⟨b2,b3⟩,g,u,by omega,fun w a=>⟨(b w a).1,(b w a).2.1⟩,f⟩
  ·rw[wd u]at h;exact wh h u
 ·rw[wd k]at h;exact wh h k
structure X3(c:AT):Prop where
 s1:c.1≠[]/\c.1.length<=36
 t1:c.2.1≠[]/\c.2.1.length<=8
 l1:c.2.2≠[]/\c.2.2.length<=8
 st:∀s∈c.1,Xg s
 te:∀t∈c.2.1,t.2.length=c.1.length/\∀n∈t.2,1<=n/\n<=10000
 lv:∀l∈c.2.2,jC l
theorem UU{c:AT}(h:NU c=0):X3 c:=by
 unfold NU at h;split at h
 ·exact wh h (by decide)
 next a1=>
 split at h
 ·exact wh h (by decide)
 next a2=>
 split at h
 ·next k=>exact wh h k
 next a3=>
 unfold Ut at h;split at h
 ·exact wh h (by decide)
 next f=>
 split at h
 ·exact wh h (by decide)
 next m=>
 split at h
 ·next k=>exact wh h k
 next a=>
 unfold NN at h;split at h
 ·exact wh h (by decide)
 next i=>
 split at h
 ·exact wh h (by decide)
 next n=>
 have a3:I4 c.1=0:=yf.1 a3;have a:FV (c.1.length:Int) [] c.2.1=0:=yf.1 a;refine⟨⟨a1,by omega⟩,⟨f,by omega⟩,⟨i,by omega⟩,fun s g=>nR<|RU a3 s g,fun t d=>?_,fun l b=>gS<|RK h l b⟩;obtain⟨j,e⟩:=Se a t d;exact⟨by omega,Yl e⟩
theorem GY{α:Type}{l:List α}{i:Nat}{d:α}(h:i<l.length):l.getD i d∈l:=by
 rw[zm,zx h];exact List.getElem_mem h
theorem DA{i n:Int}(h:KO i n=false):0<=i/\i<n:=by
 unfold KO at h;rw[z7,w9,w9]at h;omega
theorem QG{c:AT}{b:Bool}(h:J8 c b=0):NU c=0/\b=false:=by
 unfold J8 at h;split at h
 ·next k=>exact wh h k
 ·next k=>
  split at h
  ·exact wh h (by decide)
  ·next d=>exact⟨yf.1 k,by simpa using d⟩
theorem Nf{c:AT}(h:He c=true):c.1.length<=38/\c.2.1.length<=10/\c.2.2.length<=10/\(∀s∈c.1,BY s=true)/\(∀t∈c.2.1,Ds t=true)/\(∀l∈c.2.2,BB l=true):=by
 unfold He at h;rw[zd,zd,zd,zd,zd,w5,w5,w5,zk,zk,zk]at h;obtain⟨⟨⟨⟨⟨b,d⟩,g⟩,f⟩,a⟩,e⟩:=h;exact⟨b,d,g,f,a,e⟩
theorem QB{c:AT}(h:sU c=true):c.1.length<=38/\c.2.1.length<=10/\c.2.2.length<=10/\(∀s∈c.1,BY s=true)/\(∀t∈c.2.1,AcW t=true)/\(∀l∈c.2.2,P2 l=true):=by
 unfold sU at h;rw[zd,zd,zd,zd,zd,w5,w5,w5,zk,zk,zk]at h;obtain⟨⟨⟨⟨⟨b,d⟩,g⟩,f⟩,a⟩,e⟩:=h;exact⟨b,d,g,f,a,e⟩
theorem N4{s:BX}(h:BY s=true):s.1.length<=20/\s.2.1.length<=20/\s.2.2.1.length<=20/\s.2.2.2.1.length<=20/\s.2.2.2.2.length<=20:=by
 unfold BY at h;rw[zd,zd,zd,zd,w5,w5,w5,w5,w5]at h;obtain⟨⟨⟨⟨e,a⟩,d⟩,c⟩,b⟩:=h;exact⟨e,a,d,c,b⟩
theorem N8{l:List BM}{n m:Nat}(h:IA l n m=true):∀p∈l,p.1.length<=n/\p.2.length<=m:=by
 intro p hp;unfold IA at h;rw[zk]at h;have:=h p hp;rwa [zd,w5,w5]at this
structure vG(l:BW):Prop where
 name:l.1.length<=40
 head:l.2.1.length<=20
 next:l.2.2.1.length<=20
 tl:l.2.2.2.1.length<=70
 wl:l.2.2.2.2.length<=20
 tab:∀p∈l.2.2.2.1,p.1.length<=20/\p.2.length<=20
 wts:∀p∈l.2.2.2.2,p.1.length<=40/\p.2.length<=20
theorem SO{l:BW}(h:BB l=true):vG l:=by
 unfold BB at h;rw[zd,zd,zd,zd,zd,zd,w5,w5,w5,w5,w5]at h;obtain⟨⟨⟨⟨⟨⟨c,d⟩,g⟩,f⟩,a⟩,e⟩,b⟩:=h;exact⟨c,d,g,f,a,N8 e,N8 b⟩
theorem T0{c:AT}{h:Int}(a:X3 c)(d:He c=true)(b:K0 c h=false):Xg (Bu c h)/\BY (Bu c h)=true:=by
 obtain⟨h0,e⟩:=DA b;have m:Bu c h∈c.1:=GY (by omega);exact⟨a.st _ m,(Nf d).2.2.2.1 _ m⟩
theorem vF{c:AT}{l:Int}(a:X3 c)(d:He c=true)(b:cT c l=false):jC (Cw c l)/\vG (Cw c l):=by
 obtain⟨h0,e⟩:=DA b;have m:Cw c l∈c.2.2:=GY (by omega);exact⟨a.lv _ m,SO<|(Nf d).2.2.2.2.2 _ m⟩
theorem vS{c:AT}{t h:Int}(a:X3 c)(e:VH c t=false)(b:K0 c h=false):1<=G6 c t h/\G6 c t h<=10000/\(c.2.1.getD t.toNat ([],[])).2.length=c.1.length:=by
 obtain⟨t0,t1⟩:=DA e;obtain⟨h0,h1⟩:=DA b;have m:c.2.1.getD t.toNat ([],[])∈c.2.1:=GY (by omega);obtain⟨e1,e2⟩:=a.te _ m;have d:G6 c t h∈(c.2.1.getD t.toNat ([],[])).2:=GY (by omega);have:=e2 _ d;exact⟨this.1,this.2,e1⟩
structure AeS(l:BW):Prop where
 head:l.2.1.length<=20
 next:l.2.2.1.length<=20
 tl:l.2.2.2.1.length<=70
 tab:∀p∈l.2.2.2.1,p.1.length<=20/\p.2.length<=20
 wts:∀p∈l.2.2.2.2,p.2.length<=20
theorem vE{l:BW}(h:P2 l=true):AeS l:=by
 unfold P2 at h;rw[zd,zd,zd,zd,w5,w5,w5,zk]at h;obtain⟨⟨⟨⟨b,c⟩,e⟩,d⟩,a⟩:=h;exact⟨b,c,e,N8 d,fun p hp=>w6<|a p hp⟩
theorem xU{l:BW}(h:BB l=true):P2 l=true:=by
 have k:=SO h;unfold BB at h;rw[zd,zd]at h;unfold P2;rw[w4 k.head,w4 k.next,w4 k.tl,h.1.2,zk.2 fun p hp=>w4 (k.wts p hp).2];rfl
theorem Abx{c:AT}(h:He c=true):sU c=true:=by
 obtain⟨e,f,j,i,a,g⟩:=Nf h;unfold sU;rw[w4 e,w4 f,w4 j,zk.2 i,zk.2<|fun l b=>xU<|g l b,zk.2<|fun t d=>?_]
 ·rfl
 ·have:=a t d;unfold Ds at this;rw[zd,w5,w5]at this;exact w4 (by omega)
theorem mP(q:Rat):bU (AU q)=max (zi q.num.natAbs).length (zi q.den).length:=by
 unfold bU;rw[(FA q).1,(Dw q.num).2.1,Ve]
theorem AaI{s:Z}(h:At s=0):Nu (bU s) s (Au s):=by
 obtain⟨n,_⟩:=CQ h;have e:=(F5 n).1;have a:=mP<|Au s;rw[e]at a;exact⟨e.symm,CP _ (by rw[a];exact Nat.le_max_left ..),CP _<|by rw[a];exact Nat.le_max_right ..⟩
theorem Bn(x:Int)(l:List Int):first (x::l)=if x≠0 then x else first l:=by
 by_cases h:x=0
 ·subst h;rw[wc (by simp),first];rfl
 ·rw[wd h,first];simp[h]
theorem EY(b:Bool)(e:Int):Cj b e=if b=true then e else 0:=by cases b<;>rfl
theorem Di{α:Type}{l r:List α}{x:α}{i:Nat}(h:l.drop i=x::r):l.take (i+1)=l.take i++[x]:=by
 have a:i<l.length:=by
  rcases Nat.lt_or_ge i l.length with c|c
  ·exact c
  ·rw[qi c]at h;cases h
 have b:=List.drop_eq_getElem_cons a;rw[h]at b;simp only[List.cons.injEq]at b;rw[List.take_add_one,zx a,b.1];rfl
end Go.Sp
namespace Go.Pe
open Sp
open Go.Det
structure RS(k:Nat)(f:Ak)(q:Rat):Prop where
 r:EX f q
 z:Hf k q
theorem RS.mono{i j:Nat}{f:Ak}{q:Rat}(h:RS i f q)(k:i<=j):RS j f q:=⟨h.r,h.z.mono k⟩
theorem RS.s{k:Nat}{f:Ak}{q:Rat}(h:RS k f q)(a:k<=4000):Lx 4000 q:=Pr h.z a
theorem RS.CS{k:Nat}{f:Ak}{q:Rat}(h:RS k f q)(a:k<=4000):Sp.CS f=true:=h.r.CS<|h.s a
theorem RS.Df{k:Nat}{f:Ak}{q:Rat}(h:RS k f q)(a:k<=4000):q9 f=true:=h.r.Df<|h.s a
theorem RS.ZT{i j:Nat}{f g:Ak}{p q:Rat}(a:RS i f p)(d:RS j g q)(b:i<=4000)(c:j<=4000):(Sp.CS f&&Sp.CS g)=true:=Ab (a.CS b)<|d.CS c
theorem RS.add{i j:Nat}{f g:Ak}{p q:Rat}(a:RS i f p)(b:RS j g q)(c:i<=4000)(d:j<=4000):RS (i+j+1) (Ci f g) (p+q):=⟨EX.add a.r b.r (a.s c)<|b.s d,a.z.add b.z⟩
theorem RS.sub{i j:Nat}{f g:Ak}{p q:Rat}(a:RS i f p)(b:RS j g q)(c:i<=4000)(d:j<=4000):RS (i+j+1) (NW f g) (p-q):=⟨EX.sub a.r b.r (a.s c)<|b.s d,a.z.sub b.z⟩
theorem RS.mul{i j:Nat}{f g:Ak}{p q:Rat}(a:RS i f p)(b:RS j g q)(c:i<=4000)(d:j<=4000):RS (i+j) (LW f g) (p*q):=⟨EX.mul a.r b.r (a.s c)<|b.s d,a.z.mul b.z⟩
theorem RS.div{i j:Nat}{f g:Ak}{p q:Rat}(b:RS i f p)(a:RS j g q)(d:i<=4000)(c:j<=4000)(h0:q≠0):RS (i+j) (KN f g) (p/q):=⟨EX.div b.r a.r (b.s d) (a.s c) (Pr (a.z.inv h0) c) h0,b.z.div a.z h0⟩
theorem RS.ok3{i j:Nat}{f g:Ak}{p q:Rat}(b:RS i f p)(a:RS j g q)(c:i<=4000)(d:j<=4000)(h0:q≠0):(Sp.CS f&&Sp.CS g&&decide (Sp.vI g.1≠0))=true:=Ab (b.ZT a c d)<|a.r.Je.trans<|w4 h0
theorem RS.cmp{i j:Nat}{f g:Ak}{p q:Rat}(a:RS i f p)(b:RS j g q):FZ f g=if p<q then -1 else if q<p then 1 else 0:=EX.cmp a.r b.r
theorem RS.OF{i j:Nat}{f g:Ak}{p q:Rat}(a:RS i f p)(b:RS j g q):FZ f g<=0↔p<=q:=by
 rw[a.cmp b];by_cases h:p<q
 ·rw[wd h];exact⟨fun _=>qz h,fun _=>by decide⟩
 ·rw[wc h];by_cases k:q<p
  ·rw[wd k];exact⟨fun x=>wh x (by decide),fun x=>wh k<|yk.2 x⟩
  ·rw[wc k];exact⟨fun _=>yk.1 k,fun _=>by decide⟩
theorem RS.oO{i j:Nat}{f g:Ak}{p q:Rat}(a:RS i f p)(b:RS j g q):FZ f g<0↔p<q:=by
 rw[a.cmp b];by_cases h:p<q
 ·rw[wd h];exact⟨fun _=>h,fun _=>by decide⟩
 ·rw[wc h];by_cases k:q<p
  ·rw[wd k];exact⟨fun x=>wh x (by decide),fun x=>wh x h⟩
  ·rw[wc k];exact⟨fun x=>wh x (by decide),fun x=>wh x h⟩
theorem RS.qG{i j:Nat}{f g:Ak}{p q:Rat}(a:RS i f p)(b:RS j g q):FZ f g>0↔q<p:=by
 have h:=a.OF b;constructor
 ·intro k;exact Rat.not_le.1 fun x=>by have:=h.2 x;omega
 ·intro k;have:¬FZ f g<=0:=fun x=>Rat.not_le.2 k<|h.1 x
  omega
theorem RS.Mt{k:Nat}{f:Ak}{q:Rat}(h:RS k f q):(P4 f<0↔q<0)/\(P4 f=0↔q=0):=by
 have e:P4 f=Sp.Mt q.num:=by unfold P4;rw[h.r.vn]
 have n1:=Sp.neg_num q;rw[e];unfold Sp.Mt;constructor
 ·rw[<-n1.1];split
  ·next c=>exact⟨fun _=>c,fun _=>by decide⟩
  ·next c=>
   split
   ·exact⟨fun x=>wh x (by decide),fun x=>wh x c⟩
   ·exact⟨fun x=>wh x (by decide),fun x=>wh x c⟩
 ·split
  ·next c=>exact⟨fun x=>wh x (by decide),fun x=>wh (n1.1.1 c)<|by rw[x];exact Rat.lt_irrefl⟩
  ·next c=>
   split
   ·next d=>exact⟨fun x=>wh x (by decide),fun x=>wh (n1.2.1 d)<|by rw[x];exact Rat.lt_irrefl⟩
   ·next d=>exact⟨fun _=>qn.1 (by omega),fun _=>rfl⟩
theorem RS.C6{k:Nat}{f:Ak}{q:Rat}(h:RS k f q):Sp.C6 f.1=true:=h.r.n
theorem VL{s:Z}(h:At s=0):RS (Sp.bU s) (Fk s) (Au s):=⟨IS (CQ h).1,(AaI h).z⟩
theorem KP{s:Z}(h:At s=0){k:Nat}(b:s.length<=k)(a:1<=k):RS k (Fk s) (Au s):=⟨IS (CQ h).1,(Vi h b a).z⟩
theorem T8{n:Int}{k:Nat}(h:n.natAbs<10^k)(b:1<=k)(a:k<=18):RS k ((n,CW n),(1,CW 1)) (n:Rat):=by
 have hp:10^k<=10^18:=yg (by decide) a;have c:10^1<=10^k:=yg (by decide) b;have hr:CI n=true:=by
  unfold CI;exact ad (by omega) (by omega)
 refine⟨AdW n hr,?_,?_⟩
 ·rw[qo];exact h
 ·rw[Rat.den_intCast];omega
theorem T5:RS 1 ((0,CW 0),(1,CW 1)) 0:=T8 (n:=0) (by decide) (by decide) (by decide)
theorem Aag{k:Nat}{f:Ak}{q:Rat}(h:RS k f q){e:Int}(a:e=0):(PI f,Pu f)=(fI e q,fB e q):=AaE h.r a
end Go.Pe
namespace Go.Sp
theorem Ti(s:BX)(n:Int):plV s n=if (n:Rat)+(Au s.1+Au s.2.1+Au s.2.2.1)<0 then 0 else(n:Rat)+(Au s.1+Au s.2.1+Au s.2.2.1):=rfl
theorem XC(s:BX)(n:Int):0<=plV s n:=by
 rw[Ti];split
 ·exact Rat.le_refl
 ·next h=>exact yk.1 h
end Go.Sp
namespace Go.Pe
open Sp
open Go.Det
open Go.Sp (AT BX BW BM Io B0)
structure HoR(s:BX):Prop where
 rise:RS 20 (Fk s.1) (Au s.1)
 wind:RS 20 (Fk s.2.1) (Au s.2.1)
 lay:RS 20 (Fk s.2.2.1) (Au s.2.2.1)
 roll:RS 20 (Fk s.2.2.2.1) (Au s.2.2.2.1)
theorem oT{s:BX}(h:Xg s)(k:Sp.BY s=true):HoR s:=by
 obtain⟨a,c,b,d,_⟩:=N4 k;exact⟨KP h.rise a (by decide),KP h.wind c (by decide),KP h.lay b (by decide),KP h.roll d<|by decide⟩
structure LvR(l:BW):Prop where
 head:RS 20 (Fk l.2.1) (Au l.2.1)
 next:RS 20 (Fk l.2.2.1) (Au l.2.2.1)
 hp:0<Au l.2.1
 np:0<Au l.2.2.1
 wts:∀w∈l.2.2.2.2,RS 20 (Fk w.2) (Au w.2)
theorem VF:(0:Rat)<1:=by decide+kernel
theorem Abg{l:BW}(h:jC l)(k:vG l):LvR l:=
 ⟨KP h.head k.head (by decide),KP h.next k.next (by decide),Std.lt_of_lt_of_le VF h.headB.1,Std.lt_of_lt_of_le VF h.nextB.1,fun w a=>KP (h.wts w a).1 (k.wts w a).2<|by decide⟩
structure AtP(c:AT)(t h:Int):Prop where
 co:X3 c
 sh:He c=true
 t0:0<=t/\t<(c.2.1.length:Int)
 h0:0<=h/\h<(c.1.length:Int)
 te:1<=G6 c t h/\G6 c t h<=10000
 tl:(c.2.1.getD t.toNat ([],[])).2.length=c.1.length
 st:Xg (Bu c h)
 hr:HoR (Bu c h)
theorem KZ{c:AT}{t h:Int}(k:Y2 c t h=true):AtP c t h:=by
 unfold Y2 at k;rw[zd,w5]at k;obtain⟨sh,e⟩:=k;obtain⟨e1,e2⟩:=QG e;rw[z7]at e2;have co:=UU e1;obtain⟨s1,s2⟩:=T0 co sh e2.2;obtain⟨t1,t2,t3⟩:=vS co e2.1 e2.2;exact⟨co,sh,DA e2.1,DA e2.2,⟨t1,t2⟩,t3,s1,oT s1 s2⟩
structure AtL(c:AT)(l:Int):Prop where
 co:X3 c
 sh:He c=true
 l0:0<=l/\l<(c.2.2.length:Int)
 lv:jC (Cw c l)
 ls:vG (Cw c l)
 lr:LvR (Cw c l)
theorem WQ{c:AT}{t h l:Int}(k:bD c t h l=true):Y2 c t h=true/\Sp.okO c h l=true:=by
 unfold bD at k;rw[zd,w5]at k;obtain⟨sh,e⟩:=k;obtain⟨e1,e2⟩:=QG e;rw[z7,z7]at e2;have mk:∀b:Bool,b=false->J8 c b=0:=fun b a=>by
  unfold J8;rw[wc (by simpa using e1),a];rfl
 exact⟨Ab sh (w4<|mk _<|by rw[e2.1,e2.2.1];rfl),Ab sh<|w4<|mk _<|by rw[e2.2.1,e2.2.2];rfl⟩
theorem Yc{c:AT}{h l:Int}(k:Sp.okO c h l=true):AtL c l/\(0<=h/\h<(c.1.length:Int))/\Xg (Bu c h)/\HoR (Bu c h):=by
 unfold Sp.okO at k;rw[zd,w5]at k;obtain⟨sh,e⟩:=k;obtain⟨e1,e2⟩:=QG e;rw[z7]at e2;have co:=UU e1;obtain⟨l1,l2⟩:=vF co sh e2.2;obtain⟨s1,s2⟩:=T0 co sh e2.1;exact⟨⟨co,sh,DA e2.2,l1,l2,Abg l1 l2⟩,DA e2.1,s1,oT s1 s2⟩
theorem fV{n:Int}(h:1<=n/\n<=10000):RS 5 (Sp.iF n) (n:Rat):=T8 (by omega) (by decide) (by decide)
theorem nK{c:AT}{t h:Int}(k:AtP c t h):RS 70 (lO c t h) ((G6 c t h:Rat)+(Au (Bu c h).1+Au (Bu c h).2.1+Au (Bu c h).2.2.1)):=by
 have z:RS 1 Sp.zF 0:=T5;have a1:=z.add k.hr.rise (by decide) (by decide);have a2:=a1.add k.hr.wind (by decide) (by decide);have a3:=a2.add k.hr.lay (by decide) (by decide);have a4:=(fV k.te).add a3 (by decide) (by decide);rw[Rat.zero_add]at a4;exact a4.mono (by decide)
theorem Wf{c:AT}{t h:Int}(k:AtP c t h):RS 70 (Of c t h) (El c t h):=by
 have a:=nK k;unfold Of El;rw[Ti];by_cases s:P4 (lO c t h)<0
 ·rw[wd s,wd<|a.Mt.1.1 s];exact(T5).mono (by decide)
 ·rw[wc s,wc fun x=>s<|a.Mt.1.2 x];exact a
theorem Jv{a b:Rat}(d:0<a)(c:0<=b):0<a+b:=by grind
theorem zU{c:AT}{t h l:Int}(k:bD c t h l=true):RS 194 (qI c t h l) (Tw c t h l):=by
 obtain⟨kp,ko⟩:=WQ k;have P:=KZ kp;obtain⟨L,_,_,_⟩:=Yc ko;have p:=Wf P;have r:=P.hr.roll;have a:=P.st.rollB.1;have reach:=L.lr.head.add r (by decide) (by decide);have b:=L.lr.next.add r (by decide) (by decide);have h0:Au (Cw c l).2.1+Au (Bu c h).2.2.2.1≠0:=ql<|Jv L.lr.hp a;have n0:Au (Cw c l).2.2.1+Au (Bu c h).2.2.2.1≠0:=ql<|Jv L.lr.np a;unfold qI Tw rT G2 LF Ik;by_cases s:FZ (Of c t h) (Ci (Fk (Cw c l).2.1)<|Fk (Bu c h).2.2.2.1)<=0
 ·rw[wd s,wd<|(p.OF reach).1 s];exact((p.mul L.lr.head (by decide)<|by decide).div reach (by decide) (by decide) h0).mono (by decide)
 ·rw[wc s,wc fun x=>s<|(p.OF reach).2 x];have d:=p.sub reach (by decide) (by decide);have m:=d.mul L.lr.next (by decide) (by decide);have q:=m.div b (by decide) (by decide) n0;exact(L.lr.head.add q (by decide)<|by decide).mono (by decide)
end Go.Pe
namespace Go.Sp
theorem eX{a:AG}(h:C6 a=true)(c: -9223372036854775808<vI a)(b:vI a<9223372036854775808):a.1=vI a:=by
 unfold C6 at h;rw[zd,qp,zd,w5,w5]at h;unfold vI at c b ⊢;by_cases e:a.2=[]
 ·rw[wd e]
 ·rw[wc e]at c b;rcases h.2 with k|⟨_,k⟩
  ·exact wh k e
  ·by_cases n:a.1<0
   ·rw[wd n]at c;omega
   ·rw[wc n]at b;omega
theorem dM{a b m:Rat}(c:0<b)(h:m*b<a):m<a/b:=by
 refine Rat.not_le.1 fun k=>?_
 have:=Rat.mul_le_mul_of_nonneg_right k<|qz c;rw[Rat.div_mul_cancel<|ql c]at this;exact wh h<|yk.2 this
theorem dN{a b m:Rat}(c:0<b)(h:a<=m*b):a/b<=m:=by
 refine Rat.le_of_mul_le_mul_right ?_ c;rw[Rat.div_mul_cancel<|ql c];exact h
theorem mC{p h n r:Rat}(b:0<=p)(hp:p<=40000)(d:1<=h)(a:h<=10000)(c:1<=n)(hr:0<=r): -10001<Dr ((p-h+n)/(n+r))/\Dr ((p-h+n)/(n+r))<=40001:=by
 have s:0<n+r:=by grind
 constructor
 ·refine Tn.2<|dM s ?_;rw[show((-10001:Int):Rat)= -10001 from rfl];grind
 ·refine H7.2<|dN s ?_;rw[show((40001:Int):Rat)=40001 from rfl];grind
theorem Abv{s:BX}{n:Int}(h:Xg s)(b:n<=10000):plV s n<=40000:=by
 have a:(n:Rat)<=((10000:Int):Rat):=Rat.intCast_le_intCast.2 b;have a:(n:Rat)<=10000:=a;have c:=h.riseB.2;have e:=h.windB.2;have d:=h.layB.2;rw[Ti];split<;>grind
end Go.Sp
namespace Go.Pe
open Sp
open Go.Det
theorem Aaw{f:Ak}{q:Rat}{k:Nat}(h:RS k f q)(c:k<=4000):Sp.CS (vK f)=true/\Sp.C6 (Et (Cn f.1) f.2)=true/\Sp.C6 (Cn<|Et (Cn f.1) f.2)=true/\Sp.vI (Cn<|Et (Cn f.1) f.2)=Dr q:=by
 have n:=EX.neg h.r<|h.s c;obtain⟨a,b⟩:=cX n h.z.neg c;have a:Bc (Et (Cn f.1) f.2)=true:=a;have b:Sp.vI (Et (Cn f.1) f.2)=(-q).floor:=b;obtain⟨a1,a2⟩:=B3 a;exact⟨n.CS<|Pr h.z.neg c,a1,(TM a1 (k:=9000) (by omega) (by omega) a2).1,by rw[HU,b];rfl⟩
theorem Aas{f:Ak}{q:Rat}{k:Nat}(h:RS k f q)(i:k<=4000)(b: -9223372036854775808<Dr q)(g:Dr q<9223372036854775808)(a:AG)(e:a=Cn (Et (Cn f.1) f.2)):a.1=Dr q:=by
 obtain⟨_,_,c,d⟩:=Aaw h i;rw[<-e]at c d;rw[<-d];exact eX c (by rw[d];exact b) (by rw[d];exact g)
theorem Vs{c:AT}{t h l:Int}(k:bD c t h l=true): -10001<Dr ((El c t h-Au (Cw c l).2.1+Au (Cw c l).2.2.1)/(Au (Cw c l).2.2.1+Au (Bu c h).2.2.2.1))/\Dr ((El c t h-Au (Cw c l).2.1+Au (Cw c l).2.2.1)/(Au (Cw c l).2.2.1+Au (Bu c h).2.2.2.1))<=40001:=by
 obtain⟨kp,ko⟩:=WQ k;have P:=KZ kp;obtain⟨L,_,_,_⟩:=Yc ko;exact mC (XC _ _) (Abv P.st P.te.2) L.lv.headB.1 L.lv.headB.2 L.lv.nextB.1 P.st.rollB.1
section
open List Int Prod
namespace T50
def T(l:List Int):Tr:=tree WJ false 9 50<|Ae ([zt i64]) l
def L1(v5:List Int)(b a:Int):Tr:=re ((T []))<|Aw 15 [(5,.dat (zt i64) v5),(6,.dat i64 b),(7,.dat i64 a)] [] 0
theorem Ai(l:List Int):T l=L1 l ((length l:Int)) 0:=by kernel_rfl
theorem Al(v5:List Int)(b a:Int):stepT WJ (L1 v5 b a)=.di (a<b) (.ck (decide (0<=a)&&decide (a<(length v5:Int)))<|.ite (getD v5 (toNat a) 0 !=0) (.leaf (.dat i64<|getD v5 (toNat a) 0) [])<|L1 v5 b<|zg .i64<|a+1) (.leaf (.dat i64 (0:Int)) []):=by kernel_rfl
end T50
namespace T51
def T(c:Bool)(e:Int):Tr:=tree WJ false 9 51<|Ae ([yc,qx yh]) (c,e)
theorem Ai(c:Bool)(e:Int):T c e=.ite c (.leaf (.dat i64 e) []) (.leaf (.dat i64 (0:Int)) []):=by kernel_rfl
end T51
namespace T63
def T(n m:Int):Tr:=tree AcO false 9 63<|Ae ([qx yh,qx yh]) (n,m)
theorem Ai(n m:Int):T n m=.ck true (.ck true<|.ck (decide (2<=2)&&true&&decide (2<=1000000))<|.leaf (.dat i64<|zq [Cj (n==0) 12,Cj (decide (n>m)) 5]) []):=by kernel_rfl
end T63
namespace T71
def T(a:Ak):Tr:=tree AcX false 9 71<|Ae ([AB]) a
theorem Ai(a:Ak):T a=let b:=((fst a),fst<|snd a,snd<|snd a);.ck (q9 b) (.ite (I5 b) (.leaf (.tup [.dat ya [],.dat i64 (4:Int)]) [])<|.ck (q9 b)<|.leaf (.tup [.dat ya<|Kj b,.dat i64 (0:Int)]) []):=by kernel_rfl
end T71
namespace T22
def T(a:Z)(e b:Int)(w:Z):Tr:=tree ZG false 9 22<|Ae ([ya,qx yh,qx yh,ya]) (a,e,b,w)
theorem Ai(a:Z)(e b:Int)(w:Z):T a e b w=let b':Tr:=.leaf (.bl false) [];let c:Tr:=.ite (e==0) (.leaf (.dat yc<|a==w) []) b';.ite (b==0) (.cd (length w<=1000000)<|.ite (FH w !=0) (.ite (a==[]) (.leaf (.dat yc<|e==FH w) []) b') c) (.ite (b !=0) (.ite (a==[]) (.leaf (.dat yc<|e==b) []) b') c):=by kernel_rfl
end T22
namespace T35
def T(n:Int):Tr:=tree zY false 9 35<|Ae ([qx yh]) n
theorem Ai(n:Int):T n=.ck (CI n) (.ck (Cu (yj n,yd n))<|.leaf (.dat ya<|FO (yj n,yd n)) []):=by kernel_rfl
end T35
end
namespace T50
theorem loop{Q:PV->Ob->Prop}(l:List Int)(f:l.length<=1000000)(a:∀ob,Q (.dat i64<|zq l) ob):∀(r:List Int) (i:Nat),l.drop i=r->i<=l.length->zq l=zq r->Ends WJ (L1 l ((l.length:Int)) (i:Int)) Q
 |[],i,h,c,e=>by
  have n:=drop_nil h c;refine zl (Al ..) (zw (w8<|by omega)<|ze ?_);rw[e]at a;exact a _
 |x::r,i,h,c,e=>by
  obtain⟨k,j,m⟩:=drop_cons (d:=0) h;refine zl (Al ..) ?_;conv=>zeta
  have g:=wn (i:=i) (by omega);rw[g,zo,j];refine zc (w4<|by omega) (zc (ad (by omega)<|by omega) ?_);by_cases b:x=0
  ·subst b;refine zw rfl (loop l f a r (i+1) m k ?_);rw[e];rfl
  ·have ex:zq (x::r)=x:=by unfold zq;rw[wd b]
   refine zc (by simpa using b)<|ze ?_;rw[e,ex]at a;exact a _
theorem ok:Af A6 50 Hd:=by
 refine BO Tp<|fun(l:List Int) hl=>?_;exact zn (Ai l)<|loop l (w6 hl) (fun ob=>zr rfl rfl rfl) l 0 rfl (Nat.zero_le _) rfl
end T50
theorem T51.ok:Af A6 51 G3:=by
 refine BO Tp<|fun⟨c,e⟩ _=>?_;refine zn (T51.Ai c e)<|zf (fun h=>ze<|zr rfl rfl ?_)<|fun h=>ze<|zr rfl rfl ?_
 ·show e=Cj c e;rw[h];rfl
 ·show(0:Int)=Cj c e;rw[h];rfl
theorem jJ:C9 AcO:=Aa T50.ok<|Aa T51.ok AI
theorem count_eq(n m:Int):zq [Cj (n==0) 12,Cj (decide (n>m)) 5]=CY n m:=by
 rw[J1,EY,EY];unfold CY;by_cases h:n=0
 ·subst h;rfl
 ·have e:(n==0)=false:=by simpa using h
  rw[e,wc (show ¬(if false=true then(12:Int)else 0)≠0 by decide),wc h];by_cases k:m<n
  ·rw[wd k,w4<|show n>m from k];rfl
  ·rw[wc k,w8<|show ¬n>m from k];rfl
theorem T63.ok:Af A6 63 nC:=by
 refine BO jJ<|fun(i:Int×Int) _=>?_;obtain⟨n,m⟩:=i;refine zn (T63.Ai n m) ?_;conv=>zeta
 rw[count_eq];exact zc rfl (zc rfl (zc rfl (ze<|zr rfl rfl rfl)))
end Go.Pe
namespace Go.Sp
theorem QN(n:Int):FO (rN n,rW n)=AU ((n:Int):Rat):=by rw[Lu,Sj]
theorem Ug{n:Int}{k:Nat}(h:n.natAbs<10^k)(a:1<=k):Nu k (AU (n:Rat)) (n:Rat):=by
 have b:10^1<=10^k:=yg (by decide) a;refine⟨rfl,?_,?_⟩
 ·rw[qo];exact h
 ·rw[Rat.den_intCast];omega
theorem Nu.nz{k:Nat}{s:Z}{q:Rat}(h:Nu k s q)(a:k<=1400)(h0:q≠0):eP s=true:=AbR (h.Ep a) fun e=>h0 ((h.Mb<|by omega).1 e)
theorem TX:Nu 1 [48] 0:=by
 refine⟨by decide+kernel,?_⟩;unfold Hf;decide+kernel
end Go.Sp
namespace Go.Pe
open Sp
open Go.Det
theorem jW:C9 AcX:=Aa T134.ok<|Aa T135.ok AI
theorem T71.ok:Af A6 71 Y5:=by
 refine BO jW<|fun(a:(Int×List Int)×(Int×List Int)) ha=>?_;refine zn (T71.Ai a)<|zc ha<|zf (fun c=>ze<|zr rfl rfl ?_)<|fun c=>zc ha<|ze<|zr rfl rfl ?_
 ·have c:I5 a=true:=c;show([],(4:Int))=(PI a,Pu a);unfold PI Pu;rw[wd c,wd c]
 ·have c:I5 a=false:=c;show(Kj a,(0:Int))=(PI a,Pu a);unfold PI Pu;rw[wc (by rw[c];decide),wc<|by rw[c];decide]
theorem cR:C9 ZG:=Aa T80.ok AI
theorem T22.ok:Af A6 22 RN:=by
 refine BO cR<|fun(i:Z×Int×Int×Z) hi=>?_;obtain⟨a,e,bad,w⟩:=i;have f:∀v ob,v=ES a e w bad->Ad RN (a,e,bad,w) (.dat .bool v) ob:=fun v ob h=>zr rfl rfl h
 have b:∀v ob,v=ES a e w bad->Ad RN (a,e,bad,w) (.bl v) ob:=fun v ob h=>zr rfl rfl h
 have key:∀x:Int,x=(if bad=0 then FH w else bad)->ES a e w bad=if x≠0 then decide (a=[])&&decide (e=x)else decide (e=0)&&decide (a=w):=by
  rintro x rfl;rfl
 have yes:∀(x:Int) ob,x=(if bad=0 then FH w else bad)->x≠0->Ends ZG (.ite (a==[]) (.leaf (PV.dat yc<|e==x) ob)<|.leaf (PV.bl false) ob) (Ad RN (a,e,bad,w)):=fun x ob h h0=>by
  have k:=key x h;rw[wd h0]at k;refine zf (fun c=>ze<|f _ _ ?_)<|fun c=>ze<|b _ _ ?_
  ·have c:a=[]:=by simpa using c
   rw[k,w4 c,z8];rfl
  ·have c:a≠[]:=by simpa using c
   rw[k,w8 c];rfl
 have no:∀(x:Int) ob,x=(if bad=0 then FH w else bad)->x=0->Ends ZG (.ite (e==0) (.leaf (PV.dat yc<|a==w) ob)<|.leaf (PV.bl false) ob) (Ad RN (a,e,bad,w)):=fun x ob h h0=>by
  have k:=key x h;rw[wc<|by rw[h0];decide]at k;refine zf (fun c=>ze<|f _ _ ?_)<|fun c=>ze<|b _ _ ?_
  ·have c:e=0:=by simpa using c
   rw[k,w4 c,z8];by_cases h:a=w
   ·rw[w4 h];simpa using h
   ·rw[w8 h];simpa using h
  ·have c:e≠0:=by simpa using c
   rw[k,w8 c];rfl
 refine zn (T22.Ai a e bad w)<|zf (fun c=>zc hi<|zf (fun d=>?_)<|fun d=>?_)<|fun c=>zf (fun d=>?_)<|fun d=>?_
 ·have c:bad=0:=by simpa using c
  exact yes _ _ (by rw[wd c]) (by simpa using d)
 ·have c:bad=0:=by simpa using c
  exact no _ _ (by rw[wd c]) (by simpa using d)
 ·have c:bad≠0:=by simpa using c
  exact yes _ _ (by rw[wc c]) c
 ·have c:bad≠0:=by simpa using c
  exact wh (by simpa using d) c
theorem fA:C9 zY:=Aa T97.ok<|Aa T96.ok AI
theorem T35.ok:Af A6 35 pE:=by
 refine BO fA<|fun(n:Int) a=>?_;have a:n.natAbs<9223372036854775808:=w6 a;have b:CI n=true:=ad (by omega) (by omega);refine zn (T35.Ai n)<|zc b<|zc (LM b)<|ze<|zr rfl rfl ?_;exact QN n
section
open List Int Prod
namespace T15
def T(c:AT):Tr:=tree LA false 9 15<|Ae ([BF]) c
def L1(c:List BX)(e d:Int)(f:List BX)(b:List Ct)(a:List BW):Tr:=re ((T ([],([],[]))).L.R)<|Aw 116 [(1,.ptr 0 0),(26,.dat (zt BY) c),(27,.dat i64 e),(28,.dat i64 d)] [(0,.box [.dat (zt BY) f,.dat (zt Ds) b,.dat (zt BB) a])] 1
theorem Ai(c:AT):T c=let a:=(↑(length<|fst c):Int);.ck true (.ite (CY a 36 !=0) (.leaf (.dat i64<|CY a 36) [])<|L1 (fst c) a 0 (fst c) (fst<|snd c)<|snd<|snd c):=by kernel_rfl
def L2(c:List Ct)(d e:Int)(o1:List (Z×Bool))(f:List BX)(b:List Ct)(a:List BW):Tr:=re ((stepT LA<|L1 [] 0 0 [] [] []).R.L.R)<|Aw 116 [(1,.ptr 0 0),(8,PV.mp 1),(47,.dat (zt Ds) c),(48,.dat i64 d),(49,.dat i64 e)] [(1,Obj.map ya yc o1),(0,.box [.dat (zt BY) f,.dat (zt Ds) b,.dat (zt BB) a])] 2
theorem Al(d:List BX)(e b:Int)(g:List BX)(a:List Ct)(c:List BW):stepT LA (L1 d e b g a c)=let f:=getD d (toNat b) ([],[],[],[],[]);let b':=(length a:Int);.di (b<e) (.ck (decide (0<=b)&&decide (b<(length d:Int)))<|.ck (Sp.BY f)<|.ite (K5 f !=0) (.leaf (.dat i64<|K5 f) [])<|L1 d e (zg .i64<|b+1) g a c) (.ck true<|.ite (CY b' 8 !=0) (.leaf (.dat i64<|CY b' 8) [])<|L2 a b' 0 [] g a c):=by kernel_rfl
def L3(f:List Ct)(i j:Int)(o1:List (Z×Bool))(l:List BX)(d:List Ct)(c:List BW)(v0:List Int)(k m:Int)(n:Z)(e:List Int)(g:List (Z×Bool))(h:List BX)(b:List Ct)(a:List BW):Tr:=re ((stepT LA<|L2 f i j o1 l d c).L.L)<|Aw 19 [(0,.dat (zt i64) v0),(1,PV.fn (Go.Fn.func 66) [] []),(7,.dat i64 k),(8,.dat i64 m)] [(2,.box [.dat ya n,.dat (zt i64) e]),(1,Obj.map ya yc g),(0,.box [.dat (zt BY) h,.dat (zt Ds) b,.dat (zt BB) a])] 3
def L4(a:List BW)(b c:Int)(d:List (Z×Bool)):Tr:=re ((stepT LA<|L2 [] 0 0 [] [] [] []).R.L.R)<|Aw 116 [(14,PV.mp 0),(94,.dat (zt BB) a),(95,.dat i64 b),(96,.dat i64 c)] [(0,Obj.map ya yc d)] 1
theorem AH(d:List Ct)(e b:Int)(o1:List (Z×Bool))(g:List BX)(c:List Ct)(a:List BW):stepT LA (L2 d e b o1 g c a)=let f:=getD d (toNat b) ([],[]);let b':=(length a:Int);.di (b<e) (.ck (decide (0<=b)&&decide (b<(length d:Int)))<|L3 d e b o1 g c a (snd f) ((↑(length<|snd f):Int)) 0 (fst f) (snd f) o1 g c a) (.ck true<|.ite (CY b' 8 !=0) (.leaf (.dat i64<|CY b' 8) [])<|L4 a b' 0 []):=by kernel_rfl
theorem B5(i:List Ct)(k j:Int)(o1:List (Z×Bool))(q:List BX)(g:List Ct)(h:List BW)(v0:List Int)(o e:Int)(l:Z)(c:List Int)(f:List (Z×Bool))(d:List BX)(a:List Ct)(b:List BW):stepT LA (L3 i k j o1 q g h v0 o e l c f d a b)=let b':=Option.getD (EL ya yc l f) false;let n:=(length c:Int) !=(↑(length d):Int);let r:=L2 i k (zg .i64<|j+1) (Ix ya yc l true f) d a b;let m:=!zz l;let s:=decide (4<=4)&&true&&decide (4<=1000000);let p:Tr:=.ck true<|.ck true<|.ck true<|.ck true<|.ck true<|.ck s<|.ite (zq [Cj m 8,Cj b' 9,Cj n 2,Cj (decide (e>=0)) 3] !=0) (.leaf (.dat i64<|zq [Cj m 8,Cj b' 9,Cj n 2,Cj (decide (e>=0)) 3]) []) r;.di (e<o) (.ck (decide (0<=e)&&decide (e<(length v0:Int)))<|.di (getD v0 (toNat e) 0<1) p<|.di (getD v0 (toNat e) 0>10000) p<|L3 i k j o1 q g h v0 o (zg .i64<|e+1) l c f d a b) (.ck true<|.ck true<|.ck true<|.ck true<|.ck true<|.ck s<|.ite (zq [Cj m 8,Cj b' 9,Cj n 2,Cj false 3] !=0) (.leaf (.dat i64<|zq [Cj m 8,Cj b' 9,Cj n 2,Cj false 3]) []) r):=by kernel_rfl
theorem CD(b:List BW)(c a:Int)(e:List (Z×Bool)):stepT LA (L4 b c a e)=let d:=getD b (toNat a) ([],[],[],[],[]);let b':=Option.getD (EL ya yc (fst d) e) false;.di (a<c) (.ck (decide (0<=a)&&decide (a<(length b:Int)))<|.ck (Sp.BB d)<|.ck true<|.ck (decide (2<=2)&&true&&decide (2<=1000000))<|.ite (zq [JL d,Cj b' 9] !=0) (.leaf (.dat i64<|zq [JL d,Cj b' 9]) [])<|L4 b c (zg .i64<|a+1)<|Ix ya yc (fst d) true e) (.leaf (.dat i64 (0:Int)) []):=by kernel_rfl
end T15
namespace T68
def T(c:AT)(l:List (Int×Int)):Tr:=tree sP false 9 68<|Ae ([BF,zt<|Sh.pair i64 i64]) (c,l)
def L1(c:AT)(l:List (Int×Int))(v0:List (Int×Int))(d e:Int)(f:List BX)(b:List Ct)(a:List BW):Tr:=re ((T c l).L.R)<|Aw 19 [(0,.dat (zt<|Sh.pair i64 i64) v0),(1,PV.fn (Go.Fn.func 133) [] []),(7,.dat i64 d),(8,.dat i64 e)] [(0,.box [.dat (zt BY) f,.dat (zt Ds) b,.dat (zt BB) a])] 1
theorem Ai(c:AT)(l:List (Int×Int)):T c l=.ck (He c) (.ite (NU c !=0) (.leaf (.dat i64<|NU c) [])<|L1 c l l ((length l:Int)) 0 (fst c) (fst<|snd c)<|snd<|snd c):=by kernel_rfl
theorem Al(c:AT)(l:List (Int×Int))(v0:List (Int×Int))(e d:Int)(g:List BX)(b:List Ct)(a:List BW):stepT sP (L1 c l v0 e d g b a)=let f:Tr:=.ck true<|.leaf (.dat i64<|Cj (decide (d>=0)) 10) [];let b':=getD v0 (toNat d) (0,0);.di (d<e) (.ck (decide (0<=d)&&decide (d<(length v0:Int)))<|.di (fst b'<0) f<|.di (fst b'>=snd b') f<|L1 c l v0 e (zg .i64<|d+1) g b a) (.ck true<|.leaf (.dat i64<|Cj false 10) []):=by kernel_rfl
end T68
namespace T53
def T(a:Z)(lo b:Int):Tr:=tree Adx false 9 53<|Ae ([ya,qx yh,qx yh]) (a,lo,b)
theorem Ai(a:Z)(lo b:Int):T a lo b=let c:=((lo,CW lo),1,CW 1);let b':=((b,CW b),1,CW 1);.cd (length a<=1000000) (.ite (At a !=0) (.leaf (.dat i64<|At a) [])<|.ck (Eu a)<|.ck true<|.ck (q9 (Fk a)&&q9 c)<|.di (FZ (Fk a) c<0) (.ck true<|.leaf (.dat i64<|Cj true 3) [])<|.ck true<|.ck (q9 (Fk a)&&q9 b')<|.ck true<|.leaf (.dat i64<|Cj (decide (FZ (Fk a) b'>0)) 3) []):=by kernel_rfl
end T53
namespace T57
def T(l:List BM):Tr:=tree tG false 9 57<|Ae ([zt CE]) l
def L1(c:List BM)(a b:Int)(d:List (Z×Bool)):Tr:=re ((T []).R)<|Aw 44 [(3,PV.mp 0),(11,.dat (zt CE) c),(12,.dat i64 a),(13,.dat i64 b)] [(0,Obj.map ya yc d)] 1
theorem Ai(l:List BM):T l=.di ((length l:Int)>16) (.leaf (.dat i64 (5:Int)) []) (L1 l ((length l:Int)) 0 []):=by kernel_rfl
theorem Al(c:List BM)(d a:Int)(e:List (Z×Bool)):stepT tG (L1 c d a e)=let b:=getD c (toNat a) ([],[]);let b':=Option.getD (EL ya yc (fst b) e) false;.di (a<d) (.ck (decide (0<=a)&&decide (a<(length c:Int)))<|.ck true<|.ck true<|.ck true<|.cd (length (snd b)<=1000000)<|.ck (decide (3<=3)&&true&&decide (3<=1000000))<|.ite (zq [Cj (!zz (fst b)) 8,Cj b' 9,At<|snd b] !=0) (.leaf (.dat i64<|zq [Cj (!zz (fst b)) 8,Cj b' 9,At<|snd b]) [])<|.ck (Eu<|snd b)<|.ck (Sp.C6 (Vu<|snd b,VZ<|snd b))<|.di (P4 (Fk<|snd b)<0) (.leaf (.dat i64 (3:Int)) [])<|L1 c d (zg .i64<|a+1)<|Ix ya yc (fst b) true e) (.leaf (.dat i64 (0:Int)) []):=by kernel_rfl
end T57
namespace T13
def T(l:BW):Tr:=tree vW false 9 13<|Ae ([BB]) l
def L1(v4:Int)(e d c:Z)(a b:List BM):Tr:=re ((T ([],([],([],([],[]))))).L.L.L.L.L.L.R)<|Aw 51 [(1,.ptr 0 0),(4,.dat i64 v4)] [(0,.box [.dat ya e,.dat ya d,.dat ya c,.dat (zt CE) a,.dat (zt CE) b])] 1
theorem Ai(l:BW):T l=let a:=fst<|snd<|snd<|snd l;let b':=fst<|snd<|snd l;.ck true (.ck true<|.ck (decide (length (fst<|snd l)<=1000000)&&GO 1&&GO 10000)<|.ck (decide (length b'<=1000000)&&GO 1&&GO 10000)<|.ck (decide (length a<=1000)&&J5 1000000 a)<|.ck (decide (4<=4)&&true&&decide (4<=1000000))<|.ite (zq [Cj (!zz (fst l)) 8,BI (fst<|snd l) 1 10000,BI b' 1 10000,B2 a] !=0) (.leaf (.dat i64<|zq [Cj (!zz (fst l)) 8,BI (fst<|snd l) 1 10000,BI b' 1 10000,B2 a]) [])<|L1 1 (fst l) (fst<|snd l) b' a<|snd<|snd<|snd<|snd l):=by kernel_rfl
theorem Al(v4:Int)(g c d:Z)(a b:List BM):stepT vW (L1 v4 g c d a b)=let e:=snd<|getD a (toNat<|zg .i64<|v4-1) ([],[]);let b':=snd<|getD a (toNat v4) ([],[]);let f:=(length a:Int);.di (v4<f) (.ck (decide (0<=v4)&&decide (v4<f))<|.ck (decide (0<=zg .i64 (v4-1))&&decide (zg .i64 (v4-1)<f))<|.ck (Eu b')<|.ck (Eu e)<|.ck (q9 (Fk b')&&q9 (Fk e))<|.di (FZ (Fk b') (Fk e)<0) (.leaf (.dat i64 (11:Int)) [])<|L1 (zg .i64<|v4+1) g c d a b) (.ck (IA b 40 20)<|.leaf (.dat i64<|NL b) []):=by kernel_rfl
end T13
namespace T64
def T(s:BX):Tr:=tree tM false 9 64<|Ae ([BY]) s
def L1(a:List Io)(b c:Int):Tr:=re ((T ([],([],([],([],[]))))).L.L.L.L.L.L.R)<|Aw 56 [(30,.dat (zt qK) a),(31,.dat i64 b),(32,.dat i64 c)] [] 0
theorem Ai(s:BX):T s=let a:=snd<|snd<|snd s;let b:=fst<|snd<|snd s;let b':=(↑(length<|snd a):Int);.ck (decide (length (fst s)<=1000000)&&GO (-10000)&&GO 10000) (.ck (decide (length (fst<|snd s)<=1000000)&&GO (-10000)&&GO 10000)<|.ck (decide (length b<=1000000)&&GO 0&&GO 10000)<|.ck (decide (length (fst a)<=1000000)&&GO 0&&GO 10000)<|.ck true<|.ck (decide (5<=5)&&true&&decide (5<=1000000))<|.ite (zq [BI (fst s) (-10000) 10000,BI (fst<|snd s) (-10000) 10000,BI b 0 10000,BI (fst a) 0 10000,Cj (decide (b'>16)) 5] !=0) (.leaf (.dat i64<|zq [BI (fst s) (-10000) 10000,BI (fst<|snd s) (-10000) 10000,BI b 0 10000,BI (fst a) 0 10000,Cj (decide (b'>16)) 5]) [])<|L1 (snd a) b' 0):=by kernel_rfl
theorem Al(b:List Io)(c a:Int):stepT tM (L1 b c a)=let d:=getD b (toNat a) ([],0);let e:=decide (2<=2)&&true&&decide (2<=1000000);let f:=L1 b c<|zg .i64<|a+1;let b':=!zz (fst d);.di (a<c) (.ck (decide (0<=a)&&decide (a<(length b:Int)))<|.ck true<|.ck true<|.di (snd d<0) (.ck true<|.ck e<|.ite (zq [Cj b' 8,Cj true 3] !=0) (.leaf (.dat i64<|zq [Cj b' 8,Cj true 3]) []) f)<|.ck true<|.ck e<|.ite (zq [Cj b' 8,Cj (decide (snd d>10)) 3] !=0) (.leaf (.dat i64<|zq [Cj b' 8,Cj (decide (snd d>10)) 3]) []) f) (.leaf (.dat i64 (0:Int)) []):=by kernel_rfl
end T64
namespace T58
def T(s:Z):Tr:=tree WJ false 9 58<|Ae ([ya]) s
def L1(v0:Z)(v3:Int):Tr:=re ((T []).R.R)<|Aw 56 [(0,.dat ya v0),(3,.dat i64 v3)] [] 0
theorem Ai(s:Z):T s=.di ((length s:Int)<1) (.leaf (.bl false) []) (.di ((length s:Int)>24) (.leaf (.bl false) [])<|L1 s 0):=by kernel_rfl
theorem Al(v0:Z)(v3:Int):stepT WJ (L1 v0 v3)=let b':=(↑(UInt8.toNat<|getD v0 (toNat v3) (0:UInt8)):Int);let a:=L1 v0<|zg .i64<|v3+1;let b:Tr:=.leaf (.bl false) [];let e:=decide (v3<(length v0:Int));let c:Tr:=.ite (v3==0) b<|.di (b'>=48) (.di (b'<=57) a<|.ite (!b'==95) b a)<|.ite (!b'==95) b a;let d:Tr:=.di (b'>=65) (.ite (!decide (b'<=90)) c a) c;.ite e (.ck (decide (0<=v3)&&e)<|.di (b'>=97) (.di (b'<=122) a d) d) (.leaf (.bl true) []):=by kernel_rfl
end T58
end
theorem T52.yN:Af A6 52 aT:=by
 refine BO Tp<|fun(s:Z) _=>?_;have d:∀v b,v=.bl b\/v=.dat .bool b->b=zz s->∀ob,Ad aT s v ob:=by
  rintro v b (rfl|rfl) l ob
  ·exact zr rfl rfl l
  ·exact zr rfl rfl l
 refine zn (T52.Ai s) ?_;conv=>zeta
 refine zl (T52.Al ..) ?_;conv=>zeta
 cases s with
 |nil=>
  refine zw (by simp) (zw (by simp) ?_);exact ze<|d _ _ (.inl rfl) rfl _
 |cons x r=>
  refine zc (by simp) ?_;simp only[FC,Ht,w5,yp,w9,bne_iff_ne,wm,wk];have step:z6 (x.toNat:Int)=true->Kq (x::r) 0=1->Ends WJ (T52.L2 (x::r) (x::r)<|Nat.add 0<|Kq (x::r) 0) (Ad aT (x::r)):=by
   intro a p;rw[p];refine T52.loop (x::r) (by simp) r 1 rfl (by simp) (by omega) (fun e=>d _ _ (.inl rfl) ?_) (fun e=>d _ _ (.inr rfl) ?_)
   ·simp[zz,e]
   ·simp only[zz,e,a,qe,zh];congr 1;apply propext;push_cast;omega
  have no:z6 (x.toNat:Int)=false->∀ob,Ad aT (x::r) (.bl false) ob:=fun a=>d _ _ (.inl rfl) (by simp[zz,a])
  have k:(x::r).getD 0 0=x:=rfl;by_cases j:((x::r).getD 0 0).toNat<128
  ·obtain⟨m,n⟩:=U4 (s:=x::r) (i:=0) (by simp) j;rw[m,k];have f:=KX (x.toNat:Int);generalize ((x.toNat:Nat):Int)=c at f step no ⊢;by_cases a:z6 c=true
   ·have:=f.1 a;repeat' split
    all_goals first|exact step a n|(exfalso;omega)
   ·have g:z6 c=false:=by simpa using a
    have:¬_:=fun h=>a<|f.2 h
    repeat' split
    all_goals first|exact no g _|(exfalso;omega)
  ·have hr:=Rw (s:=x::r) (i:=0) (by simp) (by omega);have o:z6 (x.toNat:Int)=false:=by
    have:¬z6 (x.toNat:Int)=true:=fun h=>by
     have:=(KX _).1 h;rw[k]at j;omega
    simpa using this
   repeat' split
   all_goals first|exact no o _|(exfalso;omega)
namespace T58
variable {Q:PV->Ob->Prop}
theorem loop(s:Z)(o:s.length<=24):∀(r:Z) (i:Nat),s.drop i=r->i<=s.length->
  (((decide (1<=i)||z6 ((r.headD 97).toNat:Int))&&(r.all fun c=>yw (c.toNat:Int)))=false->Q (.bl false) [])->(((decide (1<=i)||z6 ((r.headD 97).toNat:Int))&&(r.all fun c=>yw (c.toNat:Int)))=true->Q (.bl true) [])->Ends WJ (L1 s i) Q
 |[],i,h,m,j,g=>by
  have:=drop_nil h m;refine zl (Al ..) (zw (by simp;omega) ?_);exact ze (g<|by simp;exact .inr (by decide))
 |x::r,i,h,m,j,g=>by
  obtain⟨t,q,p⟩:=drop_cons (d:=0) h;refine zl (Al ..) ?_;conv=>zeta
  simp only[zo,q];rw[wr _ (by omega)<|by omega];have b:=PQ (x.toNat:Int);have li:=KX (x.toNat:Int);have step:(1<=i\/z6 (x.toNat:Int)=true)->yw (x.toNat:Int)=true->Ends WJ (L1 s<|(i:Int)+1) Q:=by
   intro hm n;have e:((i:Int)+1)=((i+1:Nat):Int):=by push_cast;rfl
   rw[e];refine loop s o r (i+1) p t (fun e=>j ?_)<|fun e=>g ?_
   ·simp only[qf,n,z8];have:(r.all fun c=>yw (c.toNat:Int))=false:=by simpa using e
    rw[this,Bool.and_false]
   ·have:(r.all fun c=>yw (c.toNat:Int))=true:=by simpa using e
    simp only[qf,n,this,qe,qp,w5,qq];exact hm
  have no:(¬(1<=i\/z6 (x.toNat:Int)=true)\/yw (x.toNat:Int)=false)->Q (.bl false) []:=by
   intro hm;refine j ?_;simp only[qq,qf];rcases hm with hm|hm
   ·have:(decide (1<=i)||z6 (x.toNat:Int))=false:=by
     rw[Bool.eq_false_iff];intro h;apply hm;simpa using h
    rw[this,Bool.false_and]
   ·rw[hm,Bool.false_and,Bool.and_false]
  generalize ((x.toNat:Nat):Int)=c at b li step no ⊢;by_cases hm:yw c=true
  ·have l:=b.1 hm;by_cases a:1<=i\/z6 c=true
   ·have k:1<=i\/(97<=c/\c<=122)\/(65<=c/\c<=90):=a.imp id li.1;repeat' (with_reducible refine zf (fun _=>?_)<|fun _=>?_)
    all_goals first|with_reducible exact step a hm|(exfalso;simp only[w5,w9,yp,zd,yr,wj,vc,wm]at*;omega)
   ·have k:¬(1<=i\/(97<=c/\c<=122)\/(65<=c/\c<=90)):=fun h=>a<|h.imp id li.2
    repeat' (with_reducible refine zf (fun _=>?_)<|fun _=>?_)
    all_goals first|with_reducible exact ze (no<|.inl a)|(exfalso;simp only[w5,w9,yp,zd,yr,wj,vc,wm,Bool.not_eq_false']at*;omega)
  ·have f:yw c=false:=by simpa using hm
   have l:¬_:=fun h=>hm<|b.2 h
   repeat' (with_reducible refine zf (fun _=>?_)<|fun _=>?_)
   all_goals first|with_reducible exact ze (no<|.inr f)|(exfalso;simp only[w5,w9,yp,zd,yr,wj,vc,wm,Bool.not_eq_false']at*;omega)
theorem ok:Af A6 58 aT:=by
 refine BO Tp<|fun(s:Z) _=>?_;have a:∀b,b=zz s->Ad aT s (.bl b) []:=fun b g=>zr rfl rfl g
 refine zn (Ai s) ?_;conv=>zeta
 rw[FC];cases s with
 |nil=>rw[wd (by simp),Ht];exact a _ rfl
 |cons x r=>
  rw[wc (by simp;omega),FC];by_cases h:(x::r).length<=24
  ·rw[wc<|by simp at h ⊢;omega];have f:decide (r.length<=23)=true:=by simp at h ⊢;omega
   have key:zz (x::r)=((decide (1<=0)||z6 (((x::r).headD 97).toNat:Int))&&((x::r).all fun c=>yw (c.toNat:Int))):=by
    simp only[zz,f,qq,qf,z8];cases d:z6 (x.toNat:Int)with
    |false=>simp
    |true=>
     have:yw (x.toNat:Int)=true:=by unfold yw;rw[d];rfl
     simp[this]
   exact loop (x::r) h (x::r) 0 rfl (by simp) (fun e=>a _<|by rw[key];exact e.symm) (fun e=>a _<|by rw[key];exact e.symm)
  ·rw[wd (by simp at h ⊢;omega),Ht];exact a _ (by simp only[zz];rw[w8<|by simp at h;omega];rfl)
end T58
end Go.Pe
