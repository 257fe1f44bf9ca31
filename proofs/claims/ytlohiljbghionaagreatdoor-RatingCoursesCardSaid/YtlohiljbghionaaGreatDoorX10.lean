import Derived.Test.YtlohiljbghionaaGreatDoorX09
import Derived.Test.YtlohiljbghionaaGreatDoorX01
import Derived.Lib.Mul64
/- A part of a proof (no law is stated here). Made by program out of texts by AI agents. -/
noncomputable section
open Go.IntKind renaming wrap -> zc, u64 -> zd, i64 -> ya, wrap_i64 -> yy, u8 -> qi
open Go.Pe.Ends renaming tt -> ze, leaf -> zi, ite -> zl, eq -> zW, ff -> zZ, Ah -> z7
open Bool renaming and_eq_true -> zf, true_and -> zS, false_eq_true -> yr, or_eq_true -> qc
open Go.Sp renaming vI -> zg, u64 -> zp, val -> zM, D8 -> zX, sg -> yq, hW -> qj
open Go.Pe.Sh renaming int -> zh, list -> zx, nlist -> zL, pair -> yf
open Int renaming eq_ofNat_of_zero_le -> zj, mul_le_mul_of_nonneg_right -> zk, toNat_natCast -> zm, fdiv -> zo, mul_assoc -> zr, mul_nonneg -> zt, lt_or_le -> zz, add_mul -> zK, mul_comm -> zN, mul_add -> zP, mul_le_mul_of_nonneg_left -> zQ, lt_of_le_of_lt -> zU, fdiv_eq_ediv_of_nonneg -> zV, le_of_lt -> zY, one_mul -> z6, natCast_pow -> z8, natCast_mul -> ye, tdiv -> yg, natCast_add -> ym, pow_succ -> yn, tdiv_eq_ediv_of_nonneg -> yt, add_assoc -> yv, mul_zero -> yz, zero_add -> y8, ediv_nonneg -> qe, mul_sub -> qf, toNat -> qh
open List renaming replicate -> zn, getD_eq_getElem?_getD -> zq, take_of_length_le -> zw, getElem?_eq_getElem -> zO, take_length -> yb, drop_eq_getElem_cons -> yc, getElem?_eq_none -> yh, all_eq_true -> yi, length -> yk, append_assoc -> yu, cons_append -> yx
open Nat renaming add -> zu, mod_eq_of_lt -> yw, two_pow_pos -> qd, pow_add -> qg
open Go.Pe.Ad renaming of -> zy
open BitVec renaming ofInt -> zR, ofInt_natCast -> yj, toNat_ofNat -> yo
open UInt8 renaming toNat -> zT
open Go.Pe.PV renaming agg -> yd
open Go.Lib renaming half_mul_le -> yp
open Min renaming min -> y7
open List.cons renaming injEq -> y9
open Go.Pe renaming u64 -> qk
namespace Go.Pe
open Sp
open Go.Det
theorem Qd{F:Fz}{x y c:Int}{args:List V}(h:LH F (Ae [qk,qk,qk] (x,y,c)) args):args=[.int .u64 x,.int .u64 y,.int .u64 c]:=by
 have:=h (fun _=>none) 0;simp only[Ae,B1,A9]at this;obtain⟨a,i,rfl,e,b,j,rfl,f,d,k,rfl,g,rfl⟩:=this;simp only[PR,DC,y9,vc]at e f g;rw[e,f,g]
theorem AX{n:Int}(h:zp n=true):0<=n/\n<18446744073709551616:=by
 unfold zp at h;rw[zf,w5,w5]at h;exact h
namespace T208
theorem ok:Ag Bm 208 U5:=by
 refine .inr ⟨PK.add64.run,by kernel_rfl,fun F h args i k e=>?_⟩;obtain⟨x,y,c⟩:=i;have e:(zp x&&zp y&&decide (0<=c)&&decide (c<=1))=true:=e;rw[zf,zf,zf,w5,w5]at e;obtain⟨⟨⟨f,g⟩,c0⟩,j⟩:=e;have f:=AX f;have g:=AX g;have:=Qd k;subst this;obtain⟨a,rfl⟩:=zj f.1;obtain⟨b,rfl⟩:=zj g.1;obtain⟨d,rfl⟩:=zj c0;have j:(d:Int)<=1:=j;have l:Nat.ble d 1=true:=Nat.ble_eq_true_of_le (by omega);refine⟨.tup [.int .u64<|.ofNat<|(a+b+d) % Yl,.int .u64<|.ofNat<|(a+b+d)/Yl],?_,fun ρ N=>?_⟩
 ·show(bif Nat.ble d 1 then _ else _)=_;rw[l];rfl
 ·show PR F ρ N (.tup [.dat qk<|Hp a b d,.dat qk<|Ni a b d]) _;simp only[PR,A9];refine⟨_,rfl,_,_,rfl,?_,_,_,rfl,?_,rfl⟩<;>simp[DC,Yl,Hp,Ni]
end T208
namespace T217
theorem ok:Ag Bm 217 UY:=by
 refine .inr ⟨PK.sub64.run,by kernel_rfl,fun F h args i m g=>?_⟩;obtain⟨x,y,c⟩:=i;have g:(zp x&&zp y&&decide (0<=c)&&decide (c<=1))=true:=g;rw[zf,zf,zf,w5,w5]at g;obtain⟨⟨⟨j,k⟩,c0⟩,l⟩:=g;have j:=AX j;have k:=AX k;have:=Qd m;subst this;obtain⟨a,rfl⟩:=zj j.1;obtain⟨b,rfl⟩:=zj k.1;obtain⟨d,rfl⟩:=zj c0;have l:(d:Int)<=1:=l;have n:Nat.ble d 1=true:=Nat.ble_eq_true_of_le (by omega);refine⟨.tup [.int .u64<|.ofNat<|(a+Yl-b-d) % Yl,.int .u64<|.ofNat<|bif Nat.blt a (b+d)then 1 else 0],?_,fun ρ N=>?_⟩
 ·show(bif Nat.ble d 1 then _ else _)=_;rw[n];rfl
 ·show PR F ρ N (.tup [.dat qk<|RO a b d,.dat qk<|O6 a b d]) _;simp only[PR,A9];refine⟨_,rfl,_,_,rfl,?_,_,_,rfl,?_,rfl⟩
  ·simp only[DC,Yl,RO,y9,V.int.injEq,vc,true_and];have e:(((a+18446744073709551616-b-d) % 18446744073709551616:Nat):Int)=((a:Int)-b-d) % 18446744073709551616:=by omega
   exact e
  ·simp only[DC,O6,y9,V.int.injEq,vc,true_and];rw[Gz];by_cases f:a<b+d
   ·rw[wd<|by omega];simp[f]
   ·rw[wc<|by omega];simp[f]
end T217
end Go.Pe
namespace Go.Sp
theorem AD(b:Int):∀(l:List Int) (i:Nat),val b (l.take<|i+1)=val b (l.take i)+b^i*l.getD i 0
 |[],i=>by simp[val]
 |x::l,0=>by
  show x+b*val b (l.take 0)=0+b^0*x;simp[val]
 |x::l,i+1=>by
  have:=AD b l i;show x+b*val b (l.take<|i+1)=x+b*val b (l.take i)+b^(i+1)*l.getD i 0;rw[this,zP,yn,zN (b^i) b,zr,yv]
theorem HV{l:List Int}(h:CD l=true):l.length<=20000/\Av Am l:=by
 unfold CD at h;rw[zf,w5,yi]at h;exact⟨h.1,fun d a=>by
  have:=h.2 d a;rw[zf,w5,w5]at this;exact this⟩
theorem D4{l:List Int}(b:l.length<=20000)(c:Av Am l):CD l=true:=by
 unfold CD;rw[zf,w5,yi];exact⟨b,fun d a=>by
  have:=c d a;rw[zf,w5,w5];exact this⟩
theorem VK{l:List Int}(h:hW l=true):l.length<=9000/\Av Am l:=by
 unfold hW at h;rw[zf,w5]at h;exact⟨h.2,(HV h.1).2⟩
theorem AR{l:List Int}(h:Av Am l)(i:Nat):u64 (l.getD i 0)=true:=by
 unfold u64;rw[zf,w5,w5];rcases Nat.lt_or_ge i l.length with a|a
 ·have:l.getD i 0∈l:=by rw[zq,zO a];exact List.getElem_mem a
  exact h _ this
 ·rw[zq,yh a];exact⟨by decide,by decide⟩
theorem AX{n:Int}(h:u64 n=true):0<=n/\n<18446744073709551616:=by
 unfold u64 at h;rw[zf,w5,w5]at h;exact h
theorem Cz{n:Int}(a:0<=n)(b:n<18446744073709551616):u64 n=true:=by
 unfold u64;rw[zf,w5,w5];exact⟨a,b⟩
theorem DG{l:List Int}{x:Int}(h:Av Am l)(b:u64 x=true):Av Am (l++[x]):=by
 intro d a;rw[List.mem_append,List.mem_singleton]at a;rcases a with a|rfl
 ·exact h d a
 ·exact AX b
theorem JO{x y c:Int}(a:u64 x=true)(b:u64 y=true)(d:0<=c/\c<=1):u64 (Hp x y c)=true/\(0<=Ni x y c/\Ni x y c<=1)/\Hp x y c+18446744073709551616*Ni x y c=x+y+c:=by
 have:=AX a;have:=AX b;unfold Hp Ni;exact⟨Cz (by omega) (by omega),⟨by omega,by omega⟩,by omega⟩
theorem Gu{x y c:Int}(a:u64 x=true)(b:u64 y=true)(d:0<=c/\c<=1):u64 (RO x y c)=true/\(0<=O6 x y c/\O6 x y c<=1)/\RO x y c-18446744073709551616*O6 x y c=x-y-c:=by
 have:=AX a;have:=AX b;unfold RO O6;refine⟨Cz (by omega) (by omega),?_,?_⟩<;>split<;>omega
theorem ED(l:List Int)(x:Int):val Am (l++[x])=val Am l+(Am:Int)^l.length*x:=by
 rw[CH];simp[val]
theorem JI(i:Nat)(c:Int):(Am:Int)^(i+1)*c=(Am:Int)^i*(18446744073709551616*c):=by
 rw[yn,zr];rfl
theorem Iz(p:List Int)(n i:Nat)(x:Int)(h:p.length=i)(a:i<n):(p++zn (n-i) (0:Int)).set i x=(p++[x])++zn (n-(i+1)) 0:=by
 have:n-i=(n-(i+1))+1:=by omega
 rw[this,List.replicate_succ,Pe.C9 p _ 0 x h,yu];rfl
theorem JD{l:List Int}(h:Av Am l):At l=BS (Ao l):=Wi (by decide) h
end Go.Sp
namespace Go.Pe
open Sp
open Go.Det
section
open List Int Prod
namespace T178
def T(n:Int):Tr:=tree ZO false 9 178<|Ae ([zh ya]) n
theorem Ap(n:Int):T n=.di (n<0) (.leaf (.dat (zh zd)<|zc .u64<|zc .i64<|0-n) []) (.leaf (.dat (zh zd)<|zc .u64 n) []):=by kernel_rfl
end T178
namespace T179
def T(a:Int×List Int):Tr:=tree Kl false 9 179<|Ae ([yf i64<|zL<|zh zd]) a
theorem Ap(a:Int×List Int):T a=let b:=zL<|zh zd;let b':=[(0,.box [.dat i64<|fst a,.dat b<|snd a])];.di (0<length (snd a)) (.leaf (.tup [.dat Sh.bool<|decide (fst a<0),.dat b<|snd a]) b') (.ite (fst a==0) (.leaf (.tup [.bl false,.nil]) b')<|.ck (CC<|fst a)<|.leaf (.tup [.dat Sh.bool<|decide (fst a<0),.sl (zu 0 1) 1 0 1 none])<|[(zu 0 1,.arr false 216 (zh zd) [Af<|fst a]),(0,.box [.dat i64<|fst a,.dat b<|snd a])]):=by kernel_rfl
end T179
namespace T180
def T(neg:Bool)(w:List Int):Tr:=tree Kl false 9 180<|Ae ([Sh.bool,zx<|zh zd]) (neg,w)
theorem Ap(neg:Bool)(w:List Int):T neg w=let b:=zx<|zh zd;let f:=zc .i64<|0-zc .i64 (getD w 0 0);let e:=decide (getD w 0 0<=9223372036854775807);let c:=(length w:Int);let h':=zc .i64<|getD w 0 0;let b':Tr:=.ite neg (.leaf (yd [.dat i64 (-1:Int),.dat b w])<|[(0,.box [.dat i64 (-1:Int),.dat b w])])<|.leaf (yd [.dat i64 (1:Int),.dat b w])<|[(0,.box [.dat i64 (1:Int),.dat b w])];let a:=decide (0<c);let d:Tr:=.ite (c==1) (.ck a<|.ite e (.ck a<|.leaf (yd [.dat i64 h',.nil])<|[(0,.box [.dat i64 h',.nil])]) b') b';.ite (c==0) (.leaf (yd [.dat i64 (0:Int),.nil])<|[(0,.box [.dat i64 (0:Int),.nil])]) (.ite (c==1) (.ck a<|.ite e (.ite neg (.ck a<|.leaf (yd [.dat i64 f,.nil])<|[(0,.box [.dat i64 f,.nil])]) d) d) d):=by kernel_rfl
end T180
namespace T209
def T(w:List Int):Tr:=tree ZO false 9 209<|Ae ([zx<|zh zd]) w
def L1(v0:List Int)(v3:Int):Tr:=re ((T []))<|Ax 21 [(0,.dat (zx<|zh zd) v0),(3,.dat i64 v3)] [] 0
theorem Ap(w:List Int):T w=L1 w ((length w:Int)):=by kernel_rfl
theorem Al(v0:List Int)(v3:Int):stepT ZO (L1 v0 v3)=let a:Tr:=.ck (decide (0<=v3)&&decide (0<=toNat v3)&&decide (toNat v3<=length v0))<|.leaf (.dat (zx<|zh zd)<|take (toNat v3) v0) [];let b':=zc .i64<|v3-1;.di (v3>0) (.ck (decide (0<=zc .i64 (v3-1))&&decide (zc .i64 (v3-1)<(length v0:Int)))<|.ite (getD v0 (toNat b') 0==0) (L1 v0 b') a) a:=by kernel_rfl
end T209
namespace T187
def T(a b:List Int):Tr:=tree ZO false 9 187<|Ae ([zx<|zh zd,zx<|zh zd]) (a,b)
def L1(v0 v1:List Int)(v5:Int):Tr:=re ((T [] []).R)<|Ax 41 [(0,.dat (zx<|zh zd) v0),(1,.dat (zx<|zh zd) v1),(5,.dat i64 v5)] [] 0
theorem Ap(a b:List Int):T a b=let c:=(length a:Int);.ite (c !=(length b:Int)) (.di (c<(length b:Int)) (.leaf (.dat i64 (-1:Int)) [])<|.leaf (.dat i64 (1:Int)) []) (L1 a b<|zc .i64<|c-1):=by kernel_rfl
theorem Al(v0 v1:List Int)(v5:Int):stepT ZO (L1 v0 v1 v5)=let a:=decide (0<=v5)&&decide (v5<(length v0:Int));let b':=decide (0<=v5)&&decide (v5<(length v1:Int));.di (v5>=0) (.ck a<|.ck b'<|.ite (getD v0 (toNat v5) 0 !=getD v1 (toNat v5) 0) (.ck a<|.ck b'<|.di (getD v0 (toNat v5) 0<getD v1 (toNat v5) 0) (.leaf (.dat i64 (-1:Int)) [])<|.leaf (.dat i64 (1:Int)) [])<|L1 v0 v1<|zc .i64<|v5-1) (.leaf (.dat i64 (0:Int)) []):=by kernel_rfl
end T187
namespace T186
def T(x y:List Int):Tr:=tree Kl false 9 186<|Ae ([zx<|zh zd,zx<|zh zd]) (x,y)
def L1(v0 v1:List Int)(a:Nat)(d b c:Int)(e:List Int):Tr:=re ((T [] []).L.L)<|Ax 54 [(0,.dat (zx<|zh zd) v0),(1,.dat (zx<|zh zd) v1),(5,.sl 0 1 0 a none),(6,.dat (zh zd) d),(21,.dat i64 b),(22,.dat i64 c)] [(0,.arr false 216 (zh zd) e)] 1
theorem Ap(x y:List Int):T x y=let a:=(length x:Int);let b':=(length y:Int);let c:=zc .i64<|b'+1;let b:=zc .i64<|a+1;.di (a<b') (.ck (decide (0<=zc .i64 (b'+1))&&decide (zc .i64 (b'+1)=zc .i64 (b'+1))&&decide (8*toNat c<=281474976710656)&&decide (zc .i64 (b'+1)<9223372036854775808))<|L1 y x (toNat c) 0 b' 0<|replicate (toNat c) 0) (.ck (decide (0<=zc .i64 (a+1))&&decide (zc .i64 (a+1)=zc .i64 (a+1))&&decide (8*toNat b<=281474976710656)&&decide (zc .i64 (a+1)<9223372036854775808))<|L1 x y (toNat b) 0 a 0<|replicate (toNat b) 0):=by kernel_rfl
theorem Al(v0 v1:List Int)(b:Nat)(d c a:Int)(f:List Int):stepT Kl (L1 v0 v1 b d c a f)=let e:=getD v0 (toNat a) 0;let b':=(length v0:Int);let h:=getD v1 (toNat a) 0;let l:=decide (0<=a)&&decide (a<(↑b:Int));let i:=decide ((0:Sh.T (Bw [u64]))<=d);let n:=decide (d<=(1:Sh.T (Bw [u64])));let m:=decide (toNat a<length f);let j:=decide (a<(length v1:Int));let k:=zc .i64<|a+1;let g:=set f (toNat b') d;let h':=decide (0<=a)&&decide (a<b');.di (a<c) (.ite j (.ck (decide (0<=a)&&j)<|.ck h'<|.ck (zp e&&zp h&&i&&n)<|.ck l<|.ck m<|L1 v0 v1 b (Ni e h d) c k<|set f (toNat a)<|Hp e h d)<|.ck h'<|.ck (zp e&&zp 0&&i&&n)<|.ck l<|.ck m<|L1 v0 v1 b (Ni e 0 d) c k<|set f (toNat a)<|Hp e 0 d) (.ck (decide (0<=b')&&decide (b'<(↑b:Int)))<|.cd (toNat b'<length f)<|.ck (decide (0+b<=length g)&&true&&CD (take b g))<|.leaf (.dat (zx<|zh zd)<|At<|take b g)<|[(0,.arr true 216 (zh zd) g)]):=by kernel_rfl
end T186
namespace T188
def T(x y:List Int):Tr:=tree Kl false 9 188<|Ae ([zx<|zh zd,zx<|zh zd]) (x,y)
def L1(v0 v1:List Int)(b:Nat)(d c a:Int)(e:List Int):Tr:=re ((T [] []).L)<|Ax 41 [(0,.dat (zx<|zh zd) v0),(1,.dat (zx<|zh zd) v1),(5,.sl 0 1 0 b none),(6,.dat (zh zd) d),(13,.dat i64 c),(14,.dat i64 a)] [(0,.arr false 216 (zh zd) e)] 1
theorem Ap(x y:List Int):T x y=let a:=(length x:Int);.ck (decide (0<=a)&&decide (a=a)&&decide (8*toNat a<=281474976710656)&&decide (a<9223372036854775808)) (L1 x y (toNat a) 0 a 0<|replicate (toNat a) 0):=by kernel_rfl
theorem Al(v0 v1:List Int)(b:Nat)(e c a:Int)(d:List Int):stepT Kl (L1 v0 v1 b e c a d)=let f:=getD v0 (toNat a) 0;let b':=decide (0<=a)&&decide (a<(length v0:Int));let g:=getD v1 (toNat a) 0;let h:=decide (0<=a)&&decide (a<(↑b:Int));let j:=decide ((0:Sh.T (Bw [u64]))<=e);let i:=decide (e<=(1:Sh.T (Bw [u64])));let l:=decide (toNat a<length d);let h':=decide (a<(length v1:Int));let k:=zc .i64<|a+1;.di (a<c) (.ite h' (.ck (decide (0<=a)&&h')<|.ck b'<|.ck (zp f&&zp g&&j&&i)<|.ck h<|.ck l<|L1 v0 v1 b (O6 f g e) c k<|set d (toNat a)<|RO f g e)<|.ck b'<|.ck (zp f&&zp 0&&j&&i)<|.ck h<|.ck l<|L1 v0 v1 b (O6 f 0 e) c k<|set d (toNat a)<|RO f 0 e) (.ck (decide (0+b<=length d)&&true&&CD (take b d))<|.leaf (.dat (zx<|zh zd)<|At<|take b d)<|[(0,.arr true 216 (zh zd) d)]):=by kernel_rfl
end T188
namespace T177
def T(x y:Int):Tr:=tree ZO false 9 177<|Ae ([zh zd,zh zd]) (x,y)
theorem Ap(x y:Int):T x y=let a:=zc .u64<|zc .u64 (zo x (2^32)*Hc zd y 4294967295)+zo (zc .u64<|Hc zd x 4294967295*Hc zd y 4294967295) (2^32);.ck true (.ck true<|.ck true<|.ck true<|.ck true<|.leaf (.tup [.dat (zh zd)<|zc .u64<|zc .u64 (zc .u64 (zo x (2^32)*zo y (2^32))+zo a (2^32))+zo (zc .u64<|Hc zd a 4294967295+zc .u64 (Hc zd x 4294967295*zo y (2^32))) (2^32),.dat (zh zd)<|zc .u64<|x*y]) []):=by kernel_rfl
end T177
namespace T181
def T(x y:List Int):Tr:=tree Kl false 9 181<|Ae ([zx<|zh zd,zx<|zh zd]) (x,y)
def L1(v1:List Int)(a:Nat)(v20:List Int)(b c:Int)(d:List Int):Tr:=re ((T [] []).L)<|Ax 80 [(1,.dat (zx<|zh zd) v1),(5,.sl 0 1 0 a none),(20,.dat (zx<|zh zd) v20),(21,.dat i64 b),(22,.dat i64 c)] [(0,.arr false 216 (zh zd) d)] 1
theorem Ap(x y:List Int):T x y=let a:=(length x:Int)+(length y:Int);let b':=zc .i64 a;.ck (decide (0<=zc .i64 a)&&decide (zc .i64 a=zc .i64 a)&&decide (8*toNat b'<=281474976710656)&&decide (zc .i64 a<9223372036854775808)) (L1 y (toNat b') x ((length x:Int)) 0<|replicate (toNat b') 0):=by kernel_rfl
def L2(v1:List Int)(e:Nat)(g h i:Int)(v20:List Int)(f c:Int)(b:List Int)(d a:Int)(j:List Int):Tr:=re ((stepT Kl<|L1 [] 0 [] 0 0 []).L.L)<|Ax 80 [(1,.dat (zx<|zh zd) v1),(5,.sl 0 1 0 e none),(6,.dat i64 g),(7,.dat (zh zd) h),(8,.dat (zh zd) i),(20,.dat (zx<|zh zd) v20),(21,.dat i64 f),(22,.dat i64 c),(27,.dat (zx<|zh zd) b),(28,.dat i64 d),(29,.dat i64 a)] [(0,.arr false 216 (zh zd) j)] 1
theorem Al(v1:List Int)(b:Nat)(v20:List Int)(c a:Int)(d:List Int):stepT Kl (L1 v1 b v20 c a d)=.di (a<c) (.ck (decide (0<=a)&&decide (a<(length v20:Int)))<|L2 v1 b a (getD v20 (toNat a) 0) 0 v20 c a v1 ((length v1:Int)) 0 d) (.ck (decide (0+b<=length d)&&true&&CD (take b d))<|.leaf (.dat (zx<|zh zd)<|At<|take b d)<|[(0,.arr true 216 (zh zd) d)]):=by kernel_rfl
theorem AK(v1:List Int)(b:Nat)(g i j:Int)(v20:List Int)(e f:Int)(c:List Int)(d a:Int)(h:List Int):stepT Kl (L2 v1 b g i j v20 e f c d a h)=let b':=zc .i64<|g+a;let n:=getD c (toNat a) 0;let p:=decide (0<=zc .i64 (g+a))&&decide (zc .i64 (g+a)<(↑b:Int));let k:=g+(length v1:Int);let r:=decide ((0:Sh.T (Bw [u64]))<=0);let h':=decide (0<=(1:Sh.T (Bw [u64])));let l:=getD h (toNat b') 0;let q:=decide (toNat b'<length h);let o:=HJ i n;let m:=Hp o l 0;.di (a<d) (.ck (decide (0<=a)&&decide (a<(length c:Int)))<|.ck (zp i&&zp n)<|.ck p<|.ck q<|.ck (zp o&&zp l&&r&&h')<|.ck (zp m&&zp j&&r&&h')<|.ck p<|.ck q<|L2 v1 b g i (zc .u64<|zc .u64 (PU i n+Ni o l 0)+Ni m j 0) v20 e f c d (zc .i64<|a+1)<|set h (toNat b')<|Hp m j 0) (.ck (decide (0<=zc .i64 k)&&decide (zc .i64 k<(↑b:Int)))<|.cd (toNat (zc .i64 k)<length h)<|L1 v1 b v20 e (zc .i64<|f+1)<|set h (toNat<|zc .i64 k) j):=by kernel_rfl
end T181
end
theorem II:D3 ZO:=fun g sp h=>by cases h
theorem wu(x:Int)(a:0<=x)(b:x<=18446744073709551615):zc .u64 x=x:=IntWalk.u64_in x ⟨a,b⟩
theorem El{n:Int}(h:CC n=true): -9223372036854775808<=n/\n<9223372036854775808:=by
 unfold CC at h;rw[zf,w5,w5]at h;exact h
namespace T178
theorem ok:Ag Bm 178 TO:=by
 refine Cj II<|fun(n:Int) a=>?_;have a:=El (n:=n) a;refine zW (Ap n)<|zl (fun c=>?_)<|fun c=>?_
 ·have c:=w6 c;refine zi<|zy rfl rfl ?_;show zc .u64 (zc .i64<|0-n)=Af n;simp only[Aj];rcases zz (-9223372036854775808) n with h|h
  ·rw[wr _ (by omega) (by omega),wu _ (by omega)<|by omega];omega
  ·have:n= -9223372036854775808:=by omega
   subst this;decide+kernel
 ·have c:=w7 c;refine zi<|zy rfl rfl ?_;show zc .u64 n=Af n;simp only[Aj];rw[wu _ (by omega)<|by omega];omega
end T178
namespace T209
theorem An{Q:PV->Ob->Prop}(w:List Int)(e:w.length<=20000)(b:∀ob,Q (.dat CZ<|At w) ob):∀(i:Nat),i<=w.length->At w=At (w.take i)->Ends ZO (L1 w i) Q
 |0,g,a=>by
  have a:At w=[]:=a;rw[a]at b;refine z7 (Al ..) (zZ (by simp)<|ze (by simp)<|zi<|b _)
 |i+1,g,a=>by
  have f:zc .i64 (((i+1:Nat):Int)-1)=(i:Int):=by rw[wr _ (by omega)<|by omega];omega
  have d:w.take (i+1)=w.take i++[w.getD i 0]:=by
   rw[List.take_add_one];congr 1;rw[zq,zO<|by omega];rfl
  refine z7 (Al ..) (ze (by simp<;>omega) ?_);rw[f,zm];refine ze (by simp<;>omega)<|zl (fun c=>?_)<|fun c=>?_
  ·have c:w.getD i 0=0:=by simpa using c
   refine An w e b i (by omega) ?_;rw[a,d,c,Hw]
  ·have c:w.getD i 0≠0:=by simpa using c
   refine ze (by simp;omega)<|zi ?_;have:At w=w.take (i+1):=by rw[a,d,H3<|Wl c]
   rw[this]at b;exact b _
theorem ok:Ag Bm 209 Ub:=by
 refine Cj II<|fun(w:List Int) hw=>?_;obtain⟨a,b⟩:=HV (l:=w) hw;refine zW (Ap w) (An w a (fun ob=>zy rfl rfl rfl) w.length (Nat.le_refl _)<|by rw[yb])
end T209
theorem Ey{l:List Int}(h:B3 l=true):l.length<=20000/\Av Am l/\Sp.nz l:=by
 unfold B3 at h;rw[zf]at h;have:=HV h.1;exact⟨this.1,this.2,by
  have:=h.2;unfold nF at this;have:l.getLast?≠some 0:=w6 this;exact this⟩
namespace T187
theorem An{Q:PV->Ob->Prop}(a b:List Int)(h:Av Am a)(j:Av Am b)(n:a.length=b.length)(l:b.length<=20000)(f:∀ob,Q (.dat i64<|BY (Ao a)<|Ao b) ob):∀(i:Nat),i<=a.length->a.drop i=b.drop i->Ends ZO (L1 a b<|(i:Int)-1) Q
 |0,o,g=>by
  have g:a=b:=g;have:BY (Ao a) (Ao b)=0:=by rw[g];unfold BY;simp
  rw[this]at f;exact z7 (Al ..) (zZ (by simp)<|zi<|f _)
 |i+1,o,g=>by
  have m:(((i+1:Nat):Int)-1)=(i:Int):=by omega
  have k:a.drop i=a.getD i 0::a.drop (i+1):=by
   rw[zq,zO<|by omega];exact yc (by omega)
  have db:b.drop i=b.getD i 0::a.drop (i+1):=by
   rw[g,zq,zO<|by omega];exact yc (by omega)
  have q:=Sp.AX<|AR h i;have p:=Sp.AX<|AR j i;rw[m];refine z7 (Al ..) (ze (by simp) ?_);rw[zm];refine ze (by simp;omega) (ze (by simp;omega)<|zl (fun c=>ze (by simp;omega)<|ze (by simp;omega)<|zl (fun d=>?_)<|fun d=>?_)<|fun c=>?_)
  ·have d:=w6 d;have:=Iv (b:=Am) (by decide) h j k db d;have e:BY (Ao a) (Ao b)= -1:=by unfold BY;exact wd this
   rw[e]at f;exact zi<|f _
  ·have d:=w7 d;have c:a.getD i 0≠b.getD i 0:=by simpa using c
   have:=Iv (b:=Am) (by decide) j h db k (by omega);have e:BY (Ao a) (Ao b)=1:=by
    unfold BY Ao;rw[wc (by omega),wd<|by omega]
   rw[e]at f;exact zi<|f _
  ·have c:a.getD i 0=b.getD i 0:=by simpa using c
   rw[wr ((i:Int)-1) (by omega)<|by omega];exact An a b h j n l f i (by omega) (by rw[k,db,c])
theorem ok:Ag Bm 187 WI:=by
 refine Cj II<|fun(i:List Int×List Int) g=>?_;obtain⟨a,b⟩:=i;have g:(B3 a&&B3 b)=true:=g;rw[zf]at g;obtain⟨a1,a2,a3⟩:=Ey g.1;obtain⟨b1,b2,b3⟩:=Ey g.2;have f:∀ob,Ad WI (a,b) (.dat i64<|BY (Ao a)<|Ao b) ob:=fun ob=>zy rfl rfl rfl
 refine zW (Ap a b)<|zl (fun c=>zl (fun d=>?_)<|fun d=>?_)<|fun c=>?_
 ·have d:=w6 d;have e:BY (Ao a) (Ao b)= -1:=by unfold BY;exact wd (Ei (by decide) a2 b2 b3 (by omega))
  rw[e]at f;exact zi<|f _
 ·have d:=w7 d;have c:(a.length:Int)≠b.length:=by simpa using c
  have:=Ei (b:=Am) (by decide) b2 a2 a3 (by omega);have e:BY (Ao a) (Ao b)=1:=by
   unfold BY Ao;rw[wc (by omega),wd<|by omega]
  rw[e]at f;exact zi<|f _
 ·have c:(a.length:Int)=b.length:=by simpa using c
  rw[wr _ (by omega)<|by omega];exact An a b a2 b2 (by omega) b1 f a.length (Nat.le_refl _) (by rw[List.drop_length,show a.length=b.length by omega,List.drop_length])
end T187
theorem EH{a:Br}(h:zX a=true):(-9223372036854775808<=a.1/\a.1<9223372036854775808)/\(a.2=[]\/(B3 a.2=true/\(a.1=1\/a.1= -1)/\9223372036854775808<=Ao a.2)):=by
 unfold zX at h;rw[zf,qc,zf,zf,qc,w5,w5,w5,w5]at h;exact⟨El h.1,h.2.imp id fun h=>⟨h.1.1,h.1.2,h.2⟩⟩
theorem val_one(d:Int):zM Am [d]=d:=by simp[zM]
theorem qJ{d:Int}(e:0<d)(c:d<18446744073709551616):[d]=BS d:=by
 have:=I3 (b:=Am) (l:=[d]) (by decide) (fun x a=>by rw[List.mem_singleton]at a;subst a;exact⟨by omega,c⟩) (by unfold Sp.nz;simp;omega);rw[val_one]at this;exact this
theorem EG{s:Int}:zg (s,[])=s:=by unfold zg;exact wd rfl
namespace T179
theorem ok(e:∀g sp,Kl.sp g=some sp->Ag Bm g sp):Ag Bm 179 TZ:=by
 refine LD (X:=Kl) rfl e (d:=9) (by kernel_rfl) (by kernel_rfl) (by kernel_rfl) (fun(a:Int×List Int) ha=>?_) (BI<|by kernel_rfl);obtain⟨j,h⟩:=EH (a:=a) ha;obtain⟨s,w⟩:=a;have j: -9223372036854775808<=s/\s<9223372036854775808:=j;refine zW (Ap (s,w))<|zl (fun c=>?_)<|fun c=>zl (fun d=>?_)<|fun d=>ze ?_ ?_
 ·have c:0<w.length:=w6 c;have f:w≠[]:=by rintro rfl;simp at c
  rcases h with h|⟨n,i,l⟩
  ·exact wh h f
  ·obtain⟨n1,k,o⟩:=Ey n;have i:s=1\/s= -1:=i;have l:9223372036854775808<=Ao w:=l;have ev:zg (s,w)=if s<0 then -Ao w else Ao w:=by unfold zg;exact wc f
   have q:Af (zg (s,w))=Ao w:=by rw[ev];simp only[Aj];split<;>omega
   have m:decide (zg (s,w)<0)=decide (s<0):=by
    rw[ev];rcases i with rfl|rfl<;>simp<;>omega
   refine zi<|zy rfl rfl ?_;show(decide (s<0),w)=(decide (zg (s,w)<0),BS<|Af<|zg (s,w));rw[q,m,show w=BS (Ao w)from I3 (by decide) k o];congr 2;exact(C1 (b:=Am) (by decide)<|Az (b:=Am) (by decide) k).symm
 all_goals
  have c:¬0<w.length:=w7 c;have p:w=[]:=List.length_eq_zero_iff.1 (by omega);subst p
 ·have d:s=0:=by simpa using d
  subst d;exact zi<|zy rfl rfl rfl
 ·show CC s=true;unfold CC;rw[zf,w5,w5];exact j
 ·have d:s≠0:=by simpa using d
  refine zi<|zy rfl rfl ?_;show(decide (s<0),[Af s])=(decide (zg (s,[])<0),BS<|Af<|zg (s,[]));rw[EG,qJ (d:=Af s) (by simp only[Aj];omega)<|by simp only[Aj];omega]
end T179
theorem BW{n:Int}(h: -9223372036854775808<n/\n<9223372036854775808):CI n=(n,[]):=wd h
theorem QN{w:List Int}(neg:Bool)(a:Av Am w)(b:Sp.nz w)(c:9223372036854775808<=Ao w):CI (if neg=true then -Ao w else Ao w)=(if neg=true then -1 else 1,w):=by
 have e:BS (Ao w)=w:=(I3 (by decide) a b).symm;cases neg with
 |true=>
  simp only[wk];unfold CI;rw[wc (by omega),wd<|by omega];rw[show Af (-Ao w)=Ao w by simp only[Aj];omega,e]
 |false=>
  show CI (Ao w)=(1,w);unfold CI;rw[wc (by omega),wc<|by omega];rw[show Af (Ao w)=Ao w by simp only[Aj];omega,e]
namespace T180
theorem ok(a:∀g sp,Kl.sp g=some sp->Ag Bm g sp):Ag Bm 180 YO:=by
 refine LD (X:=Kl) rfl a (d:=9) (by kernel_rfl) (by kernel_rfl) (by kernel_rfl) (fun(i:Bool×List Int) hi=>?_) (BI<|by kernel_rfl);obtain⟨neg,w⟩:=i;obtain⟨n1,n2,n3⟩:=Ey (l:=w) hi;refine zW (Ap neg w) ?_;conv=>zeta
 cases w with
 |nil=>
  refine ze rfl (zi<|zy rfl rfl ?_);show _=CI (if neg=true then -0 else 0);rw[show(if neg=true then(-0:Int)else 0)=0 by split<;>rfl,BW<|by omega]
 |cons d t=>
  cases t with
  |nil=>
   have k:=n2 d (by simp);have u:d≠0:=by intro h;subst h;exact n3 rfl
   have r:0<=d:=k.1;have s:d<18446744073709551616:=k.2;have ev:Ao [d]=d:=val_one d;refine zZ rfl (ze rfl (ze rfl (zl (fun c=>?_)<|fun c=>?_)))
   ·have c:d<=9223372036854775807:=w6 c;have m:zc .i64 d=d:=wr _ (by omega) (by omega);have p:zc .i64 (0-d)= -d:=by rw[wr _ (by omega)<|by omega];omega
    refine zl (fun n=>ze rfl (zi<|zy rfl rfl ?_))<|fun n=>ze rfl (ze rfl (ze (w4 c)<|ze rfl (zi<|zy rfl rfl ?_)))
    ·show(zc .i64<|0-zc .i64 d,[])=CI (if neg=true then -Ao [d]else Ao [d]);rw[m,p,wd n,ev,BW<|by omega]
    ·show(zc .i64 d,[])=CI (if neg=true then -Ao [d]else Ao [d]);subst n;rw[m,wc (by decide),ev,BW<|by omega]
   ·have v:¬d<=9223372036854775807:=w7 c;have f:=QN neg n2 n3 (by rw[ev];omega);refine ze rfl (ze rfl (zZ c<|zl (fun n=>zi<|zy rfl rfl ?_)<|fun n=>zi<|zy rfl rfl ?_))
    ·show(-1,[d])=CI (if neg=true then -Ao [d]else Ao [d]);rw[f,wd n]
    ·show(1,[d])=CI (if neg=true then -Ao [d]else Ao [d]);rw[f,n];rfl
  |cons e t=>
   have q:9223372036854775808<=Ao (d::e::t):=by
    have h:=C2 (b:=Am) (by decide) n2 n3 (by simp);have j:=AM (b:=Am) (by decide) (show 1<=(d::e::t).length-1 by simp);rw[Int.pow_one]at j;have:(9223372036854775808:Int)<=(Am:Int):=by decide
    exact Int.le_trans this<|Int.le_trans j h
   have f:=QN neg n2 n3 q;have z0:(((d::e::t).length:Int)==0)=false:=by simp;omega
   have o:(((d::e::t).length:Int)==1)=false:=by simp;omega
   refine zZ z0<|zZ o<|zZ o<|zl (fun n=>zi<|zy rfl rfl ?_)<|fun n=>zi<|zy rfl rfl ?_
   ·show(-1,d::e::t)=CI (if neg=true then -Ao (d::e::t)else Ao (d::e::t));rw[f,wd n]
   ·show(1,d::e::t)=CI (if neg=true then -Ao (d::e::t)else Ao (d::e::t));rw[f,n];rfl
end T180
namespace T186
variable {Q:PV->Ob->Prop}
theorem An(x y:List Int)(l:Av Am x)(r:Av Am y)(q:y.length<=x.length)(t:x.length<=9000)(n:∀ob,Q (.dat CZ<|BS<|Ao x+Ao y) ob):∀(k i:Nat) (p:List Int) (c:Int),i+k=x.length->p.length=i->Av Am p->(0<=c/\c<=1)->zM Am p+(Am:Int)^i*c=zM Am (x.take i)+zM Am (y.take i)->
  Ends Kl (L1 x y (x.length+1) c x.length i<|p++zn (x.length+1-i) 0) Q
 |0,i,p,c,j,b,g,a,o=>by
  have j:i=x.length:=by omega
  subst j;have v:x.length+1-x.length=1:=by omega
  have es:(p++zn (x.length+1-x.length) (0:Int)).set x.length c=p++[c]:=by
   rw[v];exact Pe.C9 p [] 0 c b
  have s:(p++[c]).take (x.length+1)=p++[c]:=zw (by simp;omega);have e:Av Am (p++[c]):=DG g (Cz a.1 (by omega));have w:Ao (p++[c])=Ao x+Ao y:=by
   unfold Ao;rw[ED,b,o,yb,zw q]
  refine z7 (Al ..) (zZ (by simp) ?_);rw[zm,es,s];refine ze (by simp<;>omega) (ze (by simp;omega)<|ze ?_<|zi ?_)
  ·rw[D4 (by simp;omega) e];simp;omega
  ·rw[JD e,w];exact n _
 |k+1,i,p,c,j,b,g,a,o=>by
  have h:=AR l i;have m:=AR r i;have lo:(p++zn (x.length+1-i) (0:Int)).length=x.length+1:=by simp;omega
  have step:∀z,zp z=true->z=y.getD i 0->Ends Kl (L1 x y (x.length+1) (Ni (x.getD i 0) z c) x.length (zc .i64<|(i:Int)+1)<|(p++zn (x.length+1-i) 0).set i<|Hp (x.getD i 0) z c) Q:=by
   intro z f u;obtain⟨a1,a2,a3⟩:=JO h f a;rw[wr ((i:Int)+1) (by omega) (by omega),Iz p (x.length+1) i _ b<|by omega];refine An x y l r q t n k (i+1) (p++[Hp (x.getD i 0) z c]) _ (by omega) (by simp;omega) (DG g a1) a2 ?_;rw[ED,b,JI,AD _ x i,AD _ y i, <-u,yv, <-zP,a3,zP,zP];omega
  refine z7 (Al ..) (ze (by simp;omega) ?_);rw[zm];refine zl (fun d=>?_)<|fun d=>?_
  ·have d:=w6 d;refine ze (by simp;omega) (ze (by simp;omega)<|ze ?_<|ze (by simp;omega)<|ze (w4<|by rw[lo];omega)<|step _ m rfl);rw[h,m,zS,zS,zf];exact⟨w4 a.1,w4 a.2⟩
  ·have d:=w7 d;have f:y.getD i 0=0:=by rw[zq,yh<|by omega];rfl
   refine ze (by simp;omega) (ze ?_<|ze (by simp;omega)<|ze (w4<|by rw[lo];omega)<|step _ rfl f.symm);rw[h,show zp 0=true from rfl,zS,zS,zf];exact⟨w4 a.1,w4 a.2⟩
theorem start(x y:List Int)(a:Av Am x)(c:Av Am y)(b:y.length<=x.length)(d:x.length<=9000)(f:∀ob,Q (.dat CZ<|BS<|Ao x+Ao y) ob){t:Tr}:
  Ends Kl (.ite (decide ((0:Int)<=zc ya ((x.length:Int)+(1:Int)))&&decide (zc ya ((x.length:Int)+(1:Int))=zc ya ((x.length:Int)+(1:Int)))&&decide ((8:Nat)*qh (zc ya<|(x.length:Int)+(1:Int))<=(281474976710656:Nat))&&decide (zc ya ((x.length:Int)+(1:Int))<(9223372036854775808:Int)))
   (L1 x y (qh<|zc ya<|(x.length:Int)+(1:Int)) ((0:Int)) ((x.length:Int)) ((0:Int))<|zn (qh<|zc ya<|(x.length:Int)+(1:Int)) (0:Int)) t) Q:=by
 have e:zc .i64 ((x.length:Int)+1)=((x.length+1:Nat):Int):=by rw[wr _ (by omega)<|by omega];omega
 rw[e,zm];refine ze (by simp;omega) ?_;exact An x y a c b d f x.length 0 [] 0 (by omega) rfl (fun _ h=>by cases h) (by omega) (by simp[zM])
theorem ok(a:∀g sp,Kl.sp g=some sp->Ag Bm g sp):Ag Bm 186 bU:=by
 refine LD (X:=Kl) rfl a (d:=9) (by kernel_rfl) (by kernel_rfl) (by kernel_rfl) (fun(i:List Int×List Int) b=>?_) (BI<|by kernel_rfl);obtain⟨x,y⟩:=i;have b:(qj x&&qj y)=true:=b;rw[zf]at b;obtain⟨x1,x2⟩:=VK b.1;obtain⟨y1,y2⟩:=VK b.2;have e:∀ob,Ad bU (x,y) (.dat CZ<|BS<|Ao x+Ao y) ob:=fun ob=>zy rfl rfl rfl
 refine zW (Ap x y)<|zl (fun c=>?_)<|fun c=>?_
 ·have c:=w6 c;exact start y x y2 x2 (by omega) y1 (by rw[Int.add_comm];exact e)
 ·have c:=w7 c;exact start x y x2 y2 (by omega) x1 e
end T186
namespace T188
variable {Q:PV->Ob->Prop}
theorem dW{b:Int}(e:0<b){l:List Int}{n:Nat}(h:Av b l)(g:zM b l<b^n):zM b (l.take n)=zM b l:=by
 rcases Nat.lt_or_ge n l.length with a|a
 ·have c:=Ck b l n (by omega);have f:=Az (by omega)<|AL h n;have i:=Az (by omega)<|Eb h n;rcases zz 0 (zM b<|l.drop n)with d|d
  ·have:=zQ (show 1<=zM b (l.drop n)by omega)<|zY<|AN e n;rw[Int.mul_one]at this;omega
  ·have:zM b (l.drop n)=0:=by omega
   rw[this,yz]at c;omega
 ·rw[zw a]
theorem An(x y:List Int)(j:Av Am x)(n:Av Am y)(s:Ao y<=Ao x)(v:x.length<=20000)(r:∀ob,Q (.dat CZ<|BS<|Ao x-Ao y) ob):∀(k i:Nat) (p:List Int) (c:Int),i+k=x.length->p.length=i->Av Am p->(0<=c/\c<=1)->zM Am p-(Am:Int)^i*c=zM Am (x.take i)-zM Am (y.take i)->
  Ends Kl (L1 x y x.length c x.length i<|p++zn (x.length-i) 0) Q
 |0,i,p,c,o,g,f,b,a=>by
  have o:i=x.length:=by omega
  subst o;have A:p++zn (x.length-x.length) (0:Int)=p:=by rw[Nat.sub_self];simp
  have t:p.take x.length=p:=zw (by omega);have u:Ao x<(Am:Int)^x.length:=Bl (by decide) j;have C:Ao p<(Am:Int)^p.length:=Bl (by decide) f;have B:Ao p=Ao x-Ao y:=by
   rw[yb,dW (by decide) n<|show zM Am y<_ from zU s u]at a;have a:Ao p-(Am:Int)^x.length*c=Ao x-Ao y:=a;rw[g]at C;rcases zz 0 c with h|h
   ·have:c=1:=by omega
    subst this;rw[Int.mul_one]at a;omega
   ·have:c=0:=by omega
    subst this;rw[yz]at a;omega
  rw[A];refine z7 (Al ..) (zZ (by simp) ?_);rw[t];refine ze ?_<|zi ?_
  ·rw[D4 (by omega) f];simp;omega
  ·rw[JD f,B];exact r _
 |k+1,i,p,c,o,g,f,b,a=>by
  have m:=AR j i;have q:=AR n i;have lo:(p++zn (x.length-i) (0:Int)).length=x.length:=by simp;omega
  have step:∀z,zp z=true->z=y.getD i 0->Ends Kl (L1 x y x.length (O6 (x.getD i 0) z c) x.length (zc .i64<|(i:Int)+1)<|(p++zn (x.length-i) 0).set i<|RO (x.getD i 0) z c) Q:=by
   intro z l w;obtain⟨a1,a2,a3⟩:=Sp.Gu m l b;rw[wr ((i:Int)+1) (by omega) (by omega),Iz p x.length i _ g<|by omega];refine An x y j n s v r k (i+1) (p++[RO (x.getD i 0) z c]) _ (by omega) (by simp;omega) (DG f a1) a2 ?_;have e:(Am:Int)^i*RO (x.getD i 0) z c-(Am:Int)^i*(18446744073709551616*O6 (x.getD i 0) z c)=(Am:Int)^i*x.getD i 0-(Am:Int)^i*z-(Am:Int)^i*c:=by
    rw[<-qf,a3,qf,qf]
   rw[ED,g,JI,AD _ x i,AD _ y i, <-w];omega
  refine z7 (Al ..) (ze (by simp;omega) ?_);rw[zm];refine zl (fun d=>?_)<|fun d=>?_
  ·have d:=w6 d;refine ze (by simp;omega) (ze (by simp;omega) (ze ?_<|ze (by simp;omega)<|ze (w4<|by rw[lo];omega)<|step _ q rfl));rw[m,q,zS,zS,zf];exact⟨w4 b.1,w4 b.2⟩
  ·have d:=w7 d;have l:y.getD i 0=0:=by rw[zq,yh<|by omega];rfl
   refine ze (by simp;omega) (ze ?_<|ze (by simp;omega)<|ze (w4<|by rw[lo];omega)<|step _ rfl l.symm);rw[m,show zp 0=true from rfl,zS,zS,zf];exact⟨w4 b.1,w4 b.2⟩
theorem ok(b:∀g sp,Kl.sp g=some sp->Ag Bm g sp):Ag Bm 188 cD:=by
 refine LD (X:=Kl) rfl b (d:=9) (by kernel_rfl) (by kernel_rfl) (by kernel_rfl) (fun(i:List Int×List Int) a=>?_) (BI<|by kernel_rfl);obtain⟨x,y⟩:=i;have a:(CD x&&CD y&&decide (Ao y<=Ao x))=true:=a;rw[zf,zf,w5]at a;obtain⟨x1,x2⟩:=HV a.1.1;obtain⟨y1,y2⟩:=HV a.1.2;have c:∀ob,Ad cD (x,y) (.dat CZ<|BS<|Ao x-Ao y) ob:=fun ob=>zy rfl rfl rfl
 refine zW (Ap x y) ?_;conv=>zeta
 rw[zm];refine ze (by simp;omega) ?_;exact An x y x2 y2 a.2 x1 c x.length 0 [] 0 (by omega) rfl (fun _ h=>by cases h) (by omega) (by simp[zM])
end T188
theorem JT(n:Int):zc .u64 n=n % 18446744073709551616:=by simp[zc,IntKind.bits,IntKind.signed]
theorem Xj(n:Nat):zo (n:Int) ((2:Int)^(32:Nat))=((n/4294967296:Nat):Int):=by
 rw[zV _<|by decide];rfl
theorem aZ(n:Nat)(h:n<18446744073709551616):zc .u64 (n:Int)=n:=wu _ (by omega) (by omega)
theorem OZ(n:Nat)(h:n<18446744073709551616):Hc .u64 (n:Int) 4294967295=((n % 4294967296:Nat):Int):=by
 have e:(zR 64 (n:Int)&&&zR 64 4294967295).toNat=n % 4294967296:=by
  rw[BitVec.toNat_and];have a:(zR 64 (n:Int)).toNat=n:=by rw[yj,yo];exact yw h
  have b:(zR 64 4294967295).toNat=2^32-1:=by decide
  rw[a,b,Nat.and_two_pow_sub_one_eq_mod]
 show zc .u64 (((zR 64 (n:Int)&&&zR 64 4294967295).toNat:Nat):Int)=_;rw[e];exact aZ _ (by omega)
namespace T177
theorem ok:Ag Bm 177 Rr:=by
 refine Cj II<|fun(i:Int×Int) h=>?_;obtain⟨x,y⟩:=i;have h:(zp x&&zp y)=true:=h;rw[zf]at h;have f:=Sp.AX h.1;have g:=Sp.AX h.2;obtain⟨x,rfl⟩:=zj f.1;obtain⟨y,rfl⟩:=zj g.1;have f:x<18446744073709551616:=by omega
 have g:y<18446744073709551616:=by omega
 obtain⟨n,j,l,k⟩:=Go.Lib.mul64_hi x y f g;have q:=yp (a:=x/4294967296) (b:=y/4294967296) (by omega) (by omega);have p:=yp (a:=x/4294967296) (b:=y % 4294967296) (by omega) (by omega);have o:=yp (a:=x % 4294967296) (b:=y/4294967296) (by omega) (by omega);refine zW (Ap (x:Int) (y:Int))<|ze rfl (ze rfl (ze rfl (ze rfl (ze rfl (zi<|zy rfl rfl ?_)))));refine Prod.ext ?_ ?_
 ·show zc zd (zc zd (zc zd (zo (x:Int) ((2:Int)^(32:Nat))*zo (y:Int) ((2:Int)^(32:Nat)))+zo (zc zd<|zc zd (zo (x:Int) ((2:Int)^(32:Nat))*Hc zd (y:Int) (4294967295:Int))+zo (zc zd<|Hc zd (x:Int) (4294967295:Int)*Hc zd (y:Int) (4294967295:Int)) ((2:Int)^(32:Nat))) ((2:Int)^(32:Nat)))+zo (zc zd<|Hc zd (zc zd<|zc zd (zo (x:Int) ((2:Int)^(32:Nat))*Hc zd (y:Int) (4294967295:Int))+zo (zc zd<|Hc zd (x:Int) (4294967295:Int)*Hc zd (y:Int) (4294967295:Int)) ((2:Int)^(32:Nat))) (4294967295:Int)+zc zd (Hc zd (x:Int) (4294967295:Int)*zo (y:Int) ((2:Int)^(32:Nat)))) ((2:Int)^(32:Nat)))=PU x y;have m:PU x y=((x*y/18446744073709551616:Nat):Int):=by unfold PU;omega
  rw[m, <-k];have e:x*y/18446744073709551616<18446744073709551616:=Nat.div_lt_of_lt_mul<|Nat.mul_lt_mul'' f g;rw[<-k]at e;simp only[Xj,OZ x f,OZ y g];simp only[<-ye];generalize (x/4294967296)*(y/4294967296)=a at*;generalize (x/4294967296)*(y % 4294967296)=b at*;generalize (x % 4294967296)*(y/4294967296)=c at*;generalize (x % 4294967296)*(y % 4294967296)=d at*;rw[aZ d (by omega),aZ a (by omega),aZ b (by omega),aZ c (by omega),Xj, <-ym,aZ _ j,Xj,OZ _ j, <-ym, <-ym,aZ _ l,Xj,aZ (a+_) (by omega), <-ym,aZ _ e]
 ·show zc .u64 ((x:Int)*y)=HJ x y;unfold HJ;exact JT _
end T177
theorem bM{x y o c:Int}(d:zp x=true)(e:zp y=true)(g:zp o=true)(f:zp c=true):
  zp (HJ x y)=true/\zp (Hp (HJ x y) o 0)=true/\zp (Hp (Hp (HJ x y) o 0) c 0)=true/\
  zc .u64 (zc .u64 (PU x y+Ni (HJ x y) o 0)+Ni (Hp (HJ x y) o 0) c 0)=(x*y+o+c)/18446744073709551616/\
  zp ((x*y+o+c)/18446744073709551616)=true/\
  Hp (Hp (HJ x y) o 0) c 0+18446744073709551616*((x*y+o+c)/18446744073709551616)=x*y+o+c:=by
 have d:=Sp.AX d;have e:=Sp.AX e;have g:=Sp.AX g;have f:=Sp.AX f;have h0:0<=x*y:=zt d.1 e.1;have h:x*y<=18446744073709551615*18446744073709551615:=by
  have a:=zQ (show y<=18446744073709551615 by omega) d.1;have b:=zk (show x<=18446744073709551615 by omega) (show(0:Int)<=18446744073709551615 by omega);omega
 unfold HJ PU Hp Ni;generalize x*y=P at*;refine⟨Cz (by omega) (by omega),Cz (by omega) (by omega),Cz (by omega) (by omega),?_,Cz (by omega) (by omega),by omega⟩;rw[JT,JT];omega
namespace T181
variable {Q:PV->Ob->Prop}
theorem AV(x y:List Int)(n i:Nat)(O:i<x.length)(F:n=x.length+y.length)(h:x.length<=9000)(m:y.length<=9000)(v:Av Am x)(t:Av Am y)(p:List Int)(D:p.length=i+y.length)(b:Av Am p)
  (r:∀q c,q.length=i+y.length->Av Am q->zp c=true->zM Am q+(Am:Int)^(i+y.length)*c=zM Am p+(Am:Int)^i*(x.getD i 0*zM Am y)->Ends Kl (L1 y n x x.length ((i+1:Nat):Int)<|(q++[c])++zn (n-(i+y.length+1)) 0) Q):∀(k j:Nat) (q:List Int) (c:Int),j+k=y.length->q.length=i+j->Av Am q->zp c=true->zM Am q+(Am:Int)^(i+j)*c=zM Am (p.take<|i+j)+(Am:Int)^i*(x.getD i 0*zM Am (y.take j))->
  Ends Kl (L2 y n i (x.getD i 0) c x x.length i y y.length j<|q++(p.drop (i+j)++zn (n-(i+y.length)) 0)) Q
 |0,j,q,c,g,a,e,d,s=>by
  have g:j=y.length:=by omega
  subst g;have l:zc .i64 ((i:Int)+(y.length:Int))=((i+y.length:Nat):Int):=by rw[wr _ (by omega)<|by omega];omega
  have f:zc .i64 ((i:Int)+1)=((i+1:Nat):Int):=by rw[wr _ (by omega)<|by omega];omega
  have H:p.drop (i+y.length)=[]:=List.drop_eq_nil_of_le (by omega);refine z7 (AK ..) (zZ (by simp) ?_);rw[l,f,zm,H,List.nil_append,Iz q n _ c a<|by omega];refine ze (by simp;omega) (ze (by simp;omega)<|r q c a e d ?_);rw[s,zw (by omega),yb]
 |k+1,j,q,c,g,a,e,d,s=>by
  have o:=AR v i;have A:=AR t j;have u:=AR b<|i+j;have B:p.drop (i+j)=p.getD (i+j) 0::p.drop (i+j+1):=by
   rw[zq,zO<|by omega];exact yc (by omega)
  have l:zc .i64 ((i:Int)+(j:Int))=((i+j:Nat):Int):=by rw[wr _ (by omega)<|by omega];omega
  have f:zc .i64 ((j:Int)+1)=((j+1:Nat):Int):=by rw[wr _ (by omega)<|by omega];omega
  have lo:(q++(p.drop (i+j)++zn (n-(i+y.length)) (0:Int))).length=n:=by simp;omega
  have J:(q++(p.drop (i+j)++zn (n-(i+y.length)) (0:Int))).getD (i+j) 0=p.getD (i+j) 0:=by
   rw[B,yx];exact Dn _ _ _ _ a
  have s1:∀z,(q++(p.drop (i+j)++zn (n-(i+y.length)) (0:Int))).set (i+j) z=(q++[z])++(p.drop (i+(j+1))++zn (n-(i+y.length)) 0):=by
   intro z;rw[B,yx,C9 _ _ _ _ a,yu];rfl
  obtain⟨N,K,I,C,G,E⟩:=bM o A u d;refine z7 (AK ..) (ze (by simp;omega) ?_);rw[l,f,zm,zm,J,s1,C];have w:(decide ((0:Int)<=((i+j:Nat):Int))&&decide (((i+j:Nat):Int)<(n:Int)))=true:=by simp;omega
  refine ze (by simp;omega) (ze (by rw[o,A];rfl)<|ze w<|ze (w4<|by rw[lo];omega) (ze (by rw[N,u];rfl)<|ze (by rw[K,d];rfl)<|ze w<|ze (w4<|by rw[lo];omega) ?_));refine AV x y n i O F h m v t p D b r k (j+1) _ _ (by omega) (by simp;omega) (DG e I) G ?_;have M:i+(j+1)=(i+j)+1:=by omega
  have L:(Am:Int)^i*(x.getD i 0*((Am:Int)^j*y.getD j 0))=(Am:Int)^(i+j)*(x.getD i 0*y.getD j 0):=by
   rw[Int.pow_add,zr,Int.mul_left_comm<|x.getD i 0]
  rw[M,ED,a,JI,yv, <-zP,E,AD _ p<|i+j,AD _ y j,zP,zP,zP<|x.getD i 0,zP,L];omega
theorem An(x y:List Int)(n:Nat)(h:n=x.length+y.length)(d:x.length<=9000)(b:y.length<=9000)(l:Av Am x)(r:Av Am y)(o:∀ob,Q (.dat CZ<|BS<|Ao x*Ao y) ob):∀(k i:Nat) (p:List Int),i+k=x.length->p.length=i+y.length->Av Am p->zM Am p=zM Am (x.take i)*zM Am y->
  Ends Kl (L1 y n x x.length i<|p++zn (n-(i+y.length)) 0) Q
 |0,i,p,j,m,a,e=>by
  have j:i=x.length:=by omega
  subst j;have s:p++zn (n-(x.length+y.length)) (0:Int)=p:=by rw[h,Nat.sub_self];simp
  have f:Ao p=Ao x*Ao y:=by
   rw[yb]at e;exact e
  rw[s];refine z7 (Al ..) (zZ (by simp) ?_);rw[zw<|by omega];refine ze ?_<|zi ?_
  ·rw[D4 (by omega) a];simp;omega
  ·rw[JD a,f];exact o _
 |k+1,i,p,j,m,a,e=>by
  refine z7 (Al ..) (ze (by simp;omega) ?_);rw[zm];refine ze (by simp;omega) ?_;have h0:zM Am (p.take<|i+y.length)=zM Am p:=by rw[zw<|by omega]
  have:=AV (Q:=Q) x y n i (by omega) h d b l r p m a (fun q c u g t f=>by
   have:=An x y n h d b l r o k (i+1) (q++[c]) (by omega) (by simp;omega) (DG g t) (by
    rw[ED,u,f,e,AD,zK,zr])
   rw[show i+1+y.length=i+y.length+1 by omega]at this;exact this) y.length 0 (p.take i) 0 (by omega) (by simp;omega) (AL a i) rfl (by simp[zM])
  rw[Nat.add_zero, <-yu,List.take_append_drop]at this;exact this
theorem ok(b:∀g sp,Kl.sp g=some sp->Ag Bm g sp):Ag Bm 181 aX:=by
 refine LD (X:=Kl) rfl b (d:=9) (by kernel_rfl) (by kernel_rfl) (by kernel_rfl) (fun(i:List Int×List Int) a=>?_) (BI<|by kernel_rfl);obtain⟨x,y⟩:=i;have a:(qj x&&qj y)=true:=a;rw[zf]at a;obtain⟨x1,x2⟩:=VK a.1;obtain⟨y1,y2⟩:=VK a.2;have f:∀ob,Ad aX (x,y) (.dat CZ<|BS<|Ao x*Ao y) ob:=fun ob=>zy rfl rfl rfl
 have e:zc .i64 ((x.length:Int)+(y.length:Int))=((x.length+y.length:Nat):Int):=by rw[wr _ (by omega)<|by omega];omega
 refine zW (Ap x y) ?_;conv=>zeta
 rw[e,zm];refine ze (by simp;omega) ?_;have:=An x y (x.length+y.length) rfl x1 y1 x2 y2 f x.length 0 (zn y.length 0) (by omega) (by simp) (fun d c=>by
  obtain⟨_,rfl⟩:=List.mem_replicate.1 c;exact⟨by decide,by decide⟩) (by rw[K1];simp[zM])
 rw[Nat.zero_add,List.replicate_append_replicate,show y.length+(x.length+y.length-y.length)=x.length+y.length by omega]at this;exact this
end T181
theorem Ha:D3 Kl:=
 Ac T178.ok (Ac T208.ok<|Ac T217.ok<|Ac T209.ok<|Ac T177.ok AP)
theorem Qo:D3 vH:=
 Ac (T179.ok Ha) (Ac (T180.ok Ha)<|Ac (T186.ok Ha)<|Ac (T188.ok Ha)<|Ac T187.ok<|Ac (T181.ok Ha)<|Ac T177.ok<|Ac T178.ok AP)
end Go.Pe
namespace Go.Sp
def BV(a:Br):Bool:=D8 a&&decide (a.2.length<=9000)
def X4(a b:Br):Int:=BY (vI a)<|vI b
def LP(a:Br):Int:=OW<|vI a
end Go.Sp
namespace Go.Pe
open Sp
open Go.Det
def Vx:Au:=⟨[B8],fun a=>zX a,[B8],fun a=>(HI a,HT a),false⟩
def lY:Au:=⟨[B8],fun a=>zX a,[B8],fun a=>(Np a,MV a),false⟩
def Ll:Au:=⟨[B8],fun a=>zX a,[i64],fun a=>LP a,false⟩
def Qe:Au:=⟨[B8,B8],fun i=>BV i.1&&BV i.2,[B8],fun i=>(Lt i.1 i.2,LG i.1 i.2),false⟩
def aF:Au:=⟨[B8,B8],fun i=>BV i.1&&BV i.2,[B8],fun i=>(Zx i.1 i.2,ZG i.1 i.2),false⟩
def Tg:Au:=⟨[B8,B8],fun i=>BV i.1&&BV i.2,[B8],fun i=>(Hl i.1 i.2,Hi i.1 i.2),false⟩
def YX:Au:=⟨[B8,B8],fun i=>BV i.1&&BV i.2,[i64],fun i=>X4 i.1 i.2,false⟩
def xD:AW:=X7 [(143,Vx),(139,Qe)]
def yI:AW:=X7 [(160,aF),(161,Ll)]
section
open List Int Prod
namespace T143
def T(a:Int×List Int):Tr:=tree vH false 9 143<|Ae ([yf i64<|zL<|zh zd]) a
theorem Ap(a:Int×List Int):T a=let b:=zL<|zh zd;let c:=BS<|Af<|zg (fst a,snd a);let e:=zc .i64<|0-fst a;let b':=yq (!decide (zg (fst a,snd a)<0))<|Ao c;let d:Tr:=.ck (zX (fst a,snd a))<|.ck (B3 c)<|.leaf (yd [.dat i64<|Cv b',.dat b<|Ct b'])<|[(zu 0 1,.box [.dat i64<|Cv b',.dat b<|Ct b']),(0,.box [.dat i64<|fst a,.dat b<|snd a])];.ite (!decide (0<length (snd a))) (.ite (fst a !=(-9223372036854775808)) (.leaf (yd [.dat i64 e,.nil])<|[(zu 0 1,.box [.dat i64 e,.nil]),(0,.box [.dat i64<|fst a,.dat b<|snd a])]) d) d:=by kernel_rfl
end T143
namespace T139
def T(a b:Int×List Int):Tr:=tree vH false 9 139<|Ae ([yf i64<|zL<|zh zd,yf i64<|zL<|zh zd]) (a,b)
theorem Ap(a b:Int×List Int):T a b=let b':=BS<|Af<|zg (fst a,snd a);let d:=BS<|Af<|zg (fst b,snd b);let c:=zL<|zh zd;let h':=decide (zg (fst a,snd a)<0);let l:=zc .i64<|fst a+fst b;let i:=decide (zg (fst b,snd b)<0);let k:=BS<|Ao b'+Ao d;let j:=BS<|Ao b'-Ao d;let l':=BS<|Ao d-Ao b';let f:=yq h'<|Ao k;let e:=yq h'<|Ao j;let g:=yq i<|Ao l';let h:Tr:=.ck (zX (fst a,snd a))<|.ck (zX (fst b,snd b))<|.ite (h'==i) (.ck (qj b'&&qj d)<|.ck (B3 k)<|.leaf (yd [.dat i64<|Cv f,.dat c<|Ct f])<|[(zu (zu 0 1) 1,.box [.dat i64<|Cv f,.dat c<|Ct f]),(zu 0 1,.box [.dat i64<|fst b,.dat c<|snd b]),(0,.box [.dat i64<|fst a,.dat c<|snd a])])<|.ck (B3 b'&&B3 d)<|.di (BY (Ao b') (Ao d)>=0) (.ck (CD b'&&CD d&&decide (Ao d<=Ao b'))<|.ck (B3 j)<|.leaf (yd [.dat i64<|Cv e,.dat c<|Ct e])<|[(zu (zu 0 1) 1,.box [.dat i64<|Cv e,.dat c<|Ct e]),(zu 0 1,.box [.dat i64<|fst b,.dat c<|snd b]),(0,.box [.dat i64<|fst a,.dat c<|snd a])])<|.ck (CD d&&CD b'&&decide (Ao b'<=Ao d))<|.ck (B3 l')<|.leaf (yd [.dat i64<|Cv g,.dat c<|Ct g])<|[(zu (zu 0 1) 1,.box [.dat i64<|Cv g,.dat c<|Ct g]),(zu 0 1,.box [.dat i64<|fst b,.dat c<|snd b]),(0,.box [.dat i64<|fst a,.dat c<|snd a])];.ite (!decide (0<length (snd a))) (.ite (!decide (0<length (snd b))) (.ite (decide (zc .i64 (fst a+fst b)>fst a)==decide (fst b>0)) (.leaf (yd [.dat i64 l,.nil])<|[(zu (zu 0 1) 1,.box [.dat i64 l,.nil]),(zu 0 1,.box [.dat i64<|fst b,.dat c<|snd b]),(0,.box [.dat i64<|fst a,.dat c<|snd a])]) h) h) h:=by kernel_rfl
end T139
namespace T127
def T(a b:Int×List Int):Tr:=tree vH false 9 127<|Ae ([yf i64<|zL<|zh zd,yf i64<|zL<|zh zd]) (a,b)
theorem Ap(a b:Int×List Int):T a b=let c:=zL<|zh zd;let d:=Af<|fst a;let f:=Af<|fst b;let i:=BS<|Af<|zg (fst a,snd a);let h:=BS<|Af<|zg (fst b,snd b);let g:=HJ d f;let j:=BS<|Ao i*Ao h;let b':=yq (!decide (zg (fst a,snd a)<0)==decide (zg (fst b,snd b)<0))<|Ao j;let h':=zc .i64<|0-zc .i64 g;let e:Tr:=.ck (zX (fst a,snd a))<|.ck (zX (fst b,snd b))<|.ck (qj i&&qj h)<|.ck (B3 j)<|.leaf (yd [.dat i64<|Cv b',.dat c<|Ct b'])<|[(zu (zu 0 1) 1,.box [.dat i64<|Cv b',.dat c<|Ct b']),(zu 0 1,.box [.dat i64<|fst b,.dat c<|snd b]),(0,.box [.dat i64<|fst a,.dat c<|snd a])];.ite (!decide (0<length (snd a))) (.ite (!decide (0<length (snd b))) (.ck (CC<|fst a)<|.ck (CC<|fst b)<|.ck (zp d&&zp f)<|.ite (PU d f==0) (.di (HJ d f<=9223372036854775807) (.ite (!decide (fst a<0)==decide (fst b<0)) (.leaf (yd [.dat i64 h',.nil])<|[(zu (zu 0 1) 1,.box [.dat i64 h',.nil]),(zu 0 1,.box [.dat i64<|fst b,.dat c<|snd b]),(0,.box [.dat i64<|fst a,.dat c<|snd a])])<|.leaf (yd [.dat i64<|zc .i64 g,.nil])<|[(zu (zu 0 1) 1,.box [.dat i64<|zc .i64 g,.nil]),(zu 0 1,.box [.dat i64<|fst b,.dat c<|snd b]),(0,.box [.dat i64<|fst a,.dat c<|snd a])]) e) e) e) e:=by kernel_rfl
end T127
namespace T202
def T(a:Int×List Int):Tr:=tree xD false 9 202<|Ae ([yf i64<|zL<|zh zd]) a
theorem Ap(a:Int×List Int):T a=let b:=zL<|zh zd;let b':=HI (fst a,snd a);let c:=HT (fst a,snd a);.di (fst a<0) (.ck (zX (fst a,snd a))<|.leaf (yd [.dat i64 b',.dat b c])<|[(zu 0 1,.box [.dat i64 b',.dat b c]),(0,.box [.dat i64<|fst a,.dat b<|snd a])]) (.leaf (yd [.dat i64<|fst a,.dat b<|snd a])<|[(zu 0 1,.box [.dat i64<|fst a,.dat b<|snd a]),(0,.box [.dat i64<|fst a,.dat b<|snd a])]):=by kernel_rfl
end T202
namespace T161
def T(a:Int×List Int):Tr:=tree ZO false 9 161<|Ae ([yf i64<|zL<|zh zd]) a
theorem Ap(a:Int×List Int):T a=.leaf (.dat i64<|imax (-1)<|Ec 1<|fst a) ([(0,.box [.dat i64<|fst a,.dat (zL<|zh zd)<|snd a])]):=by kernel_rfl
end T161
namespace T160
def T(a b:Int×List Int):Tr:=tree xD false 9 160<|Ae ([yf i64<|zL<|zh zd,yf i64<|zL<|zh zd]) (a,b)
theorem Ap(a b:Int×List Int):T a b=let c:=(HI (fst b,snd b),HT (fst b,snd b));let b':=zL<|zh zd;let e:=Lt (fst a,snd a) c;let d:=LG (fst a,snd a) c;.ck (zX (fst b,snd b)) (.ck (BV (fst a,snd a)&&BV c)<|.leaf (yd [.dat i64 e,.dat b' d])<|[(zu (zu 0 1) 1,.box [.dat i64 e,.dat b' d]),(zu 0 1,.box [.dat i64<|fst b,.dat b'<|snd b]),(0,.box [.dat i64<|fst a,.dat b'<|snd a])]):=by kernel_rfl
end T160
namespace T105
def T(a b:Int×List Int):Tr:=tree yI false 9 105<|Ae ([yf i64<|zL<|zh zd,yf i64<|zL<|zh zd]) (a,b)
theorem Ap(a b:Int×List Int):T a b=let e:=(Zx (fst a,snd a) (fst b,snd b),ZG (fst a,snd a) (fst b,snd b));let d:=zL<|zh zd;let c:=[(zu 0 1,.box [.dat i64<|fst b,.dat d<|snd b]),(0,.box [.dat i64<|fst a,.dat d<|snd a])];let b':Tr:=.ck (BV (fst a,snd a)&&BV (fst b,snd b))<|.ck (zX e)<|.leaf (.dat i64<|LP e) c;.ite (!decide (0<length (snd a))) (.ite (!decide (0<length (snd b))) (.di (fst a<fst b) (.leaf (.dat i64 (-1:Int)) c)<|.di (fst a>fst b) (.leaf (.dat i64 (1:Int)) c)<|.leaf (.dat i64 (0:Int)) c) b') b':=by kernel_rfl
end T105
end
theorem kI(k:Nat):((Am^k:Nat):Int)=(Am:Int)^k:=z8 ..
theorem KS{n:Int}{k:Nat}(h0:0<=n)(h:n<(Am:Int)^k):(BS n).length<=k:=by
 refine Q9 Am (by decide) k n.toNat n.toNat ?_;rw[<-kI]at h;generalize Am^k=P at*;omega
theorem Da{n:Int}{k:Nat}(h0:0<=n)(h:n<(Am:Int)^k)(d:k<=20000):B3 (BS n)=true/\CD (BS n)=true/\Ao (BS n)=n:=by
 have c:=KS h0 h;have a:CD (BS n)=true:=D4 (by omega) (G9 (by decide) n);have b:nF (BS n)=true:=by
  unfold nF;exact w4 (WL (by decide) n)
 exact⟨by unfold B3;rw[a,b];rfl,a,C1 (by decide) h0⟩
theorem EL{a:Br}(h:BV a=true):zX a=true/\a.2.length<=9000:=by
 unfold BV at h;rw[zf,w5]at h;exact h
theorem dF{s:Int}{w:List Int}(a:w≠[]):zg (s,w)=if s<0 then -Ao w else Ao w:=by unfold zg;exact wc a
theorem O1{a:Br}(h:zX a=true):(a.2=[]/\Af (zg a)<=9223372036854775808)\/(BS (Af<|zg a)=a.2):=by
 obtain⟨e,b⟩:=EH h;obtain⟨s,w⟩:=a;have e: -9223372036854775808<=s/\s<9223372036854775808:=e;rcases b with b|⟨g,f,d⟩
 ·have b:w=[]:=b;subst b;refine .inl ⟨rfl,?_⟩;rw[EG];simp only[Aj];omega
 ·obtain⟨n1,k,i⟩:=Ey (l:=w) g;have f:s=1\/s= -1:=f;have d:9223372036854775808<=Ao w:=d;have c:w≠[]:=by rintro rfl;exact wh d (by decide)
  refine .inr ?_;have j:Af (zg (s,w))=Ao w:=by rw[dF c];simp only[Aj];split<;>omega
  rw[j];exact(I3 (by decide) k i).symm
theorem AI(n:Int):0<=Af n:=by simp only[Aj];omega
theorem HN{a:Br}(h:zX a=true){k:Nat}(e:a.2.length<=k)(c:1<=k):Af (zg a)<(Am:Int)^k:=by
 rcases O1 h with⟨_,g⟩|he
 ·have:=AM (b:=Am) (by decide) c;rw[Int.pow_one]at this;have d:(9223372036854775808:Int)<(Am:Int):=by decide
  exact zU g<|Int.lt_of_lt_of_le d this
 ·have f:=C1 (b:=Am) (by decide)<|AI<|zg a;have:=Bl (b:=Am) (by decide) (G9 (b:=Am) (by decide)<|Af<|zg a);rw[f,show Sp.dg Am (Af<|zg a)=a.2 from he]at this;exact Int.lt_of_lt_of_le this (AM (by decide) e)
theorem K3{x y:Int}(e:0<=x)(g:x<(Am:Int)^9000)(h:y<(Am:Int)^9000):x+y<(Am:Int)^9001/\x*y<(Am:Int)^18000:=by
 have f:(Am:Int)^9001=(Am:Int)^9000*Am:=yn ..;have d:(Am:Int)^18000=(Am:Int)^9000*(Am:Int)^9000:=Int.pow_add _ 9000 9000;rw[f,d];generalize (Am:Int)^9000=P at*;refine⟨?_,?_⟩
 ·show x+y<P*18446744073709551616;omega
 ·have a:=zQ (show y<=P-1 by omega) e;have b:=zk (show x<=P-1 by omega) (show 0<=P-1 by omega);have c:(P-1)*(P-1)=P*P-P-P+1:=by
   rw[Int.sub_mul,qf];omega
  omega
theorem Df(n:Bool)(v:Int):yq n v=if n=true then -v else v:=rfl
theorem CJ(n:Int):zg (CI n)=n:=by
 unfold CI;split
 ·exact EG
 ·have a:=C1 (b:=Am) (by decide)<|AI n;have c:BS (Af n)≠[]:=by
   intro h;rw[show Sp.dg Am (Af n)=[]from h]at a;have:(0:Int)=Af n:=a;simp only[Aj]at this;omega
  rw[dF c,show Ao (BS<|Af n)=Af n from a];simp only[Aj];split<;>split<;>omega
theorem Vt{a:Br}{c:Bool}(h:(!decide (0<a.2.length))=c):(c=true->a.2=[])/\(c=false->a.2≠[]):=by
 subst h;rcases a with⟨s,w⟩
 cases w<;>simp
theorem Ov{a:Br}(h:(!decide (0<a.2.length))=true):a.2=[]:=(Vt h).1 rfl
theorem YQ{a:Br}(h:(!decide (0<a.2.length))=false):a.2≠[]:=(Vt h).2 rfl
theorem BG{a:Br}(h:a.2=[]):zg a=a.1:=by unfold zg;exact wd h
theorem words{a:Br}(h:BV a=true):zX a=true/\qj (BS<|Af<|zg a)=true/\B3 (BS<|Af<|zg a)=true/\CD (BS<|Af<|zg a)=true/\Ao (BS<|Af<|zg a)=Af (zg a)/\Af (zg a)<(Am:Int)^9000:=by
 obtain⟨c,f⟩:=EL h;have b:=HN c f (by omega);obtain⟨n,d,v⟩:=Da (AI _) b (by omega);have e:=KS (AI _) b;refine⟨c,?_,n,d,v,b⟩;unfold qj;rw[d,zS];exact w4 e
theorem Aa{a b:Bool}(c:a=true)(d:b=true):(a&&b)=true:=by rw[c,d];rfl
theorem Kp(n:Int):Sp.OW n=if n<0 then -1 else if n>0 then 1 else 0:=rfl
theorem nG{a:Br}(h:zX a=true):imax (-1) (Ec 1 a.1)=Sp.OW (zg a):=by
 obtain⟨g,b⟩:=EH h;obtain⟨s,w⟩:=a;rcases b with b|⟨i,f,d⟩
 ·have b:w=[]:=b;subst b;rw[EG,Kp,bR];show imax (-1) (if (1:Int)<=s then 1 else s)=_;unfold imax;split<;>split<;>split<;>(try split)<;>omega
 ·have f:s=1\/s= -1:=f;have d:9223372036854775808<=Ao w:=d;have c:w≠[]:=by rintro rfl;exact wh d (by decide)
  rw[dF c,Kp];rcases f with rfl|rfl
  ·have e:(if (1:Int)<0 then -Ao w else Ao w)=Ao w:=wc (by decide);rw[e,wc (show ¬Ao w<0 by omega),wd<|show Ao w>0 by omega];show imax (-1) (Ec 1 1)=1;decide
  ·have e:(if (-1:Int)<0 then -Ao w else Ao w)= -Ao w:=wd (by decide);rw[e,wd<|show -Ao w<0 by omega];show imax (-1) (Ec 1<| -1)= -1;decide
namespace T143
theorem ok:Ag Bm 143 Vx:=by
 refine Cj Qo<|fun(a:Int×List Int) b=>?_;have b:zX a=true:=b;have f:B3 (BS<|Af<|zg a)=true/\Ao (BS<|Af<|zg a)=Af (zg a):=by
  refine⟨?_,C1 (by decide)<|AI _⟩;rcases O1 b with⟨_,j⟩|he
  ·have:(9223372036854775808:Int)<(Am:Int)^1:=by decide
   exact(Da (AI _) (zU j this)<|by omega).1
  ·obtain⟨_,e⟩:=EH b;rw[he];rcases e with e|⟨i,_⟩
   ·rw[e];decide+kernel
   ·exact i
 have g:yq (!decide (zg a<0)) (Ao<|BS<|Af<|zg a)= -zg a:=by
  rw[f.2,Df,Aj];rcases zz (zg a) 0 with h|h
  ·rw[w4 h];simp;omega
  ·rw[w8<|by omega];simp;omega
 have k:=(EH b).1;refine zW (Ap a)<|zl (fun c=>zl (fun d=>zi<|zy rfl rfl ?_)<|fun d=>ze b<|ze f.1<|zi<|zy rfl rfl ?_)<|fun c=>ze b<|ze f.1<|zi<|zy rfl rfl ?_
 ·have c:=Ov c;have d:a.1≠ -9223372036854775808:=by simpa using d
  show(zc .i64<|0-a.1,[])=Fs a;unfold Fs;rw[wd ⟨c,d⟩,wr _ (by omega) (by omega),Int.zero_sub]
 ·have d:a.1= -9223372036854775808:=by simpa using d
  show CI (yq (!decide (zg a<0))<|Ao<|BS<|Af<|zg a)=Fs a;unfold Fs;rw[wc<|fun h=>h.2 d,g]
 ·have c:=YQ c;show CI (yq (!decide (zg a<0))<|Ao<|BS<|Af<|zg a)=Fs a;unfold Fs;rw[wc<|fun h=>c h.1,g]
end T143
namespace T139
theorem ok:Ag Bm 139 Qe:=by
 refine Cj Qo<|fun(i:(Int×List Int)×(Int×List Int)) n=>?_;obtain⟨a,b⟩:=i;have n:(BV a&&BV b)=true:=n;rw[zf]at n;obtain⟨a1,a2,a3,a4,a5,a6⟩:=words n.1;obtain⟨b1,b2,b3,b4,b5,b6⟩:=words n.2;have B:=(EH a1).1;have z:=(EH b1).1;have x:=AI<|zg a;have D:=AI<|zg b;obtain⟨t1,_⟩:=K3 x a6 b6;have s:∀v ob,GI a b=CI v->Ad Qe (a,b) (.agg [.dat i64<|Cv v,.dat (.nlist<|.int .u64)<|Ct v]) ob:=fun v ob h=>zy rfl rfl (by
  show CI v=GI a b;rw[h])
 have mono:(Am:Int)^9000<=(Am:Int)^9001:=AM (by decide) (by omega);have j:decide (zg a<0)=decide (zg b<0)->yq (decide (zg a<0)) (Ao<|BS<|Ao (BS<|Af<|zg a)+Ao (BS<|Af<|zg b))=zg a+zg b:=by
  intro e;rw[a5,b5,show Ao (BS<|Af (zg a)+Af (zg b))=_ from C1 (by decide) (by omega),Df,Aj,Aj];rcases zz (zg a) 0 with h|h
  ·rw[w4 h]at e ⊢;have:=w6 e.symm;simp only[wk];omega
  ·rw[w8<|by omega]at e ⊢;have:=w7 e.symm;simp only[yr,vf];omega
 have l:decide (zg a<0)≠decide (zg b<0)->Af (zg b)<=Af (zg a)->yq (decide (zg a<0)) (Ao<|BS<|Ao (BS<|Af<|zg a)-Ao (BS<|Af<|zg b))=zg a+zg b:=by
  intro e t;rw[a5,b5,show Ao (BS<|Af (zg a)-Af (zg b))=_ from C1 (by decide) (by omega),Df,Aj,Aj];rcases zz (zg a) 0 with h|h
  ·rw[w4 h]at e ⊢;have:¬zg b<0:=fun h=>e (w4 h).symm
   simp only[wk];omega
  ·rw[w8<|by omega]at e ⊢;have:zg b<0:=by
    rcases zz (zg b) 0 with h|h
    ·exact h
    ·exact wh (w8<|by omega).symm e
   simp only[yr,vf];omega
 have k:decide (zg a<0)≠decide (zg b<0)->Af (zg a)<=Af (zg b)->yq (decide (zg b<0)) (Ao<|BS<|Ao (BS<|Af<|zg b)-Ao (BS<|Af<|zg a))=zg a+zg b:=by
  intro e t;rw[a5,b5,show Ao (BS<|Af (zg b)-Af (zg a))=_ from C1 (by decide) (by omega),Df,Aj,Aj];rcases zz (zg b) 0 with h|h
  ·rw[w4 h]at e ⊢;have:¬zg a<0:=fun h=>e<|w4 h
   simp only[wk];omega
  ·rw[w8<|show ¬zg b<0 by omega]at e ⊢;have:zg a<0:=by
    rcases zz (zg a) 0 with h|h
    ·exact h
    ·exact wh (w8<|by omega) e
   simp only[yr,vf];omega
 have n1:B3 (BS<|Ao (BS<|Af<|zg a)+Ao (BS<|Af<|zg b))=true:=by
  rw[a5,b5];exact(Da (by omega) t1<|by omega).1
 have y:Af (zg b)<=Af (zg a)->B3 (BS<|Ao (BS<|Af<|zg a)-Ao (BS<|Af<|zg b))=true:=by
  intro h;rw[a5,b5];exact(Da (by omega) (zU (by omega) a6)<|by omega).1
 have A:Af (zg a)<=Af (zg b)->B3 (BS<|Ao (BS<|Af<|zg b)-Ao (BS<|Af<|zg a))=true:=by
  intro h;rw[a5,b5];exact(Da (by omega) (zU (by omega) b6)<|by omega).1
 have f:∀ {c:Bool},decide (BY (Ao<|BS<|Af<|zg a) (Ao<|BS<|Af<|zg b)>=0)=c->(c=true->Af (zg b)<=Af (zg a))/\(c=false->Af (zg a)<=Af (zg b)):=by
  intro c h;subst h;rw[a5,b5,w5,w9];unfold BY;constructor
  ·intro h;split at h<;>omega
  ·intro h;split at h
   ·omega
   ·split at h<;>omega
 refine zW (Ap a b)<|zl (fun o=>zl (fun m=>zl (fun g=>zi<|zy rfl rfl ?_)<|fun g=>?_)<|fun m=>?_)<|fun o=>?_
 ·have o:=Ov o;have m:=Ov m;have p:zc .i64 (a.1+b.1)=a.1+b.1:=by
   rw[wj]at g;rcases zz (a.1+b.1) (-9223372036854775808)with h|h
   ·exfalso;have e:zc .i64 (a.1+b.1)=a.1+b.1+18446744073709551616:=by rw[yy];omega
    rw[e,w4 (by omega),w8<|by omega]at g;cases g
   ·rcases zz (a.1+b.1) 9223372036854775808 with q|q
    ·exact wr _ (by omega) (by omega)
    ·exfalso;have e:zc .i64 (a.1+b.1)=a.1+b.1-18446744073709551616:=by rw[yy];omega
     rw[e,w8 (by omega),w4<|by omega]at g;cases g
  have C:CC (a.1+b.1)=true:=by
   have: -9223372036854775808<=zc .i64 (a.1+b.1)/\zc .i64 (a.1+b.1)<9223372036854775808:=by rw[yy];omega
   rw[p]at this;unfold CC;rw[zf,w5,w5];exact this
  show(zc .i64<|a.1+b.1,[])=GI a b;unfold GI;rw[wd ⟨o,m,C⟩,p]
 all_goals
  have r:GI a b=CI (zg a+zg b):=by
   unfold GI;refine wc<|fun h=>?_;obtain⟨w,q,u⟩:=h;first
    |exact YQ o w
    |exact YQ m q
    |(have u:=El u
      have p:zc .i64 (a.1+b.1)=a.1+b.1:=wr _ (by omega) (by omega);rw[p,wn]at g;refine g ?_;rcases zz 0 b.1 with h|h
      ·rw[w4 (show a.1+b.1>a.1 by omega),w4 h]
      ·rw[w8 (show ¬a.1+b.1>a.1 by omega),w8<|show ¬b.1>0 by omega])
  refine ze a1<|ze b1<|zl (fun e=>ze (Aa a2 b2)<|ze n1<|zi<|s _ _ ?_)<|fun e=>ze (Aa a3 b3)<|zl (fun d=>ze ?_<|ze (y<|(f d).1 rfl)<|zi<|s _ _ ?_)<|fun d=>ze ?_<|ze (A<|(f d).2 rfl)<|zi<|s _ _ ?_
  ·rw[r];exact wi _ (j<|by simpa using e).symm
  ·refine Aa (Aa a4 b4)<|w4 ?_;rw[a5,b5];exact(f d).1 rfl
  ·rw[r];exact wi _ (l (by simpa using e)<|(f d).1 rfl).symm
  ·refine Aa (Aa b4 a4)<|w4 ?_;rw[a5,b5];exact(f d).2 rfl
  ·rw[r];exact wi _ (k (by simpa using e)<|(f d).2 rfl).symm
end T139
theorem DT{n:Int}(a: -9223372036854775808<=n)(b:n<9223372036854775808):CC n=true:=by
 unfold CC;rw[zf,w5,w5];exact⟨a,b⟩
theorem Kq{n:Int}(h:CC n=true):zX (n,[])=true:=by
 unfold zX;rw[h];rfl
theorem Qi{n:Int}{k:Nat}(h:Af n<(Am:Int)^k)(b:k<=20000):zX (CI n)=true/\(CI n).2.length<=k:=by
 unfold CI;split
 ·next c=>exact⟨Kq (DT (by omega)<|by omega),Nat.zero_le _⟩
 ·next c=>
  obtain⟨n1,e,a⟩:=Da (AI n) h b;refine⟨?_,KS (AI n) h⟩;have d:9223372036854775808<=Af n:=by rw[Aj];omega
  unfold zX;refine Aa (DT ?_ ?_) ?_
  ·show -9223372036854775808<=(if n<0 then -1 else 1);split<;>decide
  ·show(if n<0 then -1 else 1)<9223372036854775808;split<;>decide
  ·rw[qc];refine .inr (Aa (Aa n1 ?_) (w4<|by show _<=Ao (BS<|Af n);rw[a];exact d));show(decide ((if n<0 then(-1:Int)else 1)=1)||decide ((if n<0 then(-1:Int)else 1)= -1))=true;split<;>rfl
theorem oB(a:Br):zg (Fs a)= -zg a:=by
 unfold Fs;split
 ·next h=>rw[EG,BG h.1]
 ·exact CJ _
theorem YY(n:Int):Af (-n)=Af n:=by rw[Aj,Aj];omega
theorem nO{a:Br}(h:zX a=true){k:Nat}(b:1<=k)(d:k<=20000)(e:a.2.length<=k):zX (Fs a)=true/\(Fs a).2.length<=k:=by
 have f:=(EH h).1;unfold Fs;split
 ·next c=>exact⟨Kq (DT (by omega)<|by omega),Nat.zero_le _⟩
 ·exact Qi (by rw[YY];exact HN h e b) d
theorem sY{a:Br}(h:BV a=true):BV (Fs a)=true:=by
 obtain⟨b,c⟩:=EL h;obtain⟨h3,h4⟩:=nO b (k:=9000) (by omega) (by omega) c;unfold BV;exact Aa h3<|w4 h4
theorem jW{a:Br}(h:zX a=true):a.1<0↔zg a<0:=by
 obtain⟨_,b⟩:=EH h;obtain⟨s,w⟩:=a;rcases b with b|⟨_,e,d⟩
 ·have b:w=[]:=b;subst b;rw[EG]
 ·have e:s=1\/s= -1:=e;have d:9223372036854775808<=Ao w:=d;have c:w≠[]:=by rintro rfl;exact wh d (by decide)
  rw[dF c];show s<0↔_;split<;>omega
theorem pF(a b:Br):zg (GI a b)=zg a+zg b:=by
 unfold GI;split
 ·next h=>rw[EG,BG h.1,BG h.2.1]
 ·exact CJ _
theorem iO(x y:Int):Af (x+y)<=Af x+Af y:=by
 rw[Aj,Aj,Aj];omega
theorem JN(x y:Int):Af (x*y)=Af x*Af y:=by
 rw[Aj,Aj,Aj,Int.natAbs_mul,ye]
theorem bounds{a:Br}(h:BV a=true):Af (zg a)<(Am:Int)^9000:=(words h).2.2.2.2.2
theorem qU{a b:Br}(c:BV a=true)(d:BV b=true):zX (GI a b)=true:=by
 unfold GI;split
 ·next h=>exact Kq h.2.2
 ·exact(Qi (zU (iO _ _) (K3 (AI _) (bounds c)<|bounds d).1)<|by omega).1
theorem oW(a b:Br):zg (Mg a b)=zg a-zg b:=by
 unfold Mg;rw[pF,oB];omega
theorem Ul(a b:Br):zg (UO a b)=zg a*zg b:=CJ _
theorem Wv:D3 xD:=
 Ac T143.ok (Ac T139.ok AP)
namespace T161
theorem ok:Ag Bm 161 Ll:=by
 refine Cj II<|fun(a:Int×List Int) b=>?_;have b:zX a=true:=b;exact zW (Ap a)<|zi<|zy rfl rfl (nG b)
end T161
namespace T202
theorem ok:Ag Bm 202 lY:=by
 refine Cj Wv<|fun(a:Int×List Int) b=>?_;have b:zX a=true:=b;refine zW (Ap a)<|zl (fun c=>ze b<|zi<|zy rfl rfl ?_)<|fun c=>zi<|zy rfl rfl ?_
 ·show Fs a=SY a;unfold SY;rw[wd<|w6 c]
 ·show a=SY a;unfold SY;rw[wc<|w7 c]
end T202
namespace T160
theorem ok:Ag Bm 160 aF:=by
 refine Cj Wv<|fun(i:(Int×List Int)×(Int×List Int)) c=>?_;obtain⟨a,b⟩:=i;have c:(BV a&&BV b)=true:=c;rw[zf]at c;exact zW (Ap a b)<|ze (EL c.2).1<|ze (Aa c.1<|sY c.2)<|zi<|zy rfl rfl rfl
end T160
theorem iT:D3 yI:=
 Ac T160.ok (Ac T161.ok AP)
theorem iH(x y:Int):Sp.OW (x-y)=BY x y:=by
 unfold Sp.OW BY;split
 ·rw[wd<|by omega]
 ·split
  ·rw[wc (by omega),wd<|by omega]
  ·rw[wc (by omega),wc<|by omega]
namespace T105
theorem ok:Ag Bm 105 YX:=by
 refine Cj iT<|fun(i:(Int×List Int)×(Int×List Int)) f=>?_;obtain⟨a,b⟩:=i;have f:(BV a&&BV b)=true:=f;have c:=f;rw[zf]at c;have j:zX (Mg a b)=true:=by
  unfold Mg;exact qU c.1<|sY c.2
 have g:LP (Mg a b)=X4 a b:=by
  show Sp.OW (zg<|Mg a b)=BY (zg a) (zg b);rw[oW,iH]
 refine zW (Ap a b)<|zl (fun k=>zl (fun h=>zl (fun d=>zi<|zy rfl rfl ?_)<|fun d=>zl (fun e=>zi<|zy rfl rfl ?_)<|fun e=>zi<|zy rfl rfl ?_)<|fun h=>ze f<|ze j<|zi<|zy rfl rfl g)<|fun k=>ze f<|ze j<|zi<|zy rfl rfl g;all_goals
  have m:=BG<|Ov k;have l:=BG<|Ov h;show _=BY (zg a) (zg b);rw[m,l];unfold BY
 ·rw[wd<|w6 d]
 ·rw[wc<|w7 d,wd<|w6 e]
 ·rw[wc<|w7 d,wc<|w7 e]
end T105
theorem QO(x y:Int):x*y=yq (!(decide (x<0)==decide (y<0))) (Af x*Af y):=by
 unfold Af;rw[Df];by_cases a:x<0<;>by_cases b:y<0<;>simp[a,b,Int.neg_mul,Int.mul_neg]
namespace T127
theorem ok:Ag Bm 127 Tg:=by
 refine Cj Qo<|fun(i:(Int×List Int)×(Int×List Int)) j=>?_;obtain⟨a,b⟩:=i;have j:(BV a&&BV b)=true:=j;rw[zf]at j;obtain⟨a1,a2,a3,a4,a5,a6⟩:=words j.1;obtain⟨b1,b2,b3,b4,b5,b6⟩:=words j.2;have h:=(EH a1).1;have g:=(EH b1).1;have o:=AI<|zg a;have q:=AI<|zg b;obtain⟨_,t2⟩:=K3 o a6 b6;have p:0<=Af (zg a)*Af (zg b):=zt o q;have n1:B3 (BS<|Ao (BS<|Af<|zg a)*Ao (BS<|Af<|zg b))=true:=by
  rw[a5,b5];exact(Da p t2<|by omega).1
 have s:yq (!(decide (zg a<0)==decide (zg b<0))) (Ao<|BS<|Ao (BS<|Af<|zg a)*Ao (BS<|Af<|zg b))=zg a*zg b:=by
  rw[a5,b5,show Ao (BS<|Af (zg a)*Af (zg b))=_ from C1 (by decide) p, <-QO]
 have t:∀ob,Ad Tg (a,b) (.agg [.dat i64<|Cv<|yq (!(decide (zg a<0)==decide (zg b<0)))<|Ao<|BS<|Ao (BS<|Af<|zg a)*Ao (BS<|Af<|zg b),.dat (.nlist<|.int .u64)<|Ct<|yq (!(decide (zg a<0)==decide (zg b<0)))<|Ao<|BS<|Ao (BS<|Af<|zg a)*Ao (BS<|Af<|zg b)]) ob:=fun ob=>zy rfl rfl (by
  show CI _=CI (zg a*zg b);rw[s])
 have r:zp (Af a.1)=true:=Cz (AI _) (by rw[Aj];omega);have ub:zp (Af b.1)=true:=Cz (AI _) (by rw[Aj];omega);refine zW (Ap a b)<|zl (fun n=>zl (fun m=>ze (DT h.1 h.2)<|ze (DT g.1 g.2)<|ze (Aa r ub)<|zl (fun e=>zl (fun d=>zl (fun c=>zi<|zy rfl rfl ?_)<|fun c=>zi<|zy rfl rfl ?_)<|fun d=>?_)<|fun e=>?_)<|fun m=>?_)<|fun n=>?_
 ·have k:=BG<|Ov n;have l:=BG<|Ov m;have e:(Af a.1*Af b.1)/18446744073709551616=0:=by simpa [PU]using e
  have d:(Af a.1*Af b.1) % 18446744073709551616<=9223372036854775807:=w6 d;have p0:0<=Af a.1*Af b.1:=zt (AI _)<|AI _;have f:=QO a.1 b.1;have c:(!(decide (a.1<0)==decide (b.1<0)))=true:=c;rw[c,Df,wd rfl]at f;show(zc .i64<|0-zc .i64 ((Af a.1*Af b.1) % 18446744073709551616),[])=CI (zg a*zg b);rw[k,l,f,BW (by omega),wr ((Af a.1*Af b.1) % 18446744073709551616) (by omega) (by omega),wr _ (by omega)<|by omega];congr 1;omega
 ·have k:=BG<|Ov n;have l:=BG<|Ov m;have e:(Af a.1*Af b.1)/18446744073709551616=0:=by simpa [PU]using e
  have d:(Af a.1*Af b.1) % 18446744073709551616<=9223372036854775807:=w6 d;have p0:0<=Af a.1*Af b.1:=zt (AI _)<|AI _;have f:=QO a.1 b.1;have c:(!(decide (a.1<0)==decide (b.1<0)))=false:=c;rw[c,Df,wc<|by decide]at f;show(zc .i64<|(Af a.1*Af b.1) % 18446744073709551616,[])=CI (zg a*zg b);rw[k,l,f,BW (by omega),wr ((Af a.1*Af b.1) % 18446744073709551616) (by omega)<|by omega];congr 1;omega
 all_goals exact ze a1<|ze b1<|ze (Aa a2 b2)<|ze n1<|zi<|t _
end T127
end Go.Pe
namespace Go.Sp
def FQ(n:Int):Int:=if n<=0 then 0 else(n.toNat.log2:Int)+1
def lz(n:Int):Int:=64-FQ n
def dq(h l y:Int):Int:=(h*18446744073709551616+l)/y
def dr(h l y:Int):Int:=(h*18446744073709551616+l) % y
end Go.Sp
namespace Go.Pe
open Go.Det
def YV:Au:=⟨[u64],fun n=>zp n,[i64],fun n=>Sp.FQ n,false⟩
def uS:Au:=⟨[u64],fun n=>zp n,[i64],fun n=>Sp.lz n,false⟩
def RA:Au:=⟨[u64,u64,u64],fun i=>zp i.1&&zp i.2.1&&zp i.2.2&&decide ((i.1:Int)<i.2.2),[u64,u64],fun i=>(Sp.dq i.1 i.2.1 i.2.2,Sp.dr i.1 i.2.1 i.2.2),false⟩
def xU:AW:=X7 [(228,YV)]
def Zb:AW:=X7 [(247,uS)]
section
open List Int Prod
namespace T228
def T(x:Int):Tr:=tree ZO false 9 228<|Ae ([zh zd]) x
theorem Ap(x:Int):T x=let b:=([0,1,2,2,3,3,3,3,4,4,4,4,4,4,4,4,5,5,5,5,5,5,5,5,5,5,5,5,5,5,5,5,6,6,6,6,6,6,6,6,6,6,6,6,6,6,6,6,6,6,6,6,6,6,6,6,6,6,6,6,6,6,6,6,7,7,7,7,7,7,7,7,7,7,7,7,7,7,7,7,7,7,7,7,7,7,7,7,7,7,7,7,7,7,7,7,7,7,7,7,7,7,7,7,7,7,7,7,7,7,7,7,7,7,7,7,7,7,7,7,7,7,7,7,7,7,7,7,8,8,8,8,8,8,8,8,8,8,8,8,8,8,8,8,8,8,8,8,8,8,8,8,8,8,8,8,8,8,8,8,8,8,8,8,8,8,8,8,8,8,8,8,8,8,8,8,8,8,8,8,8,8,8,8,8,8,8,8,8,8,8,8,8,8,8,8,8,8,8,8,8,8,8,8,8,8,8,8,8,8,8,8,8,8,8,8,8,8,8,8,8,8,8,8,8,8,8,8,8,8,8,8,8,8,8,8,8,8,8,8,8,8,8,8,8,8,8,8,8,8,8,8,8,8,8,8]:Z);let b':=zo x<|2^32;let a:=(0:Sh.T (zh qi));let d:=zo x<|2^16;let f:=zo x<|2^8;let c:=zo b'<|2^16;let g:=zo b'<|2^8;let h':=zo d<|2^8;let e:=zo c<|2^8;.di (x>=4294967296) (.ck true<|.di (zo x (2^32)>=65536) (.ck true<|.di (zo b' (2^16)>=256) (.ck true<|.ck (decide (a<=zc .u8 e)&&decide (zc .u8 e<(↑256:Int)))<|.leaf (.dat i64<|zc .i64<|zc .i64 (zc .i64 (32+16)+8)+zc .i64 (↑(zT<|getD b (toNat<|zc .u8 e) (0:UInt8)):Int)) [])<|.ck (decide (a<=zc .u8 c)&&decide (zc .u8 c<(↑256:Int)))<|.leaf (.dat i64<|zc .i64<|zc .i64 (32+16)+zc .i64 (↑(zT<|getD b (toNat<|zc .u8 c) (0:UInt8)):Int)) [])<|.di (zo x (2^32)>=256) (.ck true<|.ck (decide (a<=zc .u8 g)&&decide (zc .u8 g<(↑256:Int)))<|.leaf (.dat i64<|zc .i64<|zc .i64 (32+8)+zc .i64 (↑(zT<|getD b (toNat<|zc .u8 g) (0:UInt8)):Int)) [])<|.ck (decide (a<=zc .u8 b')&&decide (zc .u8 b'<(↑256:Int)))<|.leaf (.dat i64<|zc .i64<|32+zc .i64 (↑(zT<|getD b (toNat<|zc .u8 b') (0:UInt8)):Int)) []) (.di (x>=65536) (.ck true<|.di (zo x (2^16)>=256) (.ck true<|.ck (decide (a<=zc .u8 h')&&decide (zc .u8 h'<(↑256:Int)))<|.leaf (.dat i64<|zc .i64<|zc .i64 (zc .i64 (0+16)+8)+zc .i64 (↑(zT<|getD b (toNat<|zc .u8 h') (0:UInt8)):Int)) [])<|.ck (decide (a<=zc .u8 d)&&decide (zc .u8 d<(↑256:Int)))<|.leaf (.dat i64<|zc .i64<|zc .i64 (0+16)+zc .i64 (↑(zT<|getD b (toNat<|zc .u8 d) (0:UInt8)):Int)) [])<|.di (x>=256) (.ck true<|.ck (decide (a<=zc .u8 f)&&decide (zc .u8 f<(↑256:Int)))<|.leaf (.dat i64<|zc .i64<|zc .i64 (0+8)+zc .i64 (↑(zT<|getD b (toNat<|zc .u8 f) (0:UInt8)):Int)) [])<|.ck (decide (a<=zc .u8 x)&&decide (zc .u8 x<(↑256:Int)))<|.leaf (.dat i64<|zc .i64<|0+zc .i64 (↑(zT<|getD b (toNat<|zc .u8 x) (0:UInt8)):Int)) []):=by kernel_rfl
end T228
namespace T247
def T(x:Int):Tr:=tree xU false 9 247<|Ae ([zh zd]) x
theorem Ap(x:Int):T x=.ck (zp x) (.leaf (.dat i64<|zc .i64<|64-Sp.FQ x) []):=by kernel_rfl
end T247
namespace T246
def T(a lo y:Int):Tr:=tree Zb false 9 246<|Ae ([zh zd,zh zd,zh zd]) (a,lo,y)
def L1(v2 g v9 c f a b d e:Int):Tr:=re ((T 0 0 0).R.R.R.L.L.L.L.L.L.L.L)<|Ax 135 [(2,.dat (zh zd) v2),(8,.dat (zh zd) g),(9,.dat (zh zd) v9),(10,.dat (zh zd) c),(11,.dat (zh zd) f),(13,.dat (zh zd) a),(14,.dat (zh zd) b),(15,.dat (zh zd) d),(16,.dat (zh zd) e)] [] 0
theorem Ap(b lo y:Int):T b lo y=let d:=decide (0<=zc .u64 (Sp.lz y));let h:=64-zc .u64 (Sp.lz y);let g:=zc .u64<|Sp.lz y;let c:=toNat g;let e:=zo lo<|2^y7 (toNat<|zc .u64 h) 64;let a:=zc .u64<|y*2^y7 c 64;let f:=zc .u64<|lo*2^y7 c 64;let i:=zc .u64<|b*2^y7 c 64;let b':=Yj zd i e;let h':=zo a<|2^32;.ite (y==0) .fail (.di (y<=b) .fail<|.ite (b==0) (.cd (y≠0)<|.cd (y≠0)<|.leaf (.tup [.dat (zh zd)<|zc .u64<|yg lo y,.dat (zh zd)<|Int.tmod lo y]) [])<|.ck (zp y)<|.ck d<|.ck true<|.ck d<|.cd (0<=zc .u64 h)<|.ck d<|.ck true<|.cd (zo a (2^32)≠0)<|L1 a g h' (Hc zd a 4294967295) b' (zo f<|2^32) (Hc zd f 4294967295) (zc .u64<|yg b' h')<|zc .u64<|Yj zd i e-zc .u64 (zc .u64 (yg b' h')*zo a (2^32))):=by kernel_rfl
def L2(v2 g v9 d c e f b a:Int):Tr:=re ((stepT Zb<|L1 0 0 0 0 0 0 0 0 0).L.L.L)<|Ax 135 [(2,.dat (zh zd) v2),(8,.dat (zh zd) g),(9,.dat (zh zd) v9),(10,.dat (zh zd) d),(14,.dat (zh zd) c),(15,.dat (zh zd) e),(16,.dat (zh zd) f),(17,.dat (zh zd) b),(18,.dat (zh zd) a)] [] 0
theorem Al(v2 g v9 b f c d a e:Int):stepT Zb (L1 v2 g v9 b f c d a e)=let j:=zc .u64 (f*4294967296)+c;let m:=zc .u64<|a-1;let b':=zc .u64 j-zc .u64 (zc .u64 (a-1)*v2);let k:=zc .u64 j-zc .u64 (a*v2);let h:=zc .u64 k;let i:=zc .u64 b';let l:Tr:=.di (zc .u64 (e+v9)>=4294967296) (.cd (v9≠0)<|L2 v2 g v9 b d m (zc .u64<|zc .u64 b'-zc .u64 (zc .u64 (yg i v9)*v9)) i<|zc .u64<|yg i v9)<|L1 v2 g v9 b f c d m<|zc .u64<|e+v9;.di (a>=4294967296) l (.di (zc .u64 (a*b)>zc .u64 (zc .u64 (4294967296*e)+c)) l<|.cd (v9≠0)<|L2 v2 g v9 b d a (zc .u64<|zc .u64 k-zc .u64 (zc .u64 (yg h v9)*v9)) h<|zc .u64<|yg h v9):=by kernel_rfl
theorem AK(v2 g v9 f b c d e a:Int):stepT Zb (L2 v2 g v9 f b c d e a)=let b':=zh zd;let i:=zc .u64 (e*4294967296)+b;let h:=2^y7 (toNat g) 64;let j:Tr:=.di (zc .u64 (d+v9)>=4294967296) (.cd (0<=g)<|.leaf (.tup [.dat b'<|zc .u64<|zc .u64 (c*4294967296)+zc .u64 (a-1),.dat b'<|zo (zc .u64<|zc .u64 i-zc .u64 (zc .u64 (a-1)*v2)) h]) [])<|L2 v2 g v9 f b c (zc .u64<|d+v9) e<|zc .u64<|a-1;.di (a>=4294967296) j (.di (zc .u64 (a*f)>zc .u64 (zc .u64 (4294967296*d)+b)) j<|.cd (0<=g)<|.leaf (.tup [.dat b'<|zc .u64<|zc .u64 (c*4294967296)+a,.dat b'<|zo (zc .u64<|zc .u64 i-zc .u64 (a*v2)) h]) []):=by kernel_rfl
end T246
end
namespace T246
variable {Q:PV->Ob->Prop}
def Exact(Y u w q:Int):Prop:=q*Y<=u*4294967296+w/\u*4294967296+w<(q+1)*Y
theorem Vj{Y a b u w q r:Int}(c:Y=a*4294967296+b)(d:q*a+r=u)(h:q*b>4294967296*r+w):u*4294967296+w<q*Y:=by
 subst c;rw[zP, <-zr];generalize q*a=A at*;generalize q*b=C at*;omega
theorem KI{Y a b u w q r:Int}(c:Y=a*4294967296+b)(d:q*a+r=u)(h:q*b<=4294967296*r+w):q*Y<=u*4294967296+w:=by
 subst c;rw[zP, <-zr];generalize q*a=A at*;generalize q*b=C at*;omega
theorem R3{Y u w q:Int}(c:u<Y)(a:0<=Y)(d:w<4294967296)(b:4294967296<=q):u*4294967296+w<q*Y:=by
 have:=zk b a;omega
theorem RU{b c u w r:Int}{n:Nat}{Y:Int}(e:Y=b*4294967296+c)(d:0<=b)(h0:0<=c/\c<4294967296)(j:u<Y)(i:0<=w)(f:(n:Int)*b+r=u)(g:4294967296<=r):(n:Int)*Y<=u*4294967296+w:=by
 have k:(n:Int)<4294967296:=by
  rcases zz (n:Int) 4294967296 with h|h
  ·exact h
  ·have:=zk h d;omega
 refine KI e f ?_;have a:=zk (show(n:Int)<=4294967295 by omega) h0.1;omega
theorem An(Y s f g u w z:Int)(v:Y=f*4294967296+g)(I:0<f/\f<4294967296)(h0:0<=g/\g<4294967296)(B:u<Y)(y:0<=w/\w<4294967296)
  (t:∀q:Int,0<=q->Exact Y u w q->Ends Zb (L2 Y s f g z q (zc zd<|zc zd (zc zd (zc zd (u*(4294967296:Int))+w)-zc zd (q*Y))-zc zd (zc zd (yg (zc zd<|zc zd (zc zd (u*(4294967296:Int))+w)-zc zd (q*Y)) f)*f)) (zc zd<|zc zd (zc zd (u*(4294967296:Int))+w)-zc zd (q*Y))<|zc zd<|yg (zc zd<|zc zd (zc zd (u*(4294967296:Int))+w)-zc zd (q*Y)) f) Q):
  ∀(n:Nat) (r:Int),(n:Int)<18446744073709551616->(n:Int)*f+r=u->0<=r->r<4294967296->u*4294967296+w<((n:Int)+1)*Y->Ends Zb (L1 Y s f g u w z n r) Q:=by
 intro n;induction n with
 |zero=>
  intro r G p C H i;have k:decide (f≠0)=true:=w4 (by omega);refine z7 (Al ..) (zZ (by simp)<|zZ (w8 ?_)<|ze k<|t _ (by omega) ⟨?_,i⟩)
  ·rw[show((0:Nat):Int)*g=0 by simp,wu 0 (by omega) (by omega),wu (4294967296*r) (by omega) (by omega),wu _ (by omega)<|by omega];omega
  ·exact KI v p (by rw[show((0:Nat):Int)*g=0 by simp];omega)
 |succ n E=>
  intro r G p C H i;have k:decide (f≠0)=true:=w4 (by omega);have D:zc .u64 (((n+1:Nat):Int)-1)=(n:Int):=by rw[wu _ (by omega)<|by omega];omega
  have F:zc .u64 (r+f)=r+f:=wu _ (by omega) (by omega);have x:0<=Y:=by omega
  have l:(n:Int)*f+(r+f)=u:=by
   rw[show((n+1:Nat):Int)=(n:Int)+1 by omega,zK,z6]at p;omega
  have A:((n+1:Nat):Int)=(n:Int)+1:=by omega
  have m:u*4294967296+w<((n:Int)+1)*Y->r+f<4294967296->Ends Zb (L1 Y s f g u w z n<|r+f) Q:=fun h j=>
   E (r+f) (by omega) l (by omega) j h
  have cut:u*4294967296+w<((n:Int)+1)*Y->4294967296<=r+f->Exact Y u w n:=fun h j=>
   ⟨RU v (by omega) h0 B y.1 l j,h⟩
  refine z7 (Al ..) ?_;conv=>zeta
  rw[D,F];refine zl (fun c=>?_)<|fun c=>zl (fun d=>?_)<|fun d=>?_
  ·have c:=w6 c;have o:u*4294967296+w<((n:Int)+1)*Y:=by rw[<-A];exact R3 B x y.2 c
   exact zl (fun e=>ze k<|t _ (by omega)<|cut o<|w6 e) (fun e=>m o (by have:=w7 e;omega))
  ·have c:=w7 c;have d:=w6 d;have a:=zk (show((n+1:Nat):Int)<=4294967295 by omega) h0.1;have b:=zt (show 0<=((n+1:Nat):Int)by omega) h0.1;rw[wu (((n+1:Nat):Int)*g) (by omega) (by omega),wu (4294967296*r) (by omega) (by omega),wu _ (by omega)<|by omega]at d;have o:u*4294967296+w<((n:Int)+1)*Y:=by rw[<-A];exact Vj v p d
   exact zl (fun e=>ze k<|t _ (by omega)<|cut o<|w6 e) (fun e=>m o (by have:=w7 e;omega))
  ·have c:=w7 c;have d:=w7 d;have a:=zk (show((n+1:Nat):Int)<=4294967295 by omega) h0.1;have b:=zt (show 0<=((n+1:Nat):Int)by omega) h0.1;rw[wu (((n+1:Nat):Int)*g) (by omega) (by omega),wu (4294967296*r) (by omega) (by omega),wu _ (by omega)<|by omega]at d;exact ze k (t _ (by omega) ⟨KI v p (by omega),i⟩)
theorem AV(Y s f g u w p:Int)(v:Y=f*4294967296+g)(J:0<f/\f<4294967296)(h0:0<=g/\g<4294967296)(C:u<Y)(B:0<=w/\w<4294967296)(z:0<=s)
  (x:∀q:Int,0<=q->Exact Y u w q->∀ob,Q (PV.tup [PV.dat (zh zd)<|zc zd<|zc zd (p*(4294967296:Int))+q,PV.dat (zh zd)<|zo (zc zd<|zc zd (zc zd (u*(4294967296:Int))+w)-zc zd (q*Y))<|(2:Int)^y7 (qh s) (64:Nat)]) ob):
  ∀(n:Nat) (r:Int),(n:Int)<18446744073709551616->(n:Int)*f+r=u->0<=r->r<4294967296->u*4294967296+w<((n:Int)+1)*Y->Ends Zb (L2 Y s f g w p r u n) Q:=by
 intro n;induction n with
 |zero=>
  intro r E l F I j;have k:decide (0<=s)=true:=w4 z;refine z7 (AK ..) (zZ (by simp) (zZ (w8 ?_)<|ze k<|zi<|x _ (by omega) ⟨?_,j⟩ _))
  ·rw[show((0:Nat):Int)*g=0 by simp,wu 0 (by omega) (by omega),wu (4294967296*r) (by omega) (by omega),wu _ (by omega)<|by omega];omega
  ·exact KI v l (by rw[show((0:Nat):Int)*g=0 by simp];omega)
 |succ n H=>
  intro r E l F I j;have k:decide (0<=s)=true:=w4 z;have G:zc .u64 (((n+1:Nat):Int)-1)=(n:Int):=by rw[wu _ (by omega)<|by omega];omega
  have D:zc .u64 (r+f)=r+f:=wu _ (by omega) (by omega);have y:0<=Y:=by omega
  have m:(n:Int)*f+(r+f)=u:=by
   rw[show((n+1:Nat):Int)=(n:Int)+1 by omega,zK,z6]at l;omega
  have A:((n+1:Nat):Int)=(n:Int)+1:=by omega
  have o:u*4294967296+w<((n:Int)+1)*Y->r+f<4294967296->Ends Zb (L2 Y s f g w p (r+f) u n) Q:=fun i h=>
   H (r+f) (by omega) m (by omega) h i
  have cut:u*4294967296+w<((n:Int)+1)*Y->4294967296<=r+f->Exact Y u w n:=fun i h=>
   ⟨RU v (by omega) h0 C B.1 m h,i⟩
  refine z7 (AK ..) ?_;conv=>zeta
  rw[G,D];refine zl (fun c=>?_)<|fun c=>zl (fun d=>?_)<|fun d=>?_
  ·have c:=w6 c;have t:u*4294967296+w<((n:Int)+1)*Y:=by rw[<-A];exact R3 C y B.2 c
   exact zl (fun e=>ze k<|zi<|x _ (by omega) (cut t<|w6 e) _) (fun e=>o t (by have:=w7 e;omega))
  ·have c:=w7 c;have d:=w6 d;have a:=zk (show((n+1:Nat):Int)<=4294967295 by omega) h0.1;have b:=zt (show 0<=((n+1:Nat):Int)by omega) h0.1;rw[wu (((n+1:Nat):Int)*g) (by omega) (by omega),wu (4294967296*r) (by omega) (by omega),wu _ (by omega)<|by omega]at d;have t:u*4294967296+w<((n:Int)+1)*Y:=by rw[<-A];exact Vj v l d
   exact zl (fun e=>ze k<|zi<|x _ (by omega) (cut t<|w6 e) _) (fun e=>o t (by have:=w7 e;omega))
  ·have c:=w7 c;have d:=w7 d;have a:=zk (show((n+1:Nat):Int)<=4294967295 by omega) h0.1;have b:=zt (show 0<=((n+1:Nat):Int)by omega) h0.1;rw[wu (((n+1:Nat):Int)*g) (by omega) (by omega),wu (4294967296*r) (by omega) (by omega),wu _ (by omega)<|by omega]at d;exact ze k (zi<|x _ (by omega) ⟨KI v l (by omega),j⟩ _)
end T246
theorem Tc{y:Int}(e:0<y)(g:y<18446744073709551616):∃s:Nat,Sp.lz y=(s:Int)/\s<=63/\y*2^s<18446744073709551616/\9223372036854775808<=y*2^s:=by
 obtain⟨n,rfl⟩:=zj<|zY e;have c:n≠0:=by omega
 have h:n.log2<64:=(Nat.log2_lt c).2 (by omega);have a:=Nat.log2_self_le c;have b:=Nat.lt_log2_self (n:=n);have f:2^n.log2*2^(63-n.log2)=2^63:=by rw[<-qg];congr 1;omega
 have d:2^(n.log2+1)*2^(63-n.log2)=2^64:=by rw[<-qg];congr 1;omega
 have j:2^63<=n*2^(63-n.log2):=by rw[<-f];exact Nat.mul_le_mul_right _ a
 have i:n*2^(63-n.log2)<2^64:=by rw[<-d];exact Nat.mul_lt_mul_of_pos_right b<|qd _
 refine⟨63-n.log2,?_,by omega,?_,?_⟩
 ·unfold Sp.lz Sp.FQ;rw[wc (by omega),zm];omega
 ·have:((n*2^(63-n.log2):Nat):Int)<18446744073709551616:=by omega
  rw[ye,z8]at this;exact this
 ·have:(9223372036854775808:Int)<=((n*2^(63-n.log2):Nat):Int):=by omega
  rw[ye,z8]at this;exact this
theorem VB{a b:Int}{s:Nat}(c:0<=a)(i:0<=b)(h:b<2^s)(f:a*2^s+b<18446744073709551616):Yj .u64 (a*2^s) b=a*2^s+b:=by
 obtain⟨m,rfl⟩:=zj c;obtain⟨k,rfl⟩:=zj i;have d:((m:Int)*2^s)=((m*2^s:Nat):Int):=by rw[ye,z8];rfl
 have g:k<2^s:=by
  have e:((2:Int)^s)=((2^s:Nat):Int):=by rw[z8];rfl
  rw[e]at h;omega
 rw[d]at f ⊢;have e:(zR 64 ((m*2^s:Nat):Int)|||zR 64 (k:Int)).toNat=m*2^s+k:=by
  rw[BitVec.toNat_or,yj,yj,yo,yo,yw (by omega),yw (by omega),Nat.mul_comm m,Nat.two_pow_add_eq_or_of_lt g]
 show zc .u64 (((zR 64 ((m*2^s:Nat):Int)|||zR 64 (k:Int)).toNat:Nat):Int)=_;rw[e,aZ _<|by omega];omega
namespace T246
theorem start{u c d Y w:Int}(j:Y=c*4294967296+d)(i:0<c/\c<4294967296)(h0:0<=d)(e:0<=u/\u<18446744073709551616)(k:w<4294967296):
  ∃(n:Nat) (r:Int),zc .u64 (yg u c)=(n:Int)/\zc .u64 (u-zc .u64 ((n:Int)*c))=r/\(n:Int)<18446744073709551616/\(n:Int)*c+r=u/\0<=r/\r<4294967296/\u*4294967296+w<((n:Int)+1)*Y:=by
 have q0:0<=u/c:=qe e.1 (by omega);have q1:u/c<=u:=Int.ediv_le_self _ e.1;have f:=Int.mul_ediv_add_emod u c;have h:=Int.emod_nonneg u (show c≠0 by omega);have m:=Int.emod_lt_of_pos u i.1;rw[zN]at f;obtain⟨n,g⟩:=zj q0;have l:0<=(n:Int)*c:=zt (by omega) (by omega);rw[g]at f;refine⟨n,u % c,?_,?_,by omega,f,h,by omega,?_⟩
 ·rw[yt e.1,g,wu _ (by omega)<|by omega]
 ·rw[wu ((n:Int)*c) (by omega) (by omega),wu _ (by omega)<|by omega];omega
 ·subst j;have a:((n:Int)+1)*(c*4294967296+d)=((n:Int)*c+c)*4294967296+((n:Int)+1)*d:=by
   rw[zP, <-zr,zK,z6]
  have b:0<=((n:Int)+1)*d:=zt (by omega) h0;rw[a];omega
theorem Qg{u w q Y:Int}(c:Exact Y u w q)(d:Y<18446744073709551616):zc .u64 (zc .u64 (zc .u64 (u*(4294967296:Int))+w)-zc .u64 (q*Y))=u*4294967296+w-q*Y:=by
 obtain⟨a,b⟩:=c;rw[zK,z6]at b;rw[JT,JT,JT,JT];generalize q*Y=A at*;omega
theorem kH(h:Ag Bm 247 uS):D3 Zb:=Ac h AP
set_option maxHeartbeats 1000000 in
theorem ok(P:Ag Bm 247 uS):Ag Bm 246 RA:=by
 refine LD (X:=Zb) rfl (kH P) (d:=9) (by kernel_rfl) (by kernel_rfl) (by kernel_rfl) (fun(i:Int×Int×Int) E=>?_) (BI<|by kernel_rfl);obtain⟨e,lo,y⟩:=i;have E:(zp e&&zp lo&&zp y&&decide (e<y))=true:=E;rw[zf,zf,zf,w5]at E;obtain⟨⟨⟨o,f⟩,A⟩,h4⟩:=E;have uy:=A;have o:=Sp.AX o;have f:=Sp.AX f;have A:=Sp.AX A;have hg:∀q r ob,q=Sp.dq e lo y->r=Sp.dr e lo y->Ad RA (e,lo,y) (PV.tup [PV.dat (zh zd) q,PV.dat (zh zd) r]) ob:=fun q r ob W L=>zy rfl rfl (Prod.ext W L)
 refine zW (Ap e lo y) (zZ (by simp;omega)<|zZ (w8<|by omega)<|zl (fun c=>?_)<|fun c=>?_)
 ·have c:e=0:=by simpa using c
  subst c;have q0:0<=lo/y:=qe f.1 (by omega);have q1:lo/y<=lo:=Int.ediv_le_self _ f.1;refine ze (w4<|by omega) (ze (w4<|by omega)<|zi<|hg _ _ _ ?_ ?_)
  ·unfold Sp.dq;rw[yt f.1,wu _ (by omega) (by omega),Int.zero_mul,y8]
  ·unfold Sp.dr;rw[Int.tmod_eq_emod_of_nonneg f.1,Int.zero_mul,y8]
 ·have c:e≠0:=by simpa using c
  obtain⟨s,hs,hs63,N,Z⟩:=Tc (y:=y) (by omega) A.2;have es:zc .u64 (s:Int)=(s:Int):=aZ s (by omega);have em:y7 s 64=s:=by omega
  have F:zc .u64 ((64:Int)-(s:Int))=((64-s:Nat):Int):=by rw[wu _ (by omega)<|by omega];omega
  have em2:y7 (64-s) 64=64-s:=by omega
  have g:(2:Int)^s*2^(64-s)=18446744073709551616:=by rw[<-Int.pow_add,show s+(64-s)=64 by omega];rfl
  have h:(0:Int)<2^s:=Int.pow_pos (by decide);have hR:(0:Int)<2^(64-s):=Int.pow_pos (by decide);have a0:0<=lo/2^(64-s):=qe f.1 (by omega);have led:=Int.mul_ediv_add_emod lo<|2^(64-s);have c0:=Int.emod_nonneg lo (show(2:Int)^(64-s)≠0 by omega);have c1:=Int.emod_lt_of_pos lo hR;have aP:lo/2^(64-s)<2^s:=Int.ediv_lt_of_lt_mul hR (by rw[g];exact f.2);have hiP:e*2^s+2^s<=y*2^s:=by
   have:=zk (show e+1<=y by omega)<|zY h;rw[zK,z6]at this;exact this
  have hi0:0<=e*2^s:=zt o.1<|zY h;have efd:zo lo ((2:Int)^(64-s))=lo/2^(64-s):=zV _ (by omega);have H:Yj .u64 (e*2^s) (lo/2^(64-s))=e*2^s+lo/2^(64-s):=VB o.1 a0 aP (by omega);have R:0<=(lo % 2^(64-s))*2^s:=zt c0<|zY h;have S:(lo % 2^(64-s))*2^s<18446744073709551616:=by
   have:=Int.mul_lt_mul_of_pos_right c1 h;rw[zN<|2^(64-s),g]at this;exact this
  have j:lo*2^s=(lo/2^(64-s))*18446744073709551616+(lo % 2^(64-s))*2^s:=by
   conv=>lhs;rw[<-led]
   rw[zK, <-g,zN (2^(64-s))<|lo/2^(64-s),zr,zN (2^(64-s))<|2^s]
  have J:zc .u64 (lo*2^s)=(lo % 2^(64-s))*2^s:=by rw[j,JT];omega
  have hN:(e*2^s+lo/2^(64-s))*18446744073709551616+(lo % 2^(64-s))*2^s=(e*18446744073709551616+lo)*2^s:=by
   rw[zK (e*18446744073709551616) lo<|2^s,j,zr e 18446744073709551616<|2^s,zN 18446744073709551616<|(2:Int)^s, <-zr];omega
  have V:zc .u64 (y*2^s)=y*2^s:=wu _ (by omega) (by omega);have G:zc .u64 (e*2^s)=e*2^s:=wu _ hi0 (by omega);have z0:decide ((0:Int)<=(s:Int))=true:=w4 (by omega);have fin:∀q:Int,q*(y*2^s)<=(e*18446744073709551616+lo)*2^s->(e*18446744073709551616+lo)*2^s<(q+1)*(y*2^s)->q=Sp.dq e lo y/\zo ((e*18446744073709551616+lo)*2^s-q*(y*2^s)) (2^s)=Sp.dr e lo y:=by
   intro q v D;unfold Sp.dq Sp.dr;generalize e*18446744073709551616+lo=M at*;rw[<-zr]at v D;have g1:q*y<=M:=Int.le_of_mul_le_mul_right v h;have g2:M<(q+1)*y:=Int.lt_of_mul_lt_mul_right D<|zY h;rw[zK,z6]at g2;obtain⟨u1,u2⟩:=(Int.ediv_emod_unique (a:=M) (b:=y) (r:=M-q*y) (q:=q)<|by omega).2 ⟨by rw[zN y q];omega,by omega,by omega⟩;refine⟨u1.symm,?_⟩;rw[u2, <-zr, <-Int.sub_mul,zV _<|zY h];exact Int.mul_ediv_cancel _ (by omega)
  obtain⟨Y,eY⟩:=zj (show 0<=y*2^s by omega);obtain⟨C,eC⟩:=zj R;have hU0:0<=e*2^s+lo/2^(64-s):=by omega
  have k:e*2^s+lo/2^(64-s)<y*2^s:=by omega
  rw[hs,es,F,zm,zm,em,em2,V,G,efd,H,J];rw[eC]at hN S ⊢;rw[eY]at N Z k fin ⊢;generalize hU:e*2^s+lo/2^(64-s)=U at*;generalize hM:(e*18446744073709551616+lo)*2^s=M at*;rw[Xj,Xj,OZ Y (by omega),OZ C<|by omega];have x:(Y:Int)=((Y/4294967296:Nat):Int)*4294967296+((Y % 4294967296:Nat):Int):=by omega
  have l:0<((Y/4294967296:Nat):Int)/\((Y/4294967296:Nat):Int)<4294967296:=by omega
  have B:0<=((Y % 4294967296:Nat):Int)/\((Y % 4294967296:Nat):Int)<4294967296:=by omega
  have w1:0<=((C/4294967296:Nat):Int)/\((C/4294967296:Nat):Int)<4294967296:=by omega
  have w0:0<=((C % 4294967296:Nat):Int)/\((C % 4294967296:Nat):Int)<4294967296:=by omega
  have hC:(C:Int)=((C/4294967296:Nat):Int)*4294967296+((C % 4294967296:Nat):Int):=by omega
  generalize ((Y/4294967296:Nat):Int)=y1 at*;generalize ((Y % 4294967296:Nat):Int)=y0 at*;generalize ((C/4294967296:Nat):Int)=w at*;generalize ((C % 4294967296:Nat):Int)=z at*;refine ze uy (ze z0<|ze rfl (ze z0<|ze (w4<|by omega)<|ze z0<|ze rfl (ze (w4<|by omega) ?_)));obtain⟨n,r,W,L,n1,n2,n3,n4,n5⟩:=start (u:=U) (w:=w) x l B.1 (by omega) w1.2;rw[W,L];refine An (Y:Int) s y1 y0 U w z x l B k w1 (fun p p0 I=>?_) n r n1 n2 n3 n4 n5;have er:=Qg I (by omega);rw[er];have hp1:=I.1;have T:=I.2;rw[zK,z6]at T;obtain⟨m,t,k1,k2,m1,m2,m3,m4,m5⟩:=start (u:=U*4294967296+w-p*Y) (w:=z) x l B.1 (by omega) w0.2;rw[k1,k2];refine AV (Y:Int) s y1 y0 _ z p x l B (by omega) w0 (by omega) (fun q q0 hq ob=>?_) m t m1 m2 m3 m4 m5;rw[Qg hq (by omega),zm,em];obtain⟨hq1,hq2⟩:=hq;have O:(p*4294967296+q)*(Y:Int)=p*Y*4294967296+q*Y:=by
   rw[zK,zr,zN 4294967296 (Y:Int), <-zr]
  have K:(p*4294967296+q+1)*(Y:Int)=p*Y*4294967296+q*Y+Y:=by
   rw[zK,O,z6]
  rw[zK,z6]at hq2;obtain⟨v,D⟩:=fin (p*4294967296+q) (by rw[O];omega) (by rw[K];omega);refine hg _ _ _ ?_ ?_
  ·have hb:Sp.dq e lo y<18446744073709551616:=by
    unfold Sp.dq;refine Int.ediv_lt_of_lt_mul (by omega) ?_;have:=zQ (show e+1<=y by omega) (show(0:Int)<=18446744073709551616 by decide);omega
   rw[<-v]at hb ⊢;rw[JT,JT];omega
  ·rw[<-D,O];congr 1;omega
end T246
open Sp
theorem Zw(x k:Nat)(h:2^k<=x):x.log2=k+(x/2^k).log2:=by
 have d:=qd k;have f:x/2^k≠0:=by
  have:=Nat.div_pos h d;omega
 have e:x≠0:=by omega
 refine(Nat.log2_eq_iff e).2 ⟨?_,?_⟩
 ·rw[qg];exact Nat.le_trans (Nat.mul_le_mul_left _<|Nat.log2_self_le f)<|Nat.mul_div_le x<|2^k
 ·rw[Nat.add_assoc,qg];have a:x/2^k+1<=2^((x/2^k).log2+1):=Nat.lt_log2_self;have b:=Nat.mul_le_mul_left (2^k) a;have c:=Nat.lt_mul_div_succ x d;exact Nat.lt_of_lt_of_le c b
theorem Oi(x k:Nat)(h:2^k<=x):FQ (x:Int)=(k:Int)+FQ ((x/2^k:Nat):Int):=by
 have a:=qd k;have b:=Nat.div_pos h a;have e:=Zw x k h;unfold FQ;rw[wc (by omega),wc (by omega),zm,zm,e];omega
theorem qT(n k:Nat):zo (n:Int) ((2:Int)^k)=((n/2^k:Nat):Int):=by
 have:(0:Int)<2^k:=Int.pow_pos (by decide);rw[zV _ (by omega),Int.natCast_ediv,z8];rfl
def oU:Z:=[(0:UInt8),1,2,2,3,3,3,3,4,4,4,4,4,4,4,4,5,5,5,5,5,5,5,5,5,5,5,5,5,5,5,5,6,6,6,6,6,6,6,6,6,6,6,6,6,6,6,6,6,6,6,6,6,6,6,6,6,6,6,6,6,6,6,6,7,7,7,7,7,7,7,7,7,7,7,7,7,7,7,7,7,7,7,7,7,7,7,7,7,7,7,7,7,7,7,7,7,7,7,7,7,7,7,7,7,7,7,7,7,7,7,7,7,7,7,7,7,7,7,7,7,7,7,7,7,7,7,7,8,8,8,8,8,8,8,8,8,8,8,8,8,8,8,8,8,8,8,8,8,8,8,8,8,8,8,8,8,8,8,8,8,8,8,8,8,8,8,8,8,8,8,8,8,8,8,8,8,8,8,8,8,8,8,8,8,8,8,8,8,8,8,8,8,8,8,8,8,8,8,8,8,8,8,8,8,8,8,8,8,8,8,8,8,8,8,8,8,8,8,8,8,8,8,8,8,8,8,8,8,8,8,8,8,8,8,8,8,8,8,8,8,8,8,8,8,8,8,8,8,8,8,8,8,8,8,8]
theorem Wx:∀m:Fin 256,((zT (oU.getD m.val 0):Nat):Int)=FQ (m.val:Int)/\zc .u8 (m.val:Int)=(m.val:Int)/\FQ (m.val:Int)<=8/\0<=FQ (m.val:Int):=by decide+kernel
theorem LK{b:Int}(a z x:Nat)(g:b=a)(j:a<=64)(i:z<256)(h:FQ (x:Int)=(a:Int)+FQ (z:Int)):zc .i64 (b+zc .i64 ((zT (oU.getD (qh<|zc .u8 (z:Int)) 0):Nat):Int))=FQ x:=by
 obtain⟨d,c,f,e⟩:=Wx ⟨z,i⟩;have d:((zT (oU.getD z 0):Nat):Int)=FQ (z:Int):=d;have c:zc .u8 (z:Int)=(z:Int):=c;have f:FQ (z:Int)<=8:=f;have e:0<=FQ (z:Int):=e;rw[c,zm,d,g,h,wr (FQ (z:Int)) (by omega) (by omega),wr _ (by omega)<|by omega]
theorem mE(z:Nat)(b:z<256):(decide ((0:Sh.T (zh qi))<=zc qi (z:Int))&&decide (zc qi (z:Int)<(↑(256:Nat):Int)))=true:=by
 obtain⟨_,a,_,_⟩:=Wx ⟨z,b⟩;have a:zc .u8 (z:Int)=(z:Int):=a;rw[a];exact Aa (w4<|show(0:Int)<=(z:Int)by omega) (w4 (by omega))
namespace T228
set_option maxHeartbeats 1000000 in
set_option maxRecDepth 100000 in
theorem ok:Ag Bm 228 YV:=by
 refine Cj II<|fun(x:Int) e=>?_;have e:=Sp.AX (n:=x) e;obtain⟨x,rfl⟩:=zj e.1;refine zW (Ap (x:Int)) ?_;conv=>zeta
 conv=>zeta
 rw[qT x 32,qT x 16,qT x 8,qT (x/2^32) 16,qT (x/2^32) 8,qT (x/2^32/2^16) 8,qT (x/2^16) 8];have i:=Oi x 32;have j:=Oi x 16;have k:=Oi x 8;have f:=Oi (x/2^32) 16;have g:=Oi (x/2^32) 8;have d:=Oi (x/2^32/2^16) 8;have h:=Oi (x/2^16) 8;refine zl (fun c=>ze rfl (zl (fun b=>ze rfl (zl (fun a=>ze rfl (ze (mE _ ?_)<|zi<|zy rfl rfl (LK 56 _ x (by decide+kernel) (by decide) ?_ ?_)))<|fun a=>ze (mE _ ?_)<|zi<|zy rfl rfl (LK 48 _ x (by decide+kernel) (by decide) ?_ ?_)))<|fun b=>zl (fun a=>ze rfl (ze (mE _ ?_)<|zi<|zy rfl rfl (LK 40 _ x (by decide+kernel) (by decide) ?_ ?_)))<|fun a=>ze (mE _ ?_)<|zi<|zy rfl rfl (LK 32 _ x rfl (by decide) ?_ ?_))) (fun c=>zl (fun b=>ze rfl (zl (fun a=>ze rfl (ze (mE _ ?_)<|zi<|zy rfl rfl (LK 24 _ x (by decide+kernel) (by decide) ?_ ?_)))<|fun a=>ze (mE _ ?_)<|zi<|zy rfl rfl (LK 16 _ x (by decide+kernel) (by decide) ?_ ?_)))<|fun b=>zl (fun a=>ze rfl (ze (mE _ ?_)<|zi<|zy rfl rfl (LK 8 _ x (by decide+kernel) (by decide) ?_ ?_)))<|fun a=>ze (mE _ ?_)<|zi<|zy rfl rfl (LK 0 _ x rfl (by decide) ?_ ?_));all_goals
  first
   |replace c:=w6 c
   |replace c:=w7 c
  first
   |replace b:=w6 b
   |replace b:=w7 b
  first
   |replace a:=w6 a
   |replace a:=w7 a
  omega
end T228
theorem kJ:D3 xU:=Ac T228.ok AP
theorem gA{n:Int}(a:0<=n)(b:n<18446744073709551616):0<=Sp.FQ n/\Sp.FQ n<=64:=by
 unfold Sp.FQ;split
 ·omega
 ·have:n.toNat.log2<64:=(Nat.log2_lt<|by omega).2 (by omega);omega
namespace T247
theorem ok:Ag Bm 247 uS:=by
 refine Cj kJ<|fun(x:Int) hx=>?_;have h:=Sp.AX (n:=x) hx;have a:=gA h.1 h.2;refine zW (Ap x)<|ze hx<|zi<|zy rfl rfl ?_;show zc .i64 (64-Sp.FQ x)=Sp.lz x;unfold Sp.lz;exact wr _ (by omega) (by omega)
end T247
theorem Zv:Ag Bm 246 RA:=T246.ok T247.ok
end Go.Pe
namespace Go.Sp
def jG(a b:List Int):Bool:=B3 a&&B3 b&&decide (a.length<=9000)&&decide (b.length<=9000)&&decide (0<Ao b)
end Go.Sp
namespace Go.Pe
open Sp
open Go.Det
def Hb:Au:=⟨[CZ,CZ],fun i=>jG i.1 i.2,[CZ,CZ],fun i=>(BS<|Ao i.1/Ao i.2,BS<|Ao i.1 % Ao i.2),false⟩
def IY:AW:=X7 [(187,WI),(209,Ub),(177,Rr),(208,U5),(217,UY),(246,RA),(247,uS)]
end Go.Pe
namespace Go.Sp
def G4(c:UInt8):Int:=(c.toNat:Int)-48
def BH(c:UInt8):Bool:=decide (48<=c.toNat)&&decide (c.toNat<=57)
def AA(n:Int):Z->Int
 |[]=>n
 |c::r=>AA (10*n+G4 c) r
def Ai(s:Z):Bool:=s.all BH
theorem CE:∀(n:Int) (a b:Z),AA n (a++b)=AA (AA n a) b
 |_,[],_=>rfl
 |n,c::a,b=>by rw[yx,AA,AA,CE]
theorem Ef:∀(s:Z) (n:Int),AA n s=n*10^s.length+AA 0 s
 |[],n=>by simp[AA]
 |c::s,n=>by
  rw[AA,AA,Ef s<|10*n+G4 c,Ef s<|10*0+G4 c,List.length_cons,yn,zK,yz,y8,zN 10 n,zr,zN 10<|10^s.length,yv]
theorem CL{c:UInt8}(h:BH c=true):0<=G4 c/\G4 c<=9:=by
 unfold BH at h;rw[zf,w5,w5]at h;unfold G4;omega
theorem A6:∀ {s:Z},Ai s=true->0<=AA 0 s/\AA 0 s<10^s.length
 |[],_=>by simp[AA]
 |c::s,h=>by
  unfold Ai at h;rw[List.all_cons,zf]at h;have a:=CL h.1;have b:=A6 (s:=s) h.2;have d:=AN (show(0:Int)<10 by decide) s.length;have f:=zt a.1<|zY d;have e:=zk a.2<|zY d;rw[AA,Ef,List.length_cons,yn,yz,y8,zN (10^s.length) 10];omega
theorem A8{s:Z}(h:Ai s=true)(i:Nat):Ai (s.take i)=true:=by
 unfold Ai at h ⊢;rw[yi]at h ⊢;exact fun x a=>h x<|List.mem_of_mem_take a
theorem BO{s:Z}(h:Ai s=true)(i:Nat):Ai (s.drop i)=true:=by
 unfold Ai at h ⊢;rw[yi]at h ⊢;exact fun x a=>h x<|List.mem_of_mem_drop a
def AQ(s:Z):Bool:=decide (s≠[])&&Ai s&&(decide (s.getD 0 0≠48)||decide (s=[48]))
def NW(a b:Br):Br:=if vI a<0/\Af (vI a) % vI b≠0 then Mg (CI<| -(Af (vI a)/vI b)) (1,[])else CI<|sg (decide (vI a<0))<|Af (vI a)/vI b
def sR(a b:Br):Int:=(NW a b).1
def uK(a b:Br):List Int:=(NW a b).2
def dP(a b:Br):Int:=Cv<|vI a % vI b
def Y9(a b:Br):List Int:=Ct<|vI a % vI b
def gI(a b:Int):Int:=if a<0 then -(-(Int.gcd a b:Int))else(Int.gcd a b:Int)
theorem HU(a b:Int):gI a b=(Int.gcd a b:Int):=by unfold gI;split<;>omega
def SQ(a b:Br):Int:=Cv<|gI (vI a)<|vI b
def RW(a b:Br):List Int:=Ct<|gI (vI a)<|vI b
def pI(a k:Int):Int:=if k<0 then -(-(a^k.toNat))else a^k.toNat
theorem QY(a k:Int):pI a k=a^k.toNat:=by unfold pI;split<;>omega
def eB(a k:Int):Bool:=decide (0<=k)&&decide (k<=100000)&&decide (Af (pI a k)<(18446744073709551616:Int)^(4000:Nat))
def Tq(a:Br)(k:Int):Int:=Cv<|pI (vI a) k
def Tm(a:Br)(k:Int):List Int:=Ct<|pI (vI a) k
def C5(n:Int):List Int:=if n<0 then[]else[]
theorem DY(n:Int):C5 n=[]:=by unfold C5;split<;>rfl
def Cb(s:Z):Int:=if s.getD 0 0=45 then -AA 0 (s.drop 1)else AA 0 s
def D2(s:Z):Bool:=decide (s.length<=5999)&&(if s.getD 0 0=45 then Ai (s.drop 1)else Ai s)
def CU(s:Z):Int:=Cv<|Cb s
def C0(s:Z):List Int:=Ct<|Cb s
end Go.Sp
namespace Go.Pe
open Sp
open Go.Det
def Gi:Au:=⟨[B8,B8],fun i=>BV i.1&&BV i.2&&decide (0<zg i.2),[B8,B8],fun i=>((sR i.1 i.2,uK i.1 i.2),(dP i.1 i.2,Y9 i.1 i.2)),false⟩
def Yu:Au:=⟨[B8,B8],fun i=>BV i.1&&BV i.2,[B8],fun i=>(SQ i.1 i.2,RW i.1 i.2),false⟩
def aN:Au:=⟨[B8,i64],fun i=>BV i.1&&eB (zg i.1) i.2,[B8],fun i=>(Tq i.1 i.2,Tm i.1 i.2),false⟩
def M5:Au:=⟨[.str],fun s=>D2 s,[B8],fun s=>(CU s,C0 s),false⟩
def Xb:Au:=⟨[i64],fun _=>true,[B8],fun n=>(n,C5 n),false⟩
def rT:AW:=mB [(190,[9,10])] [] [(190,[(9,[3,4,5,8,12,13]),(10,[3,4,5,14,15])])] [(106,Xb),(212,Hb),(179,TZ),(180,YO),(160,aF),(139,Qe),(161,Ll)]
def xY:AW:=X7 []
def tU:AW:=X7 [(190,Gi),(202,lY),(161,Ll)]
def rM:AW:=X7 [(106,Xb),(127,Tg)]
end Go.Pe
namespace Go.Sp
abbrev B9:Nat:=1000000000
def I7(l:List Int):Bool:=decide (l.length<=20000)&&l.all fun d=>decide (0<=d)&&decide (d<1000000000)
def hR(l:List Int):Bool:=I7 l&&decide (l.length<=9000)
def AZ(l:List Int):Bool:=I7 l&&nF l
def Ar(l:List Int):Int:=val B9 l
def BL(n:Int):List Int:=dg B9 n
def rN(n:Int):Bool:=decide (n<0)
def rW(n:Int):List Int:=BL<|Af n
def B5(neg:Bool)(w:List Int):Bool:=neg&&decide (At w≠[])
def Dz(s:Z):Bool:=decide (s.length<=18)&&Ai s
def Bq(s:Z):Int:=AA 0 s
def EJ(s:Z):Bool:=rN<|Cb s
def EM(s:Z):List Int:=rW<|Cb s
def Cd(a b:List Int):List Int:=BL<|gI (Ar a)<|Ar b
end Go.Sp
namespace Go.Pe
open Sp
open Go.Det
abbrev li:Sh:=.list i64
abbrev IZ:Sh:=.pair .bool li
def QK:Au:=⟨[li],fun l=>decide (yk (α:=Int) l<=20000),[li],fun l=>At l,false⟩
def H7:Au:=⟨[.bool,li],fun i=>decide (yk (α:=Int) i.2<=20000),[IZ],fun i=>(B5 i.1 i.2,At i.2),false⟩
def WR:Au:=⟨[li,li],fun i=>AZ i.1&&AZ i.2,[i64],fun i=>BY (Ar i.1)<|Ar i.2,false⟩
def VL:Au:=⟨[li,li],fun i=>Sp.hR i.1&&Sp.hR i.2,[li],fun i=>BL<|Ar i.1*Ar i.2,false⟩
def TX:Au:=⟨[li,i64],fun i=>I7 i.1&&decide (0<(i.2:Int))&&decide ((i.2:Int)<1000000000),[li,i64],fun i=>(BL<|Ar i.1/i.2,Ar i.1 % i.2),false⟩
def P7:Au:=⟨[li,li],fun i=>AZ i.1&&AZ i.2&&decide (yk (α:=Int) i.1<=9000)&&decide (yk (α:=Int) i.2<=9000)&&decide (0<Ar i.2),[li,li],fun i=>(BL<|Ar i.1/Ar i.2,BL<|Ar i.1 % Ar i.2),false⟩
def Ku:Au:=⟨[li,li],fun i=>AZ i.1&&AZ i.2&&decide (yk (α:=Int) i.1<=9000)&&decide (yk (α:=Int) i.2<=9000),[li],fun i=>Cd i.1 i.2,false⟩
def QA:Au:=⟨[.str],fun s=>Dz s,[i64],fun s=>Bq s,false⟩
def QQ:Au:=⟨[.str],fun s=>D2 s,[IZ],fun s=>(EJ s,EM s),false⟩
def eI:AW:=X7 []
def Yk:AW:=X7 [(193,QK)]
def KW:AW:=X7 [(157,WR),(193,QK),(192,TX),(159,VL)]
def sG:AW:=X7 [(154,P7)]
def Ym:AW:=X7 [(152,QA),(155,H7)]
end Go.Pe
namespace Go.Sp
def Db:Z:=[48,49,50,51,52,53,54,55,56,57]
def VU(o:List Bool):List Bool:=(List.range 256).map fun j=>o.getD j false
def mG:List Bool:=zn 256 false
def N7(s:Z):Z:=((s.reverse.dropWhile BH).reverse).dropWhile BH
def NL(s:Z)(c:Int):Int:=match s.findIdx? (fun x=>x==c.toNat.toUInt8)with
 |some i=>(i:Int)
 |none=> -1
def Ay(s:Z):Z:=match s.findIdx? (fun x=>x==47)with
 |some i=>s.take i
 |none=>s
def AJ(s:Z):Z:=match s.findIdx? (fun x=>x==47)with
 |some i=>s.drop<|i+1
 |none=>[]
def Bh(s:Z):Bool:=s.any<|fun x=>x==47
def A3(s:Z):Z:=if s.getD 0 0=45 then s.drop 1 else s
def preB(s:Z):Bool:=decide (s.getD 0 0=45)
def mX(s t:Z):Bool:=decide (t=Db)&&decide (s.length<=1000000)
def pX(s t:Z):Bool:=decide (t=[47])&&decide (s.length<=1000000)
def Zi(s t:Z):Bool:=decide (t=[45])&&decide (s.length<=1000000)
end Go.Sp
namespace Go.Pe
open Sp
open Go.Det
def UB:Au:=⟨[.str,.str],fun i=>mX i.1 i.2,[.str],fun i=>N7 i.1,false⟩
def mI:Au:=⟨[.str,.int .u8],fun i=>decide (0<=(i.2:Int))&&decide ((i.2:Int)<256),[i64],fun i=>NL i.1 i.2,false⟩
def cZ:Au:=⟨[.str,.str],fun i=>pX i.1 i.2,[.str,.str,.bool],fun i=>(Ay i.1,Sp.AJ i.1,Bh i.1),false⟩
def mY:Au:=⟨[.str,.str],fun i=>Zi i.1 i.2,[.str,.bool],fun i=>(A3 i.1,Sp.preB i.1),false⟩
def Uh:Au:=⟨[.str],fun s=>decide (s.length<=1000000),[.bool],fun s=>AQ s,false⟩
def Mj:AW:=X7 []
def XA:AW:=X7 [(234,⟨[.str,.str],fun _=>false,[.str],fun i=>i.1,false⟩),(235,⟨[.str,.str],fun _=>false,[.str],fun i=>i.1,false⟩),(229,⟨[.str,.int .u8],fun _=>false,[.str],fun i=>i.1,false⟩),(230,⟨[.str,.int .u8],fun _=>false,[.str],fun i=>i.1,false⟩)]
def xS:AW:=X7 [(201,UB)]
def yO:AW:=X7 [(265,mI)]
def Pg:AW:=X7 [(106,Xb),(176,aN),(127,Tg),(139,Qe),(143,Vx),(240,⟨[.str,i64,i64],fun _=>false,[i64],fun _=>(0:Int),false⟩),(207,⟨[.str],fun _=>false,[i64],fun _=>(0:Int),false⟩)]
end Go.Pe
namespace Go.Sp
def Hj(a:Z):Bool:=AQ (Ay<|A3 a)&&(!preB a||decide (Ay (A3 a)≠[48]))&&(!Bh (A3 a)||(AQ (AJ<|A3 a)&&decide (AJ (A3 a)≠[48])&&decide (AJ (A3 a)≠[49])))
def qZ(a:Z):Int:=AA 0<|Ay<|A3 a
def qL(a:Z):Int:=AA 0<|AJ<|A3 a
def As(a:Z):Int:=if Hj a=false then 1 else if 600<(Ay<|A3 a).length\/600<(AJ<|A3 a).length then 4 else if Bh (A3 a)=true/\gI (qZ a) (qL a)≠1 then 1 else 0
def AT(s:Z):Int:=((Ay s).length:Int)
def FN(a:Z):Bool:=D2 (Ay a)&&D2 (AJ a)&&decide (a.length<=5999)
def A0(a:Z):Int:=Cb<|Ay a
def AE(a:Z):Int:=if Bh a=true then Cb (AJ a)else 1
def Bu(a:Z):Bool:=rN<|A0 a
def Bn(a:Z):List Int:=rW<|A0 a
def Bb(a:Z):Bool:=rN<|AE a
def A4(a:Z):List Int:=rW<|AE a
end Go.Sp
namespace Go.Pe
open Sp
open Go.Det
def Ej:Au:=⟨[.str],fun s=>decide (s.length<=1000000),[i64],fun s=>As s,false⟩
def OL:Au:=⟨[.str],fun s=>decide (s.length<=1000000),[i64],fun s=>AT s,false⟩
def V9:Au:=⟨[.str],fun s=>decide (s.length<=9223372036854775807),[i64],fun s=>AT s,false⟩
def QX:Au:=⟨[.str],fun s=>decide (s.length<=9223372036854775807),[.bool],fun s=>AQ s,false⟩
def IA:Au:=⟨[i64],fun n=>CC n,[IZ],fun n=>(Sp.rN n,Sp.rW n),false⟩
def QG:Au:=⟨[.str],fun s=>FN s,[IZ,IZ],fun s=>((Bu s,Bn s),(Bb s,A4 s)),false⟩
def KY:AW:=mB [(122,[4,6,7,9,10])] [] [(122,[(4,[5,6,7,8]),(6,[5,6,7,8]),(7,[5,6,7,9]),(9,[5,6,7]),(10,[10])])] [(168,F7),(169,HW),(166,mY),(124,cZ),(167,Uh),(170,Yu),(126,M5),(105,YX),(106,Xb)]
def mC:AW:=X7 [(155,H7)]
def yG:AW:=X7 [(128,OL),(149,QQ),(97,IA)]
def Sk:AW:=mB [(62,[4,7,9,11,13,14])] [] [(62,[(4,[0,3]),(7,[3,4]),(9,[3,4]),(11,[3,4]),(13,[5,6]),(14,[7])])] [(128,V9),(129,QX),(92,QG),(130,Ku)]
end Go.Pe
namespace Go.Sp
abbrev Cq:=(Int×List Int)×(Int×List Int)
def Pb(a:Br):Bool:=D8 a&&decide (a.2.length<=4000)
def FZ(a:Cq):Bool:=Pb a.1&&Pb a.2
def GK(a b:Cq):Int:=BY (vI a.1*vI b.2)<|vI b.1*vI a.2
def Kw(a:Z):Int:=Cv<|A0 a
def JU(a:Z):List Int:=Ct<|A0 a
def IV(a:Z):Int:=Cv<|AE a
def IU(a:Z):List Int:=Ct<|AE a
def gZ(a:Cq):Bool:=FZ a&&decide (0<vI a.2)
end Go.Sp
namespace Go.Pe
open Sp
open Go.Det
abbrev Jv:Sh:=.pair B8 B8
def SP:Au:=⟨[.str],fun s=>FN s,[Jv],fun s=>((Kw s,JU s),(IV s,IU s)),false⟩
def Vl:Au:=⟨[Jv,Jv],fun i=>Sp.FZ (i.1:Cq)&&Sp.FZ (i.2:Cq),[i64],fun i=>GK (i.1:Cq) (i.2:Cq),false⟩
def cF:Au:=⟨[i64],fun _=>true,[Jv],fun n=>(((n:Int),C5 n),((1:Int),C5 1)),false⟩
def vM:AW:=mB [(189,[3])] [] [(189,[(3,[2,3,4])])] [(161,Ll),(143,Vx),(190,Gi),(170,Yu),(106,Xb),(139,Qe),(127,Tg),(105,YX),(124,cZ),(126,M5)]
end Go.Pe
namespace Go.Sp
def UU(a:Z):Z:=if Bh a=true then AJ a else[49]
end Go.Sp
namespace Go.Pe
open Go.Det
def aO:Au:=⟨[.str],fun s=>decide (s.length<=1000000),[.str],fun s=>Sp.A3 s,false⟩
def mS:Au:=⟨[.str],fun s=>decide (s.length<=1000000),[.str],fun s=>Sp.Ay s,false⟩
def Yr:Au:=⟨[.str],fun s=>decide (s.length<=1000000),[.str],fun s=>Sp.UU s,false⟩
def vX:AW:=X7 [(128,OL)]
end Go.Pe
namespace Go.Sp
def DA(a:Z):Bool:=decide (a.length<=20)&&decide ((Ay<|A3 a).length<=9)&&decide ((AJ<|A3 a).length<=9)
def Hz(a:Z):Int:=if preB a=true then -AA 0 (Ay<|A3 a)else AA 0<|Ay<|A3 a
def Ql(a:Z):Int:=if Bh (A3 a)=true then AA 0 (AJ<|A3 a)else 1
def EP(a:Z):Int:=if a=[48]then 0 else if a.getD 0 0=45 then -1 else 1
def J4(a:Z):Z:=if a=[48]then a else if a.getD 0 0=45 then a.drop 1 else 45::a
def He:Nat->Nat->Nat->Z->Z
 |0,_,_,a=>a
 |f+1,n,l,a=>if n=0/\l<=a.length then a else He f (n/10) l (UInt8.ofNat (48+n % 10)::a)
def Hs(n l:Int):Z:=He 64 n.toNat l.toNat []
def sI(a b:Int):Bool:=decide (0<=a)&&decide (a<9223372036854775808)&&decide (0<=b)&&decide (b<9223372036854775808)
end Go.Sp
namespace Go.Pe
open Go.Det
def mK:Au:=⟨[i64,i64],fun i=>Sp.sI i.1 i.2,[i64],fun i=>Sp.gI i.1 i.2,false⟩
def NJ:Au:=⟨[.str],fun s=>decide (s.length<=1000000),[i64],fun s=>Sp.EP s,false⟩
def YZ:Au:=⟨[.str],fun s=>decide (s.length<=1000000),[.str],fun s=>Sp.J4 s,false⟩
def ON:Au:=⟨[i64,i64],fun i=>decide (0<=(i.1:Int))&&decide ((i.1:Int)<9223372036854775808)&&decide (0<=(i.2:Int))&&decide ((i.2:Int)<=20),[.str],fun i=>Sp.Hs i.1 i.2,false⟩
def Mu:AW:=mB [(91,[5,7,11,13])] [] [(91,[(5,[5,6]),(7,[5,6]),(11,[5,6,7,8,9]),(13,[6,8,9])])] [(152,QA),(128,OL)]
def xW:AW:=X7 [(38,NJ)]
end Go.Pe
