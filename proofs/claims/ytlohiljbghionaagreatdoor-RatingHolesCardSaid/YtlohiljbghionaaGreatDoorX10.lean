import Derived.Test.YtlohiljbghionaaGreatDoorX09
import Derived.Lib.Mul64
/- A part of a proof; no law is stated here. -/
noncomputable section
open Go.IntKind renaming wrap -> zc, u64 -> zd, i64 -> ym, wrap_i64 -> qg, u8 -> qt
open Go.Pe.Ends renaming tt -> ze, leaf -> zg, ite -> zk, eq -> yf, ff -> yh, Ai -> yj
open Bool renaming and_eq_true -> zf, true_and -> yb, false_eq_true -> y8, or_eq_true -> ql
open Int renaming eq_ofNat_of_zero_le -> zh, mul_le_mul_of_nonneg_right -> zi, toNat_natCast -> zl, fdiv -> zn, mul_assoc -> zp, mul_nonneg -> zq, lt_or_le -> zw, add_mul -> zx, mul_comm -> zz, mul_add -> z7, mul_le_mul_of_nonneg_left -> z8, lt_of_le_of_lt -> yd, fdiv_eq_ediv_of_nonneg -> ye, le_of_lt -> yg, one_mul -> yi, natCast_pow -> yk, natCast_mul -> yq, tdiv -> yr, natCast_add -> yx, pow_succ -> yy, tdiv_eq_ediv_of_nonneg -> y9, add_assoc -> qd, mul_zero -> qh, zero_add -> qj, ediv_nonneg -> qn, mul_sub -> qo, toNat -> qq
open Go.Pe.Sh renaming int -> zj, list -> zt
open List renaming replicate -> zm, getD_eq_getElem?_getD -> zo, take_of_length_le -> zr, getElem?_eq_getElem -> z6, take_length -> yn, drop_eq_getElem_cons -> yo, getElem?_eq_none -> yt, all_eq_true -> yu, length -> yw, append_assoc -> qc, cons_append -> qf
open Go.Pe.Ad renaming of -> zu
open Go.Sp renaming val -> zy
open BitVec renaming ofInt -> ya, ofInt_natCast -> yv, toNat_ofNat -> yz
open UInt8 renaming toNat -> yc
open Go.Pe.PV renaming agg -> yp
open Go.Lib renaming half_mul_le -> y7
open Nat renaming mod_eq_of_lt -> qe, two_pow_pos -> qm, pow_add -> qp
open Min renaming min -> qi
open List.cons renaming injEq -> qk
namespace Go.Sp
abbrev Ap:Nat:=18446744073709551616
abbrev AK:=Int×List Int
def C5(l:List Int):Bool:=decide (l.length<=20000)&&l.all fun d=>decide (0<=d)&&decide (d<18446744073709551616)
def hW(l:List Int):Bool:=C5 l&&decide (l.length<=9000)
def nzW(l:List Int):Bool:=decide (l.getLast?≠some 0)
def Cu(l:List Int):Bool:=C5 l&&nzW l
def At(l:List Int):Int:=val Ap l
def BC(n:Int):List Int:=dg Ap n
def u64(n:Int):Bool:=decide (0<=n)&&decide (n<18446744073709551616)
def Cn(n:Int):Bool:=decide (-9223372036854775808<=n)&&decide (n<9223372036854775808)
def Ah(n:Int):Int:=if n<0 then -n else n
theorem Ak(n:Int):Ah n=(n.natAbs:Int):=by unfold Ah;split<;>omega
def vI(a:AK):Int:=if a.2=[]then a.1 else if a.1<0 then -At a.2 else At a.2
def Dt(a:AK):Bool:=Cn a.1&&(decide (a.2=[])||(Cu a.2&&(decide (a.1=1)||decide (a.1= -1))&&decide (9223372036854775808<=At a.2)))
def Dd(n:Int):AK:=if -9223372036854775808<n/\n<9223372036854775808 then(n,[])else(if n<0 then -1 else 1,BC<|Ah n)
def C4(n:Int):Int:=(Dd n).1
def C3(n:Int):List Int:=(Dd n).2
def sg(neg:Bool)(v:Int):Int:=if neg=true then -v else v
def IC(x y c:Int):Int:=(x+y+c) % 18446744073709551616
def Qo(x y c:Int):Int:=(x+y+c)/18446744073709551616
def UO(x y c:Int):Int:=(x-y-c) % 18446744073709551616
def Rr(x y c:Int):Int:=if x<y+c then 1 else 0
def IJ(x y:Int):Int:=(x*y) % 18446744073709551616
def Sb(x y:Int):Int:=(x*y)/18446744073709551616
def Ck(a b:Int):Int:=if a<b then -1 else if a>b then 1 else 0
def NQ(n:Int):Int:=if n<0 then -1 else if n>0 then 1 else 0
def ES(a b:AK):AK:=if a.2=[]/\b.2=[]/\Cn (a.1+b.1)=true then(a.1+b.1,[])else Dd<|vI a+vI b
def Du(a:AK):AK:=if a.2=[]/\a.1≠ -9223372036854775808 then(-a.1,[])else Dd<| -vI a
def Wo(a:AK):AK:=if a.1<0 then Du a else a
def Oa(a b:AK):AK:=ES a<|Du b
def FN(a b:AK):AK:=Dd<|vI a*vI b
def EU(a:AK):Int:=(Du a).1
def EW(a:AK):List Int:=(Du a).2
def QN(a:AK):Int:=(Wo a).1
def P6(a:AK):List Int:=(Wo a).2
def Kl(a b:AK):Int:=(ES a b).1
def Kp(a b:AK):List Int:=(ES a b).2
def Zd(a b:AK):Int:=(Oa a b).1
def Y3(a b:AK):List Int:=(Oa a b).2
def Fq(a b:AK):Int:=(FN a b).1
def Fx(a b:AK):List Int:=(FN a b).2
end Go.Sp
variable {Q:Go.Pe.PV->Go.Pe.Ob->Prop}
namespace Go.Pe
open Sp
open Go.Det
abbrev A4:Sh:=.pair (.int .i64)<|.nlist<|.int .u64
abbrev u64:Sh:=.int .u64
abbrev DE:Sh:=.list<|.int .u64
abbrev wU:Sh:=.nlist<|.int .u64
def X2:Am:=⟨[u64,u64,u64],fun i=>Sp.u64 i.1&&Sp.u64 i.2.1&&decide (0<=(i.2.2:Int))&&decide ((i.2.2:Int)<=1),[u64,u64],fun i=>(IC i.1 i.2.1 i.2.2,Qo i.1 i.2.1 i.2.2),false⟩
def XX:Am:=⟨[u64,u64,u64],fun i=>Sp.u64 i.1&&Sp.u64 i.2.1&&decide (0<=(i.2.2:Int))&&decide ((i.2.2:Int)<=1),[u64,u64],fun i=>(UO i.1 i.2.1 i.2.2,Rr i.1 i.2.1 i.2.2),false⟩
def T4:Am:=⟨[u64,u64],fun i=>Sp.u64 i.1&&Sp.u64 i.2,[u64,u64],fun i=>(Sb i.1 i.2,IJ i.1 i.2),false⟩
def Xt:Am:=⟨[i64],fun n=>Cn n,[u64],fun n=>Ah n,false⟩
def Q0:Am:=⟨[A4],fun a=>Sp.Dt a,[.bool,DE],fun a=>(decide (Sp.vI a<0),BC<|Ah<|Sp.vI a),false⟩
def kX:Am:=⟨[.bool,DE],fun i=>Cu i.2,[A4],fun i=>(C4<|Sp.sg i.1<|At i.2,C3<|Sp.sg i.1<|At i.2),false⟩
def YC:Am:=⟨[DE],fun l=>C5 l,[DE],fun l=>Ay l,false⟩
def Y0:Am:=⟨[DE,DE],fun i=>Cu i.1&&Cu i.2,[i64],fun i=>Ck (At i.1)<|At i.2,false⟩
def iH:Am:=⟨[DE,DE],fun i=>Sp.hW i.1&&Sp.hW i.2,[DE],fun i=>BC<|At i.1+At i.2,false⟩
def kM:Am:=⟨[DE,DE],fun i=>C5 i.1&&C5 i.2&&decide (At i.2<=At i.1),[DE],fun i=>BC<|At i.1-At i.2,false⟩
def oL:Am:=⟨[DE,DE],fun i=>Sp.hW i.1&&Sp.hW i.2,[DE],fun i=>BC<|At i.1*At i.2,false⟩
def nL:AT:=X7 []
def Mj:AT:=X7 [(178,Xt),(208,X2),(217,XX),(209,YC),(177,T4)]
def XI2:AT:=X7 [(179,Q0),(180,kX),(186,iH),(188,kM),(187,Y0),(181,oL),(177,T4),(178,Xt)]
theorem SE{F:Fz}{x y c:Int}{args:List V}(h:M0 F (Ae [Pe.u64,Pe.u64,Pe.u64] (x,y,c)) args):args=[.int .u64 x,.int .u64 y,.int .u64 c]:=by
 have:=h (fun _=>none) 0;simp only[Ae,Cp,Bi]at this;obtain⟨a,i,rfl,f,b,k,rfl,e,d,j,rfl,g,rfl⟩:=this;simp only[PR,DC,qk,ve]at f e g;rw[f,e,g]
theorem A5{n:Int}(h:Sp.u64 n=true):0<=n/\n<18446744073709551616:=by
 unfold Sp.u64 at h;rw[zf,w5,w5]at h;exact h
namespace T208
theorem ok:Af A8 208 X2:=by
 refine .inr ⟨PK.add64.run,by kernel_rfl,fun F h args i j hp=>?_⟩;obtain⟨x,y,c⟩:=i;have hp:(Sp.u64 x&&Sp.u64 y&&decide (0<=c)&&decide (c<=1))=true:=hp;rw[zf,zf,zf,w5,w5]at hp;obtain⟨⟨⟨f,e⟩,c0⟩,g⟩:=hp;have f:=A5 f;have e:=A5 e;have:=SE j;subst this;obtain⟨a,rfl⟩:=zh f.1;obtain⟨b,rfl⟩:=zh e.1;obtain⟨d,rfl⟩:=zh c0;have g:(d:Int)<=1:=g;have k:Nat.ble d 1=true:=Nat.ble_eq_true_of_le ae;refine⟨.tup [.int .u64<|.ofNat<|(a+b+d) % fA,.int .u64<|.ofNat<|(a+b+d)/fA],?_,fun ρ N=>?_⟩
 ·show(bif Nat.ble d 1 then _ else _)=_;rw[k];rfl
 ·show PR F ρ N (.tup [.dat Pe.u64<|IC a b d,.dat Pe.u64<|Qo a b d]) _;simp only[PR,Bi];refine⟨_,rfl,_,_,rfl,?_,_,_,rfl,?_,rfl⟩<;>simp[DC,fA,IC,Qo]
end T208
namespace T217
theorem ok:Af A8 217 XX:=by
 refine .inr ⟨PK.sub64.run,by kernel_rfl,fun F h args i l hp=>?_⟩;obtain⟨x,y,c⟩:=i;have hp:(Sp.u64 x&&Sp.u64 y&&decide (0<=c)&&decide (c<=1))=true:=hp;rw[zf,zf,zf,w5,w5]at hp;obtain⟨⟨⟨g,j⟩,c0⟩,k⟩:=hp;have g:=A5 g;have j:=A5 j;have:=SE l;subst this;obtain⟨a,rfl⟩:=zh g.1;obtain⟨b,rfl⟩:=zh j.1;obtain⟨d,rfl⟩:=zh c0;have k:(d:Int)<=1:=k;have m:Nat.ble d 1=true:=Nat.ble_eq_true_of_le ae;refine⟨.tup [.int .u64<|.ofNat<|(a+fA-b-d) % fA,.int .u64<|.ofNat<|bif Nat.blt a (b+d)then 1 else 0],?_,fun ρ N=>?_⟩
 ·show(bif Nat.ble d 1 then _ else _)=_;rw[m];rfl
 ·show PR F ρ N (.tup [.dat Pe.u64<|UO a b d,.dat Pe.u64<|Rr a b d]) _;simp only[PR,Bi];refine⟨_,rfl,_,_,rfl,?_,_,_,rfl,?_,rfl⟩
  ·simp only[DC,fA,UO,qk,V.int.injEq,ve,true_and];have e:(((a+18446744073709551616-b-d) % 18446744073709551616:Nat):Int)=((a:Int)-b-d) % 18446744073709551616:=ae
   exact e
  ·simp only[DC,Rr,qk,V.int.injEq,ve,true_and];rw[HH];by_cases f:a<b+d
   ·rw[wd ae];simp[f]
   ·rw[wc ae];simp[f]
end T217
end Go.Pe
namespace Go.Sp
theorem AI(b:Int):∀(l:List Int) (i:Nat),val b (l.take<|i+1)=val b (l.take i)+b^i*l.getD i 0
 |[],i=>by simp[val]
 |x::l,0=>by
  show x+b*val b (l.take 0)=0+b^0*x;simp[val]
 |x::l,i+1=>by
  have:=AI b l i;show x+b*val b (l.take<|i+1)=x+b*val b (l.take i)+b^(i+1)*l.getD i 0;rw[this,z7,yy,zz (b^i) b,zp,qd]
theorem I7{l:List Int}(h:C5 l=true):l.length<=20000/\Az Ap l:=by
 unfold C5 at h;rw[zf,w5,yu]at h;exact⟨h.1,fun d a=>by
  have:=h.2 d a;rw[zf,w5,w5]at this;exact this⟩
theorem EJ{l:List Int}(c:l.length<=20000)(b:Az Ap l):C5 l=true:=by
 unfold C5;rw[zf,w5,yu];exact⟨c,fun d a=>by
  have:=b d a;rw[zf,w5,w5];exact this⟩
theorem YW{l:List Int}(h:hW l=true):l.length<=9000/\Az Ap l:=by
 unfold hW at h;rw[zf,w5]at h;exact⟨h.2,(I7 h.1).2⟩
theorem AZ{l:List Int}(h:Az Ap l)(i:Nat):u64 (l.getD i 0)=true:=by
 unfold u64;rw[zf,w5,w5];rcases Nat.lt_or_ge i l.length with a|a
 ·have:l.getD i 0∈l:=by rw[zo,z6 a];exact List.getElem_mem a
  exact h _ this
 ·rw[zo,yt a];exact⟨by decide,by decide⟩
theorem A5{n:Int}(h:u64 n=true):0<=n/\n<18446744073709551616:=by
 unfold u64 at h;rw[zf,w5,w5]at h;exact h
theorem CZ{n:Int}(a:0<=n)(b:n<18446744073709551616):u64 n=true:=by
 unfold u64;rw[zf,w5,w5];exact⟨a,b⟩
theorem Es{l:List Int}{x:Int}(h:Az Ap l)(b:u64 x=true):Az Ap (l++[x]):=by
 intro d a;rw[List.mem_append,List.mem_singleton]at a;rcases a with a|rfl
 ·exact h d a
 ·exact A5 b
theorem Mp{x y c:Int}(b:u64 x=true)(a:u64 y=true)(d:0<=c/\c<=1):u64 (IC x y c)=true/\(0<=Qo x y c/\Qo x y c<=1)/\IC x y c+18446744073709551616*Qo x y c=x+y+c:=by
 have:=A5 b;have:=A5 a;unfold IC Qo;exact⟨CZ ae ae,⟨by omega,by omega⟩,by omega⟩
theorem Hn{x y c:Int}(b:u64 x=true)(a:u64 y=true)(d:0<=c/\c<=1):u64 (UO x y c)=true/\(0<=Rr x y c/\Rr x y c<=1)/\UO x y c-18446744073709551616*Rr x y c=x-y-c:=by
 have:=A5 b;have:=A5 a;unfold UO Rr;refine⟨CZ ae ae,?_,?_⟩<;>split<;>omega
theorem Fm(l:List Int)(x:Int):val Ap (l++[x])=val Ap l+(Ap:Int)^l.length*x:=by
 rw[De];simp[val]
theorem LX(i:Nat)(c:Int):(Ap:Int)^(i+1)*c=(Ap:Int)^i*(18446744073709551616*c):=by
 rw[yy,zp];rfl
theorem J4(p:List Int)(n i:Nat)(x:Int)(h:p.length=i)(a:i<n):(p++zm (n-i) (0:Int)).set i x=(p++[x])++zm (n-(i+1)) 0:=by
 have:n-i=(n-(i+1))+1:=ae
 rw[this,List.replicate_succ,Pe.DN p _ 0 x h,qc];rfl
theorem Mo{l:List Int}(h:Az Ap l):Ay l=BC (At l):=Zn af h
end Go.Sp
namespace Go.Pe
open Sp
open Go.Det
section
open List Int Prod
namespace T178
def T(n:Int):Tr:=tree nL false 9 178<|Ae ([zj ym]) n
theorem Aj(n:Int):T n=.di (n<0) (.leaf (.dat (zj zd)<|zc .u64<|zc .i64<|0-n) []) (.leaf (.dat (zj zd)<|zc .u64 n) []):=by kernel_rfl
end T178
namespace T179
def T(a:AK):Tr:=tree Mj false 9 179<|Ae ([A4]) a
theorem Aj(a:AK):T a=.di (0<length (snd a)) (.leaf (.tup [.dat Sh.bool<|decide (fst a<0),.dat wU<|snd a]) []) (.ite (fst a==0) (.leaf (.tup [.bl false,.nil]) [])<|.ck (Cn<|fst a)<|.leaf (.tup [.dat Sh.bool<|decide (fst a<0),.sl (Nat.add 0 1) 1 0 1 none])<|[(Nat.add 0 1,.arr false 216 (zj zd) [Ah<|fst a]),(0,.box [.dat i64<|fst a,.dat wU<|snd a])]):=by kernel_rfl
end T179
namespace T180
def T(neg:Bool)(w:List Int):Tr:=tree Mj false 9 180<|Ae ([Sh.bool,zt<|zj zd]) (neg,w)
theorem Aj(neg:Bool)(w:List Int):T neg w=let e:=decide (getD w 0 0<=9223372036854775807);let b:=(length w:Int);let d:=zt<|zj zd;let b':Tr:=.ite neg (.leaf (yp [.dat i64 (-1:Int),.dat d w]) [])<|.leaf (yp [.dat i64 (1:Int),.dat d w]) [];let a:=decide (0<b);let c:Tr:=.ite (b==1) (.ck a<|.ite e (.ck a<|.leaf (yp [.dat i64<|zc .i64<|getD w 0 0,.nil]) []) b') b';.ite (b==0) (.leaf (yp [.dat i64 (0:Int),.nil]) []) (.ite (b==1) (.ck a<|.ite e (.ite neg (.ck a<|.leaf (yp [.dat i64<|zc .i64<|0-zc .i64 (getD w 0 0),.nil]) []) c) c) c):=by kernel_rfl
end T180
namespace T209
def T(w:List Int):Tr:=tree nL false 9 209<|Ae ([zt<|zj zd]) w
def L1(v0:List Int)(v3:Int):Tr:=re ((T []))<|Aw 21 [(0,.dat (zt<|zj zd) v0),(3,.dat i64 v3)] [] 0
theorem Aj(w:List Int):T w=L1 w ((length w:Int)):=by kernel_rfl
theorem Al(v0:List Int)(v3:Int):stepT nL (L1 v0 v3)=let a:Tr:=.ck (decide (0<=v3)&&decide (0<=toNat v3)&&decide (toNat v3<=length v0))<|.leaf (.dat (zt<|zj zd)<|take (toNat v3) v0) [];let b':=zc .i64<|v3-1;.di (v3>0) (.ck (decide (0<=zc .i64 (v3-1))&&decide (zc .i64 (v3-1)<(length v0:Int)))<|.ite (getD v0 (toNat b') 0==0) (L1 v0 b') a) a:=by kernel_rfl
end T209
namespace T187
def T(a b:List Int):Tr:=tree nL false 9 187<|Ae ([zt<|zj zd,zt<|zj zd]) (a,b)
def L1(v0 v1:List Int)(v5:Int):Tr:=re ((T [] []).R)<|Aw 41 [(0,.dat (zt<|zj zd) v0),(1,.dat (zt<|zj zd) v1),(5,.dat i64 v5)] [] 0
theorem Aj(a b:List Int):T a b=let c:=(length a:Int);.ite (c !=(length b:Int)) (.di (c<(length b:Int)) (.leaf (.dat i64 (-1:Int)) [])<|.leaf (.dat i64 (1:Int)) []) (L1 a b<|zc .i64<|c-1):=by kernel_rfl
theorem Al(v0 v1:List Int)(v5:Int):stepT nL (L1 v0 v1 v5)=let a:=decide (0<=v5)&&decide (v5<(length v0:Int));let b':=decide (0<=v5)&&decide (v5<(length v1:Int));.di (v5>=0) (.ck a<|.ck b'<|.ite (getD v0 (toNat v5) 0 !=getD v1 (toNat v5) 0) (.ck a<|.ck b'<|.di (getD v0 (toNat v5) 0<getD v1 (toNat v5) 0) (.leaf (.dat i64 (-1:Int)) [])<|.leaf (.dat i64 (1:Int)) [])<|L1 v0 v1<|zc .i64<|v5-1) (.leaf (.dat i64 (0:Int)) []):=by kernel_rfl
end T187
namespace T186
def T(x y:List Int):Tr:=tree Mj false 9 186<|Ae ([zt<|zj zd,zt<|zj zd]) (x,y)
def L1(v0 v1:List Int)(a:Nat)(d b c:Int)(e:List Int):Tr:=re ((T [] []).L.L)<|Aw 54 [(0,.dat (zt<|zj zd) v0),(1,.dat (zt<|zj zd) v1),(5,.sl 0 1 0 a none),(6,.dat (zj zd) d),(21,.dat i64 b),(22,.dat i64 c)] [(0,.arr false 216 (zj zd) e)] 1
theorem Aj(x y:List Int):T x y=let a:=(length x:Int);let b':=(length y:Int);let c:=zc .i64<|b'+1;let b:=zc .i64<|a+1;.di (a<b') (.ck (decide (0<=zc .i64 (b'+1))&&decide (zc .i64 (b'+1)=zc .i64 (b'+1))&&decide (8*toNat c<=281474976710656)&&decide (zc .i64 (b'+1)<9223372036854775808))<|L1 y x (toNat c) 0 b' 0<|replicate (toNat c) 0) (.ck (decide (0<=zc .i64 (a+1))&&decide (zc .i64 (a+1)=zc .i64 (a+1))&&decide (8*toNat b<=281474976710656)&&decide (zc .i64 (a+1)<9223372036854775808))<|L1 x y (toNat b) 0 a 0<|replicate (toNat b) 0):=by kernel_rfl
theorem Al(v0 v1:List Int)(b:Nat)(d c a:Int)(e:List Int):stepT Mj (L1 v0 v1 b d c a e)=let f:=getD v0 (toNat a) 0;let b':=(length v0:Int);let h:=getD v1 (toNat a) 0;let k:=decide (0<=a)&&decide (a<(↑b:Int));let m:=decide ((0:Sh.T (BB [u64]))<=d);let n:=decide (d<=(1:Sh.T (BB [u64])));let l:=decide (toNat a<length e);let j:=decide (a<(length v1:Int));let i:=zc .i64<|a+1;let g:=set e (toNat b') d;let h':=decide (0<=a)&&decide (a<b');.di (a<c) (.ite j (.ck (decide (0<=a)&&j)<|.ck h'<|.ck (Sp.u64 f&&Sp.u64 h&&m&&n)<|.ck k<|.ck l<|L1 v0 v1 b (Qo f h d) c i<|set e (toNat a)<|IC f h d)<|.ck h'<|.ck (Sp.u64 f&&Sp.u64 0&&m&&n)<|.ck k<|.ck l<|L1 v0 v1 b (Qo f 0 d) c i<|set e (toNat a)<|IC f 0 d) (.ck (decide (0<=b')&&decide (b'<(↑b:Int)))<|.cd (toNat b'<length e)<|.ck (decide (0+b<=length g)&&true&&C5 (take b g))<|.leaf (.dat (zt<|zj zd)<|Ay<|take b g) []):=by kernel_rfl
end T186
namespace T188
def T(x y:List Int):Tr:=tree Mj false 9 188<|Ae ([zt<|zj zd,zt<|zj zd]) (x,y)
def L1(v0 v1:List Int)(a:Nat)(d b c:Int)(e:List Int):Tr:=re ((T [] []).L)<|Aw 41 [(0,.dat (zt<|zj zd) v0),(1,.dat (zt<|zj zd) v1),(5,.sl 0 1 0 a none),(6,.dat (zj zd) d),(13,.dat i64 b),(14,.dat i64 c)] [(0,.arr false 216 (zj zd) e)] 1
theorem Aj(x y:List Int):T x y=let a:=(length x:Int);.ck (decide (0<=a)&&decide (a=a)&&decide (8*toNat a<=281474976710656)&&decide (a<9223372036854775808)) (L1 x y (toNat a) 0 a 0<|replicate (toNat a) 0):=by kernel_rfl
theorem Al(v0 v1:List Int)(b:Nat)(d c a:Int)(e:List Int):stepT Mj (L1 v0 v1 b d c a e)=let f:=getD v0 (toNat a) 0;let b':=decide (0<=a)&&decide (a<(length v0:Int));let g:=getD v1 (toNat a) 0;let i:=decide (0<=a)&&decide (a<(↑b:Int));let k:=decide ((0:Sh.T (BB [u64]))<=d);let h:=decide (d<=(1:Sh.T (BB [u64])));let j:=decide (toNat a<length e);let h':=decide (a<(length v1:Int));let l:=zc .i64<|a+1;.di (a<c) (.ite h' (.ck (decide (0<=a)&&h')<|.ck b'<|.ck (Sp.u64 f&&Sp.u64 g&&k&&h)<|.ck i<|.ck j<|L1 v0 v1 b (Rr f g d) c l<|set e (toNat a)<|UO f g d)<|.ck b'<|.ck (Sp.u64 f&&Sp.u64 0&&k&&h)<|.ck i<|.ck j<|L1 v0 v1 b (Rr f 0 d) c l<|set e (toNat a)<|UO f 0 d) (.ck (decide (0+b<=length e)&&true&&C5 (take b e))<|.leaf (.dat (zt<|zj zd)<|Ay<|take b e) []):=by kernel_rfl
end T188
namespace T177
def T(x y:Int):Tr:=tree nL false 9 177<|Ae ([zj zd,zj zd]) (x,y)
theorem Aj(x y:Int):T x y=let a:=zc .u64<|zc .u64 (zn x (2^32)*Is zd y 4294967295)+zn (zc .u64<|Is zd x 4294967295*Is zd y 4294967295) (2^32);.ck true (.ck true<|.ck true<|.ck true<|.ck true<|.leaf (.tup [.dat (zj zd)<|zc .u64<|zc .u64 (zc .u64 (zn x (2^32)*zn y (2^32))+zn a (2^32))+zn (zc .u64<|Is zd a 4294967295+zc .u64 (Is zd x 4294967295*zn y (2^32))) (2^32),.dat (zj zd)<|zc .u64<|x*y]) []):=by kernel_rfl
end T177
namespace T181
def T(x y:List Int):Tr:=tree Mj false 9 181<|Ae ([zt<|zj zd,zt<|zj zd]) (x,y)
def L1(v1:List Int)(a:Nat)(v20:List Int)(b c:Int)(d:List Int):Tr:=re ((T [] []).L)<|Aw 80 [(1,.dat (zt<|zj zd) v1),(5,.sl 0 1 0 a none),(20,.dat (zt<|zj zd) v20),(21,.dat i64 b),(22,.dat i64 c)] [(0,.arr false 216 (zj zd) d)] 1
theorem Aj(x y:List Int):T x y=let a:=(length x:Int)+(length y:Int);let b':=zc .i64 a;.ck (decide (0<=zc .i64 a)&&decide (zc .i64 a=zc .i64 a)&&decide (8*toNat b'<=281474976710656)&&decide (zc .i64 a<9223372036854775808)) (L1 y (toNat b') x ((length x:Int)) 0<|replicate (toNat b') 0):=by kernel_rfl
def L2(v1:List Int)(a:Nat)(i h g:Int)(v20:List Int)(b f:Int)(c:List Int)(d e:Int)(j:List Int):Tr:=re ((stepT Mj<|L1 [] 0 [] 0 0 []).L.L)<|Aw 80 [(1,.dat (zt<|zj zd) v1),(5,.sl 0 1 0 a none),(6,.dat i64 i),(7,.dat (zj zd) h),(8,.dat (zj zd) g),(20,.dat (zt<|zj zd) v20),(21,.dat i64 b),(22,.dat i64 f),(27,.dat (zt<|zj zd) c),(28,.dat i64 d),(29,.dat i64 e)] [(0,.arr false 216 (zj zd) j)] 1
theorem Al(v1:List Int)(b:Nat)(v20:List Int)(c a:Int)(d:List Int):stepT Mj (L1 v1 b v20 c a d)=.di (a<c) (.ck (decide (0<=a)&&decide (a<(length v20:Int)))<|L2 v1 b a (getD v20 (toNat a) 0) 0 v20 c a v1 ((length v1:Int)) 0 d) (.ck (decide (0+b<=length d)&&true&&C5 (take b d))<|.leaf (.dat (zt<|zj zd)<|Ay<|take b d) []):=by kernel_rfl
theorem AG(v1:List Int)(b:Nat)(h i j:Int)(v20:List Int)(f d:Int)(c:List Int)(e a:Int)(g:List Int):stepT Mj (L2 v1 b h i j v20 f d c e a g)=let b':=zc .i64<|h+a;let n:=getD c (toNat a) 0;let q:=decide (0<=zc .i64 (h+a))&&decide (zc .i64 (h+a)<(↑b:Int));let k:=h+(length v1:Int);let r:=decide ((0:Sh.T (BB [u64]))<=0);let h':=decide (0<=(1:Sh.T (BB [u64])));let m:=getD g (toNat b') 0;let p:=decide (toNat b'<length g);let l:=IJ i n;let o:=IC l m 0;.di (a<e) (.ck (decide (0<=a)&&decide (a<(length c:Int)))<|.ck (Sp.u64 i&&Sp.u64 n)<|.ck q<|.ck p<|.ck (Sp.u64 l&&Sp.u64 m&&r&&h')<|.ck (Sp.u64 o&&Sp.u64 j&&r&&h')<|.ck q<|.ck p<|L2 v1 b h i (zc .u64<|zc .u64 (Sb i n+Qo l m 0)+Qo o j 0) v20 f d c e (zc .i64<|a+1)<|set g (toNat b')<|IC o j 0) (.ck (decide (0<=zc .i64 k)&&decide (zc .i64 k<(↑b:Int)))<|.cd (toNat (zc .i64 k)<length g)<|L1 v1 b v20 f (zc .i64<|d+1)<|set g (toNat<|zc .i64 k) j):=by kernel_rfl
end T181
end
theorem JT:CX nL:=fun g sp h=>by cases h
theorem wu(x:Int)(a:0<=x)(b:x<=18446744073709551615):zc .u64 x=x:=IntWalk.u64_in x ⟨a,b⟩
theorem EG{n:Int}(h:Cn n=true): -9223372036854775808<=n/\n<9223372036854775808:=by
 unfold Cn at h;rw[zf,w5,w5]at h;exact h
namespace T178
theorem ok:Af A8 178 Xt:=by
 refine BR JT<|fun(n:Int) a=>?_;have a:=EG (n:=n) a;refine yf (Aj n)<|zk (fun c=>?_)<|fun c=>?_
 ·have c:=w6 c;refine zg<|zu rfl rfl ?_;show zc .u64 (zc .i64<|0-n)=Ah n;simp only[Ak];rcases zw (-9223372036854775808) n with h|h
  ·rw[wr _ ae ae,wu _ ae ae];omega
  ·have:n= -9223372036854775808:=ae
   subst this;decide+kernel
 ·have c:=w7 c;refine zg<|zu rfl rfl ?_;show zc .u64 n=Ah n;simp only[Ak];rw[wu _ ae ae];omega
end T178
namespace T209
theorem Ar{Q:PV->Ob->Prop}(w:List Int)(e:w.length<=20000)(b:∀ob,Q (.dat DE<|Ay w) ob):∀(i:Nat),i<=w.length->Ay w=Ay (w.take i)->Ends nL (L1 w i) Q
 |0,g,a=>by
  have a:Ay w=[]:=a;rw[a]at b;refine yj (Al ..) (yh (by simp)<|ze (by simp)<|zg<|b _)
 |i+1,g,a=>by
  have f:zc .i64 (((i+1:Nat):Int)-1)=(i:Int):=by rw[wr _ ae ae];omega
  have d:w.take (i+1)=w.take i++[w.getD i 0]:=by
   rw[List.take_add_one];congr 1;rw[zo,z6 ae];rfl
  refine yj (Al ..) (ze (by simp<;>omega) ?_);rw[f,zl];refine ze (by simp<;>omega)<|zk (fun c=>?_)<|fun c=>?_
  ·have c:w.getD i 0=0:=by simpa using c
   refine Ar w e b i ae ?_;rw[a,d,c,IW]
  ·have c:w.getD i 0≠0:=by simpa using c
   refine ze (by simp;omega)<|zg ?_;have:Ay w=w.take (i+1):=by rw[a,d,Jw<|YL c]
   rw[this]at b;exact b _
theorem ok:Af A8 209 YC:=by
 refine BR JT<|fun(w:List Int) hw=>?_;obtain⟨a,b⟩:=I7 (l:=w) hw;refine yf (Aj w) (Ar w a (fun ob=>zu rfl rfl rfl) w.length (Nat.le_refl _)<|by rw[yn])
end T209
theorem Fs{l:List Int}(h:Cu l=true):l.length<=20000/\Az Ap l/\Sp.nz l:=by
 unfold Cu at h;rw[zf]at h;have:=I7 h.1;exact⟨this.1,this.2,by
  have:=h.2;unfold Sp.nzW at this;have:l.getLast?≠some 0:=w6 this;exact this⟩
namespace T187
theorem Ar{Q:PV->Ob->Prop}(a b:List Int)(h:Az Ap a)(j:Az Ap b)(n:a.length=b.length)(l:b.length<=20000)(f:∀ob,Q (.dat i64<|Ck (At a)<|At b) ob):∀(i:Nat),i<=a.length->a.drop i=b.drop i->Ends nL (L1 a b<|(i:Int)-1) Q
 |0,o,g=>by
  have g:a=b:=g;have:Ck (At a) (At b)=0:=by rw[g];unfold Ck;simp
  rw[this]at f;exact yj (Al ..) (yh (by simp)<|zg<|f _)
 |i+1,o,g=>by
  have m:(((i+1:Nat):Int)-1)=(i:Int):=ae
  have k:a.drop i=a.getD i 0::a.drop (i+1):=by
   rw[zo,z6 ae];exact yo ae
  have db:b.drop i=b.getD i 0::a.drop (i+1):=by
   rw[g,zo,z6 ae];exact yo ae
  have p:=Sp.A5<|AZ h i;have q:=Sp.A5<|AZ j i;rw[m];refine yj (Al ..) (ze (by simp) ?_);rw[zl];refine ze (by simp;omega) (ze (by simp;omega)<|zk (fun c=>ze (by simp;omega)<|ze (by simp;omega)<|zk (fun d=>?_)<|fun d=>?_)<|fun c=>?_)
  ·have d:=w6 d;have:=JY (b:=Ap) af h j k db d;have e:Ck (At a) (At b)= -1:=by unfold Ck;exact wd this
   rw[e]at f;exact zg<|f _
  ·have d:=w7 d;have c:a.getD i 0≠b.getD i 0:=by simpa using c
   have:=JY (b:=Ap) af j h db k ae;have e:Ck (At a) (At b)=1:=by
    unfold Ck At;rw[wc ae,wd ae]
   rw[e]at f;exact zg<|f _
  ·have c:a.getD i 0=b.getD i 0:=by simpa using c
   rw[wr ((i:Int)-1) ae ae];exact Ar a b h j n l f i ae (by rw[k,db,c])
theorem ok:Af A8 187 Y0:=by
 refine BR JT<|fun(i:List Int×List Int) g=>?_;obtain⟨a,b⟩:=i;have g:(Cu a&&Cu b)=true:=g;rw[zf]at g;obtain⟨a1,a2,a3⟩:=Fs g.1;obtain⟨b1,b2,b3⟩:=Fs g.2;have f:∀ob,Ad Y0 (a,b) (.dat i64<|Ck (At a)<|At b) ob:=fun ob=>zu rfl rfl rfl
 refine yf (Aj a b)<|zk (fun c=>zk (fun d=>?_)<|fun d=>?_)<|fun c=>?_
 ·have d:=w6 d;have e:Ck (At a) (At b)= -1:=by unfold Ck;exact wd (E6 af a2 b2 b3 ae)
  rw[e]at f;exact zg<|f _
 ·have d:=w7 d;have c:(a.length:Int)≠b.length:=by simpa using c
  have:=E6 (b:=Ap) af b2 a2 a3 ae;have e:Ck (At a) (At b)=1:=by
   unfold Ck At;rw[wc ae,wd ae]
  rw[e]at f;exact zg<|f _
 ·have c:(a.length:Int)=b.length:=by simpa using c
  rw[wr _ ae ae];exact Ar a b a2 b2 ae b1 f a.length (Nat.le_refl _) (by rw[List.drop_length,show a.length=b.length by omega,List.drop_length])
end T187
theorem Ej{a:AK}(h:Sp.Dt a=true):(-9223372036854775808<=a.1/\a.1<9223372036854775808)/\(a.2=[]\/(Cu a.2=true/\(a.1=1\/a.1= -1)/\9223372036854775808<=At a.2)):=by
 unfold Sp.Dt at h;rw[zf,ql,zf,zf,ql,w5,w5,w5,w5]at h;exact⟨EG h.1,h.2.imp id fun h=>⟨h.1.1,h.1.2,h.2⟩⟩
theorem val_one(d:Int):zy Ap [d]=d:=by simp[zy]
theorem Aaw{d:Int}(e:0<d)(c:d<18446744073709551616):[d]=BC d:=by
 have:=Jt (b:=Ap) (l:=[d]) af (fun x a=>by rw[List.mem_singleton]at a;subst a;exact⟨by omega,c⟩) (by unfold Sp.nz;simp;omega);rw[val_one]at this;exact this
theorem E4{s:Int}:Sp.vI (s,[])=s:=by unfold Sp.vI;exact wd rfl
namespace T179
theorem ok(f:∀g sp,Mj.sp g=some sp->Af A8 g sp):Af A8 179 Q0:=by
 refine GP (X:=Mj) rfl f (d:=9) ag ag ag (fun(a:Int×List Int) ha=>?_) (Bd ag);obtain⟨hr,i⟩:=Ej (a:=a) ha;obtain⟨s,w⟩:=a;have hr: -9223372036854775808<=s/\s<9223372036854775808:=hr;refine yf (Aj (s,w))<|zk (fun c=>?_)<|fun c=>zk (fun d=>?_)<|fun d=>ze ?_ ?_
 ·have c:0<w.length:=w6 c;have e:w≠[]:=by rintro rfl;simp at c
  rcases i with i|⟨l,h,k⟩
  ·exact wh i e
  ·obtain⟨n1,j,p⟩:=Fs l;have h:s=1\/s= -1:=h;have k:9223372036854775808<=At w:=k;have ev:Sp.vI (s,w)=if s<0 then -At w else At w:=by unfold Sp.vI;exact wc e
   have o:Ah (Sp.vI (s,w))=At w:=by rw[ev];simp only[Ak];split<;>omega
   have m:decide (Sp.vI (s,w)<0)=decide (s<0):=by
    rw[ev];rcases h with rfl|rfl<;>simp<;>omega
   refine zg<|zu rfl rfl ?_;show(decide (s<0),w)=(decide (Sp.vI (s,w)<0),BC<|Ah<|Sp.vI (s,w));rw[o,m,show w=BC (At w)from Jt af j p];congr 2;exact(Db (b:=Ap) af<|AD (b:=Ap) af j).symm
 all_goals
  have c:¬0<w.length:=w7 c;have n:w=[]:=List.length_eq_zero_iff.1 ae;subst n
 ·have d:s=0:=by simpa using d
  subst d;exact zg<|zu rfl rfl rfl
 ·show Cn s=true;unfold Cn;rw[zf,w5,w5];exact hr
 ·have d:s≠0:=by simpa using d
  refine zg<|zu rfl rfl ?_;show(decide (s<0),[Ah s])=(decide (Sp.vI (s,[])<0),BC<|Ah<|Sp.vI (s,[]));rw[E4,Aaw (d:=Ah s) (by simp only[Ak];omega)<|by simp only[Ak];omega]
end T179
theorem Cf{n:Int}(h: -9223372036854775808<n/\n<9223372036854775808):Dd n=(n,[]):=wd h
theorem Uh{w:List Int}(neg:Bool)(b:Az Ap w)(a:Sp.nz w)(c:9223372036854775808<=At w):Dd (if neg=true then -At w else At w)=(if neg=true then -1 else 1,w):=by
 have e:BC (At w)=w:=(Jt af b a).symm;cases neg with
 |true=>
  simp only[wk];unfold Dd;rw[wc ae,wd ae];rw[show Ah (-At w)=At w by simp only[Ak];omega,e]
 |false=>
  show Dd (At w)=(1,w);unfold Dd;rw[wc ae,wc ae];rw[show Ah (At w)=At w by simp only[Ak];omega,e]
namespace T180
theorem ok(a:∀g sp,Mj.sp g=some sp->Af A8 g sp):Af A8 180 kX:=by
 refine GP (X:=Mj) rfl a (d:=9) ag ag ag (fun(i:Bool×List Int) hi=>?_) (Bd ag);obtain⟨neg,w⟩:=i;obtain⟨n1,n2,n3⟩:=Fs (l:=w) hi;refine yf (Aj neg w) ?_;conv=>zeta
 cases w with
 |nil=>
  refine ze rfl (zg<|zu rfl rfl ?_);show _=Dd (if neg=true then -0 else 0);rw[show(if neg=true then(-0:Int)else 0)=0 by split<;>rfl,Cf ae]
 |cons d t=>
  cases t with
  |nil=>
   have m:=n2 d (by simp);have v:d≠0:=by intro h;subst h;exact n3 rfl
   have r:0<=d:=m.1;have s:d<18446744073709551616:=m.2;have ev:At [d]=d:=val_one d;refine yh rfl (ze rfl (ze rfl (zk (fun c=>?_)<|fun c=>?_)))
   ·have c:d<=9223372036854775807:=w6 c;have k:zc .i64 d=d:=wr _ ae ae;have p:zc .i64 (0-d)= -d:=by rw[wr _ ae ae];omega
    refine zk (fun n=>ze rfl (zg<|zu rfl rfl ?_))<|fun n=>ze rfl (ze rfl (ze (w4 c)<|ze rfl (zg<|zu rfl rfl ?_)))
    ·show(zc .i64<|0-zc .i64 d,[])=Dd (if neg=true then -At [d]else At [d]);rw[k,p,wd n,ev,Cf ae]
    ·show(zc .i64 d,[])=Dd (if neg=true then -At [d]else At [d]);subst n;rw[k,wc af,ev,Cf ae]
   ·have u:¬d<=9223372036854775807:=w7 c;have f:=Uh neg n2 n3 (by rw[ev];omega);refine ze rfl (ze rfl (yh c<|zk (fun n=>zg<|zu rfl rfl ?_)<|fun n=>zg<|zu rfl rfl ?_))
    ·show(-1,[d])=Dd (if neg=true then -At [d]else At [d]);rw[f,wd n]
    ·show(1,[d])=Dd (if neg=true then -At [d]else At [d]);rw[f,n];rfl
  |cons e t=>
   have q:9223372036854775808<=At (d::e::t):=by
    have h:=DF (b:=Ap) af n2 n3 (by simp);have j:=AQ (b:=Ap) af (show 1<=(d::e::t).length-1 by simp);rw[Int.pow_one]at j;have:(9223372036854775808:Int)<=(Ap:Int):=af
    exact Int.le_trans this<|Int.le_trans j h
   have f:=Uh neg n2 n3 q;have z0:(((d::e::t).length:Int)==0)=false:=by simp;omega
   have o:(((d::e::t).length:Int)==1)=false:=by simp;omega
   refine yh z0<|yh o<|yh o<|zk (fun n=>zg<|zu rfl rfl ?_)<|fun n=>zg<|zu rfl rfl ?_
   ·show(-1,d::e::t)=Dd (if neg=true then -At (d::e::t)else At (d::e::t));rw[f,wd n]
   ·show(1,d::e::t)=Dd (if neg=true then -At (d::e::t)else At (d::e::t));rw[f,n];rfl
end T180
namespace T186
theorem Ar(x y:List Int)(m:Az Ap x)(q:Az Ap y)(n:y.length<=x.length)(t:x.length<=9000)(o:∀ob,Q (.dat DE<|BC<|At x+At y) ob):∀(k i:Nat) (p:List Int) (c:Int),i+k=x.length->p.length=i->Az Ap p->(0<=c/\c<=1)->zy Ap p+(Ap:Int)^i*c=zy Ap (x.take i)+zy Ap (y.take i)->
  Ends Mj (L1 x y (x.length+1) c x.length i<|p++zm (x.length+1-i) 0) Q
 |0,i,p,c,g,hp,f,a,l=>by
  have g:i=x.length:=ae
  subst g;have r:x.length+1-x.length=1:=ae
  have es:(p++zm (x.length+1-x.length) (0:Int)).set x.length c=p++[c]:=by
   rw[r];exact Pe.DN p [] 0 c hp
  have u:(p++[c]).take (x.length+1)=p++[c]:=zr (by simp;omega);have b:Az Ap (p++[c]):=Es f (CZ a.1 ae);have s:At (p++[c])=At x+At y:=by
   unfold At;rw[Fm,hp,l,yn,zr n]
  refine yj (Al ..) (yh (by simp) ?_);rw[zl,es,u];refine ze (by simp<;>omega) (ze (by simp;omega)<|ze ?_<|zg ?_)
  ·rw[EJ (by simp;omega) b];simp;omega
  ·rw[Mo b,s];exact o _
 |k+1,i,p,c,g,hp,f,a,l=>by
  have e:=AZ m i;have j:=AZ q i;have lo:(p++zm (x.length+1-i) (0:Int)).length=x.length+1:=by simp;omega
  have step:∀z,Sp.u64 z=true->z=y.getD i 0->Ends Mj (L1 x y (x.length+1) (Qo (x.getD i 0) z c) x.length (zc .i64<|(i:Int)+1)<|(p++zm (x.length+1-i) 0).set i<|IC (x.getD i 0) z c) Q:=by
   intro z h v;obtain⟨a1,a2,a3⟩:=Mp e h a;rw[wr ((i:Int)+1) ae ae,J4 p (x.length+1) i _ hp ae];refine Ar x y m q n t o k (i+1) (p++[IC (x.getD i 0) z c]) _ ae (by simp;omega) (Es f a1) a2 ?_;rw[Fm,hp,LX,AI _ x i,AI _ y i, <-v,qd, <-z7,a3,z7,z7];omega
  refine yj (Al ..) (ze (by simp;omega) ?_);rw[zl];refine zk (fun d=>?_)<|fun d=>?_
  ·have d:=w6 d;refine ze (by simp;omega) (ze (by simp;omega)<|ze ?_<|ze (by simp;omega)<|ze (w4<|by rw[lo];omega)<|step _ j rfl);rw[e,j,yb,yb,zf];exact⟨w4 a.1,w4 a.2⟩
  ·have d:=w7 d;have h:y.getD i 0=0:=by rw[zo,yt ae];rfl
   refine ze (by simp;omega) (ze ?_<|ze (by simp;omega)<|ze (w4<|by rw[lo];omega)<|step _ rfl h.symm);rw[e,show Sp.u64 0=true from rfl,yb,yb,zf];exact⟨w4 a.1,w4 a.2⟩
theorem start(x y:List Int)(e:Az Ap x)(d:Az Ap y)(b:y.length<=x.length)(a:x.length<=9000)(c:∀ob,Q (.dat DE<|BC<|At x+At y) ob){t:Tr}:
  Ends Mj (.ite (decide ((0:Int)<=zc ym ((x.length:Int)+(1:Int)))&&decide (zc ym ((x.length:Int)+(1:Int))=zc ym ((x.length:Int)+(1:Int)))&&decide ((8:Nat)*qq (zc ym<|(x.length:Int)+(1:Int))<=(281474976710656:Nat))&&decide (zc ym ((x.length:Int)+(1:Int))<(9223372036854775808:Int)))
   (L1 x y (qq<|zc ym<|(x.length:Int)+(1:Int)) ((0:Int)) ((x.length:Int)) ((0:Int))<|zm (qq<|zc ym<|(x.length:Int)+(1:Int)) (0:Int)) t) Q:=by
 have f:zc .i64 ((x.length:Int)+1)=((x.length+1:Nat):Int):=by rw[wr _ ae ae];omega
 rw[f,zl];refine ze (by simp;omega) ?_;exact Ar x y e d b a c x.length 0 [] 0 ae rfl (fun _ h=>by cases h) ae (by simp[zy])
theorem ok(b:∀g sp,Mj.sp g=some sp->Af A8 g sp):Af A8 186 iH:=by
 refine GP (X:=Mj) rfl b (d:=9) ag ag ag (fun(i:List Int×List Int) a=>?_) (Bd ag);obtain⟨x,y⟩:=i;have a:(Sp.hW x&&Sp.hW y)=true:=a;rw[zf]at a;obtain⟨x1,x2⟩:=YW a.1;obtain⟨y1,y2⟩:=YW a.2;have e:∀ob,Ad iH (x,y) (.dat DE<|BC<|At x+At y) ob:=fun ob=>zu rfl rfl rfl
 refine yf (Aj x y)<|zk (fun c=>?_)<|fun c=>?_
 ·have c:=w6 c;exact start y x y2 x2 ae y1 (by rw[Int.add_comm];exact e)
 ·have c:=w7 c;exact start x y x2 y2 ae x1 e
end T186
namespace T188
theorem mE{b:Int}(e:0<b){l:List Int}{n:Nat}(h:Az b l)(g:zy b l<b^n):zy b (l.take n)=zy b l:=by
 rcases Nat.lt_or_ge n l.length with a|a
 ·have c:=Cy b l n ae;have f:=AD ae<|AS h n;have i:=AD ae<|E9 h n;rcases zw 0 (zy b<|l.drop n)with d|d
  ·have:=z8 (show 1<=zy b (l.drop n)by omega)<|yg<|AU e n;rw[Int.mul_one]at this;omega
  ·have:zy b (l.drop n)=0:=ae
   rw[this,qh]at c;omega
 ·rw[zr a]
theorem Ar(x y:List Int)(g:Az Ap x)(l:Az Ap y)(q:At y<=At x)(v:x.length<=20000)(r:∀ob,Q (.dat DE<|BC<|At x-At y) ob):∀(k i:Nat) (p:List Int) (c:Int),i+k=x.length->p.length=i->Az Ap p->(0<=c/\c<=1)->zy Ap p-(Ap:Int)^i*c=zy Ap (x.take i)-zy Ap (y.take i)->
  Ends Mj (L1 x y x.length c x.length i<|p++zm (x.length-i) 0) Q
 |0,i,p,c,m,hp,f,b,a=>by
  have m:i=x.length:=ae
  subst m;have s:p++zm (x.length-x.length) (0:Int)=p:=by rw[Nat.sub_self];simp
  have A:p.take x.length=p:=zr ae;have w:At x<(Ap:Int)^x.length:=Bz af g;have u:At p<(Ap:Int)^p.length:=Bz af f;have t:At p=At x-At y:=by
   rw[yn,mE af l<|show zy Ap y<_ from yd q w]at a;have a:At p-(Ap:Int)^x.length*c=At x-At y:=a;rw[hp]at u;rcases zw 0 c with h|h
   ·have:c=1:=ae
    subst this;rw[Int.mul_one]at a;omega
   ·have:c=0:=ae
    subst this;rw[qh]at a;omega
  rw[s];refine yj (Al ..) (yh (by simp) ?_);rw[A];refine ze ?_<|zg ?_
  ·rw[EJ ae f];simp;omega
  ·rw[Mo f,t];exact r _
 |k+1,i,p,c,m,hp,f,b,a=>by
  have j:=AZ g i;have o:=AZ l i;have lo:(p++zm (x.length-i) (0:Int)).length=x.length:=by simp;omega
  have step:∀z,Sp.u64 z=true->z=y.getD i 0->Ends Mj (L1 x y x.length (Rr (x.getD i 0) z c) x.length (zc .i64<|(i:Int)+1)<|(p++zm (x.length-i) 0).set i<|UO (x.getD i 0) z c) Q:=by
   intro z n B;obtain⟨a1,a2,a3⟩:=Sp.Hn j n b;rw[wr ((i:Int)+1) ae ae,J4 p x.length i _ hp ae];refine Ar x y g l q v r k (i+1) (p++[UO (x.getD i 0) z c]) _ ae (by simp;omega) (Es f a1) a2 ?_;have e:(Ap:Int)^i*UO (x.getD i 0) z c-(Ap:Int)^i*(18446744073709551616*Rr (x.getD i 0) z c)=(Ap:Int)^i*x.getD i 0-(Ap:Int)^i*z-(Ap:Int)^i*c:=by
    rw[<-qo,a3,qo,qo]
   rw[Fm,hp,LX,AI _ x i,AI _ y i, <-B];omega
  refine yj (Al ..) (ze (by simp;omega) ?_);rw[zl];refine zk (fun d=>?_)<|fun d=>?_
  ·have d:=w6 d;refine ze (by simp;omega) (ze (by simp;omega) (ze ?_<|ze (by simp;omega)<|ze (w4<|by rw[lo];omega)<|step _ o rfl));rw[j,o,yb,yb,zf];exact⟨w4 b.1,w4 b.2⟩
  ·have d:=w7 d;have n:y.getD i 0=0:=by rw[zo,yt ae];rfl
   refine ze (by simp;omega) (ze ?_<|ze (by simp;omega)<|ze (w4<|by rw[lo];omega)<|step _ rfl n.symm);rw[j,show Sp.u64 0=true from rfl,yb,yb,zf];exact⟨w4 b.1,w4 b.2⟩
theorem ok(b:∀g sp,Mj.sp g=some sp->Af A8 g sp):Af A8 188 kM:=by
 refine GP (X:=Mj) rfl b (d:=9) ag ag ag (fun(i:List Int×List Int) a=>?_) (Bd ag);obtain⟨x,y⟩:=i;have a:(C5 x&&C5 y&&decide (At y<=At x))=true:=a;rw[zf,zf,w5]at a;obtain⟨x1,x2⟩:=I7 a.1.1;obtain⟨y1,y2⟩:=I7 a.1.2;have c:∀ob,Ad kM (x,y) (.dat DE<|BC<|At x-At y) ob:=fun ob=>zu rfl rfl rfl
 refine yf (Aj x y) ?_;conv=>zeta
 rw[zl];refine ze (by simp;omega) ?_;exact Ar x y x2 y2 a.2 x1 c x.length 0 [] 0 ae rfl (fun _ h=>by cases h) ae (by simp[zy])
end T188
theorem Mm(n:Int):zc .u64 n=n % 18446744073709551616:=by simp[zc,IntKind.bits,IntKind.signed]
theorem cN(n:Nat):zn (n:Int) ((2:Int)^(32:Nat))=((n/4294967296:Nat):Int):=by
 rw[ye _ af];rfl
theorem mP(n:Nat)(h:n<18446744073709551616):zc .u64 (n:Int)=n:=wu _ ae ae
theorem Rn(n:Nat)(h:n<18446744073709551616):Is .u64 (n:Int) 4294967295=((n % 4294967296:Nat):Int):=by
 have e:(ya 64 (n:Int)&&&ya 64 4294967295).toNat=n % 4294967296:=by
  rw[BitVec.toNat_and];have b:(ya 64 (n:Int)).toNat=n:=by rw[yv,yz];exact qe h
  have a:(ya 64 4294967295).toNat=2^32-1:=af
  rw[b,a,Nat.and_two_pow_sub_one_eq_mod]
 show zc .u64 (((ya 64 (n:Int)&&&ya 64 4294967295).toNat:Nat):Int)=_;rw[e];exact mP _ ae
namespace T177
theorem ok:Af A8 177 T4:=by
 refine BR JT<|fun(i:Int×Int) h=>?_;obtain⟨x,y⟩:=i;have h:(Sp.u64 x&&Sp.u64 y)=true:=h;rw[zf]at h;have f:=Sp.A5 h.1;have e:=Sp.A5 h.2;obtain⟨x,rfl⟩:=zh f.1;obtain⟨y,rfl⟩:=zh e.1;have f:x<18446744073709551616:=ae
 have e:y<18446744073709551616:=ae
 obtain⟨p,j,m,k⟩:=Go.Lib.mul64_hi x y f e;have n:=y7 (a:=x/4294967296) (b:=y/4294967296) ae ae;have o:=y7 (a:=x/4294967296) (b:=y % 4294967296) ae ae;have q:=y7 (a:=x % 4294967296) (b:=y/4294967296) ae ae;refine yf (Aj (x:Int) (y:Int))<|ze rfl (ze rfl (ze rfl (ze rfl (ze rfl (zg<|zu rfl rfl ?_)))));refine Prod.ext ?_ ?_
 ·show zc zd (zc zd (zc zd (zn (x:Int) ((2:Int)^(32:Nat))*zn (y:Int) ((2:Int)^(32:Nat)))+zn (zc zd<|zc zd (zn (x:Int) ((2:Int)^(32:Nat))*Is zd (y:Int) (4294967295:Int))+zn (zc zd<|Is zd (x:Int) (4294967295:Int)*Is zd (y:Int) (4294967295:Int)) ((2:Int)^(32:Nat))) ((2:Int)^(32:Nat)))+zn (zc zd<|Is zd (zc zd<|zc zd (zn (x:Int) ((2:Int)^(32:Nat))*Is zd (y:Int) (4294967295:Int))+zn (zc zd<|Is zd (x:Int) (4294967295:Int)*Is zd (y:Int) (4294967295:Int)) ((2:Int)^(32:Nat))) (4294967295:Int)+zc zd (Is zd (x:Int) (4294967295:Int)*zn (y:Int) ((2:Int)^(32:Nat)))) ((2:Int)^(32:Nat)))=Sb x y;have l:Sb x y=((x*y/18446744073709551616:Nat):Int):=by unfold Sb;omega
  rw[l, <-k];have g:x*y/18446744073709551616<18446744073709551616:=Nat.div_lt_of_lt_mul<|Nat.mul_lt_mul'' f e;rw[<-k]at g;simp only[cN,Rn x f,Rn y e];simp only[<-yq];generalize (x/4294967296)*(y/4294967296)=a at*;generalize (x/4294967296)*(y % 4294967296)=b at*;generalize (x % 4294967296)*(y/4294967296)=c at*;generalize (x % 4294967296)*(y % 4294967296)=d at*;rw[mP d ae,mP a ae,mP b ae,mP c ae,cN, <-yx,mP _ j,cN,Rn _ j, <-yx, <-yx,mP _ m,cN,mP (a+_) ae, <-yx,mP _ g]
 ·show zc .u64 ((x:Int)*y)=IJ x y;unfold IJ;exact Mm _
end T177
theorem kC{x y o c:Int}(d:Sp.u64 x=true)(e:Sp.u64 y=true)(g:Sp.u64 o=true)(f:Sp.u64 c=true):
  Sp.u64 (IJ x y)=true/\Sp.u64 (IC (IJ x y) o 0)=true/\Sp.u64 (IC (IC (IJ x y) o 0) c 0)=true/\
  zc .u64 (zc .u64 (Sb x y+Qo (IJ x y) o 0)+Qo (IC (IJ x y) o 0) c 0)=(x*y+o+c)/18446744073709551616/\
  Sp.u64 ((x*y+o+c)/18446744073709551616)=true/\
  IC (IC (IJ x y) o 0) c 0+18446744073709551616*((x*y+o+c)/18446744073709551616)=x*y+o+c:=by
 have d:=Sp.A5 d;have e:=Sp.A5 e;have g:=Sp.A5 g;have f:=Sp.A5 f;have h0:0<=x*y:=zq d.1 e.1;have h:x*y<=18446744073709551615*18446744073709551615:=by
  have a:=z8 (show y<=18446744073709551615 by omega) d.1;have b:=zi (show x<=18446744073709551615 by omega) (show(0:Int)<=18446744073709551615 by omega);omega
 unfold IJ Sb IC Qo;generalize x*y=P at*;refine⟨CZ ae ae,CZ ae ae,CZ ae ae,?_,CZ ae ae,by omega⟩;rw[Mm,Mm];omega
namespace T181
theorem A2(x y:List Int)(n i:Nat)(L:i<x.length)(K:n=x.length+y.length)(g:x.length<=9000)(f:y.length<=9000)(w:Az Ap x)(u:Az Ap y)(p:List Int)(hp:p.length=i+y.length)(b:Az Ap p)
  (t:∀q c,q.length=i+y.length->Az Ap q->Sp.u64 c=true->zy Ap q+(Ap:Int)^(i+y.length)*c=zy Ap p+(Ap:Int)^i*(x.getD i 0*zy Ap y)->Ends Mj (L1 y n x x.length ((i+1:Nat):Int)<|(q++[c])++zm (n-(i+y.length+1)) 0) Q):∀(k j:Nat) (q:List Int) (c:Int),j+k=y.length->q.length=i+j->Az Ap q->Sp.u64 c=true->zy Ap q+(Ap:Int)^(i+j)*c=zy Ap (p.take<|i+j)+(Ap:Int)^i*(x.getD i 0*zy Ap (y.take j))->
  Ends Mj (L2 y n i (x.getD i 0) c x x.length i y y.length j<|q++(p.drop (i+j)++zm (n-(i+y.length)) 0)) Q
 |0,j,q,c,m,a,l,d,o=>by
  have m:j=y.length:=ae
  subst m;have h:zc .i64 ((i:Int)+(y.length:Int))=((i+y.length:Nat):Int):=by rw[wr _ ae ae];omega
  have e:zc .i64 ((i:Int)+1)=((i+1:Nat):Int):=by rw[wr _ ae ae];omega
  have I:p.drop (i+y.length)=[]:=List.drop_eq_nil_of_le ae;refine yj (AG ..) (yh (by simp) ?_);rw[h,e,zl,I,List.nil_append,J4 q n _ c a ae];refine ze (by simp;omega) (ze (by simp;omega)<|t q c a l d ?_);rw[o,zr ae,yn]
 |k+1,j,q,c,m,a,l,d,o=>by
  have r:=AZ w i;have v:=AZ u j;have A:=AZ b<|i+j;have s:p.drop (i+j)=p.getD (i+j) 0::p.drop (i+j+1):=by
   rw[zo,z6 ae];exact yo ae
  have h:zc .i64 ((i:Int)+(j:Int))=((i+j:Nat):Int):=by rw[wr _ ae ae];omega
  have e:zc .i64 ((j:Int)+1)=((j+1:Nat):Int):=by rw[wr _ ae ae];omega
  have lo:(q++(p.drop (i+j)++zm (n-(i+y.length)) (0:Int))).length=n:=by simp;omega
  have J:(q++(p.drop (i+j)++zm (n-(i+y.length)) (0:Int))).getD (i+j) 0=p.getD (i+j) 0:=by
   rw[s,qf];exact D0 _ _ _ _ a
  have s1:∀z,(q++(p.drop (i+j)++zm (n-(i+y.length)) (0:Int))).set (i+j) z=(q++[z])++(p.drop (i+(j+1))++zm (n-(i+y.length)) 0):=by
   intro z;rw[s,qf,DN _ _ _ _ a,qc];rfl
  obtain⟨H,M,G,E,C,F⟩:=kC r v A d;refine yj (AG ..) (ze (by simp;omega) ?_);rw[h,e,zl,zl,J,s1,E];have t1:(decide ((0:Int)<=((i+j:Nat):Int))&&decide (((i+j:Nat):Int)<(n:Int)))=true:=by simp;omega
  refine ze (by simp;omega) (ze (by rw[r,v];rfl)<|ze t1<|ze (w4<|by rw[lo];omega) (ze (by rw[H,A];rfl)<|ze (by rw[M,d];rfl)<|ze t1<|ze (w4<|by rw[lo];omega) ?_));refine A2 x y n i L K g f w u p hp b t k (j+1) _ _ ae (by simp;omega) (Es l G) C ?_;have B:i+(j+1)=(i+j)+1:=ae
  have D:(Ap:Int)^i*(x.getD i 0*((Ap:Int)^j*y.getD j 0))=(Ap:Int)^(i+j)*(x.getD i 0*y.getD j 0):=by
   rw[Int.pow_add,zp,Int.mul_left_comm<|x.getD i 0]
  rw[B,Fm,a,LX,qd, <-z7,F,AI _ p<|i+j,AI _ y j,z7,z7,z7<|x.getD i 0,z7,D];omega
theorem Ar(x y:List Int)(n:Nat)(f:n=x.length+y.length)(d:x.length<=9000)(b:y.length<=9000)(o:Az Ap x)(m:Az Ap y)(l:∀ob,Q (.dat DE<|BC<|At x*At y) ob):∀(k i:Nat) (p:List Int),i+k=x.length->p.length=i+y.length->Az Ap p->zy Ap p=zy Ap (x.take i)*zy Ap y->
  Ends Mj (L1 y n x x.length i<|p++zm (n-(i+y.length)) 0) Q
 |0,i,p,j,hp,a,e=>by
  have j:i=x.length:=ae
  subst j;have t:p++zm (n-(x.length+y.length)) (0:Int)=p:=by rw[f,Nat.sub_self];simp
  have g:At p=At x*At y:=by
   rw[yn]at e;exact e
  rw[t];refine yj (Al ..) (yh (by simp) ?_);rw[zr ae];refine ze ?_<|zg ?_
  ·rw[EJ ae a];simp;omega
  ·rw[Mo a,g];exact l _
 |k+1,i,p,j,hp,a,e=>by
  refine yj (Al ..) (ze (by simp;omega) ?_);rw[zl];refine ze (by simp;omega) ?_;have h0:zy Ap (p.take<|i+y.length)=zy Ap p:=by rw[zr ae]
  have:=A2 (Q:=Q) x y n i ae f d b o m p hp a (fun q c s h r g=>by
   have:=Ar x y n f d b o m l k (i+1) (q++[c]) ae (by simp;omega) (Es h r) (by
    rw[Fm,s,g,e,AI,zx,zp])
   rw[show i+1+y.length=i+y.length+1 by omega]at this;exact this) y.length 0 (p.take i) 0 ae (by simp;omega) (AS a i) rfl (by simp[zy])
  rw[Nat.add_zero, <-qc,List.take_append_drop]at this;exact this
theorem ok(b:∀g sp,Mj.sp g=some sp->Af A8 g sp):Af A8 181 oL:=by
 refine GP (X:=Mj) rfl b (d:=9) ag ag ag (fun(i:List Int×List Int) a=>?_) (Bd ag);obtain⟨x,y⟩:=i;have a:(Sp.hW x&&Sp.hW y)=true:=a;rw[zf]at a;obtain⟨x1,x2⟩:=YW a.1;obtain⟨y1,y2⟩:=YW a.2;have c:∀ob,Ad oL (x,y) (.dat DE<|BC<|At x*At y) ob:=fun ob=>zu rfl rfl rfl
 have f:zc .i64 ((x.length:Int)+(y.length:Int))=((x.length+y.length:Nat):Int):=by rw[wr _ ae ae];omega
 refine yf (Aj x y) ?_;conv=>zeta
 rw[f,zl];refine ze (by simp;omega) ?_;have:=Ar x y (x.length+y.length) rfl x1 y1 x2 y2 c x.length 0 (zm y.length 0) ae (by simp) (fun d e=>by
  obtain⟨_,rfl⟩:=List.mem_replicate.1 e;exact⟨by decide,by decide⟩) (by rw[Nr];simp[zy])
 rw[Nat.zero_add,List.replicate_append_replicate,show y.length+(x.length+y.length-y.length)=x.length+y.length by omega]at this;exact this
end T181
theorem FU:CX Mj:=
 Aa T178.ok (Aa T208.ok<|Aa T217.ok<|Aa T209.ok<|Aa T177.ok AE)
theorem Tl:CX XI2:=
 Aa (T179.ok FU) (Aa (T180.ok FU)<|Aa (T186.ok FU)<|Aa (T188.ok FU)<|Aa T187.ok<|Aa (T181.ok FU)<|Aa T177.ok<|Aa T178.ok AE)
end Go.Pe
namespace Go.Sp
def Bh(a:AK):Bool:=Dt a&&decide (a.2.length<=9000)
def eU(a b:AK):Int:=Ck (vI a)<|vI b
def Ix(a:AK):Int:=NQ<|vI a
end Go.Sp
namespace Go.Pe
open Sp
open Go.Det
def Vq:Am:=⟨[A4],fun a=>Sp.Dt a,[A4],fun a=>(EU a,EW a),false⟩
def zJ:Am:=⟨[A4],fun a=>Sp.Dt a,[A4],fun a=>(QN a,P6 a),false⟩
def Kw:Am:=⟨[A4],fun a=>Sp.Dt a,[i64],fun a=>Ix a,false⟩
def PT:Am:=⟨[A4,A4],fun i=>Bh i.1&&Bh i.2,[A4],fun i=>(Kl i.1 i.2,Kp i.1 i.2),false⟩
def oA:Am:=⟨[A4,A4],fun i=>Bh i.1&&Bh i.2,[A4],fun i=>(Zd i.1 i.2,Y3 i.1 i.2),false⟩
def Sm:Am:=⟨[A4,A4],fun i=>Bh i.1&&Bh i.2,[A4],fun i=>(Fq i.1 i.2,Fx i.1 i.2),false⟩
def lK:Am:=⟨[A4,A4],fun i=>Bh i.1&&Bh i.2,[i64],fun i=>eU i.1 i.2,false⟩
def XJ1:AT:=X7 [(143,Vq),(139,PT)]
def XJ2:AT:=X7 [(160,oA),(161,Kw)]
section
open List Int Prod
namespace T143
def T(a:AK):Tr:=tree XI2 false 9 143<|Ae ([A4]) a
theorem Aj(a:AK):T a=let b:=BC<|Ah<|Sp.vI a;let b':=Sp.sg (!decide (Sp.vI a<0))<|At b;let c:Tr:=.ck (Sp.Dt a)<|.ck (Cu b)<|.leaf (yp [.dat i64<|C4 b',.dat wU<|C3 b']) [];.ite (!decide (0<length (snd a))) (.ite (fst a !=(-9223372036854775808)) (.leaf (yp [.dat i64<|zc .i64<|0-fst a,.nil]) []) c) c:=by kernel_rfl
end T143
namespace T139
def T(a b:AK):Tr:=tree XI2 false 9 139<|Ae ([A4,A4]) (a,b)
theorem Aj(a b:AK):T a b=let b':=BC<|Ah<|Sp.vI a;let c:=BC<|Ah<|Sp.vI b;let g:=BC<|At b'+At c;let h':=BC<|At b'-At c;let i:=BC<|At c-At b';let f:=Sp.sg (decide (Sp.vI a<0))<|At g;let h:=Sp.sg (decide (Sp.vI a<0))<|At h';let e:=Sp.sg (decide (Sp.vI b<0))<|At i;let d:Tr:=.ck (Sp.Dt a)<|.ck (Sp.Dt b)<|.ite (decide (Sp.vI a<0)==decide (Sp.vI b<0)) (.ck (Sp.hW b'&&Sp.hW c)<|.ck (Cu g)<|.leaf (yp [.dat i64<|C4 f,.dat wU<|C3 f]) [])<|.ck (Cu b'&&Cu c)<|.di (Ck (At b') (At c)>=0) (.ck (C5 b'&&C5 c&&decide (At c<=At b'))<|.ck (Cu h')<|.leaf (yp [.dat i64<|C4 h,.dat wU<|C3 h]) [])<|.ck (C5 c&&C5 b'&&decide (At b'<=At c))<|.ck (Cu i)<|.leaf (yp [.dat i64<|C4 e,.dat wU<|C3 e]) [];.ite (!decide (0<length (snd a))) (.ite (!decide (0<length (snd b))) (.ite (decide (zc .i64 (fst a+fst b)>fst a)==decide (fst b>0)) (.leaf (yp [.dat i64<|zc .i64<|fst a+fst b,.nil]) []) d) d) d:=by kernel_rfl
end T139
namespace T127
def T(a b:AK):Tr:=tree XI2 false 9 127<|Ae ([A4,A4]) (a,b)
theorem Aj(a b:AK):T a b=let d:=Ah<|fst a;let c:=Ah<|fst b;let f:=BC<|Ah<|Sp.vI a;let g:=BC<|Ah<|Sp.vI b;let b':=BC<|At f*At g;let h:=Sp.sg (!decide (Sp.vI a<0)==decide (Sp.vI b<0))<|At b';let e:Tr:=.ck (Sp.Dt a)<|.ck (Sp.Dt b)<|.ck (Sp.hW f&&Sp.hW g)<|.ck (Cu b')<|.leaf (yp [.dat i64<|C4 h,.dat wU<|C3 h]) [];.ite (!decide (0<length (snd a))) (.ite (!decide (0<length (snd b))) (.ck (Cn<|fst a)<|.ck (Cn<|fst b)<|.ck (Sp.u64 d&&Sp.u64 c)<|.ite (Sb d c==0) (.di (IJ d c<=9223372036854775807) (.ite (!decide (fst a<0)==decide (fst b<0)) (.leaf (yp [.dat i64<|zc .i64<|0-zc .i64 (IJ d c),.nil]) [])<|.leaf (yp [.dat i64<|zc .i64<|IJ d c,.nil]) []) e) e) e) e:=by kernel_rfl
end T127
namespace T202
def T(a:AK):Tr:=tree XJ1 false 9 202<|Ae ([A4]) a
theorem Aj(a:AK):T a=.di (fst a<0) (.ck (Sp.Dt a)<|.leaf (yp [.dat i64<|EU a,.dat wU<|EW a]) []) (.leaf (yp [.dat i64<|fst a,.dat wU<|snd a]) []):=by kernel_rfl
end T202
namespace T161
def T(a:AK):Tr:=tree nL false 9 161<|Ae ([A4]) a
theorem Aj(a:AK):T a=.leaf (.dat i64<|imax (-1)<|E2 1<|fst a) []:=by kernel_rfl
end T161
namespace T160
def T(a b:AK):Tr:=tree XJ1 false 9 160<|Ae ([A4,A4]) (a,b)
theorem Aj(a b:AK):T a b=.ck (Sp.Dt b) (.ck (Bh a&&Bh (EU b,EW b))<|.leaf (yp [.dat i64<|Kl a (EU b,EW b),.dat wU<|Kp a (EU b,EW b)]) []):=by kernel_rfl
end T160
namespace T105
def T(a b:AK):Tr:=tree XJ2 false 9 105<|Ae ([A4,A4]) (a,b)
theorem Aj(a b:AK):T a b=let c:Tr:=.ck (Bh a&&Bh b)<|.ck (Sp.Dt (Zd a b,Y3 a b))<|.leaf (.dat i64<|Ix (Zd a b,Y3 a b)) [];.ite (!decide (0<length (snd a))) (.ite (!decide (0<length (snd b))) (.di (fst a<fst b) (.leaf (.dat i64 (-1:Int)) [])<|.di (fst a>fst b) (.leaf (.dat i64 (1:Int)) [])<|.leaf (.dat i64 (0:Int)) []) c) c:=by kernel_rfl
end T105
end
theorem S5(k:Nat):((Ap^k:Nat):Int)=(Ap:Int)^k:=yk ..
theorem KJ{n:Int}{k:Nat}(h0:0<=n)(h:n<(Ap:Int)^k):(BC n).length<=k:=by
 refine Oy Ap af k n.toNat n.toNat ?_;rw[<-S5]at h;generalize Ap^k=P at*;omega
theorem Dj{n:Int}{k:Nat}(h0:0<=n)(h:n<(Ap:Int)^k)(d:k<=20000):Cu (BC n)=true/\C5 (BC n)=true/\At (BC n)=n:=by
 have c:=KJ h0 h;have a:C5 (BC n)=true:=EJ ae (F6 af n);have b:Sp.nzW (BC n)=true:=by
  unfold Sp.nzW;exact w4 (aO af n)
 exact⟨by unfold Cu;rw[a,b];rfl,a,Db af h0⟩
theorem Cc{a:AK}(h:Bh a=true):Sp.Dt a=true/\a.2.length<=9000:=by
 unfold Bh at h;rw[zf,w5]at h;exact h
theorem Yg{s:Int}{w:List Int}(a:w≠[]):Sp.vI (s,w)=if s<0 then -At w else At w:=by unfold Sp.vI;exact wc a
theorem Pw{a:AK}(h:Sp.Dt a=true):(a.2=[]/\Ah (Sp.vI a)<=9223372036854775808)\/(BC (Ah<|Sp.vI a)=a.2):=by
 obtain⟨hr,b⟩:=Ej h;obtain⟨s,w⟩:=a;have hr: -9223372036854775808<=s/\s<9223372036854775808:=hr;rcases b with b|⟨f,e,d⟩
 ·have b:w=[]:=b;subst b;refine .inl ⟨rfl,?_⟩;rw[E4];simp only[Ak];omega
 ·obtain⟨n1,g,i⟩:=Fs (l:=w) f;have e:s=1\/s= -1:=e;have d:9223372036854775808<=At w:=d;have c:w≠[]:=by rintro rfl;exact wh d af
  refine .inr ?_;have j:Ah (Sp.vI (s,w))=At w:=by rw[Yg c];simp only[Ak];split<;>omega
  rw[j];exact(Jt af g i).symm
theorem AJ(n:Int):0<=Ah n:=by simp only[Ak];omega
theorem Jk{a:AK}(h:Sp.Dt a=true){k:Nat}(f:a.2.length<=k)(d:1<=k):Ah (Sp.vI a)<(Ap:Int)^k:=by
 rcases Pw h with⟨_,c⟩|he
 ·have:=AQ (b:=Ap) af d;rw[Int.pow_one]at this;have e:(9223372036854775808:Int)<(Ap:Int):=af
  exact yd c<|Int.lt_of_lt_of_le e this
 ·have g:=Db (b:=Ap) af<|AJ<|Sp.vI a;have:=Bz (b:=Ap) af (F6 (b:=Ap) af<|Ah<|Sp.vI a);rw[g,show Sp.dg Ap (Ah<|Sp.vI a)=a.2 from he]at this;exact Int.lt_of_lt_of_le this (AQ af f)
theorem Nc{x y:Int}(d:0<=x)(h:x<(Ap:Int)^9000)(g:y<(Ap:Int)^9000):x+y<(Ap:Int)^9001/\x*y<(Ap:Int)^18000:=by
 have f:(Ap:Int)^9001=(Ap:Int)^9000*Ap:=yy ..;have e:(Ap:Int)^18000=(Ap:Int)^9000*(Ap:Int)^9000:=Int.pow_add _ 9000 9000;rw[f,e];generalize (Ap:Int)^9000=P at*;refine⟨?_,?_⟩
 ·show x+y<P*18446744073709551616;omega
 ·have a:=z8 (show y<=P-1 by omega) d;have b:=zi (show x<=P-1 by omega) (show 0<=P-1 by omega);have c:(P-1)*(P-1)=P*P-P-P+1:=by
   rw[Int.sub_mul,qo];omega
  omega
theorem DS(n:Bool)(v:Int):Sp.sg n v=if n=true then -v else v:=rfl
theorem CL(n:Int):Sp.vI (Dd n)=n:=by
 unfold Dd;split
 ·exact E4
 ·have a:=Db (b:=Ap) af<|AJ n;have c:BC (Ah n)≠[]:=by
   intro h;rw[show Sp.dg Ap (Ah n)=[]from h]at a;have:(0:Int)=Ah n:=a;simp only[Ak]at this;omega
  rw[Yg c,show At (BC<|Ah n)=Ah n from a];simp only[Ak];split<;>split<;>omega
theorem ZR{a:AK}{c:Bool}(h:(!decide (0<a.2.length))=c):(c=true->a.2=[])/\(c=false->a.2≠[]):=by
 subst h;rcases a with⟨s,w⟩
 cases w<;>simp
theorem OY{a:AK}(h:(!decide (0<a.2.length))=true):a.2=[]:=(ZR h).1 rfl
theorem jV{a:AK}(h:(!decide (0<a.2.length))=false):a.2≠[]:=(ZR h).2 rfl
theorem Br{a:AK}(h:a.2=[]):Sp.vI a=a.1:=by unfold Sp.vI;exact wd h
theorem words{a:AK}(h:Bh a=true):Sp.Dt a=true/\Sp.hW (BC<|Ah<|Sp.vI a)=true/\Cu (BC<|Ah<|Sp.vI a)=true/\C5 (BC<|Ah<|Sp.vI a)=true/\At (BC<|Ah<|Sp.vI a)=Ah (Sp.vI a)/\Ah (Sp.vI a)<(Ap:Int)^9000:=by
 obtain⟨c,e⟩:=Cc h;have b:=Jk c e ae;obtain⟨n,d,v⟩:=Dj (AJ _) b ae;have f:=KJ (AJ _) b;refine⟨c,?_,n,d,v,b⟩;unfold Sp.hW;rw[d,yb];exact w4 f
theorem Ab{a b:Bool}(c:a=true)(d:b=true):(a&&b)=true:=by rw[c,d];rfl
theorem wn{i:Nat}(h:i<9223372036854775807):zc .i64 ((i:Int)+1)=((i+1:Nat):Int):=by rw[wr _ ae ae];omega
theorem ad{p q:Prop}[Decidable p][Decidable q](a:p)(b:q):(decide p&&decide q)=true:=Ab (w4 a)<|w4 b
theorem nb{i n:Nat}(h:i<n):(decide ((0:Int)<=(i:Int))&&decide ((i:Int)<(n:Int)))=true:=ad ae ae
theorem Mr(n:Int):Sp.NQ n=if n<0 then -1 else if n>0 then 1 else 0:=rfl
theorem AbP{a:AK}(h:Sp.Dt a=true):imax (-1) (E2 1 a.1)=Sp.NQ (Sp.vI a):=by
 obtain⟨hr,b⟩:=Ej h;obtain⟨s,w⟩:=a;rcases b with b|⟨g,c,f⟩
 ·have b:w=[]:=b;subst b;rw[E4,Mr,oN];show imax (-1) (if (1:Int)<=s then 1 else s)=_;unfold imax;split<;>split<;>split<;>(try split)<;>omega
 ·have c:s=1\/s= -1:=c;have f:9223372036854775808<=At w:=f;have d:w≠[]:=by rintro rfl;exact wh f af
  rw[Yg d,Mr];rcases c with rfl|rfl
  ·have e:(if (1:Int)<0 then -At w else At w)=At w:=wc af;rw[e,wc (show ¬At w<0 by omega),wd<|show At w>0 by omega];show imax (-1) (E2 1 1)=1;decide
  ·have e:(if (-1:Int)<0 then -At w else At w)= -At w:=wd af;rw[e,wd<|show -At w<0 by omega];show imax (-1) (E2 1<| -1)= -1;decide
namespace T143
theorem ok:Af A8 143 Vq:=by
 refine BR Tl<|fun(a:Int×List Int) b=>?_;have b:Sp.Dt a=true:=b;have f:Cu (BC<|Ah<|Sp.vI a)=true/\At (BC<|Ah<|Sp.vI a)=Ah (Sp.vI a):=by
  refine⟨?_,Db af<|AJ _⟩;rcases Pw b with⟨_,i⟩|he
  ·have:(9223372036854775808:Int)<(Ap:Int)^1:=af
   exact(Dj (AJ _) (yd i this) ae).1
  ·obtain⟨_,e⟩:=Ej b;rw[he];rcases e with e|⟨j,_⟩
   ·rw[e];decide+kernel
   ·exact j
 have g:Sp.sg (!decide (Sp.vI a<0)) (At<|BC<|Ah<|Sp.vI a)= -Sp.vI a:=by
  rw[f.2,DS,Ak];rcases zw (Sp.vI a) 0 with h|h
  ·rw[w4 h];simp;omega
  ·rw[w8 ae];simp;omega
 have hr:=(Ej b).1;refine yf (Aj a)<|zk (fun c=>zk (fun d=>zg<|zu rfl rfl ?_)<|fun d=>ze b<|ze f.1<|zg<|zu rfl rfl ?_)<|fun c=>ze b<|ze f.1<|zg<|zu rfl rfl ?_
 ·have c:=OY c;have d:a.1≠ -9223372036854775808:=by simpa using d
  show(zc .i64<|0-a.1,[])=Du a;unfold Du;rw[wd ⟨c,d⟩,wr _ ae ae,Int.zero_sub]
 ·have d:a.1= -9223372036854775808:=by simpa using d
  show Dd (Sp.sg (!decide (Sp.vI a<0))<|At<|BC<|Ah<|Sp.vI a)=Du a;unfold Du;rw[wc<|fun h=>h.2 d,g]
 ·have c:=jV c;show Dd (Sp.sg (!decide (Sp.vI a<0))<|At<|BC<|Ah<|Sp.vI a)=Du a;unfold Du;rw[wc<|fun h=>c h.1,g]
end T143
namespace T139
theorem ok:Af A8 139 PT:=by
 refine BR Tl<|fun(i:(Int×List Int)×(Int×List Int)) n=>?_;obtain⟨a,b⟩:=i;have n:(Bh a&&Bh b)=true:=n;rw[zf]at n;obtain⟨a1,a2,a3,a4,a5,a6⟩:=words n.1;obtain⟨b1,b2,b3,b4,b5,b6⟩:=words n.2;have w:=(Ej a1).1;have y:=(Ej b1).1;have x:=AJ<|Sp.vI a;have nb:=AJ<|Sp.vI b;obtain⟨t1,_⟩:=Nc x a6 b6;have t:∀v ob,ES a b=Dd v->Ad PT (a,b) (.agg [.dat i64<|C4 v,.dat (.nlist<|.int .u64)<|C3 v]) ob:=fun v ob h=>zu rfl rfl (by
  show Dd v=ES a b;rw[h])
 have mono:(Ap:Int)^9000<=(Ap:Int)^9001:=AQ af ae;have l:decide (Sp.vI a<0)=decide (Sp.vI b<0)->Sp.sg (decide (Sp.vI a<0)) (At<|BC<|At (BC<|Ah<|Sp.vI a)+At (BC<|Ah<|Sp.vI b))=Sp.vI a+Sp.vI b:=by
  intro e;rw[a5,b5,show At (BC<|Ah (Sp.vI a)+Ah (Sp.vI b))=_ from Db af ae,DS,Ak,Ak];rcases zw (Sp.vI a) 0 with h|h
  ·rw[w4 h]at e ⊢;have:=w6 e.symm;simp only[wk];omega
  ·rw[w8 ae]at e ⊢;have:=w7 e.symm;simp only[y8,vg];omega
 have k:decide (Sp.vI a<0)≠decide (Sp.vI b<0)->Ah (Sp.vI b)<=Ah (Sp.vI a)->Sp.sg (decide (Sp.vI a<0)) (At<|BC<|At (BC<|Ah<|Sp.vI a)-At (BC<|Ah<|Sp.vI b))=Sp.vI a+Sp.vI b:=by
  intro e r;rw[a5,b5,show At (BC<|Ah (Sp.vI a)-Ah (Sp.vI b))=_ from Db af ae,DS,Ak,Ak];rcases zw (Sp.vI a) 0 with h|h
  ·rw[w4 h]at e ⊢;have:¬Sp.vI b<0:=fun h=>e (w4 h).symm
   simp only[wk];omega
  ·rw[w8 ae]at e ⊢;have:Sp.vI b<0:=by
    rcases zw (Sp.vI b) 0 with h|h
    ·exact h
    ·exact wh (w8 ae).symm e
   simp only[y8,vg];omega
 have j:decide (Sp.vI a<0)≠decide (Sp.vI b<0)->Ah (Sp.vI a)<=Ah (Sp.vI b)->Sp.sg (decide (Sp.vI b<0)) (At<|BC<|At (BC<|Ah<|Sp.vI b)-At (BC<|Ah<|Sp.vI a))=Sp.vI a+Sp.vI b:=by
  intro e r;rw[a5,b5,show At (BC<|Ah (Sp.vI b)-Ah (Sp.vI a))=_ from Db af ae,DS,Ak,Ak];rcases zw (Sp.vI b) 0 with h|h
  ·rw[w4 h]at e ⊢;have:¬Sp.vI a<0:=fun h=>e<|w4 h
   simp only[wk];omega
  ·rw[w8<|show ¬Sp.vI b<0 by omega]at e ⊢;have:Sp.vI a<0:=by
    rcases zw (Sp.vI a) 0 with h|h
    ·exact h
    ·exact wh (w8 ae) e
   simp only[y8,vg];omega
 have n1:Cu (BC<|At (BC<|Ah<|Sp.vI a)+At (BC<|Ah<|Sp.vI b))=true:=by
  rw[a5,b5];exact(Dj ae t1 ae).1
 have A:Ah (Sp.vI b)<=Ah (Sp.vI a)->Cu (BC<|At (BC<|Ah<|Sp.vI a)-At (BC<|Ah<|Sp.vI b))=true:=by
  intro h;rw[a5,b5];exact(Dj ae (yd ae a6) ae).1
 have B:Ah (Sp.vI a)<=Ah (Sp.vI b)->Cu (BC<|At (BC<|Ah<|Sp.vI b)-At (BC<|Ah<|Sp.vI a))=true:=by
  intro h;rw[a5,b5];exact(Dj ae (yd ae b6) ae).1
 have f:∀ {c:Bool},decide (Ck (At<|BC<|Ah<|Sp.vI a) (At<|BC<|Ah<|Sp.vI b)>=0)=c->(c=true->Ah (Sp.vI b)<=Ah (Sp.vI a))/\(c=false->Ah (Sp.vI a)<=Ah (Sp.vI b)):=by
  intro c h;subst h;rw[a5,b5,w5,w9];unfold Ck;constructor
  ·intro h;split at h<;>omega
  ·intro h;split at h
   ·omega
   ·split at h<;>omega
 refine yf (Aj a b)<|zk (fun m=>zk (fun o=>zk (fun g=>zg<|zu rfl rfl ?_)<|fun g=>?_)<|fun o=>?_)<|fun m=>?_
 ·have m:=OY m;have o:=OY o;have p:zc .i64 (a.1+b.1)=a.1+b.1:=by
   rw[wj]at g;rcases zw (a.1+b.1) (-9223372036854775808)with h|h
   ·exfalso;have e:zc .i64 (a.1+b.1)=a.1+b.1+18446744073709551616:=by rw[qg];omega
    rw[e,w4 ae,w8 ae]at g;cases g
   ·rcases zw (a.1+b.1) 9223372036854775808 with q|q
    ·exact wr _ ae ae
    ·exfalso;have e:zc .i64 (a.1+b.1)=a.1+b.1-18446744073709551616:=by rw[qg];omega
     rw[e,w8 ae,w4 ae]at g;cases g
  have hr:Cn (a.1+b.1)=true:=by
   have: -9223372036854775808<=zc .i64 (a.1+b.1)/\zc .i64 (a.1+b.1)<9223372036854775808:=by rw[qg];omega
   rw[p]at this;unfold Cn;rw[zf,w5,w5];exact this
  show(zc .i64<|a.1+b.1,[])=ES a b;unfold ES;rw[wd ⟨m,o,hr⟩,p]
 all_goals
  have s:ES a b=Dd (Sp.vI a+Sp.vI b):=by
   unfold ES;refine wc<|fun h=>?_;obtain⟨z,q,u⟩:=h;first
    |exact jV m z
    |exact jV o q
    |(have u:=EG u
      have p:zc .i64 (a.1+b.1)=a.1+b.1:=wr _ ae ae;rw[p,vc]at g;refine g ?_;rcases zw 0 b.1 with h|h
      ·rw[w4 (show a.1+b.1>a.1 by omega),w4 h]
      ·rw[w8 (show ¬a.1+b.1>a.1 by omega),w8<|show ¬b.1>0 by omega])
  refine ze a1<|ze b1<|zk (fun e=>ze (Ab a2 b2)<|ze n1<|zg<|t _ _ ?_)<|fun e=>ze (Ab a3 b3)<|zk (fun d=>ze ?_<|ze (A<|(f d).1 rfl)<|zg<|t _ _ ?_)<|fun d=>ze ?_<|ze (B<|(f d).2 rfl)<|zg<|t _ _ ?_
  ·rw[s];exact wi _ (l<|by simpa using e).symm
  ·refine Ab (Ab a4 b4)<|w4 ?_;rw[a5,b5];exact(f d).1 rfl
  ·rw[s];exact wi _ (k (by simpa using e)<|(f d).1 rfl).symm
  ·refine Ab (Ab b4 a4)<|w4 ?_;rw[a5,b5];exact(f d).2 rfl
  ·rw[s];exact wi _ (j (by simpa using e)<|(f d).2 rfl).symm
end T139
theorem Eb{n:Int}(a: -9223372036854775808<=n)(b:n<9223372036854775808):Cn n=true:=by
 unfold Cn;rw[zf,w5,w5];exact⟨a,b⟩
theorem LY{n:Int}(h:Cn n=true):Sp.Dt (n,[])=true:=by
 unfold Sp.Dt;rw[h];rfl
theorem Oo{n:Int}{k:Nat}(h:Ah n<(Ap:Int)^k)(b:k<=20000):Sp.Dt (Dd n)=true/\(Dd n).2.length<=k:=by
 unfold Dd;split
 ·next c=>exact⟨LY (Eb ae ae),Nat.zero_le _⟩
 ·next c=>
  obtain⟨n1,e,a⟩:=Dj (AJ n) h b;refine⟨?_,KJ (AJ n) h⟩;have d:9223372036854775808<=Ah n:=by rw[Ak];omega
  unfold Sp.Dt;refine Ab (Eb ?_ ?_) ?_
  ·show -9223372036854775808<=(if n<0 then -1 else 1);split<;>decide
  ·show(if n<0 then -1 else 1)<9223372036854775808;split<;>decide
  ·rw[ql];refine .inr (Ab (Ab n1 ?_) (w4<|by show _<=At (BC<|Ah n);rw[a];exact d));show(decide ((if n<0 then(-1:Int)else 1)=1)||decide ((if n<0 then(-1:Int)else 1)= -1))=true;split<;>rfl
theorem IT(a:AK):Sp.vI (Du a)= -Sp.vI a:=by
 unfold Du;split
 ·next h=>rw[E4,Br h.1]
 ·exact CL _
theorem Jv(n:Int):Ah (-n)=Ah n:=by rw[Ak,Ak];omega
theorem Xz{a:AK}(h:Sp.Dt a=true){k:Nat}(b:1<=k)(d:k<=20000)(e:a.2.length<=k):Sp.Dt (Du a)=true/\(Du a).2.length<=k:=by
 have hr:=(Ej h).1;unfold Du;split
 ·next c=>exact⟨LY (Eb ae ae),Nat.zero_le _⟩
 ·exact Oo (by rw[Jv];exact Jk h e b) d
theorem Vx{a:AK}(h:Bh a=true):Bh (Du a)=true:=by
 obtain⟨b,c⟩:=Cc h;obtain⟨h3,h4⟩:=Xz b (k:=9000) ae ae c;unfold Bh;exact Ab h3<|w4 h4
theorem xG{a:AK}(h:Sp.Dt a=true):a.1<0↔Sp.vI a<0:=by
 obtain⟨_,b⟩:=Ej h;obtain⟨s,w⟩:=a;rcases b with b|⟨_,e,d⟩
 ·have b:w=[]:=b;subst b;rw[E4]
 ·have e:s=1\/s= -1:=e;have d:9223372036854775808<=At w:=d;have c:w≠[]:=by rintro rfl;exact wh d af
  rw[Yg c];show s<0↔_;split<;>omega
theorem Xg(a b:AK):Sp.vI (ES a b)=Sp.vI a+Sp.vI b:=by
 unfold ES;split
 ·next h=>rw[E4,Br h.1,Br h.2.1]
 ·exact CL _
theorem vO(x y:Int):Ah (x+y)<=Ah x+Ah y:=by
 rw[Ak,Ak,Ak];omega
theorem JF(x y:Int):Ah (x*y)=Ah x*Ah y:=by
 rw[Ak,Ak,Ak,Int.natAbs_mul,yq]
theorem bounds{a:AK}(h:Bh a=true):Ah (Sp.vI a)<(Ap:Int)^9000:=(words h).2.2.2.2.2
theorem T0{a b:AK}(c:Bh a=true)(d:Bh b=true):Sp.Dt (ES a b)=true:=by
 unfold ES;split
 ·next h=>exact LY h.2.2
 ·exact(Oo (yd (vO _ _) (Nc (AJ _) (bounds c)<|bounds d).1) ae).1
theorem hJ(a b:AK):Sp.vI (Oa a b)=Sp.vI a-Sp.vI b:=by
 unfold Oa;rw[Xg,IT];omega
theorem DQ(a b:AK):Sp.vI (FN a b)=Sp.vI a*Sp.vI b:=CL _
theorem YV:CX XJ1:=
 Aa T143.ok (Aa T139.ok AE)
namespace T161
theorem ok:Af A8 161 Kw:=by
 refine BR JT<|fun(a:Int×List Int) b=>?_;have b:Sp.Dt a=true:=b;exact yf (Aj a)<|zg<|zu rfl rfl (AbP b)
end T161
namespace T202
theorem ok:Af A8 202 zJ:=by
 refine BR YV<|fun(a:Int×List Int) b=>?_;have b:Sp.Dt a=true:=b;refine yf (Aj a)<|zk (fun c=>ze b<|zg<|zu rfl rfl ?_)<|fun c=>zg<|zu rfl rfl ?_
 ·show Du a=Wo a;unfold Wo;rw[wd<|w6 c]
 ·show a=Wo a;unfold Wo;rw[wc<|w7 c]
end T202
namespace T160
theorem ok:Af A8 160 oA:=by
 refine BR YV<|fun(i:(Int×List Int)×(Int×List Int)) c=>?_;obtain⟨a,b⟩:=i;have c:(Bh a&&Bh b)=true:=c;rw[zf]at c;exact yf (Aj a b)<|ze (Cc c.2).1<|ze (Ab c.1<|Vx c.2)<|zg<|zu rfl rfl rfl
end T160
theorem sT:CX XJ2:=
 Aa T160.ok (Aa T161.ok AE)
theorem tK(x y:Int):Sp.NQ (x-y)=Ck x y:=by
 unfold Sp.NQ Ck;split
 ·rw[wd ae]
 ·split
  ·rw[wc ae,wd ae]
  ·rw[wc ae,wc ae]
namespace T105
theorem ok:Af A8 105 lK:=by
 refine BR sT<|fun(i:(Int×List Int)×(Int×List Int)) f=>?_;obtain⟨a,b⟩:=i;have f:(Bh a&&Bh b)=true:=f;have c:=f;rw[zf]at c;have j:Sp.Dt (Oa a b)=true:=by
  unfold Oa;exact T0 c.1<|Vx c.2
 have h:Ix (Oa a b)=eU a b:=by
  show Sp.NQ (Sp.vI<|Oa a b)=Ck (Sp.vI a) (Sp.vI b);rw[hJ,tK]
 refine yf (Aj a b)<|zk (fun g=>zk (fun k=>zk (fun d=>zg<|zu rfl rfl ?_)<|fun d=>zk (fun e=>zg<|zu rfl rfl ?_)<|fun e=>zg<|zu rfl rfl ?_)<|fun k=>ze f<|ze j<|zg<|zu rfl rfl h)<|fun g=>ze f<|ze j<|zg<|zu rfl rfl h;all_goals
  have m:=Br<|OY g;have l:=Br<|OY k;show _=Ck (Sp.vI a) (Sp.vI b);rw[m,l];unfold Ck
 ·rw[wd<|w6 d]
 ·rw[wc<|w7 d,wd<|w6 e]
 ·rw[wc<|w7 d,wc<|w7 e]
end T105
theorem Th(x y:Int):x*y=Sp.sg (!(decide (x<0)==decide (y<0))) (Ah x*Ah y):=by
 unfold Ah;rw[DS];by_cases a:x<0<;>by_cases b:y<0<;>simp[a,b,Int.neg_mul,Int.mul_neg]
namespace T127
theorem ok:Af A8 127 Sm:=by
 refine BR Tl<|fun(i:(Int×List Int)×(Int×List Int)) j=>?_;obtain⟨a,b⟩:=i;have j:(Bh a&&Bh b)=true:=j;rw[zf]at j;obtain⟨a1,a2,a3,a4,a5,a6⟩:=words j.1;obtain⟨b1,b2,b3,b4,b5,b6⟩:=words j.2;have d:=(Ej a1).1;have g:=(Ej b1).1;have o:=AJ<|Sp.vI a;have nb:=AJ<|Sp.vI b;obtain⟨_,t2⟩:=Nc o a6 b6;have np:0<=Ah (Sp.vI a)*Ah (Sp.vI b):=zq o nb;have n1:Cu (BC<|At (BC<|Ah<|Sp.vI a)*At (BC<|Ah<|Sp.vI b))=true:=by
  rw[a5,b5];exact(Dj np t2 ae).1
 have p:Sp.sg (!(decide (Sp.vI a<0)==decide (Sp.vI b<0))) (At<|BC<|At (BC<|Ah<|Sp.vI a)*At (BC<|Ah<|Sp.vI b))=Sp.vI a*Sp.vI b:=by
  rw[a5,b5,show At (BC<|Ah (Sp.vI a)*Ah (Sp.vI b))=_ from Db af np, <-Th]
 have r:∀ob,Ad Sm (a,b) (.agg [.dat i64<|C4<|Sp.sg (!(decide (Sp.vI a<0)==decide (Sp.vI b<0)))<|At<|BC<|At (BC<|Ah<|Sp.vI a)*At (BC<|Ah<|Sp.vI b),.dat (.nlist<|.int .u64)<|C3<|Sp.sg (!(decide (Sp.vI a<0)==decide (Sp.vI b<0)))<|At<|BC<|At (BC<|Ah<|Sp.vI a)*At (BC<|Ah<|Sp.vI b)]) ob:=fun ob=>zu rfl rfl (by
  show Dd _=Dd (Sp.vI a*Sp.vI b);rw[p])
 have q:Sp.u64 (Ah a.1)=true:=CZ (AJ _) (by rw[Ak];omega);have ub:Sp.u64 (Ah b.1)=true:=CZ (AJ _) (by rw[Ak];omega);refine yf (Aj a b)<|zk (fun l=>zk (fun n=>ze (Eb d.1 d.2)<|ze (Eb g.1 g.2)<|ze (Ab q ub)<|zk (fun e=>zk (fun h=>zk (fun c=>zg<|zu rfl rfl ?_)<|fun c=>zg<|zu rfl rfl ?_)<|fun h=>?_)<|fun e=>?_)<|fun n=>?_)<|fun l=>?_
 ·have m:=Br<|OY l;have k:=Br<|OY n;have e:(Ah a.1*Ah b.1)/18446744073709551616=0:=by simpa [Sb]using e
  have h:(Ah a.1*Ah b.1) % 18446744073709551616<=9223372036854775807:=w6 h;have p0:0<=Ah a.1*Ah b.1:=zq (AJ _)<|AJ _;have f:=Th a.1 b.1;have c:(!(decide (a.1<0)==decide (b.1<0)))=true:=c;rw[c,DS,wd rfl]at f;show(zc .i64<|0-zc .i64 ((Ah a.1*Ah b.1) % 18446744073709551616),[])=Dd (Sp.vI a*Sp.vI b);rw[m,k,f,Cf ae,wr ((Ah a.1*Ah b.1) % 18446744073709551616) ae ae,wr _ ae ae];congr 1;omega
 ·have m:=Br<|OY l;have k:=Br<|OY n;have e:(Ah a.1*Ah b.1)/18446744073709551616=0:=by simpa [Sb]using e
  have h:(Ah a.1*Ah b.1) % 18446744073709551616<=9223372036854775807:=w6 h;have p0:0<=Ah a.1*Ah b.1:=zq (AJ _)<|AJ _;have f:=Th a.1 b.1;have c:(!(decide (a.1<0)==decide (b.1<0)))=false:=c;rw[c,DS,wc af]at f;show(zc .i64<|(Ah a.1*Ah b.1) % 18446744073709551616,[])=Dd (Sp.vI a*Sp.vI b);rw[m,k,f,Cf ae,wr ((Ah a.1*Ah b.1) % 18446744073709551616) ae ae];congr 1;omega
 all_goals exact ze a1<|ze b1<|ze (Ab a2 b2)<|ze n1<|zg<|r _
end T127
end Go.Pe
namespace Go.Sp
def FC(n:Int):Int:=if n<=0 then 0 else(n.toNat.log2:Int)+1
def lz(n:Int):Int:=64-FC n
def dq(h l y:Int):Int:=(h*18446744073709551616+l)/y
def dr(h l y:Int):Int:=(h*18446744073709551616+l) % y
end Go.Sp
namespace Go.Pe
open Go.Det
def Xu:Am:=⟨[u64],fun n=>Sp.u64 n,[i64],fun n=>Sp.FC n,false⟩
def cLZ:Am:=⟨[u64],fun n=>Sp.u64 n,[i64],fun n=>Sp.lz n,false⟩
def TK:Am:=⟨[u64,u64,u64],fun i=>Sp.u64 i.1&&Sp.u64 i.2.1&&Sp.u64 i.2.2&&decide ((i.1:Int)<i.2.2),[u64,u64],fun i=>(Sp.dq i.1 i.2.1 i.2.2,Sp.dr i.1 i.2.1 i.2.2),false⟩
def XD1:AT:=X7 [(228,Xu)]
def kF:AT:=X7 [(247,cLZ)]
section
open List Int Prod
namespace T228
def T(x:Int):Tr:=tree nL false 9 228<|Ae ([zj zd]) x
theorem Aj(x:Int):T x=let b:=([0,1,2,2,3,3,3,3,4,4,4,4,4,4,4,4,5,5,5,5,5,5,5,5,5,5,5,5,5,5,5,5,6,6,6,6,6,6,6,6,6,6,6,6,6,6,6,6,6,6,6,6,6,6,6,6,6,6,6,6,6,6,6,6,7,7,7,7,7,7,7,7,7,7,7,7,7,7,7,7,7,7,7,7,7,7,7,7,7,7,7,7,7,7,7,7,7,7,7,7,7,7,7,7,7,7,7,7,7,7,7,7,7,7,7,7,7,7,7,7,7,7,7,7,7,7,7,7,8,8,8,8,8,8,8,8,8,8,8,8,8,8,8,8,8,8,8,8,8,8,8,8,8,8,8,8,8,8,8,8,8,8,8,8,8,8,8,8,8,8,8,8,8,8,8,8,8,8,8,8,8,8,8,8,8,8,8,8,8,8,8,8,8,8,8,8,8,8,8,8,8,8,8,8,8,8,8,8,8,8,8,8,8,8,8,8,8,8,8,8,8,8,8,8,8,8,8,8,8,8,8,8,8,8,8,8,8,8,8,8,8,8,8,8,8,8,8,8,8,8,8,8,8,8,8,8]:Z);let b':=zn x<|2^32;let a:=(0:Sh.T (zj qt));let c:=zn x<|2^16;let g:=zn x<|2^8;let d:=zn b'<|2^16;let f:=zn b'<|2^8;let h':=zn c<|2^8;let e:=zn d<|2^8;.di (x>=4294967296) (.ck true<|.di (zn x (2^32)>=65536) (.ck true<|.di (zn b' (2^16)>=256) (.ck true<|.ck (decide (a<=zc .u8 e)&&decide (zc .u8 e<(↑256:Int)))<|.leaf (.dat i64<|zc .i64<|zc .i64 (zc .i64 (32+16)+8)+zc .i64 (↑(yc<|getD b (toNat<|zc .u8 e) (0:UInt8)):Int)) [])<|.ck (decide (a<=zc .u8 d)&&decide (zc .u8 d<(↑256:Int)))<|.leaf (.dat i64<|zc .i64<|zc .i64 (32+16)+zc .i64 (↑(yc<|getD b (toNat<|zc .u8 d) (0:UInt8)):Int)) [])<|.di (zn x (2^32)>=256) (.ck true<|.ck (decide (a<=zc .u8 f)&&decide (zc .u8 f<(↑256:Int)))<|.leaf (.dat i64<|zc .i64<|zc .i64 (32+8)+zc .i64 (↑(yc<|getD b (toNat<|zc .u8 f) (0:UInt8)):Int)) [])<|.ck (decide (a<=zc .u8 b')&&decide (zc .u8 b'<(↑256:Int)))<|.leaf (.dat i64<|zc .i64<|32+zc .i64 (↑(yc<|getD b (toNat<|zc .u8 b') (0:UInt8)):Int)) []) (.di (x>=65536) (.ck true<|.di (zn x (2^16)>=256) (.ck true<|.ck (decide (a<=zc .u8 h')&&decide (zc .u8 h'<(↑256:Int)))<|.leaf (.dat i64<|zc .i64<|zc .i64 (zc .i64 (0+16)+8)+zc .i64 (↑(yc<|getD b (toNat<|zc .u8 h') (0:UInt8)):Int)) [])<|.ck (decide (a<=zc .u8 c)&&decide (zc .u8 c<(↑256:Int)))<|.leaf (.dat i64<|zc .i64<|zc .i64 (0+16)+zc .i64 (↑(yc<|getD b (toNat<|zc .u8 c) (0:UInt8)):Int)) [])<|.di (x>=256) (.ck true<|.ck (decide (a<=zc .u8 g)&&decide (zc .u8 g<(↑256:Int)))<|.leaf (.dat i64<|zc .i64<|zc .i64 (0+8)+zc .i64 (↑(yc<|getD b (toNat<|zc .u8 g) (0:UInt8)):Int)) [])<|.ck (decide (a<=zc .u8 x)&&decide (zc .u8 x<(↑256:Int)))<|.leaf (.dat i64<|zc .i64<|0+zc .i64 (↑(yc<|getD b (toNat<|zc .u8 x) (0:UInt8)):Int)) []):=by kernel_rfl
end T228
namespace T247
def T(x:Int):Tr:=tree XD1 false 9 247<|Ae ([zj zd]) x
theorem Aj(x:Int):T x=.ck (Sp.u64 x) (.leaf (.dat i64<|zc .i64<|64-Sp.FC x) []):=by kernel_rfl
end T247
namespace T246
def T(a lo y:Int):Tr:=tree kF false 9 246<|Ae ([zj zd,zj zd,zj zd]) (a,lo,y)
def L1(v2 g v9 a d b f e c:Int):Tr:=re ((T 0 0 0).R.R.R.L.L.L.L.L.L.L.L)<|Aw 135 [(2,.dat (zj zd) v2),(8,.dat (zj zd) g),(9,.dat (zj zd) v9),(10,.dat (zj zd) a),(11,.dat (zj zd) d),(13,.dat (zj zd) b),(14,.dat (zj zd) f),(15,.dat (zj zd) e),(16,.dat (zj zd) c)] [] 0
theorem Aj(b lo y:Int):T b lo y=let d:=decide (0<=zc .u64 (Sp.lz y));let i:=64-zc .u64 (Sp.lz y);let g:=zc .u64<|Sp.lz y;let c:=toNat g;let f:=zn lo<|2^qi (toNat<|zc .u64 i) 64;let a:=zc .u64<|y*2^qi c 64;let e:=zc .u64<|lo*2^qi c 64;let h:=zc .u64<|b*2^qi c 64;let b':=cY zd h f;let h':=zn a<|2^32;.ite (y==0) .fail (.di (y<=b) .fail<|.ite (b==0) (.cd (y≠0)<|.cd (y≠0)<|.leaf (.tup [.dat (zj zd)<|zc .u64<|yr lo y,.dat (zj zd)<|Int.tmod lo y]) [])<|.ck (Sp.u64 y)<|.ck d<|.ck true<|.ck d<|.cd (0<=zc .u64 i)<|.ck d<|.ck true<|.cd (zn a (2^32)≠0)<|L1 a g h' (Is zd a 4294967295) b' (zn e<|2^32) (Is zd e 4294967295) (zc .u64<|yr b' h')<|zc .u64<|cY zd h f-zc .u64 (zc .u64 (yr b' h')*zn a (2^32))):=by kernel_rfl
def L2(v2 g v9 c f e d a b:Int):Tr:=re ((stepT kF<|L1 0 0 0 0 0 0 0 0 0).L.L.L)<|Aw 135 [(2,.dat (zj zd) v2),(8,.dat (zj zd) g),(9,.dat (zj zd) v9),(10,.dat (zj zd) c),(14,.dat (zj zd) f),(15,.dat (zj zd) e),(16,.dat (zj zd) d),(17,.dat (zj zd) a),(18,.dat (zj zd) b)] [] 0
theorem Al(v2 g v9 b f c e a d:Int):stepT kF (L1 v2 g v9 b f c e a d)=let j:=zc .u64 (f*4294967296)+c;let k:=zc .u64<|a-1;let b':=zc .u64 j-zc .u64 (zc .u64 (a-1)*v2);let l:=zc .u64 j-zc .u64 (a*v2);let i:=zc .u64 l;let h:=zc .u64 b';let m:Tr:=.di (zc .u64 (d+v9)>=4294967296) (.cd (v9≠0)<|L2 v2 g v9 b e k (zc .u64<|zc .u64 b'-zc .u64 (zc .u64 (yr h v9)*v9)) h<|zc .u64<|yr h v9)<|L1 v2 g v9 b f c e k<|zc .u64<|d+v9;.di (a>=4294967296) m (.di (zc .u64 (a*b)>zc .u64 (zc .u64 (4294967296*d)+c)) m<|.cd (v9≠0)<|L2 v2 g v9 b e a (zc .u64<|zc .u64 l-zc .u64 (zc .u64 (yr i v9)*v9)) i<|zc .u64<|yr i v9):=by kernel_rfl
theorem AG(v2 g v9 f d c b e a:Int):stepT kF (L2 v2 g v9 f d c b e a)=let b':=zj zd;let i:=zc .u64 (e*4294967296)+d;let h:=2^qi (toNat g) 64;let j:Tr:=.di (zc .u64 (b+v9)>=4294967296) (.cd (0<=g)<|.leaf (.tup [.dat b'<|zc .u64<|zc .u64 (c*4294967296)+zc .u64 (a-1),.dat b'<|zn (zc .u64<|zc .u64 i-zc .u64 (zc .u64 (a-1)*v2)) h]) [])<|L2 v2 g v9 f d c (zc .u64<|b+v9) e<|zc .u64<|a-1;.di (a>=4294967296) j (.di (zc .u64 (a*f)>zc .u64 (zc .u64 (4294967296*b)+d)) j<|.cd (0<=g)<|.leaf (.tup [.dat b'<|zc .u64<|zc .u64 (c*4294967296)+a,.dat b'<|zn (zc .u64<|zc .u64 i-zc .u64 (a*v2)) h]) []):=by kernel_rfl
end T246
end
namespace T246
def Exact(Y u w q:Int):Prop:=q*Y<=u*4294967296+w/\u*4294967296+w<(q+1)*Y
theorem YT{Y b a u w q r:Int}(c:Y=b*4294967296+a)(d:q*b+r=u)(h:q*a>4294967296*r+w):u*4294967296+w<q*Y:=by
 subst c;rw[z7, <-zp];generalize q*b=A at*;generalize q*a=C at*;omega
theorem Lu{Y b a u w q r:Int}(c:Y=b*4294967296+a)(d:q*b+r=u)(h:q*a<=4294967296*r+w):q*Y<=u*4294967296+w:=by
 subst c;rw[z7, <-zp];generalize q*b=A at*;generalize q*a=C at*;omega
theorem VW{Y u w q:Int}(c:u<Y)(a:0<=Y)(d:w<4294967296)(b:4294967296<=q):u*4294967296+w<q*Y:=by
 have:=zi b a;omega
theorem Vr{c b u w r:Int}{n:Nat}{Y:Int}(f:Y=c*4294967296+b)(d:0<=c)(h0:0<=b/\b<4294967296)(g:u<Y)(i:0<=w)(e:(n:Int)*c+r=u)(hr:4294967296<=r):(n:Int)*Y<=u*4294967296+w:=by
 have j:(n:Int)<4294967296:=by
  rcases zw (n:Int) 4294967296 with h|h
  ·exact h
  ·have:=zi h d;omega
 refine Lu f e ?_;have a:=zi (show(n:Int)<=4294967295 by omega) h0.1;omega
theorem Ar(Y s f g u w z:Int)(v:Y=f*4294967296+g)(I:0<f/\f<4294967296)(h0:0<=g/\g<4294967296)(B:u<Y)(A:0<=w/\w<4294967296)
  (t:∀q:Int,0<=q->Exact Y u w q->Ends kF (L2 Y s f g z q (zc zd<|zc zd (zc zd (zc zd (u*(4294967296:Int))+w)-zc zd (q*Y))-zc zd (zc zd (yr (zc zd<|zc zd (zc zd (u*(4294967296:Int))+w)-zc zd (q*Y)) f)*f)) (zc zd<|zc zd (zc zd (u*(4294967296:Int))+w)-zc zd (q*Y))<|zc zd<|yr (zc zd<|zc zd (zc zd (u*(4294967296:Int))+w)-zc zd (q*Y)) f) Q):
  ∀(n:Nat) (r:Int),(n:Int)<18446744073709551616->(n:Int)*f+r=u->0<=r->r<4294967296->u*4294967296+w<((n:Int)+1)*Y->Ends kF (L1 Y s f g u w z n r) Q:=by
 intro n;induction n with
 |zero=>
  intro r F l H E h;have o:decide (f≠0)=true:=w4 ae;refine yj (Al ..) (yh (by simp)<|yh (w8 ?_)<|ze o<|t _ ae ⟨?_,h⟩)
  ·rw[show((0:Nat):Int)*g=0 by simp,wu 0 ae ae,wu (4294967296*r) ae ae,wu _ ae ae];omega
  ·exact Lu v l (by rw[show((0:Nat):Int)*g=0 by simp];omega)
 |succ n G=>
  intro r F l H E h;have o:decide (f≠0)=true:=w4 ae;have D:zc .u64 (((n+1:Nat):Int)-1)=(n:Int):=by rw[wu _ ae ae];omega
  have C:zc .u64 (r+f)=r+f:=wu _ ae ae;have x:0<=Y:=ae
  have k:(n:Int)*f+(r+f)=u:=by
   rw[show((n+1:Nat):Int)=(n:Int)+1 by omega,zx,yi]at l;omega
  have y:((n+1:Nat):Int)=(n:Int)+1:=ae
  have p:u*4294967296+w<((n:Int)+1)*Y->r+f<4294967296->Ends kF (L1 Y s f g u w z n<|r+f) Q:=fun i j=>
   G (r+f) ae k ae j i
  have cut:u*4294967296+w<((n:Int)+1)*Y->4294967296<=r+f->Exact Y u w n:=fun i j=>
   ⟨Vr v ae h0 B A.1 k j,i⟩
  refine yj (Al ..) ?_;conv=>zeta
  rw[D,C];refine zk (fun c=>?_)<|fun c=>zk (fun d=>?_)<|fun d=>?_
  ·have c:=w6 c;have m:u*4294967296+w<((n:Int)+1)*Y:=by rw[<-y];exact VW B x A.2 c
   exact zk (fun e=>ze o<|t _ ae<|cut m<|w6 e) (fun e=>p m (by have:=w7 e;omega))
  ·have c:=w7 c;have d:=w6 d;have a:=zi (show((n+1:Nat):Int)<=4294967295 by omega) h0.1;have b:=zq (show 0<=((n+1:Nat):Int)by omega) h0.1;rw[wu (((n+1:Nat):Int)*g) ae ae,wu (4294967296*r) ae ae,wu _ ae ae]at d;have m:u*4294967296+w<((n:Int)+1)*Y:=by rw[<-y];exact YT v l d
   exact zk (fun e=>ze o<|t _ ae<|cut m<|w6 e) (fun e=>p m (by have:=w7 e;omega))
  ·have c:=w7 c;have d:=w7 d;have a:=zi (show((n+1:Nat):Int)<=4294967295 by omega) h0.1;have b:=zq (show 0<=((n+1:Nat):Int)by omega) h0.1;rw[wu (((n+1:Nat):Int)*g) ae ae,wu (4294967296*r) ae ae,wu _ ae ae]at d;exact ze o (t _ ae ⟨Lu v l ae,h⟩)
theorem A2(Y s f g u w p:Int)(v:Y=f*4294967296+g)(J:0<f/\f<4294967296)(h0:0<=g/\g<4294967296)(C:u<Y)(B:0<=w/\w<4294967296)(A:0<=s)
  (x:∀q:Int,0<=q->Exact Y u w q->∀ob,Q (PV.tup [PV.dat (zj zd)<|zc zd<|zc zd (p*(4294967296:Int))+q,PV.dat (zj zd)<|zn (zc zd<|zc zd (zc zd (u*(4294967296:Int))+w)-zc zd (q*Y))<|(2:Int)^qi (qq s) (64:Nat)]) ob):
  ∀(n:Nat) (r:Int),(n:Int)<18446744073709551616->(n:Int)*f+r=u->0<=r->r<4294967296->u*4294967296+w<((n:Int)+1)*Y->Ends kF (L2 Y s f g w p r u n) Q:=by
 intro n;induction n with
 |zero=>
  intro r H k I G h;have l:decide (0<=s)=true:=w4 A;refine yj (AG ..) (yh (by simp) (yh (w8 ?_)<|ze l<|zg<|x _ ae ⟨?_,h⟩ _))
  ·rw[show((0:Nat):Int)*g=0 by simp,wu 0 ae ae,wu (4294967296*r) ae ae,wu _ ae ae];omega
  ·exact Lu v k (by rw[show((0:Nat):Int)*g=0 by simp];omega)
 |succ n E=>
  intro r H k I G h;have l:decide (0<=s)=true:=w4 A;have F:zc .u64 (((n+1:Nat):Int)-1)=(n:Int):=by rw[wu _ ae ae];omega
  have D:zc .u64 (r+f)=r+f:=wu _ ae ae;have y:0<=Y:=ae
  have m:(n:Int)*f+(r+f)=u:=by
   rw[show((n+1:Nat):Int)=(n:Int)+1 by omega,zx,yi]at k;omega
  have z:((n+1:Nat):Int)=(n:Int)+1:=ae
  have t:u*4294967296+w<((n:Int)+1)*Y->r+f<4294967296->Ends kF (L2 Y s f g w p (r+f) u n) Q:=fun i j=>
   E (r+f) ae m ae j i
  have cut:u*4294967296+w<((n:Int)+1)*Y->4294967296<=r+f->Exact Y u w n:=fun i j=>
   ⟨Vr v ae h0 C B.1 m j,i⟩
  refine yj (AG ..) ?_;conv=>zeta
  rw[F,D];refine zk (fun c=>?_)<|fun c=>zk (fun d=>?_)<|fun d=>?_
  ·have c:=w6 c;have o:u*4294967296+w<((n:Int)+1)*Y:=by rw[<-z];exact VW C y B.2 c
   exact zk (fun e=>ze l<|zg<|x _ ae (cut o<|w6 e) _) (fun e=>t o (by have:=w7 e;omega))
  ·have c:=w7 c;have d:=w6 d;have a:=zi (show((n+1:Nat):Int)<=4294967295 by omega) h0.1;have b:=zq (show 0<=((n+1:Nat):Int)by omega) h0.1;rw[wu (((n+1:Nat):Int)*g) ae ae,wu (4294967296*r) ae ae,wu _ ae ae]at d;have o:u*4294967296+w<((n:Int)+1)*Y:=by rw[<-z];exact YT v k d
   exact zk (fun e=>ze l<|zg<|x _ ae (cut o<|w6 e) _) (fun e=>t o (by have:=w7 e;omega))
  ·have c:=w7 c;have d:=w7 d;have a:=zi (show((n+1:Nat):Int)<=4294967295 by omega) h0.1;have b:=zq (show 0<=((n+1:Nat):Int)by omega) h0.1;rw[wu (((n+1:Nat):Int)*g) ae ae,wu (4294967296*r) ae ae,wu _ ae ae]at d;exact ze l (zg<|x _ ae ⟨Lu v k ae,h⟩ _)
end T246
theorem Wl{y:Int}(d:0<y)(g:y<18446744073709551616):∃s:Nat,Sp.lz y=(s:Int)/\s<=63/\y*2^s<18446744073709551616/\9223372036854775808<=y*2^s:=by
 obtain⟨n,rfl⟩:=zh<|yg d;have c:n≠0:=ae
 have j:n.log2<64:=(Nat.log2_lt c).2 ae;have a:=Nat.log2_self_le c;have b:=Nat.lt_log2_self (n:=n);have f:2^n.log2*2^(63-n.log2)=2^63:=by rw[<-qp];congr 1;omega
 have e:2^(n.log2+1)*2^(63-n.log2)=2^64:=by rw[<-qp];congr 1;omega
 have h:2^63<=n*2^(63-n.log2):=by rw[<-f];exact Nat.mul_le_mul_right _ a
 have i:n*2^(63-n.log2)<2^64:=by rw[<-e];exact Nat.mul_lt_mul_of_pos_right b<|qm _
 refine⟨63-n.log2,?_,by omega,?_,?_⟩
 ·unfold Sp.lz Sp.FC;rw[wc ae,zl];omega
 ·have:((n*2^(63-n.log2):Nat):Int)<18446744073709551616:=ae
  rw[yq,yk]at this;exact this
 ·have:(9223372036854775808:Int)<=((n*2^(63-n.log2):Nat):Int):=ae
  rw[yq,yk]at this;exact this
theorem Y5{a b:Int}{s:Nat}(f:0<=a)(i:0<=b)(h:b<2^s)(c:a*2^s+b<18446744073709551616):cY .u64 (a*2^s) b=a*2^s+b:=by
 obtain⟨m,rfl⟩:=zh f;obtain⟨k,rfl⟩:=zh i;have g:((m:Int)*2^s)=((m*2^s:Nat):Int):=by rw[yq,yk];rfl
 have d:k<2^s:=by
  have e:((2:Int)^s)=((2^s:Nat):Int):=by rw[yk];rfl
  rw[e]at h;omega
 rw[g]at c ⊢;have e:(ya 64 ((m*2^s:Nat):Int)|||ya 64 (k:Int)).toNat=m*2^s+k:=by
  rw[BitVec.toNat_or,yv,yv,yz,yz,qe ae,qe ae,Nat.mul_comm m,Nat.two_pow_add_eq_or_of_lt d]
 show zc .u64 (((ya 64 ((m*2^s:Nat):Int)|||ya 64 (k:Int)).toNat:Nat):Int)=_;rw[e,mP _ ae];omega
namespace T246
theorem start{u c d Y w:Int}(h:Y=c*4294967296+d)(i:0<c/\c<4294967296)(h0:0<=d)(f:0<=u/\u<18446744073709551616)(k:w<4294967296):
  ∃(n:Nat) (r:Int),zc .u64 (yr u c)=(n:Int)/\zc .u64 (u-zc .u64 ((n:Int)*c))=r/\(n:Int)<18446744073709551616/\(n:Int)*c+r=u/\0<=r/\r<4294967296/\u*4294967296+w<((n:Int)+1)*Y:=by
 have q0:0<=u/c:=qn f.1 ae;have q1:u/c<=u:=Int.ediv_le_self _ f.1;have e:=Int.mul_ediv_add_emod u c;have j:=Int.emod_nonneg u (show c≠0 by omega);have l:=Int.emod_lt_of_pos u i.1;rw[zz]at e;obtain⟨n,g⟩:=zh q0;have hp:0<=(n:Int)*c:=zq ae ae;rw[g]at e;refine⟨n,u % c,?_,?_,by omega,e,j,by omega,?_⟩
 ·rw[y9 f.1,g,wu _ ae ae]
 ·rw[wu ((n:Int)*c) ae ae,wu _ ae ae];omega
 ·subst h;have a:((n:Int)+1)*(c*4294967296+d)=((n:Int)*c+c)*4294967296+((n:Int)+1)*d:=by
   rw[z7, <-zp,zx,yi]
  have b:0<=((n:Int)+1)*d:=zq ae h0;rw[a];omega
theorem SJ{u w q Y:Int}(c:Exact Y u w q)(d:Y<18446744073709551616):zc .u64 (zc .u64 (zc .u64 (u*(4294967296:Int))+w)-zc .u64 (q*Y))=u*4294967296+w-q*Y:=by
 obtain⟨a,b⟩:=c;rw[zx,yi]at b;rw[Mm,Mm,Mm,Mm];generalize q*Y=A at*;omega
theorem wC(h:Af A8 247 cLZ):CX kF:=Aa h AE
set_option maxHeartbeats 1000000 in
theorem ok(L:Af A8 247 cLZ):Af A8 246 TK:=by
 refine GP (X:=kF) rfl (wC L) (d:=9) ag ag ag (fun(i:Int×Int×Int) E=>?_) (Bd ag);obtain⟨e,lo,y⟩:=i;have E:(Sp.u64 e&&Sp.u64 lo&&Sp.u64 y&&decide (e<y))=true:=E;rw[zf,zf,zf,w5]at E;obtain⟨⟨⟨x,f⟩,A⟩,h4⟩:=E;have uy:=A;have x:=Sp.A5 x;have f:=Sp.A5 f;have A:=Sp.A5 A;have hg:∀q r ob,q=Sp.dq e lo y->r=Sp.dr e lo y->Ad TK (e,lo,y) (PV.tup [PV.dat (zj zd) q,PV.dat (zj zd) r]) ob:=fun q r ob S G=>zu rfl rfl (Prod.ext S G)
 refine yf (Aj e lo y) (yh (by simp;omega)<|yh (w8 ae)<|zk (fun c=>?_)<|fun c=>?_)
 ·have c:e=0:=by simpa using c
  subst c;have q0:0<=lo/y:=qn f.1 ae;have q1:lo/y<=lo:=Int.ediv_le_self _ f.1;refine ze (w4 ae) (ze (w4 ae)<|zg<|hg _ _ _ ?_ ?_)
  ·unfold Sp.dq;rw[y9 f.1,wu _ ae ae,Int.zero_mul,qj]
  ·unfold Sp.dr;rw[Int.tmod_eq_emod_of_nonneg f.1,Int.zero_mul,qj]
 ·have c:e≠0:=by simpa using c
  obtain⟨s,hs,hs63,N,W⟩:=Wl (y:=y) ae A.2;have es:zc .u64 (s:Int)=(s:Int):=mP s ae;have em:qi s 64=s:=ae
  have I:zc .u64 ((64:Int)-(s:Int))=((64-s:Nat):Int):=by rw[wu _ ae ae];omega
  have Z:qi (64-s) 64=64-s:=ae
  have h:(2:Int)^s*2^(64-s)=18446744073709551616:=by rw[<-Int.pow_add,show s+(64-s)=64 by omega];rfl
  have g:(0:Int)<2^s:=Int.pow_pos af;have hR:(0:Int)<2^(64-s):=Int.pow_pos af;have a0:0<=lo/2^(64-s):=qn f.1 ae;have P:=Int.mul_ediv_add_emod lo<|2^(64-s);have c0:=Int.emod_nonneg lo (show(2:Int)^(64-s)≠0 by omega);have c1:=Int.emod_lt_of_pos lo hR;have aP:lo/2^(64-s)<2^s:=Int.ediv_lt_of_lt_mul hR (by rw[h];exact f.2);have hiP:e*2^s+2^s<=y*2^s:=by
   have:=zi (show e+1<=y by omega)<|yg g;rw[zx,yi]at this;exact this
  have hi0:0<=e*2^s:=zq x.1<|yg g;have T:zn lo ((2:Int)^(64-s))=lo/2^(64-s):=ye _ ae;have O:cY .u64 (e*2^s) (lo/2^(64-s))=e*2^s+lo/2^(64-s):=Y5 x.1 a0 aP ae;have F:0<=(lo % 2^(64-s))*2^s:=zq c0<|yg g;have cP1:(lo % 2^(64-s))*2^s<18446744073709551616:=by
   have:=Int.mul_lt_mul_of_pos_right c1 g;rw[zz<|2^(64-s),h]at this;exact this
  have k:lo*2^s=(lo/2^(64-s))*18446744073709551616+(lo % 2^(64-s))*2^s:=by
   conv=>lhs;rw[<-P]
   rw[zx, <-h,zz (2^(64-s))<|lo/2^(64-s),zp,zz (2^(64-s))<|2^s]
  have V:zc .u64 (lo*2^s)=(lo % 2^(64-s))*2^s:=by rw[k,Mm];omega
  have hN:(e*2^s+lo/2^(64-s))*18446744073709551616+(lo % 2^(64-s))*2^s=(e*18446744073709551616+lo)*2^s:=by
   rw[zx (e*18446744073709551616) lo<|2^s,k,zp e 18446744073709551616<|2^s,zz 18446744073709551616<|(2:Int)^s, <-zp];omega
  have R:zc .u64 (y*2^s)=y*2^s:=wu _ ae ae;have H:zc .u64 (e*2^s)=e*2^s:=wu _ hi0 ae;have z0:decide ((0:Int)<=(s:Int))=true:=w4 ae;have fin:∀q:Int,q*(y*2^s)<=(e*18446744073709551616+lo)*2^s->(e*18446744073709551616+lo)*2^s<(q+1)*(y*2^s)->q=Sp.dq e lo y/\zn ((e*18446744073709551616+lo)*2^s-q*(y*2^s)) (2^s)=Sp.dr e lo y:=by
   intro q D v;unfold Sp.dq Sp.dr;generalize e*18446744073709551616+lo=M at*;rw[<-zp]at D v;have g1:q*y<=M:=Int.le_of_mul_le_mul_right D g;have g2:M<(q+1)*y:=Int.lt_of_mul_lt_mul_right v<|yg g;rw[zx,yi]at g2;obtain⟨u1,u2⟩:=(Int.ediv_emod_unique (a:=M) (b:=y) (r:=M-q*y) (q:=q) ae).2 ⟨by rw[zz y q];omega,by omega,by omega⟩;refine⟨u1.symm,?_⟩;rw[u2, <-zp, <-Int.sub_mul,ye _<|yg g];exact Int.mul_ediv_cancel _ ae
  obtain⟨Y,eY⟩:=zh (show 0<=y*2^s by omega);obtain⟨C,eC⟩:=zh F;have hU0:0<=e*2^s+lo/2^(64-s):=ae
  have j:e*2^s+lo/2^(64-s)<y*2^s:=ae
  rw[hs,es,I,zl,zl,em,Z,R,H,T,O,V];rw[eC]at hN cP1 ⊢;rw[eY]at N W j fin ⊢;generalize hU:e*2^s+lo/2^(64-s)=U at*;generalize hM:(e*18446744073709551616+lo)*2^s=M at*;rw[cN,cN,Rn Y ae,Rn C ae];have l:(Y:Int)=((Y/4294967296:Nat):Int)*4294967296+((Y % 4294967296:Nat):Int):=ae
  have B:0<((Y/4294967296:Nat):Int)/\((Y/4294967296:Nat):Int)<4294967296:=ae
  have o:0<=((Y % 4294967296:Nat):Int)/\((Y % 4294967296:Nat):Int)<4294967296:=ae
  have w1:0<=((C/4294967296:Nat):Int)/\((C/4294967296:Nat):Int)<4294967296:=ae
  have w0:0<=((C % 4294967296:Nat):Int)/\((C % 4294967296:Nat):Int)<4294967296:=ae
  have hC:(C:Int)=((C/4294967296:Nat):Int)*4294967296+((C % 4294967296:Nat):Int):=ae
  generalize ((Y/4294967296:Nat):Int)=y1 at*;generalize ((Y % 4294967296:Nat):Int)=y0 at*;generalize ((C/4294967296:Nat):Int)=w at*;generalize ((C % 4294967296:Nat):Int)=z at*;refine ze uy (ze z0<|ze rfl (ze z0<|ze (w4 ae)<|ze z0<|ze rfl (ze (w4 ae) ?_)));obtain⟨n,r,S,G,n1,n2,n3,n4,n5⟩:=start (u:=U) (w:=w) l B o.1 ae w1.2;rw[S,G];refine Ar (Y:Int) s y1 y0 U w z l B o j w1 (fun p p0 hp=>?_) n r n1 n2 n3 n4 n5;have er:=SJ hp ae;rw[er];have hp1:=hp.1;have K:=hp.2;rw[zx,yi]at K;obtain⟨m,t,k1,k2,m1,m2,m3,m4,m5⟩:=start (u:=U*4294967296+w-p*Y) (w:=z) l B o.1 ae w0.2;rw[k1,k2];refine A2 (Y:Int) s y1 y0 _ z p l B o ae w0 ae (fun q q0 hq ob=>?_) m t m1 m2 m3 m4 m5;rw[SJ hq ae,zl,em];obtain⟨hq1,hq2⟩:=hq;have ez:(p*4294967296+q)*(Y:Int)=p*Y*4294967296+q*Y:=by
   rw[zx,zp,zz 4294967296 (Y:Int), <-zp]
  have J:(p*4294967296+q+1)*(Y:Int)=p*Y*4294967296+q*Y+Y:=by
   rw[zx,ez,yi]
  rw[zx,yi]at hq2;obtain⟨D,v⟩:=fin (p*4294967296+q) (by rw[ez];omega) (by rw[J];omega);refine hg _ _ _ ?_ ?_
  ·have hb:Sp.dq e lo y<18446744073709551616:=by
    unfold Sp.dq;refine Int.ediv_lt_of_lt_mul ae ?_;have:=z8 (show e+1<=y by omega) (show(0:Int)<=18446744073709551616 by decide);omega
   rw[<-D]at hb ⊢;rw[Mm,Mm];omega
  ·rw[<-v,ez];congr 1;omega
end T246
open Sp
theorem qO(x k:Nat)(h:2^k<=x):x.log2=k+(x/2^k).log2:=by
 have d:=qm k;have e:x/2^k≠0:=by
  have:=Nat.div_pos h d;omega
 have f:x≠0:=ae
 refine(Nat.log2_eq_iff f).2 ⟨?_,?_⟩
 ·rw[qp];exact Nat.le_trans (Nat.mul_le_mul_left _<|Nat.log2_self_le e)<|Nat.mul_div_le x<|2^k
 ·rw[Nat.add_assoc,qp];have a:x/2^k+1<=2^((x/2^k).log2+1):=Nat.lt_log2_self;have b:=Nat.mul_le_mul_left (2^k) a;have c:=Nat.lt_mul_div_succ x d;exact Nat.lt_of_lt_of_le c b
theorem QG(x k:Nat)(h:2^k<=x):FC (x:Int)=(k:Int)+FC ((x/2^k:Nat):Int):=by
 have a:=qm k;have b:=Nat.div_pos h a;have e:=qO x k h;unfold FC;rw[wc ae,wc ae,zl,zl,e];omega
theorem fdN(n k:Nat):zn (n:Int) ((2:Int)^k)=((n/2^k:Nat):Int):=by
 have:(0:Int)<2^k:=Int.pow_pos af;rw[ye _ ae,Int.natCast_ediv,yk];rfl
def AaC:Z:=[(0:UInt8),1,2,2,3,3,3,3,4,4,4,4,4,4,4,4,5,5,5,5,5,5,5,5,5,5,5,5,5,5,5,5,6,6,6,6,6,6,6,6,6,6,6,6,6,6,6,6,6,6,6,6,6,6,6,6,6,6,6,6,6,6,6,6,7,7,7,7,7,7,7,7,7,7,7,7,7,7,7,7,7,7,7,7,7,7,7,7,7,7,7,7,7,7,7,7,7,7,7,7,7,7,7,7,7,7,7,7,7,7,7,7,7,7,7,7,7,7,7,7,7,7,7,7,7,7,7,7,8,8,8,8,8,8,8,8,8,8,8,8,8,8,8,8,8,8,8,8,8,8,8,8,8,8,8,8,8,8,8,8,8,8,8,8,8,8,8,8,8,8,8,8,8,8,8,8,8,8,8,8,8,8,8,8,8,8,8,8,8,8,8,8,8,8,8,8,8,8,8,8,8,8,8,8,8,8,8,8,8,8,8,8,8,8,8,8,8,8,8,8,8,8,8,8,8,8,8,8,8,8,8,8,8,8,8,8,8,8,8,8,8,8,8,8,8,8,8,8,8,8,8,8,8,8,8,8]
theorem ZM:∀m:Fin 256,((yc (AaC.getD m.val 0):Nat):Int)=FC (m.val:Int)/\zc .u8 (m.val:Int)=(m.val:Int)/\FC (m.val:Int)<=8/\0<=FC (m.val:Int):=by decide+kernel
theorem NL{b:Int}(a z x:Nat)(i:b=a)(j:a<=64)(g:z<256)(h:FC (x:Int)=(a:Int)+FC (z:Int)):zc .i64 (b+zc .i64 ((yc (AaC.getD (qq<|zc .u8 (z:Int)) 0):Nat):Int))=FC x:=by
 obtain⟨d,c,e,f⟩:=ZM ⟨z,g⟩;have d:((yc (AaC.getD z 0):Nat):Int)=FC (z:Int):=d;have c:zc .u8 (z:Int)=(z:Int):=c;have e:FC (z:Int)<=8:=e;have f:0<=FC (z:Int):=f;rw[c,zl,d,i,h,wr (FC (z:Int)) ae ae,wr _ ae ae]
theorem u8b(z:Nat)(b:z<256):(decide ((0:Sh.T (zj qt))<=zc qt (z:Int))&&decide (zc qt (z:Int)<(↑(256:Nat):Int)))=true:=by
 obtain⟨_,a,_,_⟩:=ZM ⟨z,b⟩;have a:zc .u8 (z:Int)=(z:Int):=a;rw[a];exact Ab (w4<|show(0:Int)<=(z:Int)by omega) (w4 ae)
namespace T228
set_option maxHeartbeats 1000000 in
set_option maxRecDepth 100000 in
theorem ok:Af A8 228 Xu:=by
 refine BR JT<|fun(x:Int) e=>?_;have e:=Sp.A5 (n:=x) e;obtain⟨x,rfl⟩:=zh e.1;refine yf (Aj (x:Int)) ?_;conv=>zeta
 conv=>zeta
 rw[fdN x 32,fdN x 16,fdN x 8,fdN (x/2^32) 16,fdN (x/2^32) 8,fdN (x/2^32/2^16) 8,fdN (x/2^16) 8];have i:=QG x 32;have j:=QG x 16;have k:=QG x 8;have f:=QG (x/2^32) 16;have h:=QG (x/2^32) 8;have d:=QG (x/2^32/2^16) 8;have g:=QG (x/2^16) 8;refine zk (fun c=>ze rfl (zk (fun b=>ze rfl (zk (fun a=>ze rfl (ze (u8b _ ?_)<|zg<|zu rfl rfl (NL 56 _ x (by decide+kernel) af ?_ ?_)))<|fun a=>ze (u8b _ ?_)<|zg<|zu rfl rfl (NL 48 _ x (by decide+kernel) af ?_ ?_)))<|fun b=>zk (fun a=>ze rfl (ze (u8b _ ?_)<|zg<|zu rfl rfl (NL 40 _ x (by decide+kernel) af ?_ ?_)))<|fun a=>ze (u8b _ ?_)<|zg<|zu rfl rfl (NL 32 _ x rfl af ?_ ?_))) (fun c=>zk (fun b=>ze rfl (zk (fun a=>ze rfl (ze (u8b _ ?_)<|zg<|zu rfl rfl (NL 24 _ x (by decide+kernel) af ?_ ?_)))<|fun a=>ze (u8b _ ?_)<|zg<|zu rfl rfl (NL 16 _ x (by decide+kernel) af ?_ ?_)))<|fun b=>zk (fun a=>ze rfl (ze (u8b _ ?_)<|zg<|zu rfl rfl (NL 8 _ x (by decide+kernel) af ?_ ?_)))<|fun a=>ze (u8b _ ?_)<|zg<|zu rfl rfl (NL 0 _ x rfl af ?_ ?_));all_goals
  first
   |replace c:=w6 c
   |replace c:=w7 c
  first
   |replace b:=w6 b
   |replace b:=w7 b
  first
   |replace a:=w6 a
   |replace a:=w7 a
  omega
end T228
theorem rS:CX XD1:=Aa T228.ok AE
theorem Uq{n:Int}(a:0<=n)(b:n<18446744073709551616):0<=Sp.FC n/\Sp.FC n<=64:=by
 unfold Sp.FC;split
 ·omega
 ·have:n.toNat.log2<64:=(Nat.log2_lt ae).2 ae;omega
namespace T247
theorem ok:Af A8 247 cLZ:=by
 refine BR rS<|fun(x:Int) hx=>?_;have h:=Sp.A5 (n:=x) hx;have a:=Uq h.1 h.2;refine yf (Aj x)<|ze hx<|zg<|zu rfl rfl ?_;show zc .i64 (64-Sp.FC x)=Sp.lz x;unfold Sp.lz;exact wr _ ae ae
end T247
theorem lV:Af A8 246 TK:=T246.ok T247.ok
end Go.Pe
namespace Go.Sp
def UA(a b:List Int):Bool:=Cu a&&Cu b&&decide (a.length<=9000)&&decide (b.length<=9000)&&decide (0<At b)
end Go.Sp
namespace Go.Pe
open Sp
open Go.Det
def G5:Am:=⟨[DE,DE],fun i=>UA i.1 i.2,[DE,DE],fun i=>(BC<|At i.1/At i.2,BC<|At i.1 % At i.2),false⟩
def Kc:AT:=X7 [(187,Y0),(209,YC),(177,T4),(208,X2),(217,XX),(246,TK),(247,cLZ)]
end Go.Pe
namespace Go.Sp
def H6(c:UInt8):Int:=(c.toNat:Int)-48
def B4(c:UInt8):Bool:=decide (48<=c.toNat)&&decide (c.toNat<=57)
def AF(n:Int):Z->Int
 |[]=>n
 |c::r=>AF (10*n+H6 c) r
def Aq(s:Z):Bool:=s.all B4
theorem C6:∀(n:Int) (a b:Z),AF n (a++b)=AF (AF n a) b
 |_,[],_=>rfl
 |n,c::a,b=>by rw[qf,AF,AF,C6]
theorem E7:∀(s:Z) (n:Int),AF n s=n*10^s.length+AF 0 s
 |[],n=>by simp[AF]
 |c::s,n=>by
  rw[AF,AF,E7 s<|10*n+H6 c,E7 s<|10*0+H6 c,List.length_cons,yy,zx,qh,qj,zz 10 n,zp,zz 10<|10^s.length,qd]
theorem Dg{c:UInt8}(h:B4 c=true):0<=H6 c/\H6 c<=9:=by
 unfold B4 at h;rw[zf,w5,w5]at h;unfold H6;omega
theorem Bl:∀ {s:Z},Aq s=true->0<=AF 0 s/\AF 0 s<10^s.length
 |[],_=>by simp[AF]
 |c::s,h=>by
  unfold Aq at h;rw[List.all_cons,zf]at h;have a:=Dg h.1;have b:=Bl (s:=s) h.2;have hp:=AU (show(0:Int)<10 by decide) s.length;have e:=zq a.1<|yg hp;have d:=zi a.2<|yg hp;rw[AF,E7,List.length_cons,yy,qh,qj,zz (10^s.length) 10];omega
theorem Bj{s:Z}(h:Aq s=true)(i:Nat):Aq (s.take i)=true:=by
 unfold Aq at h ⊢;rw[yu]at h ⊢;exact fun x a=>h x<|List.mem_of_mem_take a
theorem Ca{s:Z}(h:Aq s=true)(i:Nat):Aq (s.drop i)=true:=by
 unfold Aq at h ⊢;rw[yu]at h ⊢;exact fun x a=>h x<|List.mem_of_mem_drop a
def AX(s:Z):Bool:=decide (s≠[])&&Aq s&&(decide (s.getD 0 0≠48)||decide (s=[48]))
def HW(a b:AK):AK:=if vI a<0/\Ah (vI a) % vI b≠0 then Oa (Dd<| -(Ah (vI a)/vI b)) (1,[])else Dd<|sg (decide (vI a<0))<|Ah (vI a)/vI b
def zV(a b:AK):Int:=(HW a b).1
def zE(a b:AK):List Int:=(HW a b).2
def nO(a b:AK):Int:=C4<|vI a % vI b
def kY(a b:AK):List Int:=C3<|vI a % vI b
def gI(a b:Int):Int:=if a<0 then -(-(Int.gcd a b:Int))else(Int.gcd a b:Int)
theorem Gx(a b:Int):gI a b=(Int.gcd a b:Int):=by unfold gI;split<;>omega
def NR(a b:AK):Int:=C4<|gI (vI a)<|vI b
def Nz(a b:AK):List Int:=C3<|gI (vI a)<|vI b
def pI(a k:Int):Int:=if k<0 then -(-(a^k.toNat))else a^k.toNat
theorem T6(a k:Int):pI a k=a^k.toNat:=by unfold pI;split<;>omega
def oO(a k:Int):Bool:=decide (0<=k)&&decide (k<=100000)&&decide (Ah (pI a k)<(18446744073709551616:Int)^(4000:Nat))
def U5(a:AK)(k:Int):Int:=C4<|pI (vI a) k
def Vf(a:AK)(k:Int):List Int:=C3<|pI (vI a) k
def Co(n:Int):List Int:=if n<0 then[]else[]
theorem Ea(n:Int):Co n=[]:=by unfold Co;split<;>rfl
def BO(s:Z):Int:=if s.getD 0 0=45 then -AF 0 (s.drop 1)else AF 0 s
def DZ(s:Z):Bool:=decide (s.length<=5999)&&(if s.getD 0 0=45 then Aq (s.drop 1)else Aq s)
def Dv(s:Z):Int:=C4<|BO s
def Dy(s:Z):List Int:=C3<|BO s
end Go.Sp
namespace Go.Pe
open Sp
open Go.Det
def Hz:Am:=⟨[A4,A4],fun i=>Bh i.1&&Bh i.2&&decide (0<Sp.vI i.2),[A4,A4],fun i=>((zV i.1 i.2,zE i.1 i.2),(nO i.1 i.2,kY i.1 i.2)),false⟩
def Zh:Am:=⟨[A4,A4],fun i=>Bh i.1&&Bh i.2,[A4],fun i=>(NR i.1 i.2,Nz i.1 i.2),false⟩
def oG:Am:=⟨[A4,i64],fun i=>Bh i.1&&oO (Sp.vI i.1) i.2,[A4],fun i=>(U5 i.1 i.2,Vf i.1 i.2),false⟩
def Q8:Am:=⟨[.str],fun s=>DZ s,[A4],fun s=>(Dv s,Dy s),false⟩
def VT:Am:=⟨[i64],fun _=>true,[A4],fun n=>(n,Co n),false⟩
def XF1:AT:=SS [(190,[9,10])] [] [(190,[(9,[3,4,5,8,12,13]),(10,[3,4,5,14,15])])] [(106,VT),(212,G5),(179,Q0),(180,kX),(160,oA),(139,PT),(161,Kw)]
def XF0:AT:=X7 []
def XF2:AT:=X7 [(190,Hz),(202,zJ),(161,Kw)]
def XF3:AT:=X7 [(106,VT),(127,Sm)]
end Go.Pe
namespace Go.Sp
abbrev B9:Nat:=1000000000
def Kg(l:List Int):Bool:=decide (l.length<=20000)&&l.all fun d=>decide (0<=d)&&decide (d<1000000000)
def hR(l:List Int):Bool:=Kg l&&decide (l.length<=9000)
def Bb(l:List Int):Bool:=Kg l&&nzW l
def An(l:List Int):Int:=val B9 l
def BS(n:Int):List Int:=dg B9 n
def rN(n:Int):Bool:=decide (n<0)
def rW(n:Int):List Int:=BS<|Ah n
def CM(neg:Bool)(w:List Int):Bool:=neg&&decide (Ay w≠[])
def El(s:Z):Bool:=decide (s.length<=18)&&Aq s
def B2(s:Z):Int:=AF 0 s
def Gi(s:Z):Bool:=rN<|BO s
def Eg(s:Z):List Int:=rW<|BO s
def CF(a b:List Int):List Int:=BS<|gI (An a)<|An b
end Go.Sp
namespace Go.Pe
open Sp
open Go.Det
abbrev li:Sh:=.list i64
abbrev Ig:Sh:=.pair .bool li
def SV:Am:=⟨[li],fun l=>decide (yw (α:=Int) l<=20000),[li],fun l=>Ay l,false⟩
def Ja:Am:=⟨[.bool,li],fun i=>decide (yw (α:=Int) i.2<=20000),[Ig],fun i=>(CM i.1 i.2,Ay i.2),false⟩
def ZQ:Am:=⟨[li,li],fun i=>Bb i.1&&Bb i.2,[i64],fun i=>Ck (An i.1)<|An i.2,false⟩
def Zm:Am:=⟨[li,li],fun i=>Sp.hR i.1&&Sp.hR i.2,[li],fun i=>BS<|An i.1*An i.2,false⟩
def WW:Am:=⟨[li,i64],fun i=>Kg i.1&&decide (0<(i.2:Int))&&decide ((i.2:Int)<1000000000),[li,i64],fun i=>(BS<|An i.1/i.2,An i.1 % i.2),false⟩
def SG:Am:=⟨[li,li],fun i=>Bb i.1&&Bb i.2&&decide (yw (α:=Int) i.1<=9000)&&decide (yw (α:=Int) i.2<=9000)&&decide (0<An i.2),[li,li],fun i=>(BS<|An i.1/An i.2,BS<|An i.1 % An i.2),false⟩
def Me:Am:=⟨[li,li],fun i=>Bb i.1&&Bb i.2&&decide (yw (α:=Int) i.1<=9000)&&decide (yw (α:=Int) i.2<=9000),[li],fun i=>CF i.1 i.2,false⟩
def T2:Am:=⟨[.str],fun s=>El s,[i64],fun s=>B2 s,false⟩
def OA:Am:=⟨[.str],fun s=>DZ s,[Ig],fun s=>(Gi s,Eg s),false⟩
def qV:AT:=X7 []
def fE:AT:=X7 [(193,SV)]
def Nb:AT:=X7 [(157,ZQ),(193,SV),(192,WW),(159,Zm)]
def XG3:AT:=X7 [(154,SG)]
def fH:AT:=X7 [(152,T2),(155,Ja)]
end Go.Pe
namespace Go.Sp
def DJ:Z:=[48,49,50,51,52,53,54,55,56,57]
def yR(o:List Bool):List Bool:=(List.range 256).map fun j=>o.getD j false
def yO:List Bool:=zm 256 false
def Qz(s:Z):Z:=((s.reverse.dropWhile B4).reverse).dropWhile B4
def PU(s:Z)(c:Int):Int:=match s.findIdx? (fun x=>x==c.toNat.toUInt8)with
 |some i=>(i:Int)
 |none=> -1
def AB(s:Z):Z:=match s.findIdx? (fun x=>x==47)with
 |some i=>s.take i
 |none=>s
def AV(s:Z):Z:=match s.findIdx? (fun x=>x==47)with
 |some i=>s.drop<|i+1
 |none=>[]
def Bs(s:Z):Bool:=s.any<|fun x=>x==47
def A9(s:Z):Z:=if s.getD 0 0=45 then s.drop 1 else s
def preB(s:Z):Bool:=decide (s.getD 0 0=45)
def Aah(s t:Z):Bool:=decide (t=DJ)&&decide (s.length<=1000000)
def Ab1(s t:Z):Bool:=decide (t=[47])&&decide (s.length<=1000000)
def Ur(s t:Z):Bool:=decide (t=[45])&&decide (s.length<=1000000)
end Go.Sp
namespace Go.Pe
open Sp
open Go.Det
def YE:Am:=⟨[.str,.str],fun i=>Aah i.1 i.2,[.str],fun i=>Qz i.1,false⟩
def zI:Am:=⟨[.str,.int .u8],fun i=>decide (0<=(i.2:Int))&&decide ((i.2:Int)<256),[i64],fun i=>PU i.1 i.2,false⟩
def gU:Am:=⟨[.str,.str],fun i=>Ab1 i.1 i.2,[.str,.str,.bool],fun i=>(AB i.1,Sp.AV i.1,Bs i.1),false⟩
def Aaa:Am:=⟨[.str,.str],fun i=>Ur i.1 i.2,[.str,.bool],fun i=>(A9 i.1,Sp.preB i.1),false⟩
def YF:Am:=⟨[.str],fun s=>decide (s.length<=1000000),[.bool],fun s=>AX s,false⟩
def OJ:AT:=X7 []
def bR:AT:=X7 [(234,⟨[.str,.str],fun _=>false,[.str],fun i=>i.1,false⟩),(235,⟨[.str,.str],fun _=>false,[.str],fun i=>i.1,false⟩),(229,⟨[.str,.int .u8],fun _=>false,[.str],fun i=>i.1,false⟩),(230,⟨[.str,.int .u8],fun _=>false,[.str],fun i=>i.1,false⟩)]
def XH1:AT:=X7 [(201,YE)]
def XH2:AT:=X7 [(265,zI)]
def Ru:AT:=X7 [(106,VT),(176,oG),(127,Sm),(139,PT),(143,Vq),(240,⟨[.str,i64,i64],fun _=>false,[i64],fun _=>(0:Int),false⟩),(207,⟨[.str],fun _=>false,[i64],fun _=>(0:Int),false⟩)]
end Go.Pe
namespace Go.Sp
def G0(a:Z):Bool:=AX (AB<|A9 a)&&(!preB a||decide (AB (A9 a)≠[48]))&&(!Bs (A9 a)||(AX (AV<|A9 a)&&decide (AV (A9 a)≠[48])&&decide (AV (A9 a)≠[49])))
def wB(a:Z):Int:=AF 0<|AB<|A9 a
def xQ(a:Z):Int:=AF 0<|AV<|A9 a
def Ao(a:Z):Int:=if G0 a=false then 1 else if 600<(AB<|A9 a).length\/600<(AV<|A9 a).length then 4 else if Bs (A9 a)=true/\gI (wB a) (xQ a)≠1 then 1 else 0
def A0(s:Z):Int:=((AB s).length:Int)
def DR(a:Z):Bool:=DZ (AB a)&&DZ (AV a)&&decide (a.length<=5999)
def Bf(a:Z):Int:=BO<|AB a
def AN(a:Z):Int:=if Bs a=true then BO (AV a)else 1
def BY(a:Z):Bool:=rN<|Bf a
def BN(a:Z):List Int:=rW<|Bf a
def Bv(a:Z):Bool:=rN<|AN a
def Bm(a:Z):List Int:=rW<|AN a
end Go.Sp
namespace Go.Pe
open Sp
open Go.Det
def Fg:Am:=⟨[.str],fun s=>decide (s.length<=1000000),[i64],fun s=>Ao s,false⟩
def Pf:Am:=⟨[.str],fun s=>decide (s.length<=1000000),[i64],fun s=>A0 s,false⟩
def aA:Am:=⟨[.str],fun s=>decide (s.length<=9223372036854775807),[i64],fun s=>A0 s,false⟩
def Ux:Am:=⟨[.str],fun s=>decide (s.length<=9223372036854775807),[.bool],fun s=>AX s,false⟩
def HN:Am:=⟨[i64],fun n=>Cn n,[Ig],fun n=>(Sp.rN n,Sp.rW n),false⟩
def On:Am:=⟨[.str],fun s=>DR s,[Ig,Ig],fun s=>((BY s,BN s),(Bv s,Bm s)),false⟩
def Nl:AT:=SS [(122,[4,6,7,9,10])] [] [(122,[(4,[5,6,7,8]),(6,[5,6,7,8]),(7,[5,6,7,9]),(9,[5,6,7]),(10,[10])])] [(168,Hb),(169,G1),(166,Aaa),(124,gU),(167,YF),(170,Zh),(126,Q8),(105,lK),(106,VT)]
def zD:AT:=X7 [(155,Ja)]
def XK3:AT:=X7 [(128,Pf),(149,OA),(97,HN)]
def Wu:AT:=SS [(62,[4,7,9,11,13,14])] [] [(62,[(4,[0,3]),(7,[3,4]),(9,[3,4]),(11,[3,4]),(13,[5,6]),(14,[7])])] [(128,aA),(129,Ux),(92,On),(130,Me)]
end Go.Pe
