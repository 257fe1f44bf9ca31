import Derived.Test.YtlohiljbghionaaGreatDoorX09
import Derived.Test.YtlohiljbghionaaGreatDoorX01
import Derived.Lib.Mul64
/- A part of a proof (no law is stated here). Made by program out of texts by AI agents. -/
noncomputable section
open Go.IntKind renaming wrap -> zc, u64 -> zd, i64 -> ym, wrap_i64 -> qg, u8 -> qt
open Go.Pe.Ends renaming tt -> ze, leaf -> zg, ite -> zk, eq -> yf, ff -> yh, Ah -> yj
open Bool renaming and_eq_true -> zf, true_and -> yb, false_eq_true -> y8, or_eq_true -> ql
open Int renaming eq_ofNat_of_zero_le -> zh, mul_le_mul_of_nonneg_right -> zi, toNat_natCast -> zl, fdiv -> zn, mul_assoc -> zp, mul_nonneg -> zq, lt_or_le -> zw, add_mul -> zx, mul_comm -> zz, mul_add -> z7, mul_le_mul_of_nonneg_left -> z8, lt_of_le_of_lt -> yd, fdiv_eq_ediv_of_nonneg -> ye, le_of_lt -> yg, one_mul -> yi, natCast_pow -> yk, natCast_mul -> yq, tdiv -> yr, natCast_add -> yx, pow_succ -> yy, tdiv_eq_ediv_of_nonneg -> y9, add_assoc -> qd, mul_zero -> qh, zero_add -> qj, ediv_nonneg -> qn, mul_sub -> qo, toNat -> qq
open Go.Pe.Sh renaming int -> zj, list -> zt
open List renaming replicate -> zm, getD_eq_getElem?_getD -> zo, take_of_length_le -> zr, getElem?_eq_getElem -> z6, take_length -> yn, drop_eq_getElem_cons -> yo, getElem?_eq_none -> yt, all_eq_true -> yu, length -> yw, append_assoc -> qc, cons_append -> qf
open Go.Pe.Ad renaming of -> zu
open Go.Sp renaming val -> zy
open BitVec renaming ofInt -> ya, ofInt_natCast -> yv, toNat_ofNat -> yz
open UInt8 renaming toNat -> yc
open Go.Pe.PV renaming agg -> yp
open Go.Lib renaming half_mul_le -> y7
open Nat renaming mod_eq_of_lt -> qe, two_pow_pos -> qm, pow_add -> qp
open Min renaming min -> qi
open List.cons renaming injEq -> qk
namespace Go.Sp
abbrev Ao:Nat:=18446744073709551616
abbrev AG:=Int×List Int
def C4(l:List Int):Bool:=decide (l.length<=20000)&&l.all fun d=>decide (0<=d)&&decide (d<18446744073709551616)
def hW(l:List Int):Bool:=C4 l&&decide (l.length<=9000)
def nzW(l:List Int):Bool:=decide (l.getLast?≠some 0)
def Cp(l:List Int):Bool:=C4 l&&nzW l
def As(l:List Int):Int:=val Ao l
def BA(n:Int):List Int:=dg Ao n
def u64(n:Int):Bool:=decide (0<=n)&&decide (n<18446744073709551616)
def CI(n:Int):Bool:=decide (-9223372036854775808<=n)&&decide (n<9223372036854775808)
def Ag(n:Int):Int:=if n<0 then -n else n
theorem Aj(n:Int):Ag n=(n.natAbs:Int):=by unfold Ag;split<;>omega
def vI(a:AG):Int:=if a.2=[]then a.1 else if a.1<0 then -As a.2 else As a.2
def C6(a:AG):Bool:=CI a.1&&(decide (a.2=[])||(Cp a.2&&(decide (a.1=1)||decide (a.1= -1))&&decide (9223372036854775808<=As a.2)))
def Dc(n:Int):AG:=if -9223372036854775808<n/\n<9223372036854775808 then(n,[])else(if n<0 then -1 else 1,BA<|Ag n)
def C1(n:Int):Int:=(Dc n).1
def C0(n:Int):List Int:=(Dc n).2
def sg(neg:Bool)(v:Int):Int:=if neg=true then -v else v
def It(x y c:Int):Int:=(x+y+c) % 18446744073709551616
def QU(x y c:Int):Int:=(x+y+c)/18446744073709551616
def UC(x y c:Int):Int:=(x-y-c) % 18446744073709551616
def Q5(x y c:Int):Int:=if x<y+c then 1 else 0
def IB(x y:Int):Int:=(x*y) % 18446744073709551616
def R0(x y:Int):Int:=(x*y)/18446744073709551616
def Cg(a b:Int):Int:=if a<b then -1 else if a>b then 1 else 0
def Mt(n:Int):Int:=if n<0 then -1 else if n>0 then 1 else 0
def ER(a b:AG):AG:=if a.2=[]/\b.2=[]/\CI (a.1+b.1)=true then(a.1+b.1,[])else Dc<|vI a+vI b
def Cn(a:AG):AG:=if a.2=[]/\a.1≠ -9223372036854775808 then(-a.1,[])else Dc<| -vI a
def Vf(a:AG):AG:=if a.1<0 then Cn a else a
def NR(a b:AG):AG:=ER a<|Cn b
def FL(a b:AG):AG:=Dc<|vI a*vI b
def Eg(a:AG):Int:=(Cn a).1
def Em(a:AG):List Int:=(Cn a).2
def O8(a:AG):Int:=(Vf a).1
def PB(a:AG):List Int:=(Vf a).2
def Kd(a b:AG):Int:=(ER a b).1
def Kf(a b:AG):List Int:=(ER a b).2
def ZJ(a b:AG):Int:=(NR a b).1
def ZN(a b:AG):List Int:=(NR a b).2
def Fm(a b:AG):Int:=(FL a b).1
def FB(a b:AG):List Int:=(FL a b).2
end Go.Sp
namespace Go.Pe
open Sp
open Go.Det
abbrev AY:Sh:=.pair (.int .i64)<|.nlist<|.int .u64
abbrev u64:Sh:=.int .u64
abbrev Dt:Sh:=.list<|.int .u64
abbrev wU:Sh:=.nlist<|.int .u64
def XF:Am:=⟨[u64,u64,u64],fun i=>Sp.u64 i.1&&Sp.u64 i.2.1&&decide (0<=(i.2.2:Int))&&decide ((i.2.2:Int)<=1),[u64,u64],fun i=>(It i.1 i.2.1 i.2.2,QU i.1 i.2.1 i.2.2),false⟩
def Yn:Am:=⟨[u64,u64,u64],fun i=>Sp.u64 i.1&&Sp.u64 i.2.1&&decide (0<=(i.2.2:Int))&&decide ((i.2.2:Int)<=1),[u64,u64],fun i=>(UC i.1 i.2.1 i.2.2,Q5 i.1 i.2.1 i.2.2),false⟩
def Uk:Am:=⟨[u64,u64],fun i=>Sp.u64 i.1&&Sp.u64 i.2,[u64,u64],fun i=>(R0 i.1 i.2,IB i.1 i.2),false⟩
def Yv:Am:=⟨[i64],fun n=>CI n,[u64],fun n=>Ag n,false⟩
def P1:Am:=⟨[AY],fun a=>Sp.C6 a,[.bool,Dt],fun a=>(decide (Sp.vI a<0),BA<|Ag<|Sp.vI a),false⟩
def gJ:Am:=⟨[.bool,Dt],fun i=>Cp i.2,[AY],fun i=>(C1<|Sp.sg i.1<|As i.2,C0<|Sp.sg i.1<|As i.2),false⟩
def Xv:Am:=⟨[Dt],fun l=>C4 l,[Dt],fun l=>Ax l,false⟩
def YU:Am:=⟨[Dt,Dt],fun i=>Cp i.1&&Cp i.2,[i64],fun i=>Cg (As i.1)<|As i.2,false⟩
def lL:Am:=⟨[Dt,Dt],fun i=>Sp.hW i.1&&Sp.hW i.2,[Dt],fun i=>BA<|As i.1+As i.2,false⟩
def kD:Am:=⟨[Dt,Dt],fun i=>C4 i.1&&C4 i.2&&decide (As i.2<=As i.1),[Dt],fun i=>BA<|As i.1-As i.2,false⟩
def nP:Am:=⟨[Dt,Dt],fun i=>Sp.hW i.1&&Sp.hW i.2,[Dt],fun i=>BA<|As i.1*As i.2,false⟩
def iL:AV:=X7 []
def LZ:AV:=X7 [(178,Yv),(208,XF),(217,Yn),(209,Xv),(177,Uk)]
def XI2:AV:=X7 [(179,P1),(180,gJ),(186,lL),(188,kD),(187,YU),(181,nP),(177,Uk),(178,Yv)]
theorem Rp{F:Fz}{x y c:Int}{args:List V}(h:MG F (Ae [Pe.u64,Pe.u64,Pe.u64] (x,y,c)) args):args=[.int .u64 x,.int .u64 y,.int .u64 c]:=by
 have:=h (fun _=>none) 0;simp only[Ae,Cm,Bf]at this;obtain⟨a,j,rfl,f,b,k,rfl,e,d,i,rfl,g,rfl⟩:=this;simp only[PR,DC,qk,ve]at f e g;rw[f,e,g]
theorem A5{n:Int}(h:Sp.u64 n=true):0<=n/\n<18446744073709551616:=by
 unfold Sp.u64 at h;rw[zf,w5,w5]at h;exact h
namespace T208
theorem ok:Af A6 208 XF:=by
 refine .inr ⟨PK.add64.run,by kernel_rfl,fun F h args i k hp=>?_⟩;obtain⟨x,y,c⟩:=i;have hp:(Sp.u64 x&&Sp.u64 y&&decide (0<=c)&&decide (c<=1))=true:=hp;rw[zf,zf,zf,w5,w5]at hp;obtain⟨⟨⟨e,f⟩,c0⟩,g⟩:=hp;have e:=A5 e;have f:=A5 f;have:=Rp k;subst this;obtain⟨a,rfl⟩:=zh e.1;obtain⟨b,rfl⟩:=zh f.1;obtain⟨d,rfl⟩:=zh c0;have g:(d:Int)<=1:=g;have j:Nat.ble d 1=true:=Nat.ble_eq_true_of_le (by omega);refine⟨.tup [.int .u64<|.ofNat<|(a+b+d) % fG,.int .u64<|.ofNat<|(a+b+d)/fG],?_,fun ρ N=>?_⟩
 ·show(bif Nat.ble d 1 then _ else _)=_;rw[j];rfl
 ·show PR F ρ N (.tup [.dat Pe.u64<|It a b d,.dat Pe.u64<|QU a b d]) _;simp only[PR,Bf];refine⟨_,rfl,_,_,rfl,?_,_,_,rfl,?_,rfl⟩<;>simp[DC,fG,It,QU]
end T208
namespace T217
theorem ok:Af A6 217 Yn:=by
 refine .inr ⟨PK.sub64.run,by kernel_rfl,fun F h args i m hp=>?_⟩;obtain⟨x,y,c⟩:=i;have hp:(Sp.u64 x&&Sp.u64 y&&decide (0<=c)&&decide (c<=1))=true:=hp;rw[zf,zf,zf,w5,w5]at hp;obtain⟨⟨⟨g,j⟩,c0⟩,k⟩:=hp;have g:=A5 g;have j:=A5 j;have:=Rp m;subst this;obtain⟨a,rfl⟩:=zh g.1;obtain⟨b,rfl⟩:=zh j.1;obtain⟨d,rfl⟩:=zh c0;have k:(d:Int)<=1:=k;have l:Nat.ble d 1=true:=Nat.ble_eq_true_of_le (by omega);refine⟨.tup [.int .u64<|.ofNat<|(a+fG-b-d) % fG,.int .u64<|.ofNat<|bif Nat.blt a (b+d)then 1 else 0],?_,fun ρ N=>?_⟩
 ·show(bif Nat.ble d 1 then _ else _)=_;rw[l];rfl
 ·show PR F ρ N (.tup [.dat Pe.u64<|UC a b d,.dat Pe.u64<|Q5 a b d]) _;simp only[PR,Bf];refine⟨_,rfl,_,_,rfl,?_,_,_,rfl,?_,rfl⟩
  ·simp only[DC,fG,UC,qk,V.int.injEq,ve,true_and];have e:(((a+18446744073709551616-b-d) % 18446744073709551616:Nat):Int)=((a:Int)-b-d) % 18446744073709551616:=by omega
   exact e
  ·simp only[DC,Q5,qk,V.int.injEq,ve,true_and];rw[Hx];by_cases f:a<b+d
   ·rw[wd<|by omega];simp[f]
   ·rw[wc<|by omega];simp[f]
end T217
end Go.Pe
namespace Go.Sp
theorem AJ(b:Int):∀(l:List Int) (i:Nat),val b (l.take<|i+1)=val b (l.take i)+b^i*l.getD i 0
 |[],i=>by simp[val]
 |x::l,0=>by
  show x+b*val b (l.take 0)=0+b^0*x;simp[val]
 |x::l,i+1=>by
  have:=AJ b l i;show x+b*val b (l.take<|i+1)=x+b*val b (l.take i)+b^(i+1)*l.getD i 0;rw[this,z7,yy,zz (b^i) b,zp,qd]
theorem Jl{l:List Int}(h:C4 l=true):l.length<=20000/\Ay Ao l:=by
 unfold C4 at h;rw[zf,w5,yu]at h;exact⟨h.1,fun d a=>by
  have:=h.2 d a;rw[zf,w5,w5]at this;exact this⟩
theorem EN{l:List Int}(b:l.length<=20000)(a:Ay Ao l):C4 l=true:=by
 unfold C4;rw[zf,w5,yu];exact⟨b,fun d c=>by
  have:=a d c;rw[zf,w5,w5];exact this⟩
theorem Y3{l:List Int}(h:hW l=true):l.length<=9000/\Ay Ao l:=by
 unfold hW at h;rw[zf,w5]at h;exact⟨h.2,(Jl h.1).2⟩
theorem AZ{l:List Int}(h:Ay Ao l)(i:Nat):u64 (l.getD i 0)=true:=by
 unfold u64;rw[zf,w5,w5];rcases Nat.lt_or_ge i l.length with a|a
 ·have:l.getD i 0∈l:=by rw[zo,z6 a];exact List.getElem_mem a
  exact h _ this
 ·rw[zo,yt a];exact⟨by decide,by decide⟩
theorem A5{n:Int}(h:u64 n=true):0<=n/\n<18446744073709551616:=by
 unfold u64 at h;rw[zf,w5,w5]at h;exact h
theorem CZ{n:Int}(b:0<=n)(a:n<18446744073709551616):u64 n=true:=by
 unfold u64;rw[zf,w5,w5];exact⟨b,a⟩
theorem Eo{l:List Int}{x:Int}(h:Ay Ao l)(b:u64 x=true):Ay Ao (l++[x]):=by
 intro d a;rw[List.mem_append,List.mem_singleton]at a;rcases a with a|rfl
 ·exact h d a
 ·exact A5 b
theorem Mg{x y c:Int}(b:u64 x=true)(a:u64 y=true)(d:0<=c/\c<=1):u64 (It x y c)=true/\(0<=QU x y c/\QU x y c<=1)/\It x y c+18446744073709551616*QU x y c=x+y+c:=by
 have:=A5 b;have:=A5 a;unfold It QU;exact⟨CZ (by omega) (by omega),⟨by omega,by omega⟩,by omega⟩
theorem Hp{x y c:Int}(b:u64 x=true)(a:u64 y=true)(d:0<=c/\c<=1):u64 (UC x y c)=true/\(0<=Q5 x y c/\Q5 x y c<=1)/\UC x y c-18446744073709551616*Q5 x y c=x-y-c:=by
 have:=A5 b;have:=A5 a;unfold UC Q5;refine⟨CZ (by omega) (by omega),?_,?_⟩<;>split<;>omega
theorem Fq(l:List Int)(x:Int):val Ao (l++[x])=val Ao l+(Ao:Int)^l.length*x:=by
 rw[C8];simp[val]
theorem Mo(i:Nat)(c:Int):(Ao:Int)^(i+1)*c=(Ao:Int)^i*(18446744073709551616*c):=by
 rw[yy,zp];rfl
theorem Jt(p:List Int)(n i:Nat)(x:Int)(h:p.length=i)(a:i<n):(p++zm (n-i) (0:Int)).set i x=(p++[x])++zm (n-(i+1)) 0:=by
 have:n-i=(n-(i+1))+1:=by omega
 rw[this,List.replicate_succ,Pe.DL p _ 0 x h,qc];rfl
theorem LG{l:List Int}(h:Ay Ao l):Ax l=BA (As l):=ZY (by decide) h
end Go.Sp
namespace Go.Pe
open Sp
open Go.Det
section
open List Int Prod
namespace T178
def T(n:Int):Tr:=tree iL false 9 178<|Ae ([zj ym]) n
theorem Ai(n:Int):T n=.di (n<0) (.leaf (.dat (zj zd)<|zc .u64<|zc .i64<|0-n) []) (.leaf (.dat (zj zd)<|zc .u64 n) []):=by kernel_rfl
end T178
namespace T179
def T(a:AG):Tr:=tree LZ false 9 179<|Ae ([AY]) a
theorem Ai(a:AG):T a=.di (0<length (snd a)) (.leaf (.tup [.dat Sh.bool<|decide (fst a<0),.dat wU<|snd a]) []) (.ite (fst a==0) (.leaf (.tup [.bl false,.nil]) [])<|.ck (CI<|fst a)<|.leaf (.tup [.dat Sh.bool<|decide (fst a<0),.sl (Nat.add 0 1) 1 0 1 none])<|[(Nat.add 0 1,.arr false 216 (zj zd) [Ag<|fst a]),(0,.box [.dat i64<|fst a,.dat wU<|snd a])]):=by kernel_rfl
end T179
namespace T180
def T(neg:Bool)(w:List Int):Tr:=tree LZ false 9 180<|Ae ([Sh.bool,zt<|zj zd]) (neg,w)
theorem Ai(neg:Bool)(w:List Int):T neg w=let d:=decide (getD w 0 0<=9223372036854775807);let a:=(length w:Int);let e:=zt<|zj zd;let b':Tr:=.ite neg (.leaf (yp [.dat i64 (-1:Int),.dat e w]) [])<|.leaf (yp [.dat i64 (1:Int),.dat e w]) [];let b:=decide (0<a);let c:Tr:=.ite (a==1) (.ck b<|.ite d (.ck b<|.leaf (yp [.dat i64<|zc .i64<|getD w 0 0,.nil]) []) b') b';.ite (a==0) (.leaf (yp [.dat i64 (0:Int),.nil]) []) (.ite (a==1) (.ck b<|.ite d (.ite neg (.ck b<|.leaf (yp [.dat i64<|zc .i64<|0-zc .i64 (getD w 0 0),.nil]) []) c) c) c):=by kernel_rfl
end T180
namespace T209
def T(w:List Int):Tr:=tree iL false 9 209<|Ae ([zt<|zj zd]) w
def L1(v0:List Int)(v3:Int):Tr:=re ((T []))<|Aw 21 [(0,.dat (zt<|zj zd) v0),(3,.dat i64 v3)] [] 0
theorem Ai(w:List Int):T w=L1 w ((length w:Int)):=by kernel_rfl
theorem Al(v0:List Int)(v3:Int):stepT iL (L1 v0 v3)=let a:Tr:=.ck (decide (0<=v3)&&decide (0<=toNat v3)&&decide (toNat v3<=length v0))<|.leaf (.dat (zt<|zj zd)<|take (toNat v3) v0) [];let b':=zc .i64<|v3-1;.di (v3>0) (.ck (decide (0<=zc .i64 (v3-1))&&decide (zc .i64 (v3-1)<(length v0:Int)))<|.ite (getD v0 (toNat b') 0==0) (L1 v0 b') a) a:=by kernel_rfl
end T209
namespace T187
def T(a b:List Int):Tr:=tree iL false 9 187<|Ae ([zt<|zj zd,zt<|zj zd]) (a,b)
def L1(v0 v1:List Int)(v5:Int):Tr:=re ((T [] []).R)<|Aw 41 [(0,.dat (zt<|zj zd) v0),(1,.dat (zt<|zj zd) v1),(5,.dat i64 v5)] [] 0
theorem Ai(a b:List Int):T a b=let c:=(length a:Int);.ite (c !=(length b:Int)) (.di (c<(length b:Int)) (.leaf (.dat i64 (-1:Int)) [])<|.leaf (.dat i64 (1:Int)) []) (L1 a b<|zc .i64<|c-1):=by kernel_rfl
theorem Al(v0 v1:List Int)(v5:Int):stepT iL (L1 v0 v1 v5)=let a:=decide (0<=v5)&&decide (v5<(length v0:Int));let b':=decide (0<=v5)&&decide (v5<(length v1:Int));.di (v5>=0) (.ck a<|.ck b'<|.ite (getD v0 (toNat v5) 0 !=getD v1 (toNat v5) 0) (.ck a<|.ck b'<|.di (getD v0 (toNat v5) 0<getD v1 (toNat v5) 0) (.leaf (.dat i64 (-1:Int)) [])<|.leaf (.dat i64 (1:Int)) [])<|L1 v0 v1<|zc .i64<|v5-1) (.leaf (.dat i64 (0:Int)) []):=by kernel_rfl
end T187
namespace T186
def T(x y:List Int):Tr:=tree LZ false 9 186<|Ae ([zt<|zj zd,zt<|zj zd]) (x,y)
def L1(v0 v1:List Int)(c:Nat)(e b a:Int)(d:List Int):Tr:=re ((T [] []).L.L)<|Aw 54 [(0,.dat (zt<|zj zd) v0),(1,.dat (zt<|zj zd) v1),(5,.sl 0 1 0 c none),(6,.dat (zj zd) e),(21,.dat i64 b),(22,.dat i64 a)] [(0,.arr false 216 (zj zd) d)] 1
theorem Ai(x y:List Int):T x y=let a:=(length x:Int);let b':=(length y:Int);let c:=zc .i64<|b'+1;let b:=zc .i64<|a+1;.di (a<b') (.ck (decide (0<=zc .i64 (b'+1))&&decide (zc .i64 (b'+1)=zc .i64 (b'+1))&&decide (8*toNat c<=281474976710656)&&decide (zc .i64 (b'+1)<9223372036854775808))<|L1 y x (toNat c) 0 b' 0<|replicate (toNat c) 0) (.ck (decide (0<=zc .i64 (a+1))&&decide (zc .i64 (a+1)=zc .i64 (a+1))&&decide (8*toNat b<=281474976710656)&&decide (zc .i64 (a+1)<9223372036854775808))<|L1 x y (toNat b) 0 a 0<|replicate (toNat b) 0):=by kernel_rfl
theorem Al(v0 v1:List Int)(b:Nat)(d c a:Int)(f:List Int):stepT LZ (L1 v0 v1 b d c a f)=let e:=getD v0 (toNat a) 0;let b':=(length v0:Int);let h:=getD v1 (toNat a) 0;let m:=decide (0<=a)&&decide (a<(↑b:Int));let k:=decide ((0:Sh.T (By [u64]))<=d);let j:=decide (d<=(1:Sh.T (By [u64])));let i:=decide (toNat a<length f);let n:=decide (a<(length v1:Int));let l:=zc .i64<|a+1;let g:=set f (toNat b') d;let h':=decide (0<=a)&&decide (a<b');.di (a<c) (.ite n (.ck (decide (0<=a)&&n)<|.ck h'<|.ck (Sp.u64 e&&Sp.u64 h&&k&&j)<|.ck m<|.ck i<|L1 v0 v1 b (QU e h d) c l<|set f (toNat a)<|It e h d)<|.ck h'<|.ck (Sp.u64 e&&Sp.u64 0&&k&&j)<|.ck m<|.ck i<|L1 v0 v1 b (QU e 0 d) c l<|set f (toNat a)<|It e 0 d) (.ck (decide (0<=b')&&decide (b'<(↑b:Int)))<|.cd (toNat b'<length f)<|.ck (decide (0+b<=length g)&&true&&C4 (take b g))<|.leaf (.dat (zt<|zj zd)<|Ax<|take b g) []):=by kernel_rfl
end T186
namespace T188
def T(x y:List Int):Tr:=tree LZ false 9 188<|Ae ([zt<|zj zd,zt<|zj zd]) (x,y)
def L1(v0 v1:List Int)(b:Nat)(e c a:Int)(d:List Int):Tr:=re ((T [] []).L)<|Aw 41 [(0,.dat (zt<|zj zd) v0),(1,.dat (zt<|zj zd) v1),(5,.sl 0 1 0 b none),(6,.dat (zj zd) e),(13,.dat i64 c),(14,.dat i64 a)] [(0,.arr false 216 (zj zd) d)] 1
theorem Ai(x y:List Int):T x y=let a:=(length x:Int);.ck (decide (0<=a)&&decide (a=a)&&decide (8*toNat a<=281474976710656)&&decide (a<9223372036854775808)) (L1 x y (toNat a) 0 a 0<|replicate (toNat a) 0):=by kernel_rfl
theorem Al(v0 v1:List Int)(b:Nat)(e c a:Int)(d:List Int):stepT LZ (L1 v0 v1 b e c a d)=let f:=getD v0 (toNat a) 0;let b':=decide (0<=a)&&decide (a<(length v0:Int));let g:=getD v1 (toNat a) 0;let j:=decide (0<=a)&&decide (a<(↑b:Int));let k:=decide ((0:Sh.T (By [u64]))<=e);let l:=decide (e<=(1:Sh.T (By [u64])));let i:=decide (toNat a<length d);let h':=decide (a<(length v1:Int));let h:=zc .i64<|a+1;.di (a<c) (.ite h' (.ck (decide (0<=a)&&h')<|.ck b'<|.ck (Sp.u64 f&&Sp.u64 g&&k&&l)<|.ck j<|.ck i<|L1 v0 v1 b (Q5 f g e) c h<|set d (toNat a)<|UC f g e)<|.ck b'<|.ck (Sp.u64 f&&Sp.u64 0&&k&&l)<|.ck j<|.ck i<|L1 v0 v1 b (Q5 f 0 e) c h<|set d (toNat a)<|UC f 0 e) (.ck (decide (0+b<=length d)&&true&&C4 (take b d))<|.leaf (.dat (zt<|zj zd)<|Ax<|take b d) []):=by kernel_rfl
end T188
namespace T177
def T(x y:Int):Tr:=tree iL false 9 177<|Ae ([zj zd,zj zd]) (x,y)
theorem Ai(x y:Int):T x y=let a:=zc .u64<|zc .u64 (zn x (2^32)*H4 zd y 4294967295)+zn (zc .u64<|H4 zd x 4294967295*H4 zd y 4294967295) (2^32);.ck true (.ck true<|.ck true<|.ck true<|.ck true<|.leaf (.tup [.dat (zj zd)<|zc .u64<|zc .u64 (zc .u64 (zn x (2^32)*zn y (2^32))+zn a (2^32))+zn (zc .u64<|H4 zd a 4294967295+zc .u64 (H4 zd x 4294967295*zn y (2^32))) (2^32),.dat (zj zd)<|zc .u64<|x*y]) []):=by kernel_rfl
end T177
namespace T181
def T(x y:List Int):Tr:=tree LZ false 9 181<|Ae ([zt<|zj zd,zt<|zj zd]) (x,y)
def L1(v1:List Int)(c:Nat)(v20:List Int)(b a:Int)(d:List Int):Tr:=re ((T [] []).L)<|Aw 80 [(1,.dat (zt<|zj zd) v1),(5,.sl 0 1 0 c none),(20,.dat (zt<|zj zd) v20),(21,.dat i64 b),(22,.dat i64 a)] [(0,.arr false 216 (zj zd) d)] 1
theorem Ai(x y:List Int):T x y=let a:=(length x:Int)+(length y:Int);let b':=zc .i64 a;.ck (decide (0<=zc .i64 a)&&decide (zc .i64 a=zc .i64 a)&&decide (8*toNat b'<=281474976710656)&&decide (zc .i64 a<9223372036854775808)) (L1 y (toNat b') x ((length x:Int)) 0<|replicate (toNat b') 0):=by kernel_rfl
def L2(v1:List Int)(c:Nat)(i g j:Int)(v20:List Int)(b f:Int)(d:List Int)(a e:Int)(h:List Int):Tr:=re ((stepT LZ<|L1 [] 0 [] 0 0 []).L.L)<|Aw 80 [(1,.dat (zt<|zj zd) v1),(5,.sl 0 1 0 c none),(6,.dat i64 i),(7,.dat (zj zd) g),(8,.dat (zj zd) j),(20,.dat (zt<|zj zd) v20),(21,.dat i64 b),(22,.dat i64 f),(27,.dat (zt<|zj zd) d),(28,.dat i64 a),(29,.dat i64 e)] [(0,.arr false 216 (zj zd) h)] 1
theorem Al(v1:List Int)(b:Nat)(v20:List Int)(c a:Int)(d:List Int):stepT LZ (L1 v1 b v20 c a d)=.di (a<c) (.ck (decide (0<=a)&&decide (a<(length v20:Int)))<|L2 v1 b a (getD v20 (toNat a) 0) 0 v20 c a v1 ((length v1:Int)) 0 d) (.ck (decide (0+b<=length d)&&true&&C4 (take b d))<|.leaf (.dat (zt<|zj zd)<|Ax<|take b d) []):=by kernel_rfl
theorem AH(v1:List Int)(b:Nat)(h i j:Int)(v20:List Int)(e d:Int)(c:List Int)(f a:Int)(g:List Int):stepT LZ (L2 v1 b h i j v20 e d c f a g)=let b':=zc .i64<|h+a;let n:=getD c (toNat a) 0;let r:=decide (0<=zc .i64 (h+a))&&decide (zc .i64 (h+a)<(↑b:Int));let k:=h+(length v1:Int);let q:=decide ((0:Sh.T (By [u64]))<=0);let h':=decide (0<=(1:Sh.T (By [u64])));let m:=getD g (toNat b') 0;let p:=decide (toNat b'<length g);let o:=IB i n;let l:=It o m 0;.di (a<f) (.ck (decide (0<=a)&&decide (a<(length c:Int)))<|.ck (Sp.u64 i&&Sp.u64 n)<|.ck r<|.ck p<|.ck (Sp.u64 o&&Sp.u64 m&&q&&h')<|.ck (Sp.u64 l&&Sp.u64 j&&q&&h')<|.ck r<|.ck p<|L2 v1 b h i (zc .u64<|zc .u64 (R0 i n+QU o m 0)+QU l j 0) v20 e d c f (zc .i64<|a+1)<|set g (toNat b')<|It l j 0) (.ck (decide (0<=zc .i64 k)&&decide (zc .i64 k<(↑b:Int)))<|.cd (toNat (zc .i64 k)<length g)<|L1 v1 b v20 e (zc .i64<|d+1)<|set g (toNat<|zc .i64 k) j):=by kernel_rfl
end T181
end
theorem JC:C9 iL:=fun g sp h=>by cases h
theorem wu(x:Int)(b:0<=x)(a:x<=18446744073709551615):zc .u64 x=x:=IntWalk.u64_in x ⟨b,a⟩
theorem EK{n:Int}(h:CI n=true): -9223372036854775808<=n/\n<9223372036854775808:=by
 unfold CI at h;rw[zf,w5,w5]at h;exact h
namespace T178
theorem ok:Af A6 178 Yv:=by
 refine BO JC<|fun(n:Int) a=>?_;have a:=EK (n:=n) a;refine yf (Ai n)<|zk (fun c=>?_)<|fun c=>?_
 ·have c:=w6 c;refine zg<|zu rfl rfl ?_;show zc .u64 (zc .i64<|0-n)=Ag n;simp only[Aj];rcases zw (-9223372036854775808) n with h|h
  ·rw[wr _ (by omega) (by omega),wu _ (by omega)<|by omega];omega
  ·have:n= -9223372036854775808:=by omega
   subst this;decide+kernel
 ·have c:=w7 c;refine zg<|zu rfl rfl ?_;show zc .u64 n=Ag n;simp only[Aj];rw[wu _ (by omega)<|by omega];omega
end T178
namespace T209
theorem Ar{Q:PV->Ob->Prop}(w:List Int)(f:w.length<=20000)(b:∀ob,Q (.dat Dt<|Ax w) ob):∀(i:Nat),i<=w.length->Ax w=Ax (w.take i)->Ends iL (L1 w i) Q
 |0,g,a=>by
  have a:Ax w=[]:=a;rw[a]at b;refine yj (Al ..) (yh (by simp)<|ze (by simp)<|zg<|b _)
 |i+1,g,a=>by
  have e:zc .i64 (((i+1:Nat):Int)-1)=(i:Int):=by rw[wr _ (by omega)<|by omega];omega
  have d:w.take (i+1)=w.take i++[w.getD i 0]:=by
   rw[List.take_add_one];congr 1;rw[zo,z6<|by omega];rfl
  refine yj (Al ..) (ze (by simp<;>omega) ?_);rw[e,zl];refine ze (by simp<;>omega)<|zk (fun c=>?_)<|fun c=>?_
  ·have c:w.getD i 0=0:=by simpa using c
   refine Ar w f b i (by omega) ?_;rw[a,d,c,I7]
  ·have c:w.getD i 0≠0:=by simpa using c
   refine ze (by simp;omega)<|zg ?_;have:Ax w=w.take (i+1):=by rw[a,d,IK<|aM c]
   rw[this]at b;exact b _
theorem ok:Af A6 209 Xv:=by
 refine BO JC<|fun(w:List Int) hw=>?_;obtain⟨a,b⟩:=Jl (l:=w) hw;refine yf (Ai w) (Ar w a (fun ob=>zu rfl rfl rfl) w.length (Nat.le_refl _)<|by rw[yn])
end T209
theorem Fo{l:List Int}(h:Cp l=true):l.length<=20000/\Ay Ao l/\Sp.nz l:=by
 unfold Cp at h;rw[zf]at h;have:=Jl h.1;exact⟨this.1,this.2,by
  have:=h.2;unfold Sp.nzW at this;have:l.getLast?≠some 0:=w6 this;exact this⟩
namespace T187
theorem Ar{Q:PV->Ob->Prop}(a b:List Int)(j:Ay Ao a)(h:Ay Ao b)(l:a.length=b.length)(n:b.length<=20000)(f:∀ob,Q (.dat i64<|Cg (As a)<|As b) ob):∀(i:Nat),i<=a.length->a.drop i=b.drop i->Ends iL (L1 a b<|(i:Int)-1) Q
 |0,o,g=>by
  have g:a=b:=g;have:Cg (As a) (As b)=0:=by rw[g];unfold Cg;simp
  rw[this]at f;exact yj (Al ..) (yh (by simp)<|zg<|f _)
 |i+1,o,g=>by
  have m:(((i+1:Nat):Int)-1)=(i:Int):=by omega
  have k:a.drop i=a.getD i 0::a.drop (i+1):=by
   rw[zo,z6<|by omega];exact yo (by omega)
  have db:b.drop i=b.getD i 0::a.drop (i+1):=by
   rw[g,zo,z6<|by omega];exact yo (by omega)
  have q:=Sp.A5<|AZ j i;have p:=Sp.A5<|AZ h i;rw[m];refine yj (Al ..) (ze (by simp) ?_);rw[zl];refine ze (by simp;omega) (ze (by simp;omega)<|zk (fun c=>ze (by simp;omega)<|ze (by simp;omega)<|zk (fun d=>?_)<|fun d=>?_)<|fun c=>?_)
  ·have d:=w6 d;have:=JF (b:=Ao) (by decide) j h k db d;have e:Cg (As a) (As b)= -1:=by unfold Cg;exact wd this
   rw[e]at f;exact zg<|f _
  ·have d:=w7 d;have c:a.getD i 0≠b.getD i 0:=by simpa using c
   have:=JF (b:=Ao) (by decide) h j db k (by omega);have e:Cg (As a) (As b)=1:=by
    unfold Cg As;rw[wc (by omega),wd<|by omega]
   rw[e]at f;exact zg<|f _
  ·have c:a.getD i 0=b.getD i 0:=by simpa using c
   rw[wr ((i:Int)-1) (by omega)<|by omega];exact Ar a b j h l n f i (by omega) (by rw[k,db,c])
theorem ok:Af A6 187 YU:=by
 refine BO JC<|fun(i:List Int×List Int) g=>?_;obtain⟨a,b⟩:=i;have g:(Cp a&&Cp b)=true:=g;rw[zf]at g;obtain⟨a1,a2,a3⟩:=Fo g.1;obtain⟨b1,b2,b3⟩:=Fo g.2;have f:∀ob,Ad YU (a,b) (.dat i64<|Cg (As a)<|As b) ob:=fun ob=>zu rfl rfl rfl
 refine yf (Ai a b)<|zk (fun c=>zk (fun d=>?_)<|fun d=>?_)<|fun c=>?_
 ·have d:=w6 d;have e:Cg (As a) (As b)= -1:=by unfold Cg;exact wd (Fa (by decide) a2 b2 b3 (by omega))
  rw[e]at f;exact zg<|f _
 ·have d:=w7 d;have c:(a.length:Int)≠b.length:=by simpa using c
  have:=Fa (b:=Ao) (by decide) b2 a2 a3 (by omega);have e:Cg (As a) (As b)=1:=by
   unfold Cg As;rw[wc (by omega),wd<|by omega]
  rw[e]at f;exact zg<|f _
 ·have c:(a.length:Int)=b.length:=by simpa using c
  rw[wr _ (by omega)<|by omega];exact Ar a b a2 b2 (by omega) b1 f a.length (Nat.le_refl _) (by rw[List.drop_length,show a.length=b.length by omega,List.drop_length])
end T187
theorem Ed{a:AG}(h:Sp.C6 a=true):(-9223372036854775808<=a.1/\a.1<9223372036854775808)/\(a.2=[]\/(Cp a.2=true/\(a.1=1\/a.1= -1)/\9223372036854775808<=As a.2)):=by
 unfold Sp.C6 at h;rw[zf,ql,zf,zf,ql,w5,w5,w5,w5]at h;exact⟨EK h.1,h.2.imp id fun h=>⟨h.1.1,h.1.2,h.2⟩⟩
theorem val_one(d:Int):zy Ao [d]=d:=by simp[zy]
theorem AbY{d:Int}(e:0<d)(c:d<18446744073709551616):[d]=BA d:=by
 have:=IF (b:=Ao) (l:=[d]) (by decide) (fun x a=>by rw[List.mem_singleton]at a;subst a;exact⟨by omega,c⟩) (by unfold Sp.nz;simp;omega);rw[val_one]at this;exact this
theorem E8{s:Int}:Sp.vI (s,[])=s:=by unfold Sp.vI;exact wd rfl
namespace T179
theorem ok(f:∀g sp,LZ.sp g=some sp->Af A6 g sp):Af A6 179 P1:=by
 refine Gf (X:=LZ) rfl f (d:=9) (by kernel_rfl) (by kernel_rfl) (by kernel_rfl) (fun(a:Int×List Int) ha=>?_) (Bb<|by kernel_rfl);obtain⟨hr,i⟩:=Ed (a:=a) ha;obtain⟨s,w⟩:=a;have hr: -9223372036854775808<=s/\s<9223372036854775808:=hr;refine yf (Ai (s,w))<|zk (fun c=>?_)<|fun c=>zk (fun d=>?_)<|fun d=>ze ?_ ?_
 ·have c:0<w.length:=w6 c;have e:w≠[]:=by rintro rfl;simp at c
  rcases i with i|⟨p,h,k⟩
  ·exact wh i e
  ·obtain⟨n1,j,n⟩:=Fo p;have h:s=1\/s= -1:=h;have k:9223372036854775808<=As w:=k;have ev:Sp.vI (s,w)=if s<0 then -As w else As w:=by unfold Sp.vI;exact wc e
   have l:Ag (Sp.vI (s,w))=As w:=by rw[ev];simp only[Aj];split<;>omega
   have m:decide (Sp.vI (s,w)<0)=decide (s<0):=by
    rw[ev];rcases h with rfl|rfl<;>simp<;>omega
   refine zg<|zu rfl rfl ?_;show(decide (s<0),w)=(decide (Sp.vI (s,w)<0),BA<|Ag<|Sp.vI (s,w));rw[l,m,show w=BA (As w)from IF (by decide) j n];congr 2;exact(Dd (b:=Ao) (by decide)<|AD (b:=Ao) (by decide) j).symm
 all_goals
  have c:¬0<w.length:=w7 c;have o:w=[]:=List.length_eq_zero_iff.1 (by omega);subst o
 ·have d:s=0:=by simpa using d
  subst d;exact zg<|zu rfl rfl rfl
 ·show CI s=true;unfold CI;rw[zf,w5,w5];exact hr
 ·have d:s≠0:=by simpa using d
  refine zg<|zu rfl rfl ?_;show(decide (s<0),[Ag s])=(decide (Sp.vI (s,[])<0),BA<|Ag<|Sp.vI (s,[]));rw[E8,AbY (d:=Ag s) (by simp only[Aj];omega)<|by simp only[Aj];omega]
end T179
theorem Ce{n:Int}(h: -9223372036854775808<n/\n<9223372036854775808):Dc n=(n,[]):=wd h
theorem Ur{w:List Int}(neg:Bool)(b:Ay Ao w)(a:Sp.nz w)(c:9223372036854775808<=As w):Dc (if neg=true then -As w else As w)=(if neg=true then -1 else 1,w):=by
 have e:BA (As w)=w:=(IF (by decide) b a).symm;cases neg with
 |true=>
  simp only[wk];unfold Dc;rw[wc (by omega),wd<|by omega];rw[show Ag (-As w)=As w by simp only[Aj];omega,e]
 |false=>
  show Dc (As w)=(1,w);unfold Dc;rw[wc (by omega),wc<|by omega];rw[show Ag (As w)=As w by simp only[Aj];omega,e]
namespace T180
theorem ok(a:∀g sp,LZ.sp g=some sp->Af A6 g sp):Af A6 180 gJ:=by
 refine Gf (X:=LZ) rfl a (d:=9) (by kernel_rfl) (by kernel_rfl) (by kernel_rfl) (fun(i:Bool×List Int) hi=>?_) (Bb<|by kernel_rfl);obtain⟨neg,w⟩:=i;obtain⟨n1,n2,n3⟩:=Fo (l:=w) hi;refine yf (Ai neg w) ?_;conv=>zeta
 cases w with
 |nil=>
  refine ze rfl (zg<|zu rfl rfl ?_);show _=Dc (if neg=true then -0 else 0);rw[show(if neg=true then(-0:Int)else 0)=0 by split<;>rfl,Ce<|by omega]
 |cons d t=>
  cases t with
  |nil=>
   have o:=n2 d (by simp);have u:d≠0:=by intro h;subst h;exact n3 rfl
   have q:0<=d:=o.1;have s:d<18446744073709551616:=o.2;have ev:As [d]=d:=val_one d;refine yh rfl (ze rfl (ze rfl (zk (fun c=>?_)<|fun c=>?_)))
   ·have c:d<=9223372036854775807:=w6 c;have j:zc .i64 d=d:=wr _ (by omega) (by omega);have r:zc .i64 (0-d)= -d:=by rw[wr _ (by omega)<|by omega];omega
    refine zk (fun n=>ze rfl (zg<|zu rfl rfl ?_))<|fun n=>ze rfl (ze rfl (ze (w4 c)<|ze rfl (zg<|zu rfl rfl ?_)))
    ·show(zc .i64<|0-zc .i64 d,[])=Dc (if neg=true then -As [d]else As [d]);rw[j,r,wd n,ev,Ce<|by omega]
    ·show(zc .i64 d,[])=Dc (if neg=true then -As [d]else As [d]);subst n;rw[j,wc (by decide),ev,Ce<|by omega]
   ·have v:¬d<=9223372036854775807:=w7 c;have f:=Ur neg n2 n3 (by rw[ev];omega);refine ze rfl (ze rfl (yh c<|zk (fun n=>zg<|zu rfl rfl ?_)<|fun n=>zg<|zu rfl rfl ?_))
    ·show(-1,[d])=Dc (if neg=true then -As [d]else As [d]);rw[f,wd n]
    ·show(1,[d])=Dc (if neg=true then -As [d]else As [d]);rw[f,n];rfl
  |cons e t=>
   have p:9223372036854775808<=As (d::e::t):=by
    have h:=DF (b:=Ao) (by decide) n2 n3 (by simp);have m:=AL (b:=Ao) (by decide) (show 1<=(d::e::t).length-1 by simp);rw[Int.pow_one]at m;have:(9223372036854775808:Int)<=(Ao:Int):=by decide
    exact Int.le_trans this<|Int.le_trans m h
   have f:=Ur neg n2 n3 p;have z0:(((d::e::t).length:Int)==0)=false:=by simp;omega
   have k:(((d::e::t).length:Int)==1)=false:=by simp;omega
   refine yh z0<|yh k<|yh k<|zk (fun n=>zg<|zu rfl rfl ?_)<|fun n=>zg<|zu rfl rfl ?_
   ·show(-1,d::e::t)=Dc (if neg=true then -As (d::e::t)else As (d::e::t));rw[f,wd n]
   ·show(1,d::e::t)=Dc (if neg=true then -As (d::e::t)else As (d::e::t));rw[f,n];rfl
end T180
namespace T186
variable {Q:PV->Ob->Prop}
theorem Ar(x y:List Int)(n:Ay Ao x)(o:Ay Ao y)(j:y.length<=x.length)(v:x.length<=9000)(q:∀ob,Q (.dat Dt<|BA<|As x+As y) ob):∀(k i:Nat) (p:List Int) (c:Int),i+k=x.length->p.length=i->Ay Ao p->(0<=c/\c<=1)->zy Ao p+(Ao:Int)^i*c=zy Ao (x.take i)+zy Ao (y.take i)->
  Ends LZ (L1 x y (x.length+1) c x.length i<|p++zm (x.length+1-i) 0) Q
 |0,i,p,c,g,hp,h,a,l=>by
  have g:i=x.length:=by omega
  subst g;have r:x.length+1-x.length=1:=by omega
  have es:(p++zm (x.length+1-x.length) (0:Int)).set x.length c=p++[c]:=by
   rw[r];exact Pe.DL p [] 0 c hp
  have t:(p++[c]).take (x.length+1)=p++[c]:=zr (by simp;omega);have b:Ay Ao (p++[c]):=Eo h (CZ a.1 (by omega));have s:As (p++[c])=As x+As y:=by
   unfold As;rw[Fq,hp,l,yn,zr j]
  refine yj (Al ..) (yh (by simp) ?_);rw[zl,es,t];refine ze (by simp<;>omega) (ze (by simp;omega)<|ze ?_<|zg ?_)
  ·rw[EN (by simp;omega) b];simp;omega
  ·rw[LG b,s];exact q _
 |k+1,i,p,c,g,hp,h,a,l=>by
  have f:=AZ n i;have m:=AZ o i;have lo:(p++zm (x.length+1-i) (0:Int)).length=x.length+1:=by simp;omega
  have step:∀z,Sp.u64 z=true->z=y.getD i 0->Ends LZ (L1 x y (x.length+1) (QU (x.getD i 0) z c) x.length (zc .i64<|(i:Int)+1)<|(p++zm (x.length+1-i) 0).set i<|It (x.getD i 0) z c) Q:=by
   intro z e u;obtain⟨a1,a2,a3⟩:=Mg f e a;rw[wr ((i:Int)+1) (by omega) (by omega),Jt p (x.length+1) i _ hp<|by omega];refine Ar x y n o j v q k (i+1) (p++[It (x.getD i 0) z c]) _ (by omega) (by simp;omega) (Eo h a1) a2 ?_;rw[Fq,hp,Mo,AJ _ x i,AJ _ y i, <-u,qd, <-z7,a3,z7,z7];omega
  refine yj (Al ..) (ze (by simp;omega) ?_);rw[zl];refine zk (fun d=>?_)<|fun d=>?_
  ·have d:=w6 d;refine ze (by simp;omega) (ze (by simp;omega)<|ze ?_<|ze (by simp;omega)<|ze (w4<|by rw[lo];omega)<|step _ m rfl);rw[f,m,yb,yb,zf];exact⟨w4 a.1,w4 a.2⟩
  ·have d:=w7 d;have e:y.getD i 0=0:=by rw[zo,yt<|by omega];rfl
   refine ze (by simp;omega) (ze ?_<|ze (by simp;omega)<|ze (w4<|by rw[lo];omega)<|step _ rfl e.symm);rw[f,show Sp.u64 0=true from rfl,yb,yb,zf];exact⟨w4 a.1,w4 a.2⟩
theorem start(x y:List Int)(b:Ay Ao x)(d:Ay Ao y)(a:y.length<=x.length)(e:x.length<=9000)(f:∀ob,Q (.dat Dt<|BA<|As x+As y) ob){t:Tr}:
  Ends LZ (.ite (decide ((0:Int)<=zc ym ((x.length:Int)+(1:Int)))&&decide (zc ym ((x.length:Int)+(1:Int))=zc ym ((x.length:Int)+(1:Int)))&&decide ((8:Nat)*qq (zc ym<|(x.length:Int)+(1:Int))<=(281474976710656:Nat))&&decide (zc ym ((x.length:Int)+(1:Int))<(9223372036854775808:Int)))
   (L1 x y (qq<|zc ym<|(x.length:Int)+(1:Int)) ((0:Int)) ((x.length:Int)) ((0:Int))<|zm (qq<|zc ym<|(x.length:Int)+(1:Int)) (0:Int)) t) Q:=by
 have c:zc .i64 ((x.length:Int)+1)=((x.length+1:Nat):Int):=by rw[wr _ (by omega)<|by omega];omega
 rw[c,zl];refine ze (by simp;omega) ?_;exact Ar x y b d a e f x.length 0 [] 0 (by omega) rfl (fun _ h=>by cases h) (by omega) (by simp[zy])
theorem ok(a:∀g sp,LZ.sp g=some sp->Af A6 g sp):Af A6 186 lL:=by
 refine Gf (X:=LZ) rfl a (d:=9) (by kernel_rfl) (by kernel_rfl) (by kernel_rfl) (fun(i:List Int×List Int) b=>?_) (Bb<|by kernel_rfl);obtain⟨x,y⟩:=i;have b:(Sp.hW x&&Sp.hW y)=true:=b;rw[zf]at b;obtain⟨x1,x2⟩:=Y3 b.1;obtain⟨y1,y2⟩:=Y3 b.2;have e:∀ob,Ad lL (x,y) (.dat Dt<|BA<|As x+As y) ob:=fun ob=>zu rfl rfl rfl
 refine yf (Ai x y)<|zk (fun c=>?_)<|fun c=>?_
 ·have c:=w6 c;exact start y x y2 x2 (by omega) y1 (by rw[Int.add_comm];exact e)
 ·have c:=w7 c;exact start x y x2 y2 (by omega) x1 e
end T186
namespace T188
variable {Q:PV->Ob->Prop}
theorem nH{b:Int}(d:0<b){l:List Int}{n:Nat}(h:Ay b l)(f:zy b l<b^n):zy b (l.take n)=zy b l:=by
 rcases Nat.lt_or_ge n l.length with a|a
 ·have e:=Cs b l n (by omega);have g:=AD (by omega)<|AQ h n;have i:=AD (by omega)<|E5 h n;rcases zw 0 (zy b<|l.drop n)with c|c
  ·have:=z8 (show 1<=zy b (l.drop n)by omega)<|yg<|AR d n;rw[Int.mul_one]at this;omega
  ·have:zy b (l.drop n)=0:=by omega
   rw[this,qh]at e;omega
 ·rw[zr a]
theorem Ar(x y:List Int)(m:Ay Ao x)(n:Ay Ao y)(o:As y<=As x)(B:x.length<=20000)(r:∀ob,Q (.dat Dt<|BA<|As x-As y) ob):∀(k i:Nat) (p:List Int) (c:Int),i+k=x.length->p.length=i->Ay Ao p->(0<=c/\c<=1)->zy Ao p-(Ao:Int)^i*c=zy Ao (x.take i)-zy Ao (y.take i)->
  Ends LZ (L1 x y x.length c x.length i<|p++zm (x.length-i) 0) Q
 |0,i,p,c,l,hp,f,a,b=>by
  have l:i=x.length:=by omega
  subst l;have u:p++zm (x.length-x.length) (0:Int)=p:=by rw[Nat.sub_self];simp
  have w:p.take x.length=p:=zr (by omega);have s:As x<(Ao:Int)^x.length:=Bw (by decide) m;have t:As p<(Ao:Int)^p.length:=Bw (by decide) f;have v:As p=As x-As y:=by
   rw[yn,nH (by decide) n<|show zy Ao y<_ from yd o s]at b;have b:As p-(Ao:Int)^x.length*c=As x-As y:=b;rw[hp]at t;rcases zw 0 c with h|h
   ·have:c=1:=by omega
    subst this;rw[Int.mul_one]at b;omega
   ·have:c=0:=by omega
    subst this;rw[qh]at b;omega
  rw[u];refine yj (Al ..) (yh (by simp) ?_);rw[w];refine ze ?_<|zg ?_
  ·rw[EN (by omega) f];simp;omega
  ·rw[LG f,v];exact r _
 |k+1,i,p,c,l,hp,f,a,b=>by
  have j:=AZ m i;have q:=AZ n i;have lo:(p++zm (x.length-i) (0:Int)).length=x.length:=by simp;omega
  have step:∀z,Sp.u64 z=true->z=y.getD i 0->Ends LZ (L1 x y x.length (Q5 (x.getD i 0) z c) x.length (zc .i64<|(i:Int)+1)<|(p++zm (x.length-i) 0).set i<|UC (x.getD i 0) z c) Q:=by
   intro z g A;obtain⟨a1,a2,a3⟩:=Sp.Hp j g a;rw[wr ((i:Int)+1) (by omega) (by omega),Jt p x.length i _ hp<|by omega];refine Ar x y m n o B r k (i+1) (p++[UC (x.getD i 0) z c]) _ (by omega) (by simp;omega) (Eo f a1) a2 ?_;have e:(Ao:Int)^i*UC (x.getD i 0) z c-(Ao:Int)^i*(18446744073709551616*Q5 (x.getD i 0) z c)=(Ao:Int)^i*x.getD i 0-(Ao:Int)^i*z-(Ao:Int)^i*c:=by
    rw[<-qo,a3,qo,qo]
   rw[Fq,hp,Mo,AJ _ x i,AJ _ y i, <-A];omega
  refine yj (Al ..) (ze (by simp;omega) ?_);rw[zl];refine zk (fun d=>?_)<|fun d=>?_
  ·have d:=w6 d;refine ze (by simp;omega) (ze (by simp;omega) (ze ?_<|ze (by simp;omega)<|ze (w4<|by rw[lo];omega)<|step _ q rfl));rw[j,q,yb,yb,zf];exact⟨w4 a.1,w4 a.2⟩
  ·have d:=w7 d;have g:y.getD i 0=0:=by rw[zo,yt<|by omega];rfl
   refine ze (by simp;omega) (ze ?_<|ze (by simp;omega)<|ze (w4<|by rw[lo];omega)<|step _ rfl g.symm);rw[j,show Sp.u64 0=true from rfl,yb,yb,zf];exact⟨w4 a.1,w4 a.2⟩
theorem ok(b:∀g sp,LZ.sp g=some sp->Af A6 g sp):Af A6 188 kD:=by
 refine Gf (X:=LZ) rfl b (d:=9) (by kernel_rfl) (by kernel_rfl) (by kernel_rfl) (fun(i:List Int×List Int) a=>?_) (Bb<|by kernel_rfl);obtain⟨x,y⟩:=i;have a:(C4 x&&C4 y&&decide (As y<=As x))=true:=a;rw[zf,zf,w5]at a;obtain⟨x1,x2⟩:=Jl a.1.1;obtain⟨y1,y2⟩:=Jl a.1.2;have c:∀ob,Ad kD (x,y) (.dat Dt<|BA<|As x-As y) ob:=fun ob=>zu rfl rfl rfl
 refine yf (Ai x y) ?_;conv=>zeta
 rw[zl];refine ze (by simp;omega) ?_;exact Ar x y x2 y2 a.2 x1 c x.length 0 [] 0 (by omega) rfl (fun _ h=>by cases h) (by omega) (by simp[zy])
end T188
theorem Ml(n:Int):zc .u64 n=n % 18446744073709551616:=by simp[zc,IntKind.bits,IntKind.signed]
theorem cL(n:Nat):zn (n:Int) ((2:Int)^(32:Nat))=((n/4294967296:Nat):Int):=by
 rw[ye _<|by decide];rfl
theorem nF(n:Nat)(h:n<18446744073709551616):zc .u64 (n:Int)=n:=wu _ (by omega) (by omega)
theorem O3(n:Nat)(h:n<18446744073709551616):H4 .u64 (n:Int) 4294967295=((n % 4294967296:Nat):Int):=by
 have e:(ya 64 (n:Int)&&&ya 64 4294967295).toNat=n % 4294967296:=by
  rw[BitVec.toNat_and];have a:(ya 64 (n:Int)).toNat=n:=by rw[yv,yz];exact qe h
  have b:(ya 64 4294967295).toNat=2^32-1:=by decide
  rw[a,b,Nat.and_two_pow_sub_one_eq_mod]
 show zc .u64 (((ya 64 (n:Int)&&&ya 64 4294967295).toNat:Nat):Int)=_;rw[e];exact nF _ (by omega)
namespace T177
theorem ok:Af A6 177 Uk:=by
 refine BO JC<|fun(i:Int×Int) g=>?_;obtain⟨x,y⟩:=i;have g:(Sp.u64 x&&Sp.u64 y)=true:=g;rw[zf]at g;have e:=Sp.A5 g.1;have f:=Sp.A5 g.2;obtain⟨x,rfl⟩:=zh e.1;obtain⟨y,rfl⟩:=zh f.1;have e:x<18446744073709551616:=by omega
 have f:y<18446744073709551616:=by omega
 obtain⟨o,j,l,k⟩:=Go.Lib.mul64_hi x y e f;have n:=y7 (a:=x/4294967296) (b:=y/4294967296) (by omega) (by omega);have q:=y7 (a:=x/4294967296) (b:=y % 4294967296) (by omega) (by omega);have p:=y7 (a:=x % 4294967296) (b:=y/4294967296) (by omega) (by omega);refine yf (Ai (x:Int) (y:Int))<|ze rfl (ze rfl (ze rfl (ze rfl (ze rfl (zg<|zu rfl rfl ?_)))));refine Prod.ext ?_ ?_
 ·show zc zd (zc zd (zc zd (zn (x:Int) ((2:Int)^(32:Nat))*zn (y:Int) ((2:Int)^(32:Nat)))+zn (zc zd<|zc zd (zn (x:Int) ((2:Int)^(32:Nat))*H4 zd (y:Int) (4294967295:Int))+zn (zc zd<|H4 zd (x:Int) (4294967295:Int)*H4 zd (y:Int) (4294967295:Int)) ((2:Int)^(32:Nat))) ((2:Int)^(32:Nat)))+zn (zc zd<|H4 zd (zc zd<|zc zd (zn (x:Int) ((2:Int)^(32:Nat))*H4 zd (y:Int) (4294967295:Int))+zn (zc zd<|H4 zd (x:Int) (4294967295:Int)*H4 zd (y:Int) (4294967295:Int)) ((2:Int)^(32:Nat))) (4294967295:Int)+zc zd (H4 zd (x:Int) (4294967295:Int)*zn (y:Int) ((2:Int)^(32:Nat)))) ((2:Int)^(32:Nat)))=R0 x y;have m:R0 x y=((x*y/18446744073709551616:Nat):Int):=by unfold R0;omega
  rw[m, <-k];have h:x*y/18446744073709551616<18446744073709551616:=Nat.div_lt_of_lt_mul<|Nat.mul_lt_mul'' e f;rw[<-k]at h;simp only[cL,O3 x e,O3 y f];simp only[<-yq];generalize (x/4294967296)*(y/4294967296)=a at*;generalize (x/4294967296)*(y % 4294967296)=b at*;generalize (x % 4294967296)*(y/4294967296)=c at*;generalize (x % 4294967296)*(y % 4294967296)=d at*;rw[nF d (by omega),nF a (by omega),nF b (by omega),nF c (by omega),cL, <-yx,nF _ j,cL,O3 _ j, <-yx, <-yx,nF _ l,cL,nF (a+_) (by omega), <-yx,nF _ h]
 ·show zc .u64 ((x:Int)*y)=IB x y;unfold IB;exact Ml _
end T177
theorem kW{x y o c:Int}(d:Sp.u64 x=true)(e:Sp.u64 y=true)(g:Sp.u64 o=true)(f:Sp.u64 c=true):
  Sp.u64 (IB x y)=true/\Sp.u64 (It (IB x y) o 0)=true/\Sp.u64 (It (It (IB x y) o 0) c 0)=true/\
  zc .u64 (zc .u64 (R0 x y+QU (IB x y) o 0)+QU (It (IB x y) o 0) c 0)=(x*y+o+c)/18446744073709551616/\
  Sp.u64 ((x*y+o+c)/18446744073709551616)=true/\
  It (It (IB x y) o 0) c 0+18446744073709551616*((x*y+o+c)/18446744073709551616)=x*y+o+c:=by
 have d:=Sp.A5 d;have e:=Sp.A5 e;have g:=Sp.A5 g;have f:=Sp.A5 f;have h0:0<=x*y:=zq d.1 e.1;have h:x*y<=18446744073709551615*18446744073709551615:=by
  have a:=z8 (show y<=18446744073709551615 by omega) d.1;have b:=zi (show x<=18446744073709551615 by omega) (show(0:Int)<=18446744073709551615 by omega);omega
 unfold IB R0 It QU;generalize x*y=P at*;refine⟨CZ (by omega) (by omega),CZ (by omega) (by omega),CZ (by omega) (by omega),?_,CZ (by omega) (by omega),by omega⟩;rw[Ml,Ml];omega
namespace T181
variable {Q:PV->Ob->Prop}
theorem A2(x y:List Int)(n i:Nat)(E:i<x.length)(J:n=x.length+y.length)(l:x.length<=9000)(g:y.length<=9000)(v:Ay Ao x)(w:Ay Ao y)(p:List Int)(hp:p.length=i+y.length)(b:Ay Ao p)
  (A:∀q c,q.length=i+y.length->Ay Ao q->Sp.u64 c=true->zy Ao q+(Ao:Int)^(i+y.length)*c=zy Ao p+(Ao:Int)^i*(x.getD i 0*zy Ao y)->Ends LZ (L1 y n x x.length ((i+1:Nat):Int)<|(q++[c])++zm (n-(i+y.length+1)) 0) Q):∀(k j:Nat) (q:List Int) (c:Int),j+k=y.length->q.length=i+j->Ay Ao q->Sp.u64 c=true->zy Ao q+(Ao:Int)^(i+j)*c=zy Ao (p.take<|i+j)+(Ao:Int)^i*(x.getD i 0*zy Ao (y.take j))->
  Ends LZ (L2 y n i (x.getD i 0) c x x.length i y y.length j<|q++(p.drop (i+j)++zm (n-(i+y.length)) 0)) Q
 |0,j,q,c,f,a,m,d,t=>by
  have f:j=y.length:=by omega
  subst f;have e:zc .i64 ((i:Int)+(y.length:Int))=((i+y.length:Nat):Int):=by rw[wr _ (by omega)<|by omega];omega
  have h:zc .i64 ((i:Int)+1)=((i+1:Nat):Int):=by rw[wr _ (by omega)<|by omega];omega
  have C:p.drop (i+y.length)=[]:=List.drop_eq_nil_of_le (by omega);refine yj (AH ..) (yh (by simp) ?_);rw[e,h,zl,C,List.nil_append,Jt q n _ c a<|by omega];refine ze (by simp;omega) (ze (by simp;omega)<|A q c a m d ?_);rw[t,zr (by omega),yn]
 |k+1,j,q,c,f,a,m,d,t=>by
  have r:=AZ v i;have s:=AZ w j;have o:=AZ b<|i+j;have u:p.drop (i+j)=p.getD (i+j) 0::p.drop (i+j+1):=by
   rw[zo,z6<|by omega];exact yo (by omega)
  have e:zc .i64 ((i:Int)+(j:Int))=((i+j:Nat):Int):=by rw[wr _ (by omega)<|by omega];omega
  have h:zc .i64 ((j:Int)+1)=((j+1:Nat):Int):=by rw[wr _ (by omega)<|by omega];omega
  have lo:(q++(p.drop (i+j)++zm (n-(i+y.length)) (0:Int))).length=n:=by simp;omega
  have M:(q++(p.drop (i+j)++zm (n-(i+y.length)) (0:Int))).getD (i+j) 0=p.getD (i+j) 0:=by
   rw[u,qf];exact DZ _ _ _ _ a
  have s1:∀z,(q++(p.drop (i+j)++zm (n-(i+y.length)) (0:Int))).set (i+j) z=(q++[z])++(p.drop (i+(j+1))++zm (n-(i+y.length)) 0):=by
   intro z;rw[u,qf,DL _ _ _ _ a,qc];rfl
  obtain⟨F,H,B,I,D,K⟩:=kW r s o d;refine yj (AH ..) (ze (by simp;omega) ?_);rw[e,h,zl,zl,M,s1,I];have t1:(decide ((0:Int)<=((i+j:Nat):Int))&&decide (((i+j:Nat):Int)<(n:Int)))=true:=by simp;omega
  refine ze (by simp;omega) (ze (by rw[r,s];rfl)<|ze t1<|ze (w4<|by rw[lo];omega) (ze (by rw[F,o];rfl)<|ze (by rw[H,d];rfl)<|ze t1<|ze (w4<|by rw[lo];omega) ?_));refine A2 x y n i E J l g v w p hp b A k (j+1) _ _ (by omega) (by simp;omega) (Eo m B) D ?_;have G:i+(j+1)=(i+j)+1:=by omega
  have L:(Ao:Int)^i*(x.getD i 0*((Ao:Int)^j*y.getD j 0))=(Ao:Int)^(i+j)*(x.getD i 0*y.getD j 0):=by
   rw[Int.pow_add,zp,Int.mul_left_comm<|x.getD i 0]
  rw[G,Fq,a,Mo,qd, <-z7,K,AJ _ p<|i+j,AJ _ y j,z7,z7,z7<|x.getD i 0,z7,L];omega
theorem Ar(x y:List Int)(n:Nat)(h:n=x.length+y.length)(b:x.length<=9000)(a:y.length<=9000)(l:Ay Ao x)(m:Ay Ao y)(o:∀ob,Q (.dat Dt<|BA<|As x*As y) ob):∀(k i:Nat) (p:List Int),i+k=x.length->p.length=i+y.length->Ay Ao p->zy Ao p=zy Ao (x.take i)*zy Ao y->
  Ends LZ (L1 y n x x.length i<|p++zm (n-(i+y.length)) 0) Q
 |0,i,p,j,hp,d,e=>by
  have j:i=x.length:=by omega
  subst j;have t:p++zm (n-(x.length+y.length)) (0:Int)=p:=by rw[h,Nat.sub_self];simp
  have f:As p=As x*As y:=by
   rw[yn]at e;exact e
  rw[t];refine yj (Al ..) (yh (by simp) ?_);rw[zr<|by omega];refine ze ?_<|zg ?_
  ·rw[EN (by omega) d];simp;omega
  ·rw[LG d,f];exact o _
 |k+1,i,p,j,hp,d,e=>by
  refine yj (Al ..) (ze (by simp;omega) ?_);rw[zl];refine ze (by simp;omega) ?_;have h0:zy Ao (p.take<|i+y.length)=zy Ao p:=by rw[zr<|by omega]
  have:=A2 (Q:=Q) x y n i (by omega) h b a l m p hp d (fun q c s g r f=>by
   have:=Ar x y n h b a l m o k (i+1) (q++[c]) (by omega) (by simp;omega) (Eo g r) (by
    rw[Fq,s,f,e,AJ,zx,zp])
   rw[show i+1+y.length=i+y.length+1 by omega]at this;exact this) y.length 0 (p.take i) 0 (by omega) (by simp;omega) (AQ d i) rfl (by simp[zy])
  rw[Nat.add_zero, <-qc,List.take_append_drop]at this;exact this
theorem ok(a:∀g sp,LZ.sp g=some sp->Af A6 g sp):Af A6 181 nP:=by
 refine Gf (X:=LZ) rfl a (d:=9) (by kernel_rfl) (by kernel_rfl) (by kernel_rfl) (fun(i:List Int×List Int) b=>?_) (Bb<|by kernel_rfl);obtain⟨x,y⟩:=i;have b:(Sp.hW x&&Sp.hW y)=true:=b;rw[zf]at b;obtain⟨x1,x2⟩:=Y3 b.1;obtain⟨y1,y2⟩:=Y3 b.2;have f:∀ob,Ad nP (x,y) (.dat Dt<|BA<|As x*As y) ob:=fun ob=>zu rfl rfl rfl
 have e:zc .i64 ((x.length:Int)+(y.length:Int))=((x.length+y.length:Nat):Int):=by rw[wr _ (by omega)<|by omega];omega
 refine yf (Ai x y) ?_;conv=>zeta
 rw[e,zl];refine ze (by simp;omega) ?_;have:=Ar x y (x.length+y.length) rfl x1 y1 x2 y2 f x.length 0 (zm y.length 0) (by omega) (by simp) (fun d c=>by
  obtain⟨_,rfl⟩:=List.mem_replicate.1 c;exact⟨by decide,by decide⟩) (by rw[MT];simp[zy])
 rw[Nat.zero_add,List.replicate_append_replicate,show y.length+(x.length+y.length-y.length)=x.length+y.length by omega]at this;exact this
end T181
theorem FT:C9 LZ:=
 Aa T178.ok (Aa T208.ok<|Aa T217.ok<|Aa T209.ok<|Aa T177.ok AI)
theorem TE:C9 XI2:=
 Aa (T179.ok FT) (Aa (T180.ok FT)<|Aa (T186.ok FT)<|Aa (T188.ok FT)<|Aa T187.ok<|Aa (T181.ok FT)<|Aa T177.ok<|Aa T178.ok AI)
end Go.Pe
namespace Go.Sp
def Bc(a:AG):Bool:=C6 a&&decide (a.2.length<=9000)
def aU(a b:AG):Int:=Cg (vI a)<|vI b
def Ir(a:AG):Int:=Mt<|vI a
end Go.Sp
namespace Go.Pe
open Sp
open Go.Det
def RP:Am:=⟨[AY],fun a=>Sp.C6 a,[AY],fun a=>(Eg a,Em a),false⟩
def zD:Am:=⟨[AY],fun a=>Sp.C6 a,[AY],fun a=>(O8 a,PB a),false⟩
def Ks:Am:=⟨[AY],fun a=>Sp.C6 a,[i64],fun a=>Ir a,false⟩
def Qw:Am:=⟨[AY,AY],fun i=>Bc i.1&&Bc i.2,[AY],fun i=>(Kd i.1 i.2,Kf i.1 i.2),false⟩
def oJ:Am:=⟨[AY,AY],fun i=>Bc i.1&&Bc i.2,[AY],fun i=>(ZJ i.1 i.2,ZN i.1 i.2),false⟩
def RC:Am:=⟨[AY,AY],fun i=>Bc i.1&&Bc i.2,[AY],fun i=>(Fm i.1 i.2,FB i.1 i.2),false⟩
def lF:Am:=⟨[AY,AY],fun i=>Bc i.1&&Bc i.2,[i64],fun i=>aU i.1 i.2,false⟩
def XJ1:AV:=X7 [(143,RP),(139,Qw)]
def XJ2:AV:=X7 [(160,oJ),(161,Ks)]
section
open List Int Prod
namespace T143
def T(a:AG):Tr:=tree XI2 false 9 143<|Ae ([AY]) a
theorem Ai(a:AG):T a=let b:=BA<|Ag<|Sp.vI a;let b':=Sp.sg (!decide (Sp.vI a<0))<|As b;let c:Tr:=.ck (Sp.C6 a)<|.ck (Cp b)<|.leaf (yp [.dat i64<|C1 b',.dat wU<|C0 b']) [];.ite (!decide (0<length (snd a))) (.ite (fst a !=(-9223372036854775808)) (.leaf (yp [.dat i64<|zc .i64<|0-fst a,.nil]) []) c) c:=by kernel_rfl
end T143
namespace T139
def T(a b:AG):Tr:=tree XI2 false 9 139<|Ae ([AY,AY]) (a,b)
theorem Ai(a b:AG):T a b=let b':=BA<|Ag<|Sp.vI a;let c:=BA<|Ag<|Sp.vI b;let f:=BA<|As b'+As c;let h':=BA<|As b'-As c;let e:=BA<|As c-As b';let g:=Sp.sg (decide (Sp.vI a<0))<|As f;let i:=Sp.sg (decide (Sp.vI a<0))<|As h';let h:=Sp.sg (decide (Sp.vI b<0))<|As e;let d:Tr:=.ck (Sp.C6 a)<|.ck (Sp.C6 b)<|.ite (decide (Sp.vI a<0)==decide (Sp.vI b<0)) (.ck (Sp.hW b'&&Sp.hW c)<|.ck (Cp f)<|.leaf (yp [.dat i64<|C1 g,.dat wU<|C0 g]) [])<|.ck (Cp b'&&Cp c)<|.di (Cg (As b') (As c)>=0) (.ck (C4 b'&&C4 c&&decide (As c<=As b'))<|.ck (Cp h')<|.leaf (yp [.dat i64<|C1 i,.dat wU<|C0 i]) [])<|.ck (C4 c&&C4 b'&&decide (As b'<=As c))<|.ck (Cp e)<|.leaf (yp [.dat i64<|C1 h,.dat wU<|C0 h]) [];.ite (!decide (0<length (snd a))) (.ite (!decide (0<length (snd b))) (.ite (decide (zc .i64 (fst a+fst b)>fst a)==decide (fst b>0)) (.leaf (yp [.dat i64<|zc .i64<|fst a+fst b,.nil]) []) d) d) d:=by kernel_rfl
end T139
namespace T127
def T(a b:AG):Tr:=tree XI2 false 9 127<|Ae ([AY,AY]) (a,b)
theorem Ai(a b:AG):T a b=let d:=Ag<|fst a;let c:=Ag<|fst b;let h:=BA<|Ag<|Sp.vI a;let f:=BA<|Ag<|Sp.vI b;let b':=BA<|As h*As f;let g:=Sp.sg (!decide (Sp.vI a<0)==decide (Sp.vI b<0))<|As b';let e:Tr:=.ck (Sp.C6 a)<|.ck (Sp.C6 b)<|.ck (Sp.hW h&&Sp.hW f)<|.ck (Cp b')<|.leaf (yp [.dat i64<|C1 g,.dat wU<|C0 g]) [];.ite (!decide (0<length (snd a))) (.ite (!decide (0<length (snd b))) (.ck (CI<|fst a)<|.ck (CI<|fst b)<|.ck (Sp.u64 d&&Sp.u64 c)<|.ite (R0 d c==0) (.di (IB d c<=9223372036854775807) (.ite (!decide (fst a<0)==decide (fst b<0)) (.leaf (yp [.dat i64<|zc .i64<|0-zc .i64 (IB d c),.nil]) [])<|.leaf (yp [.dat i64<|zc .i64<|IB d c,.nil]) []) e) e) e) e:=by kernel_rfl
end T127
namespace T202
def T(a:AG):Tr:=tree XJ1 false 9 202<|Ae ([AY]) a
theorem Ai(a:AG):T a=.di (fst a<0) (.ck (Sp.C6 a)<|.leaf (yp [.dat i64<|Eg a,.dat wU<|Em a]) []) (.leaf (yp [.dat i64<|fst a,.dat wU<|snd a]) []):=by kernel_rfl
end T202
namespace T161
def T(a:AG):Tr:=tree iL false 9 161<|Ae ([AY]) a
theorem Ai(a:AG):T a=.leaf (.dat i64<|imax (-1)<|E2 1<|fst a) []:=by kernel_rfl
end T161
namespace T160
def T(a b:AG):Tr:=tree XJ1 false 9 160<|Ae ([AY,AY]) (a,b)
theorem Ai(a b:AG):T a b=.ck (Sp.C6 b) (.ck (Bc a&&Bc (Eg b,Em b))<|.leaf (yp [.dat i64<|Kd a (Eg b,Em b),.dat wU<|Kf a (Eg b,Em b)]) []):=by kernel_rfl
end T160
namespace T105
def T(a b:AG):Tr:=tree XJ2 false 9 105<|Ae ([AY,AY]) (a,b)
theorem Ai(a b:AG):T a b=let c:Tr:=.ck (Bc a&&Bc b)<|.ck (Sp.C6 (ZJ a b,ZN a b))<|.leaf (.dat i64<|Ir (ZJ a b,ZN a b)) [];.ite (!decide (0<length (snd a))) (.ite (!decide (0<length (snd b))) (.di (fst a<fst b) (.leaf (.dat i64 (-1:Int)) [])<|.di (fst a>fst b) (.leaf (.dat i64 (1:Int)) [])<|.leaf (.dat i64 (0:Int)) []) c) c:=by kernel_rfl
end T105
end
theorem So(k:Nat):((Ao^k:Nat):Int)=(Ao:Int)^k:=yk ..
theorem K2{n:Int}{k:Nat}(h0:0<=n)(h:n<(Ao:Int)^k):(BA n).length<=k:=by
 refine N0 Ao (by decide) k n.toNat n.toNat ?_;rw[<-So]at h;generalize Ao^k=P at*;omega
theorem Dh{n:Int}{k:Nat}(h0:0<=n)(h:n<(Ao:Int)^k)(d:k<=20000):Cp (BA n)=true/\C4 (BA n)=true/\As (BA n)=n:=by
 have c:=K2 h0 h;have a:C4 (BA n)=true:=EN (by omega) (FR (by decide) n);have b:Sp.nzW (BA n)=true:=by
  unfold Sp.nzW;exact w4 (YX (by decide) n)
 exact⟨by unfold Cp;rw[a,b];rfl,a,Dd (by decide) h0⟩
theorem B3{a:AG}(h:Bc a=true):Sp.C6 a=true/\a.2.length<=9000:=by
 unfold Bc at h;rw[zf,w5]at h;exact h
theorem WO{s:Int}{w:List Int}(a:w≠[]):Sp.vI (s,w)=if s<0 then -As w else As w:=by unfold Sp.vI;exact wc a
theorem PX{a:AG}(h:Sp.C6 a=true):(a.2=[]/\Ag (Sp.vI a)<=9223372036854775808)\/(BA (Ag<|Sp.vI a)=a.2):=by
 obtain⟨hr,b⟩:=Ed h;obtain⟨s,w⟩:=a;have hr: -9223372036854775808<=s/\s<9223372036854775808:=hr;rcases b with b|⟨f,e,d⟩
 ·have b:w=[]:=b;subst b;refine .inl ⟨rfl,?_⟩;rw[E8];simp only[Aj];omega
 ·obtain⟨n1,g,j⟩:=Fo (l:=w) f;have e:s=1\/s= -1:=e;have d:9223372036854775808<=As w:=d;have c:w≠[]:=by rintro rfl;exact wh d (by decide)
  refine .inr ?_;have i:Ag (Sp.vI (s,w))=As w:=by rw[WO c];simp only[Aj];split<;>omega
  rw[i];exact(IF (by decide) g j).symm
theorem AK(n:Int):0<=Ag n:=by simp only[Aj];omega
theorem Jm{a:AG}(h:Sp.C6 a=true){k:Nat}(f:a.2.length<=k)(e:1<=k):Ag (Sp.vI a)<(Ao:Int)^k:=by
 rcases PX h with⟨_,c⟩|he
 ·have:=AL (b:=Ao) (by decide) e;rw[Int.pow_one]at this;have g:(9223372036854775808:Int)<(Ao:Int):=by decide
  exact yd c<|Int.lt_of_lt_of_le g this
 ·have d:=Dd (b:=Ao) (by decide)<|AK<|Sp.vI a;have:=Bw (b:=Ao) (by decide) (FR (b:=Ao) (by decide)<|Ag<|Sp.vI a);rw[d,show Sp.dg Ao (Ag<|Sp.vI a)=a.2 from he]at this;exact Int.lt_of_lt_of_le this (AL (by decide) f)
theorem Mv{x y:Int}(f:0<=x)(h:x<(Ao:Int)^9000)(g:y<(Ao:Int)^9000):x+y<(Ao:Int)^9001/\x*y<(Ao:Int)^18000:=by
 have d:(Ao:Int)^9001=(Ao:Int)^9000*Ao:=yy ..;have e:(Ao:Int)^18000=(Ao:Int)^9000*(Ao:Int)^9000:=Int.pow_add _ 9000 9000;rw[d,e];generalize (Ao:Int)^9000=P at*;refine⟨?_,?_⟩
 ·show x+y<P*18446744073709551616;omega
 ·have a:=z8 (show y<=P-1 by omega) f;have b:=zi (show x<=P-1 by omega) (show 0<=P-1 by omega);have c:(P-1)*(P-1)=P*P-P-P+1:=by
   rw[Int.sub_mul,qo];omega
  omega
theorem DP(n:Bool)(v:Int):Sp.sg n v=if n=true then -v else v:=rfl
theorem CF(n:Int):Sp.vI (Dc n)=n:=by
 unfold Dc;split
 ·exact E8
 ·have c:=Dd (b:=Ao) (by decide)<|AK n;have a:BA (Ag n)≠[]:=by
   intro h;rw[show Sp.dg Ao (Ag n)=[]from h]at c;have:(0:Int)=Ag n:=c;simp only[Aj]at this;omega
  rw[WO a,show As (BA<|Ag n)=Ag n from c];simp only[Aj];split<;>split<;>omega
theorem ZZ{a:AG}{c:Bool}(h:(!decide (0<a.2.length))=c):(c=true->a.2=[])/\(c=false->a.2≠[]):=by
 subst h;rcases a with⟨s,w⟩
 cases w<;>simp
theorem QZ{a:AG}(h:(!decide (0<a.2.length))=true):a.2=[]:=(ZZ h).1 rfl
theorem fT{a:AG}(h:(!decide (0<a.2.length))=false):a.2≠[]:=(ZZ h).2 rfl
theorem Bo{a:AG}(h:a.2=[]):Sp.vI a=a.1:=by unfold Sp.vI;exact wd h
theorem words{a:AG}(h:Bc a=true):Sp.C6 a=true/\Sp.hW (BA<|Ag<|Sp.vI a)=true/\Cp (BA<|Ag<|Sp.vI a)=true/\C4 (BA<|Ag<|Sp.vI a)=true/\As (BA<|Ag<|Sp.vI a)=Ag (Sp.vI a)/\Ag (Sp.vI a)<(Ao:Int)^9000:=by
 obtain⟨c,e⟩:=B3 h;have b:=Jm c e (by omega);obtain⟨n,d,v⟩:=Dh (AK _) b (by omega);have f:=K2 (AK _) b;refine⟨c,?_,n,d,v,b⟩;unfold Sp.hW;rw[d,yb];exact w4 f
theorem Ab{a b:Bool}(d:a=true)(c:b=true):(a&&b)=true:=by rw[d,c];rfl
theorem wn{i:Nat}(h:i<9223372036854775807):zc .i64 ((i:Int)+1)=((i+1:Nat):Int):=by rw[wr _ (by omega)<|by omega];omega
theorem ad{p q:Prop}[Decidable p][Decidable q](a:p)(b:q):(decide p&&decide q)=true:=Ab (w4 a)<|w4 b
theorem nb{i n:Nat}(h:i<n):(decide ((0:Int)<=(i:Int))&&decide ((i:Int)<(n:Int)))=true:=ad (by omega) (by omega)
theorem Mm(n:Int):Sp.Mt n=if n<0 then -1 else if n>0 then 1 else 0:=rfl
theorem AbC{a:AG}(h:Sp.C6 a=true):imax (-1) (E2 1 a.1)=Sp.Mt (Sp.vI a):=by
 obtain⟨hr,b⟩:=Ed h;obtain⟨s,w⟩:=a;rcases b with b|⟨g,d,f⟩
 ·have b:w=[]:=b;subst b;rw[E8,Mm,jO];show imax (-1) (if (1:Int)<=s then 1 else s)=_;unfold imax;split<;>split<;>split<;>(try split)<;>omega
 ·have d:s=1\/s= -1:=d;have f:9223372036854775808<=As w:=f;have c:w≠[]:=by rintro rfl;exact wh f (by decide)
  rw[WO c,Mm];rcases d with rfl|rfl
  ·have e:(if (1:Int)<0 then -As w else As w)=As w:=wc (by decide);rw[e,wc (show ¬As w<0 by omega),wd<|show As w>0 by omega];show imax (-1) (E2 1 1)=1;decide
  ·have e:(if (-1:Int)<0 then -As w else As w)= -As w:=wd (by decide);rw[e,wd<|show -As w<0 by omega];show imax (-1) (E2 1<| -1)= -1;decide
namespace T143
theorem ok:Af A6 143 RP:=by
 refine BO TE<|fun(a:Int×List Int) b=>?_;have b:Sp.C6 a=true:=b;have e:Cp (BA<|Ag<|Sp.vI a)=true/\As (BA<|Ag<|Sp.vI a)=Ag (Sp.vI a):=by
  refine⟨?_,Dd (by decide)<|AK _⟩;rcases PX b with⟨_,i⟩|he
  ·have:(9223372036854775808:Int)<(Ao:Int)^1:=by decide
   exact(Dh (AK _) (yd i this)<|by omega).1
  ·obtain⟨_,f⟩:=Ed b;rw[he];rcases f with f|⟨j,_⟩
   ·rw[f];decide+kernel
   ·exact j
 have g:Sp.sg (!decide (Sp.vI a<0)) (As<|BA<|Ag<|Sp.vI a)= -Sp.vI a:=by
  rw[e.2,DP,Aj];rcases zw (Sp.vI a) 0 with h|h
  ·rw[w4 h];simp;omega
  ·rw[w8<|by omega];simp;omega
 have hr:=(Ed b).1;refine yf (Ai a)<|zk (fun c=>zk (fun d=>zg<|zu rfl rfl ?_)<|fun d=>ze b<|ze e.1<|zg<|zu rfl rfl ?_)<|fun c=>ze b<|ze e.1<|zg<|zu rfl rfl ?_
 ·have c:=QZ c;have d:a.1≠ -9223372036854775808:=by simpa using d
  show(zc .i64<|0-a.1,[])=Cn a;unfold Cn;rw[wd ⟨c,d⟩,wr _ (by omega) (by omega),Int.zero_sub]
 ·have d:a.1= -9223372036854775808:=by simpa using d
  show Dc (Sp.sg (!decide (Sp.vI a<0))<|As<|BA<|Ag<|Sp.vI a)=Cn a;unfold Cn;rw[wc<|fun h=>h.2 d,g]
 ·have c:=fT c;show Dc (Sp.sg (!decide (Sp.vI a<0))<|As<|BA<|Ag<|Sp.vI a)=Cn a;unfold Cn;rw[wc<|fun h=>c h.1,g]
end T143
namespace T139
theorem ok:Af A6 139 Qw:=by
 refine BO TE<|fun(i:(Int×List Int)×(Int×List Int)) n=>?_;obtain⟨a,b⟩:=i;have n:(Bc a&&Bc b)=true:=n;rw[zf]at n;obtain⟨a1,a2,a3,a4,a5,a6⟩:=words n.1;obtain⟨b1,b2,b3,b4,b5,b6⟩:=words n.2;have A:=(Ed a1).1;have z:=(Ed b1).1;have B:=AK<|Sp.vI a;have nb:=AK<|Sp.vI b;obtain⟨t1,_⟩:=Mv B a6 b6;have t:∀v ob,ER a b=Dc v->Ad Qw (a,b) (.agg [.dat i64<|C1 v,.dat (.nlist<|.int .u64)<|C0 v]) ob:=fun v ob h=>zu rfl rfl (by
  show Dc v=ER a b;rw[h])
 have mono:(Ao:Int)^9000<=(Ao:Int)^9001:=AL (by decide) (by omega);have k:decide (Sp.vI a<0)=decide (Sp.vI b<0)->Sp.sg (decide (Sp.vI a<0)) (As<|BA<|As (BA<|Ag<|Sp.vI a)+As (BA<|Ag<|Sp.vI b))=Sp.vI a+Sp.vI b:=by
  intro e;rw[a5,b5,show As (BA<|Ag (Sp.vI a)+Ag (Sp.vI b))=_ from Dd (by decide) (by omega),DP,Aj,Aj];rcases zw (Sp.vI a) 0 with h|h
  ·rw[w4 h]at e ⊢;have:=w6 e.symm;simp only[wk];omega
  ·rw[w8<|by omega]at e ⊢;have:=w7 e.symm;simp only[y8,vg];omega
 have l:decide (Sp.vI a<0)≠decide (Sp.vI b<0)->Ag (Sp.vI b)<=Ag (Sp.vI a)->Sp.sg (decide (Sp.vI a<0)) (As<|BA<|As (BA<|Ag<|Sp.vI a)-As (BA<|Ag<|Sp.vI b))=Sp.vI a+Sp.vI b:=by
  intro e r;rw[a5,b5,show As (BA<|Ag (Sp.vI a)-Ag (Sp.vI b))=_ from Dd (by decide) (by omega),DP,Aj,Aj];rcases zw (Sp.vI a) 0 with h|h
  ·rw[w4 h]at e ⊢;have:¬Sp.vI b<0:=fun h=>e (w4 h).symm
   simp only[wk];omega
  ·rw[w8<|by omega]at e ⊢;have:Sp.vI b<0:=by
    rcases zw (Sp.vI b) 0 with h|h
    ·exact h
    ·exact wh (w8<|by omega).symm e
   simp only[y8,vg];omega
 have j:decide (Sp.vI a<0)≠decide (Sp.vI b<0)->Ag (Sp.vI a)<=Ag (Sp.vI b)->Sp.sg (decide (Sp.vI b<0)) (As<|BA<|As (BA<|Ag<|Sp.vI b)-As (BA<|Ag<|Sp.vI a))=Sp.vI a+Sp.vI b:=by
  intro e r;rw[a5,b5,show As (BA<|Ag (Sp.vI b)-Ag (Sp.vI a))=_ from Dd (by decide) (by omega),DP,Aj,Aj];rcases zw (Sp.vI b) 0 with h|h
  ·rw[w4 h]at e ⊢;have:¬Sp.vI a<0:=fun h=>e<|w4 h
   simp only[wk];omega
  ·rw[w8<|show ¬Sp.vI b<0 by omega]at e ⊢;have:Sp.vI a<0:=by
    rcases zw (Sp.vI a) 0 with h|h
    ·exact h
    ·exact wh (w8<|by omega) e
   simp only[y8,vg];omega
 have n1:Cp (BA<|As (BA<|Ag<|Sp.vI a)+As (BA<|Ag<|Sp.vI b))=true:=by
  rw[a5,b5];exact(Dh (by omega) t1<|by omega).1
 have y:Ag (Sp.vI b)<=Ag (Sp.vI a)->Cp (BA<|As (BA<|Ag<|Sp.vI a)-As (BA<|Ag<|Sp.vI b))=true:=by
  intro h;rw[a5,b5];exact(Dh (by omega) (yd (by omega) a6)<|by omega).1
 have w:Ag (Sp.vI a)<=Ag (Sp.vI b)->Cp (BA<|As (BA<|Ag<|Sp.vI b)-As (BA<|Ag<|Sp.vI a))=true:=by
  intro h;rw[a5,b5];exact(Dh (by omega) (yd (by omega) b6)<|by omega).1
 have f:∀ {c:Bool},decide (Cg (As<|BA<|Ag<|Sp.vI a) (As<|BA<|Ag<|Sp.vI b)>=0)=c->(c=true->Ag (Sp.vI b)<=Ag (Sp.vI a))/\(c=false->Ag (Sp.vI a)<=Ag (Sp.vI b)):=by
  intro c h;subst h;rw[a5,b5,w5,w9];unfold Cg;constructor
  ·intro h;split at h<;>omega
  ·intro h;split at h
   ·omega
   ·split at h<;>omega
 refine yf (Ai a b)<|zk (fun o=>zk (fun m=>zk (fun g=>zg<|zu rfl rfl ?_)<|fun g=>?_)<|fun m=>?_)<|fun o=>?_
 ·have o:=QZ o;have m:=QZ m;have p:zc .i64 (a.1+b.1)=a.1+b.1:=by
   rw[wj]at g;rcases zw (a.1+b.1) (-9223372036854775808)with h|h
   ·exfalso;have e:zc .i64 (a.1+b.1)=a.1+b.1+18446744073709551616:=by rw[qg];omega
    rw[e,w4 (by omega),w8<|by omega]at g;cases g
   ·rcases zw (a.1+b.1) 9223372036854775808 with q|q
    ·exact wr _ (by omega) (by omega)
    ·exfalso;have e:zc .i64 (a.1+b.1)=a.1+b.1-18446744073709551616:=by rw[qg];omega
     rw[e,w8 (by omega),w4<|by omega]at g;cases g
  have hr:CI (a.1+b.1)=true:=by
   have: -9223372036854775808<=zc .i64 (a.1+b.1)/\zc .i64 (a.1+b.1)<9223372036854775808:=by rw[qg];omega
   rw[p]at this;unfold CI;rw[zf,w5,w5];exact this
  show(zc .i64<|a.1+b.1,[])=ER a b;unfold ER;rw[wd ⟨o,m,hr⟩,p]
 all_goals
  have s:ER a b=Dc (Sp.vI a+Sp.vI b):=by
   unfold ER;refine wc<|fun h=>?_;obtain⟨x,q,u⟩:=h;first
    |exact fT o x
    |exact fT m q
    |(have u:=EK u
      have p:zc .i64 (a.1+b.1)=a.1+b.1:=wr _ (by omega) (by omega);rw[p,vc]at g;refine g ?_;rcases zw 0 b.1 with h|h
      ·rw[w4 (show a.1+b.1>a.1 by omega),w4 h]
      ·rw[w8 (show ¬a.1+b.1>a.1 by omega),w8<|show ¬b.1>0 by omega])
  refine ze a1<|ze b1<|zk (fun e=>ze (Ab a2 b2)<|ze n1<|zg<|t _ _ ?_)<|fun e=>ze (Ab a3 b3)<|zk (fun d=>ze ?_<|ze (y<|(f d).1 rfl)<|zg<|t _ _ ?_)<|fun d=>ze ?_<|ze (w<|(f d).2 rfl)<|zg<|t _ _ ?_
  ·rw[s];exact wi _ (k<|by simpa using e).symm
  ·refine Ab (Ab a4 b4)<|w4 ?_;rw[a5,b5];exact(f d).1 rfl
  ·rw[s];exact wi _ (l (by simpa using e)<|(f d).1 rfl).symm
  ·refine Ab (Ab b4 a4)<|w4 ?_;rw[a5,b5];exact(f d).2 rfl
  ·rw[s];exact wi _ (j (by simpa using e)<|(f d).2 rfl).symm
end T139
theorem D7{n:Int}(b: -9223372036854775808<=n)(a:n<9223372036854775808):CI n=true:=by
 unfold CI;rw[zf,w5,w5];exact⟨b,a⟩
theorem Lc{n:Int}(h:CI n=true):Sp.C6 (n,[])=true:=by
 unfold Sp.C6;rw[h];rfl
theorem N9{n:Int}{k:Nat}(h:Ag n<(Ao:Int)^k)(d:k<=20000):Sp.C6 (Dc n)=true/\(Dc n).2.length<=k:=by
 unfold Dc;split
 ·next c=>exact⟨Lc (D7 (by omega)<|by omega),Nat.zero_le _⟩
 ·next c=>
  obtain⟨n1,e,a⟩:=Dh (AK n) h d;refine⟨?_,K2 (AK n) h⟩;have b:9223372036854775808<=Ag n:=by rw[Aj];omega
  unfold Sp.C6;refine Ab (D7 ?_ ?_) ?_
  ·show -9223372036854775808<=(if n<0 then -1 else 1);split<;>decide
  ·show(if n<0 then -1 else 1)<9223372036854775808;split<;>decide
  ·rw[ql];refine .inr (Ab (Ab n1 ?_) (w4<|by show _<=As (BA<|Ag n);rw[a];exact b));show(decide ((if n<0 then(-1:Int)else 1)=1)||decide ((if n<0 then(-1:Int)else 1)= -1))=true;split<;>rfl
theorem HU(a:AG):Sp.vI (Cn a)= -Sp.vI a:=by
 unfold Cn;split
 ·next h=>rw[E8,Bo h.1]
 ·exact CF _
theorem Ja(n:Int):Ag (-n)=Ag n:=by rw[Aj,Aj];omega
theorem TM{a:AG}(h:Sp.C6 a=true){k:Nat}(e:1<=k)(b:k<=20000)(d:a.2.length<=k):Sp.C6 (Cn a)=true/\(Cn a).2.length<=k:=by
 have hr:=(Ed h).1;unfold Cn;split
 ·next c=>exact⟨Lc (D7 (by omega)<|by omega),Nat.zero_le _⟩
 ·exact N9 (by rw[Ja];exact Jm h d e) b
theorem VD{a:AG}(h:Bc a=true):Bc (Cn a)=true:=by
 obtain⟨c,b⟩:=B3 h;obtain⟨h3,h4⟩:=TM c (k:=9000) (by omega) (by omega) b;unfold Bc;exact Ab h3<|w4 h4
theorem tW{a:AG}(h:Sp.C6 a=true):a.1<0↔Sp.vI a<0:=by
 obtain⟨_,b⟩:=Ed h;obtain⟨s,w⟩:=a;rcases b with b|⟨_,e,d⟩
 ·have b:w=[]:=b;subst b;rw[E8]
 ·have e:s=1\/s= -1:=e;have d:9223372036854775808<=As w:=d;have c:w≠[]:=by rintro rfl;exact wh d (by decide)
  rw[WO c];show s<0↔_;split<;>omega
theorem W4(a b:AG):Sp.vI (ER a b)=Sp.vI a+Sp.vI b:=by
 unfold ER;split
 ·next h=>rw[E8,Bo h.1,Bo h.2.1]
 ·exact CF _
theorem sJ(x y:Int):Ag (x+y)<=Ag x+Ag y:=by
 rw[Aj,Aj,Aj];omega
theorem JS(x y:Int):Ag (x*y)=Ag x*Ag y:=by
 rw[Aj,Aj,Aj,Int.natAbs_mul,yq]
theorem bounds{a:AG}(h:Bc a=true):Ag (Sp.vI a)<(Ao:Int)^9000:=(words h).2.2.2.2.2
theorem TA{a b:AG}(d:Bc a=true)(c:Bc b=true):Sp.C6 (ER a b)=true:=by
 unfold ER;split
 ·next h=>exact Lc h.2.2
 ·exact(N9 (yd (sJ _ _) (Mv (AK _) (bounds d)<|bounds c).1)<|by omega).1
theorem jI(a b:AG):Sp.vI (NR a b)=Sp.vI a-Sp.vI b:=by
 unfold NR;rw[W4,HU];omega
theorem DN(a b:AG):Sp.vI (FL a b)=Sp.vI a*Sp.vI b:=CF _
theorem aG:C9 XJ1:=
 Aa T143.ok (Aa T139.ok AI)
namespace T161
theorem ok:Af A6 161 Ks:=by
 refine BO JC<|fun(a:Int×List Int) b=>?_;have b:Sp.C6 a=true:=b;exact yf (Ai a)<|zg<|zu rfl rfl (AbC b)
end T161
namespace T202
theorem ok:Af A6 202 zD:=by
 refine BO aG<|fun(a:Int×List Int) b=>?_;have b:Sp.C6 a=true:=b;refine yf (Ai a)<|zk (fun c=>ze b<|zg<|zu rfl rfl ?_)<|fun c=>zg<|zu rfl rfl ?_
 ·show Cn a=Vf a;unfold Vf;rw[wd<|w6 c]
 ·show a=Vf a;unfold Vf;rw[wc<|w7 c]
end T202
namespace T160
theorem ok:Af A6 160 oJ:=by
 refine BO aG<|fun(i:(Int×List Int)×(Int×List Int)) c=>?_;obtain⟨a,b⟩:=i;have c:(Bc a&&Bc b)=true:=c;rw[zf]at c;exact yf (Ai a b)<|ze (B3 c.2).1<|ze (Ab c.1<|VD c.2)<|zg<|zu rfl rfl rfl
end T160
theorem wD:C9 XJ2:=
 Aa T160.ok (Aa T161.ok AI)
theorem qS(x y:Int):Sp.Mt (x-y)=Cg x y:=by
 unfold Sp.Mt Cg;split
 ·rw[wd<|by omega]
 ·split
  ·rw[wc (by omega),wd<|by omega]
  ·rw[wc (by omega),wc<|by omega]
namespace T105
theorem ok:Af A6 105 lF:=by
 refine BO wD<|fun(i:(Int×List Int)×(Int×List Int)) f=>?_;obtain⟨a,b⟩:=i;have f:(Bc a&&Bc b)=true:=f;have c:=f;rw[zf]at c;have h:Sp.C6 (NR a b)=true:=by
  unfold NR;exact TA c.1<|VD c.2
 have g:Ir (NR a b)=aU a b:=by
  show Sp.Mt (Sp.vI<|NR a b)=Cg (Sp.vI a) (Sp.vI b);rw[jI,qS]
 refine yf (Ai a b)<|zk (fun k=>zk (fun j=>zk (fun d=>zg<|zu rfl rfl ?_)<|fun d=>zk (fun e=>zg<|zu rfl rfl ?_)<|fun e=>zg<|zu rfl rfl ?_)<|fun j=>ze f<|ze h<|zg<|zu rfl rfl g)<|fun k=>ze f<|ze h<|zg<|zu rfl rfl g;all_goals
  have l:=Bo<|QZ k;have m:=Bo<|QZ j;show _=Cg (Sp.vI a) (Sp.vI b);rw[l,m];unfold Cg
 ·rw[wd<|w6 d]
 ·rw[wc<|w7 d,wd<|w6 e]
 ·rw[wc<|w7 d,wc<|w7 e]
end T105
theorem Tv(x y:Int):x*y=Sp.sg (!(decide (x<0)==decide (y<0))) (Ag x*Ag y):=by
 unfold Ag;rw[DP];by_cases b:x<0<;>by_cases a:y<0<;>simp[b,a,Int.neg_mul,Int.mul_neg]
namespace T127
theorem ok:Af A6 127 RC:=by
 refine BO TE<|fun(i:(Int×List Int)×(Int×List Int)) f=>?_;obtain⟨a,b⟩:=i;have f:(Bc a&&Bc b)=true:=f;rw[zf]at f;obtain⟨a1,a2,a3,a4,a5,a6⟩:=words f.1;obtain⟨b1,b2,b3,b4,b5,b6⟩:=words f.2;have h:=(Ed a1).1;have g:=(Ed b1).1;have o:=AK<|Sp.vI a;have nb:=AK<|Sp.vI b;obtain⟨_,t2⟩:=Mv o a6 b6;have np:0<=Ag (Sp.vI a)*Ag (Sp.vI b):=zq o nb;have n1:Cp (BA<|As (BA<|Ag<|Sp.vI a)*As (BA<|Ag<|Sp.vI b))=true:=by
  rw[a5,b5];exact(Dh np t2<|by omega).1
 have q:Sp.sg (!(decide (Sp.vI a<0)==decide (Sp.vI b<0))) (As<|BA<|As (BA<|Ag<|Sp.vI a)*As (BA<|Ag<|Sp.vI b))=Sp.vI a*Sp.vI b:=by
  rw[a5,b5,show As (BA<|Ag (Sp.vI a)*Ag (Sp.vI b))=_ from Dd (by decide) np, <-Tv]
 have r:∀ob,Ad RC (a,b) (.agg [.dat i64<|C1<|Sp.sg (!(decide (Sp.vI a<0)==decide (Sp.vI b<0)))<|As<|BA<|As (BA<|Ag<|Sp.vI a)*As (BA<|Ag<|Sp.vI b),.dat (.nlist<|.int .u64)<|C0<|Sp.sg (!(decide (Sp.vI a<0)==decide (Sp.vI b<0)))<|As<|BA<|As (BA<|Ag<|Sp.vI a)*As (BA<|Ag<|Sp.vI b)]) ob:=fun ob=>zu rfl rfl (by
  show Dc _=Dc (Sp.vI a*Sp.vI b);rw[q])
 have p:Sp.u64 (Ag a.1)=true:=CZ (AK _) (by rw[Aj];omega);have ub:Sp.u64 (Ag b.1)=true:=CZ (AK _) (by rw[Aj];omega);refine yf (Ai a b)<|zk (fun n=>zk (fun l=>ze (D7 h.1 h.2)<|ze (D7 g.1 g.2)<|ze (Ab p ub)<|zk (fun e=>zk (fun d=>zk (fun c=>zg<|zu rfl rfl ?_)<|fun c=>zg<|zu rfl rfl ?_)<|fun d=>?_)<|fun e=>?_)<|fun l=>?_)<|fun n=>?_
 ·have k:=Bo<|QZ n;have m:=Bo<|QZ l;have e:(Ag a.1*Ag b.1)/18446744073709551616=0:=by simpa [R0]using e
  have d:(Ag a.1*Ag b.1) % 18446744073709551616<=9223372036854775807:=w6 d;have p0:0<=Ag a.1*Ag b.1:=zq (AK _)<|AK _;have j:=Tv a.1 b.1;have c:(!(decide (a.1<0)==decide (b.1<0)))=true:=c;rw[c,DP,wd rfl]at j;show(zc .i64<|0-zc .i64 ((Ag a.1*Ag b.1) % 18446744073709551616),[])=Dc (Sp.vI a*Sp.vI b);rw[k,m,j,Ce (by omega),wr ((Ag a.1*Ag b.1) % 18446744073709551616) (by omega) (by omega),wr _ (by omega)<|by omega];congr 1;omega
 ·have k:=Bo<|QZ n;have m:=Bo<|QZ l;have e:(Ag a.1*Ag b.1)/18446744073709551616=0:=by simpa [R0]using e
  have d:(Ag a.1*Ag b.1) % 18446744073709551616<=9223372036854775807:=w6 d;have p0:0<=Ag a.1*Ag b.1:=zq (AK _)<|AK _;have j:=Tv a.1 b.1;have c:(!(decide (a.1<0)==decide (b.1<0)))=false:=c;rw[c,DP,wc<|by decide]at j;show(zc .i64<|(Ag a.1*Ag b.1) % 18446744073709551616,[])=Dc (Sp.vI a*Sp.vI b);rw[k,m,j,Ce (by omega),wr ((Ag a.1*Ag b.1) % 18446744073709551616) (by omega)<|by omega];congr 1;omega
 all_goals exact ze a1<|ze b1<|ze (Ab a2 b2)<|ze n1<|zg<|r _
end T127
end Go.Pe
namespace Go.Sp
def FD(n:Int):Int:=if n<=0 then 0 else(n.toNat.log2:Int)+1
def lz(n:Int):Int:=64-FD n
def dq(h l y:Int):Int:=(h*18446744073709551616+l)/y
def dr(h l y:Int):Int:=(h*18446744073709551616+l) % y
end Go.Sp
namespace Go.Pe
open Go.Det
def WW:Am:=⟨[u64],fun n=>Sp.u64 n,[i64],fun n=>Sp.FD n,false⟩
def cLZ:Am:=⟨[u64],fun n=>Sp.u64 n,[i64],fun n=>Sp.lz n,false⟩
def SI:Am:=⟨[u64,u64,u64],fun i=>Sp.u64 i.1&&Sp.u64 i.2.1&&Sp.u64 i.2.2&&decide ((i.1:Int)<i.2.2),[u64,u64],fun i=>(Sp.dq i.1 i.2.1 i.2.2,Sp.dr i.1 i.2.1 i.2.2),false⟩
def XD1:AV:=X7 [(228,WW)]
def iG:AV:=X7 [(247,cLZ)]
section
open List Int Prod
namespace T228
def T(x:Int):Tr:=tree iL false 9 228<|Ae ([zj zd]) x
theorem Ai(x:Int):T x=let a:=([0,1,2,2,3,3,3,3,4,4,4,4,4,4,4,4,5,5,5,5,5,5,5,5,5,5,5,5,5,5,5,5,6,6,6,6,6,6,6,6,6,6,6,6,6,6,6,6,6,6,6,6,6,6,6,6,6,6,6,6,6,6,6,6,7,7,7,7,7,7,7,7,7,7,7,7,7,7,7,7,7,7,7,7,7,7,7,7,7,7,7,7,7,7,7,7,7,7,7,7,7,7,7,7,7,7,7,7,7,7,7,7,7,7,7,7,7,7,7,7,7,7,7,7,7,7,7,7,8,8,8,8,8,8,8,8,8,8,8,8,8,8,8,8,8,8,8,8,8,8,8,8,8,8,8,8,8,8,8,8,8,8,8,8,8,8,8,8,8,8,8,8,8,8,8,8,8,8,8,8,8,8,8,8,8,8,8,8,8,8,8,8,8,8,8,8,8,8,8,8,8,8,8,8,8,8,8,8,8,8,8,8,8,8,8,8,8,8,8,8,8,8,8,8,8,8,8,8,8,8,8,8,8,8,8,8,8,8,8,8,8,8,8,8,8,8,8,8,8,8,8,8,8,8,8,8]:Z);let b':=zn x<|2^32;let b:=(0:Sh.T (zj qt));let d:=zn x<|2^16;let e:=zn x<|2^8;let c:=zn b'<|2^16;let f:=zn b'<|2^8;let h':=zn d<|2^8;let g:=zn c<|2^8;.di (x>=4294967296) (.ck true<|.di (zn x (2^32)>=65536) (.ck true<|.di (zn b' (2^16)>=256) (.ck true<|.ck (decide (b<=zc .u8 g)&&decide (zc .u8 g<(↑256:Int)))<|.leaf (.dat i64<|zc .i64<|zc .i64 (zc .i64 (32+16)+8)+zc .i64 (↑(yc<|getD a (toNat<|zc .u8 g) (0:UInt8)):Int)) [])<|.ck (decide (b<=zc .u8 c)&&decide (zc .u8 c<(↑256:Int)))<|.leaf (.dat i64<|zc .i64<|zc .i64 (32+16)+zc .i64 (↑(yc<|getD a (toNat<|zc .u8 c) (0:UInt8)):Int)) [])<|.di (zn x (2^32)>=256) (.ck true<|.ck (decide (b<=zc .u8 f)&&decide (zc .u8 f<(↑256:Int)))<|.leaf (.dat i64<|zc .i64<|zc .i64 (32+8)+zc .i64 (↑(yc<|getD a (toNat<|zc .u8 f) (0:UInt8)):Int)) [])<|.ck (decide (b<=zc .u8 b')&&decide (zc .u8 b'<(↑256:Int)))<|.leaf (.dat i64<|zc .i64<|32+zc .i64 (↑(yc<|getD a (toNat<|zc .u8 b') (0:UInt8)):Int)) []) (.di (x>=65536) (.ck true<|.di (zn x (2^16)>=256) (.ck true<|.ck (decide (b<=zc .u8 h')&&decide (zc .u8 h'<(↑256:Int)))<|.leaf (.dat i64<|zc .i64<|zc .i64 (zc .i64 (0+16)+8)+zc .i64 (↑(yc<|getD a (toNat<|zc .u8 h') (0:UInt8)):Int)) [])<|.ck (decide (b<=zc .u8 d)&&decide (zc .u8 d<(↑256:Int)))<|.leaf (.dat i64<|zc .i64<|zc .i64 (0+16)+zc .i64 (↑(yc<|getD a (toNat<|zc .u8 d) (0:UInt8)):Int)) [])<|.di (x>=256) (.ck true<|.ck (decide (b<=zc .u8 e)&&decide (zc .u8 e<(↑256:Int)))<|.leaf (.dat i64<|zc .i64<|zc .i64 (0+8)+zc .i64 (↑(yc<|getD a (toNat<|zc .u8 e) (0:UInt8)):Int)) [])<|.ck (decide (b<=zc .u8 x)&&decide (zc .u8 x<(↑256:Int)))<|.leaf (.dat i64<|zc .i64<|0+zc .i64 (↑(yc<|getD a (toNat<|zc .u8 x) (0:UInt8)):Int)) []):=by kernel_rfl
end T228
namespace T247
def T(x:Int):Tr:=tree XD1 false 9 247<|Ae ([zj zd]) x
theorem Ai(x:Int):T x=.ck (Sp.u64 x) (.leaf (.dat i64<|zc .i64<|64-Sp.FD x) []):=by kernel_rfl
end T247
namespace T246
def T(a lo y:Int):Tr:=tree iG false 9 246<|Ae ([zj zd,zj zd,zj zd]) (a,lo,y)
def L1(v2 g v9 c d e a f b:Int):Tr:=re ((T 0 0 0).R.R.R.L.L.L.L.L.L.L.L)<|Aw 135 [(2,.dat (zj zd) v2),(8,.dat (zj zd) g),(9,.dat (zj zd) v9),(10,.dat (zj zd) c),(11,.dat (zj zd) d),(13,.dat (zj zd) e),(14,.dat (zj zd) a),(15,.dat (zj zd) f),(16,.dat (zj zd) b)] [] 0
theorem Ai(b lo y:Int):T b lo y=let d:=decide (0<=zc .u64 (Sp.lz y));let e:=64-zc .u64 (Sp.lz y);let i:=zc .u64<|Sp.lz y;let c:=toNat i;let g:=zn lo<|2^qi (toNat<|zc .u64 e) 64;let a:=zc .u64<|y*2^qi c 64;let h:=zc .u64<|lo*2^qi c 64;let f:=zc .u64<|b*2^qi c 64;let b':=dO zd f g;let h':=zn a<|2^32;.ite (y==0) .fail (.di (y<=b) .fail<|.ite (b==0) (.cd (y≠0)<|.cd (y≠0)<|.leaf (.tup [.dat (zj zd)<|zc .u64<|yr lo y,.dat (zj zd)<|Int.tmod lo y]) [])<|.ck (Sp.u64 y)<|.ck d<|.ck true<|.ck d<|.cd (0<=zc .u64 e)<|.ck d<|.ck true<|.cd (zn a (2^32)≠0)<|L1 a i h' (H4 zd a 4294967295) b' (zn h<|2^32) (H4 zd h 4294967295) (zc .u64<|yr b' h')<|zc .u64<|dO zd f g-zc .u64 (zc .u64 (yr b' h')*zn a (2^32))):=by kernel_rfl
def L2(v2 g v9 d a f b e c:Int):Tr:=re ((stepT iG<|L1 0 0 0 0 0 0 0 0 0).L.L.L)<|Aw 135 [(2,.dat (zj zd) v2),(8,.dat (zj zd) g),(9,.dat (zj zd) v9),(10,.dat (zj zd) d),(14,.dat (zj zd) a),(15,.dat (zj zd) f),(16,.dat (zj zd) b),(17,.dat (zj zd) e),(18,.dat (zj zd) c)] [] 0
theorem Al(v2 g v9 b f e c a d:Int):stepT iG (L1 v2 g v9 b f e c a d)=let m:=zc .u64 (f*4294967296)+e;let k:=zc .u64<|a-1;let b':=zc .u64 m-zc .u64 (zc .u64 (a-1)*v2);let l:=zc .u64 m-zc .u64 (a*v2);let h:=zc .u64 l;let i:=zc .u64 b';let j:Tr:=.di (zc .u64 (d+v9)>=4294967296) (.cd (v9≠0)<|L2 v2 g v9 b c k (zc .u64<|zc .u64 b'-zc .u64 (zc .u64 (yr i v9)*v9)) i<|zc .u64<|yr i v9)<|L1 v2 g v9 b f e c k<|zc .u64<|d+v9;.di (a>=4294967296) j (.di (zc .u64 (a*b)>zc .u64 (zc .u64 (4294967296*d)+e)) j<|.cd (v9≠0)<|L2 v2 g v9 b c a (zc .u64<|zc .u64 l-zc .u64 (zc .u64 (yr h v9)*v9)) h<|zc .u64<|yr h v9):=by kernel_rfl
theorem AH(v2 g v9 e b d c f a:Int):stepT iG (L2 v2 g v9 e b d c f a)=let b':=zj zd;let j:=zc .u64 (f*4294967296)+b;let i:=2^qi (toNat g) 64;let h:Tr:=.di (zc .u64 (c+v9)>=4294967296) (.cd (0<=g)<|.leaf (.tup [.dat b'<|zc .u64<|zc .u64 (d*4294967296)+zc .u64 (a-1),.dat b'<|zn (zc .u64<|zc .u64 j-zc .u64 (zc .u64 (a-1)*v2)) i]) [])<|L2 v2 g v9 e b d (zc .u64<|c+v9) f<|zc .u64<|a-1;.di (a>=4294967296) h (.di (zc .u64 (a*e)>zc .u64 (zc .u64 (4294967296*c)+b)) h<|.cd (0<=g)<|.leaf (.tup [.dat b'<|zc .u64<|zc .u64 (d*4294967296)+a,.dat b'<|zn (zc .u64<|zc .u64 j-zc .u64 (a*v2)) i]) []):=by kernel_rfl
end T246
end
namespace T246
variable {Q:PV->Ob->Prop}
def Exact(Y u w q:Int):Prop:=q*Y<=u*4294967296+w/\u*4294967296+w<(q+1)*Y
theorem YV{Y a b u w q r:Int}(c:Y=a*4294967296+b)(d:q*a+r=u)(h:q*b>4294967296*r+w):u*4294967296+w<q*Y:=by
 subst c;rw[z7, <-zp];generalize q*a=A at*;generalize q*b=C at*;omega
theorem Ma{Y a b u w q r:Int}(c:Y=a*4294967296+b)(d:q*a+r=u)(h:q*b<=4294967296*r+w):q*Y<=u*4294967296+w:=by
 subst c;rw[z7, <-zp];generalize q*a=A at*;generalize q*b=C at*;omega
theorem Vk{Y u w q:Int}(d:u<Y)(a:0<=Y)(c:w<4294967296)(b:4294967296<=q):u*4294967296+w<q*Y:=by
 have:=zi b a;omega
theorem VV{b c u w r:Int}{n:Nat}{Y:Int}(f:Y=b*4294967296+c)(e:0<=b)(h0:0<=c/\c<4294967296)(i:u<Y)(j:0<=w)(d:(n:Int)*b+r=u)(hr:4294967296<=r):(n:Int)*Y<=u*4294967296+w:=by
 have g:(n:Int)<4294967296:=by
  rcases zw (n:Int) 4294967296 with h|h
  ·exact h
  ·have:=zi h e;omega
 refine Ma f d ?_;have a:=zi (show(n:Int)<=4294967295 by omega) h0.1;omega
theorem Ar(Y s f g u w z:Int)(t:Y=f*4294967296+g)(I:0<f/\f<4294967296)(h0:0<=g/\g<4294967296)(A:u<Y)(B:0<=w/\w<4294967296)
  (v:∀q:Int,0<=q->Exact Y u w q->Ends iG (L2 Y s f g z q (zc zd<|zc zd (zc zd (zc zd (u*(4294967296:Int))+w)-zc zd (q*Y))-zc zd (zc zd (yr (zc zd<|zc zd (zc zd (u*(4294967296:Int))+w)-zc zd (q*Y)) f)*f)) (zc zd<|zc zd (zc zd (u*(4294967296:Int))+w)-zc zd (q*Y))<|zc zd<|yr (zc zd<|zc zd (zc zd (u*(4294967296:Int))+w)-zc zd (q*Y)) f) Q):
  ∀(n:Nat) (r:Int),(n:Int)<18446744073709551616->(n:Int)*f+r=u->0<=r->r<4294967296->u*4294967296+w<((n:Int)+1)*Y->Ends iG (L1 Y s f g u w z n r) Q:=by
 intro n;induction n with
 |zero=>
  intro r E m C G h;have k:decide (f≠0)=true:=w4 (by omega);refine yj (Al ..) (yh (by simp)<|yh (w8 ?_)<|ze k<|v _ (by omega) ⟨?_,h⟩)
  ·rw[show((0:Nat):Int)*g=0 by simp,wu 0 (by omega) (by omega),wu (4294967296*r) (by omega) (by omega),wu _ (by omega)<|by omega];omega
  ·exact Ma t m (by rw[show((0:Nat):Int)*g=0 by simp];omega)
 |succ n F=>
  intro r E m C G h;have k:decide (f≠0)=true:=w4 (by omega);have D:zc .u64 (((n+1:Nat):Int)-1)=(n:Int):=by rw[wu _ (by omega)<|by omega];omega
  have H:zc .u64 (r+f)=r+f:=wu _ (by omega) (by omega);have x:0<=Y:=by omega
  have l:(n:Int)*f+(r+f)=u:=by
   rw[show((n+1:Nat):Int)=(n:Int)+1 by omega,zx,yi]at m;omega
  have y:((n+1:Nat):Int)=(n:Int)+1:=by omega
  have o:u*4294967296+w<((n:Int)+1)*Y->r+f<4294967296->Ends iG (L1 Y s f g u w z n<|r+f) Q:=fun j i=>
   F (r+f) (by omega) l (by omega) i j
  have cut:u*4294967296+w<((n:Int)+1)*Y->4294967296<=r+f->Exact Y u w n:=fun j i=>
   ⟨VV t (by omega) h0 A B.1 l i,j⟩
  refine yj (Al ..) ?_;conv=>zeta
  rw[D,H];refine zk (fun c=>?_)<|fun c=>zk (fun d=>?_)<|fun d=>?_
  ·have c:=w6 c;have p:u*4294967296+w<((n:Int)+1)*Y:=by rw[<-y];exact Vk A x B.2 c
   exact zk (fun e=>ze k<|v _ (by omega)<|cut p<|w6 e) (fun e=>o p (by have:=w7 e;omega))
  ·have c:=w7 c;have d:=w6 d;have a:=zi (show((n+1:Nat):Int)<=4294967295 by omega) h0.1;have b:=zq (show 0<=((n+1:Nat):Int)by omega) h0.1;rw[wu (((n+1:Nat):Int)*g) (by omega) (by omega),wu (4294967296*r) (by omega) (by omega),wu _ (by omega)<|by omega]at d;have p:u*4294967296+w<((n:Int)+1)*Y:=by rw[<-y];exact YV t m d
   exact zk (fun e=>ze k<|v _ (by omega)<|cut p<|w6 e) (fun e=>o p (by have:=w7 e;omega))
  ·have c:=w7 c;have d:=w7 d;have a:=zi (show((n+1:Nat):Int)<=4294967295 by omega) h0.1;have b:=zq (show 0<=((n+1:Nat):Int)by omega) h0.1;rw[wu (((n+1:Nat):Int)*g) (by omega) (by omega),wu (4294967296*r) (by omega) (by omega),wu _ (by omega)<|by omega]at d;exact ze k (v _ (by omega) ⟨Ma t m (by omega),h⟩)
theorem A2(Y s f g u w p:Int)(v:Y=f*4294967296+g)(J:0<f/\f<4294967296)(h0:0<=g/\g<4294967296)(z:u<Y)(A:0<=w/\w<4294967296)(B:0<=s)
  (x:∀q:Int,0<=q->Exact Y u w q->∀ob,Q (PV.tup [PV.dat (zj zd)<|zc zd<|zc zd (p*(4294967296:Int))+q,PV.dat (zj zd)<|zn (zc zd<|zc zd (zc zd (u*(4294967296:Int))+w)-zc zd (q*Y))<|(2:Int)^qi (qq s) (64:Nat)]) ob):
  ∀(n:Nat) (r:Int),(n:Int)<18446744073709551616->(n:Int)*f+r=u->0<=r->r<4294967296->u*4294967296+w<((n:Int)+1)*Y->Ends iG (L2 Y s f g w p r u n) Q:=by
 intro n;induction n with
 |zero=>
  intro r F t D H i;have k:decide (0<=s)=true:=w4 B;refine yj (AH ..) (yh (by simp) (yh (w8 ?_)<|ze k<|zg<|x _ (by omega) ⟨?_,i⟩ _))
  ·rw[show((0:Nat):Int)*g=0 by simp,wu 0 (by omega) (by omega),wu (4294967296*r) (by omega) (by omega),wu _ (by omega)<|by omega];omega
  ·exact Ma v t (by rw[show((0:Nat):Int)*g=0 by simp];omega)
 |succ n G=>
  intro r F t D H i;have k:decide (0<=s)=true:=w4 B;have E:zc .u64 (((n+1:Nat):Int)-1)=(n:Int):=by rw[wu _ (by omega)<|by omega];omega
  have I:zc .u64 (r+f)=r+f:=wu _ (by omega) (by omega);have y:0<=Y:=by omega
  have l:(n:Int)*f+(r+f)=u:=by
   rw[show((n+1:Nat):Int)=(n:Int)+1 by omega,zx,yi]at t;omega
  have C:((n+1:Nat):Int)=(n:Int)+1:=by omega
  have m:u*4294967296+w<((n:Int)+1)*Y->r+f<4294967296->Ends iG (L2 Y s f g w p (r+f) u n) Q:=fun h j=>
   G (r+f) (by omega) l (by omega) j h
  have cut:u*4294967296+w<((n:Int)+1)*Y->4294967296<=r+f->Exact Y u w n:=fun h j=>
   ⟨VV v (by omega) h0 z A.1 l j,h⟩
  refine yj (AH ..) ?_;conv=>zeta
  rw[E,I];refine zk (fun c=>?_)<|fun c=>zk (fun d=>?_)<|fun d=>?_
  ·have c:=w6 c;have o:u*4294967296+w<((n:Int)+1)*Y:=by rw[<-C];exact Vk z y A.2 c
   exact zk (fun e=>ze k<|zg<|x _ (by omega) (cut o<|w6 e) _) (fun e=>m o (by have:=w7 e;omega))
  ·have c:=w7 c;have d:=w6 d;have a:=zi (show((n+1:Nat):Int)<=4294967295 by omega) h0.1;have b:=zq (show 0<=((n+1:Nat):Int)by omega) h0.1;rw[wu (((n+1:Nat):Int)*g) (by omega) (by omega),wu (4294967296*r) (by omega) (by omega),wu _ (by omega)<|by omega]at d;have o:u*4294967296+w<((n:Int)+1)*Y:=by rw[<-C];exact YV v t d
   exact zk (fun e=>ze k<|zg<|x _ (by omega) (cut o<|w6 e) _) (fun e=>m o (by have:=w7 e;omega))
  ·have c:=w7 c;have d:=w7 d;have a:=zi (show((n+1:Nat):Int)<=4294967295 by omega) h0.1;have b:=zq (show 0<=((n+1:Nat):Int)by omega) h0.1;rw[wu (((n+1:Nat):Int)*g) (by omega) (by omega),wu (4294967296*r) (by omega) (by omega),wu _ (by omega)<|by omega]at d;exact ze k (zg<|x _ (by omega) ⟨Ma v t (by omega),i⟩ _)
end T246
theorem Va{y:Int}(f:0<y)(g:y<18446744073709551616):∃s:Nat,Sp.lz y=(s:Int)/\s<=63/\y*2^s<18446744073709551616/\9223372036854775808<=y*2^s:=by
 obtain⟨n,rfl⟩:=zh<|yg f;have c:n≠0:=by omega
 have i:n.log2<64:=(Nat.log2_lt c).2 (by omega);have a:=Nat.log2_self_le c;have b:=Nat.lt_log2_self (n:=n);have d:2^n.log2*2^(63-n.log2)=2^63:=by rw[<-qp];congr 1;omega
 have e:2^(n.log2+1)*2^(63-n.log2)=2^64:=by rw[<-qp];congr 1;omega
 have j:2^63<=n*2^(63-n.log2):=by rw[<-d];exact Nat.mul_le_mul_right _ a
 have h:n*2^(63-n.log2)<2^64:=by rw[<-e];exact Nat.mul_lt_mul_of_pos_right b<|qm _
 refine⟨63-n.log2,?_,by omega,?_,?_⟩
 ·unfold Sp.lz Sp.FD;rw[wc (by omega),zl];omega
 ·have:((n*2^(63-n.log2):Nat):Int)<18446744073709551616:=by omega
  rw[yq,yk]at this;exact this
 ·have:(9223372036854775808:Int)<=((n*2^(63-n.log2):Nat):Int):=by omega
  rw[yq,yk]at this;exact this
theorem aE{a b:Int}{s:Nat}(d:0<=a)(c:0<=b)(h:b<2^s)(i:a*2^s+b<18446744073709551616):dO .u64 (a*2^s) b=a*2^s+b:=by
 obtain⟨m,rfl⟩:=zh d;obtain⟨k,rfl⟩:=zh c;have f:((m:Int)*2^s)=((m*2^s:Nat):Int):=by rw[yq,yk];rfl
 have g:k<2^s:=by
  have e:((2:Int)^s)=((2^s:Nat):Int):=by rw[yk];rfl
  rw[e]at h;omega
 rw[f]at i ⊢;have e:(ya 64 ((m*2^s:Nat):Int)|||ya 64 (k:Int)).toNat=m*2^s+k:=by
  rw[BitVec.toNat_or,yv,yv,yz,yz,qe (by omega),qe (by omega),Nat.mul_comm m,Nat.two_pow_add_eq_or_of_lt g]
 show zc .u64 (((ya 64 ((m*2^s:Nat):Int)|||ya 64 (k:Int)).toNat:Nat):Int)=_;rw[e,nF _<|by omega];omega
namespace T246
theorem start{u c d Y w:Int}(i:Y=c*4294967296+d)(j:0<c/\c<4294967296)(h0:0<=d)(f:0<=u/\u<18446744073709551616)(l:w<4294967296):
  ∃(n:Nat) (r:Int),zc .u64 (yr u c)=(n:Int)/\zc .u64 (u-zc .u64 ((n:Int)*c))=r/\(n:Int)<18446744073709551616/\(n:Int)*c+r=u/\0<=r/\r<4294967296/\u*4294967296+w<((n:Int)+1)*Y:=by
 have q0:0<=u/c:=qn f.1 (by omega);have q1:u/c<=u:=Int.ediv_le_self _ f.1;have e:=Int.mul_ediv_add_emod u c;have h:=Int.emod_nonneg u (show c≠0 by omega);have k:=Int.emod_lt_of_pos u j.1;rw[zz]at e;obtain⟨n,g⟩:=zh q0;have hp:0<=(n:Int)*c:=zq (by omega) (by omega);rw[g]at e;refine⟨n,u % c,?_,?_,by omega,e,h,by omega,?_⟩
 ·rw[y9 f.1,g,wu _ (by omega)<|by omega]
 ·rw[wu ((n:Int)*c) (by omega) (by omega),wu _ (by omega)<|by omega];omega
 ·subst i;have a:((n:Int)+1)*(c*4294967296+d)=((n:Int)*c+c)*4294967296+((n:Int)+1)*d:=by
   rw[z7, <-zp,zx,yi]
  have b:0<=((n:Int)+1)*d:=zq (by omega) h0;rw[a];omega
theorem Rn{u w q Y:Int}(c:Exact Y u w q)(d:Y<18446744073709551616):zc .u64 (zc .u64 (zc .u64 (u*(4294967296:Int))+w)-zc .u64 (q*Y))=u*4294967296+w-q*Y:=by
 obtain⟨a,b⟩:=c;rw[zx,yi]at b;rw[Ml,Ml,Ml,Ml];generalize q*Y=A at*;omega
theorem sY(h:Af A6 247 cLZ):C9 iG:=Aa h AI
set_option maxHeartbeats 1000000 in
theorem ok(hlz:Af A6 247 cLZ):Af A6 246 SI:=by
 refine Gf (X:=iG) rfl (sY hlz) (d:=9) (by kernel_rfl) (by kernel_rfl) (by kernel_rfl) (fun(i:Int×Int×Int) o=>?_) (Bb<|by kernel_rfl);obtain⟨e,lo,y⟩:=i;have o:(Sp.u64 e&&Sp.u64 lo&&Sp.u64 y&&decide (e<y))=true:=o;rw[zf,zf,zf,w5]at o;obtain⟨⟨⟨l,f⟩,B⟩,h4⟩:=o;have uy:=B;have l:=Sp.A5 l;have f:=Sp.A5 f;have B:=Sp.A5 B;have hg:∀q r ob,q=Sp.dq e lo y->r=Sp.dr e lo y->Ad SI (e,lo,y) (PV.tup [PV.dat (zj zd) q,PV.dat (zj zd) r]) ob:=fun q r ob G e2=>zu rfl rfl (Prod.ext G e2)
 refine yf (Ai e lo y) (yh (by simp;omega)<|yh (w8<|by omega)<|zk (fun c=>?_)<|fun c=>?_)
 ·have c:e=0:=by simpa using c
  subst c;have q0:0<=lo/y:=qn f.1 (by omega);have q1:lo/y<=lo:=Int.ediv_le_self _ f.1;refine ze (w4<|by omega) (ze (w4<|by omega)<|zg<|hg _ _ _ ?_ ?_)
  ·unfold Sp.dq;rw[y9 f.1,wu _ (by omega) (by omega),Int.zero_mul,qj]
  ·unfold Sp.dr;rw[Int.tmod_eq_emod_of_nonneg f.1,Int.zero_mul,qj]
 ·have c:e≠0:=by simpa using c
  obtain⟨s,hs,hs63,J,Z⟩:=Va (y:=y) (by omega) B.2;have es:zc .u64 (s:Int)=(s:Int):=nF s (by omega);have em:qi s 64=s:=by omega
  have T:zc .u64 ((64:Int)-(s:Int))=((64-s:Nat):Int):=by rw[wu _ (by omega)<|by omega];omega
  have F:qi (64-s) 64=64-s:=by omega
  have h:(2:Int)^s*2^(64-s)=18446744073709551616:=by rw[<-Int.pow_add,show s+(64-s)=64 by omega];rfl
  have g:(0:Int)<2^s:=Int.pow_pos (by decide);have hR:(0:Int)<2^(64-s):=Int.pow_pos (by decide);have a0:0<=lo/2^(64-s):=qn f.1 (by omega);have W:=Int.mul_ediv_add_emod lo<|2^(64-s);have c0:=Int.emod_nonneg lo (show(2:Int)^(64-s)≠0 by omega);have c1:=Int.emod_lt_of_pos lo hR;have aP:lo/2^(64-s)<2^s:=Int.ediv_lt_of_lt_mul hR (by rw[h];exact f.2);have hiP:e*2^s+2^s<=y*2^s:=by
   have:=zi (show e+1<=y by omega)<|yg g;rw[zx,yi]at this;exact this
  have I:0<=e*2^s:=zq l.1<|yg g;have V:zn lo ((2:Int)^(64-s))=lo/2^(64-s):=ye _ (by omega);have L:dO .u64 (e*2^s) (lo/2^(64-s))=e*2^s+lo/2^(64-s):=aE l.1 a0 aP (by omega);have P:0<=(lo % 2^(64-s))*2^s:=zq c0<|yg g;have R:(lo % 2^(64-s))*2^s<18446744073709551616:=by
   have:=Int.mul_lt_mul_of_pos_right c1 g;rw[zz<|2^(64-s),h]at this;exact this
  have k:lo*2^s=(lo/2^(64-s))*18446744073709551616+(lo % 2^(64-s))*2^s:=by
   conv=>lhs;rw[<-W]
   rw[zx, <-h,zz (2^(64-s))<|lo/2^(64-s),zp,zz (2^(64-s))<|2^s]
  have K:zc .u64 (lo*2^s)=(lo % 2^(64-s))*2^s:=by rw[k,Ml];omega
  have hN:(e*2^s+lo/2^(64-s))*18446744073709551616+(lo % 2^(64-s))*2^s=(e*18446744073709551616+lo)*2^s:=by
   rw[zx (e*18446744073709551616) lo<|2^s,k,zp e 18446744073709551616<|2^s,zz 18446744073709551616<|(2:Int)^s, <-zp];omega
  have S:zc .u64 (y*2^s)=y*2^s:=wu _ (by omega) (by omega);have O:zc .u64 (e*2^s)=e*2^s:=wu _ I (by omega);have z0:decide ((0:Int)<=(s:Int))=true:=w4 (by omega);have fin:∀q:Int,q*(y*2^s)<=(e*18446744073709551616+lo)*2^s->(e*18446744073709551616+lo)*2^s<(q+1)*(y*2^s)->q=Sp.dq e lo y/\zn ((e*18446744073709551616+lo)*2^s-q*(y*2^s)) (2^s)=Sp.dr e lo y:=by
   intro q E D;unfold Sp.dq Sp.dr;generalize e*18446744073709551616+lo=M at*;rw[<-zp]at E D;have g1:q*y<=M:=Int.le_of_mul_le_mul_right E g;have g2:M<(q+1)*y:=Int.lt_of_mul_lt_mul_right D<|yg g;rw[zx,yi]at g2;obtain⟨u1,u2⟩:=(Int.ediv_emod_unique (a:=M) (b:=y) (r:=M-q*y) (q:=q)<|by omega).2 ⟨by rw[zz y q];omega,by omega,by omega⟩;refine⟨u1.symm,?_⟩;rw[u2, <-zp, <-Int.sub_mul,ye _<|yg g];exact Int.mul_ediv_cancel _ (by omega)
  obtain⟨Y,eY⟩:=zh (show 0<=y*2^s by omega);obtain⟨C,eC⟩:=zh P;have hU0:0<=e*2^s+lo/2^(64-s):=by omega
  have j:e*2^s+lo/2^(64-s)<y*2^s:=by omega
  rw[hs,es,T,zl,zl,em,F,S,O,V,L,K];rw[eC]at hN R ⊢;rw[eY]at J Z j fin ⊢;generalize hU:e*2^s+lo/2^(64-s)=U at*;generalize hM:(e*18446744073709551616+lo)*2^s=M at*;rw[cL,cL,O3 Y (by omega),O3 C<|by omega];have A:(Y:Int)=((Y/4294967296:Nat):Int)*4294967296+((Y % 4294967296:Nat):Int):=by omega
  have v:0<((Y/4294967296:Nat):Int)/\((Y/4294967296:Nat):Int)<4294967296:=by omega
  have x:0<=((Y % 4294967296:Nat):Int)/\((Y % 4294967296:Nat):Int)<4294967296:=by omega
  have w1:0<=((C/4294967296:Nat):Int)/\((C/4294967296:Nat):Int)<4294967296:=by omega
  have w0:0<=((C % 4294967296:Nat):Int)/\((C % 4294967296:Nat):Int)<4294967296:=by omega
  have hC:(C:Int)=((C/4294967296:Nat):Int)*4294967296+((C % 4294967296:Nat):Int):=by omega
  generalize ((Y/4294967296:Nat):Int)=y1 at*;generalize ((Y % 4294967296:Nat):Int)=y0 at*;generalize ((C/4294967296:Nat):Int)=w at*;generalize ((C % 4294967296:Nat):Int)=z at*;refine ze uy (ze z0<|ze rfl (ze z0<|ze (w4<|by omega)<|ze z0<|ze rfl (ze (w4<|by omega) ?_)));obtain⟨n,r,G,e2,n1,n2,n3,n4,n5⟩:=start (u:=U) (w:=w) A v x.1 (by omega) w1.2;rw[G,e2];refine Ar (Y:Int) s y1 y0 U w z A v x j w1 (fun p p0 hp=>?_) n r n1 n2 n3 n4 n5;have er:=Rn hp (by omega);rw[er];have hp1:=hp.1;have N:=hp.2;rw[zx,yi]at N;obtain⟨m,t,k1,k2,m1,m2,m3,m4,m5⟩:=start (u:=U*4294967296+w-p*Y) (w:=z) A v x.1 (by omega) w0.2;rw[k1,k2];refine A2 (Y:Int) s y1 y0 _ z p A v x (by omega) w0 (by omega) (fun q q0 hq ob=>?_) m t m1 m2 m3 m4 m5;rw[Rn hq (by omega),zl,em];obtain⟨hq1,hq2⟩:=hq;have ez:(p*4294967296+q)*(Y:Int)=p*Y*4294967296+q*Y:=by
   rw[zx,zp,zz 4294967296 (Y:Int), <-zp]
  have H:(p*4294967296+q+1)*(Y:Int)=p*Y*4294967296+q*Y+Y:=by
   rw[zx,ez,yi]
  rw[zx,yi]at hq2;obtain⟨E,D⟩:=fin (p*4294967296+q) (by rw[ez];omega) (by rw[H];omega);refine hg _ _ _ ?_ ?_
  ·have hb:Sp.dq e lo y<18446744073709551616:=by
    unfold Sp.dq;refine Int.ediv_lt_of_lt_mul (by omega) ?_;have:=z8 (show e+1<=y by omega) (show(0:Int)<=18446744073709551616 by decide);omega
   rw[<-E]at hb ⊢;rw[Ml,Ml];omega
  ·rw[<-D,ez];congr 1;omega
end T246
open Sp
theorem pY(x k:Nat)(h:2^k<=x):x.log2=k+(x/2^k).log2:=by
 have d:=qm k;have f:x/2^k≠0:=by
  have:=Nat.div_pos h d;omega
 have e:x≠0:=by omega
 refine(Nat.log2_eq_iff e).2 ⟨?_,?_⟩
 ·rw[qp];exact Nat.le_trans (Nat.mul_le_mul_left _<|Nat.log2_self_le f)<|Nat.mul_div_le x<|2^k
 ·rw[Nat.add_assoc,qp];have a:x/2^k+1<=2^((x/2^k).log2+1):=Nat.lt_log2_self;have b:=Nat.mul_le_mul_left (2^k) a;have c:=Nat.lt_mul_div_succ x d;exact Nat.lt_of_lt_of_le c b
theorem PU(x k:Nat)(h:2^k<=x):FD (x:Int)=(k:Int)+FD ((x/2^k:Nat):Int):=by
 have a:=qm k;have b:=Nat.div_pos h a;have e:=pY x k h;unfold FD;rw[wc (by omega),wc (by omega),zl,zl,e];omega
theorem fdN(n k:Nat):zn (n:Int) ((2:Int)^k)=((n/2^k:Nat):Int):=by
 have:(0:Int)<2^k:=Int.pow_pos (by decide);rw[ye _ (by omega),Int.natCast_ediv,yk];rfl
def AbV:Z:=[(0:UInt8),1,2,2,3,3,3,3,4,4,4,4,4,4,4,4,5,5,5,5,5,5,5,5,5,5,5,5,5,5,5,5,6,6,6,6,6,6,6,6,6,6,6,6,6,6,6,6,6,6,6,6,6,6,6,6,6,6,6,6,6,6,6,6,7,7,7,7,7,7,7,7,7,7,7,7,7,7,7,7,7,7,7,7,7,7,7,7,7,7,7,7,7,7,7,7,7,7,7,7,7,7,7,7,7,7,7,7,7,7,7,7,7,7,7,7,7,7,7,7,7,7,7,7,7,7,7,7,8,8,8,8,8,8,8,8,8,8,8,8,8,8,8,8,8,8,8,8,8,8,8,8,8,8,8,8,8,8,8,8,8,8,8,8,8,8,8,8,8,8,8,8,8,8,8,8,8,8,8,8,8,8,8,8,8,8,8,8,8,8,8,8,8,8,8,8,8,8,8,8,8,8,8,8,8,8,8,8,8,8,8,8,8,8,8,8,8,8,8,8,8,8,8,8,8,8,8,8,8,8,8,8,8,8,8,8,8,8,8,8,8,8,8,8,8,8,8,8,8,8,8,8,8,8,8,8]
theorem Zb:∀m:Fin 256,((yc (AbV.getD m.val 0):Nat):Int)=FD (m.val:Int)/\zc .u8 (m.val:Int)=(m.val:Int)/\FD (m.val:Int)<=8/\0<=FD (m.val:Int):=by decide+kernel
theorem NB{b:Int}(a z x:Nat)(g:b=a)(j:a<=64)(i:z<256)(h:FD (x:Int)=(a:Int)+FD (z:Int)):zc .i64 (b+zc .i64 ((yc (AbV.getD (qq<|zc .u8 (z:Int)) 0):Nat):Int))=FD x:=by
 obtain⟨c,d,e,f⟩:=Zb ⟨z,i⟩;have c:((yc (AbV.getD z 0):Nat):Int)=FD (z:Int):=c;have d:zc .u8 (z:Int)=(z:Int):=d;have e:FD (z:Int)<=8:=e;have f:0<=FD (z:Int):=f;rw[d,zl,c,g,h,wr (FD (z:Int)) (by omega) (by omega),wr _ (by omega)<|by omega]
theorem zM(z:Nat)(b:z<256):(decide ((0:Sh.T (zj qt))<=zc qt (z:Int))&&decide (zc qt (z:Int)<(↑(256:Nat):Int)))=true:=by
 obtain⟨_,a,_,_⟩:=Zb ⟨z,b⟩;have a:zc .u8 (z:Int)=(z:Int):=a;rw[a];exact Ab (w4<|show(0:Int)<=(z:Int)by omega) (w4 (by omega))
namespace T228
set_option maxHeartbeats 1000000 in
set_option maxRecDepth 100000 in
theorem ok:Af A6 228 WW:=by
 refine BO JC<|fun(x:Int) e=>?_;have e:=Sp.A5 (n:=x) e;obtain⟨x,rfl⟩:=zh e.1;refine yf (Ai (x:Int)) ?_;conv=>zeta
 conv=>zeta
 rw[fdN x 32,fdN x 16,fdN x 8,fdN (x/2^32) 16,fdN (x/2^32) 8,fdN (x/2^32/2^16) 8,fdN (x/2^16) 8];have i:=PU x 32;have j:=PU x 16;have k:=PU x 8;have f:=PU (x/2^32) 16;have g:=PU (x/2^32) 8;have d:=PU (x/2^32/2^16) 8;have h:=PU (x/2^16) 8;refine zk (fun c=>ze rfl (zk (fun b=>ze rfl (zk (fun a=>ze rfl (ze (zM _ ?_)<|zg<|zu rfl rfl (NB 56 _ x (by decide+kernel) (by decide) ?_ ?_)))<|fun a=>ze (zM _ ?_)<|zg<|zu rfl rfl (NB 48 _ x (by decide+kernel) (by decide) ?_ ?_)))<|fun b=>zk (fun a=>ze rfl (ze (zM _ ?_)<|zg<|zu rfl rfl (NB 40 _ x (by decide+kernel) (by decide) ?_ ?_)))<|fun a=>ze (zM _ ?_)<|zg<|zu rfl rfl (NB 32 _ x rfl (by decide) ?_ ?_))) (fun c=>zk (fun b=>ze rfl (zk (fun a=>ze rfl (ze (zM _ ?_)<|zg<|zu rfl rfl (NB 24 _ x (by decide+kernel) (by decide) ?_ ?_)))<|fun a=>ze (zM _ ?_)<|zg<|zu rfl rfl (NB 16 _ x (by decide+kernel) (by decide) ?_ ?_)))<|fun b=>zk (fun a=>ze rfl (ze (zM _ ?_)<|zg<|zu rfl rfl (NB 8 _ x (by decide+kernel) (by decide) ?_ ?_)))<|fun a=>ze (zM _ ?_)<|zg<|zu rfl rfl (NB 0 _ x rfl (by decide) ?_ ?_));all_goals
  first
   |replace c:=w6 c
   |replace c:=w7 c
  first
   |replace b:=w6 b
   |replace b:=w7 b
  first
   |replace a:=w6 a
   |replace a:=w7 a
  omega
end T228
theorem tB:C9 XD1:=Aa T228.ok AI
theorem Td{n:Int}(b:0<=n)(a:n<18446744073709551616):0<=Sp.FD n/\Sp.FD n<=64:=by
 unfold Sp.FD;split
 ·omega
 ·have:n.toNat.log2<64:=(Nat.log2_lt<|by omega).2 (by omega);omega
namespace T247
theorem ok:Af A6 247 cLZ:=by
 refine BO tB<|fun(x:Int) hx=>?_;have h:=Sp.A5 (n:=x) hx;have a:=Td h.1 h.2;refine yf (Ai x)<|ze hx<|zg<|zu rfl rfl ?_;show zc .i64 (64-Sp.FD x)=Sp.lz x;unfold Sp.lz;exact wr _ (by omega) (by omega)
end T247
theorem mJ:Af A6 246 SI:=T246.ok T247.ok
end Go.Pe
namespace Go.Sp
def Sz(a b:List Int):Bool:=Cp a&&Cp b&&decide (a.length<=9000)&&decide (b.length<=9000)&&decide (0<As b)
end Go.Sp
namespace Go.Pe
open Sp
open Go.Det
def GG:Am:=⟨[Dt,Dt],fun i=>Sz i.1 i.2,[Dt,Dt],fun i=>(BA<|As i.1/As i.2,BA<|As i.1 % As i.2),false⟩
def J7:AV:=X7 [(187,YU),(209,Xv),(177,Uk),(208,XF),(217,Yn),(246,SI),(247,cLZ)]
end Go.Pe
namespace Go.Sp
def Ih(c:UInt8):Int:=(c.toNat:Int)-48
def B4(c:UInt8):Bool:=decide (48<=c.toNat)&&decide (c.toNat<=57)
def AE(n:Int):Z->Int
 |[]=>n
 |c::r=>AE (10*n+Ih c) r
def Ap(s:Z):Bool:=s.all B4
theorem C2:∀(n:Int) (a b:Z),AE n (a++b)=AE (AE n a) b
 |_,[],_=>rfl
 |n,c::a,b=>by rw[qf,AE,AE,C2]
theorem EW:∀(s:Z) (n:Int),AE n s=n*10^s.length+AE 0 s
 |[],n=>by simp[AE]
 |c::s,n=>by
  rw[AE,AE,EW s<|10*n+Ih c,EW s<|10*0+Ih c,List.length_cons,yy,zx,qh,qj,zz 10 n,zp,zz 10<|10^s.length,qd]
theorem Dg{c:UInt8}(h:B4 c=true):0<=Ih c/\Ih c<=9:=by
 unfold B4 at h;rw[zf,w5,w5]at h;unfold Ih;omega
theorem Bg:∀ {s:Z},Ap s=true->0<=AE 0 s/\AE 0 s<10^s.length
 |[],_=>by simp[AE]
 |c::s,h=>by
  unfold Ap at h;rw[List.all_cons,zf]at h;have a:=Dg h.1;have b:=Bg (s:=s) h.2;have hp:=AR (show(0:Int)<10 by decide) s.length;have e:=zq a.1<|yg hp;have d:=zi a.2<|yg hp;rw[AE,EW,List.length_cons,yy,qh,qj,zz (10^s.length) 10];omega
theorem Bh{s:Z}(h:Ap s=true)(i:Nat):Ap (s.take i)=true:=by
 unfold Ap at h ⊢;rw[yu]at h ⊢;exact fun x a=>h x<|List.mem_of_mem_take a
theorem B8{s:Z}(h:Ap s=true)(i:Nat):Ap (s.drop i)=true:=by
 unfold Ap at h ⊢;rw[yu]at h ⊢;exact fun x a=>h x<|List.mem_of_mem_drop a
def A1(s:Z):Bool:=decide (s≠[])&&Ap s&&(decide (s.getD 0 0≠48)||decide (s=[48]))
def Et(a b:AG):AG:=if vI a<0/\Ag (vI a) % vI b≠0 then NR (Dc<| -(Ag (vI a)/vI b)) (1,[])else Dc<|sg (decide (vI a<0))<|Ag (vI a)/vI b
def Z8(a b:AG):Int:=(Et a b).1
def Zo(a b:AG):List Int:=(Et a b).2
def nO(a b:AG):Int:=C1<|vI a % vI b
def kN(a b:AG):List Int:=C0<|vI a % vI b
def gI(a b:Int):Int:=if a<0 then -(-(Int.gcd a b:Int))else(Int.gcd a b:Int)
theorem Ha(a b:Int):gI a b=(Int.gcd a b:Int):=by unfold gI;split<;>omega
def Ny(a b:AG):Int:=C1<|gI (vI a)<|vI b
def NI(a b:AG):List Int:=C0<|gI (vI a)<|vI b
def pI(a k:Int):Int:=if k<0 then -(-(a^k.toNat))else a^k.toNat
theorem S1(a k:Int):pI a k=a^k.toNat:=by unfold pI;split<;>omega
def qD(a k:Int):Bool:=decide (0<=k)&&decide (k<=100000)&&decide (Ag (pI a k)<(18446744073709551616:Int)^(4000:Nat))
def VQ(a:AG)(k:Int):Int:=C1<|pI (vI a) k
def U8(a:AG)(k:Int):List Int:=C0<|pI (vI a) k
def CW(n:Int):List Int:=if n<0 then[]else[]
theorem EH(n:Int):CW n=[]:=by unfold CW;split<;>rfl
def BC(s:Z):Int:=if s.getD 0 0=45 then -AE 0 (s.drop 1)else AE 0 s
def Du(s:Z):Bool:=decide (s.length<=5999)&&(if s.getD 0 0=45 then Ap (s.drop 1)else Ap s)
def Dv(s:Z):Int:=C1<|BC s
def DB(s:Z):List Int:=C0<|BC s
end Go.Sp
namespace Go.Pe
open Sp
open Go.Det
def Hy:Am:=⟨[AY,AY],fun i=>Bc i.1&&Bc i.2&&decide (0<Sp.vI i.2),[AY,AY],fun i=>((Z8 i.1 i.2,Zo i.1 i.2),(nO i.1 i.2,kN i.1 i.2)),false⟩
def YK:Am:=⟨[AY,AY],fun i=>Bc i.1&&Bc i.2,[AY],fun i=>(Ny i.1 i.2,NI i.1 i.2),false⟩
def iD:Am:=⟨[AY,i64],fun i=>Bc i.1&&qD (Sp.vI i.1) i.2,[AY],fun i=>(VQ i.1 i.2,U8 i.1 i.2),false⟩
def Ph:Am:=⟨[.str],fun s=>Du s,[AY],fun s=>(Dv s,DB s),false⟩
def cQ:Am:=⟨[i64],fun _=>true,[AY],fun n=>(n,CW n),false⟩
def XF1:AV:=WY [(190,[9,10])] [] [(190,[(9,[3,4,5,8,12,13]),(10,[3,4,5,14,15])])] [(106,cQ),(212,GG),(179,P1),(180,gJ),(160,oJ),(139,Qw),(161,Ks)]
def XF0:AV:=X7 []
def XF2:AV:=X7 [(190,Hy),(202,zD),(161,Ks)]
def XF3:AV:=X7 [(106,cQ),(127,RC)]
end Go.Pe
namespace Go.Sp
abbrev B9:Nat:=1000000000
def Kp(l:List Int):Bool:=decide (l.length<=20000)&&l.all fun d=>decide (0<=d)&&decide (d<1000000000)
def hR(l:List Int):Bool:=Kp l&&decide (l.length<=9000)
def Ba(l:List Int):Bool:=Kp l&&nzW l
def An(l:List Int):Int:=val B9 l
def BL(n:Int):List Int:=dg B9 n
def rN(n:Int):Bool:=decide (n<0)
def rW(n:Int):List Int:=BL<|Ag n
def CH(neg:Bool)(w:List Int):Bool:=neg&&decide (Ax w≠[])
def Ea(s:Z):Bool:=decide (s.length<=18)&&Ap s
def BZ(s:Z):Int:=AE 0 s
def Gy(s:Z):Bool:=rN<|BC s
def D9(s:Z):List Int:=rW<|BC s
def CA(a b:List Int):List Int:=BL<|gI (An a)<|An b
end Go.Sp
namespace Go.Pe
open Sp
open Go.Det
abbrev li:Sh:=.list i64
abbrev Ic:Sh:=.pair .bool li
def SU:Am:=⟨[li],fun l=>decide (yw (α:=Int) l<=20000),[li],fun l=>Ax l,false⟩
def IM:Am:=⟨[.bool,li],fun i=>decide (yw (α:=Int) i.2<=20000),[Ic],fun i=>(CH i.1 i.2,Ax i.2),false⟩
def ZO:Am:=⟨[li,li],fun i=>Ba i.1&&Ba i.2,[i64],fun i=>Cg (An i.1)<|An i.2,false⟩
def Y7:Am:=⟨[li,li],fun i=>Sp.hR i.1&&Sp.hR i.2,[li],fun i=>BL<|An i.1*An i.2,false⟩
def XJ:Am:=⟨[li,i64],fun i=>Kp i.1&&decide (0<(i.2:Int))&&decide ((i.2:Int)<1000000000),[li,i64],fun i=>(BL<|An i.1/i.2,An i.1 % i.2),false⟩
def R4:Am:=⟨[li,li],fun i=>Ba i.1&&Ba i.2&&decide (yw (α:=Int) i.1<=9000)&&decide (yw (α:=Int) i.2<=9000)&&decide (0<An i.2),[li,li],fun i=>(BL<|An i.1/An i.2,BL<|An i.1 % An i.2),false⟩
def Mk:Am:=⟨[li,li],fun i=>Ba i.1&&Ba i.2&&decide (yw (α:=Int) i.1<=9000)&&decide (yw (α:=Int) i.2<=9000),[li],fun i=>CA i.1 i.2,false⟩
def SY:Am:=⟨[.str],fun s=>Ea s,[i64],fun s=>BZ s,false⟩
def Ox:Am:=⟨[.str],fun s=>Du s,[Ic],fun s=>(Gy s,D9 s),false⟩
def qQ:AV:=X7 []
def fJ:AV:=X7 [(193,SU)]
def MM:AV:=X7 [(157,ZO),(193,SU),(192,XJ),(159,Y7)]
def XG3:AV:=X7 [(154,R4)]
def fK:AV:=X7 [(152,SY),(155,IM)]
end Go.Pe
namespace Go.Sp
def DG:Z:=[48,49,50,51,52,53,54,55,56,57]
def Aac(o:List Bool):List Bool:=(List.range 256).map fun j=>o.getD j false
def zE:List Bool:=zm 256 false
def Qa(s:Z):Z:=((s.reverse.dropWhile B4).reverse).dropWhile B4
def Qs(s:Z)(c:Int):Int:=match s.findIdx? (fun x=>x==c.toNat.toUInt8)with
 |some i=>(i:Int)
 |none=> -1
def AA(s:Z):Z:=match s.findIdx? (fun x=>x==47)with
 |some i=>s.take i
 |none=>s
def AS(s:Z):Z:=match s.findIdx? (fun x=>x==47)with
 |some i=>s.drop<|i+1
 |none=>[]
def Bs(s:Z):Bool:=s.any<|fun x=>x==47
def A8(s:Z):Z:=if s.getD 0 0=45 then s.drop 1 else s
def preB(s:Z):Bool:=decide (s.getD 0 0=45)
def yK(s t:Z):Bool:=decide (t=DG)&&decide (s.length<=1000000)
def AaN(s t:Z):Bool:=decide (t=[47])&&decide (s.length<=1000000)
def Tq(s t:Z):Bool:=decide (t=[45])&&decide (s.length<=1000000)
end Go.Sp
namespace Go.Pe
open Sp
open Go.Det
def X0:Am:=⟨[.str,.str],fun i=>yK i.1 i.2,[.str],fun i=>Qa i.1,false⟩
def zK:Am:=⟨[.str,.int .u8],fun i=>decide (0<=(i.2:Int))&&decide ((i.2:Int)<256),[i64],fun i=>Qs i.1 i.2,false⟩
def pJ:Am:=⟨[.str,.str],fun i=>AaN i.1 i.2,[.str,.str,.bool],fun i=>(AA i.1,Sp.AS i.1,Bs i.1),false⟩
def Aab:Am:=⟨[.str,.str],fun i=>Tq i.1 i.2,[.str,.bool],fun i=>(A8 i.1,Sp.preB i.1),false⟩
def Xi:Am:=⟨[.str],fun s=>decide (s.length<=1000000),[.bool],fun s=>A1 s,false⟩
def Oi:AV:=X7 []
def bN:AV:=X7 [(234,⟨[.str,.str],fun _=>false,[.str],fun i=>i.1,false⟩),(235,⟨[.str,.str],fun _=>false,[.str],fun i=>i.1,false⟩),(229,⟨[.str,.int .u8],fun _=>false,[.str],fun i=>i.1,false⟩),(230,⟨[.str,.int .u8],fun _=>false,[.str],fun i=>i.1,false⟩)]
def XH1:AV:=X7 [(201,X0)]
def XH2:AV:=X7 [(265,zK)]
def Q8:AV:=X7 [(106,cQ),(176,iD),(127,RC),(139,Qw),(143,RP),(240,⟨[.str,i64,i64],fun _=>false,[i64],fun _=>(0:Int),false⟩),(207,⟨[.str],fun _=>false,[i64],fun _=>(0:Int),false⟩)]
end Go.Pe
namespace Go.Sp
def Ip(a:Z):Bool:=A1 (AA<|A8 a)&&(!preB a||decide (AA (A8 a)≠[48]))&&(!Bs (A8 a)||(A1 (AS<|A8 a)&&decide (AS (A8 a)≠[48])&&decide (AS (A8 a)≠[49])))
def Abr(a:Z):Int:=AE 0<|AA<|A8 a
def Aao(a:Z):Int:=AE 0<|AS<|A8 a
def At(a:Z):Int:=if Ip a=false then 1 else if 600<(AA<|A8 a).length\/600<(AS<|A8 a).length then 4 else if Bs (A8 a)=true/\gI (Abr a) (Aao a)≠1 then 1 else 0
def A0(s:Z):Int:=((AA s).length:Int)
def Eu(a:Z):Bool:=Du (AA a)&&Du (AS a)&&decide (a.length<=5999)
def Bd(a:Z):Int:=BC<|AA a
def AN(a:Z):Int:=if Bs a=true then BC (AS a)else 1
def BS(a:Z):Bool:=rN<|Bd a
def BJ(a:Z):List Int:=rW<|Bd a
def Br(a:Z):Bool:=rN<|AN a
def Bk(a:Z):List Int:=rW<|AN a
end Go.Sp
namespace Go.Pe
open Sp
open Go.Det
def Fc:Am:=⟨[.str],fun s=>decide (s.length<=1000000),[i64],fun s=>At s,false⟩
def Qb:Am:=⟨[.str],fun s=>decide (s.length<=1000000),[i64],fun s=>A0 s,false⟩
def Z2:Am:=⟨[.str],fun s=>decide (s.length<=9223372036854775807),[i64],fun s=>A0 s,false⟩
def TW:Am:=⟨[.str],fun s=>decide (s.length<=9223372036854775807),[.bool],fun s=>A1 s,false⟩
def Ii:Am:=⟨[i64],fun n=>CI n,[Ic],fun n=>(Sp.rN n,Sp.rW n),false⟩
def NX:Am:=⟨[.str],fun s=>Eu s,[Ic,Ic],fun s=>((BS s,BJ s),(Br s,Bk s)),false⟩
def MV:AV:=WY [(122,[4,6,7,9,10])] [] [(122,[(4,[5,6,7,8]),(6,[5,6,7,8]),(7,[5,6,7,9]),(9,[5,6,7]),(10,[10])])] [(168,Hd),(169,G3),(166,Aab),(124,pJ),(167,Xi),(170,YK),(126,Ph),(105,lF),(106,cQ)]
def yW:AV:=X7 [(155,IM)]
def XK3:AV:=X7 [(128,Qb),(149,Ox),(97,Ii)]
def VO:AV:=WY [(62,[4,7,9,11,13,14])] [] [(62,[(4,[0,3]),(7,[3,4]),(9,[3,4]),(11,[3,4]),(13,[5,6]),(14,[7])])] [(128,Z2),(129,TW),(92,NX),(130,Mk)]
end Go.Pe
