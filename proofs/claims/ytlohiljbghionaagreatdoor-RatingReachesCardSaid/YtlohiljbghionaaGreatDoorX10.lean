import Derived.Test.YtlohiljbghionaaGreatDoorX09
import Derived.Lib.Mul64
/- A part of a proof; no law is stated here. -/
noncomputable section
open Go.IntKind renaming wrap -> zc, u64 -> zd, i64 -> ym, wrap_i64 -> qg, u8 -> qt
open Go.Pe.Ends renaming tt -> ze, leaf -> zg, ite -> zk, eq -> yf, ff -> yh, Ah -> yj
open Bool renaming and_eq_true -> zf, true_and -> yb, false_eq_true -> y8, or_eq_true -> ql
open Int renaming eq_ofNat_of_zero_le -> zh, mul_le_mul_of_nonneg_right -> zi, toNat_natCast -> zl, fdiv -> zn, mul_assoc -> zp, mul_nonneg -> zq, lt_or_le -> zw, add_mul -> zx, mul_comm -> zz, mul_add -> z7, mul_le_mul_of_nonneg_left -> z8, lt_of_le_of_lt -> yd, fdiv_eq_ediv_of_nonneg -> ye, le_of_lt -> yg, one_mul -> yi, natCast_pow -> yk, natCast_mul -> yq, tdiv -> yr, natCast_add -> yx, pow_succ -> yy, tdiv_eq_ediv_of_nonneg -> y9, add_assoc -> qd, mul_zero -> qh, zero_add -> qj, ediv_nonneg -> qn, mul_sub -> qo, toNat -> qq
open Go.Pe.Sh renaming int -> zj, list -> zt
open List renaming replicate -> zm, getD_eq_getElem?_getD -> zo, take_of_length_le -> zr, getElem?_eq_getElem -> z6, take_length -> yn, drop_eq_getElem_cons -> yo, getElem?_eq_none -> yt, all_eq_true -> yu, length -> yw, append_assoc -> qc, cons_append -> qf
open Go.Pe.Ad renaming of -> zu
open Go.Sp renaming val -> zy
open BitVec renaming ofInt -> ya, ofInt_natCast -> yv, toNat_ofNat -> yz
open UInt8 renaming toNat -> yc
open Go.Pe.PV renaming agg -> yp
open Go.Lib renaming half_mul_le -> y7
open Nat renaming mod_eq_of_lt -> qe, two_pow_pos -> qm, pow_add -> qp
open Min renaming min -> qi
open List.cons renaming injEq -> qk
namespace Go.Sp
abbrev Ao:Nat:=18446744073709551616
abbrev AG:=Int×List Int
def C3(l:List Int):Bool:=decide (l.length<=20000)&&l.all fun d=>decide (0<=d)&&decide (d<18446744073709551616)
def hW(l:List Int):Bool:=C3 l&&decide (l.length<=9000)
def nzW(l:List Int):Bool:=decide (l.getLast?≠some 0)
def Cm(l:List Int):Bool:=C3 l&&nzW l
def As(l:List Int):Int:=val Ao l
def Bv(n:Int):List Int:=dg Ao n
def u64(n:Int):Bool:=decide (0<=n)&&decide (n<18446744073709551616)
def CG(n:Int):Bool:=decide (-9223372036854775808<=n)&&decide (n<9223372036854775808)
def Ag(n:Int):Int:=if n<0 then -n else n
theorem Ai(n:Int):Ag n=(n.natAbs:Int):=by unfold Ag;split<;>omega
def vI(a:AG):Int:=if a.2=[]then a.1 else if a.1<0 then -As a.2 else As a.2
def C5(a:AG):Bool:=CG a.1&&(decide (a.2=[])||(Cm a.2&&(decide (a.1=1)||decide (a.1= -1))&&decide (9223372036854775808<=As a.2)))
def C8(n:Int):AG:=if -9223372036854775808<n/\n<9223372036854775808 then(n,[])else(if n<0 then -1 else 1,Bv<|Ag n)
def C0(n:Int):Int:=(C8 n).1
def CZ(n:Int):List Int:=(C8 n).2
def sg(neg:Bool)(v:Int):Int:=if neg=true then -v else v
def Ie(x y c:Int):Int:=(x+y+c) % 18446744073709551616
def OW(x y c:Int):Int:=(x+y+c)/18446744073709551616
def Uc(x y c:Int):Int:=(x-y-c) % 18446744073709551616
def QW(x y c:Int):Int:=if x<y+c then 1 else 0
def Ir(x y:Int):Int:=(x*y) % 18446744073709551616
def Rq(x y:Int):Int:=(x*y)/18446744073709551616
def Cg(a b:Int):Int:=if a<b then -1 else if a>b then 1 else 0
def Mo(n:Int):Int:=if n<0 then -1 else if n>0 then 1 else 0
def EO(a b:AG):AG:=if a.2=[]/\b.2=[]/\CG (a.1+b.1)=true then(a.1+b.1,[])else C8<|vI a+vI b
def Ck(a:AG):AG:=if a.2=[]/\a.1≠ -9223372036854775808 then(-a.1,[])else C8<| -vI a
def Vs(a:AG):AG:=if a.1<0 then Ck a else a
def NI(a b:AG):AG:=EO a<|Ck b
def FB(a b:AG):AG:=C8<|vI a*vI b
def Ef(a:AG):Int:=(Ck a).1
def Eg(a:AG):List Int:=(Ck a).2
def Pr(a:AG):Int:=(Vs a).1
def Qt(a:AG):List Int:=(Vs a).2
def J7(a b:AG):Int:=(EO a b).1
def JZ(a b:AG):List Int:=(EO a b).2
def ZE(a b:AG):Int:=(NI a b).1
def ZC(a b:AG):List Int:=(NI a b).2
def Fx(a b:AG):Int:=(FB a b).1
def Fv(a b:AG):List Int:=(FB a b).2
end Go.Sp
variable {Q:Go.Pe.PV->Go.Pe.Ob->Prop}
namespace Go.Pe
open Sp
open Go.Det
abbrev AY:Sh:=.pair (.int .i64)<|.nlist<|.int .u64
abbrev u64:Sh:=.int .u64
abbrev Dz:Sh:=.list<|.int .u64
abbrev wU:Sh:=.nlist<|.int .u64
def XI:An:=⟨[u64,u64,u64],fun i=>Sp.u64 i.1&&Sp.u64 i.2.1&&decide (0<=(i.2.2:Int))&&decide ((i.2.2:Int)<=1),[u64,u64],fun i=>(Ie i.1 i.2.1 i.2.2,OW i.1 i.2.1 i.2.2),false⟩
def X2:An:=⟨[u64,u64,u64],fun i=>Sp.u64 i.1&&Sp.u64 i.2.1&&decide (0<=(i.2.2:Int))&&decide ((i.2.2:Int)<=1),[u64,u64],fun i=>(Uc i.1 i.2.1 i.2.2,QW i.1 i.2.1 i.2.2),false⟩
def TN:An:=⟨[u64,u64],fun i=>Sp.u64 i.1&&Sp.u64 i.2,[u64,u64],fun i=>(Rq i.1 i.2,Ir i.1 i.2),false⟩
def WC:An:=⟨[i64],fun n=>CG n,[u64],fun n=>Ag n,false⟩
def OO:An:=⟨[AY],fun a=>Sp.C5 a,[.bool,Dz],fun a=>(decide (Sp.vI a<0),Bv<|Ag<|Sp.vI a),false⟩
def lW:An:=⟨[.bool,Dz],fun i=>Cm i.2,[AY],fun i=>(C0<|Sp.sg i.1<|As i.2,CZ<|Sp.sg i.1<|As i.2),false⟩
def Xr:An:=⟨[Dz],fun l=>C3 l,[Dz],fun l=>Ax l,false⟩
def YF:An:=⟨[Dz,Dz],fun i=>Cm i.1&&Cm i.2,[i64],fun i=>Cg (As i.1)<|As i.2,false⟩
def jX:An:=⟨[Dz,Dz],fun i=>Sp.hW i.1&&Sp.hW i.2,[Dz],fun i=>Bv<|As i.1+As i.2,false⟩
def nL:An:=⟨[Dz,Dz],fun i=>C3 i.1&&C3 i.2&&decide (As i.2<=As i.1),[Dz],fun i=>Bv<|As i.1-As i.2,false⟩
def oH:An:=⟨[Dz,Dz],fun i=>Sp.hW i.1&&Sp.hW i.2,[Dz],fun i=>Bv<|As i.1*As i.2,false⟩
def kB:AT:=X7 []
def Lv:AT:=X7 [(178,WC),(208,XI),(217,X2),(209,Xr),(177,TN)]
def XI2:AT:=X7 [(179,OO),(180,lW),(186,jX),(188,nL),(187,YF),(181,oH),(177,TN),(178,WC)]
theorem Rb{F:Fz}{x y c:Int}{args:List V}(h:MT F (Ae [Pe.u64,Pe.u64,Pe.u64] (x,y,c)) args):args=[.int .u64 x,.int .u64 y,.int .u64 c]:=by
 have:=h (fun _=>none) 0;simp only[Ae,Ci,Bf]at this;obtain⟨a,j,rfl,e,b,i,rfl,g,d,k,rfl,f,rfl⟩:=this;simp only[PR,DC,qk,ve]at e g f;rw[e,g,f]
theorem A5{n:Int}(h:Sp.u64 n=true):0<=n/\n<18446744073709551616:=by
 unfold Sp.u64 at h;rw[zf,w5,w5]at h;exact h
namespace T208
theorem ok:Af A9 208 XI:=by
 refine .inr ⟨PK.add64.run,by kernel_rfl,fun F h args i k hp=>?_⟩;obtain⟨x,y,c⟩:=i;have hp:(Sp.u64 x&&Sp.u64 y&&decide (0<=c)&&decide (c<=1))=true:=hp;rw[zf,zf,zf,w5,w5]at hp;obtain⟨⟨⟨e,f⟩,c0⟩,g⟩:=hp;have e:=A5 e;have f:=A5 f;have:=Rb k;subst this;obtain⟨a,rfl⟩:=zh e.1;obtain⟨b,rfl⟩:=zh f.1;obtain⟨d,rfl⟩:=zh c0;have g:(d:Int)<=1:=g;have j:Nat.ble d 1=true:=Nat.ble_eq_true_of_le ae;refine⟨.tup [.int .u64<|.ofNat<|(a+b+d) % dY,.int .u64<|.ofNat<|(a+b+d)/dY],?_,fun ρ N=>?_⟩
 ·show(bif Nat.ble d 1 then _ else _)=_;rw[j];rfl
 ·show PR F ρ N (.tup [.dat Pe.u64<|Ie a b d,.dat Pe.u64<|OW a b d]) _;simp only[PR,Bf];refine⟨_,rfl,_,_,rfl,?_,_,_,rfl,?_,rfl⟩<;>simp[DC,dY,Ie,OW]
end T208
namespace T217
theorem ok:Af A9 217 X2:=by
 refine .inr ⟨PK.sub64.run,by kernel_rfl,fun F h args i l hp=>?_⟩;obtain⟨x,y,c⟩:=i;have hp:(Sp.u64 x&&Sp.u64 y&&decide (0<=c)&&decide (c<=1))=true:=hp;rw[zf,zf,zf,w5,w5]at hp;obtain⟨⟨⟨g,j⟩,c0⟩,k⟩:=hp;have g:=A5 g;have j:=A5 j;have:=Rb l;subst this;obtain⟨a,rfl⟩:=zh g.1;obtain⟨b,rfl⟩:=zh j.1;obtain⟨d,rfl⟩:=zh c0;have k:(d:Int)<=1:=k;have m:Nat.ble d 1=true:=Nat.ble_eq_true_of_le ae;refine⟨.tup [.int .u64<|.ofNat<|(a+dY-b-d) % dY,.int .u64<|.ofNat<|bif Nat.blt a (b+d)then 1 else 0],?_,fun ρ N=>?_⟩
 ·show(bif Nat.ble d 1 then _ else _)=_;rw[m];rfl
 ·show PR F ρ N (.tup [.dat Pe.u64<|Uc a b d,.dat Pe.u64<|QW a b d]) _;simp only[PR,Bf];refine⟨_,rfl,_,_,rfl,?_,_,_,rfl,?_,rfl⟩
  ·simp only[DC,dY,Uc,qk,V.int.injEq,ve,true_and];have e:(((a+18446744073709551616-b-d) % 18446744073709551616:Nat):Int)=((a:Int)-b-d) % 18446744073709551616:=ae
   exact e
  ·simp only[DC,QW,qk,V.int.injEq,ve,true_and];rw[Ht];by_cases f:a<b+d
   ·rw[wd ae];simp[f]
   ·rw[wc ae];simp[f]
end T217
end Go.Pe
namespace Go.Sp
theorem AH(b:Int):∀(l:List Int) (i:Nat),val b (l.take<|i+1)=val b (l.take i)+b^i*l.getD i 0
 |[],i=>by simp[val]
 |x::l,0=>by
  show x+b*val b (l.take 0)=0+b^0*x;simp[val]
 |x::l,i+1=>by
  have:=AH b l i;show x+b*val b (l.take<|i+1)=x+b*val b (l.take i)+b^(i+1)*l.getD i 0;rw[this,z7,yy,zz (b^i) b,zp,qd]
theorem IE{l:List Int}(h:C3 l=true):l.length<=20000/\Aw Ao l:=by
 unfold C3 at h;rw[zf,w5,yu]at h;exact⟨h.1,fun d a=>by
  have:=h.2 d a;rw[zf,w5,w5]at this;exact this⟩
theorem Ep{l:List Int}(b:l.length<=20000)(c:Aw Ao l):C3 l=true:=by
 unfold C3;rw[zf,w5,yu];exact⟨b,fun d a=>by
  have:=c d a;rw[zf,w5,w5];exact this⟩
theorem Zv{l:List Int}(h:hW l=true):l.length<=9000/\Aw Ao l:=by
 unfold hW at h;rw[zf,w5]at h;exact⟨h.2,(IE h.1).2⟩
theorem AX{l:List Int}(h:Aw Ao l)(i:Nat):u64 (l.getD i 0)=true:=by
 unfold u64;rw[zf,w5,w5];rcases Nat.lt_or_ge i l.length with a|a
 ·have:l.getD i 0∈l:=by rw[zo,z6 a];exact List.getElem_mem a
  exact h _ this
 ·rw[zo,yt a];exact⟨by decide,by decide⟩
theorem A5{n:Int}(h:u64 n=true):0<=n/\n<18446744073709551616:=by
 unfold u64 at h;rw[zf,w5,w5]at h;exact h
theorem CX{n:Int}(a:0<=n)(b:n<18446744073709551616):u64 n=true:=by
 unfold u64;rw[zf,w5,w5];exact⟨a,b⟩
theorem Ei{l:List Int}{x:Int}(h:Aw Ao l)(b:u64 x=true):Aw Ao (l++[x]):=by
 intro d a;rw[List.mem_append,List.mem_singleton]at a;rcases a with a|rfl
 ·exact h d a
 ·exact A5 b
theorem Ma{x y c:Int}(a:u64 x=true)(b:u64 y=true)(d:0<=c/\c<=1):u64 (Ie x y c)=true/\(0<=OW x y c/\OW x y c<=1)/\Ie x y c+18446744073709551616*OW x y c=x+y+c:=by
 have:=A5 a;have:=A5 b;unfold Ie OW;exact⟨CX ae ae,⟨by omega,by omega⟩,by omega⟩
theorem Ha{x y c:Int}(a:u64 x=true)(b:u64 y=true)(d:0<=c/\c<=1):u64 (Uc x y c)=true/\(0<=QW x y c/\QW x y c<=1)/\Uc x y c-18446744073709551616*QW x y c=x-y-c:=by
 have:=A5 a;have:=A5 b;unfold Uc QW;refine⟨CX ae ae,?_,?_⟩<;>split<;>omega
theorem Fe(l:List Int)(x:Int):val Ao (l++[x])=val Ao l+(Ao:Int)^l.length*x:=by
 rw[Da];simp[val]
theorem LG(i:Nat)(c:Int):(Ao:Int)^(i+1)*c=(Ao:Int)^i*(18446744073709551616*c):=by
 rw[yy,zp];rfl
theorem Jw(p:List Int)(n i:Nat)(x:Int)(h:p.length=i)(a:i<n):(p++zm (n-i) (0:Int)).set i x=(p++[x])++zm (n-(i+1)) 0:=by
 have:n-i=(n-(i+1))+1:=ae
 rw[this,List.replicate_succ,Pe.DD p _ 0 x h,qc];rfl
theorem LC{l:List Int}(h:Aw Ao l):Ax l=Bv (As l):=YD af h
end Go.Sp
namespace Go.Pe
open Sp
open Go.Det
section
open List Int Prod
namespace T178
def T(n:Int):Tr:=tree kB false 9 178<|Ae ([zj ym]) n
theorem Ak(n:Int):T n=.di (n<0) (.leaf (.dat (zj zd)<|zc .u64<|zc .i64<|0-n) []) (.leaf (.dat (zj zd)<|zc .u64 n) []):=by kernel_rfl
end T178
namespace T179
def T(a:AG):Tr:=tree Lv false 9 179<|Ae ([AY]) a
theorem Ak(a:AG):T a=.di (0<length (snd a)) (.leaf (.tup [.dat Sh.bool<|decide (fst a<0),.dat wU<|snd a]) []) (.ite (fst a==0) (.leaf (.tup [.bl false,.nil]) [])<|.ck (CG<|fst a)<|.leaf (.tup [.dat Sh.bool<|decide (fst a<0),.sl (Nat.add 0 1) 1 0 1 none])<|[(Nat.add 0 1,.arr false 216 (zj zd) [Ag<|fst a]),(0,.box [.dat i64<|fst a,.dat wU<|snd a])]):=by kernel_rfl
end T179
namespace T180
def T(neg:Bool)(w:List Int):Tr:=tree Lv false 9 180<|Ae ([Sh.bool,zt<|zj zd]) (neg,w)
theorem Ak(neg:Bool)(w:List Int):T neg w=let d:=decide (getD w 0 0<=9223372036854775807);let b:=(length w:Int);let e:=zt<|zj zd;let b':Tr:=.ite neg (.leaf (yp [.dat i64 (-1:Int),.dat e w]) [])<|.leaf (yp [.dat i64 (1:Int),.dat e w]) [];let a:=decide (0<b);let c:Tr:=.ite (b==1) (.ck a<|.ite d (.ck a<|.leaf (yp [.dat i64<|zc .i64<|getD w 0 0,.nil]) []) b') b';.ite (b==0) (.leaf (yp [.dat i64 (0:Int),.nil]) []) (.ite (b==1) (.ck a<|.ite d (.ite neg (.ck a<|.leaf (yp [.dat i64<|zc .i64<|0-zc .i64 (getD w 0 0),.nil]) []) c) c) c):=by kernel_rfl
end T180
namespace T209
def T(w:List Int):Tr:=tree kB false 9 209<|Ae ([zt<|zj zd]) w
def L1(v0:List Int)(v3:Int):Tr:=re ((T []))<|Av 21 [(0,.dat (zt<|zj zd) v0),(3,.dat i64 v3)] [] 0
theorem Ak(w:List Int):T w=L1 w ((length w:Int)):=by kernel_rfl
theorem Al(v0:List Int)(v3:Int):stepT kB (L1 v0 v3)=let a:Tr:=.ck (decide (0<=v3)&&decide (0<=toNat v3)&&decide (toNat v3<=length v0))<|.leaf (.dat (zt<|zj zd)<|take (toNat v3) v0) [];let b':=zc .i64<|v3-1;.di (v3>0) (.ck (decide (0<=zc .i64 (v3-1))&&decide (zc .i64 (v3-1)<(length v0:Int)))<|.ite (getD v0 (toNat b') 0==0) (L1 v0 b') a) a:=by kernel_rfl
end T209
namespace T187
def T(a b:List Int):Tr:=tree kB false 9 187<|Ae ([zt<|zj zd,zt<|zj zd]) (a,b)
def L1(v0 v1:List Int)(v5:Int):Tr:=re ((T [] []).R)<|Av 41 [(0,.dat (zt<|zj zd) v0),(1,.dat (zt<|zj zd) v1),(5,.dat i64 v5)] [] 0
theorem Ak(a b:List Int):T a b=let c:=(length a:Int);.ite (c !=(length b:Int)) (.di (c<(length b:Int)) (.leaf (.dat i64 (-1:Int)) [])<|.leaf (.dat i64 (1:Int)) []) (L1 a b<|zc .i64<|c-1):=by kernel_rfl
theorem Al(v0 v1:List Int)(v5:Int):stepT kB (L1 v0 v1 v5)=let a:=decide (0<=v5)&&decide (v5<(length v0:Int));let b':=decide (0<=v5)&&decide (v5<(length v1:Int));.di (v5>=0) (.ck a<|.ck b'<|.ite (getD v0 (toNat v5) 0 !=getD v1 (toNat v5) 0) (.ck a<|.ck b'<|.di (getD v0 (toNat v5) 0<getD v1 (toNat v5) 0) (.leaf (.dat i64 (-1:Int)) [])<|.leaf (.dat i64 (1:Int)) [])<|L1 v0 v1<|zc .i64<|v5-1) (.leaf (.dat i64 (0:Int)) []):=by kernel_rfl
end T187
namespace T186
def T(x y:List Int):Tr:=tree Lv false 9 186<|Ae ([zt<|zj zd,zt<|zj zd]) (x,y)
def L1(v0 v1:List Int)(a:Nat)(e c b:Int)(d:List Int):Tr:=re ((T [] []).L.L)<|Av 54 [(0,.dat (zt<|zj zd) v0),(1,.dat (zt<|zj zd) v1),(5,.sl 0 1 0 a none),(6,.dat (zj zd) e),(21,.dat i64 c),(22,.dat i64 b)] [(0,.arr false 216 (zj zd) d)] 1
theorem Ak(x y:List Int):T x y=let a:=(length x:Int);let b':=(length y:Int);let b:=zc .i64<|b'+1;let c:=zc .i64<|a+1;.di (a<b') (.ck (decide (0<=zc .i64 (b'+1))&&decide (zc .i64 (b'+1)=zc .i64 (b'+1))&&decide (8*toNat b<=281474976710656)&&decide (zc .i64 (b'+1)<9223372036854775808))<|L1 y x (toNat b) 0 b' 0<|replicate (toNat b) 0) (.ck (decide (0<=zc .i64 (a+1))&&decide (zc .i64 (a+1)=zc .i64 (a+1))&&decide (8*toNat c<=281474976710656)&&decide (zc .i64 (a+1)<9223372036854775808))<|L1 x y (toNat c) 0 a 0<|replicate (toNat c) 0):=by kernel_rfl
theorem Al(v0 v1:List Int)(b:Nat)(d c a:Int)(f:List Int):stepT Lv (L1 v0 v1 b d c a f)=let e:=getD v0 (toNat a) 0;let b':=(length v0:Int);let h:=getD v1 (toNat a) 0;let j:=decide (0<=a)&&decide (a<(↑b:Int));let i:=decide ((0:Sh.T (BC [u64]))<=d);let l:=decide (d<=(1:Sh.T (BC [u64])));let k:=decide (toNat a<length f);let n:=decide (a<(length v1:Int));let m:=zc .i64<|a+1;let g:=set f (toNat b') d;let h':=decide (0<=a)&&decide (a<b');.di (a<c) (.ite n (.ck (decide (0<=a)&&n)<|.ck h'<|.ck (Sp.u64 e&&Sp.u64 h&&i&&l)<|.ck j<|.ck k<|L1 v0 v1 b (OW e h d) c m<|set f (toNat a)<|Ie e h d)<|.ck h'<|.ck (Sp.u64 e&&Sp.u64 0&&i&&l)<|.ck j<|.ck k<|L1 v0 v1 b (OW e 0 d) c m<|set f (toNat a)<|Ie e 0 d) (.ck (decide (0<=b')&&decide (b'<(↑b:Int)))<|.cd (toNat b'<length f)<|.ck (decide (0+b<=length g)&&true&&C3 (take b g))<|.leaf (.dat (zt<|zj zd)<|Ax<|take b g) []):=by kernel_rfl
end T186
namespace T188
def T(x y:List Int):Tr:=tree Lv false 9 188<|Ae ([zt<|zj zd,zt<|zj zd]) (x,y)
def L1(v0 v1:List Int)(a:Nat)(e b c:Int)(d:List Int):Tr:=re ((T [] []).L)<|Av 41 [(0,.dat (zt<|zj zd) v0),(1,.dat (zt<|zj zd) v1),(5,.sl 0 1 0 a none),(6,.dat (zj zd) e),(13,.dat i64 b),(14,.dat i64 c)] [(0,.arr false 216 (zj zd) d)] 1
theorem Ak(x y:List Int):T x y=let a:=(length x:Int);.ck (decide (0<=a)&&decide (a=a)&&decide (8*toNat a<=281474976710656)&&decide (a<9223372036854775808)) (L1 x y (toNat a) 0 a 0<|replicate (toNat a) 0):=by kernel_rfl
theorem Al(v0 v1:List Int)(b:Nat)(e c a:Int)(d:List Int):stepT Lv (L1 v0 v1 b e c a d)=let f:=getD v0 (toNat a) 0;let b':=decide (0<=a)&&decide (a<(length v0:Int));let g:=getD v1 (toNat a) 0;let i:=decide (0<=a)&&decide (a<(↑b:Int));let j:=decide ((0:Sh.T (BC [u64]))<=e);let l:=decide (e<=(1:Sh.T (BC [u64])));let h:=decide (toNat a<length d);let h':=decide (a<(length v1:Int));let k:=zc .i64<|a+1;.di (a<c) (.ite h' (.ck (decide (0<=a)&&h')<|.ck b'<|.ck (Sp.u64 f&&Sp.u64 g&&j&&l)<|.ck i<|.ck h<|L1 v0 v1 b (QW f g e) c k<|set d (toNat a)<|Uc f g e)<|.ck b'<|.ck (Sp.u64 f&&Sp.u64 0&&j&&l)<|.ck i<|.ck h<|L1 v0 v1 b (QW f 0 e) c k<|set d (toNat a)<|Uc f 0 e) (.ck (decide (0+b<=length d)&&true&&C3 (take b d))<|.leaf (.dat (zt<|zj zd)<|Ax<|take b d) []):=by kernel_rfl
end T188
namespace T177
def T(x y:Int):Tr:=tree kB false 9 177<|Ae ([zj zd,zj zd]) (x,y)
theorem Ak(x y:Int):T x y=let a:=zc .u64<|zc .u64 (zn x (2^32)*H4 zd y 4294967295)+zn (zc .u64<|H4 zd x 4294967295*H4 zd y 4294967295) (2^32);.ck true (.ck true<|.ck true<|.ck true<|.ck true<|.leaf (.tup [.dat (zj zd)<|zc .u64<|zc .u64 (zc .u64 (zn x (2^32)*zn y (2^32))+zn a (2^32))+zn (zc .u64<|H4 zd a 4294967295+zc .u64 (H4 zd x 4294967295*zn y (2^32))) (2^32),.dat (zj zd)<|zc .u64<|x*y]) []):=by kernel_rfl
end T177
namespace T181
def T(x y:List Int):Tr:=tree Lv false 9 181<|Ae ([zt<|zj zd,zt<|zj zd]) (x,y)
def L1(v1:List Int)(a:Nat)(v20:List Int)(c b:Int)(d:List Int):Tr:=re ((T [] []).L)<|Av 80 [(1,.dat (zt<|zj zd) v1),(5,.sl 0 1 0 a none),(20,.dat (zt<|zj zd) v20),(21,.dat i64 c),(22,.dat i64 b)] [(0,.arr false 216 (zj zd) d)] 1
theorem Ak(x y:List Int):T x y=let a:=(length x:Int)+(length y:Int);let b':=zc .i64 a;.ck (decide (0<=zc .i64 a)&&decide (zc .i64 a=zc .i64 a)&&decide (8*toNat b'<=281474976710656)&&decide (zc .i64 a<9223372036854775808)) (L1 y (toNat b') x ((length x:Int)) 0<|replicate (toNat b') 0):=by kernel_rfl
def L2(v1:List Int)(c:Nat)(j g h:Int)(v20:List Int)(f e:Int)(a:List Int)(b d:Int)(i:List Int):Tr:=re ((stepT Lv<|L1 [] 0 [] 0 0 []).L.L)<|Av 80 [(1,.dat (zt<|zj zd) v1),(5,.sl 0 1 0 c none),(6,.dat i64 j),(7,.dat (zj zd) g),(8,.dat (zj zd) h),(20,.dat (zt<|zj zd) v20),(21,.dat i64 f),(22,.dat i64 e),(27,.dat (zt<|zj zd) a),(28,.dat i64 b),(29,.dat i64 d)] [(0,.arr false 216 (zj zd) i)] 1
theorem Al(v1:List Int)(b:Nat)(v20:List Int)(c a:Int)(d:List Int):stepT Lv (L1 v1 b v20 c a d)=.di (a<c) (.ck (decide (0<=a)&&decide (a<(length v20:Int)))<|L2 v1 b a (getD v20 (toNat a) 0) 0 v20 c a v1 ((length v1:Int)) 0 d) (.ck (decide (0+b<=length d)&&true&&C3 (take b d))<|.leaf (.dat (zt<|zj zd)<|Ax<|take b d) []):=by kernel_rfl
theorem AJ(v1:List Int)(b:Nat)(h j i:Int)(v20:List Int)(e f:Int)(c:List Int)(d a:Int)(g:List Int):stepT Lv (L2 v1 b h j i v20 e f c d a g)=let b':=zc .i64<|h+a;let n:=getD c (toNat a) 0;let p:=decide (0<=zc .i64 (h+a))&&decide (zc .i64 (h+a)<(↑b:Int));let k:=h+(length v1:Int);let r:=decide ((0:Sh.T (BC [u64]))<=0);let h':=decide (0<=(1:Sh.T (BC [u64])));let l:=getD g (toNat b') 0;let q:=decide (toNat b'<length g);let o:=Ir j n;let m:=Ie o l 0;.di (a<d) (.ck (decide (0<=a)&&decide (a<(length c:Int)))<|.ck (Sp.u64 j&&Sp.u64 n)<|.ck p<|.ck q<|.ck (Sp.u64 o&&Sp.u64 l&&r&&h')<|.ck (Sp.u64 m&&Sp.u64 i&&r&&h')<|.ck p<|.ck q<|L2 v1 b h j (zc .u64<|zc .u64 (Rq j n+OW o l 0)+OW m i 0) v20 e f c d (zc .i64<|a+1)<|set g (toNat b')<|Ie m i 0) (.ck (decide (0<=zc .i64 k)&&decide (zc .i64 k<(↑b:Int)))<|.cd (toNat (zc .i64 k)<length g)<|L1 v1 b v20 e (zc .i64<|f+1)<|set g (toNat<|zc .i64 k) i):=by kernel_rfl
end T181
end
theorem JH:Dg kB:=fun g sp h=>by cases h
theorem wu(x:Int)(a:0<=x)(b:x<=18446744073709551615):zc .u64 x=x:=IntWalk.u64_in x ⟨a,b⟩
theorem Et{n:Int}(h:CG n=true): -9223372036854775808<=n/\n<9223372036854775808:=by
 unfold CG at h;rw[zf,w5,w5]at h;exact h
namespace T178
theorem ok:Af A9 178 WC:=by
 refine BN JH<|fun(n:Int) a=>?_;have a:=Et (n:=n) a;refine yf (Ak n)<|zk (fun c=>?_)<|fun c=>?_
 ·have c:=w6 c;refine zg<|zu rfl rfl ?_;show zc .u64 (zc .i64<|0-n)=Ag n;simp only[Ai];rcases zw (-9223372036854775808) n with h|h
  ·rw[wr _ ae ae,wu _ ae ae];omega
  ·have:n= -9223372036854775808:=ae
   subst this;decide+kernel
 ·have c:=w7 c;refine zg<|zu rfl rfl ?_;show zc .u64 n=Ag n;simp only[Ai];rw[wu _ ae ae];omega
end T178
namespace T209
theorem Aq{Q:PV->Ob->Prop}(w:List Int)(e:w.length<=20000)(b:∀ob,Q (.dat Dz<|Ax w) ob):∀(i:Nat),i<=w.length->Ax w=Ax (w.take i)->Ends kB (L1 w i) Q
 |0,g,a=>by
  have a:Ax w=[]:=a;rw[a]at b;refine yj (Al ..) (yh (by simp)<|ze (by simp)<|zg<|b _)
 |i+1,g,a=>by
  have f:zc .i64 (((i+1:Nat):Int)-1)=(i:Int):=by rw[wr _ ae ae];omega
  have d:w.take (i+1)=w.take i++[w.getD i 0]:=by
   rw[List.take_add_one];congr 1;rw[zo,z6 ae];rfl
  refine yj (Al ..) (ze (by simp<;>omega) ?_);rw[f,zl];refine ze (by simp<;>omega)<|zk (fun c=>?_)<|fun c=>?_
  ·have c:w.getD i 0=0:=by simpa using c
   refine Aq w e b i ae ?_;rw[a,d,c,IM]
  ·have c:w.getD i 0≠0:=by simpa using c
   refine ze (by simp;omega)<|zg ?_;have:Ax w=w.take (i+1):=by rw[a,d,Iy<|YS c]
   rw[this]at b;exact b _
theorem ok:Af A9 209 Xr:=by
 refine BN JH<|fun(w:List Int) hw=>?_;obtain⟨a,b⟩:=IE (l:=w) hw;refine yf (Ak w) (Aq w a (fun ob=>zu rfl rfl rfl) w.length (Nat.le_refl _)<|by rw[yn])
end T209
theorem Fu{l:List Int}(h:Cm l=true):l.length<=20000/\Aw Ao l/\Sp.nz l:=by
 unfold Cm at h;rw[zf]at h;have:=IE h.1;exact⟨this.1,this.2,by
  have:=h.2;unfold Sp.nzW at this;have:l.getLast?≠some 0:=w6 this;exact this⟩
namespace T187
theorem Aq{Q:PV->Ob->Prop}(a b:List Int)(j:Aw Ao a)(h:Aw Ao b)(l:a.length=b.length)(n:b.length<=20000)(f:∀ob,Q (.dat i64<|Cg (As a)<|As b) ob):∀(i:Nat),i<=a.length->a.drop i=b.drop i->Ends kB (L1 a b<|(i:Int)-1) Q
 |0,m,g=>by
  have g:a=b:=g;have:Cg (As a) (As b)=0:=by rw[g];unfold Cg;simp
  rw[this]at f;exact yj (Al ..) (yh (by simp)<|zg<|f _)
 |i+1,m,g=>by
  have o:(((i+1:Nat):Int)-1)=(i:Int):=ae
  have k:a.drop i=a.getD i 0::a.drop (i+1):=by
   rw[zo,z6 ae];exact yo ae
  have db:b.drop i=b.getD i 0::a.drop (i+1):=by
   rw[g,zo,z6 ae];exact yo ae
  have q:=Sp.A5<|AX j i;have p:=Sp.A5<|AX h i;rw[o];refine yj (Al ..) (ze (by simp) ?_);rw[zl];refine ze (by simp;omega) (ze (by simp;omega)<|zk (fun c=>ze (by simp;omega)<|ze (by simp;omega)<|zk (fun d=>?_)<|fun d=>?_)<|fun c=>?_)
  ·have d:=w6 d;have:=Jx (b:=Ao) af j h k db d;have e:Cg (As a) (As b)= -1:=by unfold Cg;exact wd this
   rw[e]at f;exact zg<|f _
  ·have d:=w7 d;have c:a.getD i 0≠b.getD i 0:=by simpa using c
   have:=Jx (b:=Ao) af h j db k ae;have e:Cg (As a) (As b)=1:=by
    unfold Cg As;rw[wc ae,wd ae]
   rw[e]at f;exact zg<|f _
  ·have c:a.getD i 0=b.getD i 0:=by simpa using c
   rw[wr ((i:Int)-1) ae ae];exact Aq a b j h l n f i ae (by rw[k,db,c])
theorem ok:Af A9 187 YF:=by
 refine BN JH<|fun(i:List Int×List Int) g=>?_;obtain⟨a,b⟩:=i;have g:(Cm a&&Cm b)=true:=g;rw[zf]at g;obtain⟨a1,a2,a3⟩:=Fu g.1;obtain⟨b1,b2,b3⟩:=Fu g.2;have f:∀ob,Ad YF (a,b) (.dat i64<|Cg (As a)<|As b) ob:=fun ob=>zu rfl rfl rfl
 refine yf (Ak a b)<|zk (fun c=>zk (fun d=>?_)<|fun d=>?_)<|fun c=>?_
 ·have d:=w6 d;have e:Cg (As a) (As b)= -1:=by unfold Cg;exact wd (E2 af a2 b2 b3 ae)
  rw[e]at f;exact zg<|f _
 ·have d:=w7 d;have c:(a.length:Int)≠b.length:=by simpa using c
  have:=E2 (b:=Ao) af b2 a2 a3 ae;have e:Cg (As a) (As b)=1:=by
   unfold Cg As;rw[wc ae,wd ae]
  rw[e]at f;exact zg<|f _
 ·have c:(a.length:Int)=b.length:=by simpa using c
  rw[wr _ ae ae];exact Aq a b a2 b2 ae b1 f a.length (Nat.le_refl _) (by rw[List.drop_length,show a.length=b.length by omega,List.drop_length])
end T187
theorem D5{a:AG}(h:Sp.C5 a=true):(-9223372036854775808<=a.1/\a.1<9223372036854775808)/\(a.2=[]\/(Cm a.2=true/\(a.1=1\/a.1= -1)/\9223372036854775808<=As a.2)):=by
 unfold Sp.C5 at h;rw[zf,ql,zf,zf,ql,w5,w5,w5,w5]at h;exact⟨Et h.1,h.2.imp id fun h=>⟨h.1.1,h.1.2,h.2⟩⟩
theorem val_one(d:Int):zy Ao [d]=d:=by simp[zy]
theorem AaJ{d:Int}(e:0<d)(c:d<18446744073709551616):[d]=Bv d:=by
 have:=Jc (b:=Ao) (l:=[d]) af (fun x a=>by rw[List.mem_singleton]at a;subst a;exact⟨by omega,c⟩) (by unfold Sp.nz;simp;omega);rw[val_one]at this;exact this
theorem EW{s:Int}:Sp.vI (s,[])=s:=by unfold Sp.vI;exact wd rfl
namespace T179
theorem ok(f:∀g sp,Lv.sp g=some sp->Af A9 g sp):Af A9 179 OO:=by
 refine Hp (X:=Lv) rfl f (d:=9) ag ag ag (fun(a:Int×List Int) ha=>?_) (Be ag);obtain⟨hr,h⟩:=D5 (a:=a) ha;obtain⟨s,w⟩:=a;have hr: -9223372036854775808<=s/\s<9223372036854775808:=hr;refine yf (Ak (s,w))<|zk (fun c=>?_)<|fun c=>zk (fun d=>?_)<|fun d=>ze ?_ ?_
 ·have c:0<w.length:=w6 c;have e:w≠[]:=by rintro rfl;simp at c
  rcases h with h|⟨l,i,j⟩
  ·exact wh h e
  ·obtain⟨n1,k,p⟩:=Fu l;have i:s=1\/s= -1:=i;have j:9223372036854775808<=As w:=j;have ev:Sp.vI (s,w)=if s<0 then -As w else As w:=by unfold Sp.vI;exact wc e
   have o:Ag (Sp.vI (s,w))=As w:=by rw[ev];simp only[Ai];split<;>omega
   have n:decide (Sp.vI (s,w)<0)=decide (s<0):=by
    rw[ev];rcases i with rfl|rfl<;>simp<;>omega
   refine zg<|zu rfl rfl ?_;show(decide (s<0),w)=(decide (Sp.vI (s,w)<0),Bv<|Ag<|Sp.vI (s,w));rw[o,n,show w=Bv (As w)from Jc af k p];congr 2;exact(C9 (b:=Ao) af<|AD (b:=Ao) af k).symm
 all_goals
  have c:¬0<w.length:=w7 c;have m:w=[]:=List.length_eq_zero_iff.1 ae;subst m
 ·have d:s=0:=by simpa using d
  subst d;exact zg<|zu rfl rfl rfl
 ·show CG s=true;unfold CG;rw[zf,w5,w5];exact hr
 ·have d:s≠0:=by simpa using d
  refine zg<|zu rfl rfl ?_;show(decide (s<0),[Ag s])=(decide (Sp.vI (s,[])<0),Bv<|Ag<|Sp.vI (s,[]));rw[EW,AaJ (d:=Ag s) (by simp only[Ai];omega)<|by simp only[Ai];omega]
end T179
theorem Cb{n:Int}(h: -9223372036854775808<n/\n<9223372036854775808):C8 n=(n,[]):=wd h
theorem SV{w:List Int}(neg:Bool)(a:Aw Ao w)(b:Sp.nz w)(c:9223372036854775808<=As w):C8 (if neg=true then -As w else As w)=(if neg=true then -1 else 1,w):=by
 have e:Bv (As w)=w:=(Jc af a b).symm;cases neg with
 |true=>
  simp only[wk];unfold C8;rw[wc ae,wd ae];rw[show Ag (-As w)=As w by simp only[Ai];omega,e]
 |false=>
  show C8 (As w)=(1,w);unfold C8;rw[wc ae,wc ae];rw[show Ag (As w)=As w by simp only[Ai];omega,e]
namespace T180
theorem ok(f:∀g sp,Lv.sp g=some sp->Af A9 g sp):Af A9 180 lW:=by
 refine Hp (X:=Lv) rfl f (d:=9) ag ag ag (fun(i:Bool×List Int) hi=>?_) (Be ag);obtain⟨neg,w⟩:=i;obtain⟨n1,n2,n3⟩:=Fu (l:=w) hi;refine yf (Ak neg w) ?_;conv=>zeta
 cases w with
 |nil=>
  refine ze rfl (zg<|zu rfl rfl ?_);show _=C8 (if neg=true then -0 else 0);rw[show(if neg=true then(-0:Int)else 0)=0 by split<;>rfl,Cb ae]
 |cons d t=>
  cases t with
  |nil=>
   have k:=n2 d (by simp);have u:d≠0:=by intro h;subst h;exact n3 rfl
   have s:0<=d:=k.1;have q:d<18446744073709551616:=k.2;have ev:As [d]=d:=val_one d;refine yh rfl (ze rfl (ze rfl (zk (fun c=>?_)<|fun c=>?_)))
   ·have c:d<=9223372036854775807:=w6 c;have o:zc .i64 d=d:=wr _ ae ae;have p:zc .i64 (0-d)= -d:=by rw[wr _ ae ae];omega
    refine zk (fun n=>ze rfl (zg<|zu rfl rfl ?_))<|fun n=>ze rfl (ze rfl (ze (w4 c)<|ze rfl (zg<|zu rfl rfl ?_)))
    ·show(zc .i64<|0-zc .i64 d,[])=C8 (if neg=true then -As [d]else As [d]);rw[o,p,wd n,ev,Cb ae]
    ·show(zc .i64 d,[])=C8 (if neg=true then -As [d]else As [d]);subst n;rw[o,wc af,ev,Cb ae]
   ·have v:¬d<=9223372036854775807:=w7 c;have a:=SV neg n2 n3 (by rw[ev];omega);refine ze rfl (ze rfl (yh c<|zk (fun n=>zg<|zu rfl rfl ?_)<|fun n=>zg<|zu rfl rfl ?_))
    ·show(-1,[d])=C8 (if neg=true then -As [d]else As [d]);rw[a,wd n]
    ·show(1,[d])=C8 (if neg=true then -As [d]else As [d]);rw[a,n];rfl
  |cons e t=>
   have r:9223372036854775808<=As (d::e::t):=by
    have h:=Dw (b:=Ao) af n2 n3 (by simp);have m:=AM (b:=Ao) af (show 1<=(d::e::t).length-1 by simp);rw[Int.pow_one]at m;have:(9223372036854775808:Int)<=(Ao:Int):=af
    exact Int.le_trans this<|Int.le_trans m h
   have a:=SV neg n2 n3 r;have z0:(((d::e::t).length:Int)==0)=false:=by simp;omega
   have j:(((d::e::t).length:Int)==1)=false:=by simp;omega
   refine yh z0<|yh j<|yh j<|zk (fun n=>zg<|zu rfl rfl ?_)<|fun n=>zg<|zu rfl rfl ?_
   ·show(-1,d::e::t)=C8 (if neg=true then -As (d::e::t)else As (d::e::t));rw[a,wd n]
   ·show(1,d::e::t)=C8 (if neg=true then -As (d::e::t)else As (d::e::t));rw[a,n];rfl
end T180
namespace T186
theorem Aq(x y:List Int)(j:Aw Ao x)(q:Aw Ao y)(l:y.length<=x.length)(v:x.length<=9000)(m:∀ob,Q (.dat Dz<|Bv<|As x+As y) ob):∀(k i:Nat) (p:List Int) (c:Int),i+k=x.length->p.length=i->Aw Ao p->(0<=c/\c<=1)->zy Ao p+(Ao:Int)^i*c=zy Ao (x.take i)+zy Ao (y.take i)->
  Ends Lv (L1 x y (x.length+1) c x.length i<|p++zm (x.length+1-i) 0) Q
 |0,i,p,c,e,hp,g,a,o=>by
  have e:i=x.length:=ae
  subst e;have u:x.length+1-x.length=1:=ae
  have es:(p++zm (x.length+1-x.length) (0:Int)).set x.length c=p++[c]:=by
   rw[u];exact Pe.DD p [] 0 c hp
  have t:(p++[c]).take (x.length+1)=p++[c]:=zr (by simp;omega);have b:Aw Ao (p++[c]):=Ei g (CX a.1 ae);have s:As (p++[c])=As x+As y:=by
   unfold As;rw[Fe,hp,o,yn,zr l]
  refine yj (Al ..) (yh (by simp) ?_);rw[zl,es,t];refine ze (by simp<;>omega) (ze (by simp;omega)<|ze ?_<|zg ?_)
  ·rw[Ep (by simp;omega) b];simp;omega
  ·rw[LC b,s];exact m _
 |k+1,i,p,c,e,hp,g,a,o=>by
  have h:=AX j i;have n:=AX q i;have lo:(p++zm (x.length+1-i) (0:Int)).length=x.length+1:=by simp;omega
  have step:∀z,Sp.u64 z=true->z=y.getD i 0->Ends Lv (L1 x y (x.length+1) (OW (x.getD i 0) z c) x.length (zc .i64<|(i:Int)+1)<|(p++zm (x.length+1-i) 0).set i<|Ie (x.getD i 0) z c) Q:=by
   intro z f r;obtain⟨a1,a2,a3⟩:=Ma h f a;rw[wr ((i:Int)+1) ae ae,Jw p (x.length+1) i _ hp ae];refine Aq x y j q l v m k (i+1) (p++[Ie (x.getD i 0) z c]) _ ae (by simp;omega) (Ei g a1) a2 ?_;rw[Fe,hp,LG,AH _ x i,AH _ y i, <-r,qd, <-z7,a3,z7,z7];omega
  refine yj (Al ..) (ze (by simp;omega) ?_);rw[zl];refine zk (fun d=>?_)<|fun d=>?_
  ·have d:=w6 d;refine ze (by simp;omega) (ze (by simp;omega)<|ze ?_<|ze (by simp;omega)<|ze (w4<|by rw[lo];omega)<|step _ n rfl);rw[h,n,yb,yb,zf];exact⟨w4 a.1,w4 a.2⟩
  ·have d:=w7 d;have f:y.getD i 0=0:=by rw[zo,yt ae];rfl
   refine ze (by simp;omega) (ze ?_<|ze (by simp;omega)<|ze (w4<|by rw[lo];omega)<|step _ rfl f.symm);rw[h,show Sp.u64 0=true from rfl,yb,yb,zf];exact⟨w4 a.1,w4 a.2⟩
theorem start(x y:List Int)(c:Aw Ao x)(f:Aw Ao y)(b:y.length<=x.length)(e:x.length<=9000)(d:∀ob,Q (.dat Dz<|Bv<|As x+As y) ob){t:Tr}:
  Ends Lv (.ite (decide ((0:Int)<=zc ym ((x.length:Int)+(1:Int)))&&decide (zc ym ((x.length:Int)+(1:Int))=zc ym ((x.length:Int)+(1:Int)))&&decide ((8:Nat)*qq (zc ym<|(x.length:Int)+(1:Int))<=(281474976710656:Nat))&&decide (zc ym ((x.length:Int)+(1:Int))<(9223372036854775808:Int)))
   (L1 x y (qq<|zc ym<|(x.length:Int)+(1:Int)) ((0:Int)) ((x.length:Int)) ((0:Int))<|zm (qq<|zc ym<|(x.length:Int)+(1:Int)) (0:Int)) t) Q:=by
 have a:zc .i64 ((x.length:Int)+1)=((x.length+1:Nat):Int):=by rw[wr _ ae ae];omega
 rw[a,zl];refine ze (by simp;omega) ?_;exact Aq x y c f b e d x.length 0 [] 0 ae rfl (fun _ h=>by cases h) ae (by simp[zy])
theorem ok(a:∀g sp,Lv.sp g=some sp->Af A9 g sp):Af A9 186 jX:=by
 refine Hp (X:=Lv) rfl a (d:=9) ag ag ag (fun(i:List Int×List Int) b=>?_) (Be ag);obtain⟨x,y⟩:=i;have b:(Sp.hW x&&Sp.hW y)=true:=b;rw[zf]at b;obtain⟨x1,x2⟩:=Zv b.1;obtain⟨y1,y2⟩:=Zv b.2;have e:∀ob,Ad jX (x,y) (.dat Dz<|Bv<|As x+As y) ob:=fun ob=>zu rfl rfl rfl
 refine yf (Ak x y)<|zk (fun c=>?_)<|fun c=>?_
 ·have c:=w6 c;exact start y x y2 x2 ae y1 (by rw[Int.add_comm];exact e)
 ·have c:=w7 c;exact start x y x2 y2 ae x1 e
end T186
namespace T188
theorem nN{b:Int}(d:0<b){l:List Int}{n:Nat}(h:Aw b l)(g:zy b l<b^n):zy b (l.take n)=zy b l:=by
 rcases Nat.lt_or_ge n l.length with a|a
 ·have c:=Cq b l n ae;have i:=AD ae<|AQ h n;have f:=AD ae<|E1 h n;rcases zw 0 (zy b<|l.drop n)with e|e
  ·have:=z8 (show 1<=zy b (l.drop n)by omega)<|yg<|AR d n;rw[Int.mul_one]at this;omega
  ·have:zy b (l.drop n)=0:=ae
   rw[this,qh]at c;omega
 ·rw[zr a]
theorem Aq(x y:List Int)(g:Aw Ao x)(m:Aw Ao y)(o:As y<=As x)(B:x.length<=20000)(q:∀ob,Q (.dat Dz<|Bv<|As x-As y) ob):∀(k i:Nat) (p:List Int) (c:Int),i+k=x.length->p.length=i->Aw Ao p->(0<=c/\c<=1)->zy Ao p-(Ao:Int)^i*c=zy Ao (x.take i)-zy Ao (y.take i)->
  Ends Lv (L1 x y x.length c x.length i<|p++zm (x.length-i) 0) Q
 |0,i,p,c,j,hp,f,b,a=>by
  have j:i=x.length:=ae
  subst j;have A:p++zm (x.length-x.length) (0:Int)=p:=by rw[Nat.sub_self];simp
  have v:p.take x.length=p:=zr ae;have w:As x<(Ao:Int)^x.length:=Bs af g;have t:As p<(Ao:Int)^p.length:=Bs af f;have u:As p=As x-As y:=by
   rw[yn,nN af m<|show zy Ao y<_ from yd o w]at a;have a:As p-(Ao:Int)^x.length*c=As x-As y:=a;rw[hp]at t;rcases zw 0 c with h|h
   ·have:c=1:=ae
    subst this;rw[Int.mul_one]at a;omega
   ·have:c=0:=ae
    subst this;rw[qh]at a;omega
  rw[A];refine yj (Al ..) (yh (by simp) ?_);rw[v];refine ze ?_<|zg ?_
  ·rw[Ep ae f];simp;omega
  ·rw[LC f,u];exact q _
 |k+1,i,p,c,j,hp,f,b,a=>by
  have n:=AX g i;have r:=AX m i;have lo:(p++zm (x.length-i) (0:Int)).length=x.length:=by simp;omega
  have step:∀z,Sp.u64 z=true->z=y.getD i 0->Ends Lv (L1 x y x.length (QW (x.getD i 0) z c) x.length (zc .i64<|(i:Int)+1)<|(p++zm (x.length-i) 0).set i<|Uc (x.getD i 0) z c) Q:=by
   intro z l s;obtain⟨a1,a2,a3⟩:=Sp.Ha n l b;rw[wr ((i:Int)+1) ae ae,Jw p x.length i _ hp ae];refine Aq x y g m o B q k (i+1) (p++[Uc (x.getD i 0) z c]) _ ae (by simp;omega) (Ei f a1) a2 ?_;have e:(Ao:Int)^i*Uc (x.getD i 0) z c-(Ao:Int)^i*(18446744073709551616*QW (x.getD i 0) z c)=(Ao:Int)^i*x.getD i 0-(Ao:Int)^i*z-(Ao:Int)^i*c:=by
    rw[<-qo,a3,qo,qo]
   rw[Fe,hp,LG,AH _ x i,AH _ y i, <-s];omega
  refine yj (Al ..) (ze (by simp;omega) ?_);rw[zl];refine zk (fun d=>?_)<|fun d=>?_
  ·have d:=w6 d;refine ze (by simp;omega) (ze (by simp;omega) (ze ?_<|ze (by simp;omega)<|ze (w4<|by rw[lo];omega)<|step _ r rfl));rw[n,r,yb,yb,zf];exact⟨w4 b.1,w4 b.2⟩
  ·have d:=w7 d;have l:y.getD i 0=0:=by rw[zo,yt ae];rfl
   refine ze (by simp;omega) (ze ?_<|ze (by simp;omega)<|ze (w4<|by rw[lo];omega)<|step _ rfl l.symm);rw[n,show Sp.u64 0=true from rfl,yb,yb,zf];exact⟨w4 b.1,w4 b.2⟩
theorem ok(b:∀g sp,Lv.sp g=some sp->Af A9 g sp):Af A9 188 nL:=by
 refine Hp (X:=Lv) rfl b (d:=9) ag ag ag (fun(i:List Int×List Int) a=>?_) (Be ag);obtain⟨x,y⟩:=i;have a:(C3 x&&C3 y&&decide (As y<=As x))=true:=a;rw[zf,zf,w5]at a;obtain⟨x1,x2⟩:=IE a.1.1;obtain⟨y1,y2⟩:=IE a.1.2;have c:∀ob,Ad nL (x,y) (.dat Dz<|Bv<|As x-As y) ob:=fun ob=>zu rfl rfl rfl
 refine yf (Ak x y) ?_;conv=>zeta
 rw[zl];refine ze (by simp;omega) ?_;exact Aq x y x2 y2 a.2 x1 c x.length 0 [] 0 ae rfl (fun _ h=>by cases h) ae (by simp[zy])
end T188
theorem LW(n:Int):zc .u64 n=n % 18446744073709551616:=by simp[zc,IntKind.bits,IntKind.signed]
theorem dP(n:Nat):zn (n:Int) ((2:Int)^(32:Nat))=((n/4294967296:Nat):Int):=by
 rw[ye _ af];rfl
theorem iD(n:Nat)(h:n<18446744073709551616):zc .u64 (n:Int)=n:=wu _ ae ae
theorem OU(n:Nat)(h:n<18446744073709551616):H4 .u64 (n:Int) 4294967295=((n % 4294967296:Nat):Int):=by
 have e:(ya 64 (n:Int)&&&ya 64 4294967295).toNat=n % 4294967296:=by
  rw[BitVec.toNat_and];have a:(ya 64 (n:Int)).toNat=n:=by rw[yv,yz];exact qe h
  have b:(ya 64 4294967295).toNat=2^32-1:=af
  rw[a,b,Nat.and_two_pow_sub_one_eq_mod]
 show zc .u64 (((ya 64 (n:Int)&&&ya 64 4294967295).toNat:Nat):Int)=_;rw[e];exact iD _ ae
namespace T177
theorem ok:Af A9 177 TN:=by
 refine BN JH<|fun(i:Int×Int) h=>?_;obtain⟨x,y⟩:=i;have h:(Sp.u64 x&&Sp.u64 y)=true:=h;rw[zf]at h;have e:=Sp.A5 h.1;have f:=Sp.A5 h.2;obtain⟨x,rfl⟩:=zh e.1;obtain⟨y,rfl⟩:=zh f.1;have e:x<18446744073709551616:=ae
 have f:y<18446744073709551616:=ae
 obtain⟨p,j,l,k⟩:=Go.Lib.mul64_hi x y e f;have n:=y7 (a:=x/4294967296) (b:=y/4294967296) ae ae;have q:=y7 (a:=x/4294967296) (b:=y % 4294967296) ae ae;have o:=y7 (a:=x % 4294967296) (b:=y/4294967296) ae ae;refine yf (Ak (x:Int) (y:Int))<|ze rfl (ze rfl (ze rfl (ze rfl (ze rfl (zg<|zu rfl rfl ?_)))));refine Prod.ext ?_ ?_
 ·show zc zd (zc zd (zc zd (zn (x:Int) ((2:Int)^(32:Nat))*zn (y:Int) ((2:Int)^(32:Nat)))+zn (zc zd<|zc zd (zn (x:Int) ((2:Int)^(32:Nat))*H4 zd (y:Int) (4294967295:Int))+zn (zc zd<|H4 zd (x:Int) (4294967295:Int)*H4 zd (y:Int) (4294967295:Int)) ((2:Int)^(32:Nat))) ((2:Int)^(32:Nat)))+zn (zc zd<|H4 zd (zc zd<|zc zd (zn (x:Int) ((2:Int)^(32:Nat))*H4 zd (y:Int) (4294967295:Int))+zn (zc zd<|H4 zd (x:Int) (4294967295:Int)*H4 zd (y:Int) (4294967295:Int)) ((2:Int)^(32:Nat))) (4294967295:Int)+zc zd (H4 zd (x:Int) (4294967295:Int)*zn (y:Int) ((2:Int)^(32:Nat)))) ((2:Int)^(32:Nat)))=Rq x y;have m:Rq x y=((x*y/18446744073709551616:Nat):Int):=by unfold Rq;omega
  rw[m, <-k];have g:x*y/18446744073709551616<18446744073709551616:=Nat.div_lt_of_lt_mul<|Nat.mul_lt_mul'' e f;rw[<-k]at g;simp only[dP,OU x e,OU y f];simp only[<-yq];generalize (x/4294967296)*(y/4294967296)=a at*;generalize (x/4294967296)*(y % 4294967296)=b at*;generalize (x % 4294967296)*(y/4294967296)=c at*;generalize (x % 4294967296)*(y % 4294967296)=d at*;rw[iD d ae,iD a ae,iD b ae,iD c ae,dP, <-yx,iD _ j,dP,OU _ j, <-yx, <-yx,iD _ l,dP,iD (a+_) ae, <-yx,iD _ g]
 ·show zc .u64 ((x:Int)*y)=Ir x y;unfold Ir;exact LW _
end T177
theorem fG{x y o c:Int}(d:Sp.u64 x=true)(e:Sp.u64 y=true)(f:Sp.u64 o=true)(g:Sp.u64 c=true):
  Sp.u64 (Ir x y)=true/\Sp.u64 (Ie (Ir x y) o 0)=true/\Sp.u64 (Ie (Ie (Ir x y) o 0) c 0)=true/\
  zc .u64 (zc .u64 (Rq x y+OW (Ir x y) o 0)+OW (Ie (Ir x y) o 0) c 0)=(x*y+o+c)/18446744073709551616/\
  Sp.u64 ((x*y+o+c)/18446744073709551616)=true/\
  Ie (Ie (Ir x y) o 0) c 0+18446744073709551616*((x*y+o+c)/18446744073709551616)=x*y+o+c:=by
 have d:=Sp.A5 d;have e:=Sp.A5 e;have f:=Sp.A5 f;have g:=Sp.A5 g;have h0:0<=x*y:=zq d.1 e.1;have h:x*y<=18446744073709551615*18446744073709551615:=by
  have a:=z8 (show y<=18446744073709551615 by omega) d.1;have b:=zi (show x<=18446744073709551615 by omega) (show(0:Int)<=18446744073709551615 by omega);omega
 unfold Ir Rq Ie OW;generalize x*y=P at*;refine⟨CX ae ae,CX ae ae,CX ae ae,?_,CX ae ae,by omega⟩;rw[LW,LW];omega
namespace T181
theorem A0(x y:List Int)(n i:Nat)(F:i<x.length)(E:n=x.length+y.length)(e:x.length<=9000)(l:y.length<=9000)(o:Aw Ao x)(t:Aw Ao y)(p:List Int)(hp:p.length=i+y.length)(b:Aw Ao p)
  (w:∀q c,q.length=i+y.length->Aw Ao q->Sp.u64 c=true->zy Ao q+(Ao:Int)^(i+y.length)*c=zy Ao p+(Ao:Int)^i*(x.getD i 0*zy Ao y)->Ends Lv (L1 y n x x.length ((i+1:Nat):Int)<|(q++[c])++zm (n-(i+y.length+1)) 0) Q):∀(k j:Nat) (q:List Int) (c:Int),j+k=y.length->q.length=i+j->Aw Ao q->Sp.u64 c=true->zy Ao q+(Ao:Int)^(i+j)*c=zy Ao (p.take<|i+j)+(Ao:Int)^i*(x.getD i 0*zy Ao (y.take j))->
  Ends Lv (L2 y n i (x.getD i 0) c x x.length i y y.length j<|q++(p.drop (i+j)++zm (n-(i+y.length)) 0)) Q
 |0,j,q,c,m,a,f,d,s=>by
  have m:j=y.length:=ae
  subst m;have g:zc .i64 ((i:Int)+(y.length:Int))=((i+y.length:Nat):Int):=by rw[wr _ ae ae];omega
  have h:zc .i64 ((i:Int)+1)=((i+1:Nat):Int):=by rw[wr _ ae ae];omega
  have G:p.drop (i+y.length)=[]:=List.drop_eq_nil_of_le ae;refine yj (AJ ..) (yh (by simp) ?_);rw[g,h,zl,G,List.nil_append,Jw q n _ c a ae];refine ze (by simp;omega) (ze (by simp;omega)<|w q c a f d ?_);rw[s,zr ae,yn]
 |k+1,j,q,c,m,a,f,d,s=>by
  have u:=AX o i;have r:=AX t j;have A:=AX b<|i+j;have v:p.drop (i+j)=p.getD (i+j) 0::p.drop (i+j+1):=by
   rw[zo,z6 ae];exact yo ae
  have g:zc .i64 ((i:Int)+(j:Int))=((i+j:Nat):Int):=by rw[wr _ ae ae];omega
  have h:zc .i64 ((j:Int)+1)=((j+1:Nat):Int):=by rw[wr _ ae ae];omega
  have lo:(q++(p.drop (i+j)++zm (n-(i+y.length)) (0:Int))).length=n:=by simp;omega
  have D:(q++(p.drop (i+j)++zm (n-(i+y.length)) (0:Int))).getD (i+j) 0=p.getD (i+j) 0:=by
   rw[v,qf];exact DU _ _ _ _ a
  have s1:∀z,(q++(p.drop (i+j)++zm (n-(i+y.length)) (0:Int))).set (i+j) z=(q++[z])++(p.drop (i+(j+1))++zm (n-(i+y.length)) 0):=by
   intro z;rw[v,qf,DD _ _ _ _ a,qc];rfl
  obtain⟨M,H,L,C,I,B⟩:=fG u r A d;refine yj (AJ ..) (ze (by simp;omega) ?_);rw[g,h,zl,zl,D,s1,C];have t1:(decide ((0:Int)<=((i+j:Nat):Int))&&decide (((i+j:Nat):Int)<(n:Int)))=true:=by simp;omega
  refine ze (by simp;omega) (ze (by rw[u,r];rfl)<|ze t1<|ze (w4<|by rw[lo];omega) (ze (by rw[M,A];rfl)<|ze (by rw[H,d];rfl)<|ze t1<|ze (w4<|by rw[lo];omega) ?_));refine A0 x y n i F E e l o t p hp b w k (j+1) _ _ ae (by simp;omega) (Ei f L) I ?_;have K:i+(j+1)=(i+j)+1:=ae
  have J:(Ao:Int)^i*(x.getD i 0*((Ao:Int)^j*y.getD j 0))=(Ao:Int)^(i+j)*(x.getD i 0*y.getD j 0):=by
   rw[Int.pow_add,zp,Int.mul_left_comm<|x.getD i 0]
  rw[K,Fe,a,LG,qd, <-z7,B,AH _ p<|i+j,AH _ y j,z7,z7,z7<|x.getD i 0,z7,J];omega
theorem Aq(x y:List Int)(n:Nat)(f:n=x.length+y.length)(a:x.length<=9000)(d:y.length<=9000)(l:Aw Ao x)(o:Aw Ao y)(m:∀ob,Q (.dat Dz<|Bv<|As x*As y) ob):∀(k i:Nat) (p:List Int),i+k=x.length->p.length=i+y.length->Aw Ao p->zy Ao p=zy Ao (x.take i)*zy Ao y->
  Ends Lv (L1 y n x x.length i<|p++zm (n-(i+y.length)) 0) Q
 |0,i,p,j,hp,b,e=>by
  have j:i=x.length:=ae
  subst j;have r:p++zm (n-(x.length+y.length)) (0:Int)=p:=by rw[f,Nat.sub_self];simp
  have g:As p=As x*As y:=by
   rw[yn]at e;exact e
  rw[r];refine yj (Al ..) (yh (by simp) ?_);rw[zr ae];refine ze ?_<|zg ?_
  ·rw[Ep ae b];simp;omega
  ·rw[LC b,g];exact m _
 |k+1,i,p,j,hp,b,e=>by
  refine yj (Al ..) (ze (by simp;omega) ?_);rw[zl];refine ze (by simp;omega) ?_;have h0:zy Ao (p.take<|i+y.length)=zy Ao p:=by rw[zr ae]
  have:=A0 (Q:=Q) x y n i ae f a d l o p hp b (fun q c s h t g=>by
   have:=Aq x y n f a d l o m k (i+1) (q++[c]) ae (by simp;omega) (Ei h t) (by
    rw[Fe,s,g,e,AH,zx,zp])
   rw[show i+1+y.length=i+y.length+1 by omega]at this;exact this) y.length 0 (p.take i) 0 ae (by simp;omega) (AQ b i) rfl (by simp[zy])
  rw[Nat.add_zero, <-qc,List.take_append_drop]at this;exact this
theorem ok(b:∀g sp,Lv.sp g=some sp->Af A9 g sp):Af A9 181 oH:=by
 refine Hp (X:=Lv) rfl b (d:=9) ag ag ag (fun(i:List Int×List Int) a=>?_) (Be ag);obtain⟨x,y⟩:=i;have a:(Sp.hW x&&Sp.hW y)=true:=a;rw[zf]at a;obtain⟨x1,x2⟩:=Zv a.1;obtain⟨y1,y2⟩:=Zv a.2;have f:∀ob,Ad oH (x,y) (.dat Dz<|Bv<|As x*As y) ob:=fun ob=>zu rfl rfl rfl
 have c:zc .i64 ((x.length:Int)+(y.length:Int))=((x.length+y.length:Nat):Int):=by rw[wr _ ae ae];omega
 refine yf (Ak x y) ?_;conv=>zeta
 rw[c,zl];refine ze (by simp;omega) ?_;have:=Aq x y (x.length+y.length) rfl x1 y1 x2 y2 f x.length 0 (zm y.length 0) ae (by simp) (fun d e=>by
  obtain⟨_,rfl⟩:=List.mem_replicate.1 e;exact⟨by decide,by decide⟩) (by rw[Mg];simp[zy])
 rw[Nat.zero_add,List.replicate_append_replicate,show y.length+(x.length+y.length-y.length)=x.length+y.length by omega]at this;exact this
end T181
theorem FI:Dg Lv:=
 Aa T178.ok (Aa T208.ok<|Aa T217.ok<|Aa T209.ok<|Aa T177.ok AI)
theorem T7:Dg XI2:=
 Aa (T179.ok FI) (Aa (T180.ok FI)<|Aa (T186.ok FI)<|Aa (T188.ok FI)<|Aa T187.ok<|Aa (T181.ok FI)<|Aa T177.ok<|Aa T178.ok AI)
end Go.Pe
namespace Go.Sp
def Bb(a:AG):Bool:=C5 a&&decide (a.2.length<=9000)
def dE(a b:AG):Int:=Cg (vI a)<|vI b
def Ic(a:AG):Int:=Mo<|vI a
end Go.Sp
namespace Go.Pe
open Sp
open Go.Det
def RK:An:=⟨[AY],fun a=>Sp.C5 a,[AY],fun a=>(Ef a,Eg a),false⟩
def xQ:An:=⟨[AY],fun a=>Sp.C5 a,[AY],fun a=>(Pr a,Qt a),false⟩
def KO:An:=⟨[AY],fun a=>Sp.C5 a,[i64],fun a=>Ic a,false⟩
def OL:An:=⟨[AY,AY],fun i=>Bb i.1&&Bb i.2,[AY],fun i=>(J7 i.1 i.2,JZ i.1 i.2),false⟩
def iT:An:=⟨[AY,AY],fun i=>Bb i.1&&Bb i.2,[AY],fun i=>(ZE i.1 i.2,ZC i.1 i.2),false⟩
def RR:An:=⟨[AY,AY],fun i=>Bb i.1&&Bb i.2,[AY],fun i=>(Fx i.1 i.2,Fv i.1 i.2),false⟩
def nG:An:=⟨[AY,AY],fun i=>Bb i.1&&Bb i.2,[i64],fun i=>dE i.1 i.2,false⟩
def XJ1:AT:=X7 [(143,RK),(139,OL)]
def XJ2:AT:=X7 [(160,iT),(161,KO)]
section
open List Int Prod
namespace T143
def T(a:AG):Tr:=tree XI2 false 9 143<|Ae ([AY]) a
theorem Ak(a:AG):T a=let c:=Bv<|Ag<|Sp.vI a;let b':=Sp.sg (!decide (Sp.vI a<0))<|As c;let b:Tr:=.ck (Sp.C5 a)<|.ck (Cm c)<|.leaf (yp [.dat i64<|C0 b',.dat wU<|CZ b']) [];.ite (!decide (0<length (snd a))) (.ite (fst a !=(-9223372036854775808)) (.leaf (yp [.dat i64<|zc .i64<|0-fst a,.nil]) []) b) b:=by kernel_rfl
end T143
namespace T139
def T(a b:AG):Tr:=tree XI2 false 9 139<|Ae ([AY,AY]) (a,b)
theorem Ak(a b:AG):T a b=let b':=Bv<|Ag<|Sp.vI a;let c:=Bv<|Ag<|Sp.vI b;let e:=Bv<|As b'+As c;let h':=Bv<|As b'-As c;let h:=Bv<|As c-As b';let f:=Sp.sg (decide (Sp.vI a<0))<|As e;let g:=Sp.sg (decide (Sp.vI a<0))<|As h';let i:=Sp.sg (decide (Sp.vI b<0))<|As h;let d:Tr:=.ck (Sp.C5 a)<|.ck (Sp.C5 b)<|.ite (decide (Sp.vI a<0)==decide (Sp.vI b<0)) (.ck (Sp.hW b'&&Sp.hW c)<|.ck (Cm e)<|.leaf (yp [.dat i64<|C0 f,.dat wU<|CZ f]) [])<|.ck (Cm b'&&Cm c)<|.di (Cg (As b') (As c)>=0) (.ck (C3 b'&&C3 c&&decide (As c<=As b'))<|.ck (Cm h')<|.leaf (yp [.dat i64<|C0 g,.dat wU<|CZ g]) [])<|.ck (C3 c&&C3 b'&&decide (As b'<=As c))<|.ck (Cm h)<|.leaf (yp [.dat i64<|C0 i,.dat wU<|CZ i]) [];.ite (!decide (0<length (snd a))) (.ite (!decide (0<length (snd b))) (.ite (decide (zc .i64 (fst a+fst b)>fst a)==decide (fst b>0)) (.leaf (yp [.dat i64<|zc .i64<|fst a+fst b,.nil]) []) d) d) d:=by kernel_rfl
end T139
namespace T127
def T(a b:AG):Tr:=tree XI2 false 9 127<|Ae ([AY,AY]) (a,b)
theorem Ak(a b:AG):T a b=let c:=Ag<|fst a;let d:=Ag<|fst b;let h:=Bv<|Ag<|Sp.vI a;let f:=Bv<|Ag<|Sp.vI b;let b':=Bv<|As h*As f;let g:=Sp.sg (!decide (Sp.vI a<0)==decide (Sp.vI b<0))<|As b';let e:Tr:=.ck (Sp.C5 a)<|.ck (Sp.C5 b)<|.ck (Sp.hW h&&Sp.hW f)<|.ck (Cm b')<|.leaf (yp [.dat i64<|C0 g,.dat wU<|CZ g]) [];.ite (!decide (0<length (snd a))) (.ite (!decide (0<length (snd b))) (.ck (CG<|fst a)<|.ck (CG<|fst b)<|.ck (Sp.u64 c&&Sp.u64 d)<|.ite (Rq c d==0) (.di (Ir c d<=9223372036854775807) (.ite (!decide (fst a<0)==decide (fst b<0)) (.leaf (yp [.dat i64<|zc .i64<|0-zc .i64 (Ir c d),.nil]) [])<|.leaf (yp [.dat i64<|zc .i64<|Ir c d,.nil]) []) e) e) e) e:=by kernel_rfl
end T127
namespace T202
def T(a:AG):Tr:=tree XJ1 false 9 202<|Ae ([AY]) a
theorem Ak(a:AG):T a=.di (fst a<0) (.ck (Sp.C5 a)<|.leaf (yp [.dat i64<|Ef a,.dat wU<|Eg a]) []) (.leaf (yp [.dat i64<|fst a,.dat wU<|snd a]) []):=by kernel_rfl
end T202
namespace T161
def T(a:AG):Tr:=tree kB false 9 161<|Ae ([AY]) a
theorem Ak(a:AG):T a=.leaf (.dat i64<|imax (-1)<|EZ 1<|fst a) []:=by kernel_rfl
end T161
namespace T160
def T(a b:AG):Tr:=tree XJ1 false 9 160<|Ae ([AY,AY]) (a,b)
theorem Ak(a b:AG):T a b=.ck (Sp.C5 b) (.ck (Bb a&&Bb (Ef b,Eg b))<|.leaf (yp [.dat i64<|J7 a (Ef b,Eg b),.dat wU<|JZ a (Ef b,Eg b)]) []):=by kernel_rfl
end T160
namespace T105
def T(a b:AG):Tr:=tree XJ2 false 9 105<|Ae ([AY,AY]) (a,b)
theorem Ak(a b:AG):T a b=let c:Tr:=.ck (Bb a&&Bb b)<|.ck (Sp.C5 (ZE a b,ZC a b))<|.leaf (.dat i64<|Ic (ZE a b,ZC a b)) [];.ite (!decide (0<length (snd a))) (.ite (!decide (0<length (snd b))) (.di (fst a<fst b) (.leaf (.dat i64 (-1:Int)) [])<|.di (fst a>fst b) (.leaf (.dat i64 (1:Int)) [])<|.leaf (.dat i64 (0:Int)) []) c) c:=by kernel_rfl
end T105
end
theorem S6(k:Nat):((Ao^k:Nat):Int)=(Ao:Int)^k:=yk ..
theorem Kt{n:Int}{k:Nat}(h0:0<=n)(h:n<(Ao:Int)^k):(Bv n).length<=k:=by
 refine N9 Ao af k n.toNat n.toNat ?_;rw[<-S6]at h;generalize Ao^k=P at*;omega
theorem Di{n:Int}{k:Nat}(h0:0<=n)(h:n<(Ao:Int)^k)(d:k<=20000):Cm (Bv n)=true/\C3 (Bv n)=true/\As (Bv n)=n:=by
 have c:=Kt h0 h;have a:C3 (Bv n)=true:=Ep ae (FO af n);have b:Sp.nzW (Bv n)=true:=by
  unfold Sp.nzW;exact w4 (Yj af n)
 exact⟨by unfold Cm;rw[a,b];rfl,a,C9 af h0⟩
theorem BU{a:AG}(h:Bb a=true):Sp.C5 a=true/\a.2.length<=9000:=by
 unfold Bb at h;rw[zf,w5]at h;exact h
theorem XJ{s:Int}{w:List Int}(a:w≠[]):Sp.vI (s,w)=if s<0 then -As w else As w:=by unfold Sp.vI;exact wc a
theorem OG{a:AG}(h:Sp.C5 a=true):(a.2=[]/\Ag (Sp.vI a)<=9223372036854775808)\/(Bv (Ag<|Sp.vI a)=a.2):=by
 obtain⟨hr,b⟩:=D5 h;obtain⟨s,w⟩:=a;have hr: -9223372036854775808<=s/\s<9223372036854775808:=hr;rcases b with b|⟨f,e,c⟩
 ·have b:w=[]:=b;subst b;refine .inl ⟨rfl,?_⟩;rw[EW];simp only[Ai];omega
 ·obtain⟨n1,j,i⟩:=Fu (l:=w) f;have e:s=1\/s= -1:=e;have c:9223372036854775808<=As w:=c;have d:w≠[]:=by rintro rfl;exact wh c af
  refine .inr ?_;have g:Ag (Sp.vI (s,w))=As w:=by rw[XJ d];simp only[Ai];split<;>omega
  rw[g];exact(Jc af j i).symm
theorem AK(n:Int):0<=Ag n:=by simp only[Ai];omega
theorem IT{a:AG}(h:Sp.C5 a=true){k:Nat}(g:a.2.length<=k)(c:1<=k):Ag (Sp.vI a)<(Ao:Int)^k:=by
 rcases OG h with⟨_,e⟩|he
 ·have:=AM (b:=Ao) af c;rw[Int.pow_one]at this;have d:(9223372036854775808:Int)<(Ao:Int):=af
  exact yd e<|Int.lt_of_lt_of_le d this
 ·have f:=C9 (b:=Ao) af<|AK<|Sp.vI a;have:=Bs (b:=Ao) af (FO (b:=Ao) af<|Ag<|Sp.vI a);rw[f,show Sp.dg Ao (Ag<|Sp.vI a)=a.2 from he]at this;exact Int.lt_of_lt_of_le this (AM af g)
theorem MD{x y:Int}(d:0<=x)(g:x<(Ao:Int)^9000)(h:y<(Ao:Int)^9000):x+y<(Ao:Int)^9001/\x*y<(Ao:Int)^18000:=by
 have f:(Ao:Int)^9001=(Ao:Int)^9000*Ao:=yy ..;have e:(Ao:Int)^18000=(Ao:Int)^9000*(Ao:Int)^9000:=Int.pow_add _ 9000 9000;rw[f,e];generalize (Ao:Int)^9000=P at*;refine⟨?_,?_⟩
 ·show x+y<P*18446744073709551616;omega
 ·have a:=z8 (show y<=P-1 by omega) d;have b:=zi (show x<=P-1 by omega) (show 0<=P-1 by omega);have c:(P-1)*(P-1)=P*P-P-P+1:=by
   rw[Int.sub_mul,qo];omega
  omega
theorem DL(n:Bool)(v:Int):Sp.sg n v=if n=true then -v else v:=rfl
theorem CH(n:Int):Sp.vI (C8 n)=n:=by
 unfold C8;split
 ·exact EW
 ·have a:=C9 (b:=Ao) af<|AK n;have c:Bv (Ag n)≠[]:=by
   intro h;rw[show Sp.dg Ao (Ag n)=[]from h]at a;have:(0:Int)=Ag n:=a;simp only[Ai]at this;omega
  rw[XJ c,show As (Bv<|Ag n)=Ag n from a];simp only[Ai];split<;>split<;>omega
theorem Zg{a:AG}{c:Bool}(h:(!decide (0<a.2.length))=c):(c=true->a.2=[])/\(c=false->a.2≠[]):=by
 subst h;rcases a with⟨s,w⟩
 cases w<;>simp
theorem Pm{a:AG}(h:(!decide (0<a.2.length))=true):a.2=[]:=(Zg h).1 rfl
theorem mY{a:AG}(h:(!decide (0<a.2.length))=false):a.2≠[]:=(Zg h).2 rfl
theorem Bo{a:AG}(h:a.2=[]):Sp.vI a=a.1:=by unfold Sp.vI;exact wd h
theorem words{a:AG}(h:Bb a=true):Sp.C5 a=true/\Sp.hW (Bv<|Ag<|Sp.vI a)=true/\Cm (Bv<|Ag<|Sp.vI a)=true/\C3 (Bv<|Ag<|Sp.vI a)=true/\As (Bv<|Ag<|Sp.vI a)=Ag (Sp.vI a)/\Ag (Sp.vI a)<(Ao:Int)^9000:=by
 obtain⟨c,e⟩:=BU h;have b:=IT c e ae;obtain⟨n,d,v⟩:=Di (AK _) b ae;have f:=Kt (AK _) b;refine⟨c,?_,n,d,v,b⟩;unfold Sp.hW;rw[d,yb];exact w4 f
theorem Ab{a b:Bool}(c:a=true)(d:b=true):(a&&b)=true:=by rw[c,d];rfl
theorem wn{i:Nat}(h:i<9223372036854775807):zc .i64 ((i:Int)+1)=((i+1:Nat):Int):=by rw[wr _ ae ae];omega
theorem ad{p q:Prop}[Decidable p][Decidable q](a:p)(b:q):(decide p&&decide q)=true:=Ab (w4 a)<|w4 b
theorem nb{i n:Nat}(h:i<n):(decide ((0:Int)<=(i:Int))&&decide ((i:Int)<(n:Int)))=true:=ad ae ae
theorem Lw(n:Int):Sp.Mo n=if n<0 then -1 else if n>0 then 1 else 0:=rfl
theorem zY{a:AG}(h:Sp.C5 a=true):imax (-1) (EZ 1 a.1)=Sp.Mo (Sp.vI a):=by
 obtain⟨hr,b⟩:=D5 h;obtain⟨s,w⟩:=a;rcases b with b|⟨g,f,c⟩
 ·have b:w=[]:=b;subst b;rw[EW,Lw,jJ];show imax (-1) (if (1:Int)<=s then 1 else s)=_;unfold imax;split<;>split<;>split<;>(try split)<;>omega
 ·have f:s=1\/s= -1:=f;have c:9223372036854775808<=As w:=c;have d:w≠[]:=by rintro rfl;exact wh c af
  rw[XJ d,Lw];rcases f with rfl|rfl
  ·have e:(if (1:Int)<0 then -As w else As w)=As w:=wc af;rw[e,wc (show ¬As w<0 by omega),wd<|show As w>0 by omega];show imax (-1) (EZ 1 1)=1;decide
  ·have e:(if (-1:Int)<0 then -As w else As w)= -As w:=wd af;rw[e,wd<|show -As w<0 by omega];show imax (-1) (EZ 1<| -1)= -1;decide
namespace T143
theorem ok:Af A9 143 RK:=by
 refine BN T7<|fun(a:Int×List Int) b=>?_;have b:Sp.C5 a=true:=b;have e:Cm (Bv<|Ag<|Sp.vI a)=true/\As (Bv<|Ag<|Sp.vI a)=Ag (Sp.vI a):=by
  refine⟨?_,C9 af<|AK _⟩;rcases OG b with⟨_,j⟩|he
  ·have:(9223372036854775808:Int)<(Ao:Int)^1:=af
   exact(Di (AK _) (yd j this) ae).1
  ·obtain⟨_,f⟩:=D5 b;rw[he];rcases f with f|⟨i,_⟩
   ·rw[f];decide+kernel
   ·exact i
 have g:Sp.sg (!decide (Sp.vI a<0)) (As<|Bv<|Ag<|Sp.vI a)= -Sp.vI a:=by
  rw[e.2,DL,Ai];rcases zw (Sp.vI a) 0 with h|h
  ·rw[w4 h];simp;omega
  ·rw[w8 ae];simp;omega
 have hr:=(D5 b).1;refine yf (Ak a)<|zk (fun c=>zk (fun d=>zg<|zu rfl rfl ?_)<|fun d=>ze b<|ze e.1<|zg<|zu rfl rfl ?_)<|fun c=>ze b<|ze e.1<|zg<|zu rfl rfl ?_
 ·have c:=Pm c;have d:a.1≠ -9223372036854775808:=by simpa using d
  show(zc .i64<|0-a.1,[])=Ck a;unfold Ck;rw[wd ⟨c,d⟩,wr _ ae ae,Int.zero_sub]
 ·have d:a.1= -9223372036854775808:=by simpa using d
  show C8 (Sp.sg (!decide (Sp.vI a<0))<|As<|Bv<|Ag<|Sp.vI a)=Ck a;unfold Ck;rw[wc<|fun h=>h.2 d,g]
 ·have c:=mY c;show C8 (Sp.sg (!decide (Sp.vI a<0))<|As<|Bv<|Ag<|Sp.vI a)=Ck a;unfold Ck;rw[wc<|fun h=>c h.1,g]
end T143
namespace T139
theorem ok:Af A9 139 OL:=by
 refine BN T7<|fun(i:(Int×List Int)×(Int×List Int)) n=>?_;obtain⟨a,b⟩:=i;have n:(Bb a&&Bb b)=true:=n;rw[zf]at n;obtain⟨a1,a2,a3,a4,a5,a6⟩:=words n.1;obtain⟨b1,b2,b3,b4,b5,b6⟩:=words n.2;have A:=(D5 a1).1;have x:=(D5 b1).1;have B:=AK<|Sp.vI a;have nb:=AK<|Sp.vI b;obtain⟨t1,_⟩:=MD B a6 b6;have r:∀v ob,EO a b=C8 v->Ad OL (a,b) (.agg [.dat i64<|C0 v,.dat (.nlist<|.int .u64)<|CZ v]) ob:=fun v ob h=>zu rfl rfl (by
  show C8 v=EO a b;rw[h])
 have mono:(Ao:Int)^9000<=(Ao:Int)^9001:=AM af ae;have j:decide (Sp.vI a<0)=decide (Sp.vI b<0)->Sp.sg (decide (Sp.vI a<0)) (As<|Bv<|As (Bv<|Ag<|Sp.vI a)+As (Bv<|Ag<|Sp.vI b))=Sp.vI a+Sp.vI b:=by
  intro e;rw[a5,b5,show As (Bv<|Ag (Sp.vI a)+Ag (Sp.vI b))=_ from C9 af ae,DL,Ai,Ai];rcases zw (Sp.vI a) 0 with h|h
  ·rw[w4 h]at e ⊢;have:=w6 e.symm;simp only[wk];omega
  ·rw[w8 ae]at e ⊢;have:=w7 e.symm;simp only[y8,vg];omega
 have k:decide (Sp.vI a<0)≠decide (Sp.vI b<0)->Ag (Sp.vI b)<=Ag (Sp.vI a)->Sp.sg (decide (Sp.vI a<0)) (As<|Bv<|As (Bv<|Ag<|Sp.vI a)-As (Bv<|Ag<|Sp.vI b))=Sp.vI a+Sp.vI b:=by
  intro e q;rw[a5,b5,show As (Bv<|Ag (Sp.vI a)-Ag (Sp.vI b))=_ from C9 af ae,DL,Ai,Ai];rcases zw (Sp.vI a) 0 with h|h
  ·rw[w4 h]at e ⊢;have:¬Sp.vI b<0:=fun h=>e (w4 h).symm
   simp only[wk];omega
  ·rw[w8 ae]at e ⊢;have:Sp.vI b<0:=by
    rcases zw (Sp.vI b) 0 with h|h
    ·exact h
    ·exact wh (w8 ae).symm e
   simp only[y8,vg];omega
 have l:decide (Sp.vI a<0)≠decide (Sp.vI b<0)->Ag (Sp.vI a)<=Ag (Sp.vI b)->Sp.sg (decide (Sp.vI b<0)) (As<|Bv<|As (Bv<|Ag<|Sp.vI b)-As (Bv<|Ag<|Sp.vI a))=Sp.vI a+Sp.vI b:=by
  intro e q;rw[a5,b5,show As (Bv<|Ag (Sp.vI b)-Ag (Sp.vI a))=_ from C9 af ae,DL,Ai,Ai];rcases zw (Sp.vI b) 0 with h|h
  ·rw[w4 h]at e ⊢;have:¬Sp.vI a<0:=fun h=>e<|w4 h
   simp only[wk];omega
  ·rw[w8<|show ¬Sp.vI b<0 by omega]at e ⊢;have:Sp.vI a<0:=by
    rcases zw (Sp.vI a) 0 with h|h
    ·exact h
    ·exact wh (w8 ae) e
   simp only[y8,vg];omega
 have n1:Cm (Bv<|As (Bv<|Ag<|Sp.vI a)+As (Bv<|Ag<|Sp.vI b))=true:=by
  rw[a5,b5];exact(Di ae t1 ae).1
 have y:Ag (Sp.vI b)<=Ag (Sp.vI a)->Cm (Bv<|As (Bv<|Ag<|Sp.vI a)-As (Bv<|Ag<|Sp.vI b))=true:=by
  intro h;rw[a5,b5];exact(Di ae (yd ae a6) ae).1
 have z:Ag (Sp.vI a)<=Ag (Sp.vI b)->Cm (Bv<|As (Bv<|Ag<|Sp.vI b)-As (Bv<|Ag<|Sp.vI a))=true:=by
  intro h;rw[a5,b5];exact(Di ae (yd ae b6) ae).1
 have f:∀ {c:Bool},decide (Cg (As<|Bv<|Ag<|Sp.vI a) (As<|Bv<|Ag<|Sp.vI b)>=0)=c->(c=true->Ag (Sp.vI b)<=Ag (Sp.vI a))/\(c=false->Ag (Sp.vI a)<=Ag (Sp.vI b)):=by
  intro c h;subst h;rw[a5,b5,w5,w9];unfold Cg;constructor
  ·intro h;split at h<;>omega
  ·intro h;split at h
   ·omega
   ·split at h<;>omega
 refine yf (Ak a b)<|zk (fun o=>zk (fun m=>zk (fun g=>zg<|zu rfl rfl ?_)<|fun g=>?_)<|fun m=>?_)<|fun o=>?_
 ·have o:=Pm o;have m:=Pm m;have p:zc .i64 (a.1+b.1)=a.1+b.1:=by
   rw[wj]at g;rcases zw (a.1+b.1) (-9223372036854775808)with h|h
   ·exfalso;have e:zc .i64 (a.1+b.1)=a.1+b.1+18446744073709551616:=by rw[qg];omega
    rw[e,w4 ae,w8 ae]at g;cases g
   ·rcases zw (a.1+b.1) 9223372036854775808 with s|s
    ·exact wr _ ae ae
    ·exfalso;have e:zc .i64 (a.1+b.1)=a.1+b.1-18446744073709551616:=by rw[qg];omega
     rw[e,w8 ae,w4 ae]at g;cases g
  have hr:CG (a.1+b.1)=true:=by
   have: -9223372036854775808<=zc .i64 (a.1+b.1)/\zc .i64 (a.1+b.1)<9223372036854775808:=by rw[qg];omega
   rw[p]at this;unfold CG;rw[zf,w5,w5];exact this
  show(zc .i64<|a.1+b.1,[])=EO a b;unfold EO;rw[wd ⟨o,m,hr⟩,p]
 all_goals
  have t:EO a b=C8 (Sp.vI a+Sp.vI b):=by
   unfold EO;refine wc<|fun h=>?_;obtain⟨w,s,u⟩:=h;first
    |exact mY o w
    |exact mY m s
    |(have u:=Et u
      have p:zc .i64 (a.1+b.1)=a.1+b.1:=wr _ ae ae;rw[p,vc]at g;refine g ?_;rcases zw 0 b.1 with h|h
      ·rw[w4 (show a.1+b.1>a.1 by omega),w4 h]
      ·rw[w8 (show ¬a.1+b.1>a.1 by omega),w8<|show ¬b.1>0 by omega])
  refine ze a1<|ze b1<|zk (fun e=>ze (Ab a2 b2)<|ze n1<|zg<|r _ _ ?_)<|fun e=>ze (Ab a3 b3)<|zk (fun d=>ze ?_<|ze (y<|(f d).1 rfl)<|zg<|r _ _ ?_)<|fun d=>ze ?_<|ze (z<|(f d).2 rfl)<|zg<|r _ _ ?_
  ·rw[t];exact wi _ (j<|by simpa using e).symm
  ·refine Ab (Ab a4 b4)<|w4 ?_;rw[a5,b5];exact(f d).1 rfl
  ·rw[t];exact wi _ (k (by simpa using e)<|(f d).1 rfl).symm
  ·refine Ab (Ab b4 a4)<|w4 ?_;rw[a5,b5];exact(f d).2 rfl
  ·rw[t];exact wi _ (l (by simpa using e)<|(f d).2 rfl).symm
end T139
theorem DZ{n:Int}(a: -9223372036854775808<=n)(b:n<9223372036854775808):CG n=true:=by
 unfold CG;rw[zf,w5,w5];exact⟨a,b⟩
theorem Lb{n:Int}(h:CG n=true):Sp.C5 (n,[])=true:=by
 unfold Sp.C5;rw[h];rfl
theorem NZ{n:Int}{k:Nat}(h:Ag n<(Ao:Int)^k)(b:k<=20000):Sp.C5 (C8 n)=true/\(C8 n).2.length<=k:=by
 unfold C8;split
 ·next c=>exact⟨Lb (DZ ae ae),Nat.zero_le _⟩
 ·next c=>
  obtain⟨n1,e,d⟩:=Di (AK n) h b;refine⟨?_,Kt (AK n) h⟩;have a:9223372036854775808<=Ag n:=by rw[Ai];omega
  unfold Sp.C5;refine Ab (DZ ?_ ?_) ?_
  ·show -9223372036854775808<=(if n<0 then -1 else 1);split<;>decide
  ·show(if n<0 then -1 else 1)<9223372036854775808;split<;>decide
  ·rw[ql];refine .inr (Ab (Ab n1 ?_) (w4<|by show _<=As (Bv<|Ag n);rw[d];exact a));show(decide ((if n<0 then(-1:Int)else 1)=1)||decide ((if n<0 then(-1:Int)else 1)= -1))=true;split<;>rfl
theorem HH(a:AG):Sp.vI (Ck a)= -Sp.vI a:=by
 unfold Ck;split
 ·next h=>rw[EW,Bo h.1]
 ·exact CH _
theorem II(n:Int):Ag (-n)=Ag n:=by rw[Ai,Ai];omega
theorem Sl{a:AG}(h:Sp.C5 a=true){k:Nat}(b:1<=k)(e:k<=20000)(d:a.2.length<=k):Sp.C5 (Ck a)=true/\(Ck a).2.length<=k:=by
 have hr:=(D5 h).1;unfold Ck;split
 ·next c=>exact⟨Lb (DZ ae ae),Nat.zero_le _⟩
 ·exact NZ (by rw[II];exact IT h d b) e
theorem UA{a:AG}(h:Bb a=true):Bb (Ck a)=true:=by
 obtain⟨c,b⟩:=BU h;obtain⟨h3,h4⟩:=Sl c (k:=9000) ae ae b;unfold Bb;exact Ab h3<|w4 h4
theorem vV{a:AG}(h:Sp.C5 a=true):a.1<0↔Sp.vI a<0:=by
 obtain⟨_,b⟩:=D5 h;obtain⟨s,w⟩:=a;rcases b with b|⟨_,e,c⟩
 ·have b:w=[]:=b;subst b;rw[EW]
 ·have e:s=1\/s= -1:=e;have c:9223372036854775808<=As w:=c;have d:w≠[]:=by rintro rfl;exact wh c af
  rw[XJ d];show s<0↔_;split<;>omega
theorem WW(a b:AG):Sp.vI (EO a b)=Sp.vI a+Sp.vI b:=by
 unfold EO;split
 ·next h=>rw[EW,Bo h.1,Bo h.2.1]
 ·exact CH _
theorem sL(x y:Int):Ag (x+y)<=Ag x+Ag y:=by
 rw[Ai,Ai,Ai];omega
theorem Jj(x y:Int):Ag (x*y)=Ag x*Ag y:=by
 rw[Ai,Ai,Ai,Int.natAbs_mul,yq]
theorem bounds{a:AG}(h:Bb a=true):Ag (Sp.vI a)<(Ao:Int)^9000:=(words h).2.2.2.2.2
theorem TZ{a b:AG}(d:Bb a=true)(c:Bb b=true):Sp.C5 (EO a b)=true:=by
 unfold EO;split
 ·next h=>exact Lb h.2.2
 ·exact(NZ (yd (sL _ _) (MD (AK _) (bounds d)<|bounds c).1) ae).1
theorem lO(a b:AG):Sp.vI (NI a b)=Sp.vI a-Sp.vI b:=by
 unfold NI;rw[WW,HH];omega
theorem DK(a b:AG):Sp.vI (FB a b)=Sp.vI a*Sp.vI b:=CH _
theorem Yt:Dg XJ1:=
 Aa T143.ok (Aa T139.ok AI)
namespace T161
theorem ok:Af A9 161 KO:=by
 refine BN JH<|fun(a:Int×List Int) b=>?_;have b:Sp.C5 a=true:=b;exact yf (Ak a)<|zg<|zu rfl rfl (zY b)
end T161
namespace T202
theorem ok:Af A9 202 xQ:=by
 refine BN Yt<|fun(a:Int×List Int) b=>?_;have b:Sp.C5 a=true:=b;refine yf (Ak a)<|zk (fun c=>ze b<|zg<|zu rfl rfl ?_)<|fun c=>zg<|zu rfl rfl ?_
 ·show Ck a=Vs a;unfold Vs;rw[wd<|w6 c]
 ·show a=Vs a;unfold Vs;rw[wc<|w7 c]
end T202
namespace T160
theorem ok:Af A9 160 iT:=by
 refine BN Yt<|fun(i:(Int×List Int)×(Int×List Int)) c=>?_;obtain⟨a,b⟩:=i;have c:(Bb a&&Bb b)=true:=c;rw[zf]at c;exact yf (Ak a b)<|ze (BU c.2).1<|ze (Ab c.1<|UA c.2)<|zg<|zu rfl rfl rfl
end T160
theorem vD:Dg XJ2:=
 Aa T160.ok (Aa T161.ok AI)
theorem vN(x y:Int):Sp.Mo (x-y)=Cg x y:=by
 unfold Sp.Mo Cg;split
 ·rw[wd ae]
 ·split
  ·rw[wc ae,wd ae]
  ·rw[wc ae,wc ae]
namespace T105
theorem ok:Af A9 105 nG:=by
 refine BN vD<|fun(i:(Int×List Int)×(Int×List Int)) f=>?_;obtain⟨a,b⟩:=i;have f:(Bb a&&Bb b)=true:=f;have c:=f;rw[zf]at c;have h:Sp.C5 (NI a b)=true:=by
  unfold NI;exact TZ c.1<|UA c.2
 have g:Ic (NI a b)=dE a b:=by
  show Sp.Mo (Sp.vI<|NI a b)=Cg (Sp.vI a) (Sp.vI b);rw[lO,vN]
 refine yf (Ak a b)<|zk (fun j=>zk (fun k=>zk (fun d=>zg<|zu rfl rfl ?_)<|fun d=>zk (fun e=>zg<|zu rfl rfl ?_)<|fun e=>zg<|zu rfl rfl ?_)<|fun k=>ze f<|ze h<|zg<|zu rfl rfl g)<|fun j=>ze f<|ze h<|zg<|zu rfl rfl g;all_goals
  have m:=Bo<|Pm j;have l:=Bo<|Pm k;show _=Cg (Sp.vI a) (Sp.vI b);rw[m,l];unfold Cg
 ·rw[wd<|w6 d]
 ·rw[wc<|w7 d,wd<|w6 e]
 ·rw[wc<|w7 d,wc<|w7 e]
end T105
theorem SX(x y:Int):x*y=Sp.sg (!(decide (x<0)==decide (y<0))) (Ag x*Ag y):=by
 unfold Ag;rw[DL];by_cases a:x<0<;>by_cases b:y<0<;>simp[a,b,Int.neg_mul,Int.mul_neg]
namespace T127
theorem ok:Af A9 127 RR:=by
 refine BN T7<|fun(i:(Int×List Int)×(Int×List Int)) f=>?_;obtain⟨a,b⟩:=i;have f:(Bb a&&Bb b)=true:=f;rw[zf]at f;obtain⟨a1,a2,a3,a4,a5,a6⟩:=words f.1;obtain⟨b1,b2,b3,b4,b5,b6⟩:=words f.2;have j:=(D5 a1).1;have g:=(D5 b1).1;have o:=AK<|Sp.vI a;have nb:=AK<|Sp.vI b;obtain⟨_,t2⟩:=MD o a6 b6;have np:0<=Ag (Sp.vI a)*Ag (Sp.vI b):=zq o nb;have n1:Cm (Bv<|As (Bv<|Ag<|Sp.vI a)*As (Bv<|Ag<|Sp.vI b))=true:=by
  rw[a5,b5];exact(Di np t2 ae).1
 have r:Sp.sg (!(decide (Sp.vI a<0)==decide (Sp.vI b<0))) (As<|Bv<|As (Bv<|Ag<|Sp.vI a)*As (Bv<|Ag<|Sp.vI b))=Sp.vI a*Sp.vI b:=by
  rw[a5,b5,show As (Bv<|Ag (Sp.vI a)*Ag (Sp.vI b))=_ from C9 af np, <-SX]
 have q:∀ob,Ad RR (a,b) (.agg [.dat i64<|C0<|Sp.sg (!(decide (Sp.vI a<0)==decide (Sp.vI b<0)))<|As<|Bv<|As (Bv<|Ag<|Sp.vI a)*As (Bv<|Ag<|Sp.vI b),.dat (.nlist<|.int .u64)<|CZ<|Sp.sg (!(decide (Sp.vI a<0)==decide (Sp.vI b<0)))<|As<|Bv<|As (Bv<|Ag<|Sp.vI a)*As (Bv<|Ag<|Sp.vI b)]) ob:=fun ob=>zu rfl rfl (by
  show C8 _=C8 (Sp.vI a*Sp.vI b);rw[r])
 have p:Sp.u64 (Ag a.1)=true:=CX (AK _) (by rw[Ai];omega);have ub:Sp.u64 (Ag b.1)=true:=CX (AK _) (by rw[Ai];omega);refine yf (Ak a b)<|zk (fun n=>zk (fun l=>ze (DZ j.1 j.2)<|ze (DZ g.1 g.2)<|ze (Ab p ub)<|zk (fun d=>zk (fun e=>zk (fun c=>zg<|zu rfl rfl ?_)<|fun c=>zg<|zu rfl rfl ?_)<|fun e=>?_)<|fun d=>?_)<|fun l=>?_)<|fun n=>?_
 ·have m:=Bo<|Pm n;have k:=Bo<|Pm l;have d:(Ag a.1*Ag b.1)/18446744073709551616=0:=by simpa [Rq]using d
  have e:(Ag a.1*Ag b.1) % 18446744073709551616<=9223372036854775807:=w6 e;have p0:0<=Ag a.1*Ag b.1:=zq (AK _)<|AK _;have h:=SX a.1 b.1;have c:(!(decide (a.1<0)==decide (b.1<0)))=true:=c;rw[c,DL,wd rfl]at h;show(zc .i64<|0-zc .i64 ((Ag a.1*Ag b.1) % 18446744073709551616),[])=C8 (Sp.vI a*Sp.vI b);rw[m,k,h,Cb ae,wr ((Ag a.1*Ag b.1) % 18446744073709551616) ae ae,wr _ ae ae];congr 1;omega
 ·have m:=Bo<|Pm n;have k:=Bo<|Pm l;have d:(Ag a.1*Ag b.1)/18446744073709551616=0:=by simpa [Rq]using d
  have e:(Ag a.1*Ag b.1) % 18446744073709551616<=9223372036854775807:=w6 e;have p0:0<=Ag a.1*Ag b.1:=zq (AK _)<|AK _;have h:=SX a.1 b.1;have c:(!(decide (a.1<0)==decide (b.1<0)))=false:=c;rw[c,DL,wc af]at h;show(zc .i64<|(Ag a.1*Ag b.1) % 18446744073709551616,[])=C8 (Sp.vI a*Sp.vI b);rw[m,k,h,Cb ae,wr ((Ag a.1*Ag b.1) % 18446744073709551616) ae ae];congr 1;omega
 all_goals exact ze a1<|ze b1<|ze (Ab a2 b2)<|ze n1<|zg<|q _
end T127
end Go.Pe
namespace Go.Sp
def Fo(n:Int):Int:=if n<=0 then 0 else(n.toNat.log2:Int)+1
def lz(n:Int):Int:=64-Fo n
def dq(h l y:Int):Int:=(h*18446744073709551616+l)/y
def dr(h l y:Int):Int:=(h*18446744073709551616+l) % y
end Go.Sp
namespace Go.Pe
open Go.Det
def X1:An:=⟨[u64],fun n=>Sp.u64 n,[i64],fun n=>Sp.Fo n,false⟩
def cLZ:An:=⟨[u64],fun n=>Sp.u64 n,[i64],fun n=>Sp.lz n,false⟩
def TC:An:=⟨[u64,u64,u64],fun i=>Sp.u64 i.1&&Sp.u64 i.2.1&&Sp.u64 i.2.2&&decide ((i.1:Int)<i.2.2),[u64,u64],fun i=>(Sp.dq i.1 i.2.1 i.2.2,Sp.dr i.1 i.2.1 i.2.2),false⟩
def XD1:AT:=X7 [(228,X1)]
def mQ:AT:=X7 [(247,cLZ)]
section
open List Int Prod
namespace T228
def T(x:Int):Tr:=tree kB false 9 228<|Ae ([zj zd]) x
theorem Ak(x:Int):T x=let b:=([0,1,2,2,3,3,3,3,4,4,4,4,4,4,4,4,5,5,5,5,5,5,5,5,5,5,5,5,5,5,5,5,6,6,6,6,6,6,6,6,6,6,6,6,6,6,6,6,6,6,6,6,6,6,6,6,6,6,6,6,6,6,6,6,7,7,7,7,7,7,7,7,7,7,7,7,7,7,7,7,7,7,7,7,7,7,7,7,7,7,7,7,7,7,7,7,7,7,7,7,7,7,7,7,7,7,7,7,7,7,7,7,7,7,7,7,7,7,7,7,7,7,7,7,7,7,7,7,8,8,8,8,8,8,8,8,8,8,8,8,8,8,8,8,8,8,8,8,8,8,8,8,8,8,8,8,8,8,8,8,8,8,8,8,8,8,8,8,8,8,8,8,8,8,8,8,8,8,8,8,8,8,8,8,8,8,8,8,8,8,8,8,8,8,8,8,8,8,8,8,8,8,8,8,8,8,8,8,8,8,8,8,8,8,8,8,8,8,8,8,8,8,8,8,8,8,8,8,8,8,8,8,8,8,8,8,8,8,8,8,8,8,8,8,8,8,8,8,8,8,8,8,8,8,8,8]:Z);let b':=zn x<|2^32;let a:=(0:Sh.T (zj qt));let d:=zn x<|2^16;let g:=zn x<|2^8;let c:=zn b'<|2^16;let e:=zn b'<|2^8;let h':=zn d<|2^8;let f:=zn c<|2^8;.di (x>=4294967296) (.ck true<|.di (zn x (2^32)>=65536) (.ck true<|.di (zn b' (2^16)>=256) (.ck true<|.ck (decide (a<=zc .u8 f)&&decide (zc .u8 f<(↑256:Int)))<|.leaf (.dat i64<|zc .i64<|zc .i64 (zc .i64 (32+16)+8)+zc .i64 (↑(yc<|getD b (toNat<|zc .u8 f) (0:UInt8)):Int)) [])<|.ck (decide (a<=zc .u8 c)&&decide (zc .u8 c<(↑256:Int)))<|.leaf (.dat i64<|zc .i64<|zc .i64 (32+16)+zc .i64 (↑(yc<|getD b (toNat<|zc .u8 c) (0:UInt8)):Int)) [])<|.di (zn x (2^32)>=256) (.ck true<|.ck (decide (a<=zc .u8 e)&&decide (zc .u8 e<(↑256:Int)))<|.leaf (.dat i64<|zc .i64<|zc .i64 (32+8)+zc .i64 (↑(yc<|getD b (toNat<|zc .u8 e) (0:UInt8)):Int)) [])<|.ck (decide (a<=zc .u8 b')&&decide (zc .u8 b'<(↑256:Int)))<|.leaf (.dat i64<|zc .i64<|32+zc .i64 (↑(yc<|getD b (toNat<|zc .u8 b') (0:UInt8)):Int)) []) (.di (x>=65536) (.ck true<|.di (zn x (2^16)>=256) (.ck true<|.ck (decide (a<=zc .u8 h')&&decide (zc .u8 h'<(↑256:Int)))<|.leaf (.dat i64<|zc .i64<|zc .i64 (zc .i64 (0+16)+8)+zc .i64 (↑(yc<|getD b (toNat<|zc .u8 h') (0:UInt8)):Int)) [])<|.ck (decide (a<=zc .u8 d)&&decide (zc .u8 d<(↑256:Int)))<|.leaf (.dat i64<|zc .i64<|zc .i64 (0+16)+zc .i64 (↑(yc<|getD b (toNat<|zc .u8 d) (0:UInt8)):Int)) [])<|.di (x>=256) (.ck true<|.ck (decide (a<=zc .u8 g)&&decide (zc .u8 g<(↑256:Int)))<|.leaf (.dat i64<|zc .i64<|zc .i64 (0+8)+zc .i64 (↑(yc<|getD b (toNat<|zc .u8 g) (0:UInt8)):Int)) [])<|.ck (decide (a<=zc .u8 x)&&decide (zc .u8 x<(↑256:Int)))<|.leaf (.dat i64<|zc .i64<|0+zc .i64 (↑(yc<|getD b (toNat<|zc .u8 x) (0:UInt8)):Int)) []):=by kernel_rfl
end T228
namespace T247
def T(x:Int):Tr:=tree XD1 false 9 247<|Ae ([zj zd]) x
theorem Ak(x:Int):T x=.ck (Sp.u64 x) (.leaf (.dat i64<|zc .i64<|64-Sp.Fo x) []):=by kernel_rfl
end T247
namespace T246
def T(a lo y:Int):Tr:=tree mQ false 9 246<|Ae ([zj zd,zj zd,zj zd]) (a,lo,y)
def L1(v2 g v9 e c a d f b:Int):Tr:=re ((T 0 0 0).R.R.R.L.L.L.L.L.L.L.L)<|Av 135 [(2,.dat (zj zd) v2),(8,.dat (zj zd) g),(9,.dat (zj zd) v9),(10,.dat (zj zd) e),(11,.dat (zj zd) c),(13,.dat (zj zd) a),(14,.dat (zj zd) d),(15,.dat (zj zd) f),(16,.dat (zj zd) b)] [] 0
theorem Ak(b lo y:Int):T b lo y=let d:=decide (0<=zc .u64 (Sp.lz y));let g:=64-zc .u64 (Sp.lz y);let h:=zc .u64<|Sp.lz y;let c:=toNat h;let f:=zn lo<|2^qi (toNat<|zc .u64 g) 64;let a:=zc .u64<|y*2^qi c 64;let i:=zc .u64<|lo*2^qi c 64;let e:=zc .u64<|b*2^qi c 64;let b':=aL zd e f;let h':=zn a<|2^32;.ite (y==0) .fail (.di (y<=b) .fail<|.ite (b==0) (.cd (y≠0)<|.cd (y≠0)<|.leaf (.tup [.dat (zj zd)<|zc .u64<|yr lo y,.dat (zj zd)<|Int.tmod lo y]) [])<|.ck (Sp.u64 y)<|.ck d<|.ck true<|.ck d<|.cd (0<=zc .u64 g)<|.ck d<|.ck true<|.cd (zn a (2^32)≠0)<|L1 a h h' (H4 zd a 4294967295) b' (zn i<|2^32) (H4 zd i 4294967295) (zc .u64<|yr b' h')<|zc .u64<|aL zd e f-zc .u64 (zc .u64 (yr b' h')*zn a (2^32))):=by kernel_rfl
def L2(v2 g v9 d c e b f a:Int):Tr:=re ((stepT mQ<|L1 0 0 0 0 0 0 0 0 0).L.L.L)<|Av 135 [(2,.dat (zj zd) v2),(8,.dat (zj zd) g),(9,.dat (zj zd) v9),(10,.dat (zj zd) d),(14,.dat (zj zd) c),(15,.dat (zj zd) e),(16,.dat (zj zd) b),(17,.dat (zj zd) f),(18,.dat (zj zd) a)] [] 0
theorem Al(v2 g v9 b f c e a d:Int):stepT mQ (L1 v2 g v9 b f c e a d)=let l:=zc .u64 (f*4294967296)+c;let j:=zc .u64<|a-1;let b':=zc .u64 l-zc .u64 (zc .u64 (a-1)*v2);let k:=zc .u64 l-zc .u64 (a*v2);let h:=zc .u64 k;let i:=zc .u64 b';let m:Tr:=.di (zc .u64 (d+v9)>=4294967296) (.cd (v9≠0)<|L2 v2 g v9 b e j (zc .u64<|zc .u64 b'-zc .u64 (zc .u64 (yr i v9)*v9)) i<|zc .u64<|yr i v9)<|L1 v2 g v9 b f c e j<|zc .u64<|d+v9;.di (a>=4294967296) m (.di (zc .u64 (a*b)>zc .u64 (zc .u64 (4294967296*d)+c)) m<|.cd (v9≠0)<|L2 v2 g v9 b e a (zc .u64<|zc .u64 k-zc .u64 (zc .u64 (yr h v9)*v9)) h<|zc .u64<|yr h v9):=by kernel_rfl
theorem AJ(v2 g v9 e c d b f a:Int):stepT mQ (L2 v2 g v9 e c d b f a)=let b':=zj zd;let h:=zc .u64 (f*4294967296)+c;let i:=2^qi (toNat g) 64;let j:Tr:=.di (zc .u64 (b+v9)>=4294967296) (.cd (0<=g)<|.leaf (.tup [.dat b'<|zc .u64<|zc .u64 (d*4294967296)+zc .u64 (a-1),.dat b'<|zn (zc .u64<|zc .u64 h-zc .u64 (zc .u64 (a-1)*v2)) i]) [])<|L2 v2 g v9 e c d (zc .u64<|b+v9) f<|zc .u64<|a-1;.di (a>=4294967296) j (.di (zc .u64 (a*e)>zc .u64 (zc .u64 (4294967296*b)+c)) j<|.cd (0<=g)<|.leaf (.tup [.dat b'<|zc .u64<|zc .u64 (d*4294967296)+a,.dat b'<|zn (zc .u64<|zc .u64 h-zc .u64 (a*v2)) i]) []):=by kernel_rfl
end T246
end
namespace T246
def Exact(Y u w q:Int):Prop:=q*Y<=u*4294967296+w/\u*4294967296+w<(q+1)*Y
theorem Zu{Y a b u w q r:Int}(c:Y=a*4294967296+b)(d:q*a+r=u)(h:q*b>4294967296*r+w):u*4294967296+w<q*Y:=by
 subst c;rw[z7, <-zp];generalize q*a=A at*;generalize q*b=C at*;omega
theorem K2{Y a b u w q r:Int}(c:Y=a*4294967296+b)(d:q*a+r=u)(h:q*b<=4294967296*r+w):q*Y<=u*4294967296+w:=by
 subst c;rw[z7, <-zp];generalize q*a=A at*;generalize q*b=C at*;omega
theorem Vi{Y u w q:Int}(d:u<Y)(a:0<=Y)(c:w<4294967296)(b:4294967296<=q):u*4294967296+w<q*Y:=by
 have:=zi b a;omega
theorem VX{b c u w r:Int}{n:Nat}{Y:Int}(f:Y=b*4294967296+c)(d:0<=b)(h0:0<=c/\c<4294967296)(j:u<Y)(g:0<=w)(e:(n:Int)*b+r=u)(hr:4294967296<=r):(n:Int)*Y<=u*4294967296+w:=by
 have i:(n:Int)<4294967296:=by
  rcases zw (n:Int) 4294967296 with h|h
  ·exact h
  ·have:=zi h d;omega
 refine K2 f e ?_;have a:=zi (show(n:Int)<=4294967295 by omega) h0.1;omega
theorem Aq(Y s f g u w z:Int)(v:Y=f*4294967296+g)(I:0<f/\f<4294967296)(h0:0<=g/\g<4294967296)(B:u<Y)(y:0<=w/\w<4294967296)
  (t:∀q:Int,0<=q->Exact Y u w q->Ends mQ (L2 Y s f g z q (zc zd<|zc zd (zc zd (zc zd (u*(4294967296:Int))+w)-zc zd (q*Y))-zc zd (zc zd (yr (zc zd<|zc zd (zc zd (u*(4294967296:Int))+w)-zc zd (q*Y)) f)*f)) (zc zd<|zc zd (zc zd (u*(4294967296:Int))+w)-zc zd (q*Y))<|zc zd<|yr (zc zd<|zc zd (zc zd (u*(4294967296:Int))+w)-zc zd (q*Y)) f) Q):
  ∀(n:Nat) (r:Int),(n:Int)<18446744073709551616->(n:Int)*f+r=u->0<=r->r<4294967296->u*4294967296+w<((n:Int)+1)*Y->Ends mQ (L1 Y s f g u w z n r) Q:=by
 intro n;induction n with
 |zero=>
  intro r C o H D h;have l:decide (f≠0)=true:=w4 ae;refine yj (Al ..) (yh (by simp)<|yh (w8 ?_)<|ze l<|t _ ae ⟨?_,h⟩)
  ·rw[show((0:Nat):Int)*g=0 by simp,wu 0 ae ae,wu (4294967296*r) ae ae,wu _ ae ae];omega
  ·exact K2 v o (by rw[show((0:Nat):Int)*g=0 by simp];omega)
 |succ n F=>
  intro r C o H D h;have l:decide (f≠0)=true:=w4 ae;have G:zc .u64 (((n+1:Nat):Int)-1)=(n:Int):=by rw[wu _ ae ae];omega
  have E:zc .u64 (r+f)=r+f:=wu _ ae ae;have x:0<=Y:=ae
  have p:(n:Int)*f+(r+f)=u:=by
   rw[show((n+1:Nat):Int)=(n:Int)+1 by omega,zx,yi]at o;omega
  have A:((n+1:Nat):Int)=(n:Int)+1:=ae
  have m:u*4294967296+w<((n:Int)+1)*Y->r+f<4294967296->Ends mQ (L1 Y s f g u w z n<|r+f) Q:=fun i j=>
   F (r+f) ae p ae j i
  have cut:u*4294967296+w<((n:Int)+1)*Y->4294967296<=r+f->Exact Y u w n:=fun i j=>
   ⟨VX v ae h0 B y.1 p j,i⟩
  refine yj (Al ..) ?_;conv=>zeta
  rw[G,E];refine zk (fun c=>?_)<|fun c=>zk (fun d=>?_)<|fun d=>?_
  ·have c:=w6 c;have k:u*4294967296+w<((n:Int)+1)*Y:=by rw[<-A];exact Vi B x y.2 c
   exact zk (fun e=>ze l<|t _ ae<|cut k<|w6 e) (fun e=>m k (by have:=w7 e;omega))
  ·have c:=w7 c;have d:=w6 d;have a:=zi (show((n+1:Nat):Int)<=4294967295 by omega) h0.1;have b:=zq (show 0<=((n+1:Nat):Int)by omega) h0.1;rw[wu (((n+1:Nat):Int)*g) ae ae,wu (4294967296*r) ae ae,wu _ ae ae]at d;have k:u*4294967296+w<((n:Int)+1)*Y:=by rw[<-A];exact Zu v o d
   exact zk (fun e=>ze l<|t _ ae<|cut k<|w6 e) (fun e=>m k (by have:=w7 e;omega))
  ·have c:=w7 c;have d:=w7 d;have a:=zi (show((n+1:Nat):Int)<=4294967295 by omega) h0.1;have b:=zq (show 0<=((n+1:Nat):Int)by omega) h0.1;rw[wu (((n+1:Nat):Int)*g) ae ae,wu (4294967296*r) ae ae,wu _ ae ae]at d;exact ze l (t _ ae ⟨K2 v o ae,h⟩)
theorem A0(Y s f g u w p:Int)(x:Y=f*4294967296+g)(J:0<f/\f<4294967296)(h0:0<=g/\g<4294967296)(B:u<Y)(z:0<=w/\w<4294967296)(C:0<=s)
  (v:∀q:Int,0<=q->Exact Y u w q->∀ob,Q (PV.tup [PV.dat (zj zd)<|zc zd<|zc zd (p*(4294967296:Int))+q,PV.dat (zj zd)<|zn (zc zd<|zc zd (zc zd (u*(4294967296:Int))+w)-zc zd (q*Y))<|(2:Int)^qi (qq s) (64:Nat)]) ob):
  ∀(n:Nat) (r:Int),(n:Int)<18446744073709551616->(n:Int)*f+r=u->0<=r->r<4294967296->u*4294967296+w<((n:Int)+1)*Y->Ends mQ (L2 Y s f g w p r u n) Q:=by
 intro n;induction n with
 |zero=>
  intro r G m I D h;have l:decide (0<=s)=true:=w4 C;refine yj (AJ ..) (yh (by simp) (yh (w8 ?_)<|ze l<|zg<|v _ ae ⟨?_,h⟩ _))
  ·rw[show((0:Nat):Int)*g=0 by simp,wu 0 ae ae,wu (4294967296*r) ae ae,wu _ ae ae];omega
  ·exact K2 x m (by rw[show((0:Nat):Int)*g=0 by simp];omega)
 |succ n E=>
  intro r G m I D h;have l:decide (0<=s)=true:=w4 C;have F:zc .u64 (((n+1:Nat):Int)-1)=(n:Int):=by rw[wu _ ae ae];omega
  have H:zc .u64 (r+f)=r+f:=wu _ ae ae;have y:0<=Y:=ae
  have o:(n:Int)*f+(r+f)=u:=by
   rw[show((n+1:Nat):Int)=(n:Int)+1 by omega,zx,yi]at m;omega
  have A:((n+1:Nat):Int)=(n:Int)+1:=ae
  have t:u*4294967296+w<((n:Int)+1)*Y->r+f<4294967296->Ends mQ (L2 Y s f g w p (r+f) u n) Q:=fun i j=>
   E (r+f) ae o ae j i
  have cut:u*4294967296+w<((n:Int)+1)*Y->4294967296<=r+f->Exact Y u w n:=fun i j=>
   ⟨VX x ae h0 B z.1 o j,i⟩
  refine yj (AJ ..) ?_;conv=>zeta
  rw[F,H];refine zk (fun c=>?_)<|fun c=>zk (fun d=>?_)<|fun d=>?_
  ·have c:=w6 c;have k:u*4294967296+w<((n:Int)+1)*Y:=by rw[<-A];exact Vi B y z.2 c
   exact zk (fun e=>ze l<|zg<|v _ ae (cut k<|w6 e) _) (fun e=>t k (by have:=w7 e;omega))
  ·have c:=w7 c;have d:=w6 d;have a:=zi (show((n+1:Nat):Int)<=4294967295 by omega) h0.1;have b:=zq (show 0<=((n+1:Nat):Int)by omega) h0.1;rw[wu (((n+1:Nat):Int)*g) ae ae,wu (4294967296*r) ae ae,wu _ ae ae]at d;have k:u*4294967296+w<((n:Int)+1)*Y:=by rw[<-A];exact Zu x m d
   exact zk (fun e=>ze l<|zg<|v _ ae (cut k<|w6 e) _) (fun e=>t k (by have:=w7 e;omega))
  ·have c:=w7 c;have d:=w7 d;have a:=zi (show((n+1:Nat):Int)<=4294967295 by omega) h0.1;have b:=zq (show 0<=((n+1:Nat):Int)by omega) h0.1;rw[wu (((n+1:Nat):Int)*g) ae ae,wu (4294967296*r) ae ae,wu _ ae ae]at d;exact ze l (zg<|v _ ae ⟨K2 x m ae,h⟩ _)
end T246
theorem UZ{y:Int}(d:0<y)(h:y<18446744073709551616):∃s:Nat,Sp.lz y=(s:Int)/\s<=63/\y*2^s<18446744073709551616/\9223372036854775808<=y*2^s:=by
 obtain⟨n,rfl⟩:=zh<|yg d;have c:n≠0:=ae
 have g:n.log2<64:=(Nat.log2_lt c).2 ae;have a:=Nat.log2_self_le c;have b:=Nat.lt_log2_self (n:=n);have f:2^n.log2*2^(63-n.log2)=2^63:=by rw[<-qp];congr 1;omega
 have e:2^(n.log2+1)*2^(63-n.log2)=2^64:=by rw[<-qp];congr 1;omega
 have i:2^63<=n*2^(63-n.log2):=by rw[<-f];exact Nat.mul_le_mul_right _ a
 have j:n*2^(63-n.log2)<2^64:=by rw[<-e];exact Nat.mul_lt_mul_of_pos_right b<|qm _
 refine⟨63-n.log2,?_,by omega,?_,?_⟩
 ·unfold Sp.lz Sp.Fo;rw[wc ae,zl];omega
 ·have:((n*2^(63-n.log2):Nat):Int)<18446744073709551616:=ae
  rw[yq,yk]at this;exact this
 ·have:(9223372036854775808:Int)<=((n*2^(63-n.log2):Nat):Int):=ae
  rw[yq,yk]at this;exact this
theorem Za{a b:Int}{s:Nat}(i:0<=a)(d:0<=b)(h:b<2^s)(g:a*2^s+b<18446744073709551616):aL .u64 (a*2^s) b=a*2^s+b:=by
 obtain⟨m,rfl⟩:=zh i;obtain⟨k,rfl⟩:=zh d;have c:((m:Int)*2^s)=((m*2^s:Nat):Int):=by rw[yq,yk];rfl
 have f:k<2^s:=by
  have e:((2:Int)^s)=((2^s:Nat):Int):=by rw[yk];rfl
  rw[e]at h;omega
 rw[c]at g ⊢;have e:(ya 64 ((m*2^s:Nat):Int)|||ya 64 (k:Int)).toNat=m*2^s+k:=by
  rw[BitVec.toNat_or,yv,yv,yz,yz,qe ae,qe ae,Nat.mul_comm m,Nat.two_pow_add_eq_or_of_lt f]
 show zc .u64 (((ya 64 ((m*2^s:Nat):Int)|||ya 64 (k:Int)).toNat:Nat):Int)=_;rw[e,iD _ ae];omega
namespace T246
theorem start{u c d Y w:Int}(i:Y=c*4294967296+d)(h:0<c/\c<4294967296)(h0:0<=d)(e:0<=u/\u<18446744073709551616)(k:w<4294967296):
  ∃(n:Nat) (r:Int),zc .u64 (yr u c)=(n:Int)/\zc .u64 (u-zc .u64 ((n:Int)*c))=r/\(n:Int)<18446744073709551616/\(n:Int)*c+r=u/\0<=r/\r<4294967296/\u*4294967296+w<((n:Int)+1)*Y:=by
 have q0:0<=u/c:=qn e.1 ae;have q1:u/c<=u:=Int.ediv_le_self _ e.1;have f:=Int.mul_ediv_add_emod u c;have j:=Int.emod_nonneg u (show c≠0 by omega);have l:=Int.emod_lt_of_pos u h.1;rw[zz]at f;obtain⟨n,g⟩:=zh q0;have hp:0<=(n:Int)*c:=zq ae ae;rw[g]at f;refine⟨n,u % c,?_,?_,by omega,f,j,by omega,?_⟩
 ·rw[y9 e.1,g,wu _ ae ae]
 ·rw[wu ((n:Int)*c) ae ae,wu _ ae ae];omega
 ·subst i;have a:((n:Int)+1)*(c*4294967296+d)=((n:Int)*c+c)*4294967296+((n:Int)+1)*d:=by
   rw[z7, <-zp,zx,yi]
  have b:0<=((n:Int)+1)*d:=zq ae h0;rw[a];omega
theorem R2{u w q Y:Int}(c:Exact Y u w q)(d:Y<18446744073709551616):zc .u64 (zc .u64 (zc .u64 (u*(4294967296:Int))+w)-zc .u64 (q*Y))=u*4294967296+w-q*Y:=by
 obtain⟨a,b⟩:=c;rw[zx,yi]at b;rw[LW,LW,LW,LW];generalize q*Y=A at*;omega
theorem wP(h:Af A9 247 cLZ):Dg mQ:=Aa h AI
set_option maxHeartbeats 1000000 in
theorem ok(K:Af A9 247 cLZ):Af A9 246 TC:=by
 refine Hp (X:=mQ) rfl (wP K) (d:=9) ag ag ag (fun(i:Int×Int×Int) B=>?_) (Be ag);obtain⟨e,lo,y⟩:=i;have B:(Sp.u64 e&&Sp.u64 lo&&Sp.u64 y&&decide (e<y))=true:=B;rw[zf,zf,zf,w5]at B;obtain⟨⟨⟨l,f⟩,D⟩,h4⟩:=B;have uy:=D;have l:=Sp.A5 l;have f:=Sp.A5 f;have D:=Sp.A5 D;have hg:∀q r ob,q=Sp.dq e lo y->r=Sp.dr e lo y->Ad TC (e,lo,y) (PV.tup [PV.dat (zj zd) q,PV.dat (zj zd) r]) ob:=fun q r ob P T=>zu rfl rfl (Prod.ext P T)
 refine yf (Ak e lo y) (yh (by simp;omega)<|yh (w8 ae)<|zk (fun c=>?_)<|fun c=>?_)
 ·have c:e=0:=by simpa using c
  subst c;have q0:0<=lo/y:=qn f.1 ae;have q1:lo/y<=lo:=Int.ediv_le_self _ f.1;refine ze (w4 ae) (ze (w4 ae)<|zg<|hg _ _ _ ?_ ?_)
  ·unfold Sp.dq;rw[y9 f.1,wu _ ae ae,Int.zero_mul,qj]
  ·unfold Sp.dr;rw[Int.tmod_eq_emod_of_nonneg f.1,Int.zero_mul,qj]
 ·have c:e≠0:=by simpa using c
  obtain⟨s,hs,hs63,J,O⟩:=UZ (y:=y) ae D.2;have es:zc .u64 (s:Int)=(s:Int):=iD s ae;have em:qi s 64=s:=ae
  have F:zc .u64 ((64:Int)-(s:Int))=((64-s:Nat):Int):=by rw[wu _ ae ae];omega
  have Z:qi (64-s) 64=64-s:=ae
  have g:(2:Int)^s*2^(64-s)=18446744073709551616:=by rw[<-Int.pow_add,show s+(64-s)=64 by omega];rfl
  have h:(0:Int)<2^s:=Int.pow_pos af;have hR:(0:Int)<2^(64-s):=Int.pow_pos af;have a0:0<=lo/2^(64-s):=qn f.1 ae;have led:=Int.mul_ediv_add_emod lo<|2^(64-s);have c0:=Int.emod_nonneg lo (show(2:Int)^(64-s)≠0 by omega);have c1:=Int.emod_lt_of_pos lo hR;have aP:lo/2^(64-s)<2^s:=Int.ediv_lt_of_lt_mul hR (by rw[g];exact f.2);have hiP:e*2^s+2^s<=y*2^s:=by
   have:=zi (show e+1<=y by omega)<|yg h;rw[zx,yi]at this;exact this
  have N:0<=e*2^s:=zq l.1<|yg h;have V:zn lo ((2:Int)^(64-s))=lo/2^(64-s):=ye _ ae;have eio:aL .u64 (e*2^s) (lo/2^(64-s))=e*2^s+lo/2^(64-s):=Za l.1 a0 aP ae;have S:0<=(lo % 2^(64-s))*2^s:=zq c0<|yg h;have cP1:(lo % 2^(64-s))*2^s<18446744073709551616:=by
   have:=Int.mul_lt_mul_of_pos_right c1 h;rw[zz<|2^(64-s),g]at this;exact this
  have j:lo*2^s=(lo/2^(64-s))*18446744073709551616+(lo % 2^(64-s))*2^s:=by
   conv=>lhs;rw[<-led]
   rw[zx, <-g,zz (2^(64-s))<|lo/2^(64-s),zp,zz (2^(64-s))<|2^s]
  have L:zc .u64 (lo*2^s)=(lo % 2^(64-s))*2^s:=by rw[j,LW];omega
  have hN:(e*2^s+lo/2^(64-s))*18446744073709551616+(lo % 2^(64-s))*2^s=(e*18446744073709551616+lo)*2^s:=by
   rw[zx (e*18446744073709551616) lo<|2^s,j,zp e 18446744073709551616<|2^s,zz 18446744073709551616<|(2:Int)^s, <-zp];omega
  have I:zc .u64 (y*2^s)=y*2^s:=wu _ ae ae;have R:zc .u64 (e*2^s)=e*2^s:=wu _ N ae;have z0:decide ((0:Int)<=(s:Int))=true:=w4 ae;have fin:∀q:Int,q*(y*2^s)<=(e*18446744073709551616+lo)*2^s->(e*18446744073709551616+lo)*2^s<(q+1)*(y*2^s)->q=Sp.dq e lo y/\zn ((e*18446744073709551616+lo)*2^s-q*(y*2^s)) (2^s)=Sp.dr e lo y:=by
   intro q E o;unfold Sp.dq Sp.dr;generalize e*18446744073709551616+lo=M at*;rw[<-zp]at E o;have g1:q*y<=M:=Int.le_of_mul_le_mul_right E h;have g2:M<(q+1)*y:=Int.lt_of_mul_lt_mul_right o<|yg h;rw[zx,yi]at g2;obtain⟨u1,u2⟩:=(Int.ediv_emod_unique (a:=M) (b:=y) (r:=M-q*y) (q:=q) ae).2 ⟨by rw[zz y q];omega,by omega,by omega⟩;refine⟨u1.symm,?_⟩;rw[u2, <-zp, <-Int.sub_mul,ye _<|yg h];exact Int.mul_ediv_cancel _ ae
  obtain⟨Y,eY⟩:=zh (show 0<=y*2^s by omega);obtain⟨C,eC⟩:=zh S;have hU0:0<=e*2^s+lo/2^(64-s):=ae
  have k:e*2^s+lo/2^(64-s)<y*2^s:=ae
  rw[hs,es,F,zl,zl,em,Z,I,R,V,eio,L];rw[eC]at hN cP1 ⊢;rw[eY]at J O k fin ⊢;generalize hU:e*2^s+lo/2^(64-s)=U at*;generalize hM:(e*18446744073709551616+lo)*2^s=M at*;rw[dP,dP,OU Y ae,OU C ae];have v:(Y:Int)=((Y/4294967296:Nat):Int)*4294967296+((Y % 4294967296:Nat):Int):=ae
  have x:0<((Y/4294967296:Nat):Int)/\((Y/4294967296:Nat):Int)<4294967296:=ae
  have A:0<=((Y % 4294967296:Nat):Int)/\((Y % 4294967296:Nat):Int)<4294967296:=ae
  have w1:0<=((C/4294967296:Nat):Int)/\((C/4294967296:Nat):Int)<4294967296:=ae
  have w0:0<=((C % 4294967296:Nat):Int)/\((C % 4294967296:Nat):Int)<4294967296:=ae
  have hC:(C:Int)=((C/4294967296:Nat):Int)*4294967296+((C % 4294967296:Nat):Int):=ae
  generalize ((Y/4294967296:Nat):Int)=y1 at*;generalize ((Y % 4294967296:Nat):Int)=y0 at*;generalize ((C/4294967296:Nat):Int)=w at*;generalize ((C % 4294967296:Nat):Int)=z at*;refine ze uy (ze z0<|ze rfl (ze z0<|ze (w4 ae)<|ze z0<|ze rfl (ze (w4 ae) ?_)));obtain⟨n,r,P,T,n1,n2,n3,n4,n5⟩:=start (u:=U) (w:=w) v x A.1 ae w1.2;rw[P,T];refine Aq (Y:Int) s y1 y0 U w z v x A k w1 (fun p p0 hp=>?_) n r n1 n2 n3 n4 n5;have er:=R2 hp ae;rw[er];have hp1:=hp.1;have W:=hp.2;rw[zx,yi]at W;obtain⟨m,t,k1,k2,m1,m2,m3,m4,m5⟩:=start (u:=U*4294967296+w-p*Y) (w:=z) v x A.1 ae w0.2;rw[k1,k2];refine A0 (Y:Int) s y1 y0 _ z p v x A ae w0 ae (fun q q0 hq ob=>?_) m t m1 m2 m3 m4 m5;rw[R2 hq ae,zl,em];obtain⟨hq1,hq2⟩:=hq;have H:(p*4294967296+q)*(Y:Int)=p*Y*4294967296+q*Y:=by
   rw[zx,zp,zz 4294967296 (Y:Int), <-zp]
  have G:(p*4294967296+q+1)*(Y:Int)=p*Y*4294967296+q*Y+Y:=by
   rw[zx,H,yi]
  rw[zx,yi]at hq2;obtain⟨E,o⟩:=fin (p*4294967296+q) (by rw[H];omega) (by rw[G];omega);refine hg _ _ _ ?_ ?_
  ·have hb:Sp.dq e lo y<18446744073709551616:=by
    unfold Sp.dq;refine Int.ediv_lt_of_lt_mul ae ?_;have:=z8 (show e+1<=y by omega) (show(0:Int)<=18446744073709551616 by decide);omega
   rw[<-E]at hb ⊢;rw[LW,LW];omega
  ·rw[<-o,H];congr 1;omega
end T246
open Sp
theorem fJ(x k:Nat)(h:2^k<=x):x.log2=k+(x/2^k).log2:=by
 have d:=qm k;have f:x/2^k≠0:=by
  have:=Nat.div_pos h d;omega
 have e:x≠0:=ae
 refine(Nat.log2_eq_iff e).2 ⟨?_,?_⟩
 ·rw[qp];exact Nat.le_trans (Nat.mul_le_mul_left _<|Nat.log2_self_le f)<|Nat.mul_div_le x<|2^k
 ·rw[Nat.add_assoc,qp];have a:x/2^k+1<=2^((x/2^k).log2+1):=Nat.lt_log2_self;have b:=Nat.mul_le_mul_left (2^k) a;have c:=Nat.lt_mul_div_succ x d;exact Nat.lt_of_lt_of_le c b
theorem Qf(x k:Nat)(h:2^k<=x):Fo (x:Int)=(k:Int)+Fo ((x/2^k:Nat):Int):=by
 have a:=qm k;have b:=Nat.div_pos h a;have e:=fJ x k h;unfold Fo;rw[wc ae,wc ae,zl,zl,e];omega
theorem fdN(n k:Nat):zn (n:Int) ((2:Int)^k)=((n/2^k:Nat):Int):=by
 have:(0:Int)<2^k:=Int.pow_pos af;rw[ye _ ae,Int.natCast_ediv,yk];rfl
def Abt:Z:=[(0:UInt8),1,2,2,3,3,3,3,4,4,4,4,4,4,4,4,5,5,5,5,5,5,5,5,5,5,5,5,5,5,5,5,6,6,6,6,6,6,6,6,6,6,6,6,6,6,6,6,6,6,6,6,6,6,6,6,6,6,6,6,6,6,6,6,7,7,7,7,7,7,7,7,7,7,7,7,7,7,7,7,7,7,7,7,7,7,7,7,7,7,7,7,7,7,7,7,7,7,7,7,7,7,7,7,7,7,7,7,7,7,7,7,7,7,7,7,7,7,7,7,7,7,7,7,7,7,7,7,8,8,8,8,8,8,8,8,8,8,8,8,8,8,8,8,8,8,8,8,8,8,8,8,8,8,8,8,8,8,8,8,8,8,8,8,8,8,8,8,8,8,8,8,8,8,8,8,8,8,8,8,8,8,8,8,8,8,8,8,8,8,8,8,8,8,8,8,8,8,8,8,8,8,8,8,8,8,8,8,8,8,8,8,8,8,8,8,8,8,8,8,8,8,8,8,8,8,8,8,8,8,8,8,8,8,8,8,8,8,8,8,8,8,8,8,8,8,8,8,8,8,8,8,8,8,8,8]
theorem YZ:∀m:Fin 256,((yc (Abt.getD m.val 0):Nat):Int)=Fo (m.val:Int)/\zc .u8 (m.val:Int)=(m.val:Int)/\Fo (m.val:Int)<=8/\0<=Fo (m.val:Int):=by decide+kernel
theorem Np{b:Int}(a z x:Nat)(i:b=a)(j:a<=64)(h:z<256)(g:Fo (x:Int)=(a:Int)+Fo (z:Int)):zc .i64 (b+zc .i64 ((yc (Abt.getD (qq<|zc .u8 (z:Int)) 0):Nat):Int))=Fo x:=by
 obtain⟨c,d,e,f⟩:=YZ ⟨z,h⟩;have c:((yc (Abt.getD z 0):Nat):Int)=Fo (z:Int):=c;have d:zc .u8 (z:Int)=(z:Int):=d;have e:Fo (z:Int)<=8:=e;have f:0<=Fo (z:Int):=f;rw[d,zl,c,i,g,wr (Fo (z:Int)) ae ae,wr _ ae ae]
theorem xO(z:Nat)(b:z<256):(decide ((0:Sh.T (zj qt))<=zc qt (z:Int))&&decide (zc qt (z:Int)<(↑(256:Nat):Int)))=true:=by
 obtain⟨_,a,_,_⟩:=YZ ⟨z,b⟩;have a:zc .u8 (z:Int)=(z:Int):=a;rw[a];exact Ab (w4<|show(0:Int)<=(z:Int)by omega) (w4 ae)
namespace T228
set_option maxHeartbeats 1000000 in
set_option maxRecDepth 100000 in
theorem ok:Af A9 228 X1:=by
 refine BN JH<|fun(x:Int) e=>?_;have e:=Sp.A5 (n:=x) e;obtain⟨x,rfl⟩:=zh e.1;refine yf (Ak (x:Int)) ?_;conv=>zeta
 conv=>zeta
 rw[fdN x 32,fdN x 16,fdN x 8,fdN (x/2^32) 16,fdN (x/2^32) 8,fdN (x/2^32/2^16) 8,fdN (x/2^16) 8];have j:=Qf x 32;have i:=Qf x 16;have k:=Qf x 8;have f:=Qf (x/2^32) 16;have g:=Qf (x/2^32) 8;have d:=Qf (x/2^32/2^16) 8;have h:=Qf (x/2^16) 8;refine zk (fun c=>ze rfl (zk (fun b=>ze rfl (zk (fun a=>ze rfl (ze (xO _ ?_)<|zg<|zu rfl rfl (Np 56 _ x (by decide+kernel) af ?_ ?_)))<|fun a=>ze (xO _ ?_)<|zg<|zu rfl rfl (Np 48 _ x (by decide+kernel) af ?_ ?_)))<|fun b=>zk (fun a=>ze rfl (ze (xO _ ?_)<|zg<|zu rfl rfl (Np 40 _ x (by decide+kernel) af ?_ ?_)))<|fun a=>ze (xO _ ?_)<|zg<|zu rfl rfl (Np 32 _ x rfl af ?_ ?_))) (fun c=>zk (fun b=>ze rfl (zk (fun a=>ze rfl (ze (xO _ ?_)<|zg<|zu rfl rfl (Np 24 _ x (by decide+kernel) af ?_ ?_)))<|fun a=>ze (xO _ ?_)<|zg<|zu rfl rfl (Np 16 _ x (by decide+kernel) af ?_ ?_)))<|fun b=>zk (fun a=>ze rfl (ze (xO _ ?_)<|zg<|zu rfl rfl (Np 8 _ x (by decide+kernel) af ?_ ?_)))<|fun a=>ze (xO _ ?_)<|zg<|zu rfl rfl (Np 0 _ x rfl af ?_ ?_));all_goals
  first
   |replace c:=w6 c
   |replace c:=w7 c
  first
   |replace b:=w6 b
   |replace b:=w7 b
  first
   |replace a:=w6 a
   |replace a:=w7 a
  omega
end T228
theorem qC:Dg XD1:=Aa T228.ok AI
theorem SB{n:Int}(a:0<=n)(b:n<18446744073709551616):0<=Sp.Fo n/\Sp.Fo n<=64:=by
 unfold Sp.Fo;split
 ·omega
 ·have:n.toNat.log2<64:=(Nat.log2_lt ae).2 ae;omega
namespace T247
theorem ok:Af A9 247 cLZ:=by
 refine BN qC<|fun(x:Int) hx=>?_;have h:=Sp.A5 (n:=x) hx;have a:=SB h.1 h.2;refine yf (Ak x)<|ze hx<|zg<|zu rfl rfl ?_;show zc .i64 (64-Sp.Fo x)=Sp.lz x;unfold Sp.lz;exact wr _ ae ae
end T247
theorem oS:Af A9 246 TC:=T246.ok T247.ok
end Go.Pe
namespace Go.Sp
def Th(a b:List Int):Bool:=Cm a&&Cm b&&decide (a.length<=9000)&&decide (b.length<=9000)&&decide (0<As b)
end Go.Sp
namespace Go.Pe
open Sp
open Go.Det
def GN:An:=⟨[Dz,Dz],fun i=>Th i.1 i.2,[Dz,Dz],fun i=>(Bv<|As i.1/As i.2,Bv<|As i.1 % As i.2),false⟩
def JS:AT:=X7 [(187,YF),(209,Xr),(177,TN),(208,XI),(217,X2),(246,TC),(247,cLZ)]
end Go.Pe
namespace Go.Sp
def HM(c:UInt8):Int:=(c.toNat:Int)-48
def BW(c:UInt8):Bool:=decide (48<=c.toNat)&&decide (c.toNat<=57)
def AE(n:Int):Z->Int
 |[]=>n
 |c::r=>AE (10*n+HM c) r
def Ap(s:Z):Bool:=s.all BW
theorem C2:∀(n:Int) (a b:Z),AE n (a++b)=AE (AE n a) b
 |_,[],_=>rfl
 |n,c::a,b=>by rw[qf,AE,AE,C2]
theorem ER:∀(s:Z) (n:Int),AE n s=n*10^s.length+AE 0 s
 |[],n=>by simp[AE]
 |c::s,n=>by
  rw[AE,AE,ER s<|10*n+HM c,ER s<|10*0+HM c,List.length_cons,yy,zx,qh,qj,zz 10 n,zp,zz 10<|10^s.length,qd]
theorem Dd{c:UInt8}(h:BW c=true):0<=HM c/\HM c<=9:=by
 unfold BW at h;rw[zf,w5,w5]at h;unfold HM;omega
theorem Bi:∀ {s:Z},Ap s=true->0<=AE 0 s/\AE 0 s<10^s.length
 |[],_=>by simp[AE]
 |c::s,h=>by
  unfold Ap at h;rw[List.all_cons,zf]at h;have a:=Dd h.1;have b:=Bi (s:=s) h.2;have hp:=AR (show(0:Int)<10 by decide) s.length;have d:=zq a.1<|yg hp;have e:=zi a.2<|yg hp;rw[AE,ER,List.length_cons,yy,qh,qj,zz (10^s.length) 10];omega
theorem Bg{s:Z}(h:Ap s=true)(i:Nat):Ap (s.take i)=true:=by
 unfold Ap at h ⊢;rw[yu]at h ⊢;exact fun x a=>h x<|List.mem_of_mem_take a
theorem B2{s:Z}(h:Ap s=true)(i:Nat):Ap (s.drop i)=true:=by
 unfold Ap at h ⊢;rw[yu]at h ⊢;exact fun x a=>h x<|List.mem_of_mem_drop a
def AV(s:Z):Bool:=decide (s≠[])&&Ap s&&(decide (s.getD 0 0≠48)||decide (s=[48]))
def El(a b:AG):AG:=if vI a<0/\Ag (vI a) % vI b≠0 then NI (C8<| -(Ag (vI a)/vI b)) (1,[])else C8<|sg (decide (vI a<0))<|Ag (vI a)/vI b
def ZW(a b:AG):Int:=(El a b).1
def Ym(a b:AG):List Int:=(El a b).2
def eQ(a b:AG):Int:=C0<|vI a % vI b
def kF(a b:AG):List Int:=CZ<|vI a % vI b
def gI(a b:Int):Int:=if a<0 then -(-(Int.gcd a b:Int))else(Int.gcd a b:Int)
theorem F8(a b:Int):gI a b=(Int.gcd a b:Int):=by unfold gI;split<;>omega
def Nx(a b:AG):Int:=C0<|gI (vI a)<|vI b
def Nd(a b:AG):List Int:=CZ<|gI (vI a)<|vI b
def pI(a k:Int):Int:=if k<0 then -(-(a^k.toNat))else a^k.toNat
theorem R8(a k:Int):pI a k=a^k.toNat:=by unfold pI;split<;>omega
def iI(a k:Int):Bool:=decide (0<=k)&&decide (k<=100000)&&decide (Ag (pI a k)<(18446744073709551616:Int)^(4000:Nat))
def VE(a:AG)(k:Int):Int:=C0<|pI (vI a) k
def Wf(a:AG)(k:Int):List Int:=CZ<|pI (vI a) k
def CT(n:Int):List Int:=if n<0 then[]else[]
theorem EA(n:Int):CT n=[]:=by unfold CT;split<;>rfl
def Cr(s:Z):Int:=if s.getD 0 0=45 then -AE 0 (s.drop 1)else AE 0 s
def Es(s:Z):Bool:=decide (s.length<=5999)&&(if s.getD 0 0=45 then Ap (s.drop 1)else Ap s)
def DA(s:Z):Int:=C0<|Cr s
def Dv(s:Z):List Int:=CZ<|Cr s
end Go.Sp
namespace Go.Pe
open Sp
open Go.Det
def Hi:An:=⟨[AY,AY],fun i=>Bb i.1&&Bb i.2&&decide (0<Sp.vI i.2),[AY,AY],fun i=>((ZW i.1 i.2,Ym i.1 i.2),(eQ i.1 i.2,kF i.1 i.2)),false⟩
def ZZ:An:=⟨[AY,AY],fun i=>Bb i.1&&Bb i.2,[AY],fun i=>(Nx i.1 i.2,Nd i.1 i.2),false⟩
def oC:An:=⟨[AY,i64],fun i=>Bb i.1&&iI (Sp.vI i.1) i.2,[AY],fun i=>(VE i.1 i.2,Wf i.1 i.2),false⟩
def Ov:An:=⟨[.str],fun s=>Es s,[AY],fun s=>(DA s,Dv s),false⟩
def dC:An:=⟨[i64],fun _=>true,[AY],fun n=>(n,CT n),false⟩
def XF1:AT:=YT [(190,[9,10])] [] [(190,[(9,[3,4,5,8,12,13]),(10,[3,4,5,14,15])])] [(106,dC),(212,GN),(179,OO),(180,lW),(160,iT),(139,OL),(161,KO)]
def XF0:AT:=X7 []
def XF2:AT:=X7 [(190,Hi),(202,xQ),(161,KO)]
def XF3:AT:=X7 [(106,dC),(127,RR)]
end Go.Pe
namespace Go.Sp
abbrev B9:Nat:=1000000000
def J1(l:List Int):Bool:=decide (l.length<=20000)&&l.all fun d=>decide (0<=d)&&decide (d<1000000000)
def hR(l:List Int):Bool:=J1 l&&decide (l.length<=9000)
def Ba(l:List Int):Bool:=J1 l&&nzW l
def Au(l:List Int):Int:=val B9 l
def B5(n:Int):List Int:=dg B9 n
def rN(n:Int):Bool:=decide (n<0)
def rW(n:Int):List Int:=B5<|Ag n
def C1(neg:Bool)(w:List Int):Bool:=neg&&decide (Ax w≠[])
def D9(s:Z):Bool:=decide (s.length<=18)&&Ap s
def BP(s:Z):Int:=AE 0 s
def HB(s:Z):Bool:=rN<|Cr s
def Hx(s:Z):List Int:=rW<|Cr s
def Cy(a b:List Int):List Int:=B5<|gI (Au a)<|Au b
end Go.Sp
namespace Go.Pe
open Sp
open Go.Det
abbrev li:Sh:=.list i64
abbrev JR:Sh:=.pair .bool li
def Sr:An:=⟨[li],fun l=>decide (yw (α:=Int) l<=20000),[li],fun l=>Ax l,false⟩
def IY:An:=⟨[.bool,li],fun i=>decide (yw (α:=Int) i.2<=20000),[JR],fun i=>(C1 i.1 i.2,Ax i.2),false⟩
def Zb:An:=⟨[li,li],fun i=>Ba i.1&&Ba i.2,[i64],fun i=>Cg (Au i.1)<|Au i.2,false⟩
def Zl:An:=⟨[li,li],fun i=>Sp.hR i.1&&Sp.hR i.2,[li],fun i=>B5<|Au i.1*Au i.2,false⟩
def W5:An:=⟨[li,i64],fun i=>J1 i.1&&decide (0<(i.2:Int))&&decide ((i.2:Int)<1000000000),[li,i64],fun i=>(B5<|Au i.1/i.2,Au i.1 % i.2),false⟩
def RT:An:=⟨[li,li],fun i=>Ba i.1&&Ba i.2&&decide (yw (α:=Int) i.1<=9000)&&decide (yw (α:=Int) i.2<=9000)&&decide (0<Au i.2),[li,li],fun i=>(B5<|Au i.1/Au i.2,B5<|Au i.1 % Au i.2),false⟩
def Lc:An:=⟨[li,li],fun i=>Ba i.1&&Ba i.2&&decide (yw (α:=Int) i.1<=9000)&&decide (yw (α:=Int) i.2<=9000),[li],fun i=>Cy i.1 i.2,false⟩
def TA:An:=⟨[.str],fun s=>D9 s,[i64],fun s=>BP s,false⟩
def Ta:An:=⟨[.str],fun s=>Es s,[JR],fun s=>(HB s,Hx s),false⟩
def pR:AT:=X7 []
def eG:AT:=X7 [(193,Sr)]
def ML:AT:=X7 [(157,Zb),(193,Sr),(192,W5),(159,Zl)]
def XG3:AT:=X7 [(154,RT)]
def eB:AT:=X7 [(152,TA),(155,IY)]
end Go.Pe
namespace Go.Sp
def DG:Z:=[48,49,50,51,52,53,54,55,56,57]
def yP(o:List Bool):List Bool:=(List.range 256).map fun j=>o.getD j false
def zS:List Bool:=zm 256 false
def P3(s:Z):Z:=((s.reverse.dropWhile BW).reverse).dropWhile BW
def QE(s:Z)(c:Int):Int:=match s.findIdx? (fun x=>x==c.toNat.toUInt8)with
 |some i=>(i:Int)
 |none=> -1
def AA(s:Z):Z:=match s.findIdx? (fun x=>x==47)with
 |some i=>s.take i
 |none=>s
def AS(s:Z):Z:=match s.findIdx? (fun x=>x==47)with
 |some i=>s.drop<|i+1
 |none=>[]
def Bq(s:Z):Bool:=s.any<|fun x=>x==47
def A2(s:Z):Z:=if s.getD 0 0=45 then s.drop 1 else s
def preB(s:Z):Bool:=decide (s.getD 0 0=45)
def zJ(s t:Z):Bool:=decide (t=DG)&&decide (s.length<=1000000)
def Abx(s t:Z):Bool:=decide (t=[47])&&decide (s.length<=1000000)
def R6(s t:Z):Bool:=decide (t=[45])&&decide (s.length<=1000000)
end Go.Sp
namespace Go.Pe
open Sp
open Go.Det
def WG:An:=⟨[.str,.str],fun i=>zJ i.1 i.2,[.str],fun i=>P3 i.1,false⟩
def zO:An:=⟨[.str,.int .u8],fun i=>decide (0<=(i.2:Int))&&decide ((i.2:Int)<256),[i64],fun i=>QE i.1 i.2,false⟩
def pN:An:=⟨[.str,.str],fun i=>Abx i.1 i.2,[.str,.str,.bool],fun i=>(AA i.1,Sp.AS i.1,Bq i.1),false⟩
def zA:An:=⟨[.str,.str],fun i=>R6 i.1 i.2,[.str,.bool],fun i=>(A2 i.1,Sp.preB i.1),false⟩
def XW:An:=⟨[.str],fun s=>decide (s.length<=1000000),[.bool],fun s=>AV s,false⟩
def NQ:AT:=X7 []
def bK:AT:=X7 [(234,⟨[.str,.str],fun _=>false,[.str],fun i=>i.1,false⟩),(235,⟨[.str,.str],fun _=>false,[.str],fun i=>i.1,false⟩),(229,⟨[.str,.int .u8],fun _=>false,[.str],fun i=>i.1,false⟩),(230,⟨[.str,.int .u8],fun _=>false,[.str],fun i=>i.1,false⟩)]
def XH1:AT:=X7 [(201,WG)]
def XH2:AT:=X7 [(265,zO)]
def Q5:AT:=X7 [(106,dC),(176,oC),(127,RR),(139,OL),(143,RK),(240,⟨[.str,i64,i64],fun _=>false,[i64],fun _=>(0:Int),false⟩),(207,⟨[.str],fun _=>false,[i64],fun _=>(0:Int),false⟩)]
end Go.Pe
namespace Go.Sp
def Gt(a:Z):Bool:=AV (AA<|A2 a)&&(!preB a||decide (AA (A2 a)≠[48]))&&(!Bq (A2 a)||(AV (AS<|A2 a)&&decide (AS (A2 a)≠[48])&&decide (AS (A2 a)≠[49])))
def tY(a:Z):Int:=AE 0<|AA<|A2 a
def tH(a:Z):Int:=AE 0<|AS<|A2 a
def Am(a:Z):Int:=if Gt a=false then 1 else if 600<(AA<|A2 a).length\/600<(AS<|A2 a).length then 4 else if Bq (A2 a)=true/\gI (tY a) (tH a)≠1 then 1 else 0
def A3(s:Z):Int:=((AA s).length:Int)
def EB(a:Z):Bool:=Es (AA a)&&Es (AS a)&&decide (a.length<=5999)
def Bc(a:Z):Int:=Cr<|AA a
def AN(a:Z):Int:=if Bq a=true then Cr (AS a)else 1
def BZ(a:Z):Bool:=rN<|Bc a
def BO(a:Z):List Int:=rW<|Bc a
def BD(a:Z):Bool:=rN<|AN a
def Bt(a:Z):List Int:=rW<|AN a
end Go.Sp
namespace Go.Pe
open Sp
open Go.Det
def EH:An:=⟨[.str],fun s=>decide (s.length<=1000000),[i64],fun s=>Am s,false⟩
def PE:An:=⟨[.str],fun s=>decide (s.length<=1000000),[i64],fun s=>A3 s,false⟩
def TU:An:=⟨[.str],fun s=>decide (s.length<=9223372036854775807),[i64],fun s=>Am s,false⟩
def YQ:An:=⟨[.str],fun s=>decide (s.length<=9223372036854775807),[i64],fun s=>A3 s,false⟩
def Sg:An:=⟨[.str],fun s=>decide (s.length<=9223372036854775807),[.bool],fun s=>AV s,false⟩
def H3:An:=⟨[i64],fun n=>CG n,[JR],fun n=>(Sp.rN n,Sp.rW n),false⟩
def Sy:An:=⟨[.str],fun s=>EB s,[JR,JR],fun s=>((BZ s,BO s),(BD s,Bt s)),false⟩
def MJ:AT:=YT [(122,[4,6,7,9,10])] [] [(122,[(4,[5,6,7,8]),(6,[5,6,7,8]),(7,[5,6,7,9]),(9,[5,6,7]),(10,[10])])] [(168,GY),(169,Ib),(166,zA),(124,pN),(167,XW),(170,ZZ),(126,Ov),(105,nG),(106,dC)]
def zB:AT:=X7 [(155,IY)]
def XK3:AT:=X7 [(128,PE),(149,Ta),(97,H3)]
def Uj:AT:=YT [(62,[4,7,9,11,13,14])] [] [(62,[(4,[0,3]),(7,[3,4]),(9,[3,4]),(11,[3,4]),(13,[5,6]),(14,[7])])] [(128,YQ),(129,Sg),(92,Sy),(130,Lc)]
end Go.Pe
