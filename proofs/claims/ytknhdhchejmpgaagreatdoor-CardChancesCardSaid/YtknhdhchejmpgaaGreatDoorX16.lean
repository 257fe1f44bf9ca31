import Derived.Test.YtknhdhchejmpgaaGreatDoorX14
import Derived.Test.YtknhdhchejmpgaaGreatDoorX15
import Derived.Test.YtknhdhchejmpgaaGreatDoorX03
import Derived.ChangeSame
import Derived.Below
import Derived.Test.YtknhdhchejmpgaaGreatDoorX09
import Derived.Test.YtknhdhchejmpgaaGreatDoorX10
import Derived.Test.YtknhdhchejmpgaaGreatDoorRows
import Derived.LaidByTextLater
import Derived.SevenTiedAt
import Derived.LaidSub
import Derived.LaidOnce
/- A part of a proof (no law is stated here). Made by program out of texts by AI agents. -/
noncomputable section
set_option maxRecDepth 10000
open Go.Pe.Ends renaming tt -> zc, leaf -> zk, ite -> z8, Am -> ye, ff -> yj
open List renaming length_cons -> zd, mem_cons_self -> zf, map_cons -> zo, mem_cons_of_mem -> zt, length_map -> zu, getElem?_eq_getElem -> zw, mem_of_mem_drop -> yc, mem_cons -> yd, pairwise_cons -> yg, nil_append -> yo, all_eq_true -> yr, mem_flatMap -> yt, length_append -> yv, mem_append_right -> yy, cons_ne_nil -> yz, map_drop -> y7, mem_singleton -> y9, getElem?_take_of_lt -> qd, length_eq_zero_iff -> qf, take_of_length_le -> qi, any_cons -> qo, map_take -> qt, range -> qu
open Go.Pe.Sh renaming pair -> ze, str -> zi, list -> zj, nlist -> zr, int -> yb
open Go.IntKind renaming wrap -> zg, u64 -> zh
open Bool renaming and_eq_true -> zl, true_or -> yh, or_eq_true -> yu, and_eq_false_iff -> yx, or_true -> y8, true_and -> qc, false_and -> qj, false_or -> qp
open Nat renaming add -> zq, eq_of_beq_eq_true -> yf, zero_le -> ym, le_refl -> yp, beq -> yw, zero_add -> qh, add_mul -> qk, one_mul -> ql, beq_refl -> qv, le_trans -> qx
open Int renaming toNat_natCast -> z6
open Array renaming getElem?_eq_some_iff -> z7, getElem?_eq_none -> yn
open Go.DataW renaming trod -> ya
open Prod renaming fst -> yi
open Option renaming bind_some -> yk, bind_eq_some_iff -> qg, getD -> qm
open Go.Sp renaming isNum -> yq, first -> qe
open Go.World renaming cell? -> qn
open Go.Det renaming sorted -> qq
open Rat renaming zero_add -> qw
open Go.Addr renaming add -> qy
namespace Go.Pe
open Sp
open Go.Det
section
open List Int Prod
namespace T136
def T(l:List (Int×List UInt8))(c:Int×List UInt8):Tr:=tree iV false 9 136 (Af ([zj (ze i64 zi),ze i64 zi]) (l,c))
def L1(v0:List (Int×List UInt8))(v5 o0:Int)(o0_1:List UInt8):Tr:=re ((T [] (0,[]))) (AA 65 [(0,.dat (zj (ze i64 zi)) v0),(3,.ptr 0 0),(5,.dat i64 v5)] [(0,.box [.dat i64 o0,.dat zi o0_1])] 1)
theorem Al(l:List (Int×List UInt8))(c:Int×List UInt8):T l c=L1 l 0 (fst c) (snd c):=by kernel_rfl
theorem An(v0:List (Int×List UInt8))(v5 o0:Int)(o0_1:List UInt8):stepT iV (L1 v0 v5 o0 o0_1)=let c':=length (take (toNat v5) v0);let d':=decide (v5<(length v0:Int));let e':=getD ([]++v0) (toNat v5) (0,[]);let f':=Nat.sub (length v0) (toNat v5);let g':=decide (0<=v5)&&decide (v5<(↑(zq 0 (length v0)):Int));let h':=drop (toNat v5) v0;let i':=ze i64 zi;let j':=zq (zq (zq 1 1) 1) 1;let k':=decide (toNat v5<length ([]++v0));let l':=getD v0 (toNat v5) (0,[]);let m':=decide (toNat v5<=length v0);let n':=zq 0 c';let a':Tr:=.ite (decide (0<=v5)&&decide (0<=toNat v5)&&m') (.ite (decide (0<=v5)&&true&&m'&&decide (length v0<=length v0)) (.ite (decide ((2*(0+length (take (toNat v5) v0))+1000)*24<=281474976710656)) (.ite (decide (1<=1)&&true&&decide (zq 0 c'=length ([]++take (toNat v5) v0))&&decide ((2*(zq 0 c'+1)+1000)*24<=281474976710656)) (.ite (decide (zq n' 1=length ([]++take (toNat v5) v0++[(o0,o0_1)]))&&decide ((2*(zq n' 1+length (take f' h'))+1000)*24<=281474976710656)) (.leaf (.sl (zq j' 1) 2 0 (zq (zq n' 1) (length (take f' h'))) none) ([(zq j' 1,.arr false 95 i' ([]++take (toNat v5) v0++[(o0,o0_1)]++take f' h')),(zq (zq 1 1) 1,.arr false 95 i' [(o0,o0_1)]),(0,.box [.dat i64 o0,.dat zi o0_1])])) .fail) .fail) .fail) .fail) .fail;let b':Tr:=.ite (d') (.ite (decide (0<=v5)&&d') (.ite (fst l'==o0) (.ite (decide ((2*(0+length v0)+1000)*24<=281474976710656)) (.ite g' (.ite k' (.ite (Bj (snd e')&&Bj o0_1) (.ite g' (.ite k' (.leaf (.sl (zq 1 1) 2 0 (zq 0 (length v0)) none) ([(zq 1 1,.arr false 95 i' (set ([]++v0) (toNat v5) (fst e',GJ (snd e') o0_1))),(0,.box [.dat i64 o0,.dat zi o0_1])])) .fail) .fail) .fail) .fail) .fail) .fail) a') .fail) a';.ite (d') (.ite (decide (0<=v5)&&d') (.ite (decide (fst l'<o0)) (L1 v0 (zg .i64 (v5+1)) o0 o0_1) b') .fail) b':=by kernel_rfl
end T136
namespace T66
def T(a:List (Int×List UInt8))(b:List (Int×List UInt8)):Tr:=tree SQ false 9 66 (Af ([zj (ze i64 zi),zj (ze i64 zi)]) (a,b))
def L1(v0:List (Int×List UInt8))(v1:List (Int×List UInt8))(v7:Int):Tr:=re ((T [] [])) (AA 80 [(0,.dat (zj (ze i64 zi)) v0),(1,.dat (zj (ze i64 zi)) v1),(6,.nil),(7,.dat i64 v7)] [] 0)
theorem Al(a:List (Int×List UInt8))(b:List (Int×List UInt8)):T a b=L1 a b 0:=by kernel_rfl
def L2(v0:List (Int×List UInt8))(v1:List (Int×List UInt8))(v7 v8:Int):Tr:=re ((stepT SQ (L1 [] [] 0)).L) (AA 80 [(0,.dat (zj (ze i64 zi)) v0),(1,.dat (zj (ze i64 zi)) v1),(6,.nil),(7,.dat i64 v7),(8,.dat i64 v8)] [] 0)
def L3(v9:Int):Tr:=re ((stepT SQ (L1 [] [] 0)).R.R) (AA 80 [(6,.nil),(9,.dat i64 v9)] [] 0)
theorem An(v0:List (Int×List UInt8))(v1:List (Int×List UInt8))(v7:Int):stepT SQ (L1 v0 v1 v7)=.ite (decide (v7<(length v0:Int))) (L2 v0 v1 v7 0) (.ite false (.leaf (.tup [.nil,.dat i64 (5:Int)]) []) (L3 0)):=by kernel_rfl
def L4(v0:List (Int×List UInt8))(v1:List (Int×List UInt8))(v6:List (Int×List UInt8))(v7 v8:Int):Tr:=re ((stepT SQ (L2 [] [] 0 0)).L.L.L.L.L.L.L) (AA 80 [(0,.dat (zj (ze i64 zi)) v0),(1,.dat (zj (ze i64 zi)) v1),(6,.dat (zj (ze i64 zi)) v6),(7,.dat i64 v7),(8,.dat i64 v8)] [] 0)
theorem AZ(v0:List (Int×List UInt8))(v1:List (Int×List UInt8))(v7 v8:Int):stepT SQ (L2 v0 v1 v7 v8)=let a':=getD v0 (toNat v7) (0,[]);let b':=getD v1 (toNat v8) (0,[]);let c':=decide (v8<(length v1:Int));let d':=decide (0<=v7)&&decide (v7<(length v0:Int));.ite (c') (.ite d' (.ite (decide (0<=v8)&&c') (.ite d' (.ite (decide (0<=v8)&&c') (.ite (Bj (snd a')&&Bj (snd b')) (.ite (Kb []&&Bj (Gq (snd a') (snd b'))) (L4 v0 v1 (C1 [] (zg .i64 (fst a'+fst b'),Gq (snd a') (snd b'))) v7 (zg .i64 (v8+1))) .fail) .fail) .fail) .fail) .fail) .fail) (L1 v0 v1 (zg .i64 (v7+1))):=by kernel_rfl
def L5(v0:List (Int×List UInt8))(v1:List (Int×List UInt8))(v6:List (Int×List UInt8))(v7:Int):Tr:=re ((stepT SQ (L4 [] [] [] 0 0)).R) (AA 80 [(0,.dat (zj (ze i64 zi)) v0),(1,.dat (zj (ze i64 zi)) v1),(6,.dat (zj (ze i64 zi)) v6),(7,.dat i64 v7)] [] 0)
theorem Ct(v0:List (Int×List UInt8))(v1:List (Int×List UInt8))(v6:List (Int×List UInt8))(v7 v8:Int):stepT SQ (L4 v0 v1 v6 v7 v8)=let a':=getD v0 (toNat v7) (0,[]);let b':=getD v1 (toNat v8) (0,[]);let c':=decide (v8<(length v1:Int));let d':=decide (0<=v7)&&decide (v7<(length v0:Int));.ite (c') (.ite d' (.ite (decide (0<=v8)&&c') (.ite d' (.ite (decide (0<=v8)&&c') (.ite (Bj (snd a')&&Bj (snd b')) (.ite (Kb v6&&Bj (Gq (snd a') (snd b'))) (L4 v0 v1 (C1 v6 (zg .i64 (fst a'+fst b'),Gq (snd a') (snd b'))) v7 (zg .i64 (v8+1))) .fail) .fail) .fail) .fail) .fail) .fail) (L5 v0 v1 v6 (zg .i64 (v7+1))):=by kernel_rfl
def L6(v6:List (Int×List UInt8))(v9:Int):Tr:=re ((stepT SQ (L5 [] [] [] 0)).R.R) (AA 80 [(6,.dat (zj (ze i64 zi)) v6),(9,.dat i64 v9)] [] 0)
theorem Ei(v0:List (Int×List UInt8))(v1:List (Int×List UInt8))(v6:List (Int×List UInt8))(v7:Int):stepT SQ (L5 v0 v1 v6 v7)=.ite (decide (v7<(length v0:Int))) (L4 v0 v1 v6 v7 0) (.ite (decide ((length v6:Int)>64)) (.leaf (.tup [.nil,.dat i64 (5:Int)]) []) (L6 v6 0)):=by kernel_rfl
theorem Eo(v6:List (Int×List UInt8))(v9:Int):stepT SQ (L6 v6 v9)=let b':=getD v6 (toNat v9) (0,[]);let c':Tr:=.leaf (.tup [.nil,.dat i64 (4:Int)]) [];let d':=decide (v9<(length v6:Int));let a':=decide (0<=v9)&&d';.ite (d') (.ite a' (.ite (decide (fst b'<(-999999999))) c' (.ite a' (.ite (decide (fst b'>999999999)) c' (.ite a' (.ite (decide (length (snd b')<=1000000)) (.ite (DN (snd b') !=0) c' (L6 v6 (zg .i64 (v9+1)))) .fail) .fail)) .fail)) .fail) (.leaf (.tup [.dat (zj (ze i64 zi)) v6,.dat i64 (0:Int)]) []):=by kernel_rfl
end T66
namespace T67
def T(a:List (Int×List UInt8))(b:List (Int×List UInt8)):Tr:=tree iW false 9 67 (Af ([zj (ze i64 zi),zj (ze i64 zi)]) (a,b))
def L1(v0:List (Int×List UInt8))(v1:List (Int×List UInt8))(v5:Int):Tr:=re ((T [] []).R) (AA 26 [(0,.dat (zj (ze i64 zi)) v0),(1,.dat (zj (ze i64 zi)) v1),(5,.dat i64 v5)] [] 0)
theorem Al(a:List (Int×List UInt8))(b:List (Int×List UInt8)):T a b=.ite ((length a:Int) !=(length b:Int)) (.leaf (.bl false) []) (L1 a b 0):=by kernel_rfl
theorem An(v0:List (Int×List UInt8))(v1:List (Int×List UInt8))(v5:Int):stepT iW (L1 v0 v1 v5)=let a':=decide (v5<(length v0:Int));let b':=getD v0 (toNat v5) (0,[]);let c':=getD v1 (toNat v5) (0,[]);.ite (a') (.ite (decide (0<=v5)&&a') (.ite (decide (0<=v5)&&decide (v5<(length v1:Int))) (.ite (!(fst b'==fst c'&&(snd b'==snd c'&&true))) (.leaf (.bl false) []) (L1 v0 v1 (zg .i64 (v5+1)))) .fail) .fail) (.leaf (.bl true) []):=by kernel_rfl
end T67
namespace T58
def T(l:List (Int×List UInt8))(n d:Int):Tr:=tree iW false 9 58 (Af ([zj (ze i64 zi),yb IntKind.i64,yb IntKind.i64]) (l,n,d))
def L1(v0:List (Int×List UInt8))(v2 v7:Int):Tr:=re ((T [] 0 0).L.R.R) (AA 36 [(0,.dat (zj (ze i64 zi)) v0),(2,.dat i64 v2),(7,.dat i64 v7)] [] 0)
theorem Al(l:List (Int×List UInt8))(n d:Int):T l n d=let b':=(length l:Int);let a':Tr:=.ite (decide (b'>70)) (.leaf (.bl false) []) (L1 l d 0);.ite (decide (b'>n)) (.ite (decide (b'<=64)) (.leaf (.bl false) []) a') a':=by kernel_rfl
theorem An(v0:List (Int×List UInt8))(v2 v7:Int):stepT iW (L1 v0 v2 v7)=let a':=decide (v7<(length v0:Int));.ite (a') (.ite (decide (0<=v7)&&a') (.ite (decide (0<=v2)&&decide (v2<=1000)) (.ite (!Sp.BY (snd (getD v0 (toNat v7) (0,[]))) v2) (.leaf (.bl false) []) (L1 v0 v2 (zg .i64 (v7+1)))) .fail) .fail) (.leaf (.bl true) []):=by kernel_rfl
end T58
end
end Go.Pe
namespace Go.Sp
theorem OE:∀ {l:List Bg},(∀c∈l,Bj c.2=true)->FB (l.map fun x=>(x.1,AP x.2))=l
 |[],_=>rfl
 |c::l,h=>by
  have h1:=OE fun x hx=>h x (zt _ hx)
  have h2:=(DG (h c (zf ..))).1;unfold FB at*;rw[zo,zo,h1];show(c.1,AE (AP c.2))::l=c::l;rw[h2]
theorem iD{c:Bg}(hc:Bj c.2=true):C1 [] c=[c]:=by
 show[(c.1,AE (AP c.2))]=[c];rw[(DG hc).1]
theorem kI{x c:Bg}{l:List Bg}(hx:Bj x.2=true)(h:x.1<c.1):C1 (x::l) c=x::C1 l c:=by
 unfold C1 FB;rw[zo,BZ,wd h,zo];show(x.1,AE (AP x.2))::_=_;rw[(DG hx).1]
theorem nT{x c:Bg}{l:List Bg}(hl:∀y∈l,Bj y.2=true)(h:x.1=c.1):C1 (x::l) c=(x.1,GJ x.2 c.2)::l:=by
 have:=OE hl;unfold C1;rw[zo,BZ,wc (show ¬x.1<c.1 by omega),wd h];unfold FB at*;rw[zo,this,h];rfl
theorem kU{x c:Bg}{l:List Bg}(hl:∀y∈x::l,Bj y.2=true)(hc:Bj c.2=true)(h1:¬x.1<c.1)(h2:x.1≠c.1):C1 (x::l) c=c::x::l:=by
 have:=OE hl;unfold C1;rw[zo,BZ,wc h1,wc h2];unfold FB at*;rw[zo]at this;rw[zo,this];show(c.1,AE (AP c.2))::_=_;rw[(DG hc).1]
theorem QM{c:Bg}{r:List Bg}:∀ {p:List Bg},(∀y∈p,Bj y.2=true/\y.1<c.1)->C1 (p++r) c=p++C1 r c
 |[],_=>rfl
 |x::p,h=>by
  have hx:=h x (zf ..);rw[List.cons_append,kI hx.1 hx.2,QM fun y hy=>h y (zt _ hy)];rfl
theorem kL{l:List Bg}(h:Kb l=true):l.length<=5000/\∀c∈l,Bj c.2=true:=by
 unfold Kb at h;rwa [zl,w5,yr]at h
end Go.Sp
namespace Go.Pe
open Sp
open Go.Det
theorem WJ{s:Sh}{sz:Nat}(hs:s.sz=sz){id n:Nat}{ob:Ob}{fz:Bool}{t:TypeId}{o:List s.T}(h1:AI ob id=some (.arr fz t s o))(hn:n=o.length):HZ ⟨0,.leaf,ob,0⟩ (.list s) (.sl id sz 0 n none)=some (true,o):=by
 subst hn hs;unfold HZ;have h2:Ep ⟨0,.leaf,ob,0⟩ (PV.cells (.sl id s.sz 0 o.length none))=some (true,[.dat (.list s) o]):=by
  show(match CF ⟨0,.leaf,ob,0⟩ (.sl id s.sz 0 o.length none),some (true,[])with|some (c,x),some (d,xs)=>some (c&&d,x::xs)|_,_=>none)=_;have:CF ⟨0,.leaf,ob,0⟩ (.sl id s.sz 0 o.length none)=some (true,.dat (.list s) o):=by
   unfold CF AJ.obj;simp only[h1,qv,we];simp
  rw[this];rfl
 simp only[Kq,Sh.PN];show(match Ep ⟨0,.leaf,ob,0⟩ (PV.cells (.sl id s.sz 0 o.length none))with|some (c,cs)=>_|none=>none)=_;rw[h2];have:C0 (.list s) [PV.dat (.list s) o]=some o:=by
  unfold C0 Cw oI D6;simp
 simp only[N3,this,qc]
theorem eL{s:Sh}{sz:Nat}(hs:s.sz=sz){id n:Nat}{ob:Ob}{fz:Bool}{t:TypeId}{o:List s.T}(h1:AI ob id=some (.arr fz t s o))(hn:n=o.length):OP [.list s] (.sl id sz 0 n none) ob=some (true,o):=WJ hs h1 hn
theorem fW{s:Sh}{sz:Nat}(hs:s.sz=sz){id n:Nat}{ob:Ob}{fz:Bool}{t:TypeId}{o:List s.T}{e:Int}(h1:AI ob id=some (.arr fz t s o))(hn:n=o.length):OP [.list s,i64] (.tup [.sl id sz 0 n none,.dat i64 e]) ob=some (true,(o,e)):=by
 unfold OP IK;simp only;unfold Ef;rw[WJ hs h1 hn];rfl
theorem XN:DF iW:=Aa T46.ok AN
namespace T67
variable {Q:PV->Ob->Prop}
theorem loop(a b:List Bg)(hl:a.length<=5000)(hab:a.length=b.length)(hq:∀ob,Q (.bl (decide (a=b))) ob):∀(r s:List Bg) (i:Nat),a.drop i=r->b.drop i=s->i<=a.length->decide (a=b)=decide (r=s)->Ends iW (L1 a b (i:Int)) Q
 |[],s,i,h,hs,hi,he=>by
  have:=drop_nil h hi;have:s=[]:=by rw[<-hs];exact List.drop_eq_nil_of_le (by omega)
  subst this;rw[he,w4 rfl]at hq;exact ye (An ..) (yj (w8 (by omega)) (zk (hq _)))
 |c::r,[],i,h,hs,hi,he=>by
  obtain⟨g1,_,_⟩:=drop_cons (d:=(((0:Int),[]):Bg)) h;have:=drop_nil hs (by omega);omega
 |c::r,d::s,i,h,hs,hi,he=>by
  obtain⟨g1,g2,g3⟩:=drop_cons (d:=(((0:Int),[]):Bg)) h;obtain⟨k1,k2,k3⟩:=drop_cons (d:=(((0:Int),[]):Bg)) hs;have e1:zg .i64 ((i:Int)+1)=((i+1:Nat):Int):=by rw[wr _ (by omega) (by omega)];omega
  refine ye (An ..) ?_;conv=>zeta
  rw[e1,z6,g2,k2];have eb:(c.1==d.1&&(c.2==d.2&&true))=decide (c=d):=by
   rw[Bool.and_true];cases hd:decide (c=d)with
   |true=>rw[w6 hd];simp
   |false=>
    have hd:=w7 hd;rw[yx];by_cases x:c.1=d.1
    ·right;simp;exact fun y=>hd (Prod.ext x y)
    ·left;simp[x]
  refine zc (w4 (by omega)) (zc (Ab (w4 (by omega)) (w4 (by omega))) (zc (Ab (w4 (by omega)) (w4 (by omega))) (z8 (fun k=>zk ?_) (fun k=>?_))))
  ·have k:¬c=d:=by
    have k:(c.1==d.1&&(c.2==d.2&&true))=false:=by
     cases h:(c.1==d.1&&(c.2==d.2&&true))with
     |false=>rfl
     |true=>rw[h]at k;cases k
    rw[eb]at k;exact w7 k
   rw[he,w8 (by simp[k])]at hq;exact hq _
  ·have k:c=d:=by
    have k:(c.1==d.1&&(c.2==d.2&&true))=true:=by
     cases h:(c.1==d.1&&(c.2==d.2&&true))with
     |true=>rfl
     |false=>rw[h]at k;cases k
    rw[eb]at k;exact w6 k
   exact loop a b hl hab hq r s (i+1) g3 k3 g1 (by rw[he,k];simp)
end T67
theorem T67.ok:Ag Bh 67 Wt:=by
 refine B5 XN (fun(i:List Bg×List Bg) hl=>?_);obtain⟨a,b⟩:=i;have hl:a.length<=5000:=w6 hl;have hq:∀(x:Bool) ob,x=decide (a=b)->Ad Wt (a,b) (.bl x) ob:=fun x ob h=>Ad.of rfl rfl h
 refine Ends.eq (T67.Al a b) (z8 (fun c=>zk (hq _ _ ?_)) (fun c=>?_))
 ·have c:(a.length:Int)≠(b.length:Int):=by simpa using c
  exact(w8 (fun k=>by rw[k]at c;exact c rfl)).symm
 ·have c:(a.length:Int)=(b.length:Int):=by simpa using c
  exact T67.loop a b hl (by omega) (fun ob=>hq _ ob rfl) a b 0 rfl rfl (ym _) rfl
namespace T58
variable {Q:PV->Ob->Prop}
theorem loop(l:List Bg)(d:Int)(h0:0<=d)(h1:d<=1000)(hl:l.length<=70)(hq:∀ob,Q (.bl (l.all fun c=>BY c.2 d)) ob):∀(r:List Bg) (i:Nat),l.drop i=r->i<=l.length->(l.all fun c=>BY c.2 d)=(r.all fun c=>BY c.2 d)->Ends iW (L1 l d (i:Int)) Q
 |[],i,h,hi,he=>by
  have:=drop_nil h hi;rw[he,List.all_nil]at hq;exact ye (An ..) (yj (w8 (by omega)) (zk (hq _)))
 |c::r,i,h,hi,he=>by
  obtain⟨g1,g2,g3⟩:=drop_cons (d:=(((0:Int),[]):Bg)) h;have e1:zg .i64 ((i:Int)+1)=((i+1:Nat):Int):=by rw[wr _ (by omega) (by omega)];omega
  rw[List.all_cons]at he;refine ye (An ..) ?_;conv=>zeta
  rw[e1,z6,g2];refine zc (w4 (by omega)) (zc (Ab (w4 (by omega)) (w4 (by omega))) (zc (Ab (w4 h0) (w4 h1)) (z8 (fun k=>zk ?_) (fun k=>?_))))
  ·have k:BY c.2 d=false:=by simpa using k
   rw[he,k,qj]at hq;exact hq _
  ·have k:BY c.2 d=true:=by simpa using k
   exact loop l d h0 h1 hl hq r (i+1) g3 g1 (by rw[he,k,qc])
end T58
theorem T58.ok:Ag Bh 58 Nk:=by
 refine B5 XN (fun(i:List Bg×Int×Int) hl=>?_);obtain⟨l,n,d⟩:=i;have hl:(decide (0<=n)&&decide (n<=64)&&decide (0<=d)&&decide (d<=1000))=true:=hl;rw[zl,zl,zl,w5,w5,w5,w5]at hl;obtain⟨⟨⟨h1,h2⟩,h3⟩,h4⟩:=hl;have hq:∀(x:Bool) ob,x=BT l n d->Ad Nk (l,n,d) (.bl x) ob:=fun x ob h=>Ad.of rfl rfl h
 have go:(decide ((l.length:Int)<=n)||decide (64<l.length))=true->l.length<=70->Ends iW (T58.L1 l d 0) (Ad Nk (l,n,d)):=fun k1 k2=>T58.loop l d h3 h4 k2 (fun ob=>hq _ ob (by unfold BT;rw[k1,w4 k2,qc,qc])) l 0 rfl (ym _) rfl
 refine Ends.eq (T58.Al l n d) (z8 (fun c=>z8 (fun k=>zk (hq _ _ ?_)) (fun k=>z8 (fun m=>zk (hq _ _ ?_)) (fun m=>?_))) (fun c=>z8 (fun m=>zk (hq _ _ ?_)) (fun m=>?_)))
 ·have c:=w6 c;have k:=w6 k;unfold BT;rw[w8 (by omega),w8 (by omega)];rfl
 ·have m:=w6 m;unfold BT;rw[w8 (show ¬l.length<=70 by omega),Bool.and_false,qj]
 ·have k:=w7 k;have m:=w7 m;exact go (by rw[w4 (show 64<l.length by omega),y8]) (by omega)
 ·have m:=w6 m;unfold BT;rw[w8 (show ¬l.length<=70 by omega),Bool.and_false,qj]
 ·have c:=w7 c;have m:=w7 m;exact go (by rw[w4 (show(l.length:Int)<=n by omega),yh]) (by omega)
namespace T136
variable {Q:PV->Ob->Prop}
theorem c3{t:List Bg}(h:t.length<=5000):decide (((2:Nat)*((0:Nat)+t.length)+1000)*24<=281474976710656)=true:=w4 (by omega)
theorem c4{t:List Bg}(h:t.length<=5000):(decide ((1:Nat)<=1)&&true&&decide (zq 0 t.length=([]++t).length)&&decide (((2:Nat)*(zq 0 t.length+1)+1000)*24<=281474976710656))=true:=by
 have e:zq 0 t.length=t.length:=qh _;exact Ab (Ab (Ab (w4 (yp 1)) rfl) (w4 e)) (w4 (by rw[e];omega))
theorem c5{t u:List Bg}{c:Bg}(h:t.length<=5000)(k:u.length<=5000):(decide (zq (zq 0 t.length) 1=([]++t++[c]).length)&&decide (((2:Nat)*(zq (zq 0 t.length) 1+u.length)+1000)*24<=281474976710656))=true:=by
 have e:zq (zq 0 t.length) 1=t.length+1:=by show 0+t.length+1=_;omega
 exact Ab (w4 (by rw[e,yo,yv];rfl)) (w4 (by rw[e];omega))
theorem loop(l:List Bg)(c:Bg)(hl:l.length<=5000)(hn:∀y∈l,Bj y.2=true)(hc:Bj c.2=true)(hq:∀id n fz t ob,n=(C1 l c).length->AI ob id=some (.arr fz t Fe (C1 l c))->Q (.sl id 2 0 n none) ob):∀(r:List Bg) (i:Nat),l.drop i=r->i<=l.length->(∀y∈l.take i,y.1<c.1)->Ends iV (L1 l (i:Int) c.1 c.2) Q
 |r,i,h,hi,hlt=>by
  have el:l=l.take i++r:=by rw[<-h];exact(List.take_append_drop i l).symm
  have hw:C1 l c=l.take i++C1 r c:=by
   conv=>lhs;rw[el]
   exact QM fun y hy=>⟨hn y (List.mem_of_mem_take hy),hlt y hy⟩
  have ht:(l.take i).length=i:=by rw[List.length_take];omega
  have hd:List.take (Nat.sub l.length i) (List.drop i l)=r:=by
   rw[h];refine qi ?_;have:=wi List.length h;rw[List.length_drop]at this;show r.length<=l.length-i;omega
  have hrl:r.length<=5000:=by rw[<-h,List.length_drop];omega
  have a1:(decide ((0:Int)<=(i:Int))&&decide ((0:Nat)<=i)&&decide (i<=l.length))=true:=by rw[w4 (by omega),w4 (by omega),w4 (by omega)];rfl
  have a2:(decide ((0:Int)<=(i:Int))&&true&&decide (i<=l.length)&&decide (l.length<=l.length))=true:=by rw[w4 (by omega),w4 (by omega),w4 (by omega)];rfl
  have ins:C1 r c=c::r->∀(id id2 t2:Nat) (o2:Obj) (ob:Ob),Q (.sl id 2 0 (zq (zq (zq 0 (l.take i).length) 1) r.length) none) ((id,.arr false 95 Fe ([]++l.take i++[(c.1,c.2)]++r))::ob):=by
   intro e id _ _ _ ob;have ew:C1 l c=[]++l.take i++[(c.1,c.2)]++r:=by
    rw[hw,e,yo,List.append_assoc];rfl
   refine hq id _ false 95 _ ?_ ?_
   ·rw[ew,yv,yv,yo];show 0+(l.take i).length+1+r.length=_;rw[qh];rfl
   ·rw[ew];unfold AI;rw[qv];rfl
  match r,h,hw,hd,hrl,ins with
  |[],h,hw,hd,hrl,ins=>
   have:=drop_nil h hi;refine ye (An ..) ?_;conv=>zeta
   rw[z6,hd];exact yj (w8 (by omega)) (yj (w8 (by omega)) (zc a1 (zc a2 (zc (c3 (by omega)) (zc (c4 (by omega)) (zc (c5 (by omega) hrl) (zk (ins (iD hc) _ 0 0 (.box []) _))))))))
  |x::r,h,hw,hd,hrl,ins=>
   obtain⟨g1,g2,g3⟩:=drop_cons (d:=(((0:Int),[]):Bg)) h;have e1:zg .i64 ((i:Int)+1)=((i+1:Nat):Int):=by rw[wr _ (by omega) (by omega)];omega
   have bd:(decide ((0:Int)<=(i:Int))&&decide ((i:Int)<(l.length:Int)))=true:=Ab (w4 (by omega)) (w4 (by omega));have hm:∀y∈x::r,Bj y.2=true:=fun y hy=>hn y (yc (by rw[h];exact hy))
   refine ye (An ..) ?_;conv=>zeta
   rw[e1,z6,g2,hd];refine zc (w4 (by omega)) (zc bd (z8 (fun k=>?_) (fun k=>?_)))
   ·have k:=w6 k;refine loop l c hl hn hc hq r (i+1) g3 g1 fun y hy=>?_
    rw[List.take_add_one,List.mem_append]at hy;rcases hy with hy|hy
    ·exact hlt y hy
    ·rw[zw g1]at hy;have:y=x:=by
      rw[List.getD_eq_getElem?_getD,zw g1]at g2;have g2:l[i]=x:=g2;rw[<-g2];simpa using hy
     rw[this];exact k
   ·have k:=w7 k;refine zc (w4 (by omega)) (zc bd (z8 (fun m=>?_) (fun m=>?_)))
    ·have m:x.1=c.1:=by simpa using m
     have ew:C1 l c=([]++l).set i (x.1,GJ x.2 c.2):=by
      rw[hw,nT (fun y hy=>hm y (zt _ hy)) m,yo];conv=>rhs;rw[el]
      rw[List.set_append_right _ _ (by omega),ht,Nat.sub_self];rfl
     have bd2:(decide ((0:Int)<=(i:Int))&&decide ((i:Int)<((zq 0 l.length:Nat):Int)))=true:=by
      have:zq 0 l.length=l.length:=qh _;rw[this];exact bd
     have bd3:decide (i<([]++l).length)=true:=w4 g1;rw[yo,g2];refine zc (c3 hl) (zc bd2 (zc bd3 (zc (Ab (hm x (zf ..)) hc) (zc bd2 (zc bd3 (zk (hq _ _ false 95 _ ?_ ?_)))))))
     ·rw[ew,List.length_set,yo];exact qh _
     ·rw[ew];unfold AI;rw[qv];rfl
    ·have m:x.1≠c.1:=by simpa using m
     exact zc a1 (zc a2 (zc (c3 (by omega)) (zc (c4 (by omega)) (zc (c5 (by omega) hrl) (zk (ins (kU hm hc k m) _ 0 0 (.box []) _))))))
 termination_by r=>r.length
end T136
theorem T136.ok:Ag Bh 136 pU:=by
 refine B5 SE (fun(i:List Bg×Bg) hl=>?_);obtain⟨l,c⟩:=i;have hl:(Kb l&&Bj c.2)=true:=hl;rw[zl]at hl;obtain⟨h1,h2⟩:=kL hl.1;exact Ends.eq (T136.Al l c) (T136.loop l c h1 h2 hl.2 (fun id n fz t ob hn hg=>Ad.of (eL rfl hg hn) rfl rfl) l 0 rfl (ym _) (fun y hy=>by simp at hy))
end Go.Pe
namespace Go.Sp
abbrev WT:=List (Int×Rat)
def Cy(v:Int):WT->Option Rat
 |[]=>none
 |c::l=>if c.1=v then some c.2 else Cy v l
def sZ(W:WT):Prop:=W.Pairwise fun a b=>a.1<b.1
variable {v:Int}{q:Rat}
theorem UM:∀W:WT,(BZ v q W).length<=W.length+1
 |[]=>yp _
 |c::l=>by
  have:=UM l;rw[BZ];split
  ·rw[zd,zd];omega
  ·split
   ·rw[zd,zd];omega
   ·rw[zd,zd];omega
theorem WX{k j:Nat}(hq:ER j q):∀ {W:WT},(∀c∈W,ER k c.2)->∀c∈BZ v q W,ER (k+j+1) c.2
 |[],_,c,hc=>by
  rw[BZ]at hc;rw[y9.1 hc];exact hq.mono (by omega)
 |d::l,h,c,hc=>by
  have h1:=h d (zf ..);have h2:=fun x hx=>h x (zt _ hx)
  rw[BZ]at hc;split at hc
  ·rcases yd.1 hc with rfl|hc
   ·exact h1.mono (by omega)
   ·exact WX hq h2 c hc
  ·split at hc
   ·rcases yd.1 hc with rfl|hc
    ·exact h1.add hq
    ·exact(h2 c hc).mono (by omega)
   ·rcases yd.1 hc with rfl|hc
    ·exact hq.mono (by omega)
    ·exact(h c hc).mono (by omega)
theorem Tx:∀ {W:WT},∀c∈BZ v q W,c.1=v\/∃d∈W,d.1=c.1
 |[],c,hc=>by
  rw[BZ]at hc;rw[y9.1 hc];exact .inl rfl
 |d::l,c,hc=>by
  rw[BZ]at hc;split at hc
  ·rcases yd.1 hc with rfl|hc
   ·exact .inr ⟨_,zf ..,rfl⟩
   ·rcases Tx c hc with h|⟨x,hx,h⟩
    ·exact .inl h
    ·exact .inr ⟨x,zt _ hx,h⟩
  ·split at hc
   ·rcases yd.1 hc with rfl|hc
    ·exact .inl rfl
    ·exact .inr ⟨c,zt _ hc,rfl⟩
   ·rcases yd.1 hc with rfl|hc
    ·exact .inl rfl
    ·exact .inr ⟨c,hc,rfl⟩
theorem W5:∀ {W:WT},sZ W->sZ (BZ v q W)
 |[],_=>List.pairwise_singleton ..
 |d::l,h=>by
  obtain⟨h1,h2⟩:=yg.1 h;rw[BZ];split
  ·next k=>
   refine yg.2 ⟨fun c hc=>?_,W5 h2⟩;rcases Tx c hc with e|⟨x,hx,e⟩
   ·rw[e];exact k
   ·rw[<-e];exact h1 x hx
  next k=>
  split
  ·next e=>exact yg.2 ⟨fun c hc=>by rw[<-e];exact h1 c hc,h2⟩
  ·next e=>
   refine yg.2 ⟨fun c hc=>?_,h⟩;rcases yd.1 hc with rfl|hc
   ·show v<c.1;omega
   ·have:=h1 c hc;show v<c.1;omega
theorem Li:∀ {W:WT},(∀c∈W,v<c.1)->Cy v W=none
 |[],_=>rfl
 |c::l,h=>by
  have:=h c (zf ..);rw[Cy,wc (by omega),Li fun x hx=>h x (zt _ hx)]
theorem LO{u:Int}:∀ {W:WT},sZ W->Cy u (BZ v q W)=if u=v then some ((Cy v W).getD 0+q)else Cy u W
 |[],_=>by
  show(if v=u then some q else none)=if u=v then some (0+q)else none
  rw[qw];by_cases h:v=u
  ·rw[wd h,wd h.symm]
  ·rw[wc h,wc (fun e=>h e.symm)]
 |d::l,h=>by
  obtain⟨h1,h2⟩:=yg.1 h;rw[BZ];split
  ·next k=>
   rw[Cy,LO h2];by_cases e:d.1=u
   ·rw[wd e,wc (by omega),Cy,wd e]
   ·rw[wc e];by_cases e2:u=v
    ·rw[wd e2,wd e2,Cy,wc (by omega)]
    ·rw[wc e2,wc e2,Cy,wc e]
  next k=>
  split
  ·next e=>
   rw[Cy];by_cases e2:v=u
   ·rw[wd e2,wd e2.symm,Cy,wd e];rfl
   ·rw[wc e2,wc (fun x=>e2 x.symm),Cy,wc (by omega)]
  ·next e=>
   rw[Cy];by_cases e2:v=u
   ·have hn:Cy v (d::l)=none:=Li fun c hc=>by
     rcases yd.1 hc with rfl|hc
     ·omega
     ·have:=h1 c hc;omega
    rw[wd e2,wd e2.symm,hn];show some q=some (0+q);rw[qw]
   ·rw[wc e2,wc (fun x=>e2 x.symm)]
theorem QD:∀ {W:WT},Cy v W=none->List.Perm ((BZ v q W).map yi) (v::W.map yi)
 |[],_=>.refl _
 |d::l,h=>by
  rw[Cy]at h;split at h
  ·cases h
  next e=>
  rw[BZ];split
  ·rw[zo,zo];exact((QD h).cons d.1).trans (.swap ..)
  ·first
    |exact .refl _
    |(rw[wc e];exact .refl _)
theorem P7:∀ {W:WT},sZ W->(Cy v W).isSome=true->(BZ v q W).map yi=W.map yi
 |[],_,h=>by cases h
 |d::l,hu,h=>by
  obtain⟨h1,h2⟩:=yg.1 hu;rw[Cy]at h;rw[BZ];split at h
  ·next e=>rw[wc (by omega),wd e,zo,zo,e]
  next e=>
  split
  ·rw[zo,zo,P7 h2 h]
  ·next k=>
   rw[Li fun c hc=>by have:=h1 c hc;omega]at h;cases h
structure We(N:Nat)(W:WT):Prop where
 sz:∀c∈W,ER (19*N) c.2
 ln:W.length<=N
theorem We.step{N:Nat}{W:WT}(h:We N W)(hq:ER 18 q):We (N+1) (BZ v q W):=
 ⟨fun c hc=>(WX hq h.sz c hc).mono (by omega),qx (UM W) (Nat.succ_le_succ h.ln)⟩
theorem We.nil:We 0 []:=⟨fun c hc=>(by cases hc),yp _⟩
theorem We.zM{N:Nat}{W:WT}(h:We N W)(hN:N<=105):Kb (FB W)=true:=by
 unfold Kb;rw[zl,w5,yr];have:=h.ln;refine⟨by unfold FB;rw[zu];omega,fun c hc=>?_⟩;obtain⟨d,hd,rfl⟩:=List.mem_map.1 hc;exact LL (h.sz d hd) (by omega)
theorem TE(W:WT)(v:Int)(s:List UInt8):C1 (FB W) (v,s)=FB (BZ v (AP s) W):=by
 unfold C1;have e:(FB W).map (fun x=>(x.1,AP x.2))=W:=by
  unfold FB;rw[List.map_map];refine(List.map_congr_left fun c _=>?_).trans (List.map_id _);show(c.1,AP (AE c.2))=c;rw[CB]
 rw[e]
end Go.Sp
namespace Go.Sp
theorem Ib(x y:Bg)(b:List Bg)(w:WT):PW x (y::b) w=PW x b (BZ (x.1+y.1) (AP x.2*AP y.2) w):=by rw[PW]
theorem all_cons(x:Bg)(a b:List Bg)(w:WT):NB (x::a) b w=NB a b (PW x b w):=by rw[NB]
def Su(l:List Bg):Prop:=∀c∈l,isNum c.1=true/\AO c.2=0/\K9 c.2<=9
theorem MQ{l:List Bg}(h:BT l 10 9=true)(k:As l=0):Su l/\l≠[]/\l.length<=10:=by
 obtain⟨h1,h2,h3⟩:=Qt (n:=10) (d:=9) h;obtain⟨k1,k2,k3⟩:=LR k;refine⟨fun c hc=>?_,k1,by omega⟩;have:=IP k c hc;exact⟨this.1,this.2,(h3 c hc).2 this.2⟩
theorem RO{c:Bg}(h:isNum c.1=true/\AO c.2=0/\K9 c.2<=9):Nu 9 c.2 (AP c.2):=(JS h.2.1).mono h.2.2
theorem XS(w:WT)(h:w.length<=64):Wn w=if w.any DT then 4 else 0:=by unfold Wn;rw[wc (by omega)]
end Go.Sp
namespace Go.Pe
open Sp
open Go.Det
theorem kX:DF SQ:=Aa T136.ok (Aa T29.ok (Aa T93.ok AN))
namespace T66
variable {Q:PV->Ob->Prop}
theorem last(W:Sp.WT)(h64:W.length<=64){k:Nat}(hz:∀c∈W,ER k c.2)(hk:1<=k/\k<=1999)(hb:∀ob,W.any DT=true->Q (.tup [.nil,.dat i64 4]) ob)(hq:∀ob,W.any DT=false->Q (.tup [.dat (.list Fe) (FB W),.dat i64 0]) ob):∀(r:Sp.WT) (i:Nat),W.drop i=r->i<=W.length->W.any DT=r.any DT->Ends SQ (L6 (FB W) (i:Int)) Q
 |[],i,h,hi,he=>by
  have:=drop_nil h hi;have hl:(FB W).length=W.length:=zu ..;exact ye (Eo ..) (yj (w8 (by omega)) (zk (hq _ he)))
 |c::r,i,h,hi,he=>by
  have hl:(FB W).length=W.length:=zu ..;have hm:c∈W:=yc (by rw[h];exact zf ..);obtain⟨g1,_,g3⟩:=drop_cons (d:=((0:Int),(0:Rat))) h;have hd:(FB W).drop i=(c.1,AE c.2)::FB r:=by
   unfold FB;rw[<-y7,h];rfl
  obtain⟨_,g2,_⟩:=drop_cons (d:=(((0:Int),[]):Bg)) hd;have e1:zg .i64 ((i:Int)+1)=((i+1:Nat):Int):=by rw[wr _ (by omega) (by omega)];omega
  have bd:(decide ((0:Int)<=(i:Int))&&decide ((i:Int)<((FB W).length:Int)))=true:=Ab (w4 (by omega)) (w4 (by omega));rw[qo]at he;have htl:=Kv (hz c hm) hk.1;refine ye (Eo ..) ?_;conv=>zeta
  rw[e1,z6,g2];refine zc (w4 (by omega)) (zc bd (z8 (fun k=>zk (hb _ ?_)) (fun k=>zc bd (z8 (fun k2=>zk (hb _ ?_)) (fun k2=>zc bd (zc (w4 ?_) (z8 (fun k3=>zk (hb _ ?_)) (fun k3=>?_))))))))
  ·have k:decide (c.1< -999999999)=true:=k;rw[he];unfold DT;rw[k,yh,yh,yh]
  ·have k2:c.1>999999999:=w6 k2;rw[he];unfold DT;rw[w4 (show(999999999:Int)<c.1 from k2),y8,yh,yh]
  ·show(AE c.2).length<=1000000;omega
  ·have k3:DN (AE c.2)≠0:=by simpa using k3
   rw[JD]at k3;have:JE c.2=true:=by
    cases hb:JE c.2 with
    |true=>rfl
    |false=>rw[hb]at k3;exact wh rfl k3
   rw[he];unfold DT;rw[this,y8,yh]
  ·have k:¬c.1< -999999999:=w7 k;have k2:¬c.1>999999999:=w7 k2;have k3:DN (AE c.2)=0:=by simpa using k3
   rw[JD]at k3;have hbig:JE c.2=false:=by
    cases hb:JE c.2 with
    |false=>rfl
    |true=>rw[hb]at k3;cases k3
   have hf:DT c=false:=by
    unfold DT;rw[w8 k,w8 (show ¬(999999999:Int)<c.1 from k2),hbig];rfl
   rw[hf,qp]at he;exact last W h64 hz hk hb hq r (i+1) g3 g1 he
theorem inner(a b:List Bg)(ha:Su a)(hb:Su b)(hla:a.length<=10)(hlb:b.length<=10)(i:Nat)(x:Bg)(hi:i<a.length)(hx:a.getD i ((0:Int),[])=x)(hxm:x∈a):∀(r:List Bg) (k N:Nat) (W:Sp.WT),b.drop k=r->k<=b.length->We N W->N+r.length<=100->(∀W',W'=PW x r W->We (N+r.length) W'->Ends SQ (L5 a b (FB W') ((i+1:Nat):Int)) Q)->Ends SQ (L4 a b (FB W) (i:Int) (k:Int)) Q
 |[],k,N,W,h,hk,hs,hN,hq=>by
  have:=drop_nil h hk;have e1:zg .i64 ((i:Int)+1)=((i+1:Nat):Int):=by rw[wr _ (by omega) (by omega)];omega
  refine ye (Ct ..) (yj (w8 (by omega)) ?_);rw[e1];exact hq W rfl hs
 |y::r,k,N,W,h,hk,hs,hN,hq=>by
  obtain⟨g1,g2,g3⟩:=drop_cons (d:=(((0:Int),[]):Bg)) h;have hym:y∈b:=yc (by rw[h];exact zf ..);have e1:zg .i64 ((k:Int)+1)=((k+1:Nat):Int):=by rw[wr _ (by omega) (by omega)];omega
  have bdi:(decide ((0:Int)<=(i:Int))&&decide ((i:Int)<(a.length:Int)))=true:=Ab (w4 (by omega)) (w4 (by omega));have bdk:(decide ((0:Int)<=(k:Int))&&decide ((k:Int)<(b.length:Int)))=true:=Ab (w4 (by omega)) (w4 (by omega));have fx:=ha x hxm;have fy:=hb y hym;have nx:=RO fx;have ny:=RO fy;have nm:=nx.Gq ny;have bx:=CE fx.1;have by':=CE fy.1
  have e2:zg .i64 (x.1+y.1)=x.1+y.1:=wr _ (by omega) (by omega);have e3:C1 (FB W) (x.1+y.1,Gq x.2 y.2)=FB (BZ (x.1+y.1) (AP x.2*AP y.2) W):=by rw[TE,nm.rat]
  rw[zd]at hN hq;refine ye (Ct ..) ?_;conv=>zeta
  rw[e1,z6,z6,hx,g2,e2,e3];refine zc (w4 (by omega)) (zc bdi (zc bdk (zc bdi (zc bdk (zc (Ab (nx.num (by decide)) (ny.num (by decide))) (zc (Ab (hs.zM (by omega)) (nm.num (by decide))) ?_))))));refine inner a b ha hb hla hlb i x hi hx hxm r (k+1) (N+1) _ g3 g1 (hs.step (nx.z.mul ny.z)) (by omega) fun W' hw hs'=>hq W' (by rw[hw,Ib]) ?_
  have:N+1+r.length=N+(r.length+1):=by omega
  rw[<-this];exact hs'
theorem outer(a b:List Bg)(ha:Su a)(hb:Su b)(hla:a.length<=10)(hlb:b.length<=10)(hq:∀N W,W=Fk a b->We N W->N<=100->Ends SQ (L5 a b (FB W) (a.length:Int)) Q):∀(r:List Bg) (i N:Nat) (W:Sp.WT),a.drop i=r->i<=a.length->We N W->N+r.length*b.length<=100->Fk a b=NB r b W->Ends SQ (L5 a b (FB W) (i:Int)) Q
 |[],i,N,W,h,hi,hs,hN,he=>by
  have:=drop_nil h hi;have e:i=a.length:=by omega
  rw[NB]at he;rw[e];exact hq N W he.symm hs (by omega)
 |x::r,i,N,W,h,hi,hs,hN,he=>by
  obtain⟨g1,g2,g3⟩:=drop_cons (d:=(((0:Int),[]):Bg)) h;have hxm:x∈a:=yc (by rw[h];exact zf ..);rw[zd,qk,ql]at hN;rw[Sp.all_cons]at he;refine ye (Ei ..) (zc (w4 (by omega)) ?_);have go:=inner (Q:=Q) a b ha hb hla hlb i x g1 g2 hxm b 0 N W rfl (ym _) hs (by omega) fun W' hw hs'=>outer a b ha hb hla hlb hq r (i+1) (N+b.length) W' g3 g1 hs' (by omega) (by rw[he,hw])
  exact go
end T66
theorem T66.ok:Ag Bh 66 SF:=by
 refine B5 kX (fun(i:List Bg×List Bg) hl=>?_);obtain⟨a,b⟩:=i;have hl:(BT a 10 9&&BT b 10 9&&decide (As a=0)&&decide (As b=0))=true:=hl;rw[zl,zl,zl,w5,w5]at hl;obtain⟨fa,na,la⟩:=MQ hl.1.1.1 hl.1.2;obtain⟨fb,nb,lb⟩:=MQ hl.1.1.2 hl.2;have hqb:∀e ob,e≠0->Wn (Fk a b)=e->Ad SF (a,b) (.tup [.nil,.dat i64 e]) ob:=fun e ob h0 h=>Ad.of rfl rfl (by
  show(([]:List Bg),e)=(Mh a b,C8 a b);unfold Mh C8;rw[h,wd h0])
 have fin:∀N W,W=Fk a b->We N W->N<=100->Ends SQ (T66.L5 a b (FB W) (a.length:Int)) (Ad SF (a,b)):=by
  intro N W hw hs hN;have hlen:(FB W).length=W.length:=zu ..;refine ye (T66.Ei ..) (yj (w8 (by omega)) (z8 (fun k=>zk (hqb 5 _ (by decide) ?_)) (fun k=>?_)))
  ·have k:=w6 k;rw[<-hw];unfold Wn;rw[wd (by omega)]
  ·have k:=w7 k;have k:W.length<=64:=by omega
   have ee:=XS W k;refine T66.last W k (k:=19*N+1) (fun c hc=>(hs.sz c hc).mono (by omega)) ⟨by omega,by omega⟩ (fun ob h=>hqb 4 _ (by decide) (by rw[<-hw,ee,wd h])) (fun ob h=>Ad.of rfl rfl ?_) W 0 rfl (ym _) rfl;show(FB W,(0:Int))=(Mh a b,C8 a b);unfold Mh C8;rw[<-hw,ee,h];rfl
 obtain⟨x,ra,rfl⟩:∃x r,a=x::r:=by
  cases a with
  |nil=>exact wh rfl na
  |cons x r=>exact⟨x,r,rfl⟩
 obtain⟨y,rb,rfl⟩:∃y r,b=y::r:=by
  cases b with
  |nil=>exact wh rfl nb
  |cons y r=>exact⟨y,r,rfl⟩
 have fx:=fa x (zf ..);have fy:=fb y (zf ..);have nx:=RO fx;have ny:=RO fy;have nm:=nx.Gq ny;have bx:=CE fx.1;have by':=CE fy.1
 have e2:zg .i64 (x.1+y.1)=x.1+y.1:=wr _ (by omega) (by omega);have e3:C1 [] (x.1+y.1,Gq x.2 y.2)=FB (BZ (x.1+y.1) (AP x.2*AP y.2) []):=by
  have:=TE [] (x.1+y.1) (Gq x.2 y.2);rw[nm.rat]at this;exact this
 have bda:(decide ((0:Int)<=(0:Int))&&decide ((0:Int)<((x::ra).length:Int)))=true:=Ab (w4 (by omega)) (w4 (by rw[zd];omega));have bdb:(decide ((0:Int)<=(0:Int))&&decide ((0:Int)<((y::rb).length:Int)))=true:=Ab (w4 (by omega)) (w4 (by rw[zd];omega));have z0:Int.toNat 0=0:=rfl;have gx:(x::ra).getD 0 (((0:Int),[]):Bg)=x:=rfl;have gy:(y::rb).getD 0 (((0:Int),[]):Bg)=y:=rfl;have w1:zg .i64 ((0:Int)+1)=((1:Nat):Int):=rfl;have s0:Kb []=true:=rfl;refine Ends.eq (T66.Al (x::ra) (y::rb)) (ye (T66.An ..) (zc (w4 (by rw[zd];omega)) (ye (T66.AZ ..) ?_)));try conv=>zeta
 rw[z0,gx,gy,e2,e3,w1];refine zc (w4 (by rw[zd];omega)) (zc bda (zc bdb (zc bda (zc bdb (zc (Ab (nx.num (by decide)) (ny.num (by decide))) (zc (Ab s0 (nm.num (by decide))) ?_))))));have hm:(ra.length+1)*(rb.length+1)<=100:=by
  have h1:ra.length+1<=10:=la;have h2:rb.length+1<=10:=lb;exact qx (Nat.mul_le_mul h1 h2) (by decide)
 rw[qk,ql]at hm;refine T66.inner (x::ra) (y::rb) fa fb la lb 0 x (by rw[zd];omega) rfl (zf ..) rb 1 (0+1) _ rfl (by rw[zd];omega) (We.nil.step (nx.z.mul ny.z)) (by omega) fun W' hw hs'=>?_
 exact T66.outer (x::ra) (y::rb) fa fb la lb fin ra 1 (0+1+rb.length) W' rfl (by rw[zd];omega) hs' (by rw[zd];omega) (by unfold Fk;rw[Sp.all_cons,hw,Ib])
section
open List Int Prod
namespace T60
def T(a:List (Int×List UInt8))(b:List (Int×List UInt8)):Tr:=tree JX false 9 60 (Af ([zj (ze i64 zi),zj (ze i64 zi)]) (a,b))
def L1(v1:List (Int×List UInt8))(v29:List (Int×List UInt8))(v30 v31:Int)(o0:List (Int×(Int×List Int)×Int×List Int)):Tr:=re ((T [] []).L.L.L.R) (AA 103 [(1,.dat (zj (ze i64 zi)) v1),(7,PV.mp 0),(8,.nil),(29,.dat (zj (ze i64 zi)) v29),(30,.dat i64 v30),(31,.dat i64 v31)] [(0,Obj.map i64 (ze (ze i64 (zr (yb zh))) (ze i64 (zr (yb zh)))) o0)] 1)
theorem Al(a:List (Int×List UInt8))(b:List (Int×List UInt8)):T a b=.ite (K8 a) (.ite (K8 b) (.ite (decide (2<=2)&&true&&decide (2<=1000000)) (.ite (qe [As a,As b] !=0) (.leaf (.tup [.nil,.dat i64 (qe [As a,As b])]) ([(0,.arr false 25 i64 [As a,As b])])) (L1 b a ((length a:Int)) 0 [])) .fail) .fail) .fail:=by kernel_rfl
def L2(v1:List (Int×List UInt8))(v29:List (Int×List UInt8))(v30 v31:Int)(v35:List (Int×List UInt8))(v36 v37 o1:Int)(o1_1:List UInt8)(o0:List (Int×(Int×List Int)×Int×List Int)):Tr:=re ((stepT JX (L1 [] [] 0 0 [])).L.L) (AA 103 [(1,.dat (zj (ze i64 zi)) v1),(7,PV.mp 0),(8,.nil),(10,.ptr 1 0),(29,.dat (zj (ze i64 zi)) v29),(30,.dat i64 v30),(31,.dat i64 v31),(35,.dat (zj (ze i64 zi)) v35),(36,.dat i64 v36),(37,.dat i64 v37)] [(1,.box [.dat i64 o1,.dat zi o1_1]),(0,Obj.map i64 (ze (ze i64 (zr (yb zh))) (ze i64 (zr (yb zh)))) o0)] 2)
def L3(v78 v79:Int)(o0:List (Int×(Int×List Int)×Int×List Int)):Tr:=re ((stepT JX (L1 [] [] 0 0 [])).R.R.L) (AA 103 [(7,PV.mp 0),(16,.nil),(77,.nil),(78,.dat i64 v78),(79,.dat i64 v79)] [(0,Obj.map i64 (ze (ze i64 (zr (yb zh))) (ze i64 (zr (yb zh)))) o0)] 1)
theorem An(v1:List (Int×List UInt8))(v29:List (Int×List UInt8))(v30 v31:Int)(o0:List (Int×(Int×List Int)×Int×List Int)):stepT JX (L1 v1 v29 v30 v31 o0)=let a':=ze i64 (zr (yb zh));let b':=getD v29 (toNat v31) (0,[]);.ite (decide (v31<v30)) (.ite (decide (0<=v31)&&decide (v31<(length v29:Int))) (L2 v1 v29 v30 v31 v1 ((length v1:Int)) 0 (fst b') (snd b') o0) .fail) (.ite false (.leaf (.tup [.nil,.dat i64 (5:Int)]) ([(0,Obj.map i64 (ze a' a') o0)])) (.ite false (L3 0 0 o0) .fail)):=by kernel_rfl
def L4(v1:List (Int×List UInt8))(v8n:Nat)(v13:Int)(v29:List (Int×List UInt8))(v30 v31:Int)(v35:List (Int×List UInt8))(v36 v37 o4:Int)(o4_1:List Int)(o4_2:Int)(o4_3:List Int)(o3:Int)(o3_1:List UInt8)(o2:Int)(o2_1:List UInt8)(o1:List Int)(o0:List (Int×(Int×List Int)×Int×List Int)):Tr:=re ((stepT JX (L2 [] [] 0 0 [] 0 0 0 [] [])).L.L.L.L.L) (AA 103 [(1,.dat (zj (ze i64 zi)) v1),(7,PV.mp 0),(8,.sl 1 1 0 v8n none),(10,.ptr 2 0),(12,.ptr 3 0),(13,.dat i64 v13),(14,.ptr 4 0),(29,.dat (zj (ze i64 zi)) v29),(30,.dat i64 v30),(31,.dat i64 v31),(35,.dat (zj (ze i64 zi)) v35),(36,.dat i64 v36),(37,.dat i64 v37)] [(4,.box [.dat i64 o4,.dat (zr (yb zh)) o4_1,.dat i64 o4_2,.dat (zr (yb zh)) o4_3]),(3,.box [.dat i64 o3,.dat zi o3_1]),(2,.box [.dat i64 o2,.dat zi o2_1]),(1,.arr false 3 i64 o1),(0,Obj.map i64 (ze (ze i64 (zr (yb zh))) (ze i64 (zr (yb zh)))) o0)] 5)
def L5(v1:List (Int×List UInt8))(v13:Int)(v29:List (Int×List UInt8))(v30 v31:Int)(v35:List (Int×List UInt8))(v36 v37 o3:Int)(o3_1:List Int)(o3_2:Int)(o3_3:List Int)(o2:Int)(o2_1:List UInt8)(o1:Int)(o1_1:List UInt8)(o0:List (Int×(Int×List Int)×Int×List Int)):Tr:=re ((stepT JX (L2 [] [] 0 0 [] 0 0 0 [] [])).L.L.R) (AA 103 [(1,.dat (zj (ze i64 zi)) v1),(7,PV.mp 0),(8,.nil),(10,.ptr 1 0),(12,.ptr 2 0),(13,.dat i64 v13),(14,.ptr 3 0),(29,.dat (zj (ze i64 zi)) v29),(30,.dat i64 v30),(31,.dat i64 v31),(35,.dat (zj (ze i64 zi)) v35),(36,.dat i64 v36),(37,.dat i64 v37)] [(3,.box [.dat i64 o3,.dat (zr (yb zh)) o3_1,.dat i64 o3_2,.dat (zr (yb zh)) o3_3]),(2,.box [.dat i64 o2,.dat zi o2_1]),(1,.box [.dat i64 o1,.dat zi o1_1]),(0,Obj.map i64 (ze (ze i64 (zr (yb zh))) (ze i64 (zr (yb zh)))) o0)] 4)
theorem AZ(v1:List (Int×List UInt8))(v29:List (Int×List UInt8))(v30 v31:Int)(v35:List (Int×List UInt8))(v36 v37 o1:Int)(o1_1:List UInt8)(o0:List (Int×(Int×List Int)×Int×List Int)):stepT JX (L2 v1 v29 v30 v31 v35 v36 v37 o1 o1_1 o0)=let b':=getD v35 (toNat v37) (0,[]);let e':=ze i64 (zr (yb zh));let d':=zg .i64 (o1+fst b');let a':=DO i64 (ze e' e') d' o0;let c':=qm a' ((0,[]),0,[]);.ite (decide (v37<v36)) (.ite (decide (0<=v37)&&decide (v37<(length v35:Int))) (.ite (!Option.isSome a') (.ite true (.ite (decide (1<=1)&&decide (0<1)&&decide ((2*1+1000)*8<=281474976710656)) (L4 v1 1 d' v29 v30 v31 v35 v36 v37 0 (BB 0) 1 (BB 1) (fst b') (snd b') o1 o1_1 ([zg .i64 (o1+fst b')]) o0) .fail) .fail) (L5 v1 d' v29 v30 v31 v35 v36 v37 (fst (fst c')) (snd (fst c')) (fst (snd c')) (snd (snd c')) (fst b') (snd b') o1 o1_1 o0)) .fail) (L1 v1 v29 v30 (zg .i64 (v31+1)) o0):=by kernel_rfl
def L6(v1:List (Int×List UInt8))(v8n:Nat)(v29:List (Int×List UInt8))(v30 v31:Int)(v35:List (Int×List UInt8))(v36 v37 o2:Int)(o2_1:List UInt8)(o1:List Int)(o0:List (Int×(Int×List Int)×Int×List Int)):Tr:=re ((stepT JX (L4 [] 0 0 [] 0 0 [] 0 0 0 [] 0 [] 0 [] 0 [] [] [])).L.L.L.L) (AA 103 [(1,.dat (zj (ze i64 zi)) v1),(7,PV.mp 0),(8,.sl 1 1 0 v8n none),(10,.ptr 2 0),(29,.dat (zj (ze i64 zi)) v29),(30,.dat i64 v30),(31,.dat i64 v31),(35,.dat (zj (ze i64 zi)) v35),(36,.dat i64 v36),(37,.dat i64 v37)] [(2,.box [.dat i64 o2,.dat zi o2_1]),(1,.arr false 3 i64 o1),(0,Obj.map i64 (ze (ze i64 (zr (yb zh))) (ze i64 (zr (yb zh)))) o0)] 3)
theorem Ct(v1:List (Int×List UInt8))(v8n:Nat)(v13:Int)(v29:List (Int×List UInt8))(v30 v31:Int)(v35:List (Int×List UInt8))(v36 v37 o4:Int)(o4_1:List Int)(o4_2:Int)(o4_3:List Int)(o3:Int)(o3_1:List UInt8)(o2:Int)(o2_1:List UInt8)(o1:List Int)(o0:List (Int×(Int×List Int)×Int×List Int)):stepT JX (L4 v1 v8n v13 v29 v30 v31 v35 v36 v37 o4 o4_1 o4_2 o4_3 o3 o3_1 o2 o2_1 o1 o0)=let a':=ze i64 (zr (yb zh));let b':=OD (Jr o2_1) (Jr o3_1);.ite (Hg o2_1) (.ite (Hg o3_1) (.ite (Sp.FC (Jr o2_1)&&Sp.FC (Jr o3_1)) (.ite (Sp.FC ((o4,o4_1),o4_2,o4_3)&&Sp.FC b') (L6 v1 v8n v29 v30 v31 v35 v36 (zg .i64 (v37+1)) o2 o2_1 o1 (Km i64 (ze a' a') v13 (Hp ((o4,o4_1),o4_2,o4_3) b') o0)) .fail) .fail) .fail) .fail:=by kernel_rfl
def L7(v1:List (Int×List UInt8))(v8n:Nat)(v29:List (Int×List UInt8))(v30 v31:Int)(o1:List Int)(o0:List (Int×(Int×List Int)×Int×List Int)):Tr:=re ((stepT JX (L6 [] 0 [] 0 0 [] 0 0 0 [] [] [])).R) (AA 103 [(1,.dat (zj (ze i64 zi)) v1),(7,PV.mp 0),(8,.sl 1 1 0 v8n none),(29,.dat (zj (ze i64 zi)) v29),(30,.dat i64 v30),(31,.dat i64 v31)] [(1,.arr false 3 i64 o1),(0,Obj.map i64 (ze (ze i64 (zr (yb zh))) (ze i64 (zr (yb zh)))) o0)] 2)
theorem Eo(v1:List (Int×List UInt8))(v8n:Nat)(v29:List (Int×List UInt8))(v30 v31:Int)(v35:List (Int×List UInt8))(v36 v37 o2:Int)(o2_1:List UInt8)(o1:List Int)(o0:List (Int×(Int×List Int)×Int×List Int)):stepT JX (L6 v1 v8n v29 v30 v31 v35 v36 v37 o2 o2_1 o1 o0)=let b':=getD v35 (toNat v37) (0,[]);let e':=ze i64 (zr (yb zh));let d':=zg .i64 (o2+fst b');let a':=DO i64 (ze e' e') d' o0;let c':=qm a' ((0,[]),0,[]);.ite (decide (v37<v36)) (.ite (decide (0<=v37)&&decide (v37<(length v35:Int))) (.ite (!Option.isSome a') (.ite true (.ite (decide (1<=1)&&true&&decide (v8n=length o1)&&decide ((2*(v8n+1)+1000)*8<=281474976710656)) (L4 v1 (zq v8n 1) d' v29 v30 v31 v35 v36 v37 0 (BB 0) 1 (BB 1) (fst b') (snd b') o2 o2_1 (o1++[zg .i64 (o2+fst b')]) o0) .fail) .fail) (L4 v1 v8n d' v29 v30 v31 v35 v36 v37 (fst (fst c')) (snd (fst c')) (fst (snd c')) (snd (snd c')) (fst b') (snd b') o2 o2_1 o1 o0)) .fail) (L7 v1 v8n v29 v30 (zg .i64 (v31+1)) o1 o0):=by kernel_rfl
def L8(v77n:Nat)(v78 v79:Int)(o1:List Int)(o0:List (Int×(Int×List Int)×Int×List Int)):Tr:=re ((stepT JX (L7 [] 0 [] 0 0 [] [])).R.R.L) (AA 103 [(7,PV.mp 0),(16,.nil),(77,.sl 1 1 0 v77n none),(78,.dat i64 v78),(79,.dat i64 v79)] [(1,.arr false 3 i64 o1),(0,Obj.map i64 (ze (ze i64 (zr (yb zh))) (ze i64 (zr (yb zh)))) o0)] 2)
theorem ES(v1:List (Int×List UInt8))(v8n:Nat)(v29:List (Int×List UInt8))(v30 v31:Int)(o1:List Int)(o0:List (Int×(Int×List Int)×Int×List Int)):stepT JX (L7 v1 v8n v29 v30 v31 o1 o0)=let a':=ze i64 (zr (yb zh));let b':=getD v29 (toNat v31) (0,[]);.ite (decide (v31<v30)) (.ite (decide (0<=v31)&&decide (v31<(length v29:Int))) (L6 v1 v8n v29 v30 v31 v1 ((length v1:Int)) 0 (fst b') (snd b') o1 o0) .fail) (.ite (decide ((↑v8n:Int)>64)) (.leaf (.tup [.nil,.dat i64 (5:Int)]) ([(1,.arr false 3 i64 o1),(0,Obj.map i64 (ze a' a') o0)])) (.ite (decide (length o1≠0)&&decide (length o1<=1000000)&&decide (v8n=length o1)&&true) (L8 v8n ((↑v8n:Int)) 0 (qq o1) o0) .fail)):=by kernel_rfl
def L9(v16n v77n:Nat)(v78 v79:Int)(o2:List Int)(o1:List (Int×List UInt8))(o0:List (Int×(Int×List Int)×Int×List Int)):Tr:=re ((stepT JX (L8 0 0 0 [] [])).L.L.L.L.R.L.R.L.L) (AA 103 [(7,PV.mp 0),(16,.sl 1 2 0 v16n none),(77,.sl 2 1 0 v77n none),(78,.dat i64 v78),(79,.dat i64 v79)] [(2,.arr false 3 i64 o2),(1,.arr false 95 (ze i64 zi) o1),(0,Obj.map i64 (ze (ze i64 (zr (yb zh))) (ze i64 (zr (yb zh)))) o0)] 3)
theorem HL(v77n:Nat)(v78 v79:Int)(o1:List Int)(o0:List (Int×(Int×List Int)×Int×List Int)):stepT JX (L8 v77n v78 v79 o1 o0)=let d':=ze i64 (zr (yb zh));let a':=ze d' d';let b':=qm (DO i64 a' (getD o1 (toNat v79) 0) o0) ((0,[]),0,[]);let c':=[(1,.arr false 3 i64 o1),(0,Obj.map i64 a' o0)];let e':Tr:=.leaf (.tup [.nil,.dat i64 (4:Int)]) c';.ite (decide (v79<v78)) (.ite (decide (0<=v79)&&decide (v79<(↑v77n:Int))) (.ite (decide (toNat v79<length o1)) (.ite true (.ite (!yq (getD o1 (toNat v79) 0)) e' (.ite (Sp.Du b') (.ite (DM b') e' (.ite (Sp.Du b') (.ite (decide (1<=1)&&decide (0<1)&&decide ((2*1+1000)*24<=281474976710656)) (L9 1 v77n v78 (zg .i64 (v79+1)) o1 ([(getD o1 (toNat v79) 0,FT b')]) o0) .fail) .fail)) .fail)) .fail) .fail) .fail) (.leaf (.tup [.nil,.dat i64 (0:Int)]) c'):=by kernel_rfl
theorem XW(v16n v77n:Nat)(v78 v79:Int)(o2:List Int)(o1:List (Int×List UInt8))(o0:List (Int×(Int×List Int)×Int×List Int)):stepT JX (L9 v16n v77n v78 v79 o2 o1 o0)=let d':=ze i64 (zr (yb zh));let a':=ze d' d';let b':=qm (DO i64 a' (getD o2 (toNat v79) 0) o0) ((0,[]),0,[]);let c':=[(2,.arr false 3 i64 o2),(1,.arr false 95 (ze i64 zi) o1),(0,Obj.map i64 a' o0)];let e':Tr:=.leaf (.tup [.nil,.dat i64 (4:Int)]) c';.ite (decide (v79<v78)) (.ite (decide (0<=v79)&&decide (v79<(↑v77n:Int))) (.ite (decide (toNat v79<length o2)) (.ite true (.ite (!yq (getD o2 (toNat v79) 0)) e' (.ite (Sp.Du b') (.ite (DM b') e' (.ite (Sp.Du b') (.ite (decide (1<=1)&&true&&decide (v16n=length o1)&&decide ((2*(v16n+1)+1000)*24<=281474976710656)) (L9 (zq v16n 1) v77n v78 (zg .i64 (v79+1)) o2 (o1++[(getD o2 (toNat v79) 0,FT b')]) o0) .fail) .fail)) .fail)) .fail) .fail) .fail) (.leaf (.tup [.sl 1 2 0 v16n none,.dat i64 (0:Int)]) c'):=by kernel_rfl
end T60
end
end Go.Pe
namespace Go.Sp
theorem T4{v:Int}{q:Rat}:∀ {W:WT},Cy v W=some q->(v,q)∈W
 |[],h=>by cases h
 |c::l,h=>by
  rw[Cy]at h;split at h
  ·next e=>
   have:c=(v,q):=Prod.ext e (Option.some.inj h);rw[this];exact zf ..
  ·exact zt _ (T4 h)
theorem QL{c:Int×Rat}:∀ {W:WT},sZ W->c∈W->Cy c.1 W=some c.2
 |[],_,h=>by cases h
 |d::l,hu,h=>by
  obtain⟨h1,h2⟩:=yg.1 hu;rw[Cy];rcases yd.1 h with rfl|h
  ·rw[wd rfl]
  ·have:=h1 c h;rw[wc (by omega),QL h2 h]
theorem oY{v:Int}{q:Rat}:∀W:WT,BZ v q W≠[]
 |[]=>by rw[BZ];exact yz _ _
 |c::l=>by
  rw[BZ];split
  ·exact yz _ _
  ·split<;>exact yz _ _
theorem Wd(x:Bg):∀(b:List Bg) (w:WT),(b≠[]\/w≠[])->PW x b w≠[]
 |[],w,h=>by
  rw[PW];rcases h with h|h
  ·exact wh rfl h
  ·exact h
 |y::b,w,_=>by
  rw[Ib];exact Wd x b _ (.inr (oY _))
theorem Z7:∀(a b:List Bg) (w:WT),w≠[]->NB a b w≠[]
 |[],b,w,h=>by rw[NB];exact h
 |x::a,b,w,h=>by
  rw[all_cons];exact Z7 a b _ (Wd x b w (.inr h))
theorem mY(x y:Bg)(a b:List Bg):Fk (x::a) (y::b)≠[]:=by
 unfold Fk;rw[all_cons];exact Z7 a _ _ (Wd x _ _ (.inl (yz _ _)))
end Go.Sp
namespace Go.Pe
open Sp
open Go.Det
abbrev MC:=List (Int×AS)
abbrev fZ(v:Int)(m:MC):Option AS:=DO (.int .i64) BS v m
abbrev Z5(v:Int)(f:AS)(m:MC):MC:=Km (.int .i64) BS v f m
structure Jj(N:Nat)(m:MC)(vals:List Int)(W:Sp.WT):Prop where
 st:We N W
 up:sZ W
 perm:vals.Perm (W.map yi)
 none':∀v,Cy v W=none->fZ v m=none
 some':∀v q,Cy v W=some q->∃f,fZ v m=some f/\EW f q
theorem Jj.nil:Jj 0 [] [] []:=⟨We.nil,List.Pairwise.nil,.refl _,fun _ _=>rfl,fun _ _ h=>(by cases h)⟩
theorem Jj.step{N:Nat}{m:MC}{vals vals':List Int}{W:Sp.WT}(h:Jj N m vals W){v:Int}{f g:AS}{p:Rat}(hf:EW f ((Cy v W).getD 0))(hz:ER 1950 ((Cy v W).getD 0))(hg:EW g p)(zp:ER 18 p)(hv:vals'.Perm ((BZ v p W).map yi)):Jj (N+1) (Z5 v (Hp f g) m) vals' (BZ v p W) where
 st:=h.st.step zp
 up:=W5 h.up
 perm:=hv
 none':=fun u hu=>by
  rw[LO h.up]at hu;split at hu
  ·cases hu
  ·next e=>
   have:=GB (v:=BS) (q:=.i64) u v (Hp f g) m;rw[wc e]at this;exact this.trans (h.none' u hu)
 some':=fun u q hu=>by
  rw[LO h.up]at hu;have:=GB (v:=BS) (q:=.i64) u v (Hp f g) m;split at hu
  ·next e=>
   rw[wd e]at this;refine⟨_,this,?_⟩;rw[<-Option.some.inj hu];exact EW.add hf hg (Cc hz (by decide)) (Cc zp (by decide))
  ·next e=>
   rw[wc e]at this;obtain⟨f',h1,h2⟩:=h.some' u q hu;exact⟨f',this.trans h1,h2⟩
theorem UJ{vals:List Int}{W:Sp.WT}(hu:sZ W)(hp:vals.Perm (W.map yi)):qq vals=W.map yi:=by
 have h1:(qq vals).Pairwise (fun x y=>decide (x<=y)=true):=List.pairwise_mergeSort (fun a b c h1 h2=>by
  have h1:=w6 h1;have h2:=w6 h2;exact w4 (by omega)) (fun a b=>by
  rw[yu,w5,w5];omega) vals
 have h2:(W.map yi).Pairwise (fun x y=>decide (x<=y)=true):=by
  rw[List.pairwise_map];exact List.Pairwise.imp (fun {a b} h=>w4 (by omega)) hu
 exact List.Perm.eq_of_pairwise (fun a b _ _ h1 h2=>by
  have h1:=w6 h1;have h2:=w6 h2;omega) h1 h2 ((List.mergeSort_perm ..).trans hp)
theorem mD:DF JX:=Aa T130.ok (Aa T63.ok (Aa T83.ok (Aa T111.ok (Aa T87.ok (Aa T82.ok (Aa T80.ok (Aa T131.ok (Aa T132.ok AN))))))))
theorem sI:∀g w,JX.ws g=some w->Fb Bh g w:=Yo (l:=[(129,W9)]) fun x hx=>by
 cases y9.1 hx;exact Vg (by kernel_rfl) (Bn (by kernel_rfl)) rfl
namespace T60
variable {Q:PV->Ob->Prop}
theorem elem{N:Nat}{m:MC}{vals:List Int}{W:Sp.WT}(h:Jj N m vals W)(hN:N<=100){c:Int×Rat}(hc:c∈W):∃f,fZ c.1 m=some f/\EW f c.2/\Sp.Du f=true/\DM f=JE c.2/\FT f=AE c.2:=by
 obtain⟨f,h1,h2⟩:=h.some' c.1 c.2 (QL h.up hc);exact⟨f,h1,h2,h2.Du (Cc (h.st.sz c hc) (by omega)),QZ h2,TB h2⟩
theorem last(N:Nat)(m:MC)(vals:List Int)(W:Sp.WT)(hm:Jj N m vals W)(hN:N<=100)(h64:W.length<=64)(hb:∀ob,W.any DT=true->Q (.tup [.nil,.dat i64 4]) ob)(hq:∀n ob,W.any DT=false->n=(FB W).length->AI ob 1=some (.arr false 95 Fe (FB W))->Q (.tup [.sl 1 2 0 n none,.dat i64 0]) ob):∀(r:Sp.WT) (i:Nat),W.drop i=r->i<=W.length->W.any DT=r.any DT->Ends JX (L9 i W.length (W.length:Int) (i:Int) (W.map yi) (FB (W.take i)) m) Q
 |[],i,h,hi,he=>by
  have:=drop_nil h hi;have e:i=W.length:=by omega
  subst e;rw[List.take_length];exact ye (XW ..) (yj (w8 (by omega)) (zk (hq _ _ he (by unfold FB;rw[zu]) rfl)))
 |c::r,i,h,hi,he=>by
  have hcm:c∈W:=yc (by rw[h];exact zf ..);obtain⟨g1,_,g3⟩:=drop_cons (d:=((0:Int),(0:Rat))) h;have hd:(W.map yi).drop i=c.1::r.map yi:=by rw[<-y7,h];rfl
  obtain⟨_,g2,_⟩:=drop_cons (d:=(0:Int)) hd;have hl:(W.map yi).length=W.length:=zu ..;have e1:zg .i64 ((i:Int)+1)=((i+1:Nat):Int):=by rw[wr _ (by omega) (by omega)];omega
  obtain⟨f,f1,f2,f3,f4,f5⟩:=elem hm hN hcm;have hto:(FB (W.take i)).length=i:=by unfold FB;rw[zu,List.length_take];omega
  have hnext:FB (W.take i)++[(c.1,AE c.2)]=FB (W.take (i+1)):=by
   unfold FB;rw[List.take_add_one,List.map_append];congr 1;have hc:W[i]?=some c:=by
    have:=wi List.head? h;rw[List.head?_drop]at this;exact this
   rw[hc];rfl
  rw[qo]at he;refine ye (XW ..) ?_;conv=>zeta
  rw[e1,z6,g2];refine zc (w4 (by omega)) (zc (Ab (w4 (by omega)) (w4 (by omega))) (zc (w4 (by rw[hl];exact g1)) (zc rfl (z8 (fun k=>zk (hb _ ?_)) (fun k=>?_)))))
  ·have k:yq c.1=false:=by simpa using k
   rw[he];have:DT c=true:=by
    unfold DT;unfold yq at k;rw[yu,yu,w5,w5];rw[yx,w9,w9]at k;omega
   rw[this,yh]
  have k:yq c.1=true:=by simpa using k
  have f1:DO (.int .i64) BS c.1 m=some f:=f1;rw[f1];refine zc f3 (z8 (fun k2=>zk (hb _ ?_)) (fun k2=>?_))
  ·have k2:DM f=true:=k2;rw[f4]at k2;rw[he];unfold DT;rw[k2,y8,yh]
  ·have k2:DM f=false:=by simpa using k2
   rw[f4]at k2;have hf:DT c=false:=by
    have:=CE k;unfold DT;rw[w8 (by omega),w8 (by omega),k2];rfl
   rw[hf,qp]at he;refine zc f3 (zc ?_ ?_)
   ·exact Ab (Ab (Ab (w4 (yp 1)) rfl) (w4 hto.symm)) (w4 (by omega))
   ·show Ends JX (L9 (i+1) W.length (W.length:Int) ((i+1:Nat):Int) (W.map yi) (FB (W.take i)++[(c.1,FT f)]) m) Q;rw[f5,hnext];exact last N m vals W hm hN h64 hb hq r (i+1) g3 g1 he
theorem start(N:Nat)(m:MC)(vals:List Int)(W:Sp.WT)(hm:Jj N m vals W)(hN:N<=100)(h64:W.length<=64)(hne:W≠[])(hb:∀ob,W.any DT=true->Q (.tup [.nil,.dat i64 4]) ob)(hq:∀n ob,W.any DT=false->n=(FB W).length->AI ob 1=some (.arr false 95 Fe (FB W))->Q (.tup [.sl 1 2 0 n none,.dat i64 0]) ob):Ends JX (L8 W.length (W.length:Int) 0 (W.map yi) m) Q:=by
 obtain⟨c,r,rfl⟩:∃c r,W=c::r:=by
  cases W with
  |nil=>exact wh rfl hne
  |cons c r=>exact⟨c,r,rfl⟩
 obtain⟨f,f1,f2,f3,f4,f5⟩:=elem hm hN (zf ..);have z0:Int.toNat 0=0:=rfl;have g2:((c::r).map yi).getD 0 (0:Int)=c.1:=rfl;have w1:zg .i64 ((0:Int)+1)=((1:Nat):Int):=rfl;have he:(c::r).any DT=(DT c||r.any DT):=qo ..;refine ye (HL ..) ?_;conv=>zeta
 rw[z0,g2,w1];refine zc (w4 (by rw[zd];omega)) (zc (Ab (w4 (by omega)) (w4 (by rw[zd];omega))) (zc (w4 (by rw[zu,zd];omega)) (zc rfl (z8 (fun k=>zk (hb _ ?_)) (fun k=>?_)))))
 ·have k:yq c.1=false:=by simpa using k
  rw[he];have:DT c=true:=by
   unfold DT;unfold yq at k;rw[yu,yu,w5,w5];rw[yx,w9,w9]at k;omega
  rw[this,yh]
 have k:yq c.1=true:=by simpa using k
 have f1:DO (.int .i64) BS c.1 m=some f:=f1;rw[f1];refine zc f3 (z8 (fun k2=>zk (hb _ ?_)) (fun k2=>?_))
 ·have k2:DM f=true:=k2;rw[f4]at k2;rw[he];unfold DT;rw[k2,y8,yh]
 ·have k2:DM f=false:=by simpa using k2
  rw[f4]at k2;have hf:DT c=false:=by
   have:=CE k;unfold DT;rw[w8 (by omega),w8 (by omega),k2];rfl
  refine zc f3 (zc rfl ?_);have go:=last (Q:=Q) N m vals (c::r) hm hN h64 hb hq r 1 rfl (by rw[zd];omega) (by rw[he,hf,qp]);have e2:FB ((c::r).take 1)=[(c.1,FT f)]:=by rw[f5];rfl
  rw[e2]at go;exact go
theorem cM(a b:List Bg)(i k n:Nat)(x y:Bg)(fx:yq x.1=true/\AO x.2=0/\Sp.K9 x.2<=9)(fy:yq y.1=true/\AO y.2=0/\Sp.K9 y.2<=9)(hk:k<b.length)(hlb:b.length<=10)(v:Int)(f:AS)(q:Rat)(hf:EW f q)(hz:ER 1950 q)(vals:List Int)(m:MC)(h:Ends JX (L6 b n a (a.length:Int) (i:Int) b (b.length:Int) ((k+1:Nat):Int) x.1 x.2 vals (Z5 v (Hp f (OD (Jr x.2) (Jr y.2))) m)) Q):Ends JX (L4 b n v a (a.length:Int) (i:Int) b (b.length:Int) (k:Int) f.1.1 f.1.2 f.2.1 f.2.2 y.1 y.2 x.1 x.2 vals m) Q:=by
 obtain⟨rx,zx,_,_,bx⟩:=D5 fx.2.1;obtain⟨ry,zy,_,_,by'⟩:=D5 fy.2.1;have zx:=zx.mono fx.2.2;have zy:=zy.mono fy.2.2;have sx:=Cc zx (by decide);have sy:=Cc zy (by decide);have rm:=EW.mul rx ry sx sy;have sm:=Cc (zx.mul zy) (by decide);have e1:zg .i64 ((k:Int)+1)=((k+1:Nat):Int):=by rw[wr _ (by omega) (by omega)];omega
 refine ye (Ct ..) ?_;conv=>zeta
 rw[e1];exact zc bx (zc by' (zc (Ab (rx.FC sx) (ry.FC sy)) (zc (Ab (hf.FC (Cc hz (by decide))) (rm.FC sm)) h)))
theorem UC{x y:Bg}(fx:yq x.1=true/\AO x.2=0/\Sp.K9 x.2<=9)(fy:yq y.1=true/\AO y.2=0/\Sp.K9 y.2<=9):EW (OD (Jr x.2) (Jr y.2)) (AP x.2*AP y.2)/\ER 18 (AP x.2*AP y.2):=by
 obtain⟨rx,zx,_⟩:=D5 fx.2.1;obtain⟨ry,zy,_⟩:=D5 fy.2.1;have zx:=zx.mono fx.2.2;have zy:=zy.mono fy.2.2;exact⟨EW.mul rx ry (Cc zx (by decide)) (Cc zy (by decide)),zx.mul zy⟩
theorem inner(a b:List Bg)(ha:Su a)(hb:Su b)(hla:a.length<=10)(hlb:b.length<=10)(i:Nat)(x:Bg)(hi:i<a.length)(hxm:x∈a):∀(r:List Bg) (k N n:Nat) (vals:List Int) (m:MC) (W:Sp.WT),b.drop k=r->k<=b.length->Jj N m vals W->n=vals.length->N+r.length<=100->(∀n' vals' m' W',W'=PW x r W->Jj (N+r.length) m' vals' W'->n'=vals'.length->Ends JX (L7 b n' a (a.length:Int) ((i+1:Nat):Int) vals' m') Q)->Ends JX (L6 b n a (a.length:Int) (i:Int) b (b.length:Int) (k:Int) x.1 x.2 vals m) Q
 |[],k,N,n,vals,m,W,h,hk,hm,hn,hN,hq=>by
  have:=drop_nil h hk;have e1:zg .i64 ((i:Int)+1)=((i+1:Nat):Int):=by rw[wr _ (by omega) (by omega)];omega
  refine ye (Eo ..) (yj (w8 (by omega)) ?_);rw[e1];exact hq n vals m W rfl hm hn
 |y::r,k,N,n,vals,m,W,h,hk,hm,hn,hN,hq=>by
  obtain⟨g1,g2,g3⟩:=drop_cons (d:=(((0:Int),[]):Bg)) h;have hym:y∈b:=yc (by rw[h];exact zf ..);have fx:=ha x hxm;have fy:=hb y hym;obtain⟨rp,zp⟩:=UC fx fy;have bx:=CE fx.1;have by':=CE fy.1
  have e2:zg .i64 (x.1+y.1)=x.1+y.1:=wr _ (by omega) (by omega);rw[zd]at hN hq;have hlen:vals.length<=N:=by
   have:=hm.perm.length_eq;rw[zu]at this;have:=hm.st.ln;omega
  have next:∀(n':Nat) (vals':List Int) (m':MC),Jj (N+1) m' vals' (BZ (x.1+y.1) (AP x.2*AP y.2) W)->n'=vals'.length->Ends JX (L6 b n' a (a.length:Int) (i:Int) b (b.length:Int) ((k+1:Nat):Int) x.1 x.2 vals' m') Q:=by
   intro n' vals' m' hm' hn';refine inner a b ha hb hla hlb i x hi hxm r (k+1) (N+1) n' vals' m' _ g3 g1 hm' hn' (by omega) fun n2 v2 m2 W2 hw hm2 hn2=>hq n2 v2 m2 W2 (by rw[hw,Ib]) ?_ hn2
   have:N+1+r.length=N+(r.length+1):=by omega
   rw[<-this];exact hm2
  refine ye (Eo ..) ?_;conv=>zeta
  rw[z6,g2,e2];refine zc (w4 (by omega)) (zc (Ab (w4 (by omega)) (w4 (by omega))) ?_);cases hlk:Cy (x.1+y.1) W with
  |none=>
   have f1:DO (.int .i64) BS (x.1+y.1) m=none:=hm.none' _ hlk;rw[f1];refine zc rfl (zc rfl (zc ?_ ?_))
   ·exact Ab (Ab (Ab (w4 (yp 1)) rfl) (w4 hn)) (w4 (by omega))
   ·have hz:ER 1950 0:=Gb.mono (by decide);refine cM a b i k (zq n 1) x y fx fy g1 hlb (x.1+y.1) ((0,BB 0),(1,BB 1)) 0 Fs hz (vals++[x.1+y.1]) m (next _ _ _ ?_ ?_)
    ·refine hm.step (by rw[hlk];exact Fs) (by rw[hlk];exact hz) rp zp ?_;exact(List.perm_append_singleton ..).trans ((hm.perm.cons _).trans (QD hlk).symm)
    ·rw[yv, <-hn];rfl
  |some q=>
   obtain⟨f,f1,f2⟩:=hm.some' _ q hlk;have f1:DO (.int .i64) BS (x.1+y.1) m=some f:=f1;rw[f1];have hz:ER 1950 q:=(hm.st.sz _ (T4 hlk)).mono (by omega);refine yj rfl (cM a b i k n x y fx fy g1 hlb (x.1+y.1) f q f2 hz vals m (next _ _ _ ?_ hn));refine hm.step (by rw[hlk];exact f2) (by rw[hlk];exact hz) rp zp ?_;rw[P7 hm.up (by rw[hlk];rfl)];exact hm.perm
theorem outer(a b:List Bg)(ha:Su a)(hb:Su b)(hla:a.length<=10)(hlb:b.length<=10)(hq:∀N n vals m W,W=Fk a b->Jj N m vals W->n=vals.length->N<=100->Ends JX (L7 b n a (a.length:Int) (a.length:Int) vals m) Q):∀(r:List Bg) (i N n:Nat) (vals:List Int) (m:MC) (W:Sp.WT),a.drop i=r->i<=a.length->Jj N m vals W->n=vals.length->N+r.length*b.length<=100->Fk a b=NB r b W->Ends JX (L7 b n a (a.length:Int) (i:Int) vals m) Q
 |[],i,N,n,vals,m,W,h,hi,hm,hn,hN,he=>by
  have:=drop_nil h hi;have e:i=a.length:=by omega
  rw[NB]at he;rw[e];exact hq N n vals m W he.symm hm hn (by omega)
 |x::r,i,N,n,vals,m,W,h,hi,hm,hn,hN,he=>by
  obtain⟨g1,g2,g3⟩:=drop_cons (d:=(((0:Int),[]):Bg)) h;have hxm:x∈a:=yc (by rw[h];exact zf ..);rw[zd,qk,ql]at hN;rw[Sp.all_cons]at he;refine ye (ES ..) ?_;conv=>zeta
  rw[z6,g2];have go:=inner (Q:=Q) a b ha hb hla hlb i x g1 hxm b 0 N n vals m W rfl (ym _) hm hn (by omega) fun n' v' m' W' hw hm' hn'=>outer a b ha hb hla hlb hq r (i+1) (N+b.length) n' v' m' W' g3 g1 hm' hn' (by omega) (by rw[he,hw])
  exact zc (w4 (by omega)) (zc (Ab (w4 (by omega)) (w4 (by omega))) go)
end T60
theorem T60.ok:Ag Bh 60 TZ:=by
 refine Kg (X:=JX) rfl mD (d:=9) (by kernel_rfl) (by kernel_rfl) (by kernel_rfl) (fun(i:List Bg×List Bg) hl=>?_) (Bn (by kernel_rfl)) sI;obtain⟨a,b⟩:=i;have hl:(BT a 10 9&&BT b 10 9)=true:=hl;rw[zl]at hl;have hqb:∀e ob,e≠0->D4 a b=e->Ad TZ (a,b) (.tup [.nil,.dat i64 e]) ob:=fun e ob h0 h=>Ad.of rfl rfl (by
  show(([]:List Bg),e)=(Gm a b,D4 a b);unfold Gm;rw[h,wd h0])
 refine Ends.eq (T60.Al a b) (zc (Jd hl.1) (zc (Jd hl.2) (zc rfl ?_)));rw[Fh];have ed:D4 a b=if As a≠0 then As a else if As b≠0 then As b else C8 a b:=rfl
 by_cases ka:As a≠0
 ·rw[wd ka]at ed ⊢;exact zc (by simpa using ka) (zk (hqb _ _ ka ed))
 rw[wc ka]at ed ⊢;have ka:As a=0:=by simpa using ka
 by_cases kb:As b≠0
 ·rw[wd kb]at ed;exact zc (by simpa using kb) (zk (hqb _ _ kb ed))
 rw[wc kb]at ed;have kb:As b=0:=by simpa using kb
 rw[kb];refine yj rfl ?_;obtain⟨fa,na,la⟩:=MQ hl.1 ka;obtain⟨fb,nb,lb⟩:=MQ hl.2 kb;have fin:∀N n vals m W,W=Fk a b->W≠[]->Jj N m vals W->n=vals.length->N<=100->Ends JX (T60.L7 b n a (a.length:Int) (a.length:Int) vals m) (Ad TZ (a,b)):=by
  intro N n vals m W hw hne hm hn hN;have hlen:vals.length=W.length:=by
   have:=hm.perm.length_eq;rwa [zu]at this
  have hW:=hm.st.ln;refine ye (T60.ES ..) (yj (w8 (by omega)) (z8 (fun k=>zk (hqb 5 _ (by decide) ?_)) (fun k=>zc ?_ ?_)))
  ·have k:=w6 k;rw[ed];unfold C8 Wn;rw[<-hw,wd (by omega)]
  ·have:vals.length≠0:=fun x=>hne (qf.1 (by omega))
   exact Ab (Ab (Ab (w4 this) (w4 (by omega))) (w4 hn)) rfl
  ·have k:=w7 k;have k:W.length<=64:=by omega
   have ee:=XS W k;have e0:C8 a b=if W.any DT then 4 else 0:=by unfold C8;rw[<-hw,ee]
   rw[UJ hm.up hm.perm,hn,hlen];refine T60.start N m vals W hm hN k hne (fun ob h=>hqb 4 _ (by decide) (by rw[ed,e0,wd h])) (fun n ob h hn ho=>Ad.of (fW rfl ho hn) rfl ?_);show(FB W,(0:Int))=(Gm a b,D4 a b);unfold Gm;rw[ed,e0,h,hw];rfl
 obtain⟨x,ra,rfl⟩:∃x r,a=x::r:=by
  cases a with
  |nil=>exact wh rfl na
  |cons x r=>exact⟨x,r,rfl⟩
 obtain⟨y,rb,rfl⟩:∃y r,b=y::r:=by
  cases b with
  |nil=>exact wh rfl nb
  |cons y r=>exact⟨y,r,rfl⟩
 have hne:Fk (x::ra) (y::rb)≠[]:=mY x y ra rb;have fx:=fa x (zf ..);have fy:=fb y (zf ..);obtain⟨rp,zp⟩:=T60.UC fx fy;have bx:=CE fx.1;have by':=CE fy.1
 have e2:zg .i64 (x.1+y.1)=x.1+y.1:=wr _ (by omega) (by omega);have z0:Int.toNat 0=0:=rfl;have gx:(x::ra).getD 0 (((0:Int),[]):Bg)=x:=rfl;have gy:(y::rb).getD 0 (((0:Int),[]):Bg)=y:=rfl;have bda:(decide ((0:Int)<=(0:Int))&&decide ((0:Int)<((x::ra).length:Int)))=true:=Ab (w4 (by omega)) (w4 (by rw[zd];omega));have bdb:(decide ((0:Int)<=(0:Int))&&decide ((0:Int)<((y::rb).length:Int)))=true:=Ab (w4 (by omega)) (w4 (by rw[zd];omega));refine ye (T60.An ..) ?_;conv=>zeta
 try conv=>zeta
 rw[z0,gx];refine zc (w4 (by rw[zd];omega)) (zc bda (ye (T60.AZ ..) ?_));try conv=>zeta
 rw[z0,gy,e2];refine zc (w4 (by rw[zd];omega)) (zc bdb (zc rfl (zc rfl (zc rfl ?_))));have hm:(ra.length+1)*(rb.length+1)<=100:=by
  have h1:ra.length+1<=10:=la;have h2:rb.length+1<=10:=lb;exact qx (Nat.mul_le_mul h1 h2) (by decide)
 rw[qk,ql]at hm;have hz:ER 1950 0:=Gb.mono (by decide);have st:Jj (0+1) (Z5 (x.1+y.1) (Hp ((0,BB 0),(1,BB 1)) (OD (Jr x.2) (Jr y.2))) []) [x.1+y.1] (BZ (x.1+y.1) (AP x.2*AP y.2) []):=Jj.nil.step Fs hz rp zp (.refl _);have go:=T60.inner (Q:=Ad TZ (x::ra,y::rb)) (x::ra) (y::rb) fa fb la lb 0 x (by rw[zd];omega) (zf ..) rb 1 (0+1) 1 [x.1+y.1] _ _ rfl (by rw[zd];omega) st rfl (by omega) fun n' v' m' W' hw hm' hn'=>T60.outer (x::ra) (y::rb) fa fb la lb (fun N n vals m W hW=>fin N n vals m W hW (by rw[hW];exact hne)) ra 1 (0+1+rb.length) n' v' m' W' rfl (by rw[zd];omega) hm' hn' (by rw[zd];omega) (by unfold Fk;rw[Sp.all_cons,hw,Ib])
 exact T60.cM (x::ra) (y::rb) 0 0 1 x y fx fy (by rw[zd];omega) lb (x.1+y.1) ((0,BB 0),(1,BB 1)) 0 Fs hz [x.1+y.1] [] go
section
open List Int Prod
namespace T13
def T(a:List (Int×List UInt8))(b:List (Int×List UInt8))(n:Int):Tr:=tree vV false 9 13 (Af ([zj (ze i64 zi),zj (ze i64 zi),yb IntKind.i64]) (a,b,n))
theorem Al(a:List (Int×List UInt8))(b:List (Int×List UInt8))(n:Int):T a b n=let b':=[(0,.arr false 3 i64 [As a,As b])];let e':Tr:=.leaf (.bl false) [];let f':=decide (0<=10)&&decide (10<=64)&&decide (0<=9)&&decide (9<=1000);let g':=Gm a b;let h':Tr:=.ite true (.leaf (.dat Sh.bool true) []) .fail;let i':=decide (As a=0);let c':Tr:=.leaf (.bl false) b';let d':Tr:=.ite true (.leaf (.dat Sh.bool true) b') .fail;let j':=decide (length g'<=5000);let a':Tr:=.ite (decide (2<=2)&&true&&decide (2<=1000000)) (.ite (qe [As a,As b]==0) (.ite (BT a 10 9&&BT b 10 9&&i'&&decide (As b=0)) (.ite (C8 a b !=0) (.ite ((↑(length g'):Int)==0) (.ite (D4 a b==C8 a b) d' c') c') (.ite (D4 a b==0) (.ite j' (.ite (cL g' (Mh a b)) d' c') .fail) c')) .fail) (.ite (qe [As a,As b] !=0) (.ite ((↑(length g'):Int)==0) (.ite (D4 a b==qe [As a,As b]) d' c') c') (.ite (D4 a b==0) (.ite j' (.ite (cL g' []) d' c') .fail) c'))) .fail;.ite f' (.ite (!BT a 10 9) h' (.ite f' (.ite (!BT b 10 9) h' (.ite (K8 a) (.ite (BT a 10 9&&BT b 10 9) (.ite (K8 a) (.ite (K8 a) (.ite (K8 b) (.ite (K8 a) (.ite (As a !=As a) e' (.ite (As a !=0) (.ite (decide (1<=1000000)) (.ite (!E3 (QH a) (Qp a) [(48:UInt8)] (As a)) e' (.ite (decide (1<=1000000)) (.ite (!E3 (QS a n) (Qy a n) [(48:UInt8)] (As a)) e' a') .fail)) .fail) (.ite (K8 a&&i') (.ite (decide (length (NG a)<=1000000)) (.ite (!E3 (QH a) (Qp a) (NG a) 0) e' (.ite (K8 a&&i') (.ite (decide (length (NA a n)<=1000000)) (.ite (!E3 (QS a n) (Qy a n) (NA a n) 0) e' a') .fail) .fail)) .fail) .fail))) .fail) .fail) .fail) .fail) .fail) .fail)) .fail)) .fail:=by kernel_rfl
end T13
end
end Go.Pe
namespace Go.Sp
theorem Xz:∀ {l:List Bg},PZ l->ER (Fl l+9*l.length+1) (FD l)
 |[],_=>⟨by decide,by decide⟩
 |c::l,h=>by
  obtain⟨hn,hc⟩:=h c (zf ..);have h1:=Xz h.tail;have h2:=(UY hn).mul (JS hc).z;rw[FD,GS hc,zd];exact(h2.add h1).mono (by omega)
theorem Xk(n:Int):∀ {l:List Bg},PZ l->ER (Fl l+1) (FJ n l)
 |[],_=>show ER 1 0 from⟨by decide,by decide⟩
 |c::l,h=>by
  obtain⟨hn,hc⟩:=h c (zf ..);have h1:=Xk n h.tail;rw[FJ,GS hc];split
  ·exact((JS hc).z.add h1).mono (by omega)
  ·rw[qw];exact h1.mono (by omega)
end Go.Sp
namespace Go.Pe
open Sp
open Go.Det
abbrev R1:Ao:=Z3
theorem aB:DF vV:=Aa T58.ok (Aa gL (Aa T59.ok (Aa T60.ok (Aa T61.ok (Aa T62.ok (Aa T63.ok (Aa T25.ok (Aa T64.ok (Aa T65.ok (Aa T23.ok (Aa T66.ok (Aa T67.ok AN))))))))))))
namespace T13
theorem ok:Ag Bh 13 Z3:=by
 refine B5 aB (fun(i:List Bg×List Bg×Int) _=>?_);obtain⟨a,b,n⟩:=i;have hq:∀ob,Ad Z3 (a,b,n) (.dat .bool true) ob:=fun ob=>Ad.of rfl rfl rfl
 refine Ends.eq (Al a b n) (zc rfl (z8 (fun _=>zc rfl (zk (hq _))) (fun ha=>zc rfl (z8 (fun _=>zc rfl (zk (hq _))) (fun hb=>?_)))));have ha:BT a 10 9=true:=by simpa using ha
 have hb:BT b 10 9=true:=by simpa using hb
 have wa:=Jd ha;have wb:=Jd hb;have ab:=Ab ha hb;have lenC:(Gm a b).length<=5000/\(D4 a b≠0->Gm a b=[]):=by
  unfold Gm;by_cases h:D4 a b≠0
  ·rw[wd h];exact⟨by decide,fun _=>rfl⟩
  ·rw[wc h];refine⟨?_,fun x=>wh x h⟩;have h:D4 a b=0:=by simpa using h
   unfold D4 at h;split at h
   ·next k=>exact wh h k
   split at h
   ·next k=>exact wh h k
   unfold C8 Wn at h;split at h
   ·cases h
   ·unfold FB;rw[zu];omega
 refine zc wa (zc ab (zc wa (zc wa (zc wb (zc wa (yj (by simp) (z8 (fun ca=>?_) (fun ca=>?_))))))))
 ·have ca:As a≠0:=by simpa using ca
  have e1:qe [As a,As b]=As a:=by rw[Fh,wd ca]
  have e2:D4 a b=As a:=by unfold D4;rw[wd ca]
  have e3:Gm a b=[]:=lenC.2 (by rw[e2];exact ca);have t1:E3 (QH a) (Qp a) [48] (As a)=true:=TO ca _ _;have t2:E3 (QS a n) (Qy a n) [48] (As a)=true:=TO ca _ _;rw[e1,e2,e3,t1,t2];exact zc rfl (yj rfl (zc rfl (yj rfl (zc rfl (yj (by simpa using ca) (zc (by simpa using ca) (zc rfl (zc (by simp) (zc rfl (zk (hq _)))))))))))
 ·have ca:As a=0:=by simpa using ca
  obtain⟨la,ta⟩:=KT wa ca;have va:=IP ca;have ln1:(NG a).length<=1000000:=Uo (Xz va) (by omega);have ln2:(NA a n).length<=1000000:=Uo (Xk n va) (by omega);have t1:E3 (QH a) (Qp a) (NG a) 0=true:=by
   unfold QH Qp NG;rw[ca];exact Yp _
  have t2:E3 (QS a n) (Qy a n) (NA a n) 0=true:=by
   unfold QS Qy NA;rw[ca];exact Yp _
  have pa:(K8 a&&decide (As a=0))=true:=Ab wa (w4 ca);have e1:qe [As a,As b]=As b:=by rw[Fh,wc (by simpa using ca)]
  rw[e1,t1,t2];refine zc pa (zc (w4 ln1) (yj rfl (zc pa (zc (w4 ln2) (yj rfl (zc rfl (z8 (fun cb=>?_) (fun cb=>?_))))))))
  ·have cb:As b=0:=by simpa using cb
   have e2:D4 a b=C8 a b:=by unfold D4;rw[wc (by simpa using ca),wc (by simpa using cb)]
   refine zc (Ab (Ab ab (w4 ca)) (w4 cb)) (z8 (fun c0=>?_) (fun c0=>?_))
   ·have c0:C8 a b≠0:=by simpa using c0
    have e3:Gm a b=[]:=lenC.2 (by rw[e2];exact c0);rw[e3,e2];exact zc rfl (zc (by simp) (zc rfl (zk (hq _))))
   ·have c0:C8 a b=0:=by simpa using c0
    have e3:Gm a b=Mh a b:=by unfold Gm Mh;rw[e2]
    refine zc (by rw[e2,c0];rfl) (zc (w4 lenC.1) (zc ?_ (zc rfl (zk (hq _)))));rw[e3];exact w4 rfl
  ·have cb:As b≠0:=by simpa using cb
   have e2:D4 a b=As b:=by unfold D4;rw[wc (by simpa using ca),wd cb]
   have e3:Gm a b=[]:=lenC.2 (by rw[e2];exact cb);rw[e2,e3];exact zc (by simpa using cb) (zc rfl (zc (by simp) (zc rfl (zk (hq _)))))
end T13
end Go.Pe
namespace Go.Det
open Go.ChangeShapes Go.WideShapes Go.RowKit
theorem B0{α β:Type}{f g:α->Option β}:∀ {l:List α} {ys:List β},l.mapM f=some ys->(∀a∈l,∀y∈ys,f a=some y->g a=some y)->l.mapM g=some ys
 |[],ys,h,_=>by simpa using h
 |a::l,ys,h,hg=>by
  rw[List.mapM_cons]at h ⊢;cases hf:f a with
  |none=>rw[hf]at h;cases h
  |some y=>
   rw[hf]at h;cases hl:l.mapM f with
   |none=>rw[hl]at h;cases h
   |some zs=>
    rw[hl]at h;cases h;rw[hg a (by simp) y (by simp) hf,B0 hl (fun b hb z hz hfz=>hg b (by simp[hb]) z (by simp[hz]) hfz)];rfl
def gZ(P:Program)(L:List TypeId)(t:TypeId):Bool:=match P.underlying t with
 |some (.pointer e)|some (.array _ e)|some (.map _ e)=>L.contains e
 |some (.slice e)=>L.contains e&&Nat.ble 1 (P.cellsOf e)
 |some (.struct fs)=>fs.toList.all fun f=>L.contains f.type
 |_=>true
def Ks(P:Program)(L:List TypeId):Bool:=L.all (gZ P L)
section
variable {H:Type}{enc:TypeId×Value->H}{P:Program}{W W':World}
theorem oK{L:List TypeId}(h:Ks P L=true){t:TypeId}(ht:t∈L):gZ P L t=true:=yr.1 h t ht
theorem Vl(hb:Below W.heap.size W W'){a:Addr}{v:Value}(h:W.cell? a=some v):W'.cell? a=some v:=by
 have hl:a.block<W.heap.size:=by
  unfold qn at h;by_cases hh:a.block<W.heap.size
  ·exact hh
  ·rw[yn (by omega)]at h;cases h
 unfold qn at h ⊢;rw[hb.block _ hl];exact h
theorem S5(hb:Below W.heap.size W W'){a:Addr}{n:Nat}{cs:List Value}(h:W.cells? 0 a n=some cs):W'.cells? 0 a n=some cs:=by
 unfold World.cells? at h ⊢;rw[wd (ym _)]at h ⊢;exact B0 h fun i _ v _ hv=>Vl hb hv
theorem GY(hb:Below W.heap.size W W'){β:Type}{a:Addr}{n:Nat}{f g:List Value->Option β}{y:β}(h:(W.cells? 0 a n).bind f=some y)(hfg:∀cs,f cs=some y->g cs=some y):(W'.cells? 0 a n).bind g=some y:=by
 cases hc:W.cells? 0 a n with
 |none=>rw[hc]at h;cases h
 |some cs=>
  rw[hc]at h;rw[S5 hb hc];exact hfg cs h
theorem OW(hb:Below W.heap.size W W'){L:List TypeId}(hz:Ks P L=true){sp:Nat->Bool}:∀(fuel:Nat) (t:TypeId) (cs:List Value) (x:DataW H×List MemPlace),t∈L->
  ya enc P W 0 (fun _=>true) true fuel t cs=some x->(∀p∈x.2,sp p.block=true)->ya enc P W' 0 sp true fuel t cs=some x
 |0,_,_,_,_,h,_=>by cases h
 |fuel+1,t,cs,x,ht,h,hs=>by
  have ih:=OW hb hz (sp:=sp) fuel;have hk:=oK hz ht;unfold gZ at hk;unfold ya at h ⊢;split at h<;>try simp only[reduceCtorEq]at h
  all_goals try exact h
  case h_6 e a hu=>
   have hke:e∈L:=by rw[hu]at hk;simpa using hk
   cases hm:(W.cells? 0 a (P.cellsOf e)).bind (ya enc P W 0 (fun _=>true) true fuel e)with
   |none=>rw[hm]at h;cases h
   |some y=>
    rw[hm]at h;cases h;rw[GY hb hm (g:=ya enc P W' 0 sp true fuel e) (fun cs hc=>ih e cs y hke hc (fun p hp=>hs p (by simp[hp])))];rfl
  case h_8 e a len cap hu=>
   have hke:e∈L/\P.cellsOf e≠0:=by
    rw[hu]at hk;simp only[zl,List.contains_iff_mem]at hk;have:=Nat.le_of_ble_eq_true hk.2;exact⟨hk.1,by omega⟩
   by_cases hc:0<=a.block/\len<=cap/\cap<=maxLen
   ·rw[wd hc]at h ⊢;have step:∀(i:Nat) (y:DataW H×List MemPlace),(W.cells? 0 (a.add (i*P.cellsOf e)) (P.cellsOf e)).bind (ya enc P W 0 (fun _=>true) true fuel e)=some y->(∀p∈y.2,sp p.block=true)->
      (W'.cells? 0 (a.add (i*P.cellsOf e)) (P.cellsOf e)).bind (ya enc P W' 0 sp true fuel e)=some y:=fun i y hy hp=>GY hb hy fun cs hc=>ih e cs y hke.1 hc hp
    cases h1:(qu len).mapM (fun i=>(W.cells? 0 (a.add (i*P.cellsOf e)) (P.cellsOf e)).bind (ya enc P W 0 (fun _=>true) true fuel e))with
    |none=>rw[h1]at h;cases h
    |some ys=>
     rw[h1]at h;simp only[wk,yk]at h;cases h2:(qu (cap-len)).mapM (fun j=>(W.cells? 0 (a.add ((len+j)*P.cellsOf e)) (P.cellsOf e)).bind (ya enc P W 0 (fun _=>true) true fuel e))with
     |none=>rw[h2]at h;cases h
     |some zs=>
      rw[h2]at h;cases h;rw[B0 h1 fun i _ y hy hi=>step i y hi fun p hp=>hs p (yy _ (yt.2 ⟨y,List.mem_append_left _ hy,hp⟩))];have h2':=B0 h2 fun j _ y hy hj=>step (len+j) y hj fun p hp=>hs p (yy _ (yt.2 ⟨y,yy _ hy,hp⟩))
      by_cases hsp:sp a.block=true
      ·simp only[hsp,wk,yk];rw[h2'];rfl
      ·have e0:(ys.length+zs.length)*P.cellsOf e=0:=by
        rcases Nat.eq_zero_or_pos ((ys.length+zs.length)*P.cellsOf e)with h0|h0
        ·exact h0
        ·refine wh (hs (.cell a.block (a.off+0)) (List.mem_append_left _ ?_)) hsp;simp only[MemPlace.row,List.mem_map,List.mem_range];exact⟨0,h0,rfl⟩
       have e1:zs=[]:=by
        rcases Nat.mul_eq_zero.1 e0 with h0|h0
        ·exact qf.1 (by omega)
        ·exact wh h0 hke.2
       subst e1;simp only[hsp,yk];rfl
   ·rw[wc hc]at h;cases h
  case h_9 cs _ _ fs hu=>
   have hke:∀f∈fs.toList,f.type∈L:=by
    rw[hu]at hk;intro f hf;have:=yr.1 hk f hf;simpa using this
   by_cases hc:cs.length=P.cellsOf t
   ·rw[wd hc]at h ⊢;cases h1:fs.toList.mapM (fun f=>ya enc P W 0 (fun _=>true) true fuel f.type ((cs.drop f.offset).take (P.cellsOf f.type)))with
    |none=>rw[h1]at h;cases h
    |some ys=>
     rw[h1]at h;cases h;rw[B0 h1 fun f hfm y hy hf=>ih _ _ y (hke f hfm) hf fun p hp=>hs p (yt.2 ⟨y,hy,hp⟩)];rfl
   ·rw[wc hc]at h;cases h
  case h_10 cs _ _ n e hu=>
   have hke:e∈L:=by rw[hu]at hk;simpa using hk
   by_cases hc:cs.length=P.cellsOf t
   ·rw[wd hc]at h ⊢;cases h1:(qu n).mapM (fun i=>ya enc P W 0 (fun _=>true) true fuel e ((cs.drop (i*P.cellsOf e)).take (P.cellsOf e)))with
    |none=>rw[h1]at h;cases h
    |some ys=>
     rw[h1]at h;cases h;rw[B0 h1 fun f _ y hy hf=>ih _ _ y hke hf fun p hp=>hs p (yt.2 ⟨y,hy,hp⟩)];rfl
   ·rw[wc hc]at h;cases h
  case h_14 k e b hu=>
   have hke:e∈L:=by rw[hu]at hk;simpa using hk
   have hl:b<W.heap.size:=by
    by_cases hh:b<W.heap.size
    ·exact hh
    ·rw[yn (by omega)]at h;cases h
   rw[hb.block _ hl];split at h
   case h_2=>cases h
   rename_i es clock hes;simp only;split at h
   case isFalse=>cases h
   rename_i hcond;rw[wd hcond];cases h1:(es.toList.mapM fun x=>(keyOf P k x.key).bind fun key=>if x.val.formed P e then(ya enc P W 0 (fun _=>true) true fuel e x.val.cells.toList).map fun y=>((key,y.1),y.2)else none)with
   |none=>rw[h1]at h;cases h
   |some ys=>
    rw[h1]at h;simp only[yk]at h;split at h
    case isFalse=>cases h
    rename_i hri;cases h;rw[B0 h1 fun en _ y hy hf=>?_]
    ·simp only[yk];rw[wd hri]
    ·cases hk:keyOf P k en.key with
     |none=>rw[hk]at hf;cases hf
     |some key=>
      rw[hk]at hf;simp only[yk]at hf ⊢;split at hf
      case isFalse=>cases hf
      rename_i hfo;rw[wd hfo];cases htt:ya enc P W 0 (fun _=>true) true fuel e en.val.cells.toList with
      |none=>rw[htt]at hf;cases hf
      |some u=>
       rw[htt]at hf;cases hf;rw[ih _ _ u hke htt fun p hp=>hs p (by simp only[yd,yt];exact .inr ⟨_,hy,hp⟩)];rfl
theorem VD(hb:Below W.heap.size W W'){L:List TypeId}(hz:Ks P L=true){sp:Nat->Bool}{t:TypeId}{v:Value}{d:DataW H}{p:List MemPlace}
  (ht:t∈L) (h:DataW.Trod enc P W 0 (fun _=>true) true t v d p) (hs:∀q∈p,sp q.block=true):DataW.Trod enc P W' 0 sp true t v d p:=by
 obtain⟨fuel,hf⟩:=h;exact⟨fuel,OW hb hz fuel t _ _ ht hf hs⟩
theorem Gw(hb:Below W.heap.size W W'){L:List TypeId}(hz:Ks P L=true){sp:Nat->Bool}:∀ {ts:List TypeId} {vs:List Value} {ds:List (DataW H)} {p:List MemPlace},(∀t∈ts,t∈L)->
  DataW.TrodAll enc P W 0 (fun _=>true) true ts vs ds p->(∀q∈p,sp q.block=true)->DataW.TrodAll enc P W' 0 sp true ts vs ds p
 |[],vs,ds,p,_,h,_=>by
  obtain⟨rfl,rfl,rfl⟩:=trodAll_nil h;rfl
 |t::ts,vs,ds,p,hl,h,hs=>by
  obtain⟨v,vs1,d,ds1,a,b,rfl,rfl,rfl,h1,h2⟩:=trodAll_cons h;exact⟨a,b,VD hb hz (hl t (by simp)) h1 (fun q hq=>hs q (by simp[hq])),Gw hb hz (fun u hu=>hl u (by simp[hu])) h2 (fun q hq=>hs q (by simp[hq])),rfl⟩
theorem YF{f:Func}{s:ChangeSpec}{apart fresh handsOn again:Bool}{args:Array Value}{ds gs:List (DataW H)}{before:List MemPlace}{tb:TypeId}
  (hW:DataW.Whole enc P f.params.toList s.vars apart W args.toList ds gs before) (hv:s.vars=[]) (hr:f.resultTypes= #[tb]) (ht:P.underlying tb=some .bool)
  (hfn:s.fn H ds={ results:=[.lit (.bool true)],args:=ds }) (hb:Below W.heap.size W W') {L:List TypeId} (hz:Ks P L=true) (hl:f.params.toList.all L.contains=true):
  s.post enc P f apart fresh handsOn again W args (.bool true) W':=by
 have hlt:=hW.lt;have hl:∀t∈f.params.toList,t∈L:=fun t ht=>by have:=yr.1 hl t ht;simpa using this
 obtain⟨p,q,hA,hV,rfl,hfz,hnd⟩:=hW;have hV':=hV;rw[hv]at hV';obtain⟨rfl,rfl⟩:=trodVars_none hV';simp only[List.append_nil]at hlt hfz hnd ⊢;have hold:∀x∈p,(fun b=>decide (b<W.heap.size)) x.block=true:=fun x hx=>by simpa using hlt x hx
 have hW0:DataW.Whole enc P f.params.toList s.vars apart W args.toList ds [] p:=⟨p,[],hA,hV,by simp,hfz,hnd⟩;have hres:∀(b:Nat) (sp:Nat->Bool) (hd:Bool),DataW.TrodAll enc P W' b sp hd f.resultTypes.toList ((Value.bool true).resultList f.resultTypes.size) [.lit (.bool true)] []:=by
  intro b sp hd;rw[hr];exact⟨[],[],shut_bool ht true,rfl,rfl⟩
 have hok:∀(j:Nat) (t:TypeId) (r:Value),f.resultTypes[j]?=some t->((Value.bool true).resultList f.resultTypes.size)[j]?=some r->Value.okWide P W' .any 0 t r:=by
  exact ok_one hr rfl (okWide_bool_mk ht true)
 have hvars:∀sp:Nat->Bool,DataW.TrodVars enc P W' sp s.vars [] []:=fun sp=>by rw[hv];rfl
 have hfn:s.fn H (ds++[])={ results:=[.lit (.bool true)],args:=ds }:=by rw[List.append_nil];exact hfn
 refine⟨ds,[],p,[],p,[],hW0,?_,?_,?_,World.keptBut_mono (fun x hx=>⟨hx,.inr (.inl hx)⟩) (hb.frame (· ∈p)),fun _=>?_⟩
 ·rw[hfn];exact hres _ _ _
 ·rw[hfn];exact Gw hb hz hl hA hold
 ·rw[hfn];exact hvars _
 ·refine⟨hok,_,_,([]++p)++[],⟨[]++p,[],trodAll_append (Gw hb hz hl hA (fun _ _=>rfl)) (hres _ _ _),hvars _,rfl,?_,?_⟩,?_⟩
  ·intro b off hp;have hp:MemPlace.cell b off∈p:=by simpa using hp
   rw[hb.frozen (show b<W.heap.size from hlt _ hp)];exact hfz b off hp
  ·intro ha;simpa using hnd ha
  ·intro x hx _;simpa using hx
end
end Go.Det
namespace Go.Det
def M9(k:Nat):Value->V
 | .bool b=>.bool b
 | .int q n=>.int q n
 | .string s=>.str s.data.toList
 | .pointer none=>.nilp
 | .slice none 0 0=>.nils
 | .slice (some _) 0 0=>.es0
 | .slice (some ⟨r,off,none⟩) len cap=>if r<k/\len<=cap then .sl r off len cap 0 else .junk
 | .map none=>.nilm
 | .nilFunc=>.nilf
 | .nilIface=>.nili
 |_=>.junk
def K9(W:World)(r:Nat):Nat:=match W.heap[r]? with
 |some (.cells c _ _)=>c.size
 |_=>0
def pW(W:World):Pl:=(qu W.heap.size).map fun r=>(r,K9 W r)
theorem Ld{W:World}{r:Nat}(h:r<W.heap.size):(pW W)[r]?=some (r,K9 W r):=by
 simp[pW,h]
def Oz(W:World)(r:Nat):Option O:=match W.heap[r]? with
 |some (.cells c t _)=>if c.size=0 then none else some (.cells (c.toList.map (M9 W.heap.size)) t (0,c.size))
 |_=>none
def Ze(W:World):Nat->H
 |0=>⟨.leaf,0⟩
 |n+1=>⟨(Ze W n).m.set n (Oz W n),n+1⟩
theorem mW(W:World):∀n,(Ze W n).nx=n
 |0=>rfl
 |_+1=>rfl
theorem Ur(W:World):∀(n b:Nat),(Ze W n).get b=if b<n then Oz W b else none
 |0,b=>by simp[Ze,H.get]
 |n+1,b=>by
  have ih:=Ur W n b;unfold H.get at ih ⊢;simp only[Ze,PM.C2];by_cases e:b=n
  ·subst e;simp
  ·rw[wc e,ih];by_cases h:b<n
   ·rw[wd h,wd (by omega)]
   ·rw[wc h,wc (by omega)]
def hW(W:World):H:=Ze W W.heap.size
theorem OS(W:World)(b:Nat):(hW W).get b=Oz W b:=by
 unfold hW;rw[Ur];by_cases h:b<W.heap.size
 ·rw[wd h]
 ·rw[wc h];unfold Oz;rw[yn (by omega)]
theorem R9{W:World}{v:Value}(h:(M9 W.heap.size v).ok=true):Ac (pW W) (M9 W.heap.size v) v:=by
 revert h;unfold M9;split<;>intro h
 case h_6=>simp only[Ac];exact⟨_,rfl⟩
 case h_7 r off len cap _=>
  split
  ·rename_i hc;simp only[Ac];exact⟨r,_,cap,Ld hc.1,rfl,hc.2,yp _,fun _=>rfl,fun e=>wh rfl e⟩
  ·rename_i hc;rw[wc hc]at h;cases h
 case h_11=>cases h
 all_goals simp only[Ac]
 all_goals rfl
theorem R_W(W:World):R (pW W) (hW W) W:=by
 refine⟨by simp[pW,hW,mW],fun b o hb=>?_,fun b b' o o' r n n' hb hb' h1 h2=>?_⟩
 ·rw[OS]at hb;unfold Oz at hb;split at hb
  case h_2=>cases hb
  rename_i c t fz hc;split at hb
  case isTrue=>cases hb
  cases hb;have hlt:b<W.heap.size:=(z7.1 hc).1;have hs:K9 W b=c.size:=by unfold K9;rw[hc]
  refine⟨b,c.size,_,by rw[Ld hlt,hs],hc,c,fz,rfl,rfl,by simp,⟨by simp,fun i d v hd hv hok=>?_⟩,fun i hi h1 h2=>⟨ym _,hi⟩⟩;rw[List.getElem?_map]at hd;rw[zu,qd (by have:=(List.getElem?_eq_some_iff.1 hv).1;simp at this;simpa using this)]at hv;rw[hv]at hd;cases hd;exact R9 hok
 ·have key:∀b o r n,(hW W).get b=some o->(pW W)[b]?=some (r,n)->r=b:=by
   intro b o r n hb h1;rw[OS]at hb;have hlt:b<W.heap.size:=by
    unfold Oz at hb;by_cases h:b<W.heap.size
    ·exact h
    ·rw[yn (by omega)]at hb;cases hb
   rw[Ld hlt]at h1;cases h1;rfl
  rw[<-key b o r n hb h1, <-key b' o' r n' hb' h2]
theorem jP{W W':World}{p':Pl}{h':H}(he:Ext (pW W) (hW W) W p' h' W'):RowKit.Below W.heap.size W W':=by
 refine⟨he.os,he.tape,he.out,he.size,fun k hk=>?_⟩;by_cases hi:Im (pW W) (hW W) k
 ·obtain⟨b,o,n,h1,h2⟩:=hi;have h1':=h1;rw[OS]at h1';unfold Oz at h1';split at h1'
  case h_2=>cases h1'
  rename_i c t fz hc;split at h1'
  case isTrue=>cases h1'
  rename_i h0;cases h1';have hlt:b<W.heap.size:=(z7.1 hc).1;have hs:K9 W b=c.size:=by unfold K9;rw[hc]
  rw[Ld hlt,hs]at h2;cases h2;exact(he.lock _ hk ⟨_,_,_,_,_,h1,by rw[Ld hlt,hs],rfl,yp _,Nat.pos_of_ne_zero h0⟩).1
 ·exact he.same k hk hi
end Go.Det
namespace Go.Pe
open Go.Det
def FW(W:World):Fz:=fun b=>match (hW W).get b with
 |some (.cells cs _ _)=>some cs
 |_=>none
def TK:(s:Sh)->s.T->Prop
 | .int k,x=>k.min<=(x:Int)/\(x:Int)<=k.max
 | .bool,_=>True
 | .str,x=>(x:List UInt8).length<=maxLen
 | .list s,l=>(l:List s.T).length<=maxLen/\∀x∈(l:List s.T),TK s x
 | .pair a b,x=>TK a x.1/\TK b x.2
 | .unit,_=>True
 | .nlist _,_=>True
 | .fnv,_=>True
def iS(P:Program)(f:TypeId->Option Sh):Nat->List Field->Option Sh
 |_,[]=>some .unit
 |o,[x]=>match f x.type with
  |some s=>bif yw x.offset o&&yw (P.cellsOf x.type) s.sz then some s else none
  |none=>none
 |o,x::y::l=>match f x.type with
  |some s=>bif yw x.offset o&&yw (P.cellsOf x.type) s.sz then(iS P f (o+s.sz) (y::l)).map (.pair s)else none
  |none=>none
def vH(P:Program):Nat->TypeId->Option Sh
 |0,_=>none
 |f+1,t=>match P.underlying t with
  |some (.int k)=>some (.int k)
  |some .bool=>some .bool
  |some .string=>some .str
  |some (.slice e)=>match vH P f e with
   |some s=>bif yw (P.cellsOf e) s.sz&&Nat.blt 0 s.sz then some (.list s)else none
   |none=>none
  |some (.struct fs)=>match iS P (vH P f) 0 fs.toList with
   |some s=>bif yw (P.cellsOf t) s.sz then some s else none
   |none=>none
  |_=>none
section
variable {H:Type}{enc:TypeId×Value->H}{P:Program}{W:World}
theorem bY{r:Nat}{c:Array Value}{t:TypeId}{fz:Nat×Nat}(h:W.heap[r]?=some (.cells c t fz))(h0:c.size≠0):FW W r=some (c.toList.map (M9 W.heap.size)):=by
 unfold FW;rw[OS];unfold Oz;rw[h];simp only[wc h0]
theorem Qx{a:Addr}{n:Nat}{cs:List Value}(h:W.cells? 0 a n=some cs)(hn:0<n):
  ∃c t fz,W.heap[a.block]?=some (.cells c t fz)/\a.spot=none/\a.off+n<=c.size/\cs=(c.toList.drop a.off).take n:=by
 unfold World.cells? at h;rw[wd (ym _)]at h;have hl:=mapM_some_length h;have hg:=mapM_some_get h;simp only[List.length_range]at hl;have h0:=hg 0 0 (by simp[hn]);have ha0:a.add 0=a:=by simp[qy]
 rw[ha0]at h0;obtain⟨v0,hv0⟩:∃v,cs[0]?=some v:=⟨cs[0],zw (by omega)⟩;rw[hv0]at h0;unfold qn at h0;split at h0
 case h_2=>cases h0
 rename_i c t fz hb;split at h0
 case isTrue=>cases h0
 rename_i hs;have hs:a.spot=none:=by simpa using hs
 have hc:∀i,i<n->c[a.off+i]?=cs[i]?:=by
  intro i hi;have:=hg i i (by simp[hi]);unfold qn at this;have hb':(a.add i).block=a.block:=by unfold qy;split<;>rfl
  have hs':(a.add i).spot=none:=by unfold qy;split<;>simp[hs]
  have ho':(a.add i).off=a.off+i:=by unfold qy;split<;>simp_all
  rw[hb',hb]at this;simpa [hs',ho']using this
 refine⟨c,t,fz,hb,hs,?_,?_⟩
 ·have:=hc (n-1) (by omega);rw[zw (by omega)]at this;have:=(z7.1 this).1;omega
 ·apply List.ext_getElem?;intro i;by_cases hi:i<n
  ·rw[<-hc i hi,qd hi,List.getElem?_drop];simp
  ·rw[List.getElem?_eq_none (by omega),List.getElem?_eq_none (by simp;omega)]
theorem XH{α:Type}{p:Nat->α->Prop}:∀n:Nat,(∀i,i<n->∃x,p i x)->∃l:List α,l.length=n/\∀i (h:i<l.length),p i l[i]
 |0,_=>⟨[],rfl,fun i h=>wh h (Nat.not_lt_zero _)⟩
 |n+1,h=>by
  obtain⟨l,h1,h2⟩:=XH n fun i hi=>h i (by omega)
  obtain⟨x,hx⟩:=h n (by omega);refine⟨l++[x],by simp[h1],fun i hi=>?_⟩;by_cases e:i<l.length
  ·rw[List.getElem_append_left e];exact h2 i e
  ·have:i=n:=by simp at hi;omega
   subst this;rw[List.getElem_append_right (by omega)];simpa [h1]using hx
theorem Qo{f:TypeId->Option Sh}{n:Nat}{cs:List Value}
  (ih:∀(t:TypeId) (s:Sh) (cs:List Value) (y:DataW H×List MemPlace),f t=some s->ya enc P W 0 (fun _=>true) true n t cs=some y->∃x:s.T,DC (FW W) s x (cs.map (M9 W.heap.size))/\TK s x):
  ∀(fs:List Field) (o:Nat) (s:Sh),iS P f o fs=some s->(∀x∈fs,∃z,ya enc P W 0 (fun _=>true) true n x.type ((cs.drop x.offset).take (P.cellsOf x.type))=some z)->
   ∃x:s.T,DC (FW W) s x (((cs.map (M9 W.heap.size)).drop o).take s.sz)/\TK s x
 |[],o,s,hs,_=>by
  cases hs;exact⟨(),by simp[DC,Sh.sz],trivial⟩
 |[x],o,s,hs,hx=>by
  unfold iS at hs;split at hs
  case h_2=>cases hs
  rename_i s' hs';cases hc:(yw x.offset o&&yw (P.cellsOf x.type) s'.sz)with
  |false=>rw[hc]at hs;cases hs
  |true=>
  rw[hc]at hs;cases hs;simp only[zl]at hc;obtain⟨z,hz⟩:=hx x (by simp);rw[yf hc.1,yf hc.2]at hz;have:=ih _ _ _ _ hs' hz;simpa [qt,y7]using this
 |x::x'::l,o,s,hs,hx=>by
  unfold iS at hs;split at hs
  case h_2=>cases hs
  rename_i s' hs';cases hc:(yw x.offset o&&yw (P.cellsOf x.type) s'.sz)with
  |false=>rw[hc]at hs;cases hs
  |true=>
  rw[hc]at hs;simp only[we,Option.map_eq_some_iff]at hs;obtain⟨s2,h2,rfl⟩:=hs;simp only[zl]at hc;obtain⟨z,hz⟩:=hx x (by simp);rw[yf hc.1,yf hc.2]at hz;obtain⟨a,a1,a2⟩:=ih _ _ _ _ hs' hz;obtain⟨b,b1,b2⟩:=Qo ih (x'::l) (o+s'.sz) s2 h2 (fun u hu=>hx u (zt _ hu));refine⟨(a,b),?_,a2,b2⟩;simp only[DC];refine⟨_,_,?_,a1,b1⟩;rw[qt,y7, <-List.drop_drop];exact List.take_add
theorem SA:∀(k fuel:Nat) (t:TypeId) (s:Sh) (cs:List Value) (y:DataW H×List MemPlace),vH P k t=some s->ya enc P W 0 (fun _=>true) true fuel t cs=some y->
  ∃x:s.T,DC (FW W) s x (cs.map (M9 W.heap.size))/\TK s x
 |0,_,_,_,_,_,hs,_=>by cases hs
 |k+1,fuel,t,s,cs,y,hs,h=>by
  have ih:=SA k;unfold vH at hs;split at hs
  case h_1 q hu=>
   cases hs;obtain⟨n,rfl,_,hw⟩:=DataW.trod_int hu h;exact⟨(n:Int),by simp[DC,M9],by simpa [TK,Lit.wf]using hw⟩
  case h_2 hu=>
   cases hs;obtain⟨b,rfl,_⟩:=DataW.trod_bool hu h;exact⟨b,by simp[DC,M9],trivial⟩
  case h_3 hu=>
   cases hs;obtain⟨b,rfl,_,hw⟩:=DataW.trod_string hu h;exact⟨b.data.toList,by simp[DC,M9],by show b.data.toList.length<=maxLen;rw[Array.length_toList];exact hw⟩
  case h_4 e hu=>
   split at hs
   case h_2=>cases hs
   rename_i s' hs';cases hc:(yw (P.cellsOf e) s'.sz&&Nat.blt 0 s'.sz)with
   |false=>rw[hc]at hs;cases hs
   |true=>
   rw[hc]at hs;cases hs;simp only[zl]at hc;have hsz:=yf hc.1;have hpos:=Nat.le_of_ble_eq_true hc.2;rcases DataW.trod_slice hu h with⟨rfl,_⟩|⟨a,len,cap,elems,rest,n,rfl,rfl,_,_,hlc,hcm,hel,he,hr,_⟩
   ·exact⟨[],by simp[DC,M9],by simp[TK]⟩
   ·obtain⟨hrl,hr⟩:=hr rfl;rw[hsz]at he hr;by_cases h0:cap=0
    ·obtain rfl:len=0:=by omega
     subst h0;exact⟨[],by simp[DC,M9],by simp[TK]⟩
    ·
     have all:∀i,i<cap->∃ci z,W.cells? 0 (a.add (i*s'.sz)) s'.sz=some ci/\ya enc P W 0 (fun _=>true) true n e ci=some z:=by
      intro i hi;by_cases hl:i<len
      ·have h1:=he i hl;rw[zw (by omega)]at h1;rw[qg]at h1;obtain⟨ci,h2,h3⟩:=h1;exact⟨ci,_,h2,h3⟩
      ·have h1:=hr (i-len) (by omega);rw[show len+(i-len)=i by omega,zw (by omega)]at h1;rw[qg]at h1;obtain⟨ci,h2,h3⟩:=h1;exact⟨ci,_,h2,h3⟩
     obtain⟨c0,z0,g0,_⟩:=all 0 (by omega);rw[Nat.zero_mul,show a.add 0=a from by simp[qy]]at g0;obtain⟨c,tc,fz,hb,hsp,hoff,_⟩:=Qx g0 hpos;have hlt:a.block<W.heap.size:=(z7.1 hb).1;have hF:=bY hb (by omega);obtain⟨ab,ao,ax⟩:=a;simp only at hsp hb hoff hlt hF;subst hsp;have cell:∀i,i<cap->ao+i*s'.sz+s'.sz<=c.size/\∃x:s'.T,DC (FW W) s' x (((c.toList.map (M9 W.heap.size)).drop (ao+i*s'.sz)).take s'.sz)/\TK s' x:=by
      intro i hi;obtain⟨ci,z,h1,h2⟩:=all i hi;rw[Addr.HE]at h1;obtain⟨c',tc',fz',hb',_,ho',rfl⟩:=Qx h1 (by omega);simp only at hb' ho';rw[hb]at hb';cases hb';refine⟨ho',?_⟩;have:=ih _ _ _ _ _ hs' h2;simpa [qt,y7]using this
     obtain⟨l,hl1,hl2⟩:=XH (p:=fun i (x:s'.T)=>DC (FW W) s' x (((c.toList.map (M9 W.heap.size)).drop (ao+i*s'.sz)).take s'.sz)/\TK s' x) len fun i hi=>(cell i (by omega)).2
     refine⟨l,?_,?_⟩
     ·simp only[DC];refine⟨.sl ab ao len cap 0,?_,.inr ⟨ab,ao,cap,0,_,by rw[hl1],by omega,hF,?_,.inl rfl,fun i hi=>(hl2 i hi).1⟩⟩
      ·have:(Value.slice (some ⟨ab,ao,none⟩) len cap)=.slice (some ⟨ab,ao,none⟩) len cap:=rfl;have hne:¬(len=0/\cap=0):=fun h=>h0 h.2
       cases cap with
       |zero=>exact wh rfl h0
       |succ cap=>simp[M9,hlt,hlc]
      ·rw[hl1];have:=(cell (cap-1) (by omega)).1;have h2:len*s'.sz<=cap*s'.sz:=Nat.mul_le_mul_right _ hlc;have h3:cap*s'.sz=(cap-1)*s'.sz+s'.sz:=by rw[<-Nat.succ_mul];congr 1;omega
       simp;omega
     ·simp only[TK];refine⟨by omega,fun x hx=>?_⟩;obtain⟨i,hi,rfl⟩:=List.mem_iff_getElem.1 hx;exact(hl2 i hi).2
  case h_5 fs hu=>
   split at hs
   case h_2=>cases hs
   rename_i s' hs';cases hc:yw (P.cellsOf t) s'.sz with
   |false=>rw[hc]at hs;cases hs
   |true=>
   rw[hc]at hs;cases hs;have hsz:=yf hc;obtain⟨xs,n,rfl,_,hlen,hxl,hf⟩:=DataW.trod_struct hu h;obtain⟨x,h1,h2⟩:=Qo (cs:=cs) (fun t s cs y h1 h2=>ih n t s cs y h1 h2) fs.toList 0 _ hs' (fun f hfm=>by
    obtain⟨i,hi⟩:=List.mem_iff_getElem?.1 hfm;have hi':fs[i]?=some f:=by simpa using hi
    have:=hf i f hi';have hlt:=(z7.1 hi').1;rw[zw (by omega)]at this;exact⟨_,this⟩)
   refine⟨x,?_,h2⟩;rw[List.drop_zero,qi (by simp;omega)]at h1;exact h1
  case h_6=>cases hs
theorem jG{k:Nat}{t:TypeId}{s:Sh}{v:Value}{d:DataW H}{p:List MemPlace}(hs:vH P k t=some s)(hp:s.PN=false)(hc:v.cells.toList=[v])(h:DataW.Trod enc P W 0 (fun _=>true) true t v d p):
  ∃x:s.T,PC (FW W) (B7 s x) (M9 W.heap.size v)/\TK s x/\Ac (pW W) (M9 W.heap.size v) v:=by
 obtain⟨fuel,hf⟩:=h;rw[hc]at hf;obtain⟨x,h1,h2⟩:=SA k fuel t s [v] (d,p) hs hf;simp only[zo,List.map_nil]at h1;exact⟨x,(PC.B7 h1).2 hp _ rfl,h2,R9 (h1.ok _ (by simp))⟩
end
end Go.Pe
namespace Go.Pe
open Go.Det Go.RowKit
section
open Go.Proofs.Tryz (prog)
theorem gC{F':Fz}{v:V}(h:PC F' (.dat .bool true) v):v=.bool true:=by
 have:=h (fun _=>none) 0;simp only[PR,DC]at this;simpa using this
def GW(W:World):Prop:=∀x∈FY,Oz W x.1=some x.2
theorem GW.h{W:World}(h:GW W):Gh (hW W):=fun x hx=>by rw[OS];exact h x hx
theorem GW.p{W:World}(h:GW W):Gp (pW W):=fun x hx=>by
 have h1:=h x hx;unfold Oz at h1;split at h1
 case h_2=>cases h1
 rename_i c t fz hc;split at h1
 case isTrue=>cases h1
 have hlt:x.1<W.heap.size:=(z7.1 hc).1;have hs:K9 W x.1=c.size:=by unfold K9;rw[hc]
 rw[Ld hlt,hs];cases hx2:x.2 with
 |cells cs t' fz'=>rw[hx2]at h1;cases h1;simp[osz]
 |_=>rw[hx2]at h1;cases h1
theorem NJ{f:FuncId}{sp:Ao}(ok:Ag Bh f sp)(i:(BE sp.ins).T)(hpre:sp.pre i=true){args:List V}{args':Array Value}{W:World}(hgw:GW W)(hP:LA (FW W) (Af sp.ins i) args)
  (ha:Aq (pW W) args args'.toList) (hres:∀F' v,PC F' (one (Af sp.outs (sp.f i))) v->v=.bool true) (hp:Bh.prim f=none:=by kernel_rfl):
  Calls prog f args' W fun e W'=>e=.returned (.bool true)/\Below W.heap.size W W':=by
 obtain⟨l,M,h1,_,h2⟩:=(ok.zero hp).run (FW W) (hW W) args i (fun b cs h=>by
  unfold FW at h;split at h
  case h_2=>cases h
  rename_i cs' t fz hg;cases h;exact⟨t,fz,hg⟩) (fun b o h=>(R_W W).lt h) hgw.h hP hpre
 refine((IC uL ZK Sk M).fn f args (hW W) l (h1 M (yp _)) (pW W) W args' (R_W W) hgw.p ha).mono ?_;rintro e w' ⟨v,h',v',p',hm,rfl,hv,hx⟩;obtain⟨_,_,_,F',_,_,_,hr⟩:=h2 _ hm;obtain rfl:=hres F' v hr;refine⟨?_,jP hx⟩;simp only[Ac]at hv;rw[hv]
end
end Go.Pe
namespace Go.Proofs.YtknhdhchejmpgaaGreatDoor
open Go
set_option maxRecDepth 100000
theorem seatTie1:Tryz.prog.laidByTextLater [("math/bits.deBruijn32tab",Rows.laid_math_bits_deBruijn32tab),("math/bits.deBruijn64tab",Rows.laid_math_bits_deBruijn64tab),("internal/strconv.uint64pow10",Rows.laid_internal_strconv_uint64pow10),("unicode/utf8.acceptRanges",Rows.laid_unicode_utf8_acceptRanges),("strconv.ErrRange",Rows.laid_strconv_ErrRange),("strconv.ErrSyntax",Rows.laid_strconv_ErrSyntax)] [.data,.data,.data,.data,.sentinel,.sentinel] true:=
 Program.laidByTextLater_by_one 72 8 65 (by kernel_rfl) (by kernel_rfl) (by kernel_rfl) (by kernel_rfl) (by kernel_rfl) (by kernel_rfl) (fun _ _=>by kernel_rfl)
theorem noOwnUnsafe:Tryz.pinned.checked.prog.headLifts.contains "ownunsafe"=false:=by kernel_rfl
theorem fits1:Tryz.pinned.checked.prog.listedFits Rows.cardChancesRow.laid=true:=by
 unfold Program.listedFits;rw[noOwnUnsafe];kernel_rfl
theorem cardChances_row_tie:Rows.cardChancesRow.laidByTextAt .later Tryz.pinned [.data,.data,.data,.data,.sentinel,.sentinel,.pinned] true:=by
 refine OpenClaim.laidByTextAt_pinned rfl rfl seatTie1 rfl rfl rfl rfl (fun y hy _e=>?_) fits1;simp only[Rows.cardChancesRow,List.zip_cons_cons,List.zip_nil_right,yd,List.mem_nil_iff,or_false]at hy;rcases hy with rfl|rfl|rfl|rfl|rfl|rfl|rfl
 ·cases _e
 ·cases _e
 ·cases _e
 ·cases _e
 ·cases _e
 ·cases _e
 ·exact⟨by kernel_rfl,by kernel_rfl⟩
end Go.Proofs.YtknhdhchejmpgaaGreatDoor
