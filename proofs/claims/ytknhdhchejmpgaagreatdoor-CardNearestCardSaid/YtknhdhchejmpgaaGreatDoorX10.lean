import Derived.Test.YtknhdhchejmpgaaGreatDoorX09
import Derived.Lib.Mul64
import Derived.Test.YtknhdhchejmpgaaGreatDoorX01
/- A part of a proof (no law is stated here). Made by program out of texts by AI agents. -/
open Go.IntKind renaming wrap → zc, u64 → ze, i64 → yc, wrap_i64 → yw, u8 → qh
open Go.Pe.Ends renaming tt → zg, leaf → zl, ite → zn, eq → zY, ff → z7, At → ya
open Go.Sp renaming vI → zh, u64 → zt, val → zP, sg → yq, AZ → y7, hW → qi
open Go.Pe.Sh renaming int → zj, list → zK, nlist → zO, pair → yi
open Bool renaming and_eq_true → zk, true_and → zU, false_eq_true → yr, or_eq_true → y8
open Int renaming mul_le_mul_of_nonneg_right → zm, toNat_natCast → zo, fdiv → zp, eq_ofNat_of_zero_le → zr, mul_nonneg → zu, mul_assoc → zy, lt_or_le → zM, add_mul → zN, mul_le_mul_of_nonneg_left → zQ, mul_comm → zS, mul_add → zT, lt_of_le_of_lt → zW, fdiv_eq_ediv_of_nonneg → zX, le_of_lt → zZ, one_mul → z8, natCast_pow → yb, natCast_mul → yh, tdiv → yj, natCast_add → yn, tdiv_eq_ediv_of_nonneg → yt, mul_zero → yx, zero_add → yz, ediv_nonneg → qc, mul_sub → qd, toNat → qf, add_assoc → qg, pow_succ → qj
open List renaming replicate → zq, getD_eq_getElem?_getD → zx, take_of_length_le → zz, getElem?_eq_getElem → z6, take_length → ye, drop_eq_getElem_cons → yf, length → ym, cons_append → yv
open Nat renaming add → zw, mod_eq_of_lt → yu, two_pow_pos → y9, pow_add → qe
open Go.Pe.Af renaming of → zL
open BitVec renaming ofInt → zR, ofInt_natCast → yk, toNat_ofNat → yo
open UInt8 renaming toNat → zV
open Go.Pe.PV renaming agg → yg
open Go.Lib renaming half_mul_le → yp
open Min renaming min → yy
section
namespace Go.Pe
open Sp
open Go.Det
noncomputable section
open List Int Prod
namespace T224
def T(n:Int):Tr:=tree TJ false 9 224 (Ah ([zj yc]) n)
theorem Am(n:Int):T n=.ite (decide (n<0)) (.leaf (.dat (zj ze) (zc .u64 (zc .i64 (0-n)))) []) (.leaf (.dat (zj ze) (zc .u64 n)) []):=by kernel_rfl
end T224
namespace T218
def T(a:Int×List Int):Tr:=tree J2 false 9 218 (Ah ([yi i64 (zO (zj ze))]) a)
theorem Am(a:Int×List Int):T a=let a':=zO (zj ze);let b':=[(0,.box [.dat i64 (fst a),.dat a' (snd a)])];.ite (decide (0<length (snd a))) (.leaf (.tup [.dat Sh.bool (decide (fst a<0)),.dat a' (snd a)]) b') (.ite (fst a==0) (.leaf (.tup [.bl false,.nil]) b') (.ite (BG (fst a)) (.leaf (.tup [.dat Sh.bool (decide (fst a<0)),.sl (zw 0 1) 1 0 1 none]) ([(zw 0 1,.arr false 130 (zj ze) [Ag (fst a)]),(0,.box [.dat i64 (fst a),.dat a' (snd a)])])) .fail)):=by kernel_rfl
end T218
namespace T219
def T(neg:Bool)(w:List Int):Tr:=tree J2 false 9 219 (Ah ([Sh.bool,zK (zj ze)]) (neg,w))
theorem Am(neg:Bool)(w:List Int):T neg w=let c':=zK (zj ze);let e':=zc .i64 (0-zc .i64 (getD w 0 0));let f':=decide (getD w 0 0≤9223372036854775807);let g':=(length w:Int);let h':=zc .i64 (getD w 0 0);let b':Tr:=.ite neg (.leaf (yg [.dat i64 (-1:Int),.dat c' w]) ([(0,.box [.dat i64 (-1:Int),.dat c' w])])) (.leaf (yg [.dat i64 (1:Int),.dat c' w]) ([(0,.box [.dat i64 (1:Int),.dat c' w])]));let d':=decide (0<g');let a':Tr:=.ite (g'==1) (.ite d' (.ite f' (.ite d' (.leaf (yg [.dat i64 h',.nil]) ([(0,.box [.dat i64 h',.nil])])) .fail) b') .fail) b';.ite (g'==0) (.leaf (yg [.dat i64 (0:Int),.nil]) ([(0,.box [.dat i64 (0:Int),.nil])])) (.ite (g'==1) (.ite d' (.ite f' (.ite neg (.ite d' (.leaf (yg [.dat i64 e',.nil]) ([(0,.box [.dat i64 e',.nil])])) .fail) a') a') .fail) a'):=by kernel_rfl
end T219
namespace T269
def T(w:List Int):Tr:=tree TJ false 9 269 (Ah ([zK (zj ze)]) w)
def L1(v0:List Int)(v3:Int):Tr:=re ((T [])) (AH 21 [(0,.dat (zK (zj ze)) v0),(3,.dat i64 v3)] [] 0)
theorem Am(w:List Int):T w=L1 w ((length w:Int)):=by kernel_rfl
theorem As(v0:List Int)(v3:Int):stepT TJ (L1 v0 v3)=let a':Tr:=.ite (decide (0≤v3)&&decide (0≤toNat v3)&&decide (toNat v3≤length v0)) (.leaf (.dat (zK (zj ze)) (take (toNat v3) v0)) []) .fail;let b':=zc .i64 (v3-1);.ite (decide (v3>0)) (.ite (decide (0≤zc .i64 (v3-1))&&decide (zc .i64 (v3-1)<(length v0:Int))) (.ite (getD v0 (toNat b') 0==0) (L1 v0 b') a') .fail) a':=by kernel_rfl
end T269
namespace T221
def T(a b:List Int):Tr:=tree TJ false 9 221 (Ah ([zK (zj ze),zK (zj ze)]) (a,b))
def L1(v0 v1:List Int)(v5:Int):Tr:=re ((T [] []).R) (AH 41 [(0,.dat (zK (zj ze)) v0),(1,.dat (zK (zj ze)) v1),(5,.dat i64 v5)] [] 0)
theorem Am(a b:List Int):T a b=let a':=(length a:Int);.ite (a' !=(length b:Int)) (.ite (decide (a'<(length b:Int))) (.leaf (.dat i64 (-1:Int)) []) (.leaf (.dat i64 (1:Int)) [])) (L1 a b (zc .i64 (a'-1))):=by kernel_rfl
theorem As(v0 v1:List Int)(v5:Int):stepT TJ (L1 v0 v1 v5)=let a':=decide (0≤v5)&&decide (v5<(length v0:Int));let b':=decide (0≤v5)&&decide (v5<(length v1:Int));.ite (decide (v5≥0)) (.ite a' (.ite b' (.ite (getD v0 (toNat v5) 0 !=getD v1 (toNat v5) 0) (.ite a' (.ite b' (.ite (decide (getD v0 (toNat v5) 0<getD v1 (toNat v5) 0)) (.leaf (.dat i64 (-1:Int)) []) (.leaf (.dat i64 (1:Int)) [])) .fail) .fail) (L1 v0 v1 (zc .i64 (v5-1)))) .fail) .fail) (.leaf (.dat i64 (0:Int)) []):=by kernel_rfl
end T221
namespace T220
def T(x y:List Int):Tr:=tree J2 false 9 220 (Ah ([zK (zj ze),zK (zj ze)]) (x,y))
def L1(v0 v1:List Int)(v5n:Nat)(v6 v21 v22:Int)(o0:List Int):Tr:=re ((T [] []).L.L) (AH 54 [(0,.dat (zK (zj ze)) v0),(1,.dat (zK (zj ze)) v1),(5,.sl 0 1 0 v5n none),(6,.dat (zj ze) v6),(21,.dat i64 v21),(22,.dat i64 v22)] [(0,.arr false 130 (zj ze) o0)] 1)
theorem Am(x y:List Int):T x y=let a':=(length x:Int);let b':=(length y:Int);let c':=zc .i64 (b'+1);let d':=zc .i64 (a'+1);.ite (decide (a'<b')) (.ite (decide (0≤zc .i64 (b'+1))&&decide (zc .i64 (b'+1)=zc .i64 (b'+1))&&decide (8*toNat c'≤281474976710656)&&decide (zc .i64 (b'+1)<9223372036854775808)) (L1 y x (toNat c') 0 (b') 0 (replicate (toNat c') 0)) .fail) (.ite (decide (0≤zc .i64 (a'+1))&&decide (zc .i64 (a'+1)=zc .i64 (a'+1))&&decide (8*toNat d'≤281474976710656)&&decide (zc .i64 (a'+1)<9223372036854775808)) (L1 x y (toNat d') 0 (a') 0 (replicate (toNat d') 0)) .fail):=by kernel_rfl
theorem As(v0 v1:List Int)(v5n:Nat)(v6 v21 v22:Int)(o0:List Int):stepT J2 (L1 v0 v1 v5n v6 v21 v22 o0)=let a':=getD v0 (toNat v22) 0;let b':=(length v0:Int);let d':=getD v1 (toNat v22) 0;let e':=decide (0≤v22)&&decide (v22<(↑v5n:Int));let f':=decide ((0:Sh.T (By [u64]))≤v6);let g':=decide (v6≤(1:Sh.T (By [u64])));let i':=decide (toNat v22<length o0);let j':=decide (v22<(length v1:Int));let k':=zc .i64 (v22+1);let c':=set o0 (toNat b') v6;let h':=decide (0≤v22)&&decide (v22<b');.ite (decide (v22<v21)) (.ite (j') (.ite (decide (0≤v22)&&j') (.ite h' (.ite (zt a'&&zt d'&&f'&&g') (.ite e' (.ite i' (L1 v0 v1 v5n (OY a' d' v6) v21 k' (set o0 (toNat v22) (Hk a' d' v6))) .fail) .fail) .fail) .fail) .fail) (.ite h' (.ite (zt a'&&zt 0&&f'&&g') (.ite e' (.ite i' (L1 v0 v1 v5n (OY a' 0 v6) v21 k' (set o0 (toNat v22) (Hk a' 0 v6))) .fail) .fail) .fail) .fail)) (.ite (decide (0≤b')&&decide (b'<(↑v5n:Int))) (.ite (decide (toNat b'<length o0)) (.ite (decide (0+v5n≤length c')&&true&&Cx (take v5n c')) (.leaf (.dat (zK (zj ze)) (Ar (take v5n c'))) ([(0,.arr true 130 (zj ze) c')])) .fail) .fail) .fail):=by kernel_rfl
end T220
namespace T222
def T(x y:List Int):Tr:=tree J2 false 9 222 (Ah ([zK (zj ze),zK (zj ze)]) (x,y))
def L1(v0 v1:List Int)(v5n:Nat)(v6 v13 v14:Int)(o0:List Int):Tr:=re ((T [] []).L) (AH 41 [(0,.dat (zK (zj ze)) v0),(1,.dat (zK (zj ze)) v1),(5,.sl 0 1 0 v5n none),(6,.dat (zj ze) v6),(13,.dat i64 v13),(14,.dat i64 v14)] [(0,.arr false 130 (zj ze) o0)] 1)
theorem Am(x y:List Int):T x y=let a':=(length x:Int);.ite (decide (0≤a')&&decide (a'=a')&&decide (8*toNat a'≤281474976710656)&&decide (a'<9223372036854775808)) (L1 x y (toNat a') 0 (a') 0 (replicate (toNat a') 0)) .fail:=by kernel_rfl
theorem As(v0 v1:List Int)(v5n:Nat)(v6 v13 v14:Int)(o0:List Int):stepT J2 (L1 v0 v1 v5n v6 v13 v14 o0)=let a':=getD v0 (toNat v14) 0;let b':=decide (0≤v14)&&decide (v14<(length v0:Int));let c':=getD v1 (toNat v14) 0;let d':=decide (0≤v14)&&decide (v14<(↑v5n:Int));let e':=decide ((0:Sh.T (By [u64]))≤v6);let f':=decide (v6≤(1:Sh.T (By [u64])));let g':=decide (toNat v14<length o0);let h':=decide (v14<(length v1:Int));let i':=zc .i64 (v14+1);.ite (decide (v14<v13)) (.ite (h') (.ite (decide (0≤v14)&&h') (.ite b' (.ite (zt a'&&zt c'&&e'&&f') (.ite d' (.ite g' (L1 v0 v1 v5n (Pg a' c' v6) v13 i' (set o0 (toNat v14) (Sq a' c' v6))) .fail) .fail) .fail) .fail) .fail) (.ite b' (.ite (zt a'&&zt 0&&e'&&f') (.ite d' (.ite g' (L1 v0 v1 v5n (Pg a' 0 v6) v13 i' (set o0 (toNat v14) (Sq a' 0 v6))) .fail) .fail) .fail) .fail)) (.ite (decide (0+v5n≤length o0)&&true&&Cx (take v5n o0)) (.leaf (.dat (zK (zj ze)) (Ar (take v5n o0))) ([(0,.arr true 130 (zj ze) o0)])) .fail):=by kernel_rfl
end T222
namespace T223
def T(x y:Int):Tr:=tree TJ false 9 223 (Ah ([zj ze,zj ze]) (x,y))
theorem Am(x y:Int):T x y=let a':=zc .u64 (zc .u64 (zp x (2^32)*G4 ze y 4294967295)+zp (zc .u64 (G4 ze x 4294967295*G4 ze y 4294967295)) (2^32));.ite true (.ite true (.ite true (.ite true (.ite true (.leaf (.tup [.dat (zj ze) (zc .u64 (zc .u64 (zc .u64 (zp x (2^32)*zp y (2^32))+zp a' (2^32))+zp (zc .u64 (G4 ze a' 4294967295+zc .u64 (G4 ze x 4294967295*zp y (2^32)))) (2^32))),.dat (zj ze) (zc .u64 (x*y))]) []) .fail) .fail) .fail) .fail) .fail:=by kernel_rfl
end T223
namespace T225
def T(x y:List Int):Tr:=tree J2 false 9 225 (Ah ([zK (zj ze),zK (zj ze)]) (x,y))
def L1(v1:List Int)(v5n:Nat)(v20:List Int)(v21 v22:Int)(o0:List Int):Tr:=re ((T [] []).L) (AH 80 [(1,.dat (zK (zj ze)) v1),(5,.sl 0 1 0 v5n none),(20,.dat (zK (zj ze)) v20),(21,.dat i64 v21),(22,.dat i64 v22)] [(0,.arr false 130 (zj ze) o0)] 1)
theorem Am(x y:List Int):T x y=let a':=(length x:Int)+(length y:Int);let b':=zc .i64 a';.ite (decide (0≤zc .i64 a')&&decide (zc .i64 a'=zc .i64 a')&&decide (8*toNat b'≤281474976710656)&&decide (zc .i64 a'<9223372036854775808)) (L1 y (toNat b') x ((length x:Int)) 0 (replicate (toNat b') 0)) .fail:=by kernel_rfl
def L2(v1:List Int)(v5n:Nat)(v6 v7 v8:Int)(v20:List Int)(v21 v22:Int)(v27:List Int)(v28 v29:Int)(o0:List Int):Tr:=re ((stepT J2 (L1 [] 0 [] 0 0 [])).L.L) (AH 80 [(1,.dat (zK (zj ze)) v1),(5,.sl 0 1 0 v5n none),(6,.dat i64 v6),(7,.dat (zj ze) v7),(8,.dat (zj ze) v8),(20,.dat (zK (zj ze)) v20),(21,.dat i64 v21),(22,.dat i64 v22),(27,.dat (zK (zj ze)) v27),(28,.dat i64 v28),(29,.dat i64 v29)] [(0,.arr false 130 (zj ze) o0)] 1)
theorem As(v1:List Int)(v5n:Nat)(v20:List Int)(v21 v22:Int)(o0:List Int):stepT J2 (L1 v1 v5n v20 v21 v22 o0)=.ite (decide (v22<v21)) (.ite (decide (0≤v22)&&decide (v22<(length v20:Int))) (L2 v1 v5n v22 (getD v20 (toNat v22) 0) 0 v20 v21 v22 v1 ((length v1:Int)) 0 o0) .fail) (.ite (decide (0+v5n≤length o0)&&true&&Cx (take v5n o0)) (.leaf (.dat (zK (zj ze)) (Ar (take v5n o0))) ([(0,.arr true 130 (zj ze) o0)])) .fail):=by kernel_rfl
theorem A3(v1:List Int)(v5n:Nat)(v6 v7 v8:Int)(v20:List Int)(v21 v22:Int)(v27:List Int)(v28 v29:Int)(o0:List Int):stepT J2 (L2 v1 v5n v6 v7 v8 v20 v21 v22 v27 v28 v29 o0)=let b':=zc .i64 (v6+v29);let c':=getD v27 (toNat v29) 0;let d':=decide (0≤zc .i64 (v6+v29))&&decide (zc .i64 (v6+v29)<(↑v5n:Int));let e':=v6+(length v1:Int);let g':=decide ((0:Sh.T (By [u64]))≤0);let h':=decide (0≤(1:Sh.T (By [u64])));let f':=getD o0 (toNat b') 0;let i':=decide (toNat b'<length o0);let j':=H3 v7 c';let a':=Hk j' f' 0;.ite (decide (v29<v28)) (.ite (decide (0≤v29)&&decide (v29<(length v27:Int))) (.ite (zt v7&&zt c') (.ite d' (.ite i' (.ite (zt j'&&zt f'&&g'&&h') (.ite (zt a'&&zt v8&&g'&&h') (.ite d' (.ite i' (L2 v1 v5n v6 v7 (zc .u64 (zc .u64 (P7 v7 c'+OY j' f' 0)+OY a' v8 0)) v20 v21 v22 v27 v28 (zc .i64 (v29+1)) (set o0 (toNat b') (Hk a' v8 0))) .fail) .fail) .fail) .fail) .fail) .fail) .fail) .fail) (.ite (decide (0≤zc .i64 e')&&decide (zc .i64 e'<(↑v5n:Int))) (.ite (decide (toNat (zc .i64 e')<length o0)) (L1 v1 v5n v20 v21 (zc .i64 (v22+1)) (set o0 (toNat (zc .i64 e')) v8)) .fail) .fail):=by kernel_rfl
end T225
end
end Go.Pe
end
section
namespace Go.Pe
open Sp
open Go.Det
theorem IE:∀g sp,TJ.sp g=some sp→Ae AT g sp:=fun g sp h=>by cases h
theorem wu(x:Int)(h1:0≤x)(h2:x≤18446744073709551615):zc .u64 x=x:=IntWalk.u64_in x ⟨h1,h2⟩
theorem Ce{n:Int}(h:BG n=true): -9223372036854775808≤n∧n<9223372036854775808:=by
 unfold BG at h;rw[zk,decide_eq_true_eq,decide_eq_true_eq]at h;exact h
namespace T224
theorem ok:Ae AT 224 VI:=by
 refine Av (X:=TJ) rfl IE (d:=9) (by kernel_rfl) (by kernel_rfl) (by kernel_rfl) (fun(n:Int) hn=>?_) (Ad (by kernel_rfl));have hn:=Ce (n:=n) hn;refine zY (Am n) (zn (fun c=>?_) (fun c=>?_))
 ·have c:=of_decide_eq_true c;refine zl (zL rfl rfl ?_);show zc .u64 (zc .i64 (0-n))=Ag n;simp only[Ai];rcases zM (-9223372036854775808) n with h|h
  ·rw[wr _ (by omega) (by omega),wu _ (by omega) (by omega)];omega
  ·have:n= -9223372036854775808:=by omega
   subst this;decide+kernel
 ·have c:=of_decide_eq_false c;refine zl (zL rfl rfl ?_);show zc .u64 n=Ag n;simp only[Ai];rw[wu _ (by omega) (by omega)];omega
end T224
namespace T269
theorem Aj{Q:PV→Ob→Prop}(w:List Int)(hw:w.length≤20000)(hq:∀ob,Q (.dat CZ (Ar w)) ob):∀(i:Nat),i≤w.length→Ar w=Ar (w.take i)→Ends TJ (L1 w i) Q
 |0,hi,he=>by
  have he:Ar w=[]:=he;rw[he]at hq;refine ya (As ..) (z7 (by simp) (zg (by simp) (zl (hq _))))
 |i+1,hi,he=>by
  have e1:zc .i64 (((i+1:Nat):Int)-1)=(i:Int):=by rw[wr _ (by omega) (by omega)];omega
  have ht:w.take (i+1)=w.take i++[w.getD i 0]:=by
   rw[List.take_add_one];congr 1;rw[zx,z6 (by omega)];rfl
  refine ya (As ..) (zg (by simp<;>omega) ?_);rw[e1,zo];refine zg (by simp<;>omega) (zn (fun c=>?_) (fun c=>?_))
  ·have c:w.getD i 0=0:=by simpa using c
   refine Aj w hw hq i (by omega) ?_;rw[he,ht,c,HY]
  ·have c:w.getD i 0≠0:=by simpa using c
   refine zg (by simp;omega) (zl ?_);have:Ar w=w.take (i+1):=by rw[he,ht,HT (Xj c)]
   rw[this]at hq;exact hq _
theorem ok:Ae AT 269 U2:=by
 refine Av (X:=TJ) rfl IE (d:=9) (by kernel_rfl) (by kernel_rfl) (by kernel_rfl) (fun(w:List Int) hw=>?_) (Ad (by kernel_rfl));obtain⟨h1,h2⟩:=Hy (l:=w) hw;refine zY (Am w) (Aj w h1 (fun ob=>zL rfl rfl rfl) w.length (Nat.le_refl _) (by rw[ye]))
end T269
theorem Ey{l:List Int}(h:B0 l=true):l.length≤20000∧Au Ak l∧Sp.nz l:=by
 unfold B0 at h;rw[zk]at h;have:=Hy h.1;exact⟨this.1,this.2,by
  have:=h.2;unfold pH at this;have:l.getLast?≠some 0:=of_decide_eq_true this;exact this⟩
namespace T221
theorem Aj{Q:PV→Ob→Prop}(a b:List Int)(ha:Au Ak a)(hb:Au Ak b)(hl:a.length=b.length)(h2:b.length≤20000)(hq:∀ob,Q (.dat i64 (BW (An a) (An b))) ob):∀(i:Nat),i≤a.length→a.drop i=b.drop i→Ends TJ (L1 a b ((i:Int)-1)) Q
 |0,hi,he=>by
  have he:a=b:=he;have:BW (An a) (An b)=0:=by rw[he];unfold BW;simp
  rw[this]at hq;exact ya (As ..) (z7 (by simp) (zl (hq _)))
 |i+1,hi,he=>by
  have e1:(((i+1:Nat):Int)-1)=(i:Int):=by omega
  have da:a.drop i=a.getD i 0::a.drop (i+1):=by
   rw[zx,z6 (by omega)];exact yf (by omega)
  have db:b.drop i=b.getD i 0::a.drop (i+1):=by
   rw[he,zx,z6 (by omega)];exact yf (by omega)
  have ga:=y7 (AS ha i);have gb:=y7 (AS hb i);rw[e1];refine ya (As ..) (zg (by simp) ?_);rw[zo];refine zg (by simp;omega) (zg (by simp;omega) (zn (fun c=>zg (by simp;omega) (zg (by simp;omega) (zn (fun d=>?_) (fun d=>?_)))) (fun c=>?_)))
  ·have d:=of_decide_eq_true d;have:=Ie (b:=Ak) (by decide) ha hb da db d;have e:BW (An a) (An b)= -1:=by unfold BW;exact if_pos this
   rw[e]at hq;exact zl (hq _)
  ·have d:=of_decide_eq_false d;have c:a.getD i 0≠b.getD i 0:=by simpa using c
   have:=Ie (b:=Ak) (by decide) hb ha db da (by omega);have e:BW (An a) (An b)=1:=by
    unfold BW An;rw[if_neg (by omega),if_pos (by omega)]
   rw[e]at hq;exact zl (hq _)
  ·have c:a.getD i 0=b.getD i 0:=by simpa using c
   rw[wr ((i:Int)-1) (by omega) (by omega)];exact Aj a b ha hb hl h2 hq i (by omega) (by rw[da,db,c])
theorem ok:Ae AT 221 Ws:=by
 refine Av (X:=TJ) rfl IE (d:=9) (by kernel_rfl) (by kernel_rfl) (by kernel_rfl) (fun(i:List Int×List Int) hi=>?_) (Ad (by kernel_rfl));obtain⟨a,b⟩:=i;have hi:(B0 a&&B0 b)=true:=hi;rw[zk]at hi;obtain⟨a1,a2,a3⟩:=Ey hi.1;obtain⟨b1,b2,b3⟩:=Ey hi.2;have hq:∀ob,Af Ws (a,b) (.dat i64 (BW (An a) (An b))) ob:=fun ob=>zL rfl rfl rfl
 refine zY (Am a b) (zn (fun c=>zn (fun d=>?_) (fun d=>?_)) (fun c=>?_))
 ·have d:=of_decide_eq_true d;have e:BW (An a) (An b)= -1:=by unfold BW;exact if_pos (Ei (by decide) a2 b2 b3 (by omega))
  rw[e]at hq;exact zl (hq _)
 ·have d:=of_decide_eq_false d;have c:(a.length:Int)≠b.length:=by simpa using c
  have:=Ei (b:=Ak) (by decide) b2 a2 a3 (by omega);have e:BW (An a) (An b)=1:=by
   unfold BW An;rw[if_neg (by omega),if_pos (by omega)]
  rw[e]at hq;exact zl (hq _)
 ·have c:(a.length:Int)=b.length:=by simpa using c
  rw[wr _ (by omega) (by omega)];exact Aj a b a2 b2 (by omega) b1 hq a.length (Nat.le_refl _) (by rw[List.drop_length,show a.length=b.length by omega,List.drop_length])
end T221
end Go.Pe
end
section
namespace Go.Pe
open Sp
open Go.Det
theorem Dz{a:AQ}(h:C8 a=true):(-9223372036854775808≤a.1∧a.1<9223372036854775808)∧(a.2=[]∨(B0 a.2=true∧(a.1=1∨a.1= -1)∧9223372036854775808≤An a.2)):=by
 unfold C8 at h;rw[zk,y8,zk,zk,y8,decide_eq_true_eq,decide_eq_true_eq,decide_eq_true_eq,decide_eq_true_eq]at h;exact⟨Ce h.1,h.2.imp id fun h=>⟨h.1.1,h.1.2,h.2⟩⟩
theorem val_one(d:Int):zP Ak [d]=d:=by simp[zP]
theorem sG{d:Int}(h1:0<d)(h2:d<18446744073709551616):[d]=Bo d:=by
 have:=HN (b:=Ak) (l:=[d]) (by decide) (fun x hx=>by rw[List.mem_singleton]at hx;subst hx;exact⟨by omega,h2⟩) (by unfold Sp.nz;simp;omega);rw[val_one]at this;exact this
theorem Ec{s:Int}:zh (s,[])=s:=by unfold zh;exact if_pos rfl
namespace T218
theorem ok(hall:∀g sp,J2.sp g=some sp→Ae AT g sp):Ae AT 218 O2:=by
 refine Av (X:=J2) rfl hall (d:=9) (by kernel_rfl) (by kernel_rfl) (by kernel_rfl) (fun(a:Int×List Int) ha=>?_) (Ad (by kernel_rfl));obtain⟨hr,hw⟩:=Dz (a:=a) ha;obtain⟨s,w⟩:=a;have hr: -9223372036854775808≤s∧s<9223372036854775808:=hr;refine zY (Am (s,w)) (zn (fun c=>?_) (fun c=>zn (fun d=>?_) (fun d=>zg ?_ ?_)))
 ·have c:0<w.length:=of_decide_eq_true c;have hne:w≠[]:=by rintro rfl;simp at c
  rcases hw with hw|⟨h1,h2,h3⟩
  ·exact absurd hw hne
  ·obtain⟨n1,n2,n3⟩:=Ey h1;have h2:s=1∨s= -1:=h2;have h3:9223372036854775808≤An w:=h3;have ev:zh (s,w)=if s<0 then -An w else An w:=by unfold zh;exact if_neg hne
   have e1:Ag (zh (s,w))=An w:=by rw[ev];simp only[Ai];split<;>omega
   have e2:decide (zh (s,w)<0)=decide (s<0):=by
    rw[ev];rcases h2 with rfl|rfl<;>simp<;>omega
   refine zl (zL rfl rfl ?_);show(decide (s<0),w)=(decide (zh (s,w)<0),Bo (Ag (zh (s,w))));rw[e1,e2,show w=Bo (An w)from HN (by decide) n2 n3];congr 2;exact(CH (b:=Ak) (by decide) (Ay (b:=Ak) (by decide) n2)).symm
 all_goals
  have c:¬0<w.length:=of_decide_eq_false c;have hn:w=[]:=List.length_eq_zero_iff.1 (by omega);subst hn
 ·have d:s=0:=by simpa using d
  subst d;exact zl (zL rfl rfl rfl)
 ·show BG s=true;unfold BG;rw[zk,decide_eq_true_eq,decide_eq_true_eq];exact hr
 ·have d:s≠0:=by simpa using d
  refine zl (zL rfl rfl ?_);show(decide (s<0),[Ag s])=(decide (zh (s,[])<0),Bo (Ag (zh (s,[]))));rw[Ec,sG (d:=Ag s) (by simp only[Ai];omega) (by simp only[Ai];omega)]
end T218
theorem BU{n:Int}(h: -9223372036854775808<n∧n<9223372036854775808):CD n=(n,[]):=if_pos h
theorem Q4{w:List Int}(neg:Bool)(h1:Au Ak w)(h2:Sp.nz w)(h3:9223372036854775808≤An w):CD (if neg=true then -An w else An w)=(if neg=true then -1 else 1,w):=by
 have e:Bo (An w)=w:=(HN (by decide) h1 h2).symm;cases neg with
 |true=>
  simp only[if_true];unfold CD;rw[if_neg (by omega),if_pos (by omega)];rw[show Ag (-An w)=An w by simp only[Ai];omega,e]
 |false=>
  show CD (An w)=(1,w);unfold CD;rw[if_neg (by omega),if_neg (by omega)];rw[show Ag (An w)=An w by simp only[Ai];omega,e]
namespace T219
theorem ok(hall:∀g sp,J2.sp g=some sp→Ae AT g sp):Ae AT 219 aQ:=by
 refine Av (X:=J2) rfl hall (d:=9) (by kernel_rfl) (by kernel_rfl) (by kernel_rfl) (fun(i:Bool×List Int) hi=>?_) (Ad (by kernel_rfl));obtain⟨neg,w⟩:=i;obtain⟨n1,n2,n3⟩:=Ey (l:=w) hi;refine zY (Am neg w) ?_;conv=>zeta
 cases w with
 |nil=>
  refine zg rfl (zl (zL rfl rfl ?_));show _=CD (if neg=true then -0 else 0);rw[show(if neg=true then(-0:Int)else 0)=0 by split<;>rfl,BU (by omega)]
 |cons d t=>
  cases t with
  |nil=>
   have hd:=n2 d (by simp);have hz:d≠0:=by intro h;subst h;exact n3 rfl
   have hd1:0≤d:=hd.1;have hd2:d<18446744073709551616:=hd.2;have ev:An [d]=d:=val_one d;refine z7 rfl (zg rfl (zg rfl (zn (fun c=>?_) (fun c=>?_))))
   ·have c:d≤9223372036854775807:=of_decide_eq_true c;have e1:zc .i64 d=d:=wr _ (by omega) (by omega);have e2:zc .i64 (0-d)= -d:=by rw[wr _ (by omega) (by omega)];omega
    refine zn (fun n=>zg rfl (zl (zL rfl rfl ?_))) (fun n=>zg rfl (zg rfl (zg (decide_eq_true c) (zg rfl (zl (zL rfl rfl ?_))))))
    ·show(zc .i64 (0-zc .i64 d),[])=CD (if neg=true then -An [d]else An [d]);rw[e1,e2,if_pos n,ev,BU (by omega)]
    ·show(zc .i64 d,[])=CD (if neg=true then -An [d]else An [d]);subst n;rw[e1,if_neg (by decide),ev,BU (by omega)]
   ·have c':¬d≤9223372036854775807:=of_decide_eq_false c;have hb:=Q4 neg n2 n3 (by rw[ev];omega);refine zg rfl (zg rfl (z7 c (zn (fun n=>zl (zL rfl rfl ?_)) (fun n=>zl (zL rfl rfl ?_)))))
    ·show(-1,[d])=CD (if neg=true then -An [d]else An [d]);rw[hb,if_pos n]
    ·show(1,[d])=CD (if neg=true then -An [d]else An [d]);rw[hb,n];rfl
  |cons e t=>
   have hv:9223372036854775808≤An (d::e::t):=by
    have h:=CW (b:=Ak) (by decide) n2 n3 (by simp);have h2:=AI (b:=Ak) (by decide) (show 1≤(d::e::t).length-1 by simp);rw[Int.pow_one]at h2;have:(9223372036854775808:Int)≤(Ak:Int):=by decide
    exact Int.le_trans this (Int.le_trans h2 h)
   have hb:=Q4 neg n2 n3 hv;have z0:(((d::e::t).length:Int)==0)=false:=by simp;omega
   have z1:(((d::e::t).length:Int)==1)=false:=by simp;omega
   refine z7 z0 (z7 z1 (z7 z1 (zn (fun n=>zl (zL rfl rfl ?_)) (fun n=>zl (zL rfl rfl ?_)))))
   ·show(-1,d::e::t)=CD (if neg=true then -An (d::e::t)else An (d::e::t));rw[hb,if_pos n]
   ·show(1,d::e::t)=CD (if neg=true then -An (d::e::t)else An (d::e::t));rw[hb,n];rfl
end T219
namespace T220
variable {Q:PV→Ob→Prop}
theorem Aj(x y:List Int)(hx:Au Ak x)(hy:Au Ak y)(hl:y.length≤x.length)(hm:x.length≤9000)(hq:∀ob,Q (.dat CZ (Bo (An x+An y))) ob):∀(k i:Nat) (p:List Int) (c:Int),i+k=x.length→p.length=i→Au Ak p→(0≤c∧c≤1)→zP Ak p+(Ak:Int)^i*c=zP Ak (x.take i)+zP Ak (y.take i)→
  Ends J2 (L1 x y (x.length+1) c x.length i (p++zq (x.length+1-i) 0)) Q
 |0,i,p,c,hi,hp,hd,hc,he=>by
  have hi:i=x.length:=by omega
  subst hi;have er:x.length+1-x.length=1:=by omega
  have es:(p++zq (x.length+1-x.length) (0:Int)).set x.length c=p++[c]:=by
   rw[er];exact Pe.C5 p [] 0 c hp
  have ht:(p++[c]).take (x.length+1)=p++[c]:=zz (by simp;omega);have hd':Au Ak (p++[c]):=DI hd (Cv hc.1 (by omega));have hv:An (p++[c])=An x+An y:=by
   unfold An;rw[EB,hp,he,ye,zz hl]
  refine ya (As ..) (z7 (by simp) ?_);rw[zo,es,ht];refine zg (by simp<;>omega) (zg (by simp;omega) (zg ?_ (zl ?_)))
  ·rw[DR (by simp;omega) hd'];simp;omega
  ·rw[Kg hd',hv];exact hq _
 |k+1,i,p,c,hi,hp,hd,hc,he=>by
  have gx:=AS hx i;have gy:=AS hy i;have lo:(p++zq (x.length+1-i) (0:Int)).length=x.length+1:=by simp;omega
  have step:∀z,zt z=true→z=y.getD i 0→Ends J2 (L1 x y (x.length+1) (OY (x.getD i 0) z c) x.length (zc .i64 ((i:Int)+1)) ((p++zq (x.length+1-i) 0).set i (Hk (x.getD i 0) z c))) Q:=by
   intro z hz ez;obtain⟨a1,a2,a3⟩:=JO gx hz hc;rw[wr ((i:Int)+1) (by omega) (by omega),Ix p (x.length+1) i _ hp (by omega)];refine Aj x y hx hy hl hm hq k (i+1) (p++[Hk (x.getD i 0) z c]) _ (by omega) (by simp;omega) (DI hd a1) a2 ?_;rw[EB,hp,JG,AD _ x i,AD _ y i, ←ez,qg, ←zT,a3,zT,zT];omega
  refine ya (As ..) (zg (by simp;omega) ?_);rw[zo];refine zn (fun d=>?_) (fun d=>?_)
  ·have d:=of_decide_eq_true d;refine zg (by simp;omega) (zg (by simp;omega) (zg ?_ (zg (by simp;omega) (zg (decide_eq_true (by rw[lo];omega)) (step _ gy rfl)))));rw[gx,gy,zU,zU,zk];exact⟨decide_eq_true hc.1,decide_eq_true hc.2⟩
  ·have d:=of_decide_eq_false d;have hz:y.getD i 0=0:=by rw[zx,List.getElem?_eq_none (by omega)];rfl
   refine zg (by simp;omega) (zg ?_ (zg (by simp;omega) (zg (decide_eq_true (by rw[lo];omega)) (step _ rfl hz.symm))));rw[gx,show zt 0=true from rfl,zU,zU,zk];exact⟨decide_eq_true hc.1,decide_eq_true hc.2⟩
theorem start(x y:List Int)(hx:Au Ak x)(hy:Au Ak y)(hl:y.length≤x.length)(hm:x.length≤9000)(hq:∀ob,Q (.dat CZ (Bo (An x+An y))) ob){t:Tr}:
  Ends J2 (.ite (decide ((0:Int)≤zc yc ((x.length:Int)+(1:Int)))&&decide (zc yc ((x.length:Int)+(1:Int))=zc yc ((x.length:Int)+(1:Int)))&&decide ((8:Nat)*qf (zc yc ((x.length:Int)+(1:Int)))≤(281474976710656:Nat))&&decide (zc yc ((x.length:Int)+(1:Int))<(9223372036854775808:Int)))
   (L1 x y (qf (zc yc ((x.length:Int)+(1:Int)))) ((0:Int)) ((x.length:Int)) ((0:Int)) (zq (qf (zc yc ((x.length:Int)+(1:Int)))) (0:Int))) t) Q:=by
 have e1:zc .i64 ((x.length:Int)+1)=((x.length+1:Nat):Int):=by rw[wr _ (by omega) (by omega)];omega
 rw[e1,zo];refine zg (by simp;omega) ?_;exact Aj x y hx hy hl hm hq x.length 0 [] 0 (by omega) rfl (fun _ h=>by cases h) (by omega) (by simp[zP])
theorem ok(hall:∀g sp,J2.sp g=some sp→Ae AT g sp):Ae AT 220 bQ:=by
 refine Av (X:=J2) rfl hall (d:=9) (by kernel_rfl) (by kernel_rfl) (by kernel_rfl) (fun(i:List Int×List Int) hi=>?_) (Ad (by kernel_rfl));obtain⟨x,y⟩:=i;have hi:(qi x&&qi y)=true:=hi;rw[zk]at hi;obtain⟨x1,x2⟩:=Wy hi.1;obtain⟨y1,y2⟩:=Wy hi.2;have hq:∀ob,Af bQ (x,y) (.dat CZ (Bo (An x+An y))) ob:=fun ob=>zL rfl rfl rfl
 refine zY (Am x y) (zn (fun c=>?_) (fun c=>?_))
 ·have c:=of_decide_eq_true c;exact start y x y2 x2 (by omega) y1 (by rw[Int.add_comm];exact hq)
 ·have c:=of_decide_eq_false c;exact start x y x2 y2 (by omega) x1 hq
end T220
namespace T222
variable {Q:PV→Ob→Prop}
theorem aF{b:Int}(hb:0<b){l:List Int}{n:Nat}(h:Au b l)(hv:zP b l<b^n):zP b (l.take n)=zP b l:=by
 rcases Nat.lt_or_ge n l.length with hn|hn
 ·have h1:=B6 b l n (by omega);have h2:=Ay (by omega) (AK h n);have h3:=Ay (by omega) (Ef h n);rcases zM 0 (zP b (l.drop n))with h4|h4
  ·have:=zQ (show 1≤zP b (l.drop n)by omega) (zZ (AM hb n));rw[Int.mul_one]at this;omega
  ·have:zP b (l.drop n)=0:=by omega
   rw[this,yx]at h1;omega
 ·rw[zz hn]
theorem Aj(x y:List Int)(hx:Au Ak x)(hy:Au Ak y)(hl:An y≤An x)(hm:x.length≤20000)(hq:∀ob,Q (.dat CZ (Bo (An x-An y))) ob):∀(k i:Nat) (p:List Int) (c:Int),i+k=x.length→p.length=i→Au Ak p→(0≤c∧c≤1)→zP Ak p-(Ak:Int)^i*c=zP Ak (x.take i)-zP Ak (y.take i)→
  Ends J2 (L1 x y x.length c x.length i (p++zq (x.length-i) 0)) Q
 |0,i,p,c,hi,hp,hd,hc,he=>by
  have hi:i=x.length:=by omega
  subst hi;have er:p++zq (x.length-x.length) (0:Int)=p:=by rw[Nat.sub_self];simp
  have ht:p.take x.length=p:=zz (by omega);have hX:An x<(Ak:Int)^x.length:=Bn (by decide) hx;have hP:An p<(Ak:Int)^p.length:=Bn (by decide) hd;have hv:An p=An x-An y:=by
   rw[ye,aF (by decide) hy (show zP Ak y<_ from zW hl hX)]at he;have he:An p-(Ak:Int)^x.length*c=An x-An y:=he;rw[hp]at hP;rcases zM 0 c with h|h
   ·have:c=1:=by omega
    subst this;rw[Int.mul_one]at he;omega
   ·have:c=0:=by omega
    subst this;rw[yx]at he;omega
  rw[er];refine ya (As ..) (z7 (by simp) ?_);rw[ht];refine zg ?_ (zl ?_)
  ·rw[DR (by omega) hd];simp;omega
  ·rw[Kg hd,hv];exact hq _
 |k+1,i,p,c,hi,hp,hd,hc,he=>by
  have gx:=AS hx i;have gy:=AS hy i;have lo:(p++zq (x.length-i) (0:Int)).length=x.length:=by simp;omega
  have step:∀z,zt z=true→z=y.getD i 0→Ends J2 (L1 x y x.length (Pg (x.getD i 0) z c) x.length (zc .i64 ((i:Int)+1)) ((p++zq (x.length-i) 0).set i (Sq (x.getD i 0) z c))) Q:=by
   intro z hz ez;obtain⟨a1,a2,a3⟩:=Sp.Gt gx hz hc;rw[wr ((i:Int)+1) (by omega) (by omega),Ix p x.length i _ hp (by omega)];refine Aj x y hx hy hl hm hq k (i+1) (p++[Sq (x.getD i 0) z c]) _ (by omega) (by simp;omega) (DI hd a1) a2 ?_;have e:(Ak:Int)^i*Sq (x.getD i 0) z c-(Ak:Int)^i*(18446744073709551616*Pg (x.getD i 0) z c)=(Ak:Int)^i*x.getD i 0-(Ak:Int)^i*z-(Ak:Int)^i*c:=by
    rw[←qd,a3,qd,qd]
   rw[EB,hp,JG,AD _ x i,AD _ y i, ←ez];omega
  refine ya (As ..) (zg (by simp;omega) ?_);rw[zo];refine zn (fun d=>?_) (fun d=>?_)
  ·have d:=of_decide_eq_true d;refine zg (by simp;omega) (zg (by simp;omega) (zg ?_ (zg (by simp;omega) (zg (decide_eq_true (by rw[lo];omega)) (step _ gy rfl)))));rw[gx,gy,zU,zU,zk];exact⟨decide_eq_true hc.1,decide_eq_true hc.2⟩
  ·have d:=of_decide_eq_false d;have hz:y.getD i 0=0:=by rw[zx,List.getElem?_eq_none (by omega)];rfl
   refine zg (by simp;omega) (zg ?_ (zg (by simp;omega) (zg (decide_eq_true (by rw[lo];omega)) (step _ rfl hz.symm))));rw[gx,show zt 0=true from rfl,zU,zU,zk];exact⟨decide_eq_true hc.1,decide_eq_true hc.2⟩
theorem ok(hall:∀g sp,J2.sp g=some sp→Ae AT g sp):Ae AT 222 Zt:=by
 refine Av (X:=J2) rfl hall (d:=9) (by kernel_rfl) (by kernel_rfl) (by kernel_rfl) (fun(i:List Int×List Int) hi=>?_) (Ad (by kernel_rfl));obtain⟨x,y⟩:=i;have hi:(Cx x&&Cx y&&decide (An y≤An x))=true:=hi;rw[zk,zk,decide_eq_true_eq]at hi;obtain⟨x1,x2⟩:=Hy hi.1.1;obtain⟨y1,y2⟩:=Hy hi.1.2;have hq:∀ob,Af Zt (x,y) (.dat CZ (Bo (An x-An y))) ob:=fun ob=>zL rfl rfl rfl
 refine zY (Am x y) ?_;conv=>zeta
 rw[zo];refine zg (by simp;omega) ?_;exact Aj x y x2 y2 hi.2 x1 hq x.length 0 [] 0 (by omega) rfl (fun _ h=>by cases h) (by omega) (by simp[zP])
end T222
end Go.Pe
end
section
namespace Go.Pe
open Sp
open Go.Det
theorem Ku(n:Int):zc .u64 n=n % 18446744073709551616:=by simp[zc,IntKind.bits,IntKind.signed]
theorem X2(n:Nat):zp (n:Int) ((2:Int)^(32:Nat))=((n/4294967296:Nat):Int):=by
 rw[zX _ (by decide)];rfl
theorem dF(n:Nat)(h:n<18446744073709551616):zc .u64 (n:Int)=n:=wu _ (by omega) (by omega)
theorem N6(n:Nat)(h:n<18446744073709551616):G4 .u64 (n:Int) 4294967295=((n % 4294967296:Nat):Int):=by
 have e:(zR 64 (n:Int)&&&zR 64 4294967295).toNat=n % 4294967296:=by
  rw[BitVec.toNat_and];have h1:(zR 64 (n:Int)).toNat=n:=by rw[yk,yo];exact yu h
  have h2:(zR 64 4294967295).toNat=2^32-1:=by decide
  rw[h1,h2,Nat.and_two_pow_sub_one_eq_mod]
 show zc .u64 (((zR 64 (n:Int)&&&zR 64 4294967295).toNat:Nat):Int)=_;rw[e];exact dF _ (by omega)
namespace T223
theorem ok:Ae AT 223 R0:=by
 refine Av (X:=TJ) rfl IE (d:=9) (by kernel_rfl) (by kernel_rfl) (by kernel_rfl) (fun(i:Int×Int) hi=>?_) (Ad (by kernel_rfl));obtain⟨x,y⟩:=i;have hi:(zt x&&zt y)=true:=hi;rw[zk]at hi;have hx:=y7 hi.1;have hy:=y7 hi.2;obtain⟨x,rfl⟩:=zr hx.1;obtain⟨y,rfl⟩:=zr hy.1;have hx:x<18446744073709551616:=by omega
 have hy:y<18446744073709551616:=by omega
 obtain⟨m1,m2,m3,m4⟩:=Go.Lib.mul64_hi x y hx hy;have k1:=yp (a:=x/4294967296) (b:=y/4294967296) (by omega) (by omega);have k2:=yp (a:=x/4294967296) (b:=y % 4294967296) (by omega) (by omega);have k3:=yp (a:=x % 4294967296) (b:=y/4294967296) (by omega) (by omega);refine zY (Am (x:Int) (y:Int)) (zg rfl (zg rfl (zg rfl (zg rfl (zg rfl (zl (zL rfl rfl ?_)))))));refine Prod.ext ?_ ?_
 ·show zc ze (zc ze (zc ze (zp (x:Int) ((2:Int)^(32:Nat))*zp (y:Int) ((2:Int)^(32:Nat)))+zp (zc ze (zc ze (zp (x:Int) ((2:Int)^(32:Nat))*G4 ze (y:Int) (4294967295:Int))+zp (zc ze (G4 ze (x:Int) (4294967295:Int)*G4 ze (y:Int) (4294967295:Int))) ((2:Int)^(32:Nat)))) ((2:Int)^(32:Nat)))+zp (zc ze (G4 ze (zc ze (zc ze (zp (x:Int) ((2:Int)^(32:Nat))*G4 ze (y:Int) (4294967295:Int))+zp (zc ze (G4 ze (x:Int) (4294967295:Int)*G4 ze (y:Int) (4294967295:Int))) ((2:Int)^(32:Nat)))) (4294967295:Int)+zc ze (G4 ze (x:Int) (4294967295:Int)*zp (y:Int) ((2:Int)^(32:Nat))))) ((2:Int)^(32:Nat)))=P7 x y;have em:P7 x y=((x*y/18446744073709551616:Nat):Int):=by unfold P7;omega
  rw[em, ←m4];have hlt:x*y/18446744073709551616<18446744073709551616:=Nat.div_lt_of_lt_mul (Nat.mul_lt_mul'' hx hy);rw[←m4]at hlt;simp only[X2,N6 x hx,N6 y hy];simp only[←yh];generalize (x/4294967296)*(y/4294967296)=a at*;generalize (x/4294967296)*(y % 4294967296)=b at*;generalize (x % 4294967296)*(y/4294967296)=c at*;generalize (x % 4294967296)*(y % 4294967296)=d at*;rw[dF d (by omega),dF a (by omega),dF b (by omega),dF c (by omega),X2, ←yn,dF _ m2,X2,N6 _ m2, ←yn, ←yn,dF _ m3,X2,dF (a+_) (by omega), ←yn,dF _ hlt]
 ·show zc .u64 ((x:Int)*y)=H3 x y;unfold H3;exact Ku _
end T223
theorem Z0{x y o c:Int}(hx:zt x=true)(hy:zt y=true)(ho:zt o=true)(hc:zt c=true):
  zt (H3 x y)=true∧zt (Hk (H3 x y) o 0)=true∧zt (Hk (Hk (H3 x y) o 0) c 0)=true∧
  zc .u64 (zc .u64 (P7 x y+OY (H3 x y) o 0)+OY (Hk (H3 x y) o 0) c 0)=(x*y+o+c)/18446744073709551616∧
  zt ((x*y+o+c)/18446744073709551616)=true∧
  Hk (Hk (H3 x y) o 0) c 0+18446744073709551616*((x*y+o+c)/18446744073709551616)=x*y+o+c:=by
 have hx:=y7 hx;have hy:=y7 hy;have ho:=y7 ho;have hc:=y7 hc;have h0:0≤x*y:=zu hx.1 hy.1;have h1:x*y≤18446744073709551615*18446744073709551615:=by
  have a:=zQ (show y≤18446744073709551615 by omega) hx.1;have b:=zm (show x≤18446744073709551615 by omega) (show(0:Int)≤18446744073709551615 by omega);omega
 unfold H3 P7 Hk OY;generalize x*y=P at*;refine⟨Cv (by omega) (by omega),Cv (by omega) (by omega),Cv (by omega) (by omega),?_,Cv (by omega) (by omega),by omega⟩;rw[Ku,Ku];omega
namespace T225
variable {Q:PV→Ob→Prop}
theorem AU(x y:List Int)(n i:Nat)(hi:i<x.length)(hn:n=x.length+y.length)(hx9:x.length≤9000)(hy9:y.length≤9000)(hx:Au Ak x)(hy:Au Ak y)(p:List Int)(hp:p.length=i+y.length)(hdp:Au Ak p)
  (hq:∀q c,q.length=i+y.length→Au Ak q→zt c=true→zP Ak q+(Ak:Int)^(i+y.length)*c=zP Ak p+(Ak:Int)^i*(x.getD i 0*zP Ak y)→Ends J2 (L1 y n x x.length ((i+1:Nat):Int) ((q++[c])++zq (n-(i+y.length+1)) 0)) Q):∀(k j:Nat) (q:List Int) (c:Int),j+k=y.length→q.length=i+j→Au Ak q→zt c=true→zP Ak q+(Ak:Int)^(i+j)*c=zP Ak (p.take (i+j))+(Ak:Int)^i*(x.getD i 0*zP Ak (y.take j))→
  Ends J2 (L2 y n i (x.getD i 0) c x x.length i y y.length j (q++(p.drop (i+j)++zq (n-(i+y.length)) 0))) Q
 |0,j,q,c,hj,hl,hd,hc,he=>by
  have hj:j=y.length:=by omega
  subst hj;have e1:zc .i64 ((i:Int)+(y.length:Int))=((i+y.length:Nat):Int):=by rw[wr _ (by omega) (by omega)];omega
  have e2:zc .i64 ((i:Int)+1)=((i+1:Nat):Int):=by rw[wr _ (by omega) (by omega)];omega
  have ed:p.drop (i+y.length)=[]:=List.drop_eq_nil_of_le (by omega);refine ya (A3 ..) (z7 (by simp) ?_);rw[e1,e2,zo,ed,List.nil_append,Ix q n _ c hl (by omega)];refine zg (by simp;omega) (zg (by simp;omega) (hq q c hl hd hc ?_));rw[he,zz (by omega),ye]
 |k+1,j,q,c,hj,hl,hd,hc,he=>by
  have gx:=AS hx i;have gy:=AS hy j;have gp:=AS hdp (i+j);have ep:p.drop (i+j)=p.getD (i+j) 0::p.drop (i+j+1):=by
   rw[zx,z6 (by omega)];exact yf (by omega)
  have e1:zc .i64 ((i:Int)+(j:Int))=((i+j:Nat):Int):=by rw[wr _ (by omega) (by omega)];omega
  have e2:zc .i64 ((j:Int)+1)=((j+1:Nat):Int):=by rw[wr _ (by omega) (by omega)];omega
  have lo:(q++(p.drop (i+j)++zq (n-(i+y.length)) (0:Int))).length=n:=by simp;omega
  have g1:(q++(p.drop (i+j)++zq (n-(i+y.length)) (0:Int))).getD (i+j) 0=p.getD (i+j) 0:=by
   rw[ep,yv];exact Di _ _ _ _ hl
  have s1:∀z,(q++(p.drop (i+j)++zq (n-(i+y.length)) (0:Int))).set (i+j) z=(q++[z])++(p.drop (i+(j+1))++zq (n-(i+y.length)) 0):=by
   intro z;rw[ep,yv,C5 _ _ _ _ hl,List.append_assoc];rfl
  obtain⟨m1,m2,m3,m4,m5,m6⟩:=Z0 gx gy gp hc;refine ya (A3 ..) (zg (by simp;omega) ?_);rw[e1,e2,zo,zo,g1,s1,m4];have t1:(decide ((0:Int)≤((i+j:Nat):Int))&&decide (((i+j:Nat):Int)<(n:Int)))=true:=by simp;omega
  refine zg (by simp;omega) (zg (by rw[gx,gy];rfl) (zg t1 (zg (decide_eq_true (by rw[lo];omega)) (zg (by rw[m1,gp];rfl) (zg (by rw[m2,hc];rfl) (zg t1 (zg (decide_eq_true (by rw[lo];omega)) ?_)))))));refine AU x y n i hi hn hx9 hy9 hx hy p hp hdp hq k (j+1) _ _ (by omega) (by simp;omega) (DI hd m3) m5 ?_;have ea:i+(j+1)=(i+j)+1:=by omega
  have eb:(Ak:Int)^i*(x.getD i 0*((Ak:Int)^j*y.getD j 0))=(Ak:Int)^(i+j)*(x.getD i 0*y.getD j 0):=by
   rw[Int.pow_add,zy,Int.mul_left_comm (x.getD i 0)]
  rw[ea,EB,hl,JG,qg, ←zT,m6,AD _ p (i+j),AD _ y j,zT,zT,zT (x.getD i 0),zT,eb];omega
theorem Aj(x y:List Int)(n:Nat)(hn:n=x.length+y.length)(hx9:x.length≤9000)(hy9:y.length≤9000)(hx:Au Ak x)(hy:Au Ak y)(hq:∀ob,Q (.dat CZ (Bo (An x*An y))) ob):∀(k i:Nat) (p:List Int),i+k=x.length→p.length=i+y.length→Au Ak p→zP Ak p=zP Ak (x.take i)*zP Ak y→
  Ends J2 (L1 y n x x.length i (p++zq (n-(i+y.length)) 0)) Q
 |0,i,p,hi,hp,hd,he=>by
  have hi:i=x.length:=by omega
  subst hi;have ez:p++zq (n-(x.length+y.length)) (0:Int)=p:=by rw[hn,Nat.sub_self];simp
  have hv:An p=An x*An y:=by
   rw[ye]at he;exact he
  rw[ez];refine ya (As ..) (z7 (by simp) ?_);rw[zz (by omega)];refine zg ?_ (zl ?_)
  ·rw[DR (by omega) hd];simp;omega
  ·rw[Kg hd,hv];exact hq _
 |k+1,i,p,hi,hp,hd,he=>by
  refine ya (As ..) (zg (by simp;omega) ?_);rw[zo];refine zg (by simp;omega) ?_;have h0:zP Ak (p.take (i+y.length))=zP Ak p:=by rw[zz (by omega)]
  have:=AU (Q:=Q) x y n i (by omega) hn hx9 hy9 hx hy p hp hd (fun q c hl hdq hc hv=>by
   have:=Aj x y n hn hx9 hy9 hx hy hq k (i+1) (q++[c]) (by omega) (by simp;omega) (DI hdq hc) (by
    rw[EB,hl,hv,he,AD,zN,zy])
   rw[show i+1+y.length=i+y.length+1 by omega]at this;exact this) y.length 0 (p.take i) 0 (by omega) (by simp;omega) (AK hd i) rfl (by simp[zP])
  rw[Nat.add_zero, ←List.append_assoc,List.take_append_drop]at this;exact this
theorem ok(hall:∀g sp,J2.sp g=some sp→Ae AT g sp):Ae AT 225 eK:=by
 refine Av (X:=J2) rfl hall (d:=9) (by kernel_rfl) (by kernel_rfl) (by kernel_rfl) (fun(i:List Int×List Int) hi=>?_) (Ad (by kernel_rfl));obtain⟨x,y⟩:=i;have hi:(qi x&&qi y)=true:=hi;rw[zk]at hi;obtain⟨x1,x2⟩:=Wy hi.1;obtain⟨y1,y2⟩:=Wy hi.2;have hq:∀ob,Af eK (x,y) (.dat CZ (Bo (An x*An y))) ob:=fun ob=>zL rfl rfl rfl
 have e1:zc .i64 ((x.length:Int)+(y.length:Int))=((x.length+y.length:Nat):Int):=by rw[wr _ (by omega) (by omega)];omega
 refine zY (Am x y) ?_;conv=>zeta
 rw[e1,zo];refine zg (by simp;omega) ?_;have:=Aj x y (x.length+y.length) rfl x1 y1 x2 y2 hq x.length 0 (zq y.length 0) (by omega) (by simp) (fun d hd=>by
  obtain⟨_,rfl⟩:=List.mem_replicate.1 hd;exact⟨by decide,by decide⟩) (by rw[Lx];simp[zP])
 rw[Nat.zero_add,List.replicate_append_replicate,show y.length+(x.length+y.length-y.length)=x.length+y.length by omega]at this;exact this
end T225
theorem EO:∀g sp,J2.sp g=some sp→Ae AT g sp:=
 Aa T224.ok (Aa T268.ok (Aa T270.ok (Aa T269.ok (Aa T223.ok (fun g sp h=>by cases h)))))
theorem QZ:∀g sp,rL.sp g=some sp→Ae AT g sp:=
 Aa (T218.ok EO) (Aa (T219.ok EO) (Aa (T220.ok EO) (Aa (T222.ok EO) (Aa T221.ok (Aa (T225.ok EO) (Aa T223.ok (Aa T224.ok (fun g sp h=>by cases h))))))))
end Go.Pe
end
section
namespace Go.Sp
def A5(a:AQ):Bool:=C8 a&&decide (a.2.length≤9000)
def X4(a b:AQ):Int:=BW (vI a) (vI b)
def Hf(a:AQ):Int:=Pd (vI a)
end Go.Sp
namespace Go.Pe
open Sp
open Go.Det
noncomputable section
noncomputable def SL:Ao:=⟨[BE],fun a=>C8 a,[BE],fun a=>(D2 a,D3 a),false⟩
noncomputable def nR:Ao:=⟨[BE],fun a=>C8 a,[BE],fun a=>(M6 a,Og a),false⟩
noncomputable def Jn:Ao:=⟨[BE],fun a=>C8 a,[i64],fun a=>Hf a,false⟩
noncomputable def Ny:Ao:=⟨[BE,BE],fun i=>A5 i.1&&A5 i.2,[BE],fun i=>(Hv i.1 i.2,HS i.1 i.2),false⟩
noncomputable def eP:Ao:=⟨[BE,BE],fun i=>A5 i.1&&A5 i.2,[BE],fun i=>(fZ i.1 i.2,eL i.1 i.2),false⟩
noncomputable def Qn:Ao:=⟨[BE,BE],fun i=>A5 i.1&&A5 i.2,[BE],fun i=>(Ex i.1 i.2,Ew i.1 i.2),false⟩
noncomputable def dD:Ao:=⟨[BE,BE],fun i=>A5 i.1&&A5 i.2,[i64],fun i=>X4 i.1 i.2,false⟩
noncomputable def uD:A6:=X7 [(174,SL),(158,Ny)]
noncomputable def wW:A6:=X7 [(217,eP),(173,Jn)]
end
end Go.Pe
end
section
namespace Go.Pe
open Sp
open Go.Det
noncomputable section
open List Int Prod
namespace T174
def T(a:Int×List Int):Tr:=tree rL false 9 174 (Ah ([yi i64 (zO (zj ze))]) a)
theorem Am(a:Int×List Int):T a=let c':=zO (zj ze);let d':=Bo (Ag (zh (fst a,snd a)));let e':=zc .i64 (0-fst a);let b':=yq (!decide (zh (fst a,snd a)<0)) (An d');let a':Tr:=.ite (C8 (fst a,snd a)) (.ite (B0 d') (.leaf (yg [.dat i64 (Cq b'),.dat c' (Cp b')]) ([(zw 0 1,.box [.dat i64 (Cq b'),.dat c' (Cp b')]),(0,.box [.dat i64 (fst a),.dat c' (snd a)])])) .fail) .fail;.ite (!decide (0<length (snd a))) (.ite (fst a !=(-9223372036854775808)) (.leaf (yg [.dat i64 e',.nil]) ([(zw 0 1,.box [.dat i64 e',.nil]),(0,.box [.dat i64 (fst a),.dat c' (snd a)])])) a') a':=by kernel_rfl
end T174
namespace T158
def T(a b:Int×List Int):Tr:=tree rL false 9 158 (Ah ([yi i64 (zO (zj ze)),yi i64 (zO (zj ze))]) (a,b))
theorem Am(a b:Int×List Int):T a b=let b':=Bo (Ag (zh (fst a,snd a)));let c':=Bo (Ag (zh (fst b,snd b)));let d':=zO (zj ze);let h':=decide (zh (fst a,snd a)<0);let i':=zc .i64 (fst a+fst b);let m':=decide (zh (fst b,snd b)<0);let j':=Bo (An b'+An c');let k':=Bo (An b'-An c');let l':=Bo (An c'-An b');let e':=yq (h') (An j');let f':=yq (h') (An k');let g':=yq (m') (An l');let a':Tr:=.ite (C8 (fst a,snd a)) (.ite (C8 (fst b,snd b)) (.ite (h'==m') (.ite (qi b'&&qi c') (.ite (B0 j') (.leaf (yg [.dat i64 (Cq e'),.dat d' (Cp e')]) ([(zw (zw 0 1) 1,.box [.dat i64 (Cq e'),.dat d' (Cp e')]),(zw 0 1,.box [.dat i64 (fst b),.dat d' (snd b)]),(0,.box [.dat i64 (fst a),.dat d' (snd a)])])) .fail) .fail) (.ite (B0 b'&&B0 c') (.ite (decide (BW (An b') (An c')≥0)) (.ite (Cx b'&&Cx c'&&decide (An c'≤An b')) (.ite (B0 k') (.leaf (yg [.dat i64 (Cq f'),.dat d' (Cp f')]) ([(zw (zw 0 1) 1,.box [.dat i64 (Cq f'),.dat d' (Cp f')]),(zw 0 1,.box [.dat i64 (fst b),.dat d' (snd b)]),(0,.box [.dat i64 (fst a),.dat d' (snd a)])])) .fail) .fail) (.ite (Cx c'&&Cx b'&&decide (An b'≤An c')) (.ite (B0 l') (.leaf (yg [.dat i64 (Cq g'),.dat d' (Cp g')]) ([(zw (zw 0 1) 1,.box [.dat i64 (Cq g'),.dat d' (Cp g')]),(zw 0 1,.box [.dat i64 (fst b),.dat d' (snd b)]),(0,.box [.dat i64 (fst a),.dat d' (snd a)])])) .fail) .fail)) .fail)) .fail) .fail;.ite (!decide (0<length (snd a))) (.ite (!decide (0<length (snd b))) (.ite (decide (zc .i64 (fst a+fst b)>fst a)==decide (fst b>0)) (.leaf (yg [.dat i64 i',.nil]) ([(zw (zw 0 1) 1,.box [.dat i64 i',.nil]),(zw 0 1,.box [.dat i64 (fst b),.dat d' (snd b)]),(0,.box [.dat i64 (fst a),.dat d' (snd a)])])) a') a') a':=by kernel_rfl
end T158
namespace T159
def T(a b:Int×List Int):Tr:=tree rL false 9 159 (Ah ([yi i64 (zO (zj ze)),yi i64 (zO (zj ze))]) (a,b))
theorem Am(a b:Int×List Int):T a b=let c':=zO (zj ze);let f':=Ag (fst a);let g':=Ag (fst b);let i':=Bo (Ag (zh (fst a,snd a)));let j':=Bo (Ag (zh (fst b,snd b)));let d':=H3 f' g';let e':=Bo (An i'*An j');let b':=yq (!decide (zh (fst a,snd a)<0)==decide (zh (fst b,snd b)<0)) (An e');let h':=zc .i64 (0-zc .i64 d');let a':Tr:=.ite (C8 (fst a,snd a)) (.ite (C8 (fst b,snd b)) (.ite (qi i'&&qi j') (.ite (B0 e') (.leaf (yg [.dat i64 (Cq b'),.dat c' (Cp b')]) ([(zw (zw 0 1) 1,.box [.dat i64 (Cq b'),.dat c' (Cp b')]),(zw 0 1,.box [.dat i64 (fst b),.dat c' (snd b)]),(0,.box [.dat i64 (fst a),.dat c' (snd a)])])) .fail) .fail) .fail) .fail;.ite (!decide (0<length (snd a))) (.ite (!decide (0<length (snd b))) (.ite (BG (fst a)) (.ite (BG (fst b)) (.ite (zt f'&&zt g') (.ite (P7 f' g'==0) (.ite (decide (H3 f' g'≤9223372036854775807)) (.ite (!decide (fst a<0)==decide (fst b<0)) (.leaf (yg [.dat i64 h',.nil]) ([(zw (zw 0 1) 1,.box [.dat i64 h',.nil]),(zw 0 1,.box [.dat i64 (fst b),.dat c' (snd b)]),(0,.box [.dat i64 (fst a),.dat c' (snd a)])])) (.leaf (yg [.dat i64 (zc .i64 d'),.nil]) ([(zw (zw 0 1) 1,.box [.dat i64 (zc .i64 d'),.nil]),(zw 0 1,.box [.dat i64 (fst b),.dat c' (snd b)]),(0,.box [.dat i64 (fst a),.dat c' (snd a)])]))) a') a') .fail) .fail) .fail) a') a':=by kernel_rfl
end T159
namespace T212
def T(a:Int×List Int):Tr:=tree uD false 9 212 (Ah ([yi i64 (zO (zj ze))]) a)
theorem Am(a:Int×List Int):T a=let a':=zO (zj ze);let b':=D2 (fst a,snd a);let c':=D3 (fst a,snd a);.ite (decide (fst a<0)) (.ite (C8 (fst a,snd a)) (.leaf (yg [.dat i64 b',.dat a' c']) ([(zw 0 1,.box [.dat i64 b',.dat a' c']),(0,.box [.dat i64 (fst a),.dat a' (snd a)])])) .fail) (.leaf (yg [.dat i64 (fst a),.dat a' (snd a)]) ([(zw 0 1,.box [.dat i64 (fst a),.dat a' (snd a)]),(0,.box [.dat i64 (fst a),.dat a' (snd a)])])):=by kernel_rfl
end T212
namespace T173
def T(a:Int×List Int):Tr:=tree TJ false 9 173 (Ah ([yi i64 (zO (zj ze))]) a)
theorem Am(a:Int×List Int):T a=.leaf (.dat i64 (imax (-1) (Eg 1 (fst a)))) ([(0,.box [.dat i64 (fst a),.dat (zO (zj ze)) (snd a)])]):=by kernel_rfl
end T173
namespace T217
def T(a b:Int×List Int):Tr:=tree uD false 9 217 (Ah ([yi i64 (zO (zj ze)),yi i64 (zO (zj ze))]) (a,b))
theorem Am(a b:Int×List Int):T a b=let a':=(D2 (fst b,snd b),D3 (fst b,snd b));let b':=zO (zj ze);let c':=Hv (fst a,snd a) a';let d':=HS (fst a,snd a) a';.ite (C8 (fst b,snd b)) (.ite (A5 (fst a,snd a)&&A5 a') (.leaf (yg [.dat i64 c',.dat b' d']) ([(zw (zw 0 1) 1,.box [.dat i64 c',.dat b' d']),(zw 0 1,.box [.dat i64 (fst b),.dat b' (snd b)]),(0,.box [.dat i64 (fst a),.dat b' (snd a)])])) .fail) .fail:=by kernel_rfl
end T217
namespace T154
def T(a b:Int×List Int):Tr:=tree wW false 9 154 (Ah ([yi i64 (zO (zj ze)),yi i64 (zO (zj ze))]) (a,b))
theorem Am(a b:Int×List Int):T a b=let c':=(fZ (fst a,snd a) (fst b,snd b),eL (fst a,snd a) (fst b,snd b));let d':=zO (zj ze);let a':=[(zw 0 1,.box [.dat i64 (fst b),.dat d' (snd b)]),(0,.box [.dat i64 (fst a),.dat d' (snd a)])];let b':Tr:=.ite (A5 (fst a,snd a)&&A5 (fst b,snd b)) (.ite (C8 c') (.leaf (.dat i64 (Hf c')) a') .fail) .fail;.ite (!decide (0<length (snd a))) (.ite (!decide (0<length (snd b))) (.ite (decide (fst a<fst b)) (.leaf (.dat i64 (-1:Int)) a') (.ite (decide (fst a>fst b)) (.leaf (.dat i64 (1:Int)) a') (.leaf (.dat i64 (0:Int)) a'))) b') b':=by kernel_rfl
end T154
end
end Go.Pe
end
section
namespace Go.Pe
open Sp
open Go.Det
theorem QQ(k:Nat):((Ak^k:Nat):Int)=(Ak:Int)^k:=yb ..
theorem Jz{n:Int}{k:Nat}(h0:0≤n)(h:n<(Ak:Int)^k):(Bo n).length≤k:=by
 refine MF Ak (by decide) k n.toNat n.toNat ?_;rw[←QQ]at h;generalize Ak^k=P at*;omega
theorem CL{n:Int}{k:Nat}(h0:0≤n)(h:n<(Ak:Int)^k)(hk:k≤20000):B0 (Bo n)=true∧Cx (Bo n)=true∧An (Bo n)=n:=by
 have h1:=Jz h0 h;have h2:Cx (Bo n)=true:=DR (by omega) (ET (by decide) n);have h3:pH (Bo n)=true:=by
  unfold pH;exact decide_eq_true (Wu (by decide) n)
 exact⟨by unfold B0;rw[h2,h3];rfl,h2,CH (by decide) h0⟩
theorem BQ{a:AQ}(h:A5 a=true):C8 a=true∧a.2.length≤9000:=by
 unfold A5 at h;rw[zk,decide_eq_true_eq]at h;exact h
theorem Us{s:Int}{w:List Int}(hw:w≠[]):zh (s,w)=if s<0 then -An w else An w:=by unfold zh;exact if_neg hw
theorem Oj{a:AQ}(h:C8 a=true):(a.2=[]∧Ag (zh a)≤9223372036854775808)∨(Bo (Ag (zh a))=a.2):=by
 obtain⟨hr,hw⟩:=Dz h;obtain⟨s,w⟩:=a;have hr: -9223372036854775808≤s∧s<9223372036854775808:=hr;rcases hw with hw|⟨h1,h2,h3⟩
 ·have hw:w=[]:=hw;subst hw;refine .inl ⟨rfl,?_⟩;rw[Ec];simp only[Ai];omega
 ·obtain⟨n1,n2,n3⟩:=Ey (l:=w) h1;have h2:s=1∨s= -1:=h2;have h3:9223372036854775808≤An w:=h3;have hne:w≠[]:=by rintro rfl;exact absurd h3 (by decide)
  refine .inr ?_;have e1:Ag (zh (s,w))=An w:=by rw[Us hne];simp only[Ai];split<;>omega
  rw[e1];exact(HN (by decide) n2 n3).symm
theorem AE(n:Int):0≤Ag n:=by simp only[Ai];omega
theorem HW{a:AQ}(h:C8 a=true){k:Nat}(hk:a.2.length≤k)(h1:1≤k):Ag (zh a)<(Ak:Int)^k:=by
 rcases Oj h with⟨_,hb⟩|he
 ·have:=AI (b:=Ak) (by decide) h1;rw[Int.pow_one]at this;have h3:(9223372036854775808:Int)<(Ak:Int):=by decide
  exact zW hb (Int.lt_of_lt_of_le h3 this)
 ·have hv:=CH (b:=Ak) (by decide) (AE (zh a));have:=Bn (b:=Ak) (by decide) (ET (b:=Ak) (by decide) (Ag (zh a)));rw[hv,show Sp.dg Ak (Ag (zh a))=a.2 from he]at this;exact Int.lt_of_lt_of_le this (AI (by decide) hk)
theorem LH{x y:Int}(hx:0≤x)(h1:x<(Ak:Int)^9000)(h2:y<(Ak:Int)^9000):x+y<(Ak:Int)^9001∧x*y<(Ak:Int)^18000:=by
 have e1:(Ak:Int)^9001=(Ak:Int)^9000*Ak:=qj ..;have e2:(Ak:Int)^18000=(Ak:Int)^9000*(Ak:Int)^9000:=Int.pow_add _ 9000 9000;rw[e1,e2];generalize (Ak:Int)^9000=P at*;refine⟨?_,?_⟩
 ·show x+y<P*18446744073709551616;omega
 ·have a:=zQ (show y≤P-1 by omega) hx;have b:=zm (show x≤P-1 by omega) (show 0≤P-1 by omega);have c:(P-1)*(P-1)=P*P-P-P+1:=by
   rw[Int.sub_mul,qd];omega
  omega
theorem Dd(n:Bool)(v:Int):yq n v=if n=true then -v else v:=rfl
theorem Cj(n:Int):zh (CD n)=n:=by
 unfold CD;split
 ·exact Ec
 ·have hv:=CH (b:=Ak) (by decide) (AE n);have hne:Bo (Ag n)≠[]:=by
   intro h;rw[show Sp.dg Ak (Ag n)=[]from h]at hv;have:(0:Int)=Ag n:=hv;simp only[Ai]at this;omega
  rw[Us hne,show An (Bo (Ag n))=Ag n from hv];simp only[Ai];split<;>split<;>omega
theorem Xr{a:AQ}{c:Bool}(h:(!decide (0<a.2.length))=c):(c=true→a.2=[])∧(c=false→a.2≠[]):=by
 subst h;rcases a with⟨s,w⟩
 cases w<;>simp
theorem OG{a:AQ}(h:(!decide (0<a.2.length))=true):a.2=[]:=(Xr h).1 rfl
theorem ZF{a:AQ}(h:(!decide (0<a.2.length))=false):a.2≠[]:=(Xr h).2 rfl
theorem Bj{a:AQ}(h:a.2=[]):zh a=a.1:=by unfold zh;exact if_pos h
theorem words{a:AQ}(h:A5 a=true):C8 a=true∧qi (Bo (Ag (zh a)))=true∧B0 (Bo (Ag (zh a)))=true∧Cx (Bo (Ag (zh a)))=true∧An (Bo (Ag (zh a)))=Ag (zh a)∧Ag (zh a)<(Ak:Int)^9000:=by
 obtain⟨h1,h2⟩:=BQ h;have hb:=HW h1 h2 (by omega);obtain⟨n,d,v⟩:=CL (AE _) hb (by omega);have hl:=Jz (AE _) hb;refine⟨h1,?_,n,d,v,hb⟩;unfold qi;rw[d,zU];exact decide_eq_true hl
theorem Ac{a b:Bool}(h1:a=true)(h2:b=true):(a&&b)=true:=by rw[h1,h2];rfl
theorem Ko(n:Int):Pd n=if n<0 then -1 else if n>0 then 1 else 0:=rfl
theorem qP{a:AQ}(h:C8 a=true):imax (-1) (Eg 1 a.1)=Pd (zh a):=by
 obtain⟨hr,hw⟩:=Dz h;obtain⟨s,w⟩:=a;rcases hw with hw|⟨h1,h2,h3⟩
 ·have hw:w=[]:=hw;subst hw;rw[Ec,Ko,ZQ];show imax (-1) (if (1:Int)≤s then 1 else s)=_;unfold imax;split<;>split<;>split<;>(try split)<;>omega
 ·have h2:s=1∨s= -1:=h2;have h3:9223372036854775808≤An w:=h3;have hne:w≠[]:=by rintro rfl;exact absurd h3 (by decide)
  rw[Us hne,Ko];rcases h2 with rfl|rfl
  ·have e:(if (1:Int)<0 then -An w else An w)=An w:=if_neg (by decide);rw[e,if_neg (show ¬An w<0 by omega),if_pos (show An w>0 by omega)];show imax (-1) (Eg 1 1)=1;decide
  ·have e:(if (-1:Int)<0 then -An w else An w)= -An w:=if_pos (by decide);rw[e,if_pos (show -An w<0 by omega)];show imax (-1) (Eg 1 (-1))= -1;decide
namespace T174
theorem ok:Ae AT 174 SL:=by
 refine Av (X:=rL) rfl QZ (d:=9) (by kernel_rfl) (by kernel_rfl) (by kernel_rfl) (fun(a:Int×List Int) ha=>?_) (Ad (by kernel_rfl));have ha:C8 a=true:=ha;have hn:B0 (Bo (Ag (zh a)))=true∧An (Bo (Ag (zh a)))=Ag (zh a):=by
  refine⟨?_,CH (by decide) (AE _)⟩;rcases Oj ha with⟨_,hb⟩|he
  ·have:(9223372036854775808:Int)<(Ak:Int)^1:=by decide
   exact(CL (AE _) (zW hb this) (by omega)).1
  ·obtain⟨_,hw⟩:=Dz ha;rw[he];rcases hw with hw|⟨h1,_⟩
   ·rw[hw];decide+kernel
   ·exact h1
 have hv:yq (!decide (zh a<0)) (An (Bo (Ag (zh a))))= -zh a:=by
  rw[hn.2,Dd,Ai];rcases zM (zh a) 0 with h|h
  ·rw[decide_eq_true h];simp;omega
  ·rw[decide_eq_false (by omega)];simp;omega
 have hr:=(Dz ha).1;refine zY (Am a) (zn (fun c=>zn (fun d=>zl (zL rfl rfl ?_)) (fun d=>zg ha (zg hn.1 (zl (zL rfl rfl ?_))))) (fun c=>zg ha (zg hn.1 (zl (zL rfl rfl ?_)))))
 ·have c:=OG c;have d:a.1≠ -9223372036854775808:=by simpa using d
  show(zc .i64 (0-a.1),[])=CV a;unfold CV;rw[if_pos ⟨c,d⟩,wr _ (by omega) (by omega),Int.zero_sub]
 ·have d:a.1= -9223372036854775808:=by simpa using d
  show CD (yq (!decide (zh a<0)) (An (Bo (Ag (zh a)))))=CV a;unfold CV;rw[if_neg (fun h=>h.2 d),hv]
 ·have c:=ZF c;show CD (yq (!decide (zh a<0)) (An (Bo (Ag (zh a)))))=CV a;unfold CV;rw[if_neg (fun h=>c h.1),hv]
end T174
namespace T158
theorem ok:Ae AT 158 Ny:=by
 refine Av (X:=rL) rfl QZ (d:=9) (by kernel_rfl) (by kernel_rfl) (by kernel_rfl) (fun(i:(Int×List Int)×(Int×List Int)) hi=>?_) (Ad (by kernel_rfl));obtain⟨a,b⟩:=i;have hi:(A5 a&&A5 b)=true:=hi;rw[zk]at hi;obtain⟨a1,a2,a3,a4,a5,a6⟩:=words hi.1;obtain⟨b1,b2,b3,b4,b5,b6⟩:=words hi.2;have hra:=(Dz a1).1;have hrb:=(Dz b1).1;have na:=AE (zh a);have nb:=AE (zh b);obtain⟨t1,_⟩:=LH na a6 b6;have hq:∀v ob,D9 a b=CD v→Af Ny (a,b) (.agg [.dat i64 (Cq v),.dat (.nlist (.int .u64)) (Cp v)]) ob:=fun v ob h=>zL rfl rfl (by
  show CD v=D9 a b;rw[h])
 have mono:(Ak:Int)^9000≤(Ak:Int)^9001:=AI (by decide) (by omega);have slow1:decide (zh a<0)=decide (zh b<0)→yq (decide (zh a<0)) (An (Bo (An (Bo (Ag (zh a)))+An (Bo (Ag (zh b))))))=zh a+zh b:=by
  intro e;rw[a5,b5,show An (Bo (Ag (zh a)+Ag (zh b)))=_ from CH (by decide) (by omega),Dd,Ai,Ai];rcases zM (zh a) 0 with h|h
  ·rw[decide_eq_true h]at e ⊢;have:=of_decide_eq_true e.symm;simp only[if_true];omega
  ·rw[decide_eq_false (by omega)]at e ⊢;have:=of_decide_eq_false e.symm;simp only[yr,if_false];omega
 have slow2:decide (zh a<0)≠decide (zh b<0)→Ag (zh b)≤Ag (zh a)→yq (decide (zh a<0)) (An (Bo (An (Bo (Ag (zh a)))-An (Bo (Ag (zh b))))))=zh a+zh b:=by
  intro e hle;rw[a5,b5,show An (Bo (Ag (zh a)-Ag (zh b)))=_ from CH (by decide) (by omega),Dd,Ai,Ai];rcases zM (zh a) 0 with h|h
  ·rw[decide_eq_true h]at e ⊢;have:¬zh b<0:=fun h=>e (decide_eq_true h).symm
   simp only[if_true];omega
  ·rw[decide_eq_false (by omega)]at e ⊢;have:zh b<0:=by
    rcases zM (zh b) 0 with h|h
    ·exact h
    ·exact absurd (decide_eq_false (by omega)).symm e
   simp only[yr,if_false];omega
 have slow3:decide (zh a<0)≠decide (zh b<0)→Ag (zh a)≤Ag (zh b)→yq (decide (zh b<0)) (An (Bo (An (Bo (Ag (zh b)))-An (Bo (Ag (zh a))))))=zh a+zh b:=by
  intro e hle;rw[a5,b5,show An (Bo (Ag (zh b)-Ag (zh a)))=_ from CH (by decide) (by omega),Dd,Ai,Ai];rcases zM (zh b) 0 with h|h
  ·rw[decide_eq_true h]at e ⊢;have:¬zh a<0:=fun h=>e (decide_eq_true h)
   simp only[if_true];omega
  ·rw[decide_eq_false (show ¬zh b<0 by omega)]at e ⊢;have:zh a<0:=by
    rcases zM (zh a) 0 with h|h
    ·exact h
    ·exact absurd (decide_eq_false (by omega)) e
   simp only[yr,if_false];omega
 have n1:B0 (Bo (An (Bo (Ag (zh a)))+An (Bo (Ag (zh b)))))=true:=by
  rw[a5,b5];exact(CL (by omega) t1 (by omega)).1
 have n2:Ag (zh b)≤Ag (zh a)→B0 (Bo (An (Bo (Ag (zh a)))-An (Bo (Ag (zh b)))))=true:=by
  intro h;rw[a5,b5];exact(CL (by omega) (zW (by omega) a6) (by omega)).1
 have n3:Ag (zh a)≤Ag (zh b)→B0 (Bo (An (Bo (Ag (zh b)))-An (Bo (Ag (zh a)))))=true:=by
  intro h;rw[a5,b5];exact(CL (by omega) (zW (by omega) b6) (by omega)).1
 have cge:∀ {c:Bool},decide (BW (An (Bo (Ag (zh a)))) (An (Bo (Ag (zh b))))≥0)=c→(c=true→Ag (zh b)≤Ag (zh a))∧(c=false→Ag (zh a)≤Ag (zh b)):=by
  intro c h;subst h;rw[a5,b5,decide_eq_true_eq,decide_eq_false_iff_not];unfold BW;constructor
  ·intro h;split at h<;>omega
  ·intro h;split at h
   ·omega
   ·split at h<;>omega
 refine zY (Am a b) (zn (fun c1=>zn (fun c2=>zn (fun c3=>zl (zL rfl rfl ?_)) (fun c3=>?_)) (fun c2=>?_)) (fun c1=>?_))
 ·have c1:=OG c1;have c2:=OG c2;have hs:zc .i64 (a.1+b.1)=a.1+b.1:=by
   rw[beq_iff_eq]at c3;rcases zM (a.1+b.1) (-9223372036854775808)with h|h
   ·exfalso;have e:zc .i64 (a.1+b.1)=a.1+b.1+18446744073709551616:=by rw[yw];omega
    rw[e,decide_eq_true (by omega),decide_eq_false (by omega)]at c3;cases c3
   ·rcases zM (a.1+b.1) 9223372036854775808 with h2|h2
    ·exact wr _ (by omega) (by omega)
    ·exfalso;have e:zc .i64 (a.1+b.1)=a.1+b.1-18446744073709551616:=by rw[yw];omega
     rw[e,decide_eq_false (by omega),decide_eq_true (by omega)]at c3;cases c3
  have hr:BG (a.1+b.1)=true:=by
   have: -9223372036854775808≤zc .i64 (a.1+b.1)∧zc .i64 (a.1+b.1)<9223372036854775808:=by rw[yw];omega
   rw[hs]at this;unfold BG;rw[zk,decide_eq_true_eq,decide_eq_true_eq];exact this
  show(zc .i64 (a.1+b.1),[])=D9 a b;unfold D9;rw[if_pos ⟨c1,c2,hr⟩,hs]
 all_goals
  have hm:D9 a b=CD (zh a+zh b):=by
   unfold D9;refine if_neg (fun h=>?_);obtain⟨h1,h2,h3⟩:=h;first
    |exact ZF c1 h1
    |exact ZF c2 h2
    |(have h3:=Ce h3
      have hs:zc .i64 (a.1+b.1)=a.1+b.1:=wr _ (by omega) (by omega);rw[hs,beq_eq_false_iff_ne]at c3;refine c3 ?_;rcases zM 0 b.1 with h|h
      ·rw[decide_eq_true (show a.1+b.1>a.1 by omega),decide_eq_true h]
      ·rw[decide_eq_false (show ¬a.1+b.1>a.1 by omega),decide_eq_false (show ¬b.1>0 by omega)])
  refine zg a1 (zg b1 (zn (fun e=>zg (Ac a2 b2) (zg n1 (zl (hq _ _ ?_)))) (fun e=>zg (Ac a3 b3) (zn (fun d=>zg ?_ (zg (n2 ((cge d).1 rfl)) (zl (hq _ _ ?_)))) (fun d=>zg ?_ (zg (n3 ((cge d).2 rfl)) (zl (hq _ _ ?_))))))))
  ·rw[hm];exact congrArg _ (slow1 (by simpa using e)).symm
  ·refine Ac (Ac a4 b4) (decide_eq_true ?_);rw[a5,b5];exact(cge d).1 rfl
  ·rw[hm];exact congrArg _ (slow2 (by simpa using e) ((cge d).1 rfl)).symm
  ·refine Ac (Ac b4 a4) (decide_eq_true ?_);rw[a5,b5];exact(cge d).2 rfl
  ·rw[hm];exact congrArg _ (slow3 (by simpa using e) ((cge d).2 rfl)).symm
end T158
end Go.Pe
end
section
namespace Go.Pe
open Sp
open Go.Det
theorem C3{n:Int}(h1: -9223372036854775808≤n)(h2:n<9223372036854775808):BG n=true:=by
 unfold BG;rw[zk,decide_eq_true_eq,decide_eq_true_eq];exact⟨h1,h2⟩
theorem J9{n:Int}(h:BG n=true):C8 (n,[])=true:=by
 unfold C8;rw[h];rfl
theorem MC{n:Int}{k:Nat}(h:Ag n<(Ak:Int)^k)(hk:k≤20000):C8 (CD n)=true∧(CD n).2.length≤k:=by
 unfold CD;split
 ·next c=>exact⟨J9 (C3 (by omega) (by omega)),Nat.zero_le _⟩
 ·next c=>
  obtain⟨n1,n2,n3⟩:=CL (AE n) h hk;refine⟨?_,Jz (AE n) h⟩;have hb:9223372036854775808≤Ag n:=by rw[Ai];omega
  unfold C8;refine Ac (C3 ?_ ?_) ?_
  ·show -9223372036854775808≤(if n<0 then -1 else 1);split<;>decide
  ·show(if n<0 then -1 else 1)<9223372036854775808;split<;>decide
  ·rw[y8];refine .inr (Ac (Ac n1 ?_) (decide_eq_true (by show _≤An (Bo (Ag n));rw[n3];exact hb)));show(decide ((if n<0 then(-1:Int)else 1)=1)||decide ((if n<0 then(-1:Int)else 1)= -1))=true;split<;>rfl
theorem Jr(a:AQ):zh (CV a)= -zh a:=by
 unfold CV;split
 ·next h=>rw[Ec,Bj h.1]
 ·exact Cj _
theorem JI(n:Int):Ag (-n)=Ag n:=by rw[Ai,Ai];omega
theorem gB{a:AQ}(h:C8 a=true){k:Nat}(h1:1≤k)(hk:k≤20000)(hl:a.2.length≤k):C8 (CV a)=true∧(CV a).2.length≤k:=by
 have hr:=(Dz h).1;unfold CV;split
 ·next c=>exact⟨J9 (C3 (by omega) (by omega)),Nat.zero_le _⟩
 ·exact MC (by rw[JI];exact HW h hl h1) hk
theorem S7{a:AQ}(h:A5 a=true):A5 (CV a)=true:=by
 obtain⟨h1,h2⟩:=BQ h;obtain⟨h3,h4⟩:=gB h1 (k:=9000) (by omega) (by omega) h2;unfold A5;exact Ac h3 (decide_eq_true h4)
theorem lC{a:AQ}(h:C8 a=true):a.1<0↔zh a<0:=by
 obtain⟨_,hw⟩:=Dz h;obtain⟨s,w⟩:=a;rcases hw with hw|⟨_,h2,h3⟩
 ·have hw:w=[]:=hw;subst hw;rw[Ec]
 ·have h2:s=1∨s= -1:=h2;have h3:9223372036854775808≤An w:=h3;have hne:w≠[]:=by rintro rfl;exact absurd h3 (by decide)
  rw[Us hne];show s<0↔_;split<;>omega
theorem VH(a b:AQ):zh (D9 a b)=zh a+zh b:=by
 unfold D9;split
 ·next h=>rw[Ec,Bj h.1,Bj h.2.1]
 ·exact Cj _
theorem mW(x y:Int):Ag (x+y)≤Ag x+Ag y:=by
 rw[Ai,Ai,Ai];omega
theorem ID(x y:Int):Ag (x*y)=Ag x*Ag y:=by
 rw[Ai,Ai,Ai,Int.natAbs_mul,yh]
theorem bounds{a:AQ}(h:A5 a=true):Ag (zh a)<(Ak:Int)^9000:=(words h).2.2.2.2.2
theorem RG{a b:AQ}(ha:A5 a=true)(hb:A5 b=true):C8 (D9 a b)=true:=by
 unfold D9;split
 ·next h=>exact J9 h.2.2
 ·exact(MC (zW (mW _ _) (LH (AE _) (bounds ha) (bounds hb)).1) (by omega)).1
theorem dO(a b:AQ):zh (Mq a b)=zh a-zh b:=by
 unfold Mq;rw[VH,Jr];omega
theorem Df(a b:AQ):zh (EH a b)=zh a*zh b:=Cj _
theorem W1:∀g sp,uD.sp g=some sp→Ae AT g sp:=
 Aa T174.ok (Aa T158.ok (fun g sp h=>by cases h))
namespace T173
theorem ok:Ae AT 173 Jn:=by
 refine Av (X:=TJ) rfl IE (d:=9) (by kernel_rfl) (by kernel_rfl) (by kernel_rfl) (fun(a:Int×List Int) ha=>?_) (Ad (by kernel_rfl));have ha:C8 a=true:=ha;exact zY (Am a) (zl (zL rfl rfl (qP ha)))
end T173
namespace T212
theorem ok:Ae AT 212 nR:=by
 refine Av (X:=uD) rfl W1 (d:=9) (by kernel_rfl) (by kernel_rfl) (by kernel_rfl) (fun(a:Int×List Int) ha=>?_) (Ad (by kernel_rfl));have ha:C8 a=true:=ha;refine zY (Am a) (zn (fun c=>zg ha (zl (zL rfl rfl ?_))) (fun c=>zl (zL rfl rfl ?_)))
 ·show CV a=SS a;unfold SS;rw[if_pos (of_decide_eq_true c)]
 ·show a=SS a;unfold SS;rw[if_neg (of_decide_eq_false c)]
end T212
namespace T217
theorem ok:Ae AT 217 eP:=by
 refine Av (X:=uD) rfl W1 (d:=9) (by kernel_rfl) (by kernel_rfl) (by kernel_rfl) (fun(i:(Int×List Int)×(Int×List Int)) hi=>?_) (Ad (by kernel_rfl));obtain⟨a,b⟩:=i;have hi:(A5 a&&A5 b)=true:=hi;rw[zk]at hi;exact zY (Am a b) (zg (BQ hi.2).1 (zg (Ac hi.1 (S7 hi.2)) (zl (zL rfl rfl rfl))))
end T217
theorem jX:∀g sp,wW.sp g=some sp→Ae AT g sp:=
 Aa T217.ok (Aa T173.ok (fun g sp h=>by cases h))
theorem hO(x y:Int):Pd (x-y)=BW x y:=by
 unfold Pd BW;split
 ·rw[if_pos (by omega)]
 ·split
  ·rw[if_neg (by omega),if_pos (by omega)]
  ·rw[if_neg (by omega),if_neg (by omega)]
namespace T154
theorem ok:Ae AT 154 dD:=by
 refine Av (X:=wW) rfl jX (d:=9) (by kernel_rfl) (by kernel_rfl) (by kernel_rfl) (fun(i:(Int×List Int)×(Int×List Int)) hi=>?_) (Ad (by kernel_rfl));obtain⟨a,b⟩:=i;have hi:(A5 a&&A5 b)=true:=hi;have hi2:=hi;rw[zk]at hi2;have hs:C8 (Mq a b)=true:=by
  unfold Mq;exact RG hi2.1 (S7 hi2.2)
 have hv:Hf (Mq a b)=X4 a b:=by
  show Pd (zh (Mq a b))=BW (zh a) (zh b);rw[dO,hO]
 refine zY (Am a b) (zn (fun c1=>zn (fun c2=>zn (fun d=>zl (zL rfl rfl ?_)) (fun d=>zn (fun e=>zl (zL rfl rfl ?_)) (fun e=>zl (zL rfl rfl ?_)))) (fun c2=>zg hi (zg hs (zl (zL rfl rfl hv))))) (fun c1=>zg hi (zg hs (zl (zL rfl rfl hv)))));all_goals
  have e1:=Bj (OG c1);have e2:=Bj (OG c2);show _=BW (zh a) (zh b);rw[e1,e2];unfold BW
 ·rw[if_pos (of_decide_eq_true d)]
 ·rw[if_neg (of_decide_eq_false d),if_pos (of_decide_eq_true e)]
 ·rw[if_neg (of_decide_eq_false d),if_neg (of_decide_eq_false e)]
end T154
theorem Qu(x y:Int):x*y=yq (!(decide (x<0)==decide (y<0))) (Ag x*Ag y):=by
 unfold Ag;rw[Dd];by_cases h1:x<0<;>by_cases h2:y<0<;>simp[h1,h2,Int.neg_mul,Int.mul_neg]
namespace T159
theorem ok:Ae AT 159 Qn:=by
 refine Av (X:=rL) rfl QZ (d:=9) (by kernel_rfl) (by kernel_rfl) (by kernel_rfl) (fun(i:(Int×List Int)×(Int×List Int)) hi=>?_) (Ad (by kernel_rfl));obtain⟨a,b⟩:=i;have hi:(A5 a&&A5 b)=true:=hi;rw[zk]at hi;obtain⟨a1,a2,a3,a4,a5,a6⟩:=words hi.1;obtain⟨b1,b2,b3,b4,b5,b6⟩:=words hi.2;have hra:=(Dz a1).1;have hrb:=(Dz b1).1;have na:=AE (zh a);have nb:=AE (zh b);obtain⟨_,t2⟩:=LH na a6 b6;have np:0≤Ag (zh a)*Ag (zh b):=zu na nb;have n1:B0 (Bo (An (Bo (Ag (zh a)))*An (Bo (Ag (zh b)))))=true:=by
  rw[a5,b5];exact(CL np t2 (by omega)).1
 have hv:yq (!(decide (zh a<0)==decide (zh b<0))) (An (Bo (An (Bo (Ag (zh a)))*An (Bo (Ag (zh b))))))=zh a*zh b:=by
  rw[a5,b5,show An (Bo (Ag (zh a)*Ag (zh b)))=_ from CH (by decide) np, ←Qu]
 have hq:∀ob,Af Qn (a,b) (.agg [.dat i64 (Cq (yq (!(decide (zh a<0)==decide (zh b<0))) (An (Bo (An (Bo (Ag (zh a)))*An (Bo (Ag (zh b)))))))),.dat (.nlist (.int .u64)) (Cp (yq (!(decide (zh a<0)==decide (zh b<0))) (An (Bo (An (Bo (Ag (zh a)))*An (Bo (Ag (zh b))))))))]) ob:=fun ob=>zL rfl rfl (by
  show CD _=CD (zh a*zh b);rw[hv])
 have ua:zt (Ag a.1)=true:=Cv (AE _) (by rw[Ai];omega);have ub:zt (Ag b.1)=true:=Cv (AE _) (by rw[Ai];omega);refine zY (Am a b) (zn (fun c1=>zn (fun c2=>zg (C3 hra.1 hra.2) (zg (C3 hrb.1 hrb.2) (zg (Ac ua ub) (zn (fun c3=>zn (fun c4=>zn (fun c5=>zl (zL rfl rfl ?_)) (fun c5=>zl (zL rfl rfl ?_))) (fun c4=>?_)) (fun c3=>?_))))) (fun c2=>?_)) (fun c1=>?_))
 ·have e1:=Bj (OG c1);have e2:=Bj (OG c2);have c3:(Ag a.1*Ag b.1)/18446744073709551616=0:=by simpa [P7]using c3
  have c4:(Ag a.1*Ag b.1) % 18446744073709551616≤9223372036854775807:=of_decide_eq_true c4;have p0:0≤Ag a.1*Ag b.1:=zu (AE _) (AE _);have hm:=Qu a.1 b.1;have c5:(!(decide (a.1<0)==decide (b.1<0)))=true:=c5;rw[c5,Dd,if_pos rfl]at hm;show(zc .i64 (0-zc .i64 ((Ag a.1*Ag b.1) % 18446744073709551616)),[])=CD (zh a*zh b);rw[e1,e2,hm,BU (by omega),wr ((Ag a.1*Ag b.1) % 18446744073709551616) (by omega) (by omega),wr _ (by omega) (by omega)];congr 1;omega
 ·have e1:=Bj (OG c1);have e2:=Bj (OG c2);have c3:(Ag a.1*Ag b.1)/18446744073709551616=0:=by simpa [P7]using c3
  have c4:(Ag a.1*Ag b.1) % 18446744073709551616≤9223372036854775807:=of_decide_eq_true c4;have p0:0≤Ag a.1*Ag b.1:=zu (AE _) (AE _);have hm:=Qu a.1 b.1;have c5:(!(decide (a.1<0)==decide (b.1<0)))=false:=c5;rw[c5,Dd,if_neg (by decide)]at hm;show(zc .i64 ((Ag a.1*Ag b.1) % 18446744073709551616),[])=CD (zh a*zh b);rw[e1,e2,hm,BU (by omega),wr ((Ag a.1*Ag b.1) % 18446744073709551616) (by omega) (by omega)];congr 1;omega
 all_goals exact zg a1 (zg b1 (zg (Ac a2 b2) (zg n1 (zl (hq _)))))
end T159
end Go.Pe
end
section
namespace Go.Sp
def Es(n:Int):Int:=if n≤0 then 0 else(n.toNat.log2:Int)+1
def lz(n:Int):Int:=64-Es n
def dq(h l y:Int):Int:=(h*18446744073709551616+l)/y
def dr(h l y:Int):Int:=(h*18446744073709551616+l) % y
end Go.Sp
namespace Go.Pe
open Go.Det
noncomputable section
noncomputable def VF:Ao:=⟨[u64],fun n=>zt n,[i64],fun n=>Sp.Es n,false⟩
noncomputable def tY:Ao:=⟨[u64],fun n=>zt n,[i64],fun n=>Sp.lz n,false⟩
noncomputable def R1:Ao:=⟨[u64,u64,u64],fun i=>zt i.1&&zt i.2.1&&zt i.2.2&&decide ((i.1:Int)<i.2.2),[u64,u64],fun i=>(Sp.dq i.1 i.2.1 i.2.2,Sp.dr i.1 i.2.1 i.2.2),false⟩
noncomputable def xL:A6:=X7 [(247,VF)]
noncomputable def Zs:A6:=X7 [(272,tY)]
end
noncomputable section
open List Int Prod
namespace T247
def T(x:Int):Tr:=tree TJ false 9 247 (Ah ([zj ze]) x)
theorem Am(x:Int):T x=let a':=([0,1,2,2,3,3,3,3,4,4,4,4,4,4,4,4,5,5,5,5,5,5,5,5,5,5,5,5,5,5,5,5,6,6,6,6,6,6,6,6,6,6,6,6,6,6,6,6,6,6,6,6,6,6,6,6,6,6,6,6,6,6,6,6,7,7,7,7,7,7,7,7,7,7,7,7,7,7,7,7,7,7,7,7,7,7,7,7,7,7,7,7,7,7,7,7,7,7,7,7,7,7,7,7,7,7,7,7,7,7,7,7,7,7,7,7,7,7,7,7,7,7,7,7,7,7,7,7,8,8,8,8,8,8,8,8,8,8,8,8,8,8,8,8,8,8,8,8,8,8,8,8,8,8,8,8,8,8,8,8,8,8,8,8,8,8,8,8,8,8,8,8,8,8,8,8,8,8,8,8,8,8,8,8,8,8,8,8,8,8,8,8,8,8,8,8,8,8,8,8,8,8,8,8,8,8,8,8,8,8,8,8,8,8,8,8,8,8,8,8,8,8,8,8,8,8,8,8,8,8,8,8,8,8,8,8,8,8,8,8,8,8,8,8,8,8,8,8,8,8,8,8,8,8,8,8]:List UInt8);let b':=zp x (2^32);let c':=(0:Sh.T (zj qh));let e':=zp x (2^16);let i':=zp x (2^8);let d':=zp b' (2^16);let g':=zp b' (2^8);let h':=zp e' (2^8);let f':=zp d' (2^8);.ite (decide (x≥4294967296)) (.ite true (.ite (decide (zp x (2^32)≥65536)) (.ite true (.ite (decide (zp b' (2^16)≥256)) (.ite true (.ite (decide (c'≤zc .u8 f')&&decide (zc .u8 f'<(↑256:Int))) (.leaf (.dat i64 (zc .i64 (zc .i64 (zc .i64 (32+16)+8)+zc .i64 (↑(zV (getD a' (toNat (zc .u8 f')) (0:UInt8))):Int)))) []) .fail) .fail) (.ite (decide (c'≤zc .u8 d')&&decide (zc .u8 d'<(↑256:Int))) (.leaf (.dat i64 (zc .i64 (zc .i64 (32+16)+zc .i64 (↑(zV (getD a' (toNat (zc .u8 d')) (0:UInt8))):Int)))) []) .fail)) .fail) (.ite (decide (zp x (2^32)≥256)) (.ite true (.ite (decide (c'≤zc .u8 g')&&decide (zc .u8 g'<(↑256:Int))) (.leaf (.dat i64 (zc .i64 (zc .i64 (32+8)+zc .i64 (↑(zV (getD a' (toNat (zc .u8 g')) (0:UInt8))):Int)))) []) .fail) .fail) (.ite (decide (c'≤zc .u8 b')&&decide (zc .u8 b'<(↑256:Int))) (.leaf (.dat i64 (zc .i64 (32+zc .i64 (↑(zV (getD a' (toNat (zc .u8 b')) (0:UInt8))):Int)))) []) .fail))) .fail) (.ite (decide (x≥65536)) (.ite true (.ite (decide (zp x (2^16)≥256)) (.ite true (.ite (decide (c'≤zc .u8 h')&&decide (zc .u8 h'<(↑256:Int))) (.leaf (.dat i64 (zc .i64 (zc .i64 (zc .i64 (0+16)+8)+zc .i64 (↑(zV (getD a' (toNat (zc .u8 h')) (0:UInt8))):Int)))) []) .fail) .fail) (.ite (decide (c'≤zc .u8 e')&&decide (zc .u8 e'<(↑256:Int))) (.leaf (.dat i64 (zc .i64 (zc .i64 (0+16)+zc .i64 (↑(zV (getD a' (toNat (zc .u8 e')) (0:UInt8))):Int)))) []) .fail)) .fail) (.ite (decide (x≥256)) (.ite true (.ite (decide (c'≤zc .u8 i')&&decide (zc .u8 i'<(↑256:Int))) (.leaf (.dat i64 (zc .i64 (zc .i64 (0+8)+zc .i64 (↑(zV (getD a' (toNat (zc .u8 i')) (0:UInt8))):Int)))) []) .fail) .fail) (.ite (decide (c'≤zc .u8 x)&&decide (zc .u8 x<(↑256:Int))) (.leaf (.dat i64 (zc .i64 (0+zc .i64 (↑(zV (getD a' (toNat (zc .u8 x)) (0:UInt8))):Int)))) []) .fail))):=by kernel_rfl
end T247
namespace T272
def T(x:Int):Tr:=tree xL false 9 272 (Ah ([zj ze]) x)
theorem Am(x:Int):T x=.ite (zt x) (.leaf (.dat i64 (zc .i64 (64-Sp.Es x))) []) .fail:=by kernel_rfl
end T272
namespace T271
def T(hi lo y:Int):Tr:=tree Zs false 9 271 (Ah ([zj ze,zj ze,zj ze]) (hi,lo,y))
def L1(v2 v8 v9 v10 v11 v13 v14 v15 v16:Int):Tr:=re ((T 0 0 0).R.R.R.L.L.L.L.L.L.L.L) (AH 135 [(2,.dat (zj ze) v2),(8,.dat (zj ze) v8),(9,.dat (zj ze) v9),(10,.dat (zj ze) v10),(11,.dat (zj ze) v11),(13,.dat (zj ze) v13),(14,.dat (zj ze) v14),(15,.dat (zj ze) v15),(16,.dat (zj ze) v16)] [] 0)
theorem Am(hi lo y:Int):T hi lo y=let e':=decide (0≤zc .u64 (Sp.lz y));let i':=64-zc .u64 (Sp.lz y);let j':=zc .u64 (Sp.lz y);let c':=toNat j';let d':=zp lo (2^yy (toNat (zc .u64 i')) 64);let a':=zc .u64 (y*2^yy c' 64);let f':=zc .u64 (lo*2^yy c' 64);let g':=zc .u64 (hi*2^yy c' 64);let b':=TZ ze g' d';let h':=zp a' (2^32);.ite (y==0) .fail (.ite (decide (y≤hi)) .fail (.ite (hi==0) (.ite (decide (y≠0)) (.ite (decide (y≠0)) (.leaf (.tup [.dat (zj ze) (zc .u64 (yj lo y)),.dat (zj ze) (Int.tmod lo y)]) []) .fail) .fail) (.ite (zt y) (.ite e' (.ite true (.ite e' (.ite (decide (0≤zc .u64 i')) (.ite e' (.ite true (.ite (decide (zp a' (2^32)≠0)) (L1 a' j' h' (G4 ze a' 4294967295) b' (zp f' (2^32)) (G4 ze f' 4294967295) (zc .u64 (yj b' h')) (zc .u64 (TZ ze g' d'-zc .u64 (zc .u64 (yj b' h')*zp a' (2^32))))) .fail) .fail) .fail) .fail) .fail) .fail) .fail) .fail))):=by kernel_rfl
def L2(v2 v8 v9 v10 v14 v15 v16 v17 v18:Int):Tr:=re ((stepT Zs (L1 0 0 0 0 0 0 0 0 0)).L.L.L) (AH 135 [(2,.dat (zj ze) v2),(8,.dat (zj ze) v8),(9,.dat (zj ze) v9),(10,.dat (zj ze) v10),(14,.dat (zj ze) v14),(15,.dat (zj ze) v15),(16,.dat (zj ze) v16),(17,.dat (zj ze) v17),(18,.dat (zj ze) v18)] [] 0)
theorem As(v2 v8 v9 v10 v11 v13 v14 v15 v16:Int):stepT Zs (L1 v2 v8 v9 v10 v11 v13 v14 v15 v16)=let f':=zc .u64 (v11*4294967296)+v13;let g':=zc .u64 (v15-1);let b':=zc .u64 f'-zc .u64 (zc .u64 (v15-1)*v2);let c':=zc .u64 f'-zc .u64 (v15*v2);let d':=zc .u64 c';let e':=zc .u64 b';let a':Tr:=.ite (decide (zc .u64 (v16+v9)≥4294967296)) (.ite (decide (v9≠0)) (L2 v2 v8 v9 v10 v14 g' (zc .u64 (zc .u64 b'-zc .u64 (zc .u64 (yj e' v9)*v9))) e' (zc .u64 (yj e' v9))) .fail) (L1 v2 v8 v9 v10 v11 v13 v14 g' (zc .u64 (v16+v9)));.ite (decide (v15≥4294967296)) a' (.ite (decide (zc .u64 (v15*v10)>zc .u64 (zc .u64 (4294967296*v16)+v13))) a' (.ite (decide (v9≠0)) (L2 v2 v8 v9 v10 v14 v15 (zc .u64 (zc .u64 c'-zc .u64 (zc .u64 (yj d' v9)*v9))) d' (zc .u64 (yj d' v9))) .fail)):=by kernel_rfl
theorem A3(v2 v8 v9 v10 v14 v15 v16 v17 v18:Int):stepT Zs (L2 v2 v8 v9 v10 v14 v15 v16 v17 v18)=let b':=zj ze;let c':=zc .u64 (v17*4294967296)+v14;let d':=2^yy (toNat v8) 64;let a':Tr:=.ite (decide (zc .u64 (v16+v9)≥4294967296)) (.ite (decide (0≤v8)) (.leaf (.tup [.dat b' (zc .u64 (zc .u64 (v15*4294967296)+zc .u64 (v18-1))),.dat b' (zp (zc .u64 (zc .u64 c'-zc .u64 (zc .u64 (v18-1)*v2))) d')]) []) .fail) (L2 v2 v8 v9 v10 v14 v15 (zc .u64 (v16+v9)) v17 (zc .u64 (v18-1)));.ite (decide (v18≥4294967296)) a' (.ite (decide (zc .u64 (v18*v10)>zc .u64 (zc .u64 (4294967296*v16)+v14))) a' (.ite (decide (0≤v8)) (.leaf (.tup [.dat b' (zc .u64 (zc .u64 (v15*4294967296)+v18)),.dat b' (zp (zc .u64 (zc .u64 c'-zc .u64 (v18*v2))) d')]) []) .fail)):=by kernel_rfl
end T271
end
namespace T271
variable {Q:PV→Ob→Prop}
def Exact(Y u w q:Int):Prop:=q*Y≤u*4294967296+w∧u*4294967296+w<(q+1)*Y
theorem WA{Y y1 y0 u w q r:Int}(hY:Y=y1*4294967296+y0)(he:q*y1+r=u)(h:q*y0>4294967296*r+w):u*4294967296+w<q*Y:=by
 subst hY;rw[zT, ←zy];generalize q*y1=A at*;generalize q*y0=C at*;omega
theorem Kv{Y y1 y0 u w q r:Int}(hY:Y=y1*4294967296+y0)(he:q*y1+r=u)(h:q*y0≤4294967296*r+w):q*Y≤u*4294967296+w:=by
 subst hY;rw[zT, ←zy];generalize q*y1=A at*;generalize q*y0=C at*;omega
theorem T2{Y u w q:Int}(hu:u<Y)(hY:0≤Y)(hw:w<4294967296)(hq:4294967296≤q):u*4294967296+w<q*Y:=by
 have:=zm hq hY;omega
theorem S8{y1 y0 u w r:Int}{n:Nat}{Y:Int}(hY:Y=y1*4294967296+y0)(h1:0≤y1)(h0:0≤y0∧y0<4294967296)(hu:u<Y)(hw:0≤w)(he:(n:Int)*y1+r=u)(hr:4294967296≤r):(n:Int)*Y≤u*4294967296+w:=by
 have hn:(n:Int)<4294967296:=by
  rcases zM (n:Int) 4294967296 with h|h
  ·exact h
  ·have:=zm h h1;omega
 refine Kv hY he ?_;have a:=zm (show(n:Int)≤4294967295 by omega) h0.1;omega
theorem Aj(Y s y1 y0 u w z:Int)(hY:Y=y1*4294967296+y0)(h1:0<y1∧y1<4294967296)(h0:0≤y0∧y0<4294967296)(hu:u<Y)(hw:0≤w∧w<4294967296)
  (hx:∀q:Int,0≤q→Exact Y u w q→Ends Zs (L2 Y s y1 y0 z q (zc ze (zc ze (zc ze (zc ze (u*(4294967296:Int))+w)-zc ze (q*Y))-zc ze (zc ze (yj (zc ze (zc ze (zc ze (u*(4294967296:Int))+w)-zc ze (q*Y))) y1)*y1))) (zc ze (zc ze (zc ze (u*(4294967296:Int))+w)-zc ze (q*Y))) (zc ze (yj (zc ze (zc ze (zc ze (u*(4294967296:Int))+w)-zc ze (q*Y))) y1))) Q):
  ∀(n:Nat) (r:Int),(n:Int)<18446744073709551616→(n:Int)*y1+r=u→0≤r→r<4294967296→u*4294967296+w<((n:Int)+1)*Y→Ends Zs (L1 Y s y1 y0 u w z n r) Q:=by
 intro n;induction n with
 |zero=>
  intro r hn he r0 r1 hup;have hz:decide (y1≠0)=true:=decide_eq_true (by omega);refine ya (As ..) (z7 (by simp) (z7 (decide_eq_false ?_) (zg hz (hx _ (by omega) ⟨?_,hup⟩))))
  ·rw[show((0:Nat):Int)*y0=0 by simp,wu 0 (by omega) (by omega),wu (4294967296*r) (by omega) (by omega),wu _ (by omega) (by omega)];omega
  ·exact Kv hY he (by rw[show((0:Nat):Int)*y0=0 by simp];omega)
 |succ n ih=>
  intro r hn he r0 r1 hup;have hz:decide (y1≠0)=true:=decide_eq_true (by omega);have e1:zc .u64 (((n+1:Nat):Int)-1)=(n:Int):=by rw[wu _ (by omega) (by omega)];omega
  have e2:zc .u64 (r+y1)=r+y1:=wu _ (by omega) (by omega);have hY0:0≤Y:=by omega
  have he':(n:Int)*y1+(r+y1)=u:=by
   rw[show((n+1:Nat):Int)=(n:Int)+1 by omega,zN,z8]at he;omega
  have ec:((n+1:Nat):Int)=(n:Int)+1:=by omega
  have dec:u*4294967296+w<((n:Int)+1)*Y→r+y1<4294967296→Ends Zs (L1 Y s y1 y0 u w z n (r+y1)) Q:=fun h1' h2'=>
   ih (r+y1) (by omega) he' (by omega) h2' h1'
  have cut:u*4294967296+w<((n:Int)+1)*Y→4294967296≤r+y1→Exact Y u w n:=fun h1' h2'=>
   ⟨S8 hY (by omega) h0 hu hw.1 he' h2',h1'⟩
  refine ya (As ..) ?_;conv=>zeta
  rw[e1,e2];refine zn (fun c=>?_) (fun c=>zn (fun d=>?_) (fun d=>?_))
  ·have c:=of_decide_eq_true c;have hb:u*4294967296+w<((n:Int)+1)*Y:=by rw[←ec];exact T2 hu hY0 hw.2 c
   exact zn (fun e=>zg hz (hx _ (by omega) (cut hb (of_decide_eq_true e)))) (fun e=>dec hb (by have:=of_decide_eq_false e;omega))
  ·have c:=of_decide_eq_false c;have d:=of_decide_eq_true d;have a:=zm (show((n+1:Nat):Int)≤4294967295 by omega) h0.1;have b:=zu (show 0≤((n+1:Nat):Int)by omega) h0.1;rw[wu (((n+1:Nat):Int)*y0) (by omega) (by omega),wu (4294967296*r) (by omega) (by omega),wu _ (by omega) (by omega)]at d;have hb:u*4294967296+w<((n:Int)+1)*Y:=by rw[←ec];exact WA hY he d
   exact zn (fun e=>zg hz (hx _ (by omega) (cut hb (of_decide_eq_true e)))) (fun e=>dec hb (by have:=of_decide_eq_false e;omega))
  ·have c:=of_decide_eq_false c;have d:=of_decide_eq_false d;have a:=zm (show((n+1:Nat):Int)≤4294967295 by omega) h0.1;have b:=zu (show 0≤((n+1:Nat):Int)by omega) h0.1;rw[wu (((n+1:Nat):Int)*y0) (by omega) (by omega),wu (4294967296*r) (by omega) (by omega),wu _ (by omega) (by omega)]at d;exact zg hz (hx _ (by omega) ⟨Kv hY he (by omega),hup⟩)
theorem AU(Y s y1 y0 u w p:Int)(hY:Y=y1*4294967296+y0)(h1:0<y1∧y1<4294967296)(h0:0≤y0∧y0<4294967296)(hu:u<Y)(hw:0≤w∧w<4294967296)(hs:0≤s)
  (hx:∀q:Int,0≤q→Exact Y u w q→∀ob,Q (PV.tup [PV.dat (zj ze) (zc ze (zc ze (p*(4294967296:Int))+q)),PV.dat (zj ze) (zp (zc ze (zc ze (zc ze (u*(4294967296:Int))+w)-zc ze (q*Y))) ((2:Int)^yy (qf s) (64:Nat)))]) ob):
  ∀(n:Nat) (r:Int),(n:Int)<18446744073709551616→(n:Int)*y1+r=u→0≤r→r<4294967296→u*4294967296+w<((n:Int)+1)*Y→Ends Zs (L2 Y s y1 y0 w p r u n) Q:=by
 intro n;induction n with
 |zero=>
  intro r hn he r0 r1 hup;have hz:decide (0≤s)=true:=decide_eq_true hs;refine ya (A3 ..) (z7 (by simp) (z7 (decide_eq_false ?_) (zg hz (zl (hx _ (by omega) ⟨?_,hup⟩ _)))))
  ·rw[show((0:Nat):Int)*y0=0 by simp,wu 0 (by omega) (by omega),wu (4294967296*r) (by omega) (by omega),wu _ (by omega) (by omega)];omega
  ·exact Kv hY he (by rw[show((0:Nat):Int)*y0=0 by simp];omega)
 |succ n ih=>
  intro r hn he r0 r1 hup;have hz:decide (0≤s)=true:=decide_eq_true hs;have e1:zc .u64 (((n+1:Nat):Int)-1)=(n:Int):=by rw[wu _ (by omega) (by omega)];omega
  have e2:zc .u64 (r+y1)=r+y1:=wu _ (by omega) (by omega);have hY0:0≤Y:=by omega
  have he':(n:Int)*y1+(r+y1)=u:=by
   rw[show((n+1:Nat):Int)=(n:Int)+1 by omega,zN,z8]at he;omega
  have ec:((n+1:Nat):Int)=(n:Int)+1:=by omega
  have dec:u*4294967296+w<((n:Int)+1)*Y→r+y1<4294967296→Ends Zs (L2 Y s y1 y0 w p (r+y1) u n) Q:=fun h1' h2'=>
   ih (r+y1) (by omega) he' (by omega) h2' h1'
  have cut:u*4294967296+w<((n:Int)+1)*Y→4294967296≤r+y1→Exact Y u w n:=fun h1' h2'=>
   ⟨S8 hY (by omega) h0 hu hw.1 he' h2',h1'⟩
  refine ya (A3 ..) ?_;conv=>zeta
  rw[e1,e2];refine zn (fun c=>?_) (fun c=>zn (fun d=>?_) (fun d=>?_))
  ·have c:=of_decide_eq_true c;have hb:u*4294967296+w<((n:Int)+1)*Y:=by rw[←ec];exact T2 hu hY0 hw.2 c
   exact zn (fun e=>zg hz (zl (hx _ (by omega) (cut hb (of_decide_eq_true e)) _))) (fun e=>dec hb (by have:=of_decide_eq_false e;omega))
  ·have c:=of_decide_eq_false c;have d:=of_decide_eq_true d;have a:=zm (show((n+1:Nat):Int)≤4294967295 by omega) h0.1;have b:=zu (show 0≤((n+1:Nat):Int)by omega) h0.1;rw[wu (((n+1:Nat):Int)*y0) (by omega) (by omega),wu (4294967296*r) (by omega) (by omega),wu _ (by omega) (by omega)]at d;have hb:u*4294967296+w<((n:Int)+1)*Y:=by rw[←ec];exact WA hY he d
   exact zn (fun e=>zg hz (zl (hx _ (by omega) (cut hb (of_decide_eq_true e)) _))) (fun e=>dec hb (by have:=of_decide_eq_false e;omega))
  ·have c:=of_decide_eq_false c;have d:=of_decide_eq_false d;have a:=zm (show((n+1:Nat):Int)≤4294967295 by omega) h0.1;have b:=zu (show 0≤((n+1:Nat):Int)by omega) h0.1;rw[wu (((n+1:Nat):Int)*y0) (by omega) (by omega),wu (4294967296*r) (by omega) (by omega),wu _ (by omega) (by omega)]at d;exact zg hz (zl (hx _ (by omega) ⟨Kv hY he (by omega),hup⟩ _))
end T271
theorem Un{y:Int}(h1:0<y)(h2:y<18446744073709551616):∃s:Nat,Sp.lz y=(s:Int)∧s≤63∧y*2^s<18446744073709551616∧9223372036854775808≤y*2^s:=by
 obtain⟨n,rfl⟩:=zr (zZ h1);have hn:n≠0:=by omega
 have hk:n.log2<64:=(Nat.log2_lt hn).2 (by omega);have a:=Nat.log2_self_le hn;have b:=Nat.lt_log2_self (n:=n);have e1:2^n.log2*2^(63-n.log2)=2^63:=by rw[←qe];congr 1;omega
 have e2:2^(n.log2+1)*2^(63-n.log2)=2^64:=by rw[←qe];congr 1;omega
 have c1:2^63≤n*2^(63-n.log2):=by rw[←e1];exact Nat.mul_le_mul_right _ a
 have c2:n*2^(63-n.log2)<2^64:=by rw[←e2];exact Nat.mul_lt_mul_of_pos_right b (y9 _)
 refine⟨63-n.log2,?_,by omega,?_,?_⟩
 ·unfold Sp.lz Sp.Es;rw[if_neg (by omega),zo];omega
 ·have:((n*2^(63-n.log2):Nat):Int)<18446744073709551616:=by omega
  rw[yh,yb]at this;exact this
 ·have:(9223372036854775808:Int)≤((n*2^(63-n.log2):Nat):Int):=by omega
  rw[yh,yb]at this;exact this
theorem Q1{a b:Int}{s:Nat}(ha:0≤a)(hb:0≤b)(h:b<2^s)(hm:a*2^s+b<18446744073709551616):TZ .u64 (a*2^s) b=a*2^s+b:=by
 obtain⟨m,rfl⟩:=zr ha;obtain⟨k,rfl⟩:=zr hb;have ep:((m:Int)*2^s)=((m*2^s:Nat):Int):=by rw[yh,yb];rfl
 have hk:k<2^s:=by
  have e:((2:Int)^s)=((2^s:Nat):Int):=by rw[yb];rfl
  rw[e]at h;omega
 rw[ep]at hm ⊢;have e:(zR 64 ((m*2^s:Nat):Int)|||zR 64 (k:Int)).toNat=m*2^s+k:=by
  rw[BitVec.toNat_or,yk,yk,yo,yo,yu (by omega),yu (by omega),Nat.mul_comm m,Nat.two_pow_add_eq_or_of_lt hk]
 show zc .u64 (((zR 64 ((m*2^s:Nat):Int)|||zR 64 (k:Int)).toNat:Nat):Int)=_;rw[e,dF _ (by omega)];omega
namespace T271
theorem start{u y1 y0 Y w:Int}(hY:Y=y1*4294967296+y0)(h1:0<y1∧y1<4294967296)(h0:0≤y0)(hu:0≤u∧u<18446744073709551616)(hw:w<4294967296):
  ∃(n:Nat) (r:Int),zc .u64 (yj u y1)=(n:Int)∧zc .u64 (u-zc .u64 ((n:Int)*y1))=r∧(n:Int)<18446744073709551616∧(n:Int)*y1+r=u∧0≤r∧r<4294967296∧u*4294967296+w<((n:Int)+1)*Y:=by
 have q0:0≤u/y1:=qc hu.1 (by omega);have q1:u/y1≤u:=Int.ediv_le_self _ hu.1;have ed:=Int.mul_ediv_add_emod u y1;have r0:=Int.emod_nonneg u (show y1≠0 by omega);have r1:=Int.emod_lt_of_pos u h1.1;rw[zS]at ed;obtain⟨n,hn⟩:=zr q0;have hp:0≤(n:Int)*y1:=zu (by omega) (by omega);rw[hn]at ed;refine⟨n,u % y1,?_,?_,by omega,ed,r0,by omega,?_⟩
 ·rw[yt hu.1,hn,wu _ (by omega) (by omega)]
 ·rw[wu ((n:Int)*y1) (by omega) (by omega),wu _ (by omega) (by omega)];omega
 ·subst hY;have a:((n:Int)+1)*(y1*4294967296+y0)=((n:Int)*y1+y1)*4294967296+((n:Int)+1)*y0:=by
   rw[zT, ←zy,zN,z8]
  have b:0≤((n:Int)+1)*y0:=zu (by omega) h0;rw[a];omega
theorem P3{u w q Y:Int}(hE:Exact Y u w q)(hY:Y<18446744073709551616):zc .u64 (zc .u64 (zc .u64 (u*(4294967296:Int))+w)-zc .u64 (q*Y))=u*4294967296+w-q*Y:=by
 obtain⟨a,b⟩:=hE;rw[zN,z8]at b;rw[Ku,Ku,Ku,Ku];generalize q*Y=A at*;omega
theorem kX(h:Ae AT 272 tY):∀g sp,Zs.sp g=some sp→Ae AT g sp:=Aa h (fun g sp h=>by cases h)
set_option maxHeartbeats 1000000 in
theorem ok(hlz:Ae AT 272 tY):Ae AT 271 R1:=by
 refine Av (X:=Zs) rfl (kX hlz) (d:=9) (by kernel_rfl) (by kernel_rfl) (by kernel_rfl) (fun(i:Int×Int×Int) hi=>?_) (Ad (by kernel_rfl));obtain⟨hi',lo,y⟩:=i;have hi:(zt hi'&&zt lo&&zt y&&decide (hi'<y))=true:=hi;rw[zk,zk,zk,decide_eq_true_eq]at hi;obtain⟨⟨⟨h1,h2⟩,h3⟩,h4⟩:=hi;have uy:=h3;have h1:=y7 h1;have h2:=y7 h2;have h3:=y7 h3;have hg:∀q r ob,q=Sp.dq hi' lo y→r=Sp.dr hi' lo y→Af R1 (hi',lo,y) (PV.tup [PV.dat (zj ze) q,PV.dat (zj ze) r]) ob:=fun q r ob e1 e2=>zL rfl rfl (Prod.ext e1 e2)
 refine zY (Am hi' lo y) (z7 (by simp;omega) (z7 (decide_eq_false (by omega)) (zn (fun c=>?_) (fun c=>?_))))
 ·have c:hi'=0:=by simpa using c
  subst c;have q0:0≤lo/y:=qc h2.1 (by omega);have q1:lo/y≤lo:=Int.ediv_le_self _ h2.1;refine zg (decide_eq_true (by omega)) (zg (decide_eq_true (by omega)) (zl (hg _ _ _ ?_ ?_)))
  ·unfold Sp.dq;rw[yt h2.1,wu _ (by omega) (by omega),Int.zero_mul,yz]
  ·unfold Sp.dr;rw[Int.tmod_eq_emod_of_nonneg h2.1,Int.zero_mul,yz]
 ·have c:hi'≠0:=by simpa using c
  obtain⟨s,hs,hs63,hlt,hge⟩:=Un (y:=y) (by omega) h3.2;have es:zc .u64 (s:Int)=(s:Int):=dF s (by omega);have em:yy s 64=s:=by omega
  have es2:zc .u64 ((64:Int)-(s:Int))=((64-s:Nat):Int):=by rw[wu _ (by omega) (by omega)];omega
  have em2:yy (64-s) 64=64-s:=by omega
  have hPR:(2:Int)^s*2^(64-s)=18446744073709551616:=by rw[←Int.pow_add,show s+(64-s)=64 by omega];rfl
  have hP:(0:Int)<2^s:=Int.pow_pos (by decide);have hR:(0:Int)<2^(64-s):=Int.pow_pos (by decide);have a0:0≤lo/2^(64-s):=qc h2.1 (by omega);have led:=Int.mul_ediv_add_emod lo (2^(64-s));have c0:=Int.emod_nonneg lo (show(2:Int)^(64-s)≠0 by omega);have c1:=Int.emod_lt_of_pos lo hR;have aP:lo/2^(64-s)<2^s:=Int.ediv_lt_of_lt_mul hR (by rw[hPR];exact h2.2);have hiP:hi'*2^s+2^s≤y*2^s:=by
   have:=zm (show hi'+1≤y by omega) (zZ hP);rw[zN,z8]at this;exact this
  have hi0:0≤hi'*2^s:=zu h1.1 (zZ hP);have efd:zp lo ((2:Int)^(64-s))=lo/2^(64-s):=zX _ (by omega);have eio:TZ .u64 (hi'*2^s) (lo/2^(64-s))=hi'*2^s+lo/2^(64-s):=Q1 h1.1 a0 aP (by omega);have cP0:0≤(lo % 2^(64-s))*2^s:=zu c0 (zZ hP);have cP1:(lo % 2^(64-s))*2^s<18446744073709551616:=by
   have:=Int.mul_lt_mul_of_pos_right c1 hP;rw[zS (2^(64-s)),hPR]at this;exact this
  have loP:lo*2^s=(lo/2^(64-s))*18446744073709551616+(lo % 2^(64-s))*2^s:=by
   conv=>lhs;rw[←led]
   rw[zN, ←hPR,zS (2^(64-s)) (lo/2^(64-s)),zy,zS (2^(64-s)) (2^s)]
  have elo:zc .u64 (lo*2^s)=(lo % 2^(64-s))*2^s:=by rw[loP,Ku];omega
  have hN:(hi'*2^s+lo/2^(64-s))*18446744073709551616+(lo % 2^(64-s))*2^s=(hi'*18446744073709551616+lo)*2^s:=by
   rw[zN (hi'*18446744073709551616) lo (2^s),loP,zy hi' 18446744073709551616 (2^s),zS 18446744073709551616 ((2:Int)^s), ←zy];omega
  have ewy:zc .u64 (y*2^s)=y*2^s:=wu _ (by omega) (by omega);have ewh:zc .u64 (hi'*2^s)=hi'*2^s:=wu _ hi0 (by omega);have z0:decide ((0:Int)≤(s:Int))=true:=decide_eq_true (by omega);have fin:∀q:Int,q*(y*2^s)≤(hi'*18446744073709551616+lo)*2^s→(hi'*18446744073709551616+lo)*2^s<(q+1)*(y*2^s)→q=Sp.dq hi' lo y∧zp ((hi'*18446744073709551616+lo)*2^s-q*(y*2^s)) (2^s)=Sp.dr hi' lo y:=by
   intro q f1 f2;unfold Sp.dq Sp.dr;generalize hi'*18446744073709551616+lo=M at*;rw[←zy]at f1 f2;have g1:q*y≤M:=Int.le_of_mul_le_mul_right f1 hP;have g2:M<(q+1)*y:=Int.lt_of_mul_lt_mul_right f2 (zZ hP);rw[zN,z8]at g2;obtain⟨u1,u2⟩:=(Int.ediv_emod_unique (a:=M) (b:=y) (r:=M-q*y) (q:=q) (by omega)).2 ⟨by rw[zS y q];omega,by omega,by omega⟩;refine⟨u1.symm,?_⟩;rw[u2, ←zy, ←Int.sub_mul,zX _ (zZ hP)];exact Int.mul_ediv_cancel _ (by omega)
  obtain⟨Y,eY⟩:=zr (show 0≤y*2^s by omega);obtain⟨C,eC⟩:=zr cP0;have hU0:0≤hi'*2^s+lo/2^(64-s):=by omega
  have hUY:hi'*2^s+lo/2^(64-s)<y*2^s:=by omega
  rw[hs,es,es2,zo,zo,em,em2,ewy,ewh,efd,eio,elo];rw[eC]at hN cP1 ⊢;rw[eY]at hlt hge hUY fin ⊢;generalize hU:hi'*2^s+lo/2^(64-s)=U at*;generalize hM:(hi'*18446744073709551616+lo)*2^s=M at*;rw[X2,X2,N6 Y (by omega),N6 C (by omega)];have hY:(Y:Int)=((Y/4294967296:Nat):Int)*4294967296+((Y % 4294967296:Nat):Int):=by omega
  have b1:0<((Y/4294967296:Nat):Int)∧((Y/4294967296:Nat):Int)<4294967296:=by omega
  have b0:0≤((Y % 4294967296:Nat):Int)∧((Y % 4294967296:Nat):Int)<4294967296:=by omega
  have w1:0≤((C/4294967296:Nat):Int)∧((C/4294967296:Nat):Int)<4294967296:=by omega
  have w0:0≤((C % 4294967296:Nat):Int)∧((C % 4294967296:Nat):Int)<4294967296:=by omega
  have hC:(C:Int)=((C/4294967296:Nat):Int)*4294967296+((C % 4294967296:Nat):Int):=by omega
  generalize ((Y/4294967296:Nat):Int)=y1 at*;generalize ((Y % 4294967296:Nat):Int)=y0 at*;generalize ((C/4294967296:Nat):Int)=w at*;generalize ((C % 4294967296:Nat):Int)=z at*;refine zg uy (zg z0 (zg rfl (zg z0 (zg (decide_eq_true (by omega)) (zg z0 (zg rfl (zg (decide_eq_true (by omega)) ?_)))))));obtain⟨n,r,e1,e2,n1,n2,n3,n4,n5⟩:=start (u:=U) (w:=w) hY b1 b0.1 (by omega) w1.2;rw[e1,e2];refine Aj (Y:Int) s y1 y0 U w z hY b1 b0 hUY w1 (fun p p0 hp=>?_) n r n1 n2 n3 n4 n5;have er:=P3 hp (by omega);rw[er];have hp1:=hp.1;have hp2:=hp.2;rw[zN,z8]at hp2;obtain⟨m,t,k1,k2,m1,m2,m3,m4,m5⟩:=start (u:=U*4294967296+w-p*Y) (w:=z) hY b1 b0.1 (by omega) w0.2;rw[k1,k2];refine AU (Y:Int) s y1 y0 _ z p hY b1 b0 (by omega) w0 (by omega) (fun q q0 hq ob=>?_) m t m1 m2 m3 m4 m5;rw[P3 hq (by omega),zo,em];obtain⟨hq1,hq2⟩:=hq;have ez:(p*4294967296+q)*(Y:Int)=p*Y*4294967296+q*Y:=by
   rw[zN,zy,zS 4294967296 (Y:Int), ←zy]
  have ez1:(p*4294967296+q+1)*(Y:Int)=p*Y*4294967296+q*Y+Y:=by
   rw[zN,ez,z8]
  rw[zN,z8]at hq2;obtain⟨f1,f2⟩:=fin (p*4294967296+q) (by rw[ez];omega) (by rw[ez1];omega);refine hg _ _ _ ?_ ?_
  ·have hb:Sp.dq hi' lo y<18446744073709551616:=by
    unfold Sp.dq;refine Int.ediv_lt_of_lt_mul (by omega) ?_;have:=zQ (show hi'+1≤y by omega) (show(0:Int)≤18446744073709551616 by decide);omega
   rw[←f1]at hb ⊢;rw[Ku,Ku];omega
  ·rw[←f2,ez];congr 1;omega
end T271
end Go.Pe
end
section
namespace Go.Pe
open Sp
open Go.Det
theorem bK(x k:Nat)(h:2^k≤x):x.log2=k+(x/2^k).log2:=by
 have hk:=y9 k;have hz:x/2^k≠0:=by
  have:=Nat.div_pos h hk;omega
 have hx:x≠0:=by omega
 refine(Nat.log2_eq_iff hx).2 ⟨?_,?_⟩
 ·rw[qe];exact Nat.le_trans (Nat.mul_le_mul_left _ (Nat.log2_self_le hz)) (Nat.mul_div_le x (2^k))
 ·rw[Nat.add_assoc,qe];have a:x/2^k+1≤2^((x/2^k).log2+1):=Nat.lt_log2_self;have b:=Nat.mul_le_mul_left (2^k) a;have c:=Nat.lt_mul_div_succ x hk;exact Nat.lt_of_lt_of_le c b
theorem Nx(x k:Nat)(h:2^k≤x):Es (x:Int)=(k:Int)+Es ((x/2^k:Nat):Int):=by
 have hk:=y9 k;have hz:=Nat.div_pos h hk;have e:=bK x k h;unfold Es;rw[if_neg (by omega),if_neg (by omega),zo,zo,e];omega
theorem sT(n k:Nat):zp (n:Int) ((2:Int)^k)=((n/2^k:Nat):Int):=by
 have:(0:Int)<2^k:=Int.pow_pos (by decide);rw[zX _ (by omega),Int.natCast_ediv,yb];rfl
def rE:List UInt8:=[(0:UInt8),(1:UInt8),(2:UInt8),(2:UInt8),(3:UInt8),(3:UInt8),(3:UInt8),(3:UInt8),(4:UInt8),(4:UInt8),(4:UInt8),(4:UInt8),(4:UInt8),(4:UInt8),(4:UInt8),(4:UInt8),(5:UInt8),(5:UInt8),(5:UInt8),(5:UInt8),(5:UInt8),(5:UInt8),(5:UInt8),(5:UInt8),(5:UInt8),(5:UInt8),(5:UInt8),(5:UInt8),(5:UInt8),(5:UInt8),(5:UInt8),(5:UInt8),(6:UInt8),(6:UInt8),(6:UInt8),(6:UInt8),(6:UInt8),(6:UInt8),(6:UInt8),(6:UInt8),(6:UInt8),(6:UInt8),(6:UInt8),(6:UInt8),(6:UInt8),(6:UInt8),(6:UInt8),(6:UInt8),(6:UInt8),(6:UInt8),(6:UInt8),(6:UInt8),(6:UInt8),(6:UInt8),(6:UInt8),(6:UInt8),(6:UInt8),(6:UInt8),(6:UInt8),(6:UInt8),(6:UInt8),(6:UInt8),(6:UInt8),(6:UInt8),(7:UInt8),(7:UInt8),(7:UInt8),(7:UInt8),(7:UInt8),(7:UInt8),(7:UInt8),(7:UInt8),(7:UInt8),(7:UInt8),(7:UInt8),(7:UInt8),(7:UInt8),(7:UInt8),(7:UInt8),(7:UInt8),(7:UInt8),(7:UInt8),(7:UInt8),(7:UInt8),(7:UInt8),(7:UInt8),(7:UInt8),(7:UInt8),(7:UInt8),(7:UInt8),(7:UInt8),(7:UInt8),(7:UInt8),(7:UInt8),(7:UInt8),(7:UInt8),(7:UInt8),(7:UInt8),(7:UInt8),(7:UInt8),(7:UInt8),(7:UInt8),(7:UInt8),(7:UInt8),(7:UInt8),(7:UInt8),(7:UInt8),(7:UInt8),(7:UInt8),(7:UInt8),(7:UInt8),(7:UInt8),(7:UInt8),(7:UInt8),(7:UInt8),(7:UInt8),(7:UInt8),(7:UInt8),(7:UInt8),(7:UInt8),(7:UInt8),(7:UInt8),(7:UInt8),(7:UInt8),(7:UInt8),(7:UInt8),(7:UInt8),(7:UInt8),(8:UInt8),(8:UInt8),(8:UInt8),(8:UInt8),(8:UInt8),(8:UInt8),(8:UInt8),(8:UInt8),(8:UInt8),(8:UInt8),(8:UInt8),(8:UInt8),(8:UInt8),(8:UInt8),(8:UInt8),(8:UInt8),(8:UInt8),(8:UInt8),(8:UInt8),(8:UInt8),(8:UInt8),(8:UInt8),(8:UInt8),(8:UInt8),(8:UInt8),(8:UInt8),(8:UInt8),(8:UInt8),(8:UInt8),(8:UInt8),(8:UInt8),(8:UInt8),(8:UInt8),(8:UInt8),(8:UInt8),(8:UInt8),(8:UInt8),(8:UInt8),(8:UInt8),(8:UInt8),(8:UInt8),(8:UInt8),(8:UInt8),(8:UInt8),(8:UInt8),(8:UInt8),(8:UInt8),(8:UInt8),(8:UInt8),(8:UInt8),(8:UInt8),(8:UInt8),(8:UInt8),(8:UInt8),(8:UInt8),(8:UInt8),(8:UInt8),(8:UInt8),(8:UInt8),(8:UInt8),(8:UInt8),(8:UInt8),(8:UInt8),(8:UInt8),(8:UInt8),(8:UInt8),(8:UInt8),(8:UInt8),(8:UInt8),(8:UInt8),(8:UInt8),(8:UInt8),(8:UInt8),(8:UInt8),(8:UInt8),(8:UInt8),(8:UInt8),(8:UInt8),(8:UInt8),(8:UInt8),(8:UInt8),(8:UInt8),(8:UInt8),(8:UInt8),(8:UInt8),(8:UInt8),(8:UInt8),(8:UInt8),(8:UInt8),(8:UInt8),(8:UInt8),(8:UInt8),(8:UInt8),(8:UInt8),(8:UInt8),(8:UInt8),(8:UInt8),(8:UInt8),(8:UInt8),(8:UInt8),(8:UInt8),(8:UInt8),(8:UInt8),(8:UInt8),(8:UInt8),(8:UInt8),(8:UInt8),(8:UInt8),(8:UInt8),(8:UInt8),(8:UInt8),(8:UInt8),(8:UInt8),(8:UInt8),(8:UInt8),(8:UInt8),(8:UInt8),(8:UInt8),(8:UInt8),(8:UInt8),(8:UInt8),(8:UInt8),(8:UInt8),(8:UInt8),(8:UInt8),(8:UInt8),(8:UInt8),(8:UInt8)]
theorem Wh:∀m:Fin 256,((zV (rE.getD m.val 0):Nat):Int)=Es (m.val:Int)∧zc .u8 (m.val:Int)=(m.val:Int)∧Es (m.val:Int)≤8∧0≤Es (m.val:Int):=by decide+kernel
theorem Mj{ACC:Int}(a z x:Nat)(hA:ACC=a)(ha:a≤64)(hz:z<256)(hx:Es (x:Int)=(a:Int)+Es (z:Int)):zc .i64 (ACC+zc .i64 ((zV (rE.getD (qf (zc .u8 (z:Int))) 0):Nat):Int))=Es x:=by
 obtain⟨e1,e2,e3,e4⟩:=Wh ⟨z,hz⟩;have e1:((zV (rE.getD z 0):Nat):Int)=Es (z:Int):=e1;have e2:zc .u8 (z:Int)=(z:Int):=e2;have e3:Es (z:Int)≤8:=e3;have e4:0≤Es (z:Int):=e4;rw[e2,zo,e1,hA,hx,wr (Es (z:Int)) (by omega) (by omega),wr _ (by omega) (by omega)]
theorem oM(z:Nat)(hz:z<256):(decide ((0:Sh.T (zj qh))≤zc qh (z:Int))&&decide (zc qh (z:Int)<(↑(256:Nat):Int)))=true:=by
 obtain⟨_,e2,_,_⟩:=Wh ⟨z,hz⟩;have e2:zc .u8 (z:Int)=(z:Int):=e2;rw[e2];exact Ac (decide_eq_true (show(0:Int)≤(z:Int)by omega)) (decide_eq_true (by omega))
namespace T247
set_option maxHeartbeats 1000000 in
set_option maxRecDepth 100000 in
theorem ok:Ae AT 247 VF:=by
 refine Av (X:=TJ) rfl IE (d:=9) (by kernel_rfl) (by kernel_rfl) (by kernel_rfl) (fun(x:Int) hx=>?_) (Ad (by kernel_rfl));have hx:=y7 (n:=x) hx;obtain⟨x,rfl⟩:=zr hx.1;refine zY (Am (x:Int)) ?_;conv=>zeta
 conv=>zeta
 rw[sT x 32,sT x 16,sT x 8,sT (x/2^32) 16,sT (x/2^32) 8,sT (x/2^32/2^16) 8,sT (x/2^16) 8];have l32:=Nx x 32;have l16:=Nx x 16;have l8:=Nx x 8;have l3216:=Nx (x/2^32) 16;have l328:=Nx (x/2^32) 8;have l32168:=Nx (x/2^32/2^16) 8;have l168:=Nx (x/2^16) 8;refine zn (fun c1=>zg rfl (zn (fun c2=>zg rfl (zn (fun c3=>zg rfl (zg (oM _ ?_) (zl (zL rfl rfl (Mj 56 _ x (by decide+kernel) (by decide) ?_ ?_))))) (fun c3=>zg (oM _ ?_) (zl (zL rfl rfl (Mj 48 _ x (by decide+kernel) (by decide) ?_ ?_)))))) (fun c2=>zn (fun c3=>zg rfl (zg (oM _ ?_) (zl (zL rfl rfl (Mj 40 _ x (by decide+kernel) (by decide) ?_ ?_))))) (fun c3=>zg (oM _ ?_) (zl (zL rfl rfl (Mj 32 _ x rfl (by decide) ?_ ?_))))))) (fun c1=>zn (fun c2=>zg rfl (zn (fun c3=>zg rfl (zg (oM _ ?_) (zl (zL rfl rfl (Mj 24 _ x (by decide+kernel) (by decide) ?_ ?_))))) (fun c3=>zg (oM _ ?_) (zl (zL rfl rfl (Mj 16 _ x (by decide+kernel) (by decide) ?_ ?_)))))) (fun c2=>zn (fun c3=>zg rfl (zg (oM _ ?_) (zl (zL rfl rfl (Mj 8 _ x (by decide+kernel) (by decide) ?_ ?_))))) (fun c3=>zg (oM _ ?_) (zl (zL rfl rfl (Mj 0 _ x rfl (by decide) ?_ ?_))))));all_goals
  first
   |replace c1:=of_decide_eq_true c1
   |replace c1:=of_decide_eq_false c1
  first
   |replace c2:=of_decide_eq_true c2
   |replace c2:=of_decide_eq_false c2
  first
   |replace c3:=of_decide_eq_true c3
   |replace c3:=of_decide_eq_false c3
  omega
end T247
theorem nF:∀g sp,xL.sp g=some sp→Ae AT g sp:=Aa T247.ok (fun g sp h=>by cases h)
theorem RZ{n:Int}(h1:0≤n)(h2:n<18446744073709551616):0≤Sp.Es n∧Sp.Es n≤64:=by
 unfold Sp.Es;split
 ·omega
 ·have:n.toNat.log2<64:=(Nat.log2_lt (by omega)).2 (by omega);omega
namespace T272
theorem ok:Ae AT 272 tY:=by
 refine Av (X:=xL) rfl nF (d:=9) (by kernel_rfl) (by kernel_rfl) (by kernel_rfl) (fun(x:Int) hx=>?_) (Ad (by kernel_rfl));have h:=y7 (n:=x) hx;have hl:=RZ h.1 h.2;refine zY (Am x) (zg hx (zl (zL rfl rfl ?_)));show zc .i64 (64-Sp.Es x)=Sp.lz x;unfold Sp.lz;exact wr _ (by omega) (by omega)
end T272
theorem fJ:Ae AT 271 R1:=T271.ok T272.ok
end Go.Pe
end
section
namespace Go.Sp
def Re(a b:List Int):Bool:=B0 a&&B0 b&&decide (a.length≤9000)&&decide (b.length≤9000)&&decide (0<An b)
end Go.Sp
namespace Go.Pe
open Sp
open Go.Det
noncomputable section
noncomputable def FE:Ao:=⟨[CZ,CZ],fun i=>Re i.1 i.2,[CZ,CZ],fun i=>(Bo (An i.1/An i.2),Bo (An i.1 % An i.2)),false⟩
noncomputable def IK:A6:=X7 [(221,Ws),(269,U2),(223,R0),(268,Uq),(270,UR),(271,R1),(272,tY)]
end
end Go.Pe
end
section
namespace Go.Sp
def GZ(c:UInt8):Int:=(c.toNat:Int)-48
def BJ(c:UInt8):Bool:=decide (48≤c.toNat)&&decide (c.toNat≤57)
def Az(n:Int):List UInt8→Int
 |[]=>n
 |c::r=>Az (10*n+GZ c) r
def Al(s:List UInt8):Bool:=s.all BJ
theorem CA:∀(n:Int) (a b:List UInt8),Az n (a++b)=Az (Az n a) b
 |_,[],_=>rfl
 |n,c::a,b=>by rw[yv,Az,Az,CA]
theorem Eh:∀(s:List UInt8) (n:Int),Az n s=n*10^s.length+Az 0 s
 |[],n=>by simp[Az]
 |c::s,n=>by
  rw[Az,Az,Eh s (10*n+GZ c),Eh s (10*0+GZ c),List.length_cons,qj,zN,yx,yz,zS 10 n,zy,zS 10 (10^s.length),qg]
theorem CJ{c:UInt8}(h:BJ c=true):0≤GZ c∧GZ c≤9:=by
 unfold BJ at h;rw[zk,decide_eq_true_eq,decide_eq_true_eq]at h;unfold GZ;omega
theorem Bb:∀ {s:List UInt8},Al s=true→0≤Az 0 s∧Az 0 s<10^s.length
 |[],_=>by simp[Az]
 |c::s,h=>by
  unfold Al at h;rw[List.all_cons,zk]at h;have a:=CJ h.1;have b:=Bb (s:=s) h.2;have hp:=AM (show(0:Int)<10 by decide) s.length;have c1:=zu a.1 (zZ hp);have c2:=zm a.2 (zZ hp);rw[Az,Eh,List.length_cons,qj,yx,yz,zS (10^s.length) 10];omega
theorem Be{s:List UInt8}(h:Al s=true)(i:Nat):Al (s.take i)=true:=by
 unfold Al at h ⊢;rw[List.all_eq_true]at h ⊢;exact fun x hx=>h x (List.mem_of_mem_take hx)
theorem BO{s:List UInt8}(h:Al s=true)(i:Nat):Al (s.drop i)=true:=by
 unfold Al at h ⊢;rw[List.all_eq_true]at h ⊢;exact fun x hx=>h x (List.mem_of_mem_drop hx)
def AR(s:List UInt8):Bool:=decide (s≠[])&&Al s&&(decide (s.getD 0 0≠48)||decide (s=[48]))
end Go.Sp
end
section
namespace Go.Sp
def Ft(a b:AQ):AQ:=if vI a<0∧Ag (vI a) % vI b≠0 then Mq (CD (-(Ag (vI a)/vI b))) (1,[])else CD (sg (decide (vI a<0)) (Ag (vI a)/vI b))
def Xe(a b:AQ):Int:=(Ft a b).1
def WT(a b:AQ):List Int:=(Ft a b).2
def SW(a b:AQ):Int:=Cq (vI a % vI b)
def Tu(a b:AQ):List Int:=Cp (vI a % vI b)
def gI(a b:Int):Int:=if a<0 then -(-(Int.gcd a b:Int))else(Int.gcd a b:Int)
theorem E3(a b:Int):gI a b=(Int.gcd a b:Int):=by unfold gI;split<;>omega
def LM(a b:AQ):Int:=Cq (gI (vI a) (vI b))
def Mh(a b:AQ):List Int:=Cp (gI (vI a) (vI b))
def pI(a k:Int):Int:=if k<0 then -(-(a^k.toNat))else a^k.toNat
theorem RC(a k:Int):pI a k=a^k.toNat:=by unfold pI;split<;>omega
def bW(a k:Int):Bool:=decide (0≤k)&&decide (k≤100000)&&decide (Ag (pI a k)<(18446744073709551616:Int)^(4000:Nat))
def Ua(a:AQ)(k:Int):Int:=Cq (pI (vI a) k)
def Ue(a:AQ)(k:Int):List Int:=Cp (pI (vI a) k)
def B1(n:Int):List Int:=if n<0 then[]else[]
theorem DT(n:Int):B1 n=[]:=by unfold B1;split<;>rfl
def B7(s:List UInt8):Int:=if s.getD 0 0=45 then -Az 0 (s.drop 1)else Az 0 s
def D7(s:List UInt8):Bool:=decide (s.length≤5999)&&(if s.getD 0 0=45 then Al (s.drop 1)else Al s)
def CT(s:List UInt8):Int:=Cq (B7 s)
def C0(s:List UInt8):List Int:=Cp (B7 s)
end Go.Sp
namespace Go.Pe
open Sp
open Go.Det
noncomputable section
noncomputable def Gy:Ao:=⟨[BE,BE],fun i=>A5 i.1&&A5 i.2&&decide (0<zh i.2),[BE,BE],fun i=>((Xe i.1 i.2,WT i.1 i.2),(SW i.1 i.2,Tu i.1 i.2)),false⟩
noncomputable def Xu:Ao:=⟨[BE,BE],fun i=>A5 i.1&&A5 i.2,[BE],fun i=>(LM i.1 i.2,Mh i.1 i.2),false⟩
noncomputable def dK:Ao:=⟨[BE,i64],fun i=>A5 i.1&&bW (zh i.1) i.2,[BE],fun i=>(Ua i.1 i.2,Ue i.1 i.2),false⟩
noncomputable def O6:Ao:=⟨[.str],fun s=>D7 s,[BE],fun s=>(CT s,C0 s),false⟩
noncomputable def TC:Ao:=⟨[i64],fun _=>true,[BE],fun n=>(n,B1 n),false⟩
noncomputable def rG:A6:=Ze [(176,[9,10])] [] [(176,[(9,[3,4,5,8,12,13]),(10,[3,4,5,14,15])])] [(105,TC),(230,FE),(218,O2),(219,aQ),(217,eP),(158,Ny),(173,Jn)]
noncomputable def wU:A6:=X7 []
noncomputable def tH:A6:=X7 [(176,Gy),(212,nR),(173,Jn)]
noncomputable def sU:A6:=X7 [(105,TC),(159,Qn)]
end
end Go.Pe
end
section
namespace Go.Sp
abbrev B9:Nat:=1000000000
def I6(l:List Int):Bool:=decide (l.length≤20000)&&l.all fun d=>decide (0≤d)&&decide (d<1000000000)
def hR(l:List Int):Bool:=I6 l&&decide (l.length≤9000)
def A4(l:List Int):Bool:=I6 l&&pH l
def Aq(l:List Int):Int:=val B9 l
def BL(n:Int):List Int:=dg B9 n
def rN(n:Int):Bool:=decide (n<0)
def rW(n:Int):List Int:=BL (Ag n)
def B4(neg:Bool)(w:List Int):Bool:=neg&&decide (Ar w≠[])
def DB(s:List UInt8):Bool:=decide (s.length≤18)&&Al s
def Bu(s:List UInt8):Int:=Az 0 s
def EL(s:List UInt8):Bool:=rN (B7 s)
def EK(s:List UInt8):List Int:=rW (B7 s)
def Cc(a b:List Int):List Int:=BL (gI (Aq a) (Aq b))
end Go.Sp
namespace Go.Pe
open Sp
open Go.Det
noncomputable section
abbrev li:Sh:=.list i64
abbrev IS:Sh:=.pair .bool li
noncomputable def Rj:Ao:=⟨[li],fun l=>decide (ym (α:=Int) l≤20000),[li],fun l=>Ar l,false⟩
noncomputable def HU:Ao:=⟨[.bool,li],fun i=>decide (ym (α:=Int) i.2≤20000),[IS],fun i=>(B4 i.1 i.2,Ar i.2),false⟩
noncomputable def WD:Ao:=⟨[li,li],fun i=>A4 i.1&&A4 i.2,[i64],fun i=>BW (Aq i.1) (Aq i.2),false⟩
noncomputable def WM:Ao:=⟨[li,li],fun i=>Sp.hR i.1&&Sp.hR i.2,[li],fun i=>BL (Aq i.1*Aq i.2),false⟩
noncomputable def VR:Ao:=⟨[li,i64],fun i=>I6 i.1&&decide (0<(i.2:Int))&&decide ((i.2:Int)<1000000000),[li,i64],fun i=>(BL (Aq i.1/i.2),Aq i.1 % i.2),false⟩
noncomputable def PZ:Ao:=⟨[li,li],fun i=>A4 i.1&&A4 i.2&&decide (ym (α:=Int) i.1≤9000)&&decide (ym (α:=Int) i.2≤9000)&&decide (0<Aq i.2),[li,li],fun i=>(BL (Aq i.1/Aq i.2),BL (Aq i.1 % Aq i.2)),false⟩
noncomputable def JD:Ao:=⟨[li,li],fun i=>A4 i.1&&A4 i.2&&decide (ym (α:=Int) i.1≤9000)&&decide (ym (α:=Int) i.2≤9000),[li],fun i=>Cc i.1 i.2,false⟩
noncomputable def RI:Ao:=⟨[.str],fun s=>DB s,[i64],fun s=>Bu s,false⟩
noncomputable def QH:Ao:=⟨[.str],fun s=>D7 s,[IS],fun s=>(EL s,EK s),false⟩
noncomputable def Za:A6:=X7 []
noncomputable def VE:A6:=X7 [(227,Rj)]
noncomputable def KU:A6:=X7 [(170,WD),(227,Rj),(226,VR),(172,WM)]
noncomputable def tF:A6:=X7 [(164,PZ)]
noncomputable def Yh:A6:=X7 [(165,RI),(168,HU)]
end
end Go.Pe
end
section
namespace Go.Sp
def C4:List UInt8:=[48,49,50,51,52,53,54,55,56,57]
def Xx(o:List Bool):List Bool:=(List.range 256).map fun j=>o.getD j false
def oJ:List Bool:=zq 256 false
def OB(s:List UInt8):List UInt8:=((s.reverse.dropWhile BJ).reverse).dropWhile BJ
def OI(s:List UInt8)(c:Int):Int:=match s.findIdx? (fun x=>x==c.toNat.toUInt8)with
 |some i=>(i:Int)
 |none=> -1
def Ax(s:List UInt8):List UInt8:=match s.findIdx? (fun x=>x==47)with
 |some i=>s.take i
 |none=>s
def AL(s:List UInt8):List UInt8:=match s.findIdx? (fun x=>x==47)with
 |some i=>s.drop (i+1)
 |none=>[]
def Bk(s:List UInt8):Bool:=s.any (fun x=>x==47)
def AY(s:List UInt8):List UInt8:=if s.getD 0 0=45 then s.drop 1 else s
def preB(s:List UInt8):Bool:=decide (s.getD 0 0=45)
def oR(s t:List UInt8):Bool:=decide (t=C4)&&decide (s.length≤1000000)
def rA(s t:List UInt8):Bool:=decide (t=[47])&&decide (s.length≤1000000)
def RX(s t:List UInt8):Bool:=decide (t=[45])&&decide (s.length≤1000000)
end Go.Sp
namespace Go.Pe
open Sp
open Go.Det
noncomputable section
noncomputable def UG:Ao:=⟨[.str,.str],fun i=>oR i.1 i.2,[.str],fun i=>OB i.1,false⟩
noncomputable def nY:Ao:=⟨[.str,.int .u8],fun i=>decide (0≤(i.2:Int))&&decide ((i.2:Int)<256),[i64],fun i=>OI i.1 i.2,false⟩
noncomputable def cO:Ao:=⟨[.str,.str],fun i=>rA i.1 i.2,[.str,.str,.bool],fun i=>(Ax i.1,Sp.AL i.1,Bk i.1),false⟩
noncomputable def nT:Ao:=⟨[.str,.str],fun i=>RX i.1 i.2,[.str,.bool],fun i=>(AY i.1,Sp.preB i.1),false⟩
noncomputable def K1:Ao:=⟨[.str],fun s=>decide (s.length≤1000000),[.bool],fun s=>AR s,false⟩
noncomputable def IT:A6:=X7 []
noncomputable def Wd:A6:=X7 [(263,⟨[.str,.str],fun _=>false,[.str],fun i=>i.1,false⟩),(264,⟨[.str,.str],fun _=>false,[.str],fun i=>i.1,false⟩),(258,⟨[.str,.int .u8],fun _=>false,[.str],fun i=>i.1,false⟩),(259,⟨[.str,.int .u8],fun _=>false,[.str],fun i=>i.1,false⟩)]
noncomputable def yC:A6:=X7 [(211,UG)]
noncomputable def wX:A6:=X7 [(316,nY)]
noncomputable def Pf:A6:=X7 [(105,TC),(216,dK),(159,Qn),(158,Ny),(174,SL),(302,⟨[.str,i64,i64],fun _=>false,[i64],fun _=>(0:Int),false⟩),(267,⟨[.str],fun _=>false,[i64],fun _=>(0:Int),false⟩)]
end
end Go.Pe
end
section
namespace Go.Sp
def FQ(a:List UInt8):Bool:=AR (Ax (AY a))&&(!preB a||decide (Ax (AY a)≠[48]))&&(!Bk (AY a)||(AR (AL (AY a))&&decide (AL (AY a)≠[48])&&decide (AL (AY a)≠[49])))
def mQ(a:List UInt8):Int:=Az 0 (Ax (AY a))
def mT(a:List UInt8):Int:=Az 0 (AL (AY a))
def AP(a:List UInt8):Int:=if FQ a=false then 1 else if 600<(Ax (AY a)).length∨600<(AL (AY a)).length then 4 else if Bk (AY a)=true∧gI (mQ a) (mT a)≠1 then 1 else 0
def AV(s:List UInt8):Int:=((Ax s).length:Int)
def Ho(a:List UInt8):Bool:=D7 (Ax a)&&D7 (AL a)&&decide (a.length≤5999)
def A8(a:List UInt8):Int:=B7 (Ax a)
def AF(a:List UInt8):Int:=if Bk a=true then B7 (AL a)else 1
def Bx(a:List UInt8):Bool:=rN (A8 a)
def Bp(a:List UInt8):List Int:=rW (A8 a)
def Bg(a:List UInt8):Bool:=rN (AF a)
def Bd(a:List UInt8):List Int:=rW (AF a)
end Go.Sp
namespace Go.Pe
open Sp
open Go.Det
noncomputable section
noncomputable def D6:Ao:=⟨[.str],fun s=>decide (s.length≤1000000),[i64],fun s=>AP s,false⟩
noncomputable def K2:Ao:=⟨[.str],fun s=>decide (s.length≤1000000),[i64],fun s=>AV s,false⟩
noncomputable def J7:Ao:=⟨[i64],fun n=>BG n,[IS],fun n=>(Sp.rN n,Sp.rW n),false⟩
noncomputable def RT:Ao:=⟨[.str],fun s=>Ho s,[IS,IS],fun s=>((Bx s,Bp s),(Bg s,Bd s)),false⟩
noncomputable def KT:A6:=Ze [(77,[4,6,7,9,10])] [] [(77,[(4,[5,6,7,8]),(6,[5,6,7,8]),(7,[5,6,7,9]),(9,[5,6,7]),(10,[10])])] [(83,Nz),(85,TK),(149,nT),(150,cO),(151,K1),(152,Xu),(153,O6),(154,dD),(105,TC)]
noncomputable def jI:A6:=X7 [(168,HU)]
noncomputable def yB:A6:=X7 [(89,K2),(163,QH),(107,J7)]
noncomputable def So:A6:=Ze [(24,[4,7,9,11,13,14])] [] [(24,[(4,[0,3]),(7,[3,4]),(9,[3,4]),(11,[3,4]),(13,[5,6]),(14,[7])])] [(89,K2),(90,K1),(91,RT),(92,JD)]
end
end Go.Pe
end
section
namespace Go.Sp
abbrev AA:=(Int×List Int)×(Int×List Int)
def Mv(a:AQ):Bool:=C8 a&&decide (a.2.length≤4000)
def E0(a:AA):Bool:=Mv a.1&&Mv a.2
def xO(a b:AA):Int:=BW (vI a.1*vI b.2) (vI b.1*vI a.2)
def Mu(a:List UInt8):Int:=Cq (A8 a)
def Mk(a:List UInt8):List Int:=Cp (A8 a)
def KN(a:List UInt8):Int:=Cq (AF a)
def Ka(a:List UInt8):List Int:=Cp (AF a)
def iQ(a b:AQ):AQ:=if vI b<0 then Ft (CV a) (CV b)else Ft a b
def xF(a b:AQ):Int:=(iQ a b).1
def xI(a b:AQ):List Int:=(iQ a b).2
def CC(d:AQ):Bool:=decide (d.2=[])&&decide (d.1=1)
def gR(n d:AQ):AQ:=(LM n d,Mh n d)
def Mo(n d:AQ):AA:=if CC d=true then(n,d)else(iQ n (gR n d),iQ d (gR n d))
def Sk(n d:AQ):AA:=if vI d<0 then Mo (CV n) (CV d)else Mo n d
def yP(n:AQ):AA:=(n,(1,B1 1))
def Ly(a b:AA):AA:=if CC a.2=true∧CC b.2=true then yP (D9 a.1 b.1)else Sk (D9 (EH a.1 b.2) (EH b.1 a.2)) (EH a.2 b.2)
def Pm(a b:AA):AA:=Sk (EH a.1 b.1) (EH a.2 b.2)
def vH(a:AA):AA:=(CV a.1,a.2)
def mK(a b:AA):AA:=Ly a (vH b)
def T6(a:AA):AA:=Sk a.2 a.1
def Lz(a b:AA):AA:=Pm a (T6 b)
def nS(f:AA):Int:=f.1.1
def nW(f:AA):List Int:=f.1.2
def dS(f:AA):Int:=f.2.1
def dW(f:AA):List Int:=f.2.2
def UP(n d:AQ):Int:=nS (Sk n d)
def Vd(n d:AQ):List Int:=nW (Sk n d)
def Vp(n d:AQ):Int:=dS (Sk n d)
def Vf(n d:AQ):List Int:=dW (Sk n d)
def eI(a b:AA):Int:=nS (Ly a b)
def eH(a b:AA):List Int:=nW (Ly a b)
def fX(a b:AA):Int:=dS (Ly a b)
def dQ(a b:AA):List Int:=dW (Ly a b)
def tL(a b:AA):Int:=nS (mK a b)
def vB(a b:AA):List Int:=nW (mK a b)
def uV(a b:AA):Int:=dS (mK a b)
def uM(a b:AA):List Int:=dW (mK a b)
def aY(a b:AA):Int:=nS (Pm a b)
def ZE(a b:AA):List Int:=nW (Pm a b)
def dN(a b:AA):Int:=dS (Pm a b)
def dC(a b:AA):List Int:=dW (Pm a b)
def wB(a:AA):Int:=nS (T6 a)
def uO(a:AA):List Int:=nW (T6 a)
def vP(a:AA):Int:=dS (T6 a)
def uX(a:AA):List Int:=dW (T6 a)
def dM(a b:AA):Int:=nS (Lz a b)
def Zn(a b:AA):List Int:=nW (Lz a b)
def aG(a b:AA):Int:=dS (Lz a b)
def gC(a b:AA):List Int:=dW (Lz a b)
def yO(a:AA):Int:=Xe a.1 a.2
def yK(a:AA):List Int:=WT a.1 a.2
def Dj(a:AA):Bool:=E0 a&&decide (0<vI a.2)
def Jy(n d:AQ):Bool:=A5 n&&A5 d&&decide (vI d≠0)
end Go.Sp
namespace Go.Pe
open Sp
open Go.Det
noncomputable section
abbrev BI:Sh:=.pair BE BE
noncomputable def Xm:Ao:=⟨[.str],fun s=>Ho s,[BI],fun s=>((Mu s,Mk s),(KN s,Ka s)),false⟩
noncomputable def eX:Ao:=⟨[BI,BI],fun i=>Sp.E0 (i.1:AA)&&Sp.E0 (i.2:AA),[i64],fun i=>xO (i.1:AA) (i.2:AA),false⟩
noncomputable def yL:Ao:=⟨[BE,BE],fun i=>Jy i.1 i.2,[BE],fun i=>(xF i.1 i.2,xI i.1 i.2),false⟩
noncomputable def W8:Ao:=⟨[BE,BE],fun i=>Jy i.1 i.2,[BI],fun i=>((UP i.1 i.2,Vd i.1 i.2),(Vp i.1 i.2,Vf i.1 i.2)),false⟩
noncomputable def OT:Ao:=⟨[BI],fun _=>true,[.bool],fun a=>CC (a:AA).2,false⟩
noncomputable def aK:Ao:=⟨[BE],fun _=>true,[BI],fun n=>((n:AQ),((1:Int),B1 1)),false⟩
noncomputable def cF:Ao:=⟨[i64],fun _=>true,[BI],fun n=>(((n:Int),B1 n),((1:Int),B1 1)),false⟩
noncomputable def nP:Ao:=⟨[BI],fun a=>C8 (a:AA).1,[BI],fun a=>((D2 (a:AA).1,D3 (a:AA).1),((a:AA).2.1,(a:AA).2.2)),false⟩
noncomputable def Ui:Ao:=⟨[BI,BI],fun i=>Sp.Dj (i.1:AA)&&Sp.Dj (i.2:AA),[BI],fun i=>((eI i.1 i.2,eH i.1 i.2),(fX i.1 i.2,dQ i.1 i.2)),false⟩
noncomputable def cN:Ao:=⟨[BI,BI],fun i=>Sp.Dj (i.1:AA)&&Sp.Dj (i.2:AA),[BI],fun i=>((tL i.1 i.2,vB i.1 i.2),(uV i.1 i.2,uM i.1 i.2)),false⟩
noncomputable def T0:Ao:=⟨[BI,BI],fun i=>Sp.Dj (i.1:AA)&&Sp.Dj (i.2:AA),[BI],fun i=>((aY i.1 i.2,ZE i.1 i.2),(dN i.1 i.2,dC i.1 i.2)),false⟩
noncomputable def nI:Ao:=⟨[BI],fun a=>Sp.Dj (a:AA)&&decide (zh (a:AA).1≠0),[BI],fun a=>((wB a,uO a),(vP a,uX a)),false⟩
noncomputable def V4:Ao:=⟨[BI,BI],fun i=>Sp.Dj (i.1:AA)&&Sp.Dj (i.2:AA)&&decide (zh (i.2:AA).1≠0),[BI],fun i=>((dM i.1 i.2,Zn i.1 i.2),(aG i.1 i.2,gC i.1 i.2)),false⟩
noncomputable def UL:Ao:=⟨[BI],fun a=>Sp.Dj (a:AA),[BE],fun a=>(yO a,yK a),false⟩
noncomputable def Sn:A6:=Ze [(175,[3])] [] [(175,[(3,[2,3,4])])] [(173,Jn),(174,SL),(176,Gy),(152,Xu),(105,TC),(158,Ny),(159,Qn),(154,dD),(150,cO),(153,O6)]
noncomputable def oH:A6:=Ze [(104,[3,6])] [] [(104,[(3,[2,3,4]),(6,[2,3,4,5])])] [(173,Jn),(174,SL),(152,Xu),(175,yL)]
noncomputable def gL:A6:=Ze [(80,[3])] [] [(80,[(3,[2,3,4])])] [(156,OT),(157,aK),(158,Ny),(159,Qn),(104,W8)]
noncomputable def uK:A6:=X7 [(160,nP),(80,Ui),(82,T0),(161,nI)]
end
end Go.Pe
end
section
namespace Go.Sp
def Pk(a:List UInt8):List UInt8:=if Bk a=true then AL a else[49]
def Jl(a:List UInt8)(n:Int):Bool:=decide ((a.length:Int)≤2*n+2)&&decide (AP a=0)&&decide (((AY (Ax a)).length:Int)≤n)&&decide (((Pk a).length:Int)≤n)
end Go.Sp
namespace Go.Pe
open Go.Det
noncomputable section
noncomputable def dR:Ao:=⟨[.str,i64],fun i=>decide (0≤(i.2:Int))&&decide ((i.2:Int)≤1000),[.bool],fun i=>Sp.Jl i.1 i.2,false⟩
noncomputable def Xn:Ao:=⟨[.str],fun s=>decide (s.length≤1000000),[.str],fun s=>Sp.AY s,false⟩
noncomputable def dE:Ao:=⟨[.str],fun s=>decide (s.length≤1000000),[.str],fun s=>Sp.Ax s,false⟩
noncomputable def Xv:Ao:=⟨[.str],fun s=>decide (s.length≤1000000),[.str],fun s=>Sp.Pk s,false⟩
noncomputable def uJ:A6:=X7 [(89,K2)]
noncomputable def xC:A6:=X7 [(24,D6),(100,Xn),(101,dE),(102,Xv)]
end
end Go.Pe
end
section
namespace Go.Sp
def DF(a:List UInt8):Bool:=decide (a.length≤20)&&decide ((Ax (AY a)).length≤9)&&decide ((AL (AY a)).length≤9)
def HF(a:List UInt8):Int:=if preB a=true then -Az 0 (Ax (AY a))else Az 0 (Ax (AY a))
def QM(a:List UInt8):Int:=if Bk (AY a)=true then Az 0 (AL (AY a))else 1
def Fp(a:List UInt8):Int:=if a=[48]then 0 else if a.getD 0 0=45 then -1 else 1
def Kb(a:List UInt8):List UInt8:=if a=[48]then a else if a.getD 0 0=45 then a.drop 1 else 45::a
def GH:Nat→Nat→Nat→List UInt8→List UInt8
 |0,_,_,acc=>acc
 |f+1,n,l,acc=>if n=0∧l≤acc.length then acc else GH f (n/10) l (UInt8.ofNat (48+n % 10)::acc)
def Hn(n l:Int):List UInt8:=GH 64 n.toNat l.toNat []
def vN(a b:Int):Bool:=decide (0≤a)&&decide (a<9223372036854775808)&&decide (0≤b)&&decide (b<9223372036854775808)
end Go.Sp
namespace Go.Pe
open Go.Det
noncomputable section
noncomputable def oE:Ao:=⟨[i64,i64],fun i=>Sp.vN i.1 i.2,[i64],fun i=>Sp.gI i.1 i.2,false⟩
noncomputable def Nl:Ao:=⟨[.str],fun s=>decide (s.length≤1000000),[i64],fun s=>Sp.Fp s,false⟩
noncomputable def cK:Ao:=⟨[.str],fun s=>decide (s.length≤1000000),[.str],fun s=>Sp.Kb s,false⟩
noncomputable def Oc:Ao:=⟨[i64,i64],fun i=>decide (0≤(i.1:Int))&&decide ((i.1:Int)<9223372036854775808)&&decide (0≤(i.2:Int))&&decide ((i.2:Int)≤20),[.str],fun i=>Sp.Hn i.1 i.2,false⟩
noncomputable def Ms:A6:=Ze [(95,[5,7,11,13])] [] [(95,[(5,[5,6]),(7,[5,6]),(11,[5,6,7,8,9]),(13,[6,8,9])])] [(165,RI),(89,K2)]
noncomputable def xZ:A6:=X7 [(41,Nl)]
end
end Go.Pe
end
section
namespace Go.Sp
end Go.Sp
namespace Go.Pe
open Go.Det
noncomputable section
end
end Go.Pe
end
