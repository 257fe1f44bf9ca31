import Derived.ChangeSame
import Derived.Test.YtbmofcgiokkikaaGreatDoorX14
/- A part of a proof; no law is stated here. -/
noncomputable section
open Bool renaming and_eq_true -> zc, or_eq_false_iff -> zy, or_eq_true -> qf
open List renaming getElem?_eq_getElem -> zd, getD_eq_getElem?_getD -> ze, all_eq_true -> zg, getElem?_take_of_lt -> zi, getElem_mem -> zm, length_map -> zo, length_range -> zq, getElem?_drop -> zu, length_take -> z6, length -> yf, mem_cons_of_mem -> yg, getElem_map -> yi, getElem?_eq_some_iff -> yk, mem_cons_self -> yo, getElem?_map -> yp, range -> yr, ext_getElem -> yt, mem_cons -> yu, mem_of_getElem? -> yw, length_pos_iff -> yy, length_drop -> qc, mem_range -> qg
open Classical renaming propDecidable -> zf, not_not -> yq
open Go.Pe.Sh renaming list -> zh, str -> zw, bool -> z8, int -> yc, pair -> yz
open Go.IntKind renaming wrap -> zj, i64 -> zk
open Option renaming getD_some -> zl
open Array renaming getElem?_eq_some_iff -> zn, range -> zp, length_toList -> zz, getElem?_toList -> yd, getElem?_append_left -> ye, size_range -> yj, getElem?_eq_getElem -> ym, getElem?_setIfInBounds -> yx, toList_inj -> qd
open Go.DataW renaming trod -> zr
open Go.Sp renaming first -> zt, Ck -> ya, pt -> y9
open Nat renaming eq_of_beq_eq_true -> zx, beq -> yh, le_refl -> y8, zero_le -> qh
open Go.Pe.Ends renaming leaf -> z7, tt -> yv, ite -> qe
open Go.Sort renaming ahead -> yb
open Go.Lib renaming bitLen -> yn
open Go.World renaming cell? -> y7
open Rat renaming not_lt -> qi, zero_add -> ql
open Go.Fn renaming func -> qj
open Int renaming tdiv -> qm
namespace Go.Det
open Go.ChangeShapes Go.WideShapes Go.RowKit
theorem Ct{α d:Type}{f g:α->Option d}:∀ {l:List α} {c:List d},l.mapM f=some c->(∀a∈l,∀y∈c,f a=some y->g a=some y)->l.mapM g=some c
 |[],c,h,_=>by grind
 |a::l,c,h,j=>by
  rw[List.mapM_cons]at h ⊢;cases i:f a with
  |none=>grind
  |some y=>
   rw[i]at h;cases e:l.mapM f with
   |none=>grind
   |some k=>
    rw[e]at h;cases h;rw[j a (by simp) y (by simp) i,Ct e ah];rfl
def kF(P:Program)(L:List TypeId)(t:TypeId):Bool:=match P.underlying t with
 |some (.pointer e)|some (.array _ e)|some (.map _ e)=>L.contains e
 |some (.slice e)=>L.contains e&&Nat.ble 1 (P.cellsOf e)
 |some (.struct fs)=>fs.toList.all fun f=>L.contains f.type
 |_=>true
def Mv(P:Program)(L:List TypeId):Bool:=L.all<|kF P L
section
variable {H:Type}{enc:TypeId×Value->H}{P:Program}{W W':World}
theorem AaG{L:List TypeId}(h:Mv P L=true){t:TypeId}(a:t∈L):kF P L t=true:=zg.1 h t a
theorem X6(d:Below W.heap.size W W'){a:Addr}{v:Value}(h:W.cell? a=some v):W'.cell? a=some v:=by
 have c:a.block<W.heap.size:=by
  grind [y7]
 unfold y7 at h ⊢;rw[d.block _ c];exact h
theorem WK(c:Below W.heap.size W W'){a:Addr}{n:Nat}{cs:List Value}(h:W.cells? 0 a n=some cs):W'.cells? 0 a n=some cs:=by
 unfold World.cells? at h ⊢;grind [Ct,X6]
theorem HQ(i:Below W.heap.size W W'){c:Type}{a:Addr}{n:Nat}{f g:List Value->Option c}{y:c}(h:(W.cells? 0 a n).bind f=some y)(d:∀cs,f cs=some y->g cs=some y):(W'.cells? 0 a n).bind g=some y:=by
 cases e:W.cells? 0 a n with
 |none=>grind
 |some cs=>
  grind [WK]
theorem QH(v:Below W.heap.size W W'){L:List TypeId}(D:Mv P L=true){sp:Nat->Bool}:∀(fuel:Nat) (t:TypeId) (cs:List Value) (x:DataW H×List MemPlace),t∈L->
  zr enc P W 0 (fun _=>true) true fuel t cs=some x->(∀p∈x.2,sp p.block=true)->zr enc P W' 0 sp true fuel t cs=some x
 |0,_,_,_,_,h,_=>by cases h
 |fuel+1,t,cs,x,G,h,J=>by
  have S:=QH v D (sp:=sp) fuel;have l:=AaG D G;unfold kF at l;unfold zr at h ⊢;split at h<;>try simp only[reduceCtorEq]at h
  all_goals try exact h
  case h_6 e a m=>
   have d:e∈L:=ah
   cases C:(W.cells? 0 a<|P.cellsOf e).bind (zr enc P W 0 (fun _=>true) true fuel e)with
   |none=>grind
   |some y=>
    rw[C]at h;cases h;rw[HQ v C (g:=zr enc P W' 0 sp true fuel e) ah];rfl
  case h_8 e a len cap m=>
   have d:e∈L/\P.cellsOf e≠0:=by
    rw[m]at l;simp only[zc,List.contains_iff_mem]at l;have:=Nat.le_of_ble_eq_true l.2;grind
   by_cases q:0<=a.block/\len<=cap/\cap<=maxLen
   ·rw[wd q]at h ⊢;have step:∀(i:Nat) (y:DataW H×List MemPlace),(W.cells? 0 (a.add<|i*P.cellsOf e)<|P.cellsOf e).bind (zr enc P W 0 (fun _=>true) true fuel e)=some y->(∀p∈y.2,sp p.block=true)->
      (W'.cells? 0 (a.add<|i*P.cellsOf e)<|P.cellsOf e).bind (zr enc P W' 0 sp true fuel e)=some y:=(by grind [HQ])
    cases c:(yr len).mapM (fun i=>(W.cells? 0 (a.add<|i*P.cellsOf e)<|P.cellsOf e).bind<|zr enc P W 0 (fun _=>true) true fuel e)with
    |none=>grind
    |some s=>
     rw[c]at h;simp only[wm,Option.bind_some]at h;cases F:(yr<|cap-len).mapM (fun j=>(W.cells? 0 (a.add<|(len+j)*P.cellsOf e)<|P.cellsOf e).bind<|zr enc P W 0 (fun _=>true) true fuel e)with
     |none=>grind
     |some E=>
      rw[F]at h;cases h;rw[Ct c ah];have K:=Ct F fun j _ y N R=>step (len+j) y R ah
      by_cases A:sp a.block=true
      ·grind
      ·have T:(s.length+E.length)*P.cellsOf e=0:=by
        rcases Nat.eq_zero_or_pos ((s.length+E.length)*P.cellsOf e)with h0|h0
        ·exact h0
        ·refine wh (J (.cell a.block<|a.off+0)<|List.mem_append_left _ ?_) A;simp only[MemPlace.row,List.mem_map,qg];exact⟨0,h0,rfl⟩
       grind [Nat.mul_eq_zero]
   grind
  case h_9 cs _ _ fs m=>
   have d:∀f∈fs.toList,f.type∈L:=by
    grind
   by_cases q:cs.length=P.cellsOf t
   ·rw[wd q]at h ⊢;cases c:fs.toList.mapM (fun f=>zr enc P W 0 (fun _=>true) true fuel f.type<|(cs.drop f.offset).take<|P.cellsOf f.type)with
    |none=>grind
    |some s=>
     grind [Ct]
   grind
  case h_10 cs _ _ n e m=>
   have d:e∈L:=ah
   by_cases q:cs.length=P.cellsOf t
   ·rw[wd q]at h ⊢;cases c:(yr n).mapM (fun i=>zr enc P W 0 (fun _=>true) true fuel e<|(cs.drop<|i*P.cellsOf e).take<|P.cellsOf e)with
    |none=>grind
    |some s=>
     grind [Ct]
   grind
  case h_14 k e b m=>
   have I:b<W.heap.size:=by
    grind
   rw[v.block _ I];split at h
   case h_2=>cases h
   rename_i es clock Q;split at h
   case isFalse=>cases h
   cases c:(es.toList.mapM fun x=>(keyOf P k x.key).bind fun key=>if x.val.formed P e then(zr enc P W 0 (fun _=>true) true fuel e x.val.cells.toList).map fun y=>((key,y.1),y.2)else none)with
   |none=>grind
   |some s=>
    rw[c]at h;simp only[Option.bind_some]at h;split at h
    case isFalse=>cases h
    rw[Ct c fun B _ y N z=>?_]
    ·grind
    ·cases l:keyOf P k B.key with
     |none=>grind
     |some key=>
      rw[l]at z;split at z
      case isFalse=>cases z
      cases M:zr enc P W 0 (fun _=>true) true fuel e B.val.cells.toList with
      |none=>grind
      |some u=>
       grind
theorem XY(g:Below W.heap.size W W'){L:List TypeId}(i:Mv P L=true){sp:Nat->Bool}{t:TypeId}{v:Value}{d:DataW H}{p:List MemPlace}
  (c:t∈L) (h:DataW.Trod enc P W 0 (fun _=>true) true t v d p) (e:∀q∈p,sp q.block=true):DataW.Trod enc P W' 0 sp true t v d p:=by
 obtain⟨a,f⟩:=h;exact⟨a,(by grind [QH])⟩
theorem Hv(c:Below W.heap.size W W'){L:List TypeId}(i:Mv P L=true){sp:Nat->Bool}:∀ {ts:List TypeId} {vs:List Value} {ds:List (DataW H)} {p:List MemPlace},(∀t∈ts,t∈L)->
  DataW.TrodAll enc P W 0 (fun _=>true) true ts vs ds p->(∀q∈p,sp q.block=true)->DataW.TrodAll enc P W' 0 sp true ts vs ds p
 |[],vs,ds,p,_,h,_=>by
  obtain⟨rfl,rfl,rfl⟩:=trodAll_nil h;rfl
 |t::ts,vs,ds,p,k,h,l=>by
  obtain⟨v,g,d,e,a,b,rfl,rfl,rfl,j,f⟩:=trodAll_cons h;exact⟨a,b,(by grind [XY]),Hv c i ah f ah,rfl⟩
theorem gT{f:Func}{s:ChangeSpec}{apart fresh a d:Bool}{args:Array Value}{ds F:List (DataW H)}{c:List MemPlace}{tb:TypeId}
  (hW:DataW.Whole enc P f.params.toList s.vars apart W args.toList ds F c) (D:s.vars=[]) (hr:f.resultTypes= #[tb]) (B:P.underlying tb=some .bool)
  (G:s.fn H ds={ results:=[.lit<|.bool true],args:=ds }) (u:Below W.heap.size W W') {L:List TypeId} (E:Mv P L=true) (z:f.params.toList.all L.contains=true):
  s.post enc P f apart fresh a d W args (.bool true) W':=by
 have m:=hW.lt;have z:∀t∈f.params.toList,t∈L:=ah;obtain⟨p,q,A,C,rfl,e,i⟩:=hW;have l:=C;rw[D]at l;obtain⟨rfl,rfl⟩:=trodVars_none l;simp only[List.append_nil]at m e i ⊢;have x:DataW.Whole enc P f.params.toList s.vars apart W args.toList ds [] p:=⟨p,[],A,C,by simp,e,i⟩;have k:∀(b:Nat) (sp:Nat->Bool) (y:Bool),DataW.TrodAll enc P W' b sp y f.resultTypes.toList ((Value.bool true).resultList f.resultTypes.size) [.lit<|.bool true] []:=by
  intro b sp y;rw[hr];exact⟨[],[],shut_bool B true,rfl,rfl⟩
 have v:∀(j:Nat) (t:TypeId) (r:Value),f.resultTypes[j]?=some t->((Value.bool true).resultList f.resultTypes.size)[j]?=some r->Value.okWide P W' .any 0 t r:=by
  exact ok_one hr rfl (okWide_bool_mk B true)
 have g:∀sp:Nat->Bool,DataW.TrodVars enc P W' sp s.vars [] []:=fun sp=>by rw[D];rfl
 refine⟨ds,[],p,[],p,[],x,?_,?_,?_,World.keptBut_mono (by simp) (u.frame (· ∈p)),fun _=>?_⟩
 ·grind
 ·grind [Hv]
 ·grind
 ·refine⟨v,_,_,([]++p)++[],⟨[]++p,[],trodAll_append (Hv u E z A<|by simp)<|k _ _ _,g _,rfl,?_,?_⟩,?_⟩
  ·intro b off hp;have hp:MemPlace.cell b off∈p:=ah
   rw[u.frozen<|show b<W.heap.size from m _ hp];exact e b off hp
  ·grind
  grind
end
def KP(k:Nat):Value->V
 | .bool b=>.bool b
 | .int q n=>.int q n
 | .string s=>.str s.data.toList
 | .pointer none=>.nilp
 | .slice none 0 0=>.nils
 | .slice (some _) 0 0=>.es0
 | .slice (some ⟨r,off,none⟩) len cap=>if r<k/\len<=cap then .sl r off len cap 0 else .junk
 | .map none=>.nilm
 | .nilFunc=>.nilf
 | .nilIface=>.nili
 |_=>.junk
def YE(W:World)(r:Nat):Nat:=match W.heap[r]? with
 |some (.cells c _ _)=>c.size
 |_=>0
def pW(W:World):Pl:=(yr W.heap.size).map fun r=>(r,YE W r)
theorem NR{W:World}{r:Nat}(h:r<W.heap.size):(pW W)[r]?=some (r,YE W r):=by
 simp[pW,h]
def NX(W:World)(r:Nat):Option O:=match W.heap[r]? with
 |some (.cells c t _)=>if c.size=0 then none else some<|.cells (c.toList.map<|KP W.heap.size) t (0,c.size)
 |_=>none
def iJ(W:World):Nat->H
 |0=>⟨.leaf,0⟩
 |n+1=>⟨(iJ W n).m.set n<|NX W n,n+1⟩
theorem yZ(W:World):∀n,(iJ W n).nx=n
 |0=>rfl
 |_+1=>rfl
theorem XD(W:World):∀(n b:Nat),(iJ W n).get b=if b<n then NX W b else none
 |0,b=>by simp[iJ,H.get]
 |n+1,b=>by
  have a:=XD W n b;unfold H.get at a ⊢;simp only[iJ,PM.DI];grind
def hW(W:World):H:=iJ W W.heap.size
theorem NW(W:World)(b:Nat):(hW W).get b=NX W b:=by
 simp_all [hW,XD,NX]
theorem Mu{W:World}{v:Value}(h:(KP W.heap.size v).ok=true):Ae (pW W) (KP W.heap.size v) v:=by
 revert h;unfold KP;split<;>intro h
 case h_6=>simp_all [Ae]
 case h_7 r off len cap _=>
  split
  ·simp_all [Ae,NR]
  ·rename_i a;rw[wc a]at h;cases h
 case h_11=>cases h
 all_goals simp only[Ae]
 rfl
theorem R_W(W:World):R (pW W) (hW W) W:=by
 refine⟨by simp[pW,hW,yZ],fun b o a=>?_,fun b b' o o' r n n' a k l q=>?_⟩
 ·rw[NW]at a;unfold NX at a;split at a
  case h_2=>cases a
  rename_i c t fz f;split at a
  case isTrue=>cases a
  cases a;have e:b<W.heap.size:=ah;have g:YE W b=c.size:=by unfold YE;rw[f]
  refine⟨b,c.size,_,by rw[NR e,g],f,c,fz,rfl,rfl,by simp,⟨by simp,fun i d v m s j=>?_⟩,ae⟩;grind [Mu]
 grind [NW,NX,NR]
theorem dR{W W':World}{p':Pl}{h':H}(d:Ext (pW W) (hW W) W p' h' W'):RowKit.Below W.heap.size W W':=by
 refine⟨d.os,d.tape,d.out,d.size,fun k i=>?_⟩;by_cases l:Im (pW W) (hW W) k
 ·obtain⟨b,o,n,f,j⟩:=l;have a:=f;rw[NW]at a;unfold NX at a;split at a
  case h_2=>cases a
  rename_i c t fz m;split at a
  case isTrue=>cases a
  cases a;have e:b<W.heap.size:=ah;have g:YE W b=c.size:=by unfold YE;rw[m]
  rw[NR e,g]at j;cases j;exact(d.lock _ i ⟨_,_,_,_,_,f,by rw[NR e,g],rfl,y8 _,ae⟩).1
 ·exact d.same k i l
end Go.Det
namespace Go.Pe
open Go.Det
def FW(W:World):Fz:=fun b=>match (hW W).get b with
 |some (.cells cs _ _)=>some cs
 |_=>none
def UL:(s:Sh)->s.T->Prop
 | .int k,x=>k.min<=(x:Int)/\(x:Int)<=k.max
 | .bool,_=>True
 | .str,x=>(x:Rd).length<=maxLen
 | .list s,l=>(l:List s.T).length<=maxLen/\∀x∈(l:List s.T),UL s x
 | .pair a b,x=>UL a x.1/\UL b x.2
 | .unit,_=>True
 | .nlist _,_=>True
 | .fnv,_=>True
 | .ptr _,_=>True
def tF(P:Program)(f:TypeId->Option Sh):Nat->List Field->Option Sh
 |_,[]=>some .unit
 |o,[x]=>match f x.type with
  |some s=>bif yh x.offset o&&yh (P.cellsOf x.type) s.sz then some s else none
  |none=>none
 |o,x::y::l=>match f x.type with
  |some s=>bif yh x.offset o&&yh (P.cellsOf x.type) s.sz then(tF P f (o+s.sz) (y::l)).map (.pair s)else none
  |none=>none
def shP(P:Program):Nat->TypeId->Option Sh
 |0,_=>none
 |f+1,t=>match P.underlying t with
  |some (.int k)=>some<|.int k
  |some .bool=>some .bool
  |some .string=>some .str
  |some (.slice e)=>match shP P f e with
   |some s=>bif yh (P.cellsOf e) s.sz&&Nat.blt 0 s.sz then some (.list s)else none
   |none=>none
  |some (.struct fs)=>match tF P (shP P f) 0 fs.toList with
   |some s=>bif yh (P.cellsOf t) s.sz then some s else none
   |none=>none
  |_=>none
section
variable {H:Type}{enc:TypeId×Value->H}{P:Program}{W:World}
theorem vS{r:Nat}{c:Array Value}{t:TypeId}{fz:Nat×Nat}(h:W.heap[r]?=some (.cells c t fz))(h0:c.size≠0):FW W r=some (c.toList.map<|KP W.heap.size):=by
 simp_all [FW,NW,NX]
theorem Ts{a:Addr}{n:Nat}{cs:List Value}(h:W.cells? 0 a n=some cs)(l:0<n):
  ∃c t fz,W.heap[a.block]?=some (.cells c t fz)/\a.spot=none/\a.off+n<=c.size/\cs=(c.toList.drop a.off).take n:=by
 have m:=mapM_some_length h;have j:=mapM_some_get h;have h0:=j 0 0 (by simp[l]);have k:a.add 0=a:=by rfl
 obtain⟨v0,d⟩:∃v,cs[0]?=some v:=ah;rw[d]at h0;unfold y7 at h0;split at h0
 case h_2=>cases h0
 rename_i c t fz f;split at h0
 case isTrue=>cases h0
 have g:a.spot=none:=by simp_all
 have e:∀i,i<n->c[a.off+i]?=cs[i]?:=by
  grind [y7,Addr.add]
 refine⟨c,t,fz,f,g,?_,?_⟩
 ·have:=e (n-1) ae;grind
 ·apply List.ext_getElem?;grind
theorem cB{α:Type}{p:Nat->α->Prop}:∀n:Nat,(∀i,i<n->∃x,p i x)->∃l:List α,l.length=n/\∀i (h:i<l.length),p i l[i]
 |0,_=>(by simp)
 |n+1,h=>by
  obtain⟨l,a,e⟩:=cB n fun i c=>h i ae
  obtain⟨x,d⟩:=h n ae;refine⟨l++[x],by simp[a],fun i c=>?_⟩;grind
end
open Go.Det Go.RowKit
section
open Go.Proofs.Tryz (prog)
theorem pX{F':Fz}{v:V}(h:PC F' (.dat .bool true) v):v=.bool true:=by
 have:=h (fun _=>none) 0;simp only[PR,DC]at this;simpa using this
def GW(W:World):Prop:=∀x∈FI,NX W x.1=some x.2
theorem GW.h{W:World}(h:GW W):Gh (hW W):=fun x a=>by rw[NW];exact h x a
theorem GW.p{W:World}(h:GW W):Gp (pW W):=fun x i=>by
 have a:=h x i;unfold NX at a;split at a
 case h_2=>cases a
 rename_i c t fz f;split at a
 case isTrue=>cases a
 have e:x.1<W.heap.size:=(zn.1 f).1;have g:YE W x.1=c.size:=by unfold YE;rw[f]
 rw[NR e,g];cases d:x.2 with
 |cells cs j fz'=>rw[d]at a;cases a;simp[osz]
 |_=>rw[d]at a;cases a
theorem QJ[Srt](k:HY prog N9){f:FuncId}{sp:Am}(ok:Af AY f sp)(i:(By sp.ins).T)(d:sp.pre i=true){args:List V}{args':Array Value}{W:World}(c:GW W)(q:Lr (FW W) (Ag sp.ins i) args)
  (u:Ay (pW W) args args'.toList) (a:∀F' v,PC F' (one<|Ag sp.outs<|sp.f i) v->v=.bool true) (hp:AY.prim f=none:=by kernel_rfl):
  Calls prog f args' W fun e W'=>e=.returned (.bool true)/\Below W.heap.size W W':=by
 obtain⟨l,M,j,_,x⟩:=(ok.zero hp).run (FW W) (hW W) args i (fun b cs h=>by
  unfold FW at h;split at h
  case h_2=>cases h
  rename_i cs' t fz s;cases h;exact⟨t,fz,s⟩) (fun b o h=>(R_W W).lt h) c.h q d
 refine((HS (nM k) SH Nd M).fn f args (hW W) l (j M<|y8 _) (pW W) W args' (R_W W) c.p u).mono ?_;rintro e w' ⟨v,h',v',p',m,rfl,g,y⟩;obtain⟨_,_,_,F',_,_,_,hr⟩:=x _ m;obtain rfl:=a F' v hr;refine⟨?_,dR y⟩;simp only[Ae]at g;rw[g]
open Go.Sort (grow)
abbrev Abw:Srt:=⟨none⟩
theorem AbR:HY prog (@N9 Abw):=fun f q h=>by
 unfold N9 Abw at h;cases a:yh f 156 with
 |true=>rw[a]at h;cases h
 |false=>rw[a]at h;cases h
theorem grown_of{W W':World}(a:Below W.heap.size W W')(g:W.drawn<=W'.drawn):∃q os,W'=grow (W.drewN q) os:=by
 refine⟨W'.drawn-W.drawn,W'.heap.extract W.heap.size W'.heap.size,?_⟩;have l:=a.size;have e:W'.heap=W.heap++W'.heap.extract W.heap.size W'.heap.size:=by
  apply Array.ext_getElem?;intro k;by_cases h:k<W.heap.size
  ·rw[ye h];exact a.block k h
  ·rw[Array.getElem?_append_right ae,Array.getElem?_extract];by_cases i:k<W'.heap.size
   ·rw[wd ae,show W.heap.size+(k-W.heap.size)=k by omega]
   ·rw[wc ae,Array.getElem?_eq_none ae]
 have f:=a.os;have d:=a.tape;have c:=a.output;obtain⟨j,t1,m,o1,u1⟩:=W;obtain⟨i,t2,d2,o2,u2⟩:=W';simp only at f d c e g;subst f d c;unfold grow World.drewN;simp only[World.mk.injEq];exact⟨e,trivial,by omega,trivial,trivial⟩
theorem Zz{S:Srt}(k:HY prog (@N9 S)){f:FuncId}{sp:Am}(ok:Af (@AY S) f sp)(i:(By sp.ins).T)(d:sp.pre i=true){args:List V}{args':Array Value}{W:World}(c:GW W)(u:Lr (FW W) (Ag sp.ins i) args)
  (y:Ay (pW W) args args'.toList) {r:Value} (a:∀F' v,PC F' (one<|Ag sp.outs<|sp.f i) v->∀p v',Ae p v v'->v'=r) (hp:(@AY S).prim f=none):
  Calls prog f args' W fun e W'=>e=.returned r/\∃q os,W'=grow (W.drewN q) os:=by
 letI:=S
 obtain⟨l,M,j,_,z⟩:=(ok.zero hp).run (FW W) (hW W) args i (fun b cs h=>by
  unfold FW at h;split at h
  case h_2=>cases h
  rename_i cs' t fz x;cases h;exact⟨t,fz,x⟩) (fun b o h=>(R_W W).lt h) c.h u d
 refine((HS (nM k) SH Nd M).fn f args (hW W) l (j M<|y8 _) (pW W) W args' (R_W W) c.p y).mono ?_;rintro e w' ⟨v,h',v',p',m,rfl,s,g⟩;obtain⟨_,_,_,F',_,_,_,hr⟩:=z _ m;exact⟨by rw[a F' v hr p' v' s],grown_of (dR g) g.dr⟩
def F0(h:H)(b:Nat):Fz:=fun c=>bif yh c b then none else match h.get c with
 |some (.cells cs _ _)=>some cs
 |_=>none
theorem Adp{h:H}{b c:Nat}{cs:List V}(e:F0 h b c=some cs):c≠b/\∃t fz,h.get c=some (.cells cs t fz):=by
 unfold F0 at e;cases a:yh c b with
 |true=>rw[a]at e;cases e
 |false=>
  rw[a]at e;refine⟨(fun x=>by rw[x,Nat.beq_refl]at a;cases a),?_⟩;simp only[wg]at e;split at e
  ·next cs' t fz d=>cases e;exact⟨t,fz,d⟩
  ·cases e
def Sh.il:Sh->Bool
 | .int _=>true
 | .nlist (.int _)=>true
 | .pair a b=>a.il&&b.il
 |_=>false
section
variable {p:Pl}{h:H}{w W:World}{b r n:Nat}{o:O}
theorem later(hr:R p h w)(S:p[b]?=some (r,n))(X:h.get b=some o)(f:∀j,j<w.heap.size->j≠r->W.heap[j]?=w.heap[j]?)(M:w.heap.size<=W.heap.size):∀(s:Sh) (x:s.T) (ds:List V) (vs:List Value),s.il=true->DC (F0 h b) s x ds->Ay p ds vs->DC (FW W) s x (vs.map<|KP W.heap.size)
 | .int k,x,ds,vs,_,g,G=>by
  have g:ds=[.int k x]:=g;subst g;obtain⟨v,F,rfl,C,I⟩:=G;have I:F=[]:=I;have C:v=.int k x:=C;subst C I;rfl
 | .pair a c,x,ds,vs,Y,g,G=>by
  simp only[Sh.il,zc]at Y;simp only[DC]at g ⊢;obtain⟨u,z,rfl,d1,d2⟩:=g;have l:=G.length;rw[List.length_append]at l;have t1:Ay p u (vs.take u.length):=Ay.mk (by rw[z6];omega) fun i d v B A=>by
   have N:=(yk.1 B).1;rw[zi N]at A;obtain⟨v',K,E⟩:=G.get (i:=i) (d:=d) (by rw[List.getElem?_append_left N];exact B);rw[K]at A;cases A;exact E
  have t2:Ay p z (vs.drop u.length):=Ay.mk (by rw[qc];omega) fun i d v B A=>by
   rw[zu]at A;obtain⟨v',K,E⟩:=G.get (i:=u.length+i) (d:=d) (by rw[List.getElem?_append_right ae,Nat.add_sub_cancel_left];exact B);rw[K]at A;cases A;exact E
  exact⟨_,_,by rw[<-List.map_append,List.take_append_drop],later hr S X f M a x.1 _ _ Y.1 d1 t1,later hr S X f M c x.2 _ _ Y.2 d2 t2⟩
 | .nlist (.int k),(l:List Int),ds,vs,_,g,G=>by
  simp only[DC]at g ⊢;obtain⟨v,rfl,g⟩:=g;obtain⟨v',F,rfl,C,I⟩:=G;have I:F=[]:=I;subst I;refine⟨_,rfl,?_⟩;rcases g with⟨rfl,rfl⟩|⟨l0,b',off,cap,oo,Q,rfl,hc,hF,J,_,Z⟩
  ·have C:v'=.slice none 0 0:=C;subst C;exact .inl ⟨rfl,rfl⟩
  ·obtain⟨q,n',c,g1,rfl,g2,g3,_,_⟩:=C;obtain⟨nb,t,fz,hg⟩:=Adp hF;obtain⟨r'',n'',y,k1,k2,k3⟩:=hr.obj b' _ hg;rw[g1]at k1;cases k1;have ne:q≠r:=fun e=>nb<|hr.inj b' b _ _ _ _ _ hg X (e▸g1) S
   obtain⟨D,fz',rfl,q1,q2,q3,_⟩:=k3;have q4:D.toList.length=n':=by rw[zz];exact q1
   have lt:q<w.heap.size:=(zn.1 k2).1;have lp:0<l.length:=yy.2 l0;have U:(yc k).sz=1:=rfl;rw[U,Nat.mul_one]at J;have hw:W.heap[q]?=some (.cells D t fz'):=(f q lt ne).trans k2;have fw:FW W q=some (D.toList.map<|KP W.heap.size):=by
    unfold FW;rw[NW];unfold NX;rw[hw];simp only;rw[wc ae]
   have tv:KP W.heap.size (.slice (some ⟨q,off,none⟩) l.length c)=.sl q off l.length c 0:=by
    obtain⟨m,hm⟩:∃m,l.length=m+1:=⟨l.length-1,by omega⟩;rw[hm];show(if q<W.heap.size/\m+1<=c then V.sl q off (m+1) c 0 else V.junk)=_;rw[wd ⟨by omega,by omega⟩]
   refine .inr ⟨l0,q,off,c,0,_,tv,by omega,fw,by rw[U,Nat.mul_one,zo,q4];omega,.inl rfl,fun i N=>?_⟩;have B:=Z i N;rw[U,Nat.mul_one]at B ⊢;have B:(Q.drop<|off+i).take 1=[.int k l[i]]:=B;have A:Q[off+i]?=some (.int k l[i]):=by
    have:=wi (fun l=>l[0]?) B;simpa [List.getElem?_take,zu]using this
   have L:off+i<D.toList.length:=ae
   have K:(D.toList.take Q.length)[off+i]?=some D.toList[off+i]:=by
    rw[zi ae,zd L]
   have E:=q3.2 (off+i) _ _ A K rfl;have E:D.toList[off+i]=.int k l[i]:=E;show((D.toList.map<|KP W.heap.size).drop<|off+i).take 1=[.int k l[i]];rw[List.drop_eq_getElem_cons (by rw[zo];exact L),yi,E];rfl
end
end
section
open Go.Proofs.Tryz (prog)
open Go.Sort (grow putRow putCells pdq SWO)
open Go.Proofs (ltOf sortWorldK)
open Go.Sort (HoldsK flatK putRowK)
open Go.Sp (Ad)
abbrev ix(n x:Nat):Nat:=if x<n then x else 0
def SY(l:List Ad)(x:Nat):Ad:=l.getD (ix l.length x) ((0,[]),0,[])
def aE(l:List Ad)(x y:Nat):Int:=Sp.Dh (SY l x)<|SY l y
def DQ(l:List Ad):List Nat:=(pdq (ltOf<|aE l) (zp l.length) 0 l.length (yn l.length) true true).toList
def vQ(x:Ad):Prop:=∃X,RS 4000 x X
theorem Ii{l:List Ad}(h0:0<l.length)(h:∀x∈l,vQ x)(x:Nat):vQ (SY l x):=by
 have a:ix l.length x<l.length:=by unfold ix;split<;>omega
 have e:SY l x=l[ix l.length x]:=by
  unfold SY;rw[ze,zd a,zl]
 rw[e];exact h _<|zm a
theorem bV{l:List Ad}(h0:0<l.length)(h:∀x∈l,vQ x):SWO (ltOf<|aE l):=by
 have lt:∀x y X Y,RS 4000 (SY l x) X->RS 4000 (SY l y) Y->(ltOf (aE l) x y=true↔X<Y):=fun x y X Y c d=>by
  unfold ltOf aE;rw[w5];exact c.Uo d
 refine⟨fun x=>?_,fun x y z a b=>?_,fun x y z a b=>?_⟩
 ·obtain⟨X,c⟩:=Ii h0 h x;exact Bool.eq_false_iff.2 fun e=>Rat.lt_irrefl<|(lt x x X X c c).1 e
 ·obtain⟨X,c⟩:=Ii h0 h x;obtain⟨Y,d⟩:=Ii h0 h y;obtain⟨Z,hZ⟩:=Ii h0 h z;rw[lt x y X Y c d]at a;rw[lt y z Y Z d hZ]at b;rw[lt x z X Z c hZ];grind
 ·obtain⟨X,c⟩:=Ii h0 h x;obtain⟨Y,d⟩:=Ii h0 h y;obtain⟨Z,hZ⟩:=Ii h0 h z;have a:¬X<Y:=fun e=>by rw[(lt x y X Y c d).2 e]at a;cases a
  have b:¬Y<Z:=fun e=>by rw[(lt y z Y Z d hZ).2 e]at b;cases b
  refine Bool.eq_false_iff.2 fun e=>?_
  have e:=(lt x z X Z c hZ).1 e;grind
theorem GP{l:List Ad}(h0:0<l.length)(h:∀x∈l,vQ x):(DQ l).Perm (yr l.length)/\∀i j:Nat,i<j->j<l.length->¬Sp.Dh (SY l<|(DQ l).getD j 0) (SY l<|(DQ l).getD i 0)<0:=by
 obtain⟨⟨a1,_,a3⟩,b⟩:=Go.Sort.pdq_sorts (ltOf<|aE l) (bV h0 h) (zp l.length) 0 l.length (yn l.length) true true (qh _) (by simp) (Or.inl rfl);have sz:(pdq (ltOf<|aE l) (zp l.length) 0 l.length (yn l.length) true true).size=l.length:=by rw[a1];simp
 refine⟨?_,fun i j c d=>?_⟩
 ·have e:∀a:Array Nat,a.size=l.length->(a.extract 0 l.length).toList=a.toList:=fun a f=>by
   rw[<-f];simp
  rw[e _ sz,e _<|by simp]at a3;unfold DQ;simpa using a3
 ·have:=b i j (qh _) c d;unfold ltOf aE at this;have g:∀k,k<l.length->(DQ l).getD k 0=(pdq (ltOf<|aE l) (zp l.length) 0 l.length (yn l.length) true true)[k]! :=fun k m=>by
   unfold DQ;rw[ze,yd,getElem!_pos _ k ae,ym ae];rfl
  rw[g j d,g i ae];exact w7 this
def HW(cs:List V)(ks:List Nat):List V:=(yr<|ks.length*4).map fun t=>cs.getD (ks.getD (t/4) 0*4+t % 4) .nils
structure qZ(h:H)(b n:Nat)(cs:List V)(fz:Nat×Nat)(l:List Ad):Prop where
 n:l.length=n
 n0:0<l.length
 n1:l.length<=1000000
 d:DN (F0 h b) An l cs
 ok:∀x∈l,vQ x
 fz:fz.2<=fz.1
 gh:Gh h
open Classical in
def Nx:List V->H->Option (V×H)
 |[.sl b 0 n _ _,.fn (.func 73) [] []],h=>match h.get b with
  |some (.cells cs t fz)=>if hx:∃l,qZ h b n cs fz l then some (.tup [],h.put b<|.cells (HW cs<|DQ hx.choose) t fz)else none
  |_=>none
 |_,_=>none
instance srt1:Srt:=⟨some Nx⟩
theorem Su:(FI.all fun x=>match x.2 with| .cells cs _ fz=>(cs.all fun c=>match c with| .int _ _=>true|_=>false)&&(yh fz.1 0&&yh fz.2 cs.length)&&Nat.blt 0 cs.length|_=>false)=true:=by kernel_rfl
section
variable {p:Pl}{h:H}{w W:World}{b r n:Nat}{o:O}
theorem nH(hr:R p h w)(s:Gp p)(l:Gh h)(F:p[b]?=some (r,n))(G:h.get b=some o)(u:∀x∈FI,x.1≠b)(a:∀j,j<w.heap.size->j≠r->W.heap[j]?=w.heap[j]?):GW W:=fun x g=>by
 have C:=l x g;have E:=s x g;obtain⟨S,n',y,B,D,K⟩:=hr.obj x.1 _ C;rw[E]at B;cases B;have M:x.1≠r:=fun e=>u x g (hr.inj x.1 b _ _ r _ _ C G (by rw[E,e]) F)
 have lt:x.1<w.heap.size:=(zn.1 D).1;have q:=zg.1 Su x g;obtain⟨i,ob⟩:=x;cases ob with
 |cells cs t fz=>
  simp only[zc]at q;obtain⟨⟨q1,f,d⟩,A⟩:=q;have f:=zx f;have d:=zx d;have A:0<cs.length:=Nat.le_of_ble_eq_true A;obtain⟨ca,fz',rfl,s1,s2,s3,_⟩:=K;have s1:ca.size=cs.length:=s1;unfold NX;rw[a _ lt M,D];simp only;rw[wc ae];have e:ca.toList.map (KP W.heap.size)=cs:=by
   refine yt (by rw[zo,zz,s1]) fun j J v=>?_
   have L:j<ca.toList.length:=by simpa using J
   have c:=zg.1 q1 cs[j]<|zm v;rw[yi];have I:(ca.toList.take cs.length)[j]?=some ca.toList[j]:=by rw[zi v,zd L]
   cases z:cs[j]with
   |int k m=>
    have:=s3.2 j _ _ (by rw[zd v,z]) I rfl;have this:ca.toList[j]=.int k m:=this;rw[this];rfl
   |_=>rw[z]at c;cases c
  rw[e,s1];obtain⟨N,Q⟩:=fz;simp only at f d;rw[f,d]
 |_=>cases q
end
end
section
open Go.Proofs.Tryz (prog)
open Go.Sort (grow putRow putCells pdq SWO)
open Go.Proofs (ltOf sortWorldK CmpLays)
open Go.Sort (HoldsK flatK putRowK)
open Go.Sp (Ad)
def fl1:V->Bool
 | .agg _| .tup _=>false
 |_=>true
theorem fL{p:Pl}:∀ {d:V} {v:Value},Ae p d v->fl1 d=true->v.oneCell'=true
 | .bool _,_,h,_=>by simp only[Ae]at h;subst h;rfl
 | .int _ _,_,h,_=>by simp only[Ae]at h;subst h;rfl
 | .str _,_,h,_=>by simp only[Ae]at h;subst h;rfl
 | .nilp,_,h,_=>by simp only[Ae]at h;subst h;rfl
 | .ptr _ _,_,h,_=>by simp only[Ae]at h;obtain⟨_,_,_,rfl⟩:=h;rfl
 | .nils,_,h,_=>by simp only[Ae]at h;subst h;rfl
 | .sl _ _ _ _ _,_,h,_=>by simp only[Ae]at h;obtain⟨_,_,_,_,rfl,_⟩:=h;rfl
 | .esl,_,h,_=>by simp only[Ae]at h;obtain⟨_,_,rfl⟩:=h;rfl
 | .es0,_,h,_=>by simp only[Ae]at h;obtain⟨_,rfl⟩:=h;rfl
 | .junk,_,h,_=>by simp only[Ae]at h
 | .nilm,_,h,_=>by simp only[Ae]at h;subst h;rfl
 | .map _,_,h,_=>by simp only[Ae]at h;obtain⟨_,_,_,rfl⟩:=h;rfl
 | .fn _ _ _,_,h,_=>by simp only[Ae]at h;obtain⟨_,_,rfl,_⟩:=h;rfl
 | .yld _,_,h,_=>by simp only[Ae]at h;obtain⟨_,_,_,rfl⟩:=h;rfl
 | .nilf,_,h,_=>by simp only[Ae]at h;subst h;rfl
 | .iface _ _,_,h,_=>by simp only[Ae]at h;obtain⟨_,rfl,_⟩:=h;rfl
 | .nili,_,h,_=>by simp only[Ae]at h;subst h;rfl
theorem Rl{F:Fz}:∀(s:Sh) (x:s.T) (ds:List V),s.il=true->DC F s x ds->∀d∈ds,fl1 d=true
 | .int k,x,ds,_,e=>by
  have e:ds=[.int k x]:=e;subst e;intro d h;rw[List.mem_singleton.1 h];rfl
 | .pair a c,x,ds,f,e=>by
  simp only[Sh.il,zc]at f;simp only[DC]at e;obtain⟨u,z,rfl,i,g⟩:=e;intro d h;rcases List.mem_append.1 h with h|h
  ·exact Rl a x.1 u f.1 i d h
  ·exact Rl c x.2 z f.2 g d h
 | .nlist (.int k),l,ds,_,e=>by
  simp only[DC]at e;obtain⟨v,rfl,e⟩:=e;intro d h;rw[List.mem_singleton.1 h];rcases e with⟨_,rfl⟩|⟨_,b',off,cap,m,j,rfl,_⟩<;>rfl
def GX(a:Array Value)(n x:Nat):List Value:=(a.toList.drop<|ix n x*4).take 4
theorem Te{w:World}{r off:Nat}{d:Array Value}{c:Array Value}{t:TypeId}{fz:Nat×Nat}(h:w.heap[r]?=some (.cells c t fz)):(putRow id w r off d).heap=w.heap.setIfInBounds r (.cells (putCells id off d c) t fz):=by
 apply Array.ext_getElem?;intro k;show(w.heap.modify r _)[k]?=_;rw[Array.getElem?_modify,yx];by_cases e:r=k
 ·subst e;have a:r<w.heap.size:=(zn.1 h).1;rw[wd rfl,wd rfl,wd a,h];rfl
 ·rw[wc e,wc e]
theorem DG(off:Nat)(d c:Array Value)(i:Nat):(putCells id off d c)[i]?=c[i]?.map fun x=>if off<=i/\i<off+d.size then d[i-off]! else x:=by
 unfold putCells;rw[Array.getElem?_mapIdx];rfl
theorem qM{F:Fz}{x:Ad}{ds:List V}(h:DC F An x ds):∃a b,ds[1]?=some a/\(a=.nils\/∃b' off len cap o,a=.sl b' off len cap o)/\b=a:=by
 simp only[DC]at h;obtain⟨u,z,rfl,⟨u1,u2,rfl,c,v,d,e⟩,_⟩:=h;have c:u1=[.int .i64 x.1.1]:=c;subst c d;refine⟨v,v,rfl,?_,rfl⟩;rcases e with⟨_,rfl⟩|⟨_,b',off,cap,g,f,rfl,_⟩
 ·exact .inl rfl
 ·exact .inr ⟨_,_,_,_,_,rfl⟩
theorem AaJ:HY prog N9:=by
 intro f q hq p h w args args' v h' hr hgp ha K;unfold N9 srt1 at hq;cases hf:yh f 156 with
 |false=>rw[hf]at hq;cases hq
 |true=>
  rw[hf]at hq;cases hq;cases zx hf;unfold Nx at K;split at K
  case h_2=>cases K
  rename_i b n c o;split at K
  case h_2=>cases K
  rename_i cs t fz hg;split at K
  case isFalse=>cases K
  rename_i hx;have G:=hx.choose_spec;generalize hx.choose=l at*;cases K;obtain⟨Gn,n0,n1,Gd,I,Gfz,Ggh⟩:=G;subst Gn;obtain⟨x,y,hl,g1,g2⟩:=ha.two;have:args'= #[x,y]:=qd.1 hl;subst this;simp only[Ae]at g1 g2;obtain⟨r,m,cp,k1,rfl,_,_,_,_⟩:=g1;obtain⟨u,z,rfl,u1,z1⟩:=g2;have u1:u= #[]:=qd.1 (by simpa using u1);have z1:z= #[]:=qd.1 (by simpa using z1);subst u1 z1;obtain⟨r',m',ob,j1,j2,j3⟩:=hr.obj b _ hg;rw[k1]at j1;cases j1;obtain⟨ca,fz',rfl,s1,s2,s3,s4⟩:=j3;have hcl:cs.length=l.length*4:=Gd.1;have cal:ca.toList.length=m:=by rw[zz];exact s1
  have C:∀x,ix l.length x<l.length:=fun x=>by unfold ix;split<;>omega
  have Q:∀x,(GX ca l.length x).length=4:=fun x=>by
   have:=C x;unfold GX;rw[z6,qc];omega
  have R:∀j,j<cs.length->∃A:j<ca.toList.length,(cs.getD j .nils).ok=true->Ae p (cs.getD j .nils) ca.toList[j]:=fun j A=>by
   have U:j<ca.toList.length:=ae
   refine⟨U,fun F=>?_⟩;have g:cs[j]?=some (cs.getD j .nils):=by rw[ze,zd A];rfl
   exact s3.2 j _ _ g (by rw[zi A,zd U]) F
  have eD:∀x,DC (F0 h b) An (SY l x) ((cs.drop<|ix l.length x*4).take 4):=fun x=>by
   have:=Gd.2 (ix l.length x)<|C x;unfold SY;rw[ze,zd<|C x,zl];exact this
  have eR:∀x,Ay p ((cs.drop<|ix l.length x*4).take 4) (GX ca l.length x):=fun x=>by
   have T:=C x;refine Ay.mk (by rw[Q,z6,qc];omega) fun i d v g s=>?_
   have i4:i<4:=by
    have:=(yk.1 s).1;rw[Q]at this;exact this
   have ok:=DC.ok (eD x) d<|yw g;rw[zi i4,zu]at g;unfold GX at s;rw[zi i4,zu]at s;obtain⟨A,c1⟩:=R (ix l.length x*4+i) ae;have e3:cs.getD (ix l.length x*4+i) .nils=d:=by rw[ze,g];rfl
   rw[zd A]at s;cases s;rw[e3]at c1;exact c1 ok
  have h1:∀x,∀v∈GX ca l.length x,v.oneCell'=true:=fun x v hv=>by
   obtain⟨i,T,rfl⟩:=List.getElem_of_mem hv;have hl:=(eR x).length;have Z:i<((cs.drop<|ix l.length x*4).take 4).length:=ae
   obtain⟨v',g,s⟩:=(eR x).get<|zd Z;rw[zd T]at g;cases g;exact fL s<|Rl An _ _ rfl (eD x) _ (zm Z)
  have rl:r<w.heap.size:=(zn.1 j2).1;have gne:∀x∈FI,x.1≠b:=fun x hx e=>by
   have a1:=Ggh x hx;rw[e,hg]at a1;have q:=zg.1 Su x hx;rw[<-Option.some.inj a1]at q;simp only[zc]at q;obtain⟨a,b',f1,f2,_⟩:=qM<|eD 0;have e0:ix l.length 0=0:=by unfold ix;split<;>rfl
   rw[e0,Nat.zero_mul,List.drop_zero,zi af]at f1;have:=zg.1 q.1.1 a<|yw f1;rcases f2 with rfl|⟨_,_,_,_,_,rfl⟩<;>cases this
  have flat:∀(D:Array Nat) (j:Nat),j<D.size*4->(flatK (GX ca l.length) 4 D)[j]! =ca.toList.getD (ix l.length (D[j/4]!)*4+j % 4) default:=fun(D:Array Nat) j A=>by
   rw[Go.Sort.get_flatK _ _ _ j A];have h4:j % 4<(GX ca l.length<|D[j/4]!).length:=by rw[Q];exact Nat.mod_lt _ af
   rw[getElem!_pos (GX ca l.length<|D[j/4]!) (j % 4) h4];have h5:ix l.length (D[j/4]!)*4+j % 4<ca.toList.length:=by
    have:=C<|D[j/4]!;omega
   rw[ze,zd h5,zl];simp only[GX,List.getElem_take,List.getElem_drop]
  have hH:HoldsK (GX ca l.length) 4 w r 0 (zp l.length):=by
   intro j A;rw[Go.Sort.size_flatK,yj]at A;have g:ix l.length ((zp l.length)[j/4]!)=j/4:=by
    have:j/4<l.length:=ae
    rw[getElem!_pos _ _ (by rw[yj];exact this),Array.getElem_range];unfold ix;rw[wd this]
   have h5:j<ca.toList.length:=ae
   rw[flat _ j (by rw[yj];exact A),g,show j/4*4+j % 4=j by omega,ze,zd h5,zl];refine⟨?_,?_⟩
   ·unfold y7;rw[j2];show ca[0+j]?=some _;rw[Nat.zero_add, <-yd,zd h5];rfl
   ·unfold World.frozen?;rw[j2];obtain⟨lo,T⟩:=fz';show(decide (lo<=0+j)&&decide (0+j<T))=false;rw[Bool.and_eq_false_iff,w9,w9];by_cases g:lo<=0+j
    ·refine .inr fun s=>?_
     have:=s4 (0+j) ae g s;omega
    ·exact .inl g
  have hcmp:CmpLays prog 73 #[] (GX ca l.length) 4 (aE l) r 0 (zp l.length).size w:=by
   intro B os V _ x y;have E:∀j,j<w.heap.size->j≠r->(sortWorldK (GX ca l.length) 4 w r 0 B V os).heap[j]?=w.heap[j]?:=fun j h1 h2=>by
    show((putRow id (yb w B) r 0 _).heap++os)[j]?=_;have sz:(putRow id (yb w B) r 0<|flatK (GX ca l.length) 4 V).heap.size=w.heap.size:=Go.Sort.size_putRow ..;rw[ye (by rw[sz];exact h1),Te (w:=yb w B) j2,yx,wc<|fun e=>h2 e.symm];rfl
   have hsz:w.heap.size<=(sortWorldK (GX ca l.length) 4 w r 0 B V os).heap.size:=by
    show _<=((putRow id (yb w B) r 0 _).heap++os).size;have sz:(putRow id (yb w B) r 0<|flatK (GX ca l.length) 4 V).heap.size=w.heap.size:=Go.Sort.size_putRow ..;rw[Array.size_append,sz];omega
   generalize sortWorldK (GX ca l.length) 4 w r 0 B V os=W at*;have L:=fun x=>later hr k1 hg E hsz An (SY l x) _ _ rfl (eD x) (eR x)
   have VV:∀x,Ay (pW W) ((GX ca l.length x).map<|KP W.heap.size) (GX ca l.length x):=fun x=>Ay.mk (by rw[zo]) fun i d v g s=>by
    have ok:=DC.ok (L x) d<|yw g;rw[yp,s]at g;cases g;exact Mu ok
   obtain⟨X,hX⟩:=Ii n0 I x;obtain⟨Y,hY⟩:=Ii n0 I y;refine Zz (S:=Abw) AbR (@T73.ok Abw) (SY l x,SY l y) (Ab (hX.CA af)<|hY.CA af) (args:=[.agg _,.agg _]) (nH hr hgp Ggh k1 hg gne E) (Lr.cons ((PC.Ce<|L x).1 rfl)<|Lr.cons ((PC.Ce<|L y).1 rfl)<|fun ρ N=>by simp only[BT]) ?_ ?_ ag
   ·show Ay (pW W) _ [.agg _,.agg _];rw[Bm,Bm];exact⟨by simp only[Ae];exact⟨_,rfl,VV x⟩,by simp only[Ae];exact⟨_,rfl,VV y⟩,by simp⟩
   ·intro F' v hv p' v' hr';have hv:=hv (fun _=>none) 0;obtain rfl:=CX hv;simp only[Ae]at hr';exact hr'
  have J:=Go.Proofs.AnyQ.slices_SortFunc_eq (P:=prog) Ahc 4 (fun w=>Go.Proofs.Tryz.isAgg117 w) (fun w=>Go.Proofs.Tryz.sizeOf117 w) (GX ca l.length) Q h1 (aE l) (bV n0 I) 73 #[] r 0 cp (zp l.length) w (Go.Proofs.enters_of Go.Proofs.Tryz.func73 ag rfl) hcmp hH rl (by rw[yj];omega);rw[yj]at J;refine J.mono ?_;rintro e w' ⟨rfl,B,os,rfl⟩;have pf:=GP n0 I;have il:(DQ l).length=l.length:=by rw[pf.1.length_eq,zq]
  have im:∀k,k<l.length->(DQ l).getD k 0<l.length:=fun k Q=>by
   rw[ze,zd ae,zl];exact qg.1<|pf.1.mem_iff.1<|zm _
  have ig:∀k,k<l.length->(pdq (ltOf<|aE l) (zp l.length) 0 l.length (yn l.length) true true)[k]! =(DQ l).getD k 0:=fun k Q=>by
   have:k<(pdq (ltOf<|aE l) (zp l.length) 0 l.length (yn l.length) true true).size:=by
    rw[<-zz];show k<(DQ l).length;omega
   unfold DQ;rw[ze,yd,getElem!_pos _ k this,ym this];rfl
  have ds:(pdq (ltOf<|aE l) (zp l.length) 0 l.length (yn l.length) true true).size=l.length:=by
   rw[<-zz];exact il
  generalize hD:pdq (ltOf<|aE l) (zp l.length) 0 l.length (yn l.length) true true=D at*;have M:Ext p h w p (h.put b<|.cells (HW cs<|DQ l) t fz) (putRow id (yb w B) r 0<|flatK (GX ca l.length) 4 D):=by
   have pl:(HW cs<|DQ l).length=l.length*4:=by unfold HW;rw[zo,zq,il]
   refine Ext.put hr hg k1 (x':=.cells (putCells id 0 (flatK (GX ca l.length) 4 D) ca) t fz') ?_ (Te (w:=yb w B) j2) rfl rfl rfl ?_ (by show w.drawn<=w.drawn+B;omega)
   ·refine⟨_,fz',rfl,by simp[putCells,s1],by rw[pl];omega,⟨?_,?_⟩,s4⟩
    ·have:(putCells id 0 (flatK (GX ca l.length) 4 D) ca).toList.length=m:=by simp[putCells,s1]
     rw[z6,pl,this];omega
    ·intro i d v g s F;have T:i<l.length*4:=by
      have:=(yk.1 g).1;rw[pl]at this;exact this
     have i4:i/4<l.length:=ae
     have hix:(DQ l).getD (i/4) 0*4+i % 4<cs.length:=by
      have:=im (i/4) i4;omega
     have g:d=cs.getD ((DQ l).getD (i/4) 0*4+i % 4) .nils:=by
      unfold HW at g;rw[yp,List.getElem?_range<|by rw[il];exact T]at g;exact(Option.some.inj g).symm
     rw[zi (by rw[pl];exact T),yd,DG]at s;have hic:i<ca.size:=ae
     rw[ym hic]at s;simp only[Option.map_some,Option.some.injEq]at s;rw[wd ⟨qh _,by rw[Go.Sort.size_flatK,ds];omega⟩,Nat.sub_zero,flat D i (by rw[ds];exact T),ig _ i4]at s;have e5:ix l.length ((DQ l).getD (i/4) 0)=(DQ l).getD (i/4) 0:=by
      unfold ix;rw[wd<|im _ i4]
     rw[e5]at s;obtain⟨A,c1⟩:=R _ hix;rw[ze,zd A,zl]at s;rw[<-s,g];rw[g]at F;exact c1 F
   ·intro cs2 t2 fz2 he Q;cases he;unfold Lk at Q;omega
  refine⟨_,p,rfl,by simp[Ae],M.trans<|NM M.rel ⟨rfl,rfl,rfl,?_,fun j A=>?_⟩<|y8 _⟩
  ·show _<=((putRow _ _ _ _ _).heap++os).size;rw[Array.size_append];exact Nat.le_add_right ..
  ·show((putRow _ _ _ _ _).heap++os)[j]?=_;exact ye A
end
end Go.Pe
namespace Go.Sp
def Ex(l:List Ad):List Ad:=(Go.Pe.DQ l).map<|Go.Pe.SY l
def Sa(l:List Ad):Bool:=@decide (l≠[]/\l.length<=1000000/\∀x∈l,Go.Pe.vQ x) (zf _)
theorem Vg{l:List Ad}(h:Sa l=true):l≠[]/\l.length<=1000000/\∀x∈l,Go.Pe.vQ x:=@w6 _ (zf _) h
theorem Aa9{l:List Ad}(h:l≠[]/\l.length<=1000000/\∀x∈l,Go.Pe.vQ x):Sa l=true:=@w4 _ (zf _) h
end Go.Sp
namespace Go.Pe
open Sp
open Go.Det
section
open Go.Sp (Ad)
def fnB:Option Fn->Bool
 |some (.func g)=>yh g 73
 |_=>false
def Uq:LL:=⟨[.fnv],117,An,fun i l=>fnB i&&Sa l,fun _ l=>Ex l,true⟩
theorem PZ{l:List Ad}(h:Sa l=true):(Ex l).length=l.length:=by
 obtain⟨h0,_,a⟩:=Vg h;unfold Ex;rw[zo,(GP (yy.2 h0) a).1.length_eq,zq]
theorem Uy{F:Fz}:∀(s:Sh) (x y:s.T) (cs:List V),s.il=true->DC F s x cs->DC F s y cs->x=y
 | .int k,x,y,cs,_,f,d=>by
  have f:cs=[.int k x]:=f;have d:cs=[.int k y]:=d;rw[f]at d;cases d;rfl
 | .pair a c,x,y,cs,l,f,d=>by
  simp only[Sh.il,zc]at l;simp only[DC]at f d;obtain⟨u,z,rfl,C,K⟩:=f;obtain⟨u',z',e,f1,f2⟩:=d;obtain⟨rfl,rfl⟩:=List.append_inj e (by rw[C.len,f1.len]);exact Prod.ext (Uy a x.1 y.1 u l.1 C f1)<|Uy c x.2 y.2 z l.2 K f2
 | .nlist (.int k),(x:List Int),(y:List Int),cs,_,f,d=>by
  simp only[DC]at f d;obtain⟨v,rfl,f⟩:=f;obtain⟨v',e,d⟩:=d;cases e;rcases f with⟨rfl,rfl⟩|⟨l0,b',off,cap,L,E,rfl,R,M,A,_,q⟩
  ·rcases d with⟨rfl,_⟩|⟨_,b',off,cap,L,E,e,_⟩
   ·rfl
   ·cases e
  ·rcases d with⟨_,e⟩|⟨S,Q,t,B,I,G,e,J,j,m,_,g⟩
   ·cases e
   ·simp only[V.sl.injEq]at e;obtain⟨rfl,rfl,D,rfl,rfl⟩:=e;rw[M]at j;cases j;refine yt D fun i N i2=>?_
    have a:=q i N;have b:=g i i2;rw[a]at b;simpa using b
theorem pK{F:Fz}{a b:List Ad}{cs:List V}(h:DN F An a cs)(k:DN F An b cs):a=b:=by
 have l:a.length=b.length:=by
  have:=h.1.symm.trans k.1;have e:An.sz=4:=rfl;rw[e]at this;omega
 exact yt l fun i c i2=>Uy An _ _ _ rfl (h.2 i c) (k.2 i i2)
theorem fN:Gi AY 156 Uq where
 prim:=by kernel_rfl
 fn:=Bd ag
 len:=fun i (l:List Ad) h=>by
  have h:(fnB i&&Sa l)=true:=h;rw[zc]at h;exact PZ h.2
 run:=by
  intro F h args (i:Option Fn) (l:List Ad) b cs fz o K A C f a I hd hfz hFb ho;have a:(fnB i&&Sa l)=true:=a;rw[zc]at a;obtain⟨q,u⟩:=a;obtain rfl:i=some (.func 73):=by
   unfold fnB at q;split at q
   ·next g=>rw[zx q]
   ·cases q
  have Y:args=[.fn (.func 73) [] []]:=by
   have:=f (fun _=>none) 0;simp only[Ag,Uq,BT]at this;obtain⟨v,vs,rfl,D,rfl⟩:=this;have D:v=.fn (.func 73) [] []:=by simpa [PR,Ce,DC]using D
   rw[D]
  subst Y;have E:=Vg u;obtain⟨h0,D,R⟩:=E;have n0:=yy.2 h0;have L:∀c B,F c=some B->F0 h b c=some B:=fun c B s=>by
   obtain⟨t,z,e⟩:=K c B s;unfold F0;cases T:yh c b with
   |true=>rw[zx T,hFb]at s;cases s
   |false=>simp only[wg,e]
  have X:cs.length=l.length*4:=hd.1;have G:qZ h b l.length cs fz l:=⟨rfl,n0,D,⟨hd.1,fun i q=>(hd.2 i q).mono L⟩,R,hfz,C⟩;have Q:=GP n0 R;have il:(DQ l).length=l.length:=by rw[Q.1.length_eq,zq]
  have im:∀k,k<l.length->(DQ l).getD k 0<l.length:=fun k hk=>by
   rw[ze,zd ae,zl];exact qg.1<|Q.1.mem_iff.1<|zm _
  have I:h.get b=some (.cells cs 117 fz):=I;have run:Nx [.sl b 0 l.length l.length o,.fn (.func 73) [] []] h=some (.tup [],h.put b<|.cells (HW cs<|DQ l) 117 fz):=by
   unfold Nx;simp only[I];have S:∃l',qZ h b l.length cs fz l':=⟨l,G⟩;rw[dif_pos S,pK S.choose_spec.d G.d]
  have pl:(HW cs<|DQ l).length=l.length*4:=by unfold HW;rw[zo,zq,il]
  have nd:DN F An (Ex l) (HW cs<|DQ l):=by
   refine⟨by rw[pl,PZ u];rfl,fun i q=>?_⟩;have q:i<l.length:=by rw[<-PZ u];exact q
   have k:=im i q;have Z:(Ex l)[i]=l[(DQ l).getD i 0]:=by
    have e:(DQ l)[i]'ae=(DQ l).getD i 0:=by rw[ze,zd ae];rfl
    simp only[Ex,yi];rw[e];unfold SY ix;rw[wd k,ze,zd k,zl]
   have V:((HW cs<|DQ l).drop<|i*4).take 4=(cs.drop<|(DQ l).getD i 0*4).take 4:=by
    refine List.ext_getElem? fun j=>?_
    by_cases N:j<4
    ·rw[zi N,zi N,zu,zu];unfold HW;rw[yp,List.getElem?_range (by rw[il];omega),Option.map_some,show(i*4+j)/4=i by omega,show(i*4+j) % 4=j by omega,ze (l:=cs),zd ae];rfl
    ·rw[List.getElem?_eq_none (by rw[z6];omega),List.getElem?_eq_none<|by rw[z6];omega]
   show DC F An (Ex l)[i]<|((HW cs<|DQ l).drop<|i*4).take 4;rw[Z,V];exact hd.2 _ k
  refine⟨(.tup [],h.put b<|.cells (HW cs<|DQ l) 117 fz),1,fun m hm=>?_,rfl,y8 _,fun c _ s=>?_,fun c y J=>?_,F,fun _ _ h=>h,fun _ _ h=>.inl h,fun c B s=>?_,_,fz,?_,nd,hfz⟩
  ·obtain⟨M,rfl⟩:∃M,m=M+1:=⟨m-1,by omega⟩;have U:AY.spec 156=some Nx:=rfl;rw[Bh];simp only[U];show(match Nx [.sl b 0 l.length l.length o,.fn (.func 73) [] []] h with|some x=>some [x]|none=>none)=_;rw[run]
  ·rw[H.Cf,wc s]
  ·rw[H.Cf]at J;rw[H.Ad1];split at J
   ·next e=>rw[e];exact A _ _ I
   ·exact A _ _ J
  ·rw[H.Cf];by_cases e:c=b
   ·subst e;rw[hFb]at s;cases s
   ·rw[wc e];exact K c B s
  ·rw[H.Cf,wd rfl];rfl
 nils:=by
  intro F h args i K A C f a;have a:(fnB i&&Sa [])=true:=a;rw[zc]at a;exact wh rfl (Vg a.2).1
end
end Go.Pe
namespace Go.Sp
def hI(p h n r:Rat):Rat:=if p<=h+r then p*h/(h+r)else h+(p-(h+r))*n/(n+r)
abbrev Bq:=Bf×Bf×Bf×List AW×List AW
abbrev Ey:=Bf×Int
abbrev Bs:=Bf×Bf×Bf×Bf×List Ey
abbrev B7:=Bf×List Int
abbrev AF:=List Bs×List B7×List Bq
def BO(a:Bf)(lo c:Int):Int:=if Ap a≠0 then Ap a else if Ao a<(lo:Rat)\/(c:Rat)<Ao a then 3 else 0
def dT(seen:List Bf):List AW->Int
 |[]=>0
 |w::l=>if isName w.1=false then 8 else if has seen w.1=true then 9 else if Ap w.2≠0 then Ap w.2 else if Ao w.2<0 then 3 else dT (w.1::seen) l
def OQ(l:List AW):Int:=if 16<l.length then 5 else dT [] l
def Tv:Option Bf->List AW->Int
 |_,[]=>0
 |none,p::l=>Tv (some p.2) l
 |some y,p::l=>if Eu p.2 y<0 then 11 else Tv (some p.2) l
def Mr(l:Bq):Int:=first [Cb (!isName l.1) 8,BO l.2.1 1 10000,BO l.2.2.1 1 10000,BL l.2.2.2.1]
def Ke(l:Bq):Int:=if Mr l≠0 then Mr l else if Tv none l.2.2.2.1≠0 then Tv none l.2.2.2.1 else OQ l.2.2.2.2
def jQ:List Ey->Int
 |[]=>0
 |o::l=>if isName o.1=false then 8 else if o.2<0\/10<o.2 then 3 else jQ l
def Ua(s:Bs):Int:=first [BO s.1 (-10000) 10000,BO s.2.1 (-10000) 10000,BO s.2.2.1 0 10000,BO s.2.2.2.1 0 10000,Cb (decide (16<s.2.2.2.2.length)) 5]
def LC(s:Bs):Int:=if Ua s≠0 then Ua s else jQ s.2.2.2.2
def Jn:List Bs->Int
 |[]=>0
 |s::l=>if LC s≠0 then LC s else Jn l
def Ew(l:List Int):Bool:=l.any fun n=>decide (n<1)||decide (10000<n)
def F9(n:Int)(seen:List Bf):List B7->Int
 |[]=>0
 |t::l=>if isName t.1=false then 8 else if has seen t.1=true then 9 else if (t.2.length:Int)≠n then 2 else if Ew t.2=true then 3 else F9 n (t.1::seen) l
def MQ(seen:List Bf):List Bq->Int
 |[]=>0
 |l::r=>if Ke l≠0 then Ke l else if has seen l.1=true then 9 else MQ (l.1::seen) r
def OE(c:AF):Int:=if c.2.2=[]then 12 else if 8<c.2.2.length then 5 else MQ [] c.2.2
def US(c:AF):Int:=if c.2.1=[]then 12 else if 8<c.2.1.length then 5 else if F9 (c.1.length:Int) [] c.2.1≠0 then F9 (c.1.length:Int) [] c.2.1 else OE c
def N6(c:AF):Int:=if c.1=[]then 12 else if 36<c.1.length then 5 else if Jn c.1≠0 then Jn c.1 else US c
def HB(l:List AW)(n m:Nat):Bool:=l.all fun p=>decide (p.1.length<=n)&&decide (p.2.length<=m)
def Bk(l:Bq):Bool:=decide (l.1.length<=40)&&decide (l.2.1.length<=20)&&decide (l.2.2.1.length<=20)&&decide (l.2.2.2.1.length<=70)&&decide (l.2.2.2.2.length<=20)&&HB l.2.2.2.1 20 20&&HB l.2.2.2.2 40 20
def Bw(s:Bs):Bool:=decide (s.1.length<=20)&&decide (s.2.1.length<=20)&&decide (s.2.2.1.length<=20)&&decide (s.2.2.2.1.length<=20)&&decide (s.2.2.2.2.length<=20)
def CY(t:B7):Bool:=decide (t.1.length<=40)&&decide (t.2.length<=40)
def Ki(c:AF):Bool:=decide (c.1.length<=38)&&decide (c.2.1.length<=10)&&decide (c.2.2.length<=10)&&c.1.all Bw&&c.2.1.all CY&&c.2.2.all Bk
def Mk(l:Bq):Bool:=decide (l.2.1.length<=20)&&decide (l.2.2.1.length<=20)&&decide (l.2.2.2.1.length<=70)&&HB l.2.2.2.1 20 20&&l.2.2.2.2.all fun p=>decide (p.2.length<=20)
def Ve(t:B7):Bool:=decide (t.2.length<=4611686018427387904)
def aV(c:AF):Bool:=decide (c.1.length<=38)&&decide (c.2.1.length<=10)&&decide (c.2.2.length<=10)&&c.1.all Bw&&c.2.1.all Ve&&c.2.2.all Mk
def BE(c:AF)(h:Int):Bs:=c.1.getD h.toNat ([],[],[],[],[])
def Hq(c:AF)(t h:Int):Int:=(c.2.1.getD t.toNat ([],[])).2.getD h.toNat 0
def CU(c:AF)(l:Int):Bq:=c.2.2.getD l.toNat ([],[],[],[],[])
def Jg(i n:Int):Bool:=decide (i<0)||decide (n<=i)
def Jq(c:AF)(b:Bool):Int:=if N6 c≠0 then N6 c else if b=true then 10 else 0
def WV(c:AF)(t:Int):Bool:=Jg t (c.2.1.length:Int)
def XU(c:AF)(h:Int):Bool:=Jg h (c.1.length:Int)
def R5(c:AF)(l:Int):Bool:=Jg l (c.2.2.length:Int)
def AiW(c:AF)(t h:Int):Int:=Jq c<|WV c t||XU c h
def AfL(c:AF)(t h l:Int):Int:=Jq c<|WV c t||(XU c h||R5 c l)
def AfT(c:AF)(h l:Int):Int:=Jq c<|XU c h||R5 c l
def plV(s:Bs)(n:Int):Rat:=let p:=(n:Rat)+(Ao s.1+Ao s.2.1+Ao s.2.2.1);if p<0 then 0 else p
def Mp(c:AF)(t h:Int):Rat:=plV (BE c h)<|Hq c t h
def Si(c:AF)(t h l:Int):Rat:=hI (Mp c t h) (Ao (CU c l).2.1) (Ao (CU c l).2.2.1)<|Ao (BE c h).2.2.2.1
def lookW:List AW->Bf->Rat
 |[],_=>0
 |w::l,k=>if w.1=k then Ao w.2 else lookW l k
def obV(ws:List AW):List Ey->Rat
 |[]=>0
 |o::l=>lookW ws o.1*((o.2:Rat)/10)+obV ws l
def vV(c:AF)(h l:Int):Rat:=obV (CU c l).2.2.2.2 (BE c h).2.2.2.2
def Oo(c:AF)(t h l:Int):Rat:=O7 none (AeP (CU c l).2.2.2.1) (Si c t h l)+vV c h l
def Zv(c:AF)(t h:Int):Bf:=AO<|Mp c t h
def efR(c:AF)(t h l:Int):Bf:=AO<|Si c t h l
def obR(c:AF)(h l:Int):Bf:=AO<|vV c h l
def hoR(c:AF)(t h l:Int):Bf:=AO<|Oo c t h l
def zF:Ad:=((0,BI 0),(1,BI 1))
def iF(n:Int):Ad:=((n,BI n),(1,BI 1))
def oF(c:AF)(t h:Int):Ad:=B2 (iF<|Hq c t h)<|B2 (B2 (B2 zF<|Cw (BE c h).1)<|Cw (BE c h).2.1)<|Cw (BE c h).2.2.1
def TW(c:AF)(t h:Int):Ad:=if Q7 (oF c t h)<0 then zF else oF c t h
def K0(c:AF)(h:Int):Ad:=Cw (BE c h).2.2.2.1
def IX(c:AF)(l:Int):Ad:=Cw (CU c l).2.1
def VW(c:AF)(l:Int):Ad:=Cw (CU c l).2.2.1
def aQ(c:AF)(t h l:Int):Ad:=if Dh (TW c t h) (B2 (IX c l)<|K0 c h)<=0 then KJ (FV (TW c t h)<|IX c l) (B2 (IX c l)<|K0 c h)else B2 (IX c l)<|KJ (FV (Fu (TW c t h)<|B2 (IX c l)<|K0 c h)<|VW c l)<|B2 (VW c l)<|K0 c h
def Wi(ws:List AW)(f:Ad):List Ey->Ad
 |[]=>f
 |o::l=>match ws.find? fun w=>decide (w.1=o.1)with
  |some w=>Wi ws (B2 f<|FV (Cw w.2)<|SQ (o.2,BI o.2) (10,BI 10)) l
  |none=>Wi ws f l
def obF(c:AF)(h l:Int):Ad:=Wi (CU c l).2.2.2.2 zF (BE c h).2.2.2.2
def wP:Option AW->List AW->Ad->Ad
 |none,[],_=>zF
 |some q,[],_=>Cw q.2
 |o,p::l,x=>if Dh x (Cw p.1)>0 then wP (some p) l x else match o with
  |none=>Cw p.2
  |some q=>if Dh x (Cw p.1)=0 then Cw p.2 else B2 (Cw q.2)<|KJ (FV (Fu (Cw p.2)<|Cw q.2)<|Fu x<|Cw q.1)<|Fu (Cw p.1)<|Cw q.1
def vlF(t:List AW)(x:Ad):Ad:=wP none t x
def rtF(c:AF)(t h l:Int):Ad:=B2 (vlF (CU c l).2.2.2.1<|aQ c t h l)<|obF c h l
def AiJ(c:AF)(t h:Int):Int:=nS<|TW c t h
def Ai0(c:AF)(t h:Int):List Int:=nW<|TW c t h
def Ai4(c:AF)(t h:Int):Int:=dS<|TW c t h
def Air(c:AF)(t h:Int):List Int:=dW<|TW c t h
def Aja(c:AF)(t h l:Int):Int:=nS<|aQ c t h l
def AiQ(c:AF)(t h l:Int):List Int:=nW<|aQ c t h l
def Ah4(c:AF)(t h l:Int):Int:=dS<|aQ c t h l
def AiV(c:AF)(t h l:Int):List Int:=dW<|aQ c t h l
def AiC(c:AF)(h l:Int):Int:=nS<|obF c h l
def Aii(c:AF)(h l:Int):List Int:=nW<|obF c h l
def Aim(c:AF)(h l:Int):Int:=dS<|obF c h l
def AiS(c:AF)(h l:Int):List Int:=dW<|obF c h l
def Ai7(t:List AW)(x:Ad):Int:=nS<|vlF t x
def AiY(t:List AW)(x:Ad):List Int:=nW<|vlF t x
def Aiu(t:List AW)(x:Ad):Int:=dS<|vlF t x
def Ajb(t:List AW)(x:Ad):List Int:=dW<|vlF t x
def AiD(c:AF)(t h l:Int):Int:=nS<|rtF c t h l
def Aiy(c:AF)(t h l:Int):List Int:=nW<|rtF c t h l
def Aif(c:AF)(t h l:Int):Int:=dS<|rtF c t h l
def Ai2(c:AF)(t h l:Int):List Int:=dW<|rtF c t h l
def WG(l:List (Int×Int)):Bool:=l.any fun p=>Jg p.1 p.2
def U8(c:AF)(l:List (Int×Int)):Int:=Jq c<|WG l
def okP(c:AF)(t h:Int):Bool:=Ki c&&decide (AiW c t h=0)
def XO(c:AF)(t h l:Int):Bool:=Ki c&&decide (AfL c t h l=0)
def okO(c:AF)(h l:Int):Bool:=Ki c&&decide (AfT c h l=0)
def jN(l:Bq):Bool:=decide (l.2.2.2.2.length<=4398046511104)
def smS(s:Bs):Bool:=decide (s.2.2.2.2.length<=5864062014805)
def smC(c:AF):Bool:=decide (c.1.length<=1599289640401)&&decide (c.2.1.length<=3518437208883)&&decide (c.2.2.length<=1466015503701)&&c.1.all smS&&c.2.2.all jN
def Hi(n:Int):Bool:=decide (-100000<n)&&decide (n<100000)
def KL(s:Bf)(l:List Bf):Int:=if isName s=false then 8 else if has l s=true then 9 else 0
end Go.Sp
namespace Go.Pe
open Sp
open Go.Det
abbrev Bk:Sh:=.pair .str<|.pair .str<|.pair .str<|.pair (.list B8)<|.list B8
abbrev UK:Sh:=.pair .str i64
abbrev Bw:Sh:=.pair .str<|.pair .str<|.pair .str<|.pair .str<|.list UK
abbrev CY:Sh:=.pair .str iK
abbrev Ba:Sh:=.pair (.list Bw)<|.pair (.list CY)<|.list Bk
def jC:Am:=⟨[.str],fun _=>true,[.bool],fun s=>Sp.isName s,false⟩
def VJ:Am:=⟨[.str,i64,i64],fun i=>decide (yf (α:=UInt8) i.1<=1000000)&&Hi i.2.1&&Hi i.2.2,[i64],fun i=>BO i.1 i.2.1 i.2.2,false⟩
def AeS:Am:=⟨[.list B8],fun l=>HB l 40 20,[i64],fun l=>OQ l,false⟩
def cLv:Am:=⟨[Bk],fun l=>Sp.Bk l,[i64],fun l=>Ke l,false⟩
def fC:Am:=⟨[Bw],fun s=>Sp.Bw s,[i64],fun s=>LC s,false⟩
def cCo:Am:=⟨[Ba],fun c=>Ki c,[i64],fun c=>N6 c,false⟩
def AeF:Am:=⟨[Bk],fun l=>Mk l,[i64],fun l=>Ke l,false⟩
def AdO:Am:=⟨[Ba],fun c=>aV c,[i64],fun c=>N6 c,false⟩
def cW:Am:=⟨[Bk],fun _=>true,[.bool],fun l=>Sp.Bk l,false⟩
def AbA:Am:=⟨[Ba],fun _=>true,[.bool],fun c=>Ki c,false⟩
def KO:Am:=⟨[Ba],fun c=>Sp.smC c,[Ba],fun c=>c,false⟩
def kL:Am:=⟨[Bk],fun l=>jN l,[Bk],fun l=>l,false⟩
def UA:Am:=⟨[Ba,.list<|.pair i64 i64],fun i=>Ki i.1&&decide (yf (α:=Int×Int) i.2<=1000),[i64],fun i=>U8 i.1 i.2,false⟩
def cPl:Am:=⟨[Ba,i64,i64],fun i=>Sp.okP i.1 i.2.1 i.2.2,[An],fun i=>((AiJ i.1 i.2.1 i.2.2,Ai0 i.1 i.2.1 i.2.2),(Ai4 i.1 i.2.1 i.2.2,Air i.1 i.2.1 i.2.2)),false⟩
def cEf:Am:=⟨[Ba,i64,i64,i64],fun i=>XO i.1 i.2.1 i.2.2.1 i.2.2.2,[An],fun i=>((Aja i.1 i.2.1 i.2.2.1 i.2.2.2,AiQ i.1 i.2.1 i.2.2.1 i.2.2.2),(Ah4 i.1 i.2.1 i.2.2.1 i.2.2.2,AiV i.1 i.2.1 i.2.2.1 i.2.2.2)),false⟩
def cOb:Am:=⟨[Ba,i64,i64],fun i=>Sp.okO i.1 i.2.1 i.2.2,[An],fun i=>((AiC i.1 i.2.1 i.2.2,Aii i.1 i.2.1 i.2.2),(Aim i.1 i.2.1 i.2.2,AiS i.1 i.2.1 i.2.2)),false⟩
def cRt:Am:=⟨[Ba,i64,i64,i64],fun i=>XO i.1 i.2.1 i.2.2.1 i.2.2.2,[An],fun i=>((AiD i.1 i.2.1 i.2.2.1 i.2.2.2,Aiy i.1 i.2.1 i.2.2.1 i.2.2.2),(Aif i.1 i.2.1 i.2.2.1 i.2.2.2,Ai2 i.1 i.2.1 i.2.2.1 i.2.2.2)),false⟩
def AfP:Am:=⟨[Ba,i64,i64],fun i=>Sp.okP i.1 i.2.1 i.2.2,[.str],fun i=>Zv i.1 i.2.1 i.2.2,false⟩
def Agd:Am:=⟨[Ba,i64,i64,i64],fun i=>XO i.1 i.2.1 i.2.2.1 i.2.2.2,[.str],fun i=>Sp.efR i.1 i.2.1 i.2.2.1 i.2.2.2,false⟩
def Ag1:Am:=⟨[Ba,i64,i64],fun i=>Sp.okO i.1 i.2.1 i.2.2,[.str],fun i=>Sp.obR i.1 i.2.1 i.2.2,false⟩
def Afx:Am:=⟨[Ba,i64,i64,i64],fun i=>XO i.1 i.2.1 i.2.2.1 i.2.2.2,[.str],fun i=>Sp.hoR i.1 i.2.1 i.2.2.1 i.2.2.2,false⟩
def T0:Am:=⟨[.str,.list .str],fun i=>decide (yf (α:=Rd) i.2<=1000),[i64],fun i=>KL i.1 i.2,false⟩
def AgA[Srt]:AL:=X7 [(163,EC),(96,Mq),(73,Qy),(57,cF),(91,Gw)]
def Abl[Srt]:AL:=X7 [(166,jC),(60,GV),(91,Gw),(163,EC),(96,Mq),(106,rY)]
def Aat[Srt]:AL:=X7 [(166,jC),(60,GV),(91,Gw),(204,VJ),(206,Ml),(96,Mq),(73,Qy),(207,AeS)]
def AbB[Srt]:AL:=X7 [(166,jC),(60,GV),(91,Gw),(204,VJ)]
def LP[Srt]:AL:=X7 [(90,Zr),(164,fC),(166,jC),(60,GV),(91,Gw),(167,cLv)]
def xK[Srt]:AL:=X7 [(115,cCo),(91,Gw)]
def GK[Srt]:AL:=X7 []
def Af9[Srt]:AL:=X7 [(78,EC),(32,Oi),(143,IE),(148,PF)]
def zP[Srt]:AL:=X7 [(111,jC)]
def RZ[Srt]:AL:=X7 [(111,jC),(110,VJ),(112,Ml),(32,Oi),(47,T0),(78,EC),(87,NS)]
def yA[Srt]:AL:=X7 [(110,VJ),(111,jC)]
def E1[Srt]:AL:=X7 [(46,fC),(47,T0),(48,AeF)]
def R9[Srt]:AL:=X7 [(45,cW)]
def B3[Srt]:AL:=RW [(7,[2])] [(7,[(2,[(1,Ba)])])] [(7,[(18,[1,2,3,8]),(16,[1,2,3,8]),(14,[1,2,3,7]),(12,[1,2,3,7]),(9,[1,2,3,4,5,6]),(7,[1,2,3,4,5,6]),(5,[1,2,3,4]),(3,[1,2,3,4]),(2,[1,2,3])])] [(37,kL)]
end Go.Pe
namespace Go.Sp
def Adt(s:Bf):Bool:=Lj s&&decide (s.length<=20)&&D1 s&&decide (0<=BU s)&&decide (BU s<1000000000)
def nTe(c:AF):Int:=(c.2.1.length:Int)
def nLv(c:AF):Int:=(c.2.2.length:Int)
end Go.Sp
namespace Go.Pe
open Go.Det
abbrev Agt:Sh:=.pair i64<|.pair i64 i64
def YM:Am:=⟨[.str],fun s=>Sp.Adt s,[i64,.bool],fun s=>(Sp.BU s,true),false⟩
def Acq:Am:=⟨[Ba,i64],fun _=>true,[.pair i64 i64],fun i=>(i.2,Sp.nTe i.1),false⟩
def Z0:Am:=⟨[Ba,i64],fun _=>true,[.pair i64 i64],fun i=>(i.2,Sp.nLv i.1),false⟩
def AcC:Am:=⟨[i64,i64],fun _=>true,[.bool],fun i=>Sp.Jg i.1 i.2,false⟩
def T2[Srt]:AL:=RW [(95,[2])] [(95,[(2,[(3,Ba),(7,Bw)])])] [(95,[(2,[1,2,3,6,7])])] [(96,Mq),(57,cF),(59,JN),(106,rY)]
def rA[Srt]:AL:=RW [(99,[4,6])] [(99,[(4,[(10,An),(11,An),(12,An),(13,An),(14,An)])])] [(99,[(4,[8,10,11,12,13,14]),(6,[8,10,11,12,13,14])])] [(95,cPl),(96,Mq),(73,Qy),(59,JN),(64,dE),(65,S1),(97,bN)]
def AbH[Srt]:AL:=X7 [(137,Ur),(138,OZ)]
def AgE[Srt]:AL:=X7 [(93,Yt),(30,IS),(32,Oi)]
def AgT[Srt]:AL:=X7 [(181,AfP),(30,IS),(31,V9),(74,MW),(130,bM),(32,Oi),(87,NS),(86,aK),(129,UC),(77,YM)]
end Go.Pe
namespace Go.Sp
def fwP(l:List AW)(d:Int):Bool:=l.all fun p=>Cm p.1 d&&Cm p.2 d
def zG(l:List AW)(d:Int):Bool:=l.all fun p=>Cm p.2 d
def EU(l:Bq)(n d:Int):Bool:=decide (l.1.length<=30)&&decide ((l.2.2.2.1.length:Int)<=n)&&decide ((l.2.2.2.2.length:Int)<=n)&&Cm l.2.1 d&&Cm l.2.2.1 d&&(fwP l.2.2.2.1 d&&zG l.2.2.2.2 d)
def IZ(s:Bs)(n d:Int):Bool:=decide ((s.2.2.2.2.length:Int)<=n)&&Cm s.1 d&&Cm s.2.1 d&&Cm s.2.2.1 d&&Cm s.2.2.2.1 d
def XQ(c:AF)(n d:Int):Bool:=decide ((c.1.length:Int)<=n)&&decide ((c.2.1.length:Int)<=n)&&decide ((c.2.2.length:Int)<=n)&&(c.1.all (fun s=>IZ s n d)&&(c.2.2.all (fun l=>EU l n d)&&decide (N6 c=0)))
def jR(n d:Int):Bool:=decide (0<=n)&&decide (n<=8)&&decide (0<=d)&&decide (d<=9)
end Go.Sp
namespace Go.Pe
open Sp
open Go.Det
def ZS:Am:=⟨[Bk,i64,i64],fun i=>jR i.2.1 i.2.2,[.bool],fun i=>EU i.1 i.2.1 i.2.2,false⟩
def AaI:Am:=⟨[Ba,i64,i64],fun i=>jR i.2.1 i.2.2&&List.all (α:=B7) (Prod.fst<|Prod.snd (i.1:AF)) Ve,[.bool],fun i=>XQ i.1 i.2.1 i.2.2,false⟩
def YG[Srt]:AL:=X7 [(49,ZT)]
def ZF[Srt]:AL:=X7 [(49,ZT),(50,ZS),(10,AdO)]
end Go.Pe
namespace Go.Sp
theorem Br(x:Int)(l:List Int):first (x::l)=0↔x=0/\first l=0:=by
 rw[first];by_cases h:x=0
 ·simp[h]
 ·simp[h]
theorem kC{b:Bool}{e:Int}(a:e≠0):Cb b e=0↔b=false:=by
 cases b
 ·exact⟨fun _=>rfl,fun _=>rfl⟩
 ·exact⟨fun h=>wh h a,fun h=>by cases h⟩
theorem Gm{a:Bf}{lo c:Int}(h:BO a lo c=0):Ap a=0/\(lo:Rat)<=Ao a/\Ao a<=(c:Rat):=by
 unfold BO at h;by_cases k:Ap a=0
 ·rw[wc<|by simpa using k]at h;split at h
  ·exact wh h af
  ·next d=>
   rw[not_or]at d;exact⟨k,qi.1 d.1,qi.1 d.2⟩
 ·rw[wd k]at h;exact wh h k
structure jE(s:Bs):Prop where
 rise:Ap s.1=0
 wind:Ap s.2.1=0
 lay:Ap s.2.2.1=0
 roll:Ap s.2.2.2.1=0
 riseB:(-10000:Rat)<=Ao s.1/\Ao s.1<=10000
 windB:(-10000:Rat)<=Ao s.2.1/\Ao s.2.1<=10000
 layB:0<=Ao s.2.2.1/\Ao s.2.2.1<=10000
 rollB:0<=Ao s.2.2.2.1/\Ao s.2.2.2.1<=10000
 len:s.2.2.2.2.length<=16
 obs:∀o∈s.2.2.2.2,0<=o.2/\o.2<=10
theorem V4:∀ {l:List Ey},jQ l=0->∀o∈l,0<=o.2/\o.2<=10
 |[],_,o,a=>by cases a
 |x::l,h,o,a=>by
  unfold jQ at h;split at h
  ·exact wh h af
  ·split at h
   ·exact wh h af
   ·next d=>
    rcases yu.1 a with rfl|a
    ·omega
    ·exact V4 h o a
theorem wH{s:Bs}(h:LC s=0):jE s:=by
 unfold LC at h;by_cases k:Ua s=0
 ·rw[wc<|by simpa using k]at h;unfold Ua at k;rw[Br,Br,Br,Br,Br]at k;obtain⟨f,d,e,c,a,_⟩:=k;rw[kC af]at a;have a:=w7 a;obtain⟨a1,a2,a3⟩:=Gm f;obtain⟨b1,b2,b3⟩:=Gm d;obtain⟨c1,c2,c3⟩:=Gm e;obtain⟨d1,d2,d3⟩:=Gm c;exact⟨a1,b1,c1,d1,⟨a2,a3⟩,⟨b2,b3⟩,⟨c2,c3⟩,⟨d2,d3⟩,by omega,V4 h⟩
 ·rw[wd k]at h;exact wh h k
theorem Tk:∀ {l:List Bs},Jn l=0->∀s∈l,LC s=0
 |[],_,s,a=>by cases a
 |x::l,h,s,a=>by
  unfold Jn at h;by_cases k:LC x=0
  ·rw[wc<|by simpa using k]at h;rcases yu.1 a with rfl|a
   ·exact k
   ·exact Tk h s a
  ·rw[wd k]at h;exact wh h k
theorem Tg{n:Int}:∀ {l:List B7} {seen:List Bf},F9 n seen l=0->∀t∈l,(t.2.length:Int)=n/\Ew t.2=false
 |[],_,_,t,a=>by cases a
 |x::l,seen,h,t,a=>by
  unfold F9 at h;split at h
  ·exact wh h af
  ·split at h
   ·exact wh h af
   ·split at h
    ·exact wh h af
    ·next k=>
     split at h
     ·exact wh h af
     ·next d=>
      rcases yu.1 a with rfl|a
      ·exact⟨yq.1 k,by simpa using d⟩
      ·exact Tg h t a
theorem Yv{l:List Int}(h:Ew l=false):∀n∈l,1<=n/\n<=10000:=by
 intro n a;unfold Ew at h;rw[List.any_eq_false]at h;have:=h n a;rw[qf,w5,w5]at this;omega
theorem S4:∀ {l:List Bq} {seen:List Bf},MQ seen l=0->∀x∈l,Ke x=0
 |[],_,_,x,a=>by cases a
 |y::l,seen,h,x,a=>by
  unfold MQ at h;by_cases k:Ke y=0
  ·rw[wc<|by simpa using k]at h;split at h
   ·exact wh h af
   ·rcases yu.1 a with rfl|a
    ·exact k
    ·exact S4 h x a
  ·rw[wd k]at h;exact wh h k
theorem W1:∀ {l:List AW} {seen:List Bf},dT seen l=0->(∀w∈l,Ap w.2=0/\0<=Ao w.2/\w.1∉seen)/\(l.map Prod.fst).Nodup
 |[],_,_=>⟨fun w hw=>(by cases hw),List.nodup_nil⟩
 |x::l,seen,h=>by
  unfold dT at h;split at h
  ·exact wh h af
  ·split at h
   ·exact wh h af
   ·next a=>
    have a:x.1∉seen:=by
     unfold has at a;simpa using a
    by_cases k:Ap x.2=0
    ·rw[wc<|by simpa using k]at h;split at h
     ·exact wh h af
     ·next d=>
      obtain⟨c,g⟩:=W1 h;refine⟨fun w hw=>?_,?_⟩
      ·rcases yu.1 hw with rfl|hw
       ·exact⟨k,qi.1 d,a⟩
       ·obtain⟨f,j,i⟩:=c w hw;exact⟨f,j,fun x=>i<|yg _ x⟩
      ·rw[List.map_cons,List.nodup_cons];refine⟨fun m=>?_,g⟩;obtain⟨w,hw,e⟩:=List.mem_map.1 m;exact(c w hw).2.2 (by rw[e];exact yo ..)
    ·rw[wd k]at h;exact wh h k
structure rT(l:Bq):Prop where
 head:Ap l.2.1=0
 next:Ap l.2.2.1=0
 headB:(1:Rat)<=Ao l.2.1/\Ao l.2.1<=10000
 nextB:(1:Rat)<=Ao l.2.2.1/\Ao l.2.2.1<=10000
 tab:BL l.2.2.2.1=0
 up:Tv none l.2.2.2.1=0
 wlen:l.2.2.2.2.length<=16
 wts:∀w∈l.2.2.2.2,Ap w.2=0/\0<=Ao w.2
 one:(l.2.2.2.2.map Prod.fst).Nodup
theorem pF{l:Bq}(h:Ke l=0):rT l:=by
 unfold Ke at h;by_cases k:Mr l=0
 ·rw[wc<|by simpa using k]at h;by_cases u:Tv none l.2.2.2.1=0
  ·rw[wc<|by simpa using u]at h;unfold Mr at k;rw[Br,Br,Br,Br]at k;obtain⟨_,g,i,f,_⟩:=k;obtain⟨a1,a2,a3⟩:=Gm g;obtain⟨b1,b2,b3⟩:=Gm i;unfold OQ at h;split at h
   ·exact wh h af
   ·next d=>
    obtain⟨c,e⟩:=W1 h;exact⟨a1,b1,⟨a2,a3⟩,⟨b2,b3⟩,f,u,by omega,fun w a=>⟨(c w a).1,(c w a).2.1⟩,e⟩
  ·rw[wd u]at h;exact wh h u
 ·rw[wd k]at h;exact wh h k
structure Y1(c:AF):Prop where
 s1:c.1≠[]/\c.1.length<=36
 t1:c.2.1≠[]/\c.2.1.length<=8
 l1:c.2.2≠[]/\c.2.2.length<=8
 st:∀s∈c.1,jE s
 te:∀t∈c.2.1,t.2.length=c.1.length/\∀n∈t.2,1<=n/\n<=10000
 lv:∀l∈c.2.2,rT l
theorem Wp{c:AF}(h:N6 c=0):Y1 c:=by
 unfold N6 at h;split at h
 ·exact wh h af
 next a1=>
 split at h
 ·exact wh h af
 next a2=>
 split at h
 ·next k=>exact wh h k
 next a3=>
 unfold US at h;split at h
 ·exact wh h af
 next j=>
 split at h
 ·exact wh h af
 next m=>
 split at h
 ·next k=>exact wh h k
 next a=>
 unfold OE at h;split at h
 ·exact wh h af
 next f=>
 split at h
 ·exact wh h af
 next q=>
 have a3:Jn c.1=0:=yq.1 a3;have a:F9 (c.1.length:Int) [] c.2.1=0:=yq.1 a;refine⟨⟨a1,by omega⟩,⟨j,by omega⟩,⟨f,by omega⟩,fun s i=>wH<|Tk a3 s i,fun t d=>?_,fun l g=>pF<|S4 h l g⟩;obtain⟨u,e⟩:=Tg a t d;exact⟨by omega,Yv e⟩
theorem Fb{α:Type}{l:List α}{i:Nat}{d:α}(h:i<l.length):l.getD i d∈l:=by
 rw[ze,zd h];exact zm h
theorem Dv{i n:Int}(h:Jg i n=false):0<=i/\i<n:=by
 unfold Jg at h;rw[zy,w9,w9]at h;omega
theorem Jr{c:AF}{b:Bool}(h:Jq c b=0):N6 c=0/\b=false:=by
 unfold Jq at h;split at h
 ·next k=>exact wh h k
 ·next k=>
  split at h
  ·exact wh h af
  ·next d=>exact⟨yq.1 k,by simpa using d⟩
theorem NH{c:AF}(h:Ki c=true):c.1.length<=38/\c.2.1.length<=10/\c.2.2.length<=10/\(∀s∈c.1,Bw s=true)/\(∀t∈c.2.1,CY t=true)/\(∀l∈c.2.2,Bk l=true):=by
 unfold Ki at h;rw[zc,zc,zc,zc,zc,w5,w5,w5,zg,zg,zg]at h;obtain⟨⟨⟨⟨⟨a,e⟩,i⟩,d⟩,f⟩,g⟩:=h;exact⟨a,e,i,d,f,g⟩
theorem RF{c:AF}(h:aV c=true):c.1.length<=38/\c.2.1.length<=10/\c.2.2.length<=10/\(∀s∈c.1,Bw s=true)/\(∀t∈c.2.1,Ve t=true)/\(∀l∈c.2.2,Mk l=true):=by
 unfold aV at h;rw[zc,zc,zc,zc,zc,w5,w5,w5,zg,zg,zg]at h;obtain⟨⟨⟨⟨⟨a,e⟩,i⟩,d⟩,f⟩,g⟩:=h;exact⟨a,e,i,d,f,g⟩
theorem O1{s:Bs}(h:Bw s=true):s.1.length<=20/\s.2.1.length<=20/\s.2.2.1.length<=20/\s.2.2.2.1.length<=20/\s.2.2.2.2.length<=20:=by
 unfold Bw at h;rw[zc,zc,zc,zc,w5,w5,w5,w5,w5]at h;obtain⟨⟨⟨⟨a,e⟩,f⟩,d⟩,c⟩:=h;exact⟨a,e,f,d,c⟩
theorem Px{l:List AW}{n m:Nat}(h:HB l n m=true):∀p∈l,p.1.length<=n/\p.2.length<=m:=by
 intro p hp;unfold HB at h;rw[zg]at h;have:=h p hp;rwa [zc,w5,w5]at this
structure yG(l:Bq):Prop where
 name:l.1.length<=40
 head:l.2.1.length<=20
 next:l.2.2.1.length<=20
 tl:l.2.2.2.1.length<=70
 wl:l.2.2.2.2.length<=20
 tab:∀p∈l.2.2.2.1,p.1.length<=20/\p.2.length<=20
 wts:∀p∈l.2.2.2.2,p.1.length<=40/\p.2.length<=20
theorem U9{l:Bq}(h:Bk l=true):yG l:=by
 unfold Bk at h;rw[zc,zc,zc,zc,zc,zc,w5,w5,w5,w5,w5]at h;obtain⟨⟨⟨⟨⟨⟨a,d⟩,i⟩,c⟩,e⟩,g⟩,f⟩:=h;exact⟨a,d,i,c,e,Px g,Px f⟩
theorem TX{c:AF}{h:Int}(a:Y1 c)(d:Ki c=true)(e:XU c h=false):jE (BE c h)/\Bw (BE c h)=true:=by
 obtain⟨h0,f⟩:=Dv e;have m:BE c h∈c.1:=Fb ae;exact⟨a.st _ m,(NH d).2.2.2.1 _ m⟩
theorem xU{c:AF}{l:Int}(a:Y1 c)(d:Ki c=true)(e:R5 c l=false):rT (CU c l)/\yG (CU c l):=by
 obtain⟨h0,f⟩:=Dv e;have m:CU c l∈c.2.2:=Fb ae;exact⟨a.lv _ m,U9<|(NH d).2.2.2.2.2 _ m⟩
theorem Abv{c:AF}{t h:Int}(a:Y1 c)(d:WV c t=false)(e:XU c h=false):1<=Hq c t h/\Hq c t h<=10000/\(c.2.1.getD t.toNat ([],[])).2.length=c.1.length:=by
 obtain⟨t0,t1⟩:=Dv d;obtain⟨h0,h1⟩:=Dv e;have m:c.2.1.getD t.toNat ([],[])∈c.2.1:=Fb ae;obtain⟨e1,e2⟩:=a.te _ m;have f:Hq c t h∈(c.2.1.getD t.toNat ([],[])).2:=Fb ae;have:=e2 _ f;exact⟨this.1,this.2,e1⟩
structure AiZ(l:Bq):Prop where
 head:l.2.1.length<=20
 next:l.2.2.1.length<=20
 tl:l.2.2.2.1.length<=70
 tab:∀p∈l.2.2.2.1,p.1.length<=20/\p.2.length<=20
 wts:∀p∈l.2.2.2.2,p.2.length<=20
theorem zR{l:Bq}(h:Mk l=true):AiZ l:=by
 unfold Mk at h;rw[zc,zc,zc,zc,w5,w5,w5,zg]at h;obtain⟨⟨⟨⟨a,d⟩,f⟩,c⟩,e⟩:=h;exact⟨a,d,f,Px c,fun p hp=>w6<|e p hp⟩
theorem AaO{l:Bq}(h:Bk l=true):Mk l=true:=by
 have k:=U9 h;unfold Bk at h;rw[zc,zc]at h;unfold Mk;rw[w4 k.head,w4 k.next,w4 k.tl,h.1.2,zg.2 fun p hp=>w4 (k.wts p hp).2];rfl
theorem Afa{c:AF}(h:Ki c=true):aV c=true:=by
 obtain⟨a,g,k,f,i,j⟩:=NH h;unfold aV;rw[w4 a,w4 g,w4 k,zg.2 f,zg.2<|fun l d=>AaO<|j l d,zg.2<|fun t e=>?_]
 ·rfl
 ·have:=i t e;unfold CY at this;rw[zc,w5,w5]at this;exact w4 ae
theorem XV(s:Bs)(n:Int):plV s n=if (n:Rat)+(Ao s.1+Ao s.2.1+Ao s.2.2.1)<0 then 0 else(n:Rat)+(Ao s.1+Ao s.2.1+Ao s.2.2.1):=rfl
theorem P4(ws:List AW)(o:Ey)(l:List Ey):obV ws (o::l)=lookW ws o.1*((o.2:Rat)/10)+obV ws l:=by rw[obV]
theorem Kd(k:Bf):∀ws:List AW,lookW ws k=match ws.find? fun w=>decide (w.1=k)with
  |some w=>Ao w.2
  |none=>0
 |[]=>rfl
 |w::l=>by
  rw[lookW,List.find?_cons];by_cases h:w.1=k
  ·rw[wd h,w4 h]
  ·rw[wc h,w8 h];exact Kd k l
end Go.Sp
namespace Go.Pe
open Sp
open Go.Det
open Go.Sp (AF Bs Bq AW Ey Bf)
structure HoR(s:Bs):Prop where
 rise:RS 20 (Cw s.1) (Ao s.1)
 wind:RS 20 (Cw s.2.1) (Ao s.2.1)
 lay:RS 20 (Cw s.2.2.1) (Ao s.2.2.1)
 roll:RS 20 (Cw s.2.2.2.1) (Ao s.2.2.2.1)
theorem tD{s:Bs}(h:jE s)(k:Sp.Bw s=true):HoR s:=by
 obtain⟨e,c,d,a,_⟩:=O1 k;exact⟨Ej h.rise e af,Ej h.wind c af,Ej h.lay d af,Ej h.roll a af⟩
structure LvR(l:Bq):Prop where
 head:RS 20 (Cw l.2.1) (Ao l.2.1)
 next:RS 20 (Cw l.2.2.1) (Ao l.2.2.1)
 hp:0<Ao l.2.1
 np:0<Ao l.2.2.1
 wts:∀w∈l.2.2.2.2,RS 20 (Cw w.2) (Ao w.2)
theorem XG:(0:Rat)<1:=by decide+kernel
theorem Ad0{l:Bq}(h:rT l)(k:yG l):LvR l:=
 ⟨Ej h.head k.head af,Ej h.next k.next af,Std.lt_of_lt_of_le XG h.headB.1,Std.lt_of_lt_of_le XG h.nextB.1,fun w a=>Ej (h.wts w a).1 (k.wts w a).2 af⟩
structure AtP(c:AF)(t h:Int):Prop where
 co:Y1 c
 sh:Ki c=true
 t0:0<=t/\t<(c.2.1.length:Int)
 h0:0<=h/\h<(c.1.length:Int)
 te:1<=Hq c t h/\Hq c t h<=10000
 tl:(c.2.1.getD t.toNat ([],[])).2.length=c.1.length
 st:jE (BE c h)
 hr:HoR (BE c h)
theorem UO{c:AF}{t h:Int}(k:Sp.okP c t h=true):AtP c t h:=by
 unfold Sp.okP at k;rw[zc,w5]at k;obtain⟨sh,e⟩:=k;obtain⟨e1,e2⟩:=Jr e;rw[zy]at e2;have co:=Wp e1;obtain⟨s1,s2⟩:=TX co sh e2.2;obtain⟨t1,t2,t3⟩:=Abv co e2.1 e2.2;exact⟨co,sh,Dv e2.1,Dv e2.2,⟨t1,t2⟩,t3,s1,tD s1 s2⟩
structure AtL(c:AF)(l:Int):Prop where
 co:Y1 c
 sh:Ki c=true
 l0:0<=l/\l<(c.2.2.length:Int)
 lv:rT (CU c l)
 ls:yG (CU c l)
 lr:LvR (CU c l)
theorem YD{c:AF}{t h l:Int}(k:XO c t h l=true):Sp.okP c t h=true/\Sp.okO c h l=true:=by
 unfold XO at k;rw[zc,w5]at k;obtain⟨sh,e⟩:=k;obtain⟨e1,e2⟩:=Jr e;rw[zy,zy]at e2;have mk:∀b:Bool,b=false->Jq c b=0:=fun b a=>by
  unfold Jq;rw[wc (by simpa using e1),a];rfl
 exact⟨Ab sh (w4<|mk _<|by rw[e2.1,e2.2.1];rfl),Ab sh<|w4<|mk _<|by rw[e2.2.1,e2.2.2];rfl⟩
theorem No{c:AF}{h l:Int}(k:Sp.okO c h l=true):AtL c l/\(0<=h/\h<(c.1.length:Int))/\jE (BE c h)/\HoR (BE c h):=by
 unfold Sp.okO at k;rw[zc,w5]at k;obtain⟨sh,e⟩:=k;obtain⟨e1,e2⟩:=Jr e;rw[zy]at e2;have co:=Wp e1;obtain⟨l1,l2⟩:=xU co sh e2.2;obtain⟨s1,s2⟩:=TX co sh e2.1;exact⟨⟨co,sh,Dv e2.2,l1,l2,Ad0 l1 l2⟩,Dv e2.1,s1,tD s1 s2⟩
theorem sX{n:Int}(h:1<=n/\n<=10000):RS 5 (Sp.iF n) (n:Rat):=Hw ae af af
theorem oU{c:AF}{t h:Int}(k:AtP c t h):RS 70 (oF c t h) ((Hq c t h:Rat)+(Ao (BE c h).1+Ao (BE c h).2.1+Ao (BE c h).2.2.1)):=by
 have z:RS 1 Sp.zF 0:=IJ;have a1:=z.add k.hr.rise af af;have a2:=a1.add k.hr.wind af af;have a3:=a2.add k.hr.lay af af;have a4:=(sX k.te).add a3 af af;rw[ql]at a4;exact a4.mono af
theorem mI{c:AF}{t h:Int}(k:AtP c t h):RS 70 (TW c t h) (Mp c t h):=by
 have a:=oU k;unfold TW Mp;rw[XV];by_cases s:Q7 (oF c t h)<0
 ·rw[wd s,wd<|a.Oy.1.1 s];exact(IJ).mono af
 ·rw[wc s,wc fun x=>s<|a.Oy.1.2 x];exact a
theorem Pm{a b:Rat}(d:0<a)(c:0<=b):0<a+b:=ah
theorem pP{c:AF}{t h l:Int}(k:XO c t h l=true):RS 194 (aQ c t h l) (Si c t h l):=by
 obtain⟨kp,ko⟩:=YD k;have P:=UO kp;obtain⟨L,_,_,_⟩:=No ko;have p:=mI P;have r:=P.hr.roll;have a:=P.st.rollB.1;have reach:=L.lr.head.add r af af;have e:=L.lr.next.add r af af;have h0:Ao (CU c l).2.1+Ao (BE c h).2.2.2.1≠0:=Rat.ne_of_gt<|Pm L.lr.hp a;have n0:Ao (CU c l).2.2.1+Ao (BE c h).2.2.2.1≠0:=Rat.ne_of_gt<|Pm L.lr.np a;unfold aQ Si hI IX VW K0;by_cases s:Dh (TW c t h) (B2 (Cw (CU c l).2.1)<|Cw (BE c h).2.2.2.1)<=0
 ·rw[wd s,wd<|(p.Ik reach).1 s];exact((p.mul L.lr.head af af).div reach af af h0).mono af
 ·rw[wc s,wc fun x=>s<|(p.Ik reach).2 x];have d:=p.sub reach af af;have m:=d.mul L.lr.next af af;have q:=m.div e af af n0;exact(L.lr.head.add q af af).mono af
theorem M7{n:Int}(h:0<=n/\n<=10):RS 2 (SQ (n,BI n) (10,BI 10)) ((n:Rat)/10):=by
 have a:Cn n=true:=by
  unfold Cn;exact ad ae ae
 obtain⟨a1,a2⟩:=G5 a;obtain⟨b1,b2⟩:=G5 (n:=10) rfl;have r:=J3 a1 b1 (by rw[b2];decide);rw[a2,b2]at r;have e:Rat.divInt n 10=(n:Rat)/10:=by rw[Rat.divInt_eq_div];rfl
 rw[e]at r;exact⟨r,by rw[<-e];exact H8 af ae af⟩
theorem tB{ws:List AW}(d:∀w∈ws,RS 20 (Cw w.2)<|Ao w.2):∀ {l:List Ey} {K:Nat} {f:Ad} {q:Rat},(∀o∈l,0<=o.2/\o.2<=10)->RS K f q->K+23*l.length<=4000->RS (K+23*l.length) (Wi ws f l) (q+Sp.obV ws l)
 |[],K,f,q,_,c,_=>by
  show RS K f<|q+0;rw[Rat.add_zero];exact c
 |o::l,K,f,q,g,c,k=>by
  rw[List.length_cons]at k ⊢;have j:=g o<|yo ..;have i:=fun x t=>g x<|yg _ t
  rw[P4,Kd,Wi];cases e:ws.find? fun w=>decide (w.1=o.1)with
  |none=>
   simp only;rw[Rat.zero_mul,ql];exact(tB d i c ae).mono ae
  |some w=>
   simp only;have s:=List.mem_of_find?_eq_some e;have m:=(d w s).mul (M7 j) af af;have a:=c.add m ae af;have:=tB d (l:=l) i a ae;rw[<-Rat.add_assoc];exact this.mono ae
theorem Zx{c:AF}{h l:Int}(k:Sp.okO c h l=true):RS 369 (Sp.obF c h l) (vV c h l):=by
 obtain⟨L,_,S,_⟩:=No k;have:=tB L.lr.wts (K:=1) (f:=Sp.zF) (q:=0) S.obs IJ (by have:=S.len;omega);rw[ql]at this;exact this.mono (by have:=S.len;omega)
theorem AdT{u v a b:Rat}(h:a<b):u+(v-u)*(b-a)/(b-a)=v:=by
 have h0:b-a≠0:=Nn h;rw[Rat.mul_div_cancel h0];grind
theorem qH{x:Ad}{X:Rat}{K:Nat}(f:RS K x X)(z:K<=2000):∀(l:List AW) (o:Option AW),(o=none->l≠[])->(∀q,o=some q->RS 20 (Cw q.1) (Ao q.1)/\RS 20 (Cw q.2) (Ao q.2))->(∀p∈l,p.1.length<=20/\p.2.length<=20)->Dz o l=0->RS (K+145) (wP o l x) (O7 (o.map y9) (l.map y9) X)
 |[],none,h,_,_,_=>wh rfl (h rfl)
 |[],some q,_,g,_,_=>by
  rw[wP];show RS _ _<|O7 (some<|y9 q) [] X;rw[bT];exact(g q rfl).2.mono ae
 |p::l,none,_,_,j,m=>by
  obtain⟨u,t,s⟩:=Jo m;obtain⟨l1,l2⟩:=j p<|yo ..;have a:=Ej u l1 af;have i:=Ej t l2 af;show RS _ _<|O7 none (y9 p::l.map y9) X;rw[PT,wP];by_cases c:Dh x (Cw p.1)>0
  ·rw[wd c,wd<|show(y9 p).1<X from(f.NU a).1 c];exact qH f z l (some p) (fun h=>by cases h) (fun q g=>by cases g;exact⟨a,i⟩) (fun y v=>j y<|yg _ v) s
  ·rw[wc c,wc<|show ¬(y9 p).1<X from fun h=>c<|(f.NU a).2 h];exact i.mono ae
 |p::l,some q,_,g,j,m=>by
  obtain⟨u,t,k,s⟩:=HN m;obtain⟨l1,l2⟩:=j p<|yo ..;obtain⟨q1,q2⟩:=g q rfl;have a:=Ej u l1 af;have i:=Ej t l2 af;show RS _ _<|O7 (some<|y9 q) (y9 p::l.map y9) X;rw[Qg,wP];by_cases c:Dh x (Cw p.1)>0
  ·rw[wd c,wd<|show(y9 p).1<X from(f.NU a).1 c];exact qH f z l (some p) (fun h=>by cases h) (fun q g=>by cases g;exact⟨a,i⟩) (fun y v=>j y<|yg _ v) s
  ·rw[wc c,wc<|show ¬(y9 p).1<X from fun h=>c<|(f.NU a).2 h];by_cases d:Dh x (Cw p.1)=0
   ·rw[wd d];have e:X=(y9 p).1:=(f.cmp_eq a).1 d;rw[e,AdT<|show(y9 q).1<(y9 p).1 from k];exact i.mono ae
   ·rw[wc d];have s1:=i.sub q2 af af;have s2:=f.sub q1 ae af;have s3:=s1.mul s2 af ae;have s4:=a.sub q1 af af;have s5:=s3.div s4 ae af<|Nn k;exact(q2.add s5 af ae).mono ae
theorem uU{t:List AW}{x:Ad}{X:Rat}{K:Nat}(i:RS K x X)(a:K<=2000)(f:BL t=0)(d:∀p∈t,p.1.length<=20/\p.2.length<=20):RS (K+145) (Sp.vlF t x) (O7 none (AeP t) X):=by
 obtain⟨c,_,g⟩:=Er f;exact qH i a t none (fun _=>c) (fun q e=>by cases e) d g
theorem AfJ{c:AF}{t h l:Int}(k:XO c t h l=true):RS 709 (Sp.rtF c t h l) (Oo c t h l):=by
 obtain⟨_,ko⟩:=YD k;obtain⟨L,_,_,_⟩:=No ko;exact((uU (pP k) af L.lv.tab L.ls.tab).add (Zx ko) af af).mono af
end Go.Pe
namespace Go.Sp
def OkY(t:List AW)(x:Ad):Prop:=BL t=0/\(∀p∈t,p.1.length<=20/\p.2.length<=20)/\∃X,Go.Pe.RS 300 x X
def okY(t:List AW)(x:Ad):Bool:=@decide (OkY t x) (zf _)
theorem AeI{t:List AW}{x:Ad}(h:okY t x=true):OkY t x:=@w6 _ (zf _) h
theorem Aet{t:List AW}{x:Ad}(h:OkY t x):okY t x=true:=@w4 _ (zf _) h
end Go.Sp
namespace Go.Pe
open Sp
open Go.Det
def AgY:Am:=⟨[.list B8,An],fun i=>Sp.okY i.1 i.2,[An],fun i=>((Ai7 i.1 i.2,AiY i.1 i.2),(Aiu i.1 i.2,Ajb i.1 i.2)),false⟩
def Vx:Am:=⟨[.list B8,.str],fun i=>decide (yf (α:=AW) i.1<=1000)&&GY 100 i.1&&decide (Y7 i.1 i.2=0),[.str],fun i=>sL i.1 i.2,false⟩
def sS:Am:=⟨[An,An],fun i=>Sp.CA (i.1:Ad)&&Sp.CA (i.2:Ad),[.bool],fun i=>decide (Dh (i.1:Ad) (i.2:Ad)=0),false⟩
def Ahr[Srt]:AL:=X7 [(73,Qy)]
def OI[Srt]:AL:=RW [(100,[2,13])] [(100,[(2,[(3,Ba)]),(13,[(12,UK),(13,An)])])] [(100,[(14,[6,7,10,40,41,42]),(13,[6,7,10,12,13,40,41,42]),(10,[6,7,10,40,41,42]),(9,[6,7,10,40,41,42]),(4,[1,3,6,7,21,22,23]),(3,[1,3,6,7,21,22,23]),(2,[1,2,3,6,7])])] [(96,Mq),(57,cF),(68,Sc),(120,dP),(65,S1),(59,JN)]
def R2[Srt]:AL:=RW [(135,[1,8,9])] [(135,[(1,[(3,An)]),(8,[(7,An),(8,An)]),(9,[(9,An),(10,An)])])] [(135,[(10,[0,3,4,11,12,13]),(8,[0,3,4,5,7,8]),(6,[0,3,4,5,7,8]),(3,[0,3,4,11,12,13]),(2,[0,3,4,11,12,13]),(1,[0,3,4]),(9,[3,4,7,8,9,10])])] [(96,Mq),(73,Qy),(185,sS),(59,JN),(64,dE),(65,S1),(97,bN)]
def Ad6[Srt]:AL:=RW [(70,[1])] [(70,[(1,[(4,Ba)])])] [(70,[(1,[1,2,3,4,8])])] [(99,cEf),(100,cOb),(135,AgY),(59,JN)]
def ON[Srt]:AL:=RW [(128,[3])] [(128,[(3,[(8,Bw),(9,Bk)])])] [(128,[(8,[7,8,9,10,11]),(9,[7,8,9,10,11]),(7,[7,8,9,10,11]),(6,[7,8,9,10]),(4,[7,8,9,10]),(3,[7,8,9])])] [(81,dJ),(74,MW),(30,IS)]
def AdP[Srt]:AL:=RW [(62,[1])] [(62,[(1,[(4,Ba)])])] [(62,[(1,[1,2,3,4])])] [(126,Vx),(127,Agd),(128,Ag1),(30,IS)]
end Go.Pe
namespace Go.Sp
def I1(c:AF)(t l:Int):Int:=Jq c<|WV c t||R5 c l
def suQ(c:AF)(t l:Int):Nat->Nat->Rat
 |_,0=>0
 |i,k+1=>Oo c t (i:Int) l+suQ c t l (i+1) k
def exQ(c:AF)(t l:Int):Rat:=suQ c t l 0 c.1.length
def suF(c:AF)(t l:Int):Ad->Nat->Nat->Ad
 |f,_,0=>f
 |f,i,k+1=>suF c t l (B2 f<|rtF c t (i:Int) l) (i+1) k
def cU(c:AF)(t l:Int):Ad:=suF c t l zF 0 c.1.length
def Aic(c:AF)(t l:Int):Int:=nS<|cU c t l
def Aik(c:AF)(t l:Int):List Int:=nW<|cU c t l
def AiL(c:AF)(t l:Int):Int:=dS<|cU c t l
def Aid(c:AF)(t l:Int):List Int:=dW<|cU c t l
def Aec(q:Rat):Int:=(q+1/2).floor
def Xf(q:Rat):Rat:=(Aec (q*10):Rat)/10
def hfF:Ad:=((1,BI 1),(2,BI 2))
def rnI(f:Ad):AM:=Gv (B2 f hfF).1 (B2 f hfF).2
def rnS(f:Ad):Int:=(rnI f).1
def rnW(f:Ad):List Int:=(rnI f).2
def teF(f:Ad):Ad:=SQ (rnI<|FV f<|iF 10) (10,BI 10)
def Aiv(f:Ad):Int:=nS<|teF f
def Aiq(f:Ad):List Int:=nW<|teF f
def Ain(f:Ad):Int:=dS<|teF f
def AiP(f:Ad):List Int:=dW<|teF f
def OkT(x:Ad):Prop:=∃X,Go.Pe.RS 3000 x X
def okT(x:Ad):Bool:=@decide (OkT x) (zf _)
theorem Ad7{x:Ad}(h:okT x=true):OkT x:=@w6 _ (zf _) h
theorem Aez{x:Ad}(h:OkT x):okT x=true:=@w4 _ (zf _) h
def OkV(x:Ad):Prop:=∃X,Go.Pe.RS 2000 x X
def okV(x:Ad):Bool:=@decide (OkV x) (zf _)
theorem Ae9{x:Ad}(h:okV x=true):OkV x:=@w6 _ (zf _) h
theorem Aex{x:Ad}(h:OkV x):okV x=true:=@w4 _ (zf _) h
def X9(c:AF):Bool:=Ki c&&(decide (N6 c≠0)||XQ c 6 4)
def LD(c:AF)(t l:Int):Bool:=Ki c&&decide (I1 c t l=0)&&XQ c 6 4
def paR(c:AF)(t l i k:Int):Bf:=AO<|suQ c t l i.toNat (k-i).toNat
def exR(c:AF)(t l:Int):Bf:=AO<|exQ c t l
def raR(c:AF)(t l:Int):Bf:=AO<|Xf<|exQ c t l
def nV(c:AF)(i k:Int):Bool:=decide (0<=i)&&decide (i<=k)&&decide (k<=(c.1.length:Int))
end Go.Sp
namespace Go.Pe
open Sp
open Go.Det
def cEx:Am:=⟨[Ba,i64,i64],fun i=>LD i.1 i.2.1 i.2.2,[An],fun i=>((Aic i.1 i.2.1 i.2.2,Aik i.1 i.2.1 i.2.2),(AiL i.1 i.2.1 i.2.2,Aid i.1 i.2.1 i.2.2)),false⟩
def Ac0:Am:=⟨[An],fun a=>Sp.okT a,[A4],fun a=>(Sp.rnS a,Sp.rnW a),false⟩
def Ago:Am:=⟨[An],fun a=>Sp.okV a,[An],fun a=>((Aiv a,Aiq a),(Ain a,AiP a)),false⟩
def AcQ:Am:=⟨[Ba,i64,i64,i64,i64],fun i=>LD i.1 i.2.1 i.2.2.1&&nV i.1 i.2.2.2.1 i.2.2.2.2,[.str],fun i=>Sp.paR i.1 i.2.1 i.2.2.1 i.2.2.2.1 i.2.2.2.2,false⟩
def AfF:Am:=⟨[Ba,i64,i64],fun i=>LD i.1 i.2.1 i.2.2,[.str],fun i=>Sp.exR i.1 i.2.1 i.2.2,false⟩
def Ag6:Am:=⟨[Ba,i64,i64],fun i=>LD i.1 i.2.1 i.2.2,[.str],fun i=>Sp.raR i.1 i.2.1 i.2.2,false⟩
def QK[Srt]:AL:=X7 [(70,cRt),(57,cF),(59,JN)]
def Af6[Srt]:AL:=X7 [(68,Sc),(59,JN),(132,lD)]
def AgL[Srt]:AL:=X7 [(57,cF),(65,S1),(66,Ac0),(68,Sc),(120,dP)]
def AbI[Srt]:AL:=X7 [(62,Afx),(30,IS)]
def Ag5[Srt]:AL:=X7 [(18,AcQ)]
def Af8[Srt]:AL:=X7 [(130,bM),(30,IS),(129,UC),(74,MW)]
def Agb[Srt]:AL:=X7 [(19,AfF),(63,dX)]
end Go.Pe
namespace Go.Sp
def leB(a b:Rat):Bool:=decide (a<=b)
def K5(l:List Rat):List Rat:=l.mergeSort leB
theorem SX(l:List Rat):List.Perm (K5 l) l:=List.mergeSort_perm ..
theorem WS(l:List Rat):(K5 l).length=l.length:=List.length_mergeSort ..
theorem dI(l:List Rat):(K5 l).Pairwise fun a b=>a<=b:=by
 have:=List.pairwise_mergeSort (le:=leB) (fun a b c d e=>w4<|Rat.le_trans (w6 d)<|w6 e) (fun a b=>by
  rcases Rat.le_total (a:=a) (b:=b)with h|h
  ·rw[qf];exact .inl<|w4 h
  ·rw[qf];exact .inr<|w4 h) l
 exact this.imp fun h=>w6 h
theorem Tp:∀ {a b:List Rat},a.Pairwise (fun x y=>x<=y)->b.Pairwise (fun x y=>x<=y)->List.Perm a b->a=b:=fun d f hp=>
 List.Perm.eq_of_pairwise (fun _ _ _ _ c e=>Rat.le_antisymm c e) d f hp
def Ad2(s:List Rat):Rat:=(s.getD ((s.length-1)/2) 0+s.getD (s.length/2) 0)/2
def eW(l:List Rat):Rat:=Ad2<|K5 l
def zeF:Ad:=((0,[]),0,[])
def mX(v:List Ad):Ad:=List.getD v (Int.toNat<|zj .i64<|qm (zj .i64<|(↑(yf v):Int)-1) 2) ((0,[]),0,[])
def mY(v:List Ad):Ad:=List.getD v (Int.toNat<|zj .i64<|qm (↑(yf v):Int) 2) ((0,[]),0,[])
def mdF(l:List Ad):Ad:=KJ (B2 ((Ex l).getD ((l.length-1)/2) zeF)<|(Ex l).getD (l.length/2) zeF)<|iF 2
def oQ(l:List Ad):Int:=nS<|mdF l
def vX(l:List Ad):List Int:=nW<|mdF l
def sD(l:List Ad):Int:=dS<|mdF l
def lR(l:List Ad):List Int:=dW<|mdF l
def Aeh(l:List Ad):Prop:=l≠[]/\l.length<=1000000/\∀x∈l,∃X,Go.Pe.RS 1500 x X
def qC(l:List Ad):Bool:=@decide (Aeh l) (zf _)
theorem AaU{l:List Ad}(h:qC l=true):Aeh l:=@w6 _ (zf _) h
theorem xC{l:List Ad}(h:Aeh l):qC l=true:=@w4 _ (zf _) h
def yS(l:List Bf):Bf:=AO<|eW<|l.map Ao
def fI(l:List Bf):Prop:=l≠[]/\l.length<=100000/\∀s∈l,∃q,Nu 600 s q
def qT(l:List Bf):Bool:=@decide (fI l) (zf _)
theorem zY{l:List Bf}(h:qT l=true):fI l:=@w6 _ (zf _) h
theorem Abo{l:List Bf}(h:fI l):qT l=true:=@w4 _ (zf _) h
def JC(n:Int):Bool:=decide (n<1)||decide (999999999<n)
def K8(l:List Int):Int:=if l=[]then 12 else if 256<l.length then 5 else if l.any JC=true then 3 else 0
def vZ(l:List Int):Rat:=eW<|l.map fun(n:Int)=>(n:Rat)
def drQ(c:AF)(t l:Int)(s:List Int):Rat:=vZ s-Xf (exQ c t l)
def GQ(c:AF)(t l:Int)(s:List Int):Int:=if I1 c t l≠0 then I1 c t l else K8 s
def Xq(c:AF)(t l:Int)(s:List Int):Bf:=sM (GQ c t l s)<|drQ c t l s
def W2(c:AF)(t l:Int)(s:List Int):Int:=pU (GQ c t l s)<|drQ c t l s
def drR(c:AF)(t l:Int)(s:List Int):Bf:=AO<|drQ c t l s
end Go.Sp
namespace Go.Pe
open Sp
open Go.Det
def Ag2:Am:=⟨[.list An],fun l=>qC l,[An],fun l=>((oQ l,vX l),(sD l,lR l)),false⟩
def jX:Am:=⟨[.list .str],fun l=>qT l,[.str],fun l=>yS l,false⟩
def Adc:Am:=⟨[iK],fun l=>decide (yf (α:=Int) l<=1000000),[i64],fun l=>K8 l,false⟩
def pR:Am:=⟨[Ba,i64,i64,iK],fun i=>X9 i.1&&decide (yf (α:=Int) i.2.2.2<=1000000),[.str,i64],fun i=>(Xq i.1 i.2.1 i.2.2.1 i.2.2.2,W2 i.1 i.2.1 i.2.2.1 i.2.2.2),false⟩
def Afd:Am:=⟨[Ba,i64,i64,iK],fun i=>LD i.1 i.2.1 i.2.2.1&&decide (K8 i.2.2.2=0),[.str],fun i=>Sp.drR i.1 i.2.1 i.2.2.1 i.2.2.2,false⟩
def NY:Am:=⟨[Ba,Agt,iK],fun i=>Sp.smC i.1&&List.all (α:=B7) (Prod.fst<|Prod.snd (i.1:AF)) Ve,[.bool],fun _=>true,false⟩
def nU:AL:=(RW [(92,[3])] [(92,[(3,[(0,An)])])] [(92,[(3,[0,2])])] [(59,JN),(57,cF),(97,bN)]).wr [(156,Uq)]
def N3:AL:=X7 [(32,Oi),(30,IS),(157,AcJ)]
def AfS:AL:=X7 [(74,MW)]
def xY:AL:=X7 []
def JS:AL:=RW [(34,[4,14])] [(34,[(4,[(4,Ba)]),(14,[(13,An)])])] [(34,[(4,[1,2,3,4]),(14,[1,2,4,13]),(11,[1,2,4,13,40,41,42]),(10,[1,2,4,13,40,41,42]),(8,[1,2,3,4])])] [(52,Acq),(53,Z0),(51,UA),(90,Zr),(91,Gw),(60,GV),(57,cF),(92,Ag2),(55,cEx),(56,Ago),(64,dE),(54,aR)]
def R8:AL:=RW [(36,[6])] [(36,[(6,[(4,Ba),(9,.str)])])] [(36,[(6,[1,2,4,9]),(5,[1,2,3,4,9,10]),(3,[1,2,3,4,9,10])])] [(93,Yt),(94,jX),(20,Ag6),(31,V9)]
def Vs:AL:=RW [(6,[2,7,12])] [(6,[(2,[(3,Ba),(4,Agt),(7,Ba)])])] [(6,[(2,[2,3,4,7]),(14,[2,4,7,9,10]),(12,[2,4,7,8,9,10]),(10,[2,4,7,8,9,10]),(7,[2,3,4,7,8]),(4,[2,3,4,7])])] [(8,Y8),(7,KO),(9,AbA),(10,cCo),(11,AaI),(34,pR),(16,AcC),(15,Gw),(35,Adc),(17,Tf),(36,Afd)]
section
open List Int Prod
namespace T6
def T(c:AF)(a:Int×Int×Int)(s:List Int):Tr:=tree Vs false 9 6<|Ag ([Ba,yz i64<|yz i64 i64,zh i64]) (c,a,s)
def L1(v2:List Int)(v3:AF)(v4:Int×Int×Int)(a:AF):Tr:=re ((T ([],([],[])) (0,(0,0)) []).L)<|Ax 87 [(2,.dat (zh i64) v2),(3,PV.A8 Ba v3 0),(4,PV.A8 (yz i64<|yz i64 i64) v4 0),(7,PV.A8 Ba a 0)] [] 0
theorem Aj(c:AF)(a:Int×Int×Int)(s:List Int):T c a s=.ck (Sp.smC c) (L1 s c a c):=by kernel_rfl
def L2(v2:List Int)(v3:AF)(v4:Int×Int×Int)(a:AF)(c:Int):Tr:=re ((stepT Vs<|L1 [] ([],([],[])) (0,(0,0)) ([],([],[]))).L.R.L.R.R.L.L.L.R)<|Ax 87 [(2,.dat (zh i64) v2),(3,PV.A8 Ba v3 0),(4,PV.A8 (yz i64<|yz i64 i64) v4 0),(7,PV.A8 Ba a 0),(8,.dat i64 c)] [] 0
theorem Ak(v2:List Int)(v3:AF)(v4:Int×Int×Int)(a:AF):stepT Vs (L1 v2 v3 v4 a)=let c:Tr:=.ck true<|.leaf (.dat z8 true) [];let b':=L2 v2 v3 v4 a<|N6 a;.ck true (.ite false c<|.ck true<|.ite (!Ki a) c<|.di ((length v2:Int)>260) c<|.ck (Ki a)<|.ite (N6 a==0) (.ck (jR 6 4&&List.all (fst<|snd a) Ve)<|.ite (!XQ a 6 4) (.leaf (.bl true) []) b') b'):=by kernel_rfl
def L3(v2:List Int)(v4:Int×Int×Int)(c:AF)(d:Int)(v9:Rd)(a:Int):Tr:=re ((stepT Vs<|L2 [] ([],([],[])) (0,(0,0)) ([],([],[])) 0).L.L.L.L.L.L.L)<|Ax 87 [(2,.dat (zh i64) v2),(4,PV.A8 (yz i64<|yz i64 i64) v4 0),(7,PV.A8 Ba c 0),(8,.dat i64 d),(9,.dat zw v9),(10,.dat i64 a)] [] 0
theorem Az(v2:List Int)(v3:AF)(v4:Int×Int×Int)(a:AF)(d:Int):stepT Vs (L2 v2 v3 v4 a d)=let b':=snd<|snd v4;let g:=decide (length v2<=1000000);let e:=Xq v3 (fst v4) b' v2;let c:=W2 v3 (fst v4) b' v2;let i:=Jg b' (↑(length<|snd<|snd v3):Int);let f:Tr:=.ck g<|L3 v2 v4 a (K8 v2) e c;.ck (X9 v3&&g) (.ite (d==0) (.ck true<|.ite (Jg (fst v4) (↑(length<|fst<|snd v3):Int)) (.ck true<|.ite false f<|L3 v2 v4 a (Cb true 10) e c)<|.ck true<|.ck true<|.ite (Cb i 10==0) f<|L3 v2 v4 a (Cb i 10) e c)<|.ite (d==0) f<|L3 v2 v4 a d e c):=by kernel_rfl
theorem Be(v2:List Int)(v4:Int×Int×Int)(c:AF)(d:Int)(v9:Rd)(a:Int):stepT Vs (L3 v2 v4 c d v9 a)=let e:=Sp.drR c (fst v4) (snd<|snd v4) v2;.ite (d !=0) (.cd (0<=1000000)<|.leaf (.dat z8<|HC v9 a [] d) []) (.di ((length v2:Int)>20) (.leaf (.bl true) [])<|.ck (LD c (fst v4) (snd<|snd v4)&&decide (K8 v2=0))<|.cd (length e<=1000000)<|.leaf (.dat z8<|HC v9 a e 0) []):=by kernel_rfl
end T6
namespace T36
def T(c:AF)(t l:Int)(s:List Int):Tr:=tree R8 false 9 36<|Ag ([Ba,yc zk,yc zk,zh i64]) (c,t,l,s)
def L1(v1 v2:Int)(v3:List Int)(d:Int)(e:List Bs)(c:List B7)(a:List Bq):Tr:=re ((T ([],([],[])) 0 0 []))<|Ax 32 [(1,.dat i64 v1),(2,.dat i64 v2),(3,.dat (zh i64) v3),(4,.ptr 0 0),(9,.nil),(10,.dat i64 d)] [(0,.box [.dat (zh Bw) e,.dat (zh CY) c,.dat (zh Bk) a])] 1
theorem Aj(c:AF)(t l:Int)(s:List Int):T c t l s=L1 t l s 0 (fst c) (fst<|snd c) (snd<|snd c):=by kernel_rfl
def L2(v1 v2:Int)(v3:List Int)(e:Nat)(d:Int)(o1:List Rd)(f:List Bs)(c:List B7)(a:List Bq):Tr:=re ((stepT R8<|L1 0 0 [] 0 [] [] []).L.L.L.L)<|Ax 32 [(1,.dat i64 v1),(2,.dat i64 v2),(3,.dat (zh i64) v3),(4,.ptr 0 0),(9,.sl 1 1 0 e none),(10,.dat i64 d)] [(1,.arr false 39 zw o1),(0,.box [.dat (zh Bw) f,.dat (zh CY) c,.dat (zh Bk) a])] 2
def L3(v1 v2:Int)(v4:AF)(v9:List Rd):Tr:=re ((stepT R8<|L1 0 0 [] 0 [] [] []).R)<|Ax 32 [(1,.dat i64 v1),(2,.dat i64 v2),(4,PV.A8 Ba v4 0),(9,.dat (zh zw) v9)] [] 0
theorem Ak(v1 v2:Int)(v3:List Int)(a:Int)(e:List Bs)(d:List B7)(c:List Bq):stepT R8 (L1 v1 v2 v3 a e d c)=let f:=decide (a<(length v3:Int));.ite f (.ck (decide (0<=a)&&f)<|.ck (Lt<|getD v3 (toNat a) 0)<|.ck (aa 16)<|L2 v1 v2 v3 1 (zj .i64<|a+1) ([Nr<|getD v3 (toNat a) 0]) e d c) (L3 v1 v2 ((e,d,c)) []):=by kernel_rfl
theorem Az(v1 v2:Int)(v3:List Int)(e:Nat)(a:Int)(o1:List Rd)(f:List Bs)(d:List B7)(c:List Bq):stepT R8 (L2 v1 v2 v3 e a o1 f d c)=let g:=decide (a<(length v3:Int));.ite g (.ck (decide (0<=a)&&g)<|.ck (Lt<|getD v3 (toNat a) 0)<|.ck (ac e (length o1) 16)<|L2 v1 v2 v3 (Nat.add e 1) (zj .i64<|a+1) (o1++[Nr<|getD v3 (toNat a) 0]) f d c) (L3 v1 v2 ((f,d,c))<|take e o1):=by kernel_rfl
theorem Be(v1 v2:Int)(v4:AF)(v9:List Rd):stepT R8 (L3 v1 v2 v4 v9)=.ck (qT v9) (.ck (LD v4 v1 v2)<|.ck (AU (yS v9)&&C0 (Sp.raR v4 v1 v2))<|.leaf (.dat zw<|Gz (yS v9)<|Sp.raR v4 v1 v2) []):=by kernel_rfl
end T36
namespace T35
def T(s:List Int):Tr:=tree xY false 9 35<|Ag ([zh i64]) s
def L1(v0:List Int)(v3:Int):Tr:=re ((T []).R.R)<|Ax 28 [(0,.dat (zh i64) v0),(3,.dat i64 v3)] [] 0
theorem Aj(s:List Int):T s=.ite ((length s:Int)==0) (.leaf (.dat i64 (12:Int)) []) (.di ((length s:Int)>256) (.leaf (.dat i64 (5:Int)) [])<|L1 s 0):=by kernel_rfl
theorem Ak(v0:List Int)(v3:Int):stepT xY (L1 v0 v3)=let a:=decide (v3<(length v0:Int));let b':Tr:=.leaf (.dat i64 (3:Int)) [];.ite a (.ck (decide (0<=v3)&&a)<|.di (getD v0 (toNat v3) 0<1) b'<|.ck (decide (0<=v3)&&a)<|.di (getD v0 (toNat v3) 0>999999999) b'<|L1 v0<|zj .i64<|v3+1) (.leaf (.dat i64 (0:Int)) []):=by kernel_rfl
end T35
namespace T34
def T(c:AF)(t l:Int)(s:List Int):Tr:=tree JS false 9 34<|Ag ([Ba,yc zk,yc zk,zh i64]) (c,t,l,s)
def L1(v1 v2:Int)(v3:List Int)(v4:AF):Tr:=re ((T ([],([],[])) 0 0 []).L.L.L.R)<|Ax 63 [(1,.dat i64 v1),(2,.dat i64 v2),(3,.dat (zh i64) v3),(4,PV.A8 Ba v4 0)] [] 0
theorem Aj(c:AF)(t l:Int)(s:List Int):T c t l s=.ck true (.ck true<|.ck (decide (2<=2)&&true&&(Ki c&&decide (2<=1000)))<|.ite (U8 c [(t,Sp.nTe c),(l,Sp.nLv c)] !=0) (.leaf (.tup [.dat zw [],.dat i64<|U8 c [(t,Sp.nTe c),(l,Sp.nLv c)]]) [])<|L1 t l s c):=by kernel_rfl
def L2(v1 v2:Int)(v3:List Int)(v4:AF)(v0:List Int)(a c:Int):Tr:=re ((stepT JS<|L1 v1 v2 v3 v4))<|Ax 19 [(0,.dat (zh i64) v0),(1,PV.fn (qj 89) [] []),(7,.dat i64 a),(8,.dat i64 c)] [] 0
theorem Ak(v1 v2:Int)(v3:List Int)(v4:AF):stepT JS (L1 v1 v2 v3 v4)=L2 v1 v2 v3 v4 v3 ((length v3:Int)) 0:=by kernel_rfl
def L3(v1 v2:Int)(v4:AF)(d:List Int)(a c:Int):Tr:=re ((stepT JS<|L2 0 0 [] ([],([],[])) [] 0 0).L.L.L.L.L.L.R)<|Ax 63 [(1,.dat i64 v1),(2,.dat i64 v2),(4,PV.A8 Ba v4 0),(13,.nil),(40,.dat (zh i64) d),(41,.dat i64 a),(42,.dat i64 c)] [] 0
theorem Az(v1 v2:Int)(v3:List Int)(v4:AF)(v0:List Int)(c a:Int):stepT JS (L2 v1 v2 v3 v4 v0 c a)=let b':=(length v3:Int);let d:=decide (2<=2)&&true&&decide (2<=1000000);let e:Tr:=.ck true<|.ck true<|.ck d<|.ite (zt [BJ b' 256,Cb (decide (a>=0)) 3] !=0) (.leaf (.tup [.dat zw [],.dat i64<|zt [BJ b' 256,Cb (decide (a>=0)) 3]]) [])<|L3 v1 v2 v4 v3 b' 0;.di (a<c) (.ck (decide (0<=a)&&decide (a<(length v0:Int)))<|.di (getD v0 (toNat a) 0<1) e<|.di (getD v0 (toNat a) 0>999999999) e<|L2 v1 v2 v3 v4 v0 c<|zj .i64<|a+1) (.ck true<|.ck true<|.ck d<|.ite (zt [BJ b' 256,Cb false 3] !=0) (.leaf (.tup [.dat zw [],.dat i64<|zt [BJ b' 256,Cb false 3]]) [])<|L3 v1 v2 v4 v3 b' 0):=by kernel_rfl
def L4(v1 v2:Int)(v4:AF)(a:Nat)(d:List Int)(c e:Int)(f:List Ad):Tr:=re ((stepT JS<|L3 0 0 ([],([],[])) [] 0 0).L.L.L.L)<|Ax 63 [(1,.dat i64 v1),(2,.dat i64 v2),(4,PV.A8 Ba v4 0),(13,.sl 0 4 0 a none),(40,.dat (zh i64) d),(41,.dat i64 c),(42,.dat i64 e)] [(0,.arr false 117 An f)] 1
def L5(v1 v2:Int)(v4:AF)(a:List Ad):Tr:=re ((stepT JS<|L3 0 0 ([],([],[])) [] 0 0).R)<|Ax 63 [(1,.dat i64 v1),(2,.dat i64 v2),(4,PV.A8 Ba v4 0),(13,.dat (zh An) a)] [] 0
theorem Be(v1 v2:Int)(v4:AF)(c:List Int)(d a:Int):stepT JS (L3 v1 v2 v4 c d a)=.di (a<d) (.ck (decide (0<=a)&&decide (a<(length c:Int)))<|.ck true<|.ck (aa 64)<|L4 v1 v2 v4 1 c d (zj .i64<|a+1)<|[((getD c (toNat a) 0,BI<|getD c (toNat a) 0),1,BI 1)]) (L5 v1 v2 v4 []):=by kernel_rfl
theorem B1(v1 v2:Int)(v4:AF)(a:Nat)(d:List Int)(e c:Int)(f:List Ad):stepT JS (L4 v1 v2 v4 a d e c f)=.di (c<e) (.ck (decide (0<=c)&&decide (c<(length d:Int)))<|.ck true<|.ck (ac a (length f) 64)<|L4 v1 v2 v4 (Nat.add a 1) d e (zj .i64<|c+1)<|f++[((getD d (toNat c) 0,BI<|getD d (toNat c) 0),1,BI 1)]) (L5 v1 v2 v4<|take a f):=by kernel_rfl
theorem D0(v1 v2:Int)(v4:AF)(a:List Ad):stepT JS (L5 v1 v2 v4 a)=let b':=((oQ a,vX a),sD a,lR a);let c:=cU v4 v1 v2;let d:=Fu b'<|Sp.teF c;.ck (qC a) (.ck (LD v4 v1 v2)<|.ck (Sp.okV c)<|.ck (ya b'&&ya (Sp.teF c))<|.ck (Sp.CA d)<|.leaf (.tup [.dat zw<|Qr d,.dat i64<|Q0 d]) []):=by kernel_rfl
end T34
namespace T92
def T(l:List Ad):Tr:=tree nU false 9 92<|Ag ([zh An]) l
def L1(v0:List Ad)(c a:Int):Tr:=re ((T []).L.L.L)<|Ax 24 [(0,.dat (zh An) v0),(2,.ptr 0 0)] [(0,.box [.dat i64 c,.nil,.dat i64 a,.nil])] 1
theorem Aj(l:List Ad):T l=let a:Tr:=.cd ((3*(0+length l)+2000)*64<=562949953421312)<|.ck (Sa ([]++l)&&decide (Nat.add 0 (length l)=length ([]++l))&&true)<|L1 (take (Nat.add 0<|length l)<|Ex<|[]++l) 0 0;.di (0<length l) a (.both (.ck (Sa [])<|L1 [] 0 0) a):=by kernel_rfl
theorem Ak(v0:List Ad)(g a:Int):stepT nU (L1 v0 g a)=let d:=B2 (Sp.mX v0)<|Sp.mY v0;let b':=((2,BI 2),1,BI 1);let c:=(length v0:Int);let f:=Sh.nlist<|yc IntKind.u64;let e:=qm (zj .i64<|c-1) 2;.ck true (.ck (decide (0<=zj .i64 e)&&decide (zj .i64 e<c))<|.ck true<|.ck (decide (0<=zj .i64 (qm c 2))&&decide (zj .i64 (qm c 2)<c))<|.ck (ya (Sp.mX v0)&&ya (Sp.mY v0))<|.ck true<|.ck (ya d&&ya b'&&decide (Sp.vI (2,BI 2)≠0))<|.leaf (PV.agg [.dat i64<|nP d b',.dat f<|tM d b',.dat i64<|nL d b',.dat f<|vO d b']) []):=by kernel_rfl
end T92
namespace T157
def T(a:Rd):Tr:=tree AfS false 9 157<|Ag ([zw]) a
theorem Aj(a:Rd):T a=.ck (AU a&&AU [(49:UInt8),47,50]) (.leaf (.dat zw<|DR a [(49:UInt8),47,50]) []):=by kernel_rfl
end T157
end
end Go.Pe
namespace Go.Sp
def La(x:Ad):Rat:=Rat.divInt (vI x.1)<|vI x.2
end Go.Sp
namespace Go.Pe
open Sp
open Go.Det
open Go.Sp (Ad)
theorem RS.val{k:Nat}{x:Ad}{X:Rat}(h:RS k x X):X=La x:=by
 unfold La;rw[h.r.vn,h.r.vd];exact(Rat.num_divInt_den X).symm
theorem P6{l:List Ad}(h0:0<l.length)(h:∀x∈l,vQ x):(Ex l).Perm l:=by
 have p:=(GP h0 h).1.map<|SY l;have e:(yr l.length).map (SY l)=l:=by
  refine yt (by rw[zo,zq]) fun i c a=>?_
  rw[yi,List.getElem_range];unfold SY ix;rw[wd a,ze,zd a,zl]
 rw[e]at p;exact p
theorem yN{l:List Ad}{K:Nat}(f:K<=4000)(h0:0<l.length)(h:∀x∈l,RS K x<|La x):(Ex l).map La=K5 (l.map La):=by
 have ok:∀x∈l,vQ x:=fun x u=>⟨_,(h x u).mono f⟩
 have p:=P6 h0 ok;obtain⟨s,m⟩:=GP h0 ok;have il:(DQ l).length=l.length:=by rw[s.length_eq,zq]
 refine Tp ?_ (dI _)<|(p.map _).trans (SX _).symm;rw[List.pairwise_map,List.pairwise_iff_getElem];intro i j d e c;have v:(Ex l).length=l.length:=p.length_eq;have g:∀k (t:k<(Ex l).length),(Ex l)[k]=SY l ((DQ l).getD k 0):=fun k t=>by
  simp only[Ex,yi];rw[ze,zd ae];rfl
 have q:=m i j c ae;rw[<-g i d, <-g j e]at q;have a:=h _<|p.mem_iff.1<|zm d;have b:=h _<|p.mem_iff.1<|zm e;rw[b.Uo a]at q;exact qi.1 q
theorem AcD{l:List Ad}{K:Nat}(g:K<=1500)(h0:0<l.length)(h:∀x∈l,RS K x<|La x):RS (K+K+2) (Sp.mdF l) (eW<|l.map La):=by
 have ok:∀x∈l,vQ x:=fun x f=>⟨_,(h x f).mono ae⟩
 have p:=P6 h0 ok;have v:=yN ae h0 h;have i:(Ex l).length=l.length:=p.length_eq;have d:∀k,k<l.length->RS K ((Ex l).getD k Sp.zeF) ((K5<|l.map La).getD k 0):=fun k j=>by
  have c:k<(Ex l).length:=ae
  rw[<-v,ze,ze,yp,zd c];exact h _<|p.mem_iff.1<|zm c
 have a:=d ((l.length-1)/2) ae;have b:=d (l.length/2) ae;have t:RS 1 (Sp.iF 2) ((2:Int):Rat):=Hw af af af;have r:=(a.add b ae ae).div t ae af (by decide+kernel);have e:eW (l.map La)=((K5<|l.map La).getD ((l.length-1)/2) 0+(K5<|l.map La).getD (l.length/2) 0)/((2:Int):Rat):=by
  unfold eW Ad2;rw[WS,zo];rfl
 rw[e];exact r
section
open List Int Prod
namespace T52
def T[Srt](c:AF)(n:Int):Tr:=tree GK false 9 52<|Ag ([Ba,yc zk]) (c,n)
theorem Aj[Srt](c:AF)(n:Int):T c n=.leaf (PV.agg [.dat i64 n,.dat i64 (↑(length<|fst<|snd c):Int)]) []:=by kernel_rfl
end T52
namespace T53
def T[Srt](c:AF)(n:Int):Tr:=tree GK false 9 53<|Ag ([Ba,yc zk]) (c,n)
theorem Aj[Srt](c:AF)(n:Int):T c n=.leaf (PV.agg [.dat i64 n,.dat i64 (↑(length<|snd<|snd c):Int)]) []:=by kernel_rfl
end T53
namespace T95
def T[Srt](c:AF)(t h:Int):Tr:=tree T2 false 9 95<|Ag ([Ba,yc zk,yc zk]) (c,t,h)
def L1[Srt](v1 v2:Int)(v3:AF)(c:Bs)(d a:Int):Tr:=re ((T ([],([],[])) 0 0).L)<|Ax 38 [(1,.dat i64 v1),(2,.dat i64 v2),(3,PV.A8 Ba v3 0),(6,.ptr 0 0),(7,PV.A8 Bw c 0)] [(0,.box [.dat i64 d,.nil,.dat i64 a,.nil])] 1
theorem Aj[Srt](c:AF)(t h:Int):T c t h=.ck (decide (0<=h)&&decide (h<(↑(length<|fst c):Int))) (L1 t h c ((getD (fst c) (toNat h) ([],[],[],[],[]))) 0 0):=by kernel_rfl
def L2[Srt](v1 v2:Int)(v3:AF)(s:Bs)(t e:Int)(l:Nat)(i j m:Int)(c:List Int)(d:Int)(g:List Int)(q f:Int)(o1:List Rd)(k:Int)(a:Int):Tr:=re ((stepT T2<|L1 v1 v2 v3 s t e).L.L.L.L)<|Ax 22 [(1,PV.fn (qj 96) [] []),(4,.ptr 2 0),(5,.ptr 3 0),(9,.sl 1 1 0 l none),(10,.dat i64 i),(11,.dat i64 j)] [(3,.box [.dat i64 m,.dat wU c,.dat i64 d,.dat wU g]),(2,.box [.dat i64 q,.nil,.dat i64 f,.nil]),(1,.arr false 39 zw o1),(0,.box [.dat i64 k,.nil,.dat i64 a,.nil])] 4
theorem Ak[Srt](v1 v2:Int)(v3:AF)(c:Bs)(d a:Int):stepT T2 (L1 v1 v2 v3 c d a)=.ck (decide (0<=v1)&&decide (v1<(↑(length<|fst<|snd v3):Int))) (.ck (decide (0<=v2)&&decide (v2<(↑(length<|snd<|getD (fst<|snd v3) (toNat v1) ([],[])):Int)))<|.ck true<|.ck true<|L2 v1 v2 v3 c d a 3 3 0 0 (BI 0) 1 (BI 1) 0 0 ([fst c,fst<|snd c,fst<|snd<|snd c]) d a):=by kernel_rfl
theorem Az[Srt](v1 v2:Int)(v3:AF)(s:Bs)(t d:Int)(k:Nat)(j a v:Int)(e:List Int)(g:Int)(i:List Int)(y f:Int)(o1:List Rd)(m:Int)(c:Int):stepT T2 (L2 v1 v2 v3 s t d k j a v e g i y f o1 m c)=let b':=((v,e),g,i);let x:=snd<|getD (fst<|snd v3) (toNat v1) ([],[]);let u:=getD o1 (toNat a) [];let l:=((getD x (toNat v2) 0,BI<|getD x (toNat v2) 0),1,BI 1);let q:=Cw u;.di (a<j) (.ck (decide (0<=a)&&decide (a<(↑k:Int)))<|.cd (toNat a<length o1)<|.ck (DS u)<|.ck (ya b'&&ya q)<|L2 v1 v2 v3 s t d k j (zj .i64<|a+1) (LG b' q) (Mm b' q) (Mw b' q) (LJ b' q) y f o1 m c) (.ck (ya l&&ya b')<|.ck (Sp.Ds<|fst<|B2 l b')<|.di (Q7 (B2 l b')<0) (.ck true<|.leaf (PV.agg [.dat i64 (0:Int),.dat wU<|BI 0,.dat i64 (1:Int),.dat wU<|BI 1]) [])<|.leaf (PV.agg [.dat i64<|LG l b',.dat wU<|Mm l b',.dat i64<|Mw l b',.dat wU<|LJ l b']) []):=by kernel_rfl
end T95
namespace T99
def T[Srt](c:AF)(t h l:Int):Tr:=tree rA false 9 99<|Ag ([Ba,yc zk,yc zk,yc zk]) (c,t,h,l)
def L1[Srt](e g f d c:Ad)(i a:Int):Tr:=re ((T ([],([],[])) 0 0 0).L.L.L.L.L.L.L)<|Ax 60 [(8,.ptr 0 0),(10,PV.A8 An e 0),(11,PV.A8 An g 0),(12,PV.A8 An f 0),(13,PV.A8 An d 0),(14,PV.A8 An c 0)] [(0,.box [.dat i64 i,.nil,.dat i64 a,.nil])] 1
theorem Aj[Srt](c:AF)(t h l:Int):T c t h l=let a:=snd<|getD (snd<|snd c) (toNat l) ([],[],[],[],[]);let b':=fst<|snd<|snd<|snd<|getD (fst c) (toNat h) ([],[],[],[],[]);let d:=Cw<|fst a;.ck (decide (0<=l)&&decide (l<(↑(length<|snd<|snd c):Int))) (.ck (decide (0<=h)&&decide (h<(↑(length<|fst c):Int)))<|.ck (DS b')<|.ck (Sp.okP c t h)<|.ck (DS<|fst a)<|.ck (DS<|fst<|snd a)<|.ck (ya d&&ya (Cw b'))<|L1 ((Cw b')) ((TW c t h)) d ((Cw<|fst<|snd a)) ((B2 d<|Cw b')) 0 0):=by kernel_rfl
def L2[Srt](e g f d c:Ad)(i a:Int):Tr:=re ((stepT rA<|L1 ((0,[]),(0,[])) ((0,[]),(0,[])) ((0,[]),(0,[])) ((0,[]),(0,[])) ((0,[]),(0,[])) 0 0).L.R)<|Ax 60 [(8,.ptr 0 0),(10,PV.A8 An e 0),(11,PV.A8 An g 0),(12,PV.A8 An f 0),(13,PV.A8 An d 0),(14,PV.A8 An c 0)] [(0,.box [.dat i64 i,.nil,.dat i64 a,.nil])] 1
theorem Ak[Srt](g c d f a:Ad)(j e:Int):stepT rA (L1 g c d f a j e)=let i:=FV c d;.ck (Sp.CA c&&Sp.CA a) (.di (Dh c a<=0) (.ck (ya c&&ya d)<|.ck (ya i&&ya a&&decide (Sp.vI (fst a)≠0))<|.leaf (PV.agg [.dat i64<|nP i a,.dat wU<|tM i a,.dat i64<|nL i a,.dat wU<|vO i a]) [])<|L2 g c d f a j e):=by kernel_rfl
theorem Az[Srt](d e a c f:Ad)(k g:Int):stepT rA (L2 d e a c f k g)=let b':=Fu e f;let j:=B2 c d;let i:=KJ (FV b' c) j;.ck (ya e&&ya f) (.ck (ya b'&&ya c)<|.ck (ya c&&ya d)<|.ck (ya (FV b' c)&&ya j&&decide (Sp.vI (fst j)≠0))<|.ck (ya a&&ya i)<|.leaf (PV.agg [.dat i64<|LG a i,.dat wU<|Mm a i,.dat i64<|Mw a i,.dat wU<|LJ a i]) []):=by kernel_rfl
end T99
namespace T60
def T[Srt](l:List Int):Tr:=tree XR false 9 60<|Ag ([zh i64]) l
def L1[Srt](v5:List Int)(a c:Int):Tr:=re ((T []))<|Ax 15 [(5,.dat (zh i64) v5),(6,.dat i64 a),(7,.dat i64 c)] [] 0
theorem Aj[Srt](l:List Int):T l=L1 l ((length l:Int)) 0:=by kernel_rfl
theorem Ak[Srt](v5:List Int)(c a:Int):stepT XR (L1 v5 c a)=.di (a<c) (.ck (decide (0<=a)&&decide (a<(length v5:Int)))<|.ite (getD v5 (toNat a) 0 !=0) (.leaf (.dat i64<|getD v5 (toNat a) 0) [])<|L1 v5 c<|zj .i64<|a+1) (.leaf (.dat i64 (0:Int)) []):=by kernel_rfl
end T60
namespace T91
def T[Srt](c:Bool)(e:Int):Tr:=tree XR false 9 91<|Ag ([z8,yc zk]) (c,e)
theorem Aj[Srt](c:Bool)(e:Int):T c e=.ite c (.leaf (.dat i64 e) []) (.leaf (.dat i64 (0:Int)) []):=by kernel_rfl
end T91
namespace T90
def T[Srt](n m:Int):Tr:=tree Agn false 9 90<|Ag ([yc zk,yc zk]) (n,m)
theorem Aj[Srt](n m:Int):T n m=.ck true (.ck true<|.ck (decide (2<=2)&&true&&decide (2<=1000000))<|.leaf (.dat i64<|zt [Cb (n==0) 12,Cb (decide (n>m)) 5]) []):=by kernel_rfl
end T90
namespace T54
def T[Srt](a:Ad):Tr:=tree Ag4 false 9 54<|Ag ([An]) a
theorem Aj[Srt](a:Ad):T a=let c:=((fst a),fst<|snd a,snd<|snd a);.ck (Sp.CA c) (.ite (JO c) (.leaf (.tup [.dat zw [],.dat i64 (4:Int)]) [])<|.ck (Sp.CA c)<|.leaf (.tup [.dat zw<|KQ c,.dat i64 (0:Int)]) []):=by kernel_rfl
end T54
namespace T17
def T[Srt](a:Rd)(e b:Int)(w:Rd):Tr:=tree bD false 9 17<|Ag ([zw,yc zk,yc zk,zw]) (a,e,b,w)
theorem Aj[Srt](a:Rd)(e b:Int)(w:Rd):T a e b w=let b':Tr:=.leaf (.bl false) [];let c:Tr:=.ite (e==0) (.leaf (.dat z8<|a==w) []) b';.ite (b==0) (.cd (length w<=1000000)<|.ite (FR w !=0) (.ite (a==[]) (.leaf (.dat z8<|e==FR w) []) b') c) (.ite (b !=0) (.ite (a==[]) (.leaf (.dat z8<|e==b) []) b') c):=by kernel_rfl
end T17
namespace T93
def T[Srt](n:Int):Tr:=tree AcR false 9 93<|Ag ([yc zk]) n
theorem Aj[Srt](n:Int):T n=.ck (Cn n) (.ck (CG (Sp.rN n,Sp.rW n))<|.leaf (.dat zw<|F8 (Sp.rN n,Sp.rW n)) []):=by kernel_rfl
end T93
end
namespace T60
theorem loop[Srt]{Q:PV->Ob->Prop}(l:List Int)(j:l.length<=1000000)(a:∀ob,Q (.dat i64<|zt l) ob):∀(r:List Int) (i:Nat),l.drop i=r->i<=l.length->zt l=zt r->Ends XR (L1 l ((l.length:Int)) (i:Int)) Q
 |[],i,h,f,e=>by
  have s:=drop_nil h f;refine Ends.Ah (Ak ..) (Ends.ff (w8 ae)<|z7 ?_);rw[e]at a;exact a _
 |x::r,i,h,f,e=>by
  obtain⟨g,k,q⟩:=drop_cons (d:=0) h;refine Ends.Ah (Ak ..) ?_;conv=>zeta
  have m:=wn (i:=i) ae;rw[m,Int.toNat_natCast,k];refine yv (w4 ae) (yv (ad ae ae) ?_);by_cases c:x=0
  ·subst c;refine Ends.ff rfl (loop l j a r (i+1) q g ?_);rw[e];rfl
  ·have ex:zt (x::r)=x:=by unfold zt;rw[wd c]
   refine yv (by simpa using c)<|z7 ?_;rw[e,ex]at a;exact a _
theorem ok[Srt]:Af AY 60 GV:=by
 refine BA Uc<|fun(l:List Int) hl=>?_;exact Ends.eq (Aj l)<|loop l (w6 hl) (fun ob=>Ac.of rfl rfl rfl) l 0 rfl (qh _) rfl
end T60
theorem T91.ok[Srt]:Af AY 91 Gw:=by
 refine BA Uc<|fun⟨c,e⟩ _=>?_;refine Ends.eq (T91.Aj c e)<|qe (fun h=>z7<|Ac.of rfl rfl ?_)<|fun h=>z7<|Ac.of rfl rfl ?_
 ·show e=Cb c e;rw[h];rfl
 ·show(0:Int)=Cb c e;rw[h];rfl
theorem jY[Srt]:Cv Agn:=Aa T60.ok<|Aa T91.ok AB
theorem count_eq(n m:Int):zt [Cb (n==0) 12,Cb (decide (n>m)) 5]=BJ n m:=by
 rw[Km,E8,E8];unfold BJ;by_cases h:n=0
 ·subst h;rfl
 ·have e:(n==0)=false:=by simpa using h
  rw[e,wc (show ¬(if false=true then(12:Int)else 0)≠0 by decide),wc h];by_cases k:m<n
  ·rw[wd k,w4<|show n>m from k];rfl
  ·rw[wc k,w8<|show ¬n>m from k];rfl
theorem T90.ok[Srt]:Af AY 90 Zr:=by
 refine BA jY<|fun(i:Int×Int) _=>?_;obtain⟨n,m⟩:=i;refine Ends.eq (T90.Aj n m) ?_;conv=>zeta
 rw[count_eq];exact yv rfl (yv rfl (yv rfl (z7<|Ac.of rfl rfl rfl)))
end Go.Pe
namespace Go.Sp
theorem PE(n:Int):F8 (rN n,rW n)=AO ((n:Int):Rat):=by rw[MJ,Tc]
theorem T3{n:Int}{k:Nat}(h:n.natAbs<10^k)(a:1<=k):Nu k (AO (n:Rat)) (n:Rat):=by
 have c:10^1<=10^k:=Nat.pow_le_pow_right af a;refine⟨rfl,?_,?_⟩
 ·rw[Rat.num_intCast];exact h
 ·rw[Rat.den_intCast];omega
theorem Nu.nz{k:Nat}{s:Rd}{q:Rat}(h:Nu k s q)(a:k<=1400)(h0:q≠0):Wf s=true:=uC (h.C0 a) fun e=>h0 ((h.Jk ae).1 e)
theorem My:Nu 1 [48] 0:=by
 refine⟨by decide+kernel,?_⟩;unfold C3;decide+kernel
theorem mD{s:Rd}{n:Nat}(h:Cm s (n:Int)=true):YE s<=n:=by
 unfold Cm at h;rw[zc,zc,zc,w5,w5,w5,w5]at h;obtain⟨⟨_,a⟩,c⟩:=h;unfold YE;omega
end Go.Sp
namespace Go.Pe
open Sp
open Go.Det
theorem vM[Srt]:Cv Ag4:=Aa T118.ok<|Aa T119.ok AB
theorem T54.ok[Srt]:Af AY 54 aR:=by
 refine BA vM<|fun(a:(Int×List Int)×(Int×List Int)) ha=>?_;refine Ends.eq (T54.Aj a)<|yv ha<|qe (fun c=>z7<|Ac.of rfl rfl ?_)<|fun c=>yv ha<|z7<|Ac.of rfl rfl ?_
 ·have c:JO a=true:=c;show([],(4:Int))=(Qr a,Q0 a);unfold Qr Q0;rw[wd c,wd c]
 ·have c:JO a=false:=c;show(KQ a,(0:Int))=(Qr a,Q0 a);unfold Qr Q0;rw[wc (by rw[c];decide),wc<|by rw[c];decide]
theorem iV[Srt]:Cv bD:=Aa T61.ok AB
theorem T17.ok[Srt]:Af AY 17 Tf:=by
 refine BA iV<|fun(i:Rd×Int×Int×Rd) hi=>?_;obtain⟨a,e,bad,w⟩:=i;have g:∀v ob,v=HC a e w bad->Ac Tf (a,e,bad,w) (.dat .bool v) ob:=fun v ob h=>Ac.of rfl rfl h
 have f:∀v ob,v=HC a e w bad->Ac Tf (a,e,bad,w) (.bl v) ob:=fun v ob h=>Ac.of rfl rfl h
 have key:∀x:Int,x=(if bad=0 then FR w else bad)->HC a e w bad=if x≠0 then decide (a=[])&&decide (e=x)else decide (e=0)&&decide (a=w):=by
  rintro x rfl;rfl
 have yes:∀(x:Int) ob,x=(if bad=0 then FR w else bad)->x≠0->Ends bD (.ite (a==[]) (.leaf (PV.dat z8<|e==x) ob)<|.leaf (PV.bl false) ob) (Ac Tf (a,e,bad,w)):=fun x ob h h0=>by
  have k:=key x h;rw[wd h0]at k;refine qe (fun c=>z7<|g _ _ ?_)<|fun c=>z7<|f _ _ ?_
  ·have c:a=[]:=by simpa using c
   rw[k,w4 c,Bool.true_and];rfl
  ·have c:a≠[]:=by simpa using c
   rw[k,w8 c];rfl
 have no:∀(x:Int) ob,x=(if bad=0 then FR w else bad)->x=0->Ends bD (.ite (e==0) (.leaf (PV.dat z8<|a==w) ob)<|.leaf (PV.bl false) ob) (Ac Tf (a,e,bad,w)):=fun x ob h h0=>by
  have k:=key x h;rw[wc<|by rw[h0];decide]at k;refine qe (fun c=>z7<|g _ _ ?_)<|fun c=>z7<|f _ _ ?_
  ·have c:e=0:=by simpa using c
   rw[k,w4 c,Bool.true_and];by_cases h:a=w
   ·rw[w4 h];simpa using h
   ·rw[w8 h];simpa using h
  ·have c:e≠0:=by simpa using c
   rw[k,w8 c];rfl
 refine Ends.eq (T17.Aj a e bad w)<|qe (fun c=>yv hi<|qe (fun d=>?_)<|fun d=>?_)<|fun c=>qe (fun d=>?_)<|fun d=>?_
 ·have c:bad=0:=by simpa using c
  exact yes _ _ (by rw[wd c]) (by simpa using d)
 ·have c:bad=0:=by simpa using c
  exact no _ _ (by rw[wd c]) (by simpa using d)
 ·have c:bad≠0:=by simpa using c
  exact yes _ _ (by rw[wc c]) c
 ·have c:bad≠0:=by simpa using c
  exact wh (by simpa using d) c
theorem eZ[Srt]:Cv AcR:=Aa T143.ok<|Aa T148.ok AB
theorem T93.ok[Srt]:Af AY 93 Yt:=by
 refine BA eZ<|fun(n:Int) a=>?_;have a:n.natAbs<9223372036854775808:=w6 a;have c:Cn n=true:=ad ae ae;refine Ends.eq (T93.Aj n)<|yv c<|yv (O6 c)<|z7<|Ac.of rfl rfl ?_;exact PE n
section
open List Int Prod
namespace T115
def T[Srt](c:AF):Tr:=tree LP false 9 115<|Ag ([Ba]) c
def L1[Srt](f:List Bs)(e d:Int)(g:List Bs)(c:List B7)(a:List Bq):Tr:=re ((T ([],([],[]))).L.R)<|Ax 116 [(1,.ptr 0 0),(26,.dat (zh Bw) f),(27,.dat i64 e),(28,.dat i64 d)] [(0,.box [.dat (zh Bw) g,.dat (zh CY) c,.dat (zh Bk) a])] 1
theorem Aj[Srt](c:AF):T c=let a:=(↑(length<|fst c):Int);.ck true (.ite (BJ a 36 !=0) (.leaf (.dat i64<|BJ a 36) [])<|L1 (fst c) a 0 (fst c) (fst<|snd c)<|snd<|snd c):=by kernel_rfl
def L2[Srt](f:List B7)(e d:Int)(o1:List (Rd×Bool))(g:List Bs)(c:List B7)(a:List Bq):Tr:=re ((stepT LP<|L1 [] 0 0 [] [] []).R.L.R)<|Ax 116 [(1,.ptr 0 0),(8,PV.mp 1),(47,.dat (zh CY) f),(48,.dat i64 e),(49,.dat i64 d)] [(1,Obj.map zw z8 o1),(0,.box [.dat (zh Bw) g,.dat (zh CY) c,.dat (zh Bk) a])] 2
theorem Ak[Srt](e:List Bs)(f c:Int)(i:List Bs)(a:List B7)(d:List Bq):stepT LP (L1 e f c i a d)=let g:=getD e (toNat c) ([],[],[],[],[]);let b':=(length a:Int);.di (c<f) (.ck (decide (0<=c)&&decide (c<(length e:Int)))<|.ck (Sp.Bw g)<|.ite (LC g !=0) (.leaf (.dat i64<|LC g) [])<|L1 e f (zj .i64<|c+1) i a d) (.ck true<|.ite (BJ b' 8 !=0) (.leaf (.dat i64<|BJ b' 8) [])<|L2 a b' 0 [] i a d):=by kernel_rfl
def L3[Srt](l:List B7)(k j:Int)(o1:List (Rd×Bool))(t:List Bs)(e:List B7)(d:List Bq)(v0:List Int)(q s:Int)(m:Rd)(f:List Int)(i:List (Rd×Bool))(g:List Bs)(c:List B7)(a:List Bq):Tr:=re ((stepT LP<|L2 l k j o1 t e d).L.L)<|Ax 19 [(0,.dat (zh i64) v0),(1,PV.fn (qj 165) [] []),(7,.dat i64 q),(8,.dat i64 s)] [(2,.box [.dat zw m,.dat (zh i64) f]),(1,Obj.map zw z8 i),(0,.box [.dat (zh Bw) g,.dat (zh CY) c,.dat (zh Bk) a])] 3
def L4[Srt](c:List Bq)(a d:Int)(e:List (Rd×Bool)):Tr:=re ((stepT LP<|L2 [] 0 0 [] [] [] []).R.L.R)<|Ax 116 [(14,PV.mp 0),(94,.dat (zh Bk) c),(95,.dat i64 a),(96,.dat i64 d)] [(0,Obj.map zw z8 e)] 1
theorem Az[Srt](e:List B7)(f c:Int)(o1:List (Rd×Bool))(i:List Bs)(d:List B7)(a:List Bq):stepT LP (L2 e f c o1 i d a)=let g:=getD e (toNat c) ([],[]);let b':=(length a:Int);.di (c<f) (.ck (decide (0<=c)&&decide (c<(length e:Int)))<|L3 e f c o1 i d a (snd g) ((↑(length<|snd g):Int)) 0 (fst g) (snd g) o1 i d a) (.ck true<|.ite (BJ b' 8 !=0) (.leaf (.dat i64<|BJ b' 8) [])<|L4 a b' 0 []):=by kernel_rfl
theorem Be[Srt](m:List B7)(l k:Int)(o1:List (Rd×Bool))(y:List Bs)(j:List B7)(i:List Bq)(v0:List Int)(u e:Int)(q:Rd)(d:List Int)(f:List (Rd×Bool))(g:List Bs)(c:List B7)(a:List Bq):stepT LP (L3 m l k o1 y j i v0 u e q d f g c a)=let b':=Option.getD (EB zw z8 q f) false;let t:=(length d:Int) !=(↑(length g):Int);let v:=L2 m l (zj .i64<|k+1) (H4 zw z8 q true f) g c a;let s:=!Sp.isName q;let z:=decide (4<=4)&&true&&decide (4<=1000000);let x:Tr:=.ck true<|.ck true<|.ck true<|.ck true<|.ck true<|.ck z<|.ite (zt [Cb s 8,Cb b' 9,Cb t 2,Cb (decide (e>=0)) 3] !=0) (.leaf (.dat i64<|zt [Cb s 8,Cb b' 9,Cb t 2,Cb (decide (e>=0)) 3]) []) v;.di (e<u) (.ck (decide (0<=e)&&decide (e<(length v0:Int)))<|.di (getD v0 (toNat e) 0<1) x<|.di (getD v0 (toNat e) 0>10000) x<|L3 m l k o1 y j i v0 u (zj .i64<|e+1) q d f g c a) (.ck true<|.ck true<|.ck true<|.ck true<|.ck true<|.ck z<|.ite (zt [Cb s 8,Cb b' 9,Cb t 2,Cb false 3] !=0) (.leaf (.dat i64<|zt [Cb s 8,Cb b' 9,Cb t 2,Cb false 3]) []) v):=by kernel_rfl
theorem B1[Srt](c:List Bq)(d a:Int)(f:List (Rd×Bool)):stepT LP (L4 c d a f)=let e:=getD c (toNat a) ([],[],[],[],[]);let b':=Option.getD (EB zw z8 (fst e) f) false;.di (a<d) (.ck (decide (0<=a)&&decide (a<(length c:Int)))<|.ck (Sp.Bk e)<|.ck true<|.ck (decide (2<=2)&&true&&decide (2<=1000000))<|.ite (zt [Ke e,Cb b' 9] !=0) (.leaf (.dat i64<|zt [Ke e,Cb b' 9]) [])<|L4 c d (zj .i64<|a+1)<|H4 zw z8 (fst e) true f) (.leaf (.dat i64 (0:Int)) []):=by kernel_rfl
end T115
namespace T51
def T[Srt](c:AF)(l:List (Int×Int)):Tr:=tree xK false 9 51<|Ag ([Ba,zh<|yz i64 i64]) (c,l)
def L1[Srt](c:AF)(l:List (Int×Int))(v0:List (Int×Int))(e f:Int)(g:List Bs)(d:List B7)(a:List Bq):Tr:=re ((T c l).L.R)<|Ax 19 [(0,.dat (zh<|yz i64 i64) v0),(1,PV.fn (qj 117) [] []),(7,.dat i64 e),(8,.dat i64 f)] [(0,.box [.dat (zh Bw) g,.dat (zh CY) d,.dat (zh Bk) a])] 1
theorem Aj[Srt](c:AF)(l:List (Int×Int)):T c l=.ck (Ki c) (.ite (N6 c !=0) (.leaf (.dat i64<|N6 c) [])<|L1 c l l ((length l:Int)) 0 (fst c) (fst<|snd c)<|snd<|snd c):=by kernel_rfl
theorem Ak[Srt](c:AF)(l:List (Int×Int))(v0:List (Int×Int))(f e:Int)(i:List Bs)(d:List B7)(a:List Bq):stepT xK (L1 c l v0 f e i d a)=let g:Tr:=.ck true<|.leaf (.dat i64<|Cb (decide (e>=0)) 10) [];let b':=getD v0 (toNat e) (0,0);.di (e<f) (.ck (decide (0<=e)&&decide (e<(length v0:Int)))<|.di (fst b'<0) g<|.di (fst b'>=snd b') g<|L1 c l v0 f (zj .i64<|e+1) i d a) (.ck true<|.leaf (.dat i64<|Cb false 10) []):=by kernel_rfl
end T51
end
end Go.Pe
