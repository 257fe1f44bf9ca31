import Derived.Test.YtlapcggejnojjaaGreatDoorX04
import Derived.Test.YtlapcggejnojjaaGreatDoorX05
import Derived.Shelf.Strings.OnBuilder
import Derived.Shelf.Strconv.Itoa3
import Derived.Lib.LaidTab
import Derived.Test.YtlapcggejnojjaaGreatDoorX06
/- A part of a proof (no law is stated here). Made by program out of texts by AI agents. -/
open Bool renaming and_eq_true → zc, or_true → zU
open Nat renaming eq_of_beq_eq_true → zd, beq → ze, mul_le_mul_right → zk, le_of_ble_eq_true → zl, succ_mul → zm, lt_of_lt_of_le → zo, le_refl → zp, ble_eq_true_of_le → zq, ble → zr, beq_refl → zw, mul_one → zz, lt_succ_self → zD, add_assoc → zE, add → zJ, blt → zN, add_mul → zS, sub_self → zV
open List renaming mem_singleton → zf, getElem?_eq_none → zh, getElem?_take_of_lt → zj, getElem?_drop → zn, mem_of_mem_drop → zt, all_eq_true → zu, getElem?_eq_some_iff → zx, getElem?_eq_getElem → zy, getElem?_map → zB, ext_getElem? → zC, mem_of_mem_take → zF, replicate_succ → zH, getElem?_range → zI, length_append → zK, drop_take → zL, replicate → zM, take_of_length_le → zO, length_map → zP, length_nil → zQ, length → zR
open Option renaming map_eq_some_iff → zg, map_some → zG
open Option.some renaming injEq → zi
open Int renaming ofNat → zA
open Go.Det.V renaming ok → zT
section
namespace Go.Det
open Go.Proofs
def JX:Go.Shelf.Ren:=⟨fun|156=>84|165=>134|166=>135|169=>136|240=>186|241=>187|276=>225|277=>226|n=>n,fun|31=>142|9=>9|3=>3|4=>4|0=>0|20=>20|72=>191|76=>160|70=>188|37=>189|75=>159|127=>239|164=>267|5=>5|80=>176|n=>n,fun|n=>n⟩
theorem RY:Go.Proofs.Lays.n156 Tryz.prog JX:=
  { mixed:=by kernel_rfl,
    f156:=Tryz.func84.trans (congrArg some (by kernel_rfl)),
    f165:=Tryz.func134.trans (congrArg some (by kernel_rfl)),
    f166:=Tryz.func135.trans (congrArg some (by kernel_rfl)),
    f169:=Tryz.func136.trans (congrArg some (by kernel_rfl)),
    f240:=Tryz.func186.trans (congrArg some (by kernel_rfl)),
    f241:=Tryz.func187.trans (congrArg some (by kernel_rfl)),
    f276:=Tryz.func225.trans (congrArg some (by kernel_rfl)),
    f277:=Tryz.func226.trans (congrArg some (by kernel_rfl)),
    t0:=Tryz.underlying0,
    a0:=Tryz.isAgg0,
    z0:=Tryz.sizeOf0,
    v0:=Tryz.zeroValue0,
    t3:=Tryz.underlying3,
    a3:=Tryz.isAgg3,
    z3:=Tryz.sizeOf3,
    v3:=Tryz.zeroValue3,
    t4:=Tryz.underlying4,
    a4:=Tryz.isAgg4,
    z4:=Tryz.sizeOf4,
    v4:=Tryz.zeroValue4,
    t9:=Tryz.underlying9,
    a9:=Tryz.isAgg9,
    z9:=Tryz.sizeOf9,
    v9:=Tryz.zeroValue9,
    t20:=Tryz.underlying20,
    a20:=Tryz.isAgg20,
    z20:=Tryz.sizeOf20,
    v20:=Tryz.zeroValue20,
    t31:=Tryz.underlying142,
    a31:=Tryz.isAgg142,
    z31:=Tryz.sizeOf142,
    v31:=Tryz.zeroValue142,
    t37:=Tryz.underlying189,
    a37:=Tryz.isAgg189,
    z37:=Tryz.sizeOf189,
    v37:=Tryz.zeroValue189,
    t70:=Tryz.underlying188,
    a70:=Tryz.isAgg188,
    z70:=Tryz.sizeOf188,
    v70:=Tryz.zeroValue188,
    t72:=Tryz.underlying191,
    a72:=Tryz.isAgg191,
    z72:=Tryz.sizeOf191,
    v72:=Tryz.zeroValue191,
    t75:=Tryz.underlying159,
    a75:=Tryz.isAgg159,
    z75:=Tryz.sizeOf159,
    v75:=Tryz.zeroValue159,
    t76:=Tryz.underlying160,
    a76:=Tryz.isAgg160,
    z76:=Tryz.sizeOf160,
    v76:=Tryz.zeroValue160,
    t127:=Tryz.underlying239,
    a127:=Tryz.isAgg239,
    z127:=Tryz.sizeOf239,
    v127:=Tryz.zeroValue239,
    t164:=Tryz.underlying267,
    a164:=Tryz.isAgg267,
    z164:=Tryz.sizeOf267,
    v164:=Tryz.zeroValue267 }
theorem Y3:Builder.Extra Tryz.prog JX:=
  { sizeBuilder:=by kernel_rfl,liesBuilder:=by kernel_rfl,t5:=Tryz.underlying5,a5:=Tryz.isAgg5,z5:=Tryz.sizeOf5,v5:=Tryz.zeroValue5,infoByte:=by kernel_rfl,cellsByte:=by kernel_rfl,sizeByte:=by kernel_rfl,neB5:=by decide }
open Go.Proofs.Tryz (prog)
noncomputable section
def OH:List V→Option (List (List UInt8))
  |[]=>some []
  | .str s::l=>(OH l).map (s:: ·)
  |_=>none
def Y1:List V→H→Option (V×H)
  |[.nils,.str _],h=>some (.str [],h)
  |[.sl b off len _ _,.str sep],h=>match h.get b with
    |some (.cells cs _ _)=>match OH (Ps len (HG off cs))with
      |some xs=>bif ze (Em xs) len&&(zr len 140737488355328&&zr (Em (Lib.join xs sep)) 140737488355328)then some (.str (Lib.join xs sep),h)else none
      |none=>none
    |_=>none
  |_,_=>none
theorem K2:∀ {l:List V} {xs:List (List UInt8)},OH l=some xs→∀(j:Nat) x,xs[j]?=some x→l[j]?=some (.str x)
  |[],xs,h,j,x,hx=>by cases h;simp at hx
  | .str s::l,xs,h,j,x,hx=>by
    simp only[OH,zg]at h
    obtain⟨ys,h1,rfl⟩:=h
    cases j with
    |zero=>simp at hx;subst hx;rfl
    |succ j=>simp at hx;simpa using K2 h1 j x hx
  | .bool _::_,_,h,_,_,_| .int _ _::_,_,h,_,_,_| .nilp::_,_,h,_,_,_| .ptr _ _::_,_,h,_,_,_| .nils::_,_,h,_,_,_| .sl _ _ _ _ _::_,_,h,_,_,_| .esl::_,_,h,_,_,_| .es0::_,_,h,_,_,_
  | .junk::_,_,h,_,_,_| .nilm::_,_,h,_,_,_| .map _::_,_,h,_,_,_| .fn _ _ _::_,_,h,_,_,_| .yld _::_,_,h,_,_,_| .nilf::_,_,h,_,_,_| .iface _ _::_,_,h,_,_,_| .nili::_,_,h,_,_,_| .agg _::_,_,h,_,_,_| .tup _::_,_,h,_,_,_=>by cases h
theorem H8(s:List UInt8):(bytesOf s).data.toList=s:=by simp[bytesOf]
theorem NB(xs:List (List UInt8)):(xs.map bytesOf).map (·.data.toList)=xs:=by
  rw[List.map_map]
  conv=>rhs;rw[←List.map_id xs]
  exact List.map_congr_left fun x _=>H8 x
def Sc:TP:=fun f=>bif ze f 84 then some Y1 else none
theorem QG:Kd prog Sc:=by
  intro f q hq p h w args args' v h' hr _ ha hd
  unfold Sc at hq
  cases hf:ze f 84 with
  |false=>rw[hf]at hq;cases hq
  |true=>
    rw[hf]at hq;cases hq
    cases zd hf
    unfold Y1 at hd
    split at hd
    case h_3=>cases hd
    case h_1=>
      rename_i sep
      cases hd
      obtain⟨x,y,hl,h1,h2⟩:=ha.two
      have:args'= #[x,y]:=Array.toList_inj.1 hl
      subst this
      simp only[Aa]at h1 h2;subst h1 h2
      refine(Any.strings_Join_none RY Y3 none 0 (bytesOf sep) w).mono ?_
      rintro e w' ⟨rfl,rfl⟩
      exact⟨_,p,rfl,by simp[Aa,bytesOf],Ext.refl hr⟩
    case h_2=>
      rename_i b off len cap o sep
      split at hd
      case h_2=>cases hd
      rename_i cs t fz hg
      split at hd
      case h_2=>cases hd
      rename_i xs hxs
      cases hb:(ze (Em xs) len&&(zr len 140737488355328&&zr (Em (Lib.join xs sep)) 140737488355328))with
      |false=>rw[hb]at hd;cases hd
      |true=>
        rw[hb]at hd;cases hd
        simp only[zc]at hb
        obtain⟨hb1,hb2,hb3⟩:=hb
        have hb1:=zd hb1
        have hb2:=zl hb2
        have hb3:=zl hb3
        rw[C5]at hb1 hb3
        obtain⟨x,y,hl,h1,h2⟩:=ha.two
        have:args'= #[x,y]:=Array.toList_inj.1 hl
        subst this
        simp only[Aa]at h1 h2;subst h2
        obtain⟨r,n,c,k1,rfl,k3,k4,_,_⟩:=h1
        obtain⟨r',n',ob,g1,g2,g3⟩:=hr.obj b _ hg
        rw[k1]at g1;cases g1
        simp only[EE]at g3
        obtain⟨ca,fz',rfl,_,g5,g6,_⟩:=g3
        have hcells:∀(j:Nat) x,(xs.map bytesOf)[j]?=some x→w.cell? ⟨r,off+j,none⟩=some (.string x):=by
          intro j x hx
          rw[zB,zg]at hx
          obtain⟨s,hs,rfl⟩:=hx
          have h3:=K2 hxs j s hs
          rw[I2,Iz]at h3
          have hj:j<len:=by
            have:=(zx.1 h3).1
            simp at this;omega
          rw[zj hj,zn]at h3
          have hlt:=(zx.1 h3).1
          have hlen:=g6.1
          have hlt2:off+j<(ca.toList.take cs.length).length:=by omega
          have h4:=g6.2 (off+j) _ _ h3 (zy hlt2) rfl
          simp only[Aa]at h4
          have h5:ca[off+j]?=some (.string (bytesOf s)):=by
            rw[←h4]
            rw[List.getElem_take, ←Array.getElem?_toList]
            exact zy _
          unfold World.cell?
          rw[g2]
          exact h5
        have hJ:=Any.strings_Join RY Y3 r off c (xs.map bytesOf) (bytesOf sep) w hcells (Array.getElem?_eq_some_iff.1 g2).1 (by rw[zP];omega) (by rw[zP];omega) (by rw[NB,H8];exact hb3)
        rw[zP,hb1,NB,H8]at hJ
        refine hJ.mono ?_
        rintro e w' ⟨rfl,hbw⟩
        exact⟨_,p,rfl,by simp[Aa,bytesOf],T7 hr hbw⟩
end
end Go.Det
end
section
namespace Go.Det
noncomputable section
open Go.Proofs.Tryz (prog)
noncomputable def eZ:Ctx:=Sk C7 (bW Sc fU)
theorem aX:eZ.Ok prog:=QC SZ (QO QG ZJ)
theorem TF:Ez eZ:=J0 IY _
noncomputable def A7:Ff:=[(7,[],.bool true)]
theorem bI:Bu eZ 1000 A7=true:=by kernel_rfl
theorem gF:Kd prog (EO A7):=NR aX TF Og bI
end
end Go.Det
end
section
namespace Go.Pe
open Go.Det
noncomputable section
@[reducible] def Bb:List Sh→Sh
 |[]=>.unit
 |[a]=>a
 |a::b::l=>.pair a (Bb (b::l))
def Ah:(l:List Sh)→(Bb l).T→List PV
 |[],_=>[]
 |[a],x=>[Bz a x]
 |a::b::l,x=>Bz a x.1::Ah (b::l) x.2
structure Az where
 ins:List Sh
 pre:(Bb ins).T→Bool
 outs:List Sh
 f:(Bb ins).T→(Bb outs).T
 nd:Bool:=false
def Sh.sc:Sh→Bool
 | .int _| .bool| .str| .unit| .fnv=>true
 | .list _| .nlist _=>false
 | .pair a b=>a.sc&&b.sc
structure Sz where
 ins:List Sh
 ty:TypeId
 el:Sh
 pre:(Bb ins).T→List el.T→Bool
 g:(Bb ins).T→List el.T→List el.T
structure A2 where
 C:Ctx
 sp:FuncId→Option Az
 pl:FuncId→Nat→List Nat
 ct:FuncId→Nat→Bool
 fz:FuncId→Nat→List (Nat×Sh)
 ws:FuncId→Option Sz:=fun _=>none
def GH(st:AD)(s:Sh)(p:PV):Option (Bool×s.T):=
 bif Jn p==s.MV then
  match EI st p.cells with
  |some (c,cs)=>match Dc s (Jc s.leaves cs).2 with
   |some x=>some ((Jc s.leaves cs).1&&c,x)
   |none=>none
  |none=>none
 else none
def CA(st:AD):(l:List Sh)→List PV→Option (Bool×(Bb l).T)
 |[],[]=>some (true,())
 |[a],[p]=>GH st a p
 |a::b::l,p::ps=>match GH st a p,CA st (b::l) ps with
  |some (c,x),some (d,y)=>some (c&&d,(x,y))
  |_,_=>none
 |_,_=>none
def one:List PV→PV
 |[v]=>v
 |l=>.tup l
def V4(sp:Az)(args:List PV)(st:AD)(k:PV→AD→Tr):Tr:=
 match CA st sp.ins args with
 |some (c,i)=>.ite (c&&sp.pre i) (k (one (Ah sp.outs (sp.f i))) (bif sp.outs.all Sh.sc then st else AZ (args.flatMap PV.cells) st)) .fail
 |none=>.fail
def Q6(w:Sz)(args:List PV)(st:AD)(k:PV→AD→Tr):Tr:=
 match args.reverse with
 | .sl id sz 0 n none::r=>match CA st w.ins r.reverse,(AZ (r.reverse.flatMap PV.cells) st).obj id with
  |some (c,i),some (.arr false t s l)=>bif ze t w.ty then
    match DQ (.list s) (.list w.el) l with
    |some l'=>.ite (c&&w.pre i l'&&decide (n=zR (α:=w.el.T) l')&&ze sz w.el.sz) (k (.tup []) ((AZ (r.reverse.flatMap PV.cells) st).setObj id (.arr false w.ty w.el (w.g i l')))) .fail
    |none=>.fail
   else .fail
  |_,_=>.fail
 | .nil::r=>match CA st w.ins r.reverse with
  |some (c,i)=>.ite (c&&w.pre i []) (k (.tup []) (AZ (r.reverse.flatMap PV.cells) st)) .fail
  |none=>.fail
 |_=>.fail
mutual
def eI:PV→List Nat
 | .ptr id _| .eptr id _ _ _| .sl id _ _ _ _| .mp id| .yl id=>[id]
 | .agg l| .tup l=>IU l
 | .fn _ a b=>IU a++IU b
 |_=>[]
def IU:List PV→List Nat
 |[]=>[]
 |v::vs=>eI v++IU vs
end
def bY:Obj→List Nat
 | .box cs=>IU cs
 | .lp _ _ _ _ _ _ _ sl=>IU (sl.map (·.2))
 |_=>[]
def GJ(st:AD)(base:Nat):Nat→List Nat→List Nat→List Nat
 |0,_,acc=>acc
 |_+1,[],acc=>acc
 |f+1,i::is,acc=>bif zN i base||acc.any (ze i)then GJ st base f is acc
  else match st.obj i with
   |some o=>GJ st base f (is++bY o) (acc++[i])
   |none=>GJ st base f is acc
def KV(base:Nat):List Nat→Nat→Nat→Option Nat
 |[],_,i=>bif zN i base then some i else none
 |j::js,n,i=>bif ze i j then some n else KV base js (zJ n 1) i
mutual
def Ek(f:Nat→Option Nat):PV→PV
 | .ptr i o=>match f i with|some j=>.ptr j o|none=>.any
 | .eptr i a b c=>match f i with|some j=>.eptr j a b c|none=>.any
 | .sl i a b c d=>match f i with|some j=>.sl j a b c d|none=>.any
 | .mp i=>match f i with|some j=>.mp j|none=>.any
 | .yl i=>match f i with|some j=>.yl j|none=>.any
 | .agg l=>.agg (Ij f l)
 | .tup l=>.tup (Ij f l)
 | .fn g a b=>.fn g (Ij f a) (Ij f b)
 |v=>v
def Ij(f:Nat→Option Nat):List PV→List PV
 |[]=>[]
 |v::vs=>Ek f v::Ij f vs
end
def Oe(f:Nat→Option Nat):Obj→Obj
 | .box cs=>.box (Ij f cs)
 | .lp g r ps asg body s n sl=>.lp g r ps asg body s n (sl.map fun x=>(x.1,Ek f x.2))
 |o=>o
def low(f:Nat→Option Nat)(base:Nat):Ob→Ob
 |[]=>[]
 |(i,o)::l=>bif zN i base then(i,Oe f o)::low f base l else low f base l
def kept(st:AD)(f:Nat→Option Nat):List Nat→Nat→Ob→Ob
 |[],_,acc=>acc
 |j::js,n,acc=>match st.obj j with
  |some o=>kept st f js (zJ n 1) ((n,Oe f o)::acc)
  |none=>kept st f js (zJ n 1) acc
def Mv(base:Nat):Ob→List Nat
 |[]=>[]
 |(i,o)::l=>bif zN i base then bY o++Mv base l else Mv base l
def AB(n:Nat)(vs:List (Nat×PV))(ob:Ob)(nx:Nat):AD:=⟨n,DW vs,ob,nx⟩
def canon(base:Nat)(L:List Nat)(st:AD):AD:=
 let vs:=L.map fun t=>(t,st.get t)
 let ids:=GJ st base 100 (IU (vs.map (·.2))++Mv base st.ob) []
 let f:=KV base ids base
 AB st.n (vs.map fun x=>(x.1,Ek f x.2)) (kept st f ids base (low f base st.ob)) (zJ base ids.length)
def X8(base:Nat)(x:Nat×Sh)(st:AD):AD:=
 match st.get x.1 with
 | .nil=>st.set x.1 (.dat (.list x.2) [])
 | .sl id sz off len _=>match st.obj id with
  |some (.arr _ e s l)=>bif ze sz s.sz then(st.setObj id (.arr true e s l)).set x.1 (.dat (.list s) ((l.drop off).take len))else st
  |_=>st
 | .ptr id 0=>bif zr base id then match st.obj id with
   |some (.box ps)=>match Dc x.2 ps with
    |some v=>(st.NX id).set x.1 (.dptr x.2 v 0)
    |none=>st
   |_=>st
  else st
 |_=>st
def YH(base:Nat):List (Nat×Sh)→AD→AD
 |[],st=>st
 |x::l,st=>YH base l (X8 base x st)
def Ck:Code→Nat
 | .region id _ _=>id
 | .seq a _=>Ck a
 | .block _ b=>Ck b
 | .loop b=>Ck b
 | .scope b=>Ck b
 |_=>0
def KZ(X:A2)(f:FuncId)(r:Nat)(base:Nat)(st:AD):AD:=canon base (X.pl f r) (YH base (X.fz f r) st)
inductive bE where
 |fn (g:FuncId)
 |rnd (id:Nat)
abbrev D6:=bE→List PV→AD→(PV→AD→Tr)→Tr
def KY(d:Option Nat)(k:AD→Tr):PO→Tr
 | .bad=>.fail
 | .val v st=>match st.put d v with
  |some st'=>k st'
  |none=>.fail
 | .ite c a b=>.ite c (KY d k a) (KY d k b)
inductive CK where
 |no
 |bad
 |yes (g:bE) (args:List PV)
def HT(st:AD)(o:Op):CK:=
 match o with
 | .call c=>match c.callee with
  | .value f=>match M0 st f,Kf st c.args.toList with
   |some (.fn (.func g) first cap),some args=>.yes (.fn g) (first++args++cap)
   |some (.yl id),some args=>.yes (.rnd id) args
   |_,_=>.bad
  |_=>.no
 |_=>.no
def FR(T:BA)(call:D6)(o:Oper)(st:AD)(k:AD→Tr):Tr:=
 match HT st o.op with
 | .yes g args=>call g args st fun v st=>match st.put o.dst v with
  |some st'=>k st'
  |none=>.fail
 | .bad=>.fail
 | .no=>KY o.dst k (pop o.op T st)
def RI(T:BA)(st:AD)(o:Op):Option (PV×AD):=
 match o with
 | .convert s d x=>match T.und s,T.und d,M0 st x with
  |some .string,some (.slice e),some (.dat .str l)=>match T.und e with
   |some (.int .u8)=>some (.sl st.nx 1 0 (zR l) none,st.push (.arr false e (.int .u8) (List.map (fun b:UInt8=>(b.toNat:Int)) l)))
   |_=>none
  |_,_,_=>none
 |_=>none
def Zg(T:BA)(call:D6)(o:Oper)(st:AD)(k:AD→Tr):Tr:=
 match RI T st o.op with
 |some (v,st1)=>match st1.put o.dst v with
  |some st2=>k st2
  |none=>.fail
 |none=>FR T call o st k
def guarded(ops:Array Oper)(o:Oper)(st:AD)(yes no:AD→Tr):Tr:=
 match o.guard with
 |none=>yes st
 |some (j,want)=>match (ops[j]?).bind (·.dst)with
  |some t=>bif zN t st.n then(match st.get t with
   | .bl b=>bif b==want then yes st else no st
   | .dat .bool b=>bif want then .ite b (yes (st.set t (.bl true))) (no (st.set t (.bl false)))else .ite b (no (st.set t (.bl true))) (yes (st.set t (.bl false)))
   | .tup _=>no st
   | .ub=>.both (bif want then yes (st.set t (.bl true))else no (st.set t (.bl true))) (bif want then no (st.set t (.bl false))else yes (st.set t (.bl false)))
   |_=>.fail)else .fail
  |none=>.fail
def Jj(o:Oper)(k:AD→Tr)(st:AD):Tr:=
 match st.put o.dst (.tup [])with
 |some st'=>k st'
 |none=>.fail
def prun(T:BA)(call:D6)(ops:Array Oper):List Oper→AD→(AD→Tr)→Tr
 |[],st,k=>k st
 |o::rest,st,k=>guarded ops o st
   (fun st=>Zg T call o st fun st'=>prun T call ops rest st' k)
   (fun st=>Jj o (fun st'=>prun T call ops rest st' k) st)
def YZ(st:AD)(o:Op):Option (List Nat):=
 match o with
 | .load _ x=>match M0 st x with
  |some (.ptr id _)|some (.eptr id _ _ _)=>some [id]
  |some (.dptr _ _ _)=>some []
  |_=>none
 | .convert _ _ x=>match M0 st x with
  |some (.dat (.int _) _)|some (.dat .str _)=>some []
  |_=>none
 | .call c=>match c.callee,Kf st c.args.toList with
  | .builtin .len,some [.dat _ _]| .builtin .len,some [.sl _ _ _ _ _]| .builtin .len,some [.nil]=>some []
  | .builtin .len,some [.mp id]=>some [id]
  |_,_=>none
 | .lookup _ x _ _=>match M0 st x with
  |some (.mp id)=>some [id]
  |some .nilm=>some []
  |_=>none
 |_=>none
def EZ(sp:FuncId→Option Az)(st:AD)(o:Op):Option (List Nat):=
 match o with
 | .store _ x _=>match M0 st x with
  |some (.ptr id _)|some (.eptr id _ _ _)=>some [id]
  |_=>none
 | .mapUpdate _ x _ _| .insert _ x _ _=>match M0 st x with
  |some (.mp id)=>some [id]
  |_=>none
 | .makeMap _ _| .makeSlice _ _ _=>some []
 | .call c=>match c.callee with
  | .value f=>match M0 st f with
   |some (.fn (.func g) _ _)=>match sp g with
    |some _=>some []
    |none=>none
   |_=>none
  | .builtin .append=>match Kf st c.args.toList with
   |some (.sl id _ _ _ _::_)=>some [id]
   |some _=>some []
   |none=>none
  | .builtin .delete=>match Kf st c.args.toList with
   |some (.mp id::_)=>some [id]
   |_=>none
  |_=>none
 |_=>none
abbrev Rs:=List (Nat×Option (List Nat))
def Tu:Option (List Nat)→Option (List Nat)→Bool
 |some a,some b=>a.all fun i=> !(b.any (ze i))
 |some [],none=>true
 |_,_=>false
def IM(st:AD):Option (List Nat)→Bool
 |some l=>l.all fun i=>Kp (st.obj i)
 |none=>false
def apart(anc:Nat→Nat→Bool)(i:Nat)(st:AD)(t:Option (List Nat))(rs:Rs):Bool:=rs.all fun r=>anc i r.1||(Tu r.2 t&&IM st r.2)
def behind(st:AD)(t:Option (List Nat))(rs:Rs):Rs:=rs.map fun r=>bif Tu r.2 t&&IM st r.2 then r else(r.1,none)
def Vv(st:AD)(o:Op):Bool:=match HT st o with
 | .yes (.rnd _) _=>false
 |_=>true
def HL(T:BA)(sp:FuncId→Option Az)(call:D6)(ops:Array Oper)(anc:Nat→Nat→Bool):List Nat→AD→Rs→(AD→Tr)→Tr
 |[],st,_,k=>k st
 |i::is,st,rs,k=>match ops[i]? with
  |none=>.fail
  |some o=>guarded ops o st
    (fun st=>bif Db o then FR T call o st (fun st'=>HL T sp call ops anc is st' (bif Mw o then(i,YZ st o.op)::rs else rs) k)
     else bif BE o then FR T call o st (fun st'=>HL T sp call ops anc is st' rs k)
     else bif apart anc i st (EZ sp st o.op) rs&&Vv st o.op then FR T call o st (fun st'=>HL T sp call ops anc is st' (behind st (EZ sp st o.op) rs) k)else .fail)
    (fun st=>bif BQ o then(bif apart anc i st (some []) rs then Jj o (fun st'=>HL T sp call ops anc is st' (behind st (some []) rs) k) st else .fail)
     else Jj o (fun st'=>HL T sp call ops anc is st' rs k) st)
def exec(X:A2)(call callD:D6)(nd ro:Bool)(d:Nat)(f:FuncId)(base:Nat):Code→AD→(DX→AD→Tr)→Tr
 | .skip,st,k| .label _,st,k=>k .normal st
 | .region _ ops dr,st,k=>bif dr then(bif !ro||FZ ops (Dl ops)then HL X.C.T X.sp callD ops (Dl ops).a (Dl ops).ord st [] (k .normal)else .fail)else prun X.C.T call ops ops.toList st (k .normal)
 | .seq a b,st,k=>exec X call callD nd ro d f base a st fun e st'=>match e with
  | .normal=>bif X.ct f (Ck b)then .cut nd ro d f base b (KZ X f (Ck b) base st') k else exec X call callD nd ro d f base b st' k
  |e=>k e st'
 | .cond x a b,st,k=>match M0 st x with
  |some (.bl t)=>bif t then exec X call callD nd ro d f base a st k else exec X call callD nd ro d f base b st k
  |some (.dat .bool t)=>match x with
   | .tmp s=>.ite t (exec X call callD nd ro d f base a (st.set s (.bl true)) k) (exec X call callD nd ro d f base b (st.set s (.bl false)) k)
   |_=>.ite t (exec X call callD nd ro d f base a st k) (exec X call callD nd ro d f base b st k)
  |some .ub=>match x with
   | .tmp s=>.both (exec X call callD nd ro d f base a (st.set s (.bl true)) k) (exec X call callD nd ro d f base b (st.set s (.bl false)) k)
   |_=>.fail
  |_=>.fail
 | .block id b,st,k=>exec X call callD nd ro d f base b st fun e st'=>match e with
  | .exit i=>bif ze i id then k .normal st' else k e st'
  |e=>k e st'
 | .loop b,st,k=>.loop nd ro d f base b (KZ X f (Ck b) base st) k
 | .exit i,st,k=>k (.exit i) st
 | .ret,st,k=>k .ret st
 | .scope b,st,k=>exec X call callD nd ro d f base b st k
 |_,_,_=>.fail
def US(T:BA)(st:AD):ResultVar→Option PV
 | .tmp t=>some (st.get t)
 | .cell a t=>match Kb T st t (st.get a)with
  | .val v _=>some v
  | .G9 _ v _=>some v
  |_=>none
def Ig(T:BA)(st:AD):List ResultVar→List Bool
 |[]=>[]
 | .tmp _::rs=>Ig T st rs
 | .cell a t::rs=>match Kb T st t (st.get a)with
  | .G9 c _ _=>c::Ig T st rs
  |_=>Ig T st rs
def MK:List Bool→Tr→Tr
 |[],t=>t
 |c::cs,t=>.ite c (MK cs t) .fail
def Va(T:BA)(st:AD):List ResultVar→Option (List PV)
 |[]=>some []
 |r::rs=>match US T st r,Va T st rs with
  |some v,some vs=>some (v::vs)
  |_,_=>none
def C4:List PV→Nat→List (Nat×PV)
 |[],_=>[]
 |v::vs,i=>(i,v)::C4 vs (zJ i 1)
def enter(X:A2)(call callD:D6)(nd:Bool)(d:Nat)(f:FuncId)(args:List PV)(st:AD)(k:PV→AD→Tr):Tr:=
 match X.C.fn f with
 |none=>.fail
 |some i=>bif i.cert then
   exec X call callD nd false d f st.nx i.body (AB (zJ args.length (Nat.sub i.ntmps args.length)) (C4 args 0) st.ob st.nx) fun e s=>match e with
    | .exit _=>.fail
    |_=>match Va X.C.T s i.results.toList with
     |some vs=>MK (Ig X.C.T s i.results.toList) (k (one vs) ⟨st.n,st.fr,s.ob,s.nx⟩)
     |none=>.fail
  else .fail
def JN:List Tmp→List PV→AD→AD
 |t::ts,v::vs,st=>JN ts vs (bif zN t st.n then st.set t v else st)
 |_,_,st=>st
def U9(X:A2)(call callD:D6)(nd:Bool)(d:Nat)(id:Nat)(args:List PV)(st:AD)(k:PV→AD→Tr):Tr:=
 match st.obj id with
 |some (.lp f _ ps asg b .ready n sl)=>bif ze args.length ps.size then
   exec X call callD nd true d f st.nx asg (JN ps.toList args (AB n sl st.ob st.nx)) fun e s=>match e with
   | .normal=>match s.obj id with
    |some (.lp f1 r1 ps1 asg1 b1 .ready n1 sl1)=>
     exec X call callD nd true d f st.nx b (s.setObj id (.lp f1 r1 ps1 asg1 b1 .busy n1 sl1)) fun e2 s2=>
      match s2.obj id with
      |some (.lp f2 r2 ps2 asg2 b2 _ n2 sl2)=>match e2 with
       | .normal=>k (.bl true) ⟨st.n,st.fr,(s2.setObj id (.lp f2 r2 ps2 asg2 b2 .ready n2 sl2)).ob,s2.nx⟩
       | .ret=>k (.bl false) ⟨st.n,st.fr,(s2.setObj id (.lp f2 r2 ps2 asg2 b2 .ret n2 sl2)).ob,s2.nx⟩
       | .exit i=>k (.bl false) ⟨st.n,st.fr,(s2.setObj id (.lp f2 r2 ps2 asg2 b2 (.exit i) n2 sl2)).ob,s2.nx⟩
      |_=>.fail
    |_=>.fail
   |_=>.fail
  else .fail
 |_=>.fail
def BG(X:A2)(nd:Bool):Nat→D6
 |0=>fun _ _ _ _=>.fail
 |d+1=>fun c args st k=>match c with
  | .fn g=>match X.sp g with
   |some sp=>bif nd|| !sp.nd then V4 sp args st k else .fail
   |none=>match X.ws g with
    |some w=>Q6 w args st k
    |none=>match X.C.prim g,X.C.spec g with
     |none,none=>enter X (BG X nd d) (BG X false d) nd d g args st k
     |_,_=>.fail
  | .rnd _=>.fail
def tree(X:A2)(nd:Bool)(d:Nat)(f:FuncId)(args:List PV):Tr:=
 enter X (BG X nd d) (BG X false d) nd d f args (AB 0 [] [] 0) fun v st=>.leaf v st.ob
def body(X:A2)(nd ro:Bool)(d:Nat)(f:FuncId)(base:Nat)(b:Code)(st:AD)(k:DX→AD→Tr):Tr:=
 exec X (BG X nd d) (BG X false d) nd ro d f base b st fun e st'=>match e with
  | .normal=>.loop nd ro d f base b (KZ X f (Ck b) base st') k
  |e=>k e st'
def A8(X:A2)(nd ro:Bool)(d:Nat)(f:FuncId)(base:Nat)(b:Code)(st:AD)(k:DX→AD→Tr):Tr:=exec X (BG X nd d) (BG X false d) nd ro d f base b st k
inductive Ev (X:A2) (Q:PV→Ob→Prop):Nat→Tr→Prop where
 |leaf {n:Nat} {v:PV} {ob:Ob}:Q v ob→Ev X Q n (.leaf v ob)
 |ite {n:Nat} {c:Bool} {a b:Tr}:(c=true→Ev X Q n a)→(c=false→Ev X Q n b)→Ev X Q n (.ite c a b)
 |both {n:Nat} {a b:Tr}:Ev X Q n a→Ev X Q n b→Ev X Q n (.both a b)
 |cut {n:Nat} {nd ro:Bool} {d:Nat} {f:FuncId} {base:Nat} {b:Code} {st:AD} {k:DX→AD→Tr}:Ev X Q n (A8 X nd ro d f base b st k)→Ev X Q n (.cut nd ro d f base b st k)
 |alts {n m:Nat} {f:Nat→Tr}:(∀i,i<m→Ev X Q n (f i))→Ev X Q n (.alts m f)
 |loop {n:Nat} {nd ro:Bool} {d:Nat} {f:FuncId} {base:Nat} {b:Code} {st:AD} {k:DX→AD→Tr}:Ev X Q n (body X nd ro d f base b st k)→Ev X Q (n+1) (.loop nd ro d f base b st k)
end
abbrev Fz:=Nat→Option (List V)
abbrev C8:=Nat→Option (Nat×Nat)
def DC(F:Fz):(s:Sh)→s.T→List V→Prop
 | .int k,x,cs=>cs=[.int k x]
 | .bool,x,cs=>cs=[.bool x]
 | .str,x,cs=>cs=[.str x]
 | .list s,l,cs=>∃v,cs=[v]∧((l=[]∧(v=.nils∨v=.esl∨v=.es0))∨
   ∃b off cap o bs,v=.sl b off l.length cap o∧l.length≤cap∧F b=some bs∧off+l.length*s.sz≤bs.length∧(o=0∨o=s.sz)∧
    ∀i (h:i<l.length),DC F s l[i] ((bs.drop (off+i*s.sz)).take s.sz))
 | .pair a b,x,cs=>∃c d,cs=c++d∧DC F a x.1 c∧DC F b x.2 d
 | .unit,_,cs=>cs=[]
 | .fnv,x,cs=>cs=[match (x:Option Fn)with|some f=>.fn f [] []|none=>.nilf]
 | .nlist s,l,cs=>∃v,cs=[v]∧((l=[]∧v=.nils)∨(l≠[]∧
   ∃b off cap o bs,v=.sl b off l.length cap o∧l.length≤cap∧F b=some bs∧off+l.length*s.sz≤bs.length∧(o=0∨o=s.sz)∧
    ∀i (h:i<l.length),DC F s l[i] ((bs.drop (off+i*s.sz)).take s.sz)))
theorem DC.len{F:Fz}:∀ {s:Sh} {x:s.T} {cs:List V},DC F s x cs→cs.length=s.sz
 | .int _,_,_,h=>by simp only[DC]at h;subst h;rfl
 | .bool,_,_,h=>by simp only[DC]at h;subst h;rfl
 | .str,_,_,h=>by simp only[DC]at h;subst h;rfl
 | .list _,_,_,h=>by simp only[DC]at h;obtain⟨v,rfl,_⟩:=h;rfl
 | .pair a b,x,_,h=>by
  simp only[DC]at h;obtain⟨c,d,rfl,h1,h2⟩:=h;rw[zK,h1.len,h2.len];rfl
 | .unit,_,_,h=>by simp only[DC]at h;subst h;rfl
 | .nlist _,_,_,h=>by simp only[DC]at h;obtain⟨v,rfl,_⟩:=h;rfl
 | .fnv,_,_,h=>by simp only[DC]at h;subst h;rfl
theorem DC.ok{F:Fz}:∀ {s:Sh} {x:s.T} {cs:List V},DC F s x cs→∀v∈cs,v.ok=true
 | .int _,_,_,h=>by simp only[DC]at h;subst h;simp[zT]
 | .bool,_,_,h=>by simp only[DC]at h;subst h;simp[zT]
 | .str,_,_,h=>by simp only[DC]at h;subst h;simp[zT]
 | .list s,_,_,h=>by
  simp only[DC]at h;obtain⟨v,rfl,⟨_,rfl|rfl|rfl⟩|⟨b,off,cap,o,bs,rfl,_⟩⟩:=h<;>simp[zT]
 | .pair a b,x,_,h=>by
  simp only[DC]at h;obtain⟨c,d,rfl,h1,h2⟩:=h;intro v hv;rcases List.mem_append.1 hv with hv|hv
  ·exact h1.ok v hv
  ·exact h2.ok v hv
 | .unit,_,_,h=>by simp only[DC]at h;subst h;simp
 | .fnv,x,_,h=>by simp only[DC]at h;subst h;intro v hv;rw[zf.1 hv];cases (x:Option Fn)<;>rfl
 | .nlist s,_,_,h=>by
  simp only[DC]at h;obtain⟨v,rfl,⟨_,rfl⟩|⟨_,b,off,cap,o,bs,rfl,_⟩⟩:=h<;>simp[zT]
theorem DC.mono{F F':Fz}(hF:∀b cs,F b=some cs→F' b=some cs):∀ {s:Sh} {x:s.T} {cs:List V},DC F s x cs→DC F' s x cs
 | .int _,_,_,h=>by simpa only[DC]using h
 | .bool,_,_,h=>by simpa only[DC]using h
 | .str,_,_,h=>by simpa only[DC]using h
 | .list s,l,_,h=>by
  simp only[DC]at h ⊢;obtain⟨v,rfl,h⟩:=h;refine⟨v,rfl,?_⟩;rcases h with h|⟨b,off,cap,o,bs,h1,h2,h3,h4,h5,h6⟩
  ·exact .inl h
  ·exact .inr ⟨b,off,cap,o,bs,h1,h2,hF _ _ h3,h4,h5,fun i hi=>(h6 i hi).mono hF⟩
 | .pair a b,x,_,h=>by
  simp only[DC]at h ⊢;obtain⟨c,d,rfl,h1,h2⟩:=h;exact⟨c,d,rfl,h1.mono hF,h2.mono hF⟩
 | .unit,_,_,h=>by simpa only[DC]using h
 | .fnv,_,_,h=>by simpa only[DC]using h
 | .nlist s,l,_,h=>by
  simp only[DC]at h ⊢;obtain⟨v,rfl,h⟩:=h;refine⟨v,rfl,?_⟩;rcases h with h|⟨h0,b,off,cap,o,bs,h1,h2,h3,h4,h5,h6⟩
  ·exact .inl h
  ·exact .inr ⟨h0,b,off,cap,o,bs,h1,h2,hF _ _ h3,h4,h5,fun i hi=>(h6 i hi).mono hF⟩
theorem DC.nl{F:Fz}{s:Sh}{l:List s.T}{cs:List V}(h:DC F (.nlist s) l cs):DC F (.list s) l cs:=by
 simp only[DC]at h ⊢;obtain⟨v,rfl,h⟩:=h;rcases h with⟨rfl,rfl⟩|⟨_,h⟩
 ·exact⟨_,rfl,.inl ⟨rfl,.inl rfl⟩⟩
 ·exact⟨_,rfl,.inr h⟩
theorem DC.gA{F:Fz}{s:Sh}{l:List s.T}{cs:List V}(h:DC F (.list s) l cs)(h0:0<l.length):DC F (.nlist s) l cs:=by
 have hne:l≠[]:=by rintro rfl;simp at h0
 simp only[DC]at h ⊢;obtain⟨v,rfl,h⟩:=h;rcases h with⟨rfl,_⟩|h
 ·exact absurd rfl hne
 ·exact⟨_,rfl,.inr ⟨hne,h⟩⟩
mutual
def PR(F:Fz)(ρ:C8)(N:Nat):PV→V→Prop
 | .any,_=>True
 | .bl b,v=>v=.bool b
 | .ub,v=>∃b,v=.bool b
 | .dat s x,v=>DC F s x [v]
 | .nil,v=>v=.nils
 | .nilp,v=>v=.nilp
 | .nilm,v=>v=.nilm
 | .nilf,v=>v=.nilf
 | .nili,v=>v=.nili
 | .agg l,v=>∃cs,v=.agg cs∧AW F ρ N l cs
 | .tup l,v=>∃cs,v=.tup cs∧AW F ρ N l cs
 | .ptr id off,v=>id<N∧∀b n,ρ id=some (b,n)→v=.ptr b off
 | .eptr id sz i off,v=>id<N∧∀b n,ρ id=some (b,n)→v=.ptr b (i*sz+off)
 | .dptr s x off,v=>∃b o cs,v=.ptr b (o+off)∧F b=some cs∧o+s.sz≤cs.length∧DC F s x ((cs.drop o).take s.sz)
 | .sl id sz off len cap,v=>id<N∧∀b n,ρ id=some (b,n)→
   (len≤cap.getD len∧off+cap.getD len≤n∧∃o,(o=0∨o=sz)∧v=.sl b (off*sz) len (cap.getD len) o)∨
   (len=0∧cap=some 0∧off≤n∧(v=.esl∨∃off',v=.sl b off' 0 0 0∧off'≤off*sz))
 | .mp id,v=>id<N∧∀b n,ρ id=some (b,n)→v=.map b
 | .fn f first captured,v=>∃a b,v=.fn f a b∧AW F ρ N first a∧AW F ρ N captured b
 | .yl id,v=>id<N∧∀b n,ρ id=some (b,n)→v=.yld b
def AW(F:Fz)(ρ:C8)(N:Nat):List PV→List V→Prop
 |[],l=>l=[]
 |p::ps,l=>∃v vs,l=v::vs∧PR F ρ N p v∧AW F ρ N ps vs
end
section
variable {F F':Fz}{ρ ρ':C8}{N N':Nat}
@[simp] theorem Bx(l:List V):AW F ρ N [] l↔l=[]:=by simp[AW]
@[simp] theorem AL(p:PV)(ps:List PV)(v:V)(vs:List V):AW F ρ N (p::ps) (v::vs)↔PR F ρ N p v∧AW F ρ N ps vs:=by
 simp only[AW];constructor
 ·rintro⟨_,_,h,h1,h2⟩;cases h;exact⟨h1,h2⟩
 ·rintro⟨h1,h2⟩;exact⟨v,vs,rfl,h1,h2⟩
theorem AW.len:∀ {ps:List PV} {vs:List V},AW F ρ N ps vs→ps.length=vs.length
 |[],vs,h=>by simp at h;simp[h]
 |p::ps,vs,h=>by
  simp only[AW]at h;obtain⟨v,vs,rfl,_,h2⟩:=h;simp[h2.len]
theorem AW.append:∀ {a:List PV} {x:List V} {b:List PV} {y:List V},AW F ρ N a x→AW F ρ N b y→AW F ρ N (a++b) (x++y)
 |[],x,b,y,h,h'=>by simp at h;subst h;simpa using h'
 |p::ps,x,b,y,h,h'=>by
  simp only[AW]at h;obtain⟨v,vs,rfl,h1,h2⟩:=h;simp only[List.cons_append,AL];exact⟨h1,h2.append h'⟩
theorem AW.drop:∀ {a:List PV} {x:List V} (n:Nat),AW F ρ N a x→AW F ρ N (a.drop n) (x.drop n)
 |[],x,n,h=>by simp at h;subst h;simp
 |p::ps,x,0,h=>by simpa using h
 |p::ps,x,n+1,h=>by
  simp only[AW]at h;obtain⟨v,vs,rfl,h1,h2⟩:=h;simpa using h2.drop n
theorem AW.take:∀ {a:List PV} {x:List V} (n:Nat),AW F ρ N a x→AW F ρ N (a.take n) (x.take n)
 |[],x,n,h=>by simp at h;subst h;simp
 |p::ps,x,0,h=>by simp
 |p::ps,x,n+1,h=>by
  simp only[AW]at h;obtain⟨v,vs,rfl,h1,h2⟩:=h;simpa using⟨h1,h2.take n⟩
theorem AW.get:∀ {a:List PV} {x:List V},AW F ρ N a x→∀ {i:Nat} {p:PV},a[i]?=some p→∃v,x[i]?=some v∧PR F ρ N p v
 |[],x,h,i,p,hp=>by simp at hp
 |q::ps,x,h,i,p,hp=>by
  simp only[AW]at h;obtain⟨v,vs,rfl,h1,h2⟩:=h;cases i with
  |zero=>simp at hp;subst hp;exact⟨v,rfl,h1⟩
  |succ i=>simp at hp;simpa using h2.get hp
structure Le(F:Fz)(ρ:C8)(N:Nat)(F':Fz)(ρ':C8)(N':Nat):Prop where
 fz:∀b cs,F b=some cs→F' b=some cs
 rho:∀id,id<N→ρ' id=ρ id∨ρ' id=none
 n:N≤N'
theorem Le.refl:Le F ρ N F ρ N:=⟨fun _ _ h=>h,fun _ _=>.inl rfl,zp _⟩
theorem Le.trans{F'':Fz}{ρ'':C8}{N'':Nat}(a:Le F ρ N F' ρ' N')(b:Le F' ρ' N' F'' ρ'' N''):Le F ρ N F'' ρ'' N'':=
 ⟨fun c cs h=>b.fz c cs (a.fz c cs h),fun id h=>by
  rcases b.rho id (zo h a.n)with e|e
  ·rw[e];exact a.rho id h
  ·exact .inr e,Nat.le_trans a.n b.n⟩
theorem Le.at(hl:Le F ρ N F' ρ' N'){id:Nat}(h:id<N){x:Nat×Nat}(hx:ρ' id=some x):ρ id=some x:=by
 rcases hl.rho id h with e|e
 ·rw[←e];exact hx
 ·rw[e]at hx;cases hx
mutual
theorem PR.mono(hl:Le F ρ N F' ρ' N'):∀ {p:PV} {v:V},PR F ρ N p v→PR F' ρ' N' p v
 | .any,_,_=>by simp[PR]
 | .bl _,_,h=>by simpa only[PR]using h
 | .ub,_,h=>by simpa only[PR]using h
 | .dat s x,_,h=>by simp only[PR]at h ⊢;exact h.mono hl.fz
 | .nil,_,h| .nilp,_,h| .nilm,_,h| .nilf,_,h| .nili,_,h=>by simpa only[PR]using h
 | .agg l,_,h=>by simp only[PR]at h ⊢;obtain⟨cs,rfl,h1⟩:=h;exact⟨cs,rfl,h1.mono hl⟩
 | .tup l,_,h=>by simp only[PR]at h ⊢;obtain⟨cs,rfl,h1⟩:=h;exact⟨cs,rfl,h1.mono hl⟩
 | .ptr _ _,_,h=>by simp only[PR]at h ⊢;exact⟨zo h.1 hl.n,fun b n hb=>h.2 b n (hl.at h.1 hb)⟩
 | .eptr _ _ _ _,_,h=>by simp only[PR]at h ⊢;exact⟨zo h.1 hl.n,fun b n hb=>h.2 b n (hl.at h.1 hb)⟩
 | .dptr s x off,_,h=>by
  simp only[PR]at h ⊢;obtain⟨b,o,cs,h1,h2,h3,h4⟩:=h;exact⟨b,o,cs,h1,hl.fz _ _ h2,h3,h4.mono hl.fz⟩
 | .sl _ _ _ _ _,_,h=>by simp only[PR]at h ⊢;exact⟨zo h.1 hl.n,fun b n hb=>h.2 b n (hl.at h.1 hb)⟩
 | .mp _,_,h=>by simp only[PR]at h ⊢;exact⟨zo h.1 hl.n,fun b n hb=>h.2 b n (hl.at h.1 hb)⟩
 | .fn f a b,_,h=>by
  simp only[PR]at h ⊢;obtain⟨x,y,rfl,h1,h2⟩:=h;exact⟨x,y,rfl,h1.mono hl,h2.mono hl⟩
 | .yl _,_,h=>by simp only[PR]at h ⊢;exact⟨zo h.1 hl.n,fun b n hb=>h.2 b n (hl.at h.1 hb)⟩
theorem AW.mono(hl:Le F ρ N F' ρ' N'):∀ {ps:List PV} {vs:List V},AW F ρ N ps vs→AW F' ρ' N' ps vs
 |[],_,h=>by simpa using h
 |p::ps,_,h=>by
  simp only[AW]at h ⊢;obtain⟨v,vs,rfl,h1,h2⟩:=h;exact⟨v,vs,rfl,h1.mono hl,h2.mono hl⟩
end
theorem PR.lz:∀ {p:PV} {v:V},PR F ρ N p v→PR F ρ N (lz p) v:=by
 intro p v h;unfold Pe.lz;split
 ·simp only[PR]at h ⊢;exact h.nl
 ·exact h
theorem AW.lz:∀ {ps:List PV} {vs:List V},AW F ρ N ps vs→AW F ρ N (ps.map Pe.lz) vs
 |[],_,h=>by simpa using h
 |p::ps,_,h=>by
  simp only[AW]at h;obtain⟨v,vs,rfl,h1,h2⟩:=h;simp only[List.map_cons,AL];exact⟨h1.lz,h2.lz⟩
theorem Uw{s:Sh}{p:PV}{v:V}(h:PR F ρ N p v)(hc:(Qu s p).1=true):PR F ρ N (Qu s p).2 v:=by
 unfold Qu at hc ⊢;split
 ·rename_i s s' x;cases hb:(s==s')with
  |false=>exact h
  |true=>
   have hc:(bif s==s' then(decide (0<zR x),PV.dat s'.nlist x)else(true,PV.dat s'.list x)).1=true:=hc;rw[hb]at hc;simp only[cond_true,decide_eq_true_eq]at hc;simp only[PR,cond_true]at h ⊢;exact h.gA hc
 ·rename_i s s' x;cases hb:(s==s')with
  |false=>exact h
  |true=>simp only[PR,cond_true]at h ⊢;exact h.nl
 ·exact h
theorem M9:∀ {l:List Sh} {ps:List PV} {vs:List V},AW F ρ N ps vs→(Jc l ps).1=true→AW F ρ N (Jc l ps).2 vs
 |[],ps,vs,h,_=>h
 |s::l,[],vs,h,_=>h
 |s::l,p::ps,vs,h,hc=>by
  simp only[AW]at h;obtain⟨v,vs,rfl,h1,h2⟩:=h;simp only[Jc,zc]at hc;simp only[Jc,AL];exact⟨Uw h1 hc.1,M9 h2 hc.2⟩
def Df(F:Fz)(s:Sh)(l:List s.T)(cs:List V):Prop:=cs.length=l.length*s.sz∧∀i (h:i<l.length),DC F s l[i] ((cs.drop (i*s.sz)).take s.sz)
theorem Df.mono(hF:∀b cs,F b=some cs→F' b=some cs){s:Sh}{l:List s.T}{cs:List V}(h:Df F s l cs):Df F' s l cs:=⟨h.1,fun i hi=>(h.2 i hi).mono hF⟩
theorem Df.ok{F:Fz}{s:Sh}{l:List s.T}{cs:List V}(h:Df F s l cs):∀v∈cs,v.ok=true:=by
 intro v hv;obtain⟨k,hk⟩:=List.mem_iff_getElem?.1 hv;have hkl:=(zx.1 hk).1;have hsz:0<s.sz:=by
  rcases Nat.eq_zero_or_pos s.sz with e|e
  ·rw[h.1,e,Nat.mul_zero]at hkl;omega
  ·exact e
 have hi:k/s.sz<l.length:=Nat.div_lt_of_lt_mul (by rw[Nat.mul_comm, ←h.1];exact hkl);refine(h.2 _ hi).ok v ?_;refine List.mem_iff_getElem?.2 ⟨k % s.sz,?_⟩;rw[zj (Nat.mod_lt _ hsz),zn,show k/s.sz*s.sz+k % s.sz=k from by rw[Nat.mul_comm];exact Nat.div_add_mod _ _];exact hk
def DV(F:Fz)(s:Sh)(x:s.T)(v:V):Prop:=(s.MV=true→∃cs,v=.agg cs∧DC F s x cs)∧(s.MV=false→DC F s x [v])
theorem DV.mono(hF:∀b cs,F b=some cs→F' b=some cs){s:Sh}{x:s.T}{v:V}(h:DV F s x v):DV F' s x v:=
 ⟨fun e=>by obtain⟨cs,h1,h2⟩:=h.1 e;exact⟨cs,h1,h2.mono hF⟩,fun e=>(h.2 e).mono hF⟩
inductive MR (F:Fz) (ks vs:Sh):List (ks.T×vs.T)→List (V×V×Nat)→Prop where
 |nil:MR F ks vs [] []
 |cons {k:ks.T} {v:vs.T} {l:List (ks.T×vs.T)} {a b:V} {n:Nat} {es:List (V×V×Nat)}:DV F ks k a→DV F vs v b→MR F ks vs l es→MR F ks vs ((k,v)::l) ((a,b,n)::es)
theorem MR.mono(hF:∀b cs,F b=some cs→F' b=some cs){ks vs:Sh}{l:List (ks.T×vs.T)}{es:List (V×V×Nat)}(h:MR F ks vs l es):MR F' ks vs l es:=by
 induction h with
 |nil=>exact .nil
 |cons h1 h2 _ ih=>exact .cons (h1.mono hF) (h2.mono hF) ih
noncomputable def O8(sl:List (Nat×PV))(t:Nat):PV:=((DW sl).get t).getD .any
def fS:eL→LoopState→Option Code→Prop
 | .ready,st,pe=>st=.ready∧pe=none
 | .busy,st,_=>st=.busy
 | .ret,st,pe=>st=.done∧pe=some .ret
 | .exit i,st,pe=>st=.done∧pe=some (.exit i)
def S5(F:Fz)(ρ:C8)(N n:Nat):Obj→O→Prop
 | .arr _ e s l,o=>∃cs fz,o=.cells cs e fz∧Df F s l cs∧fz.2≤fz.1∧l.length=n
 | .box ps,o=>∃cs t fz,o=.cells cs t fz∧AW F ρ N ps cs∧fz.2≤fz.1∧∀v∈cs,v.ok=true
 | .map ks vs l,o=>∃es clk,o=.map es clk∧MR F ks vs l es
 | .siter s pos,o=>o=.siter s pos
 | .lp _ _ ps asg body s n' sl,o=>∃ls,o=.loop ls∧ls.ps=ps∧ls.asg=asg∧ls.body=body∧fS s ls.st ls.pend∧ls.fr.n=n'∧∀t,PR F ρ N (O8 sl t) (ls.fr.get t)
theorem S5.mono(hl:Le F ρ N F' ρ' N'){n:Nat}{x:Obj}{o:O}(h:S5 F ρ N n x o):S5 F' ρ' N' n x o:=by
 cases x with
 |arr fz e s l=>obtain⟨cs,f,h1,h2,h3⟩:=h;exact⟨cs,f,h1,h2.mono hl.fz,h3⟩
 |box ps=>obtain⟨cs,t,f,h1,h2,h3⟩:=h;exact⟨cs,t,f,h1,h2.mono hl,h3⟩
 |map ks vs l=>obtain⟨es,clk,h1,h2⟩:=h;exact⟨es,clk,h1,h2.mono hl.fz⟩
 |siter s pos=>exact h
 |lp f r ps asg body s n sl=>obtain⟨ls,h1,h2,h3,h4,h5,h6,h7⟩:=h;exact⟨ls,h1,h2,h3,h4,h5,h6,fun t=>(h7 t).mono hl⟩
def Obj.frozen:Obj→Bool
 | .arr fz _ _ _=>fz
 |_=>false
structure H0 where
 h:H
 F:Fz
 pin:List Nat
 ex:Nat→Prop:=fun _=>False
def H0.pins(h0:H0)(ps:List Nat):H0:={ h0 with pin:=ps++h0.pin }
def H0.TC(h0:H0)(B b:Nat):Prop:=B≤b∨h0.ex b
theorem KN{h0:H0}{B b c:Nat}(h:h0.TC B b)(hc:c<B)(he:¬h0.ex c):c≠b:=by
 rintro rfl;rcases h with h|h
 ·omega
 ·exact he h
structure SR(B:Nat)(h0:H0)(F:Fz)(ρ:C8)(N:Nat)(ob:Ob)(h:H):Prop where
 obj:∀id o,AF ob id=some o→∃b n x,ρ id=some (b,n)∧h.get b=some x∧S5 F ρ N n o x∧(o.frozen=false→F b=none)∧
  (o.frozen=true→∃cs t fz,x=.cells cs t fz∧F b=some cs)
 inj:∀id id' o o' b n n',AF ob id=some o→AF ob id'=some o'→ρ id=some (b,n)→ρ id'=some (b,n')→id=id'
 frz:∀b cs,F b=some cs→∃t fz,h.get b=some (.cells cs t fz)
 own:∀id b n,ρ id=some (b,n)→id<N∧h0.TC B b
 dead:∀id,AF ob id=none→ρ id=none
 old:∀b,b<B→¬h0.ex b→h.get b=h0.h.get b
 lt:∀b o,h.get b=some o→b<h.nx
 le:B≤h.nx
 fo:∀b cs,F b=some cs→h0.F b=some cs∨h0.TC B b
 gl:∀x∈EM,x.1<B∧¬h0.ex x.1∧h0.h.get x.1=some x.2
 pn:∀b∈h0.pin,h.get b=some (.defd true)∧B≤b∧∀id n,ρ id≠some (b,n)
structure FP(F:Fz)(ρ:C8)(N:Nat)(st:AD)(fr:Fr):Prop where
 n:st.n=fr.n
 slot:∀t,PR F ρ N (st.get t) (fr.get t)
theorem FP.mono(hl:Le F ρ N F' ρ' N'){st:AD}{fr:Fr}(h:FP F ρ N st fr):FP F' ρ' N' st fr:=⟨h.n,fun t=>(h.slot t).mono hl⟩
end
section
variable {B:Nat}{h0:H0}{F:Fz}{ρ:C8}{N:Nat}
mutual
theorem R4:∀ {v:Value} {p:PV},Kc v=some p→∃x,cv v=some x∧PR F ρ N p x
 | .bool b,p,h=>by simp[Kc]at h;subst h;exact⟨_,rfl,by simp[PR]⟩
 | .int k n,p,h=>by simp[Kc]at h;subst h;exact⟨_,rfl,by simp[PR,DC]⟩
 | .string s,p,h=>by simp[Kc]at h;subst h;exact⟨_,rfl,by simp[PR,DC]⟩
 | .pointer none,p,h=>by simp[Kc]at h;subst h;exact⟨_,rfl,by simp[PR]⟩
 | .pointer (some a),p,h=>by simp[Kc]at h
 | .slice none 0 0,p,h=>by simp[Kc]at h;subst h;exact⟨_,rfl,by simp[PR]⟩
 | .slice none 0 (_+1),p,h=>by simp[Kc]at h
 | .slice none (_+1) _,p,h=>by simp[Kc]at h
 | .slice (some a) _ _,p,h=>by simp[Kc]at h
 | .map none,p,h=>by simp[Kc]at h;subst h;exact⟨_,rfl,by simp[PR]⟩
 | .map (some a),p,h=>by simp[Kc]at h
 | .nilFunc,p,h=>by simp[Kc]at h;subst h;exact⟨_,rfl,by simp[PR]⟩
 | .nilIface,p,h=>by simp[Kc]at h;subst h;exact⟨_,rfl,by simp[PR]⟩
 | .func f ⟨[]⟩ ⟨[]⟩,p,h=>by simp[Kc]at h;subst h;exact⟨_,rfl,by simp[PR]⟩
 | .func f ⟨_::_⟩ _,p,h=>by simp[Kc]at h
 | .func f ⟨[]⟩ ⟨_::_⟩,p,h=>by simp[Kc]at h
 | .agg ⟨cs⟩,p,h=>by
  simp only[Kc,zg]at h;obtain⟨xs,h1,rfl⟩:=h;obtain⟨ys,h2,h3⟩:=Lb h1;exact⟨.agg ys,by simp[cv,h2],by simp only[PR];exact⟨ys,rfl,h3⟩⟩
 | .tuple ⟨cs⟩,p,h=>by
  simp only[Kc,zg]at h;obtain⟨xs,h1,rfl⟩:=h;obtain⟨ys,h2,h3⟩:=Lb h1;exact⟨.tup ys,by simp[cv,h2],by simp only[PR];exact⟨ys,rfl,h3⟩⟩
 | .float _ _,p,h=>by simp[Kc]at h
 | .complex _ _ _,p,h=>by simp[Kc]at h
 | .chan _,p,h=>by simp[Kc]at h
 | .iface _ _,p,h=>by simp[Kc]at h
theorem Lb:∀ {vs:List Value} {ps:List PV},Un vs=some ps→∃xs,Ze vs=some xs∧AW F ρ N ps xs
 |[],ps,h=>by simp[Un]at h;subst h;exact⟨[],rfl,by simp⟩
 |v::vs,ps,h=>by
  unfold Un at h;split at h
  case h_2=>cases h
  rename_i x xs h1 h2;cases h;obtain⟨y,g1,g2⟩:=R4 h1;obtain⟨ys,g3,g4⟩:=Lb h2;exact⟨y::ys,by simp[Ze,g1,g3],by simp[g2,g4]⟩
end
theorem YF(v:V):PR F ρ N (Sb v) v:=by
 cases v<;>simp[Sb,PR,DC]
theorem DJ:∀vs:List V,AW F ρ N (vs.map Sb) vs
 |[]=>by simp
 |v::vs=>by simp only[List.map_cons,AL];exact⟨YF v,DJ vs⟩
variable {C:Ctx}{st st':AD}{fr:Fr}{h:H}
theorem BM(hf:FP F ρ N st fr){x:Operand}{p:PV}(hd:M0 st x=some p):∃v,ev C fr x=some v∧PR F ρ N p v:=by
 cases x with
 |tmp t=>simp only[M0,zi]at hd;subst hd;exact⟨_,rfl,hf.slot t⟩
 |const v=>exact R4 hd
 |global g=>simp[M0]at hd
 |func f=>simp only[M0,zi]at hd;subst hd;exact⟨_,rfl,by simp[PR]⟩
theorem Dw(hf:FP F ρ N st fr):∀ {xs:List Operand} {ps:List PV},Kf st xs=some ps→∃vs,Nt C fr xs=some vs∧AW F ρ N ps vs
 |[],ps,hd=>by simp[Kf]at hd;subst hd;exact⟨[],rfl,by simp⟩
 |x::xs,ps,hd=>by
  unfold Kf at hd;split at hd
  case h_2=>cases hd
  rename_i v vs h1 h2;cases hd;obtain⟨y,g1,g2⟩:=BM (C:=C) hf h1;obtain⟨ys,g3,g4⟩:=Dw hf h2;exact⟨y::ys,by simp[Nt,g1,g3],by simp[g2,g4]⟩
inductive ZH (F:Fz) (ρ:C8) (N:Nat):List (Nat×PV)→List (Nat×V)→Prop
 |nil:ZH F ρ N [] []
 |cons {i:Nat} {p:PV} {v:V} {l:List (Nat×PV)} {l':List (Nat×V)}:PR F ρ N p v→ZH F ρ N l l'→ZH F ρ N ((i,p)::l) ((i,v)::l')
theorem MD(hf:FP F ρ N st fr):∀ {xs:List (Nat×Operand)} {ps:List (Nat×PV)},TG st xs=some ps→∃vs,Rd C fr xs=some vs∧ZH F ρ N ps vs
 |[],ps,hd=>by simp[TG]at hd;subst hd;exact⟨[],rfl,.nil⟩
 |(i,x)::xs,ps,hd=>by
  unfold TG at hd;split at hd
  case h_2=>cases hd
  rename_i v vs h1 h2;cases hd;obtain⟨y,g1,g2⟩:=BM (C:=C) hf h1;obtain⟨ys,g3,g4⟩:=MD hf h2;exact⟨(i,y)::ys,by simp[Rd,g1,g3],.cons g2 g4⟩
structure Rel(B:Nat)(h0:H0)(F:Fz)(ρ:C8)(st:AD)(fr:Fr)(h:H):Prop where
 fp:FP F ρ st.nx st fr
 sr:SR B h0 F ρ st.nx st.ob h
inductive PO.To:PO→PV→AD→Prop
 |val {v:PV} {st:AD}:PO.To (.val v st) v st
 |tt {a b:PO} {v:PV} {st:AD}:PO.To a v st→PO.To (.ite true a b) v st
 |ff {a b:PO} {v:PV} {st:AD}:PO.To b v st→PO.To (.ite false a b) v st
@[simp] theorem Jt{v:PV}{s:AD}:¬PO.To .bad v s:=by intro h;cases h
@[simp] theorem AH{v u:PV}{s t:AD}:PO.To (.val v s) u t↔v=u∧s=t:=by
 constructor
 ·intro h;cases h;exact⟨rfl,rfl⟩
 ·rintro⟨rfl,rfl⟩;exact .val
@[simp] theorem Bk{c:Bool}{v u:PV}{s t:AD}:PO.To (.G9 c v s) u t↔c=true∧v=u∧s=t:=by
 constructor
 ·intro h;unfold PO.G9 at h;cases h with
  |tt h=>cases h;exact⟨rfl,rfl,rfl⟩
  |ff h=>cases h
 ·rintro⟨rfl,rfl,rfl⟩;exact .tt .val
@[simp] theorem K3{o:Option PV}{u:PV}{s t:AD}:PO.To (ov s o) u t↔o=some u∧s=t:=by
 cases o with
 |none=>simp[ov]
 |some v=>simp only[ov,AH,zi]
@[simp] theorem Me{c:Bool}{o:Option PV}{u:PV}{s t:AD}:PO.To (bR c s o) u t↔c=true∧o=some u∧s=t:=by
 cases o with
 |none=>simp[bR]
 |some v=>simp only[bR,Bk,zi]
def OK(B:Nat)(h0:H0)(F:Fz)(ρ:C8)(st:AD)(h:H)(tch:List Nat)(d:Option OR)(v:PV)(st':AD):Prop:=
 ∃v' h' F' ρ',(d=some (.val v' h')∨(d=some (.skip h')∧v'=.tup []))∧PR F' ρ' st'.nx v v'∧SR B h0 F' ρ' st'.nx st'.ob h'∧Le F ρ st.nx F' ρ' st'.nx∧
  st'.fr=st.fr∧st'.n=st.n∧h.nx≤h'.nx∧∀b,b<h.nx→h'.get b=h.get b∨∃id∈tch,∃n,ρ id=some (b,n)
theorem OK.pure{tch:List Nat}(hr:SR B h0 F ρ st.nx st.ob h){d:Option OR}{v:PV}{v':V}(hd:d=some (.val v' h))(hv:PR F ρ st.nx v v'):OK B h0 F ρ st h tch d v st:=
 ⟨v',h,F,ρ,.inl hd,hv,hr,Le.refl,rfl,rfl,zp _,fun _ _=>.inl rfl⟩
theorem Lo{α:Type}(n:Nat)(l:List α):Det.HG n l=l.drop n:=Iz n l
theorem rd_some{h:H}{b off n:Nat}{cs:List V}{t:TypeId}{fz:Nat×Nat}(hg:h.get b=some (.cells cs t fz))(hl:off+n≤cs.length)(hk:∀v∈(cs.drop off).take n,v.ok=true):rd h b off n=some ((cs.drop off).take n):=by
 rw[S3];unfold bO;rw[hg];simp only;rw[if_pos ⟨hl,zu.2 hk⟩]
theorem I5{d:TypeDesc}{n:Nat}{ps:List PV}{cs:List V}(hp:AW F ρ N ps cs){p:PV}(hd:pick d n ps=some p):
  (CS d=true∧0<n∧n≤cs.length∧PR F ρ N p (.agg (cs.take n)))∨(CS d=false∧∃v vs,cs=v::vs∧PR F ρ N p v):=by
 unfold pick at hd;cases ha:CS d with
 |true=>
  left;simp only[ha,cond_true]at hd;rw[C5,I2]at hd;cases hb:(zr n ps.length&&zN 0 n)with
  |false=>rw[hb]at hd;cases hd
  |true=>
   rw[hb]at hd;simp only[cond_true,zi]at hd;subst hd;simp only[zc]at hb;obtain⟨hb,hb2⟩:=hb;refine⟨rfl,zl hb2,by rw[←hp.len];exact zl hb,?_⟩;simp only[PR];exact⟨_,rfl,hp.take n⟩
 |false=>
  right;simp only[ha,cond_false]at hd;cases ps with
  |nil=>cases hd
  |cons q qs=>
   cases hd;simp only[AW]at hp;obtain⟨v,vs,rfl,h1,_⟩:=hp;exact⟨rfl,v,vs,rfl,h1⟩
theorem Ca:∀ {s:Sh} {x:s.T} {cs:List V},DC F s x cs→AW F ρ N (flat s x) cs
 | .pair a b,(x,y),cs,h=>by
  simp only[DC]at h;obtain⟨c,d,rfl,h1,h2⟩:=h;exact(Ca h1).append (Ca h2)
 | .unit,_,cs,h=>by simp only[DC]at h;subst h;simp[flat]
 | .int k,x,cs,h=>by simp only[DC]at h;subst h;simp only[flat,AL,Bx,and_true];simp[PR,DC]
 | .bool,x,cs,h=>by simp only[DC]at h;subst h;simp only[flat,AL,Bx,and_true];simp[PR,DC]
 | .str,x,cs,h=>by simp only[DC]at h;subst h;simp only[flat,AL,Bx,and_true];simp[PR,DC]
 | .list s,x,cs,h=>by
  have h':=h;simp only[DC]at h;obtain⟨v,rfl,_⟩:=h;simp only[flat,AL,Bx,and_true,PR];exact h'
 | .fnv,x,cs,h=>by simp only[DC]at h;subst h;simp only[flat,AL,Bx,and_true];cases (x:Option Fn)<;>simp[PR]
 | .nlist s,x,cs,h=>by
  have h':=h;simp only[DC]at h;obtain⟨v,rfl,_⟩:=h;simp only[flat,AL,Bx,and_true,PR];exact h'
theorem D4{α:Type}(l:List α)(a b:Nat):l.drop (a+b)=(l.drop a).drop b:=by rw[List.drop_drop]
theorem Hs{T:BA}{t:TypeId}{d:TypeDesc}{i:TI}(hd:T.und t=some d)(hi:T.inf t=some i){b off:Nat}{cs:List V}{te:TypeId}{fz:Nat×Nat}(hg:h.get b=some (.cells cs te fz))
  {m:Nat} (hok:∀v∈(cs.drop off).take m,v.ok=true) {ps:List PV} (hp:AW F ρ N ps ((cs.drop off).take m)) {p:PV} (hpk:pick d i.size ps=some p):∃v,DE T h t (.ptr b off)=some v∧PR F ρ N p v:=by
 unfold DE;simp only[hd,hi];have hlen:((cs.drop off).take m).length≤cs.length-off:=by simp;omega
 have hoff:off≤cs.length:=by
  have:0<((cs.drop off).take m).length:=by
   rcases I5 hp hpk with⟨_,h0,hn,_⟩|⟨_,v,vs,e,_⟩
   ·omega
   ·rw[e];simp
  simp at this;omega
 rcases I5 hp hpk with⟨ha,_,hn,hv⟩|⟨ha,v,vs,hcs,hv⟩
 ·simp only[ha,cond_true];have:(cs.drop off).take i.size=((cs.drop off).take m).take i.size:=by
   rw[List.take_take];have:i.size≤m:=by
    have:=hn;simp at this;omega
   rw[Nat.min_eq_left this]
  rw[rd_some hg (by omega) (fun v hv=>hok v (zF (by rwa [this]at hv)))];refine⟨_,rfl,?_⟩;rw[this];exact hv
 ·simp only[ha,cond_false];have h1:off+1≤cs.length:=by
   have:((cs.drop off).take m).length=vs.length+1:=by rw[hcs];rfl
   omega
  have h2:(cs.drop off).take 1=[v]:=by
   have:m≠0:=by rintro rfl;simp at hcs
   obtain⟨k,rfl⟩:=Nat.exists_eq_succ_of_ne_zero this;cases hc:cs.drop off with
   |nil=>rw[hc]at hcs;simp at hcs
   |cons a gG=>rw[hc]at hcs;simp only[List.take_succ_cons,List.cons.injEq]at hcs;simp[hcs.1]
  rw[rd_some hg h1 (fun u hu=>by rw[h2]at hu;cases zf.1 hu;exact hok v (by rw[hcs];simp)),h2];exact⟨v,rfl,hv⟩
end
section
variable {B:Nat}{h0:H0}{F:Fz}{ρ:C8}{N:Nat}{C:Ctx}{st st':AD}{fr:Fr}{h:H}
theorem SR.at(hr:SR B h0 F ρ N st.ob h){id:Nat}{o:Obj}(ho:st.obj id=some o):∃b n x,ρ id=some (b,n)∧h.get b=some x∧S5 F ρ N n o x∧(o.frozen=false→F b=none)∧
  (o.frozen=true→∃cs t fz,x=.cells cs t fz∧F b=some cs):=hr.obj id o ho
theorem MI{s:Sh}{l:List s.T}{cs:List V}(hd:Df F s l cs)(hs:s.sz=1):∀(n j:Nat),j+n=l.length→AW F ρ N (Mi s l j n) (cs.drop j)
 |0,j,hj=>by
  have:cs.length=l.length:=by rw[hd.1,hs,zz]
  rw[List.drop_eq_nil_of_le (by omega)];unfold Mi;simp
 |n+1,j,hj=>by
  have hl:cs.length=l.length:=by rw[hd.1,hs,zz]
  have hjl:j<l.length:=by omega
  have h1:=hd.2 j hjl;rw[hs,zz]at h1;have e:cs.drop j=(cs.drop j).take 1++cs.drop (j+1):=by
   have:=List.take_append_drop 1 (cs.drop j);rw[List.drop_drop]at this;exact this.symm
  unfold Mi;rw[e,show l.getD j s.FC=l[j]from by simp[hjl]];exact(Ca h1).append (MI hd hs n (j+1) (by omega))
theorem WD(hr:SR B h0 F ρ st.nx st.ob h){t:TypeId}{p:PV}{a:V}(ha:PR F ρ st.nx p a){v:PV}(ht:(Kb C.T st t p).To v st'):
  OK B h0 F ρ st h [] (A6 h (DE C.T h t a)) v st':=by
 unfold Kb at ht;split at ht
 case h_2=>simp at ht
 rename_i d i hd hi;split at ht
 case h_4=>simp at ht
 case h_1=>
  rename_i id off;split at ht
  case h_3=>simp at ht
  case h_2=>
   rename_i fzb e s l ho;cases hsz:(ze off 0&&ze s.sz 1)with
   |false=>rw[hsz]at ht;simp at ht
   |true=>
    rw[hsz]at ht;simp only[cond_true,Me,decide_eq_true_eq]at ht;obtain⟨hj,hpk,rfl⟩:=ht;rw[zc]at hsz;have h0:=zd hsz.1;have h1s:=zd hsz.2;subst h0;obtain⟨b,n,x,h1,h2,⟨cs,fz,rfl,h4,_⟩,_⟩:=hr.at ho;simp only[PR]at ha;obtain rfl:=ha.2 b n h1;have hp:=MI (ρ:=ρ) (N:=st.nx) h4 h1s i.size 0 (by omega);obtain⟨v',g1,g2⟩:=Hs (h:=h) hd hi h2 (m:=cs.length) (fun u hu=>h4.ok u (zt (zF hu))) (by rw[zO (by simp)];exact hp) hpk;exact OK.pure hr (by rw[g1];rfl) g2
  rename_i ps ho;simp only[K3]at ht;obtain⟨hpk,rfl⟩:=ht;obtain⟨b,n,x,h1,h2,⟨cs,te,fz,rfl,h4,_,hbok⟩,_⟩:=hr.at ho;simp only[PR]at ha;obtain rfl:=ha.2 b n h1;rw[Lo]at hpk;obtain⟨v',g1,g2⟩:=Hs (h:=h) hd hi h2 (m:=cs.length) (fun u hu=>hbok u (zt (zF hu))) (by rw[zO (by simp)];exact h4.drop off) hpk;exact OK.pure hr (by rw[g1];rfl) g2
 case h_2=>
  rename_i id sz j off;split at ht
  case h_2=>simp at ht
  rename_i fzb e s l ho;cases hsz:ze sz s.sz with
  |false=>rw[hsz]at ht;simp at ht
  |true=>
   rw[hsz]at ht;simp only[cond_true,Me,decide_eq_true_eq]at ht;obtain⟨hj,hpk,rfl⟩:=ht;have hsz:=zd hsz;subst hsz;obtain⟨b,n,x,h1,h2,⟨cs,fz,rfl,h4,_⟩,_⟩:=hr.at ho;simp only[PR]at ha;obtain rfl:=ha.2 b n h1;have hdc:=h4.2 j hj;rw[show l.getD j s.FC=l[j]from by simp[hj],Lo]at hpk;have hp:AW F ρ st.nx ((flat s l[j]).drop off) ((cs.drop (j*s.sz+off)).take (s.sz-off)):=by
    have:=(Ca (F:=F) (ρ:=ρ) (N:=st.nx) hdc).drop off;rw[D4, ←zL]at*;exact this
   obtain⟨v',g1,g2⟩:=Hs (h:=h) hd hi h2 (fun u hu=>hdc.ok u (zt (i:=off) (by rw[D4, ←zL]at hu;exact hu))) hp hpk;exact OK.pure hr (by rw[g1];rfl) g2
 case h_3=>
  rename_i s x off;simp only[K3]at ht;obtain⟨hpk,rfl⟩:=ht;simp only[PR]at ha;obtain⟨b,o,cs,rfl,h1,h2,h3⟩:=ha;obtain⟨te,fz,h4⟩:=hr.frz b cs h1;rw[Lo]at hpk;have hp:AW F ρ st.nx ((flat s x).drop off) ((cs.drop (o+off)).take (s.sz-off)):=by
   have:=(Ca (F:=F) (ρ:=ρ) (N:=st.nx) h3).drop off;rw[D4, ←zL]at*;exact this
  obtain⟨v',g1,g2⟩:=Hs (h:=h) hd hi h4 (fun u hu=>h3.ok u (zt (i:=off) (by rw[D4, ←zL]at hu;exact hu))) hp hpk;exact OK.pure hr (by rw[g1];rfl) g2
theorem DC.OX:∀ {s:Sh} {x:s.T} {cs:List V},DC F s x cs→∀v∈cs,v.one=true
 | .int _,_,_,h=>by simp only[DC]at h;subst h;intro v hv;rw[zf.1 hv];rfl
 | .bool,_,_,h=>by simp only[DC]at h;subst h;intro v hv;rw[zf.1 hv];rfl
 | .str,_,_,h=>by simp only[DC]at h;subst h;intro v hv;rw[zf.1 hv];rfl
 | .list s,l,_,h=>by
  simp only[DC]at h;obtain⟨u,rfl,h⟩:=h;intro v hv;rw[zf.1 hv];rcases h with⟨_,rfl|rfl|rfl⟩|⟨b,off,cap,o,bs,rfl,_⟩<;>rfl
 | .pair a b,x,_,h=>by
  simp only[DC]at h;obtain⟨c,d,rfl,h1,h2⟩:=h;intro v hv;rcases List.mem_append.1 hv with hv|hv
  ·exact h1.OX v hv
  ·exact h2.OX v hv
 | .unit,_,_,h=>by simp only[DC]at h;subst h;intro v hv;cases hv
 | .fnv,x,_,h=>by simp only[DC]at h;subst h;intro v hv;rw[zf.1 hv];cases (x:Option Fn)<;>rfl
 | .nlist s,l,_,h=>by
  simp only[DC]at h;obtain⟨u,rfl,h⟩:=h;intro v hv;rw[zf.1 hv];rcases h with⟨_,rfl⟩|⟨_,b,off,cap,o,bs,rfl,_⟩<;>rfl
theorem Gz{o:Option Obj}(h:Kp o=true):∃x,o=some x:=by cases o with|none=>cases h|some x=>exact⟨x,rfl⟩
theorem Nr(hr:SR B h0 F ρ st.nx st.ob h){p:PV}{v:V}(hs:HH st p=true)(hp:PR F ρ st.nx p v):v.one=true:=by
 have key:∀ {id:Nat},Kp (st.obj id)=true→∃b n,ρ id=some (b,n):=by
  intro id hi;obtain⟨o,ho⟩:=Gz hi;obtain⟨b,n,_,h1,_⟩:=hr.at ho;exact⟨b,n,h1⟩
 cases p<;>simp only[HH]at hs<;>simp only[PR]at hp<;>try (cases hs;done)
 case bl=>subst hp;rfl
 case dat=>exact hp.OX v (zf.2 rfl)
 case nil|nilp|nilm|nilf|nili=>subst hp;rfl
 case ptr=>obtain⟨b,n,h1⟩:=key hs;rw[hp.2 b n h1];rfl
 case eptr=>obtain⟨b,n,h1⟩:=key hs;rw[hp.2 b n h1];rfl
 case dptr=>obtain⟨b,o,cs,rfl,_⟩:=hp;rfl
 case sl=>
  obtain⟨b,n,h1⟩:=key hs;rcases hp.2 b n h1 with⟨_,_,o,_,rfl⟩|⟨_,_,_,rfl|⟨_,rfl,_⟩⟩<;>rfl
 case mp|yl=>obtain⟨b,n,h1⟩:=key hs;rw[hp.2 b n h1];rfl
 case fn=>obtain⟨a,b,rfl,_⟩:=hp;rfl
theorem Ui{v:V}(h:v.one=true):v.cells=[v]:=by cases v<;>first|rfl|cases h
theorem Kv(hr:SR B h0 F ρ st.nx st.ob h){p:PV}{v:V}{ps:List PV}(hp:PR F ρ st.nx p v)(hd:bN st p=some ps):AW F ρ st.nx ps v.cells:=by
 unfold bN at hd;split at hd
 ·cases hd;simp only[PR]at hp;obtain⟨cs,rfl,h1⟩:=hp;exact h1
 ·rename_i q hq;cases hs:HH st p with
  |false=>rw[hs]at hd;cases hd
  |true=>
   rw[hs]at hd;cases hd;rw[Ui (Nr hr hs hp)];simpa using hp
theorem HZ(hr:SR B h0 F ρ st.nx st.ob h):∀ {ps:List PV} {vs:List V},ps.all (HH st)=true→AW F ρ st.nx ps vs→vs.all V.one=true
 |[],vs,_,h=>by simp at h;subst h;rfl
 |p::ps,vs,ha,h=>by
  simp only[AW]at h;obtain⟨v,vs,rfl,h1,h2⟩:=h;simp only[List.all_cons,zc]at ha ⊢;exact⟨Nr hr ha.1 h1,HZ hr ha.2 h2⟩
theorem AW.HK:∀ {a:List PV} {x:List V} {b:List PV} {y:List V},AW F ρ N a x→AW F ρ N b y→AW F ρ N (HK a b) (HK x y)
 |[],x,b,y,h,h'=>by simp at h;subst h;exact h'
 |p::ps,x,b,y,h,h'=>by
  simp only[AW]at h;obtain⟨v,vs,rfl,h1,h2⟩:=h;cases b with
  |nil=>simp at h';subst h';show AW F ρ N [] [];simp
  |cons q qs=>
   simp only[AW]at h';obtain⟨u,us,rfl,g1,g2⟩:=h';show AW F ρ N (p::Det.HK ps qs) (v::Det.HK vs us);simp only[AL];exact⟨h1,h2.HK g2⟩
theorem AW.BP{a:List PV}{x:List V}(ha:AW F ρ N a x):∀(n:Nat) {b:List PV} {y:List V},AW F ρ N b y→AW F ρ N (BP n a b) (BP n x y)
 |0,b,y,h=>ha.HK h
 |n+1,[],y,h=>by simp at h;subst h;show AW F ρ N [] [];simp
 |n+1,q::qs,y,h=>by
  simp only[AW]at h;obtain⟨u,us,rfl,g1,g2⟩:=h;show AW F ρ N (q::Det.BP n a qs) (u::Det.BP n x us);simp only[AL];exact⟨g1,AW.BP ha n g2⟩
theorem Fl:∀(l:Ob) (i:Nat) (x:Obj) (j:Nat),(AF l i).isSome=true→AF (CH l i x) j=if j=i then some x else AF l j
 |[],i,x,j,h=>by cases h
 |(a,o)::l,i,x,j,h=>by
  simp only[CH,AF,A1]at h ⊢;by_cases e:a=i
  ·subst e;simp only[decide_true,cond_true,AF,A1];by_cases e2:a=j
   ·subst e2;simp
   ·rw[if_neg (fun h=>e2 h.symm)];simp[e2]
  ·simp only[e,decide_false,cond_false]at h ⊢;simp only[AF,A1];by_cases e2:a=j
   ·subst e2;simp[e]
   ·simp only[e2,decide_false,cond_false];exact Fl l i x j h
theorem KX{b off:Nat}{vs cs:List V}{t:TypeId}{fz:Nat×Nat}(hg:h.get b=some (.cells cs t fz))(hl:off+vs.length≤cs.length)(hfz:fz.2≤fz.1)(ho:vs.all V.one=true):
  wr h b off vs=some (h.put b (.cells (BP off vs cs) t fz)):=by
 unfold wr;simp only[hg,C5,DR,ho];have h1:zr (zJ off vs.length) cs.length=true:=zq hl;have h2:Det.clear fz off vs.length=true:=by
  unfold Det.clear;rw[show zr fz.2 fz.1=true from zq hfz,zU]
 rw[h1,h2];rfl
theorem SR.set(hr:SR B h0 F ρ st.nx st.ob h){id b n:Nat}{o o':Obj}{x x':O}(ho:st.obj id=some o)(hb:ρ id=some (b,n))(hg:h.get b=some x)(hf:o.frozen=false)(hf':o'.frozen=false)
  (hx:S5 F ρ st.nx n o' x'):SR B h0 F ρ st.nx (CH st.ob id o') (h.put b x'):=by
 have hob:AF st.ob id=some o:=ho;have hFb:F b=none:=by
  obtain⟨b',n',_,h1,_,_,h2,_⟩:=hr.at ho;rw[hb]at h1;cases h1;exact h2 hf
 have hset:∀j,AF (CH st.ob id o') j=if j=id then some o' else AF st.ob j:=fun j=>Fl _ _ _ _ (by rw[hob];rfl)
 refine⟨fun j oj hj=>?_,fun i j oi oj c m m' hi hj h1 h2=>?_,fun c cs hc=>?_,hr.own,fun j hj=>?_,fun c hc he=>?_,fun c oc hc=>?_,hr.le,hr.fo,hr.gl,fun c hc=>?_⟩
 ·rw[hset]at hj;by_cases e:j=id
  ·subst e;simp only[if_true,zi]at hj;subst hj;exact⟨b,n,x',hb,by simp,hx,fun _=>hFb,fun e=>by rw[hf']at e;cases e⟩
  ·rw[if_neg e]at hj;obtain⟨c,m,y,h1,h2,h3,h4,h5⟩:=hr.obj j oj hj;have hne:c≠b:=fun ec=>e (hr.inj j id oj o c m n hj hob h1 (ec▸hb))
   exact⟨c,m,y,h1,by rw[H.A0,if_neg hne];exact h2,h3,h4,h5⟩
 ·have get':∀k ok,AF (CH st.ob id o') k=some ok→∃o2,AF st.ob k=some o2:=by
   intro k ok hk;rw[hset]at hk;by_cases e:k=id
   ·exact⟨o,e▸hob⟩
   ·rw[if_neg e]at hk;exact⟨ok,hk⟩
  obtain⟨_,g1⟩:=get' i oi hi;obtain⟨_,g2⟩:=get' j oj hj;exact hr.inj i j _ _ c m m' g1 g2 h1 h2
 ·have hne:c≠b:=fun e=>by rw[e,hFb]at hc;cases hc
  rw[H.A0,if_neg hne];exact hr.frz c cs hc
 ·rw[hset]at hj;by_cases e:j=id
  ·rw[if_pos e]at hj;cases hj
  ·rw[if_neg e]at hj;exact hr.dead j hj
 ·have hne:c≠b:=KN (hr.own id b n hb).2 hc he;rw[H.A0,if_neg hne];exact hr.old c hc he
 ·rw[H.A0]at hc;by_cases e:c=b
  ·subst e;exact hr.lt _ _ hg
  ·rw[if_neg e]at hc;exact hr.lt c oc hc
 ·obtain⟨g1,g2,g3⟩:=hr.pn c hc;have hne:c≠b:=fun e=>g3 id n (e▸hb)
  exact⟨by rw[H.A0,if_neg hne];exact g1,g2,g3⟩
end
section
variable {B:Nat}{h0:H0}{F:Fz}{ρ:C8}{N:Nat}{C:Ctx}{st st':AD}{fr:Fr}{h:H}
def Bl(ρ:C8)(i:Nat)(x:Option (Nat×Nat)):C8:=fun j=>if j=i then x else ρ j
theorem Le.Ox(i:Nat):Le F ρ N F (Bl ρ i none) N:=⟨fun _ _ h=>h,fun id _=>by unfold Bl;split<;>simp_all,zp _⟩
theorem Le.new(x:Nat×Nat):Le F ρ N F (Bl ρ N (some x)) (N+1):=⟨fun _ _ h=>h,fun id h=>by unfold Bl;rw[if_neg (by omega)];exact .inl rfl,Nat.le_succ _⟩
theorem SR.push{ob:Ob}(hr:SR B h0 F ρ N ob h){o:Obj}{x:O}{n:Nat}(hf:o.frozen=false)(hx:S5 F (Bl ρ N (some (h.nx,n))) (N+1) n o x):
  SR B h0 F (Bl ρ N (some (h.nx,n))) (N+1) ((N,o)::ob) (h.push x):=by
 have hl:Le F ρ N F (Bl ρ N (some (h.nx,n))) (N+1):=Le.new _;have hget:∀j,AF ((N,o)::ob) j=if j=N then some o else AF ob j:=by
  intro j;simp only[AF,A1];by_cases e:N=j
  ·subst e;simp
  ·rw[if_neg (fun h=>e h.symm)];simp[e]
 have hlt:∀id b m,ρ id=some (b,m)→id<N:=fun id b m hb=>(hr.own id b m hb).1
 have hnew:∀b y,h.get b=some y→b≠h.nx:=fun b y hb=>by have:=hr.lt b y hb;omega
 refine⟨fun j oj hj=>?_,fun i j oi oj c m m' hi hj h1 h2=>?_,fun c cs hc=>?_,fun id b m hb=>?_,fun j hj=>?_,fun c hc he=>?_,fun c oc hc=>?_,?_,?_,hr.gl,fun c hc=>?_⟩
 ·rw[hget]at hj;by_cases e:j=N
  ·subst e;simp only[if_true,zi]at hj;subst hj;refine⟨h.nx,n,x,by simp[Bl],by simp,hx,fun _=>?_,fun e=>by rw[hf]at e;cases e⟩;cases hc:F h.nx with
   |none=>rfl
   |some cs=>
    obtain⟨t,fz,hg⟩:=hr.frz _ _ hc;exact absurd rfl (hnew _ _ hg)
  ·rw[if_neg e]at hj;obtain⟨c,m,y,h1,h2,h3,h4,h5⟩:=hr.obj j oj hj;exact⟨c,m,y,by simp[Bl,e,h1],by rw[H.Bd,if_neg (hnew c y h2)];exact h2,h3.mono hl,h4,h5⟩
 ·rw[hget]at hi hj;have key:∀k ok m,(if k=N then some o else AF ob k)=some ok→Bl ρ N (some (h.nx,n)) k=some (c,m)→(k=N∧c=h.nx)∨(k≠N∧AF ob k=some ok∧ρ k=some (c,m)∧c≠h.nx):=by
   intro k ok m hk hr';by_cases e:k=N
   ·subst e;simp[Bl]at hr';exact .inl ⟨rfl,hr'.1.symm⟩
   ·rw[if_neg e]at hk;simp only[Bl,e,if_false]at hr';obtain⟨c',m',y,g1,g2,_⟩:=hr.obj k ok hk;rw[hr']at g1;cases g1;exact .inr ⟨e,hk,hr',hnew c y g2⟩
  rcases key i oi m hi h1 with⟨e1,e2⟩|⟨e1,e2,e3,e4⟩<;>rcases key j oj m' hj h2 with⟨f1,f2⟩|⟨f1,f2,f3,f4⟩
  ·rw[e1,f1]
  ·exact absurd e2 f4
  ·exact absurd f2 e4
  ·exact hr.inj i j oi oj c m m' e2 f2 e3 f3
 ·obtain⟨t,fz,hg⟩:=hr.frz c cs hc;exact⟨t,fz,by rw[H.Bd,if_neg (hnew c _ hg)];exact hg⟩
 ·unfold Bl at hb;split at hb
  ·rename_i e;cases hb;subst e;exact⟨zD _,.inl hr.le⟩
  ·have:=hr.own id b m hb;exact⟨by omega,this.2⟩
 ·rw[hget]at hj;by_cases e:j=N
  ·rw[if_pos e]at hj;cases hj
  ·rw[if_neg e]at hj;simp[Bl,e,hr.dead j hj]
 ·have:=hr.le;rw[H.Bd,if_neg (by omega)];exact hr.old c hc he
 ·rw[H.Bd]at hc;by_cases e:c=h.nx
  ·subst e;exact zD _
  ·rw[if_neg e]at hc;have:=hr.lt c oc hc;show c<h.nx+1;omega
 ·have:=hr.le;show B≤h.nx+1;omega
 ·exact hr.fo
 ·obtain⟨g1,g2,g3⟩:=hr.pn c hc;have hne:=hnew c _ g1;refine⟨by rw[H.Bd,if_neg hne];exact g1,g2,fun id m e=>?_⟩;unfold Bl at e;split at e
  ·cases e;exact hne rfl
  ·exact g3 id m e
theorem Dq:∀(l:Ob) (i j:Nat),AF (Fc l i) j=if j=i then none else AF l j
 |[],i,j=>by simp[Fc,AF]
 |(a,o)::l,i,j=>by
  simp only[Fc,A1];by_cases e:a=i
  ·subst e;simp only[decide_true,cond_true];rw[Dq l a j];simp only[AF,A1];by_cases e2:j=a
   ·simp[e2]
   ·rw[if_neg e2];have e3:¬a=j:=fun h=>e2 h.symm
    simp[e3,e2]
  ·simp only[e,decide_false,cond_false,AF,A1];rw[Dq l i j];by_cases e2:a=j
   ·subst e2;simp[e]
   ·simp[e2]
theorem SR.del{ob:Ob}(hr:SR B h0 F ρ N ob h)(id:Nat):SR B h0 F (Bl ρ id none) N (Fc ob id) h:=by
 have hl:Le F ρ N F (Bl ρ id none) N:=Le.Ox id;refine⟨fun j oj hj=>?_,fun i j oi oj c m m' hi hj h1 h2=>?_,hr.frz,fun j b m hb=>?_,fun j hj=>?_,hr.old,hr.lt,hr.le,hr.fo,hr.gl,fun c hc=>?_⟩
 ·rw[Dq]at hj;split at hj
  ·cases hj
  ·rename_i e;obtain⟨c,m,y,h1,h2,h3,h4⟩:=hr.obj j oj hj;exact⟨c,m,y,by simp[Bl,e,h1],h2,h3.mono hl,h4⟩
 ·rw[Dq]at hi hj;split at hi
  ·cases hi
  split at hj
  ·cases hj
  rename_i e1 e2;simp only[Bl,e1,e2,if_false]at h1 h2;exact hr.inj i j oi oj c m m' hi hj h1 h2
 ·unfold Bl at hb;split at hb
  ·cases hb
  ·exact hr.own j b m hb
 ·rw[Dq]at hj;unfold Bl;split
  ·rfl
  ·rename_i e;rw[if_neg e]at hj;exact hr.dead j hj
 ·obtain⟨g1,g2,g3⟩:=hr.pn c hc;refine⟨g1,g2,fun j m e=>?_⟩;unfold Bl at e;split at e
  ·cases e
  ·exact g3 j m e
theorem SR.kill{ob:Ob}(hr:SR B h0 F ρ N ob h){b:Nat}(h1:∀id o n,AF ob id=some o→ρ id≠some (b,n))(h2:F b=none)(h3:h0.TC B b)(h4:b∉h0.pin):SR B h0 F ρ N ob (h.kill b):=by
 refine⟨fun j oj hj=>?_,hr.inj,fun c cs hc=>?_,hr.own,hr.dead,fun c hc he=>?_,fun c oc hc=>?_,hr.le,hr.fo,hr.gl,fun c hc=>?_⟩
 ·obtain⟨c,m,y,g1,g2,g3⟩:=hr.obj j oj hj;have:c≠b:=fun e=>h1 j oj m hj (e▸g1)
  exact⟨c,m,y,g1,by rw[H.Cc,if_neg this];exact g2,g3⟩
 ·have:c≠b:=fun e=>by rw[e,h2]at hc;cases hc
  rw[H.Cc,if_neg this];exact hr.frz c cs hc
 ·have:c≠b:=KN h3 hc he;rw[H.Cc,if_neg this];exact hr.old c hc he
 ·rw[H.Cc]at hc;split at hc
  ·cases hc
  ·exact hr.lt c oc hc
 ·obtain⟨g1,g2,g3⟩:=hr.pn c hc;have hne:c≠b:=fun e=>h4 (e▸hc)
  exact⟨by rw[H.Cc,if_neg hne];exact g1,g2,g3⟩
theorem Co{s s':Sh}{x:s.T}{y:s'.T}(h:DQ s s' x=some y):∃e:s=s',e▸x=y:=by
 unfold DQ at h;split at h
 ·rename_i e;cases h;exact⟨e,rfl⟩
 ·cases h
theorem FB{s:Sh}{p:PV}{x:s.T}{v:V}(hp:PR F ρ N p v)(hd:Zm s p=some x):DC F s x [v]:=by
 unfold Zm at hd;split at hd
 ·obtain⟨rfl,rfl⟩:=Co hd;simpa only[PR]using hp
 ·obtain⟨rfl,rfl⟩:=Co hd;simp only[PR]at hp;subst hp;simp[DC]
 ·obtain⟨rfl,rfl⟩:=Co hd;simp only[PR,Bx]at hp;obtain⟨_,_,rfl,rfl,rfl⟩:=hp;simp[DC]
 ·obtain⟨rfl,rfl⟩:=Co hd;simp only[PR]at hp;subst hp;simp[DC]
 ·split at hd
  ·cases hd;simp only[PR]at hp;subst hp;simp[DC]
  ·cases hd;simp only[PR]at hp;subst hp;simp[DC]
  ·cases hd
 ·cases hd
theorem FG:∀ {s:Sh} {ps:List PV} {vs:List V} {x:s.T} {rest:List PV},AW F ρ N ps vs→BW s ps=some (x,rest)→∃a b,vs=a++b∧DC F s x a∧AW F ρ N rest b
 | .pair s t,ps,vs,x,rest,hp,hd=>by
  unfold BW at hd;split at hd
  case h_2=>cases hd
  rename_i y l1 h1;split at hd
  case h_2=>cases hd
  rename_i z l2 h2;cases hd;obtain⟨a,b,rfl,g1,g2⟩:=FG hp h1;obtain⟨c,d,rfl,g3,g4⟩:=FG g2 h2;exact⟨a++c,d,by simp,by simp only[DC];exact⟨a,c,rfl,g1,g3⟩,g4⟩
 | .unit,ps,vs,x,rest,hp,hd=>by
  unfold BW at hd;cases hd;exact⟨[],vs,rfl,by simp[DC],hp⟩
 | .int k,[],vs,x,rest,hp,hd=>by simp[BW]at hd
 | .bool,[],vs,x,rest,hp,hd=>by simp[BW]at hd
 | .str,[],vs,x,rest,hp,hd=>by simp[BW]at hd
 | .list s,[],vs,x,rest,hp,hd=>by simp[BW]at hd
 | .nlist s,[],vs,x,rest,hp,hd=>by simp[BW]at hd
 | .fnv,[],vs,x,rest,hp,hd=>by simp[BW]at hd
 | .int k,p::ps,vs,x,rest,hp,hd=>by
  simp only[AW]at hp;obtain⟨v,vs,rfl,h1,h2⟩:=hp;simp only[BW]at hd;split at hd
  ·rename_i y hy;cases hd;exact⟨[v],vs,rfl,FB h1 hy,h2⟩
  ·cases hd
 | .bool,p::ps,vs,x,rest,hp,hd=>by
  simp only[AW]at hp;obtain⟨v,vs,rfl,h1,h2⟩:=hp;simp only[BW]at hd;split at hd
  ·rename_i y hy;cases hd;exact⟨[v],vs,rfl,FB h1 hy,h2⟩
  ·cases hd
 | .str,p::ps,vs,x,rest,hp,hd=>by
  simp only[AW]at hp;obtain⟨v,vs,rfl,h1,h2⟩:=hp;simp only[BW]at hd;split at hd
  ·rename_i y hy;cases hd;exact⟨[v],vs,rfl,FB h1 hy,h2⟩
  ·cases hd
 | .list s,p::ps,vs,x,rest,hp,hd=>by
  simp only[AW]at hp;obtain⟨v,vs,rfl,h1,h2⟩:=hp;simp only[BW]at hd;split at hd
  ·rename_i y hy;cases hd;exact⟨[v],vs,rfl,FB h1 hy,h2⟩
  ·cases hd
 | .fnv,p::ps,vs,x,rest,hp,hd=>by
  simp only[AW]at hp;obtain⟨v,vs,rfl,h1,h2⟩:=hp;simp only[BW]at hd;split at hd
  ·rename_i y hy;cases hd;exact⟨[v],vs,rfl,FB h1 hy,h2⟩
  ·cases hd
 | .nlist s,p::ps,vs,x,rest,hp,hd=>by
  simp only[AW]at hp;obtain⟨v,vs,rfl,h1,h2⟩:=hp;simp only[BW]at hd;split at hd
  ·rename_i y hy;cases hd;exact⟨[v],vs,rfl,FB h1 hy,h2⟩
  ·cases hd
theorem B1{s:Sh}{ps:List PV}{vs:List V}{x:s.T}(hp:AW F ρ N ps vs)(hd:Dc s ps=some x):DC F s x vs:=by
 unfold Dc at hd;split at hd
 ·rename_i y hy;cases hd;obtain⟨a,b,rfl,h1,h2⟩:=FG hp hy;simp at h2;subst h2;simpa using h1
 ·cases hd
end
section
variable {B:Nat}{h0:H0}{F:Fz}{ρ:C8}{N:Nat}{C:Ctx}{st st':AD}{fr:Fr}{h:H}
theorem Pm{v:V}:∀(vs cs:List V) (off:Nat),v∈EK cs off vs→v∈vs∨v∈cs
 |[],cs,off,h=>.inr h
 |u::vs,cs,off,h=>by
  have h:v∈EK (cs.set off u) (off+1) vs:=h;rcases Pm vs _ _ h with h|h
  ·exact .inl (List.mem_cons_of_mem _ h)
  ·rcases List.mem_or_eq_of_mem_set h with h|h
   ·exact .inr h
   ·exact .inl (by simp[h])
theorem VL{v:V}{vs cs:List V}{off:Nat}(h:v∈Det.BP off vs cs):v∈vs∨v∈cs:=by
 rw[G2]at h;exact Pm _ _ _ h
theorem EY{cs vs:List V}{off:Nat}(hl:off+vs.length≤cs.length)(j:Nat):(BP off vs cs)[j]?=if off≤j∧j<off+vs.length then vs[j-off]? else cs[j]?:=by
 rw[G2];exact Mm vs cs off j hl
theorem WX{cs vs:List V}{off:Nat}:(BP off vs cs).length=cs.length:=by
 rw[G2];exact Er vs cs off
theorem aY{cs vs:List V}{m off k:Nat}(hk:off+vs.length≤k)(hl:m+k≤cs.length):((BP (m+off) vs cs).drop m).take k=BP off vs ((cs.drop m).take k):=by
 apply zC;intro j;rw[EY (by simp;omega)];by_cases hj:j<k
 ·rw[zj hj,zn,EY (by omega)];by_cases hc:off≤j∧j<off+vs.length
  ·rw[if_pos hc,if_pos (by omega)];congr 1;omega
  ·rw[if_neg hc,if_neg (by omega),zj hj,zn]
 ·rw[if_neg (by omega),zh (by simp;omega),zh (by simp;omega)]
theorem YN{cs vs:List V}{m p k:Nat}(hd:p+vs.length≤m∨m+k≤p)(hl:p+vs.length≤cs.length):((BP p vs cs).drop m).take k=(cs.drop m).take k:=by
 apply zC;intro j;by_cases hj:j<k
 ·rw[zj hj,zj hj,zn,zn,EY hl,if_neg (by omega)]
 ·rw[zh (by simp;omega),zh (by simp;omega)]
theorem Df.set{s:Sh}{l:List s.T}{cs vs:List V}{j off:Nat}{y:s.T}(hd:Df F s l cs)(hj:j<l.length)(hoff:off+vs.length≤s.sz)(hy:DC F s y (BP off vs ((cs.drop (j*s.sz)).take s.sz))):
  Df F s (l.set j y) (BP (j*s.sz+off) vs cs):=by
 have hb:j*s.sz+s.sz≤cs.length:=by
  rw[hd.1, ←zm];exact zk _ hj
 refine⟨by rw[WX,List.length_set];exact hd.1,fun i hi=>?_⟩;have hi':i<l.length:=by simpa using hi
 by_cases e:i=j
 ·subst e;rw[aY hoff hb,List.getElem_set_self];exact hy
 ·rw[List.getElem_set_ne (fun h=>e h.symm),YN ?_ (by omega)]
  ·exact hd.2 i hi'
  ·rcases Nat.lt_or_gt_of_ne e with h1|h1
   ·right;have:(i+1)*s.sz≤j*s.sz:=zk _ h1;rw[zm]at this;omega
   ·left;have:(j+1)*s.sz≤i*s.sz:=zk _ h1;rw[zm]at this;omega
theorem GX{s:Sh}:∀ {n:Nat} {ps:List PV} {vs:List V} {l:List s.T},AW F ρ N ps vs→chunk s n ps=some l→vs.length=n*s.sz→l.length=n∧Df F s l vs
 |0,ps,vs,l,hp,hd,hn=>by
  cases hd;simp at hn;subst hn;exact⟨rfl,by simp[Df]⟩
 |n+1,ps,vs,l,hp,hd,hn=>by
  unfold chunk at hd;split at hd
  case h_2=>cases hd
  rename_i x rest hx;rw[zg]at hd;obtain⟨l',h1,rfl⟩:=hd;obtain⟨a,b,rfl,h2,h3⟩:=FG hp hx;have ha:=h2.len;have hb:b.length=n*s.sz:=by rw[zK,ha,zm]at hn;omega
  obtain⟨g1,g2⟩:=GX h3 h1 hb;refine⟨by simp[g1],by rw[zK,ha,hb,List.length_cons,g1,zm];omega,fun i hi=>?_⟩;cases i with
  |zero=>
   simp only[Nat.zero_mul,List.drop_zero,List.getElem_cons_zero];rw[←ha,List.take_left];exact h2
  |succ i=>
   simp only[List.getElem_cons_succ];have hi':i<l'.length:=by simpa using hi
   have:=g2.2 i hi';have e:(a++b).drop ((i+1)*s.sz)=b.drop (i*s.sz):=by
    rw[zm,Nat.add_comm,D4, ←ha,List.drop_left]
   rw[e];exact this
theorem Vy{cs xs:List V}(h:xs.length=cs.length):Det.BP 0 xs cs=xs:=by
 apply zC;intro j;rw[EY (by omega)];by_cases hj:j<xs.length
 ·rw[if_pos (by omega)];rfl
 ·rw[if_neg (by omega),zh (by omega),zh (by omega)]
theorem W2(hr:SR B h0 F ρ st.nx st.ob h){t:TypeId}{p q:PV}{a x:V}(ha:PR F ρ st.nx p a)(hx:PR F ρ st.nx q x){v:PV}(ht:(Q9 C.T st t p q).To v st'):
  ∃id,((∃off,p=.ptr id off)∨∃sz j off,p=.eptr id sz j off)∧OK B h0 F ρ st h [id] (VR (GQ C.T h t a x)) v st':=by
 unfold Q9 at ht;split at ht
 case h_2=>simp at ht
 rename_i i xs hi hxs;cases hc:(ze (Det.Em xs) i.size&&Det.IX (HH st) xs)with
 |false=>rw[hc]at ht;simp at ht
 |true=>
  rw[hc]at ht;simp only[zc]at hc;obtain⟨hc1,hc2⟩:=hc;rw[C5]at hc1;rw[DR]at hc2;have hxs':=Kv hr hx hxs;have hlen:x.cells.length=i.size:=by rw[←hxs'.len];exact zd hc1
  have hone:=HZ hr hc2 hxs';have hb1:ze x.cells.length i.size=true:=by rw[hlen];exact zw _
  simp only[cond_true]at ht;split at ht
  case h_3=>simp at ht
  case h_1=>
   rename_i id off;split at ht
   case h_3=>exact absurd ht (by simp)
   case h_2=>
    rename_i e s l ho;cases hcc:(ze off 0&&ze s.sz 1)with
    |false=>rw[hcc]at ht;simp at ht
    |true=>
     rw[hcc]at ht;rw[zc]at hcc;have hoff:=zd hcc.1;have hs1:=zd hcc.2;subst hoff;simp only[cond_true]at ht;split at ht
     case h_2=>exact absurd ht (by simp)
     rename_i y hy;simp only[Bk,decide_eq_true_eq]at ht;obtain⟨hj,rfl,rfl⟩:=ht;obtain⟨b,n,z,h1,h2,⟨cs,fz,rfl,h4,h5,h6⟩,hf,_⟩:=hr.at ho;simp only[PR]at ha;obtain rfl:=ha.2 b n h1;have hcl:cs.length=x.cells.length:=by rw[h4.1,hs1,zz,hlen];exact hj
     obtain⟨k1,k2⟩:=GX hxs' hy (by rw[hs1,zz];exact hlen);have hle:0+x.cells.length≤cs.length:=by omega
     refine⟨id,.inl ⟨0,rfl⟩,.tup [],_,F,ρ,.inr ⟨?_,rfl⟩,by simp[PR],hr.set ho h1 h2 rfl rfl (o':=.arr false e s y) ⟨Det.BP 0 x.cells cs,fz,rfl,by rw[Vy hcl.symm];exact k2,h5,by omega⟩,Le.refl,rfl,rfl,zp _,fun c _=>?_⟩
     ·unfold GQ;simp only[hi,hb1,cond_true];rw[KX h2 hle h5 hone];rfl
     ·rw[H.A0];by_cases e:c=b
      ·exact .inr ⟨id,zf.2 rfl,n,e▸h1⟩
      ·rw[if_neg e];exact .inl rfl
   rename_i ps ho;cases hble:zr (zJ off i.size) (Det.Em ps)with
   |false=>rw[hble]at ht;simp at ht
   |true=>
    rw[hble]at ht;simp only[cond_true,AH]at ht;obtain⟨rfl,rfl⟩:=ht;obtain⟨b,n,y,h1,h2,⟨cs,te,fz,rfl,h4,h5,hbok⟩,hf,_⟩:=hr.at ho;simp only[PR]at ha;obtain rfl:=ha.2 b n h1;rw[C5]at hble;have hle:off+x.cells.length≤cs.length:=by rw[←h4.len,hlen];exact zl hble
    refine⟨id,.inl ⟨off,rfl⟩,.tup [],_,F,ρ,.inr ⟨?_,rfl⟩,by simp[PR],hr.set ho h1 h2 rfl rfl (o':=.box (Det.BP off xs ps)) ⟨_,te,fz,rfl,hxs'.BP off h4,h5,fun u hu=>(VL hu).elim (fun hu=>V.Nu (zu.1 hone u hu)) (hbok u)⟩,Le.refl,rfl,rfl,zp _,fun c _=>?_⟩
    ·unfold GQ;simp only[hi,hb1,cond_true];rw[KX h2 hle h5 hone];rfl
    ·rw[H.A0];by_cases e:c=b
     ·exact .inr ⟨id,zf.2 rfl,n,e▸h1⟩
     ·rw[if_neg e];exact .inl rfl
  case h_2=>
   rename_i id sz j off;split at ht
   case h_2=>simp at ht
   rename_i e s l ho;cases hcc:(ze sz s.sz&&zr (zJ off i.size) sz)with
   |false=>rw[hcc]at ht;simp at ht
   |true=>
    rw[hcc]at ht;simp only[zc]at hcc;have hsz:=zd hcc.1;have hoff:=zl hcc.2;subst hsz;simp only[cond_true]at ht;split at ht
    case h_2=>simp at ht
    rename_i y hy;simp only[Bk,decide_eq_true_eq]at ht;obtain⟨hj,rfl,rfl⟩:=ht;obtain⟨b,n,z,h1,h2,⟨cs,fz,rfl,h4,h5,h6⟩,hf,_⟩:=hr.at ho;simp only[PR]at ha;obtain rfl:=ha.2 b n h1;rw[show l.getD j s.FC=l[j]from by simp[hj]]at hy;have hfl:=Ca (F:=F) (ρ:=ρ) (N:=st.nx) (h4.2 j hj);have hdc:=B1 (hxs'.BP off hfl) hy;have hset:=Df.set h4 hj (by rw[hlen];exact hoff) hdc;have hle:j*s.sz+off+x.cells.length≤cs.length:=by
     have:j*s.sz+s.sz≤cs.length:=by rw[h4.1, ←zm];exact zk _ hj
     have:off+i.size≤s.sz:=hoff;omega
    refine⟨id,.inr ⟨_,_,_,rfl⟩,.tup [],_,F,ρ,.inr ⟨?_,rfl⟩,by simp[PR],hr.set ho h1 h2 rfl rfl (o':=.arr false e s (l.set j y)) ⟨_,fz,rfl,hset,h5,by simpa using h6⟩,Le.refl,rfl,rfl,zp _,fun c _=>?_⟩
    ·unfold GQ;simp only[hi,hb1,cond_true];rw[KX h2 hle h5 hone];rfl
    ·rw[H.A0];by_cases e:c=b
     ·exact .inr ⟨id,zf.2 rfl,n,e▸h1⟩
     ·rw[if_neg e];exact .inl rfl
theorem CR{k:IntKind}{n:Int}{v:V}(h:PR F ρ N (.dat (.int k) n) v):v=.int k n:=by simpa [PR,DC]using h
theorem EN{s:List UInt8}{v:V}(h:PR F ρ N (.dat .str s) v):v=.str s:=by simpa [PR,DC]using h
theorem Fs{b:Bool}{v:V}(h:PR F ρ N (.dat .bool b) v):v=.bool b:=by simpa [PR,DC]using h
theorem LG{b:Bool}{v:V}(h:PR F ρ N (.bl b) v):v=.bool b:=by simpa [PR]using h
theorem Cs(k:IntKind)(n:Int):PR F ρ N (.dat (.int k) n) (.int k n):=by simp[PR,DC]
theorem QN(s:List UInt8):PR F ρ N (.dat .str s) (.str s):=by simp[PR,DC]
theorem CN(b:Bool):PR F ρ N (.dat .bool b) (.bool b):=by simp[PR,DC]
theorem Iv(b:Bool):PR F ρ N (.bl b) (.bool b):=by simp[PR]
theorem FH{p:PV}{b:Bool}{v:V}(h:Hv p=some b)(hp:PR F ρ N p v):v=.bool b:=by
 unfold Hv at h;split at h
 ·cases h;exact LG hp
 ·cases h;exact Fs hp
 ·cases h
theorem cD(hr:SR B h0 F ρ st.nx st.ob h){op:BinOp}{k:IntKind}{a b:Int}{v:PV}(ht:(Zu op k a b st).To v st'):OK B h0 F ρ st h [] (A6 h (Lr op k a b)) v st':=by
 unfold Zu at ht;split at ht<;>simp only[Jt,AH,Bk,decide_eq_true_eq,ne_eq]at ht
 all_goals first
  |(obtain⟨rfl,rfl⟩:=ht;exact OK.pure hr rfl (Cs _ _))
  |(obtain⟨rfl,rfl⟩:=ht;exact OK.pure hr rfl (CN _))
  |(obtain⟨hb,rfl,rfl⟩:=ht;exact OK.pure hr (by simp only[Lr,hb,if_false,A6]) (Cs _ _))
theorem fF(hr:SR B h0 F ρ st.nx st.ob h){op:BinOp}{k:IntKind}{a b:Int}{v:PV}(ht:(fG op k a b st).To v st'):OK B h0 F ρ st h [] (A6 h (TJ op k a b)) v st':=by
 unfold fG at ht;split at ht<;>simp only[Jt,Bk,decide_eq_true_eq]at ht
 all_goals
  obtain⟨hb,rfl,rfl⟩:=ht;exact OK.pure hr (by simp only[TJ,Int.not_lt.2 hb,if_false,A6]) (Cs _ _)
theorem dC(hr:SR B h0 F ρ st.nx st.ob h){op:BinOp}{x y:List UInt8}{v:PV}(ht:(ZN op x y st).To v st'):OK B h0 F ρ st h [] (A6 h (PZ op x y)) v st':=by
 unfold ZN at ht;split at ht<;>simp only[Jt,AH,Bk,decide_eq_true_eq]at ht
 all_goals first
  |(obtain⟨rfl,rfl⟩:=ht;exact OK.pure hr rfl (CN _))
  |(obtain⟨hb,rfl,rfl⟩:=ht;exact OK.pure hr (by simp only[PZ,hb,if_true,A6]) (QN _))
end
section
variable {B:Nat}{h0:H0}{F:Fz}{ρ:C8}{N:Nat}{C:Ctx}{st st':AD}{fr:Fr}{h:H}
theorem NL:∀ {ks:List FK} {ps qs:List PV} {xs ys:List V} {r:Bool},AW F ρ N ps xs→AW F ρ N qs ys→Fj ks ps qs=some r→fit ks xs=true∧fit ks ys=true∧Bn xs ys=some r
 |[],[],[],xs,ys,r,hx,hy,hd=>by
  simp at hx hy;subst hx hy;simp only[Fj,zi]at hd;subst hd;exact⟨rfl,rfl,rfl⟩
 |[],_::_,_,xs,ys,r,hx,hy,hd=>by simp[Fj]at hd
 |[],[],_::_,xs,ys,r,hx,hy,hd=>by simp[Fj]at hd
 |k::ks,[],_,xs,ys,r,hx,hy,hd=>by cases k<;>simp[Fj]at hd
 |k::ks,_::_,[],xs,ys,r,hx,hy,hd=>by cases k<;>simp[Fj]at hd
 |k::ks,p::ps,q::qs,xs,ys,r,hx,hy,hd=>by
  simp only[AW]at hx hy;obtain⟨x,xs,rfl,hx1,hx2⟩:=hx;obtain⟨y,ys,rfl,hy1,hy2⟩:=hy;have key:∀ {c:Bool},k.ok x=true→k.ok y=true→CL x y=some c→(Fj ks ps qs).map (fun r=>c&&r)=some r→fit (k::ks) (x::xs)=true∧fit (k::ks) (y::ys)=true∧Bn (x::xs) (y::ys)=some r:=by
   intro c h1 h2 h3 h4;rw[zg]at h4;obtain⟨r',h5,rfl⟩:=h4;obtain⟨g1,g2,g3⟩:=NL hx2 hy2 h5;refine⟨by simp[fit,h1,g1],by simp[fit,h2,g2],?_⟩;have hl:xs.length=ys.length:=by rw[←O9 g1, ←O9 g2]
   cases c with
   |true=>simp only[Bn,h3,g3,Bool.true_and]
   |false=>simp only[Bn,h3,Bool.false_and,hl,if_true]
  unfold Fj at hd;split at hd
  case h_1=>rename_i e _ _;cases e
  case h_2=>
   rename_i k' ks' k1 a xs' k2 b ys' e1 e2 e3;cases e1;cases e2;cases e3;cases hk:(k'==k1&&k'==k2)with
   |false=>rw[hk]at hd;cases hd
   |true=>
    rw[hk]at hd;simp only[zc,beq_iff_eq]at hk;obtain⟨rfl,rfl⟩:=hk;obtain rfl:=CR hx1;obtain rfl:=CR hy1;exact key (by simp[FK.ok]) (by simp[FK.ok]) (by simp[CL]) hd
  case h_3=>
   rename_i e1 e2 e3;cases e1;cases e2;cases e3;obtain rfl:=EN hx1;obtain rfl:=EN hy1;exact key rfl rfl (by simp[CL]) hd
  case h_4=>
   rename_i e1 e2 e3;cases e1;cases e2;cases e3;split at hd
   case h_2=>cases hd
   rename_i a b ha hb;obtain rfl:=FH ha hx1;obtain rfl:=FH hb hy1;exact key rfl rfl rfl hd
  case h_5=>cases hd
theorem Te(hr:SR B h0 F ρ st.nx st.ob h){op:BinOp}{t e:TypeId}(hu:C.T.und t=some (.slice e)){p:PV}{x:V}(hx:PR F ρ st.nx p x){ng:Bool}{v:PV}(ht:(OI st ng p).To v st'):
  (∀(_:x=.nili),False)∧∃b,Bm C.T t x .nils=some b∧PR F ρ st.nx v (.bool (b !=ng))∧Kg C.T op t x .nils=(match op with| .eql=>(Bm C.T t x .nils).map fun b=>.bool b| .neq=>(Bm C.T t x .nils).map fun b=>.bool !b|_=>none)∧st'=st:=by
 have dq:∀ {x:V},x=.nils∨x=.esl∨x=.es0∨(∃b off len cap o,x=.sl b off len cap o)→Kg C.T op t x .nils=(match op with| .eql=>(Bm C.T t x .nils).map fun b=>.bool b| .neq=>(Bm C.T t x .nils).map fun b=>.bool !b|_=>none):=by
  rintro x (rfl|rfl|rfl|⟨b,off,len,cap,o,rfl⟩)<;>cases op<;>rfl
 have no:∀ {x:V},x=.esl∨x=.es0∨(∃b off len cap o,x=.sl b off len cap o)→Bm C.T t x .nils=some false:=by
  rintro x (rfl|rfl|⟨b,off,len,cap,o,rfl⟩)<;>simp[Bm,hu]
 have yes:Bm C.T t .nils .nils=some true:=by simp[Bm,hu]
 unfold OI at ht;split at ht
 case h_1=>
  simp only[AH]at ht;obtain⟨rfl,rfl⟩:=ht;simp only[PR]at hx;subst hx;exact⟨fun e=>(by cases e),true,yes,by simp[PR],dq (.inl rfl),rfl⟩
 case h_2=>
  rename_i id sz off len cap;cases hl:Kp (st.obj id)with
  |false=>rw[hl]at ht;simp at ht
  |true=>
   rw[hl]at ht;simp only[cond_true,AH]at ht;obtain⟨rfl,rfl⟩:=ht;obtain⟨o,ho⟩:=Gz hl;obtain⟨b,n,_,h1,_⟩:=hr.at ho;simp only[PR]at hx;have:x=.esl∨x=.es0∨(∃b off len cap o,x=.sl b off len cap o):=by
    rcases hx.2 b n h1 with⟨_,_,o,_,rfl⟩|⟨rfl,_,_,rfl|⟨_,rfl,_⟩⟩
    ·exact .inr (.inr ⟨_,_,_,_,_,rfl⟩)
    ·exact .inl rfl
    ·exact .inr (.inr ⟨_,_,_,_,_,rfl⟩)
   exact⟨fun e=>(by subst e;rcases this with h|h|⟨_,_,_,_,_,h⟩<;>cases h),false,no this,by simp[PR],dq (.inr this),rfl⟩
 case h_3=>
  rename_i s l;simp only[PR,DC]at hx;obtain⟨u,hu1,hx⟩:=hx;obtain rfl:x=u:=by simpa using hu1
  have ht2:(decide (0<(l:List s.T).length)=true∧v=.bl ng∧st'=st)∨(v=.ub∧st'=st):=by
   generalize decide (0<(l:List s.T).length)=c at ht;cases ht with
   |tt ht=>simp only[AH]at ht;exact .inl ⟨rfl,ht.1.symm,ht.2.symm⟩
   |ff ht=>simp only[AH]at ht;exact .inr ⟨ht.1.symm,ht.2.symm⟩
  rcases ht2 with⟨hd,rfl,rfl⟩|⟨rfl,rfl⟩
  ·rcases hx with⟨rfl,_⟩|⟨b,off,cap,o,bs,rfl,_⟩
   ·simp at hd
   ·exact⟨fun e=>(by cases e),false,no (.inr (.inr ⟨_,_,_,_,_,rfl⟩)),by simp[PR],dq (.inr (.inr (.inr ⟨_,_,_,_,_,rfl⟩))),rfl⟩
  ·rcases hx with⟨rfl,rfl|rfl|rfl⟩|⟨b,off,cap,o,bs,rfl,_⟩
   ·exact⟨fun e=>(by cases e),true,yes,by simp[PR],dq (.inl rfl),rfl⟩
   ·exact⟨fun e=>(by cases e),false,no (.inl rfl),by simp[PR],dq (.inr (.inl rfl)),rfl⟩
   ·exact⟨fun e=>(by cases e),false,no (.inr (.inl rfl)),by simp[PR],dq (.inr (.inr (.inl rfl))),rfl⟩
   ·exact⟨fun e=>(by cases e),false,no (.inr (.inr ⟨_,_,_,_,_,rfl⟩)),by simp[PR],dq (.inr (.inr (.inr ⟨_,_,_,_,_,rfl⟩))),rfl⟩
 case h_4=>
  rename_i s l;simp only[AH]at ht;obtain⟨rfl,rfl⟩:=ht;simp only[PR,DC]at hx;obtain⟨u,hu1,hx⟩:=hx;obtain rfl:x=u:=by simpa using hu1
  rcases hx with⟨rfl,rfl⟩|⟨h0,b,off,cap,o,bs,rfl,_⟩
  ·exact⟨fun e=>(by cases e),true,yes,by cases ng<;>simp[PR,DC],dq (.inl rfl),rfl⟩
  ·have hpos:0<(l:List s.T).length:=List.length_pos_iff.2 h0;exact⟨fun e=>(by cases e),false,no (.inr (.inr ⟨_,_,_,_,_,rfl⟩)),by cases ng<;>simp[PR,DC,hpos],dq (.inr (.inr (.inr ⟨_,_,_,_,_,rfl⟩))),rfl⟩
 case h_5=>simp at ht
theorem cP(hr:SR B h0 F ρ st.nx st.ob h){op:BinOp}{t:TypeId}{ox oy:Operand}{p q:PV}{x y:V}(hx:PR F ρ st.nx p x)(hy:PR F ρ st.nx q y){v:PV}(ht:(bG C.T op t p q st).To v st'):
  OK B h0 F ρ st h [] (A6 h (Ka C.T op t ox oy x y)) v st':=by
 have nn:∀ {x y:V},(∀(e:x=.nili),False)→Ka C.T op t ox oy x y=Kg C.T op t x y:=by
  intro x y hn;unfold Ka XB;split
  ·rename_i h;split at h
   ·exact(hn rfl).elim
   ·exact(hn rfl).elim
   ·cases h
  ·rfl
 unfold bG at ht;split at ht
 case h_1=>
  rename_i k a k' b;obtain rfl:=CR hx;obtain rfl:=CR hy;rw[nn (fun e=>by cases e)];cases hs:Yb op with
  |true=>
   rw[hs]at ht;simp only[cond_true]at ht;have:=fF hr ht;unfold Kg;cases op<;>simp only[Yb]at hs<;>first|(cases hs;done)|exact this
  |false=>
   rw[hs]at ht;simp only[cond_false]at ht;cases hk:(k==k')with
   |false=>rw[hk]at ht;simp at ht
   |true=>
    rw[hk]at ht;simp only[cond_true]at ht;have:=cD hr ht;have hk:=beq_iff_eq.1 hk;subst hk;unfold Kg;cases op<;>simp only[Yb]at hs<;>first|(cases hs;done)|(simp only[if_true];exact this)
 case h_2=>
  rename_i a b;obtain rfl:=EN hx;obtain rfl:=EN hy;rw[nn (fun e=>by cases e)];have:=dC hr ht;unfold Kg;cases op<;>exact this
 case h_3=>
  rename_i ps qs;simp only[PR]at hx hy;obtain⟨xs,rfl,hx⟩:=hx;obtain⟨ys,rfl,hy⟩:=hy;rw[nn (fun e=>by cases e)];split at ht
  case h_2=>simp at ht
  rename_i ks hks;have eq:∀ {r:Bool},Fj ks ps qs=some r→Bm C.T t (.agg xs) (.agg ys)=some r:=by
   intro r hr';obtain⟨g1,g2,g3⟩:=NL hx hy hr';have:J2 (C.T.flat t) xs ys=some r:=by simp[J2,hks,g1,g2,g3]
   unfold Bm;split<;>first|exact this|(simp_all;done)
  split at ht
  case h_1=>
   rename_i r hr';simp only[AH]at ht;obtain⟨rfl,rfl⟩:=ht;exact OK.pure hr (by show A6 h ((Bm C.T t (.agg xs) (.agg ys)).map _)=_;rw[eq hr'];rfl) (CN _)
  case h_2=>
   rename_i r hr';simp only[AH]at ht;obtain⟨rfl,rfl⟩:=ht;exact OK.pure hr (by show A6 h ((Bm C.T t (.agg xs) (.agg ys)).map _)=_;rw[eq hr'];rfl) (CN _)
  case h_3=>simp at ht
 case h_4=>
  split at ht
  case h_3=>simp at ht
  case h_2=>
   rename_i e _ _ hu;unfold VG at ht;split at ht
   case h_3=>simp at ht
   case h_1=>
    have hs:=Te (op:=.eql) hr hu hx ht;obtain⟨hn,b,h1,h2,h3,e⟩:=hs;subst e;simp only[PR]at hy;subst hy;rw[nn hn,h3];exact OK.pure hr (v':=.bool b) (by simp only[h1];rfl) (by simpa using h2)
   case h_2=>
    have hs:=Te (op:=.neq) hr hu hx ht;obtain⟨hn,b,h1,h2,h3,e⟩:=hs;subst e;simp only[PR]at hy;subst hy;rw[nn hn,h3];exact OK.pure hr (v':=.bool (!b)) (by simp only[h1];rfl) (by simpa using h2)
  rename_i a b ha hb hu;obtain rfl:=FH ha hx;obtain rfl:=FH hb hy;rw[nn (fun e=>by cases e)];have eq:Bm C.T t (.bool a) (.bool b)=some (a==b):=by unfold Bm;rw[hu]
  split at ht
  case h_1=>
   simp only[AH]at ht;obtain⟨rfl,rfl⟩:=ht;exact OK.pure hr (by show A6 h ((Bm C.T t (.bool a) (.bool b)).map _)=_;rw[eq];rfl) (CN _)
  case h_2=>
   simp only[AH]at ht;obtain⟨rfl,rfl⟩:=ht;exact OK.pure hr (by show A6 h ((Bm C.T t (.bool a) (.bool b)).map _)=_;rw[eq];rfl) (CN _)
  case h_3=>simp at ht
theorem eJ(hr:SR B h0 F ρ st.nx st.ob h){op:UnOp}{p:PV}{x:V}(hx:PR F ρ st.nx p x){v:PV}(ht:(eH op p st).To v st'):OK B h0 F ρ st h [] (A6 h (dA op x)) v st':=by
 unfold eH at ht;split at ht<;>simp only[Jt,AH]at ht
 ·obtain⟨rfl,rfl⟩:=ht;obtain rfl:=CR hx;exact OK.pure hr rfl (Cs _ _)
 ·obtain⟨rfl,rfl⟩:=ht;obtain rfl:=LG hx;exact OK.pure hr rfl (Iv _)
 ·obtain⟨rfl,rfl⟩:=ht;simp only[PR]at hx;obtain⟨b,rfl⟩:=hx;exact OK.pure hr (v':=.bool (!b)) rfl (by simp[PR])
 ·obtain⟨rfl,rfl⟩:=ht;obtain rfl:=Fs hx;exact OK.pure hr rfl (CN _)
theorem Z3(hr:SR B h0 F ρ st.nx st.ob h){s d:TypeId}{p:PV}{x:V}(hx:PR F ρ st.nx p x){v:PV}(ht:(Vh C.T s d p st).To v st'):OK B h0 F ρ st h [] (A6 h (Fo C.T h s d x)) v st':=by
 unfold Vh at ht;split at ht<;>simp only[Jt,AH]at ht
 ·rename_i h1 h2;obtain⟨rfl,rfl⟩:=ht;obtain rfl:=CR hx;exact OK.pure hr (by simp[Fo,h1,h2,A6]) (Cs _ _)
 ·rename_i h1 h2;obtain⟨rfl,rfl⟩:=ht;obtain rfl:=EN hx;exact OK.pure hr (by simp[Fo,h1,h2,A6]) (QN _)
theorem ZC(hr:SR B h0 F ρ st.nx st.ob h){c a b:PV}{x y z:V}(hc:PR F ρ st.nx c x)(ha:PR F ρ st.nx a y)(hb:PR F ρ st.nx b z){v:PV}(ht:(Wc c a b st).To v st'):
  ∃t,x=.bool t∧OK B h0 F ρ st h [] (A6 h (some (if t then y else z))) v st':=by
 unfold Wc at ht;split at ht
 case h_3=>simp at ht
 case h_1=>
  rename_i t;simp only[AH]at ht;obtain⟨rfl,rfl⟩:=ht;refine⟨t,LG hc,OK.pure hr rfl ?_⟩;cases t<;>assumption
 case h_2=>
  rename_i t;refine⟨t,Fs hc,?_⟩;split at ht
  case h_1=>
   simp only[AH]at ht;obtain⟨rfl,rfl⟩:=ht;obtain rfl:=Fs ha;obtain rfl:=LG hb;refine OK.pure hr rfl ?_;cases t<;>exact CN _
  case h_2=>
   simp only[AH]at ht;obtain⟨rfl,rfl⟩:=ht;obtain rfl:=LG ha;obtain rfl:=Fs hb;refine OK.pure hr rfl ?_;cases t<;>exact CN _
  case h_3=>
   cases ht with
   |tt h=>simp only[AH]at h;obtain⟨rfl,rfl⟩:=h;exact OK.pure hr rfl ha
   |ff h=>simp only[AH]at h;obtain⟨rfl,rfl⟩:=h;exact OK.pure hr rfl hb
theorem Yh(hr:SR B h0 F ρ st.nx st.ob h){t:TypeId}{p:PV}{x:V}(hx:PR F ρ st.nx p x){f:Nat}{v:PV}(ht:(QT C.T t p f st).To v st'):OK B h0 F ρ st h [] (A6 h (H4 C.T t x f)) v st':=by
 unfold QT at ht;split at ht
 case h_2=>simp at ht
 rename_i fs ps hu;split at ht
 case h_2=>simp at ht
 rename_i fd hfd;split at ht
 case h_2=>simp at ht
 rename_i d i hd hi;simp only[K3]at ht;obtain⟨hpk,rfl⟩:=ht;simp only[PR]at hx;obtain⟨cs,rfl,hps⟩:=hx;rw[Lo]at hpk;have hp:=hps.drop fd.offset;rcases I5 hp hpk with⟨ha,_,hn,hv⟩|⟨ha,u,us,e,hv⟩
 ·exact OK.pure hr (by simp only[H4,hu,hfd,IQ,hd,hi,ha,cond_true,A6]) hv
 ·have:cs[fd.offset]?=some u:=by
   have:=congrArg (·[0]?) e;simpa using this
  exact OK.pure hr (by simp only[H4,hu,hfd,IQ,hd,hi,ha,cond_false,this,A6]) hv
theorem XN(hr:SR B h0 F ρ st.nx st.ob h){t:TypeId}{p:PV}{x:V}(hx:PR F ρ st.nx p x){f:Nat}{v:PV}(ht:(RN C.T t p f st).To v st'):
  OK B h0 F ρ st h [] (A6 h (H9 C.T t x f)) v st':=by
 have live:∀ {id},Kp (st.obj id)=true→∃b n,ρ id=some (b,n):=by
  intro id hi;obtain⟨o,ho⟩:=Gz hi;obtain⟨b,n,_,h1,_⟩:=hr.at ho;exact⟨b,n,h1⟩
 unfold RN at ht;split at ht
 case h_2=>simp at ht
 rename_i fs hu;split at ht
 case h_2=>simp at ht
 rename_i fd hfd;split at ht
 case h_2=>simp at ht
 rename_i i hi;cases hz:ze i.size 0 with
 |true=>rw[hz]at ht;simp at ht
 |false=>
  have hz':i.size≠0:=by intro e;rw[e]at hz;cases hz
  rw[hz]at ht;simp only[cond_false]at ht;have core:∀b off,H9 C.T t (.ptr b off) f=some (.ptr b (off+fd.offset)):=by
   intro b off;simp only[H9,hu,hfd,hi,hz',if_false]
  split at ht
  ·rename_i id off;cases hl:Kp (st.obj id)with
   |false=>rw[hl]at ht;simp at ht
   |true=>
   rw[hl]at ht;simp only[cond_true,AH]at ht;obtain⟨rfl,rfl⟩:=ht;have hx':=hx;simp only[PR]at hx';obtain⟨b,n,h1⟩:=live hl;obtain rfl:=hx'.2 b n h1;refine OK.pure hr (by rw[core];rfl) ?_;simp only[PR];exact⟨hx'.1,fun b' n' hb=>by rw[h1]at hb;cases hb;rfl⟩
  ·rename_i id sz j off;cases hl:Kp (st.obj id)with
   |false=>rw[hl]at ht;simp at ht
   |true=>
   rw[hl]at ht;simp only[cond_true,AH]at ht;obtain⟨rfl,rfl⟩:=ht;have hx':=hx;simp only[PR]at hx';obtain⟨b,n,h1⟩:=live hl;obtain rfl:=hx'.2 b n h1;refine OK.pure hr (by rw[core];rfl) ?_;simp only[PR];exact⟨hx'.1,fun b' n' hb=>by rw[h1]at hb;cases hb;simp[zE]⟩
  ·rename_i s y off;simp only[AH]at ht;obtain⟨rfl,rfl⟩:=ht;simp only[PR]at hx;obtain⟨b,o,cs,rfl,h1,h2⟩:=hx;refine OK.pure hr (by rw[core];rfl) ?_;simp only[PR];exact⟨b,o,cs,by simp[zE],h1,h2⟩
  ·simp at ht
end
section
variable {B:Nat}{h0:H0}{F:Fz}{ρ:C8}{N:Nat}{C:Ctx}{st st':AD}{fr:Fr}{h:H}
theorem SR.live(hr:SR B h0 F ρ st.nx st.ob h){id:Nat}(hi:Kp (st.obj id)=true):∃b n,ρ id=some (b,n):=by
 obtain⟨o,ho⟩:=Gz hi;obtain⟨b,n,_,h1,_⟩:=hr.at ho;exact⟨b,n,h1⟩
theorem CF{i:Int}(h:0≤i):∃n:Nat,i=zA n∧i.toNat=n:=⟨i.toNat,(Int.toNat_of_nonneg h).symm,rfl⟩
theorem CJ{a b:Nat}(h:a<b):zN a b=true:=zq h
theorem VS(hr:SR B h0 F ρ st.nx st.ob h){t:TypeId}{p q:PV}{x y:V}(hx:PR F ρ st.nx p x)(hy:PR F ρ st.nx q y){v:PV}(ht:(OM C.T t p q st).To v st'):
  OK B h0 F ρ st h [] (A6 h (Cg C.T t x y)) v st':=by
 unfold OM at ht;split at ht
 case h_3=>simp at ht
 case h_2=>
  rename_i alen e k i hu;obtain rfl:=CR hy;split at ht
  case h_2=>simp at ht
  rename_i ti hti;split at ht
  case h_4=>simp at ht
  case h_1=>
   rename_i id off;simp only[PR]at hx;split at ht
   case h_3=>exact absurd ht (by simp)
   case h_1=>
    rename_i fzb te s l ho;cases hcc:(ze off 0&&ze ti.size s.sz)with
    |false=>rw[hcc]at ht;simp at ht
    |true=>
     rw[hcc]at ht;rw[zc]at hcc;have hoff:=zd hcc.1;have hs1:=zd hcc.2;subst hoff;simp only[cond_true,Bk,zc,decide_eq_true_eq]at ht;obtain⟨⟨hi0,hi1⟩,rfl,rfl⟩:=ht;obtain⟨n,rfl,hn⟩:=CF hi0;have hlt:n<alen:=by simp at hi1;exact hi1
     obtain⟨b,m,_,h1,_⟩:=hr.at ho;obtain rfl:=hx.2 b m h1;refine OK.pure hr (v':=.ptr b (0+n*ti.size)) ?_ ?_
     ·show A6 h (Cg C.T t (.ptr b 0) (.int k (zA n)))=_;simp only[Cg,hu,hti,CJ hlt,cond_true,A6]
     ·simp only[PR];refine⟨hx.1,fun b' n' hb=>?_⟩;rw[h1]at hb;cases hb;rw[hn,hs1,Nat.zero_add];rfl
   case h_2=>
    rename_i o _ ho;simp only[Bk,zc,decide_eq_true_eq]at ht;obtain⟨⟨hi0,hi1⟩,rfl,rfl⟩:=ht;obtain⟨n,rfl,hn⟩:=CF hi0;have hlt:n<alen:=by simp at hi1;exact hi1
    obtain⟨b,m,_,h1,_⟩:=hr.at ho;obtain rfl:=hx.2 b m h1;refine OK.pure hr (v':=.ptr b (off+n*ti.size)) ?_ ?_
    ·show A6 h (Cg C.T t (.ptr b off) (.int k (zA n)))=_;simp only[Cg,hu,hti,CJ hlt,cond_true,A6]
    ·simp only[PR];refine⟨hx.1,fun b' n' hb=>?_⟩;rw[h1]at hb;cases hb;rw[hn];rfl
  case h_2=>
   rename_i id sz j off;cases hl:Kp (st.obj id)with
   |false=>rw[hl]at ht;simp at ht
   |true=>
    rw[hl]at ht;simp only[cond_true,Bk,zc,decide_eq_true_eq]at ht;obtain⟨⟨hi0,hi1⟩,rfl,rfl⟩:=ht;obtain⟨n,rfl,hn⟩:=CF hi0;have hlt:n<alen:=by simp at hi1;exact hi1
    obtain⟨b,m,h1⟩:=hr.live hl;simp only[PR]at hx;obtain rfl:=hx.2 b m h1;refine OK.pure hr (v':=.ptr b (j*sz+off+n*ti.size)) ?_ ?_
    ·show A6 h (Cg C.T t (.ptr b (j*sz+off)) (.int k (zA n)))=_;simp only[Cg,hu,hti,CJ hlt,cond_true,A6]
    ·simp only[PR];refine⟨hx.1,fun b' n' hb=>?_⟩;rw[h1]at hb;cases hb;rw[hn,zE];rfl
  case h_3=>
   rename_i s y off;simp only[Bk,zc,decide_eq_true_eq]at ht;obtain⟨⟨hi0,hi1⟩,rfl,rfl⟩:=ht;obtain⟨n,rfl,hn⟩:=CF hi0;have hlt:n<alen:=by simp at hi1;exact hi1
   simp only[PR]at hx;obtain⟨b,o,cs,rfl,h1,h2,h3⟩:=hx;refine OK.pure hr (v':=.ptr b (o+off+n*ti.size)) ?_ ?_
   ·show A6 h (Cg C.T t (.ptr b (o+off)) (.int k (zA n)))=_;simp only[Cg,hu,hti,CJ hlt,cond_true,A6]
   ·simp only[PR];refine⟨b,o,cs,?_,h1,h2,h3⟩;rw[hn,zE];rfl
 case h_1=>
 rename_i e k i hu;obtain rfl:=CR hy;split at ht
 case h_2=>simp at ht
 rename_i ti hti;split at ht
 case h_3=>simp at ht
 case h_1=>
  rename_i s l;cases hz:ze ti.size s.sz with
  |false=>rw[hz]at ht;simp at ht
  |true=>
   rw[hz]at ht;have hz:=zd hz;simp only[cond_true,Bk,zc,decide_eq_true_eq]at ht;obtain⟨⟨hi0,hi1⟩,rfl,rfl⟩:=ht;obtain⟨n,rfl,hn⟩:=CF hi0;have hlt:n<l.length:=by simp at hi1;exact hi1
   simp only[PR,DC]at hx;obtain⟨u,hu1,hx⟩:=hx;obtain rfl:x=u:=by simpa using hu1
   rcases hx with⟨rfl,_⟩|⟨b,off,cap,o,bs,rfl,h1,h2,h3,_,h4⟩
   ·simp at hlt
   ·refine OK.pure hr (v':=.ptr b (off+n*ti.size)) ?_ ?_
    ·show A6 h (Cg C.T t (.sl b off l.length cap o) (.int k (zA n)))=_;simp only[Cg,hu,hti,CJ hlt,cond_true,A6]
    ·simp only[PR];refine⟨b,off+n*s.sz,bs,by rw[hz];rfl,h2,?_,?_⟩
     ·have:(n+1)*s.sz≤l.length*s.sz:=zk _ hlt;rw[zm]at this;omega
     ·have:=h4 n hlt;rw[hn,show l.getD n s.FC=l[n]from by simp[hlt]];exact this
 case h_2=>
  rename_i id sz off len cap;cases hz:(ze ti.size sz&&Kp (st.obj id))with
  |false=>rw[hz]at ht;simp at ht
  |true=>
   rw[hz]at ht;simp only[zc]at hz;obtain⟨hz,hl⟩:=hz;have hz:=zd hz;simp only[cond_true,Bk,zc,decide_eq_true_eq]at ht;obtain⟨⟨hi0,hi1⟩,rfl,rfl⟩:=ht;obtain⟨n,rfl,hn⟩:=CF hi0;have hlt:n<len:=by simp at hi1;exact hi1
   obtain⟨b,m,h1⟩:=hr.live hl;simp only[PR]at hx;rcases hx.2 b m h1 with⟨_,_,o,_,rfl⟩|⟨e0,_⟩
   ·refine OK.pure hr (v':=.ptr b (off*sz+n*ti.size)) ?_ ?_
    ·show A6 h (Cg C.T t (.sl b (off*sz) len _ o) (.int k (zA n)))=_;simp only[Cg,hu,hti,CJ hlt,cond_true,A6]
    ·simp only[PR];refine⟨hx.1,fun b' n' hb=>?_⟩;rw[h1]at hb;cases hb;rw[hz,hn];show V.ptr b (off*sz+n*sz)=.ptr b ((n+off)*sz+0);rw[zS,Nat.add_comm (n*sz)];rfl
   ·omega
theorem W4(hr:SR B h0 F ρ st.nx st.ob h){t:TypeId}{p q:PV}{x y:V}(hx:PR F ρ st.nx p x)(hy:PR F ρ st.nx q y){v:PV}(ht:(Q7 C.T t p q st).To v st'):
  OK B h0 F ρ st h [] (A6 h (FO C.T t x y)) v st':=by
 unfold Q7 at ht;split at ht
 case h_3=>simp at ht
 case h_2=>
  rename_i alen e ps k i hu;obtain rfl:=CR hy;split at ht
  case h_2=>simp at ht
  rename_i d ti hd hti;simp only[Me,zc,decide_eq_true_eq]at ht;obtain⟨⟨hi0,hi1⟩,hpk,rfl⟩:=ht;obtain⟨n,rfl,hn⟩:=CF hi0;have hlt:n<alen:=by simp at hi1;exact hi1
  simp only[PR]at hx;obtain⟨cs,rfl,hps⟩:=hx;rw[Lo,hn]at hpk;have hp:=hps.drop (n*ti.size);have hdx:FO C.T t (.agg cs) (.int k (zA n))=IQ C.T e cs (n*ti.size):=by simp only[FO,hu,hti,CJ hlt,cond_true]
  rcases I5 hp hpk with⟨ha,_,_,hv⟩|⟨ha,u,us,e',hv⟩
  ·exact OK.pure hr (by rw[hdx];simp only[IQ,hd,hti,ha,cond_true,A6]) hv
  ·have:cs[n*ti.size]?=some u:=by
    have:=congrArg (·[0]?) e';simpa using this
   exact OK.pure hr (by rw[hdx];simp only[IQ,hd,hti,ha,cond_false,this,A6]) hv
 case h_1=>
 rename_i s k i hu;obtain rfl:=EN hx;obtain rfl:=CR hy;simp only[Bk,zc,decide_eq_true_eq]at ht;obtain⟨⟨hi0,hi1⟩,rfl,rfl⟩:=ht;obtain⟨n,rfl,hn⟩:=CF hi0;have hlt:n<zR s:=by simp at hi1;exact hi1
 have hg:(s:List UInt8)[n]?=some (s:List UInt8)[n]:=zy hlt;refine OK.pure hr (v':=.int .u8 ((s:List UInt8)[n].toNat:Int)) ?_ ?_
 ·show A6 h (FO C.T t (.str s) (.int k (zA n)))=_;simp only[FO,hu,hg,A6]
 ·rw[hn,show List.getD (s:List UInt8) n 0=(s:List UInt8)[n]from by simp[hlt]];exact Cs _ _
theorem Tm(hr:SR B h0 F ρ st.nx st.ob h){p:PV}{x:V}(hx:PR F ρ st.nx p x){i:Nat}{v:PV}(ht:(Lt p i st).To v st'):OK B h0 F ρ st h [] (A6 h (E8 x i)) v st':=by
 unfold Lt at ht;split at ht
 case h_2=>simp at ht
 rename_i ps;split at ht
 case h_2=>simp at ht
 rename_i q hq;simp only[AH]at ht;obtain⟨rfl,rfl⟩:=ht;simp only[PR]at hx;obtain⟨cs,rfl,hps⟩:=hx;obtain⟨u,h1,h2⟩:=hps.get hq;exact OK.pure hr (by simp only[E8,h1,A6]) h2
def Pf(F:Fz)(ρ:C8)(N:Nat):Option PV→Option V→Prop
 |none,x=>x=none
 |some p,x=>∃v,x=some v∧PR F ρ N p v
theorem CT{o:Option PV}{x:Option V}{d:Nat}{c:Bool}{n:Nat}(hx:Pf F ρ N o x)(hp:pb o d=some (c,n))(hc:c=true){y:Nat}(hy:n≤y):Fp x y d=some n:=by
 unfold pb at hp;split at hp
 ·cases hp;simp only[Pf]at hx;subst hx;rfl
 ·cases hp;simp only[Pf]at hx;obtain⟨v,rfl,hv⟩:=hx;obtain rfl:=CR hv;simp only[decide_eq_true_eq]at hc;obtain⟨m,rfl,hm⟩:=CF hc;rw[hm]at hy;show(bif zr m y then some m else none)=_;rw[zq hy,hm];rfl
 ·cases hp
theorem Pf.isNone{o:Option PV}{x:Option V}(hx:Pf F ρ N o x):(o=none↔x=none):=by
 cases o with
 |none=>simp only[Pf]at hx;simp[hx]
 |some p=>simp only[Pf]at hx;obtain⟨v,rfl,_⟩:=hx;simp
theorem JH{T:BA}{t e:TypeId}{ti:TI}{b off len cap o m hh l:Nat}{lo hi mx:Option V}(hu:T.und t=some (.slice e))(hti:T.inf e=some ti)(hm:Fp mx cap cap=some m)(hb:Fp hi m len=some hh)
  (hl:Fp lo hh 0=some l) (hno:hi=none→mx=none):
  CB T t (.sl b off len cap o) lo hi mx=bif ze m l then(bif ze (HB mx o) 0 then some (.sl b off (hh-l) (m-l) 0)else some .esl)
   else bif ze (HB mx o) 0||ze (HB mx o) ti.size then some (.sl b (off+l*ti.size) (hh-l) (m-l) (HB mx o))else none:=by
 cases hi with
 |some x=>cases mx<;>simp only[CB,hu,hti,hm,hb,hl]
 |none=>
  cases hno rfl;simp only[CB,hu,hti,hm,hb,hl]
theorem Wy(hr:SR B h0 F ρ st.nx st.ob h){t:TypeId}{p:PV}{x:V}{lo hi mx:Option PV}{a b c:Option V}(hx:PR F ρ st.nx p x)(hlo:Pf F ρ st.nx lo a)(hhi:Pf F ρ st.nx hi b)(hmx:Pf F ρ st.nx mx c)
  {v:PV} (ht:(NT C.T t p lo hi mx st).To v st'):OK B h0 F ρ st h [] (A6 h (CB C.T t x a b c)) v st':=by
 unfold NT at ht;split at ht
 case h_3=>simp at ht
 case h_1=>
  rename_i hu;split at ht
  case h_2=>simp at ht
  rename_i s;obtain rfl:=EN hx;split at ht
  case h_2=>simp at ht
  rename_i c1 l c2 hh hb1 hb2;simp only[Bk,zc,decide_eq_true_eq]at ht;obtain⟨⟨⟨⟨k1,k2⟩,k3⟩,k4⟩,rfl,rfl⟩:=ht;simp only[Pf]at hmx;subst hmx;have e1:=CT hlo hb1 k1 k3;have e2:=CT hhi hb2 k2 k4;exact OK.pure hr (by simp only[CB,hu,e1,e2,A6];rfl) (QN _)
 case h_2=>
  rename_i e hu;split at ht
  case h_2=>simp at ht
  rename_i ti hti;split at ht
  case h_4=>simp at ht
  case h_1=>
   rename_i s xs;cases hz:ze ti.size s.sz with
   |false=>rw[hz]at ht;simp at ht
   |true=>
    rw[hz]at ht;have hz:=zd hz;simp only[cond_true]at ht;split at ht
    case h_2=>simp at ht
    rename_i c1 l c2 hh hb1 hb2;simp only[Bk,zc,decide_eq_true_eq]at ht;obtain⟨⟨⟨⟨k1,k2⟩,k3⟩,k4⟩,rfl,rfl⟩:=ht;simp only[Pf]at hmx;subst hmx;have e1:=CT hlo hb1 k1 k3;simp only[PR,DC]at hx;obtain⟨u,hu1,hx⟩:=hx;obtain rfl:x=u:=by simpa using hu1
    rcases hx with⟨rfl,rfl|rfl|rfl⟩|⟨bb,off,cap,o,bs,rfl,h1,h2,h3,h5,h4⟩
    ·have e2:=CT hhi hb2 k2 k4;simp only[zQ]at e2 k4;refine OK.pure hr (v':=.nils) (by simp only[CB,hu,show Fp none 0 0=some 0 from rfl,show V6 b none=Fp b 0 0 from by cases b<;>rfl,e1,e2,hti,A6]) ?_;simp[PR,DC]
    ·have e2:=CT hhi hb2 k2 k4;simp only[zQ]at e2 k4;refine OK.pure hr (v':=.esl) (by simp only[CB,hu,show Fp none 0 0=some 0 from rfl,show V6 b none=Fp b 0 0 from by cases b<;>rfl,e1,e2,hti,A6,LV,cond_false]) ?_;simp[PR,DC]
    ·have e2:=CT hhi hb2 k2 k4;simp only[zQ]at e2 k4;refine OK.pure hr (v':=.es0) (by simp only[CB,hu,show Fp none 0 0=some 0 from rfl,show V6 b none=Fp b 0 0 from by cases b<;>rfl,e1,e2,hti,A6]) ?_;simp[PR,DC]
    ·have e2:Fp b cap xs.length=some hh:=CT hhi hb2 k2 (Nat.le_trans k4 h1);have hds:=JH (b:=bb) (off:=off) (len:=xs.length) (cap:=cap) (o:=o) (mx:=none) hu hti rfl e2 e1 (fun _=>rfl);have hlen:((xs.drop l).take (Nat.sub hh l)).length=hh-l:=by
      have:Nat.sub hh l=hh-l:=rfl;rw[this];simp;omega
     by_cases hcl:cap=l
     ·have hhl:hh=l:=by omega
      have hemp:(xs.drop l).take (Nat.sub hh l)=[]:=by
       apply List.eq_nil_of_length_eq_zero;rw[hlen];omega
      rw[hemp];by_cases ho:o=0
      ·refine OK.pure hr (v':=.sl bb off (hh-l) (cap-l) 0) ?_ ?_
       ·have:HB none o=0:=ho;rw[hds,this,hcl,zw];rfl
       ·simp only[PR,DC];exact⟨_,rfl,.inr ⟨bb,off,cap-l,0,bs,by simp[hhl],by simp,h2,by simp;omega,.inl rfl,fun i hi=>by simp at hi⟩⟩
      ·refine OK.pure hr (v':=.esl) ?_ ?_
       ·have h1:ze (HB none o) 0=false:=by rw[A1];simp[HB,ho]
        rw[hds,h1,hcl,zw];rfl
       ·simp[PR,DC]
     ·refine OK.pure hr (v':=.sl bb (off+l*ti.size) (hh-l) (cap-l) o) ?_ ?_
      ·have hb1:ze cap l=false:=by rw[A1];simp[hcl]
       have ho:(ze (HB none o) 0||ze (HB none o) ti.size)=true:=by
        rcases h5 with rfl|rfl
        ·rfl
        ·rw[hz];show(ze s.sz 0||ze s.sz s.sz)=true;rw[zw,zU]
       rw[hds,hb1,ho];rfl
      ·simp only[PR,DC];refine⟨_,rfl,.inr ⟨bb,off+l*ti.size,cap-l,o,bs,by rw[hlen],by rw[hlen];omega,h2,?_,h5,fun i hi=>?_⟩⟩
       ·rw[hlen,hz];have:(l+(hh-l))*s.sz≤xs.length*s.sz:=zk _ (by omega);rw[zS]at this;omega
       ·rw[hlen]at hi;have hi2:l+i<xs.length:=by omega
        have:=h4 (l+i) hi2;rw[List.getElem_take,List.getElem_drop,hz];rw[zS, ←zE]at this;exact this
  case h_2=>
   rename_i id sz off len cap;cases hz:(ze ti.size sz&&Kp (st.obj id))with
   |false=>rw[hz]at ht;simp at ht
   |true=>
    rw[hz]at ht;simp only[zc]at hz;obtain⟨hz,hl⟩:=hz;have hz:=zd hz;simp only[cond_true]at ht;have hno:¬(hi=none∧mx≠none):=by
     rintro⟨rfl,hm⟩;cases mx with
     |none=>exact hm rfl
     |some _=>simp at ht
    split at ht
    case h_1=>simp at ht
    split at ht
    case h_2=>simp at ht
    rename_i c1 l c2 hh c3 m hb1 hb2 hb3;simp only[Bk,zc,decide_eq_true_eq]at ht;obtain⟨⟨⟨⟨⟨⟨⟨k1,k2⟩,k3⟩,k4⟩,k5⟩,k6⟩,k7⟩,rfl,rfl⟩:=ht;have e1:=CT hlo hb1 k1 k4;have e3:=CT hmx hb3 k3 k6;have e2:=CT hhi hb2 k2 k5;have hno':b=none→c=none:=by
     intro hbn;cases hcc:c with
     |none=>rfl
     |some z=>
      exfalso;apply hno;exact⟨hhi.isNone.2 hbn,fun e=>by have:=hmx.isNone.1 e;rw[this]at hcc;cases hcc⟩
    obtain⟨b0,n0,h1⟩:=hr.live hl;simp only[PR]at hx;rcases hx.2 b0 n0 h1 with⟨g1,g2,o,g3,rfl⟩|⟨rfl,rfl,g2,g3⟩
    ·have hds:=JH (b:=b0) (off:=off*sz) (len:=len) (cap:=cap.getD len) (o:=o) hu hti e3 e2 e1 hno';have hoz:HB c o=0∨HB c o=sz:=by
      unfold HB;cases c with
      |none=>exact g3
      |some _=>exact .inl rfl
     by_cases hml:m=l
     ·have hhl:hh-l=0:=by omega
      by_cases ho:HB c o=0
      ·refine OK.pure hr (v':=.sl b0 (off*sz) (hh-l) (m-l) 0) ?_ ?_
       ·rw[hds,ho,hml,zw];rfl
       ·unfold PR;refine⟨hx.1,fun b' n' hb=>.inr ?_⟩;rw[h1]at hb;cases hb;refine⟨hhl,?_,?_,.inr ⟨off*sz,by rw[hhl,hml,zV],zk _ (Nat.le_add_right _ _)⟩⟩
        ·show some (m-l)=some 0;rw[hml,zV]
        ·show off+l≤n0;omega
      ·refine OK.pure hr (v':=.esl) ?_ ?_
       ·have hb0:ze (HB c o) 0=false:=by rw[A1];simp[ho]
        rw[hds,hb0,hml,zw];rfl
       ·unfold PR;refine⟨hx.1,fun b' n' hb=>.inr ?_⟩;rw[h1]at hb;cases hb;refine⟨hhl,?_,?_,.inl rfl⟩
        ·show some (m-l)=some 0;rw[hml,zV]
        ·show off+l≤n0;omega
     ·refine OK.pure hr (v':=.sl b0 (off*sz+l*ti.size) (hh-l) (m-l) (HB c o)) ?_ ?_
      ·have hb1:ze m l=false:=by rw[A1];simp[hml]
       have ho:(ze (HB c o) 0||ze (HB c o) ti.size)=true:=by
        rcases hoz with e|e
        ·rw[e];rfl
        ·rw[e,hz,zw,zU]
       rw[hds,hb1,ho];rfl
      ·unfold PR;refine⟨hx.1,fun b' n' hb=>.inl ?_⟩;rw[h1]at hb;cases hb;refine⟨?_,?_,HB c o,hoz,?_⟩
       ·show hh-l≤m-l;omega
       ·show off+l+(m-l)≤n0;omega
       ·show V.sl b0 (off*sz+l*ti.size) (hh-l) (m-l) (HB c o)=.sl b0 ((off+l)*sz) (hh-l) (m-l) (HB c o);rw[hz,zS]
    ·simp only[Option.getD_some]at k6 k7 e3;obtain rfl:m=0:=by omega
     obtain rfl:hh=0:=by omega
     obtain rfl:l=0:=by omega
     have hc:c=none:=by
      cases mx with
      |none=>exact hmx
      |some _=>simp[has]at k7
     subst hc;rcases g3 with rfl|⟨off',rfl,g4⟩
     ·refine OK.pure hr (v':=.esl) (by simp only[CB,hu,hti,show Fp none 0 0=some 0 from rfl,show V6 b none=Fp b 0 0 from by cases b<;>rfl,e2,e1,A6,LV,cond_false]) ?_;unfold PR;exact⟨hx.1,fun b' n' hb=>.inr ⟨by rfl,by rfl,by rw[h1]at hb;cases hb;exact g2,.inl rfl⟩⟩
     ·refine OK.pure hr (v':=.sl b0 off' 0 0 0) ?_ ?_
      ·rw[JH (mx:=none) hu hti rfl e2 e1 (fun _=>rfl)];rfl
      ·unfold PR;refine⟨hx.1,fun b' n' hb=>.inr ⟨rfl,rfl,?_,.inr ⟨off',?_,?_⟩⟩⟩
       ·rw[h1]at hb;cases hb;exact g2
       ·rw[h1]at hb;cases hb;rfl
       ·show off'≤(off+0)*sz;exact g4
  case h_3=>
   split at ht
   case h_3=>simp at ht
   case h_2=>
    rename_i c1 l c2 hh q hb1 hb2;split at ht
    case h_2=>simp at ht
    rename_i p' c3 m hb3;simp only[Bk,zc,decide_eq_true_eq]at ht;obtain⟨⟨⟨⟨⟨⟨k1,k2⟩,k5⟩,k3⟩,k4⟩,k6⟩,rfl,rfl⟩:=ht;have e1:=CT hlo hb1 k1 k3;have e2:=CT hhi hb2 k2 (show hh≤0 by omega);have e3:=CT hmx hb3 k5 k6;simp only[PR]at hx;subst hx;cases b with
    |none=>simp[Pf]at hhi
    |some b=>exact OK.pure hr (v':=.nils) (by simp only[CB,hu,e3,show V6 (some b) c=Fp (some b) 0 0 from by cases c<;>rfl,e2,e1,hti,A6]) (by simp[PR])
   rename_i c1 l c2 hh hb1 hb2;simp only[Bk,zc,decide_eq_true_eq]at ht;obtain⟨⟨⟨⟨k1,k2⟩,k3⟩,k4⟩,rfl,rfl⟩:=ht;simp only[Pf]at hmx;subst hmx;have e1:=CT hlo hb1 k1 k3;have e2:=CT hhi hb2 k2 k4;simp only[PR]at hx;subst hx;exact OK.pure hr (v':=.nils) (by simp only[CB,hu,show Fp none 0 0=some 0 from rfl,show V6 b none=Fp b 0 0 from by cases b<;>rfl,e1,e2,hti,A6]) (by simp[PR])
theorem XU(hr:SR B h0 F ρ st.nx st.ob h){t:TypeId}{p q:PV}{x y:V}(hx:PR F ρ st.nx p x)(hy:PR F ρ st.nx q y){v:PV}(ht:(UF C.T t p q st).To v st'):
  OK B h0 F ρ st h [] (A6 h (Cg C.T t x y)) v st':=VS hr hx.lz hy ht
theorem YK(hr:SR B h0 F ρ st.nx st.ob h){t:TypeId}{p:PV}{x:V}{lo hi mx:Option PV}{a b c:Option V}(hx:PR F ρ st.nx p x)(hlo:Pf F ρ st.nx lo a)(hhi:Pf F ρ st.nx hi b)(hmx:Pf F ρ st.nx mx c)
  {v:PV} (ht:(WV C.T t p lo hi mx st).To v st'):OK B h0 F ρ st h [] (A6 h (CB C.T t x a b c)) v st':=Wy hr hx.lz hlo hhi hmx ht
end
section
variable {B:Nat}{h0:H0}{F:Fz}{ρ:C8}{N:Nat}{C:Ctx}{st st':AD}{fr:Fr}{h:H}
theorem MR.len{ks vs:Sh}{l:List (ks.T×vs.T)}{es:List (V×V×Nat)}(h:MR F ks vs l es):l.length=es.length:=by
 induction h with
 |nil=>rfl
 |cons _ _ _ ih=>simp[ih]
theorem ZQ(hr:SR B h0 F ρ st.nx st.ob h){ts:Array TypeId}{ps:List PV}{xs:List V}(hx:AW F ρ st.nx ps xs){v:PV}(ht:(Qr C.T ts ps st).To v st'):OK B h0 F ρ st h [] (A6 h (D8 C.T h ts xs)) v st':=by
 unfold Qr at ht;split at ht
 case h_2=>simp at ht
 rename_i t p hts;simp only[AW]at hx;obtain⟨x,xs',rfl,hx,rfl⟩:=hx;split at ht
 case h_6=>simp at ht
 case h_1=>
  rename_i s hu;simp only[AH]at ht;obtain⟨rfl,rfl⟩:=ht;obtain rfl:=EN hx;exact OK.pure hr (by simp only[D8,hts,hu,A6];rfl) (Cs _ _)
 case h_2=>
  rename_i s l hu;simp only[AH]at ht;obtain⟨rfl,rfl⟩:=ht;simp only[PR,DC]at hx;obtain⟨u,hu1,hx⟩:=hx;obtain rfl:x=u:=by simpa using hu1
  rcases hx with⟨rfl,rfl|rfl|rfl⟩|⟨b,off,cap,o,bs,rfl,_⟩
  ·exact OK.pure hr (by simp only[D8,hts,hu,A6];rfl) (Cs _ _)
  ·exact OK.pure hr (by simp only[D8,hts,hu,A6];rfl) (Cs _ _)
  ·exact OK.pure hr (by simp only[D8,hts,hu,A6];rfl) (Cs _ _)
  ·exact OK.pure hr (by simp only[D8,hts,hu,A6];rfl) (Cs _ _)
 case h_3=>
  rename_i id sz off len cap hu;cases hl:Kp (st.obj id)with
  |false=>rw[hl]at ht;simp at ht
  |true=>
   rw[hl]at ht;simp only[cond_true,AH]at ht;obtain⟨rfl,rfl⟩:=ht;obtain⟨b,n,h1⟩:=hr.live hl;simp only[PR]at hx;rcases hx.2 b n h1 with⟨_,_,o,_,rfl⟩|⟨rfl,_,_,rfl|⟨_,rfl,_⟩⟩
   ·exact OK.pure hr (by simp only[D8,hts,hu,A6];rfl) (Cs _ _)
   ·exact OK.pure hr (by simp only[D8,hts,hu,A6];rfl) (Cs _ _)
   ·exact OK.pure hr (by simp only[D8,hts,hu,A6];rfl) (Cs _ _)
 case h_4=>
  rename_i hu;simp only[AH]at ht;obtain⟨rfl,rfl⟩:=ht;simp only[PR]at hx;subst hx;exact OK.pure hr (by simp only[D8,hts,hu,A6];rfl) (Cs _ _)
 case h_5=>
  rename_i id hu;split at ht
  case h_2=>simp at ht
  rename_i ks vs l ho;simp only[AH]at ht;obtain⟨rfl,rfl⟩:=ht;obtain⟨b,n,y,h1,h2,⟨es,clk,rfl,h3⟩,_⟩:=hr.at ho;simp only[PR]at hx;obtain rfl:=hx.2 b n h1;have hl:l.length=es.length:=h3.len;refine OK.pure hr (v':=i64 es.length) (by simp only[D8,hts,hu,h2,A6]) ?_;rw[←hl];exact Cs _ _
theorem dM(hr:SR B h0 F ρ st.nx st.ob h){ts:Array TypeId}{ps:List PV}{xs:List V}(hx:AW F ρ st.nx ps xs){v:PV}(ht:(XP C.T ts ps st).To v st'):OK B h0 F ρ st h [] (A6 h (D8 C.T h ts xs)) v st':=ZQ hr hx.lz ht
theorem cX(hr:SR B h0 F ρ st.nx st.ob h){f:Int→Int→Int}{g:V→V→Option V}(hg:∀k x y,g (.int k x) (.int k y)=some (.int k (f x y))){ps:List PV}{xs:List V}(hx:AW F ρ st.nx ps xs){v:PV}
  (ht:(KQ f ps st).To v st'):OK B h0 F ρ st h [] (A6 h (Ey g xs)) v st':=by
 have key:∀(ps:List PV) (xs:List V) (k:IntKind) (x z:Int),AW F ρ st.nx ps xs→cB f k x ps=some z→dfold g (.int k x) xs=some (.int k z):=by
  intro ps;induction ps with
  |nil=>intro xs k x z hx hz;simp at hx;subst hx;simp only[cB,zi]at hz;subst hz;rfl
  |cons p ps ih=>
   intro xs k x z hx hz;simp only[AW]at hx;obtain⟨u,us,rfl,h1,h2⟩:=hx;unfold cB at hz;split at hz
   case h_1=>rename_i e;cases e
   case h_2=>
    rename_i e;cases e;rename_i k' y;cases hk:(k==k')with
    |false=>rw[hk]at hz;cases hz
    |true=>
     rw[hk]at hz;have hk:=beq_iff_eq.1 hk;subst hk;obtain rfl:=CR h1;simp only[dfold,hg];exact ih us k _ z h2 hz
   case h_3=>cases hz
 unfold KQ at ht;split at ht
 case h_2=>simp at ht
 rename_i k x ys;split at ht
 case h_2=>simp at ht
 rename_i z hz;simp only[AH]at ht;obtain⟨rfl,rfl⟩:=ht;simp only[AW]at hx;obtain⟨u,us,rfl,h1,h2⟩:=hx;obtain rfl:=CR h1;exact OK.pure hr (v':=.int k z) (by simp only[Ey,key ys us k x z h2 hz,A6]) (Cs _ _)
theorem OK.new(hr:SR B h0 F ρ st.nx st.ob h){o:Obj}{x:O}{n:Nat}(hf:o.frozen=false)(hx:S5 F (Bl ρ st.nx (some (h.nx,n))) (st.nx+1) n o x){v:PV}{v':V}
  (hv:PR F (Bl ρ st.nx (some (h.nx,n))) (st.nx+1) v v'):OK B h0 F ρ st h [] (DS (some (v',h.push x))) v (st.push o):=by
 refine⟨v',h.push x,F,_,.inl rfl,hv,hr.push hf hx,Le.new _,rfl,rfl,Nat.le_succ _,fun b hb=>.inl ?_⟩;rw[H.Bd,if_neg (by omega)]
theorem KM{n:Nat}:PR F (Bl ρ N (some (h.nx,n))) (N+1) (.ptr N 0) (.ptr h.nx 0):=by
 unfold PR;exact⟨zD _,fun b m hb=>by simp[Bl]at hb;rw[hb.1]⟩
theorem Z7{F:Fz}:∀ {s:Sh} {v:V},bM s v=true→DC F s s.FC [v]
 | .bool,.bool b,h=>by
  have:b=false:=by simpa [bM]using h
  subst this;simp[DC,Sh.FC]
 | .int k,.int k' n,h=>by
  unfold bM at h;rw[zc,decide_eq_true_eq,decide_eq_true_eq]at h;obtain⟨rfl,rfl⟩:=h;simp[DC,Sh.FC]
theorem Xp{T:BA}{t:TypeId}{s:Sh}{n:Nat}(h:Zy T t=some (s,n)):∃i,T.inf t=some i∧n=i.zero.length∧(∀v∈i.zero,bM s v=true)∧s.sz=1:=by
 unfold Zy at h;split at h
 case h_2=>cases h
 rename_i i hu hi;split at h
 case h_2=>cases h
 rename_i s' hs;cases hc:(zr 32 (Det.Em i.zero)&&Det.IX (bM s') i.zero)with
 |false=>rw[hc]at h;cases h
 |true=>
  rw[hc]at h;cases h;rw[zc,DR]at hc;refine⟨i,hi,C5 ..,zu.1 hc.2,?_⟩;unfold fO at hs;split at hs<;>first|(cases hs;rfl)|cases hs
theorem YG(hr:SR B h0 F ρ st.nx st.ob h){t:TypeId}{v:PV}(ht:(N5 t C.T st).To v st'):OK B h0 F ρ st h [] (DS (ED C.T h t)) v st':=by
 unfold N5 Vt at ht;split at ht
 case h_1=>
  rename_i s n hz;simp only[AH]at ht;obtain⟨rfl,rfl⟩:=ht;obtain⟨i,hi,rfl,hall,hs⟩:=Xp hz;have:ED C.T h t=some (.ptr h.nx 0,h.push (.cells i.zero t (0,0))):=by simp[ED,hi,GD]
  rw[this];refine OK.new hr (o:=.arr false t s (zM i.zero.length s.FC)) (n:=i.zero.length) rfl ⟨_,_,rfl,⟨by rw[List.length_replicate,hs,zz],fun j hj=>?_⟩,zp _,List.length_replicate ..⟩ KM;have hj':j<i.zero.length:=by simpa using hj
  have:=hall i.zero[j] (List.getElem_mem hj');rw[List.getElem_replicate,hs,zz,List.drop_eq_getElem_cons hj'];exact Z7 this
 split at ht
 case h_2=>exact absurd ht (by simp)
 rename_i cs hcs;rw[Option.bind_eq_some_iff]at hcs;obtain⟨i,hi,hcs⟩:=hcs;cases hok:IX V.ok i.zero with
 |false=>rw[hok]at hcs;cases hcs
 |true=>
 rw[hok]at hcs;cases hcs;rw[DR]at hok;simp only[AH]at ht;obtain⟨rfl,rfl⟩:=ht;have:ED C.T h t=some (.ptr h.nx 0,h.push (.cells i.zero t (0,0))):=by simp[ED,hi,GD]
 rw[this];exact OK.new hr (o:=.box (i.zero.map Sb)) (n:=0) rfl ⟨_,_,_,rfl,DJ _,zp _,fun u hu=>zu.1 hok u hu⟩ KM
theorem dJ(hr:SR B h0 F ρ st.nx st.ob h){t:TypeId}{p:PV}{x:V}(hx:PR F ρ st.nx p x){cs:List PV}(hcs:bN st p=some cs)(hs:cs.all (HH st)=true):OK B h0 F ρ st h [] (DS (some (Ug h t x))) (.ptr st.nx 0) (st.push (.box cs)):=
 OK.new hr (o:=.box cs) (n:=0) rfl ⟨_,_,_,rfl,(Kv hr hx hcs).mono (Le.new _),zp _,fun u hu=>V.Nu (zu.1 (HZ hr hs (Kv hr hx hcs)) u hu)⟩ KM
theorem G4(hr:SR B h0 F ρ st.nx st.ob h){place:Nat→Option (Nat×Nat)}:∀ {l:List (Nat×PV)} {l':List (Nat×V)},ZH F ρ st.nx l l'→∀ {cs:List PV} {xs:List V},AW F ρ st.nx cs xs→∀ {out:List PV},NF st place cs l=some out→
  ∃ys,GO place xs l'=some ys∧AW F ρ st.nx out ys:=by
 intro l l' hl;induction hl with
 |nil=>intro cs xs hx out ho;cases ho;exact⟨xs,rfl,hx⟩
 |@cons i p v l l' hp _ ih=>
  intro cs xs hx out ho;unfold NF at ho;unfold GO;split at ho
  case h_1=>cases ho
  rename_i off size hpl;split at ho
  case h_2=>cases ho
  rename_i vs hvs;cases hc:(ze (Det.Em vs) size&&zr (zJ off size) (Det.Em cs))with
  |false=>rw[hc]at ho;cases ho
  |true=>
   rw[hc]at ho;have hv:=Kv hr hp hvs;rw[C5,C5,hv.len,hx.len]at hc;have hc':(ze v.cells.length size&&zr (off+size) xs.length)=true:=hc;rw[hpl];simp only[hc',cond_true];have:=hv.BP off hx;rw[G2 v.cells]at this;exact ih this ho
theorem XY(hr:SR B h0 F ρ st.nx st.ob h){t:TypeId}{l:List (Nat×PV)}{l':List (Nat×V)}(hl:ZH F ρ st.nx l l'){v:PV}(ht:(ov st (Q2 C.T st t l)).To v st'):OK B h0 F ρ st h [] (A6 h (HW C.T t l')) v st':=by
 simp only[K3]at ht;obtain⟨hb,rfl⟩:=ht;unfold Q2 at hb;split at hb
 case h_3=>cases hb
 case h_1=>
  rename_i i fs hi hu;split at hb
  case h_2=>cases hb
  rename_i pl hpl;rw[zg]at hb;obtain⟨out,ho,rfl⟩:=hb;obtain⟨ys,g1,g2⟩:=G4 hr hl (DJ i.zero) ho;exact OK.pure hr (v':=.agg ys) (by simp only[HW,hi,hu,hpl,g1,zG,A6]) (by unfold PR;exact⟨_,rfl,g2⟩)
 case h_2=>
  rename_i i nn e hi hu;split at hb
  case h_2=>cases hb
  rename_i j hj;rw[zg]at hb;obtain⟨out,ho,rfl⟩:=hb;obtain⟨ys,g1,g2⟩:=G4 hr hl (DJ i.zero) ho;exact OK.pure hr (v':=.agg ys) (by simp only[HW,hi,hu,hj,g1,zG,A6]) (by unfold PR;exact⟨_,rfl,g2⟩)
theorem HY(z:List V):∀n,AW F ρ N (HX (z.map Sb) n) ((zM n z).flatten)
 |0=>by simp[HX]
 |n+1=>by
  simp only[HX,zH,List.flatten_cons];exact(DJ z).append (HY z n)
theorem FY(z:List V):∀n,DH z (n*z.length)=(zM n z).flatten:=by
 intro n;apply zC;intro i;unfold DH;by_cases hz:z.length=0
 ·have:z=[]:=List.length_eq_zero_iff.1 hz;subst this;have:(zM n ([]:List V)).flatten=[]:=by induction n with|zero=>rfl|succ n ih=>simp[zH]
  rw[this];simp
 ·have hpos:0<z.length:=Nat.pos_of_ne_zero hz;induction n generalizing i with
  |zero=>simp
  |succ n ih=>
   rw[zH,List.flatten_cons];by_cases hi:i<z.length
   ·rw[List.getElem?_append_left hi,zB,zI (by rw[zm];omega)];simp only[zG,Nat.mod_eq_of_lt hi];simp[List.getD_eq_getElem?_getD,hi]
   ·rw[List.getElem?_append_right (by omega), ←ih (i-z.length)];rw[zB,zB];by_cases h2:i<(n+1)*z.length
    ·rw[zI h2,zI (by rw[zm]at h2;omega)];simp only[zG];rw[Nat.mod_eq_sub_mod (by omega)]
    ·rw[zh (by simp;omega),zh (by simp;rw[zm]at h2;omega)]
theorem KU{sz n:Nat}{o:Nat}(ho:o=0∨o=sz):PR F (Bl ρ N (some (h.nx,n))) (N+1) (.sl N sz 0 n none) (.sl h.nx 0 n n o):=by
 unfold PR;refine⟨zD _,fun b m hb=>.inl ?_⟩;simp[Bl]at hb;obtain⟨rfl,rfl⟩:=hb;exact⟨zp _,by show 0+n≤n;omega,o,ho,by rw[Nat.zero_mul];rfl⟩
theorem JJ{place:Nat→Option (Nat×Nat)}:∀ {l:List (Nat×V)} {xs ys:List V},GO place xs l=some ys→ys.length=xs.length
 |[],xs,ys,h=>by cases h;rfl
 |(i,v)::l,xs,ys,h=>by
  unfold GO at h;split at h
  ·cases h
  ·rename_i off size _;cases hc:(ze v.cells.length size&&zr (off+size) xs.length)with
   |false=>rw[hc]at h;cases h
   |true=>
    rw[hc]at h;rw[JJ h,Er]
end
end Go.Pe
end
