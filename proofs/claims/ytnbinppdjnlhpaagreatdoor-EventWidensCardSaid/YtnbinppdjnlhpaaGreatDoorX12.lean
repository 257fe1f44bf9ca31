import Derived.Test.YtnbinppdjnlhpaaGreatDoorX09
/- A part of the proofs of the laws of one chapter (no law is stated here). Made by program out of texts by AI agents. -/
section
namespace Go.Pe
open Go.Det
noncomputable section
/-- a list of shapes as one -/
@[reducible] def prodS : List Sh → Sh
  | [] => .unit
  | [a] => a
  | a :: b :: l => .pair a (prodS (b :: l))
/-- data as values -/
def valsOf : (l : List Sh) → (prodS l).T → List PV
  | [], _ => []
  | [a], x => [dats a x]
  | a :: b :: l, x => dats a x.1 :: valsOf (b :: l) x.2
/-- what a function does: its arguments' shapes, what they have to be, its results' shapes, its results (a list is one that nobody writes any more) -/
structure PSpec where
  ins : List Sh
  pre : (prodS ins).T → Bool
  outs : List Sh
  f : (prodS ins).T → (prodS outs).T
  /-- may there be more than one outcome (that is this) -/
  nd : Bool := false
/-- no lists in it -/
def Sh.sc : Sh → Bool
  | .int _ | .bool | .str | .unit | .fnv => true
  | .list _ | .nlist _ => false
  | .pair a b => a.sc && b.sc
structure PCtx where
  C : Ctx
  sp : FuncId → Option PSpec
  /-- the slots that are kept at the head of a loop: by function and the number of the loop's first region -/
  pl : FuncId → Nat → List Nat
  /-- where the ways are cut: by function and the number of the first region behind -/
  ct : FuncId → Nat → Bool
  /-- slices that nobody writes any more from there on: by function and the number of the first region behind: the slots, the shapes of the elements -/
  fz : FuncId → Nat → List (Nat × Sh)
/-- one value as data of a shape, and the condition under which it is -/
def argOf (st : PSt) (s : Sh) (p : PV) : Option (Bool × s.T) :=
  bif isAg p == s.isP then
    match byVals st p.cells with
    | some (c, cs) => match unflat1 s (coers s.leaves cs).2 with
      | some x => some ((coers s.leaves cs).1 && c, x)
      | none => none
    | none => none
  else none
def argsOf (st : PSt) : (l : List Sh) → List PV → Option (Bool × (prodS l).T)
  | [], [] => some (true, ())
  | [a], [p] => argOf st a p
  | a :: b :: l, p :: ps => match argOf st a p, argsOf st (b :: l) ps with
    | some (c, x), some (d, y) => some (c && d, (x, y))
    | _, _ => none
  | _, _ => none
def one : List PV → PV
  | [v] => v
  | l => .tup l
def pspec (sp : PSpec) (args : List PV) (st : PSt) (k : PV → PSt → Tr) : Tr :=
  match argsOf st sp.ins args with
  | some (c, i) => .ite (c && sp.pre i) (k (one (valsOf sp.outs (sp.f i))) (bif sp.outs.all Sh.sc then st else freezes (args.flatMap PV.cells) st)) .fail
  | none => .fail
mutual
def pids : PV → List Nat
  | .ptr id _ | .eptr id _ _ _ | .sl id _ _ _ _ | .mp id | .yl id => [id]
  | .agg l | .tup l => pidss l
  | .fn _ a b => pidss a ++ pidss b
  | _ => []
def pidss : List PV → List Nat
  | [] => []
  | v :: vs => pids v ++ pidss vs
end
def oids : Obj → List Nat
  | .box cs => pidss cs
  | .lp _ _ _ _ _ _ _ sl => pidss (sl.map (·.2))
  | _ => []
/-- what is reached, in the order in which it is come to -/
def preach (st : PSt) (base : Nat) : Nat → List Nat → List Nat → List Nat
  | 0, _, acc => acc
  | _ + 1, [], acc => acc
  | f + 1, i :: is, acc => bif Nat.blt i base || acc.any (Nat.beq i) then preach st base f is acc
    else match st.obj i with
      | some o => preach st base f (is ++ oids o) (acc ++ [i])
      | none => preach st base f is acc
def renOf (base : Nat) : List Nat → Nat → Nat → Option Nat
  | [], _, i => bif Nat.blt i base then some i else none
  | j :: js, n, i => bif Nat.beq i j then some n else renOf base js (Nat.add n 1) i
mutual
def pren (f : Nat → Option Nat) : PV → PV
  | .ptr i o => match f i with | some j => .ptr j o | none => .any
  | .eptr i a b c => match f i with | some j => .eptr j a b c | none => .any
  | .sl i a b c d => match f i with | some j => .sl j a b c d | none => .any
  | .mp i => match f i with | some j => .mp j | none => .any
  | .yl i => match f i with | some j => .yl j | none => .any
  | .agg l => .agg (prens f l)
  | .tup l => .tup (prens f l)
  | .fn g a b => .fn g (prens f a) (prens f b)
  | v => v
def prens (f : Nat → Option Nat) : List PV → List PV
  | [] => []
  | v :: vs => pren f v :: prens f vs
end
def oren (f : Nat → Option Nat) : Obj → Obj
  | .box cs => .box (prens f cs)
  | .lp g r ps asg body s n sl => .lp g r ps asg body s n (sl.map fun x => (x.1, pren f x.2))
  | o => o
def low (f : Nat → Option Nat) (base : Nat) : Ob → Ob
  | [] => []
  | (i, o) :: l => bif Nat.blt i base then (i, oren f o) :: low f base l else low f base l
def kept (st : PSt) (f : Nat → Option Nat) : List Nat → Nat → Ob → Ob
  | [], _, acc => acc
  | j :: js, n, acc => match st.obj j with
    | some o => kept st f js (Nat.add n 1) ((n, oren f o) :: acc)
    | none => kept st f js (Nat.add n 1) acc
/-- what objects below refer to -/
def lowIds (base : Nat) : Ob → List Nat
  | [] => []
  | (i, o) :: l => bif Nat.blt i base then oids o ++ lowIds base l else lowIds base l
def mkSt (n : Nat) (vs : List (Nat × PV)) (ob : Ob) (nx : Nat) : PSt := ⟨n, ofSlots vs, ob, nx⟩
def canon (base : Nat) (L : List Nat) (st : PSt) : PSt :=
  let vs := L.map fun t => (t, st.get t)
  let ids := preach st base 100 (pidss (vs.map (·.2)) ++ lowIds base st.ob) []
  let f := renOf base ids base
  mkSt st.n (vs.map fun x => (x.1, pren f x.2)) (kept st f ids base (low f base st.ob)) (Nat.add base ids.length)
/-- a slice that nobody writes any more -/
def frz1 (base : Nat) (x : Nat × Sh) (st : PSt) : PSt :=
  match st.get x.1 with
  | .nil => st.set x.1 (.dat (.list x.2) [])
  | .sl id sz off len _ => match st.obj id with
    | some (.arr _ e s l) => bif Nat.beq sz s.sz then (st.setObj id (.arr true e s l)).set x.1 (.dat (.list s) ((l.drop off).take len)) else st
    | _ => st
  | .ptr id 0 => bif Nat.ble base id then match st.obj id with
      | some (.box ps) => match unflat1 x.2 ps with
        | some v => (st.delObj id).set x.1 (.dptr x.2 v 0)
        | none => st
      | _ => st
    else st
  | _ => st
def frzs (base : Nat) : List (Nat × Sh) → PSt → PSt
  | [], st => st
  | x :: l, st => frzs base l (frz1 base x st)
def firstReg : Code → Nat
  | .region id _ _ => id
  | .seq a _ => firstReg a
  | .block _ b => firstReg b
  | .loop b => firstReg b
  | .scope b => firstReg b
  | _ => 0
/-- the state that is kept -/
def canonX (X : PCtx) (f : FuncId) (r : Nat) (base : Nat) (st : PSt) : PSt := canon base (X.pl f r) (frzs base (X.fz f r) st)
/-- how a function is called: its number, arguments, the state -/
inductive Cal where
  | fn (g : FuncId)
  /-- a round of a range over a function -/
  | rnd (id : Nat)
abbrev PCall := Cal → List PV → PSt → (PV → PSt → Tr) → Tr
def runPO (d : Option Nat) (k : PSt → Tr) : PO → Tr
  | .bad => .fail
  | .val v st => match st.put d v with
    | some st' => k st'
    | none => .fail
  | .ite c a b => .ite c (runPO d k a) (runPO d k b)
/-- a call of a Go function: of which one, with which arguments -/
inductive CK where
  | no
  | bad
  | yes (g : Cal) (args : List PV)
def callOf (st : PSt) (o : Op) : CK :=
  match o with
  | .call c => match c.callee with
    | .value f => match pev st f, pevs st c.args.toList with
      | some (.fn (.func g) first cap), some args => .yes (.fn g) (first ++ args ++ cap)
      | some (.yl id), some args => .yes (.rnd id) args
      | _, _ => .bad
    | _ => .no
  | _ => .no
def stepOp (T : Tab) (call : PCall) (o : Oper) (st : PSt) (k : PSt → Tr) : Tr :=
  match callOf st o.op with
  | .yes g args => call g args st fun v st => match st.put o.dst v with
    | some st' => k st'
    | none => .fail
  | .bad => .fail
  | .no => runPO o.dst k (pop o.op T st)
/-- an operation under its guard -/
def guarded (ops : Array Oper) (o : Oper) (st : PSt) (yes no : PSt → Tr) : Tr :=
  match o.guard with
  | none => yes st
  | some (j, want) => match (ops[j]?).bind (·.dst) with
    | some t => bif Nat.blt t st.n then (match st.get t with
      | .bl b => bif b == want then yes st else no st
      | .dat .bool b => bif want then .ite b (yes (st.set t (.bl true))) (no (st.set t (.bl false))) else .ite b (no (st.set t (.bl true))) (yes (st.set t (.bl false)))
      | .tup _ => no st
      | .ub => .both (bif want then yes (st.set t (.bl true)) else no (st.set t (.bl true))) (bif want then no (st.set t (.bl false)) else yes (st.set t (.bl false)))
      | _ => .fail) else .fail
    | none => .fail
def skipOp (o : Oper) (k : PSt → Tr) (st : PSt) : Tr :=
  match st.put o.dst (.tup []) with
  | some st' => k st'
  | none => .fail
def prun (T : Tab) (call : PCall) (ops : Array Oper) : List Oper → PSt → (PSt → Tr) → Tr
  | [], st, k => k st
  | o :: rest, st, k => guarded ops o st
      (fun st => stepOp T call o st fun st' => prun T call ops rest st' k)
      (fun st => skipOp o (fun st' => prun T call ops rest st' k) st)
/-- the object that a load looks into; none: more than is known -/
def rdId (st : PSt) (o : Op) : Option (List Nat) :=
  match o with
  | .load _ x => match pev st x with
    | some (.ptr id _) | some (.eptr id _ _ _) => some [id]
    | some (.dptr _ _ _) => some []
    | _ => none
  | .convert _ _ x => match pev st x with
    | some (.dat (.int _) _) | some (.dat .str _) => some []
    | _ => none
  | .call c => match c.callee, pevs st c.args.toList with
    | .builtin .len, some [.dat _ _] | .builtin .len, some [.sl _ _ _ _ _] | .builtin .len, some [.nil] => some []
    | .builtin .len, some [.mp id] => some [id]
    | _, _ => none
  | .lookup _ x _ _ => match pev st x with
    | some (.mp id) => some [id]
    | some .nilm => some []
    | _ => none
  | _ => none
/-- the objects that a heavy operation touches; none: more than is known -/
def hvIds (sp : FuncId → Option PSpec) (st : PSt) (o : Op) : Option (List Nat) :=
  match o with
  | .store _ x _ => match pev st x with
    | some (.ptr id _) | some (.eptr id _ _ _) => some [id]
    | _ => none
  | .mapUpdate _ x _ _ | .insert _ x _ _ => match pev st x with
    | some (.mp id) => some [id]
    | _ => none
  | .makeMap _ _ | .makeSlice _ _ _ => some []
  | .call c => match c.callee with
    | .value f => match pev st f with
      | some (.fn (.func g) _ _) => match sp g with
        | some _ => some []
        | none => none
      | _ => none
    | .builtin .append => match pevs st c.args.toList with
      | some (.sl id _ _ _ _ :: _) => some [id]
      | some _ => some []
      | none => none
    | .builtin .delete => match pevs st c.args.toList with
      | some (.mp id :: _) => some [id]
      | _ => none
    | _ => none
  | _ => none
/-- a load behind which nothing may touch its objects: the operation, the objects -/
abbrev Rs := List (Nat × Option (List Nat))
def disj : Option (List Nat) → Option (List Nat) → Bool
  | some a, some b => a.all fun i => !(b.any (Nat.beq i))
  | some [], none => true
  | _, _ => false
def liveIds (st : PSt) : Option (List Nat) → Bool
  | some l => l.all fun i => isS (st.obj i)
  | none => false
def apart (anc : Nat → Nat → Bool) (i : Nat) (st : PSt) (t : Option (List Nat)) (rs : Rs) : Bool := rs.all fun r => anc i r.1 || (disj r.2 t && liveIds st r.2)
/-- behind a heavy operation: of what it may have changed nothing more is said -/
def behind (st : PSt) (t : Option (List Nat)) (rs : Rs) : Rs := rs.map fun r => bif disj r.2 t && liveIds st r.2 then r else (r.1, none)
/-- it is no round of a range over a function -/
def noRnd (st : PSt) (o : Op) : Bool := match callOf st o with
  | .yes (.rnd _) _ => false
  | _ => true
def pdraw (T : Tab) (sp : FuncId → Option PSpec) (call : PCall) (ops : Array Oper) (anc : Nat → Nat → Bool) : List Nat → PSt → Rs → (PSt → Tr) → Tr
  | [], st, _, k => k st
  | i :: is, st, rs, k => match ops[i]? with
    | none => .fail
    | some o => guarded ops o st
        (fun st => bif isRd o then stepOp T call o st (fun st' => pdraw T sp call ops anc is st' (bif isHd o then (i, rdId st o.op) :: rs else rs) k)
          else bif isAl o then stepOp T call o st (fun st' => pdraw T sp call ops anc is st' rs k)
          else bif apart anc i st (hvIds sp st o.op) rs && noRnd st o.op then stepOp T call o st (fun st' => pdraw T sp call ops anc is st' (behind st (hvIds sp st o.op) rs) k) else .fail)
        (fun st => bif isHv o then (bif apart anc i st (some []) rs then skipOp o (fun st' => pdraw T sp call ops anc is st' (behind st (some []) rs) k) st else .fail)
          else skipOp o (fun st' => pdraw T sp call ops anc is st' rs k) st)
/-- the slots of a range over a function that its rounds want -/
def lpSlots (X : PCtx) (f : FuncId) (r : Nat) (st : PSt) : List (Nat × PV) := (X.pl f r).map fun t => (t, st.get t)
def exec (X : PCtx) (call callD : PCall) (nd ro : Bool) (d : Nat) (f : FuncId) (base : Nat) : Code → PSt → (DX → PSt → Tr) → Tr
  | .skip, st, k | .label _, st, k => k .normal st
  | .region _ ops dr, st, k => bif dr then (bif !ro || statB ops (mkPlan ops) then pdraw X.C.T X.sp callD ops (mkPlan ops).a (mkPlan ops).ord st [] (k .normal) else .fail) else prun X.C.T call ops ops.toList st (k .normal)
  | .seq a b, st, k => exec X call callD nd ro d f base a st fun e st' => match e with
    | .normal => bif X.ct f (firstReg b) then .cut nd ro d f base b (canonX X f (firstReg b) base st') k else exec X call callD nd ro d f base b st' k
    | e => k e st'
  | .cond x a b, st, k => match pev st x with
    | some (.bl t) => bif t then exec X call callD nd ro d f base a st k else exec X call callD nd ro d f base b st k
    | some (.dat .bool t) => match x with
      | .tmp s => .ite t (exec X call callD nd ro d f base a (st.set s (.bl true)) k) (exec X call callD nd ro d f base b (st.set s (.bl false)) k)
      | _ => .ite t (exec X call callD nd ro d f base a st k) (exec X call callD nd ro d f base b st k)
    | some .ub => match x with
      | .tmp s => .both (exec X call callD nd ro d f base a (st.set s (.bl true)) k) (exec X call callD nd ro d f base b (st.set s (.bl false)) k)
      | _ => .fail
    | _ => .fail
  | .block id b, st, k => exec X call callD nd ro d f base b st fun e st' => match e with
    | .exit i => bif Nat.beq i id then k .normal st' else k e st'
    | e => k e st'
  | .loop b, st, k => .loop nd ro d f base b (canonX X f (firstReg b) base st) k
  | .exit i, st, k => k (.exit i) st
  | .ret, st, k => k .ret st
  | .scope b, st, k => exec X call callD nd ro d f base b st k
  | .rangeFunc g ps asg b, st, k => bif ro then .fail else match pev st g with
    | some (.fn (.func gf) first cap) =>
      call (.fn gf) (first ++ [.yl st.nx] ++ cap) (st.push (.lp f (firstReg b) ps asg b .ready st.n (lpSlots X f (firstReg b) st))) fun _ st2 =>
        match st2.obj st.nx with
        | some (.lp _ _ _ _ _ s _ _) => match s with
          | .ready => k .normal (st2.delObj st.nx)
          | .ret => k .ret (st2.delObj st.nx)
          | .exit i => k (.exit i) (st2.delObj st.nx)
          | .busy => .fail
        | _ => .fail
    | _ => .fail
  | _, _, _ => .fail
def pres1 (T : Tab) (st : PSt) : ResultVar → Option PV
  | .tmp t => some (st.get t)
  | .cell a t => match pload T st t (st.get a) with
    | .val v _ => some v
    | _ => none
def pres (T : Tab) (st : PSt) : List ResultVar → Option (List PV)
  | [] => some []
  | r :: rs => match pres1 T st r, pres T st rs with
    | some v, some vs => some (v :: vs)
    | _, _ => none
def argSlots : List PV → Nat → List (Nat × PV)
  | [], _ => []
  | v :: vs, i => (i, v) :: argSlots vs (Nat.add i 1)
/-- into a function's body -/
def enter (X : PCtx) (call callD : PCall) (nd : Bool) (d : Nat) (f : FuncId) (args : List PV) (st : PSt) (k : PV → PSt → Tr) : Tr :=
  match X.C.fn f with
  | none => .fail
  | some i => bif i.cert then
      exec X call callD nd false d f st.nx i.body (mkSt (Nat.add args.length (Nat.sub i.ntmps args.length)) (argSlots args 0) st.ob st.nx) fun e s => match e with
        | .exit _ => .fail
        | _ => match pres X.C.T s i.results.toList with
          | some vs => k (one vs) ⟨st.n, st.fr, s.ob, s.nx⟩
          | none => .fail
    else .fail
/-- parameters are set -/
def psets : List Tmp → List PV → PSt → PSt
  | t :: ts, v :: vs, st => psets ts vs (bif Nat.blt t st.n then st.set t v else st)
  | _, _, st => st
/-- a round of a range over a function -/
def pround (X : PCtx) (call callD : PCall) (nd : Bool) (d : Nat) (id : Nat) (args : List PV) (st : PSt) (k : PV → PSt → Tr) : Tr :=
  match st.obj id with
  | some (.lp f _ ps asg b .ready n sl) => bif Nat.beq args.length ps.size then
      exec X call callD nd true d f st.nx asg (psets ps.toList args (mkSt n sl st.ob st.nx)) fun e s => match e with
      | .normal => match s.obj id with
        | some (.lp f1 r1 ps1 asg1 b1 .ready n1 sl1) =>
          exec X call callD nd true d f st.nx b (s.setObj id (.lp f1 r1 ps1 asg1 b1 .busy n1 sl1)) fun e2 s2 =>
            match s2.obj id with
            | some (.lp f2 r2 ps2 asg2 b2 _ n2 sl2) => match e2 with
              | .normal => k (.bl true) ⟨st.n, st.fr, (s2.setObj id (.lp f2 r2 ps2 asg2 b2 .ready n2 sl2)).ob, s2.nx⟩
              | .ret => k (.bl false) ⟨st.n, st.fr, (s2.setObj id (.lp f2 r2 ps2 asg2 b2 .ret n2 sl2)).ob, s2.nx⟩
              | .exit i => k (.bl false) ⟨st.n, st.fr, (s2.setObj id (.lp f2 r2 ps2 asg2 b2 (.exit i) n2 sl2)).ob, s2.nx⟩
            | _ => .fail
        | _ => .fail
      | _ => .fail
    else .fail
  | _ => .fail
/-- a call; nd: may there be more than one outcome -/
def pcall (X : PCtx) (nd : Bool) : Nat → PCall
  | 0 => fun _ _ _ _ => .fail
  | d + 1 => fun c args st k => match c with
    | .fn g => match X.sp g with
      | some sp => bif nd || !sp.nd then pspec sp args st k else .fail
      | none => match X.C.prim g, X.C.spec g with
        | none, none => enter X (pcall X nd d) (pcall X false d) nd d g args st k
        | _, _ => .fail
    | .rnd id => pround X (pcall X nd d) (pcall X false d) nd d id args st k
/-- the tree of a call of f -/
def tree (X : PCtx) (nd : Bool) (d : Nat) (f : FuncId) (args : List PV) : Tr :=
  enter X (pcall X nd d) (pcall X false d) nd d f args (mkSt 0 [] [] 0) fun v st => .leaf v st.ob
/-- a loop's body behind its head -/
def body (X : PCtx) (nd ro : Bool) (d : Nat) (f : FuncId) (base : Nat) (b : Code) (st : PSt) (k : DX → PSt → Tr) : Tr :=
  exec X (pcall X nd d) (pcall X false d) nd ro d f base b st fun e st' => match e with
    | .normal => .loop nd ro d f base b (canonX X f (firstReg b) base st') k
    | e => k e st'
/-- the code behind a cut -/
def cutB (X : PCtx) (nd ro : Bool) (d : Nat) (f : FuncId) (base : Nat) (b : Code) (st : PSt) (k : DX → PSt → Tr) : Tr := exec X (pcall X nd d) (pcall X false d) nd ro d f base b st k
/-- all that a tree comes to is so; n: its height -/
inductive Ev (X : PCtx) (Q : PV → Ob → Prop) : Nat → Tr → Prop where
  | leaf {n : Nat} {v : PV} {ob : Ob} : Q v ob → Ev X Q n (.leaf v ob)
  | ite {n : Nat} {c : Bool} {a b : Tr} : (c = true → Ev X Q n a) → (c = false → Ev X Q n b) → Ev X Q n (.ite c a b)
  | both {n : Nat} {a b : Tr} : Ev X Q n a → Ev X Q n b → Ev X Q n (.both a b)
  | cut {n : Nat} {nd ro : Bool} {d : Nat} {f : FuncId} {base : Nat} {b : Code} {st : PSt} {k : DX → PSt → Tr} : Ev X Q n (cutB X nd ro d f base b st k) → Ev X Q n (.cut nd ro d f base b st k)
  | alts {n m : Nat} {f : Nat → Tr} : (∀ i, i < m → Ev X Q n (f i)) → Ev X Q n (.alts m f)
  | loop {n : Nat} {nd ro : Bool} {d : Nat} {f : FuncId} {base : Nat} {b : Code} {st : PSt} {k : DX → PSt → Tr} : Ev X Q n (body X nd ro d f base b st k) → Ev X Q (n + 1) (.loop nd ro d f base b st k)
end
end Go.Pe
end
section
namespace Go.Pe
open Go.Det
/-- blocks that nobody writes any more, with their cells -/
abbrev Fz := Nat → Option (List V)
/-- objects: their blocks, and how many elements these have -/
abbrev Rho := Nat → Option (Nat × Nat)
def DC (F : Fz) : (s : Sh) → s.T → List V → Prop
  | .int k, x, cs => cs = [.int k x]
  | .bool, x, cs => cs = [.bool x]
  | .str, x, cs => cs = [.str x]
  | .list s, l, cs => ∃ v, cs = [v] ∧ ((l = [] ∧ (v = .nils ∨ v = .esl ∨ v = .es0)) ∨
      ∃ b off cap o bs, v = .sl b off l.length cap o ∧ l.length ≤ cap ∧ F b = some bs ∧ off + l.length * s.sz ≤ bs.length ∧ (o = 0 ∨ o = s.sz) ∧
        ∀ i (h : i < l.length), DC F s l[i] ((bs.drop (off + i * s.sz)).take s.sz))
  | .pair a b, x, cs => ∃ c d, cs = c ++ d ∧ DC F a x.1 c ∧ DC F b x.2 d
  | .unit, _, cs => cs = []
  | .fnv, x, cs => cs = [match (x : Option Fn) with | some f => .fn f [] [] | none => .nilf]
  | .nlist s, l, cs => ∃ v, cs = [v] ∧ ((l = [] ∧ v = .nils) ∨ (l ≠ [] ∧
      ∃ b off cap o bs, v = .sl b off l.length cap o ∧ l.length ≤ cap ∧ F b = some bs ∧ off + l.length * s.sz ≤ bs.length ∧ (o = 0 ∨ o = s.sz) ∧
        ∀ i (h : i < l.length), DC F s l[i] ((bs.drop (off + i * s.sz)).take s.sz)))
theorem DC.len {F : Fz} : ∀ {s : Sh} {x : s.T} {cs : List V}, DC F s x cs → cs.length = s.sz
  | .int _, _, _, h => by simp only [DC] at h; subst h; rfl
  | .bool, _, _, h => by simp only [DC] at h; subst h; rfl
  | .str, _, _, h => by simp only [DC] at h; subst h; rfl
  | .list _, _, _, h => by simp only [DC] at h; obtain ⟨v, rfl, _⟩ := h; rfl
  | .pair a b, x, _, h => by
    simp only [DC] at h
    obtain ⟨c, d, rfl, h1, h2⟩ := h
    rw [List.length_append, h1.len, h2.len]; rfl
  | .unit, _, _, h => by simp only [DC] at h; subst h; rfl
  | .nlist _, _, _, h => by simp only [DC] at h; obtain ⟨v, rfl, _⟩ := h; rfl
  | .fnv, _, _, h => by simp only [DC] at h; subst h; rfl
theorem DC.ok {F : Fz} : ∀ {s : Sh} {x : s.T} {cs : List V}, DC F s x cs → ∀ v ∈ cs, v.ok = true
  | .int _, _, _, h => by simp only [DC] at h; subst h; simp [Det.V.ok]
  | .bool, _, _, h => by simp only [DC] at h; subst h; simp [Det.V.ok]
  | .str, _, _, h => by simp only [DC] at h; subst h; simp [Det.V.ok]
  | .list s, _, _, h => by
    simp only [DC] at h
    obtain ⟨v, rfl, ⟨_, rfl | rfl | rfl⟩ | ⟨b, off, cap, o, bs, rfl, _⟩⟩ := h <;> simp [Det.V.ok]
  | .pair a b, x, _, h => by
    simp only [DC] at h
    obtain ⟨c, d, rfl, h1, h2⟩ := h
    intro v hv
    rcases List.mem_append.1 hv with hv | hv
    · exact h1.ok v hv
    · exact h2.ok v hv
  | .unit, _, _, h => by simp only [DC] at h; subst h; simp
  | .fnv, x, _, h => by simp only [DC] at h; subst h; intro v hv; rw [List.mem_singleton.1 hv]; cases (x : Option Fn) <;> rfl
  | .nlist s, _, _, h => by
    simp only [DC] at h
    obtain ⟨v, rfl, ⟨_, rfl⟩ | ⟨_, b, off, cap, o, bs, rfl, _⟩⟩ := h <;> simp [Det.V.ok]
theorem DC.mono {F F' : Fz} (hF : ∀ b cs, F b = some cs → F' b = some cs) : ∀ {s : Sh} {x : s.T} {cs : List V}, DC F s x cs → DC F' s x cs
  | .int _, _, _, h => by simpa only [DC] using h
  | .bool, _, _, h => by simpa only [DC] using h
  | .str, _, _, h => by simpa only [DC] using h
  | .list s, l, _, h => by
    simp only [DC] at h ⊢
    obtain ⟨v, rfl, h⟩ := h
    refine ⟨v, rfl, ?_⟩
    rcases h with h | ⟨b, off, cap, o, bs, h1, h2, h3, h4, h5, h6⟩
    · exact .inl h
    · exact .inr ⟨b, off, cap, o, bs, h1, h2, hF _ _ h3, h4, h5, fun i hi => (h6 i hi).mono hF⟩
  | .pair a b, x, _, h => by
    simp only [DC] at h ⊢
    obtain ⟨c, d, rfl, h1, h2⟩ := h
    exact ⟨c, d, rfl, h1.mono hF, h2.mono hF⟩
  | .unit, _, _, h => by simpa only [DC] using h
  | .fnv, _, _, h => by simpa only [DC] using h
  | .nlist s, l, _, h => by
    simp only [DC] at h ⊢
    obtain ⟨v, rfl, h⟩ := h
    refine ⟨v, rfl, ?_⟩
    rcases h with h | ⟨h0, b, off, cap, o, bs, h1, h2, h3, h4, h5, h6⟩
    · exact .inl h
    · exact .inr ⟨h0, b, off, cap, o, bs, h1, h2, hF _ _ h3, h4, h5, fun i hi => (h6 i hi).mono hF⟩
/-- a list that is nil or not empty is a list -/
theorem DC.nl {F : Fz} {s : Sh} {l : List s.T} {cs : List V} (h : DC F (.nlist s) l cs) : DC F (.list s) l cs := by
  simp only [DC] at h ⊢
  obtain ⟨v, rfl, h⟩ := h
  rcases h with ⟨rfl, rfl⟩ | ⟨_, h⟩
  · exact ⟨_, rfl, .inl ⟨rfl, .inl rfl⟩⟩
  · exact ⟨_, rfl, .inr h⟩
theorem DC.nl' {F : Fz} {s : Sh} {l : List s.T} {cs : List V} (h : DC F (.list s) l cs) (h0 : 0 < l.length) : DC F (.nlist s) l cs := by
  have hne : l ≠ [] := by rintro rfl; simp at h0
  simp only [DC] at h ⊢
  obtain ⟨v, rfl, h⟩ := h
  rcases h with ⟨rfl, _⟩ | h
  · exact absurd rfl hne
  · exact ⟨_, rfl, .inr ⟨hne, h⟩⟩
mutual
def PR (F : Fz) (ρ : Rho) (N : Nat) : PV → V → Prop
  | .any, _ => True
  | .bl b, v => v = .bool b
  | .ub, v => ∃ b, v = .bool b
  | .dat s x, v => DC F s x [v]
  | .nil, v => v = .nils
  | .nilp, v => v = .nilp
  | .nilm, v => v = .nilm
  | .nilf, v => v = .nilf
  | .nili, v => v = .nili
  | .agg l, v => ∃ cs, v = .agg cs ∧ PRs F ρ N l cs
  | .tup l, v => ∃ cs, v = .tup cs ∧ PRs F ρ N l cs
  | .ptr id off, v => id < N ∧ ∀ b n, ρ id = some (b, n) → v = .ptr b off
  | .eptr id sz i off, v => id < N ∧ ∀ b n, ρ id = some (b, n) → v = .ptr b (i * sz + off)
  | .dptr s x off, v => ∃ b o cs, v = .ptr b (o + off) ∧ F b = some cs ∧ o + s.sz ≤ cs.length ∧ DC F s x ((cs.drop o).take s.sz)
  | .sl id sz off len cap, v => id < N ∧ ∀ b n, ρ id = some (b, n) →
      (len ≤ cap.getD len ∧ off + cap.getD len ≤ n ∧ ∃ o, (o = 0 ∨ o = sz) ∧ v = .sl b (off * sz) len (cap.getD len) o) ∨
      (len = 0 ∧ cap = some 0 ∧ off ≤ n ∧ (v = .esl ∨ ∃ off', v = .sl b off' 0 0 0 ∧ off' ≤ off * sz))
  | .mp id, v => id < N ∧ ∀ b n, ρ id = some (b, n) → v = .map b
  | .fn f first captured, v => ∃ a b, v = .fn f a b ∧ PRs F ρ N first a ∧ PRs F ρ N captured b
  | .yl id, v => id < N ∧ ∀ b n, ρ id = some (b, n) → v = .yld b
def PRs (F : Fz) (ρ : Rho) (N : Nat) : List PV → List V → Prop
  | [], l => l = []
  | p :: ps, l => ∃ v vs, l = v :: vs ∧ PR F ρ N p v ∧ PRs F ρ N ps vs
end
section
variable {F F' : Fz} {ρ ρ' : Rho} {N N' : Nat}
@[simp] theorem PRs_nil (l : List V) : PRs F ρ N [] l ↔ l = [] := by simp [PRs]
@[simp] theorem PRs_cons (p : PV) (ps : List PV) (v : V) (vs : List V) : PRs F ρ N (p :: ps) (v :: vs) ↔ PR F ρ N p v ∧ PRs F ρ N ps vs := by
  simp only [PRs]; constructor
  · rintro ⟨_, _, h, h1, h2⟩; cases h; exact ⟨h1, h2⟩
  · rintro ⟨h1, h2⟩; exact ⟨v, vs, rfl, h1, h2⟩
theorem PRs.len : ∀ {ps : List PV} {vs : List V}, PRs F ρ N ps vs → ps.length = vs.length
  | [], vs, h => by simp at h; simp [h]
  | p :: ps, vs, h => by
    simp only [PRs] at h
    obtain ⟨v, vs, rfl, _, h2⟩ := h
    simp [h2.len]
theorem PRs.append : ∀ {a : List PV} {x : List V} {b : List PV} {y : List V}, PRs F ρ N a x → PRs F ρ N b y → PRs F ρ N (a ++ b) (x ++ y)
  | [], x, b, y, h, h' => by simp at h; subst h; simpa using h'
  | p :: ps, x, b, y, h, h' => by
    simp only [PRs] at h
    obtain ⟨v, vs, rfl, h1, h2⟩ := h
    simp only [List.cons_append, PRs_cons]
    exact ⟨h1, h2.append h'⟩
theorem PRs.drop : ∀ {a : List PV} {x : List V} (n : Nat), PRs F ρ N a x → PRs F ρ N (a.drop n) (x.drop n)
  | [], x, n, h => by simp at h; subst h; simp
  | p :: ps, x, 0, h => by simpa using h
  | p :: ps, x, n + 1, h => by
    simp only [PRs] at h
    obtain ⟨v, vs, rfl, h1, h2⟩ := h
    simpa using h2.drop n
theorem PRs.take : ∀ {a : List PV} {x : List V} (n : Nat), PRs F ρ N a x → PRs F ρ N (a.take n) (x.take n)
  | [], x, n, h => by simp at h; subst h; simp
  | p :: ps, x, 0, h => by simp
  | p :: ps, x, n + 1, h => by
    simp only [PRs] at h
    obtain ⟨v, vs, rfl, h1, h2⟩ := h
    simpa using ⟨h1, h2.take n⟩
theorem PRs.get : ∀ {a : List PV} {x : List V}, PRs F ρ N a x → ∀ {i : Nat} {p : PV}, a[i]? = some p → ∃ v, x[i]? = some v ∧ PR F ρ N p v
  | [], x, h, i, p, hp => by simp at hp
  | q :: ps, x, h, i, p, hp => by
    simp only [PRs] at h
    obtain ⟨v, vs, rfl, h1, h2⟩ := h
    cases i with
    | zero => simp at hp; subst hp; exact ⟨v, rfl, h1⟩
    | succ i => simp at hp; simpa using h2.get hp
/-- from one relation to a later one: no object lies elsewhere -/
structure Le (F : Fz) (ρ : Rho) (N : Nat) (F' : Fz) (ρ' : Rho) (N' : Nat) : Prop where
  fz : ∀ b cs, F b = some cs → F' b = some cs
  rho : ∀ id, id < N → ρ' id = ρ id ∨ ρ' id = none
  n : N ≤ N'
theorem Le.refl : Le F ρ N F ρ N := ⟨fun _ _ h => h, fun _ _ => .inl rfl, Nat.le_refl _⟩
theorem Le.trans {F'' : Fz} {ρ'' : Rho} {N'' : Nat} (a : Le F ρ N F' ρ' N') (b : Le F' ρ' N' F'' ρ'' N'') : Le F ρ N F'' ρ'' N'' :=
  ⟨fun c cs h => b.fz c cs (a.fz c cs h), fun id h => by
    rcases b.rho id (Nat.lt_of_lt_of_le h a.n) with e | e
    · rw [e]; exact a.rho id h
    · exact .inr e, Nat.le_trans a.n b.n⟩
theorem Le.at (hl : Le F ρ N F' ρ' N') {id : Nat} (h : id < N) {x : Nat × Nat} (hx : ρ' id = some x) : ρ id = some x := by
  rcases hl.rho id h with e | e
  · rw [← e]; exact hx
  · rw [e] at hx; cases hx
mutual
theorem PR.mono (hl : Le F ρ N F' ρ' N') : ∀ {p : PV} {v : V}, PR F ρ N p v → PR F' ρ' N' p v
  | .any, _, _ => by simp [PR]
  | .bl _, _, h => by simpa only [PR] using h
  | .ub, _, h => by simpa only [PR] using h
  | .dat s x, _, h => by simp only [PR] at h ⊢; exact h.mono hl.fz
  | .nil, _, h | .nilp, _, h | .nilm, _, h | .nilf, _, h | .nili, _, h => by simpa only [PR] using h
  | .agg l, _, h => by simp only [PR] at h ⊢; obtain ⟨cs, rfl, h1⟩ := h; exact ⟨cs, rfl, h1.mono hl⟩
  | .tup l, _, h => by simp only [PR] at h ⊢; obtain ⟨cs, rfl, h1⟩ := h; exact ⟨cs, rfl, h1.mono hl⟩
  | .ptr _ _, _, h => by simp only [PR] at h ⊢; exact ⟨Nat.lt_of_lt_of_le h.1 hl.n, fun b n hb => h.2 b n (hl.at h.1 hb)⟩
  | .eptr _ _ _ _, _, h => by simp only [PR] at h ⊢; exact ⟨Nat.lt_of_lt_of_le h.1 hl.n, fun b n hb => h.2 b n (hl.at h.1 hb)⟩
  | .dptr s x off, _, h => by
    simp only [PR] at h ⊢
    obtain ⟨b, o, cs, h1, h2, h3, h4⟩ := h
    exact ⟨b, o, cs, h1, hl.fz _ _ h2, h3, h4.mono hl.fz⟩
  | .sl _ _ _ _ _, _, h => by simp only [PR] at h ⊢; exact ⟨Nat.lt_of_lt_of_le h.1 hl.n, fun b n hb => h.2 b n (hl.at h.1 hb)⟩
  | .mp _, _, h => by simp only [PR] at h ⊢; exact ⟨Nat.lt_of_lt_of_le h.1 hl.n, fun b n hb => h.2 b n (hl.at h.1 hb)⟩
  | .fn f a b, _, h => by
    simp only [PR] at h ⊢
    obtain ⟨x, y, rfl, h1, h2⟩ := h
    exact ⟨x, y, rfl, h1.mono hl, h2.mono hl⟩
  | .yl _, _, h => by simp only [PR] at h ⊢; exact ⟨Nat.lt_of_lt_of_le h.1 hl.n, fun b n hb => h.2 b n (hl.at h.1 hb)⟩
theorem PRs.mono (hl : Le F ρ N F' ρ' N') : ∀ {ps : List PV} {vs : List V}, PRs F ρ N ps vs → PRs F' ρ' N' ps vs
  | [], _, h => by simpa using h
  | p :: ps, _, h => by
    simp only [PRs] at h ⊢
    obtain ⟨v, vs, rfl, h1, h2⟩ := h
    exact ⟨v, vs, rfl, h1.mono hl, h2.mono hl⟩
end
theorem PR.lz : ∀ {p : PV} {v : V}, PR F ρ N p v → PR F ρ N (lz p) v := by
  intro p v h
  unfold Pe.lz
  split
  · simp only [PR] at h ⊢; exact h.nl
  · exact h
theorem PRs.lz : ∀ {ps : List PV} {vs : List V}, PRs F ρ N ps vs → PRs F ρ N (ps.map Pe.lz) vs
  | [], _, h => by simpa using h
  | p :: ps, _, h => by
    simp only [PRs] at h
    obtain ⟨v, vs, rfl, h1, h2⟩ := h
    simp only [List.map_cons, PRs_cons]
    exact ⟨h1.lz, h2.lz⟩
theorem coer1_rel {s : Sh} {p : PV} {v : V} (h : PR F ρ N p v) (hc : (coer1 s p).1 = true) : PR F ρ N (coer1 s p).2 v := by
  unfold coer1 at hc ⊢
  split
  · rename_i s s' x
    cases hb : (s == s') with
    | false => exact h
    | true =>
      have hc : (bif s == s' then (decide (0 < List.length x), PV.dat s'.nlist x) else (true, PV.dat s'.list x)).1 = true := hc
      rw [hb] at hc
      simp only [cond_true, decide_eq_true_eq] at hc
      simp only [PR, cond_true] at h ⊢
      exact h.nl' hc
  · rename_i s s' x
    cases hb : (s == s') with
    | false => exact h
    | true => simp only [PR, cond_true] at h ⊢; exact h.nl
  · exact h
theorem coers_rel : ∀ {l : List Sh} {ps : List PV} {vs : List V}, PRs F ρ N ps vs → (coers l ps).1 = true → PRs F ρ N (coers l ps).2 vs
  | [], ps, vs, h, _ => h
  | s :: l, [], vs, h, _ => h
  | s :: l, p :: ps, vs, h, hc => by
    simp only [PRs] at h
    obtain ⟨v, vs, rfl, h1, h2⟩ := h
    simp only [coers, Bool.and_eq_true] at hc
    simp only [coers, PRs_cons]
    exact ⟨coer1_rel h1 hc.1, coers_rel h2 hc.2⟩
/-- the elements of an array in its cells -/
def DCL (F : Fz) (s : Sh) (l : List s.T) (cs : List V) : Prop := cs.length = l.length * s.sz ∧ ∀ i (h : i < l.length), DC F s l[i] ((cs.drop (i * s.sz)).take s.sz)
theorem DCL.mono (hF : ∀ b cs, F b = some cs → F' b = some cs) {s : Sh} {l : List s.T} {cs : List V} (h : DCL F s l cs) : DCL F' s l cs := ⟨h.1, fun i hi => (h.2 i hi).mono hF⟩
theorem DCL.ok {F : Fz} {s : Sh} {l : List s.T} {cs : List V} (h : DCL F s l cs) : ∀ v ∈ cs, v.ok = true := by
  intro v hv
  obtain ⟨k, hk⟩ := List.mem_iff_getElem?.1 hv
  have hkl := (List.getElem?_eq_some_iff.1 hk).1
  have hsz : 0 < s.sz := by
    rcases Nat.eq_zero_or_pos s.sz with e | e
    · rw [h.1, e, Nat.mul_zero] at hkl; omega
    · exact e
  have hi : k / s.sz < l.length := Nat.div_lt_of_lt_mul (by rw [Nat.mul_comm, ← h.1]; exact hkl)
  refine (h.2 _ hi).ok v ?_
  refine List.mem_iff_getElem?.2 ⟨k % s.sz, ?_⟩
  rw [List.getElem?_take_of_lt (Nat.mod_lt _ hsz), List.getElem?_drop, show k / s.sz * s.sz + k % s.sz = k from by rw [Nat.mul_comm]; exact Nat.div_add_mod _ _]
  exact hk
/-- data in one value -/
def DV (F : Fz) (s : Sh) (x : s.T) (v : V) : Prop := (s.isP = true → ∃ cs, v = .agg cs ∧ DC F s x cs) ∧ (s.isP = false → DC F s x [v])
theorem DV.mono (hF : ∀ b cs, F b = some cs → F' b = some cs) {s : Sh} {x : s.T} {v : V} (h : DV F s x v) : DV F' s x v :=
  ⟨fun e => by obtain ⟨cs, h1, h2⟩ := h.1 e; exact ⟨cs, h1, h2.mono hF⟩, fun e => (h.2 e).mono hF⟩
/-- entries of a map -/
inductive MR (F : Fz) (ks vs : Sh) : List (ks.T × vs.T) → List (V × V × Nat) → Prop where
  | nil : MR F ks vs [] []
  | cons {k : ks.T} {v : vs.T} {l : List (ks.T × vs.T)} {a b : V} {n : Nat} {es : List (V × V × Nat)} : DV F ks k a → DV F vs v b → MR F ks vs l es → MR F ks vs ((k, v) :: l) ((a, b, n) :: es)
theorem MR.mono (hF : ∀ b cs, F b = some cs → F' b = some cs) {ks vs : Sh} {l : List (ks.T × vs.T)} {es : List (V × V × Nat)} (h : MR F ks vs l es) : MR F' ks vs l es := by
  induction h with
  | nil => exact .nil
  | cons h1 h2 _ ih => exact .cons (h1.mono hF) (h2.mono hF) ih
/-- a slot of a list of them -/
noncomputable def slotOf (sl : List (Nat × PV)) (t : Nat) : PV := ((ofSlots sl).get t).getD .any
def LpR : LpS → LoopState → Option Code → Prop
  | .ready, st, pe => st = .ready ∧ pe = none
  | .busy, st, _ => st = .busy
  | .ret, st, pe => st = .done ∧ pe = some .ret
  | .exit i, st, pe => st = .done ∧ pe = some (.exit i)
def ObR (F : Fz) (ρ : Rho) (N n : Nat) : Obj → O → Prop
  | .arr _ e s l, o => ∃ cs fz, o = .cells cs e fz ∧ DCL F s l cs ∧ fz.2 ≤ fz.1 ∧ l.length = n
  | .box ps, o => ∃ cs t fz, o = .cells cs t fz ∧ PRs F ρ N ps cs ∧ fz.2 ≤ fz.1 ∧ ∀ v ∈ cs, v.ok = true
  | .map ks vs l, o => ∃ es clk, o = .map es clk ∧ MR F ks vs l es
  | .siter s pos, o => o = .siter s pos
  | .lp _ _ ps asg body s n' sl, o => ∃ ls, o = .loop ls ∧ ls.ps = ps ∧ ls.asg = asg ∧ ls.body = body ∧ LpR s ls.st ls.pend ∧ ls.fr.n = n' ∧ ∀ t, PR F ρ N (slotOf sl t) (ls.fr.get t)
theorem ObR.mono (hl : Le F ρ N F' ρ' N') {n : Nat} {x : Obj} {o : O} (h : ObR F ρ N n x o) : ObR F' ρ' N' n x o := by
  cases x with
  | arr fz e s l => obtain ⟨cs, f, h1, h2, h3⟩ := h; exact ⟨cs, f, h1, h2.mono hl.fz, h3⟩
  | box ps => obtain ⟨cs, t, f, h1, h2, h3⟩ := h; exact ⟨cs, t, f, h1, h2.mono hl, h3⟩
  | map ks vs l => obtain ⟨es, clk, h1, h2⟩ := h; exact ⟨es, clk, h1, h2.mono hl.fz⟩
  | siter s pos => exact h
  | lp f r ps asg body s n sl => obtain ⟨ls, h1, h2, h3, h4, h5, h6, h7⟩ := h; exact ⟨ls, h1, h2, h3, h4, h5, h6, fun t => (h7 t).mono hl⟩
def Obj.frozen : Obj → Bool
  | .arr fz _ _ _ => fz
  | _ => false
/-- the memory at the start, and its blocks that nobody writes -/
structure H0 where
  h : H
  F : Fz
  /-- marks of deferred calls -/
  pin : List Nat
def H0.pins (h0 : H0) (ps : List Nat) : H0 := { h0 with pin := ps ++ h0.pin }
/-- the objects lie in the memory; blocks below B are as they were at the start -/
structure SR (B : Nat) (h0 : H0) (F : Fz) (ρ : Rho) (N : Nat) (ob : Ob) (h : H) : Prop where
  obj : ∀ id o, obGet ob id = some o → ∃ b n x, ρ id = some (b, n) ∧ h.get b = some x ∧ ObR F ρ N n o x ∧ (o.frozen = false → F b = none) ∧
    (o.frozen = true → ∃ cs t fz, x = .cells cs t fz ∧ F b = some cs)
  inj : ∀ id id' o o' b n n', obGet ob id = some o → obGet ob id' = some o' → ρ id = some (b, n) → ρ id' = some (b, n') → id = id'
  frz : ∀ b cs, F b = some cs → ∃ t fz, h.get b = some (.cells cs t fz)
  own : ∀ id b n, ρ id = some (b, n) → id < N ∧ B ≤ b
  dead : ∀ id, obGet ob id = none → ρ id = none
  old : ∀ b, b < B → h.get b = h0.h.get b
  lt : ∀ b o, h.get b = some o → b < h.nx
  le : B ≤ h.nx
  fo : ∀ b cs, F b = some cs → h0.F b = some cs ∨ B ≤ b
  pn : ∀ b ∈ h0.pin, h.get b = some (.defd true) ∧ B ≤ b ∧ ∀ id n, ρ id ≠ some (b, n)
structure FP (F : Fz) (ρ : Rho) (N : Nat) (st : PSt) (fr : Fr) : Prop where
  n : st.n = fr.n
  slot : ∀ t, PR F ρ N (st.get t) (fr.get t)
theorem FP.mono (hl : Le F ρ N F' ρ' N') {st : PSt} {fr : Fr} (h : FP F ρ N st fr) : FP F' ρ' N' st fr := ⟨h.n, fun t => (h.slot t).mono hl⟩
end
end Go.Pe
end
section
namespace Go.Pe
open Go.Det
section
variable {B : Nat} {h0 : H0} {F : Fz} {ρ : Rho} {N : Nat}
mutual
theorem cvp_rel : ∀ {v : Value} {p : PV}, cvp v = some p → ∃ x, cv v = some x ∧ PR F ρ N p x
  | .bool b, p, h => by simp [cvp] at h; subst h; exact ⟨_, rfl, by simp [PR]⟩
  | .int k n, p, h => by simp [cvp] at h; subst h; exact ⟨_, rfl, by simp [PR, DC]⟩
  | .string s, p, h => by simp [cvp] at h; subst h; exact ⟨_, rfl, by simp [PR, DC]⟩
  | .pointer none, p, h => by simp [cvp] at h; subst h; exact ⟨_, rfl, by simp [PR]⟩
  | .pointer (some a), p, h => by simp [cvp] at h
  | .slice none 0 0, p, h => by simp [cvp] at h; subst h; exact ⟨_, rfl, by simp [PR]⟩
  | .slice none 0 (_ + 1), p, h => by simp [cvp] at h
  | .slice none (_ + 1) _, p, h => by simp [cvp] at h
  | .slice (some a) _ _, p, h => by simp [cvp] at h
  | .map none, p, h => by simp [cvp] at h; subst h; exact ⟨_, rfl, by simp [PR]⟩
  | .map (some a), p, h => by simp [cvp] at h
  | .nilFunc, p, h => by simp [cvp] at h; subst h; exact ⟨_, rfl, by simp [PR]⟩
  | .nilIface, p, h => by simp [cvp] at h; subst h; exact ⟨_, rfl, by simp [PR]⟩
  | .func f ⟨[]⟩ ⟨[]⟩, p, h => by simp [cvp] at h; subst h; exact ⟨_, rfl, by simp [PR]⟩
  | .func f ⟨_ :: _⟩ _, p, h => by simp [cvp] at h
  | .func f ⟨[]⟩ ⟨_ :: _⟩, p, h => by simp [cvp] at h
  | .agg ⟨cs⟩, p, h => by
    simp only [cvp, Option.map_eq_some_iff] at h
    obtain ⟨xs, h1, rfl⟩ := h
    obtain ⟨ys, h2, h3⟩ := cvps_rel h1
    exact ⟨.agg ys, by simp [cv, h2], by simp only [PR]; exact ⟨ys, rfl, h3⟩⟩
  | .tuple ⟨cs⟩, p, h => by
    simp only [cvp, Option.map_eq_some_iff] at h
    obtain ⟨xs, h1, rfl⟩ := h
    obtain ⟨ys, h2, h3⟩ := cvps_rel h1
    exact ⟨.tup ys, by simp [cv, h2], by simp only [PR]; exact ⟨ys, rfl, h3⟩⟩
  | .float _ _, p, h => by simp [cvp] at h
  | .complex _ _ _, p, h => by simp [cvp] at h
  | .chan _, p, h => by simp [cvp] at h
  | .iface _ _, p, h => by simp [cvp] at h
theorem cvps_rel : ∀ {vs : List Value} {ps : List PV}, cvps vs = some ps → ∃ xs, cvs vs = some xs ∧ PRs F ρ N ps xs
  | [], ps, h => by simp [cvps] at h; subst h; exact ⟨[], rfl, by simp⟩
  | v :: vs, ps, h => by
    unfold cvps at h
    split at h
    case h_2 => cases h
    rename_i x xs h1 h2
    cases h
    obtain ⟨y, g1, g2⟩ := cvp_rel h1
    obtain ⟨ys, g3, g4⟩ := cvps_rel h2
    exact ⟨y :: ys, by simp [cvs, g1, g3], by simp [g2, g4]⟩
end
theorem ofV_rel (v : V) : PR F ρ N (ofV v) v := by
  cases v <;> simp [ofV, PR, DC]
theorem ofVs_rel : ∀ vs : List V, PRs F ρ N (vs.map ofV) vs
  | [] => by simp
  | v :: vs => by simp only [List.map_cons, PRs_cons]; exact ⟨ofV_rel v, ofVs_rel vs⟩
variable {C : Ctx} {st st' : PSt} {fr : Fr} {h : H}
theorem pev_rel (hf : FP F ρ N st fr) {x : Operand} {p : PV} (hd : pev st x = some p) : ∃ v, ev C fr x = some v ∧ PR F ρ N p v := by
  cases x with
  | tmp t => simp only [pev, Option.some.injEq] at hd; subst hd; exact ⟨_, rfl, hf.slot t⟩
  | const v => exact cvp_rel hd
  | global g => simp [pev] at hd
  | func f => simp only [pev, Option.some.injEq] at hd; subst hd; exact ⟨_, rfl, by simp [PR]⟩
theorem pevs_rel (hf : FP F ρ N st fr) : ∀ {xs : List Operand} {ps : List PV}, pevs st xs = some ps → ∃ vs, evs C fr xs = some vs ∧ PRs F ρ N ps vs
  | [], ps, hd => by simp [pevs] at hd; subst hd; exact ⟨[], rfl, by simp⟩
  | x :: xs, ps, hd => by
    unfold pevs at hd
    split at hd
    case h_2 => cases hd
    rename_i v vs h1 h2
    cases hd
    obtain ⟨y, g1, g2⟩ := pev_rel (C := C) hf h1
    obtain ⟨ys, g3, g4⟩ := pevs_rel hf h2
    exact ⟨y :: ys, by simp [evs, g1, g3], by simp [g2, g4]⟩
/-- numbered values -/
inductive PRn (F : Fz) (ρ : Rho) (N : Nat) : List (Nat × PV) → List (Nat × V) → Prop
  | nil : PRn F ρ N [] []
  | cons {i : Nat} {p : PV} {v : V} {l : List (Nat × PV)} {l' : List (Nat × V)} : PR F ρ N p v → PRn F ρ N l l' → PRn F ρ N ((i, p) :: l) ((i, v) :: l')
theorem pevp_rel (hf : FP F ρ N st fr) : ∀ {xs : List (Nat × Operand)} {ps : List (Nat × PV)}, pevp st xs = some ps → ∃ vs, evp C fr xs = some vs ∧ PRn F ρ N ps vs
  | [], ps, hd => by simp [pevp] at hd; subst hd; exact ⟨[], rfl, .nil⟩
  | (i, x) :: xs, ps, hd => by
    unfold pevp at hd
    split at hd
    case h_2 => cases hd
    rename_i v vs h1 h2
    cases hd
    obtain ⟨y, g1, g2⟩ := pev_rel (C := C) hf h1
    obtain ⟨ys, g3, g4⟩ := pevp_rel hf h2
    exact ⟨(i, y) :: ys, by simp [evp, g1, g3], .cons g2 g4⟩
/-- states that stand for each other -/
structure Rel (B : Nat) (h0 : H0) (F : Fz) (ρ : Rho) (st : PSt) (fr : Fr) (h : H) : Prop where
  fp : FP F ρ st.nx st fr
  sr : SR B h0 F ρ st.nx st.ob h
/-- what an operation comes to, its conditions met -/
inductive PO.To : PO → PV → PSt → Prop
  | val {v : PV} {st : PSt} : PO.To (.val v st) v st
  | tt {a b : PO} {v : PV} {st : PSt} : PO.To a v st → PO.To (.ite true a b) v st
  | ff {a b : PO} {v : PV} {st : PSt} : PO.To b v st → PO.To (.ite false a b) v st
@[simp] theorem To_bad {v : PV} {s : PSt} : ¬ PO.To .bad v s := by intro h; cases h
@[simp] theorem To_val {v u : PV} {s t : PSt} : PO.To (.val v s) u t ↔ v = u ∧ s = t := by
  constructor
  · intro h; cases h; exact ⟨rfl, rfl⟩
  · rintro ⟨rfl, rfl⟩; exact .val
@[simp] theorem To_chk {c : Bool} {v u : PV} {s t : PSt} : PO.To (.chk c v s) u t ↔ c = true ∧ v = u ∧ s = t := by
  constructor
  · intro h; unfold PO.chk at h
    cases h with
    | tt h => cases h; exact ⟨rfl, rfl, rfl⟩
    | ff h => cases h
  · rintro ⟨rfl, rfl, rfl⟩; exact .tt .val
@[simp] theorem To_ov {o : Option PV} {u : PV} {s t : PSt} : PO.To (ov s o) u t ↔ o = some u ∧ s = t := by
  cases o with
  | none => simp [ov]
  | some v => simp only [ov, To_val, Option.some.injEq]
@[simp] theorem To_ovc {c : Bool} {o : Option PV} {u : PV} {s t : PSt} : PO.To (ovc c s o) u t ↔ c = true ∧ o = some u ∧ s = t := by
  cases o with
  | none => simp [ovc]
  | some v => simp only [ovc, To_chk, Option.some.injEq]
/-- an operation of Det's comes to what is said; tch: the objects whose blocks it may change -/
def OK (B : Nat) (h0 : H0) (F : Fz) (ρ : Rho) (st : PSt) (h : H) (tch : List Nat) (d : Option OR) (v : PV) (st' : PSt) : Prop :=
  ∃ v' h' F' ρ', (d = some (.val v' h') ∨ (d = some (.skip h') ∧ v' = .tup [])) ∧ PR F' ρ' st'.nx v v' ∧ SR B h0 F' ρ' st'.nx st'.ob h' ∧ Le F ρ st.nx F' ρ' st'.nx ∧
    st'.fr = st.fr ∧ st'.n = st.n ∧ h.nx ≤ h'.nx ∧ ∀ b, b < h.nx → h'.get b = h.get b ∨ ∃ id ∈ tch, ∃ n, ρ id = some (b, n)
theorem OK.pure {tch : List Nat} (hr : SR B h0 F ρ st.nx st.ob h) {d : Option OR} {v : PV} {v' : V} (hd : d = some (.val v' h)) (hv : PR F ρ st.nx v v') : OK B h0 F ρ st h tch d v st :=
  ⟨v', h, F, ρ, .inl hd, hv, hr, Le.refl, rfl, rfl, Nat.le_refl _, fun _ _ => .inl rfl⟩
theorem ldrop' {α : Type} (n : Nat) (l : List α) : Det.ldrop n l = l.drop n := ldrop_eq n l
theorem rd_some {h : H} {b off n : Nat} {cs : List V} {t : TypeId} {fz : Nat × Nat} (hg : h.get b = some (.cells cs t fz)) (hl : off + n ≤ cs.length) (hk : ∀ v ∈ (cs.drop off).take n, v.ok = true) : rd h b off n = some ((cs.drop off).take n) := by
  rw [rd_eq]; unfold rd0; rw [hg]; simp only; rw [if_pos ⟨hl, List.all_eq_true.2 hk⟩]
/-- the value in cells -/
theorem pick_rel {d : TypeDesc} {n : Nat} {ps : List PV} {cs : List V} (hp : PRs F ρ N ps cs) {p : PV} (hd : pick d n ps = some p) :
    (isAggD d = true ∧ 0 < n ∧ n ≤ cs.length ∧ PR F ρ N p (.agg (cs.take n))) ∨ (isAggD d = false ∧ ∃ v vs, cs = v :: vs ∧ PR F ρ N p v) := by
  unfold pick at hd
  cases ha : isAggD d with
  | true =>
    left
    simp only [ha, cond_true] at hd
    rw [llen_eq, ltake_eq] at hd
    cases hb : (Nat.ble n ps.length && Nat.blt 0 n) with
    | false => rw [hb] at hd; cases hd
    | true =>
      rw [hb] at hd
      simp only [cond_true, Option.some.injEq] at hd
      subst hd
      simp only [Bool.and_eq_true] at hb
      obtain ⟨hb, hb2⟩ := hb
      refine ⟨rfl, Nat.le_of_ble_eq_true hb2, by rw [← hp.len]; exact Nat.le_of_ble_eq_true hb, ?_⟩
      simp only [PR]; exact ⟨_, rfl, hp.take n⟩
  | false =>
    right
    simp only [ha, cond_false] at hd
    cases ps with
    | nil => cases hd
    | cons q qs =>
      cases hd
      simp only [PRs] at hp
      obtain ⟨v, vs, rfl, h1, _⟩ := hp
      exact ⟨rfl, v, vs, rfl, h1⟩
/-- flat data in its cells -/
theorem flat_rel : ∀ {s : Sh} {x : s.T} {cs : List V}, DC F s x cs → PRs F ρ N (flat s x) cs
  | .pair a b, (x, y), cs, h => by
    simp only [DC] at h
    obtain ⟨c, d, rfl, h1, h2⟩ := h
    exact (flat_rel h1).append (flat_rel h2)
  | .unit, _, cs, h => by simp only [DC] at h; subst h; simp [flat]
  | .int k, x, cs, h => by simp only [DC] at h; subst h; simp only [flat, PRs_cons, PRs_nil, and_true]; simp [PR, DC]
  | .bool, x, cs, h => by simp only [DC] at h; subst h; simp only [flat, PRs_cons, PRs_nil, and_true]; simp [PR, DC]
  | .str, x, cs, h => by simp only [DC] at h; subst h; simp only [flat, PRs_cons, PRs_nil, and_true]; simp [PR, DC]
  | .list s, x, cs, h => by
    have h' := h
    simp only [DC] at h
    obtain ⟨v, rfl, _⟩ := h
    simp only [flat, PRs_cons, PRs_nil, and_true, PR]
    exact h'
  | .fnv, x, cs, h => by simp only [DC] at h; subst h; simp only [flat, PRs_cons, PRs_nil, and_true]; cases (x : Option Fn) <;> simp [PR]
  | .nlist s, x, cs, h => by
    have h' := h
    simp only [DC] at h
    obtain ⟨v, rfl, _⟩ := h
    simp only [flat, PRs_cons, PRs_nil, and_true, PR]
    exact h'
theorem drop_add {α : Type} (l : List α) (a b : Nat) : l.drop (a + b) = (l.drop a).drop b := by rw [List.drop_drop]
theorem load_core {T : Tab} {t : TypeId} {d : TypeDesc} {i : TI} (hd : T.und t = some d) (hi : T.inf t = some i) {b off : Nat} {cs : List V} {te : TypeId} {fz : Nat × Nat} (hg : h.get b = some (.cells cs te fz))
    {m : Nat} (hok : ∀ v ∈ (cs.drop off).take m, v.ok = true) {ps : List PV} (hp : PRs F ρ N ps ((cs.drop off).take m)) {p : PV} (hpk : pick d i.size ps = some p) : ∃ v, dload T h t (.ptr b off) = some v ∧ PR F ρ N p v := by
  unfold dload
  simp only [hd, hi]
  have hlen : ((cs.drop off).take m).length ≤ cs.length - off := by simp; omega
  have hoff : off ≤ cs.length := by
    have : 0 < ((cs.drop off).take m).length := by
      rcases pick_rel hp hpk with ⟨_, h0, hn, _⟩ | ⟨_, v, vs, e, _⟩
      · omega
      · rw [e]; simp
    simp at this; omega
  rcases pick_rel hp hpk with ⟨ha, _, hn, hv⟩ | ⟨ha, v, vs, hcs, hv⟩
  · simp only [ha, cond_true]
    have : (cs.drop off).take i.size = ((cs.drop off).take m).take i.size := by
      rw [List.take_take]
      have : i.size ≤ m := by
        have := hn; simp at this; omega
      rw [Nat.min_eq_left this]
    rw [rd_some hg (by omega) (fun v hv => hok v (List.mem_of_mem_take (by rwa [this] at hv)))]
    refine ⟨_, rfl, ?_⟩
    rw [this]; exact hv
  · simp only [ha, cond_false]
    have h1 : off + 1 ≤ cs.length := by
      have : ((cs.drop off).take m).length = vs.length + 1 := by rw [hcs]; rfl
      omega
    have h2 : (cs.drop off).take 1 = [v] := by
      have : m ≠ 0 := by rintro rfl; simp at hcs
      obtain ⟨k, rfl⟩ := Nat.exists_eq_succ_of_ne_zero this
      cases hc : cs.drop off with
      | nil => rw [hc] at hcs; simp at hcs
      | cons a as => rw [hc] at hcs; simp only [List.take_succ_cons, List.cons.injEq] at hcs; simp [hcs.1]
    rw [rd_some hg h1 (fun u hu => by rw [h2] at hu; cases List.mem_singleton.1 hu; exact hok v (by rw [hcs]; simp)), h2]
    exact ⟨v, rfl, hv⟩
end
end Go.Pe
end
section
namespace Go.Pe
open Go.Det
section
variable {B : Nat} {h0 : H0} {F : Fz} {ρ : Rho} {N : Nat} {C : Ctx} {st st' : PSt} {fr : Fr} {h : H}
theorem SR.at (hr : SR B h0 F ρ N st.ob h) {id : Nat} {o : Obj} (ho : st.obj id = some o) : ∃ b n x, ρ id = some (b, n) ∧ h.get b = some x ∧ ObR F ρ N n o x ∧ (o.frozen = false → F b = none) ∧
    (o.frozen = true → ∃ cs t fz, x = .cells cs t fz ∧ F b = some cs) := hr.obj id o ho
theorem s_load (hr : SR B h0 F ρ st.nx st.ob h) {t : TypeId} {p : PV} {a : V} (ha : PR F ρ st.nx p a) {v : PV} (ht : (pload C.T st t p).To v st') :
    OK B h0 F ρ st h [] (okv h (dload C.T h t a)) v st' := by
  unfold pload at ht
  split at ht
  case h_2 => simp at ht
  rename_i d i hd hi
  split at ht
  case h_4 => simp at ht
  case h_1 =>
    rename_i id off
    split at ht
    case h_2 => simp at ht
    rename_i ps ho
    simp only [To_ov] at ht
    obtain ⟨hpk, rfl⟩ := ht
    obtain ⟨b, n, x, h1, h2, ⟨cs, te, fz, rfl, h4, _, hbok⟩, _⟩ := hr.at ho
    simp only [PR] at ha
    obtain rfl := ha.2 b n h1
    rw [ldrop'] at hpk
    obtain ⟨v', g1, g2⟩ := load_core (h := h) hd hi h2 (m := cs.length) (fun u hu => hbok u (List.mem_of_mem_drop (List.mem_of_mem_take hu))) (by rw [List.take_of_length_le (by simp)]; exact h4.drop off) hpk
    exact OK.pure hr (by rw [g1]; rfl) g2
  case h_2 =>
    rename_i id sz j off
    split at ht
    case h_2 => simp at ht
    rename_i fzb e s l ho
    cases hsz : Nat.beq sz s.sz with
    | false => rw [hsz] at ht; simp at ht
    | true =>
      rw [hsz] at ht
      simp only [cond_true, To_ovc, decide_eq_true_eq] at ht
      obtain ⟨hj, hpk, rfl⟩ := ht
      have hsz := Nat.eq_of_beq_eq_true hsz
      subst hsz
      obtain ⟨b, n, x, h1, h2, ⟨cs, fz, rfl, h4, _⟩, _⟩ := hr.at ho
      simp only [PR] at ha
      obtain rfl := ha.2 b n h1
      have hdc := h4.2 j hj
      rw [show l.getD j s.dflt = l[j] from by simp [hj], ldrop'] at hpk
      have hp : PRs F ρ st.nx ((flat s l[j]).drop off) ((cs.drop (j * s.sz + off)).take (s.sz - off)) := by
        have := (flat_rel (F := F) (ρ := ρ) (N := st.nx) hdc).drop off
        rw [drop_add, ← List.drop_take] at *
        exact this
      obtain ⟨v', g1, g2⟩ := load_core (h := h) hd hi h2 (fun u hu => hdc.ok u (List.mem_of_mem_drop (i := off) (by rw [drop_add, ← List.drop_take] at hu; exact hu))) hp hpk
      exact OK.pure hr (by rw [g1]; rfl) g2
  case h_3 =>
    rename_i s x off
    simp only [To_ov] at ht
    obtain ⟨hpk, rfl⟩ := ht
    simp only [PR] at ha
    obtain ⟨b, o, cs, rfl, h1, h2, h3⟩ := ha
    obtain ⟨te, fz, h4⟩ := hr.frz b cs h1
    rw [ldrop'] at hpk
    have hp : PRs F ρ st.nx ((flat s x).drop off) ((cs.drop (o + off)).take (s.sz - off)) := by
      have := (flat_rel (F := F) (ρ := ρ) (N := st.nx) h3).drop off
      rw [drop_add, ← List.drop_take] at *
      exact this
    obtain ⟨v', g1, g2⟩ := load_core (h := h) hd hi h4 (fun u hu => h3.ok u (List.mem_of_mem_drop (i := off) (by rw [drop_add, ← List.drop_take] at hu; exact hu))) hp hpk
    exact OK.pure hr (by rw [g1]; rfl) g2
theorem DC.ones : ∀ {s : Sh} {x : s.T} {cs : List V}, DC F s x cs → ∀ v ∈ cs, v.one = true
  | .int _, _, _, h => by simp only [DC] at h; subst h; intro v hv; rw [List.mem_singleton.1 hv]; rfl
  | .bool, _, _, h => by simp only [DC] at h; subst h; intro v hv; rw [List.mem_singleton.1 hv]; rfl
  | .str, _, _, h => by simp only [DC] at h; subst h; intro v hv; rw [List.mem_singleton.1 hv]; rfl
  | .list s, l, _, h => by
    simp only [DC] at h
    obtain ⟨u, rfl, h⟩ := h
    intro v hv; rw [List.mem_singleton.1 hv]
    rcases h with ⟨_, rfl | rfl | rfl⟩ | ⟨b, off, cap, o, bs, rfl, _⟩ <;> rfl
  | .pair a b, x, _, h => by
    simp only [DC] at h
    obtain ⟨c, d, rfl, h1, h2⟩ := h
    intro v hv
    rcases List.mem_append.1 hv with hv | hv
    · exact h1.ones v hv
    · exact h2.ones v hv
  | .unit, _, _, h => by simp only [DC] at h; subst h; intro v hv; cases hv
  | .fnv, x, _, h => by simp only [DC] at h; subst h; intro v hv; rw [List.mem_singleton.1 hv]; cases (x : Option Fn) <;> rfl
  | .nlist s, l, _, h => by
    simp only [DC] at h
    obtain ⟨u, rfl, h⟩ := h
    intro v hv; rw [List.mem_singleton.1 hv]
    rcases h with ⟨_, rfl⟩ | ⟨_, b, off, cap, o, bs, rfl, _⟩ <;> rfl
theorem isS_some {o : Option Obj} (h : isS o = true) : ∃ x, o = some x := by cases o with | none => cases h | some x => exact ⟨x, rfl⟩
theorem solid_one (hr : SR B h0 F ρ st.nx st.ob h) {p : PV} {v : V} (hs : solid st p = true) (hp : PR F ρ st.nx p v) : v.one = true := by
  have key : ∀ {id : Nat}, isS (st.obj id) = true → ∃ b n, ρ id = some (b, n) := by
    intro id hi
    obtain ⟨o, ho⟩ := isS_some hi
    obtain ⟨b, n, _, h1, _⟩ := hr.at ho
    exact ⟨b, n, h1⟩
  cases p <;> simp only [solid] at hs <;> simp only [PR] at hp <;> try (cases hs; done)
  case bl => subst hp; rfl
  case dat => exact hp.ones v (List.mem_singleton.2 rfl)
  case nil | nilp | nilm | nilf | nili => subst hp; rfl
  case ptr => obtain ⟨b, n, h1⟩ := key hs; rw [hp.2 b n h1]; rfl
  case eptr => obtain ⟨b, n, h1⟩ := key hs; rw [hp.2 b n h1]; rfl
  case dptr => obtain ⟨b, o, cs, rfl, _⟩ := hp; rfl
  case sl =>
    obtain ⟨b, n, h1⟩ := key hs
    rcases hp.2 b n h1 with ⟨_, _, o, _, rfl⟩ | ⟨_, _, _, rfl | ⟨_, rfl, _⟩⟩ <;> rfl
  case mp | yl => obtain ⟨b, n, h1⟩ := key hs; rw [hp.2 b n h1]; rfl
  case fn => obtain ⟨a, b, rfl, _⟩ := hp; rfl
theorem one_cells {v : V} (h : v.one = true) : v.cells = [v] := by cases v <;> first | rfl | cases h
theorem pcs_rel (hr : SR B h0 F ρ st.nx st.ob h) {p : PV} {v : V} {ps : List PV} (hp : PR F ρ st.nx p v) (hd : pcs st p = some ps) : PRs F ρ st.nx ps v.cells := by
  unfold pcs at hd
  split at hd
  · cases hd
    simp only [PR] at hp
    obtain ⟨cs, rfl, h1⟩ := hp
    exact h1
  · rename_i q hq
    cases hs : solid st p with
    | false => rw [hs] at hd; cases hd
    | true =>
      rw [hs] at hd; cases hd
      rw [one_cells (solid_one hr hs hp)]
      simpa using hp
theorem solids_one (hr : SR B h0 F ρ st.nx st.ob h) : ∀ {ps : List PV} {vs : List V}, ps.all (solid st) = true → PRs F ρ st.nx ps vs → vs.all V.one = true
  | [], vs, _, h => by simp at h; subst h; rfl
  | p :: ps, vs, ha, h => by
    simp only [PRs] at h
    obtain ⟨v, vs, rfl, h1, h2⟩ := h
    simp only [List.all_cons, Bool.and_eq_true] at ha ⊢
    exact ⟨solid_one hr ha.1 h1, solids_one hr ha.2 h2⟩
theorem PRs.lover : ∀ {a : List PV} {x : List V} {b : List PV} {y : List V}, PRs F ρ N a x → PRs F ρ N b y → PRs F ρ N (lover a b) (lover x y)
  | [], x, b, y, h, h' => by simp at h; subst h; exact h'
  | p :: ps, x, b, y, h, h' => by
    simp only [PRs] at h
    obtain ⟨v, vs, rfl, h1, h2⟩ := h
    cases b with
    | nil => simp at h'; subst h'; show PRs F ρ N [] []; simp
    | cons q qs =>
      simp only [PRs] at h'
      obtain ⟨u, us, rfl, g1, g2⟩ := h'
      show PRs F ρ N (p :: Det.lover ps qs) (v :: Det.lover vs us)
      simp only [PRs_cons]
      exact ⟨h1, h2.lover g2⟩
theorem PRs.lput {a : List PV} {x : List V} (ha : PRs F ρ N a x) : ∀ (n : Nat) {b : List PV} {y : List V}, PRs F ρ N b y → PRs F ρ N (lput n a b) (lput n x y)
  | 0, b, y, h => ha.lover h
  | n + 1, [], y, h => by simp at h; subst h; show PRs F ρ N [] []; simp
  | n + 1, q :: qs, y, h => by
    simp only [PRs] at h
    obtain ⟨u, us, rfl, g1, g2⟩ := h
    show PRs F ρ N (q :: Det.lput n a qs) (u :: Det.lput n x us)
    simp only [PRs_cons]
    exact ⟨g1, PRs.lput ha n g2⟩
/-- objects by number -/
theorem obGet_set : ∀ (l : Ob) (i : Nat) (x : Obj) (j : Nat), (obGet l i).isSome = true → obGet (obSet l i x) j = if j = i then some x else obGet l j
  | [], i, x, j, h => by cases h
  | (a, o) :: l, i, x, j, h => by
    simp only [obSet, obGet, beq_t] at h ⊢
    by_cases e : a = i
    · subst e
      simp only [decide_true, cond_true, obGet, beq_t]
      by_cases e2 : a = j
      · subst e2; simp
      · rw [if_neg (fun h => e2 h.symm)]; simp [e2]
    · simp only [e, decide_false, cond_false] at h ⊢
      simp only [obGet, beq_t]
      by_cases e2 : a = j
      · subst e2; simp [e]
      · simp only [e2, decide_false, cond_false]
        exact obGet_set l i x j h
theorem wr_ok {b off : Nat} {vs cs : List V} {t : TypeId} {fz : Nat × Nat} (hg : h.get b = some (.cells cs t fz)) (hl : off + vs.length ≤ cs.length) (hfz : fz.2 ≤ fz.1) (ho : vs.all V.one = true) :
    wr h b off vs = some (h.put b (.cells (lput off vs cs) t fz)) := by
  unfold wr
  simp only [hg, llen_eq, lall_eq, ho]
  have h1 : Nat.ble (Nat.add off vs.length) cs.length = true := Nat.ble_eq_true_of_le hl
  have h2 : Det.clear fz off vs.length = true := by
    unfold Det.clear
    rw [show Nat.ble fz.2 fz.1 = true from Nat.ble_eq_true_of_le hfz, Bool.or_true]
  rw [h1, h2]; rfl
/-- a live object gets new contents -/
theorem SR.set (hr : SR B h0 F ρ st.nx st.ob h) {id b n : Nat} {o o' : Obj} {x x' : O} (ho : st.obj id = some o) (hb : ρ id = some (b, n)) (hg : h.get b = some x) (hf : o.frozen = false) (hf' : o'.frozen = false)
    (hx : ObR F ρ st.nx n o' x') : SR B h0 F ρ st.nx (obSet st.ob id o') (h.put b x') := by
  have hob : obGet st.ob id = some o := ho
  have hFb : F b = none := by
    obtain ⟨b', n', _, h1, _, _, h2, _⟩ := hr.at ho
    rw [hb] at h1; cases h1; exact h2 hf
  have hset : ∀ j, obGet (obSet st.ob id o') j = if j = id then some o' else obGet st.ob j := fun j => obGet_set _ _ _ _ (by rw [hob]; rfl)
  refine ⟨fun j oj hj => ?_, fun i j oi oj c m m' hi hj h1 h2 => ?_, fun c cs hc => ?_, hr.own, fun j hj => ?_, fun c hc => ?_, fun c oc hc => ?_, hr.le, hr.fo, fun c hc => ?_⟩
  · rw [hset] at hj
    by_cases e : j = id
    · subst e
      simp only [if_true, Option.some.injEq] at hj; subst hj
      exact ⟨b, n, x', hb, by simp, hx, fun _ => hFb, fun e => by rw [hf'] at e; cases e⟩
    · rw [if_neg e] at hj
      obtain ⟨c, m, y, h1, h2, h3, h4, h5⟩ := hr.obj j oj hj
      have hne : c ≠ b := fun ec => e (hr.inj j id oj o c m n hj hob h1 (ec ▸ hb))
      exact ⟨c, m, y, h1, by rw [H.get_put, if_neg hne]; exact h2, h3, h4, h5⟩
  · have get' : ∀ k ok, obGet (obSet st.ob id o') k = some ok → ∃ o2, obGet st.ob k = some o2 := by
      intro k ok hk
      rw [hset] at hk
      by_cases e : k = id
      · exact ⟨o, e ▸ hob⟩
      · rw [if_neg e] at hk; exact ⟨ok, hk⟩
    obtain ⟨_, g1⟩ := get' i oi hi
    obtain ⟨_, g2⟩ := get' j oj hj
    exact hr.inj i j _ _ c m m' g1 g2 h1 h2
  · have hne : c ≠ b := fun e => by rw [e, hFb] at hc; cases hc
    rw [H.get_put, if_neg hne]; exact hr.frz c cs hc
  · rw [hset] at hj
    by_cases e : j = id
    · rw [if_pos e] at hj; cases hj
    · rw [if_neg e] at hj; exact hr.dead j hj
  · have hne : c ≠ b := fun e => by have := (hr.own id b n hb).2; omega
    rw [H.get_put, if_neg hne]; exact hr.old c hc
  · rw [H.get_put] at hc
    by_cases e : c = b
    · subst e; exact hr.lt _ _ hg
    · rw [if_neg e] at hc; exact hr.lt c oc hc
  · obtain ⟨g1, g2, g3⟩ := hr.pn c hc
    have hne : c ≠ b := fun e => g3 id n (e ▸ hb)
    exact ⟨by rw [H.get_put, if_neg hne]; exact g1, g2, g3⟩
end
end Go.Pe
end
