import Derived.Test.YtnbinppdjnlhpaaGreatDoorX07
import Derived.Laws.StructEq
import Derived.Laws.Externs
/- A part of the proofs of the laws of one chapter (no law is stated here). Made by program out of texts by AI agents. -/
section
namespace Go.Det
noncomputable section
def infOf (P : Program) (t : TypeId) : Option TI :=
  match P.info? t with
  | some i => match i.zero with
    | some z => match cv z with
      | some v => some ⟨i.size, i.bytes, v⟩
      | none => none
    | none => none
  | none => none
theorem infOf_ok {P : Program} {t : TypeId} {i : TI} (h : infOf P t = some i) : ∃ j v, P.info? t = some j ∧ j.size = i.size ∧ j.bytes = i.bytes ∧ j.zero = some v ∧ ∀ p, VRel p i.zv v := by
  unfold infOf at h
  split at h
  case h_2 => cases h
  rename_i j hj
  split at h
  case h_2 => cases h
  rename_i z hz
  split at h
  case h_2 => cases h
  rename_i v hv
  cases h
  exact ⟨j, z, hj, rfl, rfl, hz, fun p => cv_rel p hv⟩
def fkOf (P : Program) (t : TypeId) : Option FK :=
  match P.underlying t with
  | some (.int k) => some (.int k)
  | some .string => some .str
  | some .bool => some .bool
  | _ => none
def fksOf (P : Program) : List Field → Nat → Option (List FK)
  | [], _ => some []
  | f :: fs, i => if f.name = "_" ∨ f.offset ≠ i then none else match fkOf P f.type, fksOf P fs (i + 1) with
    | some k, some ks => some (k :: ks)
    | _, _ => none
/-- a struct type whose fields are numbers, strings and bools -/
def flatOf (P : Program) (t : TypeId) : Option (List FK) :=
  match P.underlying t with
  | some (.struct fs) => if P.stoodInHeld t = true ∨ P.eqGuardType P.depth t = true then none else fksOf P fs.toList 0
  | _ => none
def tabOf (P : Program) : Tab := ⟨P.underlying, infOf P, flatOf P⟩
section
variable {P : Program} {p : Pl}
theorem fkOf_und {t : TypeId} {k : FK} (h : fkOf P t = some k) : ∃ d, P.underlying t = some d ∧ isAggD d = false ∧ (∀ ms, d ≠ .interface ms) ∧ match k with
    | .int k => d = .int k
    | .str => d = .string
    | .bool => d = .bool := by
  unfold fkOf at h
  split at h
  case h_1 => rename_i hu; cases h; exact ⟨_, hu, rfl, fun _ e => (by cases e), rfl⟩
  case h_2 => rename_i hu; cases h; exact ⟨_, hu, rfl, fun _ e => (by cases e), rfl⟩
  case h_3 => rename_i hu; cases h; exact ⟨_, hu, rfl, fun _ e => (by cases e), rfl⟩
  case h_4 => cases h
theorem run_part {t : TypeId} {d : TypeDesc} (hu : P.underlying t = some d) (ha : isAggD d = false) {cs : Array Value} {i : Nat} {v : Value} (hv : cs[i]? = some v) (w : World) : (part t cs i).run P w = .ok v w := by
  unfold part isAgg
  have hund : (underlying t).run P w = .ok d w := by unfold underlying; simp [hu]
  simp only [Sem.run_bind, hund, Result.andThen_ok]
  cases d <;> first | (cases ha; done) | simp [hv]
theorem run_eqf {t : TypeId} {k : FK} (h : fkOf P t = some k) {a b : V} {a' b' : Value} (ha : k.ok a = true) (hb : k.ok b = true) (hra : VRel p a a') (hrb : VRel p b b') {r : Bool} (hs : sameCell a b = some r) (d : Nat) (w : World) :
    (Op.equalIn (d + 1) t a' b').run P w = .ok r w := by
  obtain ⟨D, hu, _, _, hk⟩ := fkOf_und h
  cases k with
  | int k =>
    simp only at hk; subst hk
    cases a <;> simp only [FK.ok] at ha <;> try (cases ha; done)
    cases b <;> simp only [FK.ok] at hb <;> try (cases hb; done)
    simp only [VRel] at hra hrb; subst hra hrb
    simp at ha hb; subst ha hb
    simp [sameCell] at hs
    rw [run_equalIn_int w d t _ _ _ _ hu, hs]
  | str =>
    simp only at hk; subst hk
    cases a <;> simp only [FK.ok] at ha <;> try (cases ha; done)
    cases b <;> simp only [FK.ok] at hb <;> try (cases hb; done)
    simp only [VRel] at hra hrb; subst hra hrb
    simp only [sameCell, Option.some.injEq] at hs
    rw [run_equalIn_string w d t _ _ hu, bytesOf_toList, bytesOf_toList, hs]
  | bool =>
    simp only at hk; subst hk
    cases a <;> simp only [FK.ok] at ha <;> try (cases ha; done)
    cases b <;> simp only [FK.ok] at hb <;> try (cases hb; done)
    simp only [VRel] at hra hrb; subst hra hrb
    simp only [sameCell, Option.some.injEq] at hs
    rw [run_equalIn_bool' w d t _ _ hu, hs]
theorem fit_len : ∀ {ks : List FK} {x : List V}, fit ks x = true → ks.length = x.length
  | [], [], _ => rfl
  | [], _ :: _, h => by simp [fit] at h
  | _ :: _, [], h => by simp [fit] at h
  | k :: ks, v :: vs, h => by
    unfold fit at h
    cases hk : k.ok v with
    | false => simp [hk] at h
    | true => simp only [hk, cond_true] at h; simp [fit_len h]
theorem run_eqFields (d : Nat) {w : World} {x' y' : Array Value} : ∀ {fs : List Field} {i : Nat} {ks : List FK}, fksOf P fs i = some ks → ∀ {x y : List V} {u v : List Value}, fit ks x = true → fit ks y = true → VRels p x u → VRels p y v →
    (∀ j a, u[j]? = some a → x'[i + j]? = some a) → (∀ j a, v[j]? = some a → y'[i + j]? = some a) → ∀ {r : Bool}, sameCells x y = some r → (Op.eqFields (d + 1) x' y' fs).run P w = .ok r w
  | [], i, ks, hk, x, y, u, v, hx, hy, _, _, _, _, r, hs => by
    cases hk
    cases x with
    | cons _ _ => simp [fit] at hx
    | nil => cases y with
      | cons _ _ => simp [fit] at hy
      | nil => simp [sameCells] at hs; subst hs; simp [Op.eqFields]
  | f :: fs, i, ks, hk, x, y, u, v, hx, hy, hu, hv, gx, gy, r, hs => by
    unfold fksOf at hk
    split at hk
    case isTrue => cases hk
    rename_i hno
    have hno1 : f.name ≠ "_" := fun e => hno (.inl e)
    have hno2 : f.offset = i := Classical.byContradiction fun e => hno (.inr e)
    split at hk
    case h_2 => cases hk
    rename_i k ks' h1 h2
    cases hk
    cases x with
    | nil => simp [fit] at hx
    | cons a x => cases y with
      | nil => simp [fit] at hy
      | cons b y =>
        simp only [VRels] at hu hv
        obtain ⟨a', u', rfl, hu1, hu2⟩ := hu
        obtain ⟨b', v', rfl, hv1, hv2⟩ := hv
        have ka : k.ok a = true := by unfold fit at hx; cases hk : k.ok a with | false => simp [hk] at hx | true => rfl
        have kb : k.ok b = true := by unfold fit at hy; cases hk : k.ok b with | false => simp [hk] at hy | true => rfl
        have fx : fit ks' x = true := by unfold fit at hx; rw [ka] at hx; exact hx
        have fy : fit ks' y = true := by unfold fit at hy; rw [kb] at hy; exact hy
        obtain ⟨D, hund, hagg, _, _⟩ := fkOf_und h1
        have pa := run_part hund hagg (gx 0 a' rfl) w
        have pb := run_part hund hagg (gy 0 b' rfl) w
        simp only [Nat.add_zero] at pa pb
        simp only [Op.eqFields, hno1, ne_eq, not_false_eq_true, if_true, Sem.run_bind, hno2, pa, pb, Result.andThen_ok]
        unfold sameCells at hs
        split at hs
        case h_1 =>
          rename_i hc
          rw [run_eqf h1 ka kb hu1 hv1 hc]
          simp only [Result.andThen_ok, Bool.not_true, Bool.false_eq_true, if_false]
          exact run_eqFields d h2 fx fy hu2 hv2 (fun j c hj => by have := gx (j + 1) c (by simpa using hj); rwa [show i + 1 + j = i + (j + 1) from by omega]) (fun j c hj => by have := gy (j + 1) c (by simpa using hj); rwa [show i + 1 + j = i + (j + 1) from by omega]) hs
        case h_2 =>
          rename_i hc
          rw [run_eqf h1 ka kb hu1 hv1 hc]
          split at hs
          · cases hs
            simp
          · cases hs
        case h_3 => cases hs
theorem run_keyFields {b : Bool} {w : World} {x' : Array Value} : ∀ {fs : List Field} {i : Nat} {ks : List FK}, fksOf P fs i = some ks → ∀ {x : List V} {u : List Value}, fit ks x = true → VRels p x u →
    (∀ j a, u[j]? = some a → x'[i + j]? = some a) →
    (forIn (m := Sem) fs PUnit.unit fun f _ => if f.name ≠ "_" then do
        Instr.checkKey b 9999 f.type (← part f.type x' f.offset)
        pure (ForInStep.yield PUnit.unit)
      else do
        pure PUnit.unit
        pure (ForInStep.yield PUnit.unit)).run P w = .ok PUnit.unit w
  | [], i, ks, hk, x, u, hx, _, _ => by simp
  | f :: fs, i, ks, hk, x, u, hx, hu, gx => by
    unfold fksOf at hk
    split at hk
    case isTrue => cases hk
    rename_i hno
    have hno1 : f.name ≠ "_" := fun e => hno (.inl e)
    have hno2 : f.offset = i := Classical.byContradiction fun e => hno (.inr e)
    split at hk
    case h_2 => cases hk
    rename_i k ks' h1 h2
    cases hk
    cases x with
    | nil => simp [fit] at hx
    | cons a x =>
      simp only [VRels] at hu
      obtain ⟨a', u', rfl, hu1, hu2⟩ := hu
      have ka : k.ok a = true := by unfold fit at hx; cases hk : k.ok a with | false => simp [hk] at hx | true => rfl
      have fx : fit ks' x = true := by unfold fit at hx; rw [ka] at hx; exact hx
      obtain ⟨D, hund, hagg, hni, _⟩ := fkOf_und h1
      have pa := run_part hund hagg (gx 0 a' rfl) w
      simp only [Nat.add_zero] at pa
      have hck : (Instr.checkKey b 9999 f.type a').run P w = .ok () w := by
        unfold Instr.checkKey
        have hund' : (underlying f.type).run P w = .ok D w := by unfold underlying; simp [hund]
        simp only [Sem.run_bind, hund', Result.andThen_ok]
        cases D <;> first | rfl | (cases hagg; done) | exact absurd rfl (hni _)
      have ih := run_keyFields (b := b) (w := w) (x' := x') h2 fx hu2 (fun j c hj => by have := gx (j + 1) c (by simpa using hj); rwa [show i + 1 + j = i + (j + 1) from by omega])
      simp only [List.forIn_cons, hno1, ne_eq, not_false_eq_true, if_true, Sem.run_bind, hno2, pa, hck, Result.andThen_ok, Sem.run_pure] at ih ⊢
      exact ih
theorem tab_ok (P : Program) : (tabOf P).Ok P := by
  have key : ∀ t ks, flatOf P t = some ks → ∃ fs, P.underlying t = some (.struct fs) ∧ P.stoodInHeld t = false ∧ P.eqGuardType P.depth t = false ∧ fksOf P fs.toList 0 = some ks := by
    intro t ks h
    unfold flatOf at h
    split at h
    case h_2 => cases h
    rename_i fs hu
    split at h
    case isTrue => cases h
    rename_i hno
    refine ⟨fs, hu, ?_, ?_, h⟩
    · cases hc : P.stoodInHeld t with
      | false => rfl
      | true => exact absurd (.inl hc) hno
    · cases hc : P.eqGuardType P.depth t with
      | false => rfl
      | true => exact absurd (.inr hc) hno
  refine ⟨fun t d h => h, fun t i h => infOf_ok h, ?_, ?_, ?_, ?_⟩
  · intro t ks h p x y x' y' r w fx fy hx hy hs
    obtain ⟨fs, hu, h1, h2, h3⟩ := key t ks h
    have hfo : P.fieldsOf t = fs := by unfold Program.fieldsOf; rw [hu]
    unfold Op.equal Op.maxDepth
    rw [run_equalIn_struct w 9999 t x' y' (by rw [hfo]; exact hu) h1, hfo]
    exact run_eqFields 9998 h3 fx fy hx hy (fun j a hj => by simpa using hj) (fun j a hj => by simpa using hj) hs
  · intro t ks h
    obtain ⟨fs, hu, h1, h2, h3⟩ := key t ks h
    exact h2
  · intro t ks h p x x' b w fx hx
    obtain ⟨fs, hu, h1, h2, h3⟩ := key t ks h
    unfold Instr.checkKey
    have hund' : (underlying t).run P w = .ok (.struct fs) w := by unfold underlying; simp [hu]
    simp only [Sem.run_bind, hund', Result.andThen_ok]
    rw [← Array.forIn_toList]
    have := run_keyFields (b := b) (w := w) (x' := x') h3 fx hx (fun j a hj => by simpa using hj)
    simp only [this, Result.andThen_ok, Sem.run_pure]
  · intro t ks h
    obtain ⟨fs, hu, _⟩ := key t ks h
    exact ⟨fs, hu⟩
end
def fnOf (P : Program) (ct : FuncId → Bool) (f : FuncId) : Option Fn :=
  match P.funcs[f]? with
  | some fn => match fn.body with
    | some b => if fn.name = "runtime.NumGoroutine" then none else some ⟨fn.ntmps, fn.results, b, ct f⟩
    | none => none
  | none => none
theorem fnOf_ok {P : Program} {ct : FuncId → Bool} {f : FuncId} {i : Fn} (h : fnOf P ct f = some i) : ∃ fn, P.funcs[f]? = some fn ∧ fn.name ≠ "runtime.NumGoroutine" ∧ fn.body = some i.body ∧ fn.ntmps = i.ntmps ∧ fn.results = i.results := by
  unfold fnOf at h
  split at h
  case h_2 => cases h
  rename_i fn hfn
  split at h
  case h_2 => cases h
  rename_i b hb
  split at h
  case isTrue => cases h
  rename_i hn
  cases h
  exact ⟨fn, hfn, hn, hb, rfl, rfl⟩
end
end Go.Det
end
section
namespace Go.Det
noncomputable section
inductive PK where
  | indexByte
  | add64
  | sub64
def sub64Entry : Array Value → Sem Value := fun args => do
  let (x, y, b) ← Extern.MathBitsCarry.three "Sub64" args
  pure (Extern.MathBitsCarry.pair ((x + Extern.MathBitsCarry.m64 - y - b) % Extern.MathBitsCarry.m64) (if x < y + b then 1 else 0))
/-- the model's entry -/
def PK.entry : PK → Array Value → Sem Value
  | .indexByte => Extern.BytealgIndexByte.indexByte
  | .add64 => add64Entry
  | .sub64 => sub64Entry
def ofIdx : Option Nat → V
  | some i => i64 i
  | none => .int .i64 (-1)
def M64 : Nat := 18446744073709551616
def PK.run : PK → List V → H → Option (V × H)
  | .indexByte, [.str s, .int .u8 c], h => some (ofIdx (s.findIdx? fun x => x == c.toNat.toUInt8), h)
  | .add64, [.int .u64 (.ofNat x), .int .u64 (.ofNat y), .int .u64 (.ofNat c)], h =>
    bif Nat.ble c 1 then some (.tup [.int .u64 (.ofNat ((x + y + c) % M64)), .int .u64 (.ofNat ((x + y + c) / M64))], h) else none
  | .sub64, [.int .u64 (.ofNat x), .int .u64 (.ofNat y), .int .u64 (.ofNat c)], h =>
    bif Nat.ble c 1 then some (.tup [.int .u64 (.ofNat ((x + M64 - y - c) % M64)), .int .u64 (.ofNat (bif Nat.blt x (y + c) then 1 else 0))], h) else none
  | _, _, _ => none
theorem findIdx_range (s : List UInt8) (c : UInt8) : ((List.range (bytesOf s).size).find? fun i => (bytesOf s)[i]! == c) = s.findIdx? fun x => x == c := by
  have key : ∀ (l pre : List UInt8), pre ++ l = s → ((List.range' pre.length l.length).find? fun i => (bytesOf s)[i]! == c) = (l.findIdx? fun x => x == c).map (· + pre.length) := by
    intro l
    induction l with
    | nil => intro pre _; simp
    | cons a l ih =>
      intro pre hp
      have hget : (bytesOf s)[pre.length]! = a := by
        subst hp
        rw [getElem!_pos _ _ (by simp [bytesOf_size])]
        simp [bytesOf, ByteArray.getElem_eq_getElem_data]
      rw [List.length_cons, List.range'_succ, List.find?_cons, hget, List.findIdx?_cons]
      cases hac : a == c with
      | true => simp
      | false =>
        have := ih (pre ++ [a]) (by simpa using hp)
        simp only [List.length_append, List.length_singleton] at this
        simp only [this, Bool.false_eq_true, if_false, Option.map_map]
        congr 1
        funext k; simp; omega
  have := key s [] rfl
  simp only [List.length_nil, Nat.add_zero] at this
  rw [List.range_eq_range', bytesOf_size, this]
  simp
theorem VRels.three {p : Pl} {a b c : V} {l : List Value} (h : VRels p [a, b, c] l) : ∃ x y z, l = [x, y, z] ∧ VRel p a x ∧ VRel p b y ∧ VRel p c z := by
  simp only [VRels] at h
  obtain ⟨x, l1, rfl, h1, y, l2, rfl, h2, z, l3, rfl, h3, rfl⟩ := h
  exact ⟨x, y, z, rfl, h1, h2, h3⟩
theorem PK.sim {P : Program} {k : PK} {p : Pl} {h : H} {w : World} {args : List V} {args' : Array Value} {v : V} {h' : H} (ha : VRels p args args'.toList) (hd : k.run args h = some (v, h')) :
    h' = h ∧ ∃ v', (k.entry args').run P w = .ok v' w ∧ VRel p v v' := by
  unfold PK.run at hd
  split at hd
  case h_4 => cases hd
  case h_1 =>
    rename_i s c
    cases hd
    obtain ⟨x, y, hl, h1, h2⟩ := ha.two
    have : args' = #[x, y] := Array.toList_inj.1 hl
    subst this
    simp only [VRel] at h1 h2; subst h1 h2
    refine ⟨rfl, _, run_indexByte_string (bytesOf s) c w, ?_⟩
    unfold firstIdx
    rw [findIdx_range]
    cases s.findIdx? fun x => x == c.toNat.toUInt8 <;> simp [ofIdx, i64, VRel]
  case h_2 =>
    rename_i x y c
    rw [show Nat.ble c 1 = decide (c ≤ 1) from by rw [Bool.eq_iff_iff]; simp] at hd
    by_cases hc : c ≤ 1
    · simp only [hc, decide_true, cond_true, Option.some.injEq, Prod.mk.injEq] at hd
      obtain ⟨rfl, rfl⟩ := hd
      obtain ⟨x', y', z', hl, h1, h2, h3⟩ := ha.three
      have : args' = #[x', y', z'] := Array.toList_inj.1 hl
      subst this
      simp only [VRel] at h1 h2 h3; subst h1 h2 h3
      refine ⟨rfl, _, run_add64 x y c (by omega) (by omega) (by omega) (by omega) w, ?_⟩
      simp only [VRel]
      refine ⟨_, rfl, ?_⟩
      simp only [VRels_cons, VRels_nil, and_true, VRel]
      exact ⟨by simp [M64], by simp [M64]⟩
    · simp [hc] at hd
  case h_3 =>
    rename_i x y c
    rw [show Nat.ble c 1 = decide (c ≤ 1) from by rw [Bool.eq_iff_iff]; simp] at hd
    by_cases hc : c ≤ 1
    · simp only [hc, decide_true, cond_true, Option.some.injEq, Prod.mk.injEq] at hd
      obtain ⟨rfl, rfl⟩ := hd
      obtain ⟨x', y', z', hl, h1, h2, h3⟩ := ha.three
      have : args' = #[x', y', z'] := Array.toList_inj.1 hl
      subst this
      simp only [VRel] at h1 h2 h3; subst h1 h2 h3
      have key : (sub64Entry #[.int .u64 x, .int .u64 y, .int .u64 c]).run P w =
          .ok (Extern.MathBitsCarry.pair ((x + Extern.MathBitsCarry.m64 - y - c) % Extern.MathBitsCarry.m64) (if x < y + c then 1 else 0)) w := by
        have : c = 0 ∨ c = 1 := by omega
        rcases this with rfl | rfl <;> rfl
      refine ⟨rfl, _, key, ?_⟩
      simp only [VRel, Extern.MathBitsCarry.pair]
      refine ⟨_, rfl, ?_⟩
      simp only [VRels_cons, VRels_nil, and_true, VRel]
      refine ⟨rfl, ?_⟩
      rw [blt_t]
      by_cases hlt : x < y + c <;> simp [hlt]
    · simp [hc] at hd
def primOf (L : List (FuncId × PK)) (f : FuncId) : Option (List V → H → Option (V × H)) :=
  match L with
  | [] => none
  | (g, k) :: L => bif Nat.beq g f then some k.run else primOf L f
structure PrimOk (P : Program) (x : FuncId × PK) : Prop where
  ok : ∃ fn, P.funcs[x.1]? = some fn ∧ (fn.name == "runtime.NumGoroutine") = false ∧ fn.body.isNone = true ∧ Extern.findNext fn = none ∧ Extern.find fn = some x.2.entry
theorem prim_ok {P : Program} : ∀ {L : List (FuncId × PK)}, (∀ x ∈ L, PrimOk P x) → ∀ f q, primOf L f = some q → ∀ (p : Pl) (h : H) (w : World) (args : List V) (args' : Array Value) v h', R p h w → VRels p args args'.toList → q args h = some (v, h') →
    ∃ v' p' w', (callFunc f args').run P w = .ok (.value v') w' ∧ VRel p' v v' ∧ Ext p h w p' h' w'
  | [], _, f, q, hq, _, _, _, _, _, _, _, _, _, _ => by cases hq
  | (g, k) :: L, hL, f, q, hq, p, h, w, args, args', v, h', hr, ha, hd => by
    unfold primOf at hq
    rw [beq_t] at hq
    by_cases e : g = f
    · subst e
      simp only [decide_true, cond_true, Option.some.injEq] at hq
      subst hq
      obtain ⟨fn, h1, h2, h3, h4, h5⟩ := (hL (g, k) (by simp)).ok
      obtain ⟨rfl, v', g1, g2⟩ := PK.sim (P := P) (w := w) ha hd
      refine ⟨v', p, w, ?_, g2, Ext.refl hr⟩
      rw [run_callFunc_extern h1 h2 h3 h4 h5, g1]
      rfl
    · simp only [e, decide_false, cond_false] at hq
      exact prim_ok (fun x hx => hL x (by simp [hx])) f q hq p h w args args' v h' hr ha hd
end
end Go.Det
end
section
namespace Go.Det
mutual
def V.flat : V → Bool
  | .bool _ | .int _ _ | .str _ | .nilp | .nils | .nilm | .nilf | .nili => true
  | .agg l | .tup l => V.flats l
  | _ => false
def V.flats : List V → Bool
  | [] => true
  | v :: vs => v.flat && V.flats vs
end
mutual
theorem V.flat_rel {p q : Pl} : ∀ {v : V} {v' : Value}, v.flat = true → VRel p v v' → VRel q v v'
  | .bool _, _, _, h | .int _ _, _, _, h | .str _, _, _, h | .nilp, _, _, h | .nils, _, _, h | .nilm, _, _, h | .nilf, _, _, h | .nili, _, _, h => by simpa [VRel] using h
  | .agg l, _, hf, h => by
    simp only [VRel] at h ⊢
    obtain ⟨x, rfl, h1⟩ := h
    exact ⟨x, rfl, V.flats_rel (by simpa [V.flat] using hf) h1⟩
  | .tup l, _, hf, h => by
    simp only [VRel] at h ⊢
    obtain ⟨x, rfl, h1⟩ := h
    exact ⟨x, rfl, V.flats_rel (by simpa [V.flat] using hf) h1⟩
  | .ptr _ _, _, hf, _ | .sl _ _ _ _ _, _, hf, _ | .map _, _, hf, _ | .fn _ _ _, _, hf, _ | .yld _, _, hf, _ | .iface _ _, _, hf, _ => by simp [V.flat] at hf
theorem V.flats_rel {p q : Pl} : ∀ {v : List V} {v' : List Value}, V.flats v = true → VRels p v v' → VRels q v v'
  | [], _, _, h => by simpa using h
  | _ :: _, [], _, h => by simp at h
  | v :: vs, x :: xs, hf, h => by
    simp only [V.flats, Bool.and_eq_true] at hf
    rw [VRels_cons] at h ⊢
    exact ⟨V.flat_rel hf.1 h.1, V.flats_rel hf.2 h.2⟩
end
def resV : Option (List (V × H)) → Option V
  | some [(v, _)] => some v
  | _ => none
noncomputable section
def hE : H := ⟨.leaf, 0⟩
/-- a call at these arguments comes to this -/
def memoB (C : Ctx) (n : Nat) (f : FuncId) (args : List V) (v : V) : Bool := match resV (ecall C n (.fn f args) hE) with
  | some x => V.beq x v
  | none => false
theorem R_empty (w : World) : R [] hE w := by
  refine ⟨rfl, fun b o hb => ?_, fun b b' o o' r n n' hb => ?_⟩ <;> simp [H.get, hE] at hb
theorem memo_calls {C : Ctx} {P : Program} (hC : C.Ok P) (hce : Certs C) (hm : P.follows .mixedOrders = true) (hng : C.ng = 0) {n : Nat} {f : FuncId} {args : List V} {v : V}
    (hv : memoB C n f args v = true) (ha : V.flats args = true) (hvf : v.flat = true) {p : Pl} {h : H} {w : World} {args' : Array Value} (hr : R p h w) (hargs : VRels p args args'.toList) :
    Calls P f args' w fun e w' => ∃ v' p', e = .returned v' ∧ VRel p' v v' ∧ Ext p h w p' h w' := by
  unfold memoB at hv
  split at hv
  case h_2 => cases hv
  rename_i x hx
  have hxv : x = v := V.beq_eq hv
  subst hxv
  unfold resV at hx
  split at hx
  case h_2 => cases hx
  rename_i l hl he
  cases hx
  refine ((ecall_ok hC hce hm n).fn f args hE _ he [] w args' (R_empty w) (fun g hg => by rw [hng] at hg; exact absurd hg (Nat.not_lt_zero _)) (V.flats_rel ha hargs)).mono ?_
  rintro e w' ⟨u, h', v', p', hmem, rfl, h1, h2⟩
  cases List.mem_singleton.1 hmem
  have hun : ∀ r, r < w.heap.size → w'.heap[r]? = w.heap[r]? := fun r hr => h2.same r hr (by
    rintro ⟨b, o, m, hb, _⟩; simp [H.get, hE] at hb)
  refine ⟨v', p, rfl, V.flat_rel hvf h1, ⟨⟨[], by simp⟩, ⟨hr.len, fun b o hb => ?_, hr.inj⟩, h2.size, fun r hlt _ => hun r hlt, fun r hi => .inl hi, h2.os, h2.out, h2.tape, fun r hlt hl => ⟨hun r hlt, .inl hl⟩⟩⟩
  obtain ⟨r, m, y, g1, g2, g3⟩ := hr.obj b o hb
  exact ⟨r, m, y, g1, by rw [hun r (Array.getElem?_eq_some_iff.1 g2).1]; exact g2, g3⟩
/-- the table: function, arguments, what it came to -/
abbrev Memo := List (FuncId × List V × V)
def memoFind : Memo → FuncId → List V → Option V
  | [], _, _ => none
  | (g, a, v) :: l, f, args => bif Nat.beq g f && V.beqs a args then some v else memoFind l f args
def memoHas : Memo → FuncId → Bool
  | [], _ => false
  | (g, _, _) :: l, f => bif Nat.beq g f then true else memoHas l f
def memoOf (L : Memo) (f : FuncId) : Option (List V → H → Option (V × H)) :=
  bif memoHas L f then some (fun args h => match memoFind L f args with | some v => some (v, h) | none => none) else none
def memoAll (C : Ctx) (n : Nat) : Memo → Bool
  | [] => true
  | (f, a, v) :: l => memoB C n f a v && V.flats a && v.flat && memoAll C n l
theorem memo_find {L : Memo} {f : FuncId} {args : List V} {v : V} (h : memoFind L f args = some v) {C : Ctx} {n : Nat} (ha : memoAll C n L = true) : memoB C n f args v = true ∧ V.flats args = true ∧ v.flat = true := by
  induction L with
  | nil => cases h
  | cons x l ih =>
    obtain ⟨g, a, u⟩ := x
    simp only [memoAll, Bool.and_eq_true] at ha
    unfold memoFind at h
    cases hb : (Nat.beq g f && V.beqs a args) with
    | false => rw [hb] at h; exact ih h ha.2
    | true =>
      rw [hb] at h; cases h
      simp only [Bool.and_eq_true] at hb
      have e1 : g = f := Nat.eq_of_beq_eq_true hb.1
      have e2 : a = args := V.beqs_eq hb.2
      subst e1; subst e2
      exact ⟨ha.1.1.1, ha.1.1.2, ha.1.2⟩
theorem memo_ok {C C' : Ctx} {P : Program} (hC : C.Ok P) (hce : Certs C) (hm : P.follows .mixedOrders = true) (hng : C.ng = 0) {n : Nat} {L : Memo} (ha : memoAll C n L = true) :
    ∀ f q, memoOf L f = some q → ∀ (p : Pl) (h : H) (w : World) (args : List V) (args' : Array Value) v h', R p h w → Gl C' p → VRels p args args'.toList → q args h = some (v, h') →
    Calls P f args' w fun e w' => ∃ v' p', e = .returned v' ∧ VRel p' v v' ∧ Ext p h w p' h' w' := by
  intro f q hq p h w args args' v h' hr _ hargs hqr
  unfold memoOf at hq
  cases hh : memoHas L f with
  | false => rw [hh] at hq; cases hq
  | true =>
    rw [hh] at hq; cases hq
    simp only at hqr
    split at hqr
    case h_2 => cases hqr
    rename_i u hu
    cases hqr
    obtain ⟨g1, g2, g3⟩ := memo_find hu ha
    exact memo_calls hC hce hm hng g1 g2 g3 hr hargs
end
end Go.Det
end
section
namespace Go.Det
noncomputable section
/-- the plans of n functions from a on are right -/
def certR (P : Program) : Nat → Nat → Bool
  | 0, _ => true
  | n + 1, a => (match fnOf P (fun _ => true) a with | some i => certC i.body | none => true) && certR P n (a + 1)
variable {P : Program}
theorem fnOf_true {ct : FuncId → Bool} {f : FuncId} {i : Fn} (hi : fnOf P ct f = some i) : fnOf P (fun _ => true) f = some { i with cert := true } ∧ i.cert = ct f := by
  unfold fnOf at hi ⊢
  cases hf : P.funcs[f]? with
  | none => rw [hf] at hi; cases hi
  | some fn =>
    rw [hf] at hi
    simp only at hi ⊢
    cases hb : fn.body with
    | none => rw [hb] at hi; cases hi
    | some b =>
      rw [hb] at hi
      simp only at hi ⊢
      split at hi
      · cases hi
      · rename_i hn; rw [if_neg hn]; cases hi; exact ⟨rfl, rfl⟩
theorem certR_ok {f : Nat} {i : Fn} {ct : FuncId → Bool} (hi : fnOf P ct f = some i) : ∀ {n a : Nat}, certR P n a = true → a ≤ f → f < a + n → certC i.body = true
  | 0, a, _, h1, h2 => by omega
  | n + 1, a, h, h1, h2 => by
    simp only [certR, Bool.and_eq_true] at h
    by_cases e : a = f
    · subst e
      rw [(fnOf_true hi).1] at h; exact h.1
    · exact certR_ok hi h.2 (by omega) (by omega)
def mkC (P : Program) (N : Nat) (L : List (FuncId × PK)) : Ctx := ⟨tabOf P, 0, fnOf P (fun f => Nat.blt f N), primOf L, fun _ => none, true⟩
def withMemo (C : Ctx) (M : Memo) : Ctx := { C with spec := memoOf M }
theorem mkC_certs {N : Nat} {L : List (FuncId × PK)} (h : ∀ f i, f < N → fnOf P (fun f => Nat.blt f N) f = some i → certC i.body = true) : Certs (mkC P N L) := by
  intro f i hi hc
  have hi : fnOf P (fun f => Nat.blt f N) f = some i := hi
  rw [(fnOf_true hi).2] at hc
  exact h f i (Nat.le_of_ble_eq_true hc) hi
theorem mkC_ok {N : Nat} {L : List (FuncId × PK)} (hL : ∀ x ∈ L, PrimOk P x) : (mkC P N L).Ok P where
  T := tab_ok P
  fn := fun _ _ h => fnOf_ok (P := P) (ct := fun f => Nat.blt f N) h
  prim := fun f q hq p h w args args' v h' hr _ ha hd => prim_ok hL f q hq p h w args args' v h' hr ha hd
  spec := fun f q hq => by cases hq
theorem withMemo_ok {C : Ctx} (hC : C.Ok P) (hce : Certs C) (hm : P.follows .mixedOrders = true) (hng : C.ng = 0) {n : Nat} {M : Memo} (h : memoAll C n M = true) : (withMemo C M).Ok P where
  T := hC.T
  fn := hC.fn
  prim := hC.prim
  spec := memo_ok hC hce hm hng h
theorem withMemo_certs {C : Ctx} (hce : Certs C) (M : Memo) : Certs (withMemo C M) := hce
end
end Go.Det
end
section
namespace Go.Pe
open Go.Det
inductive Sh where
  | int (k : IntKind)
  | bool
  | str
  | list (s : Sh)
  | pair (a b : Sh)
  | unit
  /-- a list: nil where it has no elements -/
  | nlist (s : Sh)
  /-- a function without captured values, or nil -/
  | fnv
  deriving DecidableEq
@[reducible] def Sh.T : Sh → Type
  | .int _ => Int
  | .bool => Bool
  | .str => List UInt8
  | .list s => List s.T
  | .pair a b => a.T × b.T
  | .unit => Unit
  | .nlist s => List s.T
  | .fnv => Option Fn
noncomputable section
def Sh.dflt : (s : Sh) → s.T
  | .int _ => (0 : Int)
  | .bool => false
  | .str => ([] : List UInt8)
  | .list _ => []
  | .pair a b => (a.dflt, b.dflt)
  | .unit => ()
  | .nlist _ => []
  | .fnv => none
/-- the number of cells -/
def Sh.sz : Sh → Nat
  | .pair a b => Nat.add a.sz b.sz
  | .unit => 0
  | _ => 1
inductive PV where
  /-- whatever it be -/
  | any
  /-- a known truth value -/
  | bl (b : Bool)
  /-- a truth value, whichever -/
  | ub
  /-- plain data in one cell; a list is a slice that nobody writes any more -/
  | dat (s : Sh) (x : s.T)
  | nil | nilp | nilm | nilf | nili
  | agg (l : List PV)
  | tup (l : List PV)
  /-- into a variable -/
  | ptr (id off : Nat)
  /-- into element i of an array of the call's own; sz: the cells of an element -/
  | eptr (id sz i off : Nat)
  /-- into an element that nobody writes -/
  | dptr (s : Sh) (x : s.T) (off : Nat)
  /-- cap: none where it is the length -/
  | sl (id sz off len : Nat) (cap : Option Nat)
  | mp (id : Nat)
  | fn (f : Fn) (first captured : List PV)
  /-- the loop body of a range over a function: the object has its record -/
  | yl (id : Nat)
/-- how far a range over a function is -/
inductive LpS where
  | ready | busy | ret
  | exit (i : Nat)
inductive Obj where
  /-- an array; fz: nobody writes it any more; e: its elements' type -/
  | arr (fz : Bool) (e : TypeId) (s : Sh) (l : List s.T)
  /-- a variable: its cells -/
  | box (cs : List PV)
  | map (ks vs : Sh) (l : List (ks.T × vs.T))
  | siter (s : List UInt8) (pos : Nat)
  /-- a range over a function: in the function f, behind the region r; its slots -/
  | lp (f : FuncId) (r : Nat) (ps : Array Tmp) (asg body : Code) (s : LpS) (n : Nat) (sl : List (Nat × PV))
abbrev Ob := List (Nat × Obj)
def obGet : Ob → Nat → Option Obj
  | [], _ => none
  | (i, o) :: l, j => bif Nat.beq i j then some o else obGet l j
def obSet : Ob → Nat → Obj → Ob
  | [], _, _ => []
  | (i, o) :: l, j, x => bif Nat.beq i j then (i, x) :: l else (i, o) :: obSet l j x
def obDel : Ob → Nat → Ob
  | [], _ => []
  | (i, o) :: l, j => bif Nat.beq i j then obDel l j else (i, o) :: obDel l j
structure PSt where
  n : Nat
  fr : PM PV
  ob : Ob
  nx : Nat
def PSt.get (st : PSt) (t : Nat) : PV := (st.fr.get t).getD .any
def PSt.obj (st : PSt) (id : Nat) : Option Obj := obGet st.ob id
def PSt.set (st : PSt) (t : Nat) (v : PV) : PSt := ⟨st.n, st.fr.set t (some v), st.ob, st.nx⟩
def PSt.setObj (st : PSt) (id : Nat) (o : Obj) : PSt := ⟨st.n, st.fr, obSet st.ob id o, st.nx⟩
def PSt.delObj (st : PSt) (id : Nat) : PSt := ⟨st.n, st.fr, obDel st.ob id, st.nx⟩
/-- a new object -/
def PSt.push (st : PSt) (o : Obj) : PSt := ⟨st.n, st.fr, (st.nx, o) :: st.ob, Nat.add st.nx 1⟩
def PSt.put (st : PSt) (d : Option Nat) (v : PV) : Option PSt :=
  match d with
  | none => some st
  | some t => bif Nat.blt t st.n then some (st.set t v) else none
def ofSlots (vs : List (Nat × PV)) : PM PV := vs.foldl (fun m x => m.set x.1 (some x.2)) .leaf
def flat : (s : Sh) → s.T → List PV
  | .pair a b, (x, y) => flat a x ++ flat b y
  | .unit, _ => []
  | .fnv, x => [match (x : Option Fn) with | some f => .fn f [] [] | none => .nilf]
  | s, x => [.dat s x]
def castD (s s' : Sh) (x : s.T) : Option s'.T := if h : s = s' then some (h ▸ x) else none
/-- one cell as data of a shape -/
def asD (s : Sh) (v : PV) : Option s.T :=
  match v with
  | .dat s' x => castD s' s x
  | .bl b => castD .bool s b
  | .fn f [] [] => castD .fnv s (some f)
  | .nilf => castD .fnv s none
  | .nil => match s with
    | .list _ => some []
    | .nlist _ => some []
    | _ => none
  | _ => none
def unflat : (s : Sh) → List PV → Option (s.T × List PV)
  | .pair a b, l => match unflat a l with
    | some (x, l1) => match unflat b l1 with
      | some (y, l2) => some ((x, y), l2)
      | none => none
    | none => none
  | .unit, l => some ((), l)
  | s, v :: l => match asD s v with
    | some x => some (x, l)
    | none => none
  | _, [] => none
/-- all cells, and no more -/
def unflat1 (s : Sh) (l : List PV) : Option s.T :=
  match unflat s l with
  | some (x, []) => some x
  | _ => none
def PV.cells : PV → List PV
  | .agg cs => cs
  | v => [v]
def pairs (ty : TypeId → Option Sh) : List Field → Option Sh
  | [] => none
  | [x] => ty x.type
  | x :: xs => match ty x.type, pairs ty xs with
    | some a, some b => some (.pair a b)
    | _, _ => none
/-- a field: words of a number are nil or not empty -/
def nlf : Option Sh → Option Sh
  | some (.list (.int .u64)) => some (.nlist (.int .u64))
  | s => s
/-- a list of which only its elements matter -/
def lz : PV → PV
  | .dat (.nlist s) x => .dat (.list s) x
  | v => v
/-- the shapes of the cells -/
def Sh.leaves : Sh → List Sh
  | .pair a b => a.leaves ++ b.leaves
  | .unit => []
  | s => [s]
/-- a list as another kind of list, and the condition under which it is -/
def coer1 : Sh → PV → Bool × PV
  | .nlist s, .dat (.list s') x => bif s == s' then (decide (0 < x.length), .dat (.nlist s') x) else (true, .dat (.list s') x)
  | .list s, .dat (.nlist s') x => bif s == s' then (true, .dat (.list s') x) else (true, .dat (.nlist s') x)
  | _, v => (true, v)
def coers : List Sh → List PV → Bool × List PV
  | s :: l, v :: vs => ((coer1 s v).1 && (coers l vs).1, (coer1 s v).2 :: (coers l vs).2)
  | _, vs => (true, vs)
/-- the shape of the values of a type -/
def tySh (T : Tab) : Nat → TypeId → Option Sh
  | 0, _ => none
  | f + 1, t => match T.und t with
    | some (.int k) => some (.int k)
    | some .bool => some .bool
    | some .string => some .str
    | some (.slice e) => (tySh T f e).map .list
    | some (.func _ _ _) => some .fnv
    | some (.struct fs) => pairs (fun x => nlf (tySh T f x)) fs.toList
    | _ => none
/-- has it functions -/
def Sh.hasF : Sh → Bool
  | .pair a b => a.hasF || b.hasF
  | .fnv => true
  | _ => false
/-- data as one value -/
def dats : (s : Sh) → s.T → PV
  | .pair a b, x => .agg (flat (.pair a b) x)
  | .unit, _ => .agg []
  | .fnv, x => match (x : Option Fn) with | some f => .fn f [] [] | none => .nilf
  | s, x => .dat s x
def Sh.isP : Sh → Bool
  | .pair _ _ | .unit => true
  | _ => false
/-- are two keys the same -/
def keq : (s : Sh) → s.T → s.T → Bool
  | .int _, a, b => (a : Int) == b
  | .bool, a, b => (a : Bool) == b
  | .str, a, b => (a : List UInt8) == b
  | _, _, _ => false
def mget (s v : Sh) (k : s.T) : List (s.T × v.T) → Option v.T
  | [] => none
  | (a, b) :: l => bif keq s k a then some b else mget s v k l
def mset (s v : Sh) (k : s.T) (x : v.T) : List (s.T × v.T) → List (s.T × v.T)
  | [] => [(k, x)]
  | (a, b) :: l => bif keq s k a then (k, x) :: l else (a, b) :: mset s v k x l
def mdel (s v : Sh) (k : s.T) : List (s.T × v.T) → List (s.T × v.T)
  | [] => []
  | (a, b) :: l => bif keq s k a then l else (a, b) :: mdel s v k l
inductive Tr where
  | fail
  /-- the result, the objects behind it -/
  | leaf (v : PV) (ob : Ob)
  | ite (c : Bool) (a b : Tr)
  /-- one of these, whichever -/
  | both (a b : Tr)
  /-- in front of a piece of code that several ways come to -/
  | cut (nd ro : Bool) (d : Nat) (f : FuncId) (base : Nat) (b : Code) (st : PSt) (k : DX → PSt → Tr)
  /-- one of these, whichever -/
  | alts (m : Nat) (f : Nat → Tr)
  /-- a loop of function f, at depth d, at its head; base: the objects from there on are its own -/
  | loop (nd ro : Bool) (d : Nat) (f : FuncId) (base : Nat) (b : Code) (st : PSt) (k : DX → PSt → Tr)
/-- what an operation comes to -/
inductive PO where
  | bad
  | val (v : PV) (st : PSt)
  | ite (c : Bool) (a b : PO)
def PO.chk (c : Bool) (v : PV) (st : PSt) : PO := .ite c (.val v st) .bad
end
end Go.Pe
end
