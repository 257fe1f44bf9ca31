import Derived.Test.YtnbinppdjnlhpaaGreatDoorX01
/- A part of the proofs of the laws of one chapter (no law is stated here). Made by program out of texts by AI agents. -/
section
namespace Go.Det
noncomputable section
section
variable {T : Tab} {P : Program} {p : Pl} {h : H} {w : World}
def strOp (op : BinOp) (x y : List UInt8) : Option V :=
  match op with
  | .add => if x.length + y.length ≤ 4611686018427387904 then some (.str (x ++ y)) else none
  | .eql => some (.bool (x == y))
  | .neq => some (.bool !(x == y))
  | .lss => some (.bool (Op.bytesLess x y))
  | .leq => some (.bool (Op.bytesLess x y || x == y))
  | .gtr => some (.bool !(Op.bytesLess x y || x == y))
  | .geq => some (.bool !Op.bytesLess x y)
  | _ => none
theorem bytesOf_toList (s : List UInt8) : (bytesOf s).toList = s := ByteArray.toList_mk s
theorem bytesOf_size (s : List UInt8) : (bytesOf s).size = s.length := by simp [bytesOf, ByteArray.size]
theorem bytesOf_append (x y : List UInt8) : bytesOf x ++ bytesOf y = bytesOf (x ++ y) := by
  apply ByteArray.ext; simp [bytesOf]
theorem sim_str {op : BinOp} {x y : List UInt8} {v : V} (hd : strOp op x y = some v) :
    ∃ v', (Op.stringOp op (bytesOf x) (bytesOf y)).run P w = .ok v' w ∧ VRel p v v' := by
  unfold Op.stringOp
  simp only [bytesOf_toList, bytesOf_size]
  cases op <;> simp only [strOp] at hd
  case add =>
    split at hd
    · cases hd
      rename_i hle
      rw [if_neg (by simp [IntKind.max, IntKind.signed, IntKind.bits]; omega)]
      exact ⟨_, Sem.run_pure .., by simp [VRel, bytesOf_append]⟩
    · cases hd
  all_goals first
    | (cases hd; done)
    | (cases hd; exact ⟨_, Sem.run_pure .., by simp [VRel]⟩)
def intOp (op : BinOp) (k : IntKind) (a b : Int) : Option V :=
  match op with
  | .add => some (.int k (k.wrap (a + b)))
  | .sub => some (.int k (k.wrap (a - b)))
  | .mul => some (.int k (k.wrap (a * b)))
  | .quo => if b = 0 then none else some (.int k (k.wrap (a.tdiv b)))
  | .rem => if b = 0 then none else some (.int k (a.tmod b))
  | .and => some (.int k (k.wrap (BitVec.ofInt k.bits a &&& BitVec.ofInt k.bits b).toNat))
  | .or => some (.int k (k.wrap (BitVec.ofInt k.bits a ||| BitVec.ofInt k.bits b).toNat))
  | .xor => some (.int k (k.wrap (BitVec.ofInt k.bits a ^^^ BitVec.ofInt k.bits b).toNat))
  | .andNot => some (.int k (k.wrap (BitVec.ofInt k.bits a &&& ~~~BitVec.ofInt k.bits b).toNat))
  | .eql => some (.bool (a == b))
  | .neq => some (.bool (a != b))
  | .lss => some (.bool (a < b))
  | .leq => some (.bool (a ≤ b))
  | .gtr => some (.bool (a > b))
  | .geq => some (.bool (a ≥ b))
  | _ => none
def shOp (op : BinOp) (k : IntKind) (a b : Int) : Option V :=
  if b < 0 then none else
  match op with
  | .shl => some (.int k (k.wrap (a * 2 ^ (min b.toNat k.bits))))
  | .shr => some (.int k (a.fdiv (2 ^ (min b.toNat k.bits))))
  | _ => none
def dflat (ks : Option (List FK)) (xs ys : List V) : Option Bool :=
  match ks with
  | some ks => bif fit ks xs && fit ks ys then sameCells xs ys else none
  | none => none
theorem dflat_some {ks : Option (List FK)} {xs ys : List V} {r : Bool} (h : dflat ks xs ys = some r) : ∃ l, ks = some l ∧ fit l xs = true ∧ fit l ys = true ∧ sameCells xs ys = some r := by
  unfold dflat at h
  split at h
  case h_2 => cases h
  rename_i l
  cases hf : (fit l xs && fit l ys) with
  | false => simp [hf] at h
  | true => simp only [hf, cond_true] at h; simp only [Bool.and_eq_true] at hf; exact ⟨l, rfl, hf.1, hf.2, h⟩
/-- == on values of type t -/
def dequal (T : Tab) (t : TypeId) (x y : V) : Option Bool :=
  match T.und t, x, y with
  | some .bool, .bool a, .bool b => some (a == b)
  | some (.pointer _), .nilp, y => match y with | .nilp => some true | .ptr .. => some false | _ => none
  | some (.pointer _), .ptr .., .nilp => some false
  | some (.pointer e), .ptr a i, .ptr b j => if a = b then match T.inf e with | some ti => if ti.size ≠ 0 then some (i == j) else none | _ => none else none
  | some (.interface _), .iface .., .nili => some false
  | some (.interface _), .nili, .iface .. => some false
  | some (.slice _), .nils, y => match y with | .nils => some true | .sl .. => some false | .esl => some false | .es0 => some false | _ => none
  | some (.slice _), .sl .., .nils => some false
  | some (.slice _), .esl, .nils => some false
  | some (.slice _), .es0, .nils => some false
  | some (.map _ _), .nilm, y => match y with | .nilm => some true | .map .. => some false | _ => none
  | some (.map _ _), .map .., .nilm => some false
  | some (.func ..), .nilf, .nilf => some true
  | some (.func ..), .fn .., .nilf => some false
  | some (.func ..), .nilf, .fn .. => some false
  | _, .agg xs, .agg ys => dflat (T.flat t) xs ys
  | _, _, _ => none
def dbin (T : Tab) (op : BinOp) (t : TypeId) (x y : V) : Option V :=
  match op, x, y with
  | .shl, .int k a, .int _ b => shOp .shl k a b
  | .shr, .int k a, .int _ b => shOp .shr k a b
  | op, .int k a, .int k' b => if k = k' then intOp op k a b else none
  | op, .str a, .str b => strOp op a b
  | .eql, x, y => (dequal T t x y).map fun b => .bool b
  | .neq, x, y => (dequal T t x y).map fun b => .bool !b
  | _, _, _ => none
theorem sim_int {op : BinOp} {k : IntKind} {a b : Int} {v : V} (hs : op ≠ .shl ∧ op ≠ .shr) (hd : intOp op k a b = some v) (t : TypeId) :
    ∃ v', (binOp op t (.int k a) (.int k b)).run P w = .ok v' w ∧ VRel p v v' := by
  cases op <;> simp only [intOp] at hd <;> simp only [binOp, ne_eq, not_true_eq_false, if_false, Op.intArith, Op.intDiv, Op.intBits, Op.intCmp]
  case quo | rem =>
    split at hd
    · cases hd
    · rename_i hb; cases hd; rw [if_neg hb]; exact ⟨_, Sem.run_pure .., by simp [VRel]⟩
  case shl => exact absurd rfl hs.1
  case shr => exact absurd rfl hs.2
  all_goals (cases hd; exact ⟨_, Sem.run_pure .., by simp [VRel]⟩)
theorem sim_equal (hT : T.Ok P) {t : TypeId} {x y : V} {x' y' : Value} (hx : VRel p x x') (hy : VRel p y y') {r : Bool} (hd : dequal T t x y = some r) :
    (Op.equal t x' y').run P w = .ok r w := by
  unfold dequal at hd
  split at hd
  case h_16 =>
    rename_i xs ys
    obtain ⟨l, h1, h2, h3, h4⟩ := dflat_some hd
    simp only [VRel] at hx hy
    obtain ⟨u, rfl, hu⟩ := hx
    obtain ⟨v, rfl, hv⟩ := hy
    exact hT.flat t l h1 p xs ys u v r w h2 h3 hu hv h4
  case h_17 => cases hd
  all_goals (rename_i hu; simp only [VRel] at hx hy; unfold Op.equal Op.maxDepth Op.equalIn; rw [Sem.run_bind, run_und hT hu]; simp only [Result.andThen_ok])
  case h_1 => subst hx hy; cases hd; simp
  case h_2 => subst hx; split at hd <;> first | (cases hd; done) | (cases hd; simp only [VRel] at hy; first | (subst hy; simp; done) | (obtain ⟨_, _, _, rfl⟩ := hy; simp))
  case h_3 => obtain ⟨_, _, _, rfl⟩ := hx; subst hy; cases hd; simp
  case h_4 =>
    split at hd
    case isFalse => cases hd
    rename_i e; subst e
    split at hd
    case h_2 => cases hd
    rename_i ti hti
    split at hd
    case isFalse => cases hd
    rename_i hs
    cases hd
    obtain ⟨r1, n1, h1, rfl⟩ := hx
    obtain ⟨r2, n2, h2, rfl⟩ := hy
    rw [h1] at h2; cases h2
    simp only [Sem.run_bind, run_size hT hti, Result.andThen_ok, hs, ne_eq, not_false_eq_true, if_true]
    unfold sameAddr
    simp only [beq_self_eq_true, if_true, Sem.run_pure]
    congr 1
    rw [Bool.eq_iff_iff]; simp
  case h_5 => obtain ⟨_, rfl, _⟩ := hx; subst hy; cases hd; simp
  case h_6 => obtain ⟨_, rfl, _⟩ := hy; subst hx; cases hd; simp
  case h_7 => subst hx; split at hd <;> first | (cases hd; done) | (cases hd; simp only [VRel] at hy; first | (subst hy; simp; done) | (obtain ⟨_, _, _, _, rfl, _⟩ := hy; simp; done) | (obtain ⟨_, _, rfl⟩ := hy; simp; done) | (obtain ⟨_, rfl⟩ := hy; simp; done))
  case h_8 => obtain ⟨_, _, _, _, rfl, _⟩ := hx; subst hy; cases hd; simp
  case h_9 => obtain ⟨_, _, rfl⟩ := hx; subst hy; cases hd; simp
  case h_10 => obtain ⟨_, rfl⟩ := hx; subst hy; cases hd; simp
  case h_11 => subst hx; split at hd <;> first | (cases hd; done) | (cases hd; simp only [VRel] at hy; first | (subst hy; simp; done) | (obtain ⟨_, _, _, rfl⟩ := hy; simp))
  case h_12 => obtain ⟨_, _, _, rfl⟩ := hx; subst hy; cases hd; simp
  case h_13 => subst hx hy; cases hd; simp
  case h_14 => obtain ⟨_, _, rfl, _⟩ := hx; subst hy; cases hd; simp
  case h_15 => obtain ⟨_, _, rfl, _⟩ := hy; subst hx; cases hd; simp
def plainEq : V → Bool
  | .int .. | .str _ | .tup _ => false
  | _ => true
theorem dequal_plain {t : TypeId} {x y : V} {r : Bool} (hd : dequal T t x y = some r) : plainEq x = true := by
  unfold dequal at hd
  split at hd <;> first | rfl | (cases hd)
theorem bin_eql {t : TypeId} {x : V} {x' y' : Value} (hx : VRel p x x') (hp : plainEq x = true) :
    binOp .eql t x' y' = (do pure (.bool (← Op.equal t x' y'))) ∧ binOp .neq t x' y' = (do pure (.bool (!(← Op.equal t x' y')))) := by
  cases x <;> simp only [plainEq] at hp <;> simp only [VRel] at hx
  case int | str | tup => cases hp
  case ptr => obtain ⟨_, _, _, rfl⟩ := hx; cases y' <;> exact ⟨rfl, rfl⟩
  case esl => obtain ⟨_, _, rfl⟩ := hx; cases y' <;> exact ⟨rfl, rfl⟩
  case es0 => obtain ⟨_, rfl⟩ := hx; cases y' <;> exact ⟨rfl, rfl⟩
  case sl => obtain ⟨_, _, _, _, rfl, _⟩ := hx; cases y' <;> exact ⟨rfl, rfl⟩
  case map => obtain ⟨_, _, _, rfl⟩ := hx; cases y' <;> exact ⟨rfl, rfl⟩
  case yld => obtain ⟨_, _, _, rfl⟩ := hx; cases y' <;> exact ⟨rfl, rfl⟩
  case fn => obtain ⟨_, _, rfl, _⟩ := hx; cases y' <;> exact ⟨rfl, rfl⟩
  case iface => obtain ⟨_, rfl, _⟩ := hx; cases y' <;> exact ⟨rfl, rfl⟩
  case agg => obtain ⟨_, rfl, _⟩ := hx; cases y' <;> exact ⟨rfl, rfl⟩
  all_goals (subst hx; cases y' <;> exact ⟨rfl, rfl⟩)
theorem sim_bin (hT : T.Ok P) {op : BinOp} {t : TypeId} {x y : V} {x' y' : Value} (hx : VRel p x x') (hy : VRel p y y') {v : V} (hd : dbin T op t x y = some v) :
    ∃ v', (binOp op t x' y').run P w = .ok v' w ∧ VRel p v v' := by
  unfold dbin at hd
  split at hd
  case h_1 =>
    simp only [VRel] at hx hy; subst hx hy
    unfold shOp at hd
    split at hd
    · cases hd
    · rename_i hb; cases hd
      simp only [binOp, Op.shift, if_neg hb]
      exact ⟨_, Sem.run_pure .., by simp [VRel]⟩
  case h_2 =>
    simp only [VRel] at hx hy; subst hx hy
    unfold shOp at hd
    split at hd
    · cases hd
    · rename_i hb; cases hd
      simp only [binOp, Op.shift, if_neg hb]
      exact ⟨_, Sem.run_pure .., by simp [VRel]⟩
  case h_3 =>
    rename_i h1 h2
    split at hd
    · rename_i e; subst e
      simp only [VRel] at hx hy; subst hx hy
      refine sim_int ⟨?_, ?_⟩ hd t
      · intro e; subst e; simp at h1
      · intro e; subst e; simp at h2
    · cases hd
  case h_4 =>
    simp only [VRel] at hx hy; subst hx hy
    have := sim_str (P := P) (p := p) (w := w) hd
    cases op <;> simpa only [binOp] using this
  case h_5 =>
    rw [Option.map_eq_some_iff] at hd
    obtain ⟨b, h1, rfl⟩ := hd
    rw [(bin_eql hx (dequal_plain h1)).1]
    simp only [Sem.run_bind, sim_equal hT hx hy h1, Result.andThen_ok]
    exact ⟨_, Sem.run_pure .., by simp [VRel]⟩
  case h_6 =>
    rw [Option.map_eq_some_iff] at hd
    obtain ⟨b, h1, rfl⟩ := hd
    rw [(bin_eql hx (dequal_plain h1)).2]
    simp only [Sem.run_bind, sim_equal hT hx hy h1, Result.andThen_ok]
    exact ⟨_, Sem.run_pure .., by simp [VRel]⟩
  case h_7 => cases hd
theorem not_nili {a : V} {a' : Value} (hx : VRel p a a') (h : a ≠ .nili) : a' ≠ .nilIface := by
  intro e; subst e
  cases a <;> simp only [VRel] at hx <;> first | exact h rfl | (simp at hx; done) | (obtain ⟨_, _, _, _, hx, _⟩ := hx; cases hx; done) | (obtain ⟨_, _, _, hx⟩ := hx; cases hx; done) | (obtain ⟨_, _, hx, _⟩ := hx; cases hx; done) | (obtain ⟨_, hx, _⟩ := hx; cases hx; done)
theorem agg_of {a : V} {c : Array Value} (hx : VRel p a (.agg c)) : ∃ xs, a = .agg xs ∧ VRels p xs c.toList := by
  cases a <;> simp only [VRel] at hx <;> first | (simp at hx; done) | (obtain ⟨_, _, _, _, hx, _⟩ := hx; cases hx; done) | (obtain ⟨_, _, _, hx⟩ := hx; cases hx; done) | (obtain ⟨_, _, hx, _⟩ := hx; cases hx; done) | (obtain ⟨_, hx, h⟩ := hx; cases hx <;> exact ⟨_, rfl, h⟩)
theorem guard_pure {op : BinOp} {t : TypeId} {x y : Operand} {a' b' : Value} (h1 : op ≠ .eql) (h2 : op ≠ .neq) : eqGuard op t x y a' b' = pure () := by
  cases op <;> first | rfl | exact absurd rfl h1 | exact absurd rfl h2
theorem guard_run {op : BinOp} {t : TypeId} {x y : Operand} {a' b' : Value} (h0 : a' ≠ .nilIface ∨ b' ≠ .nilIface) (h1 : (∃ c d, a' = .agg c ∧ b' = .agg d) → P.eqGuardType P.depth t = false) :
    (eqGuard op t x y a' b').run P w = .ok () w := by
  by_cases e1 : op = .eql ∨ op = .neq
  · have : eqGuard op t x y a' b' = eqGuard .eql t x y a' b' := by rcases e1 with rfl | rfl <;> rfl
    rw [this]
    unfold eqGuard
    simp only [Bool.not_true, Bool.false_eq_true, if_false]
    split
    · simp at h0
    · have := h1 ⟨_, _, rfl, rfl⟩
      simp [this]
    · rfl
  · rw [guard_pure (fun e => e1 (.inl e)) (fun e => e1 (.inr e))]; rfl
theorem sim_guard (hT : T.Ok P) {op : BinOp} {t : TypeId} {x y : Operand} {a b : V} {a' b' : Value} (hx : VRel p a a') (hy : VRel p b b') {v : V} (hd : dbin T op t a b = some v) :
    (eqGuard op t x y a' b').run P w = .ok () w := by
  by_cases e1 : op = .eql ∨ op = .neq
  · refine guard_run ?_ ?_
    · by_cases e2 : a = .nili
      · by_cases e3 : b = .nili
        · subst e2 e3
          have : dequal T t .nili .nili = none := by unfold dequal; split <;> simp_all
          rcases e1 with rfl | rfl <;> simp [dbin, this] at hd
        · exact .inr (not_nili hy e3)
      · exact .inl (not_nili hx e2)
    · rintro ⟨c, d, rfl, rfl⟩
      obtain ⟨xs, rfl, h1⟩ := agg_of hx
      obtain ⟨ys, rfl, h2⟩ := agg_of hy
      have he : dequal T t (.agg xs) (.agg ys) = dflat (T.flat t) xs ys := by unfold dequal; split <;> simp_all
      cases hf : dflat (T.flat t) xs ys with
      | some r => obtain ⟨l, h1, _⟩ := dflat_some hf; exact hT.guard t l h1
      | none =>
        rw [hf] at he
        rcases e1 with rfl | rfl <;> simp [dbin, he] at hd
  · rw [guard_pure (fun e => e1 (.inl e)) (fun e => e1 (.inr e))]; rfl
end
end
end Go.Det
end
section
namespace Go.Det
noncomputable section
section
variable {T : Tab} {P : Program} {p : Pl} {h : H} {w : World}
def dun (op : UnOp) (x : V) : Option V :=
  match op, x with
  | .neg, .int k n => some (.int k (k.wrap (0 - n)))
  | .xor, .int k n => intOp .xor k (if k.signed then -1 else k.max) n
  | .not, .bool b => some (.bool !b)
  | _, _ => none
theorem sim_un {op : UnOp} {x : V} {x' : Value} (hx : VRel p x x') {v : V} (hd : dun op x = some v) : ∃ v', (Op.unary op x').run P w = .ok v' w ∧ VRel p v v' := by
  unfold dun at hd
  split at hd
  case h_1 => simp only [VRel] at hx; subst hx; cases hd; exact ⟨_, rfl, by simp [VRel]⟩
  case h_2 => 
    simp only [VRel] at hx; subst hx
    simp only [intOp, Option.some.injEq] at hd; subst hd
    exact ⟨_, rfl, by simp [VRel]⟩
  case h_3 => simp only [VRel] at hx; subst hx; cases hd; exact ⟨_, rfl, by simp [VRel]⟩
  case h_4 => cases hd
def byte? : V → Option UInt8
  | .int .u8 (.ofNat n) => some (UInt8.ofNat n)
  | _ => none
def bytes? : List V → Option (List UInt8)
  | [] => some []
  | v :: vs =>
    match byte? v, bytes? vs with
    | some b, some bs => some (b :: bs)
    | _, _ => none
/-- conversions that make no memory -/
def dconv (T : Tab) (h : H) (src dst : TypeId) (x : V) : Option V :=
  match T.und src, T.und dst, x with
  | some _, some (.int k), .int _ n => some (.int k (k.wrap n))
  | some _, some .string, .str s => some (.str s)
  | some (.slice e), some .string, .nils => match T.und e with | some (.int .u8) => some (.str []) | _ => none
  | some (.slice e), some .string, .sl b off len _ _ =>
    match T.und e with
    | some (.int .u8) => match rd h b off len with
      | some cs => (bytes? cs).map .str
      | none => none
    | _ => none
  | _, _, _ => none
theorem forIn_bytes {f : Value → ByteArray → Sem (ForInStep ByteArray)} (hf : ∀ n s, f (.int .u8 n) s = pure (ForInStep.yield (s.push (UInt8.ofNat n.toNat)))) :
    ∀ (cs : List V) (vs : List Value) (bs : List UInt8) (acc : List UInt8), VRels p cs vs → bytes? cs = some bs →
    ∀ w, (forIn vs (bytesOf acc) f).run P w = .ok (bytesOf (acc ++ bs)) w
  | [], vs, bs, acc, hv, hm, w => by
    simp at hv; simp [bytes?] at hm; subst hv hm; simp [forIn]
  | c :: cs, [], _, _, hv, _, _ => by simp at hv
  | c :: cs, v :: vs, bs, acc, hv, hm, w => by
    simp only [VRels_cons] at hv
    unfold bytes? at hm
    split at hm
    case h_2 => cases hm
    rename_i b tl hc hcs
    cases hm
    unfold byte? at hc
    split at hc
    case h_2 => cases hc
    rename_i n
    cases hc
    have hv1 := hv.1
    simp only [VRel] at hv1
    subst hv1
    rw [List.forIn_cons, hf]
    simp only [Sem.run_bind, Sem.run_pure, Result.andThen_ok]
    have := forIn_bytes hf cs vs tl (acc ++ [UInt8.ofNat n]) hv.2 hcs w
    have e : (bytesOf acc).push (UInt8.ofNat (Int.ofNat n).toNat) = bytesOf (acc ++ [UInt8.ofNat n]) := by
      apply ByteArray.ext; simp [bytesOf, ByteArray.push]
    rw [e, this]
    simp
theorem sim_conv (hT : T.Ok P) (hr : R p h w) {src dst : TypeId} {x : V} {x' : Value} (hx : VRel p x x') {v : V} (hd : dconv T h src dst x = some v) :
    ∃ v', (convert src dst x').run P w = .ok v' w ∧ VRel p v v' := by
  unfold dconv at hd
  split at hd
  case h_1 =>
    rename_i h1 h2
    simp only [VRel] at hx; subst hx; cases hd
    unfold convert
    simp only [Sem.run_bind, run_und hT h1, run_und hT h2, Result.andThen_ok]
    exact ⟨_, rfl, by simp [VRel]⟩
  case h_2 =>
    rename_i h1 h2
    simp only [VRel] at hx; subst hx; cases hd
    unfold convert
    simp only [Sem.run_bind, run_und hT h1, run_und hT h2, Result.andThen_ok]
    exact ⟨_, rfl, by simp [VRel]⟩
  case h_3 =>
    rename_i h1 h2
    simp only [VRel] at hx; subst hx
    split at hd
    case h_2 => cases hd
    rename_i h3
    cases hd
    unfold convert
    simp only [Sem.run_bind, run_und hT h1, run_und hT h2, run_und hT h3, Result.andThen_ok]
    exact ⟨_, rfl, by simp [VRel, bytesOf]; rfl⟩
  case h_4 =>
    rename_i h1 h2
    simp only [VRel] at hx
    split at hd
    case h_2 => cases hd
    rename_i h3
    split at hd
    case h_2 => cases hd
    rename_i cs hcs
    rw [Option.map_eq_some_iff] at hd
    obtain ⟨bs, hbs, rfl⟩ := hd
    obtain ⟨r, n, c, g1, rfl, g2⟩ := hx
    obtain ⟨r', m, vs, k1, k2, k3, _⟩ := run_loadCells (P := P) hr hcs
    rw [g1] at k1; cases k1
    refine ⟨.string (bytesOf bs), ?_, by simp [VRel]⟩
    unfold convert
    simp only [Sem.run_bind, run_und hT h1, run_und hT h2, run_und hT h3, Result.andThen_ok]
    unfold Conv.bytesToString
    simp only [Sem.run_bind, k2, Result.andThen_ok]
    simp only [List.forIn_toArray]
    have e : ByteArray.empty = bytesOf [] := rfl
    rw [e, forIn_bytes (P := P) (fun n s => rfl) cs vs bs [] k3 hbs w]
    simp
  case h_5 => cases hd
def dpart (T : Tab) (t : TypeId) (cs : List V) (off : Nat) : Option V :=
  match T.und t, T.inf t with
  | some d, some i => bif isAggD d then some (.agg ((cs.drop off).take i.size)) else cs[off]?
  | _, _ => none
theorem sim_part (hT : T.Ok P) {t : TypeId} {cs : List V} {c : Array Value} {off : Nat} (hc : VRels p cs c.toList) {v : V} (hd : dpart T t cs off = some v) :
    ∃ v', (part t c off).run P w = .ok v' w ∧ VRel p v v' := by
  unfold dpart at hd
  split at hd
  case h_2 => cases hd
  rename_i d i h1 h2
  unfold part
  simp only [Sem.run_bind, run_isAgg hT h1, Result.andThen_ok]
  cases hag : isAggD d with
  | true =>
    simp only [hag, cond_true, Option.some.injEq] at hd
    subst hd
    simp only [if_true, Sem.run_bind, run_size hT h2, Result.andThen_ok]
    refine ⟨_, Sem.run_pure .., ?_⟩
    simp only [VRel]
    refine ⟨_, rfl, ?_⟩
    have : (c.extract off (off + i.size)).toList = (c.toList.drop off).take i.size := by
      rw [Array.toList_extract]; simp [List.extract]
    rw [this]; exact (hc.drop off).take i.size
  | false =>
    simp only [hag, cond_false] at hd
    obtain ⟨u, h3, h4⟩ := hc.get hd
    have : c[off]? = some u := by simpa using h3
    simp only [Bool.false_eq_true, if_false, this]
    exact ⟨u, rfl, h4⟩
def dfield (T : Tab) (t : TypeId) (x : V) (f : Nat) : Option V :=
  match T.und t, x with
  | some (.struct fs), .agg cs => match fs[f]? with
    | some fd => dpart T fd.type cs fd.offset
    | none => none
  | _, _ => none
theorem sim_field (hT : T.Ok P) {t : TypeId} {x : V} {x' : Value} {f : Nat} (hx : VRel p x x') {v : V} (hd : dfield T t x f = some v) :
    ∃ v', (Instr.field t x' f).run P w = .ok v' w ∧ VRel p v v' := by
  unfold dfield at hd
  split at hd
  case h_2 => cases hd
  rename_i fs cs h1
  split at hd
  case h_2 => cases hd
  rename_i fd h2
  simp only [VRel] at hx
  obtain ⟨c, rfl, hc⟩ := hx
  unfold Instr.field
  simp only [Sem.run_bind, run_und hT h1, Result.andThen_ok, h2]
  unfold asAgg
  simp only [Sem.run_pure, Result.andThen_ok]
  exact sim_part hT hc hd
def dfaddr (T : Tab) (t : TypeId) (x : V) (f : Nat) : Option V :=
  match T.und t, x with
  | some (.struct fs), .ptr b off => match fs[f]? with
    | some fd => match T.inf fd.type with
      | some i => if i.size = 0 then none else some (.ptr b (off + fd.offset))
      | none => none
    | none => none
  | _, _ => none
theorem sim_faddr (hT : T.Ok P) {t : TypeId} {x : V} {x' : Value} {f : Nat} (hx : VRel p x x') {v : V} (hd : dfaddr T t x f = some v) :
    ∃ v', (Instr.fieldAt t x' f).run P w = .ok v' w ∧ VRel p v v' := by
  unfold dfaddr at hd
  split at hd
  case h_2 => cases hd
  rename_i fs b off h1
  split at hd
  case h_2 => cases hd
  rename_i fd h2
  split at hd
  case h_2 => cases hd
  rename_i i h3
  split at hd
  case isTrue => cases hd
  rename_i h4
  cases hd
  simp only [VRel] at hx
  obtain ⟨r, n, hp, rfl⟩ := hx
  unfold Instr.fieldAt
  simp only [Sem.run_bind, run_und hT h1, Result.andThen_ok, h2]
  unfold Instr.sureAddr fieldPlace
  simp only [Sem.run_pure, Result.andThen_ok, Sem.run_bind, run_size hT h3, h4, if_false, Addr.add_mk]
  exact ⟨_, rfl, by simp only [VRel]; exact ⟨_, _, hp, rfl⟩⟩
def diaddr (T : Tab) (t : TypeId) (x ix : V) : Option V :=
  match T.und t, x, ix with
  | some (.slice e), .sl b off len _ _, .int _ i =>
    match T.inf e, i with
    | some ti, .ofNat n => bif Nat.blt n len then some (.ptr b (off + n * ti.size)) else none
    | _, _ => none
  | some (.array len e), .ptr b off, .int _ i =>
    match T.inf e, i with
    | some ti, .ofNat n => bif Nat.blt n len then some (.ptr b (off + n * ti.size)) else none
    | _, _ => none
  | _, _, _ => none
theorem blt_t (a b : Nat) : Nat.blt a b = decide (a < b) := by
  rw [Bool.eq_iff_iff]; simp [Nat.blt_eq]
theorem sim_iaddr (hT : T.Ok P) {t : TypeId} {x ix : V} {x' ix' : Value} (hx : VRel p x x') (hix : VRel p ix ix') {v : V} (hd : diaddr T t x ix = some v) :
    ∃ v', (Instr.indexAt t x' ix').run P w = .ok v' w ∧ VRel p v v' := by
  unfold diaddr at hd
  split at hd
  case h_3 => cases hd
  case h_1 =>
    rename_i e b off len cap o k i h1
    split at hd
    case h_2 => cases hd
    rename_i ti n h2
    rw [blt_t] at hd
    by_cases hlt : n < len
    · simp only [hlt, decide_true, cond_true, Option.some.injEq] at hd
      subst hd
      simp only [VRel] at hx hix
      obtain ⟨r, m, c, hp, rfl, _⟩ := hx
      subst hix
      unfold Instr.indexAt asIntOf
      have hcond : (0 : Int) ≤ (n : Int) ∧ (n : Int) < (len : Int) := ⟨by simp, by simpa using hlt⟩
      simp only [Sem.run_bind, Sem.run_pure, run_und hT h1, Result.andThen_ok, hcond, and_self, if_true, run_size hT h2, Addr.add_mk, Int.ofNat_eq_natCast, Int.toNat_natCast]
      exact ⟨_, rfl, by simp only [VRel]; exact ⟨_, _, hp, rfl⟩⟩
    · simp [hlt] at hd
  case h_2 =>
    rename_i len e b off k i h1
    split at hd
    case h_2 => cases hd
    rename_i ti n h2
    rw [blt_t] at hd
    by_cases hlt : n < len
    · simp only [hlt, decide_true, cond_true, Option.some.injEq] at hd
      subst hd
      simp only [VRel] at hx hix
      obtain ⟨r, m, hp, rfl⟩ := hx
      subst hix
      unfold Instr.indexAt asIntOf Instr.sureAddr
      have hcond : (0 : Int) ≤ (n : Int) ∧ (n : Int) < (len : Int) := ⟨by simp, by simpa using hlt⟩
      simp only [Sem.run_bind, Sem.run_pure, run_und hT h1, Result.andThen_ok, hcond, and_self, if_true, run_size hT h2, Addr.add_mk, Int.ofNat_eq_natCast, Int.toNat_natCast]
      exact ⟨_, rfl, by simp only [VRel]; exact ⟨_, _, hp, rfl⟩⟩
    · simp [hlt] at hd
def dindex (T : Tab) (t : TypeId) (x ix : V) : Option V :=
  match T.und t, x, ix with
  | some .string, .str s, .int _ (.ofNat n) => match s[n]? with
    | some b => some (.int .u8 b.toNat)
    | none => none
  | some (.array len e), .agg cs, .int _ (.ofNat n) =>
    match T.inf e with
    | some ti => bif Nat.blt n len then dpart T e cs (n * ti.size) else none
    | _ => none
  | _, _, _ => none
theorem sim_index (hT : T.Ok P) {t : TypeId} {x ix : V} {x' ix' : Value} (hx : VRel p x x') (hix : VRel p ix ix') {v : V} (hd : dindex T t x ix = some v) :
    ∃ v', (Instr.index t x' ix').run P w = .ok v' w ∧ VRel p v v' := by
  unfold dindex at hd
  split at hd
  case h_3 => cases hd
  case h_1 =>
    rename_i s k n h1
    split at hd
    case h_2 => cases hd
    rename_i b hb
    cases hd
    simp only [VRel] at hx hix
    subst hx hix
    unfold Instr.index asIntOf
    have e : (bytesOf s)[n]? = some b := by
      have hn := (List.getElem?_eq_some_iff.1 hb).1
      have h2 := (List.getElem?_eq_some_iff.1 hb).2
      rw [getElem?_pos (bytesOf s) n (by rw [bytesOf_size]; exact hn)]
      congr 1
    simp only [Sem.run_bind, Sem.run_pure, run_und hT h1, Result.andThen_ok, Int.ofNat_eq_natCast, Int.natCast_nonneg, if_true, Int.toNat_natCast, e]
    exact ⟨_, rfl, by simp [VRel]⟩
  case h_2 =>
    rename_i len e cs k n h1
    split at hd
    case h_2 => cases hd
    rename_i ti h2
    rw [blt_t] at hd
    by_cases hlt : n < len
    · simp only [hlt, decide_true, cond_true] at hd
      simp only [VRel] at hx hix
      obtain ⟨c, rfl, hc⟩ := hx
      subst hix
      unfold Instr.index asIntOf
      have hcond : (0 : Int) ≤ (n : Int) ∧ (n : Int) < (len : Int) := ⟨by simp, by simpa using hlt⟩
      simp only [Sem.run_bind, Sem.run_pure, run_und hT h1, Result.andThen_ok, hcond, and_self, if_true, run_size hT h2, Int.ofNat_eq_natCast, Int.toNat_natCast]
      exact sim_part hT hc hd
    · simp [hlt] at hd
def dextract (x : V) (i : Nat) : Option V :=
  match x with
  | .tup vs => vs[i]?
  | _ => none
theorem sim_extract {x : V} {x' : Value} {i : Nat} (hx : VRel p x x') {v : V} (hd : dextract x i = some v) : ∃ v', (Instr.extract x' i).run P w = .ok v' w ∧ VRel p v v' := by
  unfold dextract at hd
  split at hd
  case h_2 => cases hd
  simp only [VRel] at hx
  obtain ⟨c, rfl, hc⟩ := hx
  obtain ⟨u, h1, h2⟩ := hc.get hd
  unfold Instr.extract
  have : c[i]? = some u := by simpa using h1
  simp only [this]
  exact ⟨u, rfl, h2⟩
end
end
end Go.Det
end
section
namespace Go.Det
noncomputable section
section
variable {T : Tab} {P : Program} {p : Pl} {h : H} {w : World}
/-- a bound that is a number from 0 to y -/
def bnd (x : Option V) (y dflt : Nat) : Option Nat :=
  match x with
  | none => some dflt
  | some (.int _ (.ofNat n)) => bif Nat.ble n y then some n else none
  | _ => none
def oof (mx : Option V) (o : Nat) : Nat := match mx with | some _ => 0 | none => o
def hib (hi mx : Option V) : Option Nat := match hi, mx with
  | none, some _ => none
  | _, _ => bnd hi 0 0
def isSm (mx : Option V) : Bool := match mx with
  | some _ => true
  | none => false
def dslice (T : Tab) (t : TypeId) (x : V) (lo hi mx : Option V) : Option V :=
  match T.und t, x with
  | some .string, .str s =>
    match mx, bnd hi s.length s.length with
    | none, some h => match bnd lo h 0 with
      | some l => some (.str ((s.drop l).take (h - l)))
      | none => none
    | _, _ => none
  | some (.slice e), .sl b off len cap o =>
    match T.inf e, bnd mx cap cap with
    | some ti, some m => match (match hi, mx with | none, some _ => none | _, _ => bnd hi m len) with
      | some h => match bnd lo h 0 with
        | some l =>
          let o' := oof mx o
          bif Nat.beq m l then (bif Nat.beq o' 0 then some (.sl b off (h - l) (m - l) 0) else some .esl)
          else bif Nat.beq o' 0 || Nat.beq o' ti.size then some (.sl b (off + l * ti.size) (h - l) (m - l) o') else none
        | none => none
      | none => none
    | _, _ => none
  | some (.slice e), .nils =>
    match bnd mx 0 0, hib hi mx, T.inf e with
    | some _, some h, some _ => match bnd lo h 0 with
      | some _ => some .nils
      | none => none
    | _, _, _ => none
  | some (.slice e), .esl =>
    match bnd mx 0 0, hib hi mx, T.inf e with
    | some _, some h, some _ => match bnd lo h 0 with
      | some _ => some (bif isSm mx then .es0 else .esl)
      | none => none
    | _, _, _ => none
  | some (.slice e), .es0 =>
    match bnd mx 0 0, hib hi mx, T.inf e with
    | some _, some h, some _ => match bnd lo h 0 with
      | some _ => some .es0
      | none => none
    | _, _, _ => none
  | some (.array n e), .ptr b off =>
    match T.inf e, mx, bnd hi n n with
    | some ti, none, some h => match bnd lo h 0 with
      | some l => bif Nat.beq n l then some (.sl b off (h - l) (n - l) 0) else some (.sl b (off + l * ti.size) (h - l) (n - l) 0)
      | none => none
    | _, _, _ => none
  | _, _ => none
def ORelV (p : Pl) : Option V → Option Value → Prop
  | none, x => x = none
  | some d, x => ∃ v, x = some v ∧ VRel p d v
theorem run_bnd {x : Option V} {x' : Option Value} {y z n y' : Nat} (hx : ORelV p x x') (hb : bnd x y z = some n) (hy : y ≤ y') :
    (x = none ∧ x' = none ∧ n = z) ∨ (∃ d u, x = some d ∧ x' = some u ∧ n ≤ y ∧ ∀ code (P : Program) (w : World), (Instr.sliceBound u y' code).run P w = .ok n w) := by
  cases x with
  | none => simp only [ORelV] at hx; subst hx; simp only [bnd, Option.some.injEq] at hb; exact .inl ⟨rfl, rfl, hb.symm⟩
  | some d =>
    simp only [ORelV] at hx
    obtain ⟨u, rfl, hu⟩ := hx
    refine .inr ⟨d, u, rfl, rfl, ?_⟩
    unfold bnd at hb
    split at hb
    case h_1 => rename_i e; cases e
    case h_3 => cases hb
    rename_i k m e
    cases e
    by_cases hle : m ≤ y
    · simp only [Nat.ble_eq_true_of_le hle, cond_true, Option.some.injEq] at hb
      subst hb
      simp only [VRel] at hu
      subst hu
      refine ⟨hle, fun code P w => ?_⟩
      unfold Instr.sliceBound asIntOf
      have hc : (0 : Int) ≤ (m : Int) ∧ (m : Int) ≤ (y' : Int) := ⟨by simp, by omega⟩
      simp only [Sem.run_bind, Sem.run_pure, Result.andThen_ok, Int.ofNat_eq_natCast, hc, and_self, if_true, Int.toNat_natCast]
    · have : Nat.ble m y = false := by rw [Bool.eq_false_iff]; simpa [Nat.ble_eq] using hle
      simp [this] at hb
theorem run_bounds0 {lo hi mx : Option V} {lo' hi' mx' : Option Value} (hlo : ORelV p lo lo') (hhi : ORelV p hi hi') (hmx : ORelV p mx mx') {m h l : Nat} (hm : bnd mx 0 0 = some m) (hh : hib hi mx = some h) (hl : bnd lo h 0 = some l) (c : Nat) :
    (Instr.sliceBounds true 0 c lo' hi' mx').run P w = .ok (0, 0, bif isSm mx then 0 else c) w := by
  unfold hib at hh
  have h0 : h = 0 := by
    have : bnd hi 0 0 = some h := by
      cases mx with
      | none => cases hi <;> simpa using hh
      | some d => cases hi with
        | none => simp at hh
        | some _ => simpa using hh
    rcases run_bnd hhi this (Nat.le_refl _) with ⟨_, _, rfl⟩ | ⟨_, _, _, _, h, _⟩ <;> omega
  subst h0
  have l0 : l = 0 := by rcases run_bnd hlo hl (Nat.le_refl _) with ⟨_, _, rfl⟩ | ⟨_, _, _, _, h, _⟩ <;> omega
  subst l0
  unfold Instr.sliceBounds
  cases mx with
  | none =>
    have hh' : bnd hi 0 0 = some 0 := by cases hi <;> simpa using hh
    simp only [ORelV] at hmx; subst hmx
    rcases run_bnd hhi hh' (Nat.zero_le c) with ⟨_, rfl, _⟩ | ⟨_, u, _, rfl, _, hu⟩ <;> rcases run_bnd hlo hl (Nat.le_refl _) with ⟨_, rfl, _⟩ | ⟨_, u2, _, rfl, _, hu2⟩
    all_goals simp only [isSm, cond_false, Option.isSome_none, Bool.false_eq_true, if_false, Sem.run_bind, Sem.run_pure, Result.andThen_ok, if_true, *]
  | some d =>
    cases hi with
    | none => simp at hh
    | some dh =>
      have hh' : bnd (some dh) 0 0 = some 0 := by simpa using hh
      rcases run_bnd hmx hm (Nat.zero_le c) with ⟨h, _, _⟩ | ⟨_, um, _, rfl, hm0, hum⟩
      · cases h
      · obtain rfl : m = 0 := by omega
        rcases run_bnd hhi hh' (Nat.le_refl _) with ⟨h, _, _⟩ | ⟨_, u, _, rfl, _, hu⟩
        · cases h
        · rcases run_bnd hlo hl (Nat.le_refl _) with ⟨_, rfl, _⟩ | ⟨_, u2, _, rfl, _, hu2⟩
          all_goals simp only [isSm, cond_true, Option.isSome_some, Sem.run_bind, Sem.run_pure, Result.andThen_ok, if_true, *]
theorem sim_slice (hT : T.Ok P) {t : TypeId} {x : V} {lo hi mx : Option V} {x' : Value} {lo' hi' mx' : Option Value} (hx : VRel p x x') (hlo : ORelV p lo lo') (hhi : ORelV p hi hi') (hmx : ORelV p mx mx')
    {v : V} (hd : dslice T t x lo hi mx = some v) : ∃ v', (Instr.sliceAt t x' lo' hi' mx').run P w = .ok v' w ∧ VRel p v v' := by
  unfold dslice at hd
  split at hd
  case h_7 => cases hd
  case h_1 =>
    rename_i s h1
    split at hd
    case h_2 => cases hd
    rename_i hh hhb
    split at hd
    case h_2 => cases hd
    rename_i l hl
    cases hd
    simp only [ORelV] at hmx; subst hmx
    simp only [VRel] at hx; subst hx
    refine ⟨.string (bytesOf ((s.drop l).take (hh - l))), ?_, by simp [VRel]⟩
    unfold Instr.sliceAt
    simp only [Sem.run_bind, run_und hT h1, Result.andThen_ok]
    unfold Instr.slice
    simp only [Sem.run_bind, run_und hT h1, Result.andThen_ok, Option.isSome_none, Bool.false_eq_true, if_false, bytesOf_size]
    unfold Instr.sliceBounds
    have e : (bytesOf s).extract l hh = bytesOf ((s.drop l).take (hh - l)) := by
      apply ByteArray.ext
      simp [bytesOf, List.extract]
    rcases run_bnd hhi hhb (Nat.le_refl _) with ⟨_, rfl, rfl⟩ | ⟨_, u, _, rfl, _, hu⟩ <;> rcases run_bnd hlo hl (Nat.le_refl _) with ⟨_, rfl, rfl⟩ | ⟨_, u2, _, rfl, _, hu2⟩
    all_goals simp only [Option.isSome_none, Bool.false_eq_true, if_false, Sem.run_bind, Sem.run_pure, Result.andThen_ok, *]
  case h_2 =>
    rename_i e b off len cap o h1
    split at hd
    case h_2 => cases hd
    rename_i ti m hti hm
    split at hd
    case h_2 => cases hd
    rename_i hh hhb
    split at hd
    case h_2 => cases hd
    rename_i l hl
    simp only [VRel] at hx
    obtain ⟨r, n, c, hp, rfl, hlen, hcap, ho1, ho2⟩ := hx
    obtain ⟨m', gm2, hhm, hlh, hbounds⟩ : ∃ m', ((mx = none ∧ m' = c ∧ m = cap) ∨ (mx ≠ none ∧ m' = m)) ∧ hh ≤ m ∧ l ≤ hh ∧ (Instr.sliceBounds true len c lo' hi' mx').run P w = .ok (l, hh, m') w := by
      have hlh : l ≤ hh := by
        rcases run_bnd hlo hl (Nat.le_refl _) with ⟨_, _, rfl⟩ | ⟨_, _, _, _, h, _⟩
        · exact Nat.zero_le _
        · exact h
      rcases run_bnd hmx hm hcap with ⟨rfl, rfl, rfl⟩ | ⟨dm, um, rfl, rfl, hm1, hum⟩
      · have hhb' : bnd hi m len = some hh := by cases hi <;> simpa using hhb
        refine ⟨c, .inl ⟨rfl, rfl, rfl⟩, ?_, hlh, ?_⟩
        · rcases run_bnd hhi hhb' hcap with ⟨_, _, rfl⟩ | ⟨_, _, _, _, h, _⟩
          · exact hlen
          · exact h
        · unfold Instr.sliceBounds
          rcases run_bnd hhi hhb' hcap with ⟨_, rfl, rfl⟩ | ⟨_, u, _, rfl, _, hu⟩ <;> rcases run_bnd hlo hl (Nat.le_refl _) with ⟨_, rfl, rfl⟩ | ⟨_, u2, _, rfl, _, hu2⟩
          all_goals simp only [Option.isSome_none, Bool.false_eq_true, if_false, Sem.run_bind, Sem.run_pure, Result.andThen_ok, if_true, *]
      · cases hi with
        | none => simp at hhb
        | some dh =>
          have hhb' : bnd (some dh) m len = some hh := by simpa using hhb
          refine ⟨m, .inr ⟨by simp, rfl⟩, ?_, hlh, ?_⟩
          · rcases run_bnd hhi hhb' (Nat.le_refl _) with ⟨h, _⟩ | ⟨_, _, _, _, h, _⟩
            · cases h
            · exact h
          · unfold Instr.sliceBounds
            rcases run_bnd hhi hhb' (Nat.le_refl _) with ⟨h, _, _⟩ | ⟨_, u, _, rfl, _, hu⟩
            · cases h
            · rcases run_bnd hlo hl (Nat.le_refl _) with ⟨_, rfl, rfl⟩ | ⟨_, u2, _, rfl, _, hu2⟩
              all_goals simp only [Option.isSome_some, Sem.run_bind, Sem.run_pure, Result.andThen_ok, if_true, *]
    have gm1 : m ≤ m' := by rcases gm2 with ⟨_, h1, h2⟩ | ⟨_, h1⟩ <;> omega
    have hrun : (Instr.sliceAt t (.slice (some ⟨r, off, none⟩) len c) lo' hi' mx').run P w = .ok (.slice (if m' = l then some ⟨r, off, none⟩ else some ⟨r, off + l * ti.size, none⟩) (hh - l) (m' - l)) w := by
      unfold Instr.sliceAt
      simp only [Sem.run_bind, run_und hT h1, Result.andThen_ok]
      unfold Instr.slice
      simp only [Sem.run_bind, run_und hT h1, Result.andThen_ok, hbounds, run_size hT hti, Sem.run_pure]
      congr 2
      split <;> simp
    refine ⟨_, hrun, ?_⟩
    simp only [beq_t] at hd
    by_cases hml : m = l
    · simp only [hml, decide_true, cond_true] at hd
      by_cases ho : oof mx o = 0
      · simp only [ho, decide_true, cond_true, Option.some.injEq] at hd
        subst hd
        have hm' : m' = l := by
          rcases gm2 with ⟨k1, k2, k3⟩ | ⟨k1, k2⟩
          · subst k1; simp only [oof] at ho; have := ho1 ho; omega
          · omega
        simp only [hm', if_true, VRel]
        exact ⟨r, n, _, hp, rfl, by omega, by omega, fun _ => by omega, by simp⟩
      · simp only [ho, decide_false, cond_false, Option.some.injEq] at hd
        subst hd
        have hz : hh - l = 0 := by omega
        simp only [hz, VRel]
        by_cases hm2 : m' = l
        · exact ⟨_, _, by rw [if_pos hm2]⟩
        · exact ⟨_, _, by rw [if_neg hm2]⟩
    · simp only [hml, decide_false, cond_false] at hd
      by_cases ho : oof mx o = 0 ∨ oof mx o = ti.size
      · have hcond : (decide (oof mx o = 0) || decide (oof mx o = ti.size)) = true := by simpa using ho
        simp only [hcond, cond_true, Option.some.injEq] at hd
        subst hd
        have hne : m' ≠ l := by omega
        simp only [hne, if_false, VRel]
        refine ⟨r, n, _, hp, rfl, by omega, by omega, fun k => ?_, fun k => ?_⟩
        · rcases gm2 with ⟨k1, k2, k3⟩ | ⟨k1, k2⟩
          · subst k1; simp only [oof] at k; have := ho1 k; omega
          · omega
        · rcases gm2 with ⟨k1, k2, k3⟩ | ⟨k1, k2⟩
          · subst k1
            simp only [oof] at k ho ⊢
            rcases ho with ho | ho
            · exact absurd ho k
            · have := ho2 k
              subst k2
              rw [← ho]
              have e : off + l * o + (m' - l) * o = off + m' * o := by
                rw [Nat.sub_mul]; have : l * o ≤ m' * o := Nat.mul_le_mul_right _ (by omega); omega
              omega
          · cases mx with
            | none => exact absurd rfl k1
            | some d => simp [oof] at k
      · have hcond : (decide (oof mx o = 0) || decide (oof mx o = ti.size)) = false := by
          simpa using ho
        simp [hcond] at hd
  case h_3 =>
    rename_i e h1
    split at hd
    case h_2 => cases hd
    rename_i mm hh tz hmb hhb hz
    split at hd
    case h_2 => cases hd
    rename_i l hl
    cases hd
    simp only [VRel] at hx; subst hx
    refine ⟨.slice none 0 0, ?_, by simp [VRel]⟩
    unfold Instr.sliceAt
    simp only [Sem.run_bind, run_und hT h1, Result.andThen_ok]
    unfold Instr.slice
    simp only [Sem.run_bind, run_und hT h1, Result.andThen_ok, run_bounds0 (P := P) (w := w) hlo hhi hmx hmb hhb hl 0]
    cases mx <;> simp [isSm, run_size hT hz]
  case h_4 =>
    rename_i e h1
    split at hd
    case h_2 => cases hd
    rename_i mm hh tz hmb hhb hz
    split at hd
    case h_2 => cases hd
    rename_i l hl
    simp only [VRel] at hx
    obtain ⟨a, c, rfl⟩ := hx
    have hrun : ∃ a', (Instr.sliceAt t (.slice (some a) 0 c) lo' hi' mx').run P w = .ok (.slice (some a') 0 (bif isSm mx then 0 else c)) w := by
      unfold Instr.sliceAt
      simp only [Sem.run_bind, run_und hT h1, Result.andThen_ok]
      unfold Instr.slice
      simp only [Sem.run_bind, run_und hT h1, Result.andThen_ok, run_bounds0 (P := P) (w := w) hlo hhi hmx hmb hhb hl c]
      simp only [run_size hT hz, Result.andThen_ok, Sem.run_pure, Nat.sub_zero, Nat.sub_self]
      split
      · exact ⟨_, rfl⟩
      · exact ⟨_, rfl⟩
    obtain ⟨a', ha'⟩ := hrun
    refine ⟨_, ha', ?_⟩
    cases hd
    cases mx with
    | none => simp only [isSm, cond_false, VRel]; exact ⟨_, _, rfl⟩
    | some d => simp only [isSm, cond_true, VRel]; exact ⟨_, rfl⟩
  case h_5 =>
    rename_i e h1
    split at hd
    case h_2 => cases hd
    rename_i mm hh tz hmb hhb hz
    split at hd
    case h_2 => cases hd
    rename_i l hl
    cases hd
    simp only [VRel] at hx
    obtain ⟨a, rfl⟩ := hx
    refine ⟨.slice (some a) 0 0, ?_, by simp only [VRel]; exact ⟨_, rfl⟩⟩
    unfold Instr.sliceAt
    simp only [Sem.run_bind, run_und hT h1, Result.andThen_ok]
    unfold Instr.slice
    simp only [Sem.run_bind, run_und hT h1, Result.andThen_ok, run_bounds0 (P := P) (w := w) hlo hhi hmx hmb hhb hl 0]
    cases mx <;> simp [isSm, run_size hT hz]
  case h_6 =>
    rename_i nn e b off h1
    split at hd
    case h_2 => cases hd
    rename_i ti hh hti hhb
    split at hd
    case h_2 => cases hd
    rename_i l hl
    simp only [ORelV] at hmx; subst hmx
    simp only [VRel] at hx
    obtain ⟨r, n, hp, rfl⟩ := hx
    have hlh : l ≤ hh := by rcases run_bnd hlo hl (Nat.le_refl _) with ⟨_, _, rfl⟩ | ⟨_, _, _, _, h, _⟩ <;> omega
    have hhn : hh ≤ nn := by rcases run_bnd hhi hhb (Nat.le_refl _) with ⟨_, _, rfl⟩ | ⟨_, _, _, _, h, _⟩ <;> omega
    have hrun : (Instr.sliceAt t (.pointer (some ⟨r, off, none⟩)) lo' hi' none).run P w = .ok (.slice (some (if nn = l then ⟨r, off, none⟩ else ⟨r, off + l * ti.size, none⟩)) (hh - l) (nn - l)) w := by
      unfold Instr.sliceAt
      simp only [Sem.run_bind, run_und hT h1, Result.andThen_ok]
      unfold Instr.sureAddr Instr.sliceBounds
      rcases run_bnd hhi hhb (Nat.le_refl _) with ⟨_, rfl, rfl⟩ | ⟨_, u, _, rfl, _, hu⟩ <;> rcases run_bnd hlo hl (Nat.le_refl _) with ⟨_, rfl, rfl⟩ | ⟨_, u2, _, rfl, _, hu2⟩
      all_goals simp only [Option.isSome_none, Bool.false_eq_true, if_false, Sem.run_bind, Sem.run_pure, Result.andThen_ok, run_size hT hti, Addr.add_mk, *]
    refine ⟨_, hrun, ?_⟩
    simp only [beq_t] at hd
    by_cases hml : nn = l
    · simp only [hml, decide_true, cond_true, Option.some.injEq] at hd
      subst hd
      simp only [hml, if_true, VRel]
      exact ⟨r, n, _, hp, rfl, by omega, by omega, fun _ => by omega, by simp⟩
    · simp only [hml, decide_false, cond_false, Option.some.injEq] at hd
      subst hd
      simp only [hml, if_false, VRel]
      exact ⟨r, n, _, hp, rfl, by omega, by omega, fun _ => by omega, by simp⟩
end
end
end Go.Det
end
section
namespace Go.Det
noncomputable section
section
variable {T : Tab} {P : Program} {p : Pl} {h : H} {w : World}
def i64 (n : Nat) : V := .int .i64 (.ofNat n)
def dlen (T : Tab) (h : H) (ts : Array TypeId) (args : List V) : Option V :=
  match ts[0]?, args with
  | some t, [x] =>
    match T.und t, x with
    | some .string, .str s => some (i64 s.length)
    | some (.array n _), _ => some (i64 n)
    | some (.slice _), .sl _ _ len _ _ => some (i64 len)
    | some (.slice _), .nils => some (i64 0)
    | some (.slice _), .esl => some (i64 0)
    | some (.slice _), .es0 => some (i64 0)
    | some (.map _ _), .nilm => some (i64 0)
    | some (.map _ _), .map b => match h.get b with
      | some (.map es _) => some (i64 es.length)
      | _ => none
    | _, _ => none
  | _, _ => none
theorem VRels.one {ds : V} {l : List Value} (hl : VRels p [ds] l) : ∃ v, l = [v] ∧ VRel p ds v := by
  match l, hl with
  | [v], h => exact ⟨v, rfl, by simpa using h⟩
  | [], h => simp at h
  | _ :: _ :: _, h => simp at h
theorem VRels.two {d e : V} {l : List Value} (hl : VRels p [d, e] l) : ∃ v u, l = [v, u] ∧ VRel p d v ∧ VRel p e u := by
  match l, hl with
  | [v, u], h => exact ⟨v, u, rfl, by simpa using h⟩
  | [], h => simp at h
  | [_], h => simp at h
  | _ :: _ :: _ :: _, h => simp at h
theorem ERel.length {es : List (V × V × Nat)} {l : List MapEntry} (h : ERel p es l) : es.length = l.length := by
  induction h with
  | nil => rfl
  | cons _ _ _ _ ih => simp [ih]
theorem sim_len (hT : T.Ok P) (hr : R p h w) {ts : Array TypeId} {t : TypeId} {args : List V} {args' : Array Value} (ha : VRels p args args'.toList) {v : V} (hd : dlen T h ts args = some v) :
    ∃ v', (Builtin.len_ ts t args').run P w = .ok v' w ∧ VRel p v v' := by
  unfold dlen at hd
  split at hd
  case h_2 => cases hd
  rename_i t0 x ht
  obtain ⟨x', hx', hx⟩ := ha.one
  have ha0 : args'[0]? = some x' := by rw [← Array.getElem?_toList, hx']; rfl
  unfold Builtin.len_
  simp only [ht, ha0]
  split at hd
  case h_9 => cases hd
  all_goals (rename_i hu; simp only [Sem.run_bind, run_und hT hu, Result.andThen_ok]; try simp only [VRel] at hx)
  case h_1 => subst hx; cases hd; exact ⟨_, Sem.run_pure .., by simp [i64, VRel, goInt, bytesOf_size]⟩
  case h_2 => cases hd; exact ⟨_, Sem.run_pure .., by simp [i64, VRel, goInt]⟩
  case h_3 => obtain ⟨_, _, _, _, rfl, _⟩ := hx; cases hd; exact ⟨_, Sem.run_pure .., by simp [i64, VRel, goInt]⟩
  case h_4 => subst hx; cases hd; exact ⟨_, Sem.run_pure .., by simp [i64, VRel, goInt]⟩
  case h_5 => obtain ⟨_, _, rfl⟩ := hx; cases hd; exact ⟨_, Sem.run_pure .., by simp [i64, VRel, goInt]⟩
  case h_6 => obtain ⟨_, rfl⟩ := hx; cases hd; exact ⟨_, Sem.run_pure .., by simp [i64, VRel, goInt]⟩
  case h_7 => subst hx; cases hd; exact ⟨_, Sem.run_pure .., by simp [i64, VRel, goInt]⟩
  case h_8 =>
    obtain ⟨r, n, hp, rfl⟩ := hx
    split at hd
    case h_2 => cases hd
    rename_i es cl hb
    cases hd
    obtain ⟨r', n', o, h1, h2, l, h3, h4⟩ := hr.obj _ _ hb
    rw [hp] at h1; cases h1; subst h3
    refine ⟨goInt l.size, ?_, ?_⟩
    · simp [getObj, Sem.run, h2]
    · have := h4.length
      simp only [i64, VRel, goInt]
      congr 1
      simp at this
      exact congrArg Int.ofNat this.symm
def dmax (a b : V) : Option V :=
  match a, b with
  | .int k x, .int _ y => some (.int k (if y > x then y else x))
  | _, _ => none
def dmin (a b : V) : Option V :=
  match a, b with
  | .int k x, .int _ y => some (.int k (if y < x then y else x))
  | _, _ => none
def dfold (f : V → V → Option V) : V → List V → Option V
  | x, [] => some x
  | x, y :: ys => match f x y with
    | some z => dfold f z ys
    | none => none
theorem sim_fold {f : V → V → Option V} {g : Value → Value → Sem Value} (hfg : ∀ {a b c : V} {a' b' : Value}, VRel p a a' → VRel p b b' → f a b = some c → ∃ c', (g a' b').run P w = .ok c' w ∧ VRel p c c') :
    ∀ (ys : List V) (ys' : List Value) (x : V) (x' : Value), VRel p x x' → VRels p ys ys' → ∀ {v : V}, dfold f x ys = some v → ∃ v', (ys'.foldlM g x').run P w = .ok v' w ∧ VRel p v v'
  | [], ys', x, x', hx, hys, v, hd => by
    simp at hys; subst hys; cases hd; exact ⟨x', by simp, hx⟩
  | y :: ys, [], _, _, _, hys, _, _ => by simp at hys
  | y :: ys, y' :: ys', x, x', hx, hys, v, hd => by
    simp only [VRels_cons] at hys
    unfold dfold at hd
    split at hd
    case h_2 => cases hd
    rename_i z hz
    obtain ⟨z', h1, h2⟩ := hfg hx hys.1 hz
    obtain ⟨v', h3, h4⟩ := sim_fold hfg ys ys' z z' h2 hys.2 hd
    exact ⟨v', by rw [List.foldlM_cons, Sem.run_bind, h1]; exact h3, h4⟩
def dminmax (f : V → V → Option V) (args : List V) : Option V :=
  match args with
  | [] => none
  | x :: ys => dfold f x ys
theorem sim_max {ts : Array TypeId} {t : TypeId} {args : List V} {args' : Array Value} (ha : VRels p args args'.toList) {v : V} (hd : dminmax dmax args = some v) :
    ∃ v', (Builtin.max_ ts t args').run P w = .ok v' w ∧ VRel p v v' := by
  unfold dminmax at hd
  split at hd
  case h_1 => cases hd
  rename_i x ys
  unfold Builtin.max_
  cases hl : args'.toList with
  | nil => rw [hl] at ha; simp at ha
  | cons x' ys' =>
    rw [hl] at ha; simp only [VRels_cons] at ha
    refine sim_fold (fun {a b c a' b'} h1 h2 h3 => ?_) ys ys' x x' ha.1 ha.2 hd
    unfold dmax at h3
    split at h3
    case h_2 => cases h3
    simp only [VRel] at h1 h2; subst h1 h2; cases h3
    exact ⟨_, rfl, by simp [VRel]⟩
theorem sim_min {ts : Array TypeId} {t : TypeId} {args : List V} {args' : Array Value} (ha : VRels p args args'.toList) {v : V} (hd : dminmax dmin args = some v) :
    ∃ v', (Builtin.min_ ts t args').run P w = .ok v' w ∧ VRel p v v' := by
  unfold dminmax at hd
  split at hd
  case h_1 => cases hd
  rename_i x ys
  unfold Builtin.min_
  cases hl : args'.toList with
  | nil => rw [hl] at ha; simp at ha
  | cons x' ys' =>
    rw [hl] at ha; simp only [VRels_cons] at ha
    refine sim_fold (fun {a b c a' b'} h1 h2 h3 => ?_) ys ys' x x' ha.1 ha.2 hd
    unfold dmin at h3
    split at h3
    case h_2 => cases h3
    simp only [VRel] at h1 h2; subst h1 h2; cases h3
    exact ⟨_, rfl, by simp [VRel]⟩
def dfill (place : Nat → Option (Nat × Nat)) (cells : List V) : List (Nat × V) → Option (List V)
  | [] => some cells
  | (i, v) :: rest =>
    match place i with
    | none => none
    | some (off, size) => bif Nat.beq v.cells.length size && Nat.ble (off + size) cells.length then dfill place (lset cells off v.cells) rest else none
theorem lset_rel : ∀ (xs : List V) (vs : List Value) (cs : List V) (c : Array Value) (off : Nat), VRels p xs vs → VRels p cs c.toList →
    ∀ k, VRels p (lset cs (off + k) xs) ((vs.zipIdx k).foldl (fun cs (c, j) => cs.setIfInBounds (off + j) c) c).toList
  | [], vs, cs, c, off, hx, hc, k => by simp at hx; subst hx; simpa [lset] using hc
  | x :: xs, [], _, _, _, hx, _, _ => by simp at hx
  | x :: xs, v :: vs, cs, c, off, hx, hc, k => by
    simp only [VRels_cons] at hx
    simp only [lset, List.zipIdx_cons, List.foldl_cons]
    have := lset_rel xs vs (cs.set (off + k) x) (c.setIfInBounds (off + k) v) off hx.2 (by simpa using hc.set (off + k) hx.1) (k + 1)
    rwa [show off + k + 1 = off + (k + 1) from by omega]
inductive PRel (p : Pl) : List (Nat × V) → List (Nat × Value) → Prop
  | nil : PRel p [] []
  | cons {i : Nat} {v : V} {v' : Value} {l : List (Nat × V)} {l' : List (Nat × Value)} : VRel p v v' → PRel p l l' → PRel p ((i, v) :: l) ((i, v') :: l')
theorem sim_fill {place : Nat → Option (Nat × Nat)} : ∀ {l : List (Nat × V)} {l' : List (Nat × Value)}, PRel p l l' → ∀ {cs : List V} {c : Array Value} {out : List V}, VRels p cs c.toList → dfill place cs l = some out →
    ∃ o, Instr.fill place c l' = some o ∧ VRels p out o.toList := by
  intro l l' hl
  induction hl with
  | nil => intro cs c out hc hd; cases hd; exact ⟨c, rfl, hc⟩
  | @cons i v v' l l' hv hl ih =>
    intro cs c out hc hd
    unfold dfill at hd
    split at hd
    case h_1 => cases hd
    rename_i off size hpl
    cases hcond : (Nat.beq v.cells.length size && Nat.ble (off + size) cs.length) with
    | false => simp [hcond] at hd
    | true =>
      simp only [hcond, cond_true] at hd
      simp only [Bool.and_eq_true, Nat.ble_eq, beq_t, decide_eq_true_eq] at hcond
      have hvl := hv.cells.length
      have hcl := hc.length
      have hsz : v'.cells.size = size := by simp at hvl; omega
      unfold Instr.fill
      simp only [hpl]
      rw [if_neg (by simp at hcl; simp [hsz]; omega)]
      refine ih ?_ hd
      have := lset_rel (p := p) v.cells v'.cells.toList cs c off hv.cells hc 0
      simp only [Nat.add_zero] at this
      rw [← Array.foldl_toList, Array.toList_zipIdx]
      exact this
def dbuild (T : Tab) (t : TypeId) (parts : List (Nat × V)) : Option V :=
  match T.inf t, T.und t with
  | some i, some (.struct fs) =>
    match fs.toList.mapM (fun f => (T.inf f.type).map fun j => (f.offset, j.size)) with
    | some pl => (dfill (fun i => pl[i]?) i.zero parts).map .agg
    | none => none
  | some i, some (.array _ e) => match T.inf e with
    | some j => (dfill (fun i => some (i * j.size, j.size)) i.zero parts).map .agg
    | none => none
  | _, _ => none
theorem run_places (hT : T.Ok P) : ∀ {fs : List Field} {pl : List (Nat × Nat)}, fs.mapM (fun f => (T.inf f.type).map fun j => (f.offset, j.size)) = some pl →
    ∀ w, (fs.mapM (fun f => (do pure (f.offset, ← sizeOf f.type) : Sem (Nat × Nat)))).run P w = .ok pl w
  | [], pl, h, w => by simp at h; subst h; simp
  | f :: fs, pl, h, w => by
    rw [List.mapM_cons] at h
    cases hf : T.inf f.type with
    | none => simp [hf] at h
    | some j =>
      cases hm : fs.mapM (fun f => (T.inf f.type).map fun j => (f.offset, j.size)) with
      | none => simp [hf, hm] at h
      | some pl' =>
        simp [hf, hm] at h
        subst h
        rw [List.mapM_cons]
        simp only [Sem.run_bind, run_size hT hf, Result.andThen_ok, Sem.run_pure, run_places hT hm]
theorem sim_build (hT : T.Ok P) {t : TypeId} {parts : List (Nat × V)} {parts' : Array (Nat × Value)} (hp : PRel p parts parts'.toList) {v : V} (hd : dbuild T t parts = some v) :
    ∃ v', (Instr.build t parts').run P w = .ok v' w ∧ VRel p v v' := by
  unfold dbuild at hd
  split at hd
  case h_3 => cases hd
  case h_1 =>
    rename_i i fs hi hu
    split at hd
    case h_2 => cases hd
    rename_i pl hpl
    rw [Option.map_eq_some_iff] at hd
    obtain ⟨out, ho, rfl⟩ := hd
    obtain ⟨z, hz, hzr⟩ := run_zero hT hi
    have hpl' : (fs.mapM (fun f => (do pure (f.offset, ← sizeOf f.type) : Sem (Nat × Nat)))).run P w = .ok pl.toArray w := by
      rw [Array.mapM_eq_mapM_toList]
      simp only [Sem.run_map, run_places hT hpl, Result.andThen_ok]
    obtain ⟨o, h1, h2⟩ := sim_fill (p := p) (place := fun i => pl.toArray[i]?) hp (hzr p) (out := out) (by simpa using ho)
    refine ⟨.agg o, ?_, by simp only [VRel]; exact ⟨_, rfl, h2⟩⟩
    unfold Instr.build
    simp only [Sem.run_bind, hz, Result.andThen_ok, run_und hT hu]
    rw [hpl']
    simp only [Result.andThen_ok, h1, Sem.run_pure]
  case h_2 =>
    rename_i i n e hi hu
    split at hd
    case h_2 => cases hd
    rename_i j hj
    rw [Option.map_eq_some_iff] at hd
    obtain ⟨out, ho, rfl⟩ := hd
    obtain ⟨z, hz, hzr⟩ := run_zero hT hi
    obtain ⟨o, h1, h2⟩ := sim_fill (p := p) (place := fun i => some (i * j.size, j.size)) hp (hzr p) ho
    refine ⟨.agg o, ?_, by simp only [VRel]; exact ⟨_, rfl, h2⟩⟩
    unfold Instr.build
    simp only [Sem.run_bind, hz, Result.andThen_ok, run_und hT hu, run_size hT hj, h1, Sem.run_pure]
/-- n cells of zeros -/
def zeros (z : List V) (n : Nat) : List V := (List.range n).map fun i => z.getD (i % z.length) (.tup [])
theorem zeros_rel {z : List V} {c : Array Value} (hz : VRels p z c.toList) (hpos : 0 < z.length) (n : Nat) : VRels p (zeros z n) ((Array.range n).map (fun i => c[i % c.size]!)).toList := by
  have hl := hz.length
  simp at hl
  apply VRels.mk (by simp [zeros])
  intro i d v hd hv
  have hi : i < n := by have := (List.getElem?_eq_some_iff.1 hd).1; simpa [zeros] using this
  simp only [zeros, List.getElem?_map, List.getElem?_range hi, Option.map_some, Option.some.injEq] at hd
  simp only [Array.toList_map, Array.toList_range, List.getElem?_map, List.getElem?_range hi, Option.map_some, Option.some.injEq] at hv
  have hm : i % z.length < z.length := Nat.mod_lt _ hpos
  obtain ⟨u, h1, h2⟩ := hz.get (i := i % z.length) (d := z[i % z.length]) (by simp [hm])
  subst hd hv
  simp only [List.getD, hm, List.getElem?_eq_getElem, Option.getD_some]
  rw [hl] at h1
  have hm' : i % c.size < c.size := Nat.mod_lt _ (by omega)
  simp [hm'] at h1
  rw [getElem!_pos c (i % c.size) hm', h1]
  exact h2
def dbslice (T : Tab) (h : H) (t : TypeId) (len : Nat) (parts : List (Nat × V)) : Option (V × H) :=
  match T.und t with
  | some (.slice e) => match T.inf e with
    | some i =>
      bif Nat.ble (len * i.size) 16777216 && Nat.blt 0 (i.zero.length) && Nat.beq i.zero.length i.size then
        match dfill (fun k => some (k * i.size, i.size)) (zeros i.zero (len * i.size)) parts with
        | some cs => some (.sl h.nx 0 len len 0, dnew h e cs)
        | none => none
      else none
    | none => none
  | _ => none
theorem sim_bslice (hT : T.Ok P) (hr : R p h w) {t : TypeId} {len : Nat} {parts : List (Nat × V)} {parts' : Array (Nat × Value)} (hp : PRel p parts parts'.toList) {v : V} {h' : H}
    (hd : dbslice T h t len parts = some (v, h')) : ∃ v' p' w', (Instr.buildSlice t len parts').run P w = .ok v' w' ∧ VRel p' v v' ∧ Ext p h w p' h' w' := by
  unfold dbslice at hd
  split at hd
  case h_2 => cases hd
  rename_i e hu
  split at hd
  case h_2 => cases hd
  rename_i i hi
  cases hcond : (Nat.ble (len * i.size) 16777216 && Nat.blt 0 (i.zero.length) && Nat.beq i.zero.length i.size) with
  | false => simp [hcond] at hd
  | true =>
    simp only [hcond, cond_true] at hd
    simp only [Bool.and_eq_true, Nat.ble_eq, Nat.blt_eq, beq_t, decide_eq_true_eq] at hcond
    obtain ⟨⟨c1, c2⟩, c3⟩ := hcond
    split at hd
    case h_2 => cases hd
    rename_i cs hcs
    cases hd
    obtain ⟨z, hz, hzr⟩ := run_zero hT hi
    have hzl := (hzr p).length
    simp at hzl
    obtain ⟨o, h1, h2⟩ := sim_fill (p := p) (place := fun k => some (k * i.size, i.size)) hp (zeros_rel (hzr p) c2 (len * i.size)) hcs
    obtain ⟨n, he, hpn, hn⟩ := sim_new hr e h2
    refine ⟨.slice (some ⟨w.heap.size, 0, none⟩) len len, _, _, ?_, ?_, he⟩
    · unfold Instr.buildSlice
      simp only [Sem.run_bind, run_und hT hu, Result.andThen_ok, run_size hT hi]
      rw [if_neg (by omega)]
      by_cases h0 : len * i.size = 0
      · rw [if_pos h0]
        simp only [Sem.run_bind, Sem.run_pure, Result.andThen_ok]
        have e1 : (Array.map (fun x => (#[] : Array Value)[x % (#[] : Array Value).size]!) (Array.range (len * i.size))) = Array.map (fun i_1 => z.cells[i_1 % z.cells.size]!) (Array.range (len * i.size)) := by simp [h0]
        rw [e1, h1]
        simp only [Sem.run_bind, run_newRow, Result.andThen_ok, Sem.run_pure]
      · simp only [h0, if_false, Sem.run_bind, hz, Result.andThen_ok, Sem.run_pure, h1, run_newRow]
    · simp only [VRel]
      exact ⟨_, n, len, hpn, rfl, Nat.le_refl _, Nat.le_refl _, fun _ => rfl, by simp⟩
end
end
end Go.Det
end
