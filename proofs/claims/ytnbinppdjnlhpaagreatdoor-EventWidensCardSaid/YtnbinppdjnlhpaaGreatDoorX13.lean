import Derived.Test.YtnbinppdjnlhpaaGreatDoorX12
/- A part of the proofs of the laws of one chapter (no law is stated here). Made by program out of texts by AI agents. -/
section
namespace Go.Pe
open Go.Det
section
variable {B : Nat} {h0 : H0} {F : Fz} {ρ : Rho} {N : Nat} {C : Ctx} {st st' : PSt} {fr : Fr} {h : H}
def setR (ρ : Rho) (i : Nat) (x : Option (Nat × Nat)) : Rho := fun j => if j = i then x else ρ j
theorem Le.setNone (i : Nat) : Le F ρ N F (setR ρ i none) N := ⟨fun _ _ h => h, fun id _ => by unfold setR; split <;> simp_all, Nat.le_refl _⟩
theorem Le.new (x : Nat × Nat) : Le F ρ N F (setR ρ N (some x)) (N + 1) := ⟨fun _ _ h => h, fun id h => by unfold setR; rw [if_neg (by omega)]; exact .inl rfl, Nat.le_succ _⟩
/-- a new object in a new block -/
theorem SR.push {ob : Ob} (hr : SR B h0 F ρ N ob h) {o : Obj} {x : O} {n : Nat} (hf : o.frozen = false) (hx : ObR F (setR ρ N (some (h.nx, n))) (N + 1) n o x) :
    SR B h0 F (setR ρ N (some (h.nx, n))) (N + 1) ((N, o) :: ob) (h.push x) := by
  have hl : Le F ρ N F (setR ρ N (some (h.nx, n))) (N + 1) := Le.new _
  have hget : ∀ j, obGet ((N, o) :: ob) j = if j = N then some o else obGet ob j := by
    intro j
    simp only [obGet, beq_t]
    by_cases e : N = j
    · subst e; simp
    · rw [if_neg (fun h => e h.symm)]; simp [e]
  have hlt : ∀ id b m, ρ id = some (b, m) → id < N := fun id b m hb => (hr.own id b m hb).1
  have hnew : ∀ b y, h.get b = some y → b ≠ h.nx := fun b y hb => by have := hr.lt b y hb; omega
  refine ⟨fun j oj hj => ?_, fun i j oi oj c m m' hi hj h1 h2 => ?_, fun c cs hc => ?_, fun id b m hb => ?_, fun j hj => ?_, fun c hc => ?_, fun c oc hc => ?_, ?_, ?_, fun c hc => ?_⟩
  · rw [hget] at hj
    by_cases e : j = N
    · subst e
      simp only [if_true, Option.some.injEq] at hj; subst hj
      refine ⟨h.nx, n, x, by simp [setR], by simp, hx, fun _ => ?_, fun e => by rw [hf] at e; cases e⟩
      cases hc : F h.nx with
      | none => rfl
      | some cs =>
        obtain ⟨t, fz, hg⟩ := hr.frz _ _ hc
        exact absurd rfl (hnew _ _ hg)
    · rw [if_neg e] at hj
      obtain ⟨c, m, y, h1, h2, h3, h4, h5⟩ := hr.obj j oj hj
      exact ⟨c, m, y, by simp [setR, e, h1], by rw [H.get_push, if_neg (hnew c y h2)]; exact h2, h3.mono hl, h4, h5⟩
  · rw [hget] at hi hj
    have key : ∀ k ok m, (if k = N then some o else obGet ob k) = some ok → setR ρ N (some (h.nx, n)) k = some (c, m) → (k = N ∧ c = h.nx) ∨ (k ≠ N ∧ obGet ob k = some ok ∧ ρ k = some (c, m) ∧ c ≠ h.nx) := by
      intro k ok m hk hr'
      by_cases e : k = N
      · subst e; simp [setR] at hr'; exact .inl ⟨rfl, hr'.1.symm⟩
      · rw [if_neg e] at hk
        simp only [setR, e, if_false] at hr'
        obtain ⟨c', m', y, g1, g2, _⟩ := hr.obj k ok hk
        rw [hr'] at g1; cases g1
        exact .inr ⟨e, hk, hr', hnew c y g2⟩
    rcases key i oi m hi h1 with ⟨e1, e2⟩ | ⟨e1, e2, e3, e4⟩ <;> rcases key j oj m' hj h2 with ⟨f1, f2⟩ | ⟨f1, f2, f3, f4⟩
    · rw [e1, f1]
    · exact absurd e2 f4
    · exact absurd f2 e4
    · exact hr.inj i j oi oj c m m' e2 f2 e3 f3
  · obtain ⟨t, fz, hg⟩ := hr.frz c cs hc
    exact ⟨t, fz, by rw [H.get_push, if_neg (hnew c _ hg)]; exact hg⟩
  · unfold setR at hb
    split at hb
    · rename_i e; cases hb; subst e; exact ⟨Nat.lt_succ_self _, hr.le⟩
    · have := hr.own id b m hb; exact ⟨by omega, this.2⟩
  · rw [hget] at hj
    by_cases e : j = N
    · rw [if_pos e] at hj; cases hj
    · rw [if_neg e] at hj; simp [setR, e, hr.dead j hj]
  · have := hr.le
    rw [H.get_push, if_neg (by omega)]; exact hr.old c hc
  · rw [H.get_push] at hc
    by_cases e : c = h.nx
    · subst e; exact Nat.lt_succ_self _
    · rw [if_neg e] at hc; have := hr.lt c oc hc; show c < h.nx + 1; omega
  · have := hr.le; show B ≤ h.nx + 1; omega
  · exact hr.fo
  · obtain ⟨g1, g2, g3⟩ := hr.pn c hc
    have hne := hnew c _ g1
    refine ⟨by rw [H.get_push, if_neg hne]; exact g1, g2, fun id m e => ?_⟩
    unfold setR at e
    split at e
    · cases e; exact hne rfl
    · exact g3 id m e
theorem obGet_del : ∀ (l : Ob) (i j : Nat), obGet (obDel l i) j = if j = i then none else obGet l j
  | [], i, j => by simp [obDel, obGet]
  | (a, o) :: l, i, j => by
    simp only [obDel, beq_t]
    by_cases e : a = i
    · subst e
      simp only [decide_true, cond_true]
      rw [obGet_del l a j]
      simp only [obGet, beq_t]
      by_cases e2 : j = a
      · simp [e2]
      · rw [if_neg e2]
        have e3 : ¬ a = j := fun h => e2 h.symm
        simp [e3, e2]
    · simp only [e, decide_false, cond_false, obGet, beq_t]
      rw [obGet_del l i j]
      by_cases e2 : a = j
      · subst e2; simp [e]
      · simp [e2]
/-- an object is given up -/
theorem SR.del {ob : Ob} (hr : SR B h0 F ρ N ob h) (id : Nat) : SR B h0 F (setR ρ id none) N (obDel ob id) h := by
  have hl : Le F ρ N F (setR ρ id none) N := Le.setNone id
  refine ⟨fun j oj hj => ?_, fun i j oi oj c m m' hi hj h1 h2 => ?_, hr.frz, fun j b m hb => ?_, fun j hj => ?_, hr.old, hr.lt, hr.le, hr.fo, fun c hc => ?_⟩
  · rw [obGet_del] at hj
    split at hj
    · cases hj
    · rename_i e
      obtain ⟨c, m, y, h1, h2, h3, h4⟩ := hr.obj j oj hj
      exact ⟨c, m, y, by simp [setR, e, h1], h2, h3.mono hl, h4⟩
  · rw [obGet_del] at hi hj
    split at hi
    · cases hi
    split at hj
    · cases hj
    rename_i e1 e2
    simp only [setR, e1, e2, if_false] at h1 h2
    exact hr.inj i j oi oj c m m' hi hj h1 h2
  · unfold setR at hb
    split at hb
    · cases hb
    · exact hr.own j b m hb
  · rw [obGet_del] at hj
    unfold setR
    split
    · rfl
    · rename_i e; rw [if_neg e] at hj; exact hr.dead j hj
  · obtain ⟨g1, g2, g3⟩ := hr.pn c hc
    refine ⟨g1, g2, fun j m e => ?_⟩
    unfold setR at e
    split at e
    · cases e
    · exact g3 j m e
/-- a block that no object has, nor a frozen slice, is given up -/
theorem SR.kill {ob : Ob} (hr : SR B h0 F ρ N ob h) {b : Nat} (h1 : ∀ id o n, obGet ob id = some o → ρ id ≠ some (b, n)) (h2 : F b = none) (h3 : B ≤ b) (h4 : b ∉ h0.pin) : SR B h0 F ρ N ob (h.kill b) := by
  refine ⟨fun j oj hj => ?_, hr.inj, fun c cs hc => ?_, hr.own, hr.dead, fun c hc => ?_, fun c oc hc => ?_, hr.le, hr.fo, fun c hc => ?_⟩
  · obtain ⟨c, m, y, g1, g2, g3⟩ := hr.obj j oj hj
    have : c ≠ b := fun e => h1 j oj m hj (e ▸ g1)
    exact ⟨c, m, y, g1, by rw [H.get_kill, if_neg this]; exact g2, g3⟩
  · have : c ≠ b := fun e => by rw [e, h2] at hc; cases hc
    rw [H.get_kill, if_neg this]; exact hr.frz c cs hc
  · have : c ≠ b := by omega
    rw [H.get_kill, if_neg this]; exact hr.old c hc
  · rw [H.get_kill] at hc
    split at hc
    · cases hc
    · exact hr.lt c oc hc
  · obtain ⟨g1, g2, g3⟩ := hr.pn c hc
    have hne : c ≠ b := fun e => h4 (e ▸ hc)
    exact ⟨by rw [H.get_kill, if_neg hne]; exact g1, g2, g3⟩
theorem castD_eq {s s' : Sh} {x : s.T} {y : s'.T} (h : castD s s' x = some y) : ∃ e : s = s', e ▸ x = y := by
  unfold castD at h
  split at h
  · rename_i e; cases h; exact ⟨e, rfl⟩
  · cases h
theorem asD_rel {s : Sh} {p : PV} {x : s.T} {v : V} (hp : PR F ρ N p v) (hd : asD s p = some x) : DC F s x [v] := by
  unfold asD at hd
  split at hd
  · obtain ⟨rfl, rfl⟩ := castD_eq hd
    simpa only [PR] using hp
  · obtain ⟨rfl, rfl⟩ := castD_eq hd
    simp only [PR] at hp; subst hp
    simp [DC]
  · obtain ⟨rfl, rfl⟩ := castD_eq hd
    simp only [PR, PRs_nil] at hp
    obtain ⟨_, _, rfl, rfl, rfl⟩ := hp
    simp [DC]
  · obtain ⟨rfl, rfl⟩ := castD_eq hd
    simp only [PR] at hp; subst hp
    simp [DC]
  · split at hd
    · cases hd
      simp only [PR] at hp; subst hp
      simp [DC]
    · cases hd
      simp only [PR] at hp; subst hp
      simp [DC]
    · cases hd
  · cases hd
theorem unflat_rel : ∀ {s : Sh} {ps : List PV} {vs : List V} {x : s.T} {rest : List PV}, PRs F ρ N ps vs → unflat s ps = some (x, rest) → ∃ a b, vs = a ++ b ∧ DC F s x a ∧ PRs F ρ N rest b
  | .pair s t, ps, vs, x, rest, hp, hd => by
    unfold unflat at hd
    split at hd
    case h_2 => cases hd
    rename_i y l1 h1
    split at hd
    case h_2 => cases hd
    rename_i z l2 h2
    cases hd
    obtain ⟨a, b, rfl, g1, g2⟩ := unflat_rel hp h1
    obtain ⟨c, d, rfl, g3, g4⟩ := unflat_rel g2 h2
    exact ⟨a ++ c, d, by simp, by simp only [DC]; exact ⟨a, c, rfl, g1, g3⟩, g4⟩
  | .unit, ps, vs, x, rest, hp, hd => by
    unfold unflat at hd
    cases hd
    exact ⟨[], vs, rfl, by simp [DC], hp⟩
  | .int k, [], vs, x, rest, hp, hd => by simp [unflat] at hd
  | .bool, [], vs, x, rest, hp, hd => by simp [unflat] at hd
  | .str, [], vs, x, rest, hp, hd => by simp [unflat] at hd
  | .list s, [], vs, x, rest, hp, hd => by simp [unflat] at hd
  | .nlist s, [], vs, x, rest, hp, hd => by simp [unflat] at hd
  | .fnv, [], vs, x, rest, hp, hd => by simp [unflat] at hd
  | .int k, p :: ps, vs, x, rest, hp, hd => by
    simp only [PRs] at hp
    obtain ⟨v, vs, rfl, h1, h2⟩ := hp
    simp only [unflat] at hd
    split at hd
    · rename_i y hy; cases hd; exact ⟨[v], vs, rfl, asD_rel h1 hy, h2⟩
    · cases hd
  | .bool, p :: ps, vs, x, rest, hp, hd => by
    simp only [PRs] at hp
    obtain ⟨v, vs, rfl, h1, h2⟩ := hp
    simp only [unflat] at hd
    split at hd
    · rename_i y hy; cases hd; exact ⟨[v], vs, rfl, asD_rel h1 hy, h2⟩
    · cases hd
  | .str, p :: ps, vs, x, rest, hp, hd => by
    simp only [PRs] at hp
    obtain ⟨v, vs, rfl, h1, h2⟩ := hp
    simp only [unflat] at hd
    split at hd
    · rename_i y hy; cases hd; exact ⟨[v], vs, rfl, asD_rel h1 hy, h2⟩
    · cases hd
  | .list s, p :: ps, vs, x, rest, hp, hd => by
    simp only [PRs] at hp
    obtain ⟨v, vs, rfl, h1, h2⟩ := hp
    simp only [unflat] at hd
    split at hd
    · rename_i y hy; cases hd; exact ⟨[v], vs, rfl, asD_rel h1 hy, h2⟩
    · cases hd
  | .fnv, p :: ps, vs, x, rest, hp, hd => by
    simp only [PRs] at hp
    obtain ⟨v, vs, rfl, h1, h2⟩ := hp
    simp only [unflat] at hd
    split at hd
    · rename_i y hy; cases hd; exact ⟨[v], vs, rfl, asD_rel h1 hy, h2⟩
    · cases hd
  | .nlist s, p :: ps, vs, x, rest, hp, hd => by
    simp only [PRs] at hp
    obtain ⟨v, vs, rfl, h1, h2⟩ := hp
    simp only [unflat] at hd
    split at hd
    · rename_i y hy; cases hd; exact ⟨[v], vs, rfl, asD_rel h1 hy, h2⟩
    · cases hd
theorem unflat1_rel {s : Sh} {ps : List PV} {vs : List V} {x : s.T} (hp : PRs F ρ N ps vs) (hd : unflat1 s ps = some x) : DC F s x vs := by
  unfold unflat1 at hd
  split at hd
  · rename_i y hy
    cases hd
    obtain ⟨a, b, rfl, h1, h2⟩ := unflat_rel hp hy
    simp at h2; subst h2
    simpa using h1
  · cases hd
end
end Go.Pe
end
section
namespace Go.Pe
open Go.Det
section
variable {B : Nat} {h0 : H0} {F : Fz} {ρ : Rho} {N : Nat} {C : Ctx} {st st' : PSt} {fr : Fr} {h : H}
theorem mem_lset {v : V} : ∀ (vs cs : List V) (off : Nat), v ∈ lset cs off vs → v ∈ vs ∨ v ∈ cs
  | [], cs, off, h => .inr h
  | u :: vs, cs, off, h => by
    have h : v ∈ lset (cs.set off u) (off + 1) vs := h
    rcases mem_lset vs _ _ h with h | h
    · exact .inl (List.mem_cons_of_mem _ h)
    · rcases List.mem_or_eq_of_mem_set h with h | h
      · exact .inr h
      · exact .inl (by simp [h])
theorem mem_lput {v : V} {vs cs : List V} {off : Nat} (h : v ∈ Det.lput off vs cs) : v ∈ vs ∨ v ∈ cs := by
  rw [lput_eq] at h
  exact mem_lset _ _ _ h
theorem lput_get {cs vs : List V} {off : Nat} (hl : off + vs.length ≤ cs.length) (j : Nat) : (lput off vs cs)[j]? = if off ≤ j ∧ j < off + vs.length then vs[j - off]? else cs[j]? := by
  rw [lput_eq]; exact lset_get vs cs off j hl
theorem lput_len {cs vs : List V} {off : Nat} : (lput off vs cs).length = cs.length := by
  rw [lput_eq]; exact lset_length vs cs off
/-- the part of the cells that holds what is written -/
theorem seg_in {cs vs : List V} {m off k : Nat} (hk : off + vs.length ≤ k) (hl : m + k ≤ cs.length) : ((lput (m + off) vs cs).drop m).take k = lput off vs ((cs.drop m).take k) := by
  apply List.ext_getElem?
  intro j
  rw [lput_get (by simp; omega)]
  by_cases hj : j < k
  · rw [List.getElem?_take_of_lt hj, List.getElem?_drop, lput_get (by omega)]
    by_cases hc : off ≤ j ∧ j < off + vs.length
    · rw [if_pos hc, if_pos (by omega)]
      congr 1; omega
    · rw [if_neg hc, if_neg (by omega), List.getElem?_take_of_lt hj, List.getElem?_drop]
  · rw [if_neg (by omega), List.getElem?_eq_none (by simp; omega), List.getElem?_eq_none (by simp; omega)]
/-- a part that is not written -/
theorem seg_out {cs vs : List V} {m p k : Nat} (hd : p + vs.length ≤ m ∨ m + k ≤ p) (hl : p + vs.length ≤ cs.length) : ((lput p vs cs).drop m).take k = (cs.drop m).take k := by
  apply List.ext_getElem?
  intro j
  by_cases hj : j < k
  · rw [List.getElem?_take_of_lt hj, List.getElem?_take_of_lt hj, List.getElem?_drop, List.getElem?_drop, lput_get hl, if_neg (by omega)]
  · rw [List.getElem?_eq_none (by simp; omega), List.getElem?_eq_none (by simp; omega)]
theorem DCL.set {s : Sh} {l : List s.T} {cs vs : List V} {j off : Nat} {y : s.T} (hd : DCL F s l cs) (hj : j < l.length) (hoff : off + vs.length ≤ s.sz) (hy : DC F s y (lput off vs ((cs.drop (j * s.sz)).take s.sz))) :
    DCL F s (l.set j y) (lput (j * s.sz + off) vs cs) := by
  have hb : j * s.sz + s.sz ≤ cs.length := by
    rw [hd.1, ← Nat.succ_mul]; exact Nat.mul_le_mul_right _ hj
  refine ⟨by rw [lput_len, List.length_set]; exact hd.1, fun i hi => ?_⟩
  have hi' : i < l.length := by simpa using hi
  by_cases e : i = j
  · subst e
    rw [seg_in hoff hb, List.getElem_set_self]; exact hy
  · rw [List.getElem_set_ne (fun h => e h.symm), seg_out ?_ (by omega)]
    · exact hd.2 i hi'
    · rcases Nat.lt_or_gt_of_ne e with h1 | h1
      · right
        have : (i + 1) * s.sz ≤ j * s.sz := Nat.mul_le_mul_right _ h1
        rw [Nat.succ_mul] at this; omega
      · left
        have : (j + 1) * s.sz ≤ i * s.sz := Nat.mul_le_mul_right _ h1
        rw [Nat.succ_mul] at this; omega
theorem s_store (hr : SR B h0 F ρ st.nx st.ob h) {t : TypeId} {p q : PV} {a x : V} (ha : PR F ρ st.nx p a) (hx : PR F ρ st.nx q x) {v : PV} (ht : (pstore C.T st t p q).To v st') :
    ∃ id, ((∃ off, p = .ptr id off) ∨ ∃ sz j off, p = .eptr id sz j off) ∧ OK B h0 F ρ st h [id] (oks (dstore C.T h t a x)) v st' := by
  unfold pstore at ht
  split at ht
  case h_2 => simp at ht
  rename_i i xs hi hxs
  cases hc : (Nat.beq (Det.llen xs) i.size && Det.lall (solid st) xs) with
  | false => rw [hc] at ht; simp at ht
  | true =>
    rw [hc] at ht
    simp only [Bool.and_eq_true] at hc
    obtain ⟨hc1, hc2⟩ := hc
    rw [llen_eq] at hc1
    rw [lall_eq] at hc2
    have hxs' := pcs_rel hr hx hxs
    have hlen : x.cells.length = i.size := by rw [← hxs'.len]; exact Nat.eq_of_beq_eq_true hc1
    have hone := solids_one hr hc2 hxs'
    have hb1 : Nat.beq x.cells.length i.size = true := by rw [hlen]; exact Nat.beq_refl _
    simp only [cond_true] at ht
    split at ht
    case h_3 => simp at ht
    case h_1 =>
      rename_i id off
      split at ht
      case h_2 => simp at ht
      rename_i ps ho
      cases hble : Nat.ble (Nat.add off i.size) (Det.llen ps) with
      | false => rw [hble] at ht; simp at ht
      | true =>
        rw [hble] at ht
        simp only [cond_true, To_val] at ht
        obtain ⟨rfl, rfl⟩ := ht
        obtain ⟨b, n, y, h1, h2, ⟨cs, te, fz, rfl, h4, h5, hbok⟩, hf, _⟩ := hr.at ho
        simp only [PR] at ha
        obtain rfl := ha.2 b n h1
        rw [llen_eq] at hble
        have hle : off + x.cells.length ≤ cs.length := by rw [← h4.len, hlen]; exact Nat.le_of_ble_eq_true hble
        refine ⟨id, .inl ⟨off, rfl⟩, .tup [], _, F, ρ, .inr ⟨?_, rfl⟩, by simp [PR], hr.set ho h1 h2 rfl rfl (o' := .box (Det.lput off xs ps)) ⟨_, te, fz, rfl, hxs'.lput off h4, h5, fun u hu => (mem_lput hu).elim (fun hu => V.ok_of_one (List.all_eq_true.1 hone u hu)) (hbok u)⟩, Le.refl, rfl, rfl, Nat.le_refl _, fun c _ => ?_⟩
        · unfold dstore
          simp only [hi, hb1, cond_true]
          rw [wr_ok h2 hle h5 hone]; rfl
        · rw [H.get_put]
          by_cases e : c = b
          · exact .inr ⟨id, List.mem_singleton.2 rfl, n, e ▸ h1⟩
          · rw [if_neg e]; exact .inl rfl
    case h_2 =>
      rename_i id sz j off
      split at ht
      case h_2 => simp at ht
      rename_i e s l ho
      cases hcc : (Nat.beq sz s.sz && Nat.ble (Nat.add off i.size) sz) with
      | false => rw [hcc] at ht; simp at ht
      | true =>
        rw [hcc] at ht
        simp only [Bool.and_eq_true] at hcc
        have hsz := Nat.eq_of_beq_eq_true hcc.1
        have hoff := Nat.le_of_ble_eq_true hcc.2
        subst hsz
        simp only [cond_true] at ht
        split at ht
        case h_2 => simp at ht
        rename_i y hy
        simp only [To_chk, decide_eq_true_eq] at ht
        obtain ⟨hj, rfl, rfl⟩ := ht
        obtain ⟨b, n, z, h1, h2, ⟨cs, fz, rfl, h4, h5, h6⟩, hf, _⟩ := hr.at ho
        simp only [PR] at ha
        obtain rfl := ha.2 b n h1
        rw [show l.getD j s.dflt = l[j] from by simp [hj]] at hy
        have hfl := flat_rel (F := F) (ρ := ρ) (N := st.nx) (h4.2 j hj)
        have hdc := unflat1_rel (hxs'.lput off hfl) hy
        have hset := DCL.set h4 hj (by rw [hlen]; exact hoff) hdc
        have hle : j * s.sz + off + x.cells.length ≤ cs.length := by
          have : j * s.sz + s.sz ≤ cs.length := by rw [h4.1, ← Nat.succ_mul]; exact Nat.mul_le_mul_right _ hj
          have : off + i.size ≤ s.sz := hoff
          omega
        refine ⟨id, .inr ⟨_, _, _, rfl⟩, .tup [], _, F, ρ, .inr ⟨?_, rfl⟩, by simp [PR], hr.set ho h1 h2 rfl rfl (o' := .arr false e s (l.set j y)) ⟨_, fz, rfl, hset, h5, by simpa using h6⟩, Le.refl, rfl, rfl, Nat.le_refl _, fun c _ => ?_⟩
        · unfold dstore
          simp only [hi, hb1, cond_true]
          rw [wr_ok h2 hle h5 hone]; rfl
        · rw [H.get_put]
          by_cases e : c = b
          · exact .inr ⟨id, List.mem_singleton.2 rfl, n, e ▸ h1⟩
          · rw [if_neg e]; exact .inl rfl
theorem pr_int {k : IntKind} {n : Int} {v : V} (h : PR F ρ N (.dat (.int k) n) v) : v = .int k n := by simpa [PR, DC] using h
theorem pr_str {s : List UInt8} {v : V} (h : PR F ρ N (.dat .str s) v) : v = .str s := by simpa [PR, DC] using h
theorem pr_bool {b : Bool} {v : V} (h : PR F ρ N (.dat .bool b) v) : v = .bool b := by simpa [PR, DC] using h
theorem pr_bl {b : Bool} {v : V} (h : PR F ρ N (.bl b) v) : v = .bool b := by simpa [PR] using h
theorem mk_int (k : IntKind) (n : Int) : PR F ρ N (.dat (.int k) n) (.int k n) := by simp [PR, DC]
theorem mk_str (s : List UInt8) : PR F ρ N (.dat .str s) (.str s) := by simp [PR, DC]
theorem mk_bool (b : Bool) : PR F ρ N (.dat .bool b) (.bool b) := by simp [PR, DC]
theorem mk_bl (b : Bool) : PR F ρ N (.bl b) (.bool b) := by simp [PR]
theorem boolOf_rel {p : PV} {b : Bool} {v : V} (h : pboolOf p = some b) (hp : PR F ρ N p v) : v = .bool b := by
  unfold pboolOf at h
  split at h
  · cases h; exact pr_bl hp
  · cases h; exact pr_bool hp
  · cases h
theorem s_int (hr : SR B h0 F ρ st.nx st.ob h) {op : BinOp} {k : IntKind} {a b : Int} {v : PV} (ht : (pint op k a b st).To v st') : OK B h0 F ρ st h [] (okv h (intOp op k a b)) v st' := by
  unfold pint at ht
  split at ht <;> simp only [To_bad, To_val, To_chk, decide_eq_true_eq, ne_eq] at ht
  all_goals first
    | (obtain ⟨rfl, rfl⟩ := ht; exact OK.pure hr rfl (mk_int _ _))
    | (obtain ⟨rfl, rfl⟩ := ht; exact OK.pure hr rfl (mk_bool _))
    | (obtain ⟨hb, rfl, rfl⟩ := ht; exact OK.pure hr (by simp only [intOp, hb, if_false, okv]) (mk_int _ _))
theorem s_sh (hr : SR B h0 F ρ st.nx st.ob h) {op : BinOp} {k : IntKind} {a b : Int} {v : PV} (ht : (psh op k a b st).To v st') : OK B h0 F ρ st h [] (okv h (shOp op k a b)) v st' := by
  unfold psh at ht
  split at ht <;> simp only [To_bad, To_chk, decide_eq_true_eq] at ht
  all_goals
    obtain ⟨hb, rfl, rfl⟩ := ht
    exact OK.pure hr (by simp only [shOp, Int.not_lt.2 hb, if_false, okv]) (mk_int _ _)
theorem s_str (hr : SR B h0 F ρ st.nx st.ob h) {op : BinOp} {x y : List UInt8} {v : PV} (ht : (pstr op x y st).To v st') : OK B h0 F ρ st h [] (okv h (strOp op x y)) v st' := by
  unfold pstr at ht
  split at ht <;> simp only [To_bad, To_val, To_chk, decide_eq_true_eq] at ht
  all_goals first
    | (obtain ⟨rfl, rfl⟩ := ht; exact OK.pure hr rfl (mk_bool _))
    | (obtain ⟨hb, rfl, rfl⟩ := ht; exact OK.pure hr (by simp only [strOp, hb, if_true, okv]) (mk_str _))
end
end Go.Pe
end
section
namespace Go.Pe
open Go.Det
section
variable {B : Nat} {h0 : H0} {F : Fz} {ρ : Rho} {N : Nat} {C : Ctx} {st st' : PSt} {fr : Fr} {h : H}
theorem psame_rel : ∀ {ks : List FK} {ps qs : List PV} {xs ys : List V} {r : Bool}, PRs F ρ N ps xs → PRs F ρ N qs ys → psame ks ps qs = some r → fit ks xs = true ∧ fit ks ys = true ∧ sameCells xs ys = some r
  | [], [], [], xs, ys, r, hx, hy, hd => by
    simp at hx hy; subst hx hy
    simp only [psame, Option.some.injEq] at hd; subst hd
    exact ⟨rfl, rfl, rfl⟩
  | [], _ :: _, _, xs, ys, r, hx, hy, hd => by simp [psame] at hd
  | [], [], _ :: _, xs, ys, r, hx, hy, hd => by simp [psame] at hd
  | k :: ks, [], _, xs, ys, r, hx, hy, hd => by cases k <;> simp [psame] at hd
  | k :: ks, _ :: _, [], xs, ys, r, hx, hy, hd => by cases k <;> simp [psame] at hd
  | k :: ks, p :: ps, q :: qs, xs, ys, r, hx, hy, hd => by
    simp only [PRs] at hx hy
    obtain ⟨x, xs, rfl, hx1, hx2⟩ := hx
    obtain ⟨y, ys, rfl, hy1, hy2⟩ := hy
    have key : ∀ {c : Bool}, k.ok x = true → k.ok y = true → sameCell x y = some c → (psame ks ps qs).map (fun r => c && r) = some r → fit (k :: ks) (x :: xs) = true ∧ fit (k :: ks) (y :: ys) = true ∧ sameCells (x :: xs) (y :: ys) = some r := by
      intro c h1 h2 h3 h4
      rw [Option.map_eq_some_iff] at h4
      obtain ⟨r', h5, rfl⟩ := h4
      obtain ⟨g1, g2, g3⟩ := psame_rel hx2 hy2 h5
      refine ⟨by simp [fit, h1, g1], by simp [fit, h2, g2], ?_⟩
      have hl : xs.length = ys.length := by rw [← fit_len g1, ← fit_len g2]
      cases c with
      | true => simp only [sameCells, h3, g3, Bool.true_and]
      | false => simp only [sameCells, h3, Bool.false_and, hl, if_true]
    unfold psame at hd
    split at hd
    case h_1 => rename_i e _ _; cases e
    case h_2 =>
      rename_i k' ks' k1 a xs' k2 b ys' e1 e2 e3
      cases e1; cases e2; cases e3
      cases hk : (k' == k1 && k' == k2) with
      | false => rw [hk] at hd; cases hd
      | true =>
        rw [hk] at hd
        simp only [Bool.and_eq_true, beq_iff_eq] at hk
        obtain ⟨rfl, rfl⟩ := hk
        obtain rfl := pr_int hx1
        obtain rfl := pr_int hy1
        exact key (by simp [FK.ok]) (by simp [FK.ok]) (by simp [sameCell]) hd
    case h_3 =>
      rename_i e1 e2 e3
      cases e1; cases e2; cases e3
      obtain rfl := pr_str hx1
      obtain rfl := pr_str hy1
      exact key rfl rfl (by simp [sameCell]) hd
    case h_4 =>
      rename_i e1 e2 e3
      cases e1; cases e2; cases e3
      split at hd
      case h_2 => cases hd
      rename_i a b ha hb
      obtain rfl := boolOf_rel ha hx1
      obtain rfl := boolOf_rel hb hy1
      exact key rfl rfl rfl hd
    case h_5 => cases hd
/-- a slice held against nil -/
theorem s_slnil (hr : SR B h0 F ρ st.nx st.ob h) {op : BinOp} {t e : TypeId} (hu : C.T.und t = some (.slice e)) {p : PV} {x : V} (hx : PR F ρ st.nx p x) {ng : Bool} {v : PV} (ht : (pslnil st ng p).To v st') :
    (∀ (_ : x = .nili), False) ∧ ∃ b, dequal C.T t x .nils = some b ∧ PR F ρ st.nx v (.bool (b != ng)) ∧ dbin C.T op t x .nils = (match op with | .eql => (dequal C.T t x .nils).map fun b => .bool b | .neq => (dequal C.T t x .nils).map fun b => .bool !b | _ => none) ∧ st' = st := by
  have dq : ∀ {x : V}, x = .nils ∨ x = .esl ∨ x = .es0 ∨ (∃ b off len cap o, x = .sl b off len cap o) → dbin C.T op t x .nils = (match op with | .eql => (dequal C.T t x .nils).map fun b => .bool b | .neq => (dequal C.T t x .nils).map fun b => .bool !b | _ => none) := by
    rintro x (rfl | rfl | rfl | ⟨b, off, len, cap, o, rfl⟩) <;> cases op <;> rfl
  have no : ∀ {x : V}, x = .esl ∨ x = .es0 ∨ (∃ b off len cap o, x = .sl b off len cap o) → dequal C.T t x .nils = some false := by
    rintro x (rfl | rfl | ⟨b, off, len, cap, o, rfl⟩) <;> simp [dequal, hu]
  have yes : dequal C.T t .nils .nils = some true := by simp [dequal, hu]
  unfold pslnil at ht
  split at ht
  case h_1 =>
    simp only [To_val] at ht
    obtain ⟨rfl, rfl⟩ := ht
    simp only [PR] at hx; subst hx
    exact ⟨fun e => (by cases e), true, yes, by simp [PR], dq (.inl rfl), rfl⟩
  case h_2 =>
    rename_i id sz off len cap
    cases hl : isS (st.obj id) with
    | false => rw [hl] at ht; simp at ht
    | true =>
      rw [hl] at ht
      simp only [cond_true, To_val] at ht
      obtain ⟨rfl, rfl⟩ := ht
      obtain ⟨o, ho⟩ := isS_some hl
      obtain ⟨b, n, _, h1, _⟩ := hr.at ho
      simp only [PR] at hx
      have : x = .esl ∨ x = .es0 ∨ (∃ b off len cap o, x = .sl b off len cap o) := by
        rcases hx.2 b n h1 with ⟨_, _, o, _, rfl⟩ | ⟨rfl, _, _, rfl | ⟨_, rfl, _⟩⟩
        · exact .inr (.inr ⟨_, _, _, _, _, rfl⟩)
        · exact .inl rfl
        · exact .inr (.inr ⟨_, _, _, _, _, rfl⟩)
      exact ⟨fun e => (by subst e; rcases this with h | h | ⟨_, _, _, _, _, h⟩ <;> cases h), false, no this, by simp [PR], dq (.inr this), rfl⟩
  case h_3 =>
    rename_i s l
    simp only [PR, DC] at hx
    obtain ⟨u, hu1, hx⟩ := hx
    obtain rfl : x = u := by simpa using hu1
    have ht2 : (decide (0 < (l : List s.T).length) = true ∧ v = .bl ng ∧ st' = st) ∨ (v = .ub ∧ st' = st) := by
      generalize decide (0 < (l : List s.T).length) = c at ht
      cases ht with
      | tt ht => simp only [To_val] at ht; exact .inl ⟨rfl, ht.1.symm, ht.2.symm⟩
      | ff ht => simp only [To_val] at ht; exact .inr ⟨ht.1.symm, ht.2.symm⟩
    rcases ht2 with ⟨hd, rfl, rfl⟩ | ⟨rfl, rfl⟩
    · rcases hx with ⟨rfl, _⟩ | ⟨b, off, cap, o, bs, rfl, _⟩
      · simp at hd
      · exact ⟨fun e => (by cases e), false, no (.inr (.inr ⟨_, _, _, _, _, rfl⟩)), by simp [PR], dq (.inr (.inr (.inr ⟨_, _, _, _, _, rfl⟩))), rfl⟩
    · rcases hx with ⟨rfl, rfl | rfl | rfl⟩ | ⟨b, off, cap, o, bs, rfl, _⟩
      · exact ⟨fun e => (by cases e), true, yes, by simp [PR], dq (.inl rfl), rfl⟩
      · exact ⟨fun e => (by cases e), false, no (.inl rfl), by simp [PR], dq (.inr (.inl rfl)), rfl⟩
      · exact ⟨fun e => (by cases e), false, no (.inr (.inl rfl)), by simp [PR], dq (.inr (.inr (.inl rfl))), rfl⟩
      · exact ⟨fun e => (by cases e), false, no (.inr (.inr ⟨_, _, _, _, _, rfl⟩)), by simp [PR], dq (.inr (.inr (.inr ⟨_, _, _, _, _, rfl⟩))), rfl⟩
  case h_4 =>
    rename_i s l
    simp only [To_val] at ht
    obtain ⟨rfl, rfl⟩ := ht
    simp only [PR, DC] at hx
    obtain ⟨u, hu1, hx⟩ := hx
    obtain rfl : x = u := by simpa using hu1
    rcases hx with ⟨rfl, rfl⟩ | ⟨h0, b, off, cap, o, bs, rfl, _⟩
    · exact ⟨fun e => (by cases e), true, yes, by cases ng <;> simp [PR, DC], dq (.inl rfl), rfl⟩
    · have hpos : 0 < (l : List s.T).length := List.length_pos_iff.2 h0
      exact ⟨fun e => (by cases e), false, no (.inr (.inr ⟨_, _, _, _, _, rfl⟩)), by cases ng <;> simp [PR, DC, hpos], dq (.inr (.inr (.inr ⟨_, _, _, _, _, rfl⟩))), rfl⟩
  case h_5 => simp at ht
theorem s_bin (hr : SR B h0 F ρ st.nx st.ob h) {op : BinOp} {t : TypeId} {ox oy : Operand} {p q : PV} {x y : V} (hx : PR F ρ st.nx p x) (hy : PR F ρ st.nx q y) {v : PV} (ht : (pbin C.T op t p q st).To v st') :
    OK B h0 F ρ st h [] (okv h (dbinx C.T op t ox oy x y)) v st' := by
  have nn : ∀ {x y : V}, (∀ (e : x = .nili), False) → dbinx C.T op t ox oy x y = dbin C.T op t x y := by
    intro x y hn
    unfold dbinx dnil
    split
    · rename_i h; split at h
      · exact (hn rfl).elim
      · exact (hn rfl).elim
      · cases h
    · rfl
  unfold pbin at ht
  split at ht
  case h_1 =>
    rename_i k a k' b
    obtain rfl := pr_int hx
    obtain rfl := pr_int hy
    rw [nn (fun e => by cases e)]
    cases hs : isSh op with
    | true =>
      rw [hs] at ht
      simp only [cond_true] at ht
      have := s_sh hr ht
      unfold dbin
      cases op <;> simp only [isSh] at hs <;> first | (cases hs; done) | exact this
    | false =>
      rw [hs] at ht
      simp only [cond_false] at ht
      cases hk : (k == k') with
      | false => rw [hk] at ht; simp at ht
      | true =>
        rw [hk] at ht
        simp only [cond_true] at ht
        have := s_int hr ht
        have hk := beq_iff_eq.1 hk
        subst hk
        unfold dbin
        cases op <;> simp only [isSh] at hs <;> first | (cases hs; done) | (simp only [if_true]; exact this)
  case h_2 =>
    rename_i a b
    obtain rfl := pr_str hx
    obtain rfl := pr_str hy
    rw [nn (fun e => by cases e)]
    have := s_str hr ht
    unfold dbin
    cases op <;> exact this
  case h_3 =>
    rename_i ps qs
    simp only [PR] at hx hy
    obtain ⟨xs, rfl, hx⟩ := hx
    obtain ⟨ys, rfl, hy⟩ := hy
    rw [nn (fun e => by cases e)]
    split at ht
    case h_2 => simp at ht
    rename_i ks hks
    have eq : ∀ {r : Bool}, psame ks ps qs = some r → dequal C.T t (.agg xs) (.agg ys) = some r := by
      intro r hr'
      obtain ⟨g1, g2, g3⟩ := psame_rel hx hy hr'
      have : dflat (C.T.flat t) xs ys = some r := by simp [dflat, hks, g1, g2, g3]
      unfold dequal
      split <;> first | exact this | (simp_all; done)
    split at ht
    case h_1 =>
      rename_i r hr'
      simp only [To_val] at ht
      obtain ⟨rfl, rfl⟩ := ht
      exact OK.pure hr (by show okv h ((dequal C.T t (.agg xs) (.agg ys)).map _) = _; rw [eq hr']; rfl) (mk_bool _)
    case h_2 =>
      rename_i r hr'
      simp only [To_val] at ht
      obtain ⟨rfl, rfl⟩ := ht
      exact OK.pure hr (by show okv h ((dequal C.T t (.agg xs) (.agg ys)).map _) = _; rw [eq hr']; rfl) (mk_bool _)
    case h_3 => simp at ht
  case h_4 =>
    split at ht
    case h_3 => simp at ht
    case h_2 =>
      rename_i e _ _ hu
      unfold peqnil at ht
      split at ht
      case h_3 => simp at ht
      case h_1 =>
        have hs := s_slnil (op := .eql) hr hu hx ht
        obtain ⟨hn, b, h1, h2, h3, e⟩ := hs
        subst e
        simp only [PR] at hy; subst hy
        rw [nn hn, h3]
        exact OK.pure hr (v' := .bool b) (by simp only [h1]; rfl) (by simpa using h2)
      case h_2 =>
        have hs := s_slnil (op := .neq) hr hu hx ht
        obtain ⟨hn, b, h1, h2, h3, e⟩ := hs
        subst e
        simp only [PR] at hy; subst hy
        rw [nn hn, h3]
        exact OK.pure hr (v' := .bool (!b)) (by simp only [h1]; rfl) (by simpa using h2)
    rename_i a b ha hb hu
    obtain rfl := boolOf_rel ha hx
    obtain rfl := boolOf_rel hb hy
    rw [nn (fun e => by cases e)]
    have eq : dequal C.T t (.bool a) (.bool b) = some (a == b) := by unfold dequal; rw [hu]
    split at ht
    case h_1 =>
      simp only [To_val] at ht
      obtain ⟨rfl, rfl⟩ := ht
      exact OK.pure hr (by show okv h ((dequal C.T t (.bool a) (.bool b)).map _) = _; rw [eq]; rfl) (mk_bool _)
    case h_2 =>
      simp only [To_val] at ht
      obtain ⟨rfl, rfl⟩ := ht
      exact OK.pure hr (by show okv h ((dequal C.T t (.bool a) (.bool b)).map _) = _; rw [eq]; rfl) (mk_bool _)
    case h_3 => simp at ht
theorem s_un (hr : SR B h0 F ρ st.nx st.ob h) {op : UnOp} {p : PV} {x : V} (hx : PR F ρ st.nx p x) {v : PV} (ht : (pun op p st).To v st') : OK B h0 F ρ st h [] (okv h (dun op x)) v st' := by
  unfold pun at ht
  split at ht <;> simp only [To_bad, To_val] at ht
  · obtain ⟨rfl, rfl⟩ := ht; obtain rfl := pr_int hx; exact OK.pure hr rfl (mk_int _ _)
  · obtain ⟨rfl, rfl⟩ := ht; obtain rfl := pr_bl hx; exact OK.pure hr rfl (mk_bl _)
  · obtain ⟨rfl, rfl⟩ := ht; simp only [PR] at hx; obtain ⟨b, rfl⟩ := hx; exact OK.pure hr (v' := .bool (!b)) rfl (by simp [PR])
  · obtain ⟨rfl, rfl⟩ := ht; obtain rfl := pr_bool hx; exact OK.pure hr rfl (mk_bool _)
theorem s_conv (hr : SR B h0 F ρ st.nx st.ob h) {s d : TypeId} {p : PV} {x : V} (hx : PR F ρ st.nx p x) {v : PV} (ht : (pconv C.T s d p st).To v st') : OK B h0 F ρ st h [] (okv h (dconv C.T h s d x)) v st' := by
  unfold pconv at ht
  split at ht <;> simp only [To_bad, To_val] at ht
  · rename_i h1 h2
    obtain ⟨rfl, rfl⟩ := ht; obtain rfl := pr_int hx
    exact OK.pure hr (by simp [dconv, h1, h2, okv]) (mk_int _ _)
  · rename_i h1 h2
    obtain ⟨rfl, rfl⟩ := ht; obtain rfl := pr_str hx
    exact OK.pure hr (by simp [dconv, h1, h2, okv]) (mk_str _)
theorem s_pick (hr : SR B h0 F ρ st.nx st.ob h) {c a b : PV} {x y z : V} (hc : PR F ρ st.nx c x) (ha : PR F ρ st.nx a y) (hb : PR F ρ st.nx b z) {v : PV} (ht : (ppick c a b st).To v st') :
    ∃ t, x = .bool t ∧ OK B h0 F ρ st h [] (okv h (some (if t then y else z))) v st' := by
  unfold ppick at ht
  split at ht
  case h_3 => simp at ht
  case h_1 =>
    rename_i t
    simp only [To_val] at ht
    obtain ⟨rfl, rfl⟩ := ht
    refine ⟨t, pr_bl hc, OK.pure hr rfl ?_⟩
    cases t <;> assumption
  case h_2 =>
    rename_i t
    refine ⟨t, pr_bool hc, ?_⟩
    split at ht
    case h_1 =>
      simp only [To_val] at ht
      obtain ⟨rfl, rfl⟩ := ht
      obtain rfl := pr_bool ha
      obtain rfl := pr_bl hb
      refine OK.pure hr rfl ?_
      cases t <;> exact mk_bool _
    case h_2 =>
      simp only [To_val] at ht
      obtain ⟨rfl, rfl⟩ := ht
      obtain rfl := pr_bl ha
      obtain rfl := pr_bool hb
      refine OK.pure hr rfl ?_
      cases t <;> exact mk_bool _
    case h_3 =>
      cases ht with
      | tt h => simp only [To_val] at h; obtain ⟨rfl, rfl⟩ := h; exact OK.pure hr rfl ha
      | ff h => simp only [To_val] at h; obtain ⟨rfl, rfl⟩ := h; exact OK.pure hr rfl hb
theorem s_field (hr : SR B h0 F ρ st.nx st.ob h) {t : TypeId} {p : PV} {x : V} (hx : PR F ρ st.nx p x) {f : Nat} {v : PV} (ht : (pfield C.T t p f st).To v st') : OK B h0 F ρ st h [] (okv h (dfield C.T t x f)) v st' := by
  unfold pfield at ht
  split at ht
  case h_2 => simp at ht
  rename_i fs ps hu
  split at ht
  case h_2 => simp at ht
  rename_i fd hfd
  split at ht
  case h_2 => simp at ht
  rename_i d i hd hi
  simp only [To_ov] at ht
  obtain ⟨hpk, rfl⟩ := ht
  simp only [PR] at hx
  obtain ⟨cs, rfl, hps⟩ := hx
  rw [ldrop'] at hpk
  have hp := hps.drop fd.offset
  rcases pick_rel hp hpk with ⟨ha, _, hn, hv⟩ | ⟨ha, u, us, e, hv⟩
  · exact OK.pure hr (by simp only [dfield, hu, hfd, dpart, hd, hi, ha, cond_true, okv]) hv
  · have : cs[fd.offset]? = some u := by
      have := congrArg (·[0]?) e
      simpa using this
    exact OK.pure hr (by simp only [dfield, hu, hfd, dpart, hd, hi, ha, cond_false, this, okv]) hv
theorem s_faddr (hr : SR B h0 F ρ st.nx st.ob h) {t : TypeId} {p : PV} {x : V} (hx : PR F ρ st.nx p x) {f : Nat} {v : PV} (ht : (pfaddr C.T t p f st).To v st') :
    OK B h0 F ρ st h [] (okv h (dfaddr C.T t x f)) v st' := by
  have live : ∀ {id}, isS (st.obj id) = true → ∃ b n, ρ id = some (b, n) := by
    intro id hi
    obtain ⟨o, ho⟩ := isS_some hi
    obtain ⟨b, n, _, h1, _⟩ := hr.at ho
    exact ⟨b, n, h1⟩
  unfold pfaddr at ht
  split at ht
  case h_2 => simp at ht
  rename_i fs hu
  split at ht
  case h_2 => simp at ht
  rename_i fd hfd
  split at ht
  case h_2 => simp at ht
  rename_i i hi
  cases hz : Nat.beq i.size 0 with
  | true => rw [hz] at ht; simp at ht
  | false =>
    have hz' : i.size ≠ 0 := by intro e; rw [e] at hz; cases hz
    rw [hz] at ht
    simp only [cond_false] at ht
    have core : ∀ b off, dfaddr C.T t (.ptr b off) f = some (.ptr b (off + fd.offset)) := by
      intro b off; simp only [dfaddr, hu, hfd, hi, hz', if_false]
    split at ht
    · rename_i id off
      cases hl : isS (st.obj id) with
      | false => rw [hl] at ht; simp at ht
      | true =>
      rw [hl] at ht
      simp only [cond_true, To_val] at ht
      obtain ⟨rfl, rfl⟩ := ht
      have hx' := hx
      simp only [PR] at hx'
      obtain ⟨b, n, h1⟩ := live hl
      obtain rfl := hx'.2 b n h1
      refine OK.pure hr (by rw [core]; rfl) ?_
      simp only [PR]; exact ⟨hx'.1, fun b' n' hb => by rw [h1] at hb; cases hb; rfl⟩
    · rename_i id sz j off
      cases hl : isS (st.obj id) with
      | false => rw [hl] at ht; simp at ht
      | true =>
      rw [hl] at ht
      simp only [cond_true, To_val] at ht
      obtain ⟨rfl, rfl⟩ := ht
      have hx' := hx
      simp only [PR] at hx'
      obtain ⟨b, n, h1⟩ := live hl
      obtain rfl := hx'.2 b n h1
      refine OK.pure hr (by rw [core]; rfl) ?_
      simp only [PR]; exact ⟨hx'.1, fun b' n' hb => by rw [h1] at hb; cases hb; simp [Nat.add_assoc]⟩
    · rename_i s y off
      simp only [To_val] at ht
      obtain ⟨rfl, rfl⟩ := ht
      simp only [PR] at hx
      obtain ⟨b, o, cs, rfl, h1, h2⟩ := hx
      refine OK.pure hr (by rw [core]; rfl) ?_
      simp only [PR]; exact ⟨b, o, cs, by simp [Nat.add_assoc], h1, h2⟩
    · simp at ht
end
end Go.Pe
end
section
namespace Go.Pe
open Go.Det
section
variable {B : Nat} {h0 : H0} {F : Fz} {ρ : Rho} {N : Nat} {C : Ctx} {st st' : PSt} {fr : Fr} {h : H}
theorem SR.live (hr : SR B h0 F ρ st.nx st.ob h) {id : Nat} (hi : isS (st.obj id) = true) : ∃ b n, ρ id = some (b, n) := by
  obtain ⟨o, ho⟩ := isS_some hi
  obtain ⟨b, n, _, h1, _⟩ := hr.at ho
  exact ⟨b, n, h1⟩
theorem ofNat_of {i : Int} (h : 0 ≤ i) : ∃ n : Nat, i = Int.ofNat n ∧ i.toNat = n := ⟨i.toNat, (Int.toNat_of_nonneg h).symm, rfl⟩
theorem blt_true {a b : Nat} (h : a < b) : Nat.blt a b = true := Nat.ble_eq_true_of_le h
theorem s_iaddr0 (hr : SR B h0 F ρ st.nx st.ob h) {t : TypeId} {p q : PV} {x y : V} (hx : PR F ρ st.nx p x) (hy : PR F ρ st.nx q y) {v : PV} (ht : (piaddr0 C.T t p q st).To v st') :
    OK B h0 F ρ st h [] (okv h (diaddr C.T t x y)) v st' := by
  unfold piaddr0 at ht
  split at ht
  case h_3 => simp at ht
  case h_2 =>
    rename_i alen e k i hu
    obtain rfl := pr_int hy
    split at ht
    case h_2 => simp at ht
    rename_i ti hti
    split at ht
    case h_4 => simp at ht
    case h_1 =>
      rename_i id off
      cases hl : isS (st.obj id) with
      | false => rw [hl] at ht; simp at ht
      | true =>
        rw [hl] at ht
        simp only [cond_true, To_chk, Bool.and_eq_true, decide_eq_true_eq] at ht
        obtain ⟨⟨hi0, hi1⟩, rfl, rfl⟩ := ht
        obtain ⟨n, rfl, hn⟩ := ofNat_of hi0
        have hlt : n < alen := by simp at hi1; exact hi1
        obtain ⟨b, m, h1⟩ := hr.live hl
        simp only [PR] at hx
        obtain rfl := hx.2 b m h1
        refine OK.pure hr (v' := .ptr b (off + n * ti.size)) ?_ ?_
        · show okv h (diaddr C.T t (.ptr b off) (.int k (Int.ofNat n))) = _
          simp only [diaddr, hu, hti, blt_true hlt, cond_true, okv]
        · simp only [PR]
          refine ⟨hx.1, fun b' n' hb => ?_⟩
          rw [h1] at hb; cases hb
          rw [hn]; rfl
    case h_2 =>
      rename_i id sz j off
      cases hl : isS (st.obj id) with
      | false => rw [hl] at ht; simp at ht
      | true =>
        rw [hl] at ht
        simp only [cond_true, To_chk, Bool.and_eq_true, decide_eq_true_eq] at ht
        obtain ⟨⟨hi0, hi1⟩, rfl, rfl⟩ := ht
        obtain ⟨n, rfl, hn⟩ := ofNat_of hi0
        have hlt : n < alen := by simp at hi1; exact hi1
        obtain ⟨b, m, h1⟩ := hr.live hl
        simp only [PR] at hx
        obtain rfl := hx.2 b m h1
        refine OK.pure hr (v' := .ptr b (j * sz + off + n * ti.size)) ?_ ?_
        · show okv h (diaddr C.T t (.ptr b (j * sz + off)) (.int k (Int.ofNat n))) = _
          simp only [diaddr, hu, hti, blt_true hlt, cond_true, okv]
        · simp only [PR]
          refine ⟨hx.1, fun b' n' hb => ?_⟩
          rw [h1] at hb; cases hb
          rw [hn, Nat.add_assoc]; rfl
    case h_3 =>
      rename_i s y off
      simp only [To_chk, Bool.and_eq_true, decide_eq_true_eq] at ht
      obtain ⟨⟨hi0, hi1⟩, rfl, rfl⟩ := ht
      obtain ⟨n, rfl, hn⟩ := ofNat_of hi0
      have hlt : n < alen := by simp at hi1; exact hi1
      simp only [PR] at hx
      obtain ⟨b, o, cs, rfl, h1, h2, h3⟩ := hx
      refine OK.pure hr (v' := .ptr b (o + off + n * ti.size)) ?_ ?_
      · show okv h (diaddr C.T t (.ptr b (o + off)) (.int k (Int.ofNat n))) = _
        simp only [diaddr, hu, hti, blt_true hlt, cond_true, okv]
      · simp only [PR]
        refine ⟨b, o, cs, ?_, h1, h2, h3⟩
        rw [hn, Nat.add_assoc]; rfl
  case h_1 =>
  rename_i e k i hu
  obtain rfl := pr_int hy
  split at ht
  case h_2 => simp at ht
  rename_i ti hti
  split at ht
  case h_3 => simp at ht
  case h_1 =>
    rename_i s l
    cases hz : Nat.beq ti.size s.sz with
    | false => rw [hz] at ht; simp at ht
    | true =>
      rw [hz] at ht
      have hz := Nat.eq_of_beq_eq_true hz
      simp only [cond_true, To_chk, Bool.and_eq_true, decide_eq_true_eq] at ht
      obtain ⟨⟨hi0, hi1⟩, rfl, rfl⟩ := ht
      obtain ⟨n, rfl, hn⟩ := ofNat_of hi0
      have hlt : n < l.length := by simp at hi1; exact hi1
      simp only [PR, DC] at hx
      obtain ⟨u, hu1, hx⟩ := hx
      obtain rfl : x = u := by simpa using hu1
      rcases hx with ⟨rfl, _⟩ | ⟨b, off, cap, o, bs, rfl, h1, h2, h3, _, h4⟩
      · simp at hlt
      · refine OK.pure hr (v' := .ptr b (off + n * ti.size)) ?_ ?_
        · show okv h (diaddr C.T t (.sl b off l.length cap o) (.int k (Int.ofNat n))) = _
          simp only [diaddr, hu, hti, blt_true hlt, cond_true, okv]
        · simp only [PR]
          refine ⟨b, off + n * s.sz, bs, by rw [hz]; rfl, h2, ?_, ?_⟩
          · have : (n + 1) * s.sz ≤ l.length * s.sz := Nat.mul_le_mul_right _ hlt
            rw [Nat.succ_mul] at this; omega
          · have := h4 n hlt
            rw [hn, show l.getD n s.dflt = l[n] from by simp [hlt]]
            exact this
  case h_2 =>
    rename_i id sz off len cap
    cases hz : (Nat.beq ti.size sz && isS (st.obj id)) with
    | false => rw [hz] at ht; simp at ht
    | true =>
      rw [hz] at ht
      simp only [Bool.and_eq_true] at hz
      obtain ⟨hz, hl⟩ := hz
      have hz := Nat.eq_of_beq_eq_true hz
      simp only [cond_true, To_chk, Bool.and_eq_true, decide_eq_true_eq] at ht
      obtain ⟨⟨hi0, hi1⟩, rfl, rfl⟩ := ht
      obtain ⟨n, rfl, hn⟩ := ofNat_of hi0
      have hlt : n < len := by simp at hi1; exact hi1
      obtain ⟨b, m, h1⟩ := hr.live hl
      simp only [PR] at hx
      rcases hx.2 b m h1 with ⟨_, _, o, _, rfl⟩ | ⟨e0, _⟩
      · refine OK.pure hr (v' := .ptr b (off * sz + n * ti.size)) ?_ ?_
        · show okv h (diaddr C.T t (.sl b (off * sz) len _ o) (.int k (Int.ofNat n))) = _
          simp only [diaddr, hu, hti, blt_true hlt, cond_true, okv]
        · simp only [PR]
          refine ⟨hx.1, fun b' n' hb => ?_⟩
          rw [h1] at hb; cases hb
          rw [hz, hn]
          show V.ptr b (off * sz + n * sz) = .ptr b ((n + off) * sz + 0)
          rw [Nat.add_mul, Nat.add_comm (n * sz)]; rfl
      · omega
theorem s_index (hr : SR B h0 F ρ st.nx st.ob h) {t : TypeId} {p q : PV} {x y : V} (hx : PR F ρ st.nx p x) (hy : PR F ρ st.nx q y) {v : PV} (ht : (pindex C.T t p q st).To v st') :
    OK B h0 F ρ st h [] (okv h (dindex C.T t x y)) v st' := by
  unfold pindex at ht
  split at ht
  case h_3 => simp at ht
  case h_2 =>
    rename_i alen e ps k i hu
    obtain rfl := pr_int hy
    split at ht
    case h_2 => simp at ht
    rename_i d ti hd hti
    simp only [To_ovc, Bool.and_eq_true, decide_eq_true_eq] at ht
    obtain ⟨⟨hi0, hi1⟩, hpk, rfl⟩ := ht
    obtain ⟨n, rfl, hn⟩ := ofNat_of hi0
    have hlt : n < alen := by simp at hi1; exact hi1
    simp only [PR] at hx
    obtain ⟨cs, rfl, hps⟩ := hx
    rw [ldrop', hn] at hpk
    have hp := hps.drop (n * ti.size)
    have hdx : dindex C.T t (.agg cs) (.int k (Int.ofNat n)) = dpart C.T e cs (n * ti.size) := by simp only [dindex, hu, hti, blt_true hlt, cond_true]
    rcases pick_rel hp hpk with ⟨ha, _, _, hv⟩ | ⟨ha, u, us, e', hv⟩
    · exact OK.pure hr (by rw [hdx]; simp only [dpart, hd, hti, ha, cond_true, okv]) hv
    · have : cs[n * ti.size]? = some u := by
        have := congrArg (·[0]?) e'
        simpa using this
      exact OK.pure hr (by rw [hdx]; simp only [dpart, hd, hti, ha, cond_false, this, okv]) hv
  case h_1 =>
  rename_i s k i hu
  obtain rfl := pr_str hx
  obtain rfl := pr_int hy
  simp only [To_chk, Bool.and_eq_true, decide_eq_true_eq] at ht
  obtain ⟨⟨hi0, hi1⟩, rfl, rfl⟩ := ht
  obtain ⟨n, rfl, hn⟩ := ofNat_of hi0
  have hlt : n < List.length s := by simp at hi1; exact hi1
  have hg : (s : List UInt8)[n]? = some (s : List UInt8)[n] := List.getElem?_eq_getElem hlt
  refine OK.pure hr (v' := .int .u8 ((s : List UInt8)[n].toNat : Int)) ?_ ?_
  · show okv h (dindex C.T t (.str s) (.int k (Int.ofNat n))) = _
    simp only [dindex, hu, hg, okv]
  · rw [hn, show List.getD (s : List UInt8) n 0 = (s : List UInt8)[n] from by simp [hlt]]
    exact mk_int _ _
theorem s_extract (hr : SR B h0 F ρ st.nx st.ob h) {p : PV} {x : V} (hx : PR F ρ st.nx p x) {i : Nat} {v : PV} (ht : (pextract p i st).To v st') : OK B h0 F ρ st h [] (okv h (dextract x i)) v st' := by
  unfold pextract at ht
  split at ht
  case h_2 => simp at ht
  rename_i ps
  split at ht
  case h_2 => simp at ht
  rename_i q hq
  simp only [To_val] at ht
  obtain ⟨rfl, rfl⟩ := ht
  simp only [PR] at hx
  obtain ⟨cs, rfl, hps⟩ := hx
  obtain ⟨u, h1, h2⟩ := hps.get hq
  exact OK.pure hr (by simp only [dextract, h1, okv]) h2
/-- optional values -/
def ORp (F : Fz) (ρ : Rho) (N : Nat) : Option PV → Option V → Prop
  | none, x => x = none
  | some p, x => ∃ v, x = some v ∧ PR F ρ N p v
theorem pb_rel {o : Option PV} {x : Option V} {d : Nat} {c : Bool} {n : Nat} (hx : ORp F ρ N o x) (hp : pb o d = some (c, n)) (hc : c = true) {y : Nat} (hy : n ≤ y) : bnd x y d = some n := by
  unfold pb at hp
  split at hp
  · cases hp; simp only [ORp] at hx; subst hx; rfl
  · cases hp
    simp only [ORp] at hx
    obtain ⟨v, rfl, hv⟩ := hx
    obtain rfl := pr_int hv
    simp only [decide_eq_true_eq] at hc
    obtain ⟨m, rfl, hm⟩ := ofNat_of hc
    rw [hm] at hy
    show (bif Nat.ble m y then some m else none) = _
    rw [Nat.ble_eq_true_of_le hy, hm]; rfl
  · cases hp
theorem ORp.isNone {o : Option PV} {x : Option V} (hx : ORp F ρ N o x) : (o = none ↔ x = none) := by
  cases o with
  | none => simp only [ORp] at hx; simp [hx]
  | some p => simp only [ORp] at hx; obtain ⟨v, rfl, _⟩ := hx; simp
theorem dslice_sl {T : Tab} {t e : TypeId} {ti : TI} {b off len cap o m hh l : Nat} {lo hi mx : Option V} (hu : T.und t = some (.slice e)) (hti : T.inf e = some ti) (hm : bnd mx cap cap = some m) (hb : bnd hi m len = some hh)
    (hl : bnd lo hh 0 = some l) (hno : hi = none → mx = none) :
    dslice T t (.sl b off len cap o) lo hi mx = bif Nat.beq m l then (bif Nat.beq (oof mx o) 0 then some (.sl b off (hh - l) (m - l) 0) else some .esl)
      else bif Nat.beq (oof mx o) 0 || Nat.beq (oof mx o) ti.size then some (.sl b (off + l * ti.size) (hh - l) (m - l) (oof mx o)) else none := by
  cases hi with
  | some x => cases mx <;> simp only [dslice, hu, hti, hm, hb, hl]
  | none =>
    cases hno rfl
    simp only [dslice, hu, hti, hm, hb, hl]
theorem s_slice0 (hr : SR B h0 F ρ st.nx st.ob h) {t : TypeId} {p : PV} {x : V} {lo hi mx : Option PV} {a b c : Option V} (hx : PR F ρ st.nx p x) (hlo : ORp F ρ st.nx lo a) (hhi : ORp F ρ st.nx hi b) (hmx : ORp F ρ st.nx mx c)
    {v : PV} (ht : (pslice0 C.T t p lo hi mx st).To v st') : OK B h0 F ρ st h [] (okv h (dslice C.T t x a b c)) v st' := by
  unfold pslice0 at ht
  split at ht
  case h_3 => simp at ht
  case h_1 =>
    rename_i hu
    split at ht
    case h_2 => simp at ht
    rename_i s
    obtain rfl := pr_str hx
    split at ht
    case h_2 => simp at ht
    rename_i c1 l c2 hh hb1 hb2
    simp only [To_chk, Bool.and_eq_true, decide_eq_true_eq] at ht
    obtain ⟨⟨⟨⟨k1, k2⟩, k3⟩, k4⟩, rfl, rfl⟩ := ht
    simp only [ORp] at hmx; subst hmx
    have e1 := pb_rel hlo hb1 k1 k3
    have e2 := pb_rel hhi hb2 k2 k4
    exact OK.pure hr (by simp only [dslice, hu, e1, e2, okv]; rfl) (mk_str _)
  case h_2 =>
    rename_i e hu
    split at ht
    case h_2 => simp at ht
    rename_i ti hti
    split at ht
    case h_4 => simp at ht
    case h_1 =>
      rename_i s xs
      cases hz : Nat.beq ti.size s.sz with
      | false => rw [hz] at ht; simp at ht
      | true =>
        rw [hz] at ht
        have hz := Nat.eq_of_beq_eq_true hz
        simp only [cond_true] at ht
        split at ht
        case h_2 => simp at ht
        rename_i c1 l c2 hh hb1 hb2
        simp only [To_chk, Bool.and_eq_true, decide_eq_true_eq] at ht
        obtain ⟨⟨⟨⟨k1, k2⟩, k3⟩, k4⟩, rfl, rfl⟩ := ht
        simp only [ORp] at hmx; subst hmx
        have e1 := pb_rel hlo hb1 k1 k3
        simp only [PR, DC] at hx
        obtain ⟨u, hu1, hx⟩ := hx
        obtain rfl : x = u := by simpa using hu1
        rcases hx with ⟨rfl, rfl | rfl | rfl⟩ | ⟨bb, off, cap, o, bs, rfl, h1, h2, h3, h5, h4⟩
        · have e2 := pb_rel hhi hb2 k2 k4
          simp only [List.length_nil] at e2 k4
          refine OK.pure hr (v' := .nils) (by simp only [dslice, hu, show bnd none 0 0 = some 0 from rfl, show hib b none = bnd b 0 0 from by cases b <;> rfl, e1, e2, hti, okv]) ?_
          simp [PR, DC]
        · have e2 := pb_rel hhi hb2 k2 k4
          simp only [List.length_nil] at e2 k4
          refine OK.pure hr (v' := .esl) (by simp only [dslice, hu, show bnd none 0 0 = some 0 from rfl, show hib b none = bnd b 0 0 from by cases b <;> rfl, e1, e2, hti, okv, isSm, cond_false]) ?_
          simp [PR, DC]
        · have e2 := pb_rel hhi hb2 k2 k4
          simp only [List.length_nil] at e2 k4
          refine OK.pure hr (v' := .es0) (by simp only [dslice, hu, show bnd none 0 0 = some 0 from rfl, show hib b none = bnd b 0 0 from by cases b <;> rfl, e1, e2, hti, okv]) ?_
          simp [PR, DC]
        · have e2 : bnd b cap xs.length = some hh := pb_rel hhi hb2 k2 (Nat.le_trans k4 h1)
          have hds := dslice_sl (b := bb) (off := off) (len := xs.length) (cap := cap) (o := o) (mx := none) hu hti rfl e2 e1 (fun _ => rfl)
          have hlen : ((xs.drop l).take (Nat.sub hh l)).length = hh - l := by
            have : Nat.sub hh l = hh - l := rfl
            rw [this]; simp; omega
          by_cases hcl : cap = l
          · have hhl : hh = l := by omega
            have hemp : (xs.drop l).take (Nat.sub hh l) = [] := by
              apply List.eq_nil_of_length_eq_zero; rw [hlen]; omega
            rw [hemp]
            by_cases ho : o = 0
            · refine OK.pure hr (v' := .sl bb off (hh - l) (cap - l) 0) ?_ ?_
              · have : oof none o = 0 := ho
                rw [hds, this, hcl, Nat.beq_refl]; rfl
              · simp only [PR, DC]
                exact ⟨_, rfl, .inr ⟨bb, off, cap - l, 0, bs, by simp [hhl], by simp, h2, by simp; omega, .inl rfl, fun i hi => by simp at hi⟩⟩
            · refine OK.pure hr (v' := .esl) ?_ ?_
              · have h1 : Nat.beq (oof none o) 0 = false := by rw [beq_t]; simp [oof, ho]
                rw [hds, h1, hcl, Nat.beq_refl]; rfl
              · simp [PR, DC]
          · refine OK.pure hr (v' := .sl bb (off + l * ti.size) (hh - l) (cap - l) o) ?_ ?_
            · have hb1 : Nat.beq cap l = false := by rw [beq_t]; simp [hcl]
              have ho : (Nat.beq (oof none o) 0 || Nat.beq (oof none o) ti.size) = true := by
                rcases h5 with rfl | rfl
                · rfl
                · rw [hz]; show (Nat.beq s.sz 0 || Nat.beq s.sz s.sz) = true
                  rw [Nat.beq_refl, Bool.or_true]
              rw [hds, hb1, ho]; rfl
            · simp only [PR, DC]
              refine ⟨_, rfl, .inr ⟨bb, off + l * ti.size, cap - l, o, bs, by rw [hlen], by rw [hlen]; omega, h2, ?_, h5, fun i hi => ?_⟩⟩
              · rw [hlen, hz]
                have : (l + (hh - l)) * s.sz ≤ xs.length * s.sz := Nat.mul_le_mul_right _ (by omega)
                rw [Nat.add_mul] at this; omega
              · rw [hlen] at hi
                have hi2 : l + i < xs.length := by omega
                have := h4 (l + i) hi2
                rw [List.getElem_take, List.getElem_drop, hz]
                rw [Nat.add_mul, ← Nat.add_assoc] at this
                exact this
    case h_2 =>
      rename_i id sz off len cap
      cases hz : (Nat.beq ti.size sz && isS (st.obj id)) with
      | false => rw [hz] at ht; simp at ht
      | true =>
        rw [hz] at ht
        simp only [Bool.and_eq_true] at hz
        obtain ⟨hz, hl⟩ := hz
        have hz := Nat.eq_of_beq_eq_true hz
        simp only [cond_true] at ht
        have hno : ¬ (hi = none ∧ mx ≠ none) := by
          rintro ⟨rfl, hm⟩
          cases mx with
          | none => exact hm rfl
          | some _ => simp at ht
        split at ht
        case h_1 => simp at ht
        split at ht
        case h_2 => simp at ht
        rename_i c1 l c2 hh c3 m hb1 hb2 hb3
        simp only [To_chk, Bool.and_eq_true, decide_eq_true_eq] at ht
        obtain ⟨⟨⟨⟨⟨⟨⟨k1, k2⟩, k3⟩, k4⟩, k5⟩, k6⟩, k7⟩, rfl, rfl⟩ := ht
        have e1 := pb_rel hlo hb1 k1 k4
        have e3 := pb_rel hmx hb3 k3 k6
        have e2 := pb_rel hhi hb2 k2 k5
        have hno' : b = none → c = none := by
          intro hbn
          cases hcc : c with
          | none => rfl
          | some z =>
            exfalso; apply hno
            exact ⟨hhi.isNone.2 hbn, fun e => by have := hmx.isNone.1 e; rw [this] at hcc; cases hcc⟩
        obtain ⟨b0, n0, h1⟩ := hr.live hl
        simp only [PR] at hx
        rcases hx.2 b0 n0 h1 with ⟨g1, g2, o, g3, rfl⟩ | ⟨rfl, rfl, g2, g3⟩
        · have hds := dslice_sl (b := b0) (off := off * sz) (len := len) (cap := cap.getD len) (o := o) hu hti e3 e2 e1 hno'
          have hoz : oof c o = 0 ∨ oof c o = sz := by
            unfold oof; cases c with
            | none => exact g3
            | some _ => exact .inl rfl
          by_cases hml : m = l
          · have hhl : hh - l = 0 := by omega
            by_cases ho : oof c o = 0
            · refine OK.pure hr (v' := .sl b0 (off * sz) (hh - l) (m - l) 0) ?_ ?_
              · rw [hds, ho, hml, Nat.beq_refl]; rfl
              · unfold PR
                refine ⟨hx.1, fun b' n' hb => .inr ?_⟩
                rw [h1] at hb; cases hb
                refine ⟨hhl, ?_, ?_, .inr ⟨off * sz, by rw [hhl, hml, Nat.sub_self], Nat.mul_le_mul_right _ (Nat.le_add_right _ _)⟩⟩
                · show some (m - l) = some 0; rw [hml, Nat.sub_self]
                · show off + l ≤ n0; omega
            · refine OK.pure hr (v' := .esl) ?_ ?_
              · have hb0 : Nat.beq (oof c o) 0 = false := by rw [beq_t]; simp [ho]
                rw [hds, hb0, hml, Nat.beq_refl]; rfl
              · unfold PR
                refine ⟨hx.1, fun b' n' hb => .inr ?_⟩
                rw [h1] at hb; cases hb
                refine ⟨hhl, ?_, ?_, .inl rfl⟩
                · show some (m - l) = some 0; rw [hml, Nat.sub_self]
                · show off + l ≤ n0; omega
          · refine OK.pure hr (v' := .sl b0 (off * sz + l * ti.size) (hh - l) (m - l) (oof c o)) ?_ ?_
            · have hb1 : Nat.beq m l = false := by rw [beq_t]; simp [hml]
              have ho : (Nat.beq (oof c o) 0 || Nat.beq (oof c o) ti.size) = true := by
                rcases hoz with e | e
                · rw [e]; rfl
                · rw [e, hz, Nat.beq_refl, Bool.or_true]
              rw [hds, hb1, ho]; rfl
            · unfold PR
              refine ⟨hx.1, fun b' n' hb => .inl ?_⟩
              rw [h1] at hb; cases hb
              refine ⟨?_, ?_, oof c o, hoz, ?_⟩
              · show hh - l ≤ m - l; omega
              · show off + l + (m - l) ≤ n0; omega
              · show V.sl b0 (off * sz + l * ti.size) (hh - l) (m - l) (oof c o) = .sl b0 ((off + l) * sz) (hh - l) (m - l) (oof c o)
                rw [hz, Nat.add_mul]
        · simp only [Option.getD_some] at k6 k7 e3
          obtain rfl : m = 0 := by omega
          obtain rfl : hh = 0 := by omega
          obtain rfl : l = 0 := by omega
          have hc : c = none := by
            cases mx with
            | none => exact hmx
            | some _ => simp [has] at k7
          subst hc
          rcases g3 with rfl | ⟨off', rfl, g4⟩
          · refine OK.pure hr (v' := .esl) (by simp only [dslice, hu, hti, show bnd none 0 0 = some 0 from rfl, show hib b none = bnd b 0 0 from by cases b <;> rfl, e2, e1, okv, isSm, cond_false]) ?_
            unfold PR
            exact ⟨hx.1, fun b' n' hb => .inr ⟨by rfl, by rfl, by rw [h1] at hb; cases hb; exact g2, .inl rfl⟩⟩
          · refine OK.pure hr (v' := .sl b0 off' 0 0 0) ?_ ?_
            · rw [dslice_sl (mx := none) hu hti rfl e2 e1 (fun _ => rfl)]; rfl
            · unfold PR
              refine ⟨hx.1, fun b' n' hb => .inr ⟨rfl, rfl, ?_, .inr ⟨off', ?_, ?_⟩⟩⟩
              · rw [h1] at hb; cases hb; exact g2
              · rw [h1] at hb; cases hb; rfl
              · show off' ≤ (off + 0) * sz; exact g4
    case h_3 =>
      split at ht
      case h_2 => simp at ht
      rename_i c1 l c2 hh hb1 hb2
      simp only [To_chk, Bool.and_eq_true, decide_eq_true_eq] at ht
      obtain ⟨⟨⟨⟨k1, k2⟩, k3⟩, k4⟩, rfl, rfl⟩ := ht
      simp only [ORp] at hmx; subst hmx
      have e1 := pb_rel hlo hb1 k1 k3
      have e2 := pb_rel hhi hb2 k2 k4
      simp only [PR] at hx; subst hx
      exact OK.pure hr (v' := .nils) (by simp only [dslice, hu, show bnd none 0 0 = some 0 from rfl, show hib b none = bnd b 0 0 from by cases b <;> rfl, e1, e2, hti, okv]) (by simp [PR])
theorem s_iaddr (hr : SR B h0 F ρ st.nx st.ob h) {t : TypeId} {p q : PV} {x y : V} (hx : PR F ρ st.nx p x) (hy : PR F ρ st.nx q y) {v : PV} (ht : (piaddr C.T t p q st).To v st') :
    OK B h0 F ρ st h [] (okv h (diaddr C.T t x y)) v st' := s_iaddr0 hr hx.lz hy ht
theorem s_slice (hr : SR B h0 F ρ st.nx st.ob h) {t : TypeId} {p : PV} {x : V} {lo hi mx : Option PV} {a b c : Option V} (hx : PR F ρ st.nx p x) (hlo : ORp F ρ st.nx lo a) (hhi : ORp F ρ st.nx hi b) (hmx : ORp F ρ st.nx mx c)
    {v : PV} (ht : (pslice C.T t p lo hi mx st).To v st') : OK B h0 F ρ st h [] (okv h (dslice C.T t x a b c)) v st' := s_slice0 hr hx.lz hlo hhi hmx ht
end
end Go.Pe
end
