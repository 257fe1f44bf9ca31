import Derived.Test.YtnbinppdjnlhpaaGreatDoorX15
/- A part of the proofs of the laws of one chapter (no law is stated here). Made by program out of texts by AI agents. -/
section
namespace Go.Pe
open Go.Det
section
variable {B : Nat} {h0 : H0} {F : Fz} {ρ : Rho} {N : Nat} {X : PCtx} {st st' : PSt} {fr : Fr} {h h' : H} {Q : PV → Ob → Prop} {n : Nat}
mutual
theorem vbeq_refl : ∀ v : V, V.beq v v = true
  | .bool b => by simp [V.beq]
  | .int k n => by simp [V.beq]
  | .str s => by simp [V.beq]
  | .nilp => rfl
  | .ptr a i => by simp [V.beq]
  | .nils => rfl
  | .sl a b c d e => by simp [V.beq]
  | .esl => rfl
  | .es0 => rfl
  | .junk => rfl
  | .nilm => rfl
  | .map a => by simp [V.beq]
  | .yld a => by simp [V.beq]
  | .nilf => rfl
  | .nili => rfl
  | .fn f a b => by simp only [V.beq, vsbeq_refl a, vsbeq_refl b, Bool.and_true, beq_iff_eq]
  | .iface t x => by simp only [V.beq, vbeq_refl x, Bool.and_true]; exact Nat.beq_refl t
  | .agg a => by simp only [V.beq]; exact vsbeq_refl a
  | .tup a => by simp only [V.beq]; exact vsbeq_refl a
theorem vsbeq_refl : ∀ vs : List V, V.beqs vs vs = true
  | [] => rfl
  | v :: vs => by simp only [V.beqs, vbeq_refl v, vsbeq_refl vs, Bool.and_true]
end
theorem dload_in {T : Tab} {t : TypeId} {a x : V} (hd : dload T h t a = some x) : ∃ b off o, a = .ptr b off ∧ h.get b = some o ∧ (∀ g : H, g.get b = h.get b → dload T g t a = some x) ∧
    ∀ (g : H) cs t1 f1 t2 f2, h.get b = some (.cells cs t1 f1) → g.get b = some (.cells cs t2 f2) → dload T g t a = some x := by
  unfold dload at hd
  split at hd
  case h_2 => cases hd
  rename_i b off d i e1 e2
  have hb : ∃ o, h.get b = some o := by
    cases hg : h.get b with
    | some o => exact ⟨o, rfl⟩
    | none =>
      unfold rd at hd
      rw [hg] at hd
      cases isAggD d <;> simp at hd
  obtain ⟨o, ho⟩ := hb
  refine ⟨b, off, o, rfl, ho, fun g hg => ?_, fun g cs t1 f1 t2 f2 k1 k2 => ?_⟩
  · unfold dload
    simp only [e1, e2]
    unfold rd at hd ⊢
    rw [hg]; exact hd
  · unfold dload
    simp only [e1, e2]
    unfold rd at hd ⊢
    rw [k1] at hd; rw [k2]; exact hd
/-- the value of a load, the same in every memory with the same cells in some blocks, and in those that nobody writes -/
def Stable (C : Ctx) (F : Fz) (bl : List Nat) (h : H) (fr : Fr) (o : Oper) (x : V) : Prop :=
  ∀ g : H, (∀ b cs, F b = some cs → ∃ t fz, g.get b = some (.cells cs t fz)) → (∀ b ∈ bl, g.get b = h.get b) → ∃ z, dop C fr g o = some (.val x z)
theorem DC_map : ∀ {s : Sh} {x : s.T} {cs : List V} {b : Nat}, DC F s x cs → V.map b ∉ cs
  | .int _, _, _, _, h, hm => by simp only [DC] at h; subst h; cases List.mem_singleton.1 hm
  | .bool, _, _, _, h, hm => by simp only [DC] at h; subst h; cases List.mem_singleton.1 hm
  | .str, _, _, _, h, hm => by simp only [DC] at h; subst h; cases List.mem_singleton.1 hm
  | .list s, l, _, _, h, hm => by
    simp only [DC] at h
    obtain ⟨v, rfl, h⟩ := h
    obtain rfl := List.mem_singleton.1 hm
    rcases h with ⟨_, h | h | h⟩ | ⟨b, off, cap, o, bs, h, _⟩ <;> cases h
  | .pair a b, x, _, _, h, hm => by
    simp only [DC] at h
    obtain ⟨c, d, rfl, h1, h2⟩ := h
    rcases List.mem_append.1 hm with hm | hm
    · exact DC_map h1 hm
    · exact DC_map h2 hm
  | .unit, _, _, _, h, hm => by simp only [DC] at h; subst h; cases hm
  | .fnv, x, _, _, h, hm => by simp only [DC] at h; subst h; have := List.mem_singleton.1 hm; revert this; cases (x : Option Fn) <;> intro h <;> cases h
  | .nlist s, l, _, _, h, hm => by
    simp only [DC] at h
    obtain ⟨v, rfl, h⟩ := h
    obtain rfl := List.mem_singleton.1 hm
    rcases h with ⟨_, h⟩ | ⟨_, b, off, cap, o, bs, h, _⟩ <;> cases h
theorem pr_dat_map {s : Sh} {x : s.T} {b : Nat} (hp : PR F ρ N (.dat s x) (.map b)) : False := by
  simp only [PR] at hp
  exact DC_map hp (List.mem_singleton.2 rfl)
theorem pr_nil_map {b : Nat} (hp : PR F ρ N .nil (.map b)) : False := by
  simp only [PR] at hp; cases hp
theorem len_live (hr : SR B h0 F ρ st.nx st.ob h) {o : Oper} {c : Call} (hop : o.op = .call c) (hcal : c.callee = .builtin .len) {id sz off len : Nat} {cap : Option Nat} (hps : pevs st c.args.toList = some [.sl id sz off len cap]) {u : PV} {s : PSt}
    (ht : (pop o.op X.C.T st).To u s) {b : Nat} (hp : PR F ρ st.nx (.sl id sz off len cap) (.map b)) : False := by
  rw [hop] at ht
  simp only [pop, q_call, hps, hcal, pbuiltin, plen, plen0, List.map_cons, List.map_nil, lz] at ht
  split at ht
  case h_2 => simp at ht
  rename_i t x _ he
  cases he
  split at ht
  case h_3 =>
    rename_i he
    cases he
    cases hl : isS (st.obj id) with
    | false => rw [hl] at ht; simp at ht
    | true =>
      obtain ⟨b', n, h1⟩ := hr.live hl
      simp only [PR] at hp
      rcases hp.2 b' n h1 with ⟨_, _, o, _, h⟩ | ⟨_, _, _, h | ⟨_, h, _⟩⟩ <;> cases h
  all_goals first | (simp at ht; done) | (rename_i he; cases he; done) | (rename_i he _; cases he)
theorem dlen_nomap {T : Tab} {ts : Array TypeId} {a : V} {g : H} (hnm : ∀ b, a ≠ .map b) (h : H) : dlen T g ts [a] = dlen T h ts [a] := by
  unfold dlen
  cases ts[0]? with
  | none => rfl
  | some t =>
    simp only
    cases T.und t with
    | none => cases a <;> rfl
    | some d => cases d <;> cases a <;> first | rfl | (rename_i b; exact absurd rfl (hnm b)) | (rename_i b _; exact absurd rfl (hnm b)) | (rename_i b _ _; exact absurd rfl (hnm b))
theorem rd_stable (hr : Rel B h0 F ρ st fr h) {o : Oper} {x : V} (hd : dop X.C fr h o = some (.val x h)) {l : List Nat} (hl : rdId st o.op = some l) (hto : ∃ u s, (pop o.op X.C.T st).To u s) :
    ∃ bl, Stable X.C F bl h fr o x ∧ ∀ b ∈ bl, b < h.nx ∧ ∃ id ∈ l, id < st.nx ∧ ∀ y, ρ id = some y → y.1 = b := by
  unfold rdId at hl
  rw [dop_eq] at hd
  unfold dop0 at hd
  split at hl
  case h_5 => cases hl
  case h_4 t y i ok hop =>
    simp only [hop] at hd
    have hdop : ∀ g, dop X.C fr g o = (match ev X.C fr y, ev X.C fr i with | some v, some u => okv g (dlookup X.C.T g t v u ok) | _, _ => none) := fun g => by rw [dop_eq]; unfold dop0; simp only [hop]; rfl
    cases hy : ev X.C fr y with
    | none => rw [hy] at hd; cases hd
    | some a =>
      cases hi : ev X.C fr i with
      | none => rw [hy, hi] at hd; cases hd
      | some u =>
        rw [hy, hi] at hd
        simp only at hd
        obtain ⟨x', hx', he⟩ := okv_val hd
        cases he
        have hloc : ∀ g : H, entries g a = entries h a → dlookup X.C.T g t a u ok = some x := by
          intro g hg
          unfold dlookup at hx' ⊢
          rw [hg]; exact hx'
        split at hl
        case h_3 => cases hl
        case h_1 =>
          rename_i id hp
          obtain ⟨a', g1, g2⟩ := pev_rel (C := X.C) hr.fp hp
          rw [hy] at g1; cases g1
          have hent : ∃ es, entries h a = some es := by
            unfold dlookup at hx'
            split at hx'
            case h_2 => cases hx'
            split at hx'
            case h_2 => cases hx'
            rename_i es _ he
            exact ⟨es, he⟩
          obtain ⟨es, he⟩ := hent
          cases hl
          by_cases hmap : ∃ b, a = .map b
          · obtain ⟨b, rfl⟩ := hmap
            have hb : ∃ ob, h.get b = some ob := by
              cases hg : h.get b with
              | none => simp [entries, hg] at he
              | some ob => exact ⟨ob, rfl⟩
            obtain ⟨ob, hb⟩ := hb
            simp only [PR] at g2
            refine ⟨[b], fun g _ hg => ⟨g, ?_⟩, fun b' hb' => ?_⟩
            · rw [hdop, hy, hi]; simp only; rw [hloc g (by simp only [entries, hg b (List.mem_singleton.2 rfl)])]; rfl
            · cases List.mem_singleton.1 hb'
              refine ⟨hr.sr.lt b ob hb, id, List.mem_singleton.2 rfl, g2.1, fun z hz => ?_⟩
              have := g2.2 z.1 z.2 hz
              cases this; rfl
          · refine ⟨[], fun g _ hg => ⟨g, ?_⟩, fun b' hb' => by cases hb'⟩
            rw [hdop, hy, hi]; simp only; rw [hloc g ?_]; rfl
            cases a <;> first | rfl | (rename_i b; exact absurd ⟨b, rfl⟩ hmap)
        case h_2 =>
          rename_i hp
          obtain ⟨a', g1, g2⟩ := pev_rel (C := X.C) hr.fp hp
          rw [hy] at g1; cases g1
          simp only [PR] at g2; subst g2
          cases hl
          refine ⟨[], fun g _ hg => ⟨g, ?_⟩, fun b' hb' => by cases hb'⟩
          rw [hdop, hy, hi]; simp only; rw [hloc g rfl]; rfl
  case h_1 t y hop =>
    simp only [hop] at hd
    have hdop : ∀ g, dop X.C fr g o = (match ev X.C fr y with | some v => okv g (dload X.C.T g t v) | none => none) := fun g => by rw [dop_eq]; unfold dop0; simp only [hop]; rfl
    cases hy : ev X.C fr y with
    | none => rw [hy] at hd; cases hd
    | some a =>
      rw [hy] at hd
      simp only at hd
      obtain ⟨x', hx', he⟩ := okv_val hd
      cases he
      obtain ⟨b, off, ob, rfl, hb, hloc, hfz⟩ := dload_in hx'
      have hblt := hr.sr.lt b ob hb
      have live : ∀ id, id < st.nx → (∀ z, ρ id = some z → z.1 = b) → l = [id] → ∃ bl, Stable X.C F bl h fr o x ∧ ∀ b ∈ bl, b < h.nx ∧ ∃ id ∈ l, id < st.nx ∧ ∀ y, ρ id = some y → y.1 = b := by
        rintro id hlt hid rfl
        refine ⟨[b], fun g _ hg => ⟨g, ?_⟩, fun b' hb' => ?_⟩
        · rw [hdop, hy]; simp only; rw [hloc g (hg b (List.mem_singleton.2 rfl))]; rfl
        · cases List.mem_singleton.1 hb'
          exact ⟨hblt, id, List.mem_singleton.2 rfl, hlt, hid⟩
      split at hl
      case h_4 => cases hl
      case h_1 =>
        rename_i id off' hp
        obtain ⟨a', g1, g2⟩ := pev_rel (C := X.C) hr.fp hp
        rw [hy] at g1; cases g1
        simp only [PR] at g2
        refine live id g2.1 (fun z hz => ?_) (by cases hl; rfl)
        have := g2.2 z.1 z.2 hz
        cases this; rfl
      case h_2 =>
        rename_i id sz j off' hp
        obtain ⟨a', g1, g2⟩ := pev_rel (C := X.C) hr.fp hp
        rw [hy] at g1; cases g1
        simp only [PR] at g2
        refine live id g2.1 (fun z hz => ?_) (by cases hl; rfl)
        have := g2.2 z.1 z.2 hz
        cases this; rfl
      case h_3 =>
        rename_i s y' off' hp
        obtain ⟨a', g1, g2⟩ := pev_rel (C := X.C) hr.fp hp
        rw [hy] at g1; cases g1
        simp only [PR] at g2
        obtain ⟨b', o', cs, he, hF, _⟩ := g2
        cases he
        obtain ⟨t1, f1, k1⟩ := hr.sr.frz b cs hF
        refine ⟨[], fun g hg _ => ⟨g, ?_⟩, fun b' hb' => by cases hb'⟩
        obtain ⟨t2, f2, k2⟩ := hg b cs hF
        rw [hdop, hy]; simp only; rw [hfz g cs t1 f1 t2 f2 k1 k2]; rfl
  case h_2 s d y hop =>
    simp only [hop] at hd
    have hdop : ∀ g, dop X.C fr g o = (match ev X.C fr y with | some v => okv g (dconv X.C.T g s d v) | none => none) := fun g => by rw [dop_eq]; unfold dop0; simp only [hop]; rfl
    have fin : ∀ a, ev X.C fr y = some a → (∀ g, dconv X.C.T g s d a = dconv X.C.T h s d a) → ∃ bl, Stable X.C F bl h fr o x ∧ ∀ b ∈ bl, b < h.nx ∧ ∃ id ∈ l, id < st.nx ∧ ∀ y, ρ id = some y → y.1 = b := by
      intro a ha hg
      rw [ha] at hd
      simp only at hd
      obtain ⟨x', hx', he⟩ := okv_val hd
      cases he
      exact ⟨[], fun g _ _ => ⟨g, by rw [hdop, ha]; simp only; rw [hg, hx']; rfl⟩, fun b hb => by cases hb⟩
    split at hl
    case h_3 => cases hl
    case h_1 =>
      rename_i k z hp
      obtain ⟨a', g1, g2⟩ := pev_rel (C := X.C) hr.fp hp
      simp only [PR, DC, List.cons.injEq, and_true] at g2
      subst g2
      exact fin _ g1 fun g => by
        unfold dconv
        cases X.C.T.und s with
        | none => rfl
        | some u => cases X.C.T.und d with
          | none => cases u <;> rfl
          | some w => cases u <;> cases w <;> rfl
    case h_2 =>
      rename_i z hp
      obtain ⟨a', g1, g2⟩ := pev_rel (C := X.C) hr.fp hp
      simp only [PR, DC, List.cons.injEq, and_true] at g2
      subst g2
      exact fin _ g1 fun g => by
        unfold dconv
        cases X.C.T.und s with
        | none => rfl
        | some u => cases X.C.T.und d with
          | none => cases u <;> rfl
          | some w => cases u <;> cases w <;> rfl
  case h_3 c hop =>
    simp only [hop] at hd
    split at hl
    case h_5 => cases hl
    case h_4 =>
      rename_i id hcal hps
      obtain ⟨as, g1, g2⟩ := pevs_rel (C := X.C) hr.fp hps
      simp only [PRs] at g2
      obtain ⟨a, as', rfl, g2, rfl⟩ := g2
      have hdop : ∀ g, dop X.C fr g o = okv g (dlen X.C.T g c.argTypes [a]) := fun g => by rw [dop_eq]; unfold dop0; simp only [hop, hcal, g1]; rfl
      simp only [hcal, g1, dbuiltin] at hd
      obtain ⟨x', hx', he⟩ := okv_val hd
      cases he
      cases hl
      by_cases hmap : ∃ b, a = .map b
      · obtain ⟨b, rfl⟩ := hmap
        simp only [PR] at g2
        by_cases hb : ∃ ob, h.get b = some ob
        · obtain ⟨ob, hb⟩ := hb
          refine ⟨[b], fun g _ hg => ⟨g, ?_⟩, fun b' hb' => ?_⟩
          · rw [hdop]
            have : dlen X.C.T g c.argTypes [.map b] = dlen X.C.T h c.argTypes [.map b] := by
              unfold dlen
              cases c.argTypes[0]? with
              | none => rfl
              | some t =>
                simp only
                cases X.C.T.und t with
                | none => rfl
                | some d => cases d <;> first | rfl | simp only [hg b (List.mem_singleton.2 rfl)]
            rw [this, hx']; rfl
          · cases List.mem_singleton.1 hb'
            refine ⟨hr.sr.lt b ob hb, id, List.mem_singleton.2 rfl, g2.1, fun z hz => ?_⟩
            have := g2.2 z.1 z.2 hz
            cases this; rfl
        · have hnone : h.get b = none := by
            cases hg : h.get b with
            | none => rfl
            | some ob => exact absurd ⟨ob, hg⟩ hb
          refine ⟨[], fun g _ _ => ⟨g, ?_⟩, fun b' hb' => by cases hb'⟩
          obtain ⟨uu, s, ht⟩ := hto
          exfalso
          rw [hop] at ht
          simp only [pop, q_call, hps, hcal, pbuiltin, plen, plen0, List.map_cons, List.map_nil, lz] at ht
          split at ht
          case h_2 => simp at ht
          rename_i t x _ he
          cases he
          split at ht
          case h_5 =>
            rename_i he
            cases he
            split at ht
            case h_2 => simp at ht
            rename_i ks vs l ho
            obtain ⟨b1, n1, o1, q1, q2, _⟩ := hr.sr.at ho
            have := g2.2 b1 n1 q1
            cases this
            rw [hnone] at q2; cases q2
          all_goals first | (simp at ht; done) | (rename_i he; cases he; done) | (rename_i he _; cases he)
      · refine ⟨[], fun g _ _ => ⟨g, ?_⟩, fun b hb => by cases hb⟩
        rw [hdop, dlen_nomap (fun b e => hmap ⟨b, e⟩) h, hx']; rfl
    all_goals
      rename_i hcal hps
      obtain ⟨as, g1, g2⟩ := pevs_rel (C := X.C) hr.fp hps
      simp only [PRs] at g2
      obtain ⟨a, as', rfl, g2, rfl⟩ := g2
      have hdop : ∀ g, dop X.C fr g o = okv g (dlen X.C.T g c.argTypes [a]) := fun g => by rw [dop_eq]; unfold dop0; simp only [hop, hcal, g1]; rfl
      simp only [hcal, g1, dbuiltin] at hd
      have hnm : ∀ b, a ≠ .map b := by
        intro b e
        subst e
        first
          | exact pr_dat_map g2
          | exact pr_nil_map g2
          | (obtain ⟨u, s, ht⟩ := hto
             exact len_live hr.sr hop hcal hps ht g2)
      obtain ⟨x', hx', he⟩ := okv_val hd
      cases he
      refine ⟨[], fun g _ _ => ⟨g, ?_⟩, fun b hb => by cases hb⟩
      rw [hdop]
      rw [dlen_nomap hnm h, hx']; rfl
structure RsOk (C : Ctx) (F : Fz) (ρ : Rho) (N : Nat) (h : H) (r : Nat × Option (List Nat)) (c : Rc) : Prop where
  i : c.i = r.1
  k : ∀ l, r.2 = some l → ∃ bl, Stable C F bl h c.f c.o c.v ∧ ∀ b ∈ bl, b < h.nx ∧ ∃ id ∈ l, id < N ∧ ∀ y, ρ id = some y → y.1 = b
def RsR (C : Ctx) (F : Fz) (ρ : Rho) (N : Nat) (h : H) : Rs → List Rc → Prop
  | [], l => l = []
  | r :: rs, l => ∃ c cs, l = c :: cs ∧ RsOk C F ρ N h r c ∧ RsR C F ρ N h rs cs
theorem RsOk.mono {F' : Fz} {ρ' : Rho} {N' : Nat} {r : Nat × Option (List Nat)} {c : Rc} (hk : RsOk X.C F ρ N h r c) (hl : Le F ρ N F' ρ' N') (hx : h.nx ≤ h'.nx)
    (hs : ∀ l, r.2 = some l → ∀ b, b < h.nx → (∃ id ∈ l, id < N ∧ ∀ y, ρ id = some y → y.1 = b) → h'.get b = h.get b) : RsOk X.C F' ρ' N' h' r c := by
  refine ⟨hk.i, fun l hl' => ?_⟩
  obtain ⟨bl, h1, h2⟩ := hk.k l hl'
  refine ⟨bl, fun g hg hb => h1 g (fun b cs hF => hg b cs (hl.fz b cs hF)) (fun b hb' => ?_), fun b hb' => ?_⟩
  · obtain ⟨k1, k2⟩ := h2 b hb'
    rw [hb b hb', hs l hl' b k1 k2]
  · obtain ⟨k1, id, k2, k3, k4⟩ := h2 b hb'
    exact ⟨Nat.lt_of_lt_of_le k1 hx, id, k2, Nat.lt_of_lt_of_le k3 hl.n, fun y hy => k4 y (hl.at k3 hy)⟩
theorem RsR.mono {F' : Fz} {ρ' : Rho} {N' : Nat} (hl : Le F ρ N F' ρ' N') (hx : h.nx ≤ h'.nx) (hs : ∀ b, b < h.nx → h'.get b = h.get b) : ∀ {rs : Rs} {cs : List Rc}, RsR X.C F ρ N h rs cs → RsR X.C F' ρ' N' h' rs cs
  | [], _, hk => hk
  | r :: rs, _, hk => by
    obtain ⟨c, cs, rfl, h1, h2⟩ := hk
    exact ⟨c, cs, rfl, h1.mono hl hx (fun l _ b hb _ => hs b hb), RsR.mono hl hx hs h2⟩
/-- what is touched lies apart: the loads are as they were -/
theorem RsR.apart {F' : Fz} {ρ' : Rho} {fr' : Fr} {anc : Nat → Nat → Bool} {i : Nat} {t : Option (List Nat)} (hr : Rel B h0 F ρ st fr h) (hw : Went B h0 F ρ st.nx h st' fr' h' F' ρ')
    (ht : ∀ ids, t = some ids → ∀ b, b < h.nx → h'.get b = h.get b ∨ ∃ id ∈ ids, ∃ m, ρ id = some (b, m)) :
    ∀ {rs : Rs} {cs : List Rc}, RsR X.C F ρ st.nx h rs cs → Go.Pe.apart anc i st t rs = true → cs.all (still X.C anc i h') = true ∧ RsR X.C F' ρ' st'.nx h' (behind st t rs) cs
  | [], _, hk, _ => by
    cases hk; exact ⟨rfl, rfl⟩
  | r :: rs, _, hk, ha => by
    obtain ⟨c, cs, rfl, h1, h2⟩ := hk
    unfold Go.Pe.apart at ha
    rw [List.all_cons, Bool.and_eq_true] at ha
    obtain ⟨h3, h4⟩ := RsR.apart hr hw ht h2 (by unfold Go.Pe.apart; exact ha.2)
    have key : (disj r.2 t && liveIds st r.2) = true → ∀ l, r.2 = some l → ∀ b, b < h.nx → (∃ id ∈ l, id < st.nx ∧ ∀ y, ρ id = some y → y.1 = b) → h'.get b = h.get b := by
      rintro hd l hl b hb ⟨id, k1, k2, k3⟩
      simp only [Bool.and_eq_true, hl] at hd
      have hlive := List.all_eq_true.1 hd.2 id k1
      obtain ⟨b1, m1, e1⟩ := hr.sr.live hlive
      obtain rfl : b1 = b := k3 _ e1
      cases t with
      | none =>
        cases l with
        | nil => cases k1
        | cons a l => cases hd.1
      | some ids =>
        rcases ht ids rfl b1 hb with e | ⟨id', k4, m, e2⟩
        · exact e
        · exfalso
          obtain ⟨o1, g1⟩ := isS_some hlive
          have g2 : ∃ o2, obGet st.ob id' = some o2 := by
            cases hg : obGet st.ob id' with
            | some o2 => exact ⟨o2, rfl⟩
            | none => rw [hr.sr.dead id' hg] at e2; cases e2
          obtain ⟨o2, g2⟩ := g2
          obtain rfl := hr.sr.inj id id' o1 o2 b1 m1 m g1 g2 e1 e2
          have h5 := List.all_eq_true.1 hd.1 id k1
          simp only [Bool.not_eq_true'] at h5
          have h6 : ids.any (Nat.beq id) = true := List.any_eq_true.2 ⟨id, k4, Nat.beq_refl id⟩
          rw [h6] at h5; cases h5
    refine ⟨?_, c, cs, rfl, ?_, h4⟩
    · rw [List.all_cons, h3, Bool.and_true]
      unfold still
      rw [h1.i]
      cases han : anc i r.1 with
      | true => rfl
      | false =>
        rw [han] at ha
        simp only [Bool.false_or] at ha ⊢
        have hd := ha.1
        have hl : ∃ l, r.2 = some l := by
          cases hr2 : r.2 with
          | some l => exact ⟨l, rfl⟩
          | none => rw [hr2] at hd; simp [disj] at hd
        obtain ⟨l, hl⟩ := hl
        obtain ⟨bl, k1, k2⟩ := h1.k l hl
        obtain ⟨z, hz⟩ := k1 h' (fun b cs hF => hw.rel.sr.frz b cs (hw.le.fz b cs hF)) (fun b hb => key hd l hl b (k2 b hb).1 (k2 b hb).2)
        rw [hz]
        simp only
        exact vbeq_refl _
    · show RsOk X.C F' ρ' st'.nx h' (bif disj r.2 t && liveIds st r.2 then r else (r.1, none)) c
      cases hd : (disj r.2 t && liveIds st r.2) with
      | true => exact h1.mono hw.le hw.nx (key hd)
      | false =>
        exact ⟨h1.i, fun l hl => by cases hl⟩
theorem al_dal {C : Ctx} {o : Oper} (ha : isAl o = true) {r : OR} (hd : dop C fr h o = some r) : ∃ ob f, dal C fr o = some (ob, f) ∧ r = .val (f h.nx) (h.push ob) := by
  rw [dop_eq] at hd
  unfold dop0 at hd
  unfold isAl at ha
  unfold dal
  split at ha
  case h_4 => cases ha
  case h_1 t hop =>
    simp only [hop] at hd ⊢
    unfold dalloc at hd
    cases hi : C.T.inf t with
    | none => rw [hi] at hd; cases hd
    | some i => rw [hi] at hd; cases hd; exact ⟨_, _, rfl, rfl⟩
  case h_2 t x hop =>
    simp only [hop] at hd ⊢
    cases hx : ev C fr x with
    | none => rw [hx] at hd; cases hd
    | some y => rw [hx] at hd; cases hd; exact ⟨_, _, rfl, rfl⟩
  case h_3 t n ps hop =>
    simp only [hop] at hd ⊢
    cases hx : evp C fr ps.toList with
    | none => rw [hx] at hd; cases hd
    | some y =>
      rw [hx] at hd
      simp only at hd ⊢
      unfold dbslice at hd
      unfold bcells
      split at hd
      case h_2 => cases hd
      rename_i e he
      simp only [he]
      split at hd
      case h_2 => cases hd
      rename_i i hi
      simp only [hi]
      cases hc : (Nat.ble (n * i.size) 16777216 && Nat.blt 0 (i.zero.length) && Nat.beq i.zero.length i.size) with
      | false => rw [hc] at hd; cases hd
      | true =>
        rw [hc] at hd
        simp only [cond_true] at hd ⊢
        split at hd
        case h_2 => cases hd
        rename_i cs hcs
        cases hd
        simp only [hcs]
        exact ⟨_, _, rfl, rfl⟩
theorem rd_no {T : Tab} {call : PCall} {st : PSt} {o : Oper} {k : PSt → Tr} (hrd : isRd o = true) : stepOp T call o st k = runPO o.dst k (pop o.op T st) := by
  have : callOf st o.op = .no := by
    unfold isRd at hrd
    unfold callOf
    cases hop : o.op <;> rw [hop] at hrd <;> first | rfl | skip
    case call c =>
      obtain ⟨callee, args, ts⟩ := c
      cases callee <;> first | rfl | (cases hrd)
  unfold stepOp
  rw [this]
/-- a load, and what lies in no memory -/
theorem sim_rd {call : PCall} (hcall : CallOk B h0 X false call) (hr : Rel B h0 F ρ st fr h) {o : Oper} (hrd : isRd o = true) {k : PSt → Tr} (he : Ev X Q n (stepOp X.C.T call o st k)) :
    ∃ n', n' ≤ n ∧ ∃ st1, Ev X Q n' (k st1) ∧ ∃ F' ρ' x fr', dop X.C fr h o = some (.val x h) ∧ fr.put o.dst x = some fr' ∧ Went B h0 F ρ st.nx h st1 fr' h F' ρ' ∧ ∃ u s, (pop o.op X.C.T st).To u s := by
  obtain ⟨l, hdid, hnd, hall⟩ := sim_stepOp hcall hr he
  obtain ⟨⟨⟨x, h'⟩, rfl⟩, _⟩ := hnd.1 rfl
  obtain ⟨n', hn, st1, he1, F', ρ', fr', hput, hw, _⟩ := hall _ (List.mem_singleton.2 rfl)
  have hto : ∃ u s, (pop o.op X.C.T st).To u s := by
    rw [rd_no hrd] at he
    obtain ⟨u, s, _, h1, _⟩ := sim_runPO he
    exact ⟨u, s, h1⟩
  cases hdid with
  | val hd =>
    obtain ⟨y, hy⟩ := rd_val hrd hd
    cases hy
    exact ⟨n', hn, st1, he1, F', ρ', x, fr', hd, hput, hw, hto⟩
  | skip hd => obtain ⟨y, hy⟩ := rd_val hrd hd; cases hy
  | call hd _ => obtain ⟨y, hy⟩ := rd_val hrd hd; cases hy
  | round hd _ => obtain ⟨y, hy⟩ := rd_val hrd hd; cases hy
  | alts hd => obtain ⟨y, hy⟩ := rd_val hrd hd; cases hy
theorem sim_pdrawL {call : PCall} (hcall : CallOk B h0 X false call) {ops : Array Oper} {anc : Nat → Nat → Bool} : ∀ {L : List Nat} {n : Nat} {st : PSt} {F : Fz} {ρ : Rho} {fr : Fr} {h : H} {k : PSt → Tr} {rs : Rs} {cs : List Rc}, Rel B h0 F ρ st fr h → RsR X.C F ρ st.nx h rs cs →
    Ev X Q n (pdraw X.C.T X.sp call ops anc L st rs k) →
    ∃ n', n' ≤ n ∧ ∃ st1, Ev X Q n' (k st1) ∧ ∃ F' ρ' fr' h', Went B h0 F ρ st.nx h st1 fr' h' F' ρ' ∧ ∃ M, ∀ m, M ≤ m → ∃ cs', drun X.C (ecall X.C m) ops anc L ⟨fr, h, cs⟩ = some ⟨fr', h', cs'⟩
  | [], n, st, F, ρ, fr, h, k, rs, cs, hr, _, he => ⟨n, Nat.le_refl _, st, he, F, ρ, fr, h, Went.refl hr, 0, fun _ _ => ⟨cs, rfl⟩⟩
  | i :: is, n, st, F, ρ, fr, h, k, rs, cs, hr, hrs, he => by
    unfold pdraw at he
    cases ho : ops[i]? with
    | none => rw [ho] at he; exact absurd he Ev.not_fail
    | some o =>
      rw [ho] at he
      simp only at he
      obtain ⟨st1, hr1, e1, e2, hcase⟩ := sim_guarded hr he
      rw [← e1] at hrs
      -- one step, then the rest
      have fin : ∀ {n1 : Nat} {st2 : PSt} {F1 : Fz} {ρ1 : Rho} {fr1 : Fr} {h1 : H} {rs2 : Rs} {cs2 : List Rc}, n1 ≤ n → Went B h0 F ρ st.nx h st2 fr1 h1 F1 ρ1 → RsR X.C F1 ρ1 st2.nx h1 rs2 cs2 → Ev X Q n1 (pdraw X.C.T X.sp call ops anc is st2 rs2 k) →
          (∃ M, ∀ m, M ≤ m → ∃ x, stepD X.C (ecall X.C m) ops anc i ⟨fr, h, cs⟩ = some (x, ⟨fr1, h1, cs2⟩)) →
          ∃ n', n' ≤ n ∧ ∃ st1, Ev X Q n' (k st1) ∧ ∃ F' ρ' fr' h', Went B h0 F ρ st.nx h st1 fr' h' F' ρ' ∧ ∃ M, ∀ m, M ≤ m → ∃ cs', drun X.C (ecall X.C m) ops anc (i :: is) ⟨fr, h, cs⟩ = some ⟨fr', h', cs'⟩ := by
        rintro n1 st2 F1 ρ1 fr1 h1 rs2 cs2 hn1 hw hrs2 he2 ⟨M1, hM1⟩
        obtain ⟨n2, hn2, st3, he3, F2, ρ2, fr2, h2, hw2, M2, hM2⟩ := sim_pdrawL hcall hw.rel hrs2 he2
        refine ⟨n2, Nat.le_trans hn2 hn1, st3, he3, F2, ρ2, fr2, h2, hw.trans hw2, max M1 M2, fun m hm => ?_⟩
        obtain ⟨x, hx⟩ := hM1 m (by omega)
        obtain ⟨cs', hcs'⟩ := hM2 m (by omega)
        exact ⟨cs', by unfold drun; rw [hx]; exact hcs'⟩
      rcases hcase with ⟨hw, he⟩ | ⟨hw, he⟩
      · cases hrd : isRd o with
        | true =>
          rw [hrd] at he
          simp only [cond_true] at he
          obtain ⟨n1, hn1, st2, he2, F1, ρ1, x, fr1, hd, hput, hwent, hto⟩ := sim_rd hcall hr1 hrd he
          rw [e1] at hwent
          have hrs2 : RsR X.C F1 ρ1 st2.nx h rs cs := hrs.mono (by rw [e1]; exact hwent.le) (Nat.le_refl _) (fun _ _ => rfl)
          cases hhd : isHd o with
          | false =>
            rw [hhd] at he2
            refine fin (cs2 := cs) hn1 hwent hrs2 he2 ⟨0, fun m _ => ⟨x, ?_⟩⟩
            unfold stepD
            simp only [ho, hw, cond_true, hrd, hd, hput, hhd, cond_false]
          | true =>
            rw [hhd] at he2
            refine fin (cs2 := ⟨i, o, fr, x⟩ :: cs) (rs2 := (i, rdId st1 o.op) :: rs) hn1 hwent ⟨_, _, rfl, ⟨rfl, fun l hl => ?_⟩, hrs2⟩ he2 ⟨0, fun m _ => ⟨x, ?_⟩⟩
            · obtain ⟨bl, k1, k2⟩ := rd_stable hr1 hd hl hto
              refine ⟨bl, fun g hg hb => k1 g (fun b cs hF => hg b cs (hwent.le.fz b cs hF)) hb, fun b hb => ?_⟩
              obtain ⟨j1, id, j2, j3, j4⟩ := k2 b hb
              rw [e1] at j3
              exact ⟨j1, id, j2, Nat.lt_of_lt_of_le j3 hwent.le.n, fun y hy => j4 y (hwent.le.at j3 hy)⟩
            · unfold stepD
              simp only [ho, hw, cond_true, hrd, hd, hput, hhd]
        | false =>
          rw [hrd] at he
          simp only [cond_false] at he
          cases hal : isAl o with
          | true =>
            rw [hal] at he
            simp only [cond_true] at he
            obtain ⟨l, hdid, hnd, hall⟩ := sim_stepOp hcall hr1 he
            obtain ⟨⟨⟨x, h1⟩, rfl⟩, hna⟩ := hnd.1 rfl
            obtain ⟨n1, hn1, st2, he2, F1, ρ1, fr1, hput, hwent, _⟩ := hall _ (List.mem_singleton.2 rfl)
            rw [e1] at hwent
            simp only at hput hwent
            have hv : ∃ ob f, dal X.C fr o = some (ob, f) ∧ x = f h.nx ∧ h1 = h.push ob := by
              cases hdid with
              | val hd => obtain ⟨ob, f, k1, k2⟩ := al_dal hal hd; cases k2; exact ⟨ob, f, k1, rfl, rfl⟩
              | skip hd => obtain ⟨ob, f, k1, k2⟩ := al_dal hal hd; cases k2
              | call hd _ => obtain ⟨ob, f, k1, k2⟩ := al_dal hal hd; cases k2
              | round hd _ => obtain ⟨ob, f, k1, k2⟩ := al_dal hal hd; cases k2
              | alts hd => obtain ⟨ob, f, k1, k2⟩ := al_dal hal hd; cases k2
            obtain ⟨ob1, f, k1, rfl, rfl⟩ := hv
            have hrs2 : RsR X.C F1 ρ1 st2.nx (h.push ob1) rs cs := hrs.mono (by rw [e1]; exact hwent.le) (by simp) (fun b hb => by simp [Nat.ne_of_lt hb])
            refine fin (cs2 := cs) hn1 hwent hrs2 he2 ⟨0, fun m _ => ⟨f h.nx, ?_⟩⟩
            unfold stepD
            simp only [ho, hw, cond_true, hrd, cond_false, hal, k1, hput]
          | false =>
            rw [hal] at he
            simp only [cond_false] at he
            cases hap2 : (Go.Pe.apart anc i st1 (hvIds X.sp st1 o.op) rs && noRnd st1 o.op) with
            | false => rw [hap2] at he; exact absurd he Ev.not_fail
            | true =>
              rw [hap2] at he
              simp only [cond_true] at he
              simp only [Bool.and_eq_true] at hap2
              obtain ⟨hap, hnr⟩ := hap2
              obtain ⟨l, hdid, hnd, hall⟩ := sim_stepOp hcall hr1 he
              obtain ⟨⟨⟨x, h1⟩, rfl⟩, hna⟩ := hnd.1 rfl
              obtain ⟨n1, hn1, st2, he2, F1, ρ1, fr1, hput, hwent, htch⟩ := hall _ (List.mem_singleton.2 rfl)
              simp only at hput hwent htch
              obtain ⟨k1, k2⟩ := RsR.apart hr1 hwent htch hrs hap
              rw [e1] at hwent
              refine fin hn1 hwent k2 he2 ?_
              have hh : ∃ M, ∀ m, M ≤ m → hstep X.C (ecall X.C m) fr h o = some (x, h1) := by
                cases hdid with
                | val hd => exact ⟨0, fun m _ => by unfold hstep; rw [hd]⟩
                | skip hd => exact ⟨0, fun m _ => by unfold hstep; rw [hd]⟩
                | alts hd => exact absurd hd (hna _)
                | round hd _ => exact absurd hd (hnd.2 (fun id a e => by unfold noRnd at hnr; rw [e] at hnr; cases hnr) _ _ _)
                | @call g args _ M hd hM => exact ⟨M, fun m hm => by unfold hstep; rw [hd]; simp only [hM m hm]⟩
              obtain ⟨M, hM⟩ := hh
              refine ⟨M, fun m hm => ⟨x, ?_⟩⟩
              unfold stepD
              simp only [ho, hw, cond_true, hrd, cond_false, hal, hM m hm, hput, k1]
      · cases hv : isHv o with
        | false =>
          rw [hv] at he
          simp only [cond_false] at he
          unfold skipOp at he
          split at he
          case h_2 => exact absurd he Ev.not_fail
          rename_i st2 hput
          obtain ⟨fr1, g1, g2, g3, g4⟩ := hr1.put (x := .tup []) (by simp [PR]) hput
          refine fin (cs2 := cs) (Nat.le_refl _) ⟨g2, by rw [g3, e1]; exact Le.refl, Nat.le_refl _⟩ (by rw [g3]; exact hrs) he ⟨0, fun m _ => ⟨.tup [], ?_⟩⟩
          unfold stepD
          simp only [ho, hw, cond_false, g1, hv]
        | true =>
          rw [hv] at he
          simp only [cond_true] at he
          cases hap : Go.Pe.apart anc i st1 (some []) rs with
          | false => rw [hap] at he; exact absurd he Ev.not_fail
          | true =>
            rw [hap] at he
            simp only [cond_true] at he
            unfold skipOp at he
            split at he
            case h_2 => exact absurd he Ev.not_fail
            rename_i st2 hput
            obtain ⟨fr1, g1, g2, g3, g4⟩ := hr1.put (x := .tup []) (by simp [PR]) hput
            have hwent : Went B h0 F ρ st1.nx h st2 fr1 h F ρ := ⟨g2, by rw [g3]; exact Le.refl, Nat.le_refl _⟩
            obtain ⟨k1, k2⟩ := RsR.apart (t := some []) hr1 hwent (fun ids _ b _ => .inl rfl) hrs hap
            rw [e1] at hwent
            refine fin (Nat.le_refl _) hwent k2 he ⟨0, fun m _ => ⟨.tup [], ?_⟩⟩
            unfold stepD
            simp only [ho, hw, cond_false, g1, hv, cond_true, k1]
/-- **a region whose order is drawn** -/
theorem sim_pdraw {call : PCall} (hcall : CallOk B h0 X false call) {ops : Array Oper} {k : PSt → Tr} (hr : Rel B h0 F ρ st fr h) (he : Ev X Q n (pdraw X.C.T X.sp call ops (mkPlan ops).a (mkPlan ops).ord st [] k)) :
    ∃ n', n' ≤ n ∧ ∃ st1, Ev X Q n' (k st1) ∧ ∃ F' ρ' fr' h', Went B h0 F ρ st.nx h st1 fr' h' F' ρ' ∧ ∃ M, ∀ m, M ≤ m → ddrawT X.C (ecall X.C m) ops fr h = some (fr', h') := by
  obtain ⟨n', hn, st1, he1, F', ρ', fr', h', hw, M, hM⟩ := sim_pdrawL (cs := []) hcall hr (by rfl) he
  refine ⟨n', hn, st1, he1, F', ρ', fr', h', hw, M, fun m hm => ?_⟩
  obtain ⟨cs', hcs'⟩ := hM m hm
  unfold ddrawT
  rw [hcs']
end
end Go.Pe
end
section
namespace Go.Pe
open Go.Det
section
variable {B : Nat} {h0 : H0} {F : Fz} {ρ ρ' : Rho} {N N' : Nat} {f : Nat → Option Nat}
mutual
theorem pren_rel (hf : ∀ i j, i < N → f i = some j → j < N' ∧ ρ' j = ρ i) : ∀ {p : PV} {v : V}, PR F ρ N p v → PR F ρ' N' (pren f p) v
  | .any, _, _ => by simp [pren, PR]
  | .bl _, _, h => by simpa only [pren, PR] using h
  | .ub, _, h => by simpa only [pren, PR] using h
  | .dat _ _, _, h => by simpa only [pren, PR] using h
  | .nil, _, h | .nilp, _, h | .nilm, _, h | .nilf, _, h | .nili, _, h => by simpa only [pren, PR] using h
  | .dptr _ _ _, _, h => by simpa only [pren, PR] using h
  | .agg l, _, h => by simp only [pren, PR] at h ⊢; obtain ⟨cs, rfl, h1⟩ := h; exact ⟨cs, rfl, prens_rel hf h1⟩
  | .tup l, _, h => by simp only [pren, PR] at h ⊢; obtain ⟨cs, rfl, h1⟩ := h; exact ⟨cs, rfl, prens_rel hf h1⟩
  | .fn g a b, _, h => by simp only [pren, PR] at h ⊢; obtain ⟨x, y, rfl, h1, h2⟩ := h; exact ⟨x, y, rfl, prens_rel hf h1, prens_rel hf h2⟩
  | .ptr i o, _, h => by
    simp only [pren]
    cases hi : f i with
    | none => simp [PR]
    | some j =>
      simp only [PR] at h ⊢
      obtain ⟨h1, h2⟩ := hf i j h.1 hi
      exact ⟨h1, fun b n hb => h.2 b n (by rw [← h2]; exact hb)⟩
  | .eptr i _ _ _, _, h => by
    simp only [pren]
    cases hi : f i with
    | none => simp [PR]
    | some j =>
      simp only [PR] at h ⊢
      obtain ⟨h1, h2⟩ := hf i j h.1 hi
      exact ⟨h1, fun b n hb => h.2 b n (by rw [← h2]; exact hb)⟩
  | .sl i _ _ _ _, _, h => by
    simp only [pren]
    cases hi : f i with
    | none => simp [PR]
    | some j =>
      simp only [PR] at h ⊢
      obtain ⟨h1, h2⟩ := hf i j h.1 hi
      exact ⟨h1, fun b n hb => h.2 b n (by rw [← h2]; exact hb)⟩
  | .yl i, _, h => by
    simp only [pren]
    cases hi : f i with
    | none => simp [PR]
    | some j =>
      simp only [PR] at h ⊢
      obtain ⟨h1, h2⟩ := hf i j h.1 hi
      exact ⟨h1, fun b n hb => h.2 b n (by rw [← h2]; exact hb)⟩
  | .mp i, _, h => by
    simp only [pren]
    cases hi : f i with
    | none => simp [PR]
    | some j =>
      simp only [PR] at h ⊢
      obtain ⟨h1, h2⟩ := hf i j h.1 hi
      exact ⟨h1, fun b n hb => h.2 b n (by rw [← h2]; exact hb)⟩
theorem prens_rel (hf : ∀ i j, i < N → f i = some j → j < N' ∧ ρ' j = ρ i) : ∀ {ps : List PV} {vs : List V}, PRs F ρ N ps vs → PRs F ρ' N' (prens f ps) vs
  | [], _, h => by simpa [prens] using h
  | p :: ps, _, h => by
    simp only [PRs] at h
    obtain ⟨v, vs, rfl, h1, h2⟩ := h
    simp only [prens, PRs_cons]
    exact ⟨pren_rel hf h1, prens_rel hf h2⟩
end
theorem slots_map (f : PV → PV) : ∀ (sl : List (Nat × PV)) (m m' : PM PV), (∀ t, m'.get t = (m.get t).map f) → ∀ t, ((sl.map fun x => (x.1, f x.2)).foldl (fun m x => m.set x.1 (some x.2)) m').get t = ((sl.foldl (fun m x => m.set x.1 (some x.2)) m).get t).map f
  | [], _, _, h, t => h t
  | x :: sl, m, m', h, t => by
    simp only [List.map_cons, List.foldl_cons]
    refine slots_map f sl _ _ (fun t => ?_) t
    rw [PM.get_set, PM.get_set]
    split
    · rfl
    · exact h t
theorem slotOf_map (f : PV → PV) (hf : f .any = .any) (sl : List (Nat × PV)) (t : Nat) : slotOf (sl.map fun x => (x.1, f x.2)) t = f (slotOf sl t) := by
  unfold slotOf ofSlots
  rw [slots_map f sl .leaf .leaf (fun t => by rw [PM.get_leaf]; rfl) t]
  cases (sl.foldl (fun m x => m.set x.1 (some x.2)) PM.leaf).get t with
  | none => exact hf.symm
  | some x => rfl
theorem oren_rel (hf : ∀ i j, i < N → f i = some j → j < N' ∧ ρ' j = ρ i) {n : Nat} {o : Obj} {x : O} (h : ObR F ρ N n o x) : ObR F ρ' N' n (oren f o) x := by
  cases o with
  | arr fz e s l => exact h
  | box ps => obtain ⟨cs, t, fz, h1, h2, h3⟩ := h; exact ⟨cs, t, fz, h1, prens_rel hf h2, h3⟩
  | lp g r ps asg body s n sl =>
    obtain ⟨ls, h1, h2, h3, h4, h5, h6, h7⟩ := h
    refine ⟨ls, h1, h2, h3, h4, h5, h6, fun t => ?_⟩
    rw [slotOf_map (pren f) (by simp [pren])]
    exact pren_rel hf (h7 t)
  | map ks vs l => exact h
  | siter s p => exact h
theorem oren_frozen (o : Obj) : (oren f o).frozen = o.frozen := by cases o <;> rfl
theorem preach_ok {st : PSt} {base : Nat} : ∀ (n : Nat) (is acc : List Nat), (∀ i ∈ acc, base ≤ i ∧ (st.obj i).isSome = true) → acc.Nodup → (∀ i ∈ preach st base n is acc, base ≤ i ∧ (st.obj i).isSome = true) ∧ (preach st base n is acc).Nodup
  | 0, _, acc, h1, h2 => ⟨h1, h2⟩
  | n + 1, [], acc, h1, h2 => ⟨h1, h2⟩
  | n + 1, i :: is, acc, h1, h2 => by
    unfold preach
    cases hc : (Nat.blt i base || acc.any (Nat.beq i)) with
    | true => simp only [cond_true]; exact preach_ok n is acc h1 h2
    | false =>
      simp only [cond_false]
      cases ho : st.obj i with
      | none => simp only; exact preach_ok n is acc h1 h2
      | some o =>
        simp only
        simp only [Bool.or_eq_false_iff] at hc
        have hb : base ≤ i := by
          rcases Nat.lt_or_ge i base with h | h
          · have := hc.1; rw [blt_true h] at this; cases this
          · exact h
        have hni : i ∉ acc := by
          intro hi
          have : acc.any (Nat.beq i) = true := List.any_eq_true.2 ⟨i, hi, Nat.beq_refl i⟩
          rw [hc.2] at this; cases this
        refine preach_ok n _ _ (fun j hj => ?_) ?_
        · rcases List.mem_append.1 hj with hj | hj
          · exact h1 j hj
          · cases List.mem_singleton.1 hj; exact ⟨hb, by rw [ho]; rfl⟩
        · rw [List.nodup_append]
          exact ⟨h2, by simp, fun a ha b hb' => by cases List.mem_singleton.1 hb'; exact fun e => hni (e ▸ ha)⟩
theorem renOf_spec {base : Nat} : ∀ (ids : List Nat) (n i j : Nat), ids.Nodup → renOf base ids n i = some j → (∃ k, ids[k]? = some i ∧ j = n + k) ∨ (i ∉ ids ∧ i < base ∧ j = i)
  | [], n, i, j, _, h => by
    unfold renOf at h
    cases hb : Nat.blt i base with
    | false => rw [hb] at h; cases h
    | true => rw [hb] at h; cases h; exact .inr ⟨by simp, Nat.le_of_ble_eq_true hb, rfl⟩
  | a :: ids, n, i, j, hn, h => by
    unfold renOf at h
    rw [beq_t] at h
    by_cases e : i = a
    · subst e
      simp only [decide_true, cond_true, Option.some.injEq] at h
      exact .inl ⟨0, rfl, by omega⟩
    · simp only [e, decide_false, cond_false] at h
      have hn' := List.nodup_cons.1 hn
      rcases renOf_spec ids (Nat.add n 1) i j hn'.2 h with ⟨k, h1, h2⟩ | ⟨h1, h2, h3⟩
      · exact .inl ⟨k + 1, by simpa using h1, by rw [h2]; show n + 1 + k = _; omega⟩
      · exact .inr ⟨by simp [e, h1], h2, h3⟩
theorem low_get (f : Nat → Option Nat) (base : Nat) : ∀ (l : Ob) (j : Nat), obGet (low f base l) j = if j < base then (obGet l j).map (oren f) else none
  | [], j => by simp [low, obGet]
  | (i, o) :: l, j => by
    simp only [low]
    have ih := low_get f base l j
    by_cases hi : i < base
    · rw [blt_true hi]
      simp only [cond_true, obGet, beq_t]
      by_cases e : i = j
      · subst e; simp [hi]
      · simp only [e, decide_false, cond_false]; exact ih
    · have : Nat.blt i base = false := by
        cases hb : Nat.blt i base with
        | false => rfl
        | true => exact absurd (Nat.le_of_ble_eq_true hb) hi
      rw [this]
      simp only [cond_false, obGet, beq_t]
      rw [ih]
      by_cases e : i = j
      · subst e; simp [hi]
      · simp [e]
theorem kept_get {st : PSt} (f : Nat → Option Nat) : ∀ (ids : List Nat) (n : Nat) (acc : Ob) (j : Nat), (∀ i ∈ ids, (st.obj i).isSome = true) → obGet (kept st f ids n acc) j = (if n ≤ j ∧ j < n + ids.length then (ids[j - n]?).bind fun i => (st.obj i).map (oren f) else obGet acc j)
  | [], n, acc, j, _ => by simp only [kept, List.length_nil]; rw [if_neg (by omega)]
  | i :: ids, n, acc, j, h => by
    obtain ⟨o, ho⟩ := Option.isSome_iff_exists.1 (h i (by simp))
    unfold kept
    rw [ho]
    simp only
    rw [kept_get f ids (Nat.add n 1) _ j (fun k hk => h k (by simp [hk]))]
    have ea : Nat.add n 1 = n + 1 := rfl
    rw [ea]
    by_cases h1 : n + 1 ≤ j ∧ j < n + 1 + ids.length
    · rw [if_pos h1, if_pos (by simp; omega)]
      have : j - n = (j - (n + 1)) + 1 := by omega
      rw [this]; simp
    · rw [if_neg h1]
      simp only [obGet, beq_t]
      by_cases e : n = j
      · subst e
        rw [if_pos (by simp)]
        simp [ho]
      · rw [if_neg (by simp; omega)]
        simp [e]
theorem ofSlots_get : ∀ (vs : List (Nat × PV)) (m : PM PV) (t : Nat) (p : PV), (vs.foldl (fun m x => m.set x.1 (some x.2)) m).get t = some p → (t, p) ∈ vs ∨ m.get t = some p
  | [], m, t, p, h => .inr h
  | x :: vs, m, t, p, h => by
    rcases ofSlots_get vs _ t p h with h1 | h1
    · exact .inl (List.mem_cons_of_mem _ h1)
    · rw [PM.get_set] at h1
      split at h1
      · rename_i e
        cases h1
        exact .inl (by rw [e]; exact List.mem_cons_self)
      · exact .inr h1
/-- **heads of loops** -/
theorem sim_canon {st : PSt} {fr : Fr} {h : H} (hr : Rel B h0 F ρ st fr h) (base : Nat) (L : List Nat) (_hb : base ≤ st.nx) :
    ∃ ρ', Rel B h0 F ρ' (canon base L st) fr h ∧ base ≤ (canon base L st).nx ∧ ∀ id, id < base → ρ' id = ρ id := by
  generalize hids : preach st base 100 (pidss ((L.map fun t => (t, st.get t)).map (·.2)) ++ lowIds base st.ob) [] = ids
  have hok := preach_ok (st := st) (base := base) 100 (pidss ((L.map fun t => (t, st.get t)).map (·.2)) ++ lowIds base st.ob) [] (fun i hi => by cases hi) List.nodup_nil
  rw [hids] at hok
  obtain ⟨hal, hnd⟩ := hok
  let g := renOf base ids base
  let ρ1 : Rho := fun id => if id < base then ρ id else (ids[id - base]?).bind ρ
  have hlow : ∀ id, id < base → ρ1 id = ρ id := fun id h => by show (if id < base then ρ id else _) = _; rw [if_pos h]
  have hhigh : ∀ k i, ids[k]? = some i → ρ1 (base + k) = ρ i := by
    intro k i hk
    show (if base + k < base then ρ (base + k) else (ids[base + k - base]?).bind ρ) = ρ i
    rw [if_neg (by omega), Nat.add_sub_cancel_left, hk]; rfl
  have hc : canon base L st = mkSt st.n ((L.map fun t => (t, st.get t)).map fun x => (x.1, pren g x.2)) (kept st g ids base (low g base st.ob)) (base + ids.length) := by
    rw [show g = renOf base ids base from rfl, ← hids]; rfl
  have hg : ∀ i j, i < st.nx → g i = some j → j < base + ids.length ∧ ρ1 j = ρ i := by
    intro i j _ hij
    rcases renOf_spec ids base i j hnd hij with ⟨k, h1, rfl⟩ | ⟨_, h2, rfl⟩
    · have := (List.getElem?_eq_some_iff.1 h1).1
      exact ⟨by omega, hhigh k i h1⟩
    · exact ⟨by omega, hlow _ h2⟩
  have hob : ∀ j, obGet (kept st g ids base (low g base st.ob)) j = if j < base then (obGet st.ob j).map (oren g) else (ids[j - base]?).bind fun i => (st.obj i).map (oren g) := by
    intro j
    rw [kept_get g ids base _ j (fun i hi => (hal i hi).2), low_get]
    by_cases h1 : j < base
    · rw [if_neg (by omega), if_pos h1, if_pos h1]
    · by_cases h2 : j < base + ids.length
      · rw [if_pos (by omega), if_neg h1]
      · rw [if_neg (by omega), if_neg h1, if_neg h1, List.getElem?_eq_none (by omega)]; rfl
  -- the object behind a new number
  have src : ∀ j o', obGet (kept st g ids base (low g base st.ob)) j = some o' → ∃ i o, obGet st.ob i = some o ∧ o' = oren g o ∧ ρ1 j = ρ i ∧ j < base + ids.length ∧ ((j < base ∧ i = j) ∨ (base ≤ j ∧ ids[j - base]? = some i ∧ base ≤ i)) := by
    intro j o' hj
    rw [hob] at hj
    by_cases h1 : j < base
    · rw [if_pos h1, Option.map_eq_some_iff] at hj
      obtain ⟨o, h2, rfl⟩ := hj
      exact ⟨j, o, h2, rfl, hlow j h1, by omega, .inl ⟨h1, rfl⟩⟩
    · rw [if_neg h1] at hj
      cases hk : ids[j - base]? with
      | none => rw [hk] at hj; cases hj
      | some i =>
        rw [hk] at hj
        simp only [Option.bind_some, Option.map_eq_some_iff] at hj
        obtain ⟨o, h2, rfl⟩ := hj
        have hlt := (List.getElem?_eq_some_iff.1 hk).1
        have := hhigh (j - base) i hk
        rw [show base + (j - base) = j from by omega] at this
        exact ⟨i, o, h2, rfl, this, by omega, .inr ⟨by omega, by first | exact hk | rfl, (hal i (List.mem_of_getElem? hk)).1⟩⟩
  refine ⟨ρ1, ?_, by rw [hc]; show base ≤ base + ids.length; omega, hlow⟩
  rw [hc]
  refine ⟨⟨hr.fp.n, fun t => ?_⟩, ⟨fun j o' hj => ?_, fun i j oi oj c m m' hi hj h1 h2 => ?_, hr.sr.frz, fun id b m hbm => ?_, fun j hj => ?_, hr.sr.old, hr.sr.lt, hr.sr.le, hr.sr.fo, fun c hc => ?_⟩⟩
  · generalize hvs : ((L.map fun t => (t, st.get t)).map fun x => (x.1, pren g x.2)) = vs
    show PR F ρ1 (base + ids.length) (((ofSlots vs).get t).getD .any) (fr.get t)
    cases hp : (ofSlots vs).get t with
    | none => show PR F ρ1 (base + ids.length) PV.any (fr.get t); simp [PR]
    | some p =>
      show PR F ρ1 (base + ids.length) p (fr.get t)
      rcases ofSlots_get vs .leaf t p hp with h1 | h1
      · rw [← hvs] at h1
        simp only [List.map_map, List.mem_map, Function.comp] at h1
        obtain ⟨s, _, h2⟩ := h1
        cases h2
        exact pren_rel hg (hr.fp.slot _)
      · simp at h1
  · obtain ⟨i, o, h1, rfl, h2, h3, _⟩ := src j o' hj
    obtain ⟨b, m, x, k1, k2, k3, k4⟩ := hr.sr.obj i o h1
    exact ⟨b, m, x, h2.trans k1, k2, oren_rel hg k3, by rw [oren_frozen]; exact k4⟩
  · obtain ⟨a, o, g1, _, g2, _, g3⟩ := src i oi hi
    obtain ⟨a', o', g4, _, g5, _, g6⟩ := src j oj hj
    rw [g2] at h1
    rw [g5] at h2
    have hab := hr.sr.inj a a' o o' c m m' g1 g4 h1 h2
    subst hab
    rcases g3 with ⟨e1, e2⟩ | ⟨e1, e2, e3⟩ <;> rcases g6 with ⟨f1, f2⟩ | ⟨f1, f2, f3⟩
    · omega
    · omega
    · omega
    · have i1 := List.getElem?_eq_some_iff.1 e2
      have i2 := List.getElem?_eq_some_iff.1 f2
      have := (List.getElem?_inj i1.1 hnd).1 (e2.trans f2.symm)
      omega
  · have hbm : (if id < base then ρ id else (ids[id - base]?).bind ρ) = some (b, m) := hbm
    by_cases h1 : id < base
    · rw [if_pos h1] at hbm
      exact ⟨by show id < base + ids.length; omega, (hr.sr.own id b m hbm).2⟩
    · rw [if_neg h1] at hbm
      cases hk : ids[id - base]? with
      | none => rw [hk] at hbm; cases hbm
      | some i =>
        rw [hk] at hbm
        have := (List.getElem?_eq_some_iff.1 hk).1
        exact ⟨by show id < base + ids.length; omega, (hr.sr.own i b m hbm).2⟩
  · have hj' : obGet (kept st g ids base (low g base st.ob)) j = none := hj
    rw [hob] at hj'
    show (if j < base then ρ j else (ids[j - base]?).bind ρ) = none
    by_cases h1 : j < base
    · rw [if_pos h1] at hj' ⊢
      exact hr.sr.dead j (by simpa using hj')
    · rw [if_neg h1] at hj' ⊢
      cases hk : ids[j - base]? with
      | none => rfl
      | some i =>
        rw [hk] at hj'
        simp only [Option.bind_some, Option.map_eq_none_iff] at hj' ⊢
        exact hr.sr.dead i hj'
  · obtain ⟨g1, g2, g3⟩ := hr.sr.pn c hc
    refine ⟨g1, g2, fun id m e => ?_⟩
    have e : (if id < base then ρ id else (ids[id - base]?).bind ρ) = some (c, m) := e
    by_cases h1 : id < base
    · rw [if_pos h1] at e; exact g3 id m e
    · rw [if_neg h1] at e
      cases hk : ids[id - base]? with
      | none => rw [hk] at e; cases e
      | some i => rw [hk] at e; exact g3 i m e
end
end Go.Pe
end
section
namespace Go.Pe
open Go.Det
section
variable {B : Nat} {h0 : H0} {X : PCtx} {F F1 F' : Fz} {ρ : Rho} {N : Nat} {st st' : PSt} {fr : Fr} {h h' : H}
end
end Go.Pe
end
