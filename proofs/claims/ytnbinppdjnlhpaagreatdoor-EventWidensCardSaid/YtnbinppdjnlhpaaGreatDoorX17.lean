import Derived.Test.YtnbinppdjnlhpaaGreatDoorX16
/- A part of the proofs of the laws of one chapter (no law is stated here). Made by program out of texts by AI agents. -/
section
namespace Go.Pe
open Go.Det
section
variable {B : Nat} {h0 : H0} {X : PCtx} {F : Fz} {ρ : Rho} {N : Nat} {h : H}
theorem pins_pins (h0 : H0) (a b : List Nat) : (h0.pins a).pins b = h0.pins (b ++ a) := by unfold H0.pins; simp
/-- fewer marks -/
theorem SR.fewer {ob : Ob} {ps : List Nat} (hr : SR B (h0.pins ps) F ρ N ob h) : SR B h0 F ρ N ob h :=
  ⟨hr.obj, hr.inj, hr.frz, hr.own, hr.dead, hr.old, hr.lt, hr.le, hr.fo, fun b hb => hr.pn b (List.mem_append_right _ hb)⟩
/-- a new mark -/
theorem SR.mark {ob : Ob} (hr : SR B h0 F ρ N ob h) : SR B (h0.pins [h.nx]) F ρ N ob (h.push (.defd true)) := by
  have hnew : ∀ b y, h.get b = some y → b ≠ h.nx := fun b y hb => by have := hr.lt b y hb; omega
  have hget : ∀ b y, h.get b = some y → (h.push (.defd true)).get b = some y := fun b y hb => by rw [H.get_push, if_neg (hnew b y hb)]; exact hb
  refine ⟨fun j oj hj => ?_, hr.inj, fun c cs hc => ?_, hr.own, hr.dead, fun c hc => ?_, fun c oc hc => ?_, ?_, hr.fo, fun c hc => ?_⟩
  · obtain ⟨c, m, y, h1, h2, h3⟩ := hr.obj j oj hj
    exact ⟨c, m, y, h1, hget c y h2, h3⟩
  · obtain ⟨t, fz, hg⟩ := hr.frz c cs hc
    exact ⟨t, fz, hget _ _ hg⟩
  · have := hr.le
    rw [H.get_push, if_neg (by omega)]; exact hr.old c hc
  · rw [H.get_push] at hc
    by_cases e : c = h.nx
    · subst e; exact Nat.lt_succ_self _
    · rw [if_neg e] at hc; have := hr.lt c oc hc; show c < h.nx + 1; omega
  · have := hr.le; show B ≤ h.nx + 1; omega
  · rcases List.mem_append.1 hc with hc | hc
    · cases List.mem_singleton.1 hc
      refine ⟨by rw [H.get_push, if_pos rfl], hr.le, fun id n e => ?_⟩
      by_cases hob : ∃ o, obGet ob id = some o
      · obtain ⟨o, ho⟩ := hob
        obtain ⟨c, m, y, g1, g2, _⟩ := hr.obj id o ho
        rw [e] at g1; cases g1
        exact hnew _ _ g2 rfl
      · have : obGet ob id = none := by
          cases hh : obGet ob id with
          | none => rfl
          | some o => exact absurd ⟨o, hh⟩ hob
        rw [hr.dead id this] at e; cases e
    · obtain ⟨g1, g2, g3⟩ := hr.pn c hc
      exact ⟨hget _ _ g1, g2, g3⟩
/-- a block that no object has is written -/
theorem SR.putFree {ob : Ob} (hr : SR B h0 F ρ N ob h) {b : Nat} {x y : O} (h1 : ∀ id o n, obGet ob id = some o → ρ id ≠ some (b, n)) (h2 : F b = none) (h3 : B ≤ b) (h4 : b ∉ h0.pin) (hg : h.get b = some x) : SR B h0 F ρ N ob (h.put b y) := by
  refine ⟨fun j oj hj => ?_, hr.inj, fun c cs hc => ?_, hr.own, hr.dead, fun c hc => ?_, fun c oc hc => ?_, hr.le, hr.fo, fun c hc => ?_⟩
  · obtain ⟨c, m, y, g1, g2, g3⟩ := hr.obj j oj hj
    have : c ≠ b := fun e => h1 j oj m hj (e ▸ g1)
    exact ⟨c, m, y, g1, by rw [H.get_put, if_neg this]; exact g2, g3⟩
  · have : c ≠ b := fun e => by rw [e, h2] at hc; cases hc
    rw [H.get_put, if_neg this]; exact hr.frz c cs hc
  · have : c ≠ b := by omega
    rw [H.get_put, if_neg this]; exact hr.old c hc
  · rw [H.get_put] at hc
    split at hc
    · rename_i e; subst e; exact hr.lt _ _ hg
    · exact hr.lt c oc hc
  · obtain ⟨g1, g2, g3⟩ := hr.pn c hc
    have hne : c ≠ b := fun e => h4 (e ▸ hc)
    exact ⟨by rw [H.get_put, if_neg hne]; exact g1, g2, g3⟩
/-- the marks are taken away -/
theorem SR.leave {ob : Ob} : ∀ {ps : List Nat} {h : H}, ps.Nodup → (∀ b ∈ ps, b ∉ h0.pin) → SR B (h0.pins ps) F ρ N ob h → ∃ h1, dleave ps h = some h1 ∧ SR B h0 F ρ N ob h1 ∧ h1.nx = h.nx ∧ ∀ b, b ∉ ps → h1.get b = h.get b
  | [], h, _, _, hr => ⟨h, rfl, hr, rfl, fun _ _ => rfl⟩
  | p :: ps, h, hn, hd, hr => by
    obtain ⟨g1, g2, g3⟩ := hr.pn p (by simp [H0.pins])
    rw [List.nodup_cons] at hn
    have hr1 : SR B ((h0.pins ps).pins [p]) F ρ N ob h := by rw [pins_pins]; exact hr
    have hp : SR B (h0.pins ps) F ρ N ob (h.put p (.defd false)) := by
      refine SR.putFree hr1.fewer (fun id o n _ => g3 id n) ?_ g2 ?_ g1
      · cases hF : F p with
        | none => rfl
        | some cs => obtain ⟨t, fz, k⟩ := hr.frz p cs hF; rw [g1] at k; cases k
      · intro h; rcases List.mem_append.1 h with h | h
        · exact hn.1 h
        · exact hd p (by simp) h
    obtain ⟨h1, k1, k2, k3, k4⟩ := SR.leave hn.2 (fun b hb => hd b (by simp [hb])) hp
    refine ⟨h1, ?_, k2, k3, fun b hb => ?_⟩
    · show (match h.get p with | some (.defd true) => dleave ps (h.put p (.defd false)) | _ => none) = _
      rw [g1]; exact k1
    · simp only [List.mem_cons, not_or] at hb
      rw [k4 b hb.2, H.get_put, if_neg hb.1]
/-- slices are written no more -/
theorem sim_frz1 {st : PSt} {fr : Fr} (hr : Rel B h0 F ρ st fr h) (base : Nat) (x : Nat × Sh) : ∃ F1 ρ1, Rel B h0 F1 ρ1 (frz1 base x st) fr h ∧ (frz1 base x st).nx = st.nx ∧ (∀ id, id < base → ρ1 id = ρ id) ∧ ∀ b cs, F b = some cs → F1 b = some cs := by
  have hs := hr.fp.slot x.1
  unfold frz1
  split
  case h_1 =>
    rename_i hg
    rw [hg] at hs
    simp only [PR] at hs
    exact ⟨F, ρ, hr.note (by rw [hs]; simp [PR, DC]), rfl, fun _ _ => rfl, fun _ _ h => h⟩
  case h_4 => exact ⟨F, ρ, hr, rfl, fun _ _ => rfl, fun _ _ h => h⟩
  case h_3 =>
    rename_i id hg
    cases hb : Nat.ble base id with
    | false => exact ⟨F, ρ, hr, rfl, fun _ _ => rfl, fun _ _ h => h⟩
    | true =>
    simp only [cond_true]
    have hb := Nat.le_of_ble_eq_true hb
    split
    case h_2 => exact ⟨F, ρ, hr, rfl, fun _ _ => rfl, fun _ _ h => h⟩
    rename_i ps ho
    split
    case h_2 => exact ⟨F, ρ, hr, rfl, fun _ _ => rfl, fun _ _ h => h⟩
    rename_i v hv
    rw [hg] at hs
    obtain ⟨b, n, y, h1, h2, h3, h7, -⟩ := hr.sr.at ho
    obtain ⟨cs, t, fz, rfl, h4, h5⟩ := h3
    have hFb : F b = none := h7 rfl
    have hmono : ∀ c cs', F c = some cs' → (fun c => if c = b then some cs else F c) c = some cs' := by
      intro c cs' hc
      have : c ≠ b := fun e => by rw [e, hFb] at hc; cases hc
      simp [this, hc]
    have hdc := (unflat1_rel h4 hv)
    have hlen := hdc.len
    have hle : Le F ρ st.nx (fun c => if c = b then some cs else F c) (setR ρ id none) st.nx := (Le.fzs hmono).trans (Le.setNone id)
    have hle2 : Le F (setR ρ id none) st.nx (fun c => if c = b then some cs else F c) (setR ρ id none) st.nx := Le.fzs hmono
    have hd := hr.sr.del id
    have notb : ∀ j m, setR ρ id none j = some (b, m) → ∀ oj, obGet (obDel st.ob id) j = some oj → False := by
      intro j m g1 oj hj
      rw [obGet_del] at hj
      split at hj
      · cases hj
      · rename_i ej
        simp only [setR, ej, if_false] at g1
        exact ej (hr.sr.inj j id oj _ b m n hj ho g1 h1)
    have hsr : SR B h0 (fun c => if c = b then some cs else F c) (setR ρ id none) st.nx (obDel st.ob id) h := by
      refine ⟨fun j oj hj => ?_, hd.inj, fun c cs' hc => ?_, hd.own, hd.dead, hd.old, hd.lt, hd.le, fun c cs' hc => ?_, hd.pn⟩
      · obtain ⟨c, m, z, g1, g2, g3, g4, g5⟩ := hd.obj j oj hj
        have hne : c ≠ b := fun ec => notb j m (ec ▸ g1) oj hj
        exact ⟨c, m, z, g1, g2, g3.mono hle2, fun e => by simp [hne, g4 e], fun e => by obtain ⟨a1, a2, a3, a4, a5⟩ := g5 e; exact ⟨a1, a2, a3, a4, by simp [hne, a5]⟩⟩
      · split at hc
        · rename_i ec; cases hc; subst ec; exact ⟨_, _, h2⟩
        · exact hd.frz c cs' hc
      · split at hc
        · rename_i ec; subst ec; exact .inr (hr.sr.own id c n h1).2
        · exact hd.fo c cs' hc
    have hr1 : Rel B h0 (fun c => if c = b then some cs else F c) (setR ρ id none) (st.delObj id) fr h := ⟨⟨hr.fp.n, fun t => (hr.fp.slot t).mono hle⟩, hsr⟩
    refine ⟨_, _, hr1.note ?_, rfl, fun j hj => by unfold setR; rw [if_neg (by omega)], hmono⟩
    simp only [PR] at hs ⊢
    have hv2 := hs.2 b n h1
    exact ⟨b, 0, cs, by rw [hv2], by simp, by omega, by rw [List.drop_zero, List.take_of_length_le (by omega)]; exact hdc.mono hmono⟩
  rename_i id sz off len cap hg
  split
  case h_2 => exact ⟨F, ρ, hr, rfl, fun _ _ => rfl, fun _ _ h => h⟩
  rename_i fz e s l ho
  cases hz : Nat.beq sz s.sz with
  | false => exact ⟨F, ρ, hr, rfl, fun _ _ => rfl, fun _ _ h => h⟩
  | true =>
  simp only [cond_true]
  rw [hg] at hs
  obtain ⟨F1, g1, g2, g3⟩ := freeze1_rel hr.sr hs
  have hfr : freeze1 st (.sl id sz off len cap) = st.setObj id (.arr true e s l) := by simp [freeze1, ho]
  rw [hfr] at g1
  have hle : Le F ρ st.nx F1 ρ st.nx := ⟨g2, fun _ _ => .inl rfl, Nat.le_refl _⟩
  have hoff : off + len ≤ l.length := by
    obtain ⟨b, n, y, h1, _, ⟨_, _, _, _, _, h6⟩, -⟩ := hr.sr.at ho
    simp only [PR] at hs
    rcases hs.2 b n h1 with ⟨a1, a2, _⟩ | ⟨a1, _, a3, _⟩
    · omega
    · omega
  have hbv : byVal st (.sl id sz off len cap) = some (true, .dat (.list s) ((l.drop off).take len)) := by
    simp only [byVal, ho, hz, cond_true, decide_eq_true hoff]
  have hpc := g3 _ hbv
  have hr1 : Rel B h0 F1 ρ (st.setObj id (.arr true e s l)) fr h := ⟨⟨hr.fp.n, fun t => (hr.fp.slot t).mono hle⟩, g1⟩
  exact ⟨F1, ρ, hr1.note (hpc ρ _), rfl, fun _ _ => rfl, g2⟩
theorem sim_frzs {fr : Fr} (base : Nat) : ∀ (l : List (Nat × Sh)) {st : PSt} {F : Fz} {ρ : Rho}, Rel B h0 F ρ st fr h → ∃ F1 ρ1, Rel B h0 F1 ρ1 (frzs base l st) fr h ∧ (frzs base l st).nx = st.nx ∧ (∀ id, id < base → ρ1 id = ρ id) ∧ ∀ b cs, F b = some cs → F1 b = some cs
  | [], st, F, ρ, hr => ⟨F, ρ, hr, rfl, fun _ _ => rfl, fun _ _ h => h⟩
  | x :: l, st, F, ρ, hr => by
    obtain ⟨F1, ρ1, h1, h2, h0', h3⟩ := sim_frz1 hr base x
    obtain ⟨F2, ρ2, h4, h5, h0'', h6⟩ := sim_frzs base l h1
    exact ⟨F2, ρ2, h4, h5.trans h2, fun id hid => (h0'' id hid).trans (h0' id hid), fun b cs hb => h6 b cs (h3 b cs hb)⟩
theorem sim_canonX {st : PSt} {fr : Fr} {base : Nat} (hr : Rel B h0 F ρ st fr h) (f : FuncId) (r : Nat) (hb : base ≤ st.nx) :
    ∃ F1 ρ', Rel B h0 F1 ρ' (canonX X f r base st) fr h ∧ base ≤ (canonX X f r base st).nx ∧ (∀ id, id < base → ρ' id = ρ id) ∧ ∀ b cs, F b = some cs → F1 b = some cs := by
  obtain ⟨F1, ρ1, h1, h2, h0', h3⟩ := sim_frzs base (X.fz f r) hr
  obtain ⟨ρ', g1, g2, g3⟩ := sim_canon h1 base (X.pl f r) (by rw [h2]; exact hb)
  exact ⟨F1, ρ', g1, g2, fun id hid => (g3 id hid).trans (h0' id hid), h3⟩
/-- what a piece of code comes to -/
def Came (B : Nat) (h0 : H0) (X : PCtx) (base n : Nat) (Q : PV → Ob → Prop) (k : DX → PSt → Tr) (F : Fz) (ρ : Rho) (h : H) (nd : Bool) (run : Nat → Nat → Option (List Det.X)) (ds : List Nat) : Prop :=
  ∃ l M, (∀ m, M ≤ m → ∀ q, M ≤ q → run m q = some l) ∧ (nd = false → ∃ x, l = [x]) ∧ ∀ x ∈ l, ∃ ps, (x.ds = ps ++ ds ∧ ps.Nodup ∧ ∀ b ∈ ps, h.nx ≤ b) ∧ ∃ n', n' ≤ n ∧ ∃ st1, Ev X Q n' (k x.e st1) ∧ ∃ F' ρ', Rel B (h0.pins ps) F' ρ' st1 x.fr x.h ∧ base ≤ st1.nx ∧ Le F ρ base F' ρ' base ∧ h.nx ≤ x.h.nx
theorem Le.low {F F' : Fz} {ρ ρ' : Rho} {N N' base : Nat} (hl : Le F ρ N F' ρ' N') (hb : base ≤ N) : Le F ρ base F' ρ' base :=
  ⟨hl.fz, fun id h => hl.rho id (Nat.lt_of_lt_of_le h hb), Nat.le_refl _⟩
theorem sim_exec {nd ro : Bool} {d : Nat} {f : FuncId} {base : Nat} {rv : Option Nat} {ct : Bool} (hrv : ro = false → rv = none ∧ ct = true) (hcall : ∀ h0, CallOk B h0 X nd (pcall X nd d)) (hcallD : ∀ h0, CallOk B h0 X false (pcall X false d)) {Q : PV → Ob → Prop} : ∀ (n : Nat) (c : Code) {h0 : H0} {st : PSt} {k : DX → PSt → Tr} {F : Fz} {ρ : Rho} {fr : Fr} {h : H} (ds : List Nat), base ≤ st.nx → Rel B h0 F ρ st fr h →
    Ev X Q n (exec X (pcall X nd d) (pcall X false d) nd ro d f base c st k) → Came B h0 X base n Q k F ρ h nd (fun m q => dcode X.C (ecall X.C m) rv ct q c fr h ds) ds := by
  intro n
  induction n using Nat.strongRecOn with
  | _ n IH =>
  have one : ∀ {h0 : H0} {e : DX} {st : PSt} {k : DX → PSt → Tr} {F : Fz} {ρ : Rho} {fr : Fr} {h : H} {ds : List Nat} {c : Code}, base ≤ st.nx → Rel B h0 F ρ st fr h → Ev X Q n (k e st) → (∀ m q, 1 ≤ q → dcode X.C (ecall X.C m) rv ct q c fr h ds = some [⟨e, fr, h, ds⟩]) →
      Came B h0 X base n Q k F ρ h nd (fun m q => dcode X.C (ecall X.C m) rv ct q c fr h ds) ds := by
    intro h0 e st k F ρ fr h ds c hb hr he hd
    exact ⟨[⟨e, fr, h, ds⟩], 1, fun m _ q hq => hd m q hq, fun _ => ⟨_, rfl⟩, fun x hx => by
      cases List.mem_singleton.1 hx
      exact ⟨[], ⟨rfl, List.nodup_nil, fun _ hb => (by cases hb)⟩, n, Nat.le_refl _, st, he, F, ρ, hr, hb, Le.refl, Nat.le_refl _⟩⟩
  have fuel : ∀ {q : Nat}, 1 ≤ q → ∃ q', q = q' + 1 := fun h => ⟨_, (Nat.succ_pred_eq_of_pos h).symm⟩
  -- one piece, then the rest
  have chain : ∀ {h0 : H0} {F : Fz} {ρ : Rho} {h : H} {ds : List Nat} {k k2 : DX → PSt → Tr} {n1 : Nat} {run : Nat → Nat → Option (List Det.X)} {run2 : Nat → Nat → Det.X → Option (List Det.X)}, n1 ≤ n → Came B h0 X base n1 Q k2 F ρ h nd run ds →
      (∀ (x : Det.X) (ps : List Nat), ∀ n1', n1' ≤ n1 → ∀ st1, Ev X Q n1' (k2 x.e st1) → ∀ F' ρ', Rel B (h0.pins ps) F' ρ' st1 x.fr x.h → base ≤ st1.nx → Came B (h0.pins ps) X base n Q k F' ρ' x.h nd (fun m q => run2 m q x) x.ds) →
      Came B h0 X base n Q k F ρ h nd (fun m q => match run m q with | some l => bl l (run2 m q) | none => none) ds := by
    rintro h0 F ρ h ds k k2 n1 run run2 hn1 ⟨l, M, h1, h2, h3⟩ hnext
    obtain ⟨r, M2, g1, g2, g3⟩ := bl_all2 (f := run2) (P := fun x => ∃ ps, (x.ds = ps ++ ds ∧ ps.Nodup ∧ ∀ b ∈ ps, h.nx ≤ b) ∧ ∃ n', n' ≤ n ∧ ∃ st1, Ev X Q n' (k x.e st1) ∧ ∃ F' ρ', Rel B (h0.pins ps) F' ρ' st1 x.fr x.h ∧ base ≤ st1.nx ∧ Le F ρ base F' ρ' base ∧ h.nx ≤ x.h.nx) h2 fun x hx => by
      obtain ⟨ps1, ⟨k0, kn, kl⟩, n', k1, st1, k2', F', ρ', k3, k4, k5, k6⟩ := h3 x hx
      obtain ⟨r, M, j1, j2, j3⟩ := hnext x ps1 n' k1 st1 k2' F' ρ' k3 k4
      refine ⟨r, M, j1, j2, fun y hy => ?_⟩
      obtain ⟨ps2, ⟨i0, i0n, i0l⟩, n2, i1, st2, i2, F2, ρ2, i3, i4, i5, i6⟩ := j3 y hy
      refine ⟨ps2 ++ ps1, ⟨by rw [i0, k0, List.append_assoc], ?_, fun b hb => ?_⟩, n2, i1, st2, i2, F2, ρ2, by rw [← pins_pins]; exact i3, i4, k5.trans i5, Nat.le_trans k6 i6⟩
      · rw [List.nodup_append]
        refine ⟨i0n, kn, fun a ha b hb e => ?_⟩
        have h1 := i0l a ha
        have h2 := k3.sr.lt b _ (k3.sr.pn b (List.mem_append_left _ hb)).1
        omega
      · rcases List.mem_append.1 hb with hb | hb
        · exact Nat.le_trans k6 (i0l b hb)
        · exact kl b hb
    exact ⟨r, max M M2, fun m hm q hq => by simp only; rw [h1 m (by omega) q (by omega)]; exact g1 m (by omega) q (by omega), g2, g3⟩
  -- one step of fuel
  have stepq : ∀ {h0 : H0} {F : Fz} {ρ : Rho} {h : H} {ds : List Nat} {k : DX → PSt → Tr} {run run' : Nat → Nat → Option (List Det.X)}, Came B h0 X base n Q k F ρ h nd run ds → (∀ m q, run' m (q + 1) = run m q) → Came B h0 X base n Q k F ρ h nd run' ds := by
    rintro h0 F ρ h ds k run run' ⟨l, M, h1, h2, h3⟩ he
    refine ⟨l, M + 1, fun m hm q hq => ?_, h2, h3⟩
    obtain ⟨q', rfl⟩ := fuel (show 1 ≤ q by omega)
    rw [he]; exact h1 m (by omega) q' (by omega)
  intro c
  induction c with
  | skip =>
    intro h0 st k F ρ fr h ds hb hr he
    exact one hb hr he (fun m q hq => by obtain ⟨q', rfl⟩ := fuel hq; rfl)
  | label l =>
    intro h0 st k F ρ fr h ds hb hr he
    exact one hb hr he (fun m q hq => by obtain ⟨q', rfl⟩ := fuel hq; rfl)
  | exit i =>
    intro h0 st k F ρ fr h ds hb hr he
    exact one hb hr he (fun m q hq => by obtain ⟨q', rfl⟩ := fuel hq; rfl)
  | ret =>
    intro h0 st k F ρ fr h ds hb hr he
    exact one hb hr he (fun m q hq => by obtain ⟨q', rfl⟩ := fuel hq; rfl)
  | region id ops dr =>
    intro h0 st k F ρ fr h ds hb hr he
    unfold exec at he
    cases dr with
    | true =>
      simp only [cond_true] at he
      cases hst : (!ro || statB ops (mkPlan ops)) with
      | false => rw [hst] at he; exact absurd he Ev.not_fail
      | true =>
      rw [hst] at he
      simp only [cond_true] at he
      have hdd : ∀ call, (bif ct then ddrawT X.C call ops fr h else ddraw X.C call ops fr h) = ddrawT X.C call ops fr h := by
        intro call
        cases hro : ro with
        | false => rw [(hrv hro).2]; rfl
        | true =>
          rw [hro] at hst
          have hst : statB ops (mkPlan ops) = true := hst
          cases ct with
          | true => rfl
          | false => simp only [cond_false, ddraw, hst, cond_true]
      obtain ⟨n', hn, st1, he1, F', ρ', fr', h', hw, M, hM⟩ := sim_pdraw (hcallD h0) hr he
      refine ⟨[⟨.normal, fr', h', ds⟩], M + 1, fun m hm q hq => ?_, fun _ => ⟨_, rfl⟩, fun x hx => ?_⟩
      · obtain ⟨q', rfl⟩ := fuel (show 1 ≤ q by omega)
        have := hM m (by omega)
        simp only [dcode, cond_true]
        rw [hdd, this]
      · cases List.mem_singleton.1 hx
        exact ⟨[], ⟨rfl, List.nodup_nil, fun _ hb => (by cases hb)⟩, n', hn, st1, he1, F', ρ', hw.rel, Nat.le_trans hb hw.le.n, hw.le.low hb, hw.nx⟩
    | false =>
      simp only [cond_false] at he
      obtain ⟨r, M, hM, hone, hall⟩ := sim_prun (hcall h0) hr he
      refine ⟨r.map fun x => ⟨.normal, x.1, x.2, ds⟩, M + 1, fun m hm q hq => ?_, fun e => ?_, fun x hx => ?_⟩
      · obtain ⟨q', rfl⟩ := fuel (show 1 ≤ q by omega)
        simp only [dcode, cond_false, hM m (by omega)]
      · obtain ⟨y, rfl⟩ := hone e
        exact ⟨_, rfl⟩
      · obtain ⟨y, hy, rfl⟩ := List.mem_map.1 hx
        obtain ⟨n', hn, st1, he1, F', ρ', hw⟩ := hall y hy
        exact ⟨[], ⟨rfl, List.nodup_nil, fun _ hb => (by cases hb)⟩, n', hn, st1, he1, F', ρ', hw.rel, Nat.le_trans hb hw.le.n, hw.le.low hb, hw.nx⟩
  | seq a b iha ihb =>
    intro h0 st k F ρ fr h ds hb hr he
    unfold exec at he
    refine stepq (chain (run2 := fun m q x => match x.e with | .normal => dcode X.C (ecall X.C m) rv ct q b x.fr x.h x.ds | _ => some [x]) (Nat.le_refl n) (iha ds hb hr he) fun x ps1 n1 hn1 st1 he1 F' ρ' hr1 hb1 => ?_) (fun m q => rfl)
    obtain ⟨e, fr1, h1, ds1⟩ := x
    cases e with
    | normal =>
      have rest : ∀ {st2 : PSt} {F2 : Fz} {ρ2 : Rho} {n2 : Nat}, n2 ≤ n → Rel B (h0.pins ps1) F2 ρ2 st2 fr1 h1 → base ≤ st2.nx → (∀ id, id < base → ρ2 id = ρ' id) → (∀ b cs, F' b = some cs → F2 b = some cs) → Ev X Q n2 (exec X (pcall X nd d) (pcall X false d) nd ro d f base b st2 k) →
          Came B (h0.pins ps1) X base n Q k F' ρ' h1 nd (fun m q => dcode X.C (ecall X.C m) rv ct q b fr1 h1 ds1) ds1 := by
        intro st2 F2 ρ2 n2 hn2 hr2 hb2 hρ2 hF2 he2
        have hl0 : Le F' ρ' base F2 ρ2 base := ⟨hF2, fun id hi => .inl (hρ2 id hi), Nat.le_refl _⟩
        have hc : Came B (h0.pins ps1) X base n Q k F2 ρ2 h1 nd (fun m q => dcode X.C (ecall X.C m) rv ct q b fr1 h1 ds1) ds1 := by
          by_cases hlt : n2 < n
          · obtain ⟨l, M, h1, h2, h3⟩ := IH n2 hlt b ds1 hb2 hr2 he2
            exact ⟨l, M, h1, h2, fun x hx => by obtain ⟨ps, k0, n2, k1, k2⟩ := h3 x hx; exact ⟨ps, k0, n2, by omega, k2⟩⟩
          · have : n2 = n := by omega
            subst this
            exact ihb ds1 hb2 hr2 he2
        obtain ⟨l, M, h1, h2, h3⟩ := hc
        exact ⟨l, M, h1, h2, fun x hx => by
          obtain ⟨ps, k0, n3, k1, st3, k2, F3, ρ3, k3, k4, k5, k6⟩ := h3 x hx
          exact ⟨ps, k0, n3, k1, st3, k2, F3, ρ3, k3, k4, hl0.trans k5, k6⟩⟩
      simp only at he1
      cases hct : X.ct f (firstReg b) with
      | false => rw [hct] at he1; exact rest hn1 hr1 hb1 (fun _ _ => rfl) (fun _ _ h => h) he1
      | true =>
        rw [hct] at he1
        simp only [cond_true] at he1
        cases he1 with
        | cut he1 =>
          obtain ⟨F2, ρ0, hr0, hb0, hρ0, hF⟩ := sim_canonX hr1 f (firstReg b) hb1
          exact rest hn1 hr0 hb0 hρ0 hF he1
    | exit i => exact ⟨[⟨.exit i, fr1, h1, ds1⟩], 0, fun _ _ _ _ => rfl, fun _ => ⟨_, rfl⟩, fun x hx => by cases List.mem_singleton.1 hx; exact ⟨[], ⟨rfl, List.nodup_nil, fun _ hb => (by cases hb)⟩, n1, hn1, st1, he1, F', ρ', hr1, hb1, Le.refl, Nat.le_refl _⟩⟩
    | ret => exact ⟨[⟨.ret, fr1, h1, ds1⟩], 0, fun _ _ _ _ => rfl, fun _ => ⟨_, rfl⟩, fun x hx => by cases List.mem_singleton.1 hx; exact ⟨[], ⟨rfl, List.nodup_nil, fun _ hb => (by cases hb)⟩, n1, hn1, st1, he1, F', ρ', hr1, hb1, Le.refl, Nat.le_refl _⟩⟩
  | cond x a b iha ihb =>
    intro h0 st k F ρ fr h ds hb hr he
    unfold exec at he
    have go : ∀ {t : Bool} {st1 : PSt}, ev X.C fr x = some (.bool t) → Rel B h0 F ρ st1 fr h → base ≤ st1.nx → Ev X Q n (bif t then exec X (pcall X nd d) (pcall X false d) nd ro d f base a st1 k else exec X (pcall X nd d) (pcall X false d) nd ro d f base b st1 k) → Came B h0 X base n Q k F ρ h nd (fun m q => dcode X.C (ecall X.C m) rv ct q (.cond x a b) fr h ds) ds := by
      intro t st1 hx hr1 hb1 he
      cases t with
      | true => exact stepq (iha ds hb1 hr1 he) (fun m q => by simp only [dcode, hx])
      | false => exact stepq (ihb ds hb1 hr1 he) (fun m q => by simp only [dcode, hx])
    split at he
    case h_4 => exact absurd he Ev.not_fail
    case h_3 =>
      rename_i ht
      obtain ⟨y, g1, g2⟩ := pev_rel (C := X.C) hr.fp ht
      simp only [PR] at g2
      obtain ⟨t, rfl⟩ := g2
      split at he
      case h_2 => exact absurd he Ev.not_fail
      rename_i s
      have hs : fr.get s = .bool t := by simpa [ev] using g1
      obtain ⟨he1, he2⟩ := he.both_iff
      cases t with
      | true => exact go g1 (hr.note (by rw [hs]; exact mk_bl _)) hb he1
      | false => exact go g1 (hr.note (by rw [hs]; exact mk_bl _)) hb he2
    case h_1 =>
      rename_i t ht
      obtain ⟨y, g1, g2⟩ := pev_rel (C := X.C) hr.fp ht
      obtain rfl := pr_bl g2
      exact go g1 hr hb he
    case h_2 =>
      rename_i t ht
      obtain ⟨y, g1, g2⟩ := pev_rel (C := X.C) hr.fp ht
      obtain rfl := pr_bool g2
      split at he
      case h_1 =>
        rename_i s
        have hs : fr.get s = .bool t := by simpa [ev] using g1
        rcases he.ite_iff with ⟨ht1, he2⟩ | ⟨ht1, he2⟩
        · have ht1 : t = true := ht1
          subst ht1
          exact go g1 (hr.note (by rw [hs]; exact mk_bl _)) hb he2
        · have ht1 : t = false := ht1
          subst ht1
          exact go g1 (hr.note (by rw [hs]; exact mk_bl _)) hb he2
      case h_2 =>
        rcases he.ite_iff with ⟨ht1, he2⟩ | ⟨ht1, he2⟩
        · have ht1 : t = true := ht1
          subst ht1
          exact go g1 hr hb he2
        · have ht1 : t = false := ht1
          subst ht1
          exact go g1 hr hb he2
  | block id b ih =>
    intro h0 st k F ρ fr h ds hb hr he
    unfold exec at he
    obtain ⟨l, M, h1, h2, h3⟩ := ih ds hb hr he
    refine ⟨l.map fun x => match x.e with
        | .exit i => bif Nat.beq i id then { x with e := .normal } else x
        | _ => x, M + 1, fun m hm q hq => ?_, fun e => ?_, fun y hy => ?_⟩
    · obtain ⟨q', rfl⟩ := fuel (show 1 ≤ q by omega)
      have g1 := h1 m (by omega) q' (by omega)
      simp only at g1
      simp only [dcode, g1]
      rfl
    · obtain ⟨y, rfl⟩ := h2 e
      exact ⟨_, rfl⟩
    · obtain ⟨⟨e, fr1, hh1, ds1⟩, hx, rfl⟩ := List.mem_map.1 hy
      obtain ⟨ps, k0, n1, k1, st1, he1, F', ρ', k3, k4, k5, k6⟩ := h3 _ hx
      cases e with
      | normal => exact ⟨ps, k0, n1, k1, st1, he1, F', ρ', k3, k4, k5, k6⟩
      | ret => exact ⟨ps, k0, n1, k1, st1, he1, F', ρ', k3, k4, k5, k6⟩
      | exit i =>
        simp only at he1 ⊢
        cases hbe : Nat.beq i id with
        | true => rw [hbe] at he1; exact ⟨ps, k0, n1, k1, st1, he1, F', ρ', k3, k4, k5, k6⟩
        | false => rw [hbe] at he1; exact ⟨ps, k0, n1, k1, st1, he1, F', ρ', k3, k4, k5, k6⟩
  | loop b ih =>
    intro h0 st k F ρ fr h ds hb hr he
    unfold exec at he
    cases he with
    | @loop n0 _ _ _ _ _ _ _ _ he =>
    obtain ⟨F0, ρ0, hr0, hb0, hρ0, hF0⟩ := sim_canonX hr f (firstReg b) hb
    have hl0 : Le F ρ base F0 ρ0 base := ⟨hF0, fun id hi => .inl (hρ0 id hi), Nat.le_refl _⟩
    unfold body at he
    have hbody := IH n0 (Nat.lt_succ_self _) b ds hb0 hr0 he
    have hch : Came B h0 X base (n0 + 1) Q k F0 ρ0 h nd (fun m q => match dcode X.C (ecall X.C m) rv ct q b fr h ds with | some l => bl l (fun x => match x.e with | .normal => dcode X.C (ecall X.C m) rv ct q (.loop b) x.fr x.h x.ds | _ => some [x]) | none => none) ds := by
      refine chain (run2 := fun m q x => match x.e with | .normal => dcode X.C (ecall X.C m) rv ct q (.loop b) x.fr x.h x.ds | _ => some [x]) (Nat.le_succ n0) hbody fun x ps1 n1 hn1 st1 he1 F' ρ' hr1 hb1 => ?_
      obtain ⟨e, fr1, h1, ds1⟩ := x
      cases e with
      | normal =>
        have he1' : Ev X Q n1 (exec X (pcall X nd d) (pcall X false d) nd ro d f base (.loop b) st1 k) := by unfold exec; exact he1
        obtain ⟨l, M, h1, h2, h3⟩ := IH n1 (by omega) (.loop b) ds1 hb1 hr1 he1'
        exact ⟨l, M, h1, h2, fun x hx => by obtain ⟨ps, k0, n2, k1, k2⟩ := h3 x hx; exact ⟨ps, k0, n2, by omega, k2⟩⟩
      | exit i => exact ⟨[⟨.exit i, fr1, h1, ds1⟩], 0, fun _ _ _ _ => rfl, fun _ => ⟨_, rfl⟩, fun x hx => by cases List.mem_singleton.1 hx; exact ⟨[], ⟨rfl, List.nodup_nil, fun _ hb => (by cases hb)⟩, n1, by omega, st1, he1, F', ρ', hr1, hb1, Le.refl, Nat.le_refl _⟩⟩
      | ret => exact ⟨[⟨.ret, fr1, h1, ds1⟩], 0, fun _ _ _ _ => rfl, fun _ => ⟨_, rfl⟩, fun x hx => by cases List.mem_singleton.1 hx; exact ⟨[], ⟨rfl, List.nodup_nil, fun _ hb => (by cases hb)⟩, n1, by omega, st1, he1, F', ρ', hr1, hb1, Le.refl, Nat.le_refl _⟩⟩
    obtain ⟨l, M, g1, g2, g3⟩ := stepq (run' := fun m q => dcode X.C (ecall X.C m) rv ct q (.loop b) fr h ds) hch (fun m q => rfl)
    refine ⟨l, M, g1, g2, fun x hx => ?_⟩
    obtain ⟨ps, k0, n2, k1, st2, k2, F2, ρ2, k3, k4, k5, k6⟩ := g3 x hx
    exact ⟨ps, k0, n2, k1, st2, k2, F2, ρ2, k3, k4, hl0.trans k5, k6⟩
  | scope b ih =>
    intro h0 st k F ρ fr h ds hb hr he
    unfold exec at he
    exact stepq (ih ds hb hr he) (fun m q => rfl)
  | rangeFunc g ps a b _ _ =>
    intro h0 st k F ρ fr h ds hb hr he
    unfold exec at he
    cases hro : ro with
    | true => rw [hro] at he; exact absurd he Ev.not_fail
    | false =>
    rw [hro] at he
    obtain ⟨rfl, rfl⟩ := hrv hro
    simp only [cond_false] at he
    split at he
    case h_2 => exact absurd he Ev.not_fail
    rename_i gf first cap hg
    obtain ⟨gv, g1, g2⟩ := pev_rel (C := X.C) hr.fp hg
    simp only [PR] at g2
    obtain ⟨fa, fb, rfl, f1, f2⟩ := g2
    -- the memory with the mark and the record
    have hr1 := hr.sr.mark
    have hr2 := hr1.push (o := .lp f (firstReg b) ps a b .ready st.n (lpSlots X f (firstReg b) st)) (x := .loop ⟨.ready, none, fr, ps, a, b, h.nx⟩) (n := 0) rfl
      ⟨_, rfl, rfl, rfl, rfl, ⟨rfl, rfl⟩, hr.fp.n.symm, fun t => by
        have hl := Le.new (F := F) (ρ := ρ) (N := st.nx) ((h.push (.defd true)).nx, 0)
        unfold slotOf lpSlots
        cases hp : (ofSlots ((X.pl f (firstReg b)).map fun t => (t, st.get t))).get t with
        | none => simp [PR]
        | some p =>
          rcases ofSlots_get _ .leaf t p hp with h1 | h1
          · simp only [List.mem_map] at h1
            obtain ⟨s, _, h2⟩ := h1
            cases h2
            exact (hr.fp.slot _).mono hl
          · simp at h1⟩
    have hle2 : Le F ρ st.nx F (setR ρ st.nx (some (h.nx + 1, 0))) (st.nx + 1) := Le.new _
    have hrel2 : Rel B (h0.pins [h.nx]) F (setR ρ st.nx (some (h.nx + 1, 0))) (st.push (.lp f (firstReg b) ps a b .ready st.n (lpSlots X f (firstReg b) st))) fr ((h.push (.defd true)).push (.loop ⟨.ready, none, fr, ps, a, b, h.nx⟩)) :=
      ⟨⟨hr.fp.n, fun t => (hr.fp.slot t).mono hle2⟩, hr2⟩
    have hargs : PRs F (setR ρ st.nx (some (h.nx + 1, 0))) (st.push (.lp f (firstReg b) ps a b .ready st.n (lpSlots X f (firstReg b) st))).nx (first ++ [.yl st.nx] ++ cap) (fa ++ [.yld (h.nx + 1)] ++ fb) := by
      refine ((f1.mono hle2).append ?_).append (f2.mono hle2)
      simp only [PRs_cons, PRs_nil, and_true, PR]
      exact ⟨Nat.lt_succ_self _, fun b n hb => by simp [setR] at hb; rw [hb.1]⟩
    obtain ⟨cl, ⟨rfl, hprim, i, hfn⟩, l, M, hM, hone, hall⟩ := hcall _ he hrel2 hargs
    have hdc : dcall X.C ((h.push (.defd true)).push (.loop ⟨.ready, none, fr, ps, a, b, h.nx⟩)) (.fn (.func gf) fa fb) [.yld (h.nx + 1)] = some (.enter gf (fa ++ [.yld (h.nx + 1)] ++ fb)) := by
      simp only [dcall, hprim, hfn]
    -- behind the call
    have fin : ∀ x ∈ l, ∃ (r : List Det.X) (M : Nat), (∀ m : Nat, M ≤ m → ∀ q : Nat, M ≤ q → (match x.2.get (h.nx + 1) with
            | some (.loop ls) => match ls.st, ls.pend with
              | .busy, _ => none
              | _, none => some [⟨.normal, fr, x.2.put (h.nx + 1) (.loop { ls with st := .exhausted }), h.nx :: ds⟩]
              | _, some c => dcode X.C (ecall X.C m) none false q c fr (x.2.put (h.nx + 1) (.loop { ls with st := .exhausted })) (h.nx :: ds)
            | _ => none) = some r) ∧ (nd = false → ∃ x, r = [x]) ∧ ∀ y ∈ r, ∃ ps, (y.ds = ps ++ ds ∧ ps.Nodup ∧ ∀ b ∈ ps, h.nx ≤ b) ∧ ∃ n', n' ≤ n ∧ ∃ st1, Ev X Q n' (k y.e st1) ∧ ∃ F' ρ', Rel B (h0.pins ps) F' ρ' st1 y.fr y.h ∧ base ≤ st1.nx ∧ Le F ρ base F' ρ' base ∧ h.nx ≤ y.h.nx := by
      intro x hx
      obtain ⟨n1, hn1, r, st', he1, F', ρ', _, hw, _⟩ := hall x hx
      split at he1
      case h_2 => exact absurd he1 Ev.not_fail
      rename_i f' r' ps' asg' body' s n' sl hob
      obtain ⟨bb, nn, y, k1, k2, ⟨ls, rfl, -, -, -, hlp, -⟩, -⟩ := hw.rel.sr.at hob
      have hN : st.nx < st.nx + 1 := Nat.lt_succ_self _
      have kk : setR ρ st.nx (some (h.nx + 1, 0)) st.nx = some (bb, nn) := hw.le.at hN k1
      simp only [setR, if_true, Option.some.injEq, Prod.mk.injEq] at kk
      obtain ⟨rfl, rfl⟩ := kk
      -- the memory behind
      have hpin : ∀ p ∈ (h0.pins [h.nx]).pin, h.nx + 1 ≠ p := fun p hp e => (hw.rel.sr.pn p hp).2.2 _ _ (e ▸ k1)
      have hdel := hw.rel.sr.del st.nx
      have hput : ∀ z : O, Rel B (h0.pins [h.nx]) F' (setR ρ' st.nx none) (st'.delObj st.nx) fr (x.2.put (h.nx + 1) z) := by
        intro z
        have hl : Le F' ρ' st'.nx F' (setR ρ' st.nx none) st'.nx := Le.setNone _
        refine ⟨⟨hw.rel.fp.n, fun t => (hw.rel.fp.slot t).mono hl⟩, ?_⟩
        refine hdel.putFree (fun id o m ho e => ?_) ?_ (hw.rel.sr.own _ _ _ k1).2 (fun hp => hpin _ hp rfl) k2
        · rw [obGet_del] at ho
          split at ho
          · cases ho
          · rename_i hne
            simp only [setR, hne, if_false] at e
            exact hne (hw.rel.sr.inj id st.nx o _ _ m 0 ho hob e k1)
        · cases hF : F' (h.nx + 1) with
          | none => rfl
          | some cs => obtain ⟨t, fz, g⟩ := hw.rel.sr.frz _ cs hF; rw [k2] at g; cases g
      have hbase : base ≤ (st'.delObj st.nx).nx := Nat.le_trans hb (Nat.le_trans (Nat.le_succ _) hw.le.n)
      have hLe : Le F ρ base F' (setR ρ' st.nx none) base := by
        refine (hle2.low hb).trans ((hw.le.low (Nat.le_trans hb (Nat.le_succ _))).trans ?_)
        exact (Le.setNone (F := F') (ρ := ρ') (N := base) st.nx)
      have hnx : h.nx ≤ x.2.nx := Nat.le_trans (by show h.nx ≤ h.nx + 1 + 1; omega) hw.nx
      have done : ∀ {e : DX} {z : O}, Ev X Q n1 (k e (st'.delObj st.nx)) → ∃ ps, ((⟨e, fr, x.2.put (h.nx + 1) z, h.nx :: ds⟩ : Det.X).ds = ps ++ ds ∧ ps.Nodup ∧ ∀ b ∈ ps, h.nx ≤ b) ∧ ∃ n', n' ≤ n ∧ ∃ st1, Ev X Q n' (k e st1) ∧ ∃ F' ρ', Rel B (h0.pins ps) F' ρ' st1 fr (x.2.put (h.nx + 1) z) ∧ base ≤ st1.nx ∧ Le F ρ base F' ρ' base ∧ h.nx ≤ (x.2.put (h.nx + 1) z).nx := by
        intro e z he2
        exact ⟨[h.nx], ⟨rfl, (by simp), fun b hb => by cases List.mem_singleton.1 hb; exact Nat.le_refl _⟩, n1, hn1, _, he2, F', _, hput z, hbase, hLe, hnx⟩
      obtain ⟨lst, lpend, lfr, lps, lasg, lbody, ldb⟩ := ls
      simp only at hlp
      split at he1
      case h_1 =>
        obtain ⟨rfl, rfl⟩ := hlp
        exact ⟨[⟨.normal, fr, x.2.put (h.nx + 1) (.loop ⟨.exhausted, none, lfr, lps, lasg, lbody, ldb⟩), h.nx :: ds⟩], 0, fun m _ q _ => (by simp only [k2]), fun _ => ⟨_, rfl⟩, fun y hy => by cases List.mem_singleton.1 hy; exact done he1⟩
      case h_2 =>
        obtain ⟨rfl, rfl⟩ := hlp
        exact ⟨[⟨.ret, fr, x.2.put (h.nx + 1) (.loop ⟨.exhausted, some .ret, lfr, lps, lasg, lbody, ldb⟩), h.nx :: ds⟩], 1, fun m _ q hq => (by obtain ⟨q', rfl⟩ := fuel hq; simp only [k2, dcode]), fun _ => ⟨_, rfl⟩, fun y hy => by cases List.mem_singleton.1 hy; exact done he1⟩
      case h_3 =>
        rename_i j
        obtain ⟨rfl, rfl⟩ := hlp
        exact ⟨[⟨.exit j, fr, x.2.put (h.nx + 1) (.loop ⟨.exhausted, some (.exit j), lfr, lps, lasg, lbody, ldb⟩), h.nx :: ds⟩], 1, fun m _ q hq => (by obtain ⟨q', rfl⟩ := fuel hq; simp only [k2, dcode]), fun _ => ⟨_, rfl⟩, fun y hy => by cases List.mem_singleton.1 hy; exact done he1⟩
      case h_4 => exact absurd he1 Ev.not_fail
    obtain ⟨r, M2, j1, j2, j3⟩ := bl_all2 hone fin
    refine ⟨r, max M M2 + 1, fun m hm q hq => ?_, j2, j3⟩
    obtain ⟨q', rfl⟩ := fuel (show 1 ≤ q by omega)
    have h1 := hM m (by omega)
    have h2 := j1 m (by omega) q' (by omega)
    simp only [dcode, enterD, g1]
    show (match dcall X.C ((h.push (.defd true)).push (.loop ⟨.ready, none, fr, ps, a, b, h.nx⟩)) (.fn (.func gf) fa fb) [.yld (h.nx + 1)] with | some (.enter f args) => _ | _ => none) = _
    rw [hdc]
    simp only [h1]
    exact h2
  | goto l => intro h0 st k F ρ fr h ds hb hr he; exact absurd he Ev.not_fail
  | refuse s => intro h0 st k F ρ fr h ds hb hr he; exact absurd he Ev.not_fail
end
end Go.Pe
end
section
namespace Go.Pe
open Go.Det
section
variable {B : Nat} {h0 : H0} {X : PCtx} {F : Fz} {ρ : Rho} {N : Nat} {st st' : PSt} {fr : Fr} {h : H}
theorem argSlots_mem : ∀ {ps : List PV} {i t : Nat} {p : PV}, (t, p) ∈ argSlots ps i → ∃ k, t = i + k ∧ ps[k]? = some p
  | [], i, t, p, h => by cases h
  | q :: ps, i, t, p, h => by
    unfold argSlots at h
    rcases List.mem_cons.1 h with h | h
    · cases h; exact ⟨0, rfl, rfl⟩
    · obtain ⟨k, h1, h2⟩ := argSlots_mem h
      exact ⟨k + 1, by rw [h1]; show i + 1 + k = _; omega, by simpa using h2⟩
theorem init_fp {ps : List PV} {vs : List V} (hp : PRs F ρ N ps vs) (n : Nat) (ob : Ob) (nx : Nat) (_hnx : nx = N) : FP F ρ N (mkSt (Nat.add ps.length (Nat.sub n ps.length)) (argSlots ps 0) ob nx) (initF n vs) := by
  refine ⟨by show ps.length + (n - ps.length) = vs.length + (n - vs.length); rw [hp.len], fun t => ?_⟩
  show PR F ρ N (((ofSlots (argSlots ps 0)).get t).getD .any) _
  cases hg : (ofSlots (argSlots ps 0)).get t with
  | none => show PR F ρ N .any _; simp [PR]
  | some p =>
    show PR F ρ N p _
    rcases ofSlots_get _ .leaf t p hg with h1 | h1
    · obtain ⟨k, h2, h3⟩ := argSlots_mem h1
      obtain rfl : t = k := by omega
      obtain ⟨v, h4, h5⟩ := hp.get h3
      have hlt := (List.getElem?_eq_some_iff.1 h4).1
      unfold initF Fr.get
      simp only
      rw [initM_get, if_pos (by omega), Nat.sub_zero, h4]
      exact h5
    · simp at h1
theorem pres_rel : ∀ {rs : List ResultVar} {ps : List PV} {F : Fz} {ρ : Rho}, Rel B h0 F ρ st fr h → pres X.C.T st rs = some ps →
    ∃ vs F' ρ', dress X.C fr h rs = some vs ∧ PRs F' ρ' st.nx ps vs ∧ Rel B h0 F' ρ' st fr h ∧ Le F ρ st.nx F' ρ' st.nx
  | [], ps, F, ρ, hr, hp => by cases hp; exact ⟨[], F, ρ, rfl, by simp, hr, Le.refl⟩
  | r :: rs, ps, F, ρ, hr, hp => by
    unfold pres at hp
    split at hp
    case h_2 => cases hp
    rename_i p ps' h1 h2
    cases hp
    have key : ∃ v F1 ρ1, dres1 X.C fr h r = some v ∧ PR F1 ρ1 st.nx p v ∧ Rel B h0 F1 ρ1 st fr h ∧ Le F ρ st.nx F1 ρ1 st.nx := by
      cases r with
      | tmp t =>
        simp only [pres1, Option.some.injEq] at h1
        subst h1
        exact ⟨_, F, ρ, rfl, hr.fp.slot t, hr, Le.refl⟩
      | cell a t =>
        simp only [pres1] at h1
        split at h1
        case h_2 => cases h1
        rename_i u s hl
        cases h1
        have ht : (pload X.C.T st t (st.get a)).To p s := by rw [hl]; exact .val
        have hs : s = st := by
          unfold pload at hl
          split at hl
          case h_2 => cases hl
          split at hl
          · split at hl
            · unfold ov at hl; split at hl
              · cases hl; rfl
              · cases hl
            · cases hl
          · split at hl
            · rename_i hx; revert hl
              cases (Nat.beq _ _) with
              | false => intro hl; cases hl
              | true => intro hl; simp only [cond_true, ovc] at hl; split at hl <;> cases hl
            · cases hl
          · unfold ov at hl; split at hl
            · cases hl; rfl
            · cases hl
          · cases hl
        subst hs
        obtain ⟨v', h', F', ρ', g1, g2, g3, g4, g5, g6, g7, g8⟩ := s_load (C := X.C) hr.sr (hr.fp.slot a) ht
        cases hd : dload X.C.T h t (fr.get a) with
        | none => rw [hd] at g1; rcases g1 with g1 | ⟨g1, _⟩ <;> cases g1
        | some w =>
          rw [hd] at g1
          rcases g1 with g1 | ⟨g1, _⟩
          · simp only [okv, Option.some.injEq, OR.val.injEq] at g1
            obtain ⟨rfl, rfl⟩ := g1
            exact ⟨w, F', ρ', hd, g2, ⟨hr.fp.mono g4, g3⟩, g4⟩
          · cases g1
    obtain ⟨v, F1, ρ1, k1, k2, k3, k4⟩ := key
    obtain ⟨vs, F2, ρ2, k5, k6, k7, k8⟩ := pres_rel k3 h2
    exact ⟨v :: vs, F2, ρ2, by simp [dress, k1, k5], by simp only [PRs_cons]; exact ⟨k2.mono k8, k6⟩, k7, k4.trans k8⟩
/-- **a call that is entered** -/
theorem sim_enter {nd : Bool} {d : Nat} (hcall : ∀ h0, CallOk B h0 X nd (pcall X nd d)) (hcallD : ∀ h0, CallOk B h0 X false (pcall X false d)) (hmg : X.C.mg = false) {g : FuncId} (hsp : X.C.spec g = none) (hprim : X.C.prim g = none) (hno : X.sp g = none) {Q : PV → Ob → Prop} {n : Nat} {args : List PV} {k : PV → PSt → Tr} {args' : List V}
    (he : Ev X Q n (enter X (pcall X nd d) (pcall X false d) nd d g args st k)) (hr : Rel B h0 F ρ st fr h) (ha : PRs F ρ st.nx args args') :
    (X.C.prim g = none ∧ ∃ i, X.C.fn g = some i) ∧ ∃ l M, (∀ m, M ≤ m → ecall X.C m (.fn g args') h = some l) ∧ (nd = false → ∃ x, l = [x]) ∧
      ∀ x ∈ l, ∃ n', n' ≤ n ∧ ∃ r st', Ev X Q n' (k r st') ∧ ∃ F' ρ', PR F' ρ' st'.nx r x.1 ∧ Went B h0 F ρ st.nx h st' fr x.2 F' ρ' ∧ (∀ sp, X.sp g = some sp → ∀ b, b < h.nx → x.2.get b = h.get b) := by
  unfold enter at he
  split at he
  case h_1 => exact absurd he Ev.not_fail
  rename_i i hi
  cases hc : i.cert with
  | false => rw [hc] at he; exact absurd he Ev.not_fail
  | true =>
    rw [hc] at he
    simp only [cond_true] at he
    have hr0 : Rel B h0 F ρ (mkSt (Nat.add args.length (Nat.sub i.ntmps args.length)) (argSlots args 0) st.ob st.nx) (initF i.ntmps args') h := ⟨init_fp ha i.ntmps st.ob st.nx rfl, hr.sr⟩
    obtain ⟨l, M, hM, hone, hall⟩ := sim_exec (ro := false) (rv := none) (ct := true) (fun _ => ⟨rfl, rfl⟩) hcall hcallD n i.body (st := mkSt (Nat.add args.length (Nat.sub i.ntmps args.length)) (argSlots args 0) st.ob st.nx) [] (Nat.le_refl st.nx) hr0 he
    -- an outcome of the body, and of the call
    have fin : ∀ x ∈ l, ∃ (r : List (V × H)) (M : Nat), (∀ m : Nat, M ≤ m → ∀ q : Nat, M ≤ q → (match x.e with
            | .exit _ => none
            | _ => match dleave x.ds x.h with
              | some h1 => match dres X.C x.fr h1 i.results.toList with
                | some v => some [(v, h1)]
                | none => none
              | none => none) = some r) ∧ (nd = false → ∃ x, r = [x]) ∧ ∀ x ∈ r, ∃ n', n' ≤ n ∧ ∃ r st', Ev X Q n' (k r st') ∧ ∃ F' ρ', PR F' ρ' st'.nx r x.1 ∧ Went B h0 F ρ st.nx h st' fr x.2 F' ρ' ∧ (∀ sp, X.sp g = some sp → ∀ b, b < h.nx → x.2.get b = h.get b) := by
      intro x hx
      obtain ⟨ps, ⟨hds, hnodup, hge⟩, n1, hn1, st1, he1, F1, ρ1, hr1', hb1, hl1, hx1'⟩ := hall x hx
      obtain ⟨e, fr1, hx0, ds1⟩ := x
      simp only at hds he1 hr1' hx1' ⊢
      obtain ⟨h1, hlv, hsr1, hnx1, _⟩ := SR.leave hnodup (fun b hb hp => by
        have k1 := hge b hb
        have k2 := hr.sr.lt b _ (hr.sr.pn b hp).1
        omega) hr1'.sr
      have hr1 : Rel B h0 F1 ρ1 st1 fr1 h1 := ⟨hr1'.fp, hsr1⟩
      have hx1 : h.nx ≤ h1.nx := by rw [hnx1]; exact hx1'
      rw [List.append_nil] at hds
      subst hds
      have go : (∀ j, e ≠ .exit j) → Ev X Q n1 (match pres X.C.T st1 i.results.toList with | some vs => k (Go.Pe.one vs) ⟨st.n, st.fr, st1.ob, st1.nx⟩ | none => .fail) →
          ∃ v', dres X.C fr1 h1 i.results.toList = some v' ∧ ∃ n', n' ≤ n ∧ ∃ r st', Ev X Q n' (k r st') ∧ ∃ F' ρ', PR F' ρ' st'.nx r v' ∧ Went B h0 F ρ st.nx h st' fr h1 F' ρ' ∧ (∀ sp, X.sp g = some sp → ∀ b, b < h.nx → h1.get b = h.get b) := by
        intro hne he2
        split at he2
        case h_2 => exact absurd he2 Ev.not_fail
        rename_i ps hps
        obtain ⟨vs, F2, ρ2, k1, k2, k3, k4⟩ := pres_rel hr1 hps
        have hle : Le F ρ st.nx F2 ρ2 st1.nx := ⟨fun b cs hb => k4.fz _ _ (hl1.fz _ _ hb), fun id hid => by
          rcases k4.rho id (Nat.lt_of_lt_of_le hid hb1) with e | e
          · rw [e]; exact hl1.rho id hid
          · exact .inr e, hb1⟩
        have hres : ∃ r', dres X.C fr1 h1 i.results.toList = some r' ∧ PR F2 ρ2 st1.nx (Go.Pe.one ps) r' := by
          unfold dres
          rw [k1]
          cases ps with
          | nil => simp at k2; subst k2; exact ⟨_, rfl, by simp [Go.Pe.one, PR]⟩
          | cons p ps =>
            simp only [PRs] at k2
            obtain ⟨v1, vs1, rfl, g1, g2⟩ := k2
            cases ps with
            | nil => simp at g2; subst g2; exact ⟨_, rfl, g1⟩
            | cons q qs =>
              have g2' := g2
              simp only [PRs] at g2
              obtain ⟨v2, vs2, rfl, _, _⟩ := g2
              refine ⟨_, rfl, ?_⟩
              show PR F2 ρ2 st1.nx (.tup (p :: q :: qs)) _
              unfold PR
              exact ⟨_, rfl, by simp only [PRs_cons]; exact ⟨g1, by simpa only [PRs_cons] using g2'⟩⟩
        obtain ⟨r', q1, q2⟩ := hres
        exact ⟨r', q1, n1, hn1, _, _, he2, F2, ρ2, q2, ⟨⟨⟨hr.fp.n, fun t => (hr.fp.slot t).mono hle⟩, k3.sr⟩, hle, hx1⟩, fun sp h => (by rw [hno] at h; cases h)⟩
      cases e with
      | normal =>
        obtain ⟨v', q1, q2⟩ := go (fun j => by simp) he1
        exact ⟨[(v', h1)], 0, fun m _ q _ => (by simp only [hlv, q1]), fun _ => ⟨_, rfl⟩, fun y hy => by cases List.mem_singleton.1 hy; exact q2⟩
      | ret =>
        obtain ⟨v', q1, q2⟩ := go (fun j => by simp) he1
        exact ⟨[(v', h1)], 0, fun m _ q _ => (by simp only [hlv, q1]), fun _ => ⟨_, rfl⟩, fun y hy => by cases List.mem_singleton.1 hy; exact q2⟩
      | exit j => exact absurd he1 Ev.not_fail
    obtain ⟨r, M2, g1, g2, g3⟩ := bl_all2 (f := fun _ _ (x : Det.X) => match x.e with
            | .exit _ => none
            | _ => match dleave x.ds x.h with
              | some h1 => match dres X.C x.fr h1 i.results.toList with
                | some v => some [(v, h1)]
                | none => none
              | none => none) (P := fun x => ∃ n', n' ≤ n ∧ ∃ r st', Ev X Q n' (k r st') ∧ ∃ F' ρ', PR F' ρ' st'.nx r x.1 ∧ Went B h0 F ρ st.nx h st' fr x.2 F' ρ' ∧ (∀ sp, X.sp g = some sp → ∀ b, b < h.nx → x.2.get b = h.get b)) hone fin
    refine ⟨⟨hprim, i, hi⟩, r, max M M2 + 1, fun m hm => ?_, g2, g3⟩
    obtain ⟨m', rfl⟩ : ∃ m', m = m' + 1 := ⟨m - 1, by omega⟩
    have hd := hM m' (by omega) m' (by omega)
    have hg := g1 m' (by omega) m' (by omega)
    simp only at hd
    have : ecall X.C (m' + 1) (.fn g args') h = (match dcode X.C (ecall X.C m') none i.cert m' i.body (initF i.ntmps args') h [] with
        | none => none
        | some l => match (bl l fun x => match x.e with
          | .exit _ => none
          | _ => match dleave x.ds x.h with
            | some h1 => match dres X.C x.fr h1 i.results.toList with
              | some v => some [(v, h1)]
              | none => none
            | none => none) with
          | some r => some (bif X.C.mg then mergeO h.nx r else r)
          | none => none) := by
      rw [ecall]
      simp only [hsp, hi]
      rfl
    rw [this, hc, hd]
    simp only
    have hg' : (bl l fun x => match x.e with
          | .exit _ => none
          | _ => match dleave x.ds x.h with
            | some h1 => match dres X.C x.fr h1 i.results.toList with
              | some v => some [(v, h1)]
              | none => none
            | none => none) = some r := hg
    rw [hg', hmg]
    rfl
/-- a round of a range over a function -/
theorem sim_round {nd : Bool} {d : Nat} (hcall : ∀ h0, CallOk B h0 X nd (pcall X nd d)) (hcallD : ∀ h0, CallOk B h0 X false (pcall X false d)) {id : Nat} {Q : PV → Ob → Prop} {n : Nat} {args : List PV} {k : PV → PSt → Tr} {args' : List V}
    (he : Ev X Q n (pround X (pcall X nd d) (pcall X false d) nd d id args st k)) (hr : Rel B h0 F ρ st fr h) (ha : PRs F ρ st.nx args args') :
    ∃ c, CalD X ρ h args' (.rnd id) c ∧ ∃ l M, (∀ m, M ≤ m → ecall X.C m c h = some l) ∧ (nd = false → ∃ x, l = [x]) ∧
      ∀ x ∈ l, ∃ n', n' ≤ n ∧ ∃ r st', Ev X Q n' (k r st') ∧ ∃ F' ρ', PR F' ρ' st'.nx r x.1 ∧ Went B h0 F ρ st.nx h st' fr x.2 F' ρ' := by
  unfold pround at he
  split at he
  case h_2 => exact absurd he Ev.not_fail
  rename_i f r ps asg b n0 sl hob
  obtain ⟨bb, m0, y, k1, k2, ⟨ls, rfl, rfl, rfl, rfl, ⟨l1, l2⟩, rfl, l4⟩, -⟩ := hr.sr.at hob
  cases hsz : Nat.beq args.length ls.ps.size with
  | false => rw [hsz] at he; exact absurd he Ev.not_fail
  | true =>
  rw [hsz] at he
  simp only [cond_true] at he
  have hlen : args'.length = ls.ps.size := by rw [← ha.len]; exact Nat.eq_of_beq_eq_true hsz
  have hid : id < st.nx := (hr.sr.own _ _ _ k1).1
  have hr0 : Rel B h0 F ρ (psets ls.ps.toList args (mkSt ls.fr.n sl st.ob st.nx)) (setPs ls.ps.toList args' ls.fr) h := by
    have base0 : Rel B h0 F ρ (mkSt ls.fr.n sl st.ob st.nx) ls.fr h := ⟨⟨rfl, fun t => l4 t⟩, hr.sr⟩
    have go : ∀ (ts : List Tmp) (as : List PV) (as' : List V) (s : PSt) (f : Fr), s.nx = st.nx → PRs F ρ st.nx as as' → Rel B h0 F ρ s f h → Rel B h0 F ρ (psets ts as s) (setPs ts as' f) h := by
      intro ts
      induction ts with
      | nil => intro as as' s f _ _ hs; cases as <;> exact hs
      | cons t ts ih =>
        intro as as' s f hn hp hs
        cases as with
        | nil => simp only [PRs_nil] at hp; subst hp; exact hs
        | cons a as =>
          simp only [PRs] at hp
          obtain ⟨v, vs, rfl, p1, p2⟩ := hp
          simp only [psets, setPs]
          refine ih as vs _ _ ?_ p2 ?_
          · cases Nat.blt t s.n <;> exact hn
          · unfold Fr.setT
            rw [show s.n = f.n from hs.fp.n]
            cases Nat.blt t f.n with
            | false => exact hs
            | true => exact hs.set (by rw [hn]; exact p1)
    exact go _ _ _ _ _ rfl ha base0
  have hnx0 : st.nx ≤ (psets ls.ps.toList args (mkSt ls.fr.n sl st.ob st.nx)).nx := by
    have go : ∀ (ts : List Tmp) (as : List PV) (s : PSt), (psets ts as s).nx = s.nx := by
      intro ts
      induction ts with
      | nil => intro as s; cases as <;> rfl
      | cons t ts ih =>
        intro as s
        cases as with
        | nil => rfl
        | cons a as => simp only [psets]; rw [ih]; cases Nat.blt t s.n <;> rfl
    rw [go]; exact Nat.le_refl _
  obtain ⟨L, M1, hM1, hone1, hall1⟩ := sim_exec (ro := true) (rv := some bb) (ct := false) (fun e => by cases e) hcall hcallD n ls.asg [] hnx0 hr0 he
  refine ⟨_, ⟨bb, m0, ls, k1, k2, hlen, rfl⟩, ?_⟩
  -- the body, and what is behind it
  have fin : ∀ x ∈ L, ∃ (r : List (V × H)) (M : Nat), (∀ m : Nat, M ≤ m → ∀ q : Nat, M ≤ q → (match x.e, x.h.get bb with
      | .normal, some (.loop l1) => match l1.st with
        | .ready => match dcode X.C (ecall X.C m) (some bb) false q ls.body x.fr (x.h.put bb (.loop { l1 with st := .busy })) x.ds with
          | some l2 => bl l2 fun y => match y.h.get bb with
            | some (.loop l3) => match y.e with
              | .normal => some [(V.bool true, y.h.put bb (.loop { l3 with st := .ready, pend := none }))]
              | .ret => some [(V.bool false, y.h.put bb (.loop { l3 with st := .done, pend := some .ret }))]
              | .exit i => some [(V.bool false, y.h.put bb (.loop { l3 with st := .done, pend := some (.exit i) }))]
            | _ => none
          | none => none
        | _ => none
      | _, _ => none) = some r) ∧ (nd = false → ∃ x, r = [x]) ∧ ∀ x ∈ r, ∃ n', n' ≤ n ∧ ∃ r st', Ev X Q n' (k r st') ∧ ∃ F' ρ', PR F' ρ' st'.nx r x.1 ∧ Went B h0 F ρ st.nx h st' fr x.2 F' ρ' := by
    intro x hx
    obtain ⟨ps1, _, n1, hn1, s, he1, F1, ρ1, hr1, hb1, hl1, hx1⟩ := hall1 x hx
    obtain ⟨e, fr1, h1, ds1⟩ := x
    simp only at he1 hr1 hx1 ⊢
    cases e with
    | exit i => exact absurd he1 Ev.not_fail
    | ret => exact absurd he1 Ev.not_fail
    | normal =>
    simp only at he1
    split at he1
    case h_2 => exact absurd he1 Ev.not_fail
    rename_i f' r' ps' asg' b' n' sl' hob1
    have hs1 : SR B h0 F1 ρ1 s.nx s.ob h1 := hr1.sr.fewer
    obtain ⟨c1, m1, y1, q1, q2, ⟨la, rfl, rfl, rfl, rfl, ⟨la1, la2⟩, rfl, la4⟩, -⟩ := hs1.at hob1
    obtain ⟨rfl, rfl⟩ : c1 = bb ∧ m1 = m0 := by
      have := hl1.at hid q1
      rw [k1] at this; cases this; exact ⟨rfl, rfl⟩
    have hr2 : Rel B h0 F1 ρ1 (s.setObj id (.lp f' r' la.ps la.asg la.body .busy la.fr.n sl')) fr1 (h1.put c1 (.loop { la with st := .busy })) :=
      ⟨⟨hr1.fp.n, fun t => hr1.fp.slot t⟩, hs1.set hob1 q1 q2 rfl rfl (o' := .lp f' r' la.ps la.asg la.body .busy la.fr.n sl') ⟨_, rfl, rfl, rfl, rfl, rfl, rfl, la4⟩⟩
    obtain ⟨L2, M2, hM2, hone2, hall2⟩ := sim_exec (ro := true) (rv := some c1) (ct := false) (fun e => by cases e) hcall hcallD n1 ls.body ds1 (show st.nx ≤ (s.setObj id (.lp f' r' la.ps la.asg la.body .busy la.fr.n sl')).nx from hb1) hr2 he1
    have fin2 : ∀ y ∈ L2, ∃ (r : List (V × H)) (M : Nat), (∀ m : Nat, M ≤ m → ∀ q : Nat, M ≤ q → (match y.h.get c1 with
        | some (.loop l3) => match y.e with
          | .normal => some [(V.bool true, y.h.put c1 (.loop { l3 with st := .ready, pend := none }))]
          | .ret => some [(V.bool false, y.h.put c1 (.loop { l3 with st := .done, pend := some .ret }))]
          | .exit i => some [(V.bool false, y.h.put c1 (.loop { l3 with st := .done, pend := some (.exit i) }))]
        | _ => none) = some r) ∧ (nd = false → ∃ x, r = [x]) ∧ ∀ x ∈ r, ∃ n', n' ≤ n ∧ ∃ r st', Ev X Q n' (k r st') ∧ ∃ F' ρ', PR F' ρ' st'.nx r x.1 ∧ Went B h0 F ρ st.nx h st' fr x.2 F' ρ' := by
      intro y hy
      obtain ⟨ps2, _, n2, hn2, s2, he2, F2, ρ2, hr3, hb2, hl2, hx2⟩ := hall2 y hy
      obtain ⟨e2, fr2, h2, ds2⟩ := y
      simp only at he2 hr3 hx2 ⊢
      split at he2
      case h_2 => exact absurd he2 Ev.not_fail
      rename_i f2 r2 pp2 aa2 bb2 ss2 nn2 sl2 hob2
      have hs3 : SR B h0 F2 ρ2 s2.nx s2.ob h2 := hr3.sr.fewer
      obtain ⟨c2, m2, y2, w1, w2, ⟨lb, rfl, rfl, rfl, rfl, _, rfl, lb4⟩, -⟩ := hs3.at hob2
      have hle : Le F ρ st.nx F2 ρ2 s2.nx := by
        have h := hl1.trans hl2
        exact ⟨h.fz, h.rho, hb2⟩
      obtain ⟨rfl, rfl⟩ : c2 = c1 ∧ m2 = m1 := by
        have := hle.at hid w1
        rw [k1] at this; cases this; exact ⟨rfl, rfl⟩
      have hnx : h.nx ≤ h2.nx := Nat.le_trans hx1 hx2
      have done : ∀ (sb : LpS) (lst : LoopState) (pe : Option Code) (rb : Bool), LpR sb lst pe → Ev X Q n2 (k (.bl rb) ⟨st.n, st.fr, (s2.setObj id (.lp f2 r2 lb.ps lb.asg lb.body sb lb.fr.n sl2)).ob, s2.nx⟩) →
          ∃ n', n' ≤ n ∧ ∃ r st', Ev X Q n' (k r st') ∧ ∃ F' ρ', PR F' ρ' st'.nx r (V.bool rb) ∧ Went B h0 F ρ st.nx h st' fr (h2.put c2 (.loop { lb with st := lst, pend := pe })) F' ρ' := by
        intro sb lst pe rb hlr he3
        refine ⟨n2, Nat.le_trans hn2 hn1, _, _, he3, F2, ρ2, mk_bl _, ⟨⟨⟨hr.fp.n, fun t => (hr.fp.slot t).mono hle⟩, ?_⟩, hle, hnx⟩⟩
        exact hs3.set hob2 w1 w2 rfl rfl (o' := .lp f2 r2 lb.ps lb.asg lb.body sb lb.fr.n sl2) ⟨_, rfl, rfl, rfl, rfl, hlr, rfl, lb4⟩
      cases e2 with
      | normal => exact ⟨[(.bool true, h2.put c2 (.loop { lb with st := .ready, pend := none }))], 0, fun m _ q _ => (by simp only [w2]), fun _ => ⟨_, rfl⟩, fun z hz => by cases List.mem_singleton.1 hz; exact done .ready _ _ true ⟨rfl, rfl⟩ he2⟩
      | ret => exact ⟨[(.bool false, h2.put c2 (.loop { lb with st := .done, pend := some .ret }))], 0, fun m _ q _ => (by simp only [w2]), fun _ => ⟨_, rfl⟩, fun z hz => by cases List.mem_singleton.1 hz; exact done .ret _ _ false ⟨rfl, rfl⟩ he2⟩
      | exit i => exact ⟨[(.bool false, h2.put c2 (.loop { lb with st := .done, pend := some (.exit i) }))], 0, fun m _ q _ => (by simp only [w2]), fun _ => ⟨_, rfl⟩, fun z hz => by cases List.mem_singleton.1 hz; exact done (.exit i) _ _ false ⟨rfl, rfl⟩ he2⟩
    obtain ⟨r, M3, j1, j2, j3⟩ := bl_all2 hone2 fin2
    refine ⟨r, max M2 M3, fun m hm q hq => ?_, j2, j3⟩
    have a1 := hM2 m (by omega) q (by omega)
    simp only at a1
    have a2 := j1 m (by omega) q (by omega)
    simp only [q2, la1]
    rw [a1]
    exact a2
  obtain ⟨r, M4, j1, j2, j3⟩ := bl_all2 hone1 fin
  refine ⟨r, max M1 M4 + 1, fun m hm => ?_, j2, j3⟩
  obtain ⟨m', rfl⟩ : ∃ m', m = m' + 1 := ⟨m - 1, by omega⟩
  have a1 := hM1 m' (by omega) m' (by omega)
  simp only at a1
  have a2 := j1 m' (by omega) m' (by omega)
  rw [ecall]
  simp only [dround]
  rw [a1]
  exact a2
end
end Go.Pe
end
