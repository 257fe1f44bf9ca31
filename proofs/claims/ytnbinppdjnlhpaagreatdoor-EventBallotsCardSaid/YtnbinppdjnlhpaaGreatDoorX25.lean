import Derived.Test.YtnbinppdjnlhpaaGreatDoorX07
import Derived.ChangeSame
import Derived.Below
/- A part of the proofs of the laws of one chapter (no law is stated here). Made by program out of texts by AI agents. -/
section
/- From the rows: what is read of a world is read of every later one whose old blocks are the same. -/
namespace Go.Det
open Go.ChangeShapes Go.WideShapes Go.RowKit
theorem mapM_congr_some {α β : Type} {f g : α → Option β} : ∀ {l : List α} {ys : List β}, l.mapM f = some ys → (∀ a ∈ l, ∀ y ∈ ys, f a = some y → g a = some y) → l.mapM g = some ys
  | [], ys, h, _ => by simpa using h
  | a :: l, ys, h, hg => by
    rw [List.mapM_cons] at h ⊢
    cases hf : f a with
    | none => rw [hf] at h; cases h
    | some y =>
      rw [hf] at h
      cases hl : l.mapM f with
      | none => rw [hl] at h; cases h
      | some zs =>
        rw [hl] at h
        cases h
        rw [hg a (by simp) y (by simp) hf, mapM_congr_some hl (fun b hb z hz hfz => hg b (by simp [hb]) z (by simp [hz]) hfz)]
        rfl
def hE0 : Det.H := ⟨.leaf, 0⟩
/-- the types that are reached from these, and no slice's element is without cells -/
def kidsB (P : Program) (L : List TypeId) (t : TypeId) : Bool := match P.underlying t with
  | some (.pointer e) | some (.array _ e) | some (.map _ e) => L.contains e
  | some (.slice e) => L.contains e && Nat.ble 1 (P.cellsOf e)
  | some (.struct fs) => fs.toList.all fun f => L.contains f.type
  | _ => true
def closedB (P : Program) (L : List TypeId) : Bool := L.all (kidsB P L)
section
variable {H : Type} {enc : TypeId × Value → H} {P : Program} {W W' : World}
theorem kids_of {L : List TypeId} (h : closedB P L = true) {t : TypeId} (ht : t ∈ L) : kidsB P L t = true := List.all_eq_true.1 h t ht
theorem cell_below (hb : Below W.heap.size W W') {a : Addr} {v : Value} (h : W.cell? a = some v) : W'.cell? a = some v := by
  have hl : a.block < W.heap.size := by
    unfold World.cell? at h
    by_cases hh : a.block < W.heap.size
    · exact hh
    · rw [Array.getElem?_eq_none (by omega)] at h; cases h
  unfold World.cell? at h ⊢
  rw [hb.block _ hl]
  exact h
theorem cells_below (hb : Below W.heap.size W W') {a : Addr} {n : Nat} {cs : List Value} (h : W.cells? 0 a n = some cs) : W'.cells? 0 a n = some cs := by
  unfold World.cells? at h ⊢
  rw [if_pos (Nat.zero_le _)] at h ⊢
  exact mapM_congr_some h fun i _ v _ hv => cell_below hb hv
theorem bind_cells_below (hb : Below W.heap.size W W') {β : Type} {a : Addr} {n : Nat} {f g : List Value → Option β} {y : β} (h : (W.cells? 0 a n).bind f = some y) (hfg : ∀ cs, f cs = some y → g cs = some y) : (W'.cells? 0 a n).bind g = some y := by
  cases hc : W.cells? 0 a n with
  | none => rw [hc] at h; cases h
  | some cs =>
    rw [hc] at h
    rw [cells_below hb hc]
    exact hfg cs h
theorem trod_below (hb : Below W.heap.size W W') {L : List TypeId} (hz : closedB P L = true) {sp : Nat → Bool} : ∀ (fuel : Nat) (t : TypeId) (cs : List Value) (x : DataW H × List MemPlace), t ∈ L →
    DataW.trod enc P W 0 (fun _ => true) true fuel t cs = some x → (∀ p ∈ x.2, sp p.block = true) → DataW.trod enc P W' 0 sp true fuel t cs = some x
  | 0, _, _, _, _, h, _ => by cases h
  | fuel + 1, t, cs, x, ht, h, hs => by
    have ih := trod_below hb hz (sp := sp) fuel
    have hk := kids_of hz ht
    unfold kidsB at hk
    unfold DataW.trod at h ⊢
    split at h <;> try simp only [reduceCtorEq] at h
    all_goals try exact h
    case h_6 e a hu =>
      have hke : e ∈ L := by rw [hu] at hk; simpa using hk
      cases hm : (W.cells? 0 a (P.cellsOf e)).bind (DataW.trod enc P W 0 (fun _ => true) true fuel e) with
      | none => rw [hm] at h; cases h
      | some y =>
        rw [hm] at h
        cases h
        rw [bind_cells_below hb hm (g := DataW.trod enc P W' 0 sp true fuel e) (fun cs hc => ih e cs y hke hc (fun p hp => hs p (by simp [hp])))]
        rfl
    case h_8 e a len cap hu =>
      have hke : e ∈ L ∧ P.cellsOf e ≠ 0 := by
        rw [hu] at hk
        simp only [Bool.and_eq_true, List.contains_iff_mem] at hk
        have := Nat.le_of_ble_eq_true hk.2
        exact ⟨hk.1, by omega⟩
      by_cases hc : 0 ≤ a.block ∧ len ≤ cap ∧ cap ≤ maxLen
      · rw [if_pos hc] at h ⊢
        have step : ∀ (i : Nat) (y : DataW H × List MemPlace), (W.cells? 0 (a.add (i * P.cellsOf e)) (P.cellsOf e)).bind (DataW.trod enc P W 0 (fun _ => true) true fuel e) = some y → (∀ p ∈ y.2, sp p.block = true) →
            (W'.cells? 0 (a.add (i * P.cellsOf e)) (P.cellsOf e)).bind (DataW.trod enc P W' 0 sp true fuel e) = some y := fun i y hy hp => bind_cells_below hb hy fun cs hc => ih e cs y hke.1 hc hp
        cases h1 : (List.range len).mapM (fun i => (W.cells? 0 (a.add (i * P.cellsOf e)) (P.cellsOf e)).bind (DataW.trod enc P W 0 (fun _ => true) true fuel e)) with
        | none => rw [h1] at h; cases h
        | some ys =>
          rw [h1] at h
          simp only [if_true, Option.bind_some] at h
          cases h2 : (List.range (cap - len)).mapM (fun j => (W.cells? 0 (a.add ((len + j) * P.cellsOf e)) (P.cellsOf e)).bind (DataW.trod enc P W 0 (fun _ => true) true fuel e)) with
          | none => rw [h2] at h; cases h
          | some zs =>
            rw [h2] at h
            cases h
            rw [mapM_congr_some h1 fun i _ y hy hi => step i y hi fun p hp => hs p (List.mem_append_right _ (List.mem_flatMap.2 ⟨y, List.mem_append_left _ hy, hp⟩))]
            have h2' := mapM_congr_some h2 fun j _ y hy hj => step (len + j) y hj fun p hp => hs p (List.mem_append_right _ (List.mem_flatMap.2 ⟨y, List.mem_append_right _ hy, hp⟩))
            by_cases hsp : sp a.block = true
            · simp only [hsp, if_true, Option.bind_some]
              rw [h2']
              rfl
            · have e0 : (ys.length + zs.length) * P.cellsOf e = 0 := by
                rcases Nat.eq_zero_or_pos ((ys.length + zs.length) * P.cellsOf e) with h0 | h0
                · exact h0
                · refine absurd (hs (.cell a.block (a.off + 0)) (List.mem_append_left _ ?_)) hsp
                  simp only [MemPlace.row, List.mem_map, List.mem_range]
                  exact ⟨0, h0, rfl⟩
              have e1 : zs = [] := by
                rcases Nat.mul_eq_zero.1 e0 with h0 | h0
                · exact List.length_eq_zero_iff.1 (by omega)
                · exact absurd h0 hke.2
              subst e1
              simp only [hsp, Option.bind_some]
              rfl
      · rw [if_neg hc] at h; cases h
    case h_9 cs _ _ fs hu =>
      have hke : ∀ f ∈ fs.toList, f.type ∈ L := by
        rw [hu] at hk
        intro f hf
        have := List.all_eq_true.1 hk f hf
        simpa using this
      by_cases hc : cs.length = P.cellsOf t
      · rw [if_pos hc] at h ⊢
        cases h1 : fs.toList.mapM (fun f => DataW.trod enc P W 0 (fun _ => true) true fuel f.type ((cs.drop f.offset).take (P.cellsOf f.type))) with
        | none => rw [h1] at h; cases h
        | some ys =>
          rw [h1] at h
          cases h
          rw [mapM_congr_some h1 fun f hfm y hy hf => ih _ _ y (hke f hfm) hf fun p hp => hs p (List.mem_flatMap.2 ⟨y, hy, hp⟩)]
          rfl
      · rw [if_neg hc] at h; cases h
    case h_10 cs _ _ n e hu =>
      have hke : e ∈ L := by rw [hu] at hk; simpa using hk
      by_cases hc : cs.length = P.cellsOf t
      · rw [if_pos hc] at h ⊢
        cases h1 : (List.range n).mapM (fun i => DataW.trod enc P W 0 (fun _ => true) true fuel e ((cs.drop (i * P.cellsOf e)).take (P.cellsOf e))) with
        | none => rw [h1] at h; cases h
        | some ys =>
          rw [h1] at h
          cases h
          rw [mapM_congr_some h1 fun f _ y hy hf => ih _ _ y hke hf fun p hp => hs p (List.mem_flatMap.2 ⟨y, hy, hp⟩)]
          rfl
      · rw [if_neg hc] at h; cases h
    case h_14 k e b hu =>
      have hke : e ∈ L := by rw [hu] at hk; simpa using hk
      have hl : b < W.heap.size := by
        by_cases hh : b < W.heap.size
        · exact hh
        · rw [Array.getElem?_eq_none (by omega)] at h; cases h
      rw [hb.block _ hl]
      split at h
      case h_2 => cases h
      rename_i es clock hes
      simp only
      split at h
      case isFalse => cases h
      rename_i hcond
      rw [if_pos hcond]
      cases h1 : (es.toList.mapM fun x => (keyOf P k x.key).bind fun key => if x.val.formed P e then (DataW.trod enc P W 0 (fun _ => true) true fuel e x.val.cells.toList).map fun y => ((key, y.1), y.2) else none) with
      | none => rw [h1] at h; cases h
      | some ys =>
        rw [h1] at h
        simp only [Option.bind_some] at h
        split at h
        case isFalse => cases h
        rename_i hri
        cases h
        rw [mapM_congr_some h1 fun en _ y hy hf => ?_]
        · simp only [Option.bind_some]
          rw [if_pos hri]
        · cases hk : keyOf P k en.key with
          | none => rw [hk] at hf; cases hf
          | some key =>
            rw [hk] at hf
            simp only [Option.bind_some] at hf ⊢
            split at hf
            case isFalse => cases hf
            rename_i hfo
            rw [if_pos hfo]
            cases htt : DataW.trod enc P W 0 (fun _ => true) true fuel e en.val.cells.toList with
            | none => rw [htt] at hf; cases hf
            | some u =>
              rw [htt] at hf
              cases hf
              rw [ih _ _ u hke htt fun p hp => hs p (by simp only [List.mem_cons, List.mem_flatMap]; exact .inr ⟨_, hy, hp⟩)]
              rfl
theorem Trod_below (hb : Below W.heap.size W W') {L : List TypeId} (hz : closedB P L = true) {sp : Nat → Bool} {t : TypeId} {v : Value} {d : DataW H} {p : List MemPlace}
    (ht : t ∈ L) (h : DataW.Trod enc P W 0 (fun _ => true) true t v d p) (hs : ∀ q ∈ p, sp q.block = true) : DataW.Trod enc P W' 0 sp true t v d p := by
  obtain ⟨fuel, hf⟩ := h
  exact ⟨fuel, trod_below hb hz fuel t _ _ ht hf hs⟩
theorem TrodAll_below (hb : Below W.heap.size W W') {L : List TypeId} (hz : closedB P L = true) {sp : Nat → Bool} : ∀ {ts : List TypeId} {vs : List Value} {ds : List (DataW H)} {p : List MemPlace}, (∀ t ∈ ts, t ∈ L) →
    DataW.TrodAll enc P W 0 (fun _ => true) true ts vs ds p → (∀ q ∈ p, sp q.block = true) → DataW.TrodAll enc P W' 0 sp true ts vs ds p
  | [], vs, ds, p, _, h, _ => by
    obtain ⟨rfl, rfl, rfl⟩ := trodAll_nil h
    rfl
  | t :: ts, vs, ds, p, hl, h, hs => by
    obtain ⟨v, vs1, d, ds1, a, b, rfl, rfl, rfl, h1, h2⟩ := trodAll_cons h
    exact ⟨a, b, Trod_below hb hz (hl t (by simp)) h1 (fun q hq => hs q (by simp [hq])), TrodAll_below hb hz (fun u hu => hl u (by simp [hu])) h2 (fun q hq => hs q (by simp [hq])), rfl⟩
/-- the answer of a law: true, and what is read of the arguments is as it was -/
theorem post_true {f : Func} {s : ChangeSpec} {apart fresh handsOn again : Bool} {args : Array Value} {ds gs : List (DataW H)} {before : List MemPlace} {tb : TypeId}
    (hW : DataW.Whole enc P f.params.toList s.vars apart W args.toList ds gs before) (hv : s.vars = []) (hr : f.resultTypes = #[tb]) (ht : P.underlying tb = some .bool)
    (hfn : s.fn H ds = { results := [.lit (.bool true)], args := ds }) (hb : Below W.heap.size W W') {L : List TypeId} (hz : closedB P L = true) (hl : f.params.toList.all L.contains = true) :
    s.post enc P f apart fresh handsOn again W args (.bool true) W' := by
  have hlt := hW.lt
  have hl : ∀ t ∈ f.params.toList, t ∈ L := fun t ht => by have := List.all_eq_true.1 hl t ht; simpa using this
  obtain ⟨p, q, hA, hV, rfl, hfz, hnd⟩ := hW
  have hV' := hV
  rw [hv] at hV'
  obtain ⟨rfl, rfl⟩ := trodVars_none hV'
  simp only [List.append_nil] at hlt hfz hnd ⊢
  have hold : ∀ x ∈ p, (fun b => decide (b < W.heap.size)) x.block = true := fun x hx => by simpa using hlt x hx
  have hW0 : DataW.Whole enc P f.params.toList s.vars apart W args.toList ds [] p := ⟨p, [], hA, hV, by simp, hfz, hnd⟩
  have hres : ∀ (b : Nat) (sp : Nat → Bool) (hd : Bool), DataW.TrodAll enc P W' b sp hd f.resultTypes.toList ((Value.bool true).resultList f.resultTypes.size) [.lit (.bool true)] [] := by
    intro b sp hd
    rw [hr]
    exact ⟨[], [], shut_bool ht true, rfl, rfl⟩
  have hok : ∀ (j : Nat) (t : TypeId) (r : Value), f.resultTypes[j]? = some t → ((Value.bool true).resultList f.resultTypes.size)[j]? = some r → Value.okWide P W' .any 0 t r := by
    exact ok_one hr rfl (okWide_bool_mk ht true)
  have hvars : ∀ sp : Nat → Bool, DataW.TrodVars enc P W' sp s.vars [] [] := fun sp => by rw [hv]; rfl
  have hfn : s.fn H (ds ++ []) = { results := [.lit (.bool true)], args := ds } := by rw [List.append_nil]; exact hfn
  refine ⟨ds, [], p, [], p, [], hW0, ?_, ?_, ?_, World.keptBut_mono (fun x hx => ⟨hx, .inr (.inl hx)⟩) (hb.frame (· ∈ p)), fun _ => ?_⟩
  · rw [hfn]; exact hres _ _ _
  · rw [hfn]; exact TrodAll_below hb hz hl hA hold
  · rw [hfn]; exact hvars _
  · refine ⟨hok, _, _, ([] ++ p) ++ [], ⟨[] ++ p, [], trodAll_append (TrodAll_below hb hz hl hA (fun _ _ => rfl)) (hres _ _ _), hvars _, rfl, ?_, ?_⟩, ?_⟩
    · intro b off hp
      have hp : MemPlace.cell b off ∈ p := by simpa using hp
      rw [hb.frozen (show b < W.heap.size from hlt _ hp)]
      exact hfz b off hp
    · intro ha
      simpa using hnd ha
    · intro x hx _
      simpa using hx
/-- a call that came to something leaves the old blocks -/
theorem below_of_ext {w w' : World} {p' : Pl} {h' : Det.H} (h : Ext [] hE0 w p' h' w') : Below w.heap.size w w' := ⟨h.os, h.tape, h.out, h.size, fun k hk => h.same k hk (by
  rintro ⟨b, o, n, hb, _⟩; simp [hE0, H.get] at hb)⟩
end
end Go.Det
end
