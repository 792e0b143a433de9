/- Plain law of Due. -/
import Derived.Test.YtdkeomfbpdodiaaQwC
set_option linter.all false
namespace Go.Ev

theorem TabOK.lt {t : DTable} (h : TabOK t) {i j : Nat} (hj : j < t.list_.length) (hij : i < j) : (t.list_[i]'(by omega)).id < t.list_[j].id := by
  induction j with
  | zero => omega
  | succ j ih =>
    have h1 := (h.2.2.2 (j + 1) _ (List.getElem?_eq_getElem hj)).2.1 t.list_[j] (by omega) (by simp [List.getElem?_eq_getElem (show j < t.list_.length by omega)])
    by_cases e : i = j
    · subst e; exact h1
    · have := ih (by omega) (by omega); omega
theorem g66_eq (l : List DLease) (h : l.length ≤ 1048576) : g66 l = some l := by
  unfold g66; rw [if_pos (by simp; omega)]

/-- The first of those not queued whose time is least. -/
def DueAt (t : DTable) (n : Nat) (b : Int) : Prop :=
  (b = -1 ∧ ∀ j, ∀ h : j < t.list_.length, j < n → t.list_[j].queued = true) ∨
    ∃ k, ∃ h : k < t.list_.length, b = (k : Int) ∧ k < n ∧ t.list_[k].queued = false ∧ (∀ j, ∀ h2 : j < t.list_.length, j < n → t.list_[j].queued = false → t.list_[k].until_ ≤ t.list_[j].until_) ∧
      ∀ j, ∀ h2 : j < k, t.list_[j].queued = false → t.list_[k].until_ < t.list_[j].until_
theorem g22_eq (t : DTable) (h : TabOK t) : ∃ b, DueAt t t.list_.length b ∧ g22 t = if b < 0 then some (0, 5) else (idx t.list_ b).bind fun y => some (y.id, 0) := by
  have hl := h.2.2.1
  obtain ⟨r, h1, h2⟩ := iter_inv' (step := g22_l0 t) (fun s => ∃ k : Nat, s.2 = k ∧ k ≤ t.list_.length ∧ DueAt t k s.1) (fun s => (t.list_.length - s.2).toNat)
    (fun b => DueAt t t.list_.length b) (-1, 0) ⟨0, rfl, by omega, .inl ⟨rfl, by intros; omega⟩⟩ (by
      rintro ⟨b, _⟩ ⟨k, rfl, hk, hd⟩
      simp only at hd
      simp only [g22_l0]
      by_cases hlt : k < t.list_.length
      · rw [if_pos (decide_eq_true (by omega)), idx_lt hlt]
        simp only [Option.bind_some]
        left
        obtain ⟨y, e1, k1⟩ := gsome (o := some t.list_[k]) (g := ((!t.list_[k].queued) == true && decide (b < 0) == false)) (fun _ => ⟨_, rfl⟩)
        rw [e1]
        simp only [Option.bind_some]
        obtain ⟨z, e2, k2⟩ := gsome (o := idx t.list_ b) (g := ((!t.list_[k].queued) == true && decide (b < 0) == false)) (fun hg => by
          simp only [Bool.and_eq_true, beq_iff_eq, decide_eq_false_iff_not] at hg
          rcases hd with ⟨rfl, _⟩ | ⟨i, hi, rfl, _⟩
          · omega
          · exact ⟨_, idx_lt hi⟩)
        rw [e2]
        simp only [Option.bind_some, bindv, g22_j0, wr (n := (k : Int) + 1) ⟨by omega, by omega⟩]
        have stay : ∀ hq : t.list_[k].queued = true ∨ ∃ i, ∃ hi : i < t.list_.length, b = (i : Int) ∧ t.list_[i].until_ ≤ t.list_[k].until_, DueAt t (k + 1) b := by
          intro hq
          rcases hd with ⟨rfl, hd⟩ | ⟨i, hi, rfl, hik, hqi, hm, hs⟩
          · refine .inl ⟨rfl, fun j hj hjk => ?_⟩
            by_cases e : j = k
            · subst e
              rcases hq with hq | ⟨i, _, hb, _⟩
              · exact hq
              · omega
            · exact hd j hj (by omega)
          · refine .inr ⟨i, hi, rfl, by omega, hqi, fun j hj hjk hqj => ?_, hs⟩
            by_cases e : j = k
            · subst e
              rcases hq with hq | ⟨i', hi', hb, hle⟩
              · rw [hq] at hqj; cases hqj
              · have : i' = i := by omega
                subst this; exact hle
            · exact hm j hj (by omega) hqj
        cases hq : t.list_[k].queued with
        | true =>
          refine ⟨(b, ((k + 1 : Nat) : Int)), by simp, ⟨k + 1, rfl, by omega, stay (.inl hq)⟩, by simp only; omega⟩
        | false =>
          rw [hq] at k1 k2
          by_cases hb : b < 0
          · refine ⟨((k : Int), ((k + 1 : Nat) : Int)), by simp [hb], ⟨k + 1, rfl, by omega, ?_⟩, by simp only; omega⟩
            rcases hd with ⟨rfl, hd⟩ | ⟨i, hi, rfl, _⟩
            · refine .inr ⟨k, hlt, rfl, by omega, hq, fun j hj hjk hqj => ?_, fun j hj hqj => ?_⟩
              · by_cases e : j = k
                · subst e; exact Int.le_refl _
                · have := hd j hj (by omega); rw [this] at hqj; cases hqj
              · have := hd j (by omega) (by omega); rw [this] at hqj; cases hqj
            · omega
          · rcases hd with ⟨rfl, hd⟩ | ⟨i, hi, rfl, hik, hqi, hm, hs⟩
            · omega
            · have y1 := k1 (by simp)
              have z1 := k2 (by simp)
              rw [idx_lt hi] at z1
              obtain rfl := Option.some.inj y1
              obtain rfl := Option.some.inj z1
              by_cases hlt2 : t.list_[k].until_ < t.list_[i].until_
              · refine ⟨((k : Int), ((k + 1 : Nat) : Int)), by simp [hlt2], ⟨k + 1, rfl, by omega, .inr ⟨k, hlt, rfl, by omega, hq, fun j hj hjk hqj => ?_, fun j hj hqj => ?_⟩⟩, by simp only; omega⟩
                · by_cases e : j = k
                  · subst e; exact Int.le_refl _
                  · have := hm j hj (by omega) hqj; omega
                · have := hm j (by omega) (by omega) hqj; omega
              · refine ⟨((i : Int), ((k + 1 : Nat) : Int)), by simp [hlt2]; omega, ⟨k + 1, rfl, by omega, stay (.inr ⟨i, hi, rfl, by omega⟩)⟩, by simp only; omega⟩
      · rw [if_neg (by simp; omega)]
        right
        exact ⟨b, rfl, by rw [show t.list_.length = k by omega]; exact hd⟩)
  refine ⟨r, h2, ?_⟩
  simp only [g22, g18_eq, Option.bind_some]
  rw [if_neg (by simp [h]), h1]
  simp only [Option.bind_some]
  by_cases hr : r < 0
  · rw [if_pos (by simpa using hr), if_pos hr]
  · rw [if_neg (by simpa using hr), if_neg hr]
theorem due_eq (t : DTable) (hl : t.list_.length ≤ 1048576) (hn : I64 t.next) : ∃ r, g22 t = some r ∧ g23 t = some r := by
  by_cases h : TabOK t
  · obtain ⟨b, hd, e⟩ := g22_eq t h
    have e3 : g65 t.list_ (fun z67_0 => g67 z67_0) = some (t.list_.filter fun x => !x.queued) := g65_eq _ _ _ (fun x => rfl) hl
    simp only [g23, g20_eq t hl hn, Option.bind_some, g66_eq _ hl, e3, e]
    rw [if_neg (show ¬ (!tf (TabOK t)) = true by simp [h])]
    rcases hd with ⟨rfl, hd⟩ | ⟨k, hk, rfl, _, hq, hm, hs⟩
    · have : (t.list_.filter fun x => !x.queued) = [] := by
        rw [List.filter_eq_nil_iff]
        intro x hx
        obtain ⟨j, hj, rfl⟩ := List.getElem_of_mem hx
        simp [hd j hj hj]
      rw [this, if_pos (by decide), if_pos (by simp)]
      exact ⟨_, rfl, rfl⟩
    · have hmem : t.list_[k] ∈ t.list_.filter fun x => !x.queued := List.mem_filter.2 ⟨List.getElem_mem _, by simp [hq]⟩
      have hne : (t.list_.filter fun x => !x.queued) ≠ [] := fun hh => by rw [hh] at hmem; cases hmem
      obtain ⟨m, h1, h2, h3⟩ := g68_eq _ (Nat.le_trans (List.length_filter_le _ _) hl) hne
      rw [if_neg (by omega), if_neg (by simpa using hne), idx_lt hk, h1]
      refine ⟨_, rfl, ?_⟩
      simp only [Option.bind_some]
      have h4 := h3 _ hmem
      rw [lcmp_lt] at h4
      obtain ⟨h5, h6⟩ := List.mem_filter.1 h2
      obtain ⟨j, hj, rfl⟩ := List.getElem_of_mem h5
      have hqj : t.list_[j].queued = false := by simpa using h6
      have h7 := hm j hj hj hqj
      by_cases ejk : j = k
      · subst ejk; rfl
      · by_cases hjk : j < k
        · have := hs j hjk hqj; omega
        · have := h.lt hj (show k < j by omega); omega
  · refine ⟨(0, 1), ?_, ?_⟩
    · simp [g22, g18_eq, h]
    · simp [g23, g20_eq t hl hn, h]
theorem g5_law (t : DTable) (o : okDTable t) : g5 t = some true := by
  have hn : I64 t.next := o.2.1
  obtain ⟨r, h1, h2, h3⟩ := g17_eq t 1048576 (by omega) o.2.2.1
  simp only [g5, h1, Option.bind_some]
  by_cases h : r < 0
  · rw [if_pos (by simpa using h)]
  · have hl2 : t.list_.length ≤ 1048576 := by have := h2 (by omega); omega
    obtain ⟨d, e1, e2⟩ := due_eq t hl2 hn
    rw [if_neg (by simpa using h)]
    simp [g19_eq t hl2, e1, e2, g21_eq t t hl2]
end Go.Ev
