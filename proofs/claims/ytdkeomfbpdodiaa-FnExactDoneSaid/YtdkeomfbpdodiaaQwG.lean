/- Plain laws of Grant, Revoke, Renew. -/
import Derived.Test.YtdkeomfbpdodiaaQwF
set_option linter.all false
namespace Go.Ev

theorem neg4 (n : Nat) : decide (1 + 4 * (n : Int) < 0) = false := decide_eq_false (by omega)
theorem g111_eq (t : DTable) (hl : t.list_.length ≤ 1048576) : g111 t = some t := by
  unfold g111; rw [if_pos (by simp; omega)]; rfl
theorem g112_eq (t : DTable) (hl : t.list_.length ≤ 1048576) : g112 t = some t := by
  simp [g112, g66_eq _ hl]
theorem g54_eq (a b : Int) : ∃ r, g53 a b = some r ∧ g54 a b = some r := by
  unfold g53 g54
  split
  · exact ⟨_, rfl, rfl⟩
  · exact ⟨_, rfl, rfl⟩
theorem g53_ok (a b : Int) : ∃ r, g53 a b = some r := ⟨_, (g54_eq a b).choose_spec.1⟩

theorem grant_eq (t : DTable) (a b : Int) (hl : t.list_.length ≤ 1048576) (hn : I64 t.next) : ∃ r, g24 t a b = some r ∧ g25 t a b = some r ∧ r.1.list_.length ≤ 1048576 := by
  by_cases h : TabOK t
  · simp only [g24, g25, g18_eq, g20_eq t hl hn, Option.bind_some]
    rw [if_neg (by simp [h]), if_neg (by simp [h])]
    simp only [g70, g71]
    split
    · exact ⟨_, rfl, rfl, by simp⟩
    · split
      · exact ⟨_, rfl, rfl, by simp⟩
      · simp only [bindv]
        split
        · exact ⟨_, rfl, rfl, by simp⟩
        · obtain ⟨x, e1, e2⟩ := g54_eq t.clock a
          obtain ⟨y, e3, e4⟩ := g54_eq t.clock b
          rw [g111_eq t hl, g112_eq t hl]
          simp only [e1, e2, e3, e4, Option.bind_some]
          have := h.2.2.1
          rw [if_pos (by simp; omega)]
          exact ⟨_, rfl, rfl, by simp; omega⟩
  · refine ⟨(DTable.mk 0 0 [], 0, 1), ?_, ?_, by simp⟩
    · simp [g24, g18_eq, h]
    · simp [g25, g20_eq t hl hn, h]
theorem g6_law (t : DTable) (a b : Int) (o : okDTable t) (_ : ok64 a) (_ : ok64 b) : g6 t a b = some true := by
  have hn : I64 t.next := o.2.1
  obtain ⟨r, h1, h2, h3⟩ := g17_eq t 1048576 (by omega) o.2.2.1
  simp only [g6, h1, Option.bind_some]
  by_cases h : r < 0
  · rw [if_pos (by simpa using h)]
  · have hl2 : t.list_.length ≤ 1048576 := by have := h2 (by omega); omega
    obtain ⟨d, e1, e2, e3⟩ := grant_eq t a b hl2 hn
    rw [if_neg (by simpa using h)]
    simp only [g19_eq t hl2, e1, e2, g21_eq t t hl2, g21_eq _ _ e3, Option.bind_some, g26_eq t hl2, g26_eq _ e3, g27_eq _ _ _ e3, neg4, bindv, marks_len]
    simp
theorem find_cases (t : DTable) (h : TabOK t) (x : Int) : ∃ n b i, g92 t x = some n ∧ g77 t x = some (i, b) ∧ ((b = false ∧ n = -1) ∨ ∃ k, ∃ _ : k < t.list_.length, b = true ∧ i = (k : Int) ∧ n = (k : Int)) := by
  have hl := h.2.2.1
  obtain ⟨n, h1, h2⟩ := g92_eq t x (by omega)
  obtain ⟨i, b, h3, h4, h5⟩ := g77_eq t h x n h2
  refine ⟨n, b, i, h1, h3, ?_⟩
  cases b with
  | false => exact .inl ⟨rfl, h5 rfl⟩
  | true =>
    obtain ⟨rfl, h6⟩ := h4 rfl
    rcases h2 with ⟨rfl, _⟩ | ⟨k, hk, rfl, _⟩
    · omega
    · exact .inr ⟨k, hk, rfl, rfl, rfl⟩
theorem revoke_eq (t : DTable) (a : Int) (hl : t.list_.length ≤ 1048576) (hn : I64 t.next) : ∃ r, g28 t a = some r ∧ g29 t a = some r ∧ r.1.list_.length ≤ 1048576 := by
  by_cases h : TabOK t
  · simp only [g28, g29, g18_eq, g20_eq t hl hn, Option.bind_some]
    rw [if_neg (by simp [h]), if_neg (by simp [h])]
    simp only [g74, g75]
    obtain ⟨n, b, i, e1, e2, hc⟩ := find_cases t h a
    rw [e1, e2]
    simp only [Option.bind_some]
    rcases hc with ⟨rfl, rfl⟩ | ⟨k, hk, rfl, rfl, rfl⟩
    · exact ⟨_, rfl, rfl, by simp⟩
    · rw [if_neg (by simp), if_neg (by simp), g111_eq t hl, g112_eq t hl]
      simp only [Option.bind_some, idx_lt hk, Int.toNat_natCast, List.getElem?_eq_getElem hk]
      exact ⟨_, rfl, rfl, by simpa using hl⟩
  · refine ⟨(DTable.mk 0 0 [], 1), ?_, ?_, by simp⟩
    · simp [g28, g18_eq, h]
    · simp [g29, g20_eq t hl hn, h]
theorem g7_law (t : DTable) (a : Int) (o : okDTable t) (_ : ok64 a) : g7 t a = some true := by
  have hn : I64 t.next := o.2.1
  obtain ⟨r, h1, h2, h3⟩ := g17_eq t 1048576 (by omega) o.2.2.1
  simp only [g7, h1, Option.bind_some]
  by_cases h : r < 0
  · rw [if_pos (by simpa using h)]
  · have hl2 : t.list_.length ≤ 1048576 := by have := h2 (by omega); omega
    obtain ⟨d, e1, e2, e3⟩ := revoke_eq t a hl2 hn
    rw [if_neg (by simpa using h)]
    simp only [g19_eq t hl2, e1, e2, g21_eq t t hl2, g21_eq _ _ e3, Option.bind_some, g26_eq t hl2, g26_eq _ e3, g27_eq _ _ _ e3, neg4, bindv, marks_len]
    simp
theorem renew_eq (t : DTable) (a c : Int) (hl : t.list_.length ≤ 1048576) (hn : I64 t.next) : ∃ r, g32 t a c = some r ∧ g33 t a c = some r ∧ r.1.list_.length ≤ 1048576 := by
  by_cases h : TabOK t
  · simp only [g32, g33, g18_eq, g20_eq t hl hn, Option.bind_some]
    rw [if_neg (by simp [h]), if_neg (by simp [h])]
    simp only [g79, g80]
    obtain ⟨n, b, i, e1, e2, hc⟩ := find_cases t h a
    rw [e1, e2]
    simp only [Option.bind_some]
    by_cases hb : c < 1
    · simp only [decide_eq_true hb, if_true]
      exact ⟨_, rfl, rfl, by simp⟩
    · simp only [decide_eq_false hb, if_neg (show ¬ (false = true) by decide)]
      rcases hc with ⟨rfl, rfl⟩ | ⟨k, hk, rfl, rfl, rfl⟩
      · exact ⟨_, rfl, rfl, by simp⟩
      · rw [if_neg (by simp), if_neg (by simp), idx_lt hk]
        simp only [Option.bind_some]
        by_cases hq : t.list_[k].queued = true
        · rw [if_pos hq, if_pos hq]
          exact ⟨_, rfl, rfl, by simp⟩
        · rw [if_neg hq, if_neg hq, g111_eq t hl, g112_eq t hl]
          obtain ⟨x, e3, e4⟩ := g54_eq t.clock c
          simp only [Option.bind_some, idx_lt hk, Int.toNat_natCast, List.getElem?_eq_getElem hk, e3, e4, bindv]
          have : (if x < t.list_[k].cap then x else t.list_[k].cap) = (if t.list_[k].cap < x then t.list_[k].cap else x) := by
            split <;> split <;> omega
          rw [this]
          exact ⟨_, rfl, rfl, by simpa using hl⟩
  · refine ⟨(DTable.mk 0 0 [], 1), ?_, ?_, by simp⟩
    · simp [g32, g18_eq, h]
    · simp [g33, g20_eq t hl hn, h]
theorem g9_law (t : DTable) (a b : Int) (o : okDTable t) (_ : ok64 a) (_ : ok64 b) : g9 t a b = some true := by
  have hn : I64 t.next := o.2.1
  obtain ⟨r, h1, h2, h3⟩ := g17_eq t 1048576 (by omega) o.2.2.1
  simp only [g9, h1, Option.bind_some]
  by_cases h : r < 0
  · rw [if_pos (by simpa using h)]
  · have hl2 : t.list_.length ≤ 1048576 := by have := h2 (by omega); omega
    obtain ⟨d, e1, e2, e3⟩ := renew_eq t a b hl2 hn
    rw [if_neg (by simpa using h)]
    simp only [g19_eq t hl2, e1, e2, g21_eq t t hl2, g21_eq _ _ e3, Option.bind_some, g26_eq t hl2, g26_eq _ e3, g27_eq _ _ _ e3, neg4, bindv, marks_len]
    simp
end Go.Ev
