/- Plain law of Done. -/
import Derived.Test.YtdkeomfbpdodiaaQwG
set_option linter.all false
namespace Go.Ev

theorem done_eq (t : DTable) (a : Int) (hl : t.list_.length ≤ 1048576) (hn : I64 t.next) : ∃ r, g30 t a = some r ∧ g31 t a = some r ∧ r.1.list_.length ≤ 1048576 := by
  by_cases h : TabOK t
  · simp only [g30, g31, g18_eq, g20_eq t hl hn, Option.bind_some]
    rw [if_neg (by simp [h]), if_neg (by simp [h])]
    simp only [g76]
    obtain ⟨n, b, i, e1, e2, hc⟩ := find_cases t h a
    rw [e1, e2]
    simp only [Option.bind_some]
    rcases hc with ⟨rfl, rfl⟩ | ⟨k, hk, rfl, rfl, rfl⟩
    · exact ⟨_, rfl, rfl, by simp⟩
    · have hw : IntKind.i64.wrap ((k : Int) + 1) = ((k + 1 : Nat) : Int) := wr ⟨by omega, by omega⟩
      rw [if_neg (by simp), if_neg (by simp), idx_lt hk]
      simp only [Option.bind_some]
      by_cases hq : t.list_[k].queued = true
      · rw [if_neg (by simp [hq]), if_neg (by simp [hq])]
        have s1 := slc_eq t.list_ 0 k (by omega) (by omega)
        have s2 := slc_eq t.list_ (k + 1) t.list_.length (by omega) (Nat.le_refl _)
        rw [show ((0 : Nat) : Int) = 0 from rfl] at s1
        simp only [g78, g112_eq t hl, Option.bind_some, g115, hw, s1, s2]
        rw [if_pos (by simp; omega), if_pos (by simp; omega), if_pos (⟨⟨by omega, by omega, by omega⟩, by omega⟩ : (0 ≤ (k : Int) ∧ (k : Int) ≤ ((k + 1 : Nat) : Int) ∧ ((k + 1 : Nat) : Int) ≤ (t.list_.length : Int)) ∧ t.list_.length ≤ 4398046511104)]
        simp only [Option.bind_some, Int.toNat_natCast, List.drop_zero, List.take_length, List.nil_append]
        exact ⟨_, rfl, rfl, by simp; omega⟩
      · rw [if_pos (by simp [hq]), if_pos (by simp [hq])]
        exact ⟨_, rfl, rfl, by simp⟩
  · refine ⟨(DTable.mk 0 0 [], 1), ?_, ?_, by simp⟩
    · simp [g30, g18_eq, h]
    · simp [g31, g20_eq t hl hn, h]
theorem g8_law (t : DTable) (a : Int) (o : okDTable t) (_ : ok64 a) : g8 t a = some true := by
  have hn : I64 t.next := o.2.1
  obtain ⟨r, h1, h2, h3⟩ := g17_eq t 1048576 (by omega) o.2.2.1
  simp only [g8, h1, Option.bind_some]
  by_cases h : r < 0
  · rw [if_pos (by simpa using h)]
  · have hl2 : t.list_.length ≤ 1048576 := by have := h2 (by omega); omega
    obtain ⟨d, e1, e2, e3⟩ := done_eq t a hl2 hn
    rw [if_neg (by simpa using h)]
    simp only [g19_eq t hl2, e1, e2, g21_eq t t hl2, g21_eq _ _ e3, Option.bind_some, g26_eq t hl2, g26_eq _ e3, g27_eq _ _ _ e3, neg4, bindv, marks_len]
    simp
end Go.Ev
