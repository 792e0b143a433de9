/- The law's own functions of authorities; the plain laws of AuthorityOK and RevokedOf. -/
import Derived.Test.YtdmclbbhhcpjfaaQwO
set_option linter.all false
namespace Go.Ev

theorem szw {n : Int} {k : Nat} (hn : 0 ≤ n ∧ n ≤ 1048576) (hk : k ≤ 9223372036854775807) : IntKind.i64.wrap (n - (k : Int)) = n - (k : Int) := wr ⟨by omega, by omega⟩
theorem g276_sz (l : List UInt8) (n : Int) (hn : 0 ≤ n ∧ n ≤ 1048576) (hl : l.length ≤ 9223372036854775807) : ∃ r, g276 l n = some r ∧ (0 ≤ r → r ≤ 1048576 ∧ l.length ≤ 1048576) := by
  simp only [g276, szw hn hl]
  by_cases h : n - (l.length : Int) < 0
  · exact ⟨-1, by rw [if_pos (decide_eq_true h)], by omega⟩
  · exact ⟨n - l.length, by rw [if_neg (by simpa using h)], by omega⟩
theorem g277_sz (l : List DIssued) (n : Int) (hn : 0 ≤ n ∧ n ≤ 1048576) (hl : l.length ≤ 9223372036854775807) (hs : ∀ x ∈ l, x.subject.length ≤ 9223372036854775807) :
    ∃ r, g277 l n = some r ∧ (0 ≤ r → r ≤ 1048576 ∧ l.length ≤ 1048576 ∧ ∀ x ∈ l, x.subject.length ≤ 1048576) := by
  simp only [g277, szw hn hl]
  by_cases h : n - (l.length : Int) < 0
  · exact ⟨-1, by rw [if_pos (decide_eq_true h)], by omega⟩
  · rw [if_neg (by simpa using h)]
    obtain ⟨r, h1, h2⟩ := iterI (step := g277_l0 l) (fun s => (0 ≤ s.1 ∧ s.1 ≤ 1048576) ∧ ∃ k : Nat, s.2 = (k : Int) ∧ k ≤ l.length ∧ ∀ j (hj : j < l.length), j < k → l[j].subject.length ≤ 1048576) (fun s => (l.length - s.2).toNat)
      (fun r => r = .inr (-1) ∨ ∃ v, r = .inl v ∧ v ≤ 1048576 ∧ ∀ x ∈ l, x.subject.length ≤ 1048576) (n - l.length, 0) ⟨⟨by simp only; omega, by simp only; omega⟩, 0, rfl, by omega, by intros; omega⟩ (by
        rintro ⟨v, _⟩ ⟨hv, k, rfl, hk, hj⟩
        simp only at hv
        simp only [g277_l0]
        by_cases hlt : k < l.length
        · rw [if_pos (decide_eq_true (by omega)), idx_lt hlt]
          simp only [Option.bind_some, g334, szw hv (hs _ (List.getElem_mem hlt))]
          by_cases h0 : v - (l[k].subject.length : Int) < 0
          · rw [if_pos (decide_eq_true h0)]
            exact .inr ⟨_, rfl, .inl rfl⟩
          · rw [if_neg (by simpa using h0)]
            simp only [Option.bind_some]
            rw [if_neg (by simpa using h0)]
            refine .inl ⟨_, rfl, ⟨⟨by simp only; omega, by simp only; omega⟩, k + 1, ?_, by omega, fun j hj1 hj2 => ?_⟩, ?_⟩
            · simp only [w1 (show k < 4611686018427387904 by omega)]
            · by_cases e : j = k
              · subst e; omega
              · exact hj j hj1 (by omega)
            · simp only [w1 (show k < 4611686018427387904 by omega)]; omega
        · rw [if_neg (by simp; omega)]
          refine .inr ⟨_, rfl, .inr ⟨v, rfl, hv.2, fun x hx => ?_⟩⟩
          obtain ⟨j, hj1, rfl⟩ := List.getElem_of_mem hx
          exact hj j hj1 (by omega))
    rw [h1]
    rcases h2 with rfl | ⟨v, rfl, h3, h4⟩
    · exact ⟨-1, rfl, by omega⟩
    · exact ⟨v, rfl, fun _ => ⟨h3, by omega, h4⟩⟩
theorem g223_sz (a : DAuthority) (o : okDAuthority a) : ∃ r, g223 a 1048576 = some r ∧ (0 ≤ r → a.seed.length ≤ 1048576 ∧ auFit a) := by
  obtain ⟨o1, o2, o3, o4, o5, o6, o7⟩ := o
  have o1 : a.name_.length ≤ 9223372036854775807 := o1
  have o5 : a.suffix.length ≤ 9223372036854775807 := o5
  have o7' : ∀ x ∈ a.list_, x.subject.length ≤ 9223372036854775807 := fun x hx => (o7.2 x hx).2.2.1
  simp only [g223, szw (n := 1048576) ⟨by omega, by omega⟩ o1]
  by_cases h : 1048576 - (a.name_.length : Int) < 0
  · exact ⟨-1, by rw [if_pos (decide_eq_true h)], by omega⟩
  · rw [if_neg (by simpa using h)]
    obtain ⟨r, h1, h2⟩ := g276_sz a.seed (1048576 - a.name_.length) ⟨by omega, by omega⟩ o2.1
    rw [h1]
    simp only [Option.bind_some]
    by_cases hr : r < 0
    · exact ⟨-1, by rw [if_pos (decide_eq_true hr)], by omega⟩
    · rw [if_neg (by simpa using hr)]
      have h2 := h2 (by omega)
      simp only [szw (n := r) ⟨by omega, by omega⟩ o5]
      by_cases h3 : r - (a.suffix.length : Int) < 0
      · exact ⟨-1, by rw [if_pos (decide_eq_true h3)], by omega⟩
      · rw [if_neg (by simpa using h3)]
        obtain ⟨q, h4, h5⟩ := g277_sz a.list_ (r - a.suffix.length) ⟨by omega, by omega⟩ o7.1 o7'
        rw [h4]
        simp only [Option.bind_some]
        by_cases hq : q < 0
        · exact ⟨-1, by rw [if_pos (decide_eq_true hq)], by omega⟩
        · rw [if_neg (by simpa using hq)]
          have h5 := h5 (by omega)
          exact ⟨q, rfl, fun _ => ⟨h2.2, by omega, by omega, h5.2.1, fun x hx => by have := h5.2.2 x hx; omega⟩⟩
theorem g225_eq (a : DAuthority) (h0 : a.seed.length ≤ 1048576) (h : auFit a) : g225 a = some a := by
  simp only [g225, g231_eq _ h0, Option.bind_some, g280_eq _ h.2.2.1 (fun _ _ => rfl)]
theorem g227_refl (a : DAuthority) (h0 : a.seed.length ≤ 1048576) (h : auFit a) : g227 a a = some true := by
  simp [g227, g233_refl _ h0, g288_refl _ h.2.2.1 (fun x _ => by simp [g344])]
theorem g203_law (a : DAuthority) (o : okDAuthority a) : g203 a = some true := by
  obtain ⟨r, h1, h2⟩ := g223_sz a o
  simp only [g203, h1, Option.bind_some]
  by_cases hr : r < 0
  · rw [if_pos (decide_eq_true hr)]
  · rw [if_neg (by simpa using hr)]
    obtain ⟨h3, h4⟩ := h2 (by omega)
    simp [g225_eq a h3 h4, g224_eq a h4, g226_eq a h4, g227_refl a h3 h4]
end Go.Ev
