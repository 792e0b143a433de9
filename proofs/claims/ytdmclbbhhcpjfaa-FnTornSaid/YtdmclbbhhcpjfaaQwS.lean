/- Plain words of drawn things: sources of choices. -/
import Derived.Test.YtdmclbbhhcpjfaaQwK
import Derived.Test.YtdmclbbhhcpjfaaQgD
set_option linter.all false
namespace Go.Ev

/-- A source that is in order, of which so many bytes are gone at most. -/
def SrcOK (s : Dl00Src) (B : Int) : Prop := s.code_.length ≤ 1048576 ∧ (0 ≤ s.at_ ∧ s.at_ ≤ B) ∧ 0 ≤ s.seed ∧ s.seed < 2147483648
theorem SrcOK.mono {s : Dl00Src} {B B' : Int} (h : SrcOK s B) (hb : B ≤ B') : SrcOK s B' := ⟨h.1, ⟨h.2.1.1, by have := h.2.1.2; omega⟩, h.2.2⟩
theorem g83_ok (code : List UInt8) (h : code.length ≤ 1048576) : ∃ s, g83 code = some s ∧ SrcOK s 0 := by
  refine ⟨_, rfl, h, ⟨by simp, by simp⟩, ?_⟩
  have e : ((code.length : Int)).tmod 1000 = (code.length : Int) % 1000 := Int.tmod_eq_emod_of_nonneg (by omega)
  simp only [e]
  omega
theorem g139_ok {s : Dl00Src} {B : Int} (h : SrcOK s B) (hB : B ≤ 4611686018427387904) : ∃ v s', g139 s = some (v, s') ∧ (0 ≤ v ∧ v ≤ 255) ∧ SrcOK s' (B + 1) := by
  obtain ⟨h1, ⟨h2, h3⟩, h4, h5⟩ := h
  have hw : IntKind.i64.wrap (s.at_ + 1) = s.at_ + 1 := wr ⟨by omega, by omega⟩
  have hw2 : IntKind.i64.wrap (s.at_ + 1 - 1) = s.at_ := by rw [wr ⟨by omega, by omega⟩]; omega
  simp only [g139, hw, hw2]
  by_cases hc : s.at_ + 1 ≤ (s.code_.length : Int)
  · rw [if_pos (decide_eq_true hc)]
    obtain ⟨k, hk⟩ : ∃ k : Nat, s.at_ = k := ⟨s.at_.toNat, by omega⟩
    have hlt : k < s.code_.length := by omega
    rw [hk, idx_lt hlt]
    generalize s.code_[k] = y
    have hy : (y.toNat : Int) < 256 := by have := y.toNat_lt; omega
    have e1 : IntKind.i64.wrap (y.toNat : Int) = (y.toNat : Int) := wr ⟨by omega, by omega⟩
    have e2 : IntKind.i64.wrap (s.seed * 31) = s.seed * 31 := wr ⟨by omega, by omega⟩
    have e3 : IntKind.i64.wrap (s.seed * 31 + (y.toNat : Int)) = s.seed * 31 + (y.toNat : Int) := wr ⟨by omega, by omega⟩
    have e4 : IntKind.i64.wrap (s.seed * 31 + (y.toNat : Int) + 7) = s.seed * 31 + (y.toNat : Int) + 7 := wr ⟨by omega, by omega⟩
    have e5 : (s.seed * 31 + (y.toNat : Int) + 7).tmod 2147483648 = (s.seed * 31 + (y.toNat : Int) + 7) % 2147483648 := Int.tmod_eq_emod_of_nonneg (by omega)
    simp only [Option.bind_some, bindv, e1, e2, e3, e4, e5]
    exact ⟨_, _, rfl, ⟨by omega, by omega⟩, h1, ⟨by simp only; omega, by simp only; omega⟩, by simp only; omega, by simp only; omega⟩
  · rw [if_neg (by simpa using hc)]
    by_cases h3' : s.at_ + 1 > 3000
    · rw [if_pos (decide_eq_true h3')]
      exact ⟨_, _, rfl, ⟨by omega, by omega⟩, h1, ⟨by simp only; omega, by simp only; omega⟩, h4, h5⟩
    · rw [if_neg (by simpa using h3')]
      have e2 : IntKind.i64.wrap (s.seed * 1103515245) = s.seed * 1103515245 := wr ⟨by omega, by omega⟩
      have e3 : IntKind.i64.wrap (s.seed * 1103515245 + 12345) = s.seed * 1103515245 + 12345 := wr ⟨by omega, by omega⟩
      have e4 : (s.seed * 1103515245 + 12345).tmod 2147483648 = (s.seed * 1103515245 + 12345) % 2147483648 := Int.tmod_eq_emod_of_nonneg (by omega)
      have hr : 0 ≤ (s.seed * 1103515245 + 12345) % 2147483648 ∧ (s.seed * 1103515245 + 12345) % 2147483648 < 2147483648 := by omega
      generalize hv : (s.seed * 1103515245 + 12345) % 2147483648 = v at e4 hr
      have e5 : v.tdiv 65536 = v / 65536 := Int.tdiv_eq_ediv_of_nonneg hr.1
      have e6 : IntKind.i64.wrap (v / 65536) = v / 65536 := wr ⟨by omega, by omega⟩
      have e7 : (v / 65536).tmod 256 = v / 65536 % 256 := Int.tmod_eq_emod_of_nonneg (by omega)
      simp only [bindv, e2, e3, e4, e5, e6, e7]
      exact ⟨_, _, rfl, ⟨by omega, by omega⟩, h1, ⟨by simp only; omega, by simp only; omega⟩, hr.1, hr.2⟩
theorem g117_ok {s : Dl00Src} {B n : Int} (h : SrcOK s B) (hB : B ≤ 4611686018427380000) (hn : n ≤ 1152921504606846976) : ∃ v s', g117 s n = some (v, s') ∧ (0 ≤ v ∧ (n ≤ 1 → v = 0) ∧ (1 < n → v < n)) ∧ SrcOK s' (B + 3) := by
  simp only [g117]
  by_cases h1 : n ≤ 1
  · rw [if_pos (decide_eq_true h1)]
    exact ⟨_, _, rfl, ⟨by omega, by omega, by omega⟩, h.mono (by omega)⟩
  · rw [if_neg (by simpa using h1)]
    by_cases h2 : n ≤ 256
    · rw [if_pos (decide_eq_true h2)]
      obtain ⟨v, s', e1, e2, e3⟩ := g139_ok h (by omega)
      rw [e1]
      simp only [Option.bind_some]
      rw [if_pos (by omega)]
      have e4 : v.tmod n = v % n := Int.tmod_eq_emod_of_nonneg e2.1
      refine ⟨_, _, rfl, ⟨?_, by omega, fun _ => ?_⟩, e3.mono (by omega)⟩
      · rw [e4]; exact Int.emod_nonneg _ (by omega)
      · rw [e4]; exact Int.emod_lt_of_pos _ (by omega)
    · rw [if_neg (by simpa using h2)]
      obtain ⟨a, s1, a1, a2, a3⟩ := g139_ok h (by omega)
      obtain ⟨b, s2, b1, b2, b3⟩ := g139_ok a3 (by omega)
      obtain ⟨c, s3, c1, c2, c3⟩ := g139_ok b3 (by omega)
      rw [a1]
      simp only [Option.bind_some, b1, c1]
      rw [if_pos (by omega)]
      have e1 : IntKind.i64.wrap (a * 65536) = a * 65536 := wr ⟨by omega, by omega⟩
      have e2 : IntKind.i64.wrap (b * 256) = b * 256 := wr ⟨by omega, by omega⟩
      have e3 : IntKind.i64.wrap (a * 65536 + b * 256) = a * 65536 + b * 256 := wr ⟨by omega, by omega⟩
      have e4 : IntKind.i64.wrap (a * 65536 + b * 256 + c) = a * 65536 + b * 256 + c := wr ⟨by omega, by omega⟩
      have e5 : (a * 65536 + b * 256 + c).tmod n = (a * 65536 + b * 256 + c) % n := Int.tmod_eq_emod_of_nonneg (by omega)
      simp only [bindv, e1, e2, e3, e4, e5]
      refine ⟨_, _, rfl, ⟨Int.emod_nonneg _ (by omega), by omega, fun _ => Int.emod_lt_of_pos _ (by omega)⟩, c3.mono (by omega)⟩
theorem g272_ok {s : Dl00Src} {B n : Int} (h : SrcOK s B) (hB : B ≤ 4611686018427000000) (hn : 0 ≤ n ∧ n ≤ 10000) : ∃ l s', g272 s n = some (l, s') ∧ (l.length : Int) ≤ n ∧ SrcOK s' (B + 3 * n + 3) := by
  have hw : IntKind.i64.wrap (n + 1) = n + 1 := wr ⟨by omega, by omega⟩
  obtain ⟨v, s1, e1, e2, e3⟩ := g117_ok (n := n + 1) h (by omega) (by omega)
  have hv : v ≤ n := by
    by_cases h0 : n + 1 ≤ 1
    · have := e2.2.1 h0; omega
    · have := e2.2.2 (by omega); omega
  simp only [g272, hw, e1, Option.bind_some]
  obtain ⟨r, h1, h2⟩ := iterI (step := g272_l0) (fun t => 0 ≤ t.2.1 ∧ (t.1.length : Int) + t.2.1 = v ∧ SrcOK (Dl00Src.mk t.2.2.1 t.2.2.2.1 t.2.2.2.2) (B + 3 + 3 * (v - t.2.1))) (fun t => t.2.1.toNat)
    (fun r => (r.1.length : Int) = v ∧ SrcOK (Dl00Src.mk r.2.1 r.2.2.1 r.2.2.2) (B + 3 + 3 * v)) ([], v, s1.code_, s1.at_, s1.seed) ⟨e2.1, by simp, e3.mono (by simp only; omega)⟩ (by
      rintro ⟨l, i, c, a, d⟩ ⟨i1, i2, i3⟩
      simp only at i1 i2 i3
      simp only [g272_l0]
      by_cases h0 : i > 0
      · rw [if_pos (decide_eq_true h0)]
        obtain ⟨u, s2, u1, u2, u3⟩ := g117_ok (n := 256) i3 (by omega) (by omega)
        have hw2 : IntKind.i64.wrap (i - 1) = i - 1 := wr ⟨by omega, by omega⟩
        simp only [u1, Option.bind_some, hw2]
        rw [if_pos (by simp only [List.length_singleton]; omega)]
        exact .inl ⟨_, rfl, ⟨by simp only; omega, by simp only [List.length_append, List.length_singleton]; omega, u3.mono (by simp only; omega)⟩, by simp only; omega⟩
      · rw [if_neg (by simpa using h0)]
        exact .inr ⟨_, rfl, by simp only; omega, i3.mono (by omega)⟩)
  obtain ⟨l, c, a, d⟩ := r
  have h2a : (l.length : Int) = v := h2.1
  rw [h1]
  exact ⟨_, _, rfl, by omega, h2.2.mono (by omega)⟩
end Go.Ev
