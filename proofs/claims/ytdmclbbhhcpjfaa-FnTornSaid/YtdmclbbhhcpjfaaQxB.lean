/- The reference's scan; crashes; the plain law of FnTorn. -/
import Derived.Test.YtdmclbbhhcpjfaaQxA
set_option linter.all false
namespace Go.Ev

theorem iter_same {σ ρ : Type} {step step' : σ → Option (σ ⊕ ρ)} (I : σ → Prop) (μ : σ → Nat) (hs : ∀ s, I s → step s = step' s)
    (h : ∀ s, I s → (∃ s', step s = some (.inl s') ∧ I s' ∧ μ s' < μ s) ∨ (∃ r, step s = some (.inr r))) (s0 : σ) (h0 : I s0) : iter step s0 = iter step' s0 := by
  have key : ∀ (n : Nat) (s0 : σ), μ s0 < n → I s0 → iter step s0 = iter step' s0 := by
    intro n
    induction n with
    | zero => intro s0 hn; omega
    | succ n ih =>
      intro s0 hn hI
      rcases h s0 hI with ⟨s', h1, h2, h3⟩ | ⟨r, h1⟩
      · rw [iter_next h1, iter_next (step := step') (by rw [← hs s0 hI]; exact h1), ih s' (by omega) h2]
      · rw [iter_end h1, iter_end (step := step') (by rw [← hs s0 hI]; exact h1)]
  exact key (μ s0 + 1) s0 (by omega) h0
theorem nxt_len {b p : List UInt8} {k : Nat} (h : nxt b k = some p) : k + p.length + 6 ≤ b.length := by
  unfold nxt at h
  split at h
  · split at h
    · rename_i c1 c2
      split at h
      · obtain rfl := Option.some.inj h
        simp; omega
      · cases h
    · cases h
  · cases h
theorem scan_step' (b : List UInt8) (hb : b.length ≤ 1048576) (l : List (List UInt8)) (k : Nat) (hl : l.length ≤ 1048576) (hk : k ≤ 1048576) :
    g302_l0 b (l, (k : Int)) = match nxt b k with
      | none => some (.inr (l, (k : Int)))
      | some p => some (.inl (l ++ [p], ((k + p.length + 6 : Nat) : Int))) := by
  simp only [g302_l0, g351_eq b hb k hk, Option.bind_some]
  cases hx : nxt b k with
  | none => rfl
  | some p =>
    have hp := nxt_len hx
    have e1 : IntKind.i64.wrap ((p.length : Int) + 6) = ((p.length + 6 : Nat) : Int) := by rw [wr ⟨by omega, by omega⟩]; omega
    have e2 : IntKind.i64.wrap ((k : Int) + ((p.length + 6 : Nat) : Int)) = ((k + p.length + 6 : Nat) : Int) := by rw [wr ⟨by omega, by omega⟩]; omega
    simp only [e1, e2]
    rw [if_neg (by decide), if_pos (by simp; omega)]
def ScanI (b : List UInt8) (s : List (List UInt8) × Int) : Prop := ∃ k : Nat, s.2 = (k : Int) ∧ k ≤ b.length ∧ 6 * s.1.length ≤ k
theorem scan_next (b : List UInt8) (hb : b.length ≤ 1048576) (s : List (List UInt8) × Int) (h : ScanI b s) :
    (∃ s', g275_l0 b s = some (.inl s') ∧ (ScanI b s' ∧ ∃ p, s'.1 = s.1 ++ [p]) ∧ ((b.length : Int) - s'.2).toNat < ((b.length : Int) - s.2).toNat) ∨ g275_l0 b s = some (.inr s) := by
  obtain ⟨l, _⟩ := s
  obtain ⟨k, rfl, hk, hl⟩ := h
  simp only at hl
  rw [scan_step b hb l k (by omega) (by omega)]
  cases hx : nxt b k with
  | none => exact .inr rfl
  | some p =>
    have hp := nxt_len hx
    exact .inl ⟨_, rfl, ⟨⟨k + p.length + 6, rfl, by omega, by simp; omega⟩, p, rfl⟩, by simp only; omega⟩
/-- The reference scans as the program does. -/
theorem scan_same (b : List UInt8) (hb : b.length ≤ 1048576) : g302 b = g275 b := by
  have := iter_same (step := g275_l0 b) (step' := g302_l0 b) (ScanI b) (fun s => ((b.length : Int) - s.2).toNat) (fun s hs => by
    obtain ⟨l, _⟩ := s
    obtain ⟨k, rfl, hk, hl⟩ := hs
    simp only at hl
    rw [scan_step b hb l k (by omega) (by omega), scan_step' b hb l k (by omega) (by omega)]
    cases nxt b k <;> rfl) (fun s hs => by
    rcases scan_next b hb s hs with ⟨s', h1, h2, h3⟩ | h
    · exact .inl ⟨s', h1, h2.1, h3⟩
    · exact .inr ⟨_, h⟩) ([], 0) ⟨0, rfl, by omega, by simp⟩
  simp only [g275, g302, this]
/-- Frames ahead are found, whatever is behind. -/
theorem scan_pre (L : List (List UInt8)) (R : List UInt8) (hL : ∀ p ∈ L, p.length ≤ 2000) (hb : (framesB L).length + R.length ≤ 1048576) :
    ∃ X n, g275 (framesB L ++ R) = some (L ++ X, n) ∧ (L ++ X).length ≤ 1048576 := by
  have hcount : ∀ M : List (List UInt8), 6 * M.length ≤ (framesB M).length := by
    intro M
    induction M with
    | nil => simp [framesB]
    | cons p r ih => rw [show p :: r = [p] ++ r from rfl, framesB_append, framesB_one]; simp; omega
  have hlen : ∀ k, (framesB (L.take k)).length ≤ (framesB L).length := fun k => by
    conv => rhs; rw [← List.take_append_drop k L, framesB_append]
    simp
  have h := iter_run (step := g275_l0 (framesB L ++ R)) (fun k => (L.take k, (((framesB (L.take k)).length : Nat) : Int))) L.length (fun k hk => by
    have h1 := hlen k
    have h2 := hcount (L.take k)
    rw [scan_step _ (by simp; omega) _ _ (by omega) (by omega)]
    have eb : framesB L ++ R = framesB (L.take k) ++ (frameB L[k] ++ (framesB (L.drop (k + 1)) ++ R)) := by
      conv => lhs; rw [← List.take_append_drop k L, framesB_append, List.drop_eq_getElem_cons hk, show L[k] :: L.drop (k + 1) = [L[k]] ++ L.drop (k + 1) from rfl, framesB_append, framesB_one]
      simp only [List.append_assoc]
    rw [eb, nxt_frame _ _ _ (hL _ (List.getElem_mem hk)), List.take_succ_eq_append_getElem hk, framesB_append, framesB_one]
    simp only [List.length_append, frameB_len]
    congr 4)
  have hL6 := hcount L
  obtain ⟨r, r1, r2⟩ := iterI (step := g275_l0 (framesB L ++ R)) (fun s => ScanI (framesB L ++ R) s ∧ ∃ X, s.1 = L ++ X) (fun s => (((framesB L ++ R).length : Int) - s.2).toNat) (fun r => (∃ X, r.1 = L ++ X) ∧ r.1.length ≤ 1048576)
    (L, (((framesB L).length : Nat) : Int)) ⟨⟨_, rfl, by simp, by simp only; omega⟩, [], by simp⟩ (fun s hs => by
    obtain ⟨hI, X, hX⟩ := hs
    rcases scan_next _ (by simp; omega) s hI with ⟨s', h1, ⟨h2, p, h2'⟩, h3⟩ | h
    · exact .inl ⟨s', h1, ⟨h2, X ++ [p], by rw [h2', hX, List.append_assoc]⟩, h3⟩
    · obtain ⟨k, k1, k2, k3⟩ := hI
      exact .inr ⟨_, h, ⟨X, hX⟩, by simp only [List.length_append] at k2; omega⟩)
  obtain ⟨⟨X, hX⟩, hlen2⟩ := r2
  refine ⟨X, r.2, ?_, by rw [← hX]; exact hlen2⟩
  have h' : iter (g275_l0 (framesB L ++ R)) ([], 0) = some r := by
    have h0 : iter (g275_l0 (framesB L ++ R)) ([], 0) = iter (g275_l0 (framesB L ++ R)) (L.take L.length, (((framesB (L.take L.length)).length : Nat) : Int)) := h
    rw [h0, List.take_length]; exact r1
  simp only [g275, h', Option.bind_some, ← hX]

/-! ### The reference's log -/
theorem g290_ok (d : DDevice) (h : DevOK d) : g290 d = some true := by
  obtain ⟨h1, h2, h3, h4⟩ := h
  have e1 : (((d.held.length : Int)).tmod 32 != 0) = false := by rw [Int.tmod_eq_emod_of_nonneg (by omega)]; simp; omega
  have e2 : decide ((d.held.length : Int) > 4096) = false := decide_eq_false (by omega)
  have e3 : decide ((d.waiting.length : Int) > 4096) = false := decide_eq_false (by omega)
  have hl := same_loop d.waiting (step := g290_l0 d) (fun k hk => by
    have hs := h4 _ (List.getElem_mem hk)
    have hs1 := hs.1
    have hs2 := hs.2
    have e4 : g56 d.waiting[k].at_ 0 127 = some true := by simp [g56, hs1.1, hs1.2]
    simp only [g290_l0]
    rw [if_pos (decide_eq_true (by omega)), idx_lt hk]
    simp only [Option.bind_some, e4, Bool.not_true, beq_self_eq_true, if_true, cond_false]
    rw [if_neg (by simp [hs2]), w1 (show k < 4611686018427387904 by omega)]) (by
    simp only [g290_l0]
    rw [if_neg (by simp)])
  simp [g290, e1, e2, e3, hl, bindv]
theorem g291_eq (k n : Nat) (hk : k ≤ 1048576) (hn : n ≤ 4096) : g291 (k : Int) (n : Int) = some (decide (k + n ≤ 4096)) := by
  have e0 : IntKind.i64.wrap (4096 - (n : Int)) = 4096 - (n : Int) := wr ⟨by omega, by omega⟩
  simp only [g291, bindv, e0]
  rw [decide_eq_true (show (k : Int) ≥ 0 by omega), decide_eq_true (show (n : Int) ≤ 4096 by omega)]
  by_cases c : k + n ≤ 4096
  · rw [decide_eq_true c, decide_eq_true (show (k : Int) ≤ 4096 - (n : Int) by omega)]; rfl
  · rw [decide_eq_false c, decide_eq_false (show ¬ (k : Int) ≤ 4096 - (n : Int) by omega)]; rfl
theorem g240_log {L : List (List UInt8)} {d : DDevice} (h : LogD L d) (hL : ∀ p ∈ L, p.length ≤ 2000) (p : List UInt8) (hp : p.length ≤ 2000) :
    g240 d p = if (framesB L).length + (frameB p).length ≤ 4096 then some (DDevice.mk (readD (writeD d (framesB L).length (frameB p))) [], 0) else some (DDevice.mk [] [], 9) := by
  have hl := h.len
  have hh := h.2.2.1
  have hfl : (frameB p).length ≤ 4096 := by simp; omega
  have e1 := g291_eq (framesB L).length (frameB p).length (by omega) hfl
  simp only [g240]
  rw [if_neg (by simp; omega), g290_ok d h.ok]
  simp only [Option.bind_some, Bool.not_true, Bool.false_eq_true, if_false]
  rw [if_neg (by simp; omega), g303_eq d h.ok, h.read]
  have hsc : g302 d.held = some (L, (((framesB L).length : Nat) : Int)) := (scan_same d.held (Nat.le_trans hh (by decide))).trans (h.scan hL)
  have hfr : g304 p = some (frameB p) := g304_eq p (Nat.le_trans hp (by decide))
  rw [Option.bind_some, hsc, Option.bind_some, hfr, Option.bind_some]
  dsimp only
  rw [e1, Option.bind_some]
  by_cases c : (framesB L).length + (frameB p).length ≤ 4096
  · rw [if_pos c, decide_eq_true c, if_neg (by simp), g292_eq d h.ok _ _ c]
    have hwl : (writeD d (framesB L).length (frameB p)).waiting.length ≤ 4096 := by
      unfold writeD
      split
      · rw [h.1]; simp
      · simp only [List.length_append, secsB_len, h.1, List.length_nil]; omega
    simp [g303_eq _ (writeD_ok d h.ok _ (frameB p) c hwl)]
  · rw [if_neg c, decide_eq_false c]
    simp only [Bool.not_false, if_true]
theorem g241_ok (p : List UInt8) (h : p.length ≤ 2000) : g241 p = some (frameB p, 0) := by
  simp only [g241]
  rw [if_neg (by simp; omega), if_neg (by simp; omega), g304_eq p (by omega)]
  rfl

/-! ### Crashes -/
def crk (l : List DSector) (F : List Bool) (b : List UInt8) : Nat → List UInt8
  | 0 => b
  | k + 1 => if F[k]?.getD false = true then putB (crk l F b k) (l[k]?.getD default).at_.toNat (l[k]?.getD default).data else crk l F b k
theorem crk_len (l : List DSector) (F : List Bool) (b : List UInt8) (hl : ∀ s ∈ l, SecOK s) (h1 : b.length % 32 = 0) (h2 : b.length ≤ 4096) : ∀ k, k ≤ l.length →
    (crk l F b k).length % 32 = 0 ∧ (crk l F b k).length ≤ 4096 ∧ b.length ≤ (crk l F b k).length
  | 0, _ => ⟨h1, h2, Nat.le_refl _⟩
  | k + 1, hk => by
    obtain ⟨i1, i2, i3⟩ := crk_len l F b hl h1 h2 k (by omega)
    unfold crk
    split
    · rw [List.getElem?_eq_getElem (by omega)]
      have hs := hl _ (List.getElem_mem (show k < l.length by omega))
      have := hs.1
      simp only [Option.getD_some]
      rw [putB_len _ _ _ hs.2]
      exact ⟨by omega, by omega, by omega⟩
    · exact ⟨i1, i2, i3⟩
theorem g268_eq (d : DDevice) (h : DevOK d) (F : List Bool) (hF : F.length ≤ 1048576) : g268 d F = some (DDevice.mk (crk d.waiting F d.held d.waiting.length) []) := by
  have hh := h.2.1; have hw := h.2.2.1
  have hl := iter_upto (step := g268_l0 d F) (fun k => (crk d.waiting F d.held k, (k : Int))) d.waiting.length (crk d.waiting F d.held d.waiting.length) (fun k hk => by
    obtain ⟨c1, c2, c3⟩ := crk_len d.waiting F d.held h.2.2.2 h.1 h.2.1 k (by omega)
    simp only [g268_l0]
    rw [if_pos (decide_eq_true (by omega)), idx_lt hk]
    simp only [Option.bind_some, g268_j0, w1 (show k < 4611686018427387904 by omega)]
    have ec : crk d.waiting F d.held (k + 1) = if F[k]?.getD false = true then putB (crk d.waiting F d.held k) d.waiting[k].at_.toNat d.waiting[k].data else crk d.waiting F d.held k := by
      show (if _ then _ else _) = _
      rw [List.getElem?_eq_getElem hk]; rfl
    rw [ec]
    by_cases c : k < F.length
    · rw [decide_eq_true (show (k : Int) < (F.length : Int) by omega), List.getElem?_eq_getElem c]
      simp only [beq_self_eq_true, if_true, idx_lt c, Option.bind_some, cond_true, Option.getD_some]
      cases F[k] with
      | true => simp only [if_true, g326_eq _ _ (h.2.2.2 _ (List.getElem_mem hk)) (show (crk d.waiting F d.held k).length ≤ 1048576 by omega), Option.bind_some]
      | false => simp only [Bool.false_eq_true, if_false]
    · rw [decide_eq_false (show ¬ (k : Int) < (F.length : Int) by omega), List.getElem?_eq_none (by omega)]
      simp) (by
    simp only [g268_l0]
    rw [if_neg (by simp)])
  have hl' : iter (g268_l0 d F) (d.held, 0) = some (crk d.waiting F d.held d.waiting.length) := hl
  simp only [g268, g325_eq d.held (by omega), Option.bind_some, hl']
theorem g242_ok (d : DDevice) (h : DevOK d) (F : List Bool) (hF : F.length ≤ 4096) : g242 d F = some (DDevice.mk (crk d.waiting F d.held d.waiting.length) [], 0) := by
  simp only [g242, g305, decide_eq_true (show (F.length : Int) ≤ 4096 by omega), Option.bind_some, Bool.not_true, Bool.false_eq_true, if_false, g216_ok d h, g268_eq d h F (by omega)]
theorem crk_true (l : List DSector) (b : List UInt8) : ∀ k, k ≤ l.length → crk l (List.replicate l.length true) b k = (l.take k).foldl (fun b s => putB b s.at_.toNat s.data) b
  | 0, _ => rfl
  | k + 1, hk => by
    have hk' : k < l.length := hk
    unfold crk
    rw [List.getElem?_replicate, if_pos hk', List.getElem?_eq_getElem hk', crk_true l b k (by omega), List.take_succ_eq_append_getElem (show k < l.length by omega), List.foldl_append]
    rfl
end Go.Ev
