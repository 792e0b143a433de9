/- Plain words: invariants; searching, sorting out and least elements of leases. -/
import Derived.Test.YtdkeomfbpdodiaaQwB
set_option linter.all false
namespace Go.Ev

/-- A loop with a sentence that stays true, and a number that falls. -/
theorem iter_inv {σ ρ : Type} {step : σ → Option (σ ⊕ ρ)} (I : σ → Prop) (μ : σ → Nat) (R : ρ → Prop)
    (h : ∀ s, I s → (∃ s', step s = some (.inl s') ∧ I s' ∧ μ s' < μ s) ∨ (∃ r, step s = some (.inr r) ∧ R r)) : ∀ (n : Nat) (s0 : σ), μ s0 < n → I s0 → ∃ r, iter step s0 = some r ∧ R r := by
  intro n
  induction n with
  | zero => intro s0 hn; omega
  | succ n ih =>
    intro s0 hn hI
    rcases h s0 hI with ⟨s', h1, h2, h3⟩ | ⟨r, h1, h2⟩
    · obtain ⟨r, h4, h5⟩ := ih s' (by omega) h2
      exact ⟨r, by rw [iter_next h1, h4], h5⟩
    · exact ⟨r, iter_end h1, h2⟩
theorem iter_inv' {σ ρ : Type} {step : σ → Option (σ ⊕ ρ)} (I : σ → Prop) (μ : σ → Nat) (R : ρ → Prop) (s0 : σ) (h0 : I s0)
    (h : ∀ s, I s → (∃ s', step s = some (.inl s') ∧ I s' ∧ μ s' < μ s) ∨ (∃ r, step s = some (.inr r) ∧ R r)) : ∃ r, iter step s0 = some r ∧ R r :=
  iter_inv I μ R h (μ s0 + 1) s0 (by omega) h0

theorem slc_eq {α : Type} (l : List α) (a b : Nat) (h : a ≤ b) (h2 : b ≤ l.length) : slc l (a : Int) (b : Int) = some ((l.take b).drop a) := by
  unfold slc
  rw [if_pos ⟨by omega, by omega, by omega⟩]
  simp
theorem ovl_eq {α : Type} (l : List α) (n : Nat) (y : List α) (h : n + y.length = l.length) : ovl l n y = l.take n ++ y := by
  apply List.ext_getElem
  · simp [ovl]; omega
  · intro k h1 h2
    simp only [ovl, List.length_mapIdx] at h1
    simp only [ovl, List.getElem_mapIdx, List.getElem_append]
    by_cases hn : n ≤ k
    · rw [if_pos hn, dif_neg (by simp; omega), List.getElem?_eq_getElem (by omega : k - n < y.length)]
      simp only [Option.getD_some, List.length_take]
      congr 1; omega
    · rw [if_neg hn, dif_pos (by simp; omega), List.getElem_take]
/-- Where the first one lies for which it is so; -1 where there is none. -/
def FirstAt {α : Type} (l : List α) (p : α → Bool) (n : Int) : Prop :=
  (n = -1 ∧ ∀ x ∈ l, p x = false) ∨ ∃ k, ∃ h : k < l.length, n = (k : Int) ∧ p l[k] = true ∧ ∀ j, ∀ h2 : j < k, p l[j] = false
theorem g108_first (l : List DLease) (f : DLease → Option Bool) (p : DLease → Bool) (hf : ∀ x ∈ l, f x = some (p x)) (hl : l.length ≤ 1048576) : ∃ n : Int, g108 l f = some n ∧ FirstAt l p n := by
  obtain ⟨r, h1, h2⟩ := iter_inv' (step := g108_l0 l f) (fun s => ∃ k : Nat, s = (k : Int) ∧ k ≤ l.length ∧ ∀ j, ∀ h : j < l.length, j < k → p l[j] = false) (fun s => (l.length - s).toNat)
    (fun r => (r = .inl () ∧ ∀ x ∈ l, p x = false) ∨ ∃ n, r = .inr n ∧ FirstAt l p n) 0 ⟨0, rfl, by omega, by intros; omega⟩ (by
      rintro _ ⟨k, rfl, hk, hj⟩
      simp only [g108_l0]
      by_cases hlt : k < l.length
      · rw [if_pos (decide_eq_true (by omega)), idx_lt hlt]
        simp only [Option.bind_some, hf _ (List.getElem_mem hlt)]
        cases hp : p l[k] with
        | false =>
          left
          refine ⟨((k + 1 : Nat) : Int), ?_, ⟨k + 1, rfl, by omega, fun j h hj2 => ?_⟩, by omega⟩
          · simp [wr (n := (k : Int) + 1) ⟨by omega, by omega⟩]
          · by_cases e : j = k
            · subst e; exact hp
            · exact hj j h (by omega)
        | true => exact .inr ⟨.inr (k : Int), by simp, .inr ⟨k, rfl, .inr ⟨k, hlt, rfl, hp, fun j h2 => hj j (by omega) h2⟩⟩⟩
      · rw [if_neg (by simp; omega)]
        right
        refine ⟨.inl (), rfl, .inl ⟨rfl, fun x hx => ?_⟩⟩
        obtain ⟨j, hj1, rfl⟩ := List.getElem_of_mem hx
        exact hj j hj1 (by omega))
  simp only [g108, h1, Option.bind_some]
  rcases h2 with ⟨rfl, h2⟩ | ⟨n, rfl, h2⟩
  · exact ⟨-1, rfl, .inl ⟨rfl, h2⟩⟩
  · exact ⟨n, rfl, h2⟩
/-- Sorting out. -/
theorem g65_eq (l : List DLease) (f : DLease → Option Bool) (p : DLease → Bool) (hf : ∀ x, f x = some (p x)) (hl : l.length ≤ 1048576) : g65 l f = some (l.filter fun x => !p x) := by
  obtain ⟨n, h1, h2⟩ := g108_first l f p (fun x _ => hf x) hl
  simp only [g65, h1, Option.bind_some]
  rcases h2 with ⟨rfl, h2⟩ | ⟨k, hk, rfl, hp, hj⟩
  · rw [if_pos (by simp)]
    congr 1
    exact (List.filter_eq_self.2 fun x hx => by simp [h2 x hx]).symm
  · rw [if_neg (by simp)]
    have hk0 : l.take k = (l.take (k + 1)).filter fun x => !p x := by
      rw [List.take_succ_eq_append_getElem hk, List.filter_append]
      have e1 : (l.take k).filter (fun x => !p x) = l.take k := List.filter_eq_self.2 fun x hx => by
        obtain ⟨j, hj1, rfl⟩ := List.getElem_of_mem hx
        simp only [List.length_take] at hj1
        simp [hj j (by omega)]
      rw [e1]; simp [hp]
    obtain ⟨r, h3, h4⟩ := iter_inv' (step := g65_l0 f) (fun s => ∃ i j : Nat, s.2.1 = i ∧ s.2.2 = j ∧ i ≤ j ∧ j ≤ l.length ∧ s.1.length = l.length ∧ s.1.take i = (l.take j).filter (fun x => !p x) ∧ s.1.drop j = l.drop j)
      (fun s => (l.length - s.2.2).toNat) (fun r => ∃ i : Nat, r.2 = i ∧ i ≤ r.1.length ∧ r.1.length = l.length ∧ r.1.take i = l.filter fun x => !p x) (l, (k : Int), IntKind.i64.wrap ((k : Int) + 1))
      ⟨k, k + 1, rfl, by simp only; rw [wr ⟨by omega, by omega⟩]; rfl, by omega, by omega, rfl, hk0, rfl⟩ (by
        rintro ⟨row, _, _⟩ ⟨i, j, rfl, rfl, hij, hjl, hlen, ht, hd⟩
        simp only at hlen ht hd
        simp only [g65_l0]
        by_cases hlt : j < l.length
        · have hrj : row[j]'(by omega) = l[j] := by
            have e1 := congrArg (fun z => z[0]?) hd
            simp only [List.getElem?_drop, Nat.add_zero] at e1
            rw [List.getElem?_eq_getElem (by omega), List.getElem?_eq_getElem hlt] at e1
            exact Option.some.inj e1
          have hwi : IntKind.i64.wrap ((i : Int) + 1) = ((i + 1 : Nat) : Int) := wr ⟨by omega, by omega⟩
          have hwj : IntKind.i64.wrap ((j : Int) + 1) = ((j + 1 : Nat) : Int) := wr ⟨by omega, by omega⟩
          have hd' : row.drop (j + 1) = l.drop (j + 1) := by
            have := congrArg (List.drop 1) hd
            simpa [List.drop_drop, Nat.add_comm] using this
          rw [if_pos (decide_eq_true (by omega)), idx_lt (by omega)]
          simp only [Option.bind_some, Int.toNat_natCast]
          rw [List.getElem?_eq_getElem (by omega)]
          simp only [Option.bind_some, hf, hrj]
          left
          cases hpj : p l[j] with
          | false =>
            rw [if_pos (by rfl), idx_lt (by omega)]
            simp only [Option.bind_some]
            rw [List.getElem?_eq_getElem (by omega)]
            simp only [Option.bind_some, g65_j0, hwi, hwj]
            refine ⟨_, rfl, ⟨i + 1, j + 1, rfl, rfl, by omega, by omega, by simp [hlen], ?_, ?_⟩, by simp only; omega⟩
            · simp only
              rw [List.take_succ_eq_append_getElem (by simp; omega), List.take_succ_eq_append_getElem hlt, List.filter_append, ← ht]
              simp [hpj, List.take_set_of_le]
            · simp only
              rw [List.drop_set_of_lt (by omega), hd']
          | true =>
            rw [if_neg (by simp)]
            simp only [g65_j0, hwj]
            refine ⟨_, rfl, ⟨i, j + 1, rfl, rfl, by omega, by omega, hlen, ?_, hd'⟩, by simp only; omega⟩
            simp only
            rw [List.take_succ_eq_append_getElem hlt, List.filter_append, ← ht]
            simp [hpj]
        · rw [if_neg (by simp; omega)]
          right
          refine ⟨_, rfl, i, rfl, by simp only; omega, hlen, ?_⟩
          simp only
          rw [ht, List.take_of_length_le (by omega)])
    obtain ⟨row, i'⟩ := r
    obtain ⟨i, hi, hil, hlen, ht⟩ := h4
    simp only at hi hil hlen ht
    subst hi
    rw [h3]
    simp only [Option.bind_some]
    rw [slc_eq _ _ _ hil (Nat.le_refl _)]
    simp only [Option.bind_some, Int.toNat_natCast, List.take_length]
    rw [ovl_eq _ _ _ (by simp; omega)]
    have e := slc_eq (row.take i ++ List.replicate (row.drop i).length (DLease.mk 0 0 0 false)) 0 i (by omega) (by simp; omega)
    rw [show ((0 : Nat) : Int) = 0 from rfl] at e
    rw [e]
    simp only [Option.bind_some, List.drop_zero]
    rw [List.take_append_of_le_length (by simp; omega), List.take_take, Nat.min_self, ht]

theorem g110_eq (a b : Int) : g110 a b = some (if a < b then -1 else if b < a then 1 else 0) := by
  simp only [g110, g136, Option.bind_some]
  simp
  split
  · rfl
  · split <;> rfl
theorem g109_two (a b : Int) : g109 [a, b] = some (if a = 0 then b else a) := by
  have s0 : g109_l0 [a, b] 0 = if (a != 0) = true then some (.inr (.inr a)) else some (.inl 1) := rfl
  have s1 : g109_l0 [a, b] 1 = if (b != 0) = true then some (.inr (.inr b)) else some (.inl 2) := rfl
  have s2 : g109_l0 [a, b] 2 = some (.inr (.inl ())) := rfl
  simp only [g109]
  by_cases ha : a = 0
  · by_cases hb : b = 0
    · rw [iter_next (s' := 1) (by rw [s0, if_neg (by simp [ha])]), iter_next (s' := 2) (by rw [s1, if_neg (by simp [hb])]), iter_end (r := .inl ()) s2]
      simp [ha, hb]
    · rw [iter_next (s' := 1) (by rw [s0, if_neg (by simp [ha])]), iter_end (r := .inr b) (by rw [s1, if_pos (by simp [hb])])]
      simp [ha]
  · rw [iter_end (r := .inr a) (by rw [s0, if_pos (by simp [ha])])]
    simp [ha]
/-- Earlier, and of the same time the smaller number. -/
def lcmp (x y : DLease) : Int := if x.until_ < y.until_ then -1 else if y.until_ < x.until_ then 1 else if x.id < y.id then -1 else if y.id < x.id then 1 else 0
theorem g69_eq (x y : DLease) : g69 x y = some (lcmp x y) := by
  simp only [g69, g110_eq, Option.bind_some, g109_two]
  unfold lcmp
  split
  · simp
  · split
    · simp
    · simp
theorem lcmp_lt {x y : DLease} : lcmp x y < 0 ↔ x.until_ < y.until_ ∨ (x.until_ = y.until_ ∧ x.id < y.id) := by
  unfold lcmp; split
  · simp; omega
  · split
    · simp; omega
    · split
      · simp; omega
      · split
        · simp; omega
        · simp; omega
/-- A least element. -/
theorem g68_eq (l : List DLease) (hl : l.length ≤ 1048576) (hn : l ≠ []) : ∃ m, g68 l (fun a b => g69 a b) = some m ∧ m ∈ l ∧ ∀ x ∈ l, ¬ lcmp x m < 0 := by
  have hpos : 0 < l.length := List.length_pos_iff.2 hn
  obtain ⟨r, h1, h2⟩ := iter_inv' (step := g68_l0 l (fun a b => g69 a b)) (fun s => ∃ (k : Nat) (m : DLease), s = ((k : Int), m.id, m.until_, m.cap, m.queued) ∧ k ≤ l.length ∧ m ∈ l ∧ ∀ j, ∀ h : j < l.length, j < k → ¬ lcmp l[j] m < 0)
    (fun s => (l.length - s.1).toNat) (fun r => ∃ m : DLease, r = (m.id, m.until_, m.cap, m.queued) ∧ m ∈ l ∧ ∀ x ∈ l, ¬ lcmp x m < 0) (1, l[0].id, l[0].until_, l[0].cap, l[0].queued)
    ⟨1, l[0], rfl, by omega, List.getElem_mem _, fun j h hj => by
      have : j = 0 := by omega
      subst this; simp [lcmp_lt]⟩ (by
      rintro _ ⟨k, m, rfl, hk, hm, hj⟩
      simp only [g68_l0]
      by_cases hlt : k < l.length
      · rw [if_pos (decide_eq_true (by omega)), idx_lt hlt]
        simp only [Option.bind_some, g69_eq, g68_j1, wr (n := (k : Int) + 1) ⟨by omega, by omega⟩]
        left
        by_cases hc : lcmp l[k] m < 0
        · rw [if_pos (decide_eq_true hc)]
          refine ⟨_, rfl, ⟨k + 1, l[k], rfl, by omega, List.getElem_mem _, fun j h hj2 => ?_⟩, by simp only; omega⟩
          by_cases e : j = k
          · subst e; simp [lcmp_lt]
          · have := hj j h (by omega)
            rw [lcmp_lt] at this hc ⊢
            omega
        · rw [if_neg (by simpa using hc)]
          refine ⟨_, rfl, ⟨k + 1, m, rfl, by omega, hm, fun j h hj2 => ?_⟩, by simp only; omega⟩
          by_cases e : j = k
          · subst e; exact hc
          · exact hj j h (by omega)
      · rw [if_neg (by simp; omega)]
        right
        refine ⟨_, rfl, m, rfl, hm, fun x hx => ?_⟩
        obtain ⟨j, hj1, rfl⟩ := List.getElem_of_mem hx
        exact hj j hj1 (by omega))
  obtain ⟨m, rfl, h3, h4⟩ := h2
  refine ⟨m, ?_, h3, h4⟩
  simp only [g68]
  rw [if_neg (by simp; omega)]
  simp only [g68_j0]
  rw [show (0 : Int) = ((0 : Nat) : Int) from rfl, idx_lt hpos]
  simp only [Option.bind_some]
  rw [h1]
  rfl
end Go.Ev
