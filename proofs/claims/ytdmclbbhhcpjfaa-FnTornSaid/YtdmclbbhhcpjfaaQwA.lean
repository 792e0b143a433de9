/- Plain words: truth values of sentences, repeated steps over numbers, lists. -/
import Derived.Test.YtdmclbbhhcpjfaaQvL
set_option linter.all false
namespace Go.Ev

/-! ### The truth value of a sentence -/
noncomputable def tf (P : Prop) : Bool := @decide P (Classical.propDecidable P)
@[simp] theorem tf_iff {P : Prop} : tf P = true ↔ P := by unfold tf; exact @decide_eq_true_iff P (Classical.propDecidable P)
@[simp] theorem tf_false {P : Prop} : tf P = false ↔ ¬ P := by rw [← Bool.not_eq_true, tf_iff]
theorem tf_congr {P Q : Prop} (h : P ↔ Q) : tf P = tf Q := by rw [propext h]
theorem tf_pos {P : Prop} (h : P) : tf P = true := tf_iff.2 h
theorem tf_neg {P : Prop} (h : ¬ P) : tf P = false := tf_false.2 h
theorem dec_tf {P : Prop} [Decidable P] : decide P = tf P := by
  by_cases h : P
  · rw [tf_pos h, decide_eq_true h]
  · rw [tf_neg h, decide_eq_false h]
theorem tf_b {b : Bool} : tf (b = true) = b := by cases b <;> simp [tf]
theorem tf_not {P : Prop} : (!tf P) = tf (¬ P) := by
  by_cases h : P
  · rw [tf_pos h, tf_neg (not_not_intro h)]; rfl
  · rw [tf_neg h, tf_pos h]; rfl
theorem tf_and {P Q : Prop} : (tf P && tf Q) = tf (P ∧ Q) := by
  by_cases h : P
  · rw [tf_pos h, Bool.true_and]; exact tf_congr (by simp [h])
  · rw [tf_neg h, Bool.false_and, tf_neg (fun hh => h hh.1)]
theorem tf_or {P Q : Prop} : (tf P || tf Q) = tf (P ∨ Q) := by
  by_cases h : P
  · rw [tf_pos h, Bool.true_or, tf_pos (.inl h)]
  · rw [tf_neg h, Bool.false_or]; exact tf_congr (by simp [h])
theorem bif_and {a b : Bool} : (bif a then b else false) = (a && b) := by cases a <;> rfl
theorem bif_or {a b : Bool} : (bif a then true else b) = (a || b) := by cases a <;> rfl
theorem beq_tf {α : Type} [BEq α] [LawfulBEq α] {a b : α} : (a == b) = tf (a = b) := by
  by_cases h : a = b
  · rw [tf_pos h]; simpa using h
  · rw [tf_neg h]; simpa using h
theorem bne_tf {α : Type} [BEq α] [LawfulBEq α] {a b : α} : (a != b) = tf (a ≠ b) := by
  rw [bne, beq_tf, tf_not]
theorem if_tf {α : Type} {P : Prop} {a b : α} (h : P) : (if tf P = true then a else b) = a := by rw [tf_pos h]; rfl
theorem if_tfn {α : Type} {P : Prop} {a b : α} (h : ¬ P) : (if tf P = true then a else b) = b := by rw [tf_neg h]; rfl

/-! ### Numbers -/
abbrev I64 (n : Int) : Prop := -9223372036854775808 ≤ n ∧ n ≤ 9223372036854775807
theorem wr {n : Int} (h : I64 n) : IntKind.i64.wrap n = n := by
  obtain ⟨h1, h2⟩ := h
  have e : IntKind.i64.wrap n = if n % 18446744073709551616 ≥ 9223372036854775808 then n % 18446744073709551616 - 18446744073709551616 else n % 18446744073709551616 := by
    simp [IntKind.wrap, IntKind.bits, IntKind.signed]
  rw [e]
  split <;> omega

/-! ### Lists -/
theorem idx_nat {α : Type} {l : List α} {k : Nat} : idx l (k : Int) = l[k]? := by
  unfold idx
  rw [if_pos (by omega)]
  simp
theorem idx_lt {α : Type} {l : List α} {k : Nat} (h : k < l.length) : idx l (k : Int) = some l[k] := by
  rw [idx_nat, List.getElem?_eq_getElem h]

/-! ### Repeated steps -/
section
variable {σ ρ : Type} {step : σ → Option (σ ⊕ ρ)}
theorem iter_run (st : Nat → σ) : ∀ n, (∀ k, k < n → step (st k) = some (.inl (st (k + 1)))) → iter step (st 0) = iter step (st n)
  | 0, _ => rfl
  | n + 1, h => by
    rw [iter_run st n fun k hk => h k (by omega), iter_next (h n (by omega))]
/-- Up to n, and to the end there. -/
theorem iter_upto (st : Nat → σ) (n : Nat) (r : ρ) (h : ∀ k, k < n → step (st k) = some (.inl (st (k + 1)))) (he : step (st n) = some (.inr r)) : iter step (st 0) = some r := by
  rw [iter_run st n h, iter_end he]
/-- A search: the first place where it is not ok ends it. -/
theorem iter_first (st : Nat → σ) (n : Nat) (ok : Nat → Prop) (bad : Nat → ρ) (fin : ρ) (h1 : ∀ k, k < n → (∀ j, j < k → ok j) → ok k → step (st k) = some (.inl (st (k + 1))))
    (h2 : ∀ k, k < n → (∀ j, j < k → ok j) → ¬ ok k → step (st k) = some (.inr (bad k))) (he : (∀ j, j < n → ok j) → step (st n) = some (.inr fin)) :
    ((∀ k, k < n → ok k) → iter step (st 0) = some fin) ∧ (∀ k, k < n → (∀ j, j < k → ok j) → ¬ ok k → iter step (st 0) = some (bad k)) := by
  constructor
  · intro h
    exact iter_upto st n fin (fun k hk => h1 k hk (fun j hj => h j (by omega)) (h k hk)) (he h)
  · intro k hk hj hn
    rw [iter_run st k fun i hi => h1 i (by omega) (fun j hj' => hj j (by omega)) (hj i hi)]
    exact iter_end (h2 k hk hj hn)
theorem least_of {n : Nat} {ok : Nat → Prop} (h : ¬ ∀ k, k < n → ok k) : ∃ k, k < n ∧ (∀ j, j < k → ok j) ∧ ¬ ok k := by
  obtain ⟨k, hk⟩ := Classical.not_forall.1 h
  rw [Classical.not_imp] at hk
  obtain ⟨h1, h2⟩ := hk
  induction k using Nat.strongRecOn with
  | _ k ih =>
    by_cases hex : ∃ j, j < k ∧ ¬ ok j
    · obtain ⟨j, hj, hn⟩ := hex
      exact ih j hj (by omega) hn
    · exact ⟨k, h1, fun j hj => Classical.byContradiction fun hn => hex ⟨j, hj, hn⟩, h2⟩
end
/-- A loop that asks of each element whether it is ok, and says no at the first that is not. -/
theorem iter_all {α : Type} {step : Int → Option (Int ⊕ (Unit ⊕ Bool))} (l : List α) (ok : Nat → α → Prop)
    (h1 : ∀ k (hk : k < l.length), (∀ j x, j < k → l[j]? = some x → ok j x) → ∃ v : Bool, (v = true ↔ ¬ ok k l[k]) ∧ step (k : Int) = (if v = true then some (.inr (.inr false)) else some (.inl ((k + 1 : Nat) : Int))))
    (h3 : step (l.length : Int) = some (.inr (.inl ()))) : iter step 0 = some (if tf (∀ k x, l[k]? = some x → ok k x) = true then .inl () else .inr false) := by
  have pre : ∀ k, (∀ j, j < k → ∀ h : j < l.length, ok j l[j]) → ∀ j x, j < k → l[j]? = some x → ok j x := fun k hj j x hjk hx => by
    obtain ⟨hlt, rfl⟩ := List.getElem?_eq_some_iff.1 hx
    exact hj j hjk hlt
  have hh := iter_first (step := step) (fun k => (k : Int)) l.length (fun k => ∀ h : k < l.length, ok k l[k]) (fun _ => .inr false) (.inl ()) (fun k hk hj ho => by
    obtain ⟨v, hv, hs⟩ := h1 k hk (pre k hj)
    rw [hs, if_neg (fun h => hv.1 h (ho hk))]) (fun k hk hj ho => by
    obtain ⟨v, hv, hs⟩ := h1 k hk (pre k hj)
    rw [hs, if_pos (hv.2 fun h => ho fun _ => h)]) (fun _ => h3)
  by_cases h : ∀ k x, l[k]? = some x → ok k x
  · rw [if_tf h]; exact hh.1 fun k hk _ => h k _ (List.getElem?_eq_getElem hk)
  · rw [if_tfn h]
    obtain ⟨k, hk, hj, ho⟩ := least_of (n := l.length) (ok := fun k => ∀ h : k < l.length, ok k l[k]) fun hall => h fun k x hx => by
      obtain ⟨hlt, rfl⟩ := List.getElem?_eq_some_iff.1 hx
      exact hall k hlt hlt
    exact hh.2 k hk hj ho
theorem tf_ext {b : Bool} {P : Prop} (h : b = true ↔ P) : some b = some (tf P) := by
  congr 1
  rw [Bool.eq_iff_iff, tf_iff, h]
theorem gsome {α : Type} [Inhabited α] {g : Bool} {o : Option α} (h : g = true → ∃ y, o = some y) : ∃ y, (if g = true then o else some default) = some y ∧ (g = true → o = some y) := by
  cases g with
  | true => obtain ⟨y, hy⟩ := h rfl; exact ⟨y, by simpa using hy, fun _ => hy⟩
  | false => exact ⟨default, rfl, fun h => by cases h⟩
end Go.Ev
