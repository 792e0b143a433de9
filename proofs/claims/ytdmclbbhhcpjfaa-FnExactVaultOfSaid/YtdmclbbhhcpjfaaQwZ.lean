/- The plain part of the proof: what the functions compute answers as the law says. -/
import Derived.Test.YtdmclbbhhcpjfaaQvL
import Derived.Test.YtdmclbbhhcpjfaaQgD
import Derived.Test.YtdmclbbhhcpjfaaQvM
set_option linter.all false
section
namespace Go.Ev
noncomputable def tf (P : Prop) : Bool := @decide P (Classical.propDecidable P)
@[simp] theorem tf_iff {P : Prop} : tf P = true ↔ P := by unfold tf; exact @decide_eq_true_iff P (Classical.propDecidable P)
@[simp] theorem tf_false {P : Prop} : tf P = false ↔ ¬ P := by rw [← Bool.not_eq_true, tf_iff]
theorem tf_congr {P Q : Prop} (h : P ↔ Q) : tf P = tf Q := by rw [propext h]
theorem tf_pos {P : Prop} (h : P) : tf P = true := tf_iff.2 h
theorem tf_neg {P : Prop} (h : ¬ P) : tf P = false := tf_false.2 h
theorem dec_tf {P : Prop} [Decidable P] : decide P = tf P := by
 by_cases h : P
 ·rw [tf_pos h, decide_eq_true h]
 ·rw [tf_neg h, decide_eq_false h]
theorem tf_not {P : Prop} : (!tf P) = tf (¬ P) := by
 by_cases h : P
 ·rw [tf_pos h, tf_neg (not_not_intro h)]; rfl
 ·rw [tf_neg h, tf_pos h]; rfl
theorem tf_and {P Q : Prop} : (tf P && tf Q) = tf (P ∧ Q) := by
 by_cases h : P
 ·rw [tf_pos h, Bool.true_and]; exact tf_congr (by simp [h])
 ·rw [tf_neg h, Bool.false_and, tf_neg (fun hh => h hh.1)]
theorem tf_or {P Q : Prop} : (tf P || tf Q) = tf (P ∨ Q) := by
 by_cases h : P
 ·rw [tf_pos h, Bool.true_or, tf_pos (.inl h)]
 ·rw [tf_neg h, Bool.false_or]; exact tf_congr (by simp [h])
theorem bif_and {a b : Bool} : (bif a then b else false) = (a && b) := by cases a <;> rfl
theorem bif_or {a b : Bool} : (bif a then true else b) = (a || b) := by cases a <;> rfl
theorem if_tf {α : Type} {P : Prop} {a b : α} (h : P) : (if tf P = true then a else b) = a := by rw [tf_pos h]; rfl
theorem if_tfn {α : Type} {P : Prop} {a b : α} (h : ¬ P) : (if tf P = true then a else b) = b := by rw [tf_neg h]; rfl
abbrev I64 (n : Int) : Prop := -9223372036854775808 ≤ n ∧ n ≤ 9223372036854775807
theorem wr {n : Int} (h : I64 n) : IntKind.i64.wrap n = n := by
 obtain ⟨h1, h2⟩ := h
 have e : IntKind.i64.wrap n = if n % 18446744073709551616 ≥ 9223372036854775808 then n % 18446744073709551616 - 18446744073709551616 else n % 18446744073709551616 := by
  simp [IntKind.wrap, IntKind.bits, IntKind.signed]
 rw [e]
 split <;> omega
theorem idx_nat {α : Type} {l : List α} {k : Nat} : idx l (k : Int) = l[k]? := by
 unfold idx
 rw [if_pos (by omega)]
 simp
theorem idx_lt {α : Type} {l : List α} {k : Nat} (h : k < l.length) : idx l (k : Int) = some l[k] := by
 rw [idx_nat, List.getElem?_eq_getElem h]
section
variable {σ ρ : Type} {step : σ → Option (σ ⊕ ρ)}
theorem iter_run (st : Nat → σ) : ∀ n, (∀ k, k < n → step (st k) = some (.inl (st (k + 1)))) → iter step (st 0) = iter step (st n)
 | 0, _ => rfl
 | n + 1, h => by
  rw [iter_run st n fun k hk => h k (by omega), iter_next (h n (by omega))]
theorem iter_upto (st : Nat → σ) (n : Nat) (r : ρ) (h : ∀ k, k < n → step (st k) = some (.inl (st (k + 1)))) (he : step (st n) = some (.inr r)) : iter step (st 0) = some r := by
 rw [iter_run st n h, iter_end he]
theorem iter_first (st : Nat → σ) (n : Nat) (ok : Nat → Prop) (bad : Nat → ρ) (fin : ρ) (h1 : ∀ k, k < n → (∀ j, j < k → ok j) → ok k → step (st k) = some (.inl (st (k + 1))))
  (h2 : ∀ k, k < n → (∀ j, j < k → ok j) → ¬ ok k → step (st k) = some (.inr (bad k))) (he : (∀ j, j < n → ok j) → step (st n) = some (.inr fin)) :
  ((∀ k, k < n → ok k) → iter step (st 0) = some fin) ∧ (∀ k, k < n → (∀ j, j < k → ok j) → ¬ ok k → iter step (st 0) = some (bad k)) := by
 constructor
 ·intro h
  exact iter_upto st n fin (fun k hk => h1 k hk (fun j hj => h j (by omega)) (h k hk)) (he h)
 ·intro k hk hj hn
  rw [iter_run st k fun i hi => h1 i (by omega) (fun j hj' => hj j (by omega)) (hj i hi)]
  exact iter_end (h2 k hk hj hn)
theorem least_of {n : Nat} {ok : Nat → Prop} (h : ¬ ∀ k, k < n → ok k) : ∃ k, k < n ∧ (∀ j, j < k → ok j) ∧ ¬ ok k := by
 obtain ⟨k, hk⟩ := Classical.not_forall.1 h
 rw [Classical.not_imp] at hk
 obtain ⟨h1, h2⟩ := hk
 induction k using Nat.strongRecOn with
 | _ k ih =>
  by_cases hex : ∃ j, j < k ∧ ¬ ok j
  ·obtain ⟨j, hj, hn⟩ := hex
   exact ih j hj (by omega) hn
  ·exact ⟨k, h1, fun j hj => Classical.byContradiction fun hn => hex ⟨j, hj, hn⟩, h2⟩
end
theorem iter_all {α : Type} {step : Int → Option (Int ⊕ (Unit ⊕ Bool))} (l : List α) (ok : Nat → α → Prop)
  (h1 : ∀ k (hk : k < l.length), (∀ j x, j < k → l[j]? = some x → ok j x) → ∃ v : Bool, (v = true ↔ ¬ ok k l[k]) ∧ step (k : Int) = (if v = true then some (.inr (.inr false)) else some (.inl ((k + 1 : Nat) : Int))))
  (h3 : step (l.length : Int) = some (.inr (.inl ()))) : iter step 0 = some (if tf (∀ k x, l[k]? = some x → ok k x) = true then .inl () else .inr false) := by
 have pre : ∀ k, (∀ j, j < k → ∀ h : j < l.length, ok j l[j]) → ∀ j x, j < k → l[j]? = some x → ok j x := fun k hj j x hjk hx => by
  obtain ⟨hlt, rfl⟩ := List.getElem?_eq_some_iff.1 hx
  exact hj j hjk hlt
 have hh := iter_first (step := step) (fun k => (k : Int)) l.length (fun k => ∀ h : k < l.length, ok k l[k]) (fun _ => .inr false) (.inl ()) (fun k hk hj ho => by
  obtain ⟨v, hv, hs⟩ := h1 k hk (pre k hj)
  rw [hs, if_neg (fun h => hv.1 h (ho hk))]) (fun k hk hj ho => by
  obtain ⟨v, hv, hs⟩ := h1 k hk (pre k hj)
  rw [hs, if_pos (hv.2 fun h => ho fun _ => h)]) (fun _ => h3)
 by_cases h : ∀ k x, l[k]? = some x → ok k x
 ·rw [if_tf h]; exact hh.1 fun k hk _ => h k _ (List.getElem?_eq_getElem hk)
 ·rw [if_tfn h]
  obtain ⟨k, hk, hj, ho⟩ := least_of (n := l.length) (ok := fun k => ∀ h : k < l.length, ok k l[k]) fun hall => h fun k x hx => by
   obtain ⟨hlt, rfl⟩ := List.getElem?_eq_some_iff.1 hx
   exact hall k hlt hlt
  exact hh.2 k hk hj ho
theorem tf_ext {b : Bool} {P : Prop} (h : b = true ↔ P) : some b = some (tf P) := by
 congr 1
 rw [Bool.eq_iff_iff, tf_iff, h]
theorem gsome {α : Type} [Inhabited α] {g : Bool} {o : Option α} (h : g = true → ∃ y, o = some y) : ∃ y, (if g = true then o else some default) = some y ∧ (g = true → o = some y) := by
 cases g with
 | true => obtain ⟨y, hy⟩ := h rfl; exact ⟨y, by simpa using hy, fun _ => hy⟩
 | false => exact ⟨default, rfl, fun h => by cases h⟩
end Go.Ev
end
section
namespace Go.Ev
theorem g56_eq (a b c : Int) : g56 a b c = some (tf (b ≤ a ∧ a ≤ c)) := by
 simp only [g56, dec_tf, bif_and, tf_and, ge_iff_le]
theorem g63_eq (a b c : Int) : g63 a b c = some (tf (b ≤ a ∧ a ≤ c)) := by
 simp only [g63, dec_tf, bif_and, tf_and]
theorem g58_eq (a : Int) : g58 a = some (tf (1 ≤ a ∧ a ≤ 1000000)) := by
 simp only [g58, g63_eq, Option.bind_some]
def TabLease (t : DTable) (k : Nat) (x : DLease) : Prop := (1 ≤ x.id ∧ x.id ≤ t.next - 1) ∧ (∀ y, 0 < k → t.list_[k - 1]? = some y → y.id < x.id) ∧ 0 ≤ x.until_ ∧ x.until_ ≤ x.cap ∧ (x.queued = false → t.clock < x.until_)
def TabOK (t : DTable) : Prop := 0 ≤ t.clock ∧ (1 ≤ t.next ∧ t.next ≤ 1000000) ∧ t.list_.length ≤ 40 ∧ ∀ k x, t.list_[k]? = some x → TabLease t k x
theorem spec_loop (t : DTable) (hn : 1 ≤ t.next ∧ t.next ≤ 1000000) (hl : t.list_.length ≤ 40) :
  iter (g18_l0 t) 0 = some (if tf (∀ k x, t.list_[k]? = some x → TabLease t k x) = true then .inl () else .inr false) := by
 refine iter_all t.list_ _ (fun k hk _ => ?_) ?_
 ·have hw : IntKind.i64.wrap (t.next - 1) = t.next - 1 := wr ⟨by omega, by omega⟩
  have hw2 : IntKind.i64.wrap ((k : Int) - 1) = (k : Int) - 1 := wr ⟨by omega, by omega⟩
  have hw3 : IntKind.i64.wrap ((k : Int) + 1) = ((k + 1 : Nat) : Int) := wr ⟨by omega, by omega⟩
  simp only [g18_l0]
  rw [if_pos (decide_eq_true (by omega)), idx_lt hk]
  generalize hx : t.list_[k] = x
  simp only [Option.bind_some, g56_eq, hw, hw2]
  have hm : 0 < k → idx t.list_ ((k : Int) - 1) = t.list_[k - 1]? := fun h => by
   have : ((k : Int) - 1) = ((k - 1 : Nat) : Int) := by omega
   rw [this, idx_nat]
  obtain ⟨y, h1, h2⟩ := gsome (o := idx t.list_ ((k : Int) - 1)) (g := ((!tf (1 ≤ x.id ∧ x.id ≤ t.next - 1)) == false && decide ((k : Int) > 0) == true)) (fun h => by
   rw [hm (by simp at h; omega)]
   exact ⟨_, List.getElem?_eq_getElem (by omega)⟩)
  rw [h1]
  simp only [Option.bind_some, bindv, hw3]
  refine ⟨_, ?_, rfl⟩
  simp only [dec_tf, bif_or, bif_and, tf_not, tf_and, tf_or, ge_iff_le, gt_iff_lt] at h2 ⊢
  by_cases hk0 : 0 < k
  ·by_cases hr : 1 ≤ x.id ∧ x.id ≤ t.next - 1
   ·have hy : t.list_[k - 1]? = some y := by rw [← hm hk0]; exact h2 (by simp [tf_iff, tf_false, hr]; omega)
    have e3 : (∀ z, 0 < k → t.list_[k - 1]? = some z → z.id < x.id) ↔ y.id < x.id := by
     rw [hy]; exact ⟨fun h => h y hk0 rfl, fun h z _ hz => by cases hz; exact h⟩
    unfold TabLease
    rw [e3]
    cases x.queued <;> simp [tf_iff] <;> omega
   ·have : ¬ TabLease t k x := fun h => hr h.1
    simp [tf_iff, this, hr]
  ·have e3 : (∀ z, 0 < k → t.list_[k - 1]? = some z → z.id < x.id) ↔ True := ⟨fun _ => trivial, fun _ z h => absurd h hk0⟩
   unfold TabLease
   rw [e3]
   cases x.queued <;> simp [tf_iff] <;> omega
 ·simp only [g18_l0]
  rw [if_neg (by simp)]
end Go.Ev
namespace Go.Ev
theorem g18_eq (t : DTable) : g18 t = some (tf (TabOK t)) := by
 simp only [g18, g56_eq]
 obtain ⟨r, h1, h2⟩ := gsome (o := some (tf (1 ≤ t.next ∧ t.next ≤ 1000000))) (g := (decide (t.clock < 0) == false)) (fun _ => ⟨_, rfl⟩)
 rw [h1]
 simp only [Option.bind_some, bindv]
 by_cases hc : t.clock < 0
 ·rw [if_pos (by simp [hc])]
  exact tf_ext (by simp [TabOK]; omega)
 ·have hr : r = tf (1 ≤ t.next ∧ t.next ≤ 1000000) := by simpa [hc, eq_comm] using h2 (by simp [hc])
  subst hr
  by_cases hn : 1 ≤ t.next ∧ t.next ≤ 1000000
  ·by_cases hl : t.list_.length ≤ 40
   ·rw [if_neg (by simp [hc, tf_iff, hn]; omega), spec_loop t hn hl]
    by_cases h : ∀ k x, t.list_[k]? = some x → TabLease t k x
    ·rw [if_tf h]; exact tf_ext (by simp [TabOK, hn, hl]; exact ⟨by omega, h⟩)
    ·rw [if_tfn h]; exact tf_ext ⟨(fun hh => by cases hh), fun hh => absurd hh.2.2.2 h⟩
   ·rw [if_pos (by simp; right; omega)]
    exact tf_ext (by simp [TabOK, hl])
  ·rw [if_pos (by simp [tf_iff, tf_false, hn])]
   exact tf_ext (by simp [TabOK, hn])
theorem g60_eq (t : DTable) (hl : t.list_.length ≤ 1048576) : g60 t = some (t.list_.map DLease.id) := by
 have h := iter_upto (step := g60_l0 t) (fun k => ((t.list_.take k).map DLease.id, (k : Int))) t.list_.length (t.list_.map DLease.id) (fun k hk => by
  have hw3 : IntKind.i64.wrap ((k : Int) + 1) = ((k + 1 : Nat) : Int) := wr ⟨by omega, by omega⟩
  simp only [g60_l0]
  rw [if_pos (decide_eq_true (by omega)), idx_lt hk]
  simp only [Option.bind_some, hw3]
  rw [if_pos (by simp; omega), List.take_succ_eq_append_getElem hk, List.map_append]
  rfl) (by
  simp only [g60_l0]
  rw [if_neg (by simp), List.take_length])
 simp only [g60]
 rw [show ([] : List Int) = (t.list_.take 0).map DLease.id from rfl, show (0 : Int) = ((0 : Nat) : Int) from rfl, h]
 rfl
def Rising (l : List Int) (a b : Int) : Prop := ∀ k x, l[k]? = some x → (a ≤ x ∧ x ≤ b) ∧ ∀ y, 0 < k → l[k - 1]? = some y → y < x
theorem g59_eq (l : List Int) (a b : Int) (hl : l.length ≤ 1048576) : g59 l a b = some (tf (Rising l a b)) := by
 have h : iter (g59_l0 l a b) 0 = some (if tf (Rising l a b) = true then .inl () else .inr false) := by
  refine iter_all l _ (fun k hk _ => ?_) ?_
  ·have hw2 : IntKind.i64.wrap ((k : Int) - 1) = (k : Int) - 1 := wr ⟨by omega, by omega⟩
   have hw3 : IntKind.i64.wrap ((k : Int) + 1) = ((k + 1 : Nat) : Int) := wr ⟨by omega, by omega⟩
   simp only [g59_l0]
   rw [if_pos (decide_eq_true (by omega)), idx_lt hk]
   generalize hx : l[k] = x
   simp only [Option.bind_some, g63_eq, hw2]
   have hm : 0 < k → idx l ((k : Int) - 1) = l[k - 1]? := fun h => by
    have : ((k : Int) - 1) = ((k - 1 : Nat) : Int) := by omega
    rw [this, idx_nat]
   obtain ⟨y, h1, h2⟩ := gsome (o := idx l ((k : Int) - 1)) (g := ((!tf (a ≤ x ∧ x ≤ b)) == false && decide ((k : Int) > 0) == true)) (fun h => by
    rw [hm (by simp at h; omega)]
    exact ⟨_, List.getElem?_eq_getElem (by omega)⟩)
   rw [h1]
   simp only [Option.bind_some, bindv, hw3]
   refine ⟨_, ?_, rfl⟩
   by_cases hr : a ≤ x ∧ x ≤ b
   ·by_cases hk0 : 0 < k
    ·have hy : l[k - 1]? = some y := by rw [← hm hk0]; exact h2 (by simp [tf_iff, hr]; omega)
     have e3 : (∀ z, 0 < k → l[k - 1]? = some z → z < x) ↔ y < x := by
      rw [hy]; exact ⟨fun h => h y hk0 rfl, fun h z _ hz => by cases hz; exact h⟩
     rw [e3]
     simp [hr]; omega
    ·have e3 : (∀ z, 0 < k → l[k - 1]? = some z → z < x) ↔ True := ⟨fun _ => trivial, fun _ z h => absurd h hk0⟩
     rw [e3]
     simp [hr]; omega
   ·have : tf (a ≤ x ∧ x ≤ b) = false := tf_neg hr
    rw [this]; simp [hr]
  ·simp only [g59_l0]
   rw [if_neg (by simp)]
 simp only [g59, h, Option.bind_some]
 split
 ·rename_i e; split at e
  ·rename_i hh; rw [hh]
  ·cases e
 ·rename_i q e; split at e
  ·cases e
  ·rename_i hh; cases e; rw [Bool.not_eq_true] at hh; rw [hh]
theorem g108_eq (l : List DLease) (f : DLease → Option Bool) (p : DLease → Bool) (hf : ∀ x ∈ l, f x = some (p x)) (hl : l.length ≤ 1048576) : ∃ n : Int, g108 l f = some n ∧ (0 ≤ n ↔ ∃ x ∈ l, p x = true) := by
 have hh := iter_first (step := g108_l0 l f) (fun k => (k : Int)) l.length (fun k => ∀ h : k < l.length, p l[k] = false) (fun k => .inr (k : Int)) (.inl ()) (fun k hk _ ho => by
  simp only [g108_l0]
  rw [if_pos (decide_eq_true (by omega)), idx_lt hk]
  simp only [Option.bind_some, hf _ (List.getElem_mem hk), ho hk, wr (n := (k : Int) + 1) ⟨by omega, by omega⟩]
  rfl) (fun k hk _ ho => by
  have : p l[k] = true := Classical.byContradiction fun h => ho fun _ => by simpa using h
  simp only [g108_l0]
  rw [if_pos (decide_eq_true (by omega)), idx_lt hk]
  simp only [Option.bind_some, hf _ (List.getElem_mem hk), this]
  rfl) (fun _ => by
  simp only [g108_l0]
  rw [if_neg (by simp)])
 by_cases h : ∀ k, k < l.length → ∀ h : k < l.length, p l[k] = false
 ·refine ⟨-1, ?_, by simp; intro x hx; obtain ⟨k, hk, rfl⟩ := List.getElem_of_mem hx; exact h k hk hk⟩
  simp only [g108]
  rw [show (0 : Int) = ((0 : Nat) : Int) from rfl, hh.1 h]
  rfl
 ·obtain ⟨k, hk, hj, ho⟩ := least_of h
  refine ⟨k, ?_, ⟨fun _ => ⟨l[k], List.getElem_mem hk, Classical.byContradiction fun h => ho fun _ => by simpa using h⟩, fun _ => by omega⟩⟩
  simp only [g108]
  rw [show (0 : Int) = ((0 : Nat) : Int) from rfl, hh.2 k hk hj ho]
  rfl
theorem g61_eq (l : List DLease) (f : DLease → Option Bool) (p : DLease → Bool) (hf : ∀ x ∈ l, f x = some (p x)) (hl : l.length ≤ 1048576) : g61 l f = some (tf (∀ x ∈ l, p x = true)) := by
 obtain ⟨n, h1, h2⟩ := g108_eq l (fun z => g106 z f) (fun x => !p x) (fun x hx => by simp [g106, hf x hx]) hl
 simp only [g61, g105, h1, Option.bind_some]
 refine tf_ext ?_
 have : (0 ≤ n) ↔ ∃ x ∈ l, (!p x) = true := h2
 simp
 rw [← Int.not_le, this]
 simp
theorem g62_eq (x : DLease) (t : DTable) : g62 x t = some (tf ((0 ≤ x.until_ ∧ x.until_ ≤ x.cap) ∧ (x.queued = false → t.clock < x.until_))) := by
 simp only [g62, g63_eq, Option.bind_some, bindv]
 exact tf_ext (by cases x.queued <;> simp [tf_iff, bif_and])
theorem g20_eq (t : DTable) (hl : t.list_.length ≤ 1048576) (hn : I64 t.next) : g20 t = some (tf (TabOK t)) := by
 simp only [g20, g58_eq, g60_eq t hl]
 obtain ⟨r1, h1, k1⟩ := gsome (o := some (tf (1 ≤ t.next ∧ t.next ≤ 1000000))) (g := (decide (t.clock ≥ 0) == true)) (fun _ => ⟨_, rfl⟩)
 rw [h1]; simp only [Option.bind_some]
 generalize hg : (bif (bif decide (t.clock ≥ 0) then r1 else false) then decide ((t.list_.length : Int) ≤ 40) else false) = b
 have hb : b = true ↔ 0 ≤ t.clock ∧ (1 ≤ t.next ∧ t.next ≤ 1000000) ∧ t.list_.length ≤ 40 := by
  rw [← hg]
  by_cases hc : 0 ≤ t.clock
  ·have := k1 (by simp [hc]); simp only [Option.some.injEq] at this; rw [← this]; simp [hc]; omega
  ·simp [hc]
 obtain ⟨r3, h3, k3⟩ := gsome (o := some (t.list_.map DLease.id)) (g := b == true) (fun _ => ⟨_, rfl⟩)
 rw [h3]; simp only [Option.bind_some]
 obtain ⟨r5, h5, k5⟩ := gsome (o := g59 r3 1 (IntKind.i64.wrap (t.next - 1))) (g := b == true) (fun h => by
  have := k3 h; simp only [Option.some.injEq] at this; rw [← this]
  exact ⟨_, g59_eq _ _ _ (by simpa using hl)⟩)
 rw [h5]; simp only [Option.bind_some]
 obtain ⟨r7, h7, k7⟩ := gsome (o := g61 t.list_ (fun z => g62 z t)) (g := (bif b then r5 else false) == true) (fun h => ⟨_, g61_eq _ _ _ (fun x _ => g62_eq x t) hl⟩)
 rw [h7]; simp only [Option.bind_some, bindv]
 refine tf_ext ?_
 by_cases hbt : b = true
 ·have hbb := hb.1 hbt
  have hw : IntKind.i64.wrap (t.next - 1) = t.next - 1 := wr ⟨by omega, by omega⟩
  have e3 := k3 (by simp [hbt]); simp only [Option.some.injEq] at e3
  have e5 := k5 (by simp [hbt]); rw [← e3, g59_eq _ _ _ (by simpa using hl), hw] at e5; simp only [Option.some.injEq] at e5
  subst hbt
  simp only [cond_true] at k7 ⊢
  by_cases h5t : r5 = true
  ·have e7 := k7 (by simp [h5t]); rw [g61_eq _ _ _ (fun x _ => g62_eq x t) hl] at e7; simp only [Option.some.injEq] at e7
   rw [h5t, ← e7]
   rw [h5t, tf_iff] at e5
   simp only [cond_true, tf_iff, TabOK, hbb, true_and]
   constructor
   ·intro h k x hx
    have h1 := e5 k x.id (by simp [hx])
    have h2 := h x (List.mem_of_getElem? hx)
    exact ⟨h1.1, fun y hk hy => h1.2 y.id hk (by simp [hy]), h2.1.1, h2.1.2, h2.2⟩
   ·intro h x hx
    obtain ⟨k, hk, rfl⟩ := List.getElem_of_mem hx
    have := h k _ (List.getElem?_eq_getElem hk)
    exact ⟨⟨this.2.2.1, this.2.2.2.1⟩, this.2.2.2.2⟩
  ·simp only [Bool.not_eq_true] at h5t
   rw [h5t] at e5 ⊢
   rw [tf_false] at e5
   simp only [cond_false, Bool.false_eq_true, false_iff]
   intro h
   refine e5 fun k x hx => ?_
   simp only [List.getElem?_map, Option.map_eq_some_iff] at hx
   obtain ⟨z, hz, rfl⟩ := hx
   have := h.2.2.2 k z hz
   refine ⟨this.1, fun y hk hy => ?_⟩
   simp only [List.getElem?_map, Option.map_eq_some_iff] at hy
   obtain ⟨u, hu, rfl⟩ := hy
   exact this.2.1 u hk hu
 ·have hbf : b = false := by simpa using hbt
  subst hbf
  simp only [cond_false, Bool.false_eq_true, false_iff]
  intro h
  exact hbt (hb.2 ⟨h.1, h.2.1, h.2.2.1⟩)
theorem g107_eq (a b : DLease) : g107 a b = some (tf (a = b)) := by
 unfold g107
 obtain ⟨a1, a2, a3, a4⟩ := a
 obtain ⟨b1, b2, b3, b4⟩ := b
 by_cases h1 : a1 = b1 <;> by_cases h2 : a2 = b2 <;> by_cases h3 : a3 = b3 <;> by_cases h4 : a4 = b4 <;> simp [h1, h2, h3, h4, tf]
theorem g64_eq (a b : List DLease) (hl : a.length ≤ 1048576) : g64 a b = some (tf (a = b)) := by
 by_cases hlen : a.length = b.length
 ·have h : iter (g64_l0 a b) 0 = some (if tf (∀ (k : Nat) (x : DLease), a[k]? = some x → b[k]? = some x) = true then .inl () else .inr false) := by
   refine iter_all a _ (fun k hk _ => ?_) ?_
   ·have hw3 : IntKind.i64.wrap ((k : Int) + 1) = ((k + 1 : Nat) : Int) := wr ⟨by omega, by omega⟩
    simp only [g64_l0]
    rw [if_pos (decide_eq_true (by omega)), idx_lt hk, idx_lt (l := b) (k := k) (by omega)]
    simp only [Option.bind_some, g107_eq, hw3]
    refine ⟨_, ?_, rfl⟩
    rw [List.getElem?_eq_getElem (by omega)]
    simp only [tf_not, tf_iff, Option.some.injEq]
    exact not_congr eq_comm
   ·simp only [g64_l0]
    rw [if_neg (by simp)]
  have e : (∀ (k : Nat) (x : DLease), a[k]? = some x → b[k]? = some x) ↔ a = b := by
   constructor
   ·intro h
    apply List.ext_getElem hlen
    intro k h1 h2
    have := h k _ (List.getElem?_eq_getElem h1)
    rw [List.getElem?_eq_getElem h2] at this
    exact (Option.some.inj this).symm
   ·rintro rfl k x hx; exact hx
  rw [tf_congr e] at h
  simp only [g64]
  rw [if_neg (by simp [hlen]), h]
  by_cases hab : a = b
  ·rw [tf_pos hab]; rfl
  ·rw [tf_neg hab]; rfl
 ·simp only [g64]
  rw [if_pos (by simp; omega)]
  exact tf_ext (by simp; rintro rfl; exact hlen rfl)
theorem g21_eq (a b : DTable) (hl : a.list_.length ≤ 1048576) : g21 a b = some (tf (a = b)) := by
 simp only [g21, g64_eq _ _ hl]
 obtain ⟨a1, a2, a3⟩ := a
 obtain ⟨b1, b2, b3⟩ := b
 by_cases h1 : a1 = b1 <;> by_cases h2 : a2 = b2 <;> by_cases h3 : a3 = b3 <;> simp [h1, h2, h3, tf]
end Go.Ev
end
section
namespace Go.Ev
theorem iterI {σ ρ : Type} {step : σ → Option (σ ⊕ ρ)} (I : σ → Prop) (μ : σ → Nat) (R : ρ → Prop) (s0 : σ) (h0 : I s0)
  (h : ∀ s, I s → (∃ s', step s = some (.inl s') ∧ I s' ∧ μ s' < μ s) ∨ (∃ r, step s = some (.inr r) ∧ R r)) : ∃ r, iter step s0 = some r ∧ R r := by
 have key : ∀ (n : Nat) (s0 : σ), μ s0 < n → I s0 → ∃ r, iter step s0 = some r ∧ R r := by
  intro n
  induction n with
  | zero => intro s0 hn; omega
  | succ n ih =>
   intro s0 hn hI
   rcases h s0 hI with ⟨s', h1, h2, h3⟩ | ⟨r, h1, h2⟩
   ·obtain ⟨r, h4, h5⟩ := ih s' (by omega) h2
    exact ⟨r, by rw [iter_next h1, h4], h5⟩
   ·exact ⟨r, iter_end h1, h2⟩
 exact key (μ s0 + 1) s0 (by omega) h0
theorem w1 {k : Nat} (h : k < 4611686018427387904) : IntKind.i64.wrap ((k : Int) + 1) = ((k + 1 : Nat) : Int) := wr ⟨by omega, by omega⟩
theorem slcK {α : Type} (l : List α) (a b : Nat) (h : a ≤ b) (h2 : b ≤ l.length) : slc l (a : Int) (b : Int) = some ((l.take b).drop a) := by
 unfold slc
 rw [if_pos ⟨by omega, by omega, by omega⟩]
 simp
def firstOf {α : Type} (l : List α) (p : α → Bool) : Int := match l.findIdx? p with
 | some k => (k : Int)
 | none => -1
theorem index_loop {α : Type} (l : List α) (f : α → Option Bool) (p : α → Bool) (hf : ∀ x ∈ l, f x = some (p x)) (hl : l.length ≤ 4611686018427387903) {step : Int → Option (Int ⊕ (Unit ⊕ Int))}
  (hs : ∀ s, step s = if decide (s < (l.length : Int)) = true then (idx l s).bind fun y => (f y).bind fun r => if r = true then some (.inr (.inr s)) else some (.inl (IntKind.i64.wrap (s + 1))) else some (.inr (.inl ()))) :
  (iter step 0).bind (fun r => match r with | .inl () => some (-1) | .inr q => some q) = some (firstOf l p) := by
 have go : ∀ k (hk : k < l.length), p l[k] = false → step (k : Int) = some (.inl ((k + 1 : Nat) : Int)) := fun k hk hp => by
  rw [hs, if_pos (decide_eq_true (by omega)), idx_lt hk]
  simp [hf _ (List.getElem_mem hk), hp, w1 (show k < 4611686018427387904 by omega)]
 unfold firstOf
 cases hfi : l.findIdx? p with
 | none =>
  have hall : ∀ x ∈ l, p x = false := by simpa using List.findIdx?_eq_none_iff.1 hfi
  have := iter_upto (step := step) (fun k => (k : Int)) l.length (.inl ()) (fun k hk => go k hk (hall _ (List.getElem_mem hk))) (by rw [hs, if_neg (by simp)])
  rw [show (0 : Int) = ((0 : Nat) : Int) from rfl, this]
  rfl
 | some k =>
  obtain ⟨hk, hp, hj⟩ := List.findIdx?_eq_some_iff_getElem.1 hfi
  have := iter_run (step := step) (fun k => (k : Int)) k (fun j hj' => go j (by omega) (by simpa using hj j hj'))
  rw [show (0 : Int) = ((0 : Nat) : Int) from rfl, this, iter_end (r := .inr (k : Int)) (by
   rw [hs, if_pos (decide_eq_true (by omega)), idx_lt hk]
   simp [hf _ (List.getElem_mem hk), hp])]
  rfl
theorem firstOf_ge {α : Type} (l : List α) (p : α → Bool) : decide (firstOf l p ≥ 0) = l.any p := by
 unfold firstOf
 cases hfi : l.findIdx? p with
 | none =>
  have hall : ∀ x ∈ l, p x = false := by simpa using List.findIdx?_eq_none_iff.1 hfi
  rw [show l.any p = false from List.any_eq_false.2 fun x hx => by simp [hall x hx]]
  rfl
 | some k =>
  obtain ⟨hk, hp, hj⟩ := List.findIdx?_eq_some_iff_getElem.1 hfi
  rw [show l.any p = true from List.any_eq_true.2 ⟨_, List.getElem_mem hk, hp⟩]
  simp
theorem all_any {α : Type} (l : List α) (p : α → Bool) : (!l.any fun x => !p x) = l.all p := by
 induction l with
 | nil => rfl
 | cons x r ih => simp only [List.any_cons, List.all_cons, Bool.not_or, Bool.not_not, ih]
theorem to_loop {α β : Type} (l : List β) (F : β → α) (z : α) {step : List α × Int → Option ((List α × Int) ⊕ List α)}
  (hs : ∀ k (hk : k < l.length) (p : List α), p.length = l.length → step (p, (k : Int)) = some (.inl (p.set k (F l[k]), ((k + 1 : Nat) : Int)))) (he : ∀ p : List α, p.length = l.length → step (p, (l.length : Int)) = some (.inr p)) :
  iter step (List.replicate l.length z, 0) = some (l.map F) := by
 have h := iter_upto (step := step) (fun k => ((l.take k).map F ++ List.replicate (l.length - k) z, (k : Int))) l.length (l.map F) (fun k hk => by
  rw [hs k hk _ (by simp; omega)]
  congr 3
  rw [List.set_append, if_neg (by simp; omega), List.take_succ_eq_append_getElem hk, List.map_append, List.append_assoc]
  congr 1
  have e : l.length - k = (l.length - (k + 1)) + 1 := by omega
  have e2 : k - ((l.take k).map F).length = 0 := by simp; omega
  rw [e, List.replicate_succ, e2]
  rfl) (by
  rw [he _ (by simp)]
  simp)
 simpa using h
theorem same_loop {α : Type} (l : List α) {step : Int → Option (Int ⊕ (Unit ⊕ Bool))}
  (hs : ∀ k, k < l.length → step (k : Int) = some (.inl ((k + 1 : Nat) : Int))) (he : step (l.length : Int) = some (.inr (.inl ()))) : iter step 0 = some (.inl ()) :=
 iter_upto (step := step) (fun k => (k : Int)) l.length (.inl ()) hs he
def marked {α : Type} (mk : Int → α → α) (w : Nat) (l : List α) (a : Int) : List α := l.mapIdx fun i x => mk (a + (w : Int) * (i : Int)) x
@[simp] theorem marked_len {α : Type} (mk : Int → α → α) (w : Nat) (l : List α) (a : Int) : (marked mk w l a).length = l.length := by simp [marked]
theorem marked_get {α : Type} (mk : Int → α → α) (w : Nat) (l : List α) (a : Int) (k : Nat) (h : k < (marked mk w l a).length) :
  (marked mk w l a)[k] = mk (a + (w : Int) * (k : Int)) (l[k]'(by simpa using h)) := by simp [marked]
theorem mark_loop {α : Type} (mk : Int → α → α) (w : Nat) (l : List α) (a : Int) {step : List α × Int × Int → Option ((List α × Int × Int) ⊕ (List α × Int))}
  (hs : ∀ k (p : List α) (hp : p.length = l.length) (hk : k < l.length), step (p, a + (w : Int) * (k : Int), (k : Int)) = some (.inl (p.set k (mk (a + (w : Int) * (k : Int)) (p[k]'(by omega))), a + (w : Int) * ((k + 1 : Nat) : Int), ((k + 1 : Nat) : Int))))
  (he : ∀ (p : List α) c, p.length = l.length → step (p, c, (l.length : Int)) = some (.inr (p, c))) :
  iter step (l, a, 0) = some (marked mk w l a, a + (w : Int) * (l.length : Int)) := by
 have h := iter_upto (step := step) (fun k => (l.mapIdx (fun i x => if i < k then mk (a + (w : Int) * (i : Int)) x else x), a + (w : Int) * (k : Int), (k : Int))) l.length (marked mk w l a, a + (w : Int) * (l.length : Int)) (fun k hk => by
  rw [hs k _ (by simp) hk]
  congr 3
  apply List.ext_getElem
  ·simp
  ·intro j h1 h2
   simp only [List.length_set, List.length_mapIdx] at h1
   simp only [List.getElem_set, List.getElem_mapIdx]
   by_cases e : k = j
   ·subst e; simp
   ·rw [if_neg e]
    by_cases e2 : j < k
    ·simp [e2, show j < k + 1 by omega]
    ·simp [e2, show ¬ j < k + 1 by omega]) (by
  rw [he _ _ (by simp)]
  congr 3
  unfold marked
  apply List.ext_getElem
  ·simp
  ·intro j h1 h2
   simp only [List.length_mapIdx] at h1
   simp [h1])
 simp only [Nat.not_lt_zero, if_false] at h
 have e0 : l.mapIdx (fun (_ : Nat) (x : α) => x) = l := by
  apply List.ext_getElem
  ·simp
  ·intro j h1 h2; simp
 have h' : iter step (l.mapIdx (fun (_ : Nat) (x : α) => x), a + (w : Int) * ((0 : Nat) : Int), ((0 : Nat) : Int)) = some (marked mk w l a, a + (w : Int) * (l.length : Int)) := h
 rw [e0] at h'
 simpa using h'
theorem all_loop {n : Nat} (ok : Nat → Bool) {step : Int → Option (Int ⊕ (Unit ⊕ Bool))}
  (hs : ∀ k, k < n → (∀ j, j < k → ok j = true) → step (k : Int) = if (!ok k) = true then some (.inr (.inr false)) else some (.inl ((k + 1 : Nat) : Int))) (he : step (n : Int) = some (.inr (.inl ()))) :
  (iter step 0).bind (fun r => match r with | .inl () => some true | .inr q => some q) = some ((List.range n).all ok) := by
 by_cases h : ∀ k, k < n → ok k = true
 ·have := iter_upto (step := step) (fun k => (k : Int)) n (.inl ()) (fun k hk => by rw [hs k hk (fun j hj => h j (by omega)), h k hk]; rfl) he
  rw [show (0 : Int) = ((0 : Nat) : Int) from rfl, this]
  rw [show (List.range n).all ok = true from List.all_eq_true.2 fun x hx => h x (List.mem_range.1 hx)]
  rfl
 ·obtain ⟨k, hk, hj, hn⟩ := least_of h
  have hf : ok k = false := by simpa using hn
  have := iter_run (step := step) (fun k => (k : Int)) k (fun j hj' => by rw [hs j (by omega) (fun i hi => hj i (by omega)), hj j hj']; rfl)
  rw [show (0 : Int) = ((0 : Nat) : Int) from rfl, this, iter_end (r := .inr false) (by rw [hs k hk hj, hf]; rfl)]
  rw [show (List.range n).all ok = false from List.all_eq_false.2 ⟨k, List.mem_range.2 hk, by simp [hf]⟩]
  rfl
theorem byte_cases {P : UInt8 → Prop} (h : ∀ n : Fin 256, P (UInt8.ofNat n.val)) (y : UInt8) : P y := by
 have := h ⟨y.toNat, y.toNat_lt⟩
 simpa using this
end Go.Ev
end
section
set_option maxHeartbeats 1000000
namespace Go.Ev
theorem ints_self (l : List Int) (hl : l.length ≤ 1048576) : g36 l l = some true := by
 have h := same_loop l (step := g36_l0 l l) (fun k hk => by
  simp only [g36_l0]
  rw [if_pos (decide_eq_true (by omega)), idx_lt hk]
  simp only [Option.bind_some]
  rw [if_neg (by simp), w1 (show k < 4611686018427387904 by omega)]) (by
  simp only [g36_l0]
  rw [if_neg (by simp)])
 unfold g36
 rw [if_neg (by simp), h]
 rfl
theorem ints_mark (l : List Int) (a : Int) (ha : 0 ≤ a ∧ a ≤ 1099511627776) (hl : l.length ≤ 1048576) : g37 l a = some (a + (l.length : Int), marked (fun c _ => c) 1 l a) := by
 have h := mark_loop (fun c _ => c) 1 l a (step := g37_l0) (fun k p hp hk => by
  simp only [g37_l0]
  rw [if_pos (decide_eq_true (by omega)), idx_lt (l := p) (k := k) (by omega)]
  simp only [Option.bind_some, Int.toNat_natCast]
  rw [List.getElem?_eq_getElem (by omega)]
  have e1 : IntKind.i64.wrap (a + ((1 : Nat) : Int) * (k : Int) + 1) = a + ((1 : Nat) : Int) * ((k + 1 : Nat) : Int) := by rw [wr ⟨by omega, by omega⟩]; omega
  simp only [Option.bind_some, w1 (show k < 4611686018427387904 by omega), e1]) (fun p c hp => by
  simp only [g37_l0]
  rw [if_neg (by simp; omega)])
 simp only [g37, h, Option.bind_some]
 simp
theorem ints_held (l : List Int) (a : Int) (ha : 0 ≤ a ∧ a ≤ 1099511627776) (hl : l.length ≤ 1048576) : g38 (marked (fun c _ => c) 1 l a) a = some (a + (l.length : Int)) := by
 have h := iter_upto (step := g38_l0 (marked (fun c _ => c) 1 l a)) (fun k => (a + (k : Int), (k : Int))) l.length (.inl (a + (l.length : Int))) (fun k hk => by
  simp only [g38_l0]
  rw [if_pos (decide_eq_true (by simp; omega)), idx_lt (by simp; omega)]
  have e1 : IntKind.i64.wrap (a + (k : Int) + 1) = a + ((k + 1 : Nat) : Int) := by rw [wr ⟨by omega, by omega⟩]; omega
  simp only [Option.bind_some, w1 (show k < 4611686018427387904 by omega), e1, marked_get]
  rw [if_neg (by simp)]) (by
  simp only [g38_l0]
  rw [if_neg (by simp)])
 have h' : iter (g38_l0 (marked (fun c _ => c) 1 l a)) (a, 0) = some (.inl (a + (l.length : Int))) := by
  rw [show a + ((0 : Nat) : Int) = a by simp] at h; exact h
 simp only [g38, h', Option.bind_some]
theorem ints_to (l : List Int) (hl : l.length ≤ 1048576) : g43 l = some l := by
 have h := to_loop l (fun x => x) 0 (step := g43_l0 l) (fun k hk p hp => by
  simp only [g43_l0]
  rw [if_pos (decide_eq_true (by omega)), idx_lt hk]
  simp only [Option.bind_some]
  rw [idx_lt (l := p) (k := k) (by omega)]
  simp only [Option.bind_some, Int.toNat_natCast, w1 (show k < 4611686018427387904 by omega)]
  rw [List.getElem?_eq_getElem (by omega)]
  rfl) (fun p hp => by
  simp only [g43_l0]
  rw [if_neg (by simp)])
 simp only [List.map_id'] at h
 unfold g43
 rw [if_pos (by omega), if_pos (by omega), Int.toNat_natCast]
 simp only [h, Option.bind_some]
theorem Rising.lt {l : List Int} {a b : Int} (h : Rising l a b) {i j : Nat} (hj : j < l.length) (hij : i < j) : l[i] < l[j] := by
 induction j with
 | zero => omega
 | succ j ih =>
  have h1 := (h (j + 1) l[j + 1] (List.getElem?_eq_getElem hj)).2 l[j] (by omega) (List.getElem?_eq_getElem (by omega))
  by_cases e : i = j
  ·subst e; exact h1
  ·have := ih (by omega) (by omega); omega
theorem g85_eq (l : List Int) (a : Int) (ha : I64 (a - 1)) (hl : l.length ≤ 1048576) : g85 l a = some (tf (Rising l 1 (a - 1))) := by
 have h : iter (g85_l0 l a) 0 = some (if tf (Rising l 1 (a - 1)) = true then .inl () else .inr false) := by
  refine iter_all l _ (fun k hk _ => ?_) ?_
  ·have hw2 : IntKind.i64.wrap ((k : Int) - 1) = (k : Int) - 1 := wr ⟨by omega, by omega⟩
   have hw3 : IntKind.i64.wrap ((k : Int) + 1) = ((k + 1 : Nat) : Int) := wr ⟨by omega, by omega⟩
   simp only [g85_l0]
   rw [if_pos (decide_eq_true (by omega)), idx_lt hk, wr ha]
   generalize hx : l[k] = x
   simp only [Option.bind_some, g56_eq, hw2]
   have hm : 0 < k → idx l ((k : Int) - 1) = l[k - 1]? := fun h => by
    have : ((k : Int) - 1) = ((k - 1 : Nat) : Int) := by omega
    rw [this, idx_nat]
   obtain ⟨y, h1, h2⟩ := gsome (o := idx l ((k : Int) - 1)) (g := ((!tf (1 ≤ x ∧ x ≤ a - 1)) == false && decide ((k : Int) > 0) == true)) (fun h => by
    rw [hm (by simp at h; omega)]
    exact ⟨_, List.getElem?_eq_getElem (by omega)⟩)
   have hx' : idx l (k : Int) = some x := by rw [idx_lt hk, hx]
   obtain ⟨z, h3, h4⟩ := gsome (o := some x) (g := ((!tf (1 ≤ x ∧ x ≤ a - 1)) == false && decide ((k : Int) > 0) == true)) (fun h => ⟨_, rfl⟩)
   rw [h1]
   simp only [Option.bind_some, hx', h3, bindv, hw3]
   refine ⟨_, ?_, rfl⟩
   by_cases hr : 1 ≤ x ∧ x ≤ a - 1
   ·by_cases hk0 : 0 < k
    ·have hg : ((!tf (1 ≤ x ∧ x ≤ a - 1)) == false && decide ((k : Int) > 0) == true) = true := by simp [tf_iff, hr]; omega
     have hy : l[k - 1]? = some y := by rw [← hm hk0]; exact h2 hg
     have hz : x = z := Option.some.inj (h4 hg)
     subst hz
     have e3 : (∀ z, 0 < k → l[k - 1]? = some z → z < x) ↔ y < x := by
      rw [hy]; exact ⟨fun h => h y hk0 rfl, fun h z _ hz => by cases hz; exact h⟩
     rw [e3]
     simp [hr]; omega
    ·have e3 : (∀ z, 0 < k → l[k - 1]? = some z → z < x) ↔ True := ⟨fun _ => trivial, fun _ z h => absurd h hk0⟩
     rw [e3]
     simp [hr]; omega
   ·have : tf (1 ≤ x ∧ x ≤ a - 1) = false := tf_neg hr
    rw [this]; simp [hr]
  ·simp only [g85_l0]
   rw [if_neg (by simp)]
 simp only [g85, h, Option.bind_some]
 split
 ·rename_i e; split at e
  ·rename_i hh; rw [hh]
  ·cases e
 ·rename_i q e; split at e
  ·cases e
  ·rename_i hh; cases e; simp only [Bool.not_eq_true] at hh; rw [hh]
end Go.Ev
end
section
namespace Go.Ev
theorem g110_eq (a b : Int) : g110 a b = some (if a < b then -1 else if b < a then 1 else 0) := by
 simp only [g110, g136, Option.bind_some]
 simp
 split
 ·rfl
 ·split <;> rfl
theorem TabOK.lt {t : DTable} (h : TabOK t) {i j : Nat} (hj : j < t.list_.length) (hij : i < j) : (t.list_[i]'(by omega)).id < t.list_[j].id := by
 induction j with
 | zero => omega
 | succ j ih =>
  have h1 := (h.2.2.2 (j + 1) _ (List.getElem?_eq_getElem hj)).2.1 t.list_[j] (by omega) (by simp [List.getElem?_eq_getElem (show j < t.list_.length by omega)])
  by_cases e : i = j
  ·subst e; exact h1
  ·have := ih (by omega) (by omega); omega
def marks (n : Nat) (a : Int) : List DLease := (List.range n).map fun (k : Nat) => DLease.mk (a + 4 * k) (a + 4 * k + 1) (a + 4 * k + 2) ((a + 4 * k + 3).tmod 3 == 0)
theorem marks_len (n : Nat) (a : Int) : (marks n a).length = n := by simp [marks]
theorem marks_get (n : Nat) (a : Int) (k : Nat) (h : k < (marks n a).length) : (marks n a)[k] = DLease.mk (a + 4 * k) (a + 4 * k + 1) (a + 4 * k + 2) ((a + 4 * k + 3).tmod 3 == 0) := by simp [marks]
theorem g72_eq (l : List DLease) (hl : l.length ≤ 1048576) : g72 l 1 = some (1 + 4 * (l.length : Int), marks l.length 1) := by
 have hml : (marks l.length 1).length = l.length := marks_len _ _
 have h := iter_upto (step := g72_l0) (fun k => ((marks l.length 1).take k ++ l.drop k, 1 + 4 * (k : Int), (k : Int))) l.length (marks l.length 1, 1 + 4 * (l.length : Int)) (fun k hk => by
  have hlen : ((marks l.length 1).take k ++ l.drop k).length = l.length := by simp [hml]; omega
  generalize hrow : (marks l.length 1).take k ++ l.drop k = row at hlen ⊢
  have hkr : k < row.length := by omega
  have w1 : IntKind.i64.wrap (1 + 4 * (k : Int) + 1) = 1 + 4 * (k : Int) + 1 := wr ⟨by omega, by omega⟩
  have w2 : IntKind.i64.wrap (1 + 4 * (k : Int) + 1 + 1) = 1 + 4 * (k : Int) + 2 := by rw [wr ⟨by omega, by omega⟩]; omega
  have w3 : IntKind.i64.wrap (1 + 4 * (k : Int) + 2 + 1) = 1 + 4 * (k : Int) + 3 := by rw [wr ⟨by omega, by omega⟩]; omega
  have w4 : IntKind.i64.wrap (1 + 4 * (k : Int) + 3 + 1) = 1 + 4 * ((k + 1 : Nat) : Int) := by rw [wr ⟨by omega, by omega⟩]; omega
  have w5 : IntKind.i64.wrap ((k : Int) + 1) = ((k + 1 : Nat) : Int) := wr ⟨by omega, by omega⟩
  simp only [g72_l0]
  rw [if_pos (decide_eq_true (by omega))]
  have hi : ∀ r : List DLease, r.length = row.length → idx r (k : Int) = some (r[k]?.getD default) ∧ r[k]? = some (r[k]?.getD default) := fun r hr => by
   rw [idx_nat, List.getElem?_eq_getElem (by omega)]; exact ⟨rfl, rfl⟩
  rw [(hi row rfl).1]
  simp only [Option.bind_some, Int.toNat_natCast, bindv, w1, w2, w3, w4, w5]
  rw [(hi row rfl).2]
  simp only [Option.bind_some, List.set_set]
  have hs : ∀ x : DLease, (row.set k x)[k]? = some x := fun x => by rw [List.getElem?_set_self (by omega)]
  have hs' : ∀ x : DLease, idx (row.set k x) (k : Int) = some x := fun x => by rw [idx_nat, hs]
  simp only [hs, hs', Option.bind_some, List.set_set]
  congr 3
  rw [← hrow, List.set_append, if_neg (by simp [hml]; omega), List.take_succ_eq_append_getElem (by omega), marks_get, List.append_assoc]
  congr 1
  have e : k - (List.take k (marks l.length 1)).length = 0 := by simp [hml]; omega
  rw [e, List.drop_eq_getElem_cons hk]
  rfl) (by
  simp only [g72_l0]
  rw [if_neg (by simp [hml])]
  simp only [List.drop_length, List.append_nil]
  rw [List.take_of_length_le (by omega)])
 simp only [List.take_zero, List.nil_append, List.drop_zero] at h
 simp only [g72]
 have h' : iter g72_l0 (l, 1, 0) = some (marks l.length 1, 1 + 4 * (l.length : Int)) := h
 rw [h']
 rfl
theorem g73_eq (n : Nat) (hn : n ≤ 1048576) : g73 (marks n 1) 1 = some (1 + 4 * (n : Int)) := by
 have hml : (marks n 1).length = n := marks_len _ _
 have h := iter_upto (step := g73_l0 (marks n 1)) (fun k => (1 + 4 * (k : Int), (k : Int))) n (.inl (1 + 4 * (n : Int))) (fun k hk => by
  have w1 : IntKind.i64.wrap (1 + 4 * (k : Int) + 1) = 1 + 4 * (k : Int) + 1 := wr ⟨by omega, by omega⟩
  have w2 : IntKind.i64.wrap (1 + 4 * (k : Int) + 1 + 1) = 1 + 4 * (k : Int) + 2 := by rw [wr ⟨by omega, by omega⟩]; omega
  have w3 : IntKind.i64.wrap (1 + 4 * (k : Int) + 2 + 1) = 1 + 4 * (k : Int) + 3 := by rw [wr ⟨by omega, by omega⟩]; omega
  have w4 : IntKind.i64.wrap (1 + 4 * (k : Int) + 3 + 1) = 1 + 4 * ((k + 1 : Nat) : Int) := by rw [wr ⟨by omega, by omega⟩]; omega
  have w5 : IntKind.i64.wrap ((k : Int) + 1) = ((k + 1 : Nat) : Int) := wr ⟨by omega, by omega⟩
  simp only [g73_l0]
  rw [if_pos (decide_eq_true (by omega)), idx_lt (by omega)]
  simp only [Option.bind_some, bindv, w1, w2, w3, w4, w5, marks_get]
  simp) (by
  simp only [g73_l0]
  rw [if_neg (by simp [hml])])
 simp only [g73]
 have h' : iter (g73_l0 (marks n 1)) (1, 0) = some (.inl (1 + 4 * (n : Int))) := h
 rw [h']
 rfl
theorem g26_eq (t : DTable) (hl : t.list_.length ≤ 1048576) : g26 t 1 = some (1 + 4 * (t.list_.length : Int), marks t.list_.length 1) := by
 simp [g26, g72_eq _ hl, marks_len]
theorem g27_eq (c n : Int) (k : Nat) (hk : k ≤ 1048576) : g27 (DTable.mk c n (marks k 1)) 1 = some (1 + 4 * (k : Int)) := by
 simp only [g27, g73_eq k hk, Option.bind_some]
 rw [if_neg (by simp; omega)]
end Go.Ev
end
section
namespace Go.Ev
theorem iter_inv {σ ρ : Type} {step : σ → Option (σ ⊕ ρ)} (I : σ → Prop) (μ : σ → Nat) (R : ρ → Prop)
  (h : ∀ s, I s → (∃ s', step s = some (.inl s') ∧ I s' ∧ μ s' < μ s) ∨ (∃ r, step s = some (.inr r) ∧ R r)) : ∀ (n : Nat) (s0 : σ), μ s0 < n → I s0 → ∃ r, iter step s0 = some r ∧ R r := by
 intro n
 induction n with
 | zero => intro s0 hn; omega
 | succ n ih =>
  intro s0 hn hI
  rcases h s0 hI with ⟨s', h1, h2, h3⟩ | ⟨r, h1, h2⟩
  ·obtain ⟨r, h4, h5⟩ := ih s' (by omega) h2
   exact ⟨r, by rw [iter_next h1, h4], h5⟩
  ·exact ⟨r, iter_end h1, h2⟩
theorem iter_inv' {σ ρ : Type} {step : σ → Option (σ ⊕ ρ)} (I : σ → Prop) (μ : σ → Nat) (R : ρ → Prop) (s0 : σ) (h0 : I s0)
  (h : ∀ s, I s → (∃ s', step s = some (.inl s') ∧ I s' ∧ μ s' < μ s) ∨ (∃ r, step s = some (.inr r) ∧ R r)) : ∃ r, iter step s0 = some r ∧ R r :=
 iter_inv I μ R h (μ s0 + 1) s0 (by omega) h0
def FoundAt (l : List DLease) (x n : Int) : Prop := (n = -1 ∧ ∀ y ∈ l, y.id ≠ x) ∨ ∃ k, ∃ h : k < l.length, n = (k : Int) ∧ l[k].id = x
theorem g92_eq (t : DTable) (x : Int) (hl : t.list_.length ≤ 1048576) : ∃ n, g92 t x = some n ∧ FoundAt t.list_ x n := by
 obtain ⟨r, h1, h2⟩ := iter_inv' (step := g92_l0 t x) (fun s => ∃ k : Nat, s = (k : Int) ∧ k ≤ t.list_.length ∧ ∀ j, ∀ h : j < t.list_.length, j < k → t.list_[j].id ≠ x) (fun s => (t.list_.length - s).toNat)
  (fun r => (r = .inl () ∧ ∀ y ∈ t.list_, y.id ≠ x) ∨ ∃ n, r = .inr n ∧ FoundAt t.list_ x n) 0 ⟨0, rfl, by omega, by intros; omega⟩ (by
   rintro _ ⟨k, rfl, hk, hj⟩
   simp only [g92_l0]
   by_cases hlt : k < t.list_.length
   ·rw [if_pos (decide_eq_true (by omega)), idx_lt hlt]
    simp only [Option.bind_some, wr (n := (k : Int) + 1) ⟨by omega, by omega⟩]
    by_cases hp : t.list_[k].id = x
    ·rw [if_pos (by simp [hp])]
     exact .inr ⟨_, rfl, .inr ⟨_, rfl, .inr ⟨k, hlt, rfl, hp⟩⟩⟩
    ·rw [if_neg (by simp [hp])]
     refine .inl ⟨_, rfl, ⟨k + 1, rfl, by omega, fun j h hj2 => ?_⟩, by omega⟩
     by_cases e : j = k
     ·subst e; exact hp
     ·exact hj j h (by omega)
   ·rw [if_neg (by simp; omega)]
    refine .inr ⟨_, rfl, .inl ⟨rfl, fun y hy => ?_⟩⟩
    obtain ⟨j, hj1, rfl⟩ := List.getElem_of_mem hy
    exact hj j hj1 (by omega))
 simp only [g92, h1, Option.bind_some]
 rcases h2 with ⟨rfl, h2⟩ | ⟨n, rfl, h2⟩
 ·exact ⟨-1, rfl, .inl ⟨rfl, h2⟩⟩
 ·exact ⟨n, rfl, h2⟩
theorem half (a : Nat) (h : a ≤ 4194304) : IntKind.i64.wrap (ishr .u64 (IntKind.u64.wrap (IntKind.i64.wrap (a : Int))) 1) = ((a / 2 : Nat) : Int) := by
 have h1 : IntKind.u64.wrap (a : Int) = a := by
  have e : IntKind.u64.wrap (a : Int) = (a : Int) % 18446744073709551616 := by simp [IntKind.wrap, IntKind.bits, IntKind.signed]
  rw [e]; omega
 have h2 : (2 : Int) ^ min (1 : Int).toNat 64 = 2 := by decide
 rw [wr (n := (a : Int)) ⟨by omega, by omega⟩, h1]
 simp only [ishr, h2]
 rw [Int.fdiv_eq_ediv_of_nonneg _ (by omega), wr ⟨by omega, by omega⟩]
 omega
theorem g114_eq (x : DLease) (a : Int) : g114 x a = some (if x.id < a then -1 else if a < x.id then 1 else 0) := by simp [g114, g110_eq]
theorem g77_eq (t : DTable) (h : TabOK t) (x n : Int) (hn : FoundAt t.list_ x n) : ∃ i b, g77 t x = some (i, b) ∧ (b = true → i = n ∧ 0 ≤ n) ∧ (b = false → n = -1) := by
 have hl := h.2.2.1
 obtain ⟨r, h1, h2⟩ := iter_inv' (step := g113_l0 t.list_ x (fun a b => g114 a b)) (fun s => ∃ i j : Nat, s = ((i : Int), (j : Int)) ∧ i ≤ j ∧ j ≤ t.list_.length ∧ (∀ k, ∀ h : k < t.list_.length, k < i → t.list_[k].id < x) ∧ ∀ k, ∀ h : k < t.list_.length, j ≤ k → x ≤ t.list_[k].id)
  (fun s => (s.2 - s.1).toNat) (fun r => ∃ i : Nat, r = i ∧ i ≤ t.list_.length ∧ (∀ k, ∀ h : k < t.list_.length, k < i → t.list_[k].id < x) ∧ ∀ k, ∀ h : k < t.list_.length, i ≤ k → x ≤ t.list_[k].id) (0, (t.list_.length : Int))
  ⟨0, t.list_.length, rfl, by omega, by omega, by intros; omega, by intros; omega⟩ (by
   rintro _ ⟨i, j, rfl, hij, hj, ha, hb⟩
   simp only [g113_l0]
   by_cases hlt : i < j
   ·have e : (i : Int) + (j : Int) = ((i + j : Nat) : Int) := by omega
    rw [if_pos (decide_eq_true (by omega)), e, half _ (by omega)]
    have hm : (i + j) / 2 < t.list_.length := by omega
    simp only [bindv, idx_lt hm, Option.bind_some, g114_eq]
    have hw : IntKind.i64.wrap (((i + j) / 2 : Nat) + 1 : Int) = (((i + j) / 2 + 1 : Nat) : Int) := wr ⟨by omega, by omega⟩
    rw [hw]
    left
    by_cases hc : t.list_[(i + j) / 2].id < x
    ·rw [if_pos hc, if_pos (by decide)]
     refine ⟨_, rfl, ⟨_, j, rfl, by omega, hj, fun k hk hki => ?_, hb⟩, by simp only; omega⟩
     by_cases e : k = (i + j) / 2
     ·subst e; exact hc
     ·have := h.lt hm (show k < (i + j) / 2 by omega); omega
    ·have : ¬ (if t.list_[(i + j) / 2].id < x then (-1 : Int) else if x < t.list_[(i + j) / 2].id then 1 else 0) < 0 := by
      rw [if_neg hc]; split <;> omega
     rw [if_neg (by simpa using this)]
     refine ⟨_, rfl, ⟨i, _, rfl, by omega, by omega, ha, fun k hk hki => ?_⟩, by simp only; omega⟩
     by_cases e : k = (i + j) / 2
     ·subst e; omega
     ·have := h.lt hk (show (i + j) / 2 < k by omega); omega
   ·rw [if_neg (by simp; omega)]
    exact .inr ⟨_, rfl, i, rfl, by omega, ha, fun k hk hki => hb k hk (by omega)⟩)
 obtain ⟨i, rfl, hi, ha, hb⟩ := h2
 simp only [g77, g113, h1, Option.bind_some]
 by_cases hlt : i < t.list_.length
 ·have hd : (decide ((i : Int) < (t.list_.length : Int)) == true) = true := by simp; omega
  simp only [hd, if_true, idx_lt hlt, Option.bind_some, g114_eq]
  refine ⟨_, _, rfl, ?_, ?_⟩
  ·intro hh
   have hx : t.list_[i].id = x := by
    have := hb i hlt (by omega)
    rw [decide_eq_true (by omega)] at hh
    simp at hh
    split at hh
    ·omega
    ·split at hh <;> omega
   rcases hn with ⟨rfl, hn⟩ | ⟨k, hk, rfl, hkx⟩
   ·exact absurd hx (hn _ (List.getElem_mem _))
   ·by_cases e : k = i
    ·subst e; exact ⟨rfl, by omega⟩
    ·by_cases e2 : k < i
     ·have := ha k hk e2; omega
     ·have := h.lt hk (show i < k by omega); omega
  ·intro hh
   rcases hn with ⟨rfl, hn⟩ | ⟨k, hk, rfl, hkx⟩
   ·rfl
   ·exfalso
    have hne : t.list_[i].id ≠ x := fun e => by
     rw [decide_eq_true (by omega), e] at hh
     simp at hh
    have := hb i hlt (by omega)
    by_cases e : k = i
    ·subst e; exact hne hkx
    ·by_cases e2 : k < i
     ·have := ha k hk e2; omega
     ·have := h.lt hk (show i < k by omega); omega
 ·have hd : ¬ (decide ((i : Int) < (t.list_.length : Int)) == true) = true := by simp; omega
  simp only [hd, if_false, Option.bind_some]
  refine ⟨_, _, rfl, ?_, ?_⟩
  ·rw [decide_eq_false (by omega)]; intro hh; cases hh
  ·intro _
   rcases hn with ⟨rfl, hn⟩ | ⟨k, hk, rfl, hkx⟩
   ·rfl
   ·have := ha k hk (by omega); omega
end Go.Ev
end
section
namespace Go.Ev
theorem g127_eq (l : List Int) (f : Int → Option Bool) (p : Int → Bool) (hf : ∀ x ∈ l, f x = some (p x)) (hl : l.length ≤ 4611686018427387903) : g127 l f = some (firstOf l p) := index_loop l f p hf hl (fun _ => rfl)
theorem g129_eq (l : List Int) (f : Int → Option Bool) (p : Int → Bool) (hf : ∀ x ∈ l, f x = some (p x)) (hl : l.length ≤ 4611686018427387903) : g129 l f = some (l.any p) := by
 unfold g129; rw [g127_eq l f p hf hl]; simp only [Option.bind_some, firstOf_ge]
theorem g97_eq (l : List Int) (f : Int → Option Bool) (p : Int → Bool) (hf : ∀ x ∈ l, f x = some (p x)) (hl : l.length ≤ 4611686018427387903) : g97 l f = some (l.all p) := by
 unfold g97; rw [g129_eq l _ (fun x => !p x) (fun x hx => by simp [g130, hf x hx]) hl]; simp only [Option.bind_some, all_any]
theorem g131_refl (a : DIntent) : g131 a a = some true := by simp [g131]
theorem g99_refl (l : List DIntent) (hl : l.length ≤ 1048576) (hE : ∀ x ∈ l, g131 x x = some true) : g99 l l = some true := by
 have h := same_loop l (step := g99_l0 l l) (fun k hk => by
  simp only [g99_l0]
  rw [if_pos (decide_eq_true (by omega)), idx_lt hk]
  simp [w1 (show k < 4611686018427387904 by omega), hE _ (List.getElem_mem hk)]) (by
  simp only [g99_l0]
  rw [if_neg (by simp)])
 unfold g99
 rw [if_neg (by simp), h]
 rfl
end Go.Ev
end
section
set_option maxHeartbeats 1000000
namespace Go.Ev
abbrev NotIn (t : DTable) (x : Int) : Prop := ∀ y ∈ t.list_, y.id ≠ x
abbrev NotOf (l : List DIntent) (x : Int) : Prop := ∀ y ∈ l, y.lease ≠ x
theorem found_neg {l : List DLease} {x n : Int} (h : FoundAt l x n) : n < 0 ↔ ∀ y ∈ l, y.id ≠ x := by
 rcases h with ⟨rfl, h⟩ | ⟨k, hk, rfl, h⟩
 ·exact ⟨fun _ => h, fun _ => by omega⟩
 ·exact ⟨fun hh => by omega, fun hh => absurd h (hh _ (List.getElem_mem hk))⟩
theorem find_spec (t : DTable) (x : Int) (hl : t.list_.length ≤ 1048576) : ∃ n, g92 t x = some n ∧ decide (n < 0) = tf (NotIn t x) ∧ decide (n ≥ 0) = !tf (NotIn t x) := by
 obtain ⟨n, h1, h2⟩ := g92_eq t x hl
 have h3 := found_neg h2
 refine ⟨n, h1, ?_, ?_⟩
 ·rw [dec_tf]; exact tf_congr h3
 ·rw [dec_tf, tf_not]
  refine tf_congr ⟨fun h hh => ?_, fun h => Classical.byContradiction fun hh => h (h3.1 (by omega))⟩
  have := h3.2 hh
  omega
theorem find_impl (t : DTable) (h : TabOK t) (x : Int) : ∃ i b, g77 t x = some (i, b) ∧ (!b) = tf (NotIn t x) := by
 obtain ⟨n, _, h2⟩ := g92_eq t x (by have := h.2.2.1; omega)
 obtain ⟨i, b, e1, e2, e3⟩ := g77_eq t h x n h2
 have h3 := found_neg h2
 refine ⟨i, b, e1, ?_⟩
 cases b with
 | true =>
  have := (e2 rfl).2
  exact (tf_neg fun hh => by have := h3.2 hh; omega).symm
 | false =>
  have := e3 rfl
  exact (tf_pos (h3.1 (by omega))).symm
theorem intent_spec (v : DVault) (x : Int) (hl : v.intents.length ≤ 1048576) : ∃ n, g124 v x = some n ∧ decide (n < 0) = tf (NotOf v.intents x) := by
 obtain ⟨r, h1, h2⟩ := iterI (step := g124_l0 v x) (fun s => ∃ k : Nat, s = (k : Int) ∧ k ≤ v.intents.length ∧ ∀ j, ∀ h : j < v.intents.length, j < k → v.intents[j].lease ≠ x) (fun s => (v.intents.length - s).toNat)
  (fun r => (r = .inl () ∧ NotOf v.intents x) ∨ ∃ n : Nat, r = .inr (n : Int) ∧ ¬ NotOf v.intents x) 0 ⟨0, rfl, by omega, by intros; omega⟩ (by
   rintro _ ⟨k, rfl, hk, hj⟩
   simp only [g124_l0]
   by_cases hlt : k < v.intents.length
   ·rw [if_pos (decide_eq_true (by omega)), idx_lt hlt]
    simp only [Option.bind_some, w1 (show k < 4611686018427387904 by omega)]
    by_cases hp : v.intents[k].lease = x
    ·rw [if_pos (by simp [hp])]
     exact .inr ⟨_, rfl, .inr ⟨k, rfl, fun hh => hh _ (List.getElem_mem hlt) hp⟩⟩
    ·rw [if_neg (by simp [hp])]
     refine .inl ⟨_, rfl, ⟨k + 1, rfl, by omega, fun j h hj2 => ?_⟩, by omega⟩
     by_cases e : j = k
     ·subst e; exact hp
     ·exact hj j h (by omega)
   ·rw [if_neg (by simp; omega)]
    refine .inr ⟨_, rfl, .inl ⟨rfl, fun y hy => ?_⟩⟩
    obtain ⟨j, hj1, rfl⟩ := List.getElem_of_mem hy
    exact hj j hj1 (by omega))
 simp only [g124, h1, Option.bind_some]
 rcases h2 with ⟨rfl, h2⟩ | ⟨n, rfl, h2⟩
 ·exact ⟨-1, rfl, by rw [tf_pos h2]; decide⟩
 ·exact ⟨n, rfl, by rw [tf_neg h2]; simp⟩
theorem leases_eq (l : List DIntent) (hl : l.length ≤ 1048576) : g95 l = some (l.map DIntent.lease) := by
 have h := iter_upto (step := g95_l0 l) (fun k => ((l.take k).map DIntent.lease, (k : Int))) l.length (l.map DIntent.lease) (fun k hk => by
  simp only [g95_l0]
  rw [if_pos (decide_eq_true (by omega)), idx_lt hk]
  simp only [Option.bind_some, w1 (show k < 4611686018427387904 by omega)]
  rw [if_pos (by simp; omega), List.take_succ_eq_append_getElem hk, List.map_append]
  rfl) (by
  simp only [g95_l0]
  rw [if_neg (by simp), List.take_length])
 simp only [g95]
 rw [show (([] : List Int), (0 : Int)) = ((l.take 0).map DIntent.lease, ((0 : Nat) : Int)) from rfl, h]
 rfl
theorem concat_two (a b : List Int) (ha : a.length ≤ 1048576) (hb : b.length ≤ 1048576) : g126 [a, b] = some (a ++ b) := by
 have wa : IntKind.i64.wrap (0 + (a.length : Int)) = (a.length : Int) := by rw [wr ⟨by omega, by omega⟩]; omega
 have wb : IntKind.i64.wrap ((a.length : Int) + (b.length : Int)) = (a.length : Int) + (b.length : Int) := wr ⟨by omega, by omega⟩
 have k1 : IntKind.i64.wrap ((0 : Int) + 1) = 1 := by decide
 have k2 : IntKind.i64.wrap ((1 : Int) + 1) = 2 := by decide
 have s0 : g126_l0 [a, b] (0, 0) = some (.inl ((a.length : Int), 1)) := by
  simp only [g126_l0, g126_j0]
  rw [if_pos (by simp), show idx [a, b] (0 : Int) = some a from rfl]
  simp only [Option.bind_some, wa, k1]
  rw [if_neg (by simp)]
 have s1 : g126_l0 [a, b] ((a.length : Int), 1) = some (.inl ((a.length : Int) + (b.length : Int), 2)) := by
  simp only [g126_l0, g126_j0]
  rw [if_pos (by simp), show idx [a, b] (1 : Int) = some b from rfl]
  simp only [Option.bind_some, wb, k2]
  rw [if_neg (by simp; omega)]
 have s2 : g126_l0 [a, b] ((a.length : Int) + (b.length : Int), 2) = some (.inr ((a.length : Int) + (b.length : Int))) := by
  simp only [g126_l0]
  rw [if_neg (by simp)]
 have u0 : g126_l1 [a, b] ([], 0) = some (.inl (a, 1)) := by
  simp only [g126_l1]
  rw [if_pos (by simp), show idx [a, b] (0 : Int) = some a from rfl]
  simp only [Option.bind_some, k1, List.nil_append]
  rw [if_pos (by simp; omega)]
 have u1 : g126_l1 [a, b] (a, 1) = some (.inl (a ++ b, 2)) := by
  simp only [g126_l1]
  rw [if_pos (by simp), show idx [a, b] (1 : Int) = some b from rfl]
  simp only [Option.bind_some, k2]
  rw [if_pos (by omega)]
 have u2 : g126_l1 [a, b] (a ++ b, 2) = some (.inr (a ++ b)) := by
  simp only [g126_l1]
  rw [if_neg (by simp)]
 have hg : g144 ([] : List Int) ((a.length : Int) + (b.length : Int)) = some [] := by
  unfold g144
  rw [if_pos ⟨by omega, by simp; omega⟩]
 simp only [g126, iter_next s0, iter_next s1, iter_end s2, Option.bind_some, hg, iter_next u0, iter_next u1, iter_end u2]
def putAll : List Int → List (Int × Bool) → List (Int × Bool)
 | [], l => l
 | x :: r, l => putAll r (kvPut l x true)
theorem kvGet_put (x n : Int) (b : Bool) : ∀ l : List (Int × Bool), kvGet (kvPut l n b) x = if n = x then b else kvGet l x
 | [] => by simp [kvPut, kvGet]
 | (k, c) :: r => by
  simp only [kvPut]
  by_cases h : k = n
  ·subst h
   simp only [if_true, kvGet]
   split <;> rfl
  ·simp only [h, if_false, kvGet, kvGet_put x n b r]
   by_cases h2 : k = x
   ·subst h2
    simp [Ne.symm h]
   ·simp [h2]
theorem kvGet_all (x : Int) : ∀ (r : List Int) (l : List (Int × Bool)), kvGet (putAll r l) x = (decide (x ∈ r) || kvGet l x)
 | [], l => by simp [putAll]
 | y :: r, l => by
  rw [putAll, kvGet_all x r, kvGet_put]
  by_cases h : y = x
  ·subst h; simp
  ·by_cases h2 : x ∈ r
   ·simp [h2]
   ·simp [h, h2, Ne.symm h]
theorem put_loop (r : List Int) (hl : r.length ≤ 4194304) : ∃ m, iter (g96_l0 r) (0, []) = some m ∧ ∀ x, kvGet m x = decide (x ∈ r) := by
 have h := iter_upto (step := g96_l0 r) (fun k => ((k : Int), putAll (r.take k) [])) r.length (putAll r []) (fun k hk => by
  simp only [g96_l0]
  rw [if_pos (decide_eq_true (by omega)), idx_lt hk]
  simp only [Option.bind_some, Int.toNat_natCast]
  rw [List.getElem?_eq_getElem hk]
  simp only [Option.bind_some, w1 (show k < 4611686018427387904 by omega)]
  congr 3
  rw [List.take_succ_eq_append_getElem hk]
  generalize r.take k = q
  generalize ([] : List (Int × Bool)) = l
  induction q generalizing l with
  | nil => rfl
  | cons y q ih => exact ih _) (by
  simp only [g96_l0]
  rw [if_neg (by simp), List.take_length])
 refine ⟨putAll r [], h, fun x => ?_⟩
 rw [kvGet_all]
 simp [kvGet]
def Named (v : DVault) (x : Int) : Prop := ¬ NotIn v.table x ∨ ¬ NotOf v.intents x
theorem named_iff (v : DVault) (x : Int) : x ∈ v.table.list_.map DLease.id ++ v.intents.map DIntent.lease ↔ Named v x := by
 simp [Named]
theorem firstOf_some {α : Type} (l : List α) (p : α → Bool) : (firstOf l p = -1 ∧ ∀ x ∈ l, p x = false) ∨ ∃ k, ∃ h : k < l.length, firstOf l p = (k : Int) ∧ p l[k] = true := by
 unfold firstOf
 cases hf : l.findIdx? p with
 | none => exact .inl ⟨rfl, fun x hx => List.findIdx?_eq_none_iff.1 hf x hx⟩
 | some k =>
  obtain ⟨h, h1, _⟩ := List.findIdx?_eq_some_iff_getElem.1 hf
  exact .inr ⟨k, h, rfl, h1⟩
theorem stray_eq (v : DVault) (h1 : v.table.list_.length ≤ 1048576) (h2 : v.intents.length ≤ 1048576) (h3 : v.accounts.length ≤ 1048576) : ∃ q, g96 v = some q ∧ (!q.2) = tf (∀ a ∈ v.accounts, Named v a) := by
 obtain ⟨m, m1, m2⟩ := put_loop (v.table.list_.map DLease.id ++ v.intents.map DIntent.lease) (by simp; omega)
 have hp : ∀ x ∈ v.accounts, (fun z => g128 z m) x = some (!decide (x ∈ v.table.list_.map DLease.id ++ v.intents.map DIntent.lease)) := fun x _ => by simp only [g128, m2]
 have hf := g127_eq v.accounts _ (fun x => !decide (x ∈ v.table.list_.map DLease.id ++ v.intents.map DIntent.lease)) hp (by omega)
 simp only [g96, g60_eq v.table h1, leases_eq v.intents h2, Option.bind_some, concat_two _ _ (show (v.table.list_.map DLease.id).length ≤ 1048576 by simpa using h1) (show (v.intents.map DIntent.lease).length ≤ 1048576 by simpa using h2), m1, hf]
 rcases firstOf_some v.accounts (fun x => !decide (x ∈ v.table.list_.map DLease.id ++ v.intents.map DIntent.lease)) with ⟨e1, e2⟩ | ⟨k, hk, e1, e2⟩
 ·rw [e1, if_pos (by decide)]
  refine ⟨_, rfl, (tf_pos fun a ha => ?_).symm⟩
  have := e2 a ha
  simp only [Bool.not_eq_false', decide_eq_true_eq] at this
  exact (named_iff v a).1 this
 ·rw [e1, if_neg (by simp), idx_lt hk]
  refine ⟨_, rfl, (tf_neg fun hh => ?_).symm⟩
  simp only [Bool.not_eq_true', decide_eq_false_iff_not] at e2
  exact e2 ((named_iff v _).2 (hh _ (List.getElem_mem hk)))
theorem lost_eq (v : DVault) (h1 : v.table.list_.length ≤ 1048576) (h2 : v.intents.length ≤ 1048576) (h3 : v.accounts.length ≤ 1048576) (hpos : ∀ a ∈ v.accounts, 1 ≤ a) : ∃ n, g93 v = some n ∧ (n == 0) = tf (∀ a ∈ v.accounts, Named v a) := by
 obtain ⟨r, e1, e2⟩ := iterI (step := g93_l0 v) (fun s => ∃ k : Nat, s = (k : Int) ∧ k ≤ v.accounts.length ∧ ∀ j, ∀ h : j < v.accounts.length, j < k → Named v v.accounts[j]) (fun s => (v.accounts.length - s).toNat)
  (fun r => (r = .inl () ∧ ∀ a ∈ v.accounts, Named v a) ∨ ∃ a, r = .inr a ∧ a ∈ v.accounts ∧ ¬ Named v a) 0 ⟨0, rfl, by omega, by intros; omega⟩ (by
   rintro _ ⟨k, rfl, hk, hj⟩
   simp only [g93_l0]
   by_cases hlt : k < v.accounts.length
   ·rw [if_pos (decide_eq_true (by omega)), idx_lt hlt]
    obtain ⟨n, f1, f2, _⟩ := find_spec v.table v.accounts[k] h1
    obtain ⟨n2, f3, f4⟩ := intent_spec v v.accounts[k] h2
    simp only [Option.bind_some, f1, f2, w1 (show k < 4611686018427387904 by omega)]
    by_cases hn : NotIn v.table v.accounts[k]
    ·simp only [tf_pos hn, beq_self_eq_true, if_true, Option.bind_some, f3, f4, cond_true]
     by_cases hi : NotOf v.intents v.accounts[k]
     ·rw [if_pos (tf_pos hi)]
      refine .inr ⟨_, rfl, .inr ⟨_, rfl, List.getElem_mem hlt, ?_⟩⟩
      rintro (hh | hh)
      ·exact hh hn
      ·exact hh hi
     ·rw [if_neg (by simp [tf_neg hi])]
      refine .inl ⟨_, rfl, ⟨k + 1, rfl, by omega, fun j h hj2 => ?_⟩, by omega⟩
      by_cases e : j = k
      ·subst e; exact .inr hi
      ·exact hj j h (by omega)
    ·simp only [tf_neg hn, show (false == true) = false from rfl, Bool.false_eq_true, if_false, Option.bind_some, cond_false]
     obtain ⟨d, d1, _⟩ := intent_spec v v.accounts[k] h2
     refine .inl ⟨_, rfl, ⟨k + 1, rfl, by omega, fun j h hj2 => ?_⟩, by omega⟩
     by_cases e : j = k
     ·subst e; exact .inl hn
     ·exact hj j h (by omega)
   ·rw [if_neg (by simp; omega)]
    refine .inr ⟨_, rfl, .inl ⟨rfl, fun y hy => ?_⟩⟩
    obtain ⟨j, hj1, rfl⟩ := List.getElem_of_mem hy
    exact hj j hj1 (by omega))
 simp only [g93, e1, Option.bind_some]
 rcases e2 with ⟨rfl, e2⟩ | ⟨a, rfl, e2, e3⟩
 ·exact ⟨0, rfl, by rw [tf_pos e2]; rfl⟩
 ·refine ⟨a, rfl, ?_⟩
  rw [tf_neg fun hh => e3 (hh a e2)]
  have := hpos a e2
  simp; omega
abbrev IntOK (v : DVault) (k : Nat) (x : DIntent) : Prop := (1 ≤ x.lease ∧ x.lease ≤ v.table.next - 1) ∧ (∀ y, 0 < k → v.intents[k - 1]? = some y → y.lease < x.lease) ∧ NotIn v.table x.lease
theorem intents_loop (v : DVault) (hn : 1 ≤ v.table.next ∧ v.table.next ≤ 1000000) (h1 : v.table.list_.length ≤ 1048576) (h2 : v.intents.length ≤ 1048576) :
  iter (g46_l0 v) 0 = some (if tf (∀ k x, v.intents[k]? = some x → IntOK v k x) = true then .inl () else .inr false) := by
 refine iter_all v.intents _ (fun k hk _ => ?_) ?_
 ·have hw2 : IntKind.i64.wrap ((k : Int) - 1) = (k : Int) - 1 := wr ⟨by omega, by omega⟩
  have hw4 : IntKind.i64.wrap (v.table.next - 1) = v.table.next - 1 := wr ⟨by omega, by omega⟩
  simp only [g46_l0]
  rw [if_pos (decide_eq_true (by omega)), idx_lt hk]
  generalize hx : v.intents[k] = x
  obtain ⟨n, f1, f2, f3⟩ := find_spec v.table x.lease h1
  simp only [Option.bind_some, g56_eq, hw2, hw4, f1, w1 (show k < 4611686018427387904 by omega)]
  have hm : 0 < k → idx v.intents ((k : Int) - 1) = v.intents[k - 1]? := fun h => by
   have : ((k : Int) - 1) = ((k - 1 : Nat) : Int) := by omega
   rw [this, idx_nat]
  obtain ⟨y, q1, q2⟩ := gsome (o := idx v.intents ((k : Int) - 1)) (g := ((!tf (1 ≤ x.lease ∧ x.lease ≤ v.table.next - 1)) == false && decide ((k : Int) > 0) == true)) (fun h => by
   rw [hm (by simp at h; omega)]
   exact ⟨_, List.getElem?_eq_getElem (by omega)⟩)
  rw [q1]
  simp only [Option.bind_some, bindv]
  by_cases hr : 1 ≤ x.lease ∧ x.lease ≤ v.table.next - 1
  ·simp only [tf_pos hr, Bool.not_true, cond_false]
   by_cases hk0 : 0 < k
   ·have hg : ((!tf (1 ≤ x.lease ∧ x.lease ≤ v.table.next - 1)) == false && decide ((k : Int) > 0) == true) = true := by simp [tf_iff, hr]; omega
    have hy : v.intents[k - 1]? = some y := by rw [← hm hk0]; exact q2 hg
    have e3 : (∀ z, 0 < k → v.intents[k - 1]? = some z → z.lease < x.lease) ↔ y.lease < x.lease := by
     rw [hy]; exact ⟨fun h => h y hk0 rfl, fun h z _ hz => by cases hz; exact h⟩
    rw [decide_eq_true (show (k : Int) > 0 by omega)]
    simp only [cond_true]
    by_cases hyx : y.lease < x.lease
    ·rw [decide_eq_false (show ¬ y.lease ≥ x.lease by omega)]
     simp only [beq_self_eq_true, if_true, Option.bind_some, cond_false, f3]
     refine ⟨_, ?_, rfl⟩
     simp [IntOK, hr, e3, hyx]
    ·rw [decide_eq_true (show y.lease ≥ x.lease by omega)]
     simp only [show (true == false) = false from rfl, Bool.false_eq_true, if_false, Option.bind_some, cond_true]
     refine ⟨true, ?_, by simp⟩
     simp [IntOK, e3, hyx]
   ·have e3 : (∀ z, 0 < k → v.intents[k - 1]? = some z → z.lease < x.lease) ↔ True := ⟨fun _ => trivial, fun _ z h => absurd h hk0⟩
    rw [decide_eq_false (show ¬ (k : Int) > 0 by omega)]
    simp only [cond_false, beq_self_eq_true, if_true, Option.bind_some, f3]
    refine ⟨_, ?_, rfl⟩
    simp [IntOK, hr, e3]
  ·simp only [tf_neg hr, Bool.not_false, cond_true, show (true == false) = false from rfl, Bool.false_eq_true, if_false, Option.bind_some]
   refine ⟨true, ?_, by simp⟩
   simp [IntOK, hr]
 ·simp only [g46_l0]
  rw [if_neg (by simp)]
theorem intents_all (v : DVault) : (∀ k x, v.intents[k]? = some x → IntOK v k x) ↔ Rising (v.intents.map DIntent.lease) 1 (v.table.next - 1) ∧ ∀ x ∈ v.intents.map DIntent.lease, NotIn v.table x := by
 constructor
 ·intro h
  refine ⟨fun k x hx => ?_, fun x hx => ?_⟩
  ·rw [List.getElem?_map, Option.map_eq_some_iff] at hx
   obtain ⟨i, hi, rfl⟩ := hx
   obtain ⟨a1, a2, _⟩ := h k i hi
   refine ⟨a1, fun y hp hy => ?_⟩
   rw [List.getElem?_map, Option.map_eq_some_iff] at hy
   obtain ⟨j, hj, rfl⟩ := hy
   exact a2 j hp hj
  ·obtain ⟨i, hi, rfl⟩ := List.mem_map.1 hx
   obtain ⟨k, hk, rfl⟩ := List.getElem_of_mem hi
   exact (h k _ (List.getElem?_eq_getElem hk)).2.2
 ·rintro ⟨h1, h2⟩ k x hx
  have hl : (v.intents.map DIntent.lease)[k]? = some x.lease := by rw [List.getElem?_map, hx]; rfl
  obtain ⟨a1, a2⟩ := h1 k _ hl
  refine ⟨a1, fun y hp hy => a2 _ hp (by rw [List.getElem?_map, hy]; rfl), h2 _ (List.mem_map.2 ⟨x, List.mem_of_getElem? hx, rfl⟩)⟩
def VaultRight (v : DVault) : Prop := TabOK v.table ∧ v.intents.length ≤ 40 ∧ v.accounts.length ≤ 80 ∧ Rising v.accounts 1 (v.table.next - 1) ∧ Rising (v.intents.map DIntent.lease) 1 (v.table.next - 1) ∧ (∀ x ∈ v.intents.map DIntent.lease, NotIn v.table x) ∧ ∀ a ∈ v.accounts, Named v a
theorem spec_right (v : DVault) (h1 : v.table.list_.length ≤ 1048576) (h2 : v.intents.length ≤ 1048576) (h3 : v.accounts.length ≤ 1048576) (hn : I64 v.table.next) : g46 v = some (tf (VaultRight v)) := by
 simp only [g46, g18_eq, Option.bind_some]
 by_cases p1 : TabOK v.table
 ·have hn1 := p1.2.1
  have hw4 : IntKind.i64.wrap (v.table.next - 1) = v.table.next - 1 := wr ⟨by omega, by omega⟩
  simp only [tf_pos p1, Bool.not_true, cond_false]
  by_cases p2 : v.intents.length ≤ 40
  ·rw [decide_eq_false (show ¬ (v.intents.length : Int) > 40 by omega)]
   simp only [cond_false]
   by_cases p3 : v.accounts.length ≤ 80
   ·rw [decide_eq_false (show ¬ (v.accounts.length : Int) > 80 by omega)]
    simp only [beq_self_eq_true, if_true, g85_eq v.accounts v.table.next ⟨by omega, by omega⟩ h3, Option.bind_some, bindv, cond_false]
    by_cases p4 : Rising v.accounts 1 (v.table.next - 1)
    ·rw [if_neg (by simp [tf_pos p4]), intents_loop v hn1 h1 h2]
     by_cases p5 : ∀ k x, v.intents[k]? = some x → IntOK v k x
     ·simp only [tf_pos p5, if_true, Option.bind_some]
      obtain ⟨n, e1, e2⟩ := lost_eq v h1 h2 h3 (fun a ha => (by
       obtain ⟨k, hk, rfl⟩ := List.getElem_of_mem ha
       exact (p4 k _ (List.getElem?_eq_getElem hk)).1.1))
      simp only [e1, Option.bind_some, e2]
      refine congrArg some (tf_congr ⟨fun h => ?_, fun h => h.2.2.2.2.2.2⟩)
      obtain ⟨q1, q2⟩ := (intents_all v).1 p5
      exact ⟨p1, p2, p3, p4, q1, q2, h⟩
     ·simp only [tf_neg p5, Bool.false_eq_true, if_false, Option.bind_some]
      refine congrArg some (tf_neg fun h => p5 ((intents_all v).2 ⟨h.2.2.2.2.1, h.2.2.2.2.2.1⟩)).symm
    ·rw [if_pos (by simp [tf_neg p4])]
     exact congrArg some (tf_neg fun h => p4 h.2.2.2.1).symm
   ·rw [decide_eq_true (show (v.accounts.length : Int) > 80 by omega)]
    simp only [show (true == false) = false from rfl, Bool.false_eq_true, if_false, Option.bind_some, bindv, cond_true, if_true]
    exact congrArg some (tf_neg fun h => p3 h.2.2.1).symm
  ·rw [decide_eq_true (show (v.intents.length : Int) > 40 by omega)]
   simp only [cond_true, show (true == false) = false from rfl, Bool.false_eq_true, if_false, Option.bind_some, bindv, if_true]
   exact congrArg some (tf_neg fun h => p2 h.2.1).symm
 ·simp only [tf_neg p1, Bool.not_false, cond_true, show (true == false) = false from rfl, Bool.false_eq_true, if_false, Option.bind_some, bindv, if_true]
  exact congrArg some (tf_neg fun h => p1 h.1).symm
theorem impl_right (v : DVault) (h1 : v.table.list_.length ≤ 1048576) (h2 : v.intents.length ≤ 1048576) (h3 : v.accounts.length ≤ 1048576) (hn : I64 v.table.next) : g48 v = some (tf (VaultRight v)) := by
 simp only [g48, g20_eq v.table h1 hn, Option.bind_some]
 by_cases p1 : TabOK v.table
 ·have hn1 := p1.2.1
  have hw4 : IntKind.i64.wrap (v.table.next - 1) = v.table.next - 1 := wr ⟨by omega, by omega⟩
  simp only [tf_pos p1, Bool.not_true, cond_false, hw4]
  by_cases p2 : v.intents.length ≤ 40
  ·rw [decide_eq_false (show ¬ (v.intents.length : Int) > 40 by omega)]
   simp only [cond_false, beq_self_eq_true, if_true, leases_eq v.intents h2, Option.bind_some, g59_eq _ 1 (v.table.next - 1) (show (v.intents.map DIntent.lease).length ≤ 1048576 by simpa using h2)]
   by_cases p5 : Rising (v.intents.map DIntent.lease) 1 (v.table.next - 1)
   ·simp only [tf_pos p5, Bool.not_true, cond_false]
    by_cases p3 : v.accounts.length ≤ 80
    ·rw [decide_eq_false (show ¬ (v.accounts.length : Int) > 80 by omega)]
     simp only [beq_self_eq_true, if_true, g59_eq v.accounts 1 (v.table.next - 1) h3, Option.bind_some, bindv, cond_false]
     by_cases p4 : Rising v.accounts 1 (v.table.next - 1)
     ·rw [if_neg (by simp [tf_pos p4])]
      obtain ⟨q, e1, e2⟩ := stray_eq v h1 h2 h3
      simp only [e1, Option.bind_some, e2]
      have hp : ∀ x ∈ v.intents.map DIntent.lease, (fun z => g98 z v) x = some (tf (NotIn v.table x)) := fun x _ => by
       obtain ⟨i, b, f1, f2⟩ := find_impl v.table p1 x
       simp only [g98, f1, Option.bind_some, f2]
      have hall := g97_eq (v.intents.map DIntent.lease) _ (fun x => tf (NotIn v.table x)) hp (by simp; omega)
      have e4 : (v.intents.map DIntent.lease).all (fun x => tf (NotIn v.table x)) = tf (∀ x ∈ v.intents.map DIntent.lease, NotIn v.table x) := by
       rw [Bool.eq_iff_iff, tf_iff, List.all_eq_true]
       exact ⟨fun h x hx => tf_iff.1 (h x hx), fun h x hx => tf_iff.2 (h x hx)⟩
      by_cases p7 : ∀ a ∈ v.accounts, Named v a
      ·simp only [tf_pos p7, beq_self_eq_true, if_true, Option.bind_some, hall, e4, cond_true]
       exact congrArg some (tf_congr ⟨fun h => ⟨p1, p2, p3, p4, p5, h, p7⟩, fun h => h.2.2.2.2.2.1⟩)
      ·simp only [tf_neg p7, show (false == true) = false from rfl, Bool.false_eq_true, if_false, Option.bind_some, cond_false]
       exact congrArg some (tf_neg fun h => p7 h.2.2.2.2.2.2).symm
     ·rw [if_pos (by simp [tf_neg p4])]
      exact congrArg some (tf_neg fun h => p4 h.2.2.2.1).symm
    ·rw [decide_eq_true (show (v.accounts.length : Int) > 80 by omega)]
     simp only [show (true == false) = false from rfl, Bool.false_eq_true, if_false, Option.bind_some, bindv, cond_true, if_true]
     exact congrArg some (tf_neg fun h => p3 h.2.2.1).symm
   ·simp only [tf_neg p5, Bool.not_false, cond_true, show (true == false) = false from rfl, Bool.false_eq_true, if_false, Option.bind_some, bindv, if_true]
    exact congrArg some (tf_neg fun h => p5 h.2.2.2.2.1).symm
  ·rw [decide_eq_true (show (v.intents.length : Int) > 40 by omega)]
   simp only [cond_true, show (true == false) = false from rfl, Bool.false_eq_true, if_false, Option.bind_some, bindv, if_true]
   exact congrArg some (tf_neg fun h => p2 h.2.1).symm
 ·simp only [tf_neg p1, Bool.not_false, cond_true, show (true == false) = false from rfl, Bool.false_eq_true, if_false, Option.bind_some, bindv, if_true]
  exact congrArg some (tf_neg fun h => p1 h.1).symm
theorem eq_vault (v : DVault) (h1 : v.table.list_.length ≤ 1048576) (h2 : v.intents.length ≤ 1048576) (h3 : v.accounts.length ≤ 1048576) : g49 v v = some true := by
 simp [g49, g21_eq v.table v.table h1, g99_refl v.intents h2 (fun x _ => g131_refl x), ints_self v.accounts h3]
end Go.Ev
end
section
set_option maxHeartbeats 1000000
namespace Go.Ev
abbrev digs : List UInt8 := [48, 49, 50, 51, 52, 53, 54, 55, 56, 57, 97, 98, 99, 100, 101, 102]
noncomputable def hx (x : Int) : UInt8 := (digs[(iand .i64 x 15).toNat]?).getD 0
abbrev wIntent : List UInt8 := [105, 110, 116, 101, 110, 116, 47]
abbrev wLease : List UInt8 := [108, 101, 97, 115, 101, 47]
abbrev wVault : List UInt8 := [118, 97, 117, 108, 116]
abbrev wUndo : List UInt8 := [117, 110, 100, 111]
abbrev wBegun : List UInt8 := [98, 101, 103, 117, 110]
abbrev wQueued : List UInt8 := [113, 117, 101, 117, 101, 100]
abbrev wLive : List UInt8 := [108, 105, 118, 101]
abbrev wSealed : List UInt8 := [115, 101, 97, 108, 101, 100]
abbrev wOpen : List UInt8 := [111, 112, 101, 110]
theorem mtext_some (a : Int) (ha : 1 ≤ a ∧ a ≤ 4398046511104) : ∃ t, g316 a = some t := by
 obtain ⟨r, e1, e2⟩ := iterI (step := g316_l0) (fun s => ∃ n : Nat, s.1 = (n : Int) ∧ n + s.2.length ≤ 4398046511104) (fun s => s.1.toNat) (fun r => r.length ≤ 4398046511104) (a, []) ⟨a.toNat, by simp only; omega, by simp; omega⟩ (by
  rintro ⟨_, l⟩ ⟨n, rfl, hn⟩
  simp only at hn
  simp only [g316_l0]
  by_cases h0 : 0 < n
  ·have e : ((n : Int)).tdiv 10 = ((n / 10 : Nat) : Int) := by rw [Int.tdiv_eq_ediv_of_nonneg (by omega)]; simp
   rw [if_pos (decide_eq_true (by omega)), if_pos (by simp only [List.length_singleton]; omega), e, wr ⟨by omega, by omega⟩]
   exact .inl ⟨_, rfl, ⟨n / 10, rfl, by simp; omega⟩, by simp only; omega⟩
  ·rw [if_neg (by simp; omega)]
   exact .inr ⟨_, rfl, by omega⟩)
 simp only [g316]
 rw [if_neg (by simp; omega), e1]
 simp only [Option.bind_some]
 rw [if_pos (by simp only [List.length_singleton]; omega)]
 exact ⟨_, rfl⟩
noncomputable def mtext (a : Int) : List UInt8 := (g316 a).getD []
theorem mtext_eq {a : Int} (ha : 1 ≤ a ∧ a ≤ 4398046511104) : g316 a = some (mtext a) := by
 obtain ⟨t, h⟩ := mtext_some a ha
 rw [mtext, h]; rfl
noncomputable abbrev mkPair (c : Int) (_ : DPair) : DPair := DPair.mk (mtext c) (mtext (c + 1))
theorem pmarks (l : List DPair) (hl : l.length ≤ 1048576) : g253 l 1 = some (1 + 2 * (l.length : Int), marked mkPair 2 l 1) := by
 have h := mark_loop mkPair 2 l 1 (step := g253_l0) (fun k p hp hk => by
  simp only [g253_l0]
  rw [if_pos (decide_eq_true (by omega)), mtext_eq (by omega), idx_lt (l := p) (k := k) (by omega)]
  have e0 : IntKind.i64.wrap (1 + ((2 : Nat) : Int) * (k : Int) + 1) = 1 + ((2 : Nat) : Int) * (k : Int) + 1 := wr ⟨by omega, by omega⟩
  have e1 : IntKind.i64.wrap (1 + ((2 : Nat) : Int) * (k : Int) + 1 + 1) = 1 + ((2 : Nat) : Int) * ((k + 1 : Nat) : Int) := by rw [wr ⟨by omega, by omega⟩]; omega
  simp only [Option.bind_some, Int.toNat_natCast, e0, e1, mtext_eq (show 1 ≤ 1 + ((2 : Nat) : Int) * (k : Int) + 1 ∧ 1 + ((2 : Nat) : Int) * (k : Int) + 1 ≤ 4398046511104 by omega), w1 (show k < 4611686018427387904 by omega), bindv]
  rw [List.getElem?_eq_getElem (by omega)]
  simp only [Option.bind_some]
  rw [idx_lt (by simp; omega), List.getElem?_eq_getElem (by simp; omega)]
  simp only [Option.bind_some, List.set_set, List.getElem_set_self]) (fun p c hp => by
  simp only [g253_l0]
  rw [if_neg (by simp; omega)])
 simp only [g253, h, Option.bind_some]
 simp
abbrev mkIntent (c : Int) (_ : DIntent) : DIntent := DIntent.mk c ((c + 1).tmod 3 == 0)
theorem imarks (l : List DIntent) (a : Int) (ha : 0 ≤ a ∧ a ≤ 1099511627776) (hl : l.length ≤ 1048576) : g315 l a = some (a + 2 * (l.length : Int), marked mkIntent 2 l a) := by
 have h := mark_loop mkIntent 2 l a (step := g315_l0) (fun k p hp hk => by
  simp only [g315_l0]
  rw [if_pos (decide_eq_true (by omega)), idx_lt (l := p) (k := k) (by omega)]
  have e0 : IntKind.i64.wrap (a + ((2 : Nat) : Int) * (k : Int) + 1) = a + ((2 : Nat) : Int) * (k : Int) + 1 := wr ⟨by omega, by omega⟩
  have e1 : IntKind.i64.wrap (a + ((2 : Nat) : Int) * (k : Int) + 1 + 1) = a + ((2 : Nat) : Int) * ((k + 1 : Nat) : Int) := by rw [wr ⟨by omega, by omega⟩]; omega
  simp only [Option.bind_some, Int.toNat_natCast, e0, e1, w1 (show k < 4611686018427387904 by omega), bindv]
  rw [List.getElem?_eq_getElem (by omega)]
  simp only [Option.bind_some]
  rw [idx_lt (by simp; omega), List.getElem?_eq_getElem (by simp; omega)]
  simp only [Option.bind_some, List.set_set, List.getElem_set_self]) (fun p c hp => by
  simp only [g315_l0]
  rw [if_neg (by simp; omega)])
 simp only [g315, h, Option.bind_some]
 simp
theorem eq_pairs (l : List DPair) (hl : l.length ≤ 1048576) : g251 l l = some true := by
 have h := same_loop l (step := g251_l0 l l) (fun k hk => by
  simp only [g251_l0]
  rw [if_pos (decide_eq_true (by omega)), idx_lt hk]
  simp only [Option.bind_some, g314]
  rw [if_neg (by simp), if_neg (by simp)]
  simp only [Option.bind_some]
  rw [if_neg (by simp), w1 (show k < 4611686018427387904 by omega)]) (by
  simp only [g251_l0]
  rw [if_neg (by simp)])
 unfold g251
 rw [if_neg (by simp), h]
 rfl
end Go.Ev
end
section
set_option maxHeartbeats 1000000
namespace Go.Ev
def dv (y : UInt8) : Int := if 48 ≤ y.toNat ∧ y.toNat ≤ 57 then (y.toNat : Int) - 48 else if 97 ≤ y.toNat ∧ y.toNat ≤ 102 then (y.toNat : Int) - 87 else -1
theorem dv_lt (y : UInt8) : -1 ≤ dv y ∧ dv y < 16 := by
 unfold dv; split
 ·omega
 ·split <;> omega
set_option maxRecDepth 100000 in
theorem digit_impl (y : UInt8) : g341 digs y = some (dv y) := by
 simp only [g341, g370, Option.bind_some]
 refine congrArg some ?_
 refine byte_cases (P := fun y => byteAt digs ((y.toNat : Nat) : Int) = dv y) ?_ y
 decide
set_option maxRecDepth 100000 in
theorem digit_last : ∀ n : Fin 256, ∀ k : Fin 16, (digs[k.val]'k.isLt == UInt8.ofNat n.val) = decide (dv (UInt8.ofNat n.val) = (k.val : Int)) := by decide
theorem digit_at (y : UInt8) (k : Nat) (hk : k < 16) : (digs[k]'hk == y) = decide (dv y = (k : Int)) := by
 refine byte_cases (P := fun y => (digs[k]'hk == y) = decide (dv y = (k : Int))) (fun n => ?_) y
 exact digit_last n ⟨k, hk⟩
theorem digit_spec (a : List UInt8) (i : Nat) (hi : i < a.length) : iter (g361_l1 a (i : Int)) (-1, 0) = some (dv a[i]) := by
 have h := iter_upto (step := g361_l1 a (i : Int)) (fun k => (if 0 ≤ dv a[i] ∧ dv a[i] < (k : Int) then dv a[i] else -1, (k : Int))) 16 (dv a[i]) (fun k hk => by
  simp only [g361_l1, g361_j0]
  rw [if_pos (decide_eq_true (by omega)), show idx ([48, 49, 50, 51, 52, 53, 54, 55, 56, 57, 97, 98, 99, 100, 101, 102] : List UInt8) (k : Int) = some (digs[k]'hk) from idx_lt hk, idx_lt hi]
  simp only [Option.bind_some, w1 (show k < 4611686018427387904 by omega)]
  have e := digit_at a[i] k hk
  have e2 : ((((digs[k]'hk).toNat : Nat) : Int) == ((a[i].toNat : Nat) : Int)) = (digs[k]'hk == a[i]) := by
   rw [Bool.eq_iff_iff, beq_iff_eq, beq_iff_eq]
   constructor
   ·intro h; exact UInt8.toNat_inj.1 (by omega)
   ·intro h; rw [h]
  rw [e2, e]
  by_cases hd : dv a[i] = (k : Int)
  ·rw [if_pos (decide_eq_true hd), hd, if_pos (by omega)]
  ·rw [if_neg (by simpa using hd)]
   by_cases h2 : 0 ≤ dv a[i] ∧ dv a[i] < (k : Int)
   ·rw [if_pos h2, if_pos (by omega)]
   ·rw [if_neg h2, if_neg (by omega)]) (by
  simp only [g361_l1]
  rw [if_neg (by simp)]
  have := dv_lt a[i]
  congr 2
  split
  ·rfl
  ·omega)
 have h' : iter (g361_l1 a (i : Int)) (if 0 ≤ dv a[i] ∧ dv a[i] < ((0 : Nat) : Int) then dv a[i] else -1, ((0 : Nat) : Int)) = some (dv a[i]) := h
 rw [if_neg (by omega)] at h'
 exact h'
def Good (s : List UInt8) : Prop := s.length = 16 ∧ (∀ k, ∀ h : k < s.length, 0 ≤ dv s[k]) ∧ ∀ h : 0 < s.length, dv s[0] ≤ 7
def valU (l : List UInt8) : Nat := l.foldl (fun n y => n * 16 + (dv y).toNat) 0
theorem valU_snoc (l : List UInt8) (y : UInt8) : valU (l ++ [y]) = valU l * 16 + (dv y).toNat := by simp [valU]
theorem valU_top {s : List UInt8} (h : Good s) : ∀ k, k ≤ 16 → valU (s.take k) < 8 * 16 ^ (k - 1) ∨ k = 0 := by
 intro k
 induction k with
 | zero => intro _; exact .inr rfl
 | succ k ih =>
  intro hk
  left
  have hlt : k < s.length := by rw [h.1]; omega
  rw [List.take_succ_eq_append_getElem hlt, valU_snoc]
  have h1 := dv_lt s[k]
  have h2 := h.2.1 k hlt
  rcases ih (by omega) with h3 | rfl
  ·cases k with
   | zero =>
    have := h.2.2 (by omega)
    simp [valU] at *; omega
   | succ k =>
    simp only [Nat.add_sub_cancel] at h3 ⊢
    rw [Nat.pow_succ]
    omega
  ·have := h.2.2 (by omega)
   simp [valU]; omega
theorem val_bound {s : List UInt8} (h : Good s) : (valU s : Int) ≤ 9223372036854775807 := by
 rcases valU_top h 16 (Nat.le_refl _) with h1 | h1
 ·rw [List.take_of_length_le (by rw [h.1]; exact Nat.le_refl _)] at h1
  have : 8 * 16 ^ (16 - 1) = 9223372036854775808 := by decide
  omega
 ·omega
theorem step_bound {s : List UInt8} (h : Good s) {k : Nat} (hk : k < 16) : valU (s.take k) < 576460752303423488 := by
 rcases valU_top h k (by omega) with h1 | rfl
 ·have h2 : 16 ^ (k - 1) ≤ 16 ^ 14 := Nat.pow_le_pow_right (by omega) (by omega)
  have h3 : 16 ^ 14 = 72057594037927936 := by decide
  omega
 ·simp [valU]
theorem shl4 (n : Nat) (d : Int) (hn : n < 576460752303423488) (hd : 0 ≤ d ∧ d < 16) : ior .i64 (ishl .i64 (n : Int) 4) d = ((n * 16 + d.toNat : Nat) : Int) := by
 obtain ⟨e, rfl⟩ := Int.eq_ofNat_of_zero_le hd.1
 have he : e < 16 := by omega
 have h1 : ishl .i64 (n : Int) 4 = ((n * 16 : Nat) : Int) := by
  unfold ishl
  have : (2 : Int) ^ min (4 : Int).toNat IntKind.i64.bits = 16 := by decide
  rw [this, wr ⟨by omega, by omega⟩]; omega
 rw [h1]
 unfold ior
 have b1 : (BitVec.ofInt IntKind.i64.bits ((n * 16 : Nat) : Int)).toNat = n * 16 := by
  have : IntKind.i64.bits = 64 := rfl
  rw [this, BitVec.ofInt_natCast, BitVec.toNat_ofNat]
  exact Nat.mod_eq_of_lt (by omega)
 have b2 : (BitVec.ofInt IntKind.i64.bits ((e : Nat) : Int)).toNat = e := by
  have : IntKind.i64.bits = 64 := rfl
  rw [this, BitVec.ofInt_natCast, BitVec.toNat_ofNat]
  exact Nat.mod_eq_of_lt (by omega)
 rw [BitVec.toNat_or, b1, b2]
 have h2 : n * 16 ||| e = n * 16 + e := by
  have := Nat.two_pow_add_eq_or_of_lt (i := 4) (b := e) (by omega) n
  rw [show (2 : Nat) ^ 4 = 16 by decide, Nat.mul_comm 16 n] at this
  exact this.symm
 rw [h2, Int.toNat_natCast, wr ⟨by omega, by omega⟩]
theorem read_loop (s : List UInt8) (hs : s.length = 16) : (Good s → iter (g364_l0 s) (0, 0) = some (.inl (valU s : Int))) ∧ ((∃ k, ∃ h : k < s.length, dv s[k] < 0) → (∀ h : 0 < s.length, s[0].toNat ≤ 55) → iter (g364_l0 s) (0, 0) = some (.inr (0, [], false))) := by
 constructor
 ·intro h
  have hh := iter_upto (step := g364_l0 s) (fun k => ((valU (s.take k) : Int), (k : Int))) 16 (.inl (valU s : Int)) (fun k hk => by
   have hlt : k < s.length := by omega
   have h0 := h.2.1 k hlt
   have h1 := dv_lt s[k]
   simp only [g364_l0]
   rw [if_pos (decide_eq_true (by omega)), idx_lt hlt]
   simp only [Option.bind_some, digit_impl s[k], w1 (show k < 4611686018427387904 by omega)]
   rw [if_neg (by simp; omega), shl4 _ _ (step_bound h hk) ⟨h0, h1.2⟩, List.take_succ_eq_append_getElem hlt, valU_snoc]) (by
   simp only [g364_l0]
   rw [if_neg (by simp; omega), List.take_of_length_le (by omega)])
  exact hh
 ·rintro ⟨k0, hk0, hd0⟩ hfirst
  have hex : ¬ ∀ k, k < s.length → 0 ≤ (s[k]?.map dv).getD 0 := fun hall => by
   have := hall k0 hk0
   rw [List.getElem?_eq_getElem hk0] at this
   simp at this; omega
  obtain ⟨k, hk, hj, hn⟩ := least_of (ok := fun k => 0 ≤ (s[k]?.map dv).getD 0) hex
  rw [List.getElem?_eq_getElem hk] at hn
  simp only [Option.map_some, Option.getD_some] at hn
  have hp : ∃ st : Nat → Int, st 0 = 0 ∧ ∀ j, j < k → g364_l0 s (st j, (j : Int)) = some (.inl (st (j + 1), ((j + 1 : Nat) : Int))) := by
   refine ⟨fun j => Nat.rec 0 (fun i a => ior .i64 (ishl .i64 a 4) ((s[i]?.map dv).getD 0)) j, rfl, fun j hjk => ?_⟩
   have hlt : j < s.length := by omega
   have h0 := hj j hjk
   rw [List.getElem?_eq_getElem hlt] at h0
   simp only [Option.map_some, Option.getD_some] at h0
   simp only [g364_l0]
   rw [if_pos (decide_eq_true (by omega)), idx_lt hlt]
   simp only [Option.bind_some, digit_impl s[j], w1 (show j < 4611686018427387904 by omega)]
   rw [if_neg (by simp; omega), List.getElem?_eq_getElem hlt]
   rfl
  obtain ⟨st, st0, hst⟩ := hp
  have := iter_run (step := g364_l0 s) (fun j => (st j, (j : Int))) k hst
  rw [st0] at this
  refine this.trans (iter_end ?_)
  simp only [g364_l0]
  rw [if_pos (decide_eq_true (by omega)), idx_lt hk]
  simp only [Option.bind_some, digit_impl s[k]]
  rw [if_pos (by simp; omega)]
set_option maxRecDepth 100000 in
theorem first_digit : ∀ n : Fin 256, (0 ≤ dv (UInt8.ofNat n.val) ∧ dv (UInt8.ofNat n.val) ≤ 7) ↔ (0 ≤ dv (UInt8.ofNat n.val) ∧ (UInt8.ofNat n.val).toNat ≤ 55) := by decide
theorem first_ok (y : UInt8) : (0 ≤ dv y ∧ dv y ≤ 7) ↔ (0 ≤ dv y ∧ y.toNat ≤ 55) := byte_cases (P := fun y => (0 ≤ dv y ∧ dv y ≤ 7) ↔ (0 ≤ dv y ∧ y.toNat ≤ 55)) first_digit y
theorem read_impl (t : List UInt8) (ht : t.length ≤ 4194304) : (Good (t.take 16) → g364 t = some ((valU (t.take 16) : Int), t.drop 16, true)) ∧ (¬ Good (t.take 16) → g364 t = some (0, [], false)) := by
 by_cases hl : t.length < 16
 ·refine ⟨fun h => ?_, fun _ => ?_⟩
  ·have := h.1; simp at this; omega
  ·simp only [g364]
   rw [decide_eq_true (show (t.length : Int) < 16 by omega)]
   simp [bindv]
 ·have h16 : (t.take 16).length = 16 := by simp; omega
  have h0 : 0 < t.length := by omega
  have e0 : (t.take 16)[0]'(by omega) = t[0] := by simp
  have hs := slcK t 0 16 (by omega) (by omega)
  have hs2 := slcK t 16 t.length (by omega) (Nat.le_refl _)
  rw [show ((0 : Nat) : Int) = 0 from rfl, show ((16 : Nat) : Int) = 16 from rfl, List.drop_zero] at hs
  rw [show ((16 : Nat) : Int) = 16 from rfl, List.take_length] at hs2
  obtain ⟨r1, r2⟩ := read_loop (t.take 16) h16
  simp only [g364]
  rw [decide_eq_false (show ¬ (t.length : Int) < 16 by omega)]
  simp only [beq_self_eq_true, if_true, show idx t 0 = some t[0] from idx_lt (k := 0) h0, Option.bind_some, bindv, cond_false]
  refine ⟨fun h => ?_, fun h => ?_⟩
  ·have h3 := (first_ok t[0]).1 ⟨by rw [← e0]; exact h.2.1 0 (by omega), by rw [← e0]; exact h.2.2 (by omega)⟩
   rw [if_neg (by simp; omega), hs]
   simp only [Option.bind_some, r1 h, hs2]
  ·by_cases hf : t[0].toNat ≤ 55
   ·rw [if_neg (by simp; omega), hs]
    have hbad : ∃ k, ∃ h : k < (t.take 16).length, dv (t.take 16)[k] < 0 := by
     refine Classical.byContradiction fun hne => h ⟨h16, fun k hk => ?_, fun h1 => ?_⟩
     ·exact Classical.byContradiction fun hh => hne ⟨k, hk, by omega⟩
     ·have h4 : 0 ≤ dv (t.take 16)[0] := Classical.byContradiction fun hh => hne ⟨0, h1, by omega⟩
      rw [e0] at h4 ⊢
      exact ((first_ok t[0]).2 ⟨h4, hf⟩).2
    simp only [Option.bind_some, r2 hbad (fun _ => by rw [e0]; exact hf)]
   ·rw [if_pos (by simp; omega)]
theorem number_spec (s : List UInt8) (hs : s.length ≤ 4194304) : ∃ n b, g361 s = some (n, b) ∧ (b = true ↔ Good s) ∧ (Good s → n = (valU s : Int)) := by
 have hstep : ∀ (p : Int) (k : Nat) (hk : k < s.length), g361_l0 s (p, (k : Int)) = (if (decide (dv s[k] < 0) || (decide (k = 0) && decide (dv s[k] > 7))) = true then some (.inr (.inr (0, false))) else some (.inl (IntKind.i64.wrap (IntKind.i64.wrap (p * 16) + dv s[k]), ((k + 1 : Nat) : Int)))) := fun p k hk => by
  simp only [g361_l0]
  rw [if_pos (decide_eq_true (by omega)), digit_spec s k hk]
  simp only [Option.bind_some, bindv, w1 (show k < 4611686018427387904 by omega)]
  have e : ((k : Int) == 0) = decide (k = 0) := by
   rw [Bool.eq_iff_iff, beq_iff_eq, decide_eq_true_eq]; omega
  rw [e]
  have e2 : (bif decide (dv s[k] < 0) then true else bif decide (k = 0) then decide (dv s[k] > 7) else false) = (decide (dv s[k] < 0) || (decide (k = 0) && decide (dv s[k] > 7))) := by
   cases decide (dv s[k] < 0) <;> cases decide (k = 0) <;> rfl
  rw [e2]
 by_cases hg : (∀ k, ∀ h : k < s.length, 0 ≤ dv s[k]) ∧ ∀ h : 0 < s.length, dv s[0] ≤ 7
 ·
  have hrun : ∃ st : Nat → Int, st 0 = 0 ∧ ∀ j, ∀ hj : j < s.length, st (j + 1) = IntKind.i64.wrap (IntKind.i64.wrap (st j * 16) + dv s[j]) := by
   refine ⟨fun j => Nat.rec 0 (fun i a => IntKind.i64.wrap (IntKind.i64.wrap (a * 16) + (s[i]?.map dv).getD 0)) j, rfl, fun j hj => ?_⟩
   simp only [List.getElem?_eq_getElem hj, Option.map_some, Option.getD_some]
  obtain ⟨st, st0, hst⟩ := hrun
  have h := iter_upto (step := g361_l0 s) (fun j => (st j, (j : Int))) s.length (.inl (st s.length)) (fun j hj => by
   rw [hstep _ j hj, if_neg, hst j hj]
   have h1 := hg.1 j hj
   by_cases hj0 : j = 0
   ·subst hj0
    have := hg.2 hj
    simp; omega
   ·simp [hj0]; omega) (by
   simp only [g361_l0]
   rw [if_neg (by simp)])
  rw [st0] at h
  have h' : iter (g361_l0 s) (0, 0) = some (.inl (st s.length)) := h
  refine ⟨st s.length, ((s.length : Int) == 16), by simp only [g361, h', Option.bind_some], ?_, fun hG => ?_⟩
  ·rw [beq_iff_eq]
   constructor
   ·intro h; exact ⟨by omega, hg.1, hg.2⟩
   ·intro h; have := h.1; omega
  ·have hv : ∀ k, k ≤ 16 → st k = (valU (s.take k) : Int) := by
    intro k
    induction k with
    | zero => intro _; rw [st0]; simp [valU]
    | succ k ih =>
     intro hk
     have hlt : k < s.length := by rw [hG.1]; omega
     have hb := step_bound hG (show k < 16 by omega)
     have h0 := hG.2.1 k hlt
     have h1 := dv_lt s[k]
     rw [hst k hlt, ih (by omega), wr (n := (valU (s.take k) : Int) * 16) ⟨by omega, by omega⟩, wr ⟨by omega, by omega⟩, List.take_succ_eq_append_getElem hlt, valU_snoc]
     omega
   have := hv 16 (Nat.le_refl _)
   rw [hG.1, this, List.take_of_length_le (by rw [hG.1]; exact Nat.le_refl _)]
 ·have hnG : ¬ Good s := fun h => hg h.2
  have hex : ¬ ∀ k, k < s.length → (decide ((s[k]?.map dv).getD 0 < 0) || (decide (k = 0) && decide ((s[k]?.map dv).getD 0 > 7))) = false := fun hall => by
   refine hg ⟨fun k hk => ?_, fun h0 => ?_⟩
   ·have := hall k hk
    rw [List.getElem?_eq_getElem hk] at this
    simp at this; omega
   ·have := hall 0 h0
    rw [List.getElem?_eq_getElem h0] at this
    simp at this; omega
  obtain ⟨k, hk, hj, hn⟩ := least_of (ok := fun k => (decide ((s[k]?.map dv).getD 0 < 0) || (decide (k = 0) && decide ((s[k]?.map dv).getD 0 > 7))) = false) hex
  rw [List.getElem?_eq_getElem hk] at hn
  simp only [Option.map_some, Option.getD_some, Bool.not_eq_false] at hn
  have hrun : ∃ st : Nat → Int, st 0 = 0 ∧ ∀ j, j < k → g361_l0 s (st j, (j : Int)) = some (.inl (st (j + 1), ((j + 1 : Nat) : Int))) := by
   refine ⟨fun j => Nat.rec 0 (fun i a => IntKind.i64.wrap (IntKind.i64.wrap (a * 16) + (s[i]?.map dv).getD 0)) j, rfl, fun j hjk => ?_⟩
   have hlt : j < s.length := by omega
   have h0 := hj j hjk
   rw [List.getElem?_eq_getElem hlt] at h0
   simp only [Option.map_some, Option.getD_some] at h0
   rw [hstep _ j hlt, if_neg (by rw [h0]; simp)]
   simp only [List.getElem?_eq_getElem hlt, Option.map_some, Option.getD_some]
  obtain ⟨st, st0, hst⟩ := hrun
  have h := iter_run (step := g361_l0 s) (fun j => (st j, (j : Int))) k hst
  rw [st0] at h
  have h' : iter (g361_l0 s) (0, 0) = some (.inr (0, false)) := h.trans (iter_end (by rw [hstep _ k hk, if_pos hn]))
  refine ⟨0, false, by simp only [g361, h', Option.bind_some], ?_, fun hG => absurd hG hnG⟩
  exact ⟨(fun h => by cases h), fun h => absurd h hnG⟩
end Go.Ev
end
section
set_option maxHeartbeats 1000000
namespace Go.Ev
theorem tt : (true == true) = true := rfl
theorem nf : (!false) = true := rfl
theorem num_yes {s : List UInt8} (hs : s.length ≤ 4194304) (G : Good s) : g361 s = some ((valU s : Int), true) := by
 obtain ⟨n, b, e, hb, hn⟩ := number_spec s hs
 rw [e, hn G, hb.2 G]
theorem num_no {s : List UInt8} (hs : s.length ≤ 4194304) (G : ¬ Good s) : ∃ n, g361 s = some (n, false) := by
 obtain ⟨n, b, e, hb, hn⟩ := number_spec s hs
 refine ⟨n, ?_⟩
 rw [e]
 cases b
 ·rfl
 ·exact absurd (hb.1 rfl) G
theorem slcT (l : List UInt8) (b : Nat) (h : b ≤ l.length) : slc l 0 (b : Int) = some (l.take b) := slcK l 0 b (by omega) h
theorem slcE (l : List UInt8) (a : Nat) (h : a ≤ l.length) : slc l (a : Int) (l.length : Int) = some (l.drop a) := by
 rw [slcK l a l.length h (Nat.le_refl _), List.take_length]
theorem has_eq (s w : List UInt8) : g375 s w = some (s.take w.length == w) := by
 unfold g375
 by_cases h : w.length ≤ s.length
 ·rw [decide_eq_true (show (s.length : Int) ≥ (w.length : Int) by omega), if_pos tt, slcT s w.length h]
  rfl
 ·rw [decide_eq_false (show ¬ (s.length : Int) ≥ (w.length : Int) by omega), if_neg (by simp)]
  have : (s.take w.length == w) = false := by
   rw [beq_eq_false_iff_ne]
   intro he
   have := congrArg List.length he
   simp at this
   omega
  rw [this]
  rfl
theorem cut_yes {s w : List UInt8} (h : s.take w.length = w) : g363 s w = some (s.drop w.length, true) := by
 have hl : w.length ≤ s.length := by
  have := congrArg List.length h
  simp at this
  omega
 unfold g363 g372
 rw [has_eq, h, Option.bind_some, beq_self_eq_true, if_neg (by simp), slcE s w.length hl]
 rfl
theorem cut_no {s w : List UInt8} (h : ¬ s.take w.length = w) : g363 s w = some (s, false) := by
 unfold g363 g372
 rw [has_eq, Option.bind_some, beq_eq_false_iff_ne.2 h, if_pos nf]
 rfl
def Two (a : List UInt8) : Prop := Good (a.take 16) ∧ Good ((a.drop 16).take 16)
theorem two_yes {a : List UInt8} (x y : List UInt8) (ha : a.length ≤ 4194304) (h : Two a) :
  g365 a x y = some ((valU (a.take 16) : Int), (valU ((a.drop 16).take 16) : Int), (a.drop 32 == x), bif (a.drop 32 == x) then true else (a.drop 32 == y)) := by
 unfold g365
 rw [(read_impl a ha).1 h.1, Option.bind_some]
 dsimp only
 rw [(read_impl (a.drop 16) (by simp; omega)).1 h.2, Option.bind_some]
 simp only [bindv, List.drop_drop, cond_true]
theorem good_nil : ¬ Good (([] : List UInt8).take 16) := fun h => by have := h.1; simp at this
theorem two_no {a : List UInt8} (x y : List UInt8) (ha : a.length ≤ 4194304) (h : ¬ Two a) : ∃ n m b, g365 a x y = some (n, m, b, false) := by
 unfold g365
 by_cases h1 : Good (a.take 16)
 ·have h2 : ¬ Good ((a.drop 16).take 16) := fun h2 => h ⟨h1, h2⟩
  rw [(read_impl a ha).1 h1, Option.bind_some]
  dsimp only
  rw [(read_impl (a.drop 16) (by simp; omega)).2 h2, Option.bind_some]
  exact ⟨_, _, _, rfl⟩
 ·rw [(read_impl a ha).2 h1, Option.bind_some]
  dsimp only
  rw [(read_impl [] (by simp)).2 good_nil, Option.bind_some]
  exact ⟨_, _, _, rfl⟩
theorem good_len {s : List UInt8} (h : Good (s.take 16)) : 16 ≤ s.length := by
 have := h.1
 simp at this
 omega
theorem two_len {a : List UInt8} (h : Two a) : 32 ≤ a.length := by
 have h1 := good_len h.1
 have h2 := good_len h.2
 simp at h2
 omega
theorem two_short {a : List UInt8} (x y : List UInt8) (hx : x ≠ []) (hy : y ≠ []) (hl : a.length ≤ 32) : ∃ n m b, g365 a x y = some (n, m, b, false) := by
 by_cases h : Two a
 ·have := two_len h
  have he : a.drop 32 = [] := List.drop_eq_nil_of_le hl
  refine ⟨(valU (a.take 16) : Int), (valU ((a.drop 16).take 16) : Int), false, ?_⟩
  rw [two_yes x y (by omega) h, he]
  have e1 : (([] : List UInt8) == x) = false := beq_eq_false_iff_ne.2 (Ne.symm hx)
  have e2 : (([] : List UInt8) == y) = false := beq_eq_false_iff_ne.2 (Ne.symm hy)
  rw [e1, e2]
  rfl
 ·exact two_no x y (by omega) h
def Alike (v : DVault) (p : DPair) : Prop :=
 (∃ w, g319 v p = some (w, true) ∧ g323 v p = some (true, w) ∧ w.table.list_.length ≤ v.table.list_.length + 1 ∧ w.intents.length ≤ v.intents.length + 1 ∧ w.accounts = v.accounts ∧ (I64 v.table.next → I64 w.table.next)) ∨
 ∃ w1 w2, g319 v p = some (w1, false) ∧ g323 v p = some (false, w2)
theorem key_23 (k : List UInt8) : (if (((k.length : Int) == 23) == true) = true then slc k 0 7 else some default).bind (fun s1 => some (bif ((k.length : Int) == 23) then (s1 == wIntent) else false)) = some (decide (k.length = 23) && (k.take 7 == wIntent)) := by
 by_cases h : k.length = 23
 ·have e : ((k.length : Int) == 23) = true := by rw [beq_iff_eq]; omega
  rw [e, if_pos tt, show slc k 0 7 = some (k.take 7) from slcT k 7 (by omega), decide_eq_true h]
  rfl
 ·have e : ((k.length : Int) == 23) = false := by rw [beq_eq_false_iff_ne]; omega
  rw [e, if_neg (by simp), decide_eq_false h]
  rfl
theorem key_22 (k x : List UInt8) : (if (((k.length : Int) == 22) == true) = true then slc k 0 6 else some default).bind (fun s1 => some (bif (bif ((k.length : Int) == 22) then (s1 == wLease) else false) then (decide ((x.length : Int) > 32)) else false)) = some (decide (k.length = 22) && (k.take 6 == wLease) && decide (x.length > 32)) := by
 by_cases h : k.length = 22
 ·have e : ((k.length : Int) == 22) = true := by rw [beq_iff_eq]; omega
  rw [e, if_pos tt, show slc k 0 6 = some (k.take 6) from slcT k 6 (by omega), decide_eq_true h]
  have : decide ((x.length : Int) > 32) = decide (x.length > 32) := by congr 1; apply propext; omega
  rw [this]
  simp
 ·have e : ((k.length : Int) == 22) = false := by rw [beq_eq_false_iff_ne]; omega
  rw [e, if_neg (by simp), decide_eq_false h]
  rfl
theorem keyI (v : DVault) (p : DPair) (hk : p.key.length ≤ 60) (hi : v.intents.length ≤ 1048576) (h : p.key.take 7 = wIntent) : Alike v p := by
 have hl : 7 ≤ p.key.length := by
  have := congrArg List.length h
  simp at this
  omega
 have n6 : ¬ p.key.take 6 = wLease := fun h6 => by
  have : (p.key.take 7).take 6 = p.key.take 6 := by rw [List.take_take]; rfl
  rw [h, h6] at this
  exact absurd this (by decide)
 have nv : (p.key == wVault) = false := by
  rw [beq_eq_false_iff_ne]
  intro he
  rw [he] at hl
  exact absurd hl (by decide)
 have c1 : g363 p.key wIntent = some (p.key.drop 7, true) := cut_yes h
 have hb : p.key.take 7 == wIntent := by rw [beq_iff_eq]; exact h
 have k1 := key_23 p.key
 have k2 := key_22 p.key p.value
 by_cases h23 : p.key.length = 23
 ·have e23 : ((p.key.length : Int) == 23) = true := by rw [beq_iff_eq]; omega
  have d7 : (p.key.drop 7).take 16 = p.key.drop 7 := List.take_of_length_le (by simp; omega)
  have s7 : slc p.key 7 (p.key.length : Int) = some (p.key.drop 7) := slcE p.key 7 hl
  have t7 : slc p.key 0 7 = some wIntent := by rw [← h]; exact slcT p.key 7 hl
  have len : (v.intents.length + 1) * 16 ≤ 140737488355328 := by omega
  by_cases G : Good (p.key.drop 7)
  ·have r1 := (read_impl (p.key.drop 7) (by simp; omega)).1 (by rw [d7]; exact G)
   have r2 := num_yes (s := p.key.drop 7) (by simp; omega) G
   have d0 : (p.key.drop 7).drop 16 = [] := List.drop_eq_nil_of_le (by simp; omega)
   rw [d7, d0] at r1
   cases hw : (bif (p.value == wUndo) then true else (p.value == wBegun))
   ·right
    refine ⟨DVault.mk v.table (v.intents ++ [DIntent.mk (valU (p.key.drop 7)) (p.value == wUndo)]) v.accounts v.sealed, DVault.mk v.table (v.intents ++ [DIntent.mk (valU (p.key.drop 7)) (p.value == wUndo)]) v.accounts v.sealed, ?_, ?_⟩
    ·simp only [g319, e23, t7, s7, r2, Option.bind_some, bindv, tt, if_true, beq_self_eq_true, cond_true, List.length_singleton, len, hw]
    ·simp only [g323, c1, r1, Option.bind_some, bindv, if_true, beq_self_eq_true, cond_true, List.length_singleton, len, hw]
   ·left
    refine ⟨DVault.mk v.table (v.intents ++ [DIntent.mk (valU (p.key.drop 7)) (p.value == wUndo)]) v.accounts v.sealed, ?_, ?_, by simp, by simp, rfl, fun h => h⟩
    ·simp only [g319, e23, t7, s7, r2, Option.bind_some, bindv, tt, if_true, beq_self_eq_true, cond_true, List.length_singleton, len, hw]
    ·simp only [g323, c1, r1, Option.bind_some, bindv, if_true, beq_self_eq_true, cond_true, List.length_singleton, len, hw]
  ·have r1 := (read_impl (p.key.drop 7) (by simp; omega)).2 (by rw [d7]; exact G)
   obtain ⟨n, r2⟩ := num_no (s := p.key.drop 7) (by simp; omega) G
   right
   refine ⟨DVault.mk v.table (v.intents ++ [DIntent.mk n (p.value == wUndo)]) v.accounts v.sealed, DVault.mk v.table (v.intents ++ [DIntent.mk 0 (p.value == wUndo)]) v.accounts v.sealed, ?_, ?_⟩
   ·simp only [g319, e23, t7, s7, r2, Option.bind_some, bindv, tt, if_true, beq_self_eq_true, cond_true, cond_false, List.length_singleton, len]
   ·simp only [g323, c1, r1, Option.bind_some, bindv, if_true, beq_self_eq_true, cond_true, cond_false, List.length_singleton, len]
 ·have e23 : ((p.key.length : Int) == 23) = false := by rw [beq_eq_false_iff_ne]; omega
  have len : (v.intents.length + 1) * 16 ≤ 140737488355328 := by omega
  right
  have hs : g319 v p = some (v, false) := by
   have k3 : (bif ((p.key.length : Int) == 22) then (p.key.take 6 == wLease) else false) = false := by
    rw [beq_eq_false_iff_ne.2 n6]; cases ((p.key.length : Int) == 22) <;> rfl
   by_cases h22 : p.key.length = 22
   ·have e22 : ((p.key.length : Int) == 22) = true := by rw [beq_iff_eq]; omega
    have t6 : slc p.key 0 6 = some (p.key.take 6) := slcT p.key 6 (by omega)
    simp only [g319, e23, e22, t6, Option.bind_some, bindv, tt, if_true, cond_true, cond_false, beq_eq_false_iff_ne.2 n6, nv]
    simp
   ·have e22 : ((p.key.length : Int) == 22) = false := by rw [beq_eq_false_iff_ne]; omega
    simp only [g319, e23, e22, Option.bind_some, bindv, cond_true, cond_false, nv]
    simp
  by_cases G : Good ((p.key.drop 7).take 16)
  ·have r1 := (read_impl (p.key.drop 7) (by simp; omega)).1 G
   have g := good_len G
   have d0 : ((p.key.drop 7).drop 16 == []) = false := by
    rw [beq_eq_false_iff_ne]
    intro he
    have := congrArg List.length he
    simp at this g
    omega
   refine ⟨v, DVault.mk v.table (v.intents ++ [DIntent.mk (valU ((p.key.drop 7).take 16)) (p.value == wUndo)]) v.accounts v.sealed, hs, ?_⟩
   simp only [g323, c1, r1, Option.bind_some, bindv, if_true, cond_true, cond_false, List.length_singleton, len, d0]
  ·have r1 := (read_impl (p.key.drop 7) (by simp; omega)).2 G
   refine ⟨v, DVault.mk v.table (v.intents ++ [DIntent.mk 0 (p.value == wUndo)]) v.accounts v.sealed, hs, ?_⟩
   simp only [g323, c1, r1, Option.bind_some, bindv, if_true, cond_true, cond_false, List.length_singleton, len]
theorem keyL (v : DVault) (p : DPair) (hk : p.key.length ≤ 60) (hv : p.value.length ≤ 400) (hl : v.table.list_.length ≤ 1048576) (n7 : ¬ p.key.take 7 = wIntent) (h : p.key.take 6 = wLease) : Alike v p := by
 have h6 : 6 ≤ p.key.length := by
  have := congrArg List.length h
  simp at this
  omega
 have nv : (p.key == wVault) = false := by
  rw [beq_eq_false_iff_ne]
  intro he
  rw [he] at h6
  exact absurd h6 (by decide)
 have c0 : g363 p.key wIntent = some (p.key, false) := cut_no n7
 have c1 : g363 p.key wLease = some (p.key.drop 6, true) := cut_yes h
 have e7 : (p.key.take 7 == wIntent) = false := beq_eq_false_iff_ne.2 n7
 have len : (v.table.list_.length + 1) * 32 ≤ 140737488355328 := by omega
 have s1 : ∃ x, (if (((p.key.length : Int) == 23) == true) = true then slc p.key 0 7 else some default) = some x ∧ (bif ((p.key.length : Int) == 23) then (x == wIntent) else false) = false := by
  by_cases h23 : p.key.length = 23
  ·have e23 : ((p.key.length : Int) == 23) = true := by rw [beq_iff_eq]; omega
   exact ⟨p.key.take 7, by rw [e23, if_pos tt]; exact slcT p.key 7 (by omega), by rw [e23, e7]; rfl⟩
  ·have e23 : ((p.key.length : Int) == 23) = false := by rw [beq_eq_false_iff_ne]; omega
   exact ⟨default, by rw [e23]; rfl, by rw [e23]; rfl⟩
 obtain ⟨x, x1, x2⟩ := s1
 by_cases h22 : p.key.length = 22
 ·have e22 : ((p.key.length : Int) == 22) = true := by rw [beq_iff_eq]; omega
  have d6 : (p.key.drop 6).take 16 = p.key.drop 6 := List.take_of_length_le (by simp; omega)
  have s6 : slc p.key 6 (p.key.length : Int) = some (p.key.drop 6) := slcE p.key 6 h6
  have t6 : slc p.key 0 6 = some wLease := by rw [← h]; exact slcT p.key 6 h6
  have d0 : (p.key.drop 6).drop 16 = [] := List.drop_eq_nil_of_le (by simp; omega)
  by_cases h32 : p.value.length > 32
  ·have e32 : decide ((p.value.length : Int) > 32) = true := decide_eq_true (by omega)
   have v1 : slc p.value 0 16 = some (p.value.take 16) := slcT p.value 16 (by omega)
   have v2 : slc p.value 16 32 = some ((p.value.drop 16).take 16) := by
    rw [show slc p.value 16 32 = some ((p.value.take 32).drop 16) from slcK p.value 16 32 (by omega) (by omega), List.drop_take]
   have v3 : slc p.value 32 (p.value.length : Int) = some (p.value.drop 32) := slcE p.value 32 (by omega)
   by_cases G : Good (p.key.drop 6) ∧ Two p.value
   ·have r1 := (read_impl (p.key.drop 6) (by simp; omega)).1 (by rw [d6]; exact G.1)
    rw [d6, d0] at r1
    have r2 := num_yes (s := p.key.drop 6) (by simp; omega) G.1
    have r3 := num_yes (s := p.value.take 16) (by simp; omega) G.2.1
    have r4 := num_yes (s := (p.value.drop 16).take 16) (by simp; omega) G.2.2
    have r5 := two_yes wQueued wLive (show p.value.length ≤ 4194304 by omega) G.2
    cases hq : (p.value.drop 32 == wQueued)
    ·cases hw : (p.value.drop 32 == wLive)
     ·right
      refine ⟨DVault.mk (DTable.mk v.table.clock v.table.next (v.table.list_ ++ [DLease.mk (valU (p.key.drop 6)) (valU (p.value.take 16)) (valU ((p.value.drop 16).take 16)) false])) v.intents v.accounts v.sealed, DVault.mk (DTable.mk v.table.clock v.table.next (v.table.list_ ++ [DLease.mk (valU (p.key.drop 6)) (valU (p.value.take 16)) (valU ((p.value.drop 16).take 16)) false])) v.intents v.accounts v.sealed, ?_, ?_⟩
      ·simp only [g319, x1, x2, e22, e32, t6, s6, v1, v2, v3, r2, r3, r4, Option.bind_some, bindv, tt, if_true, beq_self_eq_true, cond_true, cond_false, Bool.true_and, List.length_singleton, len, hq, hw, Bool.false_eq_true, if_false]
      ·simp only [g323, c0, c1, r1, r5, Option.bind_some, bindv, if_true, if_false, beq_self_eq_true, cond_true, cond_false, List.length_singleton, len, hq, hw, Bool.false_eq_true]
     ·left
      refine ⟨DVault.mk (DTable.mk v.table.clock v.table.next (v.table.list_ ++ [DLease.mk (valU (p.key.drop 6)) (valU (p.value.take 16)) (valU ((p.value.drop 16).take 16)) false])) v.intents v.accounts v.sealed, ?_, ?_, by simp, by simp, rfl, fun h => h⟩
      ·simp only [g319, x1, x2, e22, e32, t6, s6, v1, v2, v3, r2, r3, r4, Option.bind_some, bindv, tt, if_true, beq_self_eq_true, cond_true, cond_false, Bool.true_and, List.length_singleton, len, hq, hw, Bool.false_eq_true, if_false]
      ·simp only [g323, c0, c1, r1, r5, Option.bind_some, bindv, if_true, if_false, beq_self_eq_true, cond_true, cond_false, List.length_singleton, len, hq, hw, Bool.false_eq_true]
    ·left
     refine ⟨DVault.mk (DTable.mk v.table.clock v.table.next (v.table.list_ ++ [DLease.mk (valU (p.key.drop 6)) (valU (p.value.take 16)) (valU ((p.value.drop 16).take 16)) true])) v.intents v.accounts v.sealed, ?_, ?_, by simp, by simp, rfl, fun h => h⟩
     ·simp only [g319, x1, x2, e22, e32, t6, s6, v1, v2, v3, r2, r3, r4, Option.bind_some, bindv, tt, if_true, beq_self_eq_true, cond_true, cond_false, Bool.true_and, Bool.and_true, Bool.and_false, List.length_singleton, len, hq, Bool.false_eq_true, if_false, show (true == false) = false from rfl]
     ·simp only [g323, c0, c1, r1, r5, Option.bind_some, bindv, if_true, if_false, beq_self_eq_true, cond_true, cond_false, List.length_singleton, len, hq, Bool.false_eq_true]
   ·right
    have hi : ∃ w, g323 v p = some (false, w) := by
     by_cases Gk : Good (p.key.drop 6)
     ·have r1 := (read_impl (p.key.drop 6) (by simp; omega)).1 (by rw [d6]; exact Gk)
      rw [d6, d0] at r1
      obtain ⟨n, m, b, r5⟩ := two_no wQueued wLive (show p.value.length ≤ 4194304 by omega) (fun h => G ⟨Gk, h⟩)
      exact ⟨DVault.mk (DTable.mk v.table.clock v.table.next (v.table.list_ ++ [DLease.mk (valU (p.key.drop 6)) n m b])) v.intents v.accounts v.sealed, by
       simp only [g323, c0, c1, r1, r5, Option.bind_some, bindv, if_true, if_false, beq_self_eq_true, cond_true, cond_false, List.length_singleton, len, Bool.false_eq_true]⟩
     ·have r1 := (read_impl (p.key.drop 6) (by simp; omega)).2 (by rw [d6]; exact Gk)
      by_cases T : Two p.value
      ·have r5 := two_yes wQueued wLive (show p.value.length ≤ 4194304 by omega) T
       exact ⟨_, by
        simp only [g323, c0, c1, r1, r5, Option.bind_some, bindv, if_true, if_false, beq_self_eq_true, cond_true, cond_false, List.length_singleton, len, Bool.false_eq_true]
        rfl⟩
      ·obtain ⟨n, m, b, r5⟩ := two_no wQueued wLive (show p.value.length ≤ 4194304 by omega) T
       exact ⟨_, by
        simp only [g323, c0, c1, r1, r5, Option.bind_some, bindv, if_true, if_false, beq_self_eq_true, cond_true, cond_false, List.length_singleton, len, Bool.false_eq_true]
        rfl⟩
    have hs : ∃ w, g319 v p = some (w, false) := by
     have any (s : List UInt8) (hs : s.length ≤ 4194304) : ∃ n b, g361 s = some (n, b) ∧ (b = true ↔ Good s) := by
      obtain ⟨n, b, e, hb, _⟩ := number_spec s hs
      exact ⟨n, b, e, hb⟩
     obtain ⟨n1, b1, r2, g1⟩ := any (p.key.drop 6) (by simp; omega)
     obtain ⟨n2, b2, r3, g2⟩ := any (p.value.take 16) (by simp; omega)
     obtain ⟨n3, b3, r4, g3⟩ := any ((p.value.drop 16).take 16) (by simp; omega)
     have hb : (bif (bif b1 then b2 else false) then b3 else false) = false := by
      cases hx : (bif (bif b1 then b2 else false) then b3 else false)
      ·rfl
      ·exfalso
       apply G
       cases b1 <;> cases b2 <;> cases b3 <;> simp at hx
       exact ⟨g1.1 rfl, g2.1 rfl, g3.1 rfl⟩
     exact ⟨DVault.mk (DTable.mk v.table.clock v.table.next (v.table.list_ ++ [DLease.mk n1 n2 n3 (p.value.drop 32 == wQueued)])) v.intents v.accounts v.sealed, by
      simp only [g319, x1, x2, e22, e32, t6, s6, v1, v2, v3, r2, r3, r4, Option.bind_some, bindv, tt, if_true, beq_self_eq_true, cond_true, cond_false, List.length_singleton, len, hb, Bool.false_eq_true, if_false, show (false == true) = false from rfl, Bool.false_and]⟩
    obtain ⟨w1, hs⟩ := hs
    obtain ⟨w2, hi⟩ := hi
    exact ⟨w1, w2, hs, hi⟩
  ·have e32 : decide ((p.value.length : Int) > 32) = false := decide_eq_false (by omega)
   right
   have hs : g319 v p = some (v, false) := by
    simp only [g319, x1, x2, e22, e32, t6, Option.bind_some, bindv, tt, if_true, beq_self_eq_true, cond_true, cond_false, nv, Bool.false_eq_true, if_false]
   obtain ⟨n, m, b, r5⟩ := two_short wQueued wLive (by decide) (by decide) (show p.value.length ≤ 32 by omega)
   have ⟨r, r1⟩ : ∃ r, g364 (p.key.drop 6) = some r := by
    by_cases Gk : Good ((p.key.drop 6).take 16)
    ·exact ⟨_, (read_impl (p.key.drop 6) (by simp; omega)).1 Gk⟩
    ·exact ⟨_, (read_impl (p.key.drop 6) (by simp; omega)).2 Gk⟩
   refine ⟨v, DVault.mk (DTable.mk v.table.clock v.table.next (v.table.list_ ++ [DLease.mk r.1 n m b])) v.intents v.accounts v.sealed, hs, ?_⟩
   simp only [g323, c0, c1, r1, r5, Option.bind_some, bindv, if_true, if_false, beq_self_eq_true, cond_true, cond_false, List.length_singleton, len, Bool.false_eq_true]
   cases (bif r.2.2 then r.2.1 == [] else false) <;> rfl
 ·have e22 : ((p.key.length : Int) == 22) = false := by rw [beq_eq_false_iff_ne]; omega
  right
  have hs : g319 v p = some (v, false) := by
   simp only [g319, x1, x2, e22, Option.bind_some, bindv, cond_true, cond_false, nv, Bool.false_eq_true, if_false, show (false == true) = false from rfl]
  have ⟨r, r1, rf⟩ : ∃ r, g364 (p.key.drop 6) = some r ∧ (bif r.2.2 then r.2.1 == [] else false) = false := by
   by_cases Gk : Good ((p.key.drop 6).take 16)
   ·refine ⟨_, (read_impl (p.key.drop 6) (by simp; omega)).1 Gk, ?_⟩
    have g := good_len Gk
    show ((p.key.drop 6).drop 16 == []) = false
    rw [beq_eq_false_iff_ne]
    intro he
    have := congrArg List.length he
    simp at this g
    omega
   ·exact ⟨_, (read_impl (p.key.drop 6) (by simp; omega)).2 Gk, rfl⟩
  have ⟨q, r5⟩ : ∃ q, g365 p.value wQueued wLive = some q := by
   by_cases T : Two p.value
   ·exact ⟨_, two_yes wQueued wLive (show p.value.length ≤ 4194304 by omega) T⟩
   ·obtain ⟨n, m, b, r5⟩ := two_no wQueued wLive (show p.value.length ≤ 4194304 by omega) T
    exact ⟨_, r5⟩
  refine ⟨v, DVault.mk (DTable.mk v.table.clock v.table.next (v.table.list_ ++ [DLease.mk r.1 q.1 q.2.1 q.2.2.1])) v.intents v.accounts v.sealed, hs, ?_⟩
  simp only [g323, c0, c1, r1, r5, Option.bind_some, bindv, if_true, if_false, rf, cond_true, cond_false, List.length_singleton, len, Bool.false_eq_true]
theorem keyV (v : DVault) (p : DPair) (hk : p.key.length ≤ 60) (hv : p.value.length ≤ 400) (n7 : ¬ p.key.take 7 = wIntent) (n6 : ¬ p.key.take 6 = wLease) : Alike v p := by
 have c0 : g363 p.key wIntent = some (p.key, false) := cut_no n7
 have c1 : g363 p.key wLease = some (p.key, false) := cut_no n6
 have e7 : (p.key.take 7 == wIntent) = false := beq_eq_false_iff_ne.2 n7
 have e6 : (p.key.take 6 == wLease) = false := beq_eq_false_iff_ne.2 n6
 have s1 : ∃ x, (if (((p.key.length : Int) == 23) == true) = true then slc p.key 0 7 else some default) = some x ∧ (bif ((p.key.length : Int) == 23) then (x == wIntent) else false) = false := by
  by_cases h23 : p.key.length = 23
  ·have e23 : ((p.key.length : Int) == 23) = true := by rw [beq_iff_eq]; omega
   exact ⟨p.key.take 7, by rw [e23, if_pos tt]; exact slcT p.key 7 (by omega), by rw [e23, e7]; rfl⟩
  ·have e23 : ((p.key.length : Int) == 23) = false := by rw [beq_eq_false_iff_ne]; omega
   exact ⟨default, by rw [e23]; rfl, by rw [e23]; rfl⟩
 obtain ⟨x, x1, x2⟩ := s1
 have s2 : ∃ y, (if (((p.key.length : Int) == 22) == true) = true then slc p.key 0 6 else some default) = some y ∧ (bif ((p.key.length : Int) == 22) then (y == wLease) else false) = false := by
  by_cases h22 : p.key.length = 22
  ·have e22 : ((p.key.length : Int) == 22) = true := by rw [beq_iff_eq]; omega
   exact ⟨p.key.take 6, by rw [e22, if_pos tt]; exact slcT p.key 6 (by omega), by rw [e22, e6]; rfl⟩
  ·have e22 : ((p.key.length : Int) == 22) = false := by rw [beq_eq_false_iff_ne]; omega
   exact ⟨default, by rw [e22]; rfl, by rw [e22]; rfl⟩
 obtain ⟨y, y1, y2⟩ := s2
 by_cases hK : p.key = wVault
 ·have ek : (p.key == wVault) = true := by rw [beq_iff_eq]; exact hK
  by_cases h32 : p.value.length > 32
  ·have e32 : decide ((p.value.length : Int) > 32) = true := decide_eq_true (by omega)
   have v1 : slc p.value 0 16 = some (p.value.take 16) := slcT p.value 16 (by omega)
   have v2 : slc p.value 16 32 = some ((p.value.drop 16).take 16) := by
    rw [show slc p.value 16 32 = some ((p.value.take 32).drop 16) from slcK p.value 16 32 (by omega) (by omega), List.drop_take]
   have v3 : slc p.value 32 (p.value.length : Int) = some (p.value.drop 32) := slcE p.value 32 (by omega)
   by_cases G : Two p.value
   ·have r3 := num_yes (s := p.value.take 16) (by simp; omega) G.1
    have r4 := num_yes (s := (p.value.drop 16).take 16) (by simp; omega) G.2
    have r5 := two_yes wSealed wOpen (show p.value.length ≤ 4194304 by omega) G
    have vb := val_bound G.2
    cases hq : (p.value.drop 32 == wSealed)
    ·cases hw : (p.value.drop 32 == wOpen)
     ·right
      refine ⟨DVault.mk (DTable.mk (valU (p.value.take 16)) (valU ((p.value.drop 16).take 16)) v.table.list_) v.intents v.accounts false, DVault.mk (DTable.mk (valU (p.value.take 16)) (valU ((p.value.drop 16).take 16)) v.table.list_) v.intents v.accounts false, ?_, ?_⟩
      ·simp only [g319, x1, x2, y1, y2, ek, e32, v1, v2, v3, r3, r4, Option.bind_some, bindv, tt, if_true, beq_self_eq_true, cond_true, cond_false, Bool.true_and, hq, hw, Bool.false_eq_true, if_false]
      ·simp only [g323, c0, c1, ek, r5, Option.bind_some, bindv, if_true, if_false, beq_self_eq_true, cond_true, cond_false, hq, hw, Bool.false_eq_true]
     ·left
      refine ⟨DVault.mk (DTable.mk (valU (p.value.take 16)) (valU ((p.value.drop 16).take 16)) v.table.list_) v.intents v.accounts false, ?_, ?_, by simp, by simp, rfl, fun _ => ⟨by show (-9223372036854775808 : Int) ≤ (valU ((p.value.drop 16).take 16) : Int); omega, vb⟩⟩
      ·simp only [g319, x1, x2, y1, y2, ek, e32, v1, v2, v3, r3, r4, Option.bind_some, bindv, tt, if_true, beq_self_eq_true, cond_true, cond_false, Bool.true_and, hq, hw, Bool.false_eq_true, if_false]
      ·simp only [g323, c0, c1, ek, r5, Option.bind_some, bindv, if_true, if_false, beq_self_eq_true, cond_true, cond_false, hq, hw, Bool.false_eq_true]
    ·left
     refine ⟨DVault.mk (DTable.mk (valU (p.value.take 16)) (valU ((p.value.drop 16).take 16)) v.table.list_) v.intents v.accounts true, ?_, ?_, by simp, by simp, rfl, fun _ => ⟨by show (-9223372036854775808 : Int) ≤ (valU ((p.value.drop 16).take 16) : Int); omega, vb⟩⟩
     ·simp only [g319, x1, x2, y1, y2, ek, e32, v1, v2, v3, r3, r4, Option.bind_some, bindv, tt, if_true, beq_self_eq_true, cond_true, cond_false, Bool.true_and, Bool.and_false, hq, Bool.false_eq_true, if_false, show (true == false) = false from rfl]
     ·simp only [g323, c0, c1, ek, r5, Option.bind_some, bindv, if_true, if_false, beq_self_eq_true, cond_true, cond_false, hq, Bool.false_eq_true]
   ·right
    obtain ⟨n, m, b, r5⟩ := two_no wSealed wOpen (show p.value.length ≤ 4194304 by omega) G
    obtain ⟨n2, b2, r3, g2, _⟩ := number_spec (p.value.take 16) (by simp; omega)
    obtain ⟨n3, b3, r4, g3, _⟩ := number_spec ((p.value.drop 16).take 16) (by simp; omega)
    have hb : (bif b2 then b3 else false) = false := by
     cases hx : (bif b2 then b3 else false)
     ·rfl
     ·exfalso
      apply G
      cases b2 <;> cases b3 <;> simp at hx
      exact ⟨g2.1 rfl, g3.1 rfl⟩
    refine ⟨DVault.mk (DTable.mk n2 n3 v.table.list_) v.intents v.accounts (p.value.drop 32 == wSealed), DVault.mk (DTable.mk n m v.table.list_) v.intents v.accounts b, ?_, ?_⟩
    ·simp only [g319, x1, x2, y1, y2, ek, e32, v1, v2, v3, r3, r4, Option.bind_some, bindv, tt, if_true, beq_self_eq_true, cond_true, cond_false, Bool.false_and, hb, Bool.false_eq_true, if_false, show (false == true) = false from rfl]
    ·simp only [g323, c0, c1, ek, r5, Option.bind_some, bindv, if_true, if_false, beq_self_eq_true, cond_true, cond_false, Bool.false_eq_true]
  ·have e32 : decide ((p.value.length : Int) > 32) = false := decide_eq_false (by omega)
   right
   obtain ⟨n, m, b, r5⟩ := two_short wSealed wOpen (by decide) (by decide) (show p.value.length ≤ 32 by omega)
   refine ⟨v, DVault.mk (DTable.mk n m v.table.list_) v.intents v.accounts b, ?_, ?_⟩
   ·simp only [g319, x1, x2, y1, y2, ek, e32, Option.bind_some, bindv, tt, if_true, beq_self_eq_true, cond_true, cond_false, Bool.false_eq_true, if_false]
   ·simp only [g323, c0, c1, ek, r5, Option.bind_some, bindv, if_true, if_false, beq_self_eq_true, cond_true, cond_false, Bool.false_eq_true]
 ·have ek : (p.key == wVault) = false := beq_eq_false_iff_ne.2 hK
  right
  have ⟨q, r5⟩ : ∃ q, g365 p.value wSealed wOpen = some q := by
   by_cases T : Two p.value
   ·exact ⟨_, two_yes wSealed wOpen (show p.value.length ≤ 4194304 by omega) T⟩
   ·obtain ⟨n, m, b, r5⟩ := two_no wSealed wOpen (show p.value.length ≤ 4194304 by omega) T
    exact ⟨_, r5⟩
  refine ⟨v, DVault.mk (DTable.mk q.1 q.2.1 v.table.list_) v.intents v.accounts q.2.2.1, ?_, ?_⟩
  ·simp only [g319, x1, x2, y1, y2, ek, Option.bind_some, bindv, tt, if_true, beq_self_eq_true, cond_true, cond_false, Bool.false_eq_true, if_false]
  ·simp only [g323, c0, c1, ek, r5, Option.bind_some, bindv, if_true, if_false, beq_self_eq_true, cond_true, cond_false, Bool.false_eq_true]
theorem pair_alike (v : DVault) (p : DPair) (hk : p.key.length ≤ 60) (hv : p.value.length ≤ 400) (hl : v.table.list_.length ≤ 1048576) (hi : v.intents.length ≤ 1048576) : Alike v p := by
 by_cases h7 : p.key.take 7 = wIntent
 ·exact keyI v p hk hi h7
 ·by_cases h6 : p.key.take 6 = wLease
  ·exact keyL v p hk hv hl h7 h6
  ·exact keyV v p hk hv h7 h6
end Go.Ev
end
section
set_option maxHeartbeats 1000000
namespace Go.Ev
def entryOK (x : DPair) : Bool := decide (1 ≤ x.key.length ∧ x.key.length ≤ 60) && decide (x.value.length ≤ 400)
def storeOK (l : List DPair) (k : Nat) : Bool := entryOK (l[k]?.getD default) && (decide (k = 0) || Op.bytesLess (l[k - 1]?.getD default).key (l[k]?.getD default).key)
theorem g360_eq (x : DPair) : g360 (DChange.mk x.key x.value false) = some (entryOK x) := by
 simp only [g360, bindv, entryOK]
 congr 1
 by_cases h1 : 1 ≤ x.key.length <;> by_cases h2 : x.key.length ≤ 60 <;> by_cases h3 : x.value.length ≤ 400
 all_goals
  rw [show decide ((x.key.length : Int) > 0) = decide (1 ≤ x.key.length) by congr 1; apply propext; omega,
   show decide ((x.key.length : Int) ≤ 60) = decide (x.key.length ≤ 60) by congr 1; apply propext; omega,
   show decide ((x.value.length : Int) ≤ 400) = decide (x.value.length ≤ 400) by congr 1; apply propext; omega]
  simp [h1, h2, h3]
theorem g362_eq (x : List UInt8) : g362 x = some (decide (1 ≤ x.length ∧ x.length ≤ 60)) := by
 simp only [g362, g63, Option.bind_some]
 rw [show decide ((1 : Int) ≤ (x.length : Int)) = decide (1 ≤ x.length) by congr 1; apply propext; omega,
  show decide ((x.length : Int) ≤ 60) = decide (x.length ≤ 60) by congr 1; apply propext; omega]
 by_cases h1 : 1 ≤ x.length <;> by_cases h2 : x.length ≤ 60 <;> simp [h1, h2]
theorem wr1 : IntKind.i64.wrap 1 = 1 := wr ⟨by decide, by decide⟩
theorem w0 {k : Nat} (h : k < 4611686018427387904) (h0 : 0 < k) : IntKind.i64.wrap ((k : Int) - 1) = ((k - 1 : Nat) : Int) := by rw [wr ⟨by omega, by omega⟩]; omega
theorem store_spec (l : List DPair) (hl : l.length ≤ 1048576) :
  (iter (g318_l0 l) 0).bind (fun r => match r with | .inl () => some true | .inr q => some q) = some ((List.range l.length).all (storeOK l)) := by
 refine all_loop (storeOK l) (fun k hk _ => ?_) ?_
 ·simp only [g318_l0]
  rw [if_pos (decide_eq_true (by omega)), idx_lt hk]
  simp only [Option.bind_some, g360_eq]
  have eg : l[k]?.getD default = l[k] := by rw [List.getElem?_eq_getElem hk]; rfl
  by_cases he : entryOK l[k] = true
  ·by_cases h0 : k = 0
   ·subst h0
    have : storeOK l 0 = true := by simp only [storeOK, eg, he]; rfl
    rw [this, he]
    simp [bindv, wr1]
   ·have hk0 : 0 < k := by omega
    have e1 : decide ((k : Int) > 0) = true := decide_eq_true (by omega)
    have eg1 : l[k - 1]?.getD default = l[k - 1] := by rw [List.getElem?_eq_getElem (by omega)]; rfl
    have : storeOK l k = Op.bytesLess l[k - 1].key l[k].key := by simp only [storeOK, eg, he, eg1, decide_eq_false h0]; simp
    rw [this, he, e1, w0 (by omega) hk0, idx_lt (k := k - 1) (by omega)]
    simp only [bindv, Option.bind_some, w1 (show k < 4611686018427387904 by omega)]
    cases hb : Op.bytesLess l[k - 1].key l[k].key <;> simp [hb]
  ·have he' : entryOK l[k] = false := by simpa using he
   have : storeOK l k = false := by simp only [storeOK, eg, he']; rfl
   rw [this, he']
   simp [bindv]
 ·simp only [g318_l0]
  rw [if_neg (by simp)]
theorem store_impl (l : List DPair) (hl : l.length ≤ 1048576) :
  (iter (g322_l0 l) 0).bind (fun r => match r with | .inl () => some true | .inr q => some q) = some ((List.range l.length).all (storeOK l)) := by
 refine all_loop (storeOK l) (fun k hk _ => ?_) ?_
 ·simp only [g322_l0]
  rw [if_pos (decide_eq_true (by omega)), idx_lt hk]
  simp only [Option.bind_some, g362_eq]
  have eg : l[k]?.getD default = l[k] := by rw [List.getElem?_eq_getElem hk]; rfl
  have ev : (bif (!(decide (1 ≤ l[k].key.length ∧ l[k].key.length ≤ 60))) then true else (decide ((l[k].value.length : Int) > 400))) = !entryOK l[k] := by
   rw [show decide ((l[k].value.length : Int) > 400) = !decide (l[k].value.length ≤ 400) by
    rw [← decide_not]; congr 1; apply propext; omega]
   unfold entryOK
   cases decide (1 ≤ l[k].key.length ∧ l[k].key.length ≤ 60) <;> cases decide (l[k].value.length ≤ 400) <;> rfl
  rw [ev]
  by_cases he : entryOK l[k] = true
  ·by_cases h0 : k = 0
   ·subst h0
    have : storeOK l 0 = true := by simp only [storeOK, eg, he]; rfl
    rw [this, he]
    simp [bindv, wr1]
   ·have hk0 : 0 < k := by omega
    have e1 : decide ((k : Int) > 0) = true := decide_eq_true (by omega)
    have eg1 : l[k - 1]?.getD default = l[k - 1] := by rw [List.getElem?_eq_getElem (by omega)]; rfl
    have : storeOK l k = Op.bytesLess l[k - 1].key l[k].key := by simp only [storeOK, eg, he, eg1, decide_eq_false h0]; simp
    rw [this, he, e1, w0 (by omega) hk0, idx_lt (k := k - 1) (by omega)]
    simp only [bindv, Option.bind_some, w1 (show k < 4611686018427387904 by omega)]
    cases hb : Op.bytesLess l[k - 1].key l[k].key <;> simp [hb]
  ·have he' : entryOK l[k] = false := by simpa using he
   have : storeOK l k = false := by simp only [storeOK, eg, he']; rfl
   rw [this, he']
   simp [bindv]
 ·simp only [g322_l0]
  rw [if_neg (by simp)]
theorem store_eq (l : List DPair) (hl : l.length ≤ 1048576) : ∃ b, g318 l = some b ∧ g322 l = some b ∧ (b = true → l.length ≤ 100 ∧ ∀ x ∈ l, x.key.length ≤ 60 ∧ x.value.length ≤ 400) := by
 have h1 := store_spec l hl
 have h2 := store_impl l hl
 have hi : g322 l = some ((List.range l.length).all (storeOK l) && decide (l.length ≤ 100)) := by
  unfold g322
  cases hx : iter (g322_l0 l) 0 with
  | none => rw [hx] at h2; cases h2
  | some r =>
   rw [hx] at h2
   simp only [Option.bind_some] at h2 ⊢
   cases r with
   | inl u =>
    simp only [Option.some.injEq] at h2
    rw [← h2]
    simp only [Bool.true_and]
    congr 2
    apply propext; omega
   | inr q =>
    simp only [Option.some.injEq] at h2
    simp only [h2]
    have hq : q = false := by
     cases q with
     | false => rfl
     | true =>
      exfalso
      have hr : ∀ r, iter (g322_l0 l) 0 = some r → r = .inl () ∨ r = .inr false := by
       intro r hr
       obtain ⟨r', hr', hR⟩ := iterI (step := g322_l0 l) (fun s => ∃ k : Nat, s = (k : Int) ∧ k ≤ l.length) (fun s => (l.length - s).toNat) (fun r => r = .inl () ∨ r = .inr false) 0 ⟨0, rfl, by omega⟩ (by
        rintro _ ⟨k, rfl, hk⟩
        simp only [g322_l0]
        by_cases hlt : k < l.length
        ·rw [if_pos (decide_eq_true (by omega)), idx_lt hlt]
         simp only [Option.bind_some, g362_eq]
         have : ∃ y, (if (((bif (!decide (1 ≤ l[k].key.length ∧ l[k].key.length ≤ 60)) then true else (decide ((l[k].value.length : Int) > 400))) == false) && ((decide ((k : Int) > 0)) == true)) = true then idx l (IntKind.i64.wrap ((k : Int) - 1)) else some default) = some y := by
          split
          ·rename_i hc
           simp at hc
           rw [w0 (by omega) (by omega), idx_lt (k := k - 1) (by omega)]
           exact ⟨_, rfl⟩
          ·exact ⟨_, rfl⟩
         obtain ⟨y, hy⟩ := this
         rw [hy]
         simp only [Option.bind_some, bindv]
         split
         ·exact Or.inr ⟨_, rfl, Or.inr rfl⟩
         ·exact Or.inl ⟨_, rfl, ⟨k + 1, w1 (by omega), by omega⟩, by rw [w1 (by omega)]; omega⟩
        ·rw [if_neg (by simp; omega)]
         exact Or.inr ⟨_, rfl, Or.inl rfl⟩)
       rw [hr] at hr'
       cases hr'
       exact hR
      rcases hr _ hx with h | h
      ·cases h
      ·cases h
    rw [← h2, hq]
    rfl
 by_cases hn : l.length > 100
 ·refine ⟨false, ?_, ?_, fun h => by cases h⟩
  ·unfold g318
   rw [if_pos (decide_eq_true (by omega))]
  ·rw [hi, decide_eq_false (by omega), Bool.and_false]
 ·refine ⟨(List.range l.length).all (storeOK l), ?_, ?_, fun h => ⟨by omega, fun x hx => ?_⟩⟩
  ·unfold g318
   rw [if_neg (by simp; omega)]
   exact h1
  ·rw [hi, decide_eq_true (by omega), Bool.and_true]
  ·obtain ⟨k, hk, rfl⟩ := List.getElem_of_mem hx
   have := (List.all_eq_true.1 h) k (List.mem_range.2 hk)
   simp only [storeOK, List.getElem?_eq_getElem hk, Option.getD_some, entryOK, Bool.and_eq_true, decide_eq_true_eq] at this
   exact ⟨this.1.1.2, this.1.2⟩
abbrev zeroV : DVault := DVault.mk (DTable.mk 0 0 []) [] [] false
theorem of_loop (l : List DPair) (hl : l.length ≤ 100) (hx : ∀ x ∈ l, x.key.length ≤ 60 ∧ x.value.length ≤ 400) : ∀ m k, k + m = l.length → ∀ v : DVault, v.table.list_.length ≤ k → v.intents.length ≤ k → I64 v.table.next →
  ∃ r, iter (g256_l0 l) ((k : Int), v.table.clock, v.table.next, v.table.list_, v.intents, v.accounts, v.sealed) = some r ∧ iter (g258_l0 l) ((k : Int), v.table.clock, v.table.next, v.table.list_, v.intents, v.accounts, v.sealed) = some r ∧
   (r = .inr (zeroV, 3) ∨ ∃ w : DVault, r = .inl (w.table.clock, w.table.next, w.table.list_, w.intents, w.accounts, w.sealed) ∧ w.table.list_.length ≤ 100 ∧ w.intents.length ≤ 100 ∧ I64 w.table.next ∧ w.accounts = v.accounts) := by
 intro m
 induction m with
 | zero =>
  intro k hk v h1 h2 hn
  refine ⟨.inl (v.table.clock, v.table.next, v.table.list_, v.intents, v.accounts, v.sealed), iter_end ?_, iter_end ?_, Or.inr ⟨v, rfl, by omega, by omega, hn, rfl⟩⟩
  ·simp only [g256_l0]
   rw [if_neg (by simp; omega)]
  ·simp only [g258_l0]
   rw [if_neg (by simp; omega)]
 | succ m ih =>
  intro k hk v h1 h2 hn
  have hlt : k < l.length := by omega
  have hp := hx l[k] (List.getElem_mem hlt)
  rcases pair_alike v l[k] hp.1 hp.2 (by omega) (by omega) with ⟨w, e1, e2, b1, b2, b3, b4⟩ | ⟨w1', w2', e1, e2⟩
  ·obtain ⟨r, i1, i2, i3⟩ := ih (k + 1) (by omega) w (by omega) (by omega) (b4 hn)
   refine ⟨r, ?_, ?_, ?_⟩
   ·rw [iter_next (s' := (((k + 1 : Nat) : Int), w.table.clock, w.table.next, w.table.list_, w.intents, w.accounts, w.sealed)) ?_]
    ·exact i1
    ·simp only [g256_l0]
     rw [if_pos (decide_eq_true (by omega)), idx_lt hlt, Option.bind_some]
     have e1' : g319 (DVault.mk (DTable.mk v.table.clock v.table.next v.table.list_) v.intents v.accounts v.sealed) l[k] = some (w, true) := e1
     rw [e1', Option.bind_some, if_neg (by simp), w1 (show k < 4611686018427387904 by omega)]
   ·rw [iter_next (s' := (((k + 1 : Nat) : Int), w.table.clock, w.table.next, w.table.list_, w.intents, w.accounts, w.sealed)) ?_]
    ·exact i2
    ·simp only [g258_l0]
     rw [if_pos (decide_eq_true (by omega)), idx_lt hlt, Option.bind_some]
     have e2' : g323 (DVault.mk (DTable.mk v.table.clock v.table.next v.table.list_) v.intents v.accounts v.sealed) l[k] = some (true, w) := e2
     rw [e2', Option.bind_some, if_neg (by simp), w1 (show k < 4611686018427387904 by omega)]
   ·rw [← b3]; exact i3
  ·refine ⟨.inr (zeroV, 3), iter_end ?_, iter_end ?_, Or.inl rfl⟩
   ·simp only [g256_l0]
    rw [if_pos (decide_eq_true (by omega)), idx_lt hlt, Option.bind_some]
    have e1' : g319 (DVault.mk (DTable.mk v.table.clock v.table.next v.table.list_) v.intents v.accounts v.sealed) l[k] = some (w1', false) := e1
    rw [e1', Option.bind_some, if_pos nf]
   ·simp only [g258_l0]
    rw [if_pos (decide_eq_true (by omega)), idx_lt hlt, Option.bind_some]
    have e2' : g323 (DVault.mk (DTable.mk v.table.clock v.table.next v.table.list_) v.intents v.accounts v.sealed) l[k] = some (false, w2') := e2
    rw [e2', Option.bind_some, if_pos nf]
theorem of_eq (l : List DPair) (a : List Int) (hl : l.length ≤ 1048576) (ha : a.length ≤ 1048576) :
  ∃ r, g256 l a = some r ∧ g258 l a = some r ∧ r.1.table.list_.length ≤ 1048576 ∧ r.1.intents.length ≤ 1048576 ∧ r.1.accounts.length ≤ 1048576 := by
 unfold g256 g258
 simp only [g321, g87, Option.bind_some, bindv]
 by_cases h1 : l.length ≤ 4096
 ·rw [decide_eq_true (show (l.length : Int) ≤ 4096 by omega), decide_eq_false (show ¬ (l.length : Int) > 4096 by omega)]
  by_cases h2 : a.length ≤ 4096
  ·rw [decide_eq_true (show (a.length : Int) ≤ 4096 by omega), decide_eq_false (show ¬ (a.length : Int) > 4096 by omega)]
   simp only [Bool.not_true, beq_self_eq_true, if_true, Option.bind_some, cond_false, cond_true, Bool.false_eq_true, if_false, show (false == false) = true from rfl]
   obtain ⟨b, s1, s2, s3⟩ := store_eq l hl
   rw [s1, s2]
   cases b
   ·exact ⟨(zeroV, 1), rfl, rfl, by simp, by simp, by simp⟩
   ·obtain ⟨t1, t2⟩ := s3 rfl
    obtain ⟨r, i1, i2, i3⟩ := of_loop l t1 t2 l.length 0 (by omega) (DVault.mk (DTable.mk 0 0 []) [] a false) (by simp) (by simp) (show I64 0 from ⟨by decide, by decide⟩)
    simp only [Option.bind_some, Bool.not_true, Bool.false_eq_true, if_false, List.nil_append, List.length_nil, Nat.zero_add, g120]
    rw [if_pos (by omega), if_pos (by omega)]
    simp only [Option.bind_some]
    have j1 : iter (g256_l0 l) (0, 0, 0, [], [], a, false) = some r := i1
    have j2 : iter (g258_l0 l) (0, 0, 0, [], [], a, false) = some r := i2
    rw [j1, j2]
    rcases i3 with rfl | ⟨w, rfl, c1, c2, c3, c4⟩
    ·exact ⟨(zeroV, 3), rfl, rfl, by simp, by simp, by simp⟩
    ·have c5 : w.accounts.length ≤ 1048576 := by rw [c4]; exact ha
     have k1 : g46 (DVault.mk (DTable.mk w.table.clock w.table.next w.table.list_) w.intents w.accounts w.sealed) = some (tf (VaultRight w)) := spec_right w (by omega) (by omega) c5 c3
     have k2 : g48 (DVault.mk (DTable.mk w.table.clock w.table.next w.table.list_) w.intents w.accounts w.sealed) = some (tf (VaultRight w)) := impl_right w (by omega) (by omega) c5 c3
     simp only [Option.bind_some, k1, k2]
     cases tf (VaultRight w)
     ·exact ⟨(zeroV, 13), rfl, rfl, by simp, by simp, by simp⟩
     ·exact ⟨(w, 0), rfl, rfl, by simp only; omega, by simp only; omega, c5⟩
  ·rw [decide_eq_false (show ¬ (a.length : Int) ≤ 4096 by omega), decide_eq_true (show (a.length : Int) > 4096 by omega)]
   exact ⟨(zeroV, 2), rfl, rfl, by simp, by simp, by simp⟩
 ·rw [decide_eq_false (show ¬ (l.length : Int) ≤ 4096 by omega), decide_eq_true (show (l.length : Int) > 4096 by omega)]
  exact ⟨(zeroV, 2), rfl, rfl, by simp, by simp, by simp⟩
theorem iheld (l : List DIntent) (a : Int) (ha : 0 ≤ a ∧ a ≤ 1099511627776) (hl : l.length ≤ 1048576) : g324 (marked mkIntent 2 l a) a = some (a + 2 * (l.length : Int)) := by
 have h := iter_upto (step := g324_l0 (marked mkIntent 2 l a)) (fun k => (a + 2 * (k : Int), (k : Int))) l.length (.inl (a + 2 * (l.length : Int))) (fun k hk => by
  simp only [g324_l0]
  rw [if_pos (decide_eq_true (by simp; omega)), idx_lt (by simp; omega)]
  have e0 : IntKind.i64.wrap (a + 2 * (k : Int) + 1) = a + 2 * (k : Int) + 1 := wr ⟨by omega, by omega⟩
  have e1 : IntKind.i64.wrap (a + 2 * (k : Int) + 1 + 1) = a + 2 * ((k + 1 : Nat) : Int) := by rw [wr ⟨by omega, by omega⟩]; omega
  simp only [Option.bind_some, e0, e1, marked_get, w1 (show k < 4611686018427387904 by omega)]
  simp) (by
  simp only [g324_l0]
  rw [if_neg (by simp)])
 have h' : iter (g324_l0 (marked mkIntent 2 l a)) (a, 0) = some (.inl (a + 2 * (l.length : Int))) := by
  rw [show a + 2 * ((0 : Nat) : Int) = a by simp] at h; exact h
 simp only [g324, h', Option.bind_some]
theorem vmark_held (v : DVault) (h1 : v.table.list_.length ≤ 1048576) (h2 : v.intents.length ≤ 1048576) (h3 : v.accounts.length ≤ 1048576) :
  ∃ n x y z, g252 v 1 = some (n, x, y, z) ∧ 0 ≤ n ∧ x.length = v.table.list_.length ∧ y.length = v.intents.length ∧ z.length = v.accounts.length ∧
   g259 (DVault.mk (DTable.mk v.table.clock v.table.next x) y z v.sealed) 1 = some n := by
 have e := show g252 v 1 = some (1 + 4 * (v.table.list_.length : Int) + 2 * (v.intents.length : Int) + (v.accounts.length : Int), marks v.table.list_.length 1, marked mkIntent 2 v.intents (1 + 4 * (v.table.list_.length : Int)), marked (fun c _ => c) 1 v.accounts (1 + 4 * (v.table.list_.length : Int) + 2 * (v.intents.length : Int))) by
  simp only [g252, g26_eq v.table h1, Option.bind_some, marks_len, if_true, imarks v.intents (1 + 4 * (v.table.list_.length : Int)) (by omega) h2, marked_len, ints_mark v.accounts (1 + 4 * (v.table.list_.length : Int) + 2 * (v.intents.length : Int)) (by omega) h3]
 refine ⟨_, _, _, _, e, by omega, marks_len _ _, by simp, by simp, ?_⟩
 unfold g259
 rw [g27_eq _ _ _ h1, Option.bind_some, if_neg (by simp; omega), iheld v.intents _ (by omega) h2, Option.bind_some, if_neg (by simp; omega), ints_held v.accounts _ (by omega) h3, Option.bind_some, if_neg (by simp; omega)]
theorem to_pairs (l : List DPair) (hl : l.length ≤ 1048576) : g257 l = some l := by
 have h := to_loop l (fun x => x) (DPair.mk [] []) (step := g257_l0 l) (fun k hk p hp => by
  simp only [g257_l0]
  rw [if_pos (decide_eq_true (by omega)), idx_lt hk]
  simp only [Option.bind_some, g320]
  rw [idx_lt (k := k) (by omega)]
  simp only [Option.bind_some, Int.toNat_natCast]
  rw [List.getElem?_eq_getElem (by omega), Option.bind_some, w1 (show k < 4611686018427387904 by omega)]) (fun p hp => by
  simp only [g257_l0]
  rw [if_neg (by simp)])
 rw [List.map_id' ] at h
 simp only [g257, bindv, Int.toNat_natCast]
 rw [if_pos (by omega), if_pos (by omega), h]
 rfl
theorem sz_pairs (l : List DPair) (hl : l.length ≤ 9223372036854775807) : ∃ r, g255 l 1048576 = some r ∧ (0 ≤ r → l.length ≤ 1048576) := by
 unfold g255
 rw [wr ⟨by omega, by omega⟩]
 by_cases h : 1048576 - (l.length : Int) < 0
 ·rw [if_pos (decide_eq_true h)]
  exact ⟨_, rfl, fun h => by omega⟩
 ·rw [if_neg (by simpa using h)]
  obtain ⟨r, hr, _⟩ := iterI (step := g255_l0 l) (fun s => ∃ k : Nat, s.2 = (k : Int) ∧ k ≤ l.length) (fun s => (l.length - s.2).toNat) (fun r => True) (1048576 - (l.length : Int), 0) ⟨0, rfl, by omega⟩ (by
   rintro ⟨c, _⟩ ⟨k, rfl, hk⟩
   simp only [g255_l0]
   by_cases hlt : k < l.length
   ·rw [if_pos (decide_eq_true (by omega)), idx_lt hlt, Option.bind_some]
    have ⟨q, hq⟩ : ∃ q, g317 l[k] c = some q := by
     unfold g317
     split
     ·exact ⟨_, rfl⟩
     ·simp only [bindv]
      split <;> exact ⟨_, rfl⟩
    rw [hq, Option.bind_some]
    split
    ·exact Or.inr ⟨_, rfl, trivial⟩
    ·exact Or.inl ⟨_, rfl, ⟨k + 1, w1 (by omega), by omega⟩, by simp only; rw [w1 (by omega)]; omega⟩
   ·rw [if_neg (by simp; omega)]
    exact Or.inr ⟨_, rfl, trivial⟩)
  rw [hr, Option.bind_some]
  cases r <;> exact ⟨_, rfl, fun _ => by omega⟩
theorem g210_law (l : List DPair) (a : List Int) (ol : okL okDPair l) (oa : okL ok64 a) : g210 l a = some true := by
 unfold g210
 by_cases ha : a.length > 1048576
 ·rw [if_pos (decide_eq_true (by omega))]
 ·rw [if_neg (by simp; omega)]
  obtain ⟨r, e1, e2⟩ := sz_pairs l (by have := ol.1; omega)
  rw [e1, Option.bind_some]
  by_cases hr : r < 0
  ·rw [if_pos (decide_eq_true hr)]
  ·rw [if_neg (by simpa using hr)]
   have hl := e2 (by omega)
   have ha' : a.length ≤ 1048576 := by omega
   obtain ⟨q, q1, q2, q3, q4, q5⟩ := of_eq l a hl ha'
   obtain ⟨n, x, y, z, m1, m2, m3, m4, m5, m6⟩ := vmark_held q.1 q3 q4 q5
   have n1 : ¬ n < 0 := by omega
   have n2 : ¬ 1 + 2 * (l.length : Int) + (a.length : Int) < 0 := by omega
   have n3 : 0 ≤ 1 + 2 * (l.length : Int) + (a.length : Int) := by omega
   simp [n3, to_pairs l hl, ints_to a ha', q1, q2, eq_vault q.1 q3 q4 q5, eq_pairs l hl, ints_self a ha', pmarks l hl, eq_pairs l hl, ints_mark a (1 + 2 * (l.length : Int)) (by omega) ha', bindv, n2, m1, m3, m4, m5, m6, n1]
end Go.Ev
end
