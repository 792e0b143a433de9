/- The plain part of the proof: what the functions compute answers as the law says. -/
import Derived.Test.YtdmclbbhhcpjfaaQvL
import Derived.Test.YtdmclbbhhcpjfaaQgD
import Derived.Test.YtdmclbbhhcpjfaaQvM
set_option linter.all false
section
namespace Go.Ev
noncomputable def tf (P : Prop) : Bool := @decide P (Classical.propDecidable P)
@[simp] theorem tf_iff {P : Prop} : tf P = true ↔ P := by unfold tf; exact @decide_eq_true_iff P (Classical.propDecidable P)
@[simp] theorem tf_false {P : Prop} : tf P = false ↔ ¬ P := by rw [← Bool.not_eq_true, tf_iff]
theorem tf_congr {P Q : Prop} (h : P ↔ Q) : tf P = tf Q := by rw [propext h]
theorem tf_pos {P : Prop} (h : P) : tf P = true := tf_iff.2 h
theorem tf_neg {P : Prop} (h : ¬ P) : tf P = false := tf_false.2 h
theorem dec_tf {P : Prop} [Decidable P] : decide P = tf P := by
 by_cases h : P
 ·rw [tf_pos h, decide_eq_true h]
 ·rw [tf_neg h, decide_eq_false h]
theorem tf_not {P : Prop} : (!tf P) = tf (¬ P) := by
 by_cases h : P
 ·rw [tf_pos h, tf_neg (not_not_intro h)]; rfl
 ·rw [tf_neg h, tf_pos h]; rfl
theorem tf_and {P Q : Prop} : (tf P && tf Q) = tf (P ∧ Q) := by
 by_cases h : P
 ·rw [tf_pos h, Bool.true_and]; exact tf_congr (by simp [h])
 ·rw [tf_neg h, Bool.false_and, tf_neg (fun hh => h hh.1)]
theorem tf_or {P Q : Prop} : (tf P || tf Q) = tf (P ∨ Q) := by
 by_cases h : P
 ·rw [tf_pos h, Bool.true_or, tf_pos (.inl h)]
 ·rw [tf_neg h, Bool.false_or]; exact tf_congr (by simp [h])
theorem bif_and {a b : Bool} : (bif a then b else false) = (a && b) := by cases a <;> rfl
theorem bif_or {a b : Bool} : (bif a then true else b) = (a || b) := by cases a <;> rfl
theorem if_tf {α : Type} {P : Prop} {a b : α} (h : P) : (if tf P = true then a else b) = a := by rw [tf_pos h]; rfl
theorem if_tfn {α : Type} {P : Prop} {a b : α} (h : ¬ P) : (if tf P = true then a else b) = b := by rw [tf_neg h]; rfl
abbrev I64 (n : Int) : Prop := -9223372036854775808 ≤ n ∧ n ≤ 9223372036854775807
theorem wr {n : Int} (h : I64 n) : IntKind.i64.wrap n = n := by
 obtain ⟨h1, h2⟩ := h
 have e : IntKind.i64.wrap n = if n % 18446744073709551616 ≥ 9223372036854775808 then n % 18446744073709551616 - 18446744073709551616 else n % 18446744073709551616 := by
  simp [IntKind.wrap, IntKind.bits, IntKind.signed]
 rw [e]
 split <;> omega
theorem idx_nat {α : Type} {l : List α} {k : Nat} : idx l (k : Int) = l[k]? := by
 unfold idx
 rw [if_pos (by omega)]
 simp
theorem idx_lt {α : Type} {l : List α} {k : Nat} (h : k < l.length) : idx l (k : Int) = some l[k] := by
 rw [idx_nat, List.getElem?_eq_getElem h]
section
variable {σ ρ : Type} {step : σ → Option (σ ⊕ ρ)}
theorem iter_run (st : Nat → σ) : ∀ n, (∀ k, k < n → step (st k) = some (.inl (st (k + 1)))) → iter step (st 0) = iter step (st n)
 | 0, _ => rfl
 | n + 1, h => by
  rw [iter_run st n fun k hk => h k (by omega), iter_next (h n (by omega))]
theorem iter_upto (st : Nat → σ) (n : Nat) (r : ρ) (h : ∀ k, k < n → step (st k) = some (.inl (st (k + 1)))) (he : step (st n) = some (.inr r)) : iter step (st 0) = some r := by
 rw [iter_run st n h, iter_end he]
theorem iter_first (st : Nat → σ) (n : Nat) (ok : Nat → Prop) (bad : Nat → ρ) (fin : ρ) (h1 : ∀ k, k < n → (∀ j, j < k → ok j) → ok k → step (st k) = some (.inl (st (k + 1))))
  (h2 : ∀ k, k < n → (∀ j, j < k → ok j) → ¬ ok k → step (st k) = some (.inr (bad k))) (he : (∀ j, j < n → ok j) → step (st n) = some (.inr fin)) :
  ((∀ k, k < n → ok k) → iter step (st 0) = some fin) ∧ (∀ k, k < n → (∀ j, j < k → ok j) → ¬ ok k → iter step (st 0) = some (bad k)) := by
 constructor
 ·intro h
  exact iter_upto st n fin (fun k hk => h1 k hk (fun j hj => h j (by omega)) (h k hk)) (he h)
 ·intro k hk hj hn
  rw [iter_run st k fun i hi => h1 i (by omega) (fun j hj' => hj j (by omega)) (hj i hi)]
  exact iter_end (h2 k hk hj hn)
theorem least_of {n : Nat} {ok : Nat → Prop} (h : ¬ ∀ k, k < n → ok k) : ∃ k, k < n ∧ (∀ j, j < k → ok j) ∧ ¬ ok k := by
 obtain ⟨k, hk⟩ := Classical.not_forall.1 h
 rw [Classical.not_imp] at hk
 obtain ⟨h1, h2⟩ := hk
 induction k using Nat.strongRecOn with
 | _ k ih =>
  by_cases hex : ∃ j, j < k ∧ ¬ ok j
  ·obtain ⟨j, hj, hn⟩ := hex
   exact ih j hj (by omega) hn
  ·exact ⟨k, h1, fun j hj => Classical.byContradiction fun hn => hex ⟨j, hj, hn⟩, h2⟩
end
theorem iter_all {α : Type} {step : Int → Option (Int ⊕ (Unit ⊕ Bool))} (l : List α) (ok : Nat → α → Prop)
  (h1 : ∀ k (hk : k < l.length), (∀ j x, j < k → l[j]? = some x → ok j x) → ∃ v : Bool, (v = true ↔ ¬ ok k l[k]) ∧ step (k : Int) = (if v = true then some (.inr (.inr false)) else some (.inl ((k + 1 : Nat) : Int))))
  (h3 : step (l.length : Int) = some (.inr (.inl ()))) : iter step 0 = some (if tf (∀ k x, l[k]? = some x → ok k x) = true then .inl () else .inr false) := by
 have pre : ∀ k, (∀ j, j < k → ∀ h : j < l.length, ok j l[j]) → ∀ j x, j < k → l[j]? = some x → ok j x := fun k hj j x hjk hx => by
  obtain ⟨hlt, rfl⟩ := List.getElem?_eq_some_iff.1 hx
  exact hj j hjk hlt
 have hh := iter_first (step := step) (fun k => (k : Int)) l.length (fun k => ∀ h : k < l.length, ok k l[k]) (fun _ => .inr false) (.inl ()) (fun k hk hj ho => by
  obtain ⟨v, hv, hs⟩ := h1 k hk (pre k hj)
  rw [hs, if_neg (fun h => hv.1 h (ho hk))]) (fun k hk hj ho => by
  obtain ⟨v, hv, hs⟩ := h1 k hk (pre k hj)
  rw [hs, if_pos (hv.2 fun h => ho fun _ => h)]) (fun _ => h3)
 by_cases h : ∀ k x, l[k]? = some x → ok k x
 ·rw [if_tf h]; exact hh.1 fun k hk _ => h k _ (List.getElem?_eq_getElem hk)
 ·rw [if_tfn h]
  obtain ⟨k, hk, hj, ho⟩ := least_of (n := l.length) (ok := fun k => ∀ h : k < l.length, ok k l[k]) fun hall => h fun k x hx => by
   obtain ⟨hlt, rfl⟩ := List.getElem?_eq_some_iff.1 hx
   exact hall k hlt hlt
  exact hh.2 k hk hj ho
theorem tf_ext {b : Bool} {P : Prop} (h : b = true ↔ P) : some b = some (tf P) := by
 congr 1
 rw [Bool.eq_iff_iff, tf_iff, h]
theorem gsome {α : Type} [Inhabited α] {g : Bool} {o : Option α} (h : g = true → ∃ y, o = some y) : ∃ y, (if g = true then o else some default) = some y ∧ (g = true → o = some y) := by
 cases g with
 | true => obtain ⟨y, hy⟩ := h rfl; exact ⟨y, by simpa using hy, fun _ => hy⟩
 | false => exact ⟨default, rfl, fun h => by cases h⟩
end Go.Ev
end
section
namespace Go.Ev
theorem g56_eq (a b c : Int) : g56 a b c = some (tf (b ≤ a ∧ a ≤ c)) := by
 simp only [g56, dec_tf, bif_and, tf_and, ge_iff_le]
theorem g63_eq (a b c : Int) : g63 a b c = some (tf (b ≤ a ∧ a ≤ c)) := by
 simp only [g63, dec_tf, bif_and, tf_and]
theorem g58_eq (a : Int) : g58 a = some (tf (1 ≤ a ∧ a ≤ 1000000)) := by
 simp only [g58, g63_eq, Option.bind_some]
def TabLease (t : DTable) (k : Nat) (x : DLease) : Prop := (1 ≤ x.id ∧ x.id ≤ t.next - 1) ∧ (∀ y, 0 < k → t.list_[k - 1]? = some y → y.id < x.id) ∧ 0 ≤ x.until_ ∧ x.until_ ≤ x.cap ∧ (x.queued = false → t.clock < x.until_)
def TabOK (t : DTable) : Prop := 0 ≤ t.clock ∧ (1 ≤ t.next ∧ t.next ≤ 1000000) ∧ t.list_.length ≤ 40 ∧ ∀ k x, t.list_[k]? = some x → TabLease t k x
theorem spec_loop (t : DTable) (hn : 1 ≤ t.next ∧ t.next ≤ 1000000) (hl : t.list_.length ≤ 40) :
  iter (g18_l0 t) 0 = some (if tf (∀ k x, t.list_[k]? = some x → TabLease t k x) = true then .inl () else .inr false) := by
 refine iter_all t.list_ _ (fun k hk _ => ?_) ?_
 ·have hw : IntKind.i64.wrap (t.next - 1) = t.next - 1 := wr ⟨by omega, by omega⟩
  have hw2 : IntKind.i64.wrap ((k : Int) - 1) = (k : Int) - 1 := wr ⟨by omega, by omega⟩
  have hw3 : IntKind.i64.wrap ((k : Int) + 1) = ((k + 1 : Nat) : Int) := wr ⟨by omega, by omega⟩
  simp only [g18_l0]
  rw [if_pos (decide_eq_true (by omega)), idx_lt hk]
  generalize hx : t.list_[k] = x
  simp only [Option.bind_some, g56_eq, hw, hw2]
  have hm : 0 < k → idx t.list_ ((k : Int) - 1) = t.list_[k - 1]? := fun h => by
   have : ((k : Int) - 1) = ((k - 1 : Nat) : Int) := by omega
   rw [this, idx_nat]
  obtain ⟨y, h1, h2⟩ := gsome (o := idx t.list_ ((k : Int) - 1)) (g := ((!tf (1 ≤ x.id ∧ x.id ≤ t.next - 1)) == false && decide ((k : Int) > 0) == true)) (fun h => by
   rw [hm (by simp at h; omega)]
   exact ⟨_, List.getElem?_eq_getElem (by omega)⟩)
  rw [h1]
  simp only [Option.bind_some, bindv, hw3]
  refine ⟨_, ?_, rfl⟩
  simp only [dec_tf, bif_or, bif_and, tf_not, tf_and, tf_or, ge_iff_le, gt_iff_lt] at h2 ⊢
  by_cases hk0 : 0 < k
  ·by_cases hr : 1 ≤ x.id ∧ x.id ≤ t.next - 1
   ·have hy : t.list_[k - 1]? = some y := by rw [← hm hk0]; exact h2 (by simp [tf_iff, tf_false, hr]; omega)
    have e3 : (∀ z, 0 < k → t.list_[k - 1]? = some z → z.id < x.id) ↔ y.id < x.id := by
     rw [hy]; exact ⟨fun h => h y hk0 rfl, fun h z _ hz => by cases hz; exact h⟩
    unfold TabLease
    rw [e3]
    cases x.queued <;> simp [tf_iff] <;> omega
   ·have : ¬ TabLease t k x := fun h => hr h.1
    simp [tf_iff, this, hr]
  ·have e3 : (∀ z, 0 < k → t.list_[k - 1]? = some z → z.id < x.id) ↔ True := ⟨fun _ => trivial, fun _ z h => absurd h hk0⟩
   unfold TabLease
   rw [e3]
   cases x.queued <;> simp [tf_iff] <;> omega
 ·simp only [g18_l0]
  rw [if_neg (by simp)]
end Go.Ev
namespace Go.Ev
theorem g18_eq (t : DTable) : g18 t = some (tf (TabOK t)) := by
 simp only [g18, g56_eq]
 obtain ⟨r, h1, h2⟩ := gsome (o := some (tf (1 ≤ t.next ∧ t.next ≤ 1000000))) (g := (decide (t.clock < 0) == false)) (fun _ => ⟨_, rfl⟩)
 rw [h1]
 simp only [Option.bind_some, bindv]
 by_cases hc : t.clock < 0
 ·rw [if_pos (by simp [hc])]
  exact tf_ext (by simp [TabOK]; omega)
 ·have hr : r = tf (1 ≤ t.next ∧ t.next ≤ 1000000) := by simpa [hc, eq_comm] using h2 (by simp [hc])
  subst hr
  by_cases hn : 1 ≤ t.next ∧ t.next ≤ 1000000
  ·by_cases hl : t.list_.length ≤ 40
   ·rw [if_neg (by simp [hc, tf_iff, hn]; omega), spec_loop t hn hl]
    by_cases h : ∀ k x, t.list_[k]? = some x → TabLease t k x
    ·rw [if_tf h]; exact tf_ext (by simp [TabOK, hn, hl]; exact ⟨by omega, h⟩)
    ·rw [if_tfn h]; exact tf_ext ⟨(fun hh => by cases hh), fun hh => absurd hh.2.2.2 h⟩
   ·rw [if_pos (by simp; right; omega)]
    exact tf_ext (by simp [TabOK, hl])
  ·rw [if_pos (by simp [tf_iff, tf_false, hn])]
   exact tf_ext (by simp [TabOK, hn])
theorem g60_eq (t : DTable) (hl : t.list_.length ≤ 1048576) : g60 t = some (t.list_.map DLease.id) := by
 have h := iter_upto (step := g60_l0 t) (fun k => ((t.list_.take k).map DLease.id, (k : Int))) t.list_.length (t.list_.map DLease.id) (fun k hk => by
  have hw3 : IntKind.i64.wrap ((k : Int) + 1) = ((k + 1 : Nat) : Int) := wr ⟨by omega, by omega⟩
  simp only [g60_l0]
  rw [if_pos (decide_eq_true (by omega)), idx_lt hk]
  simp only [Option.bind_some, hw3]
  rw [if_pos (by simp; omega), List.take_succ_eq_append_getElem hk, List.map_append]
  rfl) (by
  simp only [g60_l0]
  rw [if_neg (by simp), List.take_length])
 simp only [g60]
 rw [show ([] : List Int) = (t.list_.take 0).map DLease.id from rfl, show (0 : Int) = ((0 : Nat) : Int) from rfl, h]
 rfl
def Rising (l : List Int) (a b : Int) : Prop := ∀ k x, l[k]? = some x → (a ≤ x ∧ x ≤ b) ∧ ∀ y, 0 < k → l[k - 1]? = some y → y < x
theorem g59_eq (l : List Int) (a b : Int) (hl : l.length ≤ 1048576) : g59 l a b = some (tf (Rising l a b)) := by
 have h : iter (g59_l0 l a b) 0 = some (if tf (Rising l a b) = true then .inl () else .inr false) := by
  refine iter_all l _ (fun k hk _ => ?_) ?_
  ·have hw2 : IntKind.i64.wrap ((k : Int) - 1) = (k : Int) - 1 := wr ⟨by omega, by omega⟩
   have hw3 : IntKind.i64.wrap ((k : Int) + 1) = ((k + 1 : Nat) : Int) := wr ⟨by omega, by omega⟩
   simp only [g59_l0]
   rw [if_pos (decide_eq_true (by omega)), idx_lt hk]
   generalize hx : l[k] = x
   simp only [Option.bind_some, g63_eq, hw2]
   have hm : 0 < k → idx l ((k : Int) - 1) = l[k - 1]? := fun h => by
    have : ((k : Int) - 1) = ((k - 1 : Nat) : Int) := by omega
    rw [this, idx_nat]
   obtain ⟨y, h1, h2⟩ := gsome (o := idx l ((k : Int) - 1)) (g := ((!tf (a ≤ x ∧ x ≤ b)) == false && decide ((k : Int) > 0) == true)) (fun h => by
    rw [hm (by simp at h; omega)]
    exact ⟨_, List.getElem?_eq_getElem (by omega)⟩)
   rw [h1]
   simp only [Option.bind_some, bindv, hw3]
   refine ⟨_, ?_, rfl⟩
   by_cases hr : a ≤ x ∧ x ≤ b
   ·by_cases hk0 : 0 < k
    ·have hy : l[k - 1]? = some y := by rw [← hm hk0]; exact h2 (by simp [tf_iff, hr]; omega)
     have e3 : (∀ z, 0 < k → l[k - 1]? = some z → z < x) ↔ y < x := by
      rw [hy]; exact ⟨fun h => h y hk0 rfl, fun h z _ hz => by cases hz; exact h⟩
     rw [e3]
     simp [hr]; omega
    ·have e3 : (∀ z, 0 < k → l[k - 1]? = some z → z < x) ↔ True := ⟨fun _ => trivial, fun _ z h => absurd h hk0⟩
     rw [e3]
     simp [hr]; omega
   ·have : tf (a ≤ x ∧ x ≤ b) = false := tf_neg hr
    rw [this]; simp [hr]
  ·simp only [g59_l0]
   rw [if_neg (by simp)]
 simp only [g59, h, Option.bind_some]
 split
 ·rename_i e; split at e
  ·rename_i hh; rw [hh]
  ·cases e
 ·rename_i q e; split at e
  ·cases e
  ·rename_i hh; cases e; rw [Bool.not_eq_true] at hh; rw [hh]
theorem g108_eq (l : List DLease) (f : DLease → Option Bool) (p : DLease → Bool) (hf : ∀ x ∈ l, f x = some (p x)) (hl : l.length ≤ 1048576) : ∃ n : Int, g108 l f = some n ∧ (0 ≤ n ↔ ∃ x ∈ l, p x = true) := by
 have hh := iter_first (step := g108_l0 l f) (fun k => (k : Int)) l.length (fun k => ∀ h : k < l.length, p l[k] = false) (fun k => .inr (k : Int)) (.inl ()) (fun k hk _ ho => by
  simp only [g108_l0]
  rw [if_pos (decide_eq_true (by omega)), idx_lt hk]
  simp only [Option.bind_some, hf _ (List.getElem_mem hk), ho hk, wr (n := (k : Int) + 1) ⟨by omega, by omega⟩]
  rfl) (fun k hk _ ho => by
  have : p l[k] = true := Classical.byContradiction fun h => ho fun _ => by simpa using h
  simp only [g108_l0]
  rw [if_pos (decide_eq_true (by omega)), idx_lt hk]
  simp only [Option.bind_some, hf _ (List.getElem_mem hk), this]
  rfl) (fun _ => by
  simp only [g108_l0]
  rw [if_neg (by simp)])
 by_cases h : ∀ k, k < l.length → ∀ h : k < l.length, p l[k] = false
 ·refine ⟨-1, ?_, by simp; intro x hx; obtain ⟨k, hk, rfl⟩ := List.getElem_of_mem hx; exact h k hk hk⟩
  simp only [g108]
  rw [show (0 : Int) = ((0 : Nat) : Int) from rfl, hh.1 h]
  rfl
 ·obtain ⟨k, hk, hj, ho⟩ := least_of h
  refine ⟨k, ?_, ⟨fun _ => ⟨l[k], List.getElem_mem hk, Classical.byContradiction fun h => ho fun _ => by simpa using h⟩, fun _ => by omega⟩⟩
  simp only [g108]
  rw [show (0 : Int) = ((0 : Nat) : Int) from rfl, hh.2 k hk hj ho]
  rfl
theorem g61_eq (l : List DLease) (f : DLease → Option Bool) (p : DLease → Bool) (hf : ∀ x ∈ l, f x = some (p x)) (hl : l.length ≤ 1048576) : g61 l f = some (tf (∀ x ∈ l, p x = true)) := by
 obtain ⟨n, h1, h2⟩ := g108_eq l (fun z => g106 z f) (fun x => !p x) (fun x hx => by simp [g106, hf x hx]) hl
 simp only [g61, g105, h1, Option.bind_some]
 refine tf_ext ?_
 have : (0 ≤ n) ↔ ∃ x ∈ l, (!p x) = true := h2
 simp
 rw [← Int.not_le, this]
 simp
theorem g62_eq (x : DLease) (t : DTable) : g62 x t = some (tf ((0 ≤ x.until_ ∧ x.until_ ≤ x.cap) ∧ (x.queued = false → t.clock < x.until_))) := by
 simp only [g62, g63_eq, Option.bind_some, bindv]
 exact tf_ext (by cases x.queued <;> simp [tf_iff, bif_and])
theorem g20_eq (t : DTable) (hl : t.list_.length ≤ 1048576) (hn : I64 t.next) : g20 t = some (tf (TabOK t)) := by
 simp only [g20, g58_eq, g60_eq t hl]
 obtain ⟨r1, h1, k1⟩ := gsome (o := some (tf (1 ≤ t.next ∧ t.next ≤ 1000000))) (g := (decide (t.clock ≥ 0) == true)) (fun _ => ⟨_, rfl⟩)
 rw [h1]; simp only [Option.bind_some]
 generalize hg : (bif (bif decide (t.clock ≥ 0) then r1 else false) then decide ((t.list_.length : Int) ≤ 40) else false) = b
 have hb : b = true ↔ 0 ≤ t.clock ∧ (1 ≤ t.next ∧ t.next ≤ 1000000) ∧ t.list_.length ≤ 40 := by
  rw [← hg]
  by_cases hc : 0 ≤ t.clock
  ·have := k1 (by simp [hc]); simp only [Option.some.injEq] at this; rw [← this]; simp [hc]; omega
  ·simp [hc]
 obtain ⟨r3, h3, k3⟩ := gsome (o := some (t.list_.map DLease.id)) (g := b == true) (fun _ => ⟨_, rfl⟩)
 rw [h3]; simp only [Option.bind_some]
 obtain ⟨r5, h5, k5⟩ := gsome (o := g59 r3 1 (IntKind.i64.wrap (t.next - 1))) (g := b == true) (fun h => by
  have := k3 h; simp only [Option.some.injEq] at this; rw [← this]
  exact ⟨_, g59_eq _ _ _ (by simpa using hl)⟩)
 rw [h5]; simp only [Option.bind_some]
 obtain ⟨r7, h7, k7⟩ := gsome (o := g61 t.list_ (fun z => g62 z t)) (g := (bif b then r5 else false) == true) (fun h => ⟨_, g61_eq _ _ _ (fun x _ => g62_eq x t) hl⟩)
 rw [h7]; simp only [Option.bind_some, bindv]
 refine tf_ext ?_
 by_cases hbt : b = true
 ·have hbb := hb.1 hbt
  have hw : IntKind.i64.wrap (t.next - 1) = t.next - 1 := wr ⟨by omega, by omega⟩
  have e3 := k3 (by simp [hbt]); simp only [Option.some.injEq] at e3
  have e5 := k5 (by simp [hbt]); rw [← e3, g59_eq _ _ _ (by simpa using hl), hw] at e5; simp only [Option.some.injEq] at e5
  subst hbt
  simp only [cond_true] at k7 ⊢
  by_cases h5t : r5 = true
  ·have e7 := k7 (by simp [h5t]); rw [g61_eq _ _ _ (fun x _ => g62_eq x t) hl] at e7; simp only [Option.some.injEq] at e7
   rw [h5t, ← e7]
   rw [h5t, tf_iff] at e5
   simp only [cond_true, tf_iff, TabOK, hbb, true_and]
   constructor
   ·intro h k x hx
    have h1 := e5 k x.id (by simp [hx])
    have h2 := h x (List.mem_of_getElem? hx)
    exact ⟨h1.1, fun y hk hy => h1.2 y.id hk (by simp [hy]), h2.1.1, h2.1.2, h2.2⟩
   ·intro h x hx
    obtain ⟨k, hk, rfl⟩ := List.getElem_of_mem hx
    have := h k _ (List.getElem?_eq_getElem hk)
    exact ⟨⟨this.2.2.1, this.2.2.2.1⟩, this.2.2.2.2⟩
  ·simp only [Bool.not_eq_true] at h5t
   rw [h5t] at e5 ⊢
   rw [tf_false] at e5
   simp only [cond_false, Bool.false_eq_true, false_iff]
   intro h
   refine e5 fun k x hx => ?_
   simp only [List.getElem?_map, Option.map_eq_some_iff] at hx
   obtain ⟨z, hz, rfl⟩ := hx
   have := h.2.2.2 k z hz
   refine ⟨this.1, fun y hk hy => ?_⟩
   simp only [List.getElem?_map, Option.map_eq_some_iff] at hy
   obtain ⟨u, hu, rfl⟩ := hy
   exact this.2.1 u hk hu
 ·have hbf : b = false := by simpa using hbt
  subst hbf
  simp only [cond_false, Bool.false_eq_true, false_iff]
  intro h
  exact hbt (hb.2 ⟨h.1, h.2.1, h.2.2.1⟩)
theorem g57_eq (l : List DLease) (hl : l.length ≤ 1048576) : g57 l = some l := by
 have h := iter_upto (step := g57_l0 l) (fun k => (l.take k ++ List.replicate (l.length - k) (DLease.mk 0 0 0 false), (k : Int))) l.length l (fun k hk => by
  have hw3 : IntKind.i64.wrap ((k : Int) + 1) = ((k + 1 : Nat) : Int) := wr ⟨by omega, by omega⟩
  have hlen : k < (l.take k ++ List.replicate (l.length - k) (DLease.mk 0 0 0 false)).length := by simp; omega
  simp only [g57_l0]
  rw [if_pos (decide_eq_true (by omega)), idx_lt hk, idx_lt hlen]
  simp only [Option.bind_some, g104, hw3, Int.toNat_natCast]
  rw [List.getElem?_eq_getElem hlen]
  simp only [Option.bind_some]
  congr 3
  rw [List.set_append, if_neg (by simp; omega), List.take_succ_eq_append_getElem hk, List.append_assoc]
  congr 1
  have e : l.length - k = (l.length - (k + 1)) + 1 := by omega
  have e2 : k - (l.take k).length = 0 := by simp; omega
  rw [e, List.replicate_succ, e2]
  rfl) (by
  simp only [g57_l0]
  rw [if_neg (by simp)]
  simp)
 simp only [g57]
 rw [if_pos (by omega), if_pos (by omega)]
 simp only [List.take_zero, List.nil_append, Nat.sub_zero] at h
 rw [Int.toNat_natCast]
 have h' : iter (g57_l0 l) (List.replicate l.length (DLease.mk 0 0 0 false), 0) = some l := h
 rw [h']
 rfl
theorem g19_eq (t : DTable) (hl : t.list_.length ≤ 1048576) : g19 t = some t := by
 simp [g19, g57_eq _ hl]
theorem g107_eq (a b : DLease) : g107 a b = some (tf (a = b)) := by
 unfold g107
 obtain ⟨a1, a2, a3, a4⟩ := a
 obtain ⟨b1, b2, b3, b4⟩ := b
 by_cases h1 : a1 = b1 <;> by_cases h2 : a2 = b2 <;> by_cases h3 : a3 = b3 <;> by_cases h4 : a4 = b4 <;> simp [h1, h2, h3, h4, tf]
theorem g64_eq (a b : List DLease) (hl : a.length ≤ 1048576) : g64 a b = some (tf (a = b)) := by
 by_cases hlen : a.length = b.length
 ·have h : iter (g64_l0 a b) 0 = some (if tf (∀ (k : Nat) (x : DLease), a[k]? = some x → b[k]? = some x) = true then .inl () else .inr false) := by
   refine iter_all a _ (fun k hk _ => ?_) ?_
   ·have hw3 : IntKind.i64.wrap ((k : Int) + 1) = ((k + 1 : Nat) : Int) := wr ⟨by omega, by omega⟩
    simp only [g64_l0]
    rw [if_pos (decide_eq_true (by omega)), idx_lt hk, idx_lt (l := b) (k := k) (by omega)]
    simp only [Option.bind_some, g107_eq, hw3]
    refine ⟨_, ?_, rfl⟩
    rw [List.getElem?_eq_getElem (by omega)]
    simp only [tf_not, tf_iff, Option.some.injEq]
    exact not_congr eq_comm
   ·simp only [g64_l0]
    rw [if_neg (by simp)]
  have e : (∀ (k : Nat) (x : DLease), a[k]? = some x → b[k]? = some x) ↔ a = b := by
   constructor
   ·intro h
    apply List.ext_getElem hlen
    intro k h1 h2
    have := h k _ (List.getElem?_eq_getElem h1)
    rw [List.getElem?_eq_getElem h2] at this
    exact (Option.some.inj this).symm
   ·rintro rfl k x hx; exact hx
  rw [tf_congr e] at h
  simp only [g64]
  rw [if_neg (by simp [hlen]), h]
  by_cases hab : a = b
  ·rw [tf_pos hab]; rfl
  ·rw [tf_neg hab]; rfl
 ·simp only [g64]
  rw [if_pos (by simp; omega)]
  exact tf_ext (by simp; rintro rfl; exact hlen rfl)
theorem g21_eq (a b : DTable) (hl : a.list_.length ≤ 1048576) : g21 a b = some (tf (a = b)) := by
 simp only [g21, g64_eq _ _ hl]
 obtain ⟨a1, a2, a3⟩ := a
 obtain ⟨b1, b2, b3⟩ := b
 by_cases h1 : a1 = b1 <;> by_cases h2 : a2 = b2 <;> by_cases h3 : a3 = b3 <;> simp [h1, h2, h3, tf]
theorem g55_eq (l : List DLease) (n : Int) (hn : -1 ≤ n ∧ n ≤ 1048576) (hl : l.length ≤ 9223372036854775807) : ∃ r, g55 l n = some r ∧ (0 ≤ r → r ≤ 1048576 ∧ r = n - l.length) ∧ -1 ≤ r := by
 have hw : IntKind.i64.wrap (n - l.length) = n - l.length := wr ⟨by omega, by omega⟩
 simp only [g55, hw]
 by_cases h : n - l.length < 0
 ·exact ⟨-1, by rw [if_pos (by simpa using h)], by omega, by omega⟩
 ·exact ⟨n - l.length, by rw [if_neg (by simpa using h)], by omega, by omega⟩
theorem g17_eq (t : DTable) (n : Int) (hn : -1 ≤ n ∧ n ≤ 1048576) (hl : t.list_.length ≤ 9223372036854775807) : ∃ r, g17 t n = some r ∧ (0 ≤ r → r ≤ 1048576 ∧ r = n - t.list_.length) ∧ -1 ≤ r := by
 obtain ⟨r, h1, h2, h3⟩ := g55_eq t.list_ n hn hl
 simp only [g17, h1, Option.bind_some]
 by_cases h : r < 0
 ·exact ⟨-1, by rw [if_pos (by simpa using h)], by omega, by omega⟩
 ·exact ⟨r, by rw [if_neg (by simpa using h)], h2, h3⟩
end Go.Ev
end
section
namespace Go.Ev
theorem iterI {σ ρ : Type} {step : σ → Option (σ ⊕ ρ)} (I : σ → Prop) (μ : σ → Nat) (R : ρ → Prop) (s0 : σ) (h0 : I s0)
  (h : ∀ s, I s → (∃ s', step s = some (.inl s') ∧ I s' ∧ μ s' < μ s) ∨ (∃ r, step s = some (.inr r) ∧ R r)) : ∃ r, iter step s0 = some r ∧ R r := by
 have key : ∀ (n : Nat) (s0 : σ), μ s0 < n → I s0 → ∃ r, iter step s0 = some r ∧ R r := by
  intro n
  induction n with
  | zero => intro s0 hn; omega
  | succ n ih =>
   intro s0 hn hI
   rcases h s0 hI with ⟨s', h1, h2, h3⟩ | ⟨r, h1, h2⟩
   ·obtain ⟨r, h4, h5⟩ := ih s' (by omega) h2
    exact ⟨r, by rw [iter_next h1, h4], h5⟩
   ·exact ⟨r, iter_end h1, h2⟩
 exact key (μ s0 + 1) s0 (by omega) h0
theorem w1 {k : Nat} (h : k < 4611686018427387904) : IntKind.i64.wrap ((k : Int) + 1) = ((k + 1 : Nat) : Int) := wr ⟨by omega, by omega⟩
def firstOf {α : Type} (l : List α) (p : α → Bool) : Int := match l.findIdx? p with
 | some k => (k : Int)
 | none => -1
theorem index_loop {α : Type} (l : List α) (f : α → Option Bool) (p : α → Bool) (hf : ∀ x ∈ l, f x = some (p x)) (hl : l.length ≤ 4611686018427387903) {step : Int → Option (Int ⊕ (Unit ⊕ Int))}
  (hs : ∀ s, step s = if decide (s < (l.length : Int)) = true then (idx l s).bind fun y => (f y).bind fun r => if r = true then some (.inr (.inr s)) else some (.inl (IntKind.i64.wrap (s + 1))) else some (.inr (.inl ()))) :
  (iter step 0).bind (fun r => match r with | .inl () => some (-1) | .inr q => some q) = some (firstOf l p) := by
 have go : ∀ k (hk : k < l.length), p l[k] = false → step (k : Int) = some (.inl ((k + 1 : Nat) : Int)) := fun k hk hp => by
  rw [hs, if_pos (decide_eq_true (by omega)), idx_lt hk]
  simp [hf _ (List.getElem_mem hk), hp, w1 (show k < 4611686018427387904 by omega)]
 unfold firstOf
 cases hfi : l.findIdx? p with
 | none =>
  have hall : ∀ x ∈ l, p x = false := by simpa using List.findIdx?_eq_none_iff.1 hfi
  have := iter_upto (step := step) (fun k => (k : Int)) l.length (.inl ()) (fun k hk => go k hk (hall _ (List.getElem_mem hk))) (by rw [hs, if_neg (by simp)])
  rw [show (0 : Int) = ((0 : Nat) : Int) from rfl, this]
  rfl
 | some k =>
  obtain ⟨hk, hp, hj⟩ := List.findIdx?_eq_some_iff_getElem.1 hfi
  have := iter_run (step := step) (fun k => (k : Int)) k (fun j hj' => go j (by omega) (by simpa using hj j hj'))
  rw [show (0 : Int) = ((0 : Nat) : Int) from rfl, this, iter_end (r := .inr (k : Int)) (by
   rw [hs, if_pos (decide_eq_true (by omega)), idx_lt hk]
   simp [hf _ (List.getElem_mem hk), hp])]
  rfl
theorem firstOf_ge {α : Type} (l : List α) (p : α → Bool) : decide (firstOf l p ≥ 0) = l.any p := by
 unfold firstOf
 cases hfi : l.findIdx? p with
 | none =>
  have hall : ∀ x ∈ l, p x = false := by simpa using List.findIdx?_eq_none_iff.1 hfi
  rw [show l.any p = false from List.any_eq_false.2 fun x hx => by simp [hall x hx]]
  rfl
 | some k =>
  obtain ⟨hk, hp, hj⟩ := List.findIdx?_eq_some_iff_getElem.1 hfi
  rw [show l.any p = true from List.any_eq_true.2 ⟨_, List.getElem_mem hk, hp⟩]
  simp
theorem all_any {α : Type} (l : List α) (p : α → Bool) : (!l.any fun x => !p x) = l.all p := by
 induction l with
 | nil => rfl
 | cons x r ih => simp only [List.any_cons, List.all_cons, Bool.not_or, Bool.not_not, ih]
theorem to_loop {α β : Type} (l : List β) (F : β → α) (z : α) {step : List α × Int → Option ((List α × Int) ⊕ List α)}
  (hs : ∀ k (hk : k < l.length) (p : List α), p.length = l.length → step (p, (k : Int)) = some (.inl (p.set k (F l[k]), ((k + 1 : Nat) : Int)))) (he : ∀ p : List α, p.length = l.length → step (p, (l.length : Int)) = some (.inr p)) :
  iter step (List.replicate l.length z, 0) = some (l.map F) := by
 have h := iter_upto (step := step) (fun k => ((l.take k).map F ++ List.replicate (l.length - k) z, (k : Int))) l.length (l.map F) (fun k hk => by
  rw [hs k hk _ (by simp; omega)]
  congr 3
  rw [List.set_append, if_neg (by simp; omega), List.take_succ_eq_append_getElem hk, List.map_append, List.append_assoc]
  congr 1
  have e : l.length - k = (l.length - (k + 1)) + 1 := by omega
  have e2 : k - ((l.take k).map F).length = 0 := by simp; omega
  rw [e, List.replicate_succ, e2]
  rfl) (by
  rw [he _ (by simp)]
  simp)
 simpa using h
theorem same_loop {α : Type} (l : List α) {step : Int → Option (Int ⊕ (Unit ⊕ Bool))}
  (hs : ∀ k, k < l.length → step (k : Int) = some (.inl ((k + 1 : Nat) : Int))) (he : step (l.length : Int) = some (.inr (.inl ()))) : iter step 0 = some (.inl ()) :=
 iter_upto (step := step) (fun k => (k : Int)) l.length (.inl ()) hs he
def marked {α : Type} (mk : Int → α → α) (w : Nat) (l : List α) (a : Int) : List α := l.mapIdx fun i x => mk (a + (w : Int) * (i : Int)) x
@[simp] theorem marked_len {α : Type} (mk : Int → α → α) (w : Nat) (l : List α) (a : Int) : (marked mk w l a).length = l.length := by simp [marked]
theorem marked_get {α : Type} (mk : Int → α → α) (w : Nat) (l : List α) (a : Int) (k : Nat) (h : k < (marked mk w l a).length) :
  (marked mk w l a)[k] = mk (a + (w : Int) * (k : Int)) (l[k]'(by simpa using h)) := by simp [marked]
theorem mark_loop {α : Type} (mk : Int → α → α) (w : Nat) (l : List α) (a : Int) {step : List α × Int × Int → Option ((List α × Int × Int) ⊕ (List α × Int))}
  (hs : ∀ k (p : List α) (hp : p.length = l.length) (hk : k < l.length), step (p, a + (w : Int) * (k : Int), (k : Int)) = some (.inl (p.set k (mk (a + (w : Int) * (k : Int)) (p[k]'(by omega))), a + (w : Int) * ((k + 1 : Nat) : Int), ((k + 1 : Nat) : Int))))
  (he : ∀ (p : List α) c, p.length = l.length → step (p, c, (l.length : Int)) = some (.inr (p, c))) :
  iter step (l, a, 0) = some (marked mk w l a, a + (w : Int) * (l.length : Int)) := by
 have h := iter_upto (step := step) (fun k => (l.mapIdx (fun i x => if i < k then mk (a + (w : Int) * (i : Int)) x else x), a + (w : Int) * (k : Int), (k : Int))) l.length (marked mk w l a, a + (w : Int) * (l.length : Int)) (fun k hk => by
  rw [hs k _ (by simp) hk]
  congr 3
  apply List.ext_getElem
  ·simp
  ·intro j h1 h2
   simp only [List.length_set, List.length_mapIdx] at h1
   simp only [List.getElem_set, List.getElem_mapIdx]
   by_cases e : k = j
   ·subst e; simp
   ·rw [if_neg e]
    by_cases e2 : j < k
    ·simp [e2, show j < k + 1 by omega]
    ·simp [e2, show ¬ j < k + 1 by omega]) (by
  rw [he _ _ (by simp)]
  congr 3
  unfold marked
  apply List.ext_getElem
  ·simp
  ·intro j h1 h2
   simp only [List.length_mapIdx] at h1
   simp [h1])
 simp only [Nat.not_lt_zero, if_false] at h
 have e0 : l.mapIdx (fun (_ : Nat) (x : α) => x) = l := by
  apply List.ext_getElem
  ·simp
  ·intro j h1 h2; simp
 have h' : iter step (l.mapIdx (fun (_ : Nat) (x : α) => x), a + (w : Int) * ((0 : Nat) : Int), ((0 : Nat) : Int)) = some (marked mk w l a, a + (w : Int) * (l.length : Int)) := h
 rw [e0] at h'
 simpa using h'
end Go.Ev
end
section
set_option maxHeartbeats 1000000
namespace Go.Ev
theorem ints_self (l : List Int) (hl : l.length ≤ 1048576) : g36 l l = some true := by
 have h := same_loop l (step := g36_l0 l l) (fun k hk => by
  simp only [g36_l0]
  rw [if_pos (decide_eq_true (by omega)), idx_lt hk]
  simp only [Option.bind_some]
  rw [if_neg (by simp), w1 (show k < 4611686018427387904 by omega)]) (by
  simp only [g36_l0]
  rw [if_neg (by simp)])
 unfold g36
 rw [if_neg (by simp), h]
 rfl
theorem ints_mark (l : List Int) (a : Int) (ha : 0 ≤ a ∧ a ≤ 1099511627776) (hl : l.length ≤ 1048576) : g37 l a = some (a + (l.length : Int), marked (fun c _ => c) 1 l a) := by
 have h := mark_loop (fun c _ => c) 1 l a (step := g37_l0) (fun k p hp hk => by
  simp only [g37_l0]
  rw [if_pos (decide_eq_true (by omega)), idx_lt (l := p) (k := k) (by omega)]
  simp only [Option.bind_some, Int.toNat_natCast]
  rw [List.getElem?_eq_getElem (by omega)]
  have e1 : IntKind.i64.wrap (a + ((1 : Nat) : Int) * (k : Int) + 1) = a + ((1 : Nat) : Int) * ((k + 1 : Nat) : Int) := by rw [wr ⟨by omega, by omega⟩]; omega
  simp only [Option.bind_some, w1 (show k < 4611686018427387904 by omega), e1]) (fun p c hp => by
  simp only [g37_l0]
  rw [if_neg (by simp; omega)])
 simp only [g37, h, Option.bind_some]
 simp
theorem ints_to (l : List Int) (hl : l.length ≤ 1048576) : g43 l = some l := by
 have h := to_loop l (fun x => x) 0 (step := g43_l0 l) (fun k hk p hp => by
  simp only [g43_l0]
  rw [if_pos (decide_eq_true (by omega)), idx_lt hk]
  simp only [Option.bind_some]
  rw [idx_lt (l := p) (k := k) (by omega)]
  simp only [Option.bind_some, Int.toNat_natCast, w1 (show k < 4611686018427387904 by omega)]
  rw [List.getElem?_eq_getElem (by omega)]
  rfl) (fun p hp => by
  simp only [g43_l0]
  rw [if_neg (by simp)])
 simp only [List.map_id'] at h
 unfold g43
 rw [if_pos (by omega), if_pos (by omega), Int.toNat_natCast]
 simp only [h, Option.bind_some]
theorem Rising.lt {l : List Int} {a b : Int} (h : Rising l a b) {i j : Nat} (hj : j < l.length) (hij : i < j) : l[i] < l[j] := by
 induction j with
 | zero => omega
 | succ j ih =>
  have h1 := (h (j + 1) l[j + 1] (List.getElem?_eq_getElem hj)).2 l[j] (by omega) (List.getElem?_eq_getElem (by omega))
  by_cases e : i = j
  ·subst e; exact h1
  ·have := ih (by omega) (by omega); omega
theorem g85_eq (l : List Int) (a : Int) (ha : I64 (a - 1)) (hl : l.length ≤ 1048576) : g85 l a = some (tf (Rising l 1 (a - 1))) := by
 have h : iter (g85_l0 l a) 0 = some (if tf (Rising l 1 (a - 1)) = true then .inl () else .inr false) := by
  refine iter_all l _ (fun k hk _ => ?_) ?_
  ·have hw2 : IntKind.i64.wrap ((k : Int) - 1) = (k : Int) - 1 := wr ⟨by omega, by omega⟩
   have hw3 : IntKind.i64.wrap ((k : Int) + 1) = ((k + 1 : Nat) : Int) := wr ⟨by omega, by omega⟩
   simp only [g85_l0]
   rw [if_pos (decide_eq_true (by omega)), idx_lt hk, wr ha]
   generalize hx : l[k] = x
   simp only [Option.bind_some, g56_eq, hw2]
   have hm : 0 < k → idx l ((k : Int) - 1) = l[k - 1]? := fun h => by
    have : ((k : Int) - 1) = ((k - 1 : Nat) : Int) := by omega
    rw [this, idx_nat]
   obtain ⟨y, h1, h2⟩ := gsome (o := idx l ((k : Int) - 1)) (g := ((!tf (1 ≤ x ∧ x ≤ a - 1)) == false && decide ((k : Int) > 0) == true)) (fun h => by
    rw [hm (by simp at h; omega)]
    exact ⟨_, List.getElem?_eq_getElem (by omega)⟩)
   have hx' : idx l (k : Int) = some x := by rw [idx_lt hk, hx]
   obtain ⟨z, h3, h4⟩ := gsome (o := some x) (g := ((!tf (1 ≤ x ∧ x ≤ a - 1)) == false && decide ((k : Int) > 0) == true)) (fun h => ⟨_, rfl⟩)
   rw [h1]
   simp only [Option.bind_some, hx', h3, bindv, hw3]
   refine ⟨_, ?_, rfl⟩
   by_cases hr : 1 ≤ x ∧ x ≤ a - 1
   ·by_cases hk0 : 0 < k
    ·have hg : ((!tf (1 ≤ x ∧ x ≤ a - 1)) == false && decide ((k : Int) > 0) == true) = true := by simp [tf_iff, hr]; omega
     have hy : l[k - 1]? = some y := by rw [← hm hk0]; exact h2 hg
     have hz : x = z := Option.some.inj (h4 hg)
     subst hz
     have e3 : (∀ z, 0 < k → l[k - 1]? = some z → z < x) ↔ y < x := by
      rw [hy]; exact ⟨fun h => h y hk0 rfl, fun h z _ hz => by cases hz; exact h⟩
     rw [e3]
     simp [hr]; omega
    ·have e3 : (∀ z, 0 < k → l[k - 1]? = some z → z < x) ↔ True := ⟨fun _ => trivial, fun _ z h => absurd h hk0⟩
     rw [e3]
     simp [hr]; omega
   ·have : tf (1 ≤ x ∧ x ≤ a - 1) = false := tf_neg hr
    rw [this]; simp [hr]
  ·simp only [g85_l0]
   rw [if_neg (by simp)]
 simp only [g85, h, Option.bind_some]
 split
 ·rename_i e; split at e
  ·rename_i hh; rw [hh]
  ·cases e
 ·rename_i q e; split at e
  ·cases e
  ·rename_i hh; cases e; simp only [Bool.not_eq_true] at hh; rw [hh]
end Go.Ev
end
section
namespace Go.Ev
theorem g110_eq (a b : Int) : g110 a b = some (if a < b then -1 else if b < a then 1 else 0) := by
 simp only [g110, g136, Option.bind_some]
 simp
 split
 ·rfl
 ·split <;> rfl
theorem TabOK.lt {t : DTable} (h : TabOK t) {i j : Nat} (hj : j < t.list_.length) (hij : i < j) : (t.list_[i]'(by omega)).id < t.list_[j].id := by
 induction j with
 | zero => omega
 | succ j ih =>
  have h1 := (h.2.2.2 (j + 1) _ (List.getElem?_eq_getElem hj)).2.1 t.list_[j] (by omega) (by simp [List.getElem?_eq_getElem (show j < t.list_.length by omega)])
  by_cases e : i = j
  ·subst e; exact h1
  ·have := ih (by omega) (by omega); omega
def marks (n : Nat) (a : Int) : List DLease := (List.range n).map fun (k : Nat) => DLease.mk (a + 4 * k) (a + 4 * k + 1) (a + 4 * k + 2) ((a + 4 * k + 3).tmod 3 == 0)
theorem marks_len (n : Nat) (a : Int) : (marks n a).length = n := by simp [marks]
theorem marks_get (n : Nat) (a : Int) (k : Nat) (h : k < (marks n a).length) : (marks n a)[k] = DLease.mk (a + 4 * k) (a + 4 * k + 1) (a + 4 * k + 2) ((a + 4 * k + 3).tmod 3 == 0) := by simp [marks]
theorem g72_eq (l : List DLease) (hl : l.length ≤ 1048576) : g72 l 1 = some (1 + 4 * (l.length : Int), marks l.length 1) := by
 have hml : (marks l.length 1).length = l.length := marks_len _ _
 have h := iter_upto (step := g72_l0) (fun k => ((marks l.length 1).take k ++ l.drop k, 1 + 4 * (k : Int), (k : Int))) l.length (marks l.length 1, 1 + 4 * (l.length : Int)) (fun k hk => by
  have hlen : ((marks l.length 1).take k ++ l.drop k).length = l.length := by simp [hml]; omega
  generalize hrow : (marks l.length 1).take k ++ l.drop k = row at hlen ⊢
  have hkr : k < row.length := by omega
  have w1 : IntKind.i64.wrap (1 + 4 * (k : Int) + 1) = 1 + 4 * (k : Int) + 1 := wr ⟨by omega, by omega⟩
  have w2 : IntKind.i64.wrap (1 + 4 * (k : Int) + 1 + 1) = 1 + 4 * (k : Int) + 2 := by rw [wr ⟨by omega, by omega⟩]; omega
  have w3 : IntKind.i64.wrap (1 + 4 * (k : Int) + 2 + 1) = 1 + 4 * (k : Int) + 3 := by rw [wr ⟨by omega, by omega⟩]; omega
  have w4 : IntKind.i64.wrap (1 + 4 * (k : Int) + 3 + 1) = 1 + 4 * ((k + 1 : Nat) : Int) := by rw [wr ⟨by omega, by omega⟩]; omega
  have w5 : IntKind.i64.wrap ((k : Int) + 1) = ((k + 1 : Nat) : Int) := wr ⟨by omega, by omega⟩
  simp only [g72_l0]
  rw [if_pos (decide_eq_true (by omega))]
  have hi : ∀ r : List DLease, r.length = row.length → idx r (k : Int) = some (r[k]?.getD default) ∧ r[k]? = some (r[k]?.getD default) := fun r hr => by
   rw [idx_nat, List.getElem?_eq_getElem (by omega)]; exact ⟨rfl, rfl⟩
  rw [(hi row rfl).1]
  simp only [Option.bind_some, Int.toNat_natCast, bindv, w1, w2, w3, w4, w5]
  rw [(hi row rfl).2]
  simp only [Option.bind_some, List.set_set]
  have hs : ∀ x : DLease, (row.set k x)[k]? = some x := fun x => by rw [List.getElem?_set_self (by omega)]
  have hs' : ∀ x : DLease, idx (row.set k x) (k : Int) = some x := fun x => by rw [idx_nat, hs]
  simp only [hs, hs', Option.bind_some, List.set_set]
  congr 3
  rw [← hrow, List.set_append, if_neg (by simp [hml]; omega), List.take_succ_eq_append_getElem (by omega), marks_get, List.append_assoc]
  congr 1
  have e : k - (List.take k (marks l.length 1)).length = 0 := by simp [hml]; omega
  rw [e, List.drop_eq_getElem_cons hk]
  rfl) (by
  simp only [g72_l0]
  rw [if_neg (by simp [hml])]
  simp only [List.drop_length, List.append_nil]
  rw [List.take_of_length_le (by omega)])
 simp only [List.take_zero, List.nil_append, List.drop_zero] at h
 simp only [g72]
 have h' : iter g72_l0 (l, 1, 0) = some (marks l.length 1, 1 + 4 * (l.length : Int)) := h
 rw [h']
 rfl
theorem g26_eq (t : DTable) (hl : t.list_.length ≤ 1048576) : g26 t 1 = some (1 + 4 * (t.list_.length : Int), marks t.list_.length 1) := by
 simp [g26, g72_eq _ hl, marks_len]
end Go.Ev
end
section
namespace Go.Ev
theorem iter_inv {σ ρ : Type} {step : σ → Option (σ ⊕ ρ)} (I : σ → Prop) (μ : σ → Nat) (R : ρ → Prop)
  (h : ∀ s, I s → (∃ s', step s = some (.inl s') ∧ I s' ∧ μ s' < μ s) ∨ (∃ r, step s = some (.inr r) ∧ R r)) : ∀ (n : Nat) (s0 : σ), μ s0 < n → I s0 → ∃ r, iter step s0 = some r ∧ R r := by
 intro n
 induction n with
 | zero => intro s0 hn; omega
 | succ n ih =>
  intro s0 hn hI
  rcases h s0 hI with ⟨s', h1, h2, h3⟩ | ⟨r, h1, h2⟩
  ·obtain ⟨r, h4, h5⟩ := ih s' (by omega) h2
   exact ⟨r, by rw [iter_next h1, h4], h5⟩
  ·exact ⟨r, iter_end h1, h2⟩
theorem iter_inv' {σ ρ : Type} {step : σ → Option (σ ⊕ ρ)} (I : σ → Prop) (μ : σ → Nat) (R : ρ → Prop) (s0 : σ) (h0 : I s0)
  (h : ∀ s, I s → (∃ s', step s = some (.inl s') ∧ I s' ∧ μ s' < μ s) ∨ (∃ r, step s = some (.inr r) ∧ R r)) : ∃ r, iter step s0 = some r ∧ R r :=
 iter_inv I μ R h (μ s0 + 1) s0 (by omega) h0
def FoundAt (l : List DLease) (x n : Int) : Prop := (n = -1 ∧ ∀ y ∈ l, y.id ≠ x) ∨ ∃ k, ∃ h : k < l.length, n = (k : Int) ∧ l[k].id = x
theorem g92_eq (t : DTable) (x : Int) (hl : t.list_.length ≤ 1048576) : ∃ n, g92 t x = some n ∧ FoundAt t.list_ x n := by
 obtain ⟨r, h1, h2⟩ := iter_inv' (step := g92_l0 t x) (fun s => ∃ k : Nat, s = (k : Int) ∧ k ≤ t.list_.length ∧ ∀ j, ∀ h : j < t.list_.length, j < k → t.list_[j].id ≠ x) (fun s => (t.list_.length - s).toNat)
  (fun r => (r = .inl () ∧ ∀ y ∈ t.list_, y.id ≠ x) ∨ ∃ n, r = .inr n ∧ FoundAt t.list_ x n) 0 ⟨0, rfl, by omega, by intros; omega⟩ (by
   rintro _ ⟨k, rfl, hk, hj⟩
   simp only [g92_l0]
   by_cases hlt : k < t.list_.length
   ·rw [if_pos (decide_eq_true (by omega)), idx_lt hlt]
    simp only [Option.bind_some, wr (n := (k : Int) + 1) ⟨by omega, by omega⟩]
    by_cases hp : t.list_[k].id = x
    ·rw [if_pos (by simp [hp])]
     exact .inr ⟨_, rfl, .inr ⟨_, rfl, .inr ⟨k, hlt, rfl, hp⟩⟩⟩
    ·rw [if_neg (by simp [hp])]
     refine .inl ⟨_, rfl, ⟨k + 1, rfl, by omega, fun j h hj2 => ?_⟩, by omega⟩
     by_cases e : j = k
     ·subst e; exact hp
     ·exact hj j h (by omega)
   ·rw [if_neg (by simp; omega)]
    refine .inr ⟨_, rfl, .inl ⟨rfl, fun y hy => ?_⟩⟩
    obtain ⟨j, hj1, rfl⟩ := List.getElem_of_mem hy
    exact hj j hj1 (by omega))
 simp only [g92, h1, Option.bind_some]
 rcases h2 with ⟨rfl, h2⟩ | ⟨n, rfl, h2⟩
 ·exact ⟨-1, rfl, .inl ⟨rfl, h2⟩⟩
 ·exact ⟨n, rfl, h2⟩
theorem half (a : Nat) (h : a ≤ 4194304) : IntKind.i64.wrap (ishr .u64 (IntKind.u64.wrap (IntKind.i64.wrap (a : Int))) 1) = ((a / 2 : Nat) : Int) := by
 have h1 : IntKind.u64.wrap (a : Int) = a := by
  have e : IntKind.u64.wrap (a : Int) = (a : Int) % 18446744073709551616 := by simp [IntKind.wrap, IntKind.bits, IntKind.signed]
  rw [e]; omega
 have h2 : (2 : Int) ^ min (1 : Int).toNat 64 = 2 := by decide
 rw [wr (n := (a : Int)) ⟨by omega, by omega⟩, h1]
 simp only [ishr, h2]
 rw [Int.fdiv_eq_ediv_of_nonneg _ (by omega), wr ⟨by omega, by omega⟩]
 omega
theorem g114_eq (x : DLease) (a : Int) : g114 x a = some (if x.id < a then -1 else if a < x.id then 1 else 0) := by simp [g114, g110_eq]
theorem g77_eq (t : DTable) (h : TabOK t) (x n : Int) (hn : FoundAt t.list_ x n) : ∃ i b, g77 t x = some (i, b) ∧ (b = true → i = n ∧ 0 ≤ n) ∧ (b = false → n = -1) := by
 have hl := h.2.2.1
 obtain ⟨r, h1, h2⟩ := iter_inv' (step := g113_l0 t.list_ x (fun a b => g114 a b)) (fun s => ∃ i j : Nat, s = ((i : Int), (j : Int)) ∧ i ≤ j ∧ j ≤ t.list_.length ∧ (∀ k, ∀ h : k < t.list_.length, k < i → t.list_[k].id < x) ∧ ∀ k, ∀ h : k < t.list_.length, j ≤ k → x ≤ t.list_[k].id)
  (fun s => (s.2 - s.1).toNat) (fun r => ∃ i : Nat, r = i ∧ i ≤ t.list_.length ∧ (∀ k, ∀ h : k < t.list_.length, k < i → t.list_[k].id < x) ∧ ∀ k, ∀ h : k < t.list_.length, i ≤ k → x ≤ t.list_[k].id) (0, (t.list_.length : Int))
  ⟨0, t.list_.length, rfl, by omega, by omega, by intros; omega, by intros; omega⟩ (by
   rintro _ ⟨i, j, rfl, hij, hj, ha, hb⟩
   simp only [g113_l0]
   by_cases hlt : i < j
   ·have e : (i : Int) + (j : Int) = ((i + j : Nat) : Int) := by omega
    rw [if_pos (decide_eq_true (by omega)), e, half _ (by omega)]
    have hm : (i + j) / 2 < t.list_.length := by omega
    simp only [bindv, idx_lt hm, Option.bind_some, g114_eq]
    have hw : IntKind.i64.wrap (((i + j) / 2 : Nat) + 1 : Int) = (((i + j) / 2 + 1 : Nat) : Int) := wr ⟨by omega, by omega⟩
    rw [hw]
    left
    by_cases hc : t.list_[(i + j) / 2].id < x
    ·rw [if_pos hc, if_pos (by decide)]
     refine ⟨_, rfl, ⟨_, j, rfl, by omega, hj, fun k hk hki => ?_, hb⟩, by simp only; omega⟩
     by_cases e : k = (i + j) / 2
     ·subst e; exact hc
     ·have := h.lt hm (show k < (i + j) / 2 by omega); omega
    ·have : ¬ (if t.list_[(i + j) / 2].id < x then (-1 : Int) else if x < t.list_[(i + j) / 2].id then 1 else 0) < 0 := by
      rw [if_neg hc]; split <;> omega
     rw [if_neg (by simpa using this)]
     refine ⟨_, rfl, ⟨i, _, rfl, by omega, by omega, ha, fun k hk hki => ?_⟩, by simp only; omega⟩
     by_cases e : k = (i + j) / 2
     ·subst e; omega
     ·have := h.lt hk (show (i + j) / 2 < k by omega); omega
   ·rw [if_neg (by simp; omega)]
    exact .inr ⟨_, rfl, i, rfl, by omega, ha, fun k hk hki => hb k hk (by omega)⟩)
 obtain ⟨i, rfl, hi, ha, hb⟩ := h2
 simp only [g77, g113, h1, Option.bind_some]
 by_cases hlt : i < t.list_.length
 ·have hd : (decide ((i : Int) < (t.list_.length : Int)) == true) = true := by simp; omega
  simp only [hd, if_true, idx_lt hlt, Option.bind_some, g114_eq]
  refine ⟨_, _, rfl, ?_, ?_⟩
  ·intro hh
   have hx : t.list_[i].id = x := by
    have := hb i hlt (by omega)
    rw [decide_eq_true (by omega)] at hh
    simp at hh
    split at hh
    ·omega
    ·split at hh <;> omega
   rcases hn with ⟨rfl, hn⟩ | ⟨k, hk, rfl, hkx⟩
   ·exact absurd hx (hn _ (List.getElem_mem _))
   ·by_cases e : k = i
    ·subst e; exact ⟨rfl, by omega⟩
    ·by_cases e2 : k < i
     ·have := ha k hk e2; omega
     ·have := h.lt hk (show i < k by omega); omega
  ·intro hh
   rcases hn with ⟨rfl, hn⟩ | ⟨k, hk, rfl, hkx⟩
   ·rfl
   ·exfalso
    have hne : t.list_[i].id ≠ x := fun e => by
     rw [decide_eq_true (by omega), e] at hh
     simp at hh
    have := hb i hlt (by omega)
    by_cases e : k = i
    ·subst e; exact hne hkx
    ·by_cases e2 : k < i
     ·have := ha k hk e2; omega
     ·have := h.lt hk (show i < k by omega); omega
 ·have hd : ¬ (decide ((i : Int) < (t.list_.length : Int)) == true) = true := by simp; omega
  simp only [hd, if_false, Option.bind_some]
  refine ⟨_, _, rfl, ?_, ?_⟩
  ·rw [decide_eq_false (by omega)]; intro hh; cases hh
  ·intro _
   rcases hn with ⟨rfl, hn⟩ | ⟨k, hk, rfl, hkx⟩
   ·rfl
   ·have := ha k hk (by omega); omega
end Go.Ev
end
section
namespace Go.Ev
theorem g127_eq (l : List Int) (f : Int → Option Bool) (p : Int → Bool) (hf : ∀ x ∈ l, f x = some (p x)) (hl : l.length ≤ 4611686018427387903) : g127 l f = some (firstOf l p) := index_loop l f p hf hl (fun _ => rfl)
theorem g129_eq (l : List Int) (f : Int → Option Bool) (p : Int → Bool) (hf : ∀ x ∈ l, f x = some (p x)) (hl : l.length ≤ 4611686018427387903) : g129 l f = some (l.any p) := by
 unfold g129; rw [g127_eq l f p hf hl]; simp only [Option.bind_some, firstOf_ge]
theorem g97_eq (l : List Int) (f : Int → Option Bool) (p : Int → Bool) (hf : ∀ x ∈ l, f x = some (p x)) (hl : l.length ≤ 4611686018427387903) : g97 l f = some (l.all p) := by
 unfold g97; rw [g129_eq l _ (fun x => !p x) (fun x hx => by simp [g130, hf x hx]) hl]; simp only [Option.bind_some, all_any]
theorem g94_eq (l : List DIntent) (hl : l.length ≤ 1048576) (hE : ∀ x ∈ l, g125 x = some x) : g94 l = some l := by
 have h := to_loop l id default (step := g94_l0 l) (fun k hk p hp => by
  simp only [g94_l0]
  rw [if_pos (decide_eq_true (by omega)), idx_lt hk]
  simp only [Option.bind_some]
  rw [hE _ (List.getElem_mem hk)]
  simp only [Option.bind_some]
  rw [idx_lt (l := p) (k := k) (by omega)]
  simp only [Option.bind_some, Int.toNat_natCast]
  rw [List.getElem?_eq_getElem (by omega)]
  simp only [Option.bind_some, w1 (show k < 4611686018427387904 by omega)]
  rfl) (fun p hp => by
  simp only [g94_l0]
  rw [if_neg (by simp)])
 rw [List.map_id] at h
 unfold g94
 rw [if_pos (by omega), if_pos (by omega)]
 simp only [Int.toNat_natCast, bindv]
 first
 | (rw [show (iter (g94_l0 l) (List.replicate l.length default, 0)) = _ from h]; rfl)
 | (erw [h]; rfl)
theorem g131_refl (a : DIntent) : g131 a a = some true := by simp [g131]
theorem g99_refl (l : List DIntent) (hl : l.length ≤ 1048576) (hE : ∀ x ∈ l, g131 x x = some true) : g99 l l = some true := by
 have h := same_loop l (step := g99_l0 l l) (fun k hk => by
  simp only [g99_l0]
  rw [if_pos (decide_eq_true (by omega)), idx_lt hk]
  simp [w1 (show k < 4611686018427387904 by omega), hE _ (List.getElem_mem hk)]) (by
  simp only [g99_l0]
  rw [if_neg (by simp)])
 unfold g99
 rw [if_neg (by simp), h]
 rfl
end Go.Ev
end
section
set_option maxHeartbeats 1000000
namespace Go.Ev
abbrev NotIn (t : DTable) (x : Int) : Prop := ∀ y ∈ t.list_, y.id ≠ x
abbrev NotOf (l : List DIntent) (x : Int) : Prop := ∀ y ∈ l, y.lease ≠ x
theorem found_neg {l : List DLease} {x n : Int} (h : FoundAt l x n) : n < 0 ↔ ∀ y ∈ l, y.id ≠ x := by
 rcases h with ⟨rfl, h⟩ | ⟨k, hk, rfl, h⟩
 ·exact ⟨fun _ => h, fun _ => by omega⟩
 ·exact ⟨fun hh => by omega, fun hh => absurd h (hh _ (List.getElem_mem hk))⟩
theorem find_spec (t : DTable) (x : Int) (hl : t.list_.length ≤ 1048576) : ∃ n, g92 t x = some n ∧ decide (n < 0) = tf (NotIn t x) ∧ decide (n ≥ 0) = !tf (NotIn t x) := by
 obtain ⟨n, h1, h2⟩ := g92_eq t x hl
 have h3 := found_neg h2
 refine ⟨n, h1, ?_, ?_⟩
 ·rw [dec_tf]; exact tf_congr h3
 ·rw [dec_tf, tf_not]
  refine tf_congr ⟨fun h hh => ?_, fun h => Classical.byContradiction fun hh => h (h3.1 (by omega))⟩
  have := h3.2 hh
  omega
theorem find_impl (t : DTable) (h : TabOK t) (x : Int) : ∃ i b, g77 t x = some (i, b) ∧ (!b) = tf (NotIn t x) := by
 obtain ⟨n, _, h2⟩ := g92_eq t x (by have := h.2.2.1; omega)
 obtain ⟨i, b, e1, e2, e3⟩ := g77_eq t h x n h2
 have h3 := found_neg h2
 refine ⟨i, b, e1, ?_⟩
 cases b with
 | true =>
  have := (e2 rfl).2
  exact (tf_neg fun hh => by have := h3.2 hh; omega).symm
 | false =>
  have := e3 rfl
  exact (tf_pos (h3.1 (by omega))).symm
theorem intent_spec (v : DVault) (x : Int) (hl : v.intents.length ≤ 1048576) : ∃ n, g124 v x = some n ∧ decide (n < 0) = tf (NotOf v.intents x) := by
 obtain ⟨r, h1, h2⟩ := iterI (step := g124_l0 v x) (fun s => ∃ k : Nat, s = (k : Int) ∧ k ≤ v.intents.length ∧ ∀ j, ∀ h : j < v.intents.length, j < k → v.intents[j].lease ≠ x) (fun s => (v.intents.length - s).toNat)
  (fun r => (r = .inl () ∧ NotOf v.intents x) ∨ ∃ n : Nat, r = .inr (n : Int) ∧ ¬ NotOf v.intents x) 0 ⟨0, rfl, by omega, by intros; omega⟩ (by
   rintro _ ⟨k, rfl, hk, hj⟩
   simp only [g124_l0]
   by_cases hlt : k < v.intents.length
   ·rw [if_pos (decide_eq_true (by omega)), idx_lt hlt]
    simp only [Option.bind_some, w1 (show k < 4611686018427387904 by omega)]
    by_cases hp : v.intents[k].lease = x
    ·rw [if_pos (by simp [hp])]
     exact .inr ⟨_, rfl, .inr ⟨k, rfl, fun hh => hh _ (List.getElem_mem hlt) hp⟩⟩
    ·rw [if_neg (by simp [hp])]
     refine .inl ⟨_, rfl, ⟨k + 1, rfl, by omega, fun j h hj2 => ?_⟩, by omega⟩
     by_cases e : j = k
     ·subst e; exact hp
     ·exact hj j h (by omega)
   ·rw [if_neg (by simp; omega)]
    refine .inr ⟨_, rfl, .inl ⟨rfl, fun y hy => ?_⟩⟩
    obtain ⟨j, hj1, rfl⟩ := List.getElem_of_mem hy
    exact hj j hj1 (by omega))
 simp only [g124, h1, Option.bind_some]
 rcases h2 with ⟨rfl, h2⟩ | ⟨n, rfl, h2⟩
 ·exact ⟨-1, rfl, by rw [tf_pos h2]; decide⟩
 ·exact ⟨n, rfl, by rw [tf_neg h2]; simp⟩
theorem leases_eq (l : List DIntent) (hl : l.length ≤ 1048576) : g95 l = some (l.map DIntent.lease) := by
 have h := iter_upto (step := g95_l0 l) (fun k => ((l.take k).map DIntent.lease, (k : Int))) l.length (l.map DIntent.lease) (fun k hk => by
  simp only [g95_l0]
  rw [if_pos (decide_eq_true (by omega)), idx_lt hk]
  simp only [Option.bind_some, w1 (show k < 4611686018427387904 by omega)]
  rw [if_pos (by simp; omega), List.take_succ_eq_append_getElem hk, List.map_append]
  rfl) (by
  simp only [g95_l0]
  rw [if_neg (by simp), List.take_length])
 simp only [g95]
 rw [show (([] : List Int), (0 : Int)) = ((l.take 0).map DIntent.lease, ((0 : Nat) : Int)) from rfl, h]
 rfl
theorem concat_two (a b : List Int) (ha : a.length ≤ 1048576) (hb : b.length ≤ 1048576) : g126 [a, b] = some (a ++ b) := by
 have wa : IntKind.i64.wrap (0 + (a.length : Int)) = (a.length : Int) := by rw [wr ⟨by omega, by omega⟩]; omega
 have wb : IntKind.i64.wrap ((a.length : Int) + (b.length : Int)) = (a.length : Int) + (b.length : Int) := wr ⟨by omega, by omega⟩
 have k1 : IntKind.i64.wrap ((0 : Int) + 1) = 1 := by decide
 have k2 : IntKind.i64.wrap ((1 : Int) + 1) = 2 := by decide
 have s0 : g126_l0 [a, b] (0, 0) = some (.inl ((a.length : Int), 1)) := by
  simp only [g126_l0, g126_j0]
  rw [if_pos (by simp), show idx [a, b] (0 : Int) = some a from rfl]
  simp only [Option.bind_some, wa, k1]
  rw [if_neg (by simp)]
 have s1 : g126_l0 [a, b] ((a.length : Int), 1) = some (.inl ((a.length : Int) + (b.length : Int), 2)) := by
  simp only [g126_l0, g126_j0]
  rw [if_pos (by simp), show idx [a, b] (1 : Int) = some b from rfl]
  simp only [Option.bind_some, wb, k2]
  rw [if_neg (by simp; omega)]
 have s2 : g126_l0 [a, b] ((a.length : Int) + (b.length : Int), 2) = some (.inr ((a.length : Int) + (b.length : Int))) := by
  simp only [g126_l0]
  rw [if_neg (by simp)]
 have u0 : g126_l1 [a, b] ([], 0) = some (.inl (a, 1)) := by
  simp only [g126_l1]
  rw [if_pos (by simp), show idx [a, b] (0 : Int) = some a from rfl]
  simp only [Option.bind_some, k1, List.nil_append]
  rw [if_pos (by simp; omega)]
 have u1 : g126_l1 [a, b] (a, 1) = some (.inl (a ++ b, 2)) := by
  simp only [g126_l1]
  rw [if_pos (by simp), show idx [a, b] (1 : Int) = some b from rfl]
  simp only [Option.bind_some, k2]
  rw [if_pos (by omega)]
 have u2 : g126_l1 [a, b] (a ++ b, 2) = some (.inr (a ++ b)) := by
  simp only [g126_l1]
  rw [if_neg (by simp)]
 have hg : g144 ([] : List Int) ((a.length : Int) + (b.length : Int)) = some [] := by
  unfold g144
  rw [if_pos ⟨by omega, by simp; omega⟩]
 simp only [g126, iter_next s0, iter_next s1, iter_end s2, Option.bind_some, hg, iter_next u0, iter_next u1, iter_end u2]
def putAll : List Int → List (Int × Bool) → List (Int × Bool)
 | [], l => l
 | x :: r, l => putAll r (kvPut l x true)
theorem kvGet_put (x n : Int) (b : Bool) : ∀ l : List (Int × Bool), kvGet (kvPut l n b) x = if n = x then b else kvGet l x
 | [] => by simp [kvPut, kvGet]
 | (k, c) :: r => by
  simp only [kvPut]
  by_cases h : k = n
  ·subst h
   simp only [if_true, kvGet]
   split <;> rfl
  ·simp only [h, if_false, kvGet, kvGet_put x n b r]
   by_cases h2 : k = x
   ·subst h2
    simp [Ne.symm h]
   ·simp [h2]
theorem kvGet_all (x : Int) : ∀ (r : List Int) (l : List (Int × Bool)), kvGet (putAll r l) x = (decide (x ∈ r) || kvGet l x)
 | [], l => by simp [putAll]
 | y :: r, l => by
  rw [putAll, kvGet_all x r, kvGet_put]
  by_cases h : y = x
  ·subst h; simp
  ·by_cases h2 : x ∈ r
   ·simp [h2]
   ·simp [h, h2, Ne.symm h]
theorem put_loop (r : List Int) (hl : r.length ≤ 4194304) : ∃ m, iter (g96_l0 r) (0, []) = some m ∧ ∀ x, kvGet m x = decide (x ∈ r) := by
 have h := iter_upto (step := g96_l0 r) (fun k => ((k : Int), putAll (r.take k) [])) r.length (putAll r []) (fun k hk => by
  simp only [g96_l0]
  rw [if_pos (decide_eq_true (by omega)), idx_lt hk]
  simp only [Option.bind_some, Int.toNat_natCast]
  rw [List.getElem?_eq_getElem hk]
  simp only [Option.bind_some, w1 (show k < 4611686018427387904 by omega)]
  congr 3
  rw [List.take_succ_eq_append_getElem hk]
  generalize r.take k = q
  generalize ([] : List (Int × Bool)) = l
  induction q generalizing l with
  | nil => rfl
  | cons y q ih => exact ih _) (by
  simp only [g96_l0]
  rw [if_neg (by simp), List.take_length])
 refine ⟨putAll r [], h, fun x => ?_⟩
 rw [kvGet_all]
 simp [kvGet]
def Named (v : DVault) (x : Int) : Prop := ¬ NotIn v.table x ∨ ¬ NotOf v.intents x
theorem named_iff (v : DVault) (x : Int) : x ∈ v.table.list_.map DLease.id ++ v.intents.map DIntent.lease ↔ Named v x := by
 simp [Named]
theorem firstOf_some {α : Type} (l : List α) (p : α → Bool) : (firstOf l p = -1 ∧ ∀ x ∈ l, p x = false) ∨ ∃ k, ∃ h : k < l.length, firstOf l p = (k : Int) ∧ p l[k] = true := by
 unfold firstOf
 cases hf : l.findIdx? p with
 | none => exact .inl ⟨rfl, fun x hx => List.findIdx?_eq_none_iff.1 hf x hx⟩
 | some k =>
  obtain ⟨h, h1, _⟩ := List.findIdx?_eq_some_iff_getElem.1 hf
  exact .inr ⟨k, h, rfl, h1⟩
theorem stray_eq (v : DVault) (h1 : v.table.list_.length ≤ 1048576) (h2 : v.intents.length ≤ 1048576) (h3 : v.accounts.length ≤ 1048576) : ∃ q, g96 v = some q ∧ (!q.2) = tf (∀ a ∈ v.accounts, Named v a) := by
 obtain ⟨m, m1, m2⟩ := put_loop (v.table.list_.map DLease.id ++ v.intents.map DIntent.lease) (by simp; omega)
 have hp : ∀ x ∈ v.accounts, (fun z => g128 z m) x = some (!decide (x ∈ v.table.list_.map DLease.id ++ v.intents.map DIntent.lease)) := fun x _ => by simp only [g128, m2]
 have hf := g127_eq v.accounts _ (fun x => !decide (x ∈ v.table.list_.map DLease.id ++ v.intents.map DIntent.lease)) hp (by omega)
 simp only [g96, g60_eq v.table h1, leases_eq v.intents h2, Option.bind_some, concat_two _ _ (show (v.table.list_.map DLease.id).length ≤ 1048576 by simpa using h1) (show (v.intents.map DIntent.lease).length ≤ 1048576 by simpa using h2), m1, hf]
 rcases firstOf_some v.accounts (fun x => !decide (x ∈ v.table.list_.map DLease.id ++ v.intents.map DIntent.lease)) with ⟨e1, e2⟩ | ⟨k, hk, e1, e2⟩
 ·rw [e1, if_pos (by decide)]
  refine ⟨_, rfl, (tf_pos fun a ha => ?_).symm⟩
  have := e2 a ha
  simp only [Bool.not_eq_false', decide_eq_true_eq] at this
  exact (named_iff v a).1 this
 ·rw [e1, if_neg (by simp), idx_lt hk]
  refine ⟨_, rfl, (tf_neg fun hh => ?_).symm⟩
  simp only [Bool.not_eq_true', decide_eq_false_iff_not] at e2
  exact e2 ((named_iff v _).2 (hh _ (List.getElem_mem hk)))
theorem lost_eq (v : DVault) (h1 : v.table.list_.length ≤ 1048576) (h2 : v.intents.length ≤ 1048576) (h3 : v.accounts.length ≤ 1048576) (hpos : ∀ a ∈ v.accounts, 1 ≤ a) : ∃ n, g93 v = some n ∧ (n == 0) = tf (∀ a ∈ v.accounts, Named v a) := by
 obtain ⟨r, e1, e2⟩ := iterI (step := g93_l0 v) (fun s => ∃ k : Nat, s = (k : Int) ∧ k ≤ v.accounts.length ∧ ∀ j, ∀ h : j < v.accounts.length, j < k → Named v v.accounts[j]) (fun s => (v.accounts.length - s).toNat)
  (fun r => (r = .inl () ∧ ∀ a ∈ v.accounts, Named v a) ∨ ∃ a, r = .inr a ∧ a ∈ v.accounts ∧ ¬ Named v a) 0 ⟨0, rfl, by omega, by intros; omega⟩ (by
   rintro _ ⟨k, rfl, hk, hj⟩
   simp only [g93_l0]
   by_cases hlt : k < v.accounts.length
   ·rw [if_pos (decide_eq_true (by omega)), idx_lt hlt]
    obtain ⟨n, f1, f2, _⟩ := find_spec v.table v.accounts[k] h1
    obtain ⟨n2, f3, f4⟩ := intent_spec v v.accounts[k] h2
    simp only [Option.bind_some, f1, f2, w1 (show k < 4611686018427387904 by omega)]
    by_cases hn : NotIn v.table v.accounts[k]
    ·simp only [tf_pos hn, beq_self_eq_true, if_true, Option.bind_some, f3, f4, cond_true]
     by_cases hi : NotOf v.intents v.accounts[k]
     ·rw [if_pos (tf_pos hi)]
      refine .inr ⟨_, rfl, .inr ⟨_, rfl, List.getElem_mem hlt, ?_⟩⟩
      rintro (hh | hh)
      ·exact hh hn
      ·exact hh hi
     ·rw [if_neg (by simp [tf_neg hi])]
      refine .inl ⟨_, rfl, ⟨k + 1, rfl, by omega, fun j h hj2 => ?_⟩, by omega⟩
      by_cases e : j = k
      ·subst e; exact .inr hi
      ·exact hj j h (by omega)
    ·simp only [tf_neg hn, show (false == true) = false from rfl, Bool.false_eq_true, if_false, Option.bind_some, cond_false]
     obtain ⟨d, d1, _⟩ := intent_spec v v.accounts[k] h2
     refine .inl ⟨_, rfl, ⟨k + 1, rfl, by omega, fun j h hj2 => ?_⟩, by omega⟩
     by_cases e : j = k
     ·subst e; exact .inl hn
     ·exact hj j h (by omega)
   ·rw [if_neg (by simp; omega)]
    refine .inr ⟨_, rfl, .inl ⟨rfl, fun y hy => ?_⟩⟩
    obtain ⟨j, hj1, rfl⟩ := List.getElem_of_mem hy
    exact hj j hj1 (by omega))
 simp only [g93, e1, Option.bind_some]
 rcases e2 with ⟨rfl, e2⟩ | ⟨a, rfl, e2, e3⟩
 ·exact ⟨0, rfl, by rw [tf_pos e2]; rfl⟩
 ·refine ⟨a, rfl, ?_⟩
  rw [tf_neg fun hh => e3 (hh a e2)]
  have := hpos a e2
  simp; omega
abbrev IntOK (v : DVault) (k : Nat) (x : DIntent) : Prop := (1 ≤ x.lease ∧ x.lease ≤ v.table.next - 1) ∧ (∀ y, 0 < k → v.intents[k - 1]? = some y → y.lease < x.lease) ∧ NotIn v.table x.lease
theorem intents_loop (v : DVault) (hn : 1 ≤ v.table.next ∧ v.table.next ≤ 1000000) (h1 : v.table.list_.length ≤ 1048576) (h2 : v.intents.length ≤ 1048576) :
  iter (g46_l0 v) 0 = some (if tf (∀ k x, v.intents[k]? = some x → IntOK v k x) = true then .inl () else .inr false) := by
 refine iter_all v.intents _ (fun k hk _ => ?_) ?_
 ·have hw2 : IntKind.i64.wrap ((k : Int) - 1) = (k : Int) - 1 := wr ⟨by omega, by omega⟩
  have hw4 : IntKind.i64.wrap (v.table.next - 1) = v.table.next - 1 := wr ⟨by omega, by omega⟩
  simp only [g46_l0]
  rw [if_pos (decide_eq_true (by omega)), idx_lt hk]
  generalize hx : v.intents[k] = x
  obtain ⟨n, f1, f2, f3⟩ := find_spec v.table x.lease h1
  simp only [Option.bind_some, g56_eq, hw2, hw4, f1, w1 (show k < 4611686018427387904 by omega)]
  have hm : 0 < k → idx v.intents ((k : Int) - 1) = v.intents[k - 1]? := fun h => by
   have : ((k : Int) - 1) = ((k - 1 : Nat) : Int) := by omega
   rw [this, idx_nat]
  obtain ⟨y, q1, q2⟩ := gsome (o := idx v.intents ((k : Int) - 1)) (g := ((!tf (1 ≤ x.lease ∧ x.lease ≤ v.table.next - 1)) == false && decide ((k : Int) > 0) == true)) (fun h => by
   rw [hm (by simp at h; omega)]
   exact ⟨_, List.getElem?_eq_getElem (by omega)⟩)
  rw [q1]
  simp only [Option.bind_some, bindv]
  by_cases hr : 1 ≤ x.lease ∧ x.lease ≤ v.table.next - 1
  ·simp only [tf_pos hr, Bool.not_true, cond_false]
   by_cases hk0 : 0 < k
   ·have hg : ((!tf (1 ≤ x.lease ∧ x.lease ≤ v.table.next - 1)) == false && decide ((k : Int) > 0) == true) = true := by simp [tf_iff, hr]; omega
    have hy : v.intents[k - 1]? = some y := by rw [← hm hk0]; exact q2 hg
    have e3 : (∀ z, 0 < k → v.intents[k - 1]? = some z → z.lease < x.lease) ↔ y.lease < x.lease := by
     rw [hy]; exact ⟨fun h => h y hk0 rfl, fun h z _ hz => by cases hz; exact h⟩
    rw [decide_eq_true (show (k : Int) > 0 by omega)]
    simp only [cond_true]
    by_cases hyx : y.lease < x.lease
    ·rw [decide_eq_false (show ¬ y.lease ≥ x.lease by omega)]
     simp only [beq_self_eq_true, if_true, Option.bind_some, cond_false, f3]
     refine ⟨_, ?_, rfl⟩
     simp [IntOK, hr, e3, hyx]
    ·rw [decide_eq_true (show y.lease ≥ x.lease by omega)]
     simp only [show (true == false) = false from rfl, Bool.false_eq_true, if_false, Option.bind_some, cond_true]
     refine ⟨true, ?_, by simp⟩
     simp [IntOK, e3, hyx]
   ·have e3 : (∀ z, 0 < k → v.intents[k - 1]? = some z → z.lease < x.lease) ↔ True := ⟨fun _ => trivial, fun _ z h => absurd h hk0⟩
    rw [decide_eq_false (show ¬ (k : Int) > 0 by omega)]
    simp only [cond_false, beq_self_eq_true, if_true, Option.bind_some, f3]
    refine ⟨_, ?_, rfl⟩
    simp [IntOK, hr, e3]
  ·simp only [tf_neg hr, Bool.not_false, cond_true, show (true == false) = false from rfl, Bool.false_eq_true, if_false, Option.bind_some]
   refine ⟨true, ?_, by simp⟩
   simp [IntOK, hr]
 ·simp only [g46_l0]
  rw [if_neg (by simp)]
theorem intents_all (v : DVault) : (∀ k x, v.intents[k]? = some x → IntOK v k x) ↔ Rising (v.intents.map DIntent.lease) 1 (v.table.next - 1) ∧ ∀ x ∈ v.intents.map DIntent.lease, NotIn v.table x := by
 constructor
 ·intro h
  refine ⟨fun k x hx => ?_, fun x hx => ?_⟩
  ·rw [List.getElem?_map, Option.map_eq_some_iff] at hx
   obtain ⟨i, hi, rfl⟩ := hx
   obtain ⟨a1, a2, _⟩ := h k i hi
   refine ⟨a1, fun y hp hy => ?_⟩
   rw [List.getElem?_map, Option.map_eq_some_iff] at hy
   obtain ⟨j, hj, rfl⟩ := hy
   exact a2 j hp hj
  ·obtain ⟨i, hi, rfl⟩ := List.mem_map.1 hx
   obtain ⟨k, hk, rfl⟩ := List.getElem_of_mem hi
   exact (h k _ (List.getElem?_eq_getElem hk)).2.2
 ·rintro ⟨h1, h2⟩ k x hx
  have hl : (v.intents.map DIntent.lease)[k]? = some x.lease := by rw [List.getElem?_map, hx]; rfl
  obtain ⟨a1, a2⟩ := h1 k _ hl
  refine ⟨a1, fun y hp hy => a2 _ hp (by rw [List.getElem?_map, hy]; rfl), h2 _ (List.mem_map.2 ⟨x, List.mem_of_getElem? hx, rfl⟩)⟩
def VaultRight (v : DVault) : Prop := TabOK v.table ∧ v.intents.length ≤ 40 ∧ v.accounts.length ≤ 80 ∧ Rising v.accounts 1 (v.table.next - 1) ∧ Rising (v.intents.map DIntent.lease) 1 (v.table.next - 1) ∧ (∀ x ∈ v.intents.map DIntent.lease, NotIn v.table x) ∧ ∀ a ∈ v.accounts, Named v a
theorem spec_right (v : DVault) (h1 : v.table.list_.length ≤ 1048576) (h2 : v.intents.length ≤ 1048576) (h3 : v.accounts.length ≤ 1048576) (hn : I64 v.table.next) : g46 v = some (tf (VaultRight v)) := by
 simp only [g46, g18_eq, Option.bind_some]
 by_cases p1 : TabOK v.table
 ·have hn1 := p1.2.1
  have hw4 : IntKind.i64.wrap (v.table.next - 1) = v.table.next - 1 := wr ⟨by omega, by omega⟩
  simp only [tf_pos p1, Bool.not_true, cond_false]
  by_cases p2 : v.intents.length ≤ 40
  ·rw [decide_eq_false (show ¬ (v.intents.length : Int) > 40 by omega)]
   simp only [cond_false]
   by_cases p3 : v.accounts.length ≤ 80
   ·rw [decide_eq_false (show ¬ (v.accounts.length : Int) > 80 by omega)]
    simp only [beq_self_eq_true, if_true, g85_eq v.accounts v.table.next ⟨by omega, by omega⟩ h3, Option.bind_some, bindv, cond_false]
    by_cases p4 : Rising v.accounts 1 (v.table.next - 1)
    ·rw [if_neg (by simp [tf_pos p4]), intents_loop v hn1 h1 h2]
     by_cases p5 : ∀ k x, v.intents[k]? = some x → IntOK v k x
     ·simp only [tf_pos p5, if_true, Option.bind_some]
      obtain ⟨n, e1, e2⟩ := lost_eq v h1 h2 h3 (fun a ha => (by
       obtain ⟨k, hk, rfl⟩ := List.getElem_of_mem ha
       exact (p4 k _ (List.getElem?_eq_getElem hk)).1.1))
      simp only [e1, Option.bind_some, e2]
      refine congrArg some (tf_congr ⟨fun h => ?_, fun h => h.2.2.2.2.2.2⟩)
      obtain ⟨q1, q2⟩ := (intents_all v).1 p5
      exact ⟨p1, p2, p3, p4, q1, q2, h⟩
     ·simp only [tf_neg p5, Bool.false_eq_true, if_false, Option.bind_some]
      refine congrArg some (tf_neg fun h => p5 ((intents_all v).2 ⟨h.2.2.2.2.1, h.2.2.2.2.2.1⟩)).symm
    ·rw [if_pos (by simp [tf_neg p4])]
     exact congrArg some (tf_neg fun h => p4 h.2.2.2.1).symm
   ·rw [decide_eq_true (show (v.accounts.length : Int) > 80 by omega)]
    simp only [show (true == false) = false from rfl, Bool.false_eq_true, if_false, Option.bind_some, bindv, cond_true, if_true]
    exact congrArg some (tf_neg fun h => p3 h.2.2.1).symm
  ·rw [decide_eq_true (show (v.intents.length : Int) > 40 by omega)]
   simp only [cond_true, show (true == false) = false from rfl, Bool.false_eq_true, if_false, Option.bind_some, bindv, if_true]
   exact congrArg some (tf_neg fun h => p2 h.2.1).symm
 ·simp only [tf_neg p1, Bool.not_false, cond_true, show (true == false) = false from rfl, Bool.false_eq_true, if_false, Option.bind_some, bindv, if_true]
  exact congrArg some (tf_neg fun h => p1 h.1).symm
theorem impl_right (v : DVault) (h1 : v.table.list_.length ≤ 1048576) (h2 : v.intents.length ≤ 1048576) (h3 : v.accounts.length ≤ 1048576) (hn : I64 v.table.next) : g48 v = some (tf (VaultRight v)) := by
 simp only [g48, g20_eq v.table h1 hn, Option.bind_some]
 by_cases p1 : TabOK v.table
 ·have hn1 := p1.2.1
  have hw4 : IntKind.i64.wrap (v.table.next - 1) = v.table.next - 1 := wr ⟨by omega, by omega⟩
  simp only [tf_pos p1, Bool.not_true, cond_false, hw4]
  by_cases p2 : v.intents.length ≤ 40
  ·rw [decide_eq_false (show ¬ (v.intents.length : Int) > 40 by omega)]
   simp only [cond_false, beq_self_eq_true, if_true, leases_eq v.intents h2, Option.bind_some, g59_eq _ 1 (v.table.next - 1) (show (v.intents.map DIntent.lease).length ≤ 1048576 by simpa using h2)]
   by_cases p5 : Rising (v.intents.map DIntent.lease) 1 (v.table.next - 1)
   ·simp only [tf_pos p5, Bool.not_true, cond_false]
    by_cases p3 : v.accounts.length ≤ 80
    ·rw [decide_eq_false (show ¬ (v.accounts.length : Int) > 80 by omega)]
     simp only [beq_self_eq_true, if_true, g59_eq v.accounts 1 (v.table.next - 1) h3, Option.bind_some, bindv, cond_false]
     by_cases p4 : Rising v.accounts 1 (v.table.next - 1)
     ·rw [if_neg (by simp [tf_pos p4])]
      obtain ⟨q, e1, e2⟩ := stray_eq v h1 h2 h3
      simp only [e1, Option.bind_some, e2]
      have hp : ∀ x ∈ v.intents.map DIntent.lease, (fun z => g98 z v) x = some (tf (NotIn v.table x)) := fun x _ => by
       obtain ⟨i, b, f1, f2⟩ := find_impl v.table p1 x
       simp only [g98, f1, Option.bind_some, f2]
      have hall := g97_eq (v.intents.map DIntent.lease) _ (fun x => tf (NotIn v.table x)) hp (by simp; omega)
      have e4 : (v.intents.map DIntent.lease).all (fun x => tf (NotIn v.table x)) = tf (∀ x ∈ v.intents.map DIntent.lease, NotIn v.table x) := by
       rw [Bool.eq_iff_iff, tf_iff, List.all_eq_true]
       exact ⟨fun h x hx => tf_iff.1 (h x hx), fun h x hx => tf_iff.2 (h x hx)⟩
      by_cases p7 : ∀ a ∈ v.accounts, Named v a
      ·simp only [tf_pos p7, beq_self_eq_true, if_true, Option.bind_some, hall, e4, cond_true]
       exact congrArg some (tf_congr ⟨fun h => ⟨p1, p2, p3, p4, p5, h, p7⟩, fun h => h.2.2.2.2.2.1⟩)
      ·simp only [tf_neg p7, show (false == true) = false from rfl, Bool.false_eq_true, if_false, Option.bind_some, cond_false]
       exact congrArg some (tf_neg fun h => p7 h.2.2.2.2.2.2).symm
     ·rw [if_pos (by simp [tf_neg p4])]
      exact congrArg some (tf_neg fun h => p4 h.2.2.2.1).symm
    ·rw [decide_eq_true (show (v.accounts.length : Int) > 80 by omega)]
     simp only [show (true == false) = false from rfl, Bool.false_eq_true, if_false, Option.bind_some, bindv, cond_true, if_true]
     exact congrArg some (tf_neg fun h => p3 h.2.2.1).symm
   ·simp only [tf_neg p5, Bool.not_false, cond_true, show (true == false) = false from rfl, Bool.false_eq_true, if_false, Option.bind_some, bindv, if_true]
    exact congrArg some (tf_neg fun h => p5 h.2.2.2.2.1).symm
  ·rw [decide_eq_true (show (v.intents.length : Int) > 40 by omega)]
   simp only [cond_true, show (true == false) = false from rfl, Bool.false_eq_true, if_false, Option.bind_some, bindv, if_true]
   exact congrArg some (tf_neg fun h => p2 h.2.1).symm
 ·simp only [tf_neg p1, Bool.not_false, cond_true, show (true == false) = false from rfl, Bool.false_eq_true, if_false, Option.bind_some, bindv, if_true]
  exact congrArg some (tf_neg fun h => p1 h.1).symm
theorem to_vault (v : DVault) (h1 : v.table.list_.length ≤ 1048576) (h2 : v.intents.length ≤ 1048576) (h3 : v.accounts.length ≤ 1048576) : g47 v = some v := by
 simp only [g47, g19_eq v.table h1, g94_eq v.intents h2 (fun _ _ => rfl), ints_to v.accounts h3, Option.bind_some]
theorem eq_vault (v : DVault) (h1 : v.table.list_.length ≤ 1048576) (h2 : v.intents.length ≤ 1048576) (h3 : v.accounts.length ≤ 1048576) : g49 v v = some true := by
 simp [g49, g21_eq v.table v.table h1, g99_refl v.intents h2 (fun x _ => g131_refl x), ints_self v.accounts h3]
theorem sz_vault (v : DVault) (o : okDVault v) : ∃ r, g45 v 1048576 = some r ∧ (0 ≤ r → v.table.list_.length ≤ 1048576 ∧ v.intents.length ≤ 1048576 ∧ v.accounts.length ≤ 1048576) := by
 have hl := o.1.2.2.1
 have hi := o.2.1.1
 have ha := o.2.2.1.1
 obtain ⟨r1, e1, e2⟩ := g17_eq v.table 1048576 (by omega) hl
 simp only [g45, e1, Option.bind_some]
 by_cases n1 : r1 < 0
 ·rw [if_pos (decide_eq_true n1)]; exact ⟨_, rfl, fun h => by omega⟩
 ·rw [if_neg (by simpa using n1)]
  obtain ⟨b1, b2⟩ := e2.1 (by omega)
  have hw : IntKind.i64.wrap (r1 - (v.intents.length : Int)) = r1 - (v.intents.length : Int) := wr ⟨by omega, by omega⟩
  simp only [g90, hw]
  by_cases n2 : r1 - (v.intents.length : Int) < 0
  ·rw [if_pos (decide_eq_true n2)]
   simp only [Option.bind_some]
   rw [if_pos (by decide)]
   exact ⟨_, rfl, fun h => by omega⟩
  ·rw [if_neg (by simpa using n2)]
   simp only [Option.bind_some]
   rw [if_neg (by simpa using n2)]
   have hw2 : IntKind.i64.wrap (r1 - (v.intents.length : Int) - (v.accounts.length : Int)) = r1 - (v.intents.length : Int) - (v.accounts.length : Int) := wr ⟨by omega, by omega⟩
   simp only [g91, hw2]
   by_cases n3 : r1 - (v.intents.length : Int) - (v.accounts.length : Int) < 0
   ·rw [if_pos (decide_eq_true n3)]
    simp only [Option.bind_some]
    rw [if_pos (by decide)]
    exact ⟨_, rfl, fun h => by omega⟩
   ·rw [if_neg (by simpa using n3)]
    simp only [Option.bind_some]
    rw [if_neg (by simpa using n3)]
    exact ⟨_, rfl, fun _ => ⟨by omega, by omega, by omega⟩⟩
end Go.Ev
end
section
set_option maxHeartbeats 1000000
namespace Go.Ev
abbrev digs : List UInt8 := [48, 49, 50, 51, 52, 53, 54, 55, 56, 57, 97, 98, 99, 100, 101, 102]
theorem nib_ok (x : Int) : ∃ j : Nat, iand .i64 x 15 = (j : Int) ∧ j < 16 := by
 unfold iand
 have h : (BitVec.ofInt IntKind.i64.bits x &&& BitVec.ofInt IntKind.i64.bits 15).toNat ≤ 15 := by
  rw [BitVec.toNat_and]
  exact Nat.le_trans Nat.and_le_right (by decide)
 refine ⟨(BitVec.ofInt IntKind.i64.bits x &&& BitVec.ofInt IntKind.i64.bits 15).toNat, ?_, by omega⟩
 exact wr ⟨by omega, by omega⟩
noncomputable def hx (x : Int) : UInt8 := (digs[(iand .i64 x 15).toNat]?).getD 0
theorem hx_ok (x : Int) : idx digs (iand .i64 x 15) = some (hx x) ∧ (hx x).toNat < 128 := by
 obtain ⟨j, h1, h2⟩ := nib_ok x
 have hj : j < digs.length := h2
 unfold hx
 rw [h1, idx_lt hj, Int.toNat_natCast, List.getElem?_eq_getElem hj]
 refine ⟨rfl, ?_⟩
 simp only [Option.getD_some]
 have : ∀ y ∈ digs, y.toNat < 128 := by decide
 exact this _ (List.getElem_mem hj)
noncomputable def sixteen (n : Int) : List UInt8 := (List.range 16).map fun i : Nat => hx (ishr .i64 n (60 - 4 * (i : Int)))
theorem range_succ_map {α : Type} (f : Nat → α) (k : Nat) : (List.range (k + 1)).map f = (List.range k).map f ++ [f k] := by
 rw [List.range_succ, List.map_append]; rfl
theorem hex_impl (n : Int) : g358 n = some (sixteen n) := by
 have h := iter_upto (step := g358_l0 n) (fun k => ((List.range k).map fun i : Nat => hx (ishr .i64 n (60 - 4 * (i : Int))), 15 - (k : Int))) 16 (sixteen n) (fun k hk => by
  have hw : IntKind.i64.wrap (4 * (15 - (k : Int))) = 60 - 4 * (k : Int) := by rw [wr ⟨by omega, by omega⟩]; omega
  have hw2 : IntKind.i64.wrap (15 - (k : Int) - 1) = 15 - ((k + 1 : Nat) : Int) := by rw [wr ⟨by omega, by omega⟩]; omega
  simp only [g358_l0]
  rw [if_pos (decide_eq_true (by omega)), hw, hw2, if_pos (by omega), (hx_ok _).1]
  simp only [Option.bind_some]
  rw [if_pos (by simp; omega), range_succ_map]) (by
  simp only [g358_l0]
  rw [if_neg (by simp)]
  rfl)
 have h' : iter (g358_l0 n) ([], 15) = some (sixteen n) := h
 simp only [g358, h', Option.bind_some]
theorem hex_spec (n : Int) : g312 n = some (sixteen n) := by
 have h := iter_upto (step := g312_l0 n) (fun k => ((List.range k).map fun i : Nat => hx (ishr .i64 n (60 - 4 * (i : Int))), 60 - 4 * (k : Int))) 16 (sixteen n) (fun k hk => by
  have hu : IntKind.u64.wrap (60 - 4 * (k : Int)) = 60 - 4 * (k : Int) := by
   have e : IntKind.u64.wrap (60 - 4 * (k : Int)) = (60 - 4 * (k : Int)) % 18446744073709551616 := by simp [IntKind.wrap, IntKind.bits, IntKind.signed]
   rw [e]; omega
  have hw2 : IntKind.i64.wrap (60 - 4 * (k : Int) - 4) = 60 - 4 * ((k + 1 : Nat) : Int) := by rw [wr ⟨by omega, by omega⟩]; omega
  simp only [g312_l0]
  rw [if_pos (decide_eq_true (by omega)), hu, hw2, if_pos (by omega), (hx_ok _).1]
  simp only [Option.bind_some]
  rw [if_pos (hx_ok _).2, if_pos (by simp; omega), range_succ_map]) (by
  simp only [g312_l0]
  rw [if_neg (by simp)]
  rfl)
 have h' : iter (g312_l0 n) ([], 60) = some (sixteen n) := h
 simp only [g312, h', Option.bind_some]
theorem sixteen_len (n : Int) : (sixteen n).length = 16 := by simp [sixteen]
abbrev wIntent : List UInt8 := [105, 110, 116, 101, 110, 116, 47]
abbrev wLease : List UInt8 := [108, 101, 97, 115, 101, 47]
abbrev wVault : List UInt8 := [118, 97, 117, 108, 116]
abbrev wUndo : List UInt8 := [117, 110, 100, 111]
abbrev wBegun : List UInt8 := [98, 101, 103, 117, 110]
abbrev wQueued : List UInt8 := [113, 117, 101, 117, 101, 100]
abbrev wLive : List UInt8 := [108, 105, 118, 101]
abbrev wSealed : List UInt8 := [115, 101, 97, 108, 101, 100]
abbrev wOpen : List UInt8 := [111, 112, 101, 110]
noncomputable def ipair (x : DIntent) : DPair := DPair.mk (wIntent ++ sixteen x.lease) (if x.undo = true then wUndo else wBegun)
noncomputable def lpair (x : DLease) : DPair := DPair.mk (wLease ++ sixteen x.id) ((sixteen x.until_ ++ sixteen x.cap) ++ (if x.queued = true then wQueued else wLive))
noncomputable def vpair (v : DVault) : DPair := DPair.mk wVault ((sixteen v.table.clock ++ sixteen v.table.next) ++ (if v.sealed = true then wSealed else wOpen))
noncomputable def pairsOf (v : DVault) : List DPair := v.intents.map ipair ++ v.table.list_.map lpair ++ [vpair v]
theorem push_from {α β : Type} (p : List α) (l : List β) (F : β → α) {step : List α × Int → Option ((List α × Int) ⊕ List α)}
  (hs : ∀ k (hk : k < l.length) (q : List α), q.length = p.length + k → step (q, (k : Int)) = some (.inl (q ++ [F l[k]], ((k + 1 : Nat) : Int)))) (he : ∀ q : List α, q.length = p.length + l.length → step (q, (l.length : Int)) = some (.inr q)) :
  iter step (p, 0) = some (p ++ l.map F) := by
 have h := iter_upto (step := step) (fun k => (p ++ (l.take k).map F, (k : Int))) l.length (p ++ l.map F) (fun k hk => by
  rw [hs k hk _ (by simp; omega), List.take_succ_eq_append_getElem hk, List.map_append, List.append_assoc]
  rfl) (by
  rw [he _ (by simp)]
  simp)
 simpa using h
theorem either_eq (b : Bool) (x y : List UInt8) : g359 b x y = some (if b = true then x else y) := by
 unfold g359; cases b <;> rfl
theorem word_len (b : Bool) {x y : List UInt8} (hx : x.length ≤ 8) (hy : y.length ≤ 8) : (if b = true then x else y).length ≤ 8 := by split <;> assumption
theorem pairs_impl (v : DVault) (h1 : v.table.list_.length ≤ 1048576) (h2 : v.intents.length ≤ 1048576) : g313 v = some (pairsOf v) := by
 have l0 := push_from [] v.intents ipair (step := g313_l0 v) (fun k hk q hq => by
  simp only [g313_l0]
  rw [if_pos (decide_eq_true (by omega)), idx_lt hk]
  simp only [Option.bind_some, hex_impl, either_eq, w1 (show k < 4611686018427387904 by omega), bindv]
  rw [if_pos (by simp only [List.length_cons, List.length_nil, sixteen_len]; omega), if_pos (by simp only [List.length_singleton]; simp at hq; omega)]
  rfl) (fun q hq => by
  simp only [g313_l0]
  rw [if_neg (by simp)])
 rw [List.nil_append] at l0
 have l1 := push_from (v.intents.map ipair) v.table.list_ lpair (step := g313_l1 v) (fun k hk q hq => by
  rw [List.length_map] at hq
  have hwl : (if v.table.list_[k].queued = true then ([113, 117, 101, 117, 101, 100] : List UInt8) else [108, 105, 118, 101]).length ≤ 8 := word_len _ (by decide) (by decide)
  simp only [g313_l1]
  rw [if_pos (decide_eq_true (by omega)), idx_lt hk]
  simp only [Option.bind_some, hex_impl, either_eq, w1 (show k < 4611686018427387904 by omega), bindv]
  rw [if_pos (by simp only [List.length_cons, List.length_nil, sixteen_len]; omega), if_pos (by simp only [sixteen_len]; omega), if_pos (by simp only [List.length_append, sixteen_len]; omega), if_pos (by simp only [List.length_singleton]; omega)]
  rfl) (fun q hq => by
  simp only [g313_l1]
  rw [if_neg (by simp)])
 have hwl : (if v.sealed = true then ([115, 101, 97, 108, 101, 100] : List UInt8) else [111, 112, 101, 110]).length ≤ 8 := word_len _ (by decide) (by decide)
 simp only [g313, l0, l1, Option.bind_some, hex_impl, either_eq, bindv]
 rw [if_pos (by simp only [sixteen_len]; omega), if_pos (by simp only [List.length_append, sixteen_len]; omega), if_pos (by simp only [List.length_append, List.length_map, List.length_singleton]; omega)]
 rfl
theorem pairs_spec (v : DVault) (h1 : v.table.list_.length ≤ 1048576) (h2 : v.intents.length ≤ 1048576) (hr : g46 v = some true) : g249 v = some (pairsOf v, 0) := by
 have l0 := push_from [] v.intents ipair (step := g249_l0 v) (fun k hk q hq => by
  have j0 : ∀ w : List UInt8, g249_j0 v q (k : Int) w = some (.inl (q ++ [DPair.mk (wIntent ++ sixteen v.intents[k].lease) w], ((k + 1 : Nat) : Int))) := fun w => by
   simp only [g249_j0]
   rw [idx_lt hk]
   simp only [Option.bind_some, hex_spec, w1 (show k < 4611686018427387904 by omega), bindv]
   rw [if_pos (by simp only [List.length_cons, List.length_nil, sixteen_len]; omega), if_pos (by simp only [List.length_singleton]; simp at hq; omega)]
  simp only [g249_l0, j0]
  rw [if_pos (decide_eq_true (by omega)), idx_lt hk]
  simp only [Option.bind_some, ipair]
  cases v.intents[k].undo <;> rfl) (fun q hq => by
  simp only [g249_l0]
  rw [if_neg (by simp)])
 rw [List.nil_append] at l0
 have l1 := push_from (v.intents.map ipair) v.table.list_ lpair (step := g249_l1 v) (fun k hk q hq => by
  rw [List.length_map] at hq
  have j1 : ∀ (w : List UInt8) (y : DLease), g249_j1 q (k : Int) y w = some (.inl (q ++ [DPair.mk (wLease ++ sixteen y.id) w], ((k + 1 : Nat) : Int))) := fun w y => by
   simp only [g249_j1, hex_spec, Option.bind_some, w1 (show k < 4611686018427387904 by omega), bindv]
   rw [if_pos (by simp only [List.length_cons, List.length_nil, sixteen_len]; omega), if_pos (by simp only [List.length_singleton]; omega)]
  simp only [g249_l1, j1]
  rw [if_pos (decide_eq_true (by omega)), idx_lt hk]
  simp only [Option.bind_some, hex_spec]
  rw [if_pos (by simp only [sixteen_len]; omega), if_pos (by simp only [List.length_append, sixteen_len, List.length_cons, List.length_nil]; omega)]
  simp only [lpair]
  cases v.table.list_[k].queued with
  | true =>
   simp only [if_true]
   rw [if_pos (by simp only [sixteen_len]; omega), if_pos (by simp only [List.length_append, sixteen_len, List.length_cons, List.length_nil]; omega)]
  | false => rfl) (fun q hq => by
  simp only [g249_l1]
  rw [if_neg (by simp)])
 have j2 : ∀ (q : List DPair) (w : List UInt8), q.length ≤ 4194304 → w.length ≤ 8 → g249_j2 v q w = some (q ++ [DPair.mk wVault ((sixteen v.table.clock ++ sixteen v.table.next) ++ w)], 0) := fun q w hq hw => by
  simp only [g249_j2, hex_spec, Option.bind_some, bindv]
  rw [if_pos (by simp only [sixteen_len]; omega), if_pos (by simp only [List.length_append, sixteen_len]; omega), if_pos (by simp only [List.length_singleton]; omega)]
 simp only [g249, hr, Option.bind_some, Bool.not_true, Bool.false_eq_true, if_false, l0, l1]
 rw [j2 _ _ (by simp; omega) (by decide), j2 _ _ (by simp; omega) (by decide)]
 unfold pairsOf vpair
 cases v.sealed <;> rfl
theorem pairs_len (v : DVault) (h : VaultRight v) : (pairsOf v).length ≤ 81 := by
 have h1 := h.1.2.2.1
 have h2 := h.2.1
 simp [pairsOf]; omega
theorem vpairs_eq (v : DVault) (h1 : v.table.list_.length ≤ 1048576) (h2 : v.intents.length ≤ 1048576) (h3 : v.accounts.length ≤ 1048576) (hn : I64 v.table.next) : ∃ r : List DPair × Int, g249 v = some r ∧ g250 v = some r ∧ r.1.length ≤ 81 := by
 by_cases h : VaultRight v
 ·have e1 := spec_right v h1 h2 h3 hn
  rw [tf_pos h] at e1
  refine ⟨_, pairs_spec v h1 h2 e1, ?_, pairs_len v h⟩
  simp only [g250, impl_right v h1 h2 h3 hn, tf_pos h, Option.bind_some, pairs_impl v h1 h2]
  rfl
 ·refine ⟨([], 1), ?_, ?_, by simp⟩
  ·simp only [g249, spec_right v h1 h2 h3 hn, tf_neg h, Option.bind_some]; rfl
  ·simp only [g250, impl_right v h1 h2 h3 hn, tf_neg h, Option.bind_some]; rfl
theorem mtext_some (a : Int) (ha : 1 ≤ a ∧ a ≤ 4398046511104) : ∃ t, g316 a = some t := by
 obtain ⟨r, e1, e2⟩ := iterI (step := g316_l0) (fun s => ∃ n : Nat, s.1 = (n : Int) ∧ n + s.2.length ≤ 4398046511104) (fun s => s.1.toNat) (fun r => r.length ≤ 4398046511104) (a, []) ⟨a.toNat, by simp only; omega, by simp; omega⟩ (by
  rintro ⟨_, l⟩ ⟨n, rfl, hn⟩
  simp only at hn
  simp only [g316_l0]
  by_cases h0 : 0 < n
  ·have e : ((n : Int)).tdiv 10 = ((n / 10 : Nat) : Int) := by rw [Int.tdiv_eq_ediv_of_nonneg (by omega)]; simp
   rw [if_pos (decide_eq_true (by omega)), if_pos (by simp only [List.length_singleton]; omega), e, wr ⟨by omega, by omega⟩]
   exact .inl ⟨_, rfl, ⟨n / 10, rfl, by simp; omega⟩, by simp only; omega⟩
  ·rw [if_neg (by simp; omega)]
   exact .inr ⟨_, rfl, by omega⟩)
 simp only [g316]
 rw [if_neg (by simp; omega), e1]
 simp only [Option.bind_some]
 rw [if_pos (by simp only [List.length_singleton]; omega)]
 exact ⟨_, rfl⟩
noncomputable def mtext (a : Int) : List UInt8 := (g316 a).getD []
theorem mtext_eq {a : Int} (ha : 1 ≤ a ∧ a ≤ 4398046511104) : g316 a = some (mtext a) := by
 obtain ⟨t, h⟩ := mtext_some a ha
 rw [mtext, h]; rfl
noncomputable abbrev mkPair (c : Int) (_ : DPair) : DPair := DPair.mk (mtext c) (mtext (c + 1))
theorem pmarks (l : List DPair) (hl : l.length ≤ 1048576) : g253 l 1 = some (1 + 2 * (l.length : Int), marked mkPair 2 l 1) := by
 have h := mark_loop mkPair 2 l 1 (step := g253_l0) (fun k p hp hk => by
  simp only [g253_l0]
  rw [if_pos (decide_eq_true (by omega)), mtext_eq (by omega), idx_lt (l := p) (k := k) (by omega)]
  have e0 : IntKind.i64.wrap (1 + ((2 : Nat) : Int) * (k : Int) + 1) = 1 + ((2 : Nat) : Int) * (k : Int) + 1 := wr ⟨by omega, by omega⟩
  have e1 : IntKind.i64.wrap (1 + ((2 : Nat) : Int) * (k : Int) + 1 + 1) = 1 + ((2 : Nat) : Int) * ((k + 1 : Nat) : Int) := by rw [wr ⟨by omega, by omega⟩]; omega
  simp only [Option.bind_some, Int.toNat_natCast, e0, e1, mtext_eq (show 1 ≤ 1 + ((2 : Nat) : Int) * (k : Int) + 1 ∧ 1 + ((2 : Nat) : Int) * (k : Int) + 1 ≤ 4398046511104 by omega), w1 (show k < 4611686018427387904 by omega), bindv]
  rw [List.getElem?_eq_getElem (by omega)]
  simp only [Option.bind_some]
  rw [idx_lt (by simp; omega), List.getElem?_eq_getElem (by simp; omega)]
  simp only [Option.bind_some, List.set_set, List.getElem_set_self]) (fun p c hp => by
  simp only [g253_l0]
  rw [if_neg (by simp; omega)])
 simp only [g253, h, Option.bind_some]
 simp
theorem pheld (l : List DPair) (hl : l.length ≤ 1048576) : g254 (marked mkPair 2 l 1) 1 = some (1 + 2 * (l.length : Int)) := by
 have h := iter_upto (step := g254_l0 (marked mkPair 2 l 1)) (fun k => (1 + 2 * (k : Int), (k : Int))) l.length (.inl (1 + 2 * (l.length : Int))) (fun k hk => by
  simp only [g254_l0]
  rw [if_pos (decide_eq_true (by simp; omega)), idx_lt (by simp; omega)]
  have e0 : IntKind.i64.wrap (1 + 2 * (k : Int) + 1) = 1 + 2 * (k : Int) + 1 := wr ⟨by omega, by omega⟩
  have e1 : IntKind.i64.wrap (1 + 2 * (k : Int) + 1 + 1) = 1 + 2 * ((k + 1 : Nat) : Int) := by rw [wr ⟨by omega, by omega⟩]; omega
  simp only [Option.bind_some, mtext_eq (show 1 ≤ 1 + 2 * (k : Int) ∧ 1 + 2 * (k : Int) ≤ 4398046511104 by omega), e0, e1, mtext_eq (show 1 ≤ 1 + 2 * (k : Int) + 1 ∧ 1 + 2 * (k : Int) + 1 ≤ 4398046511104 by omega), marked_get, w1 (show k < 4611686018427387904 by omega)]
  simp) (by
  simp only [g254_l0]
  rw [if_neg (by simp)])
 have h' : iter (g254_l0 (marked mkPair 2 l 1)) (1, 0) = some (.inl (1 + 2 * (l.length : Int))) := h
 simp only [g254, h', Option.bind_some]
abbrev mkIntent (c : Int) (_ : DIntent) : DIntent := DIntent.mk c ((c + 1).tmod 3 == 0)
theorem imarks (l : List DIntent) (a : Int) (ha : 0 ≤ a ∧ a ≤ 1099511627776) (hl : l.length ≤ 1048576) : g315 l a = some (a + 2 * (l.length : Int), marked mkIntent 2 l a) := by
 have h := mark_loop mkIntent 2 l a (step := g315_l0) (fun k p hp hk => by
  simp only [g315_l0]
  rw [if_pos (decide_eq_true (by omega)), idx_lt (l := p) (k := k) (by omega)]
  have e0 : IntKind.i64.wrap (a + ((2 : Nat) : Int) * (k : Int) + 1) = a + ((2 : Nat) : Int) * (k : Int) + 1 := wr ⟨by omega, by omega⟩
  have e1 : IntKind.i64.wrap (a + ((2 : Nat) : Int) * (k : Int) + 1 + 1) = a + ((2 : Nat) : Int) * ((k + 1 : Nat) : Int) := by rw [wr ⟨by omega, by omega⟩]; omega
  simp only [Option.bind_some, Int.toNat_natCast, e0, e1, w1 (show k < 4611686018427387904 by omega), bindv]
  rw [List.getElem?_eq_getElem (by omega)]
  simp only [Option.bind_some]
  rw [idx_lt (by simp; omega), List.getElem?_eq_getElem (by simp; omega)]
  simp only [Option.bind_some, List.set_set, List.getElem_set_self]) (fun p c hp => by
  simp only [g315_l0]
  rw [if_neg (by simp; omega)])
 simp only [g315, h, Option.bind_some]
 simp
theorem vmarks (v : DVault) (h1 : v.table.list_.length ≤ 1048576) (h2 : v.intents.length ≤ 1048576) (h3 : v.accounts.length ≤ 1048576) :
  ∃ r, g252 v 1 = some r ∧ 0 ≤ r.1 ∧ r.2.1.length = v.table.list_.length ∧ r.2.2.1.length = v.intents.length ∧ r.2.2.2.length = v.accounts.length := by
 simp only [g252, g26_eq v.table h1, Option.bind_some, marks_len, if_true, imarks v.intents (1 + 4 * (v.table.list_.length : Int)) (by omega) h2, marked_len, ints_mark v.accounts (1 + 4 * (v.table.list_.length : Int) + 2 * (v.intents.length : Int)) (by omega) h3]
 exact ⟨_, rfl, by simp only; omega, by simp [marks_len], by simp, by simp⟩
theorem eq_pairs (l : List DPair) (hl : l.length ≤ 1048576) : g251 l l = some true := by
 have h := same_loop l (step := g251_l0 l l) (fun k hk => by
  simp only [g251_l0]
  rw [if_pos (decide_eq_true (by omega)), idx_lt hk]
  simp only [Option.bind_some, g314]
  rw [if_neg (by simp), if_neg (by simp)]
  simp only [Option.bind_some]
  rw [if_neg (by simp), w1 (show k < 4611686018427387904 by omega)]) (by
  simp only [g251_l0]
  rw [if_neg (by simp)])
 unfold g251
 rw [if_neg (by simp), h]
 rfl
theorem g209_law (v : DVault) (o : okDVault v) : g209 v = some true := by
 obtain ⟨r, e1, e2⟩ := sz_vault v o
 unfold g209
 rw [e1, Option.bind_some]
 by_cases hr : r < 0
 ·rw [if_pos (decide_eq_true hr)]
 ·rw [if_neg (by simpa using hr)]
  obtain ⟨h1, h2, h3⟩ := e2 (by omega)
  have hn : I64 v.table.next := o.1.2.1
  obtain ⟨q, q1, q2, q3⟩ := vpairs_eq v h1 h2 h3 hn
  obtain ⟨m, m1, m2, m3, m4, m5⟩ := vmarks v h1 h2 h3
  have n1 : ¬ m.1 < 0 := by omega
  have n2 : ¬ 1 + 2 * (q.1.length : Int) < 0 := by omega
  have n3 : 0 ≤ 1 + 2 * (q.1.length : Int) := by omega
  simp [to_vault v h1 h2 h3, q1, q2, eq_pairs q.1 (by omega), eq_vault v h1 h2 h3, m1, m2, m3, m4, m5, n1, n2, n3, bindv, pmarks q.1 (by omega), pheld q.1 (by omega)]
end Go.Ev
end
