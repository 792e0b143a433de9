/- The plain part of the proof: what the functions compute answers as the law says. -/
import Derived.Test.YtdkeomfbpdodiaaQvL
import Derived.Test.YtdkeomfbpdodiaaQvM
import Derived.Sort.LotA
import Derived.Sort.LotB
import Derived.Sort.LotC
import Derived.Sort.LotD3
import Derived.Sort.LotD5
import Derived.Test.YtdkeomfbpdodiaaQgD
import Derived.Sort.LotD4
set_option linter.all false
section
namespace Go.Ev
noncomputable def tf (P : Prop) : Bool := @decide P (Classical.propDecidable P)
@[simp] theorem tf_iff {P : Prop} : tf P = true ↔ P := by unfold tf; exact @decide_eq_true_iff P (Classical.propDecidable P)
@[simp] theorem tf_false {P : Prop} : tf P = false ↔ ¬ P := by rw [← Bool.not_eq_true, tf_iff]
theorem tf_congr {P Q : Prop} (h : P ↔ Q) : tf P = tf Q := by rw [propext h]
theorem tf_pos {P : Prop} (h : P) : tf P = true := tf_iff.2 h
theorem tf_neg {P : Prop} (h : ¬ P) : tf P = false := tf_false.2 h
theorem dec_tf {P : Prop} [Decidable P] : decide P = tf P := by
 by_cases h : P
 ·rw [tf_pos h, decide_eq_true h]
 ·rw [tf_neg h, decide_eq_false h]
theorem tf_not {P : Prop} : (!tf P) = tf (¬ P) := by
 by_cases h : P
 ·rw [tf_pos h, tf_neg (not_not_intro h)]; rfl
 ·rw [tf_neg h, tf_pos h]; rfl
theorem tf_and {P Q : Prop} : (tf P && tf Q) = tf (P ∧ Q) := by
 by_cases h : P
 ·rw [tf_pos h, Bool.true_and]; exact tf_congr (by simp [h])
 ·rw [tf_neg h, Bool.false_and, tf_neg (fun hh => h hh.1)]
theorem tf_or {P Q : Prop} : (tf P || tf Q) = tf (P ∨ Q) := by
 by_cases h : P
 ·rw [tf_pos h, Bool.true_or, tf_pos (.inl h)]
 ·rw [tf_neg h, Bool.false_or]; exact tf_congr (by simp [h])
theorem bif_and {a b : Bool} : (bif a then b else false) = (a && b) := by cases a <;> rfl
theorem bif_or {a b : Bool} : (bif a then true else b) = (a || b) := by cases a <;> rfl
theorem if_tf {α : Type} {P : Prop} {a b : α} (h : P) : (if tf P = true then a else b) = a := by rw [tf_pos h]; rfl
theorem if_tfn {α : Type} {P : Prop} {a b : α} (h : ¬ P) : (if tf P = true then a else b) = b := by rw [tf_neg h]; rfl
abbrev I64 (n : Int) : Prop := -9223372036854775808 ≤ n ∧ n ≤ 9223372036854775807
theorem wr {n : Int} (h : I64 n) : IntKind.i64.wrap n = n := by
 obtain ⟨h1, h2⟩ := h
 have e : IntKind.i64.wrap n = if n % 18446744073709551616 ≥ 9223372036854775808 then n % 18446744073709551616 - 18446744073709551616 else n % 18446744073709551616 := by
  simp [IntKind.wrap, IntKind.bits, IntKind.signed]
 rw [e]
 split <;> omega
theorem idx_nat {α : Type} {l : List α} {k : Nat} : idx l (k : Int) = l[k]? := by
 unfold idx
 rw [if_pos (by omega)]
 simp
theorem idx_lt {α : Type} {l : List α} {k : Nat} (h : k < l.length) : idx l (k : Int) = some l[k] := by
 rw [idx_nat, List.getElem?_eq_getElem h]
section
variable {σ ρ : Type} {step : σ → Option (σ ⊕ ρ)}
theorem iter_run (st : Nat → σ) : ∀ n, (∀ k, k < n → step (st k) = some (.inl (st (k + 1)))) → iter step (st 0) = iter step (st n)
 | 0, _ => rfl
 | n + 1, h => by
  rw [iter_run st n fun k hk => h k (by omega), iter_next (h n (by omega))]
theorem iter_upto (st : Nat → σ) (n : Nat) (r : ρ) (h : ∀ k, k < n → step (st k) = some (.inl (st (k + 1)))) (he : step (st n) = some (.inr r)) : iter step (st 0) = some r := by
 rw [iter_run st n h, iter_end he]
theorem iter_first (st : Nat → σ) (n : Nat) (ok : Nat → Prop) (bad : Nat → ρ) (fin : ρ) (h1 : ∀ k, k < n → (∀ j, j < k → ok j) → ok k → step (st k) = some (.inl (st (k + 1))))
  (h2 : ∀ k, k < n → (∀ j, j < k → ok j) → ¬ ok k → step (st k) = some (.inr (bad k))) (he : (∀ j, j < n → ok j) → step (st n) = some (.inr fin)) :
  ((∀ k, k < n → ok k) → iter step (st 0) = some fin) ∧ (∀ k, k < n → (∀ j, j < k → ok j) → ¬ ok k → iter step (st 0) = some (bad k)) := by
 constructor
 ·intro h
  exact iter_upto st n fin (fun k hk => h1 k hk (fun j hj => h j (by omega)) (h k hk)) (he h)
 ·intro k hk hj hn
  rw [iter_run st k fun i hi => h1 i (by omega) (fun j hj' => hj j (by omega)) (hj i hi)]
  exact iter_end (h2 k hk hj hn)
theorem least_of {n : Nat} {ok : Nat → Prop} (h : ¬ ∀ k, k < n → ok k) : ∃ k, k < n ∧ (∀ j, j < k → ok j) ∧ ¬ ok k := by
 obtain ⟨k, hk⟩ := Classical.not_forall.1 h
 rw [Classical.not_imp] at hk
 obtain ⟨h1, h2⟩ := hk
 induction k using Nat.strongRecOn with
 | _ k ih =>
  by_cases hex : ∃ j, j < k ∧ ¬ ok j
  ·obtain ⟨j, hj, hn⟩ := hex
   exact ih j hj (by omega) hn
  ·exact ⟨k, h1, fun j hj => Classical.byContradiction fun hn => hex ⟨j, hj, hn⟩, h2⟩
end
theorem iter_all {α : Type} {step : Int → Option (Int ⊕ (Unit ⊕ Bool))} (l : List α) (ok : Nat → α → Prop)
  (h1 : ∀ k (hk : k < l.length), (∀ j x, j < k → l[j]? = some x → ok j x) → ∃ v : Bool, (v = true ↔ ¬ ok k l[k]) ∧ step (k : Int) = (if v = true then some (.inr (.inr false)) else some (.inl ((k + 1 : Nat) : Int))))
  (h3 : step (l.length : Int) = some (.inr (.inl ()))) : iter step 0 = some (if tf (∀ k x, l[k]? = some x → ok k x) = true then .inl () else .inr false) := by
 have pre : ∀ k, (∀ j, j < k → ∀ h : j < l.length, ok j l[j]) → ∀ j x, j < k → l[j]? = some x → ok j x := fun k hj j x hjk hx => by
  obtain ⟨hlt, rfl⟩ := List.getElem?_eq_some_iff.1 hx
  exact hj j hjk hlt
 have hh := iter_first (step := step) (fun k => (k : Int)) l.length (fun k => ∀ h : k < l.length, ok k l[k]) (fun _ => .inr false) (.inl ()) (fun k hk hj ho => by
  obtain ⟨v, hv, hs⟩ := h1 k hk (pre k hj)
  rw [hs, if_neg (fun h => hv.1 h (ho hk))]) (fun k hk hj ho => by
  obtain ⟨v, hv, hs⟩ := h1 k hk (pre k hj)
  rw [hs, if_pos (hv.2 fun h => ho fun _ => h)]) (fun _ => h3)
 by_cases h : ∀ k x, l[k]? = some x → ok k x
 ·rw [if_tf h]; exact hh.1 fun k hk _ => h k _ (List.getElem?_eq_getElem hk)
 ·rw [if_tfn h]
  obtain ⟨k, hk, hj, ho⟩ := least_of (n := l.length) (ok := fun k => ∀ h : k < l.length, ok k l[k]) fun hall => h fun k x hx => by
   obtain ⟨hlt, rfl⟩ := List.getElem?_eq_some_iff.1 hx
   exact hall k hlt hlt
  exact hh.2 k hk hj ho
theorem tf_ext {b : Bool} {P : Prop} (h : b = true ↔ P) : some b = some (tf P) := by
 congr 1
 rw [Bool.eq_iff_iff, tf_iff, h]
theorem gsome {α : Type} [Inhabited α] {g : Bool} {o : Option α} (h : g = true → ∃ y, o = some y) : ∃ y, (if g = true then o else some default) = some y ∧ (g = true → o = some y) := by
 cases g with
 | true => obtain ⟨y, hy⟩ := h rfl; exact ⟨y, by simpa using hy, fun _ => hy⟩
 | false => exact ⟨default, rfl, fun h => by cases h⟩
end Go.Ev
end
section
namespace Go.Ev
theorem iterI {σ ρ : Type} {step : σ → Option (σ ⊕ ρ)} (I : σ → Prop) (μ : σ → Nat) (R : ρ → Prop) (s0 : σ) (h0 : I s0)
  (h : ∀ s, I s → (∃ s', step s = some (.inl s') ∧ I s' ∧ μ s' < μ s) ∨ (∃ r, step s = some (.inr r) ∧ R r)) : ∃ r, iter step s0 = some r ∧ R r := by
 have key : ∀ (n : Nat) (s0 : σ), μ s0 < n → I s0 → ∃ r, iter step s0 = some r ∧ R r := by
  intro n
  induction n with
  | zero => intro s0 hn; omega
  | succ n ih =>
   intro s0 hn hI
   rcases h s0 hI with ⟨s', h1, h2, h3⟩ | ⟨r, h1, h2⟩
   ·obtain ⟨r, h4, h5⟩ := ih s' (by omega) h2
    exact ⟨r, by rw [iter_next h1, h4], h5⟩
   ·exact ⟨r, iter_end h1, h2⟩
 exact key (μ s0 + 1) s0 (by omega) h0
theorem w1 {k : Nat} (h : k < 4611686018427387904) : IntKind.i64.wrap ((k : Int) + 1) = ((k + 1 : Nat) : Int) := wr ⟨by omega, by omega⟩
theorem same_loop {α : Type} (l : List α) {step : Int → Option (Int ⊕ (Unit ⊕ Bool))}
  (hs : ∀ k, k < l.length → step (k : Int) = some (.inl ((k + 1 : Nat) : Int))) (he : step (l.length : Int) = some (.inr (.inl ()))) : iter step 0 = some (.inl ()) :=
 iter_upto (step := step) (fun k => (k : Int)) l.length (.inl ()) hs he
def marked {α : Type} (mk : Int → α → α) (w : Nat) (l : List α) (a : Int) : List α := l.mapIdx fun i x => mk (a + (w : Int) * (i : Int)) x
@[simp] theorem marked_len {α : Type} (mk : Int → α → α) (w : Nat) (l : List α) (a : Int) : (marked mk w l a).length = l.length := by simp [marked]
end Go.Ev
end
section
set_option maxHeartbeats 1000000
namespace Go.Ev
open Go.Sort
theorem iterE {σ τ ρ : Type} {step : σ → Option (σ ⊕ ρ)} (emb : τ → σ) (ok : τ → Prop) (m : τ → Nat) (F : τ → ρ)
  (h : ∀ t, ok t → (∃ t', step (emb t) = some (.inl (emb t')) ∧ ok t' ∧ F t' = F t ∧ m t' < m t) ∨ step (emb t) = some (.inr (F t))) (t : τ) (ht : ok t) : iter step (emb t) = some (F t) := by
 have key : ∀ (n : Nat) (t : τ), m t < n → ok t → iter step (emb t) = some (F t) := by
  intro n
  induction n with
  | zero => intro t hn; omega
  | succ n ih =>
   intro t hn ht
   rcases h t ht with ⟨t', h1, h2, h3, h4⟩ | h1
   ·rw [iter_next h1, ih t' (by omega) h2, h3]
   ·exact iter_end h1
 exact key (m t + 1) t (by omega) ht
theorem sp1 {i : Nat} (h : i ≤ 4611686018427387904) : IntKind.i64.wrap ((i : Int) + 1) = ((i + 1 : Nat) : Int) := by rw [wr ⟨by omega, by omega⟩]; omega
theorem sm1 {i : Nat} (h : i ≤ 4611686018427387904) (h0 : 1 ≤ i) : IntKind.i64.wrap ((i : Int) - 1) = ((i - 1 : Nat) : Int) := by rw [wr ⟨by omega, by omega⟩]; omega
theorem sad {i j : Nat} (h : i ≤ 2305843009213693952) (h2 : j ≤ 2305843009213693952) : IntKind.i64.wrap ((i : Int) + (j : Int)) = ((i + j : Nat) : Int) := by rw [wr ⟨by omega, by omega⟩]; omega
theorem ssb {i j : Nat} (h : i ≤ 2305843009213693952) (h2 : j ≤ i) : IntKind.i64.wrap ((i : Int) - (j : Int)) = ((i - j : Nat) : Int) := by rw [wr ⟨by omega, by omega⟩]; omega
theorem sdb {i : Nat} (h : i ≤ 2305843009213693952) : IntKind.i64.wrap (2 * (i : Int)) = ((2 * i : Nat) : Int) := by rw [wr ⟨by omega, by omega⟩]; omega
theorem sml {i : Nat} (k : Nat) (hk : k ≤ 3) (h : i ≤ 1152921504606846976) : IntKind.i64.wrap ((i : Int) * (k : Int)) = ((i * k : Nat) : Int) := by
 have : i * k ≤ i * 3 := Nat.mul_le_mul_left _ hk
 have e : (i : Int) * (k : Int) = ((i * k : Nat) : Int) := by simp
 rw [e, wr ⟨by omega, by omega⟩]
theorem sdv {i : Nat} (k : Nat) (h : i ≤ 2305843009213693952) : IntKind.i64.wrap ((i : Int).tdiv (k : Int)) = ((i / k : Nat) : Int) := by
 have : i / k ≤ i := Nat.div_le_self _ _
 have e : (i : Int).tdiv (k : Int) = ((i / k : Nat) : Int) := by simp
 rw [e]
 generalize i / k = q at *
 rw [wr ⟨by omega, by omega⟩]
variable {α : Type} [Inhabited α]
theorem ixA {d : Array α} {i : Nat} (h : i < d.size) : idx d.toList (i : Int) = some d[i]! := by
 rw [idx_lt (by simpa using h), getElem!_pos d i h]; simp
theorem gtA {d : Array α} {i : Nat} (h : i < d.size) : d.toList[i]? = some d[i]! := by
 rw [getElem!_pos d i h]; simp [h]
theorem stA {d : Array α} {i : Nat} {v : α} : d.toList.set i v = (d.setIfInBounds i v).toList := by simp
theorem swA {d : Array α} {i j : Nat} : (d.setIfInBounds i d[j]!).setIfInBounds j d[i]! = swp d i j := by rw [swp]
variable (c : DLease → DLease → Int)
abbrev fC : DLease → DLease → Option Int := fun x y => some (c x y)
abbrev lC : DLease → DLease → Bool := fun x y => decide (c x y < 0)
theorem g148_l1_eq (a : Nat) (d : Array DLease) (j : Nat) (hj : j < d.size) (hs : d.size ≤ 1048576) :
  iter (g148_l1 (a : Int) (fC c)) (d.toList, (j : Int)) = some (insInner (lC c) a j d).toList := by
 refine iterE (fun t : Array DLease × Nat => (t.1.toList, (t.2 : Int))) (fun t => t.2 < t.1.size ∧ t.1.size ≤ 1048576) (fun t => t.2) (fun t => (insInner (lC c) a t.2 t.1).toList) ?_ (d, j) ⟨hj, hs⟩
 rintro ⟨d, j⟩ ⟨hj, hs⟩
 simp only at hj hs
 simp only [g148_l1]
 by_cases h1 : a < j
 ·obtain ⟨j, rfl⟩ : ∃ k, j = k + 1 := ⟨j - 1, by omega⟩
  have e1 : decide (((j + 1 : Nat) : Int) > (a : Int)) = true := decide_eq_true (by omega)
  have e2 : IntKind.i64.wrap (((j + 1 : Nat) : Int) - 1) = (j : Int) := sm1 (by omega) (by omega)
  simp only [e1, e2, beq_self_eq_true, if_true, ixA hj, ixA (show j < d.size by omega), Int.toNat_natCast, gtA hj, gtA (show j < d.size by omega), Option.bind_some, cond_true, stA]
  by_cases h2 : c d[j + 1]! d[j]! < 0
  ·rw [if_pos (decide_eq_true h2)]
   simp only [ixA (show j < (d.setIfInBounds (j + 1) d[j]!).size by simpa using (by omega : j < d.size)), gtA (show j < (d.setIfInBounds (j + 1) d[j]!).size by simpa using (by omega : j < d.size)), Option.bind_some, swA]
   refine .inl ⟨(swp d (j + 1) j, j), rfl, ⟨by rw [size_swp]; omega, by rw [size_swp]; exact hs⟩, ?_, by simp⟩
   simp only [insInner]
   rw [if_pos (by simp [h1, h2])]
  ·rw [if_neg (by simpa using h2)]
   refine .inr ?_
   simp only [insInner]
   rw [if_neg (by simp; intro _; omega)]
 ·have e1 : decide ((j : Int) > (a : Int)) = false := decide_eq_false (by omega)
  simp only [e1, cond_false, Bool.false_eq_true, if_false, Option.bind_some, show (false == true) = false from rfl]
  refine .inr ?_
  cases j with
  | zero => simp [insInner]
  | succ j => simp only [insInner]; rw [if_neg (by simp; intro h; omega)]
theorem insInner_size (a : Nat) : ∀ (j : Nat) (d : Array DLease), (insInner (lC c) a j d).size = d.size
 | 0, d => by simp [insInner]
 | j + 1, d => by
  simp only [insInner]
  split
  ·rw [insInner_size a j, size_swp]
  ·rfl
theorem g148_eq (d : Array DLease) (a b : Nat) (hb : b ≤ d.size) (hs : d.size ≤ 1048576) (hab : a ≤ b) :
  g148 d.toList (a : Int) (b : Int) (fC c) = some (insertionSort (lC c) d a b).toList := by
 simp only [g148, sp1 (show a ≤ 4611686018427387904 by omega)]
 have := iterE (step := g148_l0 (a : Int) (b : Int) (fC c)) (fun t : Array DLease × Nat => (t.1.toList, (t.2 : Int))) (fun t => t.1.size = d.size) (fun t => b - t.2) (fun t => (insOuter (lC c) a b t.2 t.1).toList) (by
  rintro ⟨e, i⟩ he
  simp only at he
  simp only [g148_l0]
  by_cases hi : i < b
  ·rw [if_pos (decide_eq_true (by omega)), g148_l1_eq c a e i (by omega) (by omega)]
   simp only [Option.bind_some, sp1 (show i ≤ 4611686018427387904 by omega)]
   refine .inl ⟨(insInner (lC c) a i e, i + 1), rfl, by rw [insInner_size]; exact he, ?_, by simp only; omega⟩
   simp only
   conv => rhs; unfold insOuter
   rw [if_pos hi]
  ·rw [if_neg (by simpa using hi)]
   refine .inr ?_
   conv => rhs; unfold insOuter
   simp only [hi, if_false]) (d, a + 1) rfl
 simp only at this
 rw [this]
 rfl
end Go.Ev
end
section
set_option maxHeartbeats 1000000
namespace Go.Ev
open Go.Sort
theorem iterQ {σ τ ρ β : Type} {step : σ → Option (σ ⊕ ρ)} (R : β → ρ → Prop) (emb : τ → σ) (ok : τ → Prop) (m : τ → Nat) (F : τ → β)
  (h : ∀ t, ok t → (∃ t', step (emb t) = some (.inl (emb t')) ∧ ok t' ∧ F t' = F t ∧ m t' < m t) ∨ ∃ r, step (emb t) = some (.inr r) ∧ R (F t) r) (t : τ) (ht : ok t) : ∃ r, iter step (emb t) = some r ∧ R (F t) r := by
 have key : ∀ (n : Nat) (t : τ), m t < n → ok t → ∃ r, iter step (emb t) = some r ∧ R (F t) r := by
  intro n
  induction n with
  | zero => intro t hn; omega
  | succ n ih =>
   intro t hn ht
   rcases h t ht with ⟨t', h1, h2, h3, h4⟩ | ⟨r, h1, h2⟩
   ·obtain ⟨r, r1, r2⟩ := ih t' (by omega) h2
    exact ⟨r, by rw [iter_next h1, r1], by rw [h3] at r2; exact r2⟩
   ·exact ⟨r, iter_end h1, h2⟩
 exact key (m t + 1) t (by omega) ht
variable (c : DLease → DLease → Int)
theorem siftDown_size (hi f : Nat) : ∀ (n r : Nat) (d : Array DLease), hi - r ≤ n → (siftDown (lC c) hi f r d).size = d.size
 | 0, r, d, h => by
  unfold siftDown
  rw [dif_pos (by omega)]
 | n + 1, r, d, h => by
  unfold siftDown
  split
  ·rfl
  ·split
   ·split
    ·rfl
    ·split
     ·rw [siftDown_size hi f n _ _ (by omega), size_swp]
     ·rfl
   ·split
    ·rfl
    ·rw [siftDown_size hi f n _ _ (by omega), size_swp]
theorem g159_j0_eq (d : Array DLease) (r k f : Nat) (hr : f + r < d.size) (hk : f + k < d.size) (hs : d.size ≤ 1048576) :
  g159_j0 (f : Int) (fC c) d.toList (r : Int) (k : Int) = if c d[f + r]! d[f + k]! < 0 then some (.inl ((swp d (f + r) (f + k)).toList, (k : Int))) else some (.inr (.inr d.toList)) := by
 simp only [g159_j0, sad (show f ≤ 2305843009213693952 by omega) (show r ≤ 2305843009213693952 by omega), sad (show f ≤ 2305843009213693952 by omega) (show k ≤ 2305843009213693952 by omega), ixA hr, ixA hk, Int.toNat_natCast, gtA hr, gtA hk, Option.bind_some, stA]
 have hk2 : f + k < (d.setIfInBounds (f + r) d[f + k]!).size := by simpa using hk
 by_cases h : c d[f + r]! d[f + k]! < 0
 ·rw [if_neg (by simpa using h), if_pos h]
  simp only [ixA hk2, gtA hk2, Option.bind_some, swA]
 ·rw [if_pos (by simpa using h), if_neg h]
theorem g159_eq (d : Array DLease) (r hi f : Nat) (hr : r ≤ hi) (hb : f + hi ≤ d.size) (hs : d.size ≤ 1048576) :
  g159 d.toList (r : Int) (hi : Int) (f : Int) (fC c) = some (siftDown (lC c) hi f r d).toList := by
 obtain ⟨q, q1, q2⟩ := iterQ (step := g159_l0 (hi : Int) (f : Int) (fC c)) (fun (X : Array DLease) q => q = .inl X.toList ∨ q = .inr X.toList) (fun t : Array DLease × Nat => (t.1.toList, (t.2 : Int))) (fun t => t.1.size = d.size ∧ t.2 ≤ hi) (fun t => hi - t.2) (fun t => siftDown (lC c) hi f t.2 t.1) (by
  rintro ⟨e, r⟩ ⟨he, hr⟩
  simp only at he hr
  have w1 : IntKind.i64.wrap ((IntKind.i64.wrap (2 * (r : Int))) + 1) = ((2 * r + 1 : Nat) : Int) := by rw [sdb (by omega), sp1 (by omega)]
  simp only [g159_l0, w1]
  by_cases h1 : 2 * r + 1 ≥ hi
  ·rw [if_pos (decide_eq_true (by omega))]
   refine .inr ⟨_, rfl, .inl ?_⟩
   unfold siftDown
   rw [dif_pos h1]
  ·rw [if_neg (by simp; omega)]
   have w2 : IntKind.i64.wrap (((2 * r + 1 : Nat) : Int) + 1) = ((2 * r + 1 + 1 : Nat) : Int) := sp1 (by omega)
   have w3 : IntKind.i64.wrap ((f : Int) + ((2 * r + 1 : Nat) : Int)) = ((f + (2 * r + 1) : Nat) : Int) := sad (by omega) (by omega)
   have w4 : IntKind.i64.wrap (((f + (2 * r + 1) : Nat) : Int) + 1) = ((f + (2 * r + 1) + 1 : Nat) : Int) := sp1 (by omega)
   simp only [w2, w3, w4]
   have i1 : f + (2 * r + 1) < e.size := by omega
   have hF : ∀ k, k = 2 * r + 1 ∨ k = 2 * r + 2 → k < hi →
     (siftDown (lC c) hi f r e = if c e[f + r]! e[f + k]! < 0 then siftDown (lC c) hi f k (swp e (f + r) (f + k)) else e) →
     (∃ t' : Array DLease × Nat, g159_j0 (f : Int) (fC c) e.toList (r : Int) (k : Int) = some (.inl (t'.1.toList, (t'.2 : Int))) ∧ (t'.1.size = d.size ∧ t'.2 ≤ hi) ∧ siftDown (lC c) hi f t'.2 t'.1 = siftDown (lC c) hi f r e ∧ hi - t'.2 < hi - r) ∨
     ∃ q, g159_j0 (f : Int) (fC c) e.toList (r : Int) (k : Int) = some (.inr q) ∧ (q = .inl (siftDown (lC c) hi f r e).toList ∨ q = .inr (siftDown (lC c) hi f r e).toList) := by
    intro k hk hkh hsd
    rw [g159_j0_eq c e r k f (by omega) (by omega) (by omega)]
    by_cases h : c e[f + r]! e[f + k]! < 0
    ·rw [if_pos h] at hsd ⊢
     exact .inl ⟨(swp e (f + r) (f + k), k), rfl, ⟨by rw [size_swp]; exact he, by simp only; omega⟩, hsd.symm, by simp only; omega⟩
    ·rw [if_neg h] at hsd ⊢
     exact .inr ⟨_, rfl, .inr (by rw [hsd])⟩
   by_cases h2 : 2 * r + 1 + 1 < hi
   ·have i2 : f + (2 * r + 1) + 1 < e.size := by omega
    have e1 : decide (((2 * r + 1 + 1 : Nat) : Int) < (hi : Int)) = true := decide_eq_true (by omega)
    simp only [e1, beq_self_eq_true, if_true, ixA i1, ixA i2, Int.toNat_natCast, gtA i1, gtA i2, Option.bind_some, cond_true, bindv]
    by_cases h3 : c e[f + (2 * r + 1)]! e[f + (2 * r + 1) + 1]! < 0
    ·rw [if_pos (decide_eq_true h3)]
     refine hF (2 * r + 1 + 1) (.inr rfl) h2 ?_
     conv => lhs; unfold siftDown
     rw [dif_neg h1, if_pos (by simp [h2, h3])]
     by_cases h4 : c e[f + r]! e[f + (2 * r + 1 + 1)]! < 0
     ·rw [if_neg (by simpa using h4), dif_pos h2, if_pos h4]
     ·rw [if_pos (by simpa using h4), if_neg h4]
    ·rw [if_neg (by simpa using h3)]
     refine hF (2 * r + 1) (.inl rfl) (by omega) ?_
     conv => lhs; unfold siftDown
     rw [dif_neg h1, if_neg (by simp; intro _; omega)]
     by_cases h4 : c e[f + r]! e[f + (2 * r + 1)]! < 0
     ·rw [if_neg (by simpa using h4), if_pos h4]
     ·rw [if_pos (by simpa using h4), if_neg h4]
   ·have e1 : decide (((2 * r + 1 + 1 : Nat) : Int) < (hi : Int)) = false := decide_eq_false (by omega)
    simp only [e1, show (false == true) = false from rfl, Bool.false_eq_true, if_false, Option.bind_some, cond_false, bindv]
    refine hF (2 * r + 1) (.inl rfl) (by omega) ?_
    conv => lhs; unfold siftDown
    rw [dif_neg h1, if_neg (by simp; intro h; omega)]
    by_cases h4 : c e[f + r]! e[f + (2 * r + 1)]! < 0
    ·rw [if_neg (by simpa using h4), if_pos h4]
    ·rw [if_pos (by simpa using h4), if_neg h4]) (d, r) ⟨rfl, hr⟩
 simp only at q1 q2
 simp only [g159, q1, Option.bind_some]
 rcases q2 with rfl | rfl <;> rfl
theorem heapBuild_size (hi f : Nat) : ∀ (k : Nat) (d : Array DLease), (heapBuild (lC c) hi f k d).size = d.size
 | 0, d => rfl
 | k + 1, d => by rw [heapBuild, heapBuild_size hi f k, siftDown_size c hi f _ _ _ (Nat.le_refl _)]
theorem heapPop_size (f : Nat) : ∀ (k : Nat) (d : Array DLease), (heapPop (lC c) f k d).size = d.size
 | 0, d => rfl
 | k + 1, d => by rw [heapPop, heapPop_size f k, siftDown_size c k f _ _ _ (Nat.le_refl _), size_swp]
theorem g149_eq (d : Array DLease) (a b : Nat) (hb : b ≤ d.size) (hs : d.size ≤ 1048576) (hab : a < b) :
  g149 d.toList (a : Int) (b : Int) (fC c) = some (heapSort (lC c) d a b).toList := by
 have w1 : IntKind.i64.wrap ((b : Int) - (a : Int)) = ((b - a : Nat) : Int) := ssb (by omega) (by omega)
 have w2 : IntKind.i64.wrap (((b - a : Nat) : Int) - 1) = ((b - a - 1 : Nat) : Int) := sm1 (by omega) (by omega)
 have w3 : IntKind.i64.wrap (((b - a - 1 : Nat) : Int).tdiv 2) = (((b - a - 1) / 2 : Nat) : Int) := sdv 2 (by omega)
 have L0 := iterE (step := g149_l0 (a : Int) (b : Int) (fC c)) (fun t : Array DLease × Nat => (t.1.toList, (t.2 : Int) - 1)) (fun t => t.1.size = d.size ∧ t.2 ≤ b - a) (fun t => t.2) (fun t => (heapBuild (lC c) (b - a) a t.2 t.1).toList) (by
  rintro ⟨e, k⟩ ⟨he, hk⟩
  simp only at he hk
  simp only [g149_l0, w1]
  cases k with
  | zero =>
   rw [if_neg (by simp)]
   exact .inr rfl
  | succ k =>
   rw [if_pos (decide_eq_true (by omega))]
   rw [show ((k + 1 : Nat) : Int) - 1 = (k : Int) by omega, g159_eq c e k (b - a) a (by omega) (by omega) (by omega)]
   have sz := siftDown_size c (b - a) a _ k e (Nat.le_refl _)
   simp only [Option.bind_some]
   rw [if_pos (by simpa using sz)]
   refine .inl ⟨(siftDown (lC c) (b - a) a k e, k), ?_, ⟨by rw [← he]; exact sz, by simp only; omega⟩, rfl, by simp⟩
   simp only
   rw [wr ⟨by omega, by omega⟩]) (d, (b - a - 1) / 2 + 1) ⟨rfl, by simp only; omega⟩
 have L1 := iterE (step := g149_l1 (a : Int) (fC c)) (fun t : Array DLease × Nat => (t.1.toList, (t.2 : Int) - 1)) (fun t => t.1.size = d.size ∧ t.2 ≤ b - a) (fun t => t.2) (fun t => (heapPop (lC c) a t.2 t.1).toList) (by
  rintro ⟨e, k⟩ ⟨he, hk⟩
  simp only at he hk
  simp only [g149_l1]
  cases k with
  | zero =>
   rw [if_neg (by simp)]
   exact .inr rfl
  | succ k =>
   rw [if_pos (decide_eq_true (by omega))]
   rw [show ((k + 1 : Nat) : Int) - 1 = (k : Int) by omega]
   have i1 : a + k < e.size := by omega
   have i2 : a < e.size := by omega
   have i3 : a + k < (e.setIfInBounds a e[a + k]!).size := by simpa using i1
   simp only [sad (show a ≤ 2305843009213693952 by omega) (show k ≤ 2305843009213693952 by omega), ixA i1, ixA i2, Int.toNat_natCast, gtA i1, gtA i2, stA, Option.bind_some, ixA i3, gtA i3, swA]
   have := g159_eq c (swp e a (a + k)) 0 k a (by omega) (by rw [size_swp]; omega) (by rw [size_swp]; omega)
   rw [show ((0 : Nat) : Int) = 0 from rfl] at this
   rw [this]
   have sz := siftDown_size c k a _ 0 (swp e a (a + k)) (Nat.le_refl _)
   simp only [Option.bind_some]
   rw [if_pos (by simpa using sz)]
   refine .inl ⟨(siftDown (lC c) k a 0 (swp e a (a + k)), k), ?_, ⟨by rw [← he]; rw [sz, size_swp], by simp only; omega⟩, rfl, by simp⟩
   simp only
   rw [wr ⟨by omega, by omega⟩]) (heapBuild (lC c) (b - a) a ((b - a - 1) / 2 + 1) d, b - a) ⟨by rw [heapBuild_size], Nat.le_refl _⟩
 simp only at L0 L1
 rw [show (((b - a - 1) / 2 + 1 : Nat) : Int) - 1 = (((b - a - 1) / 2 : Nat) : Int) by omega] at L0
 rw [show ((b - a : Nat) : Int) - 1 = ((b - a - 1 : Nat) : Int) by omega] at L1
 simp only [g149, bindv, w1, w2, w3, L0, L1, Option.bind_some]
 rfl
theorem reverseLoop_size : ∀ (n i j : Nat) (d : Array DLease), j - i ≤ n → (reverseLoop i j d).size = d.size
 | 0, i, j, d, h => by unfold reverseLoop; rw [if_neg (by omega)]
 | n + 1, i, j, d, h => by
  unfold reverseLoop
  split
  ·rw [reverseLoop_size n _ _ _ (by omega), size_swp]
  ·rfl
theorem g152_eq (d : Array DLease) (a b : Nat) (hb : b ≤ d.size) (hs : d.size ≤ 1048576) (hab : a < b) :
  g152 d.toList (a : Int) (b : Int) (fC c) = some (reverseRange d a b).toList := by
 have w2 : IntKind.i64.wrap ((b : Int) - 1) = ((b - 1 : Nat) : Int) := sm1 (by omega) (by omega)
 have L0 := iterE (step := g152_l0) (fun t : Array DLease × Nat × Nat => (t.1.toList, (t.2.1 : Int), (t.2.2 : Int))) (fun t => t.1.size = d.size ∧ t.2.2 < b) (fun t => t.2.2 - t.2.1) (fun t => (reverseLoop t.2.1 t.2.2 t.1).toList) (by
  rintro ⟨e, i, j⟩ ⟨he, hj⟩
  simp only at he hj
  simp only [g152_l0]
  by_cases h : i < j
  ·rw [if_pos (decide_eq_true (by omega))]
   have i1 : i < e.size := by omega
   have i2 : j < e.size := by omega
   have i3 : j < (e.setIfInBounds i e[j]!).size := by simpa using i2
   simp only [ixA i1, ixA i2, Int.toNat_natCast, gtA i1, gtA i2, stA, Option.bind_some, ixA i3, gtA i3, swA, sp1 (show i ≤ 4611686018427387904 by omega), sm1 (show j ≤ 4611686018427387904 by omega) (show 1 ≤ j by omega)]
   refine .inl ⟨(swp e i j, i + 1, j - 1), rfl, ⟨by rw [size_swp]; exact he, by simp only; omega⟩, ?_, by simp only; omega⟩
   simp only
   conv => rhs; unfold reverseLoop
   rw [if_pos h]
  ·rw [if_neg (by simpa using h)]
   refine .inr ?_
   unfold reverseLoop
   rw [if_neg h]) (d, a, b - 1) ⟨rfl, by simp only; omega⟩
 simp only at L0
 simp only [g152, w2, L0, Option.bind_some]
 rfl
end Go.Ev
end
section
set_option maxHeartbeats 1000000
namespace Go.Ev
open Go.Sort
variable (c : DLease → DLease → Int)
theorem g155_l3_eq (d : Array DLease) (a i j : Nat) (ha : a < d.size) (hj : j < d.size) (hs : d.size ≤ 1048576) (hi : i ≤ 1048577) :
  iter (g155_l3 (a : Int) (fC c) d.toList (j : Int)) (i : Int) = some ((scanUp (fun x => lC c x d[a]!) d j i : Nat) : Int) := by
 refine iterE (fun t : Nat => (t : Int)) (fun t => t ≤ 1048577) (fun t => j + 1 - t) (fun t => ((scanUp (fun x => lC c x d[a]!) d j t : Nat) : Int)) ?_ i hi
 intro i hi
 simp only [g155_l3]
 by_cases h : i ≤ j
 ·have hi2 : i < d.size := by omega
  have e1 : decide ((i : Int) ≤ (j : Int)) = true := decide_eq_true (by omega)
  simp only [e1, beq_self_eq_true, if_true, ixA hi2, ixA ha, Int.toNat_natCast, gtA hi2, gtA ha, Option.bind_some, cond_true]
  by_cases h2 : c d[i]! d[a]! < 0
  ·rw [if_pos (decide_eq_true h2), sp1 (by omega)]
   refine .inl ⟨i + 1, rfl, by omega, ?_, by omega⟩
   conv => rhs; unfold scanUp
   rw [if_pos (by simp [h, h2])]
  ·rw [if_neg (by simpa using h2)]
   refine .inr ?_
   conv => rhs; unfold scanUp
   rw [if_neg (by simp; intro _; omega)]
 ·have e1 : decide ((i : Int) ≤ (j : Int)) = false := decide_eq_false (by omega)
  simp only [e1, show (false == true) = false from rfl, Bool.false_eq_true, if_false, Option.bind_some, cond_false]
  refine .inr ?_
  conv => rhs; unfold scanUp
  rw [if_neg (by simp; intro h; omega)]
theorem g155_l4_eq (d : Array DLease) (a i j : Nat) (ha : a < d.size) (hj : j < d.size) (hs : d.size ≤ 1048576) (hi : 1 ≤ i) :
  iter (g155_l4 (a : Int) (fC c) d.toList (i : Int)) (j : Int) = some ((scanDown (fun x => !lC c x d[a]!) d i j : Nat) : Int) := by
 refine iterE (fun t : Nat => (t : Int)) (fun t => t < d.size) (fun t => t) (fun t => ((scanDown (fun x => !lC c x d[a]!) d i t : Nat) : Int)) ?_ j hj
 intro j hj
 simp only [g155_l4]
 by_cases h : i ≤ j
 ·obtain ⟨j, rfl⟩ : ∃ k, j = k + 1 := ⟨j - 1, by omega⟩
  have e1 : decide ((i : Int) ≤ ((j + 1 : Nat) : Int)) = true := decide_eq_true (by omega)
  simp only [e1, beq_self_eq_true, if_true, ixA hj, ixA ha, Int.toNat_natCast, gtA hj, gtA ha, Option.bind_some, cond_true]
  by_cases h2 : c d[j + 1]! d[a]! < 0
  ·rw [if_neg (by simpa using h2)]
   refine .inr ?_
   simp only [scanDown]
   rw [if_neg (by simp; intro _; omega)]
  ·rw [if_pos (by simpa using h2), sm1 (by omega) (by omega)]
   refine .inl ⟨j, rfl, by omega, ?_, by omega⟩
   simp only [scanDown]
   rw [if_pos (by simp [h]; omega)]
 ·have e1 : decide ((i : Int) ≤ (j : Int)) = false := decide_eq_false (by omega)
  simp only [e1, show (false == true) = false from rfl, Bool.false_eq_true, if_false, Option.bind_some, cond_false]
  refine .inr ?_
  cases j with
  | zero => simp [scanDown]
  | succ j => simp only [scanDown]; rw [if_neg (by simp; intro h; omega)]
theorem partLoop_size (a : Nat) : ∀ (n i j : Nat) (d : Array DLease), j + 1 - i ≤ n → (partLoop (lC c) a i j d).2.size = d.size ∧ (partLoop (lC c) a i j d).1 ≤ j
 | 0, i, j, d, h => by
  rw [partLoop_eq]
  have h1 := scanUp_ge (fun x => lC c x d[a]!) d j i
  have h2 := scanDown_le (fun x => !lC c x d[a]!) d (scanUp (fun x => lC c x d[a]!) d j i) j
  rw [if_pos (by omega)]
  exact ⟨rfl, h2⟩
 | n + 1, i, j, d, h => by
  rw [partLoop_eq]
  have h1 := scanUp_ge (fun x => lC c x d[a]!) d j i
  have h2 := scanDown_le (fun x => !lC c x d[a]!) d (scanUp (fun x => lC c x d[a]!) d j i) j
  split
  ·exact ⟨rfl, h2⟩
  ·have := partLoop_size a n (scanUp (fun x => lC c x d[a]!) d j i + 1) (scanDown (fun x => !lC c x d[a]!) d (scanUp (fun x => lC c x d[a]!) d j i) j - 1) (swp d (scanUp (fun x => lC c x d[a]!) d j i) (scanDown (fun x => !lC c x d[a]!) d (scanUp (fun x => lC c x d[a]!) d j i) j)) (by omega)
   rw [size_swp] at this
   exact ⟨this.1, by omega⟩
theorem scanUp_le (p : DLease → Bool) (d : Array DLease) (j i : Nat) (h : i ≤ 1048577) (hj : j ≤ 1048576) : scanUp p d j i ≤ 1048577 := by
 have key : ∀ n i, j + 1 - i ≤ n → i ≤ 1048577 → scanUp p d j i ≤ 1048577 := by
  intro n
  induction n with
  | zero =>
   intro i hn hi
   unfold scanUp
   rw [if_neg (by simp; intro h; omega)]; exact hi
  | succ n ih =>
   intro i hn hi
   unfold scanUp
   by_cases hc : (decide (i ≤ j) && p d[i]!) = true
   ·rw [if_pos hc]
    simp only [Bool.and_eq_true, decide_eq_true_eq] at hc
    exact ih (i + 1) (by omega) (by omega)
   ·rw [if_neg hc]; exact hi
 exact key _ i (Nat.le_refl _) h
theorem g155_l2_eq (d : Array DLease) (a i j : Nat) (ha : a < d.size) (hj : j < d.size) (hs : d.size ≤ 1048576) (hi : 1 ≤ i) (hij : i ≤ 1048577) :
  iter (g155_l2 (a : Int) (fC c)) (d.toList, (i : Int), (j : Int)) = some ((partLoop (lC c) a i j d).2.toList, (((partLoop (lC c) a i j d).1 : Nat) : Int)) := by
 refine iterE (fun t : Array DLease × Nat × Nat => (t.1.toList, (t.2.1 : Int), (t.2.2 : Int))) (fun t => t.1.size = d.size ∧ t.2.2 < d.size ∧ 1 ≤ t.2.1 ∧ t.2.1 ≤ 1048577) (fun t => t.2.2 + 1 - t.2.1)
  (fun t => ((partLoop (lC c) a t.2.1 t.2.2 t.1).2.toList, (((partLoop (lC c) a t.2.1 t.2.2 t.1).1 : Nat) : Int))) ?_ (d, i, j) ⟨rfl, hj, hi, hij⟩
 rintro ⟨e, i, j⟩ ⟨he, hj, hi, hij⟩
 simp only at he hj hi hij
 simp only [g155_l2]
 have u1 := scanUp_ge (fun x => lC c x e[a]!) e j i
 have u2 := scanUp_le (fun x => lC c x e[a]!) e j i hij (by omega)
 rw [g155_l3_eq c e a i j (by omega) (by omega) (by omega) hij]
 simp only [Option.bind_some]
 rw [g155_l4_eq c e a _ j (by omega) (by omega) (by omega) (by omega)]
 simp only [Option.bind_some]
 rw [partLoop_eq]
 have v1 := scanDown_le (fun x => !lC c x e[a]!) e (scanUp (fun x => lC c x e[a]!) e j i) j
 generalize scanUp (fun x => lC c x e[a]!) e j i = i2 at *
 generalize scanDown (fun x => !lC c x e[a]!) e i2 j = j2 at *
 by_cases h : i2 > j2
 ·rw [if_pos (decide_eq_true (by omega)), if_pos h]
  exact .inr rfl
 ·rw [if_neg (by simpa using h), if_neg h]
  have i1 : i2 < e.size := by omega
  have i3 : j2 < e.size := by omega
  have i4 : j2 < (e.setIfInBounds i2 e[j2]!).size := by simpa using i3
  simp only [ixA i1, ixA i3, Int.toNat_natCast, gtA i1, gtA i3, stA, Option.bind_some, ixA i4, gtA i4, swA, sp1 (show i2 ≤ 4611686018427387904 by omega), sm1 (show j2 ≤ 4611686018427387904 by omega) (show 1 ≤ j2 by omega)]
  exact .inl ⟨(swp e i2 j2, i2 + 1, j2 - 1), rfl, ⟨by rw [size_swp]; exact he, by simp only; omega, by simp only; omega, by simp only; omega⟩, rfl, by simp only; omega⟩
theorem g155_l0_is (d : List DLease) (a b p : Int) (f : DLease → DLease → Option Int) (x y : DLease) :
  g155_l0 d a b p f x y = g155_l3 a f ((d.set a.toNat x).set p.toNat y) (IntKind.i64.wrap (b - 1)) := rfl
theorem g155_l1_is (d : List DLease) (a p : Int) (f : DLease → DLease → Option Int) (x y : DLease) (i : Int) :
  g155_l1 d a p f x y i = g155_l4 a f ((d.set a.toNat x).set p.toNat y) i := rfl
theorem g155_eq (d : Array DLease) (a b p : Nat) (hb : b ≤ d.size) (hs : d.size ≤ 1048576) (hab : a + 1 < b) (hp : p < b) :
  g155 d.toList (a : Int) (b : Int) (p : Int) (fC c) = some ((((partition (lC c) d a b p).1 : Nat) : Int), (partition (lC c) d a b p).2.1, (partition (lC c) d a b p).2.2.toList) ∧ (partition (lC c) d a b p).2.2.size = d.size := by
 have i1 : p < d.size := by omega
 have i2 : a < d.size := by omega
 have i3 : p < (d.setIfInBounds a d[p]!).size := by simpa using i1
 have w2 : IntKind.i64.wrap ((b : Int) - 1) = ((b - 1 : Nat) : Int) := sm1 (by omega) (by omega)
 simp only [g155, ixA i1, ixA i2, Int.toNat_natCast, gtA i1, gtA i2, stA, Option.bind_some, ixA i3, gtA i3, g155_l0_is, g155_l1_is, swA, w2, sp1 (show a ≤ 4611686018427387904 by omega)]
 have sz : (swp d a p).size = d.size := size_swp d a p
 generalize hd1 : swp d a p = d1 at sz
 have u1 := scanUp_ge (fun x => lC c x d1[a]!) d1 (b - 1) (a + 1)
 have u2 := scanUp_le (fun x => lC c x d1[a]!) d1 (b - 1) (a + 1) (by omega) (by omega)
 rw [g155_l3_eq c d1 a (a + 1) (b - 1) (by omega) (by omega) (by omega) (by omega)]
 simp only [Option.bind_some]
 rw [g155_l4_eq c d1 a _ (b - 1) (by omega) (by omega) (by omega) (by omega)]
 simp only [Option.bind_some]
 simp only [partition, hd1]
 have v1 := scanDown_le (fun x => !lC c x d1[a]!) d1 (scanUp (fun x => lC c x d1[a]!) d1 (b - 1) (a + 1)) (b - 1)
 generalize scanUp (fun x => lC c x d1[a]!) d1 (b - 1) (a + 1) = i at *
 generalize scanDown (fun x => !lC c x d1[a]!) d1 i (b - 1) = j at *
 have k1 : a < d1.size := by omega
 have k2 : j < d1.size := by omega
 by_cases h : i > j
 ·rw [if_pos (decide_eq_true (by omega)), if_pos h]
  have k3 : a < (d1.setIfInBounds j d1[a]!).size := by simpa using k1
  simp only [ixA k1, ixA k2, Int.toNat_natCast, gtA k1, gtA k2, stA, Option.bind_some, ixA k3, gtA k3, swA, bindv]
  exact ⟨by trivial, by rw [size_swp, sz]⟩
 ·rw [if_neg (by simpa using h), if_neg h]
  have k4 : i < d1.size := by omega
  have k3 : j < (d1.setIfInBounds i d1[j]!).size := by simpa using k2
  simp only [ixA k4, ixA k2, Int.toNat_natCast, gtA k4, gtA k2, stA, Option.bind_some, ixA k3, gtA k3, swA, bindv, sp1 (show i ≤ 4611686018427387904 by omega), sm1 (show j ≤ 4611686018427387904 by omega) (show 1 ≤ j by omega)]
  have sz2 : (swp d1 i j).size = d.size := by rw [size_swp, sz]
  generalize swp d1 i j = d2 at sz2
  rw [g155_l2_eq c d2 a (i + 1) (j - 1) (by omega) (by omega) (by omega) (by omega) (by omega)]
  obtain ⟨z1, z2⟩ := partLoop_size c a _ (i + 1) (j - 1) d2 (Nat.le_refl _)
  simp only [Option.bind_some]
  generalize partLoop (lC c) a (i + 1) (j - 1) d2 = r at *
  have m1 : a < r.2.size := by omega
  have m2 : r.1 < r.2.size := by omega
  have m3 : a < (r.2.setIfInBounds r.1 r.2[a]!).size := by simpa using m1
  simp only [ixA m1, ixA m2, Int.toNat_natCast, gtA m1, gtA m2, stA, Option.bind_some, ixA m3, gtA m3, swA]
  exact ⟨by trivial, by rw [size_swp]; omega⟩
theorem g154_l1_eq (d : Array DLease) (a i j : Nat) (ha : a < d.size) (hj : j < d.size) (hs : d.size ≤ 1048576) (hi : i ≤ 1048577) :
  iter (g154_l1 (a : Int) (fC c) d.toList (j : Int)) (i : Int) = some ((scanUp (fun x => !lC c d[a]! x) d j i : Nat) : Int) := by
 refine iterE (fun t : Nat => (t : Int)) (fun t => t ≤ 1048577) (fun t => j + 1 - t) (fun t => ((scanUp (fun x => !lC c d[a]! x) d j t : Nat) : Int)) ?_ i hi
 intro i hi
 simp only [g154_l1]
 by_cases h : i ≤ j
 ·have hi2 : i < d.size := by omega
  have e1 : decide ((i : Int) ≤ (j : Int)) = true := decide_eq_true (by omega)
  simp only [e1, beq_self_eq_true, if_true, ixA hi2, ixA ha, Int.toNat_natCast, gtA hi2, gtA ha, Option.bind_some, cond_true]
  by_cases h2 : c d[a]! d[i]! < 0
  ·rw [if_neg (by simpa using h2)]
   refine .inr ?_
   conv => rhs; unfold scanUp
   rw [if_neg (by simp; intro _; omega)]
  ·rw [if_pos (by simpa using h2), sp1 (by omega)]
   refine .inl ⟨i + 1, rfl, by omega, ?_, by omega⟩
   conv => rhs; unfold scanUp
   rw [if_pos (by simp [h]; omega)]
 ·have e1 : decide ((i : Int) ≤ (j : Int)) = false := decide_eq_false (by omega)
  simp only [e1, show (false == true) = false from rfl, Bool.false_eq_true, if_false, Option.bind_some, cond_false]
  refine .inr ?_
  conv => rhs; unfold scanUp
  rw [if_neg (by simp; intro h; omega)]
theorem g154_l2_eq (d : Array DLease) (a i j : Nat) (ha : a < d.size) (hj : j < d.size) (hs : d.size ≤ 1048576) (hi : 1 ≤ i) :
  iter (g154_l2 (a : Int) (fC c) d.toList (i : Int)) (j : Int) = some ((scanDown (fun x => lC c d[a]! x) d i j : Nat) : Int) := by
 refine iterE (fun t : Nat => (t : Int)) (fun t => t < d.size) (fun t => t) (fun t => ((scanDown (fun x => lC c d[a]! x) d i t : Nat) : Int)) ?_ j hj
 intro j hj
 simp only [g154_l2]
 by_cases h : i ≤ j
 ·obtain ⟨j, rfl⟩ : ∃ k, j = k + 1 := ⟨j - 1, by omega⟩
  have e1 : decide ((i : Int) ≤ ((j + 1 : Nat) : Int)) = true := decide_eq_true (by omega)
  simp only [e1, beq_self_eq_true, if_true, ixA hj, ixA ha, Int.toNat_natCast, gtA hj, gtA ha, Option.bind_some, cond_true]
  by_cases h2 : c d[a]! d[j + 1]! < 0
  ·rw [if_pos (by simpa using h2), sm1 (by omega) (by omega)]
   refine .inl ⟨j, rfl, by omega, ?_, by omega⟩
   simp only [scanDown]
   rw [if_pos (by simp [h]; omega)]
  ·rw [if_neg (by simpa using h2)]
   refine .inr ?_
   simp only [scanDown]
   rw [if_neg (by simp; intro _; omega)]
 ·have e1 : decide ((i : Int) ≤ (j : Int)) = false := decide_eq_false (by omega)
  simp only [e1, show (false == true) = false from rfl, Bool.false_eq_true, if_false, Option.bind_some, cond_false]
  refine .inr ?_
  cases j with
  | zero => simp [scanDown]
  | succ j => simp only [scanDown]; rw [if_neg (by simp; intro h; omega)]
theorem partEqLoop_size (a : Nat) : ∀ (n i j : Nat) (d : Array DLease), j + 1 - i ≤ n → (partEqLoop (lC c) a i j d).2.size = d.size
 | 0, i, j, d, h => by
  rw [partEqLoop_eq]
  have h1 := scanUp_ge (fun x => !lC c d[a]! x) d j i
  have h2 := scanDown_le (fun x => lC c d[a]! x) d (scanUp (fun x => !lC c d[a]! x) d j i) j
  rw [if_pos (by omega)]
 | n + 1, i, j, d, h => by
  rw [partEqLoop_eq]
  have h1 := scanUp_ge (fun x => !lC c d[a]! x) d j i
  have h2 := scanDown_le (fun x => lC c d[a]! x) d (scanUp (fun x => !lC c d[a]! x) d j i) j
  split
  ·rfl
  ·have := partEqLoop_size a n (scanUp (fun x => !lC c d[a]! x) d j i + 1) (scanDown (fun x => lC c d[a]! x) d (scanUp (fun x => !lC c d[a]! x) d j i) j - 1) (swp d (scanUp (fun x => !lC c d[a]! x) d j i) (scanDown (fun x => lC c d[a]! x) d (scanUp (fun x => !lC c d[a]! x) d j i) j)) (by omega)
   rw [size_swp] at this
   exact this
theorem g154_l0_eq (d : Array DLease) (a i j : Nat) (ha : a < d.size) (hj : j < d.size) (hs : d.size ≤ 1048576) (hi : 1 ≤ i) (hij : i ≤ 1048577) :
  iter (g154_l0 (a : Int) (fC c)) (d.toList, (i : Int), (j : Int)) = some ((partEqLoop (lC c) a i j d).2.toList, (((partEqLoop (lC c) a i j d).1 : Nat) : Int)) := by
 refine iterE (fun t : Array DLease × Nat × Nat => (t.1.toList, (t.2.1 : Int), (t.2.2 : Int))) (fun t => t.1.size = d.size ∧ t.2.2 < d.size ∧ 1 ≤ t.2.1 ∧ t.2.1 ≤ 1048577) (fun t => t.2.2 + 1 - t.2.1)
  (fun t => ((partEqLoop (lC c) a t.2.1 t.2.2 t.1).2.toList, (((partEqLoop (lC c) a t.2.1 t.2.2 t.1).1 : Nat) : Int))) ?_ (d, i, j) ⟨rfl, hj, hi, hij⟩
 rintro ⟨e, i, j⟩ ⟨he, hj, hi, hij⟩
 simp only at he hj hi hij
 simp only [g154_l0]
 have u1 := scanUp_ge (fun x => !lC c e[a]! x) e j i
 have u2 := scanUp_le (fun x => !lC c e[a]! x) e j i hij (by omega)
 rw [g154_l1_eq c e a i j (by omega) (by omega) (by omega) hij]
 simp only [Option.bind_some]
 rw [g154_l2_eq c e a _ j (by omega) (by omega) (by omega) (by omega)]
 simp only [Option.bind_some]
 rw [partEqLoop_eq]
 have v1 := scanDown_le (fun x => lC c e[a]! x) e (scanUp (fun x => !lC c e[a]! x) e j i) j
 generalize scanUp (fun x => !lC c e[a]! x) e j i = i2 at *
 generalize scanDown (fun x => lC c e[a]! x) e i2 j = j2 at *
 by_cases h : i2 > j2
 ·rw [if_pos (decide_eq_true (by omega)), if_pos h]
  exact .inr rfl
 ·rw [if_neg (by simpa using h), if_neg h]
  have i1 : i2 < e.size := by omega
  have i3 : j2 < e.size := by omega
  have i4 : j2 < (e.setIfInBounds i2 e[j2]!).size := by simpa using i3
  simp only [ixA i1, ixA i3, Int.toNat_natCast, gtA i1, gtA i3, stA, Option.bind_some, ixA i4, gtA i4, swA, sp1 (show i2 ≤ 4611686018427387904 by omega), sm1 (show j2 ≤ 4611686018427387904 by omega) (show 1 ≤ j2 by omega)]
  exact .inl ⟨(swp e i2 j2, i2 + 1, j2 - 1), rfl, ⟨by rw [size_swp]; exact he, by simp only; omega, by simp only; omega, by simp only; omega⟩, rfl, by simp only; omega⟩
theorem g154_eq (d : Array DLease) (a b p : Nat) (hb : b ≤ d.size) (hs : d.size ≤ 1048576) (hab : a + 1 < b) (hp : p < b) :
  g154 d.toList (a : Int) (b : Int) (p : Int) (fC c) = some ((((partitionEqual (lC c) d a b p).1 : Nat) : Int), (partitionEqual (lC c) d a b p).2.toList) ∧ (partitionEqual (lC c) d a b p).2.size = d.size := by
 have i1 : p < d.size := by omega
 have i2 : a < d.size := by omega
 have i3 : p < (d.setIfInBounds a d[p]!).size := by simpa using i1
 have w2 : IntKind.i64.wrap ((b : Int) - 1) = ((b - 1 : Nat) : Int) := sm1 (by omega) (by omega)
 have sz : (swp d a p).size = d.size := size_swp d a p
 simp only [g154, ixA i1, ixA i2, Int.toNat_natCast, gtA i1, gtA i2, stA, Option.bind_some, ixA i3, gtA i3, swA, w2, sp1 (show a ≤ 4611686018427387904 by omega)]
 rw [g154_l0_eq c (swp d a p) a (a + 1) (b - 1) (by omega) (by omega) (by omega) (by omega) (by omega)]
 exact ⟨rfl, by rw [partitionEqual, partEqLoop_size c a _ _ _ _ (Nat.le_refl _), sz]⟩
end Go.Ev
end
section
set_option maxHeartbeats 1000000
namespace Go.Ev
open Go.Sort
variable (c : DLease → DLease → Int)
theorem g153_l1_eq (d : Array DLease) (b i : Nat) (hb : b ≤ d.size) (hs : d.size ≤ 1048576) (hi : 1 ≤ i) (hib : i ≤ 1048577) :
  iter (g153_l1 (b : Int) (fC c) d.toList) (i : Int) = some ((scanSorted (lC c) d b i : Nat) : Int) := by
 refine iterE (fun t : Nat => (t : Int)) (fun t => 1 ≤ t ∧ t ≤ 1048577) (fun t => b - t) (fun t => ((scanSorted (lC c) d b t : Nat) : Int)) ?_ i ⟨hi, hib⟩
 rintro i ⟨hi, hib⟩
 simp only [g153_l1]
 by_cases h : i < b
 ·have hi2 : i < d.size := by omega
  have hi3 : i - 1 < d.size := by omega
  have e1 : decide ((i : Int) < (b : Int)) = true := decide_eq_true (by omega)
  simp only [e1, beq_self_eq_true, if_true, sm1 (show i ≤ 4611686018427387904 by omega) hi, ixA hi2, ixA hi3, Int.toNat_natCast, gtA hi2, gtA hi3, Option.bind_some, cond_true]
  by_cases h2 : c d[i]! d[i - 1]! < 0
  ·rw [if_neg (by simpa using h2)]
   refine .inr ?_
   conv => rhs; unfold scanSorted
   rw [if_neg (by simp; intro _; omega)]
  ·rw [if_pos (by simpa using h2), sp1 (by omega)]
   refine .inl ⟨i + 1, rfl, ⟨by omega, by omega⟩, ?_, by omega⟩
   conv => rhs; unfold scanSorted
   rw [if_pos (by simp [h]; omega)]
 ·have e1 : decide ((i : Int) < (b : Int)) = false := decide_eq_false (by omega)
  simp only [e1, show (false == true) = false from rfl, Bool.false_eq_true, if_false, Option.bind_some, cond_false]
  refine .inr ?_
  conv => rhs; unfold scanSorted
  rw [if_neg (by simp; intro h; omega)]
theorem scanSorted_le (d : Array DLease) (b : Nat) : ∀ n i, b - i ≤ n → i ≤ scanSorted (lC c) d b i ∧ (i ≤ b → scanSorted (lC c) d b i ≤ b) ∧ (b < i → scanSorted (lC c) d b i = i)
 | 0, i, h => by
  unfold scanSorted
  rw [if_neg (by simp; intro h; omega)]; exact ⟨Nat.le_refl _, id, fun _ => rfl⟩
 | n + 1, i, h => by
  unfold scanSorted
  by_cases hc : (decide (i < b) && !lC c d[i]! d[i - 1]!) = true
  ·rw [if_pos hc]
   simp only [Bool.and_eq_true, decide_eq_true_eq] at hc
   have := scanSorted_le d b n (i + 1) (by omega)
   exact ⟨by omega, fun _ => this.2.1 (by omega), fun _ => by omega⟩
  ·rw [if_neg hc]; exact ⟨Nat.le_refl _, id, fun _ => rfl⟩
theorem g153_l3_eq (d : Array DLease) (j : Nat) (hj : j < d.size) (hs : d.size ≤ 1048576) :
  iter (g153_l3 (fC c)) (d.toList, (j : Int)) = some (shiftDown (lC c) j d).toList := by
 refine iterE (fun t : Array DLease × Nat => (t.1.toList, (t.2 : Int))) (fun t => t.1.size = d.size ∧ t.2 < d.size) (fun t => t.2) (fun t => (shiftDown (lC c) t.2 t.1).toList) ?_ (d, j) ⟨rfl, hj⟩
 rintro ⟨e, j⟩ ⟨he, hj⟩
 simp only at he hj
 simp only [g153_l3]
 cases j with
 | zero =>
  rw [if_neg (by simp)]
  exact .inr rfl
 | succ j =>
  rw [if_pos (decide_eq_true (by omega))]
  have i1 : j + 1 < e.size := by omega
  have i2 : j < e.size := by omega
  have i3 : j < (e.setIfInBounds (j + 1) e[j]!).size := by simpa using i2
  have e2 : IntKind.i64.wrap (((j + 1 : Nat) : Int) - 1) = (j : Int) := sm1 (by omega) (by omega)
  simp only [e2, ixA i1, ixA i2, Int.toNat_natCast, gtA i1, gtA i2, Option.bind_some, shiftDown]
  by_cases h2 : c e[j + 1]! e[j]! < 0
  ·rw [if_neg (by simpa using h2), if_neg (by simpa using h2)]
   simp only [stA, ixA i3, gtA i3, Option.bind_some, swA]
   exact .inl ⟨(swp e (j + 1) j, j), rfl, ⟨by rw [size_swp]; exact he, by simp only; omega⟩, rfl, by simp⟩
  ·rw [if_pos (by simpa using h2), if_pos (by simpa using h2)]
   exact .inr rfl
theorem shiftDown_size : ∀ (j : Nat) (d : Array DLease), (shiftDown (lC c) j d).size = d.size
 | 0, d => rfl
 | j + 1, d => by
  simp only [shiftDown]
  split
  ·rfl
  ·rw [shiftDown_size j, size_swp]
theorem g153_l2_eq (d : Array DLease) (b j : Nat) (hj : 1 ≤ j) (hb : b ≤ d.size) (hs : d.size ≤ 1048576) :
  iter (g153_l2 (b : Int) (fC c)) (d.toList, (j : Int)) = some (shiftUp (lC c) b j d).toList := by
 refine iterE (fun t : Array DLease × Nat => (t.1.toList, (t.2 : Int))) (fun t => t.1.size = d.size ∧ 1 ≤ t.2) (fun t => b - t.2) (fun t => (shiftUp (lC c) b t.2 t.1).toList) ?_ (d, j) ⟨rfl, hj⟩
 rintro ⟨e, j⟩ ⟨he, hj⟩
 simp only at he hj
 simp only [g153_l2]
 by_cases h : j < b
 ·rw [if_pos (decide_eq_true (by omega))]
  have i1 : j < e.size := by omega
  have i2 : j - 1 < e.size := by omega
  have i3 : j - 1 < (e.setIfInBounds j e[j - 1]!).size := by simpa using i2
  simp only [sm1 (show j ≤ 4611686018427387904 by omega) hj, ixA i1, ixA i2, Int.toNat_natCast, gtA i1, gtA i2, Option.bind_some]
  by_cases h2 : c e[j]! e[j - 1]! < 0
  ·rw [if_neg (by simpa using h2)]
   simp only [stA, ixA i3, gtA i3, Option.bind_some, swA, sp1 (show j ≤ 4611686018427387904 by omega)]
   refine .inl ⟨(swp e j (j - 1), j + 1), rfl, ⟨by rw [size_swp]; exact he, by simp only; omega⟩, ?_, by simp only; omega⟩
   simp only
   conv => rhs; unfold shiftUp
   rw [if_pos h, if_neg (by simpa using h2)]
  ·rw [if_pos (by simpa using h2)]
   refine .inr ?_
   conv => rhs; unfold shiftUp
   rw [if_pos h, if_pos (by simpa using h2)]
 ·rw [if_neg (by simpa using h)]
  refine .inr ?_
  conv => rhs; unfold shiftUp
  rw [if_neg h]
theorem shiftUp_size (b : Nat) : ∀ (n j : Nat) (d : Array DLease), b - j ≤ n → (shiftUp (lC c) b j d).size = d.size
 | 0, j, d, h => by unfold shiftUp; rw [if_neg (by omega)]
 | n + 1, j, d, h => by
  unfold shiftUp
  split
  ·split
   ·rfl
   ·rw [shiftUp_size b n _ _ (by omega), size_swp]
  ·rfl
theorem partialIns_size (a b : Nat) : ∀ (s i : Nat) (d : Array DLease), (partialIns (lC c) a b s i d).1.size = d.size
 | 0, i, d => rfl
 | s + 1, i, d => by
  rw [partialIns_succ]
  split
  ·rfl
  ·split
   ·rfl
   ·rw [partialIns_size a b s]
    simp only [fixUp, fixDown]
    split <;> split <;> simp [shiftUp_size c b _ _ _ (Nat.le_refl _), shiftDown_size, size_swp]
theorem g153_eq (d : Array DLease) (a b : Nat) (hb : b ≤ d.size) (hs : d.size ≤ 1048576) (hab : a < b) :
  g153 d.toList (a : Int) (b : Int) (fC c) = some ((partialInsertionSort (lC c) d a b).2, (partialInsertionSort (lC c) d a b).1.toList) := by
 obtain ⟨q, q1, q2⟩ := iterQ (step := g153_l0 (a : Int) (b : Int) (fC c)) (fun (X : Array DLease × Bool) q => (q = .inl X.1.toList ∧ X.2 = false) ∨ q = .inr (X.2, X.1.toList))
  (fun t : Array DLease × Nat × Nat => (t.1.toList, (t.2.1 : Int), 5 - (t.2.2 : Int))) (fun t => t.1.size = d.size ∧ a + 1 ≤ t.2.1 ∧ t.2.1 ≤ b ∧ t.2.2 ≤ 5) (fun t => t.2.2) (fun t => partialIns (lC c) a b t.2.2 t.2.1 t.1) (by
  rintro ⟨e, i, s⟩ ⟨he, hi, hib, hs5⟩
  simp only at he hi hib hs5
  simp only [g153_l0]
  cases s with
  | zero =>
   rw [if_neg (by simp)]
   exact .inr ⟨_, rfl, .inl ⟨rfl, rfl⟩⟩
  | succ s =>
   rw [if_pos (decide_eq_true (by omega)), g153_l1_eq c e b i (by omega) (by omega) (by omega) (by omega)]
   obtain ⟨s1, s2, _⟩ := scanSorted_le c e b _ i (Nat.le_refl _)
   have s2 := s2 hib
   simp only [Option.bind_some]
   rw [partialIns_succ]
   generalize scanSorted (lC c) e b i = i2 at *
   by_cases h1 : i2 = b
   ·rw [if_pos (by simp [h1]), if_pos h1]
    exact .inr ⟨_, rfl, .inr rfl⟩
   ·rw [if_neg (by simp; omega), if_neg h1]
    have w1 : IntKind.i64.wrap ((b : Int) - (a : Int)) = ((b - a : Nat) : Int) := ssb (by omega) (by omega)
    rw [w1]
    by_cases h2 : b - a < 50
    ·rw [if_pos (decide_eq_true (by omega)), if_pos h2]
     exact .inr ⟨_, rfl, .inr rfl⟩
    ·rw [if_neg (by simp; omega), if_neg h2]
     simp only [fixUp, fixDown]
     have i1 : i2 < e.size := by omega
     have i3 : i2 - 1 < e.size := by omega
     have i4 : i2 - 1 < (e.setIfInBounds i2 e[i2 - 1]!).size := by simpa using i3
     have w3 : IntKind.i64.wrap ((i2 : Int) - (a : Int)) = ((i2 - a : Nat) : Int) := ssb (by omega) (by omega)
     have w4 : IntKind.i64.wrap ((b : Int) - (i2 : Int)) = ((b - i2 : Nat) : Int) := ssb (by omega) (by omega)
     simp only [sm1 (show i2 ≤ 4611686018427387904 by omega) (show 1 ≤ i2 by omega), ixA i1, ixA i3, Int.toNat_natCast, gtA i1, gtA i3, Option.bind_some, stA, ixA i4, gtA i4, swA, bindv, w3]
     have sz : (swp e i2 (i2 - 1)).size = d.size := by rw [size_swp]; exact he
     have hj1 : ∀ (v : Array DLease), v.size = d.size → (∃ t' : Array DLease × Nat × Nat, g153_j1 (b : Int) (fC c) (5 - ((s + 1 : Nat) : Int)) (i2 : Int) v.toList = some (.inl (t'.1.toList, (t'.2.1 : Int), 5 - (t'.2.2 : Int))) ∧ (t'.1.size = d.size ∧ a + 1 ≤ t'.2.1 ∧ t'.2.1 ≤ b ∧ t'.2.2 ≤ 5) ∧
       partialIns (lC c) a b t'.2.2 t'.2.1 t'.1 = partialIns (lC c) a b s i2 (if b - i2 ≥ 2 then shiftUp (lC c) b (i2 + 1) v else v) ∧ t'.2.2 < s + 1) := by
      intro v hv
      have w5 : IntKind.i64.wrap ((5 - ((s + 1 : Nat) : Int)) + 1) = 5 - (s : Int) := by rw [wr ⟨by omega, by omega⟩]; omega
      simp only [g153_j1, g153_j0, w4, w5]
      by_cases h5 : b - i2 ≥ 2
      ·rw [if_pos (decide_eq_true (by omega)), if_pos h5, sp1 (by omega), g153_l2_eq c v b (i2 + 1) (by omega) (by omega) (by omega)]
       exact ⟨(shiftUp (lC c) b (i2 + 1) v, i2, s), rfl, ⟨by rw [shiftUp_size c b _ _ _ (Nat.le_refl _)]; exact hv, by simp only; omega, by simp only; omega, by simp only; omega⟩, rfl, by simp⟩
      ·rw [if_neg (by simp; omega), if_neg h5]
       exact ⟨(v, i2, s), rfl, ⟨hv, by simp only; omega, by simp only; omega, by simp only; omega⟩, rfl, by simp⟩
     refine .inl ?_
     by_cases h4 : i2 - a ≥ 2
     ·rw [if_pos (decide_eq_true (by omega)), if_pos h4, g153_l3_eq c _ (i2 - 1) (by omega) (by omega)]
      exact hj1 _ (by rw [shiftDown_size]; exact sz)
     ·rw [if_neg (by simp; omega), if_neg h4]
      exact hj1 _ sz) (d, a + 1, 5) ⟨rfl, by simp, by simp only; omega, by simp⟩
 simp only at q1 q2
 rw [show (5 : Int) - ((5 : Nat) : Int) = 0 by decide] at q1
 simp only [g153, sp1 (show a ≤ 4611686018427387904 by omega), q1, Option.bind_some]
 rcases q2 with ⟨rfl, q3⟩ | rfl
 ·simp only [partialInsertionSort, q3]
 ·rfl
theorem g165_eq (d : Array DLease) (a b s : Nat) (ha : a < d.size) (hb : b < d.size) (hs : s ≤ 1000) :
  g165 d.toList (a : Int) (b : Int) (s : Int) (fC c) = some (((order2 (lC c) d a b s).1 : Int), ((order2 (lC c) d a b s).2.1 : Int), ((order2 (lC c) d a b s).2.2 : Int)) := by
 simp only [g165, ixA ha, ixA hb, Option.bind_some, order2]
 by_cases h : c d[b]! d[a]! < 0
 ·rw [if_pos (decide_eq_true h), if_pos (decide_eq_true h), sp1 (by omega)]
 ·rw [if_neg (by simpa using h), if_neg (by simpa using h)]
theorem g163_eq (d : Array DLease) (a b e s : Nat) (ha : a < d.size) (hb : b < d.size) (he : e < d.size) (hs : s ≤ 900) :
  g163 d.toList (a : Int) (b : Int) (e : Int) (s : Int) (fC c) = some (((median (lC c) d a b e s).1 : Int), ((median (lC c) d a b e s).2 : Int)) := by
 have o1 := order2_mem (lC c) d a b s
 have o2 := order2_count (lt := lC c) d a b s
 simp only [g163, g165_eq c d a b s ha hb (by omega), Option.bind_some, median]
 generalize order2 (lC c) d a b s = r1 at *
 rw [g165_eq c d r1.2.1 e r1.2.2 (by omega) he (by omega)]
 have o3 := order2_mem (lC c) d r1.2.1 e r1.2.2
 have o4 := order2_count (lt := lC c) d r1.2.1 e r1.2.2
 simp only [Option.bind_some]
 generalize order2 (lC c) d r1.2.1 e r1.2.2 = r2 at *
 rw [g165_eq c d r1.1 r2.1 r2.2.2 (by omega) (by omega) (by omega)]
 rfl
theorem g162_eq (d : Array DLease) (a s : Nat) (ha : a + 1 < d.size) (h1 : 1 ≤ a) (hs : s ≤ 900) (hz : d.size ≤ 1048576) :
  g162 d.toList (a : Int) (s : Int) (fC c) = some (((medianAdjacent (lC c) d a s).1 : Int), ((medianAdjacent (lC c) d a s).2 : Int)) := by
 simp only [g162, sp1 (show a ≤ 4611686018427387904 by omega), sm1 (show a ≤ 4611686018427387904 by omega) h1]
 rw [g163_eq c d (a - 1) a (a + 1) s (by omega) (by omega) ha hs]
 rfl
def hintN (h : Hint) : Int := match h with | .unknown => 0 | .increasing => 1 | .decreasing => 2
theorem g151_j0_eq (p s : Nat) : g151_j0 (p : Int) (s : Int) = some ((p : Int), hintN (if s = 0 then .increasing else if s = 12 then .decreasing else .unknown)) := by
 simp only [g151_j0]
 by_cases h0 : s = 0
 ·rw [if_pos (by simp [h0]), if_pos h0]; rfl
 ·rw [if_neg (by simp; omega), if_neg h0]
  by_cases h1 : s = 12
  ·rw [if_pos (by simp [h1]), if_pos h1]; rfl
  ·rw [if_neg (by simp; omega), if_neg h1]; rfl
theorem g151_eq (d : Array DLease) (a b : Nat) (hb : b ≤ d.size) (hs : d.size ≤ 1048576) (hab : a < b) :
  g151 d.toList (a : Int) (b : Int) (fC c) = some (((choosePivot (lC c) d a b).1 : Int), hintN (choosePivot (lC c) d a b).2) := by
 have w1 : IntKind.i64.wrap ((b : Int) - (a : Int)) = ((b - a : Nat) : Int) := ssb (by omega) (by omega)
 have w2 : IntKind.i64.wrap (((b - a : Nat) : Int).tdiv 4) = (((b - a) / 4 : Nat) : Int) := sdv 4 (by omega)
 have m1 : IntKind.i64.wrap ((((b - a) / 4 : Nat) : Int) * 1) = (((b - a) / 4 * 1 : Nat) : Int) := sml 1 (by omega) (by omega)
 have m2 : IntKind.i64.wrap ((((b - a) / 4 : Nat) : Int) * 2) = (((b - a) / 4 * 2 : Nat) : Int) := sml 2 (by omega) (by omega)
 have m3 : IntKind.i64.wrap ((((b - a) / 4 : Nat) : Int) * 3) = (((b - a) / 4 * 3 : Nat) : Int) := sml 3 (by omega) (by omega)
 have n1 : IntKind.i64.wrap ((a : Int) + (((b - a) / 4 * 1 : Nat) : Int)) = ((a + (b - a) / 4 * 1 : Nat) : Int) := sad (by omega) (by omega)
 have n2 : IntKind.i64.wrap ((a : Int) + (((b - a) / 4 * 2 : Nat) : Int)) = ((a + (b - a) / 4 * 2 : Nat) : Int) := sad (by omega) (by omega)
 have n3 : IntKind.i64.wrap ((a : Int) + (((b - a) / 4 * 3 : Nat) : Int)) = ((a + (b - a) / 4 * 3 : Nat) : Int) := sad (by omega) (by omega)
 simp only [g151, w1, w2, m1, m2, m3, n1, n2, n3, bindv, choosePivot]
 have z : ((0 : Nat) : Int) = 0 := rfl
 by_cases h8 : b - a ≥ 8
 ·rw [if_pos (decide_eq_true (by omega)), if_pos h8]
  by_cases h50 : b - a ≥ 50
  ·rw [if_pos (decide_eq_true (by omega)), if_pos h50]
   have p1 := g162_eq c d (a + (b - a) / 4 * 1) 0 (by omega) (by omega) (by omega) hs
   have q1 := medianAdjacent_count (lt := lC c) d (a + (b - a) / 4 * 1) 0
   have r1 := medianAdjacent_mem (lC c) d (a + (b - a) / 4 * 1) 0
   rw [z] at p1
   simp only [p1, Option.bind_some]
   generalize medianAdjacent (lC c) d (a + (b - a) / 4 * 1) 0 = x1 at *
   have p2 := g162_eq c d (a + (b - a) / 4 * 2) x1.2 (by omega) (by omega) (by omega) hs
   have q2 := medianAdjacent_count (lt := lC c) d (a + (b - a) / 4 * 2) x1.2
   have r2 := medianAdjacent_mem (lC c) d (a + (b - a) / 4 * 2) x1.2
   simp only [p2, Option.bind_some]
   generalize medianAdjacent (lC c) d (a + (b - a) / 4 * 2) x1.2 = x2 at *
   have p3 := g162_eq c d (a + (b - a) / 4 * 3) x2.2 (by omega) (by omega) (by omega) hs
   have q3 := medianAdjacent_count (lt := lC c) d (a + (b - a) / 4 * 3) x2.2
   have r3 := medianAdjacent_mem (lC c) d (a + (b - a) / 4 * 3) x2.2
   simp only [p3, Option.bind_some]
   generalize medianAdjacent (lC c) d (a + (b - a) / 4 * 3) x2.2 = x3 at *
   simp only [g151_j1, g163_eq c d x1.1 x2.1 x3.1 x3.2 (by omega) (by omega) (by omega) (by omega), Option.bind_some, g151_j0_eq]
  ·rw [if_neg (by simp; omega), if_neg h50]
   have := g163_eq c d (a + (b - a) / 4 * 1) (a + (b - a) / 4 * 2) (a + (b - a) / 4 * 3) 0 (by omega) (by omega) (by omega) (by omega)
   rw [z] at this
   simp only [g151_j1, this, Option.bind_some, g151_j0_eq]
 ·rw [if_neg (by simp; omega), if_neg h8]
  have := g151_j0_eq (a + (b - a) / 4 * 2) 0
  rw [z] at this
  rw [this]
end Go.Ev
end
section
set_option maxHeartbeats 1000000
set_option maxRecDepth 10000
namespace Go.Ev
open Go.Sort
variable (c : DLease → DLease → Int)
theorem iand_nat (k : IntKind) (a b : Nat) (ha : a < 2 ^ k.bits) (hb : b < 2 ^ k.bits) : iand k (a : Int) (b : Int) = k.wrap ((a &&& b : Nat) : Int) := by
 unfold iand
 rw [BitVec.ofInt_natCast, BitVec.ofInt_natCast, BitVec.toNat_and, BitVec.toNat_ofNat, BitVec.toNat_ofNat, Nat.mod_eq_of_lt ha, Nat.mod_eq_of_lt hb]
theorem ixor_nat (k : IntKind) (a b : Nat) (ha : a < 2 ^ k.bits) (hb : b < 2 ^ k.bits) : ixor k (a : Int) (b : Int) = k.wrap ((a ^^^ b : Nat) : Int) := by
 unfold ixor
 rw [BitVec.ofInt_natCast, BitVec.ofInt_natCast, BitVec.toNat_xor, BitVec.toNat_ofNat, BitVec.toNat_ofNat, Nat.mod_eq_of_lt ha, Nat.mod_eq_of_lt hb]
theorem wi64 {n : Nat} (h : n < 9223372036854775808) : IntKind.i64.wrap (n : Int) = (n : Int) := wr ⟨by omega, by omega⟩
theorem b8_nat (n : Nat) : (b8 (n : Int)).toNat = n % 256 := by
 have := u8_wrap (n : Int)
 unfold b8
 rw [wrap8] at this
 have e : ((u8 (IntKind.u8.wrap (n : Int))).toNat : Int) = (n : Int) % 256 := by rw [wrap8]; exact this
 omega
theorem bl_char {n v : Nat} (h1 : n < 2 ^ v) (h2 : v = 0 ∨ 2 ^ (v - 1) ≤ n) : bitsLen n = v := by
 have a1 := (bitsLen_le_iff n v).2 h1
 rcases h2 with rfl | h2
 ·omega
 ·by_cases hv : v = 0
  ·omega
  ·have a2 : ¬ bitsLen n ≤ v - 1 := fun h => by
    have := (bitsLen_le_iff n (v - 1)).1 h
    omega
   omega
theorem shrK {n : Nat} (k : Nat) (hk : k ≤ 60) (h : n < 18446744073709551616) : ishr .u64 (n : Int) (k : Int) = ((n / 2 ^ k : Nat) : Int) := by
 unfold ishr
 rw [Int.toNat_natCast, show min k 64 = k by omega, Int.fdiv_eq_ediv_of_nonneg _ (by exact_mod_cast Nat.zero_le _)]
 norm_cast
abbrev lenTab : List UInt8 := [0, 1, 2, 2, 3, 3, 3, 3, 4, 4, 4, 4, 4, 4, 4, 4, 5, 5, 5, 5, 5, 5, 5, 5, 5, 5, 5, 5, 5, 5, 5, 5, 6, 6, 6, 6, 6, 6, 6, 6, 6, 6, 6, 6, 6, 6, 6, 6, 6, 6, 6, 6, 6, 6, 6, 6, 6, 6, 6, 6, 6, 6, 6, 6, 7, 7, 7, 7, 7, 7, 7, 7, 7, 7, 7, 7, 7, 7, 7, 7, 7, 7, 7, 7, 7, 7, 7, 7, 7, 7, 7, 7, 7, 7, 7, 7, 7, 7, 7, 7, 7, 7, 7, 7, 7, 7, 7, 7, 7, 7, 7, 7, 7, 7, 7, 7, 7, 7, 7, 7, 7, 7, 7, 7, 7, 7, 7, 7, 8, 8, 8, 8, 8, 8, 8, 8, 8, 8, 8, 8, 8, 8, 8, 8, 8, 8, 8, 8, 8, 8, 8, 8, 8, 8, 8, 8, 8, 8, 8, 8, 8, 8, 8, 8, 8, 8, 8, 8, 8, 8, 8, 8, 8, 8, 8, 8, 8, 8, 8, 8, 8, 8, 8, 8, 8, 8, 8, 8, 8, 8, 8, 8, 8, 8, 8, 8, 8, 8, 8, 8, 8, 8, 8, 8, 8, 8, 8, 8, 8, 8, 8, 8, 8, 8, 8, 8, 8, 8, 8, 8, 8, 8, 8, 8, 8, 8, 8, 8, 8, 8, 8, 8, 8, 8, 8, 8, 8, 8, 8, 8, 8, 8, 8, 8, 8, 8, 8, 8, 8, 8, 8, 8, 8, 8, 8, 8]
theorem lenTab_ok : ∀ x : Fin 256, ∃ v : UInt8, lenTab[x.1]? = some v ∧ x.1 < 2 ^ v.toNat ∧ (v.toNat = 0 ∨ 2 ^ (v.toNat - 1) ≤ x.1) ∧ (x.1 ≠ 0 → v.toNat ≠ 0) ∧ v.toNat ≤ 8 := by decide +kernel
theorem j2_eq (n off : Nat) (ho : off ≤ 16) (hx : n / 2 ^ off < 256) (h0 : off = 0 ∨ n / 2 ^ off ≠ 0) : g157_j2 ((n / 2 ^ off : Nat) : Int) (off : Int) = some ((bitsLen n : Nat) : Int) := by
 obtain ⟨v, v1, v2, v3, v4, v5⟩ := lenTab_ok ⟨n / 2 ^ off, hx⟩
 simp only at v1 v2 v3 v4 v5
 have e : (b8 ((n / 2 ^ off : Nat) : Int)).toNat = n / 2 ^ off := by
  rw [b8_nat]
  generalize n / 2 ^ off = x at hx
  omega
 have e2 : g157_j2 ((n / 2 ^ off : Nat) : Int) (off : Int) = (idx lenTab ((b8 ((n / 2 ^ off : Nat) : Int)).toNat : Int)).bind fun y10 => some (IntKind.i64.wrap ((off : Int) + (IntKind.i64.wrap ((y10).toNat : Int)))) := rfl
 rw [e2, e, idx_nat, v1]
 simp only [Option.bind_some]
 rw [wi64 (by omega), sad (by omega) (by omega)]
 congr 2
 refine (bl_char ?_ ?_).symm
 ·rw [Nat.add_comm, Nat.pow_add]
  exact (Nat.div_lt_iff_lt_mul (Nat.pos_of_ne_zero (by simp))).1 v2
 ·rcases v3 with v3 | v3
  ·rcases h0 with h0 | h0
   ·exact .inl (by omega)
   ·exact absurd v3 (v4 h0)
  ·by_cases hz : v.toNat = 0
   ·rcases h0 with h0 | h0
    ·exact .inl (by omega)
    ·exact absurd hz (v4 h0)
   ·right
    rw [show off + v.toNat - 1 = (v.toNat - 1) + off by omega, Nat.pow_add]
    exact (Nat.le_div_iff_mul_le (Nat.pos_of_ne_zero (by simp))).1 v3
theorem g138_eq (n : Nat) (h : n < 16777216) : g138 (n : Int) = some ((bitsLen n : Nat) : Int) := by
 have key : g157 (n : Int) = some ((bitsLen n : Nat) : Int) := by
  simp only [g157]
  rw [if_neg (by simp; omega)]
  simp only [g157_j0]
  have z : ((0 : Nat) : Int) = 0 := rfl
  by_cases h1 : n ≥ 65536
  ·rw [if_pos (decide_eq_true (by omega))]
   have e1 := shrK (n := n) 16 (by omega) (by omega)
   rw [show ((16 : Nat) : Int) = 16 from rfl] at e1
   simp only [e1, g157_j1]
   rw [if_neg (by simp; omega)]
   have e2 := j2_eq n 16 (by omega) (by omega) (.inr (by omega))
   rw [show ((16 : Nat) : Int) = 16 from rfl] at e2
   rw [← e2, wr ⟨by decide, by decide⟩]; rfl
  ·rw [if_neg (by simp; omega)]
   simp only [g157_j1]
   by_cases h2 : n ≥ 256
   ·rw [if_pos (decide_eq_true (by omega))]
    have e1 := shrK (n := n) 8 (by omega) (by omega)
    rw [show ((8 : Nat) : Int) = 8 from rfl] at e1
    have e2 := j2_eq n 8 (by omega) (by omega) (.inr (by omega))
    rw [show ((8 : Nat) : Int) = 8 from rfl] at e2
    rw [e1, ← e2, wr ⟨by decide, by decide⟩]; rfl
   ·rw [if_neg (by simp; omega)]
    have e2 := j2_eq n 0 (by omega) (by simp; omega) (.inl rfl)
    simp only [Nat.pow_zero, Nat.div_one] at e2
    rw [z] at e2
    exact e2
 simp only [g138, Bool.false_eq_true, if_false, key, Option.bind_some]
end Go.Ev
end
section
set_option maxHeartbeats 1000000
namespace Go.Ev
open Go.Sort
variable (c : DLease → DLease → Int)
theorem wu64 {n : Nat} (h : n < 18446744073709551616) : IntKind.u64.wrap (n : Int) = (n : Int) := by
 have e : IntKind.u64.wrap (n : Int) = (n : Int) % 18446744073709551616 := by simp [IntKind.wrap, IntKind.bits, IntKind.signed]
 rw [e]; omega
theorem wu64m {n : Nat} : IntKind.u64.wrap (n : Int) = ((n % 18446744073709551616 : Nat) : Int) := by
 have e : IntKind.u64.wrap (n : Int) = (n : Int) % 18446744073709551616 := by simp [IntKind.wrap, IntKind.bits, IntKind.signed]
 rw [e]; omega
theorem shlK {n : Nat} (k : Nat) (hk : k ≤ 60) : ishl .u64 (n : Int) (k : Int) = ((n * 2 ^ k % 18446744073709551616 : Nat) : Int) := by
 unfold ishl
 rw [Int.toNat_natCast, show min k IntKind.u64.bits = k from Nat.min_eq_left (Nat.le_trans hk (by decide)), ← wu64m]
 congr 1
theorem xor64 {a b : Nat} (ha : a < 18446744073709551616) (hb : b < 18446744073709551616) : ixor .u64 (a : Int) (b : Int) = ((a ^^^ b : Nat) : Int) ∧ a ^^^ b < 18446744073709551616 := by
 have h := Nat.xor_lt_two_pow (n := 64) (by simpa using ha) (by simpa using hb)
 have h2 : a ^^^ b < 18446744073709551616 := by simpa using h
 rw [ixor_nat .u64 a b (by simpa [IntKind.bits] using ha) (by simpa [IntKind.bits] using hb), wu64 h2]
 exact ⟨rfl, h2⟩
theorem g161_eq (r : UInt64) : g161 (r.toNat : Int) = some (((xorNext r).toNat : Int), ((xorNext r).toNat : Int)) := by
 have hr : r.toNat < 18446744073709551616 := r.toNat_lt
 rw [xorNext_toNat]
 simp only [g161, bindv, xorNextN]
 generalize r.toNat = x at *
 have e1 := shlK (n := x) 13 (by omega)
 rw [show ((13 : Nat) : Int) = 13 from rfl, show (2 : Nat) ^ 13 = 8192 from rfl] at e1
 obtain ⟨e2, e3⟩ := xor64 hr (show x * 8192 % 18446744073709551616 < 18446744073709551616 by omega)
 rw [e1, e2]
 generalize x ^^^ (x * 8192 % 18446744073709551616) = a at *
 have e4 := shrK (n := a) 7 (by omega) e3
 rw [show ((7 : Nat) : Int) = 7 from rfl, show (2 : Nat) ^ 7 = 128 from rfl] at e4
 obtain ⟨e5, e6⟩ := xor64 e3 (show a / 128 < 18446744073709551616 by omega)
 rw [e4, e5]
 generalize a ^^^ (a / 128) = b at *
 have e7 := shlK (n := b) 17 (by omega)
 rw [show ((17 : Nat) : Int) = 17 from rfl, show (2 : Nat) ^ 17 = 131072 from rfl] at e7
 obtain ⟨e8, e9⟩ := xor64 e6 (show b * 131072 % 18446744073709551616 < 18446744073709551616 by omega)
 rw [e7, e8]
theorem g160_eq (n : Nat) (h : n ≤ 1048576) : g160 (n : Int) = some ((1 <<< bitsLen n : Nat) : Int) ∧ 1 <<< bitsLen n ≤ 2097152 := by
 have hb : bitsLen n ≤ 21 := (bitsLen_le_iff n 21).2 (by omega)
 have hp : 2 ^ bitsLen n ≤ 2 ^ 21 := Nat.pow_le_pow_right (by omega) hb
 have e := shlK (n := 1) (bitsLen n) (by omega)
 rw [Nat.one_mul, Nat.mod_eq_of_lt (by omega)] at e
 rw [Nat.one_shiftLeft]
 refine ⟨?_, by omega⟩
 simp only [g160, wu64 (show n < 18446744073709551616 by omega), g138_eq n (by omega), Option.bind_some]
 rw [if_pos (by omega)]
 rw [show ((1 : Nat) : Int) = 1 from rfl] at e
 rw [e]
def brk (a len m : Nat) : Nat → UInt64 × Array DLease → Nat → Array DLease
 | 0, st, _ => st.2
 | n + 1, st, i => brk a len m n (breakStep a len m st i) (i + 1)
theorem brk_size (a len m : Nat) : ∀ (n : Nat) (st : UInt64 × Array DLease) (i : Nat), (brk a len m n st i).size = st.2.size
 | 0, _, _ => rfl
 | n + 1, st, i => by rw [brk, brk_size]; simp [breakStep, size_swp]
theorem breakPatterns_brk (d : Array DLease) (a b : Nat) (h : b - a ≥ 8) :
  breakPatterns d a b = brk a (b - a) (1 <<< bitsLen (b - a)) 3 (UInt64.ofNat (b - a), d) (a + ((b - a) / 4) * 2 - 1) := by
 simp only [breakPatterns, if_pos h, brk]
theorem g150_eq (d : Array DLease) (a b : Nat) (hb : b ≤ d.size) (hs : d.size ≤ 1048576) (hab : a < b) :
  g150 d.toList (a : Int) (b : Int) (fC c) = some (breakPatterns d a b).toList ∧ (breakPatterns d a b).size = d.size := by
 have w1 : IntKind.i64.wrap ((b : Int) - (a : Int)) = ((b - a : Nat) : Int) := ssb (by omega) (by omega)
 by_cases h8 : b - a ≥ 8
 ·refine ⟨?_, by rw [breakPatterns_brk d a b h8, brk_size]⟩
  have w2 : IntKind.i64.wrap (((b - a : Nat) : Int).tdiv 4) = (((b - a) / 4 : Nat) : Int) := sdv 4 (by omega)
  have m2 : IntKind.i64.wrap ((((b - a) / 4 : Nat) : Int) * 2) = (((b - a) / 4 * 2 : Nat) : Int) := sml 2 (by omega) (by omega)
  have n2 : IntKind.i64.wrap ((a : Int) + (((b - a) / 4 * 2 : Nat) : Int)) = ((a + (b - a) / 4 * 2 : Nat) : Int) := sad (by omega) (by omega)
  have n3 : IntKind.i64.wrap (((a + (b - a) / 4 * 2 : Nat) : Int) - 1) = ((a + (b - a) / 4 * 2 - 1 : Nat) : Int) := sm1 (by omega) (by omega)
  have n4 : IntKind.i64.wrap (((a + (b - a) / 4 * 2 : Nat) : Int) + 1) = ((a + (b - a) / 4 * 2 + 1 : Nat) : Int) := sp1 (by omega)
  obtain ⟨p1, p2⟩ := g160_eq (b - a) (by omega)
  have p3 : 1 <<< bitsLen (b - a) ≤ 2 * (b - a) := by rw [Nat.one_shiftLeft]; exact two_pow_bitsLen_le (by omega)
  have p4 : 1 ≤ 1 <<< bitsLen (b - a) := by rw [Nat.one_shiftLeft]; exact Nat.one_le_two_pow
  rw [breakPatterns_brk d a b h8]
  simp only [g150, w1, w2, m2, n2, n3, bindv]
  rw [if_pos (decide_eq_true (by omega)), p1]
  simp only [Option.bind_some, wu64 (show b - a < 18446744073709551616 by omega)]
  generalize 1 <<< bitsLen (b - a) = m at *
  have L := iterE (step := g150_l0 (a : Int) (b : Int) (m : Int)) (fun t : (Array DLease × UInt64) × Nat => (t.1.1.toList, ((a + (b - a) / 4 * 2 - 1 + (3 - t.2) : Nat) : Int), (t.1.2.toNat : Int))) (fun t => t.1.1.size = d.size ∧ t.2 ≤ 3) (fun t => t.2)
   (fun t => (brk a (b - a) m t.2 (t.1.2, t.1.1) (a + (b - a) / 4 * 2 - 1 + (3 - t.2))).toList) (by
   rintro ⟨⟨e, r⟩, n⟩ ⟨he, hn⟩
   simp only at he hn
   simp only [g150_l0, w1, w2, m2, n2, n4, bindv]
   cases n with
   | zero =>
    rw [if_neg (by simp; omega)]
    exact .inr rfl
   | succ n =>
    rw [if_pos (decide_eq_true (by omega)), g161_eq]
    simp only [Option.bind_some]
    have k1 : IntKind.u64.wrap ((m : Int) - 1) = ((m - 1 : Nat) : Int) := by
     rw [show (m : Int) - 1 = ((m - 1 : Nat) : Int) by omega, wu64 (by omega)]
    have hr : (xorNext r).toNat < 18446744073709551616 := (xorNext r).toNat_lt
    have hx : (xorNext r).toNat &&& (m - 1) ≤ m - 1 := Nat.and_le_right
    have k2 : iand .u64 ((xorNext r).toNat : Int) ((m - 1 : Nat) : Int) = (((xorNext r).toNat &&& (m - 1) : Nat) : Int) := by
     rw [iand_nat .u64 _ _ (by simpa [IntKind.bits] using hr) (by simp [IntKind.bits]; omega), wu64 (by omega)]
    rw [k1, k2, wi64 (by omega)]
    have i1 : a + (b - a) / 4 * 2 - 1 + (3 - (n + 1)) < e.size := by omega
    have hj : ∀ o : Nat, o < b - a → (if (xorNext r).toNat &&& (m - 1) ≥ b - a then ((xorNext r).toNat &&& (m - 1)) - (b - a) else (xorNext r).toNat &&& (m - 1)) = o →
      g150_j0 (a : Int) e.toList ((a + (b - a) / 4 * 2 - 1 + (3 - (n + 1)) : Nat) : Int) (((xorNext r).toNat : Int), ((xorNext r).toNat : Int)) (o : Int) =
       some (.inl ((breakStep a (b - a) m (r, e) (a + (b - a) / 4 * 2 - 1 + (3 - (n + 1)))).2.toList, ((a + (b - a) / 4 * 2 - 1 + (3 - n) : Nat) : Int), (((breakStep a (b - a) m (r, e) (a + (b - a) / 4 * 2 - 1 + (3 - (n + 1)))).1.toNat : Nat) : Int))) := by
     intro o ho heq
     have i2 : a + o < e.size := by omega
     have i3 : a + o < (e.setIfInBounds (a + (b - a) / 4 * 2 - 1 + (3 - (n + 1))) e[a + o]!).size := by simpa using i2
     simp only [g150_j0, sad (show a ≤ 2305843009213693952 by omega) (show o ≤ 2305843009213693952 by omega), ixA i1, ixA i2, Int.toNat_natCast, gtA i1, gtA i2, Option.bind_some, stA, ixA i3, gtA i3, swA, breakStep, heq, sp1 (show a + (b - a) / 4 * 2 - 1 + (3 - (n + 1)) ≤ 4611686018427387904 by omega)]
     rw [show a + (b - a) / 4 * 2 - 1 + (3 - (n + 1)) + 1 = a + (b - a) / 4 * 2 - 1 + (3 - n) by omega]
    refine .inl ⟨(((breakStep a (b - a) m (r, e) (a + (b - a) / 4 * 2 - 1 + (3 - (n + 1)))).2, (breakStep a (b - a) m (r, e) (a + (b - a) / 4 * 2 - 1 + (3 - (n + 1)))).1), n), ?_, ⟨by simp [breakStep, size_swp, he], by simp only; omega⟩, ?_, by simp⟩
    ·by_cases hge : (xorNext r).toNat &&& (m - 1) ≥ b - a
     ·rw [if_pos (decide_eq_true (by omega)), ssb (by omega) (by omega)]
      exact hj _ (by omega) (by rw [if_pos hge])
     ·rw [if_neg (by simpa using hge)]
      exact hj _ (by omega) (by rw [if_neg hge])
    ·simp only [brk]
     rw [show a + (b - a) / 4 * 2 - 1 + (3 - (n + 1)) + 1 = a + (b - a) / 4 * 2 - 1 + (3 - n) by omega]) ((d, UInt64.ofNat (b - a)), 3) ⟨rfl, Nat.le_refl _⟩
  simp only [Nat.sub_self, Nat.add_zero] at L
  rw [show ((UInt64.ofNat (b - a)).toNat : Int) = ((b - a : Nat) : Int) by rw [UInt64.toNat_ofNat']; rw [Nat.mod_eq_of_lt (by omega)]] at L
  rw [L]
  rfl
 ·simp only [g150, w1]
  rw [if_neg (by simp; omega)]
  simp [breakPatterns, h8]
end Go.Ev
end
section
set_option maxHeartbeats 1000000
namespace Go.Ev
open Go.Sort
variable (c : DLease → DLease → Int)
theorem insOuter_size (a b : Nat) : ∀ (n i : Nat) (d : Array DLease), b - i ≤ n → (insOuter (lC c) a b i d).size = d.size
 | 0, i, d, h => by unfold insOuter; rw [if_neg (by omega)]
 | n + 1, i, d, h => by
  unfold insOuter
  split
  ·rw [insOuter_size a b n _ _ (by omega), insInner_size]
  ·rfl
theorem insertionSort_size (d : Array DLease) (a b : Nat) : (insertionSort (lC c) d a b).size = d.size := insOuter_size c a b _ _ d (Nat.le_refl _)
theorem heapSort_size (d : Array DLease) (a b : Nat) : (heapSort (lC c) d a b).size = d.size := by rw [heapSort, heapPop_size, heapBuild_size]
theorem breakPatterns_size (d : Array DLease) (a b : Nat) : (breakPatterns d a b).size = d.size := by
 by_cases h : b - a ≥ 8
 ·rw [breakPatterns_brk d a b h, brk_size]
 ·simp [breakPatterns, h]
theorem reverseRange_size (d : Array DLease) (a b : Nat) : (reverseRange d a b).size = d.size := reverseLoop_size _ _ _ d (Nat.le_refl _)
theorem partialIS_size (d : Array DLease) (a b : Nat) : (partialInsertionSort (lC c) d a b).1.size = d.size := partialIns_size c a b _ _ d
theorem partEq_size (d : Array DLease) (a b p : Nat) : (partitionEqual (lC c) d a b p).2.size = d.size := by rw [partitionEqual, partEqLoop_size c a _ _ _ _ (Nat.le_refl _), size_swp]
theorem part_size (d : Array DLease) (a b p : Nat) : (partition (lC c) d a b p).2.2.size = d.size := by
 rw [partition_arr, size_swp, (partLoop_size c a _ _ _ _ (Nat.le_refl _)).1, size_swp]
theorem part_range (d : Array DLease) (a b p : Nat) (hab : a < b) (hb : b ≤ d.size) : a ≤ (partition (lC c) d a b p).1 ∧ (partition (lC c) d a b p).1 < b := by
 rw [partition_fst]
 obtain ⟨r1, r2, _⟩ := partLoop_spec (lC c) a b _ (a + 1) (b - 1) (swp d a p) (Nat.le_refl _) (Nat.lt_succ_self a) (by omega) (by omega) (by rw [size_swp]; exact hb) (fun t h1 h2 => by omega) (fun t h1 h2 => by omega)
 exact ⟨r1, r2⟩
theorem partEq_range (d : Array DLease) (a b p : Nat) (hab : a < b) (hb : b ≤ d.size) : a < (partitionEqual (lC c) d a b p).1 ∧ (partitionEqual (lC c) d a b p).1 ≤ b := by
 rw [partitionEqual]
 obtain ⟨r1, r2, _⟩ := partEqLoop_spec (lC c) a b _ (a + 1) (b - 1) (swp d a p) (Nat.le_refl _) (Nat.lt_succ_self a) (by omega) (by omega) (by rw [size_swp]; exact hb) (fun t h1 h2 => by omega) (fun t h1 h2 => by omega)
 exact ⟨r1, r2⟩
def restP (d3 : Array DLease) (a b limit p : Nat) (wb wp : Bool) : Array DLease × Nat × Nat × Nat × Bool × Bool :=
 if (decide (a > 0) && !lC c d3[a - 1]! d3[p]!) = true then ((partitionEqual (lC c) d3 a b p).2, (partitionEqual (lC c) d3 a b p).1, b, limit, wb, wp)
 else
  let r := partition (lC c) d3 a b p
  if r.1 - a < b - r.1 then (pdq (lC c) r.2.2 a r.1 limit true true, r.1 + 1, b, limit, decide (r.1 - a ≥ (b - a) / 8), r.2.1)
  else (pdq (lC c) r.2.2 (r.1 + 1) b limit true true, a, r.1, limit, decide (b - r.1 ≥ (b - a) / 8), r.2.1)
abbrev pdqT (t : Array DLease × Nat × Nat × Nat × Bool × Bool) : Array DLease := pdq (lC c) t.1 t.2.1 t.2.2.1 t.2.2.2.1 t.2.2.2.2.1 t.2.2.2.2.2
theorem pdq_round (d : Array DLease) (a b limit : Nat) (wb wp : Bool) (h12 : ¬ b - a ≤ 12) (hl : limit ≠ 0) (hb : b ≤ d.size) :
  ∃ d1 d2 : Array DLease, ∃ lim p : Nat, ∃ h : Hint, d1 = (if (!wb) = true then breakPatterns d a b else d) ∧ lim = (if (!wb) = true then limit - 1 else limit) ∧
   d2 = (if (choosePivot (lC c) d1 a b).2 = .decreasing then reverseRange d1 a b else d1) ∧ p = (if (choosePivot (lC c) d1 a b).2 = .decreasing then (b - 1) - ((choosePivot (lC c) d1 a b).1 - a) else (choosePivot (lC c) d1 a b).1) ∧
   h = (if (choosePivot (lC c) d1 a b).2 = .decreasing then Hint.increasing else (choosePivot (lC c) d1 a b).2) ∧
   pdq (lC c) d a b limit wb wp = (if (wb && wp && decide (h = .increasing)) = true then (if (partialInsertionSort (lC c) d2 a b).2 = true then (partialInsertionSort (lC c) d2 a b).1 else pdqT c (restP c (partialInsertionSort (lC c) d2 a b).1 a b lim p wb wp)) else pdqT c (restP c d2 a b lim p wb wp)) := by
 refine ⟨_, _, _, _, _, rfl, rfl, rfl, rfl, rfl, ?_⟩
 have z1 : (if (!wb) = true then breakPatterns d a b else d).size = d.size := by split <;> simp [breakPatterns_size]
 conv => lhs; unfold pdq
 rw [if_neg h12, if_neg hl]
 simp only []
 generalize hd1 : (if (!wb) = true then breakPatterns d a b else d) = d1 at z1 ⊢
 generalize (if (!wb) = true then limit - 1 else limit) = lim
 have z2 : (if (choosePivot (lC c) d1 a b).2 = .decreasing then reverseRange d1 a b else d1).size = d.size := by split <;> simp [reverseRange_size, z1]
 generalize (if (choosePivot (lC c) d1 a b).2 = .decreasing then reverseRange d1 a b else d1) = d2 at z2 ⊢
 generalize (if (choosePivot (lC c) d1 a b).2 = .decreasing then (b - 1) - ((choosePivot (lC c) d1 a b).1 - a) else (choosePivot (lC c) d1 a b).1) = p
 generalize (if (choosePivot (lC c) d1 a b).2 = .decreasing then Hint.increasing else (choosePivot (lC c) d1 a b).2) = h
 have key : ∀ d3 : Array DLease, b ≤ d3.size → (if (decide (a > 0) && !lC c d3[a - 1]! d3[p]!) = true then
   match partitionEqual (lC c) d3 a b p with
   | (mid, d4) => if _h : a < mid ∧ mid ≤ b then pdq (lC c) d4 mid b lim wb wp else d4
  else
   match partition (lC c) d3 a b p with
   | (mid, alreadyPartitioned, d4) =>
    if _h : a ≤ mid ∧ mid < b then
     if mid - a < b - mid then
      pdq (lC c) (pdq (lC c) d4 a mid lim true true) (mid + 1) b lim (decide (mid - a ≥ (b - a) / 8)) alreadyPartitioned
     else
      pdq (lC c) (pdq (lC c) d4 (mid + 1) b lim true true) a mid lim (decide (b - mid ≥ (b - a) / 8)) alreadyPartitioned
    else d4) = pdqT c (restP c d3 a b lim p wb wp) := by
  intro d3 hd3
  have r1 := part_range c d3 a b p (by omega) hd3
  have r2 := partEq_range c d3 a b p (by omega) hd3
  unfold restP
  split
  ·generalize partitionEqual (lC c) d3 a b p = r at r2 ⊢
   obtain ⟨m, d4⟩ := r
   exact dif_pos r2
  ·generalize partition (lC c) d3 a b p = r at r1 ⊢
   obtain ⟨m, q, d4⟩ := r
   refine (dif_pos r1).trans ?_
   simp only []
   split <;> rfl
 by_cases hw : (wb && wp && decide (h = .increasing)) = true
 ·rw [if_pos hw, if_pos hw]
  split
  ·rfl
  ·exact key _ (by rw [partialIS_size]; omega)
 ·rw [if_neg hw, if_neg hw, if_neg (by simp)]
  exact key d2 (by omega)
theorem restP_facts (d3 : Array DLease) (a b limit p : Nat) (wb wp : Bool) (hab : a < b) (hb : b ≤ d3.size) (hsz : ∀ (e : Array DLease) x y, y - x < b - a → y ≤ e.size → (pdq (lC c) e x y limit true true).size = e.size) :
  (restP c d3 a b limit p wb wp).1.size = d3.size ∧ (restP c d3 a b limit p wb wp).2.1 ≤ (restP c d3 a b limit p wb wp).2.2.1 ∧ (restP c d3 a b limit p wb wp).2.2.1 ≤ d3.size ∧
   (restP c d3 a b limit p wb wp).2.2.1 - (restP c d3 a b limit p wb wp).2.1 < b - a ∧ (restP c d3 a b limit p wb wp).2.2.2.1 = limit := by
 have r1 := part_range c d3 a b p hab hb
 have r2 := partEq_range c d3 a b p hab hb
 unfold restP
 split
 ·exact ⟨partEq_size c _ _ _ _, r2.2, hb, by simp only; omega, rfl⟩
 ·simp only []
  split
  ·exact ⟨by rw [hsz _ _ _ (by omega) (by rw [part_size]; omega), part_size], by simp only; omega, hb, by simp only; omega, rfl⟩
  ·exact ⟨by rw [hsz _ _ _ (by omega) (by rw [part_size]; omega), part_size], by simp only; omega, by simp only; omega, by simp only; omega, rfl⟩
theorem pdq_size : ∀ (n : Nat) (d : Array DLease) (a b limit : Nat) (wb wp : Bool), b - a ≤ n → b ≤ d.size → (pdq (lC c) d a b limit wb wp).size = d.size := by
 intro n
 induction n with
 | zero =>
  intro d a b limit wb wp hn hb
  unfold pdq
  rw [if_pos (by omega), insertionSort_size]
 | succ n ih =>
  intro d a b limit wb wp hn hb
  by_cases h12 : b - a ≤ 12
  ·unfold pdq
   rw [if_pos h12, insertionSort_size]
  ·by_cases hl : limit = 0
   ·unfold pdq
    rw [if_neg h12, if_pos hl, heapSort_size]
   ·obtain ⟨d1, d2, lim, p, h, e1, e2, e3, e4, e5, e6⟩ := pdq_round c d a b limit wb wp h12 hl hb
    have z1 : d1.size = d.size := by rw [e1]; split <;> simp [breakPatterns_size]
    have z2 : d2.size = d.size := by rw [e3]; split <;> simp [reverseRange_size, z1]
    have key : ∀ d3 : Array DLease, d3.size = d.size → (pdqT c (restP c d3 a b lim p wb wp)).size = d.size := by
     intro d3 z3
     obtain ⟨f1, f2, f3, f4, f5⟩ := restP_facts c d3 a b lim p wb wp (by omega) (by omega) (fun e x y h1 h2 => ih e x y lim true true (by omega) h2)
     rw [pdqT, ih _ _ _ _ _ _ (by omega) (by omega), f1, z3]
    rw [e6]
    split
    ·split
     ·rw [partialIS_size, z2]
     ·exact key _ (by rw [partialIS_size, z2])
    ·exact key _ z2
end Go.Ev
end
section
set_option maxHeartbeats 1000000
namespace Go.Ev
open Go.Sort
variable (c : DLease → DLease → Int)
abbrev pemb (t : Array DLease × Nat × Nat × Nat × Bool × Bool) : List DLease × Int × Int × Int × Bool × Bool := (t.1.toList, (t.2.1 : Int), (t.2.2.1 : Int), (t.2.2.2.1 : Int), t.2.2.2.2.1, t.2.2.2.2.2)
abbrev RecOK (n : Nat) (rc : List DLease → Int → Int → Int → (DLease → DLease → Option Int) → Option (List DLease)) : Prop :=
 ∀ (e : Array DLease) (x y lim : Nat), x ≤ y → y ≤ e.size → e.size ≤ 1048576 → y - x ≤ n + 12 → lim ≤ 64 → rc e.toList (x : Int) (y : Int) (lim : Int) (fC c) = some (pdq (lC c) e x y lim true true).toList
theorem g137_j2_eq {n : Nat} {rc} (hrc : RecOK c n rc) (d3 : Array DLease) (a b lim p : Nat) (wb wp : Bool) (hab : a + 12 < b) (hb : b ≤ d3.size) (hs : d3.size ≤ 1048576) (hp : a ≤ p) (hpb : p < b) (hn : b - a ≤ n + 13) (hl : lim ≤ 64) :
  g137_j2 (fC c) rc (a : Int) (b : Int) wb wp (lim : Int) (p : Int) d3.toList = some (.inl (pemb (restP c d3 a b lim p wb wp))) := by
 have i2 : p < d3.size := by omega
 have hpart : (decide (a > 0) && !lC c d3[a - 1]! d3[p]!) = false → (g155 d3.toList (a : Int) (b : Int) (p : Int) (fC c)).bind (fun r180 =>
   if r180.2.2.length = d3.toList.length then
    bindv ((decide ((IntKind.i64.wrap (r180.1 - (a : Int))) < (IntKind.i64.wrap ((b : Int) - r180.1))))) fun v183 =>
    if v183 = true then
    bindv ((decide ((IntKind.i64.wrap (r180.1 - (a : Int))) ≥ (IntKind.i64.wrap (((IntKind.i64.wrap ((b : Int) - (a : Int)))).tdiv 8))))) fun v186 =>
    (rc r180.2.2 (a : Int) r180.1 (lim : Int) (fC c)).bind fun r188 =>
    if r188.length = r180.2.2.length then
    some (.inl (r188, (IntKind.i64.wrap (r180.1 + 1)), (b : Int), (lim : Int), v186, r180.2.1))
    else none
    else
    bindv ((decide ((IntKind.i64.wrap ((b : Int) - r180.1)) ≥ (IntKind.i64.wrap (((IntKind.i64.wrap ((b : Int) - (a : Int)))).tdiv 8))))) fun v191 =>
    (rc r180.2.2 (IntKind.i64.wrap (r180.1 + 1)) (b : Int) (lim : Int) (fC c)).bind fun r193 =>
    if r193.length = r180.2.2.length then
    some (.inl (r193, (a : Int), r180.1, (lim : Int), v191, r180.2.1))
    else none
   else none : _ → Option ((List DLease × Int × Int × Int × Bool × Bool) ⊕ List DLease)) = some (.inl (pemb (restP c d3 a b lim p wb wp))) := by
  intro hc
  have r1 := part_range c d3 a b p (by omega) hb
  have r2 := part_size c d3 a b p
  rw [(g155_eq c d3 a b p hb hs (by omega) hpb).1]
  unfold restP
  rw [if_neg (by rw [hc]; simp)]
  simp only [Option.bind_some]
  generalize partition (lC c) d3 a b p = r at *
  obtain ⟨m, q, d4⟩ := r
  simp only at r1 r2 ⊢
  rw [if_pos (by simp [r2])]
  have w1 : IntKind.i64.wrap ((m : Int) - (a : Int)) = ((m - a : Nat) : Int) := ssb (by omega) (by omega)
  have w2 : IntKind.i64.wrap ((b : Int) - (m : Int)) = ((b - m : Nat) : Int) := ssb (by omega) (by omega)
  have w3 : IntKind.i64.wrap ((b : Int) - (a : Int)) = ((b - a : Nat) : Int) := ssb (by omega) (by omega)
  have w4 : IntKind.i64.wrap (((b - a : Nat) : Int).tdiv 8) = (((b - a) / 8 : Nat) : Int) := sdv 8 (by omega)
  simp only [w1, w2, w3, w4, bindv]
  by_cases h : m - a < b - m
  ·rw [if_pos (decide_eq_true (by omega)), if_pos h, hrc d4 a m lim (by omega) (by omega) (by omega) (by omega) hl]
   simp only [Option.bind_some, sp1 (show m ≤ 4611686018427387904 by omega)]
   rw [if_pos (by have := pdq_size c _ d4 a m lim true true (Nat.le_refl _) (by omega); simpa using this)]
   have hdec : decide (((m - a : Nat) : Int) ≥ (((b - a) / 8 : Nat) : Int)) = decide (m - a ≥ (b - a) / 8) := decide_eq_decide.2 ⟨fun h => Int.ofNat_le.1 h, fun h => Int.ofNat_le.2 h⟩
   rw [hdec]
  ·rw [if_neg (by simp; omega), if_neg h, sp1 (show m ≤ 4611686018427387904 by omega), hrc d4 (m + 1) b lim (by omega) (by omega) (by omega) (by omega) hl]
   simp only [Option.bind_some]
   rw [if_pos (by have := pdq_size c _ d4 (m + 1) b lim true true (Nat.le_refl _) (by omega); simpa using this)]
   have hdec : decide (((b - m : Nat) : Int) ≥ (((b - a) / 8 : Nat) : Int)) = decide (b - m ≥ (b - a) / 8) := decide_eq_decide.2 ⟨fun h => Int.ofNat_le.1 h, fun h => Int.ofNat_le.2 h⟩
   rw [hdec]
 simp only [g137_j2]
 by_cases ha : 0 < a
 ·have i1 : a - 1 < d3.size := by omega
  have e1 : decide ((a : Int) > 0) = true := decide_eq_true (by omega)
  simp only [e1, beq_self_eq_true, if_true, sm1 (show a ≤ 4611686018427387904 by omega) ha, ixA i1, ixA i2, Int.toNat_natCast, gtA i1, gtA i2, Option.bind_some, cond_true]
  by_cases h : c d3[a - 1]! d3[p]! < 0
  ·rw [if_neg (by simpa using h)]
   exact hpart (by simp [h])
  ·rw [if_pos (by simpa using h), (g154_eq c d3 a b p hb hs (by omega) hpb).1]
   have z := partEq_size c d3 a b p
   simp only [Option.bind_some]
   rw [if_pos (by simpa using z)]
   unfold restP
   rw [if_pos (by simp [ha]; omega)]
 ·have e1 : decide ((a : Int) > 0) = false := decide_eq_false (by omega)
  simp only [e1, show (false == true) = false from rfl, Bool.false_eq_true, if_false, Option.bind_some, cond_false]
  exact hpart (by simp [ha])
theorem hint_two (h : Hint) : (hintN h == 2) = decide (h = .decreasing) := by cases h <;> rfl
theorem hint_one (h : Hint) : (hintN h == 1) = decide (h = .increasing) := by cases h <;> rfl
theorem g137_j1_eq {n : Nat} {rc} (hrc : RecOK c n rc) (d2 : Array DLease) (a b lim p : Nat) (h : Hint) (wb wp : Bool) (hab : a + 12 < b) (hb : b ≤ d2.size) (hs : d2.size ≤ 1048576) (hp : a ≤ p) (hpb : p < b) (hn : b - a ≤ n + 13) (hl : lim ≤ 64) :
  g137_j1 (fC c) rc (a : Int) (b : Int) wb wp (lim : Int) d2.toList (p : Int) (hintN h) =
   (if (wb && wp && decide (h = .increasing)) = true then (if (partialInsertionSort (lC c) d2 a b).2 = true then some (.inr (partialInsertionSort (lC c) d2 a b).1.toList) else some (.inl (pemb (restP c (partialInsertionSort (lC c) d2 a b).1 a b lim p wb wp)))) else some (.inl (pemb (restP c d2 a b lim p wb wp)))) := by
 have e : (bif (bif wb then wp else false) then (hintN h == 1) else false) = (wb && wp && decide (h = .increasing)) := by rw [hint_one]; cases wb <;> cases wp <;> rfl
 simp only [g137_j1, e]
 by_cases hw : (wb && wp && decide (h = .increasing)) = true
 ·rw [if_pos hw, if_pos hw, g153_eq c d2 a b hb hs (by omega)]
  have z := partialIS_size c d2 a b
  simp only [Option.bind_some]
  rw [if_pos (by simpa using z)]
  by_cases hi : (partialInsertionSort (lC c) d2 a b).2 = true
  ·rw [if_pos hi, if_pos hi]
  ·rw [if_neg hi, if_neg hi]
   exact g137_j2_eq c hrc _ a b lim p wb wp hab (by omega) (by omega) hp hpb hn hl
 ·rw [if_neg hw, if_neg hw]
  exact g137_j2_eq c hrc _ a b lim p wb wp hab (by omega) (by omega) hp hpb hn hl
theorem g137_step {n : Nat} {rc} (hrc : RecOK c n rc) (d : Array DLease) (a b limit : Nat) (wb wp : Bool) (hab : a ≤ b) (hb : b ≤ d.size) (hs : d.size ≤ 1048576) (hn : b - a ≤ n + 13) (hl : limit ≤ 64) :
  (∃ t : Array DLease × Nat × Nat × Nat × Bool × Bool, g137_l0 (fC c) rc (d.toList, (a : Int), (b : Int), (limit : Int), wb, wp) = some (.inl (pemb t)) ∧
   (t.1.size = d.size ∧ t.2.1 ≤ t.2.2.1 ∧ t.2.2.1 ≤ d.size ∧ t.2.2.1 - t.2.1 < b - a ∧ t.2.2.2.1 ≤ 64) ∧ pdqT c t = pdq (lC c) d a b limit wb wp) ∨
  g137_l0 (fC c) rc (d.toList, (a : Int), (b : Int), (limit : Int), wb, wp) = some (.inr (pdq (lC c) d a b limit wb wp).toList) := by
 have w1 : IntKind.i64.wrap ((b : Int) - (a : Int)) = ((b - a : Nat) : Int) := ssb (by omega) (by omega)
 simp only [g137_l0, w1]
 by_cases h12 : b - a ≤ 12
 ·right
  rw [if_pos (decide_eq_true (by omega)), g148_eq c d a b hb hs hab]
  have z := insertionSort_size c d a b
  simp only [Option.bind_some]
  rw [if_pos (by simpa using z)]
  unfold pdq
  rw [if_pos h12]
 ·rw [if_neg (by simp; omega)]
  by_cases h0 : limit = 0
  ·right
   rw [if_pos (by simp [h0]), g149_eq c d a b hb hs (by omega)]
   have z := heapSort_size c d a b
   simp only [Option.bind_some]
   rw [if_pos (by simpa using z)]
   unfold pdq
   rw [if_neg h12, if_pos h0]
  ·rw [if_neg (by simp; omega)]
   obtain ⟨d1, d2, lim, p, h, e1, e2, e3, e4, e5, e6⟩ := pdq_round c d a b limit wb wp h12 h0 hb
   have z1 : d1.size = d.size := by rw [e1]; split <;> simp [breakPatterns_size]
   have z2 : d2.size = d.size := by rw [e3]; split <;> simp [reverseRange_size, z1]
   have hlim : lim ≤ 64 := by rw [e2]; split <;> omega
   have k0 : (if (!wb) = true then (g150 d.toList (a : Int) (b : Int) (fC c)).bind (fun r211 => if r211.length = d.toList.length then g137_j0 (fC c) rc (a : Int) (b : Int) wb wp r211 (IntKind.i64.wrap ((limit : Int) - 1)) else none) else g137_j0 (fC c) rc (a : Int) (b : Int) wb wp d.toList (limit : Int)) = g137_j0 (fC c) rc (a : Int) (b : Int) wb wp d1.toList (lim : Int) := by
    rw [e1, e2]
    by_cases hw : (!wb) = true
    ·rw [if_pos hw, if_pos hw, if_pos hw, (g150_eq c d a b hb hs (by omega)).1]
     simp only [Option.bind_some]
     rw [if_pos (by simp [breakPatterns_size]), sm1 (by omega) (by omega)]
    ·rw [if_neg hw, if_neg hw, if_neg hw]
   rw [k0]
   have cp := choosePivot_holds (lC c) d1 a b (by omega)
   have k1 : g137_j0 (fC c) rc (a : Int) (b : Int) wb wp d1.toList (lim : Int) = g137_j1 (fC c) rc (a : Int) (b : Int) wb wp (lim : Int) d2.toList (p : Int) (hintN h) := by
    simp only [g137_j0]
    rw [g151_eq c d1 a b (by omega) (by omega) (by omega)]
    simp only [Option.bind_some, hint_two]
    rw [e3, e4, e5]
    generalize choosePivot (lC c) d1 a b = r at cp ⊢
    by_cases hd : r.2 = .decreasing
    ·rw [if_pos (decide_eq_true hd), if_pos hd, if_pos hd, if_pos hd, g152_eq c d1 a b (by omega) (by omega) (by omega)]
     simp only [Option.bind_some, bindv]
     rw [if_pos (by simp [reverseRange_size]), sm1 (by omega) (by omega), ssb (show r.1 ≤ 2305843009213693952 by omega) cp.1, ssb (by omega) (by omega)]
     rfl
    ·rw [if_neg (by simpa using hd), if_neg hd, if_neg hd, if_neg hd]
   have hp : a ≤ p ∧ p < b := by rw [e4]; split <;> omega
   rw [k1, g137_j1_eq c hrc d2 a b lim p h wb wp (by omega) (by omega) (by omega) hp.1 hp.2 hn hlim]
   have key : ∀ d3 : Array DLease, d3.size = d.size → pdqT c (restP c d3 a b lim p wb wp) = pdq (lC c) d a b limit wb wp →
     ∃ t : Array DLease × Nat × Nat × Nat × Bool × Bool, (some (.inl (pemb (restP c d3 a b lim p wb wp))) : Option ((List DLease × Int × Int × Int × Bool × Bool) ⊕ List DLease)) = some (.inl (pemb t)) ∧
      (t.1.size = d.size ∧ t.2.1 ≤ t.2.2.1 ∧ t.2.2.1 ≤ d.size ∧ t.2.2.1 - t.2.1 < b - a ∧ t.2.2.2.1 ≤ 64) ∧ pdqT c t = pdq (lC c) d a b limit wb wp := by
    intro d3 z3 ht
    obtain ⟨f1, f2, f3, f4, f5⟩ := restP_facts c d3 a b lim p wb wp (by omega) (by omega) (fun e x y h1 h2 => pdq_size c _ e x y lim true true (Nat.le_refl _) h2)
    exact ⟨_, rfl, ⟨by omega, f2, by omega, f4, by omega⟩, ht⟩
   by_cases hw : (wb && wp && decide (h = .increasing)) = true
   ·rw [if_pos hw] at e6 ⊢
    by_cases hi : (partialInsertionSort (lC c) d2 a b).2 = true
    ·rw [if_pos hi] at e6 ⊢
     right; rw [e6]
    ·rw [if_neg hi] at e6 ⊢
     exact .inl (key _ (by rw [partialIS_size, z2]) e6.symm)
   ·rw [if_neg hw] at e6 ⊢
    exact .inl (key _ z2 e6.symm)
theorem g137_body {n : Nat} {rc} (hrc : RecOK c n rc) : RecOK c (n + 1) (g137_b rc) := by
 intro e x y lim hxy hy hs hn hl
 have L := iterE (step := g137_l0 (fC c) rc) pemb (fun t => t.1.size = e.size ∧ t.2.1 ≤ t.2.2.1 ∧ t.2.2.1 ≤ e.size ∧ t.2.2.1 - t.2.1 ≤ n + 13 ∧ t.2.2.2.1 ≤ 64) (fun t => t.2.2.1 - t.2.1) (fun t => (pdqT c t).toList) (by
  rintro ⟨d, a, b, limit, wb, wp⟩ ⟨h1, h2, h3, h4, h5⟩
  simp only at h1 h2 h3 h4 h5
  rcases g137_step c hrc d a b limit wb wp h2 (by omega) (by omega) h4 h5 with ⟨t, t1, t2, t3⟩ | t1
  ·exact .inl ⟨t, t1, ⟨by omega, t2.2.1, by omega, by omega, t2.2.2.2.2⟩, by rw [t3], t2.2.2.2.1⟩
  ·exact .inr t1) (e, x, y, lim, true, true) ⟨rfl, hxy, hy, hn, hl⟩
 simp only [g137_b]
 have L' : iter (g137_l0 (fC c) rc) (e.toList, (x : Int), (y : Int), (lim : Int), true, true) = some (pdq (lC c) e x y lim true true).toList := L
 rw [L']
 rfl
theorem g137_ok : ∀ n, RecOK c n (g137 (n + 1))
 | 0 => by
  have h : RecOK c 0 (g137_b (g137 0)) := by
   intro e x y lim hxy hy hs hn hl
   have L : iter (g137_l0 (fC c) (g137 0)) (e.toList, (x : Int), (y : Int), (lim : Int), true, true) = some (pdq (lC c) e x y lim true true).toList := by
    refine iter_end ?_
    have w1 : IntKind.i64.wrap ((y : Int) - (x : Int)) = ((y - x : Nat) : Int) := ssb (by omega) (by omega)
    simp only [g137_l0, w1]
    rw [if_pos (decide_eq_true (by omega)), g148_eq c e x y hy hs hxy]
    have z := insertionSort_size c e x y
    simp only [Option.bind_some]
    rw [if_pos (by simpa using z)]
    unfold pdq
    rw [if_pos (by omega)]
   simp only [g137_b, L]
   rfl
  exact h
 | n + 1 => g137_body c (g137_ok n)
theorem g116_eq (l : List DLease) (hl : l.length ≤ 1048576) : g116 l (fC c) = some (Go.Sort.sort (lC c) l.toArray).toList := by
 have hb : bitsLen l.length ≤ 21 := (bitsLen_le_iff _ 21).2 (by omega)
 simp only [g116, wu64 (show l.length < 18446744073709551616 by omega), g138_eq l.length (by omega), Option.bind_some]
 have h := g137_ok c 1048575 l.toArray 0 l.length (bitsLen l.length) (by omega) (by simp) (by simp; omega) (by omega) (by omega)
 rw [show ((0 : Nat) : Int) = 0 from rfl, show l.toArray.toList = l from rfl] at h
 rw [show fuel = 1048575 + 1 from rfl, h]
 have z := pdq_size c _ l.toArray 0 l.length (bitsLen l.length) true true (Nat.le_refl _) (by simp)
 simp only [Option.bind_some]
 rw [if_pos (by simpa using z)]
 rfl
end Go.Ev
end
section
namespace Go.Ev
theorem g56_eq (a b c : Int) : g56 a b c = some (tf (b ≤ a ∧ a ≤ c)) := by
 simp only [g56, dec_tf, bif_and, tf_and, ge_iff_le]
theorem g63_eq (a b c : Int) : g63 a b c = some (tf (b ≤ a ∧ a ≤ c)) := by
 simp only [g63, dec_tf, bif_and, tf_and]
theorem g58_eq (a : Int) : g58 a = some (tf (1 ≤ a ∧ a ≤ 1000000)) := by
 simp only [g58, g63_eq, Option.bind_some]
def TabLease (t : DTable) (k : Nat) (x : DLease) : Prop := (1 ≤ x.id ∧ x.id ≤ t.next - 1) ∧ (∀ y, 0 < k → t.list_[k - 1]? = some y → y.id < x.id) ∧ 0 ≤ x.until_ ∧ x.until_ ≤ x.cap ∧ (x.queued = false → t.clock < x.until_)
def TabOK (t : DTable) : Prop := 0 ≤ t.clock ∧ (1 ≤ t.next ∧ t.next ≤ 1000000) ∧ t.list_.length ≤ 40 ∧ ∀ k x, t.list_[k]? = some x → TabLease t k x
theorem spec_loop (t : DTable) (hn : 1 ≤ t.next ∧ t.next ≤ 1000000) (hl : t.list_.length ≤ 40) :
  iter (g18_l0 t) 0 = some (if tf (∀ k x, t.list_[k]? = some x → TabLease t k x) = true then .inl () else .inr false) := by
 refine iter_all t.list_ _ (fun k hk _ => ?_) ?_
 ·have hw : IntKind.i64.wrap (t.next - 1) = t.next - 1 := wr ⟨by omega, by omega⟩
  have hw2 : IntKind.i64.wrap ((k : Int) - 1) = (k : Int) - 1 := wr ⟨by omega, by omega⟩
  have hw3 : IntKind.i64.wrap ((k : Int) + 1) = ((k + 1 : Nat) : Int) := wr ⟨by omega, by omega⟩
  simp only [g18_l0]
  rw [if_pos (decide_eq_true (by omega)), idx_lt hk]
  generalize hx : t.list_[k] = x
  simp only [Option.bind_some, g56_eq, hw, hw2]
  have hm : 0 < k → idx t.list_ ((k : Int) - 1) = t.list_[k - 1]? := fun h => by
   have : ((k : Int) - 1) = ((k - 1 : Nat) : Int) := by omega
   rw [this, idx_nat]
  obtain ⟨y, h1, h2⟩ := gsome (o := idx t.list_ ((k : Int) - 1)) (g := ((!tf (1 ≤ x.id ∧ x.id ≤ t.next - 1)) == false && decide ((k : Int) > 0) == true)) (fun h => by
   rw [hm (by simp at h; omega)]
   exact ⟨_, List.getElem?_eq_getElem (by omega)⟩)
  rw [h1]
  simp only [Option.bind_some, bindv, hw3]
  refine ⟨_, ?_, rfl⟩
  simp only [dec_tf, bif_or, bif_and, tf_not, tf_and, tf_or, ge_iff_le, gt_iff_lt] at h2 ⊢
  by_cases hk0 : 0 < k
  ·by_cases hr : 1 ≤ x.id ∧ x.id ≤ t.next - 1
   ·have hy : t.list_[k - 1]? = some y := by rw [← hm hk0]; exact h2 (by simp [tf_iff, tf_false, hr]; omega)
    have e3 : (∀ z, 0 < k → t.list_[k - 1]? = some z → z.id < x.id) ↔ y.id < x.id := by
     rw [hy]; exact ⟨fun h => h y hk0 rfl, fun h z _ hz => by cases hz; exact h⟩
    unfold TabLease
    rw [e3]
    cases x.queued <;> simp [tf_iff] <;> omega
   ·have : ¬ TabLease t k x := fun h => hr h.1
    simp [tf_iff, this, hr]
  ·have e3 : (∀ z, 0 < k → t.list_[k - 1]? = some z → z.id < x.id) ↔ True := ⟨fun _ => trivial, fun _ z h => absurd h hk0⟩
   unfold TabLease
   rw [e3]
   cases x.queued <;> simp [tf_iff] <;> omega
 ·simp only [g18_l0]
  rw [if_neg (by simp)]
end Go.Ev
namespace Go.Ev
theorem g18_eq (t : DTable) : g18 t = some (tf (TabOK t)) := by
 simp only [g18, g56_eq]
 obtain ⟨r, h1, h2⟩ := gsome (o := some (tf (1 ≤ t.next ∧ t.next ≤ 1000000))) (g := (decide (t.clock < 0) == false)) (fun _ => ⟨_, rfl⟩)
 rw [h1]
 simp only [Option.bind_some, bindv]
 by_cases hc : t.clock < 0
 ·rw [if_pos (by simp [hc])]
  exact tf_ext (by simp [TabOK]; omega)
 ·have hr : r = tf (1 ≤ t.next ∧ t.next ≤ 1000000) := by simpa [hc, eq_comm] using h2 (by simp [hc])
  subst hr
  by_cases hn : 1 ≤ t.next ∧ t.next ≤ 1000000
  ·by_cases hl : t.list_.length ≤ 40
   ·rw [if_neg (by simp [hc, tf_iff, hn]; omega), spec_loop t hn hl]
    by_cases h : ∀ k x, t.list_[k]? = some x → TabLease t k x
    ·rw [if_tf h]; exact tf_ext (by simp [TabOK, hn, hl]; exact ⟨by omega, h⟩)
    ·rw [if_tfn h]; exact tf_ext ⟨(fun hh => by cases hh), fun hh => absurd hh.2.2.2 h⟩
   ·rw [if_pos (by simp; right; omega)]
    exact tf_ext (by simp [TabOK, hl])
  ·rw [if_pos (by simp [tf_iff, tf_false, hn])]
   exact tf_ext (by simp [TabOK, hn])
theorem g60_eq (t : DTable) (hl : t.list_.length ≤ 1048576) : g60 t = some (t.list_.map DLease.id) := by
 have h := iter_upto (step := g60_l0 t) (fun k => ((t.list_.take k).map DLease.id, (k : Int))) t.list_.length (t.list_.map DLease.id) (fun k hk => by
  have hw3 : IntKind.i64.wrap ((k : Int) + 1) = ((k + 1 : Nat) : Int) := wr ⟨by omega, by omega⟩
  simp only [g60_l0]
  rw [if_pos (decide_eq_true (by omega)), idx_lt hk]
  simp only [Option.bind_some, hw3]
  rw [if_pos (by simp; omega), List.take_succ_eq_append_getElem hk, List.map_append]
  rfl) (by
  simp only [g60_l0]
  rw [if_neg (by simp), List.take_length])
 simp only [g60]
 rw [show ([] : List Int) = (t.list_.take 0).map DLease.id from rfl, show (0 : Int) = ((0 : Nat) : Int) from rfl, h]
 rfl
def Rising (l : List Int) (a b : Int) : Prop := ∀ k x, l[k]? = some x → (a ≤ x ∧ x ≤ b) ∧ ∀ y, 0 < k → l[k - 1]? = some y → y < x
theorem g59_eq (l : List Int) (a b : Int) (hl : l.length ≤ 1048576) : g59 l a b = some (tf (Rising l a b)) := by
 have h : iter (g59_l0 l a b) 0 = some (if tf (Rising l a b) = true then .inl () else .inr false) := by
  refine iter_all l _ (fun k hk _ => ?_) ?_
  ·have hw2 : IntKind.i64.wrap ((k : Int) - 1) = (k : Int) - 1 := wr ⟨by omega, by omega⟩
   have hw3 : IntKind.i64.wrap ((k : Int) + 1) = ((k + 1 : Nat) : Int) := wr ⟨by omega, by omega⟩
   simp only [g59_l0]
   rw [if_pos (decide_eq_true (by omega)), idx_lt hk]
   generalize hx : l[k] = x
   simp only [Option.bind_some, g63_eq, hw2]
   have hm : 0 < k → idx l ((k : Int) - 1) = l[k - 1]? := fun h => by
    have : ((k : Int) - 1) = ((k - 1 : Nat) : Int) := by omega
    rw [this, idx_nat]
   obtain ⟨y, h1, h2⟩ := gsome (o := idx l ((k : Int) - 1)) (g := ((!tf (a ≤ x ∧ x ≤ b)) == false && decide ((k : Int) > 0) == true)) (fun h => by
    rw [hm (by simp at h; omega)]
    exact ⟨_, List.getElem?_eq_getElem (by omega)⟩)
   rw [h1]
   simp only [Option.bind_some, bindv, hw3]
   refine ⟨_, ?_, rfl⟩
   by_cases hr : a ≤ x ∧ x ≤ b
   ·by_cases hk0 : 0 < k
    ·have hy : l[k - 1]? = some y := by rw [← hm hk0]; exact h2 (by simp [tf_iff, hr]; omega)
     have e3 : (∀ z, 0 < k → l[k - 1]? = some z → z < x) ↔ y < x := by
      rw [hy]; exact ⟨fun h => h y hk0 rfl, fun h z _ hz => by cases hz; exact h⟩
     rw [e3]
     simp [hr]; omega
    ·have e3 : (∀ z, 0 < k → l[k - 1]? = some z → z < x) ↔ True := ⟨fun _ => trivial, fun _ z h => absurd h hk0⟩
     rw [e3]
     simp [hr]; omega
   ·have : tf (a ≤ x ∧ x ≤ b) = false := tf_neg hr
    rw [this]; simp [hr]
  ·simp only [g59_l0]
   rw [if_neg (by simp)]
 simp only [g59, h, Option.bind_some]
 split
 ·rename_i e; split at e
  ·rename_i hh; rw [hh]
  ·cases e
 ·rename_i q e; split at e
  ·cases e
  ·rename_i hh; cases e; rw [Bool.not_eq_true] at hh; rw [hh]
theorem g108_eq (l : List DLease) (f : DLease → Option Bool) (p : DLease → Bool) (hf : ∀ x ∈ l, f x = some (p x)) (hl : l.length ≤ 1048576) : ∃ n : Int, g108 l f = some n ∧ (0 ≤ n ↔ ∃ x ∈ l, p x = true) := by
 have hh := iter_first (step := g108_l0 l f) (fun k => (k : Int)) l.length (fun k => ∀ h : k < l.length, p l[k] = false) (fun k => .inr (k : Int)) (.inl ()) (fun k hk _ ho => by
  simp only [g108_l0]
  rw [if_pos (decide_eq_true (by omega)), idx_lt hk]
  simp only [Option.bind_some, hf _ (List.getElem_mem hk), ho hk, wr (n := (k : Int) + 1) ⟨by omega, by omega⟩]
  rfl) (fun k hk _ ho => by
  have : p l[k] = true := Classical.byContradiction fun h => ho fun _ => by simpa using h
  simp only [g108_l0]
  rw [if_pos (decide_eq_true (by omega)), idx_lt hk]
  simp only [Option.bind_some, hf _ (List.getElem_mem hk), this]
  rfl) (fun _ => by
  simp only [g108_l0]
  rw [if_neg (by simp)])
 by_cases h : ∀ k, k < l.length → ∀ h : k < l.length, p l[k] = false
 ·refine ⟨-1, ?_, by simp; intro x hx; obtain ⟨k, hk, rfl⟩ := List.getElem_of_mem hx; exact h k hk hk⟩
  simp only [g108]
  rw [show (0 : Int) = ((0 : Nat) : Int) from rfl, hh.1 h]
  rfl
 ·obtain ⟨k, hk, hj, ho⟩ := least_of h
  refine ⟨k, ?_, ⟨fun _ => ⟨l[k], List.getElem_mem hk, Classical.byContradiction fun h => ho fun _ => by simpa using h⟩, fun _ => by omega⟩⟩
  simp only [g108]
  rw [show (0 : Int) = ((0 : Nat) : Int) from rfl, hh.2 k hk hj ho]
  rfl
theorem g61_eq (l : List DLease) (f : DLease → Option Bool) (p : DLease → Bool) (hf : ∀ x ∈ l, f x = some (p x)) (hl : l.length ≤ 1048576) : g61 l f = some (tf (∀ x ∈ l, p x = true)) := by
 obtain ⟨n, h1, h2⟩ := g108_eq l (fun z => g106 z f) (fun x => !p x) (fun x hx => by simp [g106, hf x hx]) hl
 simp only [g61, g105, h1, Option.bind_some]
 refine tf_ext ?_
 have : (0 ≤ n) ↔ ∃ x ∈ l, (!p x) = true := h2
 simp
 rw [← Int.not_le, this]
 simp
theorem g62_eq (x : DLease) (t : DTable) : g62 x t = some (tf ((0 ≤ x.until_ ∧ x.until_ ≤ x.cap) ∧ (x.queued = false → t.clock < x.until_))) := by
 simp only [g62, g63_eq, Option.bind_some, bindv]
 exact tf_ext (by cases x.queued <;> simp [tf_iff, bif_and])
theorem g20_eq (t : DTable) (hl : t.list_.length ≤ 1048576) (hn : I64 t.next) : g20 t = some (tf (TabOK t)) := by
 simp only [g20, g58_eq, g60_eq t hl]
 obtain ⟨r1, h1, k1⟩ := gsome (o := some (tf (1 ≤ t.next ∧ t.next ≤ 1000000))) (g := (decide (t.clock ≥ 0) == true)) (fun _ => ⟨_, rfl⟩)
 rw [h1]; simp only [Option.bind_some]
 generalize hg : (bif (bif decide (t.clock ≥ 0) then r1 else false) then decide ((t.list_.length : Int) ≤ 40) else false) = b
 have hb : b = true ↔ 0 ≤ t.clock ∧ (1 ≤ t.next ∧ t.next ≤ 1000000) ∧ t.list_.length ≤ 40 := by
  rw [← hg]
  by_cases hc : 0 ≤ t.clock
  ·have := k1 (by simp [hc]); simp only [Option.some.injEq] at this; rw [← this]; simp [hc]; omega
  ·simp [hc]
 obtain ⟨r3, h3, k3⟩ := gsome (o := some (t.list_.map DLease.id)) (g := b == true) (fun _ => ⟨_, rfl⟩)
 rw [h3]; simp only [Option.bind_some]
 obtain ⟨r5, h5, k5⟩ := gsome (o := g59 r3 1 (IntKind.i64.wrap (t.next - 1))) (g := b == true) (fun h => by
  have := k3 h; simp only [Option.some.injEq] at this; rw [← this]
  exact ⟨_, g59_eq _ _ _ (by simpa using hl)⟩)
 rw [h5]; simp only [Option.bind_some]
 obtain ⟨r7, h7, k7⟩ := gsome (o := g61 t.list_ (fun z => g62 z t)) (g := (bif b then r5 else false) == true) (fun h => ⟨_, g61_eq _ _ _ (fun x _ => g62_eq x t) hl⟩)
 rw [h7]; simp only [Option.bind_some, bindv]
 refine tf_ext ?_
 by_cases hbt : b = true
 ·have hbb := hb.1 hbt
  have hw : IntKind.i64.wrap (t.next - 1) = t.next - 1 := wr ⟨by omega, by omega⟩
  have e3 := k3 (by simp [hbt]); simp only [Option.some.injEq] at e3
  have e5 := k5 (by simp [hbt]); rw [← e3, g59_eq _ _ _ (by simpa using hl), hw] at e5; simp only [Option.some.injEq] at e5
  subst hbt
  simp only [cond_true] at k7 ⊢
  by_cases h5t : r5 = true
  ·have e7 := k7 (by simp [h5t]); rw [g61_eq _ _ _ (fun x _ => g62_eq x t) hl] at e7; simp only [Option.some.injEq] at e7
   rw [h5t, ← e7]
   rw [h5t, tf_iff] at e5
   simp only [cond_true, tf_iff, TabOK, hbb, true_and]
   constructor
   ·intro h k x hx
    have h1 := e5 k x.id (by simp [hx])
    have h2 := h x (List.mem_of_getElem? hx)
    exact ⟨h1.1, fun y hk hy => h1.2 y.id hk (by simp [hy]), h2.1.1, h2.1.2, h2.2⟩
   ·intro h x hx
    obtain ⟨k, hk, rfl⟩ := List.getElem_of_mem hx
    have := h k _ (List.getElem?_eq_getElem hk)
    exact ⟨⟨this.2.2.1, this.2.2.2.1⟩, this.2.2.2.2⟩
  ·simp only [Bool.not_eq_true] at h5t
   rw [h5t] at e5 ⊢
   rw [tf_false] at e5
   simp only [cond_false, Bool.false_eq_true, false_iff]
   intro h
   refine e5 fun k x hx => ?_
   simp only [List.getElem?_map, Option.map_eq_some_iff] at hx
   obtain ⟨z, hz, rfl⟩ := hx
   have := h.2.2.2 k z hz
   refine ⟨this.1, fun y hk hy => ?_⟩
   simp only [List.getElem?_map, Option.map_eq_some_iff] at hy
   obtain ⟨u, hu, rfl⟩ := hy
   exact this.2.1 u hk hu
 ·have hbf : b = false := by simpa using hbt
  subst hbf
  simp only [cond_false, Bool.false_eq_true, false_iff]
  intro h
  exact hbt (hb.2 ⟨h.1, h.2.1, h.2.2.1⟩)
end Go.Ev
end
section
namespace Go.Ev
theorem g110_eq (a b : Int) : g110 a b = some (if a < b then -1 else if b < a then 1 else 0) := by
 simp only [g110, g136, Option.bind_some]
 simp
 split
 ·rfl
 ·split <;> rfl
theorem g109_two (a b : Int) : g109 [a, b] = some (if a = 0 then b else a) := by
 have s0 : g109_l0 [a, b] 0 = if (a != 0) = true then some (.inr (.inr a)) else some (.inl 1) := rfl
 have s1 : g109_l0 [a, b] 1 = if (b != 0) = true then some (.inr (.inr b)) else some (.inl 2) := rfl
 have s2 : g109_l0 [a, b] 2 = some (.inr (.inl ())) := rfl
 simp only [g109]
 by_cases ha : a = 0
 ·by_cases hb : b = 0
  ·rw [iter_next (s' := 1) (by rw [s0, if_neg (by simp [ha])]), iter_next (s' := 2) (by rw [s1, if_neg (by simp [hb])]), iter_end (r := .inl ()) s2]
   simp [ha, hb]
  ·rw [iter_next (s' := 1) (by rw [s0, if_neg (by simp [ha])]), iter_end (r := .inr b) (by rw [s1, if_pos (by simp [hb])])]
   simp [ha]
 ·rw [iter_end (r := .inr a) (by rw [s0, if_pos (by simp [ha])])]
  simp [ha]
def lcmp (x y : DLease) : Int := if x.until_ < y.until_ then -1 else if y.until_ < x.until_ then 1 else if x.id < y.id then -1 else if y.id < x.id then 1 else 0
theorem g69_eq (x y : DLease) : g69 x y = some (lcmp x y) := by
 simp only [g69, g110_eq, Option.bind_some, g109_two]
 unfold lcmp
 split
 ·simp
 ·split
  ·simp
  ·simp
theorem lcmp_lt {x y : DLease} : lcmp x y < 0 ↔ x.until_ < y.until_ ∨ (x.until_ = y.until_ ∧ x.id < y.id) := by
 unfold lcmp; split
 ·simp; omega
 ·split
  ·simp; omega
  ·split
   ·simp; omega
   ·split
    ·simp; omega
    ·simp; omega
theorem TabOK.lt {t : DTable} (h : TabOK t) {i j : Nat} (hj : j < t.list_.length) (hij : i < j) : (t.list_[i]'(by omega)).id < t.list_[j].id := by
 induction j with
 | zero => omega
 | succ j ih =>
  have h1 := (h.2.2.2 (j + 1) _ (List.getElem?_eq_getElem hj)).2.1 t.list_[j] (by omega) (by simp [List.getElem?_eq_getElem (show j < t.list_.length by omega)])
  by_cases e : i = j
  ·subst e; exact h1
  ·have := ih (by omega) (by omega); omega
theorem g66_eq (l : List DLease) (h : l.length ≤ 1048576) : g66 l = some l := by
 unfold g66; rw [if_pos (by simp; omega)]
theorem g111_eq (t : DTable) (hl : t.list_.length ≤ 1048576) : g111 t = some t := by
 unfold g111; rw [if_pos (by simp; omega)]; rfl
theorem g112_eq (t : DTable) (hl : t.list_.length ≤ 1048576) : g112 t = some t := by
 simp [g112, g66_eq _ hl]
end Go.Ev
end
section
set_option maxHeartbeats 1000000
namespace Go.Ev
open Go.Sort
theorem swo_lcmp : SWO (lC lcmp) where
 irrefl x := by simp only [lC, decide_eq_false_iff_not, lcmp_lt]; omega
 trans x y z := by simp only [lC, decide_eq_true_eq, lcmp_lt]; omega
 ntrans x y z := by simp only [lC, decide_eq_false_iff_not, lcmp_lt]; omega
theorem g69_fC : (fun a b => g69 a b) = fC lcmp := by funext a b; exact g69_eq a b
abbrev leL (x y : DLease) : Prop := ¬ lcmp y x < 0
theorem sorted_ok (l : List DLease) (hl : l.length ≤ 1048576) : ∃ s, g116 l (fun a b => g69 a b) = some s ∧ s.Perm l ∧ s.Pairwise leL := by
 refine ⟨_, by rw [g69_fC]; exact g116_eq lcmp l hl, ?_⟩
 have h := sort_holds (pdq_holds (lt := lC lcmp) insertionSort_holds heapSort_holds partialInsertionSort_holds (partition_holds _) (partitionEqual_holds _) reverseRange_holds) swo_lcmp l.toArray
 obtain ⟨⟨h1, h2, h3⟩, h4⟩ := h
 generalize Go.Sort.sort (lC lcmp) l.toArray = d at *
 refine ⟨?_, ?_⟩
 ·rw [← h1] at h3
  have e1 : d.extract 0 d.size = d := by simp
  have e2 : l.toArray.extract 0 d.size = l.toArray := by rw [h1]; simp
  rw [e1, e2] at h3
  exact h3
 ·rw [List.pairwise_iff_getElem]
  intro i j hi hj hij
  have := h4 i j (by omega) hij (by simpa [h1] using hj)
  simp only [lC, decide_eq_false_iff_not] at this
  have hi' : i < d.size := by simpa using hi
  have hj' : j < d.size := by simpa using hj
  rw [getElem!_pos d i hi', getElem!_pos d j hj'] at this
  simpa [leL] using this
theorem sorted_one {l1 l2 : List DLease} (hp : l1.Perm l2) (h1 : l1.Pairwise leL) (h2 : l2.Pairwise leL) (hu : ∀ x ∈ l1, ∀ y ∈ l1, x.id = y.id → x = y) : l1 = l2 := by
 refine List.Perm.eq_of_pairwise (le := leL) ?_ h1 h2 hp
 intro x y hx hy a b
 simp only [leL, lcmp_lt] at a b
 exact hu x hx y (hp.mem_iff.2 hy) (by omega)
end Go.Ev
end
section
set_option maxHeartbeats 1000000
namespace Go.Ev
def duP (N : Int) (y : DLease) : Bool := !y.queued && decide (y.until_ ≤ N)
abbrev mkQ (y : DLease) : DLease := DLease.mk y.id y.until_ y.cap true
def markD (N : Int) (y : DLease) : DLease := if duP N y = true then mkQ y else y
theorem bif_duP (N : Int) (y : DLease) : (bif (!y.queued) then (decide (y.until_ ≤ N)) else false) = duP N y := by
 unfold duP; cases y.queued <;> rfl
abbrev nowOf (t : DTable) (a : Int) : Int := if a > t.clock then a else t.clock
theorem row_at {f : DLease → DLease} {l : List DLease} {k : Nat} (hk : k < l.length) : ((l.take k).map f ++ l.drop k)[k]? = some l[k] := by
 rw [List.getElem?_append_right (by simp; omega)]
 simp [Nat.min_eq_left (Nat.le_of_lt hk), hk]
theorem row_set {f : DLease → DLease} {l : List DLease} {k : Nat} (hk : k < l.length) : ((l.take k).map f ++ l.drop k).set k (f l[k]) = (l.take (k + 1)).map f ++ l.drop (k + 1) := by
 have e : k - ((l.take k).map f).length = 0 := by rw [List.length_map, List.length_take]; omega
 rw [List.set_append, if_neg (by rw [List.length_map, List.length_take]; omega), e, List.drop_eq_getElem_cons hk, List.set_cons_zero, List.take_succ_eq_append_getElem hk, List.map_append, List.append_assoc]
 rfl
theorem row_same {f : DLease → DLease} {l : List DLease} {k : Nat} (hk : k < l.length) (he : f l[k] = l[k]) : (l.take k).map f ++ l.drop k = (l.take (k + 1)).map f ++ l.drop (k + 1) := by
 rw [List.take_succ_eq_append_getElem hk, List.map_append, List.append_assoc, List.map_cons, he, List.drop_eq_getElem_cons hk]
 rfl
theorem g82_loop (t : DTable) (a : Int) (l : List DLease) (hl : l.length ≤ 1048576) :
  iter (g82_l0 t a (DTable.mk t.clock t.next l)) ([], l, 0) = some (l.filter (duP (nowOf t a)), l.map (markD (nowOf t a))) := by
 have h := iter_upto (step := g82_l0 t a (DTable.mk t.clock t.next l)) (fun k => ((l.take k).filter (duP (nowOf t a)), (l.take k).map (markD (nowOf t a)) ++ l.drop k, (k : Int))) l.length (l.filter (duP (nowOf t a)), l.map (markD (nowOf t a))) (fun k hk => by
  simp only [g82_l0]
  rw [if_pos (decide_eq_true (by omega))]
  rw [idx_nat, row_at hk]
  simp only [Option.bind_some, Int.toNat_natCast, row_at hk, bif_duP, bindv]
  by_cases hd : duP (nowOf t a) l[k] = true
  ·rw [if_pos hd]
   have hfl : ((l.take k).filter (duP (nowOf t a))).length ≤ k := by
    have := List.length_filter_le (duP (nowOf t a)) (l.take k)
    simp at this; omega
   rw [if_pos (by simp; omega)]
   simp only [g82_j0, w1 (show k < 4611686018427387904 by omega)]
   have e : DLease.mk l[k].id l[k].until_ l[k].cap true = markD (nowOf t a) l[k] := by unfold markD; rw [if_pos hd]
   rw [e, row_set hk, List.take_succ_eq_append_getElem hk, List.filter_append, List.filter_cons_of_pos hd, List.filter_nil]
  ·rw [if_neg hd]
   simp only [g82_j0, w1 (show k < 4611686018427387904 by omega)]
   rw [row_same hk (by unfold markD; rw [if_neg hd]), List.take_succ_eq_append_getElem hk, List.filter_append, List.filter_cons_of_neg hd, List.filter_nil, List.append_nil]) (by
  simp only [g82_l0]
  rw [if_neg (by simp)]
  simp)
 simp only [List.take_zero, List.filter_nil, List.map_nil, List.nil_append, List.drop_zero] at h
 exact h
theorem g60_eq2 (c n : Int) (l : List DLease) (hl : l.length ≤ 1048576) : g60 (DTable.mk c n l) = some (l.map (·.id)) := by
 have h := iter_upto (step := g60_l0 (DTable.mk c n l)) (fun k => ((l.take k).map (·.id), (k : Int))) l.length (l.map (·.id)) (fun k hk => by
  simp only [g60_l0]
  rw [if_pos (decide_eq_true (by omega)), idx_lt hk]
  simp only [Option.bind_some]
  rw [if_pos (by simp; omega), w1 (show k < 4611686018427387904 by omega), List.take_succ_eq_append_getElem hk, List.map_append]
  rfl) (by
  simp only [g60_l0]
  rw [if_neg (by simp)]
  simp)
 simp only [List.take_zero, List.map_nil] at h
 simp only [g60]
 have h' : iter (g60_l0 (DTable.mk c n l)) ([], 0) = some (l.map (·.id)) := h
 rw [h']
 rfl
theorem g82_eq (t : DTable) (a : Int) (hl : t.list_.length ≤ 1048576) : ∃ s : List DLease, g82 t a = some (DTable.mk (nowOf t a) t.next (t.list_.map (markD (nowOf t a))), s.map (·.id)) ∧ s.Perm (t.list_.filter (duP (nowOf t a))) ∧ s.Pairwise leL := by
 have hfl : (t.list_.filter (duP (nowOf t a))).length ≤ 1048576 := Nat.le_trans (List.length_filter_le _ _) hl
 obtain ⟨s, s1, s2, s3⟩ := sorted_ok _ hfl
 refine ⟨s, ?_, s2, s3⟩
 have h := g82_loop t a t.list_ hl
 have h' : iter (g82_l0 t a t) ([], t.list_, 0) = some (t.list_.filter (duP (nowOf t a)), t.list_.map (markD (nowOf t a))) := h
 have hsl : s.length = (t.list_.filter (duP (nowOf t a))).length := s2.length_eq
 simp only [g82, g112_eq t hl, Option.bind_some, h', s1]
 rw [if_pos hsl, g60_eq2 0 0 s (by omega)]
 rfl
def BestTo (N : Int) (L : List DLease) (n : Nat) (r : Int) : Prop :=
 (r = -1 ∧ ∀ j, ∀ h : j < L.length, j < n → duP N L[j] = false) ∨
 ∃ k, ∃ hk : k < L.length, k < n ∧ r = (k : Int) ∧ duP N L[k] = true ∧ ∀ j, ∀ h : j < L.length, j < n → duP N L[j] = true → L[k].until_ < L[j].until_ ∨ (L[k].until_ = L[j].until_ ∧ k ≤ j)
theorem g81_inner (t : DTable) (a : Int) (L : List DLease) (hl : L.length ≤ 1048576) : ∃ r, iter (g81_l1 t a L) (-1, 0) = some r ∧ BestTo (nowOf t a) L L.length r := by
 obtain ⟨r, r1, r2⟩ := iterI (step := g81_l1 t a L) (fun s => ∃ n : Nat, s.2 = (n : Int) ∧ n ≤ L.length ∧ BestTo (nowOf t a) L n s.1) (fun s => (L.length - s.2).toNat) (fun r => BestTo (nowOf t a) L L.length r) (-1, 0) ⟨0, rfl, by omega, .inl ⟨rfl, fun j _ h => absurd h (by omega)⟩⟩ (by
  rintro ⟨r, _⟩ ⟨n, rfl, hn, hb⟩
  simp only at hb
  simp only [g81_l1]
  by_cases hlt : n < L.length
  ·rw [if_pos (decide_eq_true (by omega)), idx_lt hlt]
   simp only [Option.bind_some, Int.toNat_natCast]
   rw [List.getElem?_eq_getElem hlt]
   simp only [Option.bind_some, bif_duP, bindv]
   have w : IntKind.i64.wrap ((n : Int) + 1) = ((n + 1 : Nat) : Int) := w1 (by omega)
   left
   by_cases hd : duP (nowOf t a) L[n] = true
   ·rw [hd]
    rcases hb with ⟨rfl, hb⟩ | ⟨k, hk, hkn, rfl, hdk, hb⟩
    ·rw [show decide ((-1 : Int) < 0) = true by decide]
     simp only [beq_self_eq_true, Bool.true_and, show (true == false) = false from rfl, Bool.false_eq_true, if_false, Option.bind_some, cond_true, if_true, g81_j0, w]
     refine ⟨_, rfl, ⟨n + 1, rfl, by omega, .inr ⟨n, hlt, by omega, rfl, hd, fun j h hj hdj => ?_⟩⟩, by simp only; omega⟩
     by_cases e : j = n
     ·subst e; exact .inr ⟨rfl, Nat.le_refl _⟩
     ·rw [hb j h (by omega)] at hdj; cases hdj
    ·rw [show decide ((k : Int) < 0) = false from decide_eq_false (by omega)]
     simp only [beq_self_eq_true, Bool.true_and, if_true, idx_lt hk, Int.toNat_natCast, List.getElem?_eq_getElem hk, Option.bind_some, cond_true, cond_false, g81_j0, w]
     by_cases hc : L[n].until_ < L[k].until_
     ·rw [if_pos (decide_eq_true hc)]
      refine ⟨_, rfl, ⟨n + 1, rfl, by omega, .inr ⟨n, hlt, by omega, rfl, hd, fun j h hj hdj => ?_⟩⟩, by simp only; omega⟩
      by_cases e : j = n
      ·subst e; exact .inr ⟨rfl, Nat.le_refl _⟩
      ·have := hb j h (by omega) hdj
       left; omega
     ·rw [if_neg (by simpa using hc)]
      refine ⟨_, rfl, ⟨n + 1, rfl, by omega, .inr ⟨k, hk, by omega, rfl, hdk, fun j h hj hdj => ?_⟩⟩, by simp only; omega⟩
      by_cases e : j = n
      ·subst e; omega
      ·exact hb j h (by omega) hdj
   ·have hd : duP (nowOf t a) L[n] = false := by simpa using hd
    rw [hd]
    simp only [show (false == true) = false from rfl, Bool.false_and, Bool.false_eq_true, if_false, Option.bind_some, cond_false, g81_j0, w]
    refine ⟨_, rfl, ⟨n + 1, rfl, by omega, ?_⟩, by simp only; omega⟩
    rcases hb with ⟨rfl, hb⟩ | ⟨k, hk, hkn, rfl, hdk, hb⟩
    ·refine .inl ⟨rfl, fun j h hj => ?_⟩
     by_cases e : j = n
     ·subst e; exact hd
     ·exact hb j h (by omega)
    ·refine .inr ⟨k, hk, by omega, rfl, hdk, fun j h hj hdj => ?_⟩
     by_cases e : j = n
     ·subst e; rw [hd] at hdj; cases hdj
     ·exact hb j h (by omega) hdj
  ·rw [if_neg (by simpa using hlt)]
   have : n = L.length := by omega
   subst this
   exact .inr ⟨_, rfl, hb⟩)
 exact ⟨r, r1, r2⟩
theorem filter_set {p : DLease → Bool} {L : List DLease} {k : Nat} {v : DLease} (hk : k < L.length) (h1 : p L[k] = true) (h2 : p v = false) : (L.filter p).Perm (L[k] :: (L.set k v).filter p) := by
 have e1 : L = L.take k ++ L[k] :: L.drop (k + 1) := by rw [← List.drop_eq_getElem_cons hk, List.take_append_drop]
 have e2 : L.set k v = L.take k ++ v :: L.drop (k + 1) := by rw [List.set_eq_take_append_cons_drop, if_pos hk]
 rw [e2, List.filter_append, List.filter_cons_of_neg (by simp [h2])]
 conv => lhs; rw [e1]
 rw [List.filter_append, List.filter_cons_of_pos h1]
 exact List.perm_middle
theorem g81_eq (t : DTable) (a : Int) (h : TabOK t) (hl : t.list_.length ≤ 1048576) : ∃ s : List DLease, g81 t a = some (DTable.mk (nowOf t a) t.next (t.list_.map (markD (nowOf t a))), s.map (·.id)) ∧ s.Perm (t.list_.filter (duP (nowOf t a))) ∧ s.Pairwise leL := by
 obtain ⟨r, r1, r2⟩ := iterI (step := g81_l0 t a t) (fun s => ∃ sel : List DLease, s.1 = sel.map (·.id) ∧ (sel ++ s.2.filter (duP (nowOf t a))).Perm (t.list_.filter (duP (nowOf t a))) ∧ sel.Pairwise leL ∧ (∀ x ∈ sel, ∀ y ∈ s.2.filter (duP (nowOf t a)), leL x y) ∧
   ∃ hlen : s.2.length = t.list_.length, ∀ i, ∀ hi : i < t.list_.length, s.2[i] = t.list_[i] ∨ (duP (nowOf t a) t.list_[i] = true ∧ s.2[i] = mkQ t.list_[i]))
  (fun s => (s.2.filter (duP (nowOf t a))).length) (fun r => ∃ s : List DLease, r = (DTable.mk (nowOf t a) t.next (t.list_.map (markD (nowOf t a))), s.map (·.id)) ∧ s.Perm (t.list_.filter (duP (nowOf t a))) ∧ s.Pairwise leL) ([], t.list_)
  ⟨[], rfl, by simp, .nil, by simp, rfl, fun i hi => .inl rfl⟩ (by
  rintro ⟨_, L⟩ ⟨sel, rfl, p1, p2, p3, hlen, p4⟩
  simp only at p1 p3 hlen p4
  obtain ⟨b, b1, b2⟩ := g81_inner t a L (by omega)
  simp only [g81_l0, b1, Option.bind_some]
  rcases b2 with ⟨rfl, b2⟩ | ⟨k, hk, _, rfl, hdk, b2⟩
  ·right
   rw [if_pos (by decide)]
   have hnil : L.filter (duP (nowOf t a)) = [] := by
    rw [List.filter_eq_nil_iff]
    intro x hx
    obtain ⟨j, hj, rfl⟩ := List.getElem_of_mem hx
    simp [b2 j hj hj]
   rw [hnil, List.append_nil] at p1
   refine ⟨_, rfl, sel, ?_, p1, p2⟩
   have hL : L = t.list_.map (markD (nowOf t a)) := by
    refine List.ext_getElem (by simpa using hlen) fun i h1 h2 => ?_
    have hi : i < t.list_.length := by omega
    simp only [List.getElem_map, markD]
    rcases p4 i hi with e | ⟨e1, e⟩
    ·have := b2 i h1 h1
     rw [e] at this
     rw [if_neg (by simp [this])]; exact e
    ·rw [if_pos e1]; exact e
   rw [hL]
  ·left
   rw [if_neg (by simp)]
   have hmk : duP (nowOf t a) (mkQ L[k]) = false := by simp [duP]
   have hlen2 : (L.set k (mkQ L[k])).length = L.length := by simp
   have hk2 : k < (L.set k (mkQ L[k])).length := by simpa using hk
   simp only [idx_lt hk, Int.toNat_natCast, List.getElem?_eq_getElem hk, Option.bind_some, idx_lt hk2, List.getElem?_eq_getElem hk2, List.getElem_set_self]
   have hf := filter_set (p := duP (nowOf t a)) hk hdk hmk
   have hlp := p1.length_eq
   have hlf := List.length_filter_le (duP (nowOf t a)) t.list_
   rw [List.length_append] at hlp
   rw [if_pos (by simp; omega)]
   refine ⟨_, rfl, ⟨sel ++ [L[k]], by simp, ?_, ?_, ?_, by simpa using hlen, ?_⟩, ?_⟩
   ·simp only [List.append_assoc, List.singleton_append]
    exact (List.Perm.append_left sel hf.symm).trans p1
   ·rw [List.pairwise_append]
    refine ⟨p2, by simp, fun x hx y hy => ?_⟩
    simp only [List.mem_singleton] at hy
    subst hy
    exact p3 x hx _ (List.mem_filter.2 ⟨List.getElem_mem hk, hdk⟩)
   ·intro x hx y hy
    have hy2 : y ∈ L.filter (duP (nowOf t a)) := hf.mem_iff.2 (List.mem_cons_of_mem _ hy)
    rcases List.mem_append.1 hx with hx | hx
    ·exact p3 x hx y hy2
    ·simp only [List.mem_singleton] at hx
     subst hx
     obtain ⟨hyL, hdy⟩ := List.mem_filter.1 hy2
     obtain ⟨j, hj, rfl⟩ := List.getElem_of_mem hyL
     have := b2 j hj hj hdy
     simp only [leL, lcmp_lt]
     have ids : ∀ i, ∀ hi : i < L.length, L[i].id = (t.list_[i]'(by omega)).id := fun i hi => by
      rcases p4 i (by omega) with e | ⟨_, e⟩ <;> rw [e]
     rw [ids j hj, ids k hk]
     by_cases e : k = j
     ·subst e; omega
     ·rcases this with h1 | ⟨h1, h2⟩
      ·omega
      ·have := h.lt (i := k) (j := j) (by omega) (by omega)
       omega
   ·intro i hi
    simp only [List.getElem_set]
    split
    ·rename_i e; subst e
     right
     rcases p4 k hi with e | ⟨e1, e⟩
     ·rw [e] at hdk; exact ⟨hdk, by rw [e]⟩
     ·exact ⟨e1, by rw [e]⟩
    ·exact p4 i hi
   ·have := hf.length_eq
    simp only [List.length_cons, mkQ] at this ⊢
    omega)
 obtain ⟨s, rfl, s2, s3⟩ := r2
 refine ⟨s, ?_, s2, s3⟩
 simp only [g81, g111_eq t hl, Option.bind_some, r1]
end Go.Ev
end
section
namespace Go.Ev
theorem iter_inv {σ ρ : Type} {step : σ → Option (σ ⊕ ρ)} (I : σ → Prop) (μ : σ → Nat) (R : ρ → Prop)
  (h : ∀ s, I s → (∃ s', step s = some (.inl s') ∧ I s' ∧ μ s' < μ s) ∨ (∃ r, step s = some (.inr r) ∧ R r)) : ∀ (n : Nat) (s0 : σ), μ s0 < n → I s0 → ∃ r, iter step s0 = some r ∧ R r := by
 intro n
 induction n with
 | zero => intro s0 hn; omega
 | succ n ih =>
  intro s0 hn hI
  rcases h s0 hI with ⟨s', h1, h2, h3⟩ | ⟨r, h1, h2⟩
  ·obtain ⟨r, h4, h5⟩ := ih s' (by omega) h2
   exact ⟨r, by rw [iter_next h1, h4], h5⟩
  ·exact ⟨r, iter_end h1, h2⟩
theorem iter_inv' {σ ρ : Type} {step : σ → Option (σ ⊕ ρ)} (I : σ → Prop) (μ : σ → Nat) (R : ρ → Prop) (s0 : σ) (h0 : I s0)
  (h : ∀ s, I s → (∃ s', step s = some (.inl s') ∧ I s' ∧ μ s' < μ s) ∨ (∃ r, step s = some (.inr r) ∧ R r)) : ∃ r, iter step s0 = some r ∧ R r :=
 iter_inv I μ R h (μ s0 + 1) s0 (by omega) h0
theorem slc_eq {α : Type} (l : List α) (a b : Nat) (h : a ≤ b) (h2 : b ≤ l.length) : slc l (a : Int) (b : Int) = some ((l.take b).drop a) := by
 unfold slc
 rw [if_pos ⟨by omega, by omega, by omega⟩]
 simp
def FoundAt (l : List DLease) (x n : Int) : Prop := (n = -1 ∧ ∀ y ∈ l, y.id ≠ x) ∨ ∃ k, ∃ h : k < l.length, n = (k : Int) ∧ l[k].id = x
theorem g92_eq (t : DTable) (x : Int) (hl : t.list_.length ≤ 1048576) : ∃ n, g92 t x = some n ∧ FoundAt t.list_ x n := by
 obtain ⟨r, h1, h2⟩ := iter_inv' (step := g92_l0 t x) (fun s => ∃ k : Nat, s = (k : Int) ∧ k ≤ t.list_.length ∧ ∀ j, ∀ h : j < t.list_.length, j < k → t.list_[j].id ≠ x) (fun s => (t.list_.length - s).toNat)
  (fun r => (r = .inl () ∧ ∀ y ∈ t.list_, y.id ≠ x) ∨ ∃ n, r = .inr n ∧ FoundAt t.list_ x n) 0 ⟨0, rfl, by omega, by intros; omega⟩ (by
   rintro _ ⟨k, rfl, hk, hj⟩
   simp only [g92_l0]
   by_cases hlt : k < t.list_.length
   ·rw [if_pos (decide_eq_true (by omega)), idx_lt hlt]
    simp only [Option.bind_some, wr (n := (k : Int) + 1) ⟨by omega, by omega⟩]
    by_cases hp : t.list_[k].id = x
    ·rw [if_pos (by simp [hp])]
     exact .inr ⟨_, rfl, .inr ⟨_, rfl, .inr ⟨k, hlt, rfl, hp⟩⟩⟩
    ·rw [if_neg (by simp [hp])]
     refine .inl ⟨_, rfl, ⟨k + 1, rfl, by omega, fun j h hj2 => ?_⟩, by omega⟩
     by_cases e : j = k
     ·subst e; exact hp
     ·exact hj j h (by omega)
   ·rw [if_neg (by simp; omega)]
    refine .inr ⟨_, rfl, .inl ⟨rfl, fun y hy => ?_⟩⟩
    obtain ⟨j, hj1, rfl⟩ := List.getElem_of_mem hy
    exact hj j hj1 (by omega))
 simp only [g92, h1, Option.bind_some]
 rcases h2 with ⟨rfl, h2⟩ | ⟨n, rfl, h2⟩
 ·exact ⟨-1, rfl, .inl ⟨rfl, h2⟩⟩
 ·exact ⟨n, rfl, h2⟩
theorem half (a : Nat) (h : a ≤ 4194304) : IntKind.i64.wrap (ishr .u64 (IntKind.u64.wrap (IntKind.i64.wrap (a : Int))) 1) = ((a / 2 : Nat) : Int) := by
 have h1 : IntKind.u64.wrap (a : Int) = a := by
  have e : IntKind.u64.wrap (a : Int) = (a : Int) % 18446744073709551616 := by simp [IntKind.wrap, IntKind.bits, IntKind.signed]
  rw [e]; omega
 have h2 : (2 : Int) ^ min (1 : Int).toNat 64 = 2 := by decide
 rw [wr (n := (a : Int)) ⟨by omega, by omega⟩, h1]
 simp only [ishr, h2]
 rw [Int.fdiv_eq_ediv_of_nonneg _ (by omega), wr ⟨by omega, by omega⟩]
 omega
theorem g114_eq (x : DLease) (a : Int) : g114 x a = some (if x.id < a then -1 else if a < x.id then 1 else 0) := by simp [g114, g110_eq]
theorem g77_eq (t : DTable) (h : TabOK t) (x n : Int) (hn : FoundAt t.list_ x n) : ∃ i b, g77 t x = some (i, b) ∧ (b = true → i = n ∧ 0 ≤ n) ∧ (b = false → n = -1) := by
 have hl := h.2.2.1
 obtain ⟨r, h1, h2⟩ := iter_inv' (step := g113_l0 t.list_ x (fun a b => g114 a b)) (fun s => ∃ i j : Nat, s = ((i : Int), (j : Int)) ∧ i ≤ j ∧ j ≤ t.list_.length ∧ (∀ k, ∀ h : k < t.list_.length, k < i → t.list_[k].id < x) ∧ ∀ k, ∀ h : k < t.list_.length, j ≤ k → x ≤ t.list_[k].id)
  (fun s => (s.2 - s.1).toNat) (fun r => ∃ i : Nat, r = i ∧ i ≤ t.list_.length ∧ (∀ k, ∀ h : k < t.list_.length, k < i → t.list_[k].id < x) ∧ ∀ k, ∀ h : k < t.list_.length, i ≤ k → x ≤ t.list_[k].id) (0, (t.list_.length : Int))
  ⟨0, t.list_.length, rfl, by omega, by omega, by intros; omega, by intros; omega⟩ (by
   rintro _ ⟨i, j, rfl, hij, hj, ha, hb⟩
   simp only [g113_l0]
   by_cases hlt : i < j
   ·have e : (i : Int) + (j : Int) = ((i + j : Nat) : Int) := by omega
    rw [if_pos (decide_eq_true (by omega)), e, half _ (by omega)]
    have hm : (i + j) / 2 < t.list_.length := by omega
    simp only [bindv, idx_lt hm, Option.bind_some, g114_eq]
    have hw : IntKind.i64.wrap (((i + j) / 2 : Nat) + 1 : Int) = (((i + j) / 2 + 1 : Nat) : Int) := wr ⟨by omega, by omega⟩
    rw [hw]
    left
    by_cases hc : t.list_[(i + j) / 2].id < x
    ·rw [if_pos hc, if_pos (by decide)]
     refine ⟨_, rfl, ⟨_, j, rfl, by omega, hj, fun k hk hki => ?_, hb⟩, by simp only; omega⟩
     by_cases e : k = (i + j) / 2
     ·subst e; exact hc
     ·have := h.lt hm (show k < (i + j) / 2 by omega); omega
    ·have : ¬ (if t.list_[(i + j) / 2].id < x then (-1 : Int) else if x < t.list_[(i + j) / 2].id then 1 else 0) < 0 := by
      rw [if_neg hc]; split <;> omega
     rw [if_neg (by simpa using this)]
     refine ⟨_, rfl, ⟨i, _, rfl, by omega, by omega, ha, fun k hk hki => ?_⟩, by simp only; omega⟩
     by_cases e : k = (i + j) / 2
     ·subst e; omega
     ·have := h.lt hk (show (i + j) / 2 < k by omega); omega
   ·rw [if_neg (by simp; omega)]
    exact .inr ⟨_, rfl, i, rfl, by omega, ha, fun k hk hki => hb k hk (by omega)⟩)
 obtain ⟨i, rfl, hi, ha, hb⟩ := h2
 simp only [g77, g113, h1, Option.bind_some]
 by_cases hlt : i < t.list_.length
 ·have hd : (decide ((i : Int) < (t.list_.length : Int)) == true) = true := by simp; omega
  simp only [hd, if_true, idx_lt hlt, Option.bind_some, g114_eq]
  refine ⟨_, _, rfl, ?_, ?_⟩
  ·intro hh
   have hx : t.list_[i].id = x := by
    have := hb i hlt (by omega)
    rw [decide_eq_true (by omega)] at hh
    simp at hh
    split at hh
    ·omega
    ·split at hh <;> omega
   rcases hn with ⟨rfl, hn⟩ | ⟨k, hk, rfl, hkx⟩
   ·exact absurd hx (hn _ (List.getElem_mem _))
   ·by_cases e : k = i
    ·subst e; exact ⟨rfl, by omega⟩
    ·by_cases e2 : k < i
     ·have := ha k hk e2; omega
     ·have := h.lt hk (show i < k by omega); omega
  ·intro hh
   rcases hn with ⟨rfl, hn⟩ | ⟨k, hk, rfl, hkx⟩
   ·rfl
   ·exfalso
    have hne : t.list_[i].id ≠ x := fun e => by
     rw [decide_eq_true (by omega), e] at hh
     simp at hh
    have := hb i hlt (by omega)
    by_cases e : k = i
    ·subst e; exact hne hkx
    ·by_cases e2 : k < i
     ·have := ha k hk e2; omega
     ·have := h.lt hk (show i < k by omega); omega
 ·have hd : ¬ (decide ((i : Int) < (t.list_.length : Int)) == true) = true := by simp; omega
  simp only [hd, if_false, Option.bind_some]
  refine ⟨_, _, rfl, ?_, ?_⟩
  ·rw [decide_eq_false (by omega)]; intro hh; cases hh
  ·intro _
   rcases hn with ⟨rfl, hn⟩ | ⟨k, hk, rfl, hkx⟩
   ·rfl
   ·have := ha k hk (by omega); omega
theorem g54_eq (a b : Int) : ∃ r, g53 a b = some r ∧ g54 a b = some r := by
 unfold g53 g54
 split
 ·exact ⟨_, rfl, rfl⟩
 ·exact ⟨_, rfl, rfl⟩
end Go.Ev
end
section
namespace Go.Ev
def SrcOK (s : Dl00Src) (B : Int) : Prop := s.code_.length ≤ 1048576 ∧ (0 ≤ s.at_ ∧ s.at_ ≤ B) ∧ 0 ≤ s.seed ∧ s.seed < 2147483648
theorem SrcOK.mono {s : Dl00Src} {B B' : Int} (h : SrcOK s B) (hb : B ≤ B') : SrcOK s B' := ⟨h.1, ⟨h.2.1.1, by have := h.2.1.2; omega⟩, h.2.2⟩
theorem g83_ok (code : List UInt8) (h : code.length ≤ 1048576) : ∃ s, g83 code = some s ∧ SrcOK s 0 := by
 refine ⟨_, rfl, h, ⟨by simp, by simp⟩, ?_⟩
 have e : ((code.length : Int)).tmod 1000 = (code.length : Int) % 1000 := Int.tmod_eq_emod_of_nonneg (by omega)
 simp only [e]
 omega
theorem g139_ok {s : Dl00Src} {B : Int} (h : SrcOK s B) (hB : B ≤ 4611686018427387904) : ∃ v s', g139 s = some (v, s') ∧ (0 ≤ v ∧ v ≤ 255) ∧ SrcOK s' (B + 1) := by
 obtain ⟨h1, ⟨h2, h3⟩, h4, h5⟩ := h
 have hw : IntKind.i64.wrap (s.at_ + 1) = s.at_ + 1 := wr ⟨by omega, by omega⟩
 have hw2 : IntKind.i64.wrap (s.at_ + 1 - 1) = s.at_ := by rw [wr ⟨by omega, by omega⟩]; omega
 simp only [g139, hw, hw2]
 by_cases hc : s.at_ + 1 ≤ (s.code_.length : Int)
 ·rw [if_pos (decide_eq_true hc)]
  obtain ⟨k, hk⟩ : ∃ k : Nat, s.at_ = k := ⟨s.at_.toNat, by omega⟩
  have hlt : k < s.code_.length := by omega
  rw [hk, idx_lt hlt]
  generalize s.code_[k] = y
  have hy : (y.toNat : Int) < 256 := by have := y.toNat_lt; omega
  have e1 : IntKind.i64.wrap (y.toNat : Int) = (y.toNat : Int) := wr ⟨by omega, by omega⟩
  have e2 : IntKind.i64.wrap (s.seed * 31) = s.seed * 31 := wr ⟨by omega, by omega⟩
  have e3 : IntKind.i64.wrap (s.seed * 31 + (y.toNat : Int)) = s.seed * 31 + (y.toNat : Int) := wr ⟨by omega, by omega⟩
  have e4 : IntKind.i64.wrap (s.seed * 31 + (y.toNat : Int) + 7) = s.seed * 31 + (y.toNat : Int) + 7 := wr ⟨by omega, by omega⟩
  have e5 : (s.seed * 31 + (y.toNat : Int) + 7).tmod 2147483648 = (s.seed * 31 + (y.toNat : Int) + 7) % 2147483648 := Int.tmod_eq_emod_of_nonneg (by omega)
  simp only [Option.bind_some, bindv, e1, e2, e3, e4, e5]
  exact ⟨_, _, rfl, ⟨by omega, by omega⟩, h1, ⟨by simp only; omega, by simp only; omega⟩, by simp only; omega, by simp only; omega⟩
 ·rw [if_neg (by simpa using hc)]
  by_cases h3' : s.at_ + 1 > 3000
  ·rw [if_pos (decide_eq_true h3')]
   exact ⟨_, _, rfl, ⟨by omega, by omega⟩, h1, ⟨by simp only; omega, by simp only; omega⟩, h4, h5⟩
  ·rw [if_neg (by simpa using h3')]
   have e2 : IntKind.i64.wrap (s.seed * 1103515245) = s.seed * 1103515245 := wr ⟨by omega, by omega⟩
   have e3 : IntKind.i64.wrap (s.seed * 1103515245 + 12345) = s.seed * 1103515245 + 12345 := wr ⟨by omega, by omega⟩
   have e4 : (s.seed * 1103515245 + 12345).tmod 2147483648 = (s.seed * 1103515245 + 12345) % 2147483648 := Int.tmod_eq_emod_of_nonneg (by omega)
   have hr : 0 ≤ (s.seed * 1103515245 + 12345) % 2147483648 ∧ (s.seed * 1103515245 + 12345) % 2147483648 < 2147483648 := by omega
   generalize hv : (s.seed * 1103515245 + 12345) % 2147483648 = v at e4 hr
   have e5 : v.tdiv 65536 = v / 65536 := Int.tdiv_eq_ediv_of_nonneg hr.1
   have e6 : IntKind.i64.wrap (v / 65536) = v / 65536 := wr ⟨by omega, by omega⟩
   have e7 : (v / 65536).tmod 256 = v / 65536 % 256 := Int.tmod_eq_emod_of_nonneg (by omega)
   simp only [bindv, e2, e3, e4, e5, e6, e7]
   exact ⟨_, _, rfl, ⟨by omega, by omega⟩, h1, ⟨by simp only; omega, by simp only; omega⟩, hr.1, hr.2⟩
theorem g117_ok {s : Dl00Src} {B n : Int} (h : SrcOK s B) (hB : B ≤ 4611686018427380000) (hn : n ≤ 1152921504606846976) : ∃ v s', g117 s n = some (v, s') ∧ (0 ≤ v ∧ (n ≤ 1 → v = 0) ∧ (1 < n → v < n)) ∧ SrcOK s' (B + 3) := by
 simp only [g117]
 by_cases h1 : n ≤ 1
 ·rw [if_pos (decide_eq_true h1)]
  exact ⟨_, _, rfl, ⟨by omega, by omega, by omega⟩, h.mono (by omega)⟩
 ·rw [if_neg (by simpa using h1)]
  by_cases h2 : n ≤ 256
  ·rw [if_pos (decide_eq_true h2)]
   obtain ⟨v, s', e1, e2, e3⟩ := g139_ok h (by omega)
   rw [e1]
   simp only [Option.bind_some]
   rw [if_pos (by omega)]
   have e4 : v.tmod n = v % n := Int.tmod_eq_emod_of_nonneg e2.1
   refine ⟨_, _, rfl, ⟨?_, by omega, fun _ => ?_⟩, e3.mono (by omega)⟩
   ·rw [e4]; exact Int.emod_nonneg _ (by omega)
   ·rw [e4]; exact Int.emod_lt_of_pos _ (by omega)
  ·rw [if_neg (by simpa using h2)]
   obtain ⟨a, s1, a1, a2, a3⟩ := g139_ok h (by omega)
   obtain ⟨b, s2, b1, b2, b3⟩ := g139_ok a3 (by omega)
   obtain ⟨c, s3, c1, c2, c3⟩ := g139_ok b3 (by omega)
   rw [a1]
   simp only [Option.bind_some, b1, c1]
   rw [if_pos (by omega)]
   have e1 : IntKind.i64.wrap (a * 65536) = a * 65536 := wr ⟨by omega, by omega⟩
   have e2 : IntKind.i64.wrap (b * 256) = b * 256 := wr ⟨by omega, by omega⟩
   have e3 : IntKind.i64.wrap (a * 65536 + b * 256) = a * 65536 + b * 256 := wr ⟨by omega, by omega⟩
   have e4 : IntKind.i64.wrap (a * 65536 + b * 256 + c) = a * 65536 + b * 256 + c := wr ⟨by omega, by omega⟩
   have e5 : (a * 65536 + b * 256 + c).tmod n = (a * 65536 + b * 256 + c) % n := Int.tmod_eq_emod_of_nonneg (by omega)
   simp only [bindv, e1, e2, e3, e4, e5]
   refine ⟨_, _, rfl, ⟨Int.emod_nonneg _ (by omega), by omega, fun _ => Int.emod_lt_of_pos _ (by omega)⟩, c3.mono (by omega)⟩
end Go.Ev
end
section
set_option maxHeartbeats 1000000
namespace Go.Ev
abbrev TabC (t : DTable) : Prop := TabOK t ∧ t.clock ≤ 9223372036854775807 ∧ ∀ x ∈ t.list_, x.cap ≤ 9223372036854775807
theorem TabOK.at {t : DTable} (h : TabOK t) {k : Nat} (hk : k < t.list_.length) : TabLease t k t.list_[k] := h.2.2.2 k _ (List.getElem?_eq_getElem hk)
theorem tab_same {t : DTable} (h : TabOK t) (c : Int) (hc : t.clock ≤ c) (L : List DLease) (hl : L.length = t.list_.length)
  (hk : ∀ k, ∀ h1 : k < L.length, ∀ h2 : k < t.list_.length, L[k].id = t.list_[k].id ∧ 0 ≤ L[k].until_ ∧ L[k].until_ ≤ L[k].cap ∧ (L[k].queued = false → c < L[k].until_)) : TabOK (DTable.mk c t.next L) := by
 have h0 := h.1
 refine ⟨by simp only; omega, h.2.1, by simp only [hl]; exact h.2.2.1, fun k x hx => ?_⟩
 obtain ⟨h1, rfl⟩ := List.getElem?_eq_some_iff.1 hx
 simp only at h1
 have hkt : k < t.list_.length := by omega
 obtain ⟨e1, e2, e3, e4⟩ := hk k h1 hkt
 obtain ⟨a1, a2, a3, a4, a5⟩ := h.at hkt
 refine ⟨by simp only [e1]; exact a1, fun y hpos hy => ?_, e2, e3, e4⟩
 obtain ⟨h3, rfl⟩ := List.getElem?_eq_some_iff.1 hy
 simp only at h3 ⊢
 rw [e1, (hk (k - 1) h3 (by omega)).1]
 exact h.lt (by omega) (by omega)
theorem nowOf_ge (t : DTable) (a : Int) : t.clock ≤ nowOf t a := by unfold nowOf; split <;> omega
theorem tick_tab {t : DTable} (h : TabC t) (a : Int) (ha : a ≤ 9223372036854775807) : TabC (DTable.mk (nowOf t a) t.next (t.list_.map (markD (nowOf t a)))) := by
 refine ⟨tab_same h.1 _ (nowOf_ge t a) _ (by simp) fun k h1 h2 => ?_, ?_⟩
 ·simp only [List.getElem_map, markD]
  obtain ⟨a1, a2, a3, a4, a5⟩ := h.1.at h2
  split
  ·exact ⟨rfl, a3, a4, fun hq => by cases hq⟩
  ·rename_i hd
   refine ⟨rfl, a3, a4, fun hq => ?_⟩
   simp [duP, hq] at hd
   exact hd
 ·refine ⟨by have := h.2.1; simp only [nowOf]; split <;> omega, fun x hx => ?_⟩
  obtain ⟨y, hy, rfl⟩ := List.mem_map.1 hx
  have := h.2.2 y hy
  unfold markD
  split <;> exact this
theorem set_tab {t : DTable} (h : TabC t) {k : Nat} (hk : k < t.list_.length) (v : DLease) (h1 : v.id = t.list_[k].id) (h2 : 0 ≤ v.until_) (h3 : v.until_ ≤ v.cap) (h4 : v.queued = false → t.clock < v.until_) (h5 : v.cap = t.list_[k].cap) :
  TabC (DTable.mk t.clock t.next (t.list_.set k v)) := by
 refine ⟨tab_same h.1 _ (Int.le_refl _) _ (by simp) fun j j1 j2 => ?_, h.2.1, fun x hx => by
  rcases List.mem_or_eq_of_mem_set hx with hx | rfl
  ·exact h.2.2 x hx
  ·rw [h5]; exact h.2.2 _ (List.getElem_mem hk)⟩
 simp only [List.getElem_set]
 split
 ·rename_i e; subst e
  exact ⟨h1, h2, h3, h4⟩
 ·obtain ⟨a1, a2, a3, a4, a5⟩ := h.1.at j2
  exact ⟨rfl, a3, a4, a5⟩
theorem later_eq (c a : Int) (hc : 0 ≤ c ∧ c ≤ 9223372036854775807) (ha : 1 ≤ a ∧ a ≤ 9223372036854775807) : g53 c a = some (if c + a ≤ 9223372036854775807 then c + a else 9223372036854775807) := by
 have e : IntKind.i64.wrap (9223372036854775807 - a) = 9223372036854775807 - a := wr ⟨by omega, by omega⟩
 simp only [g53]
 rw [e]
 by_cases h : c + a ≤ 9223372036854775807
 ·rw [if_neg (by simp; omega), if_pos h, wr ⟨by omega, by omega⟩]
 ·rw [if_pos (decide_eq_true (by omega)), if_neg h]
theorem revoke_tab {t : DTable} (h : TabC t) (a : Int) : ∃ r, g74 t a = some r ∧ TabC r.1 := by
 have hl := h.1.2.2.1
 obtain ⟨n, h1, h2⟩ := g92_eq t a (by omega)
 simp only [g74, h1, Option.bind_some]
 rcases h2 with ⟨rfl, h2⟩ | ⟨k, hk, rfl, h2⟩
 ·exact ⟨_, rfl, h⟩
 ·rw [if_neg (by simp), g111_eq t (by omega)]
  simp only [Option.bind_some, idx_lt hk, Int.toNat_natCast, List.getElem?_eq_getElem hk]
  obtain ⟨a1, a2, a3, a4, a5⟩ := h.1.at hk
  exact ⟨_, rfl, set_tab h hk _ rfl a3 a4 (fun hq => by cases hq) rfl⟩
theorem renew_tab {t : DTable} (h : TabC t) {k : Nat} (hk : k < t.list_.length) (hq : t.list_[k].queued = false) (u : Int) (hu : t.clock < u) :
  TabC (DTable.mk t.clock t.next (t.list_.set k (DLease.mk t.list_[k].id (if u < t.list_[k].cap then u else t.list_[k].cap) t.list_[k].cap t.list_[k].queued))) := by
 obtain ⟨a1, a2, a3, a4, a5⟩ := h.1.at hk
 have := a5 hq
 have h0 := h.1.1
 exact set_tab h hk _ rfl (by simp only; split <;> omega) (by simp only; split <;> omega) (fun _ => by simp only; split <;> omega) rfl
theorem later_gt (c a : Int) (hc : 0 ≤ c ∧ c < 9223372036854775807) (ha : 1 ≤ a) : c < (if c + a ≤ 9223372036854775807 then c + a else 9223372036854775807) := by split <;> omega
theorem renews_tab {t : DTable} (h : TabC t) (a b : Int) (hb : 1 ≤ b ∧ b ≤ 9223372036854775807) : ∃ r, g79 t a b = some r ∧ TabC r.1 := by
 have hl := h.1.2.2.1
 obtain ⟨n, h1, h2⟩ := g92_eq t a (by omega)
 simp only [g79, h1, Option.bind_some]
 rw [if_neg (by simp; omega)]
 rcases h2 with ⟨rfl, h2⟩ | ⟨k, hk, rfl, h2⟩
 ·exact ⟨_, rfl, h⟩
 ·rw [if_neg (by simp), idx_lt hk]
  simp only [Option.bind_some]
  by_cases hq : t.list_[k].queued = true
  ·rw [if_pos hq]; exact ⟨_, rfl, h⟩
  ·rw [if_neg hq, g111_eq t (by omega)]
   have hq : t.list_[k].queued = false := by simpa using hq
   obtain ⟨a1, a2, a3, a4, a5⟩ := h.1.at hk
   have h0 := h.1.1
   have hc := h.2.1
   simp only [Option.bind_some, idx_lt hk, Int.toNat_natCast, List.getElem?_eq_getElem hk, later_eq _ _ ⟨h0, hc⟩ hb]
   have hcm : t.clock < 9223372036854775807 := by
    have := a5 hq
    have := h.2.2 _ (List.getElem_mem hk)
    omega
   exact ⟨_, rfl, renew_tab h hk hq _ (later_gt _ _ ⟨h0, hcm⟩ hb.1)⟩
theorem grant_tab {t : DTable} (h : TabC t) (a b : Int) (ha : 1 ≤ a ∧ a ≤ b ∧ b ≤ 9223372036854775807) : ∃ r, g70 t a b = some r ∧ TabC r.1 := by
 have hl := h.1.2.2.1
 have h0 := h.1.1
 have hc := h.2.1
 have hn := h.1.2.1
 simp only [g70]
 have e1 : decide (a < 1) = false := decide_eq_false (by omega)
 have e2 : decide (b < a) = false := decide_eq_false (by omega)
 rw [e1, e2]
 simp only [cond_false, Bool.false_eq_true, if_false]
 by_cases hm : t.clock = 9223372036854775807
 ·rw [if_pos (by simpa using hm)]; exact ⟨_, rfl, h⟩
 ·rw [if_neg (by simpa using hm)]
  simp only [bindv]
  by_cases hf : t.list_.length = 40 ∨ t.next = 1000000
  ·rw [if_pos (by rcases hf with hf | hf <;> simp [hf])]; exact ⟨_, rfl, h⟩
  ·have hf1 : t.list_.length ≠ 40 := fun e => hf (.inl e)
   have hf2 : t.next ≠ 1000000 := fun e => hf (.inr e)
   have e3 : ((t.list_.length : Int) == 40) = false := by simp; omega
   have e4 : (t.next == 1000000) = false := by simp; exact hf2
   rw [e3, e4]
   simp only [cond_false, Bool.false_eq_true, if_false, g111_eq t (by omega), Option.bind_some, later_eq _ _ ⟨h0, hc⟩ ⟨ha.1, by omega⟩, later_eq _ _ ⟨h0, hc⟩ ⟨by omega, ha.2.2⟩]
   rw [if_pos (by simp; omega)]
   refine ⟨_, rfl, ⟨by simp only; exact h0, by simp only; rw [wr ⟨by omega, by omega⟩]; omega, by simp; omega, fun k x hx => ?_⟩, hc, fun x hx => by
    rcases List.mem_append.1 hx with hx | hx
    ·exact h.2.2 x hx
    ·simp only [List.mem_singleton] at hx; subst hx; simp only; split <;> omega⟩
   simp only at hx
   have hw : IntKind.i64.wrap (t.next + 1) = t.next + 1 := wr ⟨by omega, by omega⟩
   by_cases hk : k < t.list_.length
   ·rw [List.getElem?_append_left hk] at hx
    obtain ⟨a1, a2, a3, a4, a5⟩ := h.1.2.2.2 k x hx
    refine ⟨by simp only [hw]; omega, fun y hp hy => ?_, a3, a4, a5⟩
    simp only at hy
    rw [List.getElem?_append_left (by omega)] at hy
    exact a2 y hp hy
   ·have hk2 : k = t.list_.length := by
     have := (List.getElem?_eq_some_iff.1 hx).1
     simp at this; omega
    subst hk2
    simp only [List.getElem?_append_right (Nat.le_refl _), Nat.sub_self, List.getElem?_cons_zero, Option.some.injEq] at hx
    subst hx
    refine ⟨by simp only [hw]; omega, fun y hp hy => ?_, by simp only; split <;> omega, by simp only; split <;> split <;> omega, fun _ => by simp only; split <;> omega⟩
    simp only at hy
    rw [List.getElem?_append_left (by omega)] at hy
    obtain ⟨a1, a2, a3, a4, a5⟩ := h.1.2.2.2 _ y hy
    simp only; omega
end Go.Ev
end
section
set_option maxHeartbeats 1000000
namespace Go.Ev
theorem wle (n : Int) : IntKind.i64.wrap n ≤ 9223372036854775807 := by
 have e : IntKind.i64.wrap n = if n % 18446744073709551616 ≥ 9223372036854775808 then n % 18446744073709551616 - 18446744073709551616 else n % 18446744073709551616 := by
  simp [IntKind.wrap, IntKind.bits, IntKind.signed]
 rw [e]
 split <;> omega
theorem ticks_tab {t : DTable} (h : TabC t) (a : Int) (ha : a ≤ 9223372036854775807) : ∃ r, g81 t a = some r ∧ TabC r.1 := by
 obtain ⟨s, h1, _⟩ := g81_eq t a h.1 (by have := h.1.2.2.1; omega)
 exact ⟨_, h1, tick_tab h a ha⟩
abbrev TS (s : Int × Int × (List DLease) × (List UInt8) × Int × Int) : Prop := TabC (DTable.mk s.1 s.2.1 s.2.2.1) ∧ SrcOK (Dl00Src.mk s.2.2.2.1 s.2.2.2.2.1 s.2.2.2.2.2) 200
theorem g39_ok (code : List UInt8) (hc : code.length ≤ 1048576) : ∃ t, g39 code = some t ∧ TabC t := by
 obtain ⟨s0, s1, s2⟩ := g83_ok code hc
 have hw0 : IntKind.i64.wrap (((s0.code_.length : Int)).tdiv 12) = ((s0.code_.length / 12 : Nat) : Int) := sdv 12 (by have := s2.1; omega)
 obtain ⟨r1, p1, p2⟩ : ∃ r1, g118 s0 10 = some r1 ∧ (0 ≤ r1 ∧ r1 ≤ 10) := by
  simp only [g118, hw0, bindv]
  have hw1 : IntKind.i64.wrap (1 + ((s0.code_.length / 12 : Nat) : Int)) = 1 + ((s0.code_.length / 12 : Nat) : Int) := wr ⟨by omega, by have := s2.1; omega⟩
  rw [hw1]
  exact ⟨_, rfl, by split <;> omega⟩
 have hw2 : IntKind.i64.wrap (r1 + 2) = r1 + 2 := wr ⟨by omega, by omega⟩
 obtain ⟨v, s3, e1, e2, e3⟩ := g117_ok (n := r1 + 2) s2 (by omega) (by omega)
 have hv : v ≤ 11 := by have := e2.2.2 (by omega); omega
 have tab0 : TabC (DTable.mk 0 1 []) := ⟨⟨by simp, ⟨by simp, by simp⟩, by simp, fun k x hx => by simp at hx⟩, by simp, by simp⟩
 obtain ⟨q, q1, q2⟩ := iterI (step := g84_l0) (fun s => 0 ≤ s.1 ∧ s.1 ≤ 12 ∧ TabC (DTable.mk s.2.1 s.2.2.1 s.2.2.2.1) ∧ SrcOK (Dl00Src.mk s.2.2.2.2.1 s.2.2.2.2.2.1 s.2.2.2.2.2.2) (200 - 12 * s.1)) (fun s => s.1.toNat) TS (v, 0, 1, [], s3.code_, s3.at_, s3.seed)
  ⟨e2.1, by simp only; omega, tab0, e3.mono (by simp only; omega)⟩ (by
  rintro ⟨n, ck, nx, L, cd, at_, sd⟩ ⟨i1, i2, i3, i4⟩
  simp only at i1 i2 i3 i4
  simp only [g84_l0]
  by_cases h0 : n > 0
  ·rw [if_pos (decide_eq_true h0)]
   have hwn : IntKind.i64.wrap (n - 1) = n - 1 := wr ⟨by omega, by omega⟩
   have fin : ∀ (t : DTable) (s : Dl00Src) (B : Int), TabC t → SrcOK s B → B ≤ 200 - 12 * (n - 1) →
     (∃ s', g84_j0 n t.clock t.next t.list_ s.code_ s.at_ s.seed = some (.inl s') ∧ (0 ≤ s'.1 ∧ s'.1 ≤ 12 ∧ TabC (DTable.mk s'.2.1 s'.2.2.1 s'.2.2.2.1) ∧ SrcOK (Dl00Src.mk s'.2.2.2.2.1 s'.2.2.2.2.2.1 s'.2.2.2.2.2.2) (200 - 12 * s'.1)) ∧ s'.1.toNat < n.toNat) ∨
     ∃ r, g84_j0 n t.clock t.next t.list_ s.code_ s.at_ s.seed = some (.inr r) ∧ TS r := by
    intro t s B ht hs hB
    simp only [g84_j0, hwn]
    exact .inl ⟨_, rfl, ⟨by simp only; omega, by simp only; omega, ht, hs.mono hB⟩, by simp only; omega⟩
   obtain ⟨o, s5, o1, o2, o3⟩ := g117_ok (n := 6) i4 (by omega) (by omega)
   simp only [o1, Option.bind_some]
   by_cases c0 : o = 0
   ·rw [if_pos (by simp [c0])]
    obtain ⟨x, s6, x1, x2, x3⟩ := g117_ok (n := 9) o3 (by omega) (by omega)
    obtain ⟨r, r1, r2⟩ := ticks_tab i3 (IntKind.i64.wrap (ck + x)) (wle _)
    simp only [x1, Option.bind_some, r1]
    exact fin _ _ _ r2 x3 (by omega)
   ·rw [if_neg (by simp [c0])]
    by_cases c1 : o = 1
    ·rw [if_pos (by simp [c1])]
     obtain ⟨x, s6, x1, x2, x3⟩ := g117_ok (n := 9) o3 (by omega) (by omega)
     obtain ⟨r, r1, r2⟩ := revoke_tab i3 (IntKind.i64.wrap (1 + x))
     simp only [x1, Option.bind_some, r1]
     exact fin _ _ _ r2 x3 (by omega)
    ·rw [if_neg (by simp [c1])]
     by_cases c2 : o = 2
     ·rw [if_pos (by simp [c2])]
      obtain ⟨x, s6, x1, x2, x3⟩ := g117_ok (n := 9) o3 (by omega) (by omega)
      obtain ⟨y, s7, y1, y2, y3⟩ := g117_ok (n := 20) x3 (by omega) (by omega)
      have hy := y2.2.2 (by omega)
      have hwy : IntKind.i64.wrap (1 + y) = 1 + y := wr ⟨by omega, by omega⟩
      obtain ⟨r, r1, r2⟩ := renews_tab i3 (IntKind.i64.wrap (1 + x)) (1 + y) ⟨by omega, by omega⟩
      simp only [x1, y1, Option.bind_some, hwy, r1]
      exact fin _ _ _ r2 y3 (by omega)
     ·rw [if_neg (by simp [c2])]
      obtain ⟨x, s6, x1, x2, x3⟩ := g117_ok (n := 12) o3 (by omega) (by omega)
      obtain ⟨y, s7, y1, y2, y3⟩ := g117_ok (n := 12) x3 (by omega) (by omega)
      have hx := x2.2.2 (by omega)
      have hy := y2.2.2 (by omega)
      have hwx : IntKind.i64.wrap (1 + x) = 1 + x := wr ⟨by omega, by omega⟩
      have hwy : IntKind.i64.wrap (1 + x + y) = 1 + x + y := wr ⟨by omega, by omega⟩
      obtain ⟨r, r1, r2⟩ := grant_tab i3 (1 + x) (1 + x + y) ⟨by omega, by omega, by omega⟩
      simp only [x1, y1, Option.bind_some, hwx, hwy, r1]
      exact fin _ _ _ r2 y3 (by omega)
  ·rw [if_neg (by simpa using h0)]
   exact .inr ⟨_, rfl, i3, i4.mono (by omega)⟩)
 obtain ⟨ck, nx, L, cd, at_, sd⟩ := q
 obtain ⟨t1, t2⟩ := q2
 simp only at t1 t2
 obtain ⟨w, s8, w1, w2, w3⟩ := g117_ok (n := 20) t2 (by omega) (by omega)
 simp only [g39, s1, g84, p1, hw2, e1, q1, g119, w1, Option.bind_some]
 by_cases hb : (w == IntKind.i64.wrap (20 - 1)) = true
 ·rw [if_pos hb]
  obtain ⟨y, s9, y1, y2, y3⟩ := g117_ok (n := 20) w3 (by omega) (by omega)
  obtain ⟨r, r1, r2⟩ := ticks_tab t1 (IntKind.i64.wrap (9223372036854775807 - y)) (wle _)
  simp only [y1, Option.bind_some, r1, g84_j1]
  exact ⟨_, rfl, r2⟩
 ·rw [if_neg hb]
  exact ⟨_, rfl, t1⟩
end Go.Ev
end
section
set_option maxHeartbeats 2000000
namespace Go.Ev
theorem g40_at (l : List UInt8) (k : Nat) (n : Int) (hk : k ≤ 1000) (hn : 1 < n ∧ n ≤ 1048576) (hl : l.length ≤ 1048576) : ∃ v : Nat, g40 l (k : Int) n = some (v : Int) ∧ (v : Int) < n := by
 simp only [g40]
 rw [if_neg (by simp; omega)]
 have fin : ∀ v : Int, 0 ≤ v → ∃ u : Nat, v.tmod n = (u : Int) ∧ (u : Int) < n := fun v hv => by
  refine ⟨(v % n).toNat, ?_, ?_⟩
  ·rw [Int.tmod_eq_emod_of_nonneg hv]
   have := Int.emod_nonneg v (show n ≠ 0 by omega); omega
  ·have := Int.emod_lt_of_pos v (show 0 < n by omega)
   have := Int.emod_nonneg v (show n ≠ 0 by omega); omega
 by_cases h0 : l.length = 0
 ·rw [if_pos (by simp [h0]), if_pos (by omega), wr ⟨by omega, by omega⟩]
  obtain ⟨u, u1, u2⟩ := fin ((k : Int) * 7) (by omega)
  exact ⟨u, by rw [u1], u2⟩
 ·rw [if_neg (by simpa using h0), if_pos (by omega)]
  have e1 : (k : Int).tmod (l.length : Int) = ((k % l.length : Nat) : Int) := by
   rw [Int.tmod_eq_emod_of_nonneg (by omega)]; simp
  have e2 : IntKind.i64.wrap ((k : Int) + 1) = ((k + 1 : Nat) : Int) := w1 (by omega)
  have e3 : ((k + 1 : Nat) : Int).tmod (l.length : Int) = (((k + 1) % l.length : Nat) : Int) := by
   rw [Int.tmod_eq_emod_of_nonneg (by omega)]; simp
  have h1 : k % l.length < l.length := Nat.mod_lt _ (by omega)
  have h2 : (k + 1) % l.length < l.length := Nat.mod_lt _ (by omega)
  rw [e1, idx_lt h1]
  simp only [Option.bind_some, e2, e3]
  rw [idx_lt h2]
  simp only [Option.bind_some]
  rw [if_pos (by omega)]
  generalize l[k % l.length] = x
  generalize l[(k + 1) % l.length] = y
  have hx : (x.toNat : Int) < 256 := by have := x.toNat_lt; omega
  have hy : (y.toNat : Int) < 256 := by have := y.toNat_lt; omega
  have hq : k / l.length ≤ k := Nat.div_le_self _ _
  have w1' : IntKind.i64.wrap (x.toNat : Int) = (x.toNat : Int) := wr ⟨by omega, by omega⟩
  have w2 : IntKind.i64.wrap ((x.toNat : Int) * 31) = (x.toNat : Int) * 31 := wr ⟨by omega, by omega⟩
  have w3 : IntKind.i64.wrap (y.toNat : Int) = (y.toNat : Int) := wr ⟨by omega, by omega⟩
  have w4 : IntKind.i64.wrap ((x.toNat : Int) * 31 + (y.toNat : Int)) = (x.toNat : Int) * 31 + (y.toNat : Int) := wr ⟨by omega, by omega⟩
  have w5 : IntKind.i64.wrap ((k : Int).tdiv (l.length : Int)) = ((k / l.length : Nat) : Int) := sdv _ (by omega)
  generalize k / l.length = q at *
  have w6 : IntKind.i64.wrap ((x.toNat : Int) * 31 + (y.toNat : Int) + (q : Int)) = (x.toNat : Int) * 31 + (y.toNat : Int) + (q : Int) := wr ⟨by omega, by omega⟩
  simp only [bindv, w1', w2, w3, w4, w5, w6]
  obtain ⟨u, u1, u2⟩ := fin ((x.toNat : Int) * 31 + (y.toNat : Int) + (q : Int)) (by omega)
  exact ⟨u, by rw [u1], u2⟩
theorem ids_one {t : DTable} (h : TabOK t) {i j : Nat} (hi : i < t.list_.length) (hj : j < t.list_.length) (e : t.list_[i].id = t.list_[j].id) : i = j := by
 rcases Nat.lt_trichotomy i j with hij | hij | hij
 ·have := h.lt hj hij; omega
 ·exact hij
 ·have := h.lt hi hij; omega
theorem find_at {t : DTable} (h : TabOK t) {k : Nat} (hk : k < t.list_.length) : g77 t t.list_[k].id = some ((k : Int), true) := by
 obtain ⟨i, b, e, h1, h2⟩ := g77_eq t h t.list_[k].id (k : Int) (.inr ⟨k, hk, rfl, rfl⟩)
 cases b with
 | false => have := h2 rfl; omega
 | true => rw [e, (h1 rfl).1]
theorem tick_full {t : DTable} (h : TabOK t) (a : Int) : ∃ s : List DLease, g34 t a = some (DTable.mk (nowOf t a) t.next (t.list_.map (markD (nowOf t a))), s.map (·.id), 0) ∧ g35 t a = some (DTable.mk (nowOf t a) t.next (t.list_.map (markD (nowOf t a))), s.map (·.id), 0) ∧ s.Perm (t.list_.filter (duP (nowOf t a))) ∧ s.Pairwise leL := by
 have hl : t.list_.length ≤ 1048576 := by have := h.2.2.1; omega
 have hn : I64 t.next := by have := h.2.1; exact ⟨by omega, by omega⟩
 obtain ⟨s1, e1, p1, q1⟩ := g81_eq t a h hl
 obtain ⟨s2, e2, p2, q2⟩ := g82_eq t a hl
 have es : s1 = s2 := by
  refine sorted_one (p1.trans p2.symm) q1 q2 fun x hx y hy hxy => ?_
  have hx' := (List.mem_filter.1 (p1.mem_iff.1 hx)).1
  have hy' := (List.mem_filter.1 (p1.mem_iff.1 hy)).1
  obtain ⟨i, hi, rfl⟩ := List.getElem_of_mem hx'
  obtain ⟨j, hj, rfl⟩ := List.getElem_of_mem hy'
  have := ids_one h hi hj hxy
  subst this; rfl
 subst es
 refine ⟨s1, ?_, ?_, p1, q1⟩
 ·simp only [g34, g18_eq, Option.bind_some]
  rw [if_neg (by simp [h])]
  simp only [e1, Option.bind_some]
 ·simp only [g35, g20_eq t hl hn, Option.bind_some]
  rw [if_neg (by simp [h])]
  simp only [e2, Option.bind_some]
theorem g20_tab {t : DTable} (h : TabC t) : g20 t = some true := by
 have hl : t.list_.length ≤ 1048576 := by have := h.1.2.2.1; omega
 have hn : I64 t.next := by have := h.1.2.1; exact ⟨by omega, by omega⟩
 rw [g20_eq t hl hn, tf_pos h.1]
theorem g41_self (t : DTable) (h : t.list_.length ≤ 1048576) : g41 t t = some true := by
 have hh := same_loop t.list_ (step := g41_l0 t t) (fun k hk => by
  simp only [g41_l0]
  rw [if_pos (decide_eq_true (by omega)), idx_lt hk]
  simp only [Option.bind_some, bindv]
  rw [if_neg (by simp), w1 (show k < 4611686018427387904 by omega)]) (by
  simp only [g41_l0]
  rw [if_neg (by simp)])
 simp only [g41, bindv]
 rw [if_neg (by simp), hh]
 rfl
theorem g33_at {t : DTable} (h : TabC t) {k : Nat} (hk : k < t.list_.length) (b : Int) (hb : 1 ≤ b ∧ b ≤ 9223372036854775807) :
  (t.list_[k].queued = true → g33 t t.list_[k].id b = some (DTable.mk 0 0 [], 13)) ∧
  (t.list_[k].queued = false → ∃ L : List DLease, ∃ hL : k < L.length, g33 t t.list_[k].id b = some (DTable.mk t.clock t.next L, 0) ∧ TabC (DTable.mk t.clock t.next L) ∧ L[k].until_ ≤ t.list_[k].cap) := by
 have hl : t.list_.length ≤ 1048576 := by have := h.1.2.2.1; omega
 simp only [g33, g20_tab h, Option.bind_some, g80, find_at h.1 hk, Bool.not_true, Bool.false_eq_true, if_false]
 rw [if_neg (by simp; omega)]
 refine ⟨fun hq => ?_, fun hq => ?_⟩
 ·rw [idx_lt hk]
  simp only [Option.bind_some]
  rw [if_pos hq]
  simp only [Option.bind_some]
 ·rw [idx_lt hk]
  simp only [Option.bind_some]
  rw [if_neg (by simp [hq]), g112_eq t hl]
  obtain ⟨r, r1, r2⟩ := g54_eq t.clock b
  have h0 := h.1.1
  rw [later_eq _ _ ⟨h0, h.2.1⟩ hb] at r1
  obtain ⟨a1, a2, a3, a4, a5⟩ := h.1.at hk
  have hcm : t.clock < 9223372036854775807 := by
   have := a5 hq
   have := h.2.2 _ (List.getElem_mem hk)
   omega
  have hgt := later_gt t.clock b ⟨h0, hcm⟩ hb.1
  cases r1
  simp only [Option.bind_some, Int.toNat_natCast, idx_lt hk, List.getElem?_eq_getElem hk, r2, bindv]
  generalize (if t.clock + b ≤ 9223372036854775807 then t.clock + b else 9223372036854775807) = u at *
  have hmin : (if t.list_[k].cap < u then t.list_[k].cap else u) = (if u < t.list_[k].cap then u else t.list_[k].cap) := by split <;> split <;> omega
  rw [hmin]
  refine ⟨_, by simpa using hk, rfl, renew_tab h hk hq u hgt, ?_⟩
  simp only [List.getElem_set_self]
  split <;> omega
theorem g31_at {t : DTable} (h : TabC t) {k : Nat} (hk : k < t.list_.length) :
  (t.list_[k].queued = true → ∃ L : List DLease, g31 t t.list_[k].id = some (DTable.mk t.clock t.next L, 0) ∧ L.length = t.list_.length - 1) ∧
  (t.list_[k].queued = false → g31 t t.list_[k].id = some (DTable.mk 0 0 [], 13)) := by
 have hl : t.list_.length ≤ 1048576 := by have := h.1.2.2.1; omega
 simp only [g31, g20_tab h, Option.bind_some, find_at h.1 hk, Bool.not_true, Bool.false_eq_true, if_false]
 rw [idx_lt hk]
 simp only [Option.bind_some]
 refine ⟨fun hq => ?_, fun hq => ?_⟩
 ·rw [if_neg (by simp [hq])]
  have hw : IntKind.i64.wrap ((k : Int) + 1) = ((k + 1 : Nat) : Int) := wr ⟨by omega, by omega⟩
  have s1 := slc_eq t.list_ 0 k (by omega) (by omega)
  have s2 := slc_eq t.list_ (k + 1) t.list_.length (by omega) (Nat.le_refl _)
  rw [show ((0 : Nat) : Int) = 0 from rfl] at s1
  simp only [g78, g112_eq t hl, Option.bind_some, g115, hw, s1, s2]
  rw [if_pos (by simp; omega)]
  simp only [Option.bind_some, Int.toNat_natCast]
  exact ⟨_, rfl, by simp; omega⟩
 ·rw [if_pos (by simp [hq])]
theorem g11_law (code more : List UInt8) (_ : okL okAny code) (_ : okL okAny more) : g11 code more = some true := by
 simp only [g11, bindv]
 by_cases hc : code.length > 1048576
 ·rw [if_pos (by rw [decide_eq_true (show (code.length : Int) > 1048576 by omega)]; rfl)]
 ·by_cases hm : more.length > 1048576
  ·rw [if_pos (by rw [decide_eq_true (show (more.length : Int) > 1048576 by omega)]; cases decide ((code.length : Int) > 1048576) <;> rfl)]
  ·rw [if_neg (by rw [decide_eq_false (show ¬ (code.length : Int) > 1048576 by omega), decide_eq_false (show ¬ (more.length : Int) > 1048576 by omega)]; simp)]
   obtain ⟨t, t1, t2⟩ := g39_ok code (by omega)
   obtain ⟨v, v1, v2⟩ := g40_at more 0 40 (by omega) (by omega) (by omega)
   rw [show ((0 : Nat) : Int) = 0 from rfl] at v1
   simp only [t1, v1, Option.bind_some]
   have hwa := wle (IntKind.i64.wrap (t.clock + (v : Int)) - 5)
   generalize IntKind.i64.wrap (IntKind.i64.wrap (t.clock + (v : Int)) - 5) = a at *
   obtain ⟨s, e1, e2, e3, e4⟩ := tick_full t2.1 a
   have tT := tick_tab t2 a hwa
   have hge := nowOf_ge t a
   have hlen : (t.list_.map (markD (nowOf t a))).length = t.list_.length := by simp
   have hmk : ∀ k, ∀ hk : k < t.list_.length, (t.list_.map (markD (nowOf t a)))[k]'(by rw [hlen]; exact hk) = markD (nowOf t a) t.list_[k] := fun k hk => by simp
   simp only [e1, e2, Option.bind_some]
   generalize hT : t.list_.map (markD (nowOf t a)) = T at *
   generalize hN : nowOf t a = N at *
   have hT40 := tT.1.2.2.1
   simp only at hT40
   have z : ((0 : Int) != 0) = false := by decide
   simp only [z, beq_self_eq_true, if_true, g41_self _ (show (DTable.mk N t.next T).list_.length ≤ 1048576 by simp only; omega), Option.bind_some, Bool.not_true, cond_false, g20_tab tT]
   rw [if_neg (by simp; omega)]
   have mem : ∀ j, ∀ hj : j < s.length, ∃ k, ∃ hk : k < t.list_.length, s[j] = t.list_[k] ∧ duP N t.list_[k] = true := fun j hj => by
    obtain ⟨h1, h2⟩ := List.mem_filter.1 (e3.mem_iff.1 (List.getElem_mem hj))
    obtain ⟨k, hk, h3⟩ := List.getElem_of_mem h1
    exact ⟨k, hk, h3.symm, by rw [h3]; exact h2⟩
   have inner : ∀ j, ∀ hj : j < s.length, ∀ last : Int, last ≤ s[j].until_ → ∃ r : Int, iter (g11_l1 (DTable.mk N t.next T, s.map (·.id), 0) (j : Int)) (last, 0) = some (.inl r) ∧ r ≤ s[j].until_ := by
    intro j hj last hlast
    obtain ⟨k0, hk0, hs, hd⟩ := mem j hj
    obtain ⟨r, r1, r2⟩ := iterI (step := g11_l1 (DTable.mk N t.next T, s.map (·.id), 0) (j : Int)) (fun q => ∃ n : Nat, q.2 = (n : Int) ∧ n ≤ T.length ∧ q.1 ≤ s[j].until_) (fun q => (T.length - q.2).toNat) (fun r => ∃ p : Int, r = .inl p ∧ p ≤ s[j].until_) (last, 0) ⟨0, rfl, by omega, hlast⟩ (by
     rintro ⟨p, _⟩ ⟨n, rfl, hn, hp⟩
     simp only at hp
     simp only [g11_l1]
     by_cases hlt : n < T.length
     ·rw [if_pos (decide_eq_true (by omega)), idx_lt hlt]
      simp only [Option.bind_some, Int.toNat_natCast]
      have hjm : j < (s.map (·.id)).length := by simpa using hj
      rw [List.getElem?_eq_getElem hlt]
      simp only [Option.bind_some]
      rw [idx_lt hjm, List.getElem?_eq_getElem hjm]
      simp only [Option.bind_some, List.getElem_map, g11_j0, w1 (show n < 4611686018427387904 by omega), bindv]
      by_cases hid : T[n].id = s[j].id
      ·rw [if_pos (by simp [hid])]
       have hn2 : n < t.list_.length := by omega
       have hTn : T[n] = markD N t.list_[n] := hmk n hn2
       have hidn : t.list_[n].id = t.list_[k0].id := by
        rw [hTn, hs] at hid
        rw [← hid]; unfold markD; split <;> rfl
       have hnk := ids_one t2.1 hn2 hk0 hidn
       subst hnk
       have hTq : T[n] = mkQ t.list_[n] := by rw [hTn]; unfold markD; rw [if_pos hd]
       have hun : t.list_[n].until_ ≤ N := by
        simp [duP] at hd; exact hd.2
       rw [hTq, ← hs]
       simp only [mkQ]
       rw [hs] at hp ⊢
       rw [if_neg (by simp; omega)]
       exact .inl ⟨_, rfl, ⟨n + 1, rfl, by omega, by simp only; omega⟩, by simp only; omega⟩
      ·rw [if_neg (by simp [hid])]
       exact .inl ⟨_, rfl, ⟨n + 1, rfl, by omega, hp⟩, by simp only; omega⟩
     ·rw [if_neg (by simpa using hlt)]
      exact .inr ⟨_, rfl, p, rfl, hp⟩)
    obtain ⟨p, rfl, hp⟩ := r2
    exact ⟨p, r1, hp⟩
   obtain ⟨r, r1, r2⟩ := iterI (step := g11_l0 (DTable.mk N t.next T, s.map (·.id), 0)) (fun q => ∃ n : Nat, q.2 = (n : Int) ∧ n ≤ s.length ∧ ∀ j, ∀ hj : j < s.length, n ≤ j → q.1 ≤ s[j].until_) (fun q => (s.length - q.2).toNat) (fun r => r = .inl ()) (0, 0) ⟨0, rfl, by omega, fun j hj _ => by
     obtain ⟨k, hk, h1, h2⟩ := mem j hj
     rw [h1]; exact (t2.1.at hk).2.2.1⟩ (by
    rintro ⟨p, _⟩ ⟨n, rfl, hn, hp⟩
    simp only at hp
    simp only [g11_l0]
    by_cases hlt : n < s.length
    ·rw [if_pos (decide_eq_true (by simp; omega))]
     obtain ⟨q, q1, q2⟩ := inner n hlt p (hp n hlt (Nat.le_refl _))
     simp only [q1, Option.bind_some, w1 (show n < 4611686018427387904 by
      have := e3.length_eq
      have := List.length_filter_le (duP N) t.list_
      have := t2.1.2.2.1
      omega)]
     refine .inl ⟨_, rfl, ⟨n + 1, rfl, by omega, fun j hj hnj => ?_⟩, by simp only; omega⟩
     have := (List.pairwise_iff_getElem.1 e4) n j hlt hj (by omega)
     simp only [leL, lcmp_lt] at this
     simp only; omega
    ·rw [if_neg (by simp; omega)]
     exact .inr ⟨_, rfl, rfl⟩)
   subst r2
   simp only [r1, Option.bind_some]
   have h2 := iter_upto (step := g11_l2 more (DTable.mk N t.next T, s.map (·.id), 0)) (fun k => (k : Int)) T.length (.inl ()) (fun k hk => by
    obtain ⟨u, u1, u2⟩ := g40_at more k 50 (by omega) (by omega) (by omega)
    have hwu : IntKind.i64.wrap (1 + (u : Int)) = 1 + (u : Int) := wr ⟨by omega, by omega⟩
    obtain ⟨a1, a2⟩ := g33_at tT (k := k) hk (1 + (u : Int)) ⟨by omega, by omega⟩
    obtain ⟨b1, b2⟩ := g31_at tT (k := k) hk
    simp only at a1 a2 b1 b2
    simp only [g11_l2]
    rw [if_pos (decide_eq_true (by omega)), idx_lt hk]
    simp only [Option.bind_some, Int.toNat_natCast]
    rw [List.getElem?_eq_getElem hk]
    simp only [Option.bind_some, u1, hwu, g11_j1, w1 (show k < 4611686018427387904 by omega)]
    by_cases hq : T[k].queued = true
    ·obtain ⟨L, b3, b4⟩ := b1 hq
     rw [a1 hq, b3]
     simp only [Option.bind_some, bindv]
     rw [if_pos hq]
     have hwl : IntKind.i64.wrap ((T.length : Int) - 1) = ((T.length - 1 : Nat) : Int) := sm1 (by omega) (by omega)
     rw [hwl, b4, if_neg (by simp)]
    ·have hq : T[k].queued = false := by simpa using hq
     obtain ⟨L, hL, a3, a4, a5⟩ := a2 hq
     rw [a3, b2 hq]
     simp only [Option.bind_some]
     rw [if_neg (by simp [hq])]
     have z13 : ((13 : Int) != 13) = false := by decide
     have zd : decide (L[k].until_ > T[k].cap) = false := decide_eq_false (by omega)
     simp only [z, z13, cond_false, beq_self_eq_true, if_true, idx_lt hL, List.getElem?_eq_getElem hL, idx_lt hk, List.getElem?_eq_getElem hk, Option.bind_some, zd, g20_tab a4, bindv, Bool.not_true, Bool.false_eq_true, if_false]) (by
    simp only [g11_l2]
    rw [if_neg (by simp)])
   have h2' : iter (g11_l2 more (DTable.mk N t.next T, s.map (·.id), 0)) 0 = some (.inl ()) := h2
   rw [h2']
   rfl
end Go.Ev
end
