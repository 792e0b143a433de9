/- The plain part of the proof: what the functions compute answers as the law says. -/
import Derived.Test.YtdkeomfbpdodiaaQvL
import Derived.Test.YtdkeomfbpdodiaaQgD
import Derived.Test.YtdkeomfbpdodiaaQvM
set_option linter.all false
section
namespace Go.Ev
noncomputable def tf (P : Prop) : Bool := @decide P (Classical.propDecidable P)
@[simp] theorem tf_iff {P : Prop} : tf P = true ↔ P := by unfold tf; exact @decide_eq_true_iff P (Classical.propDecidable P)
@[simp] theorem tf_false {P : Prop} : tf P = false ↔ ¬ P := by rw [← Bool.not_eq_true, tf_iff]
theorem tf_congr {P Q : Prop} (h : P ↔ Q) : tf P = tf Q := by rw [propext h]
theorem tf_pos {P : Prop} (h : P) : tf P = true := tf_iff.2 h
theorem tf_neg {P : Prop} (h : ¬ P) : tf P = false := tf_false.2 h
theorem dec_tf {P : Prop} [Decidable P] : decide P = tf P := by
 by_cases h : P
 ·rw [tf_pos h, decide_eq_true h]
 ·rw [tf_neg h, decide_eq_false h]
theorem tf_and {P Q : Prop} : (tf P && tf Q) = tf (P ∧ Q) := by
 by_cases h : P
 ·rw [tf_pos h, Bool.true_and]; exact tf_congr (by simp [h])
 ·rw [tf_neg h, Bool.false_and, tf_neg (fun hh => h hh.1)]
theorem bif_and {a b : Bool} : (bif a then b else false) = (a && b) := by cases a <;> rfl
theorem if_tf {α : Type} {P : Prop} {a b : α} (h : P) : (if tf P = true then a else b) = a := by rw [tf_pos h]; rfl
theorem if_tfn {α : Type} {P : Prop} {a b : α} (h : ¬ P) : (if tf P = true then a else b) = b := by rw [tf_neg h]; rfl
abbrev I64 (n : Int) : Prop := -9223372036854775808 ≤ n ∧ n ≤ 9223372036854775807
theorem wr {n : Int} (h : I64 n) : IntKind.i64.wrap n = n := by
 obtain ⟨h1, h2⟩ := h
 have e : IntKind.i64.wrap n = if n % 18446744073709551616 ≥ 9223372036854775808 then n % 18446744073709551616 - 18446744073709551616 else n % 18446744073709551616 := by
  simp [IntKind.wrap, IntKind.bits, IntKind.signed]
 rw [e]
 split <;> omega
theorem idx_nat {α : Type} {l : List α} {k : Nat} : idx l (k : Int) = l[k]? := by
 unfold idx
 rw [if_pos (by omega)]
 simp
theorem idx_lt {α : Type} {l : List α} {k : Nat} (h : k < l.length) : idx l (k : Int) = some l[k] := by
 rw [idx_nat, List.getElem?_eq_getElem h]
section
variable {σ ρ : Type} {step : σ → Option (σ ⊕ ρ)}
theorem iter_run (st : Nat → σ) : ∀ n, (∀ k, k < n → step (st k) = some (.inl (st (k + 1)))) → iter step (st 0) = iter step (st n)
 | 0, _ => rfl
 | n + 1, h => by
  rw [iter_run st n fun k hk => h k (by omega), iter_next (h n (by omega))]
theorem iter_upto (st : Nat → σ) (n : Nat) (r : ρ) (h : ∀ k, k < n → step (st k) = some (.inl (st (k + 1)))) (he : step (st n) = some (.inr r)) : iter step (st 0) = some r := by
 rw [iter_run st n h, iter_end he]
theorem iter_first (st : Nat → σ) (n : Nat) (ok : Nat → Prop) (bad : Nat → ρ) (fin : ρ) (h1 : ∀ k, k < n → (∀ j, j < k → ok j) → ok k → step (st k) = some (.inl (st (k + 1))))
  (h2 : ∀ k, k < n → (∀ j, j < k → ok j) → ¬ ok k → step (st k) = some (.inr (bad k))) (he : (∀ j, j < n → ok j) → step (st n) = some (.inr fin)) :
  ((∀ k, k < n → ok k) → iter step (st 0) = some fin) ∧ (∀ k, k < n → (∀ j, j < k → ok j) → ¬ ok k → iter step (st 0) = some (bad k)) := by
 constructor
 ·intro h
  exact iter_upto st n fin (fun k hk => h1 k hk (fun j hj => h j (by omega)) (h k hk)) (he h)
 ·intro k hk hj hn
  rw [iter_run st k fun i hi => h1 i (by omega) (fun j hj' => hj j (by omega)) (hj i hi)]
  exact iter_end (h2 k hk hj hn)
theorem least_of {n : Nat} {ok : Nat → Prop} (h : ¬ ∀ k, k < n → ok k) : ∃ k, k < n ∧ (∀ j, j < k → ok j) ∧ ¬ ok k := by
 obtain ⟨k, hk⟩ := Classical.not_forall.1 h
 rw [Classical.not_imp] at hk
 obtain ⟨h1, h2⟩ := hk
 induction k using Nat.strongRecOn with
 | _ k ih =>
  by_cases hex : ∃ j, j < k ∧ ¬ ok j
  ·obtain ⟨j, hj, hn⟩ := hex
   exact ih j hj (by omega) hn
  ·exact ⟨k, h1, fun j hj => Classical.byContradiction fun hn => hex ⟨j, hj, hn⟩, h2⟩
end
theorem iter_all {α : Type} {step : Int → Option (Int ⊕ (Unit ⊕ Bool))} (l : List α) (ok : Nat → α → Prop)
  (h1 : ∀ k (hk : k < l.length), (∀ j x, j < k → l[j]? = some x → ok j x) → ∃ v : Bool, (v = true ↔ ¬ ok k l[k]) ∧ step (k : Int) = (if v = true then some (.inr (.inr false)) else some (.inl ((k + 1 : Nat) : Int))))
  (h3 : step (l.length : Int) = some (.inr (.inl ()))) : iter step 0 = some (if tf (∀ k x, l[k]? = some x → ok k x) = true then .inl () else .inr false) := by
 have pre : ∀ k, (∀ j, j < k → ∀ h : j < l.length, ok j l[j]) → ∀ j x, j < k → l[j]? = some x → ok j x := fun k hj j x hjk hx => by
  obtain ⟨hlt, rfl⟩ := List.getElem?_eq_some_iff.1 hx
  exact hj j hjk hlt
 have hh := iter_first (step := step) (fun k => (k : Int)) l.length (fun k => ∀ h : k < l.length, ok k l[k]) (fun _ => .inr false) (.inl ()) (fun k hk hj ho => by
  obtain ⟨v, hv, hs⟩ := h1 k hk (pre k hj)
  rw [hs, if_neg (fun h => hv.1 h (ho hk))]) (fun k hk hj ho => by
  obtain ⟨v, hv, hs⟩ := h1 k hk (pre k hj)
  rw [hs, if_pos (hv.2 fun h => ho fun _ => h)]) (fun _ => h3)
 by_cases h : ∀ k x, l[k]? = some x → ok k x
 ·rw [if_tf h]; exact hh.1 fun k hk _ => h k _ (List.getElem?_eq_getElem hk)
 ·rw [if_tfn h]
  obtain ⟨k, hk, hj, ho⟩ := least_of (n := l.length) (ok := fun k => ∀ h : k < l.length, ok k l[k]) fun hall => h fun k x hx => by
   obtain ⟨hlt, rfl⟩ := List.getElem?_eq_some_iff.1 hx
   exact hall k hlt hlt
  exact hh.2 k hk hj ho
theorem gsome {α : Type} [Inhabited α] {g : Bool} {o : Option α} (h : g = true → ∃ y, o = some y) : ∃ y, (if g = true then o else some default) = some y ∧ (g = true → o = some y) := by
 cases g with
 | true => obtain ⟨y, hy⟩ := h rfl; exact ⟨y, by simpa using hy, fun _ => hy⟩
 | false => exact ⟨default, rfl, fun h => by cases h⟩
end Go.Ev
end
section
namespace Go.Ev
theorem g56_eq (a b c : Int) : g56 a b c = some (tf (b ≤ a ∧ a ≤ c)) := by
 simp only [g56, dec_tf, bif_and, tf_and, ge_iff_le]
theorem g63_eq (a b c : Int) : g63 a b c = some (tf (b ≤ a ∧ a ≤ c)) := by
 simp only [g63, dec_tf, bif_and, tf_and]
theorem g58_eq (a : Int) : g58 a = some (tf (1 ≤ a ∧ a ≤ 1000000)) := by
 simp only [g58, g63_eq, Option.bind_some]
end Go.Ev
namespace Go.Ev
def Rising (l : List Int) (a b : Int) : Prop := ∀ k x, l[k]? = some x → (a ≤ x ∧ x ≤ b) ∧ ∀ y, 0 < k → l[k - 1]? = some y → y < x
theorem g59_eq (l : List Int) (a b : Int) (hl : l.length ≤ 1048576) : g59 l a b = some (tf (Rising l a b)) := by
 have h : iter (g59_l0 l a b) 0 = some (if tf (Rising l a b) = true then .inl () else .inr false) := by
  refine iter_all l _ (fun k hk _ => ?_) ?_
  ·have hw2 : IntKind.i64.wrap ((k : Int) - 1) = (k : Int) - 1 := wr ⟨by omega, by omega⟩
   have hw3 : IntKind.i64.wrap ((k : Int) + 1) = ((k + 1 : Nat) : Int) := wr ⟨by omega, by omega⟩
   simp only [g59_l0]
   rw [if_pos (decide_eq_true (by omega)), idx_lt hk]
   generalize hx : l[k] = x
   simp only [Option.bind_some, g63_eq, hw2]
   have hm : 0 < k → idx l ((k : Int) - 1) = l[k - 1]? := fun h => by
    have : ((k : Int) - 1) = ((k - 1 : Nat) : Int) := by omega
    rw [this, idx_nat]
   obtain ⟨y, h1, h2⟩ := gsome (o := idx l ((k : Int) - 1)) (g := ((!tf (a ≤ x ∧ x ≤ b)) == false && decide ((k : Int) > 0) == true)) (fun h => by
    rw [hm (by simp at h; omega)]
    exact ⟨_, List.getElem?_eq_getElem (by omega)⟩)
   rw [h1]
   simp only [Option.bind_some, bindv, hw3]
   refine ⟨_, ?_, rfl⟩
   by_cases hr : a ≤ x ∧ x ≤ b
   ·by_cases hk0 : 0 < k
    ·have hy : l[k - 1]? = some y := by rw [← hm hk0]; exact h2 (by simp [tf_iff, hr]; omega)
     have e3 : (∀ z, 0 < k → l[k - 1]? = some z → z < x) ↔ y < x := by
      rw [hy]; exact ⟨fun h => h y hk0 rfl, fun h z _ hz => by cases hz; exact h⟩
     rw [e3]
     simp [hr]; omega
    ·have e3 : (∀ z, 0 < k → l[k - 1]? = some z → z < x) ↔ True := ⟨fun _ => trivial, fun _ z h => absurd h hk0⟩
     rw [e3]
     simp [hr]; omega
   ·have : tf (a ≤ x ∧ x ≤ b) = false := tf_neg hr
    rw [this]; simp [hr]
  ·simp only [g59_l0]
   rw [if_neg (by simp)]
 simp only [g59, h, Option.bind_some]
 split
 ·rename_i e; split at e
  ·rename_i hh; rw [hh]
  ·cases e
 ·rename_i q e; split at e
  ·cases e
  ·rename_i hh; cases e; rw [Bool.not_eq_true] at hh; rw [hh]
end Go.Ev
end
section
namespace Go.Ev
theorem iterI {σ ρ : Type} {step : σ → Option (σ ⊕ ρ)} (I : σ → Prop) (μ : σ → Nat) (R : ρ → Prop) (s0 : σ) (h0 : I s0)
  (h : ∀ s, I s → (∃ s', step s = some (.inl s') ∧ I s' ∧ μ s' < μ s) ∨ (∃ r, step s = some (.inr r) ∧ R r)) : ∃ r, iter step s0 = some r ∧ R r := by
 have key : ∀ (n : Nat) (s0 : σ), μ s0 < n → I s0 → ∃ r, iter step s0 = some r ∧ R r := by
  intro n
  induction n with
  | zero => intro s0 hn; omega
  | succ n ih =>
   intro s0 hn hI
   rcases h s0 hI with ⟨s', h1, h2, h3⟩ | ⟨r, h1, h2⟩
   ·obtain ⟨r, h4, h5⟩ := ih s' (by omega) h2
    exact ⟨r, by rw [iter_next h1, h4], h5⟩
   ·exact ⟨r, iter_end h1, h2⟩
 exact key (μ s0 + 1) s0 (by omega) h0
theorem w1 {k : Nat} (h : k < 4611686018427387904) : IntKind.i64.wrap ((k : Int) + 1) = ((k + 1 : Nat) : Int) := wr ⟨by omega, by omega⟩
theorem slcK {α : Type} (l : List α) (a b : Nat) (h : a ≤ b) (h2 : b ≤ l.length) : slc l (a : Int) (b : Int) = some ((l.take b).drop a) := by
 unfold slc
 rw [if_pos ⟨by omega, by omega, by omega⟩]
 simp
theorem to_loop {α β : Type} (l : List β) (F : β → α) (z : α) {step : List α × Int → Option ((List α × Int) ⊕ List α)}
  (hs : ∀ k (hk : k < l.length) (p : List α), p.length = l.length → step (p, (k : Int)) = some (.inl (p.set k (F l[k]), ((k + 1 : Nat) : Int)))) (he : ∀ p : List α, p.length = l.length → step (p, (l.length : Int)) = some (.inr p)) :
  iter step (List.replicate l.length z, 0) = some (l.map F) := by
 have h := iter_upto (step := step) (fun k => ((l.take k).map F ++ List.replicate (l.length - k) z, (k : Int))) l.length (l.map F) (fun k hk => by
  rw [hs k hk _ (by simp; omega)]
  congr 3
  rw [List.set_append, if_neg (by simp; omega), List.take_succ_eq_append_getElem hk, List.map_append, List.append_assoc]
  congr 1
  have e : l.length - k = (l.length - (k + 1)) + 1 := by omega
  have e2 : k - ((l.take k).map F).length = 0 := by simp; omega
  rw [e, List.replicate_succ, e2]
  rfl) (by
  rw [he _ (by simp)]
  simp)
 simpa using h
theorem same_loop {α : Type} (l : List α) {step : Int → Option (Int ⊕ (Unit ⊕ Bool))}
  (hs : ∀ k, k < l.length → step (k : Int) = some (.inl ((k + 1 : Nat) : Int))) (he : step (l.length : Int) = some (.inr (.inl ()))) : iter step 0 = some (.inl ()) :=
 iter_upto (step := step) (fun k => (k : Int)) l.length (.inl ()) hs he
def marked {α : Type} (mk : Int → α → α) (w : Nat) (l : List α) (a : Int) : List α := l.mapIdx fun i x => mk (a + (w : Int) * (i : Int)) x
@[simp] theorem marked_len {α : Type} (mk : Int → α → α) (w : Nat) (l : List α) (a : Int) : (marked mk w l a).length = l.length := by simp [marked]
theorem marked_get {α : Type} (mk : Int → α → α) (w : Nat) (l : List α) (a : Int) (k : Nat) (h : k < (marked mk w l a).length) :
  (marked mk w l a)[k] = mk (a + (w : Int) * (k : Int)) (l[k]'(by simpa using h)) := by simp [marked]
theorem mark_loop {α : Type} (mk : Int → α → α) (w : Nat) (l : List α) (a : Int) {step : List α × Int × Int → Option ((List α × Int × Int) ⊕ (List α × Int))}
  (hs : ∀ k (p : List α) (hp : p.length = l.length) (hk : k < l.length), step (p, a + (w : Int) * (k : Int), (k : Int)) = some (.inl (p.set k (mk (a + (w : Int) * (k : Int)) (p[k]'(by omega))), a + (w : Int) * ((k + 1 : Nat) : Int), ((k + 1 : Nat) : Int))))
  (he : ∀ (p : List α) c, p.length = l.length → step (p, c, (l.length : Int)) = some (.inr (p, c))) :
  iter step (l, a, 0) = some (marked mk w l a, a + (w : Int) * (l.length : Int)) := by
 have h := iter_upto (step := step) (fun k => (l.mapIdx (fun i x => if i < k then mk (a + (w : Int) * (i : Int)) x else x), a + (w : Int) * (k : Int), (k : Int))) l.length (marked mk w l a, a + (w : Int) * (l.length : Int)) (fun k hk => by
  rw [hs k _ (by simp) hk]
  congr 3
  apply List.ext_getElem
  ·simp
  ·intro j h1 h2
   simp only [List.length_set, List.length_mapIdx] at h1
   simp only [List.getElem_set, List.getElem_mapIdx]
   by_cases e : k = j
   ·subst e; simp
   ·rw [if_neg e]
    by_cases e2 : j < k
    ·simp [e2, show j < k + 1 by omega]
    ·simp [e2, show ¬ j < k + 1 by omega]) (by
  rw [he _ _ (by simp)]
  congr 3
  unfold marked
  apply List.ext_getElem
  ·simp
  ·intro j h1 h2
   simp only [List.length_mapIdx] at h1
   simp [h1])
 simp only [Nat.not_lt_zero, if_false] at h
 have e0 : l.mapIdx (fun (_ : Nat) (x : α) => x) = l := by
  apply List.ext_getElem
  ·simp
  ·intro j h1 h2; simp
 have h' : iter step (l.mapIdx (fun (_ : Nat) (x : α) => x), a + (w : Int) * ((0 : Nat) : Int), ((0 : Nat) : Int)) = some (marked mk w l a, a + (w : Int) * (l.length : Int)) := h
 rw [e0] at h'
 simpa using h'
end Go.Ev
end
section
set_option maxHeartbeats 1000000
namespace Go.Ev
theorem ints_self (l : List Int) (hl : l.length ≤ 1048576) : g36 l l = some true := by
 have h := same_loop l (step := g36_l0 l l) (fun k hk => by
  simp only [g36_l0]
  rw [if_pos (decide_eq_true (by omega)), idx_lt hk]
  simp only [Option.bind_some]
  rw [if_neg (by simp), w1 (show k < 4611686018427387904 by omega)]) (by
  simp only [g36_l0]
  rw [if_neg (by simp)])
 unfold g36
 rw [if_neg (by simp), h]
 rfl
theorem ints_mark (l : List Int) (a : Int) (ha : 0 ≤ a ∧ a ≤ 1099511627776) (hl : l.length ≤ 1048576) : g37 l a = some (a + (l.length : Int), marked (fun c _ => c) 1 l a) := by
 have h := mark_loop (fun c _ => c) 1 l a (step := g37_l0) (fun k p hp hk => by
  simp only [g37_l0]
  rw [if_pos (decide_eq_true (by omega)), idx_lt (l := p) (k := k) (by omega)]
  simp only [Option.bind_some, Int.toNat_natCast]
  rw [List.getElem?_eq_getElem (by omega)]
  have e1 : IntKind.i64.wrap (a + ((1 : Nat) : Int) * (k : Int) + 1) = a + ((1 : Nat) : Int) * ((k + 1 : Nat) : Int) := by rw [wr ⟨by omega, by omega⟩]; omega
  simp only [Option.bind_some, w1 (show k < 4611686018427387904 by omega), e1]) (fun p c hp => by
  simp only [g37_l0]
  rw [if_neg (by simp; omega)])
 simp only [g37, h, Option.bind_some]
 simp
theorem ints_held (l : List Int) (a : Int) (ha : 0 ≤ a ∧ a ≤ 1099511627776) (hl : l.length ≤ 1048576) : g38 (marked (fun c _ => c) 1 l a) a = some (a + (l.length : Int)) := by
 have h := iter_upto (step := g38_l0 (marked (fun c _ => c) 1 l a)) (fun k => (a + (k : Int), (k : Int))) l.length (.inl (a + (l.length : Int))) (fun k hk => by
  simp only [g38_l0]
  rw [if_pos (decide_eq_true (by simp; omega)), idx_lt (by simp; omega)]
  have e1 : IntKind.i64.wrap (a + (k : Int) + 1) = a + ((k + 1 : Nat) : Int) := by rw [wr ⟨by omega, by omega⟩]; omega
  simp only [Option.bind_some, w1 (show k < 4611686018427387904 by omega), e1, marked_get]
  rw [if_neg (by simp)]) (by
  simp only [g38_l0]
  rw [if_neg (by simp)])
 have h' : iter (g38_l0 (marked (fun c _ => c) 1 l a)) (a, 0) = some (.inl (a + (l.length : Int))) := by
  rw [show a + ((0 : Nat) : Int) = a by simp] at h; exact h
 simp only [g38, h', Option.bind_some]
theorem ints_to (l : List Int) (hl : l.length ≤ 1048576) : g43 l = some l := by
 have h := to_loop l (fun x => x) 0 (step := g43_l0 l) (fun k hk p hp => by
  simp only [g43_l0]
  rw [if_pos (decide_eq_true (by omega)), idx_lt hk]
  simp only [Option.bind_some]
  rw [idx_lt (l := p) (k := k) (by omega)]
  simp only [Option.bind_some, Int.toNat_natCast, w1 (show k < 4611686018427387904 by omega)]
  rw [List.getElem?_eq_getElem (by omega)]
  rfl) (fun p hp => by
  simp only [g43_l0]
  rw [if_neg (by simp)])
 simp only [List.map_id'] at h
 unfold g43
 rw [if_pos (by omega), if_pos (by omega), Int.toNat_natCast]
 simp only [h, Option.bind_some]
theorem Rising.lt {l : List Int} {a b : Int} (h : Rising l a b) {i j : Nat} (hj : j < l.length) (hij : i < j) : l[i] < l[j] := by
 induction j with
 | zero => omega
 | succ j ih =>
  have h1 := (h (j + 1) l[j + 1] (List.getElem?_eq_getElem hj)).2 l[j] (by omega) (List.getElem?_eq_getElem (by omega))
  by_cases e : i = j
  ·subst e; exact h1
  ·have := ih (by omega) (by omega); omega
def CutAt (l : List Int) (x : Int) (p : Nat) : Prop := p ≤ l.length ∧ (∀ k, ∀ h : k < l.length, k < p → l[k] < x) ∧ ∀ k, ∀ h : k < l.length, p ≤ k → x ≤ l[k]
theorem cut_ex {l : List Int} {a b : Int} (h : Rising l a b) (x : Int) : ∃ p, CutAt l x p := by
 by_cases hall : ∀ k, k < l.length → l[k]?.getD 0 < x
 ·refine ⟨l.length, Nat.le_refl _, fun k hk _ => ?_, fun k hk hh => by omega⟩
  have := hall k hk
  rwa [List.getElem?_eq_getElem hk] at this
 ·obtain ⟨p, hp, h1, h2⟩ := least_of (ok := fun k => l[k]?.getD 0 < x) hall
  rw [List.getElem?_eq_getElem hp] at h2
  simp only [Option.getD_some] at h2
  refine ⟨p, Nat.le_of_lt hp, fun k hk hkp => ?_, fun k hk hpk => ?_⟩
  ·have := h1 k hkp
   rwa [List.getElem?_eq_getElem hk] at this
  ·by_cases e : k = p
   ·subst e; omega
   ·have := h.lt hk (show p < k by omega)
    omega
theorem CutAt.one {l : List Int} {x : Int} {p q : Nat} (h1 : CutAt l x p) (h2 : CutAt l x q) : p = q := by
 obtain ⟨a1, a2, a3⟩ := h1
 obtain ⟨b1, b2, b3⟩ := h2
 by_cases h : p < q
 ·have := b2 p (by omega) h; have := a3 p (by omega) (Nat.le_refl _); omega
 ·by_cases h' : q < p
  ·have := a2 q (by omega) h'; have := b3 q (by omega) (Nat.le_refl _); omega
  ·omega
theorem isNaN_eq (a : Int) : g136 a = some false ∧ g141 a = some false := by simp [g136, g141]
theorem less_eq (a b : Int) : g140 a b = some (decide (a < b)) := by simp [g140, (isNaN_eq a).1, bindv]
theorem halfN (a : Nat) (h : a ≤ 4194304) : IntKind.i64.wrap (ishr .u64 (IntKind.u64.wrap (IntKind.i64.wrap (a : Int))) 1) = ((a / 2 : Nat) : Int) := by
 have h1 : IntKind.u64.wrap (a : Int) = a := by
  have e : IntKind.u64.wrap (a : Int) = (a : Int) % 18446744073709551616 := by simp [IntKind.wrap, IntKind.bits, IntKind.signed]
  rw [e]; omega
 have h2 : (2 : Int) ^ min (1 : Int).toNat 64 = 2 := by decide
 rw [wr (n := (a : Int)) ⟨by omega, by omega⟩, h1]
 simp only [ishr, h2]
 rw [Int.fdiv_eq_ediv_of_nonneg _ (by omega), wr ⟨by omega, by omega⟩]
 omega
def AtCut (l : List Int) (x : Int) (p : Nat) : Bool := decide (l[p]? = some x)
theorem g121_eq {l : List Int} {a b : Int} (h : Rising l a b) (hl : l.length ≤ 1048576) (x : Int) {p : Nat} (hp : CutAt l x p) : g121 l x = some ((p : Int), AtCut l x p) := by
 obtain ⟨r, h1, h2⟩ := iterI (step := g121_l0 l x) (fun s => ∃ i j : Nat, s = ((i : Int), (j : Int)) ∧ i ≤ j ∧ j ≤ l.length ∧ (∀ k, ∀ h : k < l.length, k < i → l[k] < x) ∧ ∀ k, ∀ h : k < l.length, j ≤ k → x ≤ l[k])
  (fun s => (s.2 - s.1).toNat) (fun r => ∃ i : Nat, r = i ∧ CutAt l x i) (0, (l.length : Int))
  ⟨0, l.length, rfl, by omega, by omega, by intros; omega, by intros; omega⟩ (by
   rintro _ ⟨i, j, rfl, hij, hj, ha, hb⟩
   simp only [g121_l0]
   by_cases hlt : i < j
   ·have e : (i : Int) + (j : Int) = ((i + j : Nat) : Int) := by omega
    rw [if_pos (decide_eq_true (by omega)), e, halfN _ (by omega)]
    have hm : (i + j) / 2 < l.length := by omega
    simp only [bindv, idx_lt hm, Option.bind_some, less_eq]
    have hw : IntKind.i64.wrap (((i + j) / 2 : Nat) + 1 : Int) = (((i + j) / 2 + 1 : Nat) : Int) := wr ⟨by omega, by omega⟩
    rw [hw]
    left
    by_cases hc : l[(i + j) / 2] < x
    ·rw [if_pos (decide_eq_true hc)]
     refine ⟨_, rfl, ⟨_, j, rfl, by omega, hj, fun k hk hki => ?_, hb⟩, by simp only; omega⟩
     by_cases e : k = (i + j) / 2
     ·subst e; exact hc
     ·have := h.lt hm (show k < (i + j) / 2 by omega); omega
    ·rw [if_neg (by simpa using hc)]
     refine ⟨_, rfl, ⟨i, _, rfl, by omega, by omega, ha, fun k hk hki => ?_⟩, by simp only; omega⟩
     by_cases e : k = (i + j) / 2
     ·subst e; omega
     ·have := h.lt hk (show (i + j) / 2 < k by omega); omega
   ·rw [if_neg (by simp; omega)]
    exact .inr ⟨_, rfl, i, rfl, by omega, ha, fun k hk hki => hb k hk (by omega)⟩)
 obtain ⟨i, rfl, hi⟩ := h2
 obtain rfl := hi.one hp
 simp only [g121, h1, Option.bind_some]
 by_cases hlt : i < l.length
 ·have hd : decide ((i : Int) < (l.length : Int)) = true := by simp; omega
  simp only [hd, idx_lt hlt, Option.bind_some, bindv, AtCut, List.getElem?_eq_getElem hlt, (isNaN_eq _).2, beq_self_eq_true, if_true, Bool.true_and, Option.some.injEq, cond_true]
  by_cases hx : l[i] = x
  ·simp [hx]
  ·simp [hx]
 ·have hd : decide ((i : Int) < (l.length : Int)) = false := by simp; omega
  have hd2 : (false == true) = false := rfl
  simp only [hd, hd2, Bool.false_and, Bool.false_eq_true, if_false, Option.bind_some, bindv, cond_false, AtCut, List.getElem?_eq_none (show l.length ≤ i by omega), reduceCtorEq, decide_false]
def called (l : List Int) (x : Int) (create : Bool) (p : Nat) : List Int :=
 if create = true then (if AtCut l x p = true then l else l.take p ++ [x] ++ l.drop p) else if AtCut l x p = true then l.take p ++ l.drop (p + 1) else l
def codeOf (f : Int) : Int := if (f == 2) = true then 15 else 0
theorem called_len {l : List Int} {x : Int} {c : Bool} {p : Nat} : (called l x c p).length ≤ l.length + 1 := by
 unfold called
 split
 ·split
  ·omega
  ·simp; omega
 ·split
  ·simp; omega
  ·omega
theorem g89_eq {l : List Int} {a b : Int} (h : Rising l a b) (hl : l.length ≤ 1048575) (x : Int) (c : Bool) (f : Int) {p : Nat} (hp : CutAt l x p) :
  g89 l x c f = some (if (f == 1) = true then (l, 13) else (called l x c p, codeOf f)) := by
 have hc : g120 l = some l := by unfold g120; rw [if_pos (by simp; omega)]
 have j : ∀ q, g89_j0 f q = some (q, codeOf f) := fun q => by unfold g89_j0 codeOf; split <;> rfl
 simp only [g89, hc, Option.bind_some, g121_eq h (by omega) x hp, j]
 by_cases hf : (f == 1) = true
 ·simp [hf]
 ·have hp1 := hp.1
  simp only [hf, if_false]
  cases c with
  | true =>
   simp only [cond_true, called, if_true, Bool.not_true, cond_false, Bool.false_eq_true, if_false]
   cases hat : AtCut l x p with
   | true => simp
   | false =>
    simp only [Bool.not_false, if_true, Bool.false_eq_true, if_false, g122]
    rw [if_pos ⟨⟨by omega, by omega⟩, by simp, by simp; omega⟩]
    simp
  | false =>
   simp only [cond_false, called, Bool.false_eq_true, if_false, Bool.not_false, cond_true]
   cases hat : AtCut l x p with
   | false => simp
   | true =>
    have hlt : p < l.length := by
     simp only [AtCut, decide_eq_true_eq] at hat
     exact (List.getElem?_eq_some_iff.1 hat).1
    have hw : IntKind.i64.wrap ((p : Int) + 1) = ((p + 1 : Nat) : Int) := w1 (by omega)
    simp only [if_true, hw, g123]
    rw [if_pos ⟨⟨by omega, by omega, by omega⟩, by omega⟩]
    simp
theorem g86_eq {l : List Int} (hl : l.length ≤ 1048575) (x : Int) (c : Bool) (f : Int) {p : Nat} (hp : CutAt l x p) :
  g86 l x c f = some (if (f == 1) = true then (l, 13) else (called l x c p, codeOf f)) := by
 obtain ⟨hp1, hp2, hp3⟩ := hp
 have hloop : iter (g86_l0 l x) ([], 0) = some (l.take p) := by
  have h := iter_upto (step := g86_l0 l x) (fun k => (l.take k, (k : Int))) p (l.take p) (fun k hk => by
   have hkl : k < l.length := by omega
   simp only [g86_l0]
   rw [decide_eq_true (show (k : Int) < (l.length : Int) by omega)]
   simp only [beq_self_eq_true, if_true, idx_lt hkl, Option.bind_some, bindv, cond_true]
   rw [if_pos (decide_eq_true (hp2 k hkl hk)), if_pos (by simp; omega), w1 (by omega), List.take_succ_eq_append_getElem hkl]) (by
   simp only [g86_l0]
   by_cases hlt : p < l.length
   ·rw [decide_eq_true (show (p : Int) < (l.length : Int) by omega)]
    simp only [beq_self_eq_true, if_true, idx_lt hlt, Option.bind_some, bindv, cond_true]
    rw [if_neg (by have := hp3 p hlt (Nat.le_refl _); simp; omega)]
   ·rw [decide_eq_false (show ¬ (p : Int) < (l.length : Int) by omega)]
    simp [bindv])
  simpa using h
 have hlen : ((l.take p).length : Int) = (p : Int) := by simp; omega
 have hj1 : ∀ (o : List Int) (k : Nat), k ≤ l.length → o.length ≤ l.length + 1 → g86_j1 l f o (k : Int) = some (o ++ l.drop k, codeOf f) := fun o k hk ho => by
  simp only [g86_j1]
  rw [slcK l k l.length hk (Nat.le_refl _), List.take_length]
  simp only [Option.bind_some]
  rw [if_pos (by simp; omega)]
  unfold codeOf; split <;> rfl
 have hj0 : ∀ o : List Int, o.length ≤ l.length + 1 → g86_j0 l x f (l.take p) o = some (o ++ l.drop (if AtCut l x p = true then p + 1 else p), codeOf f) := fun o ho => by
  simp only [g86_j0, hlen]
  by_cases hlt : p < l.length
  ·rw [decide_eq_true (show (p : Int) < (l.length : Int) by omega)]
   simp only [beq_self_eq_true, if_true, idx_lt hlt, Option.bind_some, bindv, cond_true, AtCut, List.getElem?_eq_getElem hlt, Option.some.injEq]
   by_cases hx : l[p] = x
   ·simp only [hx, beq_self_eq_true, if_true, decide_true]
    rw [w1 (by omega), hj1 o (p + 1) (by omega) ho]
   ·have : (l[p] == x) = false := by simpa using hx
    simp only [this, hx, decide_false, Bool.false_eq_true, if_false]
    rw [hj1 o p (by omega) ho]
  ·rw [decide_eq_false (show ¬ (p : Int) < (l.length : Int) by omega)]
   have : AtCut l x p = false := by simp [AtCut, List.getElem?_eq_none (show l.length ≤ p by omega)]
   simp only [this, bindv, cond_false, Bool.false_eq_true, if_false, Bool.false_beq, Option.bind_some]
   simp [hj1 o p (by omega) ho]
 by_cases hf : (f == 1) = true
 ·simp [g86, hf]
 ·simp only [g86, hf, Bool.false_eq_true, if_false, hloop, Option.bind_some]
  have hsplit : AtCut l x p = true → l.take p ++ [x] ++ l.drop (p + 1) = l := fun hat => by
   simp only [AtCut, decide_eq_true_eq] at hat
   obtain ⟨hlt, hx⟩ := List.getElem?_eq_some_iff.1 hat
   rw [← hx, ← List.take_succ_eq_append_getElem hlt, List.take_append_drop]
  cases c with
  | true =>
   simp only [if_true]
   rw [if_pos (by simp; omega), hj0 _ (by simp; omega)]
   simp only [called, if_true]
   cases hat : AtCut l x p with
   | true => simp only [if_true, hsplit hat]
   | false => simp
  | false =>
   simp only [Bool.false_eq_true, if_false]
   rw [hj0 _ (by simp; omega)]
   simp only [called, Bool.false_eq_true, if_false]
   cases hat : AtCut l x p with
   | true => simp
   | false => simp
theorem g85_eq (l : List Int) (a : Int) (ha : I64 (a - 1)) (hl : l.length ≤ 1048576) : g85 l a = some (tf (Rising l 1 (a - 1))) := by
 have h : iter (g85_l0 l a) 0 = some (if tf (Rising l 1 (a - 1)) = true then .inl () else .inr false) := by
  refine iter_all l _ (fun k hk _ => ?_) ?_
  ·have hw2 : IntKind.i64.wrap ((k : Int) - 1) = (k : Int) - 1 := wr ⟨by omega, by omega⟩
   have hw3 : IntKind.i64.wrap ((k : Int) + 1) = ((k + 1 : Nat) : Int) := wr ⟨by omega, by omega⟩
   simp only [g85_l0]
   rw [if_pos (decide_eq_true (by omega)), idx_lt hk, wr ha]
   generalize hx : l[k] = x
   simp only [Option.bind_some, g56_eq, hw2]
   have hm : 0 < k → idx l ((k : Int) - 1) = l[k - 1]? := fun h => by
    have : ((k : Int) - 1) = ((k - 1 : Nat) : Int) := by omega
    rw [this, idx_nat]
   obtain ⟨y, h1, h2⟩ := gsome (o := idx l ((k : Int) - 1)) (g := ((!tf (1 ≤ x ∧ x ≤ a - 1)) == false && decide ((k : Int) > 0) == true)) (fun h => by
    rw [hm (by simp at h; omega)]
    exact ⟨_, List.getElem?_eq_getElem (by omega)⟩)
   have hx' : idx l (k : Int) = some x := by rw [idx_lt hk, hx]
   obtain ⟨z, h3, h4⟩ := gsome (o := some x) (g := ((!tf (1 ≤ x ∧ x ≤ a - 1)) == false && decide ((k : Int) > 0) == true)) (fun h => ⟨_, rfl⟩)
   rw [h1]
   simp only [Option.bind_some, hx', h3, bindv, hw3]
   refine ⟨_, ?_, rfl⟩
   by_cases hr : 1 ≤ x ∧ x ≤ a - 1
   ·by_cases hk0 : 0 < k
    ·have hg : ((!tf (1 ≤ x ∧ x ≤ a - 1)) == false && decide ((k : Int) > 0) == true) = true := by simp [tf_iff, hr]; omega
     have hy : l[k - 1]? = some y := by rw [← hm hk0]; exact h2 hg
     have hz : x = z := Option.some.inj (h4 hg)
     subst hz
     have e3 : (∀ z, 0 < k → l[k - 1]? = some z → z < x) ↔ y < x := by
      rw [hy]; exact ⟨fun h => h y hk0 rfl, fun h z _ hz => by cases hz; exact h⟩
     rw [e3]
     simp [hr]; omega
    ·have e3 : (∀ z, 0 < k → l[k - 1]? = some z → z < x) ↔ True := ⟨fun _ => trivial, fun _ z h => absurd h hk0⟩
     rw [e3]
     simp [hr]; omega
   ·have : tf (1 ≤ x ∧ x ≤ a - 1) = false := tf_neg hr
    rw [this]; simp [hr]
  ·simp only [g85_l0]
   rw [if_neg (by simp)]
 simp only [g85, h, Option.bind_some]
 split
 ·rename_i e; split at e
  ·rename_i hh; rw [hh]
  ·cases e
 ·rename_i q e; split at e
  ·cases e
  ·rename_i hh; cases e; simp only [Bool.not_eq_true] at hh; rw [hh]
theorem call_eq (l : List Int) (x : Int) (c : Bool) (f : Int) (hl : l.length ≤ 1048576) : ∃ r : List Int × Int, g42 l x c f = some r ∧ g44 l x c f = some r ∧ r.1.length ≤ 1048576 := by
 have hg : g87 l = some (decide ((l.length : Int) ≤ 4096)) := rfl
 simp only [g42, g44, hg, Option.bind_some, g85_eq l 1000001 ⟨by omega, by omega⟩ hl, g59_eq l 1 1000000 hl, g56_eq, g58_eq, g88, g63_eq]
 rw [show (1000001 : Int) - 1 = 1000000 from rfl]
 by_cases h1 : l.length ≤ 4096
 ·have d1 : decide ((l.length : Int) > 4096) = false := by simp; omega
  have d2 : decide ((l.length : Int) ≤ 4096) = true := by simp; omega
  simp only [d1, d2, Bool.false_eq_true, if_false, Bool.not_true]
  by_cases h2 : Rising l 1 1000000
  ·by_cases h3 : 1 ≤ x ∧ x ≤ 1000000
   ·by_cases h4 : 0 ≤ f ∧ f ≤ 2
    ·obtain ⟨p, hp⟩ := cut_ex h2 x
     have e1 := g86_eq (l := l) (by omega) x c f hp
     have e2 := g89_eq h2 (by omega) x c f hp
     generalize hq : (if (f == 1) = true then (l, (13 : Int)) else (called l x c p, codeOf f)) = q at e1 e2
     have hql : q.1.length ≤ 4097 := by
      rw [← hq]; split
      ·simp only; omega
      ·have := called_len (l := l) (x := x) (c := c) (p := p)
       simp only; omega
     refine ⟨q, ?_, ?_, by omega⟩
     ·simp only [tf_pos h2, tf_pos h3, tf_pos h4, e1, Bool.not_true, beq_self_eq_true, if_true, Option.bind_some, cond_false, Bool.false_eq_true, if_false, List.nil_append]
      rw [if_pos (by simp; omega)]
     ·simp [tf_pos h2, tf_pos h3, tf_pos h4, e2]
    ·exact ⟨([], 4), by simp [tf_pos h2, tf_pos h3, tf_neg h4], by simp [tf_pos h2, tf_pos h3, tf_neg h4], by simp⟩
   ·exact ⟨([], 1), by simp [tf_pos h2, tf_neg h3], by simp [tf_pos h2, tf_neg h3], by simp⟩
  ·exact ⟨([], 1), by simp [tf_neg h2], by simp [tf_neg h2], by simp⟩
 ·have d1 : decide ((l.length : Int) > 4096) = true := by simp; omega
  have d2 : decide ((l.length : Int) ≤ 4096) = false := by simp; omega
  simp only [d1, d2, if_true, Bool.not_false]
  exact ⟨([], 2), rfl, rfl, by simp⟩
theorem g12_law (a0 : List Int) (a1 : Int) (a2 : Bool) (a3 : Int) (_ : okL ok64 a0) (_ : ok64 a1) (_ : okAny a2) (_ : ok64 a3) : g12 a0 a1 a2 a3 = some true := by
 simp only [g12]
 by_cases h : a0.length ≤ 1048576
 ·rw [if_neg (by simp; omega)]
  obtain ⟨r, e1, e2, hr⟩ := call_eq a0 a1 a2 a3 h
  have n1 : ¬ 1 + (a0.length : Int) < 0 := by omega
  have n2 : ¬ 1 + (r.1.length : Int) < 0 := by omega
  have n3 : 0 ≤ 1 + (a0.length : Int) := by omega
  have n4 : 0 ≤ 1 + (r.1.length : Int) := by omega
  simp [ints_to a0 h, e1, e2, ints_self _ hr, ints_self _ h, ints_mark a0 1 (by omega) h, ints_mark r.1 1 (by omega) hr, ints_held r.1 1 (by omega) hr, bindv, n1, n2, n3, n4]
 ·rw [if_pos (by simp; omega)]
end Go.Ev
end
