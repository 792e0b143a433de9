/- The plain part of the proof: what the functions compute answers as the law says. -/
import Derived.Test.YtdkeomfbpdodiaaQvL
import Derived.Test.YtdkeomfbpdodiaaQgD
import Derived.Test.YtdkeomfbpdodiaaQvM
import Derived.Sort.LotA
import Derived.Sort.LotB
import Derived.Sort.LotC
import Derived.Sort.LotD3
import Derived.Sort.LotD5
import Derived.Sort.LotD4
set_option linter.all false
section
namespace Go.Ev
noncomputable def tf (P : Prop) : Bool := @decide P (Classical.propDecidable P)
@[simp] theorem tf_iff {P : Prop} : tf P = true ↔ P := by unfold tf; exact @decide_eq_true_iff P (Classical.propDecidable P)
@[simp] theorem tf_false {P : Prop} : tf P = false ↔ ¬ P := by rw [← Bool.not_eq_true, tf_iff]
theorem tf_congr {P Q : Prop} (h : P ↔ Q) : tf P = tf Q := by rw [propext h]
theorem tf_pos {P : Prop} (h : P) : tf P = true := tf_iff.2 h
theorem tf_neg {P : Prop} (h : ¬ P) : tf P = false := tf_false.2 h
theorem dec_tf {P : Prop} [Decidable P] : decide P = tf P := by
 by_cases h : P
 ·rw [tf_pos h, decide_eq_true h]
 ·rw [tf_neg h, decide_eq_false h]
theorem tf_and {P Q : Prop} : (tf P && tf Q) = tf (P ∧ Q) := by
 by_cases h : P
 ·rw [tf_pos h, Bool.true_and]; exact tf_congr (by simp [h])
 ·rw [tf_neg h, Bool.false_and, tf_neg (fun hh => h hh.1)]
theorem bif_and {a b : Bool} : (bif a then b else false) = (a && b) := by cases a <;> rfl
theorem if_tf {α : Type} {P : Prop} {a b : α} (h : P) : (if tf P = true then a else b) = a := by rw [tf_pos h]; rfl
theorem if_tfn {α : Type} {P : Prop} {a b : α} (h : ¬ P) : (if tf P = true then a else b) = b := by rw [tf_neg h]; rfl
abbrev I64 (n : Int) : Prop := -9223372036854775808 ≤ n ∧ n ≤ 9223372036854775807
theorem wr {n : Int} (h : I64 n) : IntKind.i64.wrap n = n := by
 obtain ⟨h1, h2⟩ := h
 have e : IntKind.i64.wrap n = if n % 18446744073709551616 ≥ 9223372036854775808 then n % 18446744073709551616 - 18446744073709551616 else n % 18446744073709551616 := by
  simp [IntKind.wrap, IntKind.bits, IntKind.signed]
 rw [e]
 split <;> omega
theorem idx_nat {α : Type} {l : List α} {k : Nat} : idx l (k : Int) = l[k]? := by
 unfold idx
 rw [if_pos (by omega)]
 simp
theorem idx_lt {α : Type} {l : List α} {k : Nat} (h : k < l.length) : idx l (k : Int) = some l[k] := by
 rw [idx_nat, List.getElem?_eq_getElem h]
section
variable {σ ρ : Type} {step : σ → Option (σ ⊕ ρ)}
theorem iter_run (st : Nat → σ) : ∀ n, (∀ k, k < n → step (st k) = some (.inl (st (k + 1)))) → iter step (st 0) = iter step (st n)
 | 0, _ => rfl
 | n + 1, h => by
  rw [iter_run st n fun k hk => h k (by omega), iter_next (h n (by omega))]
theorem iter_upto (st : Nat → σ) (n : Nat) (r : ρ) (h : ∀ k, k < n → step (st k) = some (.inl (st (k + 1)))) (he : step (st n) = some (.inr r)) : iter step (st 0) = some r := by
 rw [iter_run st n h, iter_end he]
theorem iter_first (st : Nat → σ) (n : Nat) (ok : Nat → Prop) (bad : Nat → ρ) (fin : ρ) (h1 : ∀ k, k < n → (∀ j, j < k → ok j) → ok k → step (st k) = some (.inl (st (k + 1))))
  (h2 : ∀ k, k < n → (∀ j, j < k → ok j) → ¬ ok k → step (st k) = some (.inr (bad k))) (he : (∀ j, j < n → ok j) → step (st n) = some (.inr fin)) :
  ((∀ k, k < n → ok k) → iter step (st 0) = some fin) ∧ (∀ k, k < n → (∀ j, j < k → ok j) → ¬ ok k → iter step (st 0) = some (bad k)) := by
 constructor
 ·intro h
  exact iter_upto st n fin (fun k hk => h1 k hk (fun j hj => h j (by omega)) (h k hk)) (he h)
 ·intro k hk hj hn
  rw [iter_run st k fun i hi => h1 i (by omega) (fun j hj' => hj j (by omega)) (hj i hi)]
  exact iter_end (h2 k hk hj hn)
theorem least_of {n : Nat} {ok : Nat → Prop} (h : ¬ ∀ k, k < n → ok k) : ∃ k, k < n ∧ (∀ j, j < k → ok j) ∧ ¬ ok k := by
 obtain ⟨k, hk⟩ := Classical.not_forall.1 h
 rw [Classical.not_imp] at hk
 obtain ⟨h1, h2⟩ := hk
 induction k using Nat.strongRecOn with
 | _ k ih =>
  by_cases hex : ∃ j, j < k ∧ ¬ ok j
  ·obtain ⟨j, hj, hn⟩ := hex
   exact ih j hj (by omega) hn
  ·exact ⟨k, h1, fun j hj => Classical.byContradiction fun hn => hex ⟨j, hj, hn⟩, h2⟩
end
theorem iter_all {α : Type} {step : Int → Option (Int ⊕ (Unit ⊕ Bool))} (l : List α) (ok : Nat → α → Prop)
  (h1 : ∀ k (hk : k < l.length), (∀ j x, j < k → l[j]? = some x → ok j x) → ∃ v : Bool, (v = true ↔ ¬ ok k l[k]) ∧ step (k : Int) = (if v = true then some (.inr (.inr false)) else some (.inl ((k + 1 : Nat) : Int))))
  (h3 : step (l.length : Int) = some (.inr (.inl ()))) : iter step 0 = some (if tf (∀ k x, l[k]? = some x → ok k x) = true then .inl () else .inr false) := by
 have pre : ∀ k, (∀ j, j < k → ∀ h : j < l.length, ok j l[j]) → ∀ j x, j < k → l[j]? = some x → ok j x := fun k hj j x hjk hx => by
  obtain ⟨hlt, rfl⟩ := List.getElem?_eq_some_iff.1 hx
  exact hj j hjk hlt
 have hh := iter_first (step := step) (fun k => (k : Int)) l.length (fun k => ∀ h : k < l.length, ok k l[k]) (fun _ => .inr false) (.inl ()) (fun k hk hj ho => by
  obtain ⟨v, hv, hs⟩ := h1 k hk (pre k hj)
  rw [hs, if_neg (fun h => hv.1 h (ho hk))]) (fun k hk hj ho => by
  obtain ⟨v, hv, hs⟩ := h1 k hk (pre k hj)
  rw [hs, if_pos (hv.2 fun h => ho fun _ => h)]) (fun _ => h3)
 by_cases h : ∀ k x, l[k]? = some x → ok k x
 ·rw [if_tf h]; exact hh.1 fun k hk _ => h k _ (List.getElem?_eq_getElem hk)
 ·rw [if_tfn h]
  obtain ⟨k, hk, hj, ho⟩ := least_of (n := l.length) (ok := fun k => ∀ h : k < l.length, ok k l[k]) fun hall => h fun k x hx => by
   obtain ⟨hlt, rfl⟩ := List.getElem?_eq_some_iff.1 hx
   exact hall k hlt hlt
  exact hh.2 k hk hj ho
theorem gsome {α : Type} [Inhabited α] {g : Bool} {o : Option α} (h : g = true → ∃ y, o = some y) : ∃ y, (if g = true then o else some default) = some y ∧ (g = true → o = some y) := by
 cases g with
 | true => obtain ⟨y, hy⟩ := h rfl; exact ⟨y, by simpa using hy, fun _ => hy⟩
 | false => exact ⟨default, rfl, fun h => by cases h⟩
end Go.Ev
end
section
namespace Go.Ev
theorem g56_eq (a b c : Int) : g56 a b c = some (tf (b ≤ a ∧ a ≤ c)) := by
 simp only [g56, dec_tf, bif_and, tf_and, ge_iff_le]
theorem g63_eq (a b c : Int) : g63 a b c = some (tf (b ≤ a ∧ a ≤ c)) := by
 simp only [g63, dec_tf, bif_and, tf_and]
theorem g58_eq (a : Int) : g58 a = some (tf (1 ≤ a ∧ a ≤ 1000000)) := by
 simp only [g58, g63_eq, Option.bind_some]
def TabLease (t : DTable) (k : Nat) (x : DLease) : Prop := (1 ≤ x.id ∧ x.id ≤ t.next - 1) ∧ (∀ y, 0 < k → t.list_[k - 1]? = some y → y.id < x.id) ∧ 0 ≤ x.until_ ∧ x.until_ ≤ x.cap ∧ (x.queued = false → t.clock < x.until_)
def TabOK (t : DTable) : Prop := 0 ≤ t.clock ∧ (1 ≤ t.next ∧ t.next ≤ 1000000) ∧ t.list_.length ≤ 40 ∧ ∀ k x, t.list_[k]? = some x → TabLease t k x
end Go.Ev
namespace Go.Ev
def Rising (l : List Int) (a b : Int) : Prop := ∀ k x, l[k]? = some x → (a ≤ x ∧ x ≤ b) ∧ ∀ y, 0 < k → l[k - 1]? = some y → y < x
theorem g59_eq (l : List Int) (a b : Int) (hl : l.length ≤ 1048576) : g59 l a b = some (tf (Rising l a b)) := by
 have h : iter (g59_l0 l a b) 0 = some (if tf (Rising l a b) = true then .inl () else .inr false) := by
  refine iter_all l _ (fun k hk _ => ?_) ?_
  ·have hw2 : IntKind.i64.wrap ((k : Int) - 1) = (k : Int) - 1 := wr ⟨by omega, by omega⟩
   have hw3 : IntKind.i64.wrap ((k : Int) + 1) = ((k + 1 : Nat) : Int) := wr ⟨by omega, by omega⟩
   simp only [g59_l0]
   rw [if_pos (decide_eq_true (by omega)), idx_lt hk]
   generalize hx : l[k] = x
   simp only [Option.bind_some, g63_eq, hw2]
   have hm : 0 < k → idx l ((k : Int) - 1) = l[k - 1]? := fun h => by
    have : ((k : Int) - 1) = ((k - 1 : Nat) : Int) := by omega
    rw [this, idx_nat]
   obtain ⟨y, h1, h2⟩ := gsome (o := idx l ((k : Int) - 1)) (g := ((!tf (a ≤ x ∧ x ≤ b)) == false && decide ((k : Int) > 0) == true)) (fun h => by
    rw [hm (by simp at h; omega)]
    exact ⟨_, List.getElem?_eq_getElem (by omega)⟩)
   rw [h1]
   simp only [Option.bind_some, bindv, hw3]
   refine ⟨_, ?_, rfl⟩
   by_cases hr : a ≤ x ∧ x ≤ b
   ·by_cases hk0 : 0 < k
    ·have hy : l[k - 1]? = some y := by rw [← hm hk0]; exact h2 (by simp [tf_iff, hr]; omega)
     have e3 : (∀ z, 0 < k → l[k - 1]? = some z → z < x) ↔ y < x := by
      rw [hy]; exact ⟨fun h => h y hk0 rfl, fun h z _ hz => by cases hz; exact h⟩
     rw [e3]
     simp [hr]; omega
    ·have e3 : (∀ z, 0 < k → l[k - 1]? = some z → z < x) ↔ True := ⟨fun _ => trivial, fun _ z h => absurd h hk0⟩
     rw [e3]
     simp [hr]; omega
   ·have : tf (a ≤ x ∧ x ≤ b) = false := tf_neg hr
    rw [this]; simp [hr]
  ·simp only [g59_l0]
   rw [if_neg (by simp)]
 simp only [g59, h, Option.bind_some]
 split
 ·rename_i e; split at e
  ·rename_i hh; rw [hh]
  ·cases e
 ·rename_i q e; split at e
  ·cases e
  ·rename_i hh; cases e; rw [Bool.not_eq_true] at hh; rw [hh]
end Go.Ev
end
section
namespace Go.Ev
theorem iterI {σ ρ : Type} {step : σ → Option (σ ⊕ ρ)} (I : σ → Prop) (μ : σ → Nat) (R : ρ → Prop) (s0 : σ) (h0 : I s0)
  (h : ∀ s, I s → (∃ s', step s = some (.inl s') ∧ I s' ∧ μ s' < μ s) ∨ (∃ r, step s = some (.inr r) ∧ R r)) : ∃ r, iter step s0 = some r ∧ R r := by
 have key : ∀ (n : Nat) (s0 : σ), μ s0 < n → I s0 → ∃ r, iter step s0 = some r ∧ R r := by
  intro n
  induction n with
  | zero => intro s0 hn; omega
  | succ n ih =>
   intro s0 hn hI
   rcases h s0 hI with ⟨s', h1, h2, h3⟩ | ⟨r, h1, h2⟩
   ·obtain ⟨r, h4, h5⟩ := ih s' (by omega) h2
    exact ⟨r, by rw [iter_next h1, h4], h5⟩
   ·exact ⟨r, iter_end h1, h2⟩
 exact key (μ s0 + 1) s0 (by omega) h0
theorem w1 {k : Nat} (h : k < 4611686018427387904) : IntKind.i64.wrap ((k : Int) + 1) = ((k + 1 : Nat) : Int) := wr ⟨by omega, by omega⟩
theorem slcK {α : Type} (l : List α) (a b : Nat) (h : a ≤ b) (h2 : b ≤ l.length) : slc l (a : Int) (b : Int) = some ((l.take b).drop a) := by
 unfold slc
 rw [if_pos ⟨by omega, by omega, by omega⟩]
 simp
theorem same_loop {α : Type} (l : List α) {step : Int → Option (Int ⊕ (Unit ⊕ Bool))}
  (hs : ∀ k, k < l.length → step (k : Int) = some (.inl ((k + 1 : Nat) : Int))) (he : step (l.length : Int) = some (.inr (.inl ()))) : iter step 0 = some (.inl ()) :=
 iter_upto (step := step) (fun k => (k : Int)) l.length (.inl ()) hs he
def marked {α : Type} (mk : Int → α → α) (w : Nat) (l : List α) (a : Int) : List α := l.mapIdx fun i x => mk (a + (w : Int) * (i : Int)) x
@[simp] theorem marked_len {α : Type} (mk : Int → α → α) (w : Nat) (l : List α) (a : Int) : (marked mk w l a).length = l.length := by simp [marked]
end Go.Ev
end
section
set_option maxHeartbeats 1000000
namespace Go.Ev
theorem Rising.lt {l : List Int} {a b : Int} (h : Rising l a b) {i j : Nat} (hj : j < l.length) (hij : i < j) : l[i] < l[j] := by
 induction j with
 | zero => omega
 | succ j ih =>
  have h1 := (h (j + 1) l[j + 1] (List.getElem?_eq_getElem hj)).2 l[j] (by omega) (List.getElem?_eq_getElem (by omega))
  by_cases e : i = j
  ·subst e; exact h1
  ·have := ih (by omega) (by omega); omega
def CutAt (l : List Int) (x : Int) (p : Nat) : Prop := p ≤ l.length ∧ (∀ k, ∀ h : k < l.length, k < p → l[k] < x) ∧ ∀ k, ∀ h : k < l.length, p ≤ k → x ≤ l[k]
theorem cut_ex {l : List Int} {a b : Int} (h : Rising l a b) (x : Int) : ∃ p, CutAt l x p := by
 by_cases hall : ∀ k, k < l.length → l[k]?.getD 0 < x
 ·refine ⟨l.length, Nat.le_refl _, fun k hk _ => ?_, fun k hk hh => by omega⟩
  have := hall k hk
  rwa [List.getElem?_eq_getElem hk] at this
 ·obtain ⟨p, hp, h1, h2⟩ := least_of (ok := fun k => l[k]?.getD 0 < x) hall
  rw [List.getElem?_eq_getElem hp] at h2
  simp only [Option.getD_some] at h2
  refine ⟨p, Nat.le_of_lt hp, fun k hk hkp => ?_, fun k hk hpk => ?_⟩
  ·have := h1 k hkp
   rwa [List.getElem?_eq_getElem hk] at this
  ·by_cases e : k = p
   ·subst e; omega
   ·have := h.lt hk (show p < k by omega)
    omega
theorem CutAt.one {l : List Int} {x : Int} {p q : Nat} (h1 : CutAt l x p) (h2 : CutAt l x q) : p = q := by
 obtain ⟨a1, a2, a3⟩ := h1
 obtain ⟨b1, b2, b3⟩ := h2
 by_cases h : p < q
 ·have := b2 p (by omega) h; have := a3 p (by omega) (Nat.le_refl _); omega
 ·by_cases h' : q < p
  ·have := a2 q (by omega) h'; have := b3 q (by omega) (Nat.le_refl _); omega
  ·omega
theorem isNaN_eq (a : Int) : g136 a = some false ∧ g141 a = some false := by simp [g136, g141]
theorem less_eq (a b : Int) : g140 a b = some (decide (a < b)) := by simp [g140, (isNaN_eq a).1, bindv]
theorem halfN (a : Nat) (h : a ≤ 4194304) : IntKind.i64.wrap (ishr .u64 (IntKind.u64.wrap (IntKind.i64.wrap (a : Int))) 1) = ((a / 2 : Nat) : Int) := by
 have h1 : IntKind.u64.wrap (a : Int) = a := by
  have e : IntKind.u64.wrap (a : Int) = (a : Int) % 18446744073709551616 := by simp [IntKind.wrap, IntKind.bits, IntKind.signed]
  rw [e]; omega
 have h2 : (2 : Int) ^ min (1 : Int).toNat 64 = 2 := by decide
 rw [wr (n := (a : Int)) ⟨by omega, by omega⟩, h1]
 simp only [ishr, h2]
 rw [Int.fdiv_eq_ediv_of_nonneg _ (by omega), wr ⟨by omega, by omega⟩]
 omega
def AtCut (l : List Int) (x : Int) (p : Nat) : Bool := decide (l[p]? = some x)
theorem g121_eq {l : List Int} {a b : Int} (h : Rising l a b) (hl : l.length ≤ 1048576) (x : Int) {p : Nat} (hp : CutAt l x p) : g121 l x = some ((p : Int), AtCut l x p) := by
 obtain ⟨r, h1, h2⟩ := iterI (step := g121_l0 l x) (fun s => ∃ i j : Nat, s = ((i : Int), (j : Int)) ∧ i ≤ j ∧ j ≤ l.length ∧ (∀ k, ∀ h : k < l.length, k < i → l[k] < x) ∧ ∀ k, ∀ h : k < l.length, j ≤ k → x ≤ l[k])
  (fun s => (s.2 - s.1).toNat) (fun r => ∃ i : Nat, r = i ∧ CutAt l x i) (0, (l.length : Int))
  ⟨0, l.length, rfl, by omega, by omega, by intros; omega, by intros; omega⟩ (by
   rintro _ ⟨i, j, rfl, hij, hj, ha, hb⟩
   simp only [g121_l0]
   by_cases hlt : i < j
   ·have e : (i : Int) + (j : Int) = ((i + j : Nat) : Int) := by omega
    rw [if_pos (decide_eq_true (by omega)), e, halfN _ (by omega)]
    have hm : (i + j) / 2 < l.length := by omega
    simp only [bindv, idx_lt hm, Option.bind_some, less_eq]
    have hw : IntKind.i64.wrap (((i + j) / 2 : Nat) + 1 : Int) = (((i + j) / 2 + 1 : Nat) : Int) := wr ⟨by omega, by omega⟩
    rw [hw]
    left
    by_cases hc : l[(i + j) / 2] < x
    ·rw [if_pos (decide_eq_true hc)]
     refine ⟨_, rfl, ⟨_, j, rfl, by omega, hj, fun k hk hki => ?_, hb⟩, by simp only; omega⟩
     by_cases e : k = (i + j) / 2
     ·subst e; exact hc
     ·have := h.lt hm (show k < (i + j) / 2 by omega); omega
    ·rw [if_neg (by simpa using hc)]
     refine ⟨_, rfl, ⟨i, _, rfl, by omega, by omega, ha, fun k hk hki => ?_⟩, by simp only; omega⟩
     by_cases e : k = (i + j) / 2
     ·subst e; omega
     ·have := h.lt hk (show (i + j) / 2 < k by omega); omega
   ·rw [if_neg (by simp; omega)]
    exact .inr ⟨_, rfl, i, rfl, by omega, ha, fun k hk hki => hb k hk (by omega)⟩)
 obtain ⟨i, rfl, hi⟩ := h2
 obtain rfl := hi.one hp
 simp only [g121, h1, Option.bind_some]
 by_cases hlt : i < l.length
 ·have hd : decide ((i : Int) < (l.length : Int)) = true := by simp; omega
  simp only [hd, idx_lt hlt, Option.bind_some, bindv, AtCut, List.getElem?_eq_getElem hlt, (isNaN_eq _).2, beq_self_eq_true, if_true, Bool.true_and, Option.some.injEq, cond_true]
  by_cases hx : l[i] = x
  ·simp [hx]
  ·simp [hx]
 ·have hd : decide ((i : Int) < (l.length : Int)) = false := by simp; omega
  have hd2 : (false == true) = false := rfl
  simp only [hd, hd2, Bool.false_and, Bool.false_eq_true, if_false, Option.bind_some, bindv, cond_false, AtCut, List.getElem?_eq_none (show l.length ≤ i by omega), reduceCtorEq, decide_false]
def called (l : List Int) (x : Int) (create : Bool) (p : Nat) : List Int :=
 if create = true then (if AtCut l x p = true then l else l.take p ++ [x] ++ l.drop p) else if AtCut l x p = true then l.take p ++ l.drop (p + 1) else l
def codeOf (f : Int) : Int := if (f == 2) = true then 15 else 0
theorem called_len {l : List Int} {x : Int} {c : Bool} {p : Nat} : (called l x c p).length ≤ l.length + 1 := by
 unfold called
 split
 ·split
  ·omega
  ·simp; omega
 ·split
  ·simp; omega
  ·omega
theorem g89_eq {l : List Int} {a b : Int} (h : Rising l a b) (hl : l.length ≤ 1048575) (x : Int) (c : Bool) (f : Int) {p : Nat} (hp : CutAt l x p) :
  g89 l x c f = some (if (f == 1) = true then (l, 13) else (called l x c p, codeOf f)) := by
 have hc : g120 l = some l := by unfold g120; rw [if_pos (by simp; omega)]
 have j : ∀ q, g89_j0 f q = some (q, codeOf f) := fun q => by unfold g89_j0 codeOf; split <;> rfl
 simp only [g89, hc, Option.bind_some, g121_eq h (by omega) x hp, j]
 by_cases hf : (f == 1) = true
 ·simp [hf]
 ·have hp1 := hp.1
  simp only [hf, if_false]
  cases c with
  | true =>
   simp only [cond_true, called, if_true, Bool.not_true, cond_false, Bool.false_eq_true, if_false]
   cases hat : AtCut l x p with
   | true => simp
   | false =>
    simp only [Bool.not_false, if_true, Bool.false_eq_true, if_false, g122]
    rw [if_pos ⟨⟨by omega, by omega⟩, by simp, by simp; omega⟩]
    simp
  | false =>
   simp only [cond_false, called, Bool.false_eq_true, if_false, Bool.not_false, cond_true]
   cases hat : AtCut l x p with
   | false => simp
   | true =>
    have hlt : p < l.length := by
     simp only [AtCut, decide_eq_true_eq] at hat
     exact (List.getElem?_eq_some_iff.1 hat).1
    have hw : IntKind.i64.wrap ((p : Int) + 1) = ((p + 1 : Nat) : Int) := w1 (by omega)
    simp only [if_true, hw, g123]
    rw [if_pos ⟨⟨by omega, by omega, by omega⟩, by omega⟩]
    simp
theorem g86_eq {l : List Int} (hl : l.length ≤ 1048575) (x : Int) (c : Bool) (f : Int) {p : Nat} (hp : CutAt l x p) :
  g86 l x c f = some (if (f == 1) = true then (l, 13) else (called l x c p, codeOf f)) := by
 obtain ⟨hp1, hp2, hp3⟩ := hp
 have hloop : iter (g86_l0 l x) ([], 0) = some (l.take p) := by
  have h := iter_upto (step := g86_l0 l x) (fun k => (l.take k, (k : Int))) p (l.take p) (fun k hk => by
   have hkl : k < l.length := by omega
   simp only [g86_l0]
   rw [decide_eq_true (show (k : Int) < (l.length : Int) by omega)]
   simp only [beq_self_eq_true, if_true, idx_lt hkl, Option.bind_some, bindv, cond_true]
   rw [if_pos (decide_eq_true (hp2 k hkl hk)), if_pos (by simp; omega), w1 (by omega), List.take_succ_eq_append_getElem hkl]) (by
   simp only [g86_l0]
   by_cases hlt : p < l.length
   ·rw [decide_eq_true (show (p : Int) < (l.length : Int) by omega)]
    simp only [beq_self_eq_true, if_true, idx_lt hlt, Option.bind_some, bindv, cond_true]
    rw [if_neg (by have := hp3 p hlt (Nat.le_refl _); simp; omega)]
   ·rw [decide_eq_false (show ¬ (p : Int) < (l.length : Int) by omega)]
    simp [bindv])
  simpa using h
 have hlen : ((l.take p).length : Int) = (p : Int) := by simp; omega
 have hj1 : ∀ (o : List Int) (k : Nat), k ≤ l.length → o.length ≤ l.length + 1 → g86_j1 l f o (k : Int) = some (o ++ l.drop k, codeOf f) := fun o k hk ho => by
  simp only [g86_j1]
  rw [slcK l k l.length hk (Nat.le_refl _), List.take_length]
  simp only [Option.bind_some]
  rw [if_pos (by simp; omega)]
  unfold codeOf; split <;> rfl
 have hj0 : ∀ o : List Int, o.length ≤ l.length + 1 → g86_j0 l x f (l.take p) o = some (o ++ l.drop (if AtCut l x p = true then p + 1 else p), codeOf f) := fun o ho => by
  simp only [g86_j0, hlen]
  by_cases hlt : p < l.length
  ·rw [decide_eq_true (show (p : Int) < (l.length : Int) by omega)]
   simp only [beq_self_eq_true, if_true, idx_lt hlt, Option.bind_some, bindv, cond_true, AtCut, List.getElem?_eq_getElem hlt, Option.some.injEq]
   by_cases hx : l[p] = x
   ·simp only [hx, beq_self_eq_true, if_true, decide_true]
    rw [w1 (by omega), hj1 o (p + 1) (by omega) ho]
   ·have : (l[p] == x) = false := by simpa using hx
    simp only [this, hx, decide_false, Bool.false_eq_true, if_false]
    rw [hj1 o p (by omega) ho]
  ·rw [decide_eq_false (show ¬ (p : Int) < (l.length : Int) by omega)]
   have : AtCut l x p = false := by simp [AtCut, List.getElem?_eq_none (show l.length ≤ p by omega)]
   simp only [this, bindv, cond_false, Bool.false_eq_true, if_false, Bool.false_beq, Option.bind_some]
   simp [hj1 o p (by omega) ho]
 by_cases hf : (f == 1) = true
 ·simp [g86, hf]
 ·simp only [g86, hf, Bool.false_eq_true, if_false, hloop, Option.bind_some]
  have hsplit : AtCut l x p = true → l.take p ++ [x] ++ l.drop (p + 1) = l := fun hat => by
   simp only [AtCut, decide_eq_true_eq] at hat
   obtain ⟨hlt, hx⟩ := List.getElem?_eq_some_iff.1 hat
   rw [← hx, ← List.take_succ_eq_append_getElem hlt, List.take_append_drop]
  cases c with
  | true =>
   simp only [if_true]
   rw [if_pos (by simp; omega), hj0 _ (by simp; omega)]
   simp only [called, if_true]
   cases hat : AtCut l x p with
   | true => simp only [if_true, hsplit hat]
   | false => simp
  | false =>
   simp only [Bool.false_eq_true, if_false]
   rw [hj0 _ (by simp; omega)]
   simp only [called, Bool.false_eq_true, if_false]
   cases hat : AtCut l x p with
   | true => simp
   | false => simp
theorem g85_eq (l : List Int) (a : Int) (ha : I64 (a - 1)) (hl : l.length ≤ 1048576) : g85 l a = some (tf (Rising l 1 (a - 1))) := by
 have h : iter (g85_l0 l a) 0 = some (if tf (Rising l 1 (a - 1)) = true then .inl () else .inr false) := by
  refine iter_all l _ (fun k hk _ => ?_) ?_
  ·have hw2 : IntKind.i64.wrap ((k : Int) - 1) = (k : Int) - 1 := wr ⟨by omega, by omega⟩
   have hw3 : IntKind.i64.wrap ((k : Int) + 1) = ((k + 1 : Nat) : Int) := wr ⟨by omega, by omega⟩
   simp only [g85_l0]
   rw [if_pos (decide_eq_true (by omega)), idx_lt hk, wr ha]
   generalize hx : l[k] = x
   simp only [Option.bind_some, g56_eq, hw2]
   have hm : 0 < k → idx l ((k : Int) - 1) = l[k - 1]? := fun h => by
    have : ((k : Int) - 1) = ((k - 1 : Nat) : Int) := by omega
    rw [this, idx_nat]
   obtain ⟨y, h1, h2⟩ := gsome (o := idx l ((k : Int) - 1)) (g := ((!tf (1 ≤ x ∧ x ≤ a - 1)) == false && decide ((k : Int) > 0) == true)) (fun h => by
    rw [hm (by simp at h; omega)]
    exact ⟨_, List.getElem?_eq_getElem (by omega)⟩)
   have hx' : idx l (k : Int) = some x := by rw [idx_lt hk, hx]
   obtain ⟨z, h3, h4⟩ := gsome (o := some x) (g := ((!tf (1 ≤ x ∧ x ≤ a - 1)) == false && decide ((k : Int) > 0) == true)) (fun h => ⟨_, rfl⟩)
   rw [h1]
   simp only [Option.bind_some, hx', h3, bindv, hw3]
   refine ⟨_, ?_, rfl⟩
   by_cases hr : 1 ≤ x ∧ x ≤ a - 1
   ·by_cases hk0 : 0 < k
    ·have hg : ((!tf (1 ≤ x ∧ x ≤ a - 1)) == false && decide ((k : Int) > 0) == true) = true := by simp [tf_iff, hr]; omega
     have hy : l[k - 1]? = some y := by rw [← hm hk0]; exact h2 hg
     have hz : x = z := Option.some.inj (h4 hg)
     subst hz
     have e3 : (∀ z, 0 < k → l[k - 1]? = some z → z < x) ↔ y < x := by
      rw [hy]; exact ⟨fun h => h y hk0 rfl, fun h z _ hz => by cases hz; exact h⟩
     rw [e3]
     simp [hr]; omega
    ·have e3 : (∀ z, 0 < k → l[k - 1]? = some z → z < x) ↔ True := ⟨fun _ => trivial, fun _ z h => absurd h hk0⟩
     rw [e3]
     simp [hr]; omega
   ·have : tf (1 ≤ x ∧ x ≤ a - 1) = false := tf_neg hr
    rw [this]; simp [hr]
  ·simp only [g85_l0]
   rw [if_neg (by simp)]
 simp only [g85, h, Option.bind_some]
 split
 ·rename_i e; split at e
  ·rename_i hh; rw [hh]
  ·cases e
 ·rename_i q e; split at e
  ·cases e
  ·rename_i hh; cases e; simp only [Bool.not_eq_true] at hh; rw [hh]
end Go.Ev
end
section
set_option maxHeartbeats 1000000
namespace Go.Ev
open Go.Sort
theorem sdv {i : Nat} (k : Nat) (h : i ≤ 2305843009213693952) : IntKind.i64.wrap ((i : Int).tdiv (k : Int)) = ((i / k : Nat) : Int) := by
 have : i / k ≤ i := Nat.div_le_self _ _
 have e : (i : Int).tdiv (k : Int) = ((i / k : Nat) : Int) := by simp
 rw [e]
 generalize i / k = q at *
 rw [wr ⟨by omega, by omega⟩]
variable {α : Type} [Inhabited α]
variable (c : DLease → DLease → Int)
end Go.Ev
end
section
set_option maxHeartbeats 1000000
namespace Go.Ev
open Go.Sort
variable (c : DLease → DLease → Int)
end Go.Ev
end
section
set_option maxHeartbeats 1000000
namespace Go.Ev
open Go.Sort
variable (c : DLease → DLease → Int)
end Go.Ev
end
section
set_option maxHeartbeats 1000000
namespace Go.Ev
open Go.Sort
variable (c : DLease → DLease → Int)
end Go.Ev
end
section
set_option maxHeartbeats 1000000
set_option maxRecDepth 10000
namespace Go.Ev
open Go.Sort
variable (c : DLease → DLease → Int)
end Go.Ev
end
section
set_option maxHeartbeats 1000000
namespace Go.Ev
open Go.Sort
variable (c : DLease → DLease → Int)
end Go.Ev
end
section
set_option maxHeartbeats 1000000
namespace Go.Ev
open Go.Sort
variable (c : DLease → DLease → Int)
end Go.Ev
end
section
set_option maxHeartbeats 1000000
namespace Go.Ev
open Go.Sort
variable (c : DLease → DLease → Int)
end Go.Ev
end
section
namespace Go.Ev
def lcmp (x y : DLease) : Int := if x.until_ < y.until_ then -1 else if y.until_ < x.until_ then 1 else if x.id < y.id then -1 else if y.id < x.id then 1 else 0
theorem lcmp_lt {x y : DLease} : lcmp x y < 0 ↔ x.until_ < y.until_ ∨ (x.until_ = y.until_ ∧ x.id < y.id) := by
 unfold lcmp; split
 ·simp; omega
 ·split
  ·simp; omega
  ·split
   ·simp; omega
   ·split
    ·simp; omega
    ·simp; omega
theorem TabOK.lt {t : DTable} (h : TabOK t) {i j : Nat} (hj : j < t.list_.length) (hij : i < j) : (t.list_[i]'(by omega)).id < t.list_[j].id := by
 induction j with
 | zero => omega
 | succ j ih =>
  have h1 := (h.2.2.2 (j + 1) _ (List.getElem?_eq_getElem hj)).2.1 t.list_[j] (by omega) (by simp [List.getElem?_eq_getElem (show j < t.list_.length by omega)])
  by_cases e : i = j
  ·subst e; exact h1
  ·have := ih (by omega) (by omega); omega
theorem g111_eq (t : DTable) (hl : t.list_.length ≤ 1048576) : g111 t = some t := by
 unfold g111; rw [if_pos (by simp; omega)]; rfl
end Go.Ev
end
section
set_option maxHeartbeats 1000000
namespace Go.Ev
open Go.Sort
abbrev leL (x y : DLease) : Prop := ¬ lcmp y x < 0
end Go.Ev
end
section
set_option maxHeartbeats 1000000
namespace Go.Ev
def duP (N : Int) (y : DLease) : Bool := !y.queued && decide (y.until_ ≤ N)
abbrev mkQ (y : DLease) : DLease := DLease.mk y.id y.until_ y.cap true
def markD (N : Int) (y : DLease) : DLease := if duP N y = true then mkQ y else y
theorem bif_duP (N : Int) (y : DLease) : (bif (!y.queued) then (decide (y.until_ ≤ N)) else false) = duP N y := by
 unfold duP; cases y.queued <;> rfl
abbrev nowOf (t : DTable) (a : Int) : Int := if a > t.clock then a else t.clock
def BestTo (N : Int) (L : List DLease) (n : Nat) (r : Int) : Prop :=
 (r = -1 ∧ ∀ j, ∀ h : j < L.length, j < n → duP N L[j] = false) ∨
 ∃ k, ∃ hk : k < L.length, k < n ∧ r = (k : Int) ∧ duP N L[k] = true ∧ ∀ j, ∀ h : j < L.length, j < n → duP N L[j] = true → L[k].until_ < L[j].until_ ∨ (L[k].until_ = L[j].until_ ∧ k ≤ j)
theorem g81_inner (t : DTable) (a : Int) (L : List DLease) (hl : L.length ≤ 1048576) : ∃ r, iter (g81_l1 t a L) (-1, 0) = some r ∧ BestTo (nowOf t a) L L.length r := by
 obtain ⟨r, r1, r2⟩ := iterI (step := g81_l1 t a L) (fun s => ∃ n : Nat, s.2 = (n : Int) ∧ n ≤ L.length ∧ BestTo (nowOf t a) L n s.1) (fun s => (L.length - s.2).toNat) (fun r => BestTo (nowOf t a) L L.length r) (-1, 0) ⟨0, rfl, by omega, .inl ⟨rfl, fun j _ h => absurd h (by omega)⟩⟩ (by
  rintro ⟨r, _⟩ ⟨n, rfl, hn, hb⟩
  simp only at hb
  simp only [g81_l1]
  by_cases hlt : n < L.length
  ·rw [if_pos (decide_eq_true (by omega)), idx_lt hlt]
   simp only [Option.bind_some, Int.toNat_natCast]
   rw [List.getElem?_eq_getElem hlt]
   simp only [Option.bind_some, bif_duP, bindv]
   have w : IntKind.i64.wrap ((n : Int) + 1) = ((n + 1 : Nat) : Int) := w1 (by omega)
   left
   by_cases hd : duP (nowOf t a) L[n] = true
   ·rw [hd]
    rcases hb with ⟨rfl, hb⟩ | ⟨k, hk, hkn, rfl, hdk, hb⟩
    ·rw [show decide ((-1 : Int) < 0) = true by decide]
     simp only [beq_self_eq_true, Bool.true_and, show (true == false) = false from rfl, Bool.false_eq_true, if_false, Option.bind_some, cond_true, if_true, g81_j0, w]
     refine ⟨_, rfl, ⟨n + 1, rfl, by omega, .inr ⟨n, hlt, by omega, rfl, hd, fun j h hj hdj => ?_⟩⟩, by simp only; omega⟩
     by_cases e : j = n
     ·subst e; exact .inr ⟨rfl, Nat.le_refl _⟩
     ·rw [hb j h (by omega)] at hdj; cases hdj
    ·rw [show decide ((k : Int) < 0) = false from decide_eq_false (by omega)]
     simp only [beq_self_eq_true, Bool.true_and, if_true, idx_lt hk, Int.toNat_natCast, List.getElem?_eq_getElem hk, Option.bind_some, cond_true, cond_false, g81_j0, w]
     by_cases hc : L[n].until_ < L[k].until_
     ·rw [if_pos (decide_eq_true hc)]
      refine ⟨_, rfl, ⟨n + 1, rfl, by omega, .inr ⟨n, hlt, by omega, rfl, hd, fun j h hj hdj => ?_⟩⟩, by simp only; omega⟩
      by_cases e : j = n
      ·subst e; exact .inr ⟨rfl, Nat.le_refl _⟩
      ·have := hb j h (by omega) hdj
       left; omega
     ·rw [if_neg (by simpa using hc)]
      refine ⟨_, rfl, ⟨n + 1, rfl, by omega, .inr ⟨k, hk, by omega, rfl, hdk, fun j h hj hdj => ?_⟩⟩, by simp only; omega⟩
      by_cases e : j = n
      ·subst e; omega
      ·exact hb j h (by omega) hdj
   ·have hd : duP (nowOf t a) L[n] = false := by simpa using hd
    rw [hd]
    simp only [show (false == true) = false from rfl, Bool.false_and, Bool.false_eq_true, if_false, Option.bind_some, cond_false, g81_j0, w]
    refine ⟨_, rfl, ⟨n + 1, rfl, by omega, ?_⟩, by simp only; omega⟩
    rcases hb with ⟨rfl, hb⟩ | ⟨k, hk, hkn, rfl, hdk, hb⟩
    ·refine .inl ⟨rfl, fun j h hj => ?_⟩
     by_cases e : j = n
     ·subst e; exact hd
     ·exact hb j h (by omega)
    ·refine .inr ⟨k, hk, by omega, rfl, hdk, fun j h hj hdj => ?_⟩
     by_cases e : j = n
     ·subst e; rw [hd] at hdj; cases hdj
     ·exact hb j h (by omega) hdj
  ·rw [if_neg (by simpa using hlt)]
   have : n = L.length := by omega
   subst this
   exact .inr ⟨_, rfl, hb⟩)
 exact ⟨r, r1, r2⟩
theorem filter_set {p : DLease → Bool} {L : List DLease} {k : Nat} {v : DLease} (hk : k < L.length) (h1 : p L[k] = true) (h2 : p v = false) : (L.filter p).Perm (L[k] :: (L.set k v).filter p) := by
 have e1 : L = L.take k ++ L[k] :: L.drop (k + 1) := by rw [← List.drop_eq_getElem_cons hk, List.take_append_drop]
 have e2 : L.set k v = L.take k ++ v :: L.drop (k + 1) := by rw [List.set_eq_take_append_cons_drop, if_pos hk]
 rw [e2, List.filter_append, List.filter_cons_of_neg (by simp [h2])]
 conv => lhs; rw [e1]
 rw [List.filter_append, List.filter_cons_of_pos h1]
 exact List.perm_middle
theorem g81_eq (t : DTable) (a : Int) (h : TabOK t) (hl : t.list_.length ≤ 1048576) : ∃ s : List DLease, g81 t a = some (DTable.mk (nowOf t a) t.next (t.list_.map (markD (nowOf t a))), s.map (·.id)) ∧ s.Perm (t.list_.filter (duP (nowOf t a))) ∧ s.Pairwise leL := by
 obtain ⟨r, r1, r2⟩ := iterI (step := g81_l0 t a t) (fun s => ∃ sel : List DLease, s.1 = sel.map (·.id) ∧ (sel ++ s.2.filter (duP (nowOf t a))).Perm (t.list_.filter (duP (nowOf t a))) ∧ sel.Pairwise leL ∧ (∀ x ∈ sel, ∀ y ∈ s.2.filter (duP (nowOf t a)), leL x y) ∧
   ∃ hlen : s.2.length = t.list_.length, ∀ i, ∀ hi : i < t.list_.length, s.2[i] = t.list_[i] ∨ (duP (nowOf t a) t.list_[i] = true ∧ s.2[i] = mkQ t.list_[i]))
  (fun s => (s.2.filter (duP (nowOf t a))).length) (fun r => ∃ s : List DLease, r = (DTable.mk (nowOf t a) t.next (t.list_.map (markD (nowOf t a))), s.map (·.id)) ∧ s.Perm (t.list_.filter (duP (nowOf t a))) ∧ s.Pairwise leL) ([], t.list_)
  ⟨[], rfl, by simp, .nil, by simp, rfl, fun i hi => .inl rfl⟩ (by
  rintro ⟨_, L⟩ ⟨sel, rfl, p1, p2, p3, hlen, p4⟩
  simp only at p1 p3 hlen p4
  obtain ⟨b, b1, b2⟩ := g81_inner t a L (by omega)
  simp only [g81_l0, b1, Option.bind_some]
  rcases b2 with ⟨rfl, b2⟩ | ⟨k, hk, _, rfl, hdk, b2⟩
  ·right
   rw [if_pos (by decide)]
   have hnil : L.filter (duP (nowOf t a)) = [] := by
    rw [List.filter_eq_nil_iff]
    intro x hx
    obtain ⟨j, hj, rfl⟩ := List.getElem_of_mem hx
    simp [b2 j hj hj]
   rw [hnil, List.append_nil] at p1
   refine ⟨_, rfl, sel, ?_, p1, p2⟩
   have hL : L = t.list_.map (markD (nowOf t a)) := by
    refine List.ext_getElem (by simpa using hlen) fun i h1 h2 => ?_
    have hi : i < t.list_.length := by omega
    simp only [List.getElem_map, markD]
    rcases p4 i hi with e | ⟨e1, e⟩
    ·have := b2 i h1 h1
     rw [e] at this
     rw [if_neg (by simp [this])]; exact e
    ·rw [if_pos e1]; exact e
   rw [hL]
  ·left
   rw [if_neg (by simp)]
   have hmk : duP (nowOf t a) (mkQ L[k]) = false := by simp [duP]
   have hlen2 : (L.set k (mkQ L[k])).length = L.length := by simp
   have hk2 : k < (L.set k (mkQ L[k])).length := by simpa using hk
   simp only [idx_lt hk, Int.toNat_natCast, List.getElem?_eq_getElem hk, Option.bind_some, idx_lt hk2, List.getElem?_eq_getElem hk2, List.getElem_set_self]
   have hf := filter_set (p := duP (nowOf t a)) hk hdk hmk
   have hlp := p1.length_eq
   have hlf := List.length_filter_le (duP (nowOf t a)) t.list_
   rw [List.length_append] at hlp
   rw [if_pos (by simp; omega)]
   refine ⟨_, rfl, ⟨sel ++ [L[k]], by simp, ?_, ?_, ?_, by simpa using hlen, ?_⟩, ?_⟩
   ·simp only [List.append_assoc, List.singleton_append]
    exact (List.Perm.append_left sel hf.symm).trans p1
   ·rw [List.pairwise_append]
    refine ⟨p2, by simp, fun x hx y hy => ?_⟩
    simp only [List.mem_singleton] at hy
    subst hy
    exact p3 x hx _ (List.mem_filter.2 ⟨List.getElem_mem hk, hdk⟩)
   ·intro x hx y hy
    have hy2 : y ∈ L.filter (duP (nowOf t a)) := hf.mem_iff.2 (List.mem_cons_of_mem _ hy)
    rcases List.mem_append.1 hx with hx | hx
    ·exact p3 x hx y hy2
    ·simp only [List.mem_singleton] at hx
     subst hx
     obtain ⟨hyL, hdy⟩ := List.mem_filter.1 hy2
     obtain ⟨j, hj, rfl⟩ := List.getElem_of_mem hyL
     have := b2 j hj hj hdy
     simp only [leL, lcmp_lt]
     have ids : ∀ i, ∀ hi : i < L.length, L[i].id = (t.list_[i]'(by omega)).id := fun i hi => by
      rcases p4 i (by omega) with e | ⟨_, e⟩ <;> rw [e]
     rw [ids j hj, ids k hk]
     by_cases e : k = j
     ·subst e; omega
     ·rcases this with h1 | ⟨h1, h2⟩
      ·omega
      ·have := h.lt (i := k) (j := j) (by omega) (by omega)
       omega
   ·intro i hi
    simp only [List.getElem_set]
    split
    ·rename_i e; subst e
     right
     rcases p4 k hi with e | ⟨e1, e⟩
     ·rw [e] at hdk; exact ⟨hdk, by rw [e]⟩
     ·exact ⟨e1, by rw [e]⟩
    ·exact p4 i hi
   ·have := hf.length_eq
    simp only [List.length_cons, mkQ] at this ⊢
    omega)
 obtain ⟨s, rfl, s2, s3⟩ := r2
 refine ⟨s, ?_, s2, s3⟩
 simp only [g81, g111_eq t hl, Option.bind_some, r1]
end Go.Ev
end
section
namespace Go.Ev
theorem iter_inv {σ ρ : Type} {step : σ → Option (σ ⊕ ρ)} (I : σ → Prop) (μ : σ → Nat) (R : ρ → Prop)
  (h : ∀ s, I s → (∃ s', step s = some (.inl s') ∧ I s' ∧ μ s' < μ s) ∨ (∃ r, step s = some (.inr r) ∧ R r)) : ∀ (n : Nat) (s0 : σ), μ s0 < n → I s0 → ∃ r, iter step s0 = some r ∧ R r := by
 intro n
 induction n with
 | zero => intro s0 hn; omega
 | succ n ih =>
  intro s0 hn hI
  rcases h s0 hI with ⟨s', h1, h2, h3⟩ | ⟨r, h1, h2⟩
  ·obtain ⟨r, h4, h5⟩ := ih s' (by omega) h2
   exact ⟨r, by rw [iter_next h1, h4], h5⟩
  ·exact ⟨r, iter_end h1, h2⟩
theorem iter_inv' {σ ρ : Type} {step : σ → Option (σ ⊕ ρ)} (I : σ → Prop) (μ : σ → Nat) (R : ρ → Prop) (s0 : σ) (h0 : I s0)
  (h : ∀ s, I s → (∃ s', step s = some (.inl s') ∧ I s' ∧ μ s' < μ s) ∨ (∃ r, step s = some (.inr r) ∧ R r)) : ∃ r, iter step s0 = some r ∧ R r :=
 iter_inv I μ R h (μ s0 + 1) s0 (by omega) h0
theorem slc_eq {α : Type} (l : List α) (a b : Nat) (h : a ≤ b) (h2 : b ≤ l.length) : slc l (a : Int) (b : Int) = some ((l.take b).drop a) := by
 unfold slc
 rw [if_pos ⟨by omega, by omega, by omega⟩]
 simp
def FoundAt (l : List DLease) (x n : Int) : Prop := (n = -1 ∧ ∀ y ∈ l, y.id ≠ x) ∨ ∃ k, ∃ h : k < l.length, n = (k : Int) ∧ l[k].id = x
theorem g92_eq (t : DTable) (x : Int) (hl : t.list_.length ≤ 1048576) : ∃ n, g92 t x = some n ∧ FoundAt t.list_ x n := by
 obtain ⟨r, h1, h2⟩ := iter_inv' (step := g92_l0 t x) (fun s => ∃ k : Nat, s = (k : Int) ∧ k ≤ t.list_.length ∧ ∀ j, ∀ h : j < t.list_.length, j < k → t.list_[j].id ≠ x) (fun s => (t.list_.length - s).toNat)
  (fun r => (r = .inl () ∧ ∀ y ∈ t.list_, y.id ≠ x) ∨ ∃ n, r = .inr n ∧ FoundAt t.list_ x n) 0 ⟨0, rfl, by omega, by intros; omega⟩ (by
   rintro _ ⟨k, rfl, hk, hj⟩
   simp only [g92_l0]
   by_cases hlt : k < t.list_.length
   ·rw [if_pos (decide_eq_true (by omega)), idx_lt hlt]
    simp only [Option.bind_some, wr (n := (k : Int) + 1) ⟨by omega, by omega⟩]
    by_cases hp : t.list_[k].id = x
    ·rw [if_pos (by simp [hp])]
     exact .inr ⟨_, rfl, .inr ⟨_, rfl, .inr ⟨k, hlt, rfl, hp⟩⟩⟩
    ·rw [if_neg (by simp [hp])]
     refine .inl ⟨_, rfl, ⟨k + 1, rfl, by omega, fun j h hj2 => ?_⟩, by omega⟩
     by_cases e : j = k
     ·subst e; exact hp
     ·exact hj j h (by omega)
   ·rw [if_neg (by simp; omega)]
    refine .inr ⟨_, rfl, .inl ⟨rfl, fun y hy => ?_⟩⟩
    obtain ⟨j, hj1, rfl⟩ := List.getElem_of_mem hy
    exact hj j hj1 (by omega))
 simp only [g92, h1, Option.bind_some]
 rcases h2 with ⟨rfl, h2⟩ | ⟨n, rfl, h2⟩
 ·exact ⟨-1, rfl, .inl ⟨rfl, h2⟩⟩
 ·exact ⟨n, rfl, h2⟩
end Go.Ev
end
section
namespace Go.Ev
def SrcOK (s : Dl00Src) (B : Int) : Prop := s.code_.length ≤ 1048576 ∧ (0 ≤ s.at_ ∧ s.at_ ≤ B) ∧ 0 ≤ s.seed ∧ s.seed < 2147483648
theorem SrcOK.mono {s : Dl00Src} {B B' : Int} (h : SrcOK s B) (hb : B ≤ B') : SrcOK s B' := ⟨h.1, ⟨h.2.1.1, by have := h.2.1.2; omega⟩, h.2.2⟩
theorem g83_ok (code : List UInt8) (h : code.length ≤ 1048576) : ∃ s, g83 code = some s ∧ SrcOK s 0 := by
 refine ⟨_, rfl, h, ⟨by simp, by simp⟩, ?_⟩
 have e : ((code.length : Int)).tmod 1000 = (code.length : Int) % 1000 := Int.tmod_eq_emod_of_nonneg (by omega)
 simp only [e]
 omega
theorem g139_ok {s : Dl00Src} {B : Int} (h : SrcOK s B) (hB : B ≤ 4611686018427387904) : ∃ v s', g139 s = some (v, s') ∧ (0 ≤ v ∧ v ≤ 255) ∧ SrcOK s' (B + 1) := by
 obtain ⟨h1, ⟨h2, h3⟩, h4, h5⟩ := h
 have hw : IntKind.i64.wrap (s.at_ + 1) = s.at_ + 1 := wr ⟨by omega, by omega⟩
 have hw2 : IntKind.i64.wrap (s.at_ + 1 - 1) = s.at_ := by rw [wr ⟨by omega, by omega⟩]; omega
 simp only [g139, hw, hw2]
 by_cases hc : s.at_ + 1 ≤ (s.code_.length : Int)
 ·rw [if_pos (decide_eq_true hc)]
  obtain ⟨k, hk⟩ : ∃ k : Nat, s.at_ = k := ⟨s.at_.toNat, by omega⟩
  have hlt : k < s.code_.length := by omega
  rw [hk, idx_lt hlt]
  generalize s.code_[k] = y
  have hy : (y.toNat : Int) < 256 := by have := y.toNat_lt; omega
  have e1 : IntKind.i64.wrap (y.toNat : Int) = (y.toNat : Int) := wr ⟨by omega, by omega⟩
  have e2 : IntKind.i64.wrap (s.seed * 31) = s.seed * 31 := wr ⟨by omega, by omega⟩
  have e3 : IntKind.i64.wrap (s.seed * 31 + (y.toNat : Int)) = s.seed * 31 + (y.toNat : Int) := wr ⟨by omega, by omega⟩
  have e4 : IntKind.i64.wrap (s.seed * 31 + (y.toNat : Int) + 7) = s.seed * 31 + (y.toNat : Int) + 7 := wr ⟨by omega, by omega⟩
  have e5 : (s.seed * 31 + (y.toNat : Int) + 7).tmod 2147483648 = (s.seed * 31 + (y.toNat : Int) + 7) % 2147483648 := Int.tmod_eq_emod_of_nonneg (by omega)
  simp only [Option.bind_some, bindv, e1, e2, e3, e4, e5]
  exact ⟨_, _, rfl, ⟨by omega, by omega⟩, h1, ⟨by simp only; omega, by simp only; omega⟩, by simp only; omega, by simp only; omega⟩
 ·rw [if_neg (by simpa using hc)]
  by_cases h3' : s.at_ + 1 > 3000
  ·rw [if_pos (decide_eq_true h3')]
   exact ⟨_, _, rfl, ⟨by omega, by omega⟩, h1, ⟨by simp only; omega, by simp only; omega⟩, h4, h5⟩
  ·rw [if_neg (by simpa using h3')]
   have e2 : IntKind.i64.wrap (s.seed * 1103515245) = s.seed * 1103515245 := wr ⟨by omega, by omega⟩
   have e3 : IntKind.i64.wrap (s.seed * 1103515245 + 12345) = s.seed * 1103515245 + 12345 := wr ⟨by omega, by omega⟩
   have e4 : (s.seed * 1103515245 + 12345).tmod 2147483648 = (s.seed * 1103515245 + 12345) % 2147483648 := Int.tmod_eq_emod_of_nonneg (by omega)
   have hr : 0 ≤ (s.seed * 1103515245 + 12345) % 2147483648 ∧ (s.seed * 1103515245 + 12345) % 2147483648 < 2147483648 := by omega
   generalize hv : (s.seed * 1103515245 + 12345) % 2147483648 = v at e4 hr
   have e5 : v.tdiv 65536 = v / 65536 := Int.tdiv_eq_ediv_of_nonneg hr.1
   have e6 : IntKind.i64.wrap (v / 65536) = v / 65536 := wr ⟨by omega, by omega⟩
   have e7 : (v / 65536).tmod 256 = v / 65536 % 256 := Int.tmod_eq_emod_of_nonneg (by omega)
   simp only [bindv, e2, e3, e4, e5, e6, e7]
   exact ⟨_, _, rfl, ⟨by omega, by omega⟩, h1, ⟨by simp only; omega, by simp only; omega⟩, hr.1, hr.2⟩
theorem g117_ok {s : Dl00Src} {B n : Int} (h : SrcOK s B) (hB : B ≤ 4611686018427380000) (hn : n ≤ 1152921504606846976) : ∃ v s', g117 s n = some (v, s') ∧ (0 ≤ v ∧ (n ≤ 1 → v = 0) ∧ (1 < n → v < n)) ∧ SrcOK s' (B + 3) := by
 simp only [g117]
 by_cases h1 : n ≤ 1
 ·rw [if_pos (decide_eq_true h1)]
  exact ⟨_, _, rfl, ⟨by omega, by omega, by omega⟩, h.mono (by omega)⟩
 ·rw [if_neg (by simpa using h1)]
  by_cases h2 : n ≤ 256
  ·rw [if_pos (decide_eq_true h2)]
   obtain ⟨v, s', e1, e2, e3⟩ := g139_ok h (by omega)
   rw [e1]
   simp only [Option.bind_some]
   rw [if_pos (by omega)]
   have e4 : v.tmod n = v % n := Int.tmod_eq_emod_of_nonneg e2.1
   refine ⟨_, _, rfl, ⟨?_, by omega, fun _ => ?_⟩, e3.mono (by omega)⟩
   ·rw [e4]; exact Int.emod_nonneg _ (by omega)
   ·rw [e4]; exact Int.emod_lt_of_pos _ (by omega)
  ·rw [if_neg (by simpa using h2)]
   obtain ⟨a, s1, a1, a2, a3⟩ := g139_ok h (by omega)
   obtain ⟨b, s2, b1, b2, b3⟩ := g139_ok a3 (by omega)
   obtain ⟨c, s3, c1, c2, c3⟩ := g139_ok b3 (by omega)
   rw [a1]
   simp only [Option.bind_some, b1, c1]
   rw [if_pos (by omega)]
   have e1 : IntKind.i64.wrap (a * 65536) = a * 65536 := wr ⟨by omega, by omega⟩
   have e2 : IntKind.i64.wrap (b * 256) = b * 256 := wr ⟨by omega, by omega⟩
   have e3 : IntKind.i64.wrap (a * 65536 + b * 256) = a * 65536 + b * 256 := wr ⟨by omega, by omega⟩
   have e4 : IntKind.i64.wrap (a * 65536 + b * 256 + c) = a * 65536 + b * 256 + c := wr ⟨by omega, by omega⟩
   have e5 : (a * 65536 + b * 256 + c).tmod n = (a * 65536 + b * 256 + c) % n := Int.tmod_eq_emod_of_nonneg (by omega)
   simp only [bindv, e1, e2, e3, e4, e5]
   refine ⟨_, _, rfl, ⟨Int.emod_nonneg _ (by omega), by omega, fun _ => Int.emod_lt_of_pos _ (by omega)⟩, c3.mono (by omega)⟩
end Go.Ev
end
section
set_option maxHeartbeats 1000000
namespace Go.Ev
abbrev TabC (t : DTable) : Prop := TabOK t ∧ t.clock ≤ 9223372036854775807 ∧ ∀ x ∈ t.list_, x.cap ≤ 9223372036854775807
theorem TabOK.at {t : DTable} (h : TabOK t) {k : Nat} (hk : k < t.list_.length) : TabLease t k t.list_[k] := h.2.2.2 k _ (List.getElem?_eq_getElem hk)
theorem tab_same {t : DTable} (h : TabOK t) (c : Int) (hc : t.clock ≤ c) (L : List DLease) (hl : L.length = t.list_.length)
  (hk : ∀ k, ∀ h1 : k < L.length, ∀ h2 : k < t.list_.length, L[k].id = t.list_[k].id ∧ 0 ≤ L[k].until_ ∧ L[k].until_ ≤ L[k].cap ∧ (L[k].queued = false → c < L[k].until_)) : TabOK (DTable.mk c t.next L) := by
 have h0 := h.1
 refine ⟨by simp only; omega, h.2.1, by simp only [hl]; exact h.2.2.1, fun k x hx => ?_⟩
 obtain ⟨h1, rfl⟩ := List.getElem?_eq_some_iff.1 hx
 simp only at h1
 have hkt : k < t.list_.length := by omega
 obtain ⟨e1, e2, e3, e4⟩ := hk k h1 hkt
 obtain ⟨a1, a2, a3, a4, a5⟩ := h.at hkt
 refine ⟨by simp only [e1]; exact a1, fun y hpos hy => ?_, e2, e3, e4⟩
 obtain ⟨h3, rfl⟩ := List.getElem?_eq_some_iff.1 hy
 simp only at h3 ⊢
 rw [e1, (hk (k - 1) h3 (by omega)).1]
 exact h.lt (by omega) (by omega)
theorem nowOf_ge (t : DTable) (a : Int) : t.clock ≤ nowOf t a := by unfold nowOf; split <;> omega
theorem tick_tab {t : DTable} (h : TabC t) (a : Int) (ha : a ≤ 9223372036854775807) : TabC (DTable.mk (nowOf t a) t.next (t.list_.map (markD (nowOf t a)))) := by
 refine ⟨tab_same h.1 _ (nowOf_ge t a) _ (by simp) fun k h1 h2 => ?_, ?_⟩
 ·simp only [List.getElem_map, markD]
  obtain ⟨a1, a2, a3, a4, a5⟩ := h.1.at h2
  split
  ·exact ⟨rfl, a3, a4, fun hq => by cases hq⟩
  ·rename_i hd
   refine ⟨rfl, a3, a4, fun hq => ?_⟩
   simp [duP, hq] at hd
   exact hd
 ·refine ⟨by have := h.2.1; simp only [nowOf]; split <;> omega, fun x hx => ?_⟩
  obtain ⟨y, hy, rfl⟩ := List.mem_map.1 hx
  have := h.2.2 y hy
  unfold markD
  split <;> exact this
theorem set_tab {t : DTable} (h : TabC t) {k : Nat} (hk : k < t.list_.length) (v : DLease) (h1 : v.id = t.list_[k].id) (h2 : 0 ≤ v.until_) (h3 : v.until_ ≤ v.cap) (h4 : v.queued = false → t.clock < v.until_) (h5 : v.cap = t.list_[k].cap) :
  TabC (DTable.mk t.clock t.next (t.list_.set k v)) := by
 refine ⟨tab_same h.1 _ (Int.le_refl _) _ (by simp) fun j j1 j2 => ?_, h.2.1, fun x hx => by
  rcases List.mem_or_eq_of_mem_set hx with hx | rfl
  ·exact h.2.2 x hx
  ·rw [h5]; exact h.2.2 _ (List.getElem_mem hk)⟩
 simp only [List.getElem_set]
 split
 ·rename_i e; subst e
  exact ⟨h1, h2, h3, h4⟩
 ·obtain ⟨a1, a2, a3, a4, a5⟩ := h.1.at j2
  exact ⟨rfl, a3, a4, a5⟩
theorem later_eq (c a : Int) (hc : 0 ≤ c ∧ c ≤ 9223372036854775807) (ha : 1 ≤ a ∧ a ≤ 9223372036854775807) : g53 c a = some (if c + a ≤ 9223372036854775807 then c + a else 9223372036854775807) := by
 have e : IntKind.i64.wrap (9223372036854775807 - a) = 9223372036854775807 - a := wr ⟨by omega, by omega⟩
 simp only [g53]
 rw [e]
 by_cases h : c + a ≤ 9223372036854775807
 ·rw [if_neg (by simp; omega), if_pos h, wr ⟨by omega, by omega⟩]
 ·rw [if_pos (decide_eq_true (by omega)), if_neg h]
theorem revoke_tab {t : DTable} (h : TabC t) (a : Int) : ∃ r, g74 t a = some r ∧ TabC r.1 := by
 have hl := h.1.2.2.1
 obtain ⟨n, h1, h2⟩ := g92_eq t a (by omega)
 simp only [g74, h1, Option.bind_some]
 rcases h2 with ⟨rfl, h2⟩ | ⟨k, hk, rfl, h2⟩
 ·exact ⟨_, rfl, h⟩
 ·rw [if_neg (by simp), g111_eq t (by omega)]
  simp only [Option.bind_some, idx_lt hk, Int.toNat_natCast, List.getElem?_eq_getElem hk]
  obtain ⟨a1, a2, a3, a4, a5⟩ := h.1.at hk
  exact ⟨_, rfl, set_tab h hk _ rfl a3 a4 (fun hq => by cases hq) rfl⟩
theorem renew_tab {t : DTable} (h : TabC t) {k : Nat} (hk : k < t.list_.length) (hq : t.list_[k].queued = false) (u : Int) (hu : t.clock < u) :
  TabC (DTable.mk t.clock t.next (t.list_.set k (DLease.mk t.list_[k].id (if u < t.list_[k].cap then u else t.list_[k].cap) t.list_[k].cap t.list_[k].queued))) := by
 obtain ⟨a1, a2, a3, a4, a5⟩ := h.1.at hk
 have := a5 hq
 have h0 := h.1.1
 exact set_tab h hk _ rfl (by simp only; split <;> omega) (by simp only; split <;> omega) (fun _ => by simp only; split <;> omega) rfl
theorem later_gt (c a : Int) (hc : 0 ≤ c ∧ c < 9223372036854775807) (ha : 1 ≤ a) : c < (if c + a ≤ 9223372036854775807 then c + a else 9223372036854775807) := by split <;> omega
theorem renews_tab {t : DTable} (h : TabC t) (a b : Int) (hb : 1 ≤ b ∧ b ≤ 9223372036854775807) : ∃ r, g79 t a b = some r ∧ TabC r.1 := by
 have hl := h.1.2.2.1
 obtain ⟨n, h1, h2⟩ := g92_eq t a (by omega)
 simp only [g79, h1, Option.bind_some]
 rw [if_neg (by simp; omega)]
 rcases h2 with ⟨rfl, h2⟩ | ⟨k, hk, rfl, h2⟩
 ·exact ⟨_, rfl, h⟩
 ·rw [if_neg (by simp), idx_lt hk]
  simp only [Option.bind_some]
  by_cases hq : t.list_[k].queued = true
  ·rw [if_pos hq]; exact ⟨_, rfl, h⟩
  ·rw [if_neg hq, g111_eq t (by omega)]
   have hq : t.list_[k].queued = false := by simpa using hq
   obtain ⟨a1, a2, a3, a4, a5⟩ := h.1.at hk
   have h0 := h.1.1
   have hc := h.2.1
   simp only [Option.bind_some, idx_lt hk, Int.toNat_natCast, List.getElem?_eq_getElem hk, later_eq _ _ ⟨h0, hc⟩ hb]
   have hcm : t.clock < 9223372036854775807 := by
    have := a5 hq
    have := h.2.2 _ (List.getElem_mem hk)
    omega
   exact ⟨_, rfl, renew_tab h hk hq _ (later_gt _ _ ⟨h0, hcm⟩ hb.1)⟩
theorem grant_tab {t : DTable} (h : TabC t) (a b : Int) (ha : 1 ≤ a ∧ a ≤ b ∧ b ≤ 9223372036854775807) : ∃ r, g70 t a b = some r ∧ TabC r.1 := by
 have hl := h.1.2.2.1
 have h0 := h.1.1
 have hc := h.2.1
 have hn := h.1.2.1
 simp only [g70]
 have e1 : decide (a < 1) = false := decide_eq_false (by omega)
 have e2 : decide (b < a) = false := decide_eq_false (by omega)
 rw [e1, e2]
 simp only [cond_false, Bool.false_eq_true, if_false]
 by_cases hm : t.clock = 9223372036854775807
 ·rw [if_pos (by simpa using hm)]; exact ⟨_, rfl, h⟩
 ·rw [if_neg (by simpa using hm)]
  simp only [bindv]
  by_cases hf : t.list_.length = 40 ∨ t.next = 1000000
  ·rw [if_pos (by rcases hf with hf | hf <;> simp [hf])]; exact ⟨_, rfl, h⟩
  ·have hf1 : t.list_.length ≠ 40 := fun e => hf (.inl e)
   have hf2 : t.next ≠ 1000000 := fun e => hf (.inr e)
   have e3 : ((t.list_.length : Int) == 40) = false := by simp; omega
   have e4 : (t.next == 1000000) = false := by simp; exact hf2
   rw [e3, e4]
   simp only [cond_false, Bool.false_eq_true, if_false, g111_eq t (by omega), Option.bind_some, later_eq _ _ ⟨h0, hc⟩ ⟨ha.1, by omega⟩, later_eq _ _ ⟨h0, hc⟩ ⟨by omega, ha.2.2⟩]
   rw [if_pos (by simp; omega)]
   refine ⟨_, rfl, ⟨by simp only; exact h0, by simp only; rw [wr ⟨by omega, by omega⟩]; omega, by simp; omega, fun k x hx => ?_⟩, hc, fun x hx => by
    rcases List.mem_append.1 hx with hx | hx
    ·exact h.2.2 x hx
    ·simp only [List.mem_singleton] at hx; subst hx; simp only; split <;> omega⟩
   simp only at hx
   have hw : IntKind.i64.wrap (t.next + 1) = t.next + 1 := wr ⟨by omega, by omega⟩
   by_cases hk : k < t.list_.length
   ·rw [List.getElem?_append_left hk] at hx
    obtain ⟨a1, a2, a3, a4, a5⟩ := h.1.2.2.2 k x hx
    refine ⟨by simp only [hw]; omega, fun y hp hy => ?_, a3, a4, a5⟩
    simp only at hy
    rw [List.getElem?_append_left (by omega)] at hy
    exact a2 y hp hy
   ·have hk2 : k = t.list_.length := by
     have := (List.getElem?_eq_some_iff.1 hx).1
     simp at this; omega
    subst hk2
    simp only [List.getElem?_append_right (Nat.le_refl _), Nat.sub_self, List.getElem?_cons_zero, Option.some.injEq] at hx
    subst hx
    refine ⟨by simp only [hw]; omega, fun y hp hy => ?_, by simp only; split <;> omega, by simp only; split <;> split <;> omega, fun _ => by simp only; split <;> omega⟩
    simp only at hy
    rw [List.getElem?_append_left (by omega)] at hy
    obtain ⟨a1, a2, a3, a4, a5⟩ := h.1.2.2.2 _ y hy
    simp only; omega
end Go.Ev
end
section
set_option maxHeartbeats 1000000
namespace Go.Ev
end Go.Ev
end
section
set_option maxHeartbeats 1000000
namespace Go.Ev
theorem Rising.mono {l : List Int} {a b b' : Int} (h : Rising l a b) (hb : b ≤ b') : Rising l a b' := fun k x hx => ⟨⟨(h k x hx).1.1, by have := (h k x hx).1.2; omega⟩, (h k x hx).2⟩
theorem Rising.of {l : List Int} {a b : Int} (h1 : ∀ x ∈ l, a ≤ x ∧ x ≤ b) (h2 : ∀ i j, ∀ hj : j < l.length, ∀ hij : i < j, l[i]'(by omega) < l[j]) : Rising l a b := fun k x hx => by
 obtain ⟨hk, rfl⟩ := List.getElem?_eq_some_iff.1 hx
 refine ⟨h1 _ (List.getElem_mem hk), fun y hp hy => ?_⟩
 obtain ⟨hk', rfl⟩ := List.getElem?_eq_some_iff.1 hy
 exact h2 (k - 1) k hk (by omega)
theorem Rising.mem {l : List Int} {a b : Int} (h : Rising l a b) {x : Int} (hx : x ∈ l) : a ≤ x ∧ x ≤ b := by
 obtain ⟨k, hk, rfl⟩ := List.getElem_of_mem hx
 exact (h k _ (List.getElem?_eq_getElem hk)).1
theorem Rising.ge {l : List Int} {b : Int} (h : Rising l 1 b) : ∀ k, ∀ hk : k < l.length, (k : Int) + 1 ≤ l[k] := by
 intro k
 induction k with
 | zero => intro hk; have := h.mem (List.getElem_mem hk); simp; omega
 | succ k ih =>
  intro hk
  have h1 := ih (by omega)
  have h2 := h.lt hk (show k < k + 1 by omega)
  omega
theorem Rising.len {l : List Int} {b : Int} (h : Rising l 1 b) (hb : 0 ≤ b) : (l.length : Int) ≤ b := by
 by_cases h0 : l.length = 0
 ·omega
 ·have h1 := h.ge (l.length - 1) (by omega)
  have h2 := h.mem (List.getElem_mem (show l.length - 1 < l.length by omega))
  omega
theorem at_mem {l : List Int} {a b : Int} (h : Rising l a b) {x : Int} {p : Nat} (hp : CutAt l x p) : AtCut l x p = true ↔ x ∈ l := by
 unfold AtCut
 rw [decide_eq_true_eq]
 constructor
 ·intro hx; exact List.mem_of_getElem? hx
 ·intro hx
  obtain ⟨j, hj, rfl⟩ := List.getElem_of_mem hx
  obtain ⟨h1, h2, h3⟩ := hp
  by_cases e : j = p
  ·subst e; exact List.getElem?_eq_getElem hj
  ·by_cases e2 : j < p
   ·have := h2 j hj e2; omega
   ·have := h.lt hj (show p < j by omega)
    have := h3 p (by omega) (Nat.le_refl _)
    omega
theorem pair_of {l : List Int} {a b : Int} (h : Rising l a b) : l.Pairwise (· < ·) := by
 rw [List.pairwise_iff_getElem]
 intro i j hi hj hij
 exact h.lt hj hij
theorem of_pair {l : List Int} {a b : Int} (h1 : ∀ x ∈ l, a ≤ x ∧ x ≤ b) (h2 : l.Pairwise (· < ·)) : Rising l a b := by
 refine Rising.of h1 fun i j hj hij => ?_
 exact List.pairwise_iff_getElem.1 h2 i j (by omega) hj hij
theorem cut_take {l : List Int} {x : Int} {p : Nat} (hp : CutAt l x p) {y : Int} (hy : y ∈ l.take p) : y < x := by
 obtain ⟨j, hj, rfl⟩ := List.getElem_of_mem hy
 simp only [List.length_take] at hj
 rw [List.getElem_take]
 exact hp.2.1 j (by omega) (by omega)
theorem cut_drop {l : List Int} {x : Int} {p : Nat} (hp : CutAt l x p) {y : Int} (hy : y ∈ l.drop p) : x ≤ y := by
 obtain ⟨j, hj, rfl⟩ := List.getElem_of_mem hy
 simp only [List.length_drop] at hj
 rw [List.getElem_drop]
 exact hp.2.2 _ (by omega) (by omega)
theorem called_rising {l : List Int} {M : Int} (h : Rising l 1 M) {x : Int} (c : Bool) (hx : c = true → 1 ≤ x ∧ x ≤ M) {p : Nat} (hp : CutAt l x p) : Rising (called l x c p) 1 M := by
 have hpw := pair_of h
 unfold called
 split
 ·split
  ·exact h
  ·rename_i hat
   have hn : x ∉ l := fun hm => hat ((at_mem h hp).2 hm)
   refine of_pair (fun y hy => ?_) ?_
   ·rcases List.mem_append.1 hy with hy | hy
    ·rcases List.mem_append.1 hy with hy | hy
     ·exact h.mem (List.mem_of_mem_take hy)
     ·simp only [List.mem_singleton] at hy; subst hy; exact hx (by assumption)
    ·exact h.mem (List.mem_of_mem_drop hy)
   ·rw [List.append_assoc, List.pairwise_append]
    refine ⟨hpw.sublist (List.take_sublist _ _), ?_, fun y hy z hz => ?_⟩
    ·rw [List.singleton_append, List.pairwise_cons]
     refine ⟨fun z hz => ?_, hpw.sublist (List.drop_sublist _ _)⟩
     have h1 := cut_drop hp hz
     have h2 : z ≠ x := fun e => hn (e ▸ List.mem_of_mem_drop hz)
     omega
    ·have h1 := cut_take hp hy
     rcases List.mem_append.1 hz with hz | hz
     ·simp only [List.mem_singleton] at hz; subst hz; exact h1
     ·have := cut_drop hp hz; omega
 ·split
  ·refine of_pair (fun y hy => ?_) ?_
   ·rcases List.mem_append.1 hy with hy | hy
    ·exact h.mem (List.mem_of_mem_take hy)
    ·exact h.mem (List.mem_of_mem_drop hy)
   ·rw [List.pairwise_append]
    refine ⟨hpw.sublist (List.take_sublist _ _), hpw.sublist (List.drop_sublist _ _), fun y hy z hz => ?_⟩
    have h1 := cut_take hp hy
    have h2 := cut_drop hp (y := z) (by
     rw [← List.drop_drop] at hz
     exact (List.drop_sublist 1 _).mem hz)
    omega
  ·exact h
theorem rem_tab {t : DTable} (h : TabC t) {k : Nat} (hk : k < t.list_.length) : TabC (DTable.mk t.clock t.next (t.list_.take k ++ t.list_.drop (k + 1))) := by
 have hget : ∀ j, (t.list_.take k ++ t.list_.drop (k + 1))[j]? = if j < k then t.list_[j]? else t.list_[j + 1]? := fun j => by
  rw [List.getElem?_append]
  simp only [List.length_take, Nat.min_eq_left (Nat.le_of_lt hk)]
  split
  ·rw [List.getElem?_take]; simp [*]
  ·rw [List.getElem?_drop]; congr 1; omega
 refine ⟨⟨h.1.1, h.1.2.1, by have := h.1.2.2.1; simp; omega, fun j x hx => ?_⟩, h.2.1, fun x hx => ?_⟩
 ·simp only [hget] at hx
  have key : ∀ i, t.list_[i]? = some x → j ≤ i → (∀ y, 0 < j → (if j - 1 < k then t.list_[j - 1]? else t.list_[j - 1 + 1]?) = some y → y.id < x.id) → TabLease (DTable.mk t.clock t.next (t.list_.take k ++ t.list_.drop (k + 1))) j x := fun i hi hji hy => by
   obtain ⟨a1, a2, a3, a4, a5⟩ := h.1.2.2.2 i x hi
   refine ⟨a1, fun y hp hy' => ?_, a3, a4, a5⟩
   simp only [hget] at hy'
   exact hy y hp hy'
  split at hx
  ·rename_i hjk
   refine key j hx (Nat.le_refl _) fun y hp hy => ?_
   rw [if_pos (by omega)] at hy
   exact (h.1.2.2.2 j x hx).2.1 y hp hy
  ·rename_i hjk
   refine key (j + 1) hx (by omega) fun y hp hy => ?_
   obtain ⟨hlt, rfl⟩ := List.getElem?_eq_some_iff.1 hx
   split at hy
   ·obtain ⟨hlt2, rfl⟩ := List.getElem?_eq_some_iff.1 hy
    exact h.1.lt hlt (by omega)
   ·obtain ⟨hlt2, rfl⟩ := List.getElem?_eq_some_iff.1 hy
    exact h.1.lt hlt (by omega)
 ·simp only at hx
  rcases List.mem_append.1 hx with hx | hx
  ·exact h.2.2 x (List.mem_of_mem_take hx)
  ·exact h.2.2 x (List.mem_of_mem_drop hx)
theorem done_tab {t : DTable} (h : TabC t) (x : Int) : ∃ r, g76 t x = some r ∧ TabC r.1 ∧ r.1.next = t.next := by
 have hl := h.1.2.2.1
 obtain ⟨n, h1, h2⟩ := g92_eq t x (by omega)
 simp only [g76, h1, Option.bind_some]
 rcases h2 with ⟨rfl, h2⟩ | ⟨k, hk, rfl, h2⟩
 ·exact ⟨_, rfl, h, rfl⟩
 ·rw [if_neg (by simp), idx_lt hk]
  simp only [Option.bind_some]
  by_cases hq : t.list_[k].queued = true
  ·rw [if_neg (by simp [hq])]
   have s1 := slc_eq t.list_ 0 k (by omega) (by omega)
   have s2 := slc_eq t.list_ (k + 1) t.list_.length (by omega) (Nat.le_refl _)
   rw [show ((0 : Nat) : Int) = 0 from rfl] at s1
   simp only [w1 (show k < 4611686018427387904 by omega), s1, s2, Option.bind_some]
   rw [if_pos (by simp; omega), if_pos (by simp; omega)]
   refine ⟨_, rfl, ?_, rfl⟩
   have := rem_tab h hk
   simpa using this
  ·rw [if_pos (by simpa using hq)]
   exact ⟨_, rfl, h, rfl⟩
theorem next_tab {t : DTable} (h : TabC t) (hn : t.next + 1 ≤ 1000000) : TabC (DTable.mk t.clock (t.next + 1) t.list_) := by
 have hn1 := h.1.2.1
 refine ⟨⟨h.1.1, by simp only; omega, h.1.2.2.1, fun k x hx => ?_⟩, h.2⟩
 obtain ⟨a1, a2, a3, a4, a5⟩ := h.1.2.2.2 k x hx
 exact ⟨by simp only; omega, a2, a3, a4, a5⟩
theorem revoke_next {t : DTable} {a : Int} (h : TabC t) {r : DTable × Int} (e : g74 t a = some r) : r.1.next = t.next := by
 have hl := h.1.2.2.1
 obtain ⟨n, h1, h2⟩ := g92_eq t a (by omega)
 simp only [g74, h1, Option.bind_some] at e
 rcases h2 with ⟨rfl, h2⟩ | ⟨k, hk, rfl, h2⟩
 ·cases e; rfl
 ·rw [if_neg (by simp), g111_eq t (by omega)] at e
  simp only [Option.bind_some, idx_lt hk, Int.toNat_natCast, List.getElem?_eq_getElem hk] at e
  cases e; rfl
theorem renew_next {t : DTable} {a b : Int} (h : TabC t) {r : DTable × Int} (e : g79 t a b = some r) : r.1.next = t.next := by
 have hl := h.1.2.2.1
 obtain ⟨n, h1, h2⟩ := g92_eq t a (by omega)
 simp only [g79, h1, Option.bind_some] at e
 split at e
 ·cases e; rfl
 ·rcases h2 with ⟨rfl, h2⟩ | ⟨k, hk, rfl, h2⟩
  ·rw [if_pos (by simp)] at e
   cases e; rfl
  ·rw [if_neg (by simp), idx_lt hk] at e
   simp only [Option.bind_some] at e
   split at e
   ·cases e; rfl
   ·rw [g111_eq t (by omega)] at e
    simp only [Option.bind_some, idx_lt hk, Int.toNat_natCast, List.getElem?_eq_getElem hk] at e
    cases hg : g53 t.clock b with
    | none => rw [hg] at e; cases e
    | some z => rw [hg] at e; cases e; rfl
theorem grant_is {t : DTable} (h : TabC t) {a b : Int} {r : DTable × Int × Int} (e : g70 t a b = some r) : (r.2.2 ≠ 0 ∧ r.1 = t) ∨ (r.2.2 = 0 ∧ r.2.1 = t.next ∧ r.1.next = t.next + 1 ∧ t.next + 1 ≤ 1000000) := by
 have hl := h.1.2.2.1
 have hn := h.1.2.1
 simp only [g70] at e
 split at e
 ·cases e; exact .inl ⟨by simp, rfl⟩
 ·split at e
  ·cases e; exact .inl ⟨by simp, rfl⟩
  ·simp only [bindv] at e
   split at e
   ·cases e; exact .inl ⟨by simp, rfl⟩
   ·rename_i hf
    have hf2 : t.next ≠ 1000000 := fun e0 => hf (by rw [e0]; cases ((t.list_.length : Int) == 40) <;> rfl)
    rw [g111_eq t (by omega)] at e
    simp only [Option.bind_some] at e
    cases hg : g53 t.clock a with
    | none => rw [hg] at e; cases e
    | some z =>
     cases hg2 : g53 t.clock b with
     | none => rw [hg, hg2] at e; cases e
     | some z2 =>
      rw [hg, hg2] at e
      simp only [Option.bind_some] at e
      split at e
      ·cases e
       exact .inr ⟨rfl, rfl, wr ⟨by omega, by omega⟩, by omega⟩
      ·cases e
end Go.Ev
end
section
set_option maxHeartbeats 1000000
namespace Go.Ev
abbrev VI (n : Nat) (v : DVault) : Prop := TabC v.table ∧ Rising v.accounts 1 (v.table.next - 1) ∧ v.intents.length ≤ n ∧ v.table.next ≤ 1 + (n : Int)
theorem VI.len {n : Nat} {v : DVault} (h : VI n v) (hn : n ≤ 2000) : v.accounts.length ≤ 2000 := by
 have h1 := h.1.1.2.1
 have h2 := h.2.1.len (by omega)
 have h3 := h.2.2.2
 omega
theorem VI.mono {n m : Nat} {v : DVault} (h : VI n v) (hm : n ≤ m) : VI m v := ⟨h.1, h.2.1, by have := h.2.2.1; omega, by have := h.2.2.2; omega⟩
theorem vcopy_eq {n : Nat} {v : DVault} (h : VI n v) (hn : n ≤ 2000) : g102 v = some v := by
 have h1 := h.1.1.2.2.1
 have h2 := h.2.2.1
 have h3 := h.len hn
 simp only [g102, g111_eq v.table (by omega), Option.bind_some]
 rw [if_pos (by simp; omega), if_pos (by simp; omega)]
 rfl
theorem rec_ok {n : Nat} {v : DVault} (h : VI n v) (hn : n ≤ 2000) : ∃ r, g133 v = some r ∧ VI n r ∧ r.sealed = true := by
 have h2 := h.2.2.1
 obtain ⟨L, e1, e2⟩ := iterI (step := g133_l0) (fun s => ∃ k : Nat, s.1 = (k : Int) ∧ k ≤ v.intents.length ∧ s.2.length = v.intents.length) (fun s => (v.intents.length - s.1).toNat) (fun r => r.length = v.intents.length) (0, v.intents) ⟨0, rfl, by omega, rfl⟩ (by
  rintro ⟨_, L⟩ ⟨k, rfl, hk, hl⟩
  simp only at hl
  simp only [g133_l0]
  by_cases hlt : k < v.intents.length
  ·rw [if_pos (decide_eq_true (by omega)), idx_lt (by omega)]
   simp only [Option.bind_some, Int.toNat_natCast]
   rw [List.getElem?_eq_getElem (by omega)]
   simp only [Option.bind_some, w1 (show k < 4611686018427387904 by omega)]
   exact .inl ⟨_, rfl, ⟨k + 1, rfl, by omega, by simpa using hl⟩, by simp only; omega⟩
  ·rw [if_neg (by simp; omega)]
   exact .inr ⟨_, rfl, hl⟩)
 simp only [g133, vcopy_eq h hn, Option.bind_some, e1]
 exact ⟨_, rfl, ⟨h.1, h.2.1, by simp only; omega, h.2.2.2⟩, rfl⟩
theorem fate_ok (a : DVaultAct) (k : Nat) : ∃ f, g145 a (k : Int) = some f := by
 simp only [g145]
 by_cases h : k < a.fates.length
 ·rw [if_pos (decide_eq_true (by omega)), idx_lt h]; exact ⟨_, rfl⟩
 ·rw [if_neg (by simp; omega)]; exact ⟨_, rfl⟩
theorem acall_ok {l : List Int} {M : Int} (h : Rising l 1 M) (hl : l.length ≤ 1048575) (x : Int) (c : Bool) (f : Int) (hx : c = true → 1 ≤ x ∧ x ≤ M) : ∃ r, g86 l x c f = some r ∧ Rising r.1 1 M := by
 obtain ⟨p, hp⟩ := cut_ex h x
 refine ⟨_, g86_eq hl x c f hp, ?_⟩
 split
 ·exact h
 ·exact called_rising h c hx hp
theorem issue_ok {n : Nat} {v : DVault} {a : DVaultAct} (h : VI n v) (hn : n ≤ 1000) (hg : 1 ≤ a.ttl ∧ a.ttl ≤ a.most ∧ a.most ≤ 9223372036854775807) : ∃ r, g132 v a = some r ∧ VI (n + 1) r.1 := by
 obtain ⟨r1, e1, t1⟩ := grant_tab h.1 _ _ hg
 have hi := h.2.2.1
 have hnx := h.2.2.2
 have hal := h.len (by omega)
 have key : ∀ p4 : Int, (p4 = 0 → r1.2.2 = 0) → ∃ r, g132_j0 v a r1 p4 = some r ∧ VI (n + 1) r.1 := by
  intro p4 hp4
  simp only [g132_j0]
  by_cases h0 : p4 = 0
  ·rcases grant_is h.1 e1 with ⟨hh, _⟩ | ⟨_, q1, q2, q3⟩
   ·exact absurd (hp4 h0) hh
   rw [if_neg (by simp [h0]), vcopy_eq h (by omega)]
   simp only [Option.bind_some]
   rw [if_pos (by simp; omega)]
   have hT : TabC (DTable.mk v.table.clock r1.1.next v.table.list_) := by rw [q2]; exact next_tab h.1 q3
   have hA : Rising v.accounts 1 (r1.1.next - 1) := h.2.1.mono (by omega)
   have hn1 := h.1.1.2.1
   obtain ⟨f, f1⟩ := fate_ok a 0
   rw [show ((0 : Nat) : Int) = 0 from rfl] at f1
   obtain ⟨c, c1, c2⟩ := acall_ok hA (by omega) r1.2.1 true f (fun _ => by rw [q1]; omega)
   have hlen : (v.intents ++ [DIntent.mk r1.2.1 false]).length = v.intents.length + 1 := by simp
   by_cases s1 : a.stop = 1
   ·rw [if_pos (by simp [s1])]
    obtain ⟨r, x1, x2, _⟩ := rec_ok (n := n + 1) (v := DVault.mk (DTable.mk v.table.clock r1.1.next v.table.list_) (v.intents ++ [DIntent.mk r1.2.1 false]) v.accounts v.sealed) ⟨hT, hA, by simp only [hlen]; omega, by simp only; omega⟩ (by omega)
    simp only [x1, Option.bind_some]
    exact ⟨_, rfl, x2⟩
   ·rw [if_neg (by simpa using s1)]
    simp only [f1, c1, Option.bind_some]
    by_cases s2 : a.stop = 2
    ·rw [if_pos (by simp [s2])]
     obtain ⟨r, x1, x2, _⟩ := rec_ok (n := n + 1) (v := DVault.mk (DTable.mk v.table.clock r1.1.next v.table.list_) (v.intents ++ [DIntent.mk r1.2.1 false]) c.1 v.sealed) ⟨hT, c2, by simp only [hlen]; omega, by simp only; omega⟩ (by omega)
     simp only [x1, Option.bind_some]
     exact ⟨_, rfl, x2⟩
    ·rw [if_neg (by simpa using s2)]
     have hw : IntKind.i64.wrap (((v.intents ++ [DIntent.mk r1.2.1 false]).length : Int) - 1) = (v.intents.length : Int) := by rw [hlen, wr ⟨by omega, by omega⟩]; omega
     simp only [hw]
     split
     ·rw [idx_lt (show v.intents.length < (v.intents ++ [DIntent.mk r1.2.1 false]).length by omega)]
      simp only [Option.bind_some, Int.toNat_natCast]
      rw [List.getElem?_eq_getElem (show v.intents.length < (v.intents ++ [DIntent.mk r1.2.1 false]).length by omega)]
      simp only [Option.bind_some]
      exact ⟨_, rfl, hT, c2, by simp; omega, by simp only; omega⟩
     ·have hs := slcK (v.intents ++ [DIntent.mk r1.2.1 false]) 0 v.intents.length (by omega) (by omega)
      rw [show ((0 : Nat) : Int) = 0 from rfl] at hs
      rw [hs]
      simp only [Option.bind_some]
      refine ⟨_, rfl, t1, c2, ?_, ?_⟩
      ·simp; omega
      ·show r1.1.next ≤ 1 + ((n + 1 : Nat) : Int)
       omega
  ·rw [if_pos (by simpa using h0)]
   exact ⟨_, rfl, h.mono (by omega)⟩
 simp only [g132, e1, Option.bind_some]
 split
 ·exact key 9 (fun h => by cases h)
 ·exact key _ (fun h => h)
theorem without_ok (l : List DIntent) (x : Int) (hl : l.length ≤ 1048576) : ∃ r, g146 l x = some r ∧ r.length ≤ l.length := by
 obtain ⟨L, e1, e2⟩ := iterI (step := g146_l0 l x) (fun s => ∃ k : Nat, s.2 = (k : Int) ∧ k ≤ l.length ∧ s.1.length ≤ k) (fun s => (l.length - s.2).toNat) (fun r => r.length ≤ l.length) ([], 0) ⟨0, rfl, by omega, by simp⟩ (by
  rintro ⟨L, _⟩ ⟨k, rfl, hk, hl2⟩
  simp only at hl2
  simp only [g146_l0]
  by_cases hlt : k < l.length
  ·rw [if_pos (decide_eq_true (by omega)), idx_lt (by omega)]
   simp only [Option.bind_some, g146_j0, w1 (show k < 4611686018427387904 by omega)]
   split
   ·rw [if_pos (by simp; omega)]
    exact .inl ⟨_, rfl, ⟨k + 1, rfl, by omega, by simp; omega⟩, by simp only; omega⟩
   ·exact .inl ⟨_, rfl, ⟨k + 1, rfl, by omega, by simp only; omega⟩, by simp only; omega⟩
  ·rw [if_neg (by simp; omega)]
   exact .inr ⟨_, rfl, by omega⟩)
 simp only [g146, e1, Option.bind_some]
 exact ⟨_, rfl, e2⟩
theorem sweep_ok {n : Nat} {v : DVault} {a : DVaultAct} (h : VI n v) (hn : n ≤ 2000) : ∃ r, g134 v a = some r ∧ VI n r := by
 have hnx := h.2.2.2
 have hin := h.2.2.1
 have h40 := h.1.1.2.2.1
 have hn1 := h.1.1.2.1
 have hacc : ∀ A : List Int, Rising A 1 (v.table.next - 1) → A.length ≤ 1048575 := fun A hA => by have := hA.len (by omega); omega
 obtain ⟨r, e1, e2⟩ := iterI (step := g134_l0 v a v) (fun s => ∃ i k : Nat, s.1 = (k : Int) ∧ s.2.1 = (i : Int) ∧ i ≤ v.table.list_.length ∧ k ≤ i ∧ s.2.2.2.1 = v.table.next ∧ TabC (DTable.mk s.2.2.1 s.2.2.2.1 s.2.2.2.2.1) ∧ Rising s.2.2.2.2.2 1 (v.table.next - 1))
  (fun s => (v.table.list_.length - s.2.1).toNat)
  (fun r => match r with
   | .inl (p63, p64, p65, p66, p67) => (∃ k : Nat, p63 = (k : Int) ∧ k ≤ 40) ∧ p65 = v.table.next ∧ TabC (DTable.mk p64 p65 p66) ∧ Rising p67 1 (v.table.next - 1)
   | .inr q => VI n q) (0, 0, v.table.clock, v.table.next, v.table.list_, v.accounts) ⟨0, 0, rfl, rfl, by omega, by omega, rfl, h.1, h.2.1⟩ (by
  rintro ⟨_, _, ck, nx, L, A⟩ ⟨i, k, rfl, rfl, hi, hk, hnx2, hT, hA⟩
  simp only at hnx2 hT hA
  subst hnx2
  simp only [g134_l0]
  by_cases hlt : i < v.table.list_.length
  ·rw [if_pos (decide_eq_true (by omega)), idx_lt hlt]
   simp only [Option.bind_some, g134_j0, w1 (show i < 4611686018427387904 by omega)]
   split
   ·exact .inl ⟨_, rfl, ⟨i + 1, k, rfl, rfl, by omega, by omega, rfl, hT, hA⟩, by simp only; omega⟩
   ·obtain ⟨f, f1⟩ := fate_ok a k
    obtain ⟨c, c1, c2⟩ := acall_ok hA (hacc A hA) v.table.list_[i].id false f (fun h => by cases h)
    simp only [f1, c1, Option.bind_some]
    have fin : ∀ (t : DTable), TabC t → t.next = v.table.next → (∃ s', g134_j1 a v (k : Int) (i : Int) c t.clock t.next t.list_ = some (.inl s') ∧ (∃ i k : Nat, s'.1 = (k : Int) ∧ s'.2.1 = (i : Int) ∧ i ≤ v.table.list_.length ∧ k ≤ i ∧ s'.2.2.2.1 = v.table.next ∧ TabC (DTable.mk s'.2.2.1 s'.2.2.2.1 s'.2.2.2.2.1) ∧ Rising s'.2.2.2.2.2 1 (v.table.next - 1)) ∧ (v.table.list_.length - s'.2.1).toNat < (v.table.list_.length - (i : Int)).toNat) ∨
      ∃ r, g134_j1 a v (k : Int) (i : Int) c t.clock t.next t.list_ = some (.inr r) ∧ (match r with
       | .inl (p63, p64, p65, p66, p67) => (∃ k : Nat, p63 = (k : Int) ∧ k ≤ 40) ∧ p65 = v.table.next ∧ TabC (DTable.mk p64 p65 p66) ∧ Rising p67 1 (v.table.next - 1)
       | .inr q => VI n q) := by
     intro t ht htn
     simp only [g134_j1, g134_j0, w1 (show i < 4611686018427387904 by omega), w1 (show k < 4611686018427387904 by omega)]
     split
     ·obtain ⟨r, x1, x2, _⟩ := rec_ok (n := n) (v := DVault.mk t v.intents c.1 v.sealed) ⟨ht, by simp only [htn]; exact c2, hin, by simp only [htn]; exact hnx⟩ hn
      rw [show (DTable.mk t.clock t.next t.list_) = t from rfl, x1]
      exact .inr ⟨_, rfl, x2⟩
     ·exact .inl ⟨_, rfl, ⟨i + 1, k + 1, rfl, rfl, by omega, by omega, htn, ht, c2⟩, by simp only; omega⟩
    split
    ·obtain ⟨d, d1, d2, d3⟩ := done_tab hT v.table.list_[i].id
     simp only [d1, Option.bind_some]
     exact fin d.1 d2 d3
    ·exact fin (DTable.mk ck v.table.next L) hT rfl
  ·rw [if_neg (by simp; omega)]
   exact .inr ⟨_, rfl, ⟨k, rfl, by omega⟩, rfl, hT, hA⟩)
 simp only [g134, vcopy_eq h hn, Option.bind_some, e1]
 rcases r with ⟨p63, p64, p65, p66, p67⟩ | q
 ·obtain ⟨⟨k0, rfl, hk0⟩, hp65, hT, hA⟩ := e2
  subst hp65
  simp only
  obtain ⟨r, e3, e4⟩ := iterI (step := g134_l1 v a v p64 v.table.next p66) (fun s => ∃ i k : Nat, s.1 = (k : Int) ∧ s.2.1 = (i : Int) ∧ i ≤ v.intents.length ∧ k ≤ 40 + i ∧ s.2.2.1.length ≤ n ∧ Rising s.2.2.2 1 (v.table.next - 1))
   (fun s => (v.intents.length - s.2.1).toNat)
   (fun r => match r with
    | .inl (p1, p2) => p1.length ≤ n ∧ Rising p2 1 (v.table.next - 1)
    | .inr q => VI n q) ((k0 : Int), 0, v.intents, p67) ⟨0, k0, rfl, rfl, by omega, by omega, hin, hA⟩ (by
   rintro ⟨_, _, L, A⟩ ⟨i, k, rfl, rfl, hi, hk, hL, hA⟩
   simp only at hL hA
   simp only [g134_l1]
   by_cases hlt : i < v.intents.length
   ·rw [if_pos (decide_eq_true (by omega)), idx_lt hlt]
    simp only [Option.bind_some, g134_j2, w1 (show i < 4611686018427387904 by omega)]
    split
    ·exact .inl ⟨_, rfl, ⟨i + 1, k, rfl, rfl, by omega, by omega, hL, hA⟩, by simp only; omega⟩
    ·obtain ⟨f, f1⟩ := fate_ok a k
     obtain ⟨c, c1, c2⟩ := acall_ok hA (hacc A hA) v.intents[i].lease false f (fun h => by cases h)
     simp only [f1, c1, Option.bind_some]
     have fin : ∀ (M : List DIntent), M.length ≤ n → (∃ s', g134_j3 a v p64 v.table.next p66 (k : Int) (i : Int) c M = some (.inl s') ∧ (∃ i k : Nat, s'.1 = (k : Int) ∧ s'.2.1 = (i : Int) ∧ i ≤ v.intents.length ∧ k ≤ 40 + i ∧ s'.2.2.1.length ≤ n ∧ Rising s'.2.2.2 1 (v.table.next - 1)) ∧ (v.intents.length - s'.2.1).toNat < (v.intents.length - (i : Int)).toNat) ∨
       ∃ r, g134_j3 a v p64 v.table.next p66 (k : Int) (i : Int) c M = some (.inr r) ∧ (match r with
        | .inl (p1, p2) => p1.length ≤ n ∧ Rising p2 1 (v.table.next - 1)
        | .inr q => VI n q) := by
      intro M hM
      simp only [g134_j3, g134_j2, w1 (show i < 4611686018427387904 by omega), w1 (show k < 4611686018427387904 by omega)]
      split
      ·obtain ⟨r, x1, x2, _⟩ := rec_ok (n := n) (v := DVault.mk (DTable.mk p64 v.table.next p66) M c.1 v.sealed) ⟨hT, c2, hM, hnx⟩ hn
       rw [x1]
       exact .inr ⟨_, rfl, x2⟩
      ·exact .inl ⟨_, rfl, ⟨i + 1, k + 1, rfl, rfl, by omega, by omega, hM, c2⟩, by simp only; omega⟩
     split
     ·obtain ⟨w, w1, w2⟩ := without_ok L v.intents[i].lease (by omega)
      simp only [w1, Option.bind_some]
      exact fin w (by omega)
     ·exact fin L hL
   ·rw [if_neg (by simp; omega)]
    exact .inr ⟨_, rfl, hL, hA⟩)
  simp only [e3, Option.bind_some]
  rcases r with ⟨p1, p2⟩ | q
  ·exact ⟨_, rfl, hT, e4.2, e4.1, hnx⟩
  ·exact ⟨_, rfl, e4⟩
 ·exact ⟨_, rfl, e2⟩
def ActFit (a : DVaultAct) : Prop := (a.kind = 1 → 1 ≤ a.ttl ∧ a.ttl ≤ a.most ∧ a.most ≤ 9223372036854775807) ∧ (a.kind = 2 → 1 ≤ a.ttl ∧ a.ttl ≤ 9223372036854775807) ∧ (a.kind = 4 → a.clock ≤ 9223372036854775807) ∧ a.fates.length ≤ 1048576
theorem step_ok {n : Nat} {v : DVault} {a : DVaultAct} (h : VI n v) (hn : n ≤ 1000) (ha : ActFit a) : ∃ r, g101 v a = some r ∧ VI (n + 1) r.1 := by
 obtain ⟨a1, a2, a4, a5⟩ := ha
 have same : ∀ c : Int, VI (n + 1) (v, DVaultReply.mk c 0).1 := fun c => h.mono (by omega)
 simp only [g101, g56_eq, Option.bind_some]
 split
 ·exact ⟨_, rfl, same _⟩
 ·split
  ·exact ⟨_, rfl, same _⟩
  ·rw [vcopy_eq h (by omega)]
   simp only [Option.bind_some]
   have j0 : ∀ (c : Int) (t : DTable) (L : List DIntent) (A : List Int) (s : Bool), VI (n + 1) (DVault.mk t L A s) → ∃ r, g101_j0 v c t.clock t.next t.list_ L A s = some r ∧ VI (n + 1) r.1 := fun c t L A s hv => by
    simp only [g101_j0]
    split
    ·exact ⟨_, rfl, h.mono (by omega)⟩
    ·exact ⟨_, rfl, hv⟩
   have hv1 : ∀ t : DTable, TabC t → t.next = v.table.next → ∀ s, VI (n + 1) (DVault.mk t v.intents v.accounts s) := fun t ht e s => ⟨ht, by simp only [e]; exact h.2.1, by have := h.2.2.1; simp only; omega, by have := h.2.2.2; simp only [e]; omega⟩
   split
   ·rename_i k1
    obtain ⟨r, x1, x2⟩ := issue_ok h hn (a1 (eq_of_beq k1))
    simp only [x1, Option.bind_some]
    exact ⟨_, rfl, x2⟩
   ·split
    ·rename_i k2
     obtain ⟨r, x1, x2⟩ := renews_tab h.1 a.id a.ttl (a2 (eq_of_beq k2))
     simp only [x1, Option.bind_some]
     exact j0 _ _ _ _ _ (hv1 _ x2 (renew_next h.1 x1) _)
    ·split
     ·obtain ⟨r, x1, x2⟩ := revoke_tab h.1 a.id
      simp only [x1, Option.bind_some]
      exact j0 _ _ _ _ _ (hv1 _ x2 (revoke_next h.1 x1) _)
     ·split
      ·rename_i k4
       obtain ⟨s, x1, _⟩ := g81_eq v.table a.clock h.1.1 (by have := h.1.1.2.2.1; omega)
       have x2 := tick_tab h.1 a.clock (a4 (eq_of_beq k4))
       simp only [x1, Option.bind_some]
       have hv : VI n (DVault.mk (DTable.mk (nowOf v.table a.clock) v.table.next (v.table.list_.map (markD (nowOf v.table a.clock)))) v.intents v.accounts v.sealed) := ⟨x2, h.2.1, h.2.2.1, h.2.2.2⟩
       split
       ·obtain ⟨r, y1, y2, _⟩ := rec_ok hv (by omega)
        simp only [y1, Option.bind_some]
        exact ⟨_, rfl, y2.mono (by omega)⟩
       ·obtain ⟨r, y1, y2⟩ := sweep_ok (a := a) hv (by omega)
        simp only [y1, Option.bind_some]
        split
        ·exact ⟨_, rfl, y2.mono (by omega)⟩
        ·exact j0 _ r.table _ _ _ (y2.mono (by omega))
      ·split
       ·exact j0 _ v.table _ _ _ (hv1 _ h.1 rfl _)
       ·split
        ·exact j0 _ v.table _ _ _ (hv1 _ h.1 rfl _)
        ·exact j0 _ v.table _ _ _ (hv1 _ h.1 rfl _)
theorem isact_ok (a : DVaultAct) (h : a.fates.length ≤ 1048576) : ∃ b, g100 a = some b := by
 simp only [g100]
 obtain ⟨r, h1, h2⟩ := gsome (o := g56 a.stop 0 2) (g := (decide ((a.fates.length : Int) > 4096) == false)) (fun _ => ⟨_, g56_eq _ _ _⟩)
 rw [h1]
 simp only [Option.bind_some]
 split
 ·exact ⟨_, rfl⟩
 ·obtain ⟨r, e1, _⟩ := iterI (step := g100_l0 a) (fun s => ∃ k : Nat, s = (k : Int) ∧ k ≤ a.fates.length) (fun s => (a.fates.length - s).toNat) (fun _ => True) 0 ⟨0, rfl, by omega⟩ (by
   rintro _ ⟨k, rfl, hk⟩
   simp only [g100_l0]
   by_cases hlt : k < a.fates.length
   ·rw [if_pos (decide_eq_true (by omega)), idx_lt hlt]
    simp only [Option.bind_some, g56_eq, w1 (show k < 4611686018427387904 by omega)]
    split
    ·exact .inr ⟨_, rfl, trivial⟩
    ·exact .inl ⟨_, rfl, ⟨k + 1, rfl, by omega⟩, by omega⟩
   ·rw [if_neg (by simp; omega)]
    exact .inr ⟨_, rfl, trivial⟩)
  simp only [e1, Option.bind_some]
  rcases r with _ | q
  ·exact ⟨_, rfl⟩
  ·exact ⟨_, rfl⟩
theorem run_ok (acts : List DVaultAct) (h : ∀ a ∈ acts, ActFit a) : ∃ r, g50 acts = some r ∧ Rising r.1.accounts 1 (r.1.table.next - 1) ∧ r.1.table.next ≤ 121 := by
 simp only [g50]
 have none0 : Rising (DVault.mk (DTable.mk 0 0 []) [] [] false).accounts 1 ((DVault.mk (DTable.mk 0 0 []) [] [] false).table.next - 1) := fun k x hx => by simp at hx
 split
 ·exact ⟨_, rfl, none0, by decide⟩
 ·split
  ·exact ⟨_, rfl, none0, by decide⟩
  ·rename_i h2
   have hl : acts.length ≤ 120 := by
    simp only [decide_eq_true_eq] at h2; omega
   have tab0 : TabC (DTable.mk 0 1 []) := ⟨⟨by simp, ⟨by simp, by simp⟩, by simp, fun k x hx => by simp at hx⟩, by simp, by simp⟩
   have v0 : VI 0 (DVault.mk (DTable.mk 0 1 []) [] [] false) := ⟨tab0, fun k x hx => by simp at hx, by simp, by simp⟩
   obtain ⟨r, e1, e2⟩ := iterI (step := g50_l0 acts) (fun s => ∃ i : Nat, s.2.1 = (i : Int) ∧ i ≤ acts.length ∧ s.1.length = i ∧ VI i (DVault.mk (DTable.mk s.2.2.1 s.2.2.2.1 s.2.2.2.2.1) s.2.2.2.2.2.1 s.2.2.2.2.2.2.1 s.2.2.2.2.2.2.2))
    (fun s => (acts.length - s.2.1).toNat)
    (fun r => match r with
     | .inl (p43, p44, p45, p46, p47, p48, p49) => VI 120 (DVault.mk (DTable.mk p44 p45 p46) p47 p48 p49)
     | .inr q => Rising q.1.accounts 1 (q.1.table.next - 1) ∧ q.1.table.next ≤ 121) ([], 0, 0, 1, [], [], [], false) ⟨0, rfl, by omega, rfl, v0⟩ (by
    rintro ⟨R, _, ck, nx, L, In, A, se⟩ ⟨i, rfl, hi, hR, hv⟩
    simp only at hR hv
    simp only [g50_l0]
    by_cases hlt : i < acts.length
    ·rw [if_pos (decide_eq_true (by omega)), idx_lt hlt]
     have ha := h _ (List.getElem_mem hlt)
     obtain ⟨b, b1⟩ := isact_ok acts[i] ha.2.2.2
     simp only [Option.bind_some, b1]
     split
     ·exact .inr ⟨_, rfl, none0, by decide⟩
     ·obtain ⟨r, x1, x2⟩ := step_ok hv (by omega) ha
      simp only [x1, Option.bind_some]
      rw [if_pos (by simp; omega), w1 (show i < 4611686018427387904 by omega)]
      exact .inl ⟨_, rfl, ⟨i + 1, rfl, by omega, by simp; omega, x2⟩, by simp only; omega⟩
    ·rw [if_neg (by simp; omega)]
     exact .inr ⟨_, rfl, hv.mono (by omega)⟩)
   simp only [e1, Option.bind_some]
   rcases r with ⟨p43, p44, p45, p46, p47, p48, p49⟩ | q
   ·simp only
    have e3 : VI 120 (DVault.mk (DTable.mk p44 p45 p46) p47 p48 p49) := e2
    rw [vcopy_eq e3 (by omega)]
    simp only [Option.bind_some]
    exact ⟨_, rfl, e3.2.1, by have := e3.2.2.2; simp only at this ⊢; omega⟩
   ·exact ⟨_, rfl, e2⟩
end Go.Ev
end
section
set_option maxHeartbeats 1000000
namespace Go.Ev
theorem fates_ok {s : Dl00Src} {B : Int} (h : SrcOK s B) (hB : B ≤ 1099511627776) : ∃ l s', g147 s = some (l, s') ∧ l.length ≤ 3 ∧ SrcOK s' (B + 12) := by
 obtain ⟨v, s1, e1, e2, e3⟩ := g117_ok (n := 4) h (by omega) (by omega)
 have hv := e2.2.2 (by omega)
 have hv0 := e2.1
 obtain ⟨q, q1, q2⟩ := iterI (step := g147_l0) (fun s => ∃ k : Nat, s.2.1 = (k : Int) ∧ k + s.1.length ≤ 3 ∧ SrcOK (Dl00Src.mk s.2.2.1 s.2.2.2.1 s.2.2.2.2) (B + 12 - 3 * (k : Int))) (fun s => s.2.1.toNat)
  (fun r => r.1.length ≤ 3 ∧ SrcOK (Dl00Src.mk r.2.1 r.2.2.1 r.2.2.2) (B + 12)) ([], v, s1.code_, s1.at_, s1.seed) ⟨v.toNat, by simp only; omega, by simp; omega, e3.mono (by omega)⟩ (by
  rintro ⟨L, _, cd, at_, sd⟩ ⟨k, rfl, hk, hs⟩
  simp only at hk hs
  simp only [g147_l0]
  by_cases h0 : 0 < k
  ·rw [if_pos (decide_eq_true (by omega))]
   obtain ⟨x, s6, x1, x2, x3⟩ := g117_ok (n := 5) hs (by omega) (by omega)
   simp only [x1, Option.bind_some]
   rw [if_pos (by simp; omega)]
   have hw : IntKind.i64.wrap ((k : Int) - 1) = ((k - 1 : Nat) : Int) := by rw [wr ⟨by omega, by omega⟩]; omega
   rw [hw]
   exact .inl ⟨_, rfl, ⟨k - 1, rfl, by simp; omega, x3.mono (by omega)⟩, by simp only; omega⟩
  ·rw [if_neg (by simp; omega)]
   exact .inr ⟨_, rfl, by simp only; omega, hs.mono (by omega)⟩)
 simp only [g147, e1, q1, Option.bind_some]
 exact ⟨_, _, rfl, q2⟩
theorem fin_act {k i t m c : Int} {f : List Int} {s : Dl00Src} {B : Int} (hs : SrcOK s B) (hB : B ≤ 1099511627776)
  (h1 : k = 1 → 1 ≤ t ∧ t ≤ m ∧ m ≤ 9223372036854775807) (h2 : k = 2 → 1 ≤ t ∧ t ≤ 9223372036854775807) (h4 : k = 4 → c ≤ 9223372036854775807) (hf : f.length ≤ 1048576) :
  ∃ r, g135_j0 k i t m c f s.code_ s.at_ s.seed = some r ∧ ActFit r.1 ∧ SrcOK r.2 (B + 6) := by
 obtain ⟨x, s6, x1, x2, x3⟩ := g117_ok (n := 7) (s := Dl00Src.mk s.code_ s.at_ s.seed) (B := B) hs (by omega) (by omega)
 simp only [g135_j0, g119, x1, Option.bind_some, g135_j1]
 split
 ·obtain ⟨y, s7, y1, y2, y3⟩ := g117_ok (n := 2) x3 (by omega) (by omega)
  simp only [y1, Option.bind_some]
  exact ⟨_, rfl, ⟨h1, h2, h4, hf⟩, y3.mono (by omega)⟩
 ·exact ⟨_, rfl, ⟨h1, h2, h4, hf⟩, x3.mono (by omega)⟩
theorem act_ok {s : Dl00Src} {B : Int} (h : SrcOK s B) (hB : B ≤ 109951162777) : ∃ r, g135 s = some r ∧ ActFit r.1 ∧ SrcOK r.2 (B + 60) := by
 obtain ⟨v1, s1, a1, a2, a3⟩ := g117_ok (n := 9) h (by omega) (by omega)
 obtain ⟨f1, s2, b1, b2, b3⟩ := fates_ok a3 (by omega)
 obtain ⟨v3, s3, c1, c2, c3⟩ := g117_ok (n := 9) b3 (by omega) (by omega)
 obtain ⟨v4, s4, d1, d2, d3⟩ := g117_ok (n := 10) c3 (by omega) (by omega)
 have hv1 := a2.2.2 (by omega)
 have hv3 := c2.2.2 (by omega)
 have m : ∀ {r : DVaultAct × Dl00Src} {C : Int}, SrcOK r.2 C → C ≤ B + 60 → SrcOK r.2 (B + 60) := fun hs hc => hs.mono hc
 have j2 : ∀ b : Bool, ∃ r, g135_j2 (v1, s1) (f1, s2) (v3, s3) (v4, s4) b = some r ∧ ActFit r.1 ∧ SrcOK r.2 (B + 60) := by
  intro b
  simp only [g135_j2]
  split
  ·obtain ⟨x, s5, x1, x2, x3⟩ := g117_ok (n := 60) d3 (by omega) (by omega)
   obtain ⟨g, s6, y1, y2, y3⟩ := fates_ok x3 (by omega)
   have hx := x2.2.2 (by omega)
   simp only [x1, y1, Option.bind_some]
   obtain ⟨r, r1, r2, r3⟩ := fin_act (k := 4) (i := 0) (t := 0) (m := 0) (c := x) (f := g) y3 (by omega) (fun h => by cases h) (fun h => by cases h) (fun _ => by omega) (by omega)
   exact ⟨r, r1, r2, r3.mono (by omega)⟩
  ·split
   ·obtain ⟨x, s5, x1, x2, x3⟩ := g117_ok (n := 4) d3 (by omega) (by omega)
    have hx := x2.2.2 (by omega)
    have hx0 := x2.1
    obtain ⟨k, rfl⟩ : ∃ k : Nat, x = k := ⟨x.toNat, by omega⟩
    have hk : k < ([5, 6, 6, 6] : List Int).length := by simp; omega
    simp only [x1, Option.bind_some, Int.toNat_natCast]
    rw [idx_lt hk, List.getElem?_eq_getElem hk]
    simp only [Option.bind_some]
    have hval : ([5, 6, 6, 6] : List Int)[k] = 5 ∨ ([5, 6, 6, 6] : List Int)[k] = 6 := by
     have : ∀ y ∈ ([5, 6, 6, 6] : List Int), y = 5 ∨ y = 6 := by simp
     exact this _ (List.getElem_mem hk)
    obtain ⟨r, r1, r2, r3⟩ := fin_act (k := ([5, 6, 6, 6] : List Int)[k]) (i := 0) (t := 0) (m := 0) (c := 0) (f := []) x3 (by omega) (fun h => by omega) (fun h => by omega) (fun h => by omega) (by simp)
    exact ⟨r, r1, r2, r3.mono (by omega)⟩
   ·have w1' : IntKind.i64.wrap (1 + v1) = 1 + v1 := wr ⟨by omega, by omega⟩
    have w2' : IntKind.i64.wrap (1 + v1 + v3) = 1 + v1 + v3 := wr ⟨by omega, by omega⟩
    simp only [w1', w2']
    obtain ⟨r, r1, r2, r3⟩ := fin_act (k := 1) (i := 0) (t := 1 + v1) (m := 1 + v1 + v3) (c := 0) (f := f1) d3 (by omega) (fun _ => by omega) (fun h => by cases h) (fun h => by cases h) (by omega)
    exact ⟨r, r1, r2, r3.mono (by omega)⟩
 simp only [g135, a1, b1, c1, d1, Option.bind_some]
 split
 ·obtain ⟨x, s5, x1, x2, x3⟩ := g117_ok (n := 9) d3 (by omega) (by omega)
  obtain ⟨y, s6, y1, y2, y3⟩ := g117_ok (n := 12) x3 (by omega) (by omega)
  have hx := x2.2.2 (by omega)
  have hy := y2.2.2 (by omega)
  have w1' : IntKind.i64.wrap (1 + y) = 1 + y := wr ⟨by omega, by omega⟩
  simp only [x1, y1, w1', Option.bind_some]
  obtain ⟨r, r1, r2, r3⟩ := fin_act (k := 2) (i := IntKind.i64.wrap (1 + x)) (t := 1 + y) (m := 0) (c := 0) (f := []) y3 (by omega) (fun h => by cases h) (fun _ => by omega) (fun h => by cases h) (by simp)
  exact ⟨r, r1, r2, r3.mono (by omega)⟩
 ·split
  ·obtain ⟨x, s5, x1, x2, x3⟩ := g117_ok (n := 9) d3 (by omega) (by omega)
   simp only [x1, Option.bind_some]
   obtain ⟨r, r1, r2, r3⟩ := fin_act (k := 3) (i := IntKind.i64.wrap (1 + x)) (t := 0) (m := 0) (c := 0) (f := []) x3 (by omega) (fun h => by cases h) (fun h => by cases h) (fun h => by cases h) (by simp)
   exact ⟨r, r1, r2, r3.mono (by omega)⟩
  ·split
   ·exact j2 _
   ·split
    ·exact j2 _
    ·exact j2 _
theorem acts_ok (code : List UInt8) (hc : code.length ≤ 1048576) : ∃ l, g51 code = some l ∧ ∀ a ∈ l, ActFit a := by
 obtain ⟨s0, s1, s2⟩ := g83_ok code hc
 have hw0 : IntKind.i64.wrap (((s0.code_.length : Int)).tdiv 12) = ((s0.code_.length / 12 : Nat) : Int) := sdv 12 (by have := s2.1; omega)
 obtain ⟨r1, p1, p2⟩ : ∃ r1, g118 s0 16 = some r1 ∧ (0 ≤ r1 ∧ r1 ≤ 16) := by
  simp only [g118, hw0, bindv]
  have hw1 : IntKind.i64.wrap (1 + ((s0.code_.length / 12 : Nat) : Int)) = 1 + ((s0.code_.length / 12 : Nat) : Int) := wr ⟨by omega, by have := s2.1; omega⟩
  rw [hw1]
  exact ⟨_, rfl, by split <;> omega⟩
 have hw2 : IntKind.i64.wrap (r1 + 3) = r1 + 3 := wr ⟨by omega, by omega⟩
 obtain ⟨v, s3, e1, e2, e3⟩ := g117_ok (n := r1 + 3) s2 (by omega) (by omega)
 have hv : v ≤ 18 := by have := e2.2.2 (by omega); omega
 have hv0 := e2.1
 have open0 : ActFit (DVaultAct.mk 6 0 0 0 0 ([] : List Int) 0) := by simp [ActFit]
 obtain ⟨q, q1, q2⟩ := iterI (step := g103_l0) (fun s => ∃ k : Nat, s.2.1 = (k : Int) ∧ k ≤ 18 ∧ s.1.length + 2 * k ≤ 40 ∧ (∀ a ∈ s.1, ActFit a) ∧ SrcOK (Dl00Src.mk s.2.2.1 s.2.2.2.1 s.2.2.2.2) (4000 - 60 * (k : Int))) (fun s => s.2.1.toNat)
  (fun r => ∀ a ∈ r.1, ActFit a) ([], v, s3.code_, s3.at_, s3.seed) ⟨v.toNat, by simp only; omega, by omega, by simp; omega, by simp, e3.mono (by omega)⟩ (by
  rintro ⟨L, _, cd, at_, sd⟩ ⟨k, rfl, hk18, hk, hL, hs⟩
  simp only at hk hs hL
  simp only [g103_l0]
  by_cases h0 : 0 < k
  ·rw [if_pos (decide_eq_true (by omega))]
   obtain ⟨x, x1, x2, x3⟩ := act_ok hs (by omega)
   simp only [x1, Option.bind_some]
   have hw : IntKind.i64.wrap ((k : Int) - 1) = ((k - 1 : Nat) : Int) := by rw [wr ⟨by omega, by omega⟩]; omega
   rw [if_pos (by simp; omega)]
   simp only [g103_j0, hw]
   have hL1 : ∀ a ∈ L ++ [x.1], ActFit a := fun a ha => by
    rcases List.mem_append.1 ha with ha | ha
    ·exact hL a ha
    ·simp only [List.mem_singleton] at ha; subst ha; exact x2
   split
   ·rw [if_pos (by simp; omega)]
    refine .inl ⟨_, rfl, ⟨k - 1, rfl, by omega, by simp; omega, fun a ha => ?_, x3.mono (by omega)⟩, by simp only; omega⟩
    rcases List.mem_append.1 ha with ha | ha
    ·exact hL1 a ha
    ·simp only [List.mem_singleton] at ha; subst ha; exact open0
   ·exact .inl ⟨_, rfl, ⟨k - 1, rfl, by omega, by simp; omega, hL1, x3.mono (by omega)⟩, by simp only; omega⟩
  ·rw [if_neg (by simp; omega)]
   exact .inr ⟨_, rfl, hL⟩)
 obtain ⟨L, cd, at_, sd⟩ := q
 simp only at q2
 simp only [g51, s1, g103, p1, hw2, e1, q1, Option.bind_some]
 have hmin : ∃ m : Nat, (if (120 : Int) < (L.length : Int) then (120 : Int) else (L.length : Int)) = (m : Int) ∧ m ≤ L.length := by
  split
  ·exact ⟨120, rfl, by omega⟩
  ·exact ⟨L.length, rfl, by omega⟩
 obtain ⟨m, m1, m2⟩ := hmin
 have hs := slcK L 0 m (by omega) m2
 rw [show ((0 : Nat) : Int) = 0 from rfl] at hs
 rw [m1, hs]
 simp only [Option.bind_some]
 exact ⟨_, rfl, fun a ha => q2 a (List.mem_of_mem_take (List.mem_of_mem_drop ha))⟩
theorem same_ints (l : List Int) (hl : l.length ≤ 1048576) : g52 l l = some true := by
 have h := same_loop l (step := g52_l0 l l) (fun k hk => by
  simp only [g52_l0]
  rw [if_pos (decide_eq_true (by omega)), idx_lt hk]
  simp only [Option.bind_some]
  rw [if_neg (by simp), w1 (show k < 4611686018427387904 by omega)]) (by
  simp only [g52_l0]
  rw [if_neg (by simp)])
 unfold g52
 rw [if_neg (by simp), h]
 rfl
theorem calls_at {l : List Int} (h : Rising l 1 1000000) (hl : l.length ≤ 4096) {x : Int} (hx : 1 ≤ x ∧ x ≤ 1000000) (c : Bool) {f : Int} (hf : 0 ≤ f ∧ f ≤ 2) {p : Nat} (hp : CutAt l x p) :
  g44 l x c f = some (if (f == 1) = true then (l, 13) else (called l x c p, codeOf f)) ∧ g42 l x c f = some (if (f == 1) = true then (l, 13) else (called l x c p, codeOf f)) := by
 have hg : g87 l = some (decide ((l.length : Int) ≤ 4096)) := rfl
 have d1 : decide ((l.length : Int) > 4096) = false := by simp; omega
 have d2 : decide ((l.length : Int) ≤ 4096) = true := by simp; omega
 have e1 := g86_eq (l := l) (by omega) x c f hp
 have e2 := g89_eq h (by omega) x c f hp
 generalize hq : (if (f == 1) = true then (l, (13 : Int)) else (called l x c p, codeOf f)) = q at e1 e2
 have hql : q.1.length ≤ 4097 := by
  rw [← hq]; split
  ·simp only; omega
  ·have := called_len (l := l) (x := x) (c := c) (p := p)
   simp only; omega
 simp only [g42, g44, hg, Option.bind_some, g85_eq l 1000001 ⟨by omega, by omega⟩ (by omega), g59_eq l 1 1000000 (by omega), g56_eq, g58_eq, g88, g63_eq]
 rw [show (1000001 : Int) - 1 = 1000000 from rfl]
 simp only [d1, d2, Bool.false_eq_true, if_false, Bool.not_true, tf_pos h, tf_pos hx, tf_pos hf, e1, e2, beq_self_eq_true, if_true, Option.bind_some, cond_false, List.nil_append, true_and]
 rw [if_pos (by simp; omega)]
theorem at_number (l : List UInt8) (k : Nat) (n : Int) (hk : k ≤ 1000) (hn : 1 < n ∧ n ≤ 1048576) (hl : l.length ≤ 1048576) : ∃ v : Nat, g40 l (k : Int) n = some (v : Int) ∧ (v : Int) < n := by
 simp only [g40]
 rw [if_neg (by simp; omega)]
 have fin : ∀ v : Int, 0 ≤ v → ∃ u : Nat, v.tmod n = (u : Int) ∧ (u : Int) < n := fun v hv => by
  refine ⟨(v % n).toNat, ?_, ?_⟩
  ·rw [Int.tmod_eq_emod_of_nonneg hv]
   have := Int.emod_nonneg v (show n ≠ 0 by omega); omega
  ·have := Int.emod_lt_of_pos v (show 0 < n by omega)
   have := Int.emod_nonneg v (show n ≠ 0 by omega); omega
 by_cases h0 : l.length = 0
 ·rw [if_pos (by simp [h0]), if_pos (by omega), wr ⟨by omega, by omega⟩]
  obtain ⟨u, u1, u2⟩ := fin ((k : Int) * 7) (by omega)
  exact ⟨u, by rw [u1], u2⟩
 ·rw [if_neg (by simpa using h0), if_pos (by omega)]
  have e1 : (k : Int).tmod (l.length : Int) = ((k % l.length : Nat) : Int) := by
   rw [Int.tmod_eq_emod_of_nonneg (by omega)]; simp
  have e2 : IntKind.i64.wrap ((k : Int) + 1) = ((k + 1 : Nat) : Int) := w1 (by omega)
  have e3 : ((k + 1 : Nat) : Int).tmod (l.length : Int) = (((k + 1) % l.length : Nat) : Int) := by
   rw [Int.tmod_eq_emod_of_nonneg (by omega)]; simp
  have h1 : k % l.length < l.length := Nat.mod_lt _ (by omega)
  have h2 : (k + 1) % l.length < l.length := Nat.mod_lt _ (by omega)
  rw [e1, idx_lt h1]
  simp only [Option.bind_some, e2, e3]
  rw [idx_lt h2]
  simp only [Option.bind_some]
  rw [if_pos (by omega)]
  generalize l[k % l.length] = x
  generalize l[(k + 1) % l.length] = y
  have hx : (x.toNat : Int) < 256 := by have := x.toNat_lt; omega
  have hy : (y.toNat : Int) < 256 := by have := y.toNat_lt; omega
  have hq : k / l.length ≤ k := Nat.div_le_self _ _
  have w1' : IntKind.i64.wrap (x.toNat : Int) = (x.toNat : Int) := wr ⟨by omega, by omega⟩
  have w2 : IntKind.i64.wrap ((x.toNat : Int) * 31) = (x.toNat : Int) * 31 := wr ⟨by omega, by omega⟩
  have w3 : IntKind.i64.wrap (y.toNat : Int) = (y.toNat : Int) := wr ⟨by omega, by omega⟩
  have w4 : IntKind.i64.wrap ((x.toNat : Int) * 31 + (y.toNat : Int)) = (x.toNat : Int) * 31 + (y.toNat : Int) := wr ⟨by omega, by omega⟩
  have w5 : IntKind.i64.wrap ((k : Int).tdiv (l.length : Int)) = ((k / l.length : Nat) : Int) := sdv _ (by omega)
  generalize k / l.length = q at *
  have w6 : IntKind.i64.wrap ((x.toNat : Int) * 31 + (y.toNat : Int) + (q : Int)) = (x.toNat : Int) * 31 + (y.toNat : Int) + (q : Int) := wr ⟨by omega, by omega⟩
  simp only [bindv, w1', w2, w3, w4, w5, w6]
  obtain ⟨u, u1, u2⟩ := fin ((x.toNat : Int) * 31 + (y.toNat : Int) + (q : Int)) (by omega)
  exact ⟨u, by rw [u1], u2⟩
theorem call_number (l : List UInt8) (hl : l.length ≤ 1048576) : ∃ v : Nat, g40 l 0 12 = some (v : Int) ∧ (v : Int) < 12 := at_number l 0 12 (by omega) (by omega) hl
theorem g14_law (code more : List UInt8) (_ : okL okAny code) (_ : okL okAny more) : g14 code more = some true := by
 unfold g14 bindv
 dsimp only
 by_cases hc : code.length > 1048576
 ·rw [if_pos (by rw [decide_eq_true (show (code.length : Int) > 1048576 by omega)]; rfl)]
 ·by_cases hm : more.length > 1048576
  ·rw [if_pos (by rw [decide_eq_true (show (more.length : Int) > 1048576 by omega)]; cases decide ((code.length : Int) > 1048576) <;> rfl)]
  ·rw [if_neg (by rw [decide_eq_false (show ¬ (code.length : Int) > 1048576 by omega), decide_eq_false (show ¬ (more.length : Int) > 1048576 by omega)]; simp)]
   obtain ⟨acts, t1, t2⟩ := acts_ok code (by omega)
   obtain ⟨r, r1, r2, r3⟩ := run_ok acts t2
   obtain ⟨v, v1, v2⟩ := call_number more (by omega)
   rw [t1, Option.bind_some, r1, Option.bind_some, v1, Option.bind_some]
   have hA : Rising r.1.accounts 1 120 := r2.mono (by omega)
   generalize r.1.accounts = A at *
   have hw : IntKind.i64.wrap (1 + (v : Int)) = 1 + (v : Int) := wr ⟨by omega, by omega⟩
   rw [hw]
   generalize hx : 1 + (v : Int) = x
   have hx1 : 1 ≤ x ∧ x ≤ 120 := by omega
   have hxM : 1 ≤ x ∧ x ≤ 1000000 := by omega
   have hAl := hA.len (by omega)
   obtain ⟨p, hp⟩ := cut_ex hA x
   have hM : Rising (called A x true p) 1 120 := called_rising hA true (fun _ => hx1) hp
   have hMl := hM.len (by omega)
   have hxm : x ∈ called A x true p := by
    unfold called
    rw [if_pos rfl]
    split
    ·rename_i hat; exact (at_mem hA hp).1 hat
    ·simp
   obtain ⟨c1, c1'⟩ := calls_at (hA.mono (by omega)) (by omega) hxM true (f := 0) (by omega) hp
   obtain ⟨c5, _⟩ := calls_at (hA.mono (by omega)) (by omega) hxM true (f := 1) (by omega) hp
   generalize called A x true p = made at *
   obtain ⟨p', hp'⟩ := cut_ex hM x
   have hat := (at_mem hM hp').2 hxm
   obtain ⟨c2, _⟩ := calls_at (hM.mono (by omega)) (by omega) hxM true (f := 2) (by omega) hp'
   obtain ⟨c3, _⟩ := calls_at (hM.mono (by omega)) (by omega) hxM false (f := 2) (by omega) hp'
   have hm1 : called made x true p' = made := by unfold called; rw [if_pos rfl, if_pos hat]
   have hG : Rising (called made x false p') 1 120 := called_rising hM false (fun h => by cases h) hp'
   have hGl := hG.len (by omega)
   have hxg : x ∉ called made x false p' := by
    unfold called
    rw [if_neg (by simp), if_pos hat]
    intro hmem
    rcases List.mem_append.1 hmem with hmem | hmem
    ·have := cut_take hp' hmem; omega
    ·obtain ⟨j, hj, hjx⟩ := List.getElem_of_mem hmem
     simp only [List.length_drop] at hj
     rw [List.getElem_drop] at hjx
     have h1 := hM.lt (show p' + 1 + j < made.length by omega) (show p' < p' + 1 + j by omega)
     have h2 := hp'.2.2 p' (by omega) (Nat.le_refl _)
     omega
   generalize called made x false p' = gone at *
   obtain ⟨p2, hp2⟩ := cut_ex hG x
   have hng : ¬ AtCut gone x p2 = true := fun h => hxg ((at_mem hG hp2).1 h)
   obtain ⟨c4, _⟩ := calls_at (hG.mono (by omega)) (by omega) hxM false (f := 0) (by omega) hp2
   have hg1 : called gone x false p2 = gone := by unfold called; rw [if_neg (by simp), if_neg hng]
   rw [hm1] at c2
   rw [hg1] at c4
   have z1 : ((0 : Int) == 1) = false := by decide
   have z2 : ((2 : Int) == 1) = false := by decide
   have z3 : codeOf 0 = 0 := by decide
   have z4 : codeOf 2 = 15 := by decide
   simp only [z1, z2, z3, z4, beq_self_eq_true, Bool.false_eq_true, if_false, if_true] at c1 c1' c2 c3 c4 c5
   have y1 : ((0 : Int) == 0) = true := by decide
   have y2 : ((15 : Int) == 15) = true := by decide
   have y3 : ((13 : Int) == 13) = true := by decide
   rw [c1, Option.bind_some]
   dsimp only
   rw [c2, Option.bind_some, c3, Option.bind_some]
   dsimp only
   rw [c4, Option.bind_some, c5, Option.bind_some, c1', Option.bind_some]
   dsimp only
   simp only [y1, y2, y3, cond_true, beq_self_eq_true, if_true, same_ints made (by omega), Option.bind_some, same_ints gone (by omega), same_ints A (by omega)]
end Go.Ev
end
