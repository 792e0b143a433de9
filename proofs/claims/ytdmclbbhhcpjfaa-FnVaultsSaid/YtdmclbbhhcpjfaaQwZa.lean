/- The plain part of the proof: what the functions compute answers as the law says. -/
import Derived.Test.YtdmclbbhhcpjfaaQvL
import Derived.Test.YtdmclbbhhcpjfaaQgD
import Derived.Test.YtdmclbbhhcpjfaaQvM
import Derived.Sort.LotA
import Derived.Sort.LotB
import Derived.Sort.LotC
import Derived.Sort.LotD3
import Derived.Sort.LotD5
import Derived.Sort.LotD4
set_option linter.all false
section
namespace Go.Ev
noncomputable def tf (P : Prop) : Bool := @decide P (Classical.propDecidable P)
@[simp] theorem tf_iff {P : Prop} : tf P = true ↔ P := by unfold tf; exact @decide_eq_true_iff P (Classical.propDecidable P)
@[simp] theorem tf_false {P : Prop} : tf P = false ↔ ¬ P := by rw [← Bool.not_eq_true, tf_iff]
theorem Me {P Q : Prop} (h : P ↔ Q) : tf P = tf Q := by rw [propext h]
theorem Er {P : Prop} (h : P) : tf P = true := tf_iff.2 h
theorem Dj {P : Prop} (h : ¬ P) : tf P = false := tf_false.2 h
theorem Yd {P : Prop} [Decidable P] : decide P = tf P := by
 by_cases h : P
 ·rw [Er h, decide_eq_true h]
 ·rw [Dj h, decide_eq_false h]
theorem yX {P : Prop} : (!tf P) = tf (¬ P) := by
 by_cases h : P
 ·rw [Er h, Dj (not_not_intro h)]; rfl
 ·rw [Dj h, Er h]; rfl
theorem lT {P Q : Prop} : (tf P && tf Q) = tf (P ∧ Q) := by
 by_cases h : P
 ·rw [Er h, Bool.true_and]; exact Me (by simp [h])
 ·rw [Dj h, Bool.false_and, Dj (fun hh => h hh.1)]
theorem tf_or {P Q : Prop} : (tf P || tf Q) = tf (P ∨ Q) := by
 by_cases h : P
 ·rw [Er h, Bool.true_or, Er (.inl h)]
 ·rw [Dj h, Bool.false_or]; exact Me (by simp [h])
theorem Wd {a b : Bool} : (bif a then b else false) = (a && b) := by cases a <;> rfl
theorem XO {a b : Bool} : (bif a then true else b) = (a || b) := by cases a <;> rfl
theorem UX {α : Type} {P : Prop} {a b : α} (h : P) : (if tf P = true then a else b) = a := by rw [Er h]; rfl
theorem wW {α : Type} {P : Prop} {a b : α} (h : ¬ P) : (if tf P = true then a else b) = b := by rw [Dj h]; rfl
abbrev I64 (n : Int) : Prop := -9223372036854775808 ≤ n ∧ n ≤ 9223372036854775807
theorem wr {n : Int} (h : I64 n) : IntKind.i64.wrap n = n := by
 obtain ⟨h1, h2⟩ := h
 have e : IntKind.i64.wrap n = if n % 18446744073709551616 ≥ 9223372036854775808 then n % 18446744073709551616 - 18446744073709551616 else n % 18446744073709551616 := by
  simp [IntKind.wrap, IntKind.bits, IntKind.signed]
 rw [e]
 split <;> omega
theorem Mq {α : Type} {l : List α} {k : Nat} : Cg l (k : Int) = l[k]? := by
 unfold Cg
 rw [if_pos (by omega)]
 simp
theorem Bk {α : Type} {l : List α} {k : Nat} (h : k < l.length) : Cg l (k : Int) = some l[k] := by
 rw [Mq, List.getElem?_eq_getElem h]
section
variable {σ ρ : Type} {step : σ → Option (σ ⊕ ρ)}
theorem Lw (st : Nat → σ) : ∀ n, (∀ k, k < n → step (st k) = some (.inl (st (k + 1)))) → Bm step (st 0) = Bm step (st n)
 | 0, _ => rfl
 | n + 1, h => by
  rw [Lw st n fun k hk => h k (by omega), De (h n (by omega))]
theorem Di (st : Nat → σ) (n : Nat) (r : ρ) (h : ∀ k, k < n → step (st k) = some (.inl (st (k + 1)))) (he : step (st n) = some (.inr r)) : Bm step (st 0) = some r := by
 rw [Lw st n h, Dg he]
theorem Ze (st : Nat → σ) (n : Nat) (ok : Nat → Prop) (bad : Nat → ρ) (fin : ρ) (h1 : ∀ k, k < n → (∀ j, j < k → ok j) → ok k → step (st k) = some (.inl (st (k + 1))))
  (h2 : ∀ k, k < n → (∀ j, j < k → ok j) → ¬ ok k → step (st k) = some (.inr (bad k))) (he : (∀ j, j < n → ok j) → step (st n) = some (.inr fin)) :
  ((∀ k, k < n → ok k) → Bm step (st 0) = some fin) ∧ (∀ k, k < n → (∀ j, j < k → ok j) → ¬ ok k → Bm step (st 0) = some (bad k)) := by
 constructor
 ·intro h
  exact Di st n fin (fun k hk => h1 k hk (fun j hj => h j (by omega)) (h k hk)) (he h)
 ·intro k hk hj hn
  rw [Lw st k fun i hi => h1 i (by omega) (fun j hj' => hj j (by omega)) (hj i hi)]
  exact Dg (h2 k hk hj hn)
theorem Oj {n : Nat} {ok : Nat → Prop} (h : ¬ ∀ k, k < n → ok k) : ∃ k, k < n ∧ (∀ j, j < k → ok j) ∧ ¬ ok k := by
 obtain ⟨k, hk⟩ := Classical.not_forall.1 h
 rw [Classical.not_imp] at hk
 obtain ⟨h1, h2⟩ := hk
 induction k using Nat.strongRecOn with
 | _ k ih =>
  by_cases hex : ∃ j, j < k ∧ ¬ ok j
  ·obtain ⟨j, hj, hn⟩ := hex
   exact ih j hj (by omega) hn
  ·exact ⟨k, h1, fun j hj => Classical.byContradiction fun hn => hex ⟨j, hj, hn⟩, h2⟩
end
theorem Tc {α : Type} {step : Int → Option (Int ⊕ (Unit ⊕ Bool))} (l : List α) (ok : Nat → α → Prop)
  (h1 : ∀ k (hk : k < l.length), (∀ j x, j < k → l[j]? = some x → ok j x) → ∃ v : Bool, (v = true ↔ ¬ ok k l[k]) ∧ step (k : Int) = (if v = true then some (.inr (.inr false)) else some (.inl ((k + 1 : Nat) : Int))))
  (h3 : step (l.length : Int) = some (.inr (.inl ()))) : Bm step 0 = some (if tf (∀ k x, l[k]? = some x → ok k x) = true then .inl () else .inr false) := by
 have pre : ∀ k, (∀ j, j < k → ∀ h : j < l.length, ok j l[j]) → ∀ j x, j < k → l[j]? = some x → ok j x := fun k hj j x hjk hx => by
  obtain ⟨hlt, rfl⟩ := List.getElem?_eq_some_iff.1 hx
  exact hj j hjk hlt
 have hh := Ze (step := step) (fun k => (k : Int)) l.length (fun k => ∀ h : k < l.length, ok k l[k]) (fun _ => .inr false) (.inl ()) (fun k hk hj ho => by
  obtain ⟨v, hv, hs⟩ := h1 k hk (pre k hj)
  rw [hs, if_neg (fun h => hv.1 h (ho hk))]) (fun k hk hj ho => by
  obtain ⟨v, hv, hs⟩ := h1 k hk (pre k hj)
  rw [hs, if_pos (hv.2 fun h => ho fun _ => h)]) (fun _ => h3)
 by_cases h : ∀ k x, l[k]? = some x → ok k x
 ·rw [UX h]; exact hh.1 fun k hk _ => h k _ (List.getElem?_eq_getElem hk)
 ·rw [wW h]
  obtain ⟨k, hk, hj, ho⟩ := Oj (n := l.length) (ok := fun k => ∀ h : k < l.length, ok k l[k]) fun hall => h fun k x hx => by
   obtain ⟨hlt, rfl⟩ := List.getElem?_eq_some_iff.1 hx
   exact hall k hlt hlt
  exact hh.2 k hk hj ho
theorem Ox {b : Bool} {P : Prop} (h : b = true ↔ P) : some b = some (tf P) := by
 congr 1
 rw [Bool.eq_iff_iff, tf_iff, h]
theorem Qq {α : Type} [Inhabited α] {g : Bool} {o : Option α} (h : g = true → ∃ y, o = some y) : ∃ y, (if g = true then o else some default) = some y ∧ (g = true → o = some y) := by
 cases g with
 | true => obtain ⟨y, hy⟩ := h rfl; exact ⟨y, by simpa using hy, fun _ => hy⟩
 | false => exact ⟨default, rfl, fun h => by cases h⟩
end Go.Ev
end
section
namespace Go.Ev
theorem eO (a b c : Int) : nI a b c = some (tf (b ≤ a ∧ a ≤ c)) := by
 simp only [nI, Yd, Wd, lT, ge_iff_le]
theorem kQ (a b c : Int) : wL a b c = some (tf (b ≤ a ∧ a ≤ c)) := by
 simp only [wL, Yd, Wd, lT]
theorem Adu (a : Int) : g58 a = some (tf (1 ≤ a ∧ a ≤ 1000000)) := by
 simp only [g58, kQ, Option.bind_some]
def Ir (t : Ai) (k : Nat) (x : Ab) : Prop := (1 ≤ x.id ∧ x.id ≤ t.next - 1) ∧ (∀ y, 0 < k → t.Ad[k - 1]? = some y → y.id < x.id) ∧ 0 ≤ x.Be ∧ x.Be ≤ x.cap ∧ (x.Bt = false → t.clock < x.Be)
def Em (t : Ai) : Prop := 0 ≤ t.clock ∧ (1 ≤ t.next ∧ t.next ≤ 1000000) ∧ t.Ad.length ≤ 40 ∧ ∀ k x, t.Ad[k]? = some x → Ir t k x
theorem qO (t : Ai) (hn : 1 ≤ t.next ∧ t.next ≤ 1000000) (hl : t.Ad.length ≤ 40) :
  Bm (Ym t) 0 = some (if tf (∀ k x, t.Ad[k]? = some x → Ir t k x) = true then .inl () else .inr false) := by
 refine Tc t.Ad _ (fun k hk _ => ?_) ?_
 ·have hw : IntKind.i64.wrap (t.next - 1) = t.next - 1 := wr ⟨by omega, by omega⟩
  have hw2 : IntKind.i64.wrap ((k : Int) - 1) = (k : Int) - 1 := wr ⟨by omega, by omega⟩
  have hw3 : IntKind.i64.wrap ((k : Int) + 1) = ((k + 1 : Nat) : Int) := wr ⟨by omega, by omega⟩
  simp only [Ym]
  rw [if_pos (decide_eq_true (by omega)), Bk hk]
  generalize hx : t.Ad[k] = x
  simp only [Option.bind_some, eO, hw, hw2]
  have hm : 0 < k → Cg t.Ad ((k : Int) - 1) = t.Ad[k - 1]? := fun h => by
   have : ((k : Int) - 1) = ((k - 1 : Nat) : Int) := by omega
   rw [this, Mq]
  obtain ⟨y, h1, h2⟩ := Qq (o := Cg t.Ad ((k : Int) - 1)) (g := ((!tf (1 ≤ x.id ∧ x.id ≤ t.next - 1)) == false && decide ((k : Int) > 0) == true)) (fun h => by
   rw [hm (by simp at h; omega)]
   exact ⟨_, List.getElem?_eq_getElem (by omega)⟩)
  rw [h1]
  simp only [Option.bind_some, Bd, hw3]
  refine ⟨_, ?_, rfl⟩
  simp only [Yd, XO, Wd, yX, lT, tf_or, ge_iff_le, gt_iff_lt] at h2 ⊢
  by_cases hk0 : 0 < k
  ·by_cases hr : 1 ≤ x.id ∧ x.id ≤ t.next - 1
   ·have hy : t.Ad[k - 1]? = some y := by rw [← hm hk0]; exact h2 (by simp [tf_iff, tf_false, hr]; omega)
    have e3 : (∀ z, 0 < k → t.Ad[k - 1]? = some z → z.id < x.id) ↔ y.id < x.id := by
     rw [hy]; exact ⟨fun h => h y hk0 rfl, fun h z _ hz => by cases hz; exact h⟩
    unfold Ir
    rw [e3]
    cases x.Bt <;> simp [tf_iff] <;> omega
   ·have : ¬ Ir t k x := fun h => hr h.1
    simp [tf_iff, this, hr]
  ·have e3 : (∀ z, 0 < k → t.Ad[k - 1]? = some z → z.id < x.id) ↔ True := ⟨fun _ => trivial, fun _ z h => absurd h hk0⟩
   unfold Ir
   rw [e3]
   cases x.Bt <;> simp [tf_iff] <;> omega
 ·simp only [Ym]
  rw [if_neg (by simp)]
end Go.Ev
namespace Go.Ev
theorem Adl (t : Ai) : g18 t = some (tf (Em t)) := by
 simp only [g18, eO]
 obtain ⟨r, h1, h2⟩ := Qq (o := some (tf (1 ≤ t.next ∧ t.next ≤ 1000000))) (g := (decide (t.clock < 0) == false)) (fun _ => ⟨_, rfl⟩)
 rw [h1]
 simp only [Option.bind_some, Bd]
 by_cases hc : t.clock < 0
 ·rw [if_pos (by simp [hc])]
  exact Ox (by simp [Em]; omega)
 ·have hr : r = tf (1 ≤ t.next ∧ t.next ≤ 1000000) := by simpa [hc, eq_comm] using h2 (by simp [hc])
  subst hr
  by_cases hn : 1 ≤ t.next ∧ t.next ≤ 1000000
  ·by_cases hl : t.Ad.length ≤ 40
   ·rw [if_neg (by simp [hc, tf_iff, hn]; omega), qO t hn hl]
    by_cases h : ∀ k x, t.Ad[k]? = some x → Ir t k x
    ·rw [UX h]; exact Ox (by simp [Em, hn, hl]; exact ⟨by omega, h⟩)
    ·rw [wW h]; exact Ox ⟨(fun hh => by cases hh), fun hh => absurd hh.2.2.2 h⟩
   ·rw [if_pos (by simp; right; omega)]
    exact Ox (by simp [Em, hl])
  ·rw [if_pos (by simp [tf_iff, tf_false, hn])]
   exact Ox (by simp [Em, hn])
theorem wI (t : Ai) (hl : t.Ad.length ≤ 1048576) : UU t = some (t.Ad.map Ab.id) := by
 have h := Di (step := Mn t) (fun k => ((t.Ad.take k).map Ab.id, (k : Int))) t.Ad.length (t.Ad.map Ab.id) (fun k hk => by
  have hw3 : IntKind.i64.wrap ((k : Int) + 1) = ((k + 1 : Nat) : Int) := wr ⟨by omega, by omega⟩
  simp only [Mn]
  rw [if_pos (decide_eq_true (by omega)), Bk hk]
  simp only [Option.bind_some, hw3]
  rw [if_pos (by simp; omega), List.take_succ_eq_append_getElem hk, List.map_append]
  rfl) (by
  simp only [Mn]
  rw [if_neg (by simp), List.take_length])
 simp only [UU]
 rw [show ([] : List Int) = (t.Ad.take 0).map Ab.id from rfl, show (0 : Int) = ((0 : Nat) : Int) from rfl, h]
 rfl
def Ce (l : List Int) (a b : Int) : Prop := ∀ k x, l[k]? = some x → (a ≤ x ∧ x ≤ b) ∧ ∀ y, 0 < k → l[k - 1]? = some y → y < x
theorem eP (l : List Int) (a b : Int) (hl : l.length ≤ 1048576) : g59 l a b = some (tf (Ce l a b)) := by
 have h : Bm (Yr l a b) 0 = some (if tf (Ce l a b) = true then .inl () else .inr false) := by
  refine Tc l _ (fun k hk _ => ?_) ?_
  ·have hw2 : IntKind.i64.wrap ((k : Int) - 1) = (k : Int) - 1 := wr ⟨by omega, by omega⟩
   have hw3 : IntKind.i64.wrap ((k : Int) + 1) = ((k + 1 : Nat) : Int) := wr ⟨by omega, by omega⟩
   simp only [Yr]
   rw [if_pos (decide_eq_true (by omega)), Bk hk]
   generalize hx : l[k] = x
   simp only [Option.bind_some, kQ, hw2]
   have hm : 0 < k → Cg l ((k : Int) - 1) = l[k - 1]? := fun h => by
    have : ((k : Int) - 1) = ((k - 1 : Nat) : Int) := by omega
    rw [this, Mq]
   obtain ⟨y, h1, h2⟩ := Qq (o := Cg l ((k : Int) - 1)) (g := ((!tf (a ≤ x ∧ x ≤ b)) == false && decide ((k : Int) > 0) == true)) (fun h => by
    rw [hm (by simp at h; omega)]
    exact ⟨_, List.getElem?_eq_getElem (by omega)⟩)
   rw [h1]
   simp only [Option.bind_some, Bd, hw3]
   refine ⟨_, ?_, rfl⟩
   by_cases hr : a ≤ x ∧ x ≤ b
   ·by_cases hk0 : 0 < k
    ·have hy : l[k - 1]? = some y := by rw [← hm hk0]; exact h2 (by simp [tf_iff, hr]; omega)
     have e3 : (∀ z, 0 < k → l[k - 1]? = some z → z < x) ↔ y < x := by
      rw [hy]; exact ⟨fun h => h y hk0 rfl, fun h z _ hz => by cases hz; exact h⟩
     rw [e3]
     simp [hr]; omega
    ·have e3 : (∀ z, 0 < k → l[k - 1]? = some z → z < x) ↔ True := ⟨fun _ => trivial, fun _ z h => absurd h hk0⟩
     rw [e3]
     simp [hr]; omega
   ·have : tf (a ≤ x ∧ x ≤ b) = false := Dj hr
    rw [this]; simp [hr]
  ·simp only [Yr]
   rw [if_neg (by simp)]
 simp only [g59, h, Option.bind_some]
 split
 ·rename_i e; split at e
  ·rename_i hh; rw [hh]
  ·cases e
 ·rename_i q e; split at e
  ·cases e
  ·rename_i hh; cases e; rw [Bool.not_eq_true] at hh; rw [hh]
theorem QU (l : List Ab) (f : Ab → Option Bool) (p : Ab → Bool) (hf : ∀ x ∈ l, f x = some (p x)) (hl : l.length ≤ 1048576) : ∃ n : Int, pJ l f = some n ∧ (0 ≤ n ↔ ∃ x ∈ l, p x = true) := by
 have hh := Ze (step := Pj l f) (fun k => (k : Int)) l.length (fun k => ∀ h : k < l.length, p l[k] = false) (fun k => .inr (k : Int)) (.inl ()) (fun k hk _ ho => by
  simp only [Pj]
  rw [if_pos (decide_eq_true (by omega)), Bk hk]
  simp only [Option.bind_some, hf _ (List.getElem_mem hk), ho hk, wr (n := (k : Int) + 1) ⟨by omega, by omega⟩]
  rfl) (fun k hk _ ho => by
  have : p l[k] = true := Classical.byContradiction fun h => ho fun _ => by simpa using h
  simp only [Pj]
  rw [if_pos (decide_eq_true (by omega)), Bk hk]
  simp only [Option.bind_some, hf _ (List.getElem_mem hk), this]
  rfl) (fun _ => by
  simp only [Pj]
  rw [if_neg (by simp)])
 by_cases h : ∀ k, k < l.length → ∀ h : k < l.length, p l[k] = false
 ·refine ⟨-1, ?_, by simp; intro x hx; obtain ⟨k, hk, rfl⟩ := List.getElem_of_mem hx; exact h k hk hk⟩
  simp only [pJ]
  rw [show (0 : Int) = ((0 : Nat) : Int) from rfl, hh.1 h]
  rfl
 ·obtain ⟨k, hk, hj, ho⟩ := Oj h
  refine ⟨k, ?_, ⟨fun _ => ⟨l[k], List.getElem_mem hk, Classical.byContradiction fun h => ho fun _ => by simpa using h⟩, fun _ => by omega⟩⟩
  simp only [pJ]
  rw [show (0 : Int) = ((0 : Nat) : Int) from rfl, hh.2 k hk hj ho]
  rfl
theorem wJ (l : List Ab) (f : Ab → Option Bool) (p : Ab → Bool) (hf : ∀ x ∈ l, f x = some (p x)) (hl : l.length ≤ 1048576) : g61 l f = some (tf (∀ x ∈ l, p x = true)) := by
 obtain ⟨n, h1, h2⟩ := QU l (fun z => pI z f) (fun x => !p x) (fun x hx => by simp [pI, hf x hx]) hl
 simp only [g61, QT, h1, Option.bind_some]
 refine Ox ?_
 have : (0 ≤ n) ↔ ∃ x ∈ l, (!p x) = true := h2
 simp
 rw [← Int.not_le, this]
 simp
theorem wK (x : Ab) (t : Ai) : g62 x t = some (tf ((0 ≤ x.Be ∧ x.Be ≤ x.cap) ∧ (x.Bt = false → t.clock < x.Be))) := by
 simp only [g62, kQ, Option.bind_some, Bd]
 exact Ox (by cases x.Bt <;> simp [tf_iff, Wd])
theorem Adm (t : Ai) (hl : t.Ad.length ≤ 1048576) (hn : I64 t.next) : g20 t = some (tf (Em t)) := by
 simp only [g20, Adu, wI t hl]
 obtain ⟨r1, h1, k1⟩ := Qq (o := some (tf (1 ≤ t.next ∧ t.next ≤ 1000000))) (g := (decide (t.clock ≥ 0) == true)) (fun _ => ⟨_, rfl⟩)
 rw [h1]; simp only [Option.bind_some]
 generalize hg : (bif (bif decide (t.clock ≥ 0) then r1 else false) then decide ((t.Ad.length : Int) ≤ 40) else false) = b
 have hb : b = true ↔ 0 ≤ t.clock ∧ (1 ≤ t.next ∧ t.next ≤ 1000000) ∧ t.Ad.length ≤ 40 := by
  rw [← hg]
  by_cases hc : 0 ≤ t.clock
  ·have := k1 (by simp [hc]); simp only [Option.some.injEq] at this; rw [← this]; simp [hc]; omega
  ·simp [hc]
 obtain ⟨r3, h3, k3⟩ := Qq (o := some (t.Ad.map Ab.id)) (g := b == true) (fun _ => ⟨_, rfl⟩)
 rw [h3]; simp only [Option.bind_some]
 obtain ⟨r5, h5, k5⟩ := Qq (o := g59 r3 1 (IntKind.i64.wrap (t.next - 1))) (g := b == true) (fun h => by
  have := k3 h; simp only [Option.some.injEq] at this; rw [← this]
  exact ⟨_, eP _ _ _ (by simpa using hl)⟩)
 rw [h5]; simp only [Option.bind_some]
 obtain ⟨r7, h7, k7⟩ := Qq (o := g61 t.Ad (fun z => g62 z t)) (g := (bif b then r5 else false) == true) (fun h => ⟨_, wJ _ _ _ (fun x _ => wK x t) hl⟩)
 rw [h7]; simp only [Option.bind_some, Bd]
 refine Ox ?_
 by_cases hbt : b = true
 ·have hbb := hb.1 hbt
  have hw : IntKind.i64.wrap (t.next - 1) = t.next - 1 := wr ⟨by omega, by omega⟩
  have e3 := k3 (by simp [hbt]); simp only [Option.some.injEq] at e3
  have e5 := k5 (by simp [hbt]); rw [← e3, eP _ _ _ (by simpa using hl), hw] at e5; simp only [Option.some.injEq] at e5
  subst hbt
  simp only [cond_true] at k7 ⊢
  by_cases h5t : r5 = true
  ·have e7 := k7 (by simp [h5t]); rw [wJ _ _ _ (fun x _ => wK x t) hl] at e7; simp only [Option.some.injEq] at e7
   rw [h5t, ← e7]
   rw [h5t, tf_iff] at e5
   simp only [cond_true, tf_iff, Em, hbb, true_and]
   constructor
   ·intro h k x hx
    have h1 := e5 k x.id (by simp [hx])
    have h2 := h x (List.mem_of_getElem? hx)
    exact ⟨h1.1, fun y hk hy => h1.2 y.id hk (by simp [hy]), h2.1.1, h2.1.2, h2.2⟩
   ·intro h x hx
    obtain ⟨k, hk, rfl⟩ := List.getElem_of_mem hx
    have := h k _ (List.getElem?_eq_getElem hk)
    exact ⟨⟨this.2.2.1, this.2.2.2.1⟩, this.2.2.2.2⟩
  ·simp only [Bool.not_eq_true] at h5t
   rw [h5t] at e5 ⊢
   rw [tf_false] at e5
   simp only [cond_false, Bool.false_eq_true, false_iff]
   intro h
   refine e5 fun k x hx => ?_
   simp only [List.getElem?_map, Option.map_eq_some_iff] at hx
   obtain ⟨z, hz, rfl⟩ := hx
   have := h.2.2.2 k z hz
   refine ⟨this.1, fun y hk hy => ?_⟩
   simp only [List.getElem?_map, Option.map_eq_some_iff] at hy
   obtain ⟨u, hu, rfl⟩ := hy
   exact this.2.1 u hk hu
 ·have hbf : b = false := by simpa using hbt
  subst hbf
  simp only [cond_false, Bool.false_eq_true, false_iff]
  intro h
  exact hbt (hb.2 ⟨h.1, h.2.1, h.2.2.1⟩)
end Go.Ev
end
section
namespace Go.Ev
theorem Tb {σ ρ : Type} {step : σ → Option (σ ⊕ ρ)} (I : σ → Prop) (μ : σ → Nat) (R : ρ → Prop) (s0 : σ) (h0 : I s0)
  (h : ∀ s, I s → (∃ s', step s = some (.inl s') ∧ I s' ∧ μ s' < μ s) ∨ (∃ r, step s = some (.inr r) ∧ R r)) : ∃ r, Bm step s0 = some r ∧ R r := by
 have key : ∀ (n : Nat) (s0 : σ), μ s0 < n → I s0 → ∃ r, Bm step s0 = some r ∧ R r := by
  intro n
  induction n with
  | zero => intro s0 hn; omega
  | succ n ih =>
   intro s0 hn hI
   rcases h s0 hI with ⟨s', h1, h2, h3⟩ | ⟨r, h1, h2⟩
   ·obtain ⟨r, h4, h5⟩ := ih s' (by omega) h2
    exact ⟨r, by rw [De h1, h4], h5⟩
   ·exact ⟨r, Dg h1, h2⟩
 exact key (μ s0 + 1) s0 (by omega) h0
theorem w1 {k : Nat} (h : k < 4611686018427387904) : IntKind.i64.wrap ((k : Int) + 1) = ((k + 1 : Nat) : Int) := wr ⟨by omega, by omega⟩
theorem fP {α : Type} (l : List α) (a b : Nat) (h : a ≤ b) (h2 : b ≤ l.length) : Tv l (a : Int) (b : Int) = some ((l.take b).drop a) := by
 unfold Tv
 rw [if_pos ⟨by omega, by omega, by omega⟩]
 simp
theorem ovlK {α : Type} (l : List α) (n : Nat) (y : List α) (h : n + y.length = l.length) : ovl l n y = l.take n ++ y := by
 apply List.ext_getElem
 ·simp [ovl]; omega
 ·intro k h1 h2
  simp only [ovl, List.length_mapIdx] at h1
  simp only [ovl, List.getElem_mapIdx, List.getElem_append]
  by_cases hn : n ≤ k
  ·rw [if_pos hn, dif_neg (by simp; omega), List.getElem?_eq_getElem (by omega : k - n < y.length)]
   simp only [Option.getD_some, List.length_take]
   congr 1; omega
  ·rw [if_neg hn, dif_pos (by simp; omega), List.getElem_take]
def Gj {α : Type} (l : List α) (p : α → Bool) : Int := match l.findIdx? p with
 | some k => (k : Int)
 | none => -1
theorem Zc {α : Type} (l : List α) (f : α → Option Bool) (p : α → Bool) (hf : ∀ x ∈ l, f x = some (p x)) (hl : l.length ≤ 4611686018427387903) {step : Int → Option (Int ⊕ (Unit ⊕ Int))}
  (hs : ∀ s, step s = if decide (s < (l.length : Int)) = true then (Cg l s).bind fun y => (f y).bind fun r => if r = true then some (.inr (.inr s)) else some (.inl (IntKind.i64.wrap (s + 1))) else some (.inr (.inl ()))) :
  (Bm step 0).bind (fun r => match r with | .inl () => some (-1) | .inr q => some q) = some (Gj l p) := by
 have go : ∀ k (hk : k < l.length), p l[k] = false → step (k : Int) = some (.inl ((k + 1 : Nat) : Int)) := fun k hk hp => by
  rw [hs, if_pos (decide_eq_true (by omega)), Bk hk]
  simp [hf _ (List.getElem_mem hk), hp, w1 (show k < 4611686018427387904 by omega)]
 unfold Gj
 cases hfi : l.findIdx? p with
 | none =>
  have hall : ∀ x ∈ l, p x = false := by simpa using List.findIdx?_eq_none_iff.1 hfi
  have := Di (step := step) (fun k => (k : Int)) l.length (.inl ()) (fun k hk => go k hk (hall _ (List.getElem_mem hk))) (by rw [hs, if_neg (by simp)])
  rw [show (0 : Int) = ((0 : Nat) : Int) from rfl, this]
  rfl
 | some k =>
  obtain ⟨hk, hp, hj⟩ := List.findIdx?_eq_some_iff_getElem.1 hfi
  have := Lw (step := step) (fun k => (k : Int)) k (fun j hj' => go j (by omega) (by simpa using hj j hj'))
  rw [show (0 : Int) = ((0 : Nat) : Int) from rfl, this, Dg (r := .inr (k : Int)) (by
   rw [hs, if_pos (decide_eq_true (by omega)), Bk hk]
   simp [hf _ (List.getElem_mem hk), hp])]
  rfl
theorem jZ {α : Type} (l : List α) (p : α → Bool) : decide (Gj l p ≥ 0) = l.any p := by
 unfold Gj
 cases hfi : l.findIdx? p with
 | none =>
  have hall : ∀ x ∈ l, p x = false := by simpa using List.findIdx?_eq_none_iff.1 hfi
  rw [show l.any p = false from List.any_eq_false.2 fun x hx => by simp [hall x hx]]
  rfl
 | some k =>
  obtain ⟨hk, hp, hj⟩ := List.findIdx?_eq_some_iff_getElem.1 hfi
  rw [show l.any p = true from List.any_eq_true.2 ⟨_, List.getElem_mem hk, hp⟩]
  simp
theorem AH {α : Type} (l : List α) (p : α → Bool) : (!l.any fun x => !p x) = l.all p := by
 induction l with
 | nil => rfl
 | cons x r ih => simp only [List.any_cons, List.all_cons, Bool.not_or, Bool.not_not, ih]
theorem gK {α : Type} (l : List α) (f : α → Option Bool) (p : α → Bool) (hf : ∀ x ∈ l, f x = some (p x)) (hl : l.length ≤ 4611686018427387903) (z : α) {step : List α × Int × Int → Option ((List α × Int × Int) ⊕ (List α × Int))}
  (hs : ∀ row i j, step (row, i, j) = if decide (j < (row.length : Int)) = true then (Cg row j).bind fun _ => (row[j.toNat]?).bind fun y => (f y).bind fun r =>
   if (!r) = true then (Cg row i).bind fun _ => (row[i.toNat]?).bind fun _ => some (.inl (row.set i.toNat y, IntKind.i64.wrap (i + 1), IntKind.i64.wrap (j + 1))) else some (.inl (row, i, IntKind.i64.wrap (j + 1)))
   else some (.inr (row, i))) :
  (if (Gj l p == (-1)) = true then some l else (Bm step (l, Gj l p, IntKind.i64.wrap (Gj l p + 1))).bind fun r =>
   (match r with
   | (a, b) => (Tv a b (a.length : Int)).bind fun s => (Tv (ovl a b.toNat (List.replicate s.length z)) 0 b).bind fun s2 => some s2)) = some (l.filter fun x => !p x) := by
 unfold Gj
 cases hfi : l.findIdx? p with
 | none =>
  have hall : ∀ x ∈ l, p x = false := by simpa using List.findIdx?_eq_none_iff.1 hfi
  rw [if_pos (by rfl)]
  congr 1
  exact (List.filter_eq_self.2 fun x hx => by simp [hall x hx]).symm
 | some k =>
  obtain ⟨hk, hp, hj⟩ := List.findIdx?_eq_some_iff_getElem.1 hfi
  simp only
  rw [if_neg (by simp)]
  have hk0 : l.take k = (l.take (k + 1)).filter fun x => !p x := by
   rw [List.take_succ_eq_append_getElem hk, List.filter_append]
   have e1 : (l.take k).filter (fun x => !p x) = l.take k := List.filter_eq_self.2 fun x hx => by
    obtain ⟨j, hj1, rfl⟩ := List.getElem_of_mem hx
    simp only [List.length_take] at hj1
    have := hj j (by omega)
    simpa using this
   rw [e1]; simp [hp]
  obtain ⟨r, h3, h4⟩ := Tb (step := step) (fun s => ∃ i j : Nat, s.2.1 = i ∧ s.2.2 = j ∧ i ≤ j ∧ j ≤ l.length ∧ s.1.length = l.length ∧ s.1.take i = (l.take j).filter (fun x => !p x) ∧ s.1.drop j = l.drop j)
   (fun s => (l.length - s.2.2).toNat) (fun r => ∃ i : Nat, r.2 = i ∧ i ≤ r.1.length ∧ r.1.length = l.length ∧ r.1.take i = l.filter fun x => !p x) (l, (k : Int), IntKind.i64.wrap ((k : Int) + 1))
   ⟨k, k + 1, rfl, w1 (by omega), by omega, by omega, rfl, hk0, rfl⟩ (by
    rintro ⟨row, _, _⟩ ⟨i, j, rfl, rfl, hij, hjl, hlen, ht, hd⟩
    simp only at hlen ht hd
    rw [hs]
    by_cases hlt : j < l.length
    ·have hrj : row[j]'(by omega) = l[j] := by
      have e1 := congrArg (fun z => z[0]?) hd
      simp only [List.getElem?_drop, Nat.add_zero] at e1
      rw [List.getElem?_eq_getElem (by omega), List.getElem?_eq_getElem hlt] at e1
      exact Option.some.inj e1
     have hwi := w1 (show i < 4611686018427387904 by omega)
     have hwj := w1 (show j < 4611686018427387904 by omega)
     have hd' : row.drop (j + 1) = l.drop (j + 1) := by
      have := congrArg (List.drop 1) hd
      simpa [List.drop_drop, Nat.add_comm] using this
     rw [if_pos (decide_eq_true (by omega)), Bk (by omega)]
     simp only [Option.bind_some, Int.toNat_natCast]
     rw [List.getElem?_eq_getElem (by omega)]
     simp only [Option.bind_some, hrj, hf _ (List.getElem_mem hlt)]
     left
     cases hpj : p l[j] with
     | false =>
      rw [if_pos (by rfl), Bk (by omega)]
      simp only [Option.bind_some]
      rw [List.getElem?_eq_getElem (by omega)]
      simp only [Option.bind_some, hwi, hwj]
      refine ⟨_, rfl, ⟨i + 1, j + 1, rfl, rfl, by omega, by omega, by simp [hlen], ?_, ?_⟩, by simp only; omega⟩
      ·simp only
       rw [List.take_succ_eq_append_getElem (by simp; omega), List.take_succ_eq_append_getElem hlt, List.filter_append, ← ht]
       simp [hpj, List.take_set_of_le]
      ·simp only
       rw [List.drop_set_of_lt (by omega), hd']
     | true =>
      rw [if_neg (by simp)]
      simp only [hwj]
      refine ⟨_, rfl, ⟨i, j + 1, rfl, rfl, by omega, by omega, hlen, ?_, hd'⟩, by simp only; omega⟩
      simp only
      rw [List.take_succ_eq_append_getElem hlt, List.filter_append, ← ht]
      simp [hpj]
    ·rw [if_neg (by simp; omega)]
     right
     refine ⟨_, rfl, i, rfl, by simp only; omega, hlen, ?_⟩
     simp only
     rw [ht, List.take_of_length_le (by omega)])
  obtain ⟨row, i'⟩ := r
  obtain ⟨i, hi, hil, hlen, ht⟩ := h4
  simp only at hi hil hlen ht
  subst hi
  rw [h3]
  simp only [Option.bind_some]
  rw [fP _ _ _ hil (Nat.le_refl _)]
  simp only [Option.bind_some, Int.toNat_natCast, List.take_length]
  rw [ovlK _ _ _ (by simp; omega)]
  have e := fP (row.take i ++ List.replicate (row.drop i).length z) 0 i (by omega) (by simp; omega)
  rw [show ((0 : Nat) : Int) = 0 from rfl] at e
  rw [e]
  simp only [Option.bind_some, List.drop_zero]
  rw [List.take_append_of_le_length (by simp; omega), List.take_take, Nat.min_self, ht]
theorem Qe {α : Type} (l : List α) {step : Int → Option (Int ⊕ (Unit ⊕ Bool))}
  (hs : ∀ k, k < l.length → step (k : Int) = some (.inl ((k + 1 : Nat) : Int))) (he : step (l.length : Int) = some (.inr (.inl ()))) : Bm step 0 = some (.inl ()) :=
 Di (step := step) (fun k => (k : Int)) l.length (.inl ()) hs he
def xK {α : Type} (mk : Int → α → α) (w : Nat) (l : List α) (a : Int) : List α := l.mapIdx fun i x => mk (a + (w : Int) * (i : Int)) x
@[simp] theorem marked_len {α : Type} (mk : Int → α → α) (w : Nat) (l : List α) (a : Int) : (xK mk w l a).length = l.length := by simp [xK]
theorem rN {n : Nat} (ok : Nat → Bool) {step : Int → Option (Int ⊕ (Unit ⊕ Bool))}
  (hs : ∀ k, k < n → (∀ j, j < k → ok j = true) → step (k : Int) = if (!ok k) = true then some (.inr (.inr false)) else some (.inl ((k + 1 : Nat) : Int))) (he : step (n : Int) = some (.inr (.inl ()))) :
  (Bm step 0).bind (fun r => match r with | .inl () => some true | .inr q => some q) = some ((List.range n).all ok) := by
 by_cases h : ∀ k, k < n → ok k = true
 ·have := Di (step := step) (fun k => (k : Int)) n (.inl ()) (fun k hk => by rw [hs k hk (fun j hj => h j (by omega)), h k hk]; rfl) he
  rw [show (0 : Int) = ((0 : Nat) : Int) from rfl, this]
  rw [show (List.range n).all ok = true from List.all_eq_true.2 fun x hx => h x (List.mem_range.1 hx)]
  rfl
 ·obtain ⟨k, hk, hj, hn⟩ := Oj h
  have hf : ok k = false := by simpa using hn
  have := Lw (step := step) (fun k => (k : Int)) k (fun j hj' => by rw [hs j (by omega) (fun i hi => hj i (by omega)), hj j hj']; rfl)
  rw [show (0 : Int) = ((0 : Nat) : Int) from rfl, this, Dg (r := .inr false) (by rw [hs k hk hj, hf]; rfl)]
  rw [show (List.range n).all ok = false from List.all_eq_false.2 ⟨k, List.mem_range.2 hk, by simp [hf]⟩]
  rfl
theorem Rc {P : UInt8 → Prop} (h : ∀ n : Fin 256, P (UInt8.ofNat n.val)) (y : UInt8) : P y := by
 have := h ⟨y.toNat, y.toNat_lt⟩
 simpa using this
end Go.Ev
end
section
set_option maxHeartbeats 1000000
namespace Go.Ev
theorem Ce.lt {l : List Int} {a b : Int} (h : Ce l a b) {i j : Nat} (hj : j < l.length) (hij : i < j) : l[i] < l[j] := by
 induction j with
 | zero => omega
 | succ j ih =>
  have h1 := (h (j + 1) l[j + 1] (List.getElem?_eq_getElem hj)).2 l[j] (by omega) (List.getElem?_eq_getElem (by omega))
  by_cases e : i = j
  ·subst e; exact h1
  ·have := ih (by omega) (by omega); omega
def Lo (l : List Int) (x : Int) (p : Nat) : Prop := p ≤ l.length ∧ (∀ k, ∀ h : k < l.length, k < p → l[k] < x) ∧ ∀ k, ∀ h : k < l.length, p ≤ k → x ≤ l[k]
theorem AcU {l : List Int} {a b : Int} (h : Ce l a b) (x : Int) : ∃ p, Lo l x p := by
 by_cases hall : ∀ k, k < l.length → l[k]?.getD 0 < x
 ·refine ⟨l.length, Nat.le_refl _, fun k hk _ => ?_, fun k hk hh => by omega⟩
  have := hall k hk
  rwa [List.getElem?_eq_getElem hk] at this
 ·obtain ⟨p, hp, h1, h2⟩ := Oj (ok := fun k => l[k]?.getD 0 < x) hall
  rw [List.getElem?_eq_getElem hp] at h2
  simp only [Option.getD_some] at h2
  refine ⟨p, Nat.le_of_lt hp, fun k hk hkp => ?_, fun k hk hpk => ?_⟩
  ·have := h1 k hkp
   rwa [List.getElem?_eq_getElem hk] at this
  ·by_cases e : k = p
   ·subst e; omega
   ·have := h.lt hk (show p < k by omega)
    omega
theorem Lo.one {l : List Int} {x : Int} {p q : Nat} (h1 : Lo l x p) (h2 : Lo l x q) : p = q := by
 obtain ⟨a1, a2, a3⟩ := h1
 obtain ⟨b1, b2, b3⟩ := h2
 by_cases h : p < q
 ·have := b2 p (by omega) h; have := a3 p (by omega) (Nat.le_refl _); omega
 ·by_cases h' : q < p
  ·have := a2 q (by omega) h'; have := b3 q (by omega) (Nat.le_refl _); omega
  ·omega
theorem gY (a : Int) : gQ a = some false ∧ RK a = some false := by simp [gQ, RK]
theorem TC (a b : Int) : Ada a b = some (decide (a < b)) := by simp [Ada, (gY a).1, Bd]
theorem halfN (a : Nat) (h : a ≤ 4194304) : IntKind.i64.wrap (Jz .u64 (IntKind.u64.wrap (IntKind.i64.wrap (a : Int))) 1) = ((a / 2 : Nat) : Int) := by
 have h1 : IntKind.u64.wrap (a : Int) = a := by
  have e : IntKind.u64.wrap (a : Int) = (a : Int) % 18446744073709551616 := by simp [IntKind.wrap, IntKind.bits, IntKind.signed]
  rw [e]; omega
 have h2 : (2 : Int) ^ min (1 : Int).toNat 64 = 2 := by decide
 rw [wr (n := (a : Int)) ⟨by omega, by omega⟩, h1]
 simp only [Jz, h2]
 rw [Int.fdiv_eq_ediv_of_nonneg _ (by omega), wr ⟨by omega, by omega⟩]
 omega
def Hm (l : List Int) (x : Int) (p : Nat) : Bool := decide (l[p]? = some x)
theorem QZ {l : List Int} {a b : Int} (h : Ce l a b) (hl : l.length ≤ 1048576) (x : Int) {p : Nat} (hp : Lo l x p) : AcZ l x = some ((p : Int), Hm l x p) := by
 obtain ⟨r, h1, h2⟩ := Tb (step := dM l x) (fun s => ∃ i j : Nat, s = ((i : Int), (j : Int)) ∧ i ≤ j ∧ j ≤ l.length ∧ (∀ k, ∀ h : k < l.length, k < i → l[k] < x) ∧ ∀ k, ∀ h : k < l.length, j ≤ k → x ≤ l[k])
  (fun s => (s.2 - s.1).toNat) (fun r => ∃ i : Nat, r = i ∧ Lo l x i) (0, (l.length : Int))
  ⟨0, l.length, rfl, by omega, by omega, by intros; omega, by intros; omega⟩ (by
   rintro _ ⟨i, j, rfl, hij, hj, ha, hb⟩
   simp only [dM]
   by_cases hlt : i < j
   ·have e : (i : Int) + (j : Int) = ((i + j : Nat) : Int) := by omega
    rw [if_pos (decide_eq_true (by omega)), e, halfN _ (by omega)]
    have hm : (i + j) / 2 < l.length := by omega
    simp only [Bd, Bk hm, Option.bind_some, TC]
    have hw : IntKind.i64.wrap (((i + j) / 2 : Nat) + 1 : Int) = (((i + j) / 2 + 1 : Nat) : Int) := wr ⟨by omega, by omega⟩
    rw [hw]
    left
    by_cases hc : l[(i + j) / 2] < x
    ·rw [if_pos (decide_eq_true hc)]
     refine ⟨_, rfl, ⟨_, j, rfl, by omega, hj, fun k hk hki => ?_, hb⟩, by simp only; omega⟩
     by_cases e : k = (i + j) / 2
     ·subst e; exact hc
     ·have := h.lt hm (show k < (i + j) / 2 by omega); omega
    ·rw [if_neg (by simpa using hc)]
     refine ⟨_, rfl, ⟨i, _, rfl, by omega, by omega, ha, fun k hk hki => ?_⟩, by simp only; omega⟩
     by_cases e : k = (i + j) / 2
     ·subst e; omega
     ·have := h.lt hk (show (i + j) / 2 < k by omega); omega
   ·rw [if_neg (by simp; omega)]
    exact .inr ⟨_, rfl, i, rfl, by omega, ha, fun k hk hki => hb k hk (by omega)⟩)
 obtain ⟨i, rfl, hi⟩ := h2
 obtain rfl := hi.one hp
 simp only [AcZ, h1, Option.bind_some]
 by_cases hlt : i < l.length
 ·have hd : decide ((i : Int) < (l.length : Int)) = true := by simp; omega
  simp only [hd, Bk hlt, Option.bind_some, Bd, Hm, List.getElem?_eq_getElem hlt, (gY _).2, beq_self_eq_true, if_true, Bool.true_and, Option.some.injEq, cond_true]
  by_cases hx : l[i] = x
  ·simp [hx]
  ·simp [hx]
 ·have hd : decide ((i : Int) < (l.length : Int)) = false := by simp; omega
  have hd2 : (false == true) = false := rfl
  simp only [hd, hd2, Bool.false_and, Bool.false_eq_true, if_false, Option.bind_some, Bd, cond_false, Hm, List.getElem?_eq_none (show l.length ≤ i by omega), reduceCtorEq, decide_false]
def Jq (l : List Int) (x : Int) (create : Bool) (p : Nat) : List Int :=
 if create = true then (if Hm l x p = true then l else l.take p ++ [x] ++ l.drop p) else if Hm l x p = true then l.take p ++ l.drop (p + 1) else l
def Ld (f : Int) : Int := if (f == 2) = true then 15 else 0
theorem g89_eq {l : List Int} {a b : Int} (h : Ce l a b) (hl : l.length ≤ 1048575) (x : Int) (c : Bool) (f : Int) {p : Nat} (hp : Lo l x p) :
  g89 l x c f = some (if (f == 1) = true then (l, 13) else (Jq l x c p, Ld f)) := by
 have hc : aT l = some l := by unfold aT; rw [if_pos (by simp; omega)]
 have j : ∀ q, Yw f q = some (q, Ld f) := fun q => by unfold Yw Ld; split <;> rfl
 simp only [g89, hc, Option.bind_some, QZ h (by omega) x hp, j]
 by_cases hf : (f == 1) = true
 ·simp [hf]
 ·have hp1 := hp.1
  simp only [hf, if_false]
  cases c with
  | true =>
   simp only [cond_true, Jq, if_true, Bool.not_true, cond_false, Bool.false_eq_true, if_false]
   cases hat : Hm l x p with
   | true => simp
   | false =>
    simp only [Bool.not_false, if_true, Bool.false_eq_true, if_false, g122]
    rw [if_pos ⟨⟨by omega, by omega⟩, by simp, by simp; omega⟩]
    simp
  | false =>
   simp only [cond_false, Jq, Bool.false_eq_true, if_false, Bool.not_false, cond_true]
   cases hat : Hm l x p with
   | false => simp
   | true =>
    have hlt : p < l.length := by
     simp only [Hm, decide_eq_true_eq] at hat
     exact (List.getElem?_eq_some_iff.1 hat).1
    have hw : IntKind.i64.wrap ((p : Int) + 1) = ((p + 1 : Nat) : Int) := w1 (by omega)
    simp only [if_true, hw, g123]
    rw [if_pos ⟨⟨by omega, by omega, by omega⟩, by omega⟩]
    simp
theorem g86_eq {l : List Int} (hl : l.length ≤ 1048575) (x : Int) (c : Bool) (f : Int) {p : Nat} (hp : Lo l x p) :
  UV l x c f = some (if (f == 1) = true then (l, 13) else (Jq l x c p, Ld f)) := by
 obtain ⟨hp1, hp2, hp3⟩ := hp
 have hloop : Bm (Up l x) ([], 0) = some (l.take p) := by
  have h := Di (step := Up l x) (fun k => (l.take k, (k : Int))) p (l.take p) (fun k hk => by
   have hkl : k < l.length := by omega
   simp only [Up]
   rw [decide_eq_true (show (k : Int) < (l.length : Int) by omega)]
   simp only [beq_self_eq_true, if_true, Bk hkl, Option.bind_some, Bd, cond_true]
   rw [if_pos (decide_eq_true (hp2 k hkl hk)), if_pos (by simp; omega), w1 (by omega), List.take_succ_eq_append_getElem hkl]) (by
   simp only [Up]
   by_cases hlt : p < l.length
   ·rw [decide_eq_true (show (p : Int) < (l.length : Int) by omega)]
    simp only [beq_self_eq_true, if_true, Bk hlt, Option.bind_some, Bd, cond_true]
    rw [if_neg (by have := hp3 p hlt (Nat.le_refl _); simp; omega)]
   ·rw [decide_eq_false (show ¬ (p : Int) < (l.length : Int) by omega)]
    simp [Bd])
  simpa using h
 have hlen : ((l.take p).length : Int) = (p : Int) := by simp; omega
 have hj1 : ∀ (o : List Int) (k : Nat), k ≤ l.length → o.length ≤ l.length + 1 → Yv l f o (k : Int) = some (o ++ l.drop k, Ld f) := fun o k hk ho => by
  simp only [Yv]
  rw [fP l k l.length hk (Nat.le_refl _), List.take_length]
  simp only [Option.bind_some]
  rw [if_pos (by simp; omega)]
  unfold Ld; split <;> rfl
 have hj0 : ∀ o : List Int, o.length ≤ l.length + 1 → Yu l x f (l.take p) o = some (o ++ l.drop (if Hm l x p = true then p + 1 else p), Ld f) := fun o ho => by
  simp only [Yu, hlen]
  by_cases hlt : p < l.length
  ·rw [decide_eq_true (show (p : Int) < (l.length : Int) by omega)]
   simp only [beq_self_eq_true, if_true, Bk hlt, Option.bind_some, Bd, cond_true, Hm, List.getElem?_eq_getElem hlt, Option.some.injEq]
   by_cases hx : l[p] = x
   ·simp only [hx, beq_self_eq_true, if_true, decide_true]
    rw [w1 (by omega), hj1 o (p + 1) (by omega) ho]
   ·have : (l[p] == x) = false := by simpa using hx
    simp only [this, hx, decide_false, Bool.false_eq_true, if_false]
    rw [hj1 o p (by omega) ho]
  ·rw [decide_eq_false (show ¬ (p : Int) < (l.length : Int) by omega)]
   have : Hm l x p = false := by simp [Hm, List.getElem?_eq_none (show l.length ≤ p by omega)]
   simp only [this, Bd, cond_false, Bool.false_eq_true, if_false, Bool.false_beq, Option.bind_some]
   simp [hj1 o p (by omega) ho]
 by_cases hf : (f == 1) = true
 ·simp [UV, hf]
 ·simp only [UV, hf, Bool.false_eq_true, if_false, hloop, Option.bind_some]
  have hsplit : Hm l x p = true → l.take p ++ [x] ++ l.drop (p + 1) = l := fun hat => by
   simp only [Hm, decide_eq_true_eq] at hat
   obtain ⟨hlt, hx⟩ := List.getElem?_eq_some_iff.1 hat
   rw [← hx, ← List.take_succ_eq_append_getElem hlt, List.take_append_drop]
  cases c with
  | true =>
   simp only [if_true]
   rw [if_pos (by simp; omega), hj0 _ (by simp; omega)]
   simp only [Jq, if_true]
   cases hat : Hm l x p with
   | true => simp only [if_true, hsplit hat]
   | false => simp
  | false =>
   simp only [Bool.false_eq_true, if_false]
   rw [hj0 _ (by simp; omega)]
   simp only [Jq, Bool.false_eq_true, if_false]
   cases hat : Hm l x p with
   | true => simp
   | false => simp
theorem g85_eq (l : List Int) (a : Int) (ha : I64 (a - 1)) (hl : l.length ≤ 1048576) : g85 l a = some (tf (Ce l 1 (a - 1))) := by
 have h : Bm (Yt l a) 0 = some (if tf (Ce l 1 (a - 1)) = true then .inl () else .inr false) := by
  refine Tc l _ (fun k hk _ => ?_) ?_
  ·have hw2 : IntKind.i64.wrap ((k : Int) - 1) = (k : Int) - 1 := wr ⟨by omega, by omega⟩
   have hw3 : IntKind.i64.wrap ((k : Int) + 1) = ((k + 1 : Nat) : Int) := wr ⟨by omega, by omega⟩
   simp only [Yt]
   rw [if_pos (decide_eq_true (by omega)), Bk hk, wr ha]
   generalize hx : l[k] = x
   simp only [Option.bind_some, eO, hw2]
   have hm : 0 < k → Cg l ((k : Int) - 1) = l[k - 1]? := fun h => by
    have : ((k : Int) - 1) = ((k - 1 : Nat) : Int) := by omega
    rw [this, Mq]
   obtain ⟨y, h1, h2⟩ := Qq (o := Cg l ((k : Int) - 1)) (g := ((!tf (1 ≤ x ∧ x ≤ a - 1)) == false && decide ((k : Int) > 0) == true)) (fun h => by
    rw [hm (by simp at h; omega)]
    exact ⟨_, List.getElem?_eq_getElem (by omega)⟩)
   have hx' : Cg l (k : Int) = some x := by rw [Bk hk, hx]
   obtain ⟨z, h3, h4⟩ := Qq (o := some x) (g := ((!tf (1 ≤ x ∧ x ≤ a - 1)) == false && decide ((k : Int) > 0) == true)) (fun h => ⟨_, rfl⟩)
   rw [h1]
   simp only [Option.bind_some, hx', h3, Bd, hw3]
   refine ⟨_, ?_, rfl⟩
   by_cases hr : 1 ≤ x ∧ x ≤ a - 1
   ·by_cases hk0 : 0 < k
    ·have hg : ((!tf (1 ≤ x ∧ x ≤ a - 1)) == false && decide ((k : Int) > 0) == true) = true := by simp [tf_iff, hr]; omega
     have hy : l[k - 1]? = some y := by rw [← hm hk0]; exact h2 hg
     have hz : x = z := Option.some.inj (h4 hg)
     subst hz
     have e3 : (∀ z, 0 < k → l[k - 1]? = some z → z < x) ↔ y < x := by
      rw [hy]; exact ⟨fun h => h y hk0 rfl, fun h z _ hz => by cases hz; exact h⟩
     rw [e3]
     simp [hr]; omega
    ·have e3 : (∀ z, 0 < k → l[k - 1]? = some z → z < x) ↔ True := ⟨fun _ => trivial, fun _ z h => absurd h hk0⟩
     rw [e3]
     simp [hr]; omega
   ·have : tf (1 ≤ x ∧ x ≤ a - 1) = false := Dj hr
    rw [this]; simp [hr]
  ·simp only [Yt]
   rw [if_neg (by simp)]
 simp only [g85, h, Option.bind_some]
 split
 ·rename_i e; split at e
  ·rename_i hh; rw [hh]
  ·cases e
 ·rename_i q e; split at e
  ·cases e
  ·rename_i hh; cases e; simp only [Bool.not_eq_true] at hh; rw [hh]
end Go.Ev
end
section
set_option maxHeartbeats 1000000
namespace Go.Ev
open Go.Sort
theorem Ja {σ τ ρ : Type} {step : σ → Option (σ ⊕ ρ)} (emb : τ → σ) (ok : τ → Prop) (m : τ → Nat) (F : τ → ρ)
  (h : ∀ t, ok t → (∃ t', step (emb t) = some (.inl (emb t')) ∧ ok t' ∧ F t' = F t ∧ m t' < m t) ∨ step (emb t) = some (.inr (F t))) (t : τ) (ht : ok t) : Bm step (emb t) = some (F t) := by
 have key : ∀ (n : Nat) (t : τ), m t < n → ok t → Bm step (emb t) = some (F t) := by
  intro n
  induction n with
  | zero => intro t hn; omega
  | succ n ih =>
   intro t hn ht
   rcases h t ht with ⟨t', h1, h2, h3, h4⟩ | h1
   ·rw [De h1, ih t' (by omega) h2, h3]
   ·exact Dg h1
 exact key (m t + 1) t (by omega) ht
theorem aE {i : Nat} (h : i ≤ 4611686018427387904) : IntKind.i64.wrap ((i : Int) + 1) = ((i + 1 : Nat) : Int) := by rw [wr ⟨by omega, by omega⟩]; omega
theorem cM {i : Nat} (h : i ≤ 4611686018427387904) (h0 : 1 ≤ i) : IntKind.i64.wrap ((i : Int) - 1) = ((i - 1 : Nat) : Int) := by rw [wr ⟨by omega, by omega⟩]; omega
theorem AC {i j : Nat} (h : i ≤ 2305843009213693952) (h2 : j ≤ 2305843009213693952) : IntKind.i64.wrap ((i : Int) + (j : Int)) = ((i + j : Nat) : Int) := by rw [wr ⟨by omega, by omega⟩]; omega
theorem oA {i j : Nat} (h : i ≤ 2305843009213693952) (h2 : j ≤ i) : IntKind.i64.wrap ((i : Int) - (j : Int)) = ((i - j : Nat) : Int) := by rw [wr ⟨by omega, by omega⟩]; omega
theorem sdb {i : Nat} (h : i ≤ 2305843009213693952) : IntKind.i64.wrap (2 * (i : Int)) = ((2 * i : Nat) : Int) := by rw [wr ⟨by omega, by omega⟩]; omega
theorem sml {i : Nat} (k : Nat) (hk : k ≤ 3) (h : i ≤ 1152921504606846976) : IntKind.i64.wrap ((i : Int) * (k : Int)) = ((i * k : Nat) : Int) := by
 have : i * k ≤ i * 3 := Nat.mul_le_mul_left _ hk
 have e : (i : Int) * (k : Int) = ((i * k : Nat) : Int) := by simp
 rw [e, wr ⟨by omega, by omega⟩]
theorem sdv {i : Nat} (k : Nat) (h : i ≤ 2305843009213693952) : IntKind.i64.wrap ((i : Int).tdiv (k : Int)) = ((i / k : Nat) : Int) := by
 have : i / k ≤ i := Nat.div_le_self _ _
 have e : (i : Int).tdiv (k : Int) = ((i / k : Nat) : Int) := by simp
 rw [e]
 generalize i / k = q at *
 rw [wr ⟨by omega, by omega⟩]
variable {α : Type} [Inhabited α]
theorem Hk {d : Array α} {i : Nat} (h : i < d.size) : Cg d.toList (i : Int) = some d[i]! := by
 rw [Bk (by simpa using h), getElem!_pos d i h]; simp
theorem Ht {d : Array α} {i : Nat} (h : i < d.size) : d.toList[i]? = some d[i]! := by
 rw [getElem!_pos d i h]; simp [h]
theorem lO {d : Array α} {i : Nat} {v : α} : d.toList.set i v = (d.setIfInBounds i v).toList := by simp
theorem lS {d : Array α} {i j : Nat} : (d.setIfInBounds i d[j]!).setIfInBounds j d[i]! = swp d i j := by rw [swp]
variable (c : Ab → Ab → Int)
abbrev fC : Ab → Ab → Option Int := fun x y => some (c x y)
abbrev lC : Ab → Ab → Bool := fun x y => decide (c x y < 0)
theorem kE (a : Nat) (d : Array Ab) (j : Nat) (hj : j < d.size) (hs : d.size ≤ 1048576) :
  Bm (dP (a : Int) (fC c)) (d.toList, (j : Int)) = some (insInner (lC c) a j d).toList := by
 refine Ja (fun t : Array Ab × Nat => (t.1.toList, (t.2 : Int))) (fun t => t.2 < t.1.size ∧ t.1.size ≤ 1048576) (fun t => t.2) (fun t => (insInner (lC c) a t.2 t.1).toList) ?_ (d, j) ⟨hj, hs⟩
 rintro ⟨d, j⟩ ⟨hj, hs⟩
 simp only at hj hs
 simp only [dP]
 by_cases h1 : a < j
 ·obtain ⟨j, rfl⟩ : ∃ k, j = k + 1 := ⟨j - 1, by omega⟩
  have e1 : decide (((j + 1 : Nat) : Int) > (a : Int)) = true := decide_eq_true (by omega)
  have e2 : IntKind.i64.wrap (((j + 1 : Nat) : Int) - 1) = (j : Int) := cM (by omega) (by omega)
  simp only [e1, e2, beq_self_eq_true, if_true, Hk hj, Hk (show j < d.size by omega), Int.toNat_natCast, Ht hj, Ht (show j < d.size by omega), Option.bind_some, cond_true, lO]
  by_cases h2 : c d[j + 1]! d[j]! < 0
  ·rw [if_pos (decide_eq_true h2)]
   simp only [Hk (show j < (d.setIfInBounds (j + 1) d[j]!).size by simpa using (by omega : j < d.size)), Ht (show j < (d.setIfInBounds (j + 1) d[j]!).size by simpa using (by omega : j < d.size)), Option.bind_some, lS]
   refine .inl ⟨(swp d (j + 1) j, j), rfl, ⟨by rw [size_swp]; omega, by rw [size_swp]; exact hs⟩, ?_, by simp⟩
   simp only [insInner]
   rw [if_pos (by simp [h1, h2])]
  ·rw [if_neg (by simpa using h2)]
   refine .inr ?_
   simp only [insInner]
   rw [if_neg (by simp; intro _; omega)]
 ·have e1 : decide ((j : Int) > (a : Int)) = false := decide_eq_false (by omega)
  simp only [e1, cond_false, Bool.false_eq_true, if_false, Option.bind_some, show (false == true) = false from rfl]
  refine .inr ?_
  cases j with
  | zero => simp [insInner]
  | succ j => simp only [insInner]; rw [if_neg (by simp; intro h; omega)]
theorem Lj (a : Nat) : ∀ (j : Nat) (d : Array Ab), (insInner (lC c) a j d).size = d.size
 | 0, d => by simp [insInner]
 | j + 1, d => by
  simp only [insInner]
  split
  ·rw [Lj a j, size_swp]
  ·rfl
theorem nA (d : Array Ab) (a b : Nat) (hb : b ≤ d.size) (hs : d.size ≤ 1048576) (hab : a ≤ b) :
  Adb d.toList (a : Int) (b : Int) (fC c) = some (insertionSort (lC c) d a b).toList := by
 simp only [Adb, aE (show a ≤ 4611686018427387904 by omega)]
 have := Ja (step := dO (a : Int) (b : Int) (fC c)) (fun t : Array Ab × Nat => (t.1.toList, (t.2 : Int))) (fun t => t.1.size = d.size) (fun t => b - t.2) (fun t => (insOuter (lC c) a b t.2 t.1).toList) (by
  rintro ⟨e, i⟩ he
  simp only at he
  simp only [dO]
  by_cases hi : i < b
  ·rw [if_pos (decide_eq_true (by omega)), kE c a e i (by omega) (by omega)]
   simp only [Option.bind_some, aE (show i ≤ 4611686018427387904 by omega)]
   refine .inl ⟨(insInner (lC c) a i e, i + 1), rfl, by rw [Lj]; exact he, ?_, by simp only; omega⟩
   simp only
   conv => rhs; unfold insOuter
   rw [if_pos hi]
  ·rw [if_neg (by simpa using hi)]
   refine .inr ?_
   conv => rhs; unfold insOuter
   simp only [hi, if_false]) (d, a + 1) rfl
 simp only at this
 rw [this]
 rfl
end Go.Ev
end
section
set_option maxHeartbeats 1000000
namespace Go.Ev
open Go.Sort
theorem UZ {σ τ ρ β : Type} {step : σ → Option (σ ⊕ ρ)} (R : β → ρ → Prop) (emb : τ → σ) (ok : τ → Prop) (m : τ → Nat) (F : τ → β)
  (h : ∀ t, ok t → (∃ t', step (emb t) = some (.inl (emb t')) ∧ ok t' ∧ F t' = F t ∧ m t' < m t) ∨ ∃ r, step (emb t) = some (.inr r) ∧ R (F t) r) (t : τ) (ht : ok t) : ∃ r, Bm step (emb t) = some r ∧ R (F t) r := by
 have key : ∀ (n : Nat) (t : τ), m t < n → ok t → ∃ r, Bm step (emb t) = some r ∧ R (F t) r := by
  intro n
  induction n with
  | zero => intro t hn; omega
  | succ n ih =>
   intro t hn ht
   rcases h t ht with ⟨t', h1, h2, h3, h4⟩ | ⟨r, h1, h2⟩
   ·obtain ⟨r, r1, r2⟩ := ih t' (by omega) h2
    exact ⟨r, by rw [De h1, r1], by rw [h3] at r2; exact r2⟩
   ·exact ⟨r, Dg h1, h2⟩
 exact key (m t + 1) t (by omega) ht
variable (c : Ab → Ab → Int)
theorem Fz (hi f : Nat) : ∀ (n r : Nat) (d : Array Ab), hi - r ≤ n → (siftDown (lC c) hi f r d).size = d.size
 | 0, r, d, h => by
  unfold siftDown
  rw [dif_pos (by omega)]
 | n + 1, r, d, h => by
  unfold siftDown
  split
  ·rfl
  ·split
   ·split
    ·rfl
    ·split
     ·rw [Fz hi f n _ _ (by omega), size_swp]
     ·rfl
   ·split
    ·rfl
    ·rw [Fz hi f n _ _ (by omega), size_swp]
theorem kO (d : Array Ab) (r k f : Nat) (hr : f + r < d.size) (hk : f + k < d.size) (hs : d.size ≤ 1048576) :
  Pq (f : Int) (fC c) d.toList (r : Int) (k : Int) = if c d[f + r]! d[f + k]! < 0 then some (.inl ((swp d (f + r) (f + k)).toList, (k : Int))) else some (.inr (.inr d.toList)) := by
 simp only [Pq, AC (show f ≤ 2305843009213693952 by omega) (show r ≤ 2305843009213693952 by omega), AC (show f ≤ 2305843009213693952 by omega) (show k ≤ 2305843009213693952 by omega), Hk hr, Hk hk, Int.toNat_natCast, Ht hr, Ht hk, Option.bind_some, lO]
 have hk2 : f + k < (d.setIfInBounds (f + r) d[f + k]!).size := by simpa using hk
 by_cases h : c d[f + r]! d[f + k]! < 0
 ·rw [if_neg (by simpa using h), if_pos h]
  simp only [Hk hk2, Ht hk2, Option.bind_some, lS]
 ·rw [if_pos (by simpa using h), if_neg h]
theorem nF (d : Array Ab) (r hi f : Nat) (hr : r ≤ hi) (hb : f + hi ≤ d.size) (hs : d.size ≤ 1048576) :
  SB d.toList (r : Int) (hi : Int) (f : Int) (fC c) = some (siftDown (lC c) hi f r d).toList := by
 obtain ⟨q, q1, q2⟩ := UZ (step := eF (hi : Int) (f : Int) (fC c)) (fun (X : Array Ab) q => q = .inl X.toList ∨ q = .inr X.toList) (fun t : Array Ab × Nat => (t.1.toList, (t.2 : Int))) (fun t => t.1.size = d.size ∧ t.2 ≤ hi) (fun t => hi - t.2) (fun t => siftDown (lC c) hi f t.2 t.1) (by
  rintro ⟨e, r⟩ ⟨he, hr⟩
  simp only at he hr
  have w1 : IntKind.i64.wrap ((IntKind.i64.wrap (2 * (r : Int))) + 1) = ((2 * r + 1 : Nat) : Int) := by rw [sdb (by omega), aE (by omega)]
  simp only [eF, w1]
  by_cases h1 : 2 * r + 1 ≥ hi
  ·rw [if_pos (decide_eq_true (by omega))]
   refine .inr ⟨_, rfl, .inl ?_⟩
   unfold siftDown
   rw [dif_pos h1]
  ·rw [if_neg (by simp; omega)]
   have w2 : IntKind.i64.wrap (((2 * r + 1 : Nat) : Int) + 1) = ((2 * r + 1 + 1 : Nat) : Int) := aE (by omega)
   have w3 : IntKind.i64.wrap ((f : Int) + ((2 * r + 1 : Nat) : Int)) = ((f + (2 * r + 1) : Nat) : Int) := AC (by omega) (by omega)
   have w4 : IntKind.i64.wrap (((f + (2 * r + 1) : Nat) : Int) + 1) = ((f + (2 * r + 1) + 1 : Nat) : Int) := aE (by omega)
   simp only [w2, w3, w4]
   have i1 : f + (2 * r + 1) < e.size := by omega
   have hF : ∀ k, k = 2 * r + 1 ∨ k = 2 * r + 2 → k < hi →
     (siftDown (lC c) hi f r e = if c e[f + r]! e[f + k]! < 0 then siftDown (lC c) hi f k (swp e (f + r) (f + k)) else e) →
     (∃ t' : Array Ab × Nat, Pq (f : Int) (fC c) e.toList (r : Int) (k : Int) = some (.inl (t'.1.toList, (t'.2 : Int))) ∧ (t'.1.size = d.size ∧ t'.2 ≤ hi) ∧ siftDown (lC c) hi f t'.2 t'.1 = siftDown (lC c) hi f r e ∧ hi - t'.2 < hi - r) ∨
     ∃ q, Pq (f : Int) (fC c) e.toList (r : Int) (k : Int) = some (.inr q) ∧ (q = .inl (siftDown (lC c) hi f r e).toList ∨ q = .inr (siftDown (lC c) hi f r e).toList) := by
    intro k hk hkh hsd
    rw [kO c e r k f (by omega) (by omega) (by omega)]
    by_cases h : c e[f + r]! e[f + k]! < 0
    ·rw [if_pos h] at hsd ⊢
     exact .inl ⟨(swp e (f + r) (f + k), k), rfl, ⟨by rw [size_swp]; exact he, by simp only; omega⟩, hsd.symm, by simp only; omega⟩
    ·rw [if_neg h] at hsd ⊢
     exact .inr ⟨_, rfl, .inr (by rw [hsd])⟩
   by_cases h2 : 2 * r + 1 + 1 < hi
   ·have i2 : f + (2 * r + 1) + 1 < e.size := by omega
    have e1 : decide (((2 * r + 1 + 1 : Nat) : Int) < (hi : Int)) = true := decide_eq_true (by omega)
    simp only [e1, beq_self_eq_true, if_true, Hk i1, Hk i2, Int.toNat_natCast, Ht i1, Ht i2, Option.bind_some, cond_true, Bd]
    by_cases h3 : c e[f + (2 * r + 1)]! e[f + (2 * r + 1) + 1]! < 0
    ·rw [if_pos (decide_eq_true h3)]
     refine hF (2 * r + 1 + 1) (.inr rfl) h2 ?_
     conv => lhs; unfold siftDown
     rw [dif_neg h1, if_pos (by simp [h2, h3])]
     by_cases h4 : c e[f + r]! e[f + (2 * r + 1 + 1)]! < 0
     ·rw [if_neg (by simpa using h4), dif_pos h2, if_pos h4]
     ·rw [if_pos (by simpa using h4), if_neg h4]
    ·rw [if_neg (by simpa using h3)]
     refine hF (2 * r + 1) (.inl rfl) (by omega) ?_
     conv => lhs; unfold siftDown
     rw [dif_neg h1, if_neg (by simp; intro _; omega)]
     by_cases h4 : c e[f + r]! e[f + (2 * r + 1)]! < 0
     ·rw [if_neg (by simpa using h4), if_pos h4]
     ·rw [if_pos (by simpa using h4), if_neg h4]
   ·have e1 : decide (((2 * r + 1 + 1 : Nat) : Int) < (hi : Int)) = false := decide_eq_false (by omega)
    simp only [e1, show (false == true) = false from rfl, Bool.false_eq_true, if_false, Option.bind_some, cond_false, Bd]
    refine hF (2 * r + 1) (.inl rfl) (by omega) ?_
    conv => lhs; unfold siftDown
    rw [dif_neg h1, if_neg (by simp; intro h; omega)]
    by_cases h4 : c e[f + r]! e[f + (2 * r + 1)]! < 0
    ·rw [if_neg (by simpa using h4), if_pos h4]
    ·rw [if_pos (by simpa using h4), if_neg h4]) (d, r) ⟨rfl, hr⟩
 simp only at q1 q2
 simp only [SB, q1, Option.bind_some]
 rcases q2 with rfl | rfl <;> rfl
theorem Jx (hi f : Nat) : ∀ (k : Nat) (d : Array Ab), (heapBuild (lC c) hi f k d).size = d.size
 | 0, d => rfl
 | k + 1, d => by rw [heapBuild, Jx hi f k, Fz c hi f _ _ _ (Nat.le_refl _)]
theorem Sx (f : Nat) : ∀ (k : Nat) (d : Array Ab), (heapPop (lC c) f k d).size = d.size
 | 0, d => rfl
 | k + 1, d => by rw [heapPop, Sx f k, Fz c k f _ _ _ (Nat.le_refl _), size_swp]
theorem RN (d : Array Ab) (a b : Nat) (hb : b ≤ d.size) (hs : d.size ≤ 1048576) (hab : a < b) :
  Adc d.toList (a : Int) (b : Int) (fC c) = some (heapSort (lC c) d a b).toList := by
 have w1 : IntKind.i64.wrap ((b : Int) - (a : Int)) = ((b - a : Nat) : Int) := oA (by omega) (by omega)
 have w2 : IntKind.i64.wrap (((b - a : Nat) : Int) - 1) = ((b - a - 1 : Nat) : Int) := cM (by omega) (by omega)
 have w3 : IntKind.i64.wrap (((b - a - 1 : Nat) : Int).tdiv 2) = (((b - a - 1) / 2 : Nat) : Int) := sdv 2 (by omega)
 have L0 := Ja (step := dQ (a : Int) (b : Int) (fC c)) (fun t : Array Ab × Nat => (t.1.toList, (t.2 : Int) - 1)) (fun t => t.1.size = d.size ∧ t.2 ≤ b - a) (fun t => t.2) (fun t => (heapBuild (lC c) (b - a) a t.2 t.1).toList) (by
  rintro ⟨e, k⟩ ⟨he, hk⟩
  simp only at he hk
  simp only [dQ, w1]
  cases k with
  | zero =>
   rw [if_neg (by simp)]
   exact .inr rfl
  | succ k =>
   rw [if_pos (decide_eq_true (by omega))]
   rw [show ((k + 1 : Nat) : Int) - 1 = (k : Int) by omega, nF c e k (b - a) a (by omega) (by omega) (by omega)]
   have sz := Fz c (b - a) a _ k e (Nat.le_refl _)
   simp only [Option.bind_some]
   rw [if_pos (by simpa using sz)]
   refine .inl ⟨(siftDown (lC c) (b - a) a k e, k), ?_, ⟨by rw [← he]; exact sz, by simp only; omega⟩, rfl, by simp⟩
   simp only
   rw [wr ⟨by omega, by omega⟩]) (d, (b - a - 1) / 2 + 1) ⟨rfl, by simp only; omega⟩
 have L1 := Ja (step := dR (a : Int) (fC c)) (fun t : Array Ab × Nat => (t.1.toList, (t.2 : Int) - 1)) (fun t => t.1.size = d.size ∧ t.2 ≤ b - a) (fun t => t.2) (fun t => (heapPop (lC c) a t.2 t.1).toList) (by
  rintro ⟨e, k⟩ ⟨he, hk⟩
  simp only at he hk
  simp only [dR]
  cases k with
  | zero =>
   rw [if_neg (by simp)]
   exact .inr rfl
  | succ k =>
   rw [if_pos (decide_eq_true (by omega))]
   rw [show ((k + 1 : Nat) : Int) - 1 = (k : Int) by omega]
   have i1 : a + k < e.size := by omega
   have i2 : a < e.size := by omega
   have i3 : a + k < (e.setIfInBounds a e[a + k]!).size := by simpa using i1
   simp only [AC (show a ≤ 2305843009213693952 by omega) (show k ≤ 2305843009213693952 by omega), Hk i1, Hk i2, Int.toNat_natCast, Ht i1, Ht i2, lO, Option.bind_some, Hk i3, Ht i3, lS]
   have := nF c (swp e a (a + k)) 0 k a (by omega) (by rw [size_swp]; omega) (by rw [size_swp]; omega)
   rw [show ((0 : Nat) : Int) = 0 from rfl] at this
   rw [this]
   have sz := Fz c k a _ 0 (swp e a (a + k)) (Nat.le_refl _)
   simp only [Option.bind_some]
   rw [if_pos (by simpa using sz)]
   refine .inl ⟨(siftDown (lC c) k a 0 (swp e a (a + k)), k), ?_, ⟨by rw [← he]; rw [sz, size_swp], by simp only; omega⟩, rfl, by simp⟩
   simp only
   rw [wr ⟨by omega, by omega⟩]) (heapBuild (lC c) (b - a) a ((b - a - 1) / 2 + 1) d, b - a) ⟨by rw [Jx], Nat.le_refl _⟩
 simp only at L0 L1
 rw [show (((b - a - 1) / 2 + 1 : Nat) : Int) - 1 = (((b - a - 1) / 2 : Nat) : Int) by omega] at L0
 rw [show ((b - a : Nat) : Int) - 1 = ((b - a - 1 : Nat) : Int) by omega] at L1
 simp only [Adc, Bd, w1, w2, w3, L0, L1, Option.bind_some]
 rfl
theorem Mc : ∀ (n i j : Nat) (d : Array Ab), j - i ≤ n → (reverseLoop i j d).size = d.size
 | 0, i, j, d, h => by unfold reverseLoop; rw [if_neg (by omega)]
 | n + 1, i, j, d, h => by
  unfold reverseLoop
  split
  ·rw [Mc n _ _ _ (by omega), size_swp]
  ·rfl
theorem RU (d : Array Ab) (a b : Nat) (hb : b ≤ d.size) (hs : d.size ≤ 1048576) (hab : a < b) :
  Adf d.toList (a : Int) (b : Int) (fC c) = some (reverseRange d a b).toList := by
 have w2 : IntKind.i64.wrap ((b : Int) - 1) = ((b - 1 : Nat) : Int) := cM (by omega) (by omega)
 have L0 := Ja (step := dT) (fun t : Array Ab × Nat × Nat => (t.1.toList, (t.2.1 : Int), (t.2.2 : Int))) (fun t => t.1.size = d.size ∧ t.2.2 < b) (fun t => t.2.2 - t.2.1) (fun t => (reverseLoop t.2.1 t.2.2 t.1).toList) (by
  rintro ⟨e, i, j⟩ ⟨he, hj⟩
  simp only at he hj
  simp only [dT]
  by_cases h : i < j
  ·rw [if_pos (decide_eq_true (by omega))]
   have i1 : i < e.size := by omega
   have i2 : j < e.size := by omega
   have i3 : j < (e.setIfInBounds i e[j]!).size := by simpa using i2
   simp only [Hk i1, Hk i2, Int.toNat_natCast, Ht i1, Ht i2, lO, Option.bind_some, Hk i3, Ht i3, lS, aE (show i ≤ 4611686018427387904 by omega), cM (show j ≤ 4611686018427387904 by omega) (show 1 ≤ j by omega)]
   refine .inl ⟨(swp e i j, i + 1, j - 1), rfl, ⟨by rw [size_swp]; exact he, by simp only; omega⟩, ?_, by simp only; omega⟩
   simp only
   conv => rhs; unfold reverseLoop
   rw [if_pos h]
  ·rw [if_neg (by simpa using h)]
   refine .inr ?_
   unfold reverseLoop
   rw [if_neg h]) (d, a, b - 1) ⟨rfl, by simp only; omega⟩
 simp only at L0
 simp only [Adf, w2, L0, Option.bind_some]
 rfl
end Go.Ev
end
section
set_option maxHeartbeats 1000000
namespace Go.Ev
open Go.Sort
variable (c : Ab → Ab → Int)
theorem Yk (d : Array Ab) (a i j : Nat) (ha : a < d.size) (hj : j < d.size) (hs : d.size ≤ 1048576) (hi : i ≤ 1048577) :
  Bm (Wy (a : Int) (fC c) d.toList (j : Int)) (i : Int) = some ((scanUp (fun x => lC c x d[a]!) d j i : Nat) : Int) := by
 refine Ja (fun t : Nat => (t : Int)) (fun t => t ≤ 1048577) (fun t => j + 1 - t) (fun t => ((scanUp (fun x => lC c x d[a]!) d j t : Nat) : Int)) ?_ i hi
 intro i hi
 simp only [Wy]
 by_cases h : i ≤ j
 ·have hi2 : i < d.size := by omega
  have e1 : decide ((i : Int) ≤ (j : Int)) = true := decide_eq_true (by omega)
  simp only [e1, beq_self_eq_true, if_true, Hk hi2, Hk ha, Int.toNat_natCast, Ht hi2, Ht ha, Option.bind_some, cond_true]
  by_cases h2 : c d[i]! d[a]! < 0
  ·rw [if_pos (decide_eq_true h2), aE (by omega)]
   refine .inl ⟨i + 1, rfl, by omega, ?_, by omega⟩
   conv => rhs; unfold scanUp
   rw [if_pos (by simp [h, h2])]
  ·rw [if_neg (by simpa using h2)]
   refine .inr ?_
   conv => rhs; unfold scanUp
   rw [if_neg (by simp; intro _; omega)]
 ·have e1 : decide ((i : Int) ≤ (j : Int)) = false := decide_eq_false (by omega)
  simp only [e1, show (false == true) = false from rfl, Bool.false_eq_true, if_false, Option.bind_some, cond_false]
  refine .inr ?_
  conv => rhs; unfold scanUp
  rw [if_neg (by simp; intro h; omega)]
theorem Yl (d : Array Ab) (a i j : Nat) (ha : a < d.size) (hj : j < d.size) (hs : d.size ≤ 1048576) (hi : 1 ≤ i) :
  Bm (Wz (a : Int) (fC c) d.toList (i : Int)) (j : Int) = some ((scanDown (fun x => !lC c x d[a]!) d i j : Nat) : Int) := by
 refine Ja (fun t : Nat => (t : Int)) (fun t => t < d.size) (fun t => t) (fun t => ((scanDown (fun x => !lC c x d[a]!) d i t : Nat) : Int)) ?_ j hj
 intro j hj
 simp only [Wz]
 by_cases h : i ≤ j
 ·obtain ⟨j, rfl⟩ : ∃ k, j = k + 1 := ⟨j - 1, by omega⟩
  have e1 : decide ((i : Int) ≤ ((j + 1 : Nat) : Int)) = true := decide_eq_true (by omega)
  simp only [e1, beq_self_eq_true, if_true, Hk hj, Hk ha, Int.toNat_natCast, Ht hj, Ht ha, Option.bind_some, cond_true]
  by_cases h2 : c d[j + 1]! d[a]! < 0
  ·rw [if_neg (by simpa using h2)]
   refine .inr ?_
   simp only [scanDown]
   rw [if_neg (by simp; intro _; omega)]
  ·rw [if_pos (by simpa using h2), cM (by omega) (by omega)]
   refine .inl ⟨j, rfl, by omega, ?_, by omega⟩
   simp only [scanDown]
   rw [if_pos (by simp [h]; omega)]
 ·have e1 : decide ((i : Int) ≤ (j : Int)) = false := decide_eq_false (by omega)
  simp only [e1, show (false == true) = false from rfl, Bool.false_eq_true, if_false, Option.bind_some, cond_false]
  refine .inr ?_
  cases j with
  | zero => simp [scanDown]
  | succ j => simp only [scanDown]; rw [if_neg (by simp; intro h; omega)]
theorem Lk (a : Nat) : ∀ (n i j : Nat) (d : Array Ab), j + 1 - i ≤ n → (partLoop (lC c) a i j d).2.size = d.size ∧ (partLoop (lC c) a i j d).1 ≤ j
 | 0, i, j, d, h => by
  rw [partLoop_eq]
  have h1 := scanUp_ge (fun x => lC c x d[a]!) d j i
  have h2 := scanDown_le (fun x => !lC c x d[a]!) d (scanUp (fun x => lC c x d[a]!) d j i) j
  rw [if_pos (by omega)]
  exact ⟨rfl, h2⟩
 | n + 1, i, j, d, h => by
  rw [partLoop_eq]
  have h1 := scanUp_ge (fun x => lC c x d[a]!) d j i
  have h2 := scanDown_le (fun x => !lC c x d[a]!) d (scanUp (fun x => lC c x d[a]!) d j i) j
  split
  ·exact ⟨rfl, h2⟩
  ·have := Lk a n (scanUp (fun x => lC c x d[a]!) d j i + 1) (scanDown (fun x => !lC c x d[a]!) d (scanUp (fun x => lC c x d[a]!) d j i) j - 1) (swp d (scanUp (fun x => lC c x d[a]!) d j i) (scanDown (fun x => !lC c x d[a]!) d (scanUp (fun x => lC c x d[a]!) d j i) j)) (by omega)
   rw [size_swp] at this
   exact ⟨this.1, by omega⟩
theorem Uy (p : Ab → Bool) (d : Array Ab) (j i : Nat) (h : i ≤ 1048577) (hj : j ≤ 1048576) : scanUp p d j i ≤ 1048577 := by
 have key : ∀ n i, j + 1 - i ≤ n → i ≤ 1048577 → scanUp p d j i ≤ 1048577 := by
  intro n
  induction n with
  | zero =>
   intro i hn hi
   unfold scanUp
   rw [if_neg (by simp; intro h; omega)]; exact hi
  | succ n ih =>
   intro i hn hi
   unfold scanUp
   by_cases hc : (decide (i ≤ j) && p d[i]!) = true
   ·rw [if_pos hc]
    simp only [Bool.and_eq_true, decide_eq_true_eq] at hc
    exact ih (i + 1) (by omega) (by omega)
   ·rw [if_neg hc]; exact hi
 exact key _ i (Nat.le_refl _) h
theorem kN (d : Array Ab) (a i j : Nat) (ha : a < d.size) (hj : j < d.size) (hs : d.size ≤ 1048576) (hi : 1 ≤ i) (hij : i ≤ 1048577) :
  Bm (eD (a : Int) (fC c)) (d.toList, (i : Int), (j : Int)) = some ((partLoop (lC c) a i j d).2.toList, (((partLoop (lC c) a i j d).1 : Nat) : Int)) := by
 refine Ja (fun t : Array Ab × Nat × Nat => (t.1.toList, (t.2.1 : Int), (t.2.2 : Int))) (fun t => t.1.size = d.size ∧ t.2.2 < d.size ∧ 1 ≤ t.2.1 ∧ t.2.1 ≤ 1048577) (fun t => t.2.2 + 1 - t.2.1)
  (fun t => ((partLoop (lC c) a t.2.1 t.2.2 t.1).2.toList, (((partLoop (lC c) a t.2.1 t.2.2 t.1).1 : Nat) : Int))) ?_ (d, i, j) ⟨rfl, hj, hi, hij⟩
 rintro ⟨e, i, j⟩ ⟨he, hj, hi, hij⟩
 simp only at he hj hi hij
 simp only [eD]
 have u1 := scanUp_ge (fun x => lC c x e[a]!) e j i
 have u2 := Uy (fun x => lC c x e[a]!) e j i hij (by omega)
 rw [Yk c e a i j (by omega) (by omega) (by omega) hij]
 simp only [Option.bind_some]
 rw [Yl c e a _ j (by omega) (by omega) (by omega) (by omega)]
 simp only [Option.bind_some]
 rw [partLoop_eq]
 have v1 := scanDown_le (fun x => !lC c x e[a]!) e (scanUp (fun x => lC c x e[a]!) e j i) j
 generalize scanUp (fun x => lC c x e[a]!) e j i = i2 at *
 generalize scanDown (fun x => !lC c x e[a]!) e i2 j = j2 at *
 by_cases h : i2 > j2
 ·rw [if_pos (decide_eq_true (by omega)), if_pos h]
  exact .inr rfl
 ·rw [if_neg (by simpa using h), if_neg h]
  have i1 : i2 < e.size := by omega
  have i3 : j2 < e.size := by omega
  have i4 : j2 < (e.setIfInBounds i2 e[j2]!).size := by simpa using i3
  simp only [Hk i1, Hk i3, Int.toNat_natCast, Ht i1, Ht i3, lO, Option.bind_some, Hk i4, Ht i4, lS, aE (show i2 ≤ 4611686018427387904 by omega), cM (show j2 ≤ 4611686018427387904 by omega) (show 1 ≤ j2 by omega)]
  exact .inl ⟨(swp e i2 j2, i2 + 1, j2 - 1), rfl, ⟨by rw [size_swp]; exact he, by simp only; omega, by simp only; omega, by simp only; omega⟩, rfl, by simp only; omega⟩
theorem kL (d : List Ab) (a b p : Int) (f : Ab → Ab → Option Int) (x y : Ab) :
  nB d a b p f x y = Wy a f ((d.set a.toNat x).set p.toNat y) (IntKind.i64.wrap (b - 1)) := rfl
theorem kM (d : List Ab) (a p : Int) (f : Ab → Ab → Option Int) (x y : Ab) (i : Int) :
  nC d a p f x y i = Wz a f ((d.set a.toNat x).set p.toNat y) i := rfl
theorem SA (d : Array Ab) (a b p : Nat) (hb : b ≤ d.size) (hs : d.size ≤ 1048576) (hab : a + 1 < b) (hp : p < b) :
  RZ d.toList (a : Int) (b : Int) (p : Int) (fC c) = some ((((partition (lC c) d a b p).1 : Nat) : Int), (partition (lC c) d a b p).2.1, (partition (lC c) d a b p).2.2.toList) ∧ (partition (lC c) d a b p).2.2.size = d.size := by
 have i1 : p < d.size := by omega
 have i2 : a < d.size := by omega
 have i3 : p < (d.setIfInBounds a d[p]!).size := by simpa using i1
 have w2 : IntKind.i64.wrap ((b : Int) - 1) = ((b - 1 : Nat) : Int) := cM (by omega) (by omega)
 simp only [RZ, Hk i1, Hk i2, Int.toNat_natCast, Ht i1, Ht i2, lO, Option.bind_some, Hk i3, Ht i3, kL, kM, lS, w2, aE (show a ≤ 4611686018427387904 by omega)]
 have sz : (swp d a p).size = d.size := size_swp d a p
 generalize hd1 : swp d a p = d1 at sz
 have u1 := scanUp_ge (fun x => lC c x d1[a]!) d1 (b - 1) (a + 1)
 have u2 := Uy (fun x => lC c x d1[a]!) d1 (b - 1) (a + 1) (by omega) (by omega)
 rw [Yk c d1 a (a + 1) (b - 1) (by omega) (by omega) (by omega) (by omega)]
 simp only [Option.bind_some]
 rw [Yl c d1 a _ (b - 1) (by omega) (by omega) (by omega) (by omega)]
 simp only [Option.bind_some]
 simp only [partition, hd1]
 have v1 := scanDown_le (fun x => !lC c x d1[a]!) d1 (scanUp (fun x => lC c x d1[a]!) d1 (b - 1) (a + 1)) (b - 1)
 generalize scanUp (fun x => lC c x d1[a]!) d1 (b - 1) (a + 1) = i at *
 generalize scanDown (fun x => !lC c x d1[a]!) d1 i (b - 1) = j at *
 have k1 : a < d1.size := by omega
 have k2 : j < d1.size := by omega
 by_cases h : i > j
 ·rw [if_pos (decide_eq_true (by omega)), if_pos h]
  have k3 : a < (d1.setIfInBounds j d1[a]!).size := by simpa using k1
  simp only [Hk k1, Hk k2, Int.toNat_natCast, Ht k1, Ht k2, lO, Option.bind_some, Hk k3, Ht k3, lS, Bd]
  exact ⟨by trivial, by rw [size_swp, sz]⟩
 ·rw [if_neg (by simpa using h), if_neg h]
  have k4 : i < d1.size := by omega
  have k3 : j < (d1.setIfInBounds i d1[j]!).size := by simpa using k2
  simp only [Hk k4, Hk k2, Int.toNat_natCast, Ht k4, Ht k2, lO, Option.bind_some, Hk k3, Ht k3, lS, Bd, aE (show i ≤ 4611686018427387904 by omega), cM (show j ≤ 4611686018427387904 by omega) (show 1 ≤ j by omega)]
  have sz2 : (swp d1 i j).size = d.size := by rw [size_swp, sz]
  generalize swp d1 i j = d2 at sz2
  rw [kN c d2 a (i + 1) (j - 1) (by omega) (by omega) (by omega) (by omega) (by omega)]
  obtain ⟨z1, z2⟩ := Lk c a _ (i + 1) (j - 1) d2 (Nat.le_refl _)
  simp only [Option.bind_some]
  generalize partLoop (lC c) a (i + 1) (j - 1) d2 = r at *
  have m1 : a < r.2.size := by omega
  have m2 : r.1 < r.2.size := by omega
  have m3 : a < (r.2.setIfInBounds r.1 r.2[a]!).size := by simpa using m1
  simp only [Hk m1, Hk m2, Int.toNat_natCast, Ht m1, Ht m2, lO, Option.bind_some, Hk m3, Ht m3, lS]
  exact ⟨by trivial, by rw [size_swp]; omega⟩
theorem kJ (d : Array Ab) (a i j : Nat) (ha : a < d.size) (hj : j < d.size) (hs : d.size ≤ 1048576) (hi : i ≤ 1048577) :
  Bm (eA (a : Int) (fC c) d.toList (j : Int)) (i : Int) = some ((scanUp (fun x => !lC c d[a]! x) d j i : Nat) : Int) := by
 refine Ja (fun t : Nat => (t : Int)) (fun t => t ≤ 1048577) (fun t => j + 1 - t) (fun t => ((scanUp (fun x => !lC c d[a]! x) d j t : Nat) : Int)) ?_ i hi
 intro i hi
 simp only [eA]
 by_cases h : i ≤ j
 ·have hi2 : i < d.size := by omega
  have e1 : decide ((i : Int) ≤ (j : Int)) = true := decide_eq_true (by omega)
  simp only [e1, beq_self_eq_true, if_true, Hk hi2, Hk ha, Int.toNat_natCast, Ht hi2, Ht ha, Option.bind_some, cond_true]
  by_cases h2 : c d[a]! d[i]! < 0
  ·rw [if_neg (by simpa using h2)]
   refine .inr ?_
   conv => rhs; unfold scanUp
   rw [if_neg (by simp; intro _; omega)]
  ·rw [if_pos (by simpa using h2), aE (by omega)]
   refine .inl ⟨i + 1, rfl, by omega, ?_, by omega⟩
   conv => rhs; unfold scanUp
   rw [if_pos (by simp [h]; omega)]
 ·have e1 : decide ((i : Int) ≤ (j : Int)) = false := decide_eq_false (by omega)
  simp only [e1, show (false == true) = false from rfl, Bool.false_eq_true, if_false, Option.bind_some, cond_false]
  refine .inr ?_
  conv => rhs; unfold scanUp
  rw [if_neg (by simp; intro h; omega)]
theorem kK (d : Array Ab) (a i j : Nat) (ha : a < d.size) (hj : j < d.size) (hs : d.size ≤ 1048576) (hi : 1 ≤ i) :
  Bm (eC (a : Int) (fC c) d.toList (i : Int)) (j : Int) = some ((scanDown (fun x => lC c d[a]! x) d i j : Nat) : Int) := by
 refine Ja (fun t : Nat => (t : Int)) (fun t => t < d.size) (fun t => t) (fun t => ((scanDown (fun x => lC c d[a]! x) d i t : Nat) : Int)) ?_ j hj
 intro j hj
 simp only [eC]
 by_cases h : i ≤ j
 ·obtain ⟨j, rfl⟩ : ∃ k, j = k + 1 := ⟨j - 1, by omega⟩
  have e1 : decide ((i : Int) ≤ ((j + 1 : Nat) : Int)) = true := decide_eq_true (by omega)
  simp only [e1, beq_self_eq_true, if_true, Hk hj, Hk ha, Int.toNat_natCast, Ht hj, Ht ha, Option.bind_some, cond_true]
  by_cases h2 : c d[a]! d[j + 1]! < 0
  ·rw [if_pos (by simpa using h2), cM (by omega) (by omega)]
   refine .inl ⟨j, rfl, by omega, ?_, by omega⟩
   simp only [scanDown]
   rw [if_pos (by simp [h]; omega)]
  ·rw [if_neg (by simpa using h2)]
   refine .inr ?_
   simp only [scanDown]
   rw [if_neg (by simp; intro _; omega)]
 ·have e1 : decide ((i : Int) ≤ (j : Int)) = false := decide_eq_false (by omega)
  simp only [e1, show (false == true) = false from rfl, Bool.false_eq_true, if_false, Option.bind_some, cond_false]
  refine .inr ?_
  cases j with
  | zero => simp [scanDown]
  | succ j => simp only [scanDown]; rw [if_neg (by simp; intro h; omega)]
theorem Iw (a : Nat) : ∀ (n i j : Nat) (d : Array Ab), j + 1 - i ≤ n → (partEqLoop (lC c) a i j d).2.size = d.size
 | 0, i, j, d, h => by
  rw [partEqLoop_eq]
  have h1 := scanUp_ge (fun x => !lC c d[a]! x) d j i
  have h2 := scanDown_le (fun x => lC c d[a]! x) d (scanUp (fun x => !lC c d[a]! x) d j i) j
  rw [if_pos (by omega)]
 | n + 1, i, j, d, h => by
  rw [partEqLoop_eq]
  have h1 := scanUp_ge (fun x => !lC c d[a]! x) d j i
  have h2 := scanDown_le (fun x => lC c d[a]! x) d (scanUp (fun x => !lC c d[a]! x) d j i) j
  split
  ·rfl
  ·have := Iw a n (scanUp (fun x => !lC c d[a]! x) d j i + 1) (scanDown (fun x => lC c d[a]! x) d (scanUp (fun x => !lC c d[a]! x) d j i) j - 1) (swp d (scanUp (fun x => !lC c d[a]! x) d j i) (scanDown (fun x => lC c d[a]! x) d (scanUp (fun x => !lC c d[a]! x) d j i) j)) (by omega)
   rw [size_swp] at this
   exact this
theorem kI (d : Array Ab) (a i j : Nat) (ha : a < d.size) (hj : j < d.size) (hs : d.size ≤ 1048576) (hi : 1 ≤ i) (hij : i ≤ 1048577) :
  Bm (dZ (a : Int) (fC c)) (d.toList, (i : Int), (j : Int)) = some ((partEqLoop (lC c) a i j d).2.toList, (((partEqLoop (lC c) a i j d).1 : Nat) : Int)) := by
 refine Ja (fun t : Array Ab × Nat × Nat => (t.1.toList, (t.2.1 : Int), (t.2.2 : Int))) (fun t => t.1.size = d.size ∧ t.2.2 < d.size ∧ 1 ≤ t.2.1 ∧ t.2.1 ≤ 1048577) (fun t => t.2.2 + 1 - t.2.1)
  (fun t => ((partEqLoop (lC c) a t.2.1 t.2.2 t.1).2.toList, (((partEqLoop (lC c) a t.2.1 t.2.2 t.1).1 : Nat) : Int))) ?_ (d, i, j) ⟨rfl, hj, hi, hij⟩
 rintro ⟨e, i, j⟩ ⟨he, hj, hi, hij⟩
 simp only at he hj hi hij
 simp only [dZ]
 have u1 := scanUp_ge (fun x => !lC c e[a]! x) e j i
 have u2 := Uy (fun x => !lC c e[a]! x) e j i hij (by omega)
 rw [kJ c e a i j (by omega) (by omega) (by omega) hij]
 simp only [Option.bind_some]
 rw [kK c e a _ j (by omega) (by omega) (by omega) (by omega)]
 simp only [Option.bind_some]
 rw [partEqLoop_eq]
 have v1 := scanDown_le (fun x => lC c e[a]! x) e (scanUp (fun x => !lC c e[a]! x) e j i) j
 generalize scanUp (fun x => !lC c e[a]! x) e j i = i2 at *
 generalize scanDown (fun x => lC c e[a]! x) e i2 j = j2 at *
 by_cases h : i2 > j2
 ·rw [if_pos (decide_eq_true (by omega)), if_pos h]
  exact .inr rfl
 ·rw [if_neg (by simpa using h), if_neg h]
  have i1 : i2 < e.size := by omega
  have i3 : j2 < e.size := by omega
  have i4 : j2 < (e.setIfInBounds i2 e[j2]!).size := by simpa using i3
  simp only [Hk i1, Hk i3, Int.toNat_natCast, Ht i1, Ht i3, lO, Option.bind_some, Hk i4, Ht i4, lS, aE (show i2 ≤ 4611686018427387904 by omega), cM (show j2 ≤ 4611686018427387904 by omega) (show 1 ≤ j2 by omega)]
  exact .inl ⟨(swp e i2 j2, i2 + 1, j2 - 1), rfl, ⟨by rw [size_swp]; exact he, by simp only; omega, by simp only; omega, by simp only; omega⟩, rfl, by simp only; omega⟩
theorem RY (d : Array Ab) (a b p : Nat) (hb : b ≤ d.size) (hs : d.size ≤ 1048576) (hab : a + 1 < b) (hp : p < b) :
  Adh d.toList (a : Int) (b : Int) (p : Int) (fC c) = some ((((partitionEqual (lC c) d a b p).1 : Nat) : Int), (partitionEqual (lC c) d a b p).2.toList) ∧ (partitionEqual (lC c) d a b p).2.size = d.size := by
 have i1 : p < d.size := by omega
 have i2 : a < d.size := by omega
 have i3 : p < (d.setIfInBounds a d[p]!).size := by simpa using i1
 have w2 : IntKind.i64.wrap ((b : Int) - 1) = ((b - 1 : Nat) : Int) := cM (by omega) (by omega)
 have sz : (swp d a p).size = d.size := size_swp d a p
 simp only [Adh, Hk i1, Hk i2, Int.toNat_natCast, Ht i1, Ht i2, lO, Option.bind_some, Hk i3, Ht i3, lS, w2, aE (show a ≤ 4611686018427387904 by omega)]
 rw [kI c (swp d a p) a (a + 1) (b - 1) (by omega) (by omega) (by omega) (by omega) (by omega)]
 exact ⟨rfl, by rw [partitionEqual, Iw c a _ _ _ _ (Nat.le_refl _), sz]⟩
end Go.Ev
end
section
set_option maxHeartbeats 1000000
namespace Go.Ev
open Go.Sort
variable (c : Ab → Ab → Int)
theorem kF (d : Array Ab) (b i : Nat) (hb : b ≤ d.size) (hs : d.size ≤ 1048576) (hi : 1 ≤ i) (hib : i ≤ 1048577) :
  Bm (dW (b : Int) (fC c) d.toList) (i : Int) = some ((scanSorted (lC c) d b i : Nat) : Int) := by
 refine Ja (fun t : Nat => (t : Int)) (fun t => 1 ≤ t ∧ t ≤ 1048577) (fun t => b - t) (fun t => ((scanSorted (lC c) d b t : Nat) : Int)) ?_ i ⟨hi, hib⟩
 rintro i ⟨hi, hib⟩
 simp only [dW]
 by_cases h : i < b
 ·have hi2 : i < d.size := by omega
  have hi3 : i - 1 < d.size := by omega
  have e1 : decide ((i : Int) < (b : Int)) = true := decide_eq_true (by omega)
  simp only [e1, beq_self_eq_true, if_true, cM (show i ≤ 4611686018427387904 by omega) hi, Hk hi2, Hk hi3, Int.toNat_natCast, Ht hi2, Ht hi3, Option.bind_some, cond_true]
  by_cases h2 : c d[i]! d[i - 1]! < 0
  ·rw [if_neg (by simpa using h2)]
   refine .inr ?_
   conv => rhs; unfold scanSorted
   rw [if_neg (by simp; intro _; omega)]
  ·rw [if_pos (by simpa using h2), aE (by omega)]
   refine .inl ⟨i + 1, rfl, ⟨by omega, by omega⟩, ?_, by omega⟩
   conv => rhs; unfold scanSorted
   rw [if_pos (by simp [h]; omega)]
 ·have e1 : decide ((i : Int) < (b : Int)) = false := decide_eq_false (by omega)
  simp only [e1, show (false == true) = false from rfl, Bool.false_eq_true, if_false, Option.bind_some, cond_false]
  refine .inr ?_
  conv => rhs; unfold scanSorted
  rw [if_neg (by simp; intro h; omega)]
theorem Qw (d : Array Ab) (b : Nat) : ∀ n i, b - i ≤ n → i ≤ scanSorted (lC c) d b i ∧ (i ≤ b → scanSorted (lC c) d b i ≤ b) ∧ (b < i → scanSorted (lC c) d b i = i)
 | 0, i, h => by
  unfold scanSorted
  rw [if_neg (by simp; intro h; omega)]; exact ⟨Nat.le_refl _, id, fun _ => rfl⟩
 | n + 1, i, h => by
  unfold scanSorted
  by_cases hc : (decide (i < b) && !lC c d[i]! d[i - 1]!) = true
  ·rw [if_pos hc]
   simp only [Bool.and_eq_true, decide_eq_true_eq] at hc
   have := Qw d b n (i + 1) (by omega)
   exact ⟨by omega, fun _ => this.2.1 (by omega), fun _ => by omega⟩
  ·rw [if_neg hc]; exact ⟨Nat.le_refl _, id, fun _ => rfl⟩
theorem kH (d : Array Ab) (j : Nat) (hj : j < d.size) (hs : d.size ≤ 1048576) :
  Bm (dY (fC c)) (d.toList, (j : Int)) = some (shiftDown (lC c) j d).toList := by
 refine Ja (fun t : Array Ab × Nat => (t.1.toList, (t.2 : Int))) (fun t => t.1.size = d.size ∧ t.2 < d.size) (fun t => t.2) (fun t => (shiftDown (lC c) t.2 t.1).toList) ?_ (d, j) ⟨rfl, hj⟩
 rintro ⟨e, j⟩ ⟨he, hj⟩
 simp only at he hj
 simp only [dY]
 cases j with
 | zero =>
  rw [if_neg (by simp)]
  exact .inr rfl
 | succ j =>
  rw [if_pos (decide_eq_true (by omega))]
  have i1 : j + 1 < e.size := by omega
  have i2 : j < e.size := by omega
  have i3 : j < (e.setIfInBounds (j + 1) e[j]!).size := by simpa using i2
  have e2 : IntKind.i64.wrap (((j + 1 : Nat) : Int) - 1) = (j : Int) := cM (by omega) (by omega)
  simp only [e2, Hk i1, Hk i2, Int.toNat_natCast, Ht i1, Ht i2, Option.bind_some, shiftDown]
  by_cases h2 : c e[j + 1]! e[j]! < 0
  ·rw [if_neg (by simpa using h2), if_neg (by simpa using h2)]
   simp only [lO, Hk i3, Ht i3, Option.bind_some, lS]
   exact .inl ⟨(swp e (j + 1) j, j), rfl, ⟨by rw [size_swp]; exact he, by simp only; omega⟩, rfl, by simp⟩
  ·rw [if_pos (by simpa using h2), if_pos (by simpa using h2)]
   exact .inr rfl
theorem Kh : ∀ (j : Nat) (d : Array Ab), (shiftDown (lC c) j d).size = d.size
 | 0, d => rfl
 | j + 1, d => by
  simp only [shiftDown]
  split
  ·rfl
  ·rw [Kh j, size_swp]
theorem kG (d : Array Ab) (b j : Nat) (hj : 1 ≤ j) (hb : b ≤ d.size) (hs : d.size ≤ 1048576) :
  Bm (dX (b : Int) (fC c)) (d.toList, (j : Int)) = some (shiftUp (lC c) b j d).toList := by
 refine Ja (fun t : Array Ab × Nat => (t.1.toList, (t.2 : Int))) (fun t => t.1.size = d.size ∧ 1 ≤ t.2) (fun t => b - t.2) (fun t => (shiftUp (lC c) b t.2 t.1).toList) ?_ (d, j) ⟨rfl, hj⟩
 rintro ⟨e, j⟩ ⟨he, hj⟩
 simp only at he hj
 simp only [dX]
 by_cases h : j < b
 ·rw [if_pos (decide_eq_true (by omega))]
  have i1 : j < e.size := by omega
  have i2 : j - 1 < e.size := by omega
  have i3 : j - 1 < (e.setIfInBounds j e[j - 1]!).size := by simpa using i2
  simp only [cM (show j ≤ 4611686018427387904 by omega) hj, Hk i1, Hk i2, Int.toNat_natCast, Ht i1, Ht i2, Option.bind_some]
  by_cases h2 : c e[j]! e[j - 1]! < 0
  ·rw [if_neg (by simpa using h2)]
   simp only [lO, Hk i3, Ht i3, Option.bind_some, lS, aE (show j ≤ 4611686018427387904 by omega)]
   refine .inl ⟨(swp e j (j - 1), j + 1), rfl, ⟨by rw [size_swp]; exact he, by simp only; omega⟩, ?_, by simp only; omega⟩
   simp only
   conv => rhs; unfold shiftUp
   rw [if_pos h, if_neg (by simpa using h2)]
  ·rw [if_pos (by simpa using h2)]
   refine .inr ?_
   conv => rhs; unfold shiftUp
   rw [if_pos h, if_pos (by simpa using h2)]
 ·rw [if_neg (by simpa using h)]
  refine .inr ?_
  conv => rhs; unfold shiftUp
  rw [if_neg h]
theorem Mx (b : Nat) : ∀ (n j : Nat) (d : Array Ab), b - j ≤ n → (shiftUp (lC c) b j d).size = d.size
 | 0, j, d, h => by unfold shiftUp; rw [if_neg (by omega)]
 | n + 1, j, d, h => by
  unfold shiftUp
  split
  ·split
   ·rfl
   ·rw [Mx b n _ _ (by omega), size_swp]
  ·rfl
theorem Ng (a b : Nat) : ∀ (s i : Nat) (d : Array Ab), (partialIns (lC c) a b s i d).1.size = d.size
 | 0, i, d => rfl
 | s + 1, i, d => by
  rw [partialIns_succ]
  split
  ·rfl
  ·split
   ·rfl
   ·rw [Ng a b s]
    simp only [fixUp, fixDown]
    split <;> split <;> simp [Mx c b _ _ _ (Nat.le_refl _), Kh, size_swp]
theorem RX (d : Array Ab) (a b : Nat) (hb : b ≤ d.size) (hs : d.size ≤ 1048576) (hab : a < b) :
  Adg d.toList (a : Int) (b : Int) (fC c) = some ((partialInsertionSort (lC c) d a b).2, (partialInsertionSort (lC c) d a b).1.toList) := by
 obtain ⟨q, q1, q2⟩ := UZ (step := dV (a : Int) (b : Int) (fC c)) (fun (X : Array Ab × Bool) q => (q = .inl X.1.toList ∧ X.2 = false) ∨ q = .inr (X.2, X.1.toList))
  (fun t : Array Ab × Nat × Nat => (t.1.toList, (t.2.1 : Int), 5 - (t.2.2 : Int))) (fun t => t.1.size = d.size ∧ a + 1 ≤ t.2.1 ∧ t.2.1 ≤ b ∧ t.2.2 ≤ 5) (fun t => t.2.2) (fun t => partialIns (lC c) a b t.2.2 t.2.1 t.1) (by
  rintro ⟨e, i, s⟩ ⟨he, hi, hib, hs5⟩
  simp only at he hi hib hs5
  simp only [dV]
  cases s with
  | zero =>
   rw [if_neg (by simp)]
   exact .inr ⟨_, rfl, .inl ⟨rfl, rfl⟩⟩
  | succ s =>
   rw [if_pos (decide_eq_true (by omega)), kF c e b i (by omega) (by omega) (by omega) (by omega)]
   obtain ⟨s1, s2, _⟩ := Qw c e b _ i (Nat.le_refl _)
   have s2 := s2 hib
   simp only [Option.bind_some]
   rw [partialIns_succ]
   generalize scanSorted (lC c) e b i = i2 at *
   by_cases h1 : i2 = b
   ·rw [if_pos (by simp [h1]), if_pos h1]
    exact .inr ⟨_, rfl, .inr rfl⟩
   ·rw [if_neg (by simp; omega), if_neg h1]
    have w1 : IntKind.i64.wrap ((b : Int) - (a : Int)) = ((b - a : Nat) : Int) := oA (by omega) (by omega)
    rw [w1]
    by_cases h2 : b - a < 50
    ·rw [if_pos (decide_eq_true (by omega)), if_pos h2]
     exact .inr ⟨_, rfl, .inr rfl⟩
    ·rw [if_neg (by simp; omega), if_neg h2]
     simp only [fixUp, fixDown]
     have i1 : i2 < e.size := by omega
     have i3 : i2 - 1 < e.size := by omega
     have i4 : i2 - 1 < (e.setIfInBounds i2 e[i2 - 1]!).size := by simpa using i3
     have w3 : IntKind.i64.wrap ((i2 : Int) - (a : Int)) = ((i2 - a : Nat) : Int) := oA (by omega) (by omega)
     have w4 : IntKind.i64.wrap ((b : Int) - (i2 : Int)) = ((b - i2 : Nat) : Int) := oA (by omega) (by omega)
     simp only [cM (show i2 ≤ 4611686018427387904 by omega) (show 1 ≤ i2 by omega), Hk i1, Hk i3, Int.toNat_natCast, Ht i1, Ht i3, Option.bind_some, lO, Hk i4, Ht i4, lS, Bd, w3]
     have sz : (swp e i2 (i2 - 1)).size = d.size := by rw [size_swp]; exact he
     have hj1 : ∀ (v : Array Ab), v.size = d.size → (∃ t' : Array Ab × Nat × Nat, Wx (b : Int) (fC c) (5 - ((s + 1 : Nat) : Int)) (i2 : Int) v.toList = some (.inl (t'.1.toList, (t'.2.1 : Int), 5 - (t'.2.2 : Int))) ∧ (t'.1.size = d.size ∧ a + 1 ≤ t'.2.1 ∧ t'.2.1 ≤ b ∧ t'.2.2 ≤ 5) ∧
       partialIns (lC c) a b t'.2.2 t'.2.1 t'.1 = partialIns (lC c) a b s i2 (if b - i2 ≥ 2 then shiftUp (lC c) b (i2 + 1) v else v) ∧ t'.2.2 < s + 1) := by
      intro v hv
      have w5 : IntKind.i64.wrap ((5 - ((s + 1 : Nat) : Int)) + 1) = 5 - (s : Int) := by rw [wr ⟨by omega, by omega⟩]; omega
      simp only [Wx, dU, w4, w5]
      by_cases h5 : b - i2 ≥ 2
      ·rw [if_pos (decide_eq_true (by omega)), if_pos h5, aE (by omega), kG c v b (i2 + 1) (by omega) (by omega) (by omega)]
       exact ⟨(shiftUp (lC c) b (i2 + 1) v, i2, s), rfl, ⟨by rw [Mx c b _ _ _ (Nat.le_refl _)]; exact hv, by simp only; omega, by simp only; omega, by simp only; omega⟩, rfl, by simp⟩
      ·rw [if_neg (by simp; omega), if_neg h5]
       exact ⟨(v, i2, s), rfl, ⟨hv, by simp only; omega, by simp only; omega, by simp only; omega⟩, rfl, by simp⟩
     refine .inl ?_
     by_cases h4 : i2 - a ≥ 2
     ·rw [if_pos (decide_eq_true (by omega)), if_pos h4, kH c _ (i2 - 1) (by omega) (by omega)]
      exact hj1 _ (by rw [Kh]; exact sz)
     ·rw [if_neg (by simp; omega), if_neg h4]
      exact hj1 _ sz) (d, a + 1, 5) ⟨rfl, by simp, by simp only; omega, by simp⟩
 simp only at q1 q2
 rw [show (5 : Int) - ((5 : Nat) : Int) = 0 by decide] at q1
 simp only [Adg, aE (show a ≤ 4611686018427387904 by omega), q1, Option.bind_some]
 rcases q2 with ⟨rfl, q3⟩ | rfl
 ·simp only [partialInsertionSort, q3]
 ·rfl
theorem eJ (d : Array Ab) (a b s : Nat) (ha : a < d.size) (hb : b < d.size) (hs : s ≤ 1000) :
  wG d.toList (a : Int) (b : Int) (s : Int) (fC c) = some (((order2 (lC c) d a b s).1 : Int), ((order2 (lC c) d a b s).2.1 : Int), ((order2 (lC c) d a b s).2.2 : Int)) := by
 simp only [wG, Hk ha, Hk hb, Option.bind_some, order2]
 by_cases h : c d[b]! d[a]! < 0
 ·rw [if_pos (decide_eq_true h), if_pos (decide_eq_true h), aE (by omega)]
 ·rw [if_neg (by simpa using h), if_neg (by simpa using h)]
theorem eH (d : Array Ab) (a b e s : Nat) (ha : a < d.size) (hb : b < d.size) (he : e < d.size) (hs : s ≤ 900) :
  SE d.toList (a : Int) (b : Int) (e : Int) (s : Int) (fC c) = some (((median (lC c) d a b e s).1 : Int), ((median (lC c) d a b e s).2 : Int)) := by
 have o1 := order2_mem (lC c) d a b s
 have o2 := order2_count (lt := lC c) d a b s
 simp only [SE, eJ c d a b s ha hb (by omega), Option.bind_some, median]
 generalize order2 (lC c) d a b s = r1 at *
 rw [eJ c d r1.2.1 e r1.2.2 (by omega) he (by omega)]
 have o3 := order2_mem (lC c) d r1.2.1 e r1.2.2
 have o4 := order2_count (lt := lC c) d r1.2.1 e r1.2.2
 simp only [Option.bind_some]
 generalize order2 (lC c) d r1.2.1 e r1.2.2 = r2 at *
 rw [eJ c d r1.1 r2.1 r2.2.2 (by omega) (by omega) (by omega)]
 rfl
theorem eG (d : Array Ab) (a s : Nat) (ha : a + 1 < d.size) (h1 : 1 ≤ a) (hs : s ≤ 900) (hz : d.size ≤ 1048576) :
  wF d.toList (a : Int) (s : Int) (fC c) = some (((medianAdjacent (lC c) d a s).1 : Int), ((medianAdjacent (lC c) d a s).2 : Int)) := by
 simp only [wF, aE (show a ≤ 4611686018427387904 by omega), cM (show a ≤ 4611686018427387904 by omega) h1]
 rw [eH c d (a - 1) a (a + 1) s (by omega) (by omega) ha hs]
 rfl
def Za (h : Hint) : Int := match h with | .unknown => 0 | .increasing => 1 | .decreasing => 2
theorem Ri (p s : Nat) : Wv (p : Int) (s : Int) = some ((p : Int), Za (if s = 0 then .increasing else if s = 12 then .decreasing else .unknown)) := by
 simp only [Wv]
 by_cases h0 : s = 0
 ·rw [if_pos (by simp [h0]), if_pos h0]; rfl
 ·rw [if_neg (by simp; omega), if_neg h0]
  by_cases h1 : s = 12
  ·rw [if_pos (by simp [h1]), if_pos h1]; rfl
  ·rw [if_neg (by simp; omega), if_neg h1]; rfl
theorem RS (d : Array Ab) (a b : Nat) (hb : b ≤ d.size) (hs : d.size ≤ 1048576) (hab : a < b) :
  Ade d.toList (a : Int) (b : Int) (fC c) = some (((choosePivot (lC c) d a b).1 : Int), Za (choosePivot (lC c) d a b).2) := by
 have w1 : IntKind.i64.wrap ((b : Int) - (a : Int)) = ((b - a : Nat) : Int) := oA (by omega) (by omega)
 have w2 : IntKind.i64.wrap (((b - a : Nat) : Int).tdiv 4) = (((b - a) / 4 : Nat) : Int) := sdv 4 (by omega)
 have m1 : IntKind.i64.wrap ((((b - a) / 4 : Nat) : Int) * 1) = (((b - a) / 4 * 1 : Nat) : Int) := sml 1 (by omega) (by omega)
 have m2 : IntKind.i64.wrap ((((b - a) / 4 : Nat) : Int) * 2) = (((b - a) / 4 * 2 : Nat) : Int) := sml 2 (by omega) (by omega)
 have m3 : IntKind.i64.wrap ((((b - a) / 4 : Nat) : Int) * 3) = (((b - a) / 4 * 3 : Nat) : Int) := sml 3 (by omega) (by omega)
 have n1 : IntKind.i64.wrap ((a : Int) + (((b - a) / 4 * 1 : Nat) : Int)) = ((a + (b - a) / 4 * 1 : Nat) : Int) := AC (by omega) (by omega)
 have n2 : IntKind.i64.wrap ((a : Int) + (((b - a) / 4 * 2 : Nat) : Int)) = ((a + (b - a) / 4 * 2 : Nat) : Int) := AC (by omega) (by omega)
 have n3 : IntKind.i64.wrap ((a : Int) + (((b - a) / 4 * 3 : Nat) : Int)) = ((a + (b - a) / 4 * 3 : Nat) : Int) := AC (by omega) (by omega)
 simp only [Ade, w1, w2, m1, m2, m3, n1, n2, n3, Bd, choosePivot]
 have z : ((0 : Nat) : Int) = 0 := rfl
 by_cases h8 : b - a ≥ 8
 ·rw [if_pos (decide_eq_true (by omega)), if_pos h8]
  by_cases h50 : b - a ≥ 50
  ·rw [if_pos (decide_eq_true (by omega)), if_pos h50]
   have p1 := eG c d (a + (b - a) / 4 * 1) 0 (by omega) (by omega) (by omega) hs
   have q1 := medianAdjacent_count (lt := lC c) d (a + (b - a) / 4 * 1) 0
   have r1 := medianAdjacent_mem (lC c) d (a + (b - a) / 4 * 1) 0
   rw [z] at p1
   simp only [p1, Option.bind_some]
   generalize medianAdjacent (lC c) d (a + (b - a) / 4 * 1) 0 = x1 at *
   have p2 := eG c d (a + (b - a) / 4 * 2) x1.2 (by omega) (by omega) (by omega) hs
   have q2 := medianAdjacent_count (lt := lC c) d (a + (b - a) / 4 * 2) x1.2
   have r2 := medianAdjacent_mem (lC c) d (a + (b - a) / 4 * 2) x1.2
   simp only [p2, Option.bind_some]
   generalize medianAdjacent (lC c) d (a + (b - a) / 4 * 2) x1.2 = x2 at *
   have p3 := eG c d (a + (b - a) / 4 * 3) x2.2 (by omega) (by omega) (by omega) hs
   have q3 := medianAdjacent_count (lt := lC c) d (a + (b - a) / 4 * 3) x2.2
   have r3 := medianAdjacent_mem (lC c) d (a + (b - a) / 4 * 3) x2.2
   simp only [p3, Option.bind_some]
   generalize medianAdjacent (lC c) d (a + (b - a) / 4 * 3) x2.2 = x3 at *
   simp only [Ww, eH c d x1.1 x2.1 x3.1 x3.2 (by omega) (by omega) (by omega) (by omega), Option.bind_some, Ri]
  ·rw [if_neg (by simp; omega), if_neg h50]
   have := eH c d (a + (b - a) / 4 * 1) (a + (b - a) / 4 * 2) (a + (b - a) / 4 * 3) 0 (by omega) (by omega) (by omega) (by omega)
   rw [z] at this
   simp only [Ww, this, Option.bind_some, Ri]
 ·rw [if_neg (by simp; omega), if_neg h8]
  have := Ri (a + (b - a) / 4 * 2) 0
  rw [z] at this
  rw [this]
end Go.Ev
end
section
set_option maxHeartbeats 1000000
set_option maxRecDepth 10000
namespace Go.Ev
open Go.Sort
variable (c : Ab → Ab → Int)
theorem wT (k : IntKind) (a b : Nat) (ha : a < 2 ^ k.bits) (hb : b < 2 ^ k.bits) : Sz k (a : Int) (b : Int) = k.wrap ((a &&& b : Nat) : Int) := by
 unfold Sz
 rw [BitVec.ofInt_natCast, BitVec.ofInt_natCast, BitVec.toNat_and, BitVec.toNat_ofNat, BitVec.toNat_ofNat, Nat.mod_eq_of_lt ha, Nat.mod_eq_of_lt hb]
theorem xC (k : IntKind) (a b : Nat) (ha : a < 2 ^ k.bits) (hb : b < 2 ^ k.bits) : gZ k (a : Int) (b : Int) = k.wrap ((a ^^^ b : Nat) : Int) := by
 unfold gZ
 rw [BitVec.ofInt_natCast, BitVec.ofInt_natCast, BitVec.toNat_xor, BitVec.toNat_ofNat, BitVec.toNat_ofNat, Nat.mod_eq_of_lt ha, Nat.mod_eq_of_lt hb]
theorem wi64 {n : Nat} (h : n < 9223372036854775808) : IntKind.i64.wrap (n : Int) = (n : Int) := wr ⟨by omega, by omega⟩
theorem XN (n : Nat) : (b8 (n : Int)).toNat = n % 256 := by
 have := oC (n : Int)
 unfold b8
 rw [zM] at this
 have e : ((u8 (IntKind.u8.wrap (n : Int))).toNat : Int) = (n : Int) % 256 := by rw [zM]; exact this
 omega
theorem AI {n v : Nat} (h1 : n < 2 ^ v) (h2 : v = 0 ∨ 2 ^ (v - 1) ≤ n) : bitsLen n = v := by
 have a1 := (bitsLen_le_iff n v).2 h1
 rcases h2 with rfl | h2
 ·omega
 ·by_cases hv : v = 0
  ·omega
  ·have a2 : ¬ bitsLen n ≤ v - 1 := fun h => by
    have := (bitsLen_le_iff n (v - 1)).1 h
    omega
   omega
theorem shrK {n : Nat} (k : Nat) (hk : k ≤ 60) (h : n < 18446744073709551616) : Jz .u64 (n : Int) (k : Int) = ((n / 2 ^ k : Nat) : Int) := by
 unfold Jz
 rw [Int.toNat_natCast, show min k 64 = k by omega, Int.fdiv_eq_ediv_of_nonneg _ (by exact_mod_cast Nat.zero_le _)]
 norm_cast
abbrev xG : List UInt8 := [0, 1, 2, 2, 3, 3, 3, 3, 4, 4, 4, 4, 4, 4, 4, 4, 5, 5, 5, 5, 5, 5, 5, 5, 5, 5, 5, 5, 5, 5, 5, 5, 6, 6, 6, 6, 6, 6, 6, 6, 6, 6, 6, 6, 6, 6, 6, 6, 6, 6, 6, 6, 6, 6, 6, 6, 6, 6, 6, 6, 6, 6, 6, 6, 7, 7, 7, 7, 7, 7, 7, 7, 7, 7, 7, 7, 7, 7, 7, 7, 7, 7, 7, 7, 7, 7, 7, 7, 7, 7, 7, 7, 7, 7, 7, 7, 7, 7, 7, 7, 7, 7, 7, 7, 7, 7, 7, 7, 7, 7, 7, 7, 7, 7, 7, 7, 7, 7, 7, 7, 7, 7, 7, 7, 7, 7, 7, 7, 8, 8, 8, 8, 8, 8, 8, 8, 8, 8, 8, 8, 8, 8, 8, 8, 8, 8, 8, 8, 8, 8, 8, 8, 8, 8, 8, 8, 8, 8, 8, 8, 8, 8, 8, 8, 8, 8, 8, 8, 8, 8, 8, 8, 8, 8, 8, 8, 8, 8, 8, 8, 8, 8, 8, 8, 8, 8, 8, 8, 8, 8, 8, 8, 8, 8, 8, 8, 8, 8, 8, 8, 8, 8, 8, 8, 8, 8, 8, 8, 8, 8, 8, 8, 8, 8, 8, 8, 8, 8, 8, 8, 8, 8, 8, 8, 8, 8, 8, 8, 8, 8, 8, 8, 8, 8, 8, 8, 8, 8, 8, 8, 8, 8, 8, 8, 8, 8, 8, 8, 8, 8, 8, 8, 8, 8, 8, 8]
theorem pX : ∀ x : Fin 256, ∃ v : UInt8, xG[x.1]? = some v ∧ x.1 < 2 ^ v.toNat ∧ (v.toNat = 0 ∨ 2 ^ (v.toNat - 1) ≤ x.1) ∧ (x.1 ≠ 0 → v.toNat ≠ 0) ∧ v.toNat ≤ 8 := by decide +kernel
theorem xD (n off : Nat) (ho : off ≤ 16) (hx : n / 2 ^ off < 256) (h0 : off = 0 ∨ n / 2 ^ off ≠ 0) : Xb ((n / 2 ^ off : Nat) : Int) (off : Int) = some ((bitsLen n : Nat) : Int) := by
 obtain ⟨v, v1, v2, v3, v4, v5⟩ := pX ⟨n / 2 ^ off, hx⟩
 simp only at v1 v2 v3 v4 v5
 have e : (b8 ((n / 2 ^ off : Nat) : Int)).toNat = n / 2 ^ off := by
  rw [XN]
  generalize n / 2 ^ off = x at hx
  omega
 have e2 : Xb ((n / 2 ^ off : Nat) : Int) (off : Int) = (Cg xG ((b8 ((n / 2 ^ off : Nat) : Int)).toNat : Int)).bind fun y10 => some (IntKind.i64.wrap ((off : Int) + (IntKind.i64.wrap ((y10).toNat : Int)))) := rfl
 rw [e2, e, Mq, v1]
 simp only [Option.bind_some]
 rw [wi64 (by omega), AC (by omega) (by omega)]
 congr 2
 refine (AI ?_ ?_).symm
 ·rw [Nat.add_comm, Nat.pow_add]
  exact (Nat.div_lt_iff_lt_mul (Nat.pos_of_ne_zero (by simp))).1 v2
 ·rcases v3 with v3 | v3
  ·rcases h0 with h0 | h0
   ·exact .inl (by omega)
   ·exact absurd v3 (v4 h0)
  ·by_cases hz : v.toNat = 0
   ·rcases h0 with h0 | h0
    ·exact .inl (by omega)
    ·exact absurd hz (v4 h0)
   ·right
    rw [show off + v.toNat - 1 = (v.toNat - 1) + off by omega, Nat.pow_add]
    exact (Nat.le_div_iff_mul_le (Nat.pos_of_ne_zero (by simp))).1 v3
theorem mZ (n : Nat) (h : n < 16777216) : RJ (n : Int) = some ((bitsLen n : Nat) : Int) := by
 have key : Adi (n : Int) = some ((bitsLen n : Nat) : Int) := by
  simp only [Adi]
  rw [if_neg (by simp; omega)]
  simp only [eE]
  have z : ((0 : Nat) : Int) = 0 := rfl
  by_cases h1 : n ≥ 65536
  ·rw [if_pos (decide_eq_true (by omega))]
   have e1 := shrK (n := n) 16 (by omega) (by omega)
   rw [show ((16 : Nat) : Int) = 16 from rfl] at e1
   simp only [e1, Xa]
   rw [if_neg (by simp; omega)]
   have e2 := xD n 16 (by omega) (by omega) (.inr (by omega))
   rw [show ((16 : Nat) : Int) = 16 from rfl] at e2
   rw [← e2, wr ⟨by decide, by decide⟩]; rfl
  ·rw [if_neg (by simp; omega)]
   simp only [Xa]
   by_cases h2 : n ≥ 256
   ·rw [if_pos (decide_eq_true (by omega))]
    have e1 := shrK (n := n) 8 (by omega) (by omega)
    rw [show ((8 : Nat) : Int) = 8 from rfl] at e1
    have e2 := xD n 8 (by omega) (by omega) (.inr (by omega))
    rw [show ((8 : Nat) : Int) = 8 from rfl] at e2
    rw [e1, ← e2, wr ⟨by decide, by decide⟩]; rfl
   ·rw [if_neg (by simp; omega)]
    have e2 := xD n 0 (by omega) (by simp; omega) (.inl rfl)
    simp only [Nat.pow_zero, Nat.div_one] at e2
    rw [z] at e2
    exact e2
 simp only [RJ, Bool.false_eq_true, if_false, key, Option.bind_some]
end Go.Ev
end
section
set_option maxHeartbeats 1000000
namespace Go.Ev
open Go.Sort
variable (c : Ab → Ab → Int)
theorem qX {n : Nat} (h : n < 18446744073709551616) : IntKind.u64.wrap (n : Int) = (n : Int) := by
 have e : IntKind.u64.wrap (n : Int) = (n : Int) % 18446744073709551616 := by simp [IntKind.wrap, IntKind.bits, IntKind.signed]
 rw [e]; omega
theorem wu64m {n : Nat} : IntKind.u64.wrap (n : Int) = ((n % 18446744073709551616 : Nat) : Int) := by
 have e : IntKind.u64.wrap (n : Int) = (n : Int) % 18446744073709551616 := by simp [IntKind.wrap, IntKind.bits, IntKind.signed]
 rw [e]; omega
theorem shlK {n : Nat} (k : Nat) (hk : k ≤ 60) : Ut .u64 (n : Int) (k : Int) = ((n * 2 ^ k % 18446744073709551616 : Nat) : Int) := by
 unfold Ut
 rw [Int.toNat_natCast, show min k IntKind.u64.bits = k from Nat.min_eq_left (Nat.le_trans hk (by decide)), ← wu64m]
 congr 1
theorem zN {a b : Nat} (ha : a < 18446744073709551616) (hb : b < 18446744073709551616) : gZ .u64 (a : Int) (b : Int) = ((a ^^^ b : Nat) : Int) ∧ a ^^^ b < 18446744073709551616 := by
 have h := Nat.xor_lt_two_pow (n := 64) (by simpa using ha) (by simpa using hb)
 have h2 : a ^^^ b < 18446744073709551616 := by simpa using h
 rw [xC .u64 a b (by simpa [IntKind.bits] using ha) (by simpa [IntKind.bits] using hb), qX h2]
 exact ⟨rfl, h2⟩
theorem SD (r : UInt64) : Adk (r.toNat : Int) = some (((xorNext r).toNat : Int), ((xorNext r).toNat : Int)) := by
 have hr : r.toNat < 18446744073709551616 := r.toNat_lt
 rw [xorNext_toNat]
 simp only [Adk, Bd, xorNextN]
 generalize r.toNat = x at *
 have e1 := shlK (n := x) 13 (by omega)
 rw [show ((13 : Nat) : Int) = 13 from rfl, show (2 : Nat) ^ 13 = 8192 from rfl] at e1
 obtain ⟨e2, e3⟩ := zN hr (show x * 8192 % 18446744073709551616 < 18446744073709551616 by omega)
 rw [e1, e2]
 generalize x ^^^ (x * 8192 % 18446744073709551616) = a at *
 have e4 := shrK (n := a) 7 (by omega) e3
 rw [show ((7 : Nat) : Int) = 7 from rfl, show (2 : Nat) ^ 7 = 128 from rfl] at e4
 obtain ⟨e5, e6⟩ := zN e3 (show a / 128 < 18446744073709551616 by omega)
 rw [e4, e5]
 generalize a ^^^ (a / 128) = b at *
 have e7 := shlK (n := b) 17 (by omega)
 rw [show ((17 : Nat) : Int) = 17 from rfl, show (2 : Nat) ^ 17 = 131072 from rfl] at e7
 obtain ⟨e8, e9⟩ := zN e6 (show b * 131072 % 18446744073709551616 < 18446744073709551616 by omega)
 rw [e7, e8]
theorem SC (n : Nat) (h : n ≤ 1048576) : Adj (n : Int) = some ((1 <<< bitsLen n : Nat) : Int) ∧ 1 <<< bitsLen n ≤ 2097152 := by
 have hb : bitsLen n ≤ 21 := (bitsLen_le_iff n 21).2 (by omega)
 have hp : 2 ^ bitsLen n ≤ 2 ^ 21 := Nat.pow_le_pow_right (by omega) hb
 have e := shlK (n := 1) (bitsLen n) (by omega)
 rw [Nat.one_mul, Nat.mod_eq_of_lt (by omega)] at e
 rw [Nat.one_shiftLeft]
 refine ⟨?_, by omega⟩
 simp only [Adj, qX (show n < 18446744073709551616 by omega), mZ n (by omega), Option.bind_some]
 rw [if_pos (by omega)]
 rw [show ((1 : Nat) : Int) = 1 from rfl] at e
 rw [e]
def XQ (a len m : Nat) : Nat → UInt64 × Array Ab → Nat → Array Ab
 | 0, st, _ => st.2
 | n + 1, st, i => XQ a len m n (breakStep a len m st i) (i + 1)
theorem Xv (a len m : Nat) : ∀ (n : Nat) (st : UInt64 × Array Ab) (i : Nat), (XQ a len m n st i).size = st.2.size
 | 0, _, _ => rfl
 | n + 1, st, i => by rw [XQ, Xv]; simp [breakStep, size_swp]
theorem Hq (d : Array Ab) (a b : Nat) (h : b - a ≥ 8) :
  breakPatterns d a b = XQ a (b - a) (1 <<< bitsLen (b - a)) 3 (UInt64.ofNat (b - a), d) (a + ((b - a) / 4) * 2 - 1) := by
 simp only [breakPatterns, if_pos h, XQ]
theorem RR (d : Array Ab) (a b : Nat) (hb : b ≤ d.size) (hs : d.size ≤ 1048576) (hab : a < b) :
  wE d.toList (a : Int) (b : Int) (fC c) = some (breakPatterns d a b).toList ∧ (breakPatterns d a b).size = d.size := by
 have w1 : IntKind.i64.wrap ((b : Int) - (a : Int)) = ((b - a : Nat) : Int) := oA (by omega) (by omega)
 by_cases h8 : b - a ≥ 8
 ·refine ⟨?_, by rw [Hq d a b h8, Xv]⟩
  have w2 : IntKind.i64.wrap (((b - a : Nat) : Int).tdiv 4) = (((b - a) / 4 : Nat) : Int) := sdv 4 (by omega)
  have m2 : IntKind.i64.wrap ((((b - a) / 4 : Nat) : Int) * 2) = (((b - a) / 4 * 2 : Nat) : Int) := sml 2 (by omega) (by omega)
  have n2 : IntKind.i64.wrap ((a : Int) + (((b - a) / 4 * 2 : Nat) : Int)) = ((a + (b - a) / 4 * 2 : Nat) : Int) := AC (by omega) (by omega)
  have n3 : IntKind.i64.wrap (((a + (b - a) / 4 * 2 : Nat) : Int) - 1) = ((a + (b - a) / 4 * 2 - 1 : Nat) : Int) := cM (by omega) (by omega)
  have n4 : IntKind.i64.wrap (((a + (b - a) / 4 * 2 : Nat) : Int) + 1) = ((a + (b - a) / 4 * 2 + 1 : Nat) : Int) := aE (by omega)
  obtain ⟨p1, p2⟩ := SC (b - a) (by omega)
  have p3 : 1 <<< bitsLen (b - a) ≤ 2 * (b - a) := by rw [Nat.one_shiftLeft]; exact two_pow_bitsLen_le (by omega)
  have p4 : 1 ≤ 1 <<< bitsLen (b - a) := by rw [Nat.one_shiftLeft]; exact Nat.one_le_two_pow
  rw [Hq d a b h8]
  simp only [wE, w1, w2, m2, n2, n3, Bd]
  rw [if_pos (decide_eq_true (by omega)), p1]
  simp only [Option.bind_some, qX (show b - a < 18446744073709551616 by omega)]
  generalize 1 <<< bitsLen (b - a) = m at *
  have L := Ja (step := dS (a : Int) (b : Int) (m : Int)) (fun t : (Array Ab × UInt64) × Nat => (t.1.1.toList, ((a + (b - a) / 4 * 2 - 1 + (3 - t.2) : Nat) : Int), (t.1.2.toNat : Int))) (fun t => t.1.1.size = d.size ∧ t.2 ≤ 3) (fun t => t.2)
   (fun t => (XQ a (b - a) m t.2 (t.1.2, t.1.1) (a + (b - a) / 4 * 2 - 1 + (3 - t.2))).toList) (by
   rintro ⟨⟨e, r⟩, n⟩ ⟨he, hn⟩
   simp only at he hn
   simp only [dS, w1, w2, m2, n2, n4, Bd]
   cases n with
   | zero =>
    rw [if_neg (by simp; omega)]
    exact .inr rfl
   | succ n =>
    rw [if_pos (decide_eq_true (by omega)), SD]
    simp only [Option.bind_some]
    have k1 : IntKind.u64.wrap ((m : Int) - 1) = ((m - 1 : Nat) : Int) := by
     rw [show (m : Int) - 1 = ((m - 1 : Nat) : Int) by omega, qX (by omega)]
    have hr : (xorNext r).toNat < 18446744073709551616 := (xorNext r).toNat_lt
    have hx : (xorNext r).toNat &&& (m - 1) ≤ m - 1 := Nat.and_le_right
    have k2 : Sz .u64 ((xorNext r).toNat : Int) ((m - 1 : Nat) : Int) = (((xorNext r).toNat &&& (m - 1) : Nat) : Int) := by
     rw [wT .u64 _ _ (by simpa [IntKind.bits] using hr) (by simp [IntKind.bits]; omega), qX (by omega)]
    rw [k1, k2, wi64 (by omega)]
    have i1 : a + (b - a) / 4 * 2 - 1 + (3 - (n + 1)) < e.size := by omega
    have hj : ∀ o : Nat, o < b - a → (if (xorNext r).toNat &&& (m - 1) ≥ b - a then ((xorNext r).toNat &&& (m - 1)) - (b - a) else (xorNext r).toNat &&& (m - 1)) = o →
      Wu (a : Int) e.toList ((a + (b - a) / 4 * 2 - 1 + (3 - (n + 1)) : Nat) : Int) (((xorNext r).toNat : Int), ((xorNext r).toNat : Int)) (o : Int) =
       some (.inl ((breakStep a (b - a) m (r, e) (a + (b - a) / 4 * 2 - 1 + (3 - (n + 1)))).2.toList, ((a + (b - a) / 4 * 2 - 1 + (3 - n) : Nat) : Int), (((breakStep a (b - a) m (r, e) (a + (b - a) / 4 * 2 - 1 + (3 - (n + 1)))).1.toNat : Nat) : Int))) := by
     intro o ho heq
     have i2 : a + o < e.size := by omega
     have i3 : a + o < (e.setIfInBounds (a + (b - a) / 4 * 2 - 1 + (3 - (n + 1))) e[a + o]!).size := by simpa using i2
     simp only [Wu, AC (show a ≤ 2305843009213693952 by omega) (show o ≤ 2305843009213693952 by omega), Hk i1, Hk i2, Int.toNat_natCast, Ht i1, Ht i2, Option.bind_some, lO, Hk i3, Ht i3, lS, breakStep, heq, aE (show a + (b - a) / 4 * 2 - 1 + (3 - (n + 1)) ≤ 4611686018427387904 by omega)]
     rw [show a + (b - a) / 4 * 2 - 1 + (3 - (n + 1)) + 1 = a + (b - a) / 4 * 2 - 1 + (3 - n) by omega]
    refine .inl ⟨(((breakStep a (b - a) m (r, e) (a + (b - a) / 4 * 2 - 1 + (3 - (n + 1)))).2, (breakStep a (b - a) m (r, e) (a + (b - a) / 4 * 2 - 1 + (3 - (n + 1)))).1), n), ?_, ⟨by simp [breakStep, size_swp, he], by simp only; omega⟩, ?_, by simp⟩
    ·by_cases hge : (xorNext r).toNat &&& (m - 1) ≥ b - a
     ·rw [if_pos (decide_eq_true (by omega)), oA (by omega) (by omega)]
      exact hj _ (by omega) (by rw [if_pos hge])
     ·rw [if_neg (by simpa using hge)]
      exact hj _ (by omega) (by rw [if_neg hge])
    ·simp only [XQ]
     rw [show a + (b - a) / 4 * 2 - 1 + (3 - (n + 1)) + 1 = a + (b - a) / 4 * 2 - 1 + (3 - n) by omega]) ((d, UInt64.ofNat (b - a)), 3) ⟨rfl, Nat.le_refl _⟩
  simp only [Nat.sub_self, Nat.add_zero] at L
  rw [show ((UInt64.ofNat (b - a)).toNat : Int) = ((b - a : Nat) : Int) by rw [UInt64.toNat_ofNat']; rw [Nat.mod_eq_of_lt (by omega)]] at L
  rw [L]
  rfl
 ·simp only [wE, w1]
  rw [if_neg (by simp; omega)]
  simp [breakPatterns, h8]
end Go.Ev
end
section
set_option maxHeartbeats 1000000
namespace Go.Ev
open Go.Sort
variable (c : Ab → Ab → Int)
theorem Qs (a b : Nat) : ∀ (n i : Nat) (d : Array Ab), b - i ≤ n → (insOuter (lC c) a b i d).size = d.size
 | 0, i, d, h => by unfold insOuter; rw [if_neg (by omega)]
 | n + 1, i, d, h => by
  unfold insOuter
  split
  ·rw [Qs a b n _ _ (by omega), Lj]
  ·rfl
theorem Fo (d : Array Ab) (a b : Nat) : (insertionSort (lC c) d a b).size = d.size := Qs c a b _ _ d (Nat.le_refl _)
theorem Qr (d : Array Ab) (a b : Nat) : (heapSort (lC c) d a b).size = d.size := by rw [heapSort, Sx, Jx]
theorem Fm (d : Array Ab) (a b : Nat) : (breakPatterns d a b).size = d.size := by
 by_cases h : b - a ≥ 8
 ·rw [Hq d a b h, Xv]
 ·simp [breakPatterns, h]
theorem Gc (d : Array Ab) (a b : Nat) : (reverseRange d a b).size = d.size := Mc _ _ _ d (Nat.le_refl _)
theorem Gg (d : Array Ab) (a b : Nat) : (partialInsertionSort (lC c) d a b).1.size = d.size := Ng c a b _ _ d
theorem Vq (d : Array Ab) (a b p : Nat) : (partitionEqual (lC c) d a b p).2.size = d.size := by rw [partitionEqual, Iw c a _ _ _ _ (Nat.le_refl _), size_swp]
theorem Ma (d : Array Ab) (a b p : Nat) : (partition (lC c) d a b p).2.2.size = d.size := by
 rw [partition_arr, size_swp, (Lk c a _ _ _ _ (Nat.le_refl _)).1, size_swp]
theorem Rq (d : Array Ab) (a b p : Nat) (hab : a < b) (hb : b ≤ d.size) : a ≤ (partition (lC c) d a b p).1 ∧ (partition (lC c) d a b p).1 < b := by
 rw [partition_fst]
 obtain ⟨r1, r2, _⟩ := partLoop_spec (lC c) a b _ (a + 1) (b - 1) (swp d a p) (Nat.le_refl _) (Nat.lt_succ_self a) (by omega) (by omega) (by rw [size_swp]; exact hb) (fun t h1 h2 => by omega) (fun t h1 h2 => by omega)
 exact ⟨r1, r2⟩
theorem Tn (d : Array Ab) (a b p : Nat) (hab : a < b) (hb : b ≤ d.size) : a < (partitionEqual (lC c) d a b p).1 ∧ (partitionEqual (lC c) d a b p).1 ≤ b := by
 rw [partitionEqual]
 obtain ⟨r1, r2, _⟩ := partEqLoop_spec (lC c) a b _ (a + 1) (b - 1) (swp d a p) (Nat.le_refl _) (Nat.lt_succ_self a) (by omega) (by omega) (by rw [size_swp]; exact hb) (fun t h1 h2 => by omega) (fun t h1 h2 => by omega)
 exact ⟨r1, r2⟩
def Gx (d3 : Array Ab) (a b limit p : Nat) (wb wp : Bool) : Array Ab × Nat × Nat × Nat × Bool × Bool :=
 if (decide (a > 0) && !lC c d3[a - 1]! d3[p]!) = true then ((partitionEqual (lC c) d3 a b p).2, (partitionEqual (lC c) d3 a b p).1, b, limit, wb, wp)
 else
  let r := partition (lC c) d3 a b p
  if r.1 - a < b - r.1 then (pdq (lC c) r.2.2 a r.1 limit true true, r.1 + 1, b, limit, decide (r.1 - a ≥ (b - a) / 8), r.2.1)
  else (pdq (lC c) r.2.2 (r.1 + 1) b limit true true, a, r.1, limit, decide (b - r.1 ≥ (b - a) / 8), r.2.1)
abbrev fI (t : Array Ab × Nat × Nat × Nat × Bool × Bool) : Array Ab := pdq (lC c) t.1 t.2.1 t.2.2.1 t.2.2.2.1 t.2.2.2.2.1 t.2.2.2.2.2
theorem cJ (d : Array Ab) (a b limit : Nat) (wb wp : Bool) (h12 : ¬ b - a ≤ 12) (hl : limit ≠ 0) (hb : b ≤ d.size) :
  ∃ d1 d2 : Array Ab, ∃ lim p : Nat, ∃ h : Hint, d1 = (if (!wb) = true then breakPatterns d a b else d) ∧ lim = (if (!wb) = true then limit - 1 else limit) ∧
   d2 = (if (choosePivot (lC c) d1 a b).2 = .decreasing then reverseRange d1 a b else d1) ∧ p = (if (choosePivot (lC c) d1 a b).2 = .decreasing then (b - 1) - ((choosePivot (lC c) d1 a b).1 - a) else (choosePivot (lC c) d1 a b).1) ∧
   h = (if (choosePivot (lC c) d1 a b).2 = .decreasing then Hint.increasing else (choosePivot (lC c) d1 a b).2) ∧
   pdq (lC c) d a b limit wb wp = (if (wb && wp && decide (h = .increasing)) = true then (if (partialInsertionSort (lC c) d2 a b).2 = true then (partialInsertionSort (lC c) d2 a b).1 else fI c (Gx c (partialInsertionSort (lC c) d2 a b).1 a b lim p wb wp)) else fI c (Gx c d2 a b lim p wb wp)) := by
 refine ⟨_, _, _, _, _, rfl, rfl, rfl, rfl, rfl, ?_⟩
 have z1 : (if (!wb) = true then breakPatterns d a b else d).size = d.size := by split <;> simp [Fm]
 conv => lhs; unfold pdq
 rw [if_neg h12, if_neg hl]
 simp only []
 generalize hd1 : (if (!wb) = true then breakPatterns d a b else d) = d1 at z1 ⊢
 generalize (if (!wb) = true then limit - 1 else limit) = lim
 have z2 : (if (choosePivot (lC c) d1 a b).2 = .decreasing then reverseRange d1 a b else d1).size = d.size := by split <;> simp [Gc, z1]
 generalize (if (choosePivot (lC c) d1 a b).2 = .decreasing then reverseRange d1 a b else d1) = d2 at z2 ⊢
 generalize (if (choosePivot (lC c) d1 a b).2 = .decreasing then (b - 1) - ((choosePivot (lC c) d1 a b).1 - a) else (choosePivot (lC c) d1 a b).1) = p
 generalize (if (choosePivot (lC c) d1 a b).2 = .decreasing then Hint.increasing else (choosePivot (lC c) d1 a b).2) = h
 have key : ∀ d3 : Array Ab, b ≤ d3.size → (if (decide (a > 0) && !lC c d3[a - 1]! d3[p]!) = true then
   match partitionEqual (lC c) d3 a b p with
   | (mid, d4) => if _h : a < mid ∧ mid ≤ b then pdq (lC c) d4 mid b lim wb wp else d4
  else
   match partition (lC c) d3 a b p with
   | (mid, alreadyPartitioned, d4) =>
    if _h : a ≤ mid ∧ mid < b then
     if mid - a < b - mid then
      pdq (lC c) (pdq (lC c) d4 a mid lim true true) (mid + 1) b lim (decide (mid - a ≥ (b - a) / 8)) alreadyPartitioned
     else
      pdq (lC c) (pdq (lC c) d4 (mid + 1) b lim true true) a mid lim (decide (b - mid ≥ (b - a) / 8)) alreadyPartitioned
    else d4) = fI c (Gx c d3 a b lim p wb wp) := by
  intro d3 hd3
  have r1 := Rq c d3 a b p (by omega) hd3
  have r2 := Tn c d3 a b p (by omega) hd3
  unfold Gx
  split
  ·generalize partitionEqual (lC c) d3 a b p = r at r2 ⊢
   obtain ⟨m, d4⟩ := r
   exact dif_pos r2
  ·generalize partition (lC c) d3 a b p = r at r1 ⊢
   obtain ⟨m, q, d4⟩ := r
   refine (dif_pos r1).trans ?_
   simp only []
   split <;> rfl
 by_cases hw : (wb && wp && decide (h = .increasing)) = true
 ·rw [if_pos hw, if_pos hw]
  split
  ·rfl
  ·exact key _ (by rw [Gg]; omega)
 ·rw [if_neg hw, if_neg hw, if_neg (by simp)]
  exact key d2 (by omega)
theorem Vs (d3 : Array Ab) (a b limit p : Nat) (wb wp : Bool) (hab : a < b) (hb : b ≤ d3.size) (hsz : ∀ (e : Array Ab) x y, y - x < b - a → y ≤ e.size → (pdq (lC c) e x y limit true true).size = e.size) :
  (Gx c d3 a b limit p wb wp).1.size = d3.size ∧ (Gx c d3 a b limit p wb wp).2.1 ≤ (Gx c d3 a b limit p wb wp).2.2.1 ∧ (Gx c d3 a b limit p wb wp).2.2.1 ≤ d3.size ∧
   (Gx c d3 a b limit p wb wp).2.2.1 - (Gx c d3 a b limit p wb wp).2.1 < b - a ∧ (Gx c d3 a b limit p wb wp).2.2.2.1 = limit := by
 have r1 := Rq c d3 a b p hab hb
 have r2 := Tn c d3 a b p hab hb
 unfold Gx
 split
 ·exact ⟨Vq c _ _ _ _, r2.2, hb, by simp only; omega, rfl⟩
 ·simp only []
  split
  ·exact ⟨by rw [hsz _ _ _ (by omega) (by rw [Ma]; omega), Ma], by simp only; omega, hb, by simp only; omega, rfl⟩
  ·exact ⟨by rw [hsz _ _ _ (by omega) (by rw [Ma]; omega), Ma], by simp only; omega, by simp only; omega, by simp only; omega, rfl⟩
theorem Tp : ∀ (n : Nat) (d : Array Ab) (a b limit : Nat) (wb wp : Bool), b - a ≤ n → b ≤ d.size → (pdq (lC c) d a b limit wb wp).size = d.size := by
 intro n
 induction n with
 | zero =>
  intro d a b limit wb wp hn hb
  unfold pdq
  rw [if_pos (by omega), Fo]
 | succ n ih =>
  intro d a b limit wb wp hn hb
  by_cases h12 : b - a ≤ 12
  ·unfold pdq
   rw [if_pos h12, Fo]
  ·by_cases hl : limit = 0
   ·unfold pdq
    rw [if_neg h12, if_pos hl, Qr]
   ·obtain ⟨d1, d2, lim, p, h, e1, e2, e3, e4, e5, e6⟩ := cJ c d a b limit wb wp h12 hl hb
    have z1 : d1.size = d.size := by rw [e1]; split <;> simp [Fm]
    have z2 : d2.size = d.size := by rw [e3]; split <;> simp [Gc, z1]
    have key : ∀ d3 : Array Ab, d3.size = d.size → (fI c (Gx c d3 a b lim p wb wp)).size = d.size := by
     intro d3 z3
     obtain ⟨f1, f2, f3, f4, f5⟩ := Vs c d3 a b lim p wb wp (by omega) (by omega) (fun e x y h1 h2 => ih e x y lim true true (by omega) h2)
     rw [fI, ih _ _ _ _ _ _ (by omega) (by omega), f1, z3]
    rw [e6]
    split
    ·split
     ·rw [Gg, z2]
     ·exact key _ (by rw [Gg, z2])
    ·exact key _ z2
end Go.Ev
end
section
set_option maxHeartbeats 1000000
namespace Go.Ev
open Go.Sort
variable (c : Ab → Ab → Int)
abbrev iI (t : Array Ab × Nat × Nat × Nat × Bool × Bool) : List Ab × Int × Int × Int × Bool × Bool := (t.1.toList, (t.2.1 : Int), (t.2.2.1 : Int), (t.2.2.2.1 : Int), t.2.2.2.2.1, t.2.2.2.2.2)
abbrev Xr (n : Nat) (rc : List Ab → Int → Int → Int → (Ab → Ab → Option Int) → Option (List Ab)) : Prop :=
 ∀ (e : Array Ab) (x y lim : Nat), x ≤ y → y ≤ e.size → e.size ≤ 1048576 → y - x ≤ n + 12 → lim ≤ 64 → rc e.toList (x : Int) (y : Int) (lim : Int) (fC c) = some (pdq (lC c) e x y lim true true).toList
theorem Yj {n : Nat} {rc} (hrc : Xr c n rc) (d3 : Array Ab) (a b lim p : Nat) (wb wp : Bool) (hab : a + 12 < b) (hb : b ≤ d3.size) (hs : d3.size ≤ 1048576) (hp : a ≤ p) (hpb : p < b) (hn : b - a ≤ n + 13) (hl : lim ≤ 64) :
  Wq (fC c) rc (a : Int) (b : Int) wb wp (lim : Int) (p : Int) d3.toList = some (.inl (iI (Gx c d3 a b lim p wb wp))) := by
 have i2 : p < d3.size := by omega
 have hpart : (decide (a > 0) && !lC c d3[a - 1]! d3[p]!) = false → (RZ d3.toList (a : Int) (b : Int) (p : Int) (fC c)).bind (fun r180 =>
   if r180.2.2.length = d3.toList.length then
    Bd ((decide ((IntKind.i64.wrap (r180.1 - (a : Int))) < (IntKind.i64.wrap ((b : Int) - r180.1))))) fun v183 =>
    if v183 = true then
    Bd ((decide ((IntKind.i64.wrap (r180.1 - (a : Int))) ≥ (IntKind.i64.wrap (((IntKind.i64.wrap ((b : Int) - (a : Int)))).tdiv 8))))) fun v186 =>
    (rc r180.2.2 (a : Int) r180.1 (lim : Int) (fC c)).bind fun r188 =>
    if r188.length = r180.2.2.length then
    some (.inl (r188, (IntKind.i64.wrap (r180.1 + 1)), (b : Int), (lim : Int), v186, r180.2.1))
    else none
    else
    Bd ((decide ((IntKind.i64.wrap ((b : Int) - r180.1)) ≥ (IntKind.i64.wrap (((IntKind.i64.wrap ((b : Int) - (a : Int)))).tdiv 8))))) fun v191 =>
    (rc r180.2.2 (IntKind.i64.wrap (r180.1 + 1)) (b : Int) (lim : Int) (fC c)).bind fun r193 =>
    if r193.length = r180.2.2.length then
    some (.inl (r193, (a : Int), r180.1, (lim : Int), v191, r180.2.1))
    else none
   else none : _ → Option ((List Ab × Int × Int × Int × Bool × Bool) ⊕ List Ab)) = some (.inl (iI (Gx c d3 a b lim p wb wp))) := by
  intro hc
  have r1 := Rq c d3 a b p (by omega) hb
  have r2 := Ma c d3 a b p
  rw [(SA c d3 a b p hb hs (by omega) hpb).1]
  unfold Gx
  rw [if_neg (by rw [hc]; simp)]
  simp only [Option.bind_some]
  generalize partition (lC c) d3 a b p = r at *
  obtain ⟨m, q, d4⟩ := r
  simp only at r1 r2 ⊢
  rw [if_pos (by simp [r2])]
  have w1 : IntKind.i64.wrap ((m : Int) - (a : Int)) = ((m - a : Nat) : Int) := oA (by omega) (by omega)
  have w2 : IntKind.i64.wrap ((b : Int) - (m : Int)) = ((b - m : Nat) : Int) := oA (by omega) (by omega)
  have w3 : IntKind.i64.wrap ((b : Int) - (a : Int)) = ((b - a : Nat) : Int) := oA (by omega) (by omega)
  have w4 : IntKind.i64.wrap (((b - a : Nat) : Int).tdiv 8) = (((b - a) / 8 : Nat) : Int) := sdv 8 (by omega)
  simp only [w1, w2, w3, w4, Bd]
  by_cases h : m - a < b - m
  ·rw [if_pos (decide_eq_true (by omega)), if_pos h, hrc d4 a m lim (by omega) (by omega) (by omega) (by omega) hl]
   simp only [Option.bind_some, aE (show m ≤ 4611686018427387904 by omega)]
   rw [if_pos (by have := Tp c _ d4 a m lim true true (Nat.le_refl _) (by omega); simpa using this)]
   have hdec : decide (((m - a : Nat) : Int) ≥ (((b - a) / 8 : Nat) : Int)) = decide (m - a ≥ (b - a) / 8) := decide_eq_decide.2 ⟨fun h => Int.ofNat_le.1 h, fun h => Int.ofNat_le.2 h⟩
   rw [hdec]
  ·rw [if_neg (by simp; omega), if_neg h, aE (show m ≤ 4611686018427387904 by omega), hrc d4 (m + 1) b lim (by omega) (by omega) (by omega) (by omega) hl]
   simp only [Option.bind_some]
   rw [if_pos (by have := Tp c _ d4 (m + 1) b lim true true (Nat.le_refl _) (by omega); simpa using this)]
   have hdec : decide (((b - m : Nat) : Int) ≥ (((b - a) / 8 : Nat) : Int)) = decide (b - m ≥ (b - a) / 8) := decide_eq_decide.2 ⟨fun h => Int.ofNat_le.1 h, fun h => Int.ofNat_le.2 h⟩
   rw [hdec]
 simp only [Wq]
 by_cases ha : 0 < a
 ·have i1 : a - 1 < d3.size := by omega
  have e1 : decide ((a : Int) > 0) = true := decide_eq_true (by omega)
  simp only [e1, beq_self_eq_true, if_true, cM (show a ≤ 4611686018427387904 by omega) ha, Hk i1, Hk i2, Int.toNat_natCast, Ht i1, Ht i2, Option.bind_some, cond_true]
  by_cases h : c d3[a - 1]! d3[p]! < 0
  ·rw [if_neg (by simpa using h)]
   exact hpart (by simp [h])
  ·rw [if_pos (by simpa using h), (RY c d3 a b p hb hs (by omega) hpb).1]
   have z := Vq c d3 a b p
   simp only [Option.bind_some]
   rw [if_pos (by simpa using z)]
   unfold Gx
   rw [if_pos (by simp [ha]; omega)]
 ·have e1 : decide ((a : Int) > 0) = false := decide_eq_false (by omega)
  simp only [e1, show (false == true) = false from rfl, Bool.false_eq_true, if_false, Option.bind_some, cond_false]
  exact hpart (by simp [ha])
theorem wR (h : Hint) : (Za h == 2) = decide (h = .decreasing) := by cases h <;> rfl
theorem wQ (h : Hint) : (Za h == 1) = decide (h = .increasing) := by cases h <;> rfl
theorem kB {n : Nat} {rc} (hrc : Xr c n rc) (d2 : Array Ab) (a b lim p : Nat) (h : Hint) (wb wp : Bool) (hab : a + 12 < b) (hb : b ≤ d2.size) (hs : d2.size ≤ 1048576) (hp : a ≤ p) (hpb : p < b) (hn : b - a ≤ n + 13) (hl : lim ≤ 64) :
  Si (fC c) rc (a : Int) (b : Int) wb wp (lim : Int) d2.toList (p : Int) (Za h) =
   (if (wb && wp && decide (h = .increasing)) = true then (if (partialInsertionSort (lC c) d2 a b).2 = true then some (.inr (partialInsertionSort (lC c) d2 a b).1.toList) else some (.inl (iI (Gx c (partialInsertionSort (lC c) d2 a b).1 a b lim p wb wp)))) else some (.inl (iI (Gx c d2 a b lim p wb wp)))) := by
 have e : (bif (bif wb then wp else false) then (Za h == 1) else false) = (wb && wp && decide (h = .increasing)) := by rw [wQ]; cases wb <;> cases wp <;> rfl
 simp only [Si, e]
 by_cases hw : (wb && wp && decide (h = .increasing)) = true
 ·rw [if_pos hw, if_pos hw, RX c d2 a b hb hs (by omega)]
  have z := Gg c d2 a b
  simp only [Option.bind_some]
  rw [if_pos (by simpa using z)]
  by_cases hi : (partialInsertionSort (lC c) d2 a b).2 = true
  ·rw [if_pos hi, if_pos hi]
  ·rw [if_neg hi, if_neg hi]
   exact Yj c hrc _ a b lim p wb wp hab (by omega) (by omega) hp hpb hn hl
 ·rw [if_neg hw, if_neg hw]
  exact Yj c hrc _ a b lim p wb wp hab (by omega) (by omega) hp hpb hn hl
theorem pN {n : Nat} {rc} (hrc : Xr c n rc) (d : Array Ab) (a b limit : Nat) (wb wp : Bool) (hab : a ≤ b) (hb : b ≤ d.size) (hs : d.size ≤ 1048576) (hn : b - a ≤ n + 13) (hl : limit ≤ 64) :
  (∃ t : Array Ab × Nat × Nat × Nat × Bool × Bool, Kt (fC c) rc (d.toList, (a : Int), (b : Int), (limit : Int), wb, wp) = some (.inl (iI t)) ∧
   (t.1.size = d.size ∧ t.2.1 ≤ t.2.2.1 ∧ t.2.2.1 ≤ d.size ∧ t.2.2.1 - t.2.1 < b - a ∧ t.2.2.2.1 ≤ 64) ∧ fI c t = pdq (lC c) d a b limit wb wp) ∨
  Kt (fC c) rc (d.toList, (a : Int), (b : Int), (limit : Int), wb, wp) = some (.inr (pdq (lC c) d a b limit wb wp).toList) := by
 have w1 : IntKind.i64.wrap ((b : Int) - (a : Int)) = ((b - a : Nat) : Int) := oA (by omega) (by omega)
 simp only [Kt, w1]
 by_cases h12 : b - a ≤ 12
 ·right
  rw [if_pos (decide_eq_true (by omega)), nA c d a b hb hs hab]
  have z := Fo c d a b
  simp only [Option.bind_some]
  rw [if_pos (by simpa using z)]
  unfold pdq
  rw [if_pos h12]
 ·rw [if_neg (by simp; omega)]
  by_cases h0 : limit = 0
  ·right
   rw [if_pos (by simp [h0]), RN c d a b hb hs (by omega)]
   have z := Qr c d a b
   simp only [Option.bind_some]
   rw [if_pos (by simpa using z)]
   unfold pdq
   rw [if_neg h12, if_pos h0]
  ·rw [if_neg (by simp; omega)]
   obtain ⟨d1, d2, lim, p, h, e1, e2, e3, e4, e5, e6⟩ := cJ c d a b limit wb wp h12 h0 hb
   have z1 : d1.size = d.size := by rw [e1]; split <;> simp [Fm]
   have z2 : d2.size = d.size := by rw [e3]; split <;> simp [Gc, z1]
   have hlim : lim ≤ 64 := by rw [e2]; split <;> omega
   have k0 : (if (!wb) = true then (wE d.toList (a : Int) (b : Int) (fC c)).bind (fun r211 => if r211.length = d.toList.length then Mm (fC c) rc (a : Int) (b : Int) wb wp r211 (IntKind.i64.wrap ((limit : Int) - 1)) else none) else Mm (fC c) rc (a : Int) (b : Int) wb wp d.toList (limit : Int)) = Mm (fC c) rc (a : Int) (b : Int) wb wp d1.toList (lim : Int) := by
    rw [e1, e2]
    by_cases hw : (!wb) = true
    ·rw [if_pos hw, if_pos hw, if_pos hw, (RR c d a b hb hs (by omega)).1]
     simp only [Option.bind_some]
     rw [if_pos (by simp [Fm]), cM (by omega) (by omega)]
    ·rw [if_neg hw, if_neg hw, if_neg hw]
   rw [k0]
   have cp := choosePivot_holds (lC c) d1 a b (by omega)
   have k1 : Mm (fC c) rc (a : Int) (b : Int) wb wp d1.toList (lim : Int) = Si (fC c) rc (a : Int) (b : Int) wb wp (lim : Int) d2.toList (p : Int) (Za h) := by
    simp only [Mm]
    rw [RS c d1 a b (by omega) (by omega) (by omega)]
    simp only [Option.bind_some, wR]
    rw [e3, e4, e5]
    generalize choosePivot (lC c) d1 a b = r at cp ⊢
    by_cases hd : r.2 = .decreasing
    ·rw [if_pos (decide_eq_true hd), if_pos hd, if_pos hd, if_pos hd, RU c d1 a b (by omega) (by omega) (by omega)]
     simp only [Option.bind_some, Bd]
     rw [if_pos (by simp [Gc]), cM (by omega) (by omega), oA (show r.1 ≤ 2305843009213693952 by omega) cp.1, oA (by omega) (by omega)]
     rfl
    ·rw [if_neg (by simpa using hd), if_neg hd, if_neg hd, if_neg hd]
   have hp : a ≤ p ∧ p < b := by rw [e4]; split <;> omega
   rw [k1, kB c hrc d2 a b lim p h wb wp (by omega) (by omega) (by omega) hp.1 hp.2 hn hlim]
   have key : ∀ d3 : Array Ab, d3.size = d.size → fI c (Gx c d3 a b lim p wb wp) = pdq (lC c) d a b limit wb wp →
     ∃ t : Array Ab × Nat × Nat × Nat × Bool × Bool, (some (.inl (iI (Gx c d3 a b lim p wb wp))) : Option ((List Ab × Int × Int × Int × Bool × Bool) ⊕ List Ab)) = some (.inl (iI t)) ∧
      (t.1.size = d.size ∧ t.2.1 ≤ t.2.2.1 ∧ t.2.2.1 ≤ d.size ∧ t.2.2.1 - t.2.1 < b - a ∧ t.2.2.2.1 ≤ 64) ∧ fI c t = pdq (lC c) d a b limit wb wp := by
    intro d3 z3 ht
    obtain ⟨f1, f2, f3, f4, f5⟩ := Vs c d3 a b lim p wb wp (by omega) (by omega) (fun e x y h1 h2 => Tp c _ e x y lim true true (Nat.le_refl _) h2)
    exact ⟨_, rfl, ⟨by omega, f2, by omega, f4, by omega⟩, ht⟩
   by_cases hw : (wb && wp && decide (h = .increasing)) = true
   ·rw [if_pos hw] at e6 ⊢
    by_cases hi : (partialInsertionSort (lC c) d2 a b).2 = true
    ·rw [if_pos hi] at e6 ⊢
     right; rw [e6]
    ·rw [if_neg hi] at e6 ⊢
     exact .inl (key _ (by rw [Gg, z2]) e6.symm)
   ·rw [if_neg hw] at e6 ⊢
    exact .inl (key _ z2 e6.symm)
theorem pM {n : Nat} {rc} (hrc : Xr c n rc) : Xr c (n + 1) (Yi rc) := by
 intro e x y lim hxy hy hs hn hl
 have L := Ja (step := Kt (fC c) rc) iI (fun t => t.1.size = e.size ∧ t.2.1 ≤ t.2.2.1 ∧ t.2.2.1 ≤ e.size ∧ t.2.2.1 - t.2.1 ≤ n + 13 ∧ t.2.2.2.1 ≤ 64) (fun t => t.2.2.1 - t.2.1) (fun t => (fI c t).toList) (by
  rintro ⟨d, a, b, limit, wb, wp⟩ ⟨h1, h2, h3, h4, h5⟩
  simp only at h1 h2 h3 h4 h5
  rcases pN c hrc d a b limit wb wp h2 (by omega) (by omega) h4 h5 with ⟨t, t1, t2, t3⟩ | t1
  ·exact .inl ⟨t, t1, ⟨by omega, t2.2.1, by omega, by omega, t2.2.2.2.2⟩, by rw [t3], t2.2.2.2.1⟩
  ·exact .inr t1) (e, x, y, lim, true, true) ⟨rfl, hxy, hy, hn, hl⟩
 simp only [Yi]
 have L' : Bm (Kt (fC c) rc) (e.toList, (x : Int), (y : Int), (lim : Int), true, true) = some (pdq (lC c) e x y lim true true).toList := L
 rw [L']
 rfl
theorem mY : ∀ n, Xr c n (RI (n + 1))
 | 0 => by
  have h : Xr c 0 (Yi (RI 0)) := by
   intro e x y lim hxy hy hs hn hl
   have L : Bm (Kt (fC c) (RI 0)) (e.toList, (x : Int), (y : Int), (lim : Int), true, true) = some (pdq (lC c) e x y lim true true).toList := by
    refine Dg ?_
    have w1 : IntKind.i64.wrap ((y : Int) - (x : Int)) = ((y - x : Nat) : Int) := oA (by omega) (by omega)
    simp only [Kt, w1]
    rw [if_pos (decide_eq_true (by omega)), nA c e x y hy hs hxy]
    have z := Fo c e x y
    simp only [Option.bind_some]
    rw [if_pos (by simpa using z)]
    unfold pdq
    rw [if_pos (by omega)]
   simp only [Yi, L]
   rfl
  exact h
 | n + 1 => pM c (mY n)
theorem QX (l : List Ab) (hl : l.length ≤ 1048576) : QW l (fC c) = some (Go.Sort.sort (lC c) l.toArray).toList := by
 have hb : bitsLen l.length ≤ 21 := (bitsLen_le_iff _ 21).2 (by omega)
 simp only [QW, qX (show l.length < 18446744073709551616 by omega), mZ l.length (by omega), Option.bind_some]
 have h := mY c 1048575 l.toArray 0 l.length (bitsLen l.length) (by omega) (by simp) (by simp; omega) (by omega) (by omega)
 rw [show ((0 : Nat) : Int) = 0 from rfl, show l.toArray.toList = l from rfl] at h
 rw [show Oe = 1048575 + 1 from rfl, h]
 have z := Tp c _ l.toArray 0 l.length (bitsLen l.length) true true (Nat.le_refl _) (by simp)
 simp only [Option.bind_some]
 rw [if_pos (by simpa using z)]
 rfl
end Go.Ev
end
section
namespace Go.Ev
theorem mU (a b : Int) : pK a b = some (if a < b then -1 else if b < a then 1 else 0) := by
 simp only [pK, gQ, Option.bind_some]
 simp
 split
 ·rfl
 ·split <;> rfl
theorem vY (a b : Int) : AcX [a, b] = some (if a = 0 then b else a) := by
 have s0 : Wl [a, b] 0 = if (a != 0) = true then some (.inr (.inr a)) else some (.inl 1) := rfl
 have s1 : Wl [a, b] 1 = if (b != 0) = true then some (.inr (.inr b)) else some (.inl 2) := rfl
 have s2 : Wl [a, b] 2 = some (.inr (.inl ())) := rfl
 simp only [AcX]
 by_cases ha : a = 0
 ·by_cases hb : b = 0
  ·rw [De (s' := 1) (by rw [s0, if_neg (by simp [ha])]), De (s' := 2) (by rw [s1, if_neg (by simp [hb])]), Dg (r := .inl ()) s2]
   simp [ha, hb]
  ·rw [De (s' := 1) (by rw [s0, if_neg (by simp [ha])]), Dg (r := .inr b) (by rw [s1, if_pos (by simp [hb])])]
   simp [ha]
 ·rw [Dg (r := .inr a) (by rw [s0, if_pos (by simp [ha])])]
  simp [ha]
def aZ (x y : Ab) : Int := if x.Be < y.Be then -1 else if y.Be < x.Be then 1 else if x.id < y.id then -1 else if y.id < x.id then 1 else 0
theorem g69_eq (x y : Ab) : g69 x y = some (aZ x y) := by
 simp only [g69, mU, Option.bind_some, vY]
 unfold aZ
 split
 ·simp
 ·split
  ·simp
  ·simp
theorem Xf {x y : Ab} : aZ x y < 0 ↔ x.Be < y.Be ∨ (x.Be = y.Be ∧ x.id < y.id) := by
 unfold aZ; split
 ·simp; omega
 ·split
  ·simp; omega
  ·split
   ·simp; omega
   ·split
    ·simp; omega
    ·simp; omega
theorem Em.lt {t : Ai} (h : Em t) {i j : Nat} (hj : j < t.Ad.length) (hij : i < j) : (t.Ad[i]'(by omega)).id < t.Ad[j].id := by
 induction j with
 | zero => omega
 | succ j ih =>
  have h1 := (h.2.2.2 (j + 1) _ (List.getElem?_eq_getElem hj)).2.1 t.Ad[j] (by omega) (by simp [List.getElem?_eq_getElem (show j < t.Ad.length by omega)])
  by_cases e : i = j
  ·subst e; exact h1
  ·have := ih (by omega) (by omega); omega
theorem wM (l : List Ab) (h : l.length ≤ 1048576) : g66 l = some l := by
 unfold g66; rw [if_pos (by simp; omega)]
theorem Jg (t : Ai) (hl : t.Ad.length ≤ 1048576) : gO t = some t := by
 unfold gO; rw [if_pos (by simp; omega)]; rfl
theorem Pk (t : Ai) (hl : t.Ad.length ≤ 1048576) : gP t = some t := by
 simp [gP, wM _ hl]
end Go.Ev
end
section
set_option maxHeartbeats 1000000
namespace Go.Ev
open Go.Sort
theorem yW : SWO (lC aZ) where
 irrefl x := by simp only [lC, decide_eq_false_iff_not, Xf]; omega
 trans x y z := by simp only [lC, decide_eq_true_eq, Xf]; omega
 ntrans x y z := by simp only [lC, decide_eq_false_iff_not, Xf]; omega
theorem g69_fC : (fun a b => g69 a b) = fC aZ := by funext a b; exact g69_eq a b
abbrev VA (x y : Ab) : Prop := ¬ aZ y x < 0
theorem qN (l : List Ab) (hl : l.length ≤ 1048576) : ∃ s, QW l (fun a b => g69 a b) = some s ∧ s.Perm l ∧ s.Pairwise VA := by
 refine ⟨_, by rw [g69_fC]; exact QX aZ l hl, ?_⟩
 have h := sort_holds (pdq_holds (lt := lC aZ) insertionSort_holds heapSort_holds partialInsertionSort_holds (partition_holds _) (partitionEqual_holds _) reverseRange_holds) yW l.toArray
 obtain ⟨⟨h1, h2, h3⟩, h4⟩ := h
 generalize Go.Sort.sort (lC aZ) l.toArray = d at *
 refine ⟨?_, ?_⟩
 ·rw [← h1] at h3
  have e1 : d.extract 0 d.size = d := by simp
  have e2 : l.toArray.extract 0 d.size = l.toArray := by rw [h1]; simp
  rw [e1, e2] at h3
  exact h3
 ·rw [List.pairwise_iff_getElem]
  intro i j hi hj hij
  have := h4 i j (by omega) hij (by simpa [h1] using hj)
  simp only [lC, decide_eq_false_iff_not] at this
  have hi' : i < d.size := by simpa using hi
  have hj' : j < d.size := by simpa using hj
  rw [getElem!_pos d i hi', getElem!_pos d j hj'] at this
  simpa [VA] using this
end Go.Ev
end
section
set_option maxHeartbeats 1000000
namespace Go.Ev
def Qn (N : Int) (y : Ab) : Bool := !y.Bt && decide (y.Be ≤ N)
abbrev mkQ (y : Ab) : Ab := Ab.mk y.id y.Be y.cap true
def Gv (N : Int) (y : Ab) : Ab := if Qn N y = true then mkQ y else y
theorem mJ (N : Int) (y : Ab) : (bif (!y.Bt) then (decide (y.Be ≤ N)) else false) = Qn N y := by
 unfold Qn; cases y.Bt <;> rfl
abbrev Cx (t : Ai) (a : Int) : Int := if a > t.clock then a else t.clock
theorem yO {f : Ab → Ab} {l : List Ab} {k : Nat} (hk : k < l.length) : ((l.take k).map f ++ l.drop k)[k]? = some l[k] := by
 rw [List.getElem?_append_right (by simp; omega)]
 simp [Nat.min_eq_left (Nat.le_of_lt hk), hk]
theorem TP {f : Ab → Ab} {l : List Ab} {k : Nat} (hk : k < l.length) : ((l.take k).map f ++ l.drop k).set k (f l[k]) = (l.take (k + 1)).map f ++ l.drop (k + 1) := by
 have e : k - ((l.take k).map f).length = 0 := by rw [List.length_map, List.length_take]; omega
 rw [List.set_append, if_neg (by rw [List.length_map, List.length_take]; omega), e, List.drop_eq_getElem_cons hk, List.set_cons_zero, List.take_succ_eq_append_getElem hk, List.map_append, List.append_assoc]
 rfl
theorem yP {f : Ab → Ab} {l : List Ab} {k : Nat} (hk : k < l.length) (he : f l[k] = l[k]) : (l.take k).map f ++ l.drop k = (l.take (k + 1)).map f ++ l.drop (k + 1) := by
 rw [List.take_succ_eq_append_getElem hk, List.map_append, List.append_assoc, List.map_cons, he, List.drop_eq_getElem_cons hk]
 rfl
theorem wN (t : Ai) (a : Int) (l : List Ab) (hl : l.length ≤ 1048576) :
  Bm (Uo t a (Ai.mk t.clock t.next l)) ([], l, 0) = some (l.filter (Qn (Cx t a)), l.map (Gv (Cx t a))) := by
 have h := Di (step := Uo t a (Ai.mk t.clock t.next l)) (fun k => ((l.take k).filter (Qn (Cx t a)), (l.take k).map (Gv (Cx t a)) ++ l.drop k, (k : Int))) l.length (l.filter (Qn (Cx t a)), l.map (Gv (Cx t a))) (fun k hk => by
  simp only [Uo]
  rw [if_pos (decide_eq_true (by omega))]
  rw [Mq, yO hk]
  simp only [Option.bind_some, Int.toNat_natCast, yO hk, mJ, Bd]
  by_cases hd : Qn (Cx t a) l[k] = true
  ·rw [if_pos hd]
   have hfl : ((l.take k).filter (Qn (Cx t a))).length ≤ k := by
    have := List.length_filter_le (Qn (Cx t a)) (l.take k)
    simp at this; omega
   rw [if_pos (by simp; omega)]
   simp only [eU, w1 (show k < 4611686018427387904 by omega)]
   have e : Ab.mk l[k].id l[k].Be l[k].cap true = Gv (Cx t a) l[k] := by unfold Gv; rw [if_pos hd]
   rw [e, TP hk, List.take_succ_eq_append_getElem hk, List.filter_append, List.filter_cons_of_pos hd, List.filter_nil]
  ·rw [if_neg hd]
   simp only [eU, w1 (show k < 4611686018427387904 by omega)]
   rw [yP hk (by unfold Gv; rw [if_neg hd]), List.take_succ_eq_append_getElem hk, List.filter_append, List.filter_cons_of_neg hd, List.filter_nil, List.append_nil]) (by
  simp only [Uo]
  rw [if_neg (by simp)]
  simp)
 simp only [List.take_zero, List.filter_nil, List.map_nil, List.nil_append, List.drop_zero] at h
 exact h
theorem SY (c n : Int) (l : List Ab) (hl : l.length ≤ 1048576) : UU (Ai.mk c n l) = some (l.map (·.id)) := by
 have h := Di (step := Mn (Ai.mk c n l)) (fun k => ((l.take k).map (·.id), (k : Int))) l.length (l.map (·.id)) (fun k hk => by
  simp only [Mn]
  rw [if_pos (decide_eq_true (by omega)), Bk hk]
  simp only [Option.bind_some]
  rw [if_pos (by simp; omega), w1 (show k < 4611686018427387904 by omega), List.take_succ_eq_append_getElem hk, List.map_append]
  rfl) (by
  simp only [Mn]
  rw [if_neg (by simp)]
  simp)
 simp only [List.take_zero, List.map_nil] at h
 simp only [UU]
 have h' : Bm (Mn (Ai.mk c n l)) ([], 0) = some (l.map (·.id)) := h
 rw [h']
 rfl
theorem g82_eq (t : Ai) (a : Int) (hl : t.Ad.length ≤ 1048576) : ∃ s : List Ab, g82 t a = some (Ai.mk (Cx t a) t.next (t.Ad.map (Gv (Cx t a))), s.map (·.id)) ∧ s.Perm (t.Ad.filter (Qn (Cx t a))) ∧ s.Pairwise VA := by
 have hfl : (t.Ad.filter (Qn (Cx t a))).length ≤ 1048576 := Nat.le_trans (List.length_filter_le _ _) hl
 obtain ⟨s, s1, s2, s3⟩ := qN _ hfl
 refine ⟨s, ?_, s2, s3⟩
 have h := wN t a t.Ad hl
 have h' : Bm (Uo t a t) ([], t.Ad, 0) = some (t.Ad.filter (Qn (Cx t a)), t.Ad.map (Gv (Cx t a))) := h
 have hsl : s.length = (t.Ad.filter (Qn (Cx t a))).length := s2.length_eq
 simp only [g82, Pk t hl, Option.bind_some, h', s1]
 rw [if_pos hsl, SY 0 0 s (by omega)]
 rfl
def jH (N : Int) (L : List Ab) (n : Nat) (r : Int) : Prop :=
 (r = -1 ∧ ∀ j, ∀ h : j < L.length, j < n → Qn N L[j] = false) ∨
 ∃ k, ∃ hk : k < L.length, k < n ∧ r = (k : Int) ∧ Qn N L[k] = true ∧ ∀ j, ∀ h : j < L.length, j < n → Qn N L[j] = true → L[k].Be < L[j].Be ∨ (L[k].Be = L[j].Be ∧ k ≤ j)
theorem pR (t : Ai) (a : Int) (L : List Ab) (hl : L.length ≤ 1048576) : ∃ r, Bm (Ys t a L) (-1, 0) = some r ∧ jH (Cx t a) L L.length r := by
 obtain ⟨r, r1, r2⟩ := Tb (step := Ys t a L) (fun s => ∃ n : Nat, s.2 = (n : Int) ∧ n ≤ L.length ∧ jH (Cx t a) L n s.1) (fun s => (L.length - s.2).toNat) (fun r => jH (Cx t a) L L.length r) (-1, 0) ⟨0, rfl, by omega, .inl ⟨rfl, fun j _ h => absurd h (by omega)⟩⟩ (by
  rintro ⟨r, _⟩ ⟨n, rfl, hn, hb⟩
  simp only at hb
  simp only [Ys]
  by_cases hlt : n < L.length
  ·rw [if_pos (decide_eq_true (by omega)), Bk hlt]
   simp only [Option.bind_some, Int.toNat_natCast]
   rw [List.getElem?_eq_getElem hlt]
   simp only [Option.bind_some, mJ, Bd]
   have w : IntKind.i64.wrap ((n : Int) + 1) = ((n + 1 : Nat) : Int) := w1 (by omega)
   left
   by_cases hd : Qn (Cx t a) L[n] = true
   ·rw [hd]
    rcases hb with ⟨rfl, hb⟩ | ⟨k, hk, hkn, rfl, hdk, hb⟩
    ·rw [show decide ((-1 : Int) < 0) = true by decide]
     simp only [beq_self_eq_true, Bool.true_and, show (true == false) = false from rfl, Bool.false_eq_true, if_false, Option.bind_some, cond_true, if_true, Un, w]
     refine ⟨_, rfl, ⟨n + 1, rfl, by omega, .inr ⟨n, hlt, by omega, rfl, hd, fun j h hj hdj => ?_⟩⟩, by simp only; omega⟩
     by_cases e : j = n
     ·subst e; exact .inr ⟨rfl, Nat.le_refl _⟩
     ·rw [hb j h (by omega)] at hdj; cases hdj
    ·rw [show decide ((k : Int) < 0) = false from decide_eq_false (by omega)]
     simp only [beq_self_eq_true, Bool.true_and, if_true, Bk hk, Int.toNat_natCast, List.getElem?_eq_getElem hk, Option.bind_some, cond_true, cond_false, Un, w]
     by_cases hc : L[n].Be < L[k].Be
     ·rw [if_pos (decide_eq_true hc)]
      refine ⟨_, rfl, ⟨n + 1, rfl, by omega, .inr ⟨n, hlt, by omega, rfl, hd, fun j h hj hdj => ?_⟩⟩, by simp only; omega⟩
      by_cases e : j = n
      ·subst e; exact .inr ⟨rfl, Nat.le_refl _⟩
      ·have := hb j h (by omega) hdj
       left; omega
     ·rw [if_neg (by simpa using hc)]
      refine ⟨_, rfl, ⟨n + 1, rfl, by omega, .inr ⟨k, hk, by omega, rfl, hdk, fun j h hj hdj => ?_⟩⟩, by simp only; omega⟩
      by_cases e : j = n
      ·subst e; omega
      ·exact hb j h (by omega) hdj
   ·have hd : Qn (Cx t a) L[n] = false := by simpa using hd
    rw [hd]
    simp only [show (false == true) = false from rfl, Bool.false_and, Bool.false_eq_true, if_false, Option.bind_some, cond_false, Un, w]
    refine ⟨_, rfl, ⟨n + 1, rfl, by omega, ?_⟩, by simp only; omega⟩
    rcases hb with ⟨rfl, hb⟩ | ⟨k, hk, hkn, rfl, hdk, hb⟩
    ·refine .inl ⟨rfl, fun j h hj => ?_⟩
     by_cases e : j = n
     ·subst e; exact hd
     ·exact hb j h (by omega)
    ·refine .inr ⟨k, hk, by omega, rfl, hdk, fun j h hj hdj => ?_⟩
     by_cases e : j = n
     ·subst e; rw [hd] at hdj; cases hdj
     ·exact hb j h (by omega) hdj
  ·rw [if_neg (by simpa using hlt)]
   have : n = L.length := by omega
   subst this
   exact .inr ⟨_, rfl, hb⟩)
 exact ⟨r, r1, r2⟩
theorem jY {p : Ab → Bool} {L : List Ab} {k : Nat} {v : Ab} (hk : k < L.length) (h1 : p L[k] = true) (h2 : p v = false) : (L.filter p).Perm (L[k] :: (L.set k v).filter p) := by
 have e1 : L = L.take k ++ L[k] :: L.drop (k + 1) := by rw [← List.drop_eq_getElem_cons hk, List.take_append_drop]
 have e2 : L.set k v = L.take k ++ v :: L.drop (k + 1) := by rw [List.set_eq_take_append_cons_drop, if_pos hk]
 rw [e2, List.filter_append, List.filter_cons_of_neg (by simp [h2])]
 conv => lhs; rw [e1]
 rw [List.filter_append, List.filter_cons_of_pos h1]
 exact List.perm_middle
theorem g81_eq (t : Ai) (a : Int) (h : Em t) (hl : t.Ad.length ≤ 1048576) : ∃ s : List Ab, g81 t a = some (Ai.mk (Cx t a) t.next (t.Ad.map (Gv (Cx t a))), s.map (·.id)) ∧ s.Perm (t.Ad.filter (Qn (Cx t a))) ∧ s.Pairwise VA := by
 obtain ⟨r, r1, r2⟩ := Tb (step := eT t a t) (fun s => ∃ sel : List Ab, s.1 = sel.map (·.id) ∧ (sel ++ s.2.filter (Qn (Cx t a))).Perm (t.Ad.filter (Qn (Cx t a))) ∧ sel.Pairwise VA ∧ (∀ x ∈ sel, ∀ y ∈ s.2.filter (Qn (Cx t a)), VA x y) ∧
   ∃ hlen : s.2.length = t.Ad.length, ∀ i, ∀ hi : i < t.Ad.length, s.2[i] = t.Ad[i] ∨ (Qn (Cx t a) t.Ad[i] = true ∧ s.2[i] = mkQ t.Ad[i]))
  (fun s => (s.2.filter (Qn (Cx t a))).length) (fun r => ∃ s : List Ab, r = (Ai.mk (Cx t a) t.next (t.Ad.map (Gv (Cx t a))), s.map (·.id)) ∧ s.Perm (t.Ad.filter (Qn (Cx t a))) ∧ s.Pairwise VA) ([], t.Ad)
  ⟨[], rfl, by simp, .nil, by simp, rfl, fun i hi => .inl rfl⟩ (by
  rintro ⟨_, L⟩ ⟨sel, rfl, p1, p2, p3, hlen, p4⟩
  simp only at p1 p3 hlen p4
  obtain ⟨b, b1, b2⟩ := pR t a L (by omega)
  simp only [eT, b1, Option.bind_some]
  rcases b2 with ⟨rfl, b2⟩ | ⟨k, hk, _, rfl, hdk, b2⟩
  ·right
   rw [if_pos (by decide)]
   have hnil : L.filter (Qn (Cx t a)) = [] := by
    rw [List.filter_eq_nil_iff]
    intro x hx
    obtain ⟨j, hj, rfl⟩ := List.getElem_of_mem hx
    simp [b2 j hj hj]
   rw [hnil, List.append_nil] at p1
   refine ⟨_, rfl, sel, ?_, p1, p2⟩
   have hL : L = t.Ad.map (Gv (Cx t a)) := by
    refine List.ext_getElem (by simpa using hlen) fun i h1 h2 => ?_
    have hi : i < t.Ad.length := by omega
    simp only [List.getElem_map, Gv]
    rcases p4 i hi with e | ⟨e1, e⟩
    ·have := b2 i h1 h1
     rw [e] at this
     rw [if_neg (by simp [this])]; exact e
    ·rw [if_pos e1]; exact e
   rw [hL]
  ·left
   rw [if_neg (by simp)]
   have hmk : Qn (Cx t a) (mkQ L[k]) = false := by simp [Qn]
   have hlen2 : (L.set k (mkQ L[k])).length = L.length := by simp
   have hk2 : k < (L.set k (mkQ L[k])).length := by simpa using hk
   simp only [Bk hk, Int.toNat_natCast, List.getElem?_eq_getElem hk, Option.bind_some, Bk hk2, List.getElem?_eq_getElem hk2, List.getElem_set_self]
   have hf := jY (p := Qn (Cx t a)) hk hdk hmk
   have hlp := p1.length_eq
   have hlf := List.length_filter_le (Qn (Cx t a)) t.Ad
   rw [List.length_append] at hlp
   rw [if_pos (by simp; omega)]
   refine ⟨_, rfl, ⟨sel ++ [L[k]], by simp, ?_, ?_, ?_, by simpa using hlen, ?_⟩, ?_⟩
   ·simp only [List.append_assoc, List.singleton_append]
    exact (List.Perm.append_left sel hf.symm).trans p1
   ·rw [List.pairwise_append]
    refine ⟨p2, by simp, fun x hx y hy => ?_⟩
    simp only [List.mem_singleton] at hy
    subst hy
    exact p3 x hx _ (List.mem_filter.2 ⟨List.getElem_mem hk, hdk⟩)
   ·intro x hx y hy
    have hy2 : y ∈ L.filter (Qn (Cx t a)) := hf.mem_iff.2 (List.mem_cons_of_mem _ hy)
    rcases List.mem_append.1 hx with hx | hx
    ·exact p3 x hx y hy2
    ·simp only [List.mem_singleton] at hx
     subst hx
     obtain ⟨hyL, hdy⟩ := List.mem_filter.1 hy2
     obtain ⟨j, hj, rfl⟩ := List.getElem_of_mem hyL
     have := b2 j hj hj hdy
     simp only [VA, Xf]
     have ids : ∀ i, ∀ hi : i < L.length, L[i].id = (t.Ad[i]'(by omega)).id := fun i hi => by
      rcases p4 i (by omega) with e | ⟨_, e⟩ <;> rw [e]
     rw [ids j hj, ids k hk]
     by_cases e : k = j
     ·subst e; omega
     ·rcases this with h1 | ⟨h1, h2⟩
      ·omega
      ·have := h.lt (i := k) (j := j) (by omega) (by omega)
       omega
   ·intro i hi
    simp only [List.getElem_set]
    split
    ·rename_i e; subst e
     right
     rcases p4 k hi with e | ⟨e1, e⟩
     ·rw [e] at hdk; exact ⟨hdk, by rw [e]⟩
     ·exact ⟨e1, by rw [e]⟩
    ·exact p4 i hi
   ·have := hf.length_eq
    simp only [List.length_cons, mkQ] at this ⊢
    omega)
 obtain ⟨s, rfl, s2, s3⟩ := r2
 refine ⟨s, ?_, s2, s3⟩
 simp only [g81, Jg t hl, Option.bind_some, r1]
end Go.Ev
end
section
namespace Go.Ev
theorem xB {σ ρ : Type} {step : σ → Option (σ ⊕ ρ)} (I : σ → Prop) (μ : σ → Nat) (R : ρ → Prop)
  (h : ∀ s, I s → (∃ s', step s = some (.inl s') ∧ I s' ∧ μ s' < μ s) ∨ (∃ r, step s = some (.inr r) ∧ R r)) : ∀ (n : Nat) (s0 : σ), μ s0 < n → I s0 → ∃ r, Bm step s0 = some r ∧ R r := by
 intro n
 induction n with
 | zero => intro s0 hn; omega
 | succ n ih =>
  intro s0 hn hI
  rcases h s0 hI with ⟨s', h1, h2, h3⟩ | ⟨r, h1, h2⟩
  ·obtain ⟨r, h4, h5⟩ := ih s' (by omega) h2
   exact ⟨r, by rw [De h1, h4], h5⟩
  ·exact ⟨r, Dg h1, h2⟩
theorem iter_inv' {σ ρ : Type} {step : σ → Option (σ ⊕ ρ)} (I : σ → Prop) (μ : σ → Nat) (R : ρ → Prop) (s0 : σ) (h0 : I s0)
  (h : ∀ s, I s → (∃ s', step s = some (.inl s') ∧ I s' ∧ μ s' < μ s) ∨ (∃ r, step s = some (.inr r) ∧ R r)) : ∃ r, Bm step s0 = some r ∧ R r :=
 xB I μ R h (μ s0 + 1) s0 (by omega) h0
theorem yT {α : Type} (l : List α) (a b : Nat) (h : a ≤ b) (h2 : b ≤ l.length) : Tv l (a : Int) (b : Int) = some ((l.take b).drop a) := by
 unfold Tv
 rw [if_pos ⟨by omega, by omega, by omega⟩]
 simp
def Wa (l : List Ab) (x n : Int) : Prop := (n = -1 ∧ ∀ y ∈ l, y.id ≠ x) ∨ ∃ k, ∃ h : k < l.length, n = (k : Int) ∧ l[k].id = x
theorem Rj (t : Ai) (x : Int) (hl : t.Ad.length ≤ 1048576) : ∃ n, AA t x = some n ∧ Wa t.Ad x n := by
 obtain ⟨r, h1, h2⟩ := iter_inv' (step := eV t x) (fun s => ∃ k : Nat, s = (k : Int) ∧ k ≤ t.Ad.length ∧ ∀ j, ∀ h : j < t.Ad.length, j < k → t.Ad[j].id ≠ x) (fun s => (t.Ad.length - s).toNat)
  (fun r => (r = .inl () ∧ ∀ y ∈ t.Ad, y.id ≠ x) ∨ ∃ n, r = .inr n ∧ Wa t.Ad x n) 0 ⟨0, rfl, by omega, by intros; omega⟩ (by
   rintro _ ⟨k, rfl, hk, hj⟩
   simp only [eV]
   by_cases hlt : k < t.Ad.length
   ·rw [if_pos (decide_eq_true (by omega)), Bk hlt]
    simp only [Option.bind_some, wr (n := (k : Int) + 1) ⟨by omega, by omega⟩]
    by_cases hp : t.Ad[k].id = x
    ·rw [if_pos (by simp [hp])]
     exact .inr ⟨_, rfl, .inr ⟨_, rfl, .inr ⟨k, hlt, rfl, hp⟩⟩⟩
    ·rw [if_neg (by simp [hp])]
     refine .inl ⟨_, rfl, ⟨k + 1, rfl, by omega, fun j h hj2 => ?_⟩, by omega⟩
     by_cases e : j = k
     ·subst e; exact hp
     ·exact hj j h (by omega)
   ·rw [if_neg (by simp; omega)]
    refine .inr ⟨_, rfl, .inl ⟨rfl, fun y hy => ?_⟩⟩
    obtain ⟨j, hj1, rfl⟩ := List.getElem_of_mem hy
    exact hj j hj1 (by omega))
 simp only [AA, h1, Option.bind_some]
 rcases h2 with ⟨rfl, h2⟩ | ⟨n, rfl, h2⟩
 ·exact ⟨-1, rfl, .inl ⟨rfl, h2⟩⟩
 ·exact ⟨n, rfl, h2⟩
theorem half (a : Nat) (h : a ≤ 4194304) : IntKind.i64.wrap (Jz .u64 (IntKind.u64.wrap (IntKind.i64.wrap (a : Int))) 1) = ((a / 2 : Nat) : Int) := by
 have h1 : IntKind.u64.wrap (a : Int) = a := by
  have e : IntKind.u64.wrap (a : Int) = (a : Int) % 18446744073709551616 := by simp [IntKind.wrap, IntKind.bits, IntKind.signed]
  rw [e]; omega
 have h2 : (2 : Int) ^ min (1 : Int).toNat 64 = 2 := by decide
 rw [wr (n := (a : Int)) ⟨by omega, by omega⟩, h1]
 simp only [Jz, h2]
 rw [Int.fdiv_eq_ediv_of_nonneg _ (by omega), wr ⟨by omega, by omega⟩]
 omega
theorem mV (x : Ab) (a : Int) : pL x a = some (if x.id < a then -1 else if a < x.id then 1 else 0) := by simp [pL, mU]
theorem eQ (t : Ai) (h : Em t) (x n : Int) (hn : Wa t.Ad x n) : ∃ i b, zZ t x = some (i, b) ∧ (b = true → i = n ∧ 0 ≤ n) ∧ (b = false → n = -1) := by
 have hl := h.2.2.1
 obtain ⟨r, h1, h2⟩ := iter_inv' (step := Wm t.Ad x (fun a b => pL a b)) (fun s => ∃ i j : Nat, s = ((i : Int), (j : Int)) ∧ i ≤ j ∧ j ≤ t.Ad.length ∧ (∀ k, ∀ h : k < t.Ad.length, k < i → t.Ad[k].id < x) ∧ ∀ k, ∀ h : k < t.Ad.length, j ≤ k → x ≤ t.Ad[k].id)
  (fun s => (s.2 - s.1).toNat) (fun r => ∃ i : Nat, r = i ∧ i ≤ t.Ad.length ∧ (∀ k, ∀ h : k < t.Ad.length, k < i → t.Ad[k].id < x) ∧ ∀ k, ∀ h : k < t.Ad.length, i ≤ k → x ≤ t.Ad[k].id) (0, (t.Ad.length : Int))
  ⟨0, t.Ad.length, rfl, by omega, by omega, by intros; omega, by intros; omega⟩ (by
   rintro _ ⟨i, j, rfl, hij, hj, ha, hb⟩
   simp only [Wm]
   by_cases hlt : i < j
   ·have e : (i : Int) + (j : Int) = ((i + j : Nat) : Int) := by omega
    rw [if_pos (decide_eq_true (by omega)), e, half _ (by omega)]
    have hm : (i + j) / 2 < t.Ad.length := by omega
    simp only [Bd, Bk hm, Option.bind_some, mV]
    have hw : IntKind.i64.wrap (((i + j) / 2 : Nat) + 1 : Int) = (((i + j) / 2 + 1 : Nat) : Int) := wr ⟨by omega, by omega⟩
    rw [hw]
    left
    by_cases hc : t.Ad[(i + j) / 2].id < x
    ·rw [if_pos hc, if_pos (by decide)]
     refine ⟨_, rfl, ⟨_, j, rfl, by omega, hj, fun k hk hki => ?_, hb⟩, by simp only; omega⟩
     by_cases e : k = (i + j) / 2
     ·subst e; exact hc
     ·have := h.lt hm (show k < (i + j) / 2 by omega); omega
    ·have : ¬ (if t.Ad[(i + j) / 2].id < x then (-1 : Int) else if x < t.Ad[(i + j) / 2].id then 1 else 0) < 0 := by
      rw [if_neg hc]; split <;> omega
     rw [if_neg (by simpa using this)]
     refine ⟨_, rfl, ⟨i, _, rfl, by omega, by omega, ha, fun k hk hki => ?_⟩, by simp only; omega⟩
     by_cases e : k = (i + j) / 2
     ·subst e; omega
     ·have := h.lt hk (show (i + j) / 2 < k by omega); omega
   ·rw [if_neg (by simp; omega)]
    exact .inr ⟨_, rfl, i, rfl, by omega, ha, fun k hk hki => hb k hk (by omega)⟩)
 obtain ⟨i, rfl, hi, ha, hb⟩ := h2
 simp only [zZ, QV, h1, Option.bind_some]
 by_cases hlt : i < t.Ad.length
 ·have hd : (decide ((i : Int) < (t.Ad.length : Int)) == true) = true := by simp; omega
  simp only [hd, if_true, Bk hlt, Option.bind_some, mV]
  refine ⟨_, _, rfl, ?_, ?_⟩
  ·intro hh
   have hx : t.Ad[i].id = x := by
    have := hb i hlt (by omega)
    rw [decide_eq_true (by omega)] at hh
    simp at hh
    split at hh
    ·omega
    ·split at hh <;> omega
   rcases hn with ⟨rfl, hn⟩ | ⟨k, hk, rfl, hkx⟩
   ·exact absurd hx (hn _ (List.getElem_mem _))
   ·by_cases e : k = i
    ·subst e; exact ⟨rfl, by omega⟩
    ·by_cases e2 : k < i
     ·have := ha k hk e2; omega
     ·have := h.lt hk (show i < k by omega); omega
  ·intro hh
   rcases hn with ⟨rfl, hn⟩ | ⟨k, hk, rfl, hkx⟩
   ·rfl
   ·exfalso
    have hne : t.Ad[i].id ≠ x := fun e => by
     rw [decide_eq_true (by omega), e] at hh
     simp at hh
    have := hb i hlt (by omega)
    by_cases e : k = i
    ·subst e; exact hne hkx
    ·by_cases e2 : k < i
     ·have := ha k hk e2; omega
     ·have := h.lt hk (show i < k by omega); omega
 ·have hd : ¬ (decide ((i : Int) < (t.Ad.length : Int)) == true) = true := by simp; omega
  simp only [hd, if_false, Option.bind_some]
  refine ⟨_, _, rfl, ?_, ?_⟩
  ·rw [decide_eq_false (by omega)]; intro hh; cases hh
  ·intro _
   rcases hn with ⟨rfl, hn⟩ | ⟨k, hk, rfl, hkx⟩
   ·rfl
   ·have := ha k hk (by omega); omega
theorem kP (a b : Int) : ∃ r, UT a b = some r ∧ g54 a b = some r := by
 unfold UT g54
 split
 ·exact ⟨_, rfl, rfl⟩
 ·exact ⟨_, rfl, rfl⟩
end Go.Ev
end
section
namespace Go.Ev
def Hb (s : Bj) (B : Int) : Prop := s.code_.length ≤ 1048576 ∧ (0 ≤ s.at_ ∧ s.at_ ≤ B) ∧ 0 ≤ s.Ew ∧ s.Ew < 2147483648
theorem Hb.mono {s : Bj} {B B' : Int} (h : Hb s B) (hb : B ≤ B') : Hb s B' := ⟨h.1, ⟨h.2.1.1, by have := h.2.1.2; omega⟩, h.2.2⟩
theorem g83_ok (code : List UInt8) (h : code.length ≤ 1048576) : ∃ s, g83 code = some s ∧ Hb s 0 := by
 refine ⟨_, rfl, h, ⟨by simp, by simp⟩, ?_⟩
 have e : ((code.length : Int)).tmod 1000 = (code.length : Int) % 1000 := Int.tmod_eq_emod_of_nonneg (by omega)
 simp only [e]
 omega
theorem Wr {s : Bj} {B : Int} (h : Hb s B) (hB : B ≤ 4611686018427387904) : ∃ v s', kC s = some (v, s') ∧ (0 ≤ v ∧ v ≤ 255) ∧ Hb s' (B + 1) := by
 obtain ⟨h1, ⟨h2, h3⟩, h4, h5⟩ := h
 have hw : IntKind.i64.wrap (s.at_ + 1) = s.at_ + 1 := wr ⟨by omega, by omega⟩
 have hw2 : IntKind.i64.wrap (s.at_ + 1 - 1) = s.at_ := by rw [wr ⟨by omega, by omega⟩]; omega
 simp only [kC, hw, hw2]
 by_cases hc : s.at_ + 1 ≤ (s.code_.length : Int)
 ·rw [if_pos (decide_eq_true hc)]
  obtain ⟨k, hk⟩ : ∃ k : Nat, s.at_ = k := ⟨s.at_.toNat, by omega⟩
  have hlt : k < s.code_.length := by omega
  rw [hk, Bk hlt]
  generalize s.code_[k] = y
  have hy : (y.toNat : Int) < 256 := by have := y.toNat_lt; omega
  have e1 : IntKind.i64.wrap (y.toNat : Int) = (y.toNat : Int) := wr ⟨by omega, by omega⟩
  have e2 : IntKind.i64.wrap (s.Ew * 31) = s.Ew * 31 := wr ⟨by omega, by omega⟩
  have e3 : IntKind.i64.wrap (s.Ew * 31 + (y.toNat : Int)) = s.Ew * 31 + (y.toNat : Int) := wr ⟨by omega, by omega⟩
  have e4 : IntKind.i64.wrap (s.Ew * 31 + (y.toNat : Int) + 7) = s.Ew * 31 + (y.toNat : Int) + 7 := wr ⟨by omega, by omega⟩
  have e5 : (s.Ew * 31 + (y.toNat : Int) + 7).tmod 2147483648 = (s.Ew * 31 + (y.toNat : Int) + 7) % 2147483648 := Int.tmod_eq_emod_of_nonneg (by omega)
  simp only [Option.bind_some, Bd, e1, e2, e3, e4, e5]
  exact ⟨_, _, rfl, ⟨by omega, by omega⟩, h1, ⟨by simp only; omega, by simp only; omega⟩, by simp only; omega, by simp only; omega⟩
 ·rw [if_neg (by simpa using hc)]
  by_cases h3' : s.at_ + 1 > 3000
  ·rw [if_pos (decide_eq_true h3')]
   exact ⟨_, _, rfl, ⟨by omega, by omega⟩, h1, ⟨by simp only; omega, by simp only; omega⟩, h4, h5⟩
  ·rw [if_neg (by simpa using h3')]
   have e2 : IntKind.i64.wrap (s.Ew * 1103515245) = s.Ew * 1103515245 := wr ⟨by omega, by omega⟩
   have e3 : IntKind.i64.wrap (s.Ew * 1103515245 + 12345) = s.Ew * 1103515245 + 12345 := wr ⟨by omega, by omega⟩
   have e4 : (s.Ew * 1103515245 + 12345).tmod 2147483648 = (s.Ew * 1103515245 + 12345) % 2147483648 := Int.tmod_eq_emod_of_nonneg (by omega)
   have hr : 0 ≤ (s.Ew * 1103515245 + 12345) % 2147483648 ∧ (s.Ew * 1103515245 + 12345) % 2147483648 < 2147483648 := by omega
   generalize hv : (s.Ew * 1103515245 + 12345) % 2147483648 = v at e4 hr
   have e5 : v.tdiv 65536 = v / 65536 := Int.tdiv_eq_ediv_of_nonneg hr.1
   have e6 : IntKind.i64.wrap (v / 65536) = v / 65536 := wr ⟨by omega, by omega⟩
   have e7 : (v / 65536).tmod 256 = v / 65536 % 256 := Int.tmod_eq_emod_of_nonneg (by omega)
   simp only [Bd, e2, e3, e4, e5, e6, e7]
   exact ⟨_, _, rfl, ⟨by omega, by omega⟩, h1, ⟨by simp only; omega, by simp only; omega⟩, hr.1, hr.2⟩
theorem Gk {s : Bj} {B n : Int} (h : Hb s B) (hB : B ≤ 4611686018427380000) (hn : n ≤ 1152921504606846976) : ∃ v s', Qj s n = some (v, s') ∧ (0 ≤ v ∧ (n ≤ 1 → v = 0) ∧ (1 < n → v < n)) ∧ Hb s' (B + 3) := by
 simp only [Qj]
 by_cases h1 : n ≤ 1
 ·rw [if_pos (decide_eq_true h1)]
  exact ⟨_, _, rfl, ⟨by omega, by omega, by omega⟩, h.mono (by omega)⟩
 ·rw [if_neg (by simpa using h1)]
  by_cases h2 : n ≤ 256
  ·rw [if_pos (decide_eq_true h2)]
   obtain ⟨v, s', e1, e2, e3⟩ := Wr h (by omega)
   rw [e1]
   simp only [Option.bind_some]
   rw [if_pos (by omega)]
   have e4 : v.tmod n = v % n := Int.tmod_eq_emod_of_nonneg e2.1
   refine ⟨_, _, rfl, ⟨?_, by omega, fun _ => ?_⟩, e3.mono (by omega)⟩
   ·rw [e4]; exact Int.emod_nonneg _ (by omega)
   ·rw [e4]; exact Int.emod_lt_of_pos _ (by omega)
  ·rw [if_neg (by simpa using h2)]
   obtain ⟨a, s1, a1, a2, a3⟩ := Wr h (by omega)
   obtain ⟨b, s2, b1, b2, b3⟩ := Wr a3 (by omega)
   obtain ⟨c, s3, c1, c2, c3⟩ := Wr b3 (by omega)
   rw [a1]
   simp only [Option.bind_some, b1, c1]
   rw [if_pos (by omega)]
   have e1 : IntKind.i64.wrap (a * 65536) = a * 65536 := wr ⟨by omega, by omega⟩
   have e2 : IntKind.i64.wrap (b * 256) = b * 256 := wr ⟨by omega, by omega⟩
   have e3 : IntKind.i64.wrap (a * 65536 + b * 256) = a * 65536 + b * 256 := wr ⟨by omega, by omega⟩
   have e4 : IntKind.i64.wrap (a * 65536 + b * 256 + c) = a * 65536 + b * 256 + c := wr ⟨by omega, by omega⟩
   have e5 : (a * 65536 + b * 256 + c).tmod n = (a * 65536 + b * 256 + c) % n := Int.tmod_eq_emod_of_nonneg (by omega)
   simp only [Bd, e1, e2, e3, e4, e5]
   refine ⟨_, _, rfl, ⟨Int.emod_nonneg _ (by omega), by omega, fun _ => Int.emod_lt_of_pos _ (by omega)⟩, c3.mono (by omega)⟩
end Go.Ev
end
section
set_option maxHeartbeats 1000000
namespace Go.Ev
abbrev Fi (t : Ai) : Prop := Em t ∧ t.clock ≤ 9223372036854775807 ∧ ∀ x ∈ t.Ad, x.cap ≤ 9223372036854775807
theorem Em.at {t : Ai} (h : Em t) {k : Nat} (hk : k < t.Ad.length) : Ir t k t.Ad[k] := h.2.2.2 k _ (List.getElem?_eq_getElem hk)
theorem iY {t : Ai} (h : Em t) (c : Int) (hc : t.clock ≤ c) (L : List Ab) (hl : L.length = t.Ad.length)
  (hk : ∀ k, ∀ h1 : k < L.length, ∀ h2 : k < t.Ad.length, L[k].id = t.Ad[k].id ∧ 0 ≤ L[k].Be ∧ L[k].Be ≤ L[k].cap ∧ (L[k].Bt = false → c < L[k].Be)) : Em (Ai.mk c t.next L) := by
 have h0 := h.1
 refine ⟨by simp only; omega, h.2.1, by simp only [hl]; exact h.2.2.1, fun k x hx => ?_⟩
 obtain ⟨h1, rfl⟩ := List.getElem?_eq_some_iff.1 hx
 simp only at h1
 have hkt : k < t.Ad.length := by omega
 obtain ⟨e1, e2, e3, e4⟩ := hk k h1 hkt
 obtain ⟨a1, a2, a3, a4, a5⟩ := h.at hkt
 refine ⟨by simp only [e1]; exact a1, fun y hpos hy => ?_, e2, e3, e4⟩
 obtain ⟨h3, rfl⟩ := List.getElem?_eq_some_iff.1 hy
 simp only at h3 ⊢
 rw [e1, (hk (k - 1) h3 (by omega)).1]
 exact h.lt (by omega) (by omega)
theorem xU (t : Ai) (a : Int) : t.clock ≤ Cx t a := by unfold Cx; split <;> omega
theorem aI {t : Ai} (h : Fi t) (a : Int) (ha : a ≤ 9223372036854775807) : Fi (Ai.mk (Cx t a) t.next (t.Ad.map (Gv (Cx t a)))) := by
 refine ⟨iY h.1 _ (xU t a) _ (by simp) fun k h1 h2 => ?_, ?_⟩
 ·simp only [List.getElem_map, Gv]
  obtain ⟨a1, a2, a3, a4, a5⟩ := h.1.at h2
  split
  ·exact ⟨rfl, a3, a4, fun hq => by cases hq⟩
  ·rename_i hd
   refine ⟨rfl, a3, a4, fun hq => ?_⟩
   simp [Qn, hq] at hd
   exact hd
 ·refine ⟨by have := h.2.1; simp only [Cx]; split <;> omega, fun x hx => ?_⟩
  obtain ⟨y, hy, rfl⟩ := List.mem_map.1 hx
  have := h.2.2 y hy
  unfold Gv
  split <;> exact this
theorem nZ {t : Ai} (h : Fi t) {k : Nat} (hk : k < t.Ad.length) (v : Ab) (h1 : v.id = t.Ad[k].id) (h2 : 0 ≤ v.Be) (h3 : v.Be ≤ v.cap) (h4 : v.Bt = false → t.clock < v.Be) (h5 : v.cap = t.Ad[k].cap) :
  Fi (Ai.mk t.clock t.next (t.Ad.set k v)) := by
 refine ⟨iY h.1 _ (Int.le_refl _) _ (by simp) fun j j1 j2 => ?_, h.2.1, fun x hx => by
  rcases List.mem_or_eq_of_mem_set hx with hx | rfl
  ·exact h.2.2 x hx
  ·rw [h5]; exact h.2.2 _ (List.getElem_mem hk)⟩
 simp only [List.getElem_set]
 split
 ·rename_i e; subst e
  exact ⟨h1, h2, h3, h4⟩
 ·obtain ⟨a1, a2, a3, a4, a5⟩ := h.1.at j2
  exact ⟨rfl, a3, a4, a5⟩
theorem Zf (c a : Int) (hc : 0 ≤ c ∧ c ≤ 9223372036854775807) (ha : 1 ≤ a ∧ a ≤ 9223372036854775807) : UT c a = some (if c + a ≤ 9223372036854775807 then c + a else 9223372036854775807) := by
 have e : IntKind.i64.wrap (9223372036854775807 - a) = 9223372036854775807 - a := wr ⟨by omega, by omega⟩
 simp only [UT]
 rw [e]
 by_cases h : c + a ≤ 9223372036854775807
 ·rw [if_neg (by simp; omega), if_pos h, wr ⟨by omega, by omega⟩]
 ·rw [if_pos (decide_eq_true (by omega)), if_neg h]
theorem lH {t : Ai} (h : Fi t) (a : Int) : ∃ r, g74 t a = some r ∧ Fi r.1 := by
 have hl := h.1.2.2.1
 obtain ⟨n, h1, h2⟩ := Rj t a (by omega)
 simp only [g74, h1, Option.bind_some]
 rcases h2 with ⟨rfl, h2⟩ | ⟨k, hk, rfl, h2⟩
 ·exact ⟨_, rfl, h⟩
 ·rw [if_neg (by simp), Jg t (by omega)]
  simp only [Option.bind_some, Bk hk, Int.toNat_natCast, List.getElem?_eq_getElem hk]
  obtain ⟨a1, a2, a3, a4, a5⟩ := h.1.at hk
  exact ⟨_, rfl, nZ h hk _ rfl a3 a4 (fun hq => by cases hq) rfl⟩
theorem qI {t : Ai} (h : Fi t) {k : Nat} (hk : k < t.Ad.length) (hq : t.Ad[k].Bt = false) (u : Int) (hu : t.clock < u) :
  Fi (Ai.mk t.clock t.next (t.Ad.set k (Ab.mk t.Ad[k].id (if u < t.Ad[k].cap then u else t.Ad[k].cap) t.Ad[k].cap t.Ad[k].Bt))) := by
 obtain ⟨a1, a2, a3, a4, a5⟩ := h.1.at hk
 have := a5 hq
 have h0 := h.1.1
 exact nZ h hk _ rfl (by simp only; split <;> omega) (by simp only; split <;> omega) (fun _ => by simp only; split <;> omega) rfl
theorem xE (c a : Int) (hc : 0 ≤ c ∧ c < 9223372036854775807) (ha : 1 ≤ a) : c < (if c + a ≤ 9223372036854775807 then c + a else 9223372036854775807) := by split <;> omega
theorem lF {t : Ai} (h : Fi t) (a b : Int) (hb : 1 ≤ b ∧ b ≤ 9223372036854775807) : ∃ r, g79 t a b = some r ∧ Fi r.1 := by
 have hl := h.1.2.2.1
 obtain ⟨n, h1, h2⟩ := Rj t a (by omega)
 simp only [g79, h1, Option.bind_some]
 rw [if_neg (by simp; omega)]
 rcases h2 with ⟨rfl, h2⟩ | ⟨k, hk, rfl, h2⟩
 ·exact ⟨_, rfl, h⟩
 ·rw [if_neg (by simp), Bk hk]
  simp only [Option.bind_some]
  by_cases hq : t.Ad[k].Bt = true
  ·rw [if_pos hq]; exact ⟨_, rfl, h⟩
  ·rw [if_neg hq, Jg t (by omega)]
   have hq : t.Ad[k].Bt = false := by simpa using hq
   obtain ⟨a1, a2, a3, a4, a5⟩ := h.1.at hk
   have h0 := h.1.1
   have hc := h.2.1
   simp only [Option.bind_some, Bk hk, Int.toNat_natCast, List.getElem?_eq_getElem hk, Zf _ _ ⟨h0, hc⟩ hb]
   have hcm : t.clock < 9223372036854775807 := by
    have := a5 hq
    have := h.2.2 _ (List.getElem_mem hk)
    omega
   exact ⟨_, rfl, qI h hk hq _ (xE _ _ ⟨h0, hcm⟩ hb.1)⟩
theorem pS {t : Ai} (h : Fi t) (a b : Int) (ha : 1 ≤ a ∧ a ≤ b ∧ b ≤ 9223372036854775807) : ∃ r, g70 t a b = some r ∧ Fi r.1 := by
 have hl := h.1.2.2.1
 have h0 := h.1.1
 have hc := h.2.1
 have hn := h.1.2.1
 simp only [g70]
 have e1 : decide (a < 1) = false := decide_eq_false (by omega)
 have e2 : decide (b < a) = false := decide_eq_false (by omega)
 rw [e1, e2]
 simp only [cond_false, Bool.false_eq_true, if_false]
 by_cases hm : t.clock = 9223372036854775807
 ·rw [if_pos (by simpa using hm)]; exact ⟨_, rfl, h⟩
 ·rw [if_neg (by simpa using hm)]
  simp only [Bd]
  by_cases hf : t.Ad.length = 40 ∨ t.next = 1000000
  ·rw [if_pos (by rcases hf with hf | hf <;> simp [hf])]; exact ⟨_, rfl, h⟩
  ·have hf1 : t.Ad.length ≠ 40 := fun e => hf (.inl e)
   have hf2 : t.next ≠ 1000000 := fun e => hf (.inr e)
   have e3 : ((t.Ad.length : Int) == 40) = false := by simp; omega
   have e4 : (t.next == 1000000) = false := by simp; exact hf2
   rw [e3, e4]
   simp only [cond_false, Bool.false_eq_true, if_false, Jg t (by omega), Option.bind_some, Zf _ _ ⟨h0, hc⟩ ⟨ha.1, by omega⟩, Zf _ _ ⟨h0, hc⟩ ⟨by omega, ha.2.2⟩]
   rw [if_pos (by simp; omega)]
   refine ⟨_, rfl, ⟨by simp only; exact h0, by simp only; rw [wr ⟨by omega, by omega⟩]; omega, by simp; omega, fun k x hx => ?_⟩, hc, fun x hx => by
    rcases List.mem_append.1 hx with hx | hx
    ·exact h.2.2 x hx
    ·simp only [List.mem_singleton] at hx; subst hx; simp only; split <;> omega⟩
   simp only at hx
   have hw : IntKind.i64.wrap (t.next + 1) = t.next + 1 := wr ⟨by omega, by omega⟩
   by_cases hk : k < t.Ad.length
   ·rw [List.getElem?_append_left hk] at hx
    obtain ⟨a1, a2, a3, a4, a5⟩ := h.1.2.2.2 k x hx
    refine ⟨by simp only [hw]; omega, fun y hp hy => ?_, a3, a4, a5⟩
    simp only at hy
    rw [List.getElem?_append_left (by omega)] at hy
    exact a2 y hp hy
   ·have hk2 : k = t.Ad.length := by
     have := (List.getElem?_eq_some_iff.1 hx).1
     simp at this; omega
    subst hk2
    simp only [List.getElem?_append_right (Nat.le_refl _), Nat.sub_self, List.getElem?_cons_zero, Option.some.injEq] at hx
    subst hx
    refine ⟨by simp only [hw]; omega, fun y hp hy => ?_, by simp only; split <;> omega, by simp only; split <;> split <;> omega, fun _ => by simp only; split <;> omega⟩
    simp only at hy
    rw [List.getElem?_append_left (by omega)] at hy
    obtain ⟨a1, a2, a3, a4, a5⟩ := h.1.2.2.2 _ y hy
    simp only; omega
end Go.Ev
end
section
set_option maxHeartbeats 1000000
namespace Go.Ev
end Go.Ev
end
section
set_option maxHeartbeats 1000000
namespace Go.Ev
theorem Ce.mono {l : List Int} {a b b' : Int} (h : Ce l a b) (hb : b ≤ b') : Ce l a b' := fun k x hx => ⟨⟨(h k x hx).1.1, by have := (h k x hx).1.2; omega⟩, (h k x hx).2⟩
theorem Ce.of {l : List Int} {a b : Int} (h1 : ∀ x ∈ l, a ≤ x ∧ x ≤ b) (h2 : ∀ i j, ∀ hj : j < l.length, ∀ hij : i < j, l[i]'(by omega) < l[j]) : Ce l a b := fun k x hx => by
 obtain ⟨hk, rfl⟩ := List.getElem?_eq_some_iff.1 hx
 refine ⟨h1 _ (List.getElem_mem hk), fun y hp hy => ?_⟩
 obtain ⟨hk', rfl⟩ := List.getElem?_eq_some_iff.1 hy
 exact h2 (k - 1) k hk (by omega)
theorem Ce.mem {l : List Int} {a b : Int} (h : Ce l a b) {x : Int} (hx : x ∈ l) : a ≤ x ∧ x ≤ b := by
 obtain ⟨k, hk, rfl⟩ := List.getElem_of_mem hx
 exact (h k _ (List.getElem?_eq_getElem hk)).1
theorem Ce.ge {l : List Int} {b : Int} (h : Ce l 1 b) : ∀ k, ∀ hk : k < l.length, (k : Int) + 1 ≤ l[k] := by
 intro k
 induction k with
 | zero => intro hk; have := h.mem (List.getElem_mem hk); simp; omega
 | succ k ih =>
  intro hk
  have h1 := ih (by omega)
  have h2 := h.lt hk (show k < k + 1 by omega)
  omega
theorem Ce.len {l : List Int} {b : Int} (h : Ce l 1 b) (hb : 0 ≤ b) : (l.length : Int) ≤ b := by
 by_cases h0 : l.length = 0
 ·omega
 ·have h1 := h.ge (l.length - 1) (by omega)
  have h2 := h.mem (List.getElem_mem (show l.length - 1 < l.length by omega))
  omega
theorem rP {l : List Int} {a b : Int} (h : Ce l a b) {x : Int} {p : Nat} (hp : Lo l x p) : Hm l x p = true ↔ x ∈ l := by
 unfold Hm
 rw [decide_eq_true_eq]
 constructor
 ·intro hx; exact List.mem_of_getElem? hx
 ·intro hx
  obtain ⟨j, hj, rfl⟩ := List.getElem_of_mem hx
  obtain ⟨h1, h2, h3⟩ := hp
  by_cases e : j = p
  ·subst e; exact List.getElem?_eq_getElem hj
  ·by_cases e2 : j < p
   ·have := h2 j hj e2; omega
   ·have := h.lt hj (show p < j by omega)
    have := h3 p (by omega) (Nat.le_refl _)
    omega
theorem Tm {l : List Int} {a b : Int} (h : Ce l a b) : l.Pairwise (· < ·) := by
 rw [List.pairwise_iff_getElem]
 intro i j hi hj hij
 exact h.lt hj hij
theorem Xh {l : List Int} {a b : Int} (h1 : ∀ x ∈ l, a ≤ x ∧ x ≤ b) (h2 : l.Pairwise (· < ·)) : Ce l a b := by
 refine Ce.of h1 fun i j hj hij => ?_
 exact List.pairwise_iff_getElem.1 h2 i j (by omega) hj hij
theorem Yc {l : List Int} {x : Int} {p : Nat} (hp : Lo l x p) {y : Int} (hy : y ∈ l.take p) : y < x := by
 obtain ⟨j, hj, rfl⟩ := List.getElem_of_mem hy
 simp only [List.length_take] at hj
 rw [List.getElem_take]
 exact hp.2.1 j (by omega) (by omega)
theorem Yb {l : List Int} {x : Int} {p : Nat} (hp : Lo l x p) {y : Int} (hy : y ∈ l.drop p) : x ≤ y := by
 obtain ⟨j, hj, rfl⟩ := List.getElem_of_mem hy
 simp only [List.length_drop] at hj
 rw [List.getElem_drop]
 exact hp.2.2 _ (by omega) (by omega)
theorem aS {l : List Int} {M : Int} (h : Ce l 1 M) {x : Int} (c : Bool) (hx : c = true → 1 ≤ x ∧ x ≤ M) {p : Nat} (hp : Lo l x p) : Ce (Jq l x c p) 1 M := by
 have hpw := Tm h
 unfold Jq
 split
 ·split
  ·exact h
  ·rename_i hat
   have hn : x ∉ l := fun hm => hat ((rP h hp).2 hm)
   refine Xh (fun y hy => ?_) ?_
   ·rcases List.mem_append.1 hy with hy | hy
    ·rcases List.mem_append.1 hy with hy | hy
     ·exact h.mem (List.mem_of_mem_take hy)
     ·simp only [List.mem_singleton] at hy; subst hy; exact hx (by assumption)
    ·exact h.mem (List.mem_of_mem_drop hy)
   ·rw [List.append_assoc, List.pairwise_append]
    refine ⟨hpw.sublist (List.take_sublist _ _), ?_, fun y hy z hz => ?_⟩
    ·rw [List.singleton_append, List.pairwise_cons]
     refine ⟨fun z hz => ?_, hpw.sublist (List.drop_sublist _ _)⟩
     have h1 := Yb hp hz
     have h2 : z ≠ x := fun e => hn (e ▸ List.mem_of_mem_drop hz)
     omega
    ·have h1 := Yc hp hy
     rcases List.mem_append.1 hz with hz | hz
     ·simp only [List.mem_singleton] at hz; subst hz; exact h1
     ·have := Yb hp hz; omega
 ·split
  ·refine Xh (fun y hy => ?_) ?_
   ·rcases List.mem_append.1 hy with hy | hy
    ·exact h.mem (List.mem_of_mem_take hy)
    ·exact h.mem (List.mem_of_mem_drop hy)
   ·rw [List.pairwise_append]
    refine ⟨hpw.sublist (List.take_sublist _ _), hpw.sublist (List.drop_sublist _ _), fun y hy z hz => ?_⟩
    have h1 := Yc hp hy
    have h2 := Yb hp (y := z) (by
     rw [← List.drop_drop] at hz
     exact (List.drop_sublist 1 _).mem hz)
    omega
  ·exact h
theorem TO {t : Ai} (h : Fi t) {k : Nat} (hk : k < t.Ad.length) : Fi (Ai.mk t.clock t.next (t.Ad.take k ++ t.Ad.drop (k + 1))) := by
 have hget : ∀ j, (t.Ad.take k ++ t.Ad.drop (k + 1))[j]? = if j < k then t.Ad[j]? else t.Ad[j + 1]? := fun j => by
  rw [List.getElem?_append]
  simp only [List.length_take, Nat.min_eq_left (Nat.le_of_lt hk)]
  split
  ·rw [List.getElem?_take]; simp [*]
  ·rw [List.getElem?_drop]; congr 1; omega
 refine ⟨⟨h.1.1, h.1.2.1, by have := h.1.2.2.1; simp; omega, fun j x hx => ?_⟩, h.2.1, fun x hx => ?_⟩
 ·simp only [hget] at hx
  have key : ∀ i, t.Ad[i]? = some x → j ≤ i → (∀ y, 0 < j → (if j - 1 < k then t.Ad[j - 1]? else t.Ad[j - 1 + 1]?) = some y → y.id < x.id) → Ir (Ai.mk t.clock t.next (t.Ad.take k ++ t.Ad.drop (k + 1))) j x := fun i hi hji hy => by
   obtain ⟨a1, a2, a3, a4, a5⟩ := h.1.2.2.2 i x hi
   refine ⟨a1, fun y hp hy' => ?_, a3, a4, a5⟩
   simp only [hget] at hy'
   exact hy y hp hy'
  split at hx
  ·rename_i hjk
   refine key j hx (Nat.le_refl _) fun y hp hy => ?_
   rw [if_pos (by omega)] at hy
   exact (h.1.2.2.2 j x hx).2.1 y hp hy
  ·rename_i hjk
   refine key (j + 1) hx (by omega) fun y hp hy => ?_
   obtain ⟨hlt, rfl⟩ := List.getElem?_eq_some_iff.1 hx
   split at hy
   ·obtain ⟨hlt2, rfl⟩ := List.getElem?_eq_some_iff.1 hy
    exact h.1.lt hlt (by omega)
   ·obtain ⟨hlt2, rfl⟩ := List.getElem?_eq_some_iff.1 hy
    exact h.1.lt hlt (by omega)
 ·simp only at hx
  rcases List.mem_append.1 hx with hx | hx
  ·exact h.2.2 x (List.mem_of_mem_take hx)
  ·exact h.2.2 x (List.mem_of_mem_drop hx)
theorem xR {t : Ai} (h : Fi t) (hn : t.next + 1 ≤ 1000000) : Fi (Ai.mk t.clock (t.next + 1) t.Ad) := by
 have hn1 := h.1.2.1
 refine ⟨⟨h.1.1, by simp only; omega, h.1.2.2.1, fun k x hx => ?_⟩, h.2⟩
 obtain ⟨a1, a2, a3, a4, a5⟩ := h.1.2.2.2 k x hx
 exact ⟨by simp only; omega, a2, a3, a4, a5⟩
end Go.Ev
end
section
set_option maxHeartbeats 1000000
namespace Go.Ev
abbrev VI (n : Nat) (v : Ag) : Prop := Fi v.Ac ∧ Ce v.Ae 1 (v.Ac.next - 1) ∧ v.Aa.length ≤ n ∧ v.Ac.next ≤ 1 + (n : Int)
theorem VI.len {n : Nat} {v : Ag} (h : VI n v) (hn : n ≤ 2000) : v.Ae.length ≤ 2000 := by
 have h1 := h.1.1.2.1
 have h2 := h.2.1.len (by omega)
 have h3 := h.2.2.2
 omega
theorem VI.mono {n m : Nat} {v : Ag} (h : VI n v) (hm : n ≤ m) : VI m v := ⟨h.1, h.2.1, by have := h.2.2.1; omega, by have := h.2.2.2; omega⟩
def Xl (a : Am) : Prop := (a.kind = 1 → 1 ≤ a.ttl ∧ a.ttl ≤ a.Gw ∧ a.Gw ≤ 9223372036854775807) ∧ (a.kind = 2 → 1 ≤ a.ttl ∧ a.ttl ≤ 9223372036854775807) ∧ (a.kind = 4 → a.clock ≤ 9223372036854775807) ∧ a.Dd.length ≤ 1048576
end Go.Ev
end
section
namespace Go.Ev
theorem mW (l : List Int) (f : Int → Option Bool) (p : Int → Bool) (hf : ∀ x ∈ l, f x = some (p x)) (hl : l.length ≤ 4611686018427387903) : vZ l f = some (Gj l p) := Zc l f p hf hl (fun _ => rfl)
theorem RF (l : List Int) (f : Int → Option Bool) (p : Int → Bool) (hf : ∀ x ∈ l, f x = some (p x)) (hl : l.length ≤ 4611686018427387903) : wB l f = some (l.any p) := by
 unfold wB; rw [mW l f p hf hl]; simp only [Option.bind_some, jZ]
theorem g97_eq (l : List Int) (f : Int → Option Bool) (p : Int → Bool) (hf : ∀ x ∈ l, f x = some (p x)) (hl : l.length ≤ 4611686018427387903) : g97 l f = some (l.all p) := by
 unfold g97; rw [RF l _ (fun x => !p x) (fun x hx => by simp [wC, hf x hx]) hl]; simp only [Option.bind_some, AH]
end Go.Ev
end
section
set_option maxHeartbeats 1000000
namespace Go.Ev
abbrev Mz (t : Ai) (x : Int) : Prop := ∀ y ∈ t.Ad, y.id ≠ x
abbrev gA (l : List Af) (x : Int) : Prop := ∀ y ∈ l, y.Av ≠ x
theorem bY {l : List Ab} {x n : Int} (h : Wa l x n) : n < 0 ↔ ∀ y ∈ l, y.id ≠ x := by
 rcases h with ⟨rfl, h⟩ | ⟨k, hk, rfl, h⟩
 ·exact ⟨fun _ => h, fun _ => by omega⟩
 ·exact ⟨fun hh => by omega, fun hh => absurd h (hh _ (List.getElem_mem hk))⟩
theorem bX (t : Ai) (x : Int) (hl : t.Ad.length ≤ 1048576) : ∃ n, AA t x = some n ∧ decide (n < 0) = tf (Mz t x) ∧ decide (n ≥ 0) = !tf (Mz t x) := by
 obtain ⟨n, h1, h2⟩ := Rj t x hl
 have h3 := bY h2
 refine ⟨n, h1, ?_, ?_⟩
 ·rw [Yd]; exact Me h3
 ·rw [Yd, yX]
  refine Me ⟨fun h hh => ?_, fun h => Classical.byContradiction fun hh => h (h3.1 (by omega))⟩
  have := h3.2 hh
  omega
theorem pH (t : Ai) (h : Em t) (x : Int) : ∃ i b, zZ t x = some (i, b) ∧ (!b) = tf (Mz t x) := by
 obtain ⟨n, _, h2⟩ := Rj t x (by have := h.2.2.1; omega)
 obtain ⟨i, b, e1, e2, e3⟩ := eQ t h x n h2
 have h3 := bY h2
 refine ⟨i, b, e1, ?_⟩
 cases b with
 | true =>
  have := (e2 rfl).2
  exact (Dj fun hh => by have := h3.2 hh; omega).symm
 | false =>
  have := e3 rfl
  exact (Er (h3.1 (by omega))).symm
theorem Vi (v : Ag) (x : Int) (hl : v.Aa.length ≤ 1048576) : ∃ n, RA v x = some n ∧ decide (n < 0) = tf (gA v.Aa x) := by
 obtain ⟨r, h1, h2⟩ := Tb (step := Wn v x) (fun s => ∃ k : Nat, s = (k : Int) ∧ k ≤ v.Aa.length ∧ ∀ j, ∀ h : j < v.Aa.length, j < k → v.Aa[j].Av ≠ x) (fun s => (v.Aa.length - s).toNat)
  (fun r => (r = .inl () ∧ gA v.Aa x) ∨ ∃ n : Nat, r = .inr (n : Int) ∧ ¬ gA v.Aa x) 0 ⟨0, rfl, by omega, by intros; omega⟩ (by
   rintro _ ⟨k, rfl, hk, hj⟩
   simp only [Wn]
   by_cases hlt : k < v.Aa.length
   ·rw [if_pos (decide_eq_true (by omega)), Bk hlt]
    simp only [Option.bind_some, w1 (show k < 4611686018427387904 by omega)]
    by_cases hp : v.Aa[k].Av = x
    ·rw [if_pos (by simp [hp])]
     exact .inr ⟨_, rfl, .inr ⟨k, rfl, fun hh => hh _ (List.getElem_mem hlt) hp⟩⟩
    ·rw [if_neg (by simp [hp])]
     refine .inl ⟨_, rfl, ⟨k + 1, rfl, by omega, fun j h hj2 => ?_⟩, by omega⟩
     by_cases e : j = k
     ·subst e; exact hp
     ·exact hj j h (by omega)
   ·rw [if_neg (by simp; omega)]
    refine .inr ⟨_, rfl, .inl ⟨rfl, fun y hy => ?_⟩⟩
    obtain ⟨j, hj1, rfl⟩ := List.getElem_of_mem hy
    exact hj j hj1 (by omega))
 simp only [RA, h1, Option.bind_some]
 rcases h2 with ⟨rfl, h2⟩ | ⟨n, rfl, h2⟩
 ·exact ⟨-1, rfl, by rw [Er h2]; decide⟩
 ·exact ⟨n, rfl, by rw [Dj h2]; simp⟩
theorem cD (l : List Af) (hl : l.length ≤ 1048576) : g95 l = some (l.map Af.Av) := by
 have h := Di (step := Yx l) (fun k => ((l.take k).map Af.Av, (k : Int))) l.length (l.map Af.Av) (fun k hk => by
  simp only [Yx]
  rw [if_pos (decide_eq_true (by omega)), Bk hk]
  simp only [Option.bind_some, w1 (show k < 4611686018427387904 by omega)]
  rw [if_pos (by simp; omega), List.take_succ_eq_append_getElem hk, List.map_append]
  rfl) (by
  simp only [Yx]
  rw [if_neg (by simp), List.take_length])
 simp only [g95]
 rw [show (([] : List Int), (0 : Int)) = ((l.take 0).map Af.Av, ((0 : Nat) : Int)) from rfl, h]
 rfl
theorem jT (a b : List Int) (ha : a.length ≤ 1048576) (hb : b.length ≤ 1048576) : RE [a, b] = some (a ++ b) := by
 have wa : IntKind.i64.wrap (0 + (a.length : Int)) = (a.length : Int) := by rw [wr ⟨by omega, by omega⟩]; omega
 have wb : IntKind.i64.wrap ((a.length : Int) + (b.length : Int)) = (a.length : Int) + (b.length : Int) := wr ⟨by omega, by omega⟩
 have k1 : IntKind.i64.wrap ((0 : Int) + 1) = 1 := by decide
 have k2 : IntKind.i64.wrap ((1 : Int) + 1) = 2 := by decide
 have s0 : Kp [a, b] (0, 0) = some (.inl ((a.length : Int), 1)) := by
  simp only [Kp, Wo]
  rw [if_pos (by simp), show Cg [a, b] (0 : Int) = some a from rfl]
  simp only [Option.bind_some, wa, k1]
  rw [if_neg (by simp)]
 have s1 : Kp [a, b] ((a.length : Int), 1) = some (.inl ((a.length : Int) + (b.length : Int), 2)) := by
  simp only [Kp, Wo]
  rw [if_pos (by simp), show Cg [a, b] (1 : Int) = some b from rfl]
  simp only [Option.bind_some, wb, k2]
  rw [if_neg (by simp; omega)]
 have s2 : Kp [a, b] ((a.length : Int) + (b.length : Int), 2) = some (.inr ((a.length : Int) + (b.length : Int))) := by
  simp only [Kp]
  rw [if_neg (by simp)]
 have u0 : Kq [a, b] ([], 0) = some (.inl (a, 1)) := by
  simp only [Kq]
  rw [if_pos (by simp), show Cg [a, b] (0 : Int) = some a from rfl]
  simp only [Option.bind_some, k1, List.nil_append]
  rw [if_pos (by simp; omega)]
 have u1 : Kq [a, b] (a, 1) = some (.inl (a ++ b, 2)) := by
  simp only [Kq]
  rw [if_pos (by simp), show Cg [a, b] (1 : Int) = some b from rfl]
  simp only [Option.bind_some, k2]
  rw [if_pos (by omega)]
 have u2 : Kq [a, b] (a ++ b, 2) = some (.inr (a ++ b)) := by
  simp only [Kq]
  rw [if_neg (by simp)]
 have hg : RL ([] : List Int) ((a.length : Int) + (b.length : Int)) = some [] := by
  unfold RL
  rw [if_pos ⟨by omega, by simp; omega⟩]
 simp only [RE, De s0, De s1, Dg s2, Option.bind_some, hg, De u0, De u1, Dg u2]
def Rs : List Int → List (Int × Bool) → List (Int × Bool)
 | [], l => l
 | x :: r, l => Rs r (Qt l x true)
theorem cC (x n : Int) (b : Bool) : ∀ l : List (Int × Bool), Kw (Qt l n b) x = if n = x then b else Kw l x
 | [] => by simp [Qt, Kw]
 | (k, c) :: r => by
  simp only [Qt]
  by_cases h : k = n
  ·subst h
   simp only [if_true, Kw]
   split <;> rfl
  ·simp only [h, if_false, Kw, cC x n b r]
   by_cases h2 : k = x
   ·subst h2
    simp [Ne.symm h]
   ·simp [h2]
theorem cB (x : Int) : ∀ (r : List Int) (l : List (Int × Bool)), Kw (Rs r l) x = (decide (x ∈ r) || Kw l x)
 | [], l => by simp [Rs]
 | y :: r, l => by
  rw [Rs, cB x r, cC]
  by_cases h : y = x
  ·subst h; simp
  ·by_cases h2 : x ∈ r
   ·simp [h2]
   ·simp [h, h2, Ne.symm h]
theorem yH (r : List Int) (hl : r.length ≤ 4194304) : ∃ m, Bm (Uq r) (0, []) = some m ∧ ∀ x, Kw m x = decide (x ∈ r) := by
 have h := Di (step := Uq r) (fun k => ((k : Int), Rs (r.take k) [])) r.length (Rs r []) (fun k hk => by
  simp only [Uq]
  rw [if_pos (decide_eq_true (by omega)), Bk hk]
  simp only [Option.bind_some, Int.toNat_natCast]
  rw [List.getElem?_eq_getElem hk]
  simp only [Option.bind_some, w1 (show k < 4611686018427387904 by omega)]
  congr 3
  rw [List.take_succ_eq_append_getElem hk]
  generalize r.take k = q
  generalize ([] : List (Int × Bool)) = l
  induction q generalizing l with
  | nil => rfl
  | cons y q ih => exact ih _) (by
  simp only [Uq]
  rw [if_neg (by simp), List.take_length])
 refine ⟨Rs r [], h, fun x => ?_⟩
 rw [cB]
 simp [Kw]
def Rw (v : Ag) (x : Int) : Prop := ¬ Mz v.Ac x ∨ ¬ gA v.Aa x
theorem cG (v : Ag) (x : Int) : x ∈ v.Ac.Ad.map Ab.id ++ v.Aa.map Af.Av ↔ Rw v x := by
 simp [Rw]
theorem dL {α : Type} (l : List α) (p : α → Bool) : (Gj l p = -1 ∧ ∀ x ∈ l, p x = false) ∨ ∃ k, ∃ h : k < l.length, Gj l p = (k : Int) ∧ p l[k] = true := by
 unfold Gj
 cases hf : l.findIdx? p with
 | none => exact .inl ⟨rfl, fun x hx => List.findIdx?_eq_none_iff.1 hf x hx⟩
 | some k =>
  obtain ⟨h, h1, _⟩ := List.findIdx?_eq_some_iff_getElem.1 hf
  exact .inr ⟨k, h, rfl, h1⟩
theorem yV (v : Ag) (h1 : v.Ac.Ad.length ≤ 1048576) (h2 : v.Aa.length ≤ 1048576) (h3 : v.Ae.length ≤ 1048576) : ∃ q, g96 v = some q ∧ (!q.2) = tf (∀ a ∈ v.Ae, Rw v a) := by
 obtain ⟨m, m1, m2⟩ := yH (v.Ac.Ad.map Ab.id ++ v.Aa.map Af.Av) (by simp; omega)
 have hp : ∀ x ∈ v.Ae, (fun z => wA z m) x = some (!decide (x ∈ v.Ac.Ad.map Ab.id ++ v.Aa.map Af.Av)) := fun x _ => by simp only [wA, m2]
 have hf := mW v.Ae _ (fun x => !decide (x ∈ v.Ac.Ad.map Ab.id ++ v.Aa.map Af.Av)) hp (by omega)
 simp only [g96, wI v.Ac h1, cD v.Aa h2, Option.bind_some, jT _ _ (show (v.Ac.Ad.map Ab.id).length ≤ 1048576 by simpa using h1) (show (v.Aa.map Af.Av).length ≤ 1048576 by simpa using h2), m1, hf]
 rcases dL v.Ae (fun x => !decide (x ∈ v.Ac.Ad.map Ab.id ++ v.Aa.map Af.Av)) with ⟨e1, e2⟩ | ⟨k, hk, e1, e2⟩
 ·rw [e1, if_pos (by decide)]
  refine ⟨_, rfl, (Er fun a ha => ?_).symm⟩
  have := e2 a ha
  simp only [Bool.not_eq_false', decide_eq_true_eq] at this
  exact (cG v a).1 this
 ·rw [e1, if_neg (by simp), Bk hk]
  refine ⟨_, rfl, (Dj fun hh => ?_).symm⟩
  simp only [Bool.not_eq_true', decide_eq_false_iff_not] at e2
  exact e2 ((cG v _).2 (hh _ (List.getElem_mem hk)))
theorem TD (v : Ag) (h1 : v.Ac.Ad.length ≤ 1048576) (h2 : v.Aa.length ≤ 1048576) (h3 : v.Ae.length ≤ 1048576) (hpos : ∀ a ∈ v.Ae, 1 ≤ a) : ∃ n, g93 v = some n ∧ (n == 0) = tf (∀ a ∈ v.Ae, Rw v a) := by
 obtain ⟨r, e1, e2⟩ := Tb (step := eW v) (fun s => ∃ k : Nat, s = (k : Int) ∧ k ≤ v.Ae.length ∧ ∀ j, ∀ h : j < v.Ae.length, j < k → Rw v v.Ae[j]) (fun s => (v.Ae.length - s).toNat)
  (fun r => (r = .inl () ∧ ∀ a ∈ v.Ae, Rw v a) ∨ ∃ a, r = .inr a ∧ a ∈ v.Ae ∧ ¬ Rw v a) 0 ⟨0, rfl, by omega, by intros; omega⟩ (by
   rintro _ ⟨k, rfl, hk, hj⟩
   simp only [eW]
   by_cases hlt : k < v.Ae.length
   ·rw [if_pos (decide_eq_true (by omega)), Bk hlt]
    obtain ⟨n, f1, f2, _⟩ := bX v.Ac v.Ae[k] h1
    obtain ⟨n2, f3, f4⟩ := Vi v v.Ae[k] h2
    simp only [Option.bind_some, f1, f2, w1 (show k < 4611686018427387904 by omega)]
    by_cases hn : Mz v.Ac v.Ae[k]
    ·simp only [Er hn, beq_self_eq_true, if_true, Option.bind_some, f3, f4, cond_true]
     by_cases hi : gA v.Aa v.Ae[k]
     ·rw [if_pos (Er hi)]
      refine .inr ⟨_, rfl, .inr ⟨_, rfl, List.getElem_mem hlt, ?_⟩⟩
      rintro (hh | hh)
      ·exact hh hn
      ·exact hh hi
     ·rw [if_neg (by simp [Dj hi])]
      refine .inl ⟨_, rfl, ⟨k + 1, rfl, by omega, fun j h hj2 => ?_⟩, by omega⟩
      by_cases e : j = k
      ·subst e; exact .inr hi
      ·exact hj j h (by omega)
    ·simp only [Dj hn, show (false == true) = false from rfl, Bool.false_eq_true, if_false, Option.bind_some, cond_false]
     obtain ⟨d, d1, _⟩ := Vi v v.Ae[k] h2
     refine .inl ⟨_, rfl, ⟨k + 1, rfl, by omega, fun j h hj2 => ?_⟩, by omega⟩
     by_cases e : j = k
     ·subst e; exact .inl hn
     ·exact hj j h (by omega)
   ·rw [if_neg (by simp; omega)]
    refine .inr ⟨_, rfl, .inl ⟨rfl, fun y hy => ?_⟩⟩
    obtain ⟨j, hj1, rfl⟩ := List.getElem_of_mem hy
    exact hj j hj1 (by omega))
 simp only [g93, e1, Option.bind_some]
 rcases e2 with ⟨rfl, e2⟩ | ⟨a, rfl, e2, e3⟩
 ·exact ⟨0, rfl, by rw [Er e2]; rfl⟩
 ·refine ⟨a, rfl, ?_⟩
  rw [Dj fun hh => e3 (hh a e2)]
  have := hpos a e2
  simp; omega
abbrev Xo (v : Ag) (k : Nat) (x : Af) : Prop := (1 ≤ x.Av ∧ x.Av ≤ v.Ac.next - 1) ∧ (∀ y, 0 < k → v.Aa[k - 1]? = some y → y.Av < x.Av) ∧ Mz v.Ac x.Av
theorem fA (v : Ag) (hn : 1 ≤ v.Ac.next ∧ v.Ac.next ≤ 1000000) (h1 : v.Ac.Ad.length ≤ 1048576) (h2 : v.Aa.length ≤ 1048576) :
  Bm (Yp v) 0 = some (if tf (∀ k x, v.Aa[k]? = some x → Xo v k x) = true then .inl () else .inr false) := by
 refine Tc v.Aa _ (fun k hk _ => ?_) ?_
 ·have hw2 : IntKind.i64.wrap ((k : Int) - 1) = (k : Int) - 1 := wr ⟨by omega, by omega⟩
  have hw4 : IntKind.i64.wrap (v.Ac.next - 1) = v.Ac.next - 1 := wr ⟨by omega, by omega⟩
  simp only [Yp]
  rw [if_pos (decide_eq_true (by omega)), Bk hk]
  generalize hx : v.Aa[k] = x
  obtain ⟨n, f1, f2, f3⟩ := bX v.Ac x.Av h1
  simp only [Option.bind_some, eO, hw2, hw4, f1, w1 (show k < 4611686018427387904 by omega)]
  have hm : 0 < k → Cg v.Aa ((k : Int) - 1) = v.Aa[k - 1]? := fun h => by
   have : ((k : Int) - 1) = ((k - 1 : Nat) : Int) := by omega
   rw [this, Mq]
  obtain ⟨y, q1, q2⟩ := Qq (o := Cg v.Aa ((k : Int) - 1)) (g := ((!tf (1 ≤ x.Av ∧ x.Av ≤ v.Ac.next - 1)) == false && decide ((k : Int) > 0) == true)) (fun h => by
   rw [hm (by simp at h; omega)]
   exact ⟨_, List.getElem?_eq_getElem (by omega)⟩)
  rw [q1]
  simp only [Option.bind_some, Bd]
  by_cases hr : 1 ≤ x.Av ∧ x.Av ≤ v.Ac.next - 1
  ·simp only [Er hr, Bool.not_true, cond_false]
   by_cases hk0 : 0 < k
   ·have hg : ((!tf (1 ≤ x.Av ∧ x.Av ≤ v.Ac.next - 1)) == false && decide ((k : Int) > 0) == true) = true := by simp [tf_iff, hr]; omega
    have hy : v.Aa[k - 1]? = some y := by rw [← hm hk0]; exact q2 hg
    have e3 : (∀ z, 0 < k → v.Aa[k - 1]? = some z → z.Av < x.Av) ↔ y.Av < x.Av := by
     rw [hy]; exact ⟨fun h => h y hk0 rfl, fun h z _ hz => by cases hz; exact h⟩
    rw [decide_eq_true (show (k : Int) > 0 by omega)]
    simp only [cond_true]
    by_cases hyx : y.Av < x.Av
    ·rw [decide_eq_false (show ¬ y.Av ≥ x.Av by omega)]
     simp only [beq_self_eq_true, if_true, Option.bind_some, cond_false, f3]
     refine ⟨_, ?_, rfl⟩
     simp [Xo, hr, e3, hyx]
    ·rw [decide_eq_true (show y.Av ≥ x.Av by omega)]
     simp only [show (true == false) = false from rfl, Bool.false_eq_true, if_false, Option.bind_some, cond_true]
     refine ⟨true, ?_, by simp⟩
     simp [Xo, e3, hyx]
   ·have e3 : (∀ z, 0 < k → v.Aa[k - 1]? = some z → z.Av < x.Av) ↔ True := ⟨fun _ => trivial, fun _ z h => absurd h hk0⟩
    rw [decide_eq_false (show ¬ (k : Int) > 0 by omega)]
    simp only [cond_false, beq_self_eq_true, if_true, Option.bind_some, f3]
    refine ⟨_, ?_, rfl⟩
    simp [Xo, hr, e3]
  ·simp only [Dj hr, Bool.not_false, cond_true, show (true == false) = false from rfl, Bool.false_eq_true, if_false, Option.bind_some]
   refine ⟨true, ?_, by simp⟩
   simp [Xo, hr]
 ·simp only [Yp]
  rw [if_neg (by simp)]
theorem Vj (v : Ag) : (∀ k x, v.Aa[k]? = some x → Xo v k x) ↔ Ce (v.Aa.map Af.Av) 1 (v.Ac.next - 1) ∧ ∀ x ∈ v.Aa.map Af.Av, Mz v.Ac x := by
 constructor
 ·intro h
  refine ⟨fun k x hx => ?_, fun x hx => ?_⟩
  ·rw [List.getElem?_map, Option.map_eq_some_iff] at hx
   obtain ⟨i, hi, rfl⟩ := hx
   obtain ⟨a1, a2, _⟩ := h k i hi
   refine ⟨a1, fun y hp hy => ?_⟩
   rw [List.getElem?_map, Option.map_eq_some_iff] at hy
   obtain ⟨j, hj, rfl⟩ := hy
   exact a2 j hp hj
  ·obtain ⟨i, hi, rfl⟩ := List.mem_map.1 hx
   obtain ⟨k, hk, rfl⟩ := List.getElem_of_mem hi
   exact (h k _ (List.getElem?_eq_getElem hk)).2.2
 ·rintro ⟨h1, h2⟩ k x hx
  have hl : (v.Aa.map Af.Av)[k]? = some x.Av := by rw [List.getElem?_map, hx]; rfl
  obtain ⟨a1, a2⟩ := h1 k _ hl
  refine ⟨a1, fun y hp hy => a2 _ hp (by rw [List.getElem?_map, hy]; rfl), h2 _ (List.mem_map.2 ⟨x, List.mem_of_getElem? hx, rfl⟩)⟩
def Mh (v : Ag) : Prop := Em v.Ac ∧ v.Aa.length ≤ 40 ∧ v.Ae.length ≤ 80 ∧ Ce v.Ae 1 (v.Ac.next - 1) ∧ Ce (v.Aa.map Af.Av) 1 (v.Ac.next - 1) ∧ (∀ x ∈ v.Aa.map Af.Av, Mz v.Ac x) ∧ ∀ a ∈ v.Ae, Rw v a
theorem lN (v : Ag) (h1 : v.Ac.Ad.length ≤ 1048576) (h2 : v.Aa.length ≤ 1048576) (h3 : v.Ae.length ≤ 1048576) (hn : I64 v.Ac.next) : g46 v = some (tf (Mh v)) := by
 simp only [g46, Adl, Option.bind_some]
 by_cases p1 : Em v.Ac
 ·have hn1 := p1.2.1
  have hw4 : IntKind.i64.wrap (v.Ac.next - 1) = v.Ac.next - 1 := wr ⟨by omega, by omega⟩
  simp only [Er p1, Bool.not_true, cond_false]
  by_cases p2 : v.Aa.length ≤ 40
  ·rw [decide_eq_false (show ¬ (v.Aa.length : Int) > 40 by omega)]
   simp only [cond_false]
   by_cases p3 : v.Ae.length ≤ 80
   ·rw [decide_eq_false (show ¬ (v.Ae.length : Int) > 80 by omega)]
    simp only [beq_self_eq_true, if_true, g85_eq v.Ae v.Ac.next ⟨by omega, by omega⟩ h3, Option.bind_some, Bd, cond_false]
    by_cases p4 : Ce v.Ae 1 (v.Ac.next - 1)
    ·rw [if_neg (by simp [Er p4]), fA v hn1 h1 h2]
     by_cases p5 : ∀ k x, v.Aa[k]? = some x → Xo v k x
     ·simp only [Er p5, if_true, Option.bind_some]
      obtain ⟨n, e1, e2⟩ := TD v h1 h2 h3 (fun a ha => (by
       obtain ⟨k, hk, rfl⟩ := List.getElem_of_mem ha
       exact (p4 k _ (List.getElem?_eq_getElem hk)).1.1))
      simp only [e1, Option.bind_some, e2]
      refine congrArg some (Me ⟨fun h => ?_, fun h => h.2.2.2.2.2.2⟩)
      obtain ⟨q1, q2⟩ := (Vj v).1 p5
      exact ⟨p1, p2, p3, p4, q1, q2, h⟩
     ·simp only [Dj p5, Bool.false_eq_true, if_false, Option.bind_some]
      refine congrArg some (Dj fun h => p5 ((Vj v).2 ⟨h.2.2.2.2.1, h.2.2.2.2.2.1⟩)).symm
    ·rw [if_pos (by simp [Dj p4])]
     exact congrArg some (Dj fun h => p4 h.2.2.2.1).symm
   ·rw [decide_eq_true (show (v.Ae.length : Int) > 80 by omega)]
    simp only [show (true == false) = false from rfl, Bool.false_eq_true, if_false, Option.bind_some, Bd, cond_true, if_true]
    exact congrArg some (Dj fun h => p3 h.2.2.1).symm
  ·rw [decide_eq_true (show (v.Aa.length : Int) > 40 by omega)]
   simp only [cond_true, show (true == false) = false from rfl, Bool.false_eq_true, if_false, Option.bind_some, Bd, if_true]
   exact congrArg some (Dj fun h => p2 h.2.1).symm
 ·simp only [Dj p1, Bool.not_false, cond_true, show (true == false) = false from rfl, Bool.false_eq_true, if_false, Option.bind_some, Bd, if_true]
  exact congrArg some (Dj fun h => p1 h.1).symm
theorem Zb (v : Ag) (h1 : v.Ac.Ad.length ≤ 1048576) (h2 : v.Aa.length ≤ 1048576) (h3 : v.Ae.length ≤ 1048576) (hn : I64 v.Ac.next) : g48 v = some (tf (Mh v)) := by
 simp only [g48, Adm v.Ac h1 hn, Option.bind_some]
 by_cases p1 : Em v.Ac
 ·have hn1 := p1.2.1
  have hw4 : IntKind.i64.wrap (v.Ac.next - 1) = v.Ac.next - 1 := wr ⟨by omega, by omega⟩
  simp only [Er p1, Bool.not_true, cond_false, hw4]
  by_cases p2 : v.Aa.length ≤ 40
  ·rw [decide_eq_false (show ¬ (v.Aa.length : Int) > 40 by omega)]
   simp only [cond_false, beq_self_eq_true, if_true, cD v.Aa h2, Option.bind_some, eP _ 1 (v.Ac.next - 1) (show (v.Aa.map Af.Av).length ≤ 1048576 by simpa using h2)]
   by_cases p5 : Ce (v.Aa.map Af.Av) 1 (v.Ac.next - 1)
   ·simp only [Er p5, Bool.not_true, cond_false]
    by_cases p3 : v.Ae.length ≤ 80
    ·rw [decide_eq_false (show ¬ (v.Ae.length : Int) > 80 by omega)]
     simp only [beq_self_eq_true, if_true, eP v.Ae 1 (v.Ac.next - 1) h3, Option.bind_some, Bd, cond_false]
     by_cases p4 : Ce v.Ae 1 (v.Ac.next - 1)
     ·rw [if_neg (by simp [Er p4])]
      obtain ⟨q, e1, e2⟩ := yV v h1 h2 h3
      simp only [e1, Option.bind_some, e2]
      have hp : ∀ x ∈ v.Aa.map Af.Av, (fun z => g98 z v) x = some (tf (Mz v.Ac x)) := fun x _ => by
       obtain ⟨i, b, f1, f2⟩ := pH v.Ac p1 x
       simp only [g98, f1, Option.bind_some, f2]
      have hall := g97_eq (v.Aa.map Af.Av) _ (fun x => tf (Mz v.Ac x)) hp (by simp; omega)
      have e4 : (v.Aa.map Af.Av).all (fun x => tf (Mz v.Ac x)) = tf (∀ x ∈ v.Aa.map Af.Av, Mz v.Ac x) := by
       rw [Bool.eq_iff_iff, tf_iff, List.all_eq_true]
       exact ⟨fun h x hx => tf_iff.1 (h x hx), fun h x hx => tf_iff.2 (h x hx)⟩
      by_cases p7 : ∀ a ∈ v.Ae, Rw v a
      ·simp only [Er p7, beq_self_eq_true, if_true, Option.bind_some, hall, e4, cond_true]
       exact congrArg some (Me ⟨fun h => ⟨p1, p2, p3, p4, p5, h, p7⟩, fun h => h.2.2.2.2.2.1⟩)
      ·simp only [Dj p7, show (false == true) = false from rfl, Bool.false_eq_true, if_false, Option.bind_some, cond_false]
       exact congrArg some (Dj fun h => p7 h.2.2.2.2.2.2).symm
     ·rw [if_pos (by simp [Dj p4])]
      exact congrArg some (Dj fun h => p4 h.2.2.2.1).symm
    ·rw [decide_eq_true (show (v.Ae.length : Int) > 80 by omega)]
     simp only [show (true == false) = false from rfl, Bool.false_eq_true, if_false, Option.bind_some, Bd, cond_true, if_true]
     exact congrArg some (Dj fun h => p3 h.2.2.1).symm
   ·simp only [Dj p5, Bool.not_false, cond_true, show (true == false) = false from rfl, Bool.false_eq_true, if_false, Option.bind_some, Bd, if_true]
    exact congrArg some (Dj fun h => p5 h.2.2.2.2.1).symm
  ·rw [decide_eq_true (show (v.Aa.length : Int) > 40 by omega)]
   simp only [cond_true, show (true == false) = false from rfl, Bool.false_eq_true, if_false, Option.bind_some, Bd, if_true]
   exact congrArg some (Dj fun h => p2 h.2.1).symm
 ·simp only [Dj p1, Bool.not_false, cond_true, show (true == false) = false from rfl, Bool.false_eq_true, if_false, Option.bind_some, Bd, if_true]
  exact congrArg some (Dj fun h => p1 h.1).symm
end Go.Ev
end
