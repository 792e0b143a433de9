/- Plain words: loops of one kind, whatever the elements are. -/
import Derived.Test.YtdmclbbhhcpjfaaQwA
import Derived.Test.YtdmclbbhhcpjfaaQvM
set_option linter.all false
namespace Go.Ev

/-! ### Invariants -/
theorem iterI {σ ρ : Type} {step : σ → Option (σ ⊕ ρ)} (I : σ → Prop) (μ : σ → Nat) (R : ρ → Prop) (s0 : σ) (h0 : I s0)
    (h : ∀ s, I s → (∃ s', step s = some (.inl s') ∧ I s' ∧ μ s' < μ s) ∨ (∃ r, step s = some (.inr r) ∧ R r)) : ∃ r, iter step s0 = some r ∧ R r := by
  have key : ∀ (n : Nat) (s0 : σ), μ s0 < n → I s0 → ∃ r, iter step s0 = some r ∧ R r := by
    intro n
    induction n with
    | zero => intro s0 hn; omega
    | succ n ih =>
      intro s0 hn hI
      rcases h s0 hI with ⟨s', h1, h2, h3⟩ | ⟨r, h1, h2⟩
      · obtain ⟨r, h4, h5⟩ := ih s' (by omega) h2
        exact ⟨r, by rw [iter_next h1, h4], h5⟩
      · exact ⟨r, iter_end h1, h2⟩
  exact key (μ s0 + 1) s0 (by omega) h0

/-- One step onward. -/
theorem w1 {k : Nat} (h : k < 4611686018427387904) : IntKind.i64.wrap ((k : Int) + 1) = ((k + 1 : Nat) : Int) := wr ⟨by omega, by omega⟩

/-! ### Parts of lists -/
theorem slcK {α : Type} (l : List α) (a b : Nat) (h : a ≤ b) (h2 : b ≤ l.length) : slc l (a : Int) (b : Int) = some ((l.take b).drop a) := by
  unfold slc
  rw [if_pos ⟨by omega, by omega, by omega⟩]
  simp
theorem ovlK {α : Type} (l : List α) (n : Nat) (y : List α) (h : n + y.length = l.length) : ovl l n y = l.take n ++ y := by
  apply List.ext_getElem
  · simp [ovl]; omega
  · intro k h1 h2
    simp only [ovl, List.length_mapIdx] at h1
    simp only [ovl, List.getElem_mapIdx, List.getElem_append]
    by_cases hn : n ≤ k
    · rw [if_pos hn, dif_neg (by simp; omega), List.getElem?_eq_getElem (by omega : k - n < y.length)]
      simp only [Option.getD_some, List.length_take]
      congr 1; omega
    · rw [if_neg hn, dif_pos (by simp; omega), List.getElem_take]

/-! ### The first one for which something is so -/
def firstOf {α : Type} (l : List α) (p : α → Bool) : Int := match l.findIdx? p with
  | some k => (k : Int)
  | none => -1
theorem index_loop {α : Type} (l : List α) (f : α → Option Bool) (p : α → Bool) (hf : ∀ x ∈ l, f x = some (p x)) (hl : l.length ≤ 4611686018427387903) {step : Int → Option (Int ⊕ (Unit ⊕ Int))}
    (hs : ∀ s, step s = if decide (s < (l.length : Int)) = true then (idx l s).bind fun y => (f y).bind fun r => if r = true then some (.inr (.inr s)) else some (.inl (IntKind.i64.wrap (s + 1))) else some (.inr (.inl ()))) :
    (iter step 0).bind (fun r => match r with | .inl () => some (-1) | .inr q => some q) = some (firstOf l p) := by
  have go : ∀ k (hk : k < l.length), p l[k] = false → step (k : Int) = some (.inl ((k + 1 : Nat) : Int)) := fun k hk hp => by
    rw [hs, if_pos (decide_eq_true (by omega)), idx_lt hk]
    simp [hf _ (List.getElem_mem hk), hp, w1 (show k < 4611686018427387904 by omega)]
  unfold firstOf
  cases hfi : l.findIdx? p with
  | none =>
    have hall : ∀ x ∈ l, p x = false := by simpa using List.findIdx?_eq_none_iff.1 hfi
    have := iter_upto (step := step) (fun k => (k : Int)) l.length (.inl ()) (fun k hk => go k hk (hall _ (List.getElem_mem hk))) (by rw [hs, if_neg (by simp)])
    rw [show (0 : Int) = ((0 : Nat) : Int) from rfl, this]
    rfl
  | some k =>
    obtain ⟨hk, hp, hj⟩ := List.findIdx?_eq_some_iff_getElem.1 hfi
    have := iter_run (step := step) (fun k => (k : Int)) k (fun j hj' => go j (by omega) (by simpa using hj j hj'))
    rw [show (0 : Int) = ((0 : Nat) : Int) from rfl, this, iter_end (r := .inr (k : Int)) (by
      rw [hs, if_pos (decide_eq_true (by omega)), idx_lt hk]
      simp [hf _ (List.getElem_mem hk), hp])]
    rfl
theorem firstOf_ge {α : Type} (l : List α) (p : α → Bool) : decide (firstOf l p ≥ 0) = l.any p := by
  unfold firstOf
  cases hfi : l.findIdx? p with
  | none =>
    have hall : ∀ x ∈ l, p x = false := by simpa using List.findIdx?_eq_none_iff.1 hfi
    rw [show l.any p = false from List.any_eq_false.2 fun x hx => by simp [hall x hx]]
    rfl
  | some k =>
    obtain ⟨hk, hp, hj⟩ := List.findIdx?_eq_some_iff_getElem.1 hfi
    rw [show l.any p = true from List.any_eq_true.2 ⟨_, List.getElem_mem hk, hp⟩]
    simp
theorem all_any {α : Type} (l : List α) (p : α → Bool) : (!l.any fun x => !p x) = l.all p := by
  induction l with
  | nil => rfl
  | cons x r ih => simp only [List.any_cons, List.all_cons, Bool.not_or, Bool.not_not, ih]

/-! ### Sorting out -/
theorem delete_loop {α : Type} (l : List α) (f : α → Option Bool) (p : α → Bool) (hf : ∀ x ∈ l, f x = some (p x)) (hl : l.length ≤ 4611686018427387903) (z : α) {step : List α × Int × Int → Option ((List α × Int × Int) ⊕ (List α × Int))}
    (hs : ∀ row i j, step (row, i, j) = if decide (j < (row.length : Int)) = true then (idx row j).bind fun _ => (row[j.toNat]?).bind fun y => (f y).bind fun r =>
      if (!r) = true then (idx row i).bind fun _ => (row[i.toNat]?).bind fun _ => some (.inl (row.set i.toNat y, IntKind.i64.wrap (i + 1), IntKind.i64.wrap (j + 1))) else some (.inl (row, i, IntKind.i64.wrap (j + 1)))
      else some (.inr (row, i))) :
    (if (firstOf l p == (-1)) = true then some l else (iter step (l, firstOf l p, IntKind.i64.wrap (firstOf l p + 1))).bind fun r =>
      (match r with
      | (a, b) => (slc a b (a.length : Int)).bind fun s => (slc (ovl a b.toNat (List.replicate s.length z)) 0 b).bind fun s2 => some s2)) = some (l.filter fun x => !p x) := by
  unfold firstOf
  cases hfi : l.findIdx? p with
  | none =>
    have hall : ∀ x ∈ l, p x = false := by simpa using List.findIdx?_eq_none_iff.1 hfi
    rw [if_pos (by rfl)]
    congr 1
    exact (List.filter_eq_self.2 fun x hx => by simp [hall x hx]).symm
  | some k =>
    obtain ⟨hk, hp, hj⟩ := List.findIdx?_eq_some_iff_getElem.1 hfi
    simp only
    rw [if_neg (by simp)]
    have hk0 : l.take k = (l.take (k + 1)).filter fun x => !p x := by
      rw [List.take_succ_eq_append_getElem hk, List.filter_append]
      have e1 : (l.take k).filter (fun x => !p x) = l.take k := List.filter_eq_self.2 fun x hx => by
        obtain ⟨j, hj1, rfl⟩ := List.getElem_of_mem hx
        simp only [List.length_take] at hj1
        have := hj j (by omega)
        simpa using this
      rw [e1]; simp [hp]
    obtain ⟨r, h3, h4⟩ := iterI (step := step) (fun s => ∃ i j : Nat, s.2.1 = i ∧ s.2.2 = j ∧ i ≤ j ∧ j ≤ l.length ∧ s.1.length = l.length ∧ s.1.take i = (l.take j).filter (fun x => !p x) ∧ s.1.drop j = l.drop j)
      (fun s => (l.length - s.2.2).toNat) (fun r => ∃ i : Nat, r.2 = i ∧ i ≤ r.1.length ∧ r.1.length = l.length ∧ r.1.take i = l.filter fun x => !p x) (l, (k : Int), IntKind.i64.wrap ((k : Int) + 1))
      ⟨k, k + 1, rfl, w1 (by omega), by omega, by omega, rfl, hk0, rfl⟩ (by
        rintro ⟨row, _, _⟩ ⟨i, j, rfl, rfl, hij, hjl, hlen, ht, hd⟩
        simp only at hlen ht hd
        rw [hs]
        by_cases hlt : j < l.length
        · have hrj : row[j]'(by omega) = l[j] := by
            have e1 := congrArg (fun z => z[0]?) hd
            simp only [List.getElem?_drop, Nat.add_zero] at e1
            rw [List.getElem?_eq_getElem (by omega), List.getElem?_eq_getElem hlt] at e1
            exact Option.some.inj e1
          have hwi := w1 (show i < 4611686018427387904 by omega)
          have hwj := w1 (show j < 4611686018427387904 by omega)
          have hd' : row.drop (j + 1) = l.drop (j + 1) := by
            have := congrArg (List.drop 1) hd
            simpa [List.drop_drop, Nat.add_comm] using this
          rw [if_pos (decide_eq_true (by omega)), idx_lt (by omega)]
          simp only [Option.bind_some, Int.toNat_natCast]
          rw [List.getElem?_eq_getElem (by omega)]
          simp only [Option.bind_some, hrj, hf _ (List.getElem_mem hlt)]
          left
          cases hpj : p l[j] with
          | false =>
            rw [if_pos (by rfl), idx_lt (by omega)]
            simp only [Option.bind_some]
            rw [List.getElem?_eq_getElem (by omega)]
            simp only [Option.bind_some, hwi, hwj]
            refine ⟨_, rfl, ⟨i + 1, j + 1, rfl, rfl, by omega, by omega, by simp [hlen], ?_, ?_⟩, by simp only; omega⟩
            · simp only
              rw [List.take_succ_eq_append_getElem (by simp; omega), List.take_succ_eq_append_getElem hlt, List.filter_append, ← ht]
              simp [hpj, List.take_set_of_le]
            · simp only
              rw [List.drop_set_of_lt (by omega), hd']
          | true =>
            rw [if_neg (by simp)]
            simp only [hwj]
            refine ⟨_, rfl, ⟨i, j + 1, rfl, rfl, by omega, by omega, hlen, ?_, hd'⟩, by simp only; omega⟩
            simp only
            rw [List.take_succ_eq_append_getElem hlt, List.filter_append, ← ht]
            simp [hpj]
        · rw [if_neg (by simp; omega)]
          right
          refine ⟨_, rfl, i, rfl, by simp only; omega, hlen, ?_⟩
          simp only
          rw [ht, List.take_of_length_le (by omega)])
    obtain ⟨row, i'⟩ := r
    obtain ⟨i, hi, hil, hlen, ht⟩ := h4
    simp only at hi hil hlen ht
    subst hi
    rw [h3]
    simp only [Option.bind_some]
    rw [slcK _ _ _ hil (Nat.le_refl _)]
    simp only [Option.bind_some, Int.toNat_natCast, List.take_length]
    rw [ovlK _ _ _ (by simp; omega)]
    have e := slcK (row.take i ++ List.replicate (row.drop i).length z) 0 i (by omega) (by simp; omega)
    rw [show ((0 : Nat) : Int) = 0 from rfl] at e
    rw [e]
    simp only [Option.bind_some, List.drop_zero]
    rw [List.take_append_of_le_length (by simp; omega), List.take_take, Nat.min_self, ht]

/-! ### Element by element -/
theorem to_loop {α β : Type} (l : List β) (F : β → α) (z : α) {step : List α × Int → Option ((List α × Int) ⊕ List α)}
    (hs : ∀ k (hk : k < l.length) (p : List α), p.length = l.length → step (p, (k : Int)) = some (.inl (p.set k (F l[k]), ((k + 1 : Nat) : Int)))) (he : ∀ p : List α, p.length = l.length → step (p, (l.length : Int)) = some (.inr p)) :
    iter step (List.replicate l.length z, 0) = some (l.map F) := by
  have h := iter_upto (step := step) (fun k => ((l.take k).map F ++ List.replicate (l.length - k) z, (k : Int))) l.length (l.map F) (fun k hk => by
    rw [hs k hk _ (by simp; omega)]
    congr 3
    rw [List.set_append, if_neg (by simp; omega), List.take_succ_eq_append_getElem hk, List.map_append, List.append_assoc]
    congr 1
    have e : l.length - k = (l.length - (k + 1)) + 1 := by omega
    have e2 : k - ((l.take k).map F).length = 0 := by simp; omega
    rw [e, List.replicate_succ, e2]
    rfl) (by
    rw [he _ (by simp)]
    simp)
  simpa using h
/-- What is appended, one for each element. -/
theorem push_loop {α β : Type} (l : List β) (F : β → α) {step : List α × Int → Option ((List α × Int) ⊕ List α)}
    (hs : ∀ k (hk : k < l.length) (p : List α), p.length = k → step (p, (k : Int)) = some (.inl (p ++ [F l[k]], ((k + 1 : Nat) : Int)))) (he : ∀ p : List α, p.length = l.length → step (p, (l.length : Int)) = some (.inr p)) :
    iter step ([], 0) = some (l.map F) := by
  have h := iter_upto (step := step) (fun k => ((l.take k).map F, (k : Int))) l.length (l.map F) (fun k hk => by
    rw [hs k hk _ (by simp; omega), List.take_succ_eq_append_getElem hk, List.map_append]
    rfl) (by
    rw [he _ (by simp)]
    simp)
  simpa using h
theorem same_loop {α : Type} (l : List α) {step : Int → Option (Int ⊕ (Unit ⊕ Bool))}
    (hs : ∀ k, k < l.length → step (k : Int) = some (.inl ((k + 1 : Nat) : Int))) (he : step (l.length : Int) = some (.inr (.inl ()))) : iter step 0 = some (.inl ()) :=
  iter_upto (step := step) (fun k => (k : Int)) l.length (.inl ()) hs he

/-! ### Marks -/
def marked {α : Type} (mk : Int → α → α) (w : Nat) (l : List α) (a : Int) : List α := l.mapIdx fun i x => mk (a + (w : Int) * (i : Int)) x
@[simp] theorem marked_len {α : Type} (mk : Int → α → α) (w : Nat) (l : List α) (a : Int) : (marked mk w l a).length = l.length := by simp [marked]
theorem marked_get {α : Type} (mk : Int → α → α) (w : Nat) (l : List α) (a : Int) (k : Nat) (h : k < (marked mk w l a).length) :
    (marked mk w l a)[k] = mk (a + (w : Int) * (k : Int)) (l[k]'(by simpa using h)) := by simp [marked]
theorem mark_loop {α : Type} (mk : Int → α → α) (w : Nat) (l : List α) (a : Int) {step : List α × Int × Int → Option ((List α × Int × Int) ⊕ (List α × Int))}
    (hs : ∀ k (p : List α) (hp : p.length = l.length) (hk : k < l.length), step (p, a + (w : Int) * (k : Int), (k : Int)) = some (.inl (p.set k (mk (a + (w : Int) * (k : Int)) (p[k]'(by omega))), a + (w : Int) * ((k + 1 : Nat) : Int), ((k + 1 : Nat) : Int))))
    (he : ∀ (p : List α) c, p.length = l.length → step (p, c, (l.length : Int)) = some (.inr (p, c))) :
    iter step (l, a, 0) = some (marked mk w l a, a + (w : Int) * (l.length : Int)) := by
  have h := iter_upto (step := step) (fun k => (l.mapIdx (fun i x => if i < k then mk (a + (w : Int) * (i : Int)) x else x), a + (w : Int) * (k : Int), (k : Int))) l.length (marked mk w l a, a + (w : Int) * (l.length : Int)) (fun k hk => by
    rw [hs k _ (by simp) hk]
    congr 3
    apply List.ext_getElem
    · simp
    · intro j h1 h2
      simp only [List.length_set, List.length_mapIdx] at h1
      simp only [List.getElem_set, List.getElem_mapIdx]
      by_cases e : k = j
      · subst e; simp
      · rw [if_neg e]
        by_cases e2 : j < k
        · simp [e2, show j < k + 1 by omega]
        · simp [e2, show ¬ j < k + 1 by omega]) (by
    rw [he _ _ (by simp)]
    congr 3
    unfold marked
    apply List.ext_getElem
    · simp
    · intro j h1 h2
      simp only [List.length_mapIdx] at h1
      simp [h1])
  simp only [Nat.not_lt_zero, if_false] at h
  have e0 : l.mapIdx (fun (_ : Nat) (x : α) => x) = l := by
    apply List.ext_getElem
    · simp
    · intro j h1 h2; simp
  have h' : iter step (l.mapIdx (fun (_ : Nat) (x : α) => x), a + (w : Int) * ((0 : Nat) : Int), ((0 : Nat) : Int)) = some (marked mk w l a, a + (w : Int) * (l.length : Int)) := h
  rw [e0] at h'
  simpa using h'

/-! ### Whether all are so -/
theorem all_loop {n : Nat} (ok : Nat → Bool) {step : Int → Option (Int ⊕ (Unit ⊕ Bool))}
    (hs : ∀ k, k < n → (∀ j, j < k → ok j = true) → step (k : Int) = if (!ok k) = true then some (.inr (.inr false)) else some (.inl ((k + 1 : Nat) : Int))) (he : step (n : Int) = some (.inr (.inl ()))) :
    (iter step 0).bind (fun r => match r with | .inl () => some true | .inr q => some q) = some ((List.range n).all ok) := by
  by_cases h : ∀ k, k < n → ok k = true
  · have := iter_upto (step := step) (fun k => (k : Int)) n (.inl ()) (fun k hk => by rw [hs k hk (fun j hj => h j (by omega)), h k hk]; rfl) he
    rw [show (0 : Int) = ((0 : Nat) : Int) from rfl, this]
    rw [show (List.range n).all ok = true from List.all_eq_true.2 fun x hx => h x (List.mem_range.1 hx)]
    rfl
  · obtain ⟨k, hk, hj, hn⟩ := least_of h
    have hf : ok k = false := by simpa using hn
    have := iter_run (step := step) (fun k => (k : Int)) k (fun j hj' => by rw [hs j (by omega) (fun i hi => hj i (by omega)), hj j hj']; rfl)
    rw [show (0 : Int) = ((0 : Nat) : Int) from rfl, this, iter_end (r := .inr false) (by rw [hs k hk hj, hf]; rfl)]
    rw [show (List.range n).all ok = false from List.all_eq_false.2 ⟨k, List.mem_range.2 hk, by simp [hf]⟩]
    rfl
theorem range_all {α : Type} [Inhabited α] (l : List α) (p : α → Bool) : ((List.range l.length).all fun k => p (l[k]?.getD default)) = l.all p := by
  rw [Bool.eq_iff_iff]
  simp only [List.all_eq_true, List.mem_range]
  constructor
  · intro h x hx
    obtain ⟨k, hk, rfl⟩ := List.getElem_of_mem hx
    have := h k hk
    rwa [List.getElem?_eq_getElem hk] at this
  · intro h k hk
    rw [List.getElem?_eq_getElem hk]
    exact h _ (List.getElem_mem hk)
theorem byte_cases {P : UInt8 → Prop} (h : ∀ n : Fin 256, P (UInt8.ofNat n.val)) (y : UInt8) : P y := by
  have := h ⟨y.toNat, y.toNat_lt⟩
  simpa using this
end Go.Ev
