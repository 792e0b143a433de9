/- Plain words: marks in a row, and finding a lease. -/
import Derived.Test.YtdkeomfbpdodiaaQwE
set_option linter.all false
namespace Go.Ev

/-! ### Marks -/
def marks (n : Nat) (a : Int) : List DLease := (List.range n).map fun (k : Nat) => DLease.mk (a + 4 * k) (a + 4 * k + 1) (a + 4 * k + 2) ((a + 4 * k + 3).tmod 3 == 0)
theorem marks_len (n : Nat) (a : Int) : (marks n a).length = n := by simp [marks]
theorem marks_get (n : Nat) (a : Int) (k : Nat) (h : k < (marks n a).length) : (marks n a)[k] = DLease.mk (a + 4 * k) (a + 4 * k + 1) (a + 4 * k + 2) ((a + 4 * k + 3).tmod 3 == 0) := by simp [marks]
theorem g72_eq (l : List DLease) (hl : l.length ≤ 1048576) : g72 l 1 = some (1 + 4 * (l.length : Int), marks l.length 1) := by
  have hml : (marks l.length 1).length = l.length := marks_len _ _
  have h := iter_upto (step := g72_l0) (fun k => ((marks l.length 1).take k ++ l.drop k, 1 + 4 * (k : Int), (k : Int))) l.length (marks l.length 1, 1 + 4 * (l.length : Int)) (fun k hk => by
    have hlen : ((marks l.length 1).take k ++ l.drop k).length = l.length := by simp [hml]; omega
    generalize hrow : (marks l.length 1).take k ++ l.drop k = row at hlen ⊢
    have hkr : k < row.length := by omega
    have w1 : IntKind.i64.wrap (1 + 4 * (k : Int) + 1) = 1 + 4 * (k : Int) + 1 := wr ⟨by omega, by omega⟩
    have w2 : IntKind.i64.wrap (1 + 4 * (k : Int) + 1 + 1) = 1 + 4 * (k : Int) + 2 := by rw [wr ⟨by omega, by omega⟩]; omega
    have w3 : IntKind.i64.wrap (1 + 4 * (k : Int) + 2 + 1) = 1 + 4 * (k : Int) + 3 := by rw [wr ⟨by omega, by omega⟩]; omega
    have w4 : IntKind.i64.wrap (1 + 4 * (k : Int) + 3 + 1) = 1 + 4 * ((k + 1 : Nat) : Int) := by rw [wr ⟨by omega, by omega⟩]; omega
    have w5 : IntKind.i64.wrap ((k : Int) + 1) = ((k + 1 : Nat) : Int) := wr ⟨by omega, by omega⟩
    simp only [g72_l0]
    rw [if_pos (decide_eq_true (by omega))]
    have hi : ∀ r : List DLease, r.length = row.length → idx r (k : Int) = some (r[k]?.getD default) ∧ r[k]? = some (r[k]?.getD default) := fun r hr => by
      rw [idx_nat, List.getElem?_eq_getElem (by omega)]; exact ⟨rfl, rfl⟩
    rw [(hi row rfl).1]
    simp only [Option.bind_some, Int.toNat_natCast, bindv, w1, w2, w3, w4, w5]
    rw [(hi row rfl).2]
    simp only [Option.bind_some, List.set_set]
    have hs : ∀ x : DLease, (row.set k x)[k]? = some x := fun x => by rw [List.getElem?_set_self (by omega)]
    have hs' : ∀ x : DLease, idx (row.set k x) (k : Int) = some x := fun x => by rw [idx_nat, hs]
    simp only [hs, hs', Option.bind_some, List.set_set]
    congr 3
    rw [← hrow, List.set_append, if_neg (by simp [hml]; omega), List.take_succ_eq_append_getElem (by omega), marks_get, List.append_assoc]
    congr 1
    have e : k - (List.take k (marks l.length 1)).length = 0 := by simp [hml]; omega
    rw [e, List.drop_eq_getElem_cons hk]
    rfl) (by
    simp only [g72_l0]
    rw [if_neg (by simp [hml])]
    simp only [List.drop_length, List.append_nil]
    rw [List.take_of_length_le (by omega)])
  simp only [List.take_zero, List.nil_append, List.drop_zero] at h
  simp only [g72]
  have h' : iter g72_l0 (l, 1, 0) = some (marks l.length 1, 1 + 4 * (l.length : Int)) := h
  rw [h']
  rfl
theorem g73_eq (n : Nat) (hn : n ≤ 1048576) : g73 (marks n 1) 1 = some (1 + 4 * (n : Int)) := by
  have hml : (marks n 1).length = n := marks_len _ _
  have h := iter_upto (step := g73_l0 (marks n 1)) (fun k => (1 + 4 * (k : Int), (k : Int))) n (.inl (1 + 4 * (n : Int))) (fun k hk => by
    have w1 : IntKind.i64.wrap (1 + 4 * (k : Int) + 1) = 1 + 4 * (k : Int) + 1 := wr ⟨by omega, by omega⟩
    have w2 : IntKind.i64.wrap (1 + 4 * (k : Int) + 1 + 1) = 1 + 4 * (k : Int) + 2 := by rw [wr ⟨by omega, by omega⟩]; omega
    have w3 : IntKind.i64.wrap (1 + 4 * (k : Int) + 2 + 1) = 1 + 4 * (k : Int) + 3 := by rw [wr ⟨by omega, by omega⟩]; omega
    have w4 : IntKind.i64.wrap (1 + 4 * (k : Int) + 3 + 1) = 1 + 4 * ((k + 1 : Nat) : Int) := by rw [wr ⟨by omega, by omega⟩]; omega
    have w5 : IntKind.i64.wrap ((k : Int) + 1) = ((k + 1 : Nat) : Int) := wr ⟨by omega, by omega⟩
    simp only [g73_l0]
    rw [if_pos (decide_eq_true (by omega)), idx_lt (by omega)]
    simp only [Option.bind_some, bindv, w1, w2, w3, w4, w5, marks_get]
    simp) (by
    simp only [g73_l0]
    rw [if_neg (by simp [hml])])
  simp only [g73]
  have h' : iter (g73_l0 (marks n 1)) (1, 0) = some (.inl (1 + 4 * (n : Int))) := h
  rw [h']
  rfl
theorem g26_eq (t : DTable) (hl : t.list_.length ≤ 1048576) : g26 t 1 = some (1 + 4 * (t.list_.length : Int), marks t.list_.length 1) := by
  simp [g26, g72_eq _ hl, marks_len]
theorem g27_eq (c n : Int) (k : Nat) (hk : k ≤ 1048576) : g27 (DTable.mk c n (marks k 1)) 1 = some (1 + 4 * (k : Int)) := by
  simp only [g27, g73_eq k hk, Option.bind_some]
  rw [if_neg (by simp; omega)]

/-! ### Finding -/
def FoundAt (l : List DLease) (x n : Int) : Prop := (n = -1 ∧ ∀ y ∈ l, y.id ≠ x) ∨ ∃ k, ∃ h : k < l.length, n = (k : Int) ∧ l[k].id = x
theorem g92_eq (t : DTable) (x : Int) (hl : t.list_.length ≤ 1048576) : ∃ n, g92 t x = some n ∧ FoundAt t.list_ x n := by
  obtain ⟨r, h1, h2⟩ := iter_inv' (step := g92_l0 t x) (fun s => ∃ k : Nat, s = (k : Int) ∧ k ≤ t.list_.length ∧ ∀ j, ∀ h : j < t.list_.length, j < k → t.list_[j].id ≠ x) (fun s => (t.list_.length - s).toNat)
    (fun r => (r = .inl () ∧ ∀ y ∈ t.list_, y.id ≠ x) ∨ ∃ n, r = .inr n ∧ FoundAt t.list_ x n) 0 ⟨0, rfl, by omega, by intros; omega⟩ (by
      rintro _ ⟨k, rfl, hk, hj⟩
      simp only [g92_l0]
      by_cases hlt : k < t.list_.length
      · rw [if_pos (decide_eq_true (by omega)), idx_lt hlt]
        simp only [Option.bind_some, wr (n := (k : Int) + 1) ⟨by omega, by omega⟩]
        by_cases hp : t.list_[k].id = x
        · rw [if_pos (by simp [hp])]
          exact .inr ⟨_, rfl, .inr ⟨_, rfl, .inr ⟨k, hlt, rfl, hp⟩⟩⟩
        · rw [if_neg (by simp [hp])]
          refine .inl ⟨_, rfl, ⟨k + 1, rfl, by omega, fun j h hj2 => ?_⟩, by omega⟩
          by_cases e : j = k
          · subst e; exact hp
          · exact hj j h (by omega)
      · rw [if_neg (by simp; omega)]
        refine .inr ⟨_, rfl, .inl ⟨rfl, fun y hy => ?_⟩⟩
        obtain ⟨j, hj1, rfl⟩ := List.getElem_of_mem hy
        exact hj j hj1 (by omega))
  simp only [g92, h1, Option.bind_some]
  rcases h2 with ⟨rfl, h2⟩ | ⟨n, rfl, h2⟩
  · exact ⟨-1, rfl, .inl ⟨rfl, h2⟩⟩
  · exact ⟨n, rfl, h2⟩
theorem half (a : Nat) (h : a ≤ 4194304) : IntKind.i64.wrap (ishr .u64 (IntKind.u64.wrap (IntKind.i64.wrap (a : Int))) 1) = ((a / 2 : Nat) : Int) := by
  have h1 : IntKind.u64.wrap (a : Int) = a := by
    have e : IntKind.u64.wrap (a : Int) = (a : Int) % 18446744073709551616 := by simp [IntKind.wrap, IntKind.bits, IntKind.signed]
    rw [e]; omega
  have h2 : (2 : Int) ^ min (1 : Int).toNat 64 = 2 := by decide
  rw [wr (n := (a : Int)) ⟨by omega, by omega⟩, h1]
  simp only [ishr, h2]
  rw [Int.fdiv_eq_ediv_of_nonneg _ (by omega), wr ⟨by omega, by omega⟩]
  omega
theorem g114_eq (x : DLease) (a : Int) : g114 x a = some (if x.id < a then -1 else if a < x.id then 1 else 0) := by simp [g114, g110_eq]
theorem g77_eq (t : DTable) (h : TabOK t) (x n : Int) (hn : FoundAt t.list_ x n) : ∃ i b, g77 t x = some (i, b) ∧ (b = true → i = n ∧ 0 ≤ n) ∧ (b = false → n = -1) := by
  have hl := h.2.2.1
  obtain ⟨r, h1, h2⟩ := iter_inv' (step := g113_l0 t.list_ x (fun a b => g114 a b)) (fun s => ∃ i j : Nat, s = ((i : Int), (j : Int)) ∧ i ≤ j ∧ j ≤ t.list_.length ∧ (∀ k, ∀ h : k < t.list_.length, k < i → t.list_[k].id < x) ∧ ∀ k, ∀ h : k < t.list_.length, j ≤ k → x ≤ t.list_[k].id)
    (fun s => (s.2 - s.1).toNat) (fun r => ∃ i : Nat, r = i ∧ i ≤ t.list_.length ∧ (∀ k, ∀ h : k < t.list_.length, k < i → t.list_[k].id < x) ∧ ∀ k, ∀ h : k < t.list_.length, i ≤ k → x ≤ t.list_[k].id) (0, (t.list_.length : Int))
    ⟨0, t.list_.length, rfl, by omega, by omega, by intros; omega, by intros; omega⟩ (by
      rintro _ ⟨i, j, rfl, hij, hj, ha, hb⟩
      simp only [g113_l0]
      by_cases hlt : i < j
      · have e : (i : Int) + (j : Int) = ((i + j : Nat) : Int) := by omega
        rw [if_pos (decide_eq_true (by omega)), e, half _ (by omega)]
        have hm : (i + j) / 2 < t.list_.length := by omega
        simp only [bindv, idx_lt hm, Option.bind_some, g114_eq]
        have hw : IntKind.i64.wrap (((i + j) / 2 : Nat) + 1 : Int) = (((i + j) / 2 + 1 : Nat) : Int) := wr ⟨by omega, by omega⟩
        rw [hw]
        left
        by_cases hc : t.list_[(i + j) / 2].id < x
        · rw [if_pos hc, if_pos (by decide)]
          refine ⟨_, rfl, ⟨_, j, rfl, by omega, hj, fun k hk hki => ?_, hb⟩, by simp only; omega⟩
          by_cases e : k = (i + j) / 2
          · subst e; exact hc
          · have := h.lt hm (show k < (i + j) / 2 by omega); omega
        · have : ¬ (if t.list_[(i + j) / 2].id < x then (-1 : Int) else if x < t.list_[(i + j) / 2].id then 1 else 0) < 0 := by
            rw [if_neg hc]; split <;> omega
          rw [if_neg (by simpa using this)]
          refine ⟨_, rfl, ⟨i, _, rfl, by omega, by omega, ha, fun k hk hki => ?_⟩, by simp only; omega⟩
          by_cases e : k = (i + j) / 2
          · subst e; omega
          · have := h.lt hk (show (i + j) / 2 < k by omega); omega
      · rw [if_neg (by simp; omega)]
        exact .inr ⟨_, rfl, i, rfl, by omega, ha, fun k hk hki => hb k hk (by omega)⟩)
  obtain ⟨i, rfl, hi, ha, hb⟩ := h2
  simp only [g77, g113, h1, Option.bind_some]
  by_cases hlt : i < t.list_.length
  · have hd : (decide ((i : Int) < (t.list_.length : Int)) == true) = true := by simp; omega
    simp only [hd, if_true, idx_lt hlt, Option.bind_some, g114_eq]
    refine ⟨_, _, rfl, ?_, ?_⟩
    · intro hh
      have hx : t.list_[i].id = x := by
        have := hb i hlt (by omega)
        rw [decide_eq_true (by omega)] at hh
        simp at hh
        split at hh
        · omega
        · split at hh <;> omega
      rcases hn with ⟨rfl, hn⟩ | ⟨k, hk, rfl, hkx⟩
      · exact absurd hx (hn _ (List.getElem_mem _))
      · by_cases e : k = i
        · subst e; exact ⟨rfl, by omega⟩
        · by_cases e2 : k < i
          · have := ha k hk e2; omega
          · have := h.lt hk (show i < k by omega); omega
    · intro hh
      rcases hn with ⟨rfl, hn⟩ | ⟨k, hk, rfl, hkx⟩
      · rfl
      · exfalso
        have hne : t.list_[i].id ≠ x := fun e => by
          rw [decide_eq_true (by omega), e] at hh
          simp at hh
        have := hb i hlt (by omega)
        by_cases e : k = i
        · subst e; exact hne hkx
        · by_cases e2 : k < i
          · have := ha k hk e2; omega
          · have := h.lt hk (show i < k by omega); omega
  · have hd : ¬ (decide ((i : Int) < (t.list_.length : Int)) == true) = true := by simp; omega
    simp only [hd, if_false, Option.bind_some]
    refine ⟨_, _, rfl, ?_, ?_⟩
    · rw [decide_eq_false (by omega)]; intro hh; cases hh
    · intro _
      rcases hn with ⟨rfl, hn⟩ | ⟨k, hk, rfl, hkx⟩
      · rfl
      · have := ha k hk (by omega); omega
end Go.Ev
