/- Plain law of TableOK. -/
import Derived.Test.YtdkeomfbpdodiaaQwA
import Derived.Test.YtdkeomfbpdodiaaQgD
set_option linter.all false
namespace Go.Ev

theorem g56_eq (a b c : Int) : g56 a b c = some (tf (b ≤ a ∧ a ≤ c)) := by
  simp only [g56, dec_tf, bif_and, tf_and, ge_iff_le]
theorem g63_eq (a b c : Int) : g63 a b c = some (tf (b ≤ a ∧ a ≤ c)) := by
  simp only [g63, dec_tf, bif_and, tf_and]
theorem g58_eq (a : Int) : g58 a = some (tf (1 ≤ a ∧ a ≤ 1000000)) := by
  simp only [g58, g63_eq, Option.bind_some]

/-- A table as the document asks it. -/
def TabLease (t : DTable) (k : Nat) (x : DLease) : Prop := (1 ≤ x.id ∧ x.id ≤ t.next - 1) ∧ (∀ y, 0 < k → t.list_[k - 1]? = some y → y.id < x.id) ∧ 0 ≤ x.until_ ∧ x.until_ ≤ x.cap ∧ (x.queued = false → t.clock < x.until_)
def TabOK (t : DTable) : Prop := 0 ≤ t.clock ∧ (1 ≤ t.next ∧ t.next ≤ 1000000) ∧ t.list_.length ≤ 40 ∧ ∀ k x, t.list_[k]? = some x → TabLease t k x

theorem spec_loop (t : DTable) (hn : 1 ≤ t.next ∧ t.next ≤ 1000000) (hl : t.list_.length ≤ 40) :
    iter (g18_l0 t) 0 = some (if tf (∀ k x, t.list_[k]? = some x → TabLease t k x) = true then .inl () else .inr false) := by
  refine iter_all t.list_ _ (fun k hk _ => ?_) ?_
  · have hw : IntKind.i64.wrap (t.next - 1) = t.next - 1 := wr ⟨by omega, by omega⟩
    have hw2 : IntKind.i64.wrap ((k : Int) - 1) = (k : Int) - 1 := wr ⟨by omega, by omega⟩
    have hw3 : IntKind.i64.wrap ((k : Int) + 1) = ((k + 1 : Nat) : Int) := wr ⟨by omega, by omega⟩
    simp only [g18_l0]
    rw [if_pos (decide_eq_true (by omega)), idx_lt hk]
    generalize hx : t.list_[k] = x
    simp only [Option.bind_some, g56_eq, hw, hw2]
    have hm : 0 < k → idx t.list_ ((k : Int) - 1) = t.list_[k - 1]? := fun h => by
      have : ((k : Int) - 1) = ((k - 1 : Nat) : Int) := by omega
      rw [this, idx_nat]
    obtain ⟨y, h1, h2⟩ := gsome (o := idx t.list_ ((k : Int) - 1)) (g := ((!tf (1 ≤ x.id ∧ x.id ≤ t.next - 1)) == false && decide ((k : Int) > 0) == true)) (fun h => by
      rw [hm (by simp at h; omega)]
      exact ⟨_, List.getElem?_eq_getElem (by omega)⟩)
    rw [h1]
    simp only [Option.bind_some, bindv, hw3]
    refine ⟨_, ?_, rfl⟩
    simp only [dec_tf, bif_or, bif_and, tf_not, tf_and, tf_or, ge_iff_le, gt_iff_lt] at h2 ⊢
    by_cases hk0 : 0 < k
    · by_cases hr : 1 ≤ x.id ∧ x.id ≤ t.next - 1
      · have hy : t.list_[k - 1]? = some y := by rw [← hm hk0]; exact h2 (by simp [tf_iff, tf_false, hr]; omega)
        have e3 : (∀ z, 0 < k → t.list_[k - 1]? = some z → z.id < x.id) ↔ y.id < x.id := by
          rw [hy]; exact ⟨fun h => h y hk0 rfl, fun h z _ hz => by cases hz; exact h⟩
        unfold TabLease
        rw [e3]
        cases x.queued <;> simp [tf_iff] <;> omega
      · have : ¬ TabLease t k x := fun h => hr h.1
        simp [tf_iff, this, hr]
    · have e3 : (∀ z, 0 < k → t.list_[k - 1]? = some z → z.id < x.id) ↔ True := ⟨fun _ => trivial, fun _ z h => absurd h hk0⟩
      unfold TabLease
      rw [e3]
      cases x.queued <;> simp [tf_iff] <;> omega
  · simp only [g18_l0]
    rw [if_neg (by simp)]
end Go.Ev
namespace Go.Ev
theorem g18_eq (t : DTable) : g18 t = some (tf (TabOK t)) := by
  simp only [g18, g56_eq]
  obtain ⟨r, h1, h2⟩ := gsome (o := some (tf (1 ≤ t.next ∧ t.next ≤ 1000000))) (g := (decide (t.clock < 0) == false)) (fun _ => ⟨_, rfl⟩)
  rw [h1]
  simp only [Option.bind_some, bindv]
  by_cases hc : t.clock < 0
  · rw [if_pos (by simp [hc])]
    exact tf_ext (by simp [TabOK]; omega)
  · have hr : r = tf (1 ≤ t.next ∧ t.next ≤ 1000000) := by simpa [hc, eq_comm] using h2 (by simp [hc])
    subst hr
    by_cases hn : 1 ≤ t.next ∧ t.next ≤ 1000000
    · by_cases hl : t.list_.length ≤ 40
      · rw [if_neg (by simp [hc, tf_iff, hn]; omega), spec_loop t hn hl]
        by_cases h : ∀ k x, t.list_[k]? = some x → TabLease t k x
        · rw [if_tf h]; exact tf_ext (by simp [TabOK, hn, hl]; exact ⟨by omega, h⟩)
        · rw [if_tfn h]; exact tf_ext ⟨(fun hh => by cases hh), fun hh => absurd hh.2.2.2 h⟩
      · rw [if_pos (by simp; right; omega)]
        exact tf_ext (by simp [TabOK, hl])
    · rw [if_pos (by simp [tf_iff, tf_false, hn])]
      exact tf_ext (by simp [TabOK, hn])

/-- The numbers of the leases. -/
theorem g60_eq (t : DTable) (hl : t.list_.length ≤ 1048576) : g60 t = some (t.list_.map DLease.id) := by
  have h := iter_upto (step := g60_l0 t) (fun k => ((t.list_.take k).map DLease.id, (k : Int))) t.list_.length (t.list_.map DLease.id) (fun k hk => by
    have hw3 : IntKind.i64.wrap ((k : Int) + 1) = ((k + 1 : Nat) : Int) := wr ⟨by omega, by omega⟩
    simp only [g60_l0]
    rw [if_pos (decide_eq_true (by omega)), idx_lt hk]
    simp only [Option.bind_some, hw3]
    rw [if_pos (by simp; omega), List.take_succ_eq_append_getElem hk, List.map_append]
    rfl) (by
    simp only [g60_l0]
    rw [if_neg (by simp), List.take_length])
  simp only [g60]
  rw [show ([] : List Int) = (t.list_.take 0).map DLease.id from rfl, show (0 : Int) = ((0 : Nat) : Int) from rfl, h]
  rfl

def Rising (l : List Int) (a b : Int) : Prop := ∀ k x, l[k]? = some x → (a ≤ x ∧ x ≤ b) ∧ ∀ y, 0 < k → l[k - 1]? = some y → y < x
theorem g59_eq (l : List Int) (a b : Int) (hl : l.length ≤ 1048576) : g59 l a b = some (tf (Rising l a b)) := by
  have h : iter (g59_l0 l a b) 0 = some (if tf (Rising l a b) = true then .inl () else .inr false) := by
    refine iter_all l _ (fun k hk _ => ?_) ?_
    · have hw2 : IntKind.i64.wrap ((k : Int) - 1) = (k : Int) - 1 := wr ⟨by omega, by omega⟩
      have hw3 : IntKind.i64.wrap ((k : Int) + 1) = ((k + 1 : Nat) : Int) := wr ⟨by omega, by omega⟩
      simp only [g59_l0]
      rw [if_pos (decide_eq_true (by omega)), idx_lt hk]
      generalize hx : l[k] = x
      simp only [Option.bind_some, g63_eq, hw2]
      have hm : 0 < k → idx l ((k : Int) - 1) = l[k - 1]? := fun h => by
        have : ((k : Int) - 1) = ((k - 1 : Nat) : Int) := by omega
        rw [this, idx_nat]
      obtain ⟨y, h1, h2⟩ := gsome (o := idx l ((k : Int) - 1)) (g := ((!tf (a ≤ x ∧ x ≤ b)) == false && decide ((k : Int) > 0) == true)) (fun h => by
        rw [hm (by simp at h; omega)]
        exact ⟨_, List.getElem?_eq_getElem (by omega)⟩)
      rw [h1]
      simp only [Option.bind_some, bindv, hw3]
      refine ⟨_, ?_, rfl⟩
      by_cases hr : a ≤ x ∧ x ≤ b
      · by_cases hk0 : 0 < k
        · have hy : l[k - 1]? = some y := by rw [← hm hk0]; exact h2 (by simp [tf_iff, hr]; omega)
          have e3 : (∀ z, 0 < k → l[k - 1]? = some z → z < x) ↔ y < x := by
            rw [hy]; exact ⟨fun h => h y hk0 rfl, fun h z _ hz => by cases hz; exact h⟩
          rw [e3]
          simp [hr]; omega
        · have e3 : (∀ z, 0 < k → l[k - 1]? = some z → z < x) ↔ True := ⟨fun _ => trivial, fun _ z h => absurd h hk0⟩
          rw [e3]
          simp [hr]; omega
      · have : tf (a ≤ x ∧ x ≤ b) = false := tf_neg hr
        rw [this]; simp [hr]
    · simp only [g59_l0]
      rw [if_neg (by simp)]
  simp only [g59, h, Option.bind_some]
  split
  · rename_i e; split at e
    · rename_i hh; rw [hh]
    · cases e
  · rename_i q e; split at e
    · cases e
    · rename_i hh; cases e; rw [Bool.not_eq_true] at hh; rw [hh]

/-- The first place where something is so. -/
theorem g108_eq (l : List DLease) (f : DLease → Option Bool) (p : DLease → Bool) (hf : ∀ x ∈ l, f x = some (p x)) (hl : l.length ≤ 1048576) : ∃ n : Int, g108 l f = some n ∧ (0 ≤ n ↔ ∃ x ∈ l, p x = true) := by
  have hh := iter_first (step := g108_l0 l f) (fun k => (k : Int)) l.length (fun k => ∀ h : k < l.length, p l[k] = false) (fun k => .inr (k : Int)) (.inl ()) (fun k hk _ ho => by
    simp only [g108_l0]
    rw [if_pos (decide_eq_true (by omega)), idx_lt hk]
    simp only [Option.bind_some, hf _ (List.getElem_mem hk), ho hk, wr (n := (k : Int) + 1) ⟨by omega, by omega⟩]
    rfl) (fun k hk _ ho => by
    have : p l[k] = true := Classical.byContradiction fun h => ho fun _ => by simpa using h
    simp only [g108_l0]
    rw [if_pos (decide_eq_true (by omega)), idx_lt hk]
    simp only [Option.bind_some, hf _ (List.getElem_mem hk), this]
    rfl) (fun _ => by
    simp only [g108_l0]
    rw [if_neg (by simp)])
  by_cases h : ∀ k, k < l.length → ∀ h : k < l.length, p l[k] = false
  · refine ⟨-1, ?_, by simp; intro x hx; obtain ⟨k, hk, rfl⟩ := List.getElem_of_mem hx; exact h k hk hk⟩
    simp only [g108]
    rw [show (0 : Int) = ((0 : Nat) : Int) from rfl, hh.1 h]
    rfl
  · obtain ⟨k, hk, hj, ho⟩ := least_of h
    refine ⟨k, ?_, ⟨fun _ => ⟨l[k], List.getElem_mem hk, Classical.byContradiction fun h => ho fun _ => by simpa using h⟩, fun _ => by omega⟩⟩
    simp only [g108]
    rw [show (0 : Int) = ((0 : Nat) : Int) from rfl, hh.2 k hk hj ho]
    rfl
theorem g61_eq (l : List DLease) (f : DLease → Option Bool) (p : DLease → Bool) (hf : ∀ x ∈ l, f x = some (p x)) (hl : l.length ≤ 1048576) : g61 l f = some (tf (∀ x ∈ l, p x = true)) := by
  obtain ⟨n, h1, h2⟩ := g108_eq l (fun z => g106 z f) (fun x => !p x) (fun x hx => by simp [g106, hf x hx]) hl
  simp only [g61, g105, h1, Option.bind_some]
  refine tf_ext ?_
  have : (0 ≤ n) ↔ ∃ x ∈ l, (!p x) = true := h2
  simp
  rw [← Int.not_le, this]
  simp

theorem g62_eq (x : DLease) (t : DTable) : g62 x t = some (tf ((0 ≤ x.until_ ∧ x.until_ ≤ x.cap) ∧ (x.queued = false → t.clock < x.until_))) := by
  simp only [g62, g63_eq, Option.bind_some, bindv]
  exact tf_ext (by cases x.queued <;> simp [tf_iff, bif_and])

theorem g20_eq (t : DTable) (hl : t.list_.length ≤ 1048576) (hn : I64 t.next) : g20 t = some (tf (TabOK t)) := by
  simp only [g20, g58_eq, g60_eq t hl]
  obtain ⟨r1, h1, k1⟩ := gsome (o := some (tf (1 ≤ t.next ∧ t.next ≤ 1000000))) (g := (decide (t.clock ≥ 0) == true)) (fun _ => ⟨_, rfl⟩)
  rw [h1]; simp only [Option.bind_some]
  generalize hg : (bif (bif decide (t.clock ≥ 0) then r1 else false) then decide ((t.list_.length : Int) ≤ 40) else false) = b
  have hb : b = true ↔ 0 ≤ t.clock ∧ (1 ≤ t.next ∧ t.next ≤ 1000000) ∧ t.list_.length ≤ 40 := by
    rw [← hg]
    by_cases hc : 0 ≤ t.clock
    · have := k1 (by simp [hc]); simp only [Option.some.injEq] at this; rw [← this]; simp [hc]; omega
    · simp [hc]
  obtain ⟨r3, h3, k3⟩ := gsome (o := some (t.list_.map DLease.id)) (g := b == true) (fun _ => ⟨_, rfl⟩)
  rw [h3]; simp only [Option.bind_some]
  obtain ⟨r5, h5, k5⟩ := gsome (o := g59 r3 1 (IntKind.i64.wrap (t.next - 1))) (g := b == true) (fun h => by
    have := k3 h; simp only [Option.some.injEq] at this; rw [← this]
    exact ⟨_, g59_eq _ _ _ (by simpa using hl)⟩)
  rw [h5]; simp only [Option.bind_some]
  obtain ⟨r7, h7, k7⟩ := gsome (o := g61 t.list_ (fun z => g62 z t)) (g := (bif b then r5 else false) == true) (fun h => ⟨_, g61_eq _ _ _ (fun x _ => g62_eq x t) hl⟩)
  rw [h7]; simp only [Option.bind_some, bindv]
  refine tf_ext ?_
  by_cases hbt : b = true
  · have hbb := hb.1 hbt
    have hw : IntKind.i64.wrap (t.next - 1) = t.next - 1 := wr ⟨by omega, by omega⟩
    have e3 := k3 (by simp [hbt]); simp only [Option.some.injEq] at e3
    have e5 := k5 (by simp [hbt]); rw [← e3, g59_eq _ _ _ (by simpa using hl), hw] at e5; simp only [Option.some.injEq] at e5
    subst hbt
    simp only [cond_true] at k7 ⊢
    by_cases h5t : r5 = true
    · have e7 := k7 (by simp [h5t]); rw [g61_eq _ _ _ (fun x _ => g62_eq x t) hl] at e7; simp only [Option.some.injEq] at e7
      rw [h5t, ← e7]
      rw [h5t, tf_iff] at e5
      simp only [cond_true, tf_iff, TabOK, hbb, true_and]
      constructor
      · intro h k x hx
        have h1 := e5 k x.id (by simp [hx])
        have h2 := h x (List.mem_of_getElem? hx)
        exact ⟨h1.1, fun y hk hy => h1.2 y.id hk (by simp [hy]), h2.1.1, h2.1.2, h2.2⟩
      · intro h x hx
        obtain ⟨k, hk, rfl⟩ := List.getElem_of_mem hx
        have := h k _ (List.getElem?_eq_getElem hk)
        exact ⟨⟨this.2.2.1, this.2.2.2.1⟩, this.2.2.2.2⟩
    · simp only [Bool.not_eq_true] at h5t
      rw [h5t] at e5 ⊢
      rw [tf_false] at e5
      simp only [cond_false, Bool.false_eq_true, false_iff]
      intro h
      refine e5 fun k x hx => ?_
      simp only [List.getElem?_map, Option.map_eq_some_iff] at hx
      obtain ⟨z, hz, rfl⟩ := hx
      have := h.2.2.2 k z hz
      refine ⟨this.1, fun y hk hy => ?_⟩
      simp only [List.getElem?_map, Option.map_eq_some_iff] at hy
      obtain ⟨u, hu, rfl⟩ := hy
      exact this.2.1 u hk hu
  · have hbf : b = false := by simpa using hbt
    subst hbf
    simp only [cond_false, Bool.false_eq_true, false_iff]
    intro h
    exact hbt (hb.2 ⟨h.1, h.2.1, h.2.2.1⟩)

/-! ### The law's own functions -/
theorem g57_eq (l : List DLease) (hl : l.length ≤ 1048576) : g57 l = some l := by
  have h := iter_upto (step := g57_l0 l) (fun k => (l.take k ++ List.replicate (l.length - k) (DLease.mk 0 0 0 false), (k : Int))) l.length l (fun k hk => by
    have hw3 : IntKind.i64.wrap ((k : Int) + 1) = ((k + 1 : Nat) : Int) := wr ⟨by omega, by omega⟩
    have hlen : k < (l.take k ++ List.replicate (l.length - k) (DLease.mk 0 0 0 false)).length := by simp; omega
    simp only [g57_l0]
    rw [if_pos (decide_eq_true (by omega)), idx_lt hk, idx_lt hlen]
    simp only [Option.bind_some, g104, hw3, Int.toNat_natCast]
    rw [List.getElem?_eq_getElem hlen]
    simp only [Option.bind_some]
    congr 3
    rw [List.set_append, if_neg (by simp; omega), List.take_succ_eq_append_getElem hk, List.append_assoc]
    congr 1
    have e : l.length - k = (l.length - (k + 1)) + 1 := by omega
    have e2 : k - (l.take k).length = 0 := by simp; omega
    rw [e, List.replicate_succ, e2]
    rfl) (by
    simp only [g57_l0]
    rw [if_neg (by simp)]
    simp)
  simp only [g57]
  rw [if_pos (by omega), if_pos (by omega)]
  simp only [List.take_zero, List.nil_append, Nat.sub_zero] at h
  rw [Int.toNat_natCast]
  have h' : iter (g57_l0 l) (List.replicate l.length (DLease.mk 0 0 0 false), 0) = some l := h
  rw [h']
  rfl
theorem g19_eq (t : DTable) (hl : t.list_.length ≤ 1048576) : g19 t = some t := by
  simp [g19, g57_eq _ hl]
theorem g107_eq (a b : DLease) : g107 a b = some (tf (a = b)) := by
  unfold g107
  obtain ⟨a1, a2, a3, a4⟩ := a
  obtain ⟨b1, b2, b3, b4⟩ := b
  by_cases h1 : a1 = b1 <;> by_cases h2 : a2 = b2 <;> by_cases h3 : a3 = b3 <;> by_cases h4 : a4 = b4 <;> simp [h1, h2, h3, h4, tf]
theorem g64_eq (a b : List DLease) (hl : a.length ≤ 1048576) : g64 a b = some (tf (a = b)) := by
  by_cases hlen : a.length = b.length
  · have h : iter (g64_l0 a b) 0 = some (if tf (∀ (k : Nat) (x : DLease), a[k]? = some x → b[k]? = some x) = true then .inl () else .inr false) := by
      refine iter_all a _ (fun k hk _ => ?_) ?_
      · have hw3 : IntKind.i64.wrap ((k : Int) + 1) = ((k + 1 : Nat) : Int) := wr ⟨by omega, by omega⟩
        simp only [g64_l0]
        rw [if_pos (decide_eq_true (by omega)), idx_lt hk, idx_lt (l := b) (k := k) (by omega)]
        simp only [Option.bind_some, g107_eq, hw3]
        refine ⟨_, ?_, rfl⟩
        rw [List.getElem?_eq_getElem (by omega)]
        simp only [tf_not, tf_iff, Option.some.injEq]
        exact not_congr eq_comm
      · simp only [g64_l0]
        rw [if_neg (by simp)]
    have e : (∀ (k : Nat) (x : DLease), a[k]? = some x → b[k]? = some x) ↔ a = b := by
      constructor
      · intro h
        apply List.ext_getElem hlen
        intro k h1 h2
        have := h k _ (List.getElem?_eq_getElem h1)
        rw [List.getElem?_eq_getElem h2] at this
        exact (Option.some.inj this).symm
      · rintro rfl k x hx; exact hx
    rw [tf_congr e] at h
    simp only [g64]
    rw [if_neg (by simp [hlen]), h]
    by_cases hab : a = b
    · rw [tf_pos hab]; rfl
    · rw [tf_neg hab]; rfl
  · simp only [g64]
    rw [if_pos (by simp; omega)]
    exact tf_ext (by simp; rintro rfl; exact hlen rfl)
theorem g21_eq (a b : DTable) (hl : a.list_.length ≤ 1048576) : g21 a b = some (tf (a = b)) := by
  simp only [g21, g64_eq _ _ hl]
  obtain ⟨a1, a2, a3⟩ := a
  obtain ⟨b1, b2, b3⟩ := b
  by_cases h1 : a1 = b1 <;> by_cases h2 : a2 = b2 <;> by_cases h3 : a3 = b3 <;> simp [h1, h2, h3, tf]
theorem g55_eq (l : List DLease) (n : Int) (hn : -1 ≤ n ∧ n ≤ 1048576) (hl : l.length ≤ 9223372036854775807) : ∃ r, g55 l n = some r ∧ (0 ≤ r → r ≤ 1048576 ∧ r = n - l.length) ∧ -1 ≤ r := by
  have hw : IntKind.i64.wrap (n - l.length) = n - l.length := wr ⟨by omega, by omega⟩
  simp only [g55, hw]
  by_cases h : n - l.length < 0
  · exact ⟨-1, by rw [if_pos (by simpa using h)], by omega, by omega⟩
  · exact ⟨n - l.length, by rw [if_neg (by simpa using h)], by omega, by omega⟩
theorem g17_eq (t : DTable) (n : Int) (hn : -1 ≤ n ∧ n ≤ 1048576) (hl : t.list_.length ≤ 9223372036854775807) : ∃ r, g17 t n = some r ∧ (0 ≤ r → r ≤ 1048576 ∧ r = n - t.list_.length) ∧ -1 ≤ r := by
  obtain ⟨r, h1, h2, h3⟩ := g55_eq t.list_ n hn hl
  simp only [g17, h1, Option.bind_some]
  by_cases h : r < 0
  · exact ⟨-1, by rw [if_pos (by simpa using h)], by omega, by omega⟩
  · exact ⟨r, by rw [if_neg (by simpa using h)], h2, h3⟩

theorem g4_eq (t : DTable) (hl : t.list_.length ≤ 9223372036854775807) (hn : I64 t.next) : g4 t = some true := by
  obtain ⟨r, h1, h2, h3⟩ := g17_eq t 1048576 (by omega) hl
  simp only [g4, h1, Option.bind_some]
  by_cases h : r < 0
  · rw [if_pos (by simpa using h)]
  · have hl2 : t.list_.length ≤ 1048576 := by have := h2 (by omega); omega
    rw [if_neg (by simpa using h), g19_eq t hl2]
    simp [g18_eq, g20_eq t hl2 hn, g21_eq t t hl2]
theorem g4_law (t : DTable) (o : okDTable t) : g4 t = some true := g4_eq t o.2.2.1 o.2.1
end Go.Ev
