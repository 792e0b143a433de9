/- Marks of numbers, bytes and issued ones; the plain law of RevokedOf. -/
import Derived.Test.YtdmclbbhhcpjfaaQwP
set_option linter.all false
namespace Go.Ev

theorem g37_eq (l : List Int) (hl : l.length ≤ 1048576) : g37 l 1 = some (1 + (l.length : Int), marked (fun c _ => c) 1 l 1) := by
  have h := mark_loop (fun c _ => c) 1 l 1 (step := g37_l0) (fun k p hp hk => by
    simp only [g37_l0]
    rw [if_pos (decide_eq_true (by omega)), idx_lt (l := p) (k := k) (by omega)]
    simp only [Option.bind_some, Int.toNat_natCast]
    rw [List.getElem?_eq_getElem (by omega)]
    have e1 : IntKind.i64.wrap (1 + ((1 : Nat) : Int) * (k : Int) + 1) = 1 + ((1 : Nat) : Int) * ((k + 1 : Nat) : Int) := by rw [wr ⟨by omega, by omega⟩]; omega
    simp only [Option.bind_some, w1 (show k < 4611686018427387904 by omega), e1]) (fun p c hp => by
    simp only [g37_l0]
    rw [if_neg (by simp; omega)])
  simp only [g37, h, Option.bind_some]
  simp
theorem g38_eq (l : List Int) (hl : l.length ≤ 1048576) : g38 (marked (fun c _ => c) 1 l 1) 1 = some (1 + (l.length : Int)) := by
  have h := iter_upto (step := g38_l0 (marked (fun c _ => c) 1 l 1)) (fun k => (1 + (k : Int), (k : Int))) l.length (.inl (1 + (l.length : Int))) (fun k hk => by
    simp only [g38_l0]
    rw [if_pos (decide_eq_true (by simp; omega)), idx_lt (by simp; omega)]
    have e1 : IntKind.i64.wrap (1 + (k : Int) + 1) = 1 + ((k + 1 : Nat) : Int) := by rw [wr ⟨by omega, by omega⟩]; omega
    simp only [Option.bind_some, w1 (show k < 4611686018427387904 by omega), e1, marked_get]
    rw [if_neg (by simp)]) (by
    simp only [g38_l0]
    rw [if_neg (by simp)])
  have h' : iter (g38_l0 (marked (fun c _ => c) 1 l 1)) (1, 0) = some (.inl (1 + (l.length : Int))) := h
  simp only [g38, h', Option.bind_some]
theorem g235_eq (l : List UInt8) (a : Int) (ha : 0 ≤ a ∧ a ≤ 1099511627776) (hl : l.length ≤ 1048576) : g235 l a = some (a + (l.length : Int), marked (fun c _ => b8 c) 1 l a) := by
  have h := mark_loop (fun c _ => b8 c) 1 l a (step := g235_l0) (fun k p hp hk => by
    simp only [g235_l0]
    rw [if_pos (decide_eq_true (by omega)), idx_lt (l := p) (k := k) (by omega)]
    simp only [Option.bind_some, Int.toNat_natCast]
    rw [List.getElem?_eq_getElem (by omega)]
    have e1 : IntKind.i64.wrap (a + ((1 : Nat) : Int) * (k : Int) + 1) = a + ((1 : Nat) : Int) * ((k + 1 : Nat) : Int) := by rw [wr ⟨by omega, by omega⟩]; omega
    simp only [Option.bind_some, w1 (show k < 4611686018427387904 by omega), e1]) (fun p c hp => by
    simp only [g235_l0]
    rw [if_neg (by simp; omega)])
  simp only [g235, h, Option.bind_some]
  simp
/-- The text of a mark. -/
theorem g316_some (n : Int) (hn : n ≤ 4611686018427387904) : ∃ t, g316 n = some t := by
  simp only [g316]
  by_cases h : n ≤ 0
  · exact ⟨_, by rw [if_pos (decide_eq_true h)]⟩
  · rw [if_neg (by simpa using h)]
    obtain ⟨r, h1, h2⟩ := iterI (step := g316_l0) (fun s => 0 ≤ s.1 ∧ s.2.length + s.1.toNat ≤ n.toNat) (fun s => s.1.toNat) (fun r => r.length ≤ n.toNat) (n, []) ⟨by simp only; omega, by simp⟩ (by
      rintro ⟨v, t⟩ ⟨hv, ht⟩
      simp only at hv ht
      simp only [g316_l0]
      by_cases h0 : v > 0
      · rw [if_pos (decide_eq_true h0)]
        have hq : v.tdiv 10 = v / 10 := Int.tdiv_eq_ediv_of_nonneg hv
        have hw : IntKind.i64.wrap (v.tdiv 10) = v / 10 := by rw [hq]; exact wr ⟨by omega, by omega⟩
        rw [if_pos (by simp; omega), hw]
        exact .inl ⟨_, rfl, ⟨by simp only; omega, by simp; omega⟩, by simp only; omega⟩
      · rw [if_neg (by simpa using h0)]
        exact .inr ⟨_, rfl, by omega⟩)
    rw [h1]
    simp only [Option.bind_some]
    rw [if_pos (by simp; omega)]
    exact ⟨_, rfl⟩
noncomputable def mtext (n : Int) : List UInt8 := (g316 n).getD []
theorem mtext_eq {n : Int} (hn : n ≤ 4611686018427387904) : g316 n = some (mtext n) := by
  obtain ⟨t, h⟩ := g316_some n hn
  simp [mtext, h]
noncomputable def mkIssued (c : Int) (_ : DIssued) : DIssued := DIssued.mk c (c + 1) (mtext (c + 2)) ((c + 3).tmod 3 == 0)
theorem g301_eq (l : List DIssued) (a : Int) (ha : 0 ≤ a ∧ a ≤ 1099511627776) (hl : l.length ≤ 1048576) : g301 l a = some (a + 4 * (l.length : Int), marked mkIssued 4 l a) := by
  have h := mark_loop mkIssued 4 l a (step := g301_l0) (fun k p hp hk => by
    have hkp : k < p.length := by omega
    have c1 : IntKind.i64.wrap (a + ((4 : Nat) : Int) * (k : Int) + 1) = a + ((4 : Nat) : Int) * (k : Int) + 1 := wr ⟨by omega, by omega⟩
    have c2 : IntKind.i64.wrap (a + ((4 : Nat) : Int) * (k : Int) + 1 + 1) = a + ((4 : Nat) : Int) * (k : Int) + 2 := by rw [wr ⟨by omega, by omega⟩]; omega
    have c3 : IntKind.i64.wrap (a + ((4 : Nat) : Int) * (k : Int) + 2 + 1) = a + ((4 : Nat) : Int) * (k : Int) + 3 := by rw [wr ⟨by omega, by omega⟩]; omega
    have c4 : IntKind.i64.wrap (a + ((4 : Nat) : Int) * (k : Int) + 3 + 1) = a + ((4 : Nat) : Int) * ((k + 1 : Nat) : Int) := by rw [wr ⟨by omega, by omega⟩]; omega
    have hi : ∀ r : List DIssued, r.length = p.length → idx r (k : Int) = some (r[k]?.getD default) ∧ r[k]? = some (r[k]?.getD default) := fun r hr => by
      rw [idx_nat, List.getElem?_eq_getElem (by omega)]; exact ⟨rfl, rfl⟩
    simp only [g301_l0]
    rw [if_pos (decide_eq_true (by omega)), (hi p rfl).1]
    simp only [Option.bind_some, Int.toNat_natCast, c1, c2, c3, c4]
    rw [(hi p rfl).2]
    have hs : ∀ x : DIssued, (p.set k x)[k]? = some x := fun x => by rw [List.getElem?_set_self (by omega)]
    have hs' : ∀ x : DIssued, idx (p.set k x) (k : Int) = some x := fun x => by rw [idx_nat, hs]
    simp only [Option.bind_some, bindv, hs, hs', List.set_set, mtext_eq (n := a + ((4 : Nat) : Int) * (k : Int) + 2) (by omega), w1 (show k < 4611686018427387904 by omega)]
    rw [c4]
    rfl) (fun p c hp => by
    simp only [g301_l0]
    rw [if_neg (by simp; omega)])
  simp only [g301, h, Option.bind_some]
  simp
theorem g239_eq (a : DAuthority) (h0 : a.seed.length ≤ 1048576) (h : auFit a) : g239 a 1 = some (1 + (a.seed.length : Int) + 4 * (a.list_.length : Int), marked (fun c _ => b8 c) 1 a.seed 1, marked mkIssued 4 a.list_ (1 + (a.seed.length : Int))) := by
  have := h.2.2.1
  simp only [g239, g235_eq a.seed 1 (by omega) h0, Option.bind_some, marked_len, if_true]
  rw [g301_eq _ _ (by omega) this]
  simp

/-- The serials that are revoked, and have not run out. -/
def revs (a : DAuthority) (now : Int) : List Int := (a.list_.filter fun x => x.revoked && decide (x.to_ ≥ now)).map DIssued.serial
theorem g299_eq (a : DAuthority) (now : Int) (hl : a.list_.length ≤ 1048576) : g299 a now = some (revs a now) := by
  have h := iter_upto (step := g299_l0 a now) (fun k => (((a.list_.take k).filter fun x => x.revoked && decide (x.to_ ≥ now)).map DIssued.serial, (k : Int))) a.list_.length (revs a now) (fun k hk => by
    have hlen : (((a.list_.take k).filter fun x => x.revoked && decide (x.to_ ≥ now)).map DIssued.serial).length ≤ k := by
      rw [List.length_map]
      exact Nat.le_trans (List.length_filter_le _ _) (by simp; omega)
    simp only [g299_l0]
    rw [if_pos (decide_eq_true (by omega)), idx_lt hk]
    simp only [Option.bind_some, g299_j0, w1 (show k < 4611686018427387904 by omega)]
    rw [List.take_succ_eq_append_getElem hk, List.filter_append, List.map_append]
    cases hr : a.list_[k].revoked with
    | false => simp [hr]
    | true =>
      simp only [beq_self_eq_true, if_true, Option.bind_some, cond_true]
      by_cases ht : a.list_[k].to_ ≥ now
      · rw [if_pos (decide_eq_true ht), if_pos (by simp only [List.length_singleton]; omega)]
        simp [hr, ht]
      · rw [if_neg (by simpa using ht)]
        simp [hr, ht]) (by
    simp only [g299_l0]
    rw [if_neg (by simp), List.take_length]
    rfl)
  have h' : iter (g299_l0 a now) (([] : List Int), 0) = some (revs a now) := h
  simp only [g299, h', Option.bind_some]
theorem g300_eq (a : DAuthority) (now : Int) (hl : a.list_.length ≤ 1048576) : g300 a now = some (revs a now) := by
  have hf : (fun x : DIssued => !(bif !x.revoked then true else decide (x.to_ < now))) = fun x => x.revoked && decide (x.to_ ≥ now) := by
    funext x
    cases x.revoked with
    | false => rfl
    | true =>
      simp only [Bool.not_true, cond_false, Bool.true_and]
      rw [← decide_not]
      exact decide_eq_decide.2 (by omega)
  simp only [g300, g349_eq _ hl, Option.bind_some, g348_eq a.list_ (fun z => g350 z now) (fun x => bif !x.revoked then true else decide (x.to_ < now)) (fun x _ => rfl) (by omega), hf]
  rw [g284_eq _ (Nat.le_trans (List.length_filter_le _ _) hl)]
  rfl
theorem revs_len (a : DAuthority) (now : Int) (hl : a.list_.length ≤ 1048576) : (revs a now).length ≤ 1048576 := by
  unfold revs
  rw [List.length_map]
  exact Nat.le_trans (List.length_filter_le _ _) hl
theorem revoked_eq (a : DAuthority) (now : Int) (h : auFit a) : ∃ r : List Int × Int, g237 a now = some r ∧ g238 a now = some r ∧ r.1.length ≤ 1048576 := by
  simp only [g237, g238, g224_eq a h, g226_eq a h, Option.bind_some, g299_eq a now h.2.2.1, g300_eq a now h.2.2.1]
  cases auB a with
  | false => exact ⟨([], 1), rfl, rfl, by simp⟩
  | true => exact ⟨(revs a now, 0), rfl, rfl, revs_len a now h.2.2.1⟩
theorem g205_law (a : DAuthority) (now : Int) (o : okDAuthority a) (_ : ok64 now) : g205 a now = some true := by
  obtain ⟨r, h1, h2⟩ := g223_sz a o
  simp only [g205, h1, Option.bind_some]
  by_cases hr : r < 0
  · rw [if_pos (decide_eq_true hr)]
  · rw [if_neg (by simpa using hr)]
    obtain ⟨h3, h4⟩ := h2 (by omega)
    obtain ⟨q, e1, e2, e3⟩ := revoked_eq a now h4
    have n1 : 0 ≤ 1 + (a.seed.length : Int) + 4 * (a.list_.length : Int) := by omega
    have n1' : ¬ 1 + (a.seed.length : Int) + 4 * (a.list_.length : Int) < 0 := by omega
    have n2 : ¬ 1 + (q.1.length : Int) < 0 := by omega
    simp [g225_eq a h3 h4, e1, e2, g36_refl _ e3, g227_refl a h3 h4, g239_eq a h3 h4, g37_eq _ e3, g38_eq _ e3, bindv, n1, n1', n2]
end Go.Ev
