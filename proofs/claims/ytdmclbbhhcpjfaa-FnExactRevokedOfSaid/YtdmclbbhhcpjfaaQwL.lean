/- Plain lemmas of searches, copies and comparisons, written by a program of ours. -/
import Derived.Test.YtdmclbbhhcpjfaaQwK
import Derived.Test.YtdmclbbhhcpjfaaQgD
set_option linter.all false
set_option linter.all false
namespace Go.Ev
/- laws.toByteS -/
theorem g231_eq (l : List UInt8) (hl : l.length ≤ 1048576) : g231 l = some l := by
  have h := to_loop l id default (step := g231_l0 l) (fun k hk p hp => by
    simp only [g231_l0]
    rw [if_pos (decide_eq_true (by omega)), idx_lt hk]
    simp only [Option.bind_some]
    rw [idx_lt (l := p) (k := k) (by omega)]
    simp only [Option.bind_some, Int.toNat_natCast]
    rw [List.getElem?_eq_getElem (by omega)]
    simp only [Option.bind_some, w1 (show k < 4611686018427387904 by omega)]
    rfl) (fun p hp => by
    simp only [g231_l0]
    rw [if_neg (by simp)])
  rw [List.map_id] at h
  unfold g231
  rw [if_pos (by omega), if_pos (by omega)]
  simp only [Int.toNat_natCast, bindv]
  first
  | (rw [show (iter (g231_l0 l) (List.replicate l.length default, 0)) = _ from h]; rfl)
  | (erw [h]; rfl)
/- laws.toIssuedS -/
theorem g280_eq (l : List DIssued) (hl : l.length ≤ 1048576) (hE : ∀ x ∈ l, g336 x = some x) : g280 l = some l := by
  have h := to_loop l id default (step := g280_l0 l) (fun k hk p hp => by
    simp only [g280_l0]
    rw [if_pos (decide_eq_true (by omega)), idx_lt hk]
    simp only [Option.bind_some]
    rw [hE _ (List.getElem_mem hk)]
    simp only [Option.bind_some]
    rw [idx_lt (l := p) (k := k) (by omega)]
    simp only [Option.bind_some, Int.toNat_natCast]
    rw [List.getElem?_eq_getElem (by omega)]
    simp only [Option.bind_some, w1 (show k < 4611686018427387904 by omega)]
    rfl) (fun p hp => by
    simp only [g280_l0]
    rw [if_neg (by simp)])
  rw [List.map_id] at h
  unfold g280
  rw [if_pos (by omega), if_pos (by omega)]
  simp only [Int.toNat_natCast, bindv]
  first
  | (rw [show (iter (g280_l0 l) (List.replicate l.length default, 0)) = _ from h]; rfl)
  | (erw [h]; rfl)
/- slices.IndexFunc[[]byte,byte] -/
theorem g373_eq (l : List UInt8) (f : UInt8 → Option Bool) (p : UInt8 → Bool) (hf : ∀ x ∈ l, f x = some (p x)) (hl : l.length ≤ 4611686018427387903) : g373 l f = some (firstOf l p) := index_loop l f p hf hl (fun _ => rfl)
/- slices.ContainsFunc[[]byte,byte] -/
theorem g368_eq (l : List UInt8) (f : UInt8 → Option Bool) (p : UInt8 → Bool) (hf : ∀ x ∈ l, f x = some (p x)) (hl : l.length ≤ 4611686018427387903) : g368 l f = some (l.any p) := by
  unfold g368; rw [g373_eq l f p hf hl]; simp only [Option.bind_some, firstOf_ge]
/- impl.areAll[byte] -/
theorem g337_eq (l : List UInt8) (f : UInt8 → Option Bool) (p : UInt8 → Bool) (hf : ∀ x ∈ l, f x = some (p x)) (hl : l.length ≤ 4611686018427387903) : g337 l f = some (l.all p) := by
  unfold g337; rw [g368_eq l _ (fun x => !p x) (fun x hx => by simp [g369, hf x hx]) hl]; simp only [Option.bind_some, all_any]
/- slices.IndexFunc[[]impl.Issued,impl.Issued] -/
theorem g371_eq (l : List DIssued) (f : DIssued → Option Bool) (p : DIssued → Bool) (hf : ∀ x ∈ l, f x = some (p x)) (hl : l.length ≤ 4611686018427387903) : g371 l f = some (firstOf l p) := index_loop l f p hf hl (fun _ => rfl)
/- slices.ContainsFunc[[]impl.Issued,impl.Issued] -/
theorem g342_eq (l : List DIssued) (f : DIssued → Option Bool) (p : DIssued → Bool) (hf : ∀ x ∈ l, f x = some (p x)) (hl : l.length ≤ 4611686018427387903) : g342 l f = some (l.any p) := by
  unfold g342; rw [g371_eq l f p hf hl]; simp only [Option.bind_some, firstOf_ge]
/- impl.areAll[impl.Issued] -/
theorem g285_eq (l : List DIssued) (f : DIssued → Option Bool) (p : DIssued → Bool) (hf : ∀ x ∈ l, f x = some (p x)) (hl : l.length ≤ 4611686018427387903) : g285 l f = some (l.all p) := by
  unfold g285; rw [g342_eq l _ (fun x => !p x) (fun x hx => by simp [g343, hf x hx]) hl]; simp only [Option.bind_some, all_any]
/- laws.eqByteS -/
theorem g233_refl (l : List UInt8) (hl : l.length ≤ 1048576) : g233 l l = some true := by
  have h := same_loop l (step := g233_l0 l l) (fun k hk => by
    simp only [g233_l0]
    rw [if_pos (decide_eq_true (by omega)), idx_lt hk]
    simp [w1 (show k < 4611686018427387904 by omega)]) (by
    simp only [g233_l0]
    rw [if_neg (by simp)])
  unfold g233
  rw [if_neg (by simp), h]
  rfl
/- laws.eqIssued -/
theorem g344_refl (a : DIssued) : g344 a a = some true := by simp [g344]
/- laws.eqIssuedS -/
theorem g288_refl (l : List DIssued) (hl : l.length ≤ 1048576) (hE : ∀ x ∈ l, g344 x x = some true) : g288 l l = some true := by
  have h := same_loop l (step := g288_l0 l l) (fun k hk => by
    simp only [g288_l0]
    rw [if_pos (decide_eq_true (by omega)), idx_lt hk]
    simp [w1 (show k < 4611686018427387904 by omega), hE _ (List.getElem_mem hk)]) (by
    simp only [g288_l0]
    rw [if_neg (by simp)])
  unfold g288
  rw [if_neg (by simp), h]
  rfl
/- laws.eqIntS -/
theorem g36_refl (l : List Int) (hl : l.length ≤ 1048576) : g36 l l = some true := by
  have h := same_loop l (step := g36_l0 l l) (fun k hk => by
    simp only [g36_l0]
    rw [if_pos (decide_eq_true (by omega)), idx_lt hk]
    simp [w1 (show k < 4611686018427387904 by omega)]) (by
    simp only [g36_l0]
    rw [if_neg (by simp)])
  unfold g36
  rw [if_neg (by simp), h]
  rfl
/- slices.DeleteFunc[[]impl.Issued,impl.Issued] -/
theorem g348_eq (l : List DIssued) (f : DIssued → Option Bool) (p : DIssued → Bool) (hf : ∀ x ∈ l, f x = some (p x)) (hl : l.length ≤ 4611686018427387903) : g348 l f = some (l.filter fun x => !p x) := by
  unfold g348; rw [g371_eq l f p hf hl]; exact delete_loop l f p hf hl _ (fun _ _ _ => rfl)
/- slices.Clone[[]impl.Issued,impl.Issued] -/
theorem g349_eq (l : List DIssued) (hl : l.length ≤ 1048576) : g349 l = some l := by
  unfold g349; rw [if_pos (by simp; omega)]
end Go.Ev
