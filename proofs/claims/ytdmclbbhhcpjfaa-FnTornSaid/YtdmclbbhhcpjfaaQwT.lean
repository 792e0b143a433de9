/- Plain words of devices: right ones, what is read behind a write, drawn ones; the plain law of FnDevice. -/
import Derived.Test.YtdmclbbhhcpjfaaQwR
import Derived.Test.YtdmclbbhhcpjfaaQwS
set_option linter.all false
namespace Go.Ev

theorem g63_t (a b c : Int) (h : b ≤ a ∧ a ≤ c) : g63 a b c = some true := by simp [g63, h.1, h.2]
theorem g271_ok (s : DSector) (h : SecOK s) : g271 s = some true := by
  have h2 := h.2
  simp only [g271, g63_t _ _ _ (show (0 : Int) ≤ s.at_ ∧ s.at_ ≤ 127 from h.1), Option.bind_some, cond_true]
  simp [h2]
theorem g216_ok (d : DDevice) (h : DevOK d) : g216 d = some true := by
  obtain ⟨h1, h2, h3, h4⟩ := h
  have e1 : (((d.held.length : Int)).tmod 32 == 0) = true := by rw [Int.tmod_eq_emod_of_nonneg (by omega)]; simp; omega
  have e2 : decide ((d.held.length : Int) ≤ 4096) = true := decide_eq_true (by omega)
  have e3 : decide ((d.waiting.length : Int) ≤ 4096) = true := decide_eq_true (by omega)
  have e4 : d.waiting.all (fun _ => true) = true := by simp
  simp [g216, e1, e2, g269, e3, g270_eq d.waiting (fun z => g271 z) (fun _ => true) (fun x hx => g271_ok x (h4 x hx)) (by omega), e4, bindv]
theorem g213_ok (d : DDevice) (h : DevOK d) : g213 d = some (readD d, 0) := by
  simp [g213, g216_ok d h, g263_eq d h]
theorem secsB_len (all : List UInt8) (a n : Nat) : (secsB all a n).length = n := by simp [secsB]
theorem writeD_ok (d : DDevice) (h : DevOK d) (k : Nat) (data : List UInt8) (hk : k + data.length ≤ 4096) (hw : (writeD d k data).waiting.length ≤ 4096) : DevOK (writeD d k data) := by
  unfold writeD at hw ⊢
  split
  · exact h
  · rename_i h0
    rw [if_neg h0] at hw
    refine ⟨h.1, h.2.1, hw, fun s hs => ?_⟩
    rcases List.mem_append.1 hs with hs | hs
    · exact h.2.2.2 s hs
    · simp only [secsB, List.mem_map, List.mem_range'_1] at hs
      obtain ⟨j, ⟨hj1, hj2⟩, rfl⟩ := hs
      exact ⟨⟨by simp only; omega, by simp only; omega⟩, cutB_len _ _ (by rw [wrB_len]; omega)⟩
theorem gt_cut (all : List UInt8) (j t : Nat) (ht : t < 32) : gt (cutB all j) t = gt all (32 * j + t) := by
  unfold gt cutB
  rw [List.getElem?_take_of_lt ht, List.getElem?_drop]
theorem fold_secs (all : List UInt8) (a : Nat) (b : List UInt8) : ∀ n, 32 * (a + n) ≤ all.length →
    ((secsB all a n).foldl (fun b s => putB b s.at_.toNat s.data) b).length = max b.length (if n = 0 then 0 else 32 * (a + n)) ∧
    ∀ i, gt ((secsB all a n).foldl (fun b s => putB b s.at_.toNat s.data) b) i = if 32 * a ≤ i ∧ i < 32 * (a + n) then gt all i else gt b i := by
  intro n
  induction n with
  | zero => intro _; exact ⟨by simp [secsB], fun i => by rw [if_neg (by omega)]; rfl⟩
  | succ n ih =>
    intro hall
    obtain ⟨i1, i2⟩ := ih (by omega)
    have e : secsB all a (n + 1) = secsB all a n ++ [DSector.mk ((a + n : Nat) : Int) (cutB all (a + n))] := by
      unfold secsB
      rw [← List.range'_append_1 (s := a) (m := n) (n := 1), List.map_append]
      rfl
    have hc := cutB_len all (a + n) (by omega)
    rw [e, List.foldl_append]
    simp only [List.foldl_cons, List.foldl_nil, Int.toNat_natCast]
    refine ⟨?_, fun i => ?_⟩
    · rw [putB_len _ _ _ hc, i1]
      by_cases h0 : n = 0
      · simp [h0]
      · simp only [h0, if_false]; rw [if_neg (by omega)]; omega
    · rw [gt_put _ _ _ _ hc, i2]
      by_cases c1 : 32 * (a + n) ≤ i ∧ i < 32 * (a + n) + 32
      · rw [if_pos c1, if_pos (by omega), gt_cut _ _ _ (by omega)]
        congr 1; omega
      · rw [if_neg c1]
        by_cases c2 : 32 * a ≤ i ∧ i < 32 * (a + n)
        · rw [if_pos c2, if_pos (by omega)]
        · rw [if_neg c2, if_neg (by omega)]
/-- What is read behind a write. -/
theorem read_write (d : DDevice) (h : DevOK d) (k : Nat) (data : List UInt8) (hk : k + data.length ≤ 4096) :
    (readD d).length ≤ (readD (writeD d k data)).length ∧ (data.length ≠ 0 → k + data.length ≤ (readD (writeD d k data)).length) ∧ ∀ i, gt (readD (writeD d k data)) i = if k ≤ i ∧ i < k + data.length then gt data (i - k) else gt (readD d) i := by
  unfold writeD
  by_cases h0 : data.length = 0
  · rw [if_pos h0]
    exact ⟨Nat.le_refl _, fun hh => absurd h0 hh, fun i => by rw [if_neg (by omega)]⟩
  · rw [if_neg h0]
    have e : readD (DDevice.mk d.held (d.waiting ++ secsB (wrB (readD d) k data) (k / 32) ((k + data.length - 1) / 32 + 1 - k / 32))) =
        (secsB (wrB (readD d) k data) (k / 32) ((k + data.length - 1) / 32 + 1 - k / 32)).foldl (fun b s => putB b s.at_.toNat s.data) (readD d) := by
      unfold readD; rw [List.foldl_append]
    have hle : k / 32 ≤ (k + data.length - 1) / 32 := by omega
    obtain ⟨f1, f2⟩ := fold_secs (wrB (readD d) k data) (k / 32) (readD d) ((k + data.length - 1) / 32 + 1 - k / 32) (by rw [wrB_len]; omega)
    rw [e]
    rw [if_neg (by omega)] at f1
    refine ⟨by omega, fun _ => by omega, fun i => ?_⟩
    rw [f2]
    have hg : gt (wrB (readD d) k data) i = if k ≤ i ∧ i < k + data.length then gt data (i - k) else gt (readD d) i := by
      unfold wrB
      rw [gt_ovl _ _ _ (by rw [padB_len]; omega), gt_pad]
    by_cases c : 32 * (k / 32) ≤ i ∧ i < 32 * (k / 32 + ((k + data.length - 1) / 32 + 1 - k / 32))
    · rw [if_pos c, hg]
    · rw [if_neg c, if_neg (by omega)]
theorem g265_ok (d : DDevice) (h : DevOK d) (k : Nat) (data : List UInt8) (hk : k + data.length ≤ 4096) (hw : (writeD d k data).waiting.length ≤ 4096) : g265 d (k : Int) data = some (writeD d k data, 0) := by
  have e0 : IntKind.i64.wrap ((k : Int) + (data.length : Int)) = ((k + data.length : Nat) : Int) := by rw [wr ⟨by omega, by omega⟩]; omega
  have e1 : decide (((k + data.length : Nat) : Int) ≤ 4096) = true := decide_eq_true (by omega)
  have e2 : g327 (k : Int) (data.length : Int) = some true := by
    simp only [g327, g63_t _ _ _ (show (0 : Int) ≤ (k : Int) ∧ (k : Int) ≤ 4096 by omega), Option.bind_some, bindv, e0, e1, cond_true]
  have e3 : g269 (writeD d k data).waiting = some true := by
    simp only [g269, decide_eq_true (show (((writeD d k data).waiting.length : Nat) : Int) ≤ 4096 by omega)]
  simp [g265, e2, g328_eq d h k data hk, e3]
theorem g214_ok (d : DDevice) (h : DevOK d) (k : Nat) (data : List UInt8) (hk : k + data.length ≤ 4096) (hw : (writeD d k data).waiting.length ≤ 4096) : g214 d (k : Int) data = some (writeD d k data, 0) := by
  have e3 : g264 data = some true := by simp only [g264, decide_eq_true (show ((data.length : Nat) : Int) ≤ 65536 by omega)]
  simp [g214, e3, g216_ok d h, g265_ok d h k data hk hw]
theorem emptyD : DevOK (DDevice.mk [] []) := ⟨by simp, by simp, by simp, by simp⟩
/-- A device that is written and flushed. -/
theorem g215_two (k : Nat) (data : List UInt8) (hk : k + data.length ≤ 4096) (hw : (writeD (DDevice.mk [] []) k data).waiting.length ≤ 4096) :
    g215 [DDevAct.mk 1 (k : Int) data [], DDevAct.mk 2 0 [] []] = some ([0, 0], DDevice.mk (readD (writeD (DDevice.mk [] []) k data)) [], 0) := by
  have hok := writeD_ok _ emptyD k data hk hw
  have s1 : g215_l0 [DDevAct.mk 1 (k : Int) data [], DDevAct.mk 2 0 [] []] ([], 0, [], []) = some (.inl ([0], 1, (writeD (DDevice.mk [] []) k data).held, (writeD (DDevice.mk [] []) k data).waiting)) := by
    simp only [g215_l0, List.length_cons, List.length_nil]
    rw [if_pos (by rfl)]
    have ei : idx [DDevAct.mk 1 (k : Int) data [], DDevAct.mk 2 0 [] []] 0 = some (DDevAct.mk 1 (k : Int) data []) := rfl
    rw [ei]
    simp only [Option.bind_some]
    rw [if_pos (by decide), g265_ok _ emptyD k data hk hw]
    rfl
  have s2 : g215_l0 [DDevAct.mk 1 (k : Int) data [], DDevAct.mk 2 0 [] []] ([0], 1, (writeD (DDevice.mk [] []) k data).held, (writeD (DDevice.mk [] []) k data).waiting) = some (.inl ([0, 0], 2, readD (writeD (DDevice.mk [] []) k data), [])) := by
    simp only [g215_l0, List.length_cons, List.length_nil]
    rw [if_pos (by rfl)]
    have ei : idx [DDevAct.mk 1 (k : Int) data [], DDevAct.mk 2 0 [] []] 1 = some (DDevAct.mk 2 0 [] []) := rfl
    rw [ei]
    simp only [Option.bind_some]
    rw [if_neg (by decide), if_pos (by decide)]
    have : g267 (writeD (DDevice.mk [] []) k data) = some (DDevice.mk (readD (writeD (DDevice.mk [] []) k data)) []) := by simp only [g267, g263_eq _ hok, Option.bind_some]
    rw [show DDevice.mk (writeD (DDevice.mk [] []) k data).held (writeD (DDevice.mk [] []) k data).waiting = writeD (DDevice.mk [] []) k data from rfl, this]
    rfl
  have s3 : g215_l0 [DDevAct.mk 1 (k : Int) data [], DDevAct.mk 2 0 [] []] ([0, 0], 2, readD (writeD (DDevice.mk [] []) k data), []) = some (.inr ([0, 0], readD (writeD (DDevice.mk [] []) k data), [])) := by
    simp only [g215_l0, List.length_cons, List.length_nil]
    rw [if_neg (fun h => nomatch h)]
  have hi := (iter_next s1).trans ((iter_next s2).trans (iter_end s3))
  simp only [g215, g266, List.length_cons, List.length_nil]
  have e1 : decide (((0 + 1 + 1 : Nat) : Int) ≤ 4096) = true := by decide
  have e2 : decide (((0 + 1 + 1 : Nat) : Int) > 200) = false := by decide
  simp only [e1, e2, Option.bind_some, Bool.not_true, Bool.false_eq_true, if_false]
  rw [hi]
  rfl
theorem g40_ok (l : List UInt8) (n : Int) (hn : 1 < n ∧ n ≤ 1048576) (hl : l.length ≤ 1048576) : ∃ v : Nat, g40 l 0 n = some (v : Int) ∧ (v : Int) < n := by
  simp only [g40]
  rw [if_neg (by simp; omega)]
  have fin : ∀ v : Int, 0 ≤ v → ∃ u : Nat, v.tmod n = (u : Int) ∧ (u : Int) < n := fun v hv => by
    refine ⟨(v % n).toNat, ?_, ?_⟩
    · rw [Int.tmod_eq_emod_of_nonneg hv]
      have := Int.emod_nonneg v (show n ≠ 0 by omega); omega
    · have := Int.emod_lt_of_pos v (show 0 < n by omega)
      have := Int.emod_nonneg v (show n ≠ 0 by omega); omega
  by_cases h0 : l.length = 0
  · rw [if_pos (by simp [h0]), if_pos (by omega)]
    exact ⟨0, by simp [IntKind.wrap, IntKind.bits, IntKind.signed], by omega⟩
  · rw [if_neg (by simpa using h0), if_pos (by omega)]
    have e1 : (0 : Int).tmod (l.length : Int) = ((0 : Nat) : Int) := by simp
    have e2 : IntKind.i64.wrap (0 + 1) = 1 := by decide
    have e3 : (1 : Int).tmod (l.length : Int) = ((1 % l.length : Nat) : Int) := by
      rw [Int.tmod_eq_emod_of_nonneg (by omega)]; simp
    have h1 : 1 % l.length < l.length := Nat.mod_lt _ (by omega)
    rw [e1, idx_lt (by omega)]
    simp only [Option.bind_some, e2, e3]
    rw [idx_lt h1]
    simp only [Option.bind_some]
    rw [if_pos (by omega)]
    generalize l[0] = x
    generalize l[1 % l.length] = y
    have hx : (x.toNat : Int) < 256 := by have := x.toNat_lt; omega
    have hy : (y.toNat : Int) < 256 := by have := y.toNat_lt; omega
    have w1' : IntKind.i64.wrap (x.toNat : Int) = (x.toNat : Int) := wr ⟨by omega, by omega⟩
    have w2 : IntKind.i64.wrap ((x.toNat : Int) * 31) = (x.toNat : Int) * 31 := wr ⟨by omega, by omega⟩
    have w3 : IntKind.i64.wrap (y.toNat : Int) = (y.toNat : Int) := wr ⟨by omega, by omega⟩
    have w4 : IntKind.i64.wrap ((x.toNat : Int) * 31 + (y.toNat : Int)) = (x.toNat : Int) * 31 + (y.toNat : Int) := wr ⟨by omega, by omega⟩
    have w5 : IntKind.i64.wrap ((0 : Int).tdiv (l.length : Int)) = 0 := by simp [IntKind.wrap, IntKind.bits, IntKind.signed]
    have w6 : IntKind.i64.wrap ((x.toNat : Int) * 31 + (y.toNat : Int) + 0) = (x.toNat : Int) * 31 + (y.toNat : Int) := by rw [wr ⟨by omega, by omega⟩]; omega
    simp only [bindv, w1', w2, w3, w4, w5, w6]
    obtain ⟨u, u1, u2⟩ := fin ((x.toNat : Int) * 31 + (y.toNat : Int)) (by omega)
    exact ⟨u, by rw [u1], u2⟩
end Go.Ev
