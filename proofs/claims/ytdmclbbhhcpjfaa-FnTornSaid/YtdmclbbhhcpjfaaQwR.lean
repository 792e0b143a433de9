/- Plain words of devices. -/
import Derived.Test.YtdmclbbhhcpjfaaQwL2
set_option linter.all false
namespace Go.Ev

def SecOK (s : DSector) : Prop := (0 ≤ s.at_ ∧ s.at_ ≤ 127) ∧ s.data.length = 32
def DevOK (d : DDevice) : Prop := d.held.length % 32 = 0 ∧ d.held.length ≤ 4096 ∧ d.waiting.length ≤ 4096 ∧ ∀ s ∈ d.waiting, SecOK s
/-- Bytes, with noughts behind up to a length. -/
def padB (b : List UInt8) (n : Nat) : List UInt8 := b ++ List.replicate (n - b.length) 0
@[simp] theorem padB_len (b : List UInt8) (n : Nat) : (padB b n).length = max b.length n := by simp [padB]; omega
def putB (b : List UInt8) (k : Nat) (d : List UInt8) : List UInt8 := (padB b (32 * (k + 1))).take (32 * k) ++ d ++ (padB b (32 * (k + 1))).drop (32 * k + 32)
theorem putB_len (b : List UInt8) (k : Nat) (d : List UInt8) (h : d.length = 32) : (putB b k d).length = max b.length (32 * (k + 1)) := by
  simp [putB, h]; omega
/-- What stands at a place; nought behind the end. -/
def gt (l : List UInt8) (i : Nat) : UInt8 := l[i]?.getD 0
theorem gt_pad (b : List UInt8) (n i : Nat) : gt (padB b n) i = gt b i := by
  unfold gt padB
  by_cases h : i < b.length
  · rw [List.getElem?_append_left h]
  · rw [List.getElem?_append_right (by omega), List.getElem?_eq_none (by omega : b.length ≤ i)]
    by_cases h2 : i - b.length < n - b.length
    · rw [List.getElem?_replicate, if_pos h2]; rfl
    · rw [List.getElem?_replicate, if_neg h2]
theorem gt_put (b : List UInt8) (k i : Nat) (d : List UInt8) (h : d.length = 32) : gt (putB b k d) i = if 32 * k ≤ i ∧ i < 32 * k + 32 then gt d (i - 32 * k) else gt b i := by
  have hp : ∀ j, gt (padB b (32 * (k + 1))) j = gt b j := gt_pad b _
  unfold gt at hp ⊢
  unfold putB
  have hlen : ((padB b (32 * (k + 1))).take (32 * k)).length = 32 * k := by simp; omega
  by_cases h1 : i < 32 * k
  · rw [if_neg (by omega), List.append_assoc, List.getElem?_append_left (by omega), List.getElem?_take_of_lt h1, hp]
  · by_cases h2 : i < 32 * k + 32
    · rw [if_pos ⟨by omega, h2⟩, List.append_assoc, List.getElem?_append_right (by omega), hlen, List.getElem?_append_left (by omega)]
    · rw [if_neg (by omega), List.getElem?_append_right (by simp; omega), List.getElem?_drop]
      rw [← hp]
      congr 2
      simp; omega
def readD (d : DDevice) : List UInt8 := d.waiting.foldl (fun b s => putB b s.at_.toNat s.data) d.held
theorem fold_len (l : List DSector) (b : List UInt8) (hl : ∀ s ∈ l, SecOK s) (h1 : b.length % 32 = 0) (h2 : b.length ≤ 4096) :
    (l.foldl (fun b s => putB b s.at_.toNat s.data) b).length % 32 = 0 ∧ (l.foldl (fun b s => putB b s.at_.toNat s.data) b).length ≤ 4096 ∧ b.length ≤ (l.foldl (fun b s => putB b s.at_.toNat s.data) b).length := by
  induction l generalizing b with
  | nil => exact ⟨h1, h2, Nat.le_refl _⟩
  | cons s r ih =>
    have hs := hl s (by simp)
    have hlen := putB_len b s.at_.toNat s.data hs.2
    have := hs.1
    obtain ⟨i1, i2, i3⟩ := ih (putB b s.at_.toNat s.data) (fun x hx => hl x (by simp [hx])) (by rw [hlen]; omega) (by rw [hlen]; omega)
    exact ⟨i1, i2, by have := i3; simp only [List.foldl_cons]; omega⟩
theorem readD_len (d : DDevice) (h : DevOK d) : (readD d).length % 32 = 0 ∧ (readD d).length ≤ 4096 ∧ d.held.length ≤ (readD d).length := fold_len d.waiting d.held h.2.2.2 h.1 h.2.1

theorem wr32 {k : Nat} (h : k ≤ 1099511627776) : IntKind.i64.wrap (32 * (k : Int)) = ((32 * k : Nat) : Int) := by rw [wr ⟨by omega, by omega⟩]; omega
theorem wr32' {k : Nat} (h : k ≤ 1099511627776) : IntKind.i64.wrap ((k : Int) * 32) = ((32 * k : Nat) : Int) := by rw [wr ⟨by omega, by omega⟩]; omega
/-- What copy does with the tail of bytes. -/
theorem put_tail (b : List UInt8) (k : Nat) (d : List UInt8) (h : d.length = 32) (hb : 32 * (k + 1) ≤ b.length) :
    ((slc b ((32 * k : Nat) : Int) (b.length : Int)).bind fun s => bindv (ovl b (((32 * k : Nat) : Int)).toNat (d.take s.length)) fun v => some v) = some (putB b k d) := by
  rw [slcK _ _ _ (by omega) (Nat.le_refl _)]
  simp only [Option.bind_some, bindv, Int.toNat_natCast, List.take_length, List.length_drop]
  rw [List.take_of_length_le (by omega)]
  congr 1
  have hp : padB b (32 * (k + 1)) = b := by simp [padB, show 32 * (k + 1) - b.length = 0 by omega]
  unfold putB
  rw [hp]
  apply List.ext_getElem
  · simp [ovl]; omega
  · intro i h1 h2
    simp only [ovl, List.length_mapIdx] at h1
    simp only [ovl, List.getElem_mapIdx, List.getElem_append, List.length_take, List.length_append]
    by_cases c1 : 32 * k ≤ i
    · rw [if_pos c1]
      by_cases c2 : i < 32 * k + 32
      · rw [dif_pos (by omega), dif_neg (by omega), List.getElem?_eq_getElem (by omega)]
        simp only [Option.getD_some]
        congr 1; omega
      · rw [dif_neg (by omega), List.getElem?_eq_none (by omega)]
        simp only [Option.getD_none, List.getElem_drop]
        congr 1; omega
    · rw [if_neg c1, dif_pos (by omega), dif_pos (by omega), List.getElem_take]
theorem g326_eq (b : List UInt8) (s : DSector) (hs : SecOK s) (hb : b.length ≤ 1048576) : g326 b s = some (putB b s.at_.toNat s.data) := by
  obtain ⟨k, hk⟩ : ∃ k : Nat, s.at_ = k := ⟨s.at_.toNat, by have := hs.1; omega⟩
  have hk1 : k ≤ 127 := by have := hs.1; omega
  have e1 : IntKind.i64.wrap (s.at_ + 1) = ((k + 1 : Nat) : Int) := by rw [hk]; exact w1 (by omega)
  have e2 := wr32 (show k + 1 ≤ 1099511627776 by omega)
  have e3 : IntKind.i64.wrap (32 * s.at_) = ((32 * k : Nat) : Int) := by rw [hk]; exact wr32 (by omega)
  simp only [g326, bindv, e1, e2]
  have e4 : s.at_.toNat = k := by omega
  rw [e4]
  by_cases hlt : b.length < 32 * (k + 1)
  · have e5 : IntKind.i64.wrap (((32 * (k + 1) : Nat) : Int) - (b.length : Int)) = ((32 * (k + 1) - b.length : Nat) : Int) := by rw [wr ⟨by omega, by omega⟩]; omega
    rw [if_pos (decide_eq_true (by omega)), e5, if_pos (by omega), if_pos (by omega)]
    simp only [g326_j0, e3, Int.toNat_natCast]
    have hlen : (b ++ List.replicate (32 * (k + 1) - b.length) (0 : UInt8)).length = 32 * (k + 1) := by simp; omega
    have := put_tail (b ++ List.replicate (32 * (k + 1) - b.length) 0) k s.data hs.2 (by omega)
    simp only [Int.toNat_natCast] at this
    rw [this]
    congr 1
    have hp : padB (b ++ List.replicate (32 * (k + 1) - b.length) 0) (32 * (k + 1)) = padB b (32 * (k + 1)) := by
      conv => lhs; unfold padB
      rw [hlen]
      simp [padB]
    unfold putB
    rw [hp]
  · rw [if_neg (by simp; omega)]
    simp only [g326_j0, e3]
    exact put_tail b k s.data hs.2 (by omega)
theorem g352_eq (b : List UInt8) (s : DSector) (hs : SecOK s) (hb : b.length ≤ 1048576) (h32 : b.length % 32 = 0) : g352 b s = some (putB b s.at_.toNat s.data) := by
  obtain ⟨k, hk⟩ : ∃ k : Nat, s.at_ = k := ⟨s.at_.toNat, by have := hs.1; omega⟩
  have hk1 : k ≤ 127 := by have := hs.1; omega
  have e1 : IntKind.i64.wrap (s.at_ + 1) = ((k + 1 : Nat) : Int) := by rw [hk]; exact w1 (by omega)
  have e2 := wr32' (show k + 1 ≤ 1099511627776 by omega)
  have e3 : IntKind.i64.wrap (s.at_ * 32) = ((32 * k : Nat) : Int) := by rw [hk]; exact wr32' (by omega)
  have e4 : s.at_.toNat = k := by omega
  rw [e4]
  obtain ⟨r, h1, h2⟩ := iterI (step := g352_l0 s) (fun t => (∃ n, t = b ++ List.replicate n 0) ∧ t.length % 32 = 0 ∧ b.length ≤ t.length ∧ t.length ≤ max b.length (32 * (k + 1))) (fun t => 1048576 + 4096 - t.length) (fun r => r = padB b (32 * (k + 1))) b ⟨⟨0, by simp⟩, h32, Nat.le_refl _, by omega⟩ (by
    rintro t ⟨⟨n, hn⟩, t1, t2, t3⟩
    simp only [g352_l0, bindv, e1, e2]
    by_cases hlt : t.length < 32 * (k + 1)
    · rw [if_pos (decide_eq_true (by omega)), if_pos (by omega), if_pos (by omega)]
      refine .inl ⟨_, rfl, ⟨⟨n + 32, ?_⟩, by simp; omega, by simp; omega, by simp; omega⟩, by simp; omega⟩
      rw [hn, List.append_assoc, List.replicate_append_replicate]
      rfl
    · rw [if_neg (by simp; omega)]
      refine .inr ⟨_, rfl, ?_⟩
      subst hn
      simp only [List.length_append, List.length_replicate] at t3 hlt
      unfold padB
      congr 2
      omega)
  subst h2
  simp only [g352, List.nil_append]
  rw [if_pos (by simp; omega), h1]
  simp only [Option.bind_some, e3]
  have := put_tail (padB b (32 * (k + 1))) k s.data hs.2 (by simp; omega)
  rw [this]
  congr 1
  have hp : padB (padB b (32 * (k + 1))) (32 * (k + 1)) = padB b (32 * (k + 1)) := by
    have e0 : 32 * (k + 1) - (padB b (32 * (k + 1))).length = 0 := by simp; omega
    show padB b (32 * (k + 1)) ++ List.replicate (32 * (k + 1) - (padB b (32 * (k + 1))).length) 0 = _
    rw [e0]
    simp
  unfold putB
  rw [hp]
/-- Sectors put one behind the other. -/
theorem fold_loop (l : List DSector) (b : List UInt8) (hl : ∀ s ∈ l, SecOK s) (hn : l.length ≤ 1048576) (h1 : b.length % 32 = 0) (h2 : b.length ≤ 4096) {step : List UInt8 × Int → Option ((List UInt8 × Int) ⊕ List UInt8)}
    (hs : ∀ k (hk : k < l.length) (p : List UInt8), p.length % 32 = 0 → p.length ≤ 4096 → step (p, (k : Int)) = some (.inl (putB p l[k].at_.toNat l[k].data, ((k + 1 : Nat) : Int)))) (he : ∀ p, step (p, (l.length : Int)) = some (.inr p)) :
    iter step (b, 0) = some (l.foldl (fun b s => putB b s.at_.toNat s.data) b) := by
  have h := iter_upto (step := step) (fun k => ((l.take k).foldl (fun b s => putB b s.at_.toNat s.data) b, (k : Int))) l.length (l.foldl (fun b s => putB b s.at_.toNat s.data) b) (fun k hk => by
    have hf := fold_len (l.take k) b (fun s hs' => hl s (List.mem_of_mem_take hs')) h1 h2
    rw [hs k hk _ hf.1 hf.2.1, List.take_succ_eq_append_getElem hk, List.foldl_append]
    rfl) (by
    rw [he, List.take_length])
  exact h
theorem g263_eq (d : DDevice) (h : DevOK d) : g263 d = some (readD d) := by
  have hh := h.2.1; have hw := h.2.2.1
  have hl := fold_loop d.waiting d.held h.2.2.2 (by omega) h.1 h.2.1 (step := g263_l0 d) (fun k hk p p1 p2 => by
    simp only [g263_l0]
    rw [if_pos (decide_eq_true (by omega)), idx_lt hk]
    simp only [Option.bind_some, g326_eq p _ (h.2.2.2 _ (List.getElem_mem hk)) (by omega), w1 (show k < 4611686018427387904 by omega)]) (fun p => by
    simp only [g263_l0]
    rw [if_neg (by simp)])
  simp only [g263, g325_eq d.held (by omega), Option.bind_some, hl]
  rfl
theorem g303_eq (d : DDevice) (h : DevOK d) : g303 d = some (readD d) := by
  have hh := h.2.1; have hw := h.2.2.1
  have hl := fold_loop d.waiting d.held h.2.2.2 (by omega) h.1 h.2.1 (step := g303_l0 d) (fun k hk p p1 p2 => by
    simp only [g303_l0]
    rw [if_pos (decide_eq_true (by omega)), idx_lt hk]
    simp only [Option.bind_some, g352_eq p _ (h.2.2.2 _ (List.getElem_mem hk)) (by omega) p1, w1 (show k < 4611686018427387904 by omega)]) (fun p => by
    simp only [g303_l0]
    rw [if_neg (by simp)])
  simp only [g303, List.nil_append]
  rw [if_pos (by simp; omega), hl]
  rfl

/-! ### Writing -/
/-- All bytes behind a write. -/
def wrB (all : List UInt8) (k : Nat) (data : List UInt8) : List UInt8 := ovl (padB all (32 * ((k + data.length - 1) / 32 + 1))) k data
theorem ovl_len {α : Type} (l : List α) (k : Nat) (y : List α) : (ovl l k y).length = l.length := by simp [ovl]
theorem gt_ovl (l : List UInt8) (k : Nat) (y : List UInt8) (h : k + y.length ≤ l.length) (i : Nat) : gt (ovl l k y) i = if k ≤ i ∧ i < k + y.length then gt y (i - k) else gt l i := by
  unfold gt
  by_cases hi : i < l.length
  · have h1 : i < (ovl l k y).length := by rw [ovl_len]; exact hi
    rw [List.getElem?_eq_getElem h1]
    simp only [ovl, List.getElem_mapIdx, Option.getD_some]
    by_cases c1 : k ≤ i
    · rw [if_pos c1]
      by_cases c2 : i < k + y.length
      · rw [if_pos ⟨c1, c2⟩, List.getElem?_eq_getElem (by omega)]; rfl
      · rw [if_neg (by omega), List.getElem?_eq_none (by omega), List.getElem?_eq_getElem hi]; rfl
    · rw [if_neg c1, if_neg (by omega), List.getElem?_eq_getElem hi]; rfl
  · rw [if_neg (by omega), List.getElem?_eq_none (by rw [ovl_len]; omega), List.getElem?_eq_none (by omega)]
def cutB (all : List UInt8) (k : Nat) : List UInt8 := (all.drop (32 * k)).take 32
def secsB (all : List UInt8) (a n : Nat) : List DSector := (List.range' a n).map fun (k : Nat) => DSector.mk (k : Int) (cutB all k)
def writeD (d : DDevice) (k : Nat) (data : List UInt8) : DDevice :=
  if data.length = 0 then d else DDevice.mk d.held (d.waiting ++ secsB (wrB (readD d) k data) (k / 32) ((k + data.length - 1) / 32 + 1 - k / 32))
theorem cutB_len (all : List UInt8) (k : Nat) (h : 32 * (k + 1) ≤ all.length) : (cutB all k).length = 32 := by simp [cutB]; omega
theorem slc_cut (all : List UInt8) (k : Nat) (h : 32 * (k + 1) ≤ all.length) : slc all ((32 * k : Nat) : Int) ((32 * (k + 1) : Nat) : Int) = some (cutB all k) := by
  rw [slcK _ _ _ (by omega) h]
  unfold cutB
  rw [List.drop_take]
  congr 2
  omega
theorem wrB_len (all : List UInt8) (k : Nat) (data : List UInt8) : (wrB all k data).length = max all.length (32 * ((k + data.length - 1) / 32 + 1)) := by
  unfold wrB; rw [ovl_len, padB_len]
theorem own_loop (d : DDevice) (h : DevOK d) : g366 d = some d := by
  have hh := h.2.1; have hw := h.2.2.1
  have hl := iter_upto (step := g366_l0 d) (fun k => ((k : Int), d.waiting.take k)) d.waiting.length d.waiting (fun k hk => by
    have hd := (h.2.2.2 _ (List.getElem_mem hk)).2
    simp only [g366_l0]
    rw [if_pos (decide_eq_true (by omega)), idx_lt hk]
    simp only [Option.bind_some, g325_eq d.waiting[k].data (by omega), w1 (show k < 4611686018427387904 by omega)]
    rw [if_pos (by simp; omega), List.take_succ_eq_append_getElem hk]) (by
    simp only [g366_l0]
    rw [if_neg (by simp), List.take_length])
  have hl' : iter (g366_l0 d) (0, ([] : List DSector)) = some d.waiting := hl
  simp only [g366, g325_eq d.held (by omega), Option.bind_some, hl']
/-- The sectors of a write, pushed one behind the other. -/
theorem secs_loop (all : List UInt8) (l0 : List DSector) (a n : Nat) (hall : 32 * (a + n) ≤ all.length) (hn : all.length ≤ 1048576) {step : Int × List DSector → Option ((Int × List DSector) ⊕ List DSector)}
    (hs : ∀ k (p : List DSector), a ≤ k → k < a + n → p.length ≤ l0.length + n → step ((k : Int), p) = some (.inl (((k + 1 : Nat) : Int), p ++ [DSector.mk (k : Int) (cutB all k)]))) (he : ∀ p, step (((a + n : Nat) : Int), p) = some (.inr p)) :
    iter step ((a : Int), l0) = some (l0 ++ secsB all a n) := by
  have h := iter_upto (step := step) (fun k => (((a + k : Nat) : Int), l0 ++ secsB all a k)) n (l0 ++ secsB all a n) (fun k hk => by
    rw [hs (a + k) _ (by omega) (by omega) (by simp [secsB]; omega), List.append_assoc]
    congr 4
    unfold secsB
    rw [← List.range'_append_1 (s := a) (m := k) (n := 1), List.map_append]
    rfl) (he _)
  simpa [secsB] using h
theorem g328_eq (d : DDevice) (h : DevOK d) (k : Nat) (data : List UInt8) (hk : k + data.length ≤ 4096) : g328 d (k : Int) data = some (writeD d k data) := by
  simp only [g328, own_loop d h, Option.bind_some]
  by_cases h0 : data.length = 0
  · rw [if_pos (by simp [h0])]
    simp [writeD, h0]
  · rw [if_neg (by simpa using h0), g263_eq d h]
    obtain ⟨r1, r2, r3⟩ := readD_len d h
    have e0 : IntKind.i64.wrap ((k : Int) + (data.length : Int)) = ((k + data.length : Nat) : Int) := by rw [wr ⟨by omega, by omega⟩]; omega
    have e1 : IntKind.i64.wrap (((k + data.length : Nat) : Int) - 1) = ((k + data.length - 1 : Nat) : Int) := by rw [wr ⟨by omega, by omega⟩]; omega
    have e2 : (((k + data.length - 1 : Nat) : Int)).tdiv 32 = (((k + data.length - 1) / 32 : Nat) : Int) := by rw [Int.tdiv_eq_ediv_of_nonneg (by omega)]; omega
    generalize hq : (k + data.length - 1) / 32 = q at e2
    have hq1 : q ≤ 128 := by omega
    have e3 : IntKind.i64.wrap ((q : Nat) : Int) = (q : Int) := wr ⟨by omega, by omega⟩
    have e4 := w1 (show q < 4611686018427387904 by omega)
    have e5 := wr32 (show q + 1 ≤ 1099511627776 by omega)
    have e6 : IntKind.i64.wrap (((k : Int)).tdiv 32) = ((k / 32 : Nat) : Int) := by
      rw [Int.tdiv_eq_ediv_of_nonneg (by omega), wr ⟨by omega, by omega⟩]; omega
    simp only [Option.bind_some, e0, e1, e2, e3, e4, e5, bindv]
    have key : ∀ p : List UInt8, p = padB (readD d) (32 * (q + 1)) → g328_j0 (k : Int) data d (q : Int) p = some (writeD d k data) := by
      rintro p rfl
      have hpl : (padB (readD d) (32 * (q + 1))).length = max (readD d).length (32 * (q + 1)) := padB_len _ _
      simp only [g328_j0]
      rw [slcK _ _ _ (by omega) (Nat.le_refl _)]
      simp only [Option.bind_some, e6]
      have hd : (data.take ((padB (readD d) (32 * (q + 1))).take (padB (readD d) (32 * (q + 1))).length |>.drop k).length) = data := List.take_of_length_le (by simp; omega)
      have hw0 : ovl (padB (readD d) (32 * (q + 1))) k data = wrB (readD d) k data := by unfold wrB; rw [hq]
      have hwl : (wrB (readD d) k data).length = max (readD d).length (32 * (q + 1)) := by rw [wrB_len, hq]
      have hle : k / 32 ≤ q := by omega
      have hw := h.2.2.1
      have hl := secs_loop (wrB (readD d) k data) d.waiting (k / 32) (q + 1 - k / 32) (by omega) (by omega) (step := g328_l0 (k : Int) data (q : Int) (padB (readD d) (32 * (q + 1))) ((padB (readD d) (32 * (q + 1))).take (padB (readD d) (32 * (q + 1))).length |>.drop k)) (fun j p j1 j2 j3 => by
        simp only [g328_l0]
        rw [if_pos (decide_eq_true (by omega)), hd, w1 (show j < 4611686018427387904 by omega), wr32 (show j ≤ 1099511627776 by omega), wr32 (show j + 1 ≤ 1099511627776 by omega)]
        simp only [Int.toNat_natCast, hw0]
        rw [slc_cut _ _ (by omega)]
        simp only [Option.bind_some]
        rw [g325_eq _ (by rw [cutB_len _ _ (by omega)]; omega)]
        simp only [Option.bind_some]
        rw [if_pos (by simp; omega)]) (fun p => by
        simp only [g328_l0]
        rw [if_neg (by simp; omega)])
      rw [hl]
      simp only [Option.bind_some, writeD]
      rw [if_neg h0, hq]
    by_cases hlt : (readD d).length < 32 * (q + 1)
    · have e7 : IntKind.i64.wrap (((32 * (q + 1) : Nat) : Int) - ((readD d).length : Int)) = ((32 * (q + 1) - (readD d).length : Nat) : Int) := by rw [wr ⟨by omega, by omega⟩]; omega
      rw [if_pos (decide_eq_true (by omega)), e7, if_pos (by omega), if_pos (by omega)]
      refine key _ ?_
      unfold padB
      rw [Int.toNat_natCast]
    · rw [if_neg (by simp; omega)]
      refine key _ ?_
      unfold padB
      rw [show 32 * (q + 1) - (readD d).length = 0 by omega]
      simp
end Go.Ev
