/- The reference's words of logs. -/
import Derived.Test.YtdmclbbhhcpjfaaQwY
import Derived.Test.YtdmclbbhhcpjfaaQwU
set_option linter.all false
namespace Go.Ev

theorem g353_inner {c : Nat} (h : c < 4294967296) : iter g353_l1 ((c : Int), 0) = some ((crcTimes 8 c : Nat) : Int) := by
  refine iter_upto (step := g353_l1) (fun k => ((crcTimes k c : Nat), (k : Int))) 8 _ (fun k hk => ?_) ?_
  · have hc := crcTimes_lt h k
    have e1 : (((crcTimes k c : Nat) : Int)).tmod 2 = ((crcTimes k c % 2 : Nat) : Int) := by rw [Int.tmod_eq_emod_of_nonneg (by omega)]; omega
    have e2 : (((crcTimes k c : Nat) : Int)).tdiv 2 = ((crcTimes k c / 2 : Nat) : Int) := by rw [Int.tdiv_eq_ediv_of_nonneg (by omega)]; omega
    have e3 : IntKind.i64.wrap ((crcTimes k c / 2 : Nat) : Int) = ((crcTimes k c / 2 : Nat) : Int) := wi64 (by omega)
    simp only [g353_l1, g353_j0]
    rw [if_pos (decide_eq_true (by omega)), e1, w1 (by omega), e2, e3]
    have es : crcTimes (k + 1) c = crcStep (crcTimes k c) := rfl
    rw [es]
    unfold crcStep
    by_cases h2 : crcTimes k c % 2 = 1
    · rw [if_pos (by simp [h2]), if_pos h2]
      have := ixor_nat .i64 (crcTimes k c / 2) 3988292384 (by simp [IntKind.bits]; omega) (by decide)
      rw [wi64 (by have := xor32 (a := crcTimes k c / 2) (b := 3988292384) (by omega) (by omega); omega)] at this
      rw [show ixor .i64 ((crcTimes k c / 2 : Nat) : Int) 3988292384 = _ from this]
    · rw [if_neg (by simp; omega), if_neg h2]
  · simp only [g353_l1]
    rw [if_neg (by decide)]
theorem g353_eq (b : List UInt8) (hb : b.length ≤ 1048576) : g353 b = some ((crcv b : Nat) : Int) := by
  have h := iter_upto (step := g353_l0 b) (fun k => ((((b.take k).foldl crcByte 4294967295 : Nat) : Int), (k : Int))) b.length ((b.foldl crcByte 4294967295 : Nat) : Int) (fun k hk => by
    have hc := crcFold_lt (b.take k) (c := 4294967295) (by omega)
    have hy : (b[k].toNat) < 256 := b[k].toNat_lt
    have hx := xor32 hc (show b[k].toNat < 4294967296 by omega)
    simp only [g353_l0]
    rw [if_pos (decide_eq_true (by omega)), idx_lt hk]
    simp only [Option.bind_some]
    rw [wi64 (show b[k].toNat < 9223372036854775808 by omega), ixor_nat .i64 _ _ (by simp [IntKind.bits]; omega) (by simp [IntKind.bits]; omega), wi64 (by omega), g353_inner hx]
    simp only [Option.bind_some, w1 (show k < 4611686018427387904 by omega)]
    rw [List.take_succ_eq_append_getElem hk, List.foldl_append]
    rfl) (by
    simp only [g353_l0]
    rw [if_neg (by simp), List.take_length])
  have hc := crcFold_lt b (c := 4294967295) (by omega)
  have h' : iter (g353_l0 b) (4294967295, 0) = some ((b.foldl crcByte 4294967295 : Nat) : Int) := h
  simp only [g353, h', Option.bind_some]
  have := ixor_nat .i64 (b.foldl crcByte 4294967295) 4294967295 (by simp [IntKind.bits]; omega) (by decide)
  rw [wi64 (by have := xor32 hc (show 4294967295 < 4294967296 by omega); omega)] at this
  rw [show ixor .i64 ((b.foldl crcByte 4294967295 : Nat) : Int) 4294967295 = _ from this]
  rfl
theorem b8_ext {a b : Nat} (h : a % 256 = b % 256) : b8 (a : Int) = b8 (b : Int) := by
  apply UInt8.toNat_inj.1
  rw [b8_nat, b8_nat, h]
theorem g304_eq (p : List UInt8) (hp : p.length ≤ 65534) : g304 p = some (frameB p) := by
  have e1 : IntKind.i64.wrap ((p.length : Int) + 1) = ((p.length + 1 : Nat) : Int) := w1 (by omega)
  have e2 : (((p.length + 1 : Nat) : Int)).tdiv 256 = (((p.length + 1) / 256 : Nat) : Int) := by rw [Int.tdiv_eq_ediv_of_nonneg (by omega)]; omega
  have e3 : (((p.length + 1 : Nat) : Int)).tmod 256 = (((p.length + 1) % 256 : Nat) : Int) := by rw [Int.tmod_eq_emod_of_nonneg (by omega)]; omega
  have e4 : IntKind.i64.wrap ((((p.length + 1) / 256 : Nat) : Int)) = (((p.length + 1) / 256 : Nat) : Int) := wi64 (by omega)
  have hh : ([b8 (((p.length + 1) / 256 : Nat) : Int), b8 (((p.length + 1) % 256 : Nat) : Int)] : List UInt8) ++ p = headB p := by
    unfold headB
    have : bigB (p.length + 1) 2 = [byteOf (p.length + 1) 1, byteOf (p.length + 1) 0] := rfl
    rw [this]
    unfold byteOf
    have x1 : b8 (((p.length + 1) / 256 : Nat) : Int) = b8 (((p.length + 1) / 2 ^ (8 * 1) : Nat) : Int) := b8_ext (by omega)
    have x2 : b8 (((p.length + 1) % 256 : Nat) : Int) = b8 (((p.length + 1) / 2 ^ (8 * 0) : Nat) : Int) := b8_ext (by omega)
    rw [x1, x2]
  simp only [g304, e1, e2, e3, e4, hh, bindv]
  rw [if_pos (by simp; omega), g353_eq _ (by rw [headB_len]; omega)]
  have hc := crcv_lt (headB p)
  generalize hcv : crcv (headB p) = c at hc
  have d1 : ((c : Int)).tdiv 16777216 = ((c / 16777216 : Nat) : Int) := by rw [Int.tdiv_eq_ediv_of_nonneg (by omega)]; omega
  have d2 : ((c : Int)).tdiv 65536 = ((c / 65536 : Nat) : Int) := by rw [Int.tdiv_eq_ediv_of_nonneg (by omega)]; omega
  have d3 : ((c : Int)).tdiv 256 = ((c / 256 : Nat) : Int) := by rw [Int.tdiv_eq_ediv_of_nonneg (by omega)]; omega
  have d4 : ((c : Int)).tmod 256 = ((c % 256 : Nat) : Int) := by rw [Int.tmod_eq_emod_of_nonneg (by omega)]; omega
  have d5 : ((c / 65536 : Nat) : Int).tmod 256 = ((c / 65536 % 256 : Nat) : Int) := by rw [Int.tmod_eq_emod_of_nonneg (by omega)]; omega
  have d6 : ((c / 256 : Nat) : Int).tmod 256 = ((c / 256 % 256 : Nat) : Int) := by rw [Int.tmod_eq_emod_of_nonneg (by omega)]; omega
  simp only [Option.bind_some, d1, d2, d3, d4, wi64 (show c / 16777216 < 9223372036854775808 by omega), wi64 (show c / 65536 < 9223372036854775808 by omega), wi64 (show c / 256 < 9223372036854775808 by omega), d5, d6]
  rw [if_pos (by rw [headB_len]; simp; omega)]
  unfold frameB
  rw [hcv]
  have : bigB c 4 = [byteOf c 3, byteOf c 2, byteOf c 1, byteOf c 0] := rfl
  rw [this]
  unfold byteOf
  have x1 : b8 ((c / 16777216 : Nat) : Int) = b8 ((c / 2 ^ (8 * 3) : Nat) : Int) := b8_ext (by omega)
  have x2 : b8 ((c / 65536 % 256 : Nat) : Int) = b8 ((c / 2 ^ (8 * 2) : Nat) : Int) := b8_ext (by omega)
  have x3 : b8 ((c / 256 % 256 : Nat) : Int) = b8 ((c / 2 ^ (8 * 1) : Nat) : Int) := b8_ext (by omega)
  have x4 : b8 ((c % 256 : Nat) : Int) = b8 ((c / 2 ^ (8 * 0) : Nat) : Int) := b8_ext (by omega)
  rw [x1, x2, x3, x4]
theorem byteOf_eq {n i : Nat} {y : UInt8} (h : n / 2 ^ (8 * i) % 256 = y.toNat) : byteOf n i = y := by
  apply UInt8.toNat_inj.1
  unfold byteOf
  rw [b8_nat, h]
theorem big_bigV2 {l : List UInt8} (h : l.length = 2) : bigB (bigV l) 2 = l := by
  match l, h with
  | [a, b], _ =>
    have ha := a.toNat_lt; have hb := b.toNat_lt
    show [byteOf _ 1, byteOf _ 0] = _
    simp only [bigV, List.foldl_cons, List.foldl_nil]
    rw [byteOf_eq (y := a) (by omega), byteOf_eq (y := b) (by omega)]
theorem big_bigV4 {l : List UInt8} (h : l.length = 4) : bigB (bigV l) 4 = l := by
  match l, h with
  | [a, b, c, d], _ =>
    have ha := a.toNat_lt; have hb := b.toNat_lt; have hc := c.toNat_lt; have hd := d.toNat_lt
    show [byteOf _ 3, byteOf _ 2, byteOf _ 1, byteOf _ 0] = _
    simp only [bigV, List.foldl_cons, List.foldl_nil]
    rw [byteOf_eq (y := a) (by omega), byteOf_eq (y := b) (by omega), byteOf_eq (y := c) (by omega), byteOf_eq (y := d) (by omega)]
/-- The reference's look at a place. -/
theorem g351_eq (b : List UInt8) (hb : b.length ≤ 1048576) (k : Nat) (hk : k ≤ 1048576) : g351 b (k : Int) = some (match nxt b k with
      | none => ([], false)
      | some p => (p, true)) := by
  have e1 : IntKind.i64.wrap ((k : Int) + 2) = ((k + 2 : Nat) : Int) := by rw [wr ⟨by omega, by omega⟩]; omega
  simp only [g351, e1]
  by_cases c1 : k + 2 ≤ b.length
  · rw [if_neg (by simp; omega), idx_lt (by omega), w1 (by omega), idx_lt (by omega)]
    have hn2 : (b.drop k).take 2 = [b[k], b[k + 1]] := by
      rw [List.drop_eq_getElem_cons (by omega), List.drop_eq_getElem_cons (by omega)]; rfl
    have hv : bigV ((b.drop k).take 2) = b[k].toNat * 256 + b[k + 1].toNat := by rw [hn2]; simp [bigV]
    have hl2 : ((b.drop k).take 2).length = 2 := by rw [hn2]; rfl
    have hx := b[k].toNat_lt; have hy := b[k + 1].toNat_lt
    have w4 : IntKind.i64.wrap (((b[k].toNat : Int)) * 256) = ((b[k].toNat * 256 : Nat) : Int) := by rw [wr ⟨by omega, by omega⟩]; omega
    have w5 : IntKind.i64.wrap (((b[k].toNat * 256 : Nat) : Int) + (b[k + 1].toNat : Int)) = ((b[k].toNat * 256 + b[k + 1].toNat : Nat) : Int) := by rw [wr ⟨by omega, by omega⟩]; omega
    simp only [Option.bind_some, wi64 (show b[k].toNat < 9223372036854775808 by omega), wi64 (show b[k + 1].toNat < 9223372036854775808 by omega), w4, w5, ← hv]
    have hn : bigV ((b.drop k).take 2) < 65536 := by omega
    have hbb := big_bigV2 hl2
    generalize hnv : bigV ((b.drop k).take 2) = n at hn hbb
    have e2 : IntKind.i64.wrap ((n : Int) - 1) = (n : Int) - 1 := wr ⟨by omega, by omega⟩
    have e3 : IntKind.i64.wrap ((k : Int) + ((n : Int) - 1)) = (k : Int) + ((n : Int) - 1) := wr ⟨by omega, by omega⟩
    have e4 : IntKind.i64.wrap ((k : Int) + ((n : Int) - 1) + 6) = ((k + n + 5 : Nat) : Int) := by rw [wr ⟨by omega, by omega⟩]; omega
    simp only [bindv, e2, e3, e4]
    by_cases c2 : (1 ≤ n ∧ n ≤ 2001) ∧ k + n + 5 ≤ b.length
    · obtain ⟨⟨c2a, c2b⟩, c3⟩ := c2
      rw [decide_eq_false (show ¬ (n : Int) - 1 < 0 by omega), decide_eq_false (show ¬ (n : Int) - 1 > 2000 by omega), decide_eq_false (show ¬ ((k + n + 5 : Nat) : Int) > (b.length : Int) by omega)]
      have e5 : IntKind.i64.wrap (((k + 2 : Nat) : Int) + ((n : Int) - 1)) = ((k + 2 + (n - 1) : Nat) : Int) := by rw [wr ⟨by omega, by omega⟩]; omega
      rw [if_neg (by decide), e5, slc_dt b (k + 2) (n - 1) (by omega)]
      have hpl : ((b.drop (k + 2)).take (n - 1)).length = n - 1 := by simp; omega
      generalize hp : (b.drop (k + 2)).take (n - 1) = p at hpl
      simp only [Option.bind_some, List.nil_append]
      rw [if_pos (by simp; omega), g304_eq p (by omega)]
      simp only [Option.bind_some]
      -- what stands there is the frame's head
      have hhead : (b.drop k).take (n + 1) = headB p := by
        unfold headB
        rw [hpl, show n - 1 + 1 = n by omega, hbb, ← hp, ← List.drop_drop (i := 2) (j := k)]
        have := List.take_append_drop 2 ((b.drop k).take (n + 1))
        rw [← this, List.take_take, List.drop_take, show min 2 (n + 1) = 2 by omega, show n + 1 - 2 = n - 1 by omega]
      have htail : ((b.drop (k + n + 1)).take 4).length = 4 := by simp; omega
      have hfl : (frameB p).length = n + 5 := by rw [frameB_len, hpl]; omega
      have hfi : ∀ i (hi : i < 4), (frameB p)[n + 1 + i]'(by omega) = (bigB (crcv (headB p)) 4)[i]'(by simp; omega) := fun i hi => by
        unfold frameB
        rw [List.getElem_append_right (by rw [headB_len]; omega)]
        congr 1
        rw [headB_len]; omega
      have hbi : ∀ i (hi : i < 4), b[k + n + 1 + i]'(by omega) = ((b.drop (k + n + 1)).take 4)[i]'(by omega) := fun i hi => by
        rw [List.getElem_take, List.getElem_drop]
      have hstep : ∀ i : Nat, i < 4 → g351_l0 b (k : Int) ((n : Int) - 1) (frameB p) (i : Int) = if (!decide (((b.drop (k + n + 1)).take 4)[i]? = (bigB (crcv (headB p)) 4)[i]?)) = true then some (.inr (.inr ([], false))) else some (.inl ((i + 1 : Nat) : Int)) := fun i hi => by
        simp only [g351_l0, e1, e5]
        have e6 : IntKind.i64.wrap (((k + 2 + (n - 1) : Nat) : Int) + (i : Int)) = ((k + n + 1 + i : Nat) : Int) := by rw [wr ⟨by omega, by omega⟩]; omega
        have e7 : IntKind.i64.wrap (2 + ((n : Int) - 1)) = ((n + 1 : Nat) : Int) := by rw [wr ⟨by omega, by omega⟩]; omega
        have e8 : IntKind.i64.wrap (((n + 1 : Nat) : Int) + (i : Int)) = ((n + 1 + i : Nat) : Int) := by rw [wr ⟨by omega, by omega⟩]; omega
        rw [if_pos (decide_eq_true (by omega)), e6, e7, e8, idx_lt (by omega), idx_lt (by omega)]
        simp only [Option.bind_some, Int.toNat_natCast]
        rw [List.getElem?_eq_getElem (by omega), hfi i hi, hbi i hi, w1 (by omega)]
        simp only [Option.bind_some]
        rw [List.getElem?_eq_getElem (by omega), List.getElem?_eq_getElem (by simp; omega)]
        by_cases c : ((b.drop (k + n + 1)).take 4)[i]'(by omega) = (bigB (crcv (headB p)) 4)[i]'(by simp; omega)
        · rw [if_neg (by simp [c]), if_neg (by simp [c])]
        · rw [if_pos (by
            rw [bne_iff_ne]; intro hh
            exact c (UInt8.toNat_inj.1 (by omega))), if_pos (by simpa using c)]
      have hend : g351_l0 b (k : Int) ((n : Int) - 1) (frameB p) ((4 : Nat) : Int) = some (.inr (.inl ())) := by
        simp only [g351_l0]
        rw [if_neg (by decide)]
      by_cases c4 : crcv ((b.drop k).take (n + 1)) = bigV ((b.drop (k + n + 1)).take 4)
      · have hx : nxt b k = some p := by
          unfold nxt; rw [hnv, if_pos c1, if_pos ⟨⟨c2a, c2b⟩, c3⟩, if_pos c4, hp]
        have hb4 : bigB (crcv (headB p)) 4 = (b.drop (k + n + 1)).take 4 := by rw [← hhead, c4, big_bigV4 htail]
        have := iter_upto (step := g351_l0 b (k : Int) ((n : Int) - 1) (frameB p)) (fun i => (i : Int)) 4 (.inl ()) (fun i hi => by rw [hstep i hi, hb4, if_neg (by simp)]) hend
        rw [hx, show (0 : Int) = ((0 : Nat) : Int) from rfl, this]
        rfl
      · have hx : nxt b k = none := by
          unfold nxt; rw [hnv, if_pos c1, if_pos ⟨⟨c2a, c2b⟩, c3⟩, if_neg c4]
        obtain ⟨i, hi, hj, hno⟩ := least_of (n := 4) (ok := fun i => ((b.drop (k + n + 1)).take 4)[i]? = (bigB (crcv (headB p)) 4)[i]?) (fun hall => c4 (by
          have : (b.drop (k + n + 1)).take 4 = bigB (crcv (headB p)) 4 := by
            apply List.ext_getElem?
            intro i
            by_cases hi : i < 4
            · exact hall i hi
            · rw [List.getElem?_eq_none (by omega), List.getElem?_eq_none (by simp; omega)]
          rw [this, bigV_big4 _ (crcv_lt _), hhead]))
        have := iter_run (step := g351_l0 b (k : Int) ((n : Int) - 1) (frameB p)) (fun i => (i : Int)) i (fun j hj' => by rw [hstep j (by omega), if_neg (by simp [hj j hj'])])
        rw [hx, show (0 : Int) = ((0 : Nat) : Int) from rfl, this, iter_end (r := .inr ([], false)) (by rw [hstep i hi, if_pos (by simp [hno])])]
        rfl
    · have hx : nxt b k = none := by
        unfold nxt; rw [hnv, if_pos c1, if_neg c2]
      rw [hx, if_pos (by
        by_cases h1 : 1 ≤ n ∧ n ≤ 2001
        · rw [decide_eq_true (show ((k + n + 5 : Nat) : Int) > (b.length : Int) by omega)]
          cases decide ((n : Int) - 1 < 0) <;> cases decide ((n : Int) - 1 > 2000) <;> rfl
        · by_cases h2 : 1 ≤ n
          · rw [decide_eq_true (show (n : Int) - 1 > 2000 by omega)]
            cases decide ((n : Int) - 1 < 0) <;> rfl
          · rw [decide_eq_true (show (n : Int) - 1 < 0 by omega)]; rfl)]
  · have hx : nxt b k = none := by
      unfold nxt; rw [if_neg c1]
    rw [hx, if_pos (decide_eq_true (by omega))]
end Go.Ev
