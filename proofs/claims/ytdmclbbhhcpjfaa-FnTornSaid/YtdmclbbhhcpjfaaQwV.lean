/- Plain words of bits: sums, and numbers as bytes. -/
import Derived.Test.YtdmclbbhhcpjfaaQwT
set_option linter.all false
namespace Go.Ev

theorem iand_nat (k : IntKind) (a b : Nat) (ha : a < 2 ^ k.bits) (hb : b < 2 ^ k.bits) : iand k (a : Int) (b : Int) = k.wrap ((a &&& b : Nat) : Int) := by
  unfold iand
  rw [BitVec.ofInt_natCast, BitVec.ofInt_natCast, BitVec.toNat_and, BitVec.toNat_ofNat, BitVec.toNat_ofNat, Nat.mod_eq_of_lt ha, Nat.mod_eq_of_lt hb]
theorem ior_nat (k : IntKind) (a b : Nat) (ha : a < 2 ^ k.bits) (hb : b < 2 ^ k.bits) : ior k (a : Int) (b : Int) = k.wrap ((a ||| b : Nat) : Int) := by
  unfold ior
  rw [BitVec.ofInt_natCast, BitVec.ofInt_natCast, BitVec.toNat_or, BitVec.toNat_ofNat, BitVec.toNat_ofNat, Nat.mod_eq_of_lt ha, Nat.mod_eq_of_lt hb]
theorem ixor_nat (k : IntKind) (a b : Nat) (ha : a < 2 ^ k.bits) (hb : b < 2 ^ k.bits) : ixor k (a : Int) (b : Int) = k.wrap ((a ^^^ b : Nat) : Int) := by
  unfold ixor
  rw [BitVec.ofInt_natCast, BitVec.ofInt_natCast, BitVec.toNat_xor, BitVec.toNat_ofNat, BitVec.toNat_ofNat, Nat.mod_eq_of_lt ha, Nat.mod_eq_of_lt hb]
theorem wu32 {n : Nat} (h : n < 4294967296) : IntKind.u32.wrap (n : Int) = (n : Int) := by
  have e : IntKind.u32.wrap (n : Int) = (n : Int) % 4294967296 := by simp [IntKind.wrap, IntKind.bits, IntKind.signed]
  rw [e]; omega
theorem wi64 {n : Nat} (h : n < 9223372036854775808) : IntKind.i64.wrap (n : Int) = (n : Int) := wr ⟨by omega, by omega⟩
theorem b8_nat (n : Nat) : (b8 (n : Int)).toNat = n % 256 := by
  have := u8_wrap (n : Int)
  unfold b8
  rw [wrap8] at this
  have e : ((u8 (IntKind.u8.wrap (n : Int))).toNat : Int) = (n : Int) % 256 := by rw [wrap8]; exact this
  omega

/-! ### Sums -/
def crcStep (c : Nat) : Nat := if c % 2 = 1 then (c / 2) ^^^ 3988292384 else c / 2
def crcTimes : Nat → Nat → Nat
  | 0, c => c
  | n + 1, c => crcStep (crcTimes n c)
def crcByte (c : Nat) (y : UInt8) : Nat := crcTimes 8 (c ^^^ y.toNat)
def crcv (b : List UInt8) : Nat := (b.foldl crcByte 4294967295) ^^^ 4294967295
theorem xor32 {a b : Nat} (ha : a < 4294967296) (hb : b < 4294967296) : a ^^^ b < 4294967296 := Nat.xor_lt_two_pow (n := 32) ha hb
theorem crcStep_lt {c : Nat} (h : c < 4294967296) : crcStep c < 4294967296 := by
  unfold crcStep
  split
  · exact xor32 (by omega) (by omega)
  · omega
theorem crcTimes_lt {c : Nat} (h : c < 4294967296) : ∀ n, crcTimes n c < 4294967296
  | 0 => h
  | n + 1 => crcStep_lt (crcTimes_lt h n)
theorem crcByte_lt {c : Nat} (y : UInt8) (h : c < 4294967296) : crcByte c y < 4294967296 := crcTimes_lt (xor32 h (by have := y.toNat_lt; omega)) 8
theorem crcFold_lt (b : List UInt8) : ∀ {c : Nat}, c < 4294967296 → b.foldl crcByte c < 4294967296 := by
  induction b with
  | nil => exact fun h => h
  | cons y r ih => exact fun h => ih (crcByte_lt y h)
theorem crcv_lt (b : List UInt8) : crcv b < 4294967296 := xor32 (crcFold_lt b (by omega)) (by omega)
theorem two1 : (2 : Int) ^ min (1 : Int).toNat 64 = 2 := by decide
theorem shr1 {c : Nat} : ishr .u32 (c : Int) 1 = ((c / 2 : Nat) : Int) := by
  unfold ishr
  rw [two1, Int.fdiv_eq_ediv_of_nonneg _ (by omega)]
  omega
theorem g332_inner {c : Nat} (h : c < 4294967296) : iter g332_l1 ((c : Int), 0) = some ((crcTimes 8 c : Nat) : Int) := by
  refine iter_upto (step := g332_l1) (fun k => ((crcTimes k c : Nat), (k : Int))) 8 _ (fun k hk => ?_) ?_
  · have hc := crcTimes_lt h k
    have e1 : iand .u32 ((crcTimes k c : Nat) : Int) 1 = ((crcTimes k c % 2 : Nat) : Int) := by
      have := iand_nat .u32 (crcTimes k c) 1 (by simpa [IntKind.bits] using hc) (by decide)
      rw [Nat.and_one_is_mod, wu32 (by omega)] at this
      exact this
    simp only [g332_l1, g332_j0]
    rw [if_pos (decide_eq_true (by omega)), e1, w1 (by omega), shr1]
    have es : crcTimes (k + 1) c = crcStep (crcTimes k c) := rfl
    rw [es]
    unfold crcStep
    by_cases h2 : crcTimes k c % 2 = 1
    · rw [if_pos (by simp [h2]), if_pos h2]
      have := ixor_nat .u32 (crcTimes k c / 2) 3988292384 (by simp [IntKind.bits]; omega) (by decide)
      rw [wu32 (xor32 (by omega) (by omega))] at this
      rw [show ixor .u32 ((crcTimes k c / 2 : Nat) : Int) 3988292384 = _ from this]
    · rw [if_neg (by simp; omega), if_neg h2]
  · simp only [g332_l1]
    rw [if_neg (by decide)]
theorem g332_eq (b : List UInt8) (hb : b.length ≤ 1048576) : g332 b = some ((crcv b : Nat) : Int) := by
  have h := iter_upto (step := g332_l0 b) (fun k => ((((b.take k).foldl crcByte 4294967295 : Nat) : Int), (k : Int))) b.length ((b.foldl crcByte 4294967295 : Nat) : Int) (fun k hk => by
    have hc := crcFold_lt (b.take k) (c := 4294967295) (by omega)
    have hy : (b[k].toNat) < 256 := b[k].toNat_lt
    simp only [g332_l0]
    rw [if_pos (decide_eq_true (by omega)), idx_lt hk]
    simp only [Option.bind_some]
    rw [wu32 (show b[k].toNat < 4294967296 by omega), ixor_nat .u32 _ _ (by simpa [IntKind.bits] using hc) (by simp [IntKind.bits]; omega), wu32 (xor32 hc (by omega)), g332_inner (xor32 hc (by omega))]
    simp only [Option.bind_some, w1 (show k < 4611686018427387904 by omega)]
    rw [List.take_succ_eq_append_getElem hk, List.foldl_append]
    rfl) (by
    simp only [g332_l0]
    rw [if_neg (by simp), List.take_length])
  have hc := crcFold_lt b (c := 4294967295) (by omega)
  have h' : iter (g332_l0 b) (4294967295, 0) = some ((b.foldl crcByte 4294967295 : Nat) : Int) := h
  simp only [g332, h', Option.bind_some]
  have e : inot .u32 ((b.foldl crcByte 4294967295 : Nat) : Int) = ((crcv b : Nat) : Int) := by
    have := ixor_nat .u32 4294967295 (b.foldl crcByte 4294967295) (by decide) (by simpa [IntKind.bits] using hc)
    rw [wu32 (xor32 (by omega) hc), Nat.xor_comm] at this
    exact this
  rw [e, wi64 (by have := crcv_lt b; omega)]

/-! ### Numbers as bytes -/
def byteOf (n i : Nat) : UInt8 := b8 ((n / 2 ^ (8 * i) : Nat) : Int)
def bigB (n m : Nat) : List UInt8 := (List.range m).map fun j => byteOf n (m - 1 - j)
@[simp] theorem bigB_len (n m : Nat) : (bigB n m).length = m := by simp [bigB]
theorem shrN {n i : Nat} (hi : i ≤ 7) : ishr .i64 (n : Int) ((8 * i : Nat) : Int) = ((n / 2 ^ (8 * i) : Nat) : Int) := by
  unfold ishr
  have e : min (((8 * i : Nat) : Int)).toNat 64 = 8 * i := by omega
  rw [e, Int.fdiv_eq_ediv_of_nonneg _ (by exact Int.pow_nonneg (by omega))]
  simp
theorem g331_eq (n m : Nat) (hm : m ≤ 8) : g331 (n : Int) (m : Int) = some (bigB n m) := by
  have h := iter_upto (step := g331_l0 (n : Int) (m : Int)) (fun k => ((List.range m).map (fun j => if m - k ≤ j then byteOf n (m - 1 - j) else 0), (k : Int))) m (bigB n m) (fun k hk => by
    have e1 : IntKind.i64.wrap (8 * (k : Int)) = ((8 * k : Nat) : Int) := by rw [wr ⟨by omega, by omega⟩]; omega
    have e2 : IntKind.i64.wrap ((m : Int) - 1) = ((m - 1 : Nat) : Int) := by rw [wr ⟨by omega, by omega⟩]; omega
    have e3 : IntKind.i64.wrap (((m - 1 : Nat) : Int) - (k : Int)) = ((m - 1 - k : Nat) : Int) := by rw [wr ⟨by omega, by omega⟩]; omega
    simp only [g331_l0, e1, e2, e3, Int.toNat_natCast, List.length_replicate]
    rw [if_pos (decide_eq_true (by omega)), if_pos (by omega), idx_lt (by simp; omega)]
    simp only [Option.bind_some]
    rw [List.getElem?_eq_getElem (by simp; omega)]
    simp only [Option.bind_some, shrN (show k ≤ 7 by omega), w1 (show k < 4611686018427387904 by omega)]
    congr 3
    apply List.ext_getElem
    · simp
    · intro j j1 j2
      simp only [List.length_set, List.length_map, List.length_range] at j1
      simp only [List.getElem_set, List.getElem_map, List.getElem_range]
      by_cases c : m - 1 - k = j
      · rw [if_pos c, if_pos (by omega)]
        unfold byteOf
        congr 4; omega
      · rw [if_neg c]
        by_cases c2 : m - k ≤ j
        · rw [if_pos c2, if_pos (by omega)]
        · rw [if_neg c2, if_neg (by omega)]) (by
    simp only [g331_l0, Int.toNat_natCast, List.length_replicate]
    rw [if_neg (by simp)]
    congr 2
    unfold bigB
    apply List.map_congr_left
    intro j hj
    rw [if_pos (by omega)])
  have h0 : (List.range m).map (fun j => if m - 0 ≤ j then byteOf n (m - 1 - j) else (0 : UInt8)) = List.replicate m 0 := by
    apply List.ext_getElem
    · simp
    · intro j j1 j2
      simp only [List.length_map, List.length_range] at j1
      simp only [List.getElem_map, List.getElem_range, List.getElem_replicate]
      rw [if_neg (by omega)]
  have h' : iter (g331_l0 (n : Int) (m : Int)) (List.replicate m 0, 0) = some (bigB n m) := by rw [← h0]; exact h
  simp only [g331, Int.toNat_natCast]
  rw [if_pos (by omega), if_pos (by omega), h']
  rfl
def bigV (l : List UInt8) : Nat := l.foldl (fun n y => n * 256 + y.toNat) 0
theorem bigV_lt (l : List UInt8) : ∀ (c k : Nat), c < 256 ^ k → l.foldl (fun n y => n * 256 + y.toNat) c < 256 ^ (k + l.length) := by
  induction l with
  | nil => exact fun c k h => h
  | cons y r ih =>
    intro c k h
    have hy := y.toNat_lt
    have := ih (c * 256 + y.toNat) (k + 1) (by rw [Nat.pow_succ]; omega)
    rw [List.length_cons, show k + (r.length + 1) = k + 1 + r.length by omega]
    exact this
theorem g333_eq (l : List UInt8) (hl : l.length ≤ 7) : g333 l = some ((bigV l : Nat) : Int) := by
  have h := iter_upto (step := g333_l0 l) (fun k => ((((l.take k).foldl (fun n y => n * 256 + y.toNat) 0 : Nat) : Int), (k : Int))) l.length ((bigV l : Nat) : Int) (fun k hk => by
    have hb := bigV_lt (l.take k) 0 0 (by simp)
    rw [Nat.zero_add] at hb
    have hpw : 256 ^ (l.take k).length ≤ 256 ^ 6 := Nat.pow_le_pow_right (by omega) (by simp; omega)
    have h6 : (256 : Nat) ^ 6 = 281474976710656 := by decide
    generalize hc : (l.take k).foldl (fun n y => n * 256 + y.toNat) 0 = c at hb
    have hy : l[k].toNat < 256 := l[k].toNat_lt
    have e1 : ishl .i64 (c : Int) 8 = ((c * 256 : Nat) : Int) := by
      unfold ishl
      have : (2 : Int) ^ min (8 : Int).toNat IntKind.i64.bits = 256 := by decide
      rw [this, wr ⟨by omega, by omega⟩]; omega
    have e2 : c * 256 ||| l[k].toNat = c * 256 + l[k].toNat := by
      have := Nat.shiftLeft_add_eq_or_of_lt (a := c) (b := l[k].toNat) (i := 8) (by omega)
      rw [Nat.shiftLeft_eq] at this
      exact this.symm
    simp only [g333_l0]
    rw [if_pos (decide_eq_true (by omega)), idx_lt hk]
    simp only [Option.bind_some]
    rw [wi64 (show l[k].toNat < 9223372036854775808 by omega), e1, ior_nat .i64 _ _ (by simp [IntKind.bits]; omega) (by simp [IntKind.bits]; omega), e2, wi64 (by omega), w1 (show k < 4611686018427387904 by omega)]
    rw [List.take_succ_eq_append_getElem hk, List.foldl_append, hc]
    rfl) (by
    simp only [g333_l0]
    rw [if_neg (by simp), List.take_length]
    rfl)
  have h' : iter (g333_l0 l) (0, 0) = some ((bigV l : Nat) : Int) := h
  simp only [g333, h', Option.bind_some]
theorem bigV_big2 (n : Nat) (h : n < 65536) : bigV (bigB n 2) = n := by
  have e : bigB n 2 = [byteOf n 1, byteOf n 0] := rfl
  rw [e]
  simp only [bigV, List.foldl_cons, List.foldl_nil, byteOf, b8_nat]
  omega
theorem bigV_big4 (n : Nat) (h : n < 4294967296) : bigV (bigB n 4) = n := by
  have e : bigB n 4 = [byteOf n 3, byteOf n 2, byteOf n 1, byteOf n 0] := rfl
  rw [e]
  simp only [bigV, List.foldl_cons, List.foldl_nil, byteOf, b8_nat]
  omega
end Go.Ev
