/- The plain part of the proof: what the functions compute answers as the law says. -/
import Derived.Test.YtdmclbbhhcpjfaaQwZa
set_option linter.all false
section
set_option maxHeartbeats 1000000
namespace Go.Ev
abbrev Qi : List UInt8 := [48, 49, 50, 51, 52, 53, 54, 55, 56, 57, 97, 98, 99, 100, 101, 102]
theorem nib_ok (x : Int) : ∃ j : Nat, Sz .i64 x 15 = (j : Int) ∧ j < 16 := by
 unfold Sz
 have h : (BitVec.ofInt IntKind.i64.bits x &&& BitVec.ofInt IntKind.i64.bits 15).toNat ≤ 15 := by
  rw [BitVec.toNat_and]
  exact Nat.le_trans Nat.and_le_right (by decide)
 refine ⟨(BitVec.ofInt IntKind.i64.bits x &&& BitVec.ofInt IntKind.i64.bits 15).toNat, ?_, by omega⟩
 exact wr ⟨by omega, by omega⟩
noncomputable def hx (x : Int) : UInt8 := (Qi[(Sz .i64 x 15).toNat]?).getD 0
theorem wS (x : Int) : Cg Qi (Sz .i64 x 15) = some (hx x) ∧ (hx x).toNat < 128 := by
 obtain ⟨j, h1, h2⟩ := nib_ok x
 have hj : j < Qi.length := h2
 unfold hx
 rw [h1, Bk hj, Int.toNat_natCast, List.getElem?_eq_getElem hj]
 refine ⟨rfl, ?_⟩
 simp only [Option.getD_some]
 have : ∀ y ∈ Qi, y.toNat < 128 := by decide
 exact this _ (List.getElem_mem hj)
noncomputable def Bo (n : Int) : List UInt8 := (List.range 16).map fun i : Nat => hx (Jz .i64 n (60 - 4 * (i : Int)))
theorem Kf {α : Type} (f : Nat → α) (k : Nat) : (List.range (k + 1)).map f = (List.range k).map f ++ [f k] := by
 rw [List.range_succ, List.map_append]; rfl
theorem Yz (n : Int) : eK n = some (Bo n) := by
 have h := Di (step := Pu n) (fun k => ((List.range k).map fun i : Nat => hx (Jz .i64 n (60 - 4 * (i : Int))), 15 - (k : Int))) 16 (Bo n) (fun k hk => by
  have hw : IntKind.i64.wrap (4 * (15 - (k : Int))) = 60 - 4 * (k : Int) := by rw [wr ⟨by omega, by omega⟩]; omega
  have hw2 : IntKind.i64.wrap (15 - (k : Int) - 1) = 15 - ((k + 1 : Nat) : Int) := by rw [wr ⟨by omega, by omega⟩]; omega
  simp only [Pu]
  rw [if_pos (decide_eq_true (by omega)), hw, hw2, if_pos (by omega), (wS _).1]
  simp only [Option.bind_some]
  rw [if_pos (by simp; omega), Kf]) (by
  simp only [Pu]
  rw [if_neg (by simp)]
  rfl)
 have h' : Bm (Pu n) ([], 15) = some (Bo n) := h
 simp only [eK, h', Option.bind_some]
theorem Sy (n : Int) : Yn n = some (Bo n) := by
 have h := Di (step := Ps n) (fun k => ((List.range k).map fun i : Nat => hx (Jz .i64 n (60 - 4 * (i : Int))), 60 - 4 * (k : Int))) 16 (Bo n) (fun k hk => by
  have hu : IntKind.u64.wrap (60 - 4 * (k : Int)) = 60 - 4 * (k : Int) := by
   have e : IntKind.u64.wrap (60 - 4 * (k : Int)) = (60 - 4 * (k : Int)) % 18446744073709551616 := by simp [IntKind.wrap, IntKind.bits, IntKind.signed]
   rw [e]; omega
  have hw2 : IntKind.i64.wrap (60 - 4 * (k : Int) - 4) = 60 - 4 * ((k + 1 : Nat) : Int) := by rw [wr ⟨by omega, by omega⟩]; omega
  simp only [Ps]
  rw [if_pos (decide_eq_true (by omega)), hu, hw2, if_pos (by omega), (wS _).1]
  simp only [Option.bind_some]
  rw [if_pos (wS _).2, if_pos (by simp; omega), Kf]) (by
  simp only [Ps]
  rw [if_neg (by simp)]
  rfl)
 have h' : Bm (Ps n) ([], 60) = some (Bo n) := h
 simp only [Yn, h', Option.bind_some]
theorem Cb (n : Int) : (Bo n).length = 16 := by simp [Bo]
abbrev Kz : List UInt8 := [105, 110, 116, 101, 110, 116, 47]
abbrev Ru : List UInt8 := [108, 101, 97, 115, 101, 47]
abbrev fW : List UInt8 := [118, 97, 117, 108, 116]
abbrev VO : List UInt8 := [117, 110, 100, 111]
abbrev zE : List UInt8 := [98, 101, 103, 117, 110]
abbrev Tx : List UInt8 := [113, 117, 101, 117, 101, 100]
abbrev jD : List UInt8 := [108, 105, 118, 101]
abbrev Tz : List UInt8 := [115, 101, 97, 108, 101, 100]
abbrev jE : List UInt8 := [111, 112, 101, 110]
noncomputable def Ic (x : Af) : Bh := Bh.mk (Kz ++ Bo x.Av) (if x.Hl = true then VO else zE)
noncomputable def Jb (x : Ab) : Bh := Bh.mk (Ru ++ Bo x.id) ((Bo x.Be ++ Bo x.cap) ++ (if x.Bt = true then Tx else jD))
noncomputable def Oy (v : Ag) : Bh := Bh.mk fW ((Bo v.Ac.clock ++ Bo v.Ac.next) ++ (if v.Al = true then Tz else jE))
noncomputable def Cl (v : Ag) : List Bh := v.Aa.map Ic ++ v.Ac.Ad.map Jb ++ [Oy v]
theorem Qb {α β : Type} (p : List α) (l : List β) (F : β → α) {step : List α × Int → Option ((List α × Int) ⊕ List α)}
  (hs : ∀ k (hk : k < l.length) (q : List α), q.length = p.length + k → step (q, (k : Int)) = some (.inl (q ++ [F l[k]], ((k + 1 : Nat) : Int)))) (he : ∀ q : List α, q.length = p.length + l.length → step (q, (l.length : Int)) = some (.inr q)) :
  Bm step (p, 0) = some (p ++ l.map F) := by
 have h := Di (step := step) (fun k => (p ++ (l.take k).map F, (k : Int))) l.length (p ++ l.map F) (fun k hk => by
  rw [hs k hk _ (by simp; omega), List.take_succ_eq_append_getElem hk, List.map_append, List.append_assoc]
  rfl) (by
  rw [he _ (by simp)]
  simp)
 simpa using h
theorem Uk (b : Bool) (x y : List UInt8) : pO b x y = some (if b = true then x else y) := by
 unfold pO; cases b <;> rfl
theorem Oz (b : Bool) {x y : List UInt8} (hx : x.length ≤ 8) (hy : y.length ≤ 8) : (if b = true then x else y).length ≤ 8 := by split <;> assumption
theorem kZ (v : Ag) (h1 : v.Ac.Ad.length ≤ 1048576) (h2 : v.Aa.length ≤ 1048576) : SK v = some (Cl v) := by
 have l0 := Qb [] v.Aa Ic (step := Sq v) (fun k hk q hq => by
  simp only [Sq]
  rw [if_pos (decide_eq_true (by omega)), Bk hk]
  simp only [Option.bind_some, Yz, Uk, w1 (show k < 4611686018427387904 by omega), Bd]
  rw [if_pos (by simp only [List.length_cons, List.length_nil, Cb]; omega), if_pos (by simp only [List.length_singleton]; simp at hq; omega)]
  rfl) (fun q hq => by
  simp only [Sq]
  rw [if_neg (by simp)])
 rw [List.nil_append] at l0
 have l1 := Qb (v.Aa.map Ic) v.Ac.Ad Jb (step := Sr v) (fun k hk q hq => by
  rw [List.length_map] at hq
  have hwl : (if v.Ac.Ad[k].Bt = true then ([113, 117, 101, 117, 101, 100] : List UInt8) else [108, 105, 118, 101]).length ≤ 8 := Oz _ (by decide) (by decide)
  simp only [Sr]
  rw [if_pos (decide_eq_true (by omega)), Bk hk]
  simp only [Option.bind_some, Yz, Uk, w1 (show k < 4611686018427387904 by omega), Bd]
  rw [if_pos (by simp only [List.length_cons, List.length_nil, Cb]; omega), if_pos (by simp only [Cb]; omega), if_pos (by simp only [List.length_append, Cb]; omega), if_pos (by simp only [List.length_singleton]; omega)]
  rfl) (fun q hq => by
  simp only [Sr]
  rw [if_neg (by simp)])
 have hwl : (if v.Al = true then ([115, 101, 97, 108, 101, 100] : List UInt8) else [111, 112, 101, 110]).length ≤ 8 := Oz _ (by decide) (by decide)
 simp only [SK, l0, l1, Option.bind_some, Yz, Uk, Bd]
 rw [if_pos (by simp only [Cb]; omega), if_pos (by simp only [List.length_append, Cb]; omega), if_pos (by simp only [List.length_append, List.length_map, List.length_singleton]; omega)]
 rfl
theorem lA (v : Ag) (h1 : v.Ac.Ad.length ≤ 1048576) (h2 : v.Aa.length ≤ 1048576) (hr : g46 v = some true) : SF v = some (Cl v, 0) := by
 have l0 := Qb [] v.Aa Ic (step := Sm v) (fun k hk q hq => by
  have j0 : ∀ w : List UInt8, Sj v q (k : Int) w = some (.inl (q ++ [Bh.mk (Kz ++ Bo v.Aa[k].Av) w], ((k + 1 : Nat) : Int))) := fun w => by
   simp only [Sj]
   rw [Bk hk]
   simp only [Option.bind_some, Sy, w1 (show k < 4611686018427387904 by omega), Bd]
   rw [if_pos (by simp only [List.length_cons, List.length_nil, Cb]; omega), if_pos (by simp only [List.length_singleton]; simp at hq; omega)]
  simp only [Sm, j0]
  rw [if_pos (decide_eq_true (by omega)), Bk hk]
  simp only [Option.bind_some, Ic]
  cases v.Aa[k].Hl <;> rfl) (fun q hq => by
  simp only [Sm]
  rw [if_neg (by simp)])
 rw [List.nil_append] at l0
 have l1 := Qb (v.Aa.map Ic) v.Ac.Ad Jb (step := Sn v) (fun k hk q hq => by
  rw [List.length_map] at hq
  have j1 : ∀ (w : List UInt8) (y : Ab), Sk q (k : Int) y w = some (.inl (q ++ [Bh.mk (Ru ++ Bo y.id) w], ((k + 1 : Nat) : Int))) := fun w y => by
   simp only [Sk, Sy, Option.bind_some, w1 (show k < 4611686018427387904 by omega), Bd]
   rw [if_pos (by simp only [List.length_cons, List.length_nil, Cb]; omega), if_pos (by simp only [List.length_singleton]; omega)]
  simp only [Sn, j1]
  rw [if_pos (decide_eq_true (by omega)), Bk hk]
  simp only [Option.bind_some, Sy]
  rw [if_pos (by simp only [Cb]; omega), if_pos (by simp only [List.length_append, Cb, List.length_cons, List.length_nil]; omega)]
  simp only [Jb]
  cases v.Ac.Ad[k].Bt with
  | true =>
   simp only [if_true]
   rw [if_pos (by simp only [Cb]; omega), if_pos (by simp only [List.length_append, Cb, List.length_cons, List.length_nil]; omega)]
  | false => rfl) (fun q hq => by
  simp only [Sn]
  rw [if_neg (by simp)])
 have j2 : ∀ (q : List Bh) (w : List UInt8), q.length ≤ 4194304 → w.length ≤ 8 → Sl v q w = some (q ++ [Bh.mk fW ((Bo v.Ac.clock ++ Bo v.Ac.next) ++ w)], 0) := fun q w hq hw => by
  simp only [Sl, Sy, Option.bind_some, Bd]
  rw [if_pos (by simp only [Cb]; omega), if_pos (by simp only [List.length_append, Cb]; omega), if_pos (by simp only [List.length_singleton]; omega)]
 simp only [SF, hr, Option.bind_some, Bool.not_true, Bool.false_eq_true, if_false, l0, l1]
 rw [j2 _ _ (by simp; omega) (by decide), j2 _ _ (by simp; omega) (by decide)]
 unfold Cl Oy
 cases v.Al <;> rfl
theorem Uu (v : Ag) (h : Mh v) : (Cl v).length ≤ 81 := by
 have h1 := h.1.2.2.1
 have h2 := h.2.1
 simp [Cl]; omega
noncomputable def VC (a : Int) : List UInt8 := (g316 a).getD []
noncomputable abbrev mkPair (c : Int) (_ : Bh) : Bh := Bh.mk (VC c) (VC (c + 1))
end Go.Ev
end
section
set_option maxHeartbeats 1000000
namespace Go.Ev
def dv (y : UInt8) : Int := if 48 ≤ y.toNat ∧ y.toNat ≤ 57 then (y.toNat : Int) - 48 else if 97 ≤ y.toNat ∧ y.toNat ≤ 102 then (y.toNat : Int) - 87 else -1
theorem mS (y : UInt8) : -1 ≤ dv y ∧ dv y < 16 := by
 unfold dv; split
 ·omega
 ·split <;> omega
set_option maxRecDepth 100000 in
theorem Rh (y : UInt8) : SN Qi y = some (dv y) := by
 simp only [SN, Adp, Option.bind_some]
 refine congrArg some ?_
 refine Rc (P := fun y => Xw Qi ((y.toNat : Nat) : Int) = dv y) ?_ y
 decide
set_option maxRecDepth 100000 in
theorem jV : ∀ n : Fin 256, ∀ k : Fin 16, (Qi[k.val]'k.isLt == UInt8.ofNat n.val) = decide (dv (UInt8.ofNat n.val) = (k.val : Int)) := by decide
theorem vP (y : UInt8) (k : Nat) (hk : k < 16) : (Qi[k]'hk == y) = decide (dv y = (k : Int)) := by
 refine Rc (P := fun y => (Qi[k]'hk == y) = decide (dv y = (k : Int))) (fun n => ?_) y
 exact jV n ⟨k, hk⟩
def aP (s : List UInt8) : Prop := s.length = 16 ∧ (∀ k, ∀ h : k < s.length, 0 ≤ dv s[k]) ∧ ∀ h : 0 < s.length, dv s[0] ≤ 7
def Ib (l : List UInt8) : Nat := l.foldl (fun n y => n * 16 + (dv y).toNat) 0
theorem Uz (l : List UInt8) (y : UInt8) : Ib (l ++ [y]) = Ib l * 16 + (dv y).toNat := by simp [Ib]
theorem zD {s : List UInt8} (h : aP s) : ∀ k, k ≤ 16 → Ib (s.take k) < 8 * 16 ^ (k - 1) ∨ k = 0 := by
 intro k
 induction k with
 | zero => intro _; exact .inr rfl
 | succ k ih =>
  intro hk
  left
  have hlt : k < s.length := by rw [h.1]; omega
  rw [List.take_succ_eq_append_getElem hlt, Uz]
  have h1 := mS s[k]
  have h2 := h.2.1 k hlt
  rcases ih (by omega) with h3 | rfl
  ·cases k with
   | zero =>
    have := h.2.2 (by omega)
    simp [Ib] at *; omega
   | succ k =>
    simp only [Nat.add_sub_cancel] at h3 ⊢
    rw [Nat.pow_succ]
    omega
  ·have := h.2.2 (by omega)
   simp [Ib]; omega
theorem lQ {s : List UInt8} (h : aP s) {k : Nat} (hk : k < 16) : Ib (s.take k) < 576460752303423488 := by
 rcases zD h k (by omega) with h1 | rfl
 ·have h2 : 16 ^ (k - 1) ≤ 16 ^ 14 := Nat.pow_le_pow_right (by omega) (by omega)
  have h3 : 16 ^ 14 = 72057594037927936 := by decide
  omega
 ·simp [Ib]
theorem shl4 (n : Nat) (d : Int) (hn : n < 576460752303423488) (hd : 0 ≤ d ∧ d < 16) : ior .i64 (Ut .i64 (n : Int) 4) d = ((n * 16 + d.toNat : Nat) : Int) := by
 obtain ⟨e, rfl⟩ := Int.eq_ofNat_of_zero_le hd.1
 have he : e < 16 := by omega
 have h1 : Ut .i64 (n : Int) 4 = ((n * 16 : Nat) : Int) := by
  unfold Ut
  have : (2 : Int) ^ min (4 : Int).toNat IntKind.i64.bits = 16 := by decide
  rw [this, wr ⟨by omega, by omega⟩]; omega
 rw [h1]
 unfold ior
 have b1 : (BitVec.ofInt IntKind.i64.bits ((n * 16 : Nat) : Int)).toNat = n * 16 := by
  have : IntKind.i64.bits = 64 := rfl
  rw [this, BitVec.ofInt_natCast, BitVec.toNat_ofNat]
  exact Nat.mod_eq_of_lt (by omega)
 have b2 : (BitVec.ofInt IntKind.i64.bits ((e : Nat) : Int)).toNat = e := by
  have : IntKind.i64.bits = 64 := rfl
  rw [this, BitVec.ofInt_natCast, BitVec.toNat_ofNat]
  exact Nat.mod_eq_of_lt (by omega)
 rw [BitVec.toNat_or, b1, b2]
 have h2 : n * 16 ||| e = n * 16 + e := by
  have := Nat.two_pow_add_eq_or_of_lt (i := 4) (b := e) (by omega) n
  rw [show (2 : Nat) ^ 4 = 16 by decide, Nat.mul_comm 16 n] at this
  exact this.symm
 rw [h2, Int.toNat_natCast, wr ⟨by omega, by omega⟩]
theorem qH (s : List UInt8) (hs : s.length = 16) : (aP s → Bm (Hs s) (0, 0) = some (.inl (Ib s : Int))) ∧ ((∃ k, ∃ h : k < s.length, dv s[k] < 0) → (∀ h : 0 < s.length, s[0].toNat ≤ 55) → Bm (Hs s) (0, 0) = some (.inr (0, [], false))) := by
 constructor
 ·intro h
  have hh := Di (step := Hs s) (fun k => ((Ib (s.take k) : Int), (k : Int))) 16 (.inl (Ib s : Int)) (fun k hk => by
   have hlt : k < s.length := by omega
   have h0 := h.2.1 k hlt
   have h1 := mS s[k]
   simp only [Hs]
   rw [if_pos (decide_eq_true (by omega)), Bk hlt]
   simp only [Option.bind_some, Rh s[k], w1 (show k < 4611686018427387904 by omega)]
   rw [if_neg (by simp; omega), shl4 _ _ (lQ h hk) ⟨h0, h1.2⟩, List.take_succ_eq_append_getElem hlt, Uz]) (by
   simp only [Hs]
   rw [if_neg (by simp; omega), List.take_of_length_le (by omega)])
  exact hh
 ·rintro ⟨k0, hk0, hd0⟩ hfirst
  have hex : ¬ ∀ k, k < s.length → 0 ≤ (s[k]?.map dv).getD 0 := fun hall => by
   have := hall k0 hk0
   rw [List.getElem?_eq_getElem hk0] at this
   simp at this; omega
  obtain ⟨k, hk, hj, hn⟩ := Oj (ok := fun k => 0 ≤ (s[k]?.map dv).getD 0) hex
  rw [List.getElem?_eq_getElem hk] at hn
  simp only [Option.map_some, Option.getD_some] at hn
  have hp : ∃ st : Nat → Int, st 0 = 0 ∧ ∀ j, j < k → Hs s (st j, (j : Int)) = some (.inl (st (j + 1), ((j + 1 : Nat) : Int))) := by
   refine ⟨fun j => Nat.rec 0 (fun i a => ior .i64 (Ut .i64 a 4) ((s[i]?.map dv).getD 0)) j, rfl, fun j hjk => ?_⟩
   have hlt : j < s.length := by omega
   have h0 := hj j hjk
   rw [List.getElem?_eq_getElem hlt] at h0
   simp only [Option.map_some, Option.getD_some] at h0
   simp only [Hs]
   rw [if_pos (decide_eq_true (by omega)), Bk hlt]
   simp only [Option.bind_some, Rh s[j], w1 (show j < 4611686018427387904 by omega)]
   rw [if_neg (by simp; omega), List.getElem?_eq_getElem hlt]
   rfl
  obtain ⟨st, st0, hst⟩ := hp
  have := Lw (step := Hs s) (fun j => (st j, (j : Int))) k hst
  rw [st0] at this
  refine this.trans (Dg ?_)
  simp only [Hs]
  rw [if_pos (decide_eq_true (by omega)), Bk hk]
  simp only [Option.bind_some, Rh s[k]]
  rw [if_pos (by simp; omega)]
set_option maxRecDepth 100000 in
theorem gM : ∀ n : Fin 256, (0 ≤ dv (UInt8.ofNat n.val) ∧ dv (UInt8.ofNat n.val) ≤ 7) ↔ (0 ≤ dv (UInt8.ofNat n.val) ∧ (UInt8.ofNat n.val).toNat ≤ 55) := by decide
theorem gN (y : UInt8) : (0 ≤ dv y ∧ dv y ≤ 7) ↔ (0 ≤ dv y ∧ y.toNat ≤ 55) := Rc (P := fun y => (0 ≤ dv y ∧ dv y ≤ 7) ↔ (0 ≤ dv y ∧ y.toNat ≤ 55)) gM y
theorem Uw (t : List UInt8) (ht : t.length ≤ 4194304) : (aP (t.take 16) → aV t = some ((Ib (t.take 16) : Int), t.drop 16, true)) ∧ (¬ aP (t.take 16) → aV t = some (0, [], false)) := by
 by_cases hl : t.length < 16
 ·refine ⟨fun h => ?_, fun _ => ?_⟩
  ·have := h.1; simp at this; omega
  ·simp only [aV]
   rw [decide_eq_true (show (t.length : Int) < 16 by omega)]
   simp [Bd]
 ·have h16 : (t.take 16).length = 16 := by simp; omega
  have h0 : 0 < t.length := by omega
  have e0 : (t.take 16)[0]'(by omega) = t[0] := by simp
  have hs := fP t 0 16 (by omega) (by omega)
  have hs2 := fP t 16 t.length (by omega) (Nat.le_refl _)
  rw [show ((0 : Nat) : Int) = 0 from rfl, show ((16 : Nat) : Int) = 16 from rfl, List.drop_zero] at hs
  rw [show ((16 : Nat) : Int) = 16 from rfl, List.take_length] at hs2
  obtain ⟨r1, r2⟩ := qH (t.take 16) h16
  simp only [aV]
  rw [decide_eq_false (show ¬ (t.length : Int) < 16 by omega)]
  simp only [beq_self_eq_true, if_true, show Cg t 0 = some t[0] from Bk (k := 0) h0, Option.bind_some, Bd, cond_false]
  refine ⟨fun h => ?_, fun h => ?_⟩
  ·have h3 := (gN t[0]).1 ⟨by rw [← e0]; exact h.2.1 0 (by omega), by rw [← e0]; exact h.2.2 (by omega)⟩
   rw [if_neg (by simp; omega), hs]
   simp only [Option.bind_some, r1 h, hs2]
  ·by_cases hf : t[0].toNat ≤ 55
   ·rw [if_neg (by simp; omega), hs]
    have hbad : ∃ k, ∃ h : k < (t.take 16).length, dv (t.take 16)[k] < 0 := by
     refine Classical.byContradiction fun hne => h ⟨h16, fun k hk => ?_, fun h1 => ?_⟩
     ·exact Classical.byContradiction fun hh => hne ⟨k, hk, by omega⟩
     ·have h4 : 0 ≤ dv (t.take 16)[0] := Classical.byContradiction fun hh => hne ⟨0, h1, by omega⟩
      rw [e0] at h4 ⊢
      exact ((gN t[0]).2 ⟨h4, hf⟩).2
    simp only [Option.bind_some, r2 hbad (fun _ => by rw [e0]; exact hf)]
   ·rw [if_pos (by simp; omega)]
end Go.Ev
end
section
set_option maxHeartbeats 1000000
namespace Go.Ev
theorem tt : (true == true) = true := rfl
theorem nf : (!false) = true := rfl
theorem slcT (l : List UInt8) (b : Nat) (h : b ≤ l.length) : Tv l 0 (b : Int) = some (l.take b) := fP l 0 b (by omega) h
theorem slcE (l : List UInt8) (a : Nat) (h : a ≤ l.length) : Tv l (a : Int) (l.length : Int) = some (l.drop a) := by
 rw [fP l a l.length h (Nat.le_refl _), List.take_length]
theorem wP (s w : List UInt8) : SR s w = some (s.take w.length == w) := by
 unfold SR
 by_cases h : w.length ≤ s.length
 ·rw [decide_eq_true (show (s.length : Int) ≥ (w.length : Int) by omega), if_pos tt, slcT s w.length h]
  rfl
 ·rw [decide_eq_false (show ¬ (s.length : Int) ≥ (w.length : Int) by omega), if_neg (by simp)]
  have : (s.take w.length == w) = false := by
   rw [beq_eq_false_iff_ne]
   intro he
   have := congrArg List.length he
   simp at this
   omega
  rw [this]
  rfl
theorem mO {s w : List UInt8} (h : s.take w.length = w) : Vz s w = some (s.drop w.length, true) := by
 have hl : w.length ≤ s.length := by
  have := congrArg List.length h
  simp at this
  omega
 unfold Vz SQ
 rw [wP, h, Option.bind_some, beq_self_eq_true, if_neg (by simp), slcE s w.length hl]
 rfl
theorem jU {s w : List UInt8} (h : ¬ s.take w.length = w) : Vz s w = some (s, false) := by
 unfold Vz SQ
 rw [wP, Option.bind_some, beq_eq_false_iff_ne.2 h, if_pos nf]
 rfl
def Two (a : List UInt8) : Prop := aP (a.take 16) ∧ aP ((a.drop 16).take 16)
theorem TW {a : List UInt8} (x y : List UInt8) (ha : a.length ≤ 4194304) (h : Two a) :
  gR a x y = some ((Ib (a.take 16) : Int), (Ib ((a.drop 16).take 16) : Int), (a.drop 32 == x), bif (a.drop 32 == x) then true else (a.drop 32 == y)) := by
 unfold gR
 rw [(Uw a ha).1 h.1, Option.bind_some]
 dsimp only
 rw [(Uw (a.drop 16) (by simp; omega)).1 h.2, Option.bind_some]
 simp only [Bd, List.drop_drop, cond_true]
end Go.Ev
end
section
set_option maxHeartbeats 1000000
namespace Go.Ev
def Mk (x : Bh) : Bool := decide (1 ≤ x.key.length ∧ x.key.length ≤ 60) && decide (x.value.length ≤ 400)
def Ip (l : List Bh) (k : Nat) : Bool := Mk (l[k]?.getD default) && (decide (k = 0) || Op.bytesLess (l[k - 1]?.getD default).key (l[k]?.getD default).key)
theorem SP (x : List UInt8) : SO x = some (decide (1 ≤ x.length ∧ x.length ≤ 60)) := by
 simp only [SO, wL, Option.bind_some]
 rw [show decide ((1 : Int) ≤ (x.length : Int)) = decide (1 ≤ x.length) by congr 1; apply propext; omega,
  show decide ((x.length : Int) ≤ 60) = decide (x.length ≤ 60) by congr 1; apply propext; omega]
 by_cases h1 : 1 ≤ x.length <;> by_cases h2 : x.length ≤ 60 <;> simp [h1, h2]
theorem wr1 : IntKind.i64.wrap 1 = 1 := wr ⟨by decide, by decide⟩
theorem w0 {k : Nat} (h : k < 4611686018427387904) (h0 : 0 < k) : IntKind.i64.wrap ((k : Int) - 1) = ((k - 1 : Nat) : Int) := by rw [wr ⟨by omega, by omega⟩]; omega
theorem lR (l : List Bh) (hl : l.length ≤ 1048576) :
  (Bm (Pt l) 0).bind (fun r => match r with | .inl () => some true | .inr q => some q) = some ((List.range l.length).all (Ip l)) := by
 refine rN (Ip l) (fun k hk _ => ?_) ?_
 ·simp only [Pt]
  rw [if_pos (decide_eq_true (by omega)), Bk hk]
  simp only [Option.bind_some, SP]
  have eg : l[k]?.getD default = l[k] := by rw [List.getElem?_eq_getElem hk]; rfl
  have ev : (bif (!(decide (1 ≤ l[k].key.length ∧ l[k].key.length ≤ 60))) then true else (decide ((l[k].value.length : Int) > 400))) = !Mk l[k] := by
   rw [show decide ((l[k].value.length : Int) > 400) = !decide (l[k].value.length ≤ 400) by
    rw [← decide_not]; congr 1; apply propext; omega]
   unfold Mk
   cases decide (1 ≤ l[k].key.length ∧ l[k].key.length ≤ 60) <;> cases decide (l[k].value.length ≤ 400) <;> rfl
  rw [ev]
  by_cases he : Mk l[k] = true
  ·by_cases h0 : k = 0
   ·subst h0
    have : Ip l 0 = true := by simp only [Ip, eg, he]; rfl
    rw [this, he]
    simp [Bd, wr1]
   ·have hk0 : 0 < k := by omega
    have e1 : decide ((k : Int) > 0) = true := decide_eq_true (by omega)
    have eg1 : l[k - 1]?.getD default = l[k - 1] := by rw [List.getElem?_eq_getElem (by omega)]; rfl
    have : Ip l k = Op.bytesLess l[k - 1].key l[k].key := by simp only [Ip, eg, he, eg1, decide_eq_false h0]; simp
    rw [this, he, e1, w0 (by omega) hk0, Bk (k := k - 1) (by omega)]
    simp only [Bd, Option.bind_some, w1 (show k < 4611686018427387904 by omega)]
    cases hb : Op.bytesLess l[k - 1].key l[k].key <;> simp [hb]
  ·have he' : Mk l[k] = false := by simpa using he
   have : Ip l k = false := by simp only [Ip, eg, he']; rfl
   rw [this, he']
   simp [Bd]
 ·simp only [Pt]
  rw [if_neg (by simp)]
end Go.Ev
end
section
namespace Go.Ev
theorem SW (l : List Af) (f : Af → Option Bool) (p : Af → Bool) (hf : ∀ x ∈ l, f x = some (p x)) (hl : l.length ≤ 4611686018427387903) : g475 l f = some (Gj l p) := Zc l f p hf hl (fun _ => rfl)
theorem SU (l : List Af) (f : Af → Option Bool) (p : Af → Bool) (hf : ∀ x ∈ l, f x = some (p x)) (hl : l.length ≤ 4611686018427387903) : ST l f = some (l.filter fun x => !p x) := by
 unfold ST; rw [SW l f p hf hl]; exact gK l f p hf hl _ (fun _ _ _ => rfl)
theorem nG (l : List Af) (hl : l.length ≤ 1048576) : pP l = some l := by
 unfold pP; rw [if_pos (by simp; omega)]
end Go.Ev
end
section
set_option maxHeartbeats 1000000
namespace Go.Ev
theorem kX {l : List Int} {M : Int} (h : Ce l 1 M) {x : Int} {c : Bool} {p : Nat} (hp : Lo l x p) (y : Int) : y ∈ Jq l x c p ↔ if c = true then (y ∈ l ∨ y = x) else (y ∈ l ∧ y ≠ x) := by
 have hm := rP h hp
 have hs : ∀ y, y ∈ l ↔ y ∈ l.take p ∨ y ∈ l.drop p := fun y => by rw [← List.mem_append, List.take_append_drop]
 unfold Jq
 cases c with
 | true =>
  simp only [if_true]
  split
  ·rename_i ha
   constructor
   ·intro hy; exact .inl hy
   ·rintro (hy | rfl)
    ·exact hy
    ·exact hm.1 ha
  ·rw [List.mem_append, List.mem_append, List.mem_singleton, hs y]
   constructor
   ·rintro ((h | h) | h)
    ·exact .inl (.inl h)
    ·exact .inr h
    ·exact .inl (.inr h)
   ·rintro ((h | h) | h)
    ·exact .inl (.inl h)
    ·exact .inr h
    ·exact .inl (.inr h)
 | false =>
  simp only [Bool.false_eq_true, if_false]
  split
  ·rename_i ha
   have hx : l[p]? = some x := by simpa [Hm] using ha
   obtain ⟨hlt, he⟩ := List.getElem?_eq_some_iff.1 hx
   rw [List.mem_append]
   constructor
   ·rintro (hy | hy)
    ·have := Yc hp hy
     exact ⟨List.mem_of_mem_take hy, by omega⟩
    ·obtain ⟨j, hj, rfl⟩ := List.getElem_of_mem hy
     simp only [List.length_drop] at hj
     rw [List.getElem_drop]
     have := h.lt (show p + 1 + j < l.length by omega) (show p < p + 1 + j by omega)
     exact ⟨List.getElem_mem _, by omega⟩
   ·rintro ⟨hy, hne⟩
    rcases (hs y).1 hy with hy | hy
    ·exact .inl hy
    ·rw [List.drop_eq_getElem_cons hlt] at hy
     rcases List.mem_cons.1 hy with hy | hy
     ·exact absurd (hy.trans he) hne
     ·exact .inr hy
  ·rename_i ha
   constructor
   ·intro hy; exact ⟨hy, fun e => ha (hm.2 (e ▸ hy))⟩
   ·exact fun h => h.1
noncomputable def Bn (l : List Int) (x : Int) (c : Bool) (f : Int) : List Int × Int := (g89 l x c f).getD ([], 0)
theorem Ls {l : List Int} {M : Int} (h : Ce l 1 M) (hl : l.length ≤ 1048575) (x : Int) (c : Bool) (f : Int) (hx : c = true → 1 ≤ x ∧ x ≤ M) :
  g89 l x c f = some (Bn l x c f) ∧ UV l x c f = some (Bn l x c f) ∧ Ce (Bn l x c f).1 1 M ∧
   ((Bn l x c f).2 = 13 ∧ (Bn l x c f).1 = l ∧ f = 1 ∨ f ≠ 1 ∧ (Bn l x c f).2 = Ld f ∧ ∀ y, y ∈ (Bn l x c f).1 ↔ if c = true then (y ∈ l ∨ y = x) else (y ∈ l ∧ y ≠ x)) := by
 obtain ⟨p, hp⟩ := AcU h x
 have e1 := g89_eq h hl x c f hp
 have e2 := g86_eq hl x c f hp
 have e : Bn l x c f = if (f == 1) = true then (l, 13) else (Jq l x c p, Ld f) := by unfold Bn; rw [e1]; rfl
 rw [e]
 refine ⟨e1, e2, ?_, ?_⟩
 ·split
  ·exact h
  ·exact aS h c hx hp
 ·by_cases hf : f = 1
  ·rw [if_pos (by simp [hf])]
   exact .inl ⟨rfl, rfl, hf⟩
  ·rw [if_neg (by simpa using hf)]
   exact .inr ⟨hf, rfl, fun y => kX h hp y⟩
def Bb (a : Am) (k : Nat) : Int := a.Dd[k]?.getD 0
theorem dI (a : Am) (k : Nat) : kD a (k : Int) = some (Bb a k) := by
 unfold kD Bb
 by_cases h : k < a.Dd.length
 ·rw [if_pos (decide_eq_true (by omega)), Bk h, List.getElem?_eq_getElem h]; rfl
 ·rw [if_neg (by simp; omega), List.getElem?_eq_none (by omega)]; rfl
theorem Zw {v : Ag} {a : Am} {k : Nat} (hk : k ≤ 1048576) {M : Int} (h : Ce v.Ae 1 M) (hl : v.Ae.length ≤ 1048575) (x : Int) (c : Bool) (hx : c = true → 1 ≤ x ∧ x ≤ M) :
  gT (Dn.mk v a (k : Int)) x c = some ((Bn v.Ae x c (Bb a k)).2, Dn.mk (Ag.mk v.Ac v.Aa (Bn v.Ae x c (Bb a k)).1 v.Al) a ((k + 1 : Nat) : Int)) := by
 have e := (Ls h hl x c (Bb a k) hx).1
 have hj : Xe (Dn.mk v a (k : Int)) x c (Bb a k) = some ((Bn v.Ae x c (Bb a k)).2, Dn.mk (Ag.mk v.Ac v.Aa (Bn v.Ae x c (Bb a k)).1 v.Al) a ((k + 1 : Nat) : Int)) := by
  simp only [Xe, e, Option.bind_some, w1 (show k < 4611686018427387904 by omega)]
 unfold gT
 by_cases hlt : k < a.Dd.length
 ·rw [if_pos (decide_eq_true (by simp only; omega))]
  simp only [Bk hlt, Option.bind_some]
  have : Bb a k = a.Dd[k] := by unfold Bb; rw [List.getElem?_eq_getElem hlt]; rfl
  rw [← this]
  exact hj
 ·rw [if_neg (by simp; omega)]
  have : Bb a k = 0 := by unfold Bb; rw [List.getElem?_eq_none (by omega)]; rfl
  rw [← this]
  exact hj
def Gr (i : Af) : Af := Af.mk i.Av true
def Hz (v : Ag) : Ag := Ag.mk v.Ac (v.Aa.map Gr) v.Ae true
theorem zC (l : List Af) (k : Nat) (hk : k < l.length) : ((l.take k).map Gr ++ l.drop k).set k (Gr l[k]) = (l.take (k + 1)).map Gr ++ l.drop (k + 1) := by
 rw [List.set_append, if_neg (by simp; omega), List.take_succ_eq_append_getElem hk, List.map_append, List.append_assoc]
 congr 1
 rw [List.drop_eq_getElem_cons hk]
 have : k - ((l.take k).map Gr).length = 0 := by simp; omega
 rw [this]
 rfl
theorem zB (l : List Af) (k : Nat) (hk : k < l.length) : ((l.take k).map Gr ++ l.drop k)[k]? = some l[k] := by
 rw [List.getElem?_append_right (by simp; omega)]
 have : k - ((l.take k).map Gr).length = 0 := by simp; omega
 rw [this, List.getElem?_drop, Nat.add_zero, List.getElem?_eq_getElem hk]
theorem fV (l : List Af) (k : Nat) : ((l.take k).map Gr ++ l.drop k).length = l.length := by simp; omega
theorem Ow (v : Ag) (h1 : v.Ac.Ad.length ≤ 1048576) (h2 : v.Aa.length ≤ 1048576) (h3 : v.Ae.length ≤ 1048576) : dN v = some (Hz v) := by
 have e : Yh v = some v := by
  simp only [Yh, Jg v.Ac h1, Option.bind_some]
  rw [if_pos (by simp; omega), if_pos (by simp; omega)]
  rfl
 have h := Di (step := Pl) (fun k => ((k : Int), (v.Aa.take k).map Gr ++ v.Aa.drop k)) v.Aa.length (v.Aa.map Gr) (fun k hk => by
  simp only [Pl, fV]
  rw [if_pos (decide_eq_true (by omega)), Bk (by rw [fV]; exact hk)]
  simp only [Option.bind_some, Int.toNat_natCast, zB _ _ hk, w1 (show k < 4611686018427387904 by omega)]
  rw [← zC _ _ hk]
  rfl) (by
  simp only [Pl, fV]
  rw [if_neg (by simp), List.take_length, List.drop_length, List.append_nil])
 have h' : Bm Pl (0, v.Aa) = some (v.Aa.map Gr) := h
 simp only [dN, e, Option.bind_some, h']
 rfl
theorem Ov (v : Ag) (h2 : v.Aa.length ≤ 1048576) : gS v = some (Hz v, Aq.mk 15 0) := by
 have h := Di (step := Sv v) (fun k => ((k : Int), (v.Aa.take k).map Gr ++ v.Aa.drop k)) v.Aa.length (v.Aa.map Gr) (fun k hk => by
  simp only [Sv]
  rw [if_pos (decide_eq_true (by omega)), Bk (by rw [fV]; exact hk)]
  simp only [Option.bind_some, Int.toNat_natCast, zB _ _ hk, w1 (show k < 4611686018427387904 by omega)]
  rw [← zC _ _ hk]
  rfl) (by
  simp only [Sv]
  rw [if_neg (by simp), List.take_length, List.drop_length, List.append_nil])
 have h' : Bm (Sv v) (0, v.Aa) = some (v.Aa.map Gr) := h
 simp only [gS, Option.bind_some, h']
 rfl
def Fw (L : List Ab) (x code : Int) : List Ab := if code = 0 then L.filter (fun y => y.id != x) else L
def Gm (L : List Af) (x code : Int) : List Af := if code = 0 then L.filter (fun y => y.Av != x) else L
theorem vT {t : Ai} (h : Em t) {k : Nat} (hk : k < t.Ad.length) : t.Ad.take k ++ t.Ad.drop (k + 1) = t.Ad.filter (fun y => y.id != t.Ad[k].id) := by
 have hd := List.drop_eq_getElem_cons hk
 have hlt1 : ∀ j, ∀ hj : j < k, (t.Ad[j]'(by omega)).id < t.Ad[k].id := fun j hj => h.lt hk hj
 have hlt2 : ∀ j, ∀ hj : k + 1 + j < t.Ad.length, t.Ad[k].id < t.Ad[k + 1 + j].id := fun j hj => h.lt hj (by omega)
 generalize t.Ad[k] = x at hd hlt1 hlt2
 have e : t.Ad.filter (fun y => y.id != x.id) = (t.Ad.take k ++ x :: t.Ad.drop (k + 1)).filter (fun y => y.id != x.id) := by rw [← hd, List.take_append_drop]
 rw [e, List.filter_append, List.filter_cons, if_neg (by simp)]
 congr 1
 ·symm
  rw [List.filter_eq_self]
  intro y hy
  obtain ⟨j, hj, rfl⟩ := List.getElem_of_mem hy
  simp only [List.length_take] at hj
  rw [List.getElem_take]
  have := hlt1 j (by omega)
  simp; omega
 ·symm
  rw [List.filter_eq_self]
  intro y hy
  obtain ⟨j, hj, rfl⟩ := List.getElem_of_mem hy
  simp only [List.length_drop] at hj
  rw [List.getElem_drop]
  have := hlt2 j (by omega)
  simp; omega
theorem pG {t : Ai} (h : Em t) {k : Nat} (hk : k < t.Ad.length) : AA t t.Ad[k].id = some (k : Int) ∧ zZ t t.Ad[k].id = some ((k : Int), true) := by
 have hl := h.2.2.1
 obtain ⟨n, h1, h2⟩ := Rj t t.Ad[k].id (by omega)
 have hn : n = (k : Int) := by
  rcases h2 with ⟨_, h3⟩ | ⟨j, hj, rfl, h4⟩
  ·exact absurd rfl (h3 _ (List.getElem_mem hk))
  ·rcases Nat.lt_trichotomy j k with hjk | rfl | hjk
   ·have := h.lt hk hjk; omega
   ·rfl
   ·have := h.lt hj hjk; omega
 obtain ⟨i, b, h3, h4, h5⟩ := eQ t h _ n h2
 subst hn
 cases b with
 | false => have := h5 rfl; omega
 | true =>
  obtain ⟨rfl, _⟩ := h4 rfl
  exact ⟨h1, h3⟩
theorem pB {t : Ai} (h : Fi t) {x : Ab} (hx : x ∈ t.Ad) (hq : x.Bt = true) :
  g76 t x.id = some (Ai.mk t.clock t.next (t.Ad.filter fun y => y.id != x.id), 0) ∧ (∃ i, zZ t x.id = some (i, true) ∧ g78 t i = some (Ai.mk t.clock t.next (t.Ad.filter fun y => y.id != x.id))) ∧
   Fi (Ai.mk t.clock t.next (t.Ad.filter fun y => y.id != x.id)) := by
 obtain ⟨k, hk, rfl⟩ := List.getElem_of_mem hx
 have hl := h.1.2.2.1
 obtain ⟨f1, f2⟩ := pG h.1 hk
 have s1 := yT t.Ad 0 k (by omega) (by omega)
 have s2 := yT t.Ad (k + 1) t.Ad.length (by omega) (Nat.le_refl _)
 rw [show ((0 : Nat) : Int) = 0 from rfl] at s1
 have hw := w1 (show k < 4611686018427387904 by omega)
 rw [← vT h.1 hk]
 refine ⟨?_, ⟨(k : Int), f2, ?_⟩, TO h hk⟩
 ·simp only [g76, f1, Option.bind_some]
  rw [if_neg (by simp), Bk hk]
  simp only [Option.bind_some]
  rw [if_neg (by simp [hq])]
  simp only [hw, s1, s2, Option.bind_some]
  rw [if_pos (by simp; omega), if_pos (by simp; omega)]
  simp
 ·simp only [g78, Pk t (by omega), Option.bind_some, g115, hw]
  rw [if_pos (⟨⟨by omega, by omega, by omega⟩, by omega⟩ : (0 ≤ (k : Int) ∧ (k : Int) ≤ ((k + 1 : Nat) : Int) ∧ ((k + 1 : Nat) : Int) ≤ (t.Ad.length : Int)) ∧ t.Ad.length ≤ 4398046511104)]
  simp only [Option.bind_some, Int.toNat_natCast]
theorem lW (l : List Af) (x : Int) (hl : l.length ≤ 1048576) : RM l x = some (l.filter fun y => y.Av != x) := by
 have h := Di (step := Pp l x) (fun k => ((l.take k).filter (fun y => y.Av != x), (k : Int))) l.length (l.filter fun y => y.Av != x) (fun k hk => by
  simp only [Pp]
  rw [if_pos (decide_eq_true (by omega)), Bk hk]
  have hle : ((l.take k).filter (fun y => y.Av != x)).length ≤ k := Nat.le_trans (List.length_filter_le _ _) (by simp; omega)
  simp only [Option.bind_some, Ws, w1 (show k < 4611686018427387904 by omega)]
  rw [List.take_succ_eq_append_getElem hk, List.filter_append, List.filter_cons]
  split
  ·rw [if_pos (by simp; omega)]
   rfl
  ·rw [List.filter_nil, List.append_nil]) (by
  simp only [Pp]
  rw [if_neg (by simp), List.take_length])
 have h' : Bm (Pp l x) ([], 0) = some (l.filter fun y => y.Av != x) := h
 simp only [RM, h', Option.bind_some]
theorem pA (l : List Af) (y : Af) (hl : l.length ≤ 1048576) : ST l (fun z => Adt z y) = some (l.filter fun z => z.Av != y.Av) :=
 SU l (fun z => Adt z y) (fun z => z.Av == y.Av) (fun _ _ => rfl) (by omega)
noncomputable def Ed (a : Am) : List Ab → Nat → List Ab → List Int → Nat × List Ab × List Int × Bool
 | [], c, L, A => (c, L, A, false)
 | x :: r, c, L, A => if x.Bt = true then
   (if a.stop = 2 then (c + 1, Fw L x.id (Bn A x.id false (Bb a c)).2, (Bn A x.id false (Bb a c)).1, true)
   else Ed a r (c + 1) (Fw L x.id (Bn A x.id false (Bb a c)).2) (Bn A x.id false (Bb a c)).1)
  else Ed a r c L A
noncomputable def Eh (a : Am) : List Af → Nat → List Af → List Int → Nat × List Af × List Int × Bool
 | [], c, L, A => (c, L, A, false)
 | x :: r, c, L, A => if x.Hl = true then
   (if a.stop = 2 then (c + 1, Gm L x.Av (Bn A x.Av false (Bb a c)).2, (Bn A x.Av false (Bb a c)).1, true)
   else Eh a r (c + 1) (Gm L x.Av (Bn A x.Av false (Bb a c)).2) (Bn A x.Av false (Bb a c)).1)
  else Eh a r c L A
theorem Pb {A : List Int} {t : Ai} (h : Em t) (hA : Ce A 1 (t.next - 1)) : A.length ≤ 1000000 := by
 have h1 := h.2.1
 have := hA.len (by omega)
 omega
theorem iW (w : Ag) (a : Am) (hw : Em w.Ac) (hin : w.Aa.length ≤ 1048576) : ∀ m i c (L : List Ab) (A : List Int), i + m = w.Ac.Ad.length → c ≤ i → Fi (Ai.mk w.Ac.clock w.Ac.next L) → (∀ x ∈ w.Ac.Ad.drop i, x ∈ L) → Ce A 1 (w.Ac.next - 1) → (a.stop = 2 → c = 0) →
  let R := Ed a (w.Ac.Ad.drop i) c L A
  let t := Ai.mk w.Ac.clock w.Ac.next R.2.1
  Bm (Kr w a w) ((c : Int), (i : Int), w.Ac.clock, w.Ac.next, L, A) = some (if R.2.2.2 = true then .inr (Hz (Ag.mk t w.Aa R.2.2.1 w.Al)) else .inl ((R.1 : Int), w.Ac.clock, w.Ac.next, R.2.1, R.2.2.1)) ∧
  Bm (Kv a w.Ac.Ad) ((i : Int), w.Ac.clock, w.Ac.next, L, w.Aa, A, w.Al, a.kind, a.id, a.ttl, a.Gw, a.clock, a.Dd, a.stop, (c : Int)) = some (if R.2.2.2 = true then .inr (Hz (Ag.mk t w.Aa R.2.2.1 w.Al), Aq.mk 15 0) else .inl (w.Ac.clock, w.Ac.next, R.2.1, w.Aa, R.2.2.1, w.Al, a.kind, a.id, a.ttl, a.Gw, a.clock, a.Dd, a.stop, (R.1 : Int))) ∧
  Fi t ∧ Ce R.2.2.1 1 (w.Ac.next - 1) ∧ R.1 ≤ w.Ac.Ad.length ∧ (R.2.2.2 = false → a.stop = 2 → R.1 = 0) := by
 have h40 := hw.2.2.1
 intro m
 induction m with
 | zero =>
  intro i c L A him hc hT hL hA hs
  have e : w.Ac.Ad.drop i = [] := List.drop_eq_nil_of_le (by omega)
  rw [e]
  refine ⟨Dg ?_, Dg ?_, hT, hA, by simp only [Ed]; omega, fun _ h => hs h⟩
  ·simp only [Kr, Ed]
   rw [if_neg (by simp; omega)]
   rfl
  ·simp only [Kv, Ed]
   rw [if_neg (by simp; omega)]
   rfl
 | succ m ih =>
  intro i c L A him hc hT hL hA hs
  have hlt : i < w.Ac.Ad.length := by omega
  rw [List.drop_eq_getElem_cons hlt]
  have hx : w.Ac.Ad[i] ∈ L := hL _ (by rw [List.drop_eq_getElem_cons hlt]; exact List.mem_cons_self)
  have hL1 : ∀ x ∈ w.Ac.Ad.drop (i + 1), x ∈ L := fun x hx => hL x (by rw [List.drop_eq_getElem_cons hlt]; exact List.mem_cons_of_mem _ hx)
  by_cases hq : w.Ac.Ad[i].Bt = true
  ·obtain ⟨c1, c2, c3, c4⟩ := Ls hA (by have := Pb hw hA; omega) w.Ac.Ad[i].id false (Bb a c) (fun h => by cases h)
   obtain ⟨d1, ⟨j, d2, d3⟩, d4⟩ := pB hT hx hq
   simp only at d1 d2 d3 d4
   have r1 := Zw (v := Ag.mk (Ai.mk w.Ac.clock w.Ac.next L) w.Aa A w.Al) (a := a) (k := c) (by omega) hA (by have := Pb hw hA; simp only; omega) w.Ac.Ad[i].id false (fun h => by cases h)
   simp only at r1
   have hT' : Fi (Ai.mk w.Ac.clock w.Ac.next (Fw L w.Ac.Ad[i].id (Bn A w.Ac.Ad[i].id false (Bb a c)).2)) := by
    unfold Fw; split
    ·exact d4
    ·exact hT
   have hlen : (Fw L w.Ac.Ad[i].id (Bn A w.Ac.Ad[i].id false (Bb a c)).2).length ≤ 40 := hT'.1.2.2.1
   have hL2 : ∀ x ∈ w.Ac.Ad.drop (i + 1), x ∈ Fw L w.Ac.Ad[i].id (Bn A w.Ac.Ad[i].id false (Bb a c)).2 := fun x hx => by
    unfold Fw; split
    ·rw [List.mem_filter]
     refine ⟨hL1 x hx, ?_⟩
     obtain ⟨j, hj, rfl⟩ := List.getElem_of_mem hx
     simp only [List.length_drop] at hj
     rw [List.getElem_drop]
     have := hw.lt (show i + 1 + j < w.Ac.Ad.length by omega) (show i < i + 1 + j by omega)
     simp; omega
    ·exact hL1 x hx
   have hA' := Pb hw c3
   have spec1 : ∀ K, Kr w a w ((c : Int), (i : Int), w.Ac.clock, w.Ac.next, L, A) = K ↔ Pm a w (c : Int) (i : Int) (Bn A w.Ac.Ad[i].id false (Bb a c)) w.Ac.clock w.Ac.next (Fw L w.Ac.Ad[i].id (Bn A w.Ac.Ad[i].id false (Bb a c)).2) = K := fun K => by
    simp only [Kr]
    rw [if_pos (decide_eq_true (by omega)), Bk hlt]
    simp only [Option.bind_some]
    rw [if_neg (by simp [hq]), dI]
    simp only [Option.bind_some, c2]
    unfold Fw
    by_cases h0 : (Bn A w.Ac.Ad[i].id false (Bb a c)).2 = 0
    ·rw [if_pos (by simp [h0]), if_pos h0, d1]
     rfl
    ·rw [if_neg (by simpa using h0), if_neg h0]
   have impl1 : ∀ K, Kv a w.Ac.Ad ((i : Int), w.Ac.clock, w.Ac.next, L, w.Aa, A, w.Al, a.kind, a.id, a.ttl, a.Gw, a.clock, a.Dd, a.stop, (c : Int)) = K ↔ Ss a (i : Int) ((Bn A w.Ac.Ad[i].id false (Bb a c)).2, Dn.mk (Ag.mk (Ai.mk w.Ac.clock w.Ac.next L) w.Aa (Bn A w.Ac.Ad[i].id false (Bb a c)).1 w.Al) a ((c + 1 : Nat) : Int)) w.Ac.clock w.Ac.next (Fw L w.Ac.Ad[i].id (Bn A w.Ac.Ad[i].id false (Bb a c)).2) = K := fun K => by
    simp only [Kv]
    rw [if_pos (decide_eq_true (by omega)), Bk hlt]
    simp only [Option.bind_some, Int.toNat_natCast, List.getElem?_eq_getElem hlt]
    rw [if_neg (by simp [hq])]
    rw [show gT (Dn.mk (Ag.mk (Ai.mk w.Ac.clock w.Ac.next L) w.Aa A w.Al) (Am.mk a.kind a.id a.ttl a.Gw a.clock a.Dd a.stop) (c : Int)) w.Ac.Ad[i].id false = _ from r1]
    simp only [Option.bind_some, d2]
    unfold Fw
    by_cases h0 : (Bn A w.Ac.Ad[i].id false (Bb a c)).2 = 0
    ·rw [if_pos (by simp [h0]), if_pos h0, d3]
     rfl
    ·rw [if_neg (by simpa using h0), if_neg h0]
   by_cases hst : a.stop = 2
   ·have hc0 := hs hst
    subst hc0
    have eR : Ed a (w.Ac.Ad[i] :: w.Ac.Ad.drop (i + 1)) 0 L A = (1, Fw L w.Ac.Ad[i].id (Bn A w.Ac.Ad[i].id false (Bb a 0)).2, (Bn A w.Ac.Ad[i].id false (Bb a 0)).1, true) := by simp only [Ed, hq, if_true]; rw [if_pos hst]
    dsimp only
    rw [eR]
    refine ⟨Dg ?_, Dg ?_, hT', c3, by simp only; omega, fun h => by cases h⟩
    ·rw [spec1]
     simp only [Pm]
     rw [if_pos (by simp [hst]), Ow (Ag.mk (Ai.mk w.Ac.clock w.Ac.next (Fw L w.Ac.Ad[i].id (Bn A w.Ac.Ad[i].id false (Bb a 0)).2)) w.Aa (Bn A w.Ac.Ad[i].id false (Bb a 0)).1 w.Al) (by simp only; omega) hin (by simp only; omega)]
     rfl
    ·rw [impl1]
     simp only [Ss, pQ, Option.bind_some]
     rw [if_pos (by simp [hst]), Ov (Ag.mk (Ai.mk w.Ac.clock w.Ac.next (Fw L w.Ac.Ad[i].id (Bn A w.Ac.Ad[i].id false (Bb a 0)).2)) w.Aa (Bn A w.Ac.Ad[i].id false (Bb a 0)).1 w.Al) hin]
     rfl
   ·have eR : Ed a (w.Ac.Ad[i] :: w.Ac.Ad.drop (i + 1)) c L A = Ed a (w.Ac.Ad.drop (i + 1)) (c + 1) (Fw L w.Ac.Ad[i].id (Bn A w.Ac.Ad[i].id false (Bb a c)).2) (Bn A w.Ac.Ad[i].id false (Bb a c)).1 := by simp only [Ed, hq, if_true]; rw [if_neg hst]
    dsimp only
    rw [eR]
    obtain ⟨i1, i2, i3⟩ := ih (i + 1) (c + 1) _ (Bn A w.Ac.Ad[i].id false (Bb a c)).1 (by omega) (by omega) hT' hL2 c3 (fun h => absurd h hst)
    refine ⟨?_, ?_, i3⟩
    ·rw [De (s' := (((c + 1 : Nat) : Int), ((i + 1 : Nat) : Int), w.Ac.clock, w.Ac.next, Fw L w.Ac.Ad[i].id (Bn A w.Ac.Ad[i].id false (Bb a c)).2, (Bn A w.Ac.Ad[i].id false (Bb a c)).1)) ?_]
     ·exact i1
     ·rw [spec1]
      simp only [Pm, Sg]
      rw [if_neg (by simpa using hst), w1 (show c < 4611686018427387904 by omega), w1 (show i < 4611686018427387904 by omega)]
    ·rw [De (s' := (((i + 1 : Nat) : Int), w.Ac.clock, w.Ac.next, Fw L w.Ac.Ad[i].id (Bn A w.Ac.Ad[i].id false (Bb a c)).2, w.Aa, (Bn A w.Ac.Ad[i].id false (Bb a c)).1, w.Al, a.kind, a.id, a.ttl, a.Gw, a.clock, a.Dd, a.stop, ((c + 1 : Nat) : Int))) ?_]
     ·exact i2
     ·rw [impl1]
      have es : (a.stop == 2) = false := by simpa using hst
      simp only [Ss, Xc, pQ, Option.bind_some, es, cond_false]
      rw [if_neg (by simp), w1 (show i < 4611686018427387904 by omega)]
  ·have hq' : w.Ac.Ad[i].Bt = false := by simpa using hq
   have eR : Ed a (w.Ac.Ad[i] :: w.Ac.Ad.drop (i + 1)) c L A = Ed a (w.Ac.Ad.drop (i + 1)) c L A := by simp only [Ed, hq', Bool.false_eq_true, if_false]
   dsimp only
   rw [eR]
   obtain ⟨i1, i2, i3⟩ := ih (i + 1) c L A (by omega) (by omega) hT hL1 hA hs
   refine ⟨?_, ?_, i3⟩
   ·rw [De (s' := ((c : Int), ((i + 1 : Nat) : Int), w.Ac.clock, w.Ac.next, L, A)) ?_]
    ·exact i1
    ·simp only [Kr]
     rw [if_pos (decide_eq_true (by omega)), Bk hlt]
     simp only [Option.bind_some, Sg]
     rw [if_pos (by simp [hq']), w1 (show i < 4611686018427387904 by omega)]
   ·rw [De (s' := (((i + 1 : Nat) : Int), w.Ac.clock, w.Ac.next, L, w.Aa, A, w.Al, a.kind, a.id, a.ttl, a.Gw, a.clock, a.Dd, a.stop, (c : Int))) ?_]
    ·exact i2
    ·simp only [Kv]
     rw [if_pos (decide_eq_true (by omega)), Bk hlt]
     simp only [Option.bind_some, Int.toNat_natCast, List.getElem?_eq_getElem hlt, Xc]
     rw [if_pos (by simp [hq']), w1 (show i < 4611686018427387904 by omega)]
theorem iT (w : Ag) (a : Am) (t : Ai) (hw : Em t) (hin : w.Aa.length ≤ 1000) (ht : t.next = w.Ac.next) : ∀ m i c (L : List Af) (A : List Int), i + m = w.Aa.length → c ≤ 40 + i → L.length ≤ 1000 → Ce A 1 (w.Ac.next - 1) → (a.stop = 2 → c = 0) →
  let R := Eh a (w.Aa.drop i) c L A
  Bm (Im w a w t.clock t.next t.Ad) ((c : Int), (i : Int), L, A) = some (if R.2.2.2 = true then .inr (Hz (Ag.mk t R.2.1 R.2.2.1 w.Al)) else .inl (R.2.1, R.2.2.1)) ∧
  Bm (Io a w.Aa) ((i : Int), t.clock, t.next, t.Ad, L, A, w.Al, a.kind, a.id, a.ttl, a.Gw, a.clock, a.Dd, a.stop, (c : Int)) = some (if R.2.2.2 = true then .inr (Hz (Ag.mk t R.2.1 R.2.2.1 w.Al), Aq.mk 15 0) else .inl (t.clock, t.next, t.Ad, R.2.1, R.2.2.1, w.Al, a.kind, a.id, a.ttl, a.Gw, a.clock, a.Dd, a.stop, (R.1 : Int))) ∧
  Ce R.2.2.1 1 (w.Ac.next - 1) := by
 have h40 := hw.2.2.1
 intro m
 induction m with
 | zero =>
  intro i c L A him hc hLl hA hs
  have e : w.Aa.drop i = [] := List.drop_eq_nil_of_le (by omega)
  rw [e]
  refine ⟨Dg ?_, Dg ?_, hA⟩
  ·simp only [Im, Eh]
   rw [if_neg (by simp; omega)]
   rfl
  ·simp only [Io, Eh]
   rw [if_neg (by simp; omega)]
   rfl
 | succ m ih =>
  intro i c L A him hc hLl hA hs
  have hlt : i < w.Aa.length := by omega
  rw [List.drop_eq_getElem_cons hlt]
  by_cases hq : w.Aa[i].Hl = true
  ·have hA0 := Pb hw (ht ▸ hA)
   obtain ⟨c1, c2, c3, c4⟩ := Ls hA (by omega) w.Aa[i].Av false (Bb a c) (fun h => by cases h)
   have hA' := Pb hw (ht ▸ c3)
   have r1 := Zw (v := Ag.mk t L A w.Al) (a := a) (k := c) (by omega) hA (by simp only; omega) w.Aa[i].Av false (fun h => by cases h)
   simp only at r1
   have hlen : (Gm L w.Aa[i].Av (Bn A w.Aa[i].Av false (Bb a c)).2).length ≤ 1000 := by
    unfold Gm; split
    ·exact Nat.le_trans (List.length_filter_le _ _) hLl
    ·exact hLl
   have spec1 : ∀ K, Im w a w t.clock t.next t.Ad ((c : Int), (i : Int), L, A) = K ↔ Pn a w t.clock t.next t.Ad (c : Int) (i : Int) (Bn A w.Aa[i].Av false (Bb a c)) (Gm L w.Aa[i].Av (Bn A w.Aa[i].Av false (Bb a c)).2) = K := fun K => by
    simp only [Im]
    rw [if_pos (decide_eq_true (by omega)), Bk hlt]
    simp only [Option.bind_some]
    rw [if_neg (by simp [hq]), dI]
    simp only [Option.bind_some, c2]
    unfold Gm
    by_cases h0 : (Bn A w.Aa[i].Av false (Bb a c)).2 = 0
    ·rw [if_pos (by simp [h0]), if_pos h0, lW _ _ (by omega)]
     rfl
    ·rw [if_neg (by simpa using h0), if_neg h0]
   have impl1 : ∀ K, Io a w.Aa ((i : Int), t.clock, t.next, t.Ad, L, A, w.Al, a.kind, a.id, a.ttl, a.Gw, a.clock, a.Dd, a.stop, (c : Int)) = K ↔ Su a (i : Int) ((Bn A w.Aa[i].Av false (Bb a c)).2, Dn.mk (Ag.mk t L (Bn A w.Aa[i].Av false (Bb a c)).1 w.Al) a ((c + 1 : Nat) : Int)) (Gm L w.Aa[i].Av (Bn A w.Aa[i].Av false (Bb a c)).2) = K := fun K => by
    simp only [Io]
    rw [if_pos (decide_eq_true (by omega)), Bk hlt]
    simp only [Option.bind_some, Int.toNat_natCast, List.getElem?_eq_getElem hlt]
    rw [if_neg (by simp [hq])]
    rw [show gT (Dn.mk (Ag.mk (Ai.mk t.clock t.next t.Ad) L A w.Al) (Am.mk a.kind a.id a.ttl a.Gw a.clock a.Dd a.stop) (c : Int)) w.Aa[i].Av false = _ from r1]
    simp only [Option.bind_some]
    unfold Gm
    by_cases h0 : (Bn A w.Aa[i].Av false (Bb a c)).2 = 0
    ·rw [if_pos (by simp [h0]), if_pos h0, pA _ _ (by omega)]
     rfl
    ·rw [if_neg (by simpa using h0), if_neg h0]
   by_cases hst : a.stop = 2
   ·have hc0 := hs hst
    subst hc0
    have eR : Eh a (w.Aa[i] :: w.Aa.drop (i + 1)) 0 L A = (1, Gm L w.Aa[i].Av (Bn A w.Aa[i].Av false (Bb a 0)).2, (Bn A w.Aa[i].Av false (Bb a 0)).1, true) := by simp only [Eh, hq, if_true]; rw [if_pos hst]
    dsimp only
    rw [eR]
    refine ⟨Dg ?_, Dg ?_, c3⟩
    ·rw [spec1]
     simp only [Pn]
     rw [if_pos (by simp [hst]), Ow (Ag.mk t (Gm L w.Aa[i].Av (Bn A w.Aa[i].Av false (Bb a 0)).2) (Bn A w.Aa[i].Av false (Bb a 0)).1 w.Al) (by simp only; omega) (by simp only; omega) (by simp only; omega)]
     rfl
    ·rw [impl1]
     simp only [Su, pQ, Option.bind_some]
     rw [if_pos (by simp [hst]), Ov (Ag.mk t (Gm L w.Aa[i].Av (Bn A w.Aa[i].Av false (Bb a 0)).2) (Bn A w.Aa[i].Av false (Bb a 0)).1 w.Al) (by simp only; omega)]
     rfl
   ·have eR : Eh a (w.Aa[i] :: w.Aa.drop (i + 1)) c L A = Eh a (w.Aa.drop (i + 1)) (c + 1) (Gm L w.Aa[i].Av (Bn A w.Aa[i].Av false (Bb a c)).2) (Bn A w.Aa[i].Av false (Bb a c)).1 := by simp only [Eh, hq, if_true]; rw [if_neg hst]
    dsimp only
    rw [eR]
    obtain ⟨i1, i2, i3⟩ := ih (i + 1) (c + 1) _ (Bn A w.Aa[i].Av false (Bb a c)).1 (by omega) (by omega) hlen c3 (fun h => absurd h hst)
    refine ⟨?_, ?_, i3⟩
    ·rw [De (s' := (((c + 1 : Nat) : Int), ((i + 1 : Nat) : Int), Gm L w.Aa[i].Av (Bn A w.Aa[i].Av false (Bb a c)).2, (Bn A w.Aa[i].Av false (Bb a c)).1)) ?_]
     ·exact i1
     ·rw [spec1]
      simp only [Pn, Sh]
      rw [if_neg (by simpa using hst), w1 (show c < 4611686018427387904 by omega), w1 (show i < 4611686018427387904 by omega)]
    ·rw [De (s' := (((i + 1 : Nat) : Int), t.clock, t.next, t.Ad, Gm L w.Aa[i].Av (Bn A w.Aa[i].Av false (Bb a c)).2, (Bn A w.Aa[i].Av false (Bb a c)).1, w.Al, a.kind, a.id, a.ttl, a.Gw, a.clock, a.Dd, a.stop, ((c + 1 : Nat) : Int))) ?_]
     ·exact i2
     ·rw [impl1]
      have es : (a.stop == 2) = false := by simpa using hst
      simp only [Su, Xd, pQ, Option.bind_some, es, cond_false]
      rw [if_neg (by simp), w1 (show i < 4611686018427387904 by omega)]
  ·have hq' : w.Aa[i].Hl = false := by simpa using hq
   have eR : Eh a (w.Aa[i] :: w.Aa.drop (i + 1)) c L A = Eh a (w.Aa.drop (i + 1)) c L A := by simp only [Eh, hq', Bool.false_eq_true, if_false]
   dsimp only
   rw [eR]
   obtain ⟨i1, i2, i3⟩ := ih (i + 1) c L A (by omega) (by omega) hLl hA hs
   refine ⟨?_, ?_, i3⟩
   ·rw [De (s' := ((c : Int), ((i + 1 : Nat) : Int), L, A)) ?_]
    ·exact i1
    ·simp only [Im]
     rw [if_pos (decide_eq_true (by omega)), Bk hlt]
     simp only [Option.bind_some, Sh]
     rw [if_pos (by simp [hq']), w1 (show i < 4611686018427387904 by omega)]
   ·rw [De (s' := (((i + 1 : Nat) : Int), t.clock, t.next, t.Ad, L, A, w.Al, a.kind, a.id, a.ttl, a.Gw, a.clock, a.Dd, a.stop, (c : Int))) ?_]
    ·exact i2
    ·simp only [Io]
     rw [if_pos (decide_eq_true (by omega)), Bk hlt]
     simp only [Option.bind_some, Int.toNat_natCast, List.getElem?_eq_getElem hlt, Xd]
     rw [if_pos (by simp [hq']), w1 (show i < 4611686018427387904 by omega)]
end Go.Ev
end
section
set_option maxHeartbeats 1000000
namespace Go.Ev
theorem iC {α : Type} [BEq α] [LawfulBEq α] : ∀ (A B : List α), A.Nodup → (∀ x ∈ A, x ∈ B) → A.length ≤ B.length
 | [], _, _, _ => Nat.zero_le _
 | a :: A, B, h, hs => by
  have ha : a ∈ B := hs a List.mem_cons_self
  have h1 := iC A (B.erase a) (List.nodup_cons.1 h).2 (fun x hx => by
   have hne : x ≠ a := fun e => (List.nodup_cons.1 h).1 (e ▸ hx)
   exact (List.mem_erase_of_ne hne).2 (hs x (List.mem_cons_of_mem _ hx)))
  have h2 := List.length_erase_of_mem ha
  have h3 : 0 < B.length := List.length_pos_of_mem ha
  simp only [List.length_cons]; omega
structure Ds (v : Ag) : Prop where
 tab : Em v.Ac
 i40 : v.Aa.length ≤ 40
 acc : Ce v.Ae 1 (v.Ac.next - 1)
 its : Ce (v.Aa.map Af.Av) 1 (v.Ac.next - 1)
 off : ∀ i ∈ v.Aa, ∀ y ∈ v.Ac.Ad, y.id ≠ i.Av
 nam : ∀ x ∈ v.Ae, (∃ y ∈ v.Ac.Ad, y.id = x) ∨ ∃ i ∈ v.Aa, i.Av = x
theorem Kg {v : Ag} (h : Ds v) : Mh v := by
 refine ⟨h.tab, h.i40, ?_, h.acc, h.its, fun x hx y hy => ?_, fun x hx => ?_⟩
 ·have hn := iC v.Ae (v.Ac.Ad.map Ab.id ++ v.Aa.map Af.Av) ((Tm h.acc).imp (fun h => Int.ne_of_lt h)) (fun x hx => by
   rcases h.nam x hx with ⟨y, hy, rfl⟩ | ⟨i, hi, rfl⟩
   ·exact List.mem_append_left _ (List.mem_map_of_mem hy)
   ·exact List.mem_append_right _ (List.mem_map_of_mem hi))
  have := h.tab.2.2.1
  have := h.i40
  simp at hn; omega
 ·obtain ⟨i, hi, rfl⟩ := List.mem_map.1 hx
  exact h.off i hi y hy
 ·rcases h.nam x hx with ⟨y, hy, e⟩ | ⟨i, hi, e⟩
  ·exact .inl fun hn => hn y hy e
  ·exact .inr fun hn => hn i hi e
theorem Ds.a {v : Ag} (h : Ds v) : v.Ae.length ≤ 1000000 := Pb h.tab h.acc
theorem Ds.t {v : Ag} (h : Ds v) : v.Ac.Ad.length ≤ 40 := h.tab.2.2.1
structure AD (v : Ag) : Prop where
 right : Ds v
 tab : Fi v.Ac
 und : ∀ i ∈ v.Aa, i.Hl = true
theorem Qc {v : Ag} (h : Ds v) : Ds (Hz v) := by
 have e : (Hz v).Aa.map Af.Av = v.Aa.map Af.Av := by simp [Hz, Gr]
 refine ⟨h.tab, by simp [Hz, h.i40], h.acc, by rw [e]; exact h.its, fun i hi y hy => ?_, fun x hx => ?_⟩
 ·obtain ⟨j, hj, rfl⟩ := List.mem_map.1 hi
  exact h.off j hj y hy
 ·rcases h.nam x hx with h1 | ⟨i, hi, e⟩
  ·exact .inl h1
  ·exact .inr ⟨Gr i, List.mem_map_of_mem hi, e⟩
theorem Tq {v : Ag} (h : Ds v) (hT : Fi v.Ac) : AD (Hz v) := ⟨Qc h, hT, fun i hi => by
 obtain ⟨j, _, rfl⟩ := List.mem_map.1 hi; rfl⟩
theorem Qd {v : Ag} {t : Ai} (h : Ds v) (hT : Em t) (hn : t.next = v.Ac.next) (hi : t.Ad.map Ab.id = v.Ac.Ad.map Ab.id) (s : Bool) : Ds (Ag.mk t v.Aa v.Ae s) := by
 have hm : ∀ x, (∃ y ∈ t.Ad, y.id = x) ↔ ∃ y ∈ v.Ac.Ad, y.id = x := fun x => by
  rw [← List.mem_map, ← List.mem_map, hi]
 refine ⟨hT, h.i40, by simp only [hn]; exact h.acc, by simp only [hn]; exact h.its, fun i hi' y hy e => ?_, fun x hx => ?_⟩
 ·obtain ⟨z, hz, ez⟩ := (hm i.Av).1 ⟨y, hy, e⟩
  exact h.off i hi' z hz ez
 ·rcases h.nam x hx with h1 | h1
  ·exact .inl ((hm x).2 h1)
  ·exact .inr h1
def Xp (v : Ag) (a : Am) (r : Ag × Aq) : Prop :=
 ((r.2.code_ ≠ 0 ∧ r.2.code_ ≠ 15 ∧ r.2.code_ ≠ 13) → r.1 = v) ∧ (r.1.Ac.Ad.length ≤ 1048576 ∧ r.1.Aa.length ≤ 1048576 ∧ r.1.Ae.length ≤ 1048576) ∧
  ((∀ i ∈ v.Aa, i.Hl = true) → Xl a → AD r.1)
theorem Qa {v : Ag} (h : Ds v) (hT : Fi v.Ac) (a : Am) (c n : Int) : Xp v a (v, Aq.mk c n) :=
 ⟨fun _ => rfl, ⟨by have := h.t; simp only; omega, by have := h.i40; simp only; omega, by have := h.a; simp only; omega⟩, fun hu _ => ⟨h, hT, hu⟩⟩
theorem Pe {v : Ag} (h1 : v.Ac.Ad.length ≤ 1048576) (h2 : v.Aa.length ≤ 1048576) (h3 : v.Ae.length ≤ 1048576) : Yh v = some v := by
 simp only [Yh, Jg v.Ac h1, Option.bind_some]
 rw [if_pos (by simp; omega), if_pos (by simp; omega)]
 rfl
theorem own_eq {v : Ag} (h1 : v.Ac.Ad.length ≤ 1048576) (h2 : v.Aa.length ≤ 1048576) (h3 : v.Ae.length ≤ 1048576) : Adq v = some v := by
 have e : aT v.Ae = some v.Ae := by unfold aT; rw [if_pos (by simp; omega)]
 simp only [Adq, Pk v.Ac h1, nG v.Aa h2, e, Option.bind_some]
theorem kR {t : Ai} (h : Em t) (x y : Int) : ∃ r s, g70 t x y = some r ∧ g71 t x y = some s ∧ s.2 = r.2 ∧ ((r.1 = t ∧ r.2.2 ≠ 0) ∨
  (s = r ∧ r.2.2 = 0 ∧ r.2.1 = t.next ∧ t.next + 1 ≤ 1000000 ∧ t.Ad.length ≤ 39 ∧ ∃ l : Ab, l.id = t.next ∧ r.1 = Ai.mk t.clock (t.next + 1) (t.Ad ++ [l]))) := by
 have hl := h.2.2.1
 have hn := h.2.1
 simp only [g70, g71]
 split
 ·exact ⟨_, _, rfl, rfl, rfl, .inl ⟨rfl, by simp⟩⟩
 ·split
  ·exact ⟨_, _, rfl, rfl, rfl, .inl ⟨rfl, by simp⟩⟩
  ·simp only [Bd]
   split
   ·exact ⟨_, _, rfl, rfl, rfl, .inl ⟨rfl, by simp⟩⟩
   ·rename_i hf
    have hf1 : t.Ad.length ≠ 40 := fun e0 => hf (by rw [e0]; rfl)
    have hf2 : t.next ≠ 1000000 := fun e0 => hf (by rw [e0]; cases ((t.Ad.length : Int) == 40) <;> rfl)
    obtain ⟨p, e1, e2⟩ := kP t.clock x
    obtain ⟨q, e3, e4⟩ := kP t.clock y
    rw [Jg t (by omega), Pk t (by omega)]
    simp only [e1, e2, e3, e4, Option.bind_some]
    rw [if_pos (by simp; omega)]
    exact ⟨_, _, rfl, rfl, rfl, .inr ⟨rfl, rfl, rfl, by omega, by omega, _, rfl, by rw [wr ⟨by omega, by omega⟩]⟩⟩
theorem wO {v : Ag} (h : Ds v) (hn : v.Ac.next + 1 ≤ 1000000) (hi : v.Aa.length ≠ 40) (A : List Int) (hA : Ce A 1 v.Ac.next) (hs : ∀ x ∈ A, x ∈ v.Ae ∨ x = v.Ac.next) (b s : Bool) :
  Ds (Ag.mk (Ai.mk v.Ac.clock (v.Ac.next + 1) v.Ac.Ad) (v.Aa ++ [Af.mk v.Ac.next b]) A s) := by
 have h40 := h.i40
 have hn1 := h.tab.2.1
 have hT : Em (Ai.mk v.Ac.clock (v.Ac.next + 1) v.Ac.Ad) := by
  refine ⟨h.tab.1, by simp only; omega, h.tab.2.2.1, fun k x hx => ?_⟩
  obtain ⟨a1, a2, a3, a4, a5⟩ := h.tab.2.2.2 k x hx
  exact ⟨by simp only; omega, a2, a3, a4, a5⟩
 refine ⟨hT, by simp; omega, by simp only; rw [show v.Ac.next + 1 - 1 = v.Ac.next by omega]; exact hA, ?_, fun i hi' y hy => ?_, fun x hx => ?_⟩
 ·simp only [List.map_append, List.map_cons, List.map_nil]
  refine Xh (fun x hx => ?_) ?_
  ·rcases List.mem_append.1 hx with hx | hx
   ·have := h.its.mem hx; omega
   ·simp only [List.mem_singleton] at hx; omega
  ·rw [List.pairwise_append]
   refine ⟨Tm h.its, List.pairwise_singleton _ _, fun x hx y hy => ?_⟩
   have := h.its.mem hx
   simp only [List.mem_singleton] at hy
   omega
 ·simp only at hi' hy
  rcases List.mem_append.1 hi' with hi' | hi'
  ·exact h.off i hi' y hy
  ·simp only [List.mem_singleton] at hi'; subst hi'
   obtain ⟨k, hk, rfl⟩ := List.getElem_of_mem hy
   have := (h.tab.at hk).1
   simp only; omega
 ·rcases hs x hx with hx | rfl
  ·rcases h.nam x hx with h1 | ⟨i, hi, e⟩
   ·exact .inl h1
   ·exact .inr ⟨i, List.mem_append_left _ hi, e⟩
  ·exact .inr ⟨Af.mk v.Ac.next b, by simp, rfl⟩
theorem kV {v : Ag} {a : Am} (hr : Ds v) (hT : Fi v.Ac) (hk : a.kind = 1) : ∃ r, RG v a = some r ∧ Adr v a = some r ∧ Xp v a r := by
 obtain ⟨r1, u1, e1, e2, e3, hc⟩ := kR hr.tab a.ttl a.Gw
 have h40 := hr.t
 have hi40 := hr.i40
 have ha := hr.a
 have hn1 := hr.tab.2.1
 have tabf : Xl a → Fi r1.1 := fun hf => by
  obtain ⟨r', e', t'⟩ := pS hT _ _ (hf.1 hk)
  rw [e1] at e'; cases e'; exact t'
 simp only [RG, Adr, e1, e2, e3, Option.bind_some]
 have ref : ∀ c, c ≠ 0 → ∃ r, Jh v a r1 c = some r ∧ Ku v a u1 c = some r ∧ Xp v a r := fun c h0 => ⟨(v, Aq.mk c 0), by simp [Jh, h0], by simp [Ku, h0, eM], Qa hr hT a c 0⟩
 rcases hc with ⟨_, n0⟩ | ⟨hur, c0, cid, cn, cl, l, lid, lt⟩
 ·have : (bif (r1.2.2 == 0) then ((v.Aa.length : Int) == 40) else false) = false := by simp [n0]
  rw [this]
  simp only [Bool.false_eq_true, if_false]
  exact ref _ n0
 ·subst hur
  by_cases hf : v.Aa.length = 40
  ·have : (bif (u1.2.2 == 0) then ((v.Aa.length : Int) == 40) else false) = true := by simp [c0, hf]
   rw [this]
   simp only [if_true]
   exact ref 9 (by decide)
  ·have : (bif (u1.2.2 == 0) then ((v.Aa.length : Int) == 40) else false) = false := by simp [c0]; omega
   rw [this]
   simp only [Bool.false_eq_true, if_false]
   obtain ⟨rt, rid, rc⟩ := u1
   simp only at c0 cid lt tabf
   subst c0 cid
   have hw : IntKind.i64.wrap (v.Ac.next + 1) = v.Ac.next + 1 := wr ⟨by omega, by omega⟩
   have hrn : rt.next = v.Ac.next + 1 := by rw [lt]
   have hA : Ce v.Ae 1 v.Ac.next := hr.acc.mono (by omega)
   obtain ⟨c1, c2, c3, c4⟩ := Ls hA (by omega) v.Ac.next true (Bb a 0) (fun _ => ⟨by omega, by omega⟩)
   have hA2 : (Bn v.Ae v.Ac.next true (Bb a 0)).1.length ≤ 1000000 := by
    have := c3.len (by omega); omega
   have f0 : kD a 0 = some (Bb a 0) := dI a 0
   have hsub : ∀ x ∈ (Bn v.Ae v.Ac.next true (Bb a 0)).1, x ∈ v.Ae ∨ x = v.Ac.next := fun x hx => by
    rcases c4 with ⟨_, e, _⟩ | ⟨_, _, hm⟩
    ·rw [e] at hx; exact .inl hx
    ·simpa using (hm x).1 hx
   have r1 : gT (Dn.mk (Ag.mk (Ai.mk v.Ac.clock (v.Ac.next + 1) v.Ac.Ad) (v.Aa ++ [Af.mk v.Ac.next false]) v.Ae v.Al) a 0) v.Ac.next true = some ((Bn v.Ae v.Ac.next true (Bb a 0)).2, Dn.mk (Ag.mk (Ai.mk v.Ac.clock (v.Ac.next + 1) v.Ac.Ad) (v.Aa ++ [Af.mk v.Ac.next false]) (Bn v.Ae v.Ac.next true (Bb a 0)).1 v.Al) a 1) :=
    Zw (v := Ag.mk (Ai.mk v.Ac.clock (v.Ac.next + 1) v.Ac.Ad) (v.Aa ++ [Af.mk v.Ac.next false]) v.Ae v.Al) (a := a) (k := 0) (by omega) hA (by simp only; omega) v.Ac.next true (fun _ => ⟨by omega, by omega⟩)
   have hlen : (v.Aa ++ [Af.mk v.Ac.next false]).length = v.Aa.length + 1 := by simp
   have hwl : IntKind.i64.wrap (((v.Aa ++ [Af.mk v.Ac.next false]).length : Int) - 1) = (v.Aa.length : Int) := by rw [hlen, wr ⟨by omega, by omega⟩]; omega
   have hT1 : Fi (Ai.mk v.Ac.clock (v.Ac.next + 1) v.Ac.Ad) := xR hT cn
   have cap : (v.Aa.length + ([Af.mk v.Ac.next false] : List Af).length) * 16 ≤ 140737488355328 := by simp; omega
   have ecp := Pe (v := v) (by omega) (by omega) (by omega)
   by_cases s1 : a.stop = 1
   ·have q1 := Ow (Ag.mk (Ai.mk v.Ac.clock (v.Ac.next + 1) v.Ac.Ad) (v.Aa ++ [Af.mk v.Ac.next false]) v.Ae v.Al) (by simp only; omega) (by simp; omega) (by simp only; omega)
    have q2 := Ov (Ag.mk (Ai.mk v.Ac.clock (v.Ac.next + 1) v.Ac.Ad) (v.Aa ++ [Af.mk v.Ac.next false]) v.Ae v.Al) (by simp; omega)
    refine ⟨(Hz (Ag.mk (Ai.mk v.Ac.clock (v.Ac.next + 1) v.Ac.Ad) (v.Aa ++ [Af.mk v.Ac.next false]) v.Ae v.Al), Aq.mk 15 0), ?_, ?_, fun h => absurd rfl h.2.1, ⟨by simp [Hz]; omega, by simp [Hz]; omega, by simp [Hz]; omega⟩, fun _ _ => Tq (wO hr cn hf v.Ae hA (fun x hx => .inl hx) false v.Al) hT1⟩
    ·simp only [Jh, ecp, Option.bind_some, hrn, s1]
     rw [if_neg (by simp), if_pos cap, if_pos (by simp), q1]
     rfl
    ·simp only [Ku, hw, s1]
     rw [if_neg (by simp), if_pos cap, if_pos (by simp), q2]
     rfl
   ·have s1' : ¬ (a.stop == 1) = true := by simpa using s1
    by_cases s2 : a.stop = 2
    ·have s2' : (a.stop == 2) = true := by simpa using s2
     have q1 := Ow (Ag.mk (Ai.mk v.Ac.clock (v.Ac.next + 1) v.Ac.Ad) (v.Aa ++ [Af.mk v.Ac.next false]) (Bn v.Ae v.Ac.next true (Bb a 0)).1 v.Al) (by simp only; omega) (by simp; omega) (by simp only; omega)
     have q2 := Ov (Ag.mk (Ai.mk v.Ac.clock (v.Ac.next + 1) v.Ac.Ad) (v.Aa ++ [Af.mk v.Ac.next false]) (Bn v.Ae v.Ac.next true (Bb a 0)).1 v.Al) (by simp; omega)
     refine ⟨(Hz (Ag.mk (Ai.mk v.Ac.clock (v.Ac.next + 1) v.Ac.Ad) (v.Aa ++ [Af.mk v.Ac.next false]) (Bn v.Ae v.Ac.next true (Bb a 0)).1 v.Al), Aq.mk 15 0), ?_, ?_, fun h => absurd rfl h.2.1, ⟨by simp [Hz]; omega, by simp [Hz]; omega, by simp [Hz]; omega⟩, fun _ _ => Tq (wO hr cn hf _ c3 hsub false v.Al) hT1⟩
     ·simp only [Jh, ecp, Option.bind_some, hrn, f0, c2]
      rw [if_neg (by simp), if_pos cap, if_neg s1', if_pos s2', q1]
      rfl
     ·simp only [Ku, hw, r1, Option.bind_some]
      rw [if_neg (by simp), if_pos cap, if_neg s1', if_pos s2', q2]
      rfl
    ·have s2' : ¬ (a.stop == 2) = true := by simpa using s2
     by_cases h0 : (Bn v.Ae v.Ac.next true (Bb a 0)).2 = 0
     ·have h0' : ¬ ((Bn v.Ae v.Ac.next true (Bb a 0)).2 != 0) = true := by simp [h0]
      have hs := fP (v.Aa ++ [Af.mk v.Ac.next false]) 0 v.Aa.length (by omega) (by omega)
      rw [show ((0 : Nat) : Int) = 0 from rfl] at hs
      have et : List.drop 0 (List.take v.Aa.length (v.Aa ++ [Af.mk v.Ac.next false])) = v.Aa := by simp
      rw [et] at hs
      refine ⟨(Ag.mk rt v.Aa (Bn v.Ae v.Ac.next true (Bb a 0)).1 v.Al, Aq.mk 0 v.Ac.next), ?_, ?_, fun h => absurd rfl h.1, ⟨by simp only [lt]; simp; omega, by simp only; omega, by simp only; omega⟩, fun hu hfit => ⟨?_, tabf hfit, hu⟩⟩
      ·simp only [Jh, ecp, Option.bind_some, hrn, f0, c2, hwl]
       rw [if_neg (by simp), if_pos cap, if_neg s1', if_neg s2', if_neg h0', hs]
       rfl
      ·simp only [Ku, hw, r1, Option.bind_some, hwl]
       rw [if_neg (by simp), if_pos cap, if_neg s1', if_neg s2', if_neg h0', hs]
       rfl
      ·refine ⟨(tabf hfit).1, hi40, by simp only [hrn]; rw [show v.Ac.next + 1 - 1 = v.Ac.next by omega]; exact c3, by simp only [hrn]; exact hr.its.mono (by omega), fun i hi y hy => ?_, fun x hx => ?_⟩
       ·simp only [lt] at hy
        rcases List.mem_append.1 hy with hy | hy
        ·exact hr.off i hi y hy
        ·simp only [List.mem_singleton] at hy; subst hy
         have := hr.its.mem (List.mem_map_of_mem hi)
         omega
       ·simp only [lt]
        rcases hsub x hx with hx | rfl
        ·rcases hr.nam x hx with ⟨y, hy, e⟩ | h1
         ·exact .inl ⟨y, List.mem_append_left _ hy, e⟩
         ·exact .inr h1
        ·exact .inl ⟨l, by simp, lid⟩
     ·have h0' : ((Bn v.Ae v.Ac.next true (Bb a 0)).2 != 0) = true := by simpa using h0
      have il := Bk (show v.Aa.length < (v.Aa ++ [Af.mk v.Ac.next false]).length by omega)
      have gl := List.getElem?_eq_getElem (show v.Aa.length < (v.Aa ++ [Af.mk v.Ac.next false]).length by omega)
      have el : (v.Aa ++ [Af.mk v.Ac.next false])[v.Aa.length]'(by omega) = Af.mk v.Ac.next false := by simp
      rw [el] at il gl
      have es : (v.Aa ++ [Af.mk v.Ac.next false]).set v.Aa.length (Af.mk v.Ac.next true) = v.Aa ++ [Af.mk v.Ac.next true] := by simp [List.set_append]
      refine ⟨(Ag.mk (Ai.mk v.Ac.clock (v.Ac.next + 1) v.Ac.Ad) (v.Aa ++ [Af.mk v.Ac.next true]) (Bn v.Ae v.Ac.next true (Bb a 0)).1 v.Al, Aq.mk (Bn v.Ae v.Ac.next true (Bb a 0)).2 0), ?_, ?_, fun h => ?_, ⟨by simp only; omega, by simp; omega, by simp only; omega⟩, fun hu _ => ⟨wO hr cn hf _ c3 hsub true v.Al, hT1, fun i hi => ?_⟩⟩
      ·simp only [Jh, ecp, Option.bind_some, hrn, f0, c2, hwl]
       rw [if_neg (by simp), if_pos cap, if_neg s1', if_neg s2', if_pos h0', il]
       simp only [Option.bind_some, Int.toNat_natCast, gl, es]
      ·simp only [Ku, hw, r1, Option.bind_some, hwl]
       rw [if_neg (by simp), if_pos cap, if_neg s1', if_neg s2', if_pos h0', il]
       simp only [Option.bind_some, Int.toNat_natCast, gl, es, eM]
      ·exfalso
       simp only at h
       rcases c4 with ⟨e, _, _⟩ | ⟨_, e, _⟩
       ·exact h.2.2 e
       ·rw [e] at h
        unfold Ld at h
        split at h
        ·exact h.2.1 rfl
        ·exact h.1 rfl
      ·simp only at hi
       rcases List.mem_append.1 hi with hi | hi
       ·exact hu i hi
       ·simp only [List.mem_singleton] at hi; subst hi; rfl
theorem nM {t : Ai} {k : Nat} (hk : k < t.Ad.length) (v : Ab) (h : v.id = t.Ad[k].id) : (t.Ad.set k v).map Ab.id = t.Ad.map Ab.id := by
 apply List.ext_getElem
 ·simp
 ·intro j h1 h2
  simp only [List.getElem_map, List.getElem_set]
  split
  ·rename_i e; subst e; exact h
  ·rfl
theorem iM {t : Ai} (h : Em t) (x : Int) : ∃ r s, g74 t x = some r ∧ g75 t x = some s ∧ s.2 = r.2 ∧ (r.2 = 0 → s = r) ∧ r.1.next = t.next ∧ r.1.Ad.map Ab.id = t.Ad.map Ab.id := by
 have hl := h.2.2.1
 obtain ⟨n, h1, h2⟩ := Rj t x (by omega)
 obtain ⟨i, b, h3, h4, h5⟩ := eQ t h x n h2
 simp only [g74, g75, h1, h3, Option.bind_some]
 cases b with
 | false =>
  have := h5 rfl; subst this
  exact ⟨_, _, rfl, rfl, rfl, (fun h => by simp at h), rfl, rfl⟩
 | true =>
  obtain ⟨rfl, hn⟩ := h4 rfl
  rcases h2 with ⟨rfl, _⟩ | ⟨k, hk, rfl, _⟩
  ·omega
  ·rw [if_neg (by simp), if_neg (by simp), Jg t (by omega), Pk t (by omega)]
   simp only [Option.bind_some, Bk hk, Int.toNat_natCast, List.getElem?_eq_getElem hk]
   exact ⟨_, _, rfl, rfl, rfl, fun _ => rfl, rfl, nM hk _ rfl⟩
theorem lE {t : Ai} (h : Em t) (x c : Int) : ∃ r s, g79 t x c = some r ∧ g80 t x c = some s ∧ s.2 = r.2 ∧ (r.2 = 0 → s = r) ∧ r.1.next = t.next ∧ r.1.Ad.map Ab.id = t.Ad.map Ab.id := by
 have hl := h.2.2.1
 obtain ⟨n, h1, h2⟩ := Rj t x (by omega)
 obtain ⟨i, b, h3, h4, h5⟩ := eQ t h x n h2
 simp only [g79, g80, h1, h3, Option.bind_some]
 by_cases hb : c < 1
 ·simp only [decide_eq_true hb, if_true]
  exact ⟨_, _, rfl, rfl, rfl, (fun h => by simp at h), rfl, rfl⟩
 ·simp only [decide_eq_false hb, if_neg (show ¬ (false = true) by decide)]
  cases b with
  | false =>
   have := h5 rfl; subst this
   exact ⟨_, _, rfl, rfl, rfl, (fun h => by simp at h), rfl, rfl⟩
  | true =>
   obtain ⟨rfl, hn⟩ := h4 rfl
   rcases h2 with ⟨rfl, _⟩ | ⟨k, hk, rfl, _⟩
   ·omega
   ·rw [if_neg (by simp), if_neg (by simp), Bk hk]
    simp only [Option.bind_some]
    by_cases hq : t.Ad[k].Bt = true
    ·rw [if_pos hq, if_pos hq]
     exact ⟨_, _, rfl, rfl, rfl, (fun h => by simp at h), rfl, rfl⟩
    ·rw [if_neg hq, if_neg hq, Jg t (by omega), Pk t (by omega)]
     obtain ⟨x, e3, e4⟩ := kP t.clock c
     simp only [Option.bind_some, Bk hk, Int.toNat_natCast, List.getElem?_eq_getElem hk, e3, e4, Bd]
     have : (if x < t.Ad[k].cap then x else t.Ad[k].cap) = (if t.Ad[k].cap < x then t.Ad[k].cap else x) := by
      split <;> split <;> omega
     rw [this]
     exact ⟨_, _, rfl, rfl, rfl, fun _ => rfl, rfl, nM hk _ rfl⟩
theorem cO {v : Ag} (hr : Ds v) (hT : Fi v.Ac) (a : Am) (r u : Ai × Int) (hu2 : u.2 = r.2) (hur : r.2 = 0 → u = r) (hn : r.1.next = v.Ac.next) (hi : r.1.Ad.map Ab.id = v.Ac.Ad.map Ab.id) (hf : Xl a → Fi r.1) :
  ∃ x, Gy v r.2 r.1.clock r.1.next r.1.Ad v.Aa v.Ae v.Al = some x ∧ SS v u.1 u.2 = some x ∧ Xp v a x := by
 simp only [Gy, SS, eM, Option.bind_some, hu2]
 by_cases h0 : r.2 = 0
 ·rw [if_neg (by simp [h0]), if_neg (by simp [h0])]
  rw [hur h0]
  have hl : r.1.Ad.length = v.Ac.Ad.length := by simpa using congrArg List.length hi
  have := hr.t
  have := hr.i40
  have := hr.a
  exact ⟨_, rfl, rfl, fun h => absurd rfl h.1, ⟨by simp only; omega, by simp only; omega, by simp only; omega⟩, fun hu hfit => ⟨Qd hr (hf hfit).1 hn hi _, hf hfit, hu⟩⟩
 ·rw [if_pos (by simpa using h0), if_pos (by simpa using h0)]
  exact ⟨_, rfl, rfl, Qa hr hT a _ _⟩
theorem iX (a : Am) {M : Int} (hM : M ≤ 1000000) (hM0 : 0 ≤ M) : ∀ (r : List Ab) (c : Nat) (L : List Ab) (A : List Int), Ce A 1 M →
  (∀ y ∈ (Ed a r c L A).2.1, y ∈ L) ∧ ∀ y ∈ (Ed a r c L A).2.2.1, y ∈ A ∧ ((∃ z ∈ L, z.id = y) → ∃ z ∈ (Ed a r c L A).2.1, z.id = y) := by
 intro r
 induction r with
 | nil => intro c L A hA; exact ⟨fun y hy => hy, fun y hy => ⟨hy, fun h => h⟩⟩
 | cons x r ih =>
  intro c L A hA
  by_cases hq : x.Bt = true
  ·have hlen : A.length ≤ 1000000 := by have := hA.len hM0; omega
   obtain ⟨c1, c2, c3, c4⟩ := Ls hA (by omega) x.id false (Bb a c) (fun h => by cases h)
   have hL : ∀ y ∈ Fw L x.id (Bn A x.id false (Bb a c)).2, y ∈ L := fun y hy => by
    unfold Fw at hy
    split at hy
    ·exact (List.mem_filter.1 hy).1
    ·exact hy
   have hN : ∀ y ∈ (Bn A x.id false (Bb a c)).1, y ∈ A ∧ ((∃ z ∈ L, z.id = y) → ∃ z ∈ Fw L x.id (Bn A x.id false (Bb a c)).2, z.id = y) := fun y hy => by
    rcases c4 with ⟨e1, e2, _⟩ | ⟨_, e1, hm⟩
    ·rw [e2] at hy
     refine ⟨hy, fun h => ?_⟩
     unfold Fw
     rw [if_neg (by rw [e1]; decide)]
     exact h
    ·have hy' : y ∈ A ∧ y ≠ x.id := by simpa using (hm y).1 hy
     refine ⟨hy'.1, fun ⟨z, hz, e⟩ => ⟨z, ?_, e⟩⟩
     unfold Fw
     split
     ·rw [List.mem_filter]
      exact ⟨hz, by simp; rw [e]; exact hy'.2⟩
     ·exact hz
   by_cases hs : a.stop = 2
   ·have eR : Ed a (x :: r) c L A = (c + 1, Fw L x.id (Bn A x.id false (Bb a c)).2, (Bn A x.id false (Bb a c)).1, true) := by simp only [Ed, hq, if_true]; rw [if_pos hs]
    rw [eR]
    exact ⟨hL, hN⟩
   ·have eR : Ed a (x :: r) c L A = Ed a r (c + 1) (Fw L x.id (Bn A x.id false (Bb a c)).2) (Bn A x.id false (Bb a c)).1 := by simp only [Ed, hq, if_true]; rw [if_neg hs]
    rw [eR]
    obtain ⟨i1, i2⟩ := ih (c + 1) (Fw L x.id (Bn A x.id false (Bb a c)).2) _ c3
    exact ⟨fun y hy => hL y (i1 y hy), fun y hy => ⟨(hN y (i2 y hy).1).1, fun h => (i2 y hy).2 ((hN y (i2 y hy).1).2 h)⟩⟩
  ·have eR : Ed a (x :: r) c L A = Ed a r c L A := by simp only [Ed, hq, if_false]; rfl
   rw [eR]
   exact ih c L A hA
theorem iU (a : Am) {M : Int} (hM : M ≤ 1000000) (hM0 : 0 ≤ M) : ∀ (r : List Af) (c : Nat) (L : List Af) (A : List Int), Ce A 1 M →
  (Eh a r c L A).2.1.Sublist L ∧ ∀ y ∈ (Eh a r c L A).2.2.1, y ∈ A ∧ ((∃ z ∈ L, z.Av = y) → ∃ z ∈ (Eh a r c L A).2.1, z.Av = y) := by
 intro r
 induction r with
 | nil => intro c L A hA; exact ⟨List.Sublist.refl _, fun y hy => ⟨hy, fun h => h⟩⟩
 | cons x r ih =>
  intro c L A hA
  by_cases hq : x.Hl = true
  ·have hlen : A.length ≤ 1000000 := by have := hA.len hM0; omega
   obtain ⟨c1, c2, c3, c4⟩ := Ls hA (by omega) x.Av false (Bb a c) (fun h => by cases h)
   have hL : (Gm L x.Av (Bn A x.Av false (Bb a c)).2).Sublist L := by
    unfold Gm
    split
    ·exact List.filter_sublist
    ·exact List.Sublist.refl _
   have hN : ∀ y ∈ (Bn A x.Av false (Bb a c)).1, y ∈ A ∧ ((∃ z ∈ L, z.Av = y) → ∃ z ∈ Gm L x.Av (Bn A x.Av false (Bb a c)).2, z.Av = y) := fun y hy => by
    rcases c4 with ⟨e1, e2, _⟩ | ⟨_, e1, hm⟩
    ·rw [e2] at hy
     refine ⟨hy, fun h => ?_⟩
     unfold Gm
     rw [if_neg (by rw [e1]; decide)]
     exact h
    ·have hy' : y ∈ A ∧ y ≠ x.Av := by simpa using (hm y).1 hy
     refine ⟨hy'.1, fun ⟨z, hz, e⟩ => ⟨z, ?_, e⟩⟩
     unfold Gm
     split
     ·rw [List.mem_filter]
      exact ⟨hz, by simp; rw [e]; exact hy'.2⟩
     ·exact hz
   by_cases hs : a.stop = 2
   ·have eR : Eh a (x :: r) c L A = (c + 1, Gm L x.Av (Bn A x.Av false (Bb a c)).2, (Bn A x.Av false (Bb a c)).1, true) := by simp only [Eh, hq, if_true]; rw [if_pos hs]
    rw [eR]
    exact ⟨hL, hN⟩
   ·have eR : Eh a (x :: r) c L A = Eh a r (c + 1) (Gm L x.Av (Bn A x.Av false (Bb a c)).2) (Bn A x.Av false (Bb a c)).1 := by simp only [Eh, hq, if_true]; rw [if_neg hs]
    rw [eR]
    obtain ⟨i1, i2⟩ := ih (c + 1) (Gm L x.Av (Bn A x.Av false (Bb a c)).2) _ c3
    exact ⟨i1.trans hL, fun y hy => ⟨(hN y (i2 y hy).1).1, fun h => (i2 y hy).2 ((hN y (i2 y hy).1).2 h)⟩⟩
  ·have eR : Eh a (x :: r) c L A = Eh a r c L A := by simp only [Eh, hq, if_false]; rfl
   rw [eR]
   exact ih c L A hA
noncomputable def Ck (w : Ag) (a : Am) : Nat × List Ab × List Int × Bool := Ed a w.Ac.Ad 0 w.Ac.Ad w.Ae
noncomputable def Ea (w : Ag) (a : Am) : Nat × List Af × List Int × Bool := Eh a w.Aa (Ck w a).1 w.Aa (Ck w a).2.2.1
noncomputable def Ki (w : Ag) (a : Am) : Ai := Ai.mk w.Ac.clock w.Ac.next (Ck w a).2.1
noncomputable def Fh (w : Ag) (a : Am) : Ag × Bool :=
 if (Ck w a).2.2.2 = true then (Hz (Ag.mk (Ki w a) w.Aa (Ck w a).2.2.1 w.Al), true)
 else if (Ea w a).2.2.2 = true then (Hz (Ag.mk (Ki w a) (Ea w a).2.1 (Ea w a).2.2.1 w.Al), true)
 else (Ag.mk (Ki w a) (Ea w a).2.1 (Ea w a).2.2.1 w.Al, false)
theorem Rt {w : Ag} (a : Am) (hr : Ds w) (hT : Fi w.Ac) :
  kA w a = some (Fh w a).1 ∧
  ((Bm (Kv a w.Ac.Ad) (0, w.Ac.clock, w.Ac.next, w.Ac.Ad, w.Aa, w.Ae, w.Al, a.kind, a.id, a.ttl, a.Gw, a.clock, a.Dd, a.stop, 0)).bind fun r182 => (match r182 with
   | .inl (p108, p109, p110, p111, p112, p113, p114, p115, p116, p117, p118, p119, p120, p121) => (pP p111).bind fun r184 =>
    (Bm (Io a r184) (0, p108, p109, p110, p111, p112, p113, p114, p115, p116, p117, p118, p119, p120, p121)).bind fun r344 => (match r344 with
    | .inl (p278, p279, p280, p281, p282, p283, p284, p285, p286, p287, p288, p289, p290, p291) => some ((Ag.mk (Ai.mk p278 p279 p280) p281 p282 p283), (Aq.mk 0 0))
    | .inr q => some q)
   | .inr q => some q)) = some ((Fh w a).1, Aq.mk (if (Fh w a).2 = true then 15 else 0) 0) ∧
  Ds (Fh w a).1 ∧ Fi (Fh w a).1.Ac ∧ ((∀ i ∈ w.Aa, i.Hl = true) → ∀ i ∈ (Fh w a).1.Aa, i.Hl = true) ∧ ((Fh w a).2 = true → (Fh w a).1.Al = true) ∧ ((Fh w a).2 = false → (Fh w a).1.Al = w.Al) := by
 have h40 := hr.t
 have hi40 := hr.i40
 have hn1 := hr.tab.2.1
 obtain ⟨l1, l2, l3, l4, l5, l6⟩ := iW w a hr.tab (by omega) w.Ac.Ad.length 0 0 w.Ac.Ad w.Ae (by omega) (Nat.le_refl _) hT (fun x hx => by simpa using hx) hr.acc (fun _ => rfl)
 simp only [List.drop_zero] at l1 l2 l3 l4 l5 l6
 change Bm (Kr w a w) (0, 0, w.Ac.clock, w.Ac.next, w.Ac.Ad, w.Ae) = some (if (Ck w a).2.2.2 = true then .inr (Hz (Ag.mk (Ki w a) w.Aa (Ck w a).2.2.1 w.Al)) else .inl (((Ck w a).1 : Int), w.Ac.clock, w.Ac.next, (Ck w a).2.1, (Ck w a).2.2.1)) at l1
 change Bm (Kv a w.Ac.Ad) (0, w.Ac.clock, w.Ac.next, w.Ac.Ad, w.Aa, w.Ae, w.Al, a.kind, a.id, a.ttl, a.Gw, a.clock, a.Dd, a.stop, 0) = some (if (Ck w a).2.2.2 = true then .inr (Hz (Ag.mk (Ki w a) w.Aa (Ck w a).2.2.1 w.Al), Aq.mk 15 0) else .inl (w.Ac.clock, w.Ac.next, (Ck w a).2.1, w.Aa, (Ck w a).2.2.1, w.Al, a.kind, a.id, a.ttl, a.Gw, a.clock, a.Dd, a.stop, ((Ck w a).1 : Int))) at l2
 change Fi (Ki w a) at l3
 change Ce (Ck w a).2.2.1 1 (w.Ac.next - 1) at l4
 change (Ck w a).1 ≤ w.Ac.Ad.length at l5
 change (Ck w a).2.2.2 = false → a.stop = 2 → (Ck w a).1 = 0 at l6
 obtain ⟨p1, p2⟩ := iX a (M := w.Ac.next - 1) (by omega) (by omega) w.Ac.Ad 0 w.Ac.Ad w.Ae hr.acc
 change ∀ y ∈ (Ck w a).2.1, y ∈ w.Ac.Ad at p1
 change ∀ y ∈ (Ck w a).2.2.1, y ∈ w.Ae ∧ ((∃ z ∈ w.Ac.Ad, z.id = y) → ∃ z ∈ (Ck w a).2.1, z.id = y) at p2
 have rA : ∀ s, Ds (Ag.mk (Ki w a) w.Aa (Ck w a).2.2.1 s) := fun s => ⟨l3.1, hr.i40, l4, hr.its, fun i hi y hy => hr.off i hi y (p1 y hy), fun x hx => by
  rcases hr.nam x (p2 x hx).1 with h1 | h1
  ·exact .inl ((p2 x hx).2 h1)
  ·exact .inr h1⟩
 by_cases hb : (Ck w a).2.2.2 = true
 ·have e : Fh w a = (Hz (Ag.mk (Ki w a) w.Aa (Ck w a).2.2.1 w.Al), true) := by unfold Fh; rw [if_pos hb]
  rw [if_pos hb] at l1 l2
  rw [e]
  refine ⟨?_, ?_, Qc (rA _), l3, fun _ => (Tq (rA w.Al) l3).und, fun _ => rfl, fun h => by cases h⟩
  ·simp only [kA, Pe (v := w) (by omega) (by omega) (by have := hr.a; omega), Option.bind_some, l1]
  ·simp only [l2, Option.bind_some]
   rfl
 ·rw [if_neg hb] at l1 l2
  have hb' : (Ck w a).2.2.2 = false := by simpa using hb
  obtain ⟨m1, m2, m3⟩ := iT w a (Ki w a) l3.1 (by omega) rfl w.Aa.length 0 (Ck w a).1 w.Aa (Ck w a).2.2.1 (by omega) (by omega) (by omega) l4 (l6 hb')
  simp only [List.drop_zero] at m1 m2 m3
  change Bm (Im w a w (Ki w a).clock (Ki w a).next (Ki w a).Ad) (((Ck w a).1 : Int), 0, w.Aa, (Ck w a).2.2.1) = some (if (Ea w a).2.2.2 = true then .inr (Hz (Ag.mk (Ki w a) (Ea w a).2.1 (Ea w a).2.2.1 w.Al)) else .inl ((Ea w a).2.1, (Ea w a).2.2.1)) at m1
  change Bm (Io a w.Aa) (0, (Ki w a).clock, (Ki w a).next, (Ki w a).Ad, w.Aa, (Ck w a).2.2.1, w.Al, a.kind, a.id, a.ttl, a.Gw, a.clock, a.Dd, a.stop, ((Ck w a).1 : Int)) = some (if (Ea w a).2.2.2 = true then .inr (Hz (Ag.mk (Ki w a) (Ea w a).2.1 (Ea w a).2.2.1 w.Al), Aq.mk 15 0) else .inl ((Ki w a).clock, (Ki w a).next, (Ki w a).Ad, (Ea w a).2.1, (Ea w a).2.2.1, w.Al, a.kind, a.id, a.ttl, a.Gw, a.clock, a.Dd, a.stop, ((Ea w a).1 : Int))) at m2
  change Ce (Ea w a).2.2.1 1 (w.Ac.next - 1) at m3
  obtain ⟨q1, q2⟩ := iU a (M := w.Ac.next - 1) (by omega) (by omega) w.Aa (Ck w a).1 w.Aa (Ck w a).2.2.1 l4
  change (Ea w a).2.1.Sublist w.Aa at q1
  change ∀ y ∈ (Ea w a).2.2.1, y ∈ (Ck w a).2.2.1 ∧ ((∃ z ∈ w.Aa, z.Av = y) → ∃ z ∈ (Ea w a).2.1, z.Av = y) at q2
  have rB : ∀ s, Ds (Ag.mk (Ki w a) (Ea w a).2.1 (Ea w a).2.2.1 s) := fun s => ⟨l3.1, Nat.le_trans q1.length_le hr.i40, m3, Xh (fun x hx => hr.its.mem ((q1.map _).mem hx)) ((Tm hr.its).sublist (q1.map _)), fun i hi y hy => hr.off i (q1.mem hi) y (p1 y hy), fun x hx => by
   have h1 := q2 x hx
   have h2 := p2 x h1.1
   rcases hr.nam x h2.1 with h3 | h3
   ·exact .inl (h2.2 h3)
   ·exact .inr (h1.2 h3)⟩
  have ec : pP w.Aa = some w.Aa := nG _ (by omega)
  by_cases hd : (Ea w a).2.2.2 = true
  ·have e : Fh w a = (Hz (Ag.mk (Ki w a) (Ea w a).2.1 (Ea w a).2.2.1 w.Al), true) := by unfold Fh; rw [if_neg hb, if_pos hd]
   rw [if_pos hd] at m1 m2
   rw [e]
   refine ⟨?_, ?_, Qc (rB _), l3, fun _ => (Tq (rB w.Al) l3).und, fun _ => rfl, fun h => by cases h⟩
   ·simp only [kA, Pe (v := w) (by omega) (by omega) (by have := hr.a; omega), Option.bind_some, l1]
    rw [show Bm (Im w a w w.Ac.clock w.Ac.next (Ck w a).2.1) (((Ck w a).1 : Int), 0, w.Aa, (Ck w a).2.2.1) = _ from m1]
    rfl
   ·simp only [l2, Option.bind_some, ec]
    rw [show Bm (Io a w.Aa) (0, w.Ac.clock, w.Ac.next, (Ck w a).2.1, w.Aa, (Ck w a).2.2.1, w.Al, a.kind, a.id, a.ttl, a.Gw, a.clock, a.Dd, a.stop, ((Ck w a).1 : Int)) = _ from m2]
    rfl
  ·have e : Fh w a = (Ag.mk (Ki w a) (Ea w a).2.1 (Ea w a).2.2.1 w.Al, false) := by unfold Fh; rw [if_neg hb, if_neg hd]
   rw [if_neg hd] at m1 m2
   rw [e]
   refine ⟨?_, ?_, rB _, l3, fun hu i hi => hu i (q1.mem hi), (fun h => by cases h), fun _ => rfl⟩
   ·simp only [kA, Pe (v := w) (by omega) (by omega) (by have := hr.a; omega), Option.bind_some, l1]
    rw [show Bm (Im w a w w.Ac.clock w.Ac.next (Ck w a).2.1) (((Ck w a).1 : Int), 0, w.Aa, (Ck w a).2.2.1) = _ from m1]
    rfl
   ·simp only [l2, Option.bind_some, ec]
    rw [show Bm (Io a w.Aa) (0, w.Ac.clock, w.Ac.next, (Ck w a).2.1, w.Aa, (Ck w a).2.2.1, w.Al, a.kind, a.id, a.ttl, a.Gw, a.clock, a.Dd, a.stop, ((Ck w a).1 : Int)) = _ from m2]
    rfl
def Vv (t : Ai) (c : Int) : Ai := Ai.mk (Cx t c) t.next (t.Ad.map (Gv (Cx t c)))
theorem aH (t : Ai) (c : Int) : (Vv t c).Ad.map Ab.id = t.Ad.map Ab.id := by
 simp only [Vv, List.map_map]
 apply List.map_congr_left
 intro x _
 simp only [Function.comp, Gv]
 split <;> rfl
def Nh (v : Ag) (a : Am) : Ag := Ag.mk (Vv v.Ac a.clock) v.Aa v.Ae v.Al
noncomputable def cN (v : Ag) (a : Am) : Ag × Aq :=
 if a.stop = 1 then (Hz (Nh v a), Aq.mk 15 0) else ((Fh (Nh v a) a).1, Aq.mk (if (Fh (Nh v a) a).2 = true then 15 else 0) 0)
theorem qQ {v : Ag} (a : Am) (hr : Ds v) (hT : Fi v.Ac) (hc : a.clock ≤ 9223372036854775807) : Ads v a = some (cN v a) := by
 have h40 := hr.t
 have hi40 := hr.i40
 obtain ⟨s, e1, _⟩ := g82_eq v.Ac a.clock (by omega)
 have hT2 : Fi (Vv v.Ac a.clock) := aI hT a.clock hc
 have hr2 : Ds (Nh v a) := Qd hr hT2.1 rfl (aH _ _) _
 have hl2 : (Vv v.Ac a.clock).Ad.length ≤ 40 := hT2.1.2.2.1
 simp only [Ads, e1, Option.bind_some]
 unfold cN
 by_cases h1 : a.stop = 1
 ·rw [if_pos (by simp [h1]), if_pos h1]
  rw [show gS (Ag.mk (Ai.mk (Cx v.Ac a.clock) v.Ac.next (v.Ac.Ad.map (Gv (Cx v.Ac a.clock)))) v.Aa v.Ae v.Al) = _ from Ov (Nh v a) (by simp only [Nh]; omega)]
  rfl
 ·rw [if_neg (by simpa using h1), if_neg h1]
  rw [show g66 (v.Ac.Ad.map (Gv (Cx v.Ac a.clock))) = _ from wM (Vv v.Ac a.clock).Ad (by omega)]
  exact (Rt a hr2 hT2).2.1
theorem qR {v : Ag} (a : Am) (hr : Ds v) (hT : Fi v.Ac) (hc : a.clock ≤ 9223372036854775807) : Xp v a (cN v a) := by
 have hT2 : Fi (Vv v.Ac a.clock) := aI hT a.clock hc
 have hr2 : Ds (Nh v a) := Qd hr hT2.1 rfl (aH _ _) _
 have lens : ∀ w : Ag, Ds w → w.Ac.Ad.length ≤ 1048576 ∧ w.Aa.length ≤ 1048576 ∧ w.Ae.length ≤ 1048576 := fun w h => ⟨by have := h.t; omega, by have := h.i40; omega, by have := h.a; omega⟩
 unfold cN
 split
 ·exact ⟨fun h => absurd rfl h.2.1, lens _ (Qc hr2), fun _ _ => Tq hr2 hT2⟩
 ·obtain ⟨_, _, s3, s4, s5, _⟩ := Rt a hr2 hT2
  refine ⟨fun h => ?_, lens _ s3, fun hu _ => ⟨s3, s4, s5 hu⟩⟩
  exfalso
  simp only at h
  split at h
  ·exact h.2.1 rfl
  ·exact h.1 rfl
theorem TB (k : Int) : nI k 1 6 = some (decide (1 ≤ k ∧ k ≤ 6)) ∧ wL k 1 6 = some (decide (1 ≤ k ∧ k ≤ 6)) := by
 simp only [nI, wL]
 by_cases h1 : 1 ≤ k <;> by_cases h2 : k ≤ 6 <;> simp [h1, h2]
theorem lP {v : Ag} (hr : Ds v) (hT : Fi v.Ac) (a : Am) (hc' : a.clock ≤ 9223372036854775807 ∨ a.kind ≠ 4) : ∃ r, vX v a = some r ∧ g459 v a = some r ∧ Xp v a r := by
 have h40 := hr.t
 have hi40 := hr.i40
 have ha := hr.a
 have lens : v.Ac.Ad.length ≤ 1048576 ∧ v.Aa.length ≤ 1048576 ∧ v.Ae.length ≤ 1048576 := ⟨by omega, by omega, by omega⟩
 simp only [vX, g459, own_eq lens.1 lens.2.1 lens.2.2, Pe lens.1 lens.2.1 lens.2.2, TB, eM, Option.bind_some]
 by_cases hk : 1 ≤ a.kind ∧ a.kind ≤ 6
 ·rw [decide_eq_true hk]
  simp only [Bool.not_true, Bool.false_eq_true, if_false]
  by_cases hs : v.Al = true ∧ a.kind ≠ 6
  ·have e : (bif v.Al then (a.kind != 6) else false) = true := by simp [hs.1, hs.2]
   rw [e]
   exact ⟨_, rfl, rfl, Qa hr hT a _ _⟩
  ·have e : (bif v.Al then (a.kind != 6) else false) = false := by
    cases hv : v.Al
    ·rfl
    ·simp only [cond_true]
     rw [bne_eq_false_iff_eq]
     exact Classical.byContradiction fun h => hs ⟨hv, h⟩
   rw [e]
   simp only [Bool.false_eq_true, if_false]
   have fin : ∀ s : Bool, Xp v a (Ag.mk v.Ac v.Aa v.Ae s, Aq.mk 0 0) := fun s => ⟨fun h => absurd rfl h.1, lens, fun hu _ => ⟨⟨hr.tab, hr.i40, hr.acc, hr.its, hr.off, hr.nam⟩, hT, hu⟩⟩
   by_cases k1 : a.kind = 1
   ·obtain ⟨r, x1, x2, x3⟩ := kV (a := a) hr hT k1
    simp only [show (a.kind == 1) = true by simp [k1], if_true]
    rw [x1, x2]
    exact ⟨_, rfl, rfl, x3⟩
   ·simp only [show (a.kind == 1) = false by simpa using k1, Bool.false_eq_true, if_false]
    by_cases k2 : a.kind = 2
    ·obtain ⟨r, u, x1, x2, x5, x6, x3, x4⟩ := lE hr.tab a.id a.ttl
     simp only [show (a.kind == 2) = true by simp [k2], if_true]
     rw [x1, x2]
     obtain ⟨x, y1, y2, y3⟩ := cO hr hT a r u x5 x6 x3 x4 (fun hf => by
      obtain ⟨r', e', t'⟩ := lF hT a.id a.ttl (hf.2.1 k2)
      rw [x1] at e'; cases e'; exact t')
     simp only [Option.bind_some, y1, y2]
     exact ⟨_, rfl, rfl, y3⟩
    ·simp only [show (a.kind == 2) = false by simpa using k2, Bool.false_eq_true, if_false]
     by_cases k3 : a.kind = 3
     ·obtain ⟨r, u, x1, x2, x5, x6, x3, x4⟩ := iM hr.tab a.id
      simp only [show (a.kind == 3) = true by simp [k3], if_true]
      rw [x1, x2]
      obtain ⟨x, y1, y2, y3⟩ := cO hr hT a r u x5 x6 x3 x4 (fun hf => by
       obtain ⟨r', e', t'⟩ := lH hT a.id
       rw [x1] at e'; cases e'; exact t')
      simp only [Option.bind_some, y1, y2]
      exact ⟨_, rfl, rfl, y3⟩
     ·simp only [show (a.kind == 3) = false by simpa using k3, Bool.false_eq_true, if_false]
      by_cases k4 : a.kind = 4
      ·have hc : a.clock ≤ 9223372036854775807 := hc'.resolve_right (fun h => h k4)
       have hv : v.Al = false := by
        cases hv : v.Al
        ·rfl
        ·exact absurd ⟨hv, by omega⟩ hs
       simp only [show (a.kind == 4) = true by simp [k4], if_true]
       rw [qQ a hr hT hc]
       obtain ⟨s, e1, _⟩ := g81_eq v.Ac a.clock hr.tab (by omega)
       have hT2 : Fi (Vv v.Ac a.clock) := aI hT a.clock hc
       have hr2 : Ds (Nh v a) := Qd hr hT2.1 rfl (aH _ _) _
       refine ⟨cN v a, ?_, rfl, qR a hr hT hc⟩
       simp only [e1, Option.bind_some]
       unfold cN
       by_cases h1 : a.stop = 1
       ·rw [if_pos (by simp [h1]), if_pos h1]
        rw [show dN (Ag.mk (Ai.mk (Cx v.Ac a.clock) v.Ac.next (v.Ac.Ad.map (Gv (Cx v.Ac a.clock)))) v.Aa v.Ae v.Al) = _ from Ow (Nh v a) (by have := hr2.t; omega) (by have := hr2.i40; omega) (by have := hr2.a; omega)]
        rfl
       ·rw [if_neg (by simpa using h1), if_neg h1]
        obtain ⟨s1, _, s3, s4, s5, s6, s7⟩ := Rt a hr2 hT2
        rw [show kA (Ag.mk (Ai.mk (Cx v.Ac a.clock) v.Ac.next (v.Ac.Ad.map (Gv (Cx v.Ac a.clock)))) v.Aa v.Ae v.Al) a = _ from s1]
        simp only [Option.bind_some, hv, Bool.not_false]
        cases hb : (Fh (Nh v a) a).2
        ·rw [s7 hb, show (Nh v a).Al = false from hv]
         simp only [cond_false, Bool.false_eq_true, if_false, Gy]
         rw [if_neg (by simp)]
         have e2 : (Fh (Nh v a) a).1.Al = false := (s7 hb).trans hv
         rw [← e2]
        ·rw [s6 hb]
         simp
      ·simp only [show (a.kind == 4) = false by simpa using k4, Bool.false_eq_true, if_false]
       by_cases k5 : a.kind = 5
       ·rw [if_pos (by simp [k5])]
        simp only [Gy]
        rw [if_neg (by simp)]
        have : (a.kind == 5) = true := by simp [k5]
        rw [this]
        exact ⟨_, rfl, rfl, fin true⟩
       ·have k6 : a.kind = 6 := by omega
        rw [if_neg (by simpa using k5), if_pos (by simp [k6])]
        simp only [Gy]
        rw [if_neg (by simp)]
        have : (a.kind == 5) = false := by simpa using k5
        rw [this]
        exact ⟨_, rfl, rfl, fin false⟩
 ·rw [decide_eq_false hk]
  simp only [Bool.not_false, if_true]
  exact ⟨_, rfl, rfl, Qa hr hT a _ _⟩
end Go.Ev
end
section
set_option maxHeartbeats 1000000
namespace Go.Ev
abbrev Xn (l : List Int) : Prop := l.length ≤ 3 ∧ ∀ f ∈ l, 0 ≤ f ∧ f ≤ 2
def Ij (a : Am) : Prop := Xl a ∧ Xn a.Dd ∧ 0 ≤ a.stop ∧ a.stop ≤ 2
theorem Ur : Xn [] := ⟨by simp, by simp⟩
theorem bT {s : Bj} {B : Int} (h : Hb s B) (hB : B ≤ 1099511627776) : ∃ l s', wD s = some (l, s') ∧ Xn l ∧ Hb s' (B + 12) := by
 obtain ⟨v, s1, e1, e2, e3⟩ := Gk (n := 4) h (by omega) (by omega)
 have hv := e2.2.2 (by omega)
 have hv0 := e2.1
 obtain ⟨q, q1, q2⟩ := Tb (step := Wt) (fun s => ∃ k : Nat, s.2.1 = (k : Int) ∧ k + s.1.length ≤ 3 ∧ (∀ f ∈ s.1, 0 ≤ f ∧ f ≤ 2) ∧ Hb (Bj.mk s.2.2.1 s.2.2.2.1 s.2.2.2.2) (B + 12 - 3 * (k : Int))) (fun s => s.2.1.toNat)
  (fun r => Xn r.1 ∧ Hb (Bj.mk r.2.1 r.2.2.1 r.2.2.2) (B + 12)) ([], v, s1.code_, s1.at_, s1.Ew) ⟨v.toNat, by simp only; omega, by simp; omega, by simp, e3.mono (by omega)⟩ (by
  rintro ⟨L, _, cd, at_, sd⟩ ⟨k, rfl, hk, hf, hs⟩
  simp only at hk hs hf
  simp only [Wt]
  by_cases h0 : 0 < k
  ·rw [if_pos (decide_eq_true (by omega))]
   obtain ⟨x, s6, x1, x2, x3⟩ := Gk (n := 5) hs (by omega) (by omega)
   simp only [x1, Option.bind_some]
   rw [if_pos (by simp; omega)]
   have hw : IntKind.i64.wrap ((k : Int) - 1) = ((k - 1 : Nat) : Int) := by rw [wr ⟨by omega, by omega⟩]; omega
   rw [hw]
   refine .inl ⟨_, rfl, ⟨k - 1, rfl, by simp; omega, fun f hf' => ?_, x3.mono (by omega)⟩, by simp only; omega⟩
   simp only at hf'
   rcases List.mem_append.1 hf' with hf' | hf'
   ·exact hf f hf'
   ·simp only [List.mem_singleton] at hf'; subst hf'
    have hx0 := x2.1
    rw [Int.tmod_eq_emod_of_nonneg hx0]
    omega
  ·rw [if_neg (by simp; omega)]
   exact .inr ⟨_, rfl, ⟨by simp only; omega, hf⟩, hs.mono (by omega)⟩)
 simp only [wD, e1, q1, Option.bind_some]
 exact ⟨_, _, rfl, q2⟩
theorem Ny {k i t m c : Int} {f : List Int} {s : Bj} {B : Int} (hs : Hb s B) (hB : B ≤ 1099511627776)
  (h1 : k = 1 → 1 ≤ t ∧ t ≤ m ∧ m ≤ 9223372036854775807) (h2 : k = 2 → 1 ≤ t ∧ t ≤ 9223372036854775807) (h4 : k = 4 → c ≤ 9223372036854775807) (hf : Xn f) :
  ∃ r, Ks k i t m c f s.code_ s.at_ s.Ew = some r ∧ Ij r.1 ∧ Hb r.2 (B + 6) := by
 obtain ⟨x, s6, x1, x2, x3⟩ := Gk (n := 7) (s := Bj.mk s.code_ s.at_ s.Ew) (B := B) hs (by omega) (by omega)
 simp only [Ks, AcY, x1, Option.bind_some, Wp]
 split
 ·obtain ⟨y, s7, y1, y2, y3⟩ := Gk (n := 2) x3 (by omega) (by omega)
  simp only [y1, Option.bind_some]
  have hy0 := y2.1
  have hy2 := y2.2.2 (by omega)
  rw [wr (n := 1 + y) ⟨by omega, by omega⟩]
  exact ⟨_, rfl, ⟨⟨h1, h2, h4, by have := hf.1; simp only; omega⟩, hf, by simp only; omega, by simp only; omega⟩, y3.mono (by omega)⟩
 ·exact ⟨_, rfl, ⟨⟨h1, h2, h4, by have := hf.1; simp only; omega⟩, hf, by simp, by simp⟩, x3.mono (by omega)⟩
theorem AG {s : Bj} {B : Int} (h : Hb s B) (hB : B ≤ 109951162777) : ∃ r, RH s = some r ∧ Ij r.1 ∧ Hb r.2 (B + 60) := by
 obtain ⟨v1, s1, a1, a2, a3⟩ := Gk (n := 9) h (by omega) (by omega)
 obtain ⟨f1, s2, b1, b2, b3⟩ := bT a3 (by omega)
 obtain ⟨v3, s3, c1, c2, c3⟩ := Gk (n := 9) b3 (by omega) (by omega)
 obtain ⟨v4, s4, d1, d2, d3⟩ := Gk (n := 10) c3 (by omega) (by omega)
 have hv1 := a2.2.2 (by omega)
 have hv3 := c2.2.2 (by omega)
 have m : ∀ {r : Am × Bj} {C : Int}, Hb r.2 C → C ≤ B + 60 → Hb r.2 (B + 60) := fun hs hc => hs.mono hc
 have j2 : ∀ b : Bool, ∃ r, Po (v1, s1) (f1, s2) (v3, s3) (v4, s4) b = some r ∧ Ij r.1 ∧ Hb r.2 (B + 60) := by
  intro b
  simp only [Po]
  split
  ·obtain ⟨x, s5, x1, x2, x3⟩ := Gk (n := 60) d3 (by omega) (by omega)
   obtain ⟨g, s6, y1, y2, y3⟩ := bT x3 (by omega)
   have hx := x2.2.2 (by omega)
   simp only [x1, y1, Option.bind_some]
   obtain ⟨r, r1, r2, r3⟩ := Ny (k := 4) (i := 0) (t := 0) (m := 0) (c := x) (f := g) y3 (by omega) (fun h => by cases h) (fun h => by cases h) (fun _ => by omega) y2
   exact ⟨r, r1, r2, r3.mono (by omega)⟩
  ·split
   ·obtain ⟨x, s5, x1, x2, x3⟩ := Gk (n := 4) d3 (by omega) (by omega)
    have hx := x2.2.2 (by omega)
    have hx0 := x2.1
    obtain ⟨k, rfl⟩ : ∃ k : Nat, x = k := ⟨x.toNat, by omega⟩
    have hk : k < ([5, 6, 6, 6] : List Int).length := by simp; omega
    simp only [x1, Option.bind_some, Int.toNat_natCast]
    rw [Bk hk, List.getElem?_eq_getElem hk]
    simp only [Option.bind_some]
    have hval : ([5, 6, 6, 6] : List Int)[k] = 5 ∨ ([5, 6, 6, 6] : List Int)[k] = 6 := by
     have : ∀ y ∈ ([5, 6, 6, 6] : List Int), y = 5 ∨ y = 6 := by simp
     exact this _ (List.getElem_mem hk)
    obtain ⟨r, r1, r2, r3⟩ := Ny (k := ([5, 6, 6, 6] : List Int)[k]) (i := 0) (t := 0) (m := 0) (c := 0) (f := []) x3 (by omega) (fun h => by omega) (fun h => by omega) (fun h => by omega) Ur
    exact ⟨r, r1, r2, r3.mono (by omega)⟩
   ·have w1' : IntKind.i64.wrap (1 + v1) = 1 + v1 := wr ⟨by omega, by omega⟩
    have w2' : IntKind.i64.wrap (1 + v1 + v3) = 1 + v1 + v3 := wr ⟨by omega, by omega⟩
    simp only [w1', w2']
    obtain ⟨r, r1, r2, r3⟩ := Ny (k := 1) (i := 0) (t := 1 + v1) (m := 1 + v1 + v3) (c := 0) (f := f1) d3 (by omega) (fun _ => by omega) (fun h => by cases h) (fun h => by cases h) b2
    exact ⟨r, r1, r2, r3.mono (by omega)⟩
 simp only [RH, a1, b1, c1, d1, Option.bind_some]
 split
 ·obtain ⟨x, s5, x1, x2, x3⟩ := Gk (n := 9) d3 (by omega) (by omega)
  obtain ⟨y, s6, y1, y2, y3⟩ := Gk (n := 12) x3 (by omega) (by omega)
  have hx := x2.2.2 (by omega)
  have hy := y2.2.2 (by omega)
  have w1' : IntKind.i64.wrap (1 + y) = 1 + y := wr ⟨by omega, by omega⟩
  simp only [x1, y1, w1', Option.bind_some]
  obtain ⟨r, r1, r2, r3⟩ := Ny (k := 2) (i := IntKind.i64.wrap (1 + x)) (t := 1 + y) (m := 0) (c := 0) (f := []) y3 (by omega) (fun h => by cases h) (fun _ => by omega) (fun h => by cases h) Ur
  exact ⟨r, r1, r2, r3.mono (by omega)⟩
 ·split
  ·obtain ⟨x, s5, x1, x2, x3⟩ := Gk (n := 9) d3 (by omega) (by omega)
   simp only [x1, Option.bind_some]
   obtain ⟨r, r1, r2, r3⟩ := Ny (k := 3) (i := IntKind.i64.wrap (1 + x)) (t := 0) (m := 0) (c := 0) (f := []) x3 (by omega) (fun h => by cases h) (fun h => by cases h) (fun h => by cases h) Ur
   exact ⟨r, r1, r2, r3.mono (by omega)⟩
  ·split
   ·exact j2 _
   ·split
    ·exact j2 _
    ·exact j2 _
theorem rL (code : List UInt8) (hc : code.length ≤ 1048576) : ∃ l, g51 code = some l ∧ l.length ≤ 120 ∧ ∀ a ∈ l, Ij a := by
 obtain ⟨s0, s1, s2⟩ := g83_ok code hc
 have hw0 : IntKind.i64.wrap (((s0.code_.length : Int)).tdiv 12) = ((s0.code_.length / 12 : Nat) : Int) := sdv 12 (by have := s2.1; omega)
 obtain ⟨r1, p1, p2⟩ : ∃ r1, QY s0 16 = some r1 ∧ (0 ≤ r1 ∧ r1 ≤ 16) := by
  simp only [QY, hw0, Bd]
  have hw1 : IntKind.i64.wrap (1 + ((s0.code_.length / 12 : Nat) : Int)) = 1 + ((s0.code_.length / 12 : Nat) : Int) := wr ⟨by omega, by have := s2.1; omega⟩
  rw [hw1]
  exact ⟨_, rfl, by split <;> omega⟩
 have hw2 : IntKind.i64.wrap (r1 + 3) = r1 + 3 := wr ⟨by omega, by omega⟩
 obtain ⟨v, s3, e1, e2, e3⟩ := Gk (n := r1 + 3) s2 (by omega) (by omega)
 have hv : v ≤ 18 := by have := e2.2.2 (by omega); omega
 have hv0 := e2.1
 have open0 : Ij (Am.mk 6 0 0 0 0 ([] : List Int) 0) := by simp [Ij, Xl, Xn]
 obtain ⟨q, q1, q2⟩ := Tb (step := Wk) (fun s => ∃ k : Nat, s.2.1 = (k : Int) ∧ k ≤ 18 ∧ s.1.length + 2 * k ≤ 40 ∧ (∀ a ∈ s.1, Ij a) ∧ Hb (Bj.mk s.2.2.1 s.2.2.2.1 s.2.2.2.2) (4000 - 60 * (k : Int))) (fun s => s.2.1.toNat)
  (fun r => ∀ a ∈ r.1, Ij a) ([], v, s3.code_, s3.at_, s3.Ew) ⟨v.toNat, by simp only; omega, by omega, by simp; omega, by simp, e3.mono (by omega)⟩ (by
  rintro ⟨L, _, cd, at_, sd⟩ ⟨k, rfl, hk18, hk, hL, hs⟩
  simp only at hk hs hL
  simp only [Wk]
  by_cases h0 : 0 < k
  ·rw [if_pos (decide_eq_true (by omega))]
   obtain ⟨x, x1, x2, x3⟩ := AG hs (by omega)
   simp only [x1, Option.bind_some]
   have hw : IntKind.i64.wrap ((k : Int) - 1) = ((k - 1 : Nat) : Int) := by rw [wr ⟨by omega, by omega⟩]; omega
   rw [if_pos (by simp; omega)]
   simp only [Wj, hw]
   have hL1 : ∀ a ∈ L ++ [x.1], Ij a := fun a ha => by
    rcases List.mem_append.1 ha with ha | ha
    ·exact hL a ha
    ·simp only [List.mem_singleton] at ha; subst ha; exact x2
   split
   ·rw [if_pos (by simp; omega)]
    refine .inl ⟨_, rfl, ⟨k - 1, rfl, by omega, by simp; omega, fun a ha => ?_, x3.mono (by omega)⟩, by simp only; omega⟩
    rcases List.mem_append.1 ha with ha | ha
    ·exact hL1 a ha
    ·simp only [List.mem_singleton] at ha; subst ha; exact open0
   ·exact .inl ⟨_, rfl, ⟨k - 1, rfl, by omega, by simp; omega, hL1, x3.mono (by omega)⟩, by simp only; omega⟩
  ·rw [if_neg (by simp; omega)]
   exact .inr ⟨_, rfl, hL⟩)
 obtain ⟨L, cd, at_, sd⟩ := q
 simp only at q2
 simp only [g51, s1, AcW, p1, hw2, e1, q1, Option.bind_some]
 have hmin : ∃ m : Nat, (if (120 : Int) < (L.length : Int) then (120 : Int) else (L.length : Int)) = (m : Int) ∧ m ≤ L.length ∧ m ≤ 120 := by
  split
  ·exact ⟨120, rfl, by omega, by omega⟩
  ·exact ⟨L.length, rfl, by omega, by omega⟩
 obtain ⟨m, m1, m2, m3⟩ := hmin
 have hs := fP L 0 m (by omega) m2
 rw [show ((0 : Nat) : Int) = 0 from rfl] at hs
 rw [m1, hs]
 simp only [Option.bind_some]
 exact ⟨_, rfl, by simp; omega, fun a ha => q2 a (List.mem_of_mem_take (List.mem_of_mem_drop ha))⟩
theorem kU {a : Am} (h : Xn a.Dd ∧ 0 ≤ a.stop ∧ a.stop ≤ 2) : QS a = some true := by
 obtain ⟨⟨h1, h2⟩, h3, h4⟩ := h
 have e : ∀ x, 0 ≤ x ∧ x ≤ 2 → nI x 0 2 = some true := fun x hx => by simp [nI, hx.1, hx.2]
 have h := Di (step := Pi a) (fun k => (k : Int)) a.Dd.length (.inl ()) (fun k hk => by
  simp only [Pi]
  rw [if_pos (decide_eq_true (by omega)), Bk hk]
  simp only [Option.bind_some, e _ (h2 _ (List.getElem_mem hk)), w1 (show k < 4611686018427387904 by omega)]
  rfl) (by
  simp only [Pi]
  rw [if_neg (by simp)])
 have h' : Bm (Pi a) 0 = some (.inl ()) := h
 simp only [QS]
 rw [decide_eq_false (show ¬ (a.Dd.length : Int) > 4096 by omega), e _ ⟨h3, h4⟩, h']
 rfl
theorem inv0 : AD (Ag.mk (Ai.mk 0 1 []) [] [] false) := by
 have tab0 : Fi (Ai.mk 0 1 []) := ⟨⟨by simp, ⟨by simp, by simp⟩, by simp, fun k x hx => by simp at hx⟩, by simp, by simp⟩
 exact ⟨⟨tab0.1, by simp, fun k x hx => by simp at hx, fun k x hx => by simp at hx, by simp, by simp⟩, tab0, by simp⟩
theorem TQ (acts : List Am) (hl : acts.length ≤ 120) (h : ∀ a ∈ acts, Ij a) : ∃ v R, g50 acts = some (v, R, 0) ∧ AD v ∧ R.length = acts.length := by
 simp only [g50]
 rw [if_neg (by simp; omega), if_neg (by simp; omega)]
 obtain ⟨r, e1, e2⟩ := Tb (step := eN acts) (fun s => ∃ i : Nat, s.2.1 = (i : Int) ∧ i ≤ acts.length ∧ s.1.length = i ∧ AD (Ag.mk (Ai.mk s.2.2.1 s.2.2.2.1 s.2.2.2.2.1) s.2.2.2.2.2.1 s.2.2.2.2.2.2.1 s.2.2.2.2.2.2.2))
  (fun s => (acts.length - s.2.1).toNat)
  (fun r => ∃ R v, r = .inl (R, v.Ac.clock, v.Ac.next, v.Ac.Ad, v.Aa, v.Ae, v.Al) ∧ AD v ∧ R.length = acts.length) ([], 0, 0, 1, [], [], [], false) ⟨0, rfl, by omega, rfl, inv0⟩ (by
  rintro ⟨R, _, ck, nx, L, In, A, se⟩ ⟨i, rfl, hi, hR, hv⟩
  simp only at hR hv
  simp only [eN]
  by_cases hlt : i < acts.length
  ·rw [if_pos (decide_eq_true (by omega)), Bk hlt]
   have ha := h _ (List.getElem_mem hlt)
   simp only [Option.bind_some, kU ha.2, Bool.not_true, Bool.false_eq_true, if_false]
   have hcl : acts[i].clock ≤ 9223372036854775807 ∨ acts[i].kind ≠ 4 := by
    by_cases hk : acts[i].kind = 4
    ·exact .inl (ha.1.2.2.1 hk)
    ·exact .inr hk
   obtain ⟨r, x1, x2⟩ : ∃ r, vX (Ag.mk (Ai.mk ck nx L) In A se) acts[i] = some r ∧ AD r.1 := by
    obtain ⟨r, y1, _, y3⟩ := lP hv.right hv.tab acts[i] hcl
    exact ⟨r, y1, y3.2.2 hv.und ha.1⟩
   simp only [x1, Option.bind_some]
   rw [if_pos (by simp; omega), w1 (show i < 4611686018427387904 by omega)]
   exact .inl ⟨_, rfl, ⟨i + 1, rfl, by omega, by simp; omega, x2⟩, by simp only; omega⟩
  ·rw [if_neg (by simp; omega)]
   exact .inr ⟨_, rfl, R, Ag.mk (Ai.mk ck nx L) In A se, rfl, hv, by omega⟩)
 obtain ⟨R, v, rfl, hv, hR⟩ := e2
 simp only [e1, Option.bind_some]
 have ec : Yh (Ag.mk (Ai.mk v.Ac.clock v.Ac.next v.Ac.Ad) v.Aa v.Ae v.Al) = some v := Pe (v := v) (by have := hv.right.t; omega) (by have := hv.right.i40; omega) (by have := hv.right.a; omega)
 rw [ec]
 exact ⟨v, R, rfl, hv, hR⟩
end Go.Ev
end
section
set_option maxHeartbeats 1000000
namespace Go.Ev
theorem mR : ∀ j : Fin 16, dv (Qi[j.val]'j.isLt) = (j.val : Int) := by decide
theorem QO : ∀ i j : Fin 16, i.val < j.val → Qi[i.val]'i.isLt < Qi[j.val]'j.isLt := by decide
theorem and15 (M : Nat) (h : M < 9223372036854775808) : Sz .i64 (M : Int) 15 = ((M % 16 : Nat) : Int) := by
 unfold Sz
 have b1 : (BitVec.ofInt IntKind.i64.bits (M : Int)).toNat = M := by
  have : IntKind.i64.bits = 64 := rfl
  rw [this, BitVec.ofInt_natCast, BitVec.toNat_ofNat]
  exact Nat.mod_eq_of_lt (by omega)
 have b2 : (BitVec.ofInt IntKind.i64.bits 15).toNat = 15 := by decide
 rw [BitVec.toNat_and, b1, b2]
 have h2 : M &&& 15 = M % 16 := Nat.and_two_pow_sub_one_eq_mod M 4
 rw [h2]
 exact wr ⟨by omega, by omega⟩
theorem shr_at (N : Nat) (h : N < 9223372036854775808) (i : Nat) (hi : i < 16) : Jz .i64 (N : Int) (60 - 4 * (i : Int)) = ((N / 16 ^ (15 - i) : Nat) : Int) := by
 have e1 : min (60 - 4 * (i : Int)).toNat 64 = 4 * (15 - i) := by omega
 have e2 : (2 : Int) ^ (4 * (15 - i)) = ((16 ^ (15 - i) : Nat) : Int) := by
  rw [Int.pow_mul]
  simp
 have hle : N / 16 ^ (15 - i) ≤ N := Nat.div_le_self _ _
 simp only [Jz, e1, e2]
 rw [Int.fdiv_eq_ediv_of_nonneg _ (Int.natCast_nonneg _), ← Int.natCast_ediv]
theorem UW (N : Nat) (h : N < 9223372036854775808) (i : Nat) (hi : i < 16) : hx (Jz .i64 (N : Int) (60 - 4 * (i : Int))) = Qi[N / 16 ^ (15 - i) % 16]'(Nat.mod_lt _ (by decide)) := by
 have hle : N / 16 ^ (15 - i) ≤ N := Nat.div_le_self _ _
 unfold hx
 rw [shr_at N h i hi, and15 _ (by omega), Int.toNat_natCast, List.getElem?_eq_getElem (Nat.mod_lt _ (by decide) : N / 16 ^ (15 - i) % 16 < Qi.length)]
 rfl
theorem iO (N : Nat) (h : N < 9223372036854775808) (i : Nat) (hi : i < (Bo (N : Int)).length) : (Bo (N : Int))[i] = Qi[N / 16 ^ (15 - i) % 16]'(Nat.mod_lt _ (by decide)) := by
 have hi16 : i < 16 := by simpa [Cb] using hi
 simp only [Bo, List.getElem_map, List.getElem_range]
 exact UW N h i hi16
theorem aC (N : Nat) (h : N < 9223372036854775808) (i : Nat) (hi : i < (Bo (N : Int)).length) : dv (Bo (N : Int))[i] = ((N / 16 ^ (15 - i) % 16 : Nat) : Int) := by
 rw [iO N h i hi]
 exact mR ⟨N / 16 ^ (15 - i) % 16, Nat.mod_lt _ (by decide)⟩
theorem fO (N : Nat) (h : N < 9223372036854775808) : aP (Bo (N : Int)) := by
 refine ⟨Cb _, fun k hk => ?_, fun h0 => ?_⟩
 ·rw [aC N h k hk]; omega
 ·rw [aC N h 0 h0]
  have : N / 16 ^ (15 - 0) < 8 := by
   rw [Nat.div_lt_iff_lt_mul (by decide)]
   have : (8 * 16 ^ (15 - 0) : Nat) = 9223372036854775808 := by decide
   omega
  omega
theorem iP (N : Nat) (h : N < 9223372036854775808) : Ib (Bo (N : Int)) = N := by
 have key : ∀ k, k ≤ 16 → Ib ((List.range k).map fun i : Nat => hx (Jz .i64 (N : Int) (60 - 4 * (i : Int)))) = N / 16 ^ (16 - k) := by
  intro k
  induction k with
  | zero =>
   intro _
   have : N / 16 ^ (16 - 0) = 0 := Nat.div_eq_of_lt (by
    have : (16 ^ (16 - 0) : Nat) = 18446744073709551616 := by decide
    omega)
   rw [this]
   rfl
  | succ k ih =>
   intro hk
   rw [Kf, Uz, ih (by omega), UW N h k (by omega)]
   have e := mR ⟨N / 16 ^ (15 - k) % 16, Nat.mod_lt _ (by decide)⟩
   simp only at e
   rw [e, Int.toNat_natCast]
   have e2 : N / 16 ^ (16 - k) = N / 16 ^ (15 - k) / 16 := by
    rw [Nat.div_div_eq_div_mul, ← Nat.pow_succ]
    congr 2; omega
   rw [e2, show 16 - (k + 1) = 15 - k by omega]
   omega
 have := key 16 (Nat.le_refl _)
 simpa [Bo] using this
theorem Yy {n : Int} (h : 0 ≤ n ∧ n ≤ 9223372036854775807) : aP (Bo n) ∧ (Ib (Bo n) : Int) = n := by
 obtain ⟨N, rfl⟩ := Int.eq_ofNat_of_zero_le h.1
 exact ⟨fO N (by omega), by rw [iP N (by omega)]⟩
theorem hO (p a b : List UInt8) : Op.bytesLess (p ++ a) (p ++ b) = Op.bytesLess a b := by
 induction p with
 | nil => rfl
 | cons x p ih =>
  simp only [List.cons_append, Op.bytesLess, ih]
  have : decide (x < x) = false := decide_eq_false (UInt8.lt_irrefl x)
  simp [this]
theorem valF (l : List UInt8) : ∀ a : Nat, l.foldl (fun n y => n * 16 + (dv y).toNat) a = a * 16 ^ l.length + Ib l := by
 induction l with
 | nil => intro a; simp [Ib]
 | cons x l ih =>
  intro a
  simp only [List.foldl_cons, Ib, List.length_cons]
  rw [ih, ih (0 * 16 + (dv x).toNat), Nat.pow_succ]
  simp only [Nat.zero_mul, Nat.zero_add]
  rw [Nat.add_mul, Nat.mul_assoc, Nat.mul_comm 16 (16 ^ l.length), Nat.add_assoc]
theorem valC (x : UInt8) (l : List UInt8) : Ib (x :: l) = (dv x).toNat * 16 ^ l.length + Ib l := by
 have := valF l (dv x).toNat
 simpa [Ib] using this
theorem valT (l : List UInt8) : Ib l < 16 ^ l.length := by
 induction l with
 | nil => simp [Ib]
 | cons x l ih =>
  rw [valC, List.length_cons, Nat.pow_succ]
  have := mS x
  have h1 : (dv x).toNat ≤ 15 := by omega
  have h2 := Nat.mul_le_mul_right (16 ^ l.length) h1
  omega
theorem vO {y : UInt8} (h : 0 ≤ dv y) : ∃ j : Fin 16, y = Qi[j.val]'j.isLt ∧ dv y = (j.val : Int) := by
 have := mS y
 have hk : (dv y).toNat < 16 := by omega
 refine ⟨⟨(dv y).toNat, hk⟩, ?_, by simp only; omega⟩
 have e := vP y (dv y).toNat hk
 rw [decide_eq_true (show dv y = (((dv y).toNat : Nat) : Int) by omega), beq_iff_eq] at e
 exact e.symm
theorem xJ : ∀ (l1 l2 : List UInt8), l1.length = l2.length → (∀ y ∈ l1, 0 ≤ dv y) → (∀ y ∈ l2, 0 ≤ dv y) → Ib l1 < Ib l2 → Op.bytesLess l1 l2 = true := by
 intro l1
 induction l1 with
 | nil =>
  intro l2 hl _ _ hv
  have : l2 = [] := List.eq_nil_of_length_eq_zero (by simpa using hl.symm)
  subst this
  simp [Ib] at hv
 | cons x l1 ih =>
  intro l2 hl h1 h2 hv
  cases l2 with
  | nil => simp at hl
  | cons y l2 =>
   have hl' : l1.length = l2.length := by simpa using hl
   obtain ⟨i, ei, di⟩ := vO (h1 x List.mem_cons_self)
   obtain ⟨j, ej, dj⟩ := vO (h2 y List.mem_cons_self)
   rw [valC, valC, hl', di, dj, Int.toNat_natCast, Int.toNat_natCast] at hv
   have b1 := valT l1
   have b2 := valT l2
   rw [hl'] at b1
   simp only [Op.bytesLess]
   rcases Nat.lt_trichotomy i.val j.val with hij | hij | hij
   ·have : x < y := by rw [ei, ej]; exact QO i j hij
    rw [decide_eq_true this]
    rfl
   ·have hxy : x = y := by
     rw [ei, ej]
     congr 1
    rw [hij] at hv
    have := ih l2 hl' (fun z hz => h1 z (List.mem_cons_of_mem _ hz)) (fun z hz => h2 z (List.mem_cons_of_mem _ hz)) (by omega)
    subst hxy
    simp [this]
   ·exfalso
    have h3 := Nat.mul_le_mul_right (16 ^ l2.length) (show j.val + 1 ≤ i.val from hij)
    rw [Nat.add_mul, Nat.one_mul] at h3
    omega
theorem xH {a b : Int} (ha : 0 ≤ a) (hab : a < b) (hb : b ≤ 9223372036854775807) : Op.bytesLess (Bo a) (Bo b) = true := by
 obtain ⟨g1, v1⟩ := Yy (n := a) ⟨ha, by omega⟩
 obtain ⟨g2, v2⟩ := Yy (n := b) ⟨by omega, hb⟩
 have all : ∀ {s : List UInt8}, aP s → ∀ y ∈ s, 0 ≤ dv y := fun g y hy => by
  obtain ⟨k, hk, rfl⟩ := List.getElem_of_mem hy
  exact g.2.1 k hk
 exact xJ _ _ (by rw [g1.1, g2.1]) (all g1) (all g2) (by omega)
def xI (a b : Bh) : Prop := Op.bytesLess a.key b.key = true
theorem fH {v : Ag} (h : Ds v) : (Cl v).Pairwise xI := by
 have hn := h.tab.2.1
 unfold Cl
 rw [List.pairwise_append, List.pairwise_append]
 refine ⟨⟨?_, ?_, fun x hx y hy => ?_⟩, List.pairwise_singleton _ _, fun x hx y hy => ?_⟩
 ·rw [List.pairwise_map]
  have := Tm h.its
  rw [List.pairwise_map] at this
  refine this.imp_of_mem fun {a b} ha hb hab => ?_
  have m1 := h.its.mem (List.mem_map_of_mem ha)
  have m2 := h.its.mem (List.mem_map_of_mem hb)
  unfold xI Ic
  rw [hO]
  exact xH (by omega) hab (by omega)
 ·rw [List.pairwise_map, List.pairwise_iff_getElem]
  intro i j hi hj hij
  have m1 := (h.tab.at hi).1
  have m2 := (h.tab.at hj).1
  have := h.tab.lt hj hij
  unfold xI Jb
  rw [hO]
  exact xH (by omega) this (by omega)
 ·obtain ⟨a, _, rfl⟩ := List.mem_map.1 hx
  obtain ⟨b, _, rfl⟩ := List.mem_map.1 hy
  rfl
 ·simp only [List.mem_singleton] at hy
  subst hy
  rcases List.mem_append.1 hx with hx | hx
  ·obtain ⟨a, _, rfl⟩ := List.mem_map.1 hx
   rfl
  ·obtain ⟨a, _, rfl⟩ := List.mem_map.1 hx
   rfl
theorem qE {v : Ag} {x : Bh} (hx : x ∈ Cl v) : Mk x = true := by
 have hw : ∀ (b : Bool) (x y : List UInt8), x.length ≤ 8 → y.length ≤ 8 → (if b = true then x else y).length ≤ 8 := fun b x y h1 h2 => Oz b h1 h2
 unfold Cl at hx
 unfold Mk
 rw [Bool.and_eq_true, decide_eq_true_eq, decide_eq_true_eq]
 rcases List.mem_append.1 hx with hx | hx
 ·rcases List.mem_append.1 hx with hx | hx
  ·obtain ⟨a, _, rfl⟩ := List.mem_map.1 hx
   have := hw a.Hl VO zE (by decide) (by decide)
   simp only [Ic, List.length_append, Cb, List.length_cons, List.length_nil]
   omega
  ·obtain ⟨a, _, rfl⟩ := List.mem_map.1 hx
   have := hw a.Bt Tx jD (by decide) (by decide)
   simp only [Jb, List.length_append, Cb, List.length_cons, List.length_nil]
   omega
 ·simp only [List.mem_singleton] at hx
  subst hx
  have := hw v.Al Tz jE (by decide) (by decide)
  simp only [Oy, List.length_append, Cb, List.length_cons, List.length_nil]
  omega
theorem iG {v : Ag} (h : Ds v) : SM (Cl v) = some true := by
 have hl := Uu v (Kg h)
 have hs := lR (Cl v) (by omega)
 have hall : (List.range (Cl v).length).all (Ip (Cl v)) = true := by
  rw [List.all_eq_true]
  intro k hk
  rw [List.mem_range] at hk
  have hp := fH h
  rw [List.pairwise_iff_getElem] at hp
  simp only [Ip, List.getElem?_eq_getElem hk, Option.getD_some, qE (List.getElem_mem hk), Bool.true_and]
  by_cases h0 : k = 0
  ·simp [h0]
  ·rw [decide_eq_false h0, Bool.false_or, List.getElem?_eq_getElem (show k - 1 < (Cl v).length by omega)]
   exact hp (k - 1) k (by omega) hk (by omega)
 rw [hall] at hs
 unfold SM
 cases hx : Bm (Pt (Cl v)) 0 with
 | none => rw [hx] at hs; cases hs
 | some r =>
  rw [hx] at hs
  simp only [Option.bind_some] at hs ⊢
  cases r with
  | inl u => simp only [Option.some.injEq, decide_eq_true_eq]; omega
  | inr q => simpa using hs
theorem yK {n : Int} (h : 0 ≤ n ∧ n ≤ 9223372036854775807) : aV (Bo n) = some (n, [], true) := by
 obtain ⟨g, e⟩ := Yy h
 have e1 : (Bo n).take 16 = Bo n := List.take_of_length_le (by rw [Cb]; omega)
 have e2 : (Bo n).drop 16 = [] := List.drop_eq_nil_of_le (by rw [Cb]; omega)
 rw [(Uw (Bo n) (by rw [Cb]; omega)).1 (by rw [e1]; exact g), e1, e2, e]
theorem cK {a b : Int} (ha : 0 ≤ a ∧ a ≤ 9223372036854775807) (hb : 0 ≤ b ∧ b ≤ 9223372036854775807) (w x y : List UInt8) (hw : w.length ≤ 8) :
  gR ((Bo a ++ Bo b) ++ w) x y = some (a, b, w == x, bif (w == x) then true else (w == y)) := by
 obtain ⟨g1, e1⟩ := Yy ha
 obtain ⟨g2, e2⟩ := Yy hb
 have l1 := Cb a
 have l2 := Cb b
 have t1 : ((Bo a ++ Bo b) ++ w).take 16 = Bo a := by rw [List.append_assoc, List.take_append_of_le_length (by omega), List.take_of_length_le (by omega)]
 have d1 : ((Bo a ++ Bo b) ++ w).drop 16 = Bo b ++ w := by
  rw [List.append_assoc, show 16 = (Bo a).length from l1.symm, List.drop_left]
 have t2 : (((Bo a ++ Bo b) ++ w).drop 16).take 16 = Bo b := by rw [d1, List.take_append_of_le_length (by omega), List.take_of_length_le (by omega)]
 have d2 : ((Bo a ++ Bo b) ++ w).drop 32 = w := by
  rw [show 32 = (Bo a ++ Bo b).length by simp [l1, l2], List.drop_left]
 have := TW (a := (Bo a ++ Bo b) ++ w) x y (by simp [l1, l2]; omega) ⟨by rw [t1]; exact g1, by rw [t2]; exact g2⟩
 rw [this, t1, t2, d2, e1, e2]
theorem take_i (w : Ag) (x : Af) (hx : 0 ≤ x.Av ∧ x.Av ≤ 9223372036854775807) (hl : w.Aa.length ≤ 1000) : aU w (Ic x) = some (true, Ag.mk w.Ac (w.Aa ++ [x]) w.Ae w.Al) := by
 have c1 : Vz (Ic x).key Kz = some (Bo x.Av, true) := by
  have := mO (s := (Ic x).key) (w := Kz) (by simp [Ic])
  rw [this]
  simp [Ic]
 simp only [aU, c1, Option.bind_some, if_true, yK hx, Bd]
 rw [if_pos (by simp; omega)]
 have e1 : ((Ic x).value == ([117, 110, 100, 111] : List UInt8)) = x.Hl := by
  unfold Ic; cases x.Hl <;> rfl
 have e2 : (bif x.Hl then true else ((Ic x).value == ([98, 101, 103, 117, 110] : List UInt8))) = true := by
  unfold Ic; cases x.Hl <;> rfl
 rw [e1, e2]
 rfl
theorem take_l (w : Ag) (x : Ab) (h1 : 0 ≤ x.id ∧ x.id ≤ 9223372036854775807) (h2 : 0 ≤ x.Be ∧ x.Be ≤ 9223372036854775807) (h3 : 0 ≤ x.cap ∧ x.cap ≤ 9223372036854775807) (hl : w.Ac.Ad.length ≤ 1000) :
  aU w (Jb x) = some (true, Ag.mk (Ai.mk w.Ac.clock w.Ac.next (w.Ac.Ad ++ [x])) w.Aa w.Ae w.Al) := by
 have c0 : Vz (Jb x).key Kz = some ((Jb x).key, false) := jU (by
  intro h
  have := congrArg List.head? h
  simp [Jb] at this)
 have c1 : Vz (Jb x).key Ru = some (Bo x.id, true) := by
  have := mO (s := (Jb x).key) (w := Ru) (by simp [Jb])
  rw [this]
  simp [Jb]
 have hw : (if x.Bt = true then Tx else jD).length ≤ 8 := Oz _ (by decide) (by decide)
 have r2 := cK h2 h3 (if x.Bt = true then Tx else jD) Tx jD hw
 have r2' : gR (Jb x).value ([113, 117, 101, 117, 101, 100] : List UInt8) ([108, 105, 118, 101] : List UInt8) = some (x.Be, x.cap, x.Bt, true) := by
  refine r2.trans ?_
  cases x.Bt <;> rfl
 simp only [aU, c0, c1, Option.bind_some, if_true, yK h1, r2', Bd, Bool.false_eq_true, if_false]
 rw [if_pos (by simp; omega)]
 rfl
theorem take_v (w v : Ag) (h1 : 0 ≤ v.Ac.clock ∧ v.Ac.clock ≤ 9223372036854775807) (h2 : 0 ≤ v.Ac.next ∧ v.Ac.next ≤ 9223372036854775807) :
  aU w (Oy v) = some (true, Ag.mk (Ai.mk v.Ac.clock v.Ac.next w.Ac.Ad) w.Aa w.Ae v.Al) := by
 have c0 : Vz (Oy v).key Kz = some ((Oy v).key, false) := jU (show ¬ fW.take Kz.length = Kz by decide)
 have c1 : Vz (Oy v).key Ru = some ((Oy v).key, false) := jU (show ¬ fW.take Ru.length = Ru by decide)
 have hw : (if v.Al = true then Tz else jE).length ≤ 8 := Oz _ (by decide) (by decide)
 have r2 := cK h1 h2 (if v.Al = true then Tz else jE) Tz jE hw
 have r2' : gR (Oy v).value ([115, 101, 97, 108, 101, 100] : List UInt8) ([111, 112, 101, 110] : List UInt8) = some (v.Ac.clock, v.Ac.next, v.Al, true) := by
  refine r2.trans ?_
  cases v.Al <;> rfl
 have ek : ((Oy v).key == ([118, 97, 117, 108, 116] : List UInt8)) = true := rfl
 simp only [aU, c0, c1, Option.bind_some, r2', Bd, Bool.false_eq_true, if_false, ek, cond_true]
def aO (v : Ag) (k : Nat) : Ag := Ag.mk (if k ≤ v.Aa.length + v.Ac.Ad.length then Ai.mk 0 0 (v.Ac.Ad.take (k - v.Aa.length)) else v.Ac) (v.Aa.take k) v.Ae (if k ≤ v.Aa.length + v.Ac.Ad.length then false else v.Al)
theorem TU {v : Ag} (h : AD v) (k : Nat) (hk : k < (Cl v).length) : aU (aO v k) (Cl v)[k] = some (true, aO v (k + 1)) := by
 have hl : (Cl v).length = v.Aa.length + v.Ac.Ad.length + 1 := by simp [Cl]; omega
 have h40 := h.right.t
 have hi40 := h.right.i40
 have hn := h.right.tab.2.1
 by_cases k1 : k < v.Aa.length
 ·have e : (Cl v)[k] = Ic v.Aa[k] := by
   simp only [Cl]
   rw [List.getElem_append_left (by simp; omega), List.getElem_append_left (by simp; omega), List.getElem_map]
  have m := h.right.its.mem (List.mem_map_of_mem (List.getElem_mem k1))
  rw [e, take_i _ _ (by omega) (by simp [aO]; omega)]
  unfold aO
  simp only [if_pos (show k ≤ v.Aa.length + v.Ac.Ad.length by omega), if_pos (show k + 1 ≤ v.Aa.length + v.Ac.Ad.length by omega), show k - v.Aa.length = 0 by omega, show k + 1 - v.Aa.length = 0 by omega, List.take_succ_eq_append_getElem k1]
 ·by_cases k2 : k < v.Aa.length + v.Ac.Ad.length
  ·have hj : k - v.Aa.length < v.Ac.Ad.length := by omega
   have e : (Cl v)[k] = Jb v.Ac.Ad[k - v.Aa.length] := by
    simp only [Cl]
    rw [List.getElem_append_left (by simp; omega), List.getElem_append_right (by simp; omega), List.getElem_map]
    simp only [List.length_map]
   obtain ⟨a1, a2, a3, a4, a5⟩ := h.right.tab.at hj
   have hc := h.tab.2.2 _ (List.getElem_mem hj)
   rw [e, take_l _ _ (by omega) (by omega) (by omega) (by simp only [aO]; rw [if_pos (by omega)]; simp; omega)]
   unfold aO
   simp only [if_pos (show k ≤ v.Aa.length + v.Ac.Ad.length by omega), if_pos (show k + 1 ≤ v.Aa.length + v.Ac.Ad.length by omega), show k + 1 - v.Aa.length = (k - v.Aa.length) + 1 by omega, List.take_succ_eq_append_getElem hj, List.take_of_length_le (show v.Aa.length ≤ k by omega), List.take_of_length_le (show v.Aa.length ≤ k + 1 by omega)]
  ·have hk3 : k = v.Aa.length + v.Ac.Ad.length := by omega
   have e : (Cl v)[k] = Oy v := by
    simp only [Cl]
    rw [List.getElem_append_right (by simp; omega)]
    simp
   have hc := h.right.tab.1
   have hc2 := h.tab.2.1
   rw [e, take_v _ _ ⟨hc, hc2⟩ (by omega)]
   unfold aO
   simp only [if_pos (show k ≤ v.Aa.length + v.Ac.Ad.length by omega), if_neg (show ¬ k + 1 ≤ v.Aa.length + v.Ac.Ad.length by omega), List.take_of_length_le (show v.Aa.length ≤ k by omega), List.take_of_length_le (show v.Aa.length ≤ k + 1 by omega), List.take_of_length_le (show v.Ac.Ad.length ≤ k - v.Aa.length by omega)]
theorem qG {v : Ag} (h : AD v) : SH (Cl v) v.Ae = some (v, 0) := by
 have hr := h.right
 have h40 := hr.t
 have hi40 := hr.i40
 have hn := hr.tab.2.1
 have hl := Uu v (Kg hr)
 have ha80 := (Kg hr).2.2.1
 have hll : (Cl v).length = v.Aa.length + v.Ac.Ad.length + 1 := by simp [Cl]; omega
 have hit := Di (step := Pr (Cl v)) (fun k => ((k : Int), (aO v k).Ac.clock, (aO v k).Ac.next, (aO v k).Ac.Ad, (aO v k).Aa, (aO v k).Ae, (aO v k).Al)) (Cl v).length (.inl (v.Ac.clock, v.Ac.next, v.Ac.Ad, v.Aa, v.Ae, v.Al)) (fun k hk => by
  simp only [Pr]
  rw [if_pos (decide_eq_true (by omega)), Bk hk]
  simp only [Option.bind_some]
  rw [show aU (Ag.mk (Ai.mk (aO v k).Ac.clock (aO v k).Ac.next (aO v k).Ac.Ad) (aO v k).Aa (aO v k).Ae (aO v k).Al) (Cl v)[k] = _ from TU h k hk]
  simp only [Option.bind_some]
  rw [if_neg (by simp), w1 (show k < 4611686018427387904 by omega)]) (by
  simp only [Pr]
  rw [if_neg (by simp)]
  unfold aO
  simp only [if_neg (show ¬ (Cl v).length ≤ v.Aa.length + v.Ac.Ad.length by omega), List.take_of_length_le (show v.Aa.length ≤ (Cl v).length by omega)])
 have h0 : aO v 0 = Ag.mk (Ai.mk 0 0 []) [] v.Ae false := by
  unfold aO
  simp only [if_pos (show 0 ≤ v.Aa.length + v.Ac.Ad.length by omega), Nat.zero_sub, List.take_zero]
 rw [h0] at hit
 have hit' : Bm (Pr (Cl v)) (0, 0, 0, [], [], v.Ae, false) = some (.inl (v.Ac.clock, v.Ac.next, v.Ac.Ad, v.Aa, v.Ae, v.Al)) := hit
 have e120 : aT v.Ae = some v.Ae := by unfold aT; rw [if_pos (by simp; omega)]
 have e48 : g48 (Ag.mk (Ai.mk v.Ac.clock v.Ac.next v.Ac.Ad) v.Aa v.Ae v.Al) = some true := by
  have := Zb v (by omega) (by omega) (by omega) (by constructor <;> omega)
  rw [Er (Kg hr)] at this
  exact this
 simp only [SH, Ado, g87, Option.bind_some]
 rw [decide_eq_true (show ((Cl v).length : Int) ≤ 4096 by omega), decide_eq_true (show (v.Ae.length : Int) ≤ 4096 by omega)]
 simp only [Bool.not_true, beq_self_eq_true, if_true, Option.bind_some, cond_false, Bool.false_eq_true, if_false, iG hr, e120, hit', e48]
theorem lK (t : Ai) (h : t.Ad.length ≤ 1048576) : g41 t t = some true := by
 have hh := Qe t.Ad (step := Yo t t) (fun k hk => by
  simp only [Yo]
  rw [if_pos (decide_eq_true (by omega)), Bk hk]
  simp only [Option.bind_some, Bd]
  rw [if_neg (by simp), w1 (show k < 4611686018427387904 by omega)]) (by
  simp only [Yo]
  rw [if_neg (by simp)])
 simp only [g41, Bd]
 rw [if_neg (by simp), hh]
 rfl
theorem qK (l : List Int) (hl : l.length ≤ 1048576) : g52 l l = some true := by
 have h := Qe l (step := Yq l l) (fun k hk => by
  simp only [Yq]
  rw [if_pos (decide_eq_true (by omega)), Bk hk]
  simp only [Option.bind_some]
  rw [if_neg (by simp), w1 (show k < 4611686018427387904 by omega)]) (by
  simp only [Yq]
  rw [if_neg (by simp)])
 unfold g52
 rw [if_neg (by simp), h]
 rfl
theorem lJ (l : List Bh) (hl : l.length ≤ 1048576) : SI l l = some true := by
 have h := Qe l (step := So l l) (fun k hk => by
  simp only [So]
  rw [if_pos (decide_eq_true (by omega)), Bk hk]
  simp only [Option.bind_some]
  rw [if_neg (by simp), w1 (show k < 4611686018427387904 by omega)]) (by
  simp only [So]
  rw [if_neg (by simp)])
 unfold SI
 rw [if_neg (by simp), h]
 rfl
theorem lL (v : Ag) (h1 : v.Ac.Ad.length ≤ 1048576) (h2 : v.Aa.length ≤ 1048576) (h3 : v.Ae.length ≤ 1048576) : SJ v v = some true := by
 have h := Qe v.Aa (step := Sp v v) (fun k hk => by
  simp only [Sp]
  rw [if_pos (decide_eq_true (by omega)), Bk hk]
  simp only [Option.bind_some]
  rw [if_neg (by simp), w1 (show k < 4611686018427387904 by omega)]) (by
  simp only [Sp]
  rw [if_neg (by simp)])
 simp [SJ, lK v.Ac h1, qK v.Ae h3, h, Bd]
theorem wH (code : List UInt8) (_ : okL Zr code) : Adn code = some true := by
 unfold Adn
 by_cases hc : code.length > 1048576
 ·rw [if_pos (decide_eq_true (by omega))]
 ·rw [if_neg (by simp; omega)]
  obtain ⟨l, l1, l2, l3⟩ := rL code (by omega)
  obtain ⟨v, R, e1, hv, _⟩ := TQ l l2 l3
  have hr := hv.right
  have h40 := hr.t
  have hi40 := hr.i40
  have hn := hr.tab.2.1
  have ha80 := (Kg hr).2.2.1
  have hn64 : I64 v.Ac.next := ⟨by omega, by omega⟩
  have s1 := lN v (by omega) (by omega) (by omega) hn64
  have s2 := Zb v (by omega) (by omega) (by omega) hn64
  rw [Er (Kg hr)] at s1 s2
  have p1 := lA v (by omega) (by omega) s1
  have p2 : SG v = some (Cl v, 0) := by
   simp only [SG, s2, Option.bind_some, kZ v (by omega) (by omega)]
   rfl
  have hl := Uu v (Kg hr)
  simp [l1, e1, p1, p2, qG hv, lJ (Cl v) (by omega), lL v (by omega) (by omega) (by omega), Bd]
end Go.Ev
end
