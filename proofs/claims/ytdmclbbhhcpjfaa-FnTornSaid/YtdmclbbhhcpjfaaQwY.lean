/- The plain law of FnLogs. -/
import Derived.Test.YtdmclbbhhcpjfaaQwX
set_option linter.all false
namespace Go.Ev

theorem g118_ok {s : Dl00Src} {B n : Int} (h : SrcOK s B) (hn : 1 ≤ n ∧ n ≤ 1000) : ∃ v, g118 s n = some v ∧ 1 ≤ v ∧ v ≤ n := by
  obtain ⟨h1, _⟩ := h
  have e0 : ((s.code_.length : Int)).tdiv 12 = (s.code_.length : Int) / 12 := Int.tdiv_eq_ediv_of_nonneg (by omega)
  have e1 : IntKind.i64.wrap ((s.code_.length : Int) / 12) = (s.code_.length : Int) / 12 := wr ⟨by omega, by omega⟩
  have e2 : IntKind.i64.wrap (1 + (s.code_.length : Int) / 12) = 1 + (s.code_.length : Int) / 12 := wr ⟨by omega, by omega⟩
  simp only [g118, bindv, e0, e1, e2]
  refine ⟨_, rfl, ?_, ?_⟩ <;> split <;> omega
/-- Drawn payloads are few, and short. -/
theorem g217_ok (code : List UInt8) (hc : code.length ≤ 1048576) : ∃ L, g217 code = some L ∧ L.length ≤ 10 ∧ ∀ p ∈ L, p.length ≤ 30 := by
  obtain ⟨s, s1, s2⟩ := g83_ok code hc
  obtain ⟨v, v1, v2, v3⟩ := g118_ok (n := 6) s2 (by omega)
  have e1 : IntKind.i64.wrap (v + 2) = v + 2 := wr ⟨by omega, by omega⟩
  obtain ⟨u, t2, u1, u2, u3⟩ := g117_ok (n := v + 2) s2 (by omega) (by omega)
  have hu := u2.2.2 (by omega)
  simp only [g217, s1, v1, Option.bind_some, e1, u1]
  obtain ⟨r, r1, r2⟩ := iterI (step := g217_l0) (fun x => (0 ≤ x.2.1 ∧ x.2.1 ≤ 8) ∧ ((x.1.length : Int) ≤ 8 - x.2.1) ∧ (∀ p ∈ x.1, p.length ≤ 30) ∧ SrcOK (Dl00Src.mk x.2.2.1 x.2.2.2.1 x.2.2.2.2) (3 + 1000 * (8 - x.2.1))) (fun x => x.2.1.toNat)
    (fun r => r.length ≤ 10 ∧ ∀ p ∈ r, p.length ≤ 30) ([], u, t2.code_, t2.at_, t2.seed) ⟨⟨u2.1, by simp only; omega⟩, by simp; omega, by simp, u3.mono (by simp only; omega)⟩ (by
      rintro ⟨l, i, c, a, se⟩ ⟨i1, i2, i3, i4⟩
      simp only at i1 i2 i3 i4
      simp only [g217_l0]
      by_cases h0 : i > 0
      · rw [if_pos (decide_eq_true h0)]
        obtain ⟨p, t3, p1, p2, p3⟩ := g272_ok (n := 30) i4 (by omega) ⟨by omega, by omega⟩
        have hw2 : IntKind.i64.wrap (i - 1) = i - 1 := wr ⟨by omega, by omega⟩
        simp only [p1, Option.bind_some, hw2]
        rw [if_pos (by simp only [List.length_singleton]; omega)]
        refine .inl ⟨_, rfl, ⟨⟨by simp only; omega, by simp only; omega⟩, by simp only [List.length_append, List.length_singleton]; omega, fun q hq => ?_, p3.mono (by simp only; omega)⟩, by simp only; omega⟩
        rcases List.mem_append.1 hq with hq | hq
        · exact i3 q hq
        · simp only [List.mem_singleton] at hq; subst hq; omega
      · rw [if_neg (by simpa using h0)]
        exact .inr ⟨_, rfl, by omega, i3⟩)
  rw [r1]
  exact ⟨_, rfl, r2⟩
theorem g264_ok (p : List UInt8) (h : p.length ≤ 65536) : g264 p = some true := by simp only [g264, decide_eq_true (show ((p.length : Nat) : Int) ≤ 65536 by omega)]
theorem g219_ok (p : List UInt8) (h : p.length ≤ 2000) : g219 p = some (frameB p, 0) := by
  simp only [g219, g264_ok p (by omega), Option.bind_some]
  rw [if_neg (by simp), if_neg (by simp; omega), g274_eq p (by omega)]
  rfl
/-- A device with a log and nothing else. -/
def LogD (L : List (List UInt8)) (d : DDevice) : Prop := d.waiting = [] ∧ d.held.length % 32 = 0 ∧ d.held.length ≤ 4096 ∧ ∃ m, d.held = framesB L ++ List.replicate m 0
theorem LogD.ok {L : List (List UInt8)} {d : DDevice} (h : LogD L d) : DevOK d := ⟨h.2.1, h.2.2.1, by rw [h.1]; simp, by rw [h.1]; simp⟩
theorem LogD.read {L : List (List UInt8)} {d : DDevice} (h : LogD L d) : readD d = d.held := by unfold readD; rw [h.1]; rfl
theorem LogD.len {L : List (List UInt8)} {d : DDevice} (h : LogD L d) : (framesB L).length ≤ 4096 := by
  obtain ⟨_, _, h3, m, h4⟩ := h
  rw [h4] at h3; simp at h3; omega
theorem LogD.scan {L : List (List UInt8)} {d : DDevice} (h : LogD L d) (hL : ∀ p ∈ L, p.length ≤ 2000) : g275 d.held = some (L, (((framesB L).length : Nat) : Int)) := by
  obtain ⟨_, _, h3, m, h4⟩ := h
  rw [h4] at h3 ⊢
  simp only [List.length_append, List.length_replicate] at h3
  exact scan_frames L m hL (by omega)
theorem g220_log {L : List (List UInt8)} {d : DDevice} (h : LogD L d) (hL : ∀ p ∈ L, p.length ≤ 2000) : g220 d = some (L, 0) := by
  simp [g220, g216_ok d h.ok, g263_eq d h.ok, h.read, h.scan hL]
theorem g327_eq (k n : Nat) (hk : k ≤ 1048576) (hn : n ≤ 1048576) : g327 (k : Int) (n : Int) = some (decide (k + n ≤ 4096)) := by
  have e0 : IntKind.i64.wrap ((k : Int) + (n : Int)) = ((k + n : Nat) : Int) := by rw [wr ⟨by omega, by omega⟩]; omega
  simp only [g327, g63, Option.bind_some, bindv, e0]
  rw [decide_eq_true (show (0 : Int) ≤ (k : Int) by omega)]
  by_cases c : k + n ≤ 4096
  · rw [decide_eq_true (show (k : Int) ≤ 4096 by omega), decide_eq_true (show ((k + n : Nat) : Int) ≤ 4096 by omega), decide_eq_true c]; rfl
  · rw [decide_eq_false (show ¬ ((k + n : Nat) : Int) ≤ 4096 by omega), decide_eq_false c]; cases decide ((k : Int) ≤ 4096) <;> rfl
/-- A payload more. -/
theorem log_write {L : List (List UInt8)} {d : DDevice} (h : LogD L d) (p : List UInt8) (hk : (framesB L).length + (frameB p).length ≤ 4096) :
    LogD (L ++ [p]) (DDevice.mk (readD (writeD d (framesB L).length (frameB p))) []) := by
  have hwl : (writeD d (framesB L).length (frameB p)).waiting.length ≤ 4096 := by
    unfold writeD
    split
    · rw [h.1]; simp
    · simp only [List.length_append, secsB_len, h.1, List.length_nil]; omega
  have hok := writeD_ok d h.ok _ (frameB p) hk hwl
  obtain ⟨w1, w2, w3⟩ := read_write d h.ok _ (frameB p) hk
  have hl := readD_len _ hok
  refine ⟨rfl, hl.1, hl.2.1, ?_⟩
  have w2 := w2 (by simp)
  have := zeros_of_gt (readD (writeD d (framesB L).length (frameB p))) (framesB (L ++ [p])) (by rw [framesB_append, framesB_one]; simp at w2 ⊢; omega) (fun i => by
    rw [w3, framesB_append, framesB_one, gt_append, h.read]
    obtain ⟨_, _, _, m, h4⟩ := h
    rw [h4, gt_zeros]
    by_cases c : (framesB L).length ≤ i ∧ i < (framesB L).length + (frameB p).length
    · rw [if_pos c, if_neg (by omega)]
    · rw [if_neg c]
      by_cases c2 : i < (framesB L).length
      · rw [if_pos c2]
      · rw [if_neg c2, gt_past _ _ (by omega), gt_past _ _ (by omega)])
  exact ⟨_, this⟩
theorem g273_log {L : List (List UInt8)} {d : DDevice} (h : LogD L d) (hL : ∀ p ∈ L, p.length ≤ 2000) (p : List UInt8) (hp : p.length ≤ 2000) :
    g273 d p = if (framesB L).length + (frameB p).length ≤ 4096 then some (DDevice.mk (readD (writeD d (framesB L).length (frameB p))) [], 0) else some (DDevice.mk [] [], 9) := by
  have hl := h.len
  simp only [g273]
  rw [if_neg (by simp; omega), g263_eq d h.ok, h.read]
  simp only [Option.bind_some, h.scan hL, g274_eq p (by omega)]
  rw [g327_eq _ _ (by omega) (by simp; omega)]
  simp only [Option.bind_some]
  by_cases c : (framesB L).length + (frameB p).length ≤ 4096
  · rw [if_pos c, decide_eq_true c, if_neg (by simp), g328_eq d h.ok _ _ c]
    have hwl : (writeD d (framesB L).length (frameB p)).waiting.length ≤ 4096 := by
      unfold writeD
      split
      · rw [h.1]; simp
      · simp only [List.length_append, secsB_len, h.1, List.length_nil]; omega
    have hok := writeD_ok d h.ok _ (frameB p) c hwl
    simp [g267, g263_eq _ hok]
  · rw [if_neg c, decide_eq_false c]; rfl
theorem g218_log {L : List (List UInt8)} {d : DDevice} (h : LogD L d) (hL : ∀ p ∈ L, p.length ≤ 2000) (p : List UInt8) (hp : p.length ≤ 2000) :
    g218 d p = if (framesB L).length + (frameB p).length ≤ 4096 then some (DDevice.mk (readD (writeD d (framesB L).length (frameB p))) [], 0) else some (DDevice.mk [] [], 9) := by
  simp only [g218, g264_ok p (by omega), g216_ok d h.ok, Option.bind_some, g273_log h hL p hp, Bool.not_true, Bool.false_eq_true, if_false]
  split <;> rfl
theorem g222_refl (l : List (List UInt8)) (hl : l.length ≤ 1048576) : g222 l l = some true := by
  have h := same_loop l (step := g222_l0 l l) (fun k hk => by
    simp only [g222_l0]
    rw [if_pos (decide_eq_true (by omega)), idx_lt hk]
    simp [w1 (show k < 4611686018427387904 by omega)]) (by
    simp only [g222_l0]
    rw [if_neg (by simp)])
  unfold g222
  rw [if_neg (by simp), h]
  rfl
theorem g202_law (code : List UInt8) (_ : okL okAny code) : g202 code = some true := by
  simp only [g202]
  by_cases h : code.length > 1048576
  · rw [if_pos (decide_eq_true (by omega))]
  · rw [if_neg (by simp; omega)]
    obtain ⟨L, l1, l2, l3⟩ := g217_ok code (by omega)
    simp only [l1, Option.bind_some]
    have l4 : ∀ p ∈ L, p.length ≤ 2000 := fun p hp => by have := l3 p hp; omega
    obtain ⟨r, r1, r2⟩ := iterI (step := g202_l0 L) (fun s => ∃ k : Nat, s.2.1 = (k : Int) ∧ k ≤ L.length ∧ s.1 = framesB (L.take k) ∧ LogD (L.take k) (DDevice.mk s.2.2.1 s.2.2.2)) (fun s => (L.length - s.2.1).toNat)
      (fun r => r = .inr true ∨ ∃ a b c, r = .inl (a, b, c) ∧ a = framesB L ∧ LogD L (DDevice.mk b c)) ([], 0, [], []) ⟨0, rfl, by omega, rfl, rfl, by simp, by simp, 0, rfl⟩ (by
        rintro ⟨all, _, he, wa⟩ ⟨k, rfl, hk, hall, hd⟩
        simp only at hall hd
        subst hall
        simp only [g202_l0]
        by_cases hlt : k < L.length
        · have hpk := l4 _ (List.getElem_mem hlt)
          have htk : ∀ p ∈ L.take k, p.length ≤ 2000 := fun p hp => l4 p (List.mem_of_mem_take hp)
          rw [if_pos (decide_eq_true (by omega)), idx_lt hlt]
          simp only [Option.bind_some, Int.toNat_natCast]
          rw [List.getElem?_eq_getElem hlt]
          simp only [Option.bind_some, g218_log hd htk _ hpk, g219_ok _ hpk]
          by_cases c : (framesB (L.take k)).length + (frameB L[k]).length ≤ 4096
          · rw [if_pos c]
            have hdn := log_write hd L[k] c
            simp only [Option.bind_some]
            rw [if_neg (by decide), if_neg (by decide), if_pos (by omega), w1 (show k < 4611686018427387904 by omega)]
            refine .inl ⟨_, rfl, ⟨k + 1, rfl, by omega, ?_, ?_⟩, by simp only; omega⟩
            · rw [List.take_succ_eq_append_getElem hlt, framesB_append, framesB_one]
            · rw [List.take_succ_eq_append_getElem hlt]; exact hdn
          · rw [if_neg c]
            simp only [Option.bind_some]
            rw [if_pos (by decide)]
            exact .inr ⟨_, rfl, .inl rfl⟩
        · rw [if_neg (by simp; omega)]
          have hkl : k = L.length := by omega
          subst hkl
          rw [List.take_length] at hd ⊢
          exact .inr ⟨_, rfl, .inr ⟨_, _, _, rfl, rfl, hd⟩⟩)
    rw [r1]
    rcases r2 with rfl | ⟨a, b, c, rfl, rfl, hd⟩
    · rfl
    · have hlen := hd.len
      have hs : g275 (framesB L) = some (L, (((framesB L).length : Nat) : Int)) := by
        have := scan_frames L 0 l4 (by omega)
        simpa using this
      have e1 : g221 (framesB L) = some (L, (((framesB L).length : Nat) : Int), 0) := by
        simp [g221, g264_ok (framesB L) (by omega), hs]
      simp [g220_log hd l4, e1, g222_refl L (by omega), bindv]
end Go.Ev
