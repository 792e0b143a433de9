/- The plain law of FnTorn. -/
import Derived.Test.YtdmclbbhhcpjfaaQxB
set_option linter.all false
namespace Go.Ev

theorem g306_ok {s : Dl00Src} {B n : Int} (h : SrcOK s B) (hB : B ≤ 4611686018427000000) (hn : 0 ≤ n ∧ n ≤ 10000) : ∃ l s', g306 s n = some (l, s') ∧ (l.length : Int) ≤ n := by
  have hw : IntKind.i64.wrap (n + 1) = n + 1 := wr ⟨by omega, by omega⟩
  obtain ⟨v, s1, e1, e2, e3⟩ := g117_ok (n := n + 1) h (by omega) (by omega)
  have hv : v ≤ n := by
    by_cases h0 : n + 1 ≤ 1
    · have := e2.2.1 h0; omega
    · have := e2.2.2 (by omega); omega
  simp only [g306, hw, e1, Option.bind_some]
  obtain ⟨r, h1, h2⟩ := iterI (step := g306_l0) (fun t => 0 ≤ t.2.1 ∧ (t.1.length : Int) + t.2.1 = v ∧ SrcOK (Dl00Src.mk t.2.2.1 t.2.2.2.1 t.2.2.2.2) (B + 3 + 3 * (v - t.2.1))) (fun t => t.2.1.toNat)
    (fun r => (r.1.length : Int) = v) ([], v, s1.code_, s1.at_, s1.seed) ⟨e2.1, by simp, e3.mono (by simp only; omega)⟩ (by
      rintro ⟨l, i, c, a, d⟩ ⟨i1, i2, i3⟩
      simp only at i1 i2 i3
      simp only [g306_l0]
      by_cases h0 : i > 0
      · rw [if_pos (decide_eq_true h0)]
        obtain ⟨u, s2, u1, u2, u3⟩ := g117_ok (n := 2) i3 (by omega) (by omega)
        have hw2 : IntKind.i64.wrap (i - 1) = i - 1 := wr ⟨by omega, by omega⟩
        simp only [g119, u1, Option.bind_some, hw2]
        rw [if_pos (by simp only [List.length_singleton]; omega)]
        exact .inl ⟨_, rfl, ⟨by simp only; omega, by simp only [List.length_append, List.length_singleton]; omega, u3.mono (by simp only; omega)⟩, by simp only; omega⟩
      · rw [if_neg (by simpa using h0)]
        exact .inr ⟨_, rfl, by simp only; omega⟩)
  obtain ⟨l, c, a, d⟩ := r
  have h2a : (l.length : Int) = v := h2
  rw [h1]
  exact ⟨_, _, rfl, by omega⟩
theorem g243_ok (code : List UInt8) (hc : code.length ≤ 1048576) : ∃ F, g243 code = some F ∧ F.length ≤ 12 := by
  obtain ⟨s, s1, s2⟩ := g83_ok code hc
  obtain ⟨l, s', l1, l2⟩ := g306_ok (n := 12) s2 (by omega) ⟨by omega, by omega⟩
  exact ⟨l, by simp [g243, s1, l1], by omega⟩
theorem g206_flags (n : Nat) (hn : n ≤ 1048576) : iter g206_l1 (List.replicate n false, 0) = some (List.replicate n true) := by
  have h := iter_upto (step := g206_l1) (fun k => (List.replicate k true ++ List.replicate (n - k) false, (k : Int))) n (List.replicate n true) (fun k hk => by
    have hl : (List.replicate k true ++ List.replicate (n - k) false).length = n := by simp; omega
    simp only [g206_l1]
    rw [if_pos (decide_eq_true (by omega)), idx_lt (by omega)]
    simp only [Option.bind_some, Int.toNat_natCast]
    rw [List.getElem?_eq_getElem (by omega)]
    simp only [Option.bind_some, w1 (show k < 4611686018427387904 by omega)]
    congr 3
    rw [List.set_append, if_neg (by simp), show n - k = (n - (k + 1)) + 1 by omega, List.replicate_succ]
    have e : k - (List.replicate k true).length = 0 := by simp
    rw [e, List.set_cons_zero, List.replicate_succ' (n := k), List.append_assoc]
    rfl) (by
    simp only [g206_l1]
    rw [if_neg (by simp)]
    simp)
  simpa using h
/-- What a crash leaves ahead of a write. -/
theorem crk_ahead (l : List DSector) (F : List Bool) (b : List UInt8) (n : Nat) (hl : ∀ s ∈ l, SecOK s) (hg : ∀ s ∈ l, ∀ i, i < n → 32 * s.at_.toNat ≤ i → i < 32 * s.at_.toNat + 32 → gt s.data (i - 32 * s.at_.toNat) = gt b i) :
    ∀ k, k ≤ l.length → ∀ i, i < n → gt (crk l F b k) i = gt b i
  | 0, _, _, _ => rfl
  | k + 1, hk, i, hi => by
    have hk' : k < l.length := hk
    have ih := crk_ahead l F b n hl hg k (by omega) i hi
    unfold crk
    split
    · rw [List.getElem?_eq_getElem hk']
      have hs := hl _ (List.getElem_mem hk')
      simp only [Option.getD_some]
      rw [gt_put _ _ _ _ hs.2]
      by_cases c : 32 * l[k].at_.toNat ≤ i ∧ i < 32 * l[k].at_.toNat + 32
      · rw [if_pos c, hg _ (List.getElem_mem hk') i hi c.1 c.2]
      · rw [if_neg c, ih]
    · exact ih
theorem take_of_gt (b F : List UInt8) (h : F.length ≤ b.length) (hg : ∀ i, i < F.length → gt b i = gt F i) : b = F ++ b.drop F.length := by
  conv => lhs; rw [← List.take_append_drop F.length b]
  congr 1
  apply List.ext_getElem
  · simp; omega
  · intro i i1 i2
    have := hg i i2
    unfold gt at this
    rw [List.getElem?_eq_getElem (by omega), List.getElem?_eq_getElem i2] at this
    simpa using this
theorem g214_full {L : List (List UInt8)} {d : DDevice} (h : LogD L d) (p : List UInt8) (hp : p.length ≤ 2000) :
    g214 d (((framesB L).length : Nat) : Int) (frameB p) = if (framesB L).length + (frameB p).length ≤ 4096 then some (writeD d (framesB L).length (frameB p), 0) else some (DDevice.mk [] [], 9) := by
  have hl := h.len
  by_cases c : (framesB L).length + (frameB p).length ≤ 4096
  · rw [if_pos c]
    refine g214_ok d h.ok _ _ c ?_
    unfold writeD
    split
    · rw [h.1]; simp
    · simp only [List.length_append, secsB_len, h.1, List.length_nil]; omega
  · rw [if_neg c]
    have hfl : (frameB p).length ≤ 65536 := by rw [frameB_len]; omega
    have e1 := g327_eq (framesB L).length (frameB p).length (by omega) (by omega)
    rw [decide_eq_false c] at e1
    simp only [g214, g264_ok _ hfl, g216_ok d h.ok, Option.bind_some, g265, e1, Bool.not_true, Bool.not_false, Bool.false_eq_true, if_false, if_true]
set_option maxHeartbeats 4000000 in
set_option maxRecDepth 100000 in
theorem g206_law (code more : List UInt8) (_ : okL okAny code) (_ : okL okAny more) : g206 code more = some true := by
  simp only [g206, bindv]
  by_cases h : code.length > 1048576 ∨ more.length > 1048576
  · rw [if_pos (by
      rcases h with h | h
      · rw [decide_eq_true (show (code.length : Int) > 1048576 by omega)]; rfl
      · rw [decide_eq_true (show (more.length : Int) > 1048576 by omega)]; cases decide ((code.length : Int) > 1048576) <;> rfl)]
  · rw [if_neg (by
      rw [decide_eq_false (show ¬ (code.length : Int) > 1048576 by omega), decide_eq_false (show ¬ (more.length : Int) > 1048576 by omega)]; simp)]
    obtain ⟨L, l1, l2, l3⟩ := g217_ok code (by omega)
    have l4 : ∀ p ∈ L, p.length ≤ 2000 := fun p hp => by have := l3 p hp; omega
    simp only [l1, Option.bind_some]
    obtain ⟨r, r1, r2⟩ := iterI (step := g206_l0 L) (fun s => ∃ k : Nat, s.2.1 = (k : Int) ∧ (k = 0 ∨ k < L.length) ∧ s.1 = (((framesB (L.take k)).length : Nat) : Int) ∧ LogD (L.take k) (DDevice.mk s.2.2.1 s.2.2.2)) (fun s => (L.length - s.2.1).toNat)
      (fun r => r = .inr true ∨ ∃ a b c, r = .inl (a, b, c) ∧ a = (((framesB (L.take (L.length - 1))).length : Nat) : Int) ∧ LogD (L.take (L.length - 1)) (DDevice.mk b c)) (0, 0, [], []) ⟨0, rfl, .inl rfl, rfl, rfl, by simp, by simp, 0, rfl⟩ (by
        rintro ⟨n, _, he, wa⟩ ⟨k, rfl, hk, hn, hd⟩
        simp only at hn hd
        subst hn
        simp only [g206_l0]
        rw [w1 (show k < 4611686018427387904 by omega)]
        by_cases hlt : k + 1 < L.length
        · have hpk := l4 _ (List.getElem_mem (show k < L.length by omega))
          have htk : ∀ p ∈ L.take k, p.length ≤ 2000 := fun p hp => l4 p (List.mem_of_mem_take hp)
          rw [if_pos (decide_eq_true (by omega)), idx_lt (show k < L.length by omega)]
          simp only [Option.bind_some, Int.toNat_natCast]
          rw [List.getElem?_eq_getElem (show k < L.length by omega)]
          simp only [Option.bind_some, g240_log hd htk _ hpk, g241_ok _ hpk]
          by_cases c : (framesB (L.take k)).length + (frameB L[k]).length ≤ 4096
          · rw [if_pos c]
            have hdn := log_write hd L[k] c
            have e1 : IntKind.i64.wrap ((((framesB (L.take k)).length : Nat) : Int) + (((frameB L[k]).length : Nat) : Int)) = (((framesB (L.take (k + 1))).length : Nat) : Int) := by
              rw [List.take_succ_eq_append_getElem (show k < L.length by omega), framesB_append, framesB_one, List.length_append, wr ⟨by omega, by omega⟩]; omega
            simp only [Option.bind_some, e1]
            rw [if_neg (by decide)]
            refine .inl ⟨_, rfl, ⟨k + 1, rfl, .inr (by omega), rfl, ?_⟩, by simp only; omega⟩
            rw [List.take_succ_eq_append_getElem (show k < L.length by omega)]; exact hdn
          · rw [if_neg c]
            simp only [Option.bind_some]
            rw [if_pos (by decide)]
            exact .inr ⟨_, rfl, .inl rfl⟩
        · rw [if_neg (by simp; omega)]
          have hkl : k = L.length - 1 := by omega
          subst hkl
          exact .inr ⟨_, rfl, .inr ⟨_, _, _, rfl, rfl, hd⟩⟩)
    rw [r1]
    rcases r2 with rfl | ⟨a, b, c, rfl, rfl, hd⟩
    · rfl
    · simp only [Option.bind_some]
      by_cases h0 : L.length = 0
      · rw [if_pos (by simpa using h0)]
      · rw [if_neg (by simpa using h0)]
        have hm : L.length - 1 < L.length := by omega
        have e1 : IntKind.i64.wrap ((L.length : Int) - 1) = ((L.length - 1 : Nat) : Int) := by rw [wr ⟨by omega, by omega⟩]; omega
        have hy := l4 _ (List.getElem_mem hm)
        have hLs : L = L.take (L.length - 1) ++ [L[L.length - 1]] := by
          have := List.take_succ_eq_append_getElem hm
          rw [show L.length - 1 + 1 = L.length by omega, List.take_length] at this
          exact this
        generalize hL' : L.take (L.length - 1) = L' at hd hLs
        generalize hyy : L[L.length - 1] = y at hy hLs
        have hlL' : L'.length = L.length - 1 := by rw [← hL']; simp
        have l4' : ∀ p ∈ L', p.length ≤ 2000 := fun p hp => l4 p (by rw [← hL'] at hp; exact List.mem_of_mem_take hp)
        rw [e1, idx_lt hm, hyy]
        simp only [Option.bind_some, Int.toNat_natCast]
        rw [List.getElem?_eq_getElem hm, hyy]
        simp only [Option.bind_some, g219_ok y hy, g214_full hd y hy]
        by_cases cf : (framesB L').length + (frameB y).length ≤ 4096
        · rw [if_pos cf]
          obtain ⟨F, f1, f2⟩ := g243_ok more (by omega)
          have hwl : (writeD (DDevice.mk b c) (framesB L').length (frameB y)).waiting.length ≤ 4096 := by
            unfold writeD
            split
            · have := hd.1; simp only at this; simp [this]
            · have := hd.1; simp only at this; simp only [List.length_append, secsB_len, this, List.length_nil]; omega
          have hok := writeD_ok _ hd.ok _ (frameB y) cf hwl
          have hlog := log_write hd y cf
          rw [← hLs] at hlog
          have hwaiting : (writeD (DDevice.mk b c) (framesB L').length (frameB y)).waiting = secsB (wrB (readD (DDevice.mk b c)) (framesB L').length (frameB y)) ((framesB L').length / 32) (((framesB L').length + (frameB y).length - 1) / 32 + 1 - (framesB L').length / 32) := by
            unfold writeD
            rw [if_neg (by simp)]
            have := hd.1; simp only at this
            simp [this]
          have hheld : (writeD (DDevice.mk b c) (framesB L').length (frameB y)).held = b := by unfold writeD; split <;> rfl
          have hrd := read_write _ hd.ok _ (frameB y) cf
          -- the whole
          have hwhole : g220 (writeD (DDevice.mk b c) (framesB L').length (frameB y)) = some (L, 0) := by
            have := hlog.scan l4
            simp only at this
            simp [g220, g216_ok _ hok, g263_eq _ hok, this]
          -- behind a crash
          have hF : F.length ≤ 4096 := by omega
          have hcl := crk_len _ F (writeD (DDevice.mk b c) (framesB L').length (frameB y)).held hok.2.2.2 hok.1 hok.2.1 _ (Nat.le_refl _)
          have hblen := hd.2.2.1
          have hbl : (framesB L').length ≤ b.length := by
            obtain ⟨_, _, _, m, h4⟩ := hd
            simp only at h4; rw [h4]; simp
          have hrb : readD (DDevice.mk b c) = b := hd.read
          have hah := crk_ahead _ F (writeD (DDevice.mk b c) (framesB L').length (frameB y)).held (framesB L').length hok.2.2.2 (fun s hs i hi c1 c2 => by
            rw [hwaiting] at hs
            simp only [secsB, List.mem_map, List.mem_range'_1] at hs
            obtain ⟨j, ⟨hj1, hj2⟩, rfl⟩ := hs
            simp only [Int.toNat_natCast] at c1 c2 ⊢
            rw [gt_cut _ _ _ (by omega), hheld, hrb]
            unfold wrB
            rw [gt_ovl _ _ _ (by rw [padB_len]; omega), gt_pad, if_neg (by omega)]
            congr 1; omega) _ (Nat.le_refl _)
          generalize hcr : crk (writeD (DDevice.mk b c) (framesB L').length (frameB y)).waiting F (writeD (DDevice.mk b c) (framesB L').length (frameB y)).held (writeD (DDevice.mk b c) (framesB L').length (frameB y)).waiting.length = cr at hcl hah
          rw [hheld] at hcl hah
          have hpre := take_of_gt cr (framesB L') (by omega) (fun i hi => by
            rw [hah i hi]
            obtain ⟨_, _, _, m, h4⟩ := hd
            simp only at h4
            rw [h4, gt_zeros])
          obtain ⟨X, nX, x1, x2⟩ := scan_pre L' (cr.drop (framesB L').length) l4' (by simp; omega)
          rw [← hpre] at x1
          have hcrok : DevOK (DDevice.mk cr []) := ⟨hcl.1, hcl.2.1, by simp, by simp⟩
          have hgot : g220 (DDevice.mk cr []) = some (L' ++ X, 0) := by
            have : readD (DDevice.mk cr []) = cr := rfl
            simp [g220, g216_ok _ hcrok, g263_eq _ hcrok, this, x1]
          -- all kept
          have hkept : crk (writeD (DDevice.mk b c) (framesB L').length (frameB y)).waiting (List.replicate (writeD (DDevice.mk b c) (framesB L').length (frameB y)).waiting.length true) (writeD (DDevice.mk b c) (framesB L').length (frameB y)).held (writeD (DDevice.mk b c) (framesB L').length (frameB y)).waiting.length = readD (writeD (DDevice.mk b c) (framesB L').length (frameB y)) := by
            rw [crk_true _ _ _ (Nat.le_refl _), List.take_length]; rfl
          have hfull : g220 (DDevice.mk (readD (writeD (DDevice.mk b c) (framesB L').length (frameB y))) []) = some (L, 0) := g220_log hlog l4
          have c1 := g242_ok _ hok F hF
          rw [hcr] at c1
          have c2 := g242_ok _ hok (List.replicate (writeD (DDevice.mk b c) (framesB L').length (frameB y)).waiting.length true) (by simp; exact hwl)
          rw [hkept] at c2
          generalize hW : writeD (DDevice.mk b c) (framesB L').length (frameB y) = W at *
          simp only [Option.bind_some]
          rw [if_neg (by decide)]
          simp only [f1, Option.bind_some, c1, hgot, hwhole, g222_refl L (by omega)]
          have z : ((0 : Int) != 0) = false := by decide
          have z2 : ((0 : Int) == 0) = true := by decide
          simp only [z, z2, cond_false, cond_true, beq_self_eq_true, if_true, Option.bind_some, Bool.not_true, Bool.false_eq_true, if_false, Int.toNat_natCast]
          rw [if_pos (by omega), if_pos (by omega), g206_flags _ (by omega)]
          simp only [Option.bind_some, c2, hfull, g222_refl L (by omega), z2, cond_true, beq_self_eq_true, if_true]
          have e5 : decide ((((L' ++ X).length : Nat) : Int) ≥ ((L.length - 1 : Nat) : Int)) = true := decide_eq_true (by simp; omega)
          have s1 : slc (L' ++ X) 0 ((L.length - 1 : Nat) : Int) = some L' := by
            have := slcK (L' ++ X) 0 (L.length - 1) (by omega) (by simp; omega)
            rw [show ((0 : Nat) : Int) = 0 from rfl] at this
            rw [this, ← hlL']; simp
          have s2 : slc L 0 ((L.length - 1 : Nat) : Int) = some L' := by
            have := slcK L 0 (L.length - 1) (by omega) (by omega)
            rw [show ((0 : Nat) : Int) = 0 from rfl] at this
            rw [this, hL']; simp
          simp only [e5, beq_self_eq_true, if_true, s1, s2, Option.bind_some, g222_refl L' (by omega), cond_true]
        · rw [if_neg cf]
          simp only [Option.bind_some]
          rw [if_pos (by decide)]
end Go.Ev
