/- The reference's write; drawn devices; the plain law of FnDevice. -/
import Derived.Test.YtdmclbbhhcpjfaaQwT
set_option linter.all false
namespace Go.Ev

theorem g292_eq (d : DDevice) (h : DevOK d) (k : Nat) (data : List UInt8) (hk : k + data.length ≤ 4096) : g292 d (k : Int) data = some (writeD d k data) := by
  obtain ⟨r1, r2, r3⟩ := readD_len d h
  have hw := h.2.2.1
  have e0 : IntKind.i64.wrap ((k : Int) + (data.length : Int)) = ((k + data.length : Nat) : Int) := by rw [wr ⟨by omega, by omega⟩]; omega
  simp only [g292, g303_eq d h, Option.bind_some]
  obtain ⟨p, p1, p2⟩ := iterI (step := g292_l0 (k : Int) data) (fun t => (∃ n, t = readD d ++ List.replicate n 0) ∧ (readD d).length ≤ t.length ∧ t.length ≤ max (readD d).length (32 * ((k + data.length + 31) / 32))) (fun t => 1048576 - t.length)
    (fun r => r = padB (readD d) (32 * ((k + data.length + 31) / 32)) ∧ k + data.length ≤ r.length ∧ r.length ≤ 4096) (readD d) ⟨⟨0, by simp⟩, Nat.le_refl _, by omega⟩ (by
    rintro t ⟨⟨n, hn⟩, t1, t2⟩
    have em : ((((t.length : Int)).tmod 32) != 0) = !decide (t.length % 32 = 0) := by
      rw [Int.tmod_eq_emod_of_nonneg (by omega), Bool.eq_iff_iff]; simp; omega
    simp only [g292_l0, bindv, e0, em]
    by_cases c : t.length < k + data.length ∨ ¬ t.length % 32 = 0
    · rw [if_pos (by
        rcases c with c | c
        · rw [decide_eq_true (show (t.length : Int) < ((k + data.length : Nat) : Int) by omega)]; rfl
        · rw [decide_eq_false c]; cases decide ((t.length : Int) < ((k + data.length : Nat) : Int)) <;> rfl), if_pos (by simp; omega)]
      refine .inl ⟨_, rfl, ⟨⟨n + 1, ?_⟩, by simp; omega, by simp; omega⟩, by simp; omega⟩
      rw [hn, List.append_assoc]
      congr 1
      exact (List.replicate_append_replicate (n := n) (m := 1) (a := (0 : UInt8)))
    · rw [if_neg (by
        rw [decide_eq_false (show ¬ (t.length : Int) < ((k + data.length : Nat) : Int) by omega), decide_eq_true (show t.length % 32 = 0 by omega)]; simp)]
      refine .inr ⟨_, rfl, ?_, by omega, by omega⟩
      subst hn
      simp only [List.length_append, List.length_replicate] at t1 t2 c
      unfold padB
      congr 2
      omega)
  obtain ⟨p2, p3, p4⟩ := p2
  rw [p1]
  simp only [Option.bind_some]
  rw [slcK _ _ _ (by omega) (Nat.le_refl _)]
  simp only [Option.bind_some, List.nil_append]
  rw [if_pos (by simp; omega)]
  by_cases h0 : data.length = 0
  · rw [if_pos (by simp [h0])]
    simp [writeD, h0]
  · rw [if_neg (by simpa using h0)]
    have hq : 32 * ((k + data.length + 31) / 32) = 32 * ((k + data.length - 1) / 32 + 1) := by omega
    have hd : (data.take ((p.take p.length).drop k).length) = data := List.take_of_length_le (by simp; omega)
    have hw0 : ovl p k data = wrB (readD d) k data := by unfold wrB; rw [p2, hq]
    have hwl := wrB_len (readD d) k data
    have e6 : IntKind.i64.wrap (((k : Int)).tdiv 32) = ((k / 32 : Nat) : Int) := by
      rw [Int.tdiv_eq_ediv_of_nonneg (by omega), wr ⟨by omega, by omega⟩]; omega
    generalize hqq : (k + data.length - 1) / 32 = q at *
    have hle : k / 32 ≤ q := by omega
    have hl := secs_loop (wrB (readD d) k data) d.waiting (k / 32) (q + 1 - k / 32) (by omega) (by omega) (step := g292_l1 (k : Int) data p ((p.take p.length).drop k)) (fun j l j1 j2 j3 => by
      simp only [g292_l1, e0, bindv]
      rw [wr32' (show j ≤ 1099511627776 by omega), if_pos (decide_eq_true (by omega)), hd, w1 (show j < 4611686018427387904 by omega), wr32' (show j + 1 ≤ 1099511627776 by omega)]
      simp only [Int.toNat_natCast, hw0]
      rw [slc_cut _ _ (by omega)]
      have hc := cutB_len (wrB (readD d) k data) j (by omega)
      simp only [Option.bind_some, List.nil_append]
      rw [if_pos (by simp [hc]), if_pos (by simp; omega)]) (fun l => by
      simp only [g292_l1, e0, bindv]
      rw [wr32' (show k / 32 + (q + 1 - k / 32) ≤ 1099511627776 by omega), if_neg (by simp; omega)])
    rw [e6, hl]
    simp only [Option.bind_some, writeD]
    rw [if_neg h0, hqq]
/-- A drawn device is right, and small. -/
theorem g212_ok (code : List UInt8) (hc : code.length ≤ 1048576) : ∃ d, g212 code = some d ∧ DevOK d ∧ d.waiting.length ≤ 15 := by
  obtain ⟨s, s1, s2⟩ := g83_ok code hc
  obtain ⟨v, t, v1, v2, v3⟩ := g117_ok (n := 4) s2 (by omega) (by omega)
  obtain ⟨u, t2, u1, u2, u3⟩ := g117_ok (n := 4) v3 (by omega) (by omega)
  have hv := v2.2.2 (by omega)
  have hu := u2.2.2 (by omega)
  obtain ⟨n, rfl⟩ : ∃ n : Nat, v = n := ⟨v.toNat, by omega⟩
  have e1 : IntKind.i64.wrap (32 * (n : Int)) = ((32 * n : Nat) : Int) := wr32 (by omega)
  simp only [g212, s1, g262, Option.bind_some, v1, e1, Int.toNat_natCast]
  rw [if_pos (by omega), if_pos (by omega)]
  simp only [u1, Option.bind_some]
  obtain ⟨r, r1, r2⟩ := iterI (step := g262_l0) (fun x => (0 ≤ x.1 ∧ x.1 ≤ 3) ∧ DevOK (DDevice.mk x.2.1 x.2.2.1) ∧ ((x.2.2.1.length : Int) ≤ 5 * (3 - x.1)) ∧ SrcOK (Dl00Src.mk x.2.2.2.1 x.2.2.2.2.1 x.2.2.2.2.2) (6 + 1000 * (3 - x.1))) (fun x => x.1.toNat)
    (fun r => DevOK (DDevice.mk r.1 r.2.1) ∧ r.2.1.length ≤ 15) (u, List.replicate (32 * n) 0, [], t2.code_, t2.at_, t2.seed)
    ⟨⟨u2.1, by simp only; omega⟩, ⟨by simp, by simp; omega, by simp, by simp⟩, by simp; omega, u3.mono (by simp only; omega)⟩ (by
      rintro ⟨i, b, w, c, at', se⟩ ⟨i1, i2, i3, i4⟩
      simp only at i1 i2 i3 i4
      simp only [g262_l0]
      by_cases h0 : i > 0
      · rw [if_pos (decide_eq_true h0)]
        obtain ⟨a, t3, a1, a2, a3⟩ := g117_ok (n := 120) i4 (by omega) (by omega)
        have ha := a2.2.2 (by omega)
        obtain ⟨l, t4, l1, l2, l3⟩ := g272_ok (n := 30) a3 (by omega) ⟨by omega, by omega⟩
        obtain ⟨k, rfl⟩ : ∃ k : Nat, a = k := ⟨a.toNat, by omega⟩
        have hw2 : IntKind.i64.wrap (i - 1) = i - 1 := wr ⟨by omega, by omega⟩
        simp only [a1, Option.bind_some, l1, g292_eq _ i2 k l (by omega), hw2]
        have hwl : (writeD (DDevice.mk b w) k l).waiting.length ≤ w.length + 5 := by
          unfold writeD
          split
          · simp
          · simp only [List.length_append, secsB_len]; omega
        exact .inl ⟨_, rfl, ⟨⟨by simp only; omega, by simp only; omega⟩, writeD_ok _ i2 k l (by omega) (by omega), by simp only; omega, l3.mono (by simp only; omega)⟩, by simp only; omega⟩
      · rw [if_neg (by simpa using h0)]
        exact .inr ⟨_, rfl, i2, by simp only; omega⟩)
  obtain ⟨b, w, c, at', se⟩ := r
  rw [r1]
  exact ⟨_, rfl, r2.1, r2.2⟩
theorem g201_law (code more : List UInt8) (_ : okL okAny code) (_ : okL okAny more) : g201 code more = some true := by
  simp only [g201, bindv]
  by_cases h : code.length > 1048576 ∨ more.length > 200
  · rw [if_pos (by
      rcases h with h | h
      · rw [decide_eq_true (show (code.length : Int) > 1048576 by omega)]; rfl
      · rw [decide_eq_true (show (more.length : Int) > 200 by omega)]; cases decide ((code.length : Int) > 1048576) <;> rfl)]
  · rw [if_neg (by
      rw [decide_eq_false (show ¬ (code.length : Int) > 1048576 by omega), decide_eq_false (show ¬ (more.length : Int) > 200 by omega)]; simp)]
    obtain ⟨d, d1, d2, d3⟩ := g212_ok code (by omega)
    obtain ⟨k, k1, k2⟩ := g40_ok more 200 (by omega) (by omega)
    have hk : k + more.length ≤ 4096 := by omega
    have small : ∀ x : DDevice, (writeD x k more).waiting.length ≤ x.waiting.length + 20 := fun x => by
      unfold writeD
      split
      · omega
      · simp only [List.length_append, secsB_len]; omega
    have hn := small d
    have hok := writeD_ok d d2 k more hk (by omega)
    have hn0 := small (DDevice.mk [] [])
    simp only [List.length_nil] at hn0
    have hok0 := writeD_ok _ emptyD k more hk (by omega)
    have hlen0 := readD_len _ hok0
    have hfl : DevOK (DDevice.mk (readD (writeD (DDevice.mk [] []) k more)) []) := ⟨hlen0.1, hlen0.2.1, by simp, by simp⟩
    have hrd : readD (DDevice.mk (readD (writeD (DDevice.mk [] []) k more)) []) = readD (writeD (DDevice.mk [] []) k more) := rfl
    obtain ⟨a1, a2, a3⟩ := read_write d d2 k more hk
    obtain ⟨b1, b2, b3⟩ := read_write (DDevice.mk [] []) emptyD k more hk
    have hlen := readD_len _ hok
    have hlen1 := readD_len _ d2
    have e0 : IntKind.i64.wrap ((k : Int) + (more.length : Int)) = ((k + more.length : Nat) : Int) := by rw [wr ⟨by omega, by omega⟩]; omega
    have hloop : iter (g201_l0 more (readD d, 0) (k : Int) (readD (writeD d k more), 0)) 0 = some (.inl ()) := by
      refine same_loop (readD (writeD d k more)) (fun i hi => ?_) ?_
      · simp only [g201_l0]
        rw [if_pos (decide_eq_true (by omega))]
        have hgi := a3 i
        have hj1 : ∀ y : UInt8, y = gt (readD (writeD d k more)) i → g201_j1 (readD (writeD d k more), 0) (i : Int) y = some (.inl ((i + 1 : Nat) : Int)) := by
          rintro y rfl
          simp only [g201_j1]
          rw [idx_lt hi]
          simp only [Option.bind_some, Int.toNat_natCast]
          have hgt : gt (readD (writeD d k more)) i = (readD (writeD d k more))[i] := by unfold gt; rw [List.getElem?_eq_getElem hi]; rfl
          rw [List.getElem?_eq_getElem hi, hgt]
          simp only [Option.bind_some]
          rw [if_neg (by simp), w1 (show i < 4611686018427387904 by omega)]
        have hj0 : g201_j0 more (k : Int) (readD (writeD d k more), 0) (i : Int) (gt (readD d) i) = some (.inl ((i + 1 : Nat) : Int)) := by
          simp only [g201_j0, bindv, e0]
          by_cases c : k ≤ i ∧ i < k + more.length
          · rw [if_pos (by rw [decide_eq_true (show (i : Int) ≥ (k : Int) by omega), decide_eq_true (show (i : Int) < ((k + more.length : Nat) : Int) by omega)]; rfl)]
            have e2 : IntKind.i64.wrap ((i : Int) - (k : Int)) = ((i - k : Nat) : Int) := by rw [wr ⟨by omega, by omega⟩]; omega
            rw [e2, idx_lt (by omega)]
            simp only [Option.bind_some]
            refine hj1 _ ?_
            rw [hgi, if_pos c]
            unfold gt
            rw [List.getElem?_eq_getElem (by omega)]; rfl
          · rw [if_neg (by
              by_cases c1 : k ≤ i
              · rw [decide_eq_true (show (i : Int) ≥ (k : Int) by omega), decide_eq_false (show ¬ (i : Int) < ((k + more.length : Nat) : Int) by omega)]; simp
              · rw [decide_eq_false (show ¬ (i : Int) ≥ (k : Int) by omega)]; simp)]
            refine hj1 _ ?_
            rw [hgi, if_neg c]
        by_cases c : i < (readD d).length
        · rw [if_pos (decide_eq_true (by omega)), idx_lt c]
          simp only [Option.bind_some, Int.toNat_natCast]
          rw [List.getElem?_eq_getElem c]
          simp only [Option.bind_some]
          have : gt (readD d) i = (readD d)[i] := by unfold gt; rw [List.getElem?_eq_getElem c]; rfl
          rw [← this]; exact hj0
        · rw [if_neg (by simp; omega)]
          have : gt (readD d) i = 0 := by unfold gt; rw [List.getElem?_eq_none (by omega)]; rfl
          rw [← this]; exact hj0
      · simp only [g201_l0]
        rw [if_neg (by simp)]
    simp only [d1, Option.bind_some, g213_ok d d2, k1, g214_ok d d2 k more hk (by omega), g213_ok _ hok, g215_two k more hk (by omega), g213_ok _ hfl, hrd, g216_ok _ hok]
    have e5 : decide (((readD (writeD d k more)).length : Int) < ((readD d).length : Int)) = false := decide_eq_false (by omega)
    have z : ((0 : Int) != 0) = false := by decide
    simp only [z, cond_false, beq_self_eq_true, if_true, Option.bind_some, Bool.not_true, List.length_nil, e5]
    have z2 : (((0 : Nat) : Int) != 0) = false := by decide
    simp only [z2, cond_false, Bool.false_eq_true, if_false]
    rw [hloop]
    simp only [Option.bind_some, e0]
    by_cases h0 : more.length = 0
    · have : more = [] := List.eq_nil_of_length_eq_zero h0
      subst this
      simp
    · have b2 := b2 h0
      have e6 : decide (((readD (writeD (DDevice.mk [] []) k more)).length : Int) ≥ ((k + more.length : Nat) : Int)) = true := decide_eq_true (by omega)
      have e7 : ((more.length : Int) == 0) = false := by simpa using h0
      rw [e6, e7]
      rw [if_pos (by rfl), slcK _ _ _ (by omega) b2]
      simp only [Option.bind_some, cond_false, cond_true]
      have : ((readD (writeD (DDevice.mk [] []) k more)).take (k + more.length)).drop k = more := by
        apply List.ext_getElem
        · simp; omega
        · intro i i1 i2
          have hb := b3 (k + i)
          rw [if_pos (by omega)] at hb
          unfold gt at hb
          rw [List.getElem?_eq_getElem (by omega), List.getElem?_eq_getElem (by omega)] at hb
          simp only [Option.getD_some] at hb
          simp only [List.getElem_drop, List.getElem_take]
          rw [hb]
          congr 1; omega
      rw [this]
      simp
end Go.Ev
