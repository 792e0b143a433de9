/- Steps of the small machine, second part: slices, rows that grow, calls, ends, drawn orders. -/
import Derived.Test.YtdmclbbhhcpjfaaQvL
set_option linter.all false
namespace Go.Ev
def slc {α : Type} (l : List α) (lo hi : Int) : Option (List α) := if 0 ≤ lo ∧ lo ≤ hi ∧ hi ≤ l.length then some ((l.take hi.toNat).drop lo.toNat) else none
theorem slc_some {α : Type} {l y : List α} {lo hi : Int} (h : slc l lo hi = some y) : 0 ≤ lo ∧ lo ≤ hi ∧ hi ≤ l.length ∧ y = (l.take hi.toNat).drop lo.toNat := by
 unfold slc at h
 split at h
 ·rename_i hc
  exact ⟨hc.1, hc.2.1, hc.2.2, (Option.some.inj h).symm⟩
 ·cases h
def ovl {α : Type} (l : List α) (at_ : Nat) (ys : List α) : List α := l.mapIdx fun i e => if at_ ≤ i then (ys[i - at_]?).getD e else e
theorem overlay_ovl {α : Type} {e : α → List V} {l ys : List α} {off i : Nat} : overlay off (l.map e) (off + i) (ys.map e) = (ovl l i ys).map e := by
 unfold overlay ovl
 apply List.ext_getElem?
 intro k
 simp only [List.getElem?_mapIdx, List.getElem?_map]
 cases hk : l[k]? with
 | none => rfl
 | some z =>
  simp only [Option.map_some]
  by_cases h : i ≤ k
  ·have e1 : off + k - (off + i) = k - i := by omega
   rw [if_pos (by omega), if_pos h, e1]
   cases ys[k - i]? <;> rfl
  ·rw [if_neg (by omega), if_neg h]
theorem overlay_ovl0 {α : Type} {e : α → List V} {l ys : List α} : overlay 0 (l.map e) 0 (ys.map e) = (ovl l 0 ys).map e := overlay_ovl (off := 0) (i := 0)
theorem row_eq {α : Type} {e : α → List V} {l y : List α} {t off sz : Nat} (h : y.length = l.length) :
  (if off = off ∧ sz = sz ∧ (l.map e).length = (y.map e).length then V.own t off sz (y.map e) else .undef) = .own t off sz (y.map e) := if_pos ⟨rfl, rfl, by simp [h]⟩
section
variable {C : CRel} {Q : Ex → St → Prop} {S : St} {T : List Item} {l : List Ins} {d : Option Nat} {K : St → Prop} {i : Ins}
theorem val_nm {x : Opd} {v : V} (h : S.val x = v) (hm : mayOK true v) : mayOK true (S.val x) := by rw [h]; exact hm
theorem csliceL {α : Type} {e : α → List V} {l0 y : List α} {x : Opd} {lo hi : Option Opd} {a b : Option Int} {vx : V} {sz : Nat} (hx : S.val x = vx) (hx' : strip vx = .lst sz (l0.map e)) (hm : mayOK true vx)
  (hm2 : allP (nm S) (lo.toList ++ hi.toList)) (ha : asNat (lo.map fun x => strip (S.val x)) = some a) (hb : asNat (hi.map fun x => strip (S.val x)) = some b)
  (hy : slc l0 (a.getD 0) (b.getD l0.length) = some y) : calmOp S (.p (.slice x lo hi sz)) (.lst sz (y.map e)) := by
 obtain ⟨h1, h2, h3, rfl⟩ := slc_some hy
 refine ⟨⟨val_nm hx hm, hm2⟩, ?_⟩
 simp only [pu, hx, hx', ha, hb, List.length_map, ← List.map_take, ← List.map_drop]
 exact ⟨_, rfl, trivial, h1, h2, h3⟩
theorem csliceO {α : Type} {e : α → List V} {l0 y : List α} {x : Opd} {lo hi : Option Opd} {a b : Option Int} {vx : V} {t off sz : Nat} (hx : S.val x = vx) (hx' : strip vx = .own t off sz (l0.map e)) (hm : mayOK true vx)
  (hm2 : allP (nm S) (lo.toList ++ hi.toList)) (ha : asNat (lo.map fun x => strip (S.val x)) = some a) (hb : asNat (hi.map fun x => strip (S.val x)) = some b)
  (hy : slc l0 (a.getD 0) (b.getD l0.length) = some y) : calmOp S (.p (.slice x lo hi sz)) (.own t (off + (a.getD 0).toNat) sz (y.map e)) := by
 obtain ⟨h1, h2, h3, rfl⟩ := slc_some hy
 refine ⟨⟨val_nm hx hm, hm2⟩, ?_⟩
 have h0 : (b.getD l0.length).toNat - l0.length = 0 := by omega
 simp only [pu, hx, hx', ha, hb, List.length_map, h0, room, List.replicate_zero, List.append_nil, List.map_take, List.map_drop]
 exact ⟨_, rfl, trivial, h1, h2, .inl h3⟩
theorem csliceS {s y : List UInt8} {x : Opd} {lo hi : Option Opd} {a b : Option Int} {vx : V} (hx : S.val x = vx) (hx' : strip vx = .str s) (hm : mayOK true vx)
  (hm2 : allP (nm S) (lo.toList ++ hi.toList)) (ha : asNat (lo.map fun x => strip (S.val x)) = some a) (hb : asNat (hi.map fun x => strip (S.val x)) = some b)
  (hy : slc s (a.getD 0) (b.getD s.length) = some y) : calmOp S (.p (.sliceStr x lo hi)) (.str y) := by
 obtain ⟨h1, h2, h3, rfl⟩ := slc_some hy
 refine ⟨⟨val_nm hx hm, hm2⟩, ?_⟩
 simp only [pu, hx, hx', ha, hb]
 exact ⟨_, rfl, h1, h2, h3⟩
theorem cidxS {s : List UInt8} {x i : Opd} {vx vi : V} {k : IntKind} {n : Int} {y : UInt8} (hx : S.val x = vx) (hx' : strip vx = .str s) (hmx : mayOK true vx)
  (hi : S.val i = vi) (hi' : strip vi = .int k n) (hmi : mayOK true vi) (hy : idx s n = some y) : calmOp S (.p (.idxStr x i)) (.int .u8 (y.toNat : Int)) := by
 obtain ⟨h0, h1, h2⟩ := idx_some hy
 refine ⟨⟨val_nm hx hmx, val_nm hi hmi, trivial⟩, 0 ≤ n ∧ n < s.length, ?_, h0, h1⟩
 have : s.getD n.toNat 0 = y := by simp [List.getD, h2]
 simp only [pu, hx, hi, hx', hi', this]
theorem unU8_map : ∀ l : List UInt8, unU8 (l.map eU8) = l
 | [] => rfl
 | b :: r => by
  simp only [List.map_cons, eU8, unU8]
  rw [unU8_map r]
  simp
theorem ctoStrL {x : Opd} {vx : V} {s : List UInt8} (hx : S.val x = vx) (hx' : strip vx = .lst 1 (s.map eU8)) (hm : mayOK true vx) : calmOp S (.p (.toStr x)) (.str s) := by
 refine ⟨⟨val_nm hx hm, trivial⟩, ?_⟩
 simp only [pu, hx, hx', unU8_map]
 exact ⟨_, rfl, trivial, rfl⟩
theorem ctoStrO {x : Opd} {vx : V} {s : List UInt8} {t off : Nat} (hx : S.val x = vx) (hx' : strip vx = .own t off 1 (s.map eU8)) (hm : mayOK true vx) : calmOp S (.p (.toStr x)) (.str s) := by
 refine ⟨⟨val_nm hx hm, trivial⟩, ?_⟩
 simp only [pu, hx, hx', unU8_map]
 exact ⟨_, rfl, trivial, rfl⟩
theorem clenO {α : Type} {e : α → List V} {l0 : List α} {x : Opd} {vx : V} {t off sz : Nat} (hx : S.val x = vx) (hx' : strip vx = .own t off sz (l0.map e)) (hm : mayOK true vx) (hz : sz ≠ 0 := by decide) : calmOp S (.p (.len x)) (.int .i64 (l0.length : Int)) := by
 refine ⟨⟨val_nm hx hm, trivial⟩, (sz ≠ 0), ?_, hz⟩
 simp only [pu, hx, hx', List.length_map]
theorem cidxO {α : Type} {e : α → List V} {l0 : List α} {x i : Opd} {vx vi : V} {t off sz : Nat} {k : IntKind} {n : Int} {y : α} (hx : S.val x = vx) (hx' : strip vx = .own t off sz (l0.map e)) (hmx : mayOK true vx)
  (hi : S.val i = vi) (hi' : strip vi = .int k n) (hmi : mayOK true vi) (hy : idx l0 n = some y) : calmOp S (.p (.idxA x i sz)) (.optr t sz (off + n.toNat) 0) := by
 obtain ⟨h0, h1, h2⟩ := idx_some hy
 refine ⟨⟨val_nm hx hmx, val_nm hi hmi, trivial⟩, sz = sz ∧ 0 ≤ n ∧ n < (l0.map e).length, ?_, rfl, h0, by simpa using h1⟩
 simp only [pu, hx, hi, hx', hi']
theorem cloadO {α : Type} {e : α → List V} {l0 : List α} {x : Opd} {vx : V} {t off sz j k n i : Nat} {ag : Bool} {y : α} {v : V} (hx : S.val x = vx) (hx' : strip vx = .optr t sz j k) (hm : mayOK true vx) (hf : S.find t = some (off, l0.map e)) (hj : j = off + i)
  (hy : l0[i]? = some y) (hv : oneOf ag n ((e y).drop k) = some v) (hn : k + n ≤ sz) (hsz : (e y).length = sz) : calmOp S (.p (.load x n ag)) v := by
 subst hj
 have hlt := (List.getElem?_eq_some_iff.1 hy).1
 have hg : (l0.map e).getD (off + i - off) [] = e y := by
  rw [Nat.add_sub_cancel_left]
  simp [List.getD, hy]
 refine ⟨⟨val_nm hx hm, trivial⟩, off ≤ off + i ∧ off + i < off + (l0.map e).length ∧ k + n ≤ sz ∧ ((l0.map e).getD (off + i - off) []).length = sz, ?_, Nat.le_add_right _ _, by simp; omega, hn, by rw [hg]; exact hsz⟩
 simp only [pu, hx, hx', hf]
 rw [hg, hv]
theorem c_ {o : PU} {v : V} (h : calmOp S (.p o) v) (k : K (S.putC d v (capResL (fun x => strip (S.val x)) o))) : wIns C ⟨d, .p o, none⟩ S K := by
 obtain ⟨h1, ψ, h2, h3⟩ := h
 exact p_ h1 h2 h3 k
theorem app_ {α : Type} {e : α → List V} {l0 l1 : List α} {x y : Opd} {t sz by_ : Nat} {vy : V} (hx : S.val x = .own t 0 sz (l0.map e)) (hy : S.val y = vy) (hm : mayOK true vy) (hs : srcEs (strip vy) = some (sz, l1.map e))
  (ht : t < pin0) (hn : (l0.length + l1.length) * by_ ≤ 140737488355328) (k : K ((S.drop t).putC d (.own t 0 sz ((l0 ++ l1).map e)) (capAppL x (l0.length + l1.length)))) : wIns C ⟨d, .app sz by_ x y, none⟩ S K := by
 refine ⟨val_nm hx trivial, val_nm hy hm, ?_⟩
 rw [hx, hy]
 dsimp only [strip]
 dsimp only [strip] at hs
 rw [hs]
 refine ⟨ht, rfl, rfl, rfl, by simpa using hn, ?_⟩
 rw [← List.map_append, List.length_map, List.length_map]
 exact k
theorem appz_ {α : Type} {e : α → List V} {l0 : List α} {x y : Opd} {t sz by_ : Nat} {ki : IntKind} {l : Int} {zero : List V} (z : α) (hx : S.val x = .own t 0 sz (l0.map e)) (hy : S.val y = .int ki l) (hz : e z = zero)
  (ht : t < pin0) (h0 : 0 ≤ l) (hn : ((l0.length : Int) + l) * by_ ≤ 140737488355328) (k : K ((S.drop t).putC d (.own t 0 sz ((l0 ++ List.replicate l.toNat z).map e)) (capAppL x (l0.length + l.toNat)))) : wIns C ⟨d, .appz sz by_ zero x y, none⟩ S K := by
 refine ⟨val_nm hx trivial, val_nm hy trivial, ?_⟩
 rw [hx, hy]
 dsimp only [strip]
 refine ⟨ht, rfl, rfl, h0, by simpa using hn, ?_⟩
 rw [List.map_append, List.map_replicate, hz] at k
 rw [List.length_map]
 exact .inl k
theorem appzx_ {α : Type} {e : α → List V} {l0 : List α} {x y : Opd} {t sz by_ d' : Nat} {ki : IntKind} {l c : Int} {zero : List V} (z : α) (hx : S.val x = .own t 0 sz (l0.map e)) (hy : S.val y = .int ki l) (hz : e z = zero)
  (ht : t < pin0) (h0 : 0 ≤ l) (hn : ((l0.length : Int) + l) * by_ ≤ 140737488355328) (hc : S.capOf x = some c) (hc1 : xcap ≤ c) (hc2 : c - xcap < l0.length + l)
  (k : K ((S.drop (64 * d')).put (some d') (.own (64 * d') 0 sz ((l0 ++ List.replicate l.toNat z).map e)))) : wIns C ⟨some d', .appz sz by_ zero x y, none⟩ S K := by
 refine ⟨val_nm hx trivial, val_nm hy trivial, ?_⟩
 rw [hx, hy]
 dsimp only [strip]
 refine ⟨ht, rfl, rfl, h0, by simpa using hn, ?_⟩
 rw [List.map_append, List.map_replicate, hz] at k
 rw [List.length_map]
 exact .inr ⟨d', c, rfl, hc, hc1, hc2, k⟩
theorem cap_ {α : Type} {e : α → List V} {l0 : List α} {t off sz n : Nat} (hx : S.val (.t n) = .own t off sz (l0.map e))
  (k : ∀ c : Nat, l0.length ≤ c → (off = 0 → c ≤ 9223372036854775807) → (∀ c0, S.capOf (.t n) = some c0 → xcap ≤ c0 → (c : Int) = c0 - xcap) → K (St.put { S with cp := cpPut n (fun _ => some (xcap + c)) S.cp } d (.int .i64 c))) (hz : sz ≠ 0 := by decide) : wIns C ⟨d, .cap (.t n), none⟩ S K := by
 refine ⟨val_nm hx trivial, ?_⟩
 rw [hx]
 dsimp only [strip]
 rw [List.length_map]
 exact ⟨hz, k⟩
theorem covl {x y : Opd} {t off sz t' off' sz' : Nat} {es es' : List (List V)} (hx : S.val x = .own t off sz es) (hy : S.val y = .own t' off' sz' es') (h : t ≠ t') (h1 : es ≠ []) (h2 : es' ≠ []) (hz : sz ≠ 0 := by decide) (hz' : sz' ≠ 0 := by decide) : calmOp S (.p (.ovl x y)) (.bool false) := by
 refine ⟨⟨val_nm hx trivial, val_nm hy trivial, trivial⟩, (t ≠ t' ∧ (es ≠ [] ∧ es' ≠ []) ∧ sz ≠ 0 ∧ sz' ≠ 0), ?_, h, ⟨h1, h2⟩, hz, hz'⟩
 simp only [pu, hx, hy, strip]
theorem cchr {x : Opd} {vx : V} {y : UInt8} {k : IntKind} (hx : S.val x = vx) (hx' : strip vx = .int k ((y.toNat : Nat) : Int)) (hm : mayOK true vx) (hy : y.toNat < 128) : calmOp S (.p (.chr x)) (.str [y]) := by
 refine ⟨⟨val_nm hx hm, trivial⟩, (0 ≤ ((y.toNat : Nat) : Int) ∧ ((y.toNat : Nat) : Int) < 128), ?_, by omega, by omega⟩
 simp only [pu, hx, hx', Int.toNat_natCast]
 simp
theorem cxbyte {s : List UInt8} {x i : Opd} {vx vi : V} {n : Int} (hx : S.val x = vx) (hx' : strip vx = .str s) (hmx : mayOK true vx)
  (hi : S.val i = vi) (hi' : strip vi = .int .u8 n) (hmi : mayOK true vi) : calmOp S (.p (.xbyte x i)) (.int .i64 (byteAt s n)) := by
 refine ⟨⟨val_nm hx hmx, val_nm hi hmi, trivial⟩, True, ?_, trivial⟩
 simp only [pu, hx, hi, hx', hi']
theorem make_ {α : Type} {e : α → List V} {x y : Opd} {d sz by_ : Nat} {k1 k2 : IntKind} {a c : Int} {zero : List V} (z : α) (hx : S.val x = .int k1 a) (hy : S.val y = .int k2 c) (h0 : 0 ≤ a) (hac : a = c) (hn : c * by_ ≤ 140737488355328)
  (hz : e z = zero) (k : K ((S.drop (64 * d)).put (some d) (.own (64 * d) 0 sz ((List.replicate a.toNat z).map e)))) : wIns C ⟨some d, .make sz by_ zero x y, none⟩ S K := by
 refine ⟨val_nm hx trivial, val_nm hy trivial, ?_⟩
 rw [hx, hy]
 refine ⟨h0, hac, hn, ?_⟩
 rw [List.map_replicate, hz] at k
 exact k
theorem copy_ {α : Type} {e : α → List V} {l0 l1 : List α} {x y : Opd} {t off sz : Nat} {vy : V} (hx : S.val x = .own t off sz (l0.map e)) (hy : S.val y = vy) (hm : mayOK true vy) (hs : srcEs (strip vy) = some (sz, l1.map e))
  (k : K ((S.map (upd t sz off ((l1.take l0.length).map e))).put d (.int .i64 (min l1.length l0.length : Nat)))) : wIns C ⟨d, .copy sz x y, none⟩ S K := by
 refine ⟨val_nm hx trivial, val_nm hy hm, ?_⟩
 rw [hx, hy]
 dsimp only [strip]
 dsimp only [strip] at hs
 rw [hs]
 refine ⟨rfl, rfl, ?_⟩
 rw [List.map_take, ] at k
 simpa using k
theorem clear_ {α : Type} {e : α → List V} {l0 : List α} {z : α} {x : Opd} {t off sz : Nat} {zero : List V} (hx : S.val x = .own t off sz (l0.map e)) (hz : e z = zero)
  (k : K ((S.map (upd t sz off ((List.replicate l0.length z).map e))).put d .undef)) : wIns C ⟨d, .clear sz zero x, none⟩ S K := by
 refine ⟨val_nm hx trivial, ?_⟩
 rw [hx]
 refine ⟨rfl, ?_⟩
 rw [List.map_replicate, hz] at k
 simpa using k
theorem chk3L {α : Type} {e : α → List V} {l0 : List α} {x lo hi mx : Opd} {sz : Nat} {k1 k2 k3 : IntKind} {a b c : Int} (hx : S.val x = .lst sz (l0.map e)) (h1 : S.val lo = .int k1 a) (h2 : S.val hi = .int k2 b) (h3 : S.val mx = .int k3 c)
  (hc : 0 ≤ a ∧ a ≤ b ∧ b ≤ c ∧ c ≤ (l0.length : Int)) (k : K (S.put d .undef)) (hz : sz ≠ 0 := by decide) : wIns C ⟨d, .chk3 x lo hi mx, none⟩ S K := by
 obtain ⟨s0, rfl⟩ := Nat.exists_eq_succ_of_ne_zero hz
 refine ⟨⟨val_nm hx trivial, val_nm h1 trivial, val_nm h2 trivial, val_nm h3 trivial⟩, ?_⟩
 rw [hx, h1, h2, h3]
 exact ⟨hc.1, hc.2.1, hc.2.2.1, by simpa using hc.2.2.2, k⟩
theorem chk3O {α : Type} {e : α → List V} {l0 : List α} {x lo hi mx : Opd} {t off sz : Nat} {k1 k2 k3 : IntKind} {a b c : Int} (hx : S.val x = .own t off sz (l0.map e)) (h1 : S.val lo = .int k1 a) (h2 : S.val hi = .int k2 b) (h3 : S.val mx = .int k3 c)
  (hc : 0 ≤ a ∧ a ≤ b ∧ b ≤ c ∧ c ≤ (l0.length : Int)) (k : K (S.put d .undef)) (hz : sz ≠ 0 := by decide) : wIns C ⟨d, .chk3 x lo hi mx, none⟩ S K := by
 obtain ⟨s0, rfl⟩ := Nat.exists_eq_succ_of_ne_zero hz
 refine ⟨⟨val_nm hx trivial, val_nm h1 trivial, val_nm h2 trivial, val_nm h3 trivial⟩, ?_⟩
 rw [hx, h1, h2, h3]
 exact ⟨hc.1, hc.2.1, hc.2.2.1, by simpa using hc.2.2.2, k⟩
theorem isnilL {α : Type} {e : α → List V} {l0 : List α} {x : Opd} {sz : Nat} {ne : Bool} (hx : S.val x = .lst sz (l0.map e)) (k : ∀ b : Bool, (b = true → l0 = []) → K (S.put d (.bool (if ne then !b else b)))) (hz : sz ≠ 0 := by decide) :
  wIns C ⟨d, .isnil x ne, none⟩ S K := by
 obtain ⟨s0, rfl⟩ := Nat.exists_eq_succ_of_ne_zero hz
 refine ⟨val_nm hx trivial, ?_⟩
 rw [hx]
 exact fun b hb => k b fun h => by simpa using hb h
theorem toBytes_ {x : Opd} {s : List UInt8} (hx : S.val x = .str s) (k : K (S.put d (.lst 1 (s.map eU8)))) : wIns C ⟨d, .toBytes x, none⟩ S K := by
 refine ⟨val_nm hx trivial, ?_⟩
 rw [hx]
 exact k
theorem mkS_ {sz len d : Nat} {zero : List V} {parts : List (Nat × Opd)} (hm : allP (fun p => nm S p.2) parts)
  (h : allP (fun p => p.1 < len ∧ p.2.cells.length = sz ∧ p.2.cells.all (fun c => !isPtr c) = true) (parts.map fun p => (p.1, strip (S.val p.2))))
  (k : K (((S.freezes (partTags (parts.map fun p => (p.1, strip (S.val p.2))))).drop (64 * d)).put (some d)
    (.own (64 * d) 0 sz (fillEs sz (List.replicate len zero) ((parts.map fun p => (p.1, strip (S.val p.2))).map fun p => (p.1, p.2.cells.map closeC0)))))) :
  wIns C ⟨some d, .mkS sz zero len parts, none⟩ S K := ⟨hm, h, k⟩
theorem wcall0 {f : Nat} {args : List V} (fz : Bool) {gv : List V} {r : V} (h : C f ⟨gv, []⟩ ⟨r, [], []⟩) (h0 : allB (fun v => !isUndef v) args = true) (hg : args.map (mapW (S.liftC [] [] [] fz)) = gv)
  (h3 : fz = false → r.flat.all flatC = true) (k : K (((if fz then S.freezes (tagsL (flatL args)) else S).drops (newRs (d.getD 0) (tagsL r.flat))).put d (mapV (backC (d.getD 0) 0 [] []) r))) : wCall C f args d S K := by
 have e0 : ∀ l : List Nat, sans [] l = l := fun l => by
  induction l with
  | nil => rfl
  | cons x r ih => simp [sans, ih]
 refine ⟨h0, [], [], [], fz, ⟨r, [], []⟩, ⟨rfl, rfl, rfl, rfl⟩, ⟨rfl, rfl, rfl⟩, fun hz => ?_, ?_, ?_⟩
 ·simp [Take.flat, h3 hz]
 ·subst hg; exact h
 ·simpa [St.after, St.frzTags, St.given, e0, Take.newR, Take.newB, newTs, St.rows, St.boxes, St.drops] using k
theorem call0_ {f : Nat} {as : List Opd} (fz : Bool) {gv : List V} {r : V} (h : C f ⟨gv, []⟩ ⟨r, [], []⟩) (hm : allP (nm S) as) (h0 : allB (fun v => !isUndef v) (as.map fun x => strip (S.val x)) = true)
  (hg : (as.map fun x => strip (S.val x)).map (mapW (S.liftC [] [] [] fz)) = gv) (h3 : fz = false → r.flat.all flatC = true)
  (k : K (((if fz then S.freezes (tagsL (flatL (as.map fun x => strip (S.val x)))) else S).drops (newRs (d.getD 0) (tagsL r.flat))).put d (mapV (backC (d.getD 0) 0 [] []) r))) :
  wIns C ⟨d, .call f as, none⟩ S K := ⟨hm, wcall0 fz h h0 hg h3 k⟩
theorem callv0_ {f : Nat} {x : Opd} {as : List Opd} {caps : List V} (hx : S.val x = .clo f caps) (fz : Bool) {gv : List V} {r : V} (h : C f ⟨gv, []⟩ ⟨r, [], []⟩) (hm : allP (nm S) as)
  (h0 : allB (fun v => !isUndef v) ((as.map fun x => strip (S.val x)) ++ caps) = true) (hg : ((as.map fun x => strip (S.val x)) ++ caps).map (mapW (S.liftC [] [] [] fz)) = gv) (h3 : fz = false → r.flat.all flatC = true)
  (k : K (((if fz then S.freezes (tagsL (flatL ((as.map fun x => strip (S.val x)) ++ caps))) else S).drops (newRs (d.getD 0) (tagsL r.flat))).put d (mapV (backC (d.getD 0) 0 [] []) r))) :
  wIns C ⟨d, .callv x as, none⟩ S K := by
 refine ⟨val_nm hx trivial, hm, ?_⟩
 rw [hx]
 exact wcall0 fz h h0 hg h3 k
theorem wcall1 {f : Nat} {args : List V} (LB LR LM : List Nat) (fz : Bool) {g : Give} {t : Take} (h : C f g t) (h0 : allB (fun v => !isUndef v) args = true) (hg : S.give args LB LR LM fz = g)
  (h1 : (nodupB LB && nodupB (LR ++ LM) && less pin0 LM && LB.all (fun T => (look S.bx T).isSome)) = true)
  (h2 : (less 65 [t.bx.length - LB.length, LM.length] && apart (t.newB (d.getD 0) LB.length) LB && apart (t.newR (d.getD 0)) LR) = true) (h3 : fz = false → t.flat = true)
  (k : K ((S.after args (d.getD 0) fz LB LR LM t).put d (mapV (backC (d.getD 0) (t.bx.length - LB.length) LB LR) t.r))) : wCall C f args d S K := by
 simp only [Bool.and_eq_true] at h1 h2
 refine ⟨h0, LB, LR, LM, fz, t, ⟨h1.1.1.1, h1.1.1.2, h1.1.2, h1.2⟩, ⟨h2.1.1, h2.1.2, h2.2⟩, h3, ?_, k⟩
 subst hg; exact h
theorem call1_ {f : Nat} {as : List Opd} (LB LR LM : List Nat) (fz : Bool) {g : Give} {t : Take} (h : C f g t) (hm : allP (nm S) as) (h0 : allB (fun v => !isUndef v) (as.map fun x => strip (S.val x)) = true)
  (hg : S.give (as.map fun x => strip (S.val x)) LB LR LM fz = g)
  (h1 : (nodupB LB && nodupB (LR ++ LM) && less pin0 LM && LB.all (fun T => (look S.bx T).isSome)) = true)
  (h2 : (less 65 [t.bx.length - LB.length, LM.length] && apart (t.newB (d.getD 0) LB.length) LB && apart (t.newR (d.getD 0)) LR) = true) (h3 : fz = false → t.flat = true)
  (k : K ((S.after (as.map fun x => strip (S.val x)) (d.getD 0) fz LB LR LM t).put d (mapV (backC (d.getD 0) (t.bx.length - LB.length) LB LR) t.r))) : wIns C ⟨d, .call f as, none⟩ S K :=
 ⟨hm, wcall1 LB LR LM fz h h0 hg h1 h2 h3 k⟩
theorem callv1_ {f : Nat} {x : Opd} {as : List Opd} {caps : List V} (hx : S.val x = .clo f caps) (LB LR LM : List Nat) (fz : Bool) {g : Give} {t : Take} (h : C f g t) (hm : allP (nm S) as)
  (h0 : allB (fun v => !isUndef v) ((as.map fun x => strip (S.val x)) ++ caps) = true) (hg : S.give ((as.map fun x => strip (S.val x)) ++ caps) LB LR LM fz = g)
  (h1 : (nodupB LB && nodupB (LR ++ LM) && less pin0 LM && LB.all (fun T => (look S.bx T).isSome)) = true)
  (h2 : (less 65 [t.bx.length - LB.length, LM.length] && apart (t.newB (d.getD 0) LB.length) LB && apart (t.newR (d.getD 0)) LR) = true) (h3 : fz = false → t.flat = true)
  (k : K ((S.after ((as.map fun x => strip (S.val x)) ++ caps) (d.getD 0) fz LB LR LM t).put d (mapV (backC (d.getD 0) (t.bx.length - LB.length) LB LR) t.r))) : wIns C ⟨d, .callv x as, none⟩ S K := by
 refine ⟨val_nm hx trivial, hm, ?_⟩
 rw [hx]
 exact wcall1 LB LR LM fz h h0 hg h1 h2 h3 k
theorem callg_ {f : Nat} {as : List Opd} {gs : Nat} {want g : Bool} (hgv : gval (S.val (.t gs)) want = some g) (fz : Bool) {gv : List V} {r : V} (h : g = true → C f ⟨gv, []⟩ ⟨r, [], []⟩)
  (hm : allP (fun x => mayOK g (S.val x)) as) (h0 : g = true → allB (fun v => !isUndef v) (as.map fun x => strip (S.val x)) = true)
  (hg : g = true → (as.map fun x => strip (S.val x)).map (mapW (S.liftC [] [] [] fz)) = gv) (h3 : fz = false → r.flat.all flatC = true) (h4 : fz = true → tagsL (flatL (as.map fun x => strip (S.val x))) = [])
  (k : K (S.put d (.may g (mapV closeG r)))) : wIns C ⟨d, .call f as, some (gs, want)⟩ S K := by
 unfold wIns
 dsimp only
 rw [hgv]
 exact .inl ⟨hm, h0, fz, r, fun e => by have := hg e; subst this; exact h e, h3, h4, k⟩
theorem callvg_ {f : Nat} {x : Opd} {as : List Opd} {caps : List V} {vx : V} {gs : Nat} {want g : Bool} (hgv : gval (S.val (.t gs)) want = some g) (hx : S.val x = vx) (hx' : strip vx = .clo f caps) (hmx : mayOK g vx) (fz : Bool) {gv : List V} {r : V}
  (h : g = true → C f ⟨gv, []⟩ ⟨r, [], []⟩)
  (hm : allP (fun x => mayOK g (S.val x)) as) (h0 : g = true → allB (fun v => !isUndef v) ((as.map fun x => strip (S.val x)) ++ caps) = true)
  (hg : g = true → ((as.map fun x => strip (S.val x)) ++ caps).map (mapW (S.liftC [] [] [] fz)) = gv) (h3 : fz = false → r.flat.all flatC = true) (h4 : fz = true → tagsL (flatL ((as.map fun x => strip (S.val x)) ++ caps)) = [])
  (k : K (S.put d (.may g (mapV closeG r)))) : wIns C ⟨d, .callv x as, some (gs, want)⟩ S K := by
 unfold wIns
 dsimp only
 rw [hgv]
 refine .inl ⟨by rw [hx]; exact hmx, hm, ?_⟩
 rw [hx, hx']
 exact ⟨h0, fz, r, fun e => by have := hg e; subst this; exact h e, h3, h4, k⟩
theorem callg2_ {f : Nat} {as : List Opd} {gs : Nat} {want g : Bool} (hgv : gval (S.val (.t gs)) want = some g) (h1 : g = true → wIns C ⟨d, .call f as, none⟩ S K) (h2 : g = false → K (S.put d .undef)) :
  wIns C ⟨d, .call f as, some (gs, want)⟩ S K := by
 unfold wIns
 dsimp only
 rw [hgv]
 exact .inr ⟨h1, h2⟩
theorem cb8 {o : PU} {x : Int} (h : calmOp S (.p o) (.int .u8 (IntKind.u8.wrap x))) : calmOp S (.p o) (.int .u8 ((b8 x).toNat : Int)) := by
 unfold b8
 rw [u8_wrap]
 exact h
theorem fl2 {α : Type} {e : α → List V} {xs : List α} (h : ∀ x, (e x).all scal = true) : ((xs.map e).all fun x => x.all scal) = true := by
 simp only [List.all_map, List.all_eq_true, Function.comp]
 intro x _
 exact List.all_eq_true.1 (h x)
theorem mlen {α : Type} {e : α → List V} {xs : List α} {n : Nat} (h : ∀ x, (e x).length = n) : ∀ y ∈ xs.map e, y.length = n := by
 intro y hy
 obtain ⟨x, _, rfl⟩ := List.mem_map.1 hy
 exact h x
theorem fl1 {α : Type} {e : α → List V} {xs : List α} {t off sz : Nat} (h : ∀ x, (e x).all scal = true) : flatC (.own t off sz (xs.map e)) = true := by
 simp only [flatC, List.all_map, List.all_eq_true, Function.comp]
 intro x _
 exact List.all_eq_true.1 (h x)
theorem ret_ {res : List Res} {nb : Nat} {t : Take} {v : V} {css : List (List V)} (h1 : resV S res = some v) (h2 : lookAll S (pinBs nb ++ boxesOf v.flat) = some css)
  (h3 : less 65 [(rowsOf (v.flat ++ css.flatten)).length, (boxesOf v.flat).length] = true) (h4 : mapV (renC (rowsOf (v.flat ++ css.flatten)) (boxesOf v.flat)) v = t.r)
  (h5 : mapBs (renC (rowsOf (v.flat ++ css.flatten)) (boxesOf v.flat)) css = t.bx) (h6 : rowsBack S 0 t.rw) : FQ res nb t .ret S := by
 refine ⟨S, Fg.refl S, ?_⟩
 unfold RetOK
 rw [h1]
 show takeOK S v nb t
 unfold takeOK
 dsimp only
 rw [h2]
 exact ⟨h3, h4, h5, h6⟩
theorem retf_ {res : List Res} {nb : Nat} {t : Take} {S1 : St} (hf : Fg S S1) (h : FQ res nb t .ret S1) : FQ res nb t .ret S := by
 obtain ⟨S2, h1, h2⟩ := h
 exact ⟨S2, hf.trans h1, h2⟩
theorem retn_ {res : List Res} {nb : Nat} {t : Take} (h : FQ res nb t .ret S) : FQ res nb t .normal S := h
theorem fn_ {fn : XFn} {args : List V} {bx : List (List V)} {t : Take} (h0 : args.length ≤ fn.nt) (h : WL C [.c fn.body] (FQ fn.res bx.length t) .normal ⟨enumA args 0, enumB bx pin0, []⟩) : FnOK C fn ⟨args, bx⟩ t := ⟨h0, .inl h⟩
theorem fnc_ {fn : XFn} {args : List V} {bx : List (List V)} {t : Take} (h0 : args.length ≤ fn.nt) (h : ∀ f : Nat → Nat, (∀ (k t off sz : Nat) (es : List (List V)), args[k]? = some (.own t off sz es) → sz ≠ 0 → es.length ≤ f k ∧ (off = 0 → f k ≤ 9223372036854775807)) →
  WL C [.c fn.body] (FQ fn.res bx.length t) .normal ⟨enumA args 0, enumB bx pin0, capsIn f args 0⟩) : FnOK C fn ⟨args, bx⟩ t := ⟨h0, .inr h⟩
theorem slcN {α : Type} (l : List α) (a b : Nat) (h : a ≤ b) (h2 : b ≤ l.length) : slc l (a : Int) ((some (b : Int)).getD l.length) = some ((l.take b).drop a) := by
 unfold slc
 simp only [Option.getD_some]
 rw [if_pos ⟨by omega, by omega, by omega⟩]
 simp
theorem slcD {α : Type} (l : List α) (a : Nat) (h : a ≤ l.length) : slc l ((some (a : Int)).getD 0) ((none : Option Int).getD l.length) = some (l.drop a) := by
 unfold slc
 simp only [Option.getD_some, Option.getD_none]
 rw [if_pos ⟨by omega, by omega, by omega⟩]
 simp
theorem putC_congr {d : Option Nat} {v : V} {f g : List (Nat × Int) → Option Int} (h : f S.cp = g S.cp) : S.putC d v f = S.putC d v g := by
 cases d with
 | none => rfl
 | some d =>
  have : cpPut d f S.cp = cpPut d g S.cp := by
   cases hl : S.cp with
   | nil => rw [hl] at h; simp only [cpPut, h]
   | cons p r => rw [hl] at h; simp only [cpPut, h]
  simp only [St.putC, this]
theorem appc_ {α : Type} {e : α → List V} {l0 l1 : List α} {x y : Opd} {t sz by_ : Nat} {vy : V} {c : Int} (hx : S.val x = .own t 0 sz (l0.map e)) (hy : S.val y = vy) (hm : mayOK true vy) (hs : srcEs (strip vy) = some (sz, l1.map e))
  (ht : t < pin0) (hn : (l0.length + l1.length) * by_ ≤ 140737488355328) (hc : S.capOf x = some c) (hle : ((l0.length + l1.length : Nat) : Int) ≤ lowC c)
  (k : K ((S.drop t).putC d (.own t 0 sz ((l0 ++ l1).map e)) fun _ => some c)) : wIns C ⟨d, .app sz by_ x y, none⟩ S K := by
 refine app_ hx hy hm hs ht hn ?_
 rw [putC_congr (g := fun _ => some c)]
 ·exact k
 ·show capAppL x _ S.cp = _
  unfold capAppL
  rw [show capOfL S.cp x = some c from hc]
  dsimp only
  rw [if_pos hle]
theorem sliceRoom {α : Type} {e : α → List V} {R : List α} {x lo hi : Opd} {t sz L H : Nat} {k1 k2 : IntKind} {c : Int} (hx : S.val x = .own t 0 sz (R.map e)) (hlo : S.val lo = .int k1 (L : Int)) (hhi : S.val hi = .int k2 (H : Int))
  (hR : R.length = L) (hLH : L ≤ H) (hsz : 0 < sz) (hc : S.capOf x = some c) (hH : (H : Int) ≤ lowC c) : calmOp S (.p (.slice x (some lo) (some hi) sz)) (.own t L sz (room sz (H - L))) := by
 have ha : asNat ((some lo).map fun x => strip (S.val x)) = some (some (L : Int)) := by simp only [Option.map_some, hlo]; rfl
 have hb : asNat ((some hi).map fun x => strip (S.val x)) = some (some (H : Int)) := by simp only [Option.map_some, hhi]; rfl
 refine ⟨⟨val_nm hx trivial, val_nm hlo trivial, val_nm hhi trivial, trivial⟩, ?_⟩
 have e1 : ((R.map e ++ room sz (H - L)).take H).drop L = room sz (H - L) := by
  rw [List.take_of_length_le (by simp [room]; omega)]
  exact List.drop_left' (by simpa using hR)
 have hx' : strip (S.val x) = .own t 0 sz (R.map e) := by rw [hx]; rfl
 simp only [pu, hx', ha, hb, Option.getD_some, List.length_map, Int.toNat_natCast, hR, e1, Nat.zero_add]
 exact ⟨_, rfl, trivial, by omega, by omega, .inr ⟨trivial, hsz, c, hc, hH⟩⟩
def eo {α : Type} (e : α → List V) (k : Nat) : Option α → List V
 | none => List.replicate k .undef
 | some x => e x
theorem eo_some {α : Type} {e : α → List V} {k : Nat} (l : List α) : l.map e = (l.map some).map (eo e k) := by
 rw [List.map_map]; rfl
theorem sliceUp {α : Type} {e : α → List V} {l0 : List α} {x hi : Opd} {t sz H : Nat} {k2 : IntKind} {c : Int} (hx : S.val x = .own t 0 sz (l0.map e)) (hhi : S.val hi = .int k2 (H : Int))
  (hLH : l0.length ≤ H) (hsz : 0 < sz) (hc : S.capOf x = some c) (hH : (H : Int) ≤ lowC c) : calmOp S (.p (.slice x none (some hi) sz)) (.own t 0 sz ((l0.map some ++ List.replicate (H - l0.length) none).map (eo e sz))) := by
 have hb : asNat ((some hi).map fun x => strip (S.val x)) = some (some (H : Int)) := by simp only [Option.map_some, hhi]; rfl
 have ha : asNat ((none : Option Opd).map fun x => strip (S.val x)) = some none := rfl
 refine ⟨⟨val_nm hx trivial, val_nm hhi trivial, trivial⟩, ?_⟩
 have e1 : ((l0.map e ++ room sz (H - l0.length)).take H).drop 0 = (l0.map some ++ List.replicate (H - l0.length) none).map (eo e sz) := by
  rw [List.drop_zero, List.take_of_length_le (by simp [room]; omega), List.map_append, List.map_replicate, ← eo_some]
  rfl
 have hx' : strip (S.val x) = .own t 0 sz (l0.map e) := by rw [hx]; rfl
 simp only [pu, hx', ha, hb, Option.getD_some, Option.getD_none, List.length_map, Int.toNat_natCast, Int.toNat_zero, e1]
 exact ⟨_, rfl, trivial, by omega, by omega, .inr ⟨trivial, hsz, c, hc, hH⟩⟩
theorem wrapI {x : Int} (h1 : -9223372036854775808 ≤ x) (h2 : x ≤ 9223372036854775807) : IntKind.i64.wrap x = x := by
 have e1 : IntKind.i64.wrap x = if x % 18446744073709551616 ≥ 9223372036854775808 then x % 18446744073709551616 - 18446744073709551616 else x % 18446744073709551616 := by
  simp [IntKind.wrap, IntKind.bits, IntKind.signed]
 rw [e1]; split <;> omega
theorem wrapN {x : Int} (n : Nat) (h : x = n) (hb : n ≤ 140737488355328) : IntKind.i64.wrap x = n := by
 subst h
 have e1 : IntKind.i64.wrap (n : Int) = if (n : Int) % 18446744073709551616 ≥ 9223372036854775808 then (n : Int) % 18446744073709551616 - 18446744073709551616 else (n : Int) % 18446744073709551616 := by
  simp [IntKind.wrap, IntKind.bits, IntKind.signed]
 rw [e1]; split <;> omega
theorem ovl_len {α : Type} {l ys : List α} {i : Nat} : (ovl l i ys).length = l.length := by simp [ovl]
theorem ovl_eq {α : Type} {l ys : List α} {i : Nat} (h : i + ys.length ≤ l.length) : ovl l i ys = l.take i ++ ys ++ l.drop (i + ys.length) := by
 apply List.ext_getElem?
 intro k
 simp only [ovl, List.getElem?_mapIdx, List.append_assoc, List.getElem?_append, List.getElem?_drop, List.length_take, Nat.min_eq_left (show i ≤ l.length by omega), List.getElem?_take]
 by_cases h1 : k < i
 ·simp only [h1, if_true, if_neg (show ¬ i ≤ k by omega)]
  cases l[k]? <;> rfl
 ·simp only [h1, if_false, if_pos (show i ≤ k by omega)]
  by_cases h2 : k - i < ys.length
  ·simp only [h2, if_true]
   have : k < l.length := by omega
   simp [this, h2]
  ·simp only [h2, if_false]
   rw [show i + ys.length + (k - i - ys.length) = k by omega, List.getElem?_eq_none (show ys.length ≤ k - i by omega)]
   cases l[k]? <;> rfl
theorem ovl_two {α : Type} {A X Y Z : List α} {i : Nat} (h0 : A.length = i + Y.length + Z.length) (h1 : A.take i = X) : ovl (ovl A (i + Y.length) Z) i Y = X ++ Y ++ Z := by
 have hx : X.length = i := by rw [← h1]; simp; omega
 have hd : A.drop (i + Y.length + Z.length) = [] := List.drop_eq_nil_of_le (by omega)
 have e1 : ovl A (i + Y.length) Z = A.take (i + Y.length) ++ Z := by rw [ovl_eq (by omega), hd, List.append_nil]
 have hl : (A.take (i + Y.length)).length = i + Y.length := by simp; omega
 have e2 : (A.take (i + Y.length) ++ Z).take i = X := by rw [List.take_append_of_le_length (by omega), List.take_take, Nat.min_eq_left (by omega), h1]
 have e3 : (A.take (i + Y.length) ++ Z).drop (i + Y.length) = Z := List.drop_left' hl
 rw [e1, ovl_eq (by rw [List.length_append, hl]; omega), e2, e3]
theorem ovl_swap {α : Type} {A X Y Z : List α} {i : Nat} (h0 : A.length = i + Y.length + Z.length) (h1 : A.take i = X) : ovl (ovl A i Y) (i + Y.length) Z = X ++ Y ++ Z := by
 have hx : X.length = i := by rw [← h1]; simp; omega
 have e1 : ovl A i Y = X ++ Y ++ A.drop (i + Y.length) := by rw [ovl_eq (by omega), h1]
 have hd : (X ++ Y ++ A.drop (i + Y.length)).drop (i + Y.length + Z.length) = [] := List.drop_eq_nil_of_le (by simp; omega)
 rw [e1, ovl_eq (by simp; omega), hd, List.append_nil, List.take_left' (by simp; omega)]
theorem ovl_ins2 {α : Type} {A : List (Option α)} {a0 a2 : List α} {i : Nat} (h0 : A.length = a0.length + a2.length) (h1 : A.take i = (a0.take i).map some) (hi : i ≤ a0.length) :
  ovl (ovl A (i + a2.length) ((a0.drop i).map some)) i (a2.map some) = (a0.take i ++ a2 ++ a0.drop i).map some := by
 have := ovl_two (A := A) (Y := a2.map some) (Z := (a0.drop i).map some) (by simp; omega) h1
 rw [List.length_map] at this
 rw [this]; simp
theorem ovl_ins {α : Type} {R a0 a2 : List α} {i : Nat} (h0 : R.length = a0.length + a2.length) (h1 : R.take i = a0.take i) (hi : i ≤ a0.length) :
  ovl (ovl R i (a2.take (R.drop i).length)) (i + a2.length) ((a0.drop i).take ((ovl R i (a2.take (R.drop i).length)).drop (i + a2.length)).length) = a0.take i ++ a2 ++ a0.drop i := by
 have e0 : a2.take (R.drop i).length = a2 := List.take_of_length_le (by rw [List.length_drop]; omega)
 have e2 : (a0.drop i).take ((ovl R i a2).drop (i + a2.length)).length = a0.drop i := List.take_of_length_le (by rw [List.length_drop, List.length_drop, ovl_len]; omega)
 rw [e0, e2]
 exact ovl_swap (by rw [List.length_drop]; omega) h1
theorem overlay_past {es ys : List (List V)} {at_ : Nat} (h : es.length ≤ at_) : overlay 0 es at_ ys = es := by
 apply List.ext_getElem
 ·simp [overlay]
 ·intro k h1 h2
  simp only [overlay, List.getElem_mapIdx]
  rw [if_neg (by omega)]
theorem clearAt_ {x : Opd} {t off sz : Nat} {es : List (List V)} {zero : List V} (hx : S.val x = .own t off sz es) (k : K ((S.map (upd t sz off (List.replicate es.length zero))).put d .undef)) : wIns C ⟨d, .clear sz zero x, none⟩ S K := by
 refine ⟨val_nm hx trivial, ?_⟩
 rw [hx]
 exact ⟨rfl, k⟩
theorem past1 {α : Type} {e : α → List V} {R : List α} {t sz at_ : Nat} {ys : List (List V)} (h : R.length ≤ at_) : some (V.own t 0 sz (overlay 0 (R.map e) at_ ys)) = some (.own t 0 sz (R.map e)) := by
 rw [overlay_past (by simpa using h)]
theorem draw_ {p : DP} (h : WD C p [] (WL C T Q .normal) S) : WL C (.c (.draw p) :: T) Q .normal S := h
theorem drawJ {p : DP} (R : St → Prop) (hJ : ∀ S, R S → WL C T Q .normal S) (h : (∀ S S1, Fg S S1 → R S1 → WL C (.w :: T) Q .normal S) → WD C p [] (WL C (.w :: T) Q .normal) S) :
  WL C (.c (.draw p) :: .w :: T) Q .normal S := h fun _ S1 h1 h2 => ⟨S1, h1, hJ S1 h2⟩
section
variable {X : List Ins}
theorem dfin (h : K S) : WD C .fin X K S := h
theorem dtake {p : DP} (h1 : plainLoad i S) (h2 : wIns C i S (fun S' => againOK C X S' ∧ WD C p X K S')) : WD C (.take i p) X K S := .inl ⟨h1, h2⟩
theorem dtakeO {p : DP} (h2 : wIns C i S (fun S' => againOK C (i :: X) S' ∧ WD C p (i :: X) K S')) : WD C (.take i p) X K S := .inr h2
theorem dstop : WD C .stop X K S := trivial
theorem dalt {held : List Ins} {r rest : DP} (h1 : wIns C i S (fun S' => ∃ S1, Fg S' S1 ∧ ∃ X', heldOK C X' held S1 ∧ againOK C X' S1 ∧ WD C r X' K S1)) (h2 : WD C rest X K S) : WD C (.alt held i r rest) X K S := ⟨h1, h2⟩
theorem dk0 {held : List Ins} {r : DP} (h : ∃ X', heldOK C X' held S ∧ againOK C X' S ∧ WD C r X' K S) : ∃ S1, Fg S S1 ∧ ∃ X', heldOK C X' held S1 ∧ againOK C X' S1 ∧ WD C r X' K S1 := ⟨S, Fg.refl S, h⟩
theorem dkw {held : List Ins} {r : DP} (S1 : St) (hf : Fg S S1) (h : ∃ X', heldOK C X' held S1 ∧ againOK C X' S1 ∧ WD C r X' K S1) : ∃ S1, Fg S S1 ∧ ∃ X', heldOK C X' held S1 ∧ againOK C X' S1 ∧ WD C r X' K S1 := ⟨S1, hf, h⟩
theorem same_ {d : Nat} {v : V} (hl : look S.env d = some v) (hc : S.cp = []) : Same (S.put (some d) v) S := by
 constructor
 ·intro t
  show look ((d, v) :: S.env) t = _
  simp only [look]
  split
  ·rename_i e; subst e; exact hl.symm
  ·rfl
 ·intro k
  show look (cpPut d (fun _ => none) S.cp) k = look S.cp k
  rw [hc]; rfl
theorem capOf_nil (hc : S.cp = []) (x : Opd) : S.capOf x = none := by
 cases x with
 | t n => show look S.cp n = none; rw [hc]; rfl
 | c v => rfl
theorem capRes_nil (hc : S.cp = []) {rd : Opd → V} (o : PU) : capRes S rd o = none := by
 cases o <;> try rfl
 case mv x => exact capOf_nil hc x
 case slice x lo hi sz =>
  simp only [capRes, capResL]
  rw [show capOfL S.cp x = none from capOf_nil hc x]
theorem again1 {o : PU} {d : Nat} {v : V} (h : calmOp S (.p o) v) (hl : look S.env d = some v) (hc : S.cp = [] := by rfl) : wIns C ⟨some d, .p o, none⟩ S (fun S' => Same S' S) :=
 c_ h (by rw [putC_congr (g := fun _ => none) (capRes_nil hc o)]; exact same_ hl hc)
theorem againg {o : PU} {d : Nat} {v : V} {gs : Nat} {want g : Bool} (hg : gval (S.val (.t gs)) want = some g) (h : g = true → calmOp S (.p o) v) (hl : look S.env d = some (.may g v)) (hc : S.cp = [] := by rfl) : wIns C ⟨some d, .p o, some (gs, want)⟩ S (fun S' => Same S' S) := pg_ hg h (same_ hl hc)
theorem againp {c a b : Opd} {d : Nat} {v : V} (h : calmOp S (.pick c a b) v) (hl : look S.env d = some v) (hc : S.cp = [] := by rfl) : wIns C ⟨some d, .pick c a b, none⟩ S (fun S' => Same S' S) := by
 obtain ⟨h1, cb, h2, h3, h4, rfl⟩ := h
 refine ⟨h1, ?_⟩
 rw [h2]
 exact ⟨h3, h4, same_ hl hc⟩
end
theorem againpg {c a b : Opd} {d : Nat} {v : V} {gs : Nat} {want g : Bool} (hg : gval (S.val (.t gs)) want = some g) (h : g = true → calmOp S (.pick c a b) v) (hl : look S.env d = some (.may g v)) (hc : S.cp = [] := by rfl) : wIns C ⟨some d, .pick c a b, some (gs, want)⟩ S (fun S' => Same S' S) := pickg_ hg h (same_ hl hc)
end
end Go.Ev
