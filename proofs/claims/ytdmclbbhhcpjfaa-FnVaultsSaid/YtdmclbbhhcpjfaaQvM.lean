/- Steps of the small machine, second part: slices, rows that grow, calls, ends, drawn orders. -/
import Derived.Test.YtdmclbbhhcpjfaaQvL
set_option linter.all false
namespace Go.Ev
def Tv {α : Type} (l : List α) (lo hi : Int) : Option (List α) := if 0 ≤ lo ∧ lo ≤ hi ∧ hi ≤ l.length then some ((l.take hi.toNat).drop lo.toNat) else none
theorem aD {α : Type} {l y : List α} {lo hi : Int} (h : Tv l lo hi = some y) : 0 ≤ lo ∧ lo ≤ hi ∧ hi ≤ l.length ∧ y = (l.take hi.toNat).drop lo.toNat := by
 unfold Tv at h
 split at h
 ·rename_i hc
  exact ⟨hc.1, hc.2.1, hc.2.2, (Option.some.inj h).symm⟩
 ·cases h
def ovl {α : Type} (l : List α) (at_ : Nat) (ys : List α) : List α := l.mapIdx fun i e => if at_ ≤ i then (ys[i - at_]?).getD e else e
theorem iF {α : Type} {e : α → List V} {l ys : List α} {off i : Nat} : Fd off (l.map e) (off + i) (ys.map e) = (ovl l i ys).map e := by
 unfold Fd ovl
 apply List.ext_getElem?
 intro k
 simp only [List.getElem?_mapIdx, List.getElem?_map]
 cases hk : l[k]? with
 | none => rfl
 | some z =>
  simp only [Option.map_some]
  by_cases h : i ≤ k
  ·have e1 : off + k - (off + i) = k - i := by omega
   rw [if_pos (by omega), if_pos h, e1]
   cases ys[k - i]? <;> rfl
  ·rw [if_neg (by omega), if_neg h]
theorem TH {α : Type} {e : α → List V} {l ys : List α} : Fd 0 (l.map e) 0 (ys.map e) = (ovl l 0 ys).map e := iF (off := 0) (i := 0)
theorem row_eq {α : Type} {e : α → List V} {l y : List α} {t off sz : Nat} (h : y.length = l.length) :
  (if off = off ∧ sz = sz ∧ (l.map e).length = (y.map e).length then V.own t off sz (y.map e) else .undef) = .own t off sz (y.map e) := if_pos ⟨rfl, rfl, by simp [h]⟩
section
variable {C : Bc} {Q : Ex → St → Prop} {S : St} {T : List Hi} {l : List Ch} {d : Option Nat} {K : St → Prop} {i : Ch}
theorem Cm {x : Cc} {v : V} (h : S.val x = v) (hm : Az true v) : Az true (S.val x) := by rw [h]; exact hm
theorem Pf {α : Type} {e : α → List V} {l0 y : List α} {x : Cc} {lo hi : Option Cc} {a b : Option Int} {vx : V} {sz : Nat} (hx : S.val x = vx) (hx' : As vx = .lst sz (l0.map e)) (hm : Az true vx)
  (hm2 : Cd (nm S) (lo.toList ++ hi.toList)) (ha : Fu (lo.map fun x => As (S.val x)) = some a) (hb : Fu (hi.map fun x => As (S.val x)) = some b)
  (hy : Tv l0 (a.getD 0) (b.getD l0.length) = some y) : Cv S (.p (.slice x lo hi sz)) (.lst sz (y.map e)) := by
 obtain ⟨h1, h2, h3, rfl⟩ := aD hy
 refine ⟨⟨Cm hx hm, hm2⟩, ?_⟩
 simp only [pu, hx, hx', ha, hb, List.length_map, ← List.map_take, ← List.map_drop]
 exact ⟨_, rfl, trivial, h1, h2, h3⟩
theorem dF {α : Type} {e : α → List V} {l0 y : List α} {x : Cc} {lo hi : Option Cc} {a b : Option Int} {vx : V} {t off sz : Nat} (hx : S.val x = vx) (hx' : As vx = .own t off sz (l0.map e)) (hm : Az true vx)
  (hm2 : Cd (nm S) (lo.toList ++ hi.toList)) (ha : Fu (lo.map fun x => As (S.val x)) = some a) (hb : Fu (hi.map fun x => As (S.val x)) = some b)
  (hy : Tv l0 (a.getD 0) (b.getD l0.length) = some y) : Cv S (.p (.slice x lo hi sz)) (.own t (off + (a.getD 0).toNat) sz (y.map e)) := by
 obtain ⟨h1, h2, h3, rfl⟩ := aD hy
 refine ⟨⟨Cm hx hm, hm2⟩, ?_⟩
 have h0 : (b.getD l0.length).toNat - l0.length = 0 := by omega
 simp only [pu, hx, hx', ha, hb, List.length_map, h0, aA, List.replicate_zero, List.append_nil, List.map_take, List.map_drop]
 exact ⟨_, rfl, trivial, h1, h2, .inl h3⟩
theorem Wg {s y : List UInt8} {x : Cc} {lo hi : Option Cc} {a b : Option Int} {vx : V} (hx : S.val x = vx) (hx' : As vx = .str s) (hm : Az true vx)
  (hm2 : Cd (nm S) (lo.toList ++ hi.toList)) (ha : Fu (lo.map fun x => As (S.val x)) = some a) (hb : Fu (hi.map fun x => As (S.val x)) = some b)
  (hy : Tv s (a.getD 0) (b.getD s.length) = some y) : Cv S (.p (.sliceStr x lo hi)) (.str y) := by
 obtain ⟨h1, h2, h3, rfl⟩ := aD hy
 refine ⟨⟨Cm hx hm, hm2⟩, ?_⟩
 simp only [pu, hx, hx', ha, hb]
 exact ⟨_, rfl, h1, h2, h3⟩
theorem vL {s : List UInt8} {x i : Cc} {vx vi : V} {k : IntKind} {n : Int} {y : UInt8} (hx : S.val x = vx) (hx' : As vx = .str s) (hmx : Az true vx)
  (hi : S.val i = vi) (hi' : As vi = .int k n) (hmi : Az true vi) (hy : Cg s n = some y) : Cv S (.p (.idxStr x i)) (.int .u8 (y.toNat : Int)) := by
 obtain ⟨h0, h1, h2⟩ := Oh hy
 refine ⟨⟨Cm hx hmx, Cm hi hmi, trivial⟩, 0 ≤ n ∧ n < s.length, ?_, h0, h1⟩
 have : s.getD n.toNat 0 = y := by simp [List.getD, h2]
 simp only [pu, hx, hi, hx', hi', this]
theorem aJ : ∀ l : List UInt8, bG (l.map Wh) = l
 | [] => rfl
 | b :: r => by
  simp only [List.map_cons, Wh, bG]
  rw [aJ r]
  simp
theorem ctoStrL {x : Cc} {vx : V} {s : List UInt8} (hx : S.val x = vx) (hx' : As vx = .lst 1 (s.map Wh)) (hm : Az true vx) : Cv S (.p (.toStr x)) (.str s) := by
 refine ⟨⟨Cm hx hm, trivial⟩, ?_⟩
 simp only [pu, hx, hx', aJ]
 exact ⟨_, rfl, trivial, rfl⟩
theorem QN {x : Cc} {vx : V} {s : List UInt8} {t off : Nat} (hx : S.val x = vx) (hx' : As vx = .own t off 1 (s.map Wh)) (hm : Az true vx) : Cv S (.p (.toStr x)) (.str s) := by
 refine ⟨⟨Cm hx hm, trivial⟩, ?_⟩
 simp only [pu, hx, hx', aJ]
 exact ⟨_, rfl, trivial, rfl⟩
theorem Sc {α : Type} {e : α → List V} {l0 : List α} {x : Cc} {vx : V} {t off sz : Nat} (hx : S.val x = vx) (hx' : As vx = .own t off sz (l0.map e)) (hm : Az true vx) (hz : sz ≠ 0 := by decide) : Cv S (.p (.len x)) (.int .i64 (l0.length : Int)) := by
 refine ⟨⟨Cm hx hm, trivial⟩, (sz ≠ 0), ?_, hz⟩
 simp only [pu, hx, hx', List.length_map]
theorem Nb {α : Type} {e : α → List V} {l0 : List α} {x i : Cc} {vx vi : V} {t off sz : Nat} {k : IntKind} {n : Int} {y : α} (hx : S.val x = vx) (hx' : As vx = .own t off sz (l0.map e)) (hmx : Az true vx)
  (hi : S.val i = vi) (hi' : As vi = .int k n) (hmi : Az true vi) (hy : Cg l0 n = some y) : Cv S (.p (.idxA x i sz)) (.optr t sz (off + n.toNat) 0) := by
 obtain ⟨h0, h1, h2⟩ := Oh hy
 refine ⟨⟨Cm hx hmx, Cm hi hmi, trivial⟩, sz = sz ∧ 0 ≤ n ∧ n < (l0.map e).length, ?_, rfl, h0, by simpa using h1⟩
 simp only [pu, hx, hi, hx', hi']
theorem Fn {α : Type} {e : α → List V} {l0 : List α} {x : Cc} {vx : V} {t off sz j k n i : Nat} {ag : Bool} {y : α} {v : V} (hx : S.val x = vx) (hx' : As vx = .optr t sz j k) (hm : Az true vx) (hf : S.find t = some (off, l0.map e)) (hj : j = off + i)
  (hy : l0[i]? = some y) (hv : Lz ag n ((e y).drop k) = some v) (hn : k + n ≤ sz) (hsz : (e y).length = sz) : Cv S (.p (.load x n ag)) v := by
 subst hj
 have hlt := (List.getElem?_eq_some_iff.1 hy).1
 have hg : (l0.map e).getD (off + i - off) [] = e y := by
  rw [Nat.add_sub_cancel_left]
  simp [List.getD, hy]
 refine ⟨⟨Cm hx hm, trivial⟩, off ≤ off + i ∧ off + i < off + (l0.map e).length ∧ k + n ≤ sz ∧ ((l0.map e).getD (off + i - off) []).length = sz, ?_, Nat.le_add_right _ _, by simp; omega, hn, by rw [hg]; exact hsz⟩
 simp only [pu, hx, hx', hf]
 rw [hg, hv]
theorem c_ {o : PU} {v : V} (h : Cv S (.p o) v) (k : K (S.putC d v (Je (fun x => As (S.val x)) o))) : Db C ⟨d, .p o, none⟩ S K := by
 obtain ⟨h1, ψ, h2, h3⟩ := h
 exact p_ h1 h2 h3 k
theorem Hj {α : Type} {e : α → List V} {l0 l1 : List α} {x y : Cc} {t sz by_ : Nat} {vy : V} (hx : S.val x = .own t 0 sz (l0.map e)) (hy : S.val y = vy) (hm : Az true vy) (hs : Qx (As vy) = some (sz, l1.map e))
  (ht : t < Ct) (hn : (l0.length + l1.length) * by_ ≤ 140737488355328) (k : K ((S.drop t).putC d (.own t 0 sz ((l0 ++ l1).map e)) (Ik x (l0.length + l1.length)))) : Db C ⟨d, .app sz by_ x y, none⟩ S K := by
 refine ⟨Cm hx trivial, Cm hy hm, ?_⟩
 rw [hx, hy]
 dsimp only [As]
 dsimp only [As] at hs
 rw [hs]
 refine ⟨ht, rfl, rfl, rfl, by simpa using hn, ?_⟩
 rw [← List.map_append, List.length_map, List.length_map]
 exact k
theorem appz_ {α : Type} {e : α → List V} {l0 : List α} {x y : Cc} {t sz by_ : Nat} {ki : IntKind} {l : Int} {zero : List V} (z : α) (hx : S.val x = .own t 0 sz (l0.map e)) (hy : S.val y = .int ki l) (hz : e z = zero)
  (ht : t < Ct) (h0 : 0 ≤ l) (hn : ((l0.length : Int) + l) * by_ ≤ 140737488355328) (k : K ((S.drop t).putC d (.own t 0 sz ((l0 ++ List.replicate l.toNat z).map e)) (Ik x (l0.length + l.toNat)))) : Db C ⟨d, .appz sz by_ zero x y, none⟩ S K := by
 refine ⟨Cm hx trivial, Cm hy trivial, ?_⟩
 rw [hx, hy]
 dsimp only [As]
 refine ⟨ht, rfl, rfl, h0, by simpa using hn, ?_⟩
 rw [List.map_append, List.map_replicate, hz] at k
 rw [List.length_map]
 exact .inl k
theorem XM {α : Type} {e : α → List V} {l0 : List α} {x y : Cc} {t sz by_ d' : Nat} {ki : IntKind} {l c : Int} {zero : List V} (z : α) (hx : S.val x = .own t 0 sz (l0.map e)) (hy : S.val y = .int ki l) (hz : e z = zero)
  (ht : t < Ct) (h0 : 0 ≤ l) (hn : ((l0.length : Int) + l) * by_ ≤ 140737488355328) (hc : S.capOf x = some c) (hc1 : Gb ≤ c) (hc2 : c - Gb < l0.length + l)
  (k : K ((S.drop (64 * d')).put (some d') (.own (64 * d') 0 sz ((l0 ++ List.replicate l.toNat z).map e)))) : Db C ⟨some d', .appz sz by_ zero x y, none⟩ S K := by
 refine ⟨Cm hx trivial, Cm hy trivial, ?_⟩
 rw [hx, hy]
 dsimp only [As]
 refine ⟨ht, rfl, rfl, h0, by simpa using hn, ?_⟩
 rw [List.map_append, List.map_replicate, hz] at k
 rw [List.length_map]
 exact .inr ⟨d', c, rfl, hc, hc1, hc2, k⟩
theorem cap_ {α : Type} {e : α → List V} {l0 : List α} {t off sz n : Nat} (hx : S.val (.t n) = .own t off sz (l0.map e))
  (k : ∀ c : Nat, l0.length ≤ c → (off = 0 → c ≤ 9223372036854775807) → (∀ c0, S.capOf (.t n) = some c0 → Gb ≤ c0 → (c : Int) = c0 - Gb) → K (St.put { S with cp := Kn n (fun _ => some (Gb + c)) S.cp } d (.int .i64 c))) (hz : sz ≠ 0 := by decide) : Db C ⟨d, .cap (.t n), none⟩ S K := by
 refine ⟨Cm hx trivial, ?_⟩
 rw [hx]
 dsimp only [As]
 rw [List.length_map]
 exact ⟨hz, k⟩
theorem covl {x y : Cc} {t off sz t' off' sz' : Nat} {es es' : List (List V)} (hx : S.val x = .own t off sz es) (hy : S.val y = .own t' off' sz' es') (h : t ≠ t') (h1 : es ≠ []) (h2 : es' ≠ []) (hz : sz ≠ 0 := by decide) (hz' : sz' ≠ 0 := by decide) : Cv S (.p (.ovl x y)) (.bool false) := by
 refine ⟨⟨Cm hx trivial, Cm hy trivial, trivial⟩, (t ≠ t' ∧ (es ≠ [] ∧ es' ≠ []) ∧ sz ≠ 0 ∧ sz' ≠ 0), ?_, h, ⟨h1, h2⟩, hz, hz'⟩
 simp only [pu, hx, hy, As]
theorem cchr {x : Cc} {vx : V} {y : UInt8} {k : IntKind} (hx : S.val x = vx) (hx' : As vx = .int k ((y.toNat : Nat) : Int)) (hm : Az true vx) (hy : y.toNat < 128) : Cv S (.p (.chr x)) (.str [y]) := by
 refine ⟨⟨Cm hx hm, trivial⟩, (0 ≤ ((y.toNat : Nat) : Int) ∧ ((y.toNat : Nat) : Int) < 128), ?_, by omega, by omega⟩
 simp only [pu, hx, hx', Int.toNat_natCast]
 simp
theorem AcV {s : List UInt8} {x i : Cc} {vx vi : V} {n : Int} (hx : S.val x = vx) (hx' : As vx = .str s) (hmx : Az true vx)
  (hi : S.val i = vi) (hi' : As vi = .int .u8 n) (hmi : Az true vi) : Cv S (.p (.xbyte x i)) (.int .i64 (Xw s n)) := by
 refine ⟨⟨Cm hx hmx, Cm hi hmi, trivial⟩, True, ?_, trivial⟩
 simp only [pu, hx, hi, hx', hi']
theorem make_ {α : Type} {e : α → List V} {x y : Cc} {d sz by_ : Nat} {k1 k2 : IntKind} {a c : Int} {zero : List V} (z : α) (hx : S.val x = .int k1 a) (hy : S.val y = .int k2 c) (h0 : 0 ≤ a) (hac : a = c) (hn : c * by_ ≤ 140737488355328)
  (hz : e z = zero) (k : K ((S.drop (64 * d)).put (some d) (.own (64 * d) 0 sz ((List.replicate a.toNat z).map e)))) : Db C ⟨some d, .make sz by_ zero x y, none⟩ S K := by
 refine ⟨Cm hx trivial, Cm hy trivial, ?_⟩
 rw [hx, hy]
 refine ⟨h0, hac, hn, ?_⟩
 rw [List.map_replicate, hz] at k
 exact k
theorem copy_ {α : Type} {e : α → List V} {l0 l1 : List α} {x y : Cc} {t off sz : Nat} {vy : V} (hx : S.val x = .own t off sz (l0.map e)) (hy : S.val y = vy) (hm : Az true vy) (hs : Qx (As vy) = some (sz, l1.map e))
  (k : K ((S.map (jB t sz off ((l1.take l0.length).map e))).put d (.int .i64 (min l1.length l0.length : Nat)))) : Db C ⟨d, .copy sz x y, none⟩ S K := by
 refine ⟨Cm hx trivial, Cm hy hm, ?_⟩
 rw [hx, hy]
 dsimp only [As]
 dsimp only [As] at hs
 rw [hs]
 refine ⟨rfl, rfl, ?_⟩
 rw [List.map_take, ] at k
 simpa using k
theorem clear_ {α : Type} {e : α → List V} {l0 : List α} {z : α} {x : Cc} {t off sz : Nat} {zero : List V} (hx : S.val x = .own t off sz (l0.map e)) (hz : e z = zero)
  (k : K ((S.map (jB t sz off ((List.replicate l0.length z).map e))).put d .undef)) : Db C ⟨d, .clear sz zero x, none⟩ S K := by
 refine ⟨Cm hx trivial, ?_⟩
 rw [hx]
 refine ⟨rfl, ?_⟩
 rw [List.map_replicate, hz] at k
 simpa using k
theorem chk3L {α : Type} {e : α → List V} {l0 : List α} {x lo hi mx : Cc} {sz : Nat} {k1 k2 k3 : IntKind} {a b c : Int} (hx : S.val x = .lst sz (l0.map e)) (h1 : S.val lo = .int k1 a) (h2 : S.val hi = .int k2 b) (h3 : S.val mx = .int k3 c)
  (hc : 0 ≤ a ∧ a ≤ b ∧ b ≤ c ∧ c ≤ (l0.length : Int)) (k : K (S.put d .undef)) (hz : sz ≠ 0 := by decide) : Db C ⟨d, .chk3 x lo hi mx, none⟩ S K := by
 obtain ⟨s0, rfl⟩ := Nat.exists_eq_succ_of_ne_zero hz
 refine ⟨⟨Cm hx trivial, Cm h1 trivial, Cm h2 trivial, Cm h3 trivial⟩, ?_⟩
 rw [hx, h1, h2, h3]
 exact ⟨hc.1, hc.2.1, hc.2.2.1, by simpa using hc.2.2.2, k⟩
theorem chk3O {α : Type} {e : α → List V} {l0 : List α} {x lo hi mx : Cc} {t off sz : Nat} {k1 k2 k3 : IntKind} {a b c : Int} (hx : S.val x = .own t off sz (l0.map e)) (h1 : S.val lo = .int k1 a) (h2 : S.val hi = .int k2 b) (h3 : S.val mx = .int k3 c)
  (hc : 0 ≤ a ∧ a ≤ b ∧ b ≤ c ∧ c ≤ (l0.length : Int)) (k : K (S.put d .undef)) (hz : sz ≠ 0 := by decide) : Db C ⟨d, .chk3 x lo hi mx, none⟩ S K := by
 obtain ⟨s0, rfl⟩ := Nat.exists_eq_succ_of_ne_zero hz
 refine ⟨⟨Cm hx trivial, Cm h1 trivial, Cm h2 trivial, Cm h3 trivial⟩, ?_⟩
 rw [hx, h1, h2, h3]
 exact ⟨hc.1, hc.2.1, hc.2.2.1, by simpa using hc.2.2.2, k⟩
theorem isnilL {α : Type} {e : α → List V} {l0 : List α} {x : Cc} {sz : Nat} {ne : Bool} (hx : S.val x = .lst sz (l0.map e)) (k : ∀ b : Bool, (b = true → l0 = []) → K (S.put d (.bool (if ne then !b else b)))) (hz : sz ≠ 0 := by decide) :
  Db C ⟨d, .isnil x ne, none⟩ S K := by
 obtain ⟨s0, rfl⟩ := Nat.exists_eq_succ_of_ne_zero hz
 refine ⟨Cm hx trivial, ?_⟩
 rw [hx]
 exact fun b hb => k b fun h => by simpa using hb h
theorem zA {x : Cc} {s : List UInt8} (hx : S.val x = .str s) (k : K (S.put d (.lst 1 (s.map Wh)))) : Db C ⟨d, .toBytes x, none⟩ S K := by
 refine ⟨Cm hx trivial, ?_⟩
 rw [hx]
 exact k
theorem Ni {sz len d : Nat} {zero : List V} {parts : List (Nat × Cc)} (hm : Cd (fun p => nm S p.2) parts)
  (h : Cd (fun p => p.1 < len ∧ p.2.cells.length = sz ∧ p.2.cells.all (fun c => !Jy c) = true) (parts.map fun p => (p.1, As (S.val p.2))))
  (k : K (((S.freezes (Iv (parts.map fun p => (p.1, As (S.val p.2))))).drop (64 * d)).put (some d)
    (.own (64 * d) 0 sz (Ju sz (List.replicate len zero) ((parts.map fun p => (p.1, As (S.val p.2))).map fun p => (p.1, p.2.cells.map Fb)))))) :
  Db C ⟨some d, .mkS sz zero len parts, none⟩ S K := ⟨hm, h, k⟩
theorem zF {f : Nat} {args : List V} (fz : Bool) {gv : List V} {r : V} (h : C f ⟨gv, []⟩ ⟨r, [], []⟩) (h0 : Qg (fun v => !Ca v) args = true) (hg : args.map (mapW (S.liftC [] [] [] fz)) = gv)
  (h3 : fz = false → r.flat.all Iz = true) (k : K (((if fz then S.freezes (Hg (Ob args)) else S).drops (On (d.getD 0) (Hg r.flat))).put d (Hy (Hc (d.getD 0) 0 [] []) r))) : jC C f args d S K := by
 have e0 : ∀ l : List Nat, bE [] l = l := fun l => by
  induction l with
  | nil => rfl
  | cons x r ih => simp [bE, ih]
 refine ⟨h0, [], [], [], fz, ⟨r, [], []⟩, ⟨rfl, rfl, rfl, rfl⟩, ⟨rfl, rfl, rfl⟩, fun hz => ?_, ?_, ?_⟩
 ·simp [Ft.flat, h3 hz]
 ·subst hg; exact h
 ·simpa [St.after, St.frzTags, St.given, e0, Ft.newR, Ft.newB, Qu, St.rows, St.boxes, St.drops] using k
theorem Bv {f : Nat} {as : List Cc} (fz : Bool) {gv : List V} {r : V} (h : C f ⟨gv, []⟩ ⟨r, [], []⟩) (hm : Cd (nm S) as) (h0 : Qg (fun v => !Ca v) (as.map fun x => As (S.val x)) = true)
  (hg : (as.map fun x => As (S.val x)).map (mapW (S.liftC [] [] [] fz)) = gv) (h3 : fz = false → r.flat.all Iz = true)
  (k : K (((if fz then S.freezes (Hg (Ob (as.map fun x => As (S.val x)))) else S).drops (On (d.getD 0) (Hg r.flat))).put d (Hy (Hc (d.getD 0) 0 [] []) r))) :
  Db C ⟨d, .call f as, none⟩ S K := ⟨hm, zF fz h h0 hg h3 k⟩
theorem Sb {f : Nat} {x : Cc} {as : List Cc} {caps : List V} (hx : S.val x = .clo f caps) (fz : Bool) {gv : List V} {r : V} (h : C f ⟨gv, []⟩ ⟨r, [], []⟩) (hm : Cd (nm S) as)
  (h0 : Qg (fun v => !Ca v) ((as.map fun x => As (S.val x)) ++ caps) = true) (hg : ((as.map fun x => As (S.val x)) ++ caps).map (mapW (S.liftC [] [] [] fz)) = gv) (h3 : fz = false → r.flat.all Iz = true)
  (k : K (((if fz then S.freezes (Hg (Ob ((as.map fun x => As (S.val x)) ++ caps))) else S).drops (On (d.getD 0) (Hg r.flat))).put d (Hy (Hc (d.getD 0) 0 [] []) r))) :
  Db C ⟨d, .callv x as, none⟩ S K := by
 refine ⟨Cm hx trivial, hm, ?_⟩
 rw [hx]
 exact zF fz h h0 hg h3 k
theorem zG {f : Nat} {args : List V} (LB LR LM : List Nat) (fz : Bool) {g : Rv} {t : Ft} (h : C f g t) (h0 : Qg (fun v => !Ca v) args = true) (hg : S.give args LB LR LM fz = g)
  (h1 : (Eo LB && Eo (LR ++ LM) && Rm Ct LM && LB.all (fun T => (look S.bx T).isSome)) = true)
  (h2 : (Rm 65 [t.bx.length - LB.length, LM.length] && Lq (t.newB (d.getD 0) LB.length) LB && Lq (t.newR (d.getD 0)) LR) = true) (h3 : fz = false → t.flat = true)
  (k : K ((S.after args (d.getD 0) fz LB LR LM t).put d (Hy (Hc (d.getD 0) (t.bx.length - LB.length) LB LR) t.r))) : jC C f args d S K := by
 simp only [Bool.and_eq_true] at h1 h2
 refine ⟨h0, LB, LR, LM, fz, t, ⟨h1.1.1.1, h1.1.1.2, h1.1.2, h1.2⟩, ⟨h2.1.1, h2.1.2, h2.2⟩, h3, ?_, k⟩
 subst hg; exact h
theorem Ef {f : Nat} {as : List Cc} (LB LR LM : List Nat) (fz : Bool) {g : Rv} {t : Ft} (h : C f g t) (hm : Cd (nm S) as) (h0 : Qg (fun v => !Ca v) (as.map fun x => As (S.val x)) = true)
  (hg : S.give (as.map fun x => As (S.val x)) LB LR LM fz = g)
  (h1 : (Eo LB && Eo (LR ++ LM) && Rm Ct LM && LB.all (fun T => (look S.bx T).isSome)) = true)
  (h2 : (Rm 65 [t.bx.length - LB.length, LM.length] && Lq (t.newB (d.getD 0) LB.length) LB && Lq (t.newR (d.getD 0)) LR) = true) (h3 : fz = false → t.flat = true)
  (k : K ((S.after (as.map fun x => As (S.val x)) (d.getD 0) fz LB LR LM t).put d (Hy (Hc (d.getD 0) (t.bx.length - LB.length) LB LR) t.r))) : Db C ⟨d, .call f as, none⟩ S K :=
 ⟨hm, zG LB LR LM fz h h0 hg h1 h2 h3 k⟩
theorem callv1_ {f : Nat} {x : Cc} {as : List Cc} {caps : List V} (hx : S.val x = .clo f caps) (LB LR LM : List Nat) (fz : Bool) {g : Rv} {t : Ft} (h : C f g t) (hm : Cd (nm S) as)
  (h0 : Qg (fun v => !Ca v) ((as.map fun x => As (S.val x)) ++ caps) = true) (hg : S.give ((as.map fun x => As (S.val x)) ++ caps) LB LR LM fz = g)
  (h1 : (Eo LB && Eo (LR ++ LM) && Rm Ct LM && LB.all (fun T => (look S.bx T).isSome)) = true)
  (h2 : (Rm 65 [t.bx.length - LB.length, LM.length] && Lq (t.newB (d.getD 0) LB.length) LB && Lq (t.newR (d.getD 0)) LR) = true) (h3 : fz = false → t.flat = true)
  (k : K ((S.after ((as.map fun x => As (S.val x)) ++ caps) (d.getD 0) fz LB LR LM t).put d (Hy (Hc (d.getD 0) (t.bx.length - LB.length) LB LR) t.r))) : Db C ⟨d, .callv x as, none⟩ S K := by
 refine ⟨Cm hx trivial, hm, ?_⟩
 rw [hx]
 exact zG LB LR LM fz h h0 hg h1 h2 h3 k
theorem Ga {f : Nat} {as : List Cc} {gs : Nat} {want g : Bool} (hgv : Li (S.val (.t gs)) want = some g) (fz : Bool) {gv : List V} {r : V} (h : g = true → C f ⟨gv, []⟩ ⟨r, [], []⟩)
  (hm : Cd (fun x => Az g (S.val x)) as) (h0 : g = true → Qg (fun v => !Ca v) (as.map fun x => As (S.val x)) = true)
  (hg : g = true → (as.map fun x => As (S.val x)).map (mapW (S.liftC [] [] [] fz)) = gv) (h3 : fz = false → r.flat.all Iz = true) (h4 : fz = true → Hg (Ob (as.map fun x => As (S.val x))) = [])
  (k : K (S.put d (.may g (Hy Rf r)))) : Db C ⟨d, .call f as, some (gs, want)⟩ S K := by
 unfold Db
 dsimp only
 rw [hgv]
 exact .inl ⟨hm, h0, fz, r, fun e => by have := hg e; subst this; exact h e, h3, h4, k⟩
theorem QK {f : Nat} {x : Cc} {as : List Cc} {caps : List V} {vx : V} {gs : Nat} {want g : Bool} (hgv : Li (S.val (.t gs)) want = some g) (hx : S.val x = vx) (hx' : As vx = .clo f caps) (hmx : Az g vx) (fz : Bool) {gv : List V} {r : V}
  (h : g = true → C f ⟨gv, []⟩ ⟨r, [], []⟩)
  (hm : Cd (fun x => Az g (S.val x)) as) (h0 : g = true → Qg (fun v => !Ca v) ((as.map fun x => As (S.val x)) ++ caps) = true)
  (hg : g = true → ((as.map fun x => As (S.val x)) ++ caps).map (mapW (S.liftC [] [] [] fz)) = gv) (h3 : fz = false → r.flat.all Iz = true) (h4 : fz = true → Hg (Ob ((as.map fun x => As (S.val x)) ++ caps)) = [])
  (k : K (S.put d (.may g (Hy Rf r)))) : Db C ⟨d, .callv x as, some (gs, want)⟩ S K := by
 unfold Db
 dsimp only
 rw [hgv]
 refine .inl ⟨by rw [hx]; exact hmx, hm, ?_⟩
 rw [hx, hx']
 exact ⟨h0, fz, r, fun e => by have := hg e; subst this; exact h e, h3, h4, k⟩
theorem callg2_ {f : Nat} {as : List Cc} {gs : Nat} {want g : Bool} (hgv : Li (S.val (.t gs)) want = some g) (h1 : g = true → Db C ⟨d, .call f as, none⟩ S K) (h2 : g = false → K (S.put d .undef)) :
  Db C ⟨d, .call f as, some (gs, want)⟩ S K := by
 unfold Db
 dsimp only
 rw [hgv]
 exact .inr ⟨h1, h2⟩
theorem cb8 {o : PU} {x : Int} (h : Cv S (.p o) (.int .u8 (IntKind.u8.wrap x))) : Cv S (.p o) (.int .u8 ((b8 x).toNat : Int)) := by
 unfold b8
 rw [oC]
 exact h
theorem fl2 {α : Type} {e : α → List V} {xs : List α} (h : ∀ x, (e x).all bF = true) : ((xs.map e).all fun x => x.all bF) = true := by
 simp only [List.all_map, List.all_eq_true, Function.comp]
 intro x _
 exact List.all_eq_true.1 (h x)
theorem mlen {α : Type} {e : α → List V} {xs : List α} {n : Nat} (h : ∀ x, (e x).length = n) : ∀ y ∈ xs.map e, y.length = n := by
 intro y hy
 obtain ⟨x, _, rfl⟩ := List.mem_map.1 hy
 exact h x
theorem Hr {α : Type} {e : α → List V} {xs : List α} {t off sz : Nat} (h : ∀ x, (e x).all bF = true) : Iz (.own t off sz (xs.map e)) = true := by
 simp only [Iz, List.all_map, List.all_eq_true, Function.comp]
 intro x _
 exact List.all_eq_true.1 (h x)
theorem Mb {res : List bK} {nb : Nat} {t : Ft} {v : V} {css : List (List V)} (h1 : yM S res = some v) (h2 : Mr S (Vr nb ++ Fa v.flat) = some css)
  (h3 : Rm 65 [(Hw (v.flat ++ css.flatten)).length, (Fa v.flat).length] = true) (h4 : Hy (Tr (Hw (v.flat ++ css.flatten)) (Fa v.flat)) v = t.r)
  (h5 : Ol (Tr (Hw (v.flat ++ css.flatten)) (Fa v.flat)) css = t.bx) (h6 : Tt S 0 t.rw) : FQ res nb t .ret S := by
 refine ⟨S, Fg.refl S, ?_⟩
 unfold mE
 rw [h1]
 show aG S v nb t
 unfold aG
 dsimp only
 rw [h2]
 exact ⟨h3, h4, h5, h6⟩
theorem retf_ {res : List bK} {nb : Nat} {t : Ft} {S1 : St} (hf : Fg S S1) (h : FQ res nb t .ret S1) : FQ res nb t .ret S := by
 obtain ⟨S2, h1, h2⟩ := h
 exact ⟨S2, hf.trans h1, h2⟩
theorem retn_ {res : List bK} {nb : Nat} {t : Ft} (h : FQ res nb t .ret S) : FQ res nb t .normal S := h
theorem Fe {fn : El} {args : List V} {bx : List (List V)} {t : Ft} (h0 : args.length ≤ fn.nt) (h : WL C [.c fn.body] (FQ fn.res bx.length t) .normal ⟨Qo args 0, Qp bx Ct, []⟩) : Cp C fn ⟨args, bx⟩ t := ⟨h0, .inl h⟩
theorem fnc_ {fn : El} {args : List V} {bx : List (List V)} {t : Ft} (h0 : args.length ≤ fn.nt) (h : ∀ f : Nat → Nat, (∀ (k t off sz : Nat) (es : List (List V)), args[k]? = some (.own t off sz es) → sz ≠ 0 → es.length ≤ f k ∧ (off = 0 → f k ≤ 9223372036854775807)) →
  WL C [.c fn.body] (FQ fn.res bx.length t) .normal ⟨Qo args 0, Qp bx Ct, Ns f args 0⟩) : Cp C fn ⟨args, bx⟩ t := ⟨h0, .inr h⟩
theorem slcN {α : Type} (l : List α) (a b : Nat) (h : a ≤ b) (h2 : b ≤ l.length) : Tv l (a : Int) ((some (b : Int)).getD l.length) = some ((l.take b).drop a) := by
 unfold Tv
 simp only [Option.getD_some]
 rw [if_pos ⟨by omega, by omega, by omega⟩]
 simp
theorem slcD {α : Type} (l : List α) (a : Nat) (h : a ≤ l.length) : Tv l ((some (a : Int)).getD 0) ((none : Option Int).getD l.length) = some (l.drop a) := by
 unfold Tv
 simp only [Option.getD_some, Option.getD_none]
 rw [if_pos ⟨by omega, by omega, by omega⟩]
 simp
theorem Zu {d : Option Nat} {v : V} {f g : List (Nat × Int) → Option Int} (h : f S.cp = g S.cp) : S.putC d v f = S.putC d v g := by
 cases d with
 | none => rfl
 | some d =>
  have : Kn d f S.cp = Kn d g S.cp := by
   cases hl : S.cp with
   | nil => rw [hl] at h; simp only [Kn, h]
   | cons p r => rw [hl] at h; simp only [Kn, h]
  simp only [St.putC, this]
theorem appc_ {α : Type} {e : α → List V} {l0 l1 : List α} {x y : Cc} {t sz by_ : Nat} {vy : V} {c : Int} (hx : S.val x = .own t 0 sz (l0.map e)) (hy : S.val y = vy) (hm : Az true vy) (hs : Qx (As vy) = some (sz, l1.map e))
  (ht : t < Ct) (hn : (l0.length + l1.length) * by_ ≤ 140737488355328) (hc : S.capOf x = some c) (hle : ((l0.length + l1.length : Nat) : Int) ≤ Mt c)
  (k : K ((S.drop t).putC d (.own t 0 sz ((l0 ++ l1).map e)) fun _ => some c)) : Db C ⟨d, .app sz by_ x y, none⟩ S K := by
 refine Hj hx hy hm hs ht hn ?_
 rw [Zu (g := fun _ => some c)]
 ·exact k
 ·show Ik x _ S.cp = _
  unfold Ik
  rw [show Lc S.cp x = some c from hc]
  dsimp only
  rw [if_pos hle]
theorem sliceRoom {α : Type} {e : α → List V} {R : List α} {x lo hi : Cc} {t sz L H : Nat} {k1 k2 : IntKind} {c : Int} (hx : S.val x = .own t 0 sz (R.map e)) (hlo : S.val lo = .int k1 (L : Int)) (hhi : S.val hi = .int k2 (H : Int))
  (hR : R.length = L) (hLH : L ≤ H) (hsz : 0 < sz) (hc : S.capOf x = some c) (hH : (H : Int) ≤ Mt c) : Cv S (.p (.slice x (some lo) (some hi) sz)) (.own t L sz (aA sz (H - L))) := by
 have ha : Fu ((some lo).map fun x => As (S.val x)) = some (some (L : Int)) := by simp only [Option.map_some, hlo]; rfl
 have hb : Fu ((some hi).map fun x => As (S.val x)) = some (some (H : Int)) := by simp only [Option.map_some, hhi]; rfl
 refine ⟨⟨Cm hx trivial, Cm hlo trivial, Cm hhi trivial, trivial⟩, ?_⟩
 have e1 : ((R.map e ++ aA sz (H - L)).take H).drop L = aA sz (H - L) := by
  rw [List.take_of_length_le (by simp [aA]; omega)]
  exact List.drop_left' (by simpa using hR)
 have hx' : As (S.val x) = .own t 0 sz (R.map e) := by rw [hx]; rfl
 simp only [pu, hx', ha, hb, Option.getD_some, List.length_map, Int.toNat_natCast, hR, e1, Nat.zero_add]
 exact ⟨_, rfl, trivial, by omega, by omega, .inr ⟨trivial, hsz, c, hc, hH⟩⟩
def eo {α : Type} (e : α → List V) (k : Nat) : Option α → List V
 | none => List.replicate k .undef
 | some x => e x
theorem mT {α : Type} {e : α → List V} {k : Nat} (l : List α) : l.map e = (l.map some).map (eo e k) := by
 rw [List.map_map]; rfl
theorem TT {α : Type} {e : α → List V} {l0 : List α} {x hi : Cc} {t sz H : Nat} {k2 : IntKind} {c : Int} (hx : S.val x = .own t 0 sz (l0.map e)) (hhi : S.val hi = .int k2 (H : Int))
  (hLH : l0.length ≤ H) (hsz : 0 < sz) (hc : S.capOf x = some c) (hH : (H : Int) ≤ Mt c) : Cv S (.p (.slice x none (some hi) sz)) (.own t 0 sz ((l0.map some ++ List.replicate (H - l0.length) none).map (eo e sz))) := by
 have hb : Fu ((some hi).map fun x => As (S.val x)) = some (some (H : Int)) := by simp only [Option.map_some, hhi]; rfl
 have ha : Fu ((none : Option Cc).map fun x => As (S.val x)) = some none := rfl
 refine ⟨⟨Cm hx trivial, Cm hhi trivial, trivial⟩, ?_⟩
 have e1 : ((l0.map e ++ aA sz (H - l0.length)).take H).drop 0 = (l0.map some ++ List.replicate (H - l0.length) none).map (eo e sz) := by
  rw [List.drop_zero, List.take_of_length_le (by simp [aA]; omega), List.map_append, List.map_replicate, ← mT]
  rfl
 have hx' : As (S.val x) = .own t 0 sz (l0.map e) := by rw [hx]; rfl
 simp only [pu, hx', ha, hb, Option.getD_some, Option.getD_none, List.length_map, Int.toNat_natCast, Int.toNat_zero, e1]
 exact ⟨_, rfl, trivial, by omega, by omega, .inr ⟨trivial, hsz, c, hc, hH⟩⟩
theorem VP {x : Int} (h1 : -9223372036854775808 ≤ x) (h2 : x ≤ 9223372036854775807) : IntKind.i64.wrap x = x := by
 have e1 : IntKind.i64.wrap x = if x % 18446744073709551616 ≥ 9223372036854775808 then x % 18446744073709551616 - 18446744073709551616 else x % 18446744073709551616 := by
  simp [IntKind.wrap, IntKind.bits, IntKind.signed]
 rw [e1]; split <;> omega
theorem wrapN {x : Int} (n : Nat) (h : x = n) (hb : n ≤ 140737488355328) : IntKind.i64.wrap x = n := by
 subst h
 have e1 : IntKind.i64.wrap (n : Int) = if (n : Int) % 18446744073709551616 ≥ 9223372036854775808 then (n : Int) % 18446744073709551616 - 18446744073709551616 else (n : Int) % 18446744073709551616 := by
  simp [IntKind.wrap, IntKind.bits, IntKind.signed]
 rw [e1]; split <;> omega
theorem TI {α : Type} {l ys : List α} {i : Nat} : (ovl l i ys).length = l.length := by simp [ovl]
theorem fG {α : Type} {l ys : List α} {i : Nat} (h : i + ys.length ≤ l.length) : ovl l i ys = l.take i ++ ys ++ l.drop (i + ys.length) := by
 apply List.ext_getElem?
 intro k
 simp only [ovl, List.getElem?_mapIdx, List.append_assoc, List.getElem?_append, List.getElem?_drop, List.length_take, Nat.min_eq_left (show i ≤ l.length by omega), List.getElem?_take]
 by_cases h1 : k < i
 ·simp only [h1, if_true, if_neg (show ¬ i ≤ k by omega)]
  cases l[k]? <;> rfl
 ·simp only [h1, if_false, if_pos (show i ≤ k by omega)]
  by_cases h2 : k - i < ys.length
  ·simp only [h2, if_true]
   have : k < l.length := by omega
   simp [this, h2]
  ·simp only [h2, if_false]
   rw [show i + ys.length + (k - i - ys.length) = k by omega, List.getElem?_eq_none (show ys.length ≤ k - i by omega)]
   cases l[k]? <;> rfl
theorem TJ {α : Type} {A X Y Z : List α} {i : Nat} (h0 : A.length = i + Y.length + Z.length) (h1 : A.take i = X) : ovl (ovl A (i + Y.length) Z) i Y = X ++ Y ++ Z := by
 have hx : X.length = i := by rw [← h1]; simp; omega
 have hd : A.drop (i + Y.length + Z.length) = [] := List.drop_eq_nil_of_le (by omega)
 have e1 : ovl A (i + Y.length) Z = A.take (i + Y.length) ++ Z := by rw [fG (by omega), hd, List.append_nil]
 have hl : (A.take (i + Y.length)).length = i + Y.length := by simp; omega
 have e2 : (A.take (i + Y.length) ++ Z).take i = X := by rw [List.take_append_of_le_length (by omega), List.take_take, Nat.min_eq_left (by omega), h1]
 have e3 : (A.take (i + Y.length) ++ Z).drop (i + Y.length) = Z := List.drop_left' hl
 rw [e1, fG (by rw [List.length_append, hl]; omega), e2, e3]
theorem yB {α : Type} {A X Y Z : List α} {i : Nat} (h0 : A.length = i + Y.length + Z.length) (h1 : A.take i = X) : ovl (ovl A i Y) (i + Y.length) Z = X ++ Y ++ Z := by
 have hx : X.length = i := by rw [← h1]; simp; omega
 have e1 : ovl A i Y = X ++ Y ++ A.drop (i + Y.length) := by rw [fG (by omega), h1]
 have hd : (X ++ Y ++ A.drop (i + Y.length)).drop (i + Y.length + Z.length) = [] := List.drop_eq_nil_of_le (by simp; omega)
 rw [e1, fG (by simp; omega), hd, List.append_nil, List.take_left' (by simp; omega)]
theorem ovl_ins2 {α : Type} {A : List (Option α)} {a0 a2 : List α} {i : Nat} (h0 : A.length = a0.length + a2.length) (h1 : A.take i = (a0.take i).map some) (hi : i ≤ a0.length) :
  ovl (ovl A (i + a2.length) ((a0.drop i).map some)) i (a2.map some) = (a0.take i ++ a2 ++ a0.drop i).map some := by
 have := TJ (A := A) (Y := a2.map some) (Z := (a0.drop i).map some) (by simp; omega) h1
 rw [List.length_map] at this
 rw [this]; simp
theorem ovl_ins {α : Type} {R a0 a2 : List α} {i : Nat} (h0 : R.length = a0.length + a2.length) (h1 : R.take i = a0.take i) (hi : i ≤ a0.length) :
  ovl (ovl R i (a2.take (R.drop i).length)) (i + a2.length) ((a0.drop i).take ((ovl R i (a2.take (R.drop i).length)).drop (i + a2.length)).length) = a0.take i ++ a2 ++ a0.drop i := by
 have e0 : a2.take (R.drop i).length = a2 := List.take_of_length_le (by rw [List.length_drop]; omega)
 have e2 : (a0.drop i).take ((ovl R i a2).drop (i + a2.length)).length = a0.drop i := List.take_of_length_le (by rw [List.length_drop, List.length_drop, TI]; omega)
 rw [e0, e2]
 exact yB (by rw [List.length_drop]; omega) h1
theorem fF {es ys : List (List V)} {at_ : Nat} (h : es.length ≤ at_) : Fd 0 es at_ ys = es := by
 apply List.ext_getElem
 ·simp [Fd]
 ·intro k h1 h2
  simp only [Fd, List.getElem_mapIdx]
  rw [if_neg (by omega)]
theorem clearAt_ {x : Cc} {t off sz : Nat} {es : List (List V)} {zero : List V} (hx : S.val x = .own t off sz es) (k : K ((S.map (jB t sz off (List.replicate es.length zero))).put d .undef)) : Db C ⟨d, .clear sz zero x, none⟩ S K := by
 refine ⟨Cm hx trivial, ?_⟩
 rw [hx]
 exact ⟨rfl, k⟩
theorem past1 {α : Type} {e : α → List V} {R : List α} {t sz at_ : Nat} {ys : List (List V)} (h : R.length ≤ at_) : some (V.own t 0 sz (Fd 0 (R.map e) at_ ys)) = some (.own t 0 sz (R.map e)) := by
 rw [fF (by simpa using h)]
theorem Dh {p : DP} (h : WD C p [] (WL C T Q .normal) S) : WL C (.c (.draw p) :: T) Q .normal S := h
theorem drawJ {p : DP} (R : St → Prop) (hJ : ∀ S, R S → WL C T Q .normal S) (h : (∀ S S1, Fg S S1 → R S1 → WL C (.w :: T) Q .normal S) → WD C p [] (WL C (.w :: T) Q .normal) S) :
  WL C (.c (.draw p) :: .w :: T) Q .normal S := h fun _ S1 h1 h2 => ⟨S1, h1, hJ S1 h2⟩
section
variable {X : List Ch}
theorem Nt (h : K S) : WD C .fin X K S := h
theorem Ak {p : DP} (h1 : Dp i S) (h2 : Db C i S (fun S' => Ez C X S' ∧ WD C p X K S')) : WD C (.take i p) X K S := .inl ⟨h1, h2⟩
theorem vQ {p : DP} (h2 : Db C i S (fun S' => Ez C (i :: X) S' ∧ WD C p (i :: X) K S')) : WD C (.take i p) X K S := .inr h2
theorem Bp : WD C .stop X K S := trivial
theorem Ci {held : List Ch} {r rest : DP} (h1 : Db C i S (fun S' => ∃ S1, Fg S' S1 ∧ ∃ X', Mp C X' held S1 ∧ Ez C X' S1 ∧ WD C r X' K S1)) (h2 : WD C rest X K S) : WD C (.alt held i r rest) X K S := ⟨h1, h2⟩
theorem Jr {held : List Ch} {r : DP} (h : ∃ X', Mp C X' held S ∧ Ez C X' S ∧ WD C r X' K S) : ∃ S1, Fg S S1 ∧ ∃ X', Mp C X' held S1 ∧ Ez C X' S1 ∧ WD C r X' K S1 := ⟨S, Fg.refl S, h⟩
theorem Jf {held : List Ch} {r : DP} (S1 : St) (hf : Fg S S1) (h : ∃ X', Mp C X' held S1 ∧ Ez C X' S1 ∧ WD C r X' K S1) : ∃ S1, Fg S S1 ∧ ∃ X', Mp C X' held S1 ∧ Ez C X' S1 ∧ WD C r X' K S1 := ⟨S1, hf, h⟩
theorem nX {d : Nat} {v : V} (hl : look S.env d = some v) (hc : S.cp = []) : Vx (S.put (some d) v) S := by
 constructor
 ·intro t
  show look ((d, v) :: S.env) t = _
  simp only [look]
  split
  ·rename_i e; subst e; exact hl.symm
  ·rfl
 ·intro k
  show look (Kn d (fun _ => none) S.cp) k = look S.cp k
  rw [hc]; rfl
theorem bR (hc : S.cp = []) (x : Cc) : S.capOf x = none := by
 cases x with
 | t n => show look S.cp n = none; rw [hc]; rfl
 | c v => rfl
theorem jP (hc : S.cp = []) {rd : Cc → V} (o : PU) : Nr S rd o = none := by
 cases o <;> try rfl
 case mv x => exact bR hc x
 case slice x lo hi sz =>
  simp only [Nr, Je]
  rw [show Lc S.cp x = none from bR hc x]
theorem Ao {o : PU} {d : Nat} {v : V} (h : Cv S (.p o) v) (hl : look S.env d = some v) (hc : S.cp = [] := by rfl) : Db C ⟨some d, .p o, none⟩ S (fun S' => Vx S' S) :=
 c_ h (by rw [Zu (g := fun _ => none) (jP hc o)]; exact nX hl hc)
theorem Jn {o : PU} {d : Nat} {v : V} {gs : Nat} {want g : Bool} (hg : Li (S.val (.t gs)) want = some g) (h : g = true → Cv S (.p o) v) (hl : look S.env d = some (.may g v)) (hc : S.cp = [] := by rfl) : Db C ⟨some d, .p o, some (gs, want)⟩ S (fun S' => Vx S' S) := Da hg h (nX hl hc)
theorem againp {c a b : Cc} {d : Nat} {v : V} (h : Cv S (.pick c a b) v) (hl : look S.env d = some v) (hc : S.cp = [] := by rfl) : Db C ⟨some d, .pick c a b, none⟩ S (fun S' => Vx S' S) := by
 obtain ⟨h1, cb, h2, h3, h4, rfl⟩ := h
 refine ⟨h1, ?_⟩
 rw [h2]
 exact ⟨h3, h4, nX hl hc⟩
end
theorem againpg {c a b : Cc} {d : Nat} {v : V} {gs : Nat} {want g : Bool} (hg : Li (S.val (.t gs)) want = some g) (h : g = true → Cv S (.pick c a b) v) (hl : look S.env d = some (.may g v)) (hc : S.cp = [] := by rfl) : Db C ⟨some d, .pick c a b, some (gs, want)⟩ S (fun S' => Vx S' S) := Ke hg h (nX hl hc)
end
end Go.Ev
