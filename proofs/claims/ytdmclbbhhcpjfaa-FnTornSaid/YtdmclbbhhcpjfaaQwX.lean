/- Plain words of logs: frames, and what is scanned. -/
import Derived.Test.YtdmclbbhhcpjfaaQwV
set_option linter.all false
namespace Go.Ev

def headB (p : List UInt8) : List UInt8 := bigB (p.length + 1) 2 ++ p
def frameB (p : List UInt8) : List UInt8 := headB p ++ bigB (crcv (headB p)) 4
theorem headB_len (p : List UInt8) : (headB p).length = p.length + 2 := by simp [headB]; omega
@[simp] theorem frameB_len (p : List UInt8) : (frameB p).length = p.length + 6 := by simp [frameB, headB_len]
theorem g274_eq (p : List UInt8) (hp : p.length ≤ 65536) : g274 p = some (frameB p) := by
  have e1 : IntKind.i64.wrap ((p.length : Int) + 1) = ((p.length + 1 : Nat) : Int) := w1 (by omega)
  have e2 : g331 ((p.length + 1 : Nat) : Int) 2 = some (bigB (p.length + 1) 2) := g331_eq (p.length + 1) 2 (by omega)
  have e4 : g331 ((crcv (headB p) : Nat) : Int) 4 = some (bigB (crcv (headB p)) 4) := g331_eq (crcv (headB p)) 4 (by omega)
  simp only [g274, e1, e2, Option.bind_some]
  rw [if_pos (by simp; omega), show bigB (p.length + 1) 2 ++ p = headB p from rfl, g332_eq _ (by rw [headB_len]; omega)]
  simp only [Option.bind_some, e4]
  rw [if_pos (by rw [headB_len]; simp; omega)]
  rfl
/-- The payload of the frame at a place. -/
def nxt (b : List UInt8) (k : Nat) : Option (List UInt8) :=
  if k + 2 ≤ b.length then
    if (1 ≤ bigV ((b.drop k).take 2) ∧ bigV ((b.drop k).take 2) ≤ 2001) ∧ k + bigV ((b.drop k).take 2) + 5 ≤ b.length then
      if crcv ((b.drop k).take (bigV ((b.drop k).take 2) + 1)) = bigV ((b.drop (k + bigV ((b.drop k).take 2) + 1)).take 4) then some ((b.drop (k + 2)).take (bigV ((b.drop k).take 2) - 1)) else none
    else none
  else none
theorem slc_dt {α : Type} (b : List α) (k n : Nat) (h : k + n ≤ b.length) : slc b (k : Int) ((k + n : Nat) : Int) = some ((b.drop k).take n) := by
  rw [slcK _ _ _ (by omega) h, List.drop_take]
  congr 2; omega
theorem scan_step (b : List UInt8) (hb : b.length ≤ 1048576) (l : List (List UInt8)) (k : Nat) (hl : l.length ≤ 1048576) (hk : k ≤ 1048576) :
    g275_l0 b (l, (k : Int)) = match nxt b k with
      | none => some (.inr (l, (k : Int)))
      | some p => some (.inl (l ++ [p], ((k + p.length + 6 : Nat) : Int))) := by
  have e1 : IntKind.i64.wrap ((k : Int) + 2) = ((k + 2 : Nat) : Int) := by rw [wr ⟨by omega, by omega⟩]; omega
  simp only [g275_l0, e1]
  by_cases c1 : k + 2 ≤ b.length
  · rw [if_pos (decide_eq_true (by omega)), slc_dt b k 2 c1]
    simp only [Option.bind_some]
    have hn2 : ((b.drop k).take 2).length = 2 := by simp; omega
    rw [g333_eq _ (by omega)]
    have hnl := bigV_lt ((b.drop k).take 2) 0 0 (by simp)
    rw [hn2] at hnl
    have hnl' : bigV ((b.drop k).take 2) < 65536 := by simpa [bigV] using hnl
    generalize hnv : bigV ((b.drop k).take 2) = n at hnl'
    have e2 : IntKind.i64.wrap ((n : Int) - 1) = (n : Int) - 1 := wr ⟨by omega, by omega⟩
    have e3 : IntKind.i64.wrap (((k + 2 : Nat) : Int) + ((n : Int) - 1)) = ((k + n + 1 : Nat) : Int) := by rw [wr ⟨by omega, by omega⟩]; omega
    have e4 : IntKind.i64.wrap (((k + n + 1 : Nat) : Int) + 4) = ((k + n + 5 : Nat) : Int) := by rw [wr ⟨by omega, by omega⟩]; omega
    simp only [Option.bind_some, bindv, e2, e3, e4]
    by_cases c2 : 1 ≤ n ∧ n ≤ 2001
    · rw [g63_t _ _ _ (by omega)]
      simp only [Option.bind_some, Bool.not_true, cond_false]
      by_cases c3 : k + n + 5 ≤ b.length
      · have e5 : decide (((k + n + 5 : Nat) : Int) > (b.length : Int)) = false := decide_eq_false (by omega)
        have s1 : slc b (k : Int) ((k + n + 1 : Nat) : Int) = some ((b.drop k).take (n + 1)) := slc_dt b k (n + 1) (by omega)
        have s2 : slc b ((k + n + 1 : Nat) : Int) ((k + n + 5 : Nat) : Int) = some ((b.drop (k + n + 1)).take 4) := slc_dt b (k + n + 1) 4 (by omega)
        have s3 : slc b ((k + 2 : Nat) : Int) ((k + n + 1 : Nat) : Int) = some ((b.drop (k + 2)).take (n - 1)) := by
          have := slc_dt b (k + 2) (n - 1) (by omega)
          rwa [show k + 2 + (n - 1) = k + n + 1 by omega] at this
        rw [e5]
        simp only [beq_self_eq_true, if_true, s1, s2, Option.bind_some]
        rw [g332_eq _ (by simp; omega), g333_eq _ (by simp; omega)]
        simp only [Option.bind_some, cond_false]
        by_cases c4 : crcv ((b.drop k).take (n + 1)) = bigV ((b.drop (k + n + 1)).take 4)
        · have hx : nxt b k = some ((b.drop (k + 2)).take (n - 1)) := by
            unfold nxt; rw [hnv, if_pos c1, if_pos ⟨c2, c3⟩, if_pos c4]
          have hpl : ((b.drop (k + 2)).take (n - 1)).length = n - 1 := by simp; omega
          rw [hx, if_neg (by simp [c4]), s3]
          simp only [Option.bind_some]
          rw [g325_eq _ (by omega)]
          simp only [Option.bind_some]
          rw [if_pos (by simp; omega), hpl]
          congr 4; omega
        · have hx : nxt b k = none := by
            unfold nxt; rw [hnv, if_pos c1, if_pos ⟨c2, c3⟩, if_neg c4]
          rw [hx, if_pos (by rw [bne_iff_ne]; intro hh; exact c4 (by omega))]
      · have e5 : decide (((k + n + 5 : Nat) : Int) > (b.length : Int)) = true := decide_eq_true (by omega)
        have hx : nxt b k = none := by
          unfold nxt; rw [hnv, if_pos c1, if_neg (fun h => c3 h.2)]
        rw [hx, e5]
        rfl
    · have e6 : g63 ((n : Int) - 1) 0 2000 = some false := by
        unfold g63
        by_cases h1 : 1 ≤ n
        · rw [decide_eq_false (show ¬ (n : Int) - 1 ≤ 2000 by omega)]; cases decide ((0 : Int) ≤ (n : Int) - 1) <;> rfl
        · rw [decide_eq_false (show ¬ (0 : Int) ≤ (n : Int) - 1 by omega)]; rfl
      have hx : nxt b k = none := by
        unfold nxt; rw [hnv, if_pos c1, if_neg (fun h => c2 h.1)]
      rw [hx, e6]
      rfl
  · have hx : nxt b k = none := by
      unfold nxt; rw [if_neg c1]
    rw [hx, if_neg (by simp; omega)]
def framesB (L : List (List UInt8)) : List UInt8 := (L.map frameB).flatten
theorem framesB_append (A B : List (List UInt8)) : framesB (A ++ B) = framesB A ++ framesB B := by simp [framesB]
theorem framesB_one (p : List UInt8) : framesB [p] = frameB p := by simp [framesB]
theorem nxt_frame (A C p : List UInt8) (hp : p.length ≤ 2000) : nxt (A ++ (frameB p ++ C)) A.length = some p := by
  have d0 : (A ++ (frameB p ++ C)).drop A.length = frameB p ++ C := by simp
  have dk : ∀ j, (A ++ (frameB p ++ C)).drop (A.length + j) = (frameB p ++ C).drop j := fun j => by rw [← List.drop_drop, d0]
  have t2 : (frameB p ++ C).take 2 = bigB (p.length + 1) 2 := by
    unfold frameB headB
    rw [List.append_assoc, List.append_assoc, List.take_append_of_le_length (by simp), List.take_of_length_le (by simp)]
  have th : (frameB p ++ C).take (p.length + 2) = headB p := by
    unfold frameB
    rw [List.append_assoc, List.take_append_of_le_length (by rw [headB_len]; omega), List.take_of_length_le (by rw [headB_len]; omega)]
  have tc : ((frameB p ++ C).drop (p.length + 2)).take 4 = bigB (crcv (headB p)) 4 := by
    unfold frameB
    rw [List.append_assoc, ← headB_len p, List.drop_left, List.take_append_of_le_length (by simp), List.take_of_length_le (by simp)]
  have tp : ((frameB p ++ C).drop 2).take p.length = p := by
    unfold frameB headB
    rw [List.append_assoc, List.append_assoc]
    have hd : ∀ R : List UInt8, (bigB (p.length + 1) 2 ++ R).drop 2 = R := fun R => by
      have := List.drop_left (l₁ := bigB (p.length + 1) 2) (l₂ := R)
      rwa [bigB_len] at this
    rw [hd]
    simp
  unfold nxt
  rw [d0, t2, bigV_big2 _ (by omega)]
  have hlen : (A ++ (frameB p ++ C)).length = A.length + (p.length + 6 + C.length) := by simp
  rw [if_pos (by omega), if_pos ⟨⟨by omega, by omega⟩, by omega⟩]
  rw [show p.length + 1 + 1 = p.length + 2 by omega, th, show A.length + (p.length + 1) + 1 = A.length + (p.length + 2) by omega, dk, tc, bigV_big4 _ (crcv_lt _), if_pos rfl, dk, show p.length + 1 - 1 = p.length by omega, tp]
theorem nxt_zero (A : List UInt8) (m : Nat) : nxt (A ++ List.replicate m 0) A.length = none := by
  unfold nxt
  have d0 : (A ++ List.replicate m (0 : UInt8)).drop A.length = List.replicate m 0 := by simp
  rw [d0]
  by_cases h : A.length + 2 ≤ (A ++ List.replicate m (0 : UInt8)).length
  · rw [if_pos h]
    simp only [List.length_append, List.length_replicate] at h
    have e : (List.replicate m (0 : UInt8)).take 2 = [0, 0] := by
      rw [List.take_replicate, show min 2 m = 2 by omega]; rfl
    rw [e]
    have : bigV [0, 0] = 0 := by decide
    rw [this, if_neg (by omega)]
  · rw [if_neg h]
theorem scan_frames (L : List (List UInt8)) (m : Nat) (hL : ∀ p ∈ L, p.length ≤ 2000) (hb : (framesB L).length + m ≤ 1048576) :
    g275 (framesB L ++ List.replicate m 0) = some (L, (((framesB L).length : Nat) : Int)) := by
  have hcount : ∀ M : List (List UInt8), 6 * M.length ≤ (framesB M).length := by
    intro M
    induction M with
    | nil => simp [framesB]
    | cons p r ih => rw [show p :: r = [p] ++ r from rfl, framesB_append, framesB_one]; simp; omega
  have hlen : ∀ k, (framesB (L.take k)).length ≤ (framesB L).length := fun k => by
    conv => rhs; rw [← List.take_append_drop k L, framesB_append]
    simp
  have h := iter_upto (step := g275_l0 (framesB L ++ List.replicate m 0)) (fun k => (L.take k, (((framesB (L.take k)).length : Nat) : Int))) L.length (L, (((framesB L).length : Nat) : Int)) (fun k hk => by
    have h1 := hlen k
    have h2 := hcount (L.take k)
    rw [scan_step _ (by simp; omega) _ _ (by omega) (by omega)]
    have eb : framesB L ++ List.replicate m 0 = framesB (L.take k) ++ (frameB L[k] ++ (framesB (L.drop (k + 1)) ++ List.replicate m 0)) := by
      conv => lhs; rw [← List.take_append_drop k L, framesB_append, List.drop_eq_getElem_cons hk, show L[k] :: L.drop (k + 1) = [L[k]] ++ L.drop (k + 1) from rfl, framesB_append, framesB_one]
      simp only [List.append_assoc]
    rw [eb, nxt_frame _ _ _ (hL _ (List.getElem_mem hk)), List.take_succ_eq_append_getElem hk, framesB_append, framesB_one]
    simp only [List.length_append, frameB_len]
    congr 4) (by
    rw [List.take_length]
    have h2 := hcount L
    rw [scan_step _ (by simp; omega) _ _ (by omega) (by omega), nxt_zero])
  have h' : iter (g275_l0 (framesB L ++ List.replicate m 0)) ([], 0) = some (L, (((framesB L).length : Nat) : Int)) := h
  simp only [g275, h', Option.bind_some]
/-- Bytes that are noughts behind some others. -/
theorem zeros_of_gt (b F : List UInt8) (h : F.length ≤ b.length) (hg : ∀ i, gt b i = gt F i) : b = F ++ List.replicate (b.length - F.length) 0 := by
  apply List.ext_getElem
  · simp; omega
  · intro i i1 i2
    have := hg i
    unfold gt at this
    rw [List.getElem?_eq_getElem i1] at this
    simp only [Option.getD_some] at this
    rw [this]
    by_cases c : i < F.length
    · rw [List.getElem_append_left c, List.getElem?_eq_getElem c]; rfl
    · rw [List.getElem_append_right (by omega), List.getElem_replicate, List.getElem?_eq_none (by omega)]; rfl
theorem gt_zeros (F : List UInt8) (m i : Nat) : gt (F ++ List.replicate m 0) i = gt F i := by
  have := gt_pad F (F.length + m) i
  unfold padB at this
  rwa [show F.length + m - F.length = m by omega] at this
theorem gt_append (A B : List UInt8) (i : Nat) : gt (A ++ B) i = if i < A.length then gt A i else gt B (i - A.length) := by
  unfold gt
  by_cases c : i < A.length
  · rw [if_pos c, List.getElem?_append_left c]
  · rw [if_neg c, List.getElem?_append_right (by omega)]
theorem gt_past (A : List UInt8) (i : Nat) (h : A.length ≤ i) : gt A i = 0 := by unfold gt; rw [List.getElem?_eq_none h]; rfl
end Go.Ev
