/- Many instructions at once: what can be reckoned is reckoned by the kernel. -/
import Derived.Test.YtdmclbbhhcpjfaaQvM
set_option linter.all false
namespace Go.Ev
def Zt : V → Bool
 | .may _ _ => false
 | _ => true
theorem Pz {v : V} (h : Zt v = true) : Az true v := by cases v <;> first | trivial | cases h
theorem TK {v : V} (h : Zt v = true) : As v = v := by cases v <;> first | rfl | cases h
def dA (S : St) (n : Nat) : List (Nat × Nat × Cc) → Bool
 | [] => true
 | p :: r => match Ca (As (S.val p.2.2)) with
  | true => false
  | false => match Nat.beq (As (S.val p.2.2)).cells.length p.2.1 with
   | true => match Nat.ble (p.1 + p.2.1) n with
    | true => dA S n r
    | false => false
   | false => false
theorem bN {S : St} {n : Nat} : ∀ {l : List (Nat × Nat × Cc)}, dA S n l = true → Cd (fun p => Ca (As (S.val p.2.2)) = false ∧ (As (S.val p.2.2)).cells.length = p.2.1 ∧ p.1 + p.2.1 ≤ n) l
 | [], _ => trivial
 | p :: r, h => by
  unfold dA at h
  split at h
  ·cases h
  ·rename_i h1
   split at h
   ·rename_i h2
    split at h
    ·rename_i h3
     exact ⟨⟨h1, Nat.eq_of_beq_eq_true h2, Nat.le_of_ble_eq_true h3⟩, bN h⟩
    ·cases h
   ·cases h
def Rr (S : St) : PU → Bool
 | .mv _ | .un _ _ | .conv _ _ | .binB _ _ _ | .eqs _ _ _ _ | .lenS _ | .strc _ | .ext _ _ | .nilc _ | .xbyte _ _ | .mget _ _ => true
 | .bin op x _ => match op with
  | .eql | .neq | .lss | .leq | .gtr | .geq => true
  | .sub | .mul | .and | .or | .xor | .andNot => true
  | .add => match As (S.val x) with
   | .int _ _ => true
   | _ => false
  | _ => false
 | .mn x y | .mx x y => match As (S.val x), As (S.val y) with
  | .int k _, .int k' _ => decide (k = k')
  | _, _ => false
 | .load x n _ => match As (S.val x) with
  | .ptr t k => match look S.bx t with
   | some cs => Nat.ble (k + n) cs.length
   | none => false
  | .iptr cs => Nat.ble n cs.length
  | _ => false
 | .fieldA x off => match As (S.val x) with
  | .ptr _ _ | .optr _ _ _ _ => true
  | .iptr cs => Nat.ble off cs.length
  | _ => false
 | .field x off n _ => match As (S.val x) with
  | .agg cs => Nat.ble (off + n) cs.length
  | _ => false
 | .len x => match As (S.val x) with
  | .lst (_ + 1) _ | .own _ _ (_ + 1) _ => true
  | _ => false
 | .build zero ps => dA S zero.length ps
 | _ => false
theorem nV {S : St} {o : PU} {φ : Prop} {v : V} (h : Rr S o = true) (h2 : pu S (fun x => As (S.val x)) o = some (φ, v)) : φ := by
 cases o with
 | mv x => simp only [pu, Option.some.injEq, Prod.mk.injEq] at h2; rw [← h2.1]; trivial
 | bin op x y =>
  simp only [pu] at h2
  split at h2
  ·split at h2
   ·cases h
   ·cases h
   ·split at h2
    ·unfold eZ at h2
     split at h2 <;> first | (cases h; done) | (cases h2; trivial) | (cases h2)
    ·cases h2
  ·rename_i hx hy
   unfold fS at h2
   split at h2 <;> first | (cases h2; trivial) | skip
   ·simp only [Rr, hx] at h; cases h
   ·cases h2
  ·cases h2
 | binB op x y =>
  simp only [pu] at h2
  split at h2
  ·split at h2 <;> first | (cases h2; trivial) | cases h2
  ·cases h2
 | eqs ne ks x y =>
  simp only [pu] at h2
  split at h2
  ·split at h2 <;> first | (cases h2; trivial) | cases h2
  ·cases h2
 | un op x =>
  simp only [pu] at h2
  split at h2 <;> first | (cases h2; trivial) | cases h2
 | conv k x =>
  simp only [pu] at h2
  split at h2 <;> first | (cases h2; trivial) | cases h2
 | lenS x =>
  simp only [pu] at h2
  split at h2 <;> first | (cases h2; trivial) | cases h2
 | strc x =>
  simp only [pu] at h2
  split at h2 <;> first | (cases h2; trivial) | cases h2
 | ext x i =>
  simp only [pu] at h2
  split at h2
  ·split at h2 <;> first | (cases h2; trivial) | cases h2
  ·cases h2
 | nilc x =>
  simp only [pu] at h2
  split at h2 <;> first | (cases h2; trivial) | cases h2
 | xbyte x y =>
  simp only [pu] at h2
  split at h2 <;> first | (cases h2; trivial) | cases h2
 | mget x y =>
  simp only [pu] at h2
  split at h2 <;> first | (cases h2; trivial) | cases h2
 | mn x y =>
  simp only [pu] at h2
  split at h2
  ·rename_i hx hy
   simp only [Rr, hx, hy] at h
   cases h2; exact of_decide_eq_true h
  ·cases h2
 | mx x y =>
  simp only [pu] at h2
  split at h2
  ·rename_i hx hy
   simp only [Rr, hx, hy] at h
   cases h2; exact of_decide_eq_true h
  ·cases h2
 | load x n ag =>
  simp only [pu] at h2
  split at h2
  ·rename_i hx
   split at h2
   ·rename_i hl
    split at h2
    ·simp only [Rr, hx, hl] at h
     cases h2; exact Nat.le_of_ble_eq_true h
    ·cases h2
   ·cases h2
  ·rename_i hx
   split at h2
   ·simp only [Rr, hx] at h
    cases h2; exact Nat.le_of_ble_eq_true h
   ·cases h2
  ·rename_i hx
   simp only [Rr, hx] at h; cases h
  ·cases h2
 | fieldA x off =>
  simp only [pu] at h2
  split at h2
  ·cases h2; trivial
  ·rename_i hx
   simp only [Rr, hx] at h
   cases h2; exact Nat.le_of_ble_eq_true h
  ·cases h2; trivial
  ·cases h2
 | field x off n ag =>
  simp only [pu] at h2
  split at h2
  ·rename_i hx
   split at h2
   ·simp only [Rr, hx] at h
    cases h2; exact Nat.le_of_ble_eq_true h
   ·cases h2
  ·cases h2
 | len x =>
  simp only [pu] at h2
  split at h2
  ·rename_i s es hx
   simp only [Rr, hx] at h
   cases h2
   cases s with
   | zero => cases h
   | succ n => exact Nat.succ_ne_zero n
  ·rename_i s es hx
   simp only [Rr, hx] at h
   cases h2
   cases s with
   | zero => cases h
   | succ n => exact Nat.succ_ne_zero n
  ·cases h2
 | build zero ps => simp only [pu, Option.some.injEq, Prod.mk.injEq] at h2; rw [← h2.1]; exact bN h
 | _ => cases h
def Vc (S : St) : List Cc → Bool
 | [] => true
 | x :: r => match Zt (S.val x) with
  | true => Vc S r
  | false => false
theorem Xs {S : St} : ∀ {l : List Cc}, Vc S l = true → Cd (fun x => Az true (S.val x)) l
 | [], _ => trivial
 | x :: r, h => by
  unfold Vc at h
  split at h
  ·rename_i hp; exact ⟨Pz hp, Xs h⟩
  ·cases h
def nU (sz len : Nat) : List (Nat × V) → Bool
 | [] => true
 | p :: r => match Nat.blt p.1 len with
  | true => match Nat.beq p.2.cells.length sz with
   | true => match p.2.cells.all (fun c => !Jy c) with
    | true => nU sz len r
    | false => false
   | false => false
  | false => false
theorem iH {sz len : Nat} : ∀ {l : List (Nat × V)}, nU sz len l = true → Cd (fun p => p.1 < len ∧ p.2.cells.length = sz ∧ p.2.cells.all (fun c => !Jy c) = true) l
 | [], _ => trivial
 | p :: r, h => by
  unfold nU at h
  split at h
  ·rename_i h1
   split at h
   ·rename_i h2
    split at h
    ·rename_i h3
     exact ⟨⟨Nat.le_of_ble_eq_true h1, Nat.eq_of_beq_eq_true h2, h3⟩, iH h⟩
    ·cases h
   ·cases h
  ·cases h
theorem xS {S : St} : ∀ {l : List (Nat × Cc)}, Vc S (l.map (·.2)) = true → Cd (fun p => nm S p.2) l
 | [], _ => trivial
 | p :: r, h => by
  unfold List.map Vc at h
  split at h
  ·rename_i hp; exact ⟨Pz hp, xS h⟩
  ·cases h
def q1 (i : Ch) (S : St) : Option St :=
 match i with
 | ⟨d, .p o, none⟩ => match Vc S o.opds with
  | true => match Rr S o with
   | true => match pu S (fun x => As (S.val x)) o with
    | some (_, v) => some (S.putC d v (Je (fun x => As (S.val x)) o))
    | none => none
   | false => none
  | false => none
 | ⟨some d, .box x, none⟩ => match Zt ((S.drop (64 * d)).val x) with
  | true => match Ca (As ((S.drop (64 * d)).val x)) with
   | true => none
   | false => some (((S.drop (64 * d)).setBx (64 * d) (As ((S.drop (64 * d)).val x)).cells).put (some d) (.ptr (64 * d) 0))
  | false => none
 | ⟨some d, .alloc z, none⟩ => some (((S.drop (64 * d)).setBx (64 * d) z).put (some d) (.ptr (64 * d) 0))
 | ⟨some d, .nilS sz, none⟩ => some ((S.drop (64 * d)).put (some d) (.own (64 * d) 0 sz []))
 | ⟨d, .store x v n, none⟩ => match S.val x with
  | .ptr t k => match Zt (S.val v) with
   | true => match Ca (As (S.val v)) with
    | true => none
    | false => match Nat.beq (As (S.val v)).cells.length n with
     | true => match look S.bx t with
      | some bs => match Nat.ble (k + n) bs.length with
       | true => some ((S.setBx t (Dl bs k (As (S.val v)).cells)).put d .undef)
       | false => none
      | none => none
     | false => none
   | false => none
  | _ => none
 | ⟨some d, .mkS sz zero len parts, none⟩ => match Vc S (parts.map (·.2)) with
  | true => match nU sz len (parts.map fun p => (p.1, As (S.val p.2))) with
   | true => some (((S.freezes (Iv (parts.map fun p => (p.1, As (S.val p.2))))).drop (64 * d)).put (some d)
    (.own (64 * d) 0 sz (Ju sz (List.replicate len zero) ((parts.map fun p => (p.1, As (S.val p.2))).map fun p => (p.1, p.2.cells.map Fb)))))
   | false => none
  | false => none
 | _ => none
theorem yI {C : Bc} {i : Ch} {S S' : St} {K : St → Prop} (h : q1 i S = some S') (k : K S') : Db C i S K := by
 unfold q1 at h
 split at h
 ·split at h
  ·rename_i h1
   split at h
   ·rename_i h2
    split at h
    ·rename_i h3
     cases h
     exact p_ (Xs h1) h3 (nV h2 h3) k
    ·cases h
   ·cases h
  ·cases h
 ·split at h
  ·rename_i h1
   split at h
   ·cases h
   ·rename_i h2
    cases h
    exact XP rfl (Pz h1) h2 k
  ·cases h
 ·cases h; exact Jo k
 ·cases h; exact nP k
 ·split at h
  ·rename_i hx
   split at h
   ·rename_i h1
    split at h
    ·cases h
    ·rename_i h2
     split at h
     ·rename_i h3
      split at h
      ·rename_i h4
       split at h
       ·rename_i h5
        cases h
        exact Ia hx rfl (Pz h1) h2 (Nat.eq_of_beq_eq_true h3) h4 (Nat.le_of_ble_eq_true h5) k
       ·cases h
      ·cases h
     ·cases h
   ·cases h
  ·cases h
 ·split at h
  ·rename_i h1
   split at h
   ·rename_i h2
    cases h
    exact Ni (xS h1) (iH h2) k
   ·cases h
  ·cases h
 ·cases h
theorem iK {i : Ch} {S S' : St} (h : q1 i S = some S') : Dp i S := by
 unfold Dp
 split
 ·rename_i o x n ag hop
  split
  ·rename_i hx
   unfold q1 at h
   split at h
   ·rename_i d o' g
    cases hop
    split at h
    ·split at h
     ·rename_i hp
      simp only [Rr, hx] at hp
      cases hp
     ·cases h
    ·cases h
   all_goals first | cases hop | (cases h)
  ·trivial
 ·trivial
def cY : List Hi → Option (Option Ch × List Hi)
 | .c .skip :: T => some (none, T)
 | .c (.seq a b) :: T => some (none, .c a :: .w :: .c b :: T)
 | .c (.reg []) :: T => some (none, T)
 | .c (.reg (i :: l)) :: T => some (some i, .c (.reg l) :: T)
 | .c (.block id a) :: T => some (none, .c a :: .b id :: T)
 | .c (.draw .fin) :: T => some (none, T)
 | .c (.draw (.take i p)) :: T => some (some i, .c (.draw p) :: T)
 | .w :: T => some (none, T)
 | .b _ :: T => some (none, T)
 | _ => none
def cX : Nat → List Hi → List Hi
 | 0, T => T
 | n + 1, T => match cY T with
  | some (_, T') => cX n T'
  | none => T
def run : Nat → List Hi → St → Option St
 | 0, _, S => some S
 | n + 1, T, S => match cY T with
  | some (none, T') => run n T' S
  | some (some i, T') => match q1 i S with
   | some S' => run n T' S'
   | none => none
  | none => none
variable {C : Bc} {Q : Ex → St → Prop} {S : St} {T : List Hi}
theorem bL {T' : List Hi} (h : cY T = some (none, T')) (k : WL C T' Q .normal S) : WL C T Q .normal S := by
 unfold cY at h
 split at h <;> cases h
 ·exact Nj k
 ·exact Bz k
 ·exact k
 ·exact Cr k
 ·exact k
 ·exact qU k
 ·exact aR k
theorem oJ {i : Ch} {T' : List Hi} {S' : St} (h : cY T = some (some i, T')) (hq : q1 i S = some S') (k : WL C T' Q .normal S') : WL C T Q .normal S := by
 unfold cY at h
 split at h <;> cases h
 ·exact Au (st (yI hq k))
 ·exact Dh (Ak (iK hq) (yI hq ⟨trivial, k⟩))
theorem bZ : ∀ (n : Nat) {T : List Hi} {S S' : St}, run n T S = some S' → WL C (cX n T) Q .normal S' → WL C T Q .normal S
 | 0, T, S, S', h, k => by cases h; exact k
 | n + 1, T, S, S', h, k => by
  unfold run at h
  unfold cX at k
  split at h
  ·rename_i h1
   rw [h1] at k
   exact bL h1 (bZ n h k)
  ·rename_i h1
   split at h
   ·rename_i h2
    rw [h1] at k
    exact oJ h1 h2 (bZ n h k)
   ·cases h
  ·cases h
def tlW : List Hi → List Hi
 | .w :: T => T
 | T => T
def isW : List Hi → Bool
 | .w :: _ => true
 | _ => false
def VJ (o : Option St) (S' : St) : Option (List (Option V) × List (Option (List V)) × List (Nat × Int)) := o.map fun S => (S'.env.map (fun p => look S.env p.1), S'.bx.map (fun p => look S.bx p.1), S'.cp)
def VL (S' : St) : Option (List (Option V) × List (Option (List V)) × List (Nat × Int)) := some (S'.env.map (fun p => some p.2), S'.bx.map (fun p => some p.2), [])
theorem rz_ (n : Nat) (ts : List Nat) (rs : List (Nat × Nat)) (S' : St) (k : WL C (tlW (cX n T)) Q .normal S')
  (hw : isW (cX n T) = true := by kernel_rfl) (hr : fT rs = true := by kernel_rfl) (h : VJ ((run n T S).map fun S => (S.freezes ts).swaps rs) S' = VL S' := by kernel_rfl) : WL C T Q .normal S := by
 cases hR : run n T S with
 | none => rw [hR] at h; cases h
 | some S1 =>
  rw [hR] at h
  refine bZ n hR ?_
  cases hT : cX n T with
  | nil => rw [hT] at hw; cases hw
  | cons x T' =>
   rw [hT] at hw k
   cases x with
   | w => exact Dv S' ((Fg.fz _ ts).trans ((Fg.sw _ rs hr).trans (.le (cT.le (Option.some.inj h))))) k
   | c a => cases hw
   | b id => cases hw
theorem Br (n : Nat) (S' : St) (k : WL C (tlW (cX n T)) Q .normal S') (hw : isW (cX n T) = true := by kernel_rfl) (h : VJ (run n T S) S' = VL S' := by kernel_rfl) : WL C T Q .normal S :=
 rz_ n [] [] S' k hw rfl (by cases hR : run n T S with | none => rw [hR] at h; cases h | some S1 => rw [hR] at h; exact h)
def runD (n : Nat) (T : List Hi) (S : St) : St := (run n T S).getD S
theorem Bu (n : Nat) (k : WL C (cX n T) Q .normal (runD n T S)) (h : (run n T S).isSome = true := by kernel_rfl) : WL C T Q .normal S := by
 cases hR : run n T S with
 | none => rw [hR] at h; cases h
 | some S1 =>
  refine bZ n hR ?_
  unfold runD at k
  rw [hR] at k
  exact k
def nQ : Nat → List Hi → Bool
 | 0, _ => true
 | n + 1, T => match cY T with
  | some (none, T') => nQ n T'
  | _ => false
theorem cH : ∀ (n : Nat) {T : List Hi}, nQ n T = true → run n T S = some S
 | 0, _, _ => rfl
 | n + 1, T, h => by
  unfold nQ at h
  unfold run
  split at h
  ·rename_i h1
   rw [h1]
   exact cH n h
  ·cases h
theorem Uv (n : Nat) (k : WL C (cX n T) Q .normal S) (h : nQ n T = true := by kernel_rfl) : WL C T Q .normal S := bZ n (cH n h) k
def retE (o : Option St) (res : List bK) (nb : Nat) : Option (Bool × V × List (List V)) :=
 match o with
 | none => none
 | some S => match yM S res with
  | none => none
  | some v => match Mr S (Vr nb ++ Fa v.flat) with
   | none => none
   | some css => some (Rm 65 [(Hw (v.flat ++ css.flatten)).length, (Fa v.flat).length], Hy (Tr (Hw (v.flat ++ css.flatten)) (Fa v.flat)) v, Ol (Tr (Hw (v.flat ++ css.flatten)) (Fa v.flat)) css)
def wZ : List Hi → Bool
 | .c .ret :: _ => true
 | _ => false
theorem aN {res : List bK} {nb : Nat} {t : Ft} (n : Nat) (hQ : ∀ S', FQ res nb t .ret S' → Q .ret S') (ts : List Nat := []) (h6 : t.rw = [] := by exact rfl) (hr : wZ (cX n T) = true := by kernel_rfl)
  (h : retE ((run n T S).map fun S => S.freezes ts) res nb = some (true, t.r, t.bx) := by kernel_rfl) : WL C T Q .normal S := by
 cases hR : run n T S with
 | none => rw [hR] at h; cases h
 | some S1 =>
  rw [hR] at h
  refine bZ n hR ?_
  cases hT : cX n T with
  | nil => rw [hT] at hr; cases hr
  | cons x T' =>
   rw [hT] at hr
   unfold wZ at hr
   split at hr
   ·rename_i e
    cases e
    refine cL (hQ _ ?_)
    refine retf_ (Fg.fz _ ts) ?_
    unfold retE at h
    split at h
    ·cases h
    ·rename_i S2 e2
     obtain rfl := Option.some.inj e2
     split at h
     ·cases h
     ·rename_i h1
      split at h
      ·cases h
      ·rename_i h2
       simp only [Option.some.injEq, Prod.mk.injEq] at h
       exact Mb h1 h2 h.1 h.2.1 h.2.2 (by rw [h6]; trivial)
   ·cases hr
theorem Dr {res : List bK} {nb : Nat} {t : Ft} (n : Nat) (ts : List Nat := []) (h6 : t.rw = [] := by exact rfl) (hr : wZ (cX n T) = true := by kernel_rfl)
  (h : retE ((run n T S).map fun S => S.freezes ts) res nb = some (true, t.r, t.bx) := by kernel_rfl) : WL C T (FQ res nb t) .normal S := aN n (fun _ h => h) ts h6 hr h
theorem bb {α β : Type} {o : Option α} {f : α → Option β} {r : β} {P : Prop} (h : o.bind f = some r) (k : ∀ x, o = some x → f x = some r → P) : P := by
 obtain ⟨x, h1, h2⟩ := bnd h
 exact k x h1 h2
theorem bv {α β : Type} {e : α} {f : α → Option β} {r : β} {P : Prop} (h : Bd e f = some r) (k : ∀ x, x = e → f x = some r → P) : P := k e rfl h
theorem gg {α : Type} {c : Prop} [Decidable c] {a : Option α} {r : α} {P : Prop} (h : (if c then a else none) = some r) (k : c → a = some r → P) : P := k (kS h).1 (kS h).2
theorem Dm {α : Type} {c : Cc} {a b : IR} {cb : Bool} {x y r : α} (h0 : (if cb = true then x else y) = r) (k1 : cb = true → x = r → WL C (.c a :: T) Q .normal S) (k2 : cb = false → y = r → WL C (.c b :: T) Q .normal S)
  (hc : S.val c = .bool cb := by kernel_rfl) : WL C (.c (.ite c a b) :: T) Q .normal S := xA hc (fun h => k1 h (ip h h0)) (fun h => k2 h (wX h h0))
def vJ (S : St) (as : List Cc) : Bool × Bool × List V := (Vc S as, Qg (fun v => !Ca v) (as.map fun x => As (S.val x)), (as.map fun x => As (S.val x)).map (mapW (S.liftC [] [] [] false)))
theorem dE {d : Option Nat} {l : List Ch} {f : Nat} {as : List Cc} {gv : List V} {r : V} (H : C f ⟨gv, []⟩ ⟨r, [], []⟩) (h3 : r.flat.all Iz = true)
  (k : OL C l T Q ((S.drops (On (d.getD 0) (Hg r.flat))).put d (Hy (Hc (d.getD 0) 0 [] []) r))) (h : vJ S as = (true, true, gv) := by kernel_rfl) : OL C (⟨d, .call f as, none⟩ :: l) T Q S := by
 simp only [vJ, Prod.mk.injEq] at h
 exact st (Bv false H (Xs h.1) h.2.1 h.2.2 (fun _ => h3) k)
theorem Re {d : Option Nat} {l : List Ch} {f : Nat} {as : List Cc} {gv : List V} {r : V} (H : C f ⟨gv, []⟩ ⟨r, [], []⟩)
  (k : OL C l T Q ((S.drops (On (d.getD 0) (Hg r.flat))).put d (Hy (Hc (d.getD 0) 0 [] []) r))) (h : vJ S as = (true, true, gv) := by kernel_rfl) (h3 : r.flat.all Iz = true := by kernel_rfl) : OL C (⟨d, .call f as, none⟩ :: l) T Q S := dE H h3 k h
def iA (S : St) (g : Bool) : List Cc → List (Bool × Bool)
 | [] => []
 | x :: r => match S.val x with
  | .may b _ => (b, g) :: iA S g r
  | _ => iA S g r
def TF (b : Bool) : V → List (Bool × Bool)
 | .may c _ => [(c, b)]
 | _ => []
abbrev My (l : List (Bool × Bool)) : Prop := l.map (·.1) = l.map (·.2)
theorem Zn {S : St} {g : Bool} (hg : g = true) : ∀ {l : List Cc}, My (iA S g l) → Cd (fun x => Az true (S.val x)) l
 | [], _ => trivial
 | x :: r, h => by
  unfold iA at h
  split at h
  ·rename_i hx
   simp only [My, List.map_cons, List.cons.injEq] at h
   refine ⟨?_, Zn hg h.2⟩
   show Az true (S.val x)
   rw [hx]
   exact fun _ => by rw [h.1]; exact hg
  ·rename_i hx
   refine ⟨?_, Zn hg h⟩
   show Az true (S.val x)
   cases hv : S.val x <;> first | trivial | exact absurd hv (hx _ _)
theorem nN {b c : Bool} {v : V} (h : My (TF b v)) (hb : c = true → b = true) : Az c v := by
 cases v with
 | may x y =>
  simp only [My, TF, List.map_cons, List.map_nil, List.cons.injEq, and_true] at h
  exact fun hc => by rw [h]; exact hb hc
 | _ => trivial
def q2 (i : Ch) (S : St) : Option (St × List (Bool × Bool)) :=
 match i with
 | ⟨d, .p o, some (gs, want)⟩ => match Li (S.val (.t gs)) want with
  | some g => match Rr S o with
   | true => match pu S (fun x => As (S.val x)) o with
    | some (_, v) => some (S.put d (.may g v), iA S g o.opds)
    | none => none
   | false => none
  | none => none
 | ⟨d, .pick c a b, none⟩ => match S.val c with
  | .bool cb => some (S.put d (Oq cb (As (S.val a)) (As (S.val b))), TF (cb == true) (S.val a) ++ TF (cb == false) (S.val b))
  | _ => none
 | i => match q1 i S with
  | some S' => some (S', [])
  | none => none
theorem cP {a b : List (Bool × Bool)} (h : My (a ++ b)) : My a := by
 simp only [My, List.map_append] at h
 exact (List.append_inj h (by simp)).1
theorem mC {a b : List (Bool × Bool)} (h : My (a ++ b)) : My b := by
 simp only [My, List.map_append] at h
 exact (List.append_inj h (by simp)).2
theorem VG {C : Bc} {i : Ch} {S S' : St} {l : List (Bool × Bool)} {K : St → Prop} (h : q2 i S = some (S', l)) (hl : My l) (k : K S') : Db C i S K := by
 unfold q2 at h
 split at h
 ·split at h
  ·rename_i hg
   split at h
   ·rename_i h2
    split at h
    ·rename_i h3
     cases h
     exact Da hg (fun e => ⟨Zn e hl, _, h3, nV h2 h3⟩) k
    ·cases h
   ·cases h
  ·cases h
 ·split at h
  ·rename_i hc
   cases h
   exact Ey hc rfl rfl (nN (cP hl) fun e => by rw [e]; rfl) (nN (mC hl) fun e => dG e) rfl k
  ·cases h
 ·split at h
  ·rename_i h1
   cases h
   exact yI h1 k
  ·cases h
theorem yJ {i : Ch} {S S' : St} {l : List (Bool × Bool)} (h : q2 i S = some (S', l)) : Dp i S := by
 unfold q2 at h
 split at h
 ·rename_i d o gs want
  unfold Dp
  split
  ·rename_i x n ag hop
   split
   ·rename_i hx
    cases hop
    split at h
    ·split at h
     ·rename_i hp
      simp only [Rr, hx] at hp
      cases hp
     ·cases h
    ·cases h
   ·trivial
  ·trivial
 ·trivial
 ·split at h
  ·rename_i h1
   exact iK h1
  ·cases h
def aB : Nat → List Hi → St → Option (St × List (Bool × Bool))
 | 0, _, S => some (S, [])
 | n + 1, T, S => match cY T with
  | some (none, T') => aB n T' S
  | some (some i, T') => match q2 i S with
   | some (S', l) => match aB n T' S' with
    | some (S2, l2) => some (S2, l ++ l2)
    | none => none
   | none => none
  | none => none
theorem Xi : ∀ (n : Nat) {T : List Hi} {S S' : St} {l : List (Bool × Bool)}, aB n T S = some (S', l) → My l → WL C (cX n T) Q .normal S' → WL C T Q .normal S
 | 0, T, S, S', l, h, _, k => by cases h; exact k
 | n + 1, T, S, S', l, h, hl, k => by
  unfold aB at h
  unfold cX at k
  split at h
  ·rename_i h1
   rw [h1] at k
   exact bL h1 (Xi n h hl k)
  ·rename_i i T' h1
   split at h
   ·rename_i S1 l1 h2
    rw [h1] at k
    split at h
    ·rename_i h3
     cases h
     have kk := Xi n h3 (mC hl) k
     unfold cY at h1
     split at h1 <;> cases h1
     ·exact Au (st (VG h2 (cP hl) kk))
     ·exact Dh (Ak (yJ h2) (VG h2 (cP hl) ⟨trivial, kk⟩))
    ·cases h
   ·cases h
  ·cases h
def VH (o : Option (St × List (Bool × Bool))) (S' : St) : Option ((List (Option V) × List (Option (List V)) × List (Nat × Int)) × List Bool) := o.map fun p => ((S'.env.map (fun q => look p.1.env q.1), S'.bx.map (fun q => look p.1.bx q.1), S'.cp), p.2.map (·.1))
def VK (o : Option (St × List (Bool × Bool))) (S' : St) : Option ((List (Option V) × List (Option (List V)) × List (Nat × Int)) × List Bool) := match o with
 | some p => some ((S'.env.map (fun p => some p.2), S'.bx.map (fun p => some p.2), []), p.2.map (·.2))
 | none => some (([], [], []), [])
theorem SZ (n : Nat) (S' : St) (k : WL C (tlW (cX n T)) Q .normal S') (hw : isW (cX n T) = true := by kernel_rfl) (h : VH (aB n T S) S' = VK (aB n T S) S' := by kernel_rfl) : WL C T Q .normal S := by
 cases hR : aB n T S with
 | none => rw [hR] at h; cases h
 | some p =>
  obtain ⟨S1, l⟩ := p
  rw [hR] at h
  simp only [VH, VK, Option.map_some, Option.some.injEq, Prod.mk.injEq] at h
  refine Xi n hR h.2 ?_
  cases hT : cX n T with
  | nil => rw [hT] at hw; cases hw
  | cons x T' =>
   rw [hT] at hw k
   cases x with
   | w => exact Dv S' (.le (cT.le (by simp only [Prod.mk.injEq]; exact h.1))) k
   | c a => cases hw
   | b id => cases hw
def runH (n : Nat) (T : List Hi) (S : St) : St := match aB n T S with
 | some p => p.1
 | none => S
def XK : Option (St × List (Bool × Bool)) → Option (List Bool)
 | some p => some (p.2.map (·.1))
 | none => none
def XL : Option (St × List (Bool × Bool)) → Option (List Bool)
 | some p => some (p.2.map (·.2))
 | none => some []
theorem Lh (n : Nat) (k : WL C (cX n T) Q .normal (runH n T S)) (h : XK (aB n T S) = XL (aB n T S) := by kernel_rfl) : WL C T Q .normal S := by
 cases hR : aB n T S with
 | none => rw [hR] at h; cases h
 | some p =>
  obtain ⟨S1, l⟩ := p
  unfold runH at k
  rw [hR] at k h
  exact Xi n hR (Option.some.inj h) k
theorem o_ {l : List Ch} (k : WL C (.c (.reg l) :: T) Q .normal S) : OL C l T Q S := k
theorem d_ {p : DP} (k : WL C (.c (.draw p) :: T) Q .normal S) : WD C p [] (WL C T Q .normal) S := k
end Go.Ev
