/- FnExactCallTarget: whatever the input, the law returns true, and its arguments read behind the call as they read before. No condition: every input. -/
import Derived.Test.YtdkeomfbpdodiaaRows
import Derived.Test.YtdkeomfbpdodiaaQvT
import Derived.Test.YtdkeomfbpdodiaaQgW0
import Derived.Test.YtdkeomfbpdodiaaQwZ
import Derived.WalkKit
import Derived.ProofKit
import Derived.OpenShut
import Derived.ShutString
import Derived.ChangeOld
import Derived.Below
import Derived.SizedLaws
import Derived.Carry
set_option linter.all false
set_option maxRecDepth 100000
namespace Go.Proofs.Ytdkeomfbpdodiaa.fnExactCallTarget
open Go.ChangeShapes Go.WideShapes Go.ChangeAt Go.RowKit Go.Ev
def phi : FMap := [(36, 36), (37, 37), (38, 38), (56, 56), (85, 85), (86, 86), (42, 42), (43, 43), (63, 63), (58, 58), (59, 59), (87, 87), (88, 88), (120, 120), (136, 136), (140, 140), (141, 141), (121, 121), (122, 122), (123, 123), (89, 89), (44, 44), (12, 12), (143, 143)]
def tbl : List (Nat × XFn) := [(36, c36), (37, c37), (38, c38), (56, c56), (85, c85), (86, c86), (42, c42), (43, c43), (63, c63), (58, c58), (59, c59), (87, c87), (88, c88), (120, c120), (136, c136), (140, c140), (141, c141), (121, c121), (122, c122), (123, c123), (89, c89), (44, c44), (12, c12)]
theorem tied : Tied Try.prog phi (Go.Ev.look tbl) := tied_all ⟨tone (xf := c36) rfl Try.f36 (by kernel_rfl) (by kernel_rfl),
  tone (xf := c37) rfl Try.f37 (by kernel_rfl) (by kernel_rfl),
  tone (xf := c38) rfl Try.f38 (by kernel_rfl) (by kernel_rfl),
  tone (xf := c56) rfl Try.f56 (by kernel_rfl) (by kernel_rfl),
  tone (xf := c85) rfl Try.f85 (by kernel_rfl) (by kernel_rfl),
  tone (xf := c86) rfl Try.f86 (by kernel_rfl) (by kernel_rfl),
  tone (xf := c42) rfl Try.f42 (by kernel_rfl) (by kernel_rfl),
  tone (xf := c43) rfl Try.f43 (by kernel_rfl) (by kernel_rfl),
  tone (xf := c63) rfl Try.f63 (by kernel_rfl) (by kernel_rfl),
  tone (xf := c58) rfl Try.f58 (by kernel_rfl) (by kernel_rfl),
  tone (xf := c59) rfl Try.f59 (by kernel_rfl) (by kernel_rfl),
  tone (xf := c87) rfl Try.f87 (by kernel_rfl) (by kernel_rfl),
  tone (xf := c88) rfl Try.f88 (by kernel_rfl) (by kernel_rfl),
  tone (xf := c120) rfl Try.f120 (by kernel_rfl) (by kernel_rfl),
  tone (xf := c136) rfl Try.f136 (by kernel_rfl) (by kernel_rfl),
  tone (xf := c140) rfl Try.f140 (by kernel_rfl) (by kernel_rfl),
  tone (xf := c141) rfl Try.f141 (by kernel_rfl) (by kernel_rfl),
  tone (xf := c121) rfl Try.f121 (by kernel_rfl) (by kernel_rfl),
  tone (xf := c122) rfl Try.f122 (by kernel_rfl) (by kernel_rfl),
  tone (xf := c123) rfl Try.f123 (by kernel_rfl) (by kernel_rfl),
  tone (xf := c89) rfl Try.f89 (by kernel_rfl) (by kernel_rfl),
  tone (xf := c44) rfl Try.f44 (by kernel_rfl) (by kernel_rfl),
  tone (xf := c12) rfl Try.f12 (by kernel_rfl) (by kernel_rfl),
  tno rfl, trivial⟩
theorem k36 : K36 (CallsV Try.prog phi) := fun a0 a1 r h => tied_sound tied (xf := c36) rfl (F36  a0 a1 r h)
theorem k37 : K37 (CallsV Try.prog phi) := fun a0 a1 r h => tied_sound tied (xf := c37) rfl (F37  a0 a1 r h)
theorem k38 : K38 (CallsV Try.prog phi) := fun a0 a1 r h => tied_sound tied (xf := c38) rfl (F38  a0 a1 r h)
theorem k56 : K56 (CallsV Try.prog phi) := fun a0 a1 a2 r h => tied_sound tied (xf := c56) rfl (F56  a0 a1 a2 r h)
theorem k85 : K85 (CallsV Try.prog phi) := fun a0 a1 r h => tied_sound tied (xf := c85) rfl (F85 k56 a0 a1 r h)
theorem k86 : K86 (CallsV Try.prog phi) := fun a0 a1 a2 a3 r h => tied_sound tied (xf := c86) rfl (F86  a0 a1 a2 a3 r h)
theorem k42 : K42 (CallsV Try.prog phi) := fun a0 a1 a2 a3 r h => tied_sound tied (xf := c42) rfl (F42 k56 k85 k86 a0 a1 a2 a3 r h)
theorem k43 : K43 (CallsV Try.prog phi) := fun a0 r h => tied_sound tied (xf := c43) rfl (F43  a0 r h)
theorem k63 : K63 (CallsV Try.prog phi) := fun a0 a1 a2 r h => tied_sound tied (xf := c63) rfl (F63  a0 a1 a2 r h)
theorem k58 : K58 (CallsV Try.prog phi) := fun a0 r h => tied_sound tied (xf := c58) rfl (F58 k63 a0 r h)
theorem k59 : K59 (CallsV Try.prog phi) := fun a0 a1 a2 r h => tied_sound tied (xf := c59) rfl (F59 k63 a0 a1 a2 r h)
theorem k87 : K87 (CallsV Try.prog phi) := fun a0 r h => tied_sound tied (xf := c87) rfl (F87  a0 r h)
theorem k88 : K88 (CallsV Try.prog phi) := fun a0 r h => tied_sound tied (xf := c88) rfl (F88 k63 a0 r h)
theorem k120 : K120 (CallsV Try.prog phi) := fun a0 r h => tied_sound tied (xf := c120) rfl (F120  a0 r h)
theorem k136 : K136 (CallsV Try.prog phi) := fun a0 r h => tied_sound tied (xf := c136) rfl (F136  a0 r h)
theorem k140 : K140 (CallsV Try.prog phi) := fun a0 a1 r h => tied_sound tied (xf := c140) rfl (F140 k136 a0 a1 r h)
theorem k141 : K141 (CallsV Try.prog phi) := fun a0 r h => tied_sound tied (xf := c141) rfl (F141  a0 r h)
theorem k121 : K121 (CallsV Try.prog phi) := fun a0 a1 r h => tied_sound tied (xf := c121) rfl (F121 k140 k141 a0 a1 r h)
theorem k122 : K122 (CallsV Try.prog phi) := fun a0 a1 a2 r h => tied_sound tied (xf := c122) rfl (F122  a0 a1 a2 r h)
theorem k123 : K123 (CallsV Try.prog phi) := fun a0 a1 a2 r h => tied_sound tied (xf := c123) rfl (F123  a0 a1 a2 r h)
theorem k89 : K89 (CallsV Try.prog phi) := fun a0 a1 a2 a3 r h => tied_sound tied (xf := c89) rfl (F89 k120 k121 k122 k123 a0 a1 a2 a3 r h)
theorem k44 : K44 (CallsV Try.prog phi) := fun a0 a1 a2 a3 r h => tied_sound tied (xf := c44) rfl (F44 k58 k59 k87 k88 k89 a0 a1 a2 a3 r h)
theorem k12 : K12 (CallsV Try.prog phi) := fun a0 a1 a2 a3 r h => tied_sound tied (xf := c12) rfl (F12 k36 k37 k38 k42 k43 k44 a0 a1 a2 a3 r h)

theorem own : ownKnob Try.prog.godebug = none := by kernel_rfl
theorem laid : laidOutB Try.prog = true := by kernel_rfl
theorem lifted (os : Os) (started : os.Started) (H : Type) (enc : TypeId × Value → H) :
    ReturnsInHanded {} Try.checked os 12 .any (Rows.fnExactCallTargetSpec.pre6 enc Try.prog Try.f12 Rows.fnExactCallTargetRow.domain false) (Rows.fnExactCallTargetSpec.post enc Try.prog Try.f12 false true false false) := by
  refine returnsInHanded_of_change_sized (C := Try.checked) own started (by kernel_rfl) Try.func12
    (ChangeSpec.witness6 (enc := enc) (C := Try.checked) false ⟨#[], #[.slice none 0 0, .int .i64 0, .bool false, .int .i64 0], []⟩ 8 (by kernel_rfl) (by kernel_rfl) (by kernel_rfl) (by kernel_rfl)) ?_
  intro W base args ds gs before hval0 hW hcnd hsz0 _
  have hval : ∀ (j : Nat) t v, Try.f12.params[j]? = some t → args[j]? = some v → Value.okWide Try.prog W .any base t v := hval0
  have hW' := hW
  obtain ⟨p, q, hA0, hV, rfl, hfz, hnd⟩ := hW
  have hA : DataW.TrodAll enc Try.prog W 0 (fun _ => true) true Try.f12.params.toList args.toList ds p := hA0
  rw [Try.params12] at hA hval
  obtain ⟨v0, vs0, d0, ds0, p0, q0, hargs, rfl, rfl, h0, r0⟩ := trodAll_cons hA
  obtain ⟨v1, vs1, d1, ds1, p1, q1, rfl, rfl, rfl, h1, r1⟩ := trodAll_cons r0
  obtain ⟨v2, vs2, d2, ds2, p2, q2, rfl, rfl, rfl, h2, r2⟩ := trodAll_cons r1
  obtain ⟨v3, vs3, d3, ds3, p3, q3, rfl, rfl, rfl, h3, r3⟩ := trodAll_cons r2
  obtain ⟨rfl, rfl, rfl⟩ := trodAll_nil r3
  obtain rfl : args = #[v0, v1, v2, v3] := by cases args; simp_all
  obtain ⟨rfl, rfl⟩ := trodVars_none hV
  obtain ⟨u0, t0, rt0⟩ := arg_V (φ := phi) (n := 12) (T := .slice 1 (.int .i64)) (by kernel_rfl) (hval 0 45 v0 rfl rfl) h0
  obtain ⟨a0, rfl, o0⟩ := Ok.arg1 (e := (eL 1 eI)) (fun x => .lst 1 (x.map eI)) (fun _ => rfl) (Ok.slice Ok.int64) t0
  have hlt0 : ∀ x ∈ p0, x.block < W.heap.size := fun x hx => hW'.lt x (by simp [hx])
  obtain ⟨u1, t1, rt1⟩ := arg_V (φ := phi) (n := 12) (T := .int .i64) (by kernel_rfl) (hval 1 3 v1 rfl rfl) h1
  obtain ⟨a1, rfl, o1⟩ := Ok.arg1 (e := eI) (fun x => .int .i64 x) (fun _ => rfl) Ok.int64 t1
  have hlt1 : ∀ x ∈ p1, x.block < W.heap.size := fun x hx => hW'.lt x (by simp [hx])
  obtain ⟨u2, t2, rt2⟩ := arg_V (φ := phi) (n := 12) (T := .bool) (by kernel_rfl) (hval 2 4 v2 rfl rfl) h2
  obtain ⟨a2, rfl, o2⟩ := Ok.arg1 (e := eB) (fun x => .bool x) (fun _ => rfl) Ok.bool t2
  have hlt2 : ∀ x ∈ p2, x.block < W.heap.size := fun x hx => hW'.lt x (by simp [hx])
  obtain ⟨u3, t3, rt3⟩ := arg_V (φ := phi) (n := 12) (T := .int .i64) (by kernel_rfl) (hval 3 3 v3 rfl rfl) h3
  obtain ⟨a3, rfl, o3⟩ := Ok.arg1 (e := eI) (fun x => .int .i64 x) (fun _ => rfl) Ok.int64 t3
  have hlt3 : ∀ x ∈ p3, x.block < W.heap.size := fun x hx => hW'.lt x (by simp [hx])
  have hc := law_calls (P := Try.prog) (φ := phi) (f := 12) (fid := 12) (vals := [v0, v1, v2, v3]) (vs := [.lst 1 (a0.map eI), .int .i64 a1, .bool a2, .int .i64 a3]) (w := W) rfl rfl (rts rt0 (rts rt1 (rts rt2 (rts rt3 rtz)))) (k12 a0 a1 a2 a3 true (g12_law a0 a1 a2 a3 o0 o1 o2 o3))
  refine hc.mono fun e W' ⟨he, bel⟩ => ?_
  subst he
  exact ⟨_, rfl, _, _, _, [], _, [], hW', trodAll_mk1 (shut_bool Try.underlying4 _), (trodAll_cons_mk (Below.trod laid (by kernel_rfl) (of_decide_eq_true (by kernel_rfl)) h0 bel hlt0) (trodAll_cons_mk (Below.trod laid (by kernel_rfl) (of_decide_eq_true (by kernel_rfl)) h1 bel hlt1) (trodAll_cons_mk (Below.trod laid (by kernel_rfl) (of_decide_eq_true (by kernel_rfl)) h2 bel hlt2) (trodAll_cons_mk (Below.trod laid (by kernel_rfl) (of_decide_eq_true (by kernel_rfl)) h3 bel hlt3) trodAll_mk0)))), rfl, bel.frame _, fun h => by cases h⟩
theorem over : Rows.fnExactCallTargetRow.holds Try.pinned (OpenSpec.ofChange Rows.fnExactCallTargetSpec) :=
  OpenClaim.holds_of_wide 12 Try.f12 rfl rfl rfl rfl rfl rfl rfl ⟨rfl, rfl, rfl, rfl, rfl⟩ rfl rfl rfl rfl rfl (by kernel_rfl) Try.func12 (by kernel_rfl)
    (of_decide_eq_true (by kernel_rfl)) (by unfold Func.isWrapper; first | (rw [if_pos (by decide +kernel)]; kernel_rfl) | (rw [if_neg (by decide +kernel)]; exact ⟨rfl, rfl⟩))
    (fun os started H enc _ => lifted os started H enc)
end Go.Proofs.Ytdkeomfbpdodiaa.fnExactCallTarget
namespace Go.Proofs.Ytdkeomfbpdodiaa
/-- FnExactCallTarget. -/
theorem fnExactCallTarget_holds : Rows.FnExactCallTargetSaid := fnExactCallTarget.over
end Go.Proofs.Ytdkeomfbpdodiaa
