/- FnCalls: whatever the input, the law returns true, and its arguments read behind the call as they read before. No condition: every input. -/
import Derived.Test.YtdkeomfbpdodiaaRows
import Derived.Test.YtdkeomfbpdodiaaQvT
import Derived.Test.YtdkeomfbpdodiaaQgW3
import Derived.Test.YtdkeomfbpdodiaaQwZ
import Derived.WalkKit
import Derived.ProofKit
import Derived.OpenShut
import Derived.ShutString
import Derived.ChangeOld
import Derived.Below
import Derived.SizedLaws
import Derived.Carry
set_option linter.all false
set_option maxRecDepth 100000
namespace Go.Proofs.Ytdkeomfbpdodiaa.fnCalls
open Go.ChangeShapes Go.WideShapes Go.ChangeAt Go.RowKit Go.Ev
def phi : FMap := [(40, 40), (56, 56), (85, 85), (86, 86), (42, 42), (63, 63), (58, 58), (59, 59), (87, 87), (88, 88), (120, 120), (136, 136), (140, 140), (141, 141), (121, 121), (122, 122), (123, 123), (89, 89), (44, 44), (100, 100), (92, 92), (111, 111), (74, 74), (53, 53), (79, 79), (81, 81), (102, 102), (70, 70), (133, 133), (145, 145), (132, 132), (76, 76), (146, 146), (134, 134), (101, 101), (50, 50), (83, 83), (139, 139), (117, 117), (118, 118), (119, 119), (147, 147), (135, 135), (103, 103), (51, 51), (52, 52), (14, 14), (143, 143)]
def tbl : List (Nat × XFn) := [(40, c40), (56, c56), (85, c85), (86, c86), (42, c42), (63, c63), (58, c58), (59, c59), (87, c87), (88, c88), (120, c120), (136, c136), (140, c140), (141, c141), (121, c121), (122, c122), (123, c123), (89, c89), (44, c44), (100, c100), (92, c92), (111, c111), (74, c74), (53, c53), (79, c79), (81, c81), (102, c102), (70, c70), (133, c133), (145, c145), (132, c132), (76, c76), (146, c146), (134, c134), (101, c101), (50, c50), (83, c83), (139, c139), (117, c117), (118, c118), (119, c119), (147, c147), (135, c135), (103, c103), (51, c51), (52, c52), (14, c14)]
theorem tied : Tied Try.prog phi (Go.Ev.look tbl) := tied_all ⟨tone (xf := c40) rfl Try.f40 (by kernel_rfl) (by kernel_rfl),
  tone (xf := c56) rfl Try.f56 (by kernel_rfl) (by kernel_rfl),
  tone (xf := c85) rfl Try.f85 (by kernel_rfl) (by kernel_rfl),
  tone (xf := c86) rfl Try.f86 (by kernel_rfl) (by kernel_rfl),
  tone (xf := c42) rfl Try.f42 (by kernel_rfl) (by kernel_rfl),
  tone (xf := c63) rfl Try.f63 (by kernel_rfl) (by kernel_rfl),
  tone (xf := c58) rfl Try.f58 (by kernel_rfl) (by kernel_rfl),
  tone (xf := c59) rfl Try.f59 (by kernel_rfl) (by kernel_rfl),
  tone (xf := c87) rfl Try.f87 (by kernel_rfl) (by kernel_rfl),
  tone (xf := c88) rfl Try.f88 (by kernel_rfl) (by kernel_rfl),
  tone (xf := c120) rfl Try.f120 (by kernel_rfl) (by kernel_rfl),
  tone (xf := c136) rfl Try.f136 (by kernel_rfl) (by kernel_rfl),
  tone (xf := c140) rfl Try.f140 (by kernel_rfl) (by kernel_rfl),
  tone (xf := c141) rfl Try.f141 (by kernel_rfl) (by kernel_rfl),
  tone (xf := c121) rfl Try.f121 (by kernel_rfl) (by kernel_rfl),
  tone (xf := c122) rfl Try.f122 (by kernel_rfl) (by kernel_rfl),
  tone (xf := c123) rfl Try.f123 (by kernel_rfl) (by kernel_rfl),
  tone (xf := c89) rfl Try.f89 (by kernel_rfl) (by kernel_rfl),
  tone (xf := c44) rfl Try.f44 (by kernel_rfl) (by kernel_rfl),
  tone (xf := c100) rfl Try.f100 (by kernel_rfl) (by kernel_rfl),
  tone (xf := c92) rfl Try.f92 (by kernel_rfl) (by kernel_rfl),
  tone (xf := c111) rfl Try.f111 (by kernel_rfl) (by kernel_rfl),
  tone (xf := c74) rfl Try.f74 (by kernel_rfl) (by kernel_rfl),
  tone (xf := c53) rfl Try.f53 (by kernel_rfl) (by kernel_rfl),
  tone (xf := c79) rfl Try.f79 (by kernel_rfl) (by kernel_rfl),
  tone (xf := c81) rfl Try.f81 (by kernel_rfl) (by kernel_rfl),
  tone (xf := c102) rfl Try.f102 (by kernel_rfl) (by kernel_rfl),
  tone (xf := c70) rfl Try.f70 (by kernel_rfl) (by kernel_rfl),
  tone (xf := c133) rfl Try.f133 (by kernel_rfl) (by kernel_rfl),
  tone (xf := c145) rfl Try.f145 (by kernel_rfl) (by kernel_rfl),
  tone (xf := c132) rfl Try.f132 (by kernel_rfl) (by kernel_rfl),
  tone (xf := c76) rfl Try.f76 (by kernel_rfl) (by kernel_rfl),
  tone (xf := c146) rfl Try.f146 (by kernel_rfl) (by kernel_rfl),
  tone (xf := c134) rfl Try.f134 (by kernel_rfl) (by kernel_rfl),
  tone (xf := c101) rfl Try.f101 (by kernel_rfl) (by kernel_rfl),
  tone (xf := c50) rfl Try.f50 (by kernel_rfl) (by kernel_rfl),
  tone (xf := c83) rfl Try.f83 (by kernel_rfl) (by kernel_rfl),
  tone (xf := c139) rfl Try.f139 (by kernel_rfl) (by kernel_rfl),
  tone (xf := c117) rfl Try.f117 (by kernel_rfl) (by kernel_rfl),
  tone (xf := c118) rfl Try.f118 (by kernel_rfl) (by kernel_rfl),
  tone (xf := c119) rfl Try.f119 (by kernel_rfl) (by kernel_rfl),
  tone (xf := c147) rfl Try.f147 (by kernel_rfl) (by kernel_rfl),
  tone (xf := c135) rfl Try.f135 (by kernel_rfl) (by kernel_rfl),
  tone (xf := c103) rfl Try.f103 (by kernel_rfl) (by kernel_rfl),
  tone (xf := c51) rfl Try.f51 (by kernel_rfl) (by kernel_rfl),
  tone (xf := c52) rfl Try.f52 (by kernel_rfl) (by kernel_rfl),
  tone (xf := c14) rfl Try.f14 (by kernel_rfl) (by kernel_rfl),
  tno rfl, trivial⟩
theorem k40 : K40 (CallsV Try.prog phi) := fun a0 a1 a2 r h => tied_sound tied (xf := c40) rfl (F40  a0 a1 a2 r h)
theorem k56 : K56 (CallsV Try.prog phi) := fun a0 a1 a2 r h => tied_sound tied (xf := c56) rfl (F56  a0 a1 a2 r h)
theorem k85 : K85 (CallsV Try.prog phi) := fun a0 a1 r h => tied_sound tied (xf := c85) rfl (F85 k56 a0 a1 r h)
theorem k86 : K86 (CallsV Try.prog phi) := fun a0 a1 a2 a3 r h => tied_sound tied (xf := c86) rfl (F86  a0 a1 a2 a3 r h)
theorem k42 : K42 (CallsV Try.prog phi) := fun a0 a1 a2 a3 r h => tied_sound tied (xf := c42) rfl (F42 k56 k85 k86 a0 a1 a2 a3 r h)
theorem k63 : K63 (CallsV Try.prog phi) := fun a0 a1 a2 r h => tied_sound tied (xf := c63) rfl (F63  a0 a1 a2 r h)
theorem k58 : K58 (CallsV Try.prog phi) := fun a0 r h => tied_sound tied (xf := c58) rfl (F58 k63 a0 r h)
theorem k59 : K59 (CallsV Try.prog phi) := fun a0 a1 a2 r h => tied_sound tied (xf := c59) rfl (F59 k63 a0 a1 a2 r h)
theorem k87 : K87 (CallsV Try.prog phi) := fun a0 r h => tied_sound tied (xf := c87) rfl (F87  a0 r h)
theorem k88 : K88 (CallsV Try.prog phi) := fun a0 r h => tied_sound tied (xf := c88) rfl (F88 k63 a0 r h)
theorem k120 : K120 (CallsV Try.prog phi) := fun a0 r h => tied_sound tied (xf := c120) rfl (F120  a0 r h)
theorem k136 : K136 (CallsV Try.prog phi) := fun a0 r h => tied_sound tied (xf := c136) rfl (F136  a0 r h)
theorem k140 : K140 (CallsV Try.prog phi) := fun a0 a1 r h => tied_sound tied (xf := c140) rfl (F140 k136 a0 a1 r h)
theorem k141 : K141 (CallsV Try.prog phi) := fun a0 r h => tied_sound tied (xf := c141) rfl (F141  a0 r h)
theorem k121 : K121 (CallsV Try.prog phi) := fun a0 a1 r h => tied_sound tied (xf := c121) rfl (F121 k140 k141 a0 a1 r h)
theorem k122 : K122 (CallsV Try.prog phi) := fun a0 a1 a2 r h => tied_sound tied (xf := c122) rfl (F122  a0 a1 a2 r h)
theorem k123 : K123 (CallsV Try.prog phi) := fun a0 a1 a2 r h => tied_sound tied (xf := c123) rfl (F123  a0 a1 a2 r h)
theorem k89 : K89 (CallsV Try.prog phi) := fun a0 a1 a2 a3 r h => tied_sound tied (xf := c89) rfl (F89 k120 k121 k122 k123 a0 a1 a2 a3 r h)
theorem k44 : K44 (CallsV Try.prog phi) := fun a0 a1 a2 a3 r h => tied_sound tied (xf := c44) rfl (F44 k58 k59 k87 k88 k89 a0 a1 a2 a3 r h)
theorem k100 : K100 (CallsV Try.prog phi) := fun a0 r h => tied_sound tied (xf := c100) rfl (F100 k56 a0 r h)
theorem k92 : K92 (CallsV Try.prog phi) := fun a0 a1 r h => tied_sound tied (xf := c92) rfl (F92  a0 a1 r h)
theorem k111 : K111 (CallsV Try.prog phi) := fun a0 r h => tied_sound tied (xf := c111) rfl (F111  a0 r h)
theorem k74 : K74 (CallsV Try.prog phi) := fun a0 a1 r h => tied_sound tied (xf := c74) rfl (F74 k92 k111 a0 a1 r h)
theorem k53 : K53 (CallsV Try.prog phi) := fun a0 a1 r h => tied_sound tied (xf := c53) rfl (F53  a0 a1 r h)
theorem k79 : K79 (CallsV Try.prog phi) := fun a0 a1 a2 r h => tied_sound tied (xf := c79) rfl (F79 k53 k92 k111 a0 a1 a2 r h)
theorem k81 : K81 (CallsV Try.prog phi) := fun a0 a1 r h => tied_sound tied (xf := c81) rfl (F81 k111 a0 a1 r h)
theorem k102 : K102 (CallsV Try.prog phi) := fun a0 r h => tied_sound tied (xf := c102) rfl (F102 k111 a0 r h)
theorem k70 : K70 (CallsV Try.prog phi) := fun a0 a1 a2 r h => tied_sound tied (xf := c70) rfl (F70 k53 k111 a0 a1 a2 r h)
theorem k133 : K133 (CallsV Try.prog phi) := fun a0 r h => tied_sound tied (xf := c133) rfl (F133 k102 a0 r h)
theorem k145 : K145 (CallsV Try.prog phi) := fun a0 a1 r h => tied_sound tied (xf := c145) rfl (F145  a0 a1 r h)
theorem k132 : K132 (CallsV Try.prog phi) := fun a0 a1 r h => tied_sound tied (xf := c132) rfl (F132 k70 k86 k102 k133 k145 a0 a1 r h)
theorem k76 : K76 (CallsV Try.prog phi) := fun a0 a1 r h => tied_sound tied (xf := c76) rfl (F76 k92 a0 a1 r h)
theorem k146 : K146 (CallsV Try.prog phi) := fun a0 a1 r h => tied_sound tied (xf := c146) rfl (F146  a0 a1 r h)
theorem k134 : K134 (CallsV Try.prog phi) := fun a0 a1 r h => tied_sound tied (xf := c134) rfl (F134 k76 k86 k102 k133 k145 k146 a0 a1 r h)
theorem k101 : K101 (CallsV Try.prog phi) := fun a0 a1 r h => tied_sound tied (xf := c101) rfl (F101 k56 k74 k79 k81 k102 k132 k133 k134 a0 a1 r h)
theorem k50 : K50 (CallsV Try.prog phi) := fun a0 r h => tied_sound tied (xf := c50) rfl (F50 k100 k101 k102 a0 r h)
theorem k83 : K83 (CallsV Try.prog phi) := fun a0 r h => tied_sound tied (xf := c83) rfl (F83  a0 r h)
theorem k139 : K139 (CallsV Try.prog phi) := fun a0 r h => tied_sound tied (xf := c139) rfl (F139  a0 r h)
theorem k117 : K117 (CallsV Try.prog phi) := fun a0 a1 r h => tied_sound tied (xf := c117) rfl (F117 k139 a0 a1 r h)
theorem k118 : K118 (CallsV Try.prog phi) := fun a0 a1 r h => tied_sound tied (xf := c118) rfl (F118  a0 a1 r h)
theorem k119 : K119 (CallsV Try.prog phi) := fun a0 a1 r h => tied_sound tied (xf := c119) rfl (F119 k117 a0 a1 r h)
theorem k147 : K147 (CallsV Try.prog phi) := fun a0 r h => tied_sound tied (xf := c147) rfl (F147 k117 a0 r h)
theorem k135 : K135 (CallsV Try.prog phi) := fun a0 r h => tied_sound tied (xf := c135) rfl (F135 k117 k119 k147 a0 r h)
theorem k103 : K103 (CallsV Try.prog phi) := fun a0 r h => tied_sound tied (xf := c103) rfl (F103 k117 k118 k135 a0 r h)
theorem k51 : K51 (CallsV Try.prog phi) := fun a0 r h => tied_sound tied (xf := c51) rfl (F51 k83 k103 a0 r h)
theorem k52 : K52 (CallsV Try.prog phi) := fun a0 a1 r h => tied_sound tied (xf := c52) rfl (F52  a0 a1 r h)
theorem k14 : K14 (CallsV Try.prog phi) := fun a0 a1 r h => tied_sound tied (xf := c14) rfl (F14 k40 k42 k44 k50 k51 k52 a0 a1 r h)

theorem own : ownKnob Try.prog.godebug = none := by kernel_rfl
theorem laid : laidOutB Try.prog = true := by kernel_rfl
theorem lifted (os : Os) (started : os.Started) (H : Type) (enc : TypeId × Value → H) :
    ReturnsInHanded {} Try.checked os 14 .any (Rows.fnCallsSpec.pre6 enc Try.prog Try.f14 Rows.fnCallsRow.domain false) (Rows.fnCallsSpec.post enc Try.prog Try.f14 false true false false) := by
  refine returnsInHanded_of_change_sized (C := Try.checked) own started (by kernel_rfl) Try.func14
    (ChangeSpec.witness6 (enc := enc) (C := Try.checked) false ⟨#[], #[.slice none 0 0, .slice none 0 0], []⟩ 8 (by kernel_rfl) (by kernel_rfl) (by kernel_rfl) (by kernel_rfl)) ?_
  intro W base args ds gs before hval0 hW hcnd hsz0 _
  have hval : ∀ (j : Nat) t v, Try.f14.params[j]? = some t → args[j]? = some v → Value.okWide Try.prog W .any base t v := hval0
  have hW' := hW
  obtain ⟨p, q, hA0, hV, rfl, hfz, hnd⟩ := hW
  have hA : DataW.TrodAll enc Try.prog W 0 (fun _ => true) true Try.f14.params.toList args.toList ds p := hA0
  rw [Try.params14] at hA hval
  obtain ⟨v0, vs0, d0, ds0, p0, q0, hargs, rfl, rfl, h0, r0⟩ := trodAll_cons hA
  obtain ⟨v1, vs1, d1, ds1, p1, q1, rfl, rfl, rfl, h1, r1⟩ := trodAll_cons r0
  obtain ⟨rfl, rfl, rfl⟩ := trodAll_nil r1
  obtain rfl : args = #[v0, v1] := by cases args; simp_all
  obtain ⟨rfl, rfl⟩ := trodVars_none hV
  obtain ⟨u0, t0, rt0⟩ := arg_V (φ := phi) (n := 12) (T := .slice 1 (.int .u8)) (by kernel_rfl) (hval 0 50 v0 rfl rfl) h0
  obtain ⟨a0, rfl, o0⟩ := Ok.arg1 (e := (eL 1 eU8)) (fun x => .lst 1 (x.map eU8)) (fun _ => rfl) (Ok.slice Ok.u8) t0
  have hlt0 : ∀ x ∈ p0, x.block < W.heap.size := fun x hx => hW'.lt x (by simp [hx])
  obtain ⟨u1, t1, rt1⟩ := arg_V (φ := phi) (n := 12) (T := .slice 1 (.int .u8)) (by kernel_rfl) (hval 1 50 v1 rfl rfl) h1
  obtain ⟨a1, rfl, o1⟩ := Ok.arg1 (e := (eL 1 eU8)) (fun x => .lst 1 (x.map eU8)) (fun _ => rfl) (Ok.slice Ok.u8) t1
  have hlt1 : ∀ x ∈ p1, x.block < W.heap.size := fun x hx => hW'.lt x (by simp [hx])
  have hc := law_calls (P := Try.prog) (φ := phi) (f := 14) (fid := 14) (vals := [v0, v1]) (vs := [.lst 1 (a0.map eU8), .lst 1 (a1.map eU8)]) (w := W) rfl rfl (rts rt0 (rts rt1 rtz)) (k14 a0 a1 true (g14_law a0 a1 o0 o1))
  refine hc.mono fun e W' ⟨he, bel⟩ => ?_
  subst he
  exact ⟨_, rfl, _, _, _, [], _, [], hW', trodAll_mk1 (shut_bool Try.underlying4 _), (trodAll_cons_mk (Below.trod laid (by kernel_rfl) (of_decide_eq_true (by kernel_rfl)) h0 bel hlt0) (trodAll_cons_mk (Below.trod laid (by kernel_rfl) (of_decide_eq_true (by kernel_rfl)) h1 bel hlt1) trodAll_mk0)), rfl, bel.frame _, fun h => by cases h⟩
theorem over : Rows.fnCallsRow.holds Try.pinned (OpenSpec.ofChange Rows.fnCallsSpec) :=
  OpenClaim.holds_of_wide 14 Try.f14 rfl rfl rfl rfl rfl rfl rfl ⟨rfl, rfl, rfl, rfl, rfl⟩ rfl rfl rfl rfl rfl (by kernel_rfl) Try.func14 (by kernel_rfl)
    (of_decide_eq_true (by kernel_rfl)) (by unfold Func.isWrapper; first | (rw [if_pos (by decide +kernel)]; kernel_rfl) | (rw [if_neg (by decide +kernel)]; exact ⟨rfl, rfl⟩))
    (fun os started H enc _ => lifted os started H enc)
end Go.Proofs.Ytdkeomfbpdodiaa.fnCalls
namespace Go.Proofs.Ytdkeomfbpdodiaa
/-- FnCalls. -/
theorem fnCalls_holds : Rows.FnCallsSaid := fnCalls.over
end Go.Proofs.Ytdkeomfbpdodiaa
