/- FnTorn: whatever the input, the law returns true, and its arguments read behind the call as they read before. No condition: every input. -/
import Derived.Test.YtdmclbbhhcpjfaaRows
import Derived.Test.YtdmclbbhhcpjfaaQvT
import Derived.Test.YtdmclbbhhcpjfaaQgW2
import Derived.Test.YtdmclbbhhcpjfaaQxC
import Derived.WalkKit
import Derived.ProofKit
import Derived.OpenShut
import Derived.ShutString
import Derived.ChangeOld
import Derived.Below
import Derived.SizedLaws
import Derived.Carry
set_option linter.all false
set_option maxRecDepth 100000
namespace Go.Proofs.Ytdmclbbhhcpjfaa.fnTorn
open Go.ChangeShapes Go.WideShapes Go.ChangeAt Go.RowKit Go.Ev
def phi : FMap := [(82, 269), (232, 367), (167, 329), (168, 330), (83, 270), (85, 63), (84, 271), (19, 216), (77, 264), (165, 327), (163, 325), (164, 326), (76, 263), (231, 366), (166, 328), (78, 265), (17, 214), (74, 83), (169, 139), (86, 117), (87, 118), (88, 272), (20, 217), (170, 331), (171, 332), (90, 274), (22, 219), (172, 333), (91, 275), (23, 220), (25, 222), (95, 56), (109, 290), (110, 291), (191, 352), (122, 303), (111, 292), (192, 353), (123, 304), (190, 351), (121, 302), (46, 240), (47, 241), (81, 268), (124, 305), (48, 242), (193, 119), (125, 306), (49, 243), (8, 206)]
def tbl : List (Nat × XFn) := [(269, c269), (367, c367), (329, c329), (330, c330), (270, c270), (63, c63), (271, c271), (216, c216), (264, c264), (327, c327), (325, c325), (326, c326), (263, c263), (366, c366), (328, c328), (265, c265), (214, c214), (83, c83), (139, c139), (117, c117), (118, c118), (272, c272), (217, c217), (331, c331), (332, c332), (274, c274), (219, c219), (333, c333), (275, c275), (220, c220), (222, c222), (56, c56), (290, c290), (291, c291), (352, c352), (303, c303), (292, c292), (353, c353), (304, c304), (351, c351), (302, c302), (240, c240), (241, c241), (268, c268), (305, c305), (242, c242), (119, c119), (306, c306), (243, c243), (206, c206)]
theorem tied : Tied Try.prog phi (Go.Ev.look tbl) := tied_all ⟨tone (xf := c269) rfl Try.f82 (by kernel_rfl) (by kernel_rfl),
  tone (xf := c367) rfl Try.f232 (by kernel_rfl) (by kernel_rfl),
  tone (xf := c329) rfl Try.f167 (by kernel_rfl) (by kernel_rfl),
  tone (xf := c330) rfl Try.f168 (by kernel_rfl) (by kernel_rfl),
  tone (xf := c270) rfl Try.f83 (by kernel_rfl) (by kernel_rfl),
  tone (xf := c63) rfl Try.f85 (by kernel_rfl) (by kernel_rfl),
  tone (xf := c271) rfl Try.f84 (by kernel_rfl) (by kernel_rfl),
  tone (xf := c216) rfl Try.f19 (by kernel_rfl) (by kernel_rfl),
  tone (xf := c264) rfl Try.f77 (by kernel_rfl) (by kernel_rfl),
  tone (xf := c327) rfl Try.f165 (by kernel_rfl) (by kernel_rfl),
  tone (xf := c325) rfl Try.f163 (by kernel_rfl) (by kernel_rfl),
  tone (xf := c326) rfl Try.f164 (by kernel_rfl) (by kernel_rfl),
  tone (xf := c263) rfl Try.f76 (by kernel_rfl) (by kernel_rfl),
  tone (xf := c366) rfl Try.f231 (by kernel_rfl) (by kernel_rfl),
  tone (xf := c328) rfl Try.f166 (by kernel_rfl) (by kernel_rfl),
  tone (xf := c265) rfl Try.f78 (by kernel_rfl) (by kernel_rfl),
  tone (xf := c214) rfl Try.f17 (by kernel_rfl) (by kernel_rfl),
  tone (xf := c83) rfl Try.f74 (by kernel_rfl) (by kernel_rfl),
  tone (xf := c139) rfl Try.f169 (by kernel_rfl) (by kernel_rfl),
  tone (xf := c117) rfl Try.f86 (by kernel_rfl) (by kernel_rfl),
  tone (xf := c118) rfl Try.f87 (by kernel_rfl) (by kernel_rfl),
  tone (xf := c272) rfl Try.f88 (by kernel_rfl) (by kernel_rfl),
  tone (xf := c217) rfl Try.f20 (by kernel_rfl) (by kernel_rfl),
  tone (xf := c331) rfl Try.f170 (by kernel_rfl) (by kernel_rfl),
  tone (xf := c332) rfl Try.f171 (by kernel_rfl) (by kernel_rfl),
  tone (xf := c274) rfl Try.f90 (by kernel_rfl) (by kernel_rfl),
  tone (xf := c219) rfl Try.f22 (by kernel_rfl) (by kernel_rfl),
  tone (xf := c333) rfl Try.f172 (by kernel_rfl) (by kernel_rfl),
  tone (xf := c275) rfl Try.f91 (by kernel_rfl) (by kernel_rfl),
  tone (xf := c220) rfl Try.f23 (by kernel_rfl) (by kernel_rfl),
  tone (xf := c222) rfl Try.f25 (by kernel_rfl) (by kernel_rfl),
  tone (xf := c56) rfl Try.f95 (by kernel_rfl) (by kernel_rfl),
  tone (xf := c290) rfl Try.f109 (by kernel_rfl) (by kernel_rfl),
  tone (xf := c291) rfl Try.f110 (by kernel_rfl) (by kernel_rfl),
  tone (xf := c352) rfl Try.f191 (by kernel_rfl) (by kernel_rfl),
  tone (xf := c303) rfl Try.f122 (by kernel_rfl) (by kernel_rfl),
  tone (xf := c292) rfl Try.f111 (by kernel_rfl) (by kernel_rfl),
  tone (xf := c353) rfl Try.f192 (by kernel_rfl) (by kernel_rfl),
  tone (xf := c304) rfl Try.f123 (by kernel_rfl) (by kernel_rfl),
  tone (xf := c351) rfl Try.f190 (by kernel_rfl) (by kernel_rfl),
  tone (xf := c302) rfl Try.f121 (by kernel_rfl) (by kernel_rfl),
  tone (xf := c240) rfl Try.f46 (by kernel_rfl) (by kernel_rfl),
  tone (xf := c241) rfl Try.f47 (by kernel_rfl) (by kernel_rfl),
  tone (xf := c268) rfl Try.f81 (by kernel_rfl) (by kernel_rfl),
  tone (xf := c305) rfl Try.f124 (by kernel_rfl) (by kernel_rfl),
  tone (xf := c242) rfl Try.f48 (by kernel_rfl) (by kernel_rfl),
  tone (xf := c119) rfl Try.f193 (by kernel_rfl) (by kernel_rfl),
  tone (xf := c306) rfl Try.f125 (by kernel_rfl) (by kernel_rfl),
  tone (xf := c243) rfl Try.f49 (by kernel_rfl) (by kernel_rfl),
  tone (xf := c206) rfl Try.f8 (by kernel_rfl) (by kernel_rfl), trivial⟩
theorem k269 : K269 (CallsV Try.prog phi) := fun a0 r h => tied_sound tied (xf := c269) rfl (F269  a0 r h)
theorem k367 : K367 (CallsV Try.prog phi) := fun a0 f1 k1 is1 hs1 hf1 r h => tied_sound tied (xf := c367) rfl (F367  a0 f1 k1 is1 hs1 hf1 r h)
theorem k329 : K329 (CallsV Try.prog phi) := fun a0 f1 k1 is1 hs1 hf1 r h => tied_sound tied (xf := c329) rfl (F329 k367 a0 f1 k1 is1 hs1 hf1 r h)
theorem k330 : K330 (CallsV Try.prog phi) := fun a0 f1 k1 is1 hs1 hf1 r h => tied_sound tied (xf := c330) rfl (F330  a0 f1 k1 is1 hs1 hf1 r h)
theorem k270 : K270 (CallsV Try.prog phi) := fun a0 f1 k1 is1 hs1 hf1 r h => tied_sound tied (xf := c270) rfl (F270 k329 k330 a0 f1 k1 is1 hs1 hf1 r h)
theorem k63 : K63 (CallsV Try.prog phi) := fun a0 a1 a2 r h => tied_sound tied (xf := c63) rfl (F63  a0 a1 a2 r h)
theorem k271 : K271 (CallsV Try.prog phi) := fun a0 r h => tied_sound tied (xf := c271) rfl (F271 k63 a0 r h)
theorem k216 : K216 (CallsV Try.prog phi) := fun a0 r h => tied_sound tied (xf := c216) rfl (F216 k269 k270 k271 a0 r h)
theorem k264 : K264 (CallsV Try.prog phi) := fun a0 r h => tied_sound tied (xf := c264) rfl (F264  a0 r h)
theorem k327 : K327 (CallsV Try.prog phi) := fun a0 a1 r h => tied_sound tied (xf := c327) rfl (F327 k63 a0 a1 r h)
theorem k325 : K325 (CallsV Try.prog phi) := fun a0 r h => tied_sound tied (xf := c325) rfl (F325  a0 r h)
theorem k326 : K326 (CallsV Try.prog phi) := fun a0 a1 r h => tied_sound tied (xf := c326) rfl (F326  a0 a1 r h)
theorem k263 : K263 (CallsV Try.prog phi) := fun a0 r h => tied_sound tied (xf := c263) rfl (F263 k325 k326 a0 r h)
theorem k366 : K366 (CallsV Try.prog phi) := fun a0 r h => tied_sound tied (xf := c366) rfl (F366 k325 a0 r h)
theorem k328 : K328 (CallsV Try.prog phi) := fun a0 a1 a2 r h => tied_sound tied (xf := c328) rfl (F328 k263 k325 k366 a0 a1 a2 r h)
theorem k265 : K265 (CallsV Try.prog phi) := fun a0 a1 a2 r h => tied_sound tied (xf := c265) rfl (F265 k269 k327 k328 a0 a1 a2 r h)
theorem k214 : K214 (CallsV Try.prog phi) := fun a0 a1 a2 r h => tied_sound tied (xf := c214) rfl (F214 k216 k264 k265 a0 a1 a2 r h)
theorem k83 : K83 (CallsV Try.prog phi) := fun a0 r h => tied_sound tied (xf := c83) rfl (F83  a0 r h)
theorem k139 : K139 (CallsV Try.prog phi) := fun a0 r h => tied_sound tied (xf := c139) rfl (F139  a0 r h)
theorem k117 : K117 (CallsV Try.prog phi) := fun a0 a1 r h => tied_sound tied (xf := c117) rfl (F117 k139 a0 a1 r h)
theorem k118 : K118 (CallsV Try.prog phi) := fun a0 a1 r h => tied_sound tied (xf := c118) rfl (F118  a0 a1 r h)
theorem k272 : K272 (CallsV Try.prog phi) := fun a0 a1 r h => tied_sound tied (xf := c272) rfl (F272 k117 a0 a1 r h)
theorem k217 : K217 (CallsV Try.prog phi) := fun a0 r h => tied_sound tied (xf := c217) rfl (F217 k83 k117 k118 k272 a0 r h)
theorem k331 : K331 (CallsV Try.prog phi) := fun a0 a1 r h => tied_sound tied (xf := c331) rfl (F331  a0 a1 r h)
theorem k332 : K332 (CallsV Try.prog phi) := fun a0 r h => tied_sound tied (xf := c332) rfl (F332  a0 r h)
theorem k274 : K274 (CallsV Try.prog phi) := fun a0 r h => tied_sound tied (xf := c274) rfl (F274 k331 k332 a0 r h)
theorem k219 : K219 (CallsV Try.prog phi) := fun a0 r h => tied_sound tied (xf := c219) rfl (F219 k264 k274 a0 r h)
theorem k333 : K333 (CallsV Try.prog phi) := fun a0 r h => tied_sound tied (xf := c333) rfl (F333  a0 r h)
theorem k275 : K275 (CallsV Try.prog phi) := fun a0 r h => tied_sound tied (xf := c275) rfl (F275 k63 k325 k332 k333 a0 r h)
theorem k220 : K220 (CallsV Try.prog phi) := fun a0 r h => tied_sound tied (xf := c220) rfl (F220 k216 k263 k275 a0 r h)
theorem k222 : K222 (CallsV Try.prog phi) := fun a0 a1 r h => tied_sound tied (xf := c222) rfl (F222  a0 a1 r h)
theorem k56 : K56 (CallsV Try.prog phi) := fun a0 a1 a2 r h => tied_sound tied (xf := c56) rfl (F56  a0 a1 a2 r h)
theorem k290 : K290 (CallsV Try.prog phi) := fun a0 r h => tied_sound tied (xf := c290) rfl (F290 k56 a0 r h)
theorem k291 : K291 (CallsV Try.prog phi) := fun a0 a1 r h => tied_sound tied (xf := c291) rfl (F291  a0 a1 r h)
theorem k352 : K352 (CallsV Try.prog phi) := fun a0 a1 r h => tied_sound tied (xf := c352) rfl (F352  a0 a1 r h)
theorem k303 : K303 (CallsV Try.prog phi) := fun a0 r h => tied_sound tied (xf := c303) rfl (F303 k352 a0 r h)
theorem k292 : K292 (CallsV Try.prog phi) := fun a0 a1 a2 r h => tied_sound tied (xf := c292) rfl (F292 k303 a0 a1 a2 r h)
theorem k353 : K353 (CallsV Try.prog phi) := fun a0 r h => tied_sound tied (xf := c353) rfl (F353  a0 r h)
theorem k304 : K304 (CallsV Try.prog phi) := fun a0 r h => tied_sound tied (xf := c304) rfl (F304 k353 a0 r h)
theorem k351 : K351 (CallsV Try.prog phi) := fun a0 a1 r h => tied_sound tied (xf := c351) rfl (F351 k304 a0 a1 r h)
theorem k302 : K302 (CallsV Try.prog phi) := fun a0 r h => tied_sound tied (xf := c302) rfl (F302 k351 a0 r h)
theorem k240 : K240 (CallsV Try.prog phi) := fun a0 a1 r h => tied_sound tied (xf := c240) rfl (F240 k290 k291 k292 k302 k303 k304 a0 a1 r h)
theorem k241 : K241 (CallsV Try.prog phi) := fun a0 r h => tied_sound tied (xf := c241) rfl (F241 k304 a0 r h)
theorem k268 : K268 (CallsV Try.prog phi) := fun a0 a1 r h => tied_sound tied (xf := c268) rfl (F268 k325 k326 a0 a1 r h)
theorem k305 : K305 (CallsV Try.prog phi) := fun a0 r h => tied_sound tied (xf := c305) rfl (F305  a0 r h)
theorem k242 : K242 (CallsV Try.prog phi) := fun a0 a1 r h => tied_sound tied (xf := c242) rfl (F242 k216 k268 k305 a0 a1 r h)
theorem k119 : K119 (CallsV Try.prog phi) := fun a0 a1 r h => tied_sound tied (xf := c119) rfl (F119 k117 a0 a1 r h)
theorem k306 : K306 (CallsV Try.prog phi) := fun a0 a1 r h => tied_sound tied (xf := c306) rfl (F306 k117 k119 a0 a1 r h)
theorem k243 : K243 (CallsV Try.prog phi) := fun a0 r h => tied_sound tied (xf := c243) rfl (F243 k83 k306 a0 r h)
theorem k206 : K206 (CallsV Try.prog phi) := fun a0 a1 r h => tied_sound tied (xf := c206) rfl (F206 k214 k217 k219 k220 k222 k240 k241 k242 k243 a0 a1 r h)

theorem own : ownKnob Try.prog.godebug = none := by kernel_rfl
theorem laid : laidOutB Try.prog = true := by kernel_rfl
theorem lifted (os : Os) (started : os.Started) (H : Type) (enc : TypeId × Value → H) :
    ReturnsInHanded {} Try.checked os 8 .any (Rows.fnTornSpec.pre6 enc Try.prog Try.f8 Rows.fnTornRow.domain false) (Rows.fnTornSpec.post enc Try.prog Try.f8 false true false false) := by
  refine returnsInHanded_of_change_sized (C := Try.checked) own started (by kernel_rfl) Try.func8
    (ChangeSpec.witness6 (enc := enc) (C := Try.checked) false ⟨#[], #[.slice none 0 0, .slice none 0 0], []⟩ 8 (by kernel_rfl) (by kernel_rfl) (by kernel_rfl) (by kernel_rfl)) ?_
  intro W base args ds gs before hval0 hW hcnd hsz0 _
  have hval : ∀ (j : Nat) t v, Try.f8.params[j]? = some t → args[j]? = some v → Value.okWide Try.prog W .any base t v := hval0
  have hW' := hW
  obtain ⟨p, q, hA0, hV, rfl, hfz, hnd⟩ := hW
  have hA : DataW.TrodAll enc Try.prog W 0 (fun _ => true) true Try.f8.params.toList args.toList ds p := hA0
  rw [Try.params8] at hA hval
  obtain ⟨v0, vs0, d0, ds0, p0, q0, hargs, rfl, rfl, h0, r0⟩ := trodAll_cons hA
  obtain ⟨v1, vs1, d1, ds1, p1, q1, rfl, rfl, rfl, h1, r1⟩ := trodAll_cons r0
  obtain ⟨rfl, rfl, rfl⟩ := trodAll_nil r1
  obtain rfl : args = #[v0, v1] := by cases args; simp_all
  obtain ⟨rfl, rfl⟩ := trodVars_none hV
  obtain ⟨u0, t0, rt0⟩ := arg_V (φ := phi) (n := 12) (T := .slice 1 (.int .u8)) (by kernel_rfl) (hval 0 22 v0 rfl rfl) h0
  obtain ⟨a0, rfl, o0⟩ := Ok.arg1 (e := (eL 1 eU8)) (fun x => .lst 1 (x.map eU8)) (fun _ => rfl) (Ok.slice Ok.u8) t0
  have hlt0 : ∀ x ∈ p0, x.block < W.heap.size := fun x hx => hW'.lt x (by simp [hx])
  obtain ⟨u1, t1, rt1⟩ := arg_V (φ := phi) (n := 12) (T := .slice 1 (.int .u8)) (by kernel_rfl) (hval 1 22 v1 rfl rfl) h1
  obtain ⟨a1, rfl, o1⟩ := Ok.arg1 (e := (eL 1 eU8)) (fun x => .lst 1 (x.map eU8)) (fun _ => rfl) (Ok.slice Ok.u8) t1
  have hlt1 : ∀ x ∈ p1, x.block < W.heap.size := fun x hx => hW'.lt x (by simp [hx])
  have hc := law_calls (P := Try.prog) (φ := phi) (f := 206) (fid := 8) (vals := [v0, v1]) (vs := [.lst 1 (a0.map eU8), .lst 1 (a1.map eU8)]) (w := W) rfl rfl (rts rt0 (rts rt1 rtz)) (k206 a0 a1 true (g206_law a0 a1 o0 o1))
  refine hc.mono fun e W' ⟨he, bel⟩ => ?_
  subst he
  exact ⟨_, rfl, _, _, _, [], _, [], hW', trodAll_mk1 (shut_bool Try.underlying4 _), (trodAll_cons_mk (Below.trod laid (by kernel_rfl) (of_decide_eq_true (by kernel_rfl)) h0 bel hlt0) (trodAll_cons_mk (Below.trod laid (by kernel_rfl) (of_decide_eq_true (by kernel_rfl)) h1 bel hlt1) trodAll_mk0)), rfl, bel.frame _, fun h => by cases h⟩
theorem over : Rows.fnTornRow.holds Try.pinned (OpenSpec.ofChange Rows.fnTornSpec) :=
  OpenClaim.holds_of_wide 8 Try.f8 rfl rfl rfl rfl rfl rfl rfl ⟨rfl, rfl, rfl, rfl, rfl⟩ rfl rfl rfl rfl rfl (by kernel_rfl) Try.func8 (by kernel_rfl)
    (of_decide_eq_true (by kernel_rfl)) (by unfold Func.isWrapper; first | (rw [if_pos (by decide +kernel)]; kernel_rfl) | (rw [if_neg (by decide +kernel)]; exact ⟨rfl, rfl⟩))
    (fun os started H enc _ => lifted os started H enc)
end Go.Proofs.Ytdmclbbhhcpjfaa.fnTorn
namespace Go.Proofs.Ytdmclbbhhcpjfaa
/-- FnTorn. -/
theorem fnTorn_holds : Rows.FnTornSaid := fnTorn.over
end Go.Proofs.Ytdmclbbhhcpjfaa
