/- FnExactRevokedOf: whatever the input, the law returns true, and its arguments read behind the call as they read before. No condition: every input. -/
import Derived.Test.YtdmclbbhhcpjfaaRows
import Derived.Test.YtdmclbbhhcpjfaaQvT
import Derived.Test.YtdmclbbhhcpjfaaQgW1
import Derived.Test.YtdmclbbhhcpjfaaQwQ
import Derived.WalkKit
import Derived.ProofKit
import Derived.OpenShut
import Derived.ShutString
import Derived.ChangeOld
import Derived.Below
import Derived.SizedLaws
import Derived.Carry
set_option linter.all false
set_option maxRecDepth 100000
namespace Go.Proofs.Ytdmclbbhhcpjfaa.fnExactRevokedOf
open Go.ChangeShapes Go.WideShapes Go.ChangeAt Go.RowKit Go.Ev
def phi : FMap := [(42, 36), (44, 37), (45, 38), (92, 276), (173, 334), (93, 277), (26, 223), (34, 231), (175, 336), (97, 280), (28, 225), (36, 233), (183, 344), (107, 288), (30, 227), (95, 56), (174, 335), (96, 279), (94, 278), (27, 224), (118, 299), (40, 237), (85, 63), (100, 58), (102, 59), (259, 373), (233, 368), (234, 369), (176, 337), (178, 339), (179, 340), (235, 370), (180, 341), (177, 338), (101, 283), (98, 281), (99, 282), (103, 284), (236, 371), (181, 342), (182, 343), (104, 285), (106, 287), (105, 286), (29, 226), (187, 348), (188, 349), (189, 350), (119, 300), (41, 238), (38, 235), (145, 316), (120, 301), (43, 239), (7, 205)]
def tbl : List (Nat × XFn) := [(36, c36), (37, c37), (38, c38), (276, c276), (334, c334), (277, c277), (223, c223), (231, c231), (336, c336), (280, c280), (225, c225), (233, c233), (344, c344), (288, c288), (227, c227), (56, c56), (335, c335), (279, c279), (278, c278), (224, c224), (299, c299), (237, c237), (63, c63), (58, c58), (59, c59), (373, c373), (368, c368), (369, c369), (337, c337), (339, c339), (340, c340), (370, c370), (341, c341), (338, c338), (283, c283), (281, c281), (282, c282), (284, c284), (371, c371), (342, c342), (343, c343), (285, c285), (287, c287), (286, c286), (226, c226), (348, c348), (349, c349), (350, c350), (300, c300), (238, c238), (235, c235), (316, c316), (301, c301), (239, c239), (205, c205)]
theorem tied : Tied Try.prog phi (Go.Ev.look tbl) := tied_all ⟨tone (xf := c36) rfl Try.f42 (by kernel_rfl) (by kernel_rfl),
  tone (xf := c37) rfl Try.f44 (by kernel_rfl) (by kernel_rfl),
  tone (xf := c38) rfl Try.f45 (by kernel_rfl) (by kernel_rfl),
  tone (xf := c276) rfl Try.f92 (by kernel_rfl) (by kernel_rfl),
  tone (xf := c334) rfl Try.f173 (by kernel_rfl) (by kernel_rfl),
  tone (xf := c277) rfl Try.f93 (by kernel_rfl) (by kernel_rfl),
  tone (xf := c223) rfl Try.f26 (by kernel_rfl) (by kernel_rfl),
  tone (xf := c231) rfl Try.f34 (by kernel_rfl) (by kernel_rfl),
  tone (xf := c336) rfl Try.f175 (by kernel_rfl) (by kernel_rfl),
  tone (xf := c280) rfl Try.f97 (by kernel_rfl) (by kernel_rfl),
  tone (xf := c225) rfl Try.f28 (by kernel_rfl) (by kernel_rfl),
  tone (xf := c233) rfl Try.f36 (by kernel_rfl) (by kernel_rfl),
  tone (xf := c344) rfl Try.f183 (by kernel_rfl) (by kernel_rfl),
  tone (xf := c288) rfl Try.f107 (by kernel_rfl) (by kernel_rfl),
  tone (xf := c227) rfl Try.f30 (by kernel_rfl) (by kernel_rfl),
  tone (xf := c56) rfl Try.f95 (by kernel_rfl) (by kernel_rfl),
  tone (xf := c335) rfl Try.f174 (by kernel_rfl) (by kernel_rfl),
  tone (xf := c279) rfl Try.f96 (by kernel_rfl) (by kernel_rfl),
  tone (xf := c278) rfl Try.f94 (by kernel_rfl) (by kernel_rfl),
  tone (xf := c224) rfl Try.f27 (by kernel_rfl) (by kernel_rfl),
  tone (xf := c299) rfl Try.f118 (by kernel_rfl) (by kernel_rfl),
  tone (xf := c237) rfl Try.f40 (by kernel_rfl) (by kernel_rfl),
  tone (xf := c63) rfl Try.f85 (by kernel_rfl) (by kernel_rfl),
  tone (xf := c58) rfl Try.f100 (by kernel_rfl) (by kernel_rfl),
  tone (xf := c59) rfl Try.f102 (by kernel_rfl) (by kernel_rfl),
  tone (xf := c373) rfl Try.f259 (by kernel_rfl) (by kernel_rfl),
  tone (xf := c368) rfl Try.f233 (by kernel_rfl) (by kernel_rfl),
  tone (xf := c369) rfl Try.f234 (by kernel_rfl) (by kernel_rfl),
  tone (xf := c337) rfl Try.f176 (by kernel_rfl) (by kernel_rfl),
  tone (xf := c339) rfl Try.f178 (by kernel_rfl) (by kernel_rfl),
  tone (xf := c340) rfl Try.f179 (by kernel_rfl) (by kernel_rfl),
  tone (xf := c370) rfl Try.f235 (by kernel_rfl) (by kernel_rfl),
  tone (xf := c341) rfl Try.f180 (by kernel_rfl) (by kernel_rfl),
  tone (xf := c338) rfl Try.f177 (by kernel_rfl) (by kernel_rfl),
  tone (xf := c283) rfl Try.f101 (by kernel_rfl) (by kernel_rfl),
  tone (xf := c281) rfl Try.f98 (by kernel_rfl) (by kernel_rfl),
  tone (xf := c282) rfl Try.f99 (by kernel_rfl) (by kernel_rfl),
  tone (xf := c284) rfl Try.f103 (by kernel_rfl) (by kernel_rfl),
  tone (xf := c371) rfl Try.f236 (by kernel_rfl) (by kernel_rfl),
  tone (xf := c342) rfl Try.f181 (by kernel_rfl) (by kernel_rfl),
  tone (xf := c343) rfl Try.f182 (by kernel_rfl) (by kernel_rfl),
  tone (xf := c285) rfl Try.f104 (by kernel_rfl) (by kernel_rfl),
  tone (xf := c287) rfl Try.f106 (by kernel_rfl) (by kernel_rfl),
  tone (xf := c286) rfl Try.f105 (by kernel_rfl) (by kernel_rfl),
  tone (xf := c226) rfl Try.f29 (by kernel_rfl) (by kernel_rfl),
  tone (xf := c348) rfl Try.f187 (by kernel_rfl) (by kernel_rfl),
  tone (xf := c349) rfl Try.f188 (by kernel_rfl) (by kernel_rfl),
  tone (xf := c350) rfl Try.f189 (by kernel_rfl) (by kernel_rfl),
  tone (xf := c300) rfl Try.f119 (by kernel_rfl) (by kernel_rfl),
  tone (xf := c238) rfl Try.f41 (by kernel_rfl) (by kernel_rfl),
  tone (xf := c235) rfl Try.f38 (by kernel_rfl) (by kernel_rfl),
  tone (xf := c316) rfl Try.f145 (by kernel_rfl) (by kernel_rfl),
  tone (xf := c301) rfl Try.f120 (by kernel_rfl) (by kernel_rfl),
  tone (xf := c239) rfl Try.f43 (by kernel_rfl) (by kernel_rfl),
  tone (xf := c205) rfl Try.f7 (by kernel_rfl) (by kernel_rfl), trivial⟩
theorem k36 : K36 (CallsV Try.prog phi) := fun a0 a1 r h => tied_sound tied (xf := c36) rfl (F36  a0 a1 r h)
theorem k37 : K37 (CallsV Try.prog phi) := fun a0 a1 r h => tied_sound tied (xf := c37) rfl (F37  a0 a1 r h)
theorem k38 : K38 (CallsV Try.prog phi) := fun a0 a1 r h => tied_sound tied (xf := c38) rfl (F38  a0 a1 r h)
theorem k276 : K276 (CallsV Try.prog phi) := fun a0 a1 r h => tied_sound tied (xf := c276) rfl (F276  a0 a1 r h)
theorem k334 : K334 (CallsV Try.prog phi) := fun a0 a1 r h => tied_sound tied (xf := c334) rfl (F334  a0 a1 r h)
theorem k277 : K277 (CallsV Try.prog phi) := fun a0 a1 r h => tied_sound tied (xf := c277) rfl (F277 k334 a0 a1 r h)
theorem k223 : K223 (CallsV Try.prog phi) := fun a0 a1 r h => tied_sound tied (xf := c223) rfl (F223 k276 k277 a0 a1 r h)
theorem k231 : K231 (CallsV Try.prog phi) := fun a0 r h => tied_sound tied (xf := c231) rfl (F231  a0 r h)
theorem k336 : K336 (CallsV Try.prog phi) := fun a0 r h => tied_sound tied (xf := c336) rfl (F336  a0 r h)
theorem k280 : K280 (CallsV Try.prog phi) := fun a0 r h => tied_sound tied (xf := c280) rfl (F280 k336 a0 r h)
theorem k225 : K225 (CallsV Try.prog phi) := fun a0 r h => tied_sound tied (xf := c225) rfl (F225 k231 k280 a0 r h)
theorem k233 : K233 (CallsV Try.prog phi) := fun a0 a1 r h => tied_sound tied (xf := c233) rfl (F233  a0 a1 r h)
theorem k344 : K344 (CallsV Try.prog phi) := fun a0 a1 r h => tied_sound tied (xf := c344) rfl (F344  a0 a1 r h)
theorem k288 : K288 (CallsV Try.prog phi) := fun a0 a1 r h => tied_sound tied (xf := c288) rfl (F288 k344 a0 a1 r h)
theorem k227 : K227 (CallsV Try.prog phi) := fun a0 a1 r h => tied_sound tied (xf := c227) rfl (F227 k233 k288 a0 a1 r h)
theorem k56 : K56 (CallsV Try.prog phi) := fun a0 a1 a2 r h => tied_sound tied (xf := c56) rfl (F56  a0 a1 a2 r h)
theorem k335 : K335 (CallsV Try.prog phi) := fun a0 r h => tied_sound tied (xf := c335) rfl (F335  a0 r h)
theorem k279 : K279 (CallsV Try.prog phi) := fun a0 r h => tied_sound tied (xf := c279) rfl (F279 k335 a0 r h)
theorem k278 : K278 (CallsV Try.prog phi) := fun a0 r h => tied_sound tied (xf := c278) rfl (F278 k279 a0 r h)
theorem k224 : K224 (CallsV Try.prog phi) := fun a0 r h => tied_sound tied (xf := c224) rfl (F224 k56 k278 k279 a0 r h)
theorem k299 : K299 (CallsV Try.prog phi) := fun a0 a1 r h => tied_sound tied (xf := c299) rfl (F299  a0 a1 r h)
theorem k237 : K237 (CallsV Try.prog phi) := fun a0 a1 r h => tied_sound tied (xf := c237) rfl (F237 k224 k299 a0 a1 r h)
theorem k63 : K63 (CallsV Try.prog phi) := fun a0 a1 a2 r h => tied_sound tied (xf := c63) rfl (F63  a0 a1 a2 r h)
theorem k58 : K58 (CallsV Try.prog phi) := fun a0 r h => tied_sound tied (xf := c58) rfl (F58 k63 a0 r h)
theorem k59 : K59 (CallsV Try.prog phi) := fun a0 a1 a2 r h => tied_sound tied (xf := c59) rfl (F59 k63 a0 a1 a2 r h)
theorem k373 : K373 (CallsV Try.prog phi) := fun a0 f1 k1 is1 hs1 hf1 r h => tied_sound tied (xf := c373) rfl (F373  a0 f1 k1 is1 hs1 hf1 r h)
theorem k368 : K368 (CallsV Try.prog phi) := fun a0 f1 k1 is1 hs1 hf1 r h => tied_sound tied (xf := c368) rfl (F368 k373 a0 f1 k1 is1 hs1 hf1 r h)
theorem k369 : K369 (CallsV Try.prog phi) := fun a0 f1 k1 is1 hs1 hf1 r h => tied_sound tied (xf := c369) rfl (F369  a0 f1 k1 is1 hs1 hf1 r h)
theorem k337 : K337 (CallsV Try.prog phi) := fun a0 f1 k1 is1 hs1 hf1 r h => tied_sound tied (xf := c337) rfl (F337 k368 k369 a0 f1 k1 is1 hs1 hf1 r h)
theorem k339 : K339 (CallsV Try.prog phi) := fun a0 r h => tied_sound tied (xf := c339) rfl (F339  a0 r h)
theorem k340 : K340 (CallsV Try.prog phi) := fun a0 r h => tied_sound tied (xf := c340) rfl (F340  a0 r h)
theorem k370 : K370 (CallsV Try.prog phi) := fun a0 a1 r h => tied_sound tied (xf := c370) rfl (F370  a0 a1 r h)
theorem k341 : K341 (CallsV Try.prog phi) := fun a0 a1 r h => tied_sound tied (xf := c341) rfl (F341 k370 a0 a1 r h)
theorem k338 : K338 (CallsV Try.prog phi) := fun a0 r h => tied_sound tied (xf := c338) rfl (F338 k339 k340 k341 a0 r h)
theorem k283 : K283 (CallsV Try.prog phi) := fun a0 r h => tied_sound tied (xf := c283) rfl (F283 k337 k338 a0 r h)
theorem k281 : K281 (CallsV Try.prog phi) := fun a0 r h => tied_sound tied (xf := c281) rfl (F281 k63 k283 a0 r h)
theorem k282 : K282 (CallsV Try.prog phi) := fun a0 r h => tied_sound tied (xf := c282) rfl (F282  a0 r h)
theorem k284 : K284 (CallsV Try.prog phi) := fun a0 r h => tied_sound tied (xf := c284) rfl (F284  a0 r h)
theorem k371 : K371 (CallsV Try.prog phi) := fun a0 f1 k1 is1 hs1 hf1 r h => tied_sound tied (xf := c371) rfl (F371  a0 f1 k1 is1 hs1 hf1 r h)
theorem k342 : K342 (CallsV Try.prog phi) := fun a0 f1 k1 is1 hs1 hf1 r h => tied_sound tied (xf := c342) rfl (F342 k371 a0 f1 k1 is1 hs1 hf1 r h)
theorem k343 : K343 (CallsV Try.prog phi) := fun a0 f1 k1 is1 hs1 hf1 r h => tied_sound tied (xf := c343) rfl (F343  a0 f1 k1 is1 hs1 hf1 r h)
theorem k285 : K285 (CallsV Try.prog phi) := fun a0 f1 k1 is1 hs1 hf1 r h => tied_sound tied (xf := c285) rfl (F285 k342 k343 a0 f1 k1 is1 hs1 hf1 r h)
theorem k287 : K287 (CallsV Try.prog phi) := fun a0 r h => tied_sound tied (xf := c287) rfl (F287 k63 a0 r h)
theorem k286 : K286 (CallsV Try.prog phi) := fun a0 r h => tied_sound tied (xf := c286) rfl (F286 k281 k287 a0 r h)
theorem k226 : K226 (CallsV Try.prog phi) := fun a0 r h => tied_sound tied (xf := c226) rfl (F226 k58 k59 k63 k281 k282 k283 k284 k285 k286 a0 r h)
theorem k348 : K348 (CallsV Try.prog phi) := fun a0 f1 k1 is1 hs1 hf1 r h => tied_sound tied (xf := c348) rfl (F348 k371 a0 f1 k1 is1 hs1 hf1 r h)
theorem k349 : K349 (CallsV Try.prog phi) := fun a0 r h => tied_sound tied (xf := c349) rfl (F349  a0 r h)
theorem k350 : K350 (CallsV Try.prog phi) := fun a0 a1 r h => tied_sound tied (xf := c350) rfl (F350  a0 a1 r h)
theorem k300 : K300 (CallsV Try.prog phi) := fun a0 a1 r h => tied_sound tied (xf := c300) rfl (F300 k284 k348 k349 k350 a0 a1 r h)
theorem k238 : K238 (CallsV Try.prog phi) := fun a0 a1 r h => tied_sound tied (xf := c238) rfl (F238 k226 k300 a0 a1 r h)
theorem k235 : K235 (CallsV Try.prog phi) := fun a0 a1 r h => tied_sound tied (xf := c235) rfl (F235  a0 a1 r h)
theorem k316 : K316 (CallsV Try.prog phi) := fun a0 r h => tied_sound tied (xf := c316) rfl (F316  a0 r h)
theorem k301 : K301 (CallsV Try.prog phi) := fun a0 a1 r h => tied_sound tied (xf := c301) rfl (F301 k316 a0 a1 r h)
theorem k239 : K239 (CallsV Try.prog phi) := fun a0 a1 r h => tied_sound tied (xf := c239) rfl (F239 k235 k301 a0 a1 r h)
theorem k205 : K205 (CallsV Try.prog phi) := fun a0 a1 r h => tied_sound tied (xf := c205) rfl (F205 k36 k37 k38 k223 k225 k227 k237 k238 k239 a0 a1 r h)
theorem oktDIssued : Ok (.struct [.int .i64, .int .i64, .str, .bool]) eDIssued okDIssued := fun vs h => by
  have h : HasTys [.int .i64, .int .i64, .str, .bool] vs := by simpa only [HasTy] using h
  obtain ⟨a0, r0, rfl, h0, h⟩ := h
  obtain ⟨a1, r1, rfl, h1, h⟩ := h
  obtain ⟨a2, r2, rfl, h2, h⟩ := h
  obtain ⟨a3, r3, rfl, h3, h⟩ := h
  obtain rfl : r3 = [] := by simpa only [HasTys] using h
  obtain ⟨x0, rfl, p0⟩ := Ok.int64 a0 h0
  obtain ⟨x1, rfl, p1⟩ := Ok.int64 a1 h1
  obtain ⟨x2, rfl, p2⟩ := Ok.str a2 h2
  obtain ⟨x3, rfl, p3⟩ := Ok.bool a3 h3
  exact ⟨⟨x0, x1, x2, x3⟩, rfl, ⟨p0, p1, p2, p3⟩⟩
theorem oktDAuthority : Ok (.struct [.str, .slice 1 (.int .u8), .int .i64, .int .i64, .str, .int .i64, .slice 4 (.struct [.int .i64, .int .i64, .str, .bool])]) eDAuthority okDAuthority := fun vs h => by
  have h : HasTys [.str, .slice 1 (.int .u8), .int .i64, .int .i64, .str, .int .i64, .slice 4 (.struct [.int .i64, .int .i64, .str, .bool])] vs := by simpa only [HasTy] using h
  obtain ⟨a0, r0, rfl, h0, h⟩ := h
  obtain ⟨a1, r1, rfl, h1, h⟩ := h
  obtain ⟨a2, r2, rfl, h2, h⟩ := h
  obtain ⟨a3, r3, rfl, h3, h⟩ := h
  obtain ⟨a4, r4, rfl, h4, h⟩ := h
  obtain ⟨a5, r5, rfl, h5, h⟩ := h
  obtain ⟨a6, r6, rfl, h6, h⟩ := h
  obtain rfl : r6 = [] := by simpa only [HasTys] using h
  obtain ⟨x0, rfl, p0⟩ := Ok.str a0 h0
  obtain ⟨x1, rfl, p1⟩ := (Ok.slice Ok.u8) a1 h1
  obtain ⟨x2, rfl, p2⟩ := Ok.int64 a2 h2
  obtain ⟨x3, rfl, p3⟩ := Ok.int64 a3 h3
  obtain ⟨x4, rfl, p4⟩ := Ok.str a4 h4
  obtain ⟨x5, rfl, p5⟩ := Ok.int64 a5 h5
  obtain ⟨x6, rfl, p6⟩ := (Ok.slice oktDIssued) a6 h6
  exact ⟨⟨x0, x1, x2, x3, x4, x5, x6⟩, rfl, ⟨p0, p1, p2, p3, p4, p5, p6⟩⟩
theorem own : ownKnob Try.prog.godebug = none := by kernel_rfl
theorem laid : laidOutB Try.prog = true := by kernel_rfl
theorem lifted (os : Os) (started : os.Started) (H : Type) (enc : TypeId × Value → H) :
    ReturnsInHanded {} Try.checked os 7 .any (Rows.fnExactRevokedOfSpec.pre6 enc Try.prog Try.f7 Rows.fnExactRevokedOfRow.domain false) (Rows.fnExactRevokedOfSpec.post enc Try.prog Try.f7 false true false false) := by
  refine returnsInHanded_of_change_sized (C := Try.checked) own started (by kernel_rfl) Try.func7
    (ChangeSpec.witness6 (enc := enc) (C := Try.checked) false ⟨#[], #[.agg #[.string ⟨#[]⟩, .slice none 0 0, .int .i64 0, .int .i64 0, .string ⟨#[]⟩, .int .i64 0, .slice none 0 0], .int .i64 0], []⟩ 8 (by kernel_rfl) (by kernel_rfl) (by kernel_rfl) (by kernel_rfl)) ?_
  intro W base args ds gs before hval0 hW hcnd hsz0 _
  have hval : ∀ (j : Nat) t v, Try.f7.params[j]? = some t → args[j]? = some v → Value.okWide Try.prog W .any base t v := hval0
  have hW' := hW
  obtain ⟨p, q, hA0, hV, rfl, hfz, hnd⟩ := hW
  have hA : DataW.TrodAll enc Try.prog W 0 (fun _ => true) true Try.f7.params.toList args.toList ds p := hA0
  rw [Try.params7] at hA hval
  obtain ⟨v0, vs0, d0, ds0, p0, q0, hargs, rfl, rfl, h0, r0⟩ := trodAll_cons hA
  obtain ⟨v1, vs1, d1, ds1, p1, q1, rfl, rfl, rfl, h1, r1⟩ := trodAll_cons r0
  obtain ⟨rfl, rfl, rfl⟩ := trodAll_nil r1
  obtain rfl : args = #[v0, v1] := by cases args; simp_all
  obtain ⟨rfl, rfl⟩ := trodVars_none hV
  obtain ⟨u0, t0, rt0⟩ := arg_V (φ := phi) (n := 12) (T := .struct [.str, .slice 1 (.int .u8), .int .i64, .int .i64, .str, .int .i64, .slice 4 (.struct [.int .i64, .int .i64, .str, .bool])]) (by kernel_rfl) (hval 0 53 v0 rfl rfl) h0
  obtain ⟨a0, rfl, o0⟩ := oktDAuthority.argS t0
  have hlt0 : ∀ x ∈ p0, x.block < W.heap.size := fun x hx => hW'.lt x (by simp [hx])
  obtain ⟨u1, t1, rt1⟩ := arg_V (φ := phi) (n := 12) (T := .int .i64) (by kernel_rfl) (hval 1 3 v1 rfl rfl) h1
  obtain ⟨a1, rfl, o1⟩ := Ok.arg1 (e := eI) (fun x => .int .i64 x) (fun _ => rfl) Ok.int64 t1
  have hlt1 : ∀ x ∈ p1, x.block < W.heap.size := fun x hx => hW'.lt x (by simp [hx])
  have hc := law_calls (P := Try.prog) (φ := phi) (f := 205) (fid := 7) (vals := [v0, v1]) (vs := [.agg [.str a0.name_, .lst 1 (a0.seed.map eU8), .int .i64 a0.serial, .int .i64 a0.number, .str a0.suffix, .int .i64 a0.most, .lst 4 (a0.list_.map eDIssued)], .int .i64 a1]) (w := W) rfl rfl (rts rt0 (rts rt1 rtz)) (k205 a0 a1 true (g205_law a0 a1 o0 o1))
  refine hc.mono fun e W' ⟨he, bel⟩ => ?_
  subst he
  exact ⟨_, rfl, _, _, _, [], _, [], hW', trodAll_mk1 (shut_bool Try.underlying4 _), (trodAll_cons_mk (Below.trod laid (by kernel_rfl) (of_decide_eq_true (by kernel_rfl)) h0 bel hlt0) (trodAll_cons_mk (Below.trod laid (by kernel_rfl) (of_decide_eq_true (by kernel_rfl)) h1 bel hlt1) trodAll_mk0)), rfl, bel.frame _, fun h => by cases h⟩
theorem over : Rows.fnExactRevokedOfRow.holds Try.pinned (OpenSpec.ofChange Rows.fnExactRevokedOfSpec) :=
  OpenClaim.holds_of_wide 7 Try.f7 rfl rfl rfl rfl rfl rfl rfl ⟨rfl, rfl, rfl, rfl, rfl⟩ rfl rfl rfl rfl rfl (by kernel_rfl) Try.func7 (by kernel_rfl)
    (of_decide_eq_true (by kernel_rfl)) (by unfold Func.isWrapper; first | (rw [if_pos (by decide +kernel)]; kernel_rfl) | (rw [if_neg (by decide +kernel)]; exact ⟨rfl, rfl⟩))
    (fun os started H enc _ => lifted os started H enc)
end Go.Proofs.Ytdmclbbhhcpjfaa.fnExactRevokedOf
namespace Go.Proofs.Ytdmclbbhhcpjfaa
/-- FnExactRevokedOf. -/
theorem fnExactRevokedOf_holds : Rows.FnExactRevokedOfSaid := fnExactRevokedOf.over
end Go.Proofs.Ytdmclbbhhcpjfaa
