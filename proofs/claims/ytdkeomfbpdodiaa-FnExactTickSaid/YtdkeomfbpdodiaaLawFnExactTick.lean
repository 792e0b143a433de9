/- FnExactTick: whatever the input, the law returns true, and its arguments read behind the call as they read before. No condition: every input. -/
import Derived.Test.YtdkeomfbpdodiaaRows
import Derived.Test.YtdkeomfbpdodiaaQvT
import Derived.Test.YtdkeomfbpdodiaaQgW3
import Derived.Test.YtdkeomfbpdodiaaQwZ
import Derived.WalkKit
import Derived.ProofKit
import Derived.OpenShut
import Derived.ShutString
import Derived.ChangeOld
import Derived.Below
import Derived.SizedLaws
import Derived.Carry
set_option linter.all false
set_option maxRecDepth 100000
namespace Go.Proofs.Ytdkeomfbpdodiaa.fnExactTick
open Go.ChangeShapes Go.WideShapes Go.ChangeAt Go.RowKit Go.Ev
def phi : FMap := [(55, 55), (17, 17), (104, 104), (57, 57), (19, 19), (107, 107), (64, 64), (21, 21), (72, 72), (26, 26), (73, 73), (27, 27), (56, 56), (18, 18), (111, 111), (81, 81), (34, 34), (63, 63), (58, 58), (59, 59), (60, 60), (108, 108), (105, 105), (106, 106), (61, 61), (62, 62), (20, 20), (109, 109), (136, 136), (110, 110), (69, 69), (66, 66), (112, 112), (148, 148), (159, 159), (149, 149), (156, 156), (157, 157), (138, 138), (160, 160), (161, 161), (150, 150), (165, 165), (163, 163), (162, 162), (151, 151), (152, 152), (153, 153), (154, 154), (155, 155), (137, 137), (116, 116), (82, 82), (35, 35), (36, 36), (37, 37), (38, 38), (10, 10)]
def tbl : List (Nat × XFn) := [(55, c55), (17, c17), (104, c104), (57, c57), (19, c19), (107, c107), (64, c64), (21, c21), (72, c72), (26, c26), (73, c73), (27, c27), (56, c56), (18, c18), (111, c111), (81, c81), (34, c34), (63, c63), (58, c58), (59, c59), (60, c60), (108, c108), (105, c105), (106, c106), (61, c61), (62, c62), (20, c20), (109, c109), (136, c136), (110, c110), (69, c69), (66, c66), (112, c112), (148, c148), (159, c159), (149, c149), (156, c156), (157, c157), (138, c138), (160, c160), (161, c161), (150, c150), (165, c165), (163, c163), (162, c162), (151, c151), (152, c152), (153, c153), (154, c154), (155, c155), (137, c137), (116, c116), (82, c82), (35, c35), (36, c36), (37, c37), (38, c38), (10, c10)]
theorem tied : Tied Try.prog phi (Go.Ev.look tbl) := tied_all ⟨tone (xf := c55) rfl Try.f55 (by kernel_rfl) (by kernel_rfl),
  tone (xf := c17) rfl Try.f17 (by kernel_rfl) (by kernel_rfl),
  tone (xf := c104) rfl Try.f104 (by kernel_rfl) (by kernel_rfl),
  tone (xf := c57) rfl Try.f57 (by kernel_rfl) (by kernel_rfl),
  tone (xf := c19) rfl Try.f19 (by kernel_rfl) (by kernel_rfl),
  tone (xf := c107) rfl Try.f107 (by kernel_rfl) (by kernel_rfl),
  tone (xf := c64) rfl Try.f64 (by kernel_rfl) (by kernel_rfl),
  tone (xf := c21) rfl Try.f21 (by kernel_rfl) (by kernel_rfl),
  tone (xf := c72) rfl Try.f72 (by kernel_rfl) (by kernel_rfl),
  tone (xf := c26) rfl Try.f26 (by kernel_rfl) (by kernel_rfl),
  tone (xf := c73) rfl Try.f73 (by kernel_rfl) (by kernel_rfl),
  tone (xf := c27) rfl Try.f27 (by kernel_rfl) (by kernel_rfl),
  tone (xf := c56) rfl Try.f56 (by kernel_rfl) (by kernel_rfl),
  tone (xf := c18) rfl Try.f18 (by kernel_rfl) (by kernel_rfl),
  tone (xf := c111) rfl Try.f111 (by kernel_rfl) (by kernel_rfl),
  tone (xf := c81) rfl Try.f81 (by kernel_rfl) (by kernel_rfl),
  tone (xf := c34) rfl Try.f34 (by kernel_rfl) (by kernel_rfl),
  tone (xf := c63) rfl Try.f63 (by kernel_rfl) (by kernel_rfl),
  tone (xf := c58) rfl Try.f58 (by kernel_rfl) (by kernel_rfl),
  tone (xf := c59) rfl Try.f59 (by kernel_rfl) (by kernel_rfl),
  tone (xf := c60) rfl Try.f60 (by kernel_rfl) (by kernel_rfl),
  tone (xf := c108) rfl Try.f108 (by kernel_rfl) (by kernel_rfl),
  tone (xf := c105) rfl Try.f105 (by kernel_rfl) (by kernel_rfl),
  tone (xf := c106) rfl Try.f106 (by kernel_rfl) (by kernel_rfl),
  tone (xf := c61) rfl Try.f61 (by kernel_rfl) (by kernel_rfl),
  tone (xf := c62) rfl Try.f62 (by kernel_rfl) (by kernel_rfl),
  tone (xf := c20) rfl Try.f20 (by kernel_rfl) (by kernel_rfl),
  tone (xf := c109) rfl Try.f109 (by kernel_rfl) (by kernel_rfl),
  tone (xf := c136) rfl Try.f136 (by kernel_rfl) (by kernel_rfl),
  tone (xf := c110) rfl Try.f110 (by kernel_rfl) (by kernel_rfl),
  tone (xf := c69) rfl Try.f69 (by kernel_rfl) (by kernel_rfl),
  tone (xf := c66) rfl Try.f66 (by kernel_rfl) (by kernel_rfl),
  tone (xf := c112) rfl Try.f112 (by kernel_rfl) (by kernel_rfl),
  tone (xf := c148) rfl Try.f148 (by kernel_rfl) (by kernel_rfl),
  tone (xf := c159) rfl Try.f159 (by kernel_rfl) (by kernel_rfl),
  tone (xf := c149) rfl Try.f149 (by kernel_rfl) (by kernel_rfl),
  tone (xf := c156) rfl Try.f156 (by kernel_rfl) (by kernel_rfl),
  tone (xf := c157) rfl Try.f157 (by kernel_rfl) (by kernel_rfl),
  tone (xf := c138) rfl Try.f138 (by kernel_rfl) (by kernel_rfl),
  tone (xf := c160) rfl Try.f160 (by kernel_rfl) (by kernel_rfl),
  tone (xf := c161) rfl Try.f161 (by kernel_rfl) (by kernel_rfl),
  tone (xf := c150) rfl Try.f150 (by kernel_rfl) (by kernel_rfl),
  tone (xf := c165) rfl Try.f165 (by kernel_rfl) (by kernel_rfl),
  tone (xf := c163) rfl Try.f163 (by kernel_rfl) (by kernel_rfl),
  tone (xf := c162) rfl Try.f162 (by kernel_rfl) (by kernel_rfl),
  tone (xf := c151) rfl Try.f151 (by kernel_rfl) (by kernel_rfl),
  tone (xf := c152) rfl Try.f152 (by kernel_rfl) (by kernel_rfl),
  tone (xf := c153) rfl Try.f153 (by kernel_rfl) (by kernel_rfl),
  tone (xf := c154) rfl Try.f154 (by kernel_rfl) (by kernel_rfl),
  tone (xf := c155) rfl Try.f155 (by kernel_rfl) (by kernel_rfl),
  tone (xf := c137) rfl Try.f137 (by kernel_rfl) (by kernel_rfl),
  tone (xf := c116) rfl Try.f116 (by kernel_rfl) (by kernel_rfl),
  tone (xf := c82) rfl Try.f82 (by kernel_rfl) (by kernel_rfl),
  tone (xf := c35) rfl Try.f35 (by kernel_rfl) (by kernel_rfl),
  tone (xf := c36) rfl Try.f36 (by kernel_rfl) (by kernel_rfl),
  tone (xf := c37) rfl Try.f37 (by kernel_rfl) (by kernel_rfl),
  tone (xf := c38) rfl Try.f38 (by kernel_rfl) (by kernel_rfl),
  tone (xf := c10) rfl Try.f10 (by kernel_rfl) (by kernel_rfl), trivial⟩
theorem k55 : K55 (CallsV Try.prog phi) := fun a0 a1 r h => tied_sound tied (xf := c55) rfl (F55  a0 a1 r h)
theorem k17 : K17 (CallsV Try.prog phi) := fun a0 a1 r h => tied_sound tied (xf := c17) rfl (F17 k55 a0 a1 r h)
theorem k104 : K104 (CallsV Try.prog phi) := fun a0 r h => tied_sound tied (xf := c104) rfl (F104  a0 r h)
theorem k57 : K57 (CallsV Try.prog phi) := fun a0 r h => tied_sound tied (xf := c57) rfl (F57 k104 a0 r h)
theorem k19 : K19 (CallsV Try.prog phi) := fun a0 r h => tied_sound tied (xf := c19) rfl (F19 k57 a0 r h)
theorem k107 : K107 (CallsV Try.prog phi) := fun a0 a1 r h => tied_sound tied (xf := c107) rfl (F107  a0 a1 r h)
theorem k64 : K64 (CallsV Try.prog phi) := fun a0 a1 r h => tied_sound tied (xf := c64) rfl (F64 k107 a0 a1 r h)
theorem k21 : K21 (CallsV Try.prog phi) := fun a0 a1 r h => tied_sound tied (xf := c21) rfl (F21 k64 a0 a1 r h)
theorem k72 : K72 (CallsV Try.prog phi) := fun a0 a1 r h => tied_sound tied (xf := c72) rfl (F72  a0 a1 r h)
theorem k26 : K26 (CallsV Try.prog phi) := fun a0 a1 r h => tied_sound tied (xf := c26) rfl (F26 k72 a0 a1 r h)
theorem k73 : K73 (CallsV Try.prog phi) := fun a0 a1 r h => tied_sound tied (xf := c73) rfl (F73  a0 a1 r h)
theorem k27 : K27 (CallsV Try.prog phi) := fun a0 a1 r h => tied_sound tied (xf := c27) rfl (F27 k73 a0 a1 r h)
theorem k56 : K56 (CallsV Try.prog phi) := fun a0 a1 a2 r h => tied_sound tied (xf := c56) rfl (F56  a0 a1 a2 r h)
theorem k18 : K18 (CallsV Try.prog phi) := fun a0 r h => tied_sound tied (xf := c18) rfl (F18 k56 a0 r h)
theorem k111 : K111 (CallsV Try.prog phi) := fun a0 r h => tied_sound tied (xf := c111) rfl (F111  a0 r h)
theorem k81 : K81 (CallsV Try.prog phi) := fun a0 a1 r h => tied_sound tied (xf := c81) rfl (F81 k111 a0 a1 r h)
theorem k34 : K34 (CallsV Try.prog phi) := fun a0 a1 r h => tied_sound tied (xf := c34) rfl (F34 k18 k81 a0 a1 r h)
theorem k63 : K63 (CallsV Try.prog phi) := fun a0 a1 a2 r h => tied_sound tied (xf := c63) rfl (F63  a0 a1 a2 r h)
theorem k58 : K58 (CallsV Try.prog phi) := fun a0 r h => tied_sound tied (xf := c58) rfl (F58 k63 a0 r h)
theorem k59 : K59 (CallsV Try.prog phi) := fun a0 a1 a2 r h => tied_sound tied (xf := c59) rfl (F59 k63 a0 a1 a2 r h)
theorem k60 : K60 (CallsV Try.prog phi) := fun a0 r h => tied_sound tied (xf := c60) rfl (F60  a0 r h)
theorem k108 : K108 (CallsV Try.prog phi) := fun a0 f1 k1 is1 hs1 hf1 r h => tied_sound tied (xf := c108) rfl (F108  a0 f1 k1 is1 hs1 hf1 r h)
theorem k105 : K105 (CallsV Try.prog phi) := fun a0 f1 k1 is1 hs1 hf1 r h => tied_sound tied (xf := c105) rfl (F105 k108 a0 f1 k1 is1 hs1 hf1 r h)
theorem k106 : K106 (CallsV Try.prog phi) := fun a0 f1 k1 is1 hs1 hf1 r h => tied_sound tied (xf := c106) rfl (F106  a0 f1 k1 is1 hs1 hf1 r h)
theorem k61 : K61 (CallsV Try.prog phi) := fun a0 f1 k1 is1 hs1 hf1 r h => tied_sound tied (xf := c61) rfl (F61 k105 k106 a0 f1 k1 is1 hs1 hf1 r h)
theorem k62 : K62 (CallsV Try.prog phi) := fun a0 a1 r h => tied_sound tied (xf := c62) rfl (F62 k63 a0 a1 r h)
theorem k20 : K20 (CallsV Try.prog phi) := fun a0 r h => tied_sound tied (xf := c20) rfl (F20 k58 k59 k60 k61 k62 a0 r h)
theorem k109 : K109 (CallsV Try.prog phi) := fun a0 r h => tied_sound tied (xf := c109) rfl (F109  a0 r h)
theorem k136 : K136 (CallsV Try.prog phi) := fun a0 r h => tied_sound tied (xf := c136) rfl (F136  a0 r h)
theorem k110 : K110 (CallsV Try.prog phi) := fun a0 a1 r h => tied_sound tied (xf := c110) rfl (F110 k136 a0 a1 r h)
theorem k69 : K69 (CallsV Try.prog phi) := fun a0 a1 r h => tied_sound tied (xf := c69) rfl (F69 k109 k110 a0 a1 r h)
theorem k66 : K66 (CallsV Try.prog phi) := fun a0 r h => tied_sound tied (xf := c66) rfl (F66  a0 r h)
theorem k112 : K112 (CallsV Try.prog phi) := fun a0 r h => tied_sound tied (xf := c112) rfl (F112 k66 a0 r h)
theorem k148 : K148 (CallsV Try.prog phi) := fun a0 a1 a2 f3 k3 is3 hs3 hf3 r h => tied_sound tied (xf := c148) rfl (F148  a0 a1 a2 f3 k3 is3 hs3 hf3 r h)
theorem k159 : K159 (CallsV Try.prog phi) := fun a0 a1 a2 a3 f4 k4 is4 hs4 hf4 r h => tied_sound tied (xf := c159) rfl (F159  a0 a1 a2 a3 f4 k4 is4 hs4 hf4 r h)
theorem k149 : K149 (CallsV Try.prog phi) := fun a0 a1 a2 f3 k3 is3 hs3 hf3 r h => tied_sound tied (xf := c149) rfl (F149 k159 a0 a1 a2 f3 k3 is3 hs3 hf3 r h)
theorem k156 : K156 (CallsV Try.prog phi) := fun a0 r h => tied_sound tied (xf := c156) rfl (F156  a0 r h)
theorem k157 : K157 (CallsV Try.prog phi) := fun a0 r h => tied_sound tied (xf := c157) rfl (F157  a0 r h)
theorem k138 : K138 (CallsV Try.prog phi) := fun a0 r h => tied_sound tied (xf := c138) rfl (F138 k156 k157 a0 r h)
theorem k160 : K160 (CallsV Try.prog phi) := fun a0 r h => tied_sound tied (xf := c160) rfl (F160 k138 a0 r h)
theorem k161 : K161 (CallsV Try.prog phi) := fun a0 r h => tied_sound tied (xf := c161) rfl (F161  a0 r h)
theorem k150 : K150 (CallsV Try.prog phi) := fun a0 a1 a2 f3 k3 is3 hs3 hf3 r h => tied_sound tied (xf := c150) rfl (F150 k160 k161 a0 a1 a2 f3 k3 is3 hs3 hf3 r h)
theorem k165 : K165 (CallsV Try.prog phi) := fun a0 a1 a2 a3 f4 k4 is4 hs4 hf4 r h => tied_sound tied (xf := c165) rfl (F165  a0 a1 a2 a3 f4 k4 is4 hs4 hf4 r h)
theorem k163 : K163 (CallsV Try.prog phi) := fun a0 a1 a2 a3 a4 f5 k5 is5 hs5 hf5 r h => tied_sound tied (xf := c163) rfl (F163 k165 a0 a1 a2 a3 a4 f5 k5 is5 hs5 hf5 r h)
theorem k162 : K162 (CallsV Try.prog phi) := fun a0 a1 a2 f3 k3 is3 hs3 hf3 r h => tied_sound tied (xf := c162) rfl (F162 k163 a0 a1 a2 f3 k3 is3 hs3 hf3 r h)
theorem k151 : K151 (CallsV Try.prog phi) := fun a0 a1 a2 f3 k3 is3 hs3 hf3 r h => tied_sound tied (xf := c151) rfl (F151 k162 k163 a0 a1 a2 f3 k3 is3 hs3 hf3 r h)
theorem k152 : K152 (CallsV Try.prog phi) := fun a0 a1 a2 f3 k3 is3 hs3 hf3 r h => tied_sound tied (xf := c152) rfl (F152  a0 a1 a2 f3 k3 is3 hs3 hf3 r h)
theorem k153 : K153 (CallsV Try.prog phi) := fun a0 a1 a2 f3 k3 is3 hs3 hf3 r h => tied_sound tied (xf := c153) rfl (F153  a0 a1 a2 f3 k3 is3 hs3 hf3 r h)
theorem k154 : K154 (CallsV Try.prog phi) := fun a0 a1 a2 a3 f4 k4 is4 hs4 hf4 r h => tied_sound tied (xf := c154) rfl (F154  a0 a1 a2 a3 f4 k4 is4 hs4 hf4 r h)
theorem k155 : K155 (CallsV Try.prog phi) := fun a0 a1 a2 a3 f4 k4 is4 hs4 hf4 r h => tied_sound tied (xf := c155) rfl (F155  a0 a1 a2 a3 f4 k4 is4 hs4 hf4 r h)
theorem k137 : K137 (CallsV Try.prog phi) := fun n => Nat.rec (motive := fun n => Kr137 (CallsV Try.prog phi) (g137 n)) (fun a0 a1 a2 a3 f4 k4 is4 hs4 hf4 r h => by have h2 : none = some r := h; cases h2) (fun n ih a0 a1 a2 a3 f4 k4 is4 hs4 hf4 r h => tied_sound tied (xf := c137) rfl (F137 k148 k149 k150 k151 k152 k153 k154 k155 (g137 n) ih a0 a1 a2 a3 f4 k4 is4 hs4 hf4 r h)) n
theorem k116 : K116 (CallsV Try.prog phi) := fun a0 f1 k1 is1 hs1 hf1 r h => tied_sound tied (xf := c116) rfl (F116 k137 k138 a0 f1 k1 is1 hs1 hf1 r h)
theorem k82 : K82 (CallsV Try.prog phi) := fun a0 a1 r h => tied_sound tied (xf := c82) rfl (F82 k60 k69 k112 k116 a0 a1 r h)
theorem k35 : K35 (CallsV Try.prog phi) := fun a0 a1 r h => tied_sound tied (xf := c35) rfl (F35 k20 k82 a0 a1 r h)
theorem k36 : K36 (CallsV Try.prog phi) := fun a0 a1 r h => tied_sound tied (xf := c36) rfl (F36  a0 a1 r h)
theorem k37 : K37 (CallsV Try.prog phi) := fun a0 a1 r h => tied_sound tied (xf := c37) rfl (F37  a0 a1 r h)
theorem k38 : K38 (CallsV Try.prog phi) := fun a0 a1 r h => tied_sound tied (xf := c38) rfl (F38  a0 a1 r h)
theorem k10 : K10 (CallsV Try.prog phi) := fun a0 a1 r h => tied_sound tied (xf := c10) rfl (F10 k17 k19 k21 k26 k27 k34 k35 k36 k37 k38 a0 a1 r h)
theorem oktDLease : Ok (.struct [.int .i64, .int .i64, .int .i64, .bool]) eDLease okDLease := fun vs h => by
  have h : HasTys [.int .i64, .int .i64, .int .i64, .bool] vs := by simpa only [HasTy] using h
  obtain ⟨a0, r0, rfl, h0, h⟩ := h
  obtain ⟨a1, r1, rfl, h1, h⟩ := h
  obtain ⟨a2, r2, rfl, h2, h⟩ := h
  obtain ⟨a3, r3, rfl, h3, h⟩ := h
  obtain rfl : r3 = [] := by simpa only [HasTys] using h
  obtain ⟨x0, rfl, p0⟩ := Ok.int64 a0 h0
  obtain ⟨x1, rfl, p1⟩ := Ok.int64 a1 h1
  obtain ⟨x2, rfl, p2⟩ := Ok.int64 a2 h2
  obtain ⟨x3, rfl, p3⟩ := Ok.bool a3 h3
  exact ⟨⟨x0, x1, x2, x3⟩, rfl, ⟨p0, p1, p2, p3⟩⟩
theorem oktDTable : Ok (.struct [.int .i64, .int .i64, .slice 4 (.struct [.int .i64, .int .i64, .int .i64, .bool])]) eDTable okDTable := fun vs h => by
  have h : HasTys [.int .i64, .int .i64, .slice 4 (.struct [.int .i64, .int .i64, .int .i64, .bool])] vs := by simpa only [HasTy] using h
  obtain ⟨a0, r0, rfl, h0, h⟩ := h
  obtain ⟨a1, r1, rfl, h1, h⟩ := h
  obtain ⟨a2, r2, rfl, h2, h⟩ := h
  obtain rfl : r2 = [] := by simpa only [HasTys] using h
  obtain ⟨x0, rfl, p0⟩ := Ok.int64 a0 h0
  obtain ⟨x1, rfl, p1⟩ := Ok.int64 a1 h1
  obtain ⟨x2, rfl, p2⟩ := (Ok.slice oktDLease) a2 h2
  exact ⟨⟨x0, x1, x2⟩, rfl, ⟨p0, p1, p2⟩⟩
theorem own : ownKnob Try.prog.godebug = none := by kernel_rfl
theorem laid : laidOutB Try.prog = true := by kernel_rfl
theorem lifted (os : Os) (started : os.Started) (H : Type) (enc : TypeId × Value → H) :
    ReturnsInHanded {} Try.checked os 10 .any (Rows.fnExactTickSpec.pre6 enc Try.prog Try.f10 Rows.fnExactTickRow.domain false) (Rows.fnExactTickSpec.post enc Try.prog Try.f10 false true false false) := by
  refine returnsInHanded_of_change_sized (C := Try.checked) own started (by kernel_rfl) Try.func10
    (ChangeSpec.witness6 (enc := enc) (C := Try.checked) false ⟨#[], #[.agg #[.int .i64 0, .int .i64 0, .slice none 0 0], .int .i64 0], []⟩ 8 (by kernel_rfl) (by kernel_rfl) (by kernel_rfl) (by kernel_rfl)) ?_
  intro W base args ds gs before hval0 hW hcnd hsz0 _
  have hval : ∀ (j : Nat) t v, Try.f10.params[j]? = some t → args[j]? = some v → Value.okWide Try.prog W .any base t v := hval0
  have hW' := hW
  obtain ⟨p, q, hA0, hV, rfl, hfz, hnd⟩ := hW
  have hA : DataW.TrodAll enc Try.prog W 0 (fun _ => true) true Try.f10.params.toList args.toList ds p := hA0
  rw [Try.params10] at hA hval
  obtain ⟨v0, vs0, d0, ds0, p0, q0, hargs, rfl, rfl, h0, r0⟩ := trodAll_cons hA
  obtain ⟨v1, vs1, d1, ds1, p1, q1, rfl, rfl, rfl, h1, r1⟩ := trodAll_cons r0
  obtain ⟨rfl, rfl, rfl⟩ := trodAll_nil r1
  obtain rfl : args = #[v0, v1] := by cases args; simp_all
  obtain ⟨rfl, rfl⟩ := trodVars_none hV
  obtain ⟨u0, t0, rt0⟩ := arg_V (φ := phi) (n := 12) (T := .struct [.int .i64, .int .i64, .slice 4 (.struct [.int .i64, .int .i64, .int .i64, .bool])]) (by kernel_rfl) (hval 0 26 v0 rfl rfl) h0
  obtain ⟨a0, rfl, o0⟩ := oktDTable.argS t0
  have hlt0 : ∀ x ∈ p0, x.block < W.heap.size := fun x hx => hW'.lt x (by simp [hx])
  obtain ⟨u1, t1, rt1⟩ := arg_V (φ := phi) (n := 12) (T := .int .i64) (by kernel_rfl) (hval 1 3 v1 rfl rfl) h1
  obtain ⟨a1, rfl, o1⟩ := Ok.arg1 (e := eI) (fun x => .int .i64 x) (fun _ => rfl) Ok.int64 t1
  have hlt1 : ∀ x ∈ p1, x.block < W.heap.size := fun x hx => hW'.lt x (by simp [hx])
  have hc := law_calls (P := Try.prog) (φ := phi) (f := 10) (fid := 10) (vals := [v0, v1]) (vs := [.agg [.int .i64 a0.clock, .int .i64 a0.next, .lst 4 (a0.list_.map eDLease)], .int .i64 a1]) (w := W) rfl rfl (rts rt0 (rts rt1 rtz)) (k10 a0 a1 true (g10_law a0 a1 o0 o1))
  refine hc.mono fun e W' ⟨he, bel⟩ => ?_
  subst he
  exact ⟨_, rfl, _, _, _, [], _, [], hW', trodAll_mk1 (shut_bool Try.underlying4 _), (trodAll_cons_mk (Below.trod laid (by kernel_rfl) (of_decide_eq_true (by kernel_rfl)) h0 bel hlt0) (trodAll_cons_mk (Below.trod laid (by kernel_rfl) (of_decide_eq_true (by kernel_rfl)) h1 bel hlt1) trodAll_mk0)), rfl, bel.frame _, fun h => by cases h⟩
theorem over : Rows.fnExactTickRow.holds Try.pinned (OpenSpec.ofChange Rows.fnExactTickSpec) :=
  OpenClaim.holds_of_wide 10 Try.f10 rfl rfl rfl rfl rfl rfl rfl ⟨rfl, rfl, rfl, rfl, rfl⟩ rfl rfl rfl rfl rfl (by kernel_rfl) Try.func10 (by kernel_rfl)
    (of_decide_eq_true (by kernel_rfl)) (by unfold Func.isWrapper; first | (rw [if_pos (by decide +kernel)]; kernel_rfl) | (rw [if_neg (by decide +kernel)]; exact ⟨rfl, rfl⟩))
    (fun os started H enc _ => lifted os started H enc)
end Go.Proofs.Ytdkeomfbpdodiaa.fnExactTick
namespace Go.Proofs.Ytdkeomfbpdodiaa
/-- FnExactTick. -/
theorem fnExactTick_holds : Rows.FnExactTickSaid := fnExactTick.over
end Go.Proofs.Ytdkeomfbpdodiaa
