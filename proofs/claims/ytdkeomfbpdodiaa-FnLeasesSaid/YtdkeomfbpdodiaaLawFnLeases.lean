/- FnLeases: whatever the input, the law returns true, and its arguments read behind the call as they read before. No condition: every input. -/
import Derived.Test.YtdkeomfbpdodiaaRows
import Derived.Test.YtdkeomfbpdodiaaQvT
import Derived.Test.YtdkeomfbpdodiaaQgW4
import Derived.Test.YtdkeomfbpdodiaaQwZ
import Derived.WalkKit
import Derived.ProofKit
import Derived.OpenShut
import Derived.ShutString
import Derived.ChangeOld
import Derived.Below
import Derived.SizedLaws
import Derived.Carry
set_option linter.all false
set_option maxRecDepth 100000
namespace Go.Proofs.Ytdkeomfbpdodiaa.fnLeases
open Go.ChangeShapes Go.WideShapes Go.ChangeAt Go.RowKit Go.Ev
def phi : FMap := [(63, 63), (58, 58), (59, 59), (60, 60), (108, 108), (105, 105), (106, 106), (61, 61), (62, 62), (20, 20), (113, 113), (136, 136), (110, 110), (114, 114), (77, 77), (66, 66), (112, 112), (115, 115), (78, 78), (31, 31), (54, 54), (80, 80), (33, 33), (56, 56), (18, 18), (111, 111), (81, 81), (34, 34), (109, 109), (69, 69), (148, 148), (159, 159), (149, 149), (156, 156), (157, 157), (138, 138), (160, 160), (161, 161), (150, 150), (165, 165), (163, 163), (162, 162), (151, 151), (152, 152), (153, 153), (154, 154), (155, 155), (137, 137), (116, 116), (82, 82), (35, 35), (83, 83), (53, 53), (70, 70), (92, 92), (74, 74), (79, 79), (139, 139), (117, 117), (118, 118), (119, 119), (84, 84), (39, 39), (40, 40), (41, 41), (11, 11)]
def tbl : List (Nat × XFn) := [(63, c63), (58, c58), (59, c59), (60, c60), (108, c108), (105, c105), (106, c106), (61, c61), (62, c62), (20, c20), (113, c113), (136, c136), (110, c110), (114, c114), (77, c77), (66, c66), (112, c112), (115, c115), (78, c78), (31, c31), (54, c54), (80, c80), (33, c33), (56, c56), (18, c18), (111, c111), (81, c81), (34, c34), (109, c109), (69, c69), (148, c148), (159, c159), (149, c149), (156, c156), (157, c157), (138, c138), (160, c160), (161, c161), (150, c150), (165, c165), (163, c163), (162, c162), (151, c151), (152, c152), (153, c153), (154, c154), (155, c155), (137, c137), (116, c116), (82, c82), (35, c35), (83, c83), (53, c53), (70, c70), (92, c92), (74, c74), (79, c79), (139, c139), (117, c117), (118, c118), (119, c119), (84, c84), (39, c39), (40, c40), (41, c41), (11, c11)]
theorem tied : Tied Try.prog phi (Go.Ev.look tbl) := tied_all ⟨tone (xf := c63) rfl Try.f63 (by kernel_rfl) (by kernel_rfl),
  tone (xf := c58) rfl Try.f58 (by kernel_rfl) (by kernel_rfl),
  tone (xf := c59) rfl Try.f59 (by kernel_rfl) (by kernel_rfl),
  tone (xf := c60) rfl Try.f60 (by kernel_rfl) (by kernel_rfl),
  tone (xf := c108) rfl Try.f108 (by kernel_rfl) (by kernel_rfl),
  tone (xf := c105) rfl Try.f105 (by kernel_rfl) (by kernel_rfl),
  tone (xf := c106) rfl Try.f106 (by kernel_rfl) (by kernel_rfl),
  tone (xf := c61) rfl Try.f61 (by kernel_rfl) (by kernel_rfl),
  tone (xf := c62) rfl Try.f62 (by kernel_rfl) (by kernel_rfl),
  tone (xf := c20) rfl Try.f20 (by kernel_rfl) (by kernel_rfl),
  tone (xf := c113) rfl Try.f113 (by kernel_rfl) (by kernel_rfl),
  tone (xf := c136) rfl Try.f136 (by kernel_rfl) (by kernel_rfl),
  tone (xf := c110) rfl Try.f110 (by kernel_rfl) (by kernel_rfl),
  tone (xf := c114) rfl Try.f114 (by kernel_rfl) (by kernel_rfl),
  tone (xf := c77) rfl Try.f77 (by kernel_rfl) (by kernel_rfl),
  tone (xf := c66) rfl Try.f66 (by kernel_rfl) (by kernel_rfl),
  tone (xf := c112) rfl Try.f112 (by kernel_rfl) (by kernel_rfl),
  tone (xf := c115) rfl Try.f115 (by kernel_rfl) (by kernel_rfl),
  tone (xf := c78) rfl Try.f78 (by kernel_rfl) (by kernel_rfl),
  tone (xf := c31) rfl Try.f31 (by kernel_rfl) (by kernel_rfl),
  tone (xf := c54) rfl Try.f54 (by kernel_rfl) (by kernel_rfl),
  tone (xf := c80) rfl Try.f80 (by kernel_rfl) (by kernel_rfl),
  tone (xf := c33) rfl Try.f33 (by kernel_rfl) (by kernel_rfl),
  tone (xf := c56) rfl Try.f56 (by kernel_rfl) (by kernel_rfl),
  tone (xf := c18) rfl Try.f18 (by kernel_rfl) (by kernel_rfl),
  tone (xf := c111) rfl Try.f111 (by kernel_rfl) (by kernel_rfl),
  tone (xf := c81) rfl Try.f81 (by kernel_rfl) (by kernel_rfl),
  tone (xf := c34) rfl Try.f34 (by kernel_rfl) (by kernel_rfl),
  tone (xf := c109) rfl Try.f109 (by kernel_rfl) (by kernel_rfl),
  tone (xf := c69) rfl Try.f69 (by kernel_rfl) (by kernel_rfl),
  tone (xf := c148) rfl Try.f148 (by kernel_rfl) (by kernel_rfl),
  tone (xf := c159) rfl Try.f159 (by kernel_rfl) (by kernel_rfl),
  tone (xf := c149) rfl Try.f149 (by kernel_rfl) (by kernel_rfl),
  tone (xf := c156) rfl Try.f156 (by kernel_rfl) (by kernel_rfl),
  tone (xf := c157) rfl Try.f157 (by kernel_rfl) (by kernel_rfl),
  tone (xf := c138) rfl Try.f138 (by kernel_rfl) (by kernel_rfl),
  tone (xf := c160) rfl Try.f160 (by kernel_rfl) (by kernel_rfl),
  tone (xf := c161) rfl Try.f161 (by kernel_rfl) (by kernel_rfl),
  tone (xf := c150) rfl Try.f150 (by kernel_rfl) (by kernel_rfl),
  tone (xf := c165) rfl Try.f165 (by kernel_rfl) (by kernel_rfl),
  tone (xf := c163) rfl Try.f163 (by kernel_rfl) (by kernel_rfl),
  tone (xf := c162) rfl Try.f162 (by kernel_rfl) (by kernel_rfl),
  tone (xf := c151) rfl Try.f151 (by kernel_rfl) (by kernel_rfl),
  tone (xf := c152) rfl Try.f152 (by kernel_rfl) (by kernel_rfl),
  tone (xf := c153) rfl Try.f153 (by kernel_rfl) (by kernel_rfl),
  tone (xf := c154) rfl Try.f154 (by kernel_rfl) (by kernel_rfl),
  tone (xf := c155) rfl Try.f155 (by kernel_rfl) (by kernel_rfl),
  tone (xf := c137) rfl Try.f137 (by kernel_rfl) (by kernel_rfl),
  tone (xf := c116) rfl Try.f116 (by kernel_rfl) (by kernel_rfl),
  tone (xf := c82) rfl Try.f82 (by kernel_rfl) (by kernel_rfl),
  tone (xf := c35) rfl Try.f35 (by kernel_rfl) (by kernel_rfl),
  tone (xf := c83) rfl Try.f83 (by kernel_rfl) (by kernel_rfl),
  tone (xf := c53) rfl Try.f53 (by kernel_rfl) (by kernel_rfl),
  tone (xf := c70) rfl Try.f70 (by kernel_rfl) (by kernel_rfl),
  tone (xf := c92) rfl Try.f92 (by kernel_rfl) (by kernel_rfl),
  tone (xf := c74) rfl Try.f74 (by kernel_rfl) (by kernel_rfl),
  tone (xf := c79) rfl Try.f79 (by kernel_rfl) (by kernel_rfl),
  tone (xf := c139) rfl Try.f139 (by kernel_rfl) (by kernel_rfl),
  tone (xf := c117) rfl Try.f117 (by kernel_rfl) (by kernel_rfl),
  tone (xf := c118) rfl Try.f118 (by kernel_rfl) (by kernel_rfl),
  tone (xf := c119) rfl Try.f119 (by kernel_rfl) (by kernel_rfl),
  tone (xf := c84) rfl Try.f84 (by kernel_rfl) (by kernel_rfl),
  tone (xf := c39) rfl Try.f39 (by kernel_rfl) (by kernel_rfl),
  tone (xf := c40) rfl Try.f40 (by kernel_rfl) (by kernel_rfl),
  tone (xf := c41) rfl Try.f41 (by kernel_rfl) (by kernel_rfl),
  tone (xf := c11) rfl Try.f11 (by kernel_rfl) (by kernel_rfl), trivial⟩
theorem k63 : K63 (CallsV Try.prog phi) := fun a0 a1 a2 r h => tied_sound tied (xf := c63) rfl (F63  a0 a1 a2 r h)
theorem k58 : K58 (CallsV Try.prog phi) := fun a0 r h => tied_sound tied (xf := c58) rfl (F58 k63 a0 r h)
theorem k59 : K59 (CallsV Try.prog phi) := fun a0 a1 a2 r h => tied_sound tied (xf := c59) rfl (F59 k63 a0 a1 a2 r h)
theorem k60 : K60 (CallsV Try.prog phi) := fun a0 r h => tied_sound tied (xf := c60) rfl (F60  a0 r h)
theorem k108 : K108 (CallsV Try.prog phi) := fun a0 f1 k1 is1 hs1 hf1 r h => tied_sound tied (xf := c108) rfl (F108  a0 f1 k1 is1 hs1 hf1 r h)
theorem k105 : K105 (CallsV Try.prog phi) := fun a0 f1 k1 is1 hs1 hf1 r h => tied_sound tied (xf := c105) rfl (F105 k108 a0 f1 k1 is1 hs1 hf1 r h)
theorem k106 : K106 (CallsV Try.prog phi) := fun a0 f1 k1 is1 hs1 hf1 r h => tied_sound tied (xf := c106) rfl (F106  a0 f1 k1 is1 hs1 hf1 r h)
theorem k61 : K61 (CallsV Try.prog phi) := fun a0 f1 k1 is1 hs1 hf1 r h => tied_sound tied (xf := c61) rfl (F61 k105 k106 a0 f1 k1 is1 hs1 hf1 r h)
theorem k62 : K62 (CallsV Try.prog phi) := fun a0 a1 r h => tied_sound tied (xf := c62) rfl (F62 k63 a0 a1 r h)
theorem k20 : K20 (CallsV Try.prog phi) := fun a0 r h => tied_sound tied (xf := c20) rfl (F20 k58 k59 k60 k61 k62 a0 r h)
theorem k113 : K113 (CallsV Try.prog phi) := fun a0 a1 f2 k2 is2 hs2 hf2 r h => tied_sound tied (xf := c113) rfl (F113  a0 a1 f2 k2 is2 hs2 hf2 r h)
theorem k136 : K136 (CallsV Try.prog phi) := fun a0 r h => tied_sound tied (xf := c136) rfl (F136  a0 r h)
theorem k110 : K110 (CallsV Try.prog phi) := fun a0 a1 r h => tied_sound tied (xf := c110) rfl (F110 k136 a0 a1 r h)
theorem k114 : K114 (CallsV Try.prog phi) := fun a0 a1 r h => tied_sound tied (xf := c114) rfl (F114 k110 a0 a1 r h)
theorem k77 : K77 (CallsV Try.prog phi) := fun a0 a1 r h => tied_sound tied (xf := c77) rfl (F77 k113 k114 a0 a1 r h)
theorem k66 : K66 (CallsV Try.prog phi) := fun a0 r h => tied_sound tied (xf := c66) rfl (F66  a0 r h)
theorem k112 : K112 (CallsV Try.prog phi) := fun a0 r h => tied_sound tied (xf := c112) rfl (F112 k66 a0 r h)
theorem k115 : K115 (CallsV Try.prog phi) := fun a0 a1 a2 r h => tied_sound tied (xf := c115) rfl (F115  a0 a1 a2 r h)
theorem k78 : K78 (CallsV Try.prog phi) := fun a0 a1 r h => tied_sound tied (xf := c78) rfl (F78 k112 k115 a0 a1 r h)
theorem k31 : K31 (CallsV Try.prog phi) := fun a0 a1 r h => tied_sound tied (xf := c31) rfl (F31 k20 k77 k78 a0 a1 r h)
theorem k54 : K54 (CallsV Try.prog phi) := fun a0 a1 r h => tied_sound tied (xf := c54) rfl (F54  a0 a1 r h)
theorem k80 : K80 (CallsV Try.prog phi) := fun a0 a1 a2 r h => tied_sound tied (xf := c80) rfl (F80 k54 k77 k112 a0 a1 a2 r h)
theorem k33 : K33 (CallsV Try.prog phi) := fun a0 a1 a2 r h => tied_sound tied (xf := c33) rfl (F33 k20 k80 a0 a1 a2 r h)
theorem k56 : K56 (CallsV Try.prog phi) := fun a0 a1 a2 r h => tied_sound tied (xf := c56) rfl (F56  a0 a1 a2 r h)
theorem k18 : K18 (CallsV Try.prog phi) := fun a0 r h => tied_sound tied (xf := c18) rfl (F18 k56 a0 r h)
theorem k111 : K111 (CallsV Try.prog phi) := fun a0 r h => tied_sound tied (xf := c111) rfl (F111  a0 r h)
theorem k81 : K81 (CallsV Try.prog phi) := fun a0 a1 r h => tied_sound tied (xf := c81) rfl (F81 k111 a0 a1 r h)
theorem k34 : K34 (CallsV Try.prog phi) := fun a0 a1 r h => tied_sound tied (xf := c34) rfl (F34 k18 k81 a0 a1 r h)
theorem k109 : K109 (CallsV Try.prog phi) := fun a0 r h => tied_sound tied (xf := c109) rfl (F109  a0 r h)
theorem k69 : K69 (CallsV Try.prog phi) := fun a0 a1 r h => tied_sound tied (xf := c69) rfl (F69 k109 k110 a0 a1 r h)
theorem k148 : K148 (CallsV Try.prog phi) := fun a0 a1 a2 f3 k3 is3 hs3 hf3 r h => tied_sound tied (xf := c148) rfl (F148  a0 a1 a2 f3 k3 is3 hs3 hf3 r h)
theorem k159 : K159 (CallsV Try.prog phi) := fun a0 a1 a2 a3 f4 k4 is4 hs4 hf4 r h => tied_sound tied (xf := c159) rfl (F159  a0 a1 a2 a3 f4 k4 is4 hs4 hf4 r h)
theorem k149 : K149 (CallsV Try.prog phi) := fun a0 a1 a2 f3 k3 is3 hs3 hf3 r h => tied_sound tied (xf := c149) rfl (F149 k159 a0 a1 a2 f3 k3 is3 hs3 hf3 r h)
theorem k156 : K156 (CallsV Try.prog phi) := fun a0 r h => tied_sound tied (xf := c156) rfl (F156  a0 r h)
theorem k157 : K157 (CallsV Try.prog phi) := fun a0 r h => tied_sound tied (xf := c157) rfl (F157  a0 r h)
theorem k138 : K138 (CallsV Try.prog phi) := fun a0 r h => tied_sound tied (xf := c138) rfl (F138 k156 k157 a0 r h)
theorem k160 : K160 (CallsV Try.prog phi) := fun a0 r h => tied_sound tied (xf := c160) rfl (F160 k138 a0 r h)
theorem k161 : K161 (CallsV Try.prog phi) := fun a0 r h => tied_sound tied (xf := c161) rfl (F161  a0 r h)
theorem k150 : K150 (CallsV Try.prog phi) := fun a0 a1 a2 f3 k3 is3 hs3 hf3 r h => tied_sound tied (xf := c150) rfl (F150 k160 k161 a0 a1 a2 f3 k3 is3 hs3 hf3 r h)
theorem k165 : K165 (CallsV Try.prog phi) := fun a0 a1 a2 a3 f4 k4 is4 hs4 hf4 r h => tied_sound tied (xf := c165) rfl (F165  a0 a1 a2 a3 f4 k4 is4 hs4 hf4 r h)
theorem k163 : K163 (CallsV Try.prog phi) := fun a0 a1 a2 a3 a4 f5 k5 is5 hs5 hf5 r h => tied_sound tied (xf := c163) rfl (F163 k165 a0 a1 a2 a3 a4 f5 k5 is5 hs5 hf5 r h)
theorem k162 : K162 (CallsV Try.prog phi) := fun a0 a1 a2 f3 k3 is3 hs3 hf3 r h => tied_sound tied (xf := c162) rfl (F162 k163 a0 a1 a2 f3 k3 is3 hs3 hf3 r h)
theorem k151 : K151 (CallsV Try.prog phi) := fun a0 a1 a2 f3 k3 is3 hs3 hf3 r h => tied_sound tied (xf := c151) rfl (F151 k162 k163 a0 a1 a2 f3 k3 is3 hs3 hf3 r h)
theorem k152 : K152 (CallsV Try.prog phi) := fun a0 a1 a2 f3 k3 is3 hs3 hf3 r h => tied_sound tied (xf := c152) rfl (F152  a0 a1 a2 f3 k3 is3 hs3 hf3 r h)
theorem k153 : K153 (CallsV Try.prog phi) := fun a0 a1 a2 f3 k3 is3 hs3 hf3 r h => tied_sound tied (xf := c153) rfl (F153  a0 a1 a2 f3 k3 is3 hs3 hf3 r h)
theorem k154 : K154 (CallsV Try.prog phi) := fun a0 a1 a2 a3 f4 k4 is4 hs4 hf4 r h => tied_sound tied (xf := c154) rfl (F154  a0 a1 a2 a3 f4 k4 is4 hs4 hf4 r h)
theorem k155 : K155 (CallsV Try.prog phi) := fun a0 a1 a2 a3 f4 k4 is4 hs4 hf4 r h => tied_sound tied (xf := c155) rfl (F155  a0 a1 a2 a3 f4 k4 is4 hs4 hf4 r h)
theorem k137 : K137 (CallsV Try.prog phi) := fun n => Nat.rec (motive := fun n => Kr137 (CallsV Try.prog phi) (g137 n)) (fun a0 a1 a2 a3 f4 k4 is4 hs4 hf4 r h => by have h2 : none = some r := h; cases h2) (fun n ih a0 a1 a2 a3 f4 k4 is4 hs4 hf4 r h => tied_sound tied (xf := c137) rfl (F137 k148 k149 k150 k151 k152 k153 k154 k155 (g137 n) ih a0 a1 a2 a3 f4 k4 is4 hs4 hf4 r h)) n
theorem k116 : K116 (CallsV Try.prog phi) := fun a0 f1 k1 is1 hs1 hf1 r h => tied_sound tied (xf := c116) rfl (F116 k137 k138 a0 f1 k1 is1 hs1 hf1 r h)
theorem k82 : K82 (CallsV Try.prog phi) := fun a0 a1 r h => tied_sound tied (xf := c82) rfl (F82 k60 k69 k112 k116 a0 a1 r h)
theorem k35 : K35 (CallsV Try.prog phi) := fun a0 a1 r h => tied_sound tied (xf := c35) rfl (F35 k20 k82 a0 a1 r h)
theorem k83 : K83 (CallsV Try.prog phi) := fun a0 r h => tied_sound tied (xf := c83) rfl (F83  a0 r h)
theorem k53 : K53 (CallsV Try.prog phi) := fun a0 a1 r h => tied_sound tied (xf := c53) rfl (F53  a0 a1 r h)
theorem k70 : K70 (CallsV Try.prog phi) := fun a0 a1 a2 r h => tied_sound tied (xf := c70) rfl (F70 k53 k111 a0 a1 a2 r h)
theorem k92 : K92 (CallsV Try.prog phi) := fun a0 a1 r h => tied_sound tied (xf := c92) rfl (F92  a0 a1 r h)
theorem k74 : K74 (CallsV Try.prog phi) := fun a0 a1 r h => tied_sound tied (xf := c74) rfl (F74 k92 k111 a0 a1 r h)
theorem k79 : K79 (CallsV Try.prog phi) := fun a0 a1 a2 r h => tied_sound tied (xf := c79) rfl (F79 k53 k92 k111 a0 a1 a2 r h)
theorem k139 : K139 (CallsV Try.prog phi) := fun a0 r h => tied_sound tied (xf := c139) rfl (F139  a0 r h)
theorem k117 : K117 (CallsV Try.prog phi) := fun a0 a1 r h => tied_sound tied (xf := c117) rfl (F117 k139 a0 a1 r h)
theorem k118 : K118 (CallsV Try.prog phi) := fun a0 a1 r h => tied_sound tied (xf := c118) rfl (F118  a0 a1 r h)
theorem k119 : K119 (CallsV Try.prog phi) := fun a0 a1 r h => tied_sound tied (xf := c119) rfl (F119 k117 a0 a1 r h)
theorem k84 : K84 (CallsV Try.prog phi) := fun a0 r h => tied_sound tied (xf := c84) rfl (F84 k70 k74 k79 k81 k117 k118 k119 a0 r h)
theorem k39 : K39 (CallsV Try.prog phi) := fun a0 r h => tied_sound tied (xf := c39) rfl (F39 k83 k84 a0 r h)
theorem k40 : K40 (CallsV Try.prog phi) := fun a0 a1 a2 r h => tied_sound tied (xf := c40) rfl (F40  a0 a1 a2 r h)
theorem k41 : K41 (CallsV Try.prog phi) := fun a0 a1 r h => tied_sound tied (xf := c41) rfl (F41  a0 a1 r h)
theorem k11 : K11 (CallsV Try.prog phi) := fun a0 a1 r h => tied_sound tied (xf := c11) rfl (F11 k20 k31 k33 k34 k35 k39 k40 k41 a0 a1 r h)

theorem own : ownKnob Try.prog.godebug = none := by kernel_rfl
theorem laid : laidOutB Try.prog = true := by kernel_rfl
theorem lifted (os : Os) (started : os.Started) (H : Type) (enc : TypeId × Value → H) :
    ReturnsInHanded {} Try.checked os 11 .any (Rows.fnLeasesSpec.pre6 enc Try.prog Try.f11 Rows.fnLeasesRow.domain false) (Rows.fnLeasesSpec.post enc Try.prog Try.f11 false true false false) := by
  refine returnsInHanded_of_change_sized (C := Try.checked) own started (by kernel_rfl) Try.func11
    (ChangeSpec.witness6 (enc := enc) (C := Try.checked) false ⟨#[], #[.slice none 0 0, .slice none 0 0], []⟩ 8 (by kernel_rfl) (by kernel_rfl) (by kernel_rfl) (by kernel_rfl)) ?_
  intro W base args ds gs before hval0 hW hcnd hsz0 _
  have hval : ∀ (j : Nat) t v, Try.f11.params[j]? = some t → args[j]? = some v → Value.okWide Try.prog W .any base t v := hval0
  have hW' := hW
  obtain ⟨p, q, hA0, hV, rfl, hfz, hnd⟩ := hW
  have hA : DataW.TrodAll enc Try.prog W 0 (fun _ => true) true Try.f11.params.toList args.toList ds p := hA0
  rw [Try.params11] at hA hval
  obtain ⟨v0, vs0, d0, ds0, p0, q0, hargs, rfl, rfl, h0, r0⟩ := trodAll_cons hA
  obtain ⟨v1, vs1, d1, ds1, p1, q1, rfl, rfl, rfl, h1, r1⟩ := trodAll_cons r0
  obtain ⟨rfl, rfl, rfl⟩ := trodAll_nil r1
  obtain rfl : args = #[v0, v1] := by cases args; simp_all
  obtain ⟨rfl, rfl⟩ := trodVars_none hV
  obtain ⟨u0, t0, rt0⟩ := arg_V (φ := phi) (n := 12) (T := .slice 1 (.int .u8)) (by kernel_rfl) (hval 0 50 v0 rfl rfl) h0
  obtain ⟨a0, rfl, o0⟩ := Ok.arg1 (e := (eL 1 eU8)) (fun x => .lst 1 (x.map eU8)) (fun _ => rfl) (Ok.slice Ok.u8) t0
  have hlt0 : ∀ x ∈ p0, x.block < W.heap.size := fun x hx => hW'.lt x (by simp [hx])
  obtain ⟨u1, t1, rt1⟩ := arg_V (φ := phi) (n := 12) (T := .slice 1 (.int .u8)) (by kernel_rfl) (hval 1 50 v1 rfl rfl) h1
  obtain ⟨a1, rfl, o1⟩ := Ok.arg1 (e := (eL 1 eU8)) (fun x => .lst 1 (x.map eU8)) (fun _ => rfl) (Ok.slice Ok.u8) t1
  have hlt1 : ∀ x ∈ p1, x.block < W.heap.size := fun x hx => hW'.lt x (by simp [hx])
  have hc := law_calls (P := Try.prog) (φ := phi) (f := 11) (fid := 11) (vals := [v0, v1]) (vs := [.lst 1 (a0.map eU8), .lst 1 (a1.map eU8)]) (w := W) rfl rfl (rts rt0 (rts rt1 rtz)) (k11 a0 a1 true (g11_law a0 a1 o0 o1))
  refine hc.mono fun e W' ⟨he, bel⟩ => ?_
  subst he
  exact ⟨_, rfl, _, _, _, [], _, [], hW', trodAll_mk1 (shut_bool Try.underlying4 _), (trodAll_cons_mk (Below.trod laid (by kernel_rfl) (of_decide_eq_true (by kernel_rfl)) h0 bel hlt0) (trodAll_cons_mk (Below.trod laid (by kernel_rfl) (of_decide_eq_true (by kernel_rfl)) h1 bel hlt1) trodAll_mk0)), rfl, bel.frame _, fun h => by cases h⟩
theorem over : Rows.fnLeasesRow.holds Try.pinned (OpenSpec.ofChange Rows.fnLeasesSpec) :=
  OpenClaim.holds_of_wide 11 Try.f11 rfl rfl rfl rfl rfl rfl rfl ⟨rfl, rfl, rfl, rfl, rfl⟩ rfl rfl rfl rfl rfl (by kernel_rfl) Try.func11 (by kernel_rfl)
    (of_decide_eq_true (by kernel_rfl)) (by unfold Func.isWrapper; first | (rw [if_pos (by decide +kernel)]; kernel_rfl) | (rw [if_neg (by decide +kernel)]; exact ⟨rfl, rfl⟩))
    (fun os started H enc _ => lifted os started H enc)
end Go.Proofs.Ytdkeomfbpdodiaa.fnLeases
namespace Go.Proofs.Ytdkeomfbpdodiaa
/-- FnLeases. -/
theorem fnLeases_holds : Rows.FnLeasesSaid := fnLeases.over
end Go.Proofs.Ytdkeomfbpdodiaa
