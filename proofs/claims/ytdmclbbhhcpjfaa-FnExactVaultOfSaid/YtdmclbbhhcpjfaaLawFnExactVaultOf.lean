/- FnExactVaultOf: whatever the input, the law returns true, and its arguments read behind the call as they read before. No condition: every input. -/
import Derived.Test.YtdmclbbhhcpjfaaRows
import Derived.Test.YtdmclbbhhcpjfaaQgJ
import Derived.Test.YtdmclbbhhcpjfaaQvT
import Derived.Test.YtdmclbbhhcpjfaaQgW3
import Derived.Test.YtdmclbbhhcpjfaaQwZ
import Derived.WalkKit
import Derived.ProofKit
import Derived.OpenShut
import Derived.ShutString
import Derived.ChangeOld
import Derived.Below
import Derived.SizedLaws
import Derived.Carry
set_option linter.all false
set_option maxRecDepth 100000
namespace Go.Proofs.Ytdmclbbhhcpjfaa.fnExactVaultOf
open Go.ChangeShapes Go.WideShapes Go.ChangeAt Go.RowKit Go.Ev
def phi : FMap := [(42, 36), (44, 37), (67, 43), (250, 107), (213, 64), (141, 21), (214, 131), (142, 99), (60, 49), (140, 314), (59, 251), (215, 72), (143, 26), (144, 315), (61, 252), (145, 316), (62, 253), (146, 317), (64, 255), (95, 56), (199, 18), (200, 85), (201, 92), (237, 124), (202, 93), (134, 46), (216, 360), (147, 318), (217, 361), (148, 319), (65, 256), (149, 320), (66, 257), (85, 63), (100, 58), (102, 59), (239, 60), (266, 108), (261, 105), (262, 106), (240, 61), (241, 62), (205, 20), (206, 95), (263, 144), (242, 126), (243, 127), (244, 128), (207, 96), (245, 129), (246, 130), (208, 97), (247, 113), (264, 136), (249, 110), (248, 114), (210, 77), (209, 98), (138, 48), (151, 87), (153, 120), (150, 321), (218, 362), (152, 322), (265, 375), (251, 372), (219, 363), (235, 370), (180, 341), (220, 364), (221, 365), (154, 323), (68, 258), (222, 73), (155, 27), (45, 38), (156, 324), (69, 259), (12, 210)]
def tbl : List (Nat × XFn) := [(36, c36), (37, c37), (43, c43), (107, c107), (64, c64), (21, c21), (131, c131), (99, c99), (49, c49), (314, c314), (251, c251), (72, c72), (26, c26), (315, c315), (252, c252), (316, c316), (253, c253), (317, c317), (255, c255), (56, c56), (18, c18), (85, c85), (92, c92), (124, c124), (93, c93), (46, c46), (360, c360), (318, c318), (361, c361), (319, c319), (256, c256), (320, c320), (257, c257), (63, c63), (58, c58), (59, c59), (60, c60), (108, c108), (105, c105), (106, c106), (61, c61), (62, c62), (20, c20), (95, c95), (144, c144), (126, c126), (127, c127), (128, c128), (96, c96), (129, c129), (130, c130), (97, c97), (113, c113), (136, c136), (110, c110), (114, c114), (77, c77), (98, c98), (48, c48), (87, c87), (120, c120), (321, c321), (362, c362), (322, c322), (375, c375), (372, c372), (363, c363), (370, c370), (341, c341), (364, c364), (365, c365), (323, c323), (258, c258), (73, c73), (27, c27), (38, c38), (324, c324), (259, c259), (210, c210)]
theorem tied : Tied Try.prog phi (Go.Ev.look tbl) := tied_all ⟨tone (xf := c36) rfl Try.f42 (by kernel_rfl) (by kernel_rfl),
  tone (xf := c37) rfl Try.f44 (by kernel_rfl) (by kernel_rfl),
  tone (xf := c43) rfl Try.f67 (by kernel_rfl) (by kernel_rfl),
  tone (xf := c107) rfl Try.f250 (by kernel_rfl) (by kernel_rfl),
  tone (xf := c64) rfl Try.f213 (by kernel_rfl) (by kernel_rfl),
  tone (xf := c21) rfl Try.f141 (by kernel_rfl) (by kernel_rfl),
  tone (xf := c131) rfl Try.f214 (by kernel_rfl) (by kernel_rfl),
  tone (xf := c99) rfl Try.f142 (by kernel_rfl) (by kernel_rfl),
  tone (xf := c49) rfl Try.f60 (by kernel_rfl) (by kernel_rfl),
  tone (xf := c314) rfl Try.f140 (by kernel_rfl) (by kernel_rfl),
  tone (xf := c251) rfl Try.f59 (by kernel_rfl) (by kernel_rfl),
  tone (xf := c72) rfl Try.f215 (by kernel_rfl) (by kernel_rfl),
  tone (xf := c26) rfl Try.f143 (by kernel_rfl) (by kernel_rfl),
  tone (xf := c315) rfl Try.f144 (by kernel_rfl) (by kernel_rfl),
  tone (xf := c252) rfl Try.f61 (by kernel_rfl) (by kernel_rfl),
  tone (xf := c316) rfl Try.f145 (by kernel_rfl) (by kernel_rfl),
  tone (xf := c253) rfl Try.f62 (by kernel_rfl) (by kernel_rfl),
  tone (xf := c317) rfl Try.f146 (by kernel_rfl) (by kernel_rfl),
  tone (xf := c255) rfl Try.f64 (by kernel_rfl) (by kernel_rfl),
  tone (xf := c56) rfl Try.f95 (by kernel_rfl) (by kernel_rfl),
  tone (xf := c18) rfl Try.f199 (by kernel_rfl) (by kernel_rfl),
  tone (xf := c85) rfl Try.f200 (by kernel_rfl) (by kernel_rfl),
  tone (xf := c92) rfl Try.f201 (by kernel_rfl) (by kernel_rfl),
  tone (xf := c124) rfl Try.f237 (by kernel_rfl) (by kernel_rfl),
  tone (xf := c93) rfl Try.f202 (by kernel_rfl) (by kernel_rfl),
  tone (xf := c46) rfl Try.f134 (by kernel_rfl) (by kernel_rfl),
  tone (xf := c360) rfl Try.f216 (by kernel_rfl) (by kernel_rfl),
  tone (xf := c318) rfl Try.f147 (by kernel_rfl) (by kernel_rfl),
  tone (xf := c361) rfl Try.f217 (by kernel_rfl) (by kernel_rfl),
  tone (xf := c319) rfl Try.f148 (by kernel_rfl) (by kernel_rfl),
  tone (xf := c256) rfl Try.f65 (by kernel_rfl) (by kernel_rfl),
  tone (xf := c320) rfl Try.f149 (by kernel_rfl) (by kernel_rfl),
  tone (xf := c257) rfl Try.f66 (by kernel_rfl) (by kernel_rfl),
  tone (xf := c63) rfl Try.f85 (by kernel_rfl) (by kernel_rfl),
  tone (xf := c58) rfl Try.f100 (by kernel_rfl) (by kernel_rfl),
  tone (xf := c59) rfl Try.f102 (by kernel_rfl) (by kernel_rfl),
  tone (xf := c60) rfl Try.f239 (by kernel_rfl) (by kernel_rfl),
  tone (xf := c108) rfl Try.f266 (by kernel_rfl) (by kernel_rfl),
  tone (xf := c105) rfl Try.f261 (by kernel_rfl) (by kernel_rfl),
  tone (xf := c106) rfl Try.f262 (by kernel_rfl) (by kernel_rfl),
  tone (xf := c61) rfl Try.f240 (by kernel_rfl) (by kernel_rfl),
  tone (xf := c62) rfl Try.f241 (by kernel_rfl) (by kernel_rfl),
  tone (xf := c20) rfl Try.f205 (by kernel_rfl) (by kernel_rfl),
  tone (xf := c95) rfl Try.f206 (by kernel_rfl) (by kernel_rfl),
  tone (xf := c144) rfl Try.f263 (by kernel_rfl) (by kernel_rfl),
  tone (xf := c126) rfl Try.f242 (by kernel_rfl) (by kernel_rfl),
  tone (xf := c127) rfl Try.f243 (by kernel_rfl) (by kernel_rfl),
  tone (xf := c128) rfl Try.f244 (by kernel_rfl) (by kernel_rfl),
  tone (xf := c96) rfl Try.f207 (by kernel_rfl) (by kernel_rfl),
  tone (xf := c129) rfl Try.f245 (by kernel_rfl) (by kernel_rfl),
  tone (xf := c130) rfl Try.f246 (by kernel_rfl) (by kernel_rfl),
  tone (xf := c97) rfl Try.f208 (by kernel_rfl) (by kernel_rfl),
  tone (xf := c113) rfl Try.f247 (by kernel_rfl) (by kernel_rfl),
  tone (xf := c136) rfl Try.f264 (by kernel_rfl) (by kernel_rfl),
  tone (xf := c110) rfl Try.f249 (by kernel_rfl) (by kernel_rfl),
  tone (xf := c114) rfl Try.f248 (by kernel_rfl) (by kernel_rfl),
  tone (xf := c77) rfl Try.f210 (by kernel_rfl) (by kernel_rfl),
  tone (xf := c98) rfl Try.f209 (by kernel_rfl) (by kernel_rfl),
  tone (xf := c48) rfl Try.f138 (by kernel_rfl) (by kernel_rfl),
  tone (xf := c87) rfl Try.f151 (by kernel_rfl) (by kernel_rfl),
  tone (xf := c120) rfl Try.f153 (by kernel_rfl) (by kernel_rfl),
  tone (xf := c321) rfl Try.f150 (by kernel_rfl) (by kernel_rfl),
  tone (xf := c362) rfl Try.f218 (by kernel_rfl) (by kernel_rfl),
  tone (xf := c322) rfl Try.f152 (by kernel_rfl) (by kernel_rfl),
  tone (xf := c375) rfl Try.f265 (by kernel_rfl) (by kernel_rfl),
  tone (xf := c372) rfl Try.f251 (by kernel_rfl) (by kernel_rfl),
  tone (xf := c363) rfl Try.f219 (by kernel_rfl) (by kernel_rfl),
  tone (xf := c370) rfl Try.f235 (by kernel_rfl) (by kernel_rfl),
  tone (xf := c341) rfl Try.f180 (by kernel_rfl) (by kernel_rfl),
  tone (xf := c364) rfl Try.f220 (by kernel_rfl) (by kernel_rfl),
  tone (xf := c365) rfl Try.f221 (by kernel_rfl) (by kernel_rfl),
  tone (xf := c323) rfl Try.f154 (by kernel_rfl) (by kernel_rfl),
  tone (xf := c258) rfl Try.f68 (by kernel_rfl) (by kernel_rfl),
  tone (xf := c73) rfl Try.f222 (by kernel_rfl) (by kernel_rfl),
  tone (xf := c27) rfl Try.f155 (by kernel_rfl) (by kernel_rfl),
  tone (xf := c38) rfl Try.f45 (by kernel_rfl) (by kernel_rfl),
  tone (xf := c324) rfl Try.f156 (by kernel_rfl) (by kernel_rfl),
  tone (xf := c259) rfl Try.f69 (by kernel_rfl) (by kernel_rfl),
  tone (xf := c210) rfl Try.f12 (by kernel_rfl) (by kernel_rfl), trivial⟩
theorem k36 : K36 (CallsV Try.prog phi) := fun a0 a1 r h => tied_sound tied (xf := c36) rfl (F36  a0 a1 r h)
theorem k37 : K37 (CallsV Try.prog phi) := fun a0 a1 r h => tied_sound tied (xf := c37) rfl (F37  a0 a1 r h)
theorem k43 : K43 (CallsV Try.prog phi) := fun a0 r h => tied_sound tied (xf := c43) rfl (F43  a0 r h)
theorem k107 : K107 (CallsV Try.prog phi) := fun a0 a1 r h => tied_sound tied (xf := c107) rfl (F107  a0 a1 r h)
theorem k64 : K64 (CallsV Try.prog phi) := fun a0 a1 r h => tied_sound tied (xf := c64) rfl (F64 k107 a0 a1 r h)
theorem k21 : K21 (CallsV Try.prog phi) := fun a0 a1 r h => tied_sound tied (xf := c21) rfl (F21 k64 a0 a1 r h)
theorem k131 : K131 (CallsV Try.prog phi) := fun a0 a1 r h => tied_sound tied (xf := c131) rfl (F131  a0 a1 r h)
theorem k99 : K99 (CallsV Try.prog phi) := fun a0 a1 r h => tied_sound tied (xf := c99) rfl (F99 k131 a0 a1 r h)
theorem k49 : K49 (CallsV Try.prog phi) := fun a0 a1 r h => tied_sound tied (xf := c49) rfl (F49 k21 k36 k99 a0 a1 r h)
theorem k314 : K314 (CallsV Try.prog phi) := fun a0 a1 r h => tied_sound tied (xf := c314) rfl (F314  a0 a1 r h)
theorem k251 : K251 (CallsV Try.prog phi) := fun a0 a1 r h => tied_sound tied (xf := c251) rfl (F251 k314 a0 a1 r h)
theorem k72 : K72 (CallsV Try.prog phi) := fun a0 a1 r h => tied_sound tied (xf := c72) rfl (F72  a0 a1 r h)
theorem k26 : K26 (CallsV Try.prog phi) := fun a0 a1 r h => tied_sound tied (xf := c26) rfl (F26 k72 a0 a1 r h)
theorem k315 : K315 (CallsV Try.prog phi) := fun a0 a1 r h => tied_sound tied (xf := c315) rfl (F315  a0 a1 r h)
theorem k252 : K252 (CallsV Try.prog phi) := fun a0 a1 r h => tied_sound tied (xf := c252) rfl (F252 k26 k37 k315 a0 a1 r h)
theorem k316 : K316 (CallsV Try.prog phi) := fun a0 r h => tied_sound tied (xf := c316) rfl (F316  a0 r h)
theorem k253 : K253 (CallsV Try.prog phi) := fun a0 a1 r h => tied_sound tied (xf := c253) rfl (F253 k316 a0 a1 r h)
theorem k317 : K317 (CallsV Try.prog phi) := fun a0 a1 r h => tied_sound tied (xf := c317) rfl (F317  a0 a1 r h)
theorem k255 : K255 (CallsV Try.prog phi) := fun a0 a1 r h => tied_sound tied (xf := c255) rfl (F255 k317 a0 a1 r h)
theorem k56 : K56 (CallsV Try.prog phi) := fun a0 a1 a2 r h => tied_sound tied (xf := c56) rfl (F56  a0 a1 a2 r h)
theorem k18 : K18 (CallsV Try.prog phi) := fun a0 r h => tied_sound tied (xf := c18) rfl (F18 k56 a0 r h)
theorem k85 : K85 (CallsV Try.prog phi) := fun a0 a1 r h => tied_sound tied (xf := c85) rfl (F85 k56 a0 a1 r h)
theorem k92 : K92 (CallsV Try.prog phi) := fun a0 a1 r h => tied_sound tied (xf := c92) rfl (F92  a0 a1 r h)
theorem k124 : K124 (CallsV Try.prog phi) := fun a0 a1 r h => tied_sound tied (xf := c124) rfl (F124  a0 a1 r h)
theorem k93 : K93 (CallsV Try.prog phi) := fun a0 r h => tied_sound tied (xf := c93) rfl (F93 k92 k124 a0 r h)
theorem k46 : K46 (CallsV Try.prog phi) := fun a0 r h => tied_sound tied (xf := c46) rfl (F46 k18 k56 k85 k92 k93 a0 r h)
theorem k360 : K360 (CallsV Try.prog phi) := fun a0 r h => tied_sound tied (xf := c360) rfl (F360  a0 r h)
theorem k318 : K318 (CallsV Try.prog phi) := fun a0 r h => tied_sound tied (xf := c318) rfl (F318 k360 a0 r h)
theorem k361 : K361 (CallsV Try.prog phi) := fun a0 r h => tied_sound tied (xf := c361) rfl (F361  a0 r h)
theorem k319 : K319 (CallsV Try.prog phi) := fun a0 a1 r h => tied_sound tied (xf := c319) rfl (F319 k361 a0 a1 r h)
theorem k256 : K256 (CallsV Try.prog phi) := fun a0 a1 r h => tied_sound tied (xf := c256) rfl (F256 k46 k318 k319 a0 a1 r h)
theorem k320 : K320 (CallsV Try.prog phi) := fun a0 r h => tied_sound tied (xf := c320) rfl (F320  a0 r h)
theorem k257 : K257 (CallsV Try.prog phi) := fun a0 r h => tied_sound tied (xf := c257) rfl (F257 k320 a0 r h)
theorem k63 : K63 (CallsV Try.prog phi) := fun a0 a1 a2 r h => tied_sound tied (xf := c63) rfl (F63  a0 a1 a2 r h)
theorem k58 : K58 (CallsV Try.prog phi) := fun a0 r h => tied_sound tied (xf := c58) rfl (F58 k63 a0 r h)
theorem k59 : K59 (CallsV Try.prog phi) := fun a0 a1 a2 r h => tied_sound tied (xf := c59) rfl (F59 k63 a0 a1 a2 r h)
theorem k60 : K60 (CallsV Try.prog phi) := fun a0 r h => tied_sound tied (xf := c60) rfl (F60  a0 r h)
theorem k108 : K108 (CallsV Try.prog phi) := fun a0 f1 k1 is1 hs1 hf1 r h => tied_sound tied (xf := c108) rfl (F108  a0 f1 k1 is1 hs1 hf1 r h)
theorem k105 : K105 (CallsV Try.prog phi) := fun a0 f1 k1 is1 hs1 hf1 r h => tied_sound tied (xf := c105) rfl (F105 k108 a0 f1 k1 is1 hs1 hf1 r h)
theorem k106 : K106 (CallsV Try.prog phi) := fun a0 f1 k1 is1 hs1 hf1 r h => tied_sound tied (xf := c106) rfl (F106  a0 f1 k1 is1 hs1 hf1 r h)
theorem k61 : K61 (CallsV Try.prog phi) := fun a0 f1 k1 is1 hs1 hf1 r h => tied_sound tied (xf := c61) rfl (F61 k105 k106 a0 f1 k1 is1 hs1 hf1 r h)
theorem k62 : K62 (CallsV Try.prog phi) := fun a0 a1 r h => tied_sound tied (xf := c62) rfl (F62 k63 a0 a1 r h)
theorem k20 : K20 (CallsV Try.prog phi) := fun a0 r h => tied_sound tied (xf := c20) rfl (F20 k58 k59 k60 k61 k62 a0 r h)
theorem k95 : K95 (CallsV Try.prog phi) := fun a0 r h => tied_sound tied (xf := c95) rfl (F95  a0 r h)
theorem k144 : K144 (CallsV Try.prog phi) := fun a0 a1 r h => tied_sound tied (xf := c144) rfl (F144  a0 a1 r h)
theorem k126 : K126 (CallsV Try.prog phi) := fun a0 r h => tied_sound tied (xf := c126) rfl (F126 k144 a0 r h)
theorem k127 : K127 (CallsV Try.prog phi) := fun a0 f1 k1 is1 hs1 hf1 r h => tied_sound tied (xf := c127) rfl (F127  a0 f1 k1 is1 hs1 hf1 r h)
theorem k128 : K128 (CallsV Try.prog phi) := fun a0 a1 r h => tied_sound tied (xf := c128) rfl (F128  a0 a1 r h)
theorem k96 : K96 (CallsV Try.prog phi) := fun a0 r h => tied_sound tied (xf := c96) rfl (F96 k60 k95 k126 k127 k128 a0 r h)
theorem k129 : K129 (CallsV Try.prog phi) := fun a0 f1 k1 is1 hs1 hf1 r h => tied_sound tied (xf := c129) rfl (F129 k127 a0 f1 k1 is1 hs1 hf1 r h)
theorem k130 : K130 (CallsV Try.prog phi) := fun a0 f1 k1 is1 hs1 hf1 r h => tied_sound tied (xf := c130) rfl (F130  a0 f1 k1 is1 hs1 hf1 r h)
theorem k97 : K97 (CallsV Try.prog phi) := fun a0 f1 k1 is1 hs1 hf1 r h => tied_sound tied (xf := c97) rfl (F97 k129 k130 a0 f1 k1 is1 hs1 hf1 r h)
theorem k113 : K113 (CallsV Try.prog phi) := fun a0 a1 f2 k2 is2 hs2 hf2 r h => tied_sound tied (xf := c113) rfl (F113  a0 a1 f2 k2 is2 hs2 hf2 r h)
theorem k136 : K136 (CallsV Try.prog phi) := fun a0 r h => tied_sound tied (xf := c136) rfl (F136  a0 r h)
theorem k110 : K110 (CallsV Try.prog phi) := fun a0 a1 r h => tied_sound tied (xf := c110) rfl (F110 k136 a0 a1 r h)
theorem k114 : K114 (CallsV Try.prog phi) := fun a0 a1 r h => tied_sound tied (xf := c114) rfl (F114 k110 a0 a1 r h)
theorem k77 : K77 (CallsV Try.prog phi) := fun a0 a1 r h => tied_sound tied (xf := c77) rfl (F77 k113 k114 a0 a1 r h)
theorem k98 : K98 (CallsV Try.prog phi) := fun a0 a1 r h => tied_sound tied (xf := c98) rfl (F98 k77 a0 a1 r h)
theorem k48 : K48 (CallsV Try.prog phi) := fun a0 r h => tied_sound tied (xf := c48) rfl (F48 k20 k59 k95 k96 k97 k98 a0 r h)
theorem k87 : K87 (CallsV Try.prog phi) := fun a0 r h => tied_sound tied (xf := c87) rfl (F87  a0 r h)
theorem k120 : K120 (CallsV Try.prog phi) := fun a0 r h => tied_sound tied (xf := c120) rfl (F120  a0 r h)
theorem k321 : K321 (CallsV Try.prog phi) := fun a0 r h => tied_sound tied (xf := c321) rfl (F321  a0 r h)
theorem k362 : K362 (CallsV Try.prog phi) := fun a0 r h => tied_sound tied (xf := c362) rfl (F362 k63 a0 r h)
theorem k322 : K322 (CallsV Try.prog phi) := fun a0 r h => tied_sound tied (xf := c322) rfl (F322 k362 a0 r h)
theorem k375 : K375 (CallsV Try.prog phi) := fun a0 a1 r h => tied_sound tied (xf := c375) rfl (F375  a0 a1 r h)
theorem k372 : K372 (CallsV Try.prog phi) := fun a0 a1 r h => tied_sound tied (xf := c372) rfl (F372 k375 a0 a1 r h)
theorem k363 : K363 (CallsV Try.prog phi) := fun a0 a1 r h => tied_sound tied (xf := c363) rfl (F363 k372 a0 a1 r h)
theorem k370 : K370 (CallsV Try.prog phi) := fun a0 a1 r h => tied_sound tied (xf := c370) rfl (F370  a0 a1 r h)
theorem k341 : K341 (CallsV Try.prog phi) := fun a0 a1 r h => tied_sound tied (xf := c341) rfl (F341 k370 a0 a1 r h)
theorem k364 : K364 (CallsV Try.prog phi) := fun a0 r h => tied_sound tied (xf := c364) rfl (F364 k341 a0 r h)
theorem k365 : K365 (CallsV Try.prog phi) := fun a0 a1 a2 r h => tied_sound tied (xf := c365) rfl (F365 k364 a0 a1 a2 r h)
theorem k323 : K323 (CallsV Try.prog phi) := fun a0 a1 r h => tied_sound tied (xf := c323) rfl (F323 k363 k364 k365 a0 a1 r h)
theorem k258 : K258 (CallsV Try.prog phi) := fun a0 a1 r h => tied_sound tied (xf := c258) rfl (F258 k48 k87 k120 k321 k322 k323 a0 a1 r h)
theorem k73 : K73 (CallsV Try.prog phi) := fun a0 a1 r h => tied_sound tied (xf := c73) rfl (F73  a0 a1 r h)
theorem k27 : K27 (CallsV Try.prog phi) := fun a0 a1 r h => tied_sound tied (xf := c27) rfl (F27 k73 a0 a1 r h)
theorem k38 : K38 (CallsV Try.prog phi) := fun a0 a1 r h => tied_sound tied (xf := c38) rfl (F38  a0 a1 r h)
theorem k324 : K324 (CallsV Try.prog phi) := fun a0 a1 r h => tied_sound tied (xf := c324) rfl (F324  a0 a1 r h)
theorem k259 : K259 (CallsV Try.prog phi) := fun a0 a1 r h => tied_sound tied (xf := c259) rfl (F259 k27 k38 k324 a0 a1 r h)
theorem k210 : K210 (CallsV Try.prog phi) := fun a0 a1 r h => tied_sound tied (xf := c210) rfl (F210 k36 k37 k43 k49 k251 k252 k253 k255 k256 k257 k258 k259 a0 a1 r h)
theorem oktDPair : Ok (.struct [.str, .str]) eDPair okDPair := fun vs h => by
  have h : HasTys [.str, .str] vs := by simpa only [HasTy] using h
  obtain ⟨a0, r0, rfl, h0, h⟩ := h
  obtain ⟨a1, r1, rfl, h1, h⟩ := h
  obtain rfl : r1 = [] := by simpa only [HasTys] using h
  obtain ⟨x0, rfl, p0⟩ := Ok.str a0 h0
  obtain ⟨x1, rfl, p1⟩ := Ok.str a1 h1
  exact ⟨⟨x0, x1⟩, rfl, ⟨p0, p1⟩⟩
theorem own : ownKnob Try.prog.godebug = none := by kernel_rfl
theorem laid : laidOutB Try.prog = true := by kernel_rfl
theorem lifted (os : Os) (started : os.Started) (H : Type) (enc : TypeId × Value → H) :
    ReturnsInHanded {} Try.checked os 12 .any (Rows.fnExactVaultOfSpec.pre6 enc Try.prog Try.f12 Rows.fnExactVaultOfRow.domain false) (Rows.fnExactVaultOfSpec.post enc Try.prog Try.f12 false true false false) := by
  refine returnsInHanded_of_change_sized (C := Try.checked) own started (by kernel_rfl) Try.func12
    (ChangeSpec.witness6 (enc := enc) (C := Try.checked) false ⟨#[], #[.slice none 0 0, .slice none 0 0], []⟩ 8 (by kernel_rfl) (by kernel_rfl) (by kernel_rfl) (by kernel_rfl)) ?_
  intro W base args ds gs before hval0 hW hcnd hsz0 _
  have hval : ∀ (j : Nat) t v, Try.f12.params[j]? = some t → args[j]? = some v → Value.okWide Try.prog W .any base t v := hval0
  have hW' := hW
  obtain ⟨p, q, hA0, hV, rfl, hfz, hnd⟩ := hW
  have hA : DataW.TrodAll enc Try.prog W 0 (fun _ => true) true Try.f12.params.toList args.toList ds p := hA0
  rw [Try.params12] at hA hval
  obtain ⟨v0, vs0, d0, ds0, p0, q0, hargs, rfl, rfl, h0, r0⟩ := trodAll_cons hA
  obtain ⟨v1, vs1, d1, ds1, p1, q1, rfl, rfl, rfl, h1, r1⟩ := trodAll_cons r0
  obtain ⟨rfl, rfl, rfl⟩ := trodAll_nil r1
  obtain rfl : args = #[v0, v1] := by cases args; simp_all
  obtain ⟨rfl, rfl⟩ := trodVars_none hV
  obtain ⟨u0, t0, rt0⟩ := arg_V (φ := phi) (n := 12) (T := .slice 2 (.struct [.str, .str])) (by kernel_rfl) (hval 0 109 v0 rfl rfl) h0
  obtain ⟨a0, rfl, o0⟩ := Ok.arg1 (e := (eL 2 eDPair)) (fun x => .lst 2 (x.map eDPair)) (fun _ => rfl) (Ok.slice oktDPair) t0
  have hlt0 : ∀ x ∈ p0, x.block < W.heap.size := fun x hx => hW'.lt x (by simp [hx])
  obtain ⟨u1, t1, rt1⟩ := arg_V (φ := phi) (n := 12) (T := .slice 1 (.int .i64)) (by kernel_rfl) (hval 1 32 v1 rfl rfl) h1
  obtain ⟨a1, rfl, o1⟩ := Ok.arg1 (e := (eL 1 eI)) (fun x => .lst 1 (x.map eI)) (fun _ => rfl) (Ok.slice Ok.int64) t1
  have hlt1 : ∀ x ∈ p1, x.block < W.heap.size := fun x hx => hW'.lt x (by simp [hx])
  have hc := law_calls (P := Try.prog) (φ := phi) (f := 210) (fid := 12) (vals := [v0, v1]) (vs := [.lst 2 (a0.map eDPair), .lst 1 (a1.map eI)]) (w := W) rfl rfl (rts rt0 (rts rt1 rtz)) (k210 a0 a1 true (g210_law a0 a1 o0 o1))
  refine hc.mono fun e W' ⟨he, bel⟩ => ?_
  subst he
  exact ⟨_, rfl, _, _, _, [], _, [], hW', trodAll_mk1 (shut_bool Try.underlying4 _), (trodAll_cons_mk (Below.trod laid (by kernel_rfl) (of_decide_eq_true (by kernel_rfl)) h0 bel hlt0) (trodAll_cons_mk (Below.trod laid (by kernel_rfl) (of_decide_eq_true (by kernel_rfl)) h1 bel hlt1) trodAll_mk0)), rfl, bel.frame _, fun h => by cases h⟩
theorem over : Rows.fnExactVaultOfRow.holds Try.pinned (OpenSpec.ofChange Rows.fnExactVaultOfSpec) :=
  OpenClaim.holds_of_wide 12 Try.f12 rfl rfl rfl rfl rfl rfl rfl ⟨rfl, rfl, rfl, rfl, rfl⟩ rfl rfl rfl rfl rfl (by kernel_rfl) Try.func12 joined
    (of_decide_eq_true (by kernel_rfl)) (by unfold Func.isWrapper; first | (rw [if_pos (by decide +kernel)]; kernel_rfl) | (rw [if_neg (by decide +kernel)]; exact ⟨rfl, rfl⟩))
    (fun os started H enc _ => lifted os started H enc)
end Go.Proofs.Ytdmclbbhhcpjfaa.fnExactVaultOf
namespace Go.Proofs.Ytdmclbbhhcpjfaa
/-- FnExactVaultOf. -/
theorem fnExactVaultOf_holds : Rows.FnExactVaultOfSaid := fnExactVaultOf.over
end Go.Proofs.Ytdmclbbhhcpjfaa
