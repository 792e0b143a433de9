/- FnExactVaultPairs: whatever the input, the law returns true, and its arguments read behind the call as they read before. No condition: every input. -/
import Derived.Test.YtdmclbbhhcpjfaaRows
import Derived.Test.YtdmclbbhhcpjfaaQgJ
import Derived.Test.YtdmclbbhhcpjfaaQvT
import Derived.Test.YtdmclbbhhcpjfaaQgW3
import Derived.Test.YtdmclbbhhcpjfaaQwZ
import Derived.WalkKit
import Derived.ProofKit
import Derived.OpenShut
import Derived.ShutString
import Derived.ChangeOld
import Derived.Below
import Derived.SizedLaws
import Derived.Carry
set_option linter.all false
set_option maxRecDepth 100000
namespace Go.Proofs.Ytdmclbbhhcpjfaa.fnExactVaultPairs
open Go.ChangeShapes Go.WideShapes Go.ChangeAt Go.RowKit Go.Ev
def phi : FMap := [(198, 55), (131, 17), (132, 90), (133, 91), (55, 45), (238, 104), (203, 57), (136, 19), (67, 43), (204, 125), (137, 94), (57, 47), (250, 107), (213, 64), (141, 21), (42, 36), (214, 131), (142, 99), (60, 49), (95, 56), (199, 18), (200, 85), (201, 92), (237, 124), (202, 93), (134, 46), (135, 312), (56, 249), (85, 63), (100, 58), (102, 59), (239, 60), (266, 108), (261, 105), (262, 106), (240, 61), (241, 62), (205, 20), (206, 95), (263, 144), (242, 126), (243, 127), (244, 128), (207, 96), (245, 129), (246, 130), (208, 97), (247, 113), (264, 136), (249, 110), (248, 114), (210, 77), (209, 98), (138, 48), (211, 358), (212, 359), (139, 313), (58, 250), (140, 314), (59, 251), (215, 72), (143, 26), (44, 37), (144, 315), (61, 252), (145, 316), (62, 253), (63, 254), (11, 209)]
def tbl : List (Nat × XFn) := [(55, c55), (17, c17), (90, c90), (91, c91), (45, c45), (104, c104), (57, c57), (19, c19), (43, c43), (125, c125), (94, c94), (47, c47), (107, c107), (64, c64), (21, c21), (36, c36), (131, c131), (99, c99), (49, c49), (56, c56), (18, c18), (85, c85), (92, c92), (124, c124), (93, c93), (46, c46), (312, c312), (249, c249), (63, c63), (58, c58), (59, c59), (60, c60), (108, c108), (105, c105), (106, c106), (61, c61), (62, c62), (20, c20), (95, c95), (144, c144), (126, c126), (127, c127), (128, c128), (96, c96), (129, c129), (130, c130), (97, c97), (113, c113), (136, c136), (110, c110), (114, c114), (77, c77), (98, c98), (48, c48), (358, c358), (359, c359), (313, c313), (250, c250), (314, c314), (251, c251), (72, c72), (26, c26), (37, c37), (315, c315), (252, c252), (316, c316), (253, c253), (254, c254), (209, c209)]
theorem tied : Tied Try.prog phi (Go.Ev.look tbl) := tied_all ⟨tone (xf := c55) rfl Try.f198 (by kernel_rfl) (by kernel_rfl),
  tone (xf := c17) rfl Try.f131 (by kernel_rfl) (by kernel_rfl),
  tone (xf := c90) rfl Try.f132 (by kernel_rfl) (by kernel_rfl),
  tone (xf := c91) rfl Try.f133 (by kernel_rfl) (by kernel_rfl),
  tone (xf := c45) rfl Try.f55 (by kernel_rfl) (by kernel_rfl),
  tone (xf := c104) rfl Try.f238 (by kernel_rfl) (by kernel_rfl),
  tone (xf := c57) rfl Try.f203 (by kernel_rfl) (by kernel_rfl),
  tone (xf := c19) rfl Try.f136 (by kernel_rfl) (by kernel_rfl),
  tone (xf := c43) rfl Try.f67 (by kernel_rfl) (by kernel_rfl),
  tone (xf := c125) rfl Try.f204 (by kernel_rfl) (by kernel_rfl),
  tone (xf := c94) rfl Try.f137 (by kernel_rfl) (by kernel_rfl),
  tone (xf := c47) rfl Try.f57 (by kernel_rfl) (by kernel_rfl),
  tone (xf := c107) rfl Try.f250 (by kernel_rfl) (by kernel_rfl),
  tone (xf := c64) rfl Try.f213 (by kernel_rfl) (by kernel_rfl),
  tone (xf := c21) rfl Try.f141 (by kernel_rfl) (by kernel_rfl),
  tone (xf := c36) rfl Try.f42 (by kernel_rfl) (by kernel_rfl),
  tone (xf := c131) rfl Try.f214 (by kernel_rfl) (by kernel_rfl),
  tone (xf := c99) rfl Try.f142 (by kernel_rfl) (by kernel_rfl),
  tone (xf := c49) rfl Try.f60 (by kernel_rfl) (by kernel_rfl),
  tone (xf := c56) rfl Try.f95 (by kernel_rfl) (by kernel_rfl),
  tone (xf := c18) rfl Try.f199 (by kernel_rfl) (by kernel_rfl),
  tone (xf := c85) rfl Try.f200 (by kernel_rfl) (by kernel_rfl),
  tone (xf := c92) rfl Try.f201 (by kernel_rfl) (by kernel_rfl),
  tone (xf := c124) rfl Try.f237 (by kernel_rfl) (by kernel_rfl),
  tone (xf := c93) rfl Try.f202 (by kernel_rfl) (by kernel_rfl),
  tone (xf := c46) rfl Try.f134 (by kernel_rfl) (by kernel_rfl),
  tone (xf := c312) rfl Try.f135 (by kernel_rfl) (by kernel_rfl),
  tone (xf := c249) rfl Try.f56 (by kernel_rfl) (by kernel_rfl),
  tone (xf := c63) rfl Try.f85 (by kernel_rfl) (by kernel_rfl),
  tone (xf := c58) rfl Try.f100 (by kernel_rfl) (by kernel_rfl),
  tone (xf := c59) rfl Try.f102 (by kernel_rfl) (by kernel_rfl),
  tone (xf := c60) rfl Try.f239 (by kernel_rfl) (by kernel_rfl),
  tone (xf := c108) rfl Try.f266 (by kernel_rfl) (by kernel_rfl),
  tone (xf := c105) rfl Try.f261 (by kernel_rfl) (by kernel_rfl),
  tone (xf := c106) rfl Try.f262 (by kernel_rfl) (by kernel_rfl),
  tone (xf := c61) rfl Try.f240 (by kernel_rfl) (by kernel_rfl),
  tone (xf := c62) rfl Try.f241 (by kernel_rfl) (by kernel_rfl),
  tone (xf := c20) rfl Try.f205 (by kernel_rfl) (by kernel_rfl),
  tone (xf := c95) rfl Try.f206 (by kernel_rfl) (by kernel_rfl),
  tone (xf := c144) rfl Try.f263 (by kernel_rfl) (by kernel_rfl),
  tone (xf := c126) rfl Try.f242 (by kernel_rfl) (by kernel_rfl),
  tone (xf := c127) rfl Try.f243 (by kernel_rfl) (by kernel_rfl),
  tone (xf := c128) rfl Try.f244 (by kernel_rfl) (by kernel_rfl),
  tone (xf := c96) rfl Try.f207 (by kernel_rfl) (by kernel_rfl),
  tone (xf := c129) rfl Try.f245 (by kernel_rfl) (by kernel_rfl),
  tone (xf := c130) rfl Try.f246 (by kernel_rfl) (by kernel_rfl),
  tone (xf := c97) rfl Try.f208 (by kernel_rfl) (by kernel_rfl),
  tone (xf := c113) rfl Try.f247 (by kernel_rfl) (by kernel_rfl),
  tone (xf := c136) rfl Try.f264 (by kernel_rfl) (by kernel_rfl),
  tone (xf := c110) rfl Try.f249 (by kernel_rfl) (by kernel_rfl),
  tone (xf := c114) rfl Try.f248 (by kernel_rfl) (by kernel_rfl),
  tone (xf := c77) rfl Try.f210 (by kernel_rfl) (by kernel_rfl),
  tone (xf := c98) rfl Try.f209 (by kernel_rfl) (by kernel_rfl),
  tone (xf := c48) rfl Try.f138 (by kernel_rfl) (by kernel_rfl),
  tone (xf := c358) rfl Try.f211 (by kernel_rfl) (by kernel_rfl),
  tone (xf := c359) rfl Try.f212 (by kernel_rfl) (by kernel_rfl),
  tone (xf := c313) rfl Try.f139 (by kernel_rfl) (by kernel_rfl),
  tone (xf := c250) rfl Try.f58 (by kernel_rfl) (by kernel_rfl),
  tone (xf := c314) rfl Try.f140 (by kernel_rfl) (by kernel_rfl),
  tone (xf := c251) rfl Try.f59 (by kernel_rfl) (by kernel_rfl),
  tone (xf := c72) rfl Try.f215 (by kernel_rfl) (by kernel_rfl),
  tone (xf := c26) rfl Try.f143 (by kernel_rfl) (by kernel_rfl),
  tone (xf := c37) rfl Try.f44 (by kernel_rfl) (by kernel_rfl),
  tone (xf := c315) rfl Try.f144 (by kernel_rfl) (by kernel_rfl),
  tone (xf := c252) rfl Try.f61 (by kernel_rfl) (by kernel_rfl),
  tone (xf := c316) rfl Try.f145 (by kernel_rfl) (by kernel_rfl),
  tone (xf := c253) rfl Try.f62 (by kernel_rfl) (by kernel_rfl),
  tone (xf := c254) rfl Try.f63 (by kernel_rfl) (by kernel_rfl),
  tone (xf := c209) rfl Try.f11 (by kernel_rfl) (by kernel_rfl), trivial⟩
theorem k55 : K55 (CallsV Try.prog phi) := fun a0 a1 r h => tied_sound tied (xf := c55) rfl (F55  a0 a1 r h)
theorem k17 : K17 (CallsV Try.prog phi) := fun a0 a1 r h => tied_sound tied (xf := c17) rfl (F17 k55 a0 a1 r h)
theorem k90 : K90 (CallsV Try.prog phi) := fun a0 a1 r h => tied_sound tied (xf := c90) rfl (F90  a0 a1 r h)
theorem k91 : K91 (CallsV Try.prog phi) := fun a0 a1 r h => tied_sound tied (xf := c91) rfl (F91  a0 a1 r h)
theorem k45 : K45 (CallsV Try.prog phi) := fun a0 a1 r h => tied_sound tied (xf := c45) rfl (F45 k17 k90 k91 a0 a1 r h)
theorem k104 : K104 (CallsV Try.prog phi) := fun a0 r h => tied_sound tied (xf := c104) rfl (F104  a0 r h)
theorem k57 : K57 (CallsV Try.prog phi) := fun a0 r h => tied_sound tied (xf := c57) rfl (F57 k104 a0 r h)
theorem k19 : K19 (CallsV Try.prog phi) := fun a0 r h => tied_sound tied (xf := c19) rfl (F19 k57 a0 r h)
theorem k43 : K43 (CallsV Try.prog phi) := fun a0 r h => tied_sound tied (xf := c43) rfl (F43  a0 r h)
theorem k125 : K125 (CallsV Try.prog phi) := fun a0 r h => tied_sound tied (xf := c125) rfl (F125  a0 r h)
theorem k94 : K94 (CallsV Try.prog phi) := fun a0 r h => tied_sound tied (xf := c94) rfl (F94 k125 a0 r h)
theorem k47 : K47 (CallsV Try.prog phi) := fun a0 r h => tied_sound tied (xf := c47) rfl (F47 k19 k43 k94 a0 r h)
theorem k107 : K107 (CallsV Try.prog phi) := fun a0 a1 r h => tied_sound tied (xf := c107) rfl (F107  a0 a1 r h)
theorem k64 : K64 (CallsV Try.prog phi) := fun a0 a1 r h => tied_sound tied (xf := c64) rfl (F64 k107 a0 a1 r h)
theorem k21 : K21 (CallsV Try.prog phi) := fun a0 a1 r h => tied_sound tied (xf := c21) rfl (F21 k64 a0 a1 r h)
theorem k36 : K36 (CallsV Try.prog phi) := fun a0 a1 r h => tied_sound tied (xf := c36) rfl (F36  a0 a1 r h)
theorem k131 : K131 (CallsV Try.prog phi) := fun a0 a1 r h => tied_sound tied (xf := c131) rfl (F131  a0 a1 r h)
theorem k99 : K99 (CallsV Try.prog phi) := fun a0 a1 r h => tied_sound tied (xf := c99) rfl (F99 k131 a0 a1 r h)
theorem k49 : K49 (CallsV Try.prog phi) := fun a0 a1 r h => tied_sound tied (xf := c49) rfl (F49 k21 k36 k99 a0 a1 r h)
theorem k56 : K56 (CallsV Try.prog phi) := fun a0 a1 a2 r h => tied_sound tied (xf := c56) rfl (F56  a0 a1 a2 r h)
theorem k18 : K18 (CallsV Try.prog phi) := fun a0 r h => tied_sound tied (xf := c18) rfl (F18 k56 a0 r h)
theorem k85 : K85 (CallsV Try.prog phi) := fun a0 a1 r h => tied_sound tied (xf := c85) rfl (F85 k56 a0 a1 r h)
theorem k92 : K92 (CallsV Try.prog phi) := fun a0 a1 r h => tied_sound tied (xf := c92) rfl (F92  a0 a1 r h)
theorem k124 : K124 (CallsV Try.prog phi) := fun a0 a1 r h => tied_sound tied (xf := c124) rfl (F124  a0 a1 r h)
theorem k93 : K93 (CallsV Try.prog phi) := fun a0 r h => tied_sound tied (xf := c93) rfl (F93 k92 k124 a0 r h)
theorem k46 : K46 (CallsV Try.prog phi) := fun a0 r h => tied_sound tied (xf := c46) rfl (F46 k18 k56 k85 k92 k93 a0 r h)
theorem k312 : K312 (CallsV Try.prog phi) := fun a0 r h => tied_sound tied (xf := c312) rfl (F312  a0 r h)
theorem k249 : K249 (CallsV Try.prog phi) := fun a0 r h => tied_sound tied (xf := c249) rfl (F249 k46 k312 a0 r h)
theorem k63 : K63 (CallsV Try.prog phi) := fun a0 a1 a2 r h => tied_sound tied (xf := c63) rfl (F63  a0 a1 a2 r h)
theorem k58 : K58 (CallsV Try.prog phi) := fun a0 r h => tied_sound tied (xf := c58) rfl (F58 k63 a0 r h)
theorem k59 : K59 (CallsV Try.prog phi) := fun a0 a1 a2 r h => tied_sound tied (xf := c59) rfl (F59 k63 a0 a1 a2 r h)
theorem k60 : K60 (CallsV Try.prog phi) := fun a0 r h => tied_sound tied (xf := c60) rfl (F60  a0 r h)
theorem k108 : K108 (CallsV Try.prog phi) := fun a0 f1 k1 is1 hs1 hf1 r h => tied_sound tied (xf := c108) rfl (F108  a0 f1 k1 is1 hs1 hf1 r h)
theorem k105 : K105 (CallsV Try.prog phi) := fun a0 f1 k1 is1 hs1 hf1 r h => tied_sound tied (xf := c105) rfl (F105 k108 a0 f1 k1 is1 hs1 hf1 r h)
theorem k106 : K106 (CallsV Try.prog phi) := fun a0 f1 k1 is1 hs1 hf1 r h => tied_sound tied (xf := c106) rfl (F106  a0 f1 k1 is1 hs1 hf1 r h)
theorem k61 : K61 (CallsV Try.prog phi) := fun a0 f1 k1 is1 hs1 hf1 r h => tied_sound tied (xf := c61) rfl (F61 k105 k106 a0 f1 k1 is1 hs1 hf1 r h)
theorem k62 : K62 (CallsV Try.prog phi) := fun a0 a1 r h => tied_sound tied (xf := c62) rfl (F62 k63 a0 a1 r h)
theorem k20 : K20 (CallsV Try.prog phi) := fun a0 r h => tied_sound tied (xf := c20) rfl (F20 k58 k59 k60 k61 k62 a0 r h)
theorem k95 : K95 (CallsV Try.prog phi) := fun a0 r h => tied_sound tied (xf := c95) rfl (F95  a0 r h)
theorem k144 : K144 (CallsV Try.prog phi) := fun a0 a1 r h => tied_sound tied (xf := c144) rfl (F144  a0 a1 r h)
theorem k126 : K126 (CallsV Try.prog phi) := fun a0 r h => tied_sound tied (xf := c126) rfl (F126 k144 a0 r h)
theorem k127 : K127 (CallsV Try.prog phi) := fun a0 f1 k1 is1 hs1 hf1 r h => tied_sound tied (xf := c127) rfl (F127  a0 f1 k1 is1 hs1 hf1 r h)
theorem k128 : K128 (CallsV Try.prog phi) := fun a0 a1 r h => tied_sound tied (xf := c128) rfl (F128  a0 a1 r h)
theorem k96 : K96 (CallsV Try.prog phi) := fun a0 r h => tied_sound tied (xf := c96) rfl (F96 k60 k95 k126 k127 k128 a0 r h)
theorem k129 : K129 (CallsV Try.prog phi) := fun a0 f1 k1 is1 hs1 hf1 r h => tied_sound tied (xf := c129) rfl (F129 k127 a0 f1 k1 is1 hs1 hf1 r h)
theorem k130 : K130 (CallsV Try.prog phi) := fun a0 f1 k1 is1 hs1 hf1 r h => tied_sound tied (xf := c130) rfl (F130  a0 f1 k1 is1 hs1 hf1 r h)
theorem k97 : K97 (CallsV Try.prog phi) := fun a0 f1 k1 is1 hs1 hf1 r h => tied_sound tied (xf := c97) rfl (F97 k129 k130 a0 f1 k1 is1 hs1 hf1 r h)
theorem k113 : K113 (CallsV Try.prog phi) := fun a0 a1 f2 k2 is2 hs2 hf2 r h => tied_sound tied (xf := c113) rfl (F113  a0 a1 f2 k2 is2 hs2 hf2 r h)
theorem k136 : K136 (CallsV Try.prog phi) := fun a0 r h => tied_sound tied (xf := c136) rfl (F136  a0 r h)
theorem k110 : K110 (CallsV Try.prog phi) := fun a0 a1 r h => tied_sound tied (xf := c110) rfl (F110 k136 a0 a1 r h)
theorem k114 : K114 (CallsV Try.prog phi) := fun a0 a1 r h => tied_sound tied (xf := c114) rfl (F114 k110 a0 a1 r h)
theorem k77 : K77 (CallsV Try.prog phi) := fun a0 a1 r h => tied_sound tied (xf := c77) rfl (F77 k113 k114 a0 a1 r h)
theorem k98 : K98 (CallsV Try.prog phi) := fun a0 a1 r h => tied_sound tied (xf := c98) rfl (F98 k77 a0 a1 r h)
theorem k48 : K48 (CallsV Try.prog phi) := fun a0 r h => tied_sound tied (xf := c48) rfl (F48 k20 k59 k95 k96 k97 k98 a0 r h)
theorem k358 : K358 (CallsV Try.prog phi) := fun a0 r h => tied_sound tied (xf := c358) rfl (F358  a0 r h)
theorem k359 : K359 (CallsV Try.prog phi) := fun a0 a1 a2 r h => tied_sound tied (xf := c359) rfl (F359  a0 a1 a2 r h)
theorem k313 : K313 (CallsV Try.prog phi) := fun a0 r h => tied_sound tied (xf := c313) rfl (F313 k358 k359 a0 r h)
theorem k250 : K250 (CallsV Try.prog phi) := fun a0 r h => tied_sound tied (xf := c250) rfl (F250 k48 k313 a0 r h)
theorem k314 : K314 (CallsV Try.prog phi) := fun a0 a1 r h => tied_sound tied (xf := c314) rfl (F314  a0 a1 r h)
theorem k251 : K251 (CallsV Try.prog phi) := fun a0 a1 r h => tied_sound tied (xf := c251) rfl (F251 k314 a0 a1 r h)
theorem k72 : K72 (CallsV Try.prog phi) := fun a0 a1 r h => tied_sound tied (xf := c72) rfl (F72  a0 a1 r h)
theorem k26 : K26 (CallsV Try.prog phi) := fun a0 a1 r h => tied_sound tied (xf := c26) rfl (F26 k72 a0 a1 r h)
theorem k37 : K37 (CallsV Try.prog phi) := fun a0 a1 r h => tied_sound tied (xf := c37) rfl (F37  a0 a1 r h)
theorem k315 : K315 (CallsV Try.prog phi) := fun a0 a1 r h => tied_sound tied (xf := c315) rfl (F315  a0 a1 r h)
theorem k252 : K252 (CallsV Try.prog phi) := fun a0 a1 r h => tied_sound tied (xf := c252) rfl (F252 k26 k37 k315 a0 a1 r h)
theorem k316 : K316 (CallsV Try.prog phi) := fun a0 r h => tied_sound tied (xf := c316) rfl (F316  a0 r h)
theorem k253 : K253 (CallsV Try.prog phi) := fun a0 a1 r h => tied_sound tied (xf := c253) rfl (F253 k316 a0 a1 r h)
theorem k254 : K254 (CallsV Try.prog phi) := fun a0 a1 r h => tied_sound tied (xf := c254) rfl (F254 k316 a0 a1 r h)
theorem k209 : K209 (CallsV Try.prog phi) := fun a0 r h => tied_sound tied (xf := c209) rfl (F209 k45 k47 k49 k249 k250 k251 k252 k253 k254 a0 r h)
theorem oktDLease : Ok (.struct [.int .i64, .int .i64, .int .i64, .bool]) eDLease okDLease := fun vs h => by
  have h : HasTys [.int .i64, .int .i64, .int .i64, .bool] vs := by simpa only [HasTy] using h
  obtain ⟨a0, r0, rfl, h0, h⟩ := h
  obtain ⟨a1, r1, rfl, h1, h⟩ := h
  obtain ⟨a2, r2, rfl, h2, h⟩ := h
  obtain ⟨a3, r3, rfl, h3, h⟩ := h
  obtain rfl : r3 = [] := by simpa only [HasTys] using h
  obtain ⟨x0, rfl, p0⟩ := Ok.int64 a0 h0
  obtain ⟨x1, rfl, p1⟩ := Ok.int64 a1 h1
  obtain ⟨x2, rfl, p2⟩ := Ok.int64 a2 h2
  obtain ⟨x3, rfl, p3⟩ := Ok.bool a3 h3
  exact ⟨⟨x0, x1, x2, x3⟩, rfl, ⟨p0, p1, p2, p3⟩⟩
theorem oktDTable : Ok (.struct [.int .i64, .int .i64, .slice 4 (.struct [.int .i64, .int .i64, .int .i64, .bool])]) eDTable okDTable := fun vs h => by
  have h : HasTys [.int .i64, .int .i64, .slice 4 (.struct [.int .i64, .int .i64, .int .i64, .bool])] vs := by simpa only [HasTy] using h
  obtain ⟨a0, r0, rfl, h0, h⟩ := h
  obtain ⟨a1, r1, rfl, h1, h⟩ := h
  obtain ⟨a2, r2, rfl, h2, h⟩ := h
  obtain rfl : r2 = [] := by simpa only [HasTys] using h
  obtain ⟨x0, rfl, p0⟩ := Ok.int64 a0 h0
  obtain ⟨x1, rfl, p1⟩ := Ok.int64 a1 h1
  obtain ⟨x2, rfl, p2⟩ := (Ok.slice oktDLease) a2 h2
  exact ⟨⟨x0, x1, x2⟩, rfl, ⟨p0, p1, p2⟩⟩
theorem oktDIntent : Ok (.struct [.int .i64, .bool]) eDIntent okDIntent := fun vs h => by
  have h : HasTys [.int .i64, .bool] vs := by simpa only [HasTy] using h
  obtain ⟨a0, r0, rfl, h0, h⟩ := h
  obtain ⟨a1, r1, rfl, h1, h⟩ := h
  obtain rfl : r1 = [] := by simpa only [HasTys] using h
  obtain ⟨x0, rfl, p0⟩ := Ok.int64 a0 h0
  obtain ⟨x1, rfl, p1⟩ := Ok.bool a1 h1
  exact ⟨⟨x0, x1⟩, rfl, ⟨p0, p1⟩⟩
theorem oktDVault : Ok (.struct [.struct [.int .i64, .int .i64, .slice 4 (.struct [.int .i64, .int .i64, .int .i64, .bool])], .slice 2 (.struct [.int .i64, .bool]), .slice 1 (.int .i64), .bool]) eDVault okDVault := fun vs h => by
  have h : HasTys [.struct [.int .i64, .int .i64, .slice 4 (.struct [.int .i64, .int .i64, .int .i64, .bool])], .slice 2 (.struct [.int .i64, .bool]), .slice 1 (.int .i64), .bool] vs := by simpa only [HasTy] using h
  obtain ⟨a0, r0, rfl, h0, h⟩ := h
  obtain ⟨a1, r1, rfl, h1, h⟩ := h
  obtain ⟨a2, r2, rfl, h2, h⟩ := h
  obtain ⟨a3, r3, rfl, h3, h⟩ := h
  obtain rfl : r3 = [] := by simpa only [HasTys] using h
  obtain ⟨x0, rfl, p0⟩ := oktDTable a0 h0
  obtain ⟨x1, rfl, p1⟩ := (Ok.slice oktDIntent) a1 h1
  obtain ⟨x2, rfl, p2⟩ := (Ok.slice Ok.int64) a2 h2
  obtain ⟨x3, rfl, p3⟩ := Ok.bool a3 h3
  exact ⟨⟨x0, x1, x2, x3⟩, rfl, ⟨p0, p1, p2, p3⟩⟩
theorem own : ownKnob Try.prog.godebug = none := by kernel_rfl
theorem laid : laidOutB Try.prog = true := by kernel_rfl
theorem lifted (os : Os) (started : os.Started) (H : Type) (enc : TypeId × Value → H) :
    ReturnsInHanded {} Try.checked os 11 .any (Rows.fnExactVaultPairsSpec.pre6 enc Try.prog Try.f11 Rows.fnExactVaultPairsRow.domain false) (Rows.fnExactVaultPairsSpec.post enc Try.prog Try.f11 false true false false) := by
  refine returnsInHanded_of_change_sized (C := Try.checked) own started (by kernel_rfl) Try.func11
    (ChangeSpec.witness6 (enc := enc) (C := Try.checked) false ⟨#[], #[.agg #[.int .i64 0, .int .i64 0, .slice none 0 0, .slice none 0 0, .slice none 0 0, .bool false]], []⟩ 8 (by kernel_rfl) (by kernel_rfl) (by kernel_rfl) (by kernel_rfl)) ?_
  intro W base args ds gs before hval0 hW hcnd hsz0 _
  have hval : ∀ (j : Nat) t v, Try.f11.params[j]? = some t → args[j]? = some v → Value.okWide Try.prog W .any base t v := hval0
  have hW' := hW
  obtain ⟨p, q, hA0, hV, rfl, hfz, hnd⟩ := hW
  have hA : DataW.TrodAll enc Try.prog W 0 (fun _ => true) true Try.f11.params.toList args.toList ds p := hA0
  rw [Try.params11] at hA hval
  obtain ⟨v0, vs0, d0, ds0, p0, q0, hargs, rfl, rfl, h0, r0⟩ := trodAll_cons hA
  obtain ⟨rfl, rfl, rfl⟩ := trodAll_nil r0
  obtain rfl : args = #[v0] := by cases args; simp_all
  obtain ⟨rfl, rfl⟩ := trodVars_none hV
  obtain ⟨u0, t0, rt0⟩ := arg_V (φ := phi) (n := 12) (T := .struct [.struct [.int .i64, .int .i64, .slice 4 (.struct [.int .i64, .int .i64, .int .i64, .bool])], .slice 2 (.struct [.int .i64, .bool]), .slice 1 (.int .i64), .bool]) (by kernel_rfl) (hval 0 92 v0 rfl rfl) h0
  obtain ⟨a0, rfl, o0⟩ := oktDVault.argS t0
  have hlt0 : ∀ x ∈ p0, x.block < W.heap.size := fun x hx => hW'.lt x (by simp [hx])
  have hc := law_calls (P := Try.prog) (φ := phi) (f := 209) (fid := 11) (vals := [v0]) (vs := [.agg [.int .i64 a0.table.clock, .int .i64 a0.table.next, .lst 4 (a0.table.list_.map eDLease), .lst 2 (a0.intents.map eDIntent), .lst 1 (a0.accounts.map eI), .bool a0.sealed]]) (w := W) rfl rfl (rts rt0 rtz) (k209 a0 true (g209_law a0 o0))
  refine hc.mono fun e W' ⟨he, bel⟩ => ?_
  subst he
  exact ⟨_, rfl, _, _, _, [], _, [], hW', trodAll_mk1 (shut_bool Try.underlying4 _), (trodAll_cons_mk (Below.trod laid (by kernel_rfl) (of_decide_eq_true (by kernel_rfl)) h0 bel hlt0) trodAll_mk0), rfl, bel.frame _, fun h => by cases h⟩
theorem over : Rows.fnExactVaultPairsRow.holds Try.pinned (OpenSpec.ofChange Rows.fnExactVaultPairsSpec) :=
  OpenClaim.holds_of_wide 11 Try.f11 rfl rfl rfl rfl rfl rfl rfl ⟨rfl, rfl, rfl, rfl, rfl⟩ rfl rfl rfl rfl rfl (by kernel_rfl) Try.func11 joined
    (of_decide_eq_true (by kernel_rfl)) (by unfold Func.isWrapper; first | (rw [if_pos (by decide +kernel)]; kernel_rfl) | (rw [if_neg (by decide +kernel)]; exact ⟨rfl, rfl⟩))
    (fun os started H enc _ => lifted os started H enc)
end Go.Proofs.Ytdmclbbhhcpjfaa.fnExactVaultPairs
namespace Go.Proofs.Ytdmclbbhhcpjfaa
/-- FnExactVaultPairs. -/
theorem fnExactVaultPairs_holds : Rows.FnExactVaultPairsSaid := fnExactVaultPairs.over
end Go.Proofs.Ytdmclbbhhcpjfaa
