/- FnVaults: whatever the input, the law returns true, and its arguments read behind the call as they read before. No condition: every input. -/
import Derived.Test.YtdmclbbhhcpjfaaRows
import Derived.Test.YtdmclbbhhcpjfaaQgJ
import Derived.Test.YtdmclbbhhcpjfaaQvT
import Derived.Test.YtdmclbbhhcpjfaaQgW2
import Derived.Test.YtdmclbbhhcpjfaaQwZ
import Derived.WalkKit
import Derived.ProofKit
import Derived.OpenShut
import Derived.ShutString
import Derived.ChangeOld
import Derived.Below
import Derived.SizedLaws
import Derived.Carry
set_option linter.all false
set_option maxRecDepth 100000
namespace Go.Proofs.Ytdmclbbhhcpjfaa.fnVaults
open Go.ChangeShapes Go.WideShapes Go.ChangeAt Go.RowKit Go.Ev
def phi : Ee := [(95, 56), (157, 100), (201, 92), (229, 111), (225, 74), (255, 53), (224, 79), (226, 81), (159, 102), (252, 70), (253, 86), (227, 133), (254, 145), (223, 132), (256, 76), (257, 146), (228, 134), (158, 101), (70, 50), (74, 83), (169, 139), (86, 117), (87, 118), (193, 119), (258, 147), (230, 135), (160, 103), (71, 51), (199, 18), (200, 85), (237, 124), (202, 93), (134, 46), (135, 312), (56, 249), (85, 63), (100, 58), (102, 59), (239, 60), (266, 108), (261, 105), (262, 106), (240, 61), (241, 62), (205, 20), (206, 95), (263, 144), (242, 126), (243, 127), (244, 128), (207, 96), (245, 129), (246, 130), (208, 97), (247, 113), (264, 136), (249, 110), (248, 114), (210, 77), (209, 98), (138, 48), (211, 358), (212, 359), (139, 313), (58, 250), (151, 87), (153, 120), (150, 321), (218, 362), (152, 322), (265, 375), (251, 372), (219, 363), (235, 370), (180, 341), (220, 364), (221, 365), (154, 323), (68, 258), (72, 260), (161, 41), (162, 52), (73, 261), (13, 211)]
def tbl : List (Nat × El) := [(56, c56), (100, AJ), (92, c92), (111, oQ), (74, c74), (53, zY), (79, UQ), (81, c81), (102, BF), (70, c70), (86, c86), (133, oT), (145, IG), (132, oS), (76, c76), (146, IL), (134, GO), (101, AU), (50, UO), (83, c83), (139, HP), (117, DL), (118, DW), (119, DZ), (147, oU), (135, HB), (103, dB), (51, UP), (18, rG), (85, QB), (124, EG), (93, c93), (46, c46), (312, LQ), (249, JO), (63, c63), (58, c58), (59, c59), (60, c60), (108, oO), (105, BW), (106, oN), (61, c61), (62, c62), (20, zX), (95, c95), (144, gG), (126, EP), (127, gF), (128, FL), (96, c96), (129, FO), (130, FS), (97, c97), (113, CX), (136, HM), (110, oP), (114, DI), (77, c77), (98, c98), (48, UN), (358, NP), (359, NZ), (313, MA), (250, KB), (87, c87), (120, oR), (321, MN), (362, OE), (322, MQ), (375, PK), (372, PF), (363, OH), (370, PC), (341, NM), (364, OK), (365, OX), (323, NA), (258, KG), (260, KS), (41, c41), (52, c52), (261, LE), (211, JF)]
theorem tied : XJ Try.prog phi (Go.Ev.look tbl) := yY ⟨Cu (xf := c56) rfl Try.f95 (by kernel_rfl) (by kernel_rfl),
  Cu (xf := AJ) rfl Try.f157 (by kernel_rfl) (by kernel_rfl),
  Cu (xf := c92) rfl Try.f201 (by kernel_rfl) (by kernel_rfl),
  Cu (xf := oQ) rfl Try.f229 (by kernel_rfl) (by kernel_rfl),
  Cu (xf := c74) rfl Try.f225 (by kernel_rfl) (by kernel_rfl),
  Cu (xf := zY) rfl Try.f255 (by kernel_rfl) (by kernel_rfl),
  Cu (xf := UQ) rfl Try.f224 (by kernel_rfl) (by kernel_rfl),
  Cu (xf := c81) rfl Try.f226 (by kernel_rfl) (by kernel_rfl),
  Cu (xf := BF) rfl Try.f159 (by kernel_rfl) (by kernel_rfl),
  Cu (xf := c70) rfl Try.f252 (by kernel_rfl) (by kernel_rfl),
  Cu (xf := c86) rfl Try.f253 (by kernel_rfl) (by kernel_rfl),
  Cu (xf := oT) rfl Try.f227 (by kernel_rfl) (by kernel_rfl),
  Cu (xf := IG) rfl Try.f254 (by kernel_rfl) (by kernel_rfl),
  Cu (xf := oS) rfl Try.f223 (by kernel_rfl) (by kernel_rfl),
  Cu (xf := c76) rfl Try.f256 (by kernel_rfl) (by kernel_rfl),
  Cu (xf := IL) rfl Try.f257 (by kernel_rfl) (by kernel_rfl),
  Cu (xf := GO) rfl Try.f228 (by kernel_rfl) (by kernel_rfl),
  Cu (xf := AU) rfl Try.f158 (by kernel_rfl) (by kernel_rfl),
  Cu (xf := UO) rfl Try.f70 (by kernel_rfl) (by kernel_rfl),
  Cu (xf := c83) rfl Try.f74 (by kernel_rfl) (by kernel_rfl),
  Cu (xf := HP) rfl Try.f169 (by kernel_rfl) (by kernel_rfl),
  Cu (xf := DL) rfl Try.f86 (by kernel_rfl) (by kernel_rfl),
  Cu (xf := DW) rfl Try.f87 (by kernel_rfl) (by kernel_rfl),
  Cu (xf := DZ) rfl Try.f193 (by kernel_rfl) (by kernel_rfl),
  Cu (xf := oU) rfl Try.f258 (by kernel_rfl) (by kernel_rfl),
  Cu (xf := HB) rfl Try.f230 (by kernel_rfl) (by kernel_rfl),
  Cu (xf := dB) rfl Try.f160 (by kernel_rfl) (by kernel_rfl),
  Cu (xf := UP) rfl Try.f71 (by kernel_rfl) (by kernel_rfl),
  Cu (xf := rG) rfl Try.f199 (by kernel_rfl) (by kernel_rfl),
  Cu (xf := QB) rfl Try.f200 (by kernel_rfl) (by kernel_rfl),
  Cu (xf := EG) rfl Try.f237 (by kernel_rfl) (by kernel_rfl),
  Cu (xf := c93) rfl Try.f202 (by kernel_rfl) (by kernel_rfl),
  Cu (xf := c46) rfl Try.f134 (by kernel_rfl) (by kernel_rfl),
  Cu (xf := LQ) rfl Try.f135 (by kernel_rfl) (by kernel_rfl),
  Cu (xf := JO) rfl Try.f56 (by kernel_rfl) (by kernel_rfl),
  Cu (xf := c63) rfl Try.f85 (by kernel_rfl) (by kernel_rfl),
  Cu (xf := c58) rfl Try.f100 (by kernel_rfl) (by kernel_rfl),
  Cu (xf := c59) rfl Try.f102 (by kernel_rfl) (by kernel_rfl),
  Cu (xf := c60) rfl Try.f239 (by kernel_rfl) (by kernel_rfl),
  Cu (xf := oO) rfl Try.f266 (by kernel_rfl) (by kernel_rfl),
  Cu (xf := BW) rfl Try.f261 (by kernel_rfl) (by kernel_rfl),
  Cu (xf := oN) rfl Try.f262 (by kernel_rfl) (by kernel_rfl),
  Cu (xf := c61) rfl Try.f240 (by kernel_rfl) (by kernel_rfl),
  Cu (xf := c62) rfl Try.f241 (by kernel_rfl) (by kernel_rfl),
  Cu (xf := zX) rfl Try.f205 (by kernel_rfl) (by kernel_rfl),
  Cu (xf := c95) rfl Try.f206 (by kernel_rfl) (by kernel_rfl),
  Cu (xf := gG) rfl Try.f263 (by kernel_rfl) (by kernel_rfl),
  Cu (xf := EP) rfl Try.f242 (by kernel_rfl) (by kernel_rfl),
  Cu (xf := gF) rfl Try.f243 (by kernel_rfl) (by kernel_rfl),
  Cu (xf := FL) rfl Try.f244 (by kernel_rfl) (by kernel_rfl),
  Cu (xf := c96) rfl Try.f207 (by kernel_rfl) (by kernel_rfl),
  Cu (xf := FO) rfl Try.f245 (by kernel_rfl) (by kernel_rfl),
  Cu (xf := FS) rfl Try.f246 (by kernel_rfl) (by kernel_rfl),
  Cu (xf := c97) rfl Try.f208 (by kernel_rfl) (by kernel_rfl),
  Cu (xf := CX) rfl Try.f247 (by kernel_rfl) (by kernel_rfl),
  Cu (xf := HM) rfl Try.f264 (by kernel_rfl) (by kernel_rfl),
  Cu (xf := oP) rfl Try.f249 (by kernel_rfl) (by kernel_rfl),
  Cu (xf := DI) rfl Try.f248 (by kernel_rfl) (by kernel_rfl),
  Cu (xf := c77) rfl Try.f210 (by kernel_rfl) (by kernel_rfl),
  Cu (xf := c98) rfl Try.f209 (by kernel_rfl) (by kernel_rfl),
  Cu (xf := UN) rfl Try.f138 (by kernel_rfl) (by kernel_rfl),
  Cu (xf := NP) rfl Try.f211 (by kernel_rfl) (by kernel_rfl),
  Cu (xf := NZ) rfl Try.f212 (by kernel_rfl) (by kernel_rfl),
  Cu (xf := MA) rfl Try.f139 (by kernel_rfl) (by kernel_rfl),
  Cu (xf := KB) rfl Try.f58 (by kernel_rfl) (by kernel_rfl),
  Cu (xf := c87) rfl Try.f151 (by kernel_rfl) (by kernel_rfl),
  Cu (xf := oR) rfl Try.f153 (by kernel_rfl) (by kernel_rfl),
  Cu (xf := MN) rfl Try.f150 (by kernel_rfl) (by kernel_rfl),
  Cu (xf := OE) rfl Try.f218 (by kernel_rfl) (by kernel_rfl),
  Cu (xf := MQ) rfl Try.f152 (by kernel_rfl) (by kernel_rfl),
  Cu (xf := PK) rfl Try.f265 (by kernel_rfl) (by kernel_rfl),
  Cu (xf := PF) rfl Try.f251 (by kernel_rfl) (by kernel_rfl),
  Cu (xf := OH) rfl Try.f219 (by kernel_rfl) (by kernel_rfl),
  Cu (xf := PC) rfl Try.f235 (by kernel_rfl) (by kernel_rfl),
  Cu (xf := NM) rfl Try.f180 (by kernel_rfl) (by kernel_rfl),
  Cu (xf := OK) rfl Try.f220 (by kernel_rfl) (by kernel_rfl),
  Cu (xf := OX) rfl Try.f221 (by kernel_rfl) (by kernel_rfl),
  Cu (xf := NA) rfl Try.f154 (by kernel_rfl) (by kernel_rfl),
  Cu (xf := KG) rfl Try.f68 (by kernel_rfl) (by kernel_rfl),
  Cu (xf := KS) rfl Try.f72 (by kernel_rfl) (by kernel_rfl),
  Cu (xf := c41) rfl Try.f161 (by kernel_rfl) (by kernel_rfl),
  Cu (xf := c52) rfl Try.f162 (by kernel_rfl) (by kernel_rfl),
  Cu (xf := LE) rfl Try.f73 (by kernel_rfl) (by kernel_rfl),
  Cu (xf := JF) rfl Try.f13 (by kernel_rfl) (by kernel_rfl), trivial⟩
theorem k56 : XG (Ba Try.prog phi) := fun a0 a1 a2 r h => Ap tied (xf := c56) rfl (F56  a0 a1 a2 r h)
theorem k100 : VQ (Ba Try.prog phi) := fun a0 r h => Ap tied (xf := AJ) rfl (F100 k56 a0 r h)
theorem k92 : XH (Ba Try.prog phi) := fun a0 a1 r h => Ap tied (xf := c92) rfl (F92  a0 a1 r h)
theorem k111 : jJ (Ba Try.prog phi) := fun a0 r h => Ap tied (xf := oQ) rfl (F111  a0 r h)
theorem k74 : K74 (Ba Try.prog phi) := fun a0 a1 r h => Ap tied (xf := c74) rfl (F74 k92 k111 a0 a1 r h)
theorem k53 : K53 (Ba Try.prog phi) := fun a0 a1 r h => Ap tied (xf := zY) rfl (F53  a0 a1 r h)
theorem k79 : K79 (Ba Try.prog phi) := fun a0 a1 a2 r h => Ap tied (xf := UQ) rfl (F79 k53 k92 k111 a0 a1 a2 r h)
theorem k81 : K81 (Ba Try.prog phi) := fun a0 a1 r h => Ap tied (xf := c81) rfl (F81 k111 a0 a1 r h)
theorem k102 : jI (Ba Try.prog phi) := fun a0 r h => Ap tied (xf := BF) rfl (F102 k111 a0 r h)
theorem k70 : K70 (Ba Try.prog phi) := fun a0 a1 a2 r h => Ap tied (xf := c70) rfl (F70 k53 k111 a0 a1 a2 r h)
theorem k86 : K86 (Ba Try.prog phi) := fun a0 a1 a2 a3 r h => Ap tied (xf := c86) rfl (F86  a0 a1 a2 a3 r h)
theorem k133 : rI (Ba Try.prog phi) := fun a0 r h => Ap tied (xf := oT) rfl (F133 k102 a0 r h)
theorem k145 : AE (Ba Try.prog phi) := fun a0 a1 r h => Ap tied (xf := IG) rfl (F145  a0 a1 r h)
theorem k132 : WC (Ba Try.prog phi) := fun a0 a1 r h => Ap tied (xf := oS) rfl (F132 k70 k86 k102 k133 k145 a0 a1 r h)
theorem k76 : K76 (Ba Try.prog phi) := fun a0 a1 r h => Ap tied (xf := c76) rfl (F76 k92 a0 a1 r h)
theorem k146 : WJ (Ba Try.prog phi) := fun a0 a1 r h => Ap tied (xf := IL) rfl (F146  a0 a1 r h)
theorem k134 : WE (Ba Try.prog phi) := fun a0 a1 r h => Ap tied (xf := GO) rfl (F134 k76 k86 k102 k133 k145 k146 a0 a1 r h)
theorem k101 : VR (Ba Try.prog phi) := fun a0 a1 r h => Ap tied (xf := AU) rfl (F101 k56 k74 k79 k81 k102 k132 k133 k134 a0 a1 r h)
theorem k50 : K50 (Ba Try.prog phi) := fun a0 r h => Ap tied (xf := UO) rfl (F50 k100 k101 k102 a0 r h)
theorem k83 : K83 (Ba Try.prog phi) := fun a0 r h => Ap tied (xf := c83) rfl (F83  a0 r h)
theorem k139 : WH (Ba Try.prog phi) := fun a0 r h => Ap tied (xf := HP) rfl (F139  a0 r h)
theorem k117 : oH (Ba Try.prog phi) := fun a0 a1 r h => Ap tied (xf := DL) rfl (F117 k139 a0 a1 r h)
theorem k118 : VV (Ba Try.prog phi) := fun a0 a1 r h => Ap tied (xf := DW) rfl (F118  a0 a1 r h)
theorem k119 : VW (Ba Try.prog phi) := fun a0 a1 r h => Ap tied (xf := DZ) rfl (F119 k117 a0 a1 r h)
theorem k147 : WK (Ba Try.prog phi) := fun a0 r h => Ap tied (xf := oU) rfl (F147 k117 a0 r h)
theorem k135 : WF (Ba Try.prog phi) := fun a0 r h => Ap tied (xf := HB) rfl (F135 k117 k119 k147 a0 r h)
theorem k103 : VS (Ba Try.prog phi) := fun a0 r h => Ap tied (xf := dB) rfl (F103 k117 k118 k135 a0 r h)
theorem k51 : K51 (Ba Try.prog phi) := fun a0 r h => Ap tied (xf := UP) rfl (F51 k83 k103 a0 r h)
theorem k18 : K18 (Ba Try.prog phi) := fun a0 r h => Ap tied (xf := rG) rfl (F18 k56 a0 r h)
theorem k85 : K85 (Ba Try.prog phi) := fun a0 a1 r h => Ap tied (xf := QB) rfl (F85 k56 a0 a1 r h)
theorem k124 : VY (Ba Try.prog phi) := fun a0 a1 r h => Ap tied (xf := EG) rfl (F124  a0 a1 r h)
theorem k93 : K93 (Ba Try.prog phi) := fun a0 r h => Ap tied (xf := c93) rfl (F93 k92 k124 a0 r h)
theorem k46 : K46 (Ba Try.prog phi) := fun a0 r h => Ap tied (xf := c46) rfl (F46 k18 k56 k85 k92 k93 a0 r h)
theorem k312 : WR (Ba Try.prog phi) := fun a0 r h => Ap tied (xf := LQ) rfl (F312  a0 r h)
theorem k249 : WM (Ba Try.prog phi) := fun a0 r h => Ap tied (xf := JO) rfl (F249 k46 k312 a0 r h)
theorem k63 : K63 (Ba Try.prog phi) := fun a0 a1 a2 r h => Ap tied (xf := c63) rfl (F63  a0 a1 a2 r h)
theorem k58 : K58 (Ba Try.prog phi) := fun a0 r h => Ap tied (xf := c58) rfl (F58 k63 a0 r h)
theorem k59 : K59 (Ba Try.prog phi) := fun a0 a1 a2 r h => Ap tied (xf := c59) rfl (F59 k63 a0 a1 a2 r h)
theorem k60 : K60 (Ba Try.prog phi) := fun a0 r h => Ap tied (xf := c60) rfl (F60  a0 r h)
theorem k108 : K108 (Ba Try.prog phi) := fun a0 f1 k1 is1 hs1 hf1 r h => Ap tied (xf := oO) rfl (F108  a0 f1 k1 is1 hs1 hf1 r h)
theorem k105 : K105 (Ba Try.prog phi) := fun a0 f1 k1 is1 hs1 hf1 r h => Ap tied (xf := BW) rfl (F105 k108 a0 f1 k1 is1 hs1 hf1 r h)
theorem k106 : K106 (Ba Try.prog phi) := fun a0 f1 k1 is1 hs1 hf1 r h => Ap tied (xf := oN) rfl (F106  a0 f1 k1 is1 hs1 hf1 r h)
theorem k61 : K61 (Ba Try.prog phi) := fun a0 f1 k1 is1 hs1 hf1 r h => Ap tied (xf := c61) rfl (F61 k105 k106 a0 f1 k1 is1 hs1 hf1 r h)
theorem k62 : K62 (Ba Try.prog phi) := fun a0 a1 r h => Ap tied (xf := c62) rfl (F62 k63 a0 a1 r h)
theorem k20 : K20 (Ba Try.prog phi) := fun a0 r h => Ap tied (xf := zX) rfl (F20 k58 k59 k60 k61 k62 a0 r h)
theorem k95 : K95 (Ba Try.prog phi) := fun a0 r h => Ap tied (xf := c95) rfl (F95  a0 r h)
theorem k144 : WI (Ba Try.prog phi) := fun a0 a1 r h => Ap tied (xf := gG) rfl (F144  a0 a1 r h)
theorem k126 : VZ (Ba Try.prog phi) := fun a0 r h => Ap tied (xf := EP) rfl (F126 k144 a0 r h)
theorem k127 : WA (Ba Try.prog phi) := fun a0 f1 k1 is1 hs1 hf1 r h => Ap tied (xf := gF) rfl (F127  a0 f1 k1 is1 hs1 hf1 r h)
theorem k128 : WB (Ba Try.prog phi) := fun a0 a1 r h => Ap tied (xf := FL) rfl (F128  a0 a1 r h)
theorem k96 : K96 (Ba Try.prog phi) := fun a0 r h => Ap tied (xf := c96) rfl (F96 k60 k95 k126 k127 k128 a0 r h)
theorem k129 : K129 (Ba Try.prog phi) := fun a0 f1 k1 is1 hs1 hf1 r h => Ap tied (xf := FO) rfl (F129 k127 a0 f1 k1 is1 hs1 hf1 r h)
theorem k130 : K130 (Ba Try.prog phi) := fun a0 f1 k1 is1 hs1 hf1 r h => Ap tied (xf := FS) rfl (F130  a0 f1 k1 is1 hs1 hf1 r h)
theorem k97 : K97 (Ba Try.prog phi) := fun a0 f1 k1 is1 hs1 hf1 r h => Ap tied (xf := c97) rfl (F97 k129 k130 a0 f1 k1 is1 hs1 hf1 r h)
theorem k113 : K113 (Ba Try.prog phi) := fun a0 a1 f2 k2 is2 hs2 hf2 r h => Ap tied (xf := CX) rfl (F113  a0 a1 f2 k2 is2 hs2 hf2 r h)
theorem k136 : WG (Ba Try.prog phi) := fun a0 r h => Ap tied (xf := HM) rfl (F136  a0 r h)
theorem k110 : VT (Ba Try.prog phi) := fun a0 a1 r h => Ap tied (xf := oP) rfl (F110 k136 a0 a1 r h)
theorem k114 : VU (Ba Try.prog phi) := fun a0 a1 r h => Ap tied (xf := DI) rfl (F114 k110 a0 a1 r h)
theorem k77 : K77 (Ba Try.prog phi) := fun a0 a1 r h => Ap tied (xf := c77) rfl (F77 k113 k114 a0 a1 r h)
theorem k98 : K98 (Ba Try.prog phi) := fun a0 a1 r h => Ap tied (xf := c98) rfl (F98 k77 a0 a1 r h)
theorem k48 : K48 (Ba Try.prog phi) := fun a0 r h => Ap tied (xf := UN) rfl (F48 k20 k59 k95 k96 k97 k98 a0 r h)
theorem k358 : WX (Ba Try.prog phi) := fun a0 r h => Ap tied (xf := NP) rfl (F358  a0 r h)
theorem k359 : WY (Ba Try.prog phi) := fun a0 a1 a2 r h => Ap tied (xf := NZ) rfl (F359  a0 a1 a2 r h)
theorem k313 : WS (Ba Try.prog phi) := fun a0 r h => Ap tied (xf := MA) rfl (F313 k358 k359 a0 r h)
theorem k250 : WN (Ba Try.prog phi) := fun a0 r h => Ap tied (xf := KB) rfl (F250 k48 k313 a0 r h)
theorem k87 : K87 (Ba Try.prog phi) := fun a0 r h => Ap tied (xf := c87) rfl (F87  a0 r h)
theorem k120 : VX (Ba Try.prog phi) := fun a0 r h => Ap tied (xf := oR) rfl (F120  a0 r h)
theorem k321 : WT (Ba Try.prog phi) := fun a0 r h => Ap tied (xf := MN) rfl (F321  a0 r h)
theorem k362 : WZ (Ba Try.prog phi) := fun a0 r h => Ap tied (xf := OE) rfl (F362 k63 a0 r h)
theorem k322 : WU (Ba Try.prog phi) := fun a0 r h => Ap tied (xf := MQ) rfl (F322 k362 a0 r h)
theorem k375 : XF (Ba Try.prog phi) := fun a0 a1 r h => Ap tied (xf := PK) rfl (F375  a0 a1 r h)
theorem k372 : XE (Ba Try.prog phi) := fun a0 a1 r h => Ap tied (xf := PF) rfl (F372 k375 a0 a1 r h)
theorem k363 : XA (Ba Try.prog phi) := fun a0 a1 r h => Ap tied (xf := OH) rfl (F363 k372 a0 a1 r h)
theorem k370 : XD (Ba Try.prog phi) := fun a0 a1 r h => Ap tied (xf := PC) rfl (F370  a0 a1 r h)
theorem k341 : WW (Ba Try.prog phi) := fun a0 a1 r h => Ap tied (xf := NM) rfl (F341 k370 a0 a1 r h)
theorem k364 : AF (Ba Try.prog phi) := fun a0 r h => Ap tied (xf := OK) rfl (F364 k341 a0 r h)
theorem k365 : XC (Ba Try.prog phi) := fun a0 a1 a2 r h => Ap tied (xf := OX) rfl (F365 k364 a0 a1 a2 r h)
theorem k323 : WV (Ba Try.prog phi) := fun a0 a1 r h => Ap tied (xf := NA) rfl (F323 k363 k364 k365 a0 a1 r h)
theorem k258 : WO (Ba Try.prog phi) := fun a0 a1 r h => Ap tied (xf := KG) rfl (F258 k48 k87 k120 k321 k322 k323 a0 a1 r h)
theorem k260 : WP (Ba Try.prog phi) := fun a0 a1 r h => Ap tied (xf := KS) rfl (F260  a0 a1 r h)
theorem k41 : K41 (Ba Try.prog phi) := fun a0 a1 r h => Ap tied (xf := c41) rfl (F41  a0 a1 r h)
theorem k52 : K52 (Ba Try.prog phi) := fun a0 a1 r h => Ap tied (xf := c52) rfl (F52  a0 a1 r h)
theorem k261 : WQ (Ba Try.prog phi) := fun a0 a1 r h => Ap tied (xf := LE) rfl (F261 k41 k52 a0 a1 r h)
theorem k211 : K211 (Ba Try.prog phi) := fun a0 r h => Ap tied (xf := JF) rfl (F211 k50 k51 k249 k250 k258 k260 k261 a0 r h)

theorem own : ownKnob Try.prog.godebug = none := by kernel_rfl
theorem laid : laidOutB Try.prog = true := by kernel_rfl
theorem lifted (os : Os) (started : os.Started) (H : Type) (enc : TypeId × Value → H) :
    ReturnsInHanded {} Try.checked os 13 .any (Rows.fnVaultsSpec.pre6 enc Try.prog Try.f13 Rows.fnVaultsRow.domain false) (Rows.fnVaultsSpec.post enc Try.prog Try.f13 false true false false) := by
  refine returnsInHanded_of_change_sized (C := Try.checked) own started (by kernel_rfl) Try.func13
    (ChangeSpec.witness6 (enc := enc) (C := Try.checked) false ⟨#[], #[.slice none 0 0], []⟩ 8 (by kernel_rfl) (by kernel_rfl) (by kernel_rfl) (by kernel_rfl)) ?_
  intro W base args ds gs before hval0 hW hcnd hsz0 _
  have hval : ∀ (j : Nat) t v, Try.f13.params[j]? = some t → args[j]? = some v → Value.okWide Try.prog W .any base t v := hval0
  have hW' := hW
  obtain ⟨p, q, hA0, hV, rfl, hfz, hnd⟩ := hW
  have hA : DataW.TrodAll enc Try.prog W 0 (fun _ => true) true Try.f13.params.toList args.toList ds p := hA0
  rw [Try.params13] at hA hval
  obtain ⟨v0, vs0, d0, ds0, p0, q0, hargs, rfl, rfl, h0, r0⟩ := trodAll_cons hA
  obtain ⟨rfl, rfl, rfl⟩ := trodAll_nil r0
  obtain rfl : args = #[v0] := by cases args; simp_all
  obtain ⟨rfl, rfl⟩ := trodVars_none hV
  obtain ⟨u0, t0, rt0⟩ := arg_V (φ := phi) (n := 12) (T := .slice 1 (.int .u8)) (by kernel_rfl) (hval 0 22 v0 rfl rfl) h0
  obtain ⟨a0, rfl, o0⟩ := Ok.arg1 (e := (eL 1 Wh)) (fun x => .lst 1 (x.map Wh)) (fun _ => rfl) (Ok.slice Ok.u8) t0
  have hlt0 : ∀ x ∈ p0, x.block < W.heap.size := fun x hx => hW'.lt x (by simp [hx])
  have hc := pW (P := Try.prog) (φ := phi) (f := 211) (fid := 13) (vals := [v0]) (vs := [.lst 1 (a0.map Wh)]) (w := W) rfl rfl (rts rt0 rtz) (k211 a0 true (wH a0 o0))
  refine hc.mono fun e W' ⟨he, bel⟩ => ?_
  subst he
  exact ⟨_, rfl, _, _, _, [], _, [], hW', trodAll_mk1 (shut_bool Try.underlying4 _), (trodAll_cons_mk (Below.trod laid (by kernel_rfl) (of_decide_eq_true (by kernel_rfl)) h0 bel hlt0) trodAll_mk0), rfl, bel.frame _, fun h => by cases h⟩
theorem over : Rows.fnVaultsRow.holds Try.pinned (OpenSpec.ofChange Rows.fnVaultsSpec) :=
  OpenClaim.holds_of_wide 13 Try.f13 rfl rfl rfl rfl rfl rfl rfl ⟨rfl, rfl, rfl, rfl, rfl⟩ rfl rfl rfl rfl rfl (by kernel_rfl) Try.func13 joined
    (of_decide_eq_true (by kernel_rfl)) (by unfold Func.isWrapper; first | (rw [if_pos (by decide +kernel)]; kernel_rfl) | (rw [if_neg (by decide +kernel)]; exact ⟨rfl, rfl⟩))
    (fun os started H enc _ => lifted os started H enc)
end Go.Proofs.Ytdmclbbhhcpjfaa.fnVaults
namespace Go.Proofs.Ytdmclbbhhcpjfaa
/-- FnVaults. -/
theorem fnVaults_holds : Rows.FnVaultsSaid := fnVaults.over
end Go.Proofs.Ytdmclbbhhcpjfaa
