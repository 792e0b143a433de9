/- FnExactRunVault: whatever the input, the law returns true, and its arguments read behind the call as they read before. No condition: every input. -/
import Derived.Test.YtikhmmocfceliaaGreatRows
import Derived.Test.YtikhmmocfceliaaGreatQgJ
import Derived.Test.YtikhmmocfceliaaGreatQvT
import Derived.Test.YtikhmmocfceliaaGreatQgW3
import Derived.Test.YtikhmmocfceliaaGreatQwZ
import Derived.WalkKit
import Derived.ProofKit
import Derived.OpenShut
import Derived.ShutString
import Derived.ChangeOld
import Derived.Below
import Derived.SizedLaws
import Derived.Carry
set_option linter.all false
set_option maxRecDepth 100000
namespace Go.Proofs.YtikhmmocfceliaaGreat.fnExactRunVault
open Go.ChangeShapes Go.WideShapes Go.ChangeAt Go.RowKit Go.Ev
def phi:Ee:=[(88,107),(60,64),(26,21),(28,36),(61,131),(27,99),(8,49),(38,56),(17,100),(67,92),(45,111),(41,74),(68,53),(40,79),(42,81),(19,102),(64,70),(65,86),(43,133),(66,145),(39,132),(69,76),(70,146),(44,134),(18,101),(5,50),(62,72),(32,26),(31,37),(33,315),(12,252),(63,73),(34,27),(36,38),(35,324),(14,259),(21,455),(71,468),(47,461),(48,462),(22,456),(52,63),(49,87),(51,88),(89,127),(72,129),(73,130),(50,97),(23,457),(24,458),(91,113),(102,136),(93,110),(92,114),(80,77),(84,66),(74,112),(58,75),(81,54),(57,80),(76,120),(75,469),(53,463),(54,464),(77,71),(78,470),(106,140),(107,141),(99,121),(100,122),(101,123),(90,89),(79,471),(55,465),(56,466),(97,115),(85,78),(96,60),(105,109),(95,69),(110,148),(121,159),(111,149),(118,156),(119,157),(104,138),(122,160),(123,161),(112,150),(127,165),(125,163),(124,162),(113,151),(114,152),(115,153),(116,154),(117,155),(103,137),(94,116),(82,82),(83,472),(98,475),(86,473),(87,474),(59,467),(25,459),(7,438),(37,91),(16,450),(4,443),(46,43),(20,451),(6,444),(29,452),(9,445),(30,453),(10,446),(11,447),(13,448),(15,449),(3,436),(109,143)]
abbrev CV:Bl:=Dy Tryz.prog phi
def tbl:List (Nat×Dv):=[(107,IY),(64,c64),(21,c21),(36,HH),(131,c131),(99,c99),(49,c49),(56,c56),(100,c100),(92,c92),(111,c111),(74,c74),(53,c53),(79,c79),(81,c81),(102,c102),(70,c70),(86,c86),(133,c133),(145,c145),(132,c132),(76,c76),(146,c146),(134,c134),(101,c101),(50,HI),(72,c72),(26,qS),(37,c37),(315,c315),(252,c252),(73,c73),(27,Xz),(38,c38),(324,c324),(259,c259),(455,c455),(468,c468),(461,c461),(462,c462),(456,c456),(63,c63),(87,c87),(88,c88),(127,c127),(129,c129),(130,c130),(97,c97),(457,c457),(458,c458),(113,c113),(136,c136),(110,c110),(114,c114),(77,c77),(66,c66),(112,iL),(75,c75),(54,c54),(80,c80),(120,LG),(469,c469),(463,c463),(464,c464),(71,c71),(470,c470),(140,c140),(141,c141),(121,qR),(122,LX),(123,c123),(89,c89),(471,c471),(465,c465),(466,c466),(115,c115),(78,c78),(60,c60),(109,c109),(69,c69),(148,c148),(159,c159),(149,c149),(156,UA),(157,c157),(138,PF),(160,c160),(161,c161),(150,c150),(165,c165),(163,c163),(162,VJ),(151,c151),(152,c152),(153,c153),(154,c154),(155,c155),(137,c137),(116,c116),(82,c82),(472,c472),(475,c475),(473,c473),(474,c474),(467,c467),(459,c459),(438,c438),(91,c91),(450,c450),(443,c443),(43,c43),(451,c451),(444,c444),(452,c452),(445,c445),(453,c453),(446,c446),(447,c447),(448,c448),(449,c449),(436,c436)]
theorem tq {p:Nat×Nat} {xf:Dv} (h1:Go.Ev.look tbl p.2=some xf) (fn:Func) (h2:Tryz.prog.funcs[p.1]? = some fn:=by kernel_rfl) (h3:Qs Tryz.prog phi fn=some xf:=by kernel_rfl):Xx Tryz.prog phi tbl p:=tone h1 fn h2 h3
theorem tied:Tied Tryz.prog phi (Go.Ev.look tbl):=GF ⟨tq rfl Tryz.f88,
  tq rfl Tryz.f60,
  tq rfl Tryz.f26,
  tq rfl Tryz.f28,
  tq rfl Tryz.f61,
  tq rfl Tryz.f27,
  tq rfl Tryz.f8,
  tq rfl Tryz.f38,
  tq rfl Tryz.f17,
  tq rfl Tryz.f67,
  tq rfl Tryz.f45,
  tq rfl Tryz.f41,
  tq rfl Tryz.f68,
  tq rfl Tryz.f40,
  tq rfl Tryz.f42,
  tq rfl Tryz.f19,
  tq rfl Tryz.f64,
  tq rfl Tryz.f65,
  tq rfl Tryz.f43,
  tq rfl Tryz.f66,
  tq rfl Tryz.f39,
  tq rfl Tryz.f69,
  tq rfl Tryz.f70,
  tq rfl Tryz.f44,
  tq rfl Tryz.f18,
  tq rfl Tryz.f5,
  tq rfl Tryz.f62,
  tq rfl Tryz.f32,
  tq rfl Tryz.f31,
  tq rfl Tryz.f33,
  tq rfl Tryz.f12,
  tq rfl Tryz.f63,
  tq rfl Tryz.f34,
  tq rfl Tryz.f36,
  tq rfl Tryz.f35,
  tq rfl Tryz.f14,
  tq rfl Tryz.f21,
  tq rfl Tryz.f71,
  tq rfl Tryz.f47,
  tq rfl Tryz.f48,
  tq rfl Tryz.f22,
  tq rfl Tryz.f52,
  tq rfl Tryz.f49,
  tq rfl Tryz.f51,
  tq rfl Tryz.f89,
  tq rfl Tryz.f72,
  tq rfl Tryz.f73,
  tq rfl Tryz.f50,
  tq rfl Tryz.f23,
  tq rfl Tryz.f24,
  tq rfl Tryz.f91,
  tq rfl Tryz.f102,
  tq rfl Tryz.f93,
  tq rfl Tryz.f92,
  tq rfl Tryz.f80,
  tq rfl Tryz.f84,
  tq rfl Tryz.f74,
  tq rfl Tryz.f58,
  tq rfl Tryz.f81,
  tq rfl Tryz.f57,
  tq rfl Tryz.f76,
  tq rfl Tryz.f75,
  tq rfl Tryz.f53,
  tq rfl Tryz.f54,
  tq rfl Tryz.f77,
  tq rfl Tryz.f78,
  tq rfl Tryz.f106,
  tq rfl Tryz.f107,
  tq rfl Tryz.f99,
  tq rfl Tryz.f100,
  tq rfl Tryz.f101,
  tq rfl Tryz.f90,
  tq rfl Tryz.f79,
  tq rfl Tryz.f55,
  tq rfl Tryz.f56,
  tq rfl Tryz.f97,
  tq rfl Tryz.f85,
  tq rfl Tryz.f96,
  tq rfl Tryz.f105,
  tq rfl Tryz.f95,
  tq rfl Tryz.f110,
  tq rfl Tryz.f121,
  tq rfl Tryz.f111,
  tq rfl Tryz.f118,
  tq rfl Tryz.f119,
  tq rfl Tryz.f104,
  tq rfl Tryz.f122,
  tq rfl Tryz.f123,
  tq rfl Tryz.f112,
  tq rfl Tryz.f127,
  tq rfl Tryz.f125,
  tq rfl Tryz.f124,
  tq rfl Tryz.f113,
  tq rfl Tryz.f114,
  tq rfl Tryz.f115,
  tq rfl Tryz.f116,
  tq rfl Tryz.f117,
  tq rfl Tryz.f103,
  tq rfl Tryz.f94,
  tq rfl Tryz.f82,
  tq rfl Tryz.f83,
  tq rfl Tryz.f98,
  tq rfl Tryz.f86,
  tq rfl Tryz.f87,
  tq rfl Tryz.f59,
  tq rfl Tryz.f25,
  tq rfl Tryz.f7,
  tq rfl Tryz.f37,
  tq rfl Tryz.f16,
  tq rfl Tryz.f4,
  tq rfl Tryz.f46,
  tq rfl Tryz.f20,
  tq rfl Tryz.f6,
  tq rfl Tryz.f29,
  tq rfl Tryz.f9,
  tq rfl Tryz.f30,
  tq rfl Tryz.f10,
  tq rfl Tryz.f11,
  tq rfl Tryz.f13,
  tq rfl Tryz.f15,
  tq rfl Tryz.f3,
  tno rfl,trivial⟩
theorem ts {k:Nat} {xf:Dv} {g:Gq} {t:Fu} (h:Go.Ev.look tbl k=some xf) (f:kZ CV xf g t):CV k g t:=cD tied h f
theorem k107:K107 CV:=fun a0 a1 r h=>ts rfl (F107  a0 a1 r h)
theorem k64:K64 CV:=fun a0 a1 r h=>ts rfl (F64 k107 a0 a1 r h)
theorem k21:K21 CV:=fun a0 a1 r h=>ts rfl (F21 k64 a0 a1 r h)
theorem k36:K36 CV:=fun a0 a1 r h=>ts rfl (F36  a0 a1 r h)
theorem k131:K131 CV:=fun a0 a1 r h=>ts rfl (F131  a0 a1 r h)
theorem k99:K99 CV:=fun a0 a1 r h=>ts rfl (F99 k131 a0 a1 r h)
theorem k49:K49 CV:=fun a0 a1 r h=>ts rfl (F49 k21 k36 k99 a0 a1 r h)
theorem k56:K56 CV:=fun a0 a1 a2 r h=>ts rfl (F56  a0 a1 a2 r h)
theorem k100:K100 CV:=fun a0 r h=>ts rfl (F100 k56 a0 r h)
theorem k92:K92 CV:=fun a0 a1 r h=>ts rfl (F92  a0 a1 r h)
theorem k111:lB CV:=fun a0 r h=>ts rfl (F111  a0 r h)
theorem k74:K74 CV:=fun a0 a1 r h=>ts rfl (F74 k92 k111 a0 a1 r h)
theorem k53:K53 CV:=fun a0 a1 r h=>ts rfl (F53  a0 a1 r h)
theorem k79:K79 CV:=fun a0 a1 a2 r h=>ts rfl (F79 k53 k92 k111 a0 a1 a2 r h)
theorem k81:K81 CV:=fun a0 a1 r h=>ts rfl (F81 k111 a0 a1 r h)
theorem k102:lA CV:=fun a0 r h=>ts rfl (F102 k111 a0 r h)
theorem k70:K70 CV:=fun a0 a1 a2 r h=>ts rfl (F70 k53 k111 a0 a1 a2 r h)
theorem k86:K86 CV:=fun a0 a1 a2 a3 r h=>ts rfl (F86  a0 a1 a2 a3 r h)
theorem k133:tI CV:=fun a0 r h=>ts rfl (F133 k102 a0 r h)
theorem k145:HR CV:=fun a0 a1 r h=>ts rfl (F145  a0 a1 r h)
theorem k132:K132 CV:=fun a0 a1 r h=>ts rfl (F132 k70 k86 k102 k133 k145 a0 a1 r h)
theorem k76:K76 CV:=fun a0 a1 r h=>ts rfl (F76 k92 a0 a1 r h)
theorem k146:K146 CV:=fun a0 a1 r h=>ts rfl (F146  a0 a1 r h)
theorem k134:K134 CV:=fun a0 a1 r h=>ts rfl (F134 k76 k86 k102 k133 k145 k146 a0 a1 r h)
theorem k101:K101 CV:=fun a0 a1 r h=>ts rfl (F101 k56 k74 k79 k81 k102 k132 k133 k134 a0 a1 r h)
theorem k50:K50 CV:=fun a0 r h=>ts rfl (F50 k100 k101 k102 a0 r h)
theorem k72:K72 CV:=fun a0 a1 r h=>ts rfl (F72  a0 a1 r h)
theorem k26:K26 CV:=fun a0 a1 r h=>ts rfl (F26 k72 a0 a1 r h)
theorem k37:K37 CV:=fun a0 a1 r h=>ts rfl (F37  a0 a1 r h)
theorem k315:K315 CV:=fun a0 a1 r h=>ts rfl (F315  a0 a1 r h)
theorem k252:K252 CV:=fun a0 a1 r h=>ts rfl (F252 k26 k37 k315 a0 a1 r h)
theorem k73:K73 CV:=fun a0 a1 r h=>ts rfl (F73  a0 a1 r h)
theorem k27:K27 CV:=fun a0 a1 r h=>ts rfl (F27 k73 a0 a1 r h)
theorem k38:K38 CV:=fun a0 a1 r h=>ts rfl (F38  a0 a1 r h)
theorem k324:K324 CV:=fun a0 a1 r h=>ts rfl (F324  a0 a1 r h)
theorem k259:K259 CV:=fun a0 a1 r h=>ts rfl (F259 k27 k38 k324 a0 a1 r h)
theorem k455:K455 CV:=fun a0 r h=>ts rfl (F455  a0 r h)
theorem k468:K468 CV:=fun a0 f1 k1 is1 hs1 hf1 r h=>ts rfl (F468  a0 f1 k1 is1 hs1 hf1 r h)
theorem k461:K461 CV:=fun a0 f1 k1 is1 hs1 hf1 r h=>ts rfl (F461 k468 a0 f1 k1 is1 hs1 hf1 r h)
theorem k462:K462 CV:=fun a0 f1 k1 is1 hs1 hf1 r h=>ts rfl (F462  a0 f1 k1 is1 hs1 hf1 r h)
theorem k456:K456 CV:=fun a0 f1 k1 is1 hs1 hf1 r h=>ts rfl (F456 k461 k462 a0 f1 k1 is1 hs1 hf1 r h)
theorem k63:K63 CV:=fun a0 a1 a2 r h=>ts rfl (F63  a0 a1 a2 r h)
theorem k87:K87 CV:=fun a0 r h=>ts rfl (F87  a0 r h)
theorem k88:K88 CV:=fun a0 r h=>ts rfl (F88 k63 a0 r h)
theorem k127:K127 CV:=fun a0 f1 k1 is1 hs1 hf1 r h=>ts rfl (F127  a0 f1 k1 is1 hs1 hf1 r h)
theorem k129:K129 CV:=fun a0 f1 k1 is1 hs1 hf1 r h=>ts rfl (F129 k127 a0 f1 k1 is1 hs1 hf1 r h)
theorem k130:K130 CV:=fun a0 f1 k1 is1 hs1 hf1 r h=>ts rfl (F130  a0 f1 k1 is1 hs1 hf1 r h)
theorem k97:K97 CV:=fun a0 f1 k1 is1 hs1 hf1 r h=>ts rfl (F97 k129 k130 a0 f1 k1 is1 hs1 hf1 r h)
theorem k457:K457 CV:=fun a0 r h=>ts rfl (F457 k63 k87 k88 k97 a0 r h)
theorem k458:K458 CV:=fun  r h=>ts rfl (F458   r h)
theorem k113:K113 CV:=fun a0 a1 f2 k2 is2 hs2 hf2 r h=>ts rfl (F113  a0 a1 f2 k2 is2 hs2 hf2 r h)
theorem k136:HP CV:=fun a0 r h=>ts rfl (F136  a0 r h)
theorem k110:HN CV:=fun a0 a1 r h=>ts rfl (F110 k136 a0 a1 r h)
theorem k114:K114 CV:=fun a0 a1 r h=>ts rfl (F114 k110 a0 a1 r h)
theorem k77:K77 CV:=fun a0 a1 r h=>ts rfl (F77 k113 k114 a0 a1 r h)
theorem k66:K66 CV:=fun a0 r h=>ts rfl (F66  a0 r h)
theorem k112:iG CV:=fun a0 r h=>ts rfl (F112 k66 a0 r h)
theorem k75:K75 CV:=fun a0 a1 r h=>ts rfl (F75 k77 k112 a0 a1 r h)
theorem k54:K54 CV:=fun a0 a1 r h=>ts rfl (F54  a0 a1 r h)
theorem k80:K80 CV:=fun a0 a1 a2 r h=>ts rfl (F80 k54 k77 k112 a0 a1 a2 r h)
theorem k120:HO CV:=fun a0 r h=>ts rfl (F120  a0 r h)
theorem k469:HT CV:=fun a0 r h=>ts rfl (F469  a0 r h)
theorem k463:K463 CV:=fun a0 r h=>ts rfl (F463 k112 k120 k469 a0 r h)
theorem k464:tJ CV:=fun a0 a1 r h=>ts rfl (F464  a0 a1 r h)
theorem k71:K71 CV:=fun a0 a1 a2 r h=>ts rfl (F71 k54 k112 a0 a1 a2 r h)
theorem k470:HU CV:=fun a0 r h=>ts rfl (F470  a0 r h)
theorem k140:K140 CV:=fun a0 a1 r h=>ts rfl (F140 k136 a0 a1 r h)
theorem k141:K141 CV:=fun a0 r h=>ts rfl (F141  a0 r h)
theorem k121:K121 CV:=fun a0 a1 r h=>ts rfl (F121 k140 k141 a0 a1 r h)
theorem k122:K122 CV:=fun a0 a1 a2 r h=>ts rfl (F122  a0 a1 a2 r h)
theorem k123:K123 CV:=fun a0 a1 a2 r h=>ts rfl (F123  a0 a1 a2 r h)
theorem k89:K89 CV:=fun a0 a1 a2 a3 r h=>ts rfl (F89 k120 k121 k122 k123 a0 a1 a2 a3 r h)
theorem k471:HV CV:=fun a0 a1 a2 r h=>ts rfl (F471 k89 a0 a1 a2 r h)
theorem k465:K465 CV:=fun a0 a1 r h=>ts rfl (F465 k71 k464 k470 k471 a0 a1 r h)
theorem k466:K466 CV:=fun a0 a1 a2 r h=>ts rfl (F466 k464 a0 a1 a2 r h)
theorem k115:K115 CV:=fun a0 a1 a2 r h=>ts rfl (F115  a0 a1 a2 r h)
theorem k78:K78 CV:=fun a0 a1 r h=>ts rfl (F78 k112 k115 a0 a1 r h)
theorem k60:K60 CV:=fun a0 r h=>ts rfl (F60  a0 r h)
theorem k109:K109 CV:=fun a0 r h=>ts rfl (F109  a0 r h)
theorem k69:K69 CV:=fun a0 a1 r h=>ts rfl (F69 k109 k110 a0 a1 r h)
theorem k148:K148 CV:=fun a0 a1 a2 f3 k3 is3 hs3 hf3 r h=>ts rfl (F148  a0 a1 a2 f3 k3 is3 hs3 hf3 r h)
theorem k159:K159 CV:=fun a0 a1 a2 a3 f4 k4 is4 hs4 hf4 r h=>ts rfl (F159  a0 a1 a2 a3 f4 k4 is4 hs4 hf4 r h)
theorem k149:K149 CV:=fun a0 a1 a2 f3 k3 is3 hs3 hf3 r h=>ts rfl (F149 k159 a0 a1 a2 f3 k3 is3 hs3 hf3 r h)
theorem k156:K156 CV:=fun a0 r h=>ts rfl (F156  a0 r h)
theorem k157:K157 CV:=fun a0 r h=>ts rfl (F157  a0 r h)
theorem k138:HQ CV:=fun a0 r h=>ts rfl (F138 k156 k157 a0 r h)
theorem k160:K160 CV:=fun a0 r h=>ts rfl (F160 k138 a0 r h)
theorem k161:K161 CV:=fun a0 r h=>ts rfl (F161  a0 r h)
theorem k150:K150 CV:=fun a0 a1 a2 f3 k3 is3 hs3 hf3 r h=>ts rfl (F150 k160 k161 a0 a1 a2 f3 k3 is3 hs3 hf3 r h)
theorem k165:K165 CV:=fun a0 a1 a2 a3 f4 k4 is4 hs4 hf4 r h=>ts rfl (F165  a0 a1 a2 a3 f4 k4 is4 hs4 hf4 r h)
theorem k163:HS CV:=fun a0 a1 a2 a3 a4 f5 k5 is5 hs5 hf5 r h=>ts rfl (F163 k165 a0 a1 a2 a3 a4 f5 k5 is5 hs5 hf5 r h)
theorem k162:K162 CV:=fun a0 a1 a2 f3 k3 is3 hs3 hf3 r h=>ts rfl (F162 k163 a0 a1 a2 f3 k3 is3 hs3 hf3 r h)
theorem k151:K151 CV:=fun a0 a1 a2 f3 k3 is3 hs3 hf3 r h=>ts rfl (F151 k162 k163 a0 a1 a2 f3 k3 is3 hs3 hf3 r h)
theorem k152:K152 CV:=fun a0 a1 a2 f3 k3 is3 hs3 hf3 r h=>ts rfl (F152  a0 a1 a2 f3 k3 is3 hs3 hf3 r h)
theorem k153:K153 CV:=fun a0 a1 a2 f3 k3 is3 hs3 hf3 r h=>ts rfl (F153  a0 a1 a2 f3 k3 is3 hs3 hf3 r h)
theorem k154:K154 CV:=fun a0 a1 a2 a3 f4 k4 is4 hs4 hf4 r h=>ts rfl (F154  a0 a1 a2 a3 f4 k4 is4 hs4 hf4 r h)
theorem k155:K155 CV:=fun a0 a1 a2 a3 f4 k4 is4 hs4 hf4 r h=>ts rfl (F155  a0 a1 a2 a3 f4 k4 is4 hs4 hf4 r h)
theorem k137:K137 (Dy Tryz.prog phi):=fun n=>Nat.rec (motive:=fun n=>tK (Dy Tryz.prog phi) (lY n)) (fun a0 a1 a2 a3 f4 k4 is4 hs4 hf4 r h=>by have h2:none=some r:=h; cases h2) (fun n ih a0 a1 a2 a3 f4 k4 is4 hs4 hf4 r h=>cD tied (xf:=c137) rfl (F137 k148 k149 k150 k151 k152 k153 k154 k155 (lY n) ih a0 a1 a2 a3 f4 k4 is4 hs4 hf4 r h)) n
theorem k116:K116 CV:=fun a0 f1 k1 is1 hs1 hf1 r h=>ts rfl (F116 k137 k138 a0 f1 k1 is1 hs1 hf1 r h)
theorem k82:K82 CV:=fun a0 a1 r h=>ts rfl (F82 k60 k69 k112 k116 a0 a1 r h)
theorem k472:K472 CV:=fun a0 a1 r h=>ts rfl (F472  a0 a1 r h)
theorem k475:K475 CV:=fun a0 f1 k1 is1 hs1 hf1 r h=>ts rfl (F475  a0 f1 k1 is1 hs1 hf1 r h)
theorem k473:K473 CV:=fun a0 f1 k1 is1 hs1 hf1 r h=>ts rfl (F473 k475 a0 f1 k1 is1 hs1 hf1 r h)
theorem k474:K474 CV:=fun a0 a1 r h=>ts rfl (F474  a0 a1 r h)
theorem k467:K467 CV:=fun a0 a1 r h=>ts rfl (F467 k66 k77 k78 k82 k469 k470 k471 k472 k473 k474 a0 a1 r h)
theorem k459:K459 CV:=fun a0 a1 r h=>ts rfl (F459 k63 k75 k80 k463 k464 k465 k466 k467 a0 a1 r h)
theorem k438:K438 CV:=fun a0 r h=>ts rfl (F438 k455 k456 k457 k458 k459 a0 r h)
theorem k91:K91 CV:=fun a0 a1 r h=>ts rfl (F91  a0 a1 r h)
theorem k450:K450 CV:=fun a0 a1 r h=>ts rfl (F450 k91 a0 a1 r h)
theorem k443:K443 CV:=fun a0 a1 r h=>ts rfl (F443 k450 a0 a1 r h)
theorem k43:K43 CV:=fun a0 r h=>ts rfl (F43  a0 r h)
theorem k451:K451 CV:=fun a0 r h=>ts rfl (F451 k43 a0 r h)
theorem k444:K444 CV:=fun a0 r h=>ts rfl (F444 k451 a0 r h)
theorem k452:K452 CV:=fun a0 a1 r h=>ts rfl (F452  a0 a1 r h)
theorem k445:K445 CV:=fun a0 a1 r h=>ts rfl (F445 k452 a0 a1 r h)
theorem k453:K453 CV:=fun a0 a1 r h=>ts rfl (F453 k36 a0 a1 r h)
theorem k446:K446 CV:=fun a0 a1 r h=>ts rfl (F446 k453 a0 a1 r h)
theorem k447:K447 CV:=fun a0 a1 r h=>ts rfl (F447 k37 a0 a1 r h)
theorem k448:K448 CV:=fun a0 a1 r h=>ts rfl (F448  a0 a1 r h)
theorem k449:K449 CV:=fun a0 a1 r h=>ts rfl (F449  a0 a1 r h)
theorem k436:K436 CV:=fun a0 r h=>ts rfl (F436 k49 k50 k252 k259 k438 k443 k444 k445 k446 k447 k448 k449 a0 r h)
theorem oktDVaultAct:Ok (.struct [.int .i64,.int .i64,.int .i64,.int .i64,.int .i64,.slice 1 (.int .i64),.int .i64]) Ao Gy:=fun vs h=>by
  have h:Pa [.int .i64,.int .i64,.int .i64,.int .i64,.int .i64,.slice 1 (.int .i64),.int .i64] vs:=by simpa only [Gr] using h
  obtain ⟨a0,r0,rfl,h0,h⟩:=h
  obtain ⟨a1,r1,rfl,h1,h⟩:=h
  obtain ⟨a2,r2,rfl,h2,h⟩:=h
  obtain ⟨a3,r3,rfl,h3,h⟩:=h
  obtain ⟨a4,r4,rfl,h4,h⟩:=h
  obtain ⟨a5,r5,rfl,h5,h⟩:=h
  obtain ⟨a6,r6,rfl,h6,h⟩:=h
  obtain rfl:r6=[]:=by simpa only [Pa] using h
  obtain ⟨x0,rfl,p0⟩:=Ok.int64 a0 h0
  obtain ⟨x1,rfl,p1⟩:=Ok.int64 a1 h1
  obtain ⟨x2,rfl,p2⟩:=Ok.int64 a2 h2
  obtain ⟨x3,rfl,p3⟩:=Ok.int64 a3 h3
  obtain ⟨x4,rfl,p4⟩:=Ok.int64 a4 h4
  obtain ⟨x5,rfl,p5⟩:=(Ok.slice Ok.int64) a5 h5
  obtain ⟨x6,rfl,p6⟩:=Ok.int64 a6 h6
  exact ⟨⟨x0,x1,x2,x3,x4,x5,x6⟩,rfl,⟨p0,p1,p2,p3,p4,p5,p6⟩⟩
theorem own:ownKnob Tryz.prog.godebug=none:=by kernel_rfl
theorem laid:laidOutB Tryz.prog=true:=by kernel_rfl
theorem lifted (os:Os) (started:os.Started) (H:Type) (enc:TypeId×Value→H):
    ReturnsInHanded {} Tryz.checked os 3 .any (Rows.fnExactRunVaultSpec.pre6 enc Tryz.prog Tryz.f3 Rows.fnExactRunVaultRow.domain false) (Rows.fnExactRunVaultSpec.post enc Tryz.prog Tryz.f3 false true false false):=by
  refine returnsInHanded_of_change_sized (C:=Tryz.checked) own started (by kernel_rfl) Tryz.func3
    (ChangeSpec.witness6 (enc:=enc) (C:=Tryz.checked) false ⟨#[],#[.slice none 0 0],[]⟩ 8 (by kernel_rfl) (by kernel_rfl) (by kernel_rfl) (by kernel_rfl)) ?_
  intro W base args ds gs before hval0 hW hcnd hsz0 _
  have hval:∀(j:Nat) t v,Tryz.f3.params[j]? = some t→args[j]? = some v→Value.okWide Tryz.prog W .any base t v:=hval0
  have hW':=hW
  obtain ⟨p,q,hA0,hV,rfl,hfz,hnd⟩:=hW
  have hA:DataW.TrodAll enc Tryz.prog W 0 (fun _=>true) true Tryz.f3.params.toList args.toList ds p:=hA0
  rw [Tryz.params3] at hA hval
  obtain ⟨v0,vs0,d0,ds0,p0,q0,hargs,rfl,rfl,h0,r0⟩:=trodAll_cons hA
  obtain ⟨rfl,rfl,rfl⟩:=trodAll_nil r0
  obtain rfl:args = #[v0]:=by cases args; simp_all
  obtain ⟨rfl,rfl⟩:=trodVars_none hV
  obtain ⟨u0,t0,rt0⟩:=arg_V (φ:=phi) (n:=12) (T:=.slice 7 (.struct [.int .i64,.int .i64,.int .i64,.int .i64,.int .i64,.slice 1 (.int .i64),.int .i64])) (by kernel_rfl) (hval 0 22 v0 rfl rfl) h0
  obtain ⟨a0,rfl,o0⟩:=Ok.arg1 (e:=(eL 7 Ao)) (fun x=>.lst 7 (x.map Ao)) (fun _=>rfl) (Ok.slice oktDVaultAct) t0
  have hlt0:∀x∈p0,x.block<W.heap.size:=fun x hx=>hW'.lt x (by simp [hx])
  have hc:=rY (P:=Tryz.prog) (φ:=phi) (f:=436) (fid:=3) (vals:=[v0]) (vs:=[.lst 7 (a0.map Ao)]) (w:=W) rfl rfl (rts rt0 rtz) (k436 a0 true (DO a0 o0))
  refine hc.mono fun e W' ⟨he,bel⟩=>?_
  subst he
  exact ⟨_,rfl,_,_,_,[],_,[],hW',trodAll_mk1 (shut_bool Tryz.underlying4 _),(trodAll_cons_mk (Below.trod laid (by kernel_rfl) (of_decide_eq_true (by kernel_rfl)) h0 bel hlt0) trodAll_mk0),rfl,bel.frame _,fun h=>by cases h⟩
theorem over:Rows.fnExactRunVaultRow.holds Tryz.pinned (OpenSpec.ofChange Rows.fnExactRunVaultSpec):=
  OpenClaim.holds_of_wide 3 Tryz.f3 rfl rfl rfl rfl rfl rfl rfl ⟨rfl,rfl,rfl,rfl,rfl⟩ rfl rfl rfl rfl rfl (by kernel_rfl) Tryz.func3 joined
    (of_decide_eq_true (by kernel_rfl)) (by unfold Func.isWrapper; first | (rw [if_pos (by decide +kernel)]; kernel_rfl) | (rw [if_neg (by decide +kernel)]; exact ⟨rfl,rfl⟩))
    (fun os started H enc _=>lifted os started H enc)
end Go.Proofs.YtikhmmocfceliaaGreat.fnExactRunVault
namespace Go.Proofs.YtikhmmocfceliaaGreat
/-- FnExactRunVault. -/
theorem fnExactRunVault_holds:Rows.FnExactRunVaultSaid:=fnExactRunVault.over
end Go.Proofs.YtikhmmocfceliaaGreat
