/- FnTop: whatever the input, the law returns true, and its arguments read behind the call as they read before. No condition: every input. -/
import Derived.Test.YtfpbbpkdjmldkaaGreatRows
import Derived.Test.YtfpbbpkdjmldkaaGreatQgJ
import Derived.Test.YtfpbbpkdjmldkaaGreatQgL
import Derived.Test.YtfpbbpkdjmldkaaGreatQvJ
import Derived.Test.YtfpbbpkdjmldkaaGreatQvT
import Derived.Test.YtfpbbpkdjmldkaaGreatQgW3
import Derived.Test.YtfpbbpkdjmldkaaGreatQwZ
import Derived.WalkKit
import Derived.ProofKit
import Derived.OpenShut
import Derived.ShutString
import Derived.ChangeOld
import Derived.Below
import Derived.SizedLaws
import Derived.Carry
set_option linter.all false
set_option maxRecDepth 100000
namespace Go.Proofs.YtfpbbpkdjmldkaaGreat.fnTop
open Go.ChangeShapes Go.WideShapes Go.ChangeAt Go.RowKit Go.Ev
def phi:Fa:=[(70,56),(26,100),(137,92),(77,111),(73,74),(138,53),(72,79),(74,81),(28,102),(134,70),(135,86),(75,133),(136,145),(71,132),(139,76),(140,146),(76,134),(27,101),(6,50),(24,83),(132,139),(67,117),(68,118),(105,119),(133,147),(69,135),(25,103),(5,51),(84,269),(164,367),(144,329),(145,330),(85,270),(59,63),(86,271),(34,216),(42,264),(97,327),(103,325),(104,326),(41,263),(152,366),(98,328),(43,265),(11,214),(102,332),(101,333),(40,275),(10,220),(45,268),(44,305),(12,242),(46,306),(13,243),(110,58),(78,59),(111,60),(171,108),(155,105),(156,106),(112,61),(113,62),(52,20),(79,95),(157,144),(114,126),(115,127),(116,128),(54,96),(118,129),(119,130),(57,97),(141,113),(163,136),(143,110),(142,114),(81,77),(80,98),(29,48),(82,358),(83,359),(30,313),(7,250),(48,87),(50,120),(47,321),(106,362),(49,322),(169,375),(153,372),(107,363),(170,370),(154,341),(108,364),(109,365),(51,323),(15,258),(16,260),(31,41),(32,52),(8,261),(99,267),(100,331),(96,274),(38,273),(33,393),(165,429),(146,424),(147,425),(87,413),(88,414),(35,394),(39,395),(89,403),(90,416),(148,427),(92,418),(91,417),(93,419),(94,420),(36,397),(168,426),(151,415),(95,396),(37,398),(9,382),(14,384),(19,455),(117,468),(55,461),(56,462),(20,456),(58,88),(21,457),(22,458),(128,66),(120,112),(65,75),(125,54),(64,80),(121,469),(60,463),(61,464),(122,71),(123,470),(180,140),(181,141),(172,121),(173,122),(174,123),(158,89),(124,471),(62,465),(63,466),(161,115),(129,78),(177,109),(160,69),(126,82),(127,472),(162,475),(130,473),(131,474),(66,467),(23,459),(4,438),(53,460),(17,439),(18,440),(3,433),(159,116),(183,143),(150,428)]
abbrev CV:Ba:=Ek Tryz.prog phi
def tbl:List (Nat×De):=[(56,c56),(100,c100),(92,c92),(111,c111),(74,c74),(53,c53),(79,c79),(81,c81),(102,c102),(70,c70),(86,c86),(133,c133),(145,c145),(132,c132),(76,c76),(146,c146),(134,c134),(101,OT),(50,c50),(83,c83),(139,c139),(117,c117),(118,c118),(119,c119),(147,YN),(135,c135),(103,AL),(51,c51),(269,c269),(367,c367),(329,c329),(330,c330),(270,c270),(63,c63),(271,c271),(216,c216),(264,c264),(327,c327),(325,c325),(326,c326),(263,c263),(366,c366),(328,AcK),(265,c265),(214,c214),(332,c332),(333,c333),(275,c275),(220,c220),(268,c268),(305,c305),(242,c242),(306,c306),(243,c243),(58,c58),(59,c59),(60,c60),(108,QA),(105,c105),(106,PX),(61,c61),(62,c62),(20,eZ),(95,c95),(144,XS),(126,c126),(127,c127),(128,c128),(96,c96),(129,c129),(130,c130),(97,c97),(113,c113),(136,c136),(110,c110),(114,c114),(77,c77),(98,c98),(48,c48),(358,c358),(359,c359),(313,c313),(250,c250),(87,c87),(120,TA),(321,c321),(362,c362),(322,c322),(375,c375),(372,c372),(363,c363),(370,c370),(341,vZ),(364,c364),(365,c365),(323,c323),(258,c258),(260,c260),(41,c41),(52,c52),(261,c261),(267,c267),(331,c331),(274,c274),(273,c273),(393,c393),(429,c429),(424,c424),(425,c425),(413,c413),(414,c414),(394,c394),(395,c395),(403,c403),(416,c416),(427,c427),(418,c418),(417,c417),(419,c419),(420,c420),(397,c397),(426,c426),(415,c415),(396,c396),(398,c398),(382,c382),(384,c384),(455,c455),(468,c468),(461,c461),(462,c462),(456,c456),(88,c88),(457,c457),(458,c458),(66,c66),(112,vY),(75,c75),(54,c54),(80,c80),(469,c469),(463,c463),(464,c464),(71,c71),(470,c470),(140,c140),(141,c141),(121,c121),(122,TP),(123,c123),(89,c89),(471,c471),(465,c465),(466,c466),(115,c115),(78,c78),(109,c109),(69,c69),(82,c82),(472,c472),(475,c475),(473,c473),(474,c474),(467,c467),(459,c459),(438,c438),(460,c460),(439,c439),(440,c440),(433,c433)]
theorem tq {p:Nat×Nat} {xf:De} (h1:Go.Ev.look tbl p.2=some xf) (fn:Func) (h2:Tryz.prog.funcs[p.1]? = some fn:=by kernel_rfl) (h3:Sb Tryz.prog phi fn=some xf:=by kernel_rfl):aL Tryz.prog phi tbl p:=tone h1 fn h2 h3
theorem tied:Tied Tryz.prog phi (Go.Ev.look tbl):=ME ⟨tq rfl Tryz.f70,
  tq rfl Tryz.f26,
  tq rfl Tryz.f137,
  tq rfl Tryz.f77,
  tq rfl Tryz.f73,
  tq rfl Tryz.f138,
  tq rfl Tryz.f72,
  tq rfl Tryz.f74,
  tq rfl Tryz.f28,
  tq rfl Tryz.f134,
  tq rfl Tryz.f135,
  tq rfl Tryz.f75,
  tq rfl Tryz.f136,
  tq rfl Tryz.f71,
  tq rfl Tryz.f139,
  tq rfl Tryz.f140,
  tq rfl Tryz.f76,
  tq rfl Tryz.f27,
  tq rfl Tryz.f6,
  tq rfl Tryz.f24,
  tq rfl Tryz.f132,
  tq rfl Tryz.f67,
  tq rfl Tryz.f68,
  tq rfl Tryz.f105,
  tq rfl Tryz.f133,
  tq rfl Tryz.f69,
  tq rfl Tryz.f25,
  tq rfl Tryz.f5,
  tq rfl Tryz.f84,
  tq rfl Tryz.f164,
  tq rfl Tryz.f144,
  tq rfl Tryz.f145,
  tq rfl Tryz.f85,
  tq rfl Tryz.f59,
  tq rfl Tryz.f86,
  tq rfl Tryz.f34,
  tq rfl Tryz.f42,
  tq rfl Tryz.f97,
  tq rfl Tryz.f103,
  tq rfl Tryz.f104,
  tq rfl Tryz.f41,
  tq rfl Tryz.f152,
  tq rfl Tryz.f98,
  tq rfl Tryz.f43,
  tq rfl Tryz.f11,
  tq rfl Tryz.f102,
  tq rfl Tryz.f101,
  tq rfl Tryz.f40,
  tq rfl Tryz.f10,
  tq rfl Tryz.f45,
  tq rfl Tryz.f44,
  tq rfl Tryz.f12,
  tq rfl Tryz.f46,
  tq rfl Tryz.f13,
  tq rfl Tryz.f110,
  tq rfl Tryz.f78,
  tq rfl Tryz.f111,
  tq rfl Tryz.f171,
  tq rfl Tryz.f155,
  tq rfl Tryz.f156,
  tq rfl Tryz.f112,
  tq rfl Tryz.f113,
  tq rfl Tryz.f52,
  tq rfl Tryz.f79,
  tq rfl Tryz.f157,
  tq rfl Tryz.f114,
  tq rfl Tryz.f115,
  tq rfl Tryz.f116,
  tq rfl Tryz.f54,
  tq rfl Tryz.f118,
  tq rfl Tryz.f119,
  tq rfl Tryz.f57,
  tq rfl Tryz.f141,
  tq rfl Tryz.f163,
  tq rfl Tryz.f143,
  tq rfl Tryz.f142,
  tq rfl Tryz.f81,
  tq rfl Tryz.f80,
  tq rfl Tryz.f29,
  tq rfl Tryz.f82,
  tq rfl Tryz.f83,
  tq rfl Tryz.f30,
  tq rfl Tryz.f7,
  tq rfl Tryz.f48,
  tq rfl Tryz.f50,
  tq rfl Tryz.f47,
  tq rfl Tryz.f106,
  tq rfl Tryz.f49,
  tq rfl Tryz.f169,
  tq rfl Tryz.f153,
  tq rfl Tryz.f107,
  tq rfl Tryz.f170,
  tq rfl Tryz.f154,
  tq rfl Tryz.f108,
  tq rfl Tryz.f109,
  tq rfl Tryz.f51,
  tq rfl Tryz.f15,
  tq rfl Tryz.f16,
  tq rfl Tryz.f31,
  tq rfl Tryz.f32,
  tq rfl Tryz.f8,
  tq rfl Tryz.f99,
  tq rfl Tryz.f100,
  tq rfl Tryz.f96,
  tq rfl Tryz.f38,
  tq rfl Tryz.f33,
  tq rfl Tryz.f165,
  tq rfl Tryz.f146,
  tq rfl Tryz.f147,
  tq rfl Tryz.f87,
  tq rfl Tryz.f88,
  tq rfl Tryz.f35,
  tq rfl Tryz.f39,
  tq rfl Tryz.f89,
  tq rfl Tryz.f90,
  tq rfl Tryz.f148,
  tq rfl Tryz.f92,
  tq rfl Tryz.f91,
  tq rfl Tryz.f93,
  tq rfl Tryz.f94,
  tq rfl Tryz.f36,
  tq rfl Tryz.f168,
  tq rfl Tryz.f151,
  tq rfl Tryz.f95,
  tq rfl Tryz.f37,
  tq rfl Tryz.f9,
  tq rfl Tryz.f14,
  tq rfl Tryz.f19,
  tq rfl Tryz.f117,
  tq rfl Tryz.f55,
  tq rfl Tryz.f56,
  tq rfl Tryz.f20,
  tq rfl Tryz.f58,
  tq rfl Tryz.f21,
  tq rfl Tryz.f22,
  tq rfl Tryz.f128,
  tq rfl Tryz.f120,
  tq rfl Tryz.f65,
  tq rfl Tryz.f125,
  tq rfl Tryz.f64,
  tq rfl Tryz.f121,
  tq rfl Tryz.f60,
  tq rfl Tryz.f61,
  tq rfl Tryz.f122,
  tq rfl Tryz.f123,
  tq rfl Tryz.f180,
  tq rfl Tryz.f181,
  tq rfl Tryz.f172,
  tq rfl Tryz.f173,
  tq rfl Tryz.f174,
  tq rfl Tryz.f158,
  tq rfl Tryz.f124,
  tq rfl Tryz.f62,
  tq rfl Tryz.f63,
  tq rfl Tryz.f161,
  tq rfl Tryz.f129,
  tq rfl Tryz.f177,
  tq rfl Tryz.f160,
  tq rfl Tryz.f126,
  tq rfl Tryz.f127,
  tq rfl Tryz.f162,
  tq rfl Tryz.f130,
  tq rfl Tryz.f131,
  tq rfl Tryz.f66,
  tq rfl Tryz.f23,
  tq rfl Tryz.f4,
  tq rfl Tryz.f53,
  tq rfl Tryz.f17,
  tq rfl Tryz.f18,
  tq rfl Tryz.f3,
  tno rfl,
  tno rfl,
  tno rfl,trivial⟩
theorem ts {k:Nat} {xf:De} {g:Tr} {t:Gs} (h:Go.Ev.look tbl k=some xf) (f:pB CV xf g t):CV k g t:=sH tied h f
theorem k56:K56 CV:=fun a0 a1 a2 r h=>ts rfl (F56  a0 a1 a2 r h)
theorem k100:K100 CV:=fun a0 r h=>ts rfl (F100 k56 a0 r h)
theorem k92:K92 CV:=fun a0 a1 r h=>ts rfl (F92  a0 a1 r h)
theorem k111:pD CV:=fun a0 r h=>ts rfl (F111  a0 r h)
theorem k74:K74 CV:=fun a0 a1 r h=>ts rfl (F74 k92 k111 a0 a1 r h)
theorem k53:K53 CV:=fun a0 a1 r h=>ts rfl (F53  a0 a1 r h)
theorem k79:K79 CV:=fun a0 a1 a2 r h=>ts rfl (F79 k53 k92 k111 a0 a1 a2 r h)
theorem k81:K81 CV:=fun a0 a1 r h=>ts rfl (F81 k111 a0 a1 r h)
theorem k102:pC CV:=fun a0 r h=>ts rfl (F102 k111 a0 r h)
theorem k70:K70 CV:=fun a0 a1 a2 r h=>ts rfl (F70 k53 k111 a0 a1 a2 r h)
theorem k86:K86 CV:=fun a0 a1 a2 a3 r h=>ts rfl (F86  a0 a1 a2 a3 r h)
theorem k133:yZ CV:=fun a0 r h=>ts rfl (F133 k102 a0 r h)
theorem k145:NO CV:=fun a0 a1 r h=>ts rfl (F145  a0 a1 r h)
theorem k132:K132 CV:=fun a0 a1 r h=>ts rfl (F132 k70 k86 k102 k133 k145 a0 a1 r h)
theorem k76:K76 CV:=fun a0 a1 r h=>ts rfl (F76 k92 a0 a1 r h)
theorem k146:K146 CV:=fun a0 a1 r h=>ts rfl (F146  a0 a1 r h)
theorem k134:K134 CV:=fun a0 a1 r h=>ts rfl (F134 k76 k86 k102 k133 k145 k146 a0 a1 r h)
theorem k101:K101 CV:=fun a0 a1 r h=>ts rfl (F101 k56 k74 k79 k81 k102 k132 k133 k134 a0 a1 r h)
theorem k50:K50 CV:=fun a0 r h=>ts rfl (F50 k100 k101 k102 a0 r h)
theorem k83:K83 CV:=fun a0 r h=>ts rfl (F83  a0 r h)
theorem k139:K139 CV:=fun a0 r h=>ts rfl (F139  a0 r h)
theorem k117:pE CV:=fun a0 a1 r h=>ts rfl (F117 k139 a0 a1 r h)
theorem k118:K118 CV:=fun a0 a1 r h=>ts rfl (F118  a0 a1 r h)
theorem k119:NL CV:=fun a0 a1 r h=>ts rfl (F119 k117 a0 a1 r h)
theorem k147:K147 CV:=fun a0 r h=>ts rfl (F147 k117 a0 r h)
theorem k135:K135 CV:=fun a0 r h=>ts rfl (F135 k117 k119 k147 a0 r h)
theorem k103:K103 CV:=fun a0 r h=>ts rfl (F103 k117 k118 k135 a0 r h)
theorem k51:K51 CV:=fun a0 r h=>ts rfl (F51 k83 k103 a0 r h)
theorem k269:NP CV:=fun a0 r h=>ts rfl (F269  a0 r h)
theorem k367:K367 CV:=fun a0 f1 k1 is1 hs1 hf1 r h=>ts rfl (F367  a0 f1 k1 is1 hs1 hf1 r h)
theorem k329:K329 CV:=fun a0 f1 k1 is1 hs1 hf1 r h=>ts rfl (F329 k367 a0 f1 k1 is1 hs1 hf1 r h)
theorem k330:K330 CV:=fun a0 f1 k1 is1 hs1 hf1 r h=>ts rfl (F330  a0 f1 k1 is1 hs1 hf1 r h)
theorem k270:K270 CV:=fun a0 f1 k1 is1 hs1 hf1 r h=>ts rfl (F270 k329 k330 a0 f1 k1 is1 hs1 hf1 r h)
theorem k63:yV CV:=fun a0 a1 a2 r h=>ts rfl (F63  a0 a1 a2 r h)
theorem k271:K271 CV:=fun a0 r h=>ts rfl (F271 k63 a0 r h)
theorem k216:pG CV:=fun a0 r h=>ts rfl (F216 k269 k270 k271 a0 r h)
theorem k264:K264 CV:=fun a0 r h=>ts rfl (F264  a0 r h)
theorem k327:NS CV:=fun a0 a1 r h=>ts rfl (F327 k63 a0 a1 r h)
theorem k325:pI CV:=fun a0 r h=>ts rfl (F325  a0 r h)
theorem k326:NQ CV:=fun a0 a1 r h=>ts rfl (F326  a0 a1 r h)
theorem k263:pH CV:=fun a0 r h=>ts rfl (F263 k325 k326 a0 r h)
theorem k366:K366 CV:=fun a0 r h=>ts rfl (F366 k325 a0 r h)
theorem k328:NT CV:=fun a0 a1 a2 r h=>ts rfl (F328 k263 k325 k366 a0 a1 a2 r h)
theorem k265:K265 CV:=fun a0 a1 a2 r h=>ts rfl (F265 k269 k327 k328 a0 a1 a2 r h)
theorem k214:K214 CV:=fun a0 a1 a2 r h=>ts rfl (F214 k216 k264 k265 a0 a1 a2 r h)
theorem k332:NV CV:=fun a0 r h=>ts rfl (F332  a0 r h)
theorem k333:NW CV:=fun a0 r h=>ts rfl (F333  a0 r h)
theorem k275:zA CV:=fun a0 r h=>ts rfl (F275 k63 k325 k332 k333 a0 r h)
theorem k220:K220 CV:=fun a0 r h=>ts rfl (F220 k216 k263 k275 a0 r h)
theorem k268:K268 CV:=fun a0 a1 r h=>ts rfl (F268 k325 k326 a0 a1 r h)
theorem k305:K305 CV:=fun a0 r h=>ts rfl (F305  a0 r h)
theorem k242:K242 CV:=fun a0 a1 r h=>ts rfl (F242 k216 k268 k305 a0 a1 r h)
theorem k306:K306 CV:=fun a0 a1 r h=>ts rfl (F306 k117 k119 a0 a1 r h)
theorem k243:K243 CV:=fun a0 r h=>ts rfl (F243 k83 k306 a0 r h)
theorem k58:K58 CV:=fun a0 r h=>ts rfl (F58 k63 a0 r h)
theorem k59:K59 CV:=fun a0 a1 a2 r h=>ts rfl (F59 k63 a0 a1 a2 r h)
theorem k60:K60 CV:=fun a0 r h=>ts rfl (F60  a0 r h)
theorem k108:K108 CV:=fun a0 f1 k1 is1 hs1 hf1 r h=>ts rfl (F108  a0 f1 k1 is1 hs1 hf1 r h)
theorem k105:K105 CV:=fun a0 f1 k1 is1 hs1 hf1 r h=>ts rfl (F105 k108 a0 f1 k1 is1 hs1 hf1 r h)
theorem k106:K106 CV:=fun a0 f1 k1 is1 hs1 hf1 r h=>ts rfl (F106  a0 f1 k1 is1 hs1 hf1 r h)
theorem k61:K61 CV:=fun a0 f1 k1 is1 hs1 hf1 r h=>ts rfl (F61 k105 k106 a0 f1 k1 is1 hs1 hf1 r h)
theorem k62:K62 CV:=fun a0 a1 r h=>ts rfl (F62 k63 a0 a1 r h)
theorem k20:K20 CV:=fun a0 r h=>ts rfl (F20 k58 k59 k60 k61 k62 a0 r h)
theorem k95:K95 CV:=fun a0 r h=>ts rfl (F95  a0 r h)
theorem k144:K144 CV:=fun a0 a1 r h=>ts rfl (F144  a0 a1 r h)
theorem k126:K126 CV:=fun a0 r h=>ts rfl (F126 k144 a0 r h)
theorem k127:NM CV:=fun a0 f1 k1 is1 hs1 hf1 r h=>ts rfl (F127  a0 f1 k1 is1 hs1 hf1 r h)
theorem k128:K128 CV:=fun a0 a1 r h=>ts rfl (F128  a0 a1 r h)
theorem k96:K96 CV:=fun a0 r h=>ts rfl (F96 k60 k95 k126 k127 k128 a0 r h)
theorem k129:K129 CV:=fun a0 f1 k1 is1 hs1 hf1 r h=>ts rfl (F129 k127 a0 f1 k1 is1 hs1 hf1 r h)
theorem k130:K130 CV:=fun a0 f1 k1 is1 hs1 hf1 r h=>ts rfl (F130  a0 f1 k1 is1 hs1 hf1 r h)
theorem k97:K97 CV:=fun a0 f1 k1 is1 hs1 hf1 r h=>ts rfl (F97 k129 k130 a0 f1 k1 is1 hs1 hf1 r h)
theorem k113:K113 CV:=fun a0 a1 f2 k2 is2 hs2 hf2 r h=>ts rfl (F113  a0 a1 f2 k2 is2 hs2 hf2 r h)
theorem k136:NN CV:=fun a0 r h=>ts rfl (F136  a0 r h)
theorem k110:NK CV:=fun a0 a1 r h=>ts rfl (F110 k136 a0 a1 r h)
theorem k114:K114 CV:=fun a0 a1 r h=>ts rfl (F114 k110 a0 a1 r h)
theorem k77:K77 CV:=fun a0 a1 r h=>ts rfl (F77 k113 k114 a0 a1 r h)
theorem k98:K98 CV:=fun a0 a1 r h=>ts rfl (F98 k77 a0 a1 r h)
theorem k48:K48 CV:=fun a0 r h=>ts rfl (F48 k20 k59 k95 k96 k97 k98 a0 r h)
theorem k358:K358 CV:=fun a0 r h=>ts rfl (F358  a0 r h)
theorem k359:K359 CV:=fun a0 a1 a2 r h=>ts rfl (F359  a0 a1 a2 r h)
theorem k313:K313 CV:=fun a0 r h=>ts rfl (F313 k358 k359 a0 r h)
theorem k250:K250 CV:=fun a0 r h=>ts rfl (F250 k48 k313 a0 r h)
theorem k87:K87 CV:=fun a0 r h=>ts rfl (F87  a0 r h)
theorem k120:yY CV:=fun a0 r h=>ts rfl (F120  a0 r h)
theorem k321:K321 CV:=fun a0 r h=>ts rfl (F321  a0 r h)
theorem k362:NX CV:=fun a0 r h=>ts rfl (F362 k63 a0 r h)
theorem k322:K322 CV:=fun a0 r h=>ts rfl (F322 k362 a0 r h)
theorem k375:K375 CV:=fun a0 a1 r h=>ts rfl (F375  a0 a1 r h)
theorem k372:K372 CV:=fun a0 a1 r h=>ts rfl (F372 k375 a0 a1 r h)
theorem k363:K363 CV:=fun a0 a1 r h=>ts rfl (F363 k372 a0 a1 r h)
theorem k370:K370 CV:=fun a0 a1 r h=>ts rfl (F370  a0 a1 r h)
theorem k341:K341 CV:=fun a0 a1 r h=>ts rfl (F341 k370 a0 a1 r h)
theorem k364:NY CV:=fun a0 r h=>ts rfl (F364 k341 a0 r h)
theorem k365:K365 CV:=fun a0 a1 a2 r h=>ts rfl (F365 k364 a0 a1 a2 r h)
theorem k323:K323 CV:=fun a0 a1 r h=>ts rfl (F323 k363 k364 k365 a0 a1 r h)
theorem k258:K258 CV:=fun a0 a1 r h=>ts rfl (F258 k48 k87 k120 k321 k322 k323 a0 a1 r h)
theorem k260:K260 CV:=fun a0 a1 r h=>ts rfl (F260  a0 a1 r h)
theorem k41:K41 CV:=fun a0 a1 r h=>ts rfl (F41  a0 a1 r h)
theorem k52:K52 CV:=fun a0 a1 r h=>ts rfl (F52  a0 a1 r h)
theorem k261:K261 CV:=fun a0 a1 r h=>ts rfl (F261 k41 k52 a0 a1 r h)
theorem k267:K267 CV:=fun a0 r h=>ts rfl (F267 k263 a0 r h)
theorem k331:NU CV:=fun a0 a1 r h=>ts rfl (F331  a0 a1 r h)
theorem k274:K274 CV:=fun a0 r h=>ts rfl (F274 k331 k332 a0 r h)
theorem k273:K273 CV:=fun a0 a1 r h=>ts rfl (F273 k263 k267 k274 k275 k327 k328 a0 a1 r h)
theorem k393:K393 CV:=fun a0 r h=>ts rfl (F393  a0 r h)
theorem k429:K429 CV:=fun a0 f1 k1 is1 hs1 hf1 r h=>ts rfl (F429  a0 f1 k1 is1 hs1 hf1 r h)
theorem k424:K424 CV:=fun a0 f1 k1 is1 hs1 hf1 r h=>ts rfl (F424 k429 a0 f1 k1 is1 hs1 hf1 r h)
theorem k425:K425 CV:=fun a0 f1 k1 is1 hs1 hf1 r h=>ts rfl (F425  a0 f1 k1 is1 hs1 hf1 r h)
theorem k413:K413 CV:=fun a0 f1 k1 is1 hs1 hf1 r h=>ts rfl (F413 k424 k425 a0 f1 k1 is1 hs1 hf1 r h)
theorem k414:OB CV:=fun a0 r h=>ts rfl (F414 k362 a0 r h)
theorem k394:K394 CV:=fun a0 r h=>ts rfl (F394 k413 k414 a0 r h)
theorem k395:K395 CV:=fun a0 r h=>ts rfl (F395 k331 a0 r h)
theorem k403:K403 CV:=fun a0 r h=>ts rfl (F403  a0 r h)
theorem k416:K416 CV:=fun a0 a1 f2 k2 is2 hs2 hf2 r h=>ts rfl (F416  a0 a1 f2 k2 is2 hs2 hf2 r h)
theorem k427:K427 CV:=fun a0 a1 r h=>ts rfl (F427  a0 a1 r h)
theorem k418:K418 CV:=fun a0 a1 r h=>ts rfl (F418 k427 a0 a1 r h)
theorem k417:K417 CV:=fun a0 a1 r h=>ts rfl (F417 k418 a0 a1 r h)
theorem k419:K419 CV:=fun a0 a1 a2 r h=>ts rfl (F419  a0 a1 a2 r h)
theorem k420:K420 CV:=fun a0 a1 a2 r h=>ts rfl (F420  a0 a1 a2 r h)
theorem k397:NZ CV:=fun a0 a1 r h=>ts rfl (F397 k403 k416 k417 k419 k420 a0 a1 r h)
theorem k426:K426 CV:=fun a0 a1 r h=>ts rfl (F426  a0 a1 r h)
theorem k415:K415 CV:=fun a0 r h=>ts rfl (F415 k333 k426 a0 r h)
theorem k396:K396 CV:=fun a0 r h=>ts rfl (F396 k414 k415 a0 r h)
theorem k398:OA CV:=fun a0 r h=>ts rfl (F398 k263 k275 k396 k397 a0 r h)
theorem k382:K382 CV:=fun a0 a1 r h=>ts rfl (F382 k216 k273 k393 k394 k395 k397 k398 a0 a1 r h)
theorem k384:K384 CV:=fun a0 r h=>ts rfl (F384 k216 k398 a0 r h)
theorem k455:K455 CV:=fun a0 r h=>ts rfl (F455  a0 r h)
theorem k468:K468 CV:=fun a0 f1 k1 is1 hs1 hf1 r h=>ts rfl (F468  a0 f1 k1 is1 hs1 hf1 r h)
theorem k461:K461 CV:=fun a0 f1 k1 is1 hs1 hf1 r h=>ts rfl (F461 k468 a0 f1 k1 is1 hs1 hf1 r h)
theorem k462:K462 CV:=fun a0 f1 k1 is1 hs1 hf1 r h=>ts rfl (F462  a0 f1 k1 is1 hs1 hf1 r h)
theorem k456:K456 CV:=fun a0 f1 k1 is1 hs1 hf1 r h=>ts rfl (F456 k461 k462 a0 f1 k1 is1 hs1 hf1 r h)
theorem k88:K88 CV:=fun a0 r h=>ts rfl (F88 k63 a0 r h)
theorem k457:OC CV:=fun a0 r h=>ts rfl (F457 k63 k87 k88 k97 a0 r h)
theorem k458:K458 CV:=fun  r h=>ts rfl (F458   r h)
theorem k66:K66 CV:=fun a0 r h=>ts rfl (F66  a0 r h)
theorem k112:lO CV:=fun a0 r h=>ts rfl (F112 k66 a0 r h)
theorem k75:K75 CV:=fun a0 a1 r h=>ts rfl (F75 k77 k112 a0 a1 r h)
theorem k54:K54 CV:=fun a0 a1 r h=>ts rfl (F54  a0 a1 r h)
theorem k80:K80 CV:=fun a0 a1 a2 r h=>ts rfl (F80 k54 k77 k112 a0 a1 a2 r h)
theorem k469:OE CV:=fun a0 r h=>ts rfl (F469  a0 r h)
theorem k463:K463 CV:=fun a0 r h=>ts rfl (F463 k112 k120 k469 a0 r h)
theorem k464:zB CV:=fun a0 a1 r h=>ts rfl (F464  a0 a1 r h)
theorem k71:K71 CV:=fun a0 a1 a2 r h=>ts rfl (F71 k54 k112 a0 a1 a2 r h)
theorem k470:OF CV:=fun a0 r h=>ts rfl (F470  a0 r h)
theorem k140:K140 CV:=fun a0 a1 r h=>ts rfl (F140 k136 a0 a1 r h)
theorem k141:K141 CV:=fun a0 r h=>ts rfl (F141  a0 r h)
theorem k121:K121 CV:=fun a0 a1 r h=>ts rfl (F121 k140 k141 a0 a1 r h)
theorem k122:K122 CV:=fun a0 a1 a2 r h=>ts rfl (F122  a0 a1 a2 r h)
theorem k123:K123 CV:=fun a0 a1 a2 r h=>ts rfl (F123  a0 a1 a2 r h)
theorem k89:K89 CV:=fun a0 a1 a2 a3 r h=>ts rfl (F89 k120 k121 k122 k123 a0 a1 a2 a3 r h)
theorem k471:OG CV:=fun a0 a1 a2 r h=>ts rfl (F471 k89 a0 a1 a2 r h)
theorem k465:K465 CV:=fun a0 a1 r h=>ts rfl (F465 k71 k464 k470 k471 a0 a1 r h)
theorem k466:K466 CV:=fun a0 a1 a2 r h=>ts rfl (F466 k464 a0 a1 a2 r h)
theorem k115:K115 CV:=fun a0 a1 a2 r h=>ts rfl (F115  a0 a1 a2 r h)
theorem k78:K78 CV:=fun a0 a1 r h=>ts rfl (F78 k112 k115 a0 a1 r h)
theorem k109:K109 CV:=fun a0 r h=>ts rfl (F109  a0 r h)
theorem k69:K69 CV:=fun a0 a1 r h=>ts rfl (F69 k109 k110 a0 a1 r h)
theorem k116:K116 CV:=fun a0 f1 k1 is1 hs1 hf1 r h=>by
  subst hs1
  have h1:vI a0 is1=some r:=h
  unfold vI at h1
  split at h1
  · rename_i hc
    obtain ⟨ht,hS,hl⟩:=hc
    obtain rfl:=Option.some.inj h1
    have hcf:∀x y,is1 x y=some ((is1 x y).getD 0):=fun x y=>by
      obtain ⟨n,hn⟩:=ht x y
      rw [hn]
      rfl
    have hp:∀x:Af,∀c∈Bg x,Ml c=true:=fun x c hc=>by
      simp only [Bg,List.mem_cons,List.not_mem_nil,or_false] at hc
      rcases hc with rfl | rfl | rfl | rfl<;>rfl
    refine sortV (e:=Bg) (k:=4) (fun _=>rfl) hp (by decide) (cf:=fun x y=>(is1 x y).getD 0) (fun fid hf=>?_) hS hl fun x y=>hf1 x y _ (hcf x y)
    obtain rfl:=KX (k:=159) rfl hf
    exact ⟨⟨Tryz.f159,Tryz.func159,by kernel_rfl,by kernel_rfl⟩,fun p cap fv w=>AnyF.slices_SortFunc_none Tryz.sortLay p cap fv w,fun cf hS g cb blk off cap d w eg hcmp hH hb hs=>
      AnyQ.slices_SortFunc_eq Tryz.sortLay 4 Tryz.isAgg131 Tryz.sizeOf131 (fun x:Af=>(Bg x).map cv) (fun _=>rfl) (fun x v hv=>by
        obtain ⟨c,hc,rfl⟩:=List.mem_map.1 hv
        exact jI (hp x c hc)) cf hS g cb blk off cap d w eg hcmp hH hb hs⟩
  · cases h1
theorem k82:K82 CV:=fun a0 a1 r h=>ts rfl (F82 k60 k69 k112 k116 a0 a1 r h)
theorem k472:K472 CV:=fun a0 a1 r h=>ts rfl (F472  a0 a1 r h)
theorem k475:K475 CV:=fun a0 f1 k1 is1 hs1 hf1 r h=>ts rfl (F475  a0 f1 k1 is1 hs1 hf1 r h)
theorem k473:K473 CV:=fun a0 f1 k1 is1 hs1 hf1 r h=>ts rfl (F473 k475 a0 f1 k1 is1 hs1 hf1 r h)
theorem k474:K474 CV:=fun a0 a1 r h=>ts rfl (F474  a0 a1 r h)
theorem k467:K467 CV:=fun a0 a1 r h=>ts rfl (F467 k66 k77 k78 k82 k469 k470 k471 k472 k473 k474 a0 a1 r h)
theorem k459:OD CV:=fun a0 a1 r h=>ts rfl (F459 k63 k75 k80 k463 k464 k465 k466 k467 a0 a1 r h)
theorem k438:K438 CV:=fun a0 r h=>ts rfl (F438 k455 k456 k457 k458 k459 a0 r h)
theorem k460:K460 CV:=fun a0 r h=>ts rfl (F460  a0 r h)
theorem k439:K439 CV:=fun a0 r h=>ts rfl (F439 k20 k87 k96 k460 a0 r h)
theorem k440:K440 CV:=fun a0 a1 r h=>ts rfl (F440 k48 k457 k459 a0 a1 r h)
theorem k433:K433 CV:=fun a0 a1 r h=>ts rfl (F433 k50 k51 k214 k220 k242 k243 k250 k258 k260 k261 k382 k384 k438 k439 k440 a0 a1 r h)

theorem own:ownKnob Tryz.prog.godebug=none:=by kernel_rfl
theorem laid:laidOutB Tryz.prog=true:=by kernel_rfl
theorem lifted (os:Os) (started:os.Started) (H:Type) (enc:TypeId×Value→H):
    ReturnsInHanded {} Tryz.checked os 3 .any (Rows.fnTopSpec.pre6 enc Tryz.prog Tryz.f3 Rows.fnTopRow.domain false) (Rows.fnTopSpec.post enc Tryz.prog Tryz.f3 false true false false):=by
  refine returnsInHanded_of_change_sized (C:=Tryz.checked) own started (by kernel_rfl) Tryz.func3
    (ChangeSpec.witness6 (enc:=enc) (C:=Tryz.checked) false ⟨#[],#[.slice none 0 0,.slice none 0 0],[]⟩ 8 (by kernel_rfl) (by kernel_rfl) (by kernel_rfl) (by kernel_rfl)) ?_
  intro W base args ds gs before hval0 hW hcnd hsz0 _
  have hval:∀(j:Nat) t v,Tryz.f3.params[j]? = some t→args[j]? = some v→Value.okWide Tryz.prog W .any base t v:=hval0
  have hW':=hW
  obtain ⟨p,q,hA0,hV,rfl,hfz,hnd⟩:=hW
  have hA:DataW.TrodAll enc Tryz.prog W 0 (fun _=>true) true Tryz.f3.params.toList args.toList ds p:=hA0
  rw [Tryz.params3] at hA hval
  obtain ⟨v0,vs0,d0,ds0,p0,q0,hargs,rfl,rfl,h0,r0⟩:=trodAll_cons hA
  obtain ⟨v1,vs1,d1,ds1,p1,q1,rfl,rfl,rfl,h1,r1⟩:=trodAll_cons r0
  obtain ⟨rfl,rfl,rfl⟩:=trodAll_nil r1
  obtain rfl:args = #[v0,v1]:=by cases args; simp_all
  obtain ⟨rfl,rfl⟩:=trodVars_none hV
  obtain ⟨u0,t0,rt0⟩:=arg_V (φ:=phi) (n:=12) (T:=.slice 1 (.int .u8)) (by kernel_rfl) (hval 0 22 v0 rfl rfl) h0
  obtain ⟨a0,rfl,o0⟩:=Ok.arg1 (e:=(eL 1 Gh)) (fun x=>.lst 1 (x.map Gh)) (fun _=>rfl) (Ok.slice Ok.u8) t0
  have hlt0:∀x∈p0,x.block<W.heap.size:=fun x hx=>hW'.lt x (by simp [hx])
  obtain ⟨u1,t1,rt1⟩:=arg_V (φ:=phi) (n:=12) (T:=.slice 1 (.int .u8)) (by kernel_rfl) (hval 1 22 v1 rfl rfl) h1
  obtain ⟨a1,rfl,o1⟩:=Ok.arg1 (e:=(eL 1 Gh)) (fun x=>.lst 1 (x.map Gh)) (fun _=>rfl) (Ok.slice Ok.u8) t1
  have hlt1:∀x∈p1,x.block<W.heap.size:=fun x hx=>hW'.lt x (by simp [hx])
  have hc:=xJ (P:=Tryz.prog) (φ:=phi) (f:=433) (fid:=3) (vals:=[v0,v1]) (vs:=[.lst 1 (a0.map Gh),.lst 1 (a1.map Gh)]) (w:=W) rfl rfl (rts rt0 (rts rt1 rtz)) (k433 a0 a1 true (JA a0 a1 o0 o1))
  refine hc.mono fun e W' ⟨he,bel⟩=>?_
  subst he
  exact ⟨_,rfl,_,_,_,[],_,[],hW',trodAll_mk1 (shut_bool Tryz.underlying4 _),(trodAll_cons_mk (Below.trod laid (by kernel_rfl) (of_decide_eq_true (by kernel_rfl)) h0 bel hlt0) (trodAll_cons_mk (Below.trod laid (by kernel_rfl) (of_decide_eq_true (by kernel_rfl)) h1 bel hlt1) trodAll_mk0)),rfl,bel.frame _,fun h=>by cases h⟩
theorem over:Rows.fnTopRow.holds Tryz.pinned (OpenSpec.ofChange Rows.fnTopSpec):=
  OpenClaim.holds_of_wide 3 Tryz.f3 rfl rfl rfl rfl rfl rfl rfl ⟨rfl,rfl,rfl,rfl,rfl⟩ rfl rfl rfl rfl rfl (by kernel_rfl) Tryz.func3 joined
    (of_decide_eq_true (by kernel_rfl)) (by unfold Func.isWrapper; first | (rw [if_pos (by decide +kernel)]; kernel_rfl) | (rw [if_neg (by decide +kernel)]; exact ⟨rfl,rfl⟩))
    (fun os started H enc _=>lifted os started H enc)
end Go.Proofs.YtfpbbpkdjmldkaaGreat.fnTop
namespace Go.Proofs.YtfpbbpkdjmldkaaGreat
/-- FnTop. -/
theorem fnTop_holds:Rows.FnTopSaid:=fnTop.over
end Go.Proofs.YtfpbbpkdjmldkaaGreat
