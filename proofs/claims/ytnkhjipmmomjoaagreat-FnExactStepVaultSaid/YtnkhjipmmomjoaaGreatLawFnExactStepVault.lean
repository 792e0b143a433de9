/- FnExactStepVault: whatever the input, the law returns true, and its arguments read behind the call as they read before. No condition: every input. -/
import Derived.Test.YtnkhjipmmomjoaaGreatRows
import Derived.Test.YtnkhjipmmomjoaaGreatQgJ
import Derived.Test.YtnkhjipmmomjoaaGreatQvT
import Derived.Test.YtnkhjipmmomjoaaGreatQgW4
import Derived.Test.YtnkhjipmmomjoaaGreatQwZ
import Derived.WalkKit
import Derived.ProofKit
import Derived.OpenShut
import Derived.ShutString
import Derived.ChangeOld
import Derived.Below
import Derived.SizedLaws
import Derived.Carry
set_option linter.all false
set_option maxRecDepth 100000
namespace Go.Proofs.YtnkhjipmmomjoaaGreat.fnExactStepVault
open Go.ChangeShapes Go.WideShapes Go.ChangeAt Go.RowKit Go.Ev
def phi:Eg:=[(169,55),(93,17),(94,90),(95,91),(36,45),(210,104),(170,57),(96,19),(98,43),(171,125),(97,94),(38,47),(209,107),(165,64),(84,21),(86,36),(166,131),(85,99),(28,49),(167,72),(88,26),(87,37),(89,315),(32,252),(168,73),(90,27),(92,38),(91,324),(34,259),(102,63),(149,58),(79,59),(150,60),(223,108),(204,105),(205,106),(151,61),(152,62),(75,20),(80,95),(206,144),(153,126),(154,127),(155,128),(77,96),(160,129),(161,130),(81,97),(162,113),(208,136),(164,110),(163,114),(83,77),(82,98),(25,48),(71,87),(101,88),(45,457),(181,66),(173,112),(108,75),(178,54),(107,80),(73,120),(174,469),(103,463),(104,464),(175,71),(176,470),(232,140),(233,141),(224,121),(225,122),(226,123),(211,89),(177,471),(105,465),(106,466),(214,115),(182,78),(229,109),(213,69),(236,148),(247,159),(237,149),(244,156),(245,157),(228,138),(248,160),(249,161),(238,150),(253,165),(251,163),(250,162),(239,151),(240,152),(241,153),(242,154),(243,155),(227,137),(212,116),(179,82),(180,472),(215,475),(183,473),(184,474),(109,467),(47,459),(22,440),(113,56),(156,18),(157,85),(158,92),(207,124),(159,93),(78,46),(50,100),(120,111),(116,74),(190,53),(115,79),(117,81),(52,102),(187,70),(188,86),(118,133),(189,145),(114,132),(191,76),(192,146),(119,134),(51,101),(24,442),(37,450),(39,451),(40,452),(41,453),(42,454),(7,437),(235,143)]
abbrev CV:Bj:=Dq Tryz.prog phi
def tbl:List (Nat×Cz):=[(55,c55),(17,oA),(90,c90),(91,c91),(45,oC),(104,c104),(57,c57),(19,yJ),(43,c43),(125,c125),(94,c94),(47,c47),(107,IF),(64,c64),(21,c21),(36,sP),(131,c131),(99,c99),(49,c49),(72,c72),(26,oB),(37,c37),(315,c315),(252,c252),(73,c73),(27,cP),(38,c38),(324,c324),(259,c259),(63,c63),(58,c58),(59,c59),(60,c60),(108,IS),(105,c105),(106,c106),(61,c61),(62,c62),(20,kP),(95,c95),(144,QH),(126,c126),(127,c127),(128,c128),(96,c96),(129,c129),(130,c130),(97,c97),(113,c113),(136,c136),(110,c110),(114,c114),(77,c77),(98,c98),(48,c48),(87,c87),(88,c88),(457,c457),(66,c66),(112,iE),(75,c75),(54,c54),(80,c80),(120,KY),(469,c469),(463,c463),(464,c464),(71,c71),(470,c470),(140,c140),(141,c141),(121,qE),(122,LP),(123,c123),(89,c89),(471,c471),(465,c465),(466,c466),(115,c115),(78,c78),(109,c109),(69,c69),(148,c148),(159,c159),(149,c149),(156,UZ),(157,c157),(138,PZ),(160,c160),(161,c161),(150,c150),(165,c165),(163,c163),(162,WJ),(151,c151),(152,c152),(153,c153),(154,c154),(155,c155),(137,c137),(116,c116),(82,c82),(472,c472),(475,c475),(473,c473),(474,c474),(467,c467),(459,c459),(440,c440),(56,c56),(18,c18),(85,c85),(92,c92),(124,c124),(93,c93),(46,c46),(100,c100),(111,c111),(74,c74),(53,c53),(79,c79),(81,c81),(102,c102),(70,c70),(86,c86),(133,c133),(145,c145),(132,c132),(76,c76),(146,c146),(134,c134),(101,c101),(442,c442),(450,c450),(451,c451),(452,c452),(453,c453),(454,c454),(437,c437)]
theorem tq {p:Nat×Nat} {xf:Cz} (h1:Go.Ev.look tbl p.2=some xf) (fn:Func) (h2:Tryz.prog.funcs[p.1]? = some fn:=by kernel_rfl) (h3:Qg Tryz.prog phi fn=some xf:=by kernel_rfl):Xj Tryz.prog phi tbl p:=tone h1 fn h2 h3
theorem tied:Tied Tryz.prog phi (Go.Ev.look tbl):=FF ⟨tq rfl Tryz.f169,
  tq rfl Tryz.f93,
  tq rfl Tryz.f94,
  tq rfl Tryz.f95,
  tq rfl Tryz.f36,
  tq rfl Tryz.f210,
  tq rfl Tryz.f170,
  tq rfl Tryz.f96,
  tq rfl Tryz.f98,
  tq rfl Tryz.f171,
  tq rfl Tryz.f97,
  tq rfl Tryz.f38,
  tq rfl Tryz.f209,
  tq rfl Tryz.f165,
  tq rfl Tryz.f84,
  tq rfl Tryz.f86,
  tq rfl Tryz.f166,
  tq rfl Tryz.f85,
  tq rfl Tryz.f28,
  tq rfl Tryz.f167,
  tq rfl Tryz.f88,
  tq rfl Tryz.f87,
  tq rfl Tryz.f89,
  tq rfl Tryz.f32,
  tq rfl Tryz.f168,
  tq rfl Tryz.f90,
  tq rfl Tryz.f92,
  tq rfl Tryz.f91,
  tq rfl Tryz.f34,
  tq rfl Tryz.f102,
  tq rfl Tryz.f149,
  tq rfl Tryz.f79,
  tq rfl Tryz.f150,
  tq rfl Tryz.f223,
  tq rfl Tryz.f204,
  tq rfl Tryz.f205,
  tq rfl Tryz.f151,
  tq rfl Tryz.f152,
  tq rfl Tryz.f75,
  tq rfl Tryz.f80,
  tq rfl Tryz.f206,
  tq rfl Tryz.f153,
  tq rfl Tryz.f154,
  tq rfl Tryz.f155,
  tq rfl Tryz.f77,
  tq rfl Tryz.f160,
  tq rfl Tryz.f161,
  tq rfl Tryz.f81,
  tq rfl Tryz.f162,
  tq rfl Tryz.f208,
  tq rfl Tryz.f164,
  tq rfl Tryz.f163,
  tq rfl Tryz.f83,
  tq rfl Tryz.f82,
  tq rfl Tryz.f25,
  tq rfl Tryz.f71,
  tq rfl Tryz.f101,
  tq rfl Tryz.f45,
  tq rfl Tryz.f181,
  tq rfl Tryz.f173,
  tq rfl Tryz.f108,
  tq rfl Tryz.f178,
  tq rfl Tryz.f107,
  tq rfl Tryz.f73,
  tq rfl Tryz.f174,
  tq rfl Tryz.f103,
  tq rfl Tryz.f104,
  tq rfl Tryz.f175,
  tq rfl Tryz.f176,
  tq rfl Tryz.f232,
  tq rfl Tryz.f233,
  tq rfl Tryz.f224,
  tq rfl Tryz.f225,
  tq rfl Tryz.f226,
  tq rfl Tryz.f211,
  tq rfl Tryz.f177,
  tq rfl Tryz.f105,
  tq rfl Tryz.f106,
  tq rfl Tryz.f214,
  tq rfl Tryz.f182,
  tq rfl Tryz.f229,
  tq rfl Tryz.f213,
  tq rfl Tryz.f236,
  tq rfl Tryz.f247,
  tq rfl Tryz.f237,
  tq rfl Tryz.f244,
  tq rfl Tryz.f245,
  tq rfl Tryz.f228,
  tq rfl Tryz.f248,
  tq rfl Tryz.f249,
  tq rfl Tryz.f238,
  tq rfl Tryz.f253,
  tq rfl Tryz.f251,
  tq rfl Tryz.f250,
  tq rfl Tryz.f239,
  tq rfl Tryz.f240,
  tq rfl Tryz.f241,
  tq rfl Tryz.f242,
  tq rfl Tryz.f243,
  tq rfl Tryz.f227,
  tq rfl Tryz.f212,
  tq rfl Tryz.f179,
  tq rfl Tryz.f180,
  tq rfl Tryz.f215,
  tq rfl Tryz.f183,
  tq rfl Tryz.f184,
  tq rfl Tryz.f109,
  tq rfl Tryz.f47,
  tq rfl Tryz.f22,
  tq rfl Tryz.f113,
  tq rfl Tryz.f156,
  tq rfl Tryz.f157,
  tq rfl Tryz.f158,
  tq rfl Tryz.f207,
  tq rfl Tryz.f159,
  tq rfl Tryz.f78,
  tq rfl Tryz.f50,
  tq rfl Tryz.f120,
  tq rfl Tryz.f116,
  tq rfl Tryz.f190,
  tq rfl Tryz.f115,
  tq rfl Tryz.f117,
  tq rfl Tryz.f52,
  tq rfl Tryz.f187,
  tq rfl Tryz.f188,
  tq rfl Tryz.f118,
  tq rfl Tryz.f189,
  tq rfl Tryz.f114,
  tq rfl Tryz.f191,
  tq rfl Tryz.f192,
  tq rfl Tryz.f119,
  tq rfl Tryz.f51,
  tq rfl Tryz.f24,
  tq rfl Tryz.f37,
  tq rfl Tryz.f39,
  tq rfl Tryz.f40,
  tq rfl Tryz.f41,
  tq rfl Tryz.f42,
  tq rfl Tryz.f7,
  tno rfl,trivial⟩
theorem ts {k:Nat} {xf:Cz} {g:Gj} {t:Fk} (h:Go.Ev.look tbl k=some xf) (f:hO CV xf g t):CV k g t:=bO tied h f
theorem k55:K55 CV:=fun a0 a1 r h=>ts rfl (F55  a0 a1 r h)
theorem k17:K17 CV:=fun a0 a1 r h=>ts rfl (F17 k55 a0 a1 r h)
theorem k90:K90 CV:=fun a0 a1 r h=>ts rfl (F90  a0 a1 r h)
theorem k91:K91 CV:=fun a0 a1 r h=>ts rfl (F91  a0 a1 r h)
theorem k45:K45 CV:=fun a0 a1 r h=>ts rfl (F45 k17 k90 k91 a0 a1 r h)
theorem k104:K104 CV:=fun a0 r h=>ts rfl (F104  a0 r h)
theorem k57:K57 CV:=fun a0 r h=>ts rfl (F57 k104 a0 r h)
theorem k19:K19 CV:=fun a0 r h=>ts rfl (F19 k57 a0 r h)
theorem k43:K43 CV:=fun a0 r h=>ts rfl (F43  a0 r h)
theorem k125:K125 CV:=fun a0 r h=>ts rfl (F125  a0 r h)
theorem k94:K94 CV:=fun a0 r h=>ts rfl (F94 k125 a0 r h)
theorem k47:K47 CV:=fun a0 r h=>ts rfl (F47 k19 k43 k94 a0 r h)
theorem k107:K107 CV:=fun a0 a1 r h=>ts rfl (F107  a0 a1 r h)
theorem k64:K64 CV:=fun a0 a1 r h=>ts rfl (F64 k107 a0 a1 r h)
theorem k21:K21 CV:=fun a0 a1 r h=>ts rfl (F21 k64 a0 a1 r h)
theorem k36:K36 CV:=fun a0 a1 r h=>ts rfl (F36  a0 a1 r h)
theorem k131:K131 CV:=fun a0 a1 r h=>ts rfl (F131  a0 a1 r h)
theorem k99:K99 CV:=fun a0 a1 r h=>ts rfl (F99 k131 a0 a1 r h)
theorem k49:K49 CV:=fun a0 a1 r h=>ts rfl (F49 k21 k36 k99 a0 a1 r h)
theorem k72:K72 CV:=fun a0 a1 r h=>ts rfl (F72  a0 a1 r h)
theorem k26:K26 CV:=fun a0 a1 r h=>ts rfl (F26 k72 a0 a1 r h)
theorem k37:K37 CV:=fun a0 a1 r h=>ts rfl (F37  a0 a1 r h)
theorem k315:K315 CV:=fun a0 a1 r h=>ts rfl (F315  a0 a1 r h)
theorem k252:K252 CV:=fun a0 a1 r h=>ts rfl (F252 k26 k37 k315 a0 a1 r h)
theorem k73:K73 CV:=fun a0 a1 r h=>ts rfl (F73  a0 a1 r h)
theorem k27:K27 CV:=fun a0 a1 r h=>ts rfl (F27 k73 a0 a1 r h)
theorem k38:K38 CV:=fun a0 a1 r h=>ts rfl (F38  a0 a1 r h)
theorem k324:K324 CV:=fun a0 a1 r h=>ts rfl (F324  a0 a1 r h)
theorem k259:K259 CV:=fun a0 a1 r h=>ts rfl (F259 k27 k38 k324 a0 a1 r h)
theorem k63:K63 CV:=fun a0 a1 a2 r h=>ts rfl (F63  a0 a1 a2 r h)
theorem k58:K58 CV:=fun a0 r h=>ts rfl (F58 k63 a0 r h)
theorem k59:K59 CV:=fun a0 a1 a2 r h=>ts rfl (F59 k63 a0 a1 a2 r h)
theorem k60:K60 CV:=fun a0 r h=>ts rfl (F60  a0 r h)
theorem k108:K108 CV:=fun a0 f1 k1 is1 hs1 hf1 r h=>ts rfl (F108  a0 f1 k1 is1 hs1 hf1 r h)
theorem k105:K105 CV:=fun a0 f1 k1 is1 hs1 hf1 r h=>ts rfl (F105 k108 a0 f1 k1 is1 hs1 hf1 r h)
theorem k106:K106 CV:=fun a0 f1 k1 is1 hs1 hf1 r h=>ts rfl (F106  a0 f1 k1 is1 hs1 hf1 r h)
theorem k61:K61 CV:=fun a0 f1 k1 is1 hs1 hf1 r h=>ts rfl (F61 k105 k106 a0 f1 k1 is1 hs1 hf1 r h)
theorem k62:K62 CV:=fun a0 a1 r h=>ts rfl (F62 k63 a0 a1 r h)
theorem k20:K20 CV:=fun a0 r h=>ts rfl (F20 k58 k59 k60 k61 k62 a0 r h)
theorem k95:K95 CV:=fun a0 r h=>ts rfl (F95  a0 r h)
theorem k144:K144 CV:=fun a0 a1 r h=>ts rfl (F144  a0 a1 r h)
theorem k126:K126 CV:=fun a0 r h=>ts rfl (F126 k144 a0 r h)
theorem k127:GL CV:=fun a0 f1 k1 is1 hs1 hf1 r h=>ts rfl (F127  a0 f1 k1 is1 hs1 hf1 r h)
theorem k128:K128 CV:=fun a0 a1 r h=>ts rfl (F128  a0 a1 r h)
theorem k96:K96 CV:=fun a0 r h=>ts rfl (F96 k60 k95 k126 k127 k128 a0 r h)
theorem k129:K129 CV:=fun a0 f1 k1 is1 hs1 hf1 r h=>ts rfl (F129 k127 a0 f1 k1 is1 hs1 hf1 r h)
theorem k130:K130 CV:=fun a0 f1 k1 is1 hs1 hf1 r h=>ts rfl (F130  a0 f1 k1 is1 hs1 hf1 r h)
theorem k97:K97 CV:=fun a0 f1 k1 is1 hs1 hf1 r h=>ts rfl (F97 k129 k130 a0 f1 k1 is1 hs1 hf1 r h)
theorem k113:K113 CV:=fun a0 a1 f2 k2 is2 hs2 hf2 r h=>ts rfl (F113  a0 a1 f2 k2 is2 hs2 hf2 r h)
theorem k136:GM CV:=fun a0 r h=>ts rfl (F136  a0 r h)
theorem k110:GJ CV:=fun a0 a1 r h=>ts rfl (F110 k136 a0 a1 r h)
theorem k114:K114 CV:=fun a0 a1 r h=>ts rfl (F114 k110 a0 a1 r h)
theorem k77:K77 CV:=fun a0 a1 r h=>ts rfl (F77 k113 k114 a0 a1 r h)
theorem k98:K98 CV:=fun a0 a1 r h=>ts rfl (F98 k77 a0 a1 r h)
theorem k48:K48 CV:=fun a0 r h=>ts rfl (F48 k20 k59 k95 k96 k97 k98 a0 r h)
theorem k87:K87 CV:=fun a0 r h=>ts rfl (F87  a0 r h)
theorem k88:K88 CV:=fun a0 r h=>ts rfl (F88 k63 a0 r h)
theorem k457:K457 CV:=fun a0 r h=>ts rfl (F457 k63 k87 k88 k97 a0 r h)
theorem k66:K66 CV:=fun a0 r h=>ts rfl (F66  a0 r h)
theorem k112:hP CV:=fun a0 r h=>ts rfl (F112 k66 a0 r h)
theorem k75:K75 CV:=fun a0 a1 r h=>ts rfl (F75 k77 k112 a0 a1 r h)
theorem k54:K54 CV:=fun a0 a1 r h=>ts rfl (F54  a0 a1 r h)
theorem k80:K80 CV:=fun a0 a1 a2 r h=>ts rfl (F80 k54 k77 k112 a0 a1 a2 r h)
theorem k120:GK CV:=fun a0 r h=>ts rfl (F120  a0 r h)
theorem k469:GQ CV:=fun a0 r h=>ts rfl (F469  a0 r h)
theorem k463:K463 CV:=fun a0 r h=>ts rfl (F463 k112 k120 k469 a0 r h)
theorem k464:sU CV:=fun a0 a1 r h=>ts rfl (F464  a0 a1 r h)
theorem k71:K71 CV:=fun a0 a1 a2 r h=>ts rfl (F71 k54 k112 a0 a1 a2 r h)
theorem k470:GR CV:=fun a0 r h=>ts rfl (F470  a0 r h)
theorem k140:K140 CV:=fun a0 a1 r h=>ts rfl (F140 k136 a0 a1 r h)
theorem k141:K141 CV:=fun a0 r h=>ts rfl (F141  a0 r h)
theorem k121:K121 CV:=fun a0 a1 r h=>ts rfl (F121 k140 k141 a0 a1 r h)
theorem k122:K122 CV:=fun a0 a1 a2 r h=>ts rfl (F122  a0 a1 a2 r h)
theorem k123:K123 CV:=fun a0 a1 a2 r h=>ts rfl (F123  a0 a1 a2 r h)
theorem k89:K89 CV:=fun a0 a1 a2 a3 r h=>ts rfl (F89 k120 k121 k122 k123 a0 a1 a2 a3 r h)
theorem k471:GS CV:=fun a0 a1 a2 r h=>ts rfl (F471 k89 a0 a1 a2 r h)
theorem k465:K465 CV:=fun a0 a1 r h=>ts rfl (F465 k71 k464 k470 k471 a0 a1 r h)
theorem k466:K466 CV:=fun a0 a1 a2 r h=>ts rfl (F466 k464 a0 a1 a2 r h)
theorem k115:K115 CV:=fun a0 a1 a2 r h=>ts rfl (F115  a0 a1 a2 r h)
theorem k78:K78 CV:=fun a0 a1 r h=>ts rfl (F78 k112 k115 a0 a1 r h)
theorem k109:K109 CV:=fun a0 r h=>ts rfl (F109  a0 r h)
theorem k69:K69 CV:=fun a0 a1 r h=>ts rfl (F69 k109 k110 a0 a1 r h)
theorem k148:K148 CV:=fun a0 a1 a2 f3 k3 is3 hs3 hf3 r h=>ts rfl (F148  a0 a1 a2 f3 k3 is3 hs3 hf3 r h)
theorem k159:K159 CV:=fun a0 a1 a2 a3 f4 k4 is4 hs4 hf4 r h=>ts rfl (F159  a0 a1 a2 a3 f4 k4 is4 hs4 hf4 r h)
theorem k149:K149 CV:=fun a0 a1 a2 f3 k3 is3 hs3 hf3 r h=>ts rfl (F149 k159 a0 a1 a2 f3 k3 is3 hs3 hf3 r h)
theorem k156:K156 CV:=fun a0 r h=>ts rfl (F156  a0 r h)
theorem k157:K157 CV:=fun a0 r h=>ts rfl (F157  a0 r h)
theorem k138:GN CV:=fun a0 r h=>ts rfl (F138 k156 k157 a0 r h)
theorem k160:K160 CV:=fun a0 r h=>ts rfl (F160 k138 a0 r h)
theorem k161:K161 CV:=fun a0 r h=>ts rfl (F161  a0 r h)
theorem k150:K150 CV:=fun a0 a1 a2 f3 k3 is3 hs3 hf3 r h=>ts rfl (F150 k160 k161 a0 a1 a2 f3 k3 is3 hs3 hf3 r h)
theorem k165:K165 CV:=fun a0 a1 a2 a3 f4 k4 is4 hs4 hf4 r h=>ts rfl (F165  a0 a1 a2 a3 f4 k4 is4 hs4 hf4 r h)
theorem k163:GP CV:=fun a0 a1 a2 a3 a4 f5 k5 is5 hs5 hf5 r h=>ts rfl (F163 k165 a0 a1 a2 a3 a4 f5 k5 is5 hs5 hf5 r h)
theorem k162:K162 CV:=fun a0 a1 a2 f3 k3 is3 hs3 hf3 r h=>ts rfl (F162 k163 a0 a1 a2 f3 k3 is3 hs3 hf3 r h)
theorem k151:K151 CV:=fun a0 a1 a2 f3 k3 is3 hs3 hf3 r h=>ts rfl (F151 k162 k163 a0 a1 a2 f3 k3 is3 hs3 hf3 r h)
theorem k152:K152 CV:=fun a0 a1 a2 f3 k3 is3 hs3 hf3 r h=>ts rfl (F152  a0 a1 a2 f3 k3 is3 hs3 hf3 r h)
theorem k153:K153 CV:=fun a0 a1 a2 f3 k3 is3 hs3 hf3 r h=>ts rfl (F153  a0 a1 a2 f3 k3 is3 hs3 hf3 r h)
theorem k154:K154 CV:=fun a0 a1 a2 a3 f4 k4 is4 hs4 hf4 r h=>ts rfl (F154  a0 a1 a2 a3 f4 k4 is4 hs4 hf4 r h)
theorem k155:K155 CV:=fun a0 a1 a2 a3 f4 k4 is4 hs4 hf4 r h=>ts rfl (F155  a0 a1 a2 a3 f4 k4 is4 hs4 hf4 r h)
theorem k137:K137 (Dq Tryz.prog phi):=fun n=>Nat.rec (motive:=fun n=>sV (Dq Tryz.prog phi) (lM n)) (fun a0 a1 a2 a3 f4 k4 is4 hs4 hf4 r h=>by have h2:none=some r:=h; cases h2) (fun n ih a0 a1 a2 a3 f4 k4 is4 hs4 hf4 r h=>bO tied (xf:=c137) rfl (F137 k148 k149 k150 k151 k152 k153 k154 k155 (lM n) ih a0 a1 a2 a3 f4 k4 is4 hs4 hf4 r h)) n
theorem k116:K116 CV:=fun a0 f1 k1 is1 hs1 hf1 r h=>ts rfl (F116 k137 k138 a0 f1 k1 is1 hs1 hf1 r h)
theorem k82:K82 CV:=fun a0 a1 r h=>ts rfl (F82 k60 k69 k112 k116 a0 a1 r h)
theorem k472:K472 CV:=fun a0 a1 r h=>ts rfl (F472  a0 a1 r h)
theorem k475:K475 CV:=fun a0 f1 k1 is1 hs1 hf1 r h=>ts rfl (F475  a0 f1 k1 is1 hs1 hf1 r h)
theorem k473:K473 CV:=fun a0 f1 k1 is1 hs1 hf1 r h=>ts rfl (F473 k475 a0 f1 k1 is1 hs1 hf1 r h)
theorem k474:K474 CV:=fun a0 a1 r h=>ts rfl (F474  a0 a1 r h)
theorem k467:K467 CV:=fun a0 a1 r h=>ts rfl (F467 k66 k77 k78 k82 k469 k470 k471 k472 k473 k474 a0 a1 r h)
theorem k459:K459 CV:=fun a0 a1 r h=>ts rfl (F459 k63 k75 k80 k463 k464 k465 k466 k467 a0 a1 r h)
theorem k440:K440 CV:=fun a0 a1 r h=>ts rfl (F440 k48 k457 k459 a0 a1 r h)
theorem k56:K56 CV:=fun a0 a1 a2 r h=>ts rfl (F56  a0 a1 a2 r h)
theorem k18:K18 CV:=fun a0 r h=>ts rfl (F18 k56 a0 r h)
theorem k85:K85 CV:=fun a0 a1 r h=>ts rfl (F85 k56 a0 a1 r h)
theorem k92:K92 CV:=fun a0 a1 r h=>ts rfl (F92  a0 a1 r h)
theorem k124:K124 CV:=fun a0 a1 r h=>ts rfl (F124  a0 a1 r h)
theorem k93:K93 CV:=fun a0 r h=>ts rfl (F93 k92 k124 a0 r h)
theorem k46:K46 CV:=fun a0 r h=>ts rfl (F46 k18 k56 k85 k92 k93 a0 r h)
theorem k100:K100 CV:=fun a0 r h=>ts rfl (F100 k56 a0 r h)
theorem k111:kT CV:=fun a0 r h=>ts rfl (F111  a0 r h)
theorem k74:K74 CV:=fun a0 a1 r h=>ts rfl (F74 k92 k111 a0 a1 r h)
theorem k53:K53 CV:=fun a0 a1 r h=>ts rfl (F53  a0 a1 r h)
theorem k79:K79 CV:=fun a0 a1 a2 r h=>ts rfl (F79 k53 k92 k111 a0 a1 a2 r h)
theorem k81:K81 CV:=fun a0 a1 r h=>ts rfl (F81 k111 a0 a1 r h)
theorem k102:kS CV:=fun a0 r h=>ts rfl (F102 k111 a0 r h)
theorem k70:K70 CV:=fun a0 a1 a2 r h=>ts rfl (F70 k53 k111 a0 a1 a2 r h)
theorem k86:K86 CV:=fun a0 a1 a2 a3 r h=>ts rfl (F86  a0 a1 a2 a3 r h)
theorem k133:sT CV:=fun a0 r h=>ts rfl (F133 k102 a0 r h)
theorem k145:GO CV:=fun a0 a1 r h=>ts rfl (F145  a0 a1 r h)
theorem k132:K132 CV:=fun a0 a1 r h=>ts rfl (F132 k70 k86 k102 k133 k145 a0 a1 r h)
theorem k76:K76 CV:=fun a0 a1 r h=>ts rfl (F76 k92 a0 a1 r h)
theorem k146:K146 CV:=fun a0 a1 r h=>ts rfl (F146  a0 a1 r h)
theorem k134:K134 CV:=fun a0 a1 r h=>ts rfl (F134 k76 k86 k102 k133 k145 k146 a0 a1 r h)
theorem k101:K101 CV:=fun a0 a1 r h=>ts rfl (F101 k56 k74 k79 k81 k102 k132 k133 k134 a0 a1 r h)
theorem k442:K442 CV:=fun a0 a1 r h=>ts rfl (F442 k46 k100 k101 k102 a0 a1 r h)
theorem k450:K450 CV:=fun a0 a1 r h=>ts rfl (F450 k91 a0 a1 r h)
theorem k451:K451 CV:=fun a0 r h=>ts rfl (F451 k43 a0 r h)
theorem k452:K452 CV:=fun a0 a1 r h=>ts rfl (F452  a0 a1 r h)
theorem k453:K453 CV:=fun a0 a1 r h=>ts rfl (F453 k36 a0 a1 r h)
theorem k454:K454 CV:=fun a0 a1 r h=>ts rfl (F454 k37 a0 a1 r h)
theorem k437:K437 CV:=fun a0 a1 r h=>ts rfl (F437 k45 k47 k49 k252 k259 k440 k442 k450 k451 k452 k453 k454 a0 a1 r h)
theorem oktDLease:Ok (.struct [.int .i64,.int .i64,.int .i64,.bool]) Ad jR:=fun vs h=>by
  have h:Hb [.int .i64,.int .i64,.int .i64,.bool] vs:=by simpa only [Fj] using h
  obtain ⟨a0,r0,rfl,h0,h⟩:=h
  obtain ⟨a1,r1,rfl,h1,h⟩:=h
  obtain ⟨a2,r2,rfl,h2,h⟩:=h
  obtain ⟨a3,r3,rfl,h3,h⟩:=h
  obtain rfl:r3=[]:=by simpa only [Hb] using h
  obtain ⟨x0,rfl,p0⟩:=Ok.int64 a0 h0
  obtain ⟨x1,rfl,p1⟩:=Ok.int64 a1 h1
  obtain ⟨x2,rfl,p2⟩:=Ok.int64 a2 h2
  obtain ⟨x3,rfl,p3⟩:=Ok.bool a3 h3
  exact ⟨⟨x0,x1,x2,x3⟩,rfl,⟨p0,p1,p2,p3⟩⟩
theorem oktDTable:Ok (.struct [.int .i64,.int .i64,.slice 4 (.struct [.int .i64,.int .i64,.int .i64,.bool])]) Bb jS:=fun vs h=>by
  have h:Hb [.int .i64,.int .i64,.slice 4 (.struct [.int .i64,.int .i64,.int .i64,.bool])] vs:=by simpa only [Fj] using h
  obtain ⟨a0,r0,rfl,h0,h⟩:=h
  obtain ⟨a1,r1,rfl,h1,h⟩:=h
  obtain ⟨a2,r2,rfl,h2,h⟩:=h
  obtain rfl:r2=[]:=by simpa only [Hb] using h
  obtain ⟨x0,rfl,p0⟩:=Ok.int64 a0 h0
  obtain ⟨x1,rfl,p1⟩:=Ok.int64 a1 h1
  obtain ⟨x2,rfl,p2⟩:=(Ok.slice oktDLease) a2 h2
  exact ⟨⟨x0,x1,x2⟩,rfl,⟨p0,p1,p2⟩⟩
theorem oktDIntent:Ok (.struct [.int .i64,.bool]) Bq dW:=fun vs h=>by
  have h:Hb [.int .i64,.bool] vs:=by simpa only [Fj] using h
  obtain ⟨a0,r0,rfl,h0,h⟩:=h
  obtain ⟨a1,r1,rfl,h1,h⟩:=h
  obtain rfl:r1=[]:=by simpa only [Hb] using h
  obtain ⟨x0,rfl,p0⟩:=Ok.int64 a0 h0
  obtain ⟨x1,rfl,p1⟩:=Ok.bool a1 h1
  exact ⟨⟨x0,x1⟩,rfl,⟨p0,p1⟩⟩
theorem oktDVault:Ok (.struct [.struct [.int .i64,.int .i64,.slice 4 (.struct [.int .i64,.int .i64,.int .i64,.bool])],.slice 2 (.struct [.int .i64,.bool]),.slice 1 (.int .i64),.bool]) Au Pt:=fun vs h=>by
  have h:Hb [.struct [.int .i64,.int .i64,.slice 4 (.struct [.int .i64,.int .i64,.int .i64,.bool])],.slice 2 (.struct [.int .i64,.bool]),.slice 1 (.int .i64),.bool] vs:=by simpa only [Fj] using h
  obtain ⟨a0,r0,rfl,h0,h⟩:=h
  obtain ⟨a1,r1,rfl,h1,h⟩:=h
  obtain ⟨a2,r2,rfl,h2,h⟩:=h
  obtain ⟨a3,r3,rfl,h3,h⟩:=h
  obtain rfl:r3=[]:=by simpa only [Hb] using h
  obtain ⟨x0,rfl,p0⟩:=oktDTable a0 h0
  obtain ⟨x1,rfl,p1⟩:=(Ok.slice oktDIntent) a1 h1
  obtain ⟨x2,rfl,p2⟩:=(Ok.slice Ok.int64) a2 h2
  obtain ⟨x3,rfl,p3⟩:=Ok.bool a3 h3
  exact ⟨⟨x0,x1,x2,x3⟩,rfl,⟨p0,p1,p2,p3⟩⟩
theorem oktDVaultAct:Ok (.struct [.int .i64,.int .i64,.int .i64,.int .i64,.int .i64,.slice 1 (.int .i64),.int .i64]) Am Lq:=fun vs h=>by
  have h:Hb [.int .i64,.int .i64,.int .i64,.int .i64,.int .i64,.slice 1 (.int .i64),.int .i64] vs:=by simpa only [Fj] using h
  obtain ⟨a0,r0,rfl,h0,h⟩:=h
  obtain ⟨a1,r1,rfl,h1,h⟩:=h
  obtain ⟨a2,r2,rfl,h2,h⟩:=h
  obtain ⟨a3,r3,rfl,h3,h⟩:=h
  obtain ⟨a4,r4,rfl,h4,h⟩:=h
  obtain ⟨a5,r5,rfl,h5,h⟩:=h
  obtain ⟨a6,r6,rfl,h6,h⟩:=h
  obtain rfl:r6=[]:=by simpa only [Hb] using h
  obtain ⟨x0,rfl,p0⟩:=Ok.int64 a0 h0
  obtain ⟨x1,rfl,p1⟩:=Ok.int64 a1 h1
  obtain ⟨x2,rfl,p2⟩:=Ok.int64 a2 h2
  obtain ⟨x3,rfl,p3⟩:=Ok.int64 a3 h3
  obtain ⟨x4,rfl,p4⟩:=Ok.int64 a4 h4
  obtain ⟨x5,rfl,p5⟩:=(Ok.slice Ok.int64) a5 h5
  obtain ⟨x6,rfl,p6⟩:=Ok.int64 a6 h6
  exact ⟨⟨x0,x1,x2,x3,x4,x5,x6⟩,rfl,⟨p0,p1,p2,p3,p4,p5,p6⟩⟩
theorem own:ownKnob Tryz.prog.godebug=none:=by kernel_rfl
theorem laid:laidOutB Tryz.prog=true:=by kernel_rfl
theorem lifted (os:Os) (started:os.Started) (H:Type) (enc:TypeId×Value→H):
    ReturnsInHanded {} Tryz.checked os 7 .any (Rows.fnExactStepVaultSpec.pre6 enc Tryz.prog Tryz.f7 Rows.fnExactStepVaultRow.domain false) (Rows.fnExactStepVaultSpec.post enc Tryz.prog Tryz.f7 false true false false):=by
  refine returnsInHanded_of_change_sized (C:=Tryz.checked) own started (by kernel_rfl) Tryz.func7
    (ChangeSpec.witness6 (enc:=enc) (C:=Tryz.checked) false ⟨#[],#[.agg #[.int .i64 0,.int .i64 0,.slice none 0 0,.slice none 0 0,.slice none 0 0,.bool false],.agg #[.int .i64 0,.int .i64 0,.int .i64 0,.int .i64 0,.int .i64 0,.slice none 0 0,.int .i64 0]],[]⟩ 8 (by kernel_rfl) (by kernel_rfl) (by kernel_rfl) (by kernel_rfl)) ?_
  intro W base args ds gs before hval0 hW hcnd hsz0 _
  have hval:∀(j:Nat) t v,Tryz.f7.params[j]? = some t→args[j]? = some v→Value.okWide Tryz.prog W .any base t v:=hval0
  have hW':=hW
  obtain ⟨p,q,hA0,hV,rfl,hfz,hnd⟩:=hW
  have hA:DataW.TrodAll enc Tryz.prog W 0 (fun _=>true) true Tryz.f7.params.toList args.toList ds p:=hA0
  rw [Tryz.params7] at hA hval
  obtain ⟨v0,vs0,d0,ds0,p0,q0,hargs,rfl,rfl,h0,r0⟩:=trodAll_cons hA
  obtain ⟨v1,vs1,d1,ds1,p1,q1,rfl,rfl,rfl,h1,r1⟩:=trodAll_cons r0
  obtain ⟨rfl,rfl,rfl⟩:=trodAll_nil r1
  obtain rfl:args = #[v0,v1]:=by cases args; simp_all
  obtain ⟨rfl,rfl⟩:=trodVars_none hV
  obtain ⟨u0,t0,rt0⟩:=arg_V (φ:=phi) (n:=12) (T:=.struct [.struct [.int .i64,.int .i64,.slice 4 (.struct [.int .i64,.int .i64,.int .i64,.bool])],.slice 2 (.struct [.int .i64,.bool]),.slice 1 (.int .i64),.bool]) (by kernel_rfl) (hval 0 86 v0 rfl rfl) h0
  obtain ⟨a0,rfl,o0⟩:=oktDVault.argS t0
  have hlt0:∀x∈p0,x.block<W.heap.size:=fun x hx=>hW'.lt x (by simp [hx])
  obtain ⟨u1,t1,rt1⟩:=arg_V (φ:=phi) (n:=12) (T:=.struct [.int .i64,.int .i64,.int .i64,.int .i64,.int .i64,.slice 1 (.int .i64),.int .i64]) (by kernel_rfl) (hval 1 87 v1 rfl rfl) h1
  obtain ⟨a1,rfl,o1⟩:=oktDVaultAct.argS t1
  have hlt1:∀x∈p1,x.block<W.heap.size:=fun x hx=>hW'.lt x (by simp [hx])
  have hc:=rI (P:=Tryz.prog) (φ:=phi) (f:=437) (fid:=7) (vals:=[v0,v1]) (vs:=[.agg [.int .i64 a0.Ac.clock,.int .i64 a0.Ac.next,.lst 4 (a0.Ac.Ae.map Ad),.lst 2 (a0.Ab.map Bq),.lst 1 (a0.Ah.map eI),.bool a0.An],.agg [.int .i64 a1.kind,.int .i64 a1.id,.int .i64 a1.ttl,.int .i64 a1.Dr,.int .i64 a1.clock,.lst 1 (a1.Bu.map eI),.int .i64 a1.stop]]) (w:=W) rfl rfl (rts rt0 (rts rt1 rtz)) (k437 a0 a1 true (CM a0 a1 o0 o1))
  refine hc.mono fun e W' ⟨he,bel⟩=>?_
  subst he
  exact ⟨_,rfl,_,_,_,[],_,[],hW',trodAll_mk1 (shut_bool Tryz.underlying4 _),(trodAll_cons_mk (Below.trod laid (by kernel_rfl) (of_decide_eq_true (by kernel_rfl)) h0 bel hlt0) (trodAll_cons_mk (Below.trod laid (by kernel_rfl) (of_decide_eq_true (by kernel_rfl)) h1 bel hlt1) trodAll_mk0)),rfl,bel.frame _,fun h=>by cases h⟩
theorem over:Rows.fnExactStepVaultRow.holds Tryz.pinned (OpenSpec.ofChange Rows.fnExactStepVaultSpec):=
  OpenClaim.holds_of_wide 7 Tryz.f7 rfl rfl rfl rfl rfl rfl rfl ⟨rfl,rfl,rfl,rfl,rfl⟩ rfl rfl rfl rfl rfl (by kernel_rfl) Tryz.func7 joined
    (of_decide_eq_true (by kernel_rfl)) (by unfold Func.isWrapper; first | (rw [if_pos (by decide +kernel)]; kernel_rfl) | (rw [if_neg (by decide +kernel)]; exact ⟨rfl,rfl⟩))
    (fun os started H enc _=>lifted os started H enc)
end Go.Proofs.YtnkhjipmmomjoaaGreat.fnExactStepVault
namespace Go.Proofs.YtnkhjipmmomjoaaGreat
/-- FnExactStepVault. -/
theorem fnExactStepVault_holds:Rows.FnExactStepVaultSaid:=fnExactStepVault.over
end Go.Proofs.YtnkhjipmmomjoaaGreat
