/- FnOwned: whatever the input, the law returns true, and its arguments read behind the call as they read before. No condition: every input. -/
import Derived.Test.YtnkhjipmmomjoaaGreatRows
import Derived.Test.YtnkhjipmmomjoaaGreatQgJ
import Derived.Test.YtnkhjipmmomjoaaGreatQvT
import Derived.Test.YtnkhjipmmomjoaaGreatQgW3
import Derived.Test.YtnkhjipmmomjoaaGreatQwZ
import Derived.WalkKit
import Derived.ProofKit
import Derived.OpenShut
import Derived.ShutString
import Derived.ChangeOld
import Derived.Below
import Derived.SizedLaws
import Derived.Carry
set_option linter.all false
set_option maxRecDepth 100000
namespace Go.Proofs.YtnkhjipmmomjoaaGreat.fnOwned
open Go.ChangeShapes Go.WideShapes Go.ChangeAt Go.RowKit Go.Ev
def phi:Ek:=[(102,63),(149,58),(79,59),(150,60),(223,108),(204,105),(205,106),(151,61),(152,62),(75,20),(80,95),(206,144),(153,126),(154,127),(155,128),(77,96),(160,129),(161,130),(81,97),(162,113),(208,136),(164,110),(163,114),(83,77),(82,98),(25,48),(48,83),(185,139),(110,117),(111,118),(144,119),(186,147),(112,135),(49,103),(9,51),(54,41),(55,52),(12,261),(43,455),(172,468),(99,461),(100,462),(44,456),(71,87),(101,88),(45,457),(46,458),(181,66),(173,112),(108,75),(178,54),(107,80),(73,120),(174,469),(103,463),(104,464),(175,71),(176,470),(232,140),(233,141),(224,121),(225,122),(226,123),(211,89),(177,471),(105,465),(106,466),(214,115),(182,78),(229,109),(213,69),(236,148),(247,159),(237,149),(244,156),(245,157),(228,138),(248,160),(249,161),(238,150),(253,165),(251,163),(250,162),(239,151),(240,152),(241,153),(242,154),(243,155),(227,137),(212,116),(179,82),(180,472),(215,475),(183,473),(184,474),(109,467),(47,459),(8,438),(76,460),(21,439),(22,440),(113,56),(156,18),(157,85),(158,92),(207,124),(159,93),(78,46),(50,100),(120,111),(116,74),(190,53),(115,79),(117,81),(52,102),(187,70),(188,86),(118,133),(189,145),(114,132),(191,76),(192,146),(119,134),(51,101),(24,442),(5,435),(235,143)]
abbrev CV:Bi:=Dr Tryz.prog phi
def tbl:List (Nat×Dj):=[(63,c63),(58,c58),(59,c59),(60,c60),(108,HW),(105,HR),(106,c106),(61,c61),(62,c62),(20,sV),(95,c95),(144,QL),(126,c126),(127,c127),(128,c128),(96,c96),(129,c129),(130,c130),(97,c97),(113,c113),(136,c136),(110,IS),(114,c114),(77,c77),(98,c98),(48,c48),(83,c83),(139,PX),(117,c117),(118,c118),(119,c119),(147,RJ),(135,OU),(103,c103),(51,c51),(41,c41),(52,c52),(261,c261),(455,c455),(468,c468),(461,c461),(462,c462),(456,c456),(87,c87),(88,c88),(457,c457),(458,c458),(66,c66),(112,iK),(75,c75),(54,c54),(80,c80),(120,KS),(469,c469),(463,c463),(464,c464),(71,c71),(470,c470),(140,c140),(141,c141),(121,qN),(122,LI),(123,c123),(89,c89),(471,c471),(465,c465),(466,c466),(115,c115),(78,c78),(109,c109),(69,c69),(148,c148),(159,c159),(149,c149),(156,VN),(157,c157),(138,PS),(160,c160),(161,c161),(150,c150),(165,c165),(163,c163),(162,WY),(151,c151),(152,c152),(153,c153),(154,c154),(155,c155),(137,c137),(116,c116),(82,c82),(472,c472),(475,c475),(473,c473),(474,c474),(467,c467),(459,c459),(438,c438),(460,c460),(439,c439),(440,c440),(56,c56),(18,c18),(85,c85),(92,c92),(124,c124),(93,c93),(46,c46),(100,c100),(111,c111),(74,c74),(53,c53),(79,c79),(81,c81),(102,c102),(70,c70),(86,c86),(133,c133),(145,c145),(132,c132),(76,c76),(146,c146),(134,c134),(101,c101),(442,c442),(435,c435)]
theorem tq {p:Nat×Nat} {xf:Dj} (h1:Go.Ev.look tbl p.2=some xf) (fn:Func) (h2:Tryz.prog.funcs[p.1]? = some fn:=by kernel_rfl) (h3:Qi Tryz.prog phi fn=some xf:=by kernel_rfl):Xn Tryz.prog phi tbl p:=tone h1 fn h2 h3
theorem tied:Tied Tryz.prog phi (Go.Ev.look tbl):=EP ⟨tq rfl Tryz.f102,
  tq rfl Tryz.f149,
  tq rfl Tryz.f79,
  tq rfl Tryz.f150,
  tq rfl Tryz.f223,
  tq rfl Tryz.f204,
  tq rfl Tryz.f205,
  tq rfl Tryz.f151,
  tq rfl Tryz.f152,
  tq rfl Tryz.f75,
  tq rfl Tryz.f80,
  tq rfl Tryz.f206,
  tq rfl Tryz.f153,
  tq rfl Tryz.f154,
  tq rfl Tryz.f155,
  tq rfl Tryz.f77,
  tq rfl Tryz.f160,
  tq rfl Tryz.f161,
  tq rfl Tryz.f81,
  tq rfl Tryz.f162,
  tq rfl Tryz.f208,
  tq rfl Tryz.f164,
  tq rfl Tryz.f163,
  tq rfl Tryz.f83,
  tq rfl Tryz.f82,
  tq rfl Tryz.f25,
  tq rfl Tryz.f48,
  tq rfl Tryz.f185,
  tq rfl Tryz.f110,
  tq rfl Tryz.f111,
  tq rfl Tryz.f144,
  tq rfl Tryz.f186,
  tq rfl Tryz.f112,
  tq rfl Tryz.f49,
  tq rfl Tryz.f9,
  tq rfl Tryz.f54,
  tq rfl Tryz.f55,
  tq rfl Tryz.f12,
  tq rfl Tryz.f43,
  tq rfl Tryz.f172,
  tq rfl Tryz.f99,
  tq rfl Tryz.f100,
  tq rfl Tryz.f44,
  tq rfl Tryz.f71,
  tq rfl Tryz.f101,
  tq rfl Tryz.f45,
  tq rfl Tryz.f46,
  tq rfl Tryz.f181,
  tq rfl Tryz.f173,
  tq rfl Tryz.f108,
  tq rfl Tryz.f178,
  tq rfl Tryz.f107,
  tq rfl Tryz.f73,
  tq rfl Tryz.f174,
  tq rfl Tryz.f103,
  tq rfl Tryz.f104,
  tq rfl Tryz.f175,
  tq rfl Tryz.f176,
  tq rfl Tryz.f232,
  tq rfl Tryz.f233,
  tq rfl Tryz.f224,
  tq rfl Tryz.f225,
  tq rfl Tryz.f226,
  tq rfl Tryz.f211,
  tq rfl Tryz.f177,
  tq rfl Tryz.f105,
  tq rfl Tryz.f106,
  tq rfl Tryz.f214,
  tq rfl Tryz.f182,
  tq rfl Tryz.f229,
  tq rfl Tryz.f213,
  tq rfl Tryz.f236,
  tq rfl Tryz.f247,
  tq rfl Tryz.f237,
  tq rfl Tryz.f244,
  tq rfl Tryz.f245,
  tq rfl Tryz.f228,
  tq rfl Tryz.f248,
  tq rfl Tryz.f249,
  tq rfl Tryz.f238,
  tq rfl Tryz.f253,
  tq rfl Tryz.f251,
  tq rfl Tryz.f250,
  tq rfl Tryz.f239,
  tq rfl Tryz.f240,
  tq rfl Tryz.f241,
  tq rfl Tryz.f242,
  tq rfl Tryz.f243,
  tq rfl Tryz.f227,
  tq rfl Tryz.f212,
  tq rfl Tryz.f179,
  tq rfl Tryz.f180,
  tq rfl Tryz.f215,
  tq rfl Tryz.f183,
  tq rfl Tryz.f184,
  tq rfl Tryz.f109,
  tq rfl Tryz.f47,
  tq rfl Tryz.f8,
  tq rfl Tryz.f76,
  tq rfl Tryz.f21,
  tq rfl Tryz.f22,
  tq rfl Tryz.f113,
  tq rfl Tryz.f156,
  tq rfl Tryz.f157,
  tq rfl Tryz.f158,
  tq rfl Tryz.f207,
  tq rfl Tryz.f159,
  tq rfl Tryz.f78,
  tq rfl Tryz.f50,
  tq rfl Tryz.f120,
  tq rfl Tryz.f116,
  tq rfl Tryz.f190,
  tq rfl Tryz.f115,
  tq rfl Tryz.f117,
  tq rfl Tryz.f52,
  tq rfl Tryz.f187,
  tq rfl Tryz.f188,
  tq rfl Tryz.f118,
  tq rfl Tryz.f189,
  tq rfl Tryz.f114,
  tq rfl Tryz.f191,
  tq rfl Tryz.f192,
  tq rfl Tryz.f119,
  tq rfl Tryz.f51,
  tq rfl Tryz.f24,
  tq rfl Tryz.f5,
  tno rfl,trivial⟩
theorem ts {k:Nat} {xf:Dj} {g:Gq} {t:Fq} (h:Go.Ev.look tbl k=some xf) (f:iC CV xf g t):CV k g t:=cD tied h f
theorem k63:K63 CV:=fun a0 a1 a2 r h=>ts rfl (F63  a0 a1 a2 r h)
theorem k58:K58 CV:=fun a0 r h=>ts rfl (F58 k63 a0 r h)
theorem k59:K59 CV:=fun a0 a1 a2 r h=>ts rfl (F59 k63 a0 a1 a2 r h)
theorem k60:K60 CV:=fun a0 r h=>ts rfl (F60  a0 r h)
theorem k108:K108 CV:=fun a0 f1 k1 is1 hs1 hf1 r h=>ts rfl (F108  a0 f1 k1 is1 hs1 hf1 r h)
theorem k105:K105 CV:=fun a0 f1 k1 is1 hs1 hf1 r h=>ts rfl (F105 k108 a0 f1 k1 is1 hs1 hf1 r h)
theorem k106:K106 CV:=fun a0 f1 k1 is1 hs1 hf1 r h=>ts rfl (F106  a0 f1 k1 is1 hs1 hf1 r h)
theorem k61:K61 CV:=fun a0 f1 k1 is1 hs1 hf1 r h=>ts rfl (F61 k105 k106 a0 f1 k1 is1 hs1 hf1 r h)
theorem k62:K62 CV:=fun a0 a1 r h=>ts rfl (F62 k63 a0 a1 r h)
theorem k20:K20 CV:=fun a0 r h=>ts rfl (F20 k58 k59 k60 k61 k62 a0 r h)
theorem k95:K95 CV:=fun a0 r h=>ts rfl (F95  a0 r h)
theorem k144:K144 CV:=fun a0 a1 r h=>ts rfl (F144  a0 a1 r h)
theorem k126:K126 CV:=fun a0 r h=>ts rfl (F126 k144 a0 r h)
theorem k127:FU CV:=fun a0 f1 k1 is1 hs1 hf1 r h=>ts rfl (F127  a0 f1 k1 is1 hs1 hf1 r h)
theorem k128:K128 CV:=fun a0 a1 r h=>ts rfl (F128  a0 a1 r h)
theorem k96:K96 CV:=fun a0 r h=>ts rfl (F96 k60 k95 k126 k127 k128 a0 r h)
theorem k129:K129 CV:=fun a0 f1 k1 is1 hs1 hf1 r h=>ts rfl (F129 k127 a0 f1 k1 is1 hs1 hf1 r h)
theorem k130:K130 CV:=fun a0 f1 k1 is1 hs1 hf1 r h=>ts rfl (F130  a0 f1 k1 is1 hs1 hf1 r h)
theorem k97:K97 CV:=fun a0 f1 k1 is1 hs1 hf1 r h=>ts rfl (F97 k129 k130 a0 f1 k1 is1 hs1 hf1 r h)
theorem k113:K113 CV:=fun a0 a1 f2 k2 is2 hs2 hf2 r h=>ts rfl (F113  a0 a1 f2 k2 is2 hs2 hf2 r h)
theorem k136:FV CV:=fun a0 r h=>ts rfl (F136  a0 r h)
theorem k110:FS CV:=fun a0 a1 r h=>ts rfl (F110 k136 a0 a1 r h)
theorem k114:K114 CV:=fun a0 a1 r h=>ts rfl (F114 k110 a0 a1 r h)
theorem k77:K77 CV:=fun a0 a1 r h=>ts rfl (F77 k113 k114 a0 a1 r h)
theorem k98:K98 CV:=fun a0 a1 r h=>ts rfl (F98 k77 a0 a1 r h)
theorem k48:K48 CV:=fun a0 r h=>ts rfl (F48 k20 k59 k95 k96 k97 k98 a0 r h)
theorem k83:K83 CV:=fun a0 r h=>ts rfl (F83  a0 r h)
theorem k139:K139 CV:=fun a0 r h=>ts rfl (F139  a0 r h)
theorem k117:qI CV:=fun a0 a1 r h=>ts rfl (F117 k139 a0 a1 r h)
theorem k118:K118 CV:=fun a0 a1 r h=>ts rfl (F118  a0 a1 r h)
theorem k119:K119 CV:=fun a0 a1 r h=>ts rfl (F119 k117 a0 a1 r h)
theorem k147:K147 CV:=fun a0 r h=>ts rfl (F147 k117 a0 r h)
theorem k135:K135 CV:=fun a0 r h=>ts rfl (F135 k117 k119 k147 a0 r h)
theorem k103:K103 CV:=fun a0 r h=>ts rfl (F103 k117 k118 k135 a0 r h)
theorem k51:K51 CV:=fun a0 r h=>ts rfl (F51 k83 k103 a0 r h)
theorem k41:K41 CV:=fun a0 a1 r h=>ts rfl (F41  a0 a1 r h)
theorem k52:K52 CV:=fun a0 a1 r h=>ts rfl (F52  a0 a1 r h)
theorem k261:K261 CV:=fun a0 a1 r h=>ts rfl (F261 k41 k52 a0 a1 r h)
theorem k455:K455 CV:=fun a0 r h=>ts rfl (F455  a0 r h)
theorem k468:K468 CV:=fun a0 f1 k1 is1 hs1 hf1 r h=>ts rfl (F468  a0 f1 k1 is1 hs1 hf1 r h)
theorem k461:K461 CV:=fun a0 f1 k1 is1 hs1 hf1 r h=>ts rfl (F461 k468 a0 f1 k1 is1 hs1 hf1 r h)
theorem k462:K462 CV:=fun a0 f1 k1 is1 hs1 hf1 r h=>ts rfl (F462  a0 f1 k1 is1 hs1 hf1 r h)
theorem k456:K456 CV:=fun a0 f1 k1 is1 hs1 hf1 r h=>ts rfl (F456 k461 k462 a0 f1 k1 is1 hs1 hf1 r h)
theorem k87:K87 CV:=fun a0 r h=>ts rfl (F87  a0 r h)
theorem k88:K88 CV:=fun a0 r h=>ts rfl (F88 k63 a0 r h)
theorem k457:FZ CV:=fun a0 r h=>ts rfl (F457 k63 k87 k88 k97 a0 r h)
theorem k458:K458 CV:=fun  r h=>ts rfl (F458   r h)
theorem k66:K66 CV:=fun a0 r h=>ts rfl (F66  a0 r h)
theorem k112:iD CV:=fun a0 r h=>ts rfl (F112 k66 a0 r h)
theorem k75:K75 CV:=fun a0 a1 r h=>ts rfl (F75 k77 k112 a0 a1 r h)
theorem k54:K54 CV:=fun a0 a1 r h=>ts rfl (F54  a0 a1 r h)
theorem k80:K80 CV:=fun a0 a1 a2 r h=>ts rfl (F80 k54 k77 k112 a0 a1 a2 r h)
theorem k120:FT CV:=fun a0 r h=>ts rfl (F120  a0 r h)
theorem k469:GB CV:=fun a0 r h=>ts rfl (F469  a0 r h)
theorem k463:K463 CV:=fun a0 r h=>ts rfl (F463 k112 k120 k469 a0 r h)
theorem k464:sZ CV:=fun a0 a1 r h=>ts rfl (F464  a0 a1 r h)
theorem k71:K71 CV:=fun a0 a1 a2 r h=>ts rfl (F71 k54 k112 a0 a1 a2 r h)
theorem k470:GC CV:=fun a0 r h=>ts rfl (F470  a0 r h)
theorem k140:K140 CV:=fun a0 a1 r h=>ts rfl (F140 k136 a0 a1 r h)
theorem k141:K141 CV:=fun a0 r h=>ts rfl (F141  a0 r h)
theorem k121:K121 CV:=fun a0 a1 r h=>ts rfl (F121 k140 k141 a0 a1 r h)
theorem k122:K122 CV:=fun a0 a1 a2 r h=>ts rfl (F122  a0 a1 a2 r h)
theorem k123:K123 CV:=fun a0 a1 a2 r h=>ts rfl (F123  a0 a1 a2 r h)
theorem k89:K89 CV:=fun a0 a1 a2 a3 r h=>ts rfl (F89 k120 k121 k122 k123 a0 a1 a2 a3 r h)
theorem k471:GD CV:=fun a0 a1 a2 r h=>ts rfl (F471 k89 a0 a1 a2 r h)
theorem k465:K465 CV:=fun a0 a1 r h=>ts rfl (F465 k71 k464 k470 k471 a0 a1 r h)
theorem k466:K466 CV:=fun a0 a1 a2 r h=>ts rfl (F466 k464 a0 a1 a2 r h)
theorem k115:K115 CV:=fun a0 a1 a2 r h=>ts rfl (F115  a0 a1 a2 r h)
theorem k78:K78 CV:=fun a0 a1 r h=>ts rfl (F78 k112 k115 a0 a1 r h)
theorem k109:K109 CV:=fun a0 r h=>ts rfl (F109  a0 r h)
theorem k69:K69 CV:=fun a0 a1 r h=>ts rfl (F69 k109 k110 a0 a1 r h)
theorem k148:K148 CV:=fun a0 a1 a2 f3 k3 is3 hs3 hf3 r h=>ts rfl (F148  a0 a1 a2 f3 k3 is3 hs3 hf3 r h)
theorem k159:K159 CV:=fun a0 a1 a2 a3 f4 k4 is4 hs4 hf4 r h=>ts rfl (F159  a0 a1 a2 a3 f4 k4 is4 hs4 hf4 r h)
theorem k149:K149 CV:=fun a0 a1 a2 f3 k3 is3 hs3 hf3 r h=>ts rfl (F149 k159 a0 a1 a2 f3 k3 is3 hs3 hf3 r h)
theorem k156:K156 CV:=fun a0 r h=>ts rfl (F156  a0 r h)
theorem k157:K157 CV:=fun a0 r h=>ts rfl (F157  a0 r h)
theorem k138:FW CV:=fun a0 r h=>ts rfl (F138 k156 k157 a0 r h)
theorem k160:K160 CV:=fun a0 r h=>ts rfl (F160 k138 a0 r h)
theorem k161:K161 CV:=fun a0 r h=>ts rfl (F161  a0 r h)
theorem k150:K150 CV:=fun a0 a1 a2 f3 k3 is3 hs3 hf3 r h=>ts rfl (F150 k160 k161 a0 a1 a2 f3 k3 is3 hs3 hf3 r h)
theorem k165:K165 CV:=fun a0 a1 a2 a3 f4 k4 is4 hs4 hf4 r h=>ts rfl (F165  a0 a1 a2 a3 f4 k4 is4 hs4 hf4 r h)
theorem k163:FY CV:=fun a0 a1 a2 a3 a4 f5 k5 is5 hs5 hf5 r h=>ts rfl (F163 k165 a0 a1 a2 a3 a4 f5 k5 is5 hs5 hf5 r h)
theorem k162:K162 CV:=fun a0 a1 a2 f3 k3 is3 hs3 hf3 r h=>ts rfl (F162 k163 a0 a1 a2 f3 k3 is3 hs3 hf3 r h)
theorem k151:K151 CV:=fun a0 a1 a2 f3 k3 is3 hs3 hf3 r h=>ts rfl (F151 k162 k163 a0 a1 a2 f3 k3 is3 hs3 hf3 r h)
theorem k152:K152 CV:=fun a0 a1 a2 f3 k3 is3 hs3 hf3 r h=>ts rfl (F152  a0 a1 a2 f3 k3 is3 hs3 hf3 r h)
theorem k153:K153 CV:=fun a0 a1 a2 f3 k3 is3 hs3 hf3 r h=>ts rfl (F153  a0 a1 a2 f3 k3 is3 hs3 hf3 r h)
theorem k154:K154 CV:=fun a0 a1 a2 a3 f4 k4 is4 hs4 hf4 r h=>ts rfl (F154  a0 a1 a2 a3 f4 k4 is4 hs4 hf4 r h)
theorem k155:K155 CV:=fun a0 a1 a2 a3 f4 k4 is4 hs4 hf4 r h=>ts rfl (F155  a0 a1 a2 a3 f4 k4 is4 hs4 hf4 r h)
theorem k137:K137 (Dr Tryz.prog phi):=fun n=>Nat.rec (motive:=fun n=>tA (Dr Tryz.prog phi) (lS n)) (fun a0 a1 a2 a3 f4 k4 is4 hs4 hf4 r h=>by have h2:none=some r:=h; cases h2) (fun n ih a0 a1 a2 a3 f4 k4 is4 hs4 hf4 r h=>cD tied (xf:=c137) rfl (F137 k148 k149 k150 k151 k152 k153 k154 k155 (lS n) ih a0 a1 a2 a3 f4 k4 is4 hs4 hf4 r h)) n
theorem k116:K116 CV:=fun a0 f1 k1 is1 hs1 hf1 r h=>ts rfl (F116 k137 k138 a0 f1 k1 is1 hs1 hf1 r h)
theorem k82:K82 CV:=fun a0 a1 r h=>ts rfl (F82 k60 k69 k112 k116 a0 a1 r h)
theorem k472:K472 CV:=fun a0 a1 r h=>ts rfl (F472  a0 a1 r h)
theorem k475:K475 CV:=fun a0 f1 k1 is1 hs1 hf1 r h=>ts rfl (F475  a0 f1 k1 is1 hs1 hf1 r h)
theorem k473:K473 CV:=fun a0 f1 k1 is1 hs1 hf1 r h=>ts rfl (F473 k475 a0 f1 k1 is1 hs1 hf1 r h)
theorem k474:K474 CV:=fun a0 a1 r h=>ts rfl (F474  a0 a1 r h)
theorem k467:K467 CV:=fun a0 a1 r h=>ts rfl (F467 k66 k77 k78 k82 k469 k470 k471 k472 k473 k474 a0 a1 r h)
theorem k459:GA CV:=fun a0 a1 r h=>ts rfl (F459 k63 k75 k80 k463 k464 k465 k466 k467 a0 a1 r h)
theorem k438:K438 CV:=fun a0 r h=>ts rfl (F438 k455 k456 k457 k458 k459 a0 r h)
theorem k460:K460 CV:=fun a0 r h=>ts rfl (F460  a0 r h)
theorem k439:K439 CV:=fun a0 r h=>ts rfl (F439 k20 k87 k96 k460 a0 r h)
theorem k440:K440 CV:=fun a0 a1 r h=>ts rfl (F440 k48 k457 k459 a0 a1 r h)
theorem k56:K56 CV:=fun a0 a1 a2 r h=>ts rfl (F56  a0 a1 a2 r h)
theorem k18:K18 CV:=fun a0 r h=>ts rfl (F18 k56 a0 r h)
theorem k85:K85 CV:=fun a0 a1 r h=>ts rfl (F85 k56 a0 a1 r h)
theorem k92:K92 CV:=fun a0 a1 r h=>ts rfl (F92  a0 a1 r h)
theorem k124:K124 CV:=fun a0 a1 r h=>ts rfl (F124  a0 a1 r h)
theorem k93:K93 CV:=fun a0 r h=>ts rfl (F93 k92 k124 a0 r h)
theorem k46:K46 CV:=fun a0 r h=>ts rfl (F46 k18 k56 k85 k92 k93 a0 r h)
theorem k100:K100 CV:=fun a0 r h=>ts rfl (F100 k56 a0 r h)
theorem k111:lA CV:=fun a0 r h=>ts rfl (F111  a0 r h)
theorem k74:K74 CV:=fun a0 a1 r h=>ts rfl (F74 k92 k111 a0 a1 r h)
theorem k53:K53 CV:=fun a0 a1 r h=>ts rfl (F53  a0 a1 r h)
theorem k79:K79 CV:=fun a0 a1 a2 r h=>ts rfl (F79 k53 k92 k111 a0 a1 a2 r h)
theorem k81:K81 CV:=fun a0 a1 r h=>ts rfl (F81 k111 a0 a1 r h)
theorem k102:kZ CV:=fun a0 r h=>ts rfl (F102 k111 a0 r h)
theorem k70:K70 CV:=fun a0 a1 a2 r h=>ts rfl (F70 k53 k111 a0 a1 a2 r h)
theorem k86:K86 CV:=fun a0 a1 a2 a3 r h=>ts rfl (F86  a0 a1 a2 a3 r h)
theorem k133:sY CV:=fun a0 r h=>ts rfl (F133 k102 a0 r h)
theorem k145:FX CV:=fun a0 a1 r h=>ts rfl (F145  a0 a1 r h)
theorem k132:K132 CV:=fun a0 a1 r h=>ts rfl (F132 k70 k86 k102 k133 k145 a0 a1 r h)
theorem k76:K76 CV:=fun a0 a1 r h=>ts rfl (F76 k92 a0 a1 r h)
theorem k146:K146 CV:=fun a0 a1 r h=>ts rfl (F146  a0 a1 r h)
theorem k134:K134 CV:=fun a0 a1 r h=>ts rfl (F134 k76 k86 k102 k133 k145 k146 a0 a1 r h)
theorem k101:K101 CV:=fun a0 a1 r h=>ts rfl (F101 k56 k74 k79 k81 k102 k132 k133 k134 a0 a1 r h)
theorem k442:K442 CV:=fun a0 a1 r h=>ts rfl (F442 k46 k100 k101 k102 a0 a1 r h)
theorem k435:K435 CV:=fun a0 r h=>ts rfl (F435 k48 k51 k261 k438 k439 k440 k442 a0 r h)

theorem own:ownKnob Tryz.prog.godebug=none:=by kernel_rfl
theorem laid:laidOutB Tryz.prog=true:=by kernel_rfl
theorem lifted (os:Os) (started:os.Started) (H:Type) (enc:TypeId×Value→H):
    ReturnsInHanded {} Tryz.checked os 5 .any (Rows.fnOwnedSpec.pre6 enc Tryz.prog Tryz.f5 Rows.fnOwnedRow.domain false) (Rows.fnOwnedSpec.post enc Tryz.prog Tryz.f5 false true false false):=by
  refine returnsInHanded_of_change_sized (C:=Tryz.checked) own started (by kernel_rfl) Tryz.func5
    (ChangeSpec.witness6 (enc:=enc) (C:=Tryz.checked) false ⟨#[],#[.slice none 0 0],[]⟩ 8 (by kernel_rfl) (by kernel_rfl) (by kernel_rfl) (by kernel_rfl)) ?_
  intro W base args ds gs before hval0 hW hcnd hsz0 _
  have hval:∀(j:Nat) t v,Tryz.f5.params[j]? = some t→args[j]? = some v→Value.okWide Tryz.prog W .any base t v:=hval0
  have hW':=hW
  obtain ⟨p,q,hA0,hV,rfl,hfz,hnd⟩:=hW
  have hA:DataW.TrodAll enc Tryz.prog W 0 (fun _=>true) true Tryz.f5.params.toList args.toList ds p:=hA0
  rw [Tryz.params5] at hA hval
  obtain ⟨v0,vs0,d0,ds0,p0,q0,hargs,rfl,rfl,h0,r0⟩:=trodAll_cons hA
  obtain ⟨rfl,rfl,rfl⟩:=trodAll_nil r0
  obtain rfl:args = #[v0]:=by cases args; simp_all
  obtain ⟨rfl,rfl⟩:=trodVars_none hV
  obtain ⟨u0,t0,rt0⟩:=arg_V (φ:=phi) (n:=12) (T:=.slice 1 (.int .u8)) (by kernel_rfl) (hval 0 22 v0 rfl rfl) h0
  obtain ⟨a0,rfl,o0⟩:=Ok.arg1 (e:=(eL 1 eU8)) (fun x=>.lst 1 (x.map eU8)) (fun _=>rfl) (Ok.slice Ok.u8) t0
  have hlt0:∀x∈p0,x.block<W.heap.size:=fun x hx=>hW'.lt x (by simp [hx])
  have hc:=rR (P:=Tryz.prog) (φ:=phi) (f:=435) (fid:=5) (vals:=[v0]) (vs:=[.lst 1 (a0.map eU8)]) (w:=W) rfl rfl (rts rt0 rtz) (k435 a0 true (BW a0 o0))
  refine hc.mono fun e W' ⟨he,bel⟩=>?_
  subst he
  exact ⟨_,rfl,_,_,_,[],_,[],hW',trodAll_mk1 (shut_bool Tryz.underlying4 _),(trodAll_cons_mk (Below.trod laid (by kernel_rfl) (of_decide_eq_true (by kernel_rfl)) h0 bel hlt0) trodAll_mk0),rfl,bel.frame _,fun h=>by cases h⟩
theorem over:Rows.fnOwnedRow.holds Tryz.pinned (OpenSpec.ofChange Rows.fnOwnedSpec):=
  OpenClaim.holds_of_wide 5 Tryz.f5 rfl rfl rfl rfl rfl rfl rfl ⟨rfl,rfl,rfl,rfl,rfl⟩ rfl rfl rfl rfl rfl (by kernel_rfl) Tryz.func5 joined
    (of_decide_eq_true (by kernel_rfl)) (by unfold Func.isWrapper; first | (rw [if_pos (by decide +kernel)]; kernel_rfl) | (rw [if_neg (by decide +kernel)]; exact ⟨rfl,rfl⟩))
    (fun os started H enc _=>lifted os started H enc)
end Go.Proofs.YtnkhjipmmomjoaaGreat.fnOwned
namespace Go.Proofs.YtnkhjipmmomjoaaGreat
/-- FnOwned. -/
theorem fnOwned_holds:Rows.FnOwnedSaid:=fnOwned.over
end Go.Proofs.YtnkhjipmmomjoaaGreat
