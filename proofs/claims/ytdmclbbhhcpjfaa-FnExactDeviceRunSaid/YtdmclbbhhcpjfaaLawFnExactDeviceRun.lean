/- FnExactDeviceRun: whatever the input, the law returns true, and its arguments read behind the call as they read before. No condition: every input. -/
import Derived.Test.YtdmclbbhhcpjfaaRows
import Derived.Test.YtdmclbbhhcpjfaaQgJ
import Derived.Test.YtdmclbbhhcpjfaaQvT
import Derived.Test.YtdmclbbhhcpjfaaQgW1
import Derived.Test.YtdmclbbhhcpjfaaQwZ
import Derived.WalkKit
import Derived.ProofKit
import Derived.OpenShut
import Derived.ShutString
import Derived.ChangeOld
import Derived.Below
import Derived.SizedLaws
import Derived.Carry
set_option linter.all false
set_option maxRecDepth 100000
namespace Go.Proofs.Ytdmclbbhhcpjfaa.fnExactDeviceRun
open Go.ChangeShapes Go.WideShapes Go.ChangeAt Go.RowKit Go.Ev
def phi:By:=[(42,36),(44,37),(45,38),(82,269),(85,63),(165,327),(163,325),(164,326),(76,263),(231,366),(166,328),(78,265),(79,266),(80,267),(81,268),(18,215),(36,233),(186,347),(114,295),(35,232),(38,235),(115,296),(37,234),(116,297),(117,298),(39,236),(92,276),(194,354),(126,307),(50,244),(112,293),(110,291),(191,352),(122,303),(111,292),(195,355),(127,308),(51,245),(34,231),(196,356),(128,309),(52,246),(197,357),(129,310),(53,247),(130,311),(54,248),(10,208)]
abbrev CV:Av:=Bv Try.prog phi
def tbl:List (Nat×Er):=[(36,LO),(37,IK),(38,OM),(269,JS),(63,ON),(327,KJ),(325,KH),(326,KI),(263,JN),(366,KR),(328,KK),(265,JO),(266,JP),(267,JQ),(268,JR),(215,JB),(233,JE),(347,KL),(295,JX),(232,JD),(235,JG),(296,JY),(234,JF),(297,JZ),(298,KA),(236,JH),(276,JT),(354,KN),(307,KC),(244,JI),(293,JW),(291,JU),(352,KM),(303,KB),(292,JV),(355,KO),(308,KD),(245,JJ),(231,JC),(356,KP),(309,KE),(246,JK),(357,KQ),(310,KF),(247,JL),(311,KG),(248,JM),(208,JA)]
theorem tq {p:Nat×Nat} {xf:Er} (h1:Go.Ev.look tbl p.2=some xf) (fn:Func) (h2:Try.prog.funcs[p.1]? = some fn:=by kernel_rfl) (h3:Lk Try.prog phi fn=some xf:=by kernel_rfl):Wh Try.prog phi tbl p:=OI h1 fn h2 h3
theorem tied:FW Try.prog phi (Go.Ev.look tbl):=lZ ⟨tq rfl Try.f42,
  tq rfl Try.f44,
  tq rfl Try.f45,
  tq rfl Try.f82,
  tq rfl Try.f85,
  tq rfl Try.f165,
  tq rfl Try.f163,
  tq rfl Try.f164,
  tq rfl Try.f76,
  tq rfl Try.f231,
  tq rfl Try.f166,
  tq rfl Try.f78,
  tq rfl Try.f79,
  tq rfl Try.f80,
  tq rfl Try.f81,
  tq rfl Try.f18,
  tq rfl Try.f36,
  tq rfl Try.f186,
  tq rfl Try.f114,
  tq rfl Try.f35,
  tq rfl Try.f38,
  tq rfl Try.f115,
  tq rfl Try.f37,
  tq rfl Try.f116,
  tq rfl Try.f117,
  tq rfl Try.f39,
  tq rfl Try.f92,
  tq rfl Try.f194,
  tq rfl Try.f126,
  tq rfl Try.f50,
  tq rfl Try.f112,
  tq rfl Try.f110,
  tq rfl Try.f191,
  tq rfl Try.f122,
  tq rfl Try.f111,
  tq rfl Try.f195,
  tq rfl Try.f127,
  tq rfl Try.f51,
  tq rfl Try.f34,
  tq rfl Try.f196,
  tq rfl Try.f128,
  tq rfl Try.f52,
  tq rfl Try.f197,
  tq rfl Try.f129,
  tq rfl Try.f53,
  tq rfl Try.f130,
  tq rfl Try.f54,
  tq rfl Try.f10,trivial⟩
theorem ts {k:Nat} {xf:Er} {g:Md} {t:De} (h:Go.Ev.look tbl k=some xf) (f:cP CV xf g t):CV k g t:=aK tied h f
theorem k36:NQ CV:=fun a0 a1 r h=>ts rfl (OS  a0 a1 r h)
theorem k37:NS CV:=fun a0 a1 r h=>ts rfl (OT  a0 a1 r h)
theorem k38:NT CV:=fun a0 a1 r h=>ts rfl (OU  a0 a1 r h)
theorem k269:EY CV:=fun a0 r h=>ts rfl (MO  a0 r h)
theorem k63:NU CV:=fun a0 a1 a2 r h=>ts rfl (OV  a0 a1 a2 r h)
theorem k327:FL CV:=fun a0 a1 r h=>ts rfl (NH k63 a0 a1 r h)
theorem k325:cQ CV:=fun a0 r h=>ts rfl (NE  a0 r h)
theorem k326:nD CV:=fun a0 a1 r h=>ts rfl (NG  a0 a1 r h)
theorem k263:nA CV:=fun a0 r h=>ts rfl (MJ k325 k326 a0 r h)
theorem k366:FU CV:=fun a0 r h=>ts rfl (NP k325 a0 r h)
theorem k328:FM CV:=fun a0 a1 a2 r h=>ts rfl (NI k263 k325 k366 a0 a1 a2 r h)
theorem k265:EU CV:=fun a0 a1 a2 r h=>ts rfl (MK k269 k327 k328 a0 a1 a2 r h)
theorem k266:EV CV:=fun a0 r h=>ts rfl (ML  a0 r h)
theorem k267:EW CV:=fun a0 r h=>ts rfl (MM k263 a0 r h)
theorem k268:EX CV:=fun a0 a1 r h=>ts rfl (MN k325 k326 a0 a1 r h)
theorem k215:EK CV:=fun a0 r h=>ts rfl (LX k265 k266 k267 k268 a0 r h)
theorem k233:fA CV:=fun a0 a1 r h=>ts rfl (MA  a0 a1 r h)
theorem k347:FN CV:=fun a0 a1 r h=>ts rfl (NJ k233 a0 a1 r h)
theorem k295:FD CV:=fun a0 a1 r h=>ts rfl (MT k347 a0 a1 r h)
theorem k232:EM CV:=fun a0 a1 r h=>ts rfl (LZ k233 k295 a0 a1 r h)
theorem k235:fB CV:=fun a0 a1 r h=>ts rfl (MC  a0 a1 r h)
theorem k296:FE CV:=fun a0 a1 r h=>ts rfl (MU k235 a0 a1 r h)
theorem k234:EN CV:=fun a0 a1 r h=>ts rfl (MB k235 k296 a0 a1 r h)
theorem k297:nB CV:=fun a0 a1 r h=>ts rfl (MV  a0 a1 r h)
theorem k298:FF CV:=fun a0 a1 r h=>ts rfl (MW k297 a0 a1 r h)
theorem k236:EO CV:=fun a0 a1 r h=>ts rfl (MD k297 k298 a0 a1 r h)
theorem k276:EZ CV:=fun a0 a1 r h=>ts rfl (MP  a0 a1 r h)
theorem k354:FP CV:=fun a0 a1 r h=>ts rfl (NL  a0 a1 r h)
theorem k307:FG CV:=fun a0 a1 r h=>ts rfl (MY k276 k354 a0 a1 r h)
theorem k244:EP CV:=fun a0 a1 r h=>ts rfl (ME k307 a0 a1 r h)
theorem k293:FC CV:=fun a0 r h=>ts rfl (MS  a0 r h)
theorem k291:FA CV:=fun a0 a1 r h=>ts rfl (MQ  a0 a1 r h)
theorem k352:nE CV:=fun a0 a1 r h=>ts rfl (NK  a0 a1 r h)
theorem k303:nC CV:=fun a0 r h=>ts rfl (MX k352 a0 r h)
theorem k292:FB CV:=fun a0 a1 a2 r h=>ts rfl (MR k303 a0 a1 a2 r h)
theorem k355:FR CV:=fun a0 a1 r h=>ts rfl (NM k352 a0 a1 r h)
theorem k308:FH CV:=fun a0 a1 r h=>ts rfl (MZ k291 k292 k303 k355 a0 a1 r h)
theorem k245:EQ CV:=fun a0 r h=>ts rfl (MF k293 k308 a0 r h)
theorem k231:EL CV:=fun a0 r h=>ts rfl (LY  a0 r h)
theorem k356:FS CV:=fun a0 r h=>ts rfl (NN  a0 r h)
theorem k309:FI CV:=fun a0 r h=>ts rfl (NA k231 k356 a0 r h)
theorem k246:ER CV:=fun a0 r h=>ts rfl (MG k309 a0 r h)
theorem k357:FT CV:=fun a0 a1 r h=>ts rfl (NO  a0 a1 r h)
theorem k310:FJ CV:=fun a0 a1 r h=>ts rfl (NC k233 k357 a0 a1 r h)
theorem k247:ES CV:=fun a0 a1 r h=>ts rfl (MH k310 a0 a1 r h)
theorem k311:FK CV:=fun a0 a1 r h=>ts rfl (ND  a0 a1 r h)
theorem k248:ET CV:=fun a0 a1 r h=>ts rfl (MI k235 k311 a0 a1 r h)
theorem k208:IV CV:=fun a0 r h=>ts rfl (LW k36 k37 k38 k215 k232 k234 k236 k244 k245 k246 k247 k248 a0 r h)
theorem oktDDevAct:Ok (.struct [.int .i64,.int .i64,.slice 1 (.int .u8),.slice 1 (.bool)]) Ap Qn:=fun vs h=>by
  have h:Ka [.int .i64,.int .i64,.slice 1 (.int .u8),.slice 1 (.bool)] vs:=by simpa only [Dx] using h
  obtain ⟨a0,r0,rfl,h0,h⟩:=h
  obtain ⟨a1,r1,rfl,h1,h⟩:=h
  obtain ⟨a2,r2,rfl,h2,h⟩:=h
  obtain ⟨a3,r3,rfl,h3,h⟩:=h
  obtain rfl:r3=[]:=by simpa only [Ka] using h
  obtain ⟨x0,rfl,p0⟩:=Ok.int64 a0 h0
  obtain ⟨x1,rfl,p1⟩:=Ok.int64 a1 h1
  obtain ⟨x2,rfl,p2⟩:=(Ok.slice Ok.u8) a2 h2
  obtain ⟨x3,rfl,p3⟩:=(Ok.slice Ok.bool) a3 h3
  exact ⟨⟨x0,x1,x2,x3⟩,rfl,⟨p0,p1,p2,p3⟩⟩
theorem own:ownKnob Try.prog.godebug=none:=by kernel_rfl
theorem laid:laidOutB Try.prog=true:=by kernel_rfl
theorem lifted (os:Os) (started:os.Started) (H:Type) (enc:TypeId×Value→H):
    ReturnsInHanded {} Try.checked os 10 .any (Rows.fnExactDeviceRunSpec.pre6 enc Try.prog Try.f10 Rows.fnExactDeviceRunRow.domain false) (Rows.fnExactDeviceRunSpec.post enc Try.prog Try.f10 false true false false):=by
  refine returnsInHanded_of_change_sized (C:=Try.checked) own started (by kernel_rfl) Try.func10
    (ChangeSpec.witness6 (enc:=enc) (C:=Try.checked) false ⟨#[],#[.slice none 0 0],[]⟩ 8 (by kernel_rfl) (by kernel_rfl) (by kernel_rfl) (by kernel_rfl)) ?_
  intro W base args ds gs before hval0 hW hcnd hsz0 _
  have hval:∀(j:Nat) t v,Try.f10.params[j]? = some t→args[j]? = some v→Value.okWide Try.prog W .any base t v:=hval0
  have hW':=hW
  obtain ⟨p,q,hA0,hV,rfl,hfz,hnd⟩:=hW
  have hA:DataW.TrodAll enc Try.prog W 0 (fun _=>true) true Try.f10.params.toList args.toList ds p:=hA0
  rw [Try.params10] at hA hval
  obtain ⟨v0,vs0,d0,ds0,p0,q0,hargs,rfl,rfl,h0,r0⟩:=trodAll_cons hA
  obtain ⟨rfl,rfl,rfl⟩:=trodAll_nil r0
  obtain rfl:args = #[v0]:=by cases args; simp_all
  obtain ⟨rfl,rfl⟩:=trodVars_none hV
  obtain ⟨u0,t0,rt0⟩:=IZ (φ:=phi) (n:=12) (T:=.slice 4 (.struct [.int .i64,.int .i64,.slice 1 (.int .u8),.slice 1 (.bool)])) (by kernel_rfl) (hval 0 81 v0 rfl rfl) h0
  obtain ⟨a0,rfl,o0⟩:=Ok.arg1 (e:=(eL 4 Ap)) (fun x=>.lst 4 (x.map Ap)) (fun _=>rfl) (Ok.slice oktDDevAct) t0
  have hlt0:∀x∈p0,x.block<W.heap.size:=fun x hx=>hW'.lt x (by simp [hx])
  have hc:=dS (P:=Try.prog) (φ:=phi) (f:=208) (fid:=10) (vals:=[v0]) (vs:=[.lst 4 (a0.map Ap)]) (w:=W) rfl rfl (PC rt0 PD) (k208 a0 true (jR a0 o0))
  refine hc.mono fun e W' ⟨he,bel⟩=>?_
  subst he
  exact ⟨_,rfl,_,_,_,[],_,[],hW',trodAll_mk1 (shut_bool Try.underlying4 _),(trodAll_cons_mk (Below.trod laid (by kernel_rfl) (of_decide_eq_true (by kernel_rfl)) h0 bel hlt0) trodAll_mk0),rfl,bel.frame _,fun h=>by cases h⟩
theorem over:Rows.fnExactDeviceRunRow.holds Try.pinned (OpenSpec.ofChange Rows.fnExactDeviceRunSpec):=
  OpenClaim.holds_of_wide 10 Try.f10 rfl rfl rfl rfl rfl rfl rfl ⟨rfl,rfl,rfl,rfl,rfl⟩ rfl rfl rfl rfl rfl (by kernel_rfl) Try.func10 joined
    (of_decide_eq_true (by kernel_rfl)) (by unfold Func.isWrapper; first | (rw [if_pos (by decide +kernel)]; kernel_rfl) | (rw [if_neg (by decide +kernel)]; exact ⟨rfl,rfl⟩))
    (fun os started H enc _=>lifted os started H enc)
end Go.Proofs.Ytdmclbbhhcpjfaa.fnExactDeviceRun
namespace Go.Proofs.Ytdmclbbhhcpjfaa
/-- FnExactDeviceRun. -/
theorem fnExactDeviceRun_holds:Rows.FnExactDeviceRunSaid:=fnExactDeviceRun.over
end Go.Proofs.Ytdmclbbhhcpjfaa
