/- FnExactAppendLog: whatever the input, the law returns true, and its arguments read behind the call as they read before. No condition: every input. -/
import Derived.Test.YtdmclbbhhcpjfaaRows
import Derived.Test.YtdmclbbhhcpjfaaQgJ
import Derived.Test.YtdmclbbhhcpjfaaQvT
import Derived.Test.YtdmclbbhhcpjfaaQgW1
import Derived.Test.YtdmclbbhhcpjfaaQwZ
import Derived.WalkKit
import Derived.ProofKit
import Derived.OpenShut
import Derived.ShutString
import Derived.ChangeOld
import Derived.Below
import Derived.SizedLaws
import Derived.Carry
set_option linter.all false
set_option maxRecDepth 100000
namespace Go.Proofs.Ytdmclbbhhcpjfaa.fnExactAppendLog
open Go.ChangeShapes Go.WideShapes Go.ChangeAt Go.RowKit Go.Ev
def phi:By:=[(82,269),(232,367),(167,329),(168,330),(83,270),(85,63),(84,271),(19,216),(77,264),(163,325),(164,326),(76,263),(80,267),(170,331),(171,332),(90,274),(172,333),(91,275),(165,327),(231,366),(166,328),(89,273),(21,218),(92,276),(184,345),(108,289),(31,228),(34,231),(185,346),(113,294),(33,230),(36,233),(186,347),(114,295),(35,232),(38,235),(115,296),(37,234),(116,297),(117,298),(39,236),(95,56),(109,290),(110,291),(191,352),(122,303),(111,292),(192,353),(123,304),(190,351),(121,302),(46,240),(9,207)]
abbrev CV:Ar:=Bv Try.prog phi
def tbl:List (Nat×Dx):=[(269,KL),(367,LX),(329,LJ),(330,LK),(270,KM),(63,QC),(271,KN),(216,JX),(264,KJ),(325,LF),(326,LG),(263,KI),(267,KK),(331,LL),(332,LN),(274,KP),(333,LO),(275,KQ),(327,LH),(366,LW),(328,LI),(273,KO),(218,JY),(276,KR),(345,LP),(289,KS),(228,JZ),(231,KB),(346,LQ),(294,KW),(230,KA),(233,KD),(347,LS),(295,KX),(232,KC),(235,KF),(296,KY),(234,KE),(297,KZ),(298,LA),(236,KG),(56,MW),(290,KT),(291,KU),(352,LU),(303,LD),(292,KV),(353,LV),(304,LE),(351,LT),(302,LC),(240,KH),(207,JW)]
theorem tq {p:Nat×Nat} {xf:Dx} (h1:Go.Ev.look tbl p.2=some xf) (fn:Func) (h2:Try.prog.funcs[p.1]? = some fn:=by kernel_rfl) (h3:Lu Try.prog phi fn=some xf:=by kernel_rfl):Ws Try.prog phi tbl p:=PY h1 fn h2 h3
theorem tied:HN Try.prog phi (Go.Ev.look tbl):=mV ⟨tq rfl Try.f82,
  tq rfl Try.f232,
  tq rfl Try.f167,
  tq rfl Try.f168,
  tq rfl Try.f83,
  tq rfl Try.f85,
  tq rfl Try.f84,
  tq rfl Try.f19,
  tq rfl Try.f77,
  tq rfl Try.f163,
  tq rfl Try.f164,
  tq rfl Try.f76,
  tq rfl Try.f80,
  tq rfl Try.f170,
  tq rfl Try.f171,
  tq rfl Try.f90,
  tq rfl Try.f172,
  tq rfl Try.f91,
  tq rfl Try.f165,
  tq rfl Try.f231,
  tq rfl Try.f166,
  tq rfl Try.f89,
  tq rfl Try.f21,
  tq rfl Try.f92,
  tq rfl Try.f184,
  tq rfl Try.f108,
  tq rfl Try.f31,
  tq rfl Try.f34,
  tq rfl Try.f185,
  tq rfl Try.f113,
  tq rfl Try.f33,
  tq rfl Try.f36,
  tq rfl Try.f186,
  tq rfl Try.f114,
  tq rfl Try.f35,
  tq rfl Try.f38,
  tq rfl Try.f115,
  tq rfl Try.f37,
  tq rfl Try.f116,
  tq rfl Try.f117,
  tq rfl Try.f39,
  tq rfl Try.f95,
  tq rfl Try.f109,
  tq rfl Try.f110,
  tq rfl Try.f191,
  tq rfl Try.f122,
  tq rfl Try.f111,
  tq rfl Try.f192,
  tq rfl Try.f123,
  tq rfl Try.f190,
  tq rfl Try.f121,
  tq rfl Try.f46,
  tq rfl Try.f9,trivial⟩
theorem ts {k:Nat} {xf:Dx} {g:Mr} {t:Cz} (h:Go.Ev.look tbl k=some xf) (f:dO CV xf g t):CV k g t:=bA tied h f
theorem k269:GI CV:=fun a0 r h=>ts rfl (NU  a0 r h)
theorem k367:HL CV:=fun a0 f1 k1 is1 hs1 hf1 r h=>ts rfl (PE  a0 f1 k1 is1 hs1 hf1 r h)
theorem k329:HA CV:=fun a0 f1 k1 is1 hs1 hf1 r h=>ts rfl (OS k367 a0 f1 k1 is1 hs1 hf1 r h)
theorem k330:HB CV:=fun a0 f1 k1 is1 hs1 hf1 r h=>ts rfl (OT  a0 f1 k1 is1 hs1 hf1 r h)
theorem k270:GJ CV:=fun a0 f1 k1 is1 hs1 hf1 r h=>ts rfl (NV k329 k330 a0 f1 k1 is1 hs1 hf1 r h)
theorem k63:JR CV:=fun a0 a1 a2 r h=>ts rfl (QI  a0 a1 a2 r h)
theorem k271:GK CV:=fun a0 r h=>ts rfl (NW k63 a0 r h)
theorem k216:FY CV:=fun a0 r h=>ts rfl (NE k269 k270 k271 a0 r h)
theorem k264:GG CV:=fun a0 r h=>ts rfl (NS  a0 r h)
theorem k325:dP CV:=fun a0 r h=>ts rfl (OO  a0 r h)
theorem k326:GX CV:=fun a0 a1 r h=>ts rfl (OP  a0 a1 r h)
theorem k263:gG CV:=fun a0 r h=>ts rfl (NQ k325 k326 a0 r h)
theorem k267:GH CV:=fun a0 r h=>ts rfl (NT k263 a0 r h)
theorem k331:HC CV:=fun a0 a1 r h=>ts rfl (OU  a0 a1 r h)
theorem k332:oD CV:=fun a0 r h=>ts rfl (OV  a0 r h)
theorem k274:GM CV:=fun a0 r h=>ts rfl (NY k331 k332 a0 r h)
theorem k333:HD CV:=fun a0 r h=>ts rfl (OW  a0 r h)
theorem k275:GN CV:=fun a0 r h=>ts rfl (NZ k63 k325 k332 k333 a0 r h)
theorem k327:GY CV:=fun a0 a1 r h=>ts rfl (OQ k63 a0 a1 r h)
theorem k366:HK CV:=fun a0 r h=>ts rfl (PD k325 a0 r h)
theorem k328:GZ CV:=fun a0 a1 a2 r h=>ts rfl (OR k263 k325 k366 a0 a1 a2 r h)
theorem k273:GL CV:=fun a0 a1 r h=>ts rfl (NX k263 k267 k274 k275 k327 k328 a0 a1 r h)
theorem k218:FZ CV:=fun a0 a1 r h=>ts rfl (NG k216 k264 k273 a0 a1 r h)
theorem k276:nZ CV:=fun a0 a1 r h=>ts rfl (OA  a0 a1 r h)
theorem k345:HE CV:=fun a0 a1 r h=>ts rfl (OX k276 a0 a1 r h)
theorem k289:GO CV:=fun a0 a1 r h=>ts rfl (OB k345 a0 a1 r h)
theorem k228:GA CV:=fun a0 a1 r h=>ts rfl (NH k276 k289 a0 a1 r h)
theorem k231:gD CV:=fun a0 r h=>ts rfl (NJ  a0 r h)
theorem k346:HF CV:=fun a0 r h=>ts rfl (OY k231 a0 r h)
theorem k294:GS CV:=fun a0 r h=>ts rfl (OF k346 a0 r h)
theorem k230:GB CV:=fun a0 r h=>ts rfl (NI k231 k294 a0 r h)
theorem k233:gE CV:=fun a0 a1 r h=>ts rfl (NL  a0 a1 r h)
theorem k347:HG CV:=fun a0 a1 r h=>ts rfl (OZ k233 a0 a1 r h)
theorem k295:GT CV:=fun a0 a1 r h=>ts rfl (OG k347 a0 a1 r h)
theorem k232:GC CV:=fun a0 a1 r h=>ts rfl (NK k233 k295 a0 a1 r h)
theorem k235:gF CV:=fun a0 a1 r h=>ts rfl (NN  a0 a1 r h)
theorem k296:GU CV:=fun a0 a1 r h=>ts rfl (OH k235 a0 a1 r h)
theorem k234:GD CV:=fun a0 a1 r h=>ts rfl (NM k235 k296 a0 a1 r h)
theorem k297:oA CV:=fun a0 a1 r h=>ts rfl (OI  a0 a1 r h)
theorem k298:GV CV:=fun a0 a1 r h=>ts rfl (OJ k297 a0 a1 r h)
theorem k236:GE CV:=fun a0 a1 r h=>ts rfl (NO k297 k298 a0 a1 r h)
theorem k56:PF CV:=fun a0 a1 a2 r h=>ts rfl (QH  a0 a1 a2 r h)
theorem k290:GP CV:=fun a0 r h=>ts rfl (OC k56 a0 r h)
theorem k291:GQ CV:=fun a0 a1 r h=>ts rfl (OD  a0 a1 r h)
theorem k352:HI CV:=fun a0 a1 r h=>ts rfl (PB  a0 a1 r h)
theorem k303:oB CV:=fun a0 r h=>ts rfl (OM k352 a0 r h)
theorem k292:GR CV:=fun a0 a1 a2 r h=>ts rfl (OE k303 a0 a1 a2 r h)
theorem k353:HJ CV:=fun a0 r h=>ts rfl (PC  a0 r h)
theorem k304:oC CV:=fun a0 r h=>ts rfl (ON k353 a0 r h)
theorem k351:HH CV:=fun a0 a1 r h=>ts rfl (PA k304 a0 a1 r h)
theorem k302:GW CV:=fun a0 r h=>ts rfl (OK k351 a0 r h)
theorem k240:GF CV:=fun a0 a1 r h=>ts rfl (NP k290 k291 k292 k302 k303 k304 a0 a1 r h)
theorem k207:JQ CV:=fun a0 a1 r h=>ts rfl (ND k218 k228 k230 k231 k232 k233 k234 k235 k236 k240 a0 a1 r h)
theorem oktDSector:Ok (.struct [.int .i64,.slice 1 (.int .u8)]) Ak Wd:=fun vs h=>by
  have h:In [.int .i64,.slice 1 (.int .u8)] vs:=by simpa only [Di] using h
  obtain ⟨a0,r0,rfl,h0,h⟩:=h
  obtain ⟨a1,r1,rfl,h1,h⟩:=h
  obtain rfl:r1=[]:=by simpa only [In] using h
  obtain ⟨x0,rfl,p0⟩:=Ok.int64 a0 h0
  obtain ⟨x1,rfl,p1⟩:=(Ok.slice Ok.u8) a1 h1
  exact ⟨⟨x0,x1⟩,rfl,⟨p0,p1⟩⟩
theorem oktDDevice:Ok (.struct [.slice 1 (.int .u8),.slice 2 (.struct [.int .i64,.slice 1 (.int .u8)])]) Ae Qu:=fun vs h=>by
  have h:In [.slice 1 (.int .u8),.slice 2 (.struct [.int .i64,.slice 1 (.int .u8)])] vs:=by simpa only [Di] using h
  obtain ⟨a0,r0,rfl,h0,h⟩:=h
  obtain ⟨a1,r1,rfl,h1,h⟩:=h
  obtain rfl:r1=[]:=by simpa only [In] using h
  obtain ⟨x0,rfl,p0⟩:=(Ok.slice Ok.u8) a0 h0
  obtain ⟨x1,rfl,p1⟩:=(Ok.slice oktDSector) a1 h1
  exact ⟨⟨x0,x1⟩,rfl,⟨p0,p1⟩⟩
theorem own:ownKnob Try.prog.godebug=none:=by kernel_rfl
theorem laid:laidOutB Try.prog=true:=by kernel_rfl
theorem lifted (os:Os) (started:os.Started) (H:Type) (enc:TypeId×Value→H):
    ReturnsInHanded {} Try.checked os 9 .any (Rows.fnExactAppendLogSpec.pre6 enc Try.prog Try.f9 Rows.fnExactAppendLogRow.domain false) (Rows.fnExactAppendLogSpec.post enc Try.prog Try.f9 false true false false):=by
  refine returnsInHanded_of_change_sized (C:=Try.checked) own started (by kernel_rfl) Try.func9
    (ChangeSpec.witness6 (enc:=enc) (C:=Try.checked) false ⟨#[],#[.agg #[.slice none 0 0,.slice none 0 0],.slice none 0 0],[]⟩ 8 (by kernel_rfl) (by kernel_rfl) (by kernel_rfl) (by kernel_rfl)) ?_
  intro W base args ds gs before hval0 hW hcnd hsz0 _
  have hval:∀(j:Nat) t v,Try.f9.params[j]? = some t→args[j]? = some v→Value.okWide Try.prog W .any base t v:=hval0
  have hW':=hW
  obtain ⟨p,q,hA0,hV,rfl,hfz,hnd⟩:=hW
  have hA:DataW.TrodAll enc Try.prog W 0 (fun _=>true) true Try.f9.params.toList args.toList ds p:=hA0
  rw [Try.params9] at hA hval
  obtain ⟨v0,vs0,d0,ds0,p0,q0,hargs,rfl,rfl,h0,r0⟩:=trodAll_cons hA
  obtain ⟨v1,vs1,d1,ds1,p1,q1,rfl,rfl,rfl,h1,r1⟩:=trodAll_cons r0
  obtain ⟨rfl,rfl,rfl⟩:=trodAll_nil r1
  obtain rfl:args = #[v0,v1]:=by cases args; simp_all
  obtain ⟨rfl,rfl⟩:=trodVars_none hV
  obtain ⟨u0,t0,rt0⟩:=FG (φ:=phi) (n:=12) (T:=.struct [.slice 1 (.int .u8),.slice 2 (.struct [.int .i64,.slice 1 (.int .u8)])]) (by kernel_rfl) (hval 0 64 v0 rfl rfl) h0
  obtain ⟨a0,rfl,o0⟩:=oktDDevice.argS t0
  have hlt0:∀x∈p0,x.block<W.heap.size:=fun x hx=>hW'.lt x (by simp [hx])
  obtain ⟨u1,t1,rt1⟩:=FG (φ:=phi) (n:=12) (T:=.slice 1 (.int .u8)) (by kernel_rfl) (hval 1 22 v1 rfl rfl) h1
  obtain ⟨a1,rfl,o1⟩:=Ok.arg1 (e:=(eL 1 Dh)) (fun x=>.lst 1 (x.map Dh)) (fun _=>rfl) (Ok.slice Ok.u8) t1
  have hlt1:∀x∈p1,x.block<W.heap.size:=fun x hx=>hW'.lt x (by simp [hx])
  have hc:=eY (P:=Try.prog) (φ:=phi) (f:=207) (fid:=9) (vals:=[v0,v1]) (vs:=[.agg [.lst 1 (a0.held.map Dh),.lst 2 (a0.Ab.map Ak)],.lst 1 (a1.map Dh)]) (w:=W) rfl rfl (QE rt0 (QE rt1 QP)) (k207 a0 a1 true (kJ a0 a1 o0 o1))
  refine hc.mono fun e W' ⟨he,bel⟩=>?_
  subst he
  exact ⟨_,rfl,_,_,_,[],_,[],hW',trodAll_mk1 (shut_bool Try.underlying4 _),(trodAll_cons_mk (Below.trod laid (by kernel_rfl) (of_decide_eq_true (by kernel_rfl)) h0 bel hlt0) (trodAll_cons_mk (Below.trod laid (by kernel_rfl) (of_decide_eq_true (by kernel_rfl)) h1 bel hlt1) trodAll_mk0)),rfl,bel.frame _,fun h=>by cases h⟩
theorem over:Rows.fnExactAppendLogRow.holds Try.pinned (OpenSpec.ofChange Rows.fnExactAppendLogSpec):=
  OpenClaim.holds_of_wide 9 Try.f9 rfl rfl rfl rfl rfl rfl rfl ⟨rfl,rfl,rfl,rfl,rfl⟩ rfl rfl rfl rfl rfl (by kernel_rfl) Try.func9 joined
    (of_decide_eq_true (by kernel_rfl)) (by unfold Func.isWrapper; first | (rw [if_pos (by decide +kernel)]; kernel_rfl) | (rw [if_neg (by decide +kernel)]; exact ⟨rfl,rfl⟩))
    (fun os started H enc _=>lifted os started H enc)
end Go.Proofs.Ytdmclbbhhcpjfaa.fnExactAppendLog
namespace Go.Proofs.Ytdmclbbhhcpjfaa
/-- FnExactAppendLog. -/
theorem fnExactAppendLog_holds:Rows.FnExactAppendLogSaid:=fnExactAppendLog.over
end Go.Proofs.Ytdmclbbhhcpjfaa
