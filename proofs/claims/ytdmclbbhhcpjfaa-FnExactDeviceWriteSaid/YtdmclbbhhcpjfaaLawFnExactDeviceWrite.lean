/- FnExactDeviceWrite: whatever the input, the law returns true, and its arguments read behind the call as they read before. No condition: every input. -/
import Derived.Test.YtdmclbbhhcpjfaaRows
import Derived.Test.YtdmclbbhhcpjfaaQgJ
import Derived.Test.YtdmclbbhhcpjfaaQvT
import Derived.Test.YtdmclbbhhcpjfaaQgW0
import Derived.Test.YtdmclbbhhcpjfaaQwZ
import Derived.WalkKit
import Derived.ProofKit
import Derived.OpenShut
import Derived.ShutString
import Derived.ChangeOld
import Derived.Below
import Derived.SizedLaws
import Derived.Carry
set_option linter.all false
set_option maxRecDepth 100000
namespace Go.Proofs.Ytdmclbbhhcpjfaa.fnExactDeviceWrite
open Go.ChangeShapes Go.WideShapes Go.ChangeAt Go.RowKit Go.Ev
def phi:Bs:=[(82,269),(232,367),(167,329),(168,330),(83,270),(85,63),(84,271),(19,216),(77,264),(165,327),(163,325),(164,326),(76,263),(231,366),(166,328),(78,265),(17,214),(92,276),(184,345),(108,289),(31,228),(95,56),(109,290),(110,291),(191,352),(122,303),(111,292),(112,293),(32,229),(34,231),(185,346),(113,294),(33,230),(36,233),(186,347),(114,295),(35,232),(38,235),(115,296),(37,234),(116,297),(117,298),(39,236),(6,204)]
abbrev CV:Aq:=Bp Try.prog phi
def tbl:List (Nat×Es):=[(269,DT),(367,ET),(329,EM),(330,EN),(270,DU),(63,IL),(271,DV),(216,DF),(264,DR),(327,EK),(325,EI),(326,EJ),(263,DQ),(366,ES),(328,EL),(265,DS),(214,DE),(276,DW),(345,EO),(289,DX),(228,DG),(56,IK),(290,DY),(291,DZ),(352,ER),(303,EH),(292,EA),(293,EB),(229,DH),(231,DJ),(346,EP),(294,EC),(230,DI),(233,DL),(347,EQ),(295,ED),(232,DK),(235,DN),(296,EE),(234,DM),(297,EF),(298,EG),(236,DO),(204,DD)]
theorem tq {p:Nat×Nat} {xf:Es} (h1:Go.Ev.look tbl p.2=some xf) (fn:Func) (h2:Try.prog.funcs[p.1]? = some fn:=by kernel_rfl) (h3:Ky Try.prog phi fn=some xf:=by kernel_rfl):Vd Try.prog phi tbl p:=II h1 fn h2 h3
theorem tied:AV Try.prog phi (Go.Ev.look tbl):=jI ⟨tq rfl Try.f82,
  tq rfl Try.f232,
  tq rfl Try.f167,
  tq rfl Try.f168,
  tq rfl Try.f83,
  tq rfl Try.f85,
  tq rfl Try.f84,
  tq rfl Try.f19,
  tq rfl Try.f77,
  tq rfl Try.f165,
  tq rfl Try.f163,
  tq rfl Try.f164,
  tq rfl Try.f76,
  tq rfl Try.f231,
  tq rfl Try.f166,
  tq rfl Try.f78,
  tq rfl Try.f17,
  tq rfl Try.f92,
  tq rfl Try.f184,
  tq rfl Try.f108,
  tq rfl Try.f31,
  tq rfl Try.f95,
  tq rfl Try.f109,
  tq rfl Try.f110,
  tq rfl Try.f191,
  tq rfl Try.f122,
  tq rfl Try.f111,
  tq rfl Try.f112,
  tq rfl Try.f32,
  tq rfl Try.f34,
  tq rfl Try.f185,
  tq rfl Try.f113,
  tq rfl Try.f33,
  tq rfl Try.f36,
  tq rfl Try.f186,
  tq rfl Try.f114,
  tq rfl Try.f35,
  tq rfl Try.f38,
  tq rfl Try.f115,
  tq rfl Try.f37,
  tq rfl Try.f116,
  tq rfl Try.f117,
  tq rfl Try.f39,
  tq rfl Try.f6,trivial⟩
theorem ts {k:Nat} {xf:Es} {g:Lq} {t:Cs} (h:Go.Ev.look tbl k=some xf) (f:bL CV xf g t):CV k g t:=Zj tied h f
theorem k269:kH CV:=fun a0 r h=>ts rfl (GQ  a0 r h)
theorem k367:AT CV:=fun a0 f1 k1 is1 hs1 hf1 r h=>ts rfl (HQ  a0 f1 k1 is1 hs1 hf1 r h)
theorem k329:AM CV:=fun a0 f1 k1 is1 hs1 hf1 r h=>ts rfl (HJ k367 a0 f1 k1 is1 hs1 hf1 r h)
theorem k330:AN CV:=fun a0 f1 k1 is1 hs1 hf1 r h=>ts rfl (HK  a0 f1 k1 is1 hs1 hf1 r h)
theorem k270:zX CV:=fun a0 f1 k1 is1 hs1 hf1 r h=>ts rfl (GR k329 k330 a0 f1 k1 is1 hs1 hf1 r h)
theorem k63:FV CV:=fun a0 a1 a2 r h=>ts rfl (IV  a0 a1 a2 r h)
theorem k271:zY CV:=fun a0 r h=>ts rfl (GS k63 a0 r h)
theorem k216:zL CV:=fun a0 r h=>ts rfl (GD k269 k270 k271 a0 r h)
theorem k264:zU CV:=fun a0 r h=>ts rfl (GO  a0 r h)
theorem k327:AK CV:=fun a0 a1 r h=>ts rfl (HH k63 a0 a1 r h)
theorem k325:dQ CV:=fun a0 r h=>ts rfl (HF  a0 r h)
theorem k326:AJ CV:=fun a0 a1 r h=>ts rfl (HG  a0 a1 r h)
theorem k263:zS CV:=fun a0 r h=>ts rfl (GN k325 k326 a0 r h)
theorem k366:AS CV:=fun a0 r h=>ts rfl (HP k325 a0 r h)
theorem k328:AL CV:=fun a0 a1 a2 r h=>ts rfl (HI k263 k325 k366 a0 a1 a2 r h)
theorem k265:zW CV:=fun a0 a1 a2 r h=>ts rfl (GP k269 k327 k328 a0 a1 a2 r h)
theorem k214:zK CV:=fun a0 a1 a2 r h=>ts rfl (GC k216 k264 k265 a0 a1 a2 r h)
theorem k276:kI CV:=fun a0 a1 r h=>ts rfl (GT  a0 a1 r h)
theorem k345:AO CV:=fun a0 a1 r h=>ts rfl (HL k276 a0 a1 r h)
theorem k289:zZ CV:=fun a0 a1 r h=>ts rfl (GU k345 a0 a1 r h)
theorem k228:zM CV:=fun a0 a1 r h=>ts rfl (GE k276 k289 a0 a1 r h)
theorem k56:HR CV:=fun a0 a1 a2 r h=>ts rfl (IU  a0 a1 a2 r h)
theorem k290:AA CV:=fun a0 r h=>ts rfl (GV k56 a0 r h)
theorem k291:AB CV:=fun a0 a1 r h=>ts rfl (GW  a0 a1 r h)
theorem k352:AR CV:=fun a0 a1 r h=>ts rfl (HO  a0 a1 r h)
theorem k303:AI CV:=fun a0 r h=>ts rfl (HE k352 a0 r h)
theorem k292:AC CV:=fun a0 a1 a2 r h=>ts rfl (GX k303 a0 a1 a2 r h)
theorem k293:AD CV:=fun a0 r h=>ts rfl (GY  a0 r h)
theorem k229:zN CV:=fun a0 a1 a2 r h=>ts rfl (GF k290 k291 k292 k293 a0 a1 a2 r h)
theorem k231:dN CV:=fun a0 r h=>ts rfl (GH  a0 r h)
theorem k346:AP CV:=fun a0 r h=>ts rfl (HM k231 a0 r h)
theorem k294:AE CV:=fun a0 r h=>ts rfl (GZ k346 a0 r h)
theorem k230:zO CV:=fun a0 r h=>ts rfl (GG k231 k294 a0 r h)
theorem k233:dO CV:=fun a0 a1 r h=>ts rfl (GJ  a0 a1 r h)
theorem k347:AQ CV:=fun a0 a1 r h=>ts rfl (HN k233 a0 a1 r h)
theorem k295:AF CV:=fun a0 a1 r h=>ts rfl (HA k347 a0 a1 r h)
theorem k232:zP CV:=fun a0 a1 r h=>ts rfl (GI k233 k295 a0 a1 r h)
theorem k235:dP CV:=fun a0 a1 r h=>ts rfl (GL  a0 a1 r h)
theorem k296:AG CV:=fun a0 a1 r h=>ts rfl (HB k235 a0 a1 r h)
theorem k234:zQ CV:=fun a0 a1 r h=>ts rfl (GK k235 k296 a0 a1 r h)
theorem k297:kJ CV:=fun a0 a1 r h=>ts rfl (HC  a0 a1 r h)
theorem k298:AH CV:=fun a0 a1 r h=>ts rfl (HD k297 a0 a1 r h)
theorem k236:zR CV:=fun a0 a1 r h=>ts rfl (GM k297 k298 a0 a1 r h)
theorem k204:CY CV:=fun a0 a1 a2 r h=>ts rfl (GB k214 k228 k229 k230 k231 k232 k233 k234 k235 k236 a0 a1 a2 r h)
theorem oktDSector:Ok (.struct [.int .i64,.slice 1 (.int .u8)]) Aj Uo:=fun vs h=>by
  have h:Ht [.int .i64,.slice 1 (.int .u8)] vs:=by simpa only [Da] using h
  obtain ⟨a0,r0,rfl,h0,h⟩:=h
  obtain ⟨a1,r1,rfl,h1,h⟩:=h
  obtain rfl:r1=[]:=by simpa only [Ht] using h
  obtain ⟨x0,rfl,p0⟩:=Ok.int64 a0 h0
  obtain ⟨x1,rfl,p1⟩:=(Ok.slice Ok.u8) a1 h1
  exact ⟨⟨x0,x1⟩,rfl,⟨p0,p1⟩⟩
theorem oktDDevice:Ok (.struct [.slice 1 (.int .u8),.slice 2 (.struct [.int .i64,.slice 1 (.int .u8)])]) Ae Pl:=fun vs h=>by
  have h:Ht [.slice 1 (.int .u8),.slice 2 (.struct [.int .i64,.slice 1 (.int .u8)])] vs:=by simpa only [Da] using h
  obtain ⟨a0,r0,rfl,h0,h⟩:=h
  obtain ⟨a1,r1,rfl,h1,h⟩:=h
  obtain rfl:r1=[]:=by simpa only [Ht] using h
  obtain ⟨x0,rfl,p0⟩:=(Ok.slice Ok.u8) a0 h0
  obtain ⟨x1,rfl,p1⟩:=(Ok.slice oktDSector) a1 h1
  exact ⟨⟨x0,x1⟩,rfl,⟨p0,p1⟩⟩
theorem own:ownKnob Try.prog.godebug=none:=by kernel_rfl
theorem laid:laidOutB Try.prog=true:=by kernel_rfl
theorem lifted (os:Os) (started:os.Started) (H:Type) (enc:TypeId×Value→H):
    ReturnsInHanded {} Try.checked os 6 .any (Rows.fnExactDeviceWriteSpec.pre6 enc Try.prog Try.f6 Rows.fnExactDeviceWriteRow.domain false) (Rows.fnExactDeviceWriteSpec.post enc Try.prog Try.f6 false true false false):=by
  refine returnsInHanded_of_change_sized (C:=Try.checked) own started (by kernel_rfl) Try.func6
    (ChangeSpec.witness6 (enc:=enc) (C:=Try.checked) false ⟨#[],#[.agg #[.slice none 0 0,.slice none 0 0],.int .i64 0,.slice none 0 0],[]⟩ 8 (by kernel_rfl) (by kernel_rfl) (by kernel_rfl) (by kernel_rfl)) ?_
  intro W base args ds gs before hval0 hW hcnd hsz0 _
  have hval:∀(j:Nat) t v,Try.f6.params[j]? = some t→args[j]? = some v→Value.okWide Try.prog W .any base t v:=hval0
  have hW':=hW
  obtain ⟨p,q,hA0,hV,rfl,hfz,hnd⟩:=hW
  have hA:DataW.TrodAll enc Try.prog W 0 (fun _=>true) true Try.f6.params.toList args.toList ds p:=hA0
  rw [Try.params6] at hA hval
  obtain ⟨v0,vs0,d0,ds0,p0,q0,hargs,rfl,rfl,h0,r0⟩:=trodAll_cons hA
  obtain ⟨v1,vs1,d1,ds1,p1,q1,rfl,rfl,rfl,h1,r1⟩:=trodAll_cons r0
  obtain ⟨v2,vs2,d2,ds2,p2,q2,rfl,rfl,rfl,h2,r2⟩:=trodAll_cons r1
  obtain ⟨rfl,rfl,rfl⟩:=trodAll_nil r2
  obtain rfl:args = #[v0,v1,v2]:=by cases args; simp_all
  obtain ⟨rfl,rfl⟩:=trodVars_none hV
  obtain ⟨u0,t0,rt0⟩:=dX (φ:=phi) (n:=12) (T:=.struct [.slice 1 (.int .u8),.slice 2 (.struct [.int .i64,.slice 1 (.int .u8)])]) (by kernel_rfl) (hval 0 64 v0 rfl rfl) h0
  obtain ⟨a0,rfl,o0⟩:=oktDDevice.argS t0
  have hlt0:∀x∈p0,x.block<W.heap.size:=fun x hx=>hW'.lt x (by simp [hx])
  obtain ⟨u1,t1,rt1⟩:=dX (φ:=phi) (n:=12) (T:=.int .i64) (by kernel_rfl) (hval 1 3 v1 rfl rfl) h1
  obtain ⟨a1,rfl,o1⟩:=Ok.arg1 (e:=eI) (fun x=>.int .i64 x) (fun _=>rfl) Ok.int64 t1
  have hlt1:∀x∈p1,x.block<W.heap.size:=fun x hx=>hW'.lt x (by simp [hx])
  obtain ⟨u2,t2,rt2⟩:=dX (φ:=phi) (n:=12) (T:=.slice 1 (.int .u8)) (by kernel_rfl) (hval 2 22 v2 rfl rfl) h2
  obtain ⟨a2,rfl,o2⟩:=Ok.arg1 (e:=(eL 1 Hm)) (fun x=>.lst 1 (x.map Hm)) (fun _=>rfl) (Ok.slice Ok.u8) t2
  have hlt2:∀x∈p2,x.block<W.heap.size:=fun x hx=>hW'.lt x (by simp [hx])
  have hc:=cM (P:=Try.prog) (φ:=phi) (f:=204) (fid:=6) (vals:=[v0,v1,v2]) (vs:=[.agg [.lst 1 (a0.held.map Hm),.lst 2 (a0.Ab.map Aj)],.int .i64 a1,.lst 1 (a2.map Hm)]) (w:=W) rfl rfl (IG rt0 (IG rt1 (IG rt2 JB))) (k204 a0 a1 a2 true (gK a0 a1 a2 o0 o1 o2))
  refine hc.mono fun e W' ⟨he,bel⟩=>?_
  subst he
  exact ⟨_,rfl,_,_,_,[],_,[],hW',trodAll_mk1 (shut_bool Try.underlying4 _),(trodAll_cons_mk (Below.trod laid (by kernel_rfl) (of_decide_eq_true (by kernel_rfl)) h0 bel hlt0) (trodAll_cons_mk (Below.trod laid (by kernel_rfl) (of_decide_eq_true (by kernel_rfl)) h1 bel hlt1) (trodAll_cons_mk (Below.trod laid (by kernel_rfl) (of_decide_eq_true (by kernel_rfl)) h2 bel hlt2) trodAll_mk0))),rfl,bel.frame _,fun h=>by cases h⟩
theorem over:Rows.fnExactDeviceWriteRow.holds Try.pinned (OpenSpec.ofChange Rows.fnExactDeviceWriteSpec):=
  OpenClaim.holds_of_wide 6 Try.f6 rfl rfl rfl rfl rfl rfl rfl ⟨rfl,rfl,rfl,rfl,rfl⟩ rfl rfl rfl rfl rfl (by kernel_rfl) Try.func6 joined
    (of_decide_eq_true (by kernel_rfl)) (by unfold Func.isWrapper; first | (rw [if_pos (by decide +kernel)]; kernel_rfl) | (rw [if_neg (by decide +kernel)]; exact ⟨rfl,rfl⟩))
    (fun os started H enc _=>lifted os started H enc)
end Go.Proofs.Ytdmclbbhhcpjfaa.fnExactDeviceWrite
namespace Go.Proofs.Ytdmclbbhhcpjfaa
/-- FnExactDeviceWrite. -/
theorem fnExactDeviceWrite_holds:Rows.FnExactDeviceWriteSaid:=fnExactDeviceWrite.over
end Go.Proofs.Ytdmclbbhhcpjfaa
