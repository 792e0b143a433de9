/- FnStore: whatever the input, the law returns true, and its arguments read behind the call as they read before. No condition: every input. -/
import Derived.Test.YtnkhjipmmomjoaaRows
import Derived.Test.YtnkhjipmmomjoaaQgJ
import Derived.Test.YtnkhjipmmomjoaaQvT
import Derived.Test.YtnkhjipmmomjoaaQgW2
import Derived.Test.YtnkhjipmmomjoaaQwZ
import Derived.WalkKit
import Derived.ProofKit
import Derived.OpenShut
import Derived.ShutString
import Derived.ChangeOld
import Derived.Below
import Derived.SizedLaws
import Derived.Carry
set_option linter.all false
set_option maxRecDepth 100000
namespace Go.Proofs.Ytnkhjipmmomjoaa.fnStore
open Go.ChangeShapes Go.WideShapes Go.ChangeAt Go.RowKit Go.Ev
def phi:Dd:=[(12,260),(24,83),(65,139),(25,117),(26,118),(101,119),(100,423),(66,412),(27,392),(5,379),(28,393),(118,429),(102,424),(103,425),(67,413),(74,63),(86,362),(68,414),(29,394),(69,331),(30,395),(6,380),(31,264),(105,333),(104,426),(70,415),(32,396),(7,381),(71,269),(119,367),(106,329),(107,330),(72,270),(73,271),(33,216),(112,325),(113,326),(81,263),(85,267),(111,332),(82,274),(80,275),(83,327),(114,366),(84,328),(36,273),(43,403),(75,416),(108,427),(77,418),(76,417),(78,419),(79,420),(34,397),(35,398),(8,382),(37,321),(38,322),(9,383),(10,384),(93,56),(49,290),(117,353),(95,304),(115,351),(87,302),(116,352),(88,303),(39,399),(51,408),(94,360),(50,407),(89,421),(40,400),(11,385),(41,401),(90,422),(42,402),(91,375),(45,405),(44,404),(13,386),(3,377),(110,428)]
abbrev CV:Bf:=Cs Try.prog phi
def tbl:List (Nat×Dh):=[(260,UU),(83,c83),(139,US),(117,UP),(118,UQ),(119,UR),(423,XP),(412,XE),(392,WN),(379,WE),(393,WO),(429,XV),(424,XQ),(425,XS),(413,XF),(63,c63),(362,VY),(414,XG),(394,WP),(331,VR),(395,WQ),(380,WF),(264,UW),(333,VT),(426,XT),(415,XH),(396,WR),(381,WG),(269,UY),(367,WA),(329,VP),(330,VQ),(270,UZ),(271,VA),(216,UT),(325,VL),(326,VM),(263,UV),(267,UX),(332,VS),(274,VC),(275,VD),(327,VN),(366,VZ),(328,VO),(273,VB),(403,WY),(416,XI),(427,XU),(418,XK),(417,XJ),(419,XL),(420,XM),(397,WS),(398,WT),(382,WH),(321,VJ),(322,VK),(383,WI),(384,WJ),(56,pZ),(290,VE),(353,VW),(304,VI),(351,VU),(302,VG),(352,VV),(303,VH),(399,WU),(408,XD),(360,VX),(407,XC),(421,XN),(400,WV),(385,WK),(401,WW),(422,XO),(402,WX),(375,WB),(405,XA),(404,WZ),(386,WM),(377,WC)]
theorem tq {p:Nat×Nat} {xf:Dh} (h1:Go.Ev.look tbl p.2=some xf) (fn:Func) (h2:Try.prog.funcs[p.1]? = some fn:=by kernel_rfl) (h3:Ms Try.prog phi fn=some xf:=by kernel_rfl):Sf Try.prog phi tbl p:=tone h1 fn h2 h3
theorem tied:SL Try.prog phi (Go.Ev.look tbl):=pA ⟨tq rfl Try.f12,
  tq rfl Try.f24,
  tq rfl Try.f65,
  tq rfl Try.f25,
  tq rfl Try.f26,
  tq rfl Try.f101,
  tq rfl Try.f100,
  tq rfl Try.f66,
  tq rfl Try.f27,
  tq rfl Try.f5,
  tq rfl Try.f28,
  tq rfl Try.f118,
  tq rfl Try.f102,
  tq rfl Try.f103,
  tq rfl Try.f67,
  tq rfl Try.f74,
  tq rfl Try.f86,
  tq rfl Try.f68,
  tq rfl Try.f29,
  tq rfl Try.f69,
  tq rfl Try.f30,
  tq rfl Try.f6,
  tq rfl Try.f31,
  tq rfl Try.f105,
  tq rfl Try.f104,
  tq rfl Try.f70,
  tq rfl Try.f32,
  tq rfl Try.f7,
  tq rfl Try.f71,
  tq rfl Try.f119,
  tq rfl Try.f106,
  tq rfl Try.f107,
  tq rfl Try.f72,
  tq rfl Try.f73,
  tq rfl Try.f33,
  tq rfl Try.f112,
  tq rfl Try.f113,
  tq rfl Try.f81,
  tq rfl Try.f85,
  tq rfl Try.f111,
  tq rfl Try.f82,
  tq rfl Try.f80,
  tq rfl Try.f83,
  tq rfl Try.f114,
  tq rfl Try.f84,
  tq rfl Try.f36,
  tq rfl Try.f43,
  tq rfl Try.f75,
  tq rfl Try.f108,
  tq rfl Try.f77,
  tq rfl Try.f76,
  tq rfl Try.f78,
  tq rfl Try.f79,
  tq rfl Try.f34,
  tq rfl Try.f35,
  tq rfl Try.f8,
  tq rfl Try.f37,
  tq rfl Try.f38,
  tq rfl Try.f9,
  tq rfl Try.f10,
  tq rfl Try.f93,
  tq rfl Try.f49,
  tq rfl Try.f117,
  tq rfl Try.f95,
  tq rfl Try.f115,
  tq rfl Try.f87,
  tq rfl Try.f116,
  tq rfl Try.f88,
  tq rfl Try.f39,
  tq rfl Try.f51,
  tq rfl Try.f94,
  tq rfl Try.f50,
  tq rfl Try.f89,
  tq rfl Try.f40,
  tq rfl Try.f11,
  tq rfl Try.f41,
  tq rfl Try.f90,
  tq rfl Try.f42,
  tq rfl Try.f91,
  tq rfl Try.f45,
  tq rfl Try.f44,
  tq rfl Try.f13,
  tq rfl Try.f3,
  tno rfl,trivial⟩
theorem ts {k:Nat} {xf:Dh} {g:Oc} {t:Eo} (h:Go.Ev.look tbl k=some xf) (f:eR CV xf g t):CV k g t:=cD tied h f
theorem k260:PV CV:=fun a0 a1 r h=>ts rfl (ZA  a0 a1 r h)
theorem k83:K83 CV:=fun a0 r h=>ts rfl (F83  a0 r h)
theorem k139:PT CV:=fun a0 r h=>ts rfl (YY  a0 r h)
theorem k117:eT CV:=fun a0 a1 r h=>ts rfl (YV k139 a0 a1 r h)
theorem k118:PR CV:=fun a0 a1 r h=>ts rfl (YW  a0 a1 r h)
theorem k119:PS CV:=fun a0 a1 r h=>ts rfl (YX k117 a0 a1 r h)
theorem k423:SD CV:=fun a0 a1 r h=>ts rfl (AaR k117 a0 a1 r h)
theorem k412:RN CV:=fun a0 r h=>ts rfl (AaG k119 k423 a0 r h)
theorem k392:RE CV:=fun a0 r h=>ts rfl (Aaq k117 k412 a0 r h)
theorem k379:QT CV:=fun a0 r h=>ts rfl (Aai k83 k117 k118 k392 a0 r h)
theorem k393:iF CV:=fun a0 r h=>ts rfl (Aar  a0 r h)
theorem k429:SI CV:=fun a0 f1 k1 is1 hs1 hf1 r h=>ts rfl (AaW  a0 f1 k1 is1 hs1 hf1 r h)
theorem k424:SE CV:=fun a0 f1 k1 is1 hs1 hf1 r h=>ts rfl (AaS k429 a0 f1 k1 is1 hs1 hf1 r h)
theorem k425:SF CV:=fun a0 f1 k1 is1 hs1 hf1 r h=>ts rfl (AaT  a0 f1 k1 is1 hs1 hf1 r h)
theorem k413:RR CV:=fun a0 f1 k1 is1 hs1 hf1 r h=>ts rfl (AaH k424 k425 a0 f1 k1 is1 hs1 hf1 r h)
theorem k63:UB CV:=fun a0 a1 a2 r h=>ts rfl (F63  a0 a1 a2 r h)
theorem k362:qH CV:=fun a0 r h=>ts rfl (Aad k63 a0 r h)
theorem k414:qM CV:=fun a0 r h=>ts rfl (AaI k362 a0 r h)
theorem k394:iG CV:=fun a0 r h=>ts rfl (Aas k413 k414 a0 r h)
theorem k331:qE CV:=fun a0 a1 r h=>ts rfl (ZW  a0 a1 r h)
theorem k395:qI CV:=fun a0 r h=>ts rfl (Aat k331 a0 r h)
theorem k380:QU CV:=fun a0 r h=>ts rfl (Aaj k393 k394 k395 a0 r h)
theorem k264:PW CV:=fun a0 r h=>ts rfl (ZC  a0 r h)
theorem k333:qG CV:=fun a0 r h=>ts rfl (ZY  a0 r h)
theorem k426:SG CV:=fun a0 a1 r h=>ts rfl (AaU  a0 a1 r h)
theorem k415:RS CV:=fun a0 r h=>ts rfl (AaJ k333 k426 a0 r h)
theorem k396:qJ CV:=fun a0 r h=>ts rfl (Aau k414 k415 a0 r h)
theorem k381:QV CV:=fun a0 r h=>ts rfl (Aak k264 k396 a0 r h)
theorem k269:PY CV:=fun a0 r h=>ts rfl (ZE  a0 r h)
theorem k367:QR CV:=fun a0 f1 k1 is1 hs1 hf1 r h=>ts rfl (Aaf  a0 f1 k1 is1 hs1 hf1 r h)
theorem k329:QK CV:=fun a0 f1 k1 is1 hs1 hf1 r h=>ts rfl (ZU k367 a0 f1 k1 is1 hs1 hf1 r h)
theorem k330:QL CV:=fun a0 f1 k1 is1 hs1 hf1 r h=>ts rfl (ZV  a0 f1 k1 is1 hs1 hf1 r h)
theorem k270:PZ CV:=fun a0 f1 k1 is1 hs1 hf1 r h=>ts rfl (ZF k329 k330 a0 f1 k1 is1 hs1 hf1 r h)
theorem k271:QA CV:=fun a0 r h=>ts rfl (ZG k63 a0 r h)
theorem k216:qA CV:=fun a0 r h=>ts rfl (YZ k269 k270 k271 a0 r h)
theorem k325:eV CV:=fun a0 r h=>ts rfl (ZQ  a0 r h)
theorem k326:QH CV:=fun a0 a1 r h=>ts rfl (ZR  a0 a1 r h)
theorem k263:eU CV:=fun a0 r h=>ts rfl (ZB k325 k326 a0 r h)
theorem k267:PX CV:=fun a0 r h=>ts rfl (ZD k263 a0 r h)
theorem k332:qF CV:=fun a0 r h=>ts rfl (ZX  a0 r h)
theorem k274:QC CV:=fun a0 r h=>ts rfl (ZI k331 k332 a0 r h)
theorem k275:qB CV:=fun a0 r h=>ts rfl (ZJ k63 k325 k332 k333 a0 r h)
theorem k327:QI CV:=fun a0 a1 r h=>ts rfl (ZS k63 a0 a1 r h)
theorem k366:QQ CV:=fun a0 r h=>ts rfl (Aae k325 a0 r h)
theorem k328:QJ CV:=fun a0 a1 a2 r h=>ts rfl (ZT k263 k325 k366 a0 a1 a2 r h)
theorem k273:QB CV:=fun a0 a1 r h=>ts rfl (ZH k263 k267 k274 k275 k327 k328 a0 a1 r h)
theorem k403:qL CV:=fun a0 r h=>ts rfl (AaB  a0 r h)
theorem k416:RU CV:=fun a0 a1 f2 k2 is2 hs2 hf2 r h=>ts rfl (AaK  a0 a1 f2 k2 is2 hs2 hf2 r h)
theorem k427:SH CV:=fun a0 a1 r h=>ts rfl (AaV  a0 a1 r h)
theorem k418:RY CV:=fun a0 a1 r h=>ts rfl (AaM k427 a0 a1 r h)
theorem k417:RX CV:=fun a0 a1 r h=>ts rfl (AaL k418 a0 a1 r h)
theorem k419:RZ CV:=fun a0 a1 a2 r h=>ts rfl (AaN  a0 a1 a2 r h)
theorem k420:SA CV:=fun a0 a1 a2 r h=>ts rfl (AaO  a0 a1 a2 r h)
theorem k397:iH CV:=fun a0 a1 r h=>ts rfl (Aav k403 k416 k417 k419 k420 a0 a1 r h)
theorem k398:qK CV:=fun a0 r h=>ts rfl (Aaw k263 k275 k396 k397 a0 r h)
theorem k382:QW CV:=fun a0 a1 r h=>ts rfl (Aal k216 k273 k393 k394 k395 k397 k398 a0 a1 r h)
theorem k321:qC CV:=fun a0 r h=>ts rfl (ZO  a0 r h)
theorem k322:qD CV:=fun a0 r h=>ts rfl (ZP k362 a0 r h)
theorem k383:QX CV:=fun a0 a1 r h=>ts rfl (Aam k321 k322 k393 k394 k397 a0 a1 r h)
theorem k384:QY CV:=fun a0 r h=>ts rfl (Aan k216 k398 a0 r h)
theorem k56:K56 CV:=fun a0 a1 a2 r h=>ts rfl (F56  a0 a1 a2 r h)
theorem k290:QD CV:=fun a0 r h=>ts rfl (ZK k56 a0 r h)
theorem k353:QO CV:=fun a0 r h=>ts rfl (Aab  a0 r h)
theorem k304:QG CV:=fun a0 r h=>ts rfl (ZN k353 a0 r h)
theorem k351:QM CV:=fun a0 a1 r h=>ts rfl (ZZ k304 a0 a1 r h)
theorem k302:QE CV:=fun a0 r h=>ts rfl (ZL k351 a0 r h)
theorem k352:QN CV:=fun a0 a1 r h=>ts rfl (Aaa  a0 a1 r h)
theorem k303:QF CV:=fun a0 r h=>ts rfl (ZM k352 a0 r h)
theorem k399:RF CV:=fun a0 r h=>ts rfl (Aax k290 k302 k303 a0 r h)
theorem k408:RM CV:=fun a0 a1 r h=>ts rfl (AaF  a0 a1 r h)
theorem k360:QP CV:=fun a0 r h=>ts rfl (Aac  a0 r h)
theorem k407:RL CV:=fun a0 r h=>ts rfl (AaE k360 a0 r h)
theorem k421:SB CV:=fun a0 r h=>ts rfl (AaP k407 a0 r h)
theorem k400:RG CV:=fun a0 r h=>ts rfl (Aay k408 k421 a0 r h)
theorem k385:QZ CV:=fun a0 r h=>ts rfl (Aao k399 k400 a0 r h)
theorem k401:RH CV:=fun a0 r h=>ts rfl (Aaz  a0 r h)
theorem k422:SC CV:=fun a0 f1 k1 is1 hs1 hf1 r h=>ts rfl (AaQ  a0 f1 k1 is1 hs1 hf1 r h)
theorem k402:RI CV:=fun a0 f1 k1 is1 hs1 hf1 r h=>ts rfl (AaA k422 a0 f1 k1 is1 hs1 hf1 r h)
theorem k375:QS CV:=fun a0 a1 r h=>ts rfl (Aag  a0 a1 r h)
theorem k405:RK CV:=fun a0 a1 r h=>ts rfl (AaD k375 a0 a1 r h)
theorem k404:RJ CV:=fun a0 a1 r h=>ts rfl (AaC k405 a0 a1 r h)
theorem k386:RA CV:=fun a0 a1 r h=>ts rfl (Aap k321 k322 k401 k402 k403 k404 a0 a1 r h)
theorem k377:UK CV:=fun a0 r h=>ts rfl (Aah k260 k379 k380 k381 k382 k383 k384 k385 k386 a0 r h)

theorem own:ownKnob Try.prog.godebug=none:=by kernel_rfl
theorem laid:laidOutB Try.prog=true:=by kernel_rfl
theorem lifted (os:Os) (started:os.Started) (H:Type) (enc:TypeId×Value→H):
    ReturnsInHanded {} Try.checked os 3 .any (Rows.fnStoreSpec.pre6 enc Try.prog Try.f3 Rows.fnStoreRow.domain false) (Rows.fnStoreSpec.post enc Try.prog Try.f3 false true false false):=by
  refine returnsInHanded_of_change_sized (C:=Try.checked) own started (by kernel_rfl) Try.func3
    (ChangeSpec.witness6 (enc:=enc) (C:=Try.checked) false ⟨#[],#[.slice none 0 0],[]⟩ 8 (by kernel_rfl) (by kernel_rfl) (by kernel_rfl) (by kernel_rfl)) ?_
  intro W base args ds gs before hval0 hW hcnd hsz0 _
  have hval:∀(j:Nat) t v,Try.f3.params[j]? = some t→args[j]? = some v→Value.okWide Try.prog W .any base t v:=hval0
  have hW':=hW
  obtain ⟨p,q,hA0,hV,rfl,hfz,hnd⟩:=hW
  have hA:DataW.TrodAll enc Try.prog W 0 (fun _=>true) true Try.f3.params.toList args.toList ds p:=hA0
  rw [Try.params3] at hA hval
  obtain ⟨v0,vs0,d0,ds0,p0,q0,hargs,rfl,rfl,h0,r0⟩:=trodAll_cons hA
  obtain ⟨rfl,rfl,rfl⟩:=trodAll_nil r0
  obtain rfl:args = #[v0]:=by cases args; simp_all
  obtain ⟨rfl,rfl⟩:=trodVars_none hV
  obtain ⟨u0,t0,rt0⟩:=UO (φ:=phi) (n:=12) (T:=.slice 1 (.int .u8)) (by kernel_rfl) (hval 0 22 v0 rfl rfl) h0
  obtain ⟨a0,rfl,o0⟩:=Ok.arg1 (e:=(eL 1 Bo)) (fun x=>.lst 1 (x.map Bo)) (fun _=>rfl) (Ok.slice Ok.u8) t0
  have hlt0:∀x∈p0,x.block<W.heap.size:=fun x hx=>hW'.lt x (by simp [hx])
  have hc:=gC (P:=Try.prog) (φ:=phi) (f:=377) (fid:=3) (vals:=[v0]) (vs:=[.lst 1 (a0.map Bo)]) (w:=W) rfl rfl (rts rt0 rtz) (k377 a0 true (nC a0 o0))
  refine hc.mono fun e W' ⟨he,bel⟩=>?_
  subst he
  exact ⟨_,rfl,_,_,_,[],_,[],hW',trodAll_mk1 (shut_bool Try.underlying4 _),(trodAll_cons_mk (Below.trod laid (by kernel_rfl) (of_decide_eq_true (by kernel_rfl)) h0 bel hlt0) trodAll_mk0),rfl,bel.frame _,fun h=>by cases h⟩
theorem over:Rows.fnStoreRow.holds Try.pinned (OpenSpec.ofChange Rows.fnStoreSpec):=
  OpenClaim.holds_of_wide 3 Try.f3 rfl rfl rfl rfl rfl rfl rfl ⟨rfl,rfl,rfl,rfl,rfl⟩ rfl rfl rfl rfl rfl (by kernel_rfl) Try.func3 joined
    (of_decide_eq_true (by kernel_rfl)) (by unfold Func.isWrapper; first | (rw [if_pos (by decide +kernel)]; kernel_rfl) | (rw [if_neg (by decide +kernel)]; exact ⟨rfl,rfl⟩))
    (fun os started H enc _=>lifted os started H enc)
end Go.Proofs.Ytnkhjipmmomjoaa.fnStore
namespace Go.Proofs.Ytnkhjipmmomjoaa
/-- FnStore. -/
theorem fnStore_holds:Rows.FnStoreSaid:=fnStore.over
end Go.Proofs.Ytnkhjipmmomjoaa
