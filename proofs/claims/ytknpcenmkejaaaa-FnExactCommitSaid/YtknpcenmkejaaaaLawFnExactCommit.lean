/- FnExactCommit: whatever the input, the law returns true, and its arguments read behind the call as they read before. No condition: every input. -/
import Derived.Test.YtknpcenmkejaaaaRows
import Derived.Test.YtknpcenmkejaaaaQgJ
import Derived.Test.YtknpcenmkejaaaaQvT
import Derived.Test.YtknpcenmkejaaaaQgW2
import Derived.Test.YtknpcenmkejaaaaQwZ
import Derived.WalkKit
import Derived.ProofKit
import Derived.OpenShut
import Derived.ShutString
import Derived.ChangeOld
import Derived.Below
import Derived.SizedLaws
import Derived.Carry
set_option linter.all false
set_option maxRecDepth 100000
namespace Go.Proofs.Ytknpcenmkejaaaa.fnExactCommit
open Go.ChangeShapes Go.WideShapes Go.ChangeAt Go.RowKit Go.Ev
def phi:Cz:=[(15,276),(42,345),(16,289),(4,228),(24,231),(52,346),(25,294),(7,230),(34,233),(73,347),(35,295),(10,232),(37,235),(38,296),(12,234),(40,297),(41,298),(14,236),(53,269),(92,367),(78,329),(79,330),(54,270),(56,63),(55,271),(28,216),(88,325),(89,326),(66,263),(71,267),(72,331),(87,332),(68,274),(86,333),(65,275),(69,327),(91,366),(70,328),(32,273),(27,393),(93,429),(80,424),(81,425),(57,413),(82,362),(58,414),(29,394),(33,395),(59,403),(60,416),(83,427),(62,418),(61,417),(63,419),(64,420),(30,397),(96,426),(90,415),(67,396),(31,398),(9,382),(17,406),(5,387),(43,56),(18,290),(50,291),(76,352),(48,303),(51,292),(77,353),(49,304),(75,351),(47,302),(23,240),(45,399),(21,408),(44,360),(19,407),(74,421),(46,400),(20,385),(22,409),(6,388),(26,410),(8,389),(36,411),(11,390),(39,316),(13,391),(3,378),(85,428)]
abbrev CV:Az:=Cy Try.prog phi
def tbl:List (Nat×Dl):=[(276,c276),(345,c345),(289,c289),(228,c228),(231,c231),(346,c346),(294,c294),(230,c230),(233,c233),(347,c347),(295,c295),(232,c232),(235,c235),(296,c296),(234,c234),(297,c297),(298,c298),(236,c236),(269,c269),(367,c367),(329,c329),(330,c330),(270,c270),(63,c63),(271,c271),(216,c216),(325,c325),(326,c326),(263,c263),(267,c267),(331,c331),(332,c332),(274,c274),(333,c333),(275,c275),(327,c327),(366,c366),(328,c328),(273,c273),(393,c393),(429,c429),(424,c424),(425,c425),(413,c413),(362,c362),(414,c414),(394,c394),(395,c395),(403,c403),(416,c416),(427,c427),(418,c418),(417,c417),(419,c419),(420,c420),(397,c397),(426,c426),(415,c415),(396,c396),(398,c398),(382,c382),(406,c406),(387,c387),(56,ZY),(290,c290),(291,c291),(352,c352),(303,c303),(292,c292),(353,c353),(304,c304),(351,c351),(302,c302),(240,c240),(399,c399),(408,c408),(360,c360),(407,c407),(421,c421),(400,c400),(385,c385),(409,c409),(388,c388),(410,c410),(389,c389),(411,c411),(390,c390),(316,c316),(391,c391),(378,c378)]
theorem tq {p:Nat×Nat} {xf:Dl} (h1:Go.Ev.look tbl p.2=some xf) (fn:Func) (h2:Try.prog.funcs[p.1]? = some fn:=by kernel_rfl) (h3:Np Try.prog phi fn=some xf:=by kernel_rfl):Ut Try.prog phi tbl p:=tone h1 fn h2 h3
theorem tied:Tied Try.prog phi (Go.Ev.look tbl):=uT ⟨tq rfl Try.f15,
  tq rfl Try.f42,
  tq rfl Try.f16,
  tq rfl Try.f4,
  tq rfl Try.f24,
  tq rfl Try.f52,
  tq rfl Try.f25,
  tq rfl Try.f7,
  tq rfl Try.f34,
  tq rfl Try.f73,
  tq rfl Try.f35,
  tq rfl Try.f10,
  tq rfl Try.f37,
  tq rfl Try.f38,
  tq rfl Try.f12,
  tq rfl Try.f40,
  tq rfl Try.f41,
  tq rfl Try.f14,
  tq rfl Try.f53,
  tq rfl Try.f92,
  tq rfl Try.f78,
  tq rfl Try.f79,
  tq rfl Try.f54,
  tq rfl Try.f56,
  tq rfl Try.f55,
  tq rfl Try.f28,
  tq rfl Try.f88,
  tq rfl Try.f89,
  tq rfl Try.f66,
  tq rfl Try.f71,
  tq rfl Try.f72,
  tq rfl Try.f87,
  tq rfl Try.f68,
  tq rfl Try.f86,
  tq rfl Try.f65,
  tq rfl Try.f69,
  tq rfl Try.f91,
  tq rfl Try.f70,
  tq rfl Try.f32,
  tq rfl Try.f27,
  tq rfl Try.f93,
  tq rfl Try.f80,
  tq rfl Try.f81,
  tq rfl Try.f57,
  tq rfl Try.f82,
  tq rfl Try.f58,
  tq rfl Try.f29,
  tq rfl Try.f33,
  tq rfl Try.f59,
  tq rfl Try.f60,
  tq rfl Try.f83,
  tq rfl Try.f62,
  tq rfl Try.f61,
  tq rfl Try.f63,
  tq rfl Try.f64,
  tq rfl Try.f30,
  tq rfl Try.f96,
  tq rfl Try.f90,
  tq rfl Try.f67,
  tq rfl Try.f31,
  tq rfl Try.f9,
  tq rfl Try.f17,
  tq rfl Try.f5,
  tq rfl Try.f43,
  tq rfl Try.f18,
  tq rfl Try.f50,
  tq rfl Try.f76,
  tq rfl Try.f48,
  tq rfl Try.f51,
  tq rfl Try.f77,
  tq rfl Try.f49,
  tq rfl Try.f75,
  tq rfl Try.f47,
  tq rfl Try.f23,
  tq rfl Try.f45,
  tq rfl Try.f21,
  tq rfl Try.f44,
  tq rfl Try.f19,
  tq rfl Try.f74,
  tq rfl Try.f46,
  tq rfl Try.f20,
  tq rfl Try.f22,
  tq rfl Try.f6,
  tq rfl Try.f26,
  tq rfl Try.f8,
  tq rfl Try.f36,
  tq rfl Try.f11,
  tq rfl Try.f39,
  tq rfl Try.f13,
  tq rfl Try.f3,
  tno rfl,trivial⟩
theorem ts {k:Nat} {xf:Dl} {g:Ow} {t:Ep} (h:Go.Ev.look tbl k=some xf) (f:kG CV xf g t):CV k g t:=gL tied h f
theorem k276:vZ CV:=fun a0 a1 r h=>ts rfl (F276  a0 a1 r h)
theorem k345:K345 CV:=fun a0 a1 r h=>ts rfl (F345 k276 a0 a1 r h)
theorem k289:K289 CV:=fun a0 a1 r h=>ts rfl (F289 k345 a0 a1 r h)
theorem k228:K228 CV:=fun a0 a1 r h=>ts rfl (F228 k276 k289 a0 a1 r h)
theorem k231:vV CV:=fun a0 r h=>ts rfl (F231  a0 r h)
theorem k346:K346 CV:=fun a0 r h=>ts rfl (F346 k231 a0 r h)
theorem k294:K294 CV:=fun a0 r h=>ts rfl (F294 k346 a0 r h)
theorem k230:K230 CV:=fun a0 r h=>ts rfl (F230 k231 k294 a0 r h)
theorem k233:vW CV:=fun a0 a1 r h=>ts rfl (F233  a0 a1 r h)
theorem k347:K347 CV:=fun a0 a1 r h=>ts rfl (F347 k233 a0 a1 r h)
theorem k295:K295 CV:=fun a0 a1 r h=>ts rfl (F295 k347 a0 a1 r h)
theorem k232:K232 CV:=fun a0 a1 r h=>ts rfl (F232 k233 k295 a0 a1 r h)
theorem k235:vX CV:=fun a0 a1 r h=>ts rfl (F235  a0 a1 r h)
theorem k296:K296 CV:=fun a0 a1 r h=>ts rfl (F296 k235 a0 a1 r h)
theorem k234:K234 CV:=fun a0 a1 r h=>ts rfl (F234 k235 k296 a0 a1 r h)
theorem k297:wA CV:=fun a0 a1 r h=>ts rfl (F297  a0 a1 r h)
theorem k298:K298 CV:=fun a0 a1 r h=>ts rfl (F298 k297 a0 a1 r h)
theorem k236:K236 CV:=fun a0 a1 r h=>ts rfl (F236 k297 k298 a0 a1 r h)
theorem k269:K269 CV:=fun a0 r h=>ts rfl (F269  a0 r h)
theorem k367:K367 CV:=fun a0 f1 k1 is1 hs1 hf1 r h=>ts rfl (F367  a0 f1 k1 is1 hs1 hf1 r h)
theorem k329:K329 CV:=fun a0 f1 k1 is1 hs1 hf1 r h=>ts rfl (F329 k367 a0 f1 k1 is1 hs1 hf1 r h)
theorem k330:K330 CV:=fun a0 f1 k1 is1 hs1 hf1 r h=>ts rfl (F330  a0 f1 k1 is1 hs1 hf1 r h)
theorem k270:K270 CV:=fun a0 f1 k1 is1 hs1 hf1 r h=>ts rfl (F270 k329 k330 a0 f1 k1 is1 hs1 hf1 r h)
theorem k63:K63 CV:=fun a0 a1 a2 r h=>ts rfl (F63  a0 a1 a2 r h)
theorem k271:K271 CV:=fun a0 r h=>ts rfl (F271 k63 a0 r h)
theorem k216:K216 CV:=fun a0 r h=>ts rfl (F216 k269 k270 k271 a0 r h)
theorem k325:kI CV:=fun a0 r h=>ts rfl (F325  a0 r h)
theorem k326:K326 CV:=fun a0 a1 r h=>ts rfl (F326  a0 a1 r h)
theorem k263:kH CV:=fun a0 r h=>ts rfl (F263 k325 k326 a0 r h)
theorem k267:K267 CV:=fun a0 r h=>ts rfl (F267 k263 a0 r h)
theorem k331:wD CV:=fun a0 a1 r h=>ts rfl (F331  a0 a1 r h)
theorem k332:wE CV:=fun a0 r h=>ts rfl (F332  a0 r h)
theorem k274:K274 CV:=fun a0 r h=>ts rfl (F274 k331 k332 a0 r h)
theorem k333:wF CV:=fun a0 r h=>ts rfl (F333  a0 r h)
theorem k275:vY CV:=fun a0 r h=>ts rfl (F275 k63 k325 k332 k333 a0 r h)
theorem k327:K327 CV:=fun a0 a1 r h=>ts rfl (F327 k63 a0 a1 r h)
theorem k366:K366 CV:=fun a0 r h=>ts rfl (F366 k325 a0 r h)
theorem k328:K328 CV:=fun a0 a1 a2 r h=>ts rfl (F328 k263 k325 k366 a0 a1 a2 r h)
theorem k273:K273 CV:=fun a0 a1 r h=>ts rfl (F273 k263 k267 k274 k275 k327 k328 a0 a1 r h)
theorem k393:K393 CV:=fun a0 r h=>ts rfl (F393  a0 r h)
theorem k429:K429 CV:=fun a0 f1 k1 is1 hs1 hf1 r h=>ts rfl (F429  a0 f1 k1 is1 hs1 hf1 r h)
theorem k424:K424 CV:=fun a0 f1 k1 is1 hs1 hf1 r h=>ts rfl (F424 k429 a0 f1 k1 is1 hs1 hf1 r h)
theorem k425:K425 CV:=fun a0 f1 k1 is1 hs1 hf1 r h=>ts rfl (F425  a0 f1 k1 is1 hs1 hf1 r h)
theorem k413:K413 CV:=fun a0 f1 k1 is1 hs1 hf1 r h=>ts rfl (F413 k424 k425 a0 f1 k1 is1 hs1 hf1 r h)
theorem k362:K362 CV:=fun a0 r h=>ts rfl (F362 k63 a0 r h)
theorem k414:wJ CV:=fun a0 r h=>ts rfl (F414 k362 a0 r h)
theorem k394:K394 CV:=fun a0 r h=>ts rfl (F394 k413 k414 a0 r h)
theorem k395:K395 CV:=fun a0 r h=>ts rfl (F395 k331 a0 r h)
theorem k403:K403 CV:=fun a0 r h=>ts rfl (F403  a0 r h)
theorem k416:K416 CV:=fun a0 a1 f2 k2 is2 hs2 hf2 r h=>ts rfl (F416  a0 a1 f2 k2 is2 hs2 hf2 r h)
theorem k427:K427 CV:=fun a0 a1 r h=>ts rfl (F427  a0 a1 r h)
theorem k418:K418 CV:=fun a0 a1 r h=>ts rfl (F418 k427 a0 a1 r h)
theorem k417:K417 CV:=fun a0 a1 r h=>ts rfl (F417 k418 a0 a1 r h)
theorem k419:K419 CV:=fun a0 a1 a2 r h=>ts rfl (F419  a0 a1 a2 r h)
theorem k420:K420 CV:=fun a0 a1 a2 r h=>ts rfl (F420  a0 a1 a2 r h)
theorem k397:wG CV:=fun a0 a1 r h=>ts rfl (F397 k403 k416 k417 k419 k420 a0 a1 r h)
theorem k426:K426 CV:=fun a0 a1 r h=>ts rfl (F426  a0 a1 r h)
theorem k415:K415 CV:=fun a0 r h=>ts rfl (F415 k333 k426 a0 r h)
theorem k396:K396 CV:=fun a0 r h=>ts rfl (F396 k414 k415 a0 r h)
theorem k398:K398 CV:=fun a0 r h=>ts rfl (F398 k263 k275 k396 k397 a0 r h)
theorem k382:K382 CV:=fun a0 a1 r h=>ts rfl (F382 k216 k273 k393 k394 k395 k397 k398 a0 a1 r h)
theorem k406:K406 CV:=fun a0 a1 r h=>ts rfl (F406  a0 a1 r h)
theorem k387:K387 CV:=fun a0 a1 r h=>ts rfl (F387 k406 a0 a1 r h)
theorem k56:K56 CV:=fun a0 a1 a2 r h=>ts rfl (F56  a0 a1 a2 r h)
theorem k290:nB CV:=fun a0 r h=>ts rfl (F290 k56 a0 r h)
theorem k291:K291 CV:=fun a0 a1 r h=>ts rfl (F291  a0 a1 r h)
theorem k352:K352 CV:=fun a0 a1 r h=>ts rfl (F352  a0 a1 r h)
theorem k303:nC CV:=fun a0 r h=>ts rfl (F303 k352 a0 r h)
theorem k292:K292 CV:=fun a0 a1 a2 r h=>ts rfl (F292 k303 a0 a1 a2 r h)
theorem k353:K353 CV:=fun a0 r h=>ts rfl (F353  a0 r h)
theorem k304:wC CV:=fun a0 r h=>ts rfl (F304 k353 a0 r h)
theorem k351:K351 CV:=fun a0 a1 r h=>ts rfl (F351 k304 a0 a1 r h)
theorem k302:wB CV:=fun a0 r h=>ts rfl (F302 k351 a0 r h)
theorem k240:K240 CV:=fun a0 a1 r h=>ts rfl (F240 k290 k291 k292 k302 k303 k304 a0 a1 r h)
theorem k399:K399 CV:=fun a0 r h=>ts rfl (F399 k290 k302 k303 a0 r h)
theorem k408:wI CV:=fun a0 a1 r h=>ts rfl (F408  a0 a1 r h)
theorem k360:K360 CV:=fun a0 r h=>ts rfl (F360  a0 r h)
theorem k407:wH CV:=fun a0 r h=>ts rfl (F407 k360 a0 r h)
theorem k421:K421 CV:=fun a0 r h=>ts rfl (F421 k407 a0 r h)
theorem k400:K400 CV:=fun a0 r h=>ts rfl (F400 k408 k421 a0 r h)
theorem k385:K385 CV:=fun a0 r h=>ts rfl (F385 k399 k400 a0 r h)
theorem k409:K409 CV:=fun a0 r h=>ts rfl (F409  a0 r h)
theorem k388:K388 CV:=fun a0 a1 r h=>ts rfl (F388 k240 k290 k385 k407 k408 k409 a0 a1 r h)
theorem k410:K410 CV:=fun a0 r h=>ts rfl (F410  a0 r h)
theorem k389:K389 CV:=fun a0 r h=>ts rfl (F389 k410 a0 r h)
theorem k411:K411 CV:=fun a0 a1 r h=>ts rfl (F411  a0 a1 r h)
theorem k390:K390 CV:=fun a0 a1 r h=>ts rfl (F390 k411 a0 a1 r h)
theorem k316:K316 CV:=fun a0 r h=>ts rfl (F316  a0 r h)
theorem k391:K391 CV:=fun a0 a1 r h=>ts rfl (F391 k316 a0 a1 r h)
theorem k378:K378 CV:=fun a0 a1 r h=>ts rfl (F378 k228 k230 k232 k234 k236 k382 k387 k388 k389 k390 k391 a0 a1 r h)
theorem oktDSector:Ok (.struct [.int .i64,.slice 1 (.int .u8)]) Ax Zv:=fun vs h=>by
  have h:Hz [.int .i64,.slice 1 (.int .u8)] vs:=by simpa only [Ek] using h
  obtain ⟨a0,r0,rfl,h0,h⟩:=h
  obtain ⟨a1,r1,rfl,h1,h⟩:=h
  obtain rfl:r1=[]:=by simpa only [Hz] using h
  obtain ⟨x0,rfl,p0⟩:=Ok.int64 a0 h0
  obtain ⟨x1,rfl,p1⟩:=(Ok.slice Ok.u8) a1 h1
  exact ⟨⟨x0,x1⟩,rfl,⟨p0,p1⟩⟩
theorem oktDDevice:Ok (.struct [.slice 1 (.int .u8),.slice 2 (.struct [.int .i64,.slice 1 (.int .u8)])]) Ah Tg:=fun vs h=>by
  have h:Hz [.slice 1 (.int .u8),.slice 2 (.struct [.int .i64,.slice 1 (.int .u8)])] vs:=by simpa only [Ek] using h
  obtain ⟨a0,r0,rfl,h0,h⟩:=h
  obtain ⟨a1,r1,rfl,h1,h⟩:=h
  obtain rfl:r1=[]:=by simpa only [Hz] using h
  obtain ⟨x0,rfl,p0⟩:=(Ok.slice Ok.u8) a0 h0
  obtain ⟨x1,rfl,p1⟩:=(Ok.slice oktDSector) a1 h1
  exact ⟨⟨x0,x1⟩,rfl,⟨p0,p1⟩⟩
theorem oktDChange:Ok (.struct [.str,.str,.bool]) Af Tf:=fun vs h=>by
  have h:Hz [.str,.str,.bool] vs:=by simpa only [Ek] using h
  obtain ⟨a0,r0,rfl,h0,h⟩:=h
  obtain ⟨a1,r1,rfl,h1,h⟩:=h
  obtain ⟨a2,r2,rfl,h2,h⟩:=h
  obtain rfl:r2=[]:=by simpa only [Hz] using h
  obtain ⟨x0,rfl,p0⟩:=Ok.str a0 h0
  obtain ⟨x1,rfl,p1⟩:=Ok.str a1 h1
  obtain ⟨x2,rfl,p2⟩:=Ok.bool a2 h2
  exact ⟨⟨x0,x1,x2⟩,rfl,⟨p0,p1,p2⟩⟩
theorem own:ownKnob Try.prog.godebug=none:=by kernel_rfl
theorem laid:laidOutB Try.prog=true:=by kernel_rfl
theorem lifted (os:Os) (started:os.Started) (H:Type) (enc:TypeId×Value→H):
    ReturnsInHanded {} Try.checked os 3 .any (Rows.fnExactCommitSpec.pre6 enc Try.prog Try.f3 Rows.fnExactCommitRow.domain false) (Rows.fnExactCommitSpec.post enc Try.prog Try.f3 false true false false):=by
  refine returnsInHanded_of_change_sized (C:=Try.checked) own started (by kernel_rfl) Try.func3
    (ChangeSpec.witness6 (enc:=enc) (C:=Try.checked) false ⟨#[],#[.agg #[.slice none 0 0,.slice none 0 0],.slice none 0 0],[]⟩ 8 (by kernel_rfl) (by kernel_rfl) (by kernel_rfl) (by kernel_rfl)) ?_
  intro W base args ds gs before hval0 hW hcnd hsz0 _
  have hval:∀(j:Nat) t v,Try.f3.params[j]? = some t→args[j]? = some v→Value.okWide Try.prog W .any base t v:=hval0
  have hW':=hW
  obtain ⟨p,q,hA0,hV,rfl,hfz,hnd⟩:=hW
  have hA:DataW.TrodAll enc Try.prog W 0 (fun _=>true) true Try.f3.params.toList args.toList ds p:=hA0
  rw [Try.params3] at hA hval
  obtain ⟨v0,vs0,d0,ds0,p0,q0,hargs,rfl,rfl,h0,r0⟩:=trodAll_cons hA
  obtain ⟨v1,vs1,d1,ds1,p1,q1,rfl,rfl,rfl,h1,r1⟩:=trodAll_cons r0
  obtain ⟨rfl,rfl,rfl⟩:=trodAll_nil r1
  obtain rfl:args = #[v0,v1]:=by cases args; simp_all
  obtain ⟨rfl,rfl⟩:=trodVars_none hV
  obtain ⟨u0,t0,rt0⟩:=ZX (φ:=phi) (n:=12) (T:=.struct [.slice 1 (.int .u8),.slice 2 (.struct [.int .i64,.slice 1 (.int .u8)])]) (by kernel_rfl) (hval 0 25 v0 rfl rfl) h0
  obtain ⟨a0,rfl,o0⟩:=oktDDevice.argS t0
  have hlt0:∀x∈p0,x.block<W.heap.size:=fun x hx=>hW'.lt x (by simp [hx])
  obtain ⟨u1,t1,rt1⟩:=ZX (φ:=phi) (n:=12) (T:=.slice 3 (.struct [.str,.str,.bool])) (by kernel_rfl) (hval 1 26 v1 rfl rfl) h1
  obtain ⟨a1,rfl,o1⟩:=Ok.arg1 (e:=(eL 3 Af)) (fun x=>.lst 3 (x.map Af)) (fun _=>rfl) (Ok.slice oktDChange) t1
  have hlt1:∀x∈p1,x.block<W.heap.size:=fun x hx=>hW'.lt x (by simp [hx])
  have hc:=lR (P:=Try.prog) (φ:=phi) (f:=378) (fid:=3) (vals:=[v0,v1]) (vs:=[.agg [.lst 1 (a0.held.map By),.lst 2 (a0.Aj.map Ax)],.lst 3 (a1.map Af)]) (w:=W) rfl rfl (rts rt0 (rts rt1 rtz)) (k378 a0 a1 true (sP a0 a1 o0 o1))
  refine hc.mono fun e W' ⟨he,bel⟩=>?_
  subst he
  exact ⟨_,rfl,_,_,_,[],_,[],hW',trodAll_mk1 (shut_bool Try.underlying4 _),(trodAll_cons_mk (Below.trod laid (by kernel_rfl) (of_decide_eq_true (by kernel_rfl)) h0 bel hlt0) (trodAll_cons_mk (Below.trod laid (by kernel_rfl) (of_decide_eq_true (by kernel_rfl)) h1 bel hlt1) trodAll_mk0)),rfl,bel.frame _,fun h=>by cases h⟩
theorem over:Rows.fnExactCommitRow.holds Try.pinned (OpenSpec.ofChange Rows.fnExactCommitSpec):=
  OpenClaim.holds_of_wide 3 Try.f3 rfl rfl rfl rfl rfl rfl rfl ⟨rfl,rfl,rfl,rfl,rfl⟩ rfl rfl rfl rfl rfl (by kernel_rfl) Try.func3 joined
    (of_decide_eq_true (by kernel_rfl)) (by unfold Func.isWrapper; first | (rw [if_pos (by decide +kernel)]; kernel_rfl) | (rw [if_neg (by decide +kernel)]; exact ⟨rfl,rfl⟩))
    (fun os started H enc _=>lifted os started H enc)
end Go.Proofs.Ytknpcenmkejaaaa.fnExactCommit
namespace Go.Proofs.Ytknpcenmkejaaaa
/-- FnExactCommit. -/
theorem fnExactCommit_holds:Rows.FnExactCommitSaid:=fnExactCommit.over
end Go.Proofs.Ytknpcenmkejaaaa
