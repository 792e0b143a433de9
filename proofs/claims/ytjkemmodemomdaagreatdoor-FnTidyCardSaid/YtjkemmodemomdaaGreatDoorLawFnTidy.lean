/- FnTidy: whatever the input, the law returns true, and its arguments read behind the call as they read before. No condition: every input. -/
import Derived.Test.YtjkemmodemomdaaGreatDoorRows
import Derived.Test.YtjkemmodemomdaaGreatDoorQgJ
import Derived.Test.YtjkemmodemomdaaGreatDoorCards
import Derived.Test.YtjkemmodemomdaaGreatDoorTie
import Derived.Deep.DeepHandedRow
import Derived.Lib.LaidTab
import Derived.Stop.LaidErr
import Derived.Test.YtjkemmodemomdaaGreatDoorQvT
import Derived.Test.YtjkemmodemomdaaGreatDoorQgW0
import Derived.Test.YtjkemmodemomdaaGreatDoorQwZ
import Derived.WalkKit
import Derived.ProofKit
import Derived.OpenShut
import Derived.ShutString
import Derived.ChangeOld
import Derived.Below
import Derived.SizedLaws
import Derived.Carry
set_option linter.all false
set_option maxRecDepth 100000
namespace Go.Proofs.YtjkemmodemomdaaGreatDoor.fnTidy
open Go.ChangeShapes Go.WideShapes Go.ChangeAt Go.RowKit Go.Ev
def phi:Bz:=[(5,40),(7,83),(34,139),(14,117),(15,119),(13,506),(8,503),(4,501),(20,63),(18,58),(21,59),(82,373),(53,368),(54,369),(35,337),(37,339),(38,340),(55,370),(39,341),(36,338),(19,283),(16,281),(17,282),(22,284),(46,371),(40,342),(41,343),(23,285),(25,287),(24,286),(9,226),(28,325),(29,349),(11,376),(27,264),(26,401),(10,504),(50,348),(52,54),(51,517),(33,510),(12,505),(6,502),(3,500),(30,507),(31,508),(32,509)]
abbrev CV:Bb:=By Tryz.prog phi
def tbl:List (Nat×Es):=[(40,uH),(83,zX),(139,uT),(117,uR),(119,uS),(506,wB),(503,vY),(501,vW),(63,zW),(58,zS),(59,zU),(373,vS),(368,vO),(369,vP),(337,vF),(339,vH),(340,vI),(370,vQ),(341,vJ),(338,vG),(283,uY),(281,uW),(282,uX),(284,uZ),(371,vR),(342,vK),(343,vL),(285,vA),(287,vC),(286,vB),(226,uU),(325,vE),(349,vN),(376,vT),(264,uV),(401,vU),(504,vZ),(348,vM),(54,zR),(517,wD),(510,wC),(505,wA),(502,vX),(500,vV)]
theorem tq {p:Nat×Nat} {xf:Es} (h1:Go.Ev.look tbl p.2=some xf) (fn:Func) (h2:Tryz.prog.funcs[p.1]? = some fn:=by kernel_rfl) (h3:Km Tryz.prog phi fn=some xf:=by kernel_rfl):Oy Tryz.prog phi tbl p:=zP h1 fn h2 h3
theorem tied:rY Tryz.prog phi (Go.Ev.look tbl):=eF ⟨tq rfl Tryz.f5,
  tq rfl Tryz.f7,
  tq rfl Tryz.f34,
  tq rfl Tryz.f14,
  tq rfl Tryz.f15,
  tq rfl Tryz.f13,
  tq rfl Tryz.f8,
  tq rfl Tryz.f4,
  tq rfl Tryz.f20,
  tq rfl Tryz.f18,
  tq rfl Tryz.f21,
  tq rfl Tryz.f82,
  tq rfl Tryz.f53,
  tq rfl Tryz.f54,
  tq rfl Tryz.f35,
  tq rfl Tryz.f37,
  tq rfl Tryz.f38,
  tq rfl Tryz.f55,
  tq rfl Tryz.f39,
  tq rfl Tryz.f36,
  tq rfl Tryz.f19,
  tq rfl Tryz.f16,
  tq rfl Tryz.f17,
  tq rfl Tryz.f22,
  tq rfl Tryz.f46,
  tq rfl Tryz.f40,
  tq rfl Tryz.f41,
  tq rfl Tryz.f23,
  tq rfl Tryz.f25,
  tq rfl Tryz.f24,
  tq rfl Tryz.f9,
  tq rfl Tryz.f28,
  tq rfl Tryz.f29,
  tq rfl Tryz.f11,
  tq rfl Tryz.f27,
  tq rfl Tryz.f26,
  tq rfl Tryz.f10,
  tq rfl Tryz.f50,
  tq rfl Tryz.f52,
  tq rfl Tryz.f51,
  tq rfl Tryz.f33,
  tq rfl Tryz.f12,
  tq rfl Tryz.f6,
  tq rfl Tryz.f3,
  zO rfl,
  zO rfl,
  zO rfl,trivial⟩
theorem ts {k:Nat} {xf:Es} {g:Lj} {t:Dh} (h:Go.Ev.look tbl k=some xf) (f:Yy CV xf g t):CV k g t:=Xc tied h f
theorem k40:yV CV:=fun a0 a1 a2 r h=>ts rfl (AF  a0 a1 a2 r h)
theorem k83:yZ CV:=fun a0 r h=>ts rfl (AK  a0 r h)
theorem k139:qS CV:=fun a0 r h=>ts rfl (xK  a0 r h)
theorem k117:aT CV:=fun a0 a1 r h=>ts rfl (xI k139 a0 a1 r h)
theorem k119:qR CV:=fun a0 a1 r h=>ts rfl (xJ k117 a0 a1 r h)
theorem k506:rT CV:=fun a0 r h=>ts rfl (yS k117 a0 r h)
theorem k503:rQ CV:=fun a0 r h=>ts rfl (yP k117 k119 k506 a0 r h)
theorem k501:rO CV:=fun a0 r h=>ts rfl (yN k83 k503 a0 r h)
theorem k63:rW CV:=fun a0 a1 a2 r h=>ts rfl (AJ  a0 a1 a2 r h)
theorem k58:yX CV:=fun a0 r h=>ts rfl (AH k63 a0 r h)
theorem k59:yY CV:=fun a0 a1 a2 r h=>ts rfl (AI k63 a0 a1 a2 r h)
theorem k373:rL CV:=fun a0 f1 k1 is1 hs1 hf1 r h=>ts rfl (yJ  a0 f1 k1 is1 hs1 hf1 r h)
theorem k368:rI CV:=fun a0 f1 k1 is1 hs1 hf1 r h=>ts rfl (yF k373 a0 f1 k1 is1 hs1 hf1 r h)
theorem k369:rJ CV:=fun a0 f1 k1 is1 hs1 hf1 r h=>ts rfl (yG  a0 f1 k1 is1 hs1 hf1 r h)
theorem k337:qZ CV:=fun a0 f1 k1 is1 hs1 hf1 r h=>ts rfl (xW k368 k369 a0 f1 k1 is1 hs1 hf1 r h)
theorem k339:rB CV:=fun a0 r h=>ts rfl (xY  a0 r h)
theorem k340:rC CV:=fun a0 r h=>ts rfl (xZ  a0 r h)
theorem k370:rK CV:=fun a0 a1 r h=>ts rfl (yH  a0 a1 r h)
theorem k341:rD CV:=fun a0 a1 r h=>ts rfl (yA k370 a0 a1 r h)
theorem k338:rA CV:=fun a0 r h=>ts rfl (xX k339 k340 k341 a0 r h)
theorem k283:fK CV:=fun a0 r h=>ts rfl (xP k337 k338 a0 r h)
theorem k281:fI CV:=fun a0 r h=>ts rfl (xN k63 k283 a0 r h)
theorem k282:fJ CV:=fun a0 r h=>ts rfl (xO  a0 r h)
theorem k284:qV CV:=fun a0 r h=>ts rfl (xQ  a0 r h)
theorem k371:fM CV:=fun a0 f1 k1 is1 hs1 hf1 r h=>ts rfl (yI  a0 f1 k1 is1 hs1 hf1 r h)
theorem k342:rE CV:=fun a0 f1 k1 is1 hs1 hf1 r h=>ts rfl (yB k371 a0 f1 k1 is1 hs1 hf1 r h)
theorem k343:rF CV:=fun a0 f1 k1 is1 hs1 hf1 r h=>ts rfl (yC  a0 f1 k1 is1 hs1 hf1 r h)
theorem k285:qW CV:=fun a0 f1 k1 is1 hs1 hf1 r h=>ts rfl (xR k342 k343 a0 f1 k1 is1 hs1 hf1 r h)
theorem k287:qY CV:=fun a0 r h=>ts rfl (xU k63 a0 r h)
theorem k286:qX CV:=fun a0 r h=>ts rfl (xS k281 k287 a0 r h)
theorem k226:qT CV:=fun a0 r h=>ts rfl (xL k58 k59 k63 k281 k282 k283 k284 k285 k286 a0 r h)
theorem k325:fL CV:=fun a0 r h=>ts rfl (xV  a0 r h)
theorem k349:rH CV:=fun a0 r h=>ts rfl (yE  a0 r h)
theorem k376:rM CV:=fun a0 r h=>ts rfl (yK k325 k349 a0 r h)
theorem k264:qU CV:=fun a0 r h=>ts rfl (xM  a0 r h)
theorem k401:rN CV:=fun a0 r h=>ts rfl (yL  a0 r h)
theorem k504:rR CV:=fun a0 r h=>ts rfl (yQ k264 k401 a0 r h)
theorem k348:rG CV:=fun a0 f1 k1 is1 hs1 hf1 r h=>ts rfl (yD k371 a0 f1 k1 is1 hs1 hf1 r h)
theorem k54:yW CV:=fun a0 a1 r h=>ts rfl (AG  a0 a1 r h)
theorem k517:rV CV:=fun a0 a1 r h=>ts rfl (yU k54 a0 a1 r h)
theorem k510:rU CV:=fun a0 a1 r h=>ts rfl (yT k348 k517 a0 a1 r h)
theorem k505:rS CV:=fun a0 a1 r h=>ts rfl (yR k282 k325 k510 a0 a1 r h)
theorem k502:rP CV:=fun a0 a1 r h=>ts rfl (yO k226 k376 k504 k505 a0 a1 r h)
theorem k500:uN CV:=fun a0 a1 r h=>ts rfl (yM k40 k501 k502 a0 a1 r h)

theorem own:ownKnob Tryz.prog.godebug=none:=by kernel_rfl
theorem laid:laidOutB Tryz.prog=true:=by kernel_rfl
def cellsD:Nat→DataW Unit→List Value
  | n+1,.agg l=>l.flatMap (cellsD n)
  | _,.lit (.int k z)=>[Value.int k z]
  | _,_=>[]
def lay (vs:Array Value):Obj→Obj
  | .cells _ t fr=>.cells vs t fr
  | o=>o
noncomputable def low:Nat:=(World.holding Tryz.prog default ⟨#[],#[],[]⟩).heap.size
noncomputable def laidWorld (os:Os):World:={ World.holding Tryz.prog os ⟨#[.cells #[.string ⟨#[118,97,108,117,101,32,111,117,116,32,111,102,32,114,97,110,103,101]⟩] 209,.cells #[.string ⟨#[105,110,118,97,108,105,100,32,115,121,110,116,97,120]⟩] 209],#[],[]⟩ with heap:=((((((((World.holding Tryz.prog os ⟨#[.cells #[.string ⟨#[118,97,108,117,101,32,111,117,116,32,111,102,32,114,97,110,103,101]⟩] 209,.cells #[.string ⟨#[105,110,118,97,108,105,100,32,115,121,110,116,97,120]⟩] 209],#[],[]⟩).heap.modify 6 (lay ((cellsD 9 Rows.laid_math_bits_deBruijn32tab).toArray))).modify 7 (lay ((cellsD 9 Rows.laid_math_bits_deBruijn64tab).toArray))).modify 1 (lay ((cellsD 9 Rows.laid_internal_strconv_uint64pow10).toArray))).modify 5 (lay ((cellsD 9 Rows.laid_unicode_utf8_acceptRanges).toArray))).modify 3 (lay #[.iface 207 (.pointer (some ⟨low+0,0,none⟩))])).modify 2 (lay #[.iface 207 (.pointer (some ⟨low+1,0,none⟩))])).modify 4 (lay ((cellsD 9 Rows.laid_unicode_utf8_first).toArray))) }
theorem laid_met (os:Os):laidMet Tryz.prog Rows.fnTidyRow.laid ((laidWorld os).forCall (fun _ _=>0) ⟨#[],#[.slice none 0 0,.slice none 0 0],[]⟩).memory:=laidMet_of_run' 8 (by kernel_rfl) (by kernel_rfl)
theorem reads (os:Os) {H:Type} (enc:TypeId×Value→H):∃Nt,DataW.whole enc Tryz.prog ((laidWorld os).forCall (fun _ _=>0) ⟨#[],#[.slice none 0 0,.slice none 0 0],[]⟩).memory Tryz.f3.params.toList Rows.fnTidySpec.vars false #[.slice none 0 0,.slice none 0 0].toList 8=some ([.nil,.nil],[],Nt):=⟨[],by kernel_rfl⟩
set_option maxRecDepth 100000 in
theorem lifted (os:Os) (started:os.Started) (H:Type) (enc:TypeId×Value→H) (F:Stop.Interp):
    ReturnsInHanded {} Tryz.checked os 3 .any ((OpenSpec.ofChange Rows.fnTidySpec).preRow enc Tryz.prog Tryz.f3 Rows.fnTidyRow.domain false Rows.fnTidyRow.laid) (((OpenSpec.ofChange Rows.fnTidySpec).at F).post enc Tryz.prog Tryz.f3 false true false false):=by
  obtain ⟨Nt,hx⟩:=reads os enc
  refine returnsInHanded_of_row (C:=Tryz.checked) (s:=OpenSpec.ofChange Rows.fnTidySpec) own started (by kernel_rfl) Tryz.func3
    (witness_row_at (enc:=enc) (C:=Tryz.checked) false (laidWorld os) #[.slice none 0 0,.slice none 0 0] rfl (by kernel_rfl) (by kernel_rfl) (by kernel_rfl)
      (OpenSpec.preRow_of_cond 8 hx (by kernel_rfl) (fun k hk=>by cases hk) (by kernel_rfl) (laid_met os))) ?_
  intro W base args ds gs before hval0 hW _ _ _ hL _ _
  have hval:∀(j:Nat) t v,Tryz.f3.params[j]? = some t→args[j]? = some v→Value.okWide Tryz.prog W .any base t v:=hval0
  have hW':=hW
  obtain ⟨p,q,hA0,hV,rfl,hfz,hnd⟩:=hW
  have hA:DataW.TrodAll enc Tryz.prog W 0 (fun _=>true) true Tryz.f3.params.toList args.toList ds p:=hA0
  rw [Tryz.params3] at hA hval
  obtain ⟨v0,vs0,d0,ds0,p0,q0,hargs,rfl,rfl,h0,r0⟩:=trodAll_cons hA
  obtain ⟨v1,vs1,d1,ds1,p1,q1,rfl,rfl,rfl,h1,r1⟩:=trodAll_cons r0
  obtain ⟨rfl,rfl,rfl⟩:=trodAll_nil r1
  obtain rfl:args = #[v0,v1]:=by cases args; simp_all
  obtain ⟨rfl,rfl⟩:=trodVars_none hV
  obtain ⟨u0,t0,rt0⟩:=pY (φ:=phi) (n:=12) (T:=.slice 1 (.int .u8)) (by kernel_rfl) (hval 0 22 v0 rfl rfl) h0
  obtain ⟨a0,rfl,o0⟩:=Ok.arg1 (e:=(eL 1 Iy)) (fun x=>.lst 1 (x.map Iy)) (fun _=>rfl) (Ok.slice Ok.u8) t0
  have hlt0:∀x∈p0,x.block<W.heap.size:=fun x hx=>hW'.lt x (by simp [hx])
  obtain ⟨u1,t1,rt1⟩:=pY (φ:=phi) (n:=12) (T:=.slice 1 (.int .u8)) (by kernel_rfl) (hval 1 22 v1 rfl rfl) h1
  obtain ⟨a1,rfl,o1⟩:=Ok.arg1 (e:=(eL 1 Iy)) (fun x=>.lst 1 (x.map Iy)) (fun _=>rfl) (Ok.slice Ok.u8) t1
  have hlt1:∀x∈p1,x.block<W.heap.size:=fun x hx=>hW'.lt x (by simp [hx])
  have hc:=Zr (P:=Tryz.prog) (φ:=phi) (f:=500) (fid:=3) (vals:=[v0,v1]) (vs:=[.lst 1 (a0.map Iy),.lst 1 (a1.map Iy)]) (w:=W) rfl rfl (AB rt0 (AB rt1 AQ)) (k500 a0 a1 true (cK a0 a1 o0 o1)) (tR rfl)
  refine hc.mono fun e W' ⟨he,bel⟩=>?_
  subst he
  exact ⟨_,rfl,_,_,_,[],_,[],hW',trodAll_mk1 (shut_bool Tryz.underlying4 _),(trodAll_cons_mk (Below.trod laid (by kernel_rfl) (of_decide_eq_true (by kernel_rfl)) h0 bel hlt0) (trodAll_cons_mk (Below.trod laid (by kernel_rfl) (of_decide_eq_true (by kernel_rfl)) h1 bel hlt1) trodAll_mk0)),rfl,bel.frame _,fun h=>by cases h⟩
theorem said:Rows.FnTidySaid:=
  OpenClaim.holds_of_cond 3 Tryz.f3 rfl rfl rfl rfl rfl rfl rfl ⟨rfl,rfl,rfl,rfl,rfl⟩ rfl rfl rfl rfl rfl (by kernel_rfl) Tryz.func3 joined
    (of_decide_eq_true (by kernel_rfl)) (by unfold Func.isWrapper; first | (rw [if_pos (by decide +kernel)]; kernel_rfl) | (rw [if_neg (by decide +kernel)]; exact ⟨rfl,rfl⟩))
    (fun os started H enc _ F=>by rw [OpenClaim.pre_eq_preRow]; exact lifted os started H enc F)
theorem plain (f:FuncId) (fn:Func) (hf:Tryz.pinned.checked.prog.funcNamed Rows.fnTidyRow.func=some f) (hfn:Tryz.pinned.checked.prog.funcs[f]? = some fn):
    true=Tryz.pinned.checked.prog.looks []∧∀(j:Nat) t,fn.params[j]? = some t→Tryz.pinned.checked.prog.wantsStandIn t=false:=by
  obtain rfl:f=3:=Option.some.inj ((show Tryz.prog.funcNamed Rows.fnTidyRow.func=some 3 by kernel_rfl).symm.trans hf) |>.symm
  obtain rfl:fn=Tryz.f3:=(Option.some.inj (Tryz.func3.symm.trans hfn)).symm
  refine ⟨by kernel_rfl,fun j t ht=>?_⟩
  rw [Tryz.params3] at ht
  have hm:=Array.mem_of_getElem? ht
  have key:∀t∈([22,22]:List TypeId),Tryz.prog.wantsStandIn t=false:=fun t h=>by
    simp only [List.mem_cons,List.not_mem_nil,or_false] at h
    rcases h with rfl | rfl<;>kernel_rfl
  exact key t (by simpa using hm)
theorem card:Rows.FnTidyCardSaid:=
  Claim7.holds_tied_plain_at .later [] _ _ _ _ said (fun _ h=>by cases h) (by kernel_rfl) (fun _ h=>by cases h) fnTidy_row_tie rfl ⟨rfl,rfl⟩ (by kernel_rfl) rfl plain (by kernel_rfl)
end Go.Proofs.YtjkemmodemomdaaGreatDoor.fnTidy
namespace Go.Proofs.YtjkemmodemomdaaGreatDoor
/-- FnTidy: its tied card. -/
theorem fnTidy_holds:Rows.FnTidyCardSaid:=fnTidy.card
end Go.Proofs.YtjkemmodemomdaaGreatDoor
