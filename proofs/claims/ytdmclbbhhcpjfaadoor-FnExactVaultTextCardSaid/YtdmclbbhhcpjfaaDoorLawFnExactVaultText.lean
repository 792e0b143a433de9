/- FnExactVaultText: whatever the input, the law returns true, and its arguments read behind the call as they read before. No condition: every input. -/
import Derived.Test.YtdmclbbhhcpjfaaDoorRows
import Derived.Test.YtdmclbbhhcpjfaaDoorQgJ
import Derived.Test.YtdmclbbhhcpjfaaDoorQgL
import Derived.Test.YtdmclbbhhcpjfaaDoorQvI
import Derived.Test.YtdmclbbhhcpjfaaDoorCards
import Derived.Test.YtdmclbbhhcpjfaaDoorTie
import Derived.Deep.DeepHandedRow
import Derived.Lib.LaidTab
import Derived.Stop.LaidErr
import Derived.Test.YtdmclbbhhcpjfaaDoorQvT
import Derived.Test.YtdmclbbhhcpjfaaDoorQgW1
import Derived.Test.YtdmclbbhhcpjfaaDoorQwZ
import Derived.WalkKit
import Derived.ProofKit
import Derived.OpenShut
import Derived.ShutString
import Derived.ChangeOld
import Derived.Below
import Derived.SizedLaws
import Derived.Carry
set_option linter.all false
set_option maxRecDepth 100000
namespace Go.Proofs.YtdmclbbhhcpjfaaDoor.fnExactVaultText
open Go.ChangeShapes Go.WideShapes Go.ChangeAt Go.RowKit Go.Ev
def phi:Cb:=[(22,55),(9,17),(10,90),(11,91),(4,45),(43,104),(29,57),(14,19),(16,43),(30,125),(15,94),(6,47),(58,107),(40,64),(19,21),(21,36),(41,131),(20,99),(8,49),(25,56),(23,18),(24,85),(26,92),(42,124),(27,93),(12,46),(28,480),(13,479),(5,477),(48,63),(44,58),(32,59),(45,60),(64,108),(59,105),(60,106),(46,61),(47,62),(31,20),(33,95),(61,144),(49,126),(50,127),(51,128),(34,96),(52,129),(53,130),(35,97),(54,113),(62,136),(56,110),(55,114),(37,77),(36,98),(17,48),(38,359),(18,181),(7,478),(3,476),(39,481),(65536,0)]
def tname:String:=(Rows.fnExactVaultTextRow.named.drop 0).headD default
theorem gTab:Tryd.prog.globalNamed tname=some 0:=by kernel_rfl
abbrev CV:At:=Bu Tryd.prog phi
def tbl:List (Nat×Dn):=[(55,NT),(17,kO),(90,OA),(91,OB),(45,GM),(104,HK),(57,NU),(19,NM),(43,NN),(125,cF),(94,OE),(47,NP),(107,HN),(64,GP),(21,JO),(36,JP),(131,HX),(99,OJ),(49,NS),(56,GN),(18,NL),(85,NZ),(92,OC),(124,HR),(93,OD),(46,NO),(480,zB),(479,IF),(477,ID),(63,fR),(58,GO),(59,NV),(60,NW),(108,HO),(105,HL),(106,HM),(61,NX),(62,NY),(20,kP),(95,OF),(144,HZ),(126,HS),(127,HT),(128,HU),(96,OG),(129,HV),(130,HW),(97,OH),(113,HP),(136,HY),(110,cE),(114,HQ),(77,GQ),(98,OI),(48,NQ),(359,IB),(181,IA),(478,IE),(476,IC)]
theorem tq {p:Nat×Nat} {xf:Dn} (h1:Go.Ev.look tbl p.2=some xf) (fn:Func) (h2:Tryd.prog.funcs[p.1]? = some fn:=by kernel_rfl) (h3:Lp Tryd.prog phi fn=some xf:=by kernel_rfl):Qg Tryd.prog phi tbl p:=NI h1 fn h2 h3
theorem tied:vS Tryd.prog phi (Go.Ev.look tbl):=jO ⟨tq rfl Tryd.f22,
  tq rfl Tryd.f9,
  tq rfl Tryd.f10,
  tq rfl Tryd.f11,
  tq rfl Tryd.f4,
  tq rfl Tryd.f43,
  tq rfl Tryd.f29,
  tq rfl Tryd.f14,
  tq rfl Tryd.f16,
  tq rfl Tryd.f30,
  tq rfl Tryd.f15,
  tq rfl Tryd.f6,
  tq rfl Tryd.f58,
  tq rfl Tryd.f40,
  tq rfl Tryd.f19,
  tq rfl Tryd.f21,
  tq rfl Tryd.f41,
  tq rfl Tryd.f20,
  tq rfl Tryd.f8,
  tq rfl Tryd.f25,
  tq rfl Tryd.f23,
  tq rfl Tryd.f24,
  tq rfl Tryd.f26,
  tq rfl Tryd.f42,
  tq rfl Tryd.f27,
  tq rfl Tryd.f12,
  tq rfl Tryd.f28,
  tq rfl Tryd.f13,
  tq rfl Tryd.f5,
  tq rfl Tryd.f48,
  tq rfl Tryd.f44,
  tq rfl Tryd.f32,
  tq rfl Tryd.f45,
  tq rfl Tryd.f64,
  tq rfl Tryd.f59,
  tq rfl Tryd.f60,
  tq rfl Tryd.f46,
  tq rfl Tryd.f47,
  tq rfl Tryd.f31,
  tq rfl Tryd.f33,
  tq rfl Tryd.f61,
  tq rfl Tryd.f49,
  tq rfl Tryd.f50,
  tq rfl Tryd.f51,
  tq rfl Tryd.f34,
  tq rfl Tryd.f52,
  tq rfl Tryd.f53,
  tq rfl Tryd.f35,
  tq rfl Tryd.f54,
  tq rfl Tryd.f62,
  tq rfl Tryd.f56,
  tq rfl Tryd.f55,
  tq rfl Tryd.f37,
  tq rfl Tryd.f36,
  tq rfl Tryd.f17,
  tq rfl Tryd.f38,
  tq rfl Tryd.f18,
  tq rfl Tryd.f7,
  tq rfl Tryd.f3,
  OM rfl,
  OM rfl,trivial⟩
theorem ts {k:Nat} {xf:Dn} {g:Lz} {t:Dj} (h:Go.Ev.look tbl k=some xf) (f:Xc CV xf g t):CV k g t:=Tg tied h f
theorem k55:MB CV:=fun a0 a1 r h=>ts rfl (OZ  a0 a1 r h)
theorem k17:LO CV:=fun a0 a1 r h=>ts rfl (ON k55 a0 a1 r h)
theorem k90:MJ CV:=fun a0 a1 r h=>ts rfl (PL  a0 a1 r h)
theorem k91:MK CV:=fun a0 a1 r h=>ts rfl (PM  a0 a1 r h)
theorem k45:LW CV:=fun a0 a1 r h=>ts rfl (OU k17 k90 k91 a0 a1 r h)
theorem k104:uV CV:=fun a0 r h=>ts rfl (KN  a0 r h)
theorem k57:MC CV:=fun a0 r h=>ts rfl (PB k104 a0 r h)
theorem k19:LQ CV:=fun a0 r h=>ts rfl (OP k57 a0 r h)
theorem k43:LV CV:=fun a0 r h=>ts rfl (OT  a0 r h)
theorem k125:vE CV:=fun a0 r h=>ts rfl (KW  a0 r h)
theorem k94:MM CV:=fun a0 r h=>ts rfl (PP k125 a0 r h)
theorem k47:LY CV:=fun a0 r h=>ts rfl (OW k19 k43 k94 a0 r h)
theorem k107:uY CV:=fun a0 a1 r h=>ts rfl (KQ  a0 a1 r h)
theorem k64:MG CV:=fun a0 a1 r h=>ts rfl (PI k107 a0 a1 r h)
theorem k21:LT CV:=fun a0 a1 r h=>ts rfl (OR k64 a0 a1 r h)
theorem k36:LU CV:=fun a0 a1 r h=>ts rfl (OS  a0 a1 r h)
theorem k131:vJ CV:=fun a0 a1 r h=>ts rfl (LD  a0 a1 r h)
theorem k99:MQ CV:=fun a0 a1 r h=>ts rfl (PV k131 a0 a1 r h)
theorem k49:MA CV:=fun a0 a1 r h=>ts rfl (OY k21 k36 k99 a0 a1 r h)
theorem k56:HD CV:=fun a0 a1 a2 r h=>ts rfl (PA  a0 a1 a2 r h)
theorem k18:LP CV:=fun a0 r h=>ts rfl (OO k56 a0 r h)
theorem k85:MI CV:=fun a0 a1 r h=>ts rfl (PK k56 a0 a1 r h)
theorem k92:JM CV:=fun a0 a1 r h=>ts rfl (PN  a0 a1 r h)
theorem k124:vD CV:=fun a0 a1 r h=>ts rfl (KV  a0 a1 r h)
theorem k93:ML CV:=fun a0 r h=>ts rfl (PO k92 k124 a0 r h)
theorem k46:LX CV:=fun a0 r h=>ts rfl (OV k18 k56 k85 k92 k93 a0 r h)
theorem k480:HB (Bu Tryd.prog phi):=fun n=>Nat.rec (motive:=fun n=>dV (Bu Tryd.prog phi) (Np n)) (fun a0 r h=>by have h2:none=some r:=h; cases h2) (fun n ih a0 r h=>Tg tied (xf:=zB) rfl (LN  (Np n) ih a0 r h)) n
theorem k479:vQ CV:=fun a0 r h=>ts rfl (LL k480 a0 r h)
theorem k477:vO CV:=fun a0 r h=>ts rfl (LJ k46 k479 a0 r h)
theorem k63:HE CV:=fun a0 a1 a2 r h=>ts rfl (PH  a0 a1 a2 r h)
theorem k58:MD CV:=fun a0 r h=>ts rfl (PC k63 a0 r h)
theorem k59:JK CV:=fun a0 a1 a2 r h=>ts rfl (PD k63 a0 a1 a2 r h)
theorem k60:JL CV:=fun a0 r h=>ts rfl (PE  a0 r h)
theorem k108:uZ CV:=fun a0 f1 k1 is1 hs1 hf1 r h=>ts rfl (KR  a0 f1 k1 is1 hs1 hf1 r h)
theorem k105:uW CV:=fun a0 f1 k1 is1 hs1 hf1 r h=>ts rfl (KO k108 a0 f1 k1 is1 hs1 hf1 r h)
theorem k106:uX CV:=fun a0 f1 k1 is1 hs1 hf1 r h=>ts rfl (KP  a0 f1 k1 is1 hs1 hf1 r h)
theorem k61:ME CV:=fun a0 f1 k1 is1 hs1 hf1 r h=>ts rfl (PF k105 k106 a0 f1 k1 is1 hs1 hf1 r h)
theorem k62:MF CV:=fun a0 a1 r h=>ts rfl (PG k63 a0 a1 r h)
theorem k20:LS CV:=fun a0 r h=>ts rfl (OQ k58 k59 k60 k61 k62 a0 r h)
theorem k95:JN CV:=fun a0 r h=>ts rfl (PQ  a0 r h)
theorem k144:vL CV:=fun a0 a1 r h=>ts rfl (LF  a0 a1 r h)
theorem k126:vF CV:=fun a0 r h=>ts rfl (KX k144 a0 r h)
theorem k127:kU CV:=fun a0 f1 k1 is1 hs1 hf1 r h=>ts rfl (KY  a0 f1 k1 is1 hs1 hf1 r h)
theorem k128:vG CV:=fun a0 a1 r h=>ts rfl (KZ  a0 a1 r h)
theorem k96:MN CV:=fun a0 r h=>ts rfl (PR k60 k95 k126 k127 k128 a0 r h)
theorem k129:vH CV:=fun a0 f1 k1 is1 hs1 hf1 r h=>ts rfl (LA k127 a0 f1 k1 is1 hs1 hf1 r h)
theorem k130:vI CV:=fun a0 f1 k1 is1 hs1 hf1 r h=>ts rfl (LC  a0 f1 k1 is1 hs1 hf1 r h)
theorem k97:MO CV:=fun a0 f1 k1 is1 hs1 hf1 r h=>ts rfl (PS k129 k130 a0 f1 k1 is1 hs1 hf1 r h)
theorem k113:vB CV:=fun a0 a1 f2 k2 is2 hs2 hf2 r h=>ts rfl (KT  a0 a1 f2 k2 is2 hs2 hf2 r h)
theorem k136:vK CV:=fun a0 r h=>ts rfl (LE  a0 r h)
theorem k110:vA CV:=fun a0 a1 r h=>ts rfl (KS k136 a0 a1 r h)
theorem k114:vC CV:=fun a0 a1 r h=>ts rfl (KU k110 a0 a1 r h)
theorem k77:MH CV:=fun a0 a1 r h=>ts rfl (PJ k113 k114 a0 a1 r h)
theorem k98:MP CV:=fun a0 a1 r h=>ts rfl (PT k77 a0 a1 r h)
theorem k48:LZ CV:=fun a0 r h=>ts rfl (OX k20 k59 k95 k96 k97 k98 a0 r h)
theorem k359:vN CV:=fun a0 a1 a2 r h=>ts rfl (LH  a0 a1 a2 r h)
theorem k481:HC CV:=fun a0 r h=>by
  have h1:(if -9223372036854775808≤a0∧a0≤9223372036854775807 then some (Lib.itoa a0) else none)=some r:=h
  split at h1
  · rename_i hb
    obtain rfl:=Option.some.inj h1
    refine IX hb.1 hb.2 gTab rfl fun fid hf=>?_
    obtain rfl:=iL (k:=39) rfl hf
    exact ⟨⟨Tryd.f39,Tryd.func39,by kernel_rfl,by kernel_rfl⟩,fun n h0 h2 w ht=>Any.strconv_Itoa Tryd.laysM171 n h0 h2 w ht⟩
  · cases h1
theorem k181:vM CV:=fun a0 r h=>ts rfl (LG k359 k481 a0 r h)
theorem k478:vP CV:=fun a0 r h=>ts rfl (LK k48 k181 a0 r h)
theorem k476:HA CV:=fun a0 r h=>ts rfl (LI k45 k47 k49 k477 k478 a0 r h)
theorem oktDLease:Ok (.struct [.int .i64,.int .i64,.int .i64,.bool]) Aj Yb:=fun vs h=>by
  have h:Fl [.int .i64,.int .i64,.int .i64,.bool] vs:=by simpa only [Df] using h
  obtain ⟨a0,r0,rfl,h0,h⟩:=h
  obtain ⟨a1,r1,rfl,h1,h⟩:=h
  obtain ⟨a2,r2,rfl,h2,h⟩:=h
  obtain ⟨a3,r3,rfl,h3,h⟩:=h
  obtain rfl:r3=[]:=by simpa only [Fl] using h
  obtain ⟨x0,rfl,p0⟩:=Ok.int64 a0 h0
  obtain ⟨x1,rfl,p1⟩:=Ok.int64 a1 h1
  obtain ⟨x2,rfl,p2⟩:=Ok.int64 a2 h2
  obtain ⟨x3,rfl,p3⟩:=Ok.bool a3 h3
  exact ⟨⟨x0,x1,x2,x3⟩,rfl,⟨p0,p1,p2,p3⟩⟩
theorem oktDTable:Ok (.struct [.int .i64,.int .i64,.slice 4 (.struct [.int .i64,.int .i64,.int .i64,.bool])]) Ay Yc:=fun vs h=>by
  have h:Fl [.int .i64,.int .i64,.slice 4 (.struct [.int .i64,.int .i64,.int .i64,.bool])] vs:=by simpa only [Df] using h
  obtain ⟨a0,r0,rfl,h0,h⟩:=h
  obtain ⟨a1,r1,rfl,h1,h⟩:=h
  obtain ⟨a2,r2,rfl,h2,h⟩:=h
  obtain rfl:r2=[]:=by simpa only [Fl] using h
  obtain ⟨x0,rfl,p0⟩:=Ok.int64 a0 h0
  obtain ⟨x1,rfl,p1⟩:=Ok.int64 a1 h1
  obtain ⟨x2,rfl,p2⟩:=(Ok.slice oktDLease) a2 h2
  exact ⟨⟨x0,x1,x2⟩,rfl,⟨p0,p1,p2⟩⟩
theorem oktDIntent:Ok (.struct [.int .i64,.bool]) Az Vh:=fun vs h=>by
  have h:Fl [.int .i64,.bool] vs:=by simpa only [Df] using h
  obtain ⟨a0,r0,rfl,h0,h⟩:=h
  obtain ⟨a1,r1,rfl,h1,h⟩:=h
  obtain rfl:r1=[]:=by simpa only [Fl] using h
  obtain ⟨x0,rfl,p0⟩:=Ok.int64 a0 h0
  obtain ⟨x1,rfl,p1⟩:=Ok.bool a1 h1
  exact ⟨⟨x0,x1⟩,rfl,⟨p0,p1⟩⟩
theorem oktDVault:Ok (.struct [.struct [.int .i64,.int .i64,.slice 4 (.struct [.int .i64,.int .i64,.int .i64,.bool])],.slice 2 (.struct [.int .i64,.bool]),.slice 1 (.int .i64),.bool]) Aa Hk:=fun vs h=>by
  have h:Fl [.struct [.int .i64,.int .i64,.slice 4 (.struct [.int .i64,.int .i64,.int .i64,.bool])],.slice 2 (.struct [.int .i64,.bool]),.slice 1 (.int .i64),.bool] vs:=by simpa only [Df] using h
  obtain ⟨a0,r0,rfl,h0,h⟩:=h
  obtain ⟨a1,r1,rfl,h1,h⟩:=h
  obtain ⟨a2,r2,rfl,h2,h⟩:=h
  obtain ⟨a3,r3,rfl,h3,h⟩:=h
  obtain rfl:r3=[]:=by simpa only [Fl] using h
  obtain ⟨x0,rfl,p0⟩:=oktDTable a0 h0
  obtain ⟨x1,rfl,p1⟩:=(Ok.slice oktDIntent) a1 h1
  obtain ⟨x2,rfl,p2⟩:=(Ok.slice Ok.int64) a2 h2
  obtain ⟨x3,rfl,p3⟩:=Ok.bool a3 h3
  exact ⟨⟨x0,x1,x2,x3⟩,rfl,⟨p0,p1,p2,p3⟩⟩
theorem own:ownKnob Tryd.prog.godebug=none:=by kernel_rfl
theorem laid:laidOutB Tryd.prog=true:=by kernel_rfl
def cellsOfData:DataW Unit→Array Value
  | .agg l=>(l.map fun d=>match d with
    | .lit (.int k z)=>Value.int k z
    | _=>undef).toArray
  | _ => #[]
def lay (vs:Array Value):Obj→Obj
  | .cells _ t fr=>.cells vs t fr
  | o=>o
noncomputable def laidWorld (os:Os):World:={ World.holding Tryd.prog os ⟨#[],#[],[]⟩ with heap:=((((World.holding Tryd.prog os ⟨#[],#[],[]⟩).heap.modify 1 (lay (cellsOfData Rows.laid_math_bits_deBruijn32tab))).modify 2 (lay (cellsOfData Rows.laid_math_bits_deBruijn64tab))).modify 0 (lay (cellsOfData Rows.laid_internal_strconv_uint64pow10))) }
theorem laid_met (os:Os):laidMet Tryd.prog Rows.fnExactVaultTextRow.laid ((laidWorld os).forCall (fun _ _=>0) ⟨#[],#[.agg #[.int .i64 0,.int .i64 0,.slice none 0 0,.slice none 0 0,.slice none 0 0,.bool false]],[]⟩).memory:=laidMet_of_run' 8 (by kernel_rfl) (by kernel_rfl)
theorem reads (os:Os) {H:Type} (enc:TypeId×Value→H):∃Pf,DataW.whole enc Tryd.prog ((laidWorld os).forCall (fun _ _=>0) ⟨#[],#[.agg #[.int .i64 0,.int .i64 0,.slice none 0 0,.slice none 0 0,.slice none 0 0,.bool false]],[]⟩).memory Tryd.f3.params.toList Rows.fnExactVaultTextSpec.vars false #[.agg #[.int .i64 0,.int .i64 0,.slice none 0 0,.slice none 0 0,.slice none 0 0,.bool false]].toList 8=some ([.agg [.agg [.lit (.int .i64 0),.lit (.int .i64 0),.nil],.nil,.nil,.lit (.bool false)]],[],Pf):=⟨[],by kernel_rfl⟩
theorem tlaid:Rows.fnExactVaultTextRow.laid.drop 2=(tname,Lib.tabData .u64 Lib.pow10Tab)::Rows.fnExactVaultTextRow.laid.drop 3:=by kernel_rfl
theorem table {W:World} (h:laidMetH Tryd.prog Rows.fnExactVaultTextRow.laid W):Lib.TabIs Tryd.prog W tname .u64 Lib.pow10Tab:=by
  have h1:laidMet Tryd.prog Rows.fnExactVaultTextRow.laid W:=h
  have h2:laidMet Tryd.prog (Rows.fnExactVaultTextRow.laid.drop 2) W:=h1.tail.tail
  rw [tlaid] at h2
  exact Lib.tabIs_of_head gTab (by kernel_rfl:(Tryd.prog.globals[0]?).map (fun x=>x.type)=some 104) Tryd.underlying104 Tryd.underlying97 (by kernel_rfl) (by kernel_rfl) h2
set_option maxRecDepth 100000 in
theorem lifted (os:Os) (started:os.Started) (H:Type) (enc:TypeId×Value→H) (F:Stop.Interp):
    ReturnsInHanded {} Tryd.checked os 3 .any ((OpenSpec.ofChange Rows.fnExactVaultTextSpec).preRow enc Tryd.prog Tryd.f3 Rows.fnExactVaultTextRow.domain false Rows.fnExactVaultTextRow.laid) (((OpenSpec.ofChange Rows.fnExactVaultTextSpec).at F).post enc Tryd.prog Tryd.f3 false true false false):=by
  obtain ⟨Pf,hx⟩:=reads os enc
  refine returnsInHanded_of_row (C:=Tryd.checked) (s:=OpenSpec.ofChange Rows.fnExactVaultTextSpec) own started (by kernel_rfl) Tryd.func3
    (witness_row_at (enc:=enc) (C:=Tryd.checked) false (laidWorld os) #[.agg #[.int .i64 0,.int .i64 0,.slice none 0 0,.slice none 0 0,.slice none 0 0,.bool false]] rfl (by kernel_rfl) (by kernel_rfl) (by kernel_rfl)
      (OpenSpec.preRow_of_cond 8 hx (by kernel_rfl) (fun k hk=>by cases hk) (by kernel_rfl) (laid_met os))) ?_
  intro W base args ds gs before hval0 hW _ _ _ hL _ _
  have hval:∀(j:Nat) t v,Tryd.f3.params[j]? = some t→args[j]? = some v→Value.okWide Tryd.prog W .any base t v:=hval0
  have hW':=hW
  obtain ⟨p,q,hA0,hV,rfl,hfz,hnd⟩:=hW
  have hA:DataW.TrodAll enc Tryd.prog W 0 (fun _=>true) true Tryd.f3.params.toList args.toList ds p:=hA0
  rw [Tryd.params3] at hA hval
  obtain ⟨v0,vs0,d0,ds0,p0,q0,hargs,rfl,rfl,h0,r0⟩:=trodAll_cons hA
  obtain ⟨rfl,rfl,rfl⟩:=trodAll_nil r0
  obtain rfl:args = #[v0]:=by cases args; simp_all
  obtain ⟨rfl,rfl⟩:=trodVars_none hV
  obtain ⟨u0,t0,rt0⟩:=HJ (φ:=phi) (n:=12) (T:=.struct [.struct [.int .i64,.int .i64,.slice 4 (.struct [.int .i64,.int .i64,.int .i64,.bool])],.slice 2 (.struct [.int .i64,.bool]),.slice 1 (.int .i64),.bool]) (by kernel_rfl) (hval 0 28 v0 rfl rfl) h0
  obtain ⟨a0,rfl,o0⟩:=oktDVault.argS t0
  have hlt0:∀x∈p0,x.block<W.heap.size:=fun x hx=>hW'.lt x (by simp [hx])
  have hc:=cU (P:=Tryd.prog) (φ:=phi) (f:=476) (fid:=3) (vals:=[v0]) (vs:=[.agg [.int .i64 a0.table.clock,.int .i64 a0.table.next,.lst 4 (a0.table.Ae.map Aj),.lst 2 (a0.Ab.map Az),.lst 1 (a0.Ac.map eI),.bool a0.Fa]]) (w:=W) rfl rfl (QD rt0 QE) (k476 a0 true (gL a0 o0)) (FY gTab (table hL) rfl)
  refine hc.mono fun e W' ⟨he,bel⟩=>?_
  subst he
  exact ⟨_,rfl,_,_,_,[],_,[],hW',trodAll_mk1 (shut_bool Tryd.underlying4 _),(trodAll_cons_mk (Below.trod laid (by kernel_rfl) (of_decide_eq_true (by kernel_rfl)) h0 bel hlt0) trodAll_mk0),rfl,bel.frame _,fun h=>by cases h⟩
theorem said:Rows.FnExactVaultTextSaid:=
  OpenClaim.holds_of_cond 3 Tryd.f3 rfl rfl rfl rfl rfl rfl rfl ⟨rfl,rfl,rfl,rfl,rfl⟩ rfl rfl rfl rfl rfl (by kernel_rfl) Tryd.func3 joined
    (of_decide_eq_true (by kernel_rfl)) (by unfold Func.isWrapper; first | (rw [if_pos (by decide +kernel)]; kernel_rfl) | (rw [if_neg (by decide +kernel)]; exact ⟨rfl,rfl⟩))
    (fun os started H enc _ F=>by rw [OpenClaim.pre_eq_preRow]; exact lifted os started H enc F)
theorem plain (f:FuncId) (fn:Func) (hf:Tryd.pinned.checked.prog.funcNamed Rows.fnExactVaultTextRow.func=some f) (hfn:Tryd.pinned.checked.prog.funcs[f]? = some fn):
    false=Tryd.pinned.checked.prog.looks []∧∀(j:Nat) t,fn.params[j]? = some t→Tryd.pinned.checked.prog.wantsStandIn t=false:=by
  obtain rfl:f=3:=Option.some.inj ((show Tryd.prog.funcNamed Rows.fnExactVaultTextRow.func=some 3 by kernel_rfl).symm.trans hf) |>.symm
  obtain rfl:fn=Tryd.f3:=(Option.some.inj (Tryd.func3.symm.trans hfn)).symm
  refine ⟨by kernel_rfl,fun j t ht=>?_⟩
  rw [Tryd.params3] at ht
  have hm:=Array.mem_of_getElem? ht
  have key:∀t∈([28]:List TypeId),Tryd.prog.wantsStandIn t=false:=fun t h=>by
    simp only [List.mem_cons,List.not_mem_nil,or_false] at h
    rcases h with rfl<;>kernel_rfl
  exact key t (by simpa using hm)
theorem card:Rows.FnExactVaultTextCardSaid:=
  Claim7.holds_tied_plain_at .later [] _ _ _ _ said (fun _ h=>by cases h) (by kernel_rfl) (fun _ h=>by cases h) fnExactVaultText_row_tie rfl ⟨rfl,rfl⟩ (by kernel_rfl) rfl plain (by kernel_rfl)
end Go.Proofs.YtdmclbbhhcpjfaaDoor.fnExactVaultText
namespace Go.Proofs.YtdmclbbhhcpjfaaDoor
/-- FnExactVaultText: its tied card. -/
theorem fnExactVaultText_holds:Rows.FnExactVaultTextCardSaid:=fnExactVaultText.card
end Go.Proofs.YtdmclbbhhcpjfaaDoor
