/- The walks of functions: the code comes to the answers that QgD tells. Written by a program of ours. -/
import Derived.Test.YtdmclbbhhcpjfaaQgD
set_option linter.all false
set_option maxHeartbeats 4000000
set_option linter.unusedVariables false
set_option maxRecDepth 100000
namespace Go.Ev
theorem tv : True := True.intro
abbrev iQ (n : Nat) (o : PU) : Ch := ⟨some n, .p o, none⟩
abbrev iV (n : Int) : V := .int .i64 n
theorem nl {a b : Nat} (h : Nat.ble a b = true) : a ≤ b := Nat.le_of_ble_eq_true h
theorem t3 : True ∧ True ∧ True := ⟨trivial, trivial, trivial⟩
abbrev m_ (d s : Nat) : Ch := ⟨some d, .p (.mv (.t s)), none⟩
abbrev k_ (d : Nat) (v : V) : Ch := ⟨some d, .p (.mv (.c v)), none⟩
abbrev i_ (d : Nat) (n : Int) : Ch := ⟨some d, .p (.mv (.c (.int .i64 n))), none⟩
abbrev f_ (d x o : Nat) : Ch := ⟨some d, .p (.fieldA (.t x) o), none⟩
abbrev l_ (d x n : Nat) : Ch := ⟨some d, .p (.load (.t x) n false), none⟩
abbrev L_ (d x n : Nat) : Ch := ⟨some d, .p (.load (.t x) n true), none⟩
abbrev x_ (d x y n : Nat) : Ch := ⟨some d, .p (.idxA (.t x) (.t y) n), none⟩
abbrev e_ (d x n : Nat) : Ch := ⟨some d, .p (.ext (.t x) n), none⟩
abbrev b_ (o : BinOp) (d x y : Nat) : Ch := ⟨some d, .p (.bin o (.t x) (.t y)), none⟩
abbrev B_ (o : BinOp) (d x : Nat) (n : Int) : Ch := ⟨some d, .p (.bin o (.t x) (.c (.int .i64 n))), none⟩
abbrev n_ (d x : Nat) : Ch := ⟨some d, .p (.len (.t x)), none⟩
abbrev N_ (d x : Nat) : Ch := ⟨some d, .p (.un .not (.t x)), none⟩
abbrev s_ (x y n : Nat) : Ch := ⟨none, .store (.t x) (.t y) n, none⟩
abbrev a_ (d : Nat) (z : List V) : Ch := ⟨some d, .alloc z, none⟩
abbrev X_ (d x : Nat) : Ch := ⟨some d, .box (.t x), none⟩
abbrev q_ (d f : Nat) (l : List Cc) : Ch := ⟨some d, .call f l, none⟩
abbrev pk (d : Nat) (a b c : Cc) : Ch := ⟨some d, .pick a b c, none⟩
abbrev pT (g d : Nat) (o : PU) : Ch := ⟨some d, .p o, some (g, true)⟩
abbrev pF (g d : Nat) (o : PU) : Ch := ⟨some d, .p o, some (g, false)⟩
def tk : List Ch → DP → DP
  | [], p => p
  | i :: l, p => .take i (tk l p)
abbrev An (t k : Nat) (l : List (List V)) : V := .own t 0 k l
abbrev u_ (k : Nat) (l : List (List V)) : V := .lst k l
abbrev Cw (l : List Af) : V := .lst 2 (l.map Bi)
abbrev Bl (l : List Ab) : V := .lst 4 (l.map At)
abbrev Co (l : List Bh) : V := .lst 2 (l.map Cz)
abbrev Cq (l : List Am) : V := .lst 7 (l.map Ar)
abbrev lI (l : List Int) : V := .lst 1 (l.map eI)
abbrev pV (l : List UInt8) : V := .lst 1 (l.map Wh)
abbrev Ei (t : Nat) (l : List Af) : V := .own t 0 2 (l.map Bi)
abbrev Es (t : Nat) (l : List Ab) : V := .own t 0 4 (l.map At)
abbrev Bf (t : Nat) (l : List Bh) : V := .own t 0 2 (l.map Cz)
abbrev Ep (t : Nat) (l : List Am) : V := .own t 0 7 (l.map Ar)
abbrev Cs (t : Nat) (l : List Aq) : V := .own t 0 2 (l.map Bx)
abbrev oI (t : Nat) (l : List Int) : V := .own t 0 1 (l.map eI)
abbrev oU8 (t : Nat) (l : List UInt8) : V := .own t 0 1 (l.map Wh)
abbrev mL (x0 : Int) (x1 : Int) (x2 : Int) (x3 : Bool) : List V := [iV x0, iV x1, iV x2, .bool x3]
abbrev Bq (x0 : Int) (x1 : Int) (w2 : Nat → List (List V) → V) (x2 : List Ab) : List V := [iV x0, iV x1, w2 4 (x2.map At)]
abbrev Ky (x : Ai) (w2 : Nat → List (List V) → V) : List V := [iV x.clock, iV x.next, w2 4 (x.Ad.map At)]
abbrev Aj (x0 : Int) (x1 : Int) (w2 : Nat → List (List V) → V) (x2 : List Ab) (w3 : Nat → List (List V) → V) (x3 : List Af) (w4 : Nat → List (List V) → V) (x4 : List Int) (x5 : Bool) : List V := [iV x0, iV x1, w2 4 (x2.map At), w3 2 (x3.map Bi), w4 1 (x4.map eI), .bool x5]
abbrev By (x : Ag) (w2 : Nat → List (List V) → V) (w3 : Nat → List (List V) → V) (w4 : Nat → List (List V) → V) : List V := [iV x.Ac.clock, iV x.Ac.next, w2 4 (x.Ac.Ad.map At), w3 2 (x.Aa.map Bi), w4 1 (x.Ae.map eI), .bool x.Al]
abbrev Ax (x0 : Int) (x1 : Int) (x2 : Int) (x3 : Int) (x4 : Int) (w5 : Nat → List (List V) → V) (x5 : List Int) (x6 : Int) : List V := [iV x0, iV x1, iV x2, iV x3, iV x4, w5 1 (x5.map eI), iV x6]
abbrev Zk (x : Am) (w5 : Nat → List (List V) → V) : List V := [iV x.kind, iV x.id, iV x.ttl, iV x.Gw, iV x.clock, w5 1 (x.Dd.map eI), iV x.stop]
abbrev En (w0 : Nat → List (List V) → V) (x0 : List UInt8) (x1 : Int) (x2 : Int) : List V := [w0 1 (x0.map Wh), iV x1, iV x2]

/- loop.example/g00149/spec.l01In -/
def Aag := [k_ 6 (.bool false)]
def Aah := [m_ 7 0, m_ 8 1, b_ .geq 9 7 8, m_ 10 9, pT 10 11 (.mv (.t 0)), pT 10 12 (.mv (.t 2)), pT 10 13 (.bin .leq (.t 11) (.t 12)), pk 14 (.t 10) (.t 13) (.c (.bool false)), m_ 6 14]
def c56 : El := { np := 3, nt := 15, res := [.t 6], body := (.seq (.reg Aag) (.seq (.reg Aah) .ret)) }
def XG (D : Bc) : Prop := ∀ (a0 : Int) (a1 : Int) (a2 : Int) (r : Bool), nI a0 a1 a2 = some r → D 56 ⟨[iV a0, iV a1, iV a2], []⟩ ⟨.bool r, [], []⟩
theorem F56 {C : Bc} : XG (fun _ => Cp C c56) := by
 intro a0 a1 a2 r h0
 refine Fe (nl rfl) (Br 3 ⟨[(0, iV a0), (1, iV a1), (2, iV a2)], [], []⟩ (Lh 9 (Au (o_ ?_))))
 obtain rfl := Option.some.inj h0
 exact Dr 3

/- loop.example/g00149/spec.l09Act -/
def AL := [X_ 1 0, k_ 2 (.bool false)]
def AM : List Ch := [f_ 4 1 5, l_ 5 4 1, n_ 6 5, B_ .gtr 7 6 4096, m_ 8 7, pF 8 9 (.fieldA (.t 1) 6), pF 8 10 (.load (.t 9) 1 false), ⟨some 11, .call 56 [(.t 10), (.c (iV 0)), (.c (iV 2))], some (8, false)⟩, pF 8 12 (.un .not (.t 11)), pk 13 (.t 8) (.c (.bool true)) (.t 12)]
def AN := [k_ 2 (.bool false)]
def AO := [i_ 3 0]
def AP := [m_ 14 3, f_ 15 1 5, l_ 16 15 1, n_ 17 16, b_ .lss 18 14 17]
def AQ := [f_ 21 1 5, l_ 22 21 1, m_ 23 3, x_ 24 22 23 1, l_ 25 24 1, q_ 26 56 [(.t 25), (.c (iV 0)), (.c (iV 2))], N_ 27 26]
def AR := [k_ 2 (.bool false)]
def AS := [m_ 19 3, B_ .add 20 19 1, m_ 3 20]
def AK : IR := (.seq (.seq (.reg AP) (.ite (.t 18) .skip (.exit 0))) (.seq (.block 1 (.seq (.reg AQ) (.ite (.t 27) (.seq (.reg AR) .ret) .skip))) (.reg AS)))
def AT := [k_ 2 (.bool true)]
def AJ : El := { np := 1, nt := 28, res := [.t 2], body := (.seq (.reg AL) (.seq (.seq (.reg AM) (.ite (.t 13) (.seq (.reg AN) .ret) .skip)) (.seq (.seq (.reg AO) (.block 0 (.loop AK))) (.seq (.reg AT) .ret)))) }
def VQ (D : Bc) : Prop := ∀ (a0 : Am) (r : Bool), QS a0 = some r → D 100 ⟨[.agg (Ar a0)], []⟩ ⟨.bool r, [], []⟩
theorem F100 {C : Bc} (H56 : XG C) : VQ (fun _ => Cp C AJ) := by
 intro a0 r h0
 refine Fe (nl rfl) (Br 4 ⟨[(1, .ptr 64 0)], [(64, Ar a0)], []⟩ (Bu 4 (Au (st (c_ (Cn (e := eI) (l0 := a0.Dd) rfl rfl tv) (o_ (Lh 4 (Au (bb h0 fun r1 e2 h0 => st (Ga (r := .bool r1) rfl false (fun hg => H56 a0.stop 0 2 r1 (ip hg e2)) ⟨(fun hg => hg), tv, tv, tv⟩ (fun _ => rfl) (fun _ => rfl) (fun _ => rfl) (fun h => nomatch h) (o_ (SZ 3 ⟨[(1, .ptr 64 0), (13, .bool (bif (decide ((a0.Dd.length : Int) > 4096)) then true else (!r1)))], [(64, Ar a0)], []⟩ (Dm h0 (fun c3 h0 => ?_) (fun c3 h0 => ?_))))))))))))))
 ·obtain rfl := Option.some.inj h0
  exact Dr 4
 ·refine Br 6 ⟨[(1, .ptr 64 0), (3, iV 0)], [(64, Ar a0)], []⟩ (Cr (bb h0 fun r24 e25 h0 => Dt (R := (fun S => .inl () = r24 ∧ S = ⟨[], [], []⟩)) (Pi a0) (fun s S => match s with | p10 => S = ⟨[(1, .ptr 64 0), (3, iV p10)], [(64, Ar a0)], []⟩) e25 _ (Bw (by kernel_rfl)) rfl 0 (fun _ => rfl) ?_ ?_))
  ·rintro S _ hfg ⟨rfl, rfl⟩
   refine Dv _ hfg ?_
   obtain rfl := Option.some.inj h0
   exact Dr 4
  ·rintro p10 o1 _ K1 rfl h1 hx1 hK1 hE1 hR1
   refine Bu 5 (Au (st (c_ (Cn (e := eI) (l0 := a0.Dd) rfl rfl tv) (o_ (Br 2 ⟨[(1, .ptr 64 0), (3, iV p10), (18, .bool (decide (p10 < (a0.Dd.length : Int))))], [(64, Ar a0)], []⟩ (Dm h1 (fun rG h1 => ?_) (fun rG h1 => ?_)))))))
   ·refine Bu 8 (Au (bb h1 fun y19 e20 h1 => st (c_ (Cj (e := eI) (y := y19) rfl rfl tv rfl rfl tv e20) (st (c_ (Ay ⟨tv, tv⟩ rfl (nl rfl)) (bb h1 fun r21 e22 h1 => Re (H56 y19 0 2 r21 e22) (o_ (Br 2 ⟨[(1, .ptr 64 0), (3, iV p10), (27, .bool (!r21))], [(64, Ar a0)], []⟩ (Dm h1 (fun c23 h1 => ?_) (fun c23 h1 => ?_))))))))))
    ·obtain rfl := Option.some.inj h1
     obtain rfl := hx1 _ rfl
     obtain rfl := Option.some.inj h0
     exact aN 4 hR1
    ·refine Bu 7 ?_
     obtain rfl := Option.some.inj h1
     exact hK1 _ rfl _ _ (Bw (by kernel_rfl)) rfl
   ·obtain rfl := Option.some.inj h1
    obtain rfl := hx1 _ rfl
    refine Nc rfl ?_
    exact hE1 _ _ (Bw (by kernel_rfl)) ⟨rfl, rfl⟩

/- loop.example/g00149/spec.l08Find -/
def Ace := [X_ 2 0, i_ 4 0]
def Acf := [i_ 5 0]
def Acg := [m_ 6 5, f_ 7 2 2, l_ 8 7 1, n_ 9 8, b_ .lss 10 6 9]
def Ach := [f_ 13 2 2, l_ 14 13 1, m_ 15 5, x_ 16 14 15 4, f_ 17 16 0, l_ 18 17 1, m_ 19 1, b_ .eql 20 18 19]
def Aci := [m_ 21 5, m_ 4 21]
def Acj := [m_ 11 5, B_ .add 12 11 1, m_ 5 12]
def Acd : IR := (.seq (.seq (.reg Acg) (.ite (.t 10) .skip (.exit 0))) (.seq (.block 1 (.seq (.reg Ach) (.ite (.t 20) (.seq (.reg Aci) .ret) .skip))) (.reg Acj)))
def Ack := [i_ 4 (-1)]
def c92 : El := { np := 2, nt := 22, res := [.t 4], body := (.seq (.reg Ace) (.seq (.seq (.reg Acf) (.block 0 (.loop Acd))) (.seq (.reg Ack) .ret))) }
def XH (D : Bc) : Prop := ∀ (a0 : Ai) (a1 : Int) (r : Int), AA a0 a1 = some r → D 92 ⟨[.agg (Aw a0), iV a1], []⟩ ⟨iV r, [], []⟩
theorem F92 {C : Bc} : XH (fun _ => Cp C c92) := by
 intro a0 a1 r h0
 refine Fe (nl rfl) (Br 9 ⟨[(1, iV a1), (2, .ptr 128 0), (5, iV 0)], [(128, Aw a0)], []⟩ (Cr (bb h0 fun r15 e16 h0 => Dt (R := (fun S => .inl () = r15 ∧ S = ⟨[], [], []⟩)) (eV a0 a1) (fun s S => match s with | p5 => S = ⟨[(1, iV a1), (2, .ptr 128 0), (5, iV p5)], [(128, Aw a0)], []⟩) e16 _ (Bw (by kernel_rfl)) rfl 0 (fun _ => rfl) ?_ ?_)))
 ·rintro S _ hfg ⟨rfl, rfl⟩
  refine Dv _ hfg ?_
  obtain rfl := Option.some.inj h0
  exact Dr 4
 ·rintro p5 o1 _ K1 rfl h1 hx1 hK1 hE1 hR1
  refine Bu 5 (Au (st (c_ (Cn (e := At) (l0 := a0.Ad) rfl rfl tv) (o_ (Br 2 ⟨[(1, iV a1), (2, .ptr 128 0), (5, iV p5), (10, .bool (decide (p5 < (a0.Ad.length : Int))))], [(128, Aw a0)], []⟩ (Dm h1 (fun c11 h1 => ?_) (fun c11 h1 => ?_)))))))
  ·refine Bu 8 (Au (bb h1 fun y12 e13 h1 => st (c_ (Cj (e := At) (y := y12) rfl rfl tv rfl rfl tv e13) (o_ (Br 5 ⟨[(1, iV a1), (2, .ptr 128 0), (5, iV p5), (20, .bool (y12.id == a1))], [(128, Aw a0)], []⟩ (Dm h1 (fun c14 h1 => ?_) (fun c14 h1 => ?_)))))))
   ·obtain rfl := Option.some.inj h1
    obtain rfl := hx1 _ rfl
    obtain rfl := Option.some.inj h0
    exact aN 5 hR1
   ·refine Bu 7 ?_
    obtain rfl := Option.some.inj h1
    exact hK1 _ rfl _ _ (Bw (by kernel_rfl)) rfl
  ·obtain rfl := Option.some.inj h1
   obtain rfl := hx1 _ rfl
   refine Nc rfl ?_
   exact hE1 _ _ (Bw (by kernel_rfl)) ⟨rfl, rfl⟩

/- loop.example/g00149/spec.l08Copy -/
def CU := [X_ 1 0, a_ 2 [(iV 0), (iV 0), (.own 131 0 4 [])]]
def CV : List Ch := [⟨some 3, .mkS 4 [(iV 0), (iV 0), (iV 0), (.bool false)] 0 [], none⟩, f_ 4 1 2, l_ 5 4 1, ⟨some 6, .app 4 32 (.t 3) (.t 5), none⟩, f_ 7 1 2, s_ 7 6 1]
def CW := [L_ 8 1 3, s_ 2 8 3]
def oQ : El := { np := 1, nt := 9, res := [.cell 2 3 true], body := (.seq (.reg CU) (.seq (.reg CV) (.seq (.reg CW) .ret))) }
def jJ (D : Bc) : Prop := ∀ (a0 : Ai) (r : Ai), gO a0 = some r → D 111 ⟨[.agg (Aw a0)], []⟩ ⟨.agg (Ky r (An 0)), [], []⟩
theorem F111 {C : Bc} : jJ (fun _ => Cp C oQ) := by
 intro a0 r h0
 refine Fe (nl rfl) (Br 4 ⟨[(1, .ptr 64 0), (2, .ptr 128 0)], [(64, Aw a0), (128, (Bq 0 0 (An 131) []))], []⟩ (Bu 4 (Au (gg h0 fun c1 h0 => st (Hj (e := At) (l0 := ([] : List Ab)) (l1 := a0.Ad) rfl rfl tv rfl (by decide) c1 (o_ ?_))))))
 obtain rfl := Option.some.inj h0
 exact Dr 9

/- loop.example/g00149/spec.l08Revoke -/
def AaS := [X_ 2 0, a_ 4 [(iV 0), (iV 0), (.own 259 0 4 [])], i_ 5 0]
def AaT := [L_ 8 2 3, m_ 9 1, q_ 10 92 [(.t 8), (.t 9)], m_ 6 10]
def AaU := [m_ 11 6, B_ .lss 12 11 0]
def AaV := [L_ 13 2 3, s_ 4 13 3, i_ 5 5]
def AaW := [L_ 14 2 3, q_ 15 111 [(.t 14)], a_ 7 [(iV 0), (iV 0), (.own 451 0 4 [])], s_ 7 15 3]
def AaX : List Ch := [f_ 16 7 2, l_ 17 16 1, m_ 18 6, x_ 19 17 18 4, f_ 20 19 3, ⟨none, .store (.t 20) (.c (.bool true)) 1, none⟩]
def AaY := [L_ 21 7 3, s_ 4 21 3, i_ 5 0]
def c74 : El := { np := 2, nt := 22, res := [.cell 4 3 true, .t 5], body := (.seq (.reg AaS) (.seq (.reg AaT) (.seq (.seq (.reg AaU) (.ite (.t 12) (.seq (.reg AaV) .ret) .skip)) (.seq (.reg AaW) (.seq (.reg AaX) (.seq (.reg AaY) .ret)))))) }
def K74 (D : Bc) : Prop := ∀ (a0 : Ai) (a1 : Int) (r : Ai × Int), g74 a0 a1 = some r → D 74 ⟨[.agg (Aw a0), iV a1], []⟩ ⟨.tup [.agg (Aw r.1), iV r.2], [], []⟩
theorem F74 {C : Bc} (H92 : XH C) (H111 : jJ C) : K74 (fun _ => Cp C c74) := by
 intro a0 a1 r h0
 refine Fe (nl rfl) (Br 5 ⟨[(1, iV a1), (2, .ptr 128 0), (4, .ptr 256 0)], [(128, Aw a0), (256, (Bq 0 0 (An 259) []))], []⟩ (Bu 3 (Au (bb h0 fun r1 e2 h0 => Re (H92 a0 a1 r1 e2) (o_ (Br 8 ⟨[(2, .ptr 128 0), (4, .ptr 256 0), (6, iV r1), (12, .bool (decide (r1 < 0)))], [(128, Aw a0), (256, (Bq 0 0 (An 259) []))], []⟩ (Dm h0 (fun c3 h0 => ?_) (fun c3 h0 => ?_))))))))
 ·obtain rfl := Option.some.inj h0
  exact Dr 6
 ·refine Bu 4 (Au (bb h0 fun r4 e5 h0 => dE (H111 a0 r4 e5) (Bs rfl (Bs rfl (Bs (Hr (fun _ => rfl)) rfl))) (o_ (Br 3 ⟨[(4, .ptr 256 0), (6, iV r1), (7, .ptr 448 0)], [(256, (Bq 0 0 (An 259) [])), (448, Ky r4 (An 960))], []⟩ (Bu 4 (Au (bb h0 fun y6 e7 h0 => st (c_ (Nb (e := At) (y := y6) rfl rfl tv rfl rfl tv e7) (st (c_ (Ay ⟨tv, tv⟩ rfl tv) (bb h0 fun y8 e9 h0 => st (yU (y' := (Ab.mk y8.id y8.Be y8.cap true)) rfl rfl tv rfl rfl rfl rfl e9 (nl rfl) rfl rfl rfl rfl (Kj (Dv ⟨[(4, .ptr 256 0), (7, .ptr 448 0)], [(256, (Bq 0 0 (An 259) [])), (448, (Bq r4.clock r4.next (An 960) (r4.Ad.set r1.toNat (Ab.mk y8.id y8.Be y8.cap true))))], []⟩ (fg ⟨rfl, rfl, tv⟩ ⟨rfl, (congrArg (fun z => some (([iV r4.clock, iV r4.next, .own 960 0 4 z] : List V))) Iu), tv⟩) ?_))))))))))))))
  obtain rfl := Option.some.inj h0
  exact Dr 6 [960]

/- loop.example/g00149/spec.l08Later -/
def Aac := [i_ 4 0]
def Aad : List Ch := [m_ 5 0, m_ 6 1, ⟨some 7, .p (.bin .sub (.c (iV 9223372036854775807)) (.t 6)), none⟩, b_ .gtr 8 5 7]
def Aae := [i_ 4 9223372036854775807]
def Aaf := [m_ 9 0, m_ 10 1, b_ .add 11 9 10, m_ 4 11]
def zY : El := { np := 2, nt := 12, res := [.t 4], body := (.seq (.reg Aac) (.seq (.seq (.reg Aad) (.ite (.t 8) (.seq (.reg Aae) .ret) .skip)) (.seq (.reg Aaf) .ret))) }
def K53 (D : Bc) : Prop := ∀ (a0 : Int) (a1 : Int) (r : Int), UT a0 a1 = some r → D 53 ⟨[iV a0, iV a1], []⟩ ⟨iV r, [], []⟩
theorem F53 {C : Bc} : K53 (fun _ => Cp C zY) := by
 intro a0 a1 r h0
 refine Fe (nl rfl) (Br 11 ⟨[(0, iV a0), (1, iV a1), (8, .bool (decide (a0 > (IntKind.i64.wrap (9223372036854775807 - a1)))))], [], []⟩ (Dm h0 (fun c1 h0 => ?_) (fun c1 h0 => ?_)))
 ·obtain rfl := Option.some.inj h0
  exact Dr 4
 ·obtain rfl := Option.some.inj h0
  exact Dr 9

/- loop.example/g00149/spec.l08Renew -/
def Abk := [X_ 3 0, a_ 6 [(iV 0), (iV 0), (.own 387 0 4 [])], i_ 7 0]
def Abl := [L_ 10 3 3, m_ 11 1, q_ 12 92 [(.t 10), (.t 11)], m_ 8 12]
def Abm := [m_ 14 2, B_ .lss 15 14 1, m_ 13 15]
def Abn := [L_ 16 3 3, s_ 6 16 3, i_ 7 4]
def Abo := [m_ 18 8, B_ .lss 19 18 0, m_ 17 19]
def Abp := [L_ 20 3 3, s_ 6 20 3, i_ 7 5]
def Abq := [f_ 22 3 2, l_ 23 22 1, m_ 24 8, x_ 25 23 24 4, f_ 26 25 3, l_ 27 26 1, m_ 21 27]
def Abr := [L_ 28 3 3, s_ 6 28 3, i_ 7 13]
def Abs := [L_ 29 3 3, q_ 30 111 [(.t 29)], a_ 9 [(iV 0), (iV 0), (.own 579 0 4 [])], s_ 9 30 3]
def Abt := tk [f_ 31 9 2, l_ 32 31 1, m_ 33 8, f_ 34 9 2, l_ 35 34 1, m_ 36 8, x_ 37 35 36 4, f_ 38 37 2, l_ 39 38 1, f_ 40 3 0, l_ 41 40 1, m_ 42 2] (.alt [l_ 39 38 1, f_ 38 37 2, x_ 37 35 36 4, m_ 36 8, l_ 35 34 1, f_ 34 9 2, m_ 33 8, l_ 32 31 1, f_ 31 9 2] (q_ 43 53 [(.t 41), (.t 42)]) (tk [(iQ 44 (.mn (.t 39) (.t 43))), x_ 45 32 33 4, f_ 46 45 1] (.alt [] (s_ 46 44 1) .fin .stop)) .stop)
def PV := [L_ 47 9 3, s_ 6 47 3, i_ 7 0]
def UQ : El := { np := 3, nt := 48, res := [.cell 6 3 true, .t 7], body := (.seq (.reg Abk) (.seq (.reg Abl) (.seq (.block 0 (.seq (.reg Abm) (.ite (.t 13) (.seq (.reg Abn) .ret) (.seq (.reg Abo) (.ite (.t 17) (.seq (.reg Abp) .ret) (.seq (.reg Abq) (.ite (.t 21) (.seq (.reg Abr) .ret) .skip))))))) (.seq (.reg Abs) (.seq (.draw Abt) (.seq (.reg PV) .ret)))))) }
def K79 (D : Bc) : Prop := ∀ (a0 : Ai) (a1 : Int) (a2 : Int) (r : Ai × Int), g79 a0 a1 a2 = some r → D 79 ⟨[.agg (Aw a0), iV a1, iV a2], []⟩ ⟨.tup [.agg (Aw r.1), iV r.2], [], []⟩
theorem F79 {C : Bc} (H53 : K53 C) (H92 : XH C) (H111 : jJ C) : K79 (fun _ => Cp C UQ) := by
 intro a0 a1 a2 r h0
 refine Fe (nl rfl) (Br 5 ⟨[(1, iV a1), (2, iV a2), (3, .ptr 192 0), (6, .ptr 384 0)], [(192, Aw a0), (384, (Bq 0 0 (An 387) []))], []⟩ (Bu 3 (Au (bb h0 fun r1 e2 h0 => Re (H92 a0 a1 r1 e2) (o_ (Br 10 ⟨[(2, iV a2), (3, .ptr 192 0), (6, .ptr 384 0), (8, iV r1), (13, .bool (decide (a2 < 1)))], [(192, Aw a0), (384, (Bq 0 0 (An 387) []))], []⟩ (Dm h0 (fun c3 h0 => ?_) (fun c3 h0 => ?_))))))))
 ·obtain rfl := Option.some.inj h0
  exact Dr 6
 ·refine Br 5 ⟨[(2, iV a2), (3, .ptr 192 0), (6, .ptr 384 0), (8, iV r1), (17, .bool (decide (r1 < 0)))], [(192, Aw a0), (384, (Bq 0 0 (An 387) []))], []⟩ (Dm h0 (fun c4 h0 => ?_) (fun c4 h0 => ?_))
  ·obtain rfl := Option.some.inj h0
   exact Dr 6
  ·refine Bu 4 (Au (bb h0 fun y5 e6 h0 => st (c_ (Cj (e := At) (y := y5) rfl rfl tv rfl rfl tv e6) (o_ (Br 4 ⟨[(2, iV a2), (3, .ptr 192 0), (6, .ptr 384 0), (8, iV r1), (21, .bool y5.Bt)], [(192, Aw a0), (384, (Bq 0 0 (An 387) []))], []⟩ (Dm h0 (fun c7 h0 => ?_) (fun c7 h0 => ?_)))))))
   ·obtain rfl := Option.some.inj h0
    exact Dr 6
   ·refine Bu 5 (Au (bb h0 fun r8 e9 h0 => dE (H111 a0 r8 e9) (Bs rfl (Bs rfl (Bs (Hr (fun _ => rfl)) rfl))) (o_ (Br 3 ⟨[(2, iV a2), (3, .ptr 192 0), (6, .ptr 384 0), (8, iV r1), (9, .ptr 576 0)], [(192, Aw a0), (384, (Bq 0 0 (An 387) [])), (576, Ky r8 (An 1920))], []⟩ (Bz ?_)))))
    obtain ⟨y10, e11, h0⟩ := bnd h0
    obtain ⟨y12, e13, h0⟩ := bnd h0
    refine bb h0 fun r14 e15 h0 => Bu 6 (Dh (Ak tv (c_ (Nb (e := At) (y := y10) rfl rfl tv rfl rfl tv e11) (⟨tv, (Ak tv (c_ (Ay ⟨tv, tv⟩ rfl tv) (⟨tv, (vQ (c_ (Fn (e := At) (y := y12) (v := iV y12.cap) rfl rfl tv rfl rfl e13 rfl (nl rfl) rfl) (⟨⟨(Ao (Fn (e := At) (y := y12) (v := iV y12.cap) rfl rfl tv rfl rfl e13 rfl (nl rfl) rfl) rfl), tv⟩, (Ak tv (c_ (Ay ⟨tv, tv⟩ rfl tv) (⟨⟨(Ao (Fn (e := At) (y := y12) (v := iV y12.cap) rfl rfl tv rfl rfl e13 rfl (nl rfl) rfl) rfl), tv⟩, (Ak tv (c_ (Ay ⟨tv, tv⟩ rfl (nl rfl)) (⟨⟨(Ao (Fn (e := At) (y := y12) (v := iV y12.cap) rfl rfl tv rfl rfl e13 rfl (nl rfl) rfl) rfl), tv⟩, (Ak tv (Df rfl tv (⟨⟨(Ao (Fn (e := At) (y := y12) (v := iV y12.cap) rfl rfl tv rfl rfl e13 rfl (nl rfl) rfl) rfl), tv⟩, (Ci (Bv (r := iV r14) false (H53 a0.clock a2 r14 e15) ⟨tv, tv, tv⟩ rfl rfl (fun _ => rfl) (Jf ⟨[(6, .ptr 384 0), (8, iV r1), (9, .ptr 576 0), (31, .ptr 576 2), (32, Es 1920 r8.Ad), (33, iV r1), (34, .ptr 576 2), (35, Es 1920 r8.Ad), (36, iV r1), (37, .optr 1920 4 (0 + r1.toNat) 0), (38, .optr 1920 4 (0 + r1.toNat) 2), (39, iV y12.cap), (43, iV r14)], [(384, (Bq 0 0 (An 387) [])), (576, Ky r8 (An 1920))], []⟩ (Bw (by kernel_rfl)) ⟨[(iQ 39 (.load (.t 38) 1 false))], ⟨⟨.inr (.head _), (Ao (Fn (e := At) (y := y12) (v := iV y12.cap) rfl rfl tv rfl rfl e13 rfl (nl rfl) rfl) rfl)⟩, ⟨.inl tv, (Ao (Ay ⟨tv, tv⟩ rfl tv) rfl)⟩, ⟨.inl tv, (Ao (Nb (e := At) (y := y10) rfl rfl tv rfl rfl tv e11) rfl)⟩, ⟨.inl tv, (Ao (Gs (v := iV r1) rfl tv) rfl)⟩, ⟨.inl tv, (Ao (Ay ⟨tv, tv⟩ rfl (nl rfl)) rfl)⟩, ⟨.inl tv, (Ao (Ay ⟨tv, tv⟩ rfl tv) rfl)⟩, ⟨.inl tv, (Ao (Gs (v := iV r1) rfl tv) rfl)⟩, ⟨.inl tv, (Ao (Ay ⟨tv, tv⟩ rfl (nl rfl)) rfl)⟩, ⟨.inl tv, (Ao (Ay ⟨tv, tv⟩ rfl tv) rfl)⟩, tv⟩, ⟨(Ao (Fn (e := At) (y := y12) (v := iV y12.cap) rfl rfl tv rfl rfl e13 rfl (nl rfl) rfl) rfl), tv⟩, (Ak tv (c_ (Ay ⟨tv, tv, tv⟩ rfl rfl) (⟨⟨(Ao (Fn (e := At) (y := y12) (v := iV y12.cap) rfl rfl tv rfl rfl e13 rfl (nl rfl) rfl) rfl), tv⟩, (Ak tv (c_ (Nb (e := At) (y := y10) rfl rfl tv rfl rfl tv e11) (⟨⟨(Ao (Fn (e := At) (y := y12) (v := iV y12.cap) rfl rfl tv rfl rfl e13 rfl (nl rfl) rfl) rfl), tv⟩, ?_⟩)))⟩)))⟩)) Bp)⟩)))⟩)))⟩)))⟩)))⟩)))⟩))))
    refine Ak tv (c_ (Ay ⟨tv, tv⟩ rfl tv) (⟨⟨(Ao (Fn (e := At) (y := y12) (v := iV y12.cap) rfl rfl tv rfl rfl e13 rfl (nl rfl) rfl) rfl), tv⟩, (Ci (yU (y' := (Ab.mk y12.id (if r14 < y12.cap then r14 else y12.cap) y12.cap y12.Bt)) rfl rfl tv rfl rfl rfl rfl e13 (nl rfl) rfl rfl rfl rfl (Jr ⟨[], tv, tv, (Nt (Dv ⟨[(6, .ptr 384 0), (9, .ptr 576 0)], [(384, (Bq 0 0 (An 387) [])), (576, (Bq r8.clock r8.next (An 1920) (r8.Ad.set r1.toNat (Ab.mk y12.id (if r14 < y12.cap then r14 else y12.cap) y12.cap y12.Bt))))], []⟩ (fg ⟨rfl, rfl, tv⟩ ⟨rfl, (congrArg (fun z => some (([iV r8.clock, iV r8.next, .own 1920 0 4 z] : List V))) Iu), tv⟩) (rz_ 5 [1920] [] ⟨[(6, .ptr 384 0), (7, iV 0)], [(384, (Bq r8.clock r8.next u_ (r8.Ad.set r1.toNat (Ab.mk y12.id (if r14 < y12.cap then r14 else y12.cap) y12.cap y12.Bt))))], []⟩ ?_)))⟩)) Bp)⟩))
    obtain rfl := Option.some.inj h0
    exact cL (Mb rfl rfl rfl rfl rfl tv)

/- loop.example/g00149/spec.l08Tick -/
def Abw : List Ch := [X_ 2 0, a_ 4 [(iV 0), (iV 0), (.own 259 0 4 [])], ⟨some 5, .nilS 1, none⟩]
def Abx := [L_ 11 2 3, q_ 12 111 [(.t 11)], a_ 6 [(iV 0), (iV 0), (.own 387 0 4 [])], s_ 6 12 3]
def Aby := [f_ 13 2 0, l_ 14 13 1, m_ 15 1, (iQ 16 (.mx (.t 14) (.t 15))), f_ 17 6 0, s_ 17 16 1]
def Abz : List Ch := [⟨some 18, .mkS 1 [(iV 0)] 0 [], none⟩, m_ 7 18]
def AbA := [i_ 8 (-1)]
def AbB := [i_ 9 0]
def AbC := [m_ 19 9, f_ 20 6 2, l_ 21 20 1, n_ 22 21, b_ .lss 23 19 22]
def AbD := [f_ 26 6 2, l_ 27 26 1, m_ 28 9, x_ 29 27 28 4, L_ 30 29 4, a_ 10 [(iV 0), (iV 0), (iV 0), (.bool false)], s_ 10 30 4]
def AbE := tk [f_ 31 10 3, l_ 32 31 1, N_ 33 32, m_ 34 33, pT 34 35 (.fieldA (.t 10) 1), pT 34 36 (.load (.t 35) 1 false), pT 34 37 (.fieldA (.t 6) 0), pT 34 38 (.load (.t 37) 1 false), pT 34 39 (.bin .leq (.t 36) (.t 38)), pk 40 (.t 34) (.t 39) (.c (.bool false)), m_ 41 40, pT 41 42 (.mv (.t 8)), pT 41 43 (.bin .lss (.t 42) (.c (iV 0))), pT 41 44 (.mv (.t 43)), pF 44 45 (.fieldA (.t 10) 1), pF 44 46 (.load (.t 45) 1 false), pF 44 47 (.fieldA (.t 6) 2), pF 44 48 (.load (.t 47) 1 false), pF 44 49 (.mv (.t 8)), pF 44 50 (.idxA (.t 48) (.t 49) 4), pF 44 51 (.fieldA (.t 50) 1), pF 44 52 (.load (.t 51) 1 false), pF 44 53 (.bin .lss (.t 46) (.t 52)), ⟨some 54, .pick (.t 44) (.c (.bool true)) (.t 53), some (41, true)⟩, pk 55 (.t 41) (.t 54) (.c (.bool false))] .fin
def AbF := [m_ 56 9, m_ 8 56]
def PW := [m_ 24 9, B_ .add 25 24 1, m_ 9 25]
def Abu : IR := (.seq (.seq (.reg AbC) (.ite (.t 23) .skip (.exit 2))) (.seq (.block 3 (.seq (.reg AbD) (.seq (.draw AbE) (.ite (.t 55) (.reg AbF) .skip)))) (.reg PW)))
def PX := [m_ 57 8, B_ .lss 58 57 0]
def PY := [L_ 59 6 3, m_ 60 7, s_ 4 59 3, m_ 5 60]
def PZ : List Ch := [f_ 61 6 2, l_ 62 61 1, m_ 63 8, x_ 64 62 63 4, f_ 65 64 3, ⟨none, .store (.t 65) (.c (.bool true)) 1, none⟩]
def QA : List Ch := [m_ 66 7, f_ 67 6 2, l_ 68 67 1, m_ 69 8, x_ 70 68 69 4, f_ 71 70 0, l_ 72 71 1, ⟨some 73, .mkS 1 [(iV 0)] 1 [(0, (.t 72))], none⟩, ⟨some 74, .app 1 8 (.t 66) (.t 73), none⟩, m_ 7 74]
def Abv : IR := (.block 1 (.seq (.reg AbA) (.seq (.seq (.reg AbB) (.block 2 (.loop Abu))) (.seq (.seq (.reg PX) (.ite (.t 58) (.seq (.reg PY) .ret) .skip)) (.seq (.reg PZ) (.reg QA))))))
def c81 : El := { np := 2, nt := 75, res := [.cell 4 3 true, .t 5], body := (.seq (.reg Abw) (.seq (.reg Abx) (.seq (.reg Aby) (.seq (.reg Abz) (.block 0 (.loop Abv)))))) }
def K81 (D : Bc) : Prop := ∀ (a0 : Ai) (a1 : Int) (r : Ai × (List Int)), g81 a0 a1 = some r → D 81 ⟨[.agg (Aw a0), iV a1], []⟩ ⟨.tup [.agg (Ky r.1 (An 0)), oI 1 r.2], [], []⟩
theorem F81 {C : Bc} (H111 : jJ C) : K81 (fun _ => Cp C c81) := by
 intro a0 a1 r h0
 refine Fe (nl rfl) (Br 5 ⟨[(1, iV a1), (2, .ptr 128 0), (4, .ptr 256 0)], [(128, Aw a0), (256, (Bq 0 0 (An 259) []))], []⟩ (Bu 2 (Au (bb h0 fun r1 e2 h0 => dE (H111 a0 r1 e2) (Bs rfl (Bs rfl (Bs (Hr (fun _ => rfl)) rfl))) (o_ (Br 17 ⟨[(4, .ptr 256 0), (6, .ptr 384 0), (7, oI 1152 [])], [(256, (Bq 0 0 (An 259) [])), (384, (Bq (if a1 > a0.clock then a1 else a0.clock) r1.next (An 768) r1.Ad))], []⟩ (Cr (bb h0 fun r157 e158 h0 => Dt (R := (fun _ => False)) (eT a0 a1 r1) (fun s S => match s with | (p44, p45) => S = ⟨[(4, .ptr 256 0), (6, .ptr 384 0), (7, oI 1152 p44)], [(256, (Bq 0 0 (An 259) [])), (384, (Bq (if a1 > a0.clock then a1 else a0.clock) r1.next (An 768) p45))], []⟩) e158 _ (Bw (by kernel_rfl)) rfl 0 (fun h => h.elim fun _ h => h.elim) ?_ ?_))))))))
 ·exact fun _ _ _ h => h.elim
 ·rintro ⟨p44, p45⟩ o1 _ K1 rfl h1 hx1 hK1 hE1 hR1
  refine Br 9 ⟨[(4, .ptr 256 0), (6, .ptr 384 0), (7, oI 1152 p44), (8, iV (-1)), (9, iV 0)], [(256, (Bq 0 0 (An 259) [])), (384, (Bq (if a1 > a0.clock then a1 else a0.clock) r1.next (An 768) p45))], []⟩ (Cr (bb h1 fun r145 e146 h1 => Dt (R := (fun S => ∃ p119 : Int, p119 = r145 ∧ S = ⟨[(4, .ptr 256 0), (6, .ptr 384 0), (7, oI 1152 p44), (8, iV p119)], [(256, (Bq 0 0 (An 259) [])), (384, (Bq (if a1 > a0.clock then a1 else a0.clock) r1.next (An 768) p45))], []⟩)) (Ys a0 a1 p45) (fun s S => match s with | (p102, p103) => S = ⟨[(4, .ptr 256 0), (6, .ptr 384 0), (7, oI 1152 p44), (8, iV p102), (9, iV p103)], [(256, (Bq 0 0 (An 259) [])), (384, (Bq (if a1 > a0.clock then a1 else a0.clock) r1.next (An 768) p45))], []⟩) e146 _ (Bw (by kernel_rfl)) rfl 2 (fun _ => rfl) ?_ ?_))
  ·rintro S _ hfg ⟨p119, rfl, rfl⟩
   refine Dv _ hfg (Br 5 ⟨[(4, .ptr 256 0), (6, .ptr 384 0), (7, oI 1152 p44), (8, iV p119), (58, .bool (decide (p119 < 0)))], [(256, (Bq 0 0 (An 259) [])), (384, (Bq (if a1 > a0.clock then a1 else a0.clock) r1.next (An 768) p45))], []⟩ (Dm h1 (fun oU h1 => ?_) (fun oU h1 => ?_)))
   ·obtain rfl := Option.some.inj h1
    obtain rfl := hx1 _ rfl
    obtain rfl := Option.some.inj h0
    exact aN 7 hR1
   ·refine Bu 6 (Au (bb h1 fun y148 e149 h1 => st (c_ (Nb (e := At) (y := y148) rfl rfl tv rfl rfl tv e149) (st (c_ (Ay ⟨tv, tv⟩ rfl tv) (bb h1 fun y150 e151 h1 => st (yU (y' := (Ab.mk y150.id y150.Be y150.cap true)) rfl rfl tv rfl rfl rfl rfl e151 (nl rfl) rfl rfl rfl rfl (Kj (Dv ⟨[(4, .ptr 256 0), (6, .ptr 384 0), (7, oI 1152 p44), (8, iV p119)], [(256, (Bq 0 0 (An 259) [])), (384, (Bq (if a1 > a0.clock then a1 else a0.clock) r1.next (An 768) (p45.set p119.toNat (Ab.mk y150.id y150.Be y150.cap true))))], []⟩ (fg ⟨rfl, rfl, rfl, rfl, tv⟩ ⟨rfl, (congrArg (fun z => some (([iV (if a1 > a0.clock then a1 else a0.clock), iV r1.next, .own 768 0 4 z] : List V))) Iu), tv⟩) (Bu 4 (Au (bb h1 fun y152 e153 h1 => st (c_ (Nb (e := At) (y := y152) rfl rfl tv rfl rfl tv e153) (st (c_ (Ay ⟨tv, tv⟩ rfl tv) (bb h1 fun y154 e155 h1 => st (c_ (Fn (e := At) (y := y154) (v := iV y154.id) rfl rfl tv rfl rfl e155 rfl (nl rfl) rfl) (st (Ni ⟨tv, tv⟩ ⟨⟨nl rfl, rfl, rfl⟩, tv⟩ (gg h1 fun c156 h1 => st (Hj (e := eI) (l0 := p44) (l1 := ([y154.id] : List Int)) rfl rfl tv rfl (by decide) c156 (st (Df rfl tv (Kj (aR ?_)))))))))))))))))))))))))
    obtain rfl := Option.some.inj h1
    exact hK1 _ rfl _ _ (Bw (by kernel_rfl)) rfl
  ·rintro ⟨p102, p103⟩ o2 _ K2 rfl h2 hx2 hK2 hE2 hR2
   refine Bu 5 (Au (st (c_ (Sc (e := At) (l0 := p45) rfl rfl tv) (o_ (Br 2 ⟨[(4, .ptr 256 0), (6, .ptr 384 0), (7, oI 1152 p44), (8, iV p102), (9, iV p103), (23, .bool (decide (p103 < (p45.length : Int))))], [(256, (Bq 0 0 (An 259) [])), (384, (Bq (if a1 > a0.clock then a1 else a0.clock) r1.next (An 768) p45))], []⟩ (Dm h2 (fun oR h2 => ?_) (fun oR h2 => ?_)))))))
   ·refine Uv 3 (Np (fun S => ∃ p132 : Int, S = ⟨[(4, .ptr 256 0), (6, .ptr 384 0), (7, oI 1152 p44), (8, iV p132), (9, iV p103)], [(256, (Bq 0 0 (An 259) [])), (384, (Bq (if a1 > a0.clock then a1 else a0.clock) r1.next (An 768) p45))], []⟩ ∧ Un p103 p132 = some o2) ?_ (fun J133 => ?_))
    ·rintro _ ⟨p132, rfl, h2⟩
     refine Bu 5 ?_
     obtain rfl := Option.some.inj h2
     exact hK2 _ rfl _ _ (Bw (by kernel_rfl)) rfl
    ·refine Bz ?_
     refine Bu 3 (Au (bb h2 fun y134 e135 h2 => st (c_ (Nb (e := At) (y := y134) rfl rfl tv rfl rfl tv e135) (bb h2 fun y136 e137 h2 => st (c_ (v := .agg (At y136)) (Fn (e := At) (y := y136) (v := .agg (At y136)) rfl rfl tv rfl rfl e137 rfl (nl rfl) rfl) (o_ (Br 3 ⟨[(4, .ptr 256 0), (6, .ptr 384 0), (7, oI 1152 p44), (8, iV p102), (9, iV p103), (10, .ptr 640 0)], [(256, (Bq 0 0 (An 259) [])), (384, (Bq (if a1 > a0.clock then a1 else a0.clock) r1.next (An 768) p45)), (640, At y136)], []⟩ (Bz ?_))))))))
     obtain ⟨y138, e139, h2⟩ := bnd h2
     refine bb h2 fun y140 e141 h2 => Bu 4 (Dh (Ak tv (Da (u := .ptr 640 1) rfl (fun hg => (Ay ⟨tv, tv⟩ rfl tv)) (⟨tv, (Ak tv (Da (u := iV y136.Be) rfl (fun hg => (Ay ⟨(fun _ => hg), tv⟩ rfl (nl rfl))) (⟨tv, (Ak tv (Da (u := .ptr 384 0) rfl (fun hg => (Ay ⟨tv, tv⟩ rfl tv)) (⟨tv, (Ak tv (Da (u := iV (if a1 > a0.clock then a1 else a0.clock)) rfl (fun hg => (Ay ⟨(fun _ => hg), tv⟩ rfl (nl rfl))) (⟨tv, (Ak tv (Da (u := .bool (decide (y136.Be ≤ (if a1 > a0.clock then a1 else a0.clock)))) rfl (fun hg => (Ay ⟨(fun _ => hg), (fun _ => hg), tv⟩ rfl tv)) (⟨tv, (Ak tv (Ey rfl rfl rfl (fun h => dH h) tv rfl (⟨tv, (Ak tv (Df rfl tv (⟨tv, (Ak tv (Da (u := iV p102) rfl (fun hg => (Gs (v := iV p102) rfl tv)) (⟨tv, (Ak tv (Da (u := .bool (decide (p102 < 0))) rfl (fun hg => (Ay ⟨(fun _ => hg), tv, tv⟩ rfl tv)) (⟨tv, (Ak tv (Da (u := .bool (decide (p102 < 0))) rfl (fun hg => (Gs (v := .may ((bif (!y136.Bt) then (decide (y136.Be ≤ (if a1 > a0.clock then a1 else a0.clock))) else false) == true) (.bool (decide (p102 < 0)))) rfl (fun _ => hg))) (⟨tv, (Ak tv (Da (u := .ptr 640 1) rfl (fun hg => (Ay ⟨tv, tv⟩ rfl tv)) (⟨tv, ?_⟩)))⟩)))⟩)))⟩)))⟩)))⟩)))⟩)))⟩)))⟩)))⟩)))⟩))))
     refine Ak tv (Da (u := iV y136.Be) rfl (fun hg => (Ay ⟨(fun _ => hg), tv⟩ rfl (nl rfl))) (⟨tv, (Ak tv (Da (u := .ptr 384 2) rfl (fun hg => (Ay ⟨tv, tv⟩ rfl tv)) (⟨tv, (Ak tv (Da (u := Es 768 p45) rfl (fun hg => (Ay ⟨(fun _ => hg), tv⟩ rfl (nl rfl))) (⟨tv, (Ak tv (Da (u := iV p102) rfl (fun hg => (Gs (v := iV p102) rfl tv)) (⟨tv, (Ak tv (Da (u := .optr 768 4 (0 + p102.toNat) 0) rfl (fun hg => (Nb (e := At) (y := y138) rfl rfl (fun _ => hg) rfl rfl (fun _ => hg) (ip hg e139))) (⟨tv, (Ak tv (Da (u := .optr 768 4 (0 + p102.toNat) 1) rfl (fun hg => (Ay ⟨(fun _ => hg), tv⟩ rfl tv)) (⟨tv, (vQ (Da (u := iV y140.Be) rfl (fun hg => (Fn (e := At) (y := y140) (v := iV y140.Be) rfl rfl (fun _ => hg) rfl rfl (ip hg e141) rfl (nl rfl) rfl)) (⟨⟨(Jn (v := iV y140.Be) rfl (fun hg => (Fn (e := At) (y := y140) (v := iV y140.Be) rfl rfl (fun _ => hg) rfl rfl (ip hg e141) rfl (nl rfl) rfl)) rfl), tv⟩, (Ak tv (Da (u := .bool (decide (y136.Be < y140.Be))) rfl (fun hg => (Ay ⟨(fun _ => hg), (fun _ => hg), tv⟩ rfl tv)) (⟨⟨(Jn (v := iV y140.Be) rfl (fun hg => (Fn (e := At) (y := y140) (v := iV y140.Be) rfl rfl (fun _ => hg) rfl rfl (ip hg e141) rfl (nl rfl) rfl)) rfl), tv⟩, (Ak tv (Ke (u := .bool (bif (decide (p102 < 0)) then true else (decide (y136.Be < y140.Be)))) rfl (fun hg => Qm rfl rfl (fun _ => hg) rfl rfl tv (fun h => Bs hg (dG h)) rfl) (⟨⟨(Jn (v := iV y140.Be) rfl (fun hg => (Fn (e := At) (y := y140) (v := iV y140.Be) rfl rfl (fun _ => hg) rfl rfl (ip hg e141) rfl (nl rfl) rfl)) rfl), tv⟩, (Ak tv (Ey rfl rfl rfl (fun h => dH h) tv rfl (⟨⟨(Jn (v := iV y140.Be) rfl (fun hg => (Fn (e := At) (y := y140) (v := iV y140.Be) rfl rfl (fun _ => hg) rfl rfl (ip hg e141) rfl (nl rfl) rfl)) rfl), tv⟩, (Nt (bv h2 fun v142 e143 h2 => Dv ⟨[(4, .ptr 256 0), (6, .ptr 384 0), (7, oI 1152 p44), (8, iV p102), (9, iV p103), (55, .bool v142)], [(256, (Bq 0 0 (An 259) [])), (384, (Bq (if a1 > a0.clock then a1 else a0.clock) r1.next (An 768) p45))], []⟩ (Bw (by subst e143; kernel_rfl)) (Dm h2 (fun gG h2 => ?_) (fun gG h2 => ?_))))⟩)))⟩)))⟩)))⟩)))⟩)))⟩)))⟩)))⟩)))⟩)))⟩))
     ·refine Bu 4 ?_
      exact J133 _ _ (Bw (by kernel_rfl)) ⟨_, rfl, h2⟩
     ·refine Nj (aR ?_)
      exact J133 _ _ (Bw (by kernel_rfl)) ⟨_, rfl, h2⟩
   ·obtain rfl := Option.some.inj h2
    obtain rfl := hx2 _ rfl
    refine Nc rfl ?_
    exact hE2 _ _ (Bw (by kernel_rfl)) ⟨_, rfl, rfl⟩

/- loop.example/g00149/spec.l09Copy -/
def BG := [X_ 1 0, a_ 2 [(iV 0), (iV 0), (.own 131 0 4 []), (.own 132 0 2 []), (.own 133 0 1 []), (.bool false)]]
def BH := [f_ 3 1 0, L_ 4 3 3, q_ 5 111 [(.t 4)], f_ 6 1 0, s_ 6 5 3]
def BI : List Ch := [⟨some 7, .mkS 2 [(iV 0), (.bool false)] 0 [], none⟩, f_ 8 1 3, l_ 9 8 1, ⟨some 10, .app 2 16 (.t 7) (.t 9), none⟩, f_ 11 1 3, s_ 11 10 1]
def BJ : List Ch := [⟨some 12, .mkS 1 [(iV 0)] 0 [], none⟩, f_ 13 1 4, l_ 14 13 1, ⟨some 15, .app 1 8 (.t 12) (.t 14), none⟩, f_ 16 1 4, s_ 16 15 1]
def BK := [L_ 17 1 6, s_ 2 17 6]
def BF : El := { np := 1, nt := 18, res := [.cell 2 6 true], body := (.seq (.reg BG) (.seq (.reg BH) (.seq (.reg BI) (.seq (.reg BJ) (.seq (.reg BK) .ret))))) }
def jI (D : Bc) : Prop := ∀ (a0 : Ag) (r : Ag), Yh a0 = some r → D 102 ⟨[.agg (Ah a0)], []⟩ ⟨.agg (By r (An 0) (An 1) (An 2)), [], []⟩
theorem F102 {C : Bc} (H111 : jJ C) : jI (fun _ => Cp C BF) := by
 intro a0 r h0
 refine Fe (nl rfl) (Br 4 ⟨[(1, .ptr 64 0), (2, .ptr 128 0)], [(64, Ah a0), (128, (Aj 0 0 (An 131) [] (An 132) [] (An 133) [] false))], []⟩ (Bu 3 (Au (bb h0 fun r1 e2 h0 => dE (H111 a0.Ac r1 e2) (Bs rfl (Bs rfl (Bs (Hr (fun _ => rfl)) rfl))) (o_ (Br 3 ⟨[(1, .ptr 64 0), (2, .ptr 128 0)], [(64, (Aj r1.clock r1.next (An 320) r1.Ad u_ a0.Aa u_ a0.Ae a0.Al)), (128, (Aj 0 0 (An 131) [] (An 132) [] (An 133) [] false))], []⟩ (Bu 4 (Au (gg h0 fun c3 h0 => st (Hj (e := Bi) (l0 := ([] : List Af)) (l1 := a0.Aa) rfl rfl tv rfl (by decide) c3 (o_ (Br 3 ⟨[(1, .ptr 64 0), (2, .ptr 128 0)], [(64, (Aj r1.clock r1.next (An 320) r1.Ad (An 448) (([] : List Af) ++ a0.Aa) u_ a0.Ae a0.Al)), (128, (Aj 0 0 (An 131) [] (An 132) [] (An 133) [] false))], []⟩ (Bu 4 (Au (gg h0 fun c4 h0 => st (Hj (e := eI) (l0 := ([] : List Int)) (l1 := a0.Ae) rfl rfl tv rfl (by decide) c4 (o_ ?_)))))))))))))))))
 obtain rfl := Option.some.inj h0
 exact Dr 9

/- loop.example/g00149/spec.l08Grant -/
def AaI := [X_ 3 0, a_ 6 [(iV 0), (iV 0), (.own 387 0 4 [])], i_ 7 0, i_ 8 0]
def AaJ := [m_ 11 1, B_ .lss 12 11 1, m_ 13 12, pF 13 14 (.mv (.t 2)), pF 13 15 (.mv (.t 1)), pF 13 16 (.bin .lss (.t 14) (.t 15)), pk 17 (.t 13) (.c (.bool true)) (.t 16), m_ 10 17]
def AaK := [L_ 18 3 3, s_ 6 18 3, i_ 7 0, i_ 8 4]
def AaL := [f_ 20 3 0, l_ 21 20 1, B_ .eql 22 21 9223372036854775807, m_ 19 22]
def AaM := [L_ 23 3 3, s_ 6 23 3, i_ 7 0, i_ 8 11]
def AaN := [f_ 25 3 2, l_ 26 25 1, n_ 27 26, B_ .eql 28 27 40, m_ 29 28, pF 29 30 (.fieldA (.t 3) 1), pF 29 31 (.load (.t 30) 1 false), pF 29 32 (.bin .eql (.t 31) (.c (iV 1000000))), pk 33 (.t 29) (.c (.bool true)) (.t 32), m_ 24 33]
def AaO := [L_ 34 3 3, s_ 6 34 3, i_ 7 0, i_ 8 9]
def AaP := [L_ 35 3 3, q_ 36 111 [(.t 35)], a_ 9 [(iV 0), (iV 0), (.own 579 0 4 [])], s_ 9 36 3]
def AaQ := tk [f_ 37 9 2, l_ 38 37 1, f_ 39 3 1, l_ 40 39 1, f_ 41 3 0, l_ 42 41 1, m_ 43 1, f_ 45 3 0, l_ 46 45 1, m_ 47 2] (.alt [m_ 47 2, l_ 46 45 1, f_ 45 3 0, l_ 40 39 1, f_ 39 3 1, l_ 38 37 1, f_ 37 9 2] (q_ 44 53 [(.t 42), (.t 43)]) (.alt [l_ 40 39 1, f_ 39 3 1, l_ 38 37 1, f_ 37 9 2] (q_ 48 53 [(.t 46), (.t 47)]) (tk [⟨some 49, .p (.build [(iV 0), (iV 0), (iV 0), (.bool false)] [(0, 1, (.t 40)), (1, 1, (.t 44)), (2, 1, (.t 48))]), none⟩] (.alt [l_ 38 37 1, f_ 37 9 2] ⟨some 50, .mkS 4 [(iV 0), (iV 0), (iV 0), (.bool false)] 1 [(0, (.t 49))], none⟩ (.alt [] ⟨some 51, .app 4 32 (.t 38) (.t 50), none⟩ (tk [f_ 52 9 2] (.alt [] (s_ 52 51 1) .fin .stop)) .stop) .stop)) .stop) .stop)
def AaR := [f_ 53 9 1, l_ 54 53 1, B_ .add 55 54 1, f_ 56 9 1, s_ 56 55 1]
def PT := tk [L_ 57 9 3, f_ 58 3 1, l_ 59 58 1] (.alt [l_ 59 58 1, f_ 58 3 1] (s_ 6 57 3) (tk [m_ 7 59, i_ 8 0] .fin) .stop)
def c70 : El := { np := 3, nt := 60, res := [.cell 6 3 true, .t 7, .t 8], body := (.seq (.reg AaI) (.seq (.block 0 (.seq (.reg AaJ) (.ite (.t 10) (.seq (.reg AaK) .ret) (.seq (.reg AaL) (.ite (.t 19) (.seq (.reg AaM) .ret) (.seq (.reg AaN) (.ite (.t 24) (.seq (.reg AaO) .ret) .skip))))))) (.seq (.reg AaP) (.seq (.draw AaQ) (.seq (.reg AaR) (.seq (.draw PT) .ret)))))) }
def K70 (D : Bc) : Prop := ∀ (a0 : Ai) (a1 : Int) (a2 : Int) (r : Ai × Int × Int), g70 a0 a1 a2 = some r → D 70 ⟨[.agg (Aw a0), iV a1, iV a2], []⟩ ⟨.tup [.agg (Aw r.1), iV r.2.1, iV r.2.2], [], []⟩
theorem F70 {C : Bc} (H53 : K53 C) (H111 : jJ C) : K70 (fun _ => Cp C c70) := by
 intro a0 a1 a2 r h0
 refine Fe (nl rfl) (SZ 19 ⟨[(1, iV a1), (2, iV a2), (3, .ptr 192 0), (6, .ptr 384 0), (10, .bool (bif (decide (a1 < 1)) then true else (decide (a2 < a1))))], [(192, Aw a0), (384, (Bq 0 0 (An 387) []))], []⟩ (Dm h0 (fun c1 h0 => ?_) (fun c1 h0 => ?_)))
 ·obtain rfl := Option.some.inj h0
  exact Dr 7
 ·refine Br 6 ⟨[(1, iV a1), (2, iV a2), (3, .ptr 192 0), (6, .ptr 384 0), (19, .bool (a0.clock == 9223372036854775807))], [(192, Aw a0), (384, (Bq 0 0 (An 387) []))], []⟩ (Dm h0 (fun c2 h0 => ?_) (fun c2 h0 => ?_))
  ·obtain rfl := Option.some.inj h0
   exact Dr 7
  ·refine Bu 3 (Au (st (c_ (Cn (e := At) (l0 := a0.Ad) rfl rfl tv) (o_ (Lh 8 (bv h0 fun v3 e4 h0 => Dv ⟨[(1, iV a1), (2, iV a2), (3, .ptr 192 0), (6, .ptr 384 0), (24, .bool v3)], [(192, Aw a0), (384, (Bq 0 0 (An 387) []))], []⟩ (Bw (by subst e4; kernel_rfl)) (Dm h0 (fun c5 h0 => ?_) (fun c5 h0 => ?_))))))))
   ·obtain rfl := Option.some.inj h0
    exact Dr 7
   ·refine Bu 5 (Au (bb h0 fun r6 e7 h0 => dE (H111 a0 r6 e7) (Bs rfl (Bs rfl (Bs (Hr (fun _ => rfl)) rfl))) (o_ (Br 3 ⟨[(1, iV a1), (2, iV a2), (3, .ptr 192 0), (6, .ptr 384 0), (9, .ptr 576 0)], [(192, Aw a0), (384, (Bq 0 0 (An 387) [])), (576, Ky r6 (An 2304))], []⟩ (Bz ?_)))))
    obtain ⟨r8, e9, h0⟩ := bnd h0
    obtain ⟨r10, e11, h0⟩ := bnd h0
    refine gg h0 fun c12 h0 => Bu 10 (Dh (Ci (Bv (r := iV r8) false (H53 a0.clock a1 r8 e9) ⟨tv, tv, tv⟩ rfl rfl (fun _ => rfl) (Jf ⟨[(2, iV a2), (3, .ptr 192 0), (6, .ptr 384 0), (9, .ptr 576 0), (37, .ptr 576 2), (38, Es 2304 r6.Ad), (39, .ptr 192 1), (40, iV a0.next), (44, iV r8), (45, .ptr 192 0), (46, iV a0.clock), (47, iV a2)], [(192, Aw a0), (384, (Bq 0 0 (An 387) [])), (576, Ky r6 (An 2304))], []⟩ (Bw (by kernel_rfl)) ⟨[], ⟨⟨.inl tv, (Ao (Gs (v := iV a2) rfl tv) rfl)⟩, ⟨.inl tv, (Ao (Ay ⟨tv, tv⟩ rfl (nl rfl)) rfl)⟩, ⟨.inl tv, (Ao (Ay ⟨tv, tv⟩ rfl tv) rfl)⟩, ⟨.inl tv, (Ao (Ay ⟨tv, tv⟩ rfl (nl rfl)) rfl)⟩, ⟨.inl tv, (Ao (Ay ⟨tv, tv⟩ rfl tv) rfl)⟩, ⟨.inl tv, (Ao (Ay ⟨tv, tv⟩ rfl (nl rfl)) rfl)⟩, ⟨.inl tv, (Ao (Ay ⟨tv, tv⟩ rfl tv) rfl)⟩, tv⟩, tv, (Ci (Bv (r := iV r10) false (H53 a0.clock a2 r10 e11) ⟨tv, tv, tv⟩ rfl rfl (fun _ => rfl) (Jf ⟨[(3, .ptr 192 0), (6, .ptr 384 0), (9, .ptr 576 0), (37, .ptr 576 2), (38, Es 2304 r6.Ad), (39, .ptr 192 1), (40, iV a0.next), (44, iV r8), (48, iV r10)], [(192, Aw a0), (384, (Bq 0 0 (An 387) [])), (576, Ky r6 (An 2304))], []⟩ (Bw (by kernel_rfl)) ⟨[], ⟨⟨.inl tv, (Ao (Ay ⟨tv, tv⟩ rfl (nl rfl)) rfl)⟩, ⟨.inl tv, (Ao (Ay ⟨tv, tv⟩ rfl tv) rfl)⟩, ⟨.inl tv, (Ao (Ay ⟨tv, tv⟩ rfl (nl rfl)) rfl)⟩, ⟨.inl tv, (Ao (Ay ⟨tv, tv⟩ rfl tv) rfl)⟩, tv⟩, tv, (Ak tv (c_ (v := .agg (mL a0.next r8 r10 false)) (Ay ⟨tv, tv, tv, tv⟩ rfl ⟨⟨rfl, rfl, nl rfl⟩, ⟨rfl, rfl, nl rfl⟩, ⟨rfl, rfl, nl rfl⟩, tv⟩) (⟨tv, (Ci (Ni ⟨tv, tv⟩ ⟨⟨nl rfl, rfl, rfl⟩, tv⟩ (Jr ⟨[], ⟨⟨.inl tv, (Ao (Ay ⟨tv, tv⟩ rfl (nl rfl)) rfl)⟩, ⟨.inl tv, (Ao (Ay ⟨tv, tv⟩ rfl tv) rfl)⟩, tv⟩, tv, (Ci (Hj (e := At) (l0 := r6.Ad) (l1 := ([(Ab.mk a0.next r8 r10 false)] : List Ab)) rfl rfl tv rfl (by decide) c12 (Jr ⟨[], tv, tv, ?_⟩)) Bp)⟩)) Bp)⟩)))⟩)) Bp)⟩)) Bp))
    refine Ak tv (c_ (Ay ⟨tv, tv⟩ rfl tv) (⟨tv, (Ci (Ia rfl rfl tv rfl rfl rfl (nl rfl) (Jr ⟨[], tv, tv, (d_ (Br 9 ⟨[(3, .ptr 192 0), (6, .ptr 384 0), (9, .ptr 576 0)], [(192, Aw a0), (384, (Bq 0 0 (An 387) [])), (576, [iV r6.clock, iV (IntKind.i64.wrap (r6.next + 1)), Es 2304 (r6.Ad ++ ([(Ab.mk a0.next r8 r10 false)] : List Ab))])], []⟩ (Bu 4 (Dh (Ci (Ia rfl rfl tv rfl rfl rfl (nl rfl) (Jr ⟨[], ⟨⟨.inl tv, (Ao (Ay ⟨tv, tv⟩ rfl (nl rfl)) rfl)⟩, ⟨.inl tv, (Ao (Ay ⟨tv, tv⟩ rfl tv) rfl)⟩, tv⟩, tv, (d_ (rz_ 3 [2304] [] ⟨[(6, .ptr 384 0), (7, iV a0.next), (8, iV 0)], [(384, [iV r6.clock, iV (IntKind.i64.wrap (r6.next + 1)), Bl (r6.Ad ++ ([(Ab.mk a0.next r8 r10 false)] : List Ab))])], []⟩ ?_))⟩)) Bp)))))⟩)) Bp)⟩))
    obtain rfl := Option.some.inj h0
    exact cL (Mb rfl rfl rfl rfl rfl tv)

/- loop.example/g00149/spec.l09Call -/
def AbR : List Ch := [⟨some 8, .nilS 1, none⟩, i_ 9 0]
def AbS := [m_ 13 3, B_ .eql 14 13 1]
def AbT := [m_ 15 0, m_ 8 15, i_ 9 13]
def AbU : List Ch := [⟨some 16, .mkS 1 [(iV 0)] 0 [], none⟩, m_ 10 16]
def AbV := [i_ 11 0]
def AbW := [m_ 17 11, m_ 18 0, n_ 19 18, b_ .lss 20 17 19, m_ 21 20, pT 21 22 (.mv (.t 0)), pT 21 23 (.mv (.t 11)), pT 21 24 (.idxA (.t 22) (.t 23) 1), pT 21 25 (.load (.t 24) 1 false), pT 21 26 (.mv (.t 1)), pT 21 27 (.bin .lss (.t 25) (.t 26)), pk 28 (.t 21) (.t 27) (.c (.bool false))]
def AbX : List Ch := [m_ 31 10, m_ 32 0, m_ 33 11, x_ 34 32 33 1, l_ 35 34 1, ⟨some 36, .mkS 1 [(iV 0)] 1 [(0, (.t 35))], none⟩, ⟨some 37, .app 1 8 (.t 31) (.t 36), none⟩, m_ 10 37]
def AbY := [m_ 29 11, B_ .add 30 29 1, m_ 11 30]
def AbQ : IR := (.seq (.seq (.reg AbW) (.ite (.t 28) .skip (.exit 0))) (.seq (.block 1 (.reg AbX)) (.reg AbY)))
def AbZ := [m_ 38 10, n_ 39 38, m_ 12 39]
def Aca := [m_ 40 2]
def QC : List Ch := [m_ 41 10, m_ 42 1, ⟨some 43, .mkS 1 [(iV 0)] 1 [(0, (.t 42))], none⟩, ⟨some 44, .app 1 8 (.t 41) (.t 43), none⟩, m_ 10 44]
def QD := [m_ 45 12, m_ 46 0, n_ 47 46, b_ .lss 48 45 47, m_ 49 48, pT 49 50 (.mv (.t 0)), pT 49 51 (.mv (.t 12)), pT 49 52 (.idxA (.t 50) (.t 51) 1), pT 49 53 (.load (.t 52) 1 false), pT 49 54 (.mv (.t 1)), pT 49 55 (.bin .eql (.t 53) (.t 54)), pk 56 (.t 49) (.t 55) (.c (.bool false))]
def QE := [m_ 57 12, B_ .add 58 57 1, m_ 12 58]
def QF : List Ch := [m_ 59 10, m_ 60 0, m_ 61 12, ⟨some 62, .p (.slice (.t 60) (some (.t 61)) none 1), none⟩, ⟨some 63, .app 1 8 (.t 59) (.t 62), none⟩, m_ 10 63]
def QG := [m_ 64 3, B_ .eql 65 64 2]
def QH := [m_ 66 10, m_ 8 66, i_ 9 15]
def QI := [m_ 67 10, m_ 8 67, i_ 9 0]
def c86 : El := { np := 4, nt := 68, res := [.t 8, .t 9], body := (.seq (.reg AbR) (.seq (.seq (.reg AbS) (.ite (.t 14) (.seq (.reg AbT) .ret) .skip)) (.seq (.reg AbU) (.seq (.seq (.reg AbV) (.block 0 (.loop AbQ))) (.seq (.reg AbZ) (.seq (.seq (.reg Aca) (.ite (.t 40) (.reg QC) .skip)) (.seq (.seq (.reg QD) (.ite (.t 56) (.reg QE) .skip)) (.seq (.reg QF) (.seq (.seq (.reg QG) (.ite (.t 65) (.seq (.reg QH) .ret) .skip)) (.seq (.reg QI) .ret)))))))))) }
def K86 (D : Bc) : Prop := ∀ (a0 : List Int) (a1 : Int) (a2 : Bool) (a3 : Int) (r : (List Int) × Int), UV a0 a1 a2 a3 = some r → D 86 ⟨[lI a0, iV a1, .bool a2, iV a3], []⟩ ⟨.tup [lI r.1, iV r.2], [], []⟩
theorem F86 {C : Bc} : K86 (fun _ => Cp C c86) := by
 intro a0 a1 a2 a3 r h0
 refine Fe (nl rfl) (Br 10 ⟨[(0, lI a0), (1, iV a1), (2, .bool a2), (3, iV a3), (14, .bool (a3 == 1))], [], []⟩ (Dm h0 (fun c1 h0 => ?_) (fun c1 h0 => ?_)))
 ·obtain rfl := Option.some.inj h0
  exact Dr 6
 ·refine Br 11 ⟨[(0, lI a0), (1, iV a1), (2, .bool a2), (3, iV a3), (10, oI 1024 []), (11, iV 0)], [], []⟩ (Cr (bb h0 fun r31 e32 h0 => Dt (R := (fun S => ∃ p22 : List Int, p22 = r31 ∧ S = ⟨[(0, lI a0), (1, iV a1), (2, .bool a2), (3, iV a3), (10, oI 1024 p22)], [], []⟩)) (Up a0 a1) (fun s S => match s with | (p10, p11) => S = ⟨[(0, lI a0), (1, iV a1), (2, .bool a2), (3, iV a3), (10, oI 1024 p10), (11, iV p11)], [], []⟩) e32 _ (Bw (by kernel_rfl)) rfl 0 (fun _ => rfl) ?_ ?_))
  ·rintro S _ hfg ⟨p22, rfl, rfl⟩
   refine Dv _ hfg (Bz (Au (st (Df rfl tv (st (c_ (Sc (e := eI) (l0 := p22) rfl rfl tv) (o_ (Br 7 ⟨[(0, lI a0), (1, iV a1), (3, iV a3), (10, oI 1024 p22), (12, iV (p22.length : Int)), (40, .bool a2)], [], []⟩ (aX (cb := a2) (fun S => ∃ p35 : List Int, S = ⟨[(0, lI a0), (1, iV a1), (3, iV a3), (10, oI 1024 p35), (12, iV (p22.length : Int))], [], []⟩ ∧ Yu a0 a1 a3 p22 p35 = some r) rfl ?_ (fun c49 J48 => ?_) (fun c49 J48 => ?_))))))))))
   ·rintro _ ⟨p35, rfl, h0⟩
    refine Bu 5 (Au (st (c_ (Cn (e := eI) (l0 := a0) rfl rfl tv) (o_ (Lh 4 (Au (bb h0 fun y36 e37 h0 => st (Da (u := .iptr [iV y36]) rfl (fun hg => (Cj (e := eI) (y := y36) rfl rfl (fun _ => hg) rfl rfl (fun _ => hg) (ip hg e37))) (o_ (Lh 5 (bv h0 fun v38 e39 h0 => Dv ⟨[(0, lI a0), (3, iV a3), (10, oI 1024 p35), (12, iV (p22.length : Int)), (56, .bool v38)], [], []⟩ (Bw (by subst e39; kernel_rfl)) (aX (cb := v38) (fun S => ∃ p41 : Int, S = ⟨[(0, lI a0), (3, iV a3), (10, oI 1024 p35), (12, iV p41)], [], []⟩ ∧ Yv a0 a3 p35 p41 = some r) rfl ?_ (fun c47 J46 => ?_) (fun c47 J46 => ?_)))))))))))))
    ·rintro _ ⟨p41, rfl, h0⟩
     refine Bu 5 (Au (bb h0 fun s42 e43 h0 => st (c_ (Pf (e := eI) (y := s42) rfl rfl tv ⟨tv, tv⟩ rfl rfl e43) (gg h0 fun c44 h0 => st (Hj (e := eI) (l0 := p35) (l1 := s42) rfl rfl tv rfl (by decide) c44 (o_ (Br 8 ⟨[(10, oI 1024 (p35 ++ s42)), (65, .bool (a3 == 2))], [], []⟩ (Dm h0 (fun c45 h0 => ?_) (fun c45 h0 => ?_)))))))))
     ·obtain rfl := Option.some.inj h0
      exact Dr 6 [1024]
     ·obtain rfl := Option.some.inj h0
      exact Dr 8 [1024]
    ·replace h0 := ip c47 h0
     refine Bu 4 ?_
     exact J46 _ _ (Bw (by kernel_rfl)) ⟨_, rfl, h0⟩
    ·replace h0 := wX c47 h0
     refine Nj ?_
     exact J46 _ _ (Bw (by kernel_rfl)) ⟨_, rfl, h0⟩
   ·replace h0 := ip c49 h0
    refine Bu 3 (Au (gg h0 fun UO h0 => st (Hj (e := eI) (l0 := p22) (l1 := ([a1] : List Int)) rfl rfl tv rfl (by decide) UO (st (Df rfl tv (Kj ?_))))))
    exact J48 _ _ (Bw (by kernel_rfl)) ⟨_, rfl, h0⟩
   ·replace h0 := wX c49 h0
    refine Nj ?_
    exact J48 _ _ (Bw (by kernel_rfl)) ⟨_, rfl, h0⟩
  ·rintro ⟨p10, p11⟩ o1 _ K1 rfl h1 hx1 hK1 hE1 hR1
   refine Bu 4 (Au (st (c_ (Cn (e := eI) (l0 := a0) rfl rfl tv) (o_ (Lh 4 (Au (bb h1 fun y23 e24 h1 => st (Da (u := .iptr [iV y23]) rfl (fun hg => (Cj (e := eI) (y := y23) rfl rfl (fun _ => hg) rfl rfl (fun _ => hg) (ip hg e24))) (o_ (Lh 5 (bv h1 fun v25 e26 h1 => Dv ⟨[(0, lI a0), (1, iV a1), (2, .bool a2), (3, iV a3), (10, oI 1024 p10), (11, iV p11), (28, .bool v25)], [], []⟩ (Bw (by subst e26; kernel_rfl)) (Dm h1 (fun c27 h1 => ?_) (fun c27 h1 => ?_)))))))))))))
   ·refine Bu 7 (Au (bb h1 fun y28 e29 h1 => st (c_ (Cj (e := eI) (y := y28) rfl rfl tv rfl rfl tv e29) (o_ (Bu 2 (Au (gg h1 fun c30 h1 => st (Hj (e := eI) (l0 := p10) (l1 := ([y28] : List Int)) rfl rfl tv rfl (by decide) c30 (o_ (Br 3 ⟨[(0, lI a0), (1, iV a1), (2, .bool a2), (3, iV a3), (10, oI 1024 (p10 ++ ([y28] : List Int))), (11, iV p11)], [], []⟩ (Bu 4 ?_)))))))))))
    obtain rfl := Option.some.inj h1
    exact hK1 _ rfl _ _ (Bw (by kernel_rfl)) rfl
   ·obtain rfl := Option.some.inj h1
    obtain rfl := hx1 _ rfl
    refine Nc rfl ?_
    exact hE1 _ _ (Bw (by kernel_rfl)) ⟨_, rfl, rfl⟩

/- loop.example/g00149/spec.l09Recover -/
def GG := [X_ 1 0, a_ 2 [(iV 0), (iV 0), (.own 131 0 4 []), (.own 132 0 2 []), (.own 133 0 1 []), (.bool false)]]
def GH := [L_ 5 1 6, q_ 6 102 [(.t 5)], a_ 3 [(iV 0), (iV 0), (.own 195 0 4 []), (.own 196 0 2 []), (.own 197 0 1 []), (.bool false)], s_ 3 6 6]
def GI := [i_ 4 0]
def GJ := [m_ 7 4, f_ 8 3 3, l_ 9 8 1, n_ 10 9, b_ .lss 11 7 10]
def GK : List Ch := [f_ 14 3 3, l_ 15 14 1, m_ 16 4, x_ 17 15 16 2, f_ 18 17 1, ⟨none, .store (.t 18) (.c (.bool true)) 1, none⟩]
def GL := [m_ 12 4, B_ .add 13 12 1, m_ 4 13]
def GF : IR := (.seq (.seq (.reg GJ) (.ite (.t 11) .skip (.exit 0))) (.seq (.block 1 (.reg GK)) (.reg GL)))
def GM : List Ch := [f_ 19 3 5, ⟨none, .store (.t 19) (.c (.bool true)) 1, none⟩]
def GN := [L_ 20 3 6, s_ 2 20 6]
def oT : El := { np := 1, nt := 21, res := [.cell 2 6 true], body := (.seq (.reg GG) (.seq (.reg GH) (.seq (.seq (.reg GI) (.block 0 (.loop GF))) (.seq (.reg GM) (.seq (.reg GN) .ret))))) }
def rI (D : Bc) : Prop := ∀ (a0 : Ag) (r : Ag), dN a0 = some r → D 133 ⟨[.agg (Ah a0)], []⟩ ⟨.agg (By r (An 0) (An 1) (An 2)), [], []⟩
theorem F133 {C : Bc} (H102 : jI C) : rI (fun _ => Cp C oT) := by
 intro a0 r h0
 refine Fe (nl rfl) (Br 4 ⟨[(1, .ptr 64 0), (2, .ptr 128 0)], [(64, Ah a0), (128, (Aj 0 0 (An 131) [] (An 132) [] (An 133) [] false))], []⟩ (Bu 2 (Au (bb h0 fun r1 e2 h0 => dE (H102 a0 r1 e2) (Bs rfl (Bs rfl (Bs (Hr (fun _ => rfl)) (Bs (Hr (fun _ => rfl)) (Bs (Hr (fun _ => rfl)) (Bs rfl rfl)))))) (o_ (Br 8 ⟨[(2, .ptr 128 0), (3, .ptr 192 0), (4, iV 0)], [(128, (Aj 0 0 (An 131) [] (An 132) [] (An 133) [] false)), (192, By r1 (An 384) (An 385) (An 386))], []⟩ (Cr (bb h0 fun r23 e24 h0 => Dt (R := (fun S => ∃ p17 : List Af, p17 = r23 ∧ S = ⟨[(2, .ptr 128 0), (3, .ptr 192 0)], [(128, (Aj 0 0 (An 131) [] (An 132) [] (An 133) [] false)), (192, (Aj r1.Ac.clock r1.Ac.next (An 384) r1.Ac.Ad (An 385) p17 (An 386) r1.Ae r1.Al))], []⟩)) (Pl) (fun s S => match s with | (p8, p9) => S = ⟨[(2, .ptr 128 0), (3, .ptr 192 0), (4, iV p8)], [(128, (Aj 0 0 (An 131) [] (An 132) [] (An 133) [] false)), (192, (Aj r1.Ac.clock r1.Ac.next (An 384) r1.Ac.Ad (An 385) p9 (An 386) r1.Ae r1.Al))], []⟩) e24 _ (Bw (by kernel_rfl)) rfl 0 (fun _ => rfl) ?_ ?_))))))))
 ·rintro S _ hfg ⟨p17, rfl, rfl⟩
  refine Dv _ hfg ?_
  obtain rfl := Option.some.inj h0
  exact Dr 10
 ·rintro ⟨p8, p9⟩ o1 _ K1 rfl h1 hx1 hK1 hE1 hR1
  refine Bu 5 (Au (st (c_ (Sc (e := Bi) (l0 := p9) rfl rfl tv) (o_ (Br 2 ⟨[(2, .ptr 128 0), (3, .ptr 192 0), (4, iV p8), (11, .bool (decide (p8 < (p9.length : Int))))], [(128, (Aj 0 0 (An 131) [] (An 132) [] (An 133) [] false)), (192, (Aj r1.Ac.clock r1.Ac.next (An 384) r1.Ac.Ad (An 385) p9 (An 386) r1.Ae r1.Al))], []⟩ (Dm h1 (fun rG h1 => ?_) (fun rG h1 => ?_)))))))
  ·refine Bu 7 (Au (bb h1 fun y19 e20 h1 => st (c_ (Nb (e := Bi) (y := y19) rfl rfl tv rfl rfl tv e20) (st (c_ (Ay ⟨tv, tv⟩ rfl tv) (bb h1 fun y21 e22 h1 => st (yU (y' := (Af.mk y21.Av true)) rfl rfl tv rfl rfl rfl rfl e22 (nl rfl) rfl rfl rfl rfl (Kj (aR (Dv ⟨[(2, .ptr 128 0), (3, .ptr 192 0), (4, iV p8)], [(128, (Aj 0 0 (An 131) [] (An 132) [] (An 133) [] false)), (192, (Aj r1.Ac.clock r1.Ac.next (An 384) r1.Ac.Ad (An 385) (p9.set p8.toNat (Af.mk y21.Av true)) (An 386) r1.Ae r1.Al))], []⟩ (fg ⟨rfl, rfl, rfl, tv⟩ ⟨rfl, (congrArg (fun z => some (([iV r1.Ac.clock, iV r1.Ac.next, Es 384 r1.Ac.Ad, .own 385 0 2 z, oI 386 r1.Ae, .bool r1.Al] : List V))) Iu), tv⟩) (Bu 4 ?_)))))))))))
   obtain rfl := Option.some.inj h1
   exact hK1 _ rfl _ _ (Bw (by kernel_rfl)) rfl
  ·obtain rfl := Option.some.inj h1
   obtain rfl := hx1 _ rfl
   refine Nc rfl ?_
   exact hE1 _ _ (Bw (by kernel_rfl)) ⟨_, rfl, rfl⟩

/- loop.example/g00149/spec.l09Fate -/
def IH := [X_ 2 0, i_ 4 0]
def II := [m_ 5 1, f_ 6 2 5, l_ 7 6 1, n_ 8 7, b_ .lss 9 5 8]
def IJ := [f_ 10 2 5, l_ 11 10 1, m_ 12 1, x_ 13 11 12 1, l_ 14 13 1, m_ 4 14]
def IK := [i_ 4 0]
def IG : El := { np := 2, nt := 15, res := [.t 4], body := (.seq (.reg IH) (.seq (.seq (.reg II) (.ite (.t 9) (.seq (.reg IJ) .ret) .skip)) (.seq (.reg IK) .ret))) }
def AE (D : Bc) : Prop := ∀ (a0 : Am) (a1 : Int) (r : Int), kD a0 a1 = some r → D 145 ⟨[.agg (Ar a0), iV a1], []⟩ ⟨iV r, [], []⟩
theorem F145 {C : Bc} : AE (fun _ => Cp C IG) := by
 intro a0 a1 r h0
 refine Fe (nl rfl) (Br 4 ⟨[(1, iV a1), (2, .ptr 128 0)], [(128, Ar a0)], []⟩ (Bu 5 (Au (st (c_ (Cn (e := eI) (l0 := a0.Dd) rfl rfl tv) (o_ (Br 2 ⟨[(1, iV a1), (2, .ptr 128 0), (9, .bool (decide (a1 < (a0.Dd.length : Int))))], [(128, Ar a0)], []⟩ (Dm h0 (fun c1 h0 => ?_) (fun c1 h0 => ?_)))))))))
 ·refine Bu 4 (Au (bb h0 fun y2 e3 h0 => st (c_ (Cj (e := eI) (y := y2) rfl rfl tv rfl rfl tv e3) (o_ ?_))))
  obtain rfl := Option.some.inj h0
  exact Dr 4
 ·obtain rfl := Option.some.inj h0
  exact Dr 6

/- loop.example/g00149/spec.l09Issue -/
def FV := [X_ 2 0, X_ 3 1, a_ 4 [(iV 0), (iV 0), (.own 259 0 4 []), (.own 260 0 2 []), (.own 261 0 1 []), (.bool false)], a_ 5 [(iV 0), (iV 0)]]
def FW := [f_ 11 2 0, L_ 12 11 3, f_ 13 3 2, l_ 14 13 1, f_ 15 3 3, l_ 16 15 1, q_ 17 70 [(.t 12), (.t 14), (.t 16)], m_ 10 17, e_ 18 10 0, e_ 19 10 1, e_ 20 10 2, a_ 6 [(iV 0), (iV 0), (.own 387 0 4 [])], s_ 6 18 3, m_ 7 19, m_ 8 20]
def FX := [m_ 21 8, B_ .eql 22 21 0, m_ 23 22, pT 23 24 (.fieldA (.t 2) 3), pT 23 25 (.load (.t 24) 1 false), pT 23 26 (.len (.t 25)), pT 23 27 (.bin .eql (.t 26) (.c (iV 40))), pk 28 (.t 23) (.t 27) (.c (.bool false))]
def FY := [i_ 8 9]
def FZ := [m_ 29 8, B_ .neq 30 29 0]
def GA : List Ch := [L_ 31 2 6, m_ 32 8, ⟨some 33, .p (.build [(iV 0), (iV 0)] [(0, 1, (.t 32))]), none⟩, s_ 4 31 6, s_ 5 33 2]
def GB := [L_ 34 2 6, q_ 35 102 [(.t 34)], a_ 9 [(iV 0), (iV 0), (.own 579 0 4 []), (.own 580 0 2 []), (.own 581 0 1 []), (.bool false)], s_ 9 35 6]
def GC := [f_ 36 6 1, l_ 37 36 1, f_ 38 9 0, f_ 39 38 1, s_ 39 37 1]
def GD : List Ch := [f_ 40 9 3, l_ 41 40 1, m_ 42 7, ⟨some 43, .p (.build [(iV 0), (.bool false)] [(0, 1, (.t 42))]), none⟩, ⟨some 44, .mkS 2 [(iV 0), (.bool false)] 1 [(0, (.t 43))], none⟩, ⟨some 45, .app 2 16 (.t 41) (.t 44), none⟩, f_ 46 9 3, s_ 46 45 1]
def GE := [f_ 47 3 6, l_ 48 47 1, B_ .eql 49 48 1]
def sX : List Ch := [L_ 50 9 6, q_ 51 133 [(.t 50)], ⟨some 52, .p (.build [(iV 0), (iV 0)] [(0, 1, (.c (iV 15)))]), none⟩, s_ 4 51 6, s_ 5 52 2]
def sY := tk [f_ 54 9 4, l_ 55 54 1, m_ 56 7, L_ 57 3 7] (.alt [m_ 56 7, l_ 55 54 1, f_ 54 9 4] (q_ 58 145 [(.t 57), (.c (iV 0))]) (.alt [] (q_ 59 86 [(.t 55), (.t 56), (.c (.bool true)), (.t 58)]) (tk [m_ 53 59, e_ 60 53 0, e_ 61 53 1, f_ 62 9 4] (.alt [e_ 61 53 1] (s_ 62 60 1) (tk [m_ 8 61] .fin) .stop)) .stop) .stop)
def sZ := [f_ 63 3 6, l_ 64 63 1, B_ .eql 65 64 2]
def tA : List Ch := [L_ 66 9 6, q_ 67 133 [(.t 66)], ⟨some 68, .p (.build [(iV 0), (iV 0)] [(0, 1, (.c (iV 15)))]), none⟩, s_ 4 67 6, s_ 5 68 2]
def tB := [m_ 69 8, B_ .neq 70 69 0]
def tC : List Ch := [f_ 71 9 3, l_ 72 71 1, f_ 73 9 3, l_ 74 73 1, n_ 75 74, B_ .sub 76 75 1, x_ 77 72 76 2, f_ 78 77 1, ⟨none, .store (.t 78) (.c (.bool true)) 1, none⟩]
def tD : List Ch := [L_ 79 9 6, m_ 80 8, ⟨some 81, .p (.build [(iV 0), (iV 0)] [(0, 1, (.t 80))]), none⟩, s_ 4 79 6, s_ 5 81 2]
def tE : List Ch := [f_ 82 9 3, l_ 83 82 1, f_ 84 9 3, l_ 85 84 1, n_ 86 85, B_ .sub 87 86 1, ⟨some 88, .p (.slice (.t 83) none (some (.t 87)) 2), none⟩, f_ 89 9 3, s_ 89 88 1]
def tF := [L_ 90 6 3, f_ 91 9 0, s_ 91 90 3]
def tG : List Ch := [L_ 92 9 6, m_ 93 7, ⟨some 94, .p (.build [(iV 0), (iV 0)] [(1, 1, (.t 93))]), none⟩, s_ 4 92 6, s_ 5 94 2]
def oS : El := { np := 2, nt := 95, res := [.cell 4 6 true, .cell 5 2 true], body := (.seq (.reg FV) (.seq (.reg FW) (.seq (.seq (.reg FX) (.ite (.t 28) (.reg FY) .skip)) (.seq (.seq (.reg FZ) (.ite (.t 30) (.seq (.reg GA) .ret) .skip)) (.seq (.reg GB) (.seq (.reg GC) (.seq (.reg GD) (.seq (.seq (.reg GE) (.ite (.t 49) (.seq (.reg sX) .ret) .skip)) (.seq (.draw sY) (.seq (.seq (.reg sZ) (.ite (.t 65) (.seq (.reg tA) .ret) .skip)) (.seq (.seq (.reg tB) (.ite (.t 70) (.seq (.reg tC) (.seq (.reg tD) .ret)) .skip)) (.seq (.reg tE) (.seq (.reg tF) (.seq (.reg tG) .ret)))))))))))))) }
def WC (D : Bc) : Prop := ∀ (a0 : Ag) (a1 : Am) (r : Ag × Aq), RG a0 a1 = some r → D 132 ⟨[.agg (Ah a0), .agg (Ar a1)], []⟩ ⟨.tup [.agg (Ah r.1), .agg (Bx r.2)], [], []⟩
theorem F132 {C : Bc} (H70 : K70 C) (H86 : K86 C) (H102 : jI C) (H133 : rI C) (H145 : AE C) : WC (fun _ => Cp C oS) := by
 intro a0 a1 r h0
 refine Fe (nl rfl) (Br 6 ⟨[(2, .ptr 128 0), (3, .ptr 192 0), (4, .ptr 256 0), (5, .ptr 320 0)], [(128, Ah a0), (192, Ar a1), (256, (Aj 0 0 (An 259) [] (An 260) [] (An 261) [] false)), (320, [iV 0, iV 0])], []⟩ (Bu 7 (Au (bb h0 fun r1 e2 h0 => st (Bv (r := .tup [.agg (Aw r1.1), iV r1.2.1, iV r1.2.2]) true (H70 a0.Ac a1.ttl a1.Gw r1 e2) ⟨tv, tv, tv, tv⟩ rfl rfl (fun h => nomatch h) (o_ (Br 9 ⟨[(2, .ptr 128 0), (3, .ptr 192 0), (4, .ptr 256 0), (5, .ptr 320 0), (6, .ptr 384 0), (7, iV r1.2.1), (8, iV r1.2.2)], [(128, Ah a0), (192, Ar a1), (256, (Aj 0 0 (An 259) [] (An 260) [] (An 261) [] false)), (320, [iV 0, iV 0]), (384, Aw r1.1)], []⟩ (Lh 7 (Au (st (Da (u := iV (a0.Aa.length : Int)) rfl (fun hg => (Cn (e := Bi) (l0 := a0.Aa) rfl rfl (fun _ => hg))) (o_ (SZ 3 ⟨[(2, .ptr 128 0), (3, .ptr 192 0), (4, .ptr 256 0), (5, .ptr 320 0), (6, .ptr 384 0), (7, iV r1.2.1), (8, iV r1.2.2), (28, .bool (bif (r1.2.2 == 0) then ((a0.Aa.length : Int) == 40) else false))], [(128, Ah a0), (192, Ar a1), (256, (Aj 0 0 (An 259) [] (An 260) [] (An 261) [] false)), (320, [iV 0, iV 0]), (384, Aw r1.1)], []⟩ (aX (cb := (bif (r1.2.2 == 0) then ((a0.Aa.length : Int) == 40) else false)) (fun S => ∃ p4 : Int, S = ⟨[(2, .ptr 128 0), (3, .ptr 192 0), (4, .ptr 256 0), (5, .ptr 320 0), (6, .ptr 384 0), (7, iV r1.2.1), (8, iV p4)], [(128, Ah a0), (192, Ar a1), (256, (Aj 0 0 (An 259) [] (An 260) [] (An 261) [] false)), (320, [iV 0, iV 0]), (384, Aw r1.1)], []⟩ ∧ Jh a0 a1 r1 p4 = some r) rfl ?_ (fun c27 J26 => ?_) (fun c27 J26 => ?_)))))))))))))))
 ·rintro _ ⟨p4, rfl, h0⟩
  refine Br 6 ⟨[(2, .ptr 128 0), (3, .ptr 192 0), (4, .ptr 256 0), (5, .ptr 320 0), (6, .ptr 384 0), (7, iV r1.2.1), (8, iV p4), (30, .bool (p4 != 0))], [(128, Ah a0), (192, Ar a1), (256, (Aj 0 0 (An 259) [] (An 260) [] (An 261) [] false)), (320, [iV 0, iV 0]), (384, Aw r1.1)], []⟩ (Dm h0 (fun c5 h0 => ?_) (fun c5 h0 => ?_))
  ·refine Bu 3 (Au (st (c_ (v := .agg [iV p4, iV 0]) (Ay ⟨tv, tv⟩ rfl ⟨⟨rfl, rfl, nl rfl⟩, tv⟩) (o_ ?_))))
   obtain rfl := Option.some.inj h0
   exact Dr 4
  ·refine Bu 4 (Au (bb h0 fun r6 e7 h0 => dE (H102 a0 r6 e7) (Bs rfl (Bs rfl (Bs (Hr (fun _ => rfl)) (Bs (Hr (fun _ => rfl)) (Bs (Hr (fun _ => rfl)) (Bs rfl rfl)))))) (o_ (Br 11 ⟨[(3, .ptr 192 0), (4, .ptr 256 0), (5, .ptr 320 0), (6, .ptr 384 0), (7, iV r1.2.1), (9, .ptr 576 0)], [(192, Ar a1), (256, (Aj 0 0 (An 259) [] (An 260) [] (An 261) [] false)), (320, [iV 0, iV 0]), (384, Aw r1.1), (576, (Aj r6.Ac.clock r1.1.next (An 2240) r6.Ac.Ad (An 2241) r6.Aa (An 2242) r6.Ae r6.Al))], []⟩ (Bu 4 (Au (st (c_ (v := .agg [iV r1.2.1, .bool false]) (Ay ⟨tv, tv⟩ rfl ⟨⟨rfl, rfl, nl rfl⟩, tv⟩) (st (Ni ⟨tv, tv⟩ ⟨⟨nl rfl, rfl, rfl⟩, tv⟩ (gg h0 fun c8 h0 => st (Hj (e := Bi) (l0 := r6.Aa) (l1 := ([(Af.mk r1.2.1 false)] : List Af)) rfl rfl tv rfl (by decide) c8 (o_ (Br 10 ⟨[(3, .ptr 192 0), (4, .ptr 256 0), (5, .ptr 320 0), (6, .ptr 384 0), (7, iV r1.2.1), (9, .ptr 576 0), (49, .bool (a1.stop == 1))], [(192, Ar a1), (256, (Aj 0 0 (An 259) [] (An 260) [] (An 261) [] false)), (320, [iV 0, iV 0]), (384, Aw r1.1), (576, [iV r6.Ac.clock, iV r1.1.next, Es 2240 r6.Ac.Ad, Ei 2241 (r6.Aa ++ ([(Af.mk r1.2.1 false)] : List Af)), oI 2242 r6.Ae, .bool r6.Al])], []⟩ (Dm h0 (fun c9 h0 => ?_) (fun c9 h0 => ?_))))))))))))))))
   ·refine Bu 2 (Au (bb h0 fun r10 e11 h0 => dE (H133 (Ag.mk (Ai.mk r6.Ac.clock r1.1.next r6.Ac.Ad) (r6.Aa ++ ([(Af.mk r1.2.1 false)] : List Af)) r6.Ae r6.Al) r10 e11) (Bs rfl (Bs rfl (Bs (Hr (fun _ => rfl)) (Bs (Hr (fun _ => rfl)) (Bs (Hr (fun _ => rfl)) (Bs rfl rfl)))))) (st (c_ (v := .agg [iV 15, iV 0]) (Ay ⟨tv, tv⟩ rfl ⟨⟨rfl, rfl, nl rfl⟩, tv⟩) (o_ ?_)))))
    obtain rfl := Option.some.inj h0
    exact Dr 4 [3264, 3265, 3266]
   ·refine Uv 3 ?_
    obtain ⟨r12, e13, h0⟩ := bnd h0
    refine bb h0 fun r14 e15 h0 => Bu 4 (Dh (Ci (Bv (r := iV r12) false (H145 a1 0 r12 e13) ⟨tv, tv, tv⟩ rfl rfl (fun _ => rfl) (Jf ⟨[(3, .ptr 192 0), (4, .ptr 256 0), (5, .ptr 320 0), (6, .ptr 384 0), (7, iV r1.2.1), (9, .ptr 576 0), (54, .ptr 576 4), (55, oI 2242 r6.Ae), (56, iV r1.2.1), (58, iV r12)], [(192, Ar a1), (256, (Aj 0 0 (An 259) [] (An 260) [] (An 261) [] false)), (320, [iV 0, iV 0]), (384, Aw r1.1), (576, [iV r6.Ac.clock, iV r1.1.next, Es 2240 r6.Ac.Ad, Ei 2241 (r6.Aa ++ ([(Af.mk r1.2.1 false)] : List Af)), oI 2242 r6.Ae, .bool r6.Al])], []⟩ (Bw (by kernel_rfl)) ⟨[], ⟨⟨.inl tv, (Ao (Gs (v := iV r1.2.1) rfl tv) rfl)⟩, ⟨.inl tv, (Ao (Ay ⟨tv, tv⟩ rfl (nl rfl)) rfl)⟩, ⟨.inl tv, (Ao (Ay ⟨tv, tv⟩ rfl tv) rfl)⟩, tv⟩, tv, (Ci (Bv (r := .tup [lI r14.1, iV r14.2]) true (H86 r6.Ae r1.2.1 true r12 r14 e15) ⟨tv, tv, tv, tv, tv⟩ rfl rfl (fun h => nomatch h) (Jf ⟨[(3, .ptr 192 0), (4, .ptr 256 0), (5, .ptr 320 0), (6, .ptr 384 0), (7, iV r1.2.1), (9, .ptr 576 0), (59, .tup [lI r14.1, iV r14.2])], [(192, Ar a1), (256, (Aj 0 0 (An 259) [] (An 260) [] (An 261) [] false)), (320, [iV 0, iV 0]), (384, Aw r1.1), (576, [iV r6.Ac.clock, iV r1.1.next, Es 2240 r6.Ac.Ad, Ei 2241 (r6.Aa ++ ([(Af.mk r1.2.1 false)] : List Af)), lI r6.Ae, .bool r6.Al])], []⟩ (Bw (by kernel_rfl)) ⟨[], tv, tv, (d_ (Bu 4 (Dh (Ci (Ia rfl rfl tv rfl rfl rfl (nl rfl) (Jr ⟨[], ⟨⟨.inl tv, (Ao (Ay ⟨tv, tv⟩ rfl tv) rfl)⟩, tv⟩, tv, (d_ (Br 2 ⟨[(3, .ptr 192 0), (4, .ptr 256 0), (5, .ptr 320 0), (6, .ptr 384 0), (7, iV r1.2.1), (8, iV r14.2), (9, .ptr 576 0)], [(192, Ar a1), (256, (Aj 0 0 (An 259) [] (An 260) [] (An 261) [] false)), (320, [iV 0, iV 0]), (384, Aw r1.1), (576, [iV r6.Ac.clock, iV r1.1.next, Es 2240 r6.Ac.Ad, Ei 2241 (r6.Aa ++ ([(Af.mk r1.2.1 false)] : List Af)), lI r14.1, .bool r6.Al])], []⟩ (Bu 3 (Au ?_))))⟩)) Bp))))⟩)) Bp)⟩)) Bp))
    refine o_ (Br 3 ⟨[(4, .ptr 256 0), (5, .ptr 320 0), (6, .ptr 384 0), (7, iV r1.2.1), (8, iV r14.2), (9, .ptr 576 0), (65, .bool (a1.stop == 2))], [(256, (Aj 0 0 (An 259) [] (An 260) [] (An 261) [] false)), (320, [iV 0, iV 0]), (384, Aw r1.1), (576, [iV r6.Ac.clock, iV r1.1.next, Es 2240 r6.Ac.Ad, Ei 2241 (r6.Aa ++ ([(Af.mk r1.2.1 false)] : List Af)), lI r14.1, .bool r6.Al])], []⟩ (Dm h0 (fun c16 h0 => ?_) (fun c16 h0 => ?_)))
    ·refine Bu 2 (Au (bb h0 fun r17 e18 h0 => dE (H133 (Ag.mk (Ai.mk r6.Ac.clock r1.1.next r6.Ac.Ad) (r6.Aa ++ ([(Af.mk r1.2.1 false)] : List Af)) r14.1 r6.Al) r17 e18) (Bs rfl (Bs rfl (Bs (Hr (fun _ => rfl)) (Bs (Hr (fun _ => rfl)) (Bs (Hr (fun _ => rfl)) (Bs rfl rfl)))))) (st (c_ (v := .agg [iV 15, iV 0]) (Ay ⟨tv, tv⟩ rfl ⟨⟨rfl, rfl, nl rfl⟩, tv⟩) (o_ ?_)))))
     obtain rfl := Option.some.inj h0
     exact Dr 4 [4288, 4289, 4290]
    ·refine Br 7 ⟨[(4, .ptr 256 0), (5, .ptr 320 0), (6, .ptr 384 0), (7, iV r1.2.1), (8, iV r14.2), (9, .ptr 576 0), (70, .bool (r14.2 != 0))], [(256, (Aj 0 0 (An 259) [] (An 260) [] (An 261) [] false)), (320, [iV 0, iV 0]), (384, Aw r1.1), (576, [iV r6.Ac.clock, iV r1.1.next, Es 2240 r6.Ac.Ad, Ei 2241 (r6.Aa ++ ([(Af.mk r1.2.1 false)] : List Af)), lI r14.1, .bool r6.Al])], []⟩ (Dm h0 (fun c19 h0 => ?_) (fun c19 h0 => ?_))
     ·refine Bu 5 (Au (st (c_ (Sc (e := Bi) (l0 := r6.Aa ++ ([(Af.mk r1.2.1 false)] : List Af)) rfl rfl tv) (st (c_ (Ay t3 rfl tv) (bb h0 fun y20 e21 h0 => st (c_ (Nb (e := Bi) (y := y20) rfl rfl tv rfl rfl tv e21) (st (c_ (Ay ⟨tv, tv⟩ rfl tv) (bb h0 fun y22 e23 h0 => st (yU (y' := (Af.mk y22.Av true)) rfl rfl tv rfl rfl rfl rfl e23 (nl rfl) rfl rfl rfl rfl (Kj (Dv ⟨[(4, .ptr 256 0), (5, .ptr 320 0), (8, iV r14.2), (9, .ptr 576 0)], [(256, (Aj 0 0 (An 259) [] (An 260) [] (An 261) [] false)), (320, [iV 0, iV 0]), (576, [iV r6.Ac.clock, iV r1.1.next, Es 2240 r6.Ac.Ad, .own 2241 0 2 (((r6.Aa ++ ([(Af.mk r1.2.1 false)] : List Af)).set ((IntKind.i64.wrap (((r6.Aa ++ ([(Af.mk r1.2.1 false)] : List Af)).length : Int) - 1)).toNat) (Af.mk y22.Av true)).map Bi), lI r14.1, .bool r6.Al])], []⟩ (fg ⟨rfl, rfl, rfl, rfl, tv⟩ ⟨rfl, rfl, (congrArg (fun z => some (([iV r6.Ac.clock, iV r1.1.next, Es 2240 r6.Ac.Ad, .own 2241 0 2 z, lI r14.1, .bool r6.Al] : List V))) Iu), tv⟩) (Bu 3 (Au (st (c_ (v := .agg [iV r14.2, iV 0]) (Ay ⟨tv, tv⟩ rfl ⟨⟨rfl, rfl, nl rfl⟩, tv⟩) (o_ ?_))))))))))))))))))
      obtain rfl := Option.some.inj h0
      exact Dr 4 [2240, 2241]
     ·refine Bu 7 (Au (st (c_ (Sc (e := Bi) (l0 := r6.Aa ++ ([(Af.mk r1.2.1 false)] : List Af)) rfl rfl tv) (st (c_ (Ay t3 rfl tv) (bb h0 fun s24 e25 h0 => st (c_ (dF (e := Bi) (y := s24) rfl rfl tv ⟨tv, tv⟩ rfl rfl e25) (o_ (Br 9 ⟨[(4, .ptr 256 0), (5, .ptr 320 0), (7, iV r1.2.1), (9, .ptr 576 0)], [(256, (Aj 0 0 (An 259) [] (An 260) [] (An 261) [] false)), (320, [iV 0, iV 0]), (576, (Aj r1.1.clock r1.1.next u_ r1.1.Ad (An 2241) s24 u_ r14.1 r6.Al))], []⟩ (Bu 3 (Au (st (c_ (v := .agg [iV 0, iV r1.2.1]) (Ay ⟨tv, tv⟩ rfl ⟨⟨rfl, rfl, nl rfl⟩, tv⟩) (o_ ?_))))))))))))))
      obtain rfl := Option.some.inj h0
      exact Dr 4 [2241]
 ·replace h0 := ip c27 h0
  refine Au (st (Tj tv (Kj ?_)))
  exact J26 _ _ (Bw (by kernel_rfl)) ⟨_, rfl, h0⟩
 ·replace h0 := wX c27 h0
  refine Nj ?_
  exact J26 _ _ (Bw (by kernel_rfl)) ⟨_, rfl, h0⟩

/- loop.example/g00149/spec.l08Done -/
def AaZ := [X_ 2 0, a_ 4 [(iV 0), (iV 0), (.own 259 0 4 [])], i_ 5 0]
def Aba := [L_ 8 2 3, m_ 9 1, q_ 10 92 [(.t 8), (.t 9)], m_ 6 10]
def Abb := [m_ 11 6, B_ .lss 12 11 0]
def Abc := [L_ 13 2 3, s_ 4 13 3, i_ 5 5]
def Abd := [f_ 14 2 2, l_ 15 14 1, m_ 16 6, x_ 17 15 16 4, f_ 18 17 3, l_ 19 18 1, N_ 20 19]
def Abe := [L_ 21 2 3, s_ 4 21 3, i_ 5 13]
def Abf := [L_ 22 2 3, a_ 7 [(iV 0), (iV 0), (.own 451 0 4 [])], s_ 7 22 3]
def Abg := tk [f_ 24 2 2, l_ 25 24 1, m_ 26 6, ⟨some 27, .p (.slice (.t 25) none (some (.t 26)) 4), none⟩, f_ 29 2 2, l_ 30 29 1, m_ 31 6, B_ .add 32 31 1, ⟨some 33, .p (.slice (.t 30) (some (.t 32)) none 4), none⟩] (.alt [⟨some 33, .p (.slice (.t 30) (some (.t 32)) none 4), none⟩, B_ .add 32 31 1, m_ 31 6, l_ 30 29 1, f_ 29 2 2, ⟨some 27, .p (.slice (.t 25) none (some (.t 26)) 4), none⟩, m_ 26 6, l_ 25 24 1, f_ 24 2 2] ⟨some 23, .mkS 4 [(iV 0), (iV 0), (iV 0), (.bool false)] 0 [], none⟩ (.alt [⟨some 33, .p (.slice (.t 30) (some (.t 32)) none 4), none⟩, B_ .add 32 31 1, m_ 31 6, l_ 30 29 1, f_ 29 2 2] ⟨some 28, .app 4 32 (.t 23) (.t 27), none⟩ (.alt [] ⟨some 34, .app 4 32 (.t 28) (.t 33), none⟩ (tk [f_ 35 7 2] (.alt [] (s_ 35 34 1) .fin .stop)) .stop) .stop) .stop)
def Abh := [L_ 36 7 3, s_ 4 36 3, i_ 5 0]
def c76 : El := { np := 2, nt := 37, res := [.cell 4 3 true, .t 5], body := (.seq (.reg AaZ) (.seq (.reg Aba) (.seq (.seq (.reg Abb) (.ite (.t 12) (.seq (.reg Abc) .ret) .skip)) (.seq (.seq (.reg Abd) (.ite (.t 20) (.seq (.reg Abe) .ret) .skip)) (.seq (.reg Abf) (.seq (.draw Abg) (.seq (.reg Abh) .ret))))))) }
def K76 (D : Bc) : Prop := ∀ (a0 : Ai) (a1 : Int) (r : Ai × Int), g76 a0 a1 = some r → D 76 ⟨[.agg (Aw a0), iV a1], []⟩ ⟨.tup [.agg (Aw r.1), iV r.2], [], []⟩
theorem F76 {C : Bc} (H92 : XH C) : K76 (fun _ => Cp C c76) := by
 intro a0 a1 r h0
 refine Fe (nl rfl) (Br 5 ⟨[(1, iV a1), (2, .ptr 128 0), (4, .ptr 256 0)], [(128, Aw a0), (256, (Bq 0 0 (An 259) []))], []⟩ (Bz (Au (st (c_ (v := .agg (Aw a0)) (Ay ⟨tv, tv⟩ rfl (nl rfl)) (st (Df rfl tv (bb h0 fun r1 e2 h0 => st (Bv (r := iV r1) false (H92 a0 a1 r1 e2) ⟨tv, tv, tv⟩ rfl rfl (fun _ => rfl) (o_ (Br 8 ⟨[(2, .ptr 128 0), (4, .ptr 256 0), (6, iV r1), (12, .bool (decide (r1 < 0)))], [(128, Aw a0), (256, (Bq 0 0 (An 259) []))], []⟩ (Dm h0 (fun c3 h0 => ?_) (fun c3 h0 => ?_)))))))))))))
 ·obtain rfl := Option.some.inj h0
  exact Dr 6
 ·refine Nj (qU (Bz (Bz (Au (st (c_ (Ay ⟨tv, tv⟩ rfl tv) (st (c_ (Ay ⟨tv, tv⟩ rfl (nl rfl)) (st (Df rfl tv (bb h0 fun y4 e5 h0 => st (c_ (Cj (e := At) (y := y4) rfl rfl tv rfl rfl tv e5) (o_ (Br 4 ⟨[(2, .ptr 128 0), (4, .ptr 256 0), (6, iV r1), (20, .bool (!y4.Bt))], [(128, Aw a0), (256, (Bq 0 0 (An 259) []))], []⟩ (Dm h0 (fun c6 h0 => ?_) (fun c6 h0 => ?_))))))))))))))))
  ·obtain rfl := Option.some.inj h0
   exact Dr 6
  ·refine Br 7 ⟨[(2, .ptr 128 0), (4, .ptr 256 0), (6, iV r1), (7, .ptr 448 0)], [(128, Aw a0), (256, (Bq 0 0 (An 259) [])), (448, Aw a0)], []⟩ (Bz ?_)
   obtain ⟨s7, e8, h0⟩ := bnd h0
   obtain ⟨s9, e10, h0⟩ := bnd h0
   obtain ⟨c11, h0⟩ := kS h0
   refine gg h0 fun c12 h0 => Dh (Ak tv (c_ (Ay ⟨tv, tv⟩ rfl tv) (⟨tv, (Ak tv (c_ (Ay ⟨tv, tv⟩ rfl (nl rfl)) (⟨tv, (Ak tv (Df rfl tv (⟨tv, (Ak tv (c_ (Pf (e := At) (y := s7) rfl rfl tv ⟨tv, tv⟩ rfl rfl e8) (⟨tv, (Ak tv (c_ (Ay ⟨tv, tv⟩ rfl tv) (⟨tv, (Ak tv (c_ (Ay ⟨tv, tv⟩ rfl (nl rfl)) (⟨tv, (Ak tv (Df rfl tv (⟨tv, (Ak tv (c_ (Ay t3 rfl tv) (⟨tv, (Ak tv (c_ (Pf (e := At) (y := s9) rfl rfl tv ⟨tv, tv⟩ rfl rfl e10) (⟨tv, (Ci (Ni tv tv (Jr ⟨[], ⟨⟨.inl tv, (Ao (Pf (e := At) (y := s9) rfl rfl tv ⟨tv, tv⟩ rfl rfl e10) rfl)⟩, ⟨.inl tv, (Ao (Ay t3 rfl tv) rfl)⟩, ⟨.inl tv, (Ao (Gs (v := iV r1) rfl tv) rfl)⟩, ⟨.inl tv, (Ao (Ay ⟨tv, tv⟩ rfl (nl rfl)) rfl)⟩, ⟨.inl tv, (Ao (Ay ⟨tv, tv⟩ rfl tv) rfl)⟩, ⟨.inl tv, (Ao (Pf (e := At) (y := s7) rfl rfl tv ⟨tv, tv⟩ rfl rfl e8) rfl)⟩, ⟨.inl tv, (Ao (Gs (v := iV r1) rfl tv) rfl)⟩, ⟨.inl tv, (Ao (Ay ⟨tv, tv⟩ rfl (nl rfl)) rfl)⟩, ⟨.inl tv, (Ao (Ay ⟨tv, tv⟩ rfl tv) rfl)⟩, tv⟩, tv, (Ci (Hj (e := At) (l0 := ([] : List Ab)) (l1 := s7) rfl rfl tv rfl (by decide) c11 (Jf ⟨[(2, .ptr 128 0), (4, .ptr 256 0), (6, iV r1), (7, .ptr 448 0), (28, Es 1472 (([] : List Ab) ++ s7)), (29, .ptr 128 2), (30, Bl a0.Ad), (31, iV r1), (32, iV (IntKind.i64.wrap (r1 + 1))), (33, Bl s9)], [(128, Aw a0), (256, (Bq 0 0 (An 259) [])), (448, Aw a0)], []⟩ (Bw (by kernel_rfl)) ⟨[], ⟨⟨.inl tv, (Ao (Pf (e := At) (y := s9) rfl rfl tv ⟨tv, tv⟩ rfl rfl e10) rfl)⟩, ⟨.inl tv, (Ao (Ay t3 rfl tv) rfl)⟩, ⟨.inl tv, (Ao (Gs (v := iV r1) rfl tv) rfl)⟩, ⟨.inl tv, (Ao (Ay ⟨tv, tv⟩ rfl (nl rfl)) rfl)⟩, ⟨.inl tv, (Ao (Ay ⟨tv, tv⟩ rfl tv) rfl)⟩, tv⟩, tv, (Ci (Hj (e := At) (l0 := ([] : List Ab) ++ s7) (l1 := s9) rfl rfl tv rfl (by decide) c12 (Jr ⟨[], tv, tv, (Ak tv (c_ (Ay ⟨tv, tv⟩ rfl tv) (⟨tv, (Ci (Ia rfl rfl tv rfl rfl rfl (nl rfl) (Jr ⟨[], tv, tv, (d_ (Br 1 ⟨[(4, .ptr 256 0), (7, .ptr 448 0)], [(256, (Bq 0 0 (An 259) [])), (448, (Bq a0.clock a0.next (An 1472) ((([] : List Ab) ++ s7) ++ s9)))], []⟩ ?_))⟩)) Bp)⟩)))⟩)) Bp)⟩)) Bp)⟩)) Bp)⟩)))⟩)))⟩)))⟩)))⟩)))⟩)))⟩)))⟩)))⟩)))
   obtain rfl := Option.some.inj h0
   exact Dr 6 [1472]

/- loop.example/g00149/spec.l09Without -/
def IN : List Ch := [⟨some 4, .nilS 2, none⟩]
def IP : List Ch := [⟨some 7, .mkS 2 [(iV 0), (.bool false)] 0 [], none⟩, m_ 5 7]
def IQ := [i_ 6 0]
def IS := [m_ 8 6, m_ 9 0, n_ 10 9, b_ .lss 11 8 10]
def IT := [m_ 14 0, m_ 15 6, x_ 16 14 15 2, f_ 17 16 0, l_ 18 17 1, m_ 19 1, b_ .neq 20 18 19]
def IU : List Ch := [m_ 21 5, m_ 22 0, m_ 23 6, x_ 24 22 23 2, L_ 25 24 2, ⟨some 26, .mkS 2 [(iV 0), (.bool false)] 1 [(0, (.t 25))], none⟩, ⟨some 27, .app 2 16 (.t 21) (.t 26), none⟩, m_ 5 27]
def IV := [m_ 12 6, B_ .add 13 12 1, m_ 6 13]
def IM : IR := (.seq (.seq (.reg IS) (.ite (.t 11) .skip (.exit 0))) (.seq (.block 1 (.seq (.reg IT) (.ite (.t 20) (.reg IU) .skip))) (.reg IV)))
def IW := [m_ 28 5, m_ 4 28]
def IL : El := { np := 2, nt := 29, res := [.t 4], body := (.seq (.reg IN) (.seq (.reg IP) (.seq (.seq (.reg IQ) (.block 0 (.loop IM))) (.seq (.reg IW) .ret)))) }
def WJ (D : Bc) : Prop := ∀ (a0 : List Af) (a1 : Int) (r : (List Af)), RM a0 a1 = some r → D 146 ⟨[Cw a0, iV a1], []⟩ ⟨Ei 0 r, [], []⟩
theorem F146 {C : Bc} : WJ (fun _ => Cp C IL) := by
 intro a0 a1 r h0
 refine Fe (nl rfl) (Br 13 ⟨[(0, Cw a0), (1, iV a1), (5, Ei 448 []), (6, iV 0)], [], []⟩ (Cr (bb h0 fun r37 e38 h0 => Dt (R := (fun S => ∃ p21 : List Af, p21 = r37 ∧ S = ⟨[(5, Ei 448 p21)], [], []⟩)) (Pp a0 a1) (fun s S => match s with | (p9, p10) => S = ⟨[(0, Cw a0), (1, iV a1), (5, Ei 448 p9), (6, iV p10)], [], []⟩) e38 _ (Bw (by kernel_rfl)) rfl 0 (fun _ => rfl) ?_ ?_)))
 ·rintro S _ hfg ⟨p21, rfl, rfl⟩
  refine Dv _ hfg ?_
  obtain rfl := Option.some.inj h0
  exact Dr 5
 ·rintro ⟨p9, p10⟩ o1 _ K1 rfl h1 hx1 hK1 hE1 hR1
  refine Bu 4 (Au (st (c_ (Cn (e := Bi) (l0 := a0) rfl rfl tv) (o_ (Br 2 ⟨[(0, Cw a0), (1, iV a1), (5, Ei 448 p9), (6, iV p10), (11, .bool (decide (p10 < (a0.length : Int))))], [], []⟩ (Dm h1 (fun c22 h1 => ?_) (fun c22 h1 => ?_)))))))
  ·refine Uv 3 (Np (fun S => ∃ p29 : List Af, S = ⟨[(0, Cw a0), (1, iV a1), (5, Ei 448 p29), (6, iV p10)], [], []⟩ ∧ Ws p10 p29 = some o1) ?_ (fun J30 => ?_))
   ·rintro _ ⟨p29, rfl, h1⟩
    refine Bu 5 ?_
    obtain rfl := Option.some.inj h1
    exact hK1 _ rfl _ _ (Bw (by kernel_rfl)) rfl
   ·refine Bz ?_
    refine Bu 2 (Au (bb h1 fun y31 e32 h1 => st (c_ (Cj (e := Bi) (y := y31) rfl rfl tv rfl rfl tv e32) (o_ (Br 5 ⟨[(0, Cw a0), (1, iV a1), (5, Ei 448 p9), (6, iV p10), (20, .bool (y31.Av != a1))], [], []⟩ (Dm h1 (fun c33 h1 => ?_) (fun c33 h1 => ?_)))))))
    ·refine Bu 3 (Au (bb h1 fun y34 e35 h1 => st (c_ (Cj (e := Bi) (y := y34) rfl rfl tv rfl rfl tv e35) (o_ (Bu 2 (Au (gg h1 fun c36 h1 => st (Hj (e := Bi) (l0 := p9) (l1 := ([y34] : List Af)) rfl rfl tv rfl (by decide) c36 (st (Df rfl tv (Kj (aR ?_))))))))))))
     exact J30 _ _ (Bw (by kernel_rfl)) ⟨_, rfl, h1⟩
    ·refine Nj (aR ?_)
     exact J30 _ _ (Bw (by kernel_rfl)) ⟨_, rfl, h1⟩
  ·obtain rfl := Option.some.inj h1
   obtain rfl := hx1 _ rfl
   refine Nc rfl ?_
   exact hE1 _ _ (Bw (by kernel_rfl)) ⟨_, rfl, rfl⟩

/- loop.example/g00149/spec.l09Sweep -/
def GR := [X_ 2 0, X_ 3 1, a_ 4 [(iV 0), (iV 0), (.own 259 0 4 []), (.own 260 0 2 []), (.own 261 0 1 []), (.bool false)]]
def GS := [L_ 14 2 6, q_ 15 102 [(.t 14)], a_ 5 [(iV 0), (iV 0), (.own 323 0 4 []), (.own 324 0 2 []), (.own 325 0 1 []), (.bool false)], s_ 5 15 6]
def GT := [i_ 6 0]
def GU := [i_ 7 0]
def GV := [m_ 16 7, f_ 17 2 0, f_ 18 17 2, l_ 19 18 1, n_ 20 19, b_ .lss 21 16 20]
def GW := [f_ 24 2 0, f_ 25 24 2, l_ 26 25 1, m_ 27 7, x_ 28 26 27 4, f_ 29 28 0, l_ 30 29 1, m_ 8 30]
def GX := [f_ 31 2 0, f_ 32 31 2, l_ 33 32 1, m_ 34 7, x_ 35 33 34 4, f_ 36 35 3, l_ 37 36 1, N_ 38 37]
def GY := tk [f_ 40 5 4, l_ 41 40 1, m_ 42 8, L_ 43 3 7, m_ 44 6] (.alt [m_ 42 8, l_ 41 40 1, f_ 40 5 4] (q_ 45 145 [(.t 43), (.t 44)]) (.alt [] (q_ 46 86 [(.t 41), (.t 42), (.c (.bool false)), (.t 45)]) (tk [m_ 39 46, e_ 47 39 0, e_ 48 39 1, m_ 9 47, m_ 10 48] .fin) .stop) .stop)
def GZ := [m_ 49 6, B_ .add 50 49 1, m_ 6 50]
def HA := [m_ 51 9, f_ 52 5 4, s_ 52 51 1]
def tH := [m_ 53 10, B_ .eql 54 53 0]
def tI := [f_ 56 5 0, L_ 57 56 3, m_ 58 8, q_ 59 76 [(.t 57), (.t 58)], m_ 55 59, e_ 60 55 0, e_ 61 55 1, f_ 62 5 0, s_ 62 60 3]
def tJ := [f_ 63 3 6, l_ 64 63 1, B_ .eql 65 64 2]
def tK := [L_ 66 5 6, q_ 67 133 [(.t 66)], s_ 4 67 6]
def tL := [m_ 22 7, B_ .add 23 22 1, m_ 7 23]
def GP : IR := (.seq (.seq (.reg GV) (.ite (.t 21) .skip (.exit 0))) (.seq (.block 1 (.seq (.reg GW) (.seq (.seq (.reg GX) (.ite (.t 38) (.exit 1) .skip)) (.seq (.draw GY) (.seq (.reg GZ) (.seq (.reg HA) (.seq (.seq (.reg tH) (.ite (.t 54) (.reg tI) .skip)) (.seq (.reg tJ) (.ite (.t 65) (.seq (.reg tK) .ret) .skip))))))))) (.reg tL)))
def tM := [i_ 11 0]
def tN := [m_ 68 11, f_ 69 2 3, l_ 70 69 1, n_ 71 70, b_ .lss 72 68 71]
def tO := [f_ 75 2 3, l_ 76 75 1, m_ 77 11, x_ 78 76 77 2, f_ 79 78 1, l_ 80 79 1, N_ 81 80]
def tP := tk [f_ 83 5 4, l_ 84 83 1, f_ 85 2 3, l_ 86 85 1, m_ 87 11, x_ 88 86 87 2, f_ 89 88 0, l_ 90 89 1, L_ 91 3 7, m_ 92 6] (.alt [l_ 90 89 1, f_ 89 88 0, x_ 88 86 87 2, m_ 87 11, l_ 86 85 1, f_ 85 2 3, l_ 84 83 1, f_ 83 5 4] (q_ 93 145 [(.t 91), (.t 92)]) (.alt [] (q_ 94 86 [(.t 84), (.t 90), (.c (.bool false)), (.t 93)]) (tk [m_ 82 94, e_ 95 82 0, e_ 96 82 1, m_ 12 95, m_ 13 96] .fin) .stop) .stop)
def tQ := [m_ 97 6, B_ .add 98 97 1, m_ 6 98]
def tR := [m_ 99 12, f_ 100 5 4, s_ 100 99 1]
def tS := [m_ 101 13, B_ .eql 102 101 0]
def tT := tk [f_ 103 5 3, l_ 104 103 1, f_ 105 2 3, l_ 106 105 1, m_ 107 11, x_ 108 106 107 2, f_ 109 108 0, l_ 110 109 1] (.alt [] (q_ 111 146 [(.t 104), (.t 110)]) (tk [f_ 112 5 3] (.alt [] (s_ 112 111 1) .fin .stop)) .stop)
def tU := [f_ 113 3 6, l_ 114 113 1, B_ .eql 115 114 2]
def tV := [L_ 116 5 6, q_ 117 133 [(.t 116)], s_ 4 117 6]
def tW := [m_ 73 11, B_ .add 74 73 1, m_ 11 74]
def GQ : IR := (.seq (.seq (.reg tN) (.ite (.t 72) .skip (.exit 2))) (.seq (.block 3 (.seq (.seq (.reg tO) (.ite (.t 81) (.exit 3) .skip)) (.seq (.draw tP) (.seq (.reg tQ) (.seq (.reg tR) (.seq (.seq (.reg tS) (.ite (.t 102) (.draw tT) .skip)) (.seq (.reg tU) (.ite (.t 115) (.seq (.reg tV) .ret) .skip)))))))) (.reg tW)))
def tX := [L_ 118 5 6, s_ 4 118 6]
def GO : El := { np := 2, nt := 119, res := [.cell 4 6 true], body := (.seq (.reg GR) (.seq (.reg GS) (.seq (.reg GT) (.seq (.seq (.reg GU) (.block 0 (.loop GP))) (.seq (.seq (.reg tM) (.block 2 (.loop GQ))) (.seq (.reg tX) .ret)))))) }
def WE (D : Bc) : Prop := ∀ (a0 : Ag) (a1 : Am) (r : Ag), kA a0 a1 = some r → D 134 ⟨[.agg (Ah a0), .agg (Ar a1)], []⟩ ⟨.agg (By r u_ (An 0) u_), [], []⟩
theorem F134 {C : Bc} (H76 : K76 C) (H86 : K86 C) (H102 : jI C) (H133 : rI C) (H145 : AE C) (H146 : WJ C) : WE (fun _ => Cp C GO) := by
 intro a0 a1 r h0
 refine Fe (nl rfl) (Br 5 ⟨[(2, .ptr 128 0), (3, .ptr 192 0), (4, .ptr 256 0)], [(128, Ah a0), (192, Ar a1), (256, (Aj 0 0 (An 259) [] (An 260) [] (An 261) [] false))], []⟩ (Bz (Au (st (c_ (v := .agg (Ah a0)) (Ay ⟨tv, tv⟩ rfl (nl rfl)) (bb h0 fun r1 e2 h0 => st (Bv (r := .agg (By r1 (An 0) (An 1) (An 2))) false (H102 a0 r1 e2) ⟨tv, tv⟩ rfl rfl (fun _ => (Bs rfl (Bs rfl (Bs (Hr (fun _ => rfl)) (Bs (Hr (fun _ => rfl)) (Bs (Hr (fun _ => rfl)) (Bs rfl rfl))))))) (o_ (Br 12 ⟨[(2, .ptr 128 0), (3, .ptr 192 0), (4, .ptr 256 0), (5, .ptr 320 0), (6, iV 0), (7, iV 0)], [(128, Ah a0), (192, Ar a1), (256, (Aj 0 0 (An 259) [] (An 260) [] (An 261) [] false)), (320, By r1 (An 960) (An 961) (An 962))], []⟩ (Cr (bb h0 fun r115 e116 h0 => Dt (R := (fun S => ∃ p63 : Int, ∃ p64 : Int, ∃ p65 : Int, ∃ p66 : List Ab, ∃ p67 : List Int, .inl (p63, p64, p65, p66, p67) = r115 ∧ S = ⟨[(2, .ptr 128 0), (3, .ptr 192 0), (4, .ptr 256 0), (5, .ptr 320 0), (6, iV p63)], [(128, Ah a0), (192, Ar a1), (256, (Aj 0 0 (An 259) [] (An 260) [] (An 261) [] false)), (320, (Aj p64 p65 u_ p66 (An 961) r1.Aa u_ p67 r1.Al))], []⟩)) (Kr a0 a1 r1) (fun s S => match s with | (p27, p28, p29, p30, p31, p32) => S = ⟨[(2, .ptr 128 0), (3, .ptr 192 0), (4, .ptr 256 0), (5, .ptr 320 0), (6, iV p27), (7, iV p28)], [(128, Ah a0), (192, Ar a1), (256, (Aj 0 0 (An 259) [] (An 260) [] (An 261) [] false)), (320, (Aj p29 p30 u_ p31 (An 961) r1.Aa u_ p32 r1.Al))], []⟩) e116 ⟨[(2, .ptr 128 0), (3, .ptr 192 0), (4, .ptr 256 0), (5, .ptr 320 0), (6, iV 0), (7, iV 0)], [(128, Ah a0), (192, Ar a1), (256, (Aj 0 0 (An 259) [] (An 260) [] (An 261) [] false)), (320, By r1 u_ (An 961) u_)], []⟩ (jX [960, 962] (by kernel_rfl)) rfl 0 (fun _ => rfl) ?_ ?_)))))))))))
 ·rintro S _ hfg ⟨p63, p64, p65, p66, p67, rfl, rfl⟩
  refine Dv _ hfg (Br 4 ⟨[(2, .ptr 128 0), (3, .ptr 192 0), (4, .ptr 256 0), (5, .ptr 320 0), (6, iV p63), (11, iV 0)], [(128, Ah a0), (192, Ar a1), (256, (Aj 0 0 (An 259) [] (An 260) [] (An 261) [] false)), (320, (Aj p64 p65 u_ p66 (An 961) r1.Aa u_ p67 r1.Al))], []⟩ (Cr (bb h0 fun r218 e219 h0 => Dt (R := (fun S => ∃ p169 : List Af, ∃ p170 : List Int, .inl (p169, p170) = r218 ∧ S = ⟨[(4, .ptr 256 0), (5, .ptr 320 0)], [(256, (Aj 0 0 (An 259) [] (An 260) [] (An 261) [] false)), (320, (Aj p64 p65 u_ p66 (An 961) p169 u_ p170 r1.Al))], []⟩)) (Im a0 a1 r1 p64 p65 p66) (fun s S => match s with | (p139, p140, p141, p142) => S = ⟨[(2, .ptr 128 0), (3, .ptr 192 0), (4, .ptr 256 0), (5, .ptr 320 0), (6, iV p139), (11, iV p140)], [(128, Ah a0), (192, Ar a1), (256, (Aj 0 0 (An 259) [] (An 260) [] (An 261) [] false)), (320, (Aj p64 p65 u_ p66 (An 961) p141 u_ p142 r1.Al))], []⟩) e219 _ (Bw (by kernel_rfl)) rfl 2 (fun _ => rfl) ?_ ?_)))
  ·rintro S _ hfg ⟨p169, p170, rfl, rfl⟩
   refine Dv _ hfg ?_
   obtain rfl := Option.some.inj h0
   exact Dr 5
  ·rintro ⟨p139, p140, p141, p142⟩ o1 _ K1 rfl h1 hx1 hK1 hE1 hR1
   refine Bz (Bz (Au (st (Df rfl tv (st (c_ (Ay ⟨tv, tv⟩ rfl tv) (st (c_ (Ay ⟨tv, tv⟩ rfl (nl rfl)) (st (c_ (Cn (e := Bi) (l0 := a0.Aa) rfl rfl tv) (o_ (Br 2 ⟨[(2, .ptr 128 0), (3, .ptr 192 0), (4, .ptr 256 0), (5, .ptr 320 0), (6, iV p139), (11, iV p140), (72, .bool (decide (p140 < (a0.Aa.length : Int))))], [(128, Ah a0), (192, Ar a1), (256, (Aj 0 0 (An 259) [] (An 260) [] (An 261) [] false)), (320, (Aj p64 p65 u_ p66 (An 961) p141 u_ p142 r1.Al))], []⟩ (Dm h1 (fun c171 h1 => ?_) (fun c171 h1 => ?_))))))))))))))
   ·refine Uv 3 (Np (fun S => ∃ p190 : Int, ∃ p191 : List Af, ∃ p192 : List Int, S = ⟨[(2, .ptr 128 0), (3, .ptr 192 0), (4, .ptr 256 0), (5, .ptr 320 0), (6, iV p190), (11, iV p140)], [(128, Ah a0), (192, Ar a1), (256, (Aj 0 0 (An 259) [] (An 260) [] (An 261) [] false)), (320, (Aj p64 p65 u_ p66 (An 961) p191 u_ p192 r1.Al))], []⟩ ∧ Sh p140 p190 p191 p192 = some o1) ?_ (fun J193 => ?_))
    ·rintro _ ⟨p190, p191, p192, rfl, h1⟩
     refine qU (Au (st (Df rfl tv (st (c_ (Ay t3 rfl tv) (st (Df rfl tv (Kj ?_))))))))
     obtain rfl := Option.some.inj h1
     exact hK1 _ rfl _ _ (Bw (by kernel_rfl)) rfl
    ·refine Bz ?_
     refine Bz (Au (st (c_ (Ay ⟨tv, tv⟩ rfl tv) (st (c_ (Ay ⟨tv, tv⟩ rfl (nl rfl)) (st (Df rfl tv (bb h1 fun y194 e195 h1 => st (c_ (Cj (e := Bi) (y := y194) rfl rfl tv rfl rfl tv e195) (o_ (Br 4 ⟨[(2, .ptr 128 0), (3, .ptr 192 0), (4, .ptr 256 0), (5, .ptr 320 0), (6, iV p139), (11, iV p140), (81, .bool (!y194.Hl))], [(128, Ah a0), (192, Ar a1), (256, (Aj 0 0 (An 259) [] (An 260) [] (An 261) [] false)), (320, (Aj p64 p65 u_ p66 (An 961) p141 u_ p142 r1.Al))], []⟩ (Dm h1 (fun c196 h1 => ?_) (fun c196 h1 => ?_)))))))))))))
     ·refine ex_ rfl ?_
      exact J193 _ _ (Bw (by kernel_rfl)) ⟨_, _, _, rfl, h1⟩
     ·refine Uv 3 ?_
      obtain ⟨y197, e198, h1⟩ := bnd h1
      obtain ⟨r199, e200, h1⟩ := bnd h1
      refine bb h1 fun r201 e202 h1 => Dh (Ak tv (c_ (Ay ⟨tv, tv⟩ rfl tv) (⟨tv, (Ak tv (c_ (Ay ⟨tv, tv⟩ rfl (nl rfl)) (⟨tv, (Ak tv (c_ (Ay ⟨tv, tv⟩ rfl tv) (⟨tv, (Ak tv (c_ (Ay ⟨tv, tv⟩ rfl (nl rfl)) (⟨tv, (Ak tv (Df rfl tv (⟨tv, (Ak tv (c_ (Cj (e := Bi) (y := y197) rfl rfl tv rfl rfl tv e198) (⟨tv, (Ak tv (c_ (Ay ⟨tv, tv⟩ rfl (nl rfl)) (⟨tv, (Ak tv (c_ (Ay ⟨tv, tv⟩ rfl (nl rfl)) (⟨tv, (Ak tv (c_ (v := .agg (Ar a1)) (Ay ⟨tv, tv⟩ rfl (nl rfl)) (⟨tv, (Ak tv (Df rfl tv (⟨tv, (Ci (Bv (r := iV r199) false (H145 a1 p139 r199 e200) ⟨tv, tv, tv⟩ rfl rfl (fun _ => rfl) (Jf ⟨[(2, .ptr 128 0), (3, .ptr 192 0), (4, .ptr 256 0), (5, .ptr 320 0), (6, iV p139), (11, iV p140), (83, .ptr 320 4), (84, lI p142), (85, .ptr 128 3), (86, Cw a0.Aa), (87, iV p140), (88, .iptr (Bi y197)), (89, .iptr (Bi y197)), (90, iV y197.Av), (93, iV r199)], [(128, Ah a0), (192, Ar a1), (256, (Aj 0 0 (An 259) [] (An 260) [] (An 261) [] false)), (320, (Aj p64 p65 u_ p66 (An 961) p141 u_ p142 r1.Al))], []⟩ (Bw (by kernel_rfl)) ⟨[], ⟨⟨.inl tv, (Ao (Ay ⟨tv, tv⟩ rfl (nl rfl)) rfl)⟩, ⟨.inl tv, (Ao (Ay ⟨tv, tv⟩ rfl (nl rfl)) rfl)⟩, ⟨.inl tv, (Ao (Cj (e := Bi) (y := y197) rfl rfl tv rfl rfl tv e198) rfl)⟩, ⟨.inl tv, (Ao (Gs (v := iV p140) rfl tv) rfl)⟩, ⟨.inl tv, (Ao (Ay ⟨tv, tv⟩ rfl (nl rfl)) rfl)⟩, ⟨.inl tv, (Ao (Ay ⟨tv, tv⟩ rfl tv) rfl)⟩, ⟨.inl tv, (Ao (Ay ⟨tv, tv⟩ rfl (nl rfl)) rfl)⟩, ⟨.inl tv, (Ao (Ay ⟨tv, tv⟩ rfl tv) rfl)⟩, tv⟩, tv, (Ci (Bv (r := .tup [lI r201.1, iV r201.2]) true (H86 p142 y197.Av false r199 r201 e202) ⟨tv, tv, tv, tv, tv⟩ rfl rfl (fun h => nomatch h) (Jf ⟨[(2, .ptr 128 0), (3, .ptr 192 0), (4, .ptr 256 0), (5, .ptr 320 0), (6, iV p139), (11, iV p140), (94, .tup [lI r201.1, iV r201.2])], [(128, Ah a0), (192, Ar a1), (256, (Aj 0 0 (An 259) [] (An 260) [] (An 261) [] false)), (320, (Aj p64 p65 u_ p66 (An 961) p141 u_ p142 r1.Al))], []⟩ (Bw (by kernel_rfl)) ⟨[], tv, tv, (Ak tv (Df rfl tv (⟨tv, (Ak tv (c_ (Ay ⟨tv, tv⟩ rfl tv) (⟨tv, (Ak tv (c_ (Ay ⟨tv, tv⟩ rfl tv) (⟨tv, ?_⟩)))⟩)))⟩)))⟩)) Bp)⟩)) Bp)⟩)))⟩)))⟩)))⟩)))⟩)))⟩)))⟩)))⟩)))⟩)))⟩)))
      refine d_ (Br 21 ⟨[(2, .ptr 128 0), (3, .ptr 192 0), (4, .ptr 256 0), (5, .ptr 320 0), (6, iV (IntKind.i64.wrap (p139 + 1))), (11, iV p140), (102, .bool (r201.2 == 0))], [(128, Ah a0), (192, Ar a1), (256, (Aj 0 0 (An 259) [] (An 260) [] (An 261) [] false)), (320, (Aj p64 p65 u_ p66 (An 961) p141 u_ r201.1 r1.Al))], []⟩ (aX (cb := (r201.2 == 0)) (fun S => ∃ p208 : List Af, S = ⟨[(2, .ptr 128 0), (3, .ptr 192 0), (4, .ptr 256 0), (5, .ptr 320 0), (6, iV (IntKind.i64.wrap (p139 + 1))), (11, iV p140)], [(128, Ah a0), (192, Ar a1), (256, (Aj 0 0 (An 259) [] (An 260) [] (An 261) [] false)), (320, (Aj p64 p65 u_ p66 (An 7104) p208 u_ r201.1 r1.Al))], []⟩ ∧ Pn a1 r1 p64 p65 p66 p139 p140 r201 p208 = some o1) rfl ?_ (fun c213 J212 => ?_) (fun c213 J212 => ?_)))
      ·rintro _ ⟨p208, rfl, h1⟩
       refine Br 6 ⟨[(2, .ptr 128 0), (3, .ptr 192 0), (4, .ptr 256 0), (5, .ptr 320 0), (6, iV (IntKind.i64.wrap (p139 + 1))), (11, iV p140), (115, .bool (a1.stop == 2))], [(128, Ah a0), (192, Ar a1), (256, (Aj 0 0 (An 259) [] (An 260) [] (An 261) [] false)), (320, (Aj p64 p65 u_ p66 (An 7104) p208 u_ r201.1 r1.Al))], []⟩ (Dm h1 (fun c209 h1 => ?_) (fun c209 h1 => ?_))
       ·refine Bz (Au (st (c_ (v := .agg (Aj p64 p65 u_ p66 (An 7104) p208 u_ r201.1 r1.Al)) (Ay ⟨tv, tv⟩ rfl (nl rfl)) (bb h1 fun r210 e211 h1 => st (Bv (r := .agg (By r210 (An 0) (An 1) (An 2))) false (H133 (Ag.mk (Ai.mk p64 p65 p66) p208 r201.1 r1.Al) r210 e211) ⟨tv, tv⟩ rfl rfl (fun _ => (Bs rfl (Bs rfl (Bs (Hr (fun _ => rfl)) (Bs (Hr (fun _ => rfl)) (Bs (Hr (fun _ => rfl)) (Bs rfl rfl))))))) (o_ ?_))))))
        obtain rfl := Option.some.inj h1
        obtain rfl := hx1 _ rfl
        obtain rfl := Option.some.inj h0
        exact aN 3 hR1 [7488, 7490]
       ·refine Nj (aR ?_)
        exact J193 _ ⟨[(2, .ptr 128 0), (3, .ptr 192 0), (4, .ptr 256 0), (5, .ptr 320 0), (6, iV (IntKind.i64.wrap (p139 + 1))), (11, iV p140)], [(128, Ah a0), (192, Ar a1), (256, (Aj 0 0 (An 259) [] (An 260) [] (An 261) [] false)), (320, (Aj p64 p65 u_ p66 (An 961) p208 u_ r201.1 r1.Al))], []⟩ (dJ [] [(7104, 961)] rfl (by kernel_rfl)) ⟨_, _, _, rfl, h1⟩
      ·replace h1 := ip c213 h1
       obtain ⟨y214, e215, h1⟩ := bnd h1
       refine bb h1 fun r216 e217 h1 => Dh (Ak tv (c_ (Ay ⟨tv, tv⟩ rfl tv) (⟨tv, (Ak tv (c_ (Ay ⟨tv, tv⟩ rfl (nl rfl)) (⟨tv, (Ak tv (c_ (Ay ⟨tv, tv⟩ rfl tv) (⟨tv, (Ak tv (c_ (Ay ⟨tv, tv⟩ rfl (nl rfl)) (⟨tv, (Ak tv (Df rfl tv (⟨tv, (Ak tv (c_ (Cj (e := Bi) (y := y214) rfl rfl tv rfl rfl tv e215) (⟨tv, (Ak tv (c_ (Ay ⟨tv, tv⟩ rfl (nl rfl)) (⟨tv, (Ak tv (c_ (Ay ⟨tv, tv⟩ rfl (nl rfl)) (⟨tv, (Ci (Bv (r := Ei 0 r216) false (H146 p141 y214.Av r216 e217) ⟨tv, tv, tv⟩ rfl rfl (fun _ => (Bs (Hr (fun _ => rfl)) rfl)) (Jf ⟨[(2, .ptr 128 0), (3, .ptr 192 0), (4, .ptr 256 0), (5, .ptr 320 0), (6, iV (IntKind.i64.wrap (p139 + 1))), (11, iV p140), (111, Ei 7104 r216)], [(128, Ah a0), (192, Ar a1), (256, (Aj 0 0 (An 259) [] (An 260) [] (An 261) [] false)), (320, (Aj p64 p65 u_ p66 (An 961) p141 u_ r201.1 r1.Al))], []⟩ (Bw (by kernel_rfl)) ⟨[], tv, tv, (Ak tv (c_ (Ay ⟨tv, tv⟩ rfl tv) (⟨tv, (Ci (Ia rfl rfl tv rfl rfl rfl (nl rfl) (Jr ⟨[], tv, tv, (Nt ?_)⟩)) Bp)⟩)))⟩)) Bp)⟩)))⟩)))⟩)))⟩)))⟩)))⟩)))⟩)))⟩)))
       exact J212 _ _ (Bw (by kernel_rfl)) ⟨_, rfl, h1⟩
      ·replace h1 := wX c213 h1
       refine Nj ?_
       exact J212 _ ⟨[(2, .ptr 128 0), (3, .ptr 192 0), (4, .ptr 256 0), (5, .ptr 320 0), (6, iV (IntKind.i64.wrap (p139 + 1))), (11, iV p140)], [(128, Ah a0), (192, Ar a1), (256, (Aj 0 0 (An 259) [] (An 260) [] (An 261) [] false)), (320, (Aj p64 p65 u_ p66 (An 7104) p141 u_ r201.1 r1.Al))], []⟩ (dJ [] [(961, 7104)] rfl (by kernel_rfl)) ⟨_, rfl, h1⟩
   ·obtain rfl := Option.some.inj h1
    obtain rfl := hx1 _ rfl
    refine Nc rfl ?_
    exact hE1 _ _ (Bw (by kernel_rfl)) ⟨_, _, rfl, rfl⟩
 ·rintro ⟨p27, p28, p29, p30, p31, p32⟩ o1 _ K1 rfl h1 hx1 hK1 hE1 hR1
  refine Bz (Bz (Au (st (Df rfl tv (st (c_ (Ay ⟨tv, tv⟩ rfl tv) (st (c_ (Ay ⟨tv, tv⟩ rfl tv) (st (c_ (Ay ⟨tv, tv⟩ rfl (nl rfl)) (st (c_ (Cn (e := At) (l0 := a0.Ac.Ad) rfl rfl tv) (o_ (Br 2 ⟨[(2, .ptr 128 0), (3, .ptr 192 0), (4, .ptr 256 0), (5, .ptr 320 0), (6, iV p27), (7, iV p28), (21, .bool (decide (p28 < (a0.Ac.Ad.length : Int))))], [(128, Ah a0), (192, Ar a1), (256, (Aj 0 0 (An 259) [] (An 260) [] (An 261) [] false)), (320, (Aj p29 p30 u_ p31 (An 961) r1.Aa u_ p32 r1.Al))], []⟩ (Dm h1 (fun c68 h1 => ?_) (fun c68 h1 => ?_))))))))))))))))
  ·refine Uv 3 (Np (fun S => ∃ p87 : Int, ∃ p88 : Int, ∃ p89 : Int, ∃ p90 : List Ab, ∃ p91 : List Int, S = ⟨[(2, .ptr 128 0), (3, .ptr 192 0), (4, .ptr 256 0), (5, .ptr 320 0), (6, iV p87), (7, iV p28)], [(128, Ah a0), (192, Ar a1), (256, (Aj 0 0 (An 259) [] (An 260) [] (An 261) [] false)), (320, (Aj p88 p89 u_ p90 (An 961) r1.Aa u_ p91 r1.Al))], []⟩ ∧ Sg p28 p87 p88 p89 p90 p91 = some o1) ?_ (fun J92 => ?_))
   ·rintro _ ⟨p87, p88, p89, p90, p91, rfl, h1⟩
    refine qU (Au (st (Df rfl tv (st (c_ (Ay t3 rfl tv) (st (Df rfl tv (Kj ?_))))))))
    obtain rfl := Option.some.inj h1
    exact hK1 _ rfl _ _ (Bw (by kernel_rfl)) rfl
   ·refine Bz ?_
    refine Au (st (c_ (Ay ⟨tv, tv⟩ rfl tv) (st (c_ (Ay ⟨tv, tv⟩ rfl tv) (st (c_ (Ay ⟨tv, tv⟩ rfl (nl rfl)) (st (Df rfl tv (bb h1 fun y93 e94 h1 => st (c_ (Cj (e := At) (y := y93) rfl rfl tv rfl rfl tv e94) (o_ (Br 4 ⟨[(2, .ptr 128 0), (3, .ptr 192 0), (4, .ptr 256 0), (5, .ptr 320 0), (6, iV p27), (7, iV p28), (8, iV y93.id)], [(128, Ah a0), (192, Ar a1), (256, (Aj 0 0 (An 259) [] (An 260) [] (An 261) [] false)), (320, (Aj p29 p30 u_ p31 (An 961) r1.Aa u_ p32 r1.Al))], []⟩ (Bz (Bz (Au (st (c_ (Ay ⟨tv, tv⟩ rfl tv) (st (c_ (Ay ⟨tv, tv⟩ rfl tv) (st (c_ (Ay ⟨tv, tv⟩ rfl (nl rfl)) (st (Df rfl tv (bb h1 fun y95 e96 h1 => st (c_ (Cj (e := At) (y := y95) rfl rfl tv rfl rfl tv e96) (o_ (Br 4 ⟨[(2, .ptr 128 0), (3, .ptr 192 0), (4, .ptr 256 0), (5, .ptr 320 0), (6, iV p27), (7, iV p28), (8, iV y93.id), (38, .bool (!y95.Bt))], [(128, Ah a0), (192, Ar a1), (256, (Aj 0 0 (An 259) [] (An 260) [] (An 261) [] false)), (320, (Aj p29 p30 u_ p31 (An 961) r1.Aa u_ p32 r1.Al))], []⟩ (Dm h1 (fun c97 h1 => ?_) (fun c97 h1 => ?_)))))))))))))))))))))))))))))
    ·refine ex_ rfl ?_
     exact J92 _ _ (Bw (by kernel_rfl)) ⟨_, _, _, _, _, rfl, h1⟩
    ·refine Uv 3 ?_
     obtain ⟨r98, e99, h1⟩ := bnd h1
     refine bb h1 fun r100 e101 h1 => Dh (Ak tv (c_ (Ay ⟨tv, tv⟩ rfl tv) (⟨tv, (Ak tv (c_ (Ay ⟨tv, tv⟩ rfl (nl rfl)) (⟨tv, (Ak tv (Df rfl tv (⟨tv, (Ak tv (c_ (v := .agg (Ar a1)) (Ay ⟨tv, tv⟩ rfl (nl rfl)) (⟨tv, (Ak tv (Df rfl tv (⟨tv, (Ci (Bv (r := iV r98) false (H145 a1 p27 r98 e99) ⟨tv, tv, tv⟩ rfl rfl (fun _ => rfl) (Jf ⟨[(2, .ptr 128 0), (3, .ptr 192 0), (4, .ptr 256 0), (5, .ptr 320 0), (6, iV p27), (7, iV p28), (8, iV y93.id), (40, .ptr 320 4), (41, lI p32), (42, iV y93.id), (45, iV r98)], [(128, Ah a0), (192, Ar a1), (256, (Aj 0 0 (An 259) [] (An 260) [] (An 261) [] false)), (320, (Aj p29 p30 u_ p31 (An 961) r1.Aa u_ p32 r1.Al))], []⟩ (Bw (by kernel_rfl)) ⟨[], ⟨⟨.inl tv, (Ao (Gs (v := iV y93.id) rfl tv) rfl)⟩, ⟨.inl tv, (Ao (Ay ⟨tv, tv⟩ rfl (nl rfl)) rfl)⟩, ⟨.inl tv, (Ao (Ay ⟨tv, tv⟩ rfl tv) rfl)⟩, tv⟩, tv, (Ci (Bv (r := .tup [lI r100.1, iV r100.2]) true (H86 p32 y93.id false r98 r100 e101) ⟨tv, tv, tv, tv, tv⟩ rfl rfl (fun h => nomatch h) (Jf ⟨[(2, .ptr 128 0), (3, .ptr 192 0), (4, .ptr 256 0), (5, .ptr 320 0), (6, iV p27), (7, iV p28), (8, iV y93.id), (46, .tup [lI r100.1, iV r100.2])], [(128, Ah a0), (192, Ar a1), (256, (Aj 0 0 (An 259) [] (An 260) [] (An 261) [] false)), (320, (Aj p29 p30 u_ p31 (An 961) r1.Aa u_ p32 r1.Al))], []⟩ (Bw (by kernel_rfl)) ⟨[], tv, tv, (d_ (Br 6 ⟨[(2, .ptr 128 0), (3, .ptr 192 0), (4, .ptr 256 0), (5, .ptr 320 0), (6, iV p27), (7, iV p28), (8, iV y93.id), (9, lI r100.1), (10, iV r100.2)], [(128, Ah a0), (192, Ar a1), (256, (Aj 0 0 (An 259) [] (An 260) [] (An 261) [] false)), (320, (Aj p29 p30 u_ p31 (An 961) r1.Aa u_ p32 r1.Al))], []⟩ (Bz (Au (st (Df rfl tv (st (c_ (Ay t3 rfl tv) ?_))))))))⟩)) Bp)⟩)) Bp)⟩)))⟩)))⟩)))⟩)))⟩)))
     refine o_ (Br 14 ⟨[(2, .ptr 128 0), (3, .ptr 192 0), (4, .ptr 256 0), (5, .ptr 320 0), (6, iV (IntKind.i64.wrap (p27 + 1))), (7, iV p28), (8, iV y93.id), (54, .bool (r100.2 == 0))], [(128, Ah a0), (192, Ar a1), (256, (Aj 0 0 (An 259) [] (An 260) [] (An 261) [] false)), (320, (Aj p29 p30 u_ p31 (An 961) r1.Aa u_ r100.1 r1.Al))], []⟩ (aX (cb := (r100.2 == 0)) (fun S => ∃ p105 : Int, ∃ p106 : Int, ∃ p107 : List Ab, S = ⟨[(2, .ptr 128 0), (3, .ptr 192 0), (4, .ptr 256 0), (5, .ptr 320 0), (6, iV (IntKind.i64.wrap (p27 + 1))), (7, iV p28)], [(128, Ah a0), (192, Ar a1), (256, (Aj 0 0 (An 259) [] (An 260) [] (An 261) [] false)), (320, (Aj p105 p106 u_ p107 (An 961) r1.Aa u_ r100.1 r1.Al))], []⟩ ∧ Pm a1 r1 p27 p28 r100 p105 p106 p107 = some o1) rfl ?_ (fun c112 J111 => ?_) (fun c112 J111 => ?_)))
     ·rintro _ ⟨p105, p106, p107, rfl, h1⟩
      refine Br 6 ⟨[(2, .ptr 128 0), (3, .ptr 192 0), (4, .ptr 256 0), (5, .ptr 320 0), (6, iV (IntKind.i64.wrap (p27 + 1))), (7, iV p28), (65, .bool (a1.stop == 2))], [(128, Ah a0), (192, Ar a1), (256, (Aj 0 0 (An 259) [] (An 260) [] (An 261) [] false)), (320, (Aj p105 p106 u_ p107 (An 961) r1.Aa u_ r100.1 r1.Al))], []⟩ (Dm h1 (fun oO h1 => ?_) (fun oO h1 => ?_))
      ·refine Bz (Au (st (c_ (v := .agg (Aj p105 p106 u_ p107 (An 961) r1.Aa u_ r100.1 r1.Al)) (Ay ⟨tv, tv⟩ rfl (nl rfl)) (bb h1 fun r109 e110 h1 => st (Bv (r := .agg (By r109 (An 0) (An 1) (An 2))) false (H133 (Ag.mk (Ai.mk p105 p106 p107) r1.Aa r100.1 r1.Al) r109 e110) ⟨tv, tv⟩ rfl rfl (fun _ => (Bs rfl (Bs rfl (Bs (Hr (fun _ => rfl)) (Bs (Hr (fun _ => rfl)) (Bs (Hr (fun _ => rfl)) (Bs rfl rfl))))))) (o_ ?_))))))
       obtain rfl := Option.some.inj h1
       obtain rfl := hx1 _ rfl
       obtain rfl := Option.some.inj h0
       exact aN 3 hR1 [4288, 4290]
      ·refine Nj (aR ?_)
       exact J92 _ _ (Bw (by kernel_rfl)) ⟨_, _, _, _, _, rfl, h1⟩
     ·replace h1 := ip c112 h1
      refine Au (st (c_ (Ay ⟨tv, tv⟩ rfl tv) (st (c_ (v := .agg (Bq p29 p30 u_ p31)) (Ay ⟨tv, tv⟩ rfl (nl rfl)) (st (Df rfl tv (bb h1 fun r113 e114 h1 => st (Bv (r := .tup [.agg (Aw r113.1), iV r113.2]) true (H76 (Ai.mk p29 p30 p31) y93.id r113 e114) ⟨tv, tv, tv⟩ rfl rfl (fun h => nomatch h) (st (Df rfl tv (st (c_ (Ay ⟨tv, tv⟩ rfl tv) (st (c_ (Ay ⟨tv, tv⟩ rfl tv) (st (c_ (Ay ⟨tv, tv⟩ rfl tv) (st (Ia rfl rfl tv rfl rfl rfl (nl rfl) (Kj ?_)))))))))))))))))))
      exact J111 _ _ (Bw (by kernel_rfl)) ⟨_, _, _, rfl, h1⟩
     ·replace h1 := wX c112 h1
      refine Nj ?_
      exact J111 _ _ (Bw (by kernel_rfl)) ⟨_, _, _, rfl, h1⟩
  ·obtain rfl := Option.some.inj h1
   obtain rfl := hx1 _ rfl
   refine Nc rfl ?_
   exact hE1 _ _ (Bw (by kernel_rfl)) ⟨_, _, _, _, _, rfl, rfl⟩

/- loop.example/g00149/spec.l09Step -/
def AV := [X_ 2 0, X_ 3 1, a_ 4 [(iV 0), (iV 0), (.own 259 0 4 []), (.own 260 0 2 []), (.own 261 0 1 []), (.bool false)], a_ 5 [(iV 0), (iV 0)]]
def AW := [f_ 11 3 0, l_ 12 11 1, q_ 13 56 [(.t 12), (.c (iV 1)), (.c (iV 6))], N_ 14 13, m_ 10 14]
def AX : List Ch := [L_ 15 2 6, ⟨some 16, .p (.build [(iV 0), (iV 0)] [(0, 1, (.c (iV 16)))]), none⟩, s_ 4 15 6, s_ 5 16 2]
def AY := [f_ 18 2 5, l_ 19 18 1, m_ 20 19, pT 20 21 (.fieldA (.t 3) 0), pT 20 22 (.load (.t 21) 1 false), pT 20 23 (.bin .neq (.t 22) (.c (iV 6))), pk 24 (.t 20) (.t 23) (.c (.bool false)), m_ 17 24]
def AZ : List Ch := [L_ 25 2 6, ⟨some 26, .p (.build [(iV 0), (iV 0)] [(0, 1, (.c (iV 14)))]), none⟩, s_ 4 25 6, s_ 5 26 2]
def BA := [f_ 27 2 0, L_ 28 27 3, a_ 6 [(iV 0), (iV 0), (.own 387 0 4 [])], s_ 6 28 3]
def BB := [i_ 7 0]
def BC := [L_ 29 2 6, q_ 30 102 [(.t 29)], a_ 8 [(iV 0), (iV 0), (.own 515 0 4 []), (.own 516 0 2 []), (.own 517 0 1 []), (.bool false)], s_ 8 30 6]
def BD := [f_ 31 3 0, l_ 32 31 1]
def BE := [B_ .eql 34 32 1, m_ 33 34]
def rR := [L_ 35 2 6, L_ 36 3 7, q_ 37 132 [(.t 35), (.t 36)], e_ 38 37 0, e_ 39 37 1, s_ 4 38 6, s_ 5 39 2]
def rS := [B_ .eql 41 32 2, m_ 40 41]
def rT := [f_ 43 2 0, L_ 44 43 3, f_ 45 3 1, l_ 46 45 1, f_ 47 3 2, l_ 48 47 1, q_ 49 79 [(.t 44), (.t 46), (.t 48)], m_ 42 49, e_ 50 42 0, e_ 51 42 1, s_ 6 50 3, m_ 7 51]
def rU := [L_ 52 6 3, f_ 53 8 0, s_ 53 52 3]
def rV := [B_ .eql 55 32 3, m_ 54 55]
def rW := [f_ 57 2 0, L_ 58 57 3, f_ 59 3 1, l_ 60 59 1, q_ 61 74 [(.t 58), (.t 60)], m_ 56 61, e_ 62 56 0, e_ 63 56 1, s_ 6 62 3, m_ 7 63]
def rX := [L_ 64 6 3, f_ 65 8 0, s_ 65 64 3]
def rY := [B_ .eql 67 32 4, m_ 66 67]
def rZ := [f_ 69 2 0, L_ 70 69 3, f_ 71 3 4, l_ 72 71 1, q_ 73 81 [(.t 70), (.t 72)], m_ 68 73, e_ 74 68 0, e_ 75 68 1, f_ 76 8 0, s_ 76 74 3]
def sA := [f_ 77 3 6, l_ 78 77 1, B_ .eql 79 78 1]
def sB : List Ch := [L_ 80 8 6, q_ 81 133 [(.t 80)], ⟨some 82, .p (.build [(iV 0), (iV 0)] [(0, 1, (.c (iV 15)))]), none⟩, s_ 4 81 6, s_ 5 82 2]
def sC := [L_ 83 8 6, a_ 9 [(iV 0), (iV 0), (.own 579 0 4 []), (.own 580 0 2 []), (.own 581 0 1 []), (.bool false)], s_ 9 83 6]
def sD := [L_ 84 8 6, L_ 85 3 7, q_ 86 134 [(.t 84), (.t 85)], s_ 8 86 6]
def sE := [f_ 87 8 5, l_ 88 87 1, m_ 89 88, pT 89 90 (.fieldA (.t 9) 5), pT 89 91 (.load (.t 90) 1 false), pT 89 92 (.un .not (.t 91)), pk 93 (.t 89) (.t 92) (.c (.bool false))]
def sF : List Ch := [L_ 94 8 6, ⟨some 95, .p (.build [(iV 0), (iV 0)] [(0, 1, (.c (iV 15)))]), none⟩, s_ 4 94 6, s_ 5 95 2]
def sG := [B_ .eql 97 32 5, m_ 96 97]
def sH : List Ch := [f_ 98 8 5, ⟨none, .store (.t 98) (.c (.bool true)) 1, none⟩]
def sI := [B_ .eql 100 32 6, m_ 99 100]
def sJ : List Ch := [f_ 101 8 5, ⟨none, .store (.t 101) (.c (.bool false)) 1, none⟩]
def sK := [m_ 102 7, B_ .neq 103 102 0]
def sL : List Ch := [L_ 104 2 6, m_ 105 7, ⟨some 106, .p (.build [(iV 0), (iV 0)] [(0, 1, (.t 105))]), none⟩, s_ 4 104 6, s_ 5 106 2]
def sM := [L_ 107 8 6, (iQ 108 (.build [(iV 0), (iV 0)] [])), s_ 4 107 6, s_ 5 108 2]
def AU : El := { np := 2, nt := 109, res := [.cell 4 6 true, .cell 5 2 true], body := (.seq (.reg AV) (.seq (.block 0 (.seq (.reg AW) (.ite (.t 10) (.seq (.reg AX) .ret) (.seq (.reg AY) (.ite (.t 17) (.seq (.reg AZ) .ret) .skip))))) (.seq (.reg BA) (.seq (.reg BB) (.seq (.reg BC) (.seq (.seq (.reg BD) (.block 1 (.seq (.reg BE) (.ite (.t 33) (.seq (.reg rR) .ret) (.seq (.reg rS) (.ite (.t 40) (.seq (.reg rT) (.reg rU)) (.seq (.reg rV) (.ite (.t 54) (.seq (.reg rW) (.reg rX)) (.seq (.reg rY) (.ite (.t 66) (.seq (.reg rZ) (.seq (.seq (.reg sA) (.ite (.t 79) (.seq (.reg sB) .ret) .skip)) (.seq (.reg sC) (.seq (.reg sD) (.seq (.reg sE) (.ite (.t 93) (.seq (.reg sF) .ret) .skip)))))) (.seq (.reg sG) (.ite (.t 96) (.reg sH) (.seq (.reg sI) (.ite (.t 99) (.reg sJ) .skip)))))))))))))) (.seq (.seq (.reg sK) (.ite (.t 103) (.seq (.reg sL) .ret) .skip)) (.seq (.reg sM) .ret)))))))) }
def VR (D : Bc) : Prop := ∀ (a0 : Ag) (a1 : Am) (r : Ag × Aq), vX a0 a1 = some r → D 101 ⟨[.agg (Ah a0), .agg (Ar a1)], []⟩ ⟨.tup [.agg (Ah r.1), .agg (Bx r.2)], [], []⟩
theorem F101 {C : Bc} (H56 : XG C) (H74 : K74 C) (H79 : K79 C) (H81 : K81 C) (H102 : jI C) (H132 : WC C) (H133 : rI C) (H134 : WE C) : VR (fun _ => Cp C AU) := by
 intro a0 a1 r h0
 refine Fe (nl rfl) (Br 6 ⟨[(2, .ptr 128 0), (3, .ptr 192 0), (4, .ptr 256 0), (5, .ptr 320 0)], [(128, Ah a0), (192, Ar a1), (256, (Aj 0 0 (An 259) [] (An 260) [] (An 261) [] false)), (320, [iV 0, iV 0])], []⟩ (Bu 5 (Au (bb h0 fun r1 e2 h0 => Re (H56 a1.kind 1 6 r1 e2) (o_ (Br 3 ⟨[(2, .ptr 128 0), (3, .ptr 192 0), (4, .ptr 256 0), (5, .ptr 320 0), (10, .bool (!r1))], [(128, Ah a0), (192, Ar a1), (256, (Aj 0 0 (An 259) [] (An 260) [] (An 261) [] false)), (320, [iV 0, iV 0])], []⟩ (Dm h0 (fun c3 h0 => ?_) (fun c3 h0 => ?_))))))))
 ·refine Bu 2 (Au (st (c_ (v := .agg [iV 16, iV 0]) (Ay ⟨tv, tv⟩ rfl ⟨⟨rfl, rfl, nl rfl⟩, tv⟩) (o_ ?_))))
  obtain rfl := Option.some.inj h0
  exact Dr 4
 ·refine SZ 10 ⟨[(2, .ptr 128 0), (3, .ptr 192 0), (4, .ptr 256 0), (5, .ptr 320 0), (17, .bool (bif a0.Al then (a1.kind != 6) else false))], [(128, Ah a0), (192, Ar a1), (256, (Aj 0 0 (An 259) [] (An 260) [] (An 261) [] false)), (320, [iV 0, iV 0])], []⟩ (Dm h0 (fun c4 h0 => ?_) (fun c4 h0 => ?_))
  ·refine Bu 2 (Au (st (c_ (v := .agg [iV 14, iV 0]) (Ay ⟨tv, tv⟩ rfl ⟨⟨rfl, rfl, nl rfl⟩, tv⟩) (o_ ?_))))
   obtain rfl := Option.some.inj h0
   exact Dr 4
  ·refine Br 13 ⟨[(2, .ptr 128 0), (3, .ptr 192 0), (4, .ptr 256 0), (5, .ptr 320 0), (6, .ptr 384 0), (7, iV 0)], [(128, Ah a0), (192, Ar a1), (256, (Aj 0 0 (An 259) [] (An 260) [] (An 261) [] false)), (320, [iV 0, iV 0]), (384, Aw a0.Ac)], []⟩ (Bu 2 (Au (bb h0 fun r5 e6 h0 => dE (H102 a0 r5 e6) (Bs rfl (Bs rfl (Bs (Hr (fun _ => rfl)) (Bs (Hr (fun _ => rfl)) (Bs (Hr (fun _ => rfl)) (Bs rfl rfl)))))) (o_ (Br 9 ⟨[(2, .ptr 128 0), (3, .ptr 192 0), (4, .ptr 256 0), (5, .ptr 320 0), (6, .ptr 384 0), (7, iV 0), (8, .ptr 512 0), (32, iV a1.kind)], [(128, Ah a0), (192, Ar a1), (256, (Aj 0 0 (An 259) [] (An 260) [] (An 261) [] false)), (320, [iV 0, iV 0]), (384, Aw a0.Ac), (512, By r5 (An 1920) (An 1921) (An 1922))], []⟩ (Np (fun S => ∃ p27 : Int, ∃ p28 : Int, ∃ p29 : Int, ∃ p30 : List Ab, ∃ p31 : List Af, ∃ p32 : List Int, ∃ p33 : Bool, S = ⟨[(2, .ptr 128 0), (4, .ptr 256 0), (5, .ptr 320 0), (7, iV p27), (8, .ptr 512 0)], [(128, Ah a0), (256, (Aj 0 0 (An 259) [] (An 260) [] (An 261) [] false)), (320, [iV 0, iV 0]), (512, (Aj p28 p29 u_ p30 (An 1921) p31 u_ p32 p33))], []⟩ ∧ Gy a0 p27 p28 p29 p30 p31 p32 p33 = some r) ?_ (fun J35 => ?_)))))))
   ·rintro _ ⟨p27, p28, p29, p30, p31, p32, p33, rfl, h0⟩
    refine Br 6 ⟨[(2, .ptr 128 0), (4, .ptr 256 0), (5, .ptr 320 0), (7, iV p27), (8, .ptr 512 0), (103, .bool (p27 != 0))], [(128, Ah a0), (256, (Aj 0 0 (An 259) [] (An 260) [] (An 261) [] false)), (320, [iV 0, iV 0]), (512, (Aj p28 p29 u_ p30 (An 1921) p31 u_ p32 p33))], []⟩ (Dm h0 (fun c34 h0 => ?_) (fun c34 h0 => ?_))
    ·refine Bu 3 (Au (st (c_ (v := .agg [iV p27, iV 0]) (Ay ⟨tv, tv⟩ rfl ⟨⟨rfl, rfl, nl rfl⟩, tv⟩) (o_ ?_))))
     obtain rfl := Option.some.inj h0
     exact Dr 4
    ·obtain rfl := Option.some.inj h0
     exact Dr 9 [1921]
   ·refine Bz ?_
    refine Br 3 ⟨[(2, .ptr 128 0), (3, .ptr 192 0), (4, .ptr 256 0), (5, .ptr 320 0), (6, .ptr 384 0), (7, iV 0), (8, .ptr 512 0), (32, iV a1.kind), (33, .bool (a1.kind == 1))], [(128, Ah a0), (192, Ar a1), (256, (Aj 0 0 (An 259) [] (An 260) [] (An 261) [] false)), (320, [iV 0, iV 0]), (384, Aw a0.Ac), (512, By r5 (An 1920) (An 1921) (An 1922))], []⟩ (Dm h0 (fun c36 h0 => ?_) (fun c36 h0 => ?_))
    ·refine Bu 3 (Au (bb h0 fun r37 e38 h0 => st (Bv (r := .tup [.agg (Ah r37.1), .agg (Bx r37.2)]) true (H132 a0 a1 r37 e38) ⟨tv, tv, tv⟩ rfl rfl (fun h => nomatch h) (o_ ?_))))
     obtain rfl := Option.some.inj h0
     exact Dr 6
    ·refine Br 4 ⟨[(2, .ptr 128 0), (3, .ptr 192 0), (4, .ptr 256 0), (5, .ptr 320 0), (6, .ptr 384 0), (7, iV 0), (8, .ptr 512 0), (32, iV a1.kind), (40, .bool (a1.kind == 2))], [(128, Ah a0), (192, Ar a1), (256, (Aj 0 0 (An 259) [] (An 260) [] (An 261) [] false)), (320, [iV 0, iV 0]), (384, Aw a0.Ac), (512, By r5 (An 1920) (An 1921) (An 1922))], []⟩ (Dm h0 (fun c39 h0 => ?_) (fun c39 h0 => ?_))
     ·refine Bu 7 (Au (bb h0 fun r40 e41 h0 => st (Bv (r := .tup [.agg (Aw r40.1), iV r40.2]) true (H79 a0.Ac a1.id a1.ttl r40 e41) ⟨tv, tv, tv, tv⟩ rfl rfl (fun h => nomatch h) (o_ (Br 6 ⟨[(2, .ptr 128 0), (4, .ptr 256 0), (5, .ptr 320 0), (6, .ptr 384 0), (7, iV r40.2), (8, .ptr 512 0)], [(128, Ah a0), (256, (Aj 0 0 (An 259) [] (An 260) [] (An 261) [] false)), (320, [iV 0, iV 0]), (384, Aw r40.1), (512, By r5 (An 1920) (An 1921) (An 1922))], []⟩ (Bu 5 ?_))))))
      exact J35 _ ⟨[(2, .ptr 128 0), (4, .ptr 256 0), (5, .ptr 320 0), (7, iV r40.2), (8, .ptr 512 0)], [(128, Ah a0), (256, (Aj 0 0 (An 259) [] (An 260) [] (An 261) [] false)), (320, [iV 0, iV 0]), (512, (Aj r40.1.clock r40.1.next u_ r40.1.Ad (An 1921) r5.Aa u_ r5.Ae r5.Al))], []⟩ (jX [1922] (by kernel_rfl)) ⟨_, _, _, _, _, _, _, rfl, h0⟩
     ·refine Br 4 ⟨[(2, .ptr 128 0), (3, .ptr 192 0), (4, .ptr 256 0), (5, .ptr 320 0), (6, .ptr 384 0), (7, iV 0), (8, .ptr 512 0), (32, iV a1.kind), (54, .bool (a1.kind == 3))], [(128, Ah a0), (192, Ar a1), (256, (Aj 0 0 (An 259) [] (An 260) [] (An 261) [] false)), (320, [iV 0, iV 0]), (384, Aw a0.Ac), (512, By r5 (An 1920) (An 1921) (An 1922))], []⟩ (Dm h0 (fun c42 h0 => ?_) (fun c42 h0 => ?_))
      ·refine Bu 5 (Au (bb h0 fun r43 e44 h0 => st (Bv (r := .tup [.agg (Aw r43.1), iV r43.2]) true (H74 a0.Ac a1.id r43 e44) ⟨tv, tv, tv⟩ rfl rfl (fun h => nomatch h) (o_ (Br 6 ⟨[(2, .ptr 128 0), (4, .ptr 256 0), (5, .ptr 320 0), (6, .ptr 384 0), (7, iV r43.2), (8, .ptr 512 0)], [(128, Ah a0), (256, (Aj 0 0 (An 259) [] (An 260) [] (An 261) [] false)), (320, [iV 0, iV 0]), (384, Aw r43.1), (512, By r5 (An 1920) (An 1921) (An 1922))], []⟩ (Bu 5 ?_))))))
       exact J35 _ ⟨[(2, .ptr 128 0), (4, .ptr 256 0), (5, .ptr 320 0), (7, iV r43.2), (8, .ptr 512 0)], [(128, Ah a0), (256, (Aj 0 0 (An 259) [] (An 260) [] (An 261) [] false)), (320, [iV 0, iV 0]), (512, (Aj r43.1.clock r43.1.next u_ r43.1.Ad (An 1921) r5.Aa u_ r5.Ae r5.Al))], []⟩ (jX [1922] (by kernel_rfl)) ⟨_, _, _, _, _, _, _, rfl, h0⟩
      ·refine Br 4 ⟨[(2, .ptr 128 0), (3, .ptr 192 0), (4, .ptr 256 0), (5, .ptr 320 0), (7, iV 0), (8, .ptr 512 0), (32, iV a1.kind), (66, .bool (a1.kind == 4))], [(128, Ah a0), (192, Ar a1), (256, (Aj 0 0 (An 259) [] (An 260) [] (An 261) [] false)), (320, [iV 0, iV 0]), (512, By r5 (An 1920) (An 1921) (An 1922))], []⟩ (Dm h0 (fun c45 h0 => ?_) (fun c45 h0 => ?_))
       ·refine Bu 5 (Au (bb h0 fun r46 e47 h0 => dE (H81 a0.Ac a1.clock r46 e47) (Bs rfl (Bs rfl (Bs (Hr (fun _ => rfl)) (Bs (Hr (fun _ => rfl)) rfl)))) (o_ (Br 13 ⟨[(2, .ptr 128 0), (3, .ptr 192 0), (4, .ptr 256 0), (5, .ptr 320 0), (7, iV 0), (8, .ptr 512 0), (79, .bool (a1.stop == 1))], [(128, Ah a0), (192, Ar a1), (256, (Aj 0 0 (An 259) [] (An 260) [] (An 261) [] false)), (320, [iV 0, iV 0]), (512, (Aj r46.1.clock r46.1.next (An 4672) r46.1.Ad (An 1921) r5.Aa (An 1922) r5.Ae r5.Al))], []⟩ (Dm h0 (fun UN h0 => ?_) (fun UN h0 => ?_))))))
        ·refine Bu 2 (Au (bb h0 fun r49 e50 h0 => dE (H133 (Ag.mk r46.1 r5.Aa r5.Ae r5.Al) r49 e50) (Bs rfl (Bs rfl (Bs (Hr (fun _ => rfl)) (Bs (Hr (fun _ => rfl)) (Bs (Hr (fun _ => rfl)) (Bs rfl rfl)))))) (st (c_ (v := .agg [iV 15, iV 0]) (Ay ⟨tv, tv⟩ rfl ⟨⟨rfl, rfl, nl rfl⟩, tv⟩) (o_ ?_)))))
         obtain rfl := Option.some.inj h0
         exact Dr 4 [5184, 5185, 5186]
        ·refine Br 7 ⟨[(2, .ptr 128 0), (3, .ptr 192 0), (4, .ptr 256 0), (5, .ptr 320 0), (7, iV 0), (8, .ptr 512 0), (9, .ptr 576 0)], [(128, Ah a0), (192, Ar a1), (256, (Aj 0 0 (An 259) [] (An 260) [] (An 261) [] false)), (320, [iV 0, iV 0]), (512, (Aj r46.1.clock r46.1.next (An 4672) r46.1.Ad (An 1921) r5.Aa (An 1922) r5.Ae r5.Al)), (576, (Aj r46.1.clock r46.1.next (An 4672) r46.1.Ad (An 1921) r5.Aa (An 1922) r5.Ae r5.Al))], []⟩ (Bu 3 (Au (bb h0 fun r51 e52 h0 => st (Bv (r := .agg (By r51 u_ (An 0) u_)) true (H134 (Ag.mk r46.1 r5.Aa r5.Ae r5.Al) a1 r51 e52) ⟨tv, tv, tv⟩ rfl rfl (fun h => nomatch h) (o_ (SZ 12 ⟨[(2, .ptr 128 0), (4, .ptr 256 0), (5, .ptr 320 0), (7, iV 0), (8, .ptr 512 0), (93, .bool (bif r51.Al then (!r5.Al) else false))], [(128, Ah a0), (256, (Aj 0 0 (An 259) [] (An 260) [] (An 261) [] false)), (320, [iV 0, iV 0]), (512, By r51 u_ (An 5504) u_)], []⟩ (Dm h0 (fun zY h0 => ?_) (fun zY h0 => ?_))))))))
         ·refine Bu 2 (Au (st (c_ (v := .agg [iV 15, iV 0]) (Ay ⟨tv, tv⟩ rfl ⟨⟨rfl, rfl, nl rfl⟩, tv⟩) (o_ ?_))))
          obtain rfl := Option.some.inj h0
          exact Dr 4 [5504]
         ·refine Nj (aR ?_)
          exact J35 _ ⟨[(2, .ptr 128 0), (4, .ptr 256 0), (5, .ptr 320 0), (7, iV 0), (8, .ptr 512 0)], [(128, Ah a0), (256, (Aj 0 0 (An 259) [] (An 260) [] (An 261) [] false)), (320, [iV 0, iV 0]), (512, By r51 u_ (An 1921) u_)], []⟩ (dJ [] [(5504, 1921)] rfl (by kernel_rfl)) ⟨_, _, _, _, _, _, _, rfl, h0⟩
       ·refine Br 4 ⟨[(2, .ptr 128 0), (4, .ptr 256 0), (5, .ptr 320 0), (7, iV 0), (8, .ptr 512 0), (32, iV a1.kind), (96, .bool (a1.kind == 5))], [(128, Ah a0), (256, (Aj 0 0 (An 259) [] (An 260) [] (An 261) [] false)), (320, [iV 0, iV 0]), (512, By r5 (An 1920) (An 1921) (An 1922))], []⟩ (Dm h0 (fun c54 h0 => ?_) (fun c54 h0 => ?_))
        ·refine Bu 4 ?_
         exact J35 _ ⟨[(2, .ptr 128 0), (4, .ptr 256 0), (5, .ptr 320 0), (7, iV 0), (8, .ptr 512 0)], [(128, Ah a0), (256, (Aj 0 0 (An 259) [] (An 260) [] (An 261) [] false)), (320, [iV 0, iV 0]), (512, (Aj r5.Ac.clock r5.Ac.next u_ r5.Ac.Ad (An 1921) r5.Aa u_ r5.Ae true))], []⟩ (jX [1920, 1922] (by kernel_rfl)) ⟨_, _, _, _, _, _, _, rfl, h0⟩
        ·refine Br 4 ⟨[(2, .ptr 128 0), (4, .ptr 256 0), (5, .ptr 320 0), (7, iV 0), (8, .ptr 512 0), (99, .bool (a1.kind == 6))], [(128, Ah a0), (256, (Aj 0 0 (An 259) [] (An 260) [] (An 261) [] false)), (320, [iV 0, iV 0]), (512, By r5 (An 1920) (An 1921) (An 1922))], []⟩ (Dm h0 (fun c55 h0 => ?_) (fun c55 h0 => ?_))
         ·refine Bu 4 ?_
          exact J35 _ ⟨[(2, .ptr 128 0), (4, .ptr 256 0), (5, .ptr 320 0), (7, iV 0), (8, .ptr 512 0)], [(128, Ah a0), (256, (Aj 0 0 (An 259) [] (An 260) [] (An 261) [] false)), (320, [iV 0, iV 0]), (512, (Aj r5.Ac.clock r5.Ac.next u_ r5.Ac.Ad (An 1921) r5.Aa u_ r5.Ae false))], []⟩ (jX [1920, 1922] (by kernel_rfl)) ⟨_, _, _, _, _, _, _, rfl, h0⟩
         ·refine Nj (aR ?_)
          exact J35 _ ⟨[(2, .ptr 128 0), (4, .ptr 256 0), (5, .ptr 320 0), (7, iV 0), (8, .ptr 512 0)], [(128, Ah a0), (256, (Aj 0 0 (An 259) [] (An 260) [] (An 261) [] false)), (320, [iV 0, iV 0]), (512, By r5 u_ (An 1921) u_)], []⟩ (jX [1920, 1922] (by kernel_rfl)) ⟨_, _, _, _, _, _, _, rfl, h0⟩

/- loop.example/g00149/spec.RunVault -/
def ZG : List Ch := [a_ 2 [(iV 0), (iV 0), (.own 131 0 4 []), (.own 132 0 2 []), (.own 133 0 1 []), (.bool false)], ⟨some 3, .nilS 2, none⟩, i_ 4 0]
def ZH := [m_ 10 0, n_ 11 10, B_ .gtr 12 11 4096]
def ZI : List Ch := [(iQ 13 (.build [(iV 0), (iV 0), (.own 835 0 4 []), (.own 836 0 2 []), (.own 837 0 1 []), (.bool false)] [])), ⟨some 14, .mkS 2 [(iV 0), (iV 0)] 0 [], none⟩, s_ 2 13 6, m_ 3 14, i_ 4 2]
def ZJ := [m_ 15 0, n_ 16 15, B_ .gtr 17 16 120]
def ZK : List Ch := [(iQ 18 (.build [(iV 0), (iV 0), (.own 1155 0 4 []), (.own 1156 0 2 []), (.own 1157 0 1 []), (.bool false)] [])), ⟨some 19, .mkS 2 [(iV 0), (iV 0)] 0 [], none⟩, s_ 2 18 6, m_ 3 19, i_ 4 6]
def ZL : List Ch := [⟨some 20, .p (.build [(iV 0), (iV 0), (.own 1283 0 4 [])] [(1, 1, (.c (iV 1)))]), none⟩, ⟨some 21, .p (.build [(iV 0), (iV 0), (.own 1347 0 4 []), (.own 1348 0 2 []), (.own 1349 0 1 []), (.bool false)] [(0, 3, (.t 20))]), none⟩, a_ 5 [(iV 0), (iV 0), (.own 323 0 4 []), (.own 324 0 2 []), (.own 325 0 1 []), (.bool false)], s_ 5 21 6]
def ZM : List Ch := [⟨some 22, .mkS 2 [(iV 0), (iV 0)] 0 [], none⟩, m_ 6 22]
def ZN := [i_ 7 0]
def ZO := [m_ 23 7, m_ 24 0, n_ 25 24, b_ .lss 26 23 25]
def ZP := [m_ 29 0, m_ 30 7, x_ 31 29 30 7, L_ 32 31 7, q_ 33 100 [(.t 32)], N_ 34 33]
def PN : List Ch := [(iQ 35 (.build [(iV 0), (iV 0), (.own 2243 0 4 []), (.own 2244 0 2 []), (.own 2245 0 1 []), (.bool false)] [])), ⟨some 36, .mkS 2 [(iV 0), (iV 0)] 0 [], none⟩, s_ 2 35 6, m_ 3 36, i_ 4 1]
def PO := tk [L_ 38 5 6, m_ 39 0, m_ 40 7, x_ 41 39 40 7, L_ 42 41 7] (.alt [] (q_ 43 101 [(.t 38), (.t 42)]) (tk [m_ 37 43, e_ 44 37 0, e_ 45 37 1] (.alt [e_ 45 37 1, e_ 44 37 0, m_ 37 43] (a_ 8 [(iV 0), (iV 0), (.own 515 0 4 []), (.own 516 0 2 []), (.own 517 0 1 []), (.bool false)]) (.alt [e_ 45 37 1, e_ 44 37 0, m_ 37 43] (a_ 9 [(iV 0), (iV 0)]) (.alt [e_ 45 37 1] (s_ 8 44 6) (.alt [] (s_ 9 45 2) .fin .stop) .stop) .stop) (.alt [e_ 45 37 1, e_ 44 37 0, m_ 37 43] (a_ 9 [(iV 0), (iV 0)]) (.alt [e_ 45 37 1, e_ 44 37 0, m_ 37 43] (a_ 8 [(iV 0), (iV 0), (.own 515 0 4 []), (.own 516 0 2 []), (.own 517 0 1 []), (.bool false)]) (.alt [e_ 45 37 1] (s_ 8 44 6) (.alt [] (s_ 9 45 2) .fin .stop) .stop) .stop) .stop))) (.alt [L_ 42 41 7, x_ 41 39 40 7, m_ 40 7, m_ 39 0, L_ 38 5 6] (a_ 8 [(iV 0), (iV 0), (.own 515 0 4 []), (.own 516 0 2 []), (.own 517 0 1 []), (.bool false)]) (.alt [] (q_ 43 101 [(.t 38), (.t 42)]) (tk [m_ 37 43, e_ 44 37 0, e_ 45 37 1] (.alt [e_ 45 37 1, e_ 44 37 0, m_ 37 43] (a_ 9 [(iV 0), (iV 0)]) (.alt [e_ 45 37 1] (s_ 8 44 6) (.alt [] (s_ 9 45 2) .fin .stop) .stop) .stop)) (.alt [L_ 42 41 7, x_ 41 39 40 7, m_ 40 7, m_ 39 0, L_ 38 5 6] (a_ 9 [(iV 0), (iV 0)]) (.alt [] (q_ 43 101 [(.t 38), (.t 42)]) (tk [m_ 37 43, e_ 44 37 0, e_ 45 37 1] (.alt [e_ 45 37 1] (s_ 8 44 6) (.alt [] (s_ 9 45 2) .fin .stop) .stop)) .stop) .stop)) (.alt [L_ 42 41 7, x_ 41 39 40 7, m_ 40 7, m_ 39 0, L_ 38 5 6] (a_ 9 [(iV 0), (iV 0)]) (.alt [] (q_ 43 101 [(.t 38), (.t 42)]) (tk [m_ 37 43, e_ 44 37 0, e_ 45 37 1] (.alt [e_ 45 37 1, e_ 44 37 0, m_ 37 43] (a_ 8 [(iV 0), (iV 0), (.own 515 0 4 []), (.own 516 0 2 []), (.own 517 0 1 []), (.bool false)]) (.alt [e_ 45 37 1] (s_ 8 44 6) (.alt [] (s_ 9 45 2) .fin .stop) .stop) .stop)) (.alt [L_ 42 41 7, x_ 41 39 40 7, m_ 40 7, m_ 39 0, L_ 38 5 6] (a_ 8 [(iV 0), (iV 0), (.own 515 0 4 []), (.own 516 0 2 []), (.own 517 0 1 []), (.bool false)]) (.alt [] (q_ 43 101 [(.t 38), (.t 42)]) (tk [m_ 37 43, e_ 44 37 0, e_ 45 37 1] (.alt [e_ 45 37 1] (s_ 8 44 6) (.alt [] (s_ 9 45 2) .fin .stop) .stop)) .stop) .stop)) .stop)))
def PP := [L_ 46 8 6, s_ 5 46 6]
def PQ : List Ch := [m_ 47 6, L_ 48 9 2, ⟨some 49, .mkS 2 [(iV 0), (iV 0)] 1 [(0, (.t 48))], none⟩, ⟨some 50, .app 2 16 (.t 47) (.t 49), none⟩, m_ 6 50]
def PR := [m_ 27 7, B_ .add 28 27 1, m_ 7 28]
def ZF : IR := (.seq (.seq (.reg ZO) (.ite (.t 26) .skip (.exit 0))) (.seq (.block 1 (.seq (.seq (.reg ZP) (.ite (.t 34) (.seq (.reg PN) .ret) .skip)) (.seq (.draw PO) (.seq (.reg PP) (.reg PQ))))) (.reg PR)))
def PS := [L_ 51 5 6, q_ 52 102 [(.t 51)], m_ 53 6, s_ 2 52 6, m_ 3 53, i_ 4 0]
def UO : El := { np := 1, nt := 54, res := [.cell 2 6 true, .t 3, .t 4], body := (.seq (.reg ZG) (.seq (.seq (.reg ZH) (.ite (.t 12) (.seq (.reg ZI) .ret) .skip)) (.seq (.seq (.reg ZJ) (.ite (.t 17) (.seq (.reg ZK) .ret) .skip)) (.seq (.reg ZL) (.seq (.reg ZM) (.seq (.seq (.reg ZN) (.block 0 (.loop ZF))) (.seq (.reg PS) .ret))))))) }
def K50 (D : Bc) : Prop := ∀ (a0 : List Am) (r : Ag × (List Aq) × Int), g50 a0 = some r → D 50 ⟨[Cq a0], []⟩ ⟨.tup [.agg (By r.1 (An 0) (An 1) (An 2)), Cs 3 r.2.1, iV r.2.2], [], []⟩
theorem F50 {C : Bc} (H100 : VQ C) (H101 : VR C) (H102 : jI C) : K50 (fun _ => Cp C UO) := by
 intro a0 r h0
 refine Fe (nl rfl) (Br 5 ⟨[(0, Cq a0), (2, .ptr 128 0)], [(128, (Aj 0 0 (An 131) [] (An 132) [] (An 133) [] false))], []⟩ (Bz (Bz (Au (st (Df rfl tv (st (c_ (Cn (e := Ar) (l0 := a0) rfl rfl tv) (o_ (Br 2 ⟨[(0, Cq a0), (2, .ptr 128 0), (12, .bool (decide ((a0.length : Int) > 4096)))], [(128, (Aj 0 0 (An 131) [] (An 132) [] (An 133) [] false))], []⟩ (Dm h0 (fun c1 h0 => ?_) (fun c1 h0 => ?_))))))))))))
 ·obtain rfl := Option.some.inj h0
  exact Dr 8
 ·refine Nj (qU (Bz (Bz (Au (st (Df rfl tv (st (c_ (Cn (e := Ar) (l0 := a0) rfl rfl tv) (o_ (Br 2 ⟨[(0, Cq a0), (2, .ptr 128 0), (17, .bool (decide ((a0.length : Int) > 120)))], [(128, (Aj 0 0 (An 131) [] (An 132) [] (An 133) [] false))], []⟩ (Dm h0 (fun c2 h0 => ?_) (fun c2 h0 => ?_))))))))))))
  ·obtain rfl := Option.some.inj h0
   exact Dr 8
  ·refine Uv 3 (Au (st (c_ (v := .agg (Bq 0 1 (An 1283) [])) (Ay ⟨tv, tv⟩ rfl ⟨⟨rfl, rfl, nl rfl⟩, tv⟩) (st (c_ (v := .agg (Aj 0 1 (An 1283) [] (An 1348) [] (An 1349) [] false)) (Ay ⟨tv, tv⟩ rfl ⟨⟨rfl, rfl, nl rfl⟩, tv⟩) (o_ (Br 13 ⟨[(0, Cq a0), (2, .ptr 128 0), (5, .ptr 320 0), (6, Cs 1408 []), (7, iV 0)], [(128, (Aj 0 0 (An 131) [] (An 132) [] (An 133) [] false)), (320, (Aj 0 1 (An 1283) [] (An 1348) [] (An 1349) [] false))], []⟩ (Cr (bb h0 fun r62 e63 h0 => Dt (R := (fun S => ∃ p43 : List Aq, ∃ p44 : Int, ∃ p45 : Int, ∃ p46 : List Ab, ∃ p47 : List Af, ∃ p48 : List Int, ∃ p49 : Bool, .inl (p43, p44, p45, p46, p47, p48, p49) = r62 ∧ S = ⟨[(2, .ptr 128 0), (5, .ptr 320 0), (6, Cs 1408 p43)], [(128, (Aj 0 0 (An 131) [] (An 132) [] (An 133) [] false)), (320, (Aj p44 p45 u_ p46 u_ p47 u_ p48 p49))], []⟩)) (eN a0) (fun s S => match s with | (p15, p16, p17, p18, p19, p20, p21, p22) => S = ⟨[(0, Cq a0), (2, .ptr 128 0), (5, .ptr 320 0), (6, Cs 1408 p15), (7, iV p16)], [(128, (Aj 0 0 (An 131) [] (An 132) [] (An 133) [] false)), (320, (Aj p17 p18 u_ p19 u_ p20 u_ p21 p22))], []⟩) e63 ⟨[(0, Cq a0), (2, .ptr 128 0), (5, .ptr 320 0), (6, Cs 1408 []), (7, iV 0)], [(128, (Aj 0 0 (An 131) [] (An 132) [] (An 133) [] false)), (320, (Aj 0 1 u_ [] u_ [] u_ [] false))], []⟩ (jX [1283, 1348, 1349] (by kernel_rfl)) rfl 0 (fun _ => rfl) ?_ ?_)))))))))
   ·rintro S _ hfg ⟨p43, p44, p45, p46, p47, p48, p49, rfl, rfl⟩
    refine Dv _ hfg (Bz (Au (st (c_ (v := .agg (Aj p44 p45 u_ p46 u_ p47 u_ p48 p49)) (Ay ⟨tv, tv⟩ rfl (nl rfl)) (bb h0 fun r64 e65 h0 => st (Bv (r := .agg (By r64 (An 0) (An 1) (An 2))) false (H102 (Ag.mk (Ai.mk p44 p45 p46) p47 p48 p49) r64 e65) ⟨tv, tv⟩ rfl rfl (fun _ => (Bs rfl (Bs rfl (Bs (Hr (fun _ => rfl)) (Bs (Hr (fun _ => rfl)) (Bs (Hr (fun _ => rfl)) (Bs rfl rfl))))))) (o_ ?_)))))))
    obtain rfl := Option.some.inj h0
    exact Dr 6
   ·rintro ⟨p15, p16, p17, p18, p19, p20, p21, p22⟩ o1 _ K1 rfl h1 hx1 hK1 hE1 hR1
    refine Bz (Bz (Au (st (Df rfl tv (st (Df rfl tv (st (c_ (Cn (e := Ar) (l0 := a0) rfl rfl tv) (o_ (Br 2 ⟨[(0, Cq a0), (2, .ptr 128 0), (5, .ptr 320 0), (6, Cs 1408 p15), (7, iV p16), (26, .bool (decide (p16 < (a0.length : Int))))], [(128, (Aj 0 0 (An 131) [] (An 132) [] (An 133) [] false)), (320, (Aj p17 p18 u_ p19 u_ p20 u_ p21 p22))], []⟩ (Dm h1 (fun UO h1 => ?_) (fun UO h1 => ?_))))))))))))
    ·refine Nj (qU (Bz (Cr (Bz (Bz (Au (st (Df rfl tv (st (Df rfl tv (bb h1 fun y51 e52 h1 => st (c_ (Cj (e := Ar) (y := y51) rfl rfl tv rfl rfl tv e52) (st (c_ (v := .agg (Ar y51)) (Ay ⟨tv, tv⟩ rfl (nl rfl)) (bb h1 fun r53 e54 h1 => st (Bv (r := .bool r53) false (H100 y51 r53 e54) ⟨tv, tv⟩ rfl rfl (fun _ => rfl) (o_ (Br 2 ⟨[(0, Cq a0), (2, .ptr 128 0), (5, .ptr 320 0), (6, Cs 1408 p15), (7, iV p16), (34, .bool (!r53))], [(128, (Aj 0 0 (An 131) [] (An 132) [] (An 133) [] false)), (320, (Aj p17 p18 u_ p19 u_ p20 u_ p21 p22))], []⟩ (Dm h1 (fun c55 h1 => ?_) (fun c55 h1 => ?_))))))))))))))))))))
     ·obtain rfl := Option.some.inj h1
      obtain rfl := hx1 _ rfl
      obtain rfl := Option.some.inj h0
      exact aN 8 hR1
     ·refine Uv 3 ?_
      obtain ⟨y56, e57, h1⟩ := bnd h1
      refine bb h1 fun r58 e59 h1 => drawJ (fun S => S = ⟨[(0, Cq a0), (2, .ptr 128 0), (5, .ptr 320 0), (6, Cs 1408 p15), (7, iV p16), (8, .ptr 512 0), (9, .ptr 576 0)], [(128, (Aj 0 0 (An 131) [] (An 132) [] (An 133) [] false)), (320, (Aj p17 p18 u_ p19 u_ p20 u_ p21 p22)), (512, Ah r58.1), (576, Bx r58.2)], []⟩) ?_ (fun J60 => ?_)
      ·rintro _ rfl
       refine Br 4 ⟨[(0, Cq a0), (2, .ptr 128 0), (5, .ptr 320 0), (6, Cs 1408 p15), (7, iV p16), (9, .ptr 576 0)], [(128, (Aj 0 0 (An 131) [] (An 132) [] (An 133) [] false)), (320, Ah r58.1), (576, Bx r58.2)], []⟩ (Au (st (Df rfl tv (st (c_ (v := .agg (Bx r58.2)) (Ay ⟨tv, tv⟩ rfl (nl rfl)) (st (Ni ⟨tv, tv⟩ ⟨⟨nl rfl, rfl, rfl⟩, tv⟩ (gg h1 fun c61 h1 => st (Hj (e := Bx) (l0 := p15) (l1 := ([r58.2] : List Aq)) rfl rfl tv rfl (by decide) c61 (o_ (Br 3 ⟨[(0, Cq a0), (2, .ptr 128 0), (5, .ptr 320 0), (6, Cs 1408 (p15 ++ ([r58.2] : List Aq))), (7, iV p16)], [(128, (Aj 0 0 (An 131) [] (An 132) [] (An 133) [] false)), (320, Ah r58.1)], []⟩ (Au (st (Df rfl tv (st (c_ (Ay t3 rfl tv) (st (Df rfl tv (Kj ?_)))))))))))))))))))
       obtain rfl := Option.some.inj h1
       exact hK1 _ rfl _ _ (Bw (by kernel_rfl)) rfl
      ·refine Ak tv (c_ (v := .agg (Aj p17 p18 u_ p19 u_ p20 u_ p21 p22)) (Ay ⟨tv, tv⟩ rfl (nl rfl)) ?_)
       refine ⟨tv, (Ak tv (Df rfl tv (⟨tv, (Ak tv (Df rfl tv (⟨tv, (Ak tv (c_ (Cj (e := Ar) (y := y56) rfl rfl tv rfl rfl tv e57) (⟨tv, (Ak tv (c_ (v := .agg (Ar y56)) (Ay ⟨tv, tv⟩ rfl (nl rfl)) (⟨tv, (Ci (Bv (r := .tup [.agg (Ah r58.1), .agg (Bx r58.2)]) true (H101 (Ag.mk (Ai.mk p17 p18 p19) p20 p21 p22) y56 r58 e59) ⟨tv, tv, tv⟩ rfl rfl (fun h => nomatch h) ?_) ?_)⟩)))⟩)))⟩)))⟩)))⟩
       ·refine Jf ⟨[(0, Cq a0), (2, .ptr 128 0), (5, .ptr 320 0), (6, Cs 1408 p15), (7, iV p16), (43, .tup [.agg (Ah r58.1), .agg (Bx r58.2)])], [(128, (Aj 0 0 (An 131) [] (An 132) [] (An 133) [] false)), (320, (Aj p17 p18 u_ p19 u_ p20 u_ p21 p22))], []⟩ (Bw (by kernel_rfl)) ⟨[], tv, tv, ?_⟩
        refine Ak tv (Df rfl tv (⟨tv, (Ak tv (c_ (Ay ⟨tv, tv⟩ rfl tv) (⟨tv, (Ak tv (c_ (Ay ⟨tv, tv⟩ rfl tv) (⟨tv, (Ci (Jo ?_) ?_)⟩)))⟩)))⟩))
        ·refine Jr ⟨[], ⟨⟨.inl tv, (Ao (Ay ⟨tv, tv⟩ rfl tv) rfl)⟩, ⟨.inl tv, (Ao (Ay ⟨tv, tv⟩ rfl tv) rfl)⟩, ⟨.inl tv, (Ao (Gs (v := .tup [.agg (Ah r58.1), .agg (Bx r58.2)]) rfl tv) rfl)⟩, tv⟩, tv, ?_⟩
         refine Ci (Jo (Jr ⟨[], ⟨⟨.inl tv, (Ao (Ay ⟨tv, tv⟩ rfl tv) rfl)⟩, ⟨.inl tv, (Ao (Ay ⟨tv, tv⟩ rfl tv) rfl)⟩, ⟨.inl tv, (Ao (Gs (v := .tup [.agg (Ah r58.1), .agg (Bx r58.2)]) rfl tv) rfl)⟩, tv⟩, tv, (Ci (Ia rfl rfl tv rfl rfl rfl (nl rfl) (Jr ⟨[], ⟨⟨.inl tv, (Ao (Ay ⟨tv, tv⟩ rfl tv) rfl)⟩, tv⟩, tv, (Ci (Ia rfl rfl tv rfl rfl rfl (nl rfl) (Jr ⟨[], tv, tv, (Nt ?_)⟩)) Bp)⟩)) Bp)⟩)) Bp
         exact J60 _ _ (Bw (by kernel_rfl)) rfl
        ·refine Ci (Jo ?_) Bp
         refine Jr ⟨[], ⟨⟨.inl tv, (Ao (Ay ⟨tv, tv⟩ rfl tv) rfl)⟩, ⟨.inl tv, (Ao (Ay ⟨tv, tv⟩ rfl tv) rfl)⟩, ⟨.inl tv, (Ao (Gs (v := .tup [.agg (Ah r58.1), .agg (Bx r58.2)]) rfl tv) rfl)⟩, tv⟩, tv, (Ci (Jo (Jr ⟨[], ⟨⟨.inl tv, (Ao (Ay ⟨tv, tv⟩ rfl tv) rfl)⟩, ⟨.inl tv, (Ao (Ay ⟨tv, tv⟩ rfl tv) rfl)⟩, ⟨.inl tv, (Ao (Gs (v := .tup [.agg (Ah r58.1), .agg (Bx r58.2)]) rfl tv) rfl)⟩, tv⟩, tv, (Ci (Ia rfl rfl tv rfl rfl rfl (nl rfl) (Jr ⟨[], ⟨⟨.inl tv, (Ao (Ay ⟨tv, tv⟩ rfl tv) rfl)⟩, tv⟩, tv, (Ci (Ia rfl rfl tv rfl rfl rfl (nl rfl) (Jr ⟨[], tv, tv, (Nt ?_)⟩)) Bp)⟩)) Bp)⟩)) Bp)⟩
         exact J60 _ _ (Bw (by kernel_rfl)) rfl
       ·refine Ci (Jo ?_) ?_
        ·refine Jr ⟨[], ⟨⟨.inl tv, (Ao (Ay ⟨tv, tv⟩ rfl (nl rfl)) rfl)⟩, ⟨.inl tv, (Ao (Cj (e := Ar) (y := y56) rfl rfl tv rfl rfl tv e57) rfl)⟩, ⟨.inl tv, (Ao (Gs (v := iV p16) rfl tv) rfl)⟩, ⟨.inl tv, (Ao (Gs (v := Cq a0) rfl tv) rfl)⟩, ⟨.inl tv, (Ao (Ay ⟨tv, tv⟩ rfl (nl rfl)) rfl)⟩, tv⟩, tv, ?_⟩
         refine Ci (Bv (r := .tup [.agg (Ah r58.1), .agg (Bx r58.2)]) true (H101 (Ag.mk (Ai.mk p17 p18 p19) p20 p21 p22) y56 r58 e59) ⟨tv, tv, tv⟩ rfl rfl (fun h => nomatch h) ?_) ?_
         ·refine Jf ⟨[(0, Cq a0), (2, .ptr 128 0), (5, .ptr 320 0), (6, Cs 1408 p15), (7, iV p16), (8, .ptr 512 0), (43, .tup [.agg (Ah r58.1), .agg (Bx r58.2)])], [(128, (Aj 0 0 (An 131) [] (An 132) [] (An 133) [] false)), (320, (Aj p17 p18 u_ p19 u_ p20 u_ p21 p22)), (512, (Aj 0 0 (An 515) [] (An 516) [] (An 517) [] false))], []⟩ (Bw (by kernel_rfl)) ⟨[], tv, tv, ?_⟩
          refine Ak tv (Df rfl tv (⟨tv, (Ak tv (c_ (Ay ⟨tv, tv⟩ rfl tv) (⟨tv, (Ak tv (c_ (Ay ⟨tv, tv⟩ rfl tv) (⟨tv, (Ci (Jo (Jr ⟨[], ⟨⟨.inl tv, (Ao (Ay ⟨tv, tv⟩ rfl tv) rfl)⟩, ⟨.inl tv, (Ao (Ay ⟨tv, tv⟩ rfl tv) rfl)⟩, ⟨.inl tv, (Ao (Gs (v := .tup [.agg (Ah r58.1), .agg (Bx r58.2)]) rfl tv) rfl)⟩, tv⟩, tv, (Ci (Ia rfl rfl tv rfl rfl rfl (nl rfl) (Jr ⟨[], ⟨⟨.inl tv, (Ao (Ay ⟨tv, tv⟩ rfl tv) rfl)⟩, tv⟩, tv, (Ci (Ia rfl rfl tv rfl rfl rfl (nl rfl) (Jr ⟨[], tv, tv, (Nt ?_)⟩)) Bp)⟩)) Bp)⟩)) Bp)⟩)))⟩)))⟩))
          exact J60 _ _ (Bw (by kernel_rfl)) rfl
         ·refine Ci (Jo ?_) Bp
          refine Jr ⟨[], ⟨⟨.inl tv, (Ao (Ay ⟨tv, tv⟩ rfl (nl rfl)) rfl)⟩, ⟨.inl tv, (Ao (Cj (e := Ar) (y := y56) rfl rfl tv rfl rfl tv e57) rfl)⟩, ⟨.inl tv, (Ao (Gs (v := iV p16) rfl tv) rfl)⟩, ⟨.inl tv, (Ao (Gs (v := Cq a0) rfl tv) rfl)⟩, ⟨.inl tv, (Ao (Ay ⟨tv, tv⟩ rfl (nl rfl)) rfl)⟩, tv⟩, tv, (Ci (Bv (r := .tup [.agg (Ah r58.1), .agg (Bx r58.2)]) true (H101 (Ag.mk (Ai.mk p17 p18 p19) p20 p21 p22) y56 r58 e59) ⟨tv, tv, tv⟩ rfl rfl (fun h => nomatch h) (Jf ⟨[(0, Cq a0), (2, .ptr 128 0), (5, .ptr 320 0), (6, Cs 1408 p15), (7, iV p16), (8, .ptr 512 0), (9, .ptr 576 0), (43, .tup [.agg (Ah r58.1), .agg (Bx r58.2)])], [(128, (Aj 0 0 (An 131) [] (An 132) [] (An 133) [] false)), (320, (Aj p17 p18 u_ p19 u_ p20 u_ p21 p22)), (512, (Aj 0 0 (An 515) [] (An 516) [] (An 517) [] false)), (576, [iV 0, iV 0])], []⟩ (Bw (by kernel_rfl)) ⟨[], tv, tv, (Ak tv (Df rfl tv (⟨tv, (Ak tv (c_ (Ay ⟨tv, tv⟩ rfl tv) (⟨tv, (Ak tv (c_ (Ay ⟨tv, tv⟩ rfl tv) (⟨tv, (Ci (Ia rfl rfl tv rfl rfl rfl (nl rfl) (Jr ⟨[], ⟨⟨.inl tv, (Ao (Ay ⟨tv, tv⟩ rfl tv) rfl)⟩, tv⟩, tv, (Ci (Ia rfl rfl tv rfl rfl rfl (nl rfl) (Jr ⟨[], tv, tv, (Nt ?_)⟩)) Bp)⟩)) Bp)⟩)))⟩)))⟩)))⟩)) Bp)⟩
          exact J60 _ _ (Bw (by kernel_rfl)) rfl
        ·refine Ci (Jo ?_) Bp
         refine Jr ⟨[], ⟨⟨.inl tv, (Ao (Ay ⟨tv, tv⟩ rfl (nl rfl)) rfl)⟩, ⟨.inl tv, (Ao (Cj (e := Ar) (y := y56) rfl rfl tv rfl rfl tv e57) rfl)⟩, ⟨.inl tv, (Ao (Gs (v := iV p16) rfl tv) rfl)⟩, ⟨.inl tv, (Ao (Gs (v := Cq a0) rfl tv) rfl)⟩, ⟨.inl tv, (Ao (Ay ⟨tv, tv⟩ rfl (nl rfl)) rfl)⟩, tv⟩, tv, (Ci (Bv (r := .tup [.agg (Ah r58.1), .agg (Bx r58.2)]) true (H101 (Ag.mk (Ai.mk p17 p18 p19) p20 p21 p22) y56 r58 e59) ⟨tv, tv, tv⟩ rfl rfl (fun h => nomatch h) ?_) ?_)⟩
         ·refine Jf ⟨[(0, Cq a0), (2, .ptr 128 0), (5, .ptr 320 0), (6, Cs 1408 p15), (7, iV p16), (9, .ptr 576 0), (43, .tup [.agg (Ah r58.1), .agg (Bx r58.2)])], [(128, (Aj 0 0 (An 131) [] (An 132) [] (An 133) [] false)), (320, (Aj p17 p18 u_ p19 u_ p20 u_ p21 p22)), (576, [iV 0, iV 0])], []⟩ (Bw (by kernel_rfl)) ⟨[], tv, tv, ?_⟩
          refine Ak tv (Df rfl tv (⟨tv, (Ak tv (c_ (Ay ⟨tv, tv⟩ rfl tv) (⟨tv, (Ak tv (c_ (Ay ⟨tv, tv⟩ rfl tv) (⟨tv, (Ci (Jo (Jr ⟨[], ⟨⟨.inl tv, (Ao (Ay ⟨tv, tv⟩ rfl tv) rfl)⟩, ⟨.inl tv, (Ao (Ay ⟨tv, tv⟩ rfl tv) rfl)⟩, ⟨.inl tv, (Ao (Gs (v := .tup [.agg (Ah r58.1), .agg (Bx r58.2)]) rfl tv) rfl)⟩, tv⟩, tv, (Ci (Ia rfl rfl tv rfl rfl rfl (nl rfl) (Jr ⟨[], ⟨⟨.inl tv, (Ao (Ay ⟨tv, tv⟩ rfl tv) rfl)⟩, tv⟩, tv, (Ci (Ia rfl rfl tv rfl rfl rfl (nl rfl) (Jr ⟨[], tv, tv, (Nt ?_)⟩)) Bp)⟩)) Bp)⟩)) Bp)⟩)))⟩)))⟩))
          exact J60 _ _ (Bw (by kernel_rfl)) rfl
         ·refine Ci (Jo ?_) Bp
          refine Jr ⟨[], ⟨⟨.inl tv, (Ao (Ay ⟨tv, tv⟩ rfl (nl rfl)) rfl)⟩, ⟨.inl tv, (Ao (Cj (e := Ar) (y := y56) rfl rfl tv rfl rfl tv e57) rfl)⟩, ⟨.inl tv, (Ao (Gs (v := iV p16) rfl tv) rfl)⟩, ⟨.inl tv, (Ao (Gs (v := Cq a0) rfl tv) rfl)⟩, ⟨.inl tv, (Ao (Ay ⟨tv, tv⟩ rfl (nl rfl)) rfl)⟩, tv⟩, tv, (Ci (Bv (r := .tup [.agg (Ah r58.1), .agg (Bx r58.2)]) true (H101 (Ag.mk (Ai.mk p17 p18 p19) p20 p21 p22) y56 r58 e59) ⟨tv, tv, tv⟩ rfl rfl (fun h => nomatch h) (Jf ⟨[(0, Cq a0), (2, .ptr 128 0), (5, .ptr 320 0), (6, Cs 1408 p15), (7, iV p16), (8, .ptr 512 0), (9, .ptr 576 0), (43, .tup [.agg (Ah r58.1), .agg (Bx r58.2)])], [(128, (Aj 0 0 (An 131) [] (An 132) [] (An 133) [] false)), (320, (Aj p17 p18 u_ p19 u_ p20 u_ p21 p22)), (512, (Aj 0 0 (An 515) [] (An 516) [] (An 517) [] false)), (576, [iV 0, iV 0])], []⟩ (Bw (by kernel_rfl)) ⟨[], tv, tv, (Ak tv (Df rfl tv (⟨tv, (Ak tv (c_ (Ay ⟨tv, tv⟩ rfl tv) (⟨tv, (Ak tv (c_ (Ay ⟨tv, tv⟩ rfl tv) (⟨tv, (Ci (Ia rfl rfl tv rfl rfl rfl (nl rfl) (Jr ⟨[], ⟨⟨.inl tv, (Ao (Ay ⟨tv, tv⟩ rfl tv) rfl)⟩, tv⟩, tv, (Ci (Ia rfl rfl tv rfl rfl rfl (nl rfl) (Jr ⟨[], tv, tv, (Nt ?_)⟩)) Bp)⟩)) Bp)⟩)))⟩)))⟩)))⟩)) Bp)⟩
          exact J60 _ _ (Bw (by kernel_rfl)) rfl
    ·obtain rfl := Option.some.inj h1
     obtain rfl := hx1 _ rfl
     refine Nc rfl ?_
     exact hE1 _ _ (Bw (by kernel_rfl)) ⟨_, _, _, _, _, _, _, rfl, rfl⟩

/- loop.example/g00149/spec.l00Source -/
def AbG := [(iQ 2 (.mv (.c .undef)))]
def AbH : List Ch := [m_ 3 0, m_ 4 0, n_ 5 4, B_ .rem 6 5 1000, ⟨some 7, .p (.build [(.own 449 0 1 []), (iV 0), (iV 0)] [(0, 1, (.t 3)), (2, 1, (.t 6))]), none⟩, X_ 8 7, m_ 2 8]
def c83 : El := { np := 1, nt := 9, res := [.t 2], body := (.seq (.reg AbG) (.seq (.reg AbH) .ret)) }
def K83 (D : Bc) : Prop := ∀ (a0 : List UInt8) (r : Bj), g83 a0 = some r → D 83 ⟨[pV a0], []⟩ ⟨.ptr 0 0, [(Bg r)], []⟩
theorem F83 {C : Bc} : K83 (fun _ => Cp C c83) := by
 intro a0 r h0
 refine Fe (nl rfl) (Br 3 ⟨[(0, pV a0)], [], []⟩ (Bu 3 (Au (st (c_ (Cn (e := Wh) (l0 := a0) rfl rfl tv) (st (c_ (Ay ⟨tv, tv, tv⟩ rfl (by decide)) (st (c_ (v := .agg (En u_ a0 0 (((a0.length : Int)).tmod 1000))) (Ay ⟨tv, tv, tv⟩ rfl ⟨⟨rfl, rfl, nl rfl⟩, ⟨rfl, rfl, nl rfl⟩, tv⟩) (o_ ?_))))))))))
 obtain rfl := Option.some.inj h0
 exact Dr 4

/- (*loop.example/g00149/spec.l00Src).byte -/
def HQ := [i_ 2 0]
def HR := [m_ 3 0, (iQ 4 (.nilc (.t 3))), f_ 5 4 1, l_ 6 5 1, B_ .add 7 6 1, (iQ 8 (.nilc (.t 3))), f_ 9 8 1, s_ 9 7 1]
def HS := tk [m_ 10 0, (iQ 11 (.nilc (.t 10))), f_ 12 11 1, l_ 13 12 1, m_ 14 0, (iQ 15 (.nilc (.t 14))), f_ 16 15 0, l_ 17 16 1, n_ 18 17, b_ .leq 19 13 18] .fin
def HT := tk [m_ 20 0, m_ 21 0, (iQ 22 (.nilc (.t 21))), f_ 23 22 2, l_ 24 23 1, B_ .mul 25 24 31, m_ 26 0, (iQ 27 (.nilc (.t 26))), f_ 28 27 0, l_ 29 28 1, m_ 30 0, (iQ 31 (.nilc (.t 30))), f_ 32 31 1, l_ 33 32 1, B_ .sub 34 33 1, x_ 35 29 34 1, l_ 36 35 1, (iQ 37 (.conv .i64 (.t 36))), b_ .add 38 25 37, B_ .add 39 38 7, B_ .rem 40 39 2147483648, (iQ 41 (.nilc (.t 20))), f_ 42 41 2] (.alt [] (s_ 42 40 1) .fin .stop)
def HU := tk [m_ 43 0, (iQ 44 (.nilc (.t 43))), f_ 45 44 0, l_ 46 45 1, m_ 47 0, (iQ 48 (.nilc (.t 47))), f_ 49 48 1, l_ 50 49 1, B_ .sub 51 50 1, x_ 52 46 51 1, l_ 53 52 1, (iQ 54 (.conv .i64 (.t 53))), m_ 2 54] .fin
def HV := [m_ 55 0, (iQ 56 (.nilc (.t 55))), f_ 57 56 1, l_ 58 57 1, B_ .gtr 59 58 3000]
def HW := [i_ 2 0]
def HX := [m_ 60 0, m_ 61 0, (iQ 62 (.nilc (.t 61))), f_ 63 62 2, l_ 64 63 1, B_ .mul 65 64 1103515245, B_ .add 66 65 12345, B_ .rem 67 66 2147483648, (iQ 68 (.nilc (.t 60))), f_ 69 68 2, s_ 69 67 1]
def HY := [m_ 70 0, (iQ 71 (.nilc (.t 70))), f_ 72 71 2, l_ 73 72 1, B_ .quo 74 73 65536, B_ .rem 75 74 256, m_ 2 75]
def HP : El := { np := 1, nt := 76, res := [.t 2], body := (.seq (.reg HQ) (.seq (.reg HR) (.seq (.seq (.draw HS) (.ite (.t 19) (.seq (.draw HT) (.seq (.draw HU) .ret)) .skip)) (.seq (.seq (.reg HV) (.ite (.t 59) (.seq (.reg HW) .ret) .skip)) (.seq (.reg HX) (.seq (.reg HY) .ret)))))) }
def WH (D : Bc) : Prop := ∀ (a0 : Bj) (r : Int × Bj), kC a0 = some r → D 139 ⟨[.ptr 1048576 0], [(Bg a0)]⟩ ⟨iV r.1, [(Bg r.2)], []⟩
theorem F139 {C : Bc} : WH (fun _ => Cp C HP) := by
 intro a0 r h0
 refine Fe (nl rfl) (Br 14 ⟨[(0, .ptr 1048576 0)], [(1048576, (En u_ a0.code_ (IntKind.i64.wrap (a0.at_ + 1)) a0.Ew))], []⟩ (Bz (Bz (Dh (Ak tv (Df rfl tv (⟨tv, (Ak tv (c_ (Ay ⟨tv, tv⟩ rfl tv) (⟨tv, (Ak tv (c_ (Ay ⟨tv, tv⟩ rfl tv) (⟨tv, (Ak tv (c_ (Ay ⟨tv, tv⟩ rfl (nl rfl)) (⟨tv, (Ak tv (Df rfl tv (⟨tv, ?_⟩)))⟩)))⟩)))⟩)))⟩)))))))
 refine Ak tv (c_ (Ay ⟨tv, tv⟩ rfl tv) (⟨tv, (Ak tv (c_ (Ay ⟨tv, tv⟩ rfl tv) (⟨tv, (Ak tv (c_ (Ay ⟨tv, tv⟩ rfl (nl rfl)) (⟨tv, (Ak tv (c_ (Cn (e := Wh) (l0 := a0.code_) rfl rfl tv) (⟨tv, (d_ (Br 2 ⟨[(0, .ptr 1048576 0), (19, .bool (decide ((IntKind.i64.wrap (a0.at_ + 1)) ≤ (a0.code_.length : Int))))], [(1048576, (En u_ a0.code_ (IntKind.i64.wrap (a0.at_ + 1)) a0.Ew))], []⟩ (Dm h0 (fun c1 h0 => ?_) (fun c1 h0 => ?_))))⟩)))⟩)))⟩)))⟩))
 ·refine Bz (bb h0 fun y2 e3 h0 => Dh (Ak tv (Df rfl tv (⟨tv, (Ak tv (Df rfl tv (⟨tv, (Ak tv (c_ (Ay ⟨tv, tv⟩ rfl tv) (⟨tv, (Ak tv (c_ (Ay ⟨tv, tv⟩ rfl tv) (⟨tv, (Ak tv (c_ (Ay ⟨tv, tv⟩ rfl (nl rfl)) (⟨tv, (Ak tv (c_ (Ay t3 rfl tv) (⟨tv, (Ak tv (Df rfl tv (⟨tv, (Ak tv (c_ (Ay ⟨tv, tv⟩ rfl tv) (⟨tv, (Ak tv (c_ (Ay ⟨tv, tv⟩ rfl tv) (⟨tv, (Ak tv (c_ (Ay ⟨tv, tv⟩ rfl (nl rfl)) (⟨tv, (Ak tv (Df rfl tv (⟨tv, (Ak tv (c_ (Ay ⟨tv, tv⟩ rfl tv) (⟨tv, (Ak tv (c_ (Ay ⟨tv, tv⟩ rfl tv) (⟨tv, (Ak tv (c_ (Ay ⟨tv, tv⟩ rfl (nl rfl)) (⟨tv, (Ak tv (c_ (Ay t3 rfl tv) (⟨tv, ?_⟩)))⟩)))⟩)))⟩)))⟩)))⟩)))⟩)))⟩)))⟩)))⟩)))⟩)))⟩)))⟩)))⟩)))⟩))))
  refine Ak tv (c_ (Cj (e := Wh) (y := y2) rfl rfl tv rfl rfl tv e3) (⟨tv, (Ak tv (c_ (Ay ⟨tv, tv⟩ rfl (nl rfl)) (⟨tv, (Ak tv (c_ (Ay ⟨tv, tv⟩ rfl tv) (⟨tv, (Ak tv (c_ (Ay t3 rfl tv) (⟨tv, (Ak tv (c_ (Ay t3 rfl tv) (⟨tv, (Ak tv (c_ (Ay ⟨tv, tv, tv⟩ rfl (by decide)) (⟨tv, (Ak tv (c_ (Ay ⟨tv, tv⟩ rfl tv) (⟨tv, (Ak tv (c_ (Ay ⟨tv, tv⟩ rfl tv) (⟨tv, (Ci (Ia rfl rfl tv rfl rfl rfl (nl rfl) (Jr ⟨[], tv, tv, (Nt (bv h0 fun v4 e5 h0 => Dv ⟨[(0, .ptr 1048576 0)], [(1048576, (En u_ a0.code_ (IntKind.i64.wrap (a0.at_ + 1)) v4))], []⟩ (Bw (by subst e5; kernel_rfl)) (Bz (bb h0 fun y6 e7 h0 => Dh (Ak tv (Df rfl tv (⟨tv, (Ak tv (c_ (Ay ⟨tv, tv⟩ rfl tv) (⟨tv, (Ak tv (c_ (Ay ⟨tv, tv⟩ rfl tv) (⟨tv, (Ak tv (c_ (Ay ⟨tv, tv⟩ rfl (nl rfl)) (⟨tv, (Ak tv (Df rfl tv (⟨tv, (Ak tv (c_ (Ay ⟨tv, tv⟩ rfl tv) (⟨tv, (Ak tv (c_ (Ay ⟨tv, tv⟩ rfl tv) (⟨tv, (Ak tv (c_ (Ay ⟨tv, tv⟩ rfl (nl rfl)) (⟨tv, (Ak tv (c_ (Ay t3 rfl tv) (⟨tv, (Ak tv (c_ (Cj (e := Wh) (y := y6) rfl rfl tv rfl rfl tv e7) (⟨tv, (d_ ?_)⟩)))⟩)))⟩)))⟩)))⟩)))⟩)))⟩)))⟩)))⟩)))⟩)))))))⟩)) Bp)⟩)))⟩)))⟩)))⟩)))⟩)))⟩)))⟩)))⟩))
  obtain rfl := Option.some.inj h0
  exact Dr 5
 ·refine Br 10 ⟨[(0, .ptr 1048576 0), (59, .bool (decide ((IntKind.i64.wrap (a0.at_ + 1)) > 3000)))], [(1048576, (En u_ a0.code_ (IntKind.i64.wrap (a0.at_ + 1)) a0.Ew))], []⟩ (Dm h0 (fun c8 h0 => ?_) (fun c8 h0 => ?_))
  ·obtain rfl := Option.some.inj h0
   exact Dr 4
  ·refine Nj (qU (Bz (Au (st (Df rfl tv (st (Df rfl tv (st (c_ (Ay ⟨tv, tv⟩ rfl tv) (st (c_ (Ay ⟨tv, tv⟩ rfl tv) (st (c_ (Ay ⟨tv, tv⟩ rfl (nl rfl)) (st (c_ (Ay t3 rfl tv) (st (c_ (Ay t3 rfl tv) (st (c_ (Ay ⟨tv, tv, tv⟩ rfl (by decide)) (st (c_ (Ay ⟨tv, tv⟩ rfl tv) (st (c_ (Ay ⟨tv, tv⟩ rfl tv) (st (Ia rfl rfl tv rfl rfl rfl (nl rfl) (Kj (bv h0 fun v9 e10 h0 => Dv ⟨[(0, .ptr 1048576 0)], [(1048576, (En u_ a0.code_ (IntKind.i64.wrap (a0.at_ + 1)) v9))], []⟩ (Bw (by subst e10; kernel_rfl)) (Bz (Au (st (Df rfl tv (st (c_ (Ay ⟨tv, tv⟩ rfl tv) (st (c_ (Ay ⟨tv, tv⟩ rfl tv) (st (c_ (Ay ⟨tv, tv⟩ rfl (nl rfl)) (st (c_ (Ay ⟨tv, tv, tv⟩ rfl (by decide)) (st (c_ (Ay ⟨tv, tv, tv⟩ rfl (by decide)) (o_ ?_))))))))))))))))))))))))))))))))))))))))))
   obtain rfl := Option.some.inj h0
   exact Dr 3

/- (*loop.example/g00149/spec.l00Src).next -/
def DM := [i_ 4 0]
def DN := [m_ 8 1, B_ .leq 9 8 1]
def DO := [i_ 4 0]
def DQ := [m_ 10 1, B_ .leq 11 10 256]
def DR := [m_ 12 0, q_ 13 139 [(.t 12)], m_ 14 1, b_ .rem 15 13 14, m_ 4 15]
def DS := [m_ 16 0, q_ 17 139 [(.t 16)], m_ 5 17]
def DT := [m_ 18 0, q_ 19 139 [(.t 18)], m_ 6 19]
def DU := [m_ 20 0, q_ 21 139 [(.t 20)], m_ 7 21]
def DV := [m_ 22 5, B_ .mul 23 22 65536, m_ 24 6, B_ .mul 25 24 256, b_ .add 26 23 25, m_ 27 7, b_ .add 28 26 27, m_ 29 1, b_ .rem 30 28 29, m_ 4 30]
def DL : El := { np := 2, nt := 31, res := [.t 4], body := (.seq (.reg DM) (.seq (.seq (.reg DN) (.ite (.t 9) (.seq (.reg DO) .ret) .skip)) (.seq (.seq (.reg DQ) (.ite (.t 11) (.seq (.reg DR) .ret) .skip)) (.seq (.reg DS) (.seq (.reg DT) (.seq (.reg DU) (.seq (.reg DV) .ret))))))) }
def oH (D : Bc) : Prop := ∀ (a0 : Bj) (a1 : Int) (r : Int × Bj), Qj a0 a1 = some r → D 117 ⟨[.ptr 1048576 0, iV a1], [(Bg a0)]⟩ ⟨iV r.1, [(Bg r.2)], []⟩
theorem F117 {C : Bc} (H139 : WH C) : oH (fun _ => Cp C DL) := by
 intro a0 a1 r h0
 refine Fe (nl rfl) (Br 9 ⟨[(0, .ptr 1048576 0), (1, iV a1), (9, .bool (decide (a1 ≤ 1)))], [(1048576, Bg a0)], []⟩ (Dm h0 (fun c1 h0 => ?_) (fun c1 h0 => ?_)))
 ·obtain rfl := Option.some.inj h0
  exact Dr 4
 ·refine Br 7 ⟨[(0, .ptr 1048576 0), (1, iV a1), (11, .bool (decide (a1 ≤ 256)))], [(1048576, Bg a0)], []⟩ (Dm h0 (fun c2 h0 => ?_) (fun c2 h0 => ?_))
  ·refine Bz (Au (st (Df rfl tv (bb h0 fun r3 e4 h0 => st (Ef [1048576] [] [] true (H139 a0 r3 e4) ⟨tv, tv⟩ (by kernel_rfl) (by kernel_rfl) (by kernel_rfl) (by kernel_rfl) (fun h => nomatch h) (st (Df rfl tv (gg h0 fun c5 h0 => st (c_ (Ay ⟨tv, tv, tv⟩ rfl c5) (o_ ?_))))))))))
   obtain rfl := Option.some.inj h0
   exact Dr 3
  ·refine Bu 4 (Au (bb h0 fun r6 e7 h0 => st (Ef [1048576] [] [] true (H139 a0 r6 e7) ⟨tv, tv⟩ (by kernel_rfl) (by kernel_rfl) (by kernel_rfl) (by kernel_rfl) (fun h => nomatch h) (o_ (Br 2 ⟨[(0, .ptr 1048576 0), (1, iV a1), (5, iV r6.1)], [(1048576, Bg r6.2)], []⟩ (Bz (Au (st (Df rfl tv (bb h0 fun r8 e9 h0 => st (Ef [1048576] [] [] true (H139 r6.2 r8 e9) ⟨tv, tv⟩ (by kernel_rfl) (by kernel_rfl) (by kernel_rfl) (by kernel_rfl) (fun h => nomatch h) (o_ (Br 2 ⟨[(0, .ptr 1048576 0), (1, iV a1), (5, iV r6.1), (6, iV r8.1)], [(1048576, Bg r8.2)], []⟩ (Bz (Au (st (Df rfl tv (bb h0 fun r10 e11 h0 => st (Ef [1048576] [] [] true (H139 r8.2 r10 e11) ⟨tv, tv⟩ (by kernel_rfl) (by kernel_rfl) (by kernel_rfl) (by kernel_rfl) (fun h => nomatch h) (o_ (Br 2 ⟨[(1, iV a1), (5, iV r6.1), (6, iV r8.1), (7, iV r10.1)], [(1048576, Bg r10.2)], []⟩ (Bu 9 (Au (gg h0 fun c12 h0 => st (c_ (Ay ⟨tv, tv, tv⟩ rfl c12) (st (Df rfl tv (Kj (bv h0 fun v13 e14 h0 => Dv ⟨[(4, iV v13)], [(1048576, Bg r10.2)], []⟩ (Bw (by subst e14; kernel_rfl)) ?_)))))))))))))))))))))))))))))
   obtain rfl := Option.some.inj h0
   exact cL (Mb rfl rfl rfl rfl rfl tv)

/- (*loop.example/g00149/spec.l00Src).size -/
def DX := [i_ 4 0]
def DY : List Ch := [m_ 5 0, (iQ 6 (.nilc (.t 5))), f_ 7 6 0, l_ 8 7 1, n_ 9 8, B_ .quo 10 9 12, ⟨some 11, .p (.bin .add (.c (iV 1)) (.t 10)), none⟩, m_ 12 1, (iQ 13 (.mn (.t 11) (.t 12))), m_ 4 13]
def DW : El := { np := 2, nt := 14, res := [.t 4], body := (.seq (.reg DX) (.seq (.reg DY) .ret)) }
def VV (D : Bc) : Prop := ∀ (a0 : Bj) (a1 : Int) (r : Int), QY a0 a1 = some r → D 118 ⟨[.iptr (Bg a0), iV a1], []⟩ ⟨iV r, [], []⟩
theorem F118 {C : Bc} : VV (fun _ => Cp C DW) := by
 intro a0 a1 r h0
 refine Fe (nl rfl) (Br 3 ⟨[(0, .iptr (Bg a0)), (1, iV a1)], [], []⟩ (Bu 5 (Au (st (c_ (Cn (e := Wh) (l0 := a0.code_) rfl rfl tv) (st (c_ (Ay ⟨tv, tv, tv⟩ rfl (by decide)) (o_ (Bu 5 (bv h0 fun v1 e2 h0 => Dv ⟨[(4, iV v1)], [], []⟩ (Bw (by subst e2; kernel_rfl)) ?_))))))))))
 obtain rfl := Option.some.inj h0
 exact cL (Mb rfl rfl rfl rfl rfl tv)

/- (*loop.example/g00149/spec.l00Src).chance -/
def EA := [k_ 4 (.bool false)]
def EB := [m_ 5 0, m_ 6 1, q_ 7 117 [(.t 5), (.t 6)], m_ 8 1, B_ .sub 9 8 1, b_ .eql 10 7 9, m_ 4 10]
def DZ : El := { np := 2, nt := 11, res := [.t 4], body := (.seq (.reg EA) (.seq (.reg EB) .ret)) }
def VW (D : Bc) : Prop := ∀ (a0 : Bj) (a1 : Int) (r : Bool × Bj), AcY a0 a1 = some r → D 119 ⟨[.ptr 1048576 0, iV a1], [(Bg a0)]⟩ ⟨.bool r.1, [(Bg r.2)], []⟩
theorem F119 {C : Bc} (H117 : oH C) : VW (fun _ => Cp C DZ) := by
 intro a0 a1 r h0
 refine Fe (nl rfl) (Br 3 ⟨[(0, .ptr 1048576 0), (1, iV a1)], [(1048576, Bg a0)], []⟩ (Bu 3 (Au (bb h0 fun r1 e2 h0 => st (Ef [1048576] [] [] true (H117 a0 a1 r1 e2) ⟨tv, tv, tv⟩ (by kernel_rfl) (by kernel_rfl) (by kernel_rfl) (by kernel_rfl) (fun h => nomatch h) (o_ ?_))))))
 obtain rfl := Option.some.inj h0
 exact Dr 6
end Go.Ev
