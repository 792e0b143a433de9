/- A small abstract machine over values: values, states, instructions, and the predicate transformer W. No memory, no world. -/
import GoSem.Core.Code
import GoSem.Core.View
import GoSem.Op.String
import Derived.Laws.Externs
set_option linter.all false
namespace Go.Ev
inductive V where
 | int (k : IntKind) (n : Int)
 | bool (b : Bool)
 | str (s : List UInt8)
 | lst (sz : Nat) (es : List (List V))
 | own (tag off sz : Nat) (es : List (List V))
 | ptr (tag k : Nat)
 | iptr (cs : List V)
 | optr (tag sz j k : Nat)
 | agg (cs : List V)
 | tup (vs : List V)
 | clo (f : Nat) (caps : List V)
 | may (b : Bool) (v : V)
 | undef
 deriving Inhabited
def look {α : Type} : List (Nat × α) → Nat → Option α
 | [], _ => none
 | (a, x) :: r, t => if a = t then some x else look r t
def ins {α : Type} (l : List (Nat × α)) (d : Nat) (v : α) : List (Nat × α) := (d, v) :: l
structure St where
 env : List (Nat × V)
 bx : List (Nat × List V)
 
 cp : List (Nat × Int) := []
inductive Cc where
 | t (n : Nat)
 | c (v : V)
def St.val (S : St) : Cc → V
 | .t n => (look S.env n).getD .undef
 | .c v => v
abbrev Gb : Int := 4611686018427387904
def Mt (c : Int) : Int := if c < Gb then c else c - Gb
def Lc (l : List (Nat × Int)) : Cc → Option Int
 | .t n => look l n
 | .c _ => none
abbrev St.capOf (S : St) (x : Cc) : Option Int := Lc S.cp x
def Kn (d : Nat) (f : List (Nat × Int) → Option Int) : List (Nat × Int) → List (Nat × Int)
 | [] => match f [] with
  | some c => [(d, c)]
  | none => []
 | p :: r => match f (p :: r) with
  | some c => (d, c) :: (p :: r).filter fun p => p.1 != d
  | none => (p :: r).filter fun p => p.1 != d
def St.put (S : St) (d : Option Nat) (v : V) : St :=
 match d with
 | some d => { env := ins S.env d v, bx := S.bx, cp := Kn d (fun _ => none) S.cp }
 | none => S
def St.putC (S : St) (d : Option Nat) (v : V) (f : List (Nat × Int) → Option Int) : St :=
 match d with
 | some d => { env := ins S.env d v, bx := S.bx, cp := Kn d f S.cp }
 | none => S
def As : V → V
 | .may _ v => v
 | v => v
def Az (g : Bool) : V → Prop
 | .may b _ => g = true → b = true
 | _ => True
def Cd {α : Type} (p : α → Prop) : List α → Prop
 | [] => True
 | x :: r => p x ∧ Cd p r
def V.cells : V → List V
 | .agg cs => cs
 | v => [v]
inductive PU where
 | mv (x : Cc)
 | bin (op : BinOp) (x y : Cc)
 | eqs (ne : Bool) (ks : List Nat) (x y : Cc)
 | un (op : UnOp) (x : Cc)
 | conv (k : IntKind) (x : Cc)
 | load (x : Cc) (n : Nat) (ag : Bool)
 | fieldA (x : Cc) (off : Nat)
 | idxA (x i : Cc) (sz : Nat)
 | idxArr (x i : Cc) (len sz : Nat)
 | field (x : Cc) (off n : Nat) (ag : Bool)
 | idxStr (x i : Cc)
 | sliceStr (x : Cc) (lo hi : Option Cc)
 | slice (x : Cc) (lo hi : Option Cc) (sz : Nat)
 | len (x : Cc)
 | lenS (x : Cc)
 | strc (x : Cc)
 | binB (op : BinOp) (x y : Cc)
 | mn (x y : Cc)
 | mx (x y : Cc)
 | ext (x : Cc) (i : Nat)
 | build (zero : List V) (parts : List (Nat × Nat × Cc))
 | fn (f : Nat) (caps : List Cc)
 | nilc (x : Cc)
 | toStr (x : Cc)
 | xbyte (x c : Cc)
 | ovl (x y : Cc)
 | mget (x k : Cc)
 | chr (x : Cc)
def PU.opds : PU → List Cc
 | .mv x | .un _ x | .conv _ x | .load x _ _ | .fieldA x _ | .field x _ _ _ | .len x | .lenS x | .chr x | .strc x | .ext x _ | .nilc x | .toStr x => [x]
 | .xbyte x y | .ovl x y | .mget x y | .bin _ x y | .binB _ x y | .eqs _ _ x y | .idxA x y _ | .idxArr x y _ _ | .idxStr x y | .mn x y | .mx x y => [x, y]
 | .sliceStr x lo hi | .slice x lo hi _ => x :: (lo.toList ++ hi.toList)
 | .build _ ps => ps.map (·.2.2)
 | .fn _ cs => cs
def eZ (op : BinOp) (k : IntKind) (a b : Int) : Option (Prop × V) :=
 match op with
 | .add => some (True, .int k (k.wrap (a + b)))
 | .sub => some (True, .int k (k.wrap (a - b)))
 | .mul => some (True, .int k (k.wrap (a * b)))
 | .quo => some (b ≠ 0, .int k (k.wrap (a.tdiv b)))
 | .rem => some (b ≠ 0, .int k (a.tmod b))
 | .and => some (True, .int k (k.wrap (BitVec.ofInt k.bits a &&& BitVec.ofInt k.bits b).toNat))
 | .or => some (True, .int k (k.wrap (BitVec.ofInt k.bits a ||| BitVec.ofInt k.bits b).toNat))
 | .xor => some (True, .int k (k.wrap (BitVec.ofInt k.bits a ^^^ BitVec.ofInt k.bits b).toNat))
 | .andNot => some (True, .int k (k.wrap (BitVec.ofInt k.bits a &&& ~~~ BitVec.ofInt k.bits b).toNat))
 | .eql => some (True, .bool (a == b))
 | .neq => some (True, .bool (a != b))
 | .lss => some (True, .bool (decide (a < b)))
 | .leq => some (True, .bool (decide (a ≤ b)))
 | .gtr => some (True, .bool (decide (a > b)))
 | .geq => some (True, .bool (decide (a ≥ b)))
 | _ => none
def Zd (op : BinOp) (k : IntKind) (a b : Int) : Option (Prop × V) :=
 match op with
 | .shl => some (0 ≤ b, .int k (k.wrap (a * 2 ^ min b.toNat k.bits)))
 | .shr => some (0 ≤ b, .int k (a.fdiv (2 ^ min b.toNat k.bits)))
 | _ => none
def fS (op : BinOp) (a b : List UInt8) : Option (Prop × V) :=
 match op with
 | .add => some (a.length + b.length ≤ 9223372036854775807, .str (a ++ b))
 | .eql => some (True, .bool (a == b))
 | .neq => some (True, .bool !(a == b))
 | .lss => some (True, .bool (Op.bytesLess a b))
 | .leq => some (True, .bool (Op.bytesLess a b || a == b))
 | .gtr => some (True, .bool !(Op.bytesLess a b || a == b))
 | .geq => some (True, .bool !(Op.bytesLess a b))
 | _ => none
def Fc : List Nat → List V → List V → Option Bool
 | [], [], [] => some true
 | 0 :: ks, .int k a :: r, .int k' b :: s => if k = k' then (Fc ks r s).map ((a == b) && ·) else none
 | 1 :: ks, .bool a :: r, .bool b :: s => (Fc ks r s).map ((a == b) && ·)
 | 2 :: ks, .str a :: r, .str b :: s => (Fc ks r s).map ((a == b) && ·)
 | _, _, _ => none
def It (tag : Nat) : List V → Option (Nat × List (List V))
 | [] => none
 | .own t off sz es :: r => if t = tag ∧ sz ≠ 0 then some (off, es) else It tag r
 | _ :: r => It tag r
def Ph (tag : Nat) (env : List (Nat × V)) : List (Nat × V) → Option (Nat × List (List V))
 | [] => none
 | (x, _) :: r => match look env x with
  | some v => match It tag v.cells with
   | some y => some y
   | none => Ph tag env r
  | none => Ph tag env r
def Um (tag : Nat) (bx : List (Nat × List V)) : List (Nat × List V) → Option (Nat × List (List V))
 | [] => none
 | (x, _) :: r => match look bx x with
  | some cs => match It tag cs with
   | some y => some y
   | none => Um tag bx r
  | none => Um tag bx r
def St.find (S : St) (tag : Nat) : Option (Nat × List (List V)) :=
 match Ph tag S.env S.env with
 | some x => some x
 | none => Um tag S.bx S.bx
def Lz (ag : Bool) (n : Nat) (cs : List V) : Option V :=
 if ag then some (.agg (cs.take n)) else cs.head?
def Dl (cs : List V) (off : Nat) : List V → List V
 | [] => cs
 | v :: r => Dl (cs.set off v) (off + 1) r
def Jt (s : List UInt8) : List (List V) := s.map fun b => [V.int .u8 (b.toNat : Int)]
def bG : List (List V) → List UInt8
 | [.int _ n] :: r => UInt8.ofNat n.toNat :: bG r
 | _ :: r => 0 :: bG r
 | [] => []
def Ca : V → Bool
 | .undef | .tup .. | .may .. => true
 | _ => false
def Ui : List V → Bool
 | [] => true
 | .int .. :: r | .bool .. :: r | .str .. :: r | .lst .. :: r | .iptr .. :: r | .ptr .. :: r => Ui r
 | _ => false
def Fu : Option V → Option (Option Int)
 | none => some none
 | some (.int _ n) => some (some n)
 | _ => none
def aA (sz n : Nat) : List (List V) := List.replicate n (List.replicate sz .undef)
def Xw (s : List UInt8) (n : Int) : Int := Go.firstIdx ⟨s.toArray⟩ n.toNat.toUInt8
def Nd (n : Int) : List (List V) → Bool
 | [.int _ k, .bool b] :: r => if k = n then b else Nd n r
 | _ :: r => Nd n r
 | [] => false
def Ti (n : Int) (b : Bool) : List (List V) → List (List V)
 | [.int q k, .bool c] :: r => if k = n then [.int q k, .bool b] :: r else [.int q k, .bool c] :: Ti n b r
 | e :: r => e :: Ti n b r
 | [] => [[.int .i64 n, .bool b]]
def xN (n : Int) (b : Bool) : List (List V) → List (List V)
 | [.tup []] :: r => [.tup []] :: Ti n b r
 | es => es
def kY (t : Nat) (n : Int) (b : Bool) : V → V
 | .own t' off sz es => if t' = t then .own t' off sz (xN n b es) else .own t' off sz es
 | c => c
def pu (S : St) (rd : Cc → V) : PU → Option (Prop × V)
 | .mv x => some (True, rd x)
 | .bin op x y => match rd x, rd y with
  | .int k a, .int k' b => match op with
   | .shl | .shr => Zd op k a b
   | _ => if k = k' then eZ op k a b else none
  | .str a, .str b => fS op a b
  | _, _ => none
 | .binB op x y => match rd x, rd y with
  | .bool a, .bool b => match op with
   | .eql => some (True, .bool (a == b))
   | .neq => some (True, .bool !(a == b))
   | _ => none
  | _, _ => none
 | .eqs ne ks x y => match rd x, rd y with
  | .agg cs, .agg ds => match Fc ks cs ds with
   | some b => some (True, .bool (if ne then !b else b))
   | none => none
  | _, _ => none
 | .un op x => match op, rd x with
  | .neg, .int k n => some (True, .int k (k.wrap (0 - n)))
  | .xor, .int k n => some (True, .int k (k.wrap (BitVec.ofInt k.bits (if k.signed then -1 else k.max) ^^^ BitVec.ofInt k.bits n).toNat))
  | .not, .bool b => some (True, .bool !b)
  | _, _ => none
 | .conv k x => match rd x with
  | .int _ n => some (True, .int k (k.wrap n))
  | _ => none
 | .load x n ag => match rd x with
  | .ptr tag k => match look S.bx tag with
   | some cs => match Lz ag n (cs.drop k) with
    | some v => some (k + n ≤ cs.length, v)
    | none => none
   | none => none
  | .iptr cs => match Lz ag n cs with
   | some v => some (n ≤ cs.length, v)
   | none => none
  | .optr tag sz j k => match S.find tag with
   | some (off, es) => match Lz ag n ((es.getD (j - off) []).drop k) with
    | some v => some (off ≤ j ∧ j < off + es.length ∧ k + n ≤ sz ∧ (es.getD (j - off) []).length = sz, v)
    | none => none
   | none => none
  | _ => none
 | .fieldA x off => match rd x with
  | .ptr tag k => some (True, .ptr tag (k + off))
  | .iptr cs => some (off ≤ cs.length, .iptr (cs.drop off))
  | .optr tag sz j k => some (True, .optr tag sz j (k + off))
  | _ => none
 | .idxA x i sz => match rd x, rd i with
  | .lst s es, .int _ n => some (s = sz ∧ 0 ≤ n ∧ n < es.length, .iptr (es.getD n.toNat []))
  | .own tag off s es, .int _ n => some (s = sz ∧ 0 ≤ n ∧ n < es.length, .optr tag sz (off + n.toNat) 0)
  | _, _ => none
 | .idxArr x i len sz => match rd x, rd i with
  | .ptr tag k, .int _ n => some (0 ≤ n ∧ n < len, .ptr tag (k + n.toNat * sz))
  | .iptr cs, .int _ n => some (0 ≤ n ∧ n < len ∧ n.toNat * sz ≤ cs.length, .iptr (cs.drop (n.toNat * sz)))
  | _, _ => none
 | .field x off n ag => match rd x with
  | .agg cs => match Lz ag n (cs.drop off) with
   | some v => some (off + n ≤ cs.length, v)
   | none => none
  | _ => none
 | .idxStr x i => match rd x, rd i with
  | .str s, .int _ n => some (0 ≤ n ∧ n < s.length, .int .u8 ((s.getD n.toNat 0).toNat : Int))
  | _, _ => none
 | .sliceStr x lo hi => match rd x, Fu (lo.map rd), Fu (hi.map rd) with
  | .str s, some l, some h =>
   some (0 ≤ l.getD 0 ∧ l.getD 0 ≤ h.getD s.length ∧ h.getD s.length ≤ s.length,
    .str ((s.take (h.getD s.length).toNat).drop (l.getD 0).toNat))
  | _, _, _ => none
 | .slice x lo hi sz => match rd x, Fu (lo.map rd), Fu (hi.map rd) with
  | .lst s es, some l, some h =>
   some (s = sz ∧ 0 ≤ l.getD 0 ∧ l.getD 0 ≤ h.getD es.length ∧ h.getD es.length ≤ es.length,
    .lst sz ((es.take (h.getD es.length).toNat).drop (l.getD 0).toNat))
  | .own tag off s es, some l, some h =>
   some (s = sz ∧ 0 ≤ l.getD 0 ∧ l.getD 0 ≤ h.getD es.length ∧ (h.getD es.length ≤ es.length ∨ (off = 0 ∧ 0 < sz ∧ ∃ c, S.capOf x = some c ∧ h.getD es.length ≤ Mt c)),
    .own tag (off + (l.getD 0).toNat) sz (((es ++ aA sz ((h.getD es.length).toNat - es.length)).take (h.getD es.length).toNat).drop (l.getD 0).toNat))
  | _, _, _ => none
 | .lenS x => match rd x with
  | .str s => some (True, .int .i64 s.length)
  | _ => none
 | .strc x => match rd x with
  | .str s => some (True, .str s)
  | _ => none
 | .len x => match rd x with
  | .lst s es => some (s ≠ 0, .int .i64 es.length)
  | .own _ _ s es => some (s ≠ 0, .int .i64 es.length)
  | _ => none
 | .xbyte x y => match rd x, rd y with
  | .str s, .int .u8 n => some (True, .int .i64 (Xw s n))
  | _, _ => none
 | .ovl x y => match rd x, rd y with
  | .own t _ s es, .own t' _ s' es' => some (t ≠ t' ∧ (es ≠ [] ∧ es' ≠ []) ∧ s ≠ 0 ∧ s' ≠ 0, .bool false)
  | _, _ => none
 | .chr x => match rd x with
  | .int _ n => some (0 ≤ n ∧ n < 128, .str [UInt8.ofNat n.toNat])
  | _ => none
 | .mget x y => match rd x, rd y with
  | .own _ _ 0 ([.tup []] :: es), .int .i64 n => some (True, .bool (Nd n es))
  | .lst 0 ([.tup []] :: es), .int .i64 n => some (True, .bool (Nd n es))
  | _, _ => none
 | .mn x y => match rd x, rd y with
  | .int k a, .int k' b => some (k = k', .int k (if b < a then b else a))
  | _, _ => none
 | .mx x y => match rd x, rd y with
  | .int k a, .int k' b => some (k = k', .int k (if b > a then b else a))
  | _, _ => none
 | .ext x i => match rd x with
  | .tup vs => match vs[i]? with
   | some v => some (True, v)
   | none => none
  | _ => none
 | .build zero parts =>
  some (Cd (fun p => Ca (rd p.2.2) = false ∧ (rd p.2.2).cells.length = p.2.1 ∧ p.1 + p.2.1 ≤ zero.length) parts,
   .agg (parts.foldl (fun cs p => Dl cs p.1 (rd p.2.2).cells) zero))
 | .fn f caps => some (Ui (caps.map rd) = true, .clo f (caps.map rd))
 | .nilc x => match rd x with
  | .ptr t k => some (True, .ptr t k)
  | .iptr cs => some (True, .iptr cs)
  | .optr t s j k => some (True, .optr t s j k)
  | _ => none
 | .toStr x => match rd x with
  | .lst s es => some (s = 1 ∧ Jt (bG es) = es, .str (bG es))
  | .own _ _ s es => some (s = 1 ∧ Jt (bG es) = es, .str (bG es))
  | _ => none
inductive cW where
 | p (o : PU)
 | pick (c a b : Cc)
 | box (x : Cc)
 | alloc (zero : List V)
 | store (x v : Cc) (n : Nat)
 | mkS (sz : Nat) (zero : List V) (len : Nat) (parts : List (Nat × Cc))
 | nilS (sz : Nat)
 | make (sz bytes : Nat) (zero : List V) (l c : Cc)
 | app (sz bytes : Nat) (x y : Cc)
 | appz (sz bytes : Nat) (zero : List V) (x n : Cc)
 | copy (sz : Nat) (x y : Cc)
 | toBytes (x : Cc)
 | call (f : Nat) (args : List Cc)
 | callv (x : Cc) (args : List Cc)
 | isnil (x : Cc) (ne : Bool)
 | cap (x : Cc)
 | mkM
 | mset (x k v : Cc)
 | clear (sz : Nat) (zero : List V) (x : Cc)
 | chk3 (x lo hi mx : Cc)
 | bad
structure Ch where
 dst : Option Nat
 op : cW
 g : Option (Nat × Bool)
inductive DP where
 | fin
 | take (i : Ch) (r : DP)
 | alt (held : List Ch) (i : Ch) (r rest : DP)
 | stop
 | dead
inductive IR where
 | skip
 | reg (l : List Ch)
 | draw (p : DP)
 | seq (a b : IR)
 | ite (c : Cc) (a b : IR)
 | block (id : Nat) (a : IR)
 | loop (a : IR)
 | exit (id : Nat)
 | ret
 | bad
def Il (t : Nat) : V → Bool
 | .own t' _ _ _ | .ptr t' _ | .optr t' _ _ _ => t' != t
 | _ => true
def Gp (t : Nat) : V → Bool
 | .clo _ caps => caps.all (Il t)
 | c => Il t c
def cellsL : List V → List V
 | [] => []
 | v :: r => v.cells ++ cellsL r
def V.flat1 : V → List V
 | .agg cs => cs
 | .tup vs => cellsL vs
 | v => [v]
def V.flat : V → List V
 | .may _ v => v.flat1
 | v => v.flat1
def V.no (t : Nat) (v : V) : Bool := v.flat.all (Gp t)
def mQ (t : Nat) (v : V) : V := if v.no t then v else .undef
def mP (t : Nat) (v : V) : V := if Gp t v then v else .undef
def Pg (t : Nat) : List (Nat × V) → List (Nat × V)
 | [] => []
 | (a, v) :: r => (a, mQ t v) :: Pg t r
def Lf (t : Nat) : List V → List V
 | [] => []
 | c :: r => mP t c :: Lf t r
def Yf (t : Nat) : List (Nat × List V) → List (Nat × List V)
 | [] => []
 | (a, cs) :: r => (a, Lf t cs) :: Yf t r
def St.drop (S : St) (t : Nat) : St := { env := Pg t S.env, bx := Yf t S.bx, cp := S.cp }
def St.drops (S : St) : List Nat → St
 | [] => S
 | t :: r => (S.drop t).drops r
def Hy (f : V → V) : V → V
 | .agg cs => .agg (cs.map f)
 | .tup vs => .tup (vs.map fun | .agg cs => .agg (cs.map f) | c => f c)
 | .may b (.agg cs) => .may b (.agg (cs.map f))
 | .may b (.tup vs) => .may b (.tup (vs.map fun | .agg cs => .agg (cs.map f) | c => f c))
 | .may b c => .may b (f c)
 | c => f c
def Zl (f : V → V) : List (Nat × V) → List (Nat × V)
 | [] => []
 | (a, v) :: r => (a, Hy f v) :: Zl f r
def hZ (f : V → V) : List (Nat × List V) → List (Nat × List V)
 | [] => []
 | (a, cs) :: r => (a, cs.map f) :: hZ f r
def St.map (S : St) (f : V → V) : St := { env := Zl f S.env, bx := hZ f S.bx, cp := S.cp }
abbrev Ct : Nat := 1048576
def frz (t : Nat) : V → V
 | .own t' off sz es => if t' = t then .lst sz es else .own t' off sz es
 | c => c
def St.freeze (S : St) (t : Nat) : St := if t < Ct then (S.map (frz t)).drop t else S.drop t
def St.freezes (S : St) : List Nat → St
 | [] => S
 | t :: r => (S.freeze t).freezes r
def Fd (off : Nat) (es : List (List V)) (at_ : Nat) (ys : List (List V)) : List (List V) :=
 es.mapIdx fun i e => if at_ ≤ off + i then (ys[off + i - at_]?).getD e else e
def jB (t sz at_ : Nat) (ys : List (List V)) : V → V
 | .own t' off sz' es => if t' = t then (if sz' = sz then .own t' off sz' (Fd off es at_ ys) else .undef) else .own t' off sz' es
 | c => c
def Hg : List V → List Nat
 | [] => []
 | .own t _ _ _ :: r => t :: Hg r
 | _ :: r => Hg r
def V.tags (v : V) : List Nat := Hg v.flat
def Ob : List V → List V
 | [] => []
 | v :: r => v.flat ++ Ob r
def Iv : List (Nat × V) → List Nat
 | [] => []
 | p :: r => p.2.tags ++ Iv r
def Qg (p : V → Bool) : List V → Bool
 | [] => true
 | c :: r => p c && Qg p r
def Fb : V → V
 | .own t _ sz es => if t < Ct then .lst sz es else .undef
 | .int k n => .int k n
 | .bool b => .bool b
 | .str s => .str s
 | .lst sz es => .lst sz es
 | .iptr cs => .iptr cs
 | _ => .undef
def Jy : V → Bool
 | .int .. | .bool .. | .str .. | .lst .. | .own .. | .iptr .. => false
 | _ => true
def Oq (b : Bool) : V → V → V
 | .bool x, .bool y => .bool (bif b then x else y)
 | .int k x, .int k' y => if k = k' then .int k (bif b then x else y) else if b then .int k x else .int k' y
 | x, y => if b then x else y
def St.setBx (S : St) (t : Nat) (cs : List V) : St := { S with bx := ins S.bx t cs }
def Ju (sz : Nat) (es : List (List V)) : List (Nat × List V) → List (List V)
 | [] => es
 | (i, cs) :: r => Ju sz (es.set i cs) r
structure Rv where
 args : List V
 bx : List (List V)
structure Ft where
 r : V
 bx : List (List V)
 rw : List (Nat × Nat × List (List V))
abbrev Bc := Nat → Rv → Ft → Prop
def Gh (t : Nat) : List Nat → Nat → Option Nat
 | [], _ => none
 | x :: r, k => if x = t then some k else Gh t r (k + 1)
def Eo : List Nat → Bool
 | [] => true
 | x :: r => r.all (· != x) && Eo r
def Na : V → V
 | .int k n => .int k n
 | .bool b => .bool b
 | .str s => .str s
 | .lst sz es => .lst sz es
 | .iptr cs => .iptr cs
 | _ => .undef
def Iy : V → V
 | .clo f caps => .clo f (caps.map Na)
 | c => Na c
def cl0 (XR : List Nat) : V → V
 | .own t _ sz es => if XR.contains t then .undef else .lst sz es
 | c => Iy c
def St.cl (S : St) (XB XR : List Nat) : Nat → V → V
 | 0, c => cl0 XR c
 | n + 1, .ptr t k => if XB.contains t then .undef else match look S.bx t with
  | some cs => .iptr ((cs.drop k).map (S.cl XB XR n))
  | none => .undef
 | n + 1, .clo f caps => .clo f (caps.map (S.cl XB XR n))
 | _ + 1, c => cl0 XR c
def fB (LR LM : List Nat) (fz : Bool) (t off sz : Nat) (es : List (List V)) : V :=
 match Gh t LR 0 with
 | some i => .own (2097152 + i) off sz es
 | none => match Gh t LM 0 with
  | some i => .own (1024000 + i) off sz es
  | none => if fz && !decide (t < Ct) then .undef else .lst sz es
def St.liftP (S : St) (LB XR : List Nat) (fz : Bool) (n : Nat) : V → V
 | .ptr t k => match Gh t LB 0 with
  | some i => .ptr (Ct + i) k
  | none => if fz then .undef else S.cl LB XR n (.ptr t k)
 | c => Iy c
def St.liftC (S : St) (LB LR LM : List Nat) (fz : Bool) : V → V
 | .own t off sz es => fB LR LM fz t off sz es
 | .clo f caps => .clo f (caps.map (S.liftP LB (LR ++ LM) fz 2))
 | c => S.liftP LB (LR ++ LM) fz 3 c
def mapW (f : V → V) : V → V
 | .agg cs => .agg (cs.map f)
 | c => f c
def St.given (S : St) : List Nat → List (List V)
 | [] => []
 | t :: r => (look S.bx t).getD [] :: S.given r
def Ol (f : V → V) : List (List V) → List (List V)
 | [] => []
 | cs :: r => cs.map f :: Ol f r
def St.give (S : St) (args : List V) (LB LR LM : List Nat) (fz : Bool) : Rv :=
 ⟨args.map (mapW (S.liftC LB LR LM fz)), Ol (S.liftC LB LR LM fz) (S.given LB)⟩
def bE (X : List Nat) : List Nat → List Nat
 | [] => []
 | t :: r => if X.contains t then bE X r else t :: bE X r
def St.frzTags (S : St) (args : List V) (LB LR LM : List Nat) : List Nat := bE (LR ++ LM) (Hg (Ob args ++ (S.given LB).flatten))
def Hc (d nn : Nat) (LB LR : List Nat) : V → V
 | .own t off sz es => if t < 64 then .own (64 * d + t) off sz es else if t < 2097152 then .undef else match LR[t - 2097152]? with
  | some T => .own T off sz es
  | none => .undef
 | .ptr t k => if t < nn then .ptr (64 * d + t) k else if t < Ct then .undef else match LB[t - Ct]? with
  | some T => .ptr T k
  | none => .undef
 | c => Iy c
def bA (LR : List Nat) (rw : List (Nat × Nat × List (List V))) : V → V
 | .own t off sz es => match Gh t LR 0 with
  | none => .own t off sz es
  | some i => match rw[i]? with
   | some (o, s, es') => if off = o ∧ sz = s ∧ es.length = es'.length then .own t off sz es' else .undef
   | none => .undef
 | c => c
def St.rows (S : St) (LR : List Nat) (rw : List (Nat × Nat × List (List V))) : St :=
 match LR with
 | [] => S
 | _ => S.map (bA LR rw)
def St.boxes (S : St) (f : V → V) : List Nat → List (List V) → St
 | [], _ => S
 | T :: r, cs :: q => (S.setBx T (cs.map f)).boxes f r q
 | T :: r, [] => (S.setBx T []).boxes f r []
def Qu (d : Nat) : Nat → List Nat
 | 0 => []
 | n + 1 => Qu d n ++ [64 * d + n]
def On (d : Nat) : List Nat → List Nat
 | [] => []
 | t :: r => if t < 64 then (64 * d + t) :: On d r else On d r
def Ft.newR (t : Ft) (d : Nat) : List Nat := On d (Hg (t.r.flat ++ t.bx.flatten))
def Ft.newB (t : Ft) (d nb : Nat) : List Nat := Qu d (t.bx.length - nb)
def St.after (S : St) (args : List V) (d : Nat) (fz : Bool) (LB LR LM : List Nat) (t : Ft) : St :=
 let S1 := if fz then S.freezes (S.frzTags args LB LR LM) else S
 let S2 := S1.drops (LM ++ (t.newR d ++ t.newB d LB.length))
 (S2.rows LR t.rw).boxes (Hc d (t.bx.length - LB.length) LB LR) (LB ++ t.newB d LB.length) t.bx
def bF : V → Bool
 | .int .. | .bool .. | .str .. | .undef => true
 | _ => false
def Iz : V → Bool
 | .int .. | .bool .. | .str .. | .undef | .ptr .. => true
 | .own _ _ _ es => es.all (·.all bF)
 | _ => false
def Ft.flat (t : Ft) : Bool := (t.r.flat ++ t.bx.flatten).all Iz && t.rw.all fun p => p.2.2.all (·.all bF)
def Rf : V → V
 | .own _ _ sz es => .lst sz es
 | c => Iy c
def Rm (n : Nat) : List Nat → Bool
 | [] => true
 | t :: r => decide (t < n) && Rm n r
def Lq (X : List Nat) : List Nat → Bool
 | [] => true
 | t :: r => !X.contains t && Lq X r
def jC (C : Bc) (f : Nat) (args : List V) (d : Option Nat) (S : St) (K : St → Prop) : Prop :=
 Qg (fun v => !Ca v) args = true ∧ ∃ (LB LR LM : List Nat) (fz : Bool) (t : Ft),
  (Eo LB = true ∧ Eo (LR ++ LM) = true ∧ Rm Ct LM = true ∧ LB.all (fun T => (look S.bx T).isSome) = true) ∧
  (Rm 65 [t.bx.length - LB.length, LM.length] = true ∧ Lq (t.newB (d.getD 0) LB.length) LB = true ∧ Lq (t.newR (d.getD 0)) LR = true) ∧
  (fz = false → t.flat = true) ∧ C f (S.give args LB LR LM fz) t ∧
  K ((S.after args (d.getD 0) fz LB LR LM t).put d (Hy (Hc (d.getD 0) (t.bx.length - LB.length) LB LR) t.r))
def lV (C : Bc) (f : Nat) (args : List V) (d : Option Nat) (g : Bool) (S : St) (K : St → Prop) : Prop :=
 (g = true → Qg (fun v => !Ca v) args = true) ∧ ∃ (fz : Bool) (r : V), (g = true → C f (S.give args [] [] [] fz) ⟨r, [], []⟩) ∧
  (fz = false → r.flat.all Iz = true) ∧ (fz = true → Hg (Ob args) = []) ∧ K (S.put d (.may g (Hy Rf r)))
def Li : V → Bool → Option Bool
 | .bool b, want => some (b == want)
 | .may b' (.bool b), want => some (b' && (b == want))
 | _, _ => none
def pC : V → Option (List (List V))
 | .lst (_ + 1) es => some es
 | .own _ _ (_ + 1) es => some es
 | _ => none
def Qx : V → Option (Nat × List (List V))
 | .lst sz es => some (sz, es)
 | .own _ _ sz es => some (sz, es)
 | .str s => some (1, Jt s)
 | _ => none
def Je (rd : Cc → V) (u : PU) (l : List (Nat × Int)) : Option Int :=
 match u with
 | .mv x => Lc l x
 | .slice x lo _ _ => match Lc l x with
  | some c => match rd x, Fu (lo.map rd) with
   | .own .., some l => some (c - l.getD 0)
   | _, _ => none
  | none => none
 | _ => none
abbrev Nr (S : St) (rd : Cc → V) (u : PU) : Option Int := Je rd u S.cp
def Ik (x : Cc) (n : Nat) (l : List (Nat × Int)) : Option Int :=
 match Lc l x with
 | some c => if (n : Int) ≤ Mt c then some c else none
 | none => none
def Tw (C : Bc) (d : Option Nat) (op : cW) (S : St) (K : St → Prop) : Prop :=
 match op with
 | .p o => Cd (fun x => Az true (S.val x)) o.opds ∧ match pu S (fun x => As (S.val x)) o with
  | some (φ, v) => φ ∧ K (S.putC d v (Je (fun x => As (S.val x)) o))
  | none => False
 | .pick c a b => Az true (S.val c) ∧ match As (S.val c) with
  | .bool cb => Az cb (S.val a) ∧ Az (!cb) (S.val b) ∧ K (S.put d (Oq cb (As (S.val a)) (As (S.val b))))
  | _ => False
 | .box x => match d with
  | some d => let S1 := S.drop (64 * d)
   Az true (S1.val x) ∧ Ca (As (S1.val x)) = false ∧ K ((S1.setBx (64 * d) (As (S1.val x)).cells).put (some d) (.ptr (64 * d) 0))
  | none => False
 | .alloc zero => match d with
  | some d => K (((S.drop (64 * d)).setBx (64 * d) zero).put (some d) (.ptr (64 * d) 0))
  | none => False
 | .store x v n => Az true (S.val x) ∧ Az true (S.val v) ∧
  let cs := (As (S.val v)).cells
  Ca (As (S.val v)) = false ∧ cs.length = n ∧ match As (S.val x) with
  | .ptr t k => match look S.bx t with
   | some bs => k + n ≤ bs.length ∧ K ((S.setBx t (Dl bs k cs)).put d .undef)
   | none => False
  | .optr t sz j k => match S.find t with
   | some (off, es) => off ≤ j ∧ j < off + es.length ∧ k + n ≤ sz ∧ (es.getD (j - off) []).length = sz ∧
    let S1 := S.freezes (As (S.val v)).tags
    cs.all (fun c => !Jy c) = true ∧ (As (S.val v)).tags.all (· != t) = true ∧
    K ((S1.map (jB t sz j [Dl (es.getD (j - off) []) k (cs.map Fb)])).put d .undef)
   | none => False
  | _ => False
 | .mkS sz zero len parts => match d with
  | some d =>
   let vs := parts.map fun p => (p.1, As (S.val p.2))
   Cd (fun p => Az true (S.val p.2)) parts ∧
   Cd (fun p => p.1 < len ∧ p.2.cells.length = sz ∧ p.2.cells.all (fun c => !Jy c) = true) vs ∧
   K (((S.freezes (Iv vs)).drop (64 * d)).put (some d)
    (.own (64 * d) 0 sz (Ju sz (List.replicate len zero) (vs.map fun p => (p.1, p.2.cells.map Fb)))))
  | none => False
 | .nilS sz => match d with
  | some d => K ((S.drop (64 * d)).put (some d) (.own (64 * d) 0 sz []))
  | none => False
 | .make sz bytes zero l c => Az true (S.val l) ∧ Az true (S.val c) ∧ match d, As (S.val l), As (S.val c) with
  | some d, .int _ l, .int _ c => 0 ≤ l ∧ l = c ∧ c * bytes ≤ 140737488355328 ∧
   K ((S.drop (64 * d)).put (some d) (.own (64 * d) 0 sz (List.replicate l.toNat zero)))
  | _, _, _ => False
 | .app sz bytes x y => Az true (S.val x) ∧ Az true (S.val y) ∧ match As (S.val x), Qx (As (S.val y)) with
  | .own t off s es, some (s', ys) => t < Ct ∧ off = 0 ∧ s = sz ∧ s' = sz ∧ (es.length + ys.length) * bytes ≤ 140737488355328 ∧
   K ((S.drop t).putC d (.own t 0 sz (es ++ ys)) (Ik x (es.length + ys.length)))
  | _, _ => False
 | .appz sz bytes zero x n => Az true (S.val x) ∧ Az true (S.val n) ∧ match As (S.val x), As (S.val n) with
  | .own t off s es, .int _ l => t < Ct ∧ off = 0 ∧ s = sz ∧ 0 ≤ l ∧ ((es.length : Int) + l) * bytes ≤ 140737488355328 ∧
   (K ((S.drop t).putC d (.own t 0 sz (es ++ List.replicate l.toNat zero)) (Ik x (es.length + l.toNat))) ∨
    ∃ d' c, d = some d' ∧ S.capOf x = some c ∧ Gb ≤ c ∧ c - Gb < es.length + l ∧ K ((S.drop (64 * d')).put d (.own (64 * d') 0 sz (es ++ List.replicate l.toNat zero))))
  | _, _ => False
 | .copy sz x y => Az true (S.val x) ∧ Az true (S.val y) ∧ match As (S.val x), Qx (As (S.val y)) with
  | .own t off s es, some (s', ys) => s = sz ∧ s' = sz ∧
   K ((S.map (jB t sz off (ys.take es.length))).put d (.int .i64 (min ys.length es.length : Nat)))
  | _, _ => False
 | .toBytes x => Az true (S.val x) ∧ match As (S.val x) with
  | .str s => K (S.put d (.lst 1 (Jt s)))
  | _ => False
 | .call f args => Cd (fun x => Az true (S.val x)) args ∧ jC C f (args.map fun x => As (S.val x)) d S K
 | .callv x args => Az true (S.val x) ∧ Cd (fun x => Az true (S.val x)) args ∧ match As (S.val x) with
  | .clo f caps => jC C f (args.map (fun x => As (S.val x)) ++ caps) d S K
  | _ => False
 | .isnil x ne => Az true (S.val x) ∧ match pC (As (S.val x)) with
  | some es => ∀ b : Bool, (b = true → es = []) → K (S.put d (.bool (if ne then !b else b)))
  | none => False
 | .mkM => match d with
  | some d => K ((S.drop (64 * d)).put (some d) (.own (64 * d) 0 0 [[.tup []]]))
  | none => False
 | .mset x k v => Az true (S.val x) ∧ Az true (S.val k) ∧ Az true (S.val v) ∧ match As (S.val x), As (S.val k), As (S.val v) with
  | .own t _ 0 ([.tup []] :: _), .int .i64 n, .bool b => K ((S.map (kY t n b)).put d .undef)
  | _, _, _ => False
 | .cap x => Az true (S.val x) ∧ match As (S.val x), x with
  | .own _ off sz es, .t n => sz ≠ 0 ∧ ∀ c : Nat, es.length ≤ c → (off = 0 → c ≤ 9223372036854775807) → (∀ c0, S.capOf x = some c0 → Gb ≤ c0 → (c : Int) = c0 - Gb) → K (St.put { S with cp := Kn n (fun _ => some (Gb + c)) S.cp } d (.int .i64 c))
  | _, _ => False
 | .clear sz zero x => Az true (S.val x) ∧ match As (S.val x) with
  | .own t off s es => s = sz ∧ K ((S.map (jB t sz off (List.replicate es.length zero))).put d .undef)
  | _ => False
 | .chk3 x lo hi mx => (Az true (S.val x) ∧ Az true (S.val lo) ∧ Az true (S.val hi) ∧ Az true (S.val mx)) ∧ match pC (As (S.val x)), As (S.val lo), As (S.val hi), As (S.val mx) with
  | some es, .int _ a, .int _ b, .int _ c => 0 ≤ a ∧ a ≤ b ∧ b ≤ c ∧ c ≤ es.length ∧ K (S.put d .undef)
  | _, _, _, _ => False
 | .bad => False
def Cv (S : St) (op : cW) (v : V) : Prop :=
 match op with
 | .p o => Cd (fun x => Az true (S.val x)) o.opds ∧ ∃ ψ, pu S (fun x => As (S.val x)) o = some (ψ, v) ∧ ψ
 | .pick c a b => Az true (S.val c) ∧ ∃ cb, As (S.val c) = .bool cb ∧ Az cb (S.val a) ∧ Az (!cb) (S.val b) ∧ v = Oq cb (As (S.val a)) (As (S.val b))
 | _ => False
def wGd (C : Bc) (d : Option Nat) (op : cW) (g : Bool) (S : St) (K : St → Prop) : Prop :=
 match op with
 | .p o => ∃ u, (g = true → Cv S (.p o) u) ∧ K (S.put d (.may g u))
 | .pick c a b => ∃ u, (g = true → Cv S (.pick c a b) u) ∧ K (S.put d (.may g u))
 | .call f args => (Cd (fun x => Az g (S.val x)) args ∧ lV C f (args.map fun x => As (S.val x)) d g S K) ∨ ((g = true → Tw C d (.call f args) S K) ∧ (g = false → K (S.put d .undef)))
 | .callv x args => (Az g (S.val x) ∧ Cd (fun x => Az g (S.val x)) args ∧ match As (S.val x) with
  | .clo f caps => lV C f (args.map (fun x => As (S.val x)) ++ caps) d g S K
  | _ => False) ∨ ((g = true → Tw C d (.callv x args) S K) ∧ (g = false → K (S.put d .undef)))
 | op => (g = true → Tw C d op S K) ∧ (g = false → K (S.put d .undef))
def Db (C : Bc) (i : Ch) (S : St) (K : St → Prop) : Prop :=
 match i.g with
 | none => Tw C i.dst i.op S K
 | some (gs, want) => match Li (S.val (.t gs)) want with
  | some g => wGd C i.dst i.op g S K
  | none => False
def mN (S : St) (k : Nat) (c : Int) : Prop :=
 (∃ c', look S.cp k = some c' ∧ (c = c' ∨ c < Gb ∧ c ≤ Mt c')) ∨ (∃ t off sz es, look S.env k = some (.own t off sz es) ∧ es ≠ [] ∧ c ≤ es.length ∧ c < Gb ∧ sz ≠ 0) ∨
  ∃ k' c' t sz off es off' es', look S.cp k' = some c' ∧ look S.env k' = some (.own t off' sz es') ∧ es' ≠ [] ∧ look S.env k = some (.own t off sz es) ∧ es ≠ [] ∧ sz ≠ 0 ∧
   (c < Gb ∧ c + off ≤ Mt c' + off' ∨ c = c' ∧ off = off')
def Le (S S' : St) : Prop := (∀ t v, look S'.env t = some v → look S.env t = some v) ∧ (∀ t cs, look S'.bx t = some cs → look S.bx t = some cs) ∧ (∀ k c, look S'.cp k = some c → mN S k c)
def Vx (S S' : St) : Prop := (∀ t, look S.env t = look S'.env t) ∧ ∀ k, look S.cp k = look S'.cp k
def rH (t t' x : Nat) : Nat := if x = t then t' else if x = t' then t else x
def swC (t t' : Nat) : V → V
 | .own x off sz es => .own (rH t t' x) off sz es
 | .optr x sz j k => .optr (rH t t' x) sz j k
 | c => c
def St.swap (S : St) (t t' : Nat) : St := S.map (swC t t')
def St.swaps (S : St) : List (Nat × Nat) → St
 | [] => S
 | (t, t') :: r => (S.swap t t').swaps r
def fT : List (Nat × Nat) → Bool
 | [] => true
 | (t, t') :: r => decide (t < Ct) && decide (t' < Ct) && fT r
inductive Fg : St → St → Prop
 | le {S S' : St} (h : Le S S') : Fg S S'
 | fz (S : St) (ts : List Nat) : Fg S (S.freezes ts)
 | sw (S : St) (rs : List (Nat × Nat)) (h : fT rs = true) : Fg S (S.swaps rs)
 | trans {S S' S'' : St} (h1 : Fg S S') (h2 : Fg S' S'') : Fg S S''
def qV (C : Bc) : List Ch → (St → Prop) → St → Prop
 | [], K, S => K S
 | i :: r, K, S => ∃ S1, Fg S S1 ∧ Db C i S1 (qV C r K)
def Dp (i : Ch) (S : St) : Prop :=
 match i.op with
 | .p (.load x _ _) => match As (S.val x) with
  | .optr .. => False
  | _ => True
 | _ => True
def Ez (C : Bc) (X : List Ch) (S : St) : Prop := Cd (fun j => Db C j S (fun S' => Vx S' S)) X
def Mp (C : Bc) (X l : List Ch) (S : St) : Prop := Cd (fun j => (Dp j S ∨ j ∈ X) ∧ Db C j S (fun S' => Vx S' S)) l
def WD (C : Bc) : DP → List Ch → (St → Prop) → St → Prop
 | .fin, _, K, S => K S
 | .take i r, X, K, S => (Dp i S ∧ Db C i S (fun S' => Ez C X S' ∧ WD C r X K S')) ∨ Db C i S (fun S' => Ez C (i :: X) S' ∧ WD C r (i :: X) K S')
 | .alt held i r rest, X, K, S => Db C i S (fun S' => ∃ S1, Fg S' S1 ∧ ∃ X', Mp C X' held S1 ∧ Ez C X' S1 ∧ WD C r X' K S1) ∧ WD C rest X K S
 | .stop, _, _, _ => True
 | .dead, _, _, _ => False
inductive Ex where
 | normal
 | exit (id : Nat)
 | ret
def W (C : Bc) : IR → (Ex → St → Prop) → St → Prop
 | .skip, Q, S => Q .normal S
 | .reg l, Q, S => qV C l (Q .normal) S
 | .draw p, Q, S => WD C p [] (Q .normal) S
 | .seq a b, Q, S => W C a (fun e S' => match e with | .normal => ∃ S1, Fg S' S1 ∧ W C b Q S1 | e => Q e S') S
 | .ite c a b, Q, S => Az true (S.val c) ∧ match As (S.val c) with
  | .bool cb => (cb = true → W C a Q S) ∧ (cb = false → W C b Q S)
  | _ => False
 | .block id a, Q, S => W C a (fun e S' => match e with | .exit id' => if id' = id then Q .normal S' else Q (.exit id') S' | e => Q e S') S
 | .loop a, Q, S => ∃ (I : St → Prop) (μ : St → Nat), (∃ S1, Fg S S1 ∧ I S1) ∧ ∀ S, I S →
   W C a (fun e S' => match e with | .normal => ∃ S'', Fg S' S'' ∧ I S'' ∧ μ S'' < μ S | e => Q e S') S
 | .exit id, Q, S => Q (.exit id) S
 | .ret, Q, S => Q .ret S
 | .bad, _, _ => False
end Go.Ev
