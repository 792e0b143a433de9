/- The pure operations: what the machine says, the model does. -/
import Derived.Test.YtjkemmodemomdaaGreatDoorQvS6
import Derived.Laws.StructEq
import Derived.Laws.Strings
set_option linter.all false
namespace Go.Ev
open Go.RowKit
variable {φ:Bz} {m m':M} {w w' w0:World} {A:Fr} {nt:Nat} {S S':St} {a:Act} {P:Program}
theorem Jh {v:V} {val:Value} (h:RV φ m w v val) {g:Bool} (hm:Af g v) (hg:g=true):RT φ m w (Ab v) val:=by
 cases v with
 | may b x=>exact h.1 (hm hg)
 | _=>exact h
theorem Aw.val (h:Aw φ w0 A nt m S a w) (n:Nat):RV φ m w (S.val (.t n)) (a.tmps.getD n undef):=by
 simp only [St.val]
 cases hl:look S.env n with
 | none=>exact Cy
 | some v=>exact h.env n v hl
theorem eG (s:ByteArray):(⟨s.data.toList.toArray⟩:ByteArray)=s:=by cases s; simp
theorem aV (s:ByteArray):RT φ m w (.str s.data.toList) (.string s):=by
 have h:RD φ w m.avoid (.str s.data.toList) (.string ⟨s.data.toList.toArray⟩):=.str _
 rw [eG] at h
 exact ⟨h,fun _=>rfl⟩
theorem opd'_ok {x:Operand} {y:Ay} (hx:opd' φ x=some y) (h:Aw φ w0 A nt m S a w) {g:Bool} (hm:Af g (S.val y)) (hg:g=true):
  RT φ m w (Ab (S.val y)) (a.eval x):=by
 unfold opd' at hx
 split at hx
 ·cases hx; exact Jh (h.val _) hm hg
 ·cases hx; exact ⟨RD.int _ _,fun _=>rfl⟩
 ·cases hx; exact ⟨RD.bool _,fun _=>rfl⟩
 ·cases hx; exact aV _
 ·split at hx
  ·rename_i f g' hl
   cases hx
   exact ⟨⟨_,[],hl,rfl,rfl,by simp⟩,fun _=>rfl⟩
  ·cases hx
 ·cases hx; exact ⟨trivial,fun hh=>absurd rfl hh⟩
 ·cases hx
theorem Gh {t:TypeId} {x:Operand} {y:Ay} (hx:Rg P φ t x=some y) (h:Aw φ w0 A nt m S a w) {g:Bool} (hm:Af g (S.val y)) (hg:g=true):
  RT φ m w (Ab (S.val y)) (a.eval x):=by
 unfold Rg at hx
 split at hx
 ·cases hx; exact Jh (h.val _) hm hg
 ·cases hx; exact ⟨RD.int _ _,fun _=>rfl⟩
 ·cases hx; exact ⟨RD.bool _,fun _=>rfl⟩
 ·cases hx; exact aV _
 ·split at hx
  ·cases hx; exact ⟨RD.nil _,fun _=>rfl⟩
  ·cases hx
 ·split at hx
  ·rename_i f g' hl
   cases hx
   exact ⟨⟨_,[],hl,rfl,rfl,by simp⟩,fun _=>rfl⟩
  ·cases hx
 ·cases hx; exact ⟨trivial,fun hh=>absurd rfl hh⟩
 ·cases hx
theorem Ce {k:IntKind} {n:Int} {val:Value} (h:RT φ m w (.int k n) val):val = .int k n:=by
 have h1:RD φ w m.avoid (.int k n) val:=h.1
 cases h1; rfl
theorem Dc {b:Bool} {val:Value} (h:RT φ m w (.bool b) val):val = .bool b:=by
 have h1:RD φ w m.avoid (.bool b) val:=h.1
 cases h1; rfl
theorem Ez {s:List UInt8} {val:Value} (h:RT φ m w (.str s) val):val = .string ⟨s.toArray⟩:=by
 have h1:RD φ w m.avoid (.str s) val:=h.1
 cases h1; rfl
theorem Nh {t k:Nat} {val:Value} (h:RT φ m w (.ptr t k) val):∃b,m.blk true t=some b∧val = .pointer (some ⟨b,k,none⟩):=h.1
theorem Md {t sz j k:Nat} {val:Value} (h:RT φ m w (.optr t sz j k) val):∃b,m.blk false t=some b∧val = .pointer (some ⟨b,j*sz+k,none⟩):=h.1
theorem Dd {t off sz:Nat} {es:List (List V)} {val:Value} (h:RT φ m w (.own t off sz es) val):RO φ m w t off sz es val:=h.1
theorem If {sz:Nat} {es:List (List V)} {val:Value} (h:RT φ m w (.lst sz es) val):RD φ w m.avoid (.lst sz es) val:=h.1
theorem Ox {cs:List V} {val:Value} (h:RT φ m w (.iptr cs) val):RD φ w m.avoid (.iptr cs) val:=h.1
theorem Sr {cs:List V} {val:Value} (h:RT φ m w (.agg cs) val):∃arr:List Value,val = .agg arr.toArray∧arr.length=cs.length ∧
   ∀(i:Nat) (c:V) (x:Value),cs[i]? = some c→arr[i]? = some x→RC φ m w c x∧x.oneCell'=true:=h
theorem rX {vs:List V} {val:Value} (h:RT φ m w (.tup vs) val):∃arr:List Value,val = .tuple arr.toArray∧arr.length=vs.length ∧
   ∀(i:Nat) (x:V) (y:Value),vs[i]? = some x→arr[i]? = some y→RW φ m w x y:=h
theorem Bm (k:IntKind) (n:Int):RT φ m w (.int k n) (.int k n):=⟨RD.int _ _,fun _=>rfl⟩
theorem Dt (b:Bool):RT φ m w (.bool b) (.bool b):=⟨RD.bool _,fun _=>rfl⟩
theorem Ey (s:List UInt8):RT φ m w (.str s) (.string ⟨s.toArray⟩):=⟨RD.str _,fun _=>rfl⟩
def Kw (φ:Bz) (m:M) (P:Program) (a:Act) (w:World) (o:Oper) (v:V):Prop:=
 ∃val,(execOp a.eval o).run P w = .ok (.value val) w∧RT φ m w v val
section
variable {o:Oper} {ψ:Prop} {v:V}
theorem Zq {op:BinOp} {k:IntKind} {x y:Int} (hp:Ti op k x y=some (ψ,v)) (hψ:ψ) (t:TypeId):
  ∃val,(binOp op t (.int k x) (.int k y)).run P w = .ok val w∧RT φ m w v val:=by
 cases op<;>simp only [Ti,Option.some.injEq,Prod.mk.injEq,reduceCtorEq] at hp<;>obtain ⟨rfl,rfl⟩:=hp
 case add=>exact ⟨_,by simp [binOp,Op.intArith],Bm _ _⟩
 case sub=>exact ⟨_,by simp [binOp,Op.intArith],Bm _ _⟩
 case mul=>exact ⟨_,by simp [binOp,Op.intArith],Bm _ _⟩
 case quo=>exact ⟨_,by simp [binOp,Op.intDiv,hψ],Bm _ _⟩
 case rem=>exact ⟨_,by simp [binOp,Op.intDiv,hψ],Bm _ _⟩
 case and=>exact ⟨_,by simp only [binOp,ne_eq,not_true_eq_false,if_false]; rfl,Bm _ _⟩
 case or=>exact ⟨_,by simp only [binOp,ne_eq,not_true_eq_false,if_false]; rfl,Bm _ _⟩
 case xor=>exact ⟨_,by simp only [binOp,ne_eq,not_true_eq_false,if_false]; rfl,Bm _ _⟩
 case andNot=>exact ⟨_,by simp only [binOp,ne_eq,not_true_eq_false,if_false]; rfl,Bm _ _⟩
 all_goals exact ⟨_,by simp only [binOp,ne_eq,not_true_eq_false,if_false]; rfl,Dt _⟩
theorem Od {op:BinOp} {k k':IntKind} {x y:Int} (hp:Qe op k x y=some (ψ,v)) (hψ:ψ) (t:TypeId):
  ∃val,(binOp op t (.int k x) (.int k' y)).run P w = .ok val w∧RT φ m w v val:=by
 cases op<;>simp only [Qe,Option.some.injEq,Prod.mk.injEq,reduceCtorEq] at hp <;>
  obtain ⟨rfl,rfl⟩:=hp <;>
  exact ⟨_,by simp [binOp,Op.shift,Int.not_lt.2 hψ],Bm _ _⟩
theorem aI {op:BinOp} {x y:List UInt8} (hp:Tw op x y=some (ψ,v)) (hψ:ψ) (t:TypeId):
  ∃val,(binOp op t (.string ⟨x.toArray⟩) (.string ⟨y.toArray⟩)).run P w = .ok val w∧RT φ m w v val:=by
 have e:∀s:List UInt8,(⟨s.toArray⟩:ByteArray).toList=s:=fun s=>by rw [ByteArray.toList_eq]
 cases op<;>simp only [Tw,Option.some.injEq,Prod.mk.injEq,reduceCtorEq] at hp<;>obtain ⟨rfl,rfl⟩:=hp
 case add=>
  refine ⟨.string ⟨(x++y).toArray⟩,?_,Ey _⟩
  have h1:¬((((⟨x.toArray⟩:ByteArray).size+(⟨y.toArray⟩:ByteArray).size:Nat):Int)>IntKind.i64.max):=by
   have:IntKind.i64.max=9223372036854775807:=by decide
   rw [this]
   simp only [ByteArray.size,List.size_toArray]
   omega
  simp only [binOp,Op.stringOp,h1,if_false,Sem.run_pure]
  congr 2
 all_goals exact ⟨_,by simp only [binOp,Op.stringOp,e]; rfl,Dt _⟩
end
end Go.Ev
