/- Every pure operation of the machine is the model's. -/
import Derived.Test.YtfpbbpkdjmldkaaGreatQvP
set_option linter.all false
namespace Go.Ev
open Go.RowKit
variable {φ:Fa} {m m':M} {w w' w0:World} {A:Fr} {nt:Nat} {S S':St} {a:Act} {P:Program}
variable {o:Oper} {ψ:Prop} {v:V}
abbrev Fq (S:St):Cu→V:=fun x=>An (S.val x)
theorem yes_mv {y:Cu} {x:Operand} (ho:o.op = .move x∨o.op = .assign x) (hx:opd' φ x=some y) (h:Da φ w0 A nt m S a w) (hm:Bc true (S.val y)):
  Vt φ m P a w o (Fq S y):=by
 have h1:=opd'_ok hx h hm rfl
 rcases ho with ho | ho<;>exact ⟨a.eval x,by simp [execOp,ho],h1⟩
theorem Qq {op:BinOp} {t:TypeId} {x y:Operand} {u v:Value} (h:∀cs,u ≠ .agg cs) (h':u ≠ .nilIface):(eqGuard op t x y u v).run P w = .ok () w:=by
 unfold eqGuard
 cases op<;>cases u<;>first | rfl | exact absurd rfl (h _) | exact absurd rfl h'
theorem vP {op:BinOp} {t ty:TypeId} {x y:Operand} {x' y':Cu} (ho:o.op = .binOp op t x y ty) (hx:opd' φ x=some x') (hy:opd' φ y=some y')
  (h:Da φ w0 A nt m S a w) (hm:Dg (fun x=>Bc true (S.val x)) (PU.bin op x' y').opds) (hp:pu S (Fq S) (.bin op x' y')=some (ψ,v)) (hψ:ψ):Vt φ m P a w o v:=by
 have h1:RT φ m w (Fq S x') (a.eval x):=opd'_ok hx h hm.1 rfl
 have h2:RT φ m w (Fq S y') (a.eval y):=opd'_ok hy h hm.2.1 rfl
 have fin:∀ {u u':Value} {val:Value},a.eval x=u→a.eval y=u'→(∀cs,u ≠ .agg cs)→u ≠ .nilIface→(binOp op t u u').run P w = .ok val w→RT φ m w v val→Vt φ m P a w o v:=by
  intro u u' val e1 e2 h3 h4 h5 h6
  refine ⟨val,?_,h6⟩
  simp [execOp,ho,e1,e2,Qq h3 h4,h5]
 simp only [pu] at hp
 split at hp
 ·rename_i k x1 k' y1 e1 e2
  rw [e1] at h1; rw [e2] at h2
  have g1:=Fm h1; have g2:=Fm h2
  split at hp
  ·obtain ⟨val,h3,h4⟩:=Zq (P:=P) (w:=w) (φ:=φ) (m:=m) (k':=k') hp hψ t
   exact fin g1 g2 (by simp) (by simp) h3 h4
  ·obtain ⟨val,h3,h4⟩:=Zq (P:=P) (w:=w) (φ:=φ) (m:=m) (k':=k') hp hψ t
   exact fin g1 g2 (by simp) (by simp) h3 h4
  ·split at hp
   ·rename_i e; subst e
    obtain ⟨val,h3,h4⟩:=xH (P:=P) (w:=w) (φ:=φ) (m:=m) hp hψ t
    exact fin g1 g2 (by simp) (by simp) h3 h4
   ·cases hp
 ·rename_i x1 y1 e1 e2
  rw [e1] at h1; rw [e2] at h2
  obtain ⟨val,h3,h4⟩:=yI (P:=P) (w:=w) (φ:=φ) (m:=m) hp hψ t
  exact fin (Kh h1) (Kh h2) (by simp) (by simp) h3 h4
 ·cases hp
theorem MW {op:BinOp} {t ty:TypeId} {x y:Operand} {x' y':Cu} (ho:o.op = .binOp op t x y ty) (hx:opd' φ x=some x') (hy:opd' φ y=some y')
  (hb:P.underlying t=some .bool)
  (h:Da φ w0 A nt m S a w) (hm:Dg (fun x=>Bc true (S.val x)) (PU.binB op x' y').opds) (hp:pu S (Fq S) (.binB op x' y')=some (ψ,v)) (_hψ:ψ):Vt φ m P a w o v:=by
 have h1:RT φ m w (Fq S x') (a.eval x):=opd'_ok hx h hm.1 rfl
 have h2:RT φ m w (Fq S y') (a.eval y):=opd'_ok hy h hm.2.1 rfl
 simp only [pu] at hp
 split at hp
 ·rename_i x1 y1 e1 e2
  rw [e1] at h1; rw [e2] at h2
  have he:(Op.equal t (.bool x1) (.bool y1)).run P w = .ok (x1==y1) w:=run_equalIn_bool' w 9999 t x1 y1 hb
  have hg:(eqGuard op t x y (.bool x1) (.bool y1)).run P w = .ok () w:=Qq (by simp) (by simp)
  split at hp
  ·cases hp
   exact ⟨.bool (x1==y1),by simp [execOp,ho,Gu h1,Gu h2,hg,binOp,he],Hs _⟩
  ·cases hp
   exact ⟨.bool !(x1==y1),by simp [execOp,ho,Gu h1,Gu h2,hg,binOp,he],Hs _⟩
  ·cases hp
 ·cases hp
theorem yes_un {op:UnOp} {t:TypeId} {x:Operand} {x':Cu} (ho:o.op = .unOp op t x) (hx:opd' φ x=some x')
  (h:Da φ w0 A nt m S a w) (hm:Dg (fun x=>Bc true (S.val x)) (PU.un op x').opds) (hp:pu S (Fq S) (.un op x')=some (ψ,v)) (_hψ:ψ):Vt φ m P a w o v:=by
 have h1:RT φ m w (Fq S x') (a.eval x):=opd'_ok hx h hm.1 rfl
 simp only [pu] at hp
 split at hp
 ·rename_i k n e1
  cases hp
  rw [e1] at h1
  exact ⟨_,by simp [execOp,ho,Fm h1,Op.unary,Op.intArith],Dz _ _⟩
 ·rename_i k n e1
  cases hp
  rw [e1] at h1
  exact ⟨_,by simp only [execOp,ho,Fm h1,Op.unary]; rfl,Dz _ _⟩
 ·rename_i b e1
  cases hp
  rw [e1] at h1
  exact ⟨_,by simp [execOp,ho,Gu h1,Op.unary],Hs _⟩
 ·cases hp
theorem MX {s d:TypeId} {k k':IntKind} {x:Operand} {x':Cu} (ho:o.op = .convert s d x) (hx:opd' φ x=some x')
  (hs:P.underlying s=some (.int k')) (hd:P.underlying d=some (.int k))
  (h:Da φ w0 A nt m S a w) (hm:Dg (fun x=>Bc true (S.val x)) (PU.conv k x').opds) (hp:pu S (Fq S) (.conv k x')=some (ψ,v)) (_hψ:ψ):Vt φ m P a w o v:=by
 have h1:RT φ m w (Fq S x') (a.eval x):=opd'_ok hx h hm.1 rfl
 simp only [pu] at hp
 split at hp
 ·rename_i q n e1
  cases hp
  rw [e1] at h1
  exact ⟨_,by simp [execOp,ho,Fm h1,convert,run_underlying hs,run_underlying hd,Conv.intToInt],Dz _ _⟩
 ·cases hp
theorem NA {t:TypeId} {x:Operand} {x':Cu} {i:TypeInfo} {ag:Bool} (ho:o.op = .load t x) (hx:opd' φ x=some x') (hi:P.info? t=some i) (hag:Iq P t=some ag)
  (h0:i.size≠0) (h:Da φ w0 A nt m S a w) (hm:Dg (fun x=>Bc true (S.val x)) (PU.load x' i.size ag).opds) (hp:pu S (Fq S) (.load x' i.size ag)=some (ψ,v)) (hψ:ψ):Vt φ m P a w o v:=by
 have h1:RT φ m w (Fq S x') (a.eval x):=opd'_ok hx h hm.1 rfl
 have fin:∀ {ad:Addr} {cs:List V},a.eval x = .pointer (some ad)→i.size≤cs.length→(∀(j:Nat) (c:V),cs[j]? = some c→∃v,w.cell? (ad.add j)=some v∧RC φ m w c v∧v.oneCell'=true) →
   Jw ag i.size cs=some v→Vt φ m P a w o v:=by
  intro ad cs e1 e2 e3 e4
  obtain ⟨val,h3,h4⟩:=dL hag hi h0 e2 e3 e4
  exact ⟨val,by simp [execOp,ho,e1,Instr.loadAt,Instr.sureAddr,h3],h4⟩
 simp only [pu] at hp
 split at hp
 ·rename_i tag k e1
  rw [e1] at h1
  obtain ⟨b,hb,e2⟩:=bR h1
  split at hp
  ·rename_i cs hcs
   split at hp
   ·rename_i u hu
    cases hp
    obtain ⟨b',hb',hc⟩:=(h.rb hcs).cell
    rw [hb] at hb'; cases hb'
    refine fin e2 (by simp; omega) (fun j c hj=>?_) hu
    rw [List.getElem?_drop] at hj
    obtain ⟨x,g1,g2⟩:=hc _ c hj
    exact ⟨x,by rw [Fj]; exact g1,g2⟩
   ·cases hp
  ·cases hp
 ·rename_i cs e1
  rw [e1] at h1
  obtain ⟨b,o',e2,hc⟩:=(iS h1).icell
  split at hp
  ·rename_i u hu
   cases hp
   refine fin e2 hψ (fun j c hj=>?_) hu
   obtain ⟨x,g1,g2⟩:=hc _ c hj
   exact ⟨x,by rw [Fj]; exact g1,g2⟩
  ·cases hp
 ·rename_i tag sz j k e1
  rw [e1] at h1
  obtain ⟨b,hb,e2⟩:=aK h1
  split at hp
  ·rename_i off es hf
   split at hp
   ·rename_i u hu
    cases hp
    obtain ⟨q1,q2,q3,q4⟩:=hψ
    obtain ⟨sz',hsz0,val',hro⟩:=h.find hf
    obtain ⟨g1,g2,b',hb',g3⟩:=hro.cell hsz0 (j:=j-off) (by omega)
    rw [hb] at hb'; cases hb'
    obtain rfl:sz=sz':=q4.symm.trans g2
    refine fin e2 (cs:=(es.getD (j-off) []).drop k) (by rw [List.length_drop,q4]; omega) (fun l c hl=>?_) hu
    rw [List.getElem?_drop] at hl
    obtain ⟨x,g4,g5⟩:=g3 _ c hl
    refine ⟨x,?_,g5⟩
    rw [Fj,←g4]
    have:off+(j-off)=j:=by omega
    rw [this,Nat.add_assoc]
   ·cases hp
  ·cases hp
 ·cases hp
theorem sO {t:TypeId} {x:Operand} {x':Cu} {fi:Nat} {fs:Array Field} {f:Field} {i:TypeInfo} (ho:o.op = .fieldAddr t x fi) (hx:opd' φ x=some x')
  (ht:P.underlying t=some (.struct fs)) (hf:fs[fi]? = some f) (hi:P.info? f.type=some i) (h0:i.size≠0)
  (h:Da φ w0 A nt m S a w) (hm:Dg (fun x=>Bc true (S.val x)) (PU.fieldA x' f.offset).opds) (hp:pu S (Fq S) (.fieldA x' f.offset)=some (ψ,v)) (hψ:ψ):Vt φ m P a w o v:=by
 have h1:RT φ m w (Fq S x') (a.eval x):=opd'_ok hx h hm.1 rfl
 have run:∀ {ad:Addr},a.eval x = .pointer (some ad)→(execOp a.eval o).run P w = .ok (.value (.pointer (some (ad.add f.offset)))) w:=by
  intro ad e
  simp [execOp,ho,e,Instr.fieldAt,run_underlying ht,hf,Instr.sureAddr,fieldPlace,It hi,h0]
 simp only [pu] at hp
 split at hp
 ·rename_i tag k e1
  cases hp
  rw [e1] at h1
  obtain ⟨b,hb,e2⟩:=bR h1
  exact ⟨_,run e2,⟨b,hb,by rw [Fj]⟩,fun _=>rfl⟩
 ·rename_i cs e1
  cases hp
  rw [e1] at h1
  have h2:=iS h1
  generalize a.eval x=val at *
  cases h2 with
  | iptr cs b o' vs hb hav hc hr=>
   refine ⟨_,run rfl,?_,fun _=>rfl⟩
   rw [Fj]
   refine RD.iptr _ b (o'+f.offset) (fun k=>vs (f.offset+k)) hb hav (fun k c hk=>?_) (fun k c hk=>?_)
   ·rw [List.getElem?_drop] at hk
    have:=hc _ c hk
    rwa [show o'+f.offset+k=o'+(f.offset+k) by omega]
   ·rw [List.getElem?_drop] at hk
    exact hr _ c hk
 ·rename_i tag sz j k e1
  cases hp
  rw [e1] at h1
  obtain ⟨b,hb,e2⟩:=aK h1
  exact ⟨_,run e2,⟨b,hb,by rw [Fj,Nat.add_assoc]⟩,fun _=>rfl⟩
 ·cases hp
end Go.Ev
