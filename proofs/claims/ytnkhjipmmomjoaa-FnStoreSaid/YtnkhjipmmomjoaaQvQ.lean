/- Every pure operation of the machine is the model's. -/
import Derived.Test.YtnkhjipmmomjoaaQvP
set_option linter.all false
namespace Go.Ev
open Go.RowKit
variable {φ:Dd} {m m':M} {w w' w0:World} {A:Fr} {nt:Nat} {S S':St} {a:Act} {P:Program}
variable {o:Oper} {ψ:Prop} {v:V}
abbrev Dc (S:St):Bm→V:=fun x=>Am (S.val x)
theorem TZ {y:Bm} {x:Operand} (ho:o.op = .move x∨o.op = .assign x) (hx:opd' φ x=some y) (h:Bq φ w0 A nt m S a w) (hm:Au true (S.val y)):
  Ns φ m P a w o (Dc S y):=by
 have h1:=opd'_ok hx h hm rfl
 rcases ho with ho | ho<;>exact ⟨a.eval x,by simp [execOp,ho],h1⟩
theorem Ly {op:BinOp} {t:TypeId} {x y:Operand} {u v:Value} (h:∀cs,u ≠ .agg cs) (h':u ≠ .nilIface):(eqGuard op t x y u v).run P w = .ok () w:=by
 unfold eqGuard
 cases op<;>cases u<;>first | rfl | exact absurd rfl (h _) | exact absurd rfl h'
theorem eP {op:BinOp} {t ty:TypeId} {x y:Operand} {x' y':Bm} (ho:o.op = .binOp op t x y ty) (hx:opd' φ x=some x') (hy:opd' φ y=some y')
  (h:Bq φ w0 A nt m S a w) (hm:Bt (fun x=>Au true (S.val x)) (PU.bin op x' y').opds) (hp:pu S (Dc S) (.bin op x' y')=some (ψ,v)) (hψ:ψ):Ns φ m P a w o v:=by
 have h1:RT φ m w (Dc S x') (a.eval x):=opd'_ok hx h hm.1 rfl
 have h2:RT φ m w (Dc S y') (a.eval y):=opd'_ok hy h hm.2.1 rfl
 have fin:∀ {u u':Value} {val:Value},a.eval x=u→a.eval y=u'→(∀cs,u ≠ .agg cs)→u ≠ .nilIface→(binOp op t u u').run P w = .ok val w→RT φ m w v val→Ns φ m P a w o v:=by
  intro u u' val e1 e2 h3 h4 h5 h6
  refine ⟨val,?_,h6⟩
  simp [execOp,ho,e1,e2,Ly h3 h4,h5]
 simp only [pu] at hp
 split at hp
 ·rename_i k x1 k' y1 e1 e2
  rw [e1] at h1; rw [e2] at h2
  have g1:=Da h1; have g2:=Da h2
  split at hp
  ·obtain ⟨val,h3,h4⟩:=Rm (P:=P) (w:=w) (φ:=φ) (m:=m) (k':=k') hp hψ t
   exact fin g1 g2 (by simp) (by simp) h3 h4
  ·obtain ⟨val,h3,h4⟩:=Rm (P:=P) (w:=w) (φ:=φ) (m:=m) (k':=k') hp hψ t
   exact fin g1 g2 (by simp) (by simp) h3 h4
  ·split at hp
   ·rename_i e; subst e
    obtain ⟨val,h3,h4⟩:=gA (P:=P) (w:=w) (φ:=φ) (m:=m) hp hψ t
    exact fin g1 g2 (by simp) (by simp) h3 h4
   ·cases hp
 ·rename_i x1 y1 e1 e2
  rw [e1] at h1; rw [e2] at h2
  obtain ⟨val,h3,h4⟩:=gU (P:=P) (w:=w) (φ:=φ) (m:=m) hp hψ t
  exact fin (Gl h1) (Gl h2) (by simp) (by simp) h3 h4
 ·cases hp
theorem pO {op:BinOp} {t ty:TypeId} {x y:Operand} {x' y':Bm} (ho:o.op = .binOp op t x y ty) (hx:opd' φ x=some x') (hy:opd' φ y=some y')
  (hb:P.underlying t=some .bool)
  (h:Bq φ w0 A nt m S a w) (hm:Bt (fun x=>Au true (S.val x)) (PU.binB op x' y').opds) (hp:pu S (Dc S) (.binB op x' y')=some (ψ,v)) (_hψ:ψ):Ns φ m P a w o v:=by
 have h1:RT φ m w (Dc S x') (a.eval x):=opd'_ok hx h hm.1 rfl
 have h2:RT φ m w (Dc S y') (a.eval y):=opd'_ok hy h hm.2.1 rfl
 simp only [pu] at hp
 split at hp
 ·rename_i x1 y1 e1 e2
  rw [e1] at h1; rw [e2] at h2
  have he:(Op.equal t (.bool x1) (.bool y1)).run P w = .ok (x1==y1) w:=run_equalIn_bool' w 9999 t x1 y1 hb
  have hg:(eqGuard op t x y (.bool x1) (.bool y1)).run P w = .ok () w:=Ly (by simp) (by simp)
  split at hp
  ·cases hp
   exact ⟨.bool (x1==y1),by simp [execOp,ho,Ef h1,Ef h2,hg,binOp,he],Fh _⟩
  ·cases hp
   exact ⟨.bool !(x1==y1),by simp [execOp,ho,Ef h1,Ef h2,hg,binOp,he],Fh _⟩
  ·cases hp
 ·cases hp
theorem UA {op:UnOp} {t:TypeId} {x:Operand} {x':Bm} (ho:o.op = .unOp op t x) (hx:opd' φ x=some x')
  (h:Bq φ w0 A nt m S a w) (hm:Bt (fun x=>Au true (S.val x)) (PU.un op x').opds) (hp:pu S (Dc S) (.un op x')=some (ψ,v)) (_hψ:ψ):Ns φ m P a w o v:=by
 have h1:RT φ m w (Dc S x') (a.eval x):=opd'_ok hx h hm.1 rfl
 simp only [pu] at hp
 split at hp
 ·rename_i k n e1
  cases hp
  rw [e1] at h1
  exact ⟨_,by simp [execOp,ho,Da h1,Op.unary,Op.intArith],Ci _ _⟩
 ·rename_i k n e1
  cases hp
  rw [e1] at h1
  exact ⟨_,by simp only [execOp,ho,Da h1,Op.unary]; rfl,Ci _ _⟩
 ·rename_i b e1
  cases hp
  rw [e1] at h1
  exact ⟨_,by simp [execOp,ho,Ef h1,Op.unary],Fh _⟩
 ·cases hp
theorem pP {s d:TypeId} {k k':IntKind} {x:Operand} {x':Bm} (ho:o.op = .convert s d x) (hx:opd' φ x=some x')
  (hs:P.underlying s=some (.int k')) (hd:P.underlying d=some (.int k))
  (h:Bq φ w0 A nt m S a w) (hm:Bt (fun x=>Au true (S.val x)) (PU.conv k x').opds) (hp:pu S (Dc S) (.conv k x')=some (ψ,v)) (_hψ:ψ):Ns φ m P a w o v:=by
 have h1:RT φ m w (Dc S x') (a.eval x):=opd'_ok hx h hm.1 rfl
 simp only [pu] at hp
 split at hp
 ·rename_i q n e1
  cases hp
  rw [e1] at h1
  exact ⟨_,by simp [execOp,ho,Da h1,convert,run_underlying hs,run_underlying hd,Conv.intToInt],Ci _ _⟩
 ·cases hp
theorem pX {s d:TypeId} {x:Operand} {x':Bm} (ho:o.op = .convert s d x) (hx:opd' φ x=some x')
  (hs:P.underlying s=some .string) (hd:P.underlying d=some .string)
  (h:Bq φ w0 A nt m S a w) (hm:Bt (fun x=>Au true (S.val x)) (PU.strc x').opds) (hp:pu S (Dc S) (.strc x')=some (ψ,v)) (_hψ:ψ):Ns φ m P a w o v:=by
 have h1:RT φ m w (Dc S x') (a.eval x):=opd'_ok hx h hm.1 rfl
 simp only [pu] at hp
 split at hp
 ·rename_i s' e
  cases hp
  rw [e] at h1
  exact ⟨_,by simp [execOp,ho,Gl h1,convert,run_underlying hs,run_underlying hd],Gk _⟩
 ·cases hp
theorem pS {t:TypeId} {x:Operand} {x':Bm} {i:TypeInfo} {ag:Bool} (ho:o.op = .load t x) (hx:opd' φ x=some x') (hi:P.info? t=some i) (hag:Fo P t=some ag)
  (h0:i.size≠0) (h:Bq φ w0 A nt m S a w) (hm:Bt (fun x=>Au true (S.val x)) (PU.load x' i.size ag).opds) (hp:pu S (Dc S) (.load x' i.size ag)=some (ψ,v)) (hψ:ψ):Ns φ m P a w o v:=by
 have h1:RT φ m w (Dc S x') (a.eval x):=opd'_ok hx h hm.1 rfl
 have fin:∀ {ad:Addr} {cs:List V},a.eval x = .pointer (some ad)→i.size≤cs.length→(∀(j:Nat) (c:V),cs[j]? = some c→∃v,w.cell? (ad.add j)=some v∧RC φ m w c v∧v.oneCell'=true) →
   Lf ag i.size cs=some v→Ns φ m P a w o v:=by
  intro ad cs e1 e2 e3 e4
  obtain ⟨val,h3,h4⟩:=Ug hag hi h0 e2 e3 e4
  exact ⟨val,by simp [execOp,ho,e1,Instr.loadAt,Instr.sureAddr,h3],h4⟩
 simp only [pu] at hp
 split at hp
 ·rename_i tag k e1
  rw [e1] at h1
  obtain ⟨b,hb,e2⟩:=Qq h1
  split at hp
  ·rename_i cs hcs
   split at hp
   ·rename_i u hu
    cases hp
    obtain ⟨b',hb',hc⟩:=(h.rb hcs).cell
    rw [hb] at hb'; cases hb'
    refine fin e2 (by simp; omega) (fun j c hj=>?_) hu
    rw [List.getElem?_drop] at hj
    obtain ⟨x,g1,g2⟩:=hc _ c hj
    exact ⟨x,by rw [Cv]; exact g1,g2⟩
   ·cases hp
  ·cases hp
 ·rename_i cs e1
  rw [e1] at h1
  obtain ⟨b,o',e2,hc⟩:=(Sd h1).icell
  split at hp
  ·rename_i u hu
   cases hp
   refine fin e2 hψ (fun j c hj=>?_) hu
   obtain ⟨x,g1,g2⟩:=hc _ c hj
   exact ⟨x,by rw [Cv]; exact g1,g2⟩
  ·cases hp
 ·rename_i tag sz j k e1
  rw [e1] at h1
  obtain ⟨b,hb,e2⟩:=Se h1
  split at hp
  ·rename_i off es hf
   split at hp
   ·rename_i u hu
    cases hp
    obtain ⟨q1,q2,q3,q4⟩:=hψ
    obtain ⟨sz',hsz0,val',hro⟩:=h.find hf
    obtain ⟨g1,g2,b',hb',g3⟩:=hro.cell hsz0 (j:=j-off) (by omega)
    rw [hb] at hb'; cases hb'
    obtain rfl:sz=sz':=q4.symm.trans g2
    refine fin e2 (cs:=(es.getD (j-off) []).drop k) (by rw [List.length_drop,q4]; omega) (fun l c hl=>?_) hu
    rw [List.getElem?_drop] at hl
    obtain ⟨x,g4,g5⟩:=g3 _ c hl
    refine ⟨x,?_,g5⟩
    rw [Cv,←g4]
    have:off+(j-off)=j:=by omega
    rw [this,Nat.add_assoc]
   ·cases hp
  ·cases hp
 ·cases hp
theorem cI {t:TypeId} {x:Operand} {x':Bm} {fi:Nat} {fs:Array Field} {f:Field} {i:TypeInfo} (ho:o.op = .fieldAddr t x fi) (hx:opd' φ x=some x')
  (ht:P.underlying t=some (.struct fs)) (hf:fs[fi]? = some f) (hi:P.info? f.type=some i) (h0:i.size≠0)
  (h:Bq φ w0 A nt m S a w) (hm:Bt (fun x=>Au true (S.val x)) (PU.fieldA x' f.offset).opds) (hp:pu S (Dc S) (.fieldA x' f.offset)=some (ψ,v)) (hψ:ψ):Ns φ m P a w o v:=by
 have h1:RT φ m w (Dc S x') (a.eval x):=opd'_ok hx h hm.1 rfl
 have run:∀ {ad:Addr},a.eval x = .pointer (some ad)→(execOp a.eval o).run P w = .ok (.value (.pointer (some (ad.add f.offset)))) w:=by
  intro ad e
  simp [execOp,ho,e,Instr.fieldAt,run_underlying ht,hf,Instr.sureAddr,fieldPlace,Ek hi,h0]
 simp only [pu] at hp
 split at hp
 ·rename_i tag k e1
  cases hp
  rw [e1] at h1
  obtain ⟨b,hb,e2⟩:=Qq h1
  exact ⟨_,run e2,⟨b,hb,by rw [Cv]⟩,fun _=>rfl⟩
 ·rename_i cs e1
  cases hp
  rw [e1] at h1
  have h2:=Sd h1
  generalize a.eval x=val at *
  cases h2 with
  | iptr cs b o' vs hb hav hc hr=>
   refine ⟨_,run rfl,?_,fun _=>rfl⟩
   rw [Cv]
   refine RD.iptr _ b (o'+f.offset) (fun k=>vs (f.offset+k)) hb hav (fun k c hk=>?_) (fun k c hk=>?_)
   ·rw [List.getElem?_drop] at hk
    have:=hc _ c hk
    rwa [show o'+f.offset+k=o'+(f.offset+k) by omega]
   ·rw [List.getElem?_drop] at hk
    exact hr _ c hk
 ·rename_i tag sz j k e1
  cases hp
  rw [e1] at h1
  obtain ⟨b,hb,e2⟩:=Se h1
  exact ⟨_,run e2,⟨b,hb,by rw [Cv,Nat.add_assoc]⟩,fun _=>rfl⟩
 ·cases hp
end Go.Ev
