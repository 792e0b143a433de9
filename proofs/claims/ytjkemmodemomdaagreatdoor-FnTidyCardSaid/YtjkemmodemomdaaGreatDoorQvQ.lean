/- Every pure operation of the machine is the model's. -/
import Derived.Test.YtjkemmodemomdaaGreatDoorQvP
set_option linter.all false
namespace Go.Ev
open Go.RowKit
variable {φ:Bz} {m m':M} {w w' w0:World} {A:Fr} {nt:Nat} {S S':St} {a:Act} {P:Program}
variable {o:Oper} {ψ:Prop} {v:V}
abbrev Ca (S:St):Ay→V:=fun x=>Ab (S.val x)
theorem uF {y:Ay} {x:Operand} (ho:o.op = .move x∨o.op = .assign x) (hx:opd' φ x=some y) (h:Aw φ w0 A nt m S a w) (hm:Af true (S.val y)):
  Kw φ m P a w o (Ca S y):=by
 have h1:=opd'_ok hx h hm rfl
 rcases ho with ho | ho<;>exact ⟨a.eval x,by simp [execOp,ho],h1⟩
theorem Jq {op:BinOp} {t:TypeId} {x y:Operand} {u v:Value} (h:∀cs,u ≠ .agg cs) (h':u ≠ .nilIface):(eqGuard op t x y u v).run P w = .ok () w:=by
 unfold eqGuard
 cases op<;>cases u<;>first | rfl | exact absurd rfl (h _) | exact absurd rfl h'
theorem Yw {op:BinOp} {t ty:TypeId} {x y:Operand} {x' y':Ay} (ho:o.op = .binOp op t x y ty) (hx:opd' φ x=some x') (hy:opd' φ y=some y')
  (h:Aw φ w0 A nt m S a w) (hm:Be (fun x=>Af true (S.val x)) (PU.bin op x' y').opds) (hp:pu S (Ca S) (.bin op x' y')=some (ψ,v)) (hψ:ψ):Kw φ m P a w o v:=by
 have h1:RT φ m w (Ca S x') (a.eval x):=opd'_ok hx h hm.1 rfl
 have h2:RT φ m w (Ca S y') (a.eval y):=opd'_ok hy h hm.2.1 rfl
 have fin:∀ {u u':Value} {val:Value},a.eval x=u→a.eval y=u'→(∀cs,u ≠ .agg cs)→u ≠ .nilIface→(binOp op t u u').run P w = .ok val w→RT φ m w v val→Kw φ m P a w o v:=by
  intro u u' val e1 e2 h3 h4 h5 h6
  refine ⟨val,?_,h6⟩
  simp [execOp,ho,e1,e2,Jq h3 h4,h5]
 simp only [pu] at hp
 split at hp
 ·rename_i k x1 k' y1 e1 e2
  rw [e1] at h1; rw [e2] at h2
  have g1:=Ce h1; have g2:=Ce h2
  split at hp
  ·obtain ⟨val,h3,h4⟩:=Od (P:=P) (w:=w) (φ:=φ) (m:=m) (k':=k') hp hψ t
   exact fin g1 g2 (by simp) (by simp) h3 h4
  ·obtain ⟨val,h3,h4⟩:=Od (P:=P) (w:=w) (φ:=φ) (m:=m) (k':=k') hp hψ t
   exact fin g1 g2 (by simp) (by simp) h3 h4
  ·split at hp
   ·rename_i e; subst e
    obtain ⟨val,h3,h4⟩:=Zq (P:=P) (w:=w) (φ:=φ) (m:=m) hp hψ t
    exact fin g1 g2 (by simp) (by simp) h3 h4
   ·cases hp
 ·rename_i x1 y1 e1 e2
  rw [e1] at h1; rw [e2] at h2
  obtain ⟨val,h3,h4⟩:=aI (P:=P) (w:=w) (φ:=φ) (m:=m) hp hψ t
  exact fin (Ez h1) (Ez h2) (by simp) (by simp) h3 h4
 ·cases hp
theorem eV {op:BinOp} {t ty:TypeId} {x y:Operand} {x' y':Ay} (ho:o.op = .binOp op t x y ty) (hx:opd' φ x=some x') (hy:opd' φ y=some y')
  (hb:P.underlying t=some .bool)
  (h:Aw φ w0 A nt m S a w) (hm:Be (fun x=>Af true (S.val x)) (PU.binB op x' y').opds) (hp:pu S (Ca S) (.binB op x' y')=some (ψ,v)) (_hψ:ψ):Kw φ m P a w o v:=by
 have h1:RT φ m w (Ca S x') (a.eval x):=opd'_ok hx h hm.1 rfl
 have h2:RT φ m w (Ca S y') (a.eval y):=opd'_ok hy h hm.2.1 rfl
 simp only [pu] at hp
 split at hp
 ·rename_i x1 y1 e1 e2
  rw [e1] at h1; rw [e2] at h2
  have he:(Op.equal t (.bool x1) (.bool y1)).run P w = .ok (x1==y1) w:=run_equalIn_bool' w 9999 t x1 y1 hb
  have hg:(eqGuard op t x y (.bool x1) (.bool y1)).run P w = .ok () w:=Jq (by simp) (by simp)
  split at hp
  ·cases hp
   exact ⟨.bool (x1==y1),by simp [execOp,ho,Dc h1,Dc h2,hg,binOp,he],Dt _⟩
  ·cases hp
   exact ⟨.bool !(x1==y1),by simp [execOp,ho,Dc h1,Dc h2,hg,binOp,he],Dt _⟩
  ·cases hp
 ·cases hp
theorem uG {op:UnOp} {t:TypeId} {x:Operand} {x':Ay} (ho:o.op = .unOp op t x) (hx:opd' φ x=some x')
  (h:Aw φ w0 A nt m S a w) (hm:Be (fun x=>Af true (S.val x)) (PU.un op x').opds) (hp:pu S (Ca S) (.un op x')=some (ψ,v)) (_hψ:ψ):Kw φ m P a w o v:=by
 have h1:RT φ m w (Ca S x') (a.eval x):=opd'_ok hx h hm.1 rfl
 simp only [pu] at hp
 split at hp
 ·rename_i k n e1
  cases hp
  rw [e1] at h1
  exact ⟨_,by simp [execOp,ho,Ce h1,Op.unary,Op.intArith],Bm _ _⟩
 ·rename_i k n e1
  cases hp
  rw [e1] at h1
  exact ⟨_,by simp only [execOp,ho,Ce h1,Op.unary]; rfl,Bm _ _⟩
 ·rename_i b e1
  cases hp
  rw [e1] at h1
  exact ⟨_,by simp [execOp,ho,Dc h1,Op.unary],Dt _⟩
 ·cases hp
theorem eW {s d:TypeId} {k k':IntKind} {x:Operand} {x':Ay} (ho:o.op = .convert s d x) (hx:opd' φ x=some x')
  (hs:P.underlying s=some (.int k')) (hd:P.underlying d=some (.int k))
  (h:Aw φ w0 A nt m S a w) (hm:Be (fun x=>Af true (S.val x)) (PU.conv k x').opds) (hp:pu S (Ca S) (.conv k x')=some (ψ,v)) (_hψ:ψ):Kw φ m P a w o v:=by
 have h1:RT φ m w (Ca S x') (a.eval x):=opd'_ok hx h hm.1 rfl
 simp only [pu] at hp
 split at hp
 ·rename_i q n e1
  cases hp
  rw [e1] at h1
  exact ⟨_,by simp [execOp,ho,Ce h1,convert,run_underlying hs,run_underlying hd,Conv.intToInt],Bm _ _⟩
 ·cases hp
theorem fD {s d:TypeId} {x:Operand} {x':Ay} (ho:o.op = .convert s d x) (hx:opd' φ x=some x')
  (hs:P.underlying s=some .string) (hd:P.underlying d=some .string)
  (h:Aw φ w0 A nt m S a w) (hm:Be (fun x=>Af true (S.val x)) (PU.strc x').opds) (hp:pu S (Ca S) (.strc x')=some (ψ,v)) (_hψ:ψ):Kw φ m P a w o v:=by
 have h1:RT φ m w (Ca S x') (a.eval x):=opd'_ok hx h hm.1 rfl
 simp only [pu] at hp
 split at hp
 ·rename_i s' e
  cases hp
  rw [e] at h1
  exact ⟨_,by simp [execOp,ho,Ez h1,convert,run_underlying hs,run_underlying hd],Ey _⟩
 ·cases hp
theorem eZ {t:TypeId} {x:Operand} {x':Ay} {i:TypeInfo} {ag:Bool} (ho:o.op = .load t x) (hx:opd' φ x=some x') (hi:P.info? t=some i) (hag:Eb P t=some ag)
  (h0:i.size≠0) (h:Aw φ w0 A nt m S a w) (hm:Be (fun x=>Af true (S.val x)) (PU.load x' i.size ag).opds) (hp:pu S (Ca S) (.load x' i.size ag)=some (ψ,v)) (hψ:ψ):Kw φ m P a w o v:=by
 have h1:RT φ m w (Ca S x') (a.eval x):=opd'_ok hx h hm.1 rfl
 have fin:∀ {ad:Addr} {cs:List V},a.eval x = .pointer (some ad)→i.size≤cs.length→(∀(j:Nat) (c:V),cs[j]? = some c→∃v,w.cell? (ad.add j)=some v∧RC φ m w c v∧v.oneCell'=true) →
   Iz ag i.size cs=some v→Kw φ m P a w o v:=by
  intro ad cs e1 e2 e3 e4
  obtain ⟨val,h3,h4⟩:=Qh hag hi h0 e2 e3 e4
  exact ⟨val,by simp [execOp,ho,e1,Instr.loadAt,Instr.sureAddr,h3],h4⟩
 simp only [pu] at hp
 split at hp
 ·rename_i tag k e1
  rw [e1] at h1
  obtain ⟨b,hb,e2⟩:=Nh h1
  split at hp
  ·rename_i cs hcs
   split at hp
   ·rename_i u hu
    cases hp
    obtain ⟨b',hb',hc⟩:=(h.rb hcs).cell
    rw [hb] at hb'; cases hb'
    refine fin e2 (by simp; omega) (fun j c hj=>?_) hu
    rw [List.getElem?_drop] at hj
    obtain ⟨x,g1,g2⟩:=hc _ c hj
    exact ⟨x,by rw [Ch]; exact g1,g2⟩
   ·cases hp
  ·cases hp
 ·rename_i cs e1
  rw [e1] at h1
  obtain ⟨b,o',e2,hc⟩:=(Ox h1).icell
  split at hp
  ·rename_i u hu
   cases hp
   refine fin e2 hψ (fun j c hj=>?_) hu
   obtain ⟨x,g1,g2⟩:=hc _ c hj
   exact ⟨x,by rw [Ch]; exact g1,g2⟩
  ·cases hp
 ·rename_i tag sz j k e1
  rw [e1] at h1
  obtain ⟨b,hb,e2⟩:=Md h1
  split at hp
  ·rename_i off es hf
   split at hp
   ·rename_i u hu
    cases hp
    obtain ⟨q1,q2,q3,q4⟩:=hψ
    obtain ⟨sz',hsz0,val',hro⟩:=h.find hf
    obtain ⟨g1,g2,b',hb',g3⟩:=hro.cell hsz0 (j:=j-off) (by omega)
    rw [hb] at hb'; cases hb'
    obtain rfl:sz=sz':=q4.symm.trans g2
    refine fin e2 (cs:=tE tag j k ((es.getD (j-off) []).drop k)) (by rw [Qg,List.length_drop,q4]; omega) (fun l c hl=>?_) hu
    have hj:off+(j-off)=j:=by omega
    have hlt:l<((es.getD (j-off) []).drop k).length:=by
     have:=(List.getElem?_eq_some_iff.1 hl).1
     rwa [Qg] at this
    have hc0:=List.getElem?_eq_getElem hlt
    generalize ((es.getD (j-off) []).drop k)[l]=c0 at hc0
    rw [List.getElem?_drop] at hc0
    obtain ⟨x,g4,g5,g6⟩:=g3 _ c0 hc0
    refine ⟨x,?_,tF hl fun c1 h1=>?_,g6⟩
    ·rw [Ch,←g4,hj,Nat.add_assoc]
    ·rw [List.getElem?_drop,hc0] at h1
     cases h1
     rw [hj] at g5; exact g5
   ·cases hp
  ·cases hp
 ·cases hp
theorem Xg {t:TypeId} {x:Operand} {x':Ay} {fi:Nat} {fs:Array Field} {f:Field} {i:TypeInfo} (ho:o.op = .fieldAddr t x fi) (hx:opd' φ x=some x')
  (ht:P.underlying t=some (.struct fs)) (hf:fs[fi]? = some f) (hi:P.info? f.type=some i) (h0:i.size≠0)
  (h:Aw φ w0 A nt m S a w) (hm:Be (fun x=>Af true (S.val x)) (PU.fieldA x' f.offset).opds) (hp:pu S (Ca S) (.fieldA x' f.offset)=some (ψ,v)) (hψ:ψ):Kw φ m P a w o v:=by
 have h1:RT φ m w (Ca S x') (a.eval x):=opd'_ok hx h hm.1 rfl
 have run:∀ {ad:Addr},a.eval x = .pointer (some ad)→(execOp a.eval o).run P w = .ok (.value (.pointer (some (ad.add f.offset)))) w:=by
  intro ad e
  simp [execOp,ho,e,Instr.fieldAt,run_underlying ht,hf,Instr.sureAddr,fieldPlace,Dg hi,h0]
 simp only [pu] at hp
 split at hp
 ·rename_i tag k e1
  cases hp
  rw [e1] at h1
  obtain ⟨b,hb,e2⟩:=Nh h1
  exact ⟨_,run e2,⟨b,hb,by rw [Ch]⟩,fun _=>rfl⟩
 ·rename_i cs e1
  cases hp
  rw [e1] at h1
  have h2:=Ox h1
  generalize a.eval x=val at *
  cases h2 with
  | iptr cs b o' vs hb hav hc hr=>
   refine ⟨_,run rfl,?_,fun _=>rfl⟩
   rw [Ch]
   refine RD.iptr _ b (o'+f.offset) (fun k=>vs (f.offset+k)) hb hav (fun k c hk=>?_) (fun k c hk=>?_)
   ·rw [List.getElem?_drop] at hk
    have:=hc _ c hk
    rwa [show o'+f.offset+k=o'+(f.offset+k) by omega]
   ·rw [List.getElem?_drop] at hk
    exact hr _ c hk
 ·rename_i tag sz j k e1
  cases hp
  rw [e1] at h1
  obtain ⟨b,hb,e2⟩:=Md h1
  exact ⟨_,run e2,⟨b,hb,by rw [Ch,Nat.add_assoc]⟩,fun _=>rfl⟩
 ·cases hp
end Go.Ev
