/- More pure operations. -/
import Derived.Test.YtjkemmodemomdaaGreatDoorQvQ
set_option linter.all false
namespace Go.Ev
open Go.RowKit
variable {φ:Bz} {m m':M} {w w' w0:World} {A:Fr} {nt:Nat} {S S':St} {a:Act} {P:Program}
variable {o:Oper} {ψ:Prop} {v:V}
theorem RD.lst_cons {sz:Nat} {es:List (List V)} {val:Value} {av:Nat→Prop} (h:RD φ w av (.lst sz es) val) (hz:sz≠0) (hn:0<es.length):
  ∃(b o cap:Nat) (vs:Nat→Nat→Value),val = .slice (some ⟨b,o,none⟩) es.length cap∧b<w.heap.size∧¬av b∧es.length≤cap∧(∀(j:Nat) (e:List V),es[j]? = some e→e.length=sz) ∧
  (∀(j:Nat) (e:List V) (k:Nat) (c:V),es[j]? = some e→e[k]? = some c→w.cell? ⟨b,o+j*sz+k,none⟩=some (vs j k)) ∧
  (∀(j:Nat) (e:List V) (k:Nat) (c:V),es[j]? = some e→e[k]? = some c→RD φ w av c (vs j k)):=by
 cases h with
 | nil=>simp at hn
 | emp=>simp at hn
 | lst sz es b o cap vs hb hav hcap hsz hc hr=>exact ⟨b,o,cap,vs,rfl,hb,hav,hcap,hsz,hc,hr⟩
 | mp=>exact absurd rfl hz
theorem RD.slice {sz:Nat} {es:List (List V)} {val:Value} {av:Nat→Prop} (h:RD φ w av (.lst sz es) val) (hz:sz≠0):∃ad cap,val = .slice ad es.length cap∧es.length≤cap∧(ad=none→es.length=0∧cap=0):=by
 cases h with
 | nil=>exact ⟨none,0,rfl,Nat.le_refl _,fun _=>⟨rfl,rfl⟩⟩
 | emp sz a c=>exact ⟨some a,c,rfl,Nat.zero_le _,fun h=>by cases h⟩
 | lst sz es b o cap vs hb hav hcap hsz hc hr=>exact ⟨_,cap,rfl,hcap,fun h=>by cases h⟩
 | mp=>exact absurd rfl hz
theorem RO.slice {t off sz:Nat} {es:List (List V)} {val:Value} (h:RO φ m w t off sz es val) (hz:sz≠0):∃ad cap,val = .slice ad es.length cap∧es.length≤cap∧(ad=none→es.length=0∧cap=0):=by
 rcases h with ⟨_,rfl,rfl⟩ | ⟨_,rfl,a,c,rfl⟩ | ⟨b,cap,cur,e,h1,rfl,hh⟩ | ⟨_,_,_,_,_,h2,_⟩
 ·exact ⟨none,0,rfl,Nat.le_refl _,fun _=>⟨rfl,rfl⟩⟩
 ·exact ⟨some a,c,rfl,Nat.zero_le _,fun h=>by cases h⟩
 ·exact ⟨_,cap,rfl,hh.2.1,fun h=>by cases h⟩
 ·exact absurd h2 hz
theorem eX {t e:TypeId} {x ix:Operand} {x' ix':Ay} {i:TypeInfo} (ho:o.op = .indexAddr t x ix) (hx:opd' φ x=some x') (hix:opd' φ ix=some ix')
  (ht:P.underlying t=some (.slice e)) (hi:P.info? e=some i) (hz:i.size≠0)
  (h:Aw φ w0 A nt m S a w) (hm:Be (fun x=>Af true (S.val x)) (PU.idxA x' ix' i.size).opds) (hp:pu S (Ca S) (.idxA x' ix' i.size)=some (ψ,v)) (hψ:ψ):Kw φ m P a w o v:=by
 have h1:RT φ m w (Ca S x') (a.eval x):=opd'_ok hx h hm.1 rfl
 have h2:RT φ m w (Ca S ix') (a.eval ix):=opd'_ok hix h hm.2.1 rfl
 have run:∀ {ad:Addr} {l c:Nat} {k:IntKind} {n:Int},a.eval x = .slice (some ad) l c→a.eval ix = .int k n→0≤n→n<l →
   (execOp a.eval o).run P w = .ok (.value (.pointer (some (ad.add (n.toNat*i.size))))) w:=by
  intro ad l c k n e1 e2 g1 g2
  simp [execOp,ho,e1,e2,Instr.indexAt,asIntOf,run_underlying ht,g1,g2,Dg hi]
 simp only [pu] at hp
 split at hp
 ·rename_i s es k n e1 e2
  cases hp
  obtain ⟨rfl,g1,g2⟩:=hψ
  rw [e1] at h1; rw [e2] at h2
  obtain ⟨b,of,cap,vs,e3,hb,hav,hcap,hsz,hc,hr⟩:=(If h1).lst_cons hz (by omega)
  have hlt:n.toNat<es.length:=by omega
  have hge:es[n.toNat]? = some (es.getD n.toNat []):=by simp [List.getElem?_eq_getElem hlt]
  refine ⟨_,run e3 (Ce h2) g1 g2,?_,fun _=>rfl⟩
  rw [Ch]
  exact RD.iptr _ b (of+n.toNat*i.size) (vs n.toNat) hb hav (fun k c hk=>hc _ _ k c hge hk) (fun k c hk=>hr _ _ k c hge hk)
 ·rename_i tag off s es k n e1 e2
  cases hp
  obtain ⟨rfl,g1,g2⟩:=hψ
  rw [e1] at h1; rw [e2] at h2
  rcases Dd h1 with ⟨_,rfl,_⟩ | ⟨_,rfl,_⟩ | ⟨b,cap,cur,e',q1,q2,_⟩ | ⟨_,_,_,_,_,q2,_⟩
  ·simp at g2; omega
  ·simp at g2; omega
  ·refine ⟨_,run q2 (Ce h2) g1 g2,⟨b,q1,?_⟩,fun _=>rfl⟩
   rw [Ch]
   simp [Nat.add_mul]
  ·exact absurd q2 hz
 ·cases hp
theorem Xh {t e:TypeId} {len:Nat} {x ix:Operand} {x' ix':Ay} {i:TypeInfo} (ho:o.op = .indexAddr t x ix) (hx:opd' φ x=some x') (hix:opd' φ ix=some ix')
  (ht:P.underlying t=some (.array len e)) (hi:P.info? e=some i)
  (h:Aw φ w0 A nt m S a w) (hm:Be (fun x=>Af true (S.val x)) (PU.idxArr x' ix' len i.size).opds) (hp:pu S (Ca S) (.idxArr x' ix' len i.size)=some (ψ,v)) (hψ:ψ):Kw φ m P a w o v:=by
 have h1:RT φ m w (Ca S x') (a.eval x):=opd'_ok hx h hm.1 rfl
 have h2:RT φ m w (Ca S ix') (a.eval ix):=opd'_ok hix h hm.2.1 rfl
 have run:∀ {ad:Addr} {k:IntKind} {n:Int},a.eval x = .pointer (some ad)→a.eval ix = .int k n→0≤n→n<len →
   (execOp a.eval o).run P w = .ok (.value (.pointer (some (ad.add (n.toNat*i.size))))) w:=by
  intro ad k n e1 e2 g1 g2
  simp [execOp,ho,e1,e2,Instr.indexAt,Instr.sureAddr,asIntOf,run_underlying ht,g1,g2,Dg hi]
 simp only [pu] at hp
 split at hp
 ·rename_i tag k q n e1 e2
  cases hp
  rw [e1] at h1; rw [e2] at h2
  obtain ⟨b,hb,e3⟩:=Nh h1
  exact ⟨_,run e3 (Ce h2) hψ.1 hψ.2,⟨b,hb,by rw [Ch]⟩,fun _=>rfl⟩
 ·rename_i cs q n e1 e2
  cases hp
  rw [e1] at h1; rw [e2] at h2
  have h3:=Ox h1
  have h4:=Ce h2
  generalize a.eval x=val at *
  cases h3 with
  | iptr cs b o' vs hb hav hc hr=>
   refine ⟨_,run rfl h4 hψ.1 hψ.2.1,?_,fun _=>rfl⟩
   rw [Ch]
   refine RD.iptr _ b _ (fun k=>vs (n.toNat*i.size+k)) hb hav (fun k c hk=>?_) (fun k c hk=>?_)
   ·rw [List.getElem?_drop] at hk
    have:=hc _ c hk
    rwa [show o'+n.toNat*i.size+k=o'+(n.toNat*i.size+k) by omega]
   ·rw [List.getElem?_drop] at hk
    exact hr _ c hk
 ·cases hp
theorem aO {t:TypeId} {x:Operand} {x':Ay} {fi:Nat} {fs:Array Field} {f:Field} {i:TypeInfo} {ag:Bool} (ho:o.op = .field t x fi) (hx:opd' φ x=some x')
  (ht:P.underlying t=some (.struct fs)) (hf:fs[fi]? = some f) (hi:P.info? f.type=some i) (hag:Eb P f.type=some ag) (h0:i.size≠0)
  (h:Aw φ w0 A nt m S a w) (hm:Be (fun x=>Af true (S.val x)) (PU.field x' f.offset i.size ag).opds) (hp:pu S (Ca S) (.field x' f.offset i.size ag)=some (ψ,v)) (hψ:ψ):Kw φ m P a w o v:=by
 have h1:RT φ m w (Ca S x') (a.eval x):=opd'_ok hx h hm.1 rfl
 simp only [pu] at hp
 split at hp
 ·rename_i cs e1
  rw [e1] at h1
  obtain ⟨arr,e2,e3,e4⟩:=Sr h1
  split at hp
  ·rename_i u hu
   cases hp
   have hfl:f.offset+i.size≤arr.length:=by rw [e3]; exact hψ
   cases ag with
   | true=>
    simp only [Iz,if_true,Option.some.injEq] at hu
    subst hu
    refine ⟨.agg ((arr.drop f.offset).take i.size).toArray,?_,(arr.drop f.offset).take i.size,rfl,by simp [e3],fun j c y g1 g2=>?_⟩
    ·simp only [execOp,ho,e2,Instr.field,asAgg,part,Sem.run_bind,run_underlying ht,Result.andThen_ok,hf,Sem.run_pure,Hy hag,if_true,Dg hi]
     congr 3
     apply Array.ext'
     simp
    ·have hj:j<i.size:=by
      have:=(List.getElem?_eq_some_iff.1 g2).1
      simp at this; omega
     rw [List.getElem?_take,if_pos hj,List.getElem?_drop] at g1 g2
     exact e4 _ c y g1 g2
   | false=>
    simp only [Iz,Bool.false_eq_true,if_false] at hu
    have g1:cs[f.offset]? = some v:=by
     rw [List.head?_eq_getElem?,List.getElem?_drop] at hu
     simpa using hu
    have hlt:f.offset<arr.length:=by omega
    have g2:arr[f.offset]? = some arr[f.offset]:=List.getElem?_eq_getElem hlt
    have g3:=e4 _ _ _ g1 g2
    refine ⟨arr[f.offset],?_,Fx (Ji g3.1 g3.2)⟩
    simp [execOp,ho,e2,Instr.field,asAgg,part,run_underlying ht,hf,Hy hag,hlt]
  ·cases hp
 ·cases hp
theorem Xi {t:TypeId} {x ix:Operand} {x' ix':Ay} (ho:o.op = .index t x ix) (hx:opd' φ x=some x') (hix:opd' φ ix=some ix')
  (ht:P.underlying t=some .string)
  (h:Aw φ w0 A nt m S a w) (hm:Be (fun x=>Af true (S.val x)) (PU.idxStr x' ix').opds) (hp:pu S (Ca S) (.idxStr x' ix')=some (ψ,v)) (hψ:ψ):Kw φ m P a w o v:=by
 have h1:RT φ m w (Ca S x') (a.eval x):=opd'_ok hx h hm.1 rfl
 have h2:RT φ m w (Ca S ix') (a.eval ix):=opd'_ok hix h hm.2.1 rfl
 simp only [pu] at hp
 split at hp
 ·rename_i s k n e1 e2
  cases hp
  rw [e1] at h1; rw [e2] at h2
  have hlt:n.toNat<s.length:=by omega
  have hsz:n.toNat<(⟨s.toArray⟩:ByteArray).size:=by simpa [ByteArray.size] using hlt
  have hget:(⟨s.toArray⟩:ByteArray)[n.toNat]? = some (s.getD n.toNat 0):=by
   rw [getElem?_pos (⟨s.toArray⟩:ByteArray) n.toNat hsz]
   simp [ByteArray.getElem_eq_getElem_data,List.getD,List.getElem?_eq_getElem hlt]
  refine ⟨_,?_,Bm _ _⟩
  simp only [execOp,ho,Ez h1,Ce h2,Instr.index,asIntOf,Sem.run_bind,Sem.run_pure,Result.andThen_ok,run_underlying ht,hψ.1,if_true,hget]
 ·cases hp
theorem Yk {c:Call} {t:TypeId} {x:Operand} (ho:o.op = .call c) (hc:c.callee = .builtin .len) (h3:c.argTypes.toList=[t]) (h4:c.args.toList=[x]):
  (execOp a.eval o).run P w=((Builtin.len_ #[t] o.type #[a.eval x]).run P w).andThen fun v w'=>.ok (.value v) w':=by
 have g3:c.argTypes = #[t]:=by rw [←Array.toArray_toList (xs:=c.argTypes),h3]
 have g4:c.args = #[x]:=by rw [←Array.toArray_toList (xs:=c.args),h4]
 simp only [execOp,ho,resolve,hc,g3,g4,Sem.run_bind,Sem.run_pure,Result.andThen_ok,invoke,builtin]
 simp
theorem eY {c:Call} {t:TypeId} {x:Operand} {x':Ay} (ho:o.op = .call c) (hc:c.callee = .builtin .len) (h3:c.argTypes.toList=[t]) (h4:c.args.toList=[x]) (hx:opd' φ x=some x')
  (ht:P.underlying t=some .string)
  (h:Aw φ w0 A nt m S a w) (hm:Be (fun x=>Af true (S.val x)) (PU.lenS x').opds) (hp:pu S (Ca S) (.lenS x')=some (ψ,v)) (_hψ:ψ):Kw φ m P a w o v:=by
 have h1:RT φ m w (Ca S x') (a.eval x):=opd'_ok hx h hm.1 rfl
 simp only [pu] at hp
 split at hp
 ·rename_i s e1
  cases hp
  rw [e1] at h1
  have e:(⟨s.toArray⟩:ByteArray).size=s.length:=by simp [ByteArray.size]
  refine ⟨_,?_,Bm _ _⟩
  rw [Yk ho hc h3 h4,Ez h1]
  have e2:(Builtin.len_ #[t] o.type #[Value.string ⟨s.toArray⟩]).run P w = .ok (.int .i64 s.length) w:=by
   unfold Builtin.len_
   simp only [List.getElem?_toArray,List.getElem?_cons_zero,Sem.run_bind,run_underlying ht,Result.andThen_ok]
   simp only [goInt,e,Sem.run_pure]
  rw [e2]; rfl
 ·cases hp
theorem pU {c:Call} {t e:TypeId} {x:Operand} {x':Ay} (ho:o.op = .call c) (hc:c.callee = .builtin .len) (h3:c.argTypes.toList=[t]) (h4:c.args.toList=[x]) (hx:opd' φ x=some x')
  (ht:P.underlying t=some (.slice e))
  (h:Aw φ w0 A nt m S a w) (hm:Be (fun x=>Af true (S.val x)) (PU.len x').opds) (hp:pu S (Ca S) (.len x')=some (ψ,v)) (hψ:ψ):Kw φ m P a w o v:=by
 have h1:RT φ m w (Ca S x') (a.eval x):=opd'_ok hx h hm.1 rfl
 have sl:∀ {ad:Option Addr} {l cap:Nat},a.eval x = .slice ad l cap→(execOp a.eval o).run P w = .ok (.value (.int .i64 l)) w:=by
  intro ad l cap g2
  rw [Yk ho hc h3 h4,g2]
  have e2:(Builtin.len_ #[t] o.type #[Value.slice ad l cap]).run P w = .ok (.int .i64 l) w:=by
   unfold Builtin.len_
   simp only [List.getElem?_toArray,List.getElem?_cons_zero,Sem.run_bind,run_underlying ht,Result.andThen_ok]
   simp only [goInt,Sem.run_pure]
  rw [e2]; rfl
 simp only [pu] at hp
 split at hp
 ·rename_i sz es e1
  cases hp
  rw [e1] at h1
  obtain ⟨ad,cap,g6,_⟩:=(If h1).slice hψ
  exact ⟨_,sl g6,Bm _ _⟩
 ·rename_i tag off sz es e1
  cases hp
  rw [e1] at h1
  obtain ⟨ad,cap,g6,_⟩:=(Dd h1).slice hψ
  exact ⟨_,sl g6,Bm _ _⟩
 ·cases hp
end Go.Ev
