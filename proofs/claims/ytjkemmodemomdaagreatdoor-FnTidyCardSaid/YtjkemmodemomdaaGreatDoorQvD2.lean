/- Regions whose order is drawn: the lagging run. -/
import Derived.Test.YtjkemmodemomdaaGreatDoorQvD
set_option linter.all false
namespace Go.Ev
open Go.RowKit
variable {φ:Bz} {m m' m0 m1 m2:M} {w w' w0:World} {A:Fr} {nt:Nat} {S S' S1:St} {a:Act} {P:Program}
variable {o:Oper} {K:St→Prop} {Q:Exit→Act→World→Prop} {C:Bb}
theorem Ub {ops:Array Oper} {g s:Nat} {want gb:Bool} (h:Aw φ w0 A nt m S a w) (hg:o.guard=some (g,want)) (hs:(ops[g]?).bind (·.dst)=some s) (hgb:Jc (S.val (.t s)) want=some gb):
  Region.wanted o (yielded ops a.tmps)=gb:=by
 have hv:=h.val s
 simp only [Region.wanted,hg,yielded,hs,Option.bind_some]
 generalize S.val (.t s)=v at hgb hv
 cases v with
 | bool b=>
  simp only [Jc,Option.some.injEq] at hgb
  have e:=Dc (φ:=φ) (m:=m) (w:=w) (b:=b) hv
  have:a.tmps[s]? = some (.bool b):=by
   rw [Array.getD_eq_getD_getElem?] at e
   cases ht:a.tmps[s]? with
   | none=>rw [ht] at e; cases e
   | some u=>rw [ht] at e; simpa using e
  rw [this,←hgb]
  cases b<;>cases want<;>rfl
 | may b' x=>
  cases x with
  | bool b=>
   simp only [Jc,Option.some.injEq] at hgb
   cases b' with
   | true=>
    have e:=Dc (φ:=φ) (m:=m) (w:=w) (b:=b) (hv.1 rfl)
    have:a.tmps[s]? = some (.bool b):=by
     rw [Array.getD_eq_getD_getElem?] at e
     cases ht:a.tmps[s]? with
     | none=>rw [ht] at e; cases e
     | some u=>rw [ht] at e; simpa using e
    rw [this,←hgb]
    cases b<;>cases want<;>rfl
   | false=>
    have e:=hv.2 rfl
    rw [Array.getD_eq_getD_getElem?] at e
    rw [←hgb]
    cases ht:a.tmps[s]? with
    | none=>cases want<;>rfl
    | some u=>
     rw [ht] at e
     simp only [Option.getD_some] at e
     subst e
     cases want<;>rfl
  | _=>simp [Jc] at hgb
 | _=>simp [Jc] at hgb
def uM (P:Program) (ops:Array Oper) (o:Oper) (a:Act) (w:World) (val:Value):Prop:=
 (Region.wanted o (yielded ops a.tmps)=true∧(execOp a.eval o).run P w = .ok (.value val) w)∨(Region.wanted o (yielded ops a.tmps)=false∧val=undef)
theorem dK {c x y:Ay} {cb:Bool} (hc:Hv P φ o=some (.pick c x y)) (h:Aw φ w0 A nt m S a w) (hcb:Ab (S.val c) = .bool cb)
  (hmc:Af true (S.val c)) (hma:Af cb (S.val x)) (hmb:Af (!cb) (S.val y)):
  ∃val,(execOp a.eval o).run P w = .ok (.value val) w∧RT φ m w (Ke cb (Ab (S.val x)) (Ab (S.val y))) val:=by
 obtain ⟨c',x',y',hop,h1,h2,h3⟩:=Bw hc
 have hc1:RT φ m w (Ca S c) (a.eval c'):=opd'_ok h1 h hmc rfl
 rw [show Ca S c = .bool cb from hcb] at hc1
 have e1:=Dc hc1
 have hv:RT φ m w (Ke cb (Ab (S.val x)) (Ab (S.val y))) (if cb then a.eval x' else a.eval y'):=by
  apply Qu
  cases cb with
  | true=>exact opd'_ok h2 h hma rfl
  | false=>exact opd'_ok h3 h hmb rfl
 refine ⟨_,?_,hv⟩
 simp only [execOp,hop,e1,asBool,Sem.run_bind,Sem.run_pure,Result.andThen_ok]
theorem Pn {op:Sw} {v:V} (hop:Hv P φ o=some op) (h:Aw φ w0 A nt m S a w) (hv:Cf S op v):
  ∃val,(execOp a.eval o).run P w = .ok (.value val) w∧RT φ m w v val:=by
 cases op with
 | p u=>
  obtain ⟨hm,ψ,hp,hψ⟩:=hv
  exact dP hop h hm hp hψ
 | pick c x y=>
  obtain ⟨hmc,cb,hcb,hma,hmb,rfl⟩:=hv
  exact dK hop h hcb hmc hma hmb
 | _=>exact hv.elim
theorem Po {ops:Array Oper} {v:V} (h:Aw φ w0 A nt m S a w) (hc:Fc (Ot P φ nt ops o)=true) (hv:Mn S (Ot P φ nt ops o) v):
  (∀d,o.dst=some d→d<nt)∧(Ot P φ nt ops o).dst=o.dst∧∃val,uM P ops o a w val∧RV φ m w v val∧∀c,oP S (Ot P φ nt ops o)=some c→Nv val c:=by
 unfold Ot at hc hv ⊢
 by_cases hdst:Mw nt o.dst=true
 ·rw [if_pos hdst] at hc; simp [Fc] at hc
 rw [if_neg hdst] at hc hv ⊢
 have hd:∀d,o.dst=some d→d<nt:=fun d e=>by
  rw [e] at hdst
  simpa [Mw] using hdst
 refine ⟨hd,?_⟩
 cases hg:o.guard with
 | none=>
  simp only [hg] at hc hv ⊢
  refine ⟨trivial,?_⟩
  cases hop:Hv P φ o with
  | none=>rw [hop] at hc; simp [Fc] at hc
  | some op=>
   rw [hop] at hc hv
   simp only [Option.getD_some,Mn] at hc hv
   obtain ⟨val,hr,ht⟩:=Pn hop h hv
   refine ⟨val,.inl ⟨Oq hg,hr⟩,Gw (Bt ht) ht,fun c hc2=>?_⟩
   cases op with
   | p u=>
    obtain ⟨hm,ψ,hp,hψ⟩:=hv
    exact dN hop h hm hp hψ hr c hc2
   | _=>cases hc2
 | some gw=>
  obtain ⟨g,want⟩:=gw
  simp only [hg] at hc hv ⊢
  cases hs:(ops[g]?).bind (·.dst) with
  | none=>simp only [hs] at hc; simp [Fc] at hc
  | some s=>
   simp only [hs] at hc hv ⊢
   refine ⟨trivial,?_⟩
   cases hop:Hv P φ o with
   | none=>rw [hop] at hc; simp [Fc] at hc
   | some op=>
    rw [hop] at hc hv
    simp only [Option.getD_some,Mn] at hc hv
    obtain ⟨gb,hgb,u,rfl,hv⟩:=hv
    have hy:=Ub h hg hs hgb
    cases gb with
    | true=>
     obtain ⟨val,hr,ht⟩:=Pn hop h (hv rfl)
     exact ⟨val,.inl ⟨hy,hr⟩,Ss ht rfl,fun _ hh=>nomatch hh⟩
    | false=>exact ⟨undef,.inr ⟨hy,rfl⟩,Pi rfl,fun _ hh=>nomatch hh⟩
def Act.puts' (a:Act):List (Nat×Value)→Act
 | []=>a
 | p::r=>Act.puts' (a.put (some p.1) p.2) r
theorem Kg {d:Nat} {v:Value}:∀ {G:List (Nat×Value)} {a:Act},(∀p∈G,p.1≠d)→Act.puts' (a.put (some d) v) G=(Act.puts' a G).put (some d) v
 | [],_,_=>rfl
 | p::r,a,h=>by
  simp only [Act.puts']
  rw [←Kg fun q hq=>h q (List.mem_cons_of_mem _ hq)]
  congr 1
  exact Act.put_comm a v p.2 (x:=some d) (y:=some p.1) fun e he=>by
   cases he
   have:=h p (by simp)
   intro hh
   exact this (Option.some.inj hh)
theorem puts_put' {dst:Option Nat} {v:Value} {G:List (Nat×Value)} (h:∀p∈G,dst≠some p.1):Act.puts' (a.put dst v) G=(Act.puts' a G).put dst v:=by
 cases dst with
 | none=>
  have e:∀b:Act,b.put none v=b:=fun _=>rfl
  rw [e,e]
 | some d=>exact Kg fun p hp e=>h p hp (by rw [e])
theorem Hp (hs:∀cs b,o.op ≠ .select cs b) {ops:Array Oper}:∀ {G:List (Nat×Value)} {a:Act},(∀p∈G,p.1∉o.looksAt ops) →
  execOp (Act.puts' a G).eval o=execOp a.eval o∧Region.wanted o (yielded ops (Act.puts' a G).tmps)=Region.wanted o (yielded ops a.tmps)
 | [],_,_=>⟨rfl,rfl⟩
 | p::r,a,h=>by
  have ih:=Hp hs (ops:=ops) (G:=r) (a:=a.put (some p.1) p.2) fun q hq=>h q (List.mem_cons_of_mem _ hq)
  have h1:∀d,(some p.1:Option Nat)=some d→d∉o.looksAt ops:=fun d e=>by cases e; exact h p (by simp)
  exact ⟨ih.1.trans (execOp_put (ops:=ops) o hs a (some p.1) p.2 h1),ih.2.trans (wanted_put (ops:=ops) o a (some p.1) p.2 h1)⟩
theorem pQ (hs:∀cs b,o.op ≠ .select cs b) {ops:Array Oper} {G:List (Nat×Value)} (h1:∀p∈G,p.1∉o.looksAt ops) (h2:∀p∈G,o.dst≠some p.1)
  {N:Act→World→Prop} {Q:Exit→Act→World→Prop} (h:o.wp P (Act.puts' a G) w N (fun _ _ _=>False)) (hdef:∀(d:Deferred) (b:Act) (w:World),N { b with defers:=d::b.defers } w→False):
  o.wp P a w (fun a' w'=>N (Act.puts' a' G) w') Q:=by
 unfold Oper.wp at *
 rw [(Hp hs h1).1] at h
 generalize (execOp a.eval o).run P w=r at *
 cases r with
 | ok n w'=>
  cases n<;>simp only [Oper.upon] at h ⊢
  case value u=>rw [puts_put' h2]; exact h
  case skip=>rw [puts_put' h2]; exact h
  case defer d=>exact (hdef d ((Act.puts' a G).put o.dst undef) w' (by
   have:({ Act.puts' a G with defers:=d::(Act.puts' a G).defers }:Act).put o.dst undef={ ((Act.puts' a G).put o.dst undef) with defers:=d::((Act.puts' a G).put o.dst undef).defers }:=by
    cases o.dst<;>rfl
   rw [this] at h
   exact h)).elim
  case enter f args=>
   refine Calls.mono h fun e w'' he=>?_
   cases e with
   | returned u=>dsimp only at he ⊢; rw [puts_put' h2]; exact he
   | panicked c=>exact he.elim
   | outgrown=>exact absurd he (by simp [LetsOut])
  case row row args=>exact Rows.mono h fun u w'' he=>by rw [puts_put' h2]; exact he
 | halt x w'=>cases x<;>simp only [Oper.upon] at h ⊢
end Go.Ev
