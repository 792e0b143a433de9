/- '==' of flat structs. -/
import Derived.Test.YtjkemmodemomdaaGreatDoorQvR3
import Derived.Laws.StructEq
set_option linter.all false
namespace Go.Ev
open Go.RowKit
variable {φ:Bz} {m m':M} {w w' w0:World} {A:Fr} {nt:Nat} {S S':St} {a:Act} {P:Program}
variable {o:Oper} {ψ:Prop} {v:V}
theorem bA (a b:List UInt8):((⟨a.toArray⟩:ByteArray).toList==(⟨b.toArray⟩:ByteArray).toList)=(a==b):=by
 rw [ByteArray.toList_eq,ByteArray.toList_eq]
theorem Sn {t:TypeId} {xs:Array Value} {k:Nat} {x:Value} (hag:Eb P t=some false) (hx:xs[k]? = some x):(part t xs k).run P w = .ok x w:=by
 simp [part,Hy hag,hx]
theorem Oa {d:Nat}:∀(fs:List Field) (k:Nat) (ks:List Nat) (cs ds:List V) (xs ys:List Value) (pre pre':List Value) (b:Bool),Kr P fs k=some ks→Cx ks cs ds=some b →
  pre.length=k→pre'.length=k→xs.length=cs.length→ys.length=ds.length →
  (∀(i:Nat) (c:V) (x:Value),cs[i]? = some c→xs[i]? = some x→RC φ m w c x)→(∀(i:Nat) (c:V) (x:Value),ds[i]? = some c→ys[i]? = some x→RC φ m w c x) →
  (Op.eqFields (d+1) (pre++xs).toArray (pre'++ys).toArray fs).run P w = .ok b w
 | [],k,ks,cs,ds,xs,ys,pre,pre',b,hk,he,_,_,_,_,_,_=>by
  simp only [Kr,Option.some.injEq] at hk
  subst hk
  cases cs<;>cases ds<;>simp [Cx] at he
  subst he
  simp [Op.eqFields]
 | f::r,k,ks,cs,ds,xs,ys,pre,pre',b,hk,he,p1,p2,l1,l2,h1,h2=>by
  simp only [Kr] at hk
  split at hk
  ·cases hk
  rename_i hcnd
  have hname : ¬ f.name = "_" := fun e => hcnd (.inl (by simp [e]))
  have hoff:f.offset=k:=Classical.byContradiction fun e=>hcnd (.inr e)
  have step:∀ {c c':V} {cs' ds':List V} {u u':Value} {q:Bool} {ks':List Nat} {b':Bool},cs=c::cs'→ds=c'::ds'→Kr P r (k+1)=some ks'→Cx ks' cs' ds'=some b' →
    (∀x,RC φ m w c x→x=u)→(∀x,RC φ m w c' x→x=u')→Eb P f.type=some false→(Op.equalIn (d+1) f.type u u').run P w = .ok q w→b=(q&&b') →
    (Op.eqFields (d+1) (pre++xs).toArray (pre'++ys).toArray (f::r)).run P w = .ok b w:=by
   intro c c' cs' ds' u u' q ks' b' e1 e2 e3 e4 e5 e6 hag e7 e8
   subst e1; subst e2
   cases xs with
   | nil=>simp at l1
   | cons x xs'=>
    cases ys with
    | nil=>simp at l2
    | cons y ys'=>
     have hx:=e5 x (h1 0 _ _ rfl rfl)
     have hy:=e6 y (h2 0 _ _ rfl rfl)
     subst hx; subst hy
     have ih:=Oa (d:=d) r (k+1) ks' cs' ds' xs' ys' (pre++[x]) (pre'++[y]) b' e3 e4 (by simp [p1]) (by simp [p2]) (by simpa using l1) (by simpa using l2)
      (fun i c z g1 g2=>h1 (i+1) c z (by simpa using g1) (by simpa using g2)) (fun i c z g1 g2=>h2 (i+1) c z (by simpa using g1) (by simpa using g2))
     simp only [List.append_assoc,List.singleton_append] at ih
     have g1:(pre++x::xs').toArray[f.offset]? = some x:=by
      rw [hoff,List.getElem?_toArray,List.getElem?_append_right (by omega)]
      simp [p1]
     have g2:(pre'++y::ys').toArray[f.offset]? = some y:=by
      rw [hoff,List.getElem?_toArray,List.getElem?_append_right (by omega)]
      simp [p2]
     rw [Op.eqFields,if_pos hname]
     simp only [Sem.run_bind,Sn hag g1,Sn hag g2,Result.andThen_ok,e7]
     subst e8
     cases q
     ·simp
     ·simpa using ih
  split at hk
  ·rename_i k' ks' ht hks
   cases hk
   have hag:Eb P f.type=some false:=by simp [Eb,ht]
   cases cs with
   | nil=>cases ds<;>simp [Cx] at he
   | cons c cs'=>
    cases ds with
    | nil=>cases c<;>simp [Cx] at he
    | cons c' ds'=>
     cases c<;>cases c'<;>simp only [Cx,reduceCtorEq] at he
     rename_i k1 n1 k2 n2
     split at he
     case isFalse=>cases he
     rename_i hkk
     subst hkk
     obtain ⟨b2,he2,he3⟩:=Option.map_eq_some_iff.1 he
     exact step (u:=.int k1 n1) (u':=.int k1 n2) rfl rfl hks he2 (fun x hx=>by cases hx; rfl) (fun x hx=>by cases hx; rfl) hag (run_equalIn_int w d f.type k1 k' n1 n2 ht) he3.symm
  ·rename_i ks' ht hks
   cases hk
   have hag:Eb P f.type=some false:=by simp [Eb,ht]
   cases cs with
   | nil=>cases ds<;>simp [Cx] at he
   | cons c cs'=>
    cases ds with
    | nil=>cases c<;>simp [Cx] at he
    | cons c' ds'=>
     cases c<;>cases c'<;>simp only [Cx,reduceCtorEq] at he
     rename_i n1 n2
     obtain ⟨b2,he2,he3⟩:=Option.map_eq_some_iff.1 he
     exact step (u:=.bool n1) (u':=.bool n2) rfl rfl hks he2 (fun x hx=>by cases hx; rfl) (fun x hx=>by cases hx; rfl) hag (run_equalIn_bool' w d f.type n1 n2 ht) he3.symm
  ·rename_i ks' ht hks
   cases hk
   have hag:Eb P f.type=some false:=by simp [Eb,ht]
   cases cs with
   | nil=>cases ds<;>simp [Cx] at he
   | cons c cs'=>
    cases ds with
    | nil=>cases c<;>simp [Cx] at he
    | cons c' ds'=>
     cases c<;>cases c'<;>simp only [Cx,reduceCtorEq] at he
     rename_i n1 n2
     obtain ⟨b2,he2,he3⟩:=Option.map_eq_some_iff.1 he
     refine step (u:=.string ⟨n1.toArray⟩) (u':=.string ⟨n2.toArray⟩) rfl rfl hks he2 (fun x hx=>by cases hx; rfl) (fun x hx=>by cases hx; rfl) hag (run_equalIn_string w d f.type _ _ ht) ?_
     rw [bA]
     exact he3.symm
  ·cases hk
theorem Yx {op:BinOp} {ne:Bool} {ks:List Nat} {t yt:TypeId} {x y:Operand} {x' y':Ay} (ho:o.op = .binOp op t x y yt) (hop:op=if ne then .neq else .eql) (hks:Pb P t=some ks)
  (hx:opd' φ x=some x') (hy:opd' φ y=some y') (h:Aw φ w0 A nt m S a w) (hm:Be (fun x=>Af true (S.val x)) (PU.eqs ne ks x' y').opds)
  (hp:pu S (Ca S) (.eqs ne ks x' y')=some (ψ,v)):Kw φ m P a w o v:=by
 have h1:RT φ m w (Ca S x') (a.eval x):=opd'_ok hx h hm.1 rfl
 have h2:RT φ m w (Ca S y') (a.eval y):=opd'_ok hy h hm.2.1 rfl
 simp only [pu] at hp
 split at hp
 ·rename_i cs ds e1 e2
  rw [e1] at h1; rw [e2] at h2
  obtain ⟨xs,f1,f2,f3⟩:=Sr h1
  obtain ⟨ys,g1,g2,g3⟩:=Sr h2
  split at hp
  ·rename_i b hb
   cases hp
   unfold Pb at hks
   split at hks
   ·rename_i fs hfs
    split at hks
    ·cases hks
    ·rename_i hcnd
     have hst:P.stoodInHeld t=false:=by
      cases hq:P.stoodInHeld t
      ·rfl
      ·exact absurd (.inl hq) hcnd
     have hgd:P.eqGuardType P.depth t=false:=by
      cases hq:P.eqGuardType P.depth t
      ·rfl
      ·exact absurd (.inr hq) hcnd
     have hfo:P.fieldsOf t=fs:=by simp [Program.fieldsOf,hfs]
     have hf:=Oa (P:=P) (φ:=φ) (m:=m) (w:=w) (d:=9998) fs.toList 0 ks cs ds xs ys [] [] b hks hb rfl rfl f2 g2 (fun i c x k1 k2=>(f3 i c x k1 k2).1) (fun i c x k1 k2=>(g3 i c x k1 k2).1)
     simp only [List.nil_append] at hf
     have heq:=run_equalIn_struct (P:=P) w 9999 t xs.toArray ys.toArray (by rw [hfo]; exact hfs) hst
     rw [hfo,hf] at heq
     have hgu:=run_eqGuard_agg (P:=P) w op t x y xs.toArray ys.toArray hgd
     refine ⟨.bool (if ne then !b else b),?_,Dt _⟩
     cases ne
     ·simp only [Bool.false_eq_true,if_false] at hop
      subst hop
      have:=run_eql_struct (P:=P) w t xs.toArray ys.toArray
      rw [heq] at this
      simp only [execOp,ho,f1,g1,Sem.run_bind,hgu,Result.andThen_ok,this,Sem.run_pure]
      rfl
     ·simp only [if_true] at hop
      subst hop
      have:=run_neq_struct (P:=P) w t xs.toArray ys.toArray
      rw [heq] at this
      simp only [execOp,ho,f1,g1,Sem.run_bind,hgu,Result.andThen_ok,this,Sem.run_pure]
      rfl
   ·cases hks
  ·cases hp
 ·cases hp
end Go.Ev
