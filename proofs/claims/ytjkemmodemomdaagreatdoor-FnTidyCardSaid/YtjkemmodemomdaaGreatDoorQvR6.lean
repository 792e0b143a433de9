/- Maps from numbers to bools: looking up. -/
import Derived.Test.YtjkemmodemomdaaGreatDoorQvR3
import Derived.MapKept
set_option linter.all false
namespace Go.Ev
open Go.RowKit Go.MapKept
variable {φ:Bz} {m m':M} {w w' w0:World} {A:Fr} {nt:Nat} {S S':St} {a:Act} {P:Program}
variable {o:Oper} {ψ:Prop} {v:V}
theorem pR {s d:TypeId} {k:IntKind} {x:Operand} {x':Ay} (ho:o.op = .convert s d x) (hx:opd' φ x=some x') (hs:P.underlying s=some (.int k)) (hd:P.underlying d=some .string)
  (h:Aw φ w0 A nt m S a w) (hm:Be (fun x=>Af true (S.val x)) (PU.chr x').opds) (hp:pu S (Ca S) (.chr x')=some (ψ,v)) (hψ:ψ):Kw φ m P a w o v:=by
 have h1:RT φ m w (Ca S x') (a.eval x):=opd'_ok hx h hm.1 rfl
 simp only [pu] at hp
 split at hp
 ·rename_i q n e1
  cases hp
  rw [e1] at h1
  have e:Utf8.encode n=⟨([UInt8.ofNat n.toNat]:List UInt8).toArray⟩:=by
   have hv:Utf8.valid n=true:=by simp [Utf8.valid]; omega
   have h2:n.toNat<128:=by omega
   unfold Utf8.encode
   simp only [hv,if_true,h2]
  refine ⟨_,?_,Ey _⟩
  rw [←e]
  simp [execOp,ho,convert,run_underlying hs,run_underlying hd,Ce h1,Conv.intToString,Result.andThen]
 ·cases hp
theorem Qp (n k:Int) (b:Bool) (r:List (List V)):Lg n ([V.int .i64 k,V.bool b]::r)=if k=n then b else Lg n r:=rfl
theorem Kt (n k:Int) (b c:Bool) (r:List (List V)):Ov n b ([V.int .i64 k,V.bool c]::r)=if k=n then [V.int .i64 k,V.bool b]::r else [V.int .i64 k,V.bool c]::Ov n b r:=rfl
def eA (n:Int) (b:Bool) (x:MapEntry):MapEntry:={ x with key:=.int .i64 n,val:=.bool b }
theorem Mj (n:Int):∀(l:List MapEntry) (es:List (List V)) (i:Nat),(l.map fun e=>(e.key,e.val))=es.map Wu→(∀e∈es,∃n b,e=[V.int .i64 n,V.bool b]) →
  (Instr.findNow (.int .i64) (.int .i64 n) l i=some none∧Lg n es=false∧∀b,Ov n b es=es++[[V.int .i64 n,V.bool b]]) ∨
  ∃j e,Instr.findNow (.int .i64) (.int .i64 n) l i=some (some (i+j,e.val))∧l[j]? = some e∧e.key = .int .i64 n∧e.val = .bool (Lg n es) ∧
   ∀b,((l.modify j (eA n b)).map fun e=>(e.key,e.val))=(Ov n b es).map Wu
 | [],[],i,_,_=>.inl ⟨rfl,rfl,fun _=>rfl⟩
 | [],_::_,_,h,_=>by simp at h
 | _::_,[],_,h,_=>by simp at h
 | x::l,e::es,i,h,hs=>by
  obtain ⟨k,c,rfl⟩:=hs e (List.mem_cons_self)
  simp only [List.map_cons,List.cons.injEq,Wu,Prod.mk.injEq] at h
  obtain ⟨⟨h1,h2⟩,h3⟩:=h
  have hd:(n==k)=decide (n=k):=rfl
  by_cases hk:k=n
  ·subst hk
   refine .inr ⟨0,x,?_,rfl,h1,?_,fun b=>?_⟩
   ·simp [Instr.findNow,h1,Instr.sameNow]
   ·rw [h2,Qp,if_pos rfl]
   ·rw [Kt,if_pos rfl]
    simp [eA,Wu,h3]
  ·have hf:Instr.findNow (.int .i64) (.int .i64 n) (x::l) i=Instr.findNow (.int .i64) (.int .i64 n) l (i+1):=by
    have:(n==k)=false:=by simpa using fun e=>hk e.symm
    simp [Instr.findNow,h1,Instr.sameNow,this]
   rw [hf,Qp,if_neg hk]
   rcases Mj n l es (i+1) h3 (fun e he=>hs e (List.mem_cons_of_mem _ he)) with ⟨g1,g2,g3⟩ | ⟨j,y,g1,g2,g3,g4,g5⟩
   ·exact .inl ⟨g1,g2,fun b=>by rw [Kt,if_neg hk,g3 b]; rfl⟩
   ·refine .inr ⟨j+1,y,by rw [g1]; congr 3; omega,by simpa using g2,g3,g4,fun b=>?_⟩
    rw [Kt,if_neg hk,List.map_cons,←g5 b]
    simp [Wu,h1,h2]
theorem Lz (n:Int) (b:Bool):∀(es:List (List V)),(∀e∈es,∃n b,e=[V.int .i64 n,V.bool b])→∀e∈Ov n b es,∃n b,e=[V.int .i64 n,V.bool b]
 | [],_,e,he=>by
  simp only [Ov,List.mem_singleton] at he
  exact ⟨n,b,he⟩
 | x::es,hs,e,he=>by
  obtain ⟨k,c,rfl⟩:=hs x (List.mem_cons_self)
  rw [Kt] at he
  split at he
  ·rcases List.mem_cons.1 he with rfl | he
   ·exact ⟨_,_,rfl⟩
   ·exact hs e (List.mem_cons_of_mem _ he)
  ·rcases List.mem_cons.1 he with rfl | he
   ·exact ⟨_,_,rfl⟩
   ·exact Lz n b es (fun e he=>hs e (List.mem_cons_of_mem _ he)) e he
theorem Si {t:TypeId} (h:Ms P t=true):∃k e i,P.underlying t=some (.map k e)∧P.underlying k=some (.int .i64)∧P.underlying e=some .bool∧P.info? e=some i∧i.zero=some (.bool false):=by
 unfold Ms at h
 split at h
 ·rename_i k e ht
  split at h
  ·rename_i h1 h2 h3
   obtain ⟨i,h4,h5⟩:=Option.bind_eq_some_iff.1 h3
   exact ⟨k,e,i,ht,h1,h2,h4,h5⟩
  ·cases h
 ·cases h
theorem dY {t:TypeId} (ht:Ms P t=true) {b:Nat} {ents:Array MapEntry} {clock:Nat} {es:List (List V)} (hb:w.heap[b]? = some (.map ents clock)) (hm:Nw es ents) (n:Int):
  (Instr.lookup t (.map (some b)) (.int .i64 n) false).run P w = .ok (.bool (Lg n es)) w:=by
 obtain ⟨k,e,i,h1,h2,h3,h4,h5⟩:=Si ht
 have hk:IsKey (.int .i64) (.int .i64 n):=rfl
 rcases Mj n ents.toList es 0 hm.1 hm.2 with ⟨g1,g2,_⟩ | ⟨j,x,g1,g2,g3,g4,_⟩
 ·simp [Instr.lookup,run_underlying h1,Go.MapKept.run_getObj_map hb,run_checkKey h2 hk,run_findKey h2 g1,zeroValue,typeInfo,h4,h5,g2,Result.andThen]
 ·simp [Instr.lookup,run_underlying h1,Go.MapKept.run_getObj_map hb,run_checkKey h2 hk,run_findKey h2 g1,g4,Result.andThen]
theorem fA {t:TypeId} {x ix:Operand} {x' ix':Ay} (ho:o.op = .lookup t x ix false) (hx:opd' φ x=some x') (hix:opd' φ ix=some ix') (ht:Ms P t=true)
  (h:Aw φ w0 A nt m S a w) (hm:Be (fun x=>Af true (S.val x)) (PU.mget x' ix').opds) (hp:pu S (Ca S) (.mget x' ix')=some (ψ,v)) (_:ψ):Kw φ m P a w o v:=by
 have h1:RT φ m w (Ca S x') (a.eval x):=opd'_ok hx h hm.1 rfl
 have h2:RT φ m w (Ca S ix') (a.eval ix):=opd'_ok hix h hm.2.1 rfl
 have fin:∀ {b:Nat} {ents:Array MapEntry} {clock:Nat} {es:List (List V)} {n:Int},a.eval x = .map (some b)→a.eval ix = .int .i64 n→w.heap[b]? = some (.map ents clock)→Nw es ents→Kw φ m P a w o (.bool (Lg n es)):=by
  intro b ents clock es n e1 e2 hb hm
  refine ⟨_,?_,Dt _⟩
  simp only [execOp,ho,e1,e2,Sem.run_bind,dY ht hb hm n,Result.andThen_ok,Sem.run_pure]
 simp only [pu] at hp
 split at hp
 ·rename_i t' off es n e1 e2
  cases hp
  rw [e1] at h1; rw [e2] at h2
  rcases Dd h1 with ⟨_,q,_⟩ | ⟨_,q,_⟩ | ⟨_,_,_,_,_,_,_,_,_,_,q,_⟩ | ⟨b,es',ents,clock,_,_,q1,q2,_,q3,q4⟩
  ·cases q
  ·cases q
  ·have:=q.1; omega
  ·cases q1
   exact fin q2 (Ce h2) q3 q4
 ·rename_i es n e1 e2
  cases hp
  rw [e1] at h1; rw [e2] at h2
  have h3:=If h1
  generalize hv:a.eval x=val at h3
  cases h3 with
  | lst _ _ b o cap vs hb hav hcap hsz hc hr=>
   have:=hsz 0 _ rfl
   simp at this
  | mp es b ents clock hb hav hh hm=>exact fin hv (Ce h2) hh hm
 ·cases hp
end Go.Ev
