/- Functions of Go's library that the kit has proved, as the small machine's. -/
import Derived.Test.YtdmclbbhhcpjfaaDoorQvN
import Derived.Lib.ItoaMem
set_option linter.all false
namespace Go.Ev
variable {P:Program} {φ:Cb}
theorem GB {w:World} {E:Nat→Prop} (ht:Mk φ w E) {g:Nat} {nm:String} (hg:P.globalNamed nm=some g) (hφ:look φ (Yl+g)=some 0):
  Lib.TabIs P w nm .u64 Lib.pow10Tab:=by
 obtain ⟨_,_,e,x,h⟩:=ht g 0 hφ
 unfold Lib.TabIs World.var?
 rw [hg]
 simp only [Option.bind_some]
 rw [show w.heap[g]? = some (.cells (uP 0) e x) from h]
 congr 1
theorem dB {w:World} {m:M} {g:Lz} {r:V} {vals:List Value} {x:Value} (pre:HG φ w m g vals) (k:Nat) (os:Array Obj) (hx:RT φ m (Sort.grow (w.drewN k) os) r x):
  bZ φ w m g ⟨r,[],[]⟩ x m (Sort.grow (w.drewN k) os):=by
 have hs:w.heap.size≤(Sort.grow (w.drewN k) os).heap.size:=by
  rw [Sort.size_grow]
  exact Nat.le_add_right _ _
 have hb:∀b,b<w.heap.size→(Sort.grow (w.drewN k) os).heap[b]? = w.heap[b]? := fun b h=>Sort.heap_grow_old (w.drewN k) os h
 refine ⟨rfl,pre.inj,fun q t b h=>⟨Nat.lt_of_lt_of_le (pre.bnd _ _ _ h).1 hs,.inr (.inl ⟨q,t,h⟩),(pre.bnd _ _ _ h).2⟩,fun _ _ _=>rfl,
  ⟨rfl,rfl,rfl,hs,fun b h _=>hb b h,fun b cur e fr h h1=>⟨cur,by rw [hb b h]; exact h1,rfl⟩⟩,hx,fun i cs h=>by simp at h,fun i off sz es h=>by simp at h,fun t b cur e y h h1=>?_,?_⟩
 ·rw [hb b (pre.bnd _ _ _ h).1] at h1
  exact pre.ones t b cur e y h h1
 ·exact ⟨pre.n.inj,pre.n.dis,fun T j c b h=>⟨Nat.lt_of_lt_of_le (pre.n.bnd _ _ _ _ h).1 hs,.inr (.inr ⟨T,j,c,h⟩),(pre.n.bnd _ _ _ _ h).2⟩,fun _ _ _ _=>rfl,fun T j c b cur e y h h1=>by
   rw [hb b (pre.n.bnd _ _ _ _ h).1] at h1
   exact pre.n.ones T j c b cur e y h h1⟩
theorem IX {f g:Nat} {nm:String} {n:Int} (h0 : -9223372036854775808≤n) (h1:n≤9223372036854775807) (hg:P.globalNamed nm=some g) (hφ:look φ (Yl+g)=some 0)
  (hc:∀fid,look φ fid=some f→Mj P fid∧∀(n:Int),-9223372036854775808≤n→n≤9223372036854775807→∀w:World,Lib.TabIs P w nm .u64 Lib.pow10Tab →
   Calls P fid #[.int .i64 n] w fun e w'=>e = .returned (.string ⟨(Lib.itoa n).toArray⟩)∧∃k os,w'=Sort.grow (w.drewN k) os):
  Bu P φ f ⟨[.int .i64 n],[]⟩ ⟨.str (Lib.itoa n),[],[]⟩:=fun fid hfid=>by
 obtain ⟨e1,e2⟩:=hc fid hfid
 refine ⟨e1,fun w m vals pre=>?_⟩
 have hl:=pre.len
 obtain ⟨v,rfl⟩:∃v,vals=[v]:=by
  cases vals with
  | nil=>simp at hl
  | cons v r=>cases r with
   | nil=>exact ⟨v,rfl⟩
   | cons _ _=>simp at hl
 obtain rfl:=Ch (pre.args 0 _ _ rfl rfl)
 refine (e2 n h0 h1 w (GB pre.hAlt.2 hg hφ)).mono fun e w' hh=>?_
 obtain ⟨rfl,k,os,rfl⟩:=hh
 exact ⟨_,m,rfl,dB pre k os ⟨.str _,fun _=>rfl⟩⟩
theorem iL {f k:Nat} (h:φ.all (fun p => !Nat.beq p.2 f || Nat.beq p.1 k)=true) {fid:Nat} (hf:look φ fid=some f):fid=k:=by
 have key:∀l:Cb,l.all (fun p => !Nat.beq p.2 f || Nat.beq p.1 k)=true→look l fid=some f→fid=k:=by
  intro l
  induction l with
  | nil=>intro _ h; cases h
  | cons p r ih=>
   obtain ⟨a,v⟩:=p
   intro hl h
   simp only [List.all_cons,Bool.and_eq_true] at hl
   simp only [look] at h
   split at h
   ·rename_i e
    cases h
    have:=hl.1
    simp only [Nat.beq_refl,Bool.not_true,Bool.false_or] at this
    rw [←e]
    exact Nat.eq_of_beq_eq_true this
   ·exact ih hl.2 h
 exact key φ h hf
theorem FY {w:World} {g:Nat} {nm:String} (hg:P.globalNamed nm=some g) (ht:Lib.TabIs P w nm .u64 Lib.pow10Tab) (h:φ.all (fun p=>Nat.blt p.1 Yl || (Nat.beq p.1 (Yl+g)&&Nat.beq p.2 0))=true):Mk φ w fun _=>False:=fun b k hk=>by
 have key:∀l:Cb,l.all (fun p=>Nat.blt p.1 Yl || (Nat.beq p.1 (Yl+g)&&Nat.beq p.2 0))=true→look l (Yl+b)=some k→b=g∧k=0:=by
  intro l
  induction l with
  | nil=>intro _ h; cases h
  | cons p r ih=>
   obtain ⟨a,v⟩:=p
   intro hl h
   simp only [List.all_cons,Bool.and_eq_true,Bool.or_eq_true,Nat.blt_eq] at hl
   simp only [look] at h
   split at h
   ·rename_i e
    cases h
    rcases hl.1 with h1 | ⟨h1,h2⟩
    ·omega
    ·have:=Nat.eq_of_beq_eq_true h1
     exact ⟨by omega,Nat.eq_of_beq_eq_true h2⟩
   ·exact ih hl.2 h
 obtain ⟨rfl,rfl⟩:=key φ h hk
 unfold Lib.TabIs World.var? at ht
 rw [hg] at ht
 simp only [Option.bind_some] at ht
 split at ht
 ·rename_i cs e x h1
  obtain rfl:=Option.some.inj ht
  have h2:b<w.heap.size:=(Array.getElem?_eq_some_iff.1 h1).1
  exact ⟨h2,fun h=>h,e,x,h1⟩
 ·cases ht
end Go.Ev
