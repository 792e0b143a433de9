/- slices.SortFunc, proved in the kit over any program, as the small machine's. -/
import Derived.Test.YtfpbbpkdjmldkaaGreatQvN
import Derived.Test.YtfpbbpkdjmldkaaGreatQvK
import Derived.Shelf.SlSortCmp.NoneTotal
set_option linter.all false
namespace Go.Ev
open Go.Proofs Go.Sort
variable {P:Program} {φ:Fa}
def Ml:V→Bool
 | .int _ _ | .bool _ | .str _=>true
 | _=>false
def cv:V→Value
 | .int k n=>.int k n
 | .bool b=>.bool b
 | .str s=>.string ⟨s.toArray⟩
 | _=>undef
theorem rd_cv {w:World} {av:Nat→Prop} {c:V} (hp:Ml c=true) {v:Value} (h:RD φ w av c v):v=cv c:=by
 cases h<;>first | rfl | (simp [Ml] at hp)
theorem cv_rd {w:World} {av:Nat→Prop} {c:V} (hp:Ml c=true):RD φ w av c (cv c):=by
 cases c<;>first | (simp [Ml] at hp; done) | exact .int _ _ | exact .bool _ | exact .str _
theorem jI {c:V} (hp:Ml c=true):(cv c).oneCell'=true:=by
 cases c<;>first | (simp [Ml] at hp; done) | rfl
theorem cv_rc {m:M} {w:World} {c:V} (hp:Ml c=true):RC φ m w c (cv c):=by
 cases c<;>first | (simp [Ml] at hp; done) | exact .int _ _ | exact .bool _ | exact .str _
theorem xK {E:Nat→Prop} {w w':World} (h:Nj E w w') (hE:∀b,¬E b):∃q os,w'=grow (w.drewN q) os:=by
 refine ⟨w'.drawn-w.drawn,w'.heap.extract w.heap.size w'.heap.size,?_⟩
 have e1:w'.heap=w.heap++w'.heap.extract w.heap.size w'.heap.size:=by
  apply Array.ext_getElem?
  intro i
  by_cases hi:i<w.heap.size
  ·rw [Array.getElem?_append_left hi]; exact h.block i hi (hE i)
  ·rw [Array.getElem?_append_right (by omega),Array.getElem?_extract]
   by_cases h2:i<w'.heap.size
   ·rw [if_pos (by omega)]; congr 1; omega
   ·rw [if_neg (by omega),Array.getElem?_eq_none (by omega)]
 have e2:w'.drawn=w.drawn+(w'.drawn-w.drawn):=by have:=h.tape.2; omega
 obtain ⟨a1,a2,a3,a4,a5⟩:=w'
 have h1:=h.os; have h2:=h.tape.1; have h3:=h.output
 simp only at h1 h2 h3 e1 e2
 subst h1 h2 h3
 unfold grow World.drewN
 congr 1
section
variable {α:Type} [Inhabited α] {e:α→List V} {k:Nat}
theorem MC {w:World} {b:Nat} {cur:Array Value} {E:TypeId} (hw:w.heap[b]? = some (.cells cur E (0,0))) (enc:α→List Value) (n:Nat) (d:Array α) (os:Array Obj):
  (sortWorldK enc k w b 0 n d os).heap[b]? = some (.cells (Go.Sort.putCells id 0 (flatK enc k d) cur) E (0,0)):=by
 have hb:b<w.heap.size:=(Array.getElem?_eq_some_iff.1 hw).1
 unfold sortWorldK putRowK putRow
 rw [heap_grow_old _ _ (by simpa [mapBlock,Go.Sort.ahead] using hb)]
 simp only [mapBlock,Go.Sort.ahead,Array.getElem?_modify,if_true,hw,Option.map_some,onCells]
theorem MD {w:World} {b b':Nat} (hb:b'<w.heap.size) (hne:b'≠b) (enc:α→List Value) (n:Nat) (d:Array α) (os:Array Obj):
  (sortWorldK enc k w b 0 n d os).heap[b']? = w.heap[b']? := by
 unfold sortWorldK putRowK putRow
 rw [heap_grow_old _ _ (by simpa [mapBlock,Go.Sort.ahead] using hb)]
 simp only [mapBlock,Go.Sort.ahead,Array.getElem?_modify]
 rw [if_neg (Ne.symm hne)]
theorem vJ {w:World} {b:Nat} (enc:α→List Value) (n:Nat) (d:Array α) (os:Array Obj):w.heap.size≤(sortWorldK enc k w b 0 n d os).heap.size:=by
 unfold sortWorldK putRowK putRow
 rw [size_grow]
 simp only [mapBlock,Go.Sort.ahead,Array.size_modify]
 omega
theorem LG (F cur:Array Value) (i:Nat):(Go.Sort.putCells id 0 F cur)[i]? = if i<F.size∧i<cur.size then some F[i]! else cur[i]? := by
 unfold Go.Sort.putCells
 rw [Array.getElem?_mapIdx]
 by_cases h2:i<cur.size
 ·rw [Array.getElem?_eq_getElem h2]
  simp only [Option.map_some,Nat.zero_le,true_and,Nat.zero_add,Nat.sub_zero,id]
  by_cases h1:i<F.size
  ·rw [if_pos h1,if_pos ⟨h1,h2⟩]
  ·rw [if_neg h1,if_neg (fun h=>h1 h.1)]
 ·rw [Array.getElem?_eq_none (by omega),if_neg (fun h=>h2 h.2)]
  rfl
theorem sortV (he:∀x,(e x).length=k) (hp:∀x,∀c∈e x,Ml c=true) (hk:0<k) {f:Nat}
  (hc:∀fid,look φ fid=some f→Xv P fid∧(∀(p:Option Addr) (cap:Nat) (fv:Value) (w:World),Calls P fid #[.slice p 0 cap,fv] w fun e w'=>e = .returned (.tuple #[])∧w'=w) ∧
   ∀(cf:α→α→Int),SWO (ltOf cf)→∀(g:Nat) (cb:Array Value) (blk off cap:Nat) (d:Array α) (w:World),(∀args w,(callFunc g args).run P w = .ok (.enter g args) w) →
    CmpLays P g cb (fun x=>(e x).map cv) k cf blk off d.size w→HoldsK (fun x=>(e x).map cv) k w blk off d→blk<w.heap.size→d.size<4611686018427387904 →
    Calls P fid #[.slice (some ⟨blk,off,none⟩) d.size cap,.func (.func g) #[] cb] w fun r w'=>
     r = .returned (.tuple #[])∧∃n os,w'=sortWorldK (fun x=>(e x).map cv) k w blk off n (pdq (ltOf cf) d 0 d.size (Lib.bitLen d.size) true true) os)
  {l:List α} {f1:Nat} {cf:α→α→Int} (hS:SWO (ltOf cf)) (hl:l.length≤1048576)
  (hf1:∀x y,Ek P φ f1 ⟨[.agg (e x),.agg (e y)],[]⟩ ⟨.int .i64 (cf x y),[],[]⟩):
  Ek P φ f ⟨[.own 2097152 0 k (l.map e),.clo f1 []],[]⟩ ⟨.tup [],[],[(0,k,(pdq (ltOf cf) l.toArray 0 l.length (Lib.bitLen l.length) true true).toList.map e)]⟩:=fun fid hfid=>by
 obtain ⟨e1,e0,e2⟩:=hc fid hfid
 refine ⟨e1,fun w m vals pre=>?_⟩
 have hlen:=pre.len
 obtain ⟨v0,v1,rfl⟩:∃v0 v1,vals=[v0,v1]:=by
  cases vals with
  | nil=>simp at hlen
  | cons a r=>cases r with
   | nil=>simp at hlen
   | cons b r=>cases r with
    | nil=>exact ⟨a,b,rfl⟩
    | cons _ _=>simp at hlen
 have r0:=Gl (pre.args 0 _ _ rfl rfl)
 have r1:RC φ m w (.clo f1 []) v1:=(pre.args 1 _ _ rfl rfl).1
 obtain ⟨g,vs,hg,rfl,hvl,_⟩:=r1
 obtain rfl:vs=[]:=List.eq_nil_of_length_eq_zero hvl
 have hsz:=(pdq_sorts (ltOf cf) hS l.toArray 0 l.length (Lib.bitLen l.length) true true (Nat.zero_le _) (Nat.le_refl _) (Or.inl rfl)).1.1
 generalize hD:pdq (ltOf cf) l.toArray 0 l.length (Lib.bitLen l.length) true true=D at *
 have hDl:D.toList.length=l.length:=by simpa using hsz
 have htup:∀w',RT φ m w' (.tup []) (.tuple #[]):=fun w'=>⟨[],rfl,rfl,fun i x y h=>by simp at h⟩
 rcases r0 with ⟨_,hes,rfl⟩ | ⟨h0,_⟩ | ⟨b,cap,cur,E,hb,rfl,hw,hcap,hsize,hmax,⟨_,hone⟩,_,hcells⟩ | ⟨_,_,_,_,_,h0,_⟩
 ·obtain rfl:l=[]:=by simpa using hes
  refine (e0 none 0 _ w).mono fun x w' hx=>?_
  obtain ⟨rfl,rfl⟩:=hx
  have hD0:D.toList=[]:=List.eq_nil_of_length_eq_zero (by simpa using hDl)
  refine ⟨_,m,rfl,rfl,pre.inj,fun q t b h=>⟨(pre.bnd _ _ _ h).1,.inr ⟨q,t,h⟩,(pre.bnd _ _ _ h).2⟩,fun _ _ _=>rfl,Nj.refl _ _,htup _,fun i cs h=>by simp at h,fun i off sz es h=>?_,pre.ones⟩
  cases i with
  | zero=>
   simp only [List.getElem?_cons_zero,Option.some.injEq,Prod.mk.injEq] at h
   obtain ⟨rfl,rfl,rfl⟩:=h
   rw [hD0]
   exact ⟨by simp,0,_,.inl ⟨rfl,rfl,rfl⟩⟩
  | succ i=>simp at h
 ·exact absurd rfl h0
 rotate_left
 ·omega
 have hbs:b<w.heap.size:=(pre.bnd _ _ _ hb).1
 have hcur:cap*k=cur.size:=by rw [←hsize,Nat.zero_add]
 have hdsz:l.toArray.size=l.length:=by simp
 have elem:∀(q r:Nat) (hq:q<l.length) (hr:r<k),cur[q*k+r]? = some (cv ((e l[q])[r]'(by rw [he]; exact hr))):=fun q r hq hr=>by
  have h2:r<(e l[q]).length:=by rw [he]; exact hr
  obtain ⟨v,h3,_,h4⟩:=hcells q (e l[q]) r ((e l[q])[r]) (by rw [List.getElem?_map,List.getElem?_eq_getElem hq]; rfl) (List.getElem?_eq_getElem h2)
  rw [Nat.zero_add] at h3
  rw [h3,rd_cv (hp _ _ (List.getElem_mem h2)) h4]
 have flat:∀(d:Array α) (q r:Nat) (hq:q<d.size) (hr:r<k),(flatK (fun x=>(e x).map cv) k d)[q*k+r]! = cv ((e d[q])[r]'(by rw [he]; exact hr)):=fun d q r hq hr=>by
  have h1:q*k+r<d.size*k:=by
   have:=Nat.mul_le_mul_right k (show q+1≤d.size from hq)
   rw [Nat.add_mul,Nat.one_mul] at this; omega
  rw [get_flatK _ _ _ _ h1,Nat.mul_comm,Nat.mul_add_div hk,Nat.div_eq_of_lt hr,Nat.add_zero,Nat.mul_add_mod,Nat.mod_eq_of_lt hr,getElem!_pos d q hq]
  have h2:r<((e d[q]).map cv).length:=by rw [List.length_map,he]; exact hr
  rw [getElem!_pos _ r h2,List.getElem_map]
 have split:∀(d:Array α) (i:Nat),i<d.size*k→∃q r,i=q*k+r∧q<d.size∧r<k:=fun d i hi=>
  ⟨i / k,i%k,by rw [Nat.mul_comm]; exact (Nat.div_add_mod i k).symm,Nat.div_lt_of_lt_mul (by rw [Nat.mul_comm]; exact hi),Nat.mod_lt _ hk⟩
 have hH:HoldsK (fun x=>(e x).map cv) k w b 0 l.toArray:=fun i hi=>by
  rw [size_flatK] at hi
  obtain ⟨q,r,rfl,hq,hr⟩:=split _ i hi
  have hq':q<l.length:=by simpa using hq
  refine ⟨?_,?_⟩
  ·simp only [World.cell?,hw,Nat.zero_add]
   rw [flat l.toArray q r hq hr,if_neg (by simp)]
   exact elem q r hq' hr
  ·simp [World.frozen?,hw]
 have hgE:=(hf1 default default g hg).1
 have hcmp:CmpLays P g #[] (fun x=>(e x).map cv) k cf b 0 l.toArray.size w:=fun n os d _ x y=>by
  obtain ⟨_,c2⟩:=hf1 x y g hg
  have arg:∀(x:α) (W:World),RT φ noM W (.agg (e x)) (.agg ((e x).map cv).toArray):=fun x W=>⟨(e x).map cv,rfl,by simp,fun i c v h1 h2=>by
   rw [List.getElem?_map,h1] at h2
   obtain rfl:=Option.some.inj h2
   have:=hp x c (List.mem_of_getElem? h1)
   exact ⟨cv_rc this,jI this⟩⟩
  refine (c2 (sortWorldK (fun x=>(e x).map cv) k w b 0 n d os) noM [.agg ((e x).map cv).toArray,.agg ((e y).map cv).toArray]
   ⟨fun b hb=>hb.elim,fun _ _ _ _ _ hb _=>(by cases hb),fun _ _ _ hb=>(by cases hb),rfl,fun i v z h1 h2=>?_,fun i cs hi=>by simp at hi,fun _ _ _ _ _ hb _=>(by cases hb)⟩).mono fun r W' hh=>?_
  ·match i with
   | 0=>simp only [List.getElem?_cons_zero,Option.some.injEq] at h1 h2; subst h1 h2; exact arg x _
   | 1=>simp only [List.getElem?_cons_succ,List.getElem?_cons_zero,Option.some.injEq] at h1 h2; subst h1 h2; exact arg y _
   | i+2=>simp at h1
  ·obtain ⟨z,m',rfl,post⟩:=hh
   have hz:z = .int .i64 (cf x y):=Fm post.res
   exact ⟨by rw [hz],xK post.lies fun b ⟨_,_,h⟩=>(by cases h)⟩
 have key:=e2 cf hS g #[] b 0 cap l.toArray w (fun args W=>Jr hgE) hcmp hH hbs (by simp; omega)
 rw [hdsz,hD] at key
 have e3:(.slice (some ⟨b,0*k,none⟩) (l.map e).length cap:Value) = .slice (some ⟨b,0,none⟩) l.length cap:=by simp
 rw [e3]
 refine key.mono fun x w' hx=>?_
 obtain ⟨rfl,n,os,rfl⟩:=hx
 have hwb:=MC hw (fun x=>(e x).map cv) (k:=k) n D os
 have hoth:∀b',b'<w.heap.size→b'≠b→(sortWorldK (fun x=>(e x).map cv) k w b 0 n D os).heap[b']? = w.heap[b']? := fun b' h1 h2=>MD h1 h2 _ _ _ _
 have hone':∀(i:Nat) (v:Value),(Go.Sort.putCells id 0 (flatK (fun x=>(e x).map cv) k D) cur)[i]? = some v→v.oneCell'=true:=fun i v h=>by
  rw [LG] at h
  split at h
  ·rename_i hi
   obtain rfl:=Option.some.inj h
   have:=hi.1
   rw [size_flatK] at this
   obtain ⟨q,r,rfl,hq,hr⟩:=split D i this
   rw [flat D q r hq hr]
   exact jI (hp _ _ (List.getElem_mem _))
  ·exact hone i v h
 have hcs:(Go.Sort.putCells id 0 (flatK (fun x=>(e x).map cv) k D) cur).size=cur.size:=by simp [Go.Sort.putCells]
 have hDs:D.size=l.length:=by simpa using hDl
 refine ⟨_,m,rfl,rfl,pre.inj,fun q t b h=>⟨Nat.lt_of_lt_of_le (pre.bnd _ _ _ h).1 (vJ _ _ _ _),.inr ⟨q,t,h⟩,(pre.bnd _ _ _ h).2⟩,fun _ _ _=>rfl,
  ⟨rfl,⟨rfl,by simp [sortWorldK,grow,putRowK,putRow,mapBlock,Go.Sort.ahead]⟩,rfl,vJ _ _ _ _,fun b' h h2=>hoth b' h fun hh=>h2 (hh ▸ ⟨_,_,hb⟩),fun b' cu E' fr h h2=>?_⟩,htup _,fun i cs h=>by simp at h,fun i off sz es h=>?_,fun t b' cu E' y h h2=>?_⟩
 ·by_cases hh:b'=b
  ·subst hh
   rw [hw] at h2
   simp only [Option.some.injEq,Obj.cells.injEq] at h2
   obtain ⟨rfl,rfl,rfl⟩:=h2
   exact ⟨_,hwb,hcs⟩
  ·exact ⟨cu,by rw [hoth b' h hh]; exact h2,rfl⟩
 ·cases i with
  | succ i=>simp at h
  | zero=>
   simp only [List.getElem?_cons_zero,Option.some.injEq,Prod.mk.injEq] at h
   obtain ⟨rfl,rfl,rfl⟩:=h
   refine ⟨fun z hz=>by obtain ⟨a,_,rfl⟩:=List.mem_map.1 hz; exact he a,k,.slice (some ⟨b,0*k,none⟩) (D.toList.map e).length cap,.inr (.inr (.inl ⟨b,cap,_,E,hb,rfl,hwb,?_,by rw [hcs]; exact hsize,hmax,⟨hk,hone'⟩,fun z hz=>by obtain ⟨a,_,rfl⟩:=List.mem_map.1 hz; exact he a,fun j z q c h1 h2=>?_⟩))⟩
   ·simp only [List.length_map] at hcap ⊢; omega
   ·rw [List.getElem?_map] at h1
    obtain ⟨a,h3,rfl⟩:=Option.map_eq_some_iff.1 h1
    obtain ⟨hj,h4⟩:=List.getElem?_eq_some_iff.1 h3
    obtain ⟨hq,h5⟩:=List.getElem?_eq_some_iff.1 h2
    have hj':j<D.size:=by simpa using hj
    have hqk:q<k:=by rw [he] at hq; exact hq
    have hDa:D[j]=a:=by simpa using h4
    have hlt:j*k+q<D.size*k:=by
     have:=Nat.mul_le_mul_right k (show j+1≤D.size from hj')
     rw [Nat.add_mul,Nat.one_mul] at this; omega
    have hle:D.size*k≤cur.size:=by
     rw [←hcur]
     exact Nat.mul_le_mul_right k (by rw [hDs]; simpa using hcap)
    have hpc:Ml c=true:=hp a c (by rw [←h5]; exact List.getElem_mem _)
    refine ⟨cv c,?_,jI hpc,cv_rd hpc⟩
    rw [Nat.zero_add,LG,if_pos ⟨by rw [size_flatK]; exact hlt,by omega⟩,flat D j q hj' hqk]
    congr 2
    simp only [hDa]
    exact h5
 ·by_cases hh:b'=b
  ·subst hh
   rw [hwb] at h2
   simp only [Option.some.injEq,Obj.cells.injEq] at h2
   obtain ⟨rfl,rfl,rfl⟩:=h2
   exact hone'
  ·rw [hoth b' (pre.bnd _ _ _ h).1 hh] at h2
   exact pre.ones t b' cu E' y h h2
end
end Go.Ev
