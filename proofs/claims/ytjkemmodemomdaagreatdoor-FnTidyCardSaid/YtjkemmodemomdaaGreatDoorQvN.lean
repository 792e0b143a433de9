/- Arguments as a row reads them are closed values of the small machine. -/
import Derived.Test.YtjkemmodemomdaaGreatDoorQvZ4
import Derived.Carry
import Derived.ChangeArms
import Derived.ChangeOld
import Derived.ChangeShapes
import Derived.OpenShut
import Derived.ShutString
import Derived.SizedLaws
import Derived.WalkKit
import Derived.ProofKit
set_option linter.all false
namespace Go.Ev
open Go.RowKit
inductive Ty where
 | int (k:IntKind)
 | bool
 | str
 | slice (n:Nat) (e:Ty)
 | struct (fs:List Ty)
mutual
def Ty.cells:Ty→Nat
 | .struct fs=>Ty.cellsL fs
 | _=>1
def Ty.cellsL:List Ty→Nat
 | []=>0
 | t::r=>t.cells+Ty.cellsL r
end
mutual
def Ec:Ty→List V→Prop
 | .int k,vs=>∃n,vs=[.int k n]∧k.min≤n∧n≤k.max
 | .bool,vs=>∃b,vs=[.bool b]
 | .str,vs=>∃s,vs=[.str s]∧s.length≤9223372036854775807
 | .slice n e,vs=>∃es,vs=[.lst n es]∧es.length≤9223372036854775807∧∀x∈es,Ec e x
 | .struct fs,vs=>Ng fs vs
def Ng:List Ty→List V→Prop
 | [],vs=>vs=[]
 | t::r,vs=>∃a b,vs=a++b∧Ec t a∧Ng r b
end
section
variable (P:Program)
def Vs (g:TypeId→Option Ty):List Field→Nat→Option (List Ty)
 | [],_=>some []
 | f::r,off=>match g f.type with
  | some T=>if f.offset=off∧P.cellsOf f.type=T.cells then match Vs g r (off+T.cells) with
   | some Ts=>some (T::Ts)
   | none=>none
   else none
  | none=>none
def Tx:Nat→TypeId→Option Ty
 | 0,_=>none
 | n+1,t=>match P.underlying t with
  | some (.int k)=>some (.int k)
  | some .bool=>some .bool
  | some .string=>some .str
  | some (.slice e)=>match Tx n e with
   | some T=>if P.cellsOf e=T.cells∧0<T.cells then some (.slice T.cells T) else none
   | none=>none
  | some (.struct fs)=>match Vs P (Tx n) fs.toList 0 with
   | some Ts=>if P.cellsOf t=Ty.cellsL Ts then some (.struct Ts) else none
   | none=>none
  | _=>none
end
variable {H:Type} {enc:TypeId×Value→H} {P:Program} {w w':World} {base:Nat} {sp:Nat→Bool} {held:Bool} {φ:Bz}
abbrev Zw:Nat→Prop:=fun _=>False
def fE (φ:Bz) (w:World) (vs:List V) (cs:List Value):Prop:=vs.length=cs.length∧∀(i:Nat) (v:V) (x:Value),vs[i]? = some v→cs[i]? = some x→RD φ w Zw v x
theorem fE.append {vs vs':List V} {cs cs':List Value} (h1:fE φ w vs cs) (h2:fE φ w vs' cs'):fE φ w (vs++vs') (cs++cs'):=by
 refine ⟨by simp [h1.1,h2.1],fun i v x g1 g2=>?_⟩
 by_cases hi:i<vs.length
 ·rw [List.getElem?_append_left hi] at g1
  rw [List.getElem?_append_left (by rw [←h1.1]; exact hi)] at g2
  exact h1.2 i v x g1 g2
 ·rw [List.getElem?_append_right (by omega)] at g1
  rw [List.getElem?_append_right (by rw [←h1.1]; omega),←h1.1] at g2
  exact h2.2 _ v x g1 g2
theorem fE.one {v:V} {x:Value} (h:RD φ w Zw v x):fE φ w [v] [x]:=by
 refine ⟨rfl,fun i v' x' g1 g2=>?_⟩
 cases i with
 | zero=>simp at g1 g2; subst g1; subst g2; exact h
 | succ i=>simp at g1
theorem Zg {a:Addr} {v:Value} (h:w.cell? a=some v):a.spot=none:=by
 unfold World.cell? at h
 split at h
 ·split at h
  ·cases h
  ·rename_i hs
   simpa using hs
 ·cases h
theorem Xd:∀(n:Nat) (t:TypeId) (T:Ty) (Ls:Nat) (cs:List Value) (x:DataW H×List MemPlace),Tx P n t=some T→DataW.trod enc P w base sp held Ls t cs=some x →
  cs.length=T.cells∧∃vs,Ec T vs∧fE φ w vs cs
 | 0,t,T,Ls,cs,x,hT,_=>by simp [Tx] at hT
 | n+1,t,T,Ls,cs,x,hT,h=>by
  simp only [Tx] at hT
  split at hT
  ·rename_i k hu
   cases hT
   obtain ⟨m,rfl,_,hw⟩:=DataW.trod_int hu h
   simp only [Lit.wf,Bool.and_eq_true,decide_eq_true_eq] at hw
   exact ⟨rfl,[.int k m],by simp only [Ec]; exact ⟨m,rfl,hw.1,hw.2⟩,.one (.int _ _)⟩
  ·rename_i hu
   cases hT
   obtain ⟨b,rfl,_⟩:=DataW.trod_bool hu h
   exact ⟨rfl,[.bool b],by simp only [Ec]; exact ⟨b,rfl⟩,.one (.bool _)⟩
  ·rename_i hu
   cases hT
   obtain ⟨s,rfl,_,hs⟩:=DataW.trod_string hu h
   refine ⟨rfl,[.str s.data.toList],?_,.one ?_⟩
   ·simp only [Ec]
    refine ⟨_,rfl,?_⟩
    simp only [maxLen] at hs
    have:s.data.toList.length=s.size:=Array.length_toList
    omega
   ·have:RD φ w Zw (.str s.data.toList) (.string ⟨s.data.toList.toArray⟩):=.str _
    rw [eG] at this
    exact this
  ·rename_i e hu
   split at hT
   ·rename_i E hE
    split at hT
    ·rename_i hc
     cases hT
     rcases DataW.trod_slice hu h with ⟨rfl,_⟩ | ⟨a,len,cap,elems,rest,m,rfl,rfl,_,hb,hl,hm,hlen,hel,_,_⟩
     ·refine ⟨rfl,[.lst E.cells []],?_,.one (.nil _)⟩
      simp only [Ec]
      exact ⟨[],rfl,Nat.zero_le _,fun x hx=>by simp at hx⟩
     ·refine ⟨rfl,?_⟩
      have each:∀i,∃(ci:List Value) (vi:List V),i<len→w.cells? base (a.add (i*P.cellsOf e)) (P.cellsOf e)=some ci∧Ec E vi∧fE φ w vi ci∧ci.length=E.cells:=by
       intro i
       by_cases hi:i<len
       ·have h1:=hel i hi
        have hs:elems[i]? = some (elems[i]'(by omega)):=List.getElem?_eq_getElem (by omega)
        rw [hs,Option.bind_eq_some_iff] at h1
        obtain ⟨ci,h2,h3⟩:=h1
        obtain ⟨h4,vi,h5,h6⟩:=Xd n e E m ci _ hE h3
        exact ⟨ci,vi,fun _=>⟨h2,h5,h6,h4⟩⟩
       ·exact ⟨[],[],fun hh=>absurd hh hi⟩
      let ci:=fun i=>Classical.choose (each i)
      let vi:=fun i=>Classical.choose (Classical.choose_spec (each i))
      have hall:∀i,i<len→w.cells? base (a.add (i*P.cellsOf e)) (P.cellsOf e)=some (ci i)∧Ec E (vi i)∧fE φ w (vi i) (ci i)∧(ci i).length=E.cells:=fun i=>Classical.choose_spec (Classical.choose_spec (each i))
      refine ⟨[.lst E.cells ((List.range len).map vi)],?_,.one ?_⟩
      ·simp only [Ec]
       refine ⟨_,rfl,?_,fun x hx=>?_⟩
       ·simp only [List.length_map,List.length_range]
        simp only [maxLen] at hm
        omega
       ·simp only [List.mem_map,List.mem_range] at hx
        obtain ⟨i,hi,rfl⟩:=hx
        exact (hall i hi).2.1
      ·by_cases h0:len=0
       ·subst h0
        exact .emp _ _ _
       ·have cell:∀i k,i<len→k<E.cells→w.cell? ((a.add (i*P.cellsOf e)).add k)=(ci i)[k]? := by
         intro i k hi hk
         exact (World.cells?_some (hall i hi).1).2.2 k (by rw [hc.1]; exact hk)
        have c0:=cell 0 0 (by omega) hc.2
        have hsome:(ci 0)[0]? = some ((ci 0)[0]'(by rw [(hall 0 (by omega)).2.2.2]; exact hc.2)):=List.getElem?_eq_getElem _
        rw [hsome] at c0
        have hsp:a.spot=none:=by
         have:=Zg c0
         simpa [Addr.add] using this
        obtain ⟨b,off,spot⟩:=a
        dsimp only at hsp
        subst hsp
        have key:RD φ w Zw (.lst E.cells ((List.range len).map vi)) (.slice (some ⟨b,off,none⟩) ((List.range len).map vi).length cap):=by
         refine .lst _ _ b off cap (fun j k=>((ci j)[k]?).getD undef) ?_ (fun hh=>hh) (by simpa using hl) (fun j y hj=>?_) (fun j y k c hj hk=>?_) (fun j y k c hj hk=>?_)
         ·have:=World.block_lt_of_cell? w _ c0
          simpa [Addr.add] using this
         ·have hjl:j<len:=by
           have:=(List.getElem?_eq_some_iff.1 hj).1
           simpa using this
          rw [List.getElem?_map,List.getElem?_range hjl] at hj
          obtain rfl:=Option.some.inj hj
          rw [(hall j hjl).2.2.1.1]
          exact (hall j hjl).2.2.2
         ·have hjl:j<len:=by
           have:=(List.getElem?_eq_some_iff.1 hj).1
           simpa using this
          rw [List.getElem?_map,List.getElem?_range hjl] at hj
          obtain rfl:=Option.some.inj hj
          have hkl:k<E.cells:=by
           have:=(List.getElem?_eq_some_iff.1 hk).1
           have h1:=(hall j hjl).2.2.1.1
           rw [h1,(hall j hjl).2.2.2] at this
           exact this
          have h1:=cell j k hjl hkl
          rw [Ch,Ch,hc.1] at h1
          rw [h1]
          have h2:(ci j)[k]? = some ((ci j)[k]'(by rw [(hall j hjl).2.2.2]; exact hkl)):=List.getElem?_eq_getElem _
          rw [h2]
          rfl
         ·have hjl:j<len:=by
           have:=(List.getElem?_eq_some_iff.1 hj).1
           simpa using this
          rw [List.getElem?_map,List.getElem?_range hjl] at hj
          obtain rfl:=Option.some.inj hj
          have hkl:k<(ci j).length:=by
           have:=(List.getElem?_eq_some_iff.1 hk).1
           rw [(hall j hjl).2.2.1.1] at this
           exact this
          have h2:(ci j)[k]? = some ((ci j)[k]'hkl):=List.getElem?_eq_getElem _
          rw [h2]
          exact (hall j hjl).2.2.1.2 k c _ hk h2
        rw [List.length_map,List.length_range] at key
        exact key
    ·cases hT
   ·cases hT
  ·rename_i fs hu
   split at hT
   ·rename_i Ts hTs
    split at hT
    ·rename_i hc
     cases hT
     obtain ⟨xs,m,rfl,_,hl,hlen,hf⟩:=DataW.trod_struct hu h
     refine ⟨by rw [hl,hc]; rfl,?_⟩
     have go:∀(l:List Field) (off k:Nat) (Us:List Ty),Vs P (Tx P n) l off=some Us→(∀(i:Nat) (f:Field),l[i]? = some f→fs[k+i]? = some f)→cs.length=off+Ty.cellsL Us →
       ∃vs,Ng Us vs∧fE φ w vs (cs.drop off):=by
      intro l
      induction l with
      | nil=>
       intro off k Us hU _ hcl
       simp only [Vs,Option.some.injEq] at hU
       subst hU
       refine ⟨[],by simp [Ng],?_⟩
       rw [List.drop_eq_nil_of_le (by simp [Ty.cellsL] at hcl; omega)]
       exact ⟨rfl,by simp⟩
      | cons f r ih=>
       intro off k Us hU hg hcl
       simp only [Vs] at hU
       split at hU
       ·rename_i T1 hT1
        split at hU
        ·rename_i hoff
         split at hU
         ·rename_i Us' hU'
          cases hU
          simp only [Ty.cellsL] at hcl
          have hfk:=hg 0 f rfl
          have h1:=hf (k+0) f hfk
          have hkl:k+0<xs.length:=by
           rw [hlen]; exact (Array.getElem?_eq_some_iff.1 hfk).1
          rw [List.getElem?_eq_getElem hkl] at h1
          obtain ⟨h2,vs1,h3,h4⟩:=Xd n f.type T1 m _ _ hT1 h1
          obtain ⟨vs2,h5,h6⟩:=ih (off+T1.cells) (k+1) Us' hU' (fun i f' hi=>by
           have:=hg (i+1) f' (by simpa using hi)
           rw [show k+1+i=k+(i+1) from by omega]
           exact this) (by omega)
          refine ⟨vs1++vs2,by simp only [Ng]; exact ⟨vs1,vs2,rfl,h3,h5⟩,?_⟩
          have e1:cs.drop off=(cs.drop off).take T1.cells++cs.drop (off+T1.cells):=by
           rw [←List.drop_drop,List.take_append_drop]
          rw [e1]
          rw [hoff.1,hoff.2] at h4
          exact h4.append h6
         ·cases hU
        ·cases hU
       ·cases hU
     obtain ⟨vs,h1,h2⟩:=go fs.toList 0 0 Ts hTs (fun i f hi=>by simpa using hi) (by rw [hl,hc]; omega)
     exact ⟨vs,by simp only [Ec]; exact h1,by simpa using h2⟩
    ·cases hT
   ·cases hT
  ·cases hT
def uL (T:Ty) (u:V):Prop:=
 match T with
 | .struct fs=>∃cs,u = .agg cs∧Ng fs cs
 | T=>Ec T [u]
abbrev uJ:M:=⟨Zw,fun _ _=>none,fun _ _ _=>none⟩
theorem Zx (b:Nat):¬uJ.avoid b:=by
 rintro (h | ⟨k,t,h⟩ | ⟨T,j,c,h⟩)
 ·exact h
 ·cases h
 ·cases h
theorem Zh {v:Value} (h:∀cs,v ≠ .agg cs):v.cells.toList=[v]:=by
 cases v<;>first | rfl | exact absurd rfl (h _)
theorem pY {n:Nat} {t:TypeId} {T:Ty} {v:Value} {d:DataW H} {ps:List MemPlace} {r:Reach} {b0:Nat} (hT:Tx P n t=some T) (hval:Value.okWide P w r b0 t v)
  (h:DataW.Trod enc P w base sp held t v d ps):∃u,uL T u∧RT φ uJ w u v:=by
 obtain ⟨Ls,h⟩:=h
 obtain ⟨hl,vs,h1,h2,h3⟩:=Xd (φ:=φ) n t T Ls _ _ hT h
 have up:∀ {c:V} {x:Value},RD φ w Zw c x→RC φ uJ w c x∧x.oneCell'=true:=fun hd=>
  ⟨Eu (hd.mono (Nat.le_refl _) (fun _ _ _=>rfl) (fun b _ _=>Zx b)),hd.one⟩
 have single:(∀cs,v ≠ .agg cs)→∃u,vs=[u]∧RT φ uJ w u v:=by
  intro hn
  rw [Zh hn] at h2 h3
  obtain ⟨u,rfl⟩:=List.length_eq_one_iff.1 h2
  have:=up (h3 0 u v rfl rfl)
  exact ⟨u,rfl,Fx (Ji this.1 this.2)⟩
 have notAgg:(match P.underlying t with | some (.struct _) | some (.array _ _)=>False | _=>True)→∀cs,v ≠ .agg cs:=by
  rintro hu cs rfl
  unfold Value.okWide at hval
  split at hval
  ·rename_i e; rw [e] at hu; exact hu
  ·rename_i e; rw [e] at hu; exact hu
  ·unfold Cell.okWide at hval
   split at hval<;>first | simp_all [Cell.ok]
 cases n with
 | zero=>simp [Tx] at hT
 | succ n=>
  simp only [Tx] at hT
  split at hT
  ·rename_i k hu
   cases hT
   obtain ⟨u,rfl,h4⟩:=single (notAgg (by rw [hu]; trivial))
   exact ⟨u,h1,h4⟩
  ·rename_i hu
   cases hT
   obtain ⟨u,rfl,h4⟩:=single (notAgg (by rw [hu]; trivial))
   exact ⟨u,h1,h4⟩
  ·rename_i hu
   cases hT
   obtain ⟨u,rfl,h4⟩:=single (notAgg (by rw [hu]; trivial))
   exact ⟨u,h1,h4⟩
  ·rename_i e hu
   split at hT
   ·split at hT
    ·cases hT
     obtain ⟨u,rfl,h4⟩:=single (notAgg (by rw [hu]; trivial))
     exact ⟨u,h1,h4⟩
    ·cases hT
   ·cases hT
  ·rename_i fs hu
   split at hT
   ·split at hT
    ·cases hT
     unfold Value.okWide at hval
     rw [hu] at hval
     obtain ⟨cs,rfl,_,_⟩:=hval
     simp only [Ec] at h1
     refine ⟨.agg vs,⟨vs,rfl,h1⟩,cs.toList,by simp,by rw [h2]; simp [Value.cells],fun i c x k1 k2=>?_⟩
     exact up (h3 i c x k1 (by simpa [Value.cells] using k2))
    ·cases hT
   ·cases hT
  ·cases hT
theorem tR {w:World} {E:Nat→Prop} (h:φ.all (fun p=>Nat.blt p.1 pE)=true):Ni φ w E:=fun b k hk=>by
 have key:∀l:Bz,l.all (fun p=>Nat.blt p.1 pE)=true→look l (pE+b)=none:=by
  intro l
  induction l with
  | nil=>exact fun _=>rfl
  | cons p r ih=>
   intro hl
   obtain ⟨a,v⟩:=p
   simp only [List.all_cons,Bool.and_eq_true,Nat.blt_eq] at hl
   simp only [look]
   rw [if_neg (by omega)]
   exact ih hl.2
 rw [key φ h] at hk
 cases hk
theorem Zr {f fid:Nat} {vals:List Value} {vs:List V} {w:World} (hfid:look φ fid=some f) (hlen:vals.length=vs.length)
  (hargs:∀(i:Nat) (v:V) (x:Value),vs[i]? = some v→vals[i]? = some x→RT φ uJ w v x) (h:By P φ f ⟨vs,[]⟩ ⟨.bool true,[],[]⟩) (ht:Ni φ w fun _=>False):
  Calls P fid vals.toArray w fun e w'=>e = .returned (.bool true)∧Below w.heap.size w w':=by
 obtain ⟨_,h1⟩:=h fid hfid
 refine (h1 w uJ vals ⟨⟨fun b hb=>hb.elim,fun b k hk=>⟨(ht b k hk).1,fun hh=>hh.elim (fun ⟨_,_,h⟩=>(by cases h)) (fun ⟨_,_,_,h⟩=>(by cases h)),(ht b k hk).2.2⟩⟩,fun _ _ _ _ _ hb _=>(by cases hb),fun _ _ _ hb=>(by cases hb),hlen,hargs,fun i cs hi=>by simp at hi,fun _ _ _ _ _ hb _=>(by cases hb),⟨fun _ _ _ _ _ _ _ hb _=>(by cases hb),fun _ _ _ _ _ _ hb _=>(by cases hb),fun _ _ _ _ hb=>(by cases hb),fun _ _ _ _ _ _ _ hb _=>(by cases hb)⟩⟩).mono fun e w' hh=>?_
 obtain ⟨x,m',rfl,post⟩:=hh
 have:=Dc post.res
 subst this
 exact ⟨rfl,post.lies.os,post.lies.tape.1,post.lies.output,post.lies.size,fun k hk=>post.lies.block k hk (fun h=>h.elim (fun ⟨_,_,h⟩=>(by cases h)) (fun ⟨_,_,_,h⟩=>(by cases h)))⟩
end Go.Ev
