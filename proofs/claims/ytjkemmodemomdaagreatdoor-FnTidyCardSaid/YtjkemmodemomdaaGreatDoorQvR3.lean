/- Building structs; function values; small ones. -/
import Derived.Laws.StandIn
import Derived.Test.YtjkemmodemomdaaGreatDoorQvR2
import Derived.Lib.Overlaps
import Derived.Laws.Tables
import Derived.Laws.BytesString
import Derived.Laws.IdiomStrings
set_option linter.all false
namespace Go.Ev
open Go.RowKit
variable {φ:Bz} {m m':M} {w w' w0:World} {A:Fr} {nt:Nat} {S S':St} {a:Act} {P:Program}
variable {o:Oper} {ψ:Prop} {v:V}
def Sq (φ:Bz) (m:M) (w:World) (cs:List V) (arr:Array Value):Prop:=
 arr.size=cs.length∧∀(i:Nat) (c:V) (x:Value),cs[i]? = some c→arr[i]? = some x→RC φ m w c x∧x.oneCell'=true
theorem RT.cells {v:V} {val:Value} (h:RT φ m w v val) (hu:As v=false):Sq φ m w v.cells val.cells:=by
 rcases Sx v with ⟨cs,rfl⟩ | hn
 ·obtain ⟨arr,rfl,h2,h3⟩:=Sr h
  exact ⟨by simpa [Value.cells,V.cells] using h2,fun i c x h4 h5=>h3 i c x h4 (by simpa [Value.cells] using h5)⟩
 ·have h1:RC φ m w v val∧val.oneCell'=true:=by
   cases v with
   | agg cs=>exact absurd rfl (hn cs)
   | tup vs=>simp [As] at hu
   | may b x=>simp [As] at hu
   | undef=>simp [As] at hu
   | _=>exact ⟨h.1,h.2 (by simp)⟩
  have h2:val.cells = #[val]:=by
   cases val<;>first | rfl | simp [Value.oneCell'] at h1
  rw [Hl hn,h2]
  refine ⟨rfl,fun i c x h4 h5=>?_⟩
  cases i with
  | zero=>simp at h4 h5; subst h4; subst h5; exact h1
  | succ i=>simp at h4
theorem Cl:∀(vs cs:List V) (off k:Nat),off+vs.length≤cs.length→(Bo cs off vs)[k]? = if off≤k∧k<off+vs.length then vs[k-off]? else cs[k]?
 | [],cs,off,k,_=>by simp [Bo]; omega
 | v::r,cs,off,k,h=>by
  simp only [List.length_cons] at h
  simp only [Bo]
  rw [Cl r (cs.set off v) (off+1) k (by simp; omega)]
  by_cases h1:off+1≤k∧k<off+1+r.length
  ·have h2:off≤k∧k<off+(v::r).length:=by simp; omega
   simp only [h1,and_self,if_true,h2]
   have:k-off=(k-(off+1))+1:=by omega
   rw [this,List.getElem?_cons_succ]
  ·simp only [h1,if_false]
   by_cases h3:k=off
   ·subst h3
    have h2:k≤k∧k<k+(v::r).length:=by simp
    simp only [h2,and_self,if_true,Nat.sub_self,List.getElem?_cons_zero]
    rw [List.getElem?_set_self (by omega)]
   ·have h2:¬(off≤k∧k<off+(v::r).length):=by simp; omega
    simp only [h2,if_false]
    rw [List.getElem?_set_ne (by omega)]
theorem Cm:∀(vs cs:List V) (off:Nat),(Bo cs off vs).length=cs.length
 | [],_,_=>rfl
 | v::r,cs,off=>by simp [Bo,Cm r]
theorem Px (off:Nat):∀(l:List Value) (s:Nat) (cells:Array Value),off+s+l.length≤cells.size →
  (((l.zipIdx s).foldl (fun cs (c,j)=>cs.setIfInBounds (off+j) c) cells).size=cells.size ∧
  ∀k,((l.zipIdx s).foldl (fun cs (c,j)=>cs.setIfInBounds (off+j) c) cells)[k]? = if off+s≤k∧k<off+s+l.length then l[k-(off+s)]? else cells[k]?)
 | [],s,cells,_=>⟨rfl,fun k=>by simp; omega⟩
 | x::r,s,cells,h=>by
  simp only [List.length_cons] at h
  simp only [List.zipIdx_cons,List.foldl_cons]
  have ih:=Px off r (s+1) (cells.setIfInBounds (off+s) x) (by simp; omega)
  refine ⟨by rw [ih.1]; simp,fun k=>?_⟩
  rw [ih.2 k]
  by_cases h1:off+(s+1)≤k∧k<off+(s+1)+r.length
  ·have h2:off+s≤k∧k<off+s+(x::r).length:=by simp; omega
   simp only [h1,and_self,if_true,h2]
   have:k-(off+s)=(k-(off+(s+1)))+1:=by omega
   rw [this,List.getElem?_cons_succ]
  ·simp only [h1,if_false]
   by_cases h3:k=off+s
   ·subst h3
    have h2:off+s≤off+s∧off+s<off+s+(x::r).length:=by simp
    simp only [h2,and_self,if_true,Nat.sub_self,List.getElem?_cons_zero]
    have hlt:off+s<cells.size:=by omega
    simp [hlt]
   ·have h2:¬(off+s≤k∧k<off+s+(x::r).length):=by simp; omega
    simp only [h2,if_false]
    exact Array.getElem?_setIfInBounds_ne (by omega)
theorem Sq.part {cs vs:List V} {arr:Array Value} {val:Value} {off:Nat} (h:Sq φ m w cs arr) (hv:Sq φ m w vs val.cells) (ho:off+vs.length≤cs.length):
  Sq φ m w (Bo cs off vs) (val.cells.zipIdx.foldl (fun cs (c,j)=>cs.setIfInBounds (off+j) c) arr):=by
 have hl:val.cells.toList.length=vs.length:=by simpa using hv.1
 have hf:=Px off val.cells.toList 0 arr (by rw [h.1]; omega)
 have he:val.cells.zipIdx.foldl (fun cs (c,j)=>cs.setIfInBounds (off+j) c) arr=(val.cells.toList.zipIdx 0).foldl (fun cs (c,j)=>cs.setIfInBounds (off+j) c) arr:=by
  rw [←Array.foldl_toList,Array.toList_zipIdx]
 rw [he]
 refine ⟨by rw [hf.1,h.1,Cm],fun i c x h1 h2=>?_⟩
 rw [Cl vs cs off i ho] at h1
 rw [hf.2 i,hl] at h2
 simp only [Nat.add_zero] at h2
 split at h1
 ·rename_i hc
  simp only [hc,and_self,if_true] at h2
  exact hv.2 _ c x h1 (by simpa using h2)
 ·rename_i hc
  simp only [hc,if_false] at h2
  exact h.2 i c x h1 h2
theorem Te {Ds:Nat→Option (Nat×Nat)}:∀(parts:List (Nat×Value)) (vs:List (Nat×Nat×V)) (cs:List V) (arr:Array Value),Sq φ m w cs arr →
  parts.length=vs.length→(∀(j:Nat) (p:Nat×Value) (q:Nat×Nat×V),parts[j]? = some p→vs[j]? = some q→Ds p.1=some (q.1,q.2.1)∧Sq φ m w q.2.2.cells p.2.cells∧q.2.2.cells.length=q.2.1∧q.1+q.2.1≤cs.length) →
  ∃arr',Instr.fill Ds arr parts=some arr'∧Sq φ m w (vs.foldl (fun cs p=>Bo cs p.1 p.2.2.cells) cs) arr'
 | [],[],cs,arr,h,_,_=>⟨arr,rfl,h⟩
 | (i,v)::r,(off,size,x)::s,cs,arr,h,hl,hp=>by
  obtain ⟨h1,h2,h3,h4⟩:=hp 0 _ _ rfl rfl
  dsimp only at h1 h2 h3 h4
  have hsz:v.cells.size=size:=by rw [h2.1,h3]
  have h5:=Sq.part h h2 (off:=off) (by omega)
  obtain ⟨arr',h6,h7⟩:=Te r s _ _ h5 (by simpa using hl) fun j p q g1 g2=>by
   obtain ⟨k1,k2,k3,k4⟩:=hp (j+1) p q (by simpa using g1) (by simpa using g2)
   exact ⟨k1,k2,k3,by rw [Cm]; exact k4⟩
  refine ⟨arr',?_,h7⟩
  simp only [Instr.fill,h1]
  rw [if_neg (by rw [hsz,h.1]; simp; omega)]
  exact h6
 | [],_::_,_,_,_,hl,_=>by simp at hl
 | _::_,[],_,_,_,hl,_=>by simp at hl
theorem Nd {own:Option Nat}:∀(ts:List TypeId) (vs:List Value) (k:Nat) (zs:List V),zeroCells P own ts vs k=some zs→(∀v∈vs,v.oneCell'=true)→Sq φ m w zs vs.toArray
 | [],[],_,zs,h,_=>by
  simp only [zeroCells,Option.some.injEq] at h
  subst h
  exact ⟨rfl,by simp⟩
 | t::ts,v::vs,k,zs,h,h1=>by
  simp only [zeroCells] at h
  split at h
  ·rename_i r hr
   cases h
   have ih:=Nd ts vs (k+1) r hr fun x hx=>h1 x (by simp [hx])
   refine ⟨by simpa using ih.1,fun i c x h2 h3=>?_⟩
   cases i with
   | succ i=>exact ih.2 i c x (by simpa using h2) (by simpa using h3)
   | zero=>
    simp at h2 h3
    subst h2; subst h3
    refine ⟨?_,h1 v (by simp)⟩
    unfold Ki
    split
    ·exact RD.int _ _
    ·exact RD.bool _
    ·rename_i s
     have:RD φ w m.avoid (.str s.data.toList) (.string ⟨s.data.toList.toArray⟩):=.str _
     rw [eG] at this
     exact this
    ·split
     ·split
      ·exact .inl ⟨rfl,rfl,rfl⟩
      ·exact RD.nil _
     ·trivial
    ·trivial
  ·cases h
 | [],_::_,_,_,h,_=>by simp [zeroCells] at h
 | _::_,[],_,_,h,_=>by simp [zeroCells] at h
theorem Er {own:Option Nat} {t:TypeId} {zs:List V} (h:Ck P own t=some zs):∃i z,P.info? t=some i∧i.zero=some z∧Sq φ m w zs z.cells:=by
 unfold Ck at h
 split at h
 ·rename_i i hi
  split at h
  ·rename_i z hz
   split at h
   ·rename_i hall
    refine ⟨i,z,hi,hz,?_⟩
    have:=Nd (P:=P) (φ:=φ) (m:=m) (w:=w) _ _ _ _ h (List.all_eq_true.1 hall)
    simpa using this
   ·cases h
  ·cases h
 ·cases h
theorem Vy {own:Option Nat} {t:TypeId} {zs:List V} {i:TypeInfo} {z:Value} (h:Ck P own t=some zs) (hi:P.info? t=some i) (hz:i.zero=some z):∀v∈z.cells.toList,v.oneCell'=true:=by
 unfold Ck at h
 rw [hi] at h
 simp only [hz] at h
 split at h
 ·rename_i hall; exact List.all_eq_true.1 hall
 ·cases h
theorem Rx {fs:List Field} {pl:List (Nat×Nat)} (h:Aw φ w0 A nt m S a w):∀ {parts:List (Nat×Operand)} {ps:List (Nat×Nat×Ay)},Nk P φ fs pl parts=some ps →
  Be (fun x=>Af true (S.val x)) (ps.map (·.2.2))→Be (fun p=>As (Ca S p.2.2)=false) ps →
  parts.length=ps.length∧∀(j:Nat) (p:Nat×Operand) (q:Nat×Nat×Ay),parts[j]? = some p→ps[j]? = some q→pl[p.1]? = some (q.1,q.2.1)∧Sq φ m w (Ca S q.2.2).cells (a.eval p.2).cells
 | [],ps,hp,_,_=>by
  simp only [Nk,Option.some.injEq] at hp
  subst hp
  exact ⟨rfl,by simp⟩
 | (i,x)::r,ps,hp,hm,hu=>by
  simp only [Nk] at hp
  split at hp
  ·rename_i f off size hf hpl
   split at hp
   ·rename_i y s hy hs
    cases hp
    obtain ⟨h1,h2⟩:=Rx h hs hm.2 hu.2
    refine ⟨by simp [h1],fun j p q g1 g2=>?_⟩
    cases j with
    | succ j=>exact h2 j p q (by simpa using g1) (by simpa using g2)
    | zero=>
     simp at g1 g2
     subst g1; subst g2
     exact ⟨hpl,RT.cells (Gh hy h hm.1 rfl) hu.1⟩
   ·cases hp
  ·cases hp
theorem Pl {α:Type} {p q:α→Prop}:∀ {l:List α},Be (fun x=>p x∧q x) l→Be p l∧Be q l
 | [],_=>⟨trivial,trivial⟩
 | _::_,h=>⟨⟨h.1.1,(Pl h.2).1⟩,⟨h.1.2,(Pl h.2).2⟩⟩
theorem Pm {α:Type} {p:α→Prop}:∀ {l:List α},Be p l→∀ {j:Nat} {x:α},l[j]? = some x→p x
 | _::_,h,0,x,hx=>by simp at hx; subst hx; exact h.1
 | _::_,h,j+1,x,hx=>Pm h.2 (j:=j) (by simpa using hx)
 | [],_,_,_,hx=>by simp at hx
theorem aN {own:Option Nat} {t:TypeId} {parts:Array (Nat×Operand)} {fs:Array Field} {pl:List (Nat×Nat)} {zs:List V} {ps:List (Nat×Nat×Ay)} (ho:o.op = .build t parts)
  (ht:P.underlying t=some (.struct fs)) (hz:Ck P own t=some zs) (hpl:Nt P fs.toList=some pl) (hb:Nk P φ fs.toList pl parts.toList=some ps)
  (h:Aw φ w0 A nt m S a w) (hm:Be (fun x=>Af true (S.val x)) (PU.build zs ps).opds) (hp:pu S (Ca S) (.build zs ps)=some (ψ,v)) (hψ:ψ):Kw φ m P a w o v:=by
 simp only [pu,Option.some.injEq,Prod.mk.injEq] at hp
 obtain ⟨rfl,rfl⟩:=hp
 obtain ⟨i,z,hi,hzz,hcs⟩:=Er (φ:=φ) (m:=m) (w:=w) hz
 obtain ⟨hu,hrest⟩:=Pl hψ
 obtain ⟨hlen,hparts⟩:=Rx h hb hm hu
 obtain ⟨arr,hf,hr⟩:=Te (φ:=φ) (m:=m) (w:=w) (Ds:=(pl.toArray[·]?)) (parts.toList.map fun p=>(p.1,a.eval p.2)) (ps.map fun p=>(p.1,p.2.1,Ca S p.2.2)) zs z.cells hcs (by simpa using hlen)
  (fun j p q g1 g2=>by
   simp only [List.getElem?_map,Option.map_eq_some_iff] at g1 g2
   obtain ⟨p0,g1,rfl⟩:=g1
   obtain ⟨q0,g2,rfl⟩:=g2
   obtain ⟨k1,k2⟩:=hparts j p0 q0 g1 g2
   have k3:=Pm hrest g2
   exact ⟨by simpa using k1,k2,k3.1,k3.2⟩)
 have hbuilt:P.built t (parts.toList.map fun p=>(p.1,a.eval p.2))=some arr:=by
  unfold Program.built
  simp only [hi,ht,hzz]
  unfold Nt at hpl
  rw [hpl]
  exact hf
 have hrun:=run_build (P:=P) w t (parts.map fun p=>(p.1,a.eval p.2)) arr (by simpa using hbuilt)
 refine ⟨.agg arr,?_,arr.toList,by simp,?_,fun i c x h1 h2=>?_⟩
 ·simp only [execOp,ho]
  have:(parts.map fun (i,x)=>(i,a.eval x))=(parts.map fun p=>(p.1,a.eval p.2)):=rfl
  rw [this,Sem.run_bind,hrun]
  rfl
 ·have:=hr.1
  rw [List.foldl_map] at this
  simpa using this
 ·have:=hr.2 i c x
  rw [List.foldl_map] at this
  exact this h1 (by simpa using h2)
theorem Yq {l:List Operand} {ys:List Ay} (hl:opds (opd' φ) l=some ys) (h:Aw φ w0 A nt m S a w) (hm:Be (fun x=>Af true (S.val x)) ys):
  l.length=ys.length∧∀(i:Nat) (x:Operand) (y:Ay),l[i]? = some x→ys[i]? = some y→RT φ m w (Ca S y) (a.eval x):=by
 induction l generalizing ys with
 | nil=>simp only [opds,Option.some.injEq] at hl; subst hl; exact ⟨rfl,by simp⟩
 | cons x r ih=>
  simp only [opds] at hl
  split at hl
  ·rename_i y s hy hs
   cases hl
   obtain ⟨h1,h2⟩:=ih hs hm.2
   refine ⟨by simp [h1],fun i x y g1 g2=>?_⟩
   cases i with
   | succ i=>exact h2 i x y (by simpa using g1) (by simpa using g2)
   | zero=>
    simp at g1 g2
    subst g1; subst g2
    exact opd'_ok hy h hm.1 rfl
  ·cases hl
theorem Vx {c:Call} {x' y':Ay} {b:Builtin} (ho:o.op = .call c) (hb:c.callee = .builtin b) (hx:opds (opd' φ) c.args.toList=some [x',y'])
  (h:Aw φ w0 A nt m S a w) (hm:Be (fun x=>Af true (S.val x)) [x',y'])
  (hp:(b = .min∧pu S (Ca S) (.mn x' y')=some (ψ,v))∨(b = .max∧pu S (Ca S) (.mx x' y')=some (ψ,v))) (hψ:ψ):Kw φ m P a w o v:=by
 obtain ⟨hlen,hargs⟩:=Yq hx h hm
 obtain ⟨x,y,hxy⟩:∃x y,c.args.toList=[x,y]:=by
  match hc:c.args.toList,hlen with
  | [x,y],_=>exact ⟨x,y,rfl⟩
 have g4:c.args = #[x,y]:=by rw [←Array.toArray_toList (xs:=c.args),hxy]
 have h1:RT φ m w (Ca S x') (a.eval x):=hargs 0 x x' (by simp [hxy]) rfl
 have h2:RT φ m w (Ca S y') (a.eval y):=hargs 1 y y' (by simp [hxy]) rfl
 rcases hp with ⟨rfl,hp⟩ | ⟨rfl,hp⟩<;>simp only [pu] at hp<;>split at hp
 ·rename_i k x1 k' y1 e1 e2
  cases hp; subst hψ
  rw [e1] at h1; rw [e2] at h2
  refine ⟨_,?_,Bm _ _⟩
  simp only [execOp,ho,resolve,hb,g4,Sem.run_bind,Sem.run_pure,Result.andThen_ok,invoke,builtin]
  simp [Builtin.min_,Builtin.min2,Ce h1,Ce h2]
 ·cases hp
 ·rename_i k x1 k' y1 e1 e2
  cases hp; subst hψ
  rw [e1] at h1; rw [e2] at h2
  refine ⟨_,?_,Bm _ _⟩
  simp only [execOp,ho,resolve,hb,g4,Sem.run_bind,Sem.run_pure,Result.andThen_ok,invoke,builtin]
  simp [Builtin.max_,Builtin.max2,Ce h1,Ce h2]
 ·cases hp
theorem oW (h:Aw φ w0 A nt m S a w) {t:TypeId} {x:Operand} {y:Ay} (hy:tS P φ t x=some y) (hm:Af true (S.val y)):RT φ m w (Ab (S.val y)) (a.eval x):=by
 unfold tS at hy
 split at hy
 ·rename_i sz hx
  cases hy
  unfold Rg at hx
  split at hx
  case h_5=>
   split at hx
   ·cases hx; exact ⟨.inl ⟨rfl,rfl,rfl⟩,fun _=>rfl⟩
   ·cases hx
  all_goals first | cases hx | (split at hx<;>cases hx)
 ·exact Gh hy h hm rfl
theorem Ge (h:Aw φ w0 A nt m S a w):∀ {ts:List TypeId} {l:List Operand} {ys:List Ay},Ic P φ ts l=some ys→(∀y∈ys,Af true (S.val y)) →
  (l.map a.eval).length=(ys.map fun y=>Ab (S.val y)).length∧∀(i:Nat) (v:V) (x:Value),(ys.map fun y=>Ab (S.val y))[i]? = some v→(l.map a.eval)[i]? = some x→RT φ m w v x
 | [],[],ys,hp,_=>by
  simp only [Ic,Option.some.injEq] at hp
  subst hp
  exact ⟨rfl,by simp⟩
 | t::ts,x::r,ys,hp,hm=>by
  simp only [Ic] at hp
  split at hp
  ·rename_i y s hy hs
   cases hp
   obtain ⟨h1,h2⟩:=Ge h hs fun y hy=>hm y (List.mem_cons_of_mem _ hy)
   refine ⟨by simpa using h1,fun i v x' g1 g2=>?_⟩
   cases i with
   | succ i=>exact h2 i v x' (by simpa using g1) (by simpa using g2)
   | zero=>
    simp at g1 g2
    subst g1; subst g2
    exact oW h hy (hm _ (by simp))
  ·cases hp
 | [],_::_,_,hp,_=>by simp [Ic] at hp
 | _::_,[],_,hp,_=>by simp [Ic] at hp
theorem cP (fn : Func) (h1 : fn.name = "internal/bytealg.IndexByteString") (h2 : fn.origin = "") : Extern.findNext fn = none := by
 unfold Extern.findNext
 rw [h1,h2]
 kernel_rfl
theorem cO (fn : Func) (h1 : fn.name = "internal/bytealg.IndexByteString") : Extern.find fn = some Extern.BytealgIndexByte.indexByte := by
 unfold Extern.find
 rw [h1]
 kernel_rfl
theorem aR {c:Call} {f:FuncId} {x' y':Ay} {fn:Func} (ho:o.op = .call c) (hcal:c.callee = .value (.func f)) (hx:Ic P φ c.argTypes.toList c.args.toList=some [x',y']) (hfn:P.funcs[f]? = some fn) (hb:Jx fn=true)
  (h:Aw φ w0 A nt m S a w) (hm:Be (fun x=>Af true (S.val x)) (PU.xbyte x' y').opds) (hp:pu S (Ca S) (.xbyte x' y')=some (ψ,v)) (_:ψ):Kw φ m P a w o v:=by
 obtain ⟨hlen,hargs⟩:=Ge h hx (fun y hy=>by
  simp only [List.mem_cons,List.not_mem_nil,or_false] at hy
  rcases hy with rfl | rfl
  ·exact hm.1
  ·exact hm.2.1)
 obtain ⟨x,y,hxy⟩:∃x y,c.args.toList=[x,y]:=by
  match hc:c.args.toList,hlen with
  | [x,y],_=>exact ⟨x,y,rfl⟩
 have g4:c.args = #[x,y]:=by rw [←Array.toArray_toList (xs:=c.args),hxy]
 have h1:RT φ m w (Ca S x') (a.eval x):=hargs 0 _ _ (by simp) (by simp [hxy])
 have h2:RT φ m w (Ca S y') (a.eval y):=hargs 1 _ _ (by simp) (by simp [hxy])
 simp only [Jx,Bool.and_eq_true,beq_iff_eq] at hb
 simp only [pu] at hp
 split at hp
 ·rename_i s n e1 e2
  cases hp
  rw [e1] at h1; rw [e2] at h2
  have ex:=Ez h1
  have ey:=Ce h2
  refine ⟨_,?_,Bm _ _⟩
  have hrun:=run_callFunc_indexByte hfn (by rw [hb.1.2]; decide) hb.1.1 (cP fn hb.1.2 hb.2) (cO fn hb.1.2) #[.string ⟨s.toArray⟩,.int .u8 n] w
  rw [run_indexByte_string] at hrun
  simp only [execOp,ho,resolve,hcal,Act.eval,g4,Sem.run_bind,Sem.run_pure,Result.andThen_ok,invoke,Deferred.ofValue]
  have e3:(#[x,y]:Array Operand).map a.eval = #[.string ⟨s.toArray⟩,.int .u8 n]:=by simp [ex,ey]
  rw [show (Array.map (fun x=>a.eval x) #[x,y]) = #[.string ⟨s.toArray⟩,.int .u8 n] from e3]
  simpa [Act.eval,Sz] using hrun
 ·cases hp
theorem bY (fn : Func) (h1 : fn.name = "internal/bytealg.abigen_runtime_cmpstring") (h2 : fn.origin = "") : Extern.findNext fn = none := by
 unfold Extern.findNext
 rw [h1,h2]
 kernel_rfl
theorem bX (fn : Func) (h1 : fn.name = "internal/bytealg.abigen_runtime_cmpstring") : Extern.find fn = some Extern.BytealgCompare.compare := by
 unfold Extern.find
 rw [h1]
 kernel_rfl
theorem Ma {P:Program} (s t:ByteArray) (w:World):(Extern.BytealgCompare.compare #[.string s,.string t]).run P w = .ok (.int .i64 (Extern.BytealgCompare.cmp s t)) w:=rfl
theorem fC {c:Call} {f:FuncId} {x' y':Ay} {fn:Func} (ho:o.op = .call c) (hcal:c.callee = .value (.func f)) (hx:Ic P φ c.argTypes.toList c.args.toList=some [x',y']) (hfn:P.funcs[f]? = some fn) (hb:Qf fn=true)
  (h:Aw φ w0 A nt m S a w) (hm:Be (fun x=>Af true (S.val x)) (PU.scmp x' y').opds) (hp:pu S (Ca S) (.scmp x' y')=some (ψ,v)) (_:ψ):Kw φ m P a w o v:=by
 obtain ⟨hlen,hargs⟩:=Ge h hx (fun y hy=>by
  simp only [List.mem_cons,List.not_mem_nil,or_false] at hy
  rcases hy with rfl | rfl
  ·exact hm.1
  ·exact hm.2.1)
 obtain ⟨x,y,hxy⟩:∃x y,c.args.toList=[x,y]:=by
  match hc:c.args.toList,hlen with
  | [x,y],_=>exact ⟨x,y,rfl⟩
 have g4:c.args = #[x,y]:=by rw [←Array.toArray_toList (xs:=c.args),hxy]
 have h1:RT φ m w (Ca S x') (a.eval x):=hargs 0 _ _ (by simp) (by simp [hxy])
 have h2:RT φ m w (Ca S y') (a.eval y):=hargs 1 _ _ (by simp) (by simp [hxy])
 simp only [Qf,Bool.and_eq_true,beq_iff_eq] at hb
 simp only [pu] at hp
 split at hp
 ·rename_i s n e1 e2
  cases hp
  rw [e1] at h1; rw [e2] at h2
  have ex:=Ez h1
  have ey:=Ez h2
  refine ⟨_,?_,Bm _ _⟩
  have hrun:=run_callFunc_extern hfn (by rw [hb.1.2]; decide) hb.1.1 (bY fn hb.1.2 hb.2) (bX fn hb.1.2) #[.string ⟨s.toArray⟩,.string ⟨n.toArray⟩] w
  rw [Ma] at hrun
  simp only [execOp,ho,resolve,hcal,Act.eval,g4,Sem.run_bind,Sem.run_pure,Result.andThen_ok,invoke,Deferred.ofValue]
  have e3:(#[x,y]:Array Operand).map a.eval = #[.string ⟨s.toArray⟩,.string ⟨n.toArray⟩]:=by simp [ex,ey]
  rw [show (Array.map (fun x=>a.eval x) #[x,y]) = #[.string ⟨s.toArray⟩,.string ⟨n.toArray⟩] from e3]
  simpa [Act.eval,wF] using hrun
 ·cases hp
theorem dI (fn : Func) (h1 : fn.name = "slices.overlaps[int]" ∨ fn.name = "slices.overlaps[loop.example/g00149/impl.Pair]") (h2 : fn.origin = "slices.overlaps") : Extern.findNext fn = none := by
 unfold Extern.findNext
 rw [h2]
 rcases h1 with h1 | h1<;>rw [h1]<;>kernel_rfl
theorem dH (fn : Func) (h1 : fn.name = "slices.overlaps[int]" ∨ fn.name = "slices.overlaps[loop.example/g00149/impl.Pair]") (h2 : fn.origin = "slices.overlaps") : Extern.find fn = some (Extern.SlicesOverlaps.overlaps fn.params fn.resultTypes) := by
 unfold Extern.find
 rw [h2]
 rcases h1 with h1 | h1<;>rw [h1]<;>kernel_rfl
theorem pA {r t e:TypeId} {i:TypeInfo} {x y:Value} {T T' off off' sz sz':Nat} {es es':List (List V)} (ht:P.underlying t=some (.slice e)) (hi:P.info? e=some i)
  (inj:∀k t k' t' b,m.blk k t=some b→m.blk k' t'=some b→k=k'∧t=t') (hne:T≠T'∧(es≠[]∧es'≠[])∧sz≠0∧sz'≠0)
  (hx:RO φ m w T off sz es x) (hy:RO φ m w T' off' sz' es' y):(Extern.SlicesOverlaps.overlaps #[t,t] #[r] #[x,y]).run P w = .ok (.bool false) w:=by
 rcases hx with ⟨_,h,_⟩ | ⟨_,h,_⟩ | ⟨b,c1,cur,E,z1,rfl,z3,z4,z5,z6,z7,z8,z9⟩ | ⟨_,_,_,_,_,h,_⟩
 ·exact absurd h hne.2.1.1
 ·exact absurd h hne.2.1.1
 rotate_left
 ·exact absurd h hne.2.2.1
 rcases hy with ⟨_,h,_⟩ | ⟨_,h,_⟩ | ⟨b',c1',cur',E',y1,rfl,y3,y4,y5,y6,y7,y8,y9⟩ | ⟨_,_,_,_,_,h,_⟩
 ·exact absurd h hne.2.1.2
 ·exact absurd h hne.2.1.2
 rotate_left
 ·exact absurd h hne.2.2.2
 have hb:b≠b':=fun hh=>by subst hh; exact hne.1 (inj _ _ _ _ _ z1 y1).2
 have hcur:cur'.size≠0:=by
  rw [←y5]
  have:=y7.1
  have h5:0<es'.length:=List.length_pos_iff.2 hne.2.1.2
  exact Nat.ne_of_gt (Nat.mul_pos (by omega) this)
 exact Go.Lib.run_overlaps_apart w t r e ht i.size (fun w=>Dg hi) _ _ _ _ _ _ hb E E' cur.size cur'.size (by simp [World.shape?,z3]) (by simp [World.shape?,y3]) hcur (by simp [World.frozen?,z3]) (by simp [World.frozen?,z3])
theorem pV {c:Call} {f:FuncId} {x' y':Ay} {fn:Func} (ho:o.op = .call c) (hcal:c.callee = .value (.func f)) (hx:Ic P φ c.argTypes.toList c.args.toList=some [x',y']) (hfn:P.funcs[f]? = some fn) (hb:Lt P fn=true)
  (h:Aw φ w0 A nt m S a w) (hm:Be (fun x=>Af true (S.val x)) (PU.ovl x' y').opds) (hp:pu S (Ca S) (.ovl x' y')=some (ψ,v)) (hψ:ψ):Kw φ m P a w o v:=by
 obtain ⟨hlen,hargs⟩:=Ge h hx (fun y hy=>by
  simp only [List.mem_cons,List.not_mem_nil,or_false] at hy
  rcases hy with rfl | rfl
  ·exact hm.1
  ·exact hm.2.1)
 obtain ⟨x,y,hxy⟩:∃x y,c.args.toList=[x,y]:=by
  match hc:c.args.toList,hlen with
  | [x,y],_=>exact ⟨x,y,rfl⟩
 have g4:c.args = #[x,y]:=by rw [←Array.toArray_toList (xs:=c.args),hxy]
 have h1:RT φ m w (Ca S x') (a.eval x):=hargs 0 _ _ (by simp) (by simp [hxy])
 have h2:RT φ m w (Ca S y') (a.eval y):=hargs 1 _ _ (by simp) (by simp [hxy])
 simp only [Lt,Bool.and_eq_true,beq_iff_eq,Bool.or_eq_true] at hb
 obtain ⟨⟨⟨hb1,hb2⟩,hb3⟩,hb4⟩:=hb
 split at hb4
 ·rename_i t t' r hps hrs
  simp only [Bool.and_eq_true,beq_iff_eq] at hb4
  obtain ⟨rfl,hb4⟩:=hb4
  have e5:fn.params = #[t,t]:=by rw [←Array.toArray_toList (xs:=fn.params),hps]
  have e6:fn.resultTypes = #[r]:=by rw [←Array.toArray_toList (xs:=fn.resultTypes),hrs]
  simp only [Gz] at hb4
  split at hb4
  ·rename_i e he
   split at hb4
   ·rename_i i hi
    simp only [pu] at hp
    split at hp
    ·rename_i t off sz es t' off' sz' es' e1 e2
     cases hp
     rw [e1] at h1; rw [e2] at h2
     refine ⟨_,?_,Dt _⟩
     have hname : (fn.name == "runtime.NumGoroutine") = false := by rcases hb3 with hb3 | hb3 <;> rw [hb3] <;> decide
     have hrun:=run_callFunc_extern hfn hname hb1 (dI fn hb3 hb2) (dH fn hb3 hb2) #[a.eval x,a.eval y] w
     rw [e5,e6,pA he hi h.inj hψ (Dd h1) (Dd h2)] at hrun
     simp only [execOp,ho,resolve,hcal,Act.eval,g4,Sem.run_bind,Sem.run_pure,Result.andThen_ok,invoke,Deferred.ofValue]
     rw [show (Array.map (fun x=>a.eval x) #[x,y]) = #[a.eval x,a.eval y] by simp]
     simpa [Act.eval] using hrun
    ·cases hp
   ·cases hb4
  ·cases hb4
 ·cases hb4
theorem pS {x:Operand} {x':Ay} {i:Nat} (ho:o.op = .extract x i) (hx:opd' φ x=some x')
  (h:Aw φ w0 A nt m S a w) (hm:Be (fun x=>Af true (S.val x)) (PU.ext x' i).opds) (hp:pu S (Ca S) (.ext x' i)=some (ψ,v)) (_hψ:ψ):Kw φ m P a w o v:=by
 have h1:RT φ m w (Ca S x') (a.eval x):=opd'_ok hx h hm.1 rfl
 simp only [pu] at hp
 split at hp
 ·rename_i vs e1
  rw [e1] at h1
  obtain ⟨arr,e2,e3,e4⟩:=rX h1
  split at hp
  ·rename_i u hu
   cases hp
   have hlt:i<arr.length:=by rw [e3]; exact (List.getElem?_eq_some_iff.1 hu).1
   have g2:arr[i]? = some arr[i]:=List.getElem?_eq_getElem hlt
   exact ⟨arr[i],by simp [execOp,ho,e2,Instr.extract,hlt],Fx (e4 i _ _ hu g2)⟩
  ·cases hp
 ·cases hp
theorem fB {x:Operand} {x':Ay} (ho:o.op = .nilCheck x) (hx:opd' φ x=some x')
  (h:Aw φ w0 A nt m S a w) (hm:Be (fun x=>Af true (S.val x)) (PU.nilc x').opds) (hp:pu S (Ca S) (.nilc x')=some (ψ,v)) (_hψ:ψ):Kw φ m P a w o v:=by
 have h1:RT φ m w (Ca S x') (a.eval x):=opd'_ok hx h hm.1 rfl
 have run:∀ {ad:Addr},a.eval x = .pointer (some ad)→(execOp a.eval o).run P w = .ok (.value (.pointer (some ad))) w:=by
  intro ad e
  simp [execOp,ho,e]
 simp only [pu] at hp
 split at hp
 ·rename_i t k e1
  cases hp
  rw [e1] at h1
  obtain ⟨b,hb,e2⟩:=Nh h1
  exact ⟨_,run e2,by rw [←e2]; exact h1⟩
 ·rename_i cs e1
  cases hp
  rw [e1] at h1
  obtain ⟨b,of,e2,_⟩:=(Ox h1).icell
  exact ⟨_,run e2,by rw [←e2]; exact h1⟩
 ·rename_i t s j k e1
  cases hp
  rw [e1] at h1
  obtain ⟨b,hb,e2⟩:=Md h1
  exact ⟨_,run e2,by rw [←e2]; exact h1⟩
 ·cases hp
end Go.Ev
