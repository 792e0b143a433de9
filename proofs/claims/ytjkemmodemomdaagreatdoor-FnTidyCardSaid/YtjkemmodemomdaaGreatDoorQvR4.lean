/- Function values; bytes as text; all pure operations together. -/
import Derived.Test.YtjkemmodemomdaaGreatDoorQvR6
import Derived.Test.YtjkemmodemomdaaGreatDoorQvR5
set_option linter.all false
namespace Go.Ev
open Go.RowKit
variable {φ:Bz} {m m':M} {w w' w0:World} {A:Fr} {nt:Nat} {S S':St} {a:Act} {P:Program}
variable {o:Oper} {ψ:Prop} {v:V}
theorem Ny:∀ {cs:List V},Lq cs=true→∀c∈cs,∀val,RT φ m w c val→RQ φ m w c val
 | c::r,h,d,hd,val,hr=>by
  cases hd with
  | tail _ hd=>
   have h':Lq r=true:=by cases c<;>simp_all [Lq]
   exact Ny h' d hd val hr
  | head=>cases c<;>first | exact hr.1 | simp [Lq] at h
theorem uE {fid f:Nat} {caps:Array Operand} {xs:List Ay} (ho:o.op = .makeFunc (.func fid) #[] caps) (hf:look φ fid=some f) (hx:opds (opd' φ) caps.toList=some xs)
  (h:Aw φ w0 A nt m S a w) (hm:Be (fun x=>Af true (S.val x)) (PU.fn f xs).opds) (hp:pu S (Ca S) (.fn f xs)=some (ψ,v)) (hψ:ψ):Kw φ m P a w o v:=by
 simp only [pu,Option.some.injEq,Prod.mk.injEq] at hp
 obtain ⟨rfl,rfl⟩:=hp
 obtain ⟨hlen,hargs⟩:=Yq hx h hm
 refine ⟨.func (.func fid) #[] (caps.toList.map a.eval).toArray,?_,⟨fid,caps.toList.map a.eval,hf,rfl,by simpa using hlen,fun i c x h1 h2=>?_⟩,fun _=>rfl⟩
 ·have e:(caps.toList.map a.eval).toArray=caps.map a.eval:=by apply Array.ext'; simp
  rw [e]
  simp [execOp,ho,Instr.makeFunc]
 ·have hmem:=List.mem_of_getElem? h1
  simp only [List.getElem?_map,Option.map_eq_some_iff] at h1 h2
  obtain ⟨y,h1,rfl⟩:=h1
  obtain ⟨z,h2,rfl⟩:=h2
  exact Ny hψ _ hmem _ (hargs i z y h2 h1)
theorem Dj (s:List UInt8) (j:Nat):(Ha s)[j]? = (s[j]?).map fun b=>[V.int .u8 (b.toNat:Int)]:=by simp [Ha]
theorem Ig {ad:Addr} {s:List UInt8} (h:∀(j:Nat) (b:UInt8),s[j]? = some b→w.cell? (ad.add j)=some (.int .u8 (b.toNat:Int))):
  (Conv.bytesToString (.slice (some ad) s.length 0)).run P w = .ok (.string ⟨s.toArray⟩) w:=by
 have hl:(loadCells ad s.length).run P w = .ok ((s.map fun b=>(b.toNat:Int)).map (Value.int .u8)).toArray w:=by
  have:=run_loadCells_list (P:=P) w ad ((s.map fun b=>(b.toNat:Int)).map (Value.int .u8)) (fun j v hj=>by
   simp only [List.getElem?_map,Option.map_eq_some_iff] at hj
   obtain ⟨n,⟨b,hb,rfl⟩,rfl⟩:=hj
   exact h j b hb)
  simpa using this
 rw [run_bytesToString w ad s.length 0 _ hl,foldl_push_byteCells]
 congr 3
 simp [ByteArray.empty,ByteArray.emptyWithCapacity]
 rfl
theorem Oz (ad:Option Addr) (l c c':Nat):Conv.bytesToString (.slice ad l c)=Conv.bytesToString (.slice ad l c'):=by cases ad<;>rfl
theorem aQ {s d e:TypeId} {x:Operand} {x':Ay} (ho:o.op = .convert s d x) (hx:opd' φ x=some x')
  (hs:P.underlying s=some (.slice e)) (he:P.underlying e=some (.int .u8)) (hd:P.underlying d=some .string)
  (h:Aw φ w0 A nt m S a w) (hm:Be (fun x=>Af true (S.val x)) (PU.toStr x').opds) (hp:pu S (Ca S) (.toStr x')=some (ψ,v)) (hψ:ψ):Kw φ m P a w o v:=by
 have h1:RT φ m w (Ca S x') (a.eval x):=opd'_ok hx h hm.1 rfl
 have run:∀ {ad:Option Addr} {l c:Nat} {q:List UInt8},a.eval x = .slice ad l c→(Conv.bytesToString (.slice ad l c)).run P w = .ok (.string ⟨q.toArray⟩) w →
   (execOp a.eval o).run P w = .ok (.value (.string ⟨q.toArray⟩)) w:=by
  intro ad l c q e1 e2
  simp [execOp,ho,e1,convert,run_underlying hs,run_underlying hd,run_underlying he,e2]
 simp only [pu] at hp
 split at hp
 ·rename_i sz es e1
  cases hp
  obtain ⟨rfl,hes⟩:=hψ
  rw [e1] at h1
  generalize Vt es=q at *
  subst hes
  have hlen:(Ha q).length=q.length:=by simp [Ha]
  by_cases hn:0<q.length
  ·obtain ⟨b,of,cap,vs,e2,hb,hav,hcap,hsz,hc,hr⟩:=(If h1).lst_cons (by decide) (by rw [hlen]; exact hn)
   rw [hlen] at e2
   refine ⟨_,run e2 ?_,Ey _⟩
   rw [Oz _ _ _ 0]
   refine Ig fun j y hj=>?_
   have g1:(Ha q)[j]? = some [V.int .u8 (y.toNat:Int)]:=by rw [Dj,hj]; rfl
   have g2:=hc j _ 0 _ g1 rfl
   have g3:=hr j _ 0 _ g1 rfl
   generalize vs j 0=u at *
   cases g3
   rw [Ch]
   simpa using g2
  ·have:q=[]:=List.eq_nil_of_length_eq_zero (by omega)
   subst this
   obtain ⟨ad,cap,e2,_,_⟩:=(If h1).slice (by decide)
   refine ⟨_,run e2 ?_,Ey _⟩
   cases ad with
   | none=>rfl
   | some ad=>
    rw [Oz _ _ _ 0]
    exact Ig (s:=[]) (by simp)
 ·rename_i tag off sz es e1
  cases hp
  obtain ⟨rfl,hes⟩:=hψ
  rw [e1] at h1
  generalize Vt es=q at *
  subst hes
  have hlen:(Ha q).length=q.length:=by simp [Ha]
  rcases Dd h1 with ⟨z1,z2,z3⟩ | ⟨z1,z2,a',c',z3⟩ | ⟨b,cap,cur,E,z1,z2,z3,z4,z5,z6,z7,z8,z9⟩ | ⟨_,_,_,_,_,z2,_⟩
  rotate_right
  ·cases z2
  ·have:q=[]:=by simpa [Ha] using z2
   subst this
   exact ⟨_,run z3 rfl,Ey _⟩
  ·have:q=[]:=by simpa [Ha] using z2
   subst this
   refine ⟨_,run z3 ?_,Ey _⟩
   rw [Oz _ _ _ 0]
   exact Ig (s:=[]) (by simp)
  ·rw [hlen] at z2
   refine ⟨_,run z2 ?_,Ey _⟩
   rw [Oz _ _ _ 0]
   refine Ig fun j y hj=>?_
   have g1:(Ha q)[j]? = some [V.int .u8 (y.toNat:Int)]:=by rw [Dj,hj]; rfl
   obtain ⟨u,g2,g3,⟨g4,_⟩ | ⟨_,_,_,g4,_⟩⟩:=z9 j _ 0 _ g1 rfl
   rotate_left
   ·cases g4
   cases g4
   rw [Ch,cell_of_row w b _ cur E _ z3]
   simpa [Nat.add_mul] using g2
 ·cases hp
theorem dP {u:PU} (hc:Hv P φ o=some (.p u)) (h:Aw φ w0 A nt m S a w) (hm:Be (fun x=>Af true (S.val x)) u.opds)
  (hp:pu S (Ca S) u=some (ψ,v)) (hψ:ψ):Kw φ m P a w o v:=by
 have mvok:∀ {x:Operand},(o.op = .move x∨o.op = .assign x)→(match x with
   | .const (.slice none 0 0)=>match Gz P o.type with
    | some (sz,_)=>some (.nilS sz)
    | none=>none
   | x=>match opd' φ x with
    | some y=>some (.p (.mv y))
    | none=>none)=some (Sw.p u)→Kw φ m P a w o v:=by
  intro x ho hc
  split at hc
  ·split at hc<;>cases hc
  ·split at hc
   ·rename_i y hy
    cases hc
    simp only [pu,Option.some.injEq,Prod.mk.injEq] at hp
    obtain ⟨rfl,rfl⟩:=hp
    exact uF ho hy h hm.1
   ·cases hc
 cases hop:o.op<;>simp only [Hv,hop] at hc
 case move x=>exact mvok (.inl hop) hc
 case assign x=>exact mvok (.inr hop) hc
 case pick=>split at hc<;>cases hc
 case alloc=>split at hc<;>cases hc
 case box=>split at hc<;>cases hc
 case build t parts=>
  split at hc
  ·rename_i fs z ht hz
   split at hc
   ·rename_i pl hpl
    split at hc
    ·rename_i ps hps
     cases hc
     exact aN hop ht hz hpl hps h hm hp hψ
    ·cases hc
   ·cases hc
  ·cases hc
 case buildSlice=>
  split at hc
  ·split at hc
   ·split at hc<;>cases hc
   ·cases hc
  ·cases hc
 case load t x=>
  split at hc
  ·rename_i y i ag hy hi hag
   split at hc
   ·cases hc
   ·rename_i h0
    cases hc
    exact eZ hop hy hi hag h0 h hm hp hψ
  ·cases hc
 case store=>split at hc<;>cases hc
 case nilCheck x=>
  split at hc
  ·rename_i y hy
   cases hc
   exact fB hop hy h hm hp hψ
  ·cases hc
 case makeMap t r=>
  cases r with
  | none=>simp only at hc; split at hc<;>cases hc
  | some r=>cases hc
 case mapUpdate t x k v=>
  split at hc
  ·split at hc<;>cases hc
  ·cases hc
 case lookup t x ix ok=>
  cases ok with
  | true=>cases hc
  | false=>
   simp only at hc
   split at hc
   ·rename_i x' ix' hx hix
    split at hc
    ·rename_i ht
     cases hc
     exact fA hop hx hix ht h hm hp hψ
    ·cases hc
   ·cases hc
 case binOp op t x y yt=>
  split at hc
  ·rename_i x' y' hx hy
   split at hc
   ·cases hc; exact Yw hop hx hy h hm hp hψ
   ·cases hc; exact Yw hop hx hy h hm hp hψ
   ·rename_i hb
    cases hc; exact eV hop hx hy hb h hm hp hψ
   ·split at hc
    ·split at hc<;>cases hc
    ·cases hc
   ·split at hc
    ·split at hc
     ·rename_i ks hks
      cases hc; exact Yx hop rfl hks hx hy h hm hp
     ·cases hc
    ·split at hc
     ·rename_i ks hks
      cases hc; exact Yx hop rfl hks hx hy h hm hp
     ·cases hc
    ·cases hc
   ·cases hc
  ·cases hc
 case unOp op t x=>
  split at hc
  ·rename_i y hy
   cases hc
   exact uG hop hy h hm hp hψ
  ·cases hc
 case convert s d x=>
  split at hc
  ·rename_i y k' k hx hs hd
   cases hc
   exact eW hop hx hs hd h hm hp hψ
  ·rename_i y k hx hs hd
   cases hc
   exact pR hop hx hs hd h hm hp hψ
  ·rename_i y hx hs hd
   cases hc
   exact fD hop hx hs hd h hm hp hψ
  ·split at hc<;>cases hc
  ·rename_i y e hx hs hd
   split at hc
   ·rename_i he
    cases hc
    exact aQ hop hx hs he hd h hm hp hψ
   ·cases hc
  ·cases hc
 case makeFunc fn first caps=>
  split at hc
  ·rename_i fid
   split at hc
   ·rename_i hf
    have hf':first = #[]:=by simpa using hf
    subst hf'
    split at hc
    ·rename_i g xs hg hxs
     cases hc
     exact uE hop hg hxs h hm hp hψ
    ·cases hc
   ·cases hc
  ·cases hc
 case makeSlice=>
  split at hc
  ·split at hc
   ·split at hc<;>cases hc
   ·cases hc
  ·cases hc
 case slice t x lo hi mx=>
  split at hc
  ·split at hc
   ·rename_i x' lo' hi' hx hlo hhi
    split at hc
    ·rename_i ht
     cases hc
     exact Ud hop hx hlo hhi ht h hm hp hψ
    ·rename_i e ht
     split at hc
     ·rename_i i hi0
      split at hc
      ·cases hc
      ·rename_i hz0
       cases hc
       exact aP hop hx hlo hhi ht hi0 hz0 h hm hp hψ
     ·cases hc
    ·cases hc
   ·cases hc
  ·split at hc
   ·split at hc
    ·split at hc
     ·split at hc<;>cases hc
     ·cases hc
    ·cases hc
   ·cases hc
 case fieldAddr t x fi=>
  split at hc
  ·rename_i fs y ht hy
   split at hc
   ·rename_i f hf
    split at hc
    ·rename_i i hi
     split at hc
     ·cases hc
     ·rename_i h0
      cases hc
      exact Xg hop hy ht hf hi h0 h hm hp hψ
    ·cases hc
   ·cases hc
  ·cases hc
 case field t x fi=>
  split at hc
  ·rename_i fs y ht hy
   split at hc
   ·rename_i f hf
    split at hc
    ·rename_i i ag hi hag
     split at hc
     ·cases hc
     ·rename_i h0
      cases hc
      exact aO hop hy ht hf hi hag h0 h hm hp hψ
    ·cases hc
   ·cases hc
  ·cases hc
 case indexAddr t x ix=>
  split at hc
  ·rename_i x' i' hx hix
   split at hc
   ·rename_i e ht
    split at hc
    ·rename_i inf hi
     split at hc
     ·cases hc
     ·rename_i hz0
      cases hc
      exact eX hop hx hix ht hi hz0 h hm hp hψ
    ·cases hc
   ·rename_i n e ht
    split at hc
    ·rename_i inf hi
     split at hc
     ·cases hc
     ·cases hc
      exact Xh hop hx hix ht hi h hm hp hψ
    ·cases hc
   ·cases hc
  ·cases hc
 case index t x ix=>
  split at hc
  ·rename_i x' i' hx hix
   split at hc
   ·rename_i ht
    cases hc
    exact Xi hop hx hix ht h hm hp hψ
   ·cases hc
  ·cases hc
 case extract x i=>
  split at hc
  ·rename_i y hy
   cases hc
   exact pS hop hy h hm hp hψ
  ·cases hc
 case call c=>
  unfold Uk at hc
  split at hc
  ·rename_i f hcal
   split at hc
   ·cases hc
   ·rename_i x y hlk hxs
    split at hc
    ·rename_i fn hfn
     split at hc
     ·rename_i hfb
      cases hc
      exact aR hop hcal hxs hfn hfb h hm hp hψ
     ·split at hc
      ·rename_i hfb
       cases hc
       exact pV hop hcal hxs hfn hfb h hm hp hψ
      ·split at hc
       ·rename_i hfb
        cases hc
        exact fC hop hcal hxs hfn hfb h hm hp hψ
       ·cases hc
    ·cases hc
   ·cases hc
  ·split at hc<;>cases hc
  ·rename_i hcal
   split at hc
   ·rename_i t x ht hx
    split at hc
    ·rename_i e y hu hy
     cases hc
     exact pU hop hcal ht hx hy hu h hm hp hψ
    ·rename_i y hu hy
     cases hc
     exact eY hop hcal ht hx hy hu h hm hp hψ
    ·cases hc
   ·cases hc
  ·split at hc
   ·split at hc<;>cases hc
   ·cases hc
  ·rename_i hcal
   split at hc
   ·rename_i x y hxy
    cases hc
    exact Vx hop hcal hxy h hm (.inl ⟨rfl,hp⟩) hψ
   ·cases hc
  ·rename_i hcal
   split at hc
   ·rename_i x y hxy
    cases hc
    exact Vx hop hcal hxy h hm (.inr ⟨rfl,hp⟩) hψ
   ·cases hc
  ·split at hc
   ·split at hc
    ·split at hc
     ·split at hc<;>cases hc
     ·split at hc<;>cases hc
     ·split at hc
      ·split at hc<;>cases hc
      ·cases hc
     ·cases hc
    ·cases hc
   ·cases hc
  ·split at hc
   ·split at hc
    ·split at hc<;>cases hc
    ·cases hc
   ·cases hc
  ·split at hc
   ·split at hc
    ·split at hc
     ·split at hc<;>cases hc
     ·cases hc
    ·cases hc
   ·cases hc
  ·cases hc
 all_goals cases hc
end Go.Ev
