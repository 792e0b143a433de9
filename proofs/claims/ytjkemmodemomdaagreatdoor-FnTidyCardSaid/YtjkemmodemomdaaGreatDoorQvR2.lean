/- Yet more pure operations. -/
import Derived.Test.YtjkemmodemomdaaGreatDoorQvR
set_option linter.all false
namespace Go.Ev
open Go.RowKit
variable {φ:Bz} {m m':M} {w w' w0:World} {A:Fr} {nt:Nat} {S S':St} {a:Act} {P:Program}
variable {o:Oper} {ψ:Prop} {v:V}
theorem Yp {x:Option Operand} {y:Option Ay} (hx:Kc φ x=some y) (h:Aw φ w0 A nt m S a w) (hm:Be (fun x=>Af true (S.val x)) y.toList)
  {r:Option Int} (hr:Fz (y.map (Ca S))=some r):(x=none∧r=none)∨∃x' k n,x=some x'∧r=some n∧a.eval x' = .int k n:=by
 cases x with
 | none=>
  simp only [Kc,Option.some.injEq] at hx
  subst hx
  simp only [Option.map_none,Fz,Option.some.injEq] at hr
  exact .inl ⟨rfl,hr.symm⟩
 | some x=>
  simp only [Kc] at hx
  split at hx
  ·rename_i z hz
   cases hx
   have h1:RT φ m w (Ca S z) (a.eval x):=opd'_ok hz h hm.1 rfl
   simp only [Option.map_some] at hr
   generalize Ca S z=u at *
   cases u<;>simp only [Fz,reduceCtorEq,Option.some.injEq] at hr
   subst hr
   exact .inr ⟨x,_,_,rfl,rfl,Ce h1⟩
  ·cases hx
theorem Fn {k:IntKind} {n:Int} {y:Nat} {code:BoundsCode} (h0:0≤n) (h1:n≤y):(Instr.sliceBound (.int k n) y code).run P w = .ok n.toNat w:=by
 simp [Instr.sliceBound,asIntOf,h0,h1]
theorem Lo {isS:Bool} {len cap:Nat} {lo hi:Option Operand} {l h:Option Int} {x' y':Option Ay} (hlo:Kc φ lo=some x') (hhi:Kc φ hi=some y')
  (hR:Aw φ w0 A nt m S a w) (hm1:Be (fun x=>Af true (S.val x)) x'.toList) (hm2:Be (fun x=>Af true (S.val x)) y'.toList)
  (hl:Fz (x'.map (Ca S))=some l) (hh:Fz (y'.map (Ca S))=some h)
  (g0:0≤l.getD 0) (g1:l.getD 0≤h.getD len) (g2:h.getD len≤cap) (hc:len≤cap):
  (Instr.sliceBounds isS len cap (lo.map a.eval) (hi.map a.eval) none).run P w = .ok ((l.getD 0).toNat,(h.getD len).toNat,cap) w:=by
 rcases Yp hlo hR hm1 hl with ⟨rfl,rfl⟩ | ⟨lx,k1,n1,rfl,rfl,e1⟩<;>rcases Yp hhi hR hm2 hh with ⟨rfl,rfl⟩ | ⟨hx,k2,n2,rfl,rfl,e2⟩
 ·simp [Instr.sliceBounds]
 ·simp only [Option.getD_some,Option.getD_none] at g0 g1 g2 ⊢
  simp only [Instr.sliceBounds,Option.map_none,Option.map_some,e2,Sem.run_bind,Sem.run_pure,Result.andThen_ok,Fn (P:=P) (w:=w) (k:=k2) g1 (show n2≤(cap:Int) by omega)]
  rfl
 ·simp only [Option.getD_some,Option.getD_none] at g0 g1 g2 ⊢
  simp only [Instr.sliceBounds,Option.map_none,Option.map_some,e1,Sem.run_bind,Sem.run_pure,Result.andThen_ok,Fn (P:=P) (w:=w) (k:=k1) g0 g1]
  simp
 ·simp only [Option.getD_some] at g0 g1 g2 ⊢
  simp only [Instr.sliceBounds,Option.map_some,e1,e2,Sem.run_bind,Sem.run_pure,Result.andThen_ok,Fn (P:=P) (w:=w) (k:=k2) (show 0≤n2 by omega) (show n2≤(cap:Int) by omega)]
  rw [Fn (P:=P) (w:=w) (k:=k1) g0 (show n1≤(n2.toNat:Int) by omega)]
  rfl
theorem Fy {α:Type} {p:α→Prop}:∀ {l r:List α},Be p (l++r)→Be p l∧Be p r
 | [],_,h=>⟨trivial,h⟩
 | _::_,_,h=>⟨⟨h.1,(Fy h.2).1⟩,(Fy h.2).2⟩
theorem Ud {t:TypeId} {x:Operand} {lo hi:Option Operand} {x':Ay} {lo' hi':Option Ay} (ho:o.op = .slice t x lo hi none) (hx:opd' φ x=some x')
  (hlo:Kc φ lo=some lo') (hhi:Kc φ hi=some hi') (ht:P.underlying t=some .string)
  (h:Aw φ w0 A nt m S a w) (hm:Be (fun x=>Af true (S.val x)) (PU.sliceStr x' lo' hi').opds) (hp:pu S (Ca S) (.sliceStr x' lo' hi')=some (ψ,v)) (hψ:ψ):Kw φ m P a w o v:=by
 have h1:RT φ m w (Ca S x') (a.eval x):=opd'_ok hx h hm.1 rfl
 obtain ⟨hm1,hm2⟩:=Fy hm.2
 simp only [pu] at hp
 split at hp
 ·rename_i s l hh e1 e2 e3
  cases hp
  rw [e1] at h1
  have e:(⟨s.toArray⟩:ByteArray).size=s.length:=by simp [ByteArray.size]
  have hb:=Lo (P:=P) (isS:=false) (len:=s.length) (cap:=s.length) hlo hhi h hm1 hm2 e2 e3 hψ.1 hψ.2.1 hψ.2.2 (Nat.le_refl _)
  refine ⟨.string ((⟨s.toArray⟩:ByteArray).extract (l.getD 0).toNat (hh.getD s.length).toNat),?_,?_⟩
  ·simp only [execOp,ho,Instr.sliceAt,Ez h1,Sem.run_bind,run_underlying ht,Result.andThen_ok,Instr.slice,Option.map_none,Option.isSome_none,Bool.false_eq_true,if_false,Sem.run_pure,e,hb]
  ·have e4:(⟨s.toArray⟩:ByteArray).extract (l.getD 0).toNat (hh.getD s.length).toNat=⟨(((s.take (hh.getD s.length).toNat).drop (l.getD 0).toNat)).toArray⟩:=by
    apply ByteArray.ext
    simp [ByteArray.data_extract]
    rw [List.drop_take]
   rw [e4]
   exact Ey _
 ·cases hp
theorem opd'_t {x:Operand} {n:Nat} (hx:opd' φ x=some (.t n)):a.eval x=a.tmps.getD n undef:=by
 unfold opd' at hx
 split at hx<;>first | (cases hx; rfl) | cases hx | skip
 split at hx<;>cases hx
theorem aH {t e:TypeId} {x:Operand} {lo hi:Option Operand} {lo' hi':Option Ay} {i:TypeInfo} (ho:o.op = .slice t x lo hi none)
  (hlo:Kc φ lo=some lo') (hhi:Kc φ hi=some hi') (ht:P.underlying t=some (.slice e)) (hi0:P.info? e=some i)
  (h:Aw φ w0 A nt m S a w) (hm1:Be (fun x=>Af true (S.val x)) lo'.toList) (hm2:Be (fun x=>Af true (S.val x)) hi'.toList)
  {ad:Option Addr} {n cap:Nat} {l hh:Option Int} (g1:a.eval x = .slice ad n cap) (g2:n≤cap) (g3:Fz (lo'.map (Ca S))=some l) (g4:Fz (hi'.map (Ca S))=some hh)
  (g5:0≤l.getD 0) (g6:l.getD 0≤hh.getD n) (g7:hh.getD n≤cap):
   (execOp a.eval o).run P w = .ok (.value (.slice (if cap=(l.getD 0).toNat then ad else ad.map (·.add ((l.getD 0).toNat*i.size))) ((hh.getD n).toNat-(l.getD 0).toNat) (cap-(l.getD 0).toNat))) w:=by
 have hb:=Lo (P:=P) (isS:=true) (len:=n) (cap:=cap) hlo hhi h hm1 hm2 g3 g4 g5 g6 g7 g2
 simp only [execOp,ho,Instr.sliceAt,g1,Sem.run_bind,run_underlying ht,Result.andThen_ok,Instr.slice,Option.map_none,hb,Dg hi0,Sem.run_pure]
theorem aG {t e:TypeId} {x:Operand} {lo hi:Option Operand} {x':Ay} {lo' hi':Option Ay} {i:TypeInfo} (ho:o.op = .slice t x lo hi none) (hx:opd' φ x=some x')
  (hlo:Kc φ lo=some lo') (hhi:Kc φ hi=some hi') (ht:P.underlying t=some (.slice e)) (hi0:P.info? e=some i) (hz0:i.size≠0)
  (h:Aw φ w0 A nt m S a w) (hm:Be (fun x=>Af true (S.val x)) (PU.slice x' lo' hi' i.size).opds) (hp:pu S (Ca S) (.slice x' lo' hi' i.size)=some (ψ,v)) (hψ:ψ)
  {val:Value} {c:Int} (hr:(execOp a.eval o).run P w = .ok (.value val) w) (hc:Jm S (Ca S) (.slice x' lo' hi' i.size)=some c):Nv val c:=by
 have h1:RT φ m w (Ca S x') (a.eval x):=opd'_ok hx h hm.1 rfl
 obtain ⟨hm1,hm2⟩:=Fy hm.2
 simp only [Jm,Fv] at hc
 split at hc
 case h_2=>cases hc
 rename_i c0 e4
 split at hc
 ·rename_i tag off s es l e1 e2
  obtain rfl:=Option.some.inj hc
  simp only [pu,e1,e2] at hp
  cases hh0:Fz (hi'.map (Ca S)) with
  | none=>simp [hh0] at hp
  | some hh=>
   simp only [hh0,Option.some.injEq,Prod.mk.injEq] at hp
   obtain ⟨rfl,_⟩:=hp
   obtain ⟨rfl,q1,q2,q3⟩:=hψ
   rw [e1] at h1
   obtain ⟨ad,cap,g2,g3,g4⟩:=(Dd h1).slice hz0
   cases x' with
   | c v=>cases e4
   | t n=>
    obtain ⟨p,len,cap',z1,z2,z3,z4⟩:=h.cp n c0 e4
    have:a.eval x=a.tmps.getD n undef:=by
     unfold opd' at hx
     split at hx<;>first | (cases hx; rfl) | cases hx | skip
     split at hx<;>cases hx
    rw [←this,g2] at z1
    cases z1
    have hreach:hh.getD es.length≤cap:=by
     rcases q3 with q3 | ⟨q4,q5,c,q6,q7⟩
     ·omega
     ·rw [show S.capOf (.t n)=Ii S.cp (.t n) from rfl] at q6
      rw [e4] at q6; cases q6; omega
    rw [aH ho hlo hhi ht hi0 h hm1 hm2 g2 g3 e2 hh0 q1 q2 hreach] at hr
    cases hr
    have hlc:Ky (c0-l.getD 0)≤((cap-(l.getD 0).toNat:Nat):Int)∧(0<Ky (c0-l.getD 0)→0<Ky c0)∧(Fj≤c0-l.getD 0→((cap-(l.getD 0).toNat:Nat):Int)=c0-l.getD 0-Fj):=by
     simp only [Ky,Fj] at z2 z4 ⊢
     refine ⟨?_,?_,fun hx=>?_⟩
     ·split at z2<;>split<;>omega
     ·split<;>split<;>omega
     ·have:=z4 (by omega)
      omega
    refine ⟨_,_,_,rfl,hlc.1,fun hpos=>?_,hlc.2.2⟩
    have:=z3 (hlc.2.1 hpos)
    cases ad with
    | none=>exact absurd rfl this
    | some ad=>split<;>simp
 ·cases hc
theorem aP {t e:TypeId} {x:Operand} {lo hi:Option Operand} {x':Ay} {lo' hi':Option Ay} {i:TypeInfo} (ho:o.op = .slice t x lo hi none) (hx:opd' φ x=some x')
  (hlo:Kc φ lo=some lo') (hhi:Kc φ hi=some hi') (ht:P.underlying t=some (.slice e)) (hi0:P.info? e=some i) (hz0:i.size≠0)
  (h:Aw φ w0 A nt m S a w) (hm:Be (fun x=>Af true (S.val x)) (PU.slice x' lo' hi' i.size).opds) (hp:pu S (Ca S) (.slice x' lo' hi' i.size)=some (ψ,v)) (hψ:ψ):Kw φ m P a w o v:=by
 have h1:RT φ m w (Ca S x') (a.eval x):=opd'_ok hx h hm.1 rfl
 obtain ⟨hm1,hm2⟩:=Fy hm.2
 have run:∀ {ad:Option Addr} {n cap:Nat} {l hh:Option Int},a.eval x = .slice ad n cap→n≤cap→Fz (lo'.map (Ca S))=some l→Fz (hi'.map (Ca S))=some hh →
   0≤l.getD 0→l.getD 0≤hh.getD n→hh.getD n≤cap →
   (execOp a.eval o).run P w = .ok (.value (.slice (if cap=(l.getD 0).toNat then ad else ad.map (·.add ((l.getD 0).toNat*i.size))) ((hh.getD n).toNat-(l.getD 0).toNat) (cap-(l.getD 0).toNat))) w:=by
  intro ad n cap l hh g1 g2 g3 g4 g5 g6 g7
  have hb:=Lo (P:=P) (isS:=true) (len:=n) (cap:=cap) hlo hhi h hm1 hm2 g3 g4 g5 g6 g7 g2
  simp only [execOp,ho,Instr.sliceAt,g1,Sem.run_bind,run_underlying ht,Result.andThen_ok,Instr.slice,Option.map_none,hb,Dg hi0,Sem.run_pure]
 simp only [pu] at hp
 split at hp
 ·rename_i s es l hh e1 e2 e3
  cases hp
  obtain ⟨rfl,q1,q2,q3⟩:=hψ
  rw [e1] at h1
  obtain ⟨ad,cap,g2,g3,g4⟩:=(If h1).slice hz0
  refine ⟨_,run g2 g3 e2 e3 q1 q2 (by omega),?_,fun _=>rfl⟩
  generalize hl:(l.getD 0).toNat=L at *
  generalize hH:(hh.getD es.length).toNat=H at *
  have b1:L≤H:=by omega
  have b2:H≤es.length:=by omega
  have hlen:H-L=((es.take H).drop L).length:=by simp; omega
  rw [hlen]
  by_cases hz:((es.take H).drop L).length=0
  ·rw [hz,List.eq_nil_of_length_eq_zero hz]
   cases ad with
   | none=>
    obtain ⟨z1,z2⟩:=g4 rfl
    have:L=0:=by omega
    subst z2; subst this
    show RD φ w m.avoid _ _
    simpa using RD.nil (φ:=φ) (w:=w) (av:=m.avoid) i.size
   | some ad=>
    have:(if cap=L then some ad else (some ad).map (·.add (L*i.size)))=some (if cap=L then ad else ad.add (L*i.size)):=by split<;>rfl
    rw [this]
    exact RD.emp _ _ _
  ·have hL:L<H:=by simp at hz; omega
   obtain ⟨b,of,cap',vs,z1,hb,hav,hcap,hsz,hc,hr⟩:=(If h1).lst_cons hz0 (by omega)
   rw [g2] at z1
   simp only [Value.slice.injEq,true_and] at z1
   obtain ⟨rfl,rfl⟩:=z1
   have hne:¬cap=L:=by omega
   simp only [hne,if_false,Option.map_some,Ch]
   have hget:∀j,((es.take H).drop L)[j]? = if L+j<H then es[L+j]? else none:=fun j=>by
    rw [List.getElem?_drop,List.getElem?_take]
   refine RD.lst _ _ b (of+L*i.size) (cap-L) (fun j k=>vs (L+j) k) hb hav (by omega) (fun j e hj=>?_) (fun j e k c hj hk=>?_) (fun j e k c hj hk=>?_)
   ·rw [hget] at hj
    split at hj
    ·exact hsz _ _ hj
    ·cases hj
   ·rw [hget] at hj
    split at hj
    ·have:=hc _ _ k c hj hk
     rwa [show of+L*i.size+j*i.size+k=of+(L+j)*i.size+k by rw [Nat.add_mul]; omega]
    ·cases hj
   ·rw [hget] at hj
    split at hj
    ·exact hr _ _ k c hj hk
    ·cases hj
 ·rename_i tag off s es l hh e1 e2 e3
  cases hp
  obtain ⟨rfl,q1,q2,q3⟩:=hψ
  rw [e1] at h1
  obtain ⟨ad,cap,g2,g3,g4⟩:=(Dd h1).slice hz0
  have hreach:hh.getD es.length≤cap∧(es.length<(hh.getD es.length).toNat→off=0∧ad≠none):=by
   rcases q3 with q3 | ⟨q4,q5,c,q6,q7⟩
   ·exact ⟨by omega,fun h=>by omega⟩
   ·cases x' with
    | c v=>cases q6
    | t n=>
     obtain ⟨p,len,cap',z1,z2,z3,_⟩:=h.cp n c q6
     have:a.eval x=a.tmps.getD n undef:=opd'_t hx
     rw [←this,g2] at z1
     cases z1
     exact ⟨by omega,fun hlt=>⟨q4,z3 (by omega)⟩⟩
  refine ⟨_,run g2 g3 e2 e3 q1 q2 hreach.1,?_,fun _=>rfl⟩
  generalize hl:(l.getD 0).toNat=L at *
  have hnn:0≤hh.getD es.length:=by omega
  have hHc:(hh.getD es.length).toNat≤cap:=by omega
  have hq2:L≤(hh.getD es.length).toNat:=by omega
  generalize hH:(hh.getD es.length).toNat=H at *
  generalize hes:es++dU i.size (H-es.length)=es1
  have hes1:es1.length=max es.length H:=by rw [←hes]; simp [dU]; omega
  have b2:H≤es1.length:=by omega
  have hlen:H-L=((es1.take H).drop L).length:=by simp; omega
  rw [hlen]
  have hget:∀j,((es1.take H).drop L)[j]? = if L+j<H then es1[L+j]? else none:=fun j=>by
   rw [List.getElem?_drop,List.getElem?_take]
  rcases Dd h1 with ⟨z1,rfl,z2⟩ | ⟨z1,rfl,a',c',z2⟩ | ⟨b,cap',cur,E,z1,z2,z3,z4,z5,z6,z7,z8,z9⟩ | ⟨_,_,_,_,_,z2,_⟩
  rotate_right
  ·exact absurd z2 hz0
  ·rw [g2] at z2
   simp only [Value.slice.injEq,List.length_nil,true_and] at z2
   obtain ⟨rfl,rfl⟩:=z2
   have h0:H=0:=by omega
   have:L=0:=by omega
   subst this; subst h0
   exact .inl ⟨by omega,by simp,by simp⟩
  ·rw [g2] at z2
   simp only [Value.slice.injEq,List.length_nil,true_and] at z2
   obtain ⟨rfl,rfl⟩:=z2
   have h0:H=0:=by
    by_cases hh0:H=0
    ·exact hh0
    ·exact absurd (hreach.2 (by simp; omega)).1 z1
   have:L=0:=by omega
   subst this; subst h0
   refine .inr (.inl ⟨by omega,by simp,?_⟩)
   have:(if cap=0 then some a' else (some a').map (·.add (0*i.size)))=some (if cap=0 then a' else a'.add (0*i.size)):=by split<;>rfl
   rw [this]
   exact ⟨if cap=0 then a' else a'.add (0*i.size),cap,by simp⟩
  ·rw [g2] at z2
   simp only [Value.slice.injEq,true_and] at z2
   obtain ⟨rfl,rfl⟩:=z2
   by_cases hne:cap=L
   ·have hds:(es1.take H).drop L=[]:=List.eq_nil_of_length_eq_zero (by simp; omega)
    rw [hds]
    simp only [hne,if_true,List.length_nil,Nat.sub_self]
    by_cases h00:off+L=0
    ·have o1:off=0:=by omega
     have o2:L=0:=by omega
     subst o1; subst o2
     exact .inr (.inr (.inl ⟨b,0,cur,E,z1,by simp,z3,Nat.le_refl _,by rw [←z5,hne],by omega,z7,by simp,by simp⟩))
    ·exact .inr (.inl ⟨h00,rfl,_,_,rfl⟩)
   ·simp only [hne,if_false,Option.map_some,Ch]
    have hsz1:∀e∈es1,e.length=i.size:=by
     intro e he
     rw [←hes] at he
     rcases List.mem_append.1 he with he | he
     ·exact z8 e he
     ·simp only [dU] at he
      rw [List.eq_of_mem_replicate he]; simp
    refine .inr (.inr (.inl ⟨b,cap-L,cur,E,z1,by rw [Nat.add_mul],z3,by omega,by rw [←z5]; congr 1; omega,by omega,z7,fun e he=>hsz1 e (List.mem_of_mem_take (List.mem_of_mem_drop he)),fun j e k c hj hk=>?_⟩))
    rw [hget] at hj
    split at hj
    ·rename_i hjH
     rw [show off+L+j=off+(L+j) by omega]
     by_cases hin:L+j<es.length
     ·rw [←hes,List.getElem?_append_left hin] at hj
      exact z9 _ _ k c hj hk
     ·have hr:e=List.replicate i.size V.undef:=by
       rw [←hes,List.getElem?_append_right (by omega)] at hj
       exact List.eq_of_mem_replicate (List.mem_of_getElem? hj)
      have hk2:k<i.size:=by
       have:=(List.getElem?_eq_some_iff.1 hk).1
       rw [hr] at this; simpa using this
      have hc:c = .undef:=by
       rw [hr] at hk
       exact List.eq_of_mem_replicate (List.mem_of_getElem? hk)
      have hlt:(off+(L+j))*i.size+k<cur.size:=by
       rw [←z5]
       have h1:off+(L+j)+1≤off+cap:=by omega
       have h2:=Nat.mul_le_mul_right i.size h1
       rw [Nat.add_mul,Nat.one_mul] at h2
       omega
      refine ⟨_,Array.getElem?_eq_getElem hlt,z7.2 _ _ (Array.getElem?_eq_getElem hlt),?_⟩
      rw [hc]
      exact .sc (.undef _ (z7.2 _ _ (Array.getElem?_eq_getElem hlt))) rfl
    ·cases hj
 ·cases hp
end Go.Ev
