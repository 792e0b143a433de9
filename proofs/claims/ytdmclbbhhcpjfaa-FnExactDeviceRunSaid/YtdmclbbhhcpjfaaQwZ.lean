/- The plain part of the proof: what the functions compute answers as the law says. -/
import Derived.Test.YtdmclbbhhcpjfaaQvL
import Derived.Test.YtdmclbbhhcpjfaaQvM
import Derived.Test.YtdmclbbhhcpjfaaQgD
set_option linter.all false
section
namespace Go.Ev
noncomputable def tf (P:Prop):Bool:=@decide P (Classical.propDecidable P)
@[simp] theorem tf_iff {P:Prop}:tf P=true↔P:=by unfold tf; exact @decide_eq_true_iff P (Classical.propDecidable P)
@[simp] theorem tf_false {P:Prop}:tf P=false↔¬P:=by rw [←Bool.not_eq_true,tf_iff]
abbrev OW (n:Int):Prop := -9223372036854775808≤n∧n≤9223372036854775807
theorem wr {n:Int} (h:OW n):IntKind.i64.wrap n=n:=by
 obtain ⟨h1,h2⟩:=h
 have e:IntKind.i64.wrap n=if n%18446744073709551616≥9223372036854775808 then n%18446744073709551616-18446744073709551616 else n%18446744073709551616:=by
  simp [IntKind.wrap,IntKind.bits,IntKind.signed]
 rw [e]
 split<;>omega
theorem CO {α:Type} {l:List α} {k:Nat}:Eg l (k:Int)=l[k]? := by
 unfold Eg
 rw [if_pos (by omega)]
 simp
theorem Ch {α:Type} {l:List α} {k:Nat} (h:k<l.length):Eg l (k:Int)=some l[k]:=by
 rw [CO,List.getElem?_eq_getElem h]
section
variable {σ ρ:Type} {step:σ→Option (σ⊕ρ)}
theorem Yg (st:Nat→σ):∀n,(∀k,k<n→step (st k)=some (.inl (st (k+1))))→Br step (st 0)=Br step (st n)
 | 0,_=>rfl
 | n+1,h=>by
  rw [Yg st n fun k hk=>h k (by omega),Gz (h n (by omega))]
theorem Da (st:Nat→σ) (n:Nat) (r:ρ) (h:∀k,k<n→step (st k)=some (.inl (st (k+1)))) (he:step (st n)=some (.inr r)):Br step (st 0)=some r:=by
 rw [Yg st n h,Io he]
end
end Go.Ev
end
section
namespace Go.Ev
theorem bQ {σ ρ:Type} {step:σ→Option (σ⊕ρ)} (I:σ→Prop) (μ:σ→Nat) (R:ρ→Prop) (s0:σ) (h0:I s0)
  (h:∀s,I s→(∃s',step s=some (.inl s')∧I s'∧μ s'<μ s)∨(∃r,step s=some (.inr r)∧R r)):∃r,Br step s0=some r∧R r:=by
 have key:∀(n:Nat) (s0:σ),μ s0<n→I s0→∃r,Br step s0=some r∧R r:=by
  intro n
  induction n with
  | zero=>intro s0 hn; omega
  | succ n ih=>
   intro s0 hn hI
   rcases h s0 hI with ⟨s',h1,h2,h3⟩ | ⟨r,h1,h2⟩
   ·obtain ⟨r,h4,h5⟩:=ih s' (by omega) h2
    exact ⟨r,by rw [Gz h1,h4],h5⟩
   ·exact ⟨r,Io h1,h2⟩
 exact key (μ s0+1) s0 (by omega) h0
theorem w1 {k:Nat} (h:k<4611686018427387904):IntKind.i64.wrap ((k:Int)+1)=((k+1:Nat):Int):=wr ⟨by omega,by omega⟩
theorem DA {α:Type} (l:List α) (a b:Nat) (h:a≤b) (h2:b≤l.length):eD l (a:Int) (b:Int)=some ((l.take b).drop a):=by
 unfold eD
 rw [if_pos ⟨by omega,by omega,by omega⟩]
 simp
theorem Xd {α β:Type} (l:List β) (F:β→α) (z:α) {step:List α×Int→Option ((List α×Int)⊕List α)}
  (hs:∀k (hk:k<l.length) (p:List α),p.length=l.length→step (p,(k:Int))=some (.inl (p.set k (F l[k]),((k+1:Nat):Int)))) (he:∀p:List α,p.length=l.length→step (p,(l.length:Int))=some (.inr p)):
  Br step (List.replicate l.length z,0)=some (l.map F):=by
 have h:=Da (step:=step) (fun k=>((l.take k).map F++List.replicate (l.length-k) z,(k:Int))) l.length (l.map F) (fun k hk=>by
  rw [hs k hk _ (by simp; omega)]
  congr 3
  rw [List.set_append,if_neg (by simp; omega),List.take_succ_eq_append_getElem hk,List.map_append,List.append_assoc]
  congr 1
  have e:l.length-k=(l.length-(k+1))+1:=by omega
  have e2:k-((l.take k).map F).length=0:=by simp; omega
  rw [e,List.replicate_succ,e2]
  rfl) (by
  rw [he _ (by simp)]
  simp)
 simpa using h
theorem Iw {α:Type} (l:List α) {step:Int→Option (Int⊕(Unit⊕Bool))}
  (hs:∀k,k<l.length→step (k:Int)=some (.inl ((k+1:Nat):Int))) (he:step (l.length:Int)=some (.inr (.inl ()))):Br step 0=some (.inl ()):=
 Da (step:=step) (fun k=>(k:Int)) l.length (.inl ()) hs he
def Cq {α:Type} (mk:Int→α→α) (w:Nat) (l:List α) (a:Int):List α:=l.mapIdx fun i x=>mk (a+(w:Int)*(i:Int)) x
@[simp] theorem marked_len {α:Type} (mk:Int→α→α) (w:Nat) (l:List α) (a:Int):(Cq mk w l a).length=l.length:=by simp [Cq]
theorem Tp {α:Type} (mk:Int→α→α) (w:Nat) (l:List α) (a:Int) (k:Nat) (h:k<(Cq mk w l a).length):
  (Cq mk w l a)[k]=mk (a+(w:Int)*(k:Int)) (l[k]'(by simpa using h)):=by simp [Cq]
theorem Qd {α:Type} (mk:Int→α→α) (w:Nat) (l:List α) (a:Int) {step:List α×Int×Int→Option ((List α×Int×Int)⊕(List α×Int))}
  (hs:∀k (p:List α) (hp:p.length=l.length) (hk:k<l.length),step (p,a+(w:Int)*(k:Int),(k:Int))=some (.inl (p.set k (mk (a+(w:Int)*(k:Int)) (p[k]'(by omega))),a+(w:Int)*((k+1:Nat):Int),((k+1:Nat):Int))))
  (he:∀(p:List α) c,p.length=l.length→step (p,c,(l.length:Int))=some (.inr (p,c))):
  Br step (l,a,0)=some (Cq mk w l a,a+(w:Int)*(l.length:Int)):=by
 have h:=Da (step:=step) (fun k=>(l.mapIdx (fun i x=>if i<k then mk (a+(w:Int)*(i:Int)) x else x),a+(w:Int)*(k:Int),(k:Int))) l.length (Cq mk w l a,a+(w:Int)*(l.length:Int)) (fun k hk=>by
  rw [hs k _ (by simp) hk]
  congr 3
  apply List.ext_getElem
  ·simp
  ·intro j h1 h2
   simp only [List.length_set,List.length_mapIdx] at h1
   simp only [List.getElem_set,List.getElem_mapIdx]
   by_cases e:k=j
   ·subst e; simp
   ·rw [if_neg e]
    by_cases e2:j<k
    ·simp [e2,show j<k+1 by omega]
    ·simp [e2,show ¬j<k+1 by omega]) (by
  rw [he _ _ (by simp)]
  congr 3
  unfold Cq
  apply List.ext_getElem
  ·simp
  ·intro j h1 h2
   simp only [List.length_mapIdx] at h1
   simp [h1])
 simp only [Nat.not_lt_zero,if_false] at h
 have e0:l.mapIdx (fun (_:Nat) (x:α)=>x)=l:=by
  apply List.ext_getElem
  ·simp
  ·intro j h1 h2; simp
 have h':Br step (l.mapIdx (fun (_:Nat) (x:α)=>x),a+(w:Int)*((0:Nat):Int),((0:Nat):Int))=some (Cq mk w l a,a+(w:Int)*(l.length:Int)):=h
 rw [e0] at h'
 simpa using h'
end Go.Ev
end
section
namespace Go.Ev
def Gp {α:Type} (wd:α→Nat):List α→Nat
 | []=>0
 | x::r=>wd x+Gp wd r
def Fm {α:Type} (mk:Int→α→α) (wd:α→Nat):List α→Int→List α
 | [],_=>[]
 | x::r,a=>mk a x::Fm mk wd r (a+(wd x:Int))
@[simp] theorem markv_len {α:Type} (mk:Int→α→α) (wd:α→Nat):∀(l:List α) (a:Int),(Fm mk wd l a).length=l.length
 | [],_=>rfl
 | x::r,a=>by simp [Fm,markv_len mk wd r]
theorem Sg {α:Type} {wd:α→Nat} {B:Nat}:∀ {l:List α},(∀x∈l,wd x≤B)→Gp wd l≤B*l.length
 | [],_=>by simp [Gp]
 | x::r,h=>by
  have h1:=h x (by simp)
  have h2:=Sg (l:=r) (fun y hy=>h y (by simp [hy]))
  simp only [Gp,List.length_cons,Nat.mul_add,Nat.mul_one]
  omega
theorem Nf {α:Type} (mk:Int→α→α) (wd:α→Nat) (P:α→Prop) (B:Int) {step:List α×Int×Int→Option ((List α×Int×Int)⊕(List α×Int))}
  (hs:∀(k:Nat) (p:List α) (c:Int) (x:α),k<p.length→p.length≤1048576→p[k]? = some x→P x→0≤c→c+(wd x:Int)≤B→step (p,c,(k:Int))=some (.inl (p.set k (mk c x),c+(wd x:Int),((k+1:Nat):Int))))
  (he:∀(p:List α) c,step (p,c,(p.length:Int))=some (.inr (p,c))):
  ∀(rest pre:List α) (c:Int),pre.length+rest.length≤1048576→(∀x∈rest,P x)→0≤c→c+(Gp wd rest:Int)≤B →
   Br step (pre++rest,c,(pre.length:Int))=some (pre++Fm mk wd rest c,c+(Gp wd rest:Int))
 | [],pre,c,_,_,_,_=>by
  refine Io ?_
  have:=he pre c
  simpa [Fm,Gp] using this
 | x::r,pre,c,hl,hP,h0,hB=>by
  simp only [Gp] at hB ⊢
  have hx:(pre++x::r)[pre.length]? = some x:=by simp
  have h1:=hs pre.length (pre++x::r) c x (by simp) (by simpa using hl) hx (hP x (by simp)) h0 (by omega)
  rw [Gz h1]
  have e:(pre++x::r).set pre.length (mk c x)=(pre++[mk c x])++r:=by
   rw [List.set_append,if_neg (by omega),Nat.sub_self]; simp
  have ih:=Nf mk wd P B hs he r (pre++[mk c x]) (c+(wd x:Int)) (by simp only [List.length_append,List.length_cons,List.length_nil] at hl ⊢; omega) (fun y hy=>hP y (by simp [hy])) (by omega) (by omega)
  rw [e]
  rw [show (pre++[mk c x]).length=pre.length+1 by simp] at ih
  rw [ih]
  simp only [Fm,List.append_assoc,List.singleton_append]
  congr 2
  push_cast; omega
theorem Td {α:Type} (mk:Int→α→α) (wd:α→Nat) (P:α→Prop) (B:Int) (L:List α) (hL:L.length≤1048576) {step:Int×Int→Option ((Int×Int)⊕(Int⊕Int))}
  (hs:∀(k:Nat) (c:Int) (x:α),k<L.length→L[k]? = some (mk c x)→P x→0≤c→c+(wd x:Int)≤B→step (c,(k:Int))=some (.inl (c+(wd x:Int),((k+1:Nat):Int))))
  (he:∀c,step (c,(L.length:Int))=some (.inr (.inl c))):
  ∀(rest pre:List α) (c:Int),L=pre++Fm mk wd rest c→(∀x∈rest,P x)→0≤c→c+(Gp wd rest:Int)≤B →
   Br step (c,(pre.length:Int))=some (.inl (c+(Gp wd rest:Int)))
 | [],pre,c,hE,_,_,_=>by
  refine Io ?_
  have:=he c
  rw [hE] at this
  simpa [Fm,Gp] using this
 | x::r,pre,c,hE,hP,h0,hB=>by
  simp only [Gp] at hB ⊢
  simp only [Fm] at hE
  have hk:pre.length<L.length:=by rw [hE]; simp
  have hx:L[pre.length]? = some (mk c x):=by rw [hE]; simp
  rw [Gz (hs pre.length c x hk hx (hP x (by simp)) h0 (by omega))]
  have ih:=Td mk wd P B L hL hs he r (pre++[mk c x]) (c+(wd x:Int)) (by rw [hE]; simp) (fun y hy=>hP y (by simp [hy])) (by omega) (by omega)
  rw [show (pre++[mk c x]).length=pre.length+1 by simp] at ih
  rw [ih]
  congr 2
  push_cast; omega
theorem lY {α:Type} (l:List α) (hl:l.length≤4611686018427387903) (Q:α→Prop) (n:Int) (hn:n≤1048576) {step:Int×Int→Option ((Int×Int)⊕(Int⊕Int))}
  (hs:∀(k:Nat) (c:Int) (hk:k<l.length),0≤c→c≤1048576→(step (c,(k:Int))=some (.inr (.inr (-1))))∨∃c',0≤c'∧c'≤c∧Q l[k]∧step (c,(k:Int))=some (.inl (c',((k+1:Nat):Int))))
  (he:∀c,step (c,(l.length:Int))=some (.inr (.inl c))) (h0:0≤n):
  ∃r,Br step (n,0)=some r∧(r = .inr (-1)∨∃c,r = .inl c∧0≤c∧c≤n∧∀x∈l,Q x):=by
 refine bQ (fun s=>∃k:Nat,s.2=(k:Int)∧k≤l.length∧0≤s.1∧s.1≤n∧∀x∈l.take k,Q x) (fun s=>l.length-s.2.toNat) _ (n,0) ⟨0,rfl,Nat.zero_le _,h0,Int.le_refl _,by simp⟩ ?_
 rintro ⟨c,kk⟩ ⟨k,rfl,hk,c0,c1,hq⟩
 dsimp only at c0 c1 ⊢
 by_cases h:k<l.length
 ·rcases hs k c h c0 (by omega) with h1 | ⟨c',d0,d1,d2,h1⟩
  ·exact .inr ⟨_,h1,.inl rfl⟩
  ·refine .inl ⟨_,h1,⟨k+1,rfl,h,d0,by dsimp only; omega,fun x hx=>?_⟩,?_⟩
   ·rw [List.take_succ_eq_append_getElem h] at hx
    rcases List.mem_append.1 hx with hx | hx
    ·exact hq x hx
    ·rw [List.mem_singleton] at hx; rw [hx]; exact d2
   ·simp only [Int.toNat_natCast]; omega
 ·obtain rfl:k=l.length:=by omega
  rw [List.take_length] at hq
  exact .inr ⟨_,he c,.inr ⟨c,rfl,c0,c1,hq⟩⟩
end Go.Ev
end
section
namespace Go.Ev
theorem Oh (l:List UInt8) (hl:l.length≤1048576):Ya l=some l:=by
 unfold Ya; rw [if_pos (by simp; omega)]
end Go.Ev
end
section
namespace Go.Ev
def Vc (s:Ac):Prop:=(0≤s.at_∧s.at_≤127)∧s.data.length=32
def Dw (d:Ae):Prop:=d.held.length%32=0∧d.held.length≤4096∧d.Aa.length≤4096∧∀s∈d.Aa,Vc s
def Ep (b:List UInt8) (n:Nat):List UInt8:=b++List.replicate (n-b.length) 0
@[simp] theorem padB_len (b:List UInt8) (n:Nat):(Ep b n).length=max b.length n:=by simp [Ep]; omega
def Iu (b:List UInt8) (k:Nat) (d:List UInt8):List UInt8:=(Ep b (32*(k+1))).take (32*k)++d++(Ep b (32*(k+1))).drop (32*k+32)
theorem Yp (b:List UInt8) (k:Nat) (d:List UInt8) (h:d.length=32):(Iu b k d).length=max b.length (32*(k+1)):=by
 simp [Iu,h]; omega
def Cn (d:Ae):List UInt8:=d.Aa.foldl (fun b s=>Iu b s.at_.toNat s.data) d.held
theorem Xz (l:List Ac) (b:List UInt8) (hl:∀s∈l,Vc s) (h1:b.length%32=0) (h2:b.length≤4096):
  (l.foldl (fun b s=>Iu b s.at_.toNat s.data) b).length%32=0∧(l.foldl (fun b s=>Iu b s.at_.toNat s.data) b).length≤4096∧b.length≤(l.foldl (fun b s=>Iu b s.at_.toNat s.data) b).length:=by
 induction l generalizing b with
 | nil=>exact ⟨h1,h2,Nat.le_refl _⟩
 | cons s r ih=>
  have hs:=hl s (by simp)
  have hlen:=Yp b s.at_.toNat s.data hs.2
  have:=hs.1
  obtain ⟨i1,i2,i3⟩:=ih (Iu b s.at_.toNat s.data) (fun x hx=>hl x (by simp [hx])) (by rw [hlen]; omega) (by rw [hlen]; omega)
  exact ⟨i1,i2,by have:=i3; simp only [List.foldl_cons]; omega⟩
theorem Mc (d:Ae) (h:Dw d):(Cn d).length%32=0∧(Cn d).length≤4096∧d.held.length≤(Cn d).length:=Xz d.Aa d.held h.2.2.2 h.1 h.2.1
theorem mL {k:Nat} (h:k≤1099511627776):IntKind.i64.wrap (32*(k:Int))=((32*k:Nat):Int):=by rw [wr ⟨by omega,by omega⟩]; omega
theorem wr32' {k:Nat} (h:k≤1099511627776):IntKind.i64.wrap ((k:Int)*32)=((32*k:Nat):Int):=by rw [wr ⟨by omega,by omega⟩]; omega
theorem Ud (b:List UInt8) (k:Nat) (d:List UInt8) (h:d.length=32) (hb:32*(k+1)≤b.length):
  ((eD b ((32*k:Nat):Int) (b.length:Int)).bind fun s=>Cl (ovl b (((32*k:Nat):Int)).toNat (d.take s.length)) fun v=>some v)=some (Iu b k d):=by
 rw [DA _ _ _ (by omega) (Nat.le_refl _)]
 simp only [Option.bind_some,Cl,Int.toNat_natCast,List.take_length,List.length_drop]
 rw [List.take_of_length_le (by omega)]
 congr 1
 have hp:Ep b (32*(k+1))=b:=by simp [Ep,show 32*(k+1)-b.length=0 by omega]
 unfold Iu
 rw [hp]
 apply List.ext_getElem
 ·simp [ovl]; omega
 ·intro i h1 h2
  simp only [ovl,List.length_mapIdx] at h1
  simp only [ovl,List.getElem_mapIdx,List.getElem_append,List.length_take,List.length_append]
  by_cases c1:32*k≤i
  ·rw [if_pos c1]
   by_cases c2:i<32*k+32
   ·rw [dif_pos (by omega),dif_neg (by omega),List.getElem?_eq_getElem (by omega)]
    simp only [Option.getD_some]
    congr 1; omega
   ·rw [dif_neg (by omega),List.getElem?_eq_none (by omega)]
    simp only [Option.getD_none,List.getElem_drop]
    congr 1; omega
  ·rw [if_neg c1,dif_pos (by omega),dif_pos (by omega),List.getElem_take]
theorem bK (b:List UInt8) (s:Ac) (hs:Vc s) (hb:b.length≤1048576):jZ b s=some (Iu b s.at_.toNat s.data):=by
 obtain ⟨k,hk⟩:∃k:Nat,s.at_=k:=⟨s.at_.toNat,by have:=hs.1; omega⟩
 have hk1:k≤127:=by have:=hs.1; omega
 have e1:IntKind.i64.wrap (s.at_+1)=((k+1:Nat):Int):=by rw [hk]; exact w1 (by omega)
 have e2:=mL (show k+1≤1099511627776 by omega)
 have e3:IntKind.i64.wrap (32*s.at_)=((32*k:Nat):Int):=by rw [hk]; exact mL (by omega)
 simp only [jZ,Cl,e1,e2]
 have e4:s.at_.toNat=k:=by omega
 rw [e4]
 by_cases hlt:b.length<32*(k+1)
 ·have e5:IntKind.i64.wrap (((32*(k+1):Nat):Int)-(b.length:Int))=((32*(k+1)-b.length:Nat):Int):=by rw [wr ⟨by omega,by omega⟩]; omega
  rw [if_pos (decide_eq_true (by omega)),e5,if_pos (by omega),if_pos (by omega)]
  simp only [Oi,e3,Int.toNat_natCast]
  have hlen:(b++List.replicate (32*(k+1)-b.length) (0:UInt8)).length=32*(k+1):=by simp; omega
  have:=Ud (b++List.replicate (32*(k+1)-b.length) 0) k s.data hs.2 (by omega)
  simp only [Int.toNat_natCast] at this
  rw [this]
  congr 1
  have hp:Ep (b++List.replicate (32*(k+1)-b.length) 0) (32*(k+1))=Ep b (32*(k+1)):=by
   conv=>lhs; unfold Ep
   rw [hlen]
   simp [Ep]
  unfold Iu
  rw [hp]
 ·rw [if_neg (by simp; omega)]
  simp only [Oi,e3]
  exact Ud b k s.data hs.2 (by omega)
theorem bL (b:List UInt8) (s:Ac) (hs:Vc s) (hb:b.length≤1048576) (h32:b.length%32=0):kB b s=some (Iu b s.at_.toNat s.data):=by
 obtain ⟨k,hk⟩:∃k:Nat,s.at_=k:=⟨s.at_.toNat,by have:=hs.1; omega⟩
 have hk1:k≤127:=by have:=hs.1; omega
 have e1:IntKind.i64.wrap (s.at_+1)=((k+1:Nat):Int):=by rw [hk]; exact w1 (by omega)
 have e2:=wr32' (show k+1≤1099511627776 by omega)
 have e3:IntKind.i64.wrap (s.at_*32)=((32*k:Nat):Int):=by rw [hk]; exact wr32' (by omega)
 have e4:s.at_.toNat=k:=by omega
 rw [e4]
 obtain ⟨r,h1,h2⟩:=bQ (step:=Om s) (fun t=>(∃n,t=b++List.replicate n 0)∧t.length%32=0∧b.length≤t.length∧t.length≤max b.length (32*(k+1))) (fun t=>1048576+4096-t.length) (fun r=>r=Ep b (32*(k+1))) b ⟨⟨0,by simp⟩,h32,Nat.le_refl _,by omega⟩ (by
  rintro t ⟨⟨n,hn⟩,t1,t2,t3⟩
  simp only [Om,Cl,e1,e2]
  by_cases hlt:t.length<32*(k+1)
  ·rw [if_pos (decide_eq_true (by omega)),if_pos (by omega),if_pos (by omega)]
   refine .inl ⟨_,rfl,⟨⟨n+32,?_⟩,by simp; omega,by simp; omega,by simp; omega⟩,by simp; omega⟩
   rw [hn,List.append_assoc,List.replicate_append_replicate]
   rfl
  ·rw [if_neg (by simp; omega)]
   refine .inr ⟨_,rfl,?_⟩
   subst hn
   simp only [List.length_append,List.length_replicate] at t3 hlt
   unfold Ep
   congr 2
   omega)
 subst h2
 simp only [kB,List.nil_append]
 rw [if_pos (by simp; omega),h1]
 simp only [Option.bind_some,e3]
 have:=Ud (Ep b (32*(k+1))) k s.data hs.2 (by simp; omega)
 rw [this]
 congr 1
 have hp:Ep (Ep b (32*(k+1))) (32*(k+1))=Ep b (32*(k+1)):=by
  have e0:32*(k+1)-(Ep b (32*(k+1))).length=0:=by simp; omega
  show Ep b (32*(k+1))++List.replicate (32*(k+1)-(Ep b (32*(k+1))).length) 0=_
  rw [e0]
  simp
 unfold Iu
 rw [hp]
theorem Vn (l:List Ac) (b:List UInt8) (hl:∀s∈l,Vc s) (hn:l.length≤1048576) (h1:b.length%32=0) (h2:b.length≤4096) {step:List UInt8×Int→Option ((List UInt8×Int)⊕List UInt8)}
  (hs:∀k (hk:k<l.length) (p:List UInt8),p.length%32=0→p.length≤4096→step (p,(k:Int))=some (.inl (Iu p l[k].at_.toNat l[k].data,((k+1:Nat):Int)))) (he:∀p,step (p,(l.length:Int))=some (.inr p)):
  Br step (b,0)=some (l.foldl (fun b s=>Iu b s.at_.toNat s.data) b):=by
 have h:=Da (step:=step) (fun k=>((l.take k).foldl (fun b s=>Iu b s.at_.toNat s.data) b,(k:Int))) l.length (l.foldl (fun b s=>Iu b s.at_.toNat s.data) b) (fun k hk=>by
  have hf:=Xz (l.take k) b (fun s hs'=>hl s (List.mem_of_mem_take hs')) h1 h2
  rw [hs k hk _ hf.1 hf.2.1,List.take_succ_eq_append_getElem hk,List.foldl_append]
  rfl) (by
  rw [he,List.take_length])
 exact h
theorem bH (d:Ae) (h:Dw d):jU d=some (Cn d):=by
 have hh:=h.2.1; have hw:=h.2.2.1
 have hl:=Vn d.Aa d.held h.2.2.2 (by omega) h.1 h.2.1 (step:=Oc d) (fun k hk p p1 p2=>by
  simp only [Oc]
  rw [if_pos (decide_eq_true (by omega)),Ch hk]
  simp only [Option.bind_some,bK p _ (h.2.2.2 _ (List.getElem_mem hk)) (by omega),w1 (show k<4611686018427387904 by omega)]) (fun p=>by
  simp only [Oc]
  rw [if_neg (by simp)])
 simp only [jU,Oh d.held (by omega),Option.bind_some,hl]
 rfl
theorem bJ (d:Ae) (h:Dw d):jX d=some (Cn d):=by
 have hh:=h.2.1; have hw:=h.2.2.1
 have hl:=Vn d.Aa d.held h.2.2.2 (by omega) h.1 h.2.1 (step:=Of d) (fun k hk p p1 p2=>by
  simp only [Of]
  rw [if_pos (decide_eq_true (by omega)),Ch hk]
  simp only [Option.bind_some,bL p _ (h.2.2.2 _ (List.getElem_mem hk)) (by omega) p1,w1 (show k<4611686018427387904 by omega)]) (fun p=>by
  simp only [Of]
  rw [if_neg (by simp)])
 simp only [jX,List.nil_append]
 rw [if_pos (by simp; omega),hl]
 rfl
def mM (all:List UInt8) (k:Nat) (data:List UInt8):List UInt8:=ovl (Ep all (32*((k+data.length-1) / 32+1))) k data
def dB (all:List UInt8) (k:Nat):List UInt8:=(all.drop (32*k)).take 32
def Rh (all:List UInt8) (a n:Nat):List Ac:=(List.range' a n).map fun (k:Nat)=>Ac.mk (k:Int) (dB all k)
def Dk (d:Ae) (k:Nat) (data:List UInt8):Ae:=
 if data.length=0 then d else Ae.mk d.held (d.Aa++Rh (mM (Cn d) k data) (k / 32) ((k+data.length-1) / 32+1-k / 32))
theorem Sr (all:List UInt8) (k:Nat) (h:32*(k+1)≤all.length):(dB all k).length=32:=by simp [dB]; omega
theorem cH (all:List UInt8) (k:Nat) (h:32*(k+1)≤all.length):eD all ((32*k:Nat):Int) ((32*(k+1):Nat):Int)=some (dB all k):=by
 rw [DA _ _ _ (by omega) h]
 unfold dB
 rw [List.drop_take]
 congr 2
 omega
theorem Xj (all:List UInt8) (k:Nat) (data:List UInt8):(mM all k data).length=max all.length (32*((k+data.length-1) / 32+1)):=by
 unfold mM; rw [CU,padB_len]
theorem kY (d:Ae) (h:Dw d):CN d=some d:=by
 have hh:=h.2.1; have hw:=h.2.2.1
 have hl:=Da (step:=Lw d) (fun k=>((k:Int),d.Aa.take k)) d.Aa.length d.Aa (fun k hk=>by
  have hd:=(h.2.2.2 _ (List.getElem_mem hk)).2
  simp only [Lw]
  rw [if_pos (decide_eq_true (by omega)),Ch hk]
  simp only [Option.bind_some,Oh d.Aa[k].data (by omega),w1 (show k<4611686018427387904 by omega)]
  rw [if_pos (by simp; omega),List.take_succ_eq_append_getElem hk]) (by
  simp only [Lw]
  rw [if_neg (by simp),List.take_length])
 have hl':Br (Lw d) (0,([]:List Ac))=some d.Aa:=hl
 simp only [CN,Oh d.held (by omega),Option.bind_some,hl']
theorem Wb (all:List UInt8) (l0:List Ac) (a n:Nat) (hall:32*(a+n)≤all.length) (hn:all.length≤1048576) {step:Int×List Ac→Option ((Int×List Ac)⊕List Ac)}
  (hs:∀k (p:List Ac),a≤k→k<a+n→p.length≤l0.length+n→step ((k:Int),p)=some (.inl (((k+1:Nat):Int),p++[Ac.mk (k:Int) (dB all k)]))) (he:∀p,step (((a+n:Nat):Int),p)=some (.inr p)):
  Br step ((a:Int),l0)=some (l0++Rh all a n):=by
 have h:=Da (step:=step) (fun k=>(((a+k:Nat):Int),l0++Rh all a k)) n (l0++Rh all a n) (fun k hk=>by
  rw [hs (a+k) _ (by omega) (by omega) (by simp [Rh]; omega),List.append_assoc]
  congr 4
  unfold Rh
  rw [←List.range'_append_1 (s:=a) (m:=k) (n:=1),List.map_append]
  rfl) (he _)
 simpa [Rh] using h
theorem CG (d:Ae) (h:Dw d) (k:Nat) (data:List UInt8) (hk:k+data.length≤4096):CF d (k:Int) data=some (Dk d k data):=by
 simp only [CF,kY d h,Option.bind_some]
 by_cases h0:data.length=0
 ·rw [if_pos (by simp [h0])]
  simp [Dk,h0]
 ·rw [if_neg (by simpa using h0),bH d h]
  obtain ⟨r1,r2,r3⟩:=Mc d h
  have e0:IntKind.i64.wrap ((k:Int)+(data.length:Int))=((k+data.length:Nat):Int):=by rw [wr ⟨by omega,by omega⟩]; omega
  have e1:IntKind.i64.wrap (((k+data.length:Nat):Int)-1)=((k+data.length-1:Nat):Int):=by rw [wr ⟨by omega,by omega⟩]; omega
  have e2:(((k+data.length-1:Nat):Int)).tdiv 32=(((k+data.length-1) / 32:Nat):Int):=by rw [Int.tdiv_eq_ediv_of_nonneg (by omega)]; omega
  generalize hq:(k+data.length-1) / 32=q at e2
  have hq1:q≤128:=by omega
  have e3:IntKind.i64.wrap ((q:Nat):Int)=(q:Int):=wr ⟨by omega,by omega⟩
  have e4:=w1 (show q<4611686018427387904 by omega)
  have e5:=mL (show q+1≤1099511627776 by omega)
  have e6:IntKind.i64.wrap (((k:Int)).tdiv 32)=((k / 32:Nat):Int):=by
   rw [Int.tdiv_eq_ediv_of_nonneg (by omega),wr ⟨by omega,by omega⟩]; omega
  simp only [Option.bind_some,e0,e1,e2,e3,e4,e5,Cl]
  have key:∀p:List UInt8,p=Ep (Cn d) (32*(q+1))→Oj (k:Int) data d (q:Int) p=some (Dk d k data):=by
   rintro p rfl
   have hpl:(Ep (Cn d) (32*(q+1))).length=max (Cn d).length (32*(q+1)):=padB_len _ _
   simp only [Oj]
   rw [DA _ _ _ (by omega) (Nat.le_refl _)]
   simp only [Option.bind_some,e6]
   have hd:(data.take ((Ep (Cn d) (32*(q+1))).take (Ep (Cn d) (32*(q+1))).length |>.drop k).length)=data:=List.take_of_length_le (by simp; omega)
   have hw0:ovl (Ep (Cn d) (32*(q+1))) k data=mM (Cn d) k data:=by unfold mM; rw [hq]
   have hwl:(mM (Cn d) k data).length=max (Cn d).length (32*(q+1)):=by rw [Xj,hq]
   have hle:k / 32≤q:=by omega
   have hw:=h.2.2.1
   have hl:=Wb (mM (Cn d) k data) d.Aa (k / 32) (q+1-k / 32) (by omega) (by omega) (step:=Ol (k:Int) data (q:Int) (Ep (Cn d) (32*(q+1))) ((Ep (Cn d) (32*(q+1))).take (Ep (Cn d) (32*(q+1))).length |>.drop k)) (fun j p j1 j2 j3=>by
    simp only [Ol]
    rw [if_pos (decide_eq_true (by omega)),hd,w1 (show j<4611686018427387904 by omega),mL (show j≤1099511627776 by omega),mL (show j+1≤1099511627776 by omega)]
    simp only [Int.toNat_natCast,hw0]
    rw [cH _ _ (by omega)]
    simp only [Option.bind_some]
    rw [Oh _ (by rw [Sr _ _ (by omega)]; omega)]
    simp only [Option.bind_some]
    rw [if_pos (by simp; omega)]) (fun p=>by
    simp only [Ol]
    rw [if_neg (by simp; omega)])
   rw [hl]
   simp only [Option.bind_some,Dk]
   rw [if_neg h0,hq]
  by_cases hlt:(Cn d).length<32*(q+1)
  ·have e7:IntKind.i64.wrap (((32*(q+1):Nat):Int)-((Cn d).length:Int))=((32*(q+1)-(Cn d).length:Nat):Int):=by rw [wr ⟨by omega,by omega⟩]; omega
   rw [if_pos (decide_eq_true (by omega)),e7,if_pos (by omega),if_pos (by omega)]
   refine key _ ?_
   unfold Ep
   rw [Int.toNat_natCast]
  ·rw [if_neg (by simp; omega)]
   refine key _ ?_
   unfold Ep
   rw [show 32*(q+1)-(Cn d).length=0 by omega]
   simp
end Go.Ev
end
section
namespace Go.Ev
end Go.Ev
end
section
namespace Go.Ev
end Go.Ev
end
section
namespace Go.Ev
theorem eO (d:Ae) (h:Dw d) (k:Nat) (data:List UInt8) (hk:k+data.length≤4096) (hw:(Dk d k data).Aa.length≤4096):Dw (Dk d k data):=by
 unfold Dk at hw ⊢
 split
 ·exact h
 ·rename_i h0
  rw [if_neg h0] at hw
  refine ⟨h.1,h.2.1,hw,fun s hs=>?_⟩
  rcases List.mem_append.1 hs with hs | hs
  ·exact h.2.2.2 s hs
  ·simp only [Rh,List.mem_map,List.mem_range'_1] at hs
   obtain ⟨j,⟨hj1,hj2⟩,rfl⟩:=hs
   exact ⟨⟨by simp only; omega,by simp only; omega⟩,Sr _ _ (by rw [Xj]; omega)⟩
theorem jK:Dw (Ae.mk [] []):=⟨by simp,by simp,by simp,by simp⟩
end Go.Ev
end
section
namespace Go.Ev
def AX (c:Nat):Nat:=if c%2=1 then (c / 2) ^^^ 3988292384 else c / 2
def Xw:Nat→Nat→Nat
 | 0,c=>c
 | n+1,c=>AX (Xw n c)
def AW (c:Nat) (y:UInt8):Nat:=Xw 8 (c ^^^ y.toNat)
def NY (b:List UInt8):Nat:=(b.foldl AW 4294967295) ^^^ 4294967295
def FZ (n i:Nat):UInt8:=b8 ((n / 2^(8*i):Nat):Int)
def nF (n m:Nat):List UInt8:=(List.range m).map fun j=>FZ n (m-1-j)
@[simp] theorem bigB_len (n m:Nat):(nF n m).length=m:=by simp [nF]
end Go.Ev
end
section
namespace Go.Ev
def bN (p:List UInt8):List UInt8:=nF (p.length+1) 2++p
def jO (p:List UInt8):List UInt8:=bN p++nF (NY (bN p)) 4
theorem dP (p:List UInt8):(bN p).length=p.length+2:=by simp [bN]; omega
@[simp] theorem frameB_len (p:List UInt8):(jO p).length=p.length+6:=by simp [jO,dP]
end Go.Ev
end
section
namespace Go.Ev
end Go.Ev
end
section
namespace Go.Ev
theorem BS (d:Ae) (h:Dw d) (k:Nat) (data:List UInt8) (hk:k+data.length≤4096):BR d (k:Int) data=some (Dk d k data):=by
 obtain ⟨r1,r2,r3⟩:=Mc d h
 have hw:=h.2.2.1
 have e0:IntKind.i64.wrap ((k:Int)+(data.length:Int))=((k+data.length:Nat):Int):=by rw [wr ⟨by omega,by omega⟩]; omega
 simp only [BR,bJ d h,Option.bind_some]
 obtain ⟨p,p1,p2⟩:=bQ (step:=Od (k:Int) data) (fun t=>(∃n,t=Cn d++List.replicate n 0)∧(Cn d).length≤t.length∧t.length≤max (Cn d).length (32*((k+data.length+31) / 32))) (fun t=>1048576-t.length)
  (fun r=>r=Ep (Cn d) (32*((k+data.length+31) / 32))∧k+data.length≤r.length∧r.length≤4096) (Cn d) ⟨⟨0,by simp⟩,Nat.le_refl _,by omega⟩ (by
  rintro t ⟨⟨n,hn⟩,t1,t2⟩
  have em:((((t.length:Int)).tmod 32) != 0) = !decide (t.length%32=0):=by
   rw [Int.tmod_eq_emod_of_nonneg (by omega),Bool.eq_iff_iff]; simp; omega
  simp only [Od,Cl,e0,em]
  by_cases c:t.length<k+data.length∨¬t.length%32=0
  ·rw [if_pos (by
    rcases c with c | c
    ·rw [decide_eq_true (show (t.length:Int)<((k+data.length:Nat):Int) by omega)]; rfl
    ·rw [decide_eq_false c]; cases decide ((t.length:Int)<((k+data.length:Nat):Int))<;>rfl),if_pos (by simp; omega)]
   refine .inl ⟨_,rfl,⟨⟨n+1,?_⟩,by simp; omega,by simp; omega⟩,by simp; omega⟩
   rw [hn,List.append_assoc]
   congr 1
   exact (List.replicate_append_replicate (n:=n) (m:=1) (a:=(0:UInt8)))
  ·rw [if_neg (by
    rw [decide_eq_false (show ¬(t.length:Int)<((k+data.length:Nat):Int) by omega),decide_eq_true (show t.length%32=0 by omega)]; simp)]
   refine .inr ⟨_,rfl,?_,by omega,by omega⟩
   subst hn
   simp only [List.length_append,List.length_replicate] at t1 t2 c
   unfold Ep
   congr 2
   omega)
 obtain ⟨p2,p3,p4⟩:=p2
 rw [p1]
 simp only [Option.bind_some]
 rw [DA _ _ _ (by omega) (Nat.le_refl _)]
 simp only [Option.bind_some,List.nil_append]
 rw [if_pos (by simp; omega)]
 by_cases h0:data.length=0
 ·rw [if_pos (by simp [h0])]
  simp [Dk,h0]
 ·rw [if_neg (by simpa using h0)]
  have hq:32*((k+data.length+31) / 32)=32*((k+data.length-1) / 32+1):=by omega
  have hd:(data.take ((p.take p.length).drop k).length)=data:=List.take_of_length_le (by simp; omega)
  have hw0:ovl p k data=mM (Cn d) k data:=by unfold mM; rw [p2,hq]
  have hwl:=Xj (Cn d) k data
  have e6:IntKind.i64.wrap (((k:Int)).tdiv 32)=((k / 32:Nat):Int):=by
   rw [Int.tdiv_eq_ediv_of_nonneg (by omega),wr ⟨by omega,by omega⟩]; omega
  generalize hqq:(k+data.length-1) / 32=q at *
  have hle:k / 32≤q:=by omega
  have hl:=Wb (mM (Cn d) k data) d.Aa (k / 32) (q+1-k / 32) (by omega) (by omega) (step:=Lq (k:Int) data p ((p.take p.length).drop k)) (fun j l j1 j2 j3=>by
   simp only [Lq,e0,Cl]
   rw [wr32' (show j≤1099511627776 by omega),if_pos (decide_eq_true (by omega)),hd,w1 (show j<4611686018427387904 by omega),wr32' (show j+1≤1099511627776 by omega)]
   simp only [Int.toNat_natCast,hw0]
   rw [cH _ _ (by omega)]
   have hc:=Sr (mM (Cn d) k data) j (by omega)
   simp only [Option.bind_some,List.nil_append]
   rw [if_pos (by simp [hc]),if_pos (by simp; omega)]) (fun l=>by
   simp only [Lq,e0,Cl]
   rw [wr32' (show k / 32+(q+1-k / 32)≤1099511627776 by omega),if_neg (by simp; omega)])
  rw [e6,hl]
  simp only [Option.bind_some,Dk]
  rw [if_neg h0,hqq]
end Go.Ev
end
section
namespace Go.Ev
end Go.Ev
end
section
namespace Go.Ev
theorem dR {σ ρ:Type} {step step':σ→Option (σ⊕ρ)} (I:σ→Prop) (μ:σ→Nat) (hs:∀s,I s→step s=step' s)
  (h:∀s,I s→(∃s',step s=some (.inl s')∧I s'∧μ s'<μ s)∨(∃r,step s=some (.inr r))) (s0:σ) (h0:I s0):Br step s0=Br step' s0:=by
 have key:∀(n:Nat) (s0:σ),μ s0<n→I s0→Br step s0=Br step' s0:=by
  intro n
  induction n with
  | zero=>intro s0 hn; omega
  | succ n ih=>
   intro s0 hn hI
   rcases h s0 hI with ⟨s',h1,h2,h3⟩ | ⟨r,h1⟩
   ·rw [Gz h1,Gz (step:=step') (by rw [←hs s0 hI]; exact h1),ih s' (by omega) h2]
   ·rw [Io h1,Io (step:=step') (by rw [←hs s0 hI]; exact h1)]
 exact key (μ s0+1) s0 (by omega) h0
def Sq (l:List Ac) (F:List Bool) (b:List UInt8):Nat→List UInt8
 | 0=>b
 | k+1=>if F[k]?.getD false=true then Iu (Sq l F b k) (l[k]?.getD default).at_.toNat (l[k]?.getD default).data else Sq l F b k
theorem Rw (l:List Ac) (F:List Bool) (b:List UInt8) (hl:∀s∈l,Vc s) (h1:b.length%32=0) (h2:b.length≤4096):∀k,k≤l.length →
  (Sq l F b k).length%32=0∧(Sq l F b k).length≤4096∧b.length≤(Sq l F b k).length
 | 0,_=>⟨h1,h2,Nat.le_refl _⟩
 | k+1,hk=>by
  obtain ⟨i1,i2,i3⟩:=Rw l F b hl h1 h2 k (by omega)
  unfold Sq
  split
  ·rw [List.getElem?_eq_getElem (by omega)]
   have hs:=hl _ (List.getElem_mem (show k<l.length by omega))
   have:=hs.1
   simp only [Option.getD_some]
   rw [Yp _ _ _ hs.2]
   exact ⟨by omega,by omega,by omega⟩
  ·exact ⟨i1,i2,i3⟩
theorem BO (d:Ae) (h:Dw d) (F:List Bool) (hF:F.length≤1048576):Zv d F=some (Ae.mk (Sq d.Aa F d.held d.Aa.length) []):=by
 have hh:=h.2.1; have hw:=h.2.2.1
 have hl:=Da (step:=Lp d F) (fun k=>(Sq d.Aa F d.held k,(k:Int))) d.Aa.length (Sq d.Aa F d.held d.Aa.length) (fun k hk=>by
  obtain ⟨c1,c2,c3⟩:=Rw d.Aa F d.held h.2.2.2 h.1 h.2.1 k (by omega)
  simp only [Lp]
  rw [if_pos (decide_eq_true (by omega)),Ch hk]
  simp only [Option.bind_some,Rz,w1 (show k<4611686018427387904 by omega)]
  have ec:Sq d.Aa F d.held (k+1)=if F[k]?.getD false=true then Iu (Sq d.Aa F d.held k) d.Aa[k].at_.toNat d.Aa[k].data else Sq d.Aa F d.held k:=by
   show (if _ then _ else _)=_
   rw [List.getElem?_eq_getElem hk]; rfl
  rw [ec]
  by_cases c:k<F.length
  ·rw [decide_eq_true (show (k:Int)<(F.length:Int) by omega),List.getElem?_eq_getElem c]
   simp only [beq_self_eq_true,if_true,Ch c,Option.bind_some,cond_true,Option.getD_some]
   cases F[k] with
   | true=>simp only [if_true,bK _ _ (h.2.2.2 _ (List.getElem_mem hk)) (show (Sq d.Aa F d.held k).length≤1048576 by omega),Option.bind_some]
   | false=>simp only [Bool.false_eq_true,if_false]
  ·rw [decide_eq_false (show ¬(k:Int)<(F.length:Int) by omega),List.getElem?_eq_none (by omega)]
   simp) (by
  simp only [Lp]
  rw [if_neg (by simp)])
 have hl':Br (Lp d F) (d.held,0)=some (Sq d.Aa F d.held d.Aa.length):=hl
 simp only [Zv,Oh d.held (by omega),Option.bind_some,hl']
end Go.Ev
end
section
namespace Go.Ev
theorem BG (l:List UInt8) (hl:l.length≤1048576):BF l=some l:=by
 have h:=Xd l id default (step:=Ln l) (fun k hk p hp=>by
  simp only [Ln]
  rw [if_pos (decide_eq_true (by omega)),Ch hk]
  simp only [Option.bind_some]
  rw [Ch (l:=p) (k:=k) (by omega)]
  simp only [Option.bind_some,Int.toNat_natCast]
  rw [List.getElem?_eq_getElem (by omega)]
  simp only [Option.bind_some,w1 (show k<4611686018427387904 by omega)]
  rfl) (fun p hp=>by
  simp only [Ln]
  rw [if_neg (by simp)])
 rw [List.map_id] at h
 unfold BF
 rw [if_pos (by omega),if_pos (by omega)]
 simp only [Int.toNat_natCast,Cl]
 first
 | (rw [show (Br (Ln l) (List.replicate l.length default,0))=_ from h]; rfl)
 | (erw [h]; rfl)
theorem Qa (l:List UInt8) (hl:l.length≤1048576):dI l l=some true:=by
 have h:=Iw l (step:=Nw l l) (fun k hk=>by
  simp only [Nw]
  rw [if_pos (decide_eq_true (by omega)),Ch hk]
  simp [w1 (show k<4611686018427387904 by omega)]) (by
  simp only [Nw]
  rw [if_neg (by simp)])
 unfold dI
 rw [if_neg (by simp),h]
 rfl
end Go.Ev
end
section
set_option maxHeartbeats 1000000
namespace Go.Ev
theorem Wq (l:List UInt8) (a:Int) (ha:0≤a∧a≤4611686018427387904) (hl:l.length≤1048576):dJ l a=some (a+(l.length:Int),Cq (fun c _=>b8 c) 1 l a):=by
 have h:=Qd (fun c _=>b8 c) 1 l a (step:=Ny) (fun k p hp hk=>by
  simp only [Ny]
  rw [if_pos (decide_eq_true (by omega)),Ch (l:=p) (k:=k) (by omega)]
  simp only [Option.bind_some,Int.toNat_natCast]
  rw [List.getElem?_eq_getElem (by omega)]
  have e1:IntKind.i64.wrap (a+((1:Nat):Int)*(k:Int)+1)=a+((1:Nat):Int)*((k+1:Nat):Int):=by rw [wr ⟨by omega,by omega⟩]; omega
  simp only [Option.bind_some,w1 (show k<4611686018427387904 by omega),e1]) (fun p c hp=>by
  simp only [Ny]
  rw [if_neg (by simp; omega)])
 simp only [dJ,h,Option.bind_some]
 simp
theorem bI (l:List UInt8) (a:Int) (ha:0≤a∧a≤4611686018427387904) (hl:l.length≤1048576):jW (Cq (fun c _=>b8 c) 1 l a) a=some (a+(l.length:Int)):=by
 have h:=Da (step:=Lt (Cq (fun c _=>b8 c) 1 l a)) (fun k=>(a+(k:Int),(k:Int))) l.length (.inl (a+(l.length:Int))) (fun k hk=>by
  simp only [Lt]
  rw [if_pos (decide_eq_true (by simp; omega)),Ch (by simp; omega)]
  have e1:IntKind.i64.wrap (a+(k:Int)+1)=a+((k+1:Nat):Int):=by rw [wr ⟨by omega,by omega⟩]; omega
  simp only [Option.bind_some,w1 (show k<4611686018427387904 by omega),e1,Tp]
  rw [if_neg (by simp)]) (by
  simp only [Lt]
  rw [if_neg (by simp)])
 have h':Br (Lt (Cq (fun c _=>b8 c) 1 l a)) (a,0)=some (.inl (a+(l.length:Int))):=by simpa using h
 simp only [jW,h',Option.bind_some]
def Jt (s:Ac):Prop:=s.data.length≤1048576
def Ia (c:Int) (s:Ac):Ac:=Ac.mk c (Cq (fun c _=>b8 c) 1 s.data (c+1))
def Du (s:Ac):Nat:=s.data.length+1
theorem LU {c:Int} (h:0≤c) (h2:c≤4611686018427387904):IntKind.i64.wrap (c+1)=c+1:=wr ⟨by omega,by omega⟩
theorem BX (l:List Ac) (a:Int) (ha:0≤a∧a≤1099511627776) (hl:l.length≤1048576) (hf:∀s∈l,Jt s):BW l a=some (a+(Gp Du l:Int),Fm Ia Du l a)∧a+(Gp Du l:Int)≤4398046511104:=by
 have hB:Gp Du l≤1048577*l.length:=Sg fun x hx=>by have:=hf x hx; unfold Jt at this; unfold Du; omega
 have hB2:1048577*l.length≤1048577*1048576:=Nat.mul_le_mul_left _ hl
 have h:=Nf Ia Du Jt 4398046511104 (step:=Ls) (fun k p c x hk hp hx hfx h0 h1=>by
  unfold Du at h1
  simp only [Ls]
  have hset:(p.set k (Ac.mk c x.data))[k]? = some (Ac.mk c x.data):=by simp [hk]
  have hi:Eg (p.set k (Ac.mk c x.data)) (k:Int)=some (Ac.mk c x.data):=by unfold Eg; rw [if_pos (by omega),Int.toNat_natCast]; exact hset
  have hi0:Eg p (k:Int)=some x:=by unfold Eg; rw [if_pos (by omega),Int.toNat_natCast]; exact hx
  rw [if_pos (decide_eq_true (by omega)),hi0]
  simp only [Option.bind_some,Int.toNat_natCast,hx,hi,hset,LU h0 (show c≤4611686018427387904 by omega),Wq x.data (c+1) ⟨by omega,by omega⟩ hfx,marked_len,if_true,Cl,w1 (show k<4611686018427387904 by omega)]
  rw [List.set_set]
  unfold Ia Du
  congr 4
  push_cast; omega) (fun p c=>by
  simp only [Ls]
  rw [if_neg (by simp)]) l [] a (by simpa using hl) hf ha.1 (by omega)
 refine ⟨?_,by omega⟩
 have h':Br Ls (l,a,0)=some (Fm Ia Du l a,a+(Gp Du l:Int)):=by simpa using h
 simp only [BW,h',Option.bind_some]
theorem BZ (l:List Ac) (a:Int) (ha:0≤a∧a≤1099511627776) (hl:l.length≤1048576) (hf:∀s∈l,Jt s):BY (Fm Ia Du l a) a=some (a+(Gp Du l:Int)):=by
 have hB:Gp Du l≤1048577*l.length:=Sg fun x hx=>by have:=hf x hx; unfold Jt at this; unfold Du; omega
 have hB2:1048577*l.length≤1048577*1048576:=Nat.mul_le_mul_left _ hl
 have h:=Td Ia Du Jt 4398046511104 (Fm Ia Du l a) (by simpa using hl) (step:=Lu (Fm Ia Du l a)) (fun k c x hk hx hfx h0 h1=>by
  unfold Du at h1
  simp only [Lu]
  have hk':k<l.length:=by simpa using hk
  have hi:Eg (Fm Ia Du l a) (k:Int)=some (Ia c x):=by unfold Eg; rw [if_pos (by omega),Int.toNat_natCast]; exact hx
  rw [if_pos (decide_eq_true (by omega)),hi]
  have e0:(Ia c x).at_=c:=rfl
  have e1:(Ia c x).data=Cq (fun c _=>b8 c) 1 x.data (c+1):=rfl
  simp only [Option.bind_some,e0,e1,LU h0 (show c≤4611686018427387904 by omega),bI x.data (c+1) ⟨by omega,by omega⟩ hfx,w1 (show k<4611686018427387904 by omega)]
  rw [if_neg (by simp),if_neg (by simp; omega)]
  unfold Du
  congr 3
  push_cast; omega) (fun c=>by
  simp only [Lu]
  rw [if_neg (by simp)]) l [] a (by simp) hf ha.1 (by omega)
 have h':Br (Lu (Fm Ia Du l a)) (a,0)=some (.inl (a+(Gp Du l:Int))):=by simpa using h
 simp only [BY,h',Option.bind_some]
def Sh (d:Ae):Prop:=d.held.length≤1048576∧d.Aa.length≤1048576∧∀s∈d.Aa,Jt s
theorem kM (d:Ae) (h:Sh d) (a:Int) (ha:0≤a∧a≤1048577):∃n p q,BH d a=some (n,p,q)∧p.length=d.held.length∧q.length=d.Aa.length∧a≤n∧n≤4398046511104∧jT (Ae.mk p q) a=some n:=by
 obtain ⟨h1,h2,h3⟩:=h
 obtain ⟨m1,m2⟩:=BX d.Aa (a+(d.held.length:Int)) ⟨by omega,by omega⟩ h2 h3
 refine ⟨a+(d.held.length:Int)+(Gp Du d.Aa:Int),Cq (fun c _=>b8 c) 1 d.held a,Fm Ia Du d.Aa (a+(d.held.length:Int)),?_,by simp,by simp,by omega,m2,?_⟩
 rotate_left
 ·simp only [jT,bI d.held a ⟨ha.1,by omega⟩ h1,Option.bind_some]
  rw [if_neg (by simp; omega),BZ d.Aa _ ⟨by omega,by omega⟩ h2 h3]
  simp only [Option.bind_some]
  rw [if_neg (by simp; omega)]
 ·simp only [BH,Wq d.held a ⟨ha.1,by omega⟩ h1,Option.bind_some,marked_len,if_true,m1,markv_len]
theorem dN (s:Ac) (h:Jt s):kA s s=some true:=by simp [kA,Qa s.data h]
theorem dM (l:List Ac) (hl:l.length≤1048576) (hE:∀x∈l,kA x x=some true):BV l l=some true:=by
 have h:=Iw l (step:=Oe l l) (fun k hk=>by
  simp only [Oe]
  rw [if_pos (decide_eq_true (by omega)),Ch hk]
  simp [w1 (show k<4611686018427387904 by omega),hE _ (List.getElem_mem hk)]) (by
  simp only [Oe]
  rw [if_neg (by simp)])
 unfold BV
 rw [if_neg (by simp),h]
 rfl
theorem dH (d:Ae) (h:Sh d):dG d d=some true:=by
 simp [dG,Qa d.held h.1,dM d.Aa h.2.1 fun x hx=>dN x (h.2.2 x hx)]
theorem BP (l:List UInt8) (n:Int) (hn:0≤n∧n≤1048576) (hl:l.length≤9223372036854775807):(jV l n=some (-1)∧n<(l.length:Int))∨(jV l n=some (n-(l.length:Int))∧(l.length:Int)≤n):=by
 have hw:IntKind.i64.wrap (n-(l.length:Int))=n-(l.length:Int):=wr ⟨by omega,by omega⟩
 simp only [jV,hw]
 by_cases h:n-(l.length:Int)<0
 ·rw [if_pos (decide_eq_true h)]; exact .inl ⟨rfl,by omega⟩
 ·rw [if_neg (by simpa using h)]; exact .inr ⟨rfl,by omega⟩
end Go.Ev
end
section
set_option maxHeartbeats 1000000
namespace Go.Ev
theorem KW (a b c:Int):LT a b c=some (decide (b≤a)&&decide (a≤c)):=by
 simp only [LT]; congr 1; cases decide (b≤a)<;>simp
def Pf (a:Int) (n:Nat):Bool:=decide (0≤a∧a+(n:Int)≤4096)
theorem HL (a:Int) (n:Nat) (hn:n≤1048576):CE a (n:Int)=some (Pf a n):=by
 simp only [CE,KW,Option.bind_some,Cl,Pf]
 congr 1
 by_cases h:0≤a∧a≤4096
 ·rw [decide_eq_true h.1,decide_eq_true h.2,wr ⟨by omega,by omega⟩]
  simp [h.1]
 ·have h1:(decide (0≤a)&&decide (a≤4096))=false:=by
   rw [Bool.and_eq_false_iff]
   rcases Int.lt_or_le a 0 with h2 | h2
   ·exact .inl (decide_eq_false (by omega))
   ·exact .inr (decide_eq_false (by omega))
  rw [h1,decide_eq_false (show ¬(0≤a∧a+(n:Int)≤4096) by omega)]
  rfl
theorem HJ (a:Int) (n:Nat) (hn:n≤1048576):BQ a (n:Int)=some (Pf a n):=by
 simp only [BQ,Cl,Pf]
 rw [wr ⟨by omega,by omega⟩]
 congr 1
 by_cases h:0≤a∧n≤4096
 ·rw [decide_eq_true (show a≥0 from h.1),decide_eq_true (show (n:Int)≤4096 by omega)]
  simp only [cond_true]
  by_cases h2:a+(n:Int)≤4096
  ·rw [decide_eq_true (by omega),decide_eq_true ⟨h.1,h2⟩]
  ·rw [decide_eq_false (by omega),decide_eq_false (by omega)]
 ·have h1:(bif decide (a≥0) then decide ((n:Int)≤4096) else false)=false:=by
   rcases Int.lt_or_le a 0 with h2 | h2
   ·rw [decide_eq_false (show ¬a≥0 by omega)]; rfl
   ·rw [decide_eq_true (show a≥0 by omega),decide_eq_false (by omega)]; rfl
  rw [h1,decide_eq_false (show ¬(0≤a∧a+(n:Int)≤4096) by omega)]
  rfl
theorem BU (d:Ae) (h:Dw d):BT d=some d:=by
 have hh:=h.2.1; have hw:=h.2.2.1
 have hl:=Da (step:=Lr d) (fun k=>((k:Int),d.Aa.take k)) d.Aa.length d.Aa (fun k hk=>by
  have hd:=(h.2.2.2 _ (List.getElem_mem hk)).2
  simp only [Lr]
  rw [if_pos (decide_eq_true (by omega)),Ch hk]
  simp only [Option.bind_some,w1 (show k<4611686018427387904 by omega)]
  rw [if_pos (by simp; omega),if_pos (by simp; omega),List.take_succ_eq_append_getElem hk]
  rfl) (by
  simp only [Lr]
  rw [if_neg (by simp),List.take_length])
 have hl':Br (Lr d) (0,([]:List Ac))=some d.Aa:=hl
 simp only [BT]
 rw [if_pos (by simp; omega),hl']
 simp
theorem Dw.fit {d:Ae} (h:Dw d):Sh d:=⟨by have:=h.2.1; omega,by have:=h.2.2.1; omega,fun s hs=>by unfold Jt; have:=(h.2.2.2 s hs).2; omega⟩
theorem Xy:Sh (Ae.mk [] []):=jK.fit
def mN (d:Ae) (a:Int) (data:List UInt8):Ae×Int:=
 if Pf a data.length=true then (if (Dk d a.toNat data).Aa.length≤4096 then (Dk d a.toNat data,0) else (Ae.mk [] [],6)) else (Ae.mk [] [],9)
theorem HG (d:Ae) (h:Dw d) (a:Int) (data:List UInt8) (hd:data.length≤1048576):Zu d a data=some (mN d a data):=by
 simp only [Zu,HL a data.length hd,Option.bind_some,mN]
 cases hr:Pf a data.length
 ·rfl
 ·simp only [Pf,decide_eq_true_eq] at hr
  obtain ⟨k,rfl⟩:=Int.eq_ofNat_of_zero_le hr.1
  simp only [Bool.not_true,Bool.false_eq_true,if_false,if_true,Int.ofNat_eq_natCast,Int.toNat_natCast]
  have e:=CG d h k data (by omega)
  rw [e]
  simp only [Option.bind_some,HI]
  by_cases hw:(Dk d k data).Aa.length≤4096
  ·rw [decide_eq_true (show ((Dk d k data).Aa.length:Int)≤4096 by omega),if_pos hw]; rfl
  ·rw [decide_eq_false (show ¬((Dk d k data).Aa.length:Int)≤4096 by omega),if_neg hw]; rfl
end Go.Ev
end
section
set_option maxHeartbeats 1000000
namespace Go.Ev
theorem HM (l:List Int) (a:Int) (ha:0≤a∧a≤4611686018427387904) (hl:l.length≤1048576):LS l a=some (a+(l.length:Int),Cq (fun c _=>c) 1 l a):=by
 have h:=Qd (fun c _=>c) 1 l a (step:=Ta) (fun k p hp hk=>by
  simp only [Ta]
  rw [if_pos (decide_eq_true (by omega)),Ch (l:=p) (k:=k) (by omega)]
  simp only [Option.bind_some,Int.toNat_natCast]
  rw [List.getElem?_eq_getElem (by omega)]
  have e1:IntKind.i64.wrap (a+((1:Nat):Int)*(k:Int)+1)=a+((1:Nat):Int)*((k+1:Nat):Int):=by rw [wr ⟨by omega,by omega⟩]; omega
  simp only [Option.bind_some,w1 (show k<4611686018427387904 by omega),e1]) (fun p c hp=>by
  simp only [Ta]
  rw [if_neg (by simp; omega)])
 simp only [LS,h,Option.bind_some]
 simp
theorem HN (l:List Int) (a:Int) (ha:0≤a∧a≤4611686018427387904) (hl:l.length≤1048576):KV (Cq (fun c _=>c) 1 l a) a=some (a+(l.length:Int)):=by
 have h:=Da (step:=Qb (Cq (fun c _=>c) 1 l a)) (fun k=>(a+(k:Int),(k:Int))) l.length (.inl (a+(l.length:Int))) (fun k hk=>by
  simp only [Qb]
  rw [if_pos (decide_eq_true (by simp; omega)),Ch (by simp; omega)]
  have e1:IntKind.i64.wrap (a+(k:Int)+1)=a+((k+1:Nat):Int):=by rw [wr ⟨by omega,by omega⟩]; omega
  simp only [Option.bind_some,w1 (show k<4611686018427387904 by omega),e1,Tp]
  rw [if_neg (by simp)]) (by
  simp only [Qb]
  rw [if_neg (by simp)])
 have h':Br (Qb (Cq (fun c _=>c) 1 l a)) (a,0)=some (.inl (a+(l.length:Int))):=by simpa using h
 simp only [KV,h',Option.bind_some]
theorem kD (l:List Int) (hl:l.length≤1048576):IM l l=some true:=by
 have h:=Iw l (step:=Sz l l) (fun k hk=>by
  simp only [Sz]
  rw [if_pos (decide_eq_true (by omega)),Ch hk]
  simp [w1 (show k<4611686018427387904 by omega)]) (by
  simp only [Sz]
  rw [if_neg (by simp)])
 unfold IM
 rw [if_neg (by simp),h]
 rfl
theorem CD (l:List Bool) (a:Int) (ha:0≤a∧a≤4611686018427387904) (hl:l.length≤1048576):CC l a=some (a+(l.length:Int),Cq (fun c _=>((c).tmod 3)==0) 1 l a):=by
 have h:=Qd (fun c _=>((c).tmod 3)==0) 1 l a (step:=Og) (fun k p hp hk=>by
  simp only [Og]
  rw [if_pos (decide_eq_true (by omega)),Ch (l:=p) (k:=k) (by omega)]
  simp only [Option.bind_some,Int.toNat_natCast]
  rw [List.getElem?_eq_getElem (by omega)]
  have e1:IntKind.i64.wrap (a+((1:Nat):Int)*(k:Int)+1)=a+((1:Nat):Int)*((k+1:Nat):Int):=by rw [wr ⟨by omega,by omega⟩]; omega
  simp only [Option.bind_some,w1 (show k<4611686018427387904 by omega),e1]) (fun p c hp=>by
  simp only [Og]
  rw [if_neg (by simp; omega)])
 simp only [CC,h,Option.bind_some]
 simp
theorem CL (l:List Bool) (hl:l.length≤1048576):CK l=some l:=by
 have h:=Xd l id false (step:=On l) (fun k hk p hp=>by
  simp only [On]
  rw [if_pos (decide_eq_true (by omega)),Ch hk]
  simp only [Option.bind_some]
  rw [Ch (l:=p) (k:=k) (by omega)]
  simp only [Option.bind_some,Int.toNat_natCast]
  rw [List.getElem?_eq_getElem (by omega)]
  simp only [Option.bind_some,w1 (show k<4611686018427387904 by omega)]
  rfl) (fun p hp=>by
  simp only [On]
  rw [if_neg (by simp)])
 rw [List.map_id] at h
 unfold CK
 rw [if_pos (by omega),if_pos (by omega)]
 simp only [Int.toNat_natCast,h,Option.bind_some]
theorem dO (l:List Bool) (hl:l.length≤1048576):CM l l=some true:=by
 have h:=Iw l (step:=Oo l l) (fun k hk=>by
  simp only [Oo]
  rw [if_pos (decide_eq_true (by omega)),Ch hk]
  simp [w1 (show k<4611686018427387904 by omega)]) (by
  simp only [Oo]
  rw [if_neg (by simp)])
 unfold CM
 rw [if_neg (by simp),h]
 rfl
def If (x:Af):Prop:=x.data.length≤1048576∧x.keep.length≤1048576
def bW (c:Int) (x:Af):Af:=Af.mk c (c+1) (Cq (fun c _=>b8 c) 1 x.data (c+2)) (Cq (fun c _=>((c).tmod 3)==0) 1 x.keep (c+2+(x.data.length:Int)))
def Lg (x:Af):Nat:=x.data.length+x.keep.length+2
theorem BN (l:List Af) (a:Int) (ha:0≤a∧a≤1099511627776) (hl:l.length≤1048576) (hf:∀s∈l,If s):BM l a=some (a+(Gp Lg l:Int),Fm bW Lg l a):=by
 have hB:Gp Lg l≤2097154*l.length:=Sg fun x hx=>by have:=hf x hx; unfold If at this; unfold Lg; omega
 have hB2:2097154*l.length≤2097154*1048576:=Nat.mul_le_mul_left _ hl
 have h:=Nf bW Lg If 8796093022208 (step:=Lo) (fun k p c x hk hp hx hfx h0 h1=>by
  unfold Lg at h1
  have hfd:=hfx.1; have hfk:=hfx.2
  simp only [Lo]
  have hset:∀(p:List Af) (z:Af),k<p.length→(p.set k z)[k]? = some z:=fun p z hz=>by simp [hz]
  have hi:∀(p:List Af) (z:Af),k<p.length→Eg (p.set k z) (k:Int)=some z:=fun p z hz=>by unfold Eg; rw [if_pos (by omega),Int.toNat_natCast]; exact hset p z hz
  have hi0:Eg p (k:Int)=some x:=by unfold Eg; rw [if_pos (by omega),Int.toNat_natCast]; exact hx
  have e2:c+1+1=c+2:=by omega
  have e3:IntKind.i64.wrap (c+2)=c+2:=wr ⟨by omega,by omega⟩
  push_cast at h1
  rw [if_pos (decide_eq_true (by omega)),hi0]
  simp only [Option.bind_some,Int.toNat_natCast,hx,List.length_set,hk,hi,hset,Cl,LU h0 (show c≤4611686018427387904 by omega),LU (show 0≤c+1 by omega) (show c+1≤4611686018427387904 by omega),e2,e3,
   Wq x.data (c+2) ⟨by omega,by omega⟩ hfx.1,marked_len,if_true,CD x.keep (c+2+(x.data.length:Int)) ⟨by omega,by omega⟩ hfx.2,w1 (show k<4611686018427387904 by omega),List.set_set]
  unfold bW Lg
  rw [show c+2+(x.data.length:Int)+(x.keep.length:Int)=c+((x.data.length+x.keep.length+2:Nat):Int) by push_cast; omega]) (fun p c=>by
  simp only [Lo]
  rw [if_neg (by simp)]) l [] a (by simpa using hl) hf ha.1 (by omega)
 have h':Br Lo (l,a,0)=some (Fm bW Lg l a,a+(Gp Lg l:Int)):=by simpa using h
 simp only [BM,h',Option.bind_some]
theorem HY (x:Af) (h:If x):CA x=some x:=by simp only [CA,BG x.data h.1,CL x.keep h.2,Option.bind_some]
theorem BK (l:List Af) (hl:l.length≤1048576) (hf:∀s∈l,If s):Zt l=some l:=by
 have h:=Xd l id (Af.mk 0 0 ([]:List UInt8) ([]:List Bool)) (step:=Oa l) (fun k hk p hp=>by
  simp only [Oa]
  rw [if_pos (decide_eq_true (by omega)),Ch hk]
  simp only [Option.bind_some]
  rw [HY _ (hf _ (List.getElem_mem hk))]
  simp only [Option.bind_some]
  rw [Ch (l:=p) (k:=k) (by omega)]
  simp only [Option.bind_some,Int.toNat_natCast]
  rw [List.getElem?_eq_getElem (by omega)]
  simp only [Option.bind_some,w1 (show k<4611686018427387904 by omega)]
  rfl) (fun p hp=>by
  simp only [Oa]
  rw [if_neg (by simp)])
 rw [List.map_id] at h
 unfold Zt
 rw [if_pos (by omega),if_pos (by omega)]
 simp only [Int.toNat_natCast,Cl,h,Option.bind_some]
theorem dK (l:List Af) (hl:l.length≤1048576) (hf:∀s∈l,If s):BL l l=some true:=by
 have hE:∀x∈l,CB x x=some true:=fun x hx=>by simp [CB,Qa x.data (hf x hx).1,dO x.keep (hf x hx).2]
 have h:=Iw l (step:=Ob l l) (fun k hk=>by
  simp only [Ob]
  rw [if_pos (decide_eq_true (by omega)),Ch hk]
  simp [w1 (show k<4611686018427387904 by omega),hE _ (List.getElem_mem hk)]) (by
  simp only [Ob]
  rw [if_neg (by simp)])
 unfold BL
 rw [if_neg (by simp),h]
 rfl
theorem CH (l:List Bool) (n:Int) (hn:0≤n∧n≤1048576) (hl:l.length≤9223372036854775807):(kC l n=some (-1)∧n<(l.length:Int))∨(kC l n=some (n-(l.length:Int))∧(l.length:Int)≤n):=by
 have hw:IntKind.i64.wrap (n-(l.length:Int))=n-(l.length:Int):=wr ⟨by omega,by omega⟩
 simp only [kC,hw]
 by_cases h:n-(l.length:Int)<0
 ·rw [if_pos (decide_eq_true h)]; exact .inl ⟨rfl,by omega⟩
 ·rw [if_neg (by simpa using h)]; exact .inr ⟨rfl,by omega⟩
theorem DC (l:List Af) (o:EE Qn l) (n:Int) (hn:0≤n∧n≤1048576):∃r,BI l n=some r∧(0≤r→l.length≤1048576∧∀x∈l,If x):=by
 have hl:=o.1
 have hw:IntKind.i64.wrap (n-(l.length:Int))=n-(l.length:Int):=wr ⟨by omega,by omega⟩
 simp only [BI,hw]
 by_cases h:n-(l.length:Int)<0
 ·rw [if_pos (decide_eq_true h)]
  exact ⟨-1,rfl,fun h=>by omega⟩
 ·rw [if_neg (by simpa using h)]
  obtain ⟨r,r1,r2⟩:=lY l (by omega) If (n-(l.length:Int)) (by omega) (step:=Nz l) (fun k c hk c0 c1=>by
   have ok:=o.2 _ (List.getElem_mem hk)
   simp only [Nz]
   rw [if_pos (decide_eq_true (by omega)),Ch hk]
   simp only [Option.bind_some,HK]
   rcases BP l[k].data c ⟨c0,by omega⟩ ok.2.2.1.1 with ⟨e3,_⟩ | ⟨e3,e4⟩
   ·rw [e3]; simp only [Option.bind_some]
    rw [if_pos (by decide)]; simp only [Option.bind_some]
    rw [if_pos (by decide)]
    exact .inl rfl
   ·rw [e3]; simp only [Option.bind_some]
    rw [if_neg (by simp; omega)]
    rcases CH l[k].keep (c-(l[k].data.length:Int)) ⟨by omega,by omega⟩ ok.2.2.2.1 with ⟨e5,_⟩ | ⟨e5,e6⟩
    ·rw [e5]; simp only [Option.bind_some]
     rw [if_pos (by decide)]; simp only [Option.bind_some]
     rw [if_pos (by decide)]
     exact .inl rfl
    ·rw [e5]; simp only [Option.bind_some]
     rw [if_neg (by simp; omega)]; simp only [Option.bind_some]
     rw [if_neg (by simp; omega),w1 (show k<4611686018427387904 by omega)]
     exact .inr ⟨_,by omega,by omega,⟨by omega,by omega⟩,rfl⟩) (fun c=>by
   simp only [Nz]
   rw [if_neg (by simp)]) (by omega)
  rw [r1]
  rcases r2 with rfl | ⟨c,rfl,c0,c1,hq⟩
  ·exact ⟨-1,rfl,fun h=>by omega⟩
  ·exact ⟨c,rfl,fun _=>⟨by omega,hq⟩⟩
theorem CJ (d:Ae) (h:Dw d) (F:List Bool) (hF:F.length≤1048576):CI d F=some (Ae.mk (Sq d.Aa F d.held d.Aa.length) []):=by
 have hh:=h.2.1; have hw:=h.2.2.1
 have hl:=Da (step:=Lv d F) (fun k=>(Sq d.Aa F d.held k,(k:Int))) d.Aa.length (Sq d.Aa F d.held d.Aa.length) (fun k hk=>by
  obtain ⟨c1,c2,c3⟩:=Rw d.Aa F d.held h.2.2.2 h.1 h.2.1 k (by omega)
  simp only [Lv]
  rw [if_pos (decide_eq_true (by omega))]
  simp only [Option.bind_some,Sa,w1 (show k<4611686018427387904 by omega)]
  have ec:Sq d.Aa F d.held (k+1)=if F[k]?.getD false=true then Iu (Sq d.Aa F d.held k) d.Aa[k].at_.toNat d.Aa[k].data else Sq d.Aa F d.held k:=by
   show (if _ then _ else _)=_
   rw [List.getElem?_eq_getElem hk]; rfl
  rw [ec]
  by_cases c:k<F.length
  ·rw [decide_eq_true (show (k:Int)<(F.length:Int) by omega),List.getElem?_eq_getElem c]
   simp only [beq_self_eq_true,if_true,Ch c,Option.bind_some,cond_true,Option.getD_some]
   cases F[k] with
   | true=>simp only [if_true,Ch hk,Option.bind_some,bL _ _ (h.2.2.2 _ (List.getElem_mem hk)) (show (Sq d.Aa F d.held k).length≤1048576 by omega) c1]
   | false=>simp only [Bool.false_eq_true,if_false]
  ·rw [decide_eq_false (show ¬(k:Int)<(F.length:Int) by omega),List.getElem?_eq_none (by omega)]
   simp) (by
  simp only [Lv]
  rw [if_neg (by simp)])
 have hl':Br (Lv d F) (d.held,0)=some (Sq d.Aa F d.held d.Aa.length):=hl
 simp only [CI,List.nil_append]
 rw [if_pos (by simp; omega),hl']
 rfl
theorem jJ (d:Ae) (h:Dw d) (F:List Bool):Dw (Ae.mk (Sq d.Aa F d.held d.Aa.length) []):=by
 have:=Rw d.Aa F d.held h.2.2.2 h.1 h.2.1 d.Aa.length (Nat.le_refl _)
 exact ⟨this.1,this.2.1,by simp,by simp⟩
theorem fG (a0:List Af) (h0:a0.length≤1048576) (k:Nat) (hk:k<a0.length) (hf:∀s∈a0,If s) (d:Ae) (h:Dw d):∃r:Ae×Int,Dw r.1∧∀p:List Int,p.length≤1048576 →
  Ga a0 (p,(k:Int),d.held,d.Aa)=some (.inl (p++[r.2],((k+1:Nat):Int),r.1.held,r.1.Aa))∧Gu a0 (p,(k:Int),d.held,d.Aa)=some (.inl (p++[r.2],((k+1:Nat):Int),r.1.held,r.1.Aa)):=by
 have hx:=hf _ (List.getElem_mem hk)
 have e0:Ae.mk d.held d.Aa=d:=rfl
 have hj:∀(p:List Int) (c:Int),p.length≤1048576→(p.length+([c]:List Int).length)*8≤140737488355328:=fun p c hp=>by simp; omega
 have hA:∀(p:List Int) (r:Ae×Int),p.length≤1048576→jY d a0[k]=some r→Gu a0 (p,(k:Int),d.held,d.Aa)=some (.inl (p++[r.2],((k+1:Nat):Int),r.1.held,r.1.Aa)):=by
  intro p r hp hr
  simp only [Gu]
  rw [if_pos (decide_eq_true (show (k:Int)<(a0.length:Int) by omega)),Ch hk]
  simp only [Option.bind_some,e0,hr,w1 (show k<4611686018427387904 by omega)]
  rw [if_pos (hj p _ hp)]
 have hB:∀(p:List Int) (r:Ae×Int),p.length≤1048576→((if (a0[k].kind==1)=true then (Zu d a0[k].at_ a0[k].data).bind fun r69=>if (r69.2==0)=true then some r69 else some (d,r69.2)
   else if (a0[k].kind==2)=true then (dL d).bind fun r73=>some (r73,0) else if (a0[k].kind==3)=true then (Zv d a0[k].keep).bind fun r76=>some (r76,0) else some (d,16))=some r) →
   Ga a0 (p,(k:Int),d.held,d.Aa)=some (.inl (p++[r.2],((k+1:Nat):Int),r.1.held,r.1.Aa)):=by
  intro p r hp hr
  simp only [Ga,Jg]
  rw [if_pos (decide_eq_true (show (k:Int)<(a0.length:Int) by omega)),Ch hk]
  simp only [Option.bind_some,e0,w1 (show k<4611686018427387904 by omega),hj p _ hp,if_true]
  by_cases k1:(a0[k].kind==1)=true
  ·rw [if_pos k1] at hr ⊢
   cases hg:Zu d a0[k].at_ a0[k].data with
   | none=>rw [hg] at hr; cases hr
   | some q=>
    rw [hg] at hr
    simp only [Option.bind_some] at hr ⊢
    by_cases c:(q.2==0)=true
    ·rw [if_pos c] at hr ⊢; cases hr; rfl
    ·rw [if_neg c] at hr ⊢; cases hr; rfl
  ·rw [if_neg k1] at hr ⊢
   by_cases k2:(a0[k].kind==2)=true
   ·rw [if_pos k2] at hr ⊢
    cases hg:dL d with
    | none=>rw [hg] at hr; cases hr
    | some q=>rw [hg] at hr; cases hr; rfl
   ·rw [if_neg k2] at hr ⊢
    by_cases k3:(a0[k].kind==3)=true
    ·rw [if_pos k3] at hr ⊢
     cases hg:Zv d a0[k].keep with
     | none=>rw [hg] at hr; cases hr
     | some q=>rw [hg] at hr; cases hr; rfl
    ·rw [if_neg k3] at hr ⊢
     cases hr; rfl
 suffices hh:∃r:Ae×Int,Dw r.1∧jY d a0[k]=some r∧((if (a0[k].kind==1)=true then (Zu d a0[k].at_ a0[k].data).bind fun r69=>if (r69.2==0)=true then some r69 else some (d,r69.2)
   else if (a0[k].kind==2)=true then (dL d).bind fun r73=>some (r73,0) else if (a0[k].kind==3)=true then (Zv d a0[k].keep).bind fun r76=>some (r76,0) else some (d,16))=some r) by
  obtain ⟨r,h1,h2,h3⟩:=hh
  exact ⟨r,h1,fun p hp=>⟨hB p r hp h3,hA p r hp h2⟩⟩
 clear hA hB
 simp only [jY]
 by_cases k1:(a0[k].kind==1)=true
 ·rw [if_pos k1,if_pos k1,HG d h a0[k].at_ a0[k].data hx.1,HJ _ _ hx.1]
  simp only [Option.bind_some,mN]
  cases hr:Pf a0[k].at_ a0[k].data.length
  ·exact ⟨(d,9),h,rfl,rfl⟩
  ·simp only [Pf,decide_eq_true_eq] at hr
   obtain ⟨m,hm⟩:=Int.eq_ofNat_of_zero_le hr.1
   rw [hm] at hr ⊢
   simp only [Bool.not_true,Bool.false_eq_true,if_false,if_true,Int.ofNat_eq_natCast,Int.toNat_natCast]
   have e:=BS d h m a0[k].data (by omega)
   rw [e]
   simp only [Option.bind_some]
   by_cases hw:(Dk d m a0[k].data).Aa.length≤4096
   ·rw [decide_eq_false (show ¬((Dk d m a0[k].data).Aa.length:Int)>4096 by omega),if_pos hw]
    exact ⟨(Dk d m a0[k].data,0),eO d h m _ (by omega) hw,rfl,rfl⟩
   ·rw [decide_eq_true (show ((Dk d m a0[k].data).Aa.length:Int)>4096 by omega),if_neg hw]
    exact ⟨(d,6),h,rfl,rfl⟩
 ·rw [if_neg k1,if_neg k1]
  by_cases k2:(a0[k].kind==2)=true
  ·rw [if_pos k2,if_pos k2]
   simp only [dL,bH d h,bJ d h,Option.bind_some]
   exact ⟨(Ae.mk (Cn d) [],0),⟨(Mc d h).1,(Mc d h).2.1,by simp,by simp⟩,rfl,rfl⟩
  ·rw [if_neg k2,if_neg k2]
   by_cases k3:(a0[k].kind==3)=true
   ·rw [if_pos k3,if_pos k3,BO d h _ hx.2,CJ d h _ hx.2]
    exact ⟨(_,0),jJ d h a0[k].keep,rfl,rfl⟩
   ·rw [if_neg k3,if_neg k3]
    exact ⟨(d,16),h,rfl,rfl⟩
def fE (a0:List Af) (s:List Int×Int×List UInt8×List Ac):Prop:=∃k:Nat,s.2.1=(k:Int)∧k≤a0.length∧s.1.length=k∧Dw (Ae.mk s.2.2.1 s.2.2.2)
theorem lR (a0:List Af) (h0:a0.length≤1048576) (hf:∀s∈a0,If s):∃r:List Int×Ae×Int,jS a0=some r∧BJ a0=some r∧r.1.length≤1048576∧Sh r.2.1:=by
 simp only [jS,BJ,HH,Option.bind_some]
 by_cases h1:a0.length≤4096
 rotate_left
 ·rw [decide_eq_false (show ¬(a0.length:Int)≤4096 by omega),decide_eq_true (show (a0.length:Int)>4096 by omega)]
  exact ⟨_,rfl,rfl,by simp,Xy⟩
 rw [decide_eq_true (show (a0.length:Int)≤4096 by omega),decide_eq_false (show ¬(a0.length:Int)>4096 by omega)]
 simp only [Bool.not_true,Bool.false_eq_true,if_false]
 by_cases h2:a0.length≤200
 rotate_left
 ·rw [decide_eq_true (show (a0.length:Int)>200 by omega)]
  exact ⟨_,rfl,rfl,by simp,Xy⟩
 rw [decide_eq_false (show ¬(a0.length:Int)>200 by omega)]
 simp only [Bool.false_eq_true,if_false]
 have hI0:fE a0 ([],0,([]:List UInt8),([]:List Ac)):=⟨0,rfl,by omega,rfl,jK⟩
 have hstep:∀s,fE a0 s→(∃s',Ga a0 s=some (.inl s')∧Gu a0 s=some (.inl s')∧fE a0 s'∧((a0.length:Int)-s'.2.1).toNat<((a0.length:Int)-s.2.1).toNat)∨∃r,Ga a0 s=some (.inr r)∧Gu a0 s=some (.inr r)∧r.1.length≤1048576∧Dw (Ae.mk r.2.1 r.2.2):=by
  rintro ⟨p,kk,hh,ww⟩ ⟨k,rfl,hk,hp,hD⟩
  dsimp only at hp hD ⊢
  by_cases hlt:k<a0.length
  ·obtain ⟨r,r1,r2⟩:=fG a0 h0 k hlt hf (Ae.mk hh ww) hD
   obtain ⟨e1,e2⟩:=r2 p (by omega)
   exact .inl ⟨_,e1,e2,⟨k+1,rfl,hlt,by simp [hp],r1⟩,by dsimp only; omega⟩
  ·obtain rfl:k=a0.length:=by omega
   refine .inr ⟨(p,hh,ww),?_,?_,by dsimp only; omega,hD⟩
   ·simp only [Ga]; rw [if_neg (by simp)]
   ·simp only [Gu]; rw [if_neg (by simp)]
 obtain ⟨r,r1,r2⟩:=bQ (step:=Ga a0) (fE a0) (fun s=>((a0.length:Int)-s.2.1).toNat) (fun r=>r.1.length≤1048576∧Dw (Ae.mk r.2.1 r.2.2)) _ hI0 (fun s hs=>by
  rcases hstep s hs with ⟨s',e1,e2,e3,e4⟩ | ⟨r,e1,e2,e3⟩
  ·exact .inl ⟨s',e1,e3,e4⟩
  ·exact .inr ⟨r,e1,e3⟩)
 have hsame:=dR (step:=Ga a0) (step':=Gu a0) (fE a0) (fun s=>((a0.length:Int)-s.2.1).toNat) (fun s hs=>by
  rcases hstep s hs with ⟨s',e1,e2,e3,e4⟩ | ⟨r,e1,e2,e3⟩
  ·rw [e1,e2]
  ·rw [e1,e2]) (fun s hs=>by
  rcases hstep s hs with ⟨s',e1,e2,e3,e4⟩ | ⟨r,e1,e2,e3⟩
  ·exact .inl ⟨s',e1,e3,e4⟩
  ·exact .inr ⟨r,e1⟩) _ hI0
 rw [←hsame,r1]
 obtain ⟨p,hh,ww⟩:=r
 simp only [Option.bind_some,BU _ r2.2]
 exact ⟨_,rfl,rfl,r2.1,r2.2.fit⟩
theorem jR (a0:List Af) (o:EE Qn a0):HF a0=some true:=by
 simp only [HF]
 obtain ⟨r,r1,r3⟩:=DC a0 o 1048576 (by omega)
 rw [r1]
 simp only [Option.bind_some]
 by_cases hr:r<0
 ·rw [decide_eq_true hr]; rfl
 rw [decide_eq_false hr]
 obtain ⟨hl,hf⟩:=r3 (by omega)
 obtain ⟨w,e1,e2,hc,hg⟩:=lR a0 hl hf
 have hn:0≤1+(Gp Lg a0:Int):=by omega
 obtain ⟨n',p',q',k1,k2,k3,k4,k5,k6⟩:=kM w.2.1 hg (1+(w.1.length:Int)) ⟨by omega,by omega⟩
 have e3:(w.2.2 != w.2.2)=false:=by simp
 simp only [Bool.false_eq_true,if_false,BK a0 hl hf,e1,e2,Option.bind_some,kD w.1 hc,Bool.not_true,beq_self_eq_true,if_true,dH _ hg,cond_false,e3,Cl,dK a0 hl hf,BN a0 1 ⟨by omega,by omega⟩ hl hf,markv_len,
  decide_eq_false (show ¬(1+(Gp Lg a0:Int)<0) by omega),HM w.1 1 ⟨by omega,by omega⟩ hc,marked_len,k1,k2,k3,HN w.1 1 ⟨by omega,by omega⟩ hc,decide_eq_false (show ¬(1+(w.1.length:Int)<0) by omega),k6,decide_eq_false (show ¬(n'<0) by omega),bne_self_eq_false]
end Go.Ev
end
