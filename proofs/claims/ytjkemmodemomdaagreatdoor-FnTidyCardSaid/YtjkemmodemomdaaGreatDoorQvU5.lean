/- A slice held against nil; rows that are cleared; bounds that are looked at. -/
import Derived.Test.YtjkemmodemomdaaGreatDoorQvU4
set_option linter.all false
namespace Go.Ev
open Go.RowKit
variable {φ:Bz} {m m':M} {w w' w0:World} {A:Fr} {nt:Nat} {S S':St} {a:Act} {P:Program}
variable {o:Oper} {K:St→Prop} {Q:Exit→Act→World→Prop} {C:Bb}
theorem pX {v:V} {val:Value} {es:List (List V)} (h:RT φ m w v val) (he:Zk v=some es):∃ad cap,val = .slice ad es.length cap∧es.length≤cap∧(ad=none→es=[]):=by
 cases v with
 | lst sz es'=>
  cases sz with
  | zero=>cases he
  | succ sz=>
   simp only [Zk,Option.some.injEq] at he
   subst he
   obtain ⟨ad,cap,g2,g3,g4⟩:=(If h).slice (by omega)
   exact ⟨ad,cap,g2,g3,fun e=>List.eq_nil_of_length_eq_zero (g4 e).1⟩
 | own t off sz es'=>
  cases sz with
  | zero=>cases he
  | succ sz=>
   simp only [Zk,Option.some.injEq] at he
   subst he
   obtain ⟨ad,cap,g2,g3,g4⟩:=(Dd h).slice (by omega)
   exact ⟨ad,cap,g2,g3,fun e=>List.eq_nil_of_length_eq_zero (g4 e).1⟩
 | _=>simp [Zk] at he
theorem eT {x:Ay} {ne:Bool} (hc:Hv P φ o=some (.isnil x ne)) (hd:∀d,o.dst=some d→d<nt) (h:Aw φ w0 A nt m S a w)
  (hw:Nb C o.dst (.isnil x ne) S K):o.wp P a w (Nx φ w0 A nt K) Q:=by
 obtain ⟨t,e,x',_,yt,hop,hu,hx,_⟩:=Bw hc
 obtain ⟨hm,hw⟩:=hw
 split at hw
 ·rename_i es hes
  have hv:RT φ m w (Ca S x) (a.eval x'):=opd'_ok hx h hm rfl
  obtain ⟨ad,cap,g2,g3,g4⟩:=pX hv hes
  have hK:=hw (ad.isNone) (fun hb=>g4 (by cases ad<;>simp at hb ⊢))
  have heq:(Op.equal t (.slice ad es.length cap) (.slice none 0 0)).run P w = .ok ad.isNone w:=by
   show (Op.equalIn (9999+1) t _ _).run P w=_
   unfold Op.equalIn
   cases ad<;>simp [run_underlying hu]
  refine Cc (w':=w) (val:=.bool (if ne then !ad.isNone else ad.isNone)) ?_ ⟨m,_,hK,h.put hd (v:=.bool _) (Dt _)⟩
  have hg:∀op,(eqGuard op t x' (.const (.slice none 0 0)) (.slice ad es.length cap) (.slice none 0 0)).run P w = .ok () w:=fun op=>Jq (by simp) (by simp)
  have hc0:a.eval (.const (.slice none 0 0)) = .slice none 0 0:=rfl
  cases ne
  ·simp only [Bool.false_eq_true,if_false] at hop ⊢
   simp [execOp,hop,g2,hc0,hg,binOp,heq]
  ·simp only [if_true] at hop ⊢
   simp [execOp,hop,g2,hc0,hg,binOp,heq]
 ·exact hw.elim
theorem uB {x:Ay} (hc:Hv P φ o=some (.cap x)) (hd:∀d,o.dst=some d→d<nt) (h:Aw φ w0 A nt m S a w)
  (hw:Nb C o.dst (.cap x) S K):o.wp P a w (Nx φ w0 A nt K) Q:=by
 obtain ⟨cl,t,e,x',hop,hcal,h1,h2,hu,hx⟩:=Bw hc
 obtain ⟨hm,hw⟩:=hw
 split at hw
 ·rename_i T off sz es n hes
  have hv:RT φ m w (.own T off sz es) (a.eval x'):=by rw [←hes]; exact opd'_ok hx h hm rfl
  obtain ⟨hz0,hw⟩:=hw
  obtain ⟨ad,cap,g2,g3,g4⟩:=(Dd hv).slice hz0
  have hK:=hw cap g3 (fun h0=>by
   rcases Dd hv with ⟨_,_,e⟩ | ⟨e,_⟩ | ⟨b,cap',cur,E,_,e,_,_,_,e6,_⟩ | ⟨_,_,_,_,_,e,_⟩
   rotate_right
   ·exact absurd e hz0
   ·rw [g2] at e; simp only [Value.slice.injEq] at e; omega
   ·exact absurd h0 e
   ·rw [g2] at e; cases e
    have:maxLen=9223372036854775807:=rfl
    omega) (fun c0 h0 h1=>by
   obtain ⟨p,len,cap',z1,z2,z3,z4⟩:=h.cp n c0 h0
   rw [←opd'_t hx,g2] at z1
   cases z1
   exact z4 h1)
  have ev:a.eval x'=a.tmps.getD n undef:=opd'_t hx
  refine Cc (w':=w) (val:=.int .i64 cap) ?_ ⟨m,_,hK,Aw.put (S:={ S with cp:=Ho n (fun _=>some (Fj+(cap:Int))) S.cp }) ⟨h.toLay,h.hnt,h.size,h.defers,h.env,h.bx,fun k c hk=>?_⟩ hd (v:=.int _ _) (Bm _ _)⟩
  ·have e1:=Xt h2
   have e2:=Xt h1
   simp [execOp,hop,resolve,hcal,invoke,builtin,e1,e2,g2,Builtin.cap_,run_underlying hu,goInt]
  ·rw [Lx] at hk
   split at hk
   ·rename_i e0
    cases hk
    subst e0
    refine ⟨ad,es.length,cap,by rw [←ev]; exact g2,by rw [Wv]; exact Int.le_refl _,fun hh=>?_,fun _=>by omega⟩
    rw [Wv] at hh
    intro h0
    have:=(g4 h0).2
    omega
   ·exact h.cp k c hk
 ·exact hw.elim
theorem pJ {x lo hi mx:Ay} (hc:Hv P φ o=some (.chk3 x lo hi mx)) (hd:∀d,o.dst=some d→d<nt) (h:Aw φ w0 A nt m S a w)
  (hw:Nb C o.dst (.chk3 x lo hi mx) S K):o.wp P a w (Nx φ w0 A nt K) Q:=by
 obtain ⟨t,e,i,x',lo',hi',mx',hop,hu,hi0,hx,hlo,hhi,hmx⟩:=Bw hc
 obtain ⟨⟨hm,hm1,hm2,hm3⟩,hw⟩:=hw
 split at hw
 ·rename_i es k1 A1 k2 B1 k3 C1 hes e1 e2 e3
  obtain ⟨q1,q2,q3,q4,hK⟩:=hw
  have hv:RT φ m w (Ca S x) (a.eval x'):=opd'_ok hx h hm rfl
  have v1:RT φ m w (.int k1 A1) (a.eval lo'):=by rw [←e1]; exact opd'_ok hlo h hm1 rfl
  have v2:RT φ m w (.int k2 B1) (a.eval hi'):=by rw [←e2]; exact opd'_ok hhi h hm2 rfl
  have v3:RT φ m w (.int k3 C1) (a.eval mx'):=by rw [←e3]; exact opd'_ok hmx h hm3 rfl
  obtain ⟨ad,cap,g2,g3,_⟩:=pX hv hes
  refine Cc (w':=w) (val:=.slice (if C1.toNat=A1.toNat then ad else ad.map (·.add (A1.toNat*i.size))) (B1.toNat-A1.toNat) (C1.toNat-A1.toNat)) ?_ ⟨m,_,hK,h.put hd Cy⟩
  have b3:=Fn (P:=P) (w:=w) (k:=k3) (n:=C1) (y:=cap) (code:=.slice3Acap) (by omega) (by omega)
  have b2:=Fn (P:=P) (w:=w) (k:=k2) (n:=B1) (y:=C1.toNat) (code:=.slice3B) (by omega) (by omega)
  have b1:=Fn (P:=P) (w:=w) (k:=k1) (n:=A1) (y:=B1.toNat) (code:=.slice3C) (by omega) (by omega)
  simp only [execOp,hop,Instr.sliceAt,g2,Sem.run_bind,run_underlying hu,Result.andThen_ok,Instr.slice,Option.map_some,Instr.sliceBounds,Ce v1,Ce v2,Ce v3,if_true,Option.isSome_some,b1,b2,b3,Dg hi0,Sem.run_pure]
 ·exact hw.elim
theorem Re (z:Array Value) (n:Nat):Builtin.zeroCells z n=madeCells z (n*z.size):=rfl
theorem eR {sz:Nat} {zero:List V} {x:Ay} (hc:Hv P φ o=some (.clear sz zero x)) (hd:∀d,o.dst=some d→d<nt) (h:Aw φ w0 A nt m S a w)
  (hw:Nb C o.dst (.clear sz zero x) S K):o.wp P a w (Nx φ w0 A nt K) Q:=by
 obtain ⟨cl,s,e,i,x',hop,hcal,h1,h2,h3,h4,h5,h6,rfl,h7,h8⟩:=Bw hc
 obtain ⟨hm,hw⟩:=hw
 split at hw
 ·rename_i T off s0 es hx
  obtain ⟨rfl,hdp,hK⟩:=hw
  have vx:RT φ m w (.own T off i.size es) (a.eval x'):=by rw [←hx]; exact opd'_ok h4 h hm rfl
  obtain ⟨i',z,g1,g2,g3⟩:=Er (φ:=φ) (m:=m) (w:=w) h5
  rw [h6] at g1
  obtain rfl:=Option.some.inj g1
  have hzs:z.cells.size=i.size:=by rw [g3.1]; exact h8
  have fin:∀ {w':World},(Builtin.clear_ #[s] o.type #[a.eval x']).run P w = .ok (.tuple #[]) w'→Aw φ w0 A nt m (S.map (Tz T i.size off (List.replicate es.length zero))) a w' →
    o.wp P a w (Nx φ w0 A nt K) Q:=by
   intro w' k1 k2
   have a1:cl.argTypes = #[s]:=by apply Array.ext'; simpa using h1
   have a2:cl.args = #[x']:=by apply Array.ext'; simpa using h2
   refine Cc (w':=w') (val:=.tuple #[]) ?_ ⟨m,_,hK,k2.put hd Cy⟩
   simp only [execOp,hop,resolve,hcal,invoke,builtin,Sem.run_bind,Sem.run_pure,Result.andThen_ok,a1,a2,List.map_toArray,List.map_cons,List.map_nil,k1]
  rcases Dd vx with ⟨_,rfl,z3⟩ | ⟨_,rfl,ad,c,z3⟩ | ⟨b,cap,cur,E,z1,z2,z3,z4,z5,z6,z7,z8,z9⟩ | ⟨_,_,_,_,_,z2,_⟩
  rotate_right
  ·omega
  ·rw [z3] at fin
   exact fin (w':=w) (by simp [Builtin.clear_,run_underlying h3]) (by simpa using h.upd_nil T i.size off)
  ·rw [z3] at fin
   exact fin (w':=w) (by simp [Builtin.clear_,run_underlying h3]) (by simpa using h.upd_nil T i.size off)
  ·rw [z2] at fin
   cases hes:es with
   | nil=>
    subst hes
    exact fin (w':=w) (by simp [Builtin.clear_,run_underlying h3]) (by simpa using h.upd_nil T i.size off)
   | cons e0 er=>
   have hne:es.length≠0:=by rw [hes]; simp
   clear hes
   have hu:∀y∈List.replicate es.length zero,y.length=i.size:=fun y hy=>by rw [List.eq_of_mem_replicate hy,h8]
   have hs:∀y∈List.replicate es.length zero,∀c∈y,Ie c=true:=fun y hy=>by rw [List.eq_of_mem_replicate hy]; exact Hr h5
   have hz:=g3.zeros es.length (by rw [h8]; omega)
   rw [h8] at hz
   have hrows:=hz.rows hu hs
   generalize hnews:(madeCells z.cells (es.length*i.size)).toList=news
   have hlen:news.length=es.length*i.size:=by rw [←hnews,Array.length_toList,size_madeCells]
   have hfit:off*i.size+es.length*i.size≤cur.size:=by
    rw [←z5,←Nat.add_mul]
    exact Nat.mul_le_mul_right _ (by omega)
   have hones:∀v∈news,v.oneCell'=true:=fun v hv=>by
    rw [←hnews] at hv
    exact hz.ones v hv
   have hst:=run_storeCells_at P b (off*i.size) E news 0 cur w z3 (by rw [hlen]; simpa using hfit) hones
   simp only [Nat.add_zero] at hst
   have hwr:=Cq cur news (off*i.size)
   have hsw:=Dy cur news (off*i.size) (by rw [hlen]; exact hfit)
   rw [hlen] at hwr hst hsw
   generalize hcur':(cur.toList.take (off*i.size)++news++cur.toList.drop (off*i.size+es.length*i.size)).toArray=cur' at hwr hst hsw
   refine fin (w':=w.setRow b cur') ?_ (h.rowWrite z1 z3 i.size off (List.replicate es.length zero) news cur' z7.1 hu ⟨hsw,fun j k hk=>?_⟩ (fun j y k c k1 k2=>?_) hdp)
   ·have:es.length=(es.length-1)+1:=by omega
    have e2:Builtin.zeroCells z.cells es.length=madeCells z.cells (es.length*i.size):=by rw [Re,hzs]
    unfold Builtin.clear_
    rw [this]
    simp only [List.getElem?_toArray,List.getElem?_cons_zero,Sem.run_bind,run_underlying h3,Result.andThen_ok,zeroValue,typeInfo,h6,g2,Sem.run_pure]
    rw [←this]
    simp [e2,hnews,hst,zeroValue,typeInfo,h6,g2]
   ·rw [hwr _ hfit,List.length_replicate]
    by_cases hj:off≤j∧j<off+es.length
    ·rw [if_pos hj,if_pos]
     ·congr 1
      rw [Nat.sub_mul]
      have:off*i.size≤j*i.size:=Nat.mul_le_mul_right _ hj.1
      omega
     ·have e1:off*i.size≤j*i.size:=Nat.mul_le_mul_right _ hj.1
      have e2:(j+1)*i.size≤(off+es.length)*i.size:=Nat.mul_le_mul_right _ hj.2
      rw [Nat.add_mul,Nat.one_mul,Nat.add_mul] at e2
      omega
    ·rw [if_neg hj,if_neg]
     rintro ⟨e1,e2⟩
     apply hj
     constructor
     ·rcases Nat.lt_or_ge j off with h5 | h5
      ·have:(j+1)*i.size≤off*i.size:=Nat.mul_le_mul_right _ h5
       rw [Nat.add_mul,Nat.one_mul] at this
       omega
      ·exact h5
     ·rcases Nat.lt_or_ge j (off+es.length) with h5 | h5
      ·exact h5
      ·have:(off+es.length)*i.size≤j*i.size:=Nat.mul_le_mul_right _ h5
       rw [Nat.add_mul] at this
       omega
   ·obtain ⟨v,k3,k4⟩:=hrows j y k c k1 k2
    refine ⟨v,?_,k4⟩
    rw [←hnews]
    simpa using k3
 ·exact hw.elim
end Go.Ev
