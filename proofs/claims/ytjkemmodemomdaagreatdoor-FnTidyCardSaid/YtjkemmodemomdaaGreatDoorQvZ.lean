/- Guarded operations, regions, code. -/
import Derived.Test.YtjkemmodemomdaaGreatDoorQvY
set_option linter.all false
namespace Go.Ev
open Go.RowKit
variable {φ:Bz} {m m' m0 m1 m2:M} {w w' w0:World} {A:Fr} {nt:Nat} {S S' S1:St} {a:Act} {P:Program}
variable {o:Oper} {K:St→Prop} {Q:Exit→Act→World→Prop}
theorem Ss {g:Bool} {v:V} {val:Value} (h:RT φ m w v val) (hg:g=true):RV φ m w (.may g v) val:=⟨fun _=>h,fun h2=>Bool.noConfusion (hg.symm.trans h2)⟩
theorem Pi {g:Bool} {v:V} (hg:g=false):RV φ m w (.may g v) undef:=⟨fun h2=>Bool.noConfusion (hg.symm.trans h2),fun _=>rfl⟩
theorem Wm:Cg Jn:=by
 refine ⟨rfl,fun c h1 h2 h3=>?_⟩
 cases c with
 | agg cs=>exact absurd rfl (h1 cs)
 | tup vs=>exact absurd rfl (h2 vs)
 | may b v=>exact absurd rfl (h3 b v)
 | own t off sz es=>simp only [Jn]; cases Az t<;>simp
 | _=>simp [Jn,Gi,Iw]
theorem Uu {f fid:Nat} {args:List V} {vals:List Value} {d:Option Nat} (h:Aw φ w0 A nt m S a w) (hd:∀x,d=some x→x<nt) (hf:look φ fid=some f)
  (hlen:vals.length=args.length) (hv:∀(i:Nat) (v:V) (x:Value),args[i]? = some v→vals[i]? = some x→RT φ m w v x)
  (hw:Xe (By P φ) f args d true S K):Nf P fid∧Calls P fid vals.toArray w fun e w'=>∃x,e = .returned x∧Nx φ w0 A nt K (a.put d x) w':=by
 obtain ⟨hu,fz,r,hC,hfl,hno,hK⟩:=hw
 obtain ⟨hE,hcall⟩:=hC rfl fid hf
 refine ⟨hE,?_⟩
 have hft:S.frzTags args [] [] []=Bj (Ld args):=by
  have e0:∀l:List Nat,Rp [] l=l:=fun l=>by
   induction l with
   | nil=>rfl
   | cons x r ih=>simp [Rp,ih]
  simp [St.frzTags,St.given,e0]
 have hnone:∀k t b,(Ci m [] [] [] fz).blk k t=some b→False:=fun k t b hb=>by
  obtain ⟨T,_,h2⟩:=Bh hb
  rcases h2 with ⟨_,h2⟩ | ⟨_,h2⟩<;>simp at h2
 have hnn:∀T j c b,(Ci m [] [] [] fz).nst T j c=some b→False:=fun T j c b hb=>by
  obtain ⟨i,X,_,_,h2,_⟩:=Bl hb
  simp at h2
 have hheld:∀b,¬(Ci m [] [] [] fz).held b:=by
  rintro b (⟨k,t,h⟩ | ⟨T,j,c,h⟩)
  ·exact hnone _ _ _ h
  ·exact hnn _ _ _ _ h
 have H:Rs m m (Ci m [] [] [] fz) [] [] [] (S.frzTags args [] [] []) fz:=by
  refine ⟨by simp,by simp,by simp,by simp,by simp,fun b hb=>El hb,fun k t b hb hav hf=>?_,fun t b hb hav hf ht _=>?_,fun T j c b hb hav hf=>?_,fun T j c b hb hav hf ht _=>?_⟩
  ·rcases hav with ⟨hh,_⟩ | h1
   ·rw [hf] at hh; cases hh
   ·exact (hheld b h1).elim
  ·rw [hft,hno hf] at ht
   simp at ht
  ·rcases hav with ⟨hh,_⟩ | h1
   ·rw [hf] at hh; cases hh
   ·exact (hheld b h1).elim
  ·rw [hft,hno hf] at ht
   simp at ht
 refine (hcall w _ vals (dM h h H hlen hv (hu rfl) rfl rfl rfl)).mono fun e w' hh=>?_
 obtain ⟨x,m',rfl,post⟩:=hh
 refine ⟨x,rfl,?_⟩
 have hold:∀b,b<w.heap.size→w'.heap[b]? = w.heap[b]? := fun b hb=>post.lies.block b hb (hheld b)
 have hnew:∀k t b,m'.blk k t=some b→w.heap.size≤b:=fun k t b hb=>by
  rcases (post.bnd _ _ _ hb).2.1 with h2 | h2
  ·exact h2
  ·exact (hheld _ h2).elim
 have hlies:Hk A.ext w0 w':=by
  have L1:=h.lies
  refine ⟨post.lies.os.trans L1.os,⟨post.lies.tape.1.trans L1.tape.1,Nat.le_trans L1.tape.2 post.lies.tape.2⟩,post.lies.output.trans L1.output,Nat.le_trans L1.size post.lies.size,fun k hk hEx=>?_,fun k cur e fr hk g1=>?_⟩
  ·rw [hold k (Nat.lt_of_lt_of_le hk L1.size),L1.block k hk hEx]
  ·obtain ⟨c1,g2,g3⟩:=L1.shape k cur e fr hk g1
   exact ⟨c1,by rw [hold k (Nat.lt_of_lt_of_le hk L1.size)]; exact g2,g3⟩
 have hrel:=h.world w' post.lies.size hold hlies
 have hav:∀b,w.heap.size≤b→¬m.avoid b:=by
  rintro b hb (hA | ⟨k,t,h2⟩ | ⟨T,j,c,h2⟩)
  ·have g1:=h.hAlt b (h.hA ▸ hA)
   have g2:=h.lies.size
   omega
  ·have:=(h.bnd _ _ _ h2).1
   omega
  ·have:=(h.n.bnd _ _ _ _ h2).1
   omega
 have hsub:fz=true→∀b,¬m'.avoid b→¬m.avoid b:=by
  rintro hf b hn hh
  refine hn (.inl ?_)
  rw [post.hA]
  rcases hh with hA | ⟨k,t,h2⟩ | ⟨T,j,c,h2⟩
  ·exact ⟨hf,.inl hA⟩
  ·exact ⟨hf,.inr (.inl ⟨k,t,h2,by rintro (⟨_,h3⟩ | ⟨_,h3⟩)<;>simp at h3⟩)⟩
  ·exact ⟨hf,.inr (.inr ⟨T,j,c,h2,by simp⟩)⟩
 have cell:∀c y,c∈r.flat1→RC φ m' w' c y→RC φ m w' (Jn c) y:=by
  intro c y hc hy
  have hc':c∈r.flat:=by
   have hn:=Bt post.res
   cases hr:r with
   | may b v=>exact absurd hr (hn b v)
   | _=>rw [hr] at hc; exact hc
  have fl:=fun hf=>List.all_eq_true.1 (hfl hf) c hc'
  have rd:∀ {c0:V} {z:Value},(fz=false→scal c0=true)→RD φ w' m'.avoid c0 z→RD φ w' m.avoid c0 z:=by
   intro c0 z hs hd
   cases hf:fz with
   | true=>exact hd.mono (Nat.le_refl _) (fun _ _ _=>rfl) (fun b _=>hsub hf b)
   | false=>exact Xm (hs hf) hd
  have base:∀c0:V,c=c0→RD φ w' m'.avoid c0 y→RC φ m w' (Gi c0) y:=by
   intro c0 e hd
   cases hf:fz with
   | true=>exact Eu (Mc (hd.mono (Nat.le_refl _) (fun _ _ _=>rfl) (fun b _=>hsub hf b)))
   | false=>
    have:=fl hf
    subst e
    cases hd with
    | int k n=>exact RD.int k n
    | bool b=>exact RD.bool b
    | str s=>exact RD.str s
    | undef _ h=>trivial
    | _=>simp [Gb] at this
  cases c with
  | own t off sz es=>
   simp only [Jn]
   cases hdp:Az t with
   | true=>trivial
   | false=>
   rcases hy with ⟨_,rfl,rfl⟩ | ⟨_,rfl,ad,cp,rfl⟩ | ⟨b,cap,cur,e,h1,rfl,h3,h4,h5,h6,h7,h8,h9⟩ | ⟨b,es',ents,clock,_,rfl,rfl,rfl,h1,h3,h4⟩
   rotate_right
   ·exact RD.mp es' b ents clock (post.bnd _ _ _ h1).1 (hav b (hnew _ _ _ h1)) h3 h4
   ·exact RD.nil _
   ·exact RD.emp _ _ _
   ·refine RD.lst sz es b (off*sz) cap (fun j k=>(cur[(off+j)*sz+k]?).getD undef) (post.bnd _ _ _ h1).1 (hav b (hnew _ _ _ h1)) h4 (fun j e hj=>h8 e (List.mem_of_getElem? hj)) ?_ ?_
    ·intro j e k c g1 g2
     obtain ⟨v,g3,_,_⟩:=h9 j e k c g1 g2
     have e1:off*sz+j*sz+k=(off+j)*sz+k:=by rw [Nat.add_mul]
     rw [cell_of_row w' b _ cur _ _ h3,e1,g3]
     rfl
    ·intro j e k c g1 g2
     obtain ⟨v,g3,_,g5⟩:=h9 j e k c g1 g2
     simp only [g3,Option.getD_some]
     refine rd (fun hf=>?_) (g5.rd hdp)
     have:=fl hf
     simp only [Gb,hdp,Bool.false_or] at this
     exact List.all_eq_true.1 (List.all_eq_true.1 this e (List.mem_of_getElem? g1)) c (List.mem_of_getElem? g2)
  | ptr t k=>trivial
  | optr t sz j k=>trivial
  | nrow T j c sz es=>trivial
  | undef=>trivial
  | agg x1=>trivial
  | tup x1=>trivial
  | may x1 x2=>trivial
  | clo f caps=>
   obtain ⟨fid,vs,g1,rfl,g3,g4⟩:=hy
   cases hf:fz with
   | false=>
    have:=fl hf
    simp [Gb] at this
   | true=>
    refine ⟨fid,vs,g1,rfl,by simpa using g3,fun i c0 v k1 k2=>?_⟩
    simp only [List.getElem?_map,Option.map_eq_some_iff] at k1
    obtain ⟨c1,k1,rfl⟩:=k1
    have hq:=g4 i c1 v k1 k2
    have hd:RD φ w' m.avoid (Iw c1) v:=by
     rcases Jg hq with ⟨T,k,rfl,hp⟩ | ⟨_,hd⟩
     ·exact .undef _ hp.one
     ·exact (Jf hd).mono (Nat.le_refl _) (fun _ _ _=>rfl) (fun b _=>hsub hf b)
    cases c1<;>exact hd
  | int x1 x2=>exact base (.int x1 x2) rfl hy
  | bool x1=>exact base (.bool x1) rfl hy
  | str x1=>exact base (.str x1) rfl hy
  | lst x1 x2=>exact base (.lst x1 x2) rfl hy
  | iptr x1=>exact base (.iptr x1) rfl hy
 have hres:RT φ m w' (mapT Jn r) x:=RT.mapT Wm post.res cell
 refine ⟨_,_,hK,hrel.put hd ?_⟩
 rw [Hh _ _ (Bt post.res)]
 exact Ss hres rfl
theorem tP {op:Sw} {g:Bool} (hc:Hv P φ o=some op) (hd:∀d,o.dst=some d→d<nt) (h:Aw φ w0 A nt m S a w)
  (hw:xG (By P φ) o.dst op g S K):(g=true→o.wp P a w (Nx φ w0 A nt K) Q)∧(g=false→Nx φ w0 A nt K (a.put o.dst undef) w):=by
 have rest:(g=true→Nb (By P φ) o.dst op S K)∧(g=false→K (S.put o.dst .undef)) →
   (g=true→o.wp P a w (Nx φ w0 A nt K) Q)∧(g=false→Nx φ w0 A nt K (a.put o.dst undef) w):=fun hw=>
  ⟨fun hg=>qK hc hd h (hw.1 hg),fun hg=>⟨m,_,hw.2 hg,h.put hd Cy⟩⟩
 cases op with
 | p u=>
  obtain ⟨v,hv,hK⟩:=hw
  refine ⟨fun hg=>?_,fun hg=>⟨m,_,hK,h.put hd (Pi hg)⟩⟩
  subst hg
  obtain ⟨hm,ψ,hp,hψ⟩:=hv rfl
  obtain ⟨val,hr,hv⟩:=dP hc h hm hp hψ
  exact Cc hr ⟨m,_,hK,h.put hd (Ss hv rfl)⟩
 | pick c x y=>
  obtain ⟨v,hv,hK⟩:=hw
  refine ⟨fun hg=>?_,fun hg=>⟨m,_,hK,h.put hd (Pi hg)⟩⟩
  subst hg
  obtain ⟨c',x',y',hop,h1,h2,h3⟩:=Bw hc
  obtain ⟨hmc,cb,hcb,hma,hmb,rfl⟩:=hv rfl
  have hc1:RT φ m w (Ca S c) (a.eval c'):=opd'_ok h1 h hmc rfl
  rw [show Ca S c = .bool cb from hcb] at hc1
  have e1:=Dc hc1
  have hv:RT φ m w (Ke cb (Ab (S.val x)) (Ab (S.val y))) (if cb then a.eval x' else a.eval y'):=by
   apply Qu
   cases cb with
   | true=>exact opd'_ok h2 h hma rfl
   | false=>exact opd'_ok h3 h hmb rfl
  refine Cc (w':=w) (val:=if cb then a.eval x' else a.eval y') ?_ ⟨m,_,hK,h.put hd (Ss hv rfl)⟩
  simp only [execOp,hop,e1,asBool,Sem.run_bind,Sem.run_pure,Result.andThen_ok]
 | call f args=>
  rcases hw with ⟨hm,hw⟩ | hw
  ·refine ⟨fun hg=>?_,fun hg=>?_⟩
   ·subst hg
    obtain ⟨cl,fid,hop,hcal,hf,harg⟩:=Bw hc
    obtain ⟨h1,h2⟩:=Ge h harg (Hw hm)
    obtain ⟨hE,hcall⟩:=Uu h hd hf h1 h2 hw
    refine upon_enter (fid:=fid) (vals:=(cl.args.toList.map a.eval).toArray) rfl ?_ hcall
    have e1:cl.args.map a.eval=(cl.args.toList.map a.eval).toArray:=by
     apply Array.ext'
     simp
    simp only [execOp,hop,resolve,hcal,Act.eval,Deferred.ofValue,Sem.run_bind,Sem.run_pure,Result.andThen_ok,invoke]
    rw [Gp hE,e1]
    simp
   ·subst hg
    obtain ⟨_,fz,r,_,_,_,hK⟩:=hw
    exact ⟨m,_,hK,h.put hd (Pi rfl)⟩
  ·exact rest hw
 | callv x args=>
  rcases hw with ⟨hm0,hm,hw⟩ | hw
  ·split at hw
   ·rename_i f caps hx
    refine ⟨fun hg=>?_,fun hg=>?_⟩
    ·subst hg
     obtain ⟨cl,t,hop,hcal,rfl,harg⟩:=Bw hc
     obtain ⟨h1,h2⟩:=Ge h harg (Hw hm)
     have hv:RT φ m w (.clo f caps) (a.tmps.getD t undef):=by rw [←hx]; exact Jh (h.val t) hm0 rfl
     obtain ⟨fid,vs,g1,g2,g3,g4⟩:=hv.1
     obtain ⟨hE,hcall⟩:=Uu (vals:=cl.args.toList.map a.eval++vs) h hd g1 (by simp only [List.length_append,h1,g3]) (fun i v y k1 k2=>by
      by_cases hi:i<(args.map fun y=>Ab (S.val y)).length
      ·rw [List.getElem?_append_left hi] at k1
       rw [List.getElem?_append_left (by rw [h1]; exact hi)] at k2
       exact h2 i v y k1 k2
      ·rw [List.getElem?_append_right (by omega)] at k1
       rw [List.getElem?_append_right (by rw [h1]; omega),h1] at k2
       have hq:=g4 _ v y k1 k2
       exact Fx (Ji (Ew hq) (Wb hq))) hw
     refine upon_enter (fid:=fid) (vals:=(cl.args.toList.map a.eval++vs).toArray) rfl ?_ hcall
     simp only [execOp,hop,resolve,hcal,Act.eval,g2,Deferred.ofValue,Sem.run_bind,Sem.run_pure,Result.andThen_ok,invoke]
     rw [Gp hE]
     congr 2
     apply Array.ext'
     simp
    ·subst hg
     obtain ⟨_,fz,r,_,_,_,hK⟩:=hw
     exact ⟨m,_,hK,h.put hd (Pi rfl)⟩
   ·exact hw.elim
  ·exact rest hw
 | _=>exact rest hw
theorem Oq {ops:Array Oper} (hg:o.guard=none):Region.wanted o (yielded ops a.tmps)=true:=by simp [Region.wanted,hg]
theorem cQ {ops:Array Oper} (h:Aw φ w0 A nt m S a w) (hw:Cb (By P φ) (Ot P φ nt ops o) S K):
  if Region.wanted o (yielded ops a.tmps) then o.wp P a w (Nx φ w0 A nt K) Q else Nx φ w0 A nt K (a.put o.dst undef) w:=by
 unfold Ot at hw
 by_cases hdst:Mw nt o.dst=true
 ·rw [if_pos hdst] at hw
  exact hw.elim
 rw [if_neg hdst] at hw
 have hd:∀d,o.dst=some d→d<nt:=fun d e=>by
  rw [e] at hdst
  simpa [Mw] using hdst
 split at hw
 ·rename_i hg
  rw [Oq hg,if_pos rfl]
  simp only [Cb] at hw
  cases hc:Hv P φ o with
  | none=>rw [hc] at hw; exact hw.elim
  | some op=>
   rw [hc] at hw
   exact qK hc hd h hw
 ·rename_i g want hg
  split at hw
  ·rename_i s hs
   simp only [Cb] at hw
   split at hw
   ·rename_i gb hgb
    have hv:=h.val s
    have hy:Region.wanted o (yielded ops a.tmps)=gb:=by
     simp only [Region.wanted,hg,yielded,hs,Option.bind_some]
     generalize S.val (.t s)=v at hgb hv
     cases v with
     | bool b=>
      simp only [Jc,Option.some.injEq] at hgb
      have e:=Dc (φ:=φ) (m:=m) (w:=w) (b:=b) hv
      have:a.tmps[s]? = some (.bool b):=by
       rw [Array.getD_eq_getD_getElem?] at e
       cases ht:a.tmps[s]? with
       | none=>rw [ht] at e; cases e
       | some u=>rw [ht] at e; simpa using e
      rw [this,←hgb]
      cases b<;>cases want<;>rfl
     | may b' x=>
      cases x with
      | bool b=>
       simp only [Jc,Option.some.injEq] at hgb
       cases b' with
       | true=>
        have e:=Dc (φ:=φ) (m:=m) (w:=w) (b:=b) (hv.1 rfl)
        have:a.tmps[s]? = some (.bool b):=by
         rw [Array.getD_eq_getD_getElem?] at e
         cases ht:a.tmps[s]? with
         | none=>rw [ht] at e; cases e
         | some u=>rw [ht] at e; simpa using e
        rw [this,←hgb]
        cases b<;>cases want<;>rfl
       | false=>
        have e:=hv.2 rfl
        rw [Array.getD_eq_getD_getElem?] at e
        rw [←hgb]
        cases ht:a.tmps[s]? with
        | none=>cases want<;>rfl
        | some u=>
         rw [ht] at e
         simp only [Option.getD_some] at e
         subst e
         cases want<;>rfl
      | _=>simp [Jc] at hgb
     | _=>simp [Jc] at hgb
    rw [hy]
    cases hc:Hv P φ o with
    | none=>
     rw [hc] at hw
     cases gb with
     | true=>exact (hw.1 rfl).elim
     | false=>exact ⟨m,_,hw.2 rfl,h.put hd Cy⟩
    | some op=>
     rw [hc] at hw
     have:=tP (Q:=Q) hc hd h hw
     cases gb with
     | true=>exact this.1 rfl
     | false=>exact this.2 rfl
   ·exact hw.elim
  ·simp only [Cb] at hw
   exact hw.elim
end Go.Ev
