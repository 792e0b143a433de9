/- Steps of the small machine, second part: slices, rows that grow, calls, ends, drawn orders. -/
import Derived.Test.YtdmclbbhhcpjfaaDoorQvL
set_option linter.all false
namespace Go.Ev
def JE {α:Type} (l:List α) (lo hi:Int):Option (List α):=if 0≤lo∧lo≤hi∧hi≤l.length then some ((l.take hi.toNat).drop lo.toNat) else none
theorem jJ {α:Type} {l y:List α} {lo hi:Int} (h:JE l lo hi=some y):0≤lo∧lo≤hi∧hi≤l.length∧y=(l.take hi.toNat).drop lo.toNat:=by
 unfold JE at h
 split at h
 ·rename_i hc
  exact ⟨hc.1,hc.2.1,hc.2.2,(Option.some.inj h).symm⟩
 ·cases h
def ovl {α:Type} (l:List α) (at_:Nat) (ys:List α):List α:=l.mapIdx fun i e=>if at_≤i then (ys[i-at_]?).getD e else e
section
variable {C:At} {Q:Ex→St→Prop} {S:St} {T:List Ew} {l:List Bg} {d:Option Nat} {K:St→Prop} {i:Bg}
theorem En {x:Av} {v:V} (h:S.val x=v) (hm:Ag true v):Ag true (S.val x):=by rw [h]; exact hm
theorem rS {α:Type} {e:α→List V} {l0 y:List α} {x:Av} {lo hi:Option Av} {a b:Option Int} {vx:V} {t off sz:Nat} (hx:S.val x=vx) (hx':Ad vx = .own t off sz (l0.map e)) (hm:Ag true vx)
  (hm2:Ba (nm S) (lo.toList++hi.toList)) (ha:Fq (lo.map fun x=>Ad (S.val x))=some a) (hb:Fq (hi.map fun x=>Ad (S.val x))=some b)
  (hy:JE l0 (a.getD 0) (b.getD l0.length)=some y):Cj S (.p (.slice x lo hi sz)) (.own t (off+(a.getD 0).toNat) sz (y.map e)):=by
 obtain ⟨h1,h2,h3,rfl⟩:=jJ hy
 refine ⟨⟨En hx hm,hm2⟩,?_⟩
 have h0:(b.getD l0.length).toNat-l0.length=0:=by omega
 simp only [pu,hx,hx',ha,hb,List.length_map,h0,Zw,List.replicate_zero,List.append_nil,List.map_take,List.map_drop]
 exact ⟨_,rfl,trivial,h1,h2,.inl h3⟩
theorem Yq:∀l:List UInt8,Tx (l.map GS)=l
 | []=>rfl
 | b::r=>by
  simp only [List.map_cons,GS,Tx]
  rw [Yq r]
  simp
theorem Ql {x:Av} {vx:V} {s:List UInt8} {t off:Nat} (hx:S.val x=vx) (hx':Ad vx = .own t off 1 (s.map GS)) (hm:Ag true vx):Cj S (.p (.toStr x)) (.str s):=by
 refine ⟨⟨En hx hm,trivial⟩,?_⟩
 simp only [pu,hx,hx',Yq]
 exact ⟨_,rfl,trivial,rfl⟩
theorem II {α:Type} {e:α→List V} {l0:List α} {x:Av} {vx:V} {t off sz:Nat} (hx:S.val x=vx) (hx':Ad vx = .own t off sz (l0.map e)) (hm:Ag true vx) (hz:sz≠0:=by decide):Cj S (.p (.len x)) (.int .i64 (l0.length:Int)):=by
 refine ⟨⟨En hx hm,trivial⟩,(sz≠0),?_,hz⟩
 simp only [pu,hx,hx',List.length_map]
theorem c_ {o:PU} {v:V} (h:Cj S (.p o) v) (k:K (S.putC d v (Gd (fun x=>Ad (S.val x)) o))):Ca C ⟨d,.p o,none⟩ S K:=by
 obtain ⟨h1,ψ,h2,h3⟩:=h
 exact p_ h1 h2 h3 k
theorem vV {α:Type} {e:α→List V} {l0 l1:List α} {x y:Av} {t sz by_:Nat} {vy:V} (hx:S.val x = .own t 0 sz (l0.map e)) (hy:S.val y=vy) (hm:Ag true vy) (hs:Jz (Ad vy)=some (sz,l1.map e))
  (ht:t<As) (hn:(l0.length+l1.length)*by_≤140737488355328) (k:K ((S.drop t).putC d (.own t 0 sz ((l0++l1).map e)) (Iw x (l0.length+l1.length)))) (hdp:Ax t=false:=by rfl):Ca C ⟨d,.app sz by_ x y,none⟩ S K:=by
 refine ⟨En hx trivial,En hy hm,?_⟩
 rw [hx,hy]
 dsimp only [Ad]
 dsimp only [Ad] at hs
 rw [hs]
 refine ⟨ht,rfl,rfl,rfl,by simpa using hn,hdp,?_⟩
 rw [←List.map_append,List.length_map,List.length_map]
 exact k
theorem vW {α:Type} {e:α→List V} {l0:List α} {x y:Av} {t sz by_ d':Nat} {ki:IntKind} {l c:Int} {zero:List V} (z:α) (hx:S.val x = .own t 0 sz (l0.map e)) (hy:S.val y = .int ki l) (hz:e z=zero)
  (ht:t<As) (h0:0≤l) (hn:((l0.length:Int)+l)*by_≤140737488355328) (hc:S.capOf x=some c) (hc1:Dr≤c) (hc2:c-Dr<l0.length+l)
  (k:K ((S.drop (64*d')).put (some d') (.own (64*d') 0 sz ((l0++List.replicate l.toNat z).map e)))) (hdp:Ax t=false:=by rfl):Ca C ⟨some d',.appz sz by_ zero x y,none⟩ S K:=by
 refine ⟨En hx trivial,En hy trivial,?_⟩
 rw [hx,hy]
 dsimp only [Ad]
 refine ⟨ht,rfl,rfl,h0,by simpa using hn,hdp,?_⟩
 rw [List.map_append,List.map_replicate,hz] at k
 rw [List.length_map]
 exact .inr ⟨d',c,rfl,hc,hc1,hc2,k⟩
theorem cap_ {α:Type} {e:α→List V} {l0:List α} {t off sz n:Nat} (hx:S.val (.t n) = .own t off sz (l0.map e))
  (k:∀c:Nat,l0.length≤c→(off=0→c≤9223372036854775807)→(∀c0,S.capOf (.t n)=some c0→Dr≤c0→(c:Int)=c0-Dr)→K (St.put { S with cp:=Ht n (fun _=>some (Dr+c)) S.cp } d (.int .i64 c))) (hz:sz≠0:=by decide):Ca C ⟨d,.cap (.t n),none⟩ S K:=by
 refine ⟨En hx trivial,?_⟩
 rw [hx]
 dsimp only [Ad]
 rw [List.length_map]
 exact ⟨hz,k⟩
theorem hO {α:Type} {e:α→List V} {x y:Av} {d sz by_:Nat} {k1 k2:IntKind} {a c:Int} {zero:List V} (z:α) (hx:S.val x = .int k1 a) (hy:S.val y = .int k2 c) (h0:0≤a) (hac:a=c) (hn:c*by_≤140737488355328)
  (hz:e z=zero) (k:K ((S.drop (64*d)).put (some d) (.own (64*d) 0 sz ((List.replicate a.toNat z).map e)))):Ca C ⟨some d,.make sz by_ zero x y,none⟩ S K:=by
 refine ⟨En hx trivial,En hy trivial,?_⟩
 rw [hx,hy]
 refine ⟨h0,hac,hn,?_⟩
 rw [List.map_replicate,hz] at k
 exact .inl k
theorem copy_ {α:Type} {e:α→List V} {l0 l1:List α} {x y:Av} {t off sz:Nat} {vy:V} (hx:S.val x = .own t off sz (l0.map e)) (hy:S.val y=vy) (hm:Ag true vy) (hs:Jz (Ad vy)=some (sz,l1.map e))
  (k:K ((S.map (Tz t sz off ((l1.take l0.length).map e))).put d (.int .i64 (min l1.length l0.length:Nat)))) (hdp:Ax t=false:=by rfl):Ca C ⟨d,.copy sz x y,none⟩ S K:=by
 refine ⟨En hx trivial,En hy hm,?_⟩
 rw [hx,hy]
 dsimp only [Ad]
 dsimp only [Ad] at hs
 rw [hs]
 refine ⟨rfl,rfl,hdp,?_⟩
 rw [List.map_take,] at k
 simpa using k
theorem clear_ {α:Type} {e:α→List V} {l0:List α} {z:α} {x:Av} {t off sz:Nat} {zero:List V} (hx:S.val x = .own t off sz (l0.map e)) (hz:e z=zero)
  (k:K ((S.map (Tz t sz off ((List.replicate l0.length z).map e))).put d .undef)) (hdp:Ax t=false:=by rfl):Ca C ⟨d,.clear sz zero x,none⟩ S K:=by
 refine ⟨En hx trivial,?_⟩
 rw [hx]
 refine ⟨rfl,hdp,?_⟩
 rw [List.map_replicate,hz] at k
 simpa using k
theorem iB {sz len d:Nat} {zero:List V} {parts:List (Nat×Av)} (hm:Ba (fun p=>nm S p.2) parts)
  (h:Ba (fun p=>p.1<len∧p.2.cells.length=sz∧p.2.cells.all (fun c => !Gp c)=true) (parts.map fun p=>(p.1,Ad (S.val p.2))))
  (k:K (((S.freezes (Gk (parts.map fun p=>(p.1,Ad (S.val p.2))))).drop (64*d)).put (some d)
    (.own (64*d) 0 sz (He sz (List.replicate len zero) ((parts.map fun p=>(p.1,Ad (S.val p.2))).map fun p=>(p.1,p.2.cells.map Cl)))))):
  Ca C ⟨some d,.mkS sz zero len parts,none⟩ S K:=⟨hm,h,.inl k⟩
theorem jW {f:Nat} {args:List V} (fz:Bool) {gv:List V} {r:V} (h:C f ⟨gv,[]⟩ ⟨r,[],[]⟩) (h0:Kg (fun v => !Ao v) args=true) (hg:args.map (mapW (S.liftC [] [] [] fz))=gv)
  (h3:fz=false→r.flat.all Fd=true) (k:K (((if fz then S.freezes (Bd (Kt args)) else S).drops (Jx (d.getD 0) (Bd r.flat))).put d (Dq (Ep (d.getD 0) 0 [] []) r))):Yt C f args d S K:=by
 have e0:∀l:List Nat,Tv [] l=l:=fun l=>by
  induction l with
  | nil=>rfl
  | cons x r ih=>simp [Tv,ih]
 refine ⟨h0,[],[],[],fz,⟨r,[],[]⟩,⟨rfl,rfl,rfl,rfl⟩,⟨rfl,rfl,rfl⟩,fun hz=>?_,?_,?_⟩
 ·simp [Dj.flat,h3 hz]
 ·subst hg; exact h
 ·simpa [St.after,St.frzTags,St.given,e0,Dj.newR,Dj.newB,Mh,St.rows,St.boxes,St.drops] using k
theorem Bh {f:Nat} {as:List Av} (fz:Bool) {gv:List V} {r:V} (h:C f ⟨gv,[]⟩ ⟨r,[],[]⟩) (hm:Ba (nm S) as) (h0:Kg (fun v => !Ao v) (as.map fun x=>Ad (S.val x))=true)
  (hg:(as.map fun x=>Ad (S.val x)).map (mapW (S.liftC [] [] [] fz))=gv) (h3:fz=false→r.flat.all Fd=true)
  (k:K (((if fz then S.freezes (Bd (Kt (as.map fun x=>Ad (S.val x)))) else S).drops (Jx (d.getD 0) (Bd r.flat))).put d (Dq (Ep (d.getD 0) 0 [] []) r))):
  Ca C ⟨d,.call f as,none⟩ S K:=⟨hm,.inl (jW fz h h0 hg h3 k)⟩
theorem Nl {f:Nat} {x:Av} {as:List Av} {caps:List V} (hx:S.val x = .clo f caps) (fz:Bool) {gv:List V} {r:V} (h:C f ⟨gv,[]⟩ ⟨r,[],[]⟩) (hm:Ba (nm S) as)
  (h0:Kg (fun v => !Ao v) ((as.map fun x=>Ad (S.val x))++caps)=true) (hg:((as.map fun x=>Ad (S.val x))++caps).map (mapW (S.liftC [] [] [] fz))=gv) (h3:fz=false→r.flat.all Fd=true)
  (k:K (((if fz then S.freezes (Bd (Kt ((as.map fun x=>Ad (S.val x))++caps))) else S).drops (Jx (d.getD 0) (Bd r.flat))).put d (Dq (Ep (d.getD 0) 0 [] []) r))):
  Ca C ⟨d,.callv x as,none⟩ S K:=by
 refine ⟨En hx trivial,hm,?_⟩
 rw [hx]
 exact jW fz h h0 hg h3 k
theorem GD {f:Nat} {args:List V} (LB LR LM:List Nat) (fz:Bool) {g:Lz} {t:Dj} (h:C f g t) (h0:Kg (fun v => !Ao v) args=true) (hg:S.give args LB LR LM fz=g)
  (h1:(Bq LB&&Bq (LR++LM)&&Mv As LM&&LB.all (fun T=>(look S.bx T).isSome))=true)
  (h2:(Mv 33 [t.bx.length-LB.length,LM.length,LR.length]&&Ik (t.newB (d.getD 0) LB.length) LB&&Ik (t.newR (d.getD 0)) LR)=true) (h3:fz=false→t.flat=true)
  (k:K ((S.after args (d.getD 0) fz LB LR LM t).put d (Dq (Ep (d.getD 0) (t.bx.length-LB.length) LB LR) t.r))):Yt C f args d S K:=by
 simp only [Bool.and_eq_true] at h1 h2
 refine ⟨h0,LB,LR,LM,fz,t,⟨h1.1.1.1,h1.1.1.2,h1.1.2,h1.2⟩,⟨h2.1.1,h2.1.2,h2.2⟩,h3,?_,k⟩
 subst hg; exact h
theorem EV {f:Nat} {as:List Av} (LB LR LM:List Nat) (fz:Bool) {g:Lz} {t:Dj} (h:C f g t) (hm:Ba (nm S) as) (h0:Kg (fun v => !Ao v) (as.map fun x=>Ad (S.val x))=true)
  (hg:S.give (as.map fun x=>Ad (S.val x)) LB LR LM fz=g)
  (h1:(Bq LB&&Bq (LR++LM)&&Mv As LM&&LB.all (fun T=>(look S.bx T).isSome))=true)
  (h2:(Mv 33 [t.bx.length-LB.length,LM.length,LR.length]&&Ik (t.newB (d.getD 0) LB.length) LB&&Ik (t.newR (d.getD 0)) LR)=true) (h3:fz=false→t.flat=true)
  (k:K ((S.after (as.map fun x=>Ad (S.val x)) (d.getD 0) fz LB LR LM t).put d (Dq (Ep (d.getD 0) (t.bx.length-LB.length) LB LR) t.r))):Ca C ⟨d,.call f as,none⟩ S K:=
 ⟨hm,.inl (GD LB LR LM fz h h0 hg h1 h2 h3 k)⟩
theorem Ga {f:Nat} {as:List Av} {gs:Nat} {want g:Bool} (hgv:Ji (S.val (.t gs)) want=some g) (fz:Bool) {gv:List V} {r:V} (h:g=true→C f ⟨gv,[]⟩ ⟨r,[],[]⟩)
  (hm:Ba (fun x=>Ag g (S.val x)) as) (h0:g=true→Kg (fun v => !Ao v) (as.map fun x=>Ad (S.val x))=true)
  (hg:g=true→(as.map fun x=>Ad (S.val x)).map (mapW (S.liftC [] [] [] fz))=gv) (h3:fz=false→r.flat.all Fd=true) (h4:fz=true→Bd (Kt (as.map fun x=>Ad (S.val x)))=[])
  (k:K (S.put d (.may g (Dq Ja r)))):Ca C ⟨d,.call f as,some (gs,want)⟩ S K:=by
 unfold Ca
 dsimp only
 rw [hgv]
 exact .inl ⟨hm,h0,fz,r,fun e=>by have:=hg e; subst this; exact h e,h3,h4,k⟩
theorem rP {f:Nat} {x:Av} {as:List Av} {caps:List V} {vx:V} {gs:Nat} {want g:Bool} (hgv:Ji (S.val (.t gs)) want=some g) (hx:S.val x=vx) (hx':Ad vx = .clo f caps) (hmx:Ag g vx) (fz:Bool) {gv:List V} {r:V}
  (h:g=true→C f ⟨gv,[]⟩ ⟨r,[],[]⟩)
  (hm:Ba (fun x=>Ag g (S.val x)) as) (h0:g=true→Kg (fun v => !Ao v) ((as.map fun x=>Ad (S.val x))++caps)=true)
  (hg:g=true→((as.map fun x=>Ad (S.val x))++caps).map (mapW (S.liftC [] [] [] fz))=gv) (h3:fz=false→r.flat.all Fd=true) (h4:fz=true→Bd (Kt ((as.map fun x=>Ad (S.val x))++caps))=[])
  (k:K (S.put d (.may g (Dq Ja r)))):Ca C ⟨d,.callv x as,some (gs,want)⟩ S K:=by
 unfold Ca
 dsimp only
 rw [hgv]
 refine .inl ⟨by rw [hx]; exact hmx,hm,?_⟩
 rw [hx,hx']
 exact ⟨h0,fz,r,fun e=>by have:=hg e; subst this; exact h e,h3,h4,k⟩
theorem MS {o:PU} {x:Int} (h:Cj S (.p o) (.int .u8 (IntKind.u8.wrap x))):Cj S (.p o) (.int .u8 ((b8 x).toNat:Int)):=by
 unfold b8
 rw [bV]
 exact h
theorem kR {α:Type} {e:α→List V} {xs:List α} {t off sz:Nat} (h:∀x,(e x).all scal=true):Fd (.own t off sz (xs.map e))=true:=by
 simp only [Fd,Bool.or_eq_true]
 refine .inr ?_
 simp only [List.all_map,List.all_eq_true,Function.comp]
 intro x _
 exact List.all_eq_true.1 (h x)
theorem Jo {res:List Vr} {nb:Nat} {t:Dj} {v:V} {css:List (List V)} (h1:jB S res=some v) (h2:Jj S (Py nb++Da v.flat)=some css)
  (h3:Mv 33 [(Fw (v.flat++css.flatten)).length,(Da v.flat).length]=true) (h4:Dq (Oe (Fw (v.flat++css.flatten)) (Da v.flat)) v=t.r)
  (h5:Lc (Oe (Fw (v.flat++css.flatten)) (Da v.flat)) css=t.bx) (h6:Of S 0 t.rw):FQ res nb t .ret S:=by
 refine ⟨S,Fg.refl S,?_⟩
 unfold aN
 rw [h1]
 show Tf S v nb t
 unfold Tf
 dsimp only
 rw [h2]
 exact ⟨h3,h4,h5,h6⟩
theorem JB {res:List Vr} {nb:Nat} {t:Dj} {S1:St} (hf:Fg S S1) (h:FQ res nb t .ret S1):FQ res nb t .ret S:=by
 obtain ⟨S2,h1,h2⟩:=h
 exact ⟨S2,hf.trans h1,h2⟩
theorem PY {fn:Dn} {args:List V} {bx:List (List V)} {t:Dj} (h0:args.length≤fn.nt) (h:WL C [.c fn.body] (FQ fn.res bx.length t) .normal ⟨Kn args 0,Ko bx As,[]⟩):Xc C fn ⟨args,bx⟩ t:=⟨h0,.inl h⟩
theorem MU {fn:Dn} {args:List V} {bx:List (List V)} {t:Dj} (h0:args.length≤fn.nt) (h:∀f:Nat→Nat,(∀(k t off sz:Nat) (es:List (List V)),args[k]? = some (.own t off sz es)→sz≠0→es.length≤f k∧(off=0→f k≤9223372036854775807)) →
  WL C [.c fn.body] (FQ fn.res bx.length t) .normal ⟨Kn args 0,Ko bx As,Kl f args 0⟩):Xc C fn ⟨args,bx⟩ t:=⟨h0,.inr h⟩
theorem NE {α:Type} (l:List α) (a b:Nat) (h:a≤b) (h2:b≤l.length):JE l (a:Int) ((some (b:Int)).getD l.length)=some ((l.take b).drop a):=by
 unfold JE
 simp only [Option.getD_some]
 rw [if_pos ⟨by omega,by omega,by omega⟩]
 simp
theorem Zt {d:Option Nat} {v:V} {f g:List (Nat×Int)→Option Int} (h:f S.cp=g S.cp):S.putC d v f=S.putC d v g:=by
 cases d with
 | none=>rfl
 | some d=>
  have:Ht d f S.cp=Ht d g S.cp:=by
   cases hl:S.cp with
   | nil=>rw [hl] at h; simp only [Ht,h]
   | cons p r=>rw [hl] at h; simp only [Ht,h]
  simp only [St.putC,this]
def eo {α:Type} (e:α→List V) (k:Nat):Option α→List V
 | none=>List.replicate k .undef
 | some x=>e x
theorem bB {α:Type} {e:α→List V} {k:Nat} (l:List α):l.map e=(l.map some).map (eo e k):=by
 rw [List.map_map]; rfl
theorem tH {α:Type} {e:α→List V} {l0:List α} {x hi:Av} {t sz H:Nat} {k2:IntKind} {c:Int} (hx:S.val x = .own t 0 sz (l0.map e)) (hhi:S.val hi = .int k2 (H:Int))
  (hLH:l0.length≤H) (hsz:0<sz) (hc:S.capOf x=some c) (hH:(H:Int)≤Lb c):Cj S (.p (.slice x none (some hi) sz)) (.own t 0 sz ((l0.map some++List.replicate (H-l0.length) none).map (eo e sz))):=by
 have hb:Fq ((some hi).map fun x=>Ad (S.val x))=some (some (H:Int)):=by simp only [Option.map_some,hhi]; rfl
 have ha:Fq ((none:Option Av).map fun x=>Ad (S.val x))=some none:=rfl
 refine ⟨⟨En hx trivial,En hhi trivial,trivial⟩,?_⟩
 have e1:((l0.map e++Zw sz (H-l0.length)).take H).drop 0=(l0.map some++List.replicate (H-l0.length) none).map (eo e sz):=by
  rw [List.drop_zero,List.take_of_length_le (by simp [Zw]; omega),List.map_append,List.map_replicate,←bB]
  rfl
 have hx':Ad (S.val x) = .own t 0 sz (l0.map e):=by rw [hx]; rfl
 simp only [pu,hx',ha,hb,Option.getD_some,Option.getD_none,List.length_map,Int.toNat_natCast,Int.toNat_zero,e1]
 exact ⟨_,rfl,trivial,by omega,by omega,.inr ⟨trivial,hsz,c,hc,hH⟩⟩
theorem uT {x:Int} (h1 : -9223372036854775808≤x) (h2:x≤9223372036854775807):IntKind.i64.wrap x=x:=by
 have e1:IntKind.i64.wrap x=if x%18446744073709551616≥9223372036854775808 then x%18446744073709551616-18446744073709551616 else x%18446744073709551616:=by
  simp [IntKind.wrap,IntKind.bits,IntKind.signed]
 rw [e1]; split<;>omega
theorem Cz {p:DP} (h:WD C p [] (WL C T Q .normal) S):WL C (.c (.draw p)::T) Q .normal S:=h
theorem IL {p:DP} (R:St→Prop) (hJ:∀S,R S→WL C T Q .normal S) (h:(∀S S1,Fg S S1→R S1→WL C (.w::T) Q .normal S)→WD C p [] (WL C (.w::T) Q .normal) S):
  WL C (.c (.draw p) :: .w::T) Q .normal S:=h fun _ S1 h1 h2=>⟨S1,h1,hJ S1 h2⟩
section
variable {X:List Bg}
theorem Tn (h:K S):WD C .fin X K S:=h
theorem Af {p:DP} (h1:Bx i S) (h2:Ca C i S (fun S'=>Cw C X S'∧WD C p X K S')):WD C (.take i p) X K S:=.inl ⟨h1,h2⟩
theorem Co:WD C .stop X K S:=trivial
theorem Fk {held:List Bg} {r rest:DP} (h1:Ca C i S (fun S'=>∃S1,Fg S' S1∧∃X',El C X' held S1∧Cw C X' S1∧WD C r X' K S1)) (h2:WD C rest X K S):WD C (.alt held i r rest) X K S:=⟨h1,h2⟩
theorem IK {held:List Bg} {r:DP} (h:∃X',El C X' held S∧Cw C X' S∧WD C r X' K S):∃S1,Fg S S1∧∃X',El C X' held S1∧Cw C X' S1∧WD C r X' K S1:=⟨S,Fg.refl S,h⟩
theorem Zj {held:List Bg} {r:DP} (S1:St) (hf:Fg S S1) (h:∃X',El C X' held S1∧Cw C X' S1∧WD C r X' K S1):∃S1,Fg S S1∧∃X',El C X' held S1∧Cw C X' S1∧WD C r X' K S1:=⟨S1,hf,h⟩
theorem uO {d:Nat} {v:V} (hl:look S.env d=some v) (hc:S.cp=[]):Rb (S.put (some d) v) S:=by
 constructor
 ·intro t
  show look ((d,v)::S.env) t=_
  simp only [look]
  split
  ·rename_i e; subst e; exact hl.symm
  ·rfl
 ·intro k
  show look (Ht d (fun _=>none) S.cp) k=look S.cp k
  rw [hc]; rfl
theorem Uk (hc:S.cp=[]) (x:Av):S.capOf x=none:=by
 cases x with
 | t n=>show look S.cp n=none; rw [hc]; rfl
 | c v=>rfl
theorem Zd (hc:S.cp=[]) {rd:Av→V} (o:PU):Kk S rd o=none:=by
 cases o<;>try rfl
 case mv x=>exact Uk hc x
 case slice x lo hi sz=>
  simp only [Kk,Gd]
  rw [show Iy S.cp x=none from Uk hc x]
theorem Aq {o:PU} {d:Nat} {v:V} (h:Cj S (.p o) v) (hl:look S.env d=some v) (hc:S.cp=[]:=by rfl):Ca C ⟨some d,.p o,none⟩ S (fun S'=>Rb S' S):=
 c_ h (by rw [Zt (g:=fun _=>none) (Zd hc o)]; exact uO hl hc)
theorem Mm {o:PU} {d:Nat} {v:V} {gs:Nat} {want g:Bool} (hg:Ji (S.val (.t gs)) want=some g) (h:g=true→Cj S (.p o) v) (hl:look S.env d=some (.may g v)) (hc:S.cp=[]:=by rfl):Ca C ⟨some d,.p o,some (gs,want)⟩ S (fun S'=>Rb S' S):=Bt hg h (uO hl hc)
end
end
end Go.Ev
