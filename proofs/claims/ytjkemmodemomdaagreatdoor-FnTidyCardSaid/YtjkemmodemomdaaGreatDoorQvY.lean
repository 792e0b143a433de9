/- From the small machine to the model: operations, regions, code, functions. -/
import Derived.Test.YtjkemmodemomdaaGreatDoorQvX4
set_option linter.all false
namespace Go.Ev
open Go.RowKit
variable {φ:Bz} {m m' m0 m1 m2:M} {w w' w0:World} {A:Fr} {nt:Nat} {S S' S1:St} {a:Act} {P:Program}
variable {o:Oper} {K:St→Prop} {Q:Exit→Act→World→Prop}
theorem Hw {α:Type} {p:α→Prop}:∀ {l:List α},Be p l→∀x∈l,p x
 | _::_,h,x,hx=>by
  cases hx with
  | head=>exact h.1
  | tail _ hx=>exact Hw h.2 x hx
 | [],_,_,hx=>by simp at hx
theorem Gp {fid:FuncId} {args:Array Value} (hE:Nf P fid):(callFunc fid args).run P w = .ok (.enter fid args) w:=by
 obtain ⟨fn,h1,h2,h3⟩:=hE
 have h2' : ¬ fn.name = "runtime.NumGoroutine" := by simpa using h2
 have h3':¬fn.body=none:=fun e=>by rw [e] at h3; cases h3
 simp [callFunc,h1,h2',h3']
theorem upon_enter {fid:Nat} {vals:Array Value} {d:Option Nat} (hdst:o.dst=d) (hr:(execOp a.eval o).run P w = .ok (.enter fid vals) w)
  (h:Calls P fid vals w fun e w'=>∃x,e = .returned x∧Nx φ w0 A nt K (a.put d x) w'):o.wp P a w (Nx φ w0 A nt K) Q:=by
 unfold Oper.wp
 rw [hr,Oper.upon_enter]
 refine h.mono fun e w' hh=>?_
 obtain ⟨x,rfl,hN⟩:=hh
 subst hdst
 exact hN
theorem pI {f:Nat} {args:List Ay} (hc:Hv P φ o=some (.call f args)) (hd:∀d,o.dst=some d→d<nt) (h:Aw φ w0 A nt m S a w)
  (hw:Nb (By P φ) o.dst (.call f args) S K):o.wp P a w (Nx φ w0 A nt K) Q:=by
 obtain ⟨cl,fid,hop,hcal,hf,harg⟩:=Bw hc
 obtain ⟨hm,hw⟩:=hw
 obtain ⟨h1,h2⟩:=Ge h harg (Hw hm)
 obtain ⟨hE,hcall⟩:=hw.elim (Xv (P:=P) h hd hf h1 h2) (bV (P:=P) h hd hf h1 h2)
 refine upon_enter (fid:=fid) (vals:=(cl.args.toList.map a.eval).toArray) rfl ?_ hcall
 have e1:cl.args.map a.eval=(cl.args.toList.map a.eval).toArray:=by
  apply Array.ext'
  simp
 simp only [execOp,hop,resolve,hcal,Act.eval,Deferred.ofValue,Sem.run_bind,Sem.run_pure,Result.andThen_ok,invoke]
 rw [Gp hE,e1]
 simp
theorem eQ {x:Ay} {args:List Ay} (hc:Hv P φ o=some (.callv x args)) (hd:∀d,o.dst=some d→d<nt) (h:Aw φ w0 A nt m S a w)
  (hw:Nb (By P φ) o.dst (.callv x args) S K):o.wp P a w (Nx φ w0 A nt K) Q:=by
 obtain ⟨cl,t,hop,hcal,rfl,harg⟩:=Bw hc
 obtain ⟨hm0,hm,hw⟩:=hw
 split at hw
 ·rename_i f caps hx
  obtain ⟨h1,h2⟩:=Ge h harg (Hw hm)
  have hv:RT φ m w (.clo f caps) (a.tmps.getD t undef):=by rw [←hx]; exact Jh (h.val t) hm0 rfl
  obtain ⟨fid,vs,g1,g2,g3,g4⟩:=hv.1
  obtain ⟨hE,hcall⟩:=Xv (vals:=cl.args.toList.map a.eval++vs) h hd g1 (by simp only [List.length_append,h1,g3]) (fun i v y k1 k2=>by
   by_cases hi:i<(args.map fun y=>Ab (S.val y)).length
   ·rw [List.getElem?_append_left hi] at k1
    rw [List.getElem?_append_left (by rw [h1]; exact hi)] at k2
    exact h2 i v y k1 k2
   ·rw [List.getElem?_append_right (by omega)] at k1
    rw [List.getElem?_append_right (by rw [h1]; omega),h1] at k2
    have hq:=g4 _ v y k1 k2
    exact Fx (Ji (Ew hq) (Wb hq))) hw
  refine upon_enter (fid:=fid) (vals:=(cl.args.toList.map a.eval++vs).toArray) rfl ?_ hcall
  simp only [execOp,hop,resolve,hcal,Act.eval,g2,Deferred.ofValue,Sem.run_bind,Sem.run_pure,Result.andThen_ok,invoke]
  rw [Gp hE]
  congr 2
  apply Array.ext'
  simp
 ·exact hw.elim
theorem qK {op:Sw} (hc:Hv P φ o=some op) (hd:∀d,o.dst=some d→d<nt) (h:Aw φ w0 A nt m S a w)
  (hw:Nb (By P φ) o.dst op S K):o.wp P a w (Nx φ w0 A nt K) Q:=by
 cases op with
 | p u=>exact pP hc hd h hw
 | pick c x y=>exact pO hc hd h hw
 | box x=>exact uA hc hd h hw
 | alloc z=>exact eP hc hd h hw
 | store x v n=>exact eU hc hd h hw
 | mkS sz zero len parts=>exact uD hc hd h hw
 | nilS sz=>exact pN hc hd h hw
 | make sz b z l c=>exact pL hc hd h hw
 | app sz b x y=>exact tZ hc hd h hw
 | appz sz b z x y=>exact pH hc hd h hw
 | copy sz x y=>exact pK hc hd h hw
 | toBytes x=>exact Xf hc hd h hw
 | call f args=>exact pI hc hd h hw
 | callv x args=>exact eQ hc hd h hw
 | isnil x ne=>exact eT hc hd h hw
 | mkM=>exact uC hc hd h hw
 | mset x k v=>exact pM hc hd h hw
 | cap x=>exact uB hc hd h hw
 | clear sz z x=>exact eR hc hd h hw
 | chk3 x lo hi mx=>exact pJ hc hd h hw
 | bad=>exact hw.elim
end Go.Ev
