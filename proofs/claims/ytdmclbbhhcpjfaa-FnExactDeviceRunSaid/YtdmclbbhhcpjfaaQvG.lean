/- Many instructions at once: what can be reckoned is reckoned by the kernel. -/
import Derived.Test.YtdmclbbhhcpjfaaQvM
set_option linter.all false
namespace Go.Ev
def Ub:V→Bool
 | .may _ _=>false
 | _=>true
theorem It {v:V} (h:Ub v=true):Ag true v:=by cases v<;>first | trivial | cases h
def Wl (S:St) (n:Nat):List (Nat×Nat×As)→Bool
 | []=>true
 | p::r=>match An (Ad (S.val p.2.2)) with
  | true=>false
  | false=>match Nat.beq (Ad (S.val p.2.2)).cells.length p.2.1 with
   | true=>match Nat.ble (p.1+p.2.1) n with
    | true=>Wl S n r
    | false=>false
   | false=>false
theorem Vf {S:St} {n:Nat}:∀ {l:List (Nat×Nat×As)},Wl S n l=true→Ax (fun p=>An (Ad (S.val p.2.2))=false∧(Ad (S.val p.2.2)).cells.length=p.2.1∧p.1+p.2.1≤n) l
 | [],_=>trivial
 | p::r,h=>by
  unfold Wl at h
  split at h
  ·cases h
  ·rename_i h1
   split at h
   ·rename_i h2
    split at h
    ·rename_i h3
     exact ⟨⟨h1,Nat.eq_of_beq_eq_true h2,Nat.le_of_ble_eq_true h3⟩,Vf h⟩
    ·cases h
   ·cases h
def Mh (S:St):PU→Bool
 | .mv _ | .un _ _ | .conv _ _ | .binB _ _ _ | .eqs _ _ _ _ | .lenS _ | .strc _ | .ext _ _ | .nilc _ | .xbyte _ _ | .scmp _ _ | .mget _ _=>true
 | .bin op x _=>match op with
  | .eql | .neq | .lss | .leq | .gtr | .geq=>true
  | .sub | .mul | .and | .or | .xor | .andNot=>true
  | .add=>match Ad (S.val x) with
   | .int _ _=>true
   | _=>false
  | _=>false
 | .mn x y | .mx x y=>match Ad (S.val x),Ad (S.val y) with
  | .int k _,.int k' _=>decide (k=k')
  | _,_=>false
 | .load x n _=>match Ad (S.val x) with
  | .ptr t k=>match look S.bx t with
   | some cs=>Nat.ble (k+n) cs.length
   | none=>false
  | .iptr cs=>Nat.ble n cs.length
  | _=>false
 | .fieldA x off=>match Ad (S.val x) with
  | .ptr _ _ | .optr _ _ _ _=>true
  | .iptr cs=>Nat.ble off cs.length
  | _=>false
 | .field x off n _=>match Ad (S.val x) with
  | .agg cs=>Nat.ble (off+n) cs.length
  | _=>false
 | .len x=>match Ad (S.val x) with
  | .lst (_+1) _ | .own _ _ (_+1) _=>true
  | _=>false
 | .build zero ps=>Wl S zero.length ps
 | .fn _ caps=>Mw (caps.map fun x=>Ad (S.val x))
 | _=>false
theorem Wx {S:St} {o:PU} {φ:Prop} {v:V} (h:Mh S o=true) (h2:pu S (fun x=>Ad (S.val x)) o=some (φ,v)):φ:=by
 cases o with
 | mv x=>simp only [pu,Option.some.injEq,Prod.mk.injEq] at h2; rw [←h2.1]; trivial
 | bin op x y=>
  simp only [pu] at h2
  split at h2
  ·split at h2
   ·cases h
   ·cases h
   ·split at h2
    ·unfold Ws at h2
     split at h2<;>first | (cases h; done) | (cases h2; trivial) | (cases h2)
    ·cases h2
  ·rename_i hx hy
   unfold Xc at h2
   split at h2<;>first | (cases h2; trivial) | skip
   ·simp only [Mh,hx] at h; cases h
   ·cases h2
  ·cases h2
 | binB op x y=>
  simp only [pu] at h2
  split at h2
  ·split at h2<;>first | (cases h2; trivial) | cases h2
  ·cases h2
 | eqs ne ks x y=>
  simp only [pu] at h2
  split at h2
  ·split at h2<;>first | (cases h2; trivial) | cases h2
  ·cases h2
 | un op x=>
  simp only [pu] at h2
  split at h2<;>first | (cases h2; trivial) | cases h2
 | conv k x=>
  simp only [pu] at h2
  split at h2<;>first | (cases h2; trivial) | cases h2
 | lenS x=>
  simp only [pu] at h2
  split at h2<;>first | (cases h2; trivial) | cases h2
 | strc x=>
  simp only [pu] at h2
  split at h2<;>first | (cases h2; trivial) | cases h2
 | ext x i=>
  simp only [pu] at h2
  split at h2
  ·split at h2<;>first | (cases h2; trivial) | cases h2
  ·cases h2
 | nilc x=>
  simp only [pu] at h2
  split at h2<;>first | (cases h2; trivial) | cases h2
 | xbyte x y=>
  simp only [pu] at h2
  split at h2<;>first | (cases h2; trivial) | cases h2
 | mget x y=>
  simp only [pu] at h2
  split at h2<;>first | (cases h2; trivial) | cases h2
 | scmp x y=>
  simp only [pu] at h2
  split at h2<;>first | (cases h2; trivial) | cases h2
 | mn x y=>
  simp only [pu] at h2
  split at h2
  ·rename_i hx hy
   simp only [Mh,hx,hy] at h
   cases h2; exact of_decide_eq_true h
  ·cases h2
 | mx x y=>
  simp only [pu] at h2
  split at h2
  ·rename_i hx hy
   simp only [Mh,hx,hy] at h
   cases h2; exact of_decide_eq_true h
  ·cases h2
 | load x n ag=>
  simp only [pu] at h2
  split at h2
  ·rename_i hx
   split at h2
   ·rename_i hl
    split at h2
    ·simp only [Mh,hx,hl] at h
     cases h2; exact Nat.le_of_ble_eq_true h
    ·cases h2
   ·cases h2
  ·rename_i hx
   split at h2
   ·simp only [Mh,hx] at h
    cases h2; exact Nat.le_of_ble_eq_true h
   ·cases h2
  ·rename_i hx
   simp only [Mh,hx] at h; cases h
  ·cases h2
 | fieldA x off=>
  simp only [pu] at h2
  split at h2
  ·cases h2; trivial
  ·rename_i hx
   simp only [Mh,hx] at h
   cases h2; exact Nat.le_of_ble_eq_true h
  ·cases h2; trivial
  ·cases h2
 | field x off n ag=>
  simp only [pu] at h2
  split at h2
  ·rename_i hx
   split at h2
   ·simp only [Mh,hx] at h
    cases h2; exact Nat.le_of_ble_eq_true h
   ·cases h2
  ·cases h2
 | len x=>
  simp only [pu] at h2
  split at h2
  ·rename_i s es hx
   simp only [Mh,hx] at h
   cases h2
   cases s with
   | zero=>cases h
   | succ n=>exact Nat.succ_ne_zero n
  ·rename_i s es hx
   simp only [Mh,hx] at h
   cases h2
   cases s with
   | zero=>cases h
   | succ n=>exact Nat.succ_ne_zero n
  ·cases h2
 | fn f caps=>simp only [pu,Option.some.injEq,Prod.mk.injEq] at h2; rw [←h2.1]; exact h
 | build zero ps=>simp only [pu,Option.some.injEq,Prod.mk.injEq] at h2; rw [←h2.1]; exact Vf h
 | _=>cases h
def Jv (S:St):List As→Bool
 | []=>true
 | x::r=>match Ub (S.val x) with
  | true=>Jv S r
  | false=>false
theorem Hf {S:St}:∀ {l:List As},Jv S l=true→Ax (fun x=>Ag true (S.val x)) l
 | [],_=>trivial
 | x::r,h=>by
  unfold Jv at h
  split at h
  ·rename_i hp; exact ⟨It hp,Hf h⟩
  ·cases h
def cD (sz len:Nat):List (Nat×V)→Bool
 | []=>true
 | p::r=>match Nat.blt p.1 len with
  | true=>match Nat.beq p.2.cells.length sz with
   | true=>match p.2.cells.all (fun c => !Ft c) with
    | true=>cD sz len r
    | false=>false
   | false=>false
  | false=>false
theorem Yn {sz len:Nat}:∀ {l:List (Nat×V)},cD sz len l=true→Ax (fun p=>p.1<len∧p.2.cells.length=sz∧p.2.cells.all (fun c => !Ft c)=true) l
 | [],_=>trivial
 | p::r,h=>by
  unfold cD at h
  split at h
  ·rename_i h1
   split at h
   ·rename_i h2
    split at h
    ·rename_i h3
     exact ⟨⟨Nat.le_of_ble_eq_true h1,Nat.eq_of_beq_eq_true h2,h3⟩,Yn h⟩
    ·cases h
   ·cases h
  ·cases h
theorem kT {S:St}:∀ {l:List (Nat×As)},Jv S (l.map (·.2))=true→Ax (fun p=>nm S p.2) l
 | [],_=>trivial
 | p::r,h=>by
  unfold List.map Jv at h
  split at h
  ·rename_i hp; exact ⟨It hp,kT h⟩
  ·cases h
def q1 (i:Bg) (S:St):Option St:=
 match i with
 | ⟨d,.p o,none⟩=>match Jv S o.opds with
  | true=>match Mh S o with
   | true=>match pu S (fun x=>Ad (S.val x)) o with
    | some (_,v)=>some (S.putC d v (Fy (fun x=>Ad (S.val x)) o))
    | none=>none
   | false=>none
  | false=>none
 | ⟨some d,.box x,none⟩=>match Ub ((S.drop (64*d)).val x) with
  | true=>match An (Ad ((S.drop (64*d)).val x)) with
   | true=>none
   | false=>some (((S.drop (64*d)).setBx (64*d) (Ad ((S.drop (64*d)).val x)).cells).put (some d) (.ptr (64*d) 0))
  | false=>none
 | ⟨some d,.alloc z,none⟩=>some (((S.drop (64*d)).setBx (64*d) z).put (some d) (.ptr (64*d) 0))
 | ⟨some d,.nilS sz,none⟩=>some ((S.drop (64*d)).put (some d) (.own (64*d) 0 sz []))
 | ⟨d,.store x v n,none⟩=>match S.val x with
  | .ptr t k=>match Ub (S.val v) with
   | true=>match An (Ad (S.val v)) with
    | true=>none
    | false=>match Nat.beq (Ad (S.val v)).cells.length n with
     | true=>match look S.bx t with
      | some bs=>match Nat.ble (k+n) bs.length with
       | true=>some ((S.setBx t (Bd bs k (Ad (S.val v)).cells)).put d .undef)
       | false=>none
      | none=>none
     | false=>none
   | false=>none
  | _=>none
 | ⟨some d,.mkS sz zero len parts,none⟩=>match Jv S (parts.map (·.2)) with
  | true=>match cD sz len (parts.map fun p=>(p.1,Ad (S.val p.2))) with
   | true=>some (((S.freezes (Gj (parts.map fun p=>(p.1,Ad (S.val p.2))))).drop (64*d)).put (some d)
    (.own (64*d) 0 sz (Hl sz (List.replicate len zero) ((parts.map fun p=>(p.1,Ad (S.val p.2))).map fun p=>(p.1,p.2.cells.map Bm)))))
   | false=>none
  | false=>none
 | _=>none
theorem lH {C:Av} {i:Bg} {S S':St} {K:St→Prop} (h:q1 i S=some S') (k:K S'):Bw C i S K:=by
 unfold q1 at h
 split at h
 ·split at h
  ·rename_i h1
   split at h
   ·rename_i h2
    split at h
    ·rename_i h3
     cases h
     exact p_ (Hf h1) h3 (Wx h2 h3) k
    ·cases h
   ·cases h
  ·cases h
 ·split at h
  ·rename_i h1
   split at h
   ·cases h
   ·rename_i h2
    cases h
    exact NW rfl (It h1) h2 k
  ·cases h
 ·cases h; exact Gk k
 ·cases h; exact bX k
 ·split at h
  ·rename_i hx
   split at h
   ·rename_i h1
    split at h
    ·cases h
    ·rename_i h2
     split at h
     ·rename_i h3
      split at h
      ·rename_i h4
       split at h
       ·rename_i h5
        cases h
        exact Jz hx rfl (It h1) h2 (Nat.eq_of_beq_eq_true h3) h4 (Nat.le_of_ble_eq_true h5) k
       ·cases h
      ·cases h
     ·cases h
   ·cases h
  ·cases h
 ·split at h
  ·rename_i h1
   split at h
   ·rename_i h2
    cases h
    exact Yl (kT h1) (Yn h2) k
   ·cases h
  ·cases h
 ·cases h
theorem Ue {i:Bg} {S S':St} (h:q1 i S=some S'):Bs i S:=by
 unfold Bs
 split
 ·rename_i o x n ag hop
  split
  ·rename_i hx
   unfold q1 at h
   split at h
   ·rename_i d o' g
    cases hop
    split at h
    ·split at h
     ·rename_i hp
      simp only [Mh,hx] at hp
      cases hp
     ·cases h
    ·cases h
   all_goals first | cases hop | (cases h)
  ·trivial
 ·trivial
def Sj:List Es→Option (Option Bg×List Es)
 | .c .skip::T=>some (none,T)
 | .c (.seq a b)::T=>some (none,.c a :: .w :: .c b::T)
 | .c (.reg [])::T=>some (none,T)
 | .c (.reg (i::l))::T=>some (some i,.c (.reg l)::T)
 | .c (.block id a)::T=>some (none,.c a :: .b id::T)
 | .c (.draw .fin)::T=>some (none,T)
 | .c (.draw (.take i p))::T=>some (some i,.c (.draw p)::T)
 | .w::T=>some (none,T)
 | .b _::T=>some (none,T)
 | _=>none
def Rl:Nat→List Es→List Es
 | 0,T=>T
 | n+1,T=>match Sj T with
  | some (_,T')=>Rl n T'
  | none=>T
def run:Nat→List Es→St→Option St
 | 0,_,S=>some S
 | n+1,T,S=>match Sj T with
  | some (none,T')=>run n T' S
  | some (some i,T')=>match q1 i S with
   | some S'=>run n T' S'
   | none=>none
  | none=>none
variable {C:Av} {Q:Ex→St→Prop} {S:St} {T:List Es}
theorem Vd {T':List Es} (h:Sj T=some (none,T')) (k:WL C T' Q .normal S):WL C T Q .normal S:=by
 unfold Sj at h
 split at h<;>cases h
 ·exact aH k
 ·exact Bu k
 ·exact k
 ·exact Bp k
 ·exact k
 ·exact eY k
 ·exact cV k
theorem cR {i:Bg} {T':List Es} {S':St} (h:Sj T=some (some i,T')) (hq:q1 i S=some S') (k:WL C T' Q .normal S'):WL C T Q .normal S:=by
 unfold Sj at h
 split at h<;>cases h
 ·exact Aj (st (lH hq k))
 ·exact Cr (Ck (Ue hq) (lH hq ⟨trivial,k⟩))
theorem Vo:∀(n:Nat) {T:List Es} {S S':St},run n T S=some S'→WL C (Rl n T) Q .normal S'→WL C T Q .normal S
 | 0,T,S,S',h,k=>by cases h; exact k
 | n+1,T,S,S',h,k=>by
  unfold run at h
  unfold Rl at k
  split at h
  ·rename_i h1
   rw [h1] at k
   exact Vd h1 (Vo n h k)
  ·rename_i h1
   split at h
   ·rename_i h2
    rw [h1] at k
    exact cR h1 h2 (Vo n h k)
   ·cases h
  ·cases h
def IS:List Es→List Es
 | .w::T=>T
 | T=>T
def IN:List Es→Bool
 | .w::_=>true
 | _=>false
def cF (o:Option St) (S':St):Option (List (Option V)×List (Option (List V))×List (Nat×Int)):=o.map fun S=>(S'.env.map (fun p=>look S.env p.1),S'.bx.map (fun p=>look S.bx p.1),S'.cp)
def cL (S':St):Option (List (Option V)×List (Option (List V))×List (Nat×Int)):=some (S'.env.map (fun p=>some p.2),S'.bx.map (fun p=>some p.2),[])
theorem OR (n:Nat) (ts:List Nat) (rs:List (Nat×Nat)) (S':St) (k:WL C (IS (Rl n T)) Q .normal S')
  (hw:IN (Rl n T)=true:=by kernel_rfl) (hr:aI rs=true:=by kernel_rfl) (h:cF ((run n T S).map fun S=>(S.freezes ts).swaps rs) S'=cL S':=by kernel_rfl):WL C T Q .normal S:=by
 cases hR:run n T S with
 | none=>rw [hR] at h; cases h
 | some S1=>
  rw [hR] at h
  refine Vo n hR ?_
  cases hT:Rl n T with
  | nil=>rw [hT] at hw; cases hw
  | cons x T'=>
   rw [hT] at hw k
   cases x with
   | w=>exact Fs S' ((Fg.fz _ ts).trans ((Fg.sw _ rs hr).trans (.le (Xo.le (Option.some.inj h))))) k
   | c a=>cases hw
   | b id=>cases hw
theorem PB (n:Nat) (S':St) (k:WL C (IS (Rl n T)) Q .normal S') (hw:IN (Rl n T)=true:=by kernel_rfl) (h:cF (run n T S) S'=cL S':=by kernel_rfl):WL C T Q .normal S:=
 OR n [] [] S' k hw rfl (by cases hR:run n T S with | none=>rw [hR] at h; cases h | some S1=>rw [hR] at h; exact h)
def LF (n:Nat) (T:List Es) (S:St):St:=(run n T S).getD S
theorem Bb (n:Nat) (k:WL C (Rl n T) Q .normal (LF n T S)) (h:(run n T S).isSome=true:=by kernel_rfl):WL C T Q .normal S:=by
 cases hR:run n T S with
 | none=>rw [hR] at h; cases h
 | some S1=>
  refine Vo n hR ?_
  unfold LF at k
  rw [hR] at k
  exact k
def bY:Nat→List Es→Bool
 | 0,_=>true
 | n+1,T=>match Sj T with
  | some (none,T')=>bY n T'
  | _=>false
theorem Vv:∀(n:Nat) {T:List Es},bY n T=true→run n T S=some S
 | 0,_,_=>rfl
 | n+1,T,h=>by
  unfold bY at h
  unfold run
  split at h
  ·rename_i h1
   rw [h1]
   exact Vv n h
  ·cases h
theorem aD (n:Nat) (k:WL C (Rl n T) Q .normal S) (h:bY n T=true:=by kernel_rfl):WL C T Q .normal S:=Vo n (Vv n h) k
def HV (o:Option St) (res:List Wg) (nb:Nat):Option (Bool×V×List (List V)):=
 match o with
 | none=>none
 | some S=>match lN S res with
  | none=>none
  | some v=>match Ji S (Rf nb++Cx v.flat) with
   | none=>none
   | some css=>some (Ku 33 [(Fo (v.flat++css.flatten)).length,(Cx v.flat).length],Dv (Pe (Fo (v.flat++css.flatten)) (Cx v.flat)) v,Kv (Pe (Fo (v.flat++css.flatten)) (Cx v.flat)) css)
def kH:List Es→Bool
 | .c .ret::_=>true
 | _=>false
theorem lK {res:List Wg} {nb:Nat} {t:De} (n:Nat) (hQ:∀S',FQ res nb t .ret S'→Q .ret S') (ts:List Nat:=[]) (h6:t.rw=[]:=by exact rfl) (hr:kH (Rl n T)=true:=by kernel_rfl)
  (h:HV ((run n T S).map fun S=>S.freezes ts) res nb=some (true,t.r,t.bx):=by kernel_rfl):WL C T Q .normal S:=by
 cases hR:run n T S with
 | none=>rw [hR] at h; cases h
 | some S1=>
  rw [hR] at h
  refine Vo n hR ?_
  cases hT:Rl n T with
  | nil=>rw [hT] at hr; cases hr
  | cons x T'=>
   rw [hT] at hr
   unfold kH at hr
   split at hr
   ·rename_i e
    cases e
    refine Wa (hQ _ ?_)
    refine LE (Fg.fz _ ts) ?_
    unfold HV at h
    split at h
    ·cases h
    ·rename_i S2 e2
     obtain rfl:=Option.some.inj e2
     split at h
     ·cases h
     ·rename_i h1
      split at h
      ·cases h
      ·rename_i h2
       simp only [Option.some.injEq,Prod.mk.injEq] at h
       exact Iv h1 h2 h.1 h.2.1 h.2.2 (by rw [h6]; trivial)
   ·cases hr
theorem Dt {res:List Wg} {nb:Nat} {t:De} (n:Nat) (ts:List Nat:=[]) (h6:t.rw=[]:=by exact rfl) (hr:kH (Rl n T)=true:=by kernel_rfl)
  (h:HV ((run n T S).map fun S=>S.freezes ts) res nb=some (true,t.r,t.bx):=by kernel_rfl):WL C T (FQ res nb t) .normal S:=lK n (fun _ h=>h) ts h6 hr h
theorem bb {α β:Type} {o:Option α} {f:α→Option β} {r:β} {P:Prop} (h:o.bind f=some r) (k:∀x,o=some x→f x=some r→P):P:=by
 obtain ⟨x,h1,h2⟩:=bnd h
 exact k x h1 h2
theorem bv {α β:Type} {e:α} {f:α→Option β} {r:β} {P:Prop} (h:Cl e f=some r) (k:∀x,x=e→f x=some r→P):P:=k e rfl h
theorem gg {α:Type} {c:Prop} [Decidable c] {a:Option α} {r:α} {P:Prop} (h:(if c then a else none)=some r) (k:c→a=some r→P):P:=k (OB h).1 (OB h).2
theorem kn {σ ρ:Type} {K:Ex→St→Prop} {st:σ→St→Prop} {o:σ⊕ρ} {s':σ} {S' S'':St} (hK:∀s',o = .inl s'→∀S' S'',Fg S' S''→st s' S''→K .normal S') (h1:o = .inl s') (h2:st s' S'')
  (h:(S''.env.map (fun p=>look S'.env p.1),S''.bx.map (fun p=>look S'.bx p.1),S''.cp)=(S''.env.map (fun p=>some p.2),S''.bx.map (fun p=>some p.2),([]:List (Nat×Int))):=by kernel_rfl):K .normal S':=hK _ h1 _ _ (Fz h) h2
def bP (S:St) (j:Bg):Option (Option V):=
 match j with
 | ⟨some _,.p o,none⟩=>match Jv S o.opds with
  | true=>match Mh S o with
   | true=>match pu S (fun x=>Ad (S.val x)) o with
    | some (_,v)=>some (some v)
    | none=>none
   | false=>none
  | false=>none
 | _=>none
def Tc (S:St) (j:Bg):Option (Option V):=
 match j with
 | ⟨some d,.p _,none⟩=>some (look S.env d)
 | _=>some none
theorem KY {C:Av} {X:List Bg} {S:St} {j:Bg} (h:bP S j=Tc S j) (hc:S.cp=[]):(Bs j S∨j∈X)∧Bw C j S (fun S'=>Uq S' S):=by
 unfold bP at h
 split at h
 ·rename_i d o
  split at h
  ·rename_i h1
   split at h
   ·rename_i h2
    split at h
    ·rename_i h3
     have h4:some _=look S.env d:=Option.some.inj h
     refine ⟨.inl ?_,?_⟩
     ·exact Ue (S':=S.putC (some d) _ (Fy (fun x=>Ad (S.val x)) o)) (by simp only [q1,h1,h2,h3]; rfl)
     ·exact Az ⟨Hf h1,_,h3,Wx h2 h3⟩ h4.symm hc
    ·simp only [Tc] at h; cases h
   ·simp only [Tc] at h; cases h
  ·simp only [Tc] at h; cases h
 ·unfold Tc at h
  split at h
  ·cases h
  ·cases h
theorem bO {C:Av} {X:List Bg} {S:St} (hc:S.cp=[]):∀ {l:List Bg},l.map (bP S)=l.map (Tc S)→Gl C X l S
 | [],_=>trivial
 | j::r,h=>by
  simp only [List.map_cons,List.cons.injEq] at h
  exact ⟨KY h.1 hc,bO hc h.2⟩
theorem hB {C:Av} {X l:List Bg} {S:St} (h:(l.map (bP S),S.cp)=(l.map (Tc S),[]):=by kernel_rfl):Gl C X l S:=by
 simp only [Prod.mk.injEq] at h
 exact bO h.2 h.1
theorem d0 {C:Av} {K:St→Prop} {S:St} {held:List Bg} {r:DP} (hh:Gl C [] held S) (k:WD C r [] K S):∃S1,Fg S S1∧∃X',Gl C X' held S1∧Dq C X' S1∧WD C r X' K S1:=⟨S,Fg.refl S,[],hh,trivial,k⟩
theorem dw {C:Av} {K:St→Prop} {S:St} {held:List Bg} {r:DP} (e:List (Nat×V)) (b:List (Nat×List V)) (hh:Gl C [] held ⟨e,b,[]⟩) (k:WD C r [] K ⟨e,b,[]⟩)
  (h:(e.map (fun p=>look S.env p.1),b.map (fun p=>look S.bx p.1))=(e.map (fun p=>some p.2),b.map (fun p=>some p.2)):=by kernel_rfl):∃S1,Fg S S1∧∃X',Gl C X' held S1∧Dq C X' S1∧WD C r X' K S1:=
 ⟨⟨e,b,[]⟩,Fz (by simp only [Prod.mk.injEq] at h ⊢; exact ⟨h.1,h.2,trivial⟩),[],hh,trivial,k⟩
theorem LQ {C:Av} {K:St→Prop} {S:St} {held X:List Bg} {p rest:DP} {d:Option Nat} {f:Nat} {as:List As} {gv:List V} {r:V} (H:C f ⟨gv,[]⟩ ⟨r,[],[]⟩) (h3:r.flat.all Ez=true)
  (k:∃S1,Fg ((S.drops (La (d.getD 0) (Bc r.flat))).put d (Dv (El (d.getD 0) 0 [] []) r)) S1∧∃X',Gl C X' held S1∧Dq C X' S1∧WD C p X' K S1) (k2:WD C rest X K S)
  (h:(Jv S as,Mp (fun v => !An v) (as.map fun x=>Ad (S.val x)),(as.map fun x=>Ad (S.val x)).map (mapW (S.liftC [] [] [] false)))=(true,true,gv):=by kernel_rfl):WD C (.alt held ⟨d,.call f as,none⟩ p rest) X K S:=by
 simp only [Prod.mk.injEq] at h
 exact Do (Kh false H (Hf h.1) h.2.1 h.2.2 (fun _=>h3) k) k2
theorem ar {a b:Bool} (h:b=true) (ha:a=true:=by exact rfl):(a&&b)=true:=Ek ha h
theorem af {α:Type} {e:α→List V} {xs:List α} {t off sz:Nat} {b:Bool} (h:b=true) (h1:∀x,(e x).all scal=true:=by exact fun _=>rfl):(Ez (.own t off sz (xs.map e))&&b)=true:=Ek (OY h1) h
theorem jn {R G:St→Prop} {S' S1:St} (hJ:∀S S1,Fg S S1→R S1→G S) (h1:R S1)
  (h:(S1.env.map (fun p=>look S'.env p.1),S1.bx.map (fun p=>look S'.bx p.1),S1.cp)=(S1.env.map (fun p=>some p.2),S1.bx.map (fun p=>some p.2),([]:List (Nat×Int))):=by kernel_rfl):G S':=hJ _ _ (Fz h) h1
theorem Cv {α:Type} {c:As} {a b:IR} {cb:Bool} {x y r:α} (h0:(if cb=true then x else y)=r) (k1:cb=true→x=r→WL C (.c a::T) Q .normal S) (k2:cb=false→y=r→WL C (.c b::T) Q .normal S)
  (hc:S.val c = .bool cb:=by kernel_rfl):WL C (.c (.ite c a b)::T) Q .normal S:=HQ hc (fun h=>k1 h (ip h h0)) (fun h=>k2 h (OD h h0))
def jC (S:St) (as:List As):Bool×Bool×List V:=(Jv S as,Mp (fun v => !An v) (as.map fun x=>Ad (S.val x)),(as.map fun x=>Ad (S.val x)).map (mapW (S.liftC [] [] [] false)))
theorem Ru {d:Option Nat} {l:List Bg} {f:Nat} {as:List As} {gv:List V} {r:V} (H:C f ⟨gv,[]⟩ ⟨r,[],[]⟩) (h3:r.flat.all Ez=true)
  (k:OL C l T Q ((S.drops (La (d.getD 0) (Bc r.flat))).put d (Dv (El (d.getD 0) 0 [] []) r))) (h:jC S as=(true,true,gv):=by kernel_rfl):OL C (⟨d,.call f as,none⟩::l) T Q S:=by
 simp only [jC,Prod.mk.injEq] at h
 exact st (Kh false H (Hf h.1) h.2.1 h.2.2 (fun _=>h3) k)
theorem Rv {d:Option Nat} {l:List Bg} {f:Nat} {as:List As} {gv:List V} {r:V} (H:C f ⟨gv,[]⟩ ⟨r,[],[]⟩)
  (k:OL C l T Q ((S.drops (La (d.getD 0) (Bc r.flat))).put d (Dv (El (d.getD 0) 0 [] []) r))) (h:jC S as=(true,true,gv):=by kernel_rfl) (h3:r.flat.all Ez=true:=by kernel_rfl):OL C (⟨d,.call f as,none⟩::l) T Q S:=Ru H h3 k h
def Yj (S:St) (g:Bool):List As→List (Bool×Bool)
 | []=>[]
 | x::r=>match S.val x with
  | .may b _=>(b,g)::Yj S g r
  | _=>Yj S g r
def CQ (b:Bool):V→List (Bool×Bool)
 | .may c _=>[(c,b)]
 | _=>[]
abbrev Ju (l:List (Bool×Bool)):Prop:=l.map (·.1)=l.map (·.2)
theorem Tq {S:St} {g:Bool} (hg:g=true):∀ {l:List As},Ju (Yj S g l)→Ax (fun x=>Ag true (S.val x)) l
 | [],_=>trivial
 | x::r,h=>by
  unfold Yj at h
  split at h
  ·rename_i hx
   simp only [Ju,List.map_cons,List.cons.injEq] at h
   refine ⟨?_,Tq hg h.2⟩
   show Ag true (S.val x)
   rw [hx]
   exact fun _=>by rw [h.1]; exact hg
  ·rename_i hx
   refine ⟨?_,Tq hg h⟩
   show Ag true (S.val x)
   cases hv:S.val x<;>first | trivial | exact absurd hv (hx _ _)
theorem bV {b c:Bool} {v:V} (h:Ju (CQ b v)) (hb:c=true→b=true):Ag c v:=by
 cases v with
 | may x y=>
  simp only [Ju,CQ,List.map_cons,List.map_nil,List.cons.injEq,and_true] at h
  exact fun hc=>by rw [h]; exact hb hc
 | _=>trivial
def q2 (i:Bg) (S:St):Option (St×List (Bool×Bool)):=
 match i with
 | ⟨d,.p o,some (gs,want)⟩=>match Mg (S.val (.t gs)) want with
  | some g=>match Mh S o with
   | true=>match pu S (fun x=>Ad (S.val x)) o with
    | some (_,v)=>some (S.put d (.may g v),Yj S g o.opds)
    | none=>none
   | false=>none
  | none=>none
 | ⟨d,.pick c a b,none⟩=>match S.val c with
  | .bool cb=>some (S.put d (Mn cb (Ad (S.val a)) (Ad (S.val b))),CQ (cb==true) (S.val a)++CQ (cb==false) (S.val b))
  | _=>none
 | i=>match q1 i S with
  | some S'=>some (S',[])
  | none=>none
theorem Wc {a b:List (Bool×Bool)} (h:Ju (a++b)):Ju a:=by
 simp only [Ju,List.map_append] at h
 exact (List.append_inj h (by simp)).1
theorem aU {a b:List (Bool×Bool)} (h:Ju (a++b)):Ju b:=by
 simp only [Ju,List.map_append] at h
 exact (List.append_inj h (by simp)).2
theorem EG {C:Av} {i:Bg} {S S':St} {l:List (Bool×Bool)} {K:St→Prop} (h:q2 i S=some (S',l)) (hl:Ju l) (k:K S'):Bw C i S K:=by
 unfold q2 at h
 split at h
 ·split at h
  ·rename_i hg
   split at h
   ·rename_i h2
    split at h
    ·rename_i h3
     cases h
     exact Po hg (fun e=>⟨Tq e hl,_,h3,Wx h2 h3⟩) k
    ·cases h
   ·cases h
  ·cases h
 ·split at h
  ·rename_i hc
   cases h
   exact Pd hc rfl rfl (bV (Wc hl) fun e=>by rw [e]; rfl) (bV (aU hl) fun e=>BA e) rfl k
  ·cases h
 ·split at h
  ·rename_i h1
   cases h
   exact lH h1 k
  ·cases h
theorem lJ {i:Bg} {S S':St} {l:List (Bool×Bool)} (h:q2 i S=some (S',l)):Bs i S:=by
 unfold q2 at h
 split at h
 ·rename_i d o gs want
  unfold Bs
  split
  ·rename_i x n ag hop
   split
   ·rename_i hx
    cases hop
    split at h
    ·split at h
     ·rename_i hp
      simp only [Mh,hx] at hp
      cases hp
     ·cases h
    ·cases h
   ·trivial
  ·trivial
 ·trivial
 ·split at h
  ·rename_i h1
   exact Ue h1
  ·cases h
def Qq:Nat→List Es→St→Option (St×List (Bool×Bool))
 | 0,_,S=>some (S,[])
 | n+1,T,S=>match Sj T with
  | some (none,T')=>Qq n T' S
  | some (some i,T')=>match q2 i S with
   | some (S',l)=>match Qq n T' S' with
    | some (S2,l2)=>some (S2,l++l2)
    | none=>none
   | none=>none
  | none=>none
theorem Sd:∀(n:Nat) {T:List Es} {S S':St} {l:List (Bool×Bool)},Qq n T S=some (S',l)→Ju l→WL C (Rl n T) Q .normal S'→WL C T Q .normal S
 | 0,T,S,S',l,h,_,k=>by cases h; exact k
 | n+1,T,S,S',l,h,hl,k=>by
  unfold Qq at h
  unfold Rl at k
  split at h
  ·rename_i h1
   rw [h1] at k
   exact Vd h1 (Sd n h hl k)
  ·rename_i i T' h1
   split at h
   ·rename_i S1 l1 h2
    rw [h1] at k
    split at h
    ·rename_i h3
     cases h
     have kk:=Sd n h3 (aU hl) k
     unfold Sj at h1
     split at h1<;>cases h1
     ·exact Aj (st (EG h2 (Wc hl) kk))
     ·exact Cr (Ck (lJ h2) (EG h2 (Wc hl) ⟨trivial,kk⟩))
    ·cases h
   ·cases h
  ·cases h
def lU (o:Option (St×List (Bool×Bool))) (S':St):Option ((List (Option V)×List (Option (List V))×List (Nat×Int))×List Bool):=o.map fun p=>((S'.env.map (fun q=>look p.1.env q.1),S'.bx.map (fun q=>look p.1.bx q.1),S'.cp),p.2.map (·.1))
def mB (o:Option (St×List (Bool×Bool))) (S':St):Option ((List (Option V)×List (Option (List V))×List (Nat×Int))×List Bool):=match o with
 | some p=>some ((S'.env.map (fun p=>some p.2),S'.bx.map (fun p=>some p.2),[]),p.2.map (·.2))
 | none=>some (([],[],[]),[])
theorem PA (n:Nat) (S':St) (k:WL C (IS (Rl n T)) Q .normal S') (hw:IN (Rl n T)=true:=by kernel_rfl) (h:lU (Qq n T S) S'=mB (Qq n T S) S':=by kernel_rfl):WL C T Q .normal S:=by
 cases hR:Qq n T S with
 | none=>rw [hR] at h; cases h
 | some p=>
  obtain ⟨S1,l⟩:=p
  rw [hR] at h
  simp only [lU,mB,Option.map_some,Option.some.injEq,Prod.mk.injEq] at h
  refine Sd n hR h.2 ?_
  cases hT:Rl n T with
  | nil=>rw [hT] at hw; cases hw
  | cons x T'=>
   rw [hT] at hw k
   cases x with
   | w=>exact Fs S' (.le (Xo.le (by simp only [Prod.mk.injEq]; exact h.1))) k
   | c a=>cases hw
   | b id=>cases hw
def LG (n:Nat) (T:List Es) (S:St):St:=match Qq n T S with
 | some p=>p.1
 | none=>S
def FX:Option (St×List (Bool×Bool))→Option (List Bool)
 | some p=>some (p.2.map (·.1))
 | none=>none
def FY:Option (St×List (Bool×Bool))→Option (List Bool)
 | some p=>some (p.2.map (·.2))
 | none=>some []
theorem KX (n:Nat) (k:WL C (Rl n T) Q .normal (LG n T S)) (h:FX (Qq n T S)=FY (Qq n T S):=by kernel_rfl):WL C T Q .normal S:=by
 cases hR:Qq n T S with
 | none=>rw [hR] at h; cases h
 | some p=>
  obtain ⟨S1,l⟩:=p
  unfold LG at k
  rw [hR] at k h
  exact Sd n hR (Option.some.inj h) k
theorem HU (n:Nat) (ts:List Nat) (rs:List (Nat×Nat)) (e:List (Nat×V)) (b:List (Nat×List V)) (k:WL C (IS (Rl n T)) Q .normal ⟨e,b,[]⟩)
  (hw:IN (Rl n T)=true:=by kernel_rfl) (hr:aI rs=true:=by kernel_rfl) (h:cF ((run n T S).map fun S=>(S.freezes ts).swaps rs) ⟨e,b,[]⟩=cL ⟨e,b,[]⟩:=by kernel_rfl):WL C T Q .normal S:=OR n ts rs _ k hw hr h
theorem At (n:Nat) (e:List (Nat×V)) (b:List (Nat×List V)) (k:WL C (IS (Rl n T)) Q .normal ⟨e,b,[]⟩) (hw:IN (Rl n T)=true:=by kernel_rfl) (h:cF (run n T S) ⟨e,b,[]⟩=cL ⟨e,b,[]⟩:=by kernel_rfl):WL C T Q .normal S:=PB n _ k hw h
theorem OQ (n:Nat) (e:List (Nat×V)) (b:List (Nat×List V)) (k:WL C (IS (Rl n T)) Q .normal ⟨e,b,[]⟩) (hw:IN (Rl n T)=true:=by kernel_rfl) (h:lU (Qq n T S) ⟨e,b,[]⟩=mB (Qq n T S) ⟨e,b,[]⟩:=by kernel_rfl):WL C T Q .normal S:=PA n _ k hw h
def lM (t:Nat) (u:V):V→V
 | .own t' off sz es=>if t'=t then u else .own t' off sz es
 | c=>c
theorem map_fix {f g h:V→V} (H:∀c,f c=c→g c=h c):∀cs:List V,cs.map f=cs→cs.map g=cs.map h
 | [],_=>rfl
 | c::r,e=>by
  simp only [List.map_cons,List.cons.injEq] at e ⊢
  exact ⟨H c e.1,map_fix H r e.2⟩
def eH (f:V→V):V→V
 | .agg cs=>.agg (cs.map f)
 | c=>f c
theorem Yw {f g h:V→V} (H:∀c,f c=c→g c=h c) (v:V) (e:eH f v=v):eH g v=eH h v:=by
 cases v with
 | agg cs=>simp only [eH,V.agg.injEq] at e ⊢; exact map_fix H cs e
 | _=>exact H _ e
theorem To (f:V→V) (vs:List V):Dv f (.tup vs) = .tup (vs.map (eH f)):=by
 show V.tup (vs.map _)=_
 congr 1
theorem Qc (f:V→V) (b:Bool) (vs:List V):Dv f (.may b (.tup vs)) = .may b (.tup (vs.map (eH f))):=by
 show V.may b (.tup (vs.map _))=_
 congr 2
theorem kL {f g h:V→V} (H:∀c,f c=c→g c=h c) (v:V) (e:Dv f v=v):Dv g v=Dv h v:=by
 cases v with
 | agg cs=>simp only [Dv,V.agg.injEq] at e ⊢; exact map_fix H cs e
 | tup vs=>
  rw [To] at e
  rw [To,To]
  rw [map_fix (Yw H) vs (by simpa using e)]
 | may b w=>
  cases w with
  | agg cs=>simp only [Dv,V.may.injEq,V.agg.injEq,true_and] at e ⊢; exact map_fix H cs e
  | tup vs=>
   rw [Qc] at e
   rw [Qc,Qc]
   rw [map_fix (Yw H) vs (by simpa using e)]
  | _=>simp only [Dv,V.may.injEq,true_and] at e ⊢; exact H _ e
 | _=>exact H _ e
theorem Tm {f g h:V→V} (H:∀c,f c=c→g c=h c):∀l:List (Nat×V),Hq f l=l→Hq g l=Hq h l
 | [],_=>rfl
 | (a,v)::r,e=>by
  simp only [Hq,List.cons.injEq,Prod.mk.injEq,true_and] at e ⊢
  exact ⟨kL H v e.1,Tm H r e.2⟩
theorem Vr {f g h:V→V} (H:∀c,f c=c→g c=h c):∀l:List (Nat×List V),Kw f l=l→Kw g l=Kw h l
 | [],_=>rfl
 | (a,cs)::r,e=>by
  simp only [Kw,List.cons.injEq,Prod.mk.injEq,true_and] at e ⊢
  exact ⟨map_fix H cs e.1,Vr H r e.2⟩
theorem St.map_fix {f g h:V→V} (H:∀c,f c=c→g c=h c) (S:St) (e:S.map f=S):S.map g=S.map h:=by
 cases S with
 | mk env bx cp=>
  simp only [St.map,St.mk.injEq,and_true] at e ⊢
  exact ⟨Tm H env e.1,Vr H bx e.2⟩
theorem DE {t off sz at_:Nat} {A:List (List V)} {y:List V} (c:V) (e:lM t (.own t off sz A) c=c):Ux t sz at_ [y] c=lM t (.own t off sz (Dg off A at_ [y])) c:=by
 cases c with
 | own t' off' sz' es=>
  simp only [lM,Ux] at e ⊢
  by_cases h:t'=t
  ·rw [if_pos h] at e ⊢
   simp only [V.own.injEq] at e
   obtain ⟨_,rfl,rfl,rfl⟩:=e
   rw [if_pos h,if_pos rfl,h]
  ·rw [if_neg h,if_neg h]
 | _=>rfl
def LJ (S:St) (v:As) (t off sz k:Nat) (A:List (List V)) (y:List V):Bool×Bool×Nat×Bool×Bool×Bool×List V×St:=
 (Ub (S.val v),An (Ad (S.val v)),(Ad (S.val v)).cells.length,Nat.ble (k+(Ad (S.val v)).cells.length) sz,(Ad (S.val v)).cells.all (fun c => !Ft c),(Ad (S.val v)).tags.all (· != t),
  Bd y k ((Ad (S.val v)).cells.map Bm),(S.freezes (Ad (S.val v)).tags).map (lM t (.own t off sz A)))
theorem LI {α:Type} {e:α→List V} {l0:List α} {d:Option Nat} {l:List Bg} {x v:As} {n t sz j k off i:Nat} {y:α} (y':α) (hx:S.val x = .optr t sz j k) (hf:S.find t=some (off,l0.map e)) (hy:l0[i]? = some y)
  (k':OL C l T Q ((((S.freezes (Ad (S.val v)).tags).map (lM t (.own t off sz ((l0.set i y').map e)))).put d .undef)))
  (h:LJ S v t off sz k (l0.map e) (e y)=(true,false,n,true,true,true,e y',S.freezes (Ad (S.val v)).tags):=by kernel_rfl) (hj:j=off+i:=by kernel_rfl) (hs:(e y).length=sz:=by kernel_rfl) (hdp:Aq t=false:=by rfl):
  OL C (⟨d,.store x v n,none⟩::l) T Q S:=by
 simp only [LJ,Prod.mk.injEq] at h
 obtain ⟨h1,h2,h3,h4,h5,h6,h7,h8⟩:=h
 refine st (OH (y':=y') hx rfl (It h1) h2 h3 hf hj hy (by rw [←h3]; exact Nat.le_of_ble_eq_true h4) hs h5 h6 h7 ?_ hdp)
 rw [St.map_fix (fun c hc=>DE c hc) _ h8,Gi]
 exact k'
theorem eZ {α:Type} {e:α→List V} {l0:List α} {d:Option Nat} {l:List Bg} {x i:As} {t off sz:Nat} {q:IntKind} {n:Int} {y:α} (hx:S.val x = .own t off sz (l0.map e)) (hi:S.val i = .int q n) (hy:Eg l0 n=some y)
  (k':OL C l T Q (S.put d (.optr t sz (off+n.toNat) 0))):OL C (⟨d,.p (.idxA x i sz),none⟩::l) T Q S:=st (OC hx hi hy k')
theorem aO {α:Type} {e:α→List V} {l0:List α} {d:Option Nat} {l:List Bg} {x i:As} {sz:Nat} {q:IntKind} {n:Int} {y:α} (hx:S.val x = .lst sz (l0.map e)) (hi:S.val i = .int q n) (hy:Eg l0 n=some y)
  (k':OL C l T Q (S.put d (.iptr (e y)))):OL C (⟨d,.p (.idxA x i sz),none⟩::l) T Q S:=st (KZ hx hi hy k')
theorem eP {α:Type} {e:α→List V} {l0:List α} {d:Option Nat} {T':List Es} {x i:As} {sz:Nat} {q:IntKind} {n:Int} {y:α} (ha:Sj T=some (some ⟨d,.p (.idxA x i sz),none⟩,T')) (hx:S.val x = .lst sz (l0.map e)) (hi:S.val i = .int q n) (hy:Eg l0 n=some y)
  (k':WL C T' Q .normal (S.put d (.iptr (e y)))):WL C T Q .normal S:=by
 unfold Sj at ha
 split at ha<;>cases ha
 ·exact Aj (aO hx hi hy k')
 ·exact Cr (Ck trivial (KZ hx hi hy ⟨trivial,k'⟩))
theorem eX {α:Type} {e:α→List V} {l0:List α} {d:Option Nat} {l:List Bg} {x:As} {t off sz:Nat} (hx:S.val x = .own t off sz (l0.map e)) (k':OL C l T Q (S.put d (.int .i64 (l0.length:Int)))) (hz:sz≠0:=by decide):OL C (⟨d,.p (.len x),none⟩::l) T Q S:=st (OF hx k' hz)
theorem Gr {α:Type} {e:α→List V} {l0:List α} {d:Option Nat} {l:List Bg} {x:As} {sz:Nat} (hx:S.val x = .lst sz (l0.map e)) (k':OL C l T Q (S.put d (.int .i64 (l0.length:Int)))) (hz:sz≠0:=by decide):OL C (⟨d,.p (.len x),none⟩::l) T Q S:=st (OE hx k' hz)
theorem LP {α:Type} {e:α→List V} {l0:List α} {x i:As} {sz:Nat} {q:IntKind} {n:Int} {y:α} (hx:S.val x = .lst sz (l0.map e)) (hi:S.val i = .int q n) (hy:Eg l0 n=some y):Cp S (.p (.idxA x i sz)) (.iptr (e y)):=jF hx rfl trivial hi rfl trivial hy
theorem LN {d:Option Nat} {l:List Bg} {f:Nat} {as:List As} (LB LR LM:List Nat) {g:Md} {t:De} (H:C f g t) (h3:t.flat=true) (k:OL C l T Q (((S.after (as.map fun x=>Ad (S.val x)) (d.getD 0) false LB LR LM t).put d (Dv (El (d.getD 0) (t.bx.length-LB.length) LB LR) t.r))))
  (h:(Jv S as,Mp (fun v => !An v) (as.map fun x=>Ad (S.val x)),S.give (as.map fun x=>Ad (S.val x)) LB LR LM false,(Ba LB&&Ba (LR++LM)&&Ku Am LM&&LB.all (fun T=>(look S.bx T).isSome)),
   (Ku 33 [t.bx.length-LB.length,LM.length,LR.length]&&Hg (t.newB (d.getD 0) LB.length) LB&&Hg (t.newR (d.getD 0)) LR))=(true,true,g,true,true):=by kernel_rfl):OL C (⟨d,.call f as,none⟩::l) T Q S:=by
 simp only [Prod.mk.injEq] at h
 obtain ⟨a1,a2,a3,a4,a5⟩:=h
 exact st (jB LB LR LM false H (Hf a1) a2 a3 a4 a5 (fun _=>h3) k)
theorem NX {d:Option Nat} {l:List Bg} {f:Nat} {as:List As} (LB LR LM:List Nat) {g:Md} {t:De} (H:C f g t) (k:OL C l T Q (((S.after (as.map fun x=>Ad (S.val x)) (d.getD 0) true LB LR LM t).put d (Dv (El (d.getD 0) (t.bx.length-LB.length) LB LR) t.r))))
  (h:(Jv S as,Mp (fun v => !An v) (as.map fun x=>Ad (S.val x)),S.give (as.map fun x=>Ad (S.val x)) LB LR LM true,(Ba LB&&Ba (LR++LM)&&Ku Am LM&&LB.all (fun T=>(look S.bx T).isSome)),
   (Ku 33 [t.bx.length-LB.length,LM.length,LR.length]&&Hg (t.newB (d.getD 0) LB.length) LB&&Hg (t.newR (d.getD 0)) LR))=(true,true,g,true,true):=by kernel_rfl):OL C (⟨d,.call f as,none⟩::l) T Q S:=by
 simp only [Prod.mk.injEq] at h
 obtain ⟨a1,a2,a3,a4,a5⟩:=h
 exact st (jB LB LR LM true H (Hf a1) a2 a3 a4 a5 (fun h=>nomatch h) k)
theorem o_ {l:List Bg} (k:WL C (.c (.reg l)::T) Q .normal S):OL C l T Q S:=k
theorem d_ {p:DP} (k:WL C (.c (.draw p)::T) Q .normal S):WD C p [] (WL C T Q .normal) S:=k
end Go.Ev
