/- Many instructions at once: what can be reckoned is reckoned by the kernel. -/
import Derived.Test.YtknpcenmkejaaaaQvM
set_option linter.all false
namespace Go.Ev
def Xo:V→Bool
 | .may _ _=>false
 | _=>true
theorem Kv {v:V} (h:Xo v=true):As true v:=by cases v<;>first | trivial | cases h
def aQ (S:St) (n:Nat):List (Nat×Nat×Bj)→Bool
 | []=>true
 | p::r=>match Bc (Ai (S.val p.2.2)) with
  | true=>false
  | false=>match Nat.beq (Ai (S.val p.2.2)).cells.length p.2.1 with
   | true=>match Nat.ble (p.1+p.2.1) n with
    | true=>aQ S n r
    | false=>false
   | false=>false
theorem Za {S:St} {n:Nat}:∀ {l:List (Nat×Nat×Bj)},aQ S n l=true→Bq (fun p=>Bc (Ai (S.val p.2.2))=false∧(Ai (S.val p.2.2)).cells.length=p.2.1∧p.1+p.2.1≤n) l
 | [],_=>trivial
 | p::r,h=>by
  unfold aQ at h
  split at h
  ·cases h
  ·rename_i h1
   split at h
   ·rename_i h2
    split at h
    ·rename_i h3
     exact ⟨⟨h1,Nat.eq_of_beq_eq_true h2,Nat.le_of_ble_eq_true h3⟩,Za h⟩
    ·cases h
   ·cases h
def Pa (S:St):PU→Bool
 | .mv _ | .un _ _ | .conv _ _ | .binB _ _ _ | .eqs _ _ _ _ | .lenS _ | .strc _ | .ext _ _ | .nilc _ | .xbyte _ _ | .scmp _ _ | .mget _ _=>true
 | .bin op x _=>match op with
  | .eql | .neq | .lss | .leq | .gtr | .geq=>true
  | .sub | .mul | .and | .or | .xor | .andNot=>true
  | .add=>match Ai (S.val x) with
   | .int _ _=>true
   | _=>false
  | _=>false
 | .mn x y | .mx x y=>match Ai (S.val x),Ai (S.val y) with
  | .int k _,.int k' _=>decide (k=k')
  | _,_=>false
 | .load x n _=>match Ai (S.val x) with
  | .ptr t k=>match look S.bx t with
   | some cs=>Nat.ble (k+n) cs.length
   | none=>false
  | .iptr cs=>Nat.ble n cs.length
  | _=>false
 | .fieldA x off=>match Ai (S.val x) with
  | .ptr _ _ | .optr _ _ _ _=>true
  | .iptr cs=>Nat.ble off cs.length
  | _=>false
 | .field x off n _=>match Ai (S.val x) with
  | .agg cs=>Nat.ble (off+n) cs.length
  | _=>false
 | .len x=>match Ai (S.val x) with
  | .lst (_+1) _ | .own _ _ (_+1) _=>true
  | _=>false
 | .build zero ps=>aQ S zero.length ps
 | .fn _ caps=>Pq (caps.map fun x=>Ai (S.val x))
 | _=>false
theorem bO {S:St} {o:PU} {φ:Prop} {v:V} (h:Pa S o=true) (h2:pu S (fun x=>Ai (S.val x)) o=some (φ,v)):φ:=by
 cases o with
 | mv x=>simp only [pu,Option.some.injEq,Prod.mk.injEq] at h2; rw [←h2.1]; trivial
 | bin op x y=>
  simp only [pu] at h2
  split at h2
  ·split at h2
   ·cases h
   ·cases h
   ·split at h2
    ·unfold bF at h2
     split at h2<;>first | (cases h; done) | (cases h2; trivial) | (cases h2)
    ·cases h2
  ·rename_i hx hy
   unfold bV at h2
   split at h2<;>first | (cases h2; trivial) | skip
   ·simp only [Pa,hx] at h; cases h
   ·cases h2
  ·cases h2
 | binB op x y=>
  simp only [pu] at h2
  split at h2
  ·split at h2<;>first | (cases h2; trivial) | cases h2
  ·cases h2
 | eqs ne ks x y=>
  simp only [pu] at h2
  split at h2
  ·split at h2<;>first | (cases h2; trivial) | cases h2
  ·cases h2
 | un op x=>
  simp only [pu] at h2
  split at h2<;>first | (cases h2; trivial) | cases h2
 | conv k x=>
  simp only [pu] at h2
  split at h2<;>first | (cases h2; trivial) | cases h2
 | lenS x=>
  simp only [pu] at h2
  split at h2<;>first | (cases h2; trivial) | cases h2
 | strc x=>
  simp only [pu] at h2
  split at h2<;>first | (cases h2; trivial) | cases h2
 | ext x i=>
  simp only [pu] at h2
  split at h2
  ·split at h2<;>first | (cases h2; trivial) | cases h2
  ·cases h2
 | nilc x=>
  simp only [pu] at h2
  split at h2<;>first | (cases h2; trivial) | cases h2
 | xbyte x y=>
  simp only [pu] at h2
  split at h2<;>first | (cases h2; trivial) | cases h2
 | mget x y=>
  simp only [pu] at h2
  split at h2<;>first | (cases h2; trivial) | cases h2
 | scmp x y=>
  simp only [pu] at h2
  split at h2<;>first | (cases h2; trivial) | cases h2
 | mn x y=>
  simp only [pu] at h2
  split at h2
  ·rename_i hx hy
   simp only [Pa,hx,hy] at h
   cases h2; exact of_decide_eq_true h
  ·cases h2
 | mx x y=>
  simp only [pu] at h2
  split at h2
  ·rename_i hx hy
   simp only [Pa,hx,hy] at h
   cases h2; exact of_decide_eq_true h
  ·cases h2
 | load x n ag=>
  simp only [pu] at h2
  split at h2
  ·rename_i hx
   split at h2
   ·rename_i hl
    split at h2
    ·simp only [Pa,hx,hl] at h
     cases h2; exact Nat.le_of_ble_eq_true h
    ·cases h2
   ·cases h2
  ·rename_i hx
   split at h2
   ·simp only [Pa,hx] at h
    cases h2; exact Nat.le_of_ble_eq_true h
   ·cases h2
  ·rename_i hx
   simp only [Pa,hx] at h; cases h
  ·cases h2
 | fieldA x off=>
  simp only [pu] at h2
  split at h2
  ·cases h2; trivial
  ·rename_i hx
   simp only [Pa,hx] at h
   cases h2; exact Nat.le_of_ble_eq_true h
  ·cases h2; trivial
  ·cases h2
 | field x off n ag=>
  simp only [pu] at h2
  split at h2
  ·rename_i hx
   split at h2
   ·simp only [Pa,hx] at h
    cases h2; exact Nat.le_of_ble_eq_true h
   ·cases h2
  ·cases h2
 | len x=>
  simp only [pu] at h2
  split at h2
  ·rename_i s es hx
   simp only [Pa,hx] at h
   cases h2
   cases s with
   | zero=>cases h
   | succ n=>exact Nat.succ_ne_zero n
  ·rename_i s es hx
   simp only [Pa,hx] at h
   cases h2
   cases s with
   | zero=>cases h
   | succ n=>exact Nat.succ_ne_zero n
  ·cases h2
 | fn f caps=>simp only [pu,Option.some.injEq,Prod.mk.injEq] at h2; rw [←h2.1]; exact h
 | build zero ps=>simp only [pu,Option.some.injEq,Prod.mk.injEq] at h2; rw [←h2.1]; exact Za h
 | _=>cases h
def Lx (S:St):List Bj→Bool
 | []=>true
 | x::r=>match Xo (S.val x) with
  | true=>Lx S r
  | false=>false
theorem Iw {S:St}:∀ {l:List Bj},Lx S l=true→Bq (fun x=>As true (S.val x)) l
 | [],_=>trivial
 | x::r,h=>by
  unfold Lx at h
  split at h
  ·rename_i hp; exact ⟨Kv hp,Iw h⟩
  ·cases h
def jQ (sz len:Nat):List (Nat×V)→Bool
 | []=>true
 | p::r=>match Nat.blt p.1 len with
  | true=>match Nat.beq p.2.cells.length sz with
   | true=>match p.2.cells.all (fun c => !Hj c) with
    | true=>jQ sz len r
    | false=>false
   | false=>false
  | false=>false
theorem dR {sz len:Nat}:∀ {l:List (Nat×V)},jQ sz len l=true→Bq (fun p=>p.1<len∧p.2.cells.length=sz∧p.2.cells.all (fun c => !Hj c)=true) l
 | [],_=>trivial
 | p::r,h=>by
  unfold jQ at h
  split at h
  ·rename_i h1
   split at h
   ·rename_i h2
    split at h
    ·rename_i h3
     exact ⟨⟨Nat.le_of_ble_eq_true h1,Nat.eq_of_beq_eq_true h2,h3⟩,dR h⟩
    ·cases h
   ·cases h
  ·cases h
theorem tN {S:St}:∀ {l:List (Nat×Bj)},Lx S (l.map (·.2))=true→Bq (fun p=>nm S p.2) l
 | [],_=>trivial
 | p::r,h=>by
  unfold List.map Lx at h
  split at h
  ·rename_i hp; exact ⟨Kv hp,tN h⟩
  ·cases h
def q1 (i:Bg) (S:St):Option St:=
 match i with
 | ⟨d,.p o,none⟩=>match Lx S o.opds with
  | true=>match Pa S o with
   | true=>match pu S (fun x=>Ai (S.val x)) o with
    | some (_,v)=>some (S.putC d v (Hq (fun x=>Ai (S.val x)) o))
    | none=>none
   | false=>none
  | false=>none
 | ⟨some d,.box x,none⟩=>match Xo ((S.drop (64*d)).val x) with
  | true=>match Bc (Ai ((S.drop (64*d)).val x)) with
   | true=>none
   | false=>some (((S.drop (64*d)).setBx (64*d) (Ai ((S.drop (64*d)).val x)).cells).put (some d) (.ptr (64*d) 0))
  | false=>none
 | ⟨some d,.alloc z,none⟩=>some (((S.drop (64*d)).setBx (64*d) z).put (some d) (.ptr (64*d) 0))
 | ⟨some d,.nilS sz,none⟩=>some ((S.drop (64*d)).put (some d) (.own (64*d) 0 sz []))
 | ⟨d,.store x v n,none⟩=>match S.val x with
  | .ptr t k=>match Xo (S.val v) with
   | true=>match Bc (Ai (S.val v)) with
    | true=>none
    | false=>match Nat.beq (Ai (S.val v)).cells.length n with
     | true=>match look S.bx t with
      | some bs=>match Nat.ble (k+n) bs.length with
       | true=>some ((S.setBx t (Bx bs k (Ai (S.val v)).cells)).put d .undef)
       | false=>none
      | none=>none
     | false=>none
   | false=>none
  | _=>none
 | ⟨some d,.mkS sz zero len parts,none⟩=>match Lx S (parts.map (·.2)) with
  | true=>match jQ sz len (parts.map fun p=>(p.1,Ai (S.val p.2))) with
   | true=>some (((S.freezes (Hy (parts.map fun p=>(p.1,Ai (S.val p.2))))).drop (64*d)).put (some d)
    (.own (64*d) 0 sz (Jf sz (List.replicate len zero) ((parts.map fun p=>(p.1,Ai (S.val p.2))).map fun p=>(p.1,p.2.cells.map Cm)))))
   | false=>none
  | false=>none
 | _=>none
theorem uF {C:Az} {i:Bg} {S S':St} {K:St→Prop} (h:q1 i S=some S') (k:K S'):Cg C i S K:=by
 unfold q1 at h
 split at h
 ·split at h
  ·rename_i h1
   split at h
   ·rename_i h2
    split at h
    ·rename_i h3
     cases h
     exact p_ (Iw h1) h3 (bO h2 h3) k
    ·cases h
   ·cases h
  ·cases h
 ·split at h
  ·rename_i h1
   split at h
   ·cases h
   ·rename_i h2
    cases h
    exact Mk rfl (Kv h1) h2 k
  ·cases h
 ·cases h; exact Eb k
 ·cases h; exact Ed k
 ·split at h
  ·rename_i hx
   split at h
   ·rename_i h1
    split at h
    ·cases h
    ·rename_i h2
     split at h
     ·rename_i h3
      split at h
      ·rename_i h4
       split at h
       ·rename_i h5
        cases h
        exact Ej hx rfl (Kv h1) h2 (Nat.eq_of_beq_eq_true h3) h4 (Nat.le_of_ble_eq_true h5) k
       ·cases h
      ·cases h
     ·cases h
   ·cases h
  ·cases h
 ·split at h
  ·rename_i h1
   split at h
   ·rename_i h2
    cases h
    exact Ia (tN h1) (dR h2) k
   ·cases h
  ·cases h
 ·cases h
theorem Xs {i:Bg} {S S':St} (h:q1 i S=some S'):Ct i S:=by
 unfold Ct
 split
 ·rename_i o x n ag hop
  split
  ·rename_i hx
   unfold q1 at h
   split at h
   ·rename_i d o' g
    cases hop
    split at h
    ·split at h
     ·rename_i hp
      simp only [Pa,hx] at hp
      cases hp
     ·cases h
    ·cases h
   all_goals first | cases hop | (cases h)
  ·trivial
 ·trivial
def Vt:List Gf→Option (Option Bg×List Gf)
 | .c .skip::T=>some (none,T)
 | .c (.seq a b)::T=>some (none,.c a :: .w :: .c b::T)
 | .c (.reg [])::T=>some (none,T)
 | .c (.reg (i::l))::T=>some (some i,.c (.reg l)::T)
 | .c (.block id a)::T=>some (none,.c a :: .b id::T)
 | .c (.draw .fin)::T=>some (none,T)
 | .c (.draw (.take i p))::T=>some (some i,.c (.draw p)::T)
 | .w::T=>some (none,T)
 | .b _::T=>some (none,T)
 | _=>none
def Yw:Nat→List Gf→List Gf
 | 0,T=>T
 | n+1,T=>match Vt T with
  | some (_,T')=>Yw n T'
  | none=>T
def run:Nat→List Gf→St→Option St
 | 0,_,S=>some S
 | n+1,T,S=>match Vt T with
  | some (none,T')=>run n T' S
  | some (some i,T')=>match q1 i S with
   | some S'=>run n T' S'
   | none=>none
  | none=>none
variable {C:Az} {Q:Ex→St→Prop} {S:St} {T:List Gf}
theorem Yx {T':List Gf} (h:Vt T=some (none,T')) (k:WL C T' Q .normal S):WL C T Q .normal S:=by
 unfold Vt at h
 split at h<;>cases h
 ·exact En k
 ·exact Ag k
 ·exact k
 ·exact Be k
 ·exact k
 ·exact cF k
 ·exact Qc k
theorem kJ {i:Bg} {T':List Gf} {S':St} (h:Vt T=some (some i,T')) (hq:q1 i S=some S') (k:WL C T' Q .normal S'):WL C T Q .normal S:=by
 unfold Vt at h
 split at h<;>cases h
 ·exact Ac (st (uF hq k))
 ·exact Dj (Ao (Xs hq) (uF hq ⟨trivial,k⟩))
theorem Zl:∀(n:Nat) {T:List Gf} {S S':St},run n T S=some S'→WL C (Yw n T) Q .normal S'→WL C T Q .normal S
 | 0,T,S,S',h,k=>by cases h; exact k
 | n+1,T,S,S',h,k=>by
  unfold run at h
  unfold Yw at k
  split at h
  ·rename_i h1
   rw [h1] at k
   exact Yx h1 (Zl n h k)
  ·rename_i h1
   split at h
   ·rename_i h2
    rw [h1] at k
    exact kJ h1 h2 (Zl n h k)
   ·cases h
  ·cases h
def tlW:List Gf→List Gf
 | .w::T=>T
 | T=>T
def isW:List Gf→Bool
 | .w::_=>true
 | _=>false
def jT (o:Option St) (S':St):Option (List (Option V)×List (Option (List V))×List (Nat×Int)):=o.map fun S=>(S'.env.map (fun p=>look S.env p.1),S'.bx.map (fun p=>look S.bx p.1),S'.cp)
def kA (S':St):Option (List (Option V)×List (Option (List V))×List (Nat×Int)):=some (S'.env.map (fun p=>some p.2),S'.bx.map (fun p=>some p.2),[])
theorem rz_ (n:Nat) (ts:List Nat) (rs:List (Nat×Nat)) (S':St) (k:WL C (tlW (Yw n T)) Q .normal S')
  (hw:isW (Yw n T)=true:=by kernel_rfl) (hr:gI rs=true:=by kernel_rfl) (h:jT ((run n T S).map fun S=>(S.freezes ts).swaps rs) S'=kA S':=by kernel_rfl):WL C T Q .normal S:=by
 cases hR:run n T S with
 | none=>rw [hR] at h; cases h
 | some S1=>
  rw [hR] at h
  refine Zl n hR ?_
  cases hT:Yw n T with
  | nil=>rw [hT] at hw; cases hw
  | cons x T'=>
   rw [hT] at hw k
   cases x with
   | w=>exact At S' ((Fg.fz _ ts).trans ((Fg.sw _ rs hr).trans (.le (cJ.le (Option.some.inj h))))) k
   | c a=>cases hw
   | b id=>cases hw
theorem rk_ (n:Nat) (S':St) (k:WL C (tlW (Yw n T)) Q .normal S') (hw:isW (Yw n T)=true:=by kernel_rfl) (h:jT (run n T S) S'=kA S':=by kernel_rfl):WL C T Q .normal S:=
 rz_ n [] [] S' k hw rfl (by cases hR:run n T S with | none=>rw [hR] at h; cases h | some S1=>rw [hR] at h; exact h)
def runD (n:Nat) (T:List Gf) (S:St):St:=(run n T S).getD S
theorem Ch (n:Nat) (k:WL C (Yw n T) Q .normal (runD n T S)) (h:(run n T S).isSome=true:=by kernel_rfl):WL C T Q .normal S:=by
 cases hR:run n T S with
 | none=>rw [hR] at h; cases h
 | some S1=>
  refine Zl n hR ?_
  unfold runD at k
  rw [hR] at k
  exact k
def jL:Nat→List Gf→Bool
 | 0,_=>true
 | n+1,T=>match Vt T with
  | some (none,T')=>jL n T'
  | _=>false
theorem Zu:∀(n:Nat) {T:List Gf},jL n T=true→run n T S=some S
 | 0,_,_=>rfl
 | n+1,T,h=>by
  unfold jL at h
  unfold run
  split at h
  ·rename_i h1
   rw [h1]
   exact Zu n h
  ·cases h
theorem mA (n:Nat) (k:WL C (Yw n T) Q .normal S) (h:jL n T=true:=by kernel_rfl):WL C T Q .normal S:=Zl n (Zu n h) k
def retE (o:Option St) (res:List aM) (nb:Nat):Option (Bool×V×List (List V)):=
 match o with
 | none=>none
 | some S=>match uK S res with
  | none=>none
  | some v=>match Ll S (Uf nb++Ee v.flat) with
   | none=>none
   | some css=>some (Na 33 [(Hf (v.flat++css.flatten)).length,(Ee v.flat).length],Ez (Ry (Hf (v.flat++css.flatten)) (Ee v.flat)) v,Nb (Ry (Hf (v.flat++css.flatten)) (Ee v.flat)) css)
def sY:List Gf→Bool
 | .c .ret::_=>true
 | _=>false
theorem uH {res:List aM} {nb:Nat} {t:Ep} (n:Nat) (hQ:∀S',FQ res nb t .ret S'→Q .ret S') (ts:List Nat:=[]) (h6:t.rw=[]:=by exact rfl) (hr:sY (Yw n T)=true:=by kernel_rfl)
  (h:retE ((run n T S).map fun S=>S.freezes ts) res nb=some (true,t.r,t.bx):=by kernel_rfl):WL C T Q .normal S:=by
 cases hR:run n T S with
 | none=>rw [hR] at h; cases h
 | some S1=>
  rw [hR] at h
  refine Zl n hR ?_
  cases hT:Yw n T with
  | nil=>rw [hT] at hr; cases hr
  | cons x T'=>
   rw [hT] at hr
   unfold sY at hr
   split at hr
   ·rename_i e
    cases e
    refine Du (hQ _ ?_)
    refine retf_ (Fg.fz _ ts) ?_
    unfold retE at h
    split at h
    ·cases h
    ·rename_i S2 e2
     obtain rfl:=Option.some.inj e2
     split at h
     ·cases h
     ·rename_i h1
      split at h
      ·cases h
      ·rename_i h2
       simp only [Option.some.injEq,Prod.mk.injEq] at h
       exact Bp h1 h2 h.1 h.2.1 h.2.2 (by rw [h6]; trivial)
   ·cases hr
theorem Gs {res:List aM} {nb:Nat} {t:Ep} (n:Nat) (ts:List Nat:=[]) (h6:t.rw=[]:=by exact rfl) (hr:sY (Yw n T)=true:=by kernel_rfl)
  (h:retE ((run n T S).map fun S=>S.freezes ts) res nb=some (true,t.r,t.bx):=by kernel_rfl):WL C T (FQ res nb t) .normal S:=uH n (fun _ h=>h) ts h6 hr h
theorem bb {α β:Type} {o:Option α} {f:α→Option β} {r:β} {P:Prop} (h:o.bind f=some r) (k:∀x,o=some x→f x=some r→P):P:=by
 obtain ⟨x,h1,h2⟩:=bnd h
 exact k x h1 h2
theorem bv {α β:Type} {e:α} {f:α→Option β} {r:β} {P:Prop} (h:Bi e f=some r) (k:∀x,x=e→f x=some r→P):P:=k e rfl h
theorem gg {α:Type} {c:Prop} [Decidable c] {a:Option α} {r:α} {P:Prop} (h:(if c then a else none)=some r) (k:c→a=some r→P):P:=k (Qd h).1 (Qd h).2
theorem kn {σ ρ:Type} {K:Ex→St→Prop} {st:σ→St→Prop} {o:σ⊕ρ} {s':σ} {S' S'':St} (hK:∀s',o = .inl s'→∀S' S'',Fg S' S''→st s' S''→K .normal S') (h1:o = .inl s') (h2:st s' S'')
  (h:(S''.env.map (fun p=>look S'.env p.1),S''.bx.map (fun p=>look S'.bx p.1),S''.cp)=(S''.env.map (fun p=>some p.2),S''.bx.map (fun p=>some p.2),([]:List (Nat×Int))):=by kernel_rfl):K .normal S':=hK _ h1 _ _ (Ar h) h2
def jE (S:St) (j:Bg):Option (Option V):=
 match j with
 | ⟨some _,.p o,none⟩=>match Lx S o.opds with
  | true=>match Pa S o with
   | true=>match pu S (fun x=>Ai (S.val x)) o with
    | some (_,v)=>some (some v)
    | none=>none
   | false=>none
  | false=>none
 | _=>none
def Wt (S:St) (j:Bg):Option (Option V):=
 match j with
 | ⟨some d,.p _,none⟩=>some (look S.env d)
 | _=>some none
theorem held1 {C:Az} {X:List Bg} {S:St} {j:Bg} (h:jE S j=Wt S j) (hc:S.cp=[]):(Ct j S∨j∈X)∧Cg C j S (fun S'=>Vq S' S):=by
 unfold jE at h
 split at h
 ·rename_i d o
  split at h
  ·rename_i h1
   split at h
   ·rename_i h2
    split at h
    ·rename_i h3
     have h4:some _=look S.env d:=Option.some.inj h
     refine ⟨.inl ?_,?_⟩
     ·exact Xs (S':=S.putC (some d) _ (Hq (fun x=>Ai (S.val x)) o)) (by simp only [q1,h1,h2,h3]; rfl)
     ·exact Cq ⟨Iw h1,_,h3,bO h2 h3⟩ h4.symm hc
    ·simp only [Wt] at h; cases h
   ·simp only [Wt] at h; cases h
  ·simp only [Wt] at h; cases h
 ·unfold Wt at h
  split at h
  ·cases h
  ·cases h
theorem jD {C:Az} {X:List Bg} {S:St} (hc:S.cp=[]):∀ {l:List Bg},l.map (jE S)=l.map (Wt S)→Fy C X l S
 | [],_=>trivial
 | j::r,h=>by
  simp only [List.map_cons,List.cons.injEq] at h
  exact ⟨held1 h.1 hc,jD hc h.2⟩
theorem hB {C:Az} {X l:List Bg} {S:St} (h:(l.map (jE S),S.cp)=(l.map (Wt S),[]):=by kernel_rfl):Fy C X l S:=by
 simp only [Prod.mk.injEq] at h
 exact jD h.2 h.1
theorem d0 {C:Az} {K:St→Prop} {S:St} {held:List Bg} {r:DP} (hh:Fy C [] held S) (k:WD C r [] K S):∃S1,Fg S S1∧∃X',Fy C X' held S1∧Dq C X' S1∧WD C r X' K S1:=⟨S,Fg.refl S,[],hh,trivial,k⟩
theorem dw {C:Az} {K:St→Prop} {S:St} {held:List Bg} {r:DP} (e:List (Nat×V)) (b:List (Nat×List V)) (hh:Fy C [] held ⟨e,b,[]⟩) (k:WD C r [] K ⟨e,b,[]⟩)
  (h:(e.map (fun p=>look S.env p.1),b.map (fun p=>look S.bx p.1))=(e.map (fun p=>some p.2),b.map (fun p=>some p.2)):=by kernel_rfl):∃S1,Fg S S1∧∃X',Fy C X' held S1∧Dq C X' S1∧WD C r X' K S1:=
 ⟨⟨e,b,[]⟩,Ar (by simp only [Prod.mk.injEq] at h ⊢; exact ⟨h.1,h.2,trivial⟩),[],hh,trivial,k⟩
theorem dc_ {C:Az} {K:St→Prop} {S:St} {held X:List Bg} {p rest:DP} {d:Option Nat} {f:Nat} {as:List Bj} {gv:List V} {r:V} (H:C f ⟨gv,[]⟩ ⟨r,[],[]⟩) (h3:r.flat.all Fw=true)
  (k:∃S1,Fg ((S.drops (Lz (d.getD 0) (Bs r.flat))).put d (Ez (Fv (d.getD 0) 0 [] []) r)) S1∧∃X',Fy C X' held S1∧Dq C X' S1∧WD C p X' K S1) (k2:WD C rest X K S)
  (h:(Lx S as,Mb (fun v => !Bc v) (as.map fun x=>Ai (S.val x)),(as.map fun x=>Ai (S.val x)).map (mapW (S.liftC [] [] [] false)))=(true,true,gv):=by kernel_rfl):WD C (.alt held ⟨d,.call f as,none⟩ p rest) X K S:=by
 simp only [Prod.mk.injEq] at h
 exact Do (Bb false H (Iw h.1) h.2.1 h.2.2 (fun _=>h3) k) k2
theorem ar {a b:Bool} (h:b=true) (ha:a=true:=by exact rfl):(a&&b)=true:=Cd ha h
theorem af {α:Type} {e:α→List V} {xs:List α} {t off sz:Nat} {b:Bool} (h:b=true) (h1:∀x,(e x).all scal=true:=by exact fun _=>rfl):(Fw (.own t off sz (xs.map e))&&b)=true:=Cd (Qo h1) h
theorem jn {R G:St→Prop} {S' S1:St} (hJ:∀S S1,Fg S S1→R S1→G S) (h1:R S1)
  (h:(S1.env.map (fun p=>look S'.env p.1),S1.bx.map (fun p=>look S'.bx p.1),S1.cp)=(S1.env.map (fun p=>some p.2),S1.bx.map (fun p=>some p.2),([]:List (Nat×Int))):=by kernel_rfl):G S':=hJ _ _ (Ar h) h1
theorem Gi {α:Type} {c:Bj} {a b:IR} {cb:Bool} {x y r:α} (h0:(if cb=true then x else y)=r) (k1:cb=true→x=r→WL C (.c a::T) Q .normal S) (k2:cb=false→y=r→WL C (.c b::T) Q .normal S)
  (hc:S.val c = .bool cb:=by kernel_rfl):WL C (.c (.ite c a b)::T) Q .normal S:=Cj hc (fun h=>k1 h (ip h h0)) (fun h=>k2 h (Fi h h0))
def rL (S:St) (as:List Bj):Bool×Bool×List V:=(Lx S as,Mb (fun v => !Bc v) (as.map fun x=>Ai (S.val x)),(as.map fun x=>Ai (S.val x)).map (mapW (S.liftC [] [] [] false)))
theorem Uw {d:Option Nat} {l:List Bg} {f:Nat} {as:List Bj} {gv:List V} {r:V} (H:C f ⟨gv,[]⟩ ⟨r,[],[]⟩) (h3:r.flat.all Fw=true)
  (k:OL C l T Q ((S.drops (Lz (d.getD 0) (Bs r.flat))).put d (Ez (Fv (d.getD 0) 0 [] []) r))) (h:rL S as=(true,true,gv):=by kernel_rfl):OL C (⟨d,.call f as,none⟩::l) T Q S:=by
 simp only [rL,Prod.mk.injEq] at h
 exact st (Bb false H (Iw h.1) h.2.1 h.2.2 (fun _=>h3) k)
theorem Ze {d:Option Nat} {l:List Bg} {f:Nat} {as:List Bj} {gv:List V} {r:V} (H:C f ⟨gv,[]⟩ ⟨r,[],[]⟩)
  (k:OL C l T Q ((S.drops (Lz (d.getD 0) (Bs r.flat))).put d (Ez (Fv (d.getD 0) 0 [] []) r))) (h:rL S as=(true,true,gv):=by kernel_rfl) (h3:r.flat.all Fw=true:=by kernel_rfl):OL C (⟨d,.call f as,none⟩::l) T Q S:=Uw H h3 k h
def dL (S:St) (g:Bool):List Bj→List (Bool×Bool)
 | []=>[]
 | x::r=>match S.val x with
  | .may b _=>(b,g)::dL S g r
  | _=>dL S g r
def YS (b:Bool):V→List (Bool×Bool)
 | .may c _=>[(c,b)]
 | _=>[]
abbrev Lw (l:List (Bool×Bool)):Prop:=l.map (·.1)=l.map (·.2)
theorem Xh {S:St} {g:Bool} (hg:g=true):∀ {l:List Bj},Lw (dL S g l)→Bq (fun x=>As true (S.val x)) l
 | [],_=>trivial
 | x::r,h=>by
  unfold dL at h
  split at h
  ·rename_i hx
   simp only [Lw,List.map_cons,List.cons.injEq] at h
   refine ⟨?_,Xh hg h.2⟩
   show As true (S.val x)
   rw [hx]
   exact fun _=>by rw [h.1]; exact hg
  ·rename_i hx
   refine ⟨?_,Xh hg h⟩
   show As true (S.val x)
   cases hv:S.val x<;>first | trivial | exact absurd hv (hx _ _)
theorem jK {b c:Bool} {v:V} (h:Lw (YS b v)) (hb:c=true→b=true):As c v:=by
 cases v with
 | may x y=>
  simp only [Lw,YS,List.map_cons,List.map_nil,List.cons.injEq,and_true] at h
  exact fun hc=>by rw [h]; exact hb hc
 | _=>trivial
def q2 (i:Bg) (S:St):Option (St×List (Bool×Bool)):=
 match i with
 | ⟨d,.p o,some (gs,want)⟩=>match Lk (S.val (.t gs)) want with
  | some g=>match Pa S o with
   | true=>match pu S (fun x=>Ai (S.val x)) o with
    | some (_,v)=>some (S.put d (.may g v),dL S g o.opds)
    | none=>none
   | false=>none
  | none=>none
 | ⟨d,.pick c a b,none⟩=>match S.val c with
  | .bool cb=>some (S.put d (Nh cb (Ai (S.val a)) (Ai (S.val b))),YS (cb==true) (S.val a)++YS (cb==false) (S.val b))
  | _=>none
 | i=>match q1 i S with
  | some S'=>some (S',[])
  | none=>none
theorem aI {a b:List (Bool×Bool)} (h:Lw (a++b)):Lw a:=by
 simp only [Lw,List.map_append] at h
 exact (List.append_inj h (by simp)).1
theorem gW {a b:List (Bool×Bool)} (h:Lw (a++b)):Lw b:=by
 simp only [Lw,List.map_append] at h
 exact (List.append_inj h (by simp)).2
theorem q2_ok {C:Az} {i:Bg} {S S':St} {l:List (Bool×Bool)} {K:St→Prop} (h:q2 i S=some (S',l)) (hl:Lw l) (k:K S'):Cg C i S K:=by
 unfold q2 at h
 split at h
 ·split at h
  ·rename_i hg
   split at h
   ·rename_i h2
    split at h
    ·rename_i h3
     cases h
     exact Cx hg (fun e=>⟨Xh e hl,_,h3,bO h2 h3⟩) k
    ·cases h
   ·cases h
  ·cases h
 ·split at h
  ·rename_i hc
   cases h
   exact Ea hc rfl rfl (jK (aI hl) fun e=>by rw [e]; rfl) (jK (gW hl) fun e=>aX e) rfl k
  ·cases h
 ·split at h
  ·rename_i h1
   cases h
   exact uF h1 k
  ·cases h
theorem uG {i:Bg} {S S':St} {l:List (Bool×Bool)} (h:q2 i S=some (S',l)):Ct i S:=by
 unfold q2 at h
 split at h
 ·rename_i d o gs want
  unfold Ct
  split
  ·rename_i x n ag hop
   split
   ·rename_i hx
    cases hop
    split at h
    ·split at h
     ·rename_i hp
      simp only [Pa,hx] at hp
      cases hp
     ·cases h
    ·cases h
   ·trivial
  ·trivial
 ·trivial
 ·split at h
  ·rename_i h1
   exact Xs h1
  ·cases h
def dV:Nat→List Gf→St→Option (St×List (Bool×Bool))
 | 0,_,S=>some (S,[])
 | n+1,T,S=>match Vt T with
  | some (none,T')=>dV n T' S
  | some (some i,T')=>match q2 i S with
   | some (S',l)=>match dV n T' S' with
    | some (S2,l2)=>some (S2,l++l2)
    | none=>none
   | none=>none
  | none=>none
theorem bQ:∀(n:Nat) {T:List Gf} {S S':St} {l:List (Bool×Bool)},dV n T S=some (S',l)→Lw l→WL C (Yw n T) Q .normal S'→WL C T Q .normal S
 | 0,T,S,S',l,h,_,k=>by cases h; exact k
 | n+1,T,S,S',l,h,hl,k=>by
  unfold dV at h
  unfold Yw at k
  split at h
  ·rename_i h1
   rw [h1] at k
   exact Yx h1 (bQ n h hl k)
  ·rename_i i T' h1
   split at h
   ·rename_i S1 l1 h2
    rw [h1] at k
    split at h
    ·rename_i h3
     cases h
     have kk:=bQ n h3 (gW hl) k
     unfold Vt at h1
     split at h1<;>cases h1
     ·exact Ac (st (q2_ok h2 (aI hl) kk))
     ·exact Dj (Ao (uG h2) (q2_ok h2 (aI hl) ⟨trivial,kk⟩))
    ·cases h
   ·cases h
  ·cases h
def runH (n:Nat) (T:List Gf) (S:St):St:=match dV n T S with
 | some p=>p.1
 | none=>S
def allEqO:Option (St×List (Bool×Bool))→Option (List Bool)
 | some p=>some (p.2.map (·.1))
 | none=>none
def allEqP:Option (St×List (Bool×Bool))→Option (List Bool)
 | some p=>some (p.2.map (·.2))
 | none=>some []
theorem gn_ (n:Nat) (k:WL C (Yw n T) Q .normal (runH n T S)) (h:allEqO (dV n T S)=allEqP (dV n T S):=by kernel_rfl):WL C T Q .normal S:=by
 cases hR:dV n T S with
 | none=>rw [hR] at h; cases h
 | some p=>
  obtain ⟨S1,l⟩:=p
  unfold runH at k
  rw [hR] at k h
  exact bQ n hR (Option.some.inj h) k
theorem rZ_ (n:Nat) (ts:List Nat) (rs:List (Nat×Nat)) (e:List (Nat×V)) (b:List (Nat×List V)) (k:WL C (tlW (Yw n T)) Q .normal ⟨e,b,[]⟩)
  (hw:isW (Yw n T)=true:=by kernel_rfl) (hr:gI rs=true:=by kernel_rfl) (h:jT ((run n T S).map fun S=>(S.freezes ts).swaps rs) ⟨e,b,[]⟩=kA ⟨e,b,[]⟩:=by kernel_rfl):WL C T Q .normal S:=rz_ n ts rs _ k hw hr h
theorem Bw (n:Nat) (e:List (Nat×V)) (b:List (Nat×List V)) (k:WL C (tlW (Yw n T)) Q .normal ⟨e,b,[]⟩) (hw:isW (Yw n T)=true:=by kernel_rfl) (h:jT (run n T S) ⟨e,b,[]⟩=kA ⟨e,b,[]⟩:=by kernel_rfl):WL C T Q .normal S:=rk_ n _ k hw h
def uJ (t:Nat) (u:V):V→V
 | .own t' off sz es=>if t'=t then u else .own t' off sz es
 | c=>c
theorem map_fix {f g h:V→V} (H:∀c,f c=c→g c=h c):∀cs:List V,cs.map f=cs→cs.map g=cs.map h
 | [],_=>rfl
 | c::r,e=>by
  simp only [List.map_cons,List.cons.injEq] at e ⊢
  exact ⟨H c e.1,map_fix H r e.2⟩
def mL (f:V→V):V→V
 | .agg cs=>.agg (cs.map f)
 | c=>f c
theorem eD {f g h:V→V} (H:∀c,f c=c→g c=h c) (v:V) (e:mL f v=v):mL g v=mL h v:=by
 cases v with
 | agg cs=>simp only [mL,V.agg.injEq] at e ⊢; exact map_fix H cs e
 | _=>exact H _ e
theorem Xf (f:V→V) (vs:List V):Ez f (.tup vs) = .tup (vs.map (mL f)):=by
 show V.tup (vs.map _)=_
 congr 1
theorem Sy (f:V→V) (b:Bool) (vs:List V):Ez f (.may b (.tup vs)) = .may b (.tup (vs.map (mL f))):=by
 show V.may b (.tup (vs.map _))=_
 congr 2
theorem tF {f g h:V→V} (H:∀c,f c=c→g c=h c) (v:V) (e:Ez f v=v):Ez g v=Ez h v:=by
 cases v with
 | agg cs=>simp only [Ez,V.agg.injEq] at e ⊢; exact map_fix H cs e
 | tup vs=>
  rw [Xf] at e
  rw [Xf,Xf]
  rw [map_fix (eD H) vs (by simpa using e)]
 | may b w=>
  cases w with
  | agg cs=>simp only [Ez,V.may.injEq,V.agg.injEq,true_and] at e ⊢; exact map_fix H cs e
  | tup vs=>
   rw [Sy] at e
   rw [Sy,Sy]
   rw [map_fix (eD H) vs (by simpa using e)]
  | _=>simp only [Ez,V.may.injEq,true_and] at e ⊢; exact H _ e
 | _=>exact H _ e
theorem Xd {f g h:V→V} (H:∀c,f c=c→g c=h c):∀l:List (Nat×V),Jk f l=l→Jk g l=Jk h l
 | [],_=>rfl
 | (a,v)::r,e=>by
  simp only [Jk,List.cons.injEq,Prod.mk.injEq,true_and] at e ⊢
  exact ⟨tF H v e.1,Xd H r e.2⟩
theorem Zp {f g h:V→V} (H:∀c,f c=c→g c=h c):∀l:List (Nat×List V),Nc f l=l→Nc g l=Nc h l
 | [],_=>rfl
 | (a,cs)::r,e=>by
  simp only [Nc,List.cons.injEq,Prod.mk.injEq,true_and] at e ⊢
  exact ⟨map_fix H cs e.1,Zp H r e.2⟩
theorem St.map_fix {f g h:V→V} (H:∀c,f c=c→g c=h c) (S:St) (e:S.map f=S):S.map g=S.map h:=by
 cases S with
 | mk env bx cp=>
  simp only [St.map,St.mk.injEq,and_true] at e ⊢
  exact ⟨Xd H env e.1,Zp H bx e.2⟩
theorem ZE {t off sz at_:Nat} {A:List (List V)} {y:List V} (c:V) (e:uJ t (.own t off sz A) c=c):Yg t sz at_ [y] c=uJ t (.own t off sz (Ds off A at_ [y])) c:=by
 cases c with
 | own t' off' sz' es=>
  simp only [uJ,Yg] at e ⊢
  by_cases h:t'=t
  ·rw [if_pos h] at e ⊢
   simp only [V.own.injEq] at e
   obtain ⟨_,rfl,rfl,rfl⟩:=e
   rw [if_pos h,if_pos rfl,h]
  ·rw [if_neg h,if_neg h]
 | _=>rfl
def stoE (S:St) (v:Bj) (t off sz k:Nat) (A:List (List V)) (y:List V):Bool×Bool×Nat×Bool×Bool×Bool×List V×St:=
 (Xo (S.val v),Bc (Ai (S.val v)),(Ai (S.val v)).cells.length,Nat.ble (k+(Ai (S.val v)).cells.length) sz,(Ai (S.val v)).cells.all (fun c => !Hj c),(Ai (S.val v)).tags.all (· != t),
  Bx y k ((Ai (S.val v)).cells.map Cm),(S.freezes (Ai (S.val v)).tags).map (uJ t (.own t off sz A)))
theorem so_ {α:Type} {e:α→List V} {l0:List α} {d:Option Nat} {l:List Bg} {x v:Bj} {n t sz j k off i:Nat} {y:α} (y':α) (hx:S.val x = .optr t sz j k) (hf:S.find t=some (off,l0.map e)) (hy:l0[i]? = some y)
  (k':OL C l T Q ((((S.freezes (Ai (S.val v)).tags).map (uJ t (.own t off sz ((l0.set i y').map e)))).put d .undef)))
  (h:stoE S v t off sz k (l0.map e) (e y)=(true,false,n,true,true,true,e y',S.freezes (Ai (S.val v)).tags):=by kernel_rfl) (hj:j=off+i:=by kernel_rfl) (hs:(e y).length=sz:=by kernel_rfl) (hdp:Bh t=false:=by rfl):
  OL C (⟨d,.store x v n,none⟩::l) T Q S:=by
 simp only [stoE,Prod.mk.injEq] at h
 obtain ⟨h1,h2,h3,h4,h5,h6,h7,h8⟩:=h
 refine st (uS (y':=y') hx rfl (Kv h1) h2 h3 hf hj hy (by rw [←h3]; exact Nat.le_of_ble_eq_true h4) hs h5 h6 h7 ?_ hdp)
 rw [St.map_fix (fun c hc=>ZE c hc) _ h8,Fl]
 exact k'
theorem xo_ {α:Type} {e:α→List V} {l0:List α} {d:Option Nat} {l:List Bg} {x i:Bj} {t off sz:Nat} {q:IntKind} {n:Int} {y:α} (hx:S.val x = .own t off sz (l0.map e)) (hi:S.val i = .int q n) (hy:Ec l0 n=some y)
  (k':OL C l T Q (S.put d (.optr t sz (off+n.toNat) 0))):OL C (⟨d,.p (.idxA x i sz),none⟩::l) T Q S:=st (idxO hx hi hy k')
theorem gQ {α:Type} {e:α→List V} {l0:List α} {d:Option Nat} {l:List Bg} {x i:Bj} {sz:Nat} {q:IntKind} {n:Int} {y:α} (hx:S.val x = .lst sz (l0.map e)) (hi:S.val i = .int q n) (hy:Ec l0 n=some y)
  (k':OL C l T Q (S.put d (.iptr (e y)))):OL C (⟨d,.p (.idxA x i sz),none⟩::l) T Q S:=st (idxL hx hi hy k')
theorem xv_ {α:Type} {e:α→List V} {l0:List α} {d:Option Nat} {T':List Gf} {x i:Bj} {sz:Nat} {q:IntKind} {n:Int} {y:α} (ha:Vt T=some (some ⟨d,.p (.idxA x i sz),none⟩,T')) (hx:S.val x = .lst sz (l0.map e)) (hi:S.val i = .int q n) (hy:Ec l0 n=some y)
  (k':WL C T' Q .normal (S.put d (.iptr (e y)))):WL C T Q .normal S:=by
 unfold Vt at ha
 split at ha<;>cases ha
 ·exact Ac (gQ hx hi hy k')
 ·exact Dj (Ao trivial (idxL hx hi hy ⟨trivial,k'⟩))
theorem tO {α:Type} {e:α→List V} {l0:List α} {d:Option Nat} {l:List Bg} {x:Bj} {t off sz:Nat} (hx:S.val x = .own t off sz (l0.map e)) (k':OL C l T Q (S.put d (.int .i64 (l0.length:Int)))) (hz:sz≠0:=by decide):OL C (⟨d,.p (.len x),none⟩::l) T Q S:=st (lenO hx k' hz)
theorem Lp {α:Type} {e:α→List V} {l0:List α} {d:Option Nat} {l:List Bg} {x:Bj} {sz:Nat} (hx:S.val x = .lst sz (l0.map e)) (k':OL C l T Q (S.put d (.int .i64 (l0.length:Int)))) (hz:sz≠0:=by decide):OL C (⟨d,.p (.len x),none⟩::l) T Q S:=st (lenL hx k' hz)
theorem ld_ {α:Type} {e:α→List V} {l0:List α} {x:Bj} {t off sz j k n i:Nat} {ag:Bool} {y:α} (hx:S.val x = .optr t sz j k) (hf:S.find t=some (off,l0.map e)) (hy:l0[i]? = some y)
  (h:(j,Nat.ble (k+n) sz,(e y).length,(Ih ag n ((e y).drop k)).isSome)=(off+i,true,sz,true):=by kernel_rfl) (hdp:Bh t=false:=by rfl):Cc S (.p (.load x n ag)) ((Ih ag n ((e y).drop k)).getD .undef):=by
 simp only [Prod.mk.injEq] at h
 obtain ⟨h1,h2,h3,h4⟩:=h
 cases hv:Ih ag n ((e y).drop k) with
 | none=>rw [hv] at h4; cases h4
 | some v=>exact Gz hx rfl trivial hf h1 hy hv (Nat.le_of_ble_eq_true h2) h3 hdp
theorem ci_ {α:Type} {e:α→List V} {l0:List α} {x i:Bj} {t off sz:Nat} {q:IntKind} {n:Int} {y:α} (hx:S.val x = .own t off sz (l0.map e)) (hi:S.val i = .int q n) (hy:Ec l0 n=some y):Cc S (.p (.idxA x i sz)) (.optr t sz (off+n.toNat) 0):=Tq hx rfl trivial hi rfl trivial hy
theorem c1_ {d:Option Nat} {l:List Bg} {f:Nat} {as:List Bj} (LB LR LM:List Nat) {g:Ow} {t:Ep} (H:C f g t) (h3:t.flat=true) (k:OL C l T Q (((S.after (as.map fun x=>Ai (S.val x)) (d.getD 0) false LB LR LM t).put d (Ez (Fv (d.getD 0) (t.bx.length-LB.length) LB LR) t.r))))
  (h:(Lx S as,Mb (fun v => !Bc v) (as.map fun x=>Ai (S.val x)),S.give (as.map fun x=>Ai (S.val x)) LB LR LM false,(Bu LB&&Bu (LR++LM)&&Na Bd LM&&LB.all (fun T=>(look S.bx T).isSome)),
   (Na 33 [t.bx.length-LB.length,LM.length,LR.length]&&Iy (t.newB (d.getD 0) LB.length) LB&&Iy (t.newR (d.getD 0)) LR))=(true,true,g,true,true):=by kernel_rfl):OL C (⟨d,.call f as,none⟩::l) T Q S:=by
 simp only [Prod.mk.injEq] at h
 obtain ⟨a1,a2,a3,a4,a5⟩:=h
 exact st (Po LB LR LM false H (Iw a1) a2 a3 a4 a5 (fun _=>h3) k)
theorem c2_ {d:Option Nat} {l:List Bg} {f:Nat} {as:List Bj} (LB LR LM:List Nat) {g:Ow} {t:Ep} (H:C f g t) (k:OL C l T Q (((S.after (as.map fun x=>Ai (S.val x)) (d.getD 0) true LB LR LM t).put d (Ez (Fv (d.getD 0) (t.bx.length-LB.length) LB LR) t.r))))
  (h:(Lx S as,Mb (fun v => !Bc v) (as.map fun x=>Ai (S.val x)),S.give (as.map fun x=>Ai (S.val x)) LB LR LM true,(Bu LB&&Bu (LR++LM)&&Na Bd LM&&LB.all (fun T=>(look S.bx T).isSome)),
   (Na 33 [t.bx.length-LB.length,LM.length,LR.length]&&Iy (t.newB (d.getD 0) LB.length) LB&&Iy (t.newR (d.getD 0)) LR))=(true,true,g,true,true):=by kernel_rfl):OL C (⟨d,.call f as,none⟩::l) T Q S:=by
 simp only [Prod.mk.injEq] at h
 obtain ⟨a1,a2,a3,a4,a5⟩:=h
 exact st (Po LB LR LM true H (Iw a1) a2 a3 a4 a5 (fun h=>nomatch h) k)
theorem o_ {l:List Bg} (k:WL C (.c (.reg l)::T) Q .normal S):OL C l T Q S:=k
theorem d_ {p:DP} (k:WL C (.c (.draw p)::T) Q .normal S):WD C p [] (WL C T Q .normal) S:=k
end Go.Ev
