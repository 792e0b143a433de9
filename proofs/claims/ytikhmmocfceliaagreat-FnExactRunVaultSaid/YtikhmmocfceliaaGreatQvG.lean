/- Many instructions at once: what can be reckoned is reckoned by the kernel. -/
import Derived.Test.YtikhmmocfceliaaGreatQvM
set_option linter.all false
namespace Go.Ev
def bM:V→Bool
 | .may _ _=>false
 | _=>true
theorem Nc {v:V} (h:bM v=true):Bc true v:=by cases v<;>first | trivial | cases h
def fA (S:St) (n:Nat):List (Nat×Nat×Cm)→Bool
 | []=>true
 | p::r=>match Bz (Au (S.val p.2.2)) with
  | true=>false
  | false=>match Nat.beq (Au (S.val p.2.2)).cells.length p.2.1 with
   | true=>match Nat.ble (p.1+p.2.1) n with
    | true=>fA S n r
    | false=>false
   | false=>false
theorem dF {S:St} {n:Nat}:∀ {l:List (Nat×Nat×Cm)},fA S n l=true→Cu (fun p=>Bz (Au (S.val p.2.2))=false∧(Au (S.val p.2.2)).cells.length=p.2.1∧p.1+p.2.1≤n) l
 | [],_=>trivial
 | p::r,h=>by
  unfold fA at h
  split at h
  ·cases h
  ·rename_i h1
   split at h
   ·rename_i h2
    split at h
    ·rename_i h3
     exact ⟨⟨h1,Nat.eq_of_beq_eq_true h2,Nat.le_of_ble_eq_true h3⟩,dF h⟩
    ·cases h
   ·cases h
def Rt (S:St):PU→Bool
 | .mv _ | .un _ _ | .conv _ _ | .binB _ _ _ | .eqs _ _ _ _ | .lenS _ | .strc _ | .ext _ _ | .nilc _ | .xbyte _ _ | .scmp _ _ | .mget _ _=>true
 | .bin op x _=>match op with
  | .eql | .neq | .lss | .leq | .gtr | .geq=>true
  | .sub | .mul | .and | .or | .xor | .andNot=>true
  | .add=>match Au (S.val x) with
   | .int _ _=>true
   | _=>false
  | _=>false
 | .mn x y | .mx x y=>match Au (S.val x),Au (S.val y) with
  | .int k _,.int k' _=>decide (k=k')
  | _,_=>false
 | .load x n _=>match Au (S.val x) with
  | .ptr t k=>match look S.bx t with
   | some cs=>Nat.ble (k+n) cs.length
   | none=>false
  | .iptr cs=>Nat.ble n cs.length
  | _=>false
 | .fieldA x off=>match Au (S.val x) with
  | .ptr _ _ | .optr _ _ _ _=>true
  | .iptr cs=>Nat.ble off cs.length
  | _=>false
 | .field x off n _=>match Au (S.val x) with
  | .agg cs=>Nat.ble (off+n) cs.length
  | _=>false
 | .len x=>match Au (S.val x) with
  | .lst (_+1) _ | .own _ _ (_+1) _=>true
  | _=>false
 | .build zero ps=>fA S zero.length ps
 | .fn _ caps=>Sm (caps.map fun x=>Au (S.val x))
 | _=>false
theorem gR {S:St} {o:PU} {φ:Prop} {v:V} (h:Rt S o=true) (h2:pu S (fun x=>Au (S.val x)) o=some (φ,v)):φ:=by
 cases o with
 | mv x=>simp only [pu,Option.some.injEq,Prod.mk.injEq] at h2; rw [←h2.1]; trivial
 | bin op x y=>
  simp only [pu] at h2
  split at h2
  ·split at h2
   ·cases h
   ·cases h
   ·split at h2
    ·unfold gD at h2
     split at h2<;>first | (cases h; done) | (cases h2; trivial) | (cases h2)
    ·cases h2
  ·rename_i hx hy
   unfold gY at h2
   split at h2<;>first | (cases h2; trivial) | skip
   ·simp only [Rt,hx] at h; cases h
   ·cases h2
  ·cases h2
 | binB op x y=>
  simp only [pu] at h2
  split at h2
  ·split at h2<;>first | (cases h2; trivial) | cases h2
  ·cases h2
 | eqs ne ks x y=>
  simp only [pu] at h2
  split at h2
  ·split at h2<;>first | (cases h2; trivial) | cases h2
  ·cases h2
 | un op x=>
  simp only [pu] at h2
  split at h2<;>first | (cases h2; trivial) | cases h2
 | conv k x=>
  simp only [pu] at h2
  split at h2<;>first | (cases h2; trivial) | cases h2
 | lenS x=>
  simp only [pu] at h2
  split at h2<;>first | (cases h2; trivial) | cases h2
 | strc x=>
  simp only [pu] at h2
  split at h2<;>first | (cases h2; trivial) | cases h2
 | ext x i=>
  simp only [pu] at h2
  split at h2
  ·split at h2<;>first | (cases h2; trivial) | cases h2
  ·cases h2
 | nilc x=>
  simp only [pu] at h2
  split at h2<;>first | (cases h2; trivial) | cases h2
 | xbyte x y=>
  simp only [pu] at h2
  split at h2<;>first | (cases h2; trivial) | cases h2
 | mget x y=>
  simp only [pu] at h2
  split at h2<;>first | (cases h2; trivial) | cases h2
 | scmp x y=>
  simp only [pu] at h2
  split at h2<;>first | (cases h2; trivial) | cases h2
 | mn x y=>
  simp only [pu] at h2
  split at h2
  ·rename_i hx hy
   simp only [Rt,hx,hy] at h
   cases h2; exact of_decide_eq_true h
  ·cases h2
 | mx x y=>
  simp only [pu] at h2
  split at h2
  ·rename_i hx hy
   simp only [Rt,hx,hy] at h
   cases h2; exact of_decide_eq_true h
  ·cases h2
 | load x n ag=>
  simp only [pu] at h2
  split at h2
  ·rename_i hx
   split at h2
   ·rename_i hl
    split at h2
    ·simp only [Rt,hx,hl] at h
     cases h2; exact Nat.le_of_ble_eq_true h
    ·cases h2
   ·cases h2
  ·rename_i hx
   split at h2
   ·simp only [Rt,hx] at h
    cases h2; exact Nat.le_of_ble_eq_true h
   ·cases h2
  ·rename_i hx
   simp only [Rt,hx] at h; cases h
  ·cases h2
 | fieldA x off=>
  simp only [pu] at h2
  split at h2
  ·cases h2; trivial
  ·rename_i hx
   simp only [Rt,hx] at h
   cases h2; exact Nat.le_of_ble_eq_true h
  ·cases h2; trivial
  ·cases h2
 | field x off n ag=>
  simp only [pu] at h2
  split at h2
  ·rename_i hx
   split at h2
   ·simp only [Rt,hx] at h
    cases h2; exact Nat.le_of_ble_eq_true h
   ·cases h2
  ·cases h2
 | len x=>
  simp only [pu] at h2
  split at h2
  ·rename_i s es hx
   simp only [Rt,hx] at h
   cases h2
   cases s with
   | zero=>cases h
   | succ n=>exact Nat.succ_ne_zero n
  ·rename_i s es hx
   simp only [Rt,hx] at h
   cases h2
   cases s with
   | zero=>cases h
   | succ n=>exact Nat.succ_ne_zero n
  ·cases h2
 | fn f caps=>simp only [pu,Option.some.injEq,Prod.mk.injEq] at h2; rw [←h2.1]; exact h
 | build zero ps=>simp only [pu,Option.some.injEq,Prod.mk.injEq] at h2; rw [←h2.1]; exact dF h
 | _=>cases h
def Oi (S:St):List Cm→Bool
 | []=>true
 | x::r=>match bM (S.val x) with
  | true=>Oi S r
  | false=>false
theorem Ky {S:St}:∀ {l:List Cm},Oi S l=true→Cu (fun x=>Bc true (S.val x)) l
 | [],_=>trivial
 | x::r,h=>by
  unfold Oi at h
  split at h
  ·rename_i hp; exact ⟨Nc hp,Ky h⟩
  ·cases h
def pZ (sz len:Nat):List (Nat×V)→Bool
 | []=>true
 | p::r=>match Nat.blt p.1 len with
  | true=>match Nat.beq p.2.cells.length sz with
   | true=>match p.2.cells.all (fun c => !Ke c) with
    | true=>pZ sz len r
    | false=>false
   | false=>false
  | false=>false
theorem jX {sz len:Nat}:∀ {l:List (Nat×V)},pZ sz len l=true→Cu (fun p=>p.1<len∧p.2.cells.length=sz∧p.2.cells.all (fun c => !Ke c)=true) l
 | [],_=>trivial
 | p::r,h=>by
  unfold pZ at h
  split at h
  ·rename_i h1
   split at h
   ·rename_i h2
    split at h
    ·rename_i h3
     exact ⟨⟨Nat.le_of_ble_eq_true h1,Nat.eq_of_beq_eq_true h2,h3⟩,jX h⟩
    ·cases h
   ·cases h
  ·cases h
theorem EX {S:St}:∀ {l:List (Nat×Cm)},Oi S (l.map (·.2))=true→Cu (fun p=>nm S p.2) l
 | [],_=>trivial
 | p::r,h=>by
  unfold List.map Oi at h
  split at h
  ·rename_i hp; exact ⟨Nc hp,EX h⟩
  ·cases h
def q1 (i:Cf) (S:St):Option St:=
 match i with
 | ⟨d,.p o,none⟩=>match Oi S o.opds with
  | true=>match Rt S o with
   | true=>match pu S (fun x=>Au (S.val x)) o with
    | some (_,v)=>some (S.putC d v (Jm (fun x=>Au (S.val x)) o))
    | none=>none
   | false=>none
  | false=>none
 | ⟨some d,.box x,none⟩=>match bM ((S.drop (64*d)).val x) with
  | true=>match Bz (Au ((S.drop (64*d)).val x)) with
   | true=>none
   | false=>some (((S.drop (64*d)).setBx (64*d) (Au ((S.drop (64*d)).val x)).cells).put (some d) (.ptr (64*d) 0))
  | false=>none
 | ⟨some d,.alloc z,none⟩=>some (((S.drop (64*d)).setBx (64*d) z).put (some d) (.ptr (64*d) 0))
 | ⟨some d,.nilS sz,none⟩=>some ((S.drop (64*d)).put (some d) (.own (64*d) 0 sz []))
 | ⟨d,.store x v n,none⟩=>match S.val x with
  | .ptr t k=>match bM (S.val v) with
   | true=>match Bz (Au (S.val v)) with
    | true=>none
    | false=>match Nat.beq (Au (S.val v)).cells.length n with
     | true=>match look S.bx t with
      | some bs=>match Nat.ble (k+n) bs.length with
       | true=>some ((S.setBx t (Dj bs k (Au (S.val v)).cells)).put d .undef)
       | false=>none
      | none=>none
     | false=>none
   | false=>none
  | _=>none
 | ⟨some d,.mkS sz zero len parts,none⟩=>match Oi S (parts.map (·.2)) with
  | true=>match pZ sz len (parts.map fun p=>(p.1,Au (S.val p.2))) with
   | true=>some (((S.freezes (Jw (parts.map fun p=>(p.1,Au (S.val p.2))))).drop (64*d)).put (some d)
    (.own (64*d) 0 sz (Lh sz (List.replicate len zero) ((parts.map fun p=>(p.1,Au (S.val p.2))).map fun p=>(p.1,p.2.cells.map Eg)))))
   | false=>none
  | false=>none
 | _=>none
theorem FM {C:Bl} {i:Cf} {S S':St} {K:St→Prop} (h:q1 i S=some S') (k:K S'):Dt C i S K:=by
 unfold q1 at h
 split at h
 ·split at h
  ·rename_i h1
   split at h
   ·rename_i h2
    split at h
    ·rename_i h3
     cases h
     exact p_ (Ky h1) h3 (gR h2 h3) k
    ·cases h
   ·cases h
  ·cases h
 ·split at h
  ·rename_i h1
   split at h
   ·cases h
   ·rename_i h2
    cases h
    exact box_ rfl (Nc h1) h2 k
  ·cases h
 ·cases h; exact Hp k
 ·cases h; exact eA k
 ·split at h
  ·rename_i hx
   split at h
   ·rename_i h1
    split at h
    ·cases h
    ·rename_i h2
     split at h
     ·rename_i h3
      split at h
      ·rename_i h4
       split at h
       ·rename_i h5
        cases h
        exact Gm hx rfl (Nc h1) h2 (Nat.eq_of_beq_eq_true h3) h4 (Nat.le_of_ble_eq_true h5) k
       ·cases h
      ·cases h
     ·cases h
   ·cases h
  ·cases h
 ·split at h
  ·rename_i h1
   split at h
   ·rename_i h2
    cases h
    exact gH (EX h1) (jX h2) k
   ·cases h
  ·cases h
 ·cases h
theorem bP {i:Cf} {S S':St} (h:q1 i S=some S'):Dx i S:=by
 unfold Dx
 split
 ·rename_i o x n ag hop
  split
  ·rename_i hx
   unfold q1 at h
   split at h
   ·rename_i d o' g
    cases hop
    split at h
    ·split at h
     ·rename_i hp
      simp only [Rt,hx] at hp
      cases hp
     ·cases h
    ·cases h
   all_goals first | cases hop | (cases h)
  ·trivial
 ·trivial
def Vs:List Hs→Option (Option Cf×List Hs)
 | .c .skip::T=>some (none,T)
 | .c (.seq a b)::T=>some (none,.c a :: .w :: .c b::T)
 | .c (.reg [])::T=>some (none,T)
 | .c (.reg (i::l))::T=>some (some i,.c (.reg l)::T)
 | .c (.block id a)::T=>some (none,.c a :: .b id::T)
 | .c (.draw .fin)::T=>some (none,T)
 | .c (.draw (.take i p))::T=>some (some i,.c (.draw p)::T)
 | .w::T=>some (none,T)
 | .b _::T=>some (none,T)
 | _=>none
def Xr:Nat→List Hs→List Hs
 | 0,T=>T
 | n+1,T=>match Vs T with
  | some (_,T')=>Xr n T'
  | none=>T
def run:Nat→List Hs→St→Option St
 | 0,_,S=>some S
 | n+1,T,S=>match Vs T with
  | some (none,T')=>run n T' S
  | some (some i,T')=>match q1 i S with
   | some S'=>run n T' S'
   | none=>none
  | none=>none
variable {C:Bl} {Q:Ex→St→Prop} {S:St} {T:List Hs}
theorem dD {T':List Hs} (h:Vs T=some (none,T')) (k:WL C T' Q .normal S):WL C T Q .normal S:=by
 unfold Vs at h
 split at h<;>cases h
 ·exact Hb k
 ·exact Aw k
 ·exact k
 ·exact Bu k
 ·exact k
 ·exact cK k
 ·exact Qq k
theorem qN {i:Cf} {T':List Hs} {S':St} (h:Vs T=some (some i,T')) (hq:q1 i S=some S') (k:WL C T' Q .normal S'):WL C T Q .normal S:=by
 unfold Vs at h
 split at h<;>cases h
 ·exact Ar (st (FM hq k))
 ·exact Bq (Al (bP hq) (FM hq ⟨trivial,k⟩))
theorem dP:∀(n:Nat) {T:List Hs} {S S':St},run n T S=some S'→WL C (Xr n T) Q .normal S'→WL C T Q .normal S
 | 0,T,S,S',h,k=>by cases h; exact k
 | n+1,T,S,S',h,k=>by
  unfold run at h
  unfold Xr at k
  split at h
  ·rename_i h1
   rw [h1] at k
   exact dD h1 (dP n h k)
  ·rename_i h1
   split at h
   ·rename_i h2
    rw [h1] at k
    exact qN h1 h2 (dP n h k)
   ·cases h
  ·cases h
def tlW:List Hs→List Hs
 | .w::T=>T
 | T=>T
def isW:List Hs→Bool
 | .w::_=>true
 | _=>false
def qB (o:Option St) (S':St):Option (List (Option V)×List (Option (List V))×List (Nat×Int)):=o.map fun S=>(S'.env.map (fun p=>look S.env p.1),S'.bx.map (fun p=>look S.bx p.1),S'.cp)
def qI (S':St):Option (List (Option V)×List (Option (List V))×List (Nat×Int)):=some (S'.env.map (fun p=>some p.2),S'.bx.map (fun p=>some p.2),[])
theorem rz_ (n:Nat) (ts:List Nat) (rs:List (Nat×Nat)) (S':St) (k:WL C (tlW (Xr n T)) Q .normal S')
  (hw:isW (Xr n T)=true:=by kernel_rfl) (hr:nQ rs=true:=by kernel_rfl) (h:qB ((run n T S).map fun S=>(S.freezes ts).swaps rs) S'=qI S':=by kernel_rfl):WL C T Q .normal S:=by
 cases hR:run n T S with
 | none=>rw [hR] at h; cases h
 | some S1=>
  rw [hR] at h
  refine dP n hR ?_
  cases hT:Xr n T with
  | nil=>rw [hT] at hw; cases hw
  | cons x T'=>
   rw [hT] at hw k
   cases x with
   | w=>exact Cb S' ((Fg.fz _ ts).trans ((Fg.sw _ rs hr).trans (.le (eW.le (Option.some.inj h))))) k
   | c a=>cases hw
   | b id=>cases hw
theorem rk_ (n:Nat) (S':St) (k:WL C (tlW (Xr n T)) Q .normal S') (hw:isW (Xr n T)=true:=by kernel_rfl) (h:qB (run n T S) S'=qI S':=by kernel_rfl):WL C T Q .normal S:=
 rz_ n [] [] S' k hw rfl (by cases hR:run n T S with | none=>rw [hR] at h; cases h | some S1=>rw [hR] at h; exact h)
def runD (n:Nat) (T:List Hs) (S:St):St:=(run n T S).getD S
theorem Bj (n:Nat) (k:WL C (Xr n T) Q .normal (runD n T S)) (h:(run n T S).isSome=true:=by kernel_rfl):WL C T Q .normal S:=by
 cases hR:run n T S with
 | none=>rw [hR] at h; cases h
 | some S1=>
  refine dP n hR ?_
  unfold runD at k
  rw [hR] at k
  exact k
def pV:Nat→List Hs→Bool
 | 0,_=>true
 | n+1,T=>match Vs T with
  | some (none,T')=>pV n T'
  | _=>false
theorem eC:∀(n:Nat) {T:List Hs},pV n T=true→run n T S=some S
 | 0,_,_=>rfl
 | n+1,T,h=>by
  unfold pV at h
  unfold run
  split at h
  ·rename_i h1
   rw [h1]
   exact eC n h
  ·cases h
theorem Ot (n:Nat) (k:WL C (Xr n T) Q .normal S) (h:pV n T=true:=by kernel_rfl):WL C T Q .normal S:=dP n (eC n h) k
def retE (o:Option St) (res:List dC) (nb:Nat):Option (Bool×V×List (List V)):=
 match o with
 | none=>none
 | some S=>match FS S res with
  | none=>none
  | some v=>match Nv S (Xl nb++Fn v.flat) with
   | none=>none
   | some css=>some (Px 33 [(Je (v.flat++css.flatten)).length,(Fn v.flat).length],Gh (Vj (Je (v.flat++css.flatten)) (Fn v.flat)) v,Py (Vj (Je (v.flat++css.flatten)) (Fn v.flat)) css)
def EG:List Hs→Bool
 | .c .ret::_=>true
 | _=>false
theorem cR {res:List dC} {nb:Nat} {t:Fu} (n:Nat) (hQ:∀S',FQ res nb t .ret S'→Q .ret S') (ts:List Nat:=[]) (h6:t.rw=[]:=by exact rfl) (hr:EG (Xr n T)=true:=by kernel_rfl)
  (h:retE ((run n T S).map fun S=>S.freezes ts) res nb=some (true,t.r,t.bx):=by kernel_rfl):WL C T Q .normal S:=by
 cases hR:run n T S with
 | none=>rw [hR] at h; cases h
 | some S1=>
  rw [hR] at h
  refine dP n hR ?_
  cases hT:Xr n T with
  | nil=>rw [hT] at hr; cases hr
  | cons x T'=>
   rw [hT] at hr
   unfold EG at hr
   split at hr
   ·rename_i e
    cases e
    refine Hj (hQ _ ?_)
    refine bU (Fg.fz _ ts) ?_
    unfold retE at h
    split at h
    ·cases h
    ·rename_i S2 e2
     obtain rfl:=Option.some.inj e2
     split at h
     ·cases h
     ·rename_i h1
      split at h
      ·cases h
      ·rename_i h2
       simp only [Option.some.injEq,Prod.mk.injEq] at h
       exact Dk h1 h2 h.1 h.2.1 h.2.2 (by rw [h6]; trivial)
   ·cases hr
theorem Cy {res:List dC} {nb:Nat} {t:Fu} (n:Nat) (ts:List Nat:=[]) (h6:t.rw=[]:=by exact rfl) (hr:EG (Xr n T)=true:=by kernel_rfl)
  (h:retE ((run n T S).map fun S=>S.freezes ts) res nb=some (true,t.r,t.bx):=by kernel_rfl):WL C T (FQ res nb t) .normal S:=cR n (fun _ h=>h) ts h6 hr h
theorem bb {α β:Type} {o:Option α} {f:α→Option β} {r:β} {P:Prop} (h:o.bind f=some r) (k:∀x,o=some x→f x=some r→P):P:=by
 obtain ⟨x,h1,h2⟩:=bnd h
 exact k x h1 h2
theorem bv {α β:Type} {e:α} {f:α→Option β} {r:β} {P:Prop} (h:Cd e f=some r) (k:∀x,x=e→f x=some r→P):P:=k e rfl h
theorem gg {α:Type} {c:Prop} [Decidable c] {a:Option α} {r:α} {P:Prop} (h:(if c then a else none)=some r) (k:c→a=some r→P):P:=k (kX h).1 (kX h).2
theorem kn {σ ρ:Type} {K:Ex→St→Prop} {st:σ→St→Prop} {o:σ⊕ρ} {s':σ} {S' S'':St} (hK:∀s',o = .inl s'→∀S' S'',Fg S' S''→st s' S''→K .normal S') (h1:o = .inl s') (h2:st s' S'')
  (h:(S''.env.map (fun p=>look S'.env p.1),S''.bx.map (fun p=>look S'.bx p.1),S''.cp)=(S''.env.map (fun p=>some p.2),S''.bx.map (fun p=>some p.2),([]:List (Nat×Int))):=by kernel_rfl):K .normal S':=hK _ h1 _ _ (Cj h) h2
def pK (S:St) (j:Cf):Option (Option V):=
 match j with
 | ⟨some _,.p o,none⟩=>match Oi S o.opds with
  | true=>match Rt S o with
   | true=>match pu S (fun x=>Au (S.val x)) o with
    | some (_,v)=>some (some v)
    | none=>none
   | false=>none
  | false=>none
 | _=>none
def aM (S:St) (j:Cf):Option (Option V):=
 match j with
 | ⟨some d,.p _,none⟩=>some (look S.env d)
 | _=>some none
theorem held1 {C:Bl} {X:List Cf} {S:St} {j:Cf} (h:pK S j=aM S j) (hc:S.cp=[]):(Dx j S∨j∈X)∧Dt C j S (fun S'=>Xq S' S):=by
 unfold pK at h
 split at h
 ·rename_i d o
  split at h
  ·rename_i h1
   split at h
   ·rename_i h2
    split at h
    ·rename_i h3
     have h4:some _=look S.env d:=Option.some.inj h
     refine ⟨.inl ?_,?_⟩
     ·exact bP (S':=S.putC (some d) _ (Jm (fun x=>Au (S.val x)) o)) (by simp only [q1,h1,h2,h3]; rfl)
     ·exact Bf ⟨Ky h1,_,h3,gR h2 h3⟩ h4.symm hc
    ·simp only [aM] at h; cases h
   ·simp only [aM] at h; cases h
  ·simp only [aM] at h; cases h
 ·unfold aM at h
  split at h
  ·cases h
  ·cases h
theorem pJ {C:Bl} {X:List Cf} {S:St} (hc:S.cp=[]):∀ {l:List Cf},l.map (pK S)=l.map (aM S)→Iz C X l S
 | [],_=>trivial
 | j::r,h=>by
  simp only [List.map_cons,List.cons.injEq] at h
  exact ⟨held1 h.1 hc,pJ hc h.2⟩
theorem hB {C:Bl} {X l:List Cf} {S:St} (h:(l.map (pK S),S.cp)=(l.map (aM S),[]):=by kernel_rfl):Iz C X l S:=by
 simp only [Prod.mk.injEq] at h
 exact pJ h.2 h.1
theorem d0 {C:Bl} {K:St→Prop} {S:St} {held:List Cf} {r:DP} (hh:Iz C [] held S) (k:WD C r [] K S):∃S1,Fg S S1∧∃X',Iz C X' held S1∧Fj C X' S1∧WD C r X' K S1:=⟨S,Fg.refl S,[],hh,trivial,k⟩
theorem dw {C:Bl} {K:St→Prop} {S:St} {held:List Cf} {r:DP} (e:List (Nat×V)) (b:List (Nat×List V)) (hh:Iz C [] held ⟨e,b,[]⟩) (k:WD C r [] K ⟨e,b,[]⟩)
  (h:(e.map (fun p=>look S.env p.1),b.map (fun p=>look S.bx p.1))=(e.map (fun p=>some p.2),b.map (fun p=>some p.2)):=by kernel_rfl):∃S1,Fg S S1∧∃X',Iz C X' held S1∧Fj C X' S1∧WD C r X' K S1:=
 ⟨⟨e,b,[]⟩,Cj (by simp only [Prod.mk.injEq] at h ⊢; exact ⟨h.1,h.2,trivial⟩),[],hh,trivial,k⟩
theorem cG {C:Bl} {K:St→Prop} {S:St} {held X:List Cf} {p rest:DP} {d:Option Nat} {f:Nat} {as:List Cm} {gv:List V} {r:V} (H:C f ⟨gv,[]⟩ ⟨r,[],[]⟩) (h3:r.flat.all Hn=true)
  (k:∃S1,Fg ((S.drops (Oo (d.getD 0) (Dg r.flat))).put d (Gh (Hl (d.getD 0) 0 [] []) r)) S1∧∃X',Iz C X' held S1∧Fj C X' S1∧WD C p X' K S1) (k2:WD C rest X K S)
  (h:(Oi S as,Ox (fun v => !Bz v) (as.map fun x=>Au (S.val x)),(as.map fun x=>Au (S.val x)).map (mapW (S.liftC [] [] [] false)))=(true,true,gv):=by kernel_rfl):WD C (.alt held ⟨d,.call f as,none⟩ p rest) X K S:=by
 simp only [Prod.mk.injEq] at h
 exact Ck (Cq false H (Ky h.1) h.2.1 h.2.2 (fun _=>h3) k) k2
theorem ar {a b:Bool} (h:b=true) (ha:a=true:=by exact rfl):(a&&b)=true:=Az ha h
theorem af {α:Type} {e:α→List V} {xs:List α} {t off sz:Nat} {b:Bool} (h:b=true) (h1:∀x,(e x).all scal=true:=by exact fun _=>rfl):(Hn (.own t off sz (xs.map e))&&b)=true:=Az (oV h1) h
theorem jn {R G:St→Prop} {S' S1:St} (hJ:∀S S1,Fg S S1→R S1→G S) (h1:R S1)
  (h:(S1.env.map (fun p=>look S'.env p.1),S1.bx.map (fun p=>look S'.bx p.1),S1.cp)=(S1.env.map (fun p=>some p.2),S1.bx.map (fun p=>some p.2),([]:List (Nat×Int))):=by kernel_rfl):G S':=hJ _ _ (Cj h) h1
theorem Cs {α:Type} {c:Cm} {a b:IR} {cb:Bool} {x y r:α} (h0:(if cb=true then x else y)=r) (k1:cb=true→x=r→WL C (.c a::T) Q .normal S) (k2:cb=false→y=r→WL C (.c b::T) Q .normal S)
  (hc:S.val c = .bool cb:=by kernel_rfl):WL C (.c (.ite c a b)::T) Q .normal S:=Gk hc (fun h=>k1 h (ip h h0)) (fun h=>k2 h (Kn h h0))
def CL (S:St) (as:List Cm):Bool×Bool×List V:=(Oi S as,Ox (fun v => !Bz v) (as.map fun x=>Au (S.val x)),(as.map fun x=>Au (S.val x)).map (mapW (S.liftC [] [] [] false)))
theorem Vp {d:Option Nat} {l:List Cf} {f:Nat} {as:List Cm} {gv:List V} {r:V} (H:C f ⟨gv,[]⟩ ⟨r,[],[]⟩) (h3:r.flat.all Hn=true)
  (k:OL C l T Q ((S.drops (Oo (d.getD 0) (Dg r.flat))).put d (Gh (Hl (d.getD 0) 0 [] []) r))) (h:CL S as=(true,true,gv):=by kernel_rfl):OL C (⟨d,.call f as,none⟩::l) T Q S:=by
 simp only [CL,Prod.mk.injEq] at h
 exact st (Cq false H (Ky h.1) h.2.1 h.2.2 (fun _=>h3) k)
theorem Sn {d:Option Nat} {l:List Cf} {f:Nat} {as:List Cm} {gv:List V} {r:V} (H:C f ⟨gv,[]⟩ ⟨r,[],[]⟩)
  (k:OL C l T Q ((S.drops (Oo (d.getD 0) (Dg r.flat))).put d (Gh (Hl (d.getD 0) 0 [] []) r))) (h:CL S as=(true,true,gv):=by kernel_rfl) (h3:r.flat.all Hn=true:=by kernel_rfl):OL C (⟨d,.call f as,none⟩::l) T Q S:=Vp H h3 k h
def jL (S:St) (g:Bool):List Cm→List (Bool×Bool)
 | []=>[]
 | x::r=>match S.val x with
  | .may b _=>(b,g)::jL S g r
  | _=>jL S g r
def mayP (b:Bool):V→List (Bool×Bool)
 | .may c _=>[(c,b)]
 | _=>[]
abbrev Oh (l:List (Bool×Bool)):Prop:=l.map (·.1)=l.map (·.2)
theorem bB {S:St} {g:Bool} (hg:g=true):∀ {l:List Cm},Oh (jL S g l)→Cu (fun x=>Bc true (S.val x)) l
 | [],_=>trivial
 | x::r,h=>by
  unfold jL at h
  split at h
  ·rename_i hx
   simp only [Oh,List.map_cons,List.cons.injEq] at h
   refine ⟨?_,bB hg h.2⟩
   show Bc true (S.val x)
   rw [hx]
   exact fun _=>by rw [h.1]; exact hg
  ·rename_i hx
   refine ⟨?_,bB hg h⟩
   show Bc true (S.val x)
   cases hv:S.val x<;>first | trivial | exact absurd hv (hx _ _)
theorem pQ {b c:Bool} {v:V} (h:Oh (mayP b v)) (hb:c=true→b=true):Bc c v:=by
 cases v with
 | may x y=>
  simp only [Oh,mayP,List.map_cons,List.map_nil,List.cons.injEq,and_true] at h
  exact fun hc=>by rw [h]; exact hb hc
 | _=>trivial
def q2 (i:Cf) (S:St):Option (St×List (Bool×Bool)):=
 match i with
 | ⟨d,.p o,some (gs,want)⟩=>match Nt (S.val (.t gs)) want with
  | some g=>match Rt S o with
   | true=>match pu S (fun x=>Au (S.val x)) o with
    | some (_,v)=>some (S.put d (.may g v),jL S g o.opds)
    | none=>none
   | false=>none
  | none=>none
 | ⟨d,.pick c a b,none⟩=>match S.val c with
  | .bool cb=>some (S.put d (Qg cb (Au (S.val a)) (Au (S.val b))),mayP (cb==true) (S.val a)++mayP (cb==false) (S.val b))
  | _=>none
 | i=>match q1 i S with
  | some S'=>some (S',[])
  | none=>none
theorem eP {a b:List (Bool×Bool)} (h:Oh (a++b)):Oh a:=by
 simp only [Oh,List.map_append] at h
 exact (List.append_inj h (by simp)).1
theorem oD {a b:List (Bool×Bool)} (h:Oh (a++b)):Oh b:=by
 simp only [Oh,List.map_append] at h
 exact (List.append_inj h (by simp)).2
theorem q2_ok {C:Bl} {i:Cf} {S S':St} {l:List (Bool×Bool)} {K:St→Prop} (h:q2 i S=some (S',l)) (hl:Oh l) (k:K S'):Dt C i S K:=by
 unfold q2 at h
 split at h
 ·split at h
  ·rename_i hg
   split at h
   ·rename_i h2
    split at h
    ·rename_i h3
     cases h
     exact Cw hg (fun e=>⟨bB e hl,_,h3,gR h2 h3⟩) k
    ·cases h
   ·cases h
  ·cases h
 ·split at h
  ·rename_i hc
   cases h
   exact Fw hc rfl rfl (pQ (eP hl) fun e=>by rw [e]; rfl) (pQ (oD hl) fun e=>HJ e) rfl k
  ·cases h
 ·split at h
  ·rename_i h1
   cases h
   exact FM h1 k
  ·cases h
theorem FN {i:Cf} {S S':St} {l:List (Bool×Bool)} (h:q2 i S=some (S',l)):Dx i S:=by
 unfold q2 at h
 split at h
 ·rename_i d o gs want
  unfold Dx
  split
  ·rename_i x n ag hop
   split
   ·rename_i hx
    cases hop
    split at h
    ·split at h
     ·rename_i hp
      simp only [Rt,hx] at hp
      cases hp
     ·cases h
    ·cases h
   ·trivial
  ·trivial
 ·trivial
 ·split at h
  ·rename_i h1
   exact bP h1
  ·cases h
def Wr:Nat→List Hs→St→Option (St×List (Bool×Bool))
 | 0,_,S=>some (S,[])
 | n+1,T,S=>match Vs T with
  | some (none,T')=>Wr n T' S
  | some (some i,T')=>match q2 i S with
   | some (S',l)=>match Wr n T' S' with
    | some (S2,l2)=>some (S2,l++l2)
    | none=>none
   | none=>none
  | none=>none
theorem Yy:∀(n:Nat) {T:List Hs} {S S':St} {l:List (Bool×Bool)},Wr n T S=some (S',l)→Oh l→WL C (Xr n T) Q .normal S'→WL C T Q .normal S
 | 0,T,S,S',l,h,_,k=>by cases h; exact k
 | n+1,T,S,S',l,h,hl,k=>by
  unfold Wr at h
  unfold Xr at k
  split at h
  ·rename_i h1
   rw [h1] at k
   exact dD h1 (Yy n h hl k)
  ·rename_i i T' h1
   split at h
   ·rename_i S1 l1 h2
    rw [h1] at k
    split at h
    ·rename_i h3
     cases h
     have kk:=Yy n h3 (oD hl) k
     unfold Vs at h1
     split at h1<;>cases h1
     ·exact Ar (st (q2_ok h2 (eP hl) kk))
     ·exact Bq (Al (FN h2) (q2_ok h2 (eP hl) ⟨trivial,kk⟩))
    ·cases h
   ·cases h
  ·cases h
def FX (o:Option (St×List (Bool×Bool))) (S':St):Option ((List (Option V)×List (Option (List V))×List (Nat×Int))×List Bool):=o.map fun p=>((S'.env.map (fun q=>look p.1.env q.1),S'.bx.map (fun q=>look p.1.bx q.1),S'.cp),p.2.map (·.1))
def GI (o:Option (St×List (Bool×Bool))) (S':St):Option ((List (Option V)×List (Option (List V))×List (Nat×Int))×List Bool):=match o with
 | some p=>some ((S'.env.map (fun p=>some p.2),S'.bx.map (fun p=>some p.2),[]),p.2.map (·.2))
 | none=>some (([],[],[]),[])
theorem gk_ (n:Nat) (S':St) (k:WL C (tlW (Xr n T)) Q .normal S') (hw:isW (Xr n T)=true:=by kernel_rfl) (h:FX (Wr n T S) S'=GI (Wr n T S) S':=by kernel_rfl):WL C T Q .normal S:=by
 cases hR:Wr n T S with
 | none=>rw [hR] at h; cases h
 | some p=>
  obtain ⟨S1,l⟩:=p
  rw [hR] at h
  simp only [FX,GI,Option.map_some,Option.some.injEq,Prod.mk.injEq] at h
  refine Yy n hR h.2 ?_
  cases hT:Xr n T with
  | nil=>rw [hT] at hw; cases hw
  | cons x T'=>
   rw [hT] at hw k
   cases x with
   | w=>exact Cb S' (.le (eW.le (by simp only [Prod.mk.injEq]; exact h.1))) k
   | c a=>cases hw
   | b id=>cases hw
def runH (n:Nat) (T:List Hs) (S:St):St:=match Wr n T S with
 | some p=>p.1
 | none=>S
def allEqO:Option (St×List (Bool×Bool))→Option (List Bool)
 | some p=>some (p.2.map (·.1))
 | none=>none
def allEqP:Option (St×List (Bool×Bool))→Option (List Bool)
 | some p=>some (p.2.map (·.2))
 | none=>some []
theorem jE (n:Nat) (k:WL C (Xr n T) Q .normal (runH n T S)) (h:allEqO (Wr n T S)=allEqP (Wr n T S):=by kernel_rfl):WL C T Q .normal S:=by
 cases hR:Wr n T S with
 | none=>rw [hR] at h; cases h
 | some p=>
  obtain ⟨S1,l⟩:=p
  unfold runH at k
  rw [hR] at k h
  exact Yy n hR (Option.some.inj h) k
theorem rZ_ (n:Nat) (ts:List Nat) (rs:List (Nat×Nat)) (e:List (Nat×V)) (b:List (Nat×List V)) (k:WL C (tlW (Xr n T)) Q .normal ⟨e,b,[]⟩)
  (hw:isW (Xr n T)=true:=by kernel_rfl) (hr:nQ rs=true:=by kernel_rfl) (h:qB ((run n T S).map fun S=>(S.freezes ts).swaps rs) ⟨e,b,[]⟩=qI ⟨e,b,[]⟩:=by kernel_rfl):WL C T Q .normal S:=rz_ n ts rs _ k hw hr h
theorem Ba (n:Nat) (e:List (Nat×V)) (b:List (Nat×List V)) (k:WL C (tlW (Xr n T)) Q .normal ⟨e,b,[]⟩) (hw:isW (Xr n T)=true:=by kernel_rfl) (h:qB (run n T S) ⟨e,b,[]⟩=qI ⟨e,b,[]⟩:=by kernel_rfl):WL C T Q .normal S:=rk_ n _ k hw h
theorem gK_ (n:Nat) (e:List (Nat×V)) (b:List (Nat×List V)) (k:WL C (tlW (Xr n T)) Q .normal ⟨e,b,[]⟩) (hw:isW (Xr n T)=true:=by kernel_rfl) (h:FX (Wr n T S) ⟨e,b,[]⟩=GI (Wr n T S) ⟨e,b,[]⟩:=by kernel_rfl):WL C T Q .normal S:=gk_ n _ k hw h
def FR (t:Nat) (u:V):V→V
 | .own t' off sz es=>if t'=t then u else .own t' off sz es
 | c=>c
theorem map_fix {f g h:V→V} (H:∀c,f c=c→g c=h c):∀cs:List V,cs.map f=cs→cs.map g=cs.map h
 | [],_=>rfl
 | c::r,e=>by
  simp only [List.map_cons,List.cons.injEq] at e ⊢
  exact ⟨H c e.1,map_fix H r e.2⟩
def sU (f:V→V):V→V
 | .agg cs=>.agg (cs.map f)
 | c=>f c
theorem kR {f g h:V→V} (H:∀c,f c=c→g c=h c) (v:V) (e:sU f v=v):sU g v=sU h v:=by
 cases v with
 | agg cs=>simp only [sU,V.agg.injEq] at e ⊢; exact map_fix H cs e
 | _=>exact H _ e
theorem aZ (f:V→V) (vs:List V):Gh f (.tup vs) = .tup (vs.map (sU f)):=by
 show V.tup (vs.map _)=_
 congr 1
theorem Wk (f:V→V) (b:Bool) (vs:List V):Gh f (.may b (.tup vs)) = .may b (.tup (vs.map (sU f))):=by
 show V.may b (.tup (vs.map _))=_
 congr 2
theorem EP {f g h:V→V} (H:∀c,f c=c→g c=h c) (v:V) (e:Gh f v=v):Gh g v=Gh h v:=by
 cases v with
 | agg cs=>simp only [Gh,V.agg.injEq] at e ⊢; exact map_fix H cs e
 | tup vs=>
  rw [aZ] at e
  rw [aZ,aZ]
  rw [map_fix (kR H) vs (by simpa using e)]
 | may b w=>
  cases w with
  | agg cs=>simp only [Gh,V.may.injEq,V.agg.injEq,true_and] at e ⊢; exact map_fix H cs e
  | tup vs=>
   rw [Wk] at e
   rw [Wk,Wk]
   rw [map_fix (kR H) vs (by simpa using e)]
  | _=>simp only [Gh,V.may.injEq,true_and] at e ⊢; exact H _ e
 | _=>exact H _ e
theorem aX {f g h:V→V} (H:∀c,f c=c→g c=h c):∀l:List (Nat×V),Nz f l=l→Nz g l=Nz h l
 | [],_=>rfl
 | (a,v)::r,e=>by
  simp only [Nz,List.cons.injEq,Prod.mk.injEq,true_and] at e ⊢
  exact ⟨EP H v e.1,aX H r e.2⟩
theorem dU {f g h:V→V} (H:∀c,f c=c→g c=h c):∀l:List (Nat×List V),Uz f l=l→Uz g l=Uz h l
 | [],_=>rfl
 | (a,cs)::r,e=>by
  simp only [Uz,List.cons.injEq,Prod.mk.injEq,true_and] at e ⊢
  exact ⟨map_fix H cs e.1,dU H r e.2⟩
theorem St.map_fix {f g h:V→V} (H:∀c,f c=c→g c=h c) (S:St) (e:S.map f=S):S.map g=S.map h:=by
 cases S with
 | mk env bx cp=>
  simp only [St.map,St.mk.injEq,and_true] at e ⊢
  exact ⟨aX H env e.1,dU H bx e.2⟩
theorem upd_fix {t off sz at_:Nat} {A:List (List V)} {y:List V} (c:V) (e:FR t (.own t off sz A) c=c):cJ t sz at_ [y] c=FR t (.own t off sz (Ez off A at_ [y])) c:=by
 cases c with
 | own t' off' sz' es=>
  simp only [FR,cJ] at e ⊢
  by_cases h:t'=t
  ·rw [if_pos h] at e ⊢
   simp only [V.own.injEq] at e
   obtain ⟨_,rfl,rfl,rfl⟩:=e
   rw [if_pos h,if_pos rfl,h]
  ·rw [if_neg h,if_neg h]
 | _=>rfl
def stoE (S:St) (v:Cm) (t off sz k:Nat) (A:List (List V)) (y:List V):Bool×Bool×Nat×Bool×Bool×Bool×List V×St:=
 (bM (S.val v),Bz (Au (S.val v)),(Au (S.val v)).cells.length,Nat.ble (k+(Au (S.val v)).cells.length) sz,(Au (S.val v)).cells.all (fun c => !Ke c),(Au (S.val v)).tags.all (· != t),
  Dj y k ((Au (S.val v)).cells.map Eg),(S.freezes (Au (S.val v)).tags).map (FR t (.own t off sz A)))
theorem kG {α:Type} {e:α→List V} {l0:List α} {d:Option Nat} {l:List Cf} {x v:Cm} {n t sz j k off i:Nat} {y:α} (y':α) (hx:S.val x = .optr t sz j k) (hf:S.find t=some (off,l0.map e)) (hy:l0[i]? = some y)
  (k':OL C l T Q ((((S.freezes (Au (S.val v)).tags).map (FR t (.own t off sz ((l0.set i y').map e)))).put d .undef)))
  (h:stoE S v t off sz k (l0.map e) (e y)=(true,false,n,true,true,true,e y',S.freezes (Au (S.val v)).tags):=by kernel_rfl) (hj:j=off+i:=by kernel_rfl) (hs:(e y).length=sz:=by kernel_rfl) (hdp:Cn t=false:=by rfl):
  OL C (⟨d,.store x v n,none⟩::l) T Q S:=by
 simp only [stoE,Prod.mk.injEq] at h
 obtain ⟨h1,h2,h3,h4,h5,h6,h7,h8⟩:=h
 refine st (Hc (y':=y') hx rfl (Nc h1) h2 h3 hf hj hy (by rw [←h3]; exact Nat.le_of_ble_eq_true h4) hs h5 h6 h7 ?_ hdp)
 rw [St.map_fix (fun c hc=>upd_fix c hc) _ h8,Ay]
 exact k'
theorem lo_ {α:Type} {e:α→List V} {l0:List α} {d:Option Nat} {l:List Cf} {x:Cm} {t off sz j k n i:Nat} {ag:Bool} {y:α} (hx:S.val x = .optr t sz j k) (hf:S.find t=some (off,l0.map e)) (hy:l0[i]? = some y)
  (k':OL C l T Q (S.put d ((Hy ag n ((e y).drop k)).getD .undef))) (h:(j,Nat.ble (k+n) sz,(e y).length,(Hy ag n ((e y).drop k)).isSome)=(off+i,true,sz,true):=by kernel_rfl) (hdp:Cn t=false:=by rfl):
  OL C (⟨d,.p (.load x n ag),none⟩::l) T Q S:=by
 simp only [Prod.mk.injEq] at h
 obtain ⟨h1,h2,h3,h4⟩:=h
 cases hv:Hy ag n ((e y).drop k) with
 | none=>rw [hv] at h4; cases h4
 | some v=>
  rw [hv] at k'
  exact st (loadO hx hf h1 hy hv (Nat.le_of_ble_eq_true h2) h3 k' hdp)
theorem Zb {α:Type} {e:α→List V} {l0:List α} {d:Option Nat} {l:List Cf} {x i:Cm} {t off sz:Nat} {q:IntKind} {n:Int} {y:α} (hx:S.val x = .own t off sz (l0.map e)) (hi:S.val i = .int q n) (hy:Cr l0 n=some y)
  (k':OL C l T Q (S.put d (.optr t sz (off+n.toNat) 0))):OL C (⟨d,.p (.idxA x i sz),none⟩::l) T Q S:=st (idxO hx hi hy k')
theorem Ti {α:Type} {e:α→List V} {l0:List α} {d:Option Nat} {l:List Cf} {x i:Cm} {sz:Nat} {q:IntKind} {n:Int} {y:α} (hx:S.val x = .lst sz (l0.map e)) (hi:S.val i = .int q n) (hy:Cr l0 n=some y)
  (k':OL C l T Q (S.put d (.iptr (e y)))):OL C (⟨d,.p (.idxA x i sz),none⟩::l) T Q S:=st (idxL hx hi hy k')
theorem Zc {α:Type} {e:α→List V} {l0:List α} {d:Option Nat} {T':List Hs} {x i:Cm} {t off sz:Nat} {q:IntKind} {n:Int} {y:α} (ha:Vs T=some (some ⟨d,.p (.idxA x i sz),none⟩,T')) (hx:S.val x = .own t off sz (l0.map e)) (hi:S.val i = .int q n) (hy:Cr l0 n=some y)
  (k':WL C T' Q .normal (S.put d (.optr t sz (off+n.toNat) 0))):WL C T Q .normal S:=by
 unfold Vs at ha
 split at ha<;>cases ha
 ·exact Ar (Zb hx hi hy k')
 ·exact Bq (Al trivial (idxO hx hi hy ⟨trivial,k'⟩))
theorem tH {α:Type} {e:α→List V} {l0:List α} {d:Option Nat} {T':List Hs} {x i:Cm} {sz:Nat} {q:IntKind} {n:Int} {y:α} (ha:Vs T=some (some ⟨d,.p (.idxA x i sz),none⟩,T')) (hx:S.val x = .lst sz (l0.map e)) (hi:S.val i = .int q n) (hy:Cr l0 n=some y)
  (k':WL C T' Q .normal (S.put d (.iptr (e y)))):WL C T Q .normal S:=by
 unfold Vs at ha
 split at ha<;>cases ha
 ·exact Ar (Ti hx hi hy k')
 ·exact Bq (Al trivial (idxL hx hi hy ⟨trivial,k'⟩))
theorem bJ {α:Type} {e:α→List V} {l0:List α} {d:Option Nat} {l:List Cf} {x:Cm} {t off sz:Nat} (hx:S.val x = .own t off sz (l0.map e)) (k':OL C l T Q (S.put d (.int .i64 (l0.length:Int)))) (hz:sz≠0:=by decide):OL C (⟨d,.p (.len x),none⟩::l) T Q S:=st (lenO hx k' hz)
theorem Nh {α:Type} {e:α→List V} {l0:List α} {d:Option Nat} {l:List Cf} {x:Cm} {sz:Nat} (hx:S.val x = .lst sz (l0.map e)) (k':OL C l T Q (S.put d (.int .i64 (l0.length:Int)))) (hz:sz≠0:=by decide):OL C (⟨d,.p (.len x),none⟩::l) T Q S:=st (lenL hx k' hz)
theorem Ol {α:Type} {e:α→List V} {l0:List α} {x:Cm} {t off sz j k n i:Nat} {ag:Bool} {y:α} (hx:S.val x = .optr t sz j k) (hf:S.find t=some (off,l0.map e)) (hy:l0[i]? = some y)
  (h:(j,Nat.ble (k+n) sz,(e y).length,(Hy ag n ((e y).drop k)).isSome)=(off+i,true,sz,true):=by kernel_rfl) (hdp:Cn t=false:=by rfl):Do S (.p (.load x n ag)) ((Hy ag n ((e y).drop k)).getD .undef):=by
 simp only [Prod.mk.injEq] at h
 obtain ⟨h1,h2,h3,h4⟩:=h
 cases hv:Hy ag n ((e y).drop k) with
 | none=>rw [hv] at h4; cases h4
 | some v=>exact Bo hx rfl trivial hf h1 hy hv (Nat.le_of_ble_eq_true h2) h3 hdp
theorem Kp {α:Type} {e:α→List V} {l0:List α} {x i:Cm} {t off sz:Nat} {q:IntKind} {n:Int} {y:α} (hx:S.val x = .own t off sz (l0.map e)) (hi:S.val i = .int q n) (hy:Cr l0 n=some y):Do S (.p (.idxA x i sz)) (.optr t sz (off+n.toNat) 0):=Fb hx rfl trivial hi rfl trivial hy
theorem cj_ {α:Type} {e:α→List V} {l0:List α} {x i:Cm} {sz:Nat} {q:IntKind} {n:Int} {y:α} (hx:S.val x = .lst sz (l0.map e)) (hi:S.val i = .int q n) (hy:Cr l0 n=some y):Do S (.p (.idxA x i sz)) (.iptr (e y)):=Ly hx rfl trivial hi rfl trivial hy
theorem Df {α:Type} {e:α→List V} {l0:List α} {x:Cm} {d t off sz j k n i:Nat} {ag:Bool} {y:α} {v:V} (hx:S.val x = .optr t sz j k) (hf:S.find t=some (off,l0.map e)) (hy:l0[i]? = some y) (hl:look S.env d=some v)
  (h:(j,Nat.ble (k+n) sz,(e y).length,Hy ag n ((e y).drop k),S.cp)=(off+i,true,sz,some v,[]):=by kernel_rfl) (hdp:Cn t=false:=by rfl):Dt C ⟨some d,.p (.load x n ag),none⟩ S (fun S'=>Xq S' S):=by
 simp only [Prod.mk.injEq] at h
 obtain ⟨h1,h2,h3,h4,h5⟩:=h
 exact Bf (Bo hx (by rfl) trivial hf h1 hy h4 (Nat.le_of_ble_eq_true h2) h3 hdp) hl h5
theorem dG {d:Option Nat} {l:List Cf} {f:Nat} {as:List Cm} (LB LR LM:List Nat) {g:Gq} {t:Fu} (H:C f g t) (h3:t.flat=true) (k:OL C l T Q (((S.after (as.map fun x=>Au (S.val x)) (d.getD 0) false LB LR LM t).put d (Gh (Hl (d.getD 0) (t.bx.length-LB.length) LB LR) t.r))))
  (h:(Oi S as,Ox (fun v => !Bz v) (as.map fun x=>Au (S.val x)),S.give (as.map fun x=>Au (S.val x)) LB LR LM false,(Di LB&&Di (LR++LM)&&Px Ch LM&&LB.all (fun T=>(look S.bx T).isSome)),
   (Px 33 [t.bx.length-LB.length,LM.length,LR.length]&&Kz (t.newB (d.getD 0) LB.length) LB&&Kz (t.newR (d.getD 0)) LR))=(true,true,g,true,true):=by kernel_rfl):OL C (⟨d,.call f as,none⟩::l) T Q S:=by
 simp only [Prod.mk.injEq] at h
 obtain ⟨a1,a2,a3,a4,a5⟩:=h
 exact st (Ef LB LR LM false H (Ky a1) a2 a3 a4 a5 (fun _=>h3) k)
theorem c2_ {d:Option Nat} {l:List Cf} {f:Nat} {as:List Cm} (LB LR LM:List Nat) {g:Gq} {t:Fu} (H:C f g t) (k:OL C l T Q (((S.after (as.map fun x=>Au (S.val x)) (d.getD 0) true LB LR LM t).put d (Gh (Hl (d.getD 0) (t.bx.length-LB.length) LB LR) t.r))))
  (h:(Oi S as,Ox (fun v => !Bz v) (as.map fun x=>Au (S.val x)),S.give (as.map fun x=>Au (S.val x)) LB LR LM true,(Di LB&&Di (LR++LM)&&Px Ch LM&&LB.all (fun T=>(look S.bx T).isSome)),
   (Px 33 [t.bx.length-LB.length,LM.length,LR.length]&&Kz (t.newB (d.getD 0) LB.length) LB&&Kz (t.newR (d.getD 0)) LR))=(true,true,g,true,true):=by kernel_rfl):OL C (⟨d,.call f as,none⟩::l) T Q S:=by
 simp only [Prod.mk.injEq] at h
 obtain ⟨a1,a2,a3,a4,a5⟩:=h
 exact st (Ef LB LR LM true H (Ky a1) a2 a3 a4 a5 (fun h=>nomatch h) k)
theorem o_ {l:List Cf} (k:WL C (.c (.reg l)::T) Q .normal S):OL C l T Q S:=k
theorem d_ {p:DP} (k:WL C (.c (.draw p)::T) Q .normal S):WD C p [] (WL C T Q .normal) S:=k
end Go.Ev
