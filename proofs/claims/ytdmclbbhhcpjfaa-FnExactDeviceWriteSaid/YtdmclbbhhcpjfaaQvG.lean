/- Many instructions at once: what can be reckoned is reckoned by the kernel. -/
import Derived.Test.YtdmclbbhhcpjfaaQvM
set_option linter.all false
namespace Go.Ev
def Sk:V→Bool
 | .may _ _=>false
 | _=>true
theorem Ii {v:V} (h:Sk v=true):Ah true v:=by cases v<;>first | trivial | cases h
def Vi (S:St) (n:Nat):List (Nat×Nat×Ap)→Bool
 | []=>true
 | p::r=>match Al (Ad (S.val p.2.2)) with
  | true=>false
  | false=>match Nat.beq (Ad (S.val p.2.2)).cells.length p.2.1 with
   | true=>match Nat.ble (p.1+p.2.1) n with
    | true=>Vi S n r
    | false=>false
   | false=>false
theorem Tt {S:St} {n:Nat}:∀ {l:List (Nat×Nat×Ap)},Vi S n l=true→Ar (fun p=>Al (Ad (S.val p.2.2))=false∧(Ad (S.val p.2.2)).cells.length=p.2.1∧p.1+p.2.1≤n) l
 | [],_=>trivial
 | p::r,h=>by
  unfold Vi at h
  split at h
  ·cases h
  ·rename_i h1
   split at h
   ·rename_i h2
    split at h
    ·rename_i h3
     exact ⟨⟨h1,Nat.eq_of_beq_eq_true h2,Nat.le_of_ble_eq_true h3⟩,Tt h⟩
    ·cases h
   ·cases h
def Lv (S:St):PU→Bool
 | .mv _ | .un _ _ | .conv _ _ | .binB _ _ _ | .eqs _ _ _ _ | .lenS _ | .strc _ | .ext _ _ | .nilc _ | .xbyte _ _ | .scmp _ _ | .mget _ _=>true
 | .bin op x _=>match op with
  | .eql | .neq | .lss | .leq | .gtr | .geq=>true
  | .sub | .mul | .and | .or | .xor | .andNot=>true
  | .add=>match Ad (S.val x) with
   | .int _ _=>true
   | _=>false
  | _=>false
 | .mn x y | .mx x y=>match Ad (S.val x),Ad (S.val y) with
  | .int k _,.int k' _=>decide (k=k')
  | _,_=>false
 | .load x n _=>match Ad (S.val x) with
  | .ptr t k=>match look S.bx t with
   | some cs=>Nat.ble (k+n) cs.length
   | none=>false
  | .iptr cs=>Nat.ble n cs.length
  | _=>false
 | .fieldA x off=>match Ad (S.val x) with
  | .ptr _ _ | .optr _ _ _ _=>true
  | .iptr cs=>Nat.ble off cs.length
  | _=>false
 | .field x off n _=>match Ad (S.val x) with
  | .agg cs=>Nat.ble (off+n) cs.length
  | _=>false
 | .len x=>match Ad (S.val x) with
  | .lst (_+1) _ | .own _ _ (_+1) _=>true
  | _=>false
 | .build zero ps=>Vi S zero.length ps
 | .fn _ caps=>Mj (caps.map fun x=>Ad (S.val x))
 | _=>false
theorem Vx {S:St} {o:PU} {φ:Prop} {v:V} (h:Lv S o=true) (h2:pu S (fun x=>Ad (S.val x)) o=some (φ,v)):φ:=by
 cases o with
 | mv x=>simp only [pu,Option.some.injEq,Prod.mk.injEq] at h2; rw [←h2.1]; trivial
 | bin op x y=>
  simp only [pu] at h2
  split at h2
  ·split at h2
   ·cases h
   ·cases h
   ·split at h2
    ·unfold Vr at h2
     split at h2<;>first | (cases h; done) | (cases h2; trivial) | (cases h2)
    ·cases h2
  ·rename_i hx hy
   unfold Wc at h2
   split at h2<;>first | (cases h2; trivial) | skip
   ·simp only [Lv,hx] at h; cases h
   ·cases h2
  ·cases h2
 | binB op x y=>
  simp only [pu] at h2
  split at h2
  ·split at h2<;>first | (cases h2; trivial) | cases h2
  ·cases h2
 | eqs ne ks x y=>
  simp only [pu] at h2
  split at h2
  ·split at h2<;>first | (cases h2; trivial) | cases h2
  ·cases h2
 | un op x=>
  simp only [pu] at h2
  split at h2<;>first | (cases h2; trivial) | cases h2
 | conv k x=>
  simp only [pu] at h2
  split at h2<;>first | (cases h2; trivial) | cases h2
 | lenS x=>
  simp only [pu] at h2
  split at h2<;>first | (cases h2; trivial) | cases h2
 | strc x=>
  simp only [pu] at h2
  split at h2<;>first | (cases h2; trivial) | cases h2
 | ext x i=>
  simp only [pu] at h2
  split at h2
  ·split at h2<;>first | (cases h2; trivial) | cases h2
  ·cases h2
 | nilc x=>
  simp only [pu] at h2
  split at h2<;>first | (cases h2; trivial) | cases h2
 | xbyte x y=>
  simp only [pu] at h2
  split at h2<;>first | (cases h2; trivial) | cases h2
 | mget x y=>
  simp only [pu] at h2
  split at h2<;>first | (cases h2; trivial) | cases h2
 | scmp x y=>
  simp only [pu] at h2
  split at h2<;>first | (cases h2; trivial) | cases h2
 | mn x y=>
  simp only [pu] at h2
  split at h2
  ·rename_i hx hy
   simp only [Lv,hx,hy] at h
   cases h2; exact of_decide_eq_true h
  ·cases h2
 | mx x y=>
  simp only [pu] at h2
  split at h2
  ·rename_i hx hy
   simp only [Lv,hx,hy] at h
   cases h2; exact of_decide_eq_true h
  ·cases h2
 | load x n ag=>
  simp only [pu] at h2
  split at h2
  ·rename_i hx
   split at h2
   ·rename_i hl
    split at h2
    ·simp only [Lv,hx,hl] at h
     cases h2; exact Nat.le_of_ble_eq_true h
    ·cases h2
   ·cases h2
  ·rename_i hx
   split at h2
   ·simp only [Lv,hx] at h
    cases h2; exact Nat.le_of_ble_eq_true h
   ·cases h2
  ·rename_i hx
   simp only [Lv,hx] at h; cases h
  ·cases h2
 | fieldA x off=>
  simp only [pu] at h2
  split at h2
  ·cases h2; trivial
  ·rename_i hx
   simp only [Lv,hx] at h
   cases h2; exact Nat.le_of_ble_eq_true h
  ·cases h2; trivial
  ·cases h2
 | field x off n ag=>
  simp only [pu] at h2
  split at h2
  ·rename_i hx
   split at h2
   ·simp only [Lv,hx] at h
    cases h2; exact Nat.le_of_ble_eq_true h
   ·cases h2
  ·cases h2
 | len x=>
  simp only [pu] at h2
  split at h2
  ·rename_i s es hx
   simp only [Lv,hx] at h
   cases h2
   cases s with
   | zero=>cases h
   | succ n=>exact Nat.succ_ne_zero n
  ·rename_i s es hx
   simp only [Lv,hx] at h
   cases h2
   cases s with
   | zero=>cases h
   | succ n=>exact Nat.succ_ne_zero n
  ·cases h2
 | fn f caps=>simp only [pu,Option.some.injEq,Prod.mk.injEq] at h2; rw [←h2.1]; exact h
 | build zero ps=>simp only [pu,Option.some.injEq,Prod.mk.injEq] at h2; rw [←h2.1]; exact Tt h
 | _=>cases h
def Ji (S:St):List Ap→Bool
 | []=>true
 | x::r=>match Sk (S.val x) with
  | true=>Ji S r
  | false=>false
theorem Gr {S:St}:∀ {l:List Ap},Ji S l=true→Ar (fun x=>Ah true (S.val x)) l
 | [],_=>trivial
 | x::r,h=>by
  unfold Ji at h
  split at h
  ·rename_i hp; exact ⟨Ii hp,Gr h⟩
  ·cases h
def aY (sz len:Nat):List (Nat×V)→Bool
 | []=>true
 | p::r=>match Nat.blt p.1 len with
  | true=>match Nat.beq p.2.cells.length sz with
   | true=>match p.2.cells.all (fun c => !Fi c) with
    | true=>aY sz len r
    | false=>false
   | false=>false
  | false=>false
theorem Xm {sz len:Nat}:∀ {l:List (Nat×V)},aY sz len l=true→Ar (fun p=>p.1<len∧p.2.cells.length=sz∧p.2.cells.all (fun c => !Fi c)=true) l
 | [],_=>trivial
 | p::r,h=>by
  unfold aY at h
  split at h
  ·rename_i h1
   split at h
   ·rename_i h2
    split at h
    ·rename_i h3
     exact ⟨⟨Nat.le_of_ble_eq_true h1,Nat.eq_of_beq_eq_true h2,h3⟩,Xm h⟩
    ·cases h
   ·cases h
  ·cases h
theorem iE {S:St}:∀ {l:List (Nat×Ap)},Ji S (l.map (·.2))=true→Ar (fun p=>nm S p.2) l
 | [],_=>trivial
 | p::r,h=>by
  unfold List.map Ji at h
  split at h
  ·rename_i hp; exact ⟨Ii hp,iE h⟩
  ·cases h
def q1 (i:Bj) (S:St):Option St:=
 match i with
 | ⟨d,.p o,none⟩=>match Ji S o.opds with
  | true=>match Lv S o with
   | true=>match pu S (fun x=>Ad (S.val x)) o with
    | some (_,v)=>some (S.putC d v (Fo (fun x=>Ad (S.val x)) o))
    | none=>none
   | false=>none
  | false=>none
 | ⟨some d,.box x,none⟩=>match Sk ((S.drop (64*d)).val x) with
  | true=>match Al (Ad ((S.drop (64*d)).val x)) with
   | true=>none
   | false=>some (((S.drop (64*d)).setBx (64*d) (Ad ((S.drop (64*d)).val x)).cells).put (some d) (.ptr (64*d) 0))
  | false=>none
 | ⟨some d,.alloc z,none⟩=>some (((S.drop (64*d)).setBx (64*d) z).put (some d) (.ptr (64*d) 0))
 | ⟨some d,.nilS sz,none⟩=>some ((S.drop (64*d)).put (some d) (.own (64*d) 0 sz []))
 | ⟨d,.store x v n,none⟩=>match S.val x with
  | .ptr t k=>match Sk (S.val v) with
   | true=>match Al (Ad (S.val v)) with
    | true=>none
    | false=>match Nat.beq (Ad (S.val v)).cells.length n with
     | true=>match look S.bx t with
      | some bs=>match Nat.ble (k+n) bs.length with
       | true=>some ((S.setBx t (Aw bs k (Ad (S.val v)).cells)).put d .undef)
       | false=>none
      | none=>none
     | false=>none
   | false=>none
  | _=>none
 | ⟨some d,.mkS sz zero len parts,none⟩=>match Ji S (parts.map (·.2)) with
  | true=>match aY sz len (parts.map fun p=>(p.1,Ad (S.val p.2))) with
   | true=>some (((S.freezes (Fy (parts.map fun p=>(p.1,Ad (S.val p.2))))).drop (64*d)).put (some d)
    (.own (64*d) 0 sz (Gy sz (List.replicate len zero) ((parts.map fun p=>(p.1,Ad (S.val p.2))).map fun p=>(p.1,p.2.cells.map Bg)))))
   | false=>none
  | false=>none
 | _=>none
theorem iT {C:Aq} {i:Bj} {S S':St} {K:St→Prop} (h:q1 i S=some S') (k:K S'):Bo C i S K:=by
 unfold q1 at h
 split at h
 ·split at h
  ·rename_i h1
   split at h
   ·rename_i h2
    split at h
    ·rename_i h3
     cases h
     exact p_ (Gr h1) h3 (Vx h2 h3) k
    ·cases h
   ·cases h
  ·cases h
 ·split at h
  ·rename_i h1
   split at h
   ·cases h
   ·rename_i h2
    cases h
    exact DC rfl (Ii h1) h2 k
  ·cases h
 ·cases h; exact Gs k
 ·cases h; exact zC k
 ·split at h
  ·rename_i hx
   split at h
   ·rename_i h1
    split at h
    ·cases h
    ·rename_i h2
     split at h
     ·rename_i h3
      split at h
      ·rename_i h4
       split at h
       ·rename_i h5
        cases h
        exact Jg hx rfl (Ii h1) h2 (Nat.eq_of_beq_eq_true h3) h4 (Nat.le_of_ble_eq_true h5) k
       ·cases h
      ·cases h
     ·cases h
   ·cases h
  ·cases h
 ·split at h
  ·rename_i h1
   split at h
   ·rename_i h2
    cases h
    exact Xj (iE h1) (Xm h2) k
   ·cases h
  ·cases h
 ·cases h
theorem Sn {i:Bj} {S S':St} (h:q1 i S=some S'):Bl i S:=by
 unfold Bl
 split
 ·rename_i o x n ag hop
  split
  ·rename_i hx
   unfold q1 at h
   split at h
   ·rename_i d o' g
    cases hop
    split at h
    ·split at h
     ·rename_i hp
      simp only [Lv,hx] at hp
      cases hp
     ·cases h
    ·cases h
   all_goals first | cases hop | (cases h)
  ·trivial
 ·trivial
def Ra:List Eg→Option (Option Bj×List Eg)
 | .c .skip::T=>some (none,T)
 | .c (.seq a b)::T=>some (none,.c a :: .w :: .c b::T)
 | .c (.reg [])::T=>some (none,T)
 | .c (.reg (i::l))::T=>some (some i,.c (.reg l)::T)
 | .c (.block id a)::T=>some (none,.c a :: .b id::T)
 | .c (.draw .fin)::T=>some (none,T)
 | .c (.draw (.take i p))::T=>some (some i,.c (.draw p)::T)
 | .w::T=>some (none,T)
 | .b _::T=>some (none,T)
 | _=>none
def Tp:Nat→List Eg→List Eg
 | 0,T=>T
 | n+1,T=>match Ra T with
  | some (_,T')=>Tp n T'
  | none=>T
def run:Nat→List Eg→St→Option St
 | 0,_,S=>some S
 | n+1,T,S=>match Ra T with
  | some (none,T')=>run n T' S
  | some (some i,T')=>match q1 i S with
   | some S'=>run n T' S'
   | none=>none
  | none=>none
variable {C:Aq} {Q:Ex→St→Prop} {S:St} {T:List Eg}
theorem Tq {T':List Eg} (h:Ra T=some (none,T')) (k:WL C T' Q .normal S):WL C T Q .normal S:=by
 unfold Ra at h
 split at h<;>cases h
 ·exact xZ k
 ·exact Ce k
 ·exact k
 ·exact Cm k
 ·exact k
 ·exact yE k
 ·exact CR k
theorem bO {i:Bj} {T':List Eg} {S':St} (h:Ra T=some (some i,T')) (hq:q1 i S=some S') (k:WL C T' Q .normal S'):WL C T Q .normal S:=by
 unfold Ra at h
 split at h<;>cases h
 ·exact Ak (st (iT hq k))
 ·exact Ez (Ca (Sn hq) (iT hq ⟨trivial,k⟩))
theorem Uf:∀(n:Nat) {T:List Eg} {S S':St},run n T S=some S'→WL C (Tp n T) Q .normal S'→WL C T Q .normal S
 | 0,T,S,S',h,k=>by cases h; exact k
 | n+1,T,S,S',h,k=>by
  unfold run at h
  unfold Tp at k
  split at h
  ·rename_i h1
   rw [h1] at k
   exact Tq h1 (Uf n h k)
  ·rename_i h1
   split at h
   ·rename_i h2
    rw [h1] at k
    exact bO h1 h2 (Uf n h k)
   ·cases h
  ·cases h
def FZ:List Eg→List Eg
 | .w::T=>T
 | T=>T
def FY:List Eg→Bool
 | .w::_=>true
 | _=>false
def bB (o:Option St) (S':St):Option (List (Option V)×List (Option (List V))×List (Nat×Int)):=o.map fun S=>(S'.env.map (fun p=>look S.env p.1),S'.bx.map (fun p=>look S.bx p.1),S'.cp)
def bH (S':St):Option (List (Option V)×List (Option (List V))×List (Nat×Int)):=some (S'.env.map (fun p=>some p.2),S'.bx.map (fun p=>some p.2),[])
theorem IP (n:Nat) (ts:List Nat) (rs:List (Nat×Nat)) (S':St) (k:WL C (FZ (Tp n T)) Q .normal S')
  (hw:FY (Tp n T)=true:=by kernel_rfl) (hr:Zh rs=true:=by kernel_rfl) (h:bB ((run n T S).map fun S=>(S.freezes ts).swaps rs) S'=bH S':=by kernel_rfl):WL C T Q .normal S:=by
 cases hR:run n T S with
 | none=>rw [hR] at h; cases h
 | some S1=>
  rw [hR] at h
  refine Uf n hR ?_
  cases hT:Tp n T with
  | nil=>rw [hT] at hw; cases hw
  | cons x T'=>
   rw [hT] at hw k
   cases x with
   | w=>exact Hz S' ((Fg.fz _ ts).trans ((Fg.sw _ rs hr).trans (.le (bM.le (Option.some.inj h))))) k
   | c a=>cases hw
   | b id=>cases hw
theorem JA (n:Nat) (S':St) (k:WL C (FZ (Tp n T)) Q .normal S') (hw:FY (Tp n T)=true:=by kernel_rfl) (h:bB (run n T S) S'=bH S':=by kernel_rfl):WL C T Q .normal S:=
 IP n [] [] S' k hw rfl (by cases hR:run n T S with | none=>rw [hR] at h; cases h | some S1=>rw [hR] at h; exact h)
def FM (n:Nat) (T:List Eg) (S:St):St:=(run n T S).getD S
theorem Bn (n:Nat) (k:WL C (Tp n T) Q .normal (FM n T S)) (h:(run n T S).isSome=true:=by kernel_rfl):WL C T Q .normal S:=by
 cases hR:run n T S with
 | none=>rw [hR] at h; cases h
 | some S1=>
  refine Uf n hR ?_
  unfold FM at k
  rw [hR] at k
  exact k
def aT:Nat→List Eg→Bool
 | 0,_=>true
 | n+1,T=>match Ra T with
  | some (none,T')=>aT n T'
  | _=>false
theorem Un:∀(n:Nat) {T:List Eg},aT n T=true→run n T S=some S
 | 0,_,_=>rfl
 | n+1,T,h=>by
  unfold aT at h
  unfold run
  split at h
  ·rename_i h1
   rw [h1]
   exact Un n h
  ·cases h
theorem xW (n:Nat) (k:WL C (Tp n T) Q .normal S) (h:aT n T=true:=by kernel_rfl):WL C T Q .normal S:=Uf n (Un n h) k
def CB (o:Option St) (res:List Vc) (nb:Nat):Option (Bool×V×List (List V)):=
 match o with
 | none=>none
 | some S=>match iY S res with
  | none=>none
  | some v=>match Iv S (Qa nb++Cn v.flat) with
   | none=>none
   | some css=>some (Kh 33 [(Fe (v.flat++css.flatten)).length,(Cn v.flat).length],Dg (Of (Fe (v.flat++css.flatten)) (Cn v.flat)) v,Ki (Of (Fe (v.flat++css.flatten)) (Cn v.flat)) css)
def gU:List Eg→Bool
 | .c .ret::_=>true
 | _=>false
theorem xV {res:List Vc} {nb:Nat} {t:Cs} (n:Nat) (hQ:∀S',FQ res nb t .ret S'→Q .ret S') (ts:List Nat:=[]) (h6:t.rw=[]:=by exact rfl) (hr:gU (Tp n T)=true:=by kernel_rfl)
  (h:CB ((run n T S).map fun S=>S.freezes ts) res nb=some (true,t.r,t.bx):=by kernel_rfl):WL C T Q .normal S:=by
 cases hR:run n T S with
 | none=>rw [hR] at h; cases h
 | some S1=>
  rw [hR] at h
  refine Uf n hR ?_
  cases hT:Tp n T with
  | nil=>rw [hT] at hr; cases hr
  | cons x T'=>
   rw [hT] at hr
   unfold gU at hr
   split at hr
   ·rename_i e
    cases e
    refine Zf (hQ _ ?_)
    refine FL (Fg.fz _ ts) ?_
    unfold CB at h
    split at h
    ·cases h
    ·rename_i S2 e2
     obtain rfl:=Option.some.inj e2
     split at h
     ·cases h
     ·rename_i h1
      split at h
      ·cases h
      ·rename_i h2
       simp only [Option.some.injEq,Prod.mk.injEq] at h
       exact Ms h1 h2 h.1 h.2.1 h.2.2 (by rw [h6]; trivial)
   ·cases hr
theorem Dz {res:List Vc} {nb:Nat} {t:Cs} (n:Nat) (ts:List Nat:=[]) (h6:t.rw=[]:=by exact rfl) (hr:gU (Tp n T)=true:=by kernel_rfl)
  (h:CB ((run n T S).map fun S=>S.freezes ts) res nb=some (true,t.r,t.bx):=by kernel_rfl):WL C T (FQ res nb t) .normal S:=xV n (fun _ h=>h) ts h6 hr h
theorem bb {α β:Type} {o:Option α} {f:α→Option β} {r:β} {P:Prop} (h:o.bind f=some r) (k:∀x,o=some x→f x=some r→P):P:=by
 obtain ⟨x,h1,h2⟩:=bnd h
 exact k x h1 h2
theorem bv {α β:Type} {e:α} {f:α→Option β} {r:β} {P:Prop} (h:Cd e f=some r) (k:∀x,x=e→f x=some r→P):P:=k e rfl h
theorem gg {α:Type} {c:Prop} [Decidable c] {a:Option α} {r:α} {P:Prop} (h:(if c then a else none)=some r) (k:c→a=some r→P):P:=k (IA h).1 (IA h).2
theorem kn {σ ρ:Type} {K:Ex→St→Prop} {st:σ→St→Prop} {o:σ⊕ρ} {s':σ} {S' S'':St} (hK:∀s',o = .inl s'→∀S' S'',Fg S' S''→st s' S''→K .normal S') (h1:o = .inl s') (h2:st s' S'')
  (h:(S''.env.map (fun p=>look S'.env p.1),S''.bx.map (fun p=>look S'.bx p.1),S''.cp)=(S''.env.map (fun p=>some p.2),S''.bx.map (fun p=>some p.2),([]:List (Nat×Int))):=by kernel_rfl):K .normal S':=hK _ h1 _ _ (Ho h) h2
def aN (S:St) (j:Bj):Option (Option V):=
 match j with
 | ⟨some _,.p o,none⟩=>match Ji S o.opds with
  | true=>match Lv S o with
   | true=>match pu S (fun x=>Ad (S.val x)) o with
    | some (_,v)=>some (some v)
    | none=>none
   | false=>none
  | false=>none
 | _=>none
def Rp (S:St) (j:Bj):Option (Option V):=
 match j with
 | ⟨some d,.p _,none⟩=>some (look S.env d)
 | _=>some none
theorem FC {C:Aq} {X:List Bj} {S:St} {j:Bj} (h:aN S j=Rp S j) (hc:S.cp=[]):(Bl j S∨j∈X)∧Bo C j S (fun S'=>Ta S' S):=by
 unfold aN at h
 split at h
 ·rename_i d o
  split at h
  ·rename_i h1
   split at h
   ·rename_i h2
    split at h
    ·rename_i h3
     have h4:some _=look S.env d:=Option.some.inj h
     refine ⟨.inl ?_,?_⟩
     ·exact Sn (S':=S.putC (some d) _ (Fo (fun x=>Ad (S.val x)) o)) (by simp only [q1,h1,h2,h3]; rfl)
     ·exact Bc ⟨Gr h1,_,h3,Vx h2 h3⟩ h4.symm hc
    ·simp only [Rp] at h; cases h
   ·simp only [Rp] at h; cases h
  ·simp only [Rp] at h; cases h
 ·unfold Rp at h
  split at h
  ·cases h
  ·cases h
theorem aM {C:Aq} {X:List Bj} {S:St} (hc:S.cp=[]):∀ {l:List Bj},l.map (aN S)=l.map (Rp S)→Fz C X l S
 | [],_=>trivial
 | j::r,h=>by
  simp only [List.map_cons,List.cons.injEq] at h
  exact ⟨FC h.1 hc,aM hc h.2⟩
theorem hB {C:Aq} {X l:List Bj} {S:St} (h:(l.map (aN S),S.cp)=(l.map (Rp S),[]):=by kernel_rfl):Fz C X l S:=by
 simp only [Prod.mk.injEq] at h
 exact aM h.2 h.1
theorem d0 {C:Aq} {K:St→Prop} {S:St} {held:List Bj} {r:DP} (hh:Fz C [] held S) (k:WD C r [] K S):∃S1,Fg S S1∧∃X',Fz C X' held S1∧Dh C X' S1∧WD C r X' K S1:=⟨S,Fg.refl S,[],hh,trivial,k⟩
theorem dw {C:Aq} {K:St→Prop} {S:St} {held:List Bj} {r:DP} (e:List (Nat×V)) (b:List (Nat×List V)) (hh:Fz C [] held ⟨e,b,[]⟩) (k:WD C r [] K ⟨e,b,[]⟩)
  (h:(e.map (fun p=>look S.env p.1),b.map (fun p=>look S.bx p.1))=(e.map (fun p=>some p.2),b.map (fun p=>some p.2)):=by kernel_rfl):∃S1,Fg S S1∧∃X',Fz C X' held S1∧Dh C X' S1∧WD C r X' K S1:=
 ⟨⟨e,b,[]⟩,Ho (by simp only [Prod.mk.injEq] at h ⊢; exact ⟨h.1,h.2,trivial⟩),[],hh,trivial,k⟩
theorem EX {C:Aq} {K:St→Prop} {S:St} {held X:List Bj} {p rest:DP} {d:Option Nat} {f:Nat} {as:List Ap} {gv:List V} {r:V} (H:C f ⟨gv,[]⟩ ⟨r,[],[]⟩) (h3:r.flat.all Eb=true)
  (k:∃S1,Fg ((S.drops (Jk (d.getD 0) (Au r.flat))).put d (Dg (Du (d.getD 0) 0 [] []) r)) S1∧∃X',Fz C X' held S1∧Dh C X' S1∧WD C p X' K S1) (k2:WD C rest X K S)
  (h:(Ji S as,Js (fun v => !Al v) (as.map fun x=>Ad (S.val x)),(as.map fun x=>Ad (S.val x)).map (mapW (S.liftC [] [] [] false)))=(true,true,gv):=by kernel_rfl):WD C (.alt held ⟨d,.call f as,none⟩ p rest) X K S:=by
 simp only [Prod.mk.injEq] at h
 exact Ep (Io false H (Gr h.1) h.2.1 h.2.2 (fun _=>h3) k) k2
theorem ar {a b:Bool} (h:b=true) (ha:a=true:=by exact rfl):(a&&b)=true:=Fj ha h
theorem af {α:Type} {e:α→List V} {xs:List α} {t off sz:Nat} {b:Bool} (h:b=true) (h1:∀x,(e x).all scal=true:=by exact fun _=>rfl):(Eb (.own t off sz (xs.map e))&&b)=true:=Fj (IY h1) h
theorem jn {R G:St→Prop} {S' S1:St} (hJ:∀S S1,Fg S S1→R S1→G S) (h1:R S1)
  (h:(S1.env.map (fun p=>look S'.env p.1),S1.bx.map (fun p=>look S'.bx p.1),S1.cp)=(S1.env.map (fun p=>some p.2),S1.bx.map (fun p=>some p.2),([]:List (Nat×Int))):=by kernel_rfl):G S':=hJ _ _ (Ho h) h1
theorem El {α:Type} {c:Ap} {a b:IR} {cb:Bool} {x y r:α} (h0:(if cb=true then x else y)=r) (k1:cb=true→x=r→WL C (.c a::T) Q .normal S) (k2:cb=false→y=r→WL C (.c b::T) Q .normal S)
  (hc:S.val c = .bool cb:=by kernel_rfl):WL C (.c (.ite c a b)::T) Q .normal S:=BX hc (fun h=>k1 h (ip h h0)) (fun h=>k2 h (IC h h0))
def fY (S:St) (as:List Ap):Bool×Bool×List V:=(Ji S as,Js (fun v => !Al v) (as.map fun x=>Ad (S.val x)),(as.map fun x=>Ad (S.val x)).map (mapW (S.liftC [] [] [] false)))
theorem Tx {d:Option Nat} {l:List Bj} {f:Nat} {as:List Ap} {gv:List V} {r:V} (H:C f ⟨gv,[]⟩ ⟨r,[],[]⟩) (h3:r.flat.all Eb=true)
  (k:OL C l T Q ((S.drops (Jk (d.getD 0) (Au r.flat))).put d (Dg (Du (d.getD 0) 0 [] []) r))) (h:fY S as=(true,true,gv):=by kernel_rfl):OL C (⟨d,.call f as,none⟩::l) T Q S:=by
 simp only [fY,Prod.mk.injEq] at h
 exact st (Io false H (Gr h.1) h.2.1 h.2.2 (fun _=>h3) k)
theorem Qi {d:Option Nat} {l:List Bj} {f:Nat} {as:List Ap} {gv:List V} {r:V} (H:C f ⟨gv,[]⟩ ⟨r,[],[]⟩)
  (k:OL C l T Q ((S.drops (Jk (d.getD 0) (Au r.flat))).put d (Dg (Du (d.getD 0) 0 [] []) r))) (h:fY S as=(true,true,gv):=by kernel_rfl) (h3:r.flat.all Eb=true:=by kernel_rfl):OL C (⟨d,.call f as,none⟩::l) T Q S:=Tx H h3 k h
def Xh (S:St) (g:Bool):List Ap→List (Bool×Bool)
 | []=>[]
 | x::r=>match S.val x with
  | .may b _=>(b,g)::Xh S g r
  | _=>Xh S g r
def xL (b:Bool):V→List (Bool×Bool)
 | .may c _=>[(c,b)]
 | _=>[]
abbrev Jh (l:List (Bool×Bool)):Prop:=l.map (·.1)=l.map (·.2)
theorem Sc {S:St} {g:Bool} (hg:g=true):∀ {l:List Ap},Jh (Xh S g l)→Ar (fun x=>Ah true (S.val x)) l
 | [],_=>trivial
 | x::r,h=>by
  unfold Xh at h
  split at h
  ·rename_i hx
   simp only [Jh,List.map_cons,List.cons.injEq] at h
   refine ⟨?_,Sc hg h.2⟩
   show Ah true (S.val x)
   rw [hx]
   exact fun _=>by rw [h.1]; exact hg
  ·rename_i hx
   refine ⟨?_,Sc hg h⟩
   show Ah true (S.val x)
   cases hv:S.val x<;>first | trivial | exact absurd hv (hx _ _)
theorem aS {b c:Bool} {v:V} (h:Jh (xL b v)) (hb:c=true→b=true):Ah c v:=by
 cases v with
 | may x y=>
  simp only [Jh,xL,List.map_cons,List.map_nil,List.cons.injEq,and_true] at h
  exact fun hc=>by rw [h]; exact hb hc
 | _=>trivial
def q2 (i:Bj) (S:St):Option (St×List (Bool×Bool)):=
 match i with
 | ⟨d,.p o,some (gs,want)⟩=>match Lu (S.val (.t gs)) want with
  | some g=>match Lv S o with
   | true=>match pu S (fun x=>Ad (S.val x)) o with
    | some (_,v)=>some (S.put d (.may g v),Xh S g o.opds)
    | none=>none
   | false=>none
  | none=>none
 | ⟨d,.pick c a b,none⟩=>match S.val c with
  | .bool cb=>some (S.put d (Mc cb (Ad (S.val a)) (Ad (S.val b))),xL (cb==true) (S.val a)++xL (cb==false) (S.val b))
  | _=>none
 | i=>match q1 i S with
  | some S'=>some (S',[])
  | none=>none
theorem Uy {a b:List (Bool×Bool)} (h:Jh (a++b)):Jh a:=by
 simp only [Jh,List.map_append] at h
 exact (List.append_inj h (by simp)).1
theorem Zs {a b:List (Bool×Bool)} (h:Jh (a++b)):Jh b:=by
 simp only [Jh,List.map_append] at h
 exact (List.append_inj h (by simp)).2
theorem zF {C:Aq} {i:Bj} {S S':St} {l:List (Bool×Bool)} {K:St→Prop} (h:q2 i S=some (S',l)) (hl:Jh l) (k:K S'):Bo C i S K:=by
 unfold q2 at h
 split at h
 ·split at h
  ·rename_i hg
   split at h
   ·rename_i h2
    split at h
    ·rename_i h3
     cases h
     exact Hy hg (fun e=>⟨Sc e hl,_,h3,Vx h2 h3⟩) k
    ·cases h
   ·cases h
  ·cases h
 ·split at h
  ·rename_i hc
   cases h
   exact Jm hc rfl rfl (aS (Uy hl) fun e=>by rw [e]; rfl) (aS (Zs hl) fun e=>vU e) rfl k
  ·cases h
 ·split at h
  ·rename_i h1
   cases h
   exact iT h1 k
  ·cases h
theorem iU {i:Bj} {S S':St} {l:List (Bool×Bool)} (h:q2 i S=some (S',l)):Bl i S:=by
 unfold q2 at h
 split at h
 ·rename_i d o gs want
  unfold Bl
  split
  ·rename_i x n ag hop
   split
   ·rename_i hx
    cases hop
    split at h
    ·split at h
     ·rename_i hp
      simp only [Lv,hx] at hp
      cases hp
     ·cases h
    ·cases h
   ·trivial
  ·trivial
 ·trivial
 ·split at h
  ·rename_i h1
   exact Sn h1
  ·cases h
def Xq:Nat→List Eg→St→Option (St×List (Bool×Bool))
 | 0,_,S=>some (S,[])
 | n+1,T,S=>match Ra T with
  | some (none,T')=>Xq n T' S
  | some (some i,T')=>match q2 i S with
   | some (S',l)=>match Xq n T' S' with
    | some (S2,l2)=>some (S2,l++l2)
    | none=>none
   | none=>none
  | none=>none
theorem Vy:∀(n:Nat) {T:List Eg} {S S':St} {l:List (Bool×Bool)},Xq n T S=some (S',l)→Jh l→WL C (Tp n T) Q .normal S'→WL C T Q .normal S
 | 0,T,S,S',l,h,_,k=>by cases h; exact k
 | n+1,T,S,S',l,h,hl,k=>by
  unfold Xq at h
  unfold Tp at k
  split at h
  ·rename_i h1
   rw [h1] at k
   exact Tq h1 (Vy n h hl k)
  ·rename_i i T' h1
   split at h
   ·rename_i S1 l1 h2
    rw [h1] at k
    split at h
    ·rename_i h3
     cases h
     have kk:=Vy n h3 (Zs hl) k
     unfold Ra at h1
     split at h1<;>cases h1
     ·exact Ak (st (zF h2 (Uy hl) kk))
     ·exact Ez (Ca (iU h2) (zF h2 (Uy hl) ⟨trivial,kk⟩))
    ·cases h
   ·cases h
  ·cases h
def FN (n:Nat) (T:List Eg) (S:St):St:=match Xq n T S with
 | some p=>p.1
 | none=>S
def AW:Option (St×List (Bool×Bool))→Option (List Bool)
 | some p=>some (p.2.map (·.1))
 | none=>none
def AX:Option (St×List (Bool×Bool))→Option (List Bool)
 | some p=>some (p.2.map (·.2))
 | none=>some []
theorem CT (n:Nat) (k:WL C (Tp n T) Q .normal (FN n T S)) (h:AW (Xq n T S)=AX (Xq n T S):=by kernel_rfl):WL C T Q .normal S:=by
 cases hR:Xq n T S with
 | none=>rw [hR] at h; cases h
 | some p=>
  obtain ⟨S1,l⟩:=p
  unfold FN at k
  rw [hR] at k h
  exact Vy n hR (Option.some.inj h) k
theorem FK (n:Nat) (ts:List Nat) (rs:List (Nat×Nat)) (e:List (Nat×V)) (b:List (Nat×List V)) (k:WL C (FZ (Tp n T)) Q .normal ⟨e,b,[]⟩)
  (hw:FY (Tp n T)=true:=by kernel_rfl) (hr:Zh rs=true:=by kernel_rfl) (h:bB ((run n T S).map fun S=>(S.freezes ts).swaps rs) ⟨e,b,[]⟩=bH ⟨e,b,[]⟩:=by kernel_rfl):WL C T Q .normal S:=IP n ts rs _ k hw hr h
theorem Ay (n:Nat) (e:List (Nat×V)) (b:List (Nat×List V)) (k:WL C (FZ (Tp n T)) Q .normal ⟨e,b,[]⟩) (hw:FY (Tp n T)=true:=by kernel_rfl) (h:bB (run n T S) ⟨e,b,[]⟩=bH ⟨e,b,[]⟩:=by kernel_rfl):WL C T Q .normal S:=JA n _ k hw h
def iX (t:Nat) (u:V):V→V
 | .own t' off sz es=>if t'=t then u else .own t' off sz es
 | c=>c
theorem map_fix {f g h:V→V} (H:∀c,f c=c→g c=h c):∀cs:List V,cs.map f=cs→cs.map g=cs.map h
 | [],_=>rfl
 | c::r,e=>by
  simp only [List.map_cons,List.cons.injEq] at e ⊢
  exact ⟨H c e.1,map_fix H r e.2⟩
def dB (f:V→V):V→V
 | .agg cs=>.agg (cs.map f)
 | c=>f c
theorem Xv {f g h:V→V} (H:∀c,f c=c→g c=h c) (v:V) (e:dB f v=v):dB g v=dB h v:=by
 cases v with
 | agg cs=>simp only [dB,V.agg.injEq] at e ⊢; exact map_fix H cs e
 | _=>exact H _ e
theorem Sa (f:V→V) (vs:List V):Dg f (.tup vs) = .tup (vs.map (dB f)):=by
 show V.tup (vs.map _)=_
 congr 1
theorem Pf (f:V→V) (b:Bool) (vs:List V):Dg f (.may b (.tup vs)) = .may b (.tup (vs.map (dB f))):=by
 show V.may b (.tup (vs.map _))=_
 congr 2
theorem hO {f g h:V→V} (H:∀c,f c=c→g c=h c) (v:V) (e:Dg f v=v):Dg g v=Dg h v:=by
 cases v with
 | agg cs=>simp only [Dg,V.agg.injEq] at e ⊢; exact map_fix H cs e
 | tup vs=>
  rw [Sa] at e
  rw [Sa,Sa]
  rw [map_fix (Xv H) vs (by simpa using e)]
 | may b w=>
  cases w with
  | agg cs=>simp only [Dg,V.may.injEq,V.agg.injEq,true_and] at e ⊢; exact map_fix H cs e
  | tup vs=>
   rw [Pf] at e
   rw [Pf,Pf]
   rw [map_fix (Xv H) vs (by simpa using e)]
  | _=>simp only [Dg,V.may.injEq,true_and] at e ⊢; exact H _ e
 | _=>exact H _ e
theorem Ry {f g h:V→V} (H:∀c,f c=c→g c=h c):∀l:List (Nat×V),Hd f l=l→Hd g l=Hd h l
 | [],_=>rfl
 | (a,v)::r,e=>by
  simp only [Hd,List.cons.injEq,Prod.mk.injEq,true_and] at e ⊢
  exact ⟨hO H v e.1,Ry H r e.2⟩
theorem Ui {f g h:V→V} (H:∀c,f c=c→g c=h c):∀l:List (Nat×List V),Kj f l=l→Kj g l=Kj h l
 | [],_=>rfl
 | (a,cs)::r,e=>by
  simp only [Kj,List.cons.injEq,Prod.mk.injEq,true_and] at e ⊢
  exact ⟨map_fix H cs e.1,Ui H r e.2⟩
theorem St.map_fix {f g h:V→V} (H:∀c,f c=c→g c=h c) (S:St) (e:S.map f=S):S.map g=S.map h:=by
 cases S with
 | mk env bx cp=>
  simp only [St.map,St.mk.injEq,and_true] at e ⊢
  exact ⟨Ry H env e.1,Ui H bx e.2⟩
theorem yD {t off sz at_:Nat} {A:List (List V)} {y:List V} (c:V) (e:iX t (.own t off sz A) c=c):Tj t sz at_ [y] c=iX t (.own t off sz (Cu off A at_ [y])) c:=by
 cases c with
 | own t' off' sz' es=>
  simp only [iX,Tj] at e ⊢
  by_cases h:t'=t
  ·rw [if_pos h] at e ⊢
   simp only [V.own.injEq] at e
   obtain ⟨_,rfl,rfl,rfl⟩:=e
   rw [if_pos h,if_pos rfl,h]
  ·rw [if_neg h,if_neg h]
 | _=>rfl
def FR (S:St) (v:Ap) (t off sz k:Nat) (A:List (List V)) (y:List V):Bool×Bool×Nat×Bool×Bool×Bool×List V×St:=
 (Sk (S.val v),Al (Ad (S.val v)),(Ad (S.val v)).cells.length,Nat.ble (k+(Ad (S.val v)).cells.length) sz,(Ad (S.val v)).cells.all (fun c => !Fi c),(Ad (S.val v)).tags.all (· != t),
  Aw y k ((Ad (S.val v)).cells.map Bg),(S.freezes (Ad (S.val v)).tags).map (iX t (.own t off sz A)))
theorem IQ {α:Type} {e:α→List V} {l0:List α} {d:Option Nat} {l:List Bj} {x v:Ap} {n t sz j k off i:Nat} {y:α} (y':α) (hx:S.val x = .optr t sz j k) (hf:S.find t=some (off,l0.map e)) (hy:l0[i]? = some y)
  (k':OL C l T Q ((((S.freezes (Ad (S.val v)).tags).map (iX t (.own t off sz ((l0.set i y').map e)))).put d .undef)))
  (h:FR S v t off sz k (l0.map e) (e y)=(true,false,n,true,true,true,e y',S.freezes (Ad (S.val v)).tags):=by kernel_rfl) (hj:j=off+i:=by kernel_rfl) (hs:(e y).length=sz:=by kernel_rfl) (hdp:An t=false:=by rfl):
  OL C (⟨d,.store x v n,none⟩::l) T Q S:=by
 simp only [FR,Prod.mk.injEq] at h
 obtain ⟨h1,h2,h3,h4,h5,h6,h7,h8⟩:=h
 refine st (IH (y':=y') hx rfl (Ii h1) h2 h3 hf hj hy (by rw [←h3]; exact Nat.le_of_ble_eq_true h4) hs h5 h6 h7 ?_ hdp)
 rw [St.map_fix (fun c hc=>yD c hc) _ h8,Kp]
 exact k'
theorem FU {α:Type} {e:α→List V} {l0:List α} {d:Option Nat} {l:List Bj} {x i:Ap} {t off sz:Nat} {q:IntKind} {n:Int} {y:α} (hx:S.val x = .own t off sz (l0.map e)) (hi:S.val i = .int q n) (hy:Hh l0 n=some y)
  (k':OL C l T Q (S.put d (.optr t sz (off+n.toNat) 0))):OL C (⟨d,.p (.idxA x i sz),none⟩::l) T Q S:=st (IB hx hi hy k')
theorem dM {α:Type} {e:α→List V} {l0:List α} {d:Option Nat} {l:List Bj} {x i:Ap} {sz:Nat} {q:IntKind} {n:Int} {y:α} (hx:S.val x = .lst sz (l0.map e)) (hi:S.val i = .int q n) (hy:Hh l0 n=some y)
  (k':OL C l T Q (S.put d (.iptr (e y)))):OL C (⟨d,.p (.idxA x i sz),none⟩::l) T Q S:=st (FD hx hi hy k')
theorem CW {α:Type} {e:α→List V} {l0:List α} {d:Option Nat} {T':List Eg} {x i:Ap} {sz:Nat} {q:IntKind} {n:Int} {y:α} (ha:Ra T=some (some ⟨d,.p (.idxA x i sz),none⟩,T')) (hx:S.val x = .lst sz (l0.map e)) (hi:S.val i = .int q n) (hy:Hh l0 n=some y)
  (k':WL C T' Q .normal (S.put d (.iptr (e y)))):WL C T Q .normal S:=by
 unfold Ra at ha
 split at ha<;>cases ha
 ·exact Ak (dM hx hi hy k')
 ·exact Ez (Ca trivial (FD hx hi hy ⟨trivial,k'⟩))
theorem xO {α:Type} {e:α→List V} {l0:List α} {d:Option Nat} {l:List Bj} {x:Ap} {t off sz:Nat} (hx:S.val x = .own t off sz (l0.map e)) (k':OL C l T Q (S.put d (.int .i64 (l0.length:Int)))) (hz:sz≠0:=by decide):OL C (⟨d,.p (.len x),none⟩::l) T Q S:=st (IE hx k' hz)
theorem Lo {α:Type} {e:α→List V} {l0:List α} {d:Option Nat} {l:List Bj} {x:Ap} {sz:Nat} (hx:S.val x = .lst sz (l0.map e)) (k':OL C l T Q (S.put d (.int .i64 (l0.length:Int)))) (hz:sz≠0:=by decide):OL C (⟨d,.p (.len x),none⟩::l) T Q S:=st (ID hx k' hz)
theorem HV {α:Type} {e:α→List V} {l0:List α} {x i:Ap} {sz:Nat} {q:IntKind} {n:Int} {y:α} (hx:S.val x = .lst sz (l0.map e)) (hi:S.val i = .int q n) (hy:Hh l0 n=some y):Cf S (.p (.idxA x i sz)) (.iptr (e y)):=yX hx rfl trivial hi rfl trivial hy
theorem HT {d:Option Nat} {l:List Bj} {f:Nat} {as:List Ap} (LB LR LM:List Nat) {g:Lq} {t:Cs} (H:C f g t) (h3:t.flat=true) (k:OL C l T Q (((S.after (as.map fun x=>Ad (S.val x)) (d.getD 0) false LB LR LM t).put d (Dg (Du (d.getD 0) (t.bx.length-LB.length) LB LR) t.r))))
  (h:(Ji S as,Js (fun v => !Al v) (as.map fun x=>Ad (S.val x)),S.give (as.map fun x=>Ad (S.val x)) LB LR LM false,(Av LB&&Av (LR++LM)&&Kh Am LM&&LB.all (fun T=>(look S.bx T).isSome)),
   (Kh 33 [t.bx.length-LB.length,LM.length,LR.length]&&Gt (t.newB (d.getD 0) LB.length) LB&&Gt (t.newR (d.getD 0)) LR))=(true,true,g,true,true):=by kernel_rfl):OL C (⟨d,.call f as,none⟩::l) T Q S:=by
 simp only [Prod.mk.injEq] at h
 obtain ⟨a1,a2,a3,a4,a5⟩:=h
 exact st (fX LB LR LM false H (Gr a1) a2 a3 a4 a5 (fun _=>h3) k)
theorem HU {d:Option Nat} {l:List Bj} {f:Nat} {as:List Ap} (LB LR LM:List Nat) {g:Lq} {t:Cs} (H:C f g t) (k:OL C l T Q (((S.after (as.map fun x=>Ad (S.val x)) (d.getD 0) true LB LR LM t).put d (Dg (Du (d.getD 0) (t.bx.length-LB.length) LB LR) t.r))))
  (h:(Ji S as,Js (fun v => !Al v) (as.map fun x=>Ad (S.val x)),S.give (as.map fun x=>Ad (S.val x)) LB LR LM true,(Av LB&&Av (LR++LM)&&Kh Am LM&&LB.all (fun T=>(look S.bx T).isSome)),
   (Kh 33 [t.bx.length-LB.length,LM.length,LR.length]&&Gt (t.newB (d.getD 0) LB.length) LB&&Gt (t.newR (d.getD 0)) LR))=(true,true,g,true,true):=by kernel_rfl):OL C (⟨d,.call f as,none⟩::l) T Q S:=by
 simp only [Prod.mk.injEq] at h
 obtain ⟨a1,a2,a3,a4,a5⟩:=h
 exact st (fX LB LR LM true H (Gr a1) a2 a3 a4 a5 (fun h=>nomatch h) k)
theorem o_ {l:List Bj} (k:WL C (.c (.reg l)::T) Q .normal S):OL C l T Q S:=k
theorem d_ {p:DP} (k:WL C (.c (.draw p)::T) Q .normal S):WD C p [] (WL C T Q .normal) S:=k
end Go.Ev
