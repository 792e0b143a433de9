/- Many instructions at once: what can be reckoned is reckoned by the kernel. -/
import Derived.Test.YtdmclbbhhcpjfaaDoorQvM
set_option linter.all false
namespace Go.Ev
def Sy:V→Bool
 | .may _ _=>false
 | _=>true
theorem Is {v:V} (h:Sy v=true):Ag true v:=by cases v<;>first | trivial | cases h
def Vv (S:St) (n:Nat):List (Nat×Nat×Av)→Bool
 | []=>true
 | p::r=>match Ao (Ad (S.val p.2.2)) with
  | true=>false
  | false=>match Nat.beq (Ad (S.val p.2.2)).cells.length p.2.1 with
   | true=>match Nat.ble (p.1+p.2.1) n with
    | true=>Vv S n r
    | false=>false
   | false=>false
theorem Ug {S:St} {n:Nat}:∀ {l:List (Nat×Nat×Av)},Vv S n l=true→Ba (fun p=>Ao (Ad (S.val p.2.2))=false∧(Ad (S.val p.2.2)).cells.length=p.2.1∧p.1+p.2.1≤n) l
 | [],_=>trivial
 | p::r,h=>by
  unfold Vv at h
  split at h
  ·cases h
  ·rename_i h1
   split at h
   ·rename_i h2
    split at h
    ·rename_i h3
     exact ⟨⟨h1,Nat.eq_of_beq_eq_true h2,Nat.le_of_ble_eq_true h3⟩,Ug h⟩
    ·cases h
   ·cases h
def Md (S:St):PU→Bool
 | .mv _ | .un _ _ | .conv _ _ | .binB _ _ _ | .eqs _ _ _ _ | .lenS _ | .strc _ | .ext _ _ | .nilc _ | .xbyte _ _ | .scmp _ _ | .mget _ _=>true
 | .bin op x _=>match op with
  | .eql | .neq | .lss | .leq | .gtr | .geq=>true
  | .sub | .mul | .and | .or | .xor | .andNot=>true
  | .add=>match Ad (S.val x) with
   | .int _ _=>true
   | _=>false
  | _=>false
 | .mn x y | .mx x y=>match Ad (S.val x),Ad (S.val y) with
  | .int k _,.int k' _=>decide (k=k')
  | _,_=>false
 | .load x n _=>match Ad (S.val x) with
  | .ptr t k=>match look S.bx t with
   | some cs=>Nat.ble (k+n) cs.length
   | none=>false
  | .iptr cs=>Nat.ble n cs.length
  | _=>false
 | .fieldA x off=>match Ad (S.val x) with
  | .ptr _ _ | .optr _ _ _ _=>true
  | .iptr cs=>Nat.ble off cs.length
  | _=>false
 | .field x off n _=>match Ad (S.val x) with
  | .agg cs=>Nat.ble (off+n) cs.length
  | _=>false
 | .len x=>match Ad (S.val x) with
  | .lst (_+1) _ | .own _ _ (_+1) _=>true
  | _=>false
 | .build zero ps=>Vv S zero.length ps
 | .fn _ caps=>Mr (caps.map fun x=>Ad (S.val x))
 | _=>false
theorem Wm {S:St} {o:PU} {φ:Prop} {v:V} (h:Md S o=true) (h2:pu S (fun x=>Ad (S.val x)) o=some (φ,v)):φ:=by
 cases o with
 | mv x=>simp only [pu,Option.some.injEq,Prod.mk.injEq] at h2; rw [←h2.1]; trivial
 | bin op x y=>
  simp only [pu] at h2
  split at h2
  ·split at h2
   ·cases h
   ·cases h
   ·split at h2
    ·unfold Wg at h2
     split at h2<;>first | (cases h; done) | (cases h2; trivial) | (cases h2)
    ·cases h2
  ·rename_i hx hy
   unfold Wu at h2
   split at h2<;>first | (cases h2; trivial) | skip
   ·simp only [Md,hx] at h; cases h
   ·cases h2
  ·cases h2
 | binB op x y=>
  simp only [pu] at h2
  split at h2
  ·split at h2<;>first | (cases h2; trivial) | cases h2
  ·cases h2
 | eqs ne ks x y=>
  simp only [pu] at h2
  split at h2
  ·split at h2<;>first | (cases h2; trivial) | cases h2
  ·cases h2
 | un op x=>
  simp only [pu] at h2
  split at h2<;>first | (cases h2; trivial) | cases h2
 | conv k x=>
  simp only [pu] at h2
  split at h2<;>first | (cases h2; trivial) | cases h2
 | lenS x=>
  simp only [pu] at h2
  split at h2<;>first | (cases h2; trivial) | cases h2
 | strc x=>
  simp only [pu] at h2
  split at h2<;>first | (cases h2; trivial) | cases h2
 | ext x i=>
  simp only [pu] at h2
  split at h2
  ·split at h2<;>first | (cases h2; trivial) | cases h2
  ·cases h2
 | nilc x=>
  simp only [pu] at h2
  split at h2<;>first | (cases h2; trivial) | cases h2
 | xbyte x y=>
  simp only [pu] at h2
  split at h2<;>first | (cases h2; trivial) | cases h2
 | mget x y=>
  simp only [pu] at h2
  split at h2<;>first | (cases h2; trivial) | cases h2
 | scmp x y=>
  simp only [pu] at h2
  split at h2<;>first | (cases h2; trivial) | cases h2
 | mn x y=>
  simp only [pu] at h2
  split at h2
  ·rename_i hx hy
   simp only [Md,hx,hy] at h
   cases h2; exact of_decide_eq_true h
  ·cases h2
 | mx x y=>
  simp only [pu] at h2
  split at h2
  ·rename_i hx hy
   simp only [Md,hx,hy] at h
   cases h2; exact of_decide_eq_true h
  ·cases h2
 | load x n ag=>
  simp only [pu] at h2
  split at h2
  ·rename_i hx
   split at h2
   ·rename_i hl
    split at h2
    ·simp only [Md,hx,hl] at h
     cases h2; exact Nat.le_of_ble_eq_true h
    ·cases h2
   ·cases h2
  ·rename_i hx
   split at h2
   ·simp only [Md,hx] at h
    cases h2; exact Nat.le_of_ble_eq_true h
   ·cases h2
  ·rename_i hx
   simp only [Md,hx] at h; cases h
  ·cases h2
 | fieldA x off=>
  simp only [pu] at h2
  split at h2
  ·cases h2; trivial
  ·rename_i hx
   simp only [Md,hx] at h
   cases h2; exact Nat.le_of_ble_eq_true h
  ·cases h2; trivial
  ·cases h2
 | field x off n ag=>
  simp only [pu] at h2
  split at h2
  ·rename_i hx
   split at h2
   ·simp only [Md,hx] at h
    cases h2; exact Nat.le_of_ble_eq_true h
   ·cases h2
  ·cases h2
 | len x=>
  simp only [pu] at h2
  split at h2
  ·rename_i s es hx
   simp only [Md,hx] at h
   cases h2
   cases s with
   | zero=>cases h
   | succ n=>exact Nat.succ_ne_zero n
  ·rename_i s es hx
   simp only [Md,hx] at h
   cases h2
   cases s with
   | zero=>cases h
   | succ n=>exact Nat.succ_ne_zero n
  ·cases h2
 | fn f caps=>simp only [pu,Option.some.injEq,Prod.mk.injEq] at h2; rw [←h2.1]; exact h
 | build zero ps=>simp only [pu,Option.some.injEq,Prod.mk.injEq] at h2; rw [←h2.1]; exact Ug h
 | _=>cases h
def Kh (S:St):List Av→Bool
 | []=>true
 | x::r=>match Sy (S.val x) with
  | true=>Kh S r
  | false=>false
theorem Ii {S:St}:∀ {l:List Av},Kh S l=true→Ba (fun x=>Ag true (S.val x)) l
 | [],_=>trivial
 | x::r,h=>by
  unfold Kh at h
  split at h
  ·rename_i hp; exact ⟨Is hp,Ii h⟩
  ·cases h
def bQ (sz len:Nat):List (Nat×V)→Bool
 | []=>true
 | p::r=>match Nat.blt p.1 len with
  | true=>match Nat.beq p.2.cells.length sz with
   | true=>match p.2.cells.all (fun c => !Gp c) with
    | true=>bQ sz len r
    | false=>false
   | false=>false
  | false=>false
theorem Yf {sz len:Nat}:∀ {l:List (Nat×V)},bQ sz len l=true→Ba (fun p=>p.1<len∧p.2.cells.length=sz∧p.2.cells.all (fun c => !Gp c)=true) l
 | [],_=>trivial
 | p::r,h=>by
  unfold bQ at h
  split at h
  ·rename_i h1
   split at h
   ·rename_i h2
    split at h
    ·rename_i h3
     exact ⟨⟨Nat.le_of_ble_eq_true h1,Nat.eq_of_beq_eq_true h2,h3⟩,Yf h⟩
    ·cases h
   ·cases h
  ·cases h
theorem iJ {S:St}:∀ {l:List (Nat×Av)},Kh S (l.map (·.2))=true→Ba (fun p=>nm S p.2) l
 | [],_=>trivial
 | p::r,h=>by
  unfold List.map Kh at h
  split at h
  ·rename_i hp; exact ⟨Is hp,iJ h⟩
  ·cases h
def q1 (i:Bg) (S:St):Option St:=
 match i with
 | ⟨d,.p o,none⟩=>match Kh S o.opds with
  | true=>match Md S o with
   | true=>match pu S (fun x=>Ad (S.val x)) o with
    | some (_,v)=>some (S.putC d v (Gd (fun x=>Ad (S.val x)) o))
    | none=>none
   | false=>none
  | false=>none
 | ⟨some d,.box x,none⟩=>match Sy ((S.drop (64*d)).val x) with
  | true=>match Ao (Ad ((S.drop (64*d)).val x)) with
   | true=>none
   | false=>some (((S.drop (64*d)).setBx (64*d) (Ad ((S.drop (64*d)).val x)).cells).put (some d) (.ptr (64*d) 0))
  | false=>none
 | ⟨some d,.alloc z,none⟩=>some (((S.drop (64*d)).setBx (64*d) z).put (some d) (.ptr (64*d) 0))
 | ⟨some d,.nilS sz,none⟩=>some ((S.drop (64*d)).put (some d) (.own (64*d) 0 sz []))
 | ⟨d,.store x v n,none⟩=>match S.val x with
  | .ptr t k=>match Sy (S.val v) with
   | true=>match Ao (Ad (S.val v)) with
    | true=>none
    | false=>match Nat.beq (Ad (S.val v)).cells.length n with
     | true=>match look S.bx t with
      | some bs=>match Nat.ble (k+n) bs.length with
       | true=>some ((S.setBx t (Bi bs k (Ad (S.val v)).cells)).put d .undef)
       | false=>none
      | none=>none
     | false=>none
   | false=>none
  | _=>none
 | ⟨some d,.mkS sz zero len parts,none⟩=>match Kh S (parts.map (·.2)) with
  | true=>match bQ sz len (parts.map fun p=>(p.1,Ad (S.val p.2))) with
   | true=>some (((S.freezes (Gk (parts.map fun p=>(p.1,Ad (S.val p.2))))).drop (64*d)).put (some d)
    (.own (64*d) 0 sz (He sz (List.replicate len zero) ((parts.map fun p=>(p.1,Ad (S.val p.2))).map fun p=>(p.1,p.2.cells.map Cl)))))
   | false=>none
  | false=>none
 | _=>none
theorem iX {C:At} {i:Bg} {S S':St} {K:St→Prop} (h:q1 i S=some S') (k:K S'):Ca C i S K:=by
 unfold q1 at h
 split at h
 ·split at h
  ·rename_i h1
   split at h
   ·rename_i h2
    split at h
    ·rename_i h3
     cases h
     exact p_ (Ii h1) h3 (Wm h2 h3) k
    ·cases h
   ·cases h
  ·cases h
 ·split at h
  ·rename_i h1
   split at h
   ·cases h
   ·rename_i h2
    cases h
    exact Xi rfl (Is h1) h2 k
  ·cases h
 ·cases h; exact Rh k
 ·cases h; exact uJ k
 ·split at h
  ·rename_i hx
   split at h
   ·rename_i h1
    split at h
    ·cases h
    ·rename_i h2
     split at h
     ·rename_i h3
      split at h
      ·rename_i h4
       split at h
       ·rename_i h5
        cases h
        exact jK hx rfl (Is h1) h2 (Nat.eq_of_beq_eq_true h3) h4 (Nat.le_of_ble_eq_true h5) k
       ·cases h
      ·cases h
     ·cases h
   ·cases h
  ·cases h
 ·split at h
  ·rename_i h1
   split at h
   ·rename_i h2
    cases h
    exact iB (iJ h1) (Yf h2) k
   ·cases h
  ·cases h
 ·cases h
theorem Ta {i:Bg} {S S':St} (h:q1 i S=some S'):Bx i S:=by
 unfold Bx
 split
 ·rename_i o x n ag hop
  split
  ·rename_i hx
   unfold q1 at h
   split at h
   ·rename_i d o' g
    cases hop
    split at h
    ·split at h
     ·rename_i hp
      simp only [Md,hx] at hp
      cases hp
     ·cases h
    ·cases h
   all_goals first | cases hop | (cases h)
  ·trivial
 ·trivial
def Re:List Ew→Option (Option Bg×List Ew)
 | .c .skip::T=>some (none,T)
 | .c (.seq a b)::T=>some (none,.c a :: .w :: .c b::T)
 | .c (.reg [])::T=>some (none,T)
 | .c (.reg (i::l))::T=>some (some i,.c (.reg l)::T)
 | .c (.block id a)::T=>some (none,.c a :: .b id::T)
 | .c (.draw .fin)::T=>some (none,T)
 | .c (.draw (.take i p))::T=>some (some i,.c (.draw p)::T)
 | .w::T=>some (none,T)
 | .b _::T=>some (none,T)
 | _=>none
def Rd:Nat→List Ew→List Ew
 | 0,T=>T
 | n+1,T=>match Re T with
  | some (_,T')=>Rd n T'
  | none=>T
def run:Nat→List Ew→St→Option St
 | 0,_,S=>some S
 | n+1,T,S=>match Re T with
  | some (none,T')=>run n T' S
  | some (some i,T')=>match q1 i S with
   | some S'=>run n T' S'
   | none=>none
  | none=>none
variable {C:At} {Q:Ex→St→Prop} {S:St} {T:List Ew}
theorem Ue {T':List Ew} (h:Re T=some (none,T')) (k:WL C T' Q .normal S):WL C T Q .normal S:=by
 unfold Re at h
 split at h<;>cases h
 ·exact Tw k
 ·exact Ar k
 ·exact k
 ·exact Bp k
 ·exact k
 ·exact QG k
 ·exact kW k
theorem cA {i:Bg} {T':List Ew} {S':St} (h:Re T=some (some i,T')) (hq:q1 i S=some S') (k:WL C T' Q .normal S'):WL C T Q .normal S:=by
 unfold Re at h
 split at h<;>cases h
 ·exact Ai (st (iX hq k))
 ·exact Cz (Af (Ta hq) (iX hq ⟨trivial,k⟩))
theorem Uu:∀(n:Nat) {T:List Ew} {S S':St},run n T S=some S'→WL C (Rd n T) Q .normal S'→WL C T Q .normal S
 | 0,T,S,S',h,k=>by cases h; exact k
 | n+1,T,S,S',h,k=>by
  unfold run at h
  unfold Rd at k
  split at h
  ·rename_i h1
   rw [h1] at k
   exact Ue h1 (Uu n h k)
  ·rename_i h1
   split at h
   ·rename_i h2
    rw [h1] at k
    exact cA h1 h2 (Uu n h k)
   ·cases h
  ·cases h
def JI:List Ew→List Ew
 | .w::T=>T
 | T=>T
def IW:List Ew→Bool
 | .w::_=>true
 | _=>false
def jG (o:Option St) (S':St):Option (List (Option V)×List (Option (List V))×List (Nat×Int)):=o.map fun S=>(S'.env.map (fun p=>look S.env p.1),S'.bx.map (fun p=>look S.bx p.1),S'.cp)
def jS (S':St):Option (List (Option V)×List (Option (List V))×List (Nat×Int)):=some (S'.env.map (fun p=>some p.2),S'.bx.map (fun p=>some p.2),[])
theorem QF (n:Nat) (ts:List Nat) (rs:List (Nat×Nat)) (S':St) (k:WL C (JI (Rd n T)) Q .normal S')
  (hw:IW (Rd n T)=true:=by kernel_rfl) (hr:jM rs=true:=by kernel_rfl) (h:jG ((run n T S).map fun S=>(S.freezes ts).swaps rs) S'=jS S':=by kernel_rfl):WL C T Q .normal S:=by
 cases hR:run n T S with
 | none=>rw [hR] at h; cases h
 | some S1=>
  rw [hR] at h
  refine Uu n hR ?_
  cases hT:Rd n T with
  | nil=>rw [hT] at hw; cases hw
  | cons x T'=>
   rw [hT] at hw k
   cases x with
   | w=>exact Ce S' ((Fg.fz _ ts).trans ((Fg.sw _ rs hr).trans (.le (Yz.le (Option.some.inj h))))) k
   | c a=>cases hw
   | b id=>cases hw
theorem QC (n:Nat) (S':St) (k:WL C (JI (Rd n T)) Q .normal S') (hw:IW (Rd n T)=true:=by kernel_rfl) (h:jG (run n T S) S'=jS S':=by kernel_rfl):WL C T Q .normal S:=
 QF n [] [] S' k hw rfl (by cases hR:run n T S with | none=>rw [hR] at h; cases h | some S1=>rw [hR] at h; exact h)
def JC (n:Nat) (T:List Ew) (S:St):St:=(run n T S).getD S
theorem Cd (n:Nat) (k:WL C (Rd n T) Q .normal (JC n T S)) (h:(run n T S).isSome=true:=by kernel_rfl):WL C T Q .normal S:=by
 cases hR:run n T S with
 | none=>rw [hR] at h; cases h
 | some S1=>
  refine Uu n hR ?_
  unfold JC at k
  rw [hR] at k
  exact k
def bM:Nat→List Ew→Bool
 | 0,_=>true
 | n+1,T=>match Re T with
  | some (none,T')=>bM n T'
  | _=>false
theorem Vg:∀(n:Nat) {T:List Ew},bM n T=true→run n T S=some S
 | 0,_,_=>rfl
 | n+1,T,h=>by
  unfold bM at h
  unfold run
  split at h
  ·rename_i h1
   rw [h1]
   exact Vg n h
  ·cases h
theorem kS (n:Nat) (k:WL C (Rd n T) Q .normal S) (h:bM n T=true:=by kernel_rfl):WL C T Q .normal S:=Uu n (Vg n h) k
def GA (o:Option St) (res:List Vr) (nb:Nat):Option (Bool×V×List (List V)):=
 match o with
 | none=>none
 | some S=>match jB S res with
  | none=>none
  | some v=>match Jj S (Py nb++Da v.flat) with
   | none=>none
   | some css=>some (Mv 33 [(Fw (v.flat++css.flatten)).length,(Da v.flat).length],Dq (Oe (Fw (v.flat++css.flatten)) (Da v.flat)) v,Lc (Oe (Fw (v.flat++css.flatten)) (Da v.flat)) css)
def gW:List Ew→Bool
 | .c .ret::_=>true
 | _=>false
theorem dC {res:List Vr} {nb:Nat} {t:Dj} (n:Nat) (hQ:∀S',FQ res nb t .ret S'→Q .ret S') (ts:List Nat:=[]) (h6:t.rw=[]:=by exact rfl) (hr:gW (Rd n T)=true:=by kernel_rfl)
  (h:GA ((run n T S).map fun S=>S.freezes ts) res nb=some (true,t.r,t.bx):=by kernel_rfl):WL C T Q .normal S:=by
 cases hR:run n T S with
 | none=>rw [hR] at h; cases h
 | some S1=>
  rw [hR] at h
  refine Uu n hR ?_
  cases hT:Rd n T with
  | nil=>rw [hT] at hr; cases hr
  | cons x T'=>
   rw [hT] at hr
   unfold gW at hr
   split at hr
   ·rename_i e
    cases e
    refine Wn (hQ _ ?_)
    refine JB (Fg.fz _ ts) ?_
    unfold GA at h
    split at h
    ·cases h
    ·rename_i S2 e2
     obtain rfl:=Option.some.inj e2
     split at h
     ·cases h
     ·rename_i h1
      split at h
      ·cases h
      ·rename_i h2
       simp only [Option.some.injEq,Prod.mk.injEq] at h
       exact Jo h1 h2 h.1 h.2.1 h.2.2 (by rw [h6]; trivial)
   ·cases hr
theorem De {res:List Vr} {nb:Nat} {t:Dj} (n:Nat) (ts:List Nat:=[]) (h6:t.rw=[]:=by exact rfl) (hr:gW (Rd n T)=true:=by kernel_rfl)
  (h:GA ((run n T S).map fun S=>S.freezes ts) res nb=some (true,t.r,t.bx):=by kernel_rfl):WL C T (FQ res nb t) .normal S:=dC n (fun _ h=>h) ts h6 hr h
theorem bb {α β:Type} {o:Option α} {f:α→Option β} {r:β} {P:Prop} (h:o.bind f=some r) (k:∀x,o=some x→f x=some r→P):P:=by
 obtain ⟨x,h1,h2⟩:=bnd h
 exact k x h1 h2
theorem bv {α β:Type} {e:α} {f:α→Option β} {r:β} {P:Prop} (h:Bv e f=some r) (k:∀x,x=e→f x=some r→P):P:=k e rfl h
theorem gg {α:Type} {c:Prop} [Decidable c] {a:Option α} {r:α} {P:Prop} (h:(if c then a else none)=some r) (k:c→a=some r→P):P:=k (If h).1 (If h).2
theorem kn {σ ρ:Type} {K:Ex→St→Prop} {st:σ→St→Prop} {o:σ⊕ρ} {s':σ} {S' S'':St} (hK:∀s',o = .inl s'→∀S' S'',Fg S' S''→st s' S''→K .normal S') (h1:o = .inl s') (h2:st s' S'')
  (h:(S''.env.map (fun p=>look S'.env p.1),S''.bx.map (fun p=>look S'.bx p.1),S''.cp)=(S''.env.map (fun p=>some p.2),S''.bx.map (fun p=>some p.2),([]:List (Nat×Int))):=by kernel_rfl):K .normal S':=hK _ h1 _ _ (Be h) h2
def bG (S:St) (j:Bg):Option (Option V):=
 match j with
 | ⟨some _,.p o,none⟩=>match Kh S o.opds with
  | true=>match Md S o with
   | true=>match pu S (fun x=>Ad (S.val x)) o with
    | some (_,v)=>some (some v)
    | none=>none
   | false=>none
  | false=>none
 | _=>none
def Se (S:St) (j:Bg):Option (Option V):=
 match j with
 | ⟨some d,.p _,none⟩=>some (look S.env d)
 | _=>some none
theorem IU {C:At} {X:List Bg} {S:St} {j:Bg} (h:bG S j=Se S j) (hc:S.cp=[]):(Bx j S∨j∈X)∧Ca C j S (fun S'=>Rb S' S):=by
 unfold bG at h
 split at h
 ·rename_i d o
  split at h
  ·rename_i h1
   split at h
   ·rename_i h2
    split at h
    ·rename_i h3
     have h4:some _=look S.env d:=Option.some.inj h
     refine ⟨.inl ?_,?_⟩
     ·exact Ta (S':=S.putC (some d) _ (Gd (fun x=>Ad (S.val x)) o)) (by simp only [q1,h1,h2,h3]; rfl)
     ·exact Aq ⟨Ii h1,_,h3,Wm h2 h3⟩ h4.symm hc
    ·simp only [Se] at h; cases h
   ·simp only [Se] at h; cases h
  ·simp only [Se] at h; cases h
 ·unfold Se at h
  split at h
  ·cases h
  ·cases h
theorem bF {C:At} {X:List Bg} {S:St} (hc:S.cp=[]):∀ {l:List Bg},l.map (bG S)=l.map (Se S)→El C X l S
 | [],_=>trivial
 | j::r,h=>by
  simp only [List.map_cons,List.cons.injEq] at h
  exact ⟨IU h.1 hc,bF hc h.2⟩
theorem hB {C:At} {X l:List Bg} {S:St} (h:(l.map (bG S),S.cp)=(l.map (Se S),[]):=by kernel_rfl):El C X l S:=by
 simp only [Prod.mk.injEq] at h
 exact bF h.2 h.1
theorem d0 {C:At} {K:St→Prop} {S:St} {held:List Bg} {r:DP} (hh:El C [] held S) (k:WD C r [] K S):∃S1,Fg S S1∧∃X',El C X' held S1∧Cw C X' S1∧WD C r X' K S1:=⟨S,Fg.refl S,[],hh,trivial,k⟩
theorem dw {C:At} {K:St→Prop} {S:St} {held:List Bg} {r:DP} (e:List (Nat×V)) (b:List (Nat×List V)) (hh:El C [] held ⟨e,b,[]⟩) (k:WD C r [] K ⟨e,b,[]⟩)
  (h:(e.map (fun p=>look S.env p.1),b.map (fun p=>look S.bx p.1))=(e.map (fun p=>some p.2),b.map (fun p=>some p.2)):=by kernel_rfl):∃S1,Fg S S1∧∃X',El C X' held S1∧Cw C X' S1∧WD C r X' K S1:=
 ⟨⟨e,b,[]⟩,Be (by simp only [Prod.mk.injEq] at h ⊢; exact ⟨h.1,h.2,trivial⟩),[],hh,trivial,k⟩
theorem rT {C:At} {K:St→Prop} {S:St} {held X:List Bg} {p rest:DP} {d:Option Nat} {f:Nat} {as:List Av} {gv:List V} {r:V} (H:C f ⟨gv,[]⟩ ⟨r,[],[]⟩) (h3:r.flat.all Fd=true)
  (k:∃S1,Fg ((S.drops (Jx (d.getD 0) (Bd r.flat))).put d (Dq (Ep (d.getD 0) 0 [] []) r)) S1∧∃X',El C X' held S1∧Cw C X' S1∧WD C p X' K S1) (k2:WD C rest X K S)
  (h:(Kh S as,Kg (fun v => !Ao v) (as.map fun x=>Ad (S.val x)),(as.map fun x=>Ad (S.val x)).map (mapW (S.liftC [] [] [] false)))=(true,true,gv):=by kernel_rfl):WD C (.alt held ⟨d,.call f as,none⟩ p rest) X K S:=by
 simp only [Prod.mk.injEq] at h
 exact Fk (Bh false H (Ii h.1) h.2.1 h.2.2 (fun _=>h3) k) k2
theorem ar {a b:Bool} (h:b=true) (ha:a=true:=by exact rfl):(a&&b)=true:=Ea ha h
theorem af {α:Type} {e:α→List V} {xs:List α} {t off sz:Nat} {b:Bool} (h:b=true) (h1:∀x,(e x).all scal=true:=by exact fun _=>rfl):(Fd (.own t off sz (xs.map e))&&b)=true:=Ea (kR h1) h
theorem jn {R G:St→Prop} {S' S1:St} (hJ:∀S S1,Fg S S1→R S1→G S) (h1:R S1)
  (h:(S1.env.map (fun p=>look S'.env p.1),S1.bx.map (fun p=>look S'.bx p.1),S1.cp)=(S1.env.map (fun p=>some p.2),S1.bx.map (fun p=>some p.2),([]:List (Nat×Int))):=by kernel_rfl):G S':=hJ _ _ (Be h) h1
theorem Ej {α:Type} {c:Av} {a b:IR} {cb:Bool} {x y r:α} (h0:(if cb=true then x else y)=r) (k1:cb=true→x=r→WL C (.c a::T) Q .normal S) (k2:cb=false→y=r→WL C (.c b::T) Q .normal S)
  (hc:S.val c = .bool cb:=by kernel_rfl):WL C (.c (.ite c a b)::T) Q .normal S:=Ka hc (fun h=>k1 h (ip h h0)) (fun h=>k2 h (Xa h h0))
def fU (S:St) (as:List Av):Bool×Bool×List V:=(Kh S as,Kg (fun v => !Ao v) (as.map fun x=>Ad (S.val x)),(as.map fun x=>Ad (S.val x)).map (mapW (S.liftC [] [] [] false)))
theorem IG {d:Option Nat} {l:List Bg} {f:Nat} {as:List Av} {gv:List V} {r:V} (H:C f ⟨gv,[]⟩ ⟨r,[],[]⟩) (h3:r.flat.all Fd=true)
  (k:OL C l T Q ((S.drops (Jx (d.getD 0) (Bd r.flat))).put d (Dq (Ep (d.getD 0) 0 [] []) r))) (h:fU S as=(true,true,gv):=by kernel_rfl):OL C (⟨d,.call f as,none⟩::l) T Q S:=by
 simp only [fU,Prod.mk.injEq] at h
 exact st (Bh false H (Ii h.1) h.2.1 h.2.2 (fun _=>h3) k)
theorem Tm {d:Option Nat} {l:List Bg} {f:Nat} {as:List Av} {gv:List V} {r:V} (H:C f ⟨gv,[]⟩ ⟨r,[],[]⟩)
  (k:OL C l T Q ((S.drops (Jx (d.getD 0) (Bd r.flat))).put d (Dq (Ep (d.getD 0) 0 [] []) r))) (h:fU S as=(true,true,gv):=by kernel_rfl) (h3:r.flat.all Fd=true:=by kernel_rfl):OL C (⟨d,.call f as,none⟩::l) T Q S:=IG H h3 k h
def Xv (S:St) (g:Bool):List Av→List (Bool×Bool)
 | []=>[]
 | x::r=>match S.val x with
  | .may b _=>(b,g)::Xv S g r
  | _=>Xv S g r
def tA (b:Bool):V→List (Bool×Bool)
 | .may c _=>[(c,b)]
 | _=>[]
abbrev Js (l:List (Bool×Bool)):Prop:=l.map (·.1)=l.map (·.2)
theorem Sq {S:St} {g:Bool} (hg:g=true):∀ {l:List Av},Js (Xv S g l)→Ba (fun x=>Ag true (S.val x)) l
 | [],_=>trivial
 | x::r,h=>by
  unfold Xv at h
  split at h
  ·rename_i hx
   simp only [Js,List.map_cons,List.cons.injEq] at h
   refine ⟨?_,Sq hg h.2⟩
   show Ag true (S.val x)
   rw [hx]
   exact fun _=>by rw [h.1]; exact hg
  ·rename_i hx
   refine ⟨?_,Sq hg h⟩
   show Ag true (S.val x)
   cases hv:S.val x<;>first | trivial | exact absurd hv (hx _ _)
theorem bK {b c:Bool} {v:V} (h:Js (tA b v)) (hb:c=true→b=true):Ag c v:=by
 cases v with
 | may x y=>
  simp only [Js,tA,List.map_cons,List.map_nil,List.cons.injEq,and_true] at h
  exact fun hc=>by rw [h]; exact hb hc
 | _=>trivial
def q2 (i:Bg) (S:St):Option (St×List (Bool×Bool)):=
 match i with
 | ⟨d,.p o,some (gs,want)⟩=>match Ji (S.val (.t gs)) want with
  | some g=>match Md S o with
   | true=>match pu S (fun x=>Ad (S.val x)) o with
    | some (_,v)=>some (S.put d (.may g v),Xv S g o.opds)
    | none=>none
   | false=>none
  | none=>none
 | ⟨d,.pick c a b,none⟩=>match S.val c with
  | .bool cb=>some (S.put d (Lh cb (Ad (S.val a)) (Ad (S.val b))),tA (cb==true) (S.val a)++tA (cb==false) (S.val b))
  | _=>none
 | i=>match q1 i S with
  | some S'=>some (S',[])
  | none=>none
theorem Vn {a b:List (Bool×Bool)} (h:Js (a++b)):Js a:=by
 simp only [Js,List.map_append] at h
 exact (List.append_inj h (by simp)).1
theorem aK {a b:List (Bool×Bool)} (h:Js (a++b)):Js b:=by
 simp only [Js,List.map_append] at h
 exact (List.append_inj h (by simp)).2
theorem uN {C:At} {i:Bg} {S S':St} {l:List (Bool×Bool)} {K:St→Prop} (h:q2 i S=some (S',l)) (hl:Js l) (k:K S'):Ca C i S K:=by
 unfold q2 at h
 split at h
 ·split at h
  ·rename_i hg
   split at h
   ·rename_i h2
    split at h
    ·rename_i h3
     cases h
     exact Bt hg (fun e=>⟨Sq e hl,_,h3,Wm h2 h3⟩) k
    ·cases h
   ·cases h
  ·cases h
 ·split at h
  ·rename_i hc
   cases h
   exact Ds hc rfl rfl (bK (Vn hl) fun e=>by rw [e]; rfl) (bK (aK hl) fun e=>Um e) rfl k
  ·cases h
 ·split at h
  ·rename_i h1
   cases h
   exact iX h1 k
  ·cases h
theorem iY {i:Bg} {S S':St} {l:List (Bool×Bool)} (h:q2 i S=some (S',l)):Bx i S:=by
 unfold q2 at h
 split at h
 ·rename_i d o gs want
  unfold Bx
  split
  ·rename_i x n ag hop
   split
   ·rename_i hx
    cases hop
    split at h
    ·split at h
     ·rename_i hp
      simp only [Md,hx] at hp
      cases hp
     ·cases h
    ·cases h
   ·trivial
  ·trivial
 ·trivial
 ·split at h
  ·rename_i h1
   exact Ta h1
  ·cases h
def Ph:Nat→List Ew→St→Option (St×List (Bool×Bool))
 | 0,_,S=>some (S,[])
 | n+1,T,S=>match Re T with
  | some (none,T')=>Ph n T' S
  | some (some i,T')=>match q2 i S with
   | some (S',l)=>match Ph n T' S' with
    | some (S2,l2)=>some (S2,l++l2)
    | none=>none
   | none=>none
  | none=>none
theorem Qu:∀(n:Nat) {T:List Ew} {S S':St} {l:List (Bool×Bool)},Ph n T S=some (S',l)→Js l→WL C (Rd n T) Q .normal S'→WL C T Q .normal S
 | 0,T,S,S',l,h,_,k=>by cases h; exact k
 | n+1,T,S,S',l,h,hl,k=>by
  unfold Ph at h
  unfold Rd at k
  split at h
  ·rename_i h1
   rw [h1] at k
   exact Ue h1 (Qu n h hl k)
  ·rename_i i T' h1
   split at h
   ·rename_i S1 l1 h2
    rw [h1] at k
    split at h
    ·rename_i h3
     cases h
     have kk:=Qu n h3 (aK hl) k
     unfold Re at h1
     split at h1<;>cases h1
     ·exact Ai (st (uN h2 (Vn hl) kk))
     ·exact Cz (Af (iY h2) (uN h2 (Vn hl) ⟨trivial,kk⟩))
    ·cases h
   ·cases h
  ·cases h
def jF (o:Option (St×List (Bool×Bool))) (S':St):Option ((List (Option V)×List (Option (List V))×List (Nat×Int))×List Bool):=o.map fun p=>((S'.env.map (fun q=>look p.1.env q.1),S'.bx.map (fun q=>look p.1.bx q.1),S'.cp),p.2.map (·.1))
def jR (o:Option (St×List (Bool×Bool))) (S':St):Option ((List (Option V)×List (Option (List V))×List (Nat×Int))×List Bool):=match o with
 | some p=>some ((S'.env.map (fun p=>some p.2),S'.bx.map (fun p=>some p.2),[]),p.2.map (·.2))
 | none=>some (([],[],[]),[])
theorem QA (n:Nat) (S':St) (k:WL C (JI (Rd n T)) Q .normal S') (hw:IW (Rd n T)=true:=by kernel_rfl) (h:jF (Ph n T S) S'=jR (Ph n T S) S':=by kernel_rfl):WL C T Q .normal S:=by
 cases hR:Ph n T S with
 | none=>rw [hR] at h; cases h
 | some p=>
  obtain ⟨S1,l⟩:=p
  rw [hR] at h
  simp only [jF,jR,Option.map_some,Option.some.injEq,Prod.mk.injEq] at h
  refine Qu n hR h.2 ?_
  cases hT:Rd n T with
  | nil=>rw [hT] at hw; cases hw
  | cons x T'=>
   rw [hT] at hw k
   cases x with
   | w=>exact Ce S' (.le (Yz.le (by simp only [Prod.mk.injEq]; exact h.1))) k
   | c a=>cases hw
   | b id=>cases hw
def JD (n:Nat) (T:List Ew) (S:St):St:=match Ph n T S with
 | some p=>p.1
 | none=>S
def vT:Option (St×List (Bool×Bool))→Option (List Bool)
 | some p=>some (p.2.map (·.1))
 | none=>none
def vU:Option (St×List (Bool×Bool))→Option (List Bool)
 | some p=>some (p.2.map (·.2))
 | none=>some []
theorem uF (n:Nat) (k:WL C (Rd n T) Q .normal (JD n T S)) (h:vT (Ph n T S)=vU (Ph n T S):=by kernel_rfl):WL C T Q .normal S:=by
 cases hR:Ph n T S with
 | none=>rw [hR] at h; cases h
 | some p=>
  obtain ⟨S1,l⟩:=p
  unfold JD at k
  rw [hR] at k h
  exact Qu n hR (Option.some.inj h) k
theorem Bj (n:Nat) (e:List (Nat×V)) (b:List (Nat×List V)) (k:WL C (JI (Rd n T)) Q .normal ⟨e,b,[]⟩) (hw:IW (Rd n T)=true:=by kernel_rfl) (h:jG (run n T S) ⟨e,b,[]⟩=jS ⟨e,b,[]⟩:=by kernel_rfl):WL C T Q .normal S:=QC n _ k hw h
theorem PZ (n:Nat) (e:List (Nat×V)) (b:List (Nat×List V)) (k:WL C (JI (Rd n T)) Q .normal ⟨e,b,[]⟩) (hw:IW (Rd n T)=true:=by kernel_rfl) (h:jF (Ph n T S) ⟨e,b,[]⟩=jR (Ph n T S) ⟨e,b,[]⟩:=by kernel_rfl):WL C T Q .normal S:=QA n _ k hw h
def jA (t:Nat) (u:V):V→V
 | .own t' off sz es=>if t'=t then u else .own t' off sz es
 | c=>c
theorem map_fix {f g h:V→V} (H:∀c,f c=c→g c=h c):∀cs:List V,cs.map f=cs→cs.map g=cs.map h
 | [],_=>rfl
 | c::r,e=>by
  simp only [List.map_cons,List.cons.injEq] at e ⊢
  exact ⟨H c e.1,map_fix H r e.2⟩
def dK (f:V→V):V→V
 | .agg cs=>.agg (cs.map f)
 | c=>f c
theorem Yo {f g h:V→V} (H:∀c,f c=c→g c=h c) (v:V) (e:dK f v=v):dK g v=dK h v:=by
 cases v with
 | agg cs=>simp only [dK,V.agg.injEq] at e ⊢; exact map_fix H cs e
 | _=>exact H _ e
theorem Sp (f:V→V) (vs:List V):Dq f (.tup vs) = .tup (vs.map (dK f)):=by
 show V.tup (vs.map _)=_
 congr 1
theorem Pd (f:V→V) (b:Bool) (vs:List V):Dq f (.may b (.tup vs)) = .may b (.tup (vs.map (dK f))):=by
 show V.may b (.tup (vs.map _))=_
 congr 2
theorem hP {f g h:V→V} (H:∀c,f c=c→g c=h c) (v:V) (e:Dq f v=v):Dq g v=Dq h v:=by
 cases v with
 | agg cs=>simp only [Dq,V.agg.injEq] at e ⊢; exact map_fix H cs e
 | tup vs=>
  rw [Sp] at e
  rw [Sp,Sp]
  rw [map_fix (Yo H) vs (by simpa using e)]
 | may b w=>
  cases w with
  | agg cs=>simp only [Dq,V.may.injEq,V.agg.injEq,true_and] at e ⊢; exact map_fix H cs e
  | tup vs=>
   rw [Pd] at e
   rw [Pd,Pd]
   rw [map_fix (Yo H) vs (by simpa using e)]
  | _=>simp only [Dq,V.may.injEq,true_and] at e ⊢; exact H _ e
 | _=>exact H _ e
theorem Sn {f g h:V→V} (H:∀c,f c=c→g c=h c):∀l:List (Nat×V),Jl f l=l→Jl g l=Jl h l
 | [],_=>rfl
 | (a,v)::r,e=>by
  simp only [Jl,List.cons.injEq,Prod.mk.injEq,true_and] at e ⊢
  exact ⟨hP H v e.1,Sn H r e.2⟩
theorem Va {f g h:V→V} (H:∀c,f c=c→g c=h c):∀l:List (Nat×List V),Nw f l=l→Nw g l=Nw h l
 | [],_=>rfl
 | (a,cs)::r,e=>by
  simp only [Nw,List.cons.injEq,Prod.mk.injEq,true_and] at e ⊢
  exact ⟨map_fix H cs e.1,Va H r e.2⟩
theorem St.map_fix {f g h:V→V} (H:∀c,f c=c→g c=h c) (S:St) (e:S.map f=S):S.map g=S.map h:=by
 cases S with
 | mk env bx cp=>
  simp only [St.map,St.mk.injEq,and_true] at e ⊢
  exact ⟨Sn H env e.1,Va H bx e.2⟩
theorem tJ {t off sz at_:Nat} {A:List (List V)} {y:List V} (c:V) (e:jA t (.own t off sz A) c=c):Tz t sz at_ [y] c=jA t (.own t off sz (Eh off A at_ [y])) c:=by
 cases c with
 | own t' off' sz' es=>
  simp only [jA,Tz] at e ⊢
  by_cases h:t'=t
  ·rw [if_pos h] at e ⊢
   simp only [V.own.injEq] at e
   obtain ⟨_,rfl,rfl,rfl⟩:=e
   rw [if_pos h,if_pos rfl,h]
  ·rw [if_neg h,if_neg h]
 | _=>rfl
def JF (S:St) (v:Av) (t off sz k:Nat) (A:List (List V)) (y:List V):Bool×Bool×Nat×Bool×Bool×Bool×List V×St:=
 (Sy (S.val v),Ao (Ad (S.val v)),(Ad (S.val v)).cells.length,Nat.ble (k+(Ad (S.val v)).cells.length) sz,(Ad (S.val v)).cells.all (fun c => !Gp c),(Ad (S.val v)).tags.all (· != t),
  Bi y k ((Ad (S.val v)).cells.map Cl),(S.freezes (Ad (S.val v)).tags).map (jA t (.own t off sz A)))
theorem NG {α:Type} {e:α→List V} {l0:List α} {d:Option Nat} {l:List Bg} {x v:Av} {n t sz j k off i:Nat} {y:α} (y':α) (hx:S.val x = .optr t sz j k) (hf:S.find t=some (off,l0.map e)) (hy:l0[i]? = some y)
  (k':OL C l T Q ((((S.freezes (Ad (S.val v)).tags).map (jA t (.own t off sz ((l0.set i y').map e)))).put d .undef)))
  (h:JF S v t off sz k (l0.map e) (e y)=(true,false,n,true,true,true,e y',S.freezes (Ad (S.val v)).tags):=by kernel_rfl) (hj:j=off+i:=by kernel_rfl) (hs:(e y).length=sz:=by kernel_rfl) (hdp:Ax t=false:=by rfl):
  OL C (⟨d,.store x v n,none⟩::l) T Q S:=by
 simp only [JF,Prod.mk.injEq] at h
 obtain ⟨h1,h2,h3,h4,h5,h6,h7,h8⟩:=h
 refine st (NH (y':=y') hx rfl (Is h1) h2 h3 hf hj hy (by rw [←h3]; exact Nat.le_of_ble_eq_true h4) hs h5 h6 h7 ?_ hdp)
 rw [St.map_fix (fun c hc=>tJ c hc) _ h8,Yd]
 exact k'
theorem QB {α:Type} {e:α→List V} {l0:List α} {d:Option Nat} {l:List Bg} {x:Av} {t off sz j k n i:Nat} {ag:Bool} {y:α} (hx:S.val x = .optr t sz j k) (hf:S.find t=some (off,l0.map e)) (hy:l0[i]? = some y)
  (k':OL C l T Q (S.put d ((Hl ag n ((e y).drop k)).getD .undef))) (h:(j,Nat.ble (k+n) sz,(e y).length,(Hl ag n ((e y).drop k)).isSome)=(off+i,true,sz,true):=by kernel_rfl) (hdp:Ax t=false:=by rfl):
  OL C (⟨d,.p (.load x n ag),none⟩::l) T Q S:=by
 simp only [Prod.mk.injEq] at h
 obtain ⟨h1,h2,h3,h4⟩:=h
 cases hv:Hl ag n ((e y).drop k) with
 | none=>rw [hv] at h4; cases h4
 | some v=>
  rw [hv] at k'
  exact st (IY hx hf h1 hy hv (Nat.le_of_ble_eq_true h2) h3 k' hdp)
theorem KM {α:Type} {e:α→List V} {l0:List α} {d:Option Nat} {l:List Bg} {x i:Av} {t off sz:Nat} {q:IntKind} {n:Int} {y:α} (hx:S.val x = .own t off sz (l0.map e)) (hi:S.val i = .int q n) (hy:Dt l0 n=some y)
  (k':OL C l T Q (S.put d (.optr t sz (off+n.toNat) 0))):OL C (⟨d,.p (.idxA x i sz),none⟩::l) T Q S:=st (MY hx hi hy k')
theorem Xb {α:Type} {e:α→List V} {l0:List α} {d:Option Nat} {l:List Bg} {x i:Av} {sz:Nat} {q:IntKind} {n:Int} {y:α} (hx:S.val x = .lst sz (l0.map e)) (hi:S.val i = .int q n) (hy:Dt l0 n=some y)
  (k':OL C l T Q (S.put d (.iptr (e y)))):OL C (⟨d,.p (.idxA x i sz),none⟩::l) T Q S:=st (IV hx hi hy k')
theorem uU {α:Type} {e:α→List V} {l0:List α} {d:Option Nat} {T':List Ew} {x i:Av} {sz:Nat} {q:IntKind} {n:Int} {y:α} (ha:Re T=some (some ⟨d,.p (.idxA x i sz),none⟩,T')) (hx:S.val x = .lst sz (l0.map e)) (hi:S.val i = .int q n) (hy:Dt l0 n=some y)
  (k':WL C T' Q .normal (S.put d (.iptr (e y)))):WL C T Q .normal S:=by
 unfold Re at ha
 split at ha<;>cases ha
 ·exact Ai (Xb hx hi hy k')
 ·exact Cz (Af trivial (IV hx hi hy ⟨trivial,k'⟩))
theorem OK {α:Type} {e:α→List V} {l0:List α} {d:Option Nat} {l:List Bg} {x:Av} {t off sz:Nat} (hx:S.val x = .own t off sz (l0.map e)) (k':OL C l T Q (S.put d (.int .i64 (l0.length:Int)))) (hz:sz≠0:=by decide):OL C (⟨d,.p (.len x),none⟩::l) T Q S:=st (NA hx k' hz)
theorem Mc {α:Type} {e:α→List V} {l0:List α} {d:Option Nat} {l:List Bg} {x:Av} {sz:Nat} (hx:S.val x = .lst sz (l0.map e)) (k':OL C l T Q (S.put d (.int .i64 (l0.length:Int)))) (hz:sz≠0:=by decide):OL C (⟨d,.p (.len x),none⟩::l) T Q S:=st (MZ hx k' hz)
theorem PW {d:Option Nat} {l:List Bg} {f:Nat} {as:List Av} (LB LR LM:List Nat) {g:Lz} {t:Dj} (H:C f g t) (h3:t.flat=true) (k:OL C l T Q (((S.after (as.map fun x=>Ad (S.val x)) (d.getD 0) false LB LR LM t).put d (Dq (Ep (d.getD 0) (t.bx.length-LB.length) LB LR) t.r))))
  (h:(Kh S as,Kg (fun v => !Ao v) (as.map fun x=>Ad (S.val x)),S.give (as.map fun x=>Ad (S.val x)) LB LR LM false,(Bq LB&&Bq (LR++LM)&&Mv As LM&&LB.all (fun T=>(look S.bx T).isSome)),
   (Mv 33 [t.bx.length-LB.length,LM.length,LR.length]&&Ik (t.newB (d.getD 0) LB.length) LB&&Ik (t.newR (d.getD 0)) LR))=(true,true,g,true,true):=by kernel_rfl):OL C (⟨d,.call f as,none⟩::l) T Q S:=by
 simp only [Prod.mk.injEq] at h
 obtain ⟨a1,a2,a3,a4,a5⟩:=h
 exact st (EV LB LR LM false H (Ii a1) a2 a3 a4 a5 (fun _=>h3) k)
theorem o_ {l:List Bg} (k:WL C (.c (.reg l)::T) Q .normal S):OL C l T Q S:=k
theorem d_ {p:DP} (k:WL C (.c (.draw p)::T) Q .normal S):WD C p [] (WL C T Q .normal) S:=k
end Go.Ev
