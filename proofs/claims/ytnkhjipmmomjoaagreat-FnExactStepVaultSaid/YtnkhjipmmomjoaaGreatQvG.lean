/- Many instructions at once: what can be reckoned is reckoned by the kernel. -/
import Derived.Test.YtnkhjipmmomjoaaGreatQvM
set_option linter.all false
namespace Go.Ev
def aW:V→Bool
 | .may _ _=>false
 | _=>true
theorem Mq {v:V} (h:aW v=true):Bh true v:=by cases v<;>first | trivial | cases h
def eP (S:St) (n:Nat):List (Nat×Nat×Ck)→Bool
 | []=>true
 | p::r=>match Cg (Av (S.val p.2.2)) with
  | true=>false
  | false=>match Nat.beq (Av (S.val p.2.2)).cells.length p.2.1 with
   | true=>match Nat.ble (p.1+p.2.1) n with
    | true=>eP S n r
    | false=>false
   | false=>false
theorem cO {S:St} {n:Nat}:∀ {l:List (Nat×Nat×Ck)},eP S n l=true→Ct (fun p=>Cg (Av (S.val p.2.2))=false∧(Av (S.val p.2.2)).cells.length=p.2.1∧p.1+p.2.1≤n) l
 | [],_=>trivial
 | p::r,h=>by
  unfold eP at h
  split at h
  ·cases h
  ·rename_i h1
   split at h
   ·rename_i h2
    split at h
    ·rename_i h3
     exact ⟨⟨h1,Nat.eq_of_beq_eq_true h2,Nat.le_of_ble_eq_true h3⟩,cO h⟩
    ·cases h
   ·cases h
def Rg (S:St):PU→Bool
 | .mv _ | .un _ _ | .conv _ _ | .binB _ _ _ | .eqs _ _ _ _ | .lenS _ | .strc _ | .ext _ _ | .nilc _ | .xbyte _ _ | .mget _ _=>true
 | .bin op x _=>match op with
  | .eql | .neq | .lss | .leq | .gtr | .geq=>true
  | .sub | .mul | .and | .or | .xor | .andNot=>true
  | .add=>match Av (S.val x) with
   | .int _ _=>true
   | _=>false
  | _=>false
 | .mn x y | .mx x y=>match Av (S.val x),Av (S.val y) with
  | .int k _,.int k' _=>decide (k=k')
  | _,_=>false
 | .load x n _=>match Av (S.val x) with
  | .ptr t k=>match look S.bx t with
   | some cs=>Nat.ble (k+n) cs.length
   | none=>false
  | .iptr cs=>Nat.ble n cs.length
  | _=>false
 | .fieldA x off=>match Av (S.val x) with
  | .ptr _ _ | .optr _ _ _ _=>true
  | .iptr cs=>Nat.ble off cs.length
  | _=>false
 | .field x off n _=>match Av (S.val x) with
  | .agg cs=>Nat.ble (off+n) cs.length
  | _=>false
 | .len x=>match Av (S.val x) with
  | .lst (_+1) _ | .own _ _ (_+1) _=>true
  | _=>false
 | .build zero ps=>eP S zero.length ps
 | .fn _ caps=>Rx (caps.map fun x=>Av (S.val x))
 | _=>false
theorem gK {S:St} {o:PU} {φ:Prop} {v:V} (h:Rg S o=true) (h2:pu S (fun x=>Av (S.val x)) o=some (φ,v)):φ:=by
 cases o with
 | mv x=>simp only [pu,Option.some.injEq,Prod.mk.injEq] at h2; rw [←h2.1]; trivial
 | bin op x y=>
  simp only [pu] at h2
  split at h2
  ·split at h2
   ·cases h
   ·cases h
   ·split at h2
    ·unfold fW at h2
     split at h2<;>first | (cases h; done) | (cases h2; trivial) | (cases h2)
    ·cases h2
  ·rename_i hx hy
   unfold gT at h2
   split at h2<;>first | (cases h2; trivial) | skip
   ·simp only [Rg,hx] at h; cases h
   ·cases h2
  ·cases h2
 | binB op x y=>
  simp only [pu] at h2
  split at h2
  ·split at h2<;>first | (cases h2; trivial) | cases h2
  ·cases h2
 | eqs ne ks x y=>
  simp only [pu] at h2
  split at h2
  ·split at h2<;>first | (cases h2; trivial) | cases h2
  ·cases h2
 | un op x=>
  simp only [pu] at h2
  split at h2<;>first | (cases h2; trivial) | cases h2
 | conv k x=>
  simp only [pu] at h2
  split at h2<;>first | (cases h2; trivial) | cases h2
 | lenS x=>
  simp only [pu] at h2
  split at h2<;>first | (cases h2; trivial) | cases h2
 | strc x=>
  simp only [pu] at h2
  split at h2<;>first | (cases h2; trivial) | cases h2
 | ext x i=>
  simp only [pu] at h2
  split at h2
  ·split at h2<;>first | (cases h2; trivial) | cases h2
  ·cases h2
 | nilc x=>
  simp only [pu] at h2
  split at h2<;>first | (cases h2; trivial) | cases h2
 | xbyte x y=>
  simp only [pu] at h2
  split at h2<;>first | (cases h2; trivial) | cases h2
 | mget x y=>
  simp only [pu] at h2
  split at h2<;>first | (cases h2; trivial) | cases h2
 | mn x y=>
  simp only [pu] at h2
  split at h2
  ·rename_i hx hy
   simp only [Rg,hx,hy] at h
   cases h2; exact of_decide_eq_true h
  ·cases h2
 | mx x y=>
  simp only [pu] at h2
  split at h2
  ·rename_i hx hy
   simp only [Rg,hx,hy] at h
   cases h2; exact of_decide_eq_true h
  ·cases h2
 | load x n ag=>
  simp only [pu] at h2
  split at h2
  ·rename_i hx
   split at h2
   ·rename_i hl
    split at h2
    ·simp only [Rg,hx,hl] at h
     cases h2; exact Nat.le_of_ble_eq_true h
    ·cases h2
   ·cases h2
  ·rename_i hx
   split at h2
   ·simp only [Rg,hx] at h
    cases h2; exact Nat.le_of_ble_eq_true h
   ·cases h2
  ·rename_i hx
   simp only [Rg,hx] at h; cases h
  ·cases h2
 | fieldA x off=>
  simp only [pu] at h2
  split at h2
  ·cases h2; trivial
  ·rename_i hx
   simp only [Rg,hx] at h
   cases h2; exact Nat.le_of_ble_eq_true h
  ·cases h2; trivial
  ·cases h2
 | field x off n ag=>
  simp only [pu] at h2
  split at h2
  ·rename_i hx
   split at h2
   ·simp only [Rg,hx] at h
    cases h2; exact Nat.le_of_ble_eq_true h
   ·cases h2
  ·cases h2
 | len x=>
  simp only [pu] at h2
  split at h2
  ·rename_i s es hx
   simp only [Rg,hx] at h
   cases h2
   cases s with
   | zero=>cases h
   | succ n=>exact Nat.succ_ne_zero n
  ·rename_i s es hx
   simp only [Rg,hx] at h
   cases h2
   cases s with
   | zero=>cases h
   | succ n=>exact Nat.succ_ne_zero n
  ·cases h2
 | fn f caps=>simp only [pu,Option.some.injEq,Prod.mk.injEq] at h2; rw [←h2.1]; exact h
 | build zero ps=>simp only [pu,Option.some.injEq,Prod.mk.injEq] at h2; rw [←h2.1]; exact cO h
 | _=>cases h
def Nu (S:St):List Ck→Bool
 | []=>true
 | x::r=>match aW (S.val x) with
  | true=>Nu S r
  | false=>false
theorem Kh {S:St}:∀ {l:List Ck},Nu S l=true→Ct (fun x=>Bh true (S.val x)) l
 | [],_=>trivial
 | x::r,h=>by
  unfold Nu at h
  split at h
  ·rename_i hp; exact ⟨Mq hp,Kh h⟩
  ·cases h
def pK (sz len:Nat):List (Nat×V)→Bool
 | []=>true
 | p::r=>match Nat.blt p.1 len with
  | true=>match Nat.beq p.2.cells.length sz with
   | true=>match p.2.cells.all (fun c => !Jp c) with
    | true=>pK sz len r
    | false=>false
   | false=>false
  | false=>false
theorem jU {sz len:Nat}:∀ {l:List (Nat×V)},pK sz len l=true→Ct (fun p=>p.1<len∧p.2.cells.length=sz∧p.2.cells.all (fun c => !Jp c)=true) l
 | [],_=>trivial
 | p::r,h=>by
  unfold pK at h
  split at h
  ·rename_i h1
   split at h
   ·rename_i h2
    split at h
    ·rename_i h3
     exact ⟨⟨Nat.le_of_ble_eq_true h1,Nat.eq_of_beq_eq_true h2,h3⟩,jU h⟩
    ·cases h
   ·cases h
  ·cases h
theorem EC {S:St}:∀ {l:List (Nat×Ck)},Nu S (l.map (·.2))=true→Ct (fun p=>nm S p.2) l
 | [],_=>trivial
 | p::r,h=>by
  unfold List.map Nu at h
  split at h
  ·rename_i hp; exact ⟨Mq hp,EC h⟩
  ·cases h
def q1 (i:Cd) (S:St):Option St:=
 match i with
 | ⟨d,.p o,none⟩=>match Nu S o.opds with
  | true=>match Rg S o with
   | true=>match pu S (fun x=>Av (S.val x)) o with
    | some (_,v)=>some (S.putC d v (Iz (fun x=>Av (S.val x)) o))
    | none=>none
   | false=>none
  | false=>none
 | ⟨some d,.box x,none⟩=>match aW ((S.drop (64*d)).val x) with
  | true=>match Cg (Av ((S.drop (64*d)).val x)) with
   | true=>none
   | false=>some (((S.drop (64*d)).setBx (64*d) (Av ((S.drop (64*d)).val x)).cells).put (some d) (.ptr (64*d) 0))
  | false=>none
 | ⟨some d,.alloc z,none⟩=>some (((S.drop (64*d)).setBx (64*d) z).put (some d) (.ptr (64*d) 0))
 | ⟨some d,.nilS sz,none⟩=>some ((S.drop (64*d)).put (some d) (.own (64*d) 0 sz []))
 | ⟨d,.store x v n,none⟩=>match S.val x with
  | .ptr t k=>match aW (S.val v) with
   | true=>match Cg (Av (S.val v)) with
    | true=>none
    | false=>match Nat.beq (Av (S.val v)).cells.length n with
     | true=>match look S.bx t with
      | some bs=>match Nat.ble (k+n) bs.length with
       | true=>some ((S.setBx t (Dl bs k (Av (S.val v)).cells)).put d .undef)
       | false=>none
      | none=>none
     | false=>none
   | false=>none
  | _=>none
 | ⟨some d,.mkS sz zero len parts,none⟩=>match Nu S (parts.map (·.2)) with
  | true=>match pK sz len (parts.map fun p=>(p.1,Av (S.val p.2))) with
   | true=>some (((S.freezes (Jh (parts.map fun p=>(p.1,Av (S.val p.2))))).drop (64*d)).put (some d)
    (.own (64*d) 0 sz (Ko sz (List.replicate len zero) ((parts.map fun p=>(p.1,Av (S.val p.2))).map fun p=>(p.1,p.2.cells.map Fc)))))
   | false=>none
  | false=>none
 | _=>none
theorem EQ {C:Bj} {i:Cd} {S S':St} {K:St→Prop} (h:q1 i S=some S') (k:K S'):Di C i S K:=by
 unfold q1 at h
 split at h
 ·split at h
  ·rename_i h1
   split at h
   ·rename_i h2
    split at h
    ·rename_i h3
     cases h
     exact p_ (Kh h1) h3 (gK h2 h3) k
    ·cases h
   ·cases h
  ·cases h
 ·split at h
  ·rename_i h1
   split at h
   ·cases h
   ·rename_i h2
    cases h
    exact box_ rfl (Mq h1) h2 k
  ·cases h
 ·cases h; exact Ce k
 ·cases h; exact dU k
 ·split at h
  ·rename_i hx
   split at h
   ·rename_i h1
    split at h
    ·cases h
    ·rename_i h2
     split at h
     ·rename_i h3
      split at h
      ·rename_i h4
       split at h
       ·rename_i h5
        cases h
        exact Cl hx rfl (Mq h1) h2 (Nat.eq_of_beq_eq_true h3) h4 (Nat.le_of_ble_eq_true h5) k
       ·cases h
      ·cases h
     ·cases h
   ·cases h
  ·cases h
 ·split at h
  ·rename_i h1
   split at h
   ·rename_i h2
    cases h
    exact gB (EC h1) (jU h2) k
   ·cases h
  ·cases h
 ·cases h
theorem aZ {i:Cd} {S S':St} (h:q1 i S=some S'):Dn i S:=by
 unfold Dn
 split
 ·rename_i o x n ag hop
  split
  ·rename_i hx
   unfold q1 at h
   split at h
   ·rename_i d o' g
    cases hop
    split at h
    ·split at h
     ·rename_i hp
      simp only [Rg,hx] at hp
      cases hp
     ·cases h
    ·cases h
   all_goals first | cases hop | (cases h)
  ·trivial
 ·trivial
def Uy:List Hg→Option (Option Cd×List Hg)
 | .c .skip::T=>some (none,T)
 | .c (.seq a b)::T=>some (none,.c a :: .w :: .c b::T)
 | .c (.reg [])::T=>some (none,T)
 | .c (.reg (i::l))::T=>some (some i,.c (.reg l)::T)
 | .c (.block id a)::T=>some (none,.c a :: .b id::T)
 | .c (.draw .fin)::T=>some (none,T)
 | .c (.draw (.take i p))::T=>some (some i,.c (.draw p)::T)
 | .w::T=>some (none,T)
 | .b _::T=>some (none,T)
 | _=>none
def Xc:Nat→List Hg→List Hg
 | 0,T=>T
 | n+1,T=>match Uy T with
  | some (_,T')=>Xc n T'
  | none=>T
def run:Nat→List Hg→St→Option St
 | 0,_,S=>some S
 | n+1,T,S=>match Uy T with
  | some (none,T')=>run n T' S
  | some (some i,T')=>match q1 i S with
   | some S'=>run n T' S'
   | none=>none
  | none=>none
variable {C:Bj} {Q:Ex→St→Prop} {S:St} {T:List Hg}
theorem cM {T':List Hg} (h:Uy T=some (none,T')) (k:WL C T' Q .normal S):WL C T Q .normal S:=by
 unfold Uy at h
 split at h<;>cases h
 ·exact Lc k
 ·exact Bt k
 ·exact k
 ·exact Cc k
 ·exact k
 ·exact eF k
 ·exact Su k
theorem qA {i:Cd} {T':List Hg} {S':St} (h:Uy T=some (some i,T')) (hq:q1 i S=some S') (k:WL C T' Q .normal S'):WL C T Q .normal S:=by
 unfold Uy at h
 split at h<;>cases h
 ·exact As (st (EQ hq k))
 ·exact Bd (Ak (aZ hq) (EQ hq ⟨trivial,k⟩))
theorem dF:∀(n:Nat) {T:List Hg} {S S':St},run n T S=some S'→WL C (Xc n T) Q .normal S'→WL C T Q .normal S
 | 0,T,S,S',h,k=>by cases h; exact k
 | n+1,T,S,S',h,k=>by
  unfold run at h
  unfold Xc at k
  split at h
  ·rename_i h1
   rw [h1] at k
   exact cM h1 (dF n h k)
  ·rename_i h1
   split at h
   ·rename_i h2
    rw [h1] at k
    exact qA h1 h2 (dF n h k)
   ·cases h
  ·cases h
def tlW:List Hg→List Hg
 | .w::T=>T
 | T=>T
def isW:List Hg→Bool
 | .w::_=>true
 | _=>false
def pM (o:Option St) (S':St):Option (List (Option V)×List (Option (List V))×List (Nat×Int)):=o.map fun S=>(S'.env.map (fun p=>look S.env p.1),S'.bx.map (fun p=>look S.bx p.1),S'.cp)
def pU (S':St):Option (List (Option V)×List (Option (List V))×List (Nat×Int)):=some (S'.env.map (fun p=>some p.2),S'.bx.map (fun p=>some p.2),[])
theorem rz_ (n:Nat) (ts:List Nat) (rs:List (Nat×Nat)) (S':St) (k:WL C (tlW (Xc n T)) Q .normal S')
  (hw:isW (Xc n T)=true:=by kernel_rfl) (hr:nG rs=true:=by kernel_rfl) (h:pM ((run n T S).map fun S=>(S.freezes ts).swaps rs) S'=pU S':=by kernel_rfl):WL C T Q .normal S:=by
 cases hR:run n T S with
 | none=>rw [hR] at h; cases h
 | some S1=>
  rw [hR] at h
  refine dF n hR ?_
  cases hT:Xc n T with
  | nil=>rw [hT] at hw; cases hw
  | cons x T'=>
   rw [hT] at hw k
   cases x with
   | w=>exact Dc S' ((Fg.fz _ ts).trans ((Fg.sw _ rs hr).trans (.le (iB.le (Option.some.inj h))))) k
   | c a=>cases hw
   | b id=>cases hw
theorem rk_ (n:Nat) (S':St) (k:WL C (tlW (Xc n T)) Q .normal S') (hw:isW (Xc n T)=true:=by kernel_rfl) (h:pM (run n T S) S'=pU S':=by kernel_rfl):WL C T Q .normal S:=
 rz_ n [] [] S' k hw rfl (by cases hR:run n T S with | none=>rw [hR] at h; cases h | some S1=>rw [hR] at h; exact h)
def runD (n:Nat) (T:List Hg) (S:St):St:=(run n T S).getD S
theorem Ax (n:Nat) (k:WL C (Xc n T) Q .normal (runD n T S)) (h:(run n T S).isSome=true:=by kernel_rfl):WL C T Q .normal S:=by
 cases hR:run n T S with
 | none=>rw [hR] at h; cases h
 | some S1=>
  refine dF n hR ?_
  unfold runD at k
  rw [hR] at k
  exact k
def pG:Nat→List Hg→Bool
 | 0,_=>true
 | n+1,T=>match Uy T with
  | some (none,T')=>pG n T'
  | _=>false
theorem dV:∀(n:Nat) {T:List Hg},pG n T=true→run n T S=some S
 | 0,_,_=>rfl
 | n+1,T,h=>by
  unfold pG at h
  unfold run
  split at h
  ·rename_i h1
   rw [h1]
   exact dV n h
  ·cases h
theorem Lr (n:Nat) (k:WL C (Xc n T) Q .normal S) (h:pG n T=true:=by kernel_rfl):WL C T Q .normal S:=dF n (dV n h) k
def retE (o:Option St) (res:List cL) (nb:Nat):Option (Bool×V×List (List V)):=
 match o with
 | none=>none
 | some S=>match EU S res with
  | none=>none
  | some v=>match Nf S (Wu nb++Ff v.flat) with
   | none=>none
   | some css=>some (Pl 65 [(Im (v.flat++css.flatten)).length,(Ff v.flat).length],Gd (Uo (Im (v.flat++css.flatten)) (Ff v.flat)) v,Pm (Uo (Im (v.flat++css.flatten)) (Ff v.flat)) css)
def DJ:List Hg→Bool
 | .c .ret::_=>true
 | _=>false
theorem Wv {res:List cL} {nb:Nat} {t:Fk} (n:Nat) (hQ:∀S',FQ res nb t .ret S'→Q .ret S') (ts:List Nat:=[]) (h6:t.rw=[]:=by exact rfl) (hr:DJ (Xc n T)=true:=by kernel_rfl)
  (h:retE ((run n T S).map fun S=>S.freezes ts) res nb=some (true,t.r,t.bx):=by kernel_rfl):WL C T Q .normal S:=by
 cases hR:run n T S with
 | none=>rw [hR] at h; cases h
 | some S1=>
  rw [hR] at h
  refine dF n hR ?_
  cases hT:Xc n T with
  | nil=>rw [hT] at hr; cases hr
  | cons x T'=>
   rw [hT] at hr
   unfold DJ at hr
   split at hr
   ·rename_i e
    cases e
    refine Ka (hQ _ ?_)
    refine bE (Fg.fz _ ts) ?_
    unfold retE at h
    split at h
    ·cases h
    ·rename_i S2 e2
     obtain rfl:=Option.some.inj e2
     split at h
     ·cases h
     ·rename_i h1
      split at h
      ·cases h
      ·rename_i h2
       simp only [Option.some.injEq,Prod.mk.injEq] at h
       exact Dx h1 h2 h.1 h.2.1 h.2.2 (by rw [h6]; trivial)
   ·cases hr
theorem Cn {res:List cL} {nb:Nat} {t:Fk} (n:Nat) (ts:List Nat:=[]) (h6:t.rw=[]:=by exact rfl) (hr:DJ (Xc n T)=true:=by kernel_rfl)
  (h:retE ((run n T S).map fun S=>S.freezes ts) res nb=some (true,t.r,t.bx):=by kernel_rfl):WL C T (FQ res nb t) .normal S:=Wv n (fun _ h=>h) ts h6 hr h
theorem bb {α β:Type} {o:Option α} {f:α→Option β} {r:β} {P:Prop} (h:o.bind f=some r) (k:∀x,o=some x→f x=some r→P):P:=by
 obtain ⟨x,h1,h2⟩:=bnd h
 exact k x h1 h2
theorem bv {α β:Type} {e:α} {f:α→Option β} {r:β} {P:Prop} (h:Bx e f=some r) (k:∀x,x=e→f x=some r→P):P:=k e rfl h
theorem gg {α:Type} {c:Prop} [Decidable c] {a:Option α} {r:α} {P:Prop} (h:(if c then a else none)=some r) (k:c→a=some r→P):P:=k (grd h).1 (grd h).2
theorem kn {σ ρ:Type} {K:Ex→St→Prop} {st:σ→St→Prop} {o:σ⊕ρ} {s':σ} {S' S'':St} (hK:∀s',o = .inl s'→∀S' S'',Fg S' S''→st s' S''→K .normal S') (h1:o = .inl s') (h2:st s' S'')
  (h:(S''.env.map (fun p=>look S'.env p.1),S''.bx.map (fun p=>look S'.bx p.1),S''.cp)=(S''.env.map (fun p=>some p.2),S''.bx.map (fun p=>some p.2),([]:List (Nat×Int))):=by kernel_rfl):K .normal S':=hK _ h1 _ _ (Dw h) h2
def oU (S:St) (j:Cd):Option (Option V):=
 match j with
 | ⟨some _,.p o,none⟩=>match Nu S o.opds with
  | true=>match Rg S o with
   | true=>match pu S (fun x=>Av (S.val x)) o with
    | some (_,v)=>some (some v)
    | none=>none
   | false=>none
  | false=>none
 | _=>none
def Zz (S:St) (j:Cd):Option (Option V):=
 match j with
 | ⟨some d,.p _,none⟩=>some (look S.env d)
 | _=>some none
theorem held1 {C:Bj} {X:List Cd} {S:St} {j:Cd} (h:oU S j=Zz S j) (hc:S.cp=[]):(Dn j S∨j∈X)∧Di C j S (fun S'=>Xb S' S):=by
 unfold oU at h
 split at h
 ·rename_i d o
  split at h
  ·rename_i h1
   split at h
   ·rename_i h2
    split at h
    ·rename_i h3
     have h4:some _=look S.env d:=Option.some.inj h
     refine ⟨.inl ?_,?_⟩
     ·exact aZ (S':=S.putC (some d) _ (Iz (fun x=>Av (S.val x)) o)) (by simp only [q1,h1,h2,h3]; rfl)
     ·exact Bs ⟨Kh h1,_,h3,gK h2 h3⟩ h4.symm hc
    ·simp only [Zz] at h; cases h
   ·simp only [Zz] at h; cases h
  ·simp only [Zz] at h; cases h
 ·unfold Zz at h
  split at h
  ·cases h
  ·cases h
theorem oT {C:Bj} {X:List Cd} {S:St} (hc:S.cp=[]):∀ {l:List Cd},l.map (oU S)=l.map (Zz S)→Ii C X l S
 | [],_=>trivial
 | j::r,h=>by
  simp only [List.map_cons,List.cons.injEq] at h
  exact ⟨held1 h.1 hc,oT hc h.2⟩
theorem hB {C:Bj} {X l:List Cd} {S:St} (h:(l.map (oU S),S.cp)=(l.map (Zz S),[]):=by kernel_rfl):Ii C X l S:=by
 simp only [Prod.mk.injEq] at h
 exact oT h.2 h.1
theorem d0 {C:Bj} {K:St→Prop} {S:St} {held:List Cd} {r:DP} (hh:Ii C [] held S) (k:WD C r [] K S):∃S1,Fg S S1∧∃X',Ii C X' held S1∧Fb C X' S1∧WD C r X' K S1:=⟨S,Fg.refl S,[],hh,trivial,k⟩
theorem dw {C:Bj} {K:St→Prop} {S:St} {held:List Cd} {r:DP} (e:List (Nat×V)) (b:List (Nat×List V)) (hh:Ii C [] held ⟨e,b,[]⟩) (k:WD C r [] K ⟨e,b,[]⟩)
  (h:(e.map (fun p=>look S.env p.1),b.map (fun p=>look S.bx p.1))=(e.map (fun p=>some p.2),b.map (fun p=>some p.2)):=by kernel_rfl):∃S1,Fg S S1∧∃X',Ii C X' held S1∧Fb C X' S1∧WD C r X' K S1:=
 ⟨⟨e,b,[]⟩,Dw (by simp only [Prod.mk.injEq] at h ⊢; exact ⟨h.1,h.2,trivial⟩),[],hh,trivial,k⟩
theorem Gh {C:Bj} {K:St→Prop} {S:St} {held X:List Cd} {p rest:DP} {d:Option Nat} {f:Nat} {as:List Ck} {gv:List V} {r:V} (H:C f ⟨gv,[]⟩ ⟨r,[],[]⟩) (h3:r.flat.all Ir=true)
  (k:∃S1,Fg ((S.drops (Ob (d.getD 0) (Hm r.flat))).put d (Gd (Gw (d.getD 0) 0 [] []) r)) S1∧∃X',Ii C X' held S1∧Fb C X' S1∧WD C p X' K S1) (k2:WD C rest X K S)
  (h:(Nu S as,Of (fun v => !Cg v) (as.map fun x=>Av (S.val x)),(as.map fun x=>Av (S.val x)).map (mapW (S.liftC [] [] [] false)))=(true,true,gv):=by kernel_rfl):WD C (.alt held ⟨d,.call f as,none⟩ p rest) X K S:=by
 simp only [Prod.mk.injEq] at h
 exact Az (Ci false H (Kh h.1) h.2.1 h.2.2 (fun _=>h3) k) k2
theorem ar {a b:Bool} (h:b=true) (ha:a=true:=by exact rfl):(a&&b)=true:=At ha h
theorem af {α:Type} {e:α→List V} {xs:List α} {t off sz:Nat} {b:Bool} (h:b=true) (h1:∀x,(e x).all bH=true:=by exact fun _=>rfl):(Ir (.own t off sz (xs.map e))&&b)=true:=At (fl1 h1) h
theorem jn {R G:St→Prop} {S' S1:St} (hJ:∀S S1,Fg S S1→R S1→G S) (h1:R S1)
  (h:(S1.env.map (fun p=>look S'.env p.1),S1.bx.map (fun p=>look S'.bx p.1),S1.cp)=(S1.env.map (fun p=>some p.2),S1.bx.map (fun p=>some p.2),([]:List (Nat×Int))):=by kernel_rfl):G S':=hJ _ _ (Dw h) h1
theorem Ch {α:Type} {c:Ck} {a b:IR} {cb:Bool} {x y r:α} (h0:(if cb=true then x else y)=r) (k1:cb=true→x=r→WL C (.c a::T) Q .normal S) (k2:cb=false→y=r→WL C (.c b::T) Q .normal S)
  (hc:S.val c = .bool cb:=by kernel_rfl):WL C (.c (.ite c a b)::T) Q .normal S:=Vq hc (fun h=>k1 h (ip h h0)) (fun h=>k2 h (aB h h0))
def BN (S:St) (as:List Ck):Bool×Bool×List V:=(Nu S as,Of (fun v => !Cg v) (as.map fun x=>Av (S.val x)),(as.map fun x=>Av (S.val x)).map (mapW (S.liftC [] [] [] false)))
theorem Qf {d:Option Nat} {l:List Cd} {f:Nat} {as:List Ck} {gv:List V} {r:V} (H:C f ⟨gv,[]⟩ ⟨r,[],[]⟩) (h3:r.flat.all Ir=true)
  (k:OL C l T Q ((S.drops (Ob (d.getD 0) (Hm r.flat))).put d (Gd (Gw (d.getD 0) 0 [] []) r))) (h:BN S as=(true,true,gv):=by kernel_rfl):OL C (⟨d,.call f as,none⟩::l) T Q S:=by
 simp only [BN,Prod.mk.injEq] at h
 exact st (Ci false H (Kh h.1) h.2.1 h.2.2 (fun _=>h3) k)
theorem Jj {d:Option Nat} {l:List Cd} {f:Nat} {as:List Ck} {gv:List V} {r:V} (H:C f ⟨gv,[]⟩ ⟨r,[],[]⟩)
  (k:OL C l T Q ((S.drops (Ob (d.getD 0) (Hm r.flat))).put d (Gd (Gw (d.getD 0) 0 [] []) r))) (h:BN S as=(true,true,gv):=by kernel_rfl) (h3:r.flat.all Ir=true:=by kernel_rfl):OL C (⟨d,.call f as,none⟩::l) T Q S:=Qf H h3 k h
def jG (S:St) (g:Bool):List Ck→List (Bool×Bool)
 | []=>[]
 | x::r=>match S.val x with
  | .may b _=>(b,g)::jG S g r
  | _=>jG S g r
def mayP (b:Bool):V→List (Bool×Bool)
 | .may c _=>[(c,b)]
 | _=>[]
abbrev Ns (l:List (Bool×Bool)):Prop:=l.map (·.1)=l.map (·.2)
theorem aP {S:St} {g:Bool} (hg:g=true):∀ {l:List Ck},Ns (jG S g l)→Ct (fun x=>Bh true (S.val x)) l
 | [],_=>trivial
 | x::r,h=>by
  unfold jG at h
  split at h
  ·rename_i hx
   simp only [Ns,List.map_cons,List.cons.injEq] at h
   refine ⟨?_,aP hg h.2⟩
   show Bh true (S.val x)
   rw [hx]
   exact fun _=>by rw [h.1]; exact hg
  ·rename_i hx
   refine ⟨?_,aP hg h⟩
   show Bh true (S.val x)
   cases hv:S.val x<;>first | trivial | exact absurd hv (hx _ _)
theorem pA {b c:Bool} {v:V} (h:Ns (mayP b v)) (hb:c=true→b=true):Bh c v:=by
 cases v with
 | may x y=>
  simp only [Ns,mayP,List.map_cons,List.map_nil,List.cons.injEq,and_true] at h
  exact fun hc=>by rw [h]; exact hb hc
 | _=>trivial
def q2 (i:Cd) (S:St):Option (St×List (Bool×Bool)):=
 match i with
 | ⟨d,.p o,some (gs,want)⟩=>match Nc (S.val (.t gs)) want with
  | some g=>match Rg S o with
   | true=>match pu S (fun x=>Av (S.val x)) o with
    | some (_,v)=>some (S.put d (.may g v),jG S g o.opds)
    | none=>none
   | false=>none
  | none=>none
 | ⟨d,.pick c a b,none⟩=>match S.val c with
  | .bool cb=>some (S.put d (Pv cb (Av (S.val a)) (Av (S.val b))),mayP (cb==true) (S.val a)++mayP (cb==false) (S.val b))
  | _=>none
 | i=>match q1 i S with
  | some S'=>some (S',[])
  | none=>none
theorem eG {a b:List (Bool×Bool)} (h:Ns (a++b)):Ns a:=by
 simp only [Ns,List.map_append] at h
 exact (List.append_inj h (by simp)).1
theorem nR {a b:List (Bool×Bool)} (h:Ns (a++b)):Ns b:=by
 simp only [Ns,List.map_append] at h
 exact (List.append_inj h (by simp)).2
theorem q2_ok {C:Bj} {i:Cd} {S S':St} {l:List (Bool×Bool)} {K:St→Prop} (h:q2 i S=some (S',l)) (hl:Ns l) (k:K S'):Di C i S K:=by
 unfold q2 at h
 split at h
 ·split at h
  ·rename_i hg
   split at h
   ·rename_i h2
    split at h
    ·rename_i h3
     cases h
     exact Bv hg (fun e=>⟨aP e hl,_,h3,gK h2 h3⟩) k
    ·cases h
   ·cases h
  ·cases h
 ·split at h
  ·rename_i hc
   cases h
   exact Dh hc rfl rfl (pA (eG hl) fun e=>by rw [e]; rfl) (pA (nR hl) fun e=>Uw e) rfl k
  ·cases h
 ·split at h
  ·rename_i h1
   cases h
   exact EQ h1 k
  ·cases h
theorem ER {i:Cd} {S S':St} {l:List (Bool×Bool)} (h:q2 i S=some (S',l)):Dn i S:=by
 unfold q2 at h
 split at h
 ·rename_i d o gs want
  unfold Dn
  split
  ·rename_i x n ag hop
   split
   ·rename_i hx
    cases hop
    split at h
    ·split at h
     ·rename_i hp
      simp only [Rg,hx] at hp
      cases hp
     ·cases h
    ·cases h
   ·trivial
  ·trivial
 ·trivial
 ·split at h
  ·rename_i h1
   exact aZ h1
  ·cases h
def Vy:Nat→List Hg→St→Option (St×List (Bool×Bool))
 | 0,_,S=>some (S,[])
 | n+1,T,S=>match Uy T with
  | some (none,T')=>Vy n T' S
  | some (some i,T')=>match q2 i S with
   | some (S',l)=>match Vy n T' S' with
    | some (S2,l2)=>some (S2,l++l2)
    | none=>none
   | none=>none
  | none=>none
theorem Yn:∀(n:Nat) {T:List Hg} {S S':St} {l:List (Bool×Bool)},Vy n T S=some (S',l)→Ns l→WL C (Xc n T) Q .normal S'→WL C T Q .normal S
 | 0,T,S,S',l,h,_,k=>by cases h; exact k
 | n+1,T,S,S',l,h,hl,k=>by
  unfold Vy at h
  unfold Xc at k
  split at h
  ·rename_i h1
   rw [h1] at k
   exact cM h1 (Yn n h hl k)
  ·rename_i i T' h1
   split at h
   ·rename_i S1 l1 h2
    rw [h1] at k
    split at h
    ·rename_i h3
     cases h
     have kk:=Yn n h3 (nR hl) k
     unfold Uy at h1
     split at h1<;>cases h1
     ·exact As (st (q2_ok h2 (eG hl) kk))
     ·exact Bd (Ak (ER h2) (q2_ok h2 (eG hl) ⟨trivial,kk⟩))
    ·cases h
   ·cases h
  ·cases h
def FA (o:Option (St×List (Bool×Bool))) (S':St):Option ((List (Option V)×List (Option (List V))×List (Nat×Int))×List Bool):=o.map fun p=>((S'.env.map (fun q=>look p.1.env q.1),S'.bx.map (fun q=>look p.1.bx q.1),S'.cp),p.2.map (·.1))
def FI (o:Option (St×List (Bool×Bool))) (S':St):Option ((List (Option V)×List (Option (List V))×List (Nat×Int))×List Bool):=match o with
 | some p=>some ((S'.env.map (fun p=>some p.2),S'.bx.map (fun p=>some p.2),[]),p.2.map (·.2))
 | none=>some (([],[],[]),[])
theorem gk_ (n:Nat) (S':St) (k:WL C (tlW (Xc n T)) Q .normal S') (hw:isW (Xc n T)=true:=by kernel_rfl) (h:FA (Vy n T S) S'=FI (Vy n T S) S':=by kernel_rfl):WL C T Q .normal S:=by
 cases hR:Vy n T S with
 | none=>rw [hR] at h; cases h
 | some p=>
  obtain ⟨S1,l⟩:=p
  rw [hR] at h
  simp only [FA,FI,Option.map_some,Option.some.injEq,Prod.mk.injEq] at h
  refine Yn n hR h.2 ?_
  cases hT:Xc n T with
  | nil=>rw [hT] at hw; cases hw
  | cons x T'=>
   rw [hT] at hw k
   cases x with
   | w=>exact Dc S' (.le (iB.le (by simp only [Prod.mk.injEq]; exact h.1))) k
   | c a=>cases hw
   | b id=>cases hw
def runH (n:Nat) (T:List Hg) (S:St):St:=match Vy n T S with
 | some p=>p.1
 | none=>S
def allEqO:Option (St×List (Bool×Bool))→Option (List Bool)
 | some p=>some (p.2.map (·.1))
 | none=>none
def allEqP:Option (St×List (Bool×Bool))→Option (List Bool)
 | some p=>some (p.2.map (·.2))
 | none=>some []
theorem bS (n:Nat) (k:WL C (Xc n T) Q .normal (runH n T S)) (h:allEqO (Vy n T S)=allEqP (Vy n T S):=by kernel_rfl):WL C T Q .normal S:=by
 cases hR:Vy n T S with
 | none=>rw [hR] at h; cases h
 | some p=>
  obtain ⟨S1,l⟩:=p
  unfold runH at k
  rw [hR] at k h
  exact Yn n hR (Option.some.inj h) k
theorem rZ_ (n:Nat) (ts:List Nat) (rs:List (Nat×Nat)) (e:List (Nat×V)) (b:List (Nat×List V)) (k:WL C (tlW (Xc n T)) Q .normal ⟨e,b,[]⟩)
  (hw:isW (Xc n T)=true:=by kernel_rfl) (hr:nG rs=true:=by kernel_rfl) (h:pM ((run n T S).map fun S=>(S.freezes ts).swaps rs) ⟨e,b,[]⟩=pU ⟨e,b,[]⟩:=by kernel_rfl):WL C T Q .normal S:=rz_ n ts rs _ k hw hr h
theorem Ba (n:Nat) (e:List (Nat×V)) (b:List (Nat×List V)) (k:WL C (tlW (Xc n T)) Q .normal ⟨e,b,[]⟩) (hw:isW (Xc n T)=true:=by kernel_rfl) (h:pM (run n T S) ⟨e,b,[]⟩=pU ⟨e,b,[]⟩:=by kernel_rfl):WL C T Q .normal S:=rk_ n _ k hw h
theorem sR (n:Nat) (e:List (Nat×V)) (b:List (Nat×List V)) (k:WL C (tlW (Xc n T)) Q .normal ⟨e,b,[]⟩) (hw:isW (Xc n T)=true:=by kernel_rfl) (h:FA (Vy n T S) ⟨e,b,[]⟩=FI (Vy n T S) ⟨e,b,[]⟩:=by kernel_rfl):WL C T Q .normal S:=gk_ n _ k hw h
def ET (t:Nat) (u:V):V→V
 | .own t' off sz es=>if t'=t then u else .own t' off sz es
 | c=>c
theorem map_fix {f g h:V→V} (H:∀c,f c=c→g c=h c):∀cs:List V,cs.map f=cs→cs.map g=cs.map h
 | [],_=>rfl
 | c::r,e=>by
  simp only [List.map_cons,List.cons.injEq] at e ⊢
  exact ⟨H c e.1,map_fix H r e.2⟩
def sC (f:V→V):V→V
 | .agg cs=>.agg (cs.map f)
 | c=>f c
theorem kJ {f g h:V→V} (H:∀c,f c=c→g c=h c) (v:V) (e:sC f v=v):sC g v=sC h v:=by
 cases v with
 | agg cs=>simp only [sC,V.agg.injEq] at e ⊢; exact map_fix H cs e
 | _=>exact H _ e
theorem aN (f:V→V) (vs:List V):Gd f (.tup vs) = .tup (vs.map (sC f)):=by
 show V.tup (vs.map _)=_
 congr 1
theorem Vr (f:V→V) (b:Bool) (vs:List V):Gd f (.may b (.tup vs)) = .may b (.tup (vs.map (sC f))):=by
 show V.may b (.tup (vs.map _))=_
 congr 2
theorem DS {f g h:V→V} (H:∀c,f c=c→g c=h c) (v:V) (e:Gd f v=v):Gd g v=Gd h v:=by
 cases v with
 | agg cs=>simp only [Gd,V.agg.injEq] at e ⊢; exact map_fix H cs e
 | tup vs=>
  rw [aN] at e
  rw [aN,aN]
  rw [map_fix (kJ H) vs (by simpa using e)]
 | may b w=>
  cases w with
  | agg cs=>simp only [Gd,V.may.injEq,V.agg.injEq,true_and] at e ⊢; exact map_fix H cs e
  | tup vs=>
   rw [Vr] at e
   rw [Vr,Vr]
   rw [map_fix (kJ H) vs (by simpa using e)]
  | _=>simp only [Gd,V.may.injEq,true_and] at e ⊢; exact H _ e
 | _=>exact H _ e
theorem aL {f g h:V→V} (H:∀c,f c=c→g c=h c):∀l:List (Nat×V),Ni f l=l→Ni g l=Ni h l
 | [],_=>rfl
 | (a,v)::r,e=>by
  simp only [Ni,List.cons.injEq,Prod.mk.injEq,true_and] at e ⊢
  exact ⟨DS H v e.1,aL H r e.2⟩
theorem dM {f g h:V→V} (H:∀c,f c=c→g c=h c):∀l:List (Nat×List V),Ue f l=l→Ue g l=Ue h l
 | [],_=>rfl
 | (a,cs)::r,e=>by
  simp only [Ue,List.cons.injEq,Prod.mk.injEq,true_and] at e ⊢
  exact ⟨map_fix H cs e.1,dM H r e.2⟩
theorem St.map_fix {f g h:V→V} (H:∀c,f c=c→g c=h c) (S:St) (e:S.map f=S):S.map g=S.map h:=by
 cases S with
 | mk env bx cp=>
  simp only [St.map,St.mk.injEq,and_true] at e ⊢
  exact ⟨aL H env e.1,dM H bx e.2⟩
theorem upd_fix {t off sz at_:Nat} {A:List (List V)} {y:List V} (c:V) (e:ET t (.own t off sz A) c=c):gW t sz at_ [y] c=ET t (.own t off sz (Fi off A at_ [y])) c:=by
 cases c with
 | own t' off' sz' es=>
  simp only [ET,gW] at e ⊢
  by_cases h:t'=t
  ·rw [if_pos h] at e ⊢
   simp only [V.own.injEq] at e
   obtain ⟨_,rfl,rfl,rfl⟩:=e
   rw [if_pos h,if_pos rfl,h]
  ·rw [if_neg h,if_neg h]
 | _=>rfl
def stoE (S:St) (v:Ck) (t off sz k:Nat) (A:List (List V)) (y:List V):Bool×Bool×Nat×Bool×Bool×Bool×List V×St:=
 (aW (S.val v),Cg (Av (S.val v)),(Av (S.val v)).cells.length,Nat.ble (k+(Av (S.val v)).cells.length) sz,(Av (S.val v)).cells.all (fun c => !Jp c),(Av (S.val v)).tags.all (· != t),
  Dl y k ((Av (S.val v)).cells.map Fc),(S.freezes (Av (S.val v)).tags).map (ET t (.own t off sz A)))
theorem gQ {α:Type} {e:α→List V} {l0:List α} {d:Option Nat} {l:List Cd} {x v:Ck} {n t sz j k off i:Nat} {y:α} (y':α) (hx:S.val x = .optr t sz j k) (hf:S.find t=some (off,l0.map e)) (hy:l0[i]? = some y)
  (k':OL C l T Q ((((S.freezes (Av (S.val v)).tags).map (ET t (.own t off sz ((l0.set i y').map e)))).put d .undef)))
  (h:stoE S v t off sz k (l0.map e) (e y)=(true,false,n,true,true,true,e y',S.freezes (Av (S.val v)).tags):=by kernel_rfl) (hj:j=off+i:=by kernel_rfl) (hs:(e y).length=sz:=by kernel_rfl):
  OL C (⟨d,.store x v n,none⟩::l) T Q S:=by
 simp only [stoE,Prod.mk.injEq] at h
 obtain ⟨h1,h2,h3,h4,h5,h6,h7,h8⟩:=h
 refine st (He (y':=y') hx rfl (Mq h1) h2 h3 hf hj hy (by rw [←h3]; exact Nat.le_of_ble_eq_true h4) hs h5 h6 h7 ?_)
 rw [St.map_fix (fun c hc=>upd_fix c hc) _ h8,Bf]
 exact k'
theorem lo_ {α:Type} {e:α→List V} {l0:List α} {d:Option Nat} {l:List Cd} {x:Ck} {t off sz j k n i:Nat} {ag:Bool} {y:α} (hx:S.val x = .optr t sz j k) (hf:S.find t=some (off,l0.map e)) (hy:l0[i]? = some y)
  (k':OL C l T Q (S.put d ((Hv ag n ((e y).drop k)).getD .undef))) (h:(j,Nat.ble (k+n) sz,(e y).length,(Hv ag n ((e y).drop k)).isSome)=(off+i,true,sz,true):=by kernel_rfl):
  OL C (⟨d,.p (.load x n ag),none⟩::l) T Q S:=by
 simp only [Prod.mk.injEq] at h
 obtain ⟨h1,h2,h3,h4⟩:=h
 cases hv:Hv ag n ((e y).drop k) with
 | none=>rw [hv] at h4; cases h4
 | some v=>
  rw [hv] at k'
  exact st (loadO hx hf h1 hy hv (Nat.le_of_ble_eq_true h2) h3 k')
theorem Wa {α:Type} {e:α→List V} {l0:List α} {d:Option Nat} {l:List Cd} {x i:Ck} {t off sz:Nat} {q:IntKind} {n:Int} {y:α} (hx:S.val x = .own t off sz (l0.map e)) (hi:S.val i = .int q n) (hy:Co l0 n=some y)
  (k':OL C l T Q (S.put d (.optr t sz (off+n.toNat) 0))):OL C (⟨d,.p (.idxA x i sz),none⟩::l) T Q S:=st (idxO hx hi hy k')
theorem Nr {α:Type} {e:α→List V} {l0:List α} {d:Option Nat} {l:List Cd} {x i:Ck} {sz:Nat} {q:IntKind} {n:Int} {y:α} (hx:S.val x = .lst sz (l0.map e)) (hi:S.val i = .int q n) (hy:Co l0 n=some y)
  (k':OL C l T Q (S.put d (.iptr (e y)))):OL C (⟨d,.p (.idxA x i sz),none⟩::l) T Q S:=st (idxL hx hi hy k')
theorem Yq {α:Type} {e:α→List V} {l0:List α} {d:Option Nat} {T':List Hg} {x i:Ck} {t off sz:Nat} {q:IntKind} {n:Int} {y:α} (ha:Uy T=some (some ⟨d,.p (.idxA x i sz),none⟩,T')) (hx:S.val x = .own t off sz (l0.map e)) (hi:S.val i = .int q n) (hy:Co l0 n=some y)
  (k':WL C T' Q .normal (S.put d (.optr t sz (off+n.toNat) 0))):WL C T Q .normal S:=by
 unfold Uy at ha
 split at ha<;>cases ha
 ·exact As (Wa hx hi hy k')
 ·exact Bd (Ak trivial (idxO hx hi hy ⟨trivial,k'⟩))
theorem sI {α:Type} {e:α→List V} {l0:List α} {d:Option Nat} {T':List Hg} {x i:Ck} {sz:Nat} {q:IntKind} {n:Int} {y:α} (ha:Uy T=some (some ⟨d,.p (.idxA x i sz),none⟩,T')) (hx:S.val x = .lst sz (l0.map e)) (hi:S.val i = .int q n) (hy:Co l0 n=some y)
  (k':WL C T' Q .normal (S.put d (.iptr (e y)))):WL C T Q .normal S:=by
 unfold Uy at ha
 split at ha<;>cases ha
 ·exact As (Nr hx hi hy k')
 ·exact Bd (Ak trivial (idxL hx hi hy ⟨trivial,k'⟩))
theorem Xf {α:Type} {e:α→List V} {l0:List α} {d:Option Nat} {l:List Cd} {x:Ck} {t off sz:Nat} (hx:S.val x = .own t off sz (l0.map e)) (k':OL C l T Q (S.put d (.int .i64 (l0.length:Int)))) (hz:sz≠0:=by decide):OL C (⟨d,.p (.len x),none⟩::l) T Q S:=st (lenO hx k' hz)
theorem Jr {α:Type} {e:α→List V} {l0:List α} {d:Option Nat} {l:List Cd} {x:Ck} {sz:Nat} (hx:S.val x = .lst sz (l0.map e)) (k':OL C l T Q (S.put d (.int .i64 (l0.length:Int)))) (hz:sz≠0:=by decide):OL C (⟨d,.p (.len x),none⟩::l) T Q S:=st (lenL hx k' hz)
theorem Ny {α:Type} {e:α→List V} {l0:List α} {x:Ck} {t off sz j k n i:Nat} {ag:Bool} {y:α} (hx:S.val x = .optr t sz j k) (hf:S.find t=some (off,l0.map e)) (hy:l0[i]? = some y)
  (h:(j,Nat.ble (k+n) sz,(e y).length,(Hv ag n ((e y).drop k)).isSome)=(off+i,true,sz,true):=by kernel_rfl):Dd S (.p (.load x n ag)) ((Hv ag n ((e y).drop k)).getD .undef):=by
 simp only [Prod.mk.injEq] at h
 obtain ⟨h1,h2,h3,h4⟩:=h
 cases hv:Hv ag n ((e y).drop k) with
 | none=>rw [hv] at h4; cases h4
 | some v=>exact Bn hx rfl trivial hf h1 hy hv (Nat.le_of_ble_eq_true h2) h3
theorem Kc {α:Type} {e:α→List V} {l0:List α} {x i:Ck} {t off sz:Nat} {q:IntKind} {n:Int} {y:α} (hx:S.val x = .own t off sz (l0.map e)) (hi:S.val i = .int q n) (hy:Co l0 n=some y):Dd S (.p (.idxA x i sz)) (.optr t sz (off+n.toNat) 0):=Gx hx rfl trivial hi rfl trivial hy
theorem cj_ {α:Type} {e:α→List V} {l0:List α} {x i:Ck} {sz:Nat} {q:IntKind} {n:Int} {y:α} (hx:S.val x = .lst sz (l0.map e)) (hi:S.val i = .int q n) (hy:Co l0 n=some y):Dd S (.p (.idxA x i sz)) (.iptr (e y)):=Nw hx rfl trivial hi rfl trivial hy
theorem Cy {α:Type} {e:α→List V} {l0:List α} {x:Ck} {d t off sz j k n i:Nat} {ag:Bool} {y:α} {v:V} (hx:S.val x = .optr t sz j k) (hf:S.find t=some (off,l0.map e)) (hy:l0[i]? = some y) (hl:look S.env d=some v)
  (h:(j,Nat.ble (k+n) sz,(e y).length,Hv ag n ((e y).drop k),S.cp)=(off+i,true,sz,some v,[]):=by kernel_rfl):Di C ⟨some d,.p (.load x n ag),none⟩ S (fun S'=>Xb S' S):=by
 simp only [Prod.mk.injEq] at h
 obtain ⟨h1,h2,h3,h4,h5⟩:=h
 exact Bs (Bn hx (by rfl) trivial hf h1 hy h4 (Nat.le_of_ble_eq_true h2) h3) hl h5
theorem Xd {d:Option Nat} {l:List Cd} {f:Nat} {as:List Ck} (LB LR LM:List Nat) {g:Gj} {t:Fk} (H:C f g t) (h3:t.flat=true) (k:OL C l T Q (((S.after (as.map fun x=>Av (S.val x)) (d.getD 0) false LB LR LM t).put d (Gd (Gw (d.getD 0) (t.bx.length-LB.length) LB LR) t.r))))
  (h:(Nu S as,Of (fun v => !Cg v) (as.map fun x=>Av (S.val x)),S.give (as.map fun x=>Av (S.val x)) LB LR LM false,(Ej LB&&Ej (LR++LM)&&Pl Cu LM&&LB.all (fun T=>(look S.bx T).isSome)),
   (Pl 65 [t.bx.length-LB.length,LM.length]&&Ki (t.newB (d.getD 0) LB.length) LB&&Ki (t.newR (d.getD 0)) LR))=(true,true,g,true,true):=by kernel_rfl):OL C (⟨d,.call f as,none⟩::l) T Q S:=by
 simp only [Prod.mk.injEq] at h
 obtain ⟨a1,a2,a3,a4,a5⟩:=h
 exact st (Ed LB LR LM false H (Kh a1) a2 a3 a4 a5 (fun _=>h3) k)
theorem c2_ {d:Option Nat} {l:List Cd} {f:Nat} {as:List Ck} (LB LR LM:List Nat) {g:Gj} {t:Fk} (H:C f g t) (k:OL C l T Q (((S.after (as.map fun x=>Av (S.val x)) (d.getD 0) true LB LR LM t).put d (Gd (Gw (d.getD 0) (t.bx.length-LB.length) LB LR) t.r))))
  (h:(Nu S as,Of (fun v => !Cg v) (as.map fun x=>Av (S.val x)),S.give (as.map fun x=>Av (S.val x)) LB LR LM true,(Ej LB&&Ej (LR++LM)&&Pl Cu LM&&LB.all (fun T=>(look S.bx T).isSome)),
   (Pl 65 [t.bx.length-LB.length,LM.length]&&Ki (t.newB (d.getD 0) LB.length) LB&&Ki (t.newR (d.getD 0)) LR))=(true,true,g,true,true):=by kernel_rfl):OL C (⟨d,.call f as,none⟩::l) T Q S:=by
 simp only [Prod.mk.injEq] at h
 obtain ⟨a1,a2,a3,a4,a5⟩:=h
 exact st (Ed LB LR LM true H (Kh a1) a2 a3 a4 a5 (fun h=>nomatch h) k)
theorem o_ {l:List Cd} (k:WL C (.c (.reg l)::T) Q .normal S):OL C l T Q S:=k
theorem d_ {p:DP} (k:WL C (.c (.draw p)::T) Q .normal S):WD C p [] (WL C T Q .normal) S:=k
end Go.Ev
