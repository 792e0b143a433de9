/- Many instructions at once: what can be reckoned is reckoned by the kernel. -/
import Derived.Test.YtfpbbpkdjmldkaaGreatQvM
set_option linter.all false
namespace Go.Ev
def eC:V→Bool
 | .may _ _=>false
 | _=>true
theorem Oj {v:V} (h:eC v=true):Bc true v:=by cases v<;>first | trivial | cases h
def iZ (S:St) (n:Nat):List (Nat×Nat×Cu)→Bool
 | []=>true
 | p::r=>match Cq (An (S.val p.2.2)) with
  | true=>false
  | false=>match Nat.beq (An (S.val p.2.2)).cells.length p.2.1 with
   | true=>match Nat.ble (p.1+p.2.1) n with
    | true=>iZ S n r
    | false=>false
   | false=>false
theorem gE {S:St} {n:Nat}:∀ {l:List (Nat×Nat×Cu)},iZ S n l=true→Dg (fun p=>Cq (An (S.val p.2.2))=false∧(An (S.val p.2.2)).cells.length=p.2.1∧p.1+p.2.1≤n) l
 | [],_=>trivial
 | p::r,h=>by
  unfold iZ at h
  split at h
  ·cases h
  ·rename_i h1
   split at h
   ·rename_i h2
    split at h
    ·rename_i h3
     exact ⟨⟨h1,Nat.eq_of_beq_eq_true h2,Nat.le_of_ble_eq_true h3⟩,gE h⟩
    ·cases h
   ·cases h
def Tx (S:St):PU→Bool
 | .mv _ | .un _ _ | .conv _ _ | .binB _ _ _ | .eqs _ _ _ _ | .lenS _ | .strc _ | .ext _ _ | .nilc _ | .xbyte _ _ | .scmp _ _ | .mget _ _=>true
 | .bin op x _=>match op with
  | .eql | .neq | .lss | .leq | .gtr | .geq=>true
  | .sub | .mul | .and | .or | .xor | .andNot=>true
  | .add=>match An (S.val x) with
   | .int _ _=>true
   | _=>false
  | _=>false
 | .mn x y | .mx x y=>match An (S.val x),An (S.val y) with
  | .int k _,.int k' _=>decide (k=k')
  | _,_=>false
 | .load x n _=>match An (S.val x) with
  | .ptr t k=>match look S.bx t with
   | some cs=>Nat.ble (k+n) cs.length
   | none=>false
  | .iptr cs=>Nat.ble n cs.length
  | _=>false
 | .fieldA x off=>match An (S.val x) with
  | .ptr _ _ | .optr _ _ _ _=>true
  | .iptr cs=>Nat.ble off cs.length
  | _=>false
 | .field x off n _=>match An (S.val x) with
  | .agg cs=>Nat.ble (off+n) cs.length
  | _=>false
 | .len x=>match An (S.val x) with
  | .lst (_+1) _ | .own _ _ (_+1) _=>true
  | _=>false
 | .build zero ps=>iZ S zero.length ps
 | .fn _ caps=>Uq (caps.map fun x=>An (S.val x))
 | _=>false
theorem kR {S:St} {o:PU} {φ:Prop} {v:V} (h:Tx S o=true) (h2:pu S (fun x=>An (S.val x)) o=some (φ,v)):φ:=by
 cases o with
 | mv x=>simp only [pu,Option.some.injEq,Prod.mk.injEq] at h2; rw [←h2.1]; trivial
 | bin op x y=>
  simp only [pu] at h2
  split at h2
  ·split at h2
   ·cases h
   ·cases h
   ·split at h2
    ·unfold kF at h2
     split at h2<;>first | (cases h; done) | (cases h2; trivial) | (cases h2)
    ·cases h2
  ·rename_i hx hy
   unfold lD at h2
   split at h2<;>first | (cases h2; trivial) | skip
   ·simp only [Tx,hx] at h; cases h
   ·cases h2
  ·cases h2
 | binB op x y=>
  simp only [pu] at h2
  split at h2
  ·split at h2<;>first | (cases h2; trivial) | cases h2
  ·cases h2
 | eqs ne ks x y=>
  simp only [pu] at h2
  split at h2
  ·split at h2<;>first | (cases h2; trivial) | cases h2
  ·cases h2
 | un op x=>
  simp only [pu] at h2
  split at h2<;>first | (cases h2; trivial) | cases h2
 | conv k x=>
  simp only [pu] at h2
  split at h2<;>first | (cases h2; trivial) | cases h2
 | lenS x=>
  simp only [pu] at h2
  split at h2<;>first | (cases h2; trivial) | cases h2
 | strc x=>
  simp only [pu] at h2
  split at h2<;>first | (cases h2; trivial) | cases h2
 | ext x i=>
  simp only [pu] at h2
  split at h2
  ·split at h2<;>first | (cases h2; trivial) | cases h2
  ·cases h2
 | nilc x=>
  simp only [pu] at h2
  split at h2<;>first | (cases h2; trivial) | cases h2
 | xbyte x y=>
  simp only [pu] at h2
  split at h2<;>first | (cases h2; trivial) | cases h2
 | mget x y=>
  simp only [pu] at h2
  split at h2<;>first | (cases h2; trivial) | cases h2
 | scmp x y=>
  simp only [pu] at h2
  split at h2<;>first | (cases h2; trivial) | cases h2
 | mn x y=>
  simp only [pu] at h2
  split at h2
  ·rename_i hx hy
   simp only [Tx,hx,hy] at h
   cases h2; exact of_decide_eq_true h
  ·cases h2
 | mx x y=>
  simp only [pu] at h2
  split at h2
  ·rename_i hx hy
   simp only [Tx,hx,hy] at h
   cases h2; exact of_decide_eq_true h
  ·cases h2
 | load x n ag=>
  simp only [pu] at h2
  split at h2
  ·rename_i hx
   split at h2
   ·rename_i hl
    split at h2
    ·simp only [Tx,hx,hl] at h
     cases h2; exact Nat.le_of_ble_eq_true h
    ·cases h2
   ·cases h2
  ·rename_i hx
   split at h2
   ·simp only [Tx,hx] at h
    cases h2; exact Nat.le_of_ble_eq_true h
   ·cases h2
  ·rename_i hx
   simp only [Tx,hx] at h; cases h
  ·cases h2
 | fieldA x off=>
  simp only [pu] at h2
  split at h2
  ·cases h2; trivial
  ·rename_i hx
   simp only [Tx,hx] at h
   cases h2; exact Nat.le_of_ble_eq_true h
  ·cases h2; trivial
  ·cases h2
 | field x off n ag=>
  simp only [pu] at h2
  split at h2
  ·rename_i hx
   split at h2
   ·simp only [Tx,hx] at h
    cases h2; exact Nat.le_of_ble_eq_true h
   ·cases h2
  ·cases h2
 | len x=>
  simp only [pu] at h2
  split at h2
  ·rename_i s es hx
   simp only [Tx,hx] at h
   cases h2
   cases s with
   | zero=>cases h
   | succ n=>exact Nat.succ_ne_zero n
  ·rename_i s es hx
   simp only [Tx,hx] at h
   cases h2
   cases s with
   | zero=>cases h
   | succ n=>exact Nat.succ_ne_zero n
  ·cases h2
 | fn f caps=>simp only [pu,Option.some.injEq,Prod.mk.injEq] at h2; rw [←h2.1]; exact h
 | build zero ps=>simp only [pu,Option.some.injEq,Prod.mk.injEq] at h2; rw [←h2.1]; exact gE h
 | _=>cases h
def Pt (S:St):List Cu→Bool
 | []=>true
 | x::r=>match eC (S.val x) with
  | true=>Pt S r
  | false=>false
theorem Ls {S:St}:∀ {l:List Cu},Pt S l=true→Dg (fun x=>Bc true (S.val x)) l
 | [],_=>trivial
 | x::r,h=>by
  unfold Pt at h
  split at h
  ·rename_i hp; exact ⟨Oj hp,Ls h⟩
  ·cases h
def vD (sz len:Nat):List (Nat×V)→Bool
 | []=>true
 | p::r=>match Nat.blt p.1 len with
  | true=>match Nat.beq p.2.cells.length sz with
   | true=>match p.2.cells.all (fun c => !Lc c) with
    | true=>vD sz len r
    | false=>false
   | false=>false
  | false=>false
theorem nS {sz len:Nat}:∀ {l:List (Nat×V)},vD sz len l=true→Dg (fun p=>p.1<len∧p.2.cells.length=sz∧p.2.cells.all (fun c => !Lc c)=true) l
 | [],_=>trivial
 | p::r,h=>by
  unfold vD at h
  split at h
  ·rename_i h1
   split at h
   ·rename_i h2
    split at h
    ·rename_i h3
     exact ⟨⟨Nat.le_of_ble_eq_true h1,Nat.eq_of_beq_eq_true h2,h3⟩,nS h⟩
    ·cases h
   ·cases h
  ·cases h
theorem KO {S:St}:∀ {l:List (Nat×Cu)},Pt S (l.map (·.2))=true→Dg (fun p=>nm S p.2) l
 | [],_=>trivial
 | p::r,h=>by
  unfold List.map Pt at h
  split at h
  ·rename_i hp; exact ⟨Oj hp,KO h⟩
  ·cases h
def q1 (i:Bj) (S:St):Option St:=
 match i with
 | ⟨d,.p o,none⟩=>match Pt S o.opds with
  | true=>match Tx S o with
   | true=>match pu S (fun x=>An (S.val x)) o with
    | some (_,v)=>some (S.putC d v (Kj (fun x=>An (S.val x)) o))
    | none=>none
   | false=>none
  | false=>none
 | ⟨some d,.box x,none⟩=>match eC ((S.drop (64*d)).val x) with
  | true=>match Cq (An ((S.drop (64*d)).val x)) with
   | true=>none
   | false=>some (((S.drop (64*d)).setBx (64*d) (An ((S.drop (64*d)).val x)).cells).put (some d) (.ptr (64*d) 0))
  | false=>none
 | ⟨some d,.alloc z,none⟩=>some (((S.drop (64*d)).setBx (64*d) z).put (some d) (.ptr (64*d) 0))
 | ⟨some d,.nilS sz,none⟩=>some ((S.drop (64*d)).put (some d) (.own (64*d) 0 sz []))
 | ⟨d,.store x v n,none⟩=>match S.val x with
  | .ptr t k=>match eC (S.val v) with
   | true=>match Cq (An (S.val v)) with
    | true=>none
    | false=>match Nat.beq (An (S.val v)).cells.length n with
     | true=>match look S.bx t with
      | some bs=>match Nat.ble (k+n) bs.length with
       | true=>some ((S.setBx t (putCells bs k (An (S.val v)).cells)).put d .undef)
       | false=>none
      | none=>none
     | false=>none
   | false=>none
  | _=>none
 | ⟨some d,.mkS sz zero len parts,none⟩=>match Pt S (parts.map (·.2)) with
  | true=>match vD sz len (parts.map fun p=>(p.1,An (S.val p.2))) with
   | true=>some (((S.freezes (Ku (parts.map fun p=>(p.1,An (S.val p.2))))).drop (64*d)).put (some d)
    (.own (64*d) 0 sz (Ma sz (List.replicate len zero) ((parts.map fun p=>(p.1,An (S.val p.2))).map fun p=>(p.1,p.2.cells.map Ga)))))
   | false=>none
  | false=>none
 | _=>none
theorem LO {C:Ba} {i:Bj} {S S':St} {K:St→Prop} (h:q1 i S=some S') (k:K S'):Dx C i S K:=by
 unfold q1 at h
 split at h
 ·split at h
  ·rename_i h1
   split at h
   ·rename_i h2
    split at h
    ·rename_i h3
     cases h
     exact p_ (Ls h1) h3 (kR h2 h3) k
    ·cases h
   ·cases h
  ·cases h
 ·split at h
  ·rename_i h1
   split at h
   ·cases h
   ·rename_i h2
    cases h
    exact vX rfl (Oj h1) h2 k
  ·cases h
 ·cases h; exact Hg k
 ·cases h; exact Zy k
 ·split at h
  ·rename_i hx
   split at h
   ·rename_i h1
    split at h
    ·cases h
    ·rename_i h2
     split at h
     ·rename_i h3
      split at h
      ·rename_i h4
       split at h
       ·rename_i h5
        cases h
        exact Gc hx rfl (Oj h1) h2 (Nat.eq_of_beq_eq_true h3) h4 (Nat.le_of_ble_eq_true h5) k
       ·cases h
      ·cases h
     ·cases h
   ·cases h
  ·cases h
 ·split at h
  ·rename_i h1
   split at h
   ·rename_i h2
    cases h
    exact Ky (KO h1) (nS h2) k
   ·cases h
  ·cases h
 ·cases h
theorem eG {i:Bj} {S S':St} (h:q1 i S=some S'):Ef i S:=by
 unfold Ef
 split
 ·rename_i o x n ag hop
  split
  ·rename_i hx
   unfold q1 at h
   split at h
   ·rename_i d o' g
    cases hop
    split at h
    ·split at h
     ·rename_i hp
      simp only [Tx,hx] at hp
      cases hp
     ·cases h
    ·cases h
   all_goals first | cases hop | (cases h)
  ·trivial
 ·trivial
def Xx:List Ic→Option (Option Bj×List Ic)
 | .c .skip::T=>some (none,T)
 | .c (.seq a b)::T=>some (none,.c a :: .w :: .c b::T)
 | .c (.reg [])::T=>some (none,T)
 | .c (.reg (i::l))::T=>some (some i,.c (.reg l)::T)
 | .c (.block id a)::T=>some (none,.c a :: .b id::T)
 | .c (.draw .fin)::T=>some (none,T)
 | .c (.draw (.take i p))::T=>some (some i,.c (.draw p)::T)
 | .w::T=>some (none,T)
 | .b _::T=>some (none,T)
 | _=>none
def aF:Nat→List Ic→List Ic
 | 0,T=>T
 | n+1,T=>match Xx T with
  | some (_,T')=>aF n T'
  | none=>T
def run:Nat→List Ic→St→Option St
 | 0,_,S=>some S
 | n+1,T,S=>match Xx T with
  | some (none,T')=>run n T' S
  | some (some i,T')=>match q1 i S with
   | some S'=>run n T' S'
   | none=>none
  | none=>none
variable {C:Ba} {Q:Ex→St→Prop} {S:St} {T:List Ic}
theorem gB {T':List Ic} (h:Xx T=some (none,T')) (k:WL C T' Q .normal S):WL C T Q .normal S:=by
 unfold Xx at h
 split at h<;>cases h
 ·exact Nh k
 ·exact Bk k
 ·exact k
 ·exact Ci k
 ·exact k
 ·exact aC k
 ·exact Um k
theorem vR {i:Bj} {T':List Ic} {S':St} (h:Xx T=some (some i,T')) (hq:q1 i S=some S') (k:WL C T' Q .normal S'):WL C T Q .normal S:=by
 unfold Xx at h
 split at h<;>cases h
 ·exact Ah (st (LO hq k))
 ·exact Bm (Au (eG hq) (LO hq ⟨trivial,k⟩))
theorem gT:∀(n:Nat) {T:List Ic} {S S':St},run n T S=some S'→WL C (aF n T) Q .normal S'→WL C T Q .normal S
 | 0,T,S,S',h,k=>by cases h; exact k
 | n+1,T,S,S',h,k=>by
  unfold run at h
  unfold aF at k
  split at h
  ·rename_i h1
   rw [h1] at k
   exact gB h1 (gT n h k)
  ·rename_i h1
   split at h
   ·rename_i h2
    rw [h1] at k
    exact vR h1 h2 (gT n h k)
   ·cases h
  ·cases h
def tlW:List Ic→List Ic
 | .w::T=>T
 | T=>T
def isW:List Ic→Bool
 | .w::_=>true
 | _=>false
def vF (o:Option St) (S':St):Option (List (Option V)×List (Option (List V))×List (Nat×Int)):=o.map fun S=>(S'.env.map (fun p=>look S.env p.1),S'.bx.map (fun p=>look S.bx p.1),S'.cp)
def vL (S':St):Option (List (Option V)×List (Option (List V))×List (Nat×Int)):=some (S'.env.map (fun p=>some p.2),S'.bx.map (fun p=>some p.2),[])
theorem rz_ (n:Nat) (ts:List Nat) (rs:List (Nat×Nat)) (S':St) (k:WL C (tlW (aF n T)) Q .normal S')
  (hw:isW (aF n T)=true:=by kernel_rfl) (hr:sE rs=true:=by kernel_rfl) (h:vF ((run n T S).map fun S=>(S.freezes ts).swaps rs) S'=vL S':=by kernel_rfl):WL C T Q .normal S:=by
 cases hR:run n T S with
 | none=>rw [hR] at h; cases h
 | some S1=>
  rw [hR] at h
  refine gT n hR ?_
  cases hT:aF n T with
  | nil=>rw [hT] at hw; cases hw
  | cons x T'=>
   rw [hT] at hw k
   cases x with
   | w=>exact Dy S' ((Fg.fz _ ts).trans ((Fg.sw _ rs hr).trans (.le (lS.le (Option.some.inj h))))) k
   | c a=>cases hw
   | b id=>cases hw
theorem rk_ (n:Nat) (S':St) (k:WL C (tlW (aF n T)) Q .normal S') (hw:isW (aF n T)=true:=by kernel_rfl) (h:vF (run n T S) S'=vL S':=by kernel_rfl):WL C T Q .normal S:=
 rz_ n [] [] S' k hw rfl (by cases hR:run n T S with | none=>rw [hR] at h; cases h | some S1=>rw [hR] at h; exact h)
def runD (n:Nat) (T:List Ic) (S:St):St:=(run n T S).getD S
theorem At (n:Nat) (k:WL C (aF n T) Q .normal (runD n T S)) (h:(run n T S).isSome=true:=by kernel_rfl):WL C T Q .normal S:=by
 cases hR:run n T S with
 | none=>rw [hR] at h; cases h
 | some S1=>
  refine gT n hR ?_
  unfold runD at k
  rw [hR] at k
  exact k
def uX:Nat→List Ic→Bool
 | 0,_=>true
 | n+1,T=>match Xx T with
  | some (none,T')=>uX n T'
  | _=>false
theorem iD:∀(n:Nat) {T:List Ic},uX n T=true→run n T S=some S
 | 0,_,_=>rfl
 | n+1,T,h=>by
  unfold uX at h
  unfold run
  split at h
  ·rename_i h1
   rw [h1]
   exact iD n h
  ·cases h
theorem Mm (n:Nat) (k:WL C (aF n T) Q .normal S) (h:uX n T=true:=by kernel_rfl):WL C T Q .normal S:=gT n (iD n h) k
def retE (o:Option St) (res:List iU) (nb:Nat):Option (Bool×V×List (List V)):=
 match o with
 | none=>none
 | some S=>match LU S res with
  | none=>none
  | some v=>match Pc S (Zz nb++Gf v.flat) with
   | none=>none
   | some css=>some (Re 65 [(Jq (v.flat++css.flatten)).length,(Gf v.flat).length],Hd (Xi (Jq (v.flat++css.flatten)) (Gf v.flat)) v,Rf (Xi (Jq (v.flat++css.flatten)) (Gf v.flat)) css)
def JX:List Ic→Bool
 | .c .ret::_=>true
 | _=>false
theorem Yy {res:List iU} {nb:Nat} {t:Gs} (n:Nat) (hQ:∀S',FQ res nb t .ret S'→Q .ret S') (ts:List Nat:=[]) (h6:t.rw=[]:=by exact rfl) (hr:JX (aF n T)=true:=by kernel_rfl)
  (h:retE ((run n T S).map fun S=>S.freezes ts) res nb=some (true,t.r,t.bx):=by kernel_rfl):WL C T Q .normal S:=by
 cases hR:run n T S with
 | none=>rw [hR] at h; cases h
 | some S1=>
  rw [hR] at h
  refine gT n hR ?_
  cases hT:aF n T with
  | nil=>rw [hT] at hr; cases hr
  | cons x T'=>
   rw [hT] at hr
   unfold JX at hr
   split at hr
   ·rename_i e
    cases e
    refine Kv (hQ _ ?_)
    refine retf_ (Fg.fz _ ts) ?_
    unfold retE at h
    split at h
    ·cases h
    ·rename_i S2 e2
     obtain rfl:=Option.some.inj e2
     split at h
     ·cases h
     ·rename_i h1
      split at h
      ·cases h
      ·rename_i h2
       simp only [Option.some.injEq,Prod.mk.injEq] at h
       exact Fe h1 h2 h.1 h.2.1 h.2.2 (by rw [h6]; trivial)
   ·cases hr
theorem Cs {res:List iU} {nb:Nat} {t:Gs} (n:Nat) (ts:List Nat:=[]) (h6:t.rw=[]:=by exact rfl) (hr:JX (aF n T)=true:=by kernel_rfl)
  (h:retE ((run n T S).map fun S=>S.freezes ts) res nb=some (true,t.r,t.bx):=by kernel_rfl):WL C T (FQ res nb t) .normal S:=Yy n (fun _ h=>h) ts h6 hr h
theorem bb {α β:Type} {o:Option α} {f:α→Option β} {r:β} {P:Prop} (h:o.bind f=some r) (k:∀x,o=some x→f x=some r→P):P:=by
 obtain ⟨x,h1,h2⟩:=bnd h
 exact k x h1 h2
theorem bv {α β:Type} {e:α} {f:α→Option β} {r:β} {P:Prop} (h:Bs e f=some r) (k:∀x,x=e→f x=some r→P):P:=k e rfl h
theorem gg {α:Type} {c:Prop} [Decidable c] {a:Option α} {r:α} {P:Prop} (h:(if c then a else none)=some r) (k:c→a=some r→P):P:=k (xE h).1 (xE h).2
theorem kn {σ ρ:Type} {K:Ex→St→Prop} {st:σ→St→Prop} {o:σ⊕ρ} {s':σ} {S' S'':St} (hK:∀s',o = .inl s'→∀S' S'',Fg S' S''→st s' S''→K .normal S') (h1:o = .inl s') (h2:st s' S'')
  (h:(S''.env.map (fun p=>look S'.env p.1),S''.bx.map (fun p=>look S'.bx p.1),S''.cp)=(S''.env.map (fun p=>some p.2),S''.bx.map (fun p=>some p.2),([]:List (Nat×Int))):=by kernel_rfl):K .normal S':=hK _ h1 _ _ (Er h) h2
def uJ (S:St) (j:Bj):Option (Option V):=
 match j with
 | ⟨some _,.p o,none⟩=>match Pt S o.opds with
  | true=>match Tx S o with
   | true=>match pu S (fun x=>An (S.val x)) o with
    | some (_,v)=>some (some v)
    | none=>none
   | false=>none
  | false=>none
 | _=>none
def dC (S:St) (j:Bj):Option (Option V):=
 match j with
 | ⟨some d,.p _,none⟩=>some (look S.env d)
 | _=>some none
theorem held1 {C:Ba} {X:List Bj} {S:St} {j:Bj} (h:uJ S j=dC S j) (hc:S.cp=[]):(Ef j S∨j∈X)∧Dx C j S (fun S'=>aE S' S):=by
 unfold uJ at h
 split at h
 ·rename_i d o
  split at h
  ·rename_i h1
   split at h
   ·rename_i h2
    split at h
    ·rename_i h3
     have h4:some _=look S.env d:=Option.some.inj h
     refine ⟨.inl ?_,?_⟩
     ·exact eG (S':=S.putC (some d) _ (Kj (fun x=>An (S.val x)) o)) (by simp only [q1,h1,h2,h3]; rfl)
     ·exact Bl ⟨Ls h1,_,h3,kR h2 h3⟩ h4.symm hc
    ·simp only [dC] at h; cases h
   ·simp only [dC] at h; cases h
  ·simp only [dC] at h; cases h
 ·unfold dC at h
  split at h
  ·cases h
  ·cases h
theorem uI {C:Ba} {X:List Bj} {S:St} (hc:S.cp=[]):∀ {l:List Bj},l.map (uJ S)=l.map (dC S)→Jl C X l S
 | [],_=>trivial
 | j::r,h=>by
  simp only [List.map_cons,List.cons.injEq] at h
  exact ⟨held1 h.1 hc,uI hc h.2⟩
theorem hB {C:Ba} {X l:List Bj} {S:St} (h:(l.map (uJ S),S.cp)=(l.map (dC S),[]):=by kernel_rfl):Jl C X l S:=by
 simp only [Prod.mk.injEq] at h
 exact uI h.2 h.1
theorem d0 {C:Ba} {K:St→Prop} {S:St} {held:List Bj} {r:DP} (hh:Jl C [] held S) (k:WD C r [] K S):∃S1,Fg S S1∧∃X',Jl C X' held S1∧Fz C X' S1∧WD C r X' K S1:=⟨S,Fg.refl S,[],hh,trivial,k⟩
theorem dw {C:Ba} {K:St→Prop} {S:St} {held:List Bj} {r:DP} (e:List (Nat×V)) (b:List (Nat×List V)) (hh:Jl C [] held ⟨e,b,[]⟩) (k:WD C r [] K ⟨e,b,[]⟩)
  (h:(e.map (fun p=>look S.env p.1),b.map (fun p=>look S.bx p.1))=(e.map (fun p=>some p.2),b.map (fun p=>some p.2)):=by kernel_rfl):∃S1,Fg S S1∧∃X',Jl C X' held S1∧Fz C X' S1∧WD C r X' K S1:=
 ⟨⟨e,b,[]⟩,Er (by simp only [Prod.mk.injEq] at h ⊢; exact ⟨h.1,h.2,trivial⟩),[],hh,trivial,k⟩
theorem Oo {C:Ba} {K:St→Prop} {S:St} {held X:List Bj} {p rest:DP} {d:Option Nat} {f:Nat} {as:List Cu} {gv:List V} {r:V} (H:C f ⟨gv,[]⟩ ⟨r,[],[]⟩) (h3:r.flat.all Jv=true)
  (k:∃S1,Fg ((S.drops (Pz (d.getD 0) (Ii r.flat))).put d (Hd (Hv (d.getD 0) 0 [] []) r)) S1∧∃X',Jl C X' held S1∧Fz C X' S1∧WD C p X' K S1) (k2:WD C rest X K S)
  (h:(Pt S as,Qa (fun v => !Cq v) (as.map fun x=>An (S.val x)),(as.map fun x=>An (S.val x)).map (mapW (S.liftC [] [] [] false)))=(true,true,gv):=by kernel_rfl):WD C (.alt held ⟨d,.call f as,none⟩ p rest) X K S:=by
 simp only [Prod.mk.injEq] at h
 exact Cb (Cm false H (Ls h.1) h.2.1 h.2.2 (fun _=>h3) k) k2
theorem ar {a b:Bool} (h:b=true) (ha:a=true:=by exact rfl):(a&&b)=true:=Bq ha h
theorem af {α:Type} {e:α→List V} {xs:List α} {t off sz:Nat} {b:Bool} (h:b=true) (h1:∀x,(e x).all eO=true:=by exact fun _=>rfl):(Jv (.own t off sz (xs.map e))&&b)=true:=Bq (fl1 h1) h
theorem jn {R G:St→Prop} {S' S1:St} (hJ:∀S S1,Fg S S1→R S1→G S) (h1:R S1)
  (h:(S1.env.map (fun p=>look S'.env p.1),S1.bx.map (fun p=>look S'.bx p.1),S1.cp)=(S1.env.map (fun p=>some p.2),S1.bx.map (fun p=>some p.2),([]:List (Nat×Int))):=by kernel_rfl):G S':=hJ _ _ (Er h) h1
theorem Cw {α:Type} {c:Cu} {a b:IR} {cb:Bool} {x y r:α} (h0:(if cb=true then x else y)=r) (k1:cb=true→x=r→WL C (.c a::T) Q .normal S) (k2:cb=false→y=r→WL C (.c b::T) Q .normal S)
  (hc:S.val c = .bool cb:=by kernel_rfl):WL C (.c (.ite c a b)::T) Q .normal S:=Od hc (fun h=>k1 h (ip h h0)) (fun h=>k2 h (oY h h0))
def HI (S:St) (as:List Cu):Bool×Bool×List V:=(Pt S as,Qa (fun v => !Cq v) (as.map fun x=>An (S.val x)),(as.map fun x=>An (S.val x)).map (mapW (S.liftC [] [] [] false)))
theorem Ji {d:Option Nat} {l:List Bj} {f:Nat} {as:List Cu} {gv:List V} {r:V} (H:C f ⟨gv,[]⟩ ⟨r,[],[]⟩) (h3:r.flat.all Jv=true)
  (k:OL C l T Q ((S.drops (Pz (d.getD 0) (Ii r.flat))).put d (Hd (Hv (d.getD 0) 0 [] []) r))) (h:HI S as=(true,true,gv):=by kernel_rfl):OL C (⟨d,.call f as,none⟩::l) T Q S:=by
 simp only [HI,Prod.mk.injEq] at h
 exact st (Cm false H (Ls h.1) h.2.1 h.2.2 (fun _=>h3) k)
theorem Il {d:Option Nat} {l:List Bj} {f:Nat} {as:List Cu} {gv:List V} {r:V} (H:C f ⟨gv,[]⟩ ⟨r,[],[]⟩)
  (k:OL C l T Q ((S.drops (Pz (d.getD 0) (Ii r.flat))).put d (Hd (Hv (d.getD 0) 0 [] []) r))) (h:HI S as=(true,true,gv):=by kernel_rfl) (h3:r.flat.all Jv=true:=by kernel_rfl):OL C (⟨d,.call f as,none⟩::l) T Q S:=Ji H h3 k h
def nC (S:St) (g:Bool):List Cu→List (Bool×Bool)
 | []=>[]
 | x::r=>match S.val x with
  | .may b _=>(b,g)::nC S g r
  | _=>nC S g r
def mayP (b:Bool):V→List (Bool×Bool)
 | .may c _=>[(c,b)]
 | _=>[]
abbrev Pr (l:List (Bool×Bool)):Prop:=l.map (·.1)=l.map (·.2)
theorem dT {S:St} {g:Bool} (hg:g=true):∀ {l:List Cu},Pr (nC S g l)→Dg (fun x=>Bc true (S.val x)) l
 | [],_=>trivial
 | x::r,h=>by
  unfold nC at h
  split at h
  ·rename_i hx
   simp only [Pr,List.map_cons,List.cons.injEq] at h
   refine ⟨?_,dT hg h.2⟩
   show Bc true (S.val x)
   rw [hx]
   exact fun _=>by rw [h.1]; exact hg
  ·rename_i hx
   refine ⟨?_,dT hg h⟩
   show Bc true (S.val x)
   cases hv:S.val x<;>first | trivial | exact absurd hv (hx _ _)
theorem uS {b c:Bool} {v:V} (h:Pr (mayP b v)) (hb:c=true→b=true):Bc c v:=by
 cases v with
 | may x y=>
  simp only [Pr,mayP,List.map_cons,List.map_nil,List.cons.injEq,and_true] at h
  exact fun hc=>by rw [h]; exact hb hc
 | _=>trivial
def q2 (i:Bj) (S:St):Option (St×List (Bool×Bool)):=
 match i with
 | ⟨d,.p o,some (gs,want)⟩=>match Pb (S.val (.t gs)) want with
  | some g=>match Tx S o with
   | true=>match pu S (fun x=>An (S.val x)) o with
    | some (_,v)=>some (S.put d (.may g v),nC S g o.opds)
    | none=>none
   | false=>none
  | none=>none
 | ⟨d,.pick c a b,none⟩=>match S.val c with
  | .bool cb=>some (S.put d (Rq cb (An (S.val a)) (An (S.val b))),mayP (cb==true) (S.val a)++mayP (cb==false) (S.val b))
  | _=>none
 | i=>match q1 i S with
  | some S'=>some (S',[])
  | none=>none
theorem iP {a b:List (Bool×Bool)} (h:Pr (a++b)):Pr a:=by
 simp only [Pr,List.map_append] at h
 exact (List.append_inj h (by simp)).1
theorem sR {a b:List (Bool×Bool)} (h:Pr (a++b)):Pr b:=by
 simp only [Pr,List.map_append] at h
 exact (List.append_inj h (by simp)).2
theorem q2_ok {C:Ba} {i:Bj} {S S':St} {l:List (Bool×Bool)} {K:St→Prop} (h:q2 i S=some (S',l)) (hl:Pr l) (k:K S'):Dx C i S K:=by
 unfold q2 at h
 split at h
 ·split at h
  ·rename_i hg
   split at h
   ·rename_i h2
    split at h
    ·rename_i h3
     cases h
     exact Ep hg (fun e=>⟨dT e hl,_,h3,kR h2 h3⟩) k
    ·cases h
   ·cases h
  ·cases h
 ·split at h
  ·rename_i hc
   cases h
   exact Hp hc rfl rfl (uS (iP hl) fun e=>by rw [e]; rfl) (uS (sR hl) fun e=>lN e) rfl k
  ·cases h
 ·split at h
  ·rename_i h1
   cases h
   exact LO h1 k
  ·cases h
theorem LP {i:Bj} {S S':St} {l:List (Bool×Bool)} (h:q2 i S=some (S',l)):Ef i S:=by
 unfold q2 at h
 split at h
 ·rename_i d o gs want
  unfold Ef
  split
  ·rename_i x n ag hop
   split
   ·rename_i hx
    cases hop
    split at h
    ·split at h
     ·rename_i hp
      simp only [Tx,hx] at hp
      cases hp
     ·cases h
    ·cases h
   ·trivial
  ·trivial
 ·trivial
 ·split at h
  ·rename_i h1
   exact eG h1
  ·cases h
def Zb:Nat→List Ic→St→Option (St×List (Bool×Bool))
 | 0,_,S=>some (S,[])
 | n+1,T,S=>match Xx T with
  | some (none,T')=>Zb n T' S
  | some (some i,T')=>match q2 i S with
   | some (S',l)=>match Zb n T' S' with
    | some (S2,l2)=>some (S2,l++l2)
    | none=>none
   | none=>none
  | none=>none
theorem bL:∀(n:Nat) {T:List Ic} {S S':St} {l:List (Bool×Bool)},Zb n T S=some (S',l)→Pr l→WL C (aF n T) Q .normal S'→WL C T Q .normal S
 | 0,T,S,S',l,h,_,k=>by cases h; exact k
 | n+1,T,S,S',l,h,hl,k=>by
  unfold Zb at h
  unfold aF at k
  split at h
  ·rename_i h1
   rw [h1] at k
   exact gB h1 (bL n h hl k)
  ·rename_i i T' h1
   split at h
   ·rename_i S1 l1 h2
    rw [h1] at k
    split at h
    ·rename_i h3
     cases h
     have kk:=bL n h3 (sR hl) k
     unfold Xx at h1
     split at h1<;>cases h1
     ·exact Ah (st (q2_ok h2 (iP hl) kk))
     ·exact Bm (Au (LP h2) (q2_ok h2 (iP hl) ⟨trivial,kk⟩))
    ·cases h
   ·cases h
  ·cases h
def LZ (o:Option (St×List (Bool×Bool))) (S':St):Option ((List (Option V)×List (Option (List V))×List (Nat×Int))×List Bool):=o.map fun p=>((S'.env.map (fun q=>look p.1.env q.1),S'.bx.map (fun q=>look p.1.bx q.1),S'.cp),p.2.map (·.1))
def MH (o:Option (St×List (Bool×Bool))) (S':St):Option ((List (Option V)×List (Option (List V))×List (Nat×Int))×List Bool):=match o with
 | some p=>some ((S'.env.map (fun p=>some p.2),S'.bx.map (fun p=>some p.2),[]),p.2.map (·.2))
 | none=>some (([],[],[]),[])
theorem gk_ (n:Nat) (S':St) (k:WL C (tlW (aF n T)) Q .normal S') (hw:isW (aF n T)=true:=by kernel_rfl) (h:LZ (Zb n T S) S'=MH (Zb n T S) S':=by kernel_rfl):WL C T Q .normal S:=by
 cases hR:Zb n T S with
 | none=>rw [hR] at h; cases h
 | some p=>
  obtain ⟨S1,l⟩:=p
  rw [hR] at h
  simp only [LZ,MH,Option.map_some,Option.some.injEq,Prod.mk.injEq] at h
  refine bL n hR h.2 ?_
  cases hT:aF n T with
  | nil=>rw [hT] at hw; cases hw
  | cons x T'=>
   rw [hT] at hw k
   cases x with
   | w=>exact Dy S' (.le (lS.le (by simp only [Prod.mk.injEq]; exact h.1))) k
   | c a=>cases hw
   | b id=>cases hw
def runH (n:Nat) (T:List Ic) (S:St):St:=match Zb n T S with
 | some p=>p.1
 | none=>S
def allEqO:Option (St×List (Bool×Bool))→Option (List Bool)
 | some p=>some (p.2.map (·.1))
 | none=>none
def allEqP:Option (St×List (Bool×Bool))→Option (List Bool)
 | some p=>some (p.2.map (·.2))
 | none=>some []
theorem Hj (n:Nat) (k:WL C (aF n T) Q .normal (runH n T S)) (h:allEqO (Zb n T S)=allEqP (Zb n T S):=by kernel_rfl):WL C T Q .normal S:=by
 cases hR:Zb n T S with
 | none=>rw [hR] at h; cases h
 | some p=>
  obtain ⟨S1,l⟩:=p
  unfold runH at k
  rw [hR] at k h
  exact bL n hR (Option.some.inj h) k
theorem rZ_ (n:Nat) (ts:List Nat) (rs:List (Nat×Nat)) (e:List (Nat×V)) (b:List (Nat×List V)) (k:WL C (tlW (aF n T)) Q .normal ⟨e,b,[]⟩)
  (hw:isW (aF n T)=true:=by kernel_rfl) (hr:sE rs=true:=by kernel_rfl) (h:vF ((run n T S).map fun S=>(S.freezes ts).swaps rs) ⟨e,b,[]⟩=vL ⟨e,b,[]⟩:=by kernel_rfl):WL C T Q .normal S:=rz_ n ts rs _ k hw hr h
theorem As (n:Nat) (e:List (Nat×V)) (b:List (Nat×List V)) (k:WL C (tlW (aF n T)) Q .normal ⟨e,b,[]⟩) (hw:isW (aF n T)=true:=by kernel_rfl) (h:vF (run n T S) ⟨e,b,[]⟩=vL ⟨e,b,[]⟩:=by kernel_rfl):WL C T Q .normal S:=rk_ n _ k hw h
theorem uE (n:Nat) (e:List (Nat×V)) (b:List (Nat×List V)) (k:WL C (tlW (aF n T)) Q .normal ⟨e,b,[]⟩) (hw:isW (aF n T)=true:=by kernel_rfl) (h:LZ (Zb n T S) ⟨e,b,[]⟩=MH (Zb n T S) ⟨e,b,[]⟩:=by kernel_rfl):WL C T Q .normal S:=gk_ n _ k hw h
def LT (t:Nat) (u:V):V→V
 | .own t' off sz es=>if t'=t then u else .own t' off sz es
 | c=>c
theorem map_fix {f g h:V→V} (H:∀c,f c=c→g c=h c):∀cs:List V,cs.map f=cs→cs.map g=cs.map h
 | [],_=>rfl
 | c::r,e=>by
  simp only [List.map_cons,List.cons.injEq] at e ⊢
  exact ⟨H c e.1,map_fix H r e.2⟩
def yL (f:V→V):V→V
 | .agg cs=>.agg (cs.map f)
 | c=>f c
theorem oQ {f g h:V→V} (H:∀c,f c=c→g c=h c) (v:V) (e:yL f v=v):yL g v=yL h v:=by
 cases v with
 | agg cs=>simp only [yL,V.agg.injEq] at e ⊢; exact map_fix H cs e
 | _=>exact H _ e
theorem dS (f:V→V) (vs:List V):Hd f (.tup vs) = .tup (vs.map (yL f)):=by
 show V.tup (vs.map _)=_
 congr 1
theorem Yp (f:V→V) (b:Bool) (vs:List V):Hd f (.may b (.tup vs)) = .may b (.tup (vs.map (yL f))):=by
 show V.may b (.tup (vs.map _))=_
 congr 2
theorem KF {f g h:V→V} (H:∀c,f c=c→g c=h c) (v:V) (e:Hd f v=v):Hd g v=Hd h v:=by
 cases v with
 | agg cs=>simp only [Hd,V.agg.injEq] at e ⊢; exact map_fix H cs e
 | tup vs=>
  rw [dS] at e
  rw [dS,dS]
  rw [map_fix (oQ H) vs (by simpa using e)]
 | may b w=>
  cases w with
  | agg cs=>simp only [Hd,V.may.injEq,V.agg.injEq,true_and] at e ⊢; exact map_fix H cs e
  | tup vs=>
   rw [Yp] at e
   rw [Yp,Yp]
   rw [map_fix (oQ H) vs (by simpa using e)]
  | _=>simp only [Hd,V.may.injEq,true_and] at e ⊢; exact H _ e
 | _=>exact H _ e
theorem dQ {f g h:V→V} (H:∀c,f c=c→g c=h c):∀l:List (Nat×V),Pf f l=l→Pf g l=Pf h l
 | [],_=>rfl
 | (a,v)::r,e=>by
  simp only [Pf,List.cons.injEq,Prod.mk.injEq,true_and] at e ⊢
  exact ⟨KF H v e.1,dQ H r e.2⟩
theorem gZ {f g h:V→V} (H:∀c,f c=c→g c=h c):∀l:List (Nat×List V),Wz f l=l→Wz g l=Wz h l
 | [],_=>rfl
 | (a,cs)::r,e=>by
  simp only [Wz,List.cons.injEq,Prod.mk.injEq,true_and] at e ⊢
  exact ⟨map_fix H cs e.1,gZ H r e.2⟩
theorem St.map_fix {f g h:V→V} (H:∀c,f c=c→g c=h c) (S:St) (e:S.map f=S):S.map g=S.map h:=by
 cases S with
 | mk env bx cp=>
  simp only [St.map,St.mk.injEq,and_true] at e ⊢
  exact ⟨dQ H env e.1,gZ H bx e.2⟩
theorem upd_fix {t off sz at_:Nat} {A:List (List V)} {y:List V} (c:V) (e:LT t (.own t off sz A) c=c):lH t sz at_ [y] c=LT t (.own t off sz (Gk off A at_ [y])) c:=by
 cases c with
 | own t' off' sz' es=>
  simp only [LT,lH] at e ⊢
  by_cases h:t'=t
  ·rw [if_pos h] at e ⊢
   simp only [V.own.injEq] at e
   obtain ⟨_,rfl,rfl,rfl⟩:=e
   rw [if_pos h,if_pos rfl,h]
  ·rw [if_neg h,if_neg h]
 | _=>rfl
def stoE (S:St) (v:Cu) (t off sz k:Nat) (A:List (List V)) (y:List V):Bool×Bool×Nat×Bool×Bool×Bool×List V×St:=
 (eC (S.val v),Cq (An (S.val v)),(An (S.val v)).cells.length,Nat.ble (k+(An (S.val v)).cells.length) sz,(An (S.val v)).cells.all (fun c => !Lc c),(An (S.val v)).tags.all (· != t),
  putCells y k ((An (S.val v)).cells.map Ga),(S.freezes (An (S.val v)).tags).map (LT t (.own t off sz A)))
theorem NJ {α:Type} {e:α→List V} {l0:List α} {d:Option Nat} {l:List Bj} {x v:Cu} {n t sz j k off i:Nat} {y:α} (y':α) (hx:S.val x = .optr t sz j k) (hf:S.find t=some (off,l0.map e)) (hy:l0[i]? = some y)
  (k':OL C l T Q ((((S.freezes (An (S.val v)).tags).map (LT t (.own t off sz ((l0.set i y').map e)))).put d .undef)))
  (h:stoE S v t off sz k (l0.map e) (e y)=(true,false,n,true,true,true,e y',S.freezes (An (S.val v)).tags):=by kernel_rfl) (hj:j=off+i:=by kernel_rfl) (hs:(e y).length=sz:=by kernel_rfl):
  OL C (⟨d,.store x v n,none⟩::l) T Q S:=by
 simp only [stoE,Prod.mk.injEq] at h
 obtain ⟨h1,h2,h3,h4,h5,h6,h7,h8⟩:=h
 refine st (sto_ (y':=y') hx rfl (Oj h1) h2 h3 hf hj hy (by rw [←h3]; exact Nat.le_of_ble_eq_true h4) hs h5 h6 h7 ?_)
 rw [St.map_fix (fun c hc=>upd_fix c hc) _ h8,Rp]
 exact k'
theorem NH {α:Type} {e:α→List V} {l0:List α} {d:Option Nat} {l:List Bj} {x:Cu} {t off sz j k n i:Nat} {ag:Bool} {y:α} (hx:S.val x = .optr t sz j k) (hf:S.find t=some (off,l0.map e)) (hy:l0[i]? = some y)
  (k':OL C l T Q (S.put d ((Jw ag n ((e y).drop k)).getD .undef))) (h:(j,Nat.ble (k+n) sz,(e y).length,(Jw ag n ((e y).drop k)).isSome)=(off+i,true,sz,true):=by kernel_rfl):
  OL C (⟨d,.p (.load x n ag),none⟩::l) T Q S:=by
 simp only [Prod.mk.injEq] at h
 obtain ⟨h1,h2,h3,h4⟩:=h
 cases hv:Jw ag n ((e y).drop k) with
 | none=>rw [hv] at h4; cases h4
 | some v=>
  rw [hv] at k'
  exact st (loadO hx hf h1 hy hv (Nat.le_of_ble_eq_true h2) h3 k')
theorem iO {α:Type} {e:α→List V} {l0:List α} {d:Option Nat} {l:List Bj} {x i:Cu} {t off sz:Nat} {q:IntKind} {n:Int} {y:α} (hx:S.val x = .own t off sz (l0.map e)) (hi:S.val i = .int q n) (hy:El l0 n=some y)
  (k':OL C l T Q (S.put d (.optr t sz (off+n.toNat) 0))):OL C (⟨d,.p (.idxA x i sz),none⟩::l) T Q S:=st (idxO hx hi hy k')
theorem Ns {α:Type} {e:α→List V} {l0:List α} {d:Option Nat} {l:List Bj} {x i:Cu} {sz:Nat} {q:IntKind} {n:Int} {y:α} (hx:S.val x = .lst sz (l0.map e)) (hi:S.val i = .int q n) (hy:El l0 n=some y)
  (k':OL C l T Q (S.put d (.iptr (e y)))):OL C (⟨d,.p (.idxA x i sz),none⟩::l) T Q S:=st (idxL hx hi hy k')
theorem xw_ {α:Type} {e:α→List V} {l0:List α} {d:Option Nat} {T':List Ic} {x i:Cu} {t off sz:Nat} {q:IntKind} {n:Int} {y:α} (ha:Xx T=some (some ⟨d,.p (.idxA x i sz),none⟩,T')) (hx:S.val x = .own t off sz (l0.map e)) (hi:S.val i = .int q n) (hy:El l0 n=some y)
  (k':WL C T' Q .normal (S.put d (.optr t sz (off+n.toNat) 0))):WL C T Q .normal S:=by
 unfold Xx at ha
 split at ha<;>cases ha
 ·exact Ah (iO hx hi hy k')
 ·exact Bm (Au trivial (idxO hx hi hy ⟨trivial,k'⟩))
theorem sN {α:Type} {e:α→List V} {l0:List α} {d:Option Nat} {T':List Ic} {x i:Cu} {sz:Nat} {q:IntKind} {n:Int} {y:α} (ha:Xx T=some (some ⟨d,.p (.idxA x i sz),none⟩,T')) (hx:S.val x = .lst sz (l0.map e)) (hi:S.val i = .int q n) (hy:El l0 n=some y)
  (k':WL C T' Q .normal (S.put d (.iptr (e y)))):WL C T Q .normal S:=by
 unfold Xx at ha
 split at ha<;>cases ha
 ·exact Ah (Ns hx hi hy k')
 ·exact Bm (Au trivial (idxL hx hi hy ⟨trivial,k'⟩))
theorem Qb {α:Type} {e:α→List V} {l0:List α} {d:Option Nat} {l:List Bj} {x:Cu} {t off sz:Nat} (hx:S.val x = .own t off sz (l0.map e)) (k':OL C l T Q (S.put d (.int .i64 (l0.length:Int)))) (hz:sz≠0:=by decide):OL C (⟨d,.p (.len x),none⟩::l) T Q S:=st (lenO hx k' hz)
theorem Hf {α:Type} {e:α→List V} {l0:List α} {d:Option Nat} {l:List Bj} {x:Cu} {sz:Nat} (hx:S.val x = .lst sz (l0.map e)) (k':OL C l T Q (S.put d (.int .i64 (l0.length:Int)))) (hz:sz≠0:=by decide):OL C (⟨d,.p (.len x),none⟩::l) T Q S:=st (lenL hx k' hz)
theorem ld_ {α:Type} {e:α→List V} {l0:List α} {x:Cu} {t off sz j k n i:Nat} {ag:Bool} {y:α} (hx:S.val x = .optr t sz j k) (hf:S.find t=some (off,l0.map e)) (hy:l0[i]? = some y)
  (h:(j,Nat.ble (k+n) sz,(e y).length,(Jw ag n ((e y).drop k)).isSome)=(off+i,true,sz,true):=by kernel_rfl):Dm S (.p (.load x n ag)) ((Jw ag n ((e y).drop k)).getD .undef):=by
 simp only [Prod.mk.injEq] at h
 obtain ⟨h1,h2,h3,h4⟩:=h
 cases hv:Jw ag n ((e y).drop k) with
 | none=>rw [hv] at h4; cases h4
 | some v=>exact Ut hx rfl trivial hf h1 hy hv (Nat.le_of_ble_eq_true h2) h3
theorem ci_ {α:Type} {e:α→List V} {l0:List α} {x i:Cu} {t off sz:Nat} {q:IntKind} {n:Int} {y:α} (hx:S.val x = .own t off sz (l0.map e)) (hi:S.val i = .int q n) (hy:El l0 n=some y):Dm S (.p (.idxA x i sz)) (.optr t sz (off+n.toNat) 0):=cidxO hx rfl trivial hi rfl trivial hy
theorem cj_ {α:Type} {e:α→List V} {l0:List α} {x i:Cu} {sz:Nat} {q:IntKind} {n:Int} {y:α} (hx:S.val x = .lst sz (l0.map e)) (hi:S.val i = .int q n) (hy:El l0 n=some y):Dm S (.p (.idxA x i sz)) (.iptr (e y)):=Ua hx rfl trivial hi rfl trivial hy
theorem Xu {α:Type} {e:α→List V} {l0:List α} {x:Cu} {d t off sz j k n i:Nat} {ag:Bool} {y:α} {v:V} (hx:S.val x = .optr t sz j k) (hf:S.find t=some (off,l0.map e)) (hy:l0[i]? = some y) (hl:look S.env d=some v)
  (h:(j,Nat.ble (k+n) sz,(e y).length,Jw ag n ((e y).drop k),S.cp)=(off+i,true,sz,some v,[]):=by kernel_rfl):Dx C ⟨some d,.p (.load x n ag),none⟩ S (fun S'=>aE S' S):=by
 simp only [Prod.mk.injEq] at h
 obtain ⟨h1,h2,h3,h4,h5⟩:=h
 exact Bl (Ut hx (by rfl) trivial hf h1 hy h4 (Nat.le_of_ble_eq_true h2) h3) hl h5
theorem fE {d:Option Nat} {l:List Bj} {f:Nat} {as:List Cu} (LB LR LM:List Nat) {g:Tr} {t:Gs} (H:C f g t) (h3:t.flat=true) (k:OL C l T Q (((S.after (as.map fun x=>An (S.val x)) (d.getD 0) false LB LR LM t).put d (Hd (Hv (d.getD 0) (t.bx.length-LB.length) LB LR) t.r))))
  (h:(Pt S as,Qa (fun v => !Cq v) (as.map fun x=>An (S.val x)),S.give (as.map fun x=>An (S.val x)) LB LR LM false,(Fh LB&&Fh (LR++LM)&&Re Di LM&&LB.all (fun T=>(look S.bx T).isSome)),
   (Re 65 [t.bx.length-LB.length,LM.length]&&Lt (t.newB (d.getD 0) LB.length) LB&&Lt (t.newR (d.getD 0)) LR))=(true,true,g,true,true):=by kernel_rfl):OL C (⟨d,.call f as,none⟩::l) T Q S:=by
 simp only [Prod.mk.injEq] at h
 obtain ⟨a1,a2,a3,a4,a5⟩:=h
 exact st (Up LB LR LM false H (Ls a1) a2 a3 a4 a5 (fun _=>h3) k)
theorem Vv {d:Option Nat} {l:List Bj} {f:Nat} {as:List Cu} (LB LR LM:List Nat) {g:Tr} {t:Gs} (H:C f g t) (k:OL C l T Q (((S.after (as.map fun x=>An (S.val x)) (d.getD 0) true LB LR LM t).put d (Hd (Hv (d.getD 0) (t.bx.length-LB.length) LB LR) t.r))))
  (h:(Pt S as,Qa (fun v => !Cq v) (as.map fun x=>An (S.val x)),S.give (as.map fun x=>An (S.val x)) LB LR LM true,(Fh LB&&Fh (LR++LM)&&Re Di LM&&LB.all (fun T=>(look S.bx T).isSome)),
   (Re 65 [t.bx.length-LB.length,LM.length]&&Lt (t.newB (d.getD 0) LB.length) LB&&Lt (t.newR (d.getD 0)) LR))=(true,true,g,true,true):=by kernel_rfl):OL C (⟨d,.call f as,none⟩::l) T Q S:=by
 simp only [Prod.mk.injEq] at h
 obtain ⟨a1,a2,a3,a4,a5⟩:=h
 exact st (Up LB LR LM true H (Ls a1) a2 a3 a4 a5 (fun h=>nomatch h) k)
theorem o_ {l:List Bj} (k:WL C (.c (.reg l)::T) Q .normal S):OL C l T Q S:=k
theorem d_ {p:DP} (k:WL C (.c (.draw p)::T) Q .normal S):WD C p [] (WL C T Q .normal) S:=k
end Go.Ev
