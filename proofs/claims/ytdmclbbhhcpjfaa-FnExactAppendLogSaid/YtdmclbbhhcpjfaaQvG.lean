/- Many instructions at once: what can be reckoned is reckoned by the kernel. -/
import Derived.Test.YtdmclbbhhcpjfaaQvM
set_option linter.all false
namespace Go.Ev
def Uc:V→Bool
 | .may _ _=>false
 | _=>true
theorem Jc {v:V} (h:Uc v=true):Ag true v:=by cases v<;>first | trivial | cases h
def Wx (S:St) (n:Nat):List (Nat×Nat×Aq)→Bool
 | []=>true
 | p::r=>match Al (Ac (S.val p.2.2)) with
  | true=>false
  | false=>match Nat.beq (Ac (S.val p.2.2)).cells.length p.2.1 with
   | true=>match Nat.ble (p.1+p.2.1) n with
    | true=>Wx S n r
    | false=>false
   | false=>false
theorem Vl {S:St} {n:Nat}:∀ {l:List (Nat×Nat×Aq)},Wx S n l=true→Au (fun p=>Al (Ac (S.val p.2.2))=false∧(Ac (S.val p.2.2)).cells.length=p.2.1∧p.1+p.2.1≤n) l
 | [],_=>trivial
 | p::r,h=>by
  unfold Wx at h
  split at h
  ·cases h
  ·rename_i h1
   split at h
   ·rename_i h2
    split at h
    ·rename_i h3
     exact ⟨⟨h1,Nat.eq_of_beq_eq_true h2,Nat.le_of_ble_eq_true h3⟩,Vl h⟩
    ·cases h
   ·cases h
def Mx (S:St):PU→Bool
 | .mv _ | .un _ _ | .conv _ _ | .binB _ _ _ | .eqs _ _ _ _ | .lenS _ | .strc _ | .ext _ _ | .nilc _ | .xbyte _ _ | .scmp _ _ | .mget _ _=>true
 | .bin op x _=>match op with
  | .eql | .neq | .lss | .leq | .gtr | .geq=>true
  | .sub | .mul | .and | .or | .xor | .andNot=>true
  | .add=>match Ac (S.val x) with
   | .int _ _=>true
   | _=>false
  | _=>false
 | .mn x y | .mx x y=>match Ac (S.val x),Ac (S.val y) with
  | .int k _,.int k' _=>decide (k=k')
  | _,_=>false
 | .load x n _=>match Ac (S.val x) with
  | .ptr t k=>match look S.bx t with
   | some cs=>Nat.ble (k+n) cs.length
   | none=>false
  | .iptr cs=>Nat.ble n cs.length
  | _=>false
 | .fieldA x off=>match Ac (S.val x) with
  | .ptr _ _ | .optr _ _ _ _=>true
  | .iptr cs=>Nat.ble off cs.length
  | _=>false
 | .field x off n _=>match Ac (S.val x) with
  | .agg cs=>Nat.ble (off+n) cs.length
  | _=>false
 | .len x=>match Ac (S.val x) with
  | .lst (_+1) _ | .own _ _ (_+1) _=>true
  | _=>false
 | .build zero ps=>Wx S zero.length ps
 | .fn _ caps=>No (caps.map fun x=>Ac (S.val x))
 | _=>false
theorem Xl {S:St} {o:PU} {φ:Prop} {v:V} (h:Mx S o=true) (h2:pu S (fun x=>Ac (S.val x)) o=some (φ,v)):φ:=by
 cases o with
 | mv x=>simp only [pu,Option.some.injEq,Prod.mk.injEq] at h2; rw [←h2.1]; trivial
 | bin op x y=>
  simp only [pu] at h2
  split at h2
  ·split at h2
   ·cases h
   ·cases h
   ·split at h2
    ·unfold Xg at h2
     split at h2<;>first | (cases h; done) | (cases h2; trivial) | (cases h2)
    ·cases h2
  ·rename_i hx hy
   unfold Xr at h2
   split at h2<;>first | (cases h2; trivial) | skip
   ·simp only [Mx,hx] at h; cases h
   ·cases h2
  ·cases h2
 | binB op x y=>
  simp only [pu] at h2
  split at h2
  ·split at h2<;>first | (cases h2; trivial) | cases h2
  ·cases h2
 | eqs ne ks x y=>
  simp only [pu] at h2
  split at h2
  ·split at h2<;>first | (cases h2; trivial) | cases h2
  ·cases h2
 | un op x=>
  simp only [pu] at h2
  split at h2<;>first | (cases h2; trivial) | cases h2
 | conv k x=>
  simp only [pu] at h2
  split at h2<;>first | (cases h2; trivial) | cases h2
 | lenS x=>
  simp only [pu] at h2
  split at h2<;>first | (cases h2; trivial) | cases h2
 | strc x=>
  simp only [pu] at h2
  split at h2<;>first | (cases h2; trivial) | cases h2
 | ext x i=>
  simp only [pu] at h2
  split at h2
  ·split at h2<;>first | (cases h2; trivial) | cases h2
  ·cases h2
 | nilc x=>
  simp only [pu] at h2
  split at h2<;>first | (cases h2; trivial) | cases h2
 | xbyte x y=>
  simp only [pu] at h2
  split at h2<;>first | (cases h2; trivial) | cases h2
 | mget x y=>
  simp only [pu] at h2
  split at h2<;>first | (cases h2; trivial) | cases h2
 | scmp x y=>
  simp only [pu] at h2
  split at h2<;>first | (cases h2; trivial) | cases h2
 | mn x y=>
  simp only [pu] at h2
  split at h2
  ·rename_i hx hy
   simp only [Mx,hx,hy] at h
   cases h2; exact of_decide_eq_true h
  ·cases h2
 | mx x y=>
  simp only [pu] at h2
  split at h2
  ·rename_i hx hy
   simp only [Mx,hx,hy] at h
   cases h2; exact of_decide_eq_true h
  ·cases h2
 | load x n ag=>
  simp only [pu] at h2
  split at h2
  ·rename_i hx
   split at h2
   ·rename_i hl
    split at h2
    ·simp only [Mx,hx,hl] at h
     cases h2; exact Nat.le_of_ble_eq_true h
    ·cases h2
   ·cases h2
  ·rename_i hx
   split at h2
   ·simp only [Mx,hx] at h
    cases h2; exact Nat.le_of_ble_eq_true h
   ·cases h2
  ·rename_i hx
   simp only [Mx,hx] at h; cases h
  ·cases h2
 | fieldA x off=>
  simp only [pu] at h2
  split at h2
  ·cases h2; trivial
  ·rename_i hx
   simp only [Mx,hx] at h
   cases h2; exact Nat.le_of_ble_eq_true h
  ·cases h2; trivial
  ·cases h2
 | field x off n ag=>
  simp only [pu] at h2
  split at h2
  ·rename_i hx
   split at h2
   ·simp only [Mx,hx] at h
    cases h2; exact Nat.le_of_ble_eq_true h
   ·cases h2
  ·cases h2
 | len x=>
  simp only [pu] at h2
  split at h2
  ·rename_i s es hx
   simp only [Mx,hx] at h
   cases h2
   cases s with
   | zero=>cases h
   | succ n=>exact Nat.succ_ne_zero n
  ·rename_i s es hx
   simp only [Mx,hx] at h
   cases h2
   cases s with
   | zero=>cases h
   | succ n=>exact Nat.succ_ne_zero n
  ·cases h2
 | fn f caps=>simp only [pu,Option.some.injEq,Prod.mk.injEq] at h2; rw [←h2.1]; exact h
 | build zero ps=>simp only [pu,Option.some.injEq,Prod.mk.injEq] at h2; rw [←h2.1]; exact Vl h
 | _=>cases h
def Kb (S:St):List Aq→Bool
 | []=>true
 | x::r=>match Uc (S.val x) with
  | true=>Kb S r
  | false=>false
theorem Hh {S:St}:∀ {l:List Aq},Kb S l=true→Au (fun x=>Ag true (S.val x)) l
 | [],_=>trivial
 | x::r,h=>by
  unfold Kb at h
  split at h
  ·rename_i hp; exact ⟨Jc hp,Hh h⟩
  ·cases h
def cY (sz len:Nat):List (Nat×V)→Bool
 | []=>true
 | p::r=>match Nat.blt p.1 len with
  | true=>match Nat.beq p.2.cells.length sz with
   | true=>match p.2.cells.all (fun c => !Fs c) with
    | true=>cY sz len r
    | false=>false
   | false=>false
  | false=>false
theorem Zb {sz len:Nat}:∀ {l:List (Nat×V)},cY sz len l=true→Au (fun p=>p.1<len∧p.2.cells.length=sz∧p.2.cells.all (fun c => !Fs c)=true) l
 | [],_=>trivial
 | p::r,h=>by
  unfold cY at h
  split at h
  ·rename_i h1
   split at h
   ·rename_i h2
    split at h
    ·rename_i h3
     exact ⟨⟨Nat.le_of_ble_eq_true h1,Nat.eq_of_beq_eq_true h2,h3⟩,Zb h⟩
    ·cases h
   ·cases h
  ·cases h
theorem lO {S:St}:∀ {l:List (Nat×Aq)},Kb S (l.map (·.2))=true→Au (fun p=>nm S p.2) l
 | [],_=>trivial
 | p::r,h=>by
  unfold List.map Kb at h
  split at h
  ·rename_i hp; exact ⟨Jc hp,lO h⟩
  ·cases h
def q1 (i:Az) (S:St):Option St:=
 match i with
 | ⟨d,.p o,none⟩=>match Kb S o.opds with
  | true=>match Mx S o with
   | true=>match pu S (fun x=>Ac (S.val x)) o with
    | some (_,v)=>some (S.putC d v (Ga (fun x=>Ac (S.val x)) o))
    | none=>none
   | false=>none
  | false=>none
 | ⟨some d,.box x,none⟩=>match Uc ((S.drop (64*d)).val x) with
  | true=>match Al (Ac ((S.drop (64*d)).val x)) with
   | true=>none
   | false=>some (((S.drop (64*d)).setBx (64*d) (Ac ((S.drop (64*d)).val x)).cells).put (some d) (.ptr (64*d) 0))
  | false=>none
 | ⟨some d,.alloc z,none⟩=>some (((S.drop (64*d)).setBx (64*d) z).put (some d) (.ptr (64*d) 0))
 | ⟨some d,.nilS sz,none⟩=>some ((S.drop (64*d)).put (some d) (.own (64*d) 0 sz []))
 | ⟨d,.store x v n,none⟩=>match S.val x with
  | .ptr t k=>match Uc (S.val v) with
   | true=>match Al (Ac (S.val v)) with
    | true=>none
    | false=>match Nat.beq (Ac (S.val v)).cells.length n with
     | true=>match look S.bx t with
      | some bs=>match Nat.ble (k+n) bs.length with
       | true=>some ((S.setBx t (Ba bs k (Ac (S.val v)).cells)).put d .undef)
       | false=>none
      | none=>none
     | false=>none
   | false=>none
  | _=>none
 | ⟨some d,.mkS sz zero len parts,none⟩=>match Kb S (parts.map (·.2)) with
  | true=>match cY sz len (parts.map fun p=>(p.1,Ac (S.val p.2))) with
   | true=>some (((S.freezes (Gj (parts.map fun p=>(p.1,Ac (S.val p.2))))).drop (64*d)).put (some d)
    (.own (64*d) 0 sz (Hp sz (List.replicate len zero) ((parts.map fun p=>(p.1,Ac (S.val p.2))).map fun p=>(p.1,p.2.cells.map Bm)))))
   | false=>none
  | false=>none
 | _=>none
theorem mE {C:Ar} {i:Az} {S S':St} {K:St→Prop} (h:q1 i S=some S') (k:K S'):Bt C i S K:=by
 unfold q1 at h
 split at h
 ·split at h
  ·rename_i h1
   split at h
   ·rename_i h2
    split at h
    ·rename_i h3
     cases h
     exact p_ (Hh h1) h3 (Xl h2 h3) k
    ·cases h
   ·cases h
  ·cases h
 ·split at h
  ·rename_i h1
   split at h
   ·cases h
   ·rename_i h2
    cases h
    exact JV rfl (Jc h1) h2 k
  ·cases h
 ·cases h; exact Io k
 ·cases h; exact FN k
 ·split at h
  ·rename_i hx
   split at h
   ·rename_i h1
    split at h
    ·cases h
    ·rename_i h2
     split at h
     ·rename_i h3
      split at h
      ·rename_i h4
       split at h
       ·rename_i h5
        cases h
        exact Kg hx rfl (Jc h1) h2 (Nat.eq_of_beq_eq_true h3) h4 (Nat.le_of_ble_eq_true h5) k
       ·cases h
      ·cases h
     ·cases h
   ·cases h
  ·cases h
 ·split at h
  ·rename_i h1
   split at h
   ·rename_i h2
    cases h
    exact Xi (lO h1) (Zb h2) k
   ·cases h
  ·cases h
 ·cases h
theorem Uf {i:Az} {S S':St} (h:q1 i S=some S'):Br i S:=by
 unfold Br
 split
 ·rename_i o x n ag hop
  split
  ·rename_i hx
   unfold q1 at h
   split at h
   ·rename_i d o' g
    cases hop
    split at h
    ·split at h
     ·rename_i hp
      simp only [Mx,hx] at hp
      cases hp
     ·cases h
    ·cases h
   all_goals first | cases hop | (cases h)
  ·trivial
 ·trivial
def Sl:List Ep→Option (Option Az×List Ep)
 | .c .skip::T=>some (none,T)
 | .c (.seq a b)::T=>some (none,.c a :: .w :: .c b::T)
 | .c (.reg [])::T=>some (none,T)
 | .c (.reg (i::l))::T=>some (some i,.c (.reg l)::T)
 | .c (.block id a)::T=>some (none,.c a :: .b id::T)
 | .c (.draw .fin)::T=>some (none,T)
 | .c (.draw (.take i p))::T=>some (some i,.c (.draw p)::T)
 | .w::T=>some (none,T)
 | .b _::T=>some (none,T)
 | _=>none
def Vi:Nat→List Ep→List Ep
 | 0,T=>T
 | n+1,T=>match Sl T with
  | some (_,T')=>Vi n T'
  | none=>T
def run:Nat→List Ep→St→Option St
 | 0,_,S=>some S
 | n+1,T,S=>match Sl T with
  | some (none,T')=>run n T' S
  | some (some i,T')=>match q1 i S with
   | some S'=>run n T' S'
   | none=>none
  | none=>none
variable {C:Ar} {Q:Ex→St→Prop} {S:St} {T:List Ep}
theorem Vj {T':List Ep} (h:Sl T=some (none,T')) (k:WL C T' Q .normal S):WL C T Q .normal S:=by
 unfold Sl at h
 split at h<;>cases h
 ·exact gC k
 ·exact Bi k
 ·exact k
 ·exact Bw k
 ·exact k
 ·exact mZ k
 ·exact nW k
theorem dS {i:Az} {T':List Ep} {S':St} (h:Sl T=some (some i,T')) (hq:q1 i S=some S') (k:WL C T' Q .normal S'):WL C T Q .normal S:=by
 unfold Sl at h
 split at h<;>cases h
 ·exact Aj (st (mE hq k))
 ·exact Dt (An (Uf hq) (mE hq ⟨trivial,k⟩))
theorem Vu:∀(n:Nat) {T:List Ep} {S S':St},run n T S=some S'→WL C (Vi n T) Q .normal S'→WL C T Q .normal S
 | 0,T,S,S',h,k=>by cases h; exact k
 | n+1,T,S,S',h,k=>by
  unfold run at h
  unfold Vi at k
  split at h
  ·rename_i h1
   rw [h1] at k
   exact Vj h1 (Vu n h k)
  ·rename_i h1
   split at h
   ·rename_i h2
    rw [h1] at k
    exact dS h1 h2 (Vu n h k)
   ·cases h
  ·cases h
def NA:List Ep→List Ep
 | .w::T=>T
 | T=>T
def MZ:List Ep→Bool
 | .w::_=>true
 | _=>false
def dC (o:Option St) (S':St):Option (List (Option V)×List (Option (List V))×List (Nat×Int)):=o.map fun S=>(S'.env.map (fun p=>look S.env p.1),S'.bx.map (fun p=>look S.bx p.1),S'.cp)
def dI (S':St):Option (List (Option V)×List (Option (List V))×List (Nat×Int)):=some (S'.env.map (fun p=>some p.2),S'.bx.map (fun p=>some p.2),[])
theorem QF (n:Nat) (ts:List Nat) (rs:List (Nat×Nat)) (S':St) (k:WL C (NA (Vi n T)) Q .normal S')
  (hw:MZ (Vi n T)=true:=by kernel_rfl) (hr:aY rs=true:=by kernel_rfl) (h:dC ((run n T S).map fun S=>(S.freezes ts).swaps rs) S'=dI S':=by kernel_rfl):WL C T Q .normal S:=by
 cases hR:run n T S with
 | none=>rw [hR] at h; cases h
 | some S1=>
  rw [hR] at h
  refine Vu n hR ?_
  cases hT:Vi n T with
  | nil=>rw [hT] at hw; cases hw
  | cons x T'=>
   rw [hT] at hw k
   cases x with
   | w=>exact Fz S' ((Fg.fz _ ts).trans ((Fg.sw _ rs hr).trans (.le (dQ.le (Option.some.inj h))))) k
   | c a=>cases hw
   | b id=>cases hw
theorem QO (n:Nat) (S':St) (k:WL C (NA (Vi n T)) Q .normal S') (hw:MZ (Vi n T)=true:=by kernel_rfl) (h:dC (run n T S) S'=dI S':=by kernel_rfl):WL C T Q .normal S:=
 QF n [] [] S' k hw rfl (by cases hR:run n T S with | none=>rw [hR] at h; cases h | some S1=>rw [hR] at h; exact h)
def MR (n:Nat) (T:List Ep) (S:St):St:=(run n T S).getD S
theorem Bg (n:Nat) (k:WL C (Vi n T) Q .normal (MR n T S)) (h:(run n T S).isSome=true:=by kernel_rfl):WL C T Q .normal S:=by
 cases hR:run n T S with
 | none=>rw [hR] at h; cases h
 | some S1=>
  refine Vu n hR ?_
  unfold MR at k
  rw [hR] at k
  exact k
def cS:Nat→List Ep→Bool
 | 0,_=>true
 | n+1,T=>match Sl T with
  | some (none,T')=>cS n T'
  | _=>false
theorem Wc:∀(n:Nat) {T:List Ep},cS n T=true→run n T S=some S
 | 0,_,_=>rfl
 | n+1,T,h=>by
  unfold cS at h
  unfold run
  split at h
  ·rename_i h1
   rw [h1]
   exact Wc n h
  ·cases h
theorem cZ (n:Nat) (k:WL C (Vi n T) Q .normal S) (h:cS n T=true:=by kernel_rfl):WL C T Q .normal S:=Vu n (Wc n h) k
def IS (o:Option St) (res:List Wr) (nb:Nat):Option (Bool×V×List (List V)):=
 match o with
 | none=>none
 | some S=>match mK S res with
  | none=>none
  | some v=>match Jp S (Rn nb++Ct v.flat) with
   | none=>none
   | some css=>some (Ld 33 [(Fn (v.flat++css.flatten)).length,(Ct v.flat).length],Dn (Pm (Fn (v.flat++css.flatten)) (Ct v.flat)) v,Lf (Pm (Fn (v.flat++css.flatten)) (Ct v.flat)) css)
def lC:List Ep→Bool
 | .c .ret::_=>true
 | _=>false
theorem mH {res:List Wr} {nb:Nat} {t:Cz} (n:Nat) (hQ:∀S',FQ res nb t .ret S'→Q .ret S') (ts:List Nat:=[]) (h6:t.rw=[]:=by exact rfl) (hr:lC (Vi n T)=true:=by kernel_rfl)
  (h:IS ((run n T S).map fun S=>S.freezes ts) res nb=some (true,t.r,t.bx):=by kernel_rfl):WL C T Q .normal S:=by
 cases hR:run n T S with
 | none=>rw [hR] at h; cases h
 | some S1=>
  rw [hR] at h
  refine Vu n hR ?_
  cases hT:Vi n T with
  | nil=>rw [hT] at hr; cases hr
  | cons x T'=>
   rw [hT] at hr
   unfold lC at hr
   split at hr
   ·rename_i e
    cases e
    refine Zf (hQ _ ?_)
    refine MQ (Fg.fz _ ts) ?_
    unfold IS at h
    split at h
    ·cases h
    ·rename_i S2 e2
     obtain rfl:=Option.some.inj e2
     split at h
     ·cases h
     ·rename_i h1
      split at h
      ·cases h
      ·rename_i h2
       simp only [Option.some.injEq,Prod.mk.injEq] at h
       exact Lp h1 h2 h.1 h.2.1 h.2.2 (by rw [h6]; trivial)
   ·cases hr
theorem Dq {res:List Wr} {nb:Nat} {t:Cz} (n:Nat) (ts:List Nat:=[]) (h6:t.rw=[]:=by exact rfl) (hr:lC (Vi n T)=true:=by kernel_rfl)
  (h:IS ((run n T S).map fun S=>S.freezes ts) res nb=some (true,t.r,t.bx):=by kernel_rfl):WL C T (FQ res nb t) .normal S:=mH n (fun _ h=>h) ts h6 hr h
theorem bb {α β:Type} {o:Option α} {f:α→Option β} {r:β} {P:Prop} (h:o.bind f=some r) (k:∀x,o=some x→f x=some r→P):P:=by
 obtain ⟨x,h1,h2⟩:=bnd h
 exact k x h1 h2
theorem bv {α β:Type} {e:α} {f:α→Option β} {r:β} {P:Prop} (h:Bu e f=some r) (k:∀x,x=e→f x=some r→P):P:=k e rfl h
theorem gg {α:Type} {c:Prop} [Decidable c] {a:Option α} {r:α} {P:Prop} (h:(if c then a else none)=some r) (k:c→a=some r→P):P:=k (PM h).1 (PM h).2
theorem kn {σ ρ:Type} {K:Ex→St→Prop} {st:σ→St→Prop} {o:σ⊕ρ} {s':σ} {S' S'':St} (hK:∀s',o = .inl s'→∀S' S'',Fg S' S''→st s' S''→K .normal S') (h1:o = .inl s') (h2:st s' S'')
  (h:(S''.env.map (fun p=>look S'.env p.1),S''.bx.map (fun p=>look S'.bx p.1),S''.cp)=(S''.env.map (fun p=>some p.2),S''.bx.map (fun p=>some p.2),([]:List (Nat×Int))):=by kernel_rfl):K .normal S':=hK _ h1 _ _ (Fp h) h2
def cL (S:St) (j:Az):Option (Option V):=
 match j with
 | ⟨some _,.p o,none⟩=>match Kb S o.opds with
  | true=>match Mx S o with
   | true=>match pu S (fun x=>Ac (S.val x)) o with
    | some (_,v)=>some (some v)
    | none=>none
   | false=>none
  | false=>none
 | _=>none
def Tg (S:St) (j:Az):Option (Option V):=
 match j with
 | ⟨some d,.p _,none⟩=>some (look S.env d)
 | _=>some none
theorem MH {C:Ar} {X:List Az} {S:St} {j:Az} (h:cL S j=Tg S j) (hc:S.cp=[]):(Br j S∨j∈X)∧Bt C j S (fun S'=>Sk S' S):=by
 unfold cL at h
 split at h
 ·rename_i d o
  split at h
  ·rename_i h1
   split at h
   ·rename_i h2
    split at h
    ·rename_i h3
     have h4:some _=look S.env d:=Option.some.inj h
     refine ⟨.inl ?_,?_⟩
     ·exact Uf (S':=S.putC (some d) _ (Ga (fun x=>Ac (S.val x)) o)) (by simp only [q1,h1,h2,h3]; rfl)
     ·exact Ee ⟨Hh h1,_,h3,Xl h2 h3⟩ h4.symm hc
    ·simp only [Tg] at h; cases h
   ·simp only [Tg] at h; cases h
  ·simp only [Tg] at h; cases h
 ·unfold Tg at h
  split at h
  ·cases h
  ·cases h
theorem cK {C:Ar} {X:List Az} {S:St} (hc:S.cp=[]):∀ {l:List Az},l.map (cL S)=l.map (Tg S)→Gl C X l S
 | [],_=>trivial
 | j::r,h=>by
  simp only [List.map_cons,List.cons.injEq] at h
  exact ⟨MH h.1 hc,cK hc h.2⟩
theorem hB {C:Ar} {X l:List Az} {S:St} (h:(l.map (cL S),S.cp)=(l.map (Tg S),[]):=by kernel_rfl):Gl C X l S:=by
 simp only [Prod.mk.injEq] at h
 exact cK h.2 h.1
theorem d0 {C:Ar} {K:St→Prop} {S:St} {held:List Az} {r:DP} (hh:Gl C [] held S) (k:WD C r [] K S):∃S1,Fg S S1∧∃X',Gl C X' held S1∧Da C X' S1∧WD C r X' K S1:=⟨S,Fg.refl S,[],hh,trivial,k⟩
theorem dw {C:Ar} {K:St→Prop} {S:St} {held:List Az} {r:DP} (e:List (Nat×V)) (b:List (Nat×List V)) (hh:Gl C [] held ⟨e,b,[]⟩) (k:WD C r [] K ⟨e,b,[]⟩)
  (h:(e.map (fun p=>look S.env p.1),b.map (fun p=>look S.bx p.1))=(e.map (fun p=>some p.2),b.map (fun p=>some p.2)):=by kernel_rfl):∃S1,Fg S S1∧∃X',Gl C X' held S1∧Da C X' S1∧WD C r X' K S1:=
 ⟨⟨e,b,[]⟩,Fp (by simp only [Prod.mk.injEq] at h ⊢; exact ⟨h.1,h.2,trivial⟩),[],hh,trivial,k⟩
theorem JK {C:Ar} {K:St→Prop} {S:St} {held X:List Az} {p rest:DP} {d:Option Nat} {f:Nat} {as:List Aq} {gv:List V} {r:V} (H:C f ⟨gv,[]⟩ ⟨r,[],[]⟩) (h3:r.flat.all Ek=true)
  (k:∃S1,Fg ((S.drops (Kd (d.getD 0) (Aw r.flat))).put d (Dn (Ed (d.getD 0) 0 [] []) r)) S1∧∃X',Gl C X' held S1∧Da C X' S1∧WD C p X' K S1) (k2:WD C rest X K S)
  (h:(Kb S as,Km (fun v => !Al v) (as.map fun x=>Ac (S.val x)),(as.map fun x=>Ac (S.val x)).map (mapW (S.liftC [] [] [] false)))=(true,true,gv):=by kernel_rfl):WD C (.alt held ⟨d,.call f as,none⟩ p rest) X K S:=by
 simp only [Prod.mk.injEq] at h
 exact Fu (Jh false H (Hh h.1) h.2.1 h.2.2 (fun _=>h3) k) k2
theorem ar {a b:Bool} (h:b=true) (ha:a=true:=by exact rfl):(a&&b)=true:=Fh ha h
theorem af {α:Type} {e:α→List V} {xs:List α} {t off sz:Nat} {b:Bool} (h:b=true) (h1:∀x,(e x).all scal=true:=by exact fun _=>rfl):(Ek (.own t off sz (xs.map e))&&b)=true:=Fh (QM h1) h
theorem jn {R G:St→Prop} {S' S1:St} (hJ:∀S S1,Fg S S1→R S1→G S) (h1:R S1)
  (h:(S1.env.map (fun p=>look S'.env p.1),S1.bx.map (fun p=>look S'.bx p.1),S1.cp)=(S1.env.map (fun p=>some p.2),S1.bx.map (fun p=>some p.2),([]:List (Nat×Int))):=by kernel_rfl):G S':=hJ _ _ (Fp h) h1
theorem Dk {α:Type} {c:Aq} {a b:IR} {cb:Bool} {x y r:α} (h0:(if cb=true then x else y)=r) (k1:cb=true→x=r→WL C (.c a::T) Q .normal S) (k2:cb=false→y=r→WL C (.c b::T) Q .normal S)
  (hc:S.val c = .bool cb:=by kernel_rfl):WL C (.c (.ite c a b)::T) Q .normal S:=IN hc (fun h=>k1 h (ip h h0)) (fun h=>k2 h (PO h h0))
def jV (S:St) (as:List Aq):Bool×Bool×List V:=(Kb S as,Km (fun v => !Al v) (as.map fun x=>Ac (S.val x)),(as.map fun x=>Ac (S.val x)).map (mapW (S.liftC [] [] [] false)))
theorem Mv {d:Option Nat} {l:List Az} {f:Nat} {as:List Aq} {gv:List V} {r:V} (H:C f ⟨gv,[]⟩ ⟨r,[],[]⟩) (h3:r.flat.all Ek=true)
  (k:OL C l T Q ((S.drops (Kd (d.getD 0) (Aw r.flat))).put d (Dn (Ed (d.getD 0) 0 [] []) r))) (h:jV S as=(true,true,gv):=by kernel_rfl):OL C (⟨d,.call f as,none⟩::l) T Q S:=by
 simp only [jV,Prod.mk.injEq] at h
 exact st (Jh false H (Hh h.1) h.2.1 h.2.2 (fun _=>h3) k)
theorem Qg {d:Option Nat} {l:List Az} {f:Nat} {as:List Aq} {gv:List V} {r:V} (H:C f ⟨gv,[]⟩ ⟨r,[],[]⟩)
  (k:OL C l T Q ((S.drops (Kd (d.getD 0) (Aw r.flat))).put d (Dn (Ed (d.getD 0) 0 [] []) r))) (h:jV S as=(true,true,gv):=by kernel_rfl) (h3:r.flat.all Ek=true:=by kernel_rfl):OL C (⟨d,.call f as,none⟩::l) T Q S:=Mv H h3 k h
def Yx (S:St) (g:Bool):List Aq→List (Bool×Bool)
 | []=>[]
 | x::r=>match S.val x with
  | .may b _=>(b,g)::Yx S g r
  | _=>Yx S g r
def EC (b:Bool):V→List (Bool×Bool)
 | .may c _=>[(c,b)]
 | _=>[]
abbrev Ka (l:List (Bool×Bool)):Prop:=l.map (·.1)=l.map (·.2)
theorem Tu {S:St} {g:Bool} (hg:g=true):∀ {l:List Aq},Ka (Yx S g l)→Au (fun x=>Ag true (S.val x)) l
 | [],_=>trivial
 | x::r,h=>by
  unfold Yx at h
  split at h
  ·rename_i hx
   simp only [Ka,List.map_cons,List.cons.injEq] at h
   refine ⟨?_,Tu hg h.2⟩
   show Ag true (S.val x)
   rw [hx]
   exact fun _=>by rw [h.1]; exact hg
  ·rename_i hx
   refine ⟨?_,Tu hg h⟩
   show Ag true (S.val x)
   cases hv:S.val x<;>first | trivial | exact absurd hv (hx _ _)
theorem cR {b c:Bool} {v:V} (h:Ka (EC b v)) (hb:c=true→b=true):Ag c v:=by
 cases v with
 | may x y=>
  simp only [Ka,EC,List.map_cons,List.map_nil,List.cons.injEq,and_true] at h
  exact fun hc=>by rw [h]; exact hb hc
 | _=>trivial
def q2 (i:Az) (S:St):Option (St×List (Bool×Bool)):=
 match i with
 | ⟨d,.p o,some (gs,want)⟩=>match La (S.val (.t gs)) want with
  | some g=>match Mx S o with
   | true=>match pu S (fun x=>Ac (S.val x)) o with
    | some (_,v)=>some (S.put d (.may g v),Yx S g o.opds)
    | none=>none
   | false=>none
  | none=>none
 | ⟨d,.pick c a b,none⟩=>match S.val c with
  | .bool cb=>some (S.put d (Nf cb (Ac (S.val a)) (Ac (S.val b))),EC (cb==true) (S.val a)++EC (cb==false) (S.val b))
  | _=>none
 | i=>match q1 i S with
  | some S'=>some (S',[])
  | none=>none
theorem Wn {a b:List (Bool×Bool)} (h:Ka (a++b)):Ka a:=by
 simp only [Ka,List.map_append] at h
 exact (List.append_inj h (by simp)).1
theorem bK {a b:List (Bool×Bool)} (h:Ka (a++b)):Ka b:=by
 simp only [Ka,List.map_append] at h
 exact (List.append_inj h (by simp)).2
theorem FS {C:Ar} {i:Az} {S S':St} {l:List (Bool×Bool)} {K:St→Prop} (h:q2 i S=some (S',l)) (hl:Ka l) (k:K S'):Bt C i S K:=by
 unfold q2 at h
 split at h
 ·split at h
  ·rename_i hg
   split at h
   ·rename_i h2
    split at h
    ·rename_i h3
     cases h
     exact Ei hg (fun e=>⟨Tu e hl,_,h3,Xl h2 h3⟩) k
    ·cases h
   ·cases h
  ·cases h
 ·split at h
  ·rename_i hc
   cases h
   exact Gt hc rfl rfl (cR (Wn hl) fun e=>by rw [e]; rfl) (cR (bK hl) fun e=>eG e) rfl k
  ·cases h
 ·split at h
  ·rename_i h1
   cases h
   exact mE h1 k
  ·cases h
theorem mG {i:Az} {S S':St} {l:List (Bool×Bool)} (h:q2 i S=some (S',l)):Br i S:=by
 unfold q2 at h
 split at h
 ·rename_i d o gs want
  unfold Br
  split
  ·rename_i x n ag hop
   split
   ·rename_i hx
    cases hop
    split at h
    ·split at h
     ·rename_i hp
      simp only [Mx,hx] at hp
      cases hp
     ·cases h
    ·cases h
   ·trivial
  ·trivial
 ·trivial
 ·split at h
  ·rename_i h1
   exact Uf h1
  ·cases h
def Zg:Nat→List Ep→St→Option (St×List (Bool×Bool))
 | 0,_,S=>some (S,[])
 | n+1,T,S=>match Sl T with
  | some (none,T')=>Zg n T' S
  | some (some i,T')=>match q2 i S with
   | some (S',l)=>match Zg n T' S' with
    | some (S2,l2)=>some (S2,l++l2)
    | none=>none
   | none=>none
  | none=>none
theorem Xn:∀(n:Nat) {T:List Ep} {S S':St} {l:List (Bool×Bool)},Zg n T S=some (S',l)→Ka l→WL C (Vi n T) Q .normal S'→WL C T Q .normal S
 | 0,T,S,S',l,h,_,k=>by cases h; exact k
 | n+1,T,S,S',l,h,hl,k=>by
  unfold Zg at h
  unfold Vi at k
  split at h
  ·rename_i h1
   rw [h1] at k
   exact Vj h1 (Xn n h hl k)
  ·rename_i i T' h1
   split at h
   ·rename_i S1 l1 h2
    rw [h1] at k
    split at h
    ·rename_i h3
     cases h
     have kk:=Xn n h3 (bK hl) k
     unfold Sl at h1
     split at h1<;>cases h1
     ·exact Aj (st (FS h2 (Wn hl) kk))
     ·exact Dt (An (mG h2) (FS h2 (Wn hl) ⟨trivial,kk⟩))
    ·cases h
   ·cases h
  ·cases h
def MS (n:Nat) (T:List Ep) (S:St):St:=match Zg n T S with
 | some p=>p.1
 | none=>S
def HO:Option (St×List (Bool×Bool))→Option (List Bool)
 | some p=>some (p.2.map (·.1))
 | none=>none
def HP:Option (St×List (Bool×Bool))→Option (List Bool)
 | some p=>some (p.2.map (·.2))
 | none=>some []
theorem JL (n:Nat) (k:WL C (Vi n T) Q .normal (MS n T S)) (h:HO (Zg n T S)=HP (Zg n T S):=by kernel_rfl):WL C T Q .normal S:=by
 cases hR:Zg n T S with
 | none=>rw [hR] at h; cases h
 | some p=>
  obtain ⟨S1,l⟩:=p
  unfold MS at k
  rw [hR] at k h
  exact Xn n hR (Option.some.inj h) k
theorem JN (n:Nat) (ts:List Nat) (rs:List (Nat×Nat)) (e:List (Nat×V)) (b:List (Nat×List V)) (k:WL C (NA (Vi n T)) Q .normal ⟨e,b,[]⟩)
  (hw:MZ (Vi n T)=true:=by kernel_rfl) (hr:aY rs=true:=by kernel_rfl) (h:dC ((run n T S).map fun S=>(S.freezes ts).swaps rs) ⟨e,b,[]⟩=dI ⟨e,b,[]⟩:=by kernel_rfl):WL C T Q .normal S:=QF n ts rs _ k hw hr h
theorem At (n:Nat) (e:List (Nat×V)) (b:List (Nat×List V)) (k:WL C (NA (Vi n T)) Q .normal ⟨e,b,[]⟩) (hw:MZ (Vi n T)=true:=by kernel_rfl) (h:dC (run n T S) ⟨e,b,[]⟩=dI ⟨e,b,[]⟩:=by kernel_rfl):WL C T Q .normal S:=QO n _ k hw h
def mJ (t:Nat) (u:V):V→V
 | .own t' off sz es=>if t'=t then u else .own t' off sz es
 | c=>c
theorem map_fix {f g h:V→V} (H:∀c,f c=c→g c=h c):∀cs:List V,cs.map f=cs→cs.map g=cs.map h
 | [],_=>rfl
 | c::r,e=>by
  simp only [List.map_cons,List.cons.injEq] at e ⊢
  exact ⟨H c e.1,map_fix H r e.2⟩
def fQ (f:V→V):V→V
 | .agg cs=>.agg (cs.map f)
 | c=>f c
theorem Zm {f g h:V→V} (H:∀c,f c=c→g c=h c) (v:V) (e:fQ f v=v):fQ g v=fQ h v:=by
 cases v with
 | agg cs=>simp only [fQ,V.agg.injEq] at e ⊢; exact map_fix H cs e
 | _=>exact H _ e
theorem Tr (f:V→V) (vs:List V):Dn f (.tup vs) = .tup (vs.map (fQ f)):=by
 show V.tup (vs.map _)=_
 congr 1
theorem Qn (f:V→V) (b:Bool) (vs:List V):Dn f (.may b (.tup vs)) = .may b (.tup (vs.map (fQ f))):=by
 show V.may b (.tup (vs.map _))=_
 congr 2
theorem lH {f g h:V→V} (H:∀c,f c=c→g c=h c) (v:V) (e:Dn f v=v):Dn g v=Dn h v:=by
 cases v with
 | agg cs=>simp only [Dn,V.agg.injEq] at e ⊢; exact map_fix H cs e
 | tup vs=>
  rw [Tr] at e
  rw [Tr,Tr]
  rw [map_fix (Zm H) vs (by simpa using e)]
 | may b w=>
  cases w with
  | agg cs=>simp only [Dn,V.may.injEq,V.agg.injEq,true_and] at e ⊢; exact map_fix H cs e
  | tup vs=>
   rw [Qn] at e
   rw [Qn,Qn]
   rw [map_fix (Zm H) vs (by simpa using e)]
  | _=>simp only [Dn,V.may.injEq,true_and] at e ⊢; exact H _ e
 | _=>exact H _ e
theorem Tp {f g h:V→V} (H:∀c,f c=c→g c=h c):∀l:List (Nat×V),Hu f l=l→Hu g l=Hu h l
 | [],_=>rfl
 | (a,v)::r,e=>by
  simp only [Hu,List.cons.injEq,Prod.mk.injEq,true_and] at e ⊢
  exact ⟨lH H v e.1,Tp H r e.2⟩
theorem Vx {f g h:V→V} (H:∀c,f c=c→g c=h c):∀l:List (Nat×List V),Lg f l=l→Lg g l=Lg h l
 | [],_=>rfl
 | (a,cs)::r,e=>by
  simp only [Lg,List.cons.injEq,Prod.mk.injEq,true_and] at e ⊢
  exact ⟨map_fix H cs e.1,Vx H r e.2⟩
theorem St.map_fix {f g h:V→V} (H:∀c,f c=c→g c=h c) (S:St) (e:S.map f=S):S.map g=S.map h:=by
 cases S with
 | mk env bx cp=>
  simp only [St.map,St.mk.injEq,and_true] at e ⊢
  exact ⟨Tp H env e.1,Vx H bx e.2⟩
theorem EN {t off sz at_:Nat} {A:List (List V)} {y:List V} (c:V) (e:mJ t (.own t off sz A) c=c):Vd t sz at_ [y] c=mJ t (.own t off sz (Dd off A at_ [y])) c:=by
 cases c with
 | own t' off' sz' es=>
  simp only [mJ,Vd] at e ⊢
  by_cases h:t'=t
  ·rw [if_pos h] at e ⊢
   simp only [V.own.injEq] at e
   obtain ⟨_,rfl,rfl,rfl⟩:=e
   rw [if_pos h,if_pos rfl,h]
  ·rw [if_neg h,if_neg h]
 | _=>rfl
def MT (S:St) (v:Aq) (t off sz k:Nat) (A:List (List V)) (y:List V):Bool×Bool×Nat×Bool×Bool×Bool×List V×St:=
 (Uc (S.val v),Al (Ac (S.val v)),(Ac (S.val v)).cells.length,Nat.ble (k+(Ac (S.val v)).cells.length) sz,(Ac (S.val v)).cells.all (fun c => !Fs c),(Ac (S.val v)).tags.all (· != t),
  Ba y k ((Ac (S.val v)).cells.map Bm),(S.freezes (Ac (S.val v)).tags).map (mJ t (.own t off sz A)))
theorem PW {α:Type} {e:α→List V} {l0:List α} {d:Option Nat} {l:List Az} {x v:Aq} {n t sz j k off i:Nat} {y:α} (y':α) (hx:S.val x = .optr t sz j k) (hf:S.find t=some (off,l0.map e)) (hy:l0[i]? = some y)
  (k':OL C l T Q ((((S.freezes (Ac (S.val v)).tags).map (mJ t (.own t off sz ((l0.set i y').map e)))).put d .undef)))
  (h:MT S v t off sz k (l0.map e) (e y)=(true,false,n,true,true,true,e y',S.freezes (Ac (S.val v)).tags):=by kernel_rfl) (hj:j=off+i:=by kernel_rfl) (hs:(e y).length=sz:=by kernel_rfl) (hdp:Ao t=false:=by rfl):
  OL C (⟨d,.store x v n,none⟩::l) T Q S:=by
 simp only [MT,Prod.mk.injEq] at h
 obtain ⟨h1,h2,h3,h4,h5,h6,h7,h8⟩:=h
 refine st (PX (y':=y') hx rfl (Jc h1) h2 h3 hf hj hy (by rw [←h3]; exact Nat.le_of_ble_eq_true h4) hs h5 h6 h7 ?_ hdp)
 rw [St.map_fix (fun c hc=>EN c hc) _ h8,Ll]
 exact k'
theorem JO {α:Type} {e:α→List V} {l0:List α} {d:Option Nat} {l:List Az} {x i:Aq} {t off sz:Nat} {q:IntKind} {n:Int} {y:α} (hx:S.val x = .own t off sz (l0.map e)) (hi:S.val i = .int q n) (hy:Gb l0 n=some y)
  (k':OL C l T Q (S.put d (.optr t sz (off+n.toNat) 0))):OL C (⟨d,.p (.idxA x i sz),none⟩::l) T Q S:=st (PN hx hi hy k')
theorem bE {α:Type} {e:α→List V} {l0:List α} {d:Option Nat} {l:List Az} {x i:Aq} {sz:Nat} {q:IntKind} {n:Int} {y:α} (hx:S.val x = .lst sz (l0.map e)) (hi:S.val i = .int q n) (hy:Gb l0 n=some y)
  (k':OL C l T Q (S.put d (.iptr (e y)))):OL C (⟨d,.p (.idxA x i sz),none⟩::l) T Q S:=st (MI hx hi hy k')
theorem JF {α:Type} {e:α→List V} {l0:List α} {d:Option Nat} {T':List Ep} {x i:Aq} {sz:Nat} {q:IntKind} {n:Int} {y:α} (ha:Sl T=some (some ⟨d,.p (.idxA x i sz),none⟩,T')) (hx:S.val x = .lst sz (l0.map e)) (hi:S.val i = .int q n) (hy:Gb l0 n=some y)
  (k':WL C T' Q .normal (S.put d (.iptr (e y)))):WL C T Q .normal S:=by
 unfold Sl at ha
 split at ha<;>cases ha
 ·exact Aj (bE hx hi hy k')
 ·exact Dt (An trivial (MI hx hi hy ⟨trivial,k'⟩))
theorem lP {α:Type} {e:α→List V} {l0:List α} {d:Option Nat} {l:List Az} {x:Aq} {t off sz:Nat} (hx:S.val x = .own t off sz (l0.map e)) (k':OL C l T Q (S.put d (.int .i64 (l0.length:Int)))) (hz:sz≠0:=by decide):OL C (⟨d,.p (.len x),none⟩::l) T Q S:=st (PR hx k' hz)
theorem Iw {α:Type} {e:α→List V} {l0:List α} {d:Option Nat} {l:List Az} {x:Aq} {sz:Nat} (hx:S.val x = .lst sz (l0.map e)) (k':OL C l T Q (S.put d (.int .i64 (l0.length:Int)))) (hz:sz≠0:=by decide):OL C (⟨d,.p (.len x),none⟩::l) T Q S:=st (PQ hx k' hz)
theorem PP {α:Type} {e:α→List V} {l0:List α} {x:Aq} {t off sz j k n i:Nat} {ag:Bool} {y:α} (hx:S.val x = .optr t sz j k) (hf:S.find t=some (off,l0.map e)) (hy:l0[i]? = some y)
  (h:(j,Nat.ble (k+n) sz,(e y).length,(Gs ag n ((e y).drop k)).isSome)=(off+i,true,sz,true):=by kernel_rfl) (hdp:Ao t=false:=by rfl):Ca S (.p (.load x n ag)) ((Gs ag n ((e y).drop k)).getD .undef):=by
 simp only [Prod.mk.injEq] at h
 obtain ⟨h1,h2,h3,h4⟩:=h
 cases hv:Gs ag n ((e y).drop k) with
 | none=>rw [hv] at h4; cases h4
 | some v=>exact HX hx rfl trivial hf h1 hy hv (Nat.le_of_ble_eq_true h2) h3 hdp
theorem QL {α:Type} {e:α→List V} {l0:List α} {x i:Aq} {t off sz:Nat} {q:IntKind} {n:Int} {y:α} (hx:S.val x = .own t off sz (l0.map e)) (hi:S.val i = .int q n) (hy:Gb l0 n=some y):Ca S (.p (.idxA x i sz)) (.optr t sz (off+n.toNat) 0):=LZ hx rfl trivial hi rfl trivial hy
theorem PH {d:Option Nat} {l:List Az} {f:Nat} {as:List Aq} (LB LR LM:List Nat) {g:Mr} {t:Cz} (H:C f g t) (h3:t.flat=true) (k:OL C l T Q (((S.after (as.map fun x=>Ac (S.val x)) (d.getD 0) false LB LR LM t).put d (Dn (Ed (d.getD 0) (t.bx.length-LB.length) LB LR) t.r))))
  (h:(Kb S as,Km (fun v => !Al v) (as.map fun x=>Ac (S.val x)),S.give (as.map fun x=>Ac (S.val x)) LB LR LM false,(Ay LB&&Ay (LR++LM)&&Ld Am LM&&LB.all (fun T=>(look S.bx T).isSome)),
   (Ld 33 [t.bx.length-LB.length,LM.length,LR.length]&&Hi (t.newB (d.getD 0) LB.length) LB&&Hi (t.newR (d.getD 0)) LR))=(true,true,g,true,true):=by kernel_rfl):OL C (⟨d,.call f as,none⟩::l) T Q S:=by
 simp only [Prod.mk.injEq] at h
 obtain ⟨a1,a2,a3,a4,a5⟩:=h
 exact st (jU LB LR LM false H (Hh a1) a2 a3 a4 a5 (fun _=>h3) k)
theorem PI {d:Option Nat} {l:List Az} {f:Nat} {as:List Aq} (LB LR LM:List Nat) {g:Mr} {t:Cz} (H:C f g t) (k:OL C l T Q (((S.after (as.map fun x=>Ac (S.val x)) (d.getD 0) true LB LR LM t).put d (Dn (Ed (d.getD 0) (t.bx.length-LB.length) LB LR) t.r))))
  (h:(Kb S as,Km (fun v => !Al v) (as.map fun x=>Ac (S.val x)),S.give (as.map fun x=>Ac (S.val x)) LB LR LM true,(Ay LB&&Ay (LR++LM)&&Ld Am LM&&LB.all (fun T=>(look S.bx T).isSome)),
   (Ld 33 [t.bx.length-LB.length,LM.length,LR.length]&&Hi (t.newB (d.getD 0) LB.length) LB&&Hi (t.newR (d.getD 0)) LR))=(true,true,g,true,true):=by kernel_rfl):OL C (⟨d,.call f as,none⟩::l) T Q S:=by
 simp only [Prod.mk.injEq] at h
 obtain ⟨a1,a2,a3,a4,a5⟩:=h
 exact st (jU LB LR LM true H (Hh a1) a2 a3 a4 a5 (fun h=>nomatch h) k)
theorem o_ {l:List Az} (k:WL C (.c (.reg l)::T) Q .normal S):OL C l T Q S:=k
theorem d_ {p:DP} (k:WL C (.c (.draw p)::T) Q .normal S):WD C p [] (WL C T Q .normal) S:=k
end Go.Ev
