/- Many instructions at once: what can be reckoned is reckoned by the kernel. -/
import Derived.Test.YtnkhjipmmomjoaaQvM
set_option linter.all false
namespace Go.Ev
def Yc:V→Bool
 | .may _ _=>false
 | _=>true
theorem Np {v:V} (h:Yc v=true):Au true v:=by cases v<;>first | trivial | cases h
def Xe (S:St) (n:Nat):List (Nat×Nat×Bm)→Bool
 | []=>true
 | p::r=>match Bk (Am (S.val p.2.2)) with
  | true=>false
  | false=>match Nat.beq (Am (S.val p.2.2)).cells.length p.2.1 with
   | true=>match Nat.ble (p.1+p.2.1) n with
    | true=>Xe S n r
    | false=>false
   | false=>false
theorem Wb {S:St} {n:Nat}:∀ {l:List (Nat×Nat×Bm)},Xe S n l=true→Bt (fun p=>Bk (Am (S.val p.2.2))=false∧(Am (S.val p.2.2)).cells.length=p.2.1∧p.1+p.2.1≤n) l
 | [],_=>trivial
 | p::r,h=>by
  unfold Xe at h
  split at h
  ·cases h
  ·rename_i h1
   split at h
   ·rename_i h2
    split at h
    ·rename_i h3
     exact ⟨⟨h1,Nat.eq_of_beq_eq_true h2,Nat.le_of_ble_eq_true h3⟩,Wb h⟩
    ·cases h
   ·cases h
def Nu (S:St):PU→Bool
 | .mv _ | .un _ _ | .conv _ _ | .binB _ _ _ | .eqs _ _ _ _ | .lenS _ | .strc _ | .ext _ _ | .nilc _ | .xbyte _ _ | .scmp _ _ | .mget _ _=>true
 | .bin op x _=>match op with
  | .eql | .neq | .lss | .leq | .gtr | .geq=>true
  | .sub | .mul | .and | .or | .xor | .andNot=>true
  | .add=>match Am (S.val x) with
   | .int _ _=>true
   | _=>false
  | _=>false
 | .mn x y | .mx x y=>match Am (S.val x),Am (S.val y) with
  | .int k _,.int k' _=>decide (k=k')
  | _,_=>false
 | .load x n _=>match Am (S.val x) with
  | .ptr t k=>match look S.bx t with
   | some cs=>Nat.ble (k+n) cs.length
   | none=>false
  | .iptr cs=>Nat.ble n cs.length
  | _=>false
 | .fieldA x off=>match Am (S.val x) with
  | .ptr _ _ | .optr _ _ _ _=>true
  | .iptr cs=>Nat.ble off cs.length
  | _=>false
 | .field x off n _=>match Am (S.val x) with
  | .agg cs=>Nat.ble (off+n) cs.length
  | _=>false
 | .len x=>match Am (S.val x) with
  | .lst (_+1) _ | .own _ _ (_+1) _=>true
  | _=>false
 | .build zero ps=>Xe S zero.length ps
 | .fn _ caps=>Oi (caps.map fun x=>Am (S.val x))
 | _=>false
theorem Yb {S:St} {o:PU} {φ:Prop} {v:V} (h:Nu S o=true) (h2:pu S (fun x=>Am (S.val x)) o=some (φ,v)):φ:=by
 cases o with
 | mv x=>simp only [pu,Option.some.injEq,Prod.mk.injEq] at h2; rw [←h2.1]; trivial
 | bin op x y=>
  simp only [pu] at h2
  split at h2
  ·split at h2
   ·cases h
   ·cases h
   ·split at h2
    ·unfold Xv at h2
     split at h2<;>first | (cases h; done) | (cases h2; trivial) | (cases h2)
    ·cases h2
  ·rename_i hx hy
   unfold Ym at h2
   split at h2<;>first | (cases h2; trivial) | skip
   ·simp only [Nu,hx] at h; cases h
   ·cases h2
  ·cases h2
 | binB op x y=>
  simp only [pu] at h2
  split at h2
  ·split at h2<;>first | (cases h2; trivial) | cases h2
  ·cases h2
 | eqs ne ks x y=>
  simp only [pu] at h2
  split at h2
  ·split at h2<;>first | (cases h2; trivial) | cases h2
  ·cases h2
 | un op x=>
  simp only [pu] at h2
  split at h2<;>first | (cases h2; trivial) | cases h2
 | conv k x=>
  simp only [pu] at h2
  split at h2<;>first | (cases h2; trivial) | cases h2
 | lenS x=>
  simp only [pu] at h2
  split at h2<;>first | (cases h2; trivial) | cases h2
 | strc x=>
  simp only [pu] at h2
  split at h2<;>first | (cases h2; trivial) | cases h2
 | ext x i=>
  simp only [pu] at h2
  split at h2
  ·split at h2<;>first | (cases h2; trivial) | cases h2
  ·cases h2
 | nilc x=>
  simp only [pu] at h2
  split at h2<;>first | (cases h2; trivial) | cases h2
 | xbyte x y=>
  simp only [pu] at h2
  split at h2<;>first | (cases h2; trivial) | cases h2
 | mget x y=>
  simp only [pu] at h2
  split at h2<;>first | (cases h2; trivial) | cases h2
 | scmp x y=>
  simp only [pu] at h2
  split at h2<;>first | (cases h2; trivial) | cases h2
 | mn x y=>
  simp only [pu] at h2
  split at h2
  ·rename_i hx hy
   simp only [Nu,hx,hy] at h
   cases h2; exact of_decide_eq_true h
  ·cases h2
 | mx x y=>
  simp only [pu] at h2
  split at h2
  ·rename_i hx hy
   simp only [Nu,hx,hy] at h
   cases h2; exact of_decide_eq_true h
  ·cases h2
 | load x n ag=>
  simp only [pu] at h2
  split at h2
  ·rename_i hx
   split at h2
   ·rename_i hl
    split at h2
    ·simp only [Nu,hx,hl] at h
     cases h2; exact Nat.le_of_ble_eq_true h
    ·cases h2
   ·cases h2
  ·rename_i hx
   split at h2
   ·simp only [Nu,hx] at h
    cases h2; exact Nat.le_of_ble_eq_true h
   ·cases h2
  ·rename_i hx
   simp only [Nu,hx] at h; cases h
  ·cases h2
 | fieldA x off=>
  simp only [pu] at h2
  split at h2
  ·cases h2; trivial
  ·rename_i hx
   simp only [Nu,hx] at h
   cases h2; exact Nat.le_of_ble_eq_true h
  ·cases h2; trivial
  ·cases h2
 | field x off n ag=>
  simp only [pu] at h2
  split at h2
  ·rename_i hx
   split at h2
   ·simp only [Nu,hx] at h
    cases h2; exact Nat.le_of_ble_eq_true h
   ·cases h2
  ·cases h2
 | len x=>
  simp only [pu] at h2
  split at h2
  ·rename_i s es hx
   simp only [Nu,hx] at h
   cases h2
   cases s with
   | zero=>cases h
   | succ n=>exact Nat.succ_ne_zero n
  ·rename_i s es hx
   simp only [Nu,hx] at h
   cases h2
   cases s with
   | zero=>cases h
   | succ n=>exact Nat.succ_ne_zero n
  ·cases h2
 | fn f caps=>simp only [pu,Option.some.injEq,Prod.mk.injEq] at h2; rw [←h2.1]; exact h
 | build zero ps=>simp only [pu,Option.some.injEq,Prod.mk.injEq] at h2; rw [←h2.1]; exact Wb h
 | _=>cases h
def Lq (S:St):List Bm→Bool
 | []=>true
 | x::r=>match Yc (S.val x) with
  | true=>Lq S r
  | false=>false
theorem Jr {S:St}:∀ {l:List Bm},Lq S l=true→Bt (fun x=>Au true (S.val x)) l
 | [],_=>trivial
 | x::r,h=>by
  unfold Lq at h
  split at h
  ·rename_i hp; exact ⟨Np hp,Jr h⟩
  ·cases h
def eE (sz len:Nat):List (Nat×V)→Bool
 | []=>true
 | p::r=>match Nat.blt p.1 len with
  | true=>match Nat.beq p.2.cells.length sz with
   | true=>match p.2.cells.all (fun c => !Io c) with
    | true=>eE sz len r
    | false=>false
   | false=>false
  | false=>false
theorem aC {sz len:Nat}:∀ {l:List (Nat×V)},eE sz len l=true→Bt (fun p=>p.1<len∧p.2.cells.length=sz∧p.2.cells.all (fun c => !Io c)=true) l
 | [],_=>trivial
 | p::r,h=>by
  unfold eE at h
  split at h
  ·rename_i h1
   split at h
   ·rename_i h2
    split at h
    ·rename_i h3
     exact ⟨⟨Nat.le_of_ble_eq_true h1,Nat.eq_of_beq_eq_true h2,h3⟩,aC h⟩
    ·cases h
   ·cases h
  ·cases h
theorem oC {S:St}:∀ {l:List (Nat×Bm)},Lq S (l.map (·.2))=true→Bt (fun p=>nm S p.2) l
 | [],_=>trivial
 | p::r,h=>by
  unfold List.map Lq at h
  split at h
  ·rename_i hp; exact ⟨Np hp,oC h⟩
  ·cases h
def q1 (i:Bi) (S:St):Option St:=
 match i with
 | ⟨d,.p o,none⟩=>match Lq S o.opds with
  | true=>match Nu S o with
   | true=>match pu S (fun x=>Am (S.val x)) o with
    | some (_,v)=>some (S.putC d v (Hi (fun x=>Am (S.val x)) o))
    | none=>none
   | false=>none
  | false=>none
 | ⟨some d,.box x,none⟩=>match Yc ((S.drop (64*d)).val x) with
  | true=>match Bk (Am ((S.drop (64*d)).val x)) with
   | true=>none
   | false=>some (((S.drop (64*d)).setBx (64*d) (Am ((S.drop (64*d)).val x)).cells).put (some d) (.ptr (64*d) 0))
  | false=>none
 | ⟨some d,.alloc z,none⟩=>some (((S.drop (64*d)).setBx (64*d) z).put (some d) (.ptr (64*d) 0))
 | ⟨some d,.nilS sz,none⟩=>some ((S.drop (64*d)).put (some d) (.own (64*d) 0 sz []))
 | ⟨d,.store x v n,none⟩=>match S.val x with
  | .ptr t k=>match Yc (S.val v) with
   | true=>match Bk (Am (S.val v)) with
    | true=>none
    | false=>match Nat.beq (Am (S.val v)).cells.length n with
     | true=>match look S.bx t with
      | some bs=>match Nat.ble (k+n) bs.length with
       | true=>some ((S.setBx t (Cm bs k (Am (S.val v)).cells)).put d .undef)
       | false=>none
      | none=>none
     | false=>none
   | false=>none
  | _=>none
 | ⟨some d,.mkS sz zero len parts,none⟩=>match Lq S (parts.map (·.2)) with
  | true=>match eE sz len (parts.map fun p=>(p.1,Am (S.val p.2))) with
   | true=>some (((S.freezes (Hs (parts.map fun p=>(p.1,Am (S.val p.2))))).drop (64*d)).put (some d)
    (.own (64*d) 0 sz (Il sz (List.replicate len zero) ((parts.map fun p=>(p.1,Am (S.val p.2))).map fun p=>(p.1,p.2.cells.map Dz)))))
   | false=>none
  | false=>none
 | _=>none
theorem oQ {C:Bf} {i:Bi} {S S':St} {K:St→Prop} (h:q1 i S=some S') (k:K S'):Cn C i S K:=by
 unfold q1 at h
 split at h
 ·split at h
  ·rename_i h1
   split at h
   ·rename_i h2
    split at h
    ·rename_i h3
     cases h
     exact p_ (Jr h1) h3 (Yb h2 h3) k
    ·cases h
   ·cases h
  ·cases h
 ·split at h
  ·rename_i h1
   split at h
   ·cases h
   ·rename_i h2
    cases h
    exact Hm rfl (Np h1) h2 k
  ·cases h
 ·cases h; exact Dt k
 ·cases h; exact Bw k
 ·split at h
  ·rename_i hx
   split at h
   ·rename_i h1
    split at h
    ·cases h
    ·rename_i h2
     split at h
     ·rename_i h3
      split at h
      ·rename_i h4
       split at h
       ·rename_i h5
        cases h
        exact El hx rfl (Np h1) h2 (Nat.eq_of_beq_eq_true h3) h4 (Nat.le_of_ble_eq_true h5) k
       ·cases h
      ·cases h
     ·cases h
   ·cases h
  ·cases h
 ·split at h
  ·rename_i h1
   split at h
   ·rename_i h2
    cases h
    exact Fk (oC h1) (aC h2) k
   ·cases h
  ·cases h
 ·cases h
theorem Uv {i:Bi} {S S':St} (h:q1 i S=some S'):Cl i S:=by
 unfold Cl
 split
 ·rename_i o x n ag hop
  split
  ·rename_i hx
   unfold q1 at h
   split at h
   ·rename_i d o' g
    cases hop
    split at h
    ·split at h
     ·rename_i hp
      simp only [Nu,hx] at hp
      cases hp
     ·cases h
    ·cases h
   all_goals first | cases hop | (cases h)
  ·trivial
 ·trivial
def Tj:List Fz→Option (Option Bi×List Fz)
 | .c .skip::T=>some (none,T)
 | .c (.seq a b)::T=>some (none,.c a :: .w :: .c b::T)
 | .c (.reg [])::T=>some (none,T)
 | .c (.reg (i::l))::T=>some (some i,.c (.reg l)::T)
 | .c (.block id a)::T=>some (none,.c a :: .b id::T)
 | .c (.draw .fin)::T=>some (none,T)
 | .c (.draw (.take i p))::T=>some (some i,.c (.draw p)::T)
 | .w::T=>some (none,T)
 | .b _::T=>some (none,T)
 | _=>none
def Yt:Nat→List Fz→List Fz
 | 0,T=>T
 | n+1,T=>match Tj T with
  | some (_,T')=>Yt n T'
  | none=>T
def run:Nat→List Fz→St→Option St
 | 0,_,S=>some S
 | n+1,T,S=>match Tj T with
  | some (none,T')=>run n T' S
  | some (some i,T')=>match q1 i S with
   | some S'=>run n T' S'
   | none=>none
  | none=>none
variable {C:Bf} {Q:Ex→St→Prop} {S:St} {T:List Fz}
theorem Vw {T':List Fz} (h:Tj T=some (none,T')) (k:WL C T' Q .normal S):WL C T Q .normal S:=by
 unfold Tj at h
 split at h<;>cases h
 ·exact Dn k
 ·exact Ab k
 ·exact k
 ·exact Be k
 ·exact k
 ·exact cF k
 ·exact It k
theorem eW {i:Bi} {T':List Fz} {S':St} (h:Tj T=some (some i,T')) (hq:q1 i S=some S') (k:WL C T' Q .normal S'):WL C T Q .normal S:=by
 unfold Tj at h
 split at h<;>cases h
 ·exact Ac (st (oQ hq k))
 ·exact Ds (Ah (Uv hq) (oQ hq ⟨trivial,k⟩))
theorem Wm:∀(n:Nat) {T:List Fz} {S S':St},run n T S=some S'→WL C (Yt n T) Q .normal S'→WL C T Q .normal S
 | 0,T,S,S',h,k=>by cases h; exact k
 | n+1,T,S,S',h,k=>by
  unfold run at h
  unfold Yt at k
  split at h
  ·rename_i h1
   rw [h1] at k
   exact Vw h1 (Wm n h k)
  ·rename_i h1
   split at h
   ·rename_i h2
    rw [h1] at k
    exact eW h1 h2 (Wm n h k)
   ·cases h
  ·cases h
def tlW:List Fz→List Fz
 | .w::T=>T
 | T=>T
def isW:List Fz→Bool
 | .w::_=>true
 | _=>false
def oY (o:Option St) (S':St):Option (List (Option V)×List (Option (List V))×List (Nat×Int)):=o.map fun S=>(S'.env.map (fun p=>look S.env p.1),S'.bx.map (fun p=>look S.bx p.1),S'.cp)
def pC (S':St):Option (List (Option V)×List (Option (List V))×List (Nat×Int)):=some (S'.env.map (fun p=>some p.2),S'.bx.map (fun p=>some p.2),[])
theorem rz_ (n:Nat) (ts:List Nat) (rs:List (Nat×Nat)) (S':St) (k:WL C (tlW (Yt n T)) Q .normal S')
  (hw:isW (Yt n T)=true:=by kernel_rfl) (hr:gV rs=true:=by kernel_rfl) (h:oY ((run n T S).map fun S=>(S.freezes ts).swaps rs) S'=pC S':=by kernel_rfl):WL C T Q .normal S:=by
 cases hR:run n T S with
 | none=>rw [hR] at h; cases h
 | some S1=>
  rw [hR] at h
  refine Wm n hR ?_
  cases hT:Yt n T with
  | nil=>rw [hT] at hw; cases hw
  | cons x T'=>
   rw [hT] at hw k
   cases x with
   | w=>exact An S' ((Fg.fz _ ts).trans ((Fg.sw _ rs hr).trans (.le (Yx.le (Option.some.inj h))))) k
   | c a=>cases hw
   | b id=>cases hw
theorem rk_ (n:Nat) (S':St) (k:WL C (tlW (Yt n T)) Q .normal S') (hw:isW (Yt n T)=true:=by kernel_rfl) (h:oY (run n T S) S'=pC S':=by kernel_rfl):WL C T Q .normal S:=
 rz_ n [] [] S' k hw rfl (by cases hR:run n T S with | none=>rw [hR] at h; cases h | some S1=>rw [hR] at h; exact h)
def YJ (n:Nat) (T:List Fz) (S:St):St:=(run n T S).getD S
theorem aG (n:Nat) (k:WL C (Yt n T) Q .normal (YJ n T S)) (h:(run n T S).isSome=true:=by kernel_rfl):WL C T Q .normal S:=by
 cases hR:run n T S with
 | none=>rw [hR] at h; cases h
 | some S1=>
  refine Wm n hR ?_
  unfold YJ at k
  rw [hR] at k
  exact k
def dY:Nat→List Fz→Bool
 | 0,_=>true
 | n+1,T=>match Tj T with
  | some (none,T')=>dY n T'
  | _=>false
theorem Wr:∀(n:Nat) {T:List Fz},dY n T=true→run n T S=some S
 | 0,_,_=>rfl
 | n+1,T,h=>by
  unfold dY at h
  unfold run
  split at h
  ·rename_i h1
   rw [h1]
   exact Wr n h
  ·cases h
theorem ra_ (n:Nat) (k:WL C (Yt n T) Q .normal S) (h:dY n T=true:=by kernel_rfl):WL C T Q .normal S:=Wm n (Wr n h) k
def TP (o:Option St) (res:List Xa) (nb:Nat):Option (Bool×V×List (List V)):=
 match o with
 | none=>none
 | some S=>match oT S res with
  | none=>none
  | some v=>match Kt S (Ru nb++Dy v.flat) with
   | none=>none
   | some css=>some (Ou 65 [(Gu (v.flat++css.flatten)).length,(Dy v.flat).length],Gt (Qg (Gu (v.flat++css.flatten)) (Dy v.flat)) v,Mj (Qg (Gu (v.flat++css.flatten)) (Dy v.flat)) css)
def nR:List Fz→Bool
 | .c .ret::_=>true
 | _=>false
theorem rR_ {res:List Xa} {nb:Nat} {t:Eo} (n:Nat) (hQ:∀S',FQ res nb t .ret S'→Q .ret S') (ts:List Nat:=[]) (h6:t.rw=[]:=by exact rfl) (hr:nR (Yt n T)=true:=by kernel_rfl)
  (h:TP ((run n T S).map fun S=>S.freezes ts) res nb=some (true,t.r,t.bx):=by kernel_rfl):WL C T Q .normal S:=by
 cases hR:run n T S with
 | none=>rw [hR] at h; cases h
 | some S1=>
  rw [hR] at h
  refine Wm n hR ?_
  cases hT:Yt n T with
  | nil=>rw [hT] at hr; cases hr
  | cons x T'=>
   rw [hT] at hr
   unfold nR at hr
   split at hr
   ·rename_i e
    cases e
    refine Cr (hQ _ ?_)
    refine YI (Fg.fz _ ts) ?_
    unfold TP at h
    split at h
    ·cases h
    ·rename_i S2 e2
     obtain rfl:=Option.some.inj e2
     split at h
     ·cases h
     ·rename_i h1
      split at h
      ·cases h
      ·rename_i h2
       simp only [Option.some.injEq,Prod.mk.injEq] at h
       exact Bj h1 h2 h.1 h.2.1 h.2.2 (by rw [h6]; trivial)
   ·cases hr
theorem eF {res:List Xa} {nb:Nat} {t:Eo} (n:Nat) (ts:List Nat:=[]) (h6:t.rw=[]:=by exact rfl) (hr:nR (Yt n T)=true:=by kernel_rfl)
  (h:TP ((run n T S).map fun S=>S.freezes ts) res nb=some (true,t.r,t.bx):=by kernel_rfl):WL C T (FQ res nb t) .normal S:=rR_ n (fun _ h=>h) ts h6 hr h
theorem bb {α β:Type} {o:Option α} {f:α→Option β} {r:β} {P:Prop} (h:o.bind f=some r) (k:∀x,o=some x→f x=some r→P):P:=by
 obtain ⟨x,h1,h2⟩:=bnd h
 exact k x h1 h2
theorem bv {α β:Type} {e:α} {f:α→Option β} {r:β} {P:Prop} (h:Bn e f=some r) (k:∀x,x=e→f x=some r→P):P:=k e rfl h
theorem gg {α:Type} {c:Prop} [Decidable c] {a:Option α} {r:α} {P:Prop} (h:(if c then a else none)=some r) (k:c→a=some r→P):P:=k (Kq h).1 (Kq h).2
theorem kn {σ ρ:Type} {K:Ex→St→Prop} {st:σ→St→Prop} {o:σ⊕ρ} {s':σ} {S' S'':St} (hK:∀s',o = .inl s'→∀S' S'',Fg S' S''→st s' S''→K .normal S') (h1:o = .inl s') (h2:st s' S'')
  (h:(S''.env.map (fun p=>look S'.env p.1),S''.bx.map (fun p=>look S'.bx p.1),S''.cp)=(S''.env.map (fun p=>some p.2),S''.bx.map (fun p=>some p.2),([]:List (Nat×Int))):=by kernel_rfl):K .normal S':=hK _ h1 _ _ (Ak h) h2
def dS (S:St) (j:Bi):Option (Option V):=
 match j with
 | ⟨some _,.p o,none⟩=>match Lq S o.opds with
  | true=>match Nu S o with
   | true=>match pu S (fun x=>Am (S.val x)) o with
    | some (_,v)=>some (some v)
    | none=>none
   | false=>none
  | false=>none
 | _=>none
def Uc (S:St) (j:Bi):Option (Option V):=
 match j with
 | ⟨some d,.p _,none⟩=>some (look S.env d)
 | _=>some none
theorem YB {C:Bf} {X:List Bi} {S:St} {j:Bi} (h:dS S j=Uc S j) (hc:S.cp=[]):(Cl j S∨j∈X)∧Cn C j S (fun S'=>Ti S' S):=by
 unfold dS at h
 split at h
 ·rename_i d o
  split at h
  ·rename_i h1
   split at h
   ·rename_i h2
    split at h
    ·rename_i h3
     have h4:some _=look S.env d:=Option.some.inj h
     refine ⟨.inl ?_,?_⟩
     ·exact Uv (S':=S.putC (some d) _ (Hi (fun x=>Am (S.val x)) o)) (by simp only [q1,h1,h2,h3]; rfl)
     ·exact By ⟨Jr h1,_,h3,Yb h2 h3⟩ h4.symm hc
    ·simp only [Uc] at h; cases h
   ·simp only [Uc] at h; cases h
  ·simp only [Uc] at h; cases h
 ·unfold Uc at h
  split at h
  ·cases h
  ·cases h
theorem dR {C:Bf} {X:List Bi} {S:St} (hc:S.cp=[]):∀ {l:List Bi},l.map (dS S)=l.map (Uc S)→Fn C X l S
 | [],_=>trivial
 | j::r,h=>by
  simp only [List.map_cons,List.cons.injEq] at h
  exact ⟨YB h.1 hc,dR hc h.2⟩
theorem hB {C:Bf} {X l:List Bi} {S:St} (h:(l.map (dS S),S.cp)=(l.map (Uc S),[]):=by kernel_rfl):Fn C X l S:=by
 simp only [Prod.mk.injEq] at h
 exact dR h.2 h.1
theorem d0 {C:Bf} {K:St→Prop} {S:St} {held:List Bi} {r:DP} (hh:Fn C [] held S) (k:WD C r [] K S):∃S1,Fg S S1∧∃X',Fn C X' held S1∧Dj C X' S1∧WD C r X' K S1:=⟨S,Fg.refl S,[],hh,trivial,k⟩
theorem dw {C:Bf} {K:St→Prop} {S:St} {held:List Bi} {r:DP} (e:List (Nat×V)) (b:List (Nat×List V)) (hh:Fn C [] held ⟨e,b,[]⟩) (k:WD C r [] K ⟨e,b,[]⟩)
  (h:(e.map (fun p=>look S.env p.1),b.map (fun p=>look S.bx p.1))=(e.map (fun p=>some p.2),b.map (fun p=>some p.2)):=by kernel_rfl):∃S1,Fg S S1∧∃X',Fn C X' held S1∧Dj C X' S1∧WD C r X' K S1:=
 ⟨⟨e,b,[]⟩,Ak (by simp only [Prod.mk.injEq] at h ⊢; exact ⟨h.1,h.2,trivial⟩),[],hh,trivial,k⟩
theorem dc_ {C:Bf} {K:St→Prop} {S:St} {held X:List Bi} {p rest:DP} {d:Option Nat} {f:Nat} {as:List Bm} {gv:List V} {r:V} (H:C f ⟨gv,[]⟩ ⟨r,[],[]⟩) (h3:r.flat.all Ho=true)
  (k:∃S1,Fg ((S.drops (Ld (d.getD 0) (Fx r.flat))).put d (Gt (Fs (d.getD 0) 0 [] []) r)) S1∧∃X',Fn C X' held S1∧Dj C X' S1∧WD C p X' K S1) (k2:WD C rest X K S)
  (h:(Lq S as,Lp (fun v => !Bk v) (as.map fun x=>Am (S.val x)),(as.map fun x=>Am (S.val x)).map (mapW (S.liftC [] [] [] false)))=(true,true,gv):=by kernel_rfl):WD C (.alt held ⟨d,.call f as,none⟩ p rest) X K S:=by
 simp only [Prod.mk.injEq] at h
 exact Fm (Ax false H (Jr h.1) h.2.1 h.2.2 (fun _=>h3) k) k2
theorem jn {R G:St→Prop} {S' S1:St} (hJ:∀S S1,Fg S S1→R S1→G S) (h1:R S1)
  (h:(S1.env.map (fun p=>look S'.env p.1),S1.bx.map (fun p=>look S'.bx p.1),S1.cp)=(S1.env.map (fun p=>some p.2),S1.bx.map (fun p=>some p.2),([]:List (Nat×Int))):=by kernel_rfl):G S':=hJ _ _ (Ak h) h1
theorem OA {α:Type} {c:Bm} {a b:IR} {cb:Bool} {x y r:α} (h0:(if cb=true then x else y)=r) (k1:cb=true→x=r→WL C (.c a::T) Q .normal S) (k2:cb=false→y=r→WL C (.c b::T) Q .normal S)
  (hc:S.val c = .bool cb:=by kernel_rfl):WL C (.c (.ite c a b)::T) Q .normal S:=Bs hc (fun h=>k1 h (ip h h0)) (fun h=>k2 h (Do h h0))
def mG (S:St) (as:List Bm):Bool×Bool×List V:=(Lq S as,Lp (fun v => !Bk v) (as.map fun x=>Am (S.val x)),(as.map fun x=>Am (S.val x)).map (mapW (S.liftC [] [] [] false)))
theorem cf_ {d:Option Nat} {l:List Bi} {f:Nat} {as:List Bm} {gv:List V} {r:V} (H:C f ⟨gv,[]⟩ ⟨r,[],[]⟩) (h3:r.flat.all Ho=true)
  (k:OL C l T Q ((S.drops (Ld (d.getD 0) (Fx r.flat))).put d (Gt (Fs (d.getD 0) 0 [] []) r))) (h:mG S as=(true,true,gv):=by kernel_rfl):OL C (⟨d,.call f as,none⟩::l) T Q S:=by
 simp only [mG,Prod.mk.injEq] at h
 exact st (Ax false H (Jr h.1) h.2.1 h.2.2 (fun _=>h3) k)
theorem cl_ {d:Option Nat} {l:List Bi} {f:Nat} {as:List Bm} {gv:List V} {r:V} (H:C f ⟨gv,[]⟩ ⟨r,[],[]⟩)
  (k:OL C l T Q ((S.drops (Ld (d.getD 0) (Fx r.flat))).put d (Gt (Fs (d.getD 0) 0 [] []) r))) (h:mG S as=(true,true,gv):=by kernel_rfl) (h3:r.flat.all Ho=true:=by kernel_rfl):OL C (⟨d,.call f as,none⟩::l) T Q S:=cf_ H h3 k h
def Zy (S:St) (g:Bool):List Bm→List (Bool×Bool)
 | []=>[]
 | x::r=>match S.val x with
  | .may b _=>(b,g)::Zy S g r
  | _=>Zy S g r
def OC (b:Bool):V→List (Bool×Bool)
 | .may c _=>[(c,b)]
 | _=>[]
abbrev Lb (l:List (Bool×Bool)):Prop:=l.map (·.1)=l.map (·.2)
theorem Um {S:St} {g:Bool} (hg:g=true):∀ {l:List Bm},Lb (Zy S g l)→Bt (fun x=>Au true (S.val x)) l
 | [],_=>trivial
 | x::r,h=>by
  unfold Zy at h
  split at h
  ·rename_i hx
   simp only [Lb,List.map_cons,List.cons.injEq] at h
   refine ⟨?_,Um hg h.2⟩
   show Au true (S.val x)
   rw [hx]
   exact fun _=>by rw [h.1]; exact hg
  ·rename_i hx
   refine ⟨?_,Um hg h⟩
   show Au true (S.val x)
   cases hv:S.val x<;>first | trivial | exact absurd hv (hx _ _)
theorem dX {b c:Bool} {v:V} (h:Lb (OC b v)) (hb:c=true→b=true):Au c v:=by
 cases v with
 | may x y=>
  simp only [Lb,OC,List.map_cons,List.map_nil,List.cons.injEq,and_true] at h
  exact fun hc=>by rw [h]; exact hb hc
 | _=>trivial
def q2 (i:Bi) (S:St):Option (St×List (Bool×Bool)):=
 match i with
 | ⟨d,.p o,some (gs,want)⟩=>match Kr (S.val (.t gs)) want with
  | some g=>match Nu S o with
   | true=>match pu S (fun x=>Am (S.val x)) o with
    | some (_,v)=>some (S.put d (.may g v),Zy S g o.opds)
    | none=>none
   | false=>none
  | none=>none
 | ⟨d,.pick c a b,none⟩=>match S.val c with
  | .bool cb=>some (S.put d (Mm cb (Am (S.val a)) (Am (S.val b))),OC (cb==true) (S.val a)++OC (cb==false) (S.val b))
  | _=>none
 | i=>match q1 i S with
  | some S'=>some (S',[])
  | none=>none
theorem Ww {a b:List (Bool×Bool)} (h:Lb (a++b)):Lb a:=by
 simp only [Lb,List.map_append] at h
 exact (List.append_inj h (by simp)).1
theorem cM {a b:List (Bool×Bool)} (h:Lb (a++b)):Lb b:=by
 simp only [Lb,List.map_append] at h
 exact (List.append_inj h (by simp)).2
theorem PN {C:Bf} {i:Bi} {S S':St} {l:List (Bool×Bool)} {K:St→Prop} (h:q2 i S=some (S',l)) (hl:Lb l) (k:K S'):Cn C i S K:=by
 unfold q2 at h
 split at h
 ·split at h
  ·rename_i hg
   split at h
   ·rename_i h2
    split at h
    ·rename_i h3
     cases h
     exact Bu hg (fun e=>⟨Um e hl,_,h3,Yb h2 h3⟩) k
    ·cases h
   ·cases h
  ·cases h
 ·split at h
  ·rename_i hc
   cases h
   exact Ct hc rfl rfl (dX (Ww hl) fun e=>by rw [e]; rfl) (dX (cM hl) fun e=>Sa e) rfl k
  ·cases h
 ·split at h
  ·rename_i h1
   cases h
   exact oQ h1 k
  ·cases h
theorem oR {i:Bi} {S S':St} {l:List (Bool×Bool)} (h:q2 i S=some (S',l)):Cl i S:=by
 unfold q2 at h
 split at h
 ·rename_i d o gs want
  unfold Cl
  split
  ·rename_i x n ag hop
   split
   ·rename_i hx
    cases hop
    split at h
    ·split at h
     ·rename_i hp
      simp only [Nu,hx] at hp
      cases hp
     ·cases h
    ·cases h
   ·trivial
  ·trivial
 ·trivial
 ·split at h
  ·rename_i h1
   exact Uv h1
  ·cases h
def aI:Nat→List Fz→St→Option (St×List (Bool×Bool))
 | 0,_,S=>some (S,[])
 | n+1,T,S=>match Tj T with
  | some (none,T')=>aI n T' S
  | some (some i,T')=>match q2 i S with
   | some (S',l)=>match aI n T' S' with
    | some (S2,l2)=>some (S2,l++l2)
    | none=>none
   | none=>none
  | none=>none
theorem Ye:∀(n:Nat) {T:List Fz} {S S':St} {l:List (Bool×Bool)},aI n T S=some (S',l)→Lb l→WL C (Yt n T) Q .normal S'→WL C T Q .normal S
 | 0,T,S,S',l,h,_,k=>by cases h; exact k
 | n+1,T,S,S',l,h,hl,k=>by
  unfold aI at h
  unfold Yt at k
  split at h
  ·rename_i h1
   rw [h1] at k
   exact Vw h1 (Ye n h hl k)
  ·rename_i i T' h1
   split at h
   ·rename_i S1 l1 h2
    rw [h1] at k
    split at h
    ·rename_i h3
     cases h
     have kk:=Ye n h3 (cM hl) k
     unfold Tj at h1
     split at h1<;>cases h1
     ·exact Ac (st (PN h2 (Ww hl) kk))
     ·exact Ds (Ah (oR h2) (PN h2 (Ww hl) ⟨trivial,kk⟩))
    ·cases h
   ·cases h
  ·cases h
def YK (n:Nat) (T:List Fz) (S:St):St:=match aI n T S with
 | some p=>p.1
 | none=>S
def SM:Option (St×List (Bool×Bool))→Option (List Bool)
 | some p=>some (p.2.map (·.1))
 | none=>none
def SN:Option (St×List (Bool×Bool))→Option (List Bool)
 | some p=>some (p.2.map (·.2))
 | none=>some []
theorem YQ (n:Nat) (k:WL C (Yt n T) Q .normal (YK n T S)) (h:SM (aI n T S)=SN (aI n T S):=by kernel_rfl):WL C T Q .normal S:=by
 cases hR:aI n T S with
 | none=>rw [hR] at h; cases h
 | some p=>
  obtain ⟨S1,l⟩:=p
  unfold YK at k
  rw [hR] at k h
  exact Ye n hR (Option.some.inj h) k
theorem Sc (n:Nat) (e:List (Nat×V)) (b:List (Nat×List V)) (k:WL C (tlW (Yt n T)) Q .normal ⟨e,b,[]⟩) (hw:isW (Yt n T)=true:=by kernel_rfl) (h:oY (run n T S) ⟨e,b,[]⟩=pC ⟨e,b,[]⟩:=by kernel_rfl):WL C T Q .normal S:=rk_ n _ k hw h
theorem xl_ {α:Type} {e:α→List V} {l0:List α} {d:Option Nat} {l:List Bi} {x i:Bm} {sz:Nat} {q:IntKind} {n:Int} {y:α} (hx:S.val x = .lst sz (l0.map e)) (hi:S.val i = .int q n) (hy:Ew l0 n=some y)
  (k':OL C l T Q (S.put d (.iptr (e y)))):OL C (⟨d,.p (.idxA x i sz),none⟩::l) T Q S:=st (YC hx hi hy k')
theorem YU {α:Type} {e:α→List V} {l0:List α} {d:Option Nat} {T':List Fz} {x i:Bm} {sz:Nat} {q:IntKind} {n:Int} {y:α} (ha:Tj T=some (some ⟨d,.p (.idxA x i sz),none⟩,T')) (hx:S.val x = .lst sz (l0.map e)) (hi:S.val i = .int q n) (hy:Ew l0 n=some y)
  (k':WL C T' Q .normal (S.put d (.iptr (e y)))):WL C T Q .normal S:=by
 unfold Tj at ha
 split at ha<;>cases ha
 ·exact Ac (xl_ hx hi hy k')
 ·exact Ds (Ah trivial (YC hx hi hy ⟨trivial,k'⟩))
theorem PJ {α:Type} {e:α→List V} {l0:List α} {d:Option Nat} {l:List Bi} {x:Bm} {sz:Nat} (hx:S.val x = .lst sz (l0.map e)) (k':OL C l T Q (S.put d (.int .i64 (l0.length:Int)))) (hz:sz≠0:=by decide):OL C (⟨d,.p (.len x),none⟩::l) T Q S:=st (lenL hx k' hz)
theorem VF {d:Option Nat} {l:List Bi} {f:Nat} {as:List Bm} (LB LR LM:List Nat) {g:Oc} {t:Eo} (H:C f g t) (k:OL C l T Q (((S.after (as.map fun x=>Am (S.val x)) (d.getD 0) true LB LR LM t).put d (Gt (Fs (d.getD 0) (t.bx.length-LB.length) LB LR) t.r))))
  (h:(Lq S as,Lp (fun v => !Bk v) (as.map fun x=>Am (S.val x)),S.give (as.map fun x=>Am (S.val x)) LB LR LM true,(Dr LB&&Dr (LR++LM)&&Ou Bx LM&&LB.all (fun T=>(look S.bx T).isSome)),
   (Ou 65 [t.bx.length-LB.length,LM.length]&&Jt (t.newB (d.getD 0) LB.length) LB&&Jt (t.newR (d.getD 0)) LR))=(true,true,g,true,true):=by kernel_rfl):OL C (⟨d,.call f as,none⟩::l) T Q S:=by
 simp only [Prod.mk.injEq] at h
 obtain ⟨a1,a2,a3,a4,a5⟩:=h
 exact st (Gm LB LR LM true H (Jr a1) a2 a3 a4 a5 (fun h=>nomatch h) k)
theorem o_ {l:List Bi} (k:WL C (.c (.reg l)::T) Q .normal S):OL C l T Q S:=k
theorem d_ {p:DP} (k:WL C (.c (.draw p)::T) Q .normal S):WD C p [] (WL C T Q .normal) S:=k
end Go.Ev
