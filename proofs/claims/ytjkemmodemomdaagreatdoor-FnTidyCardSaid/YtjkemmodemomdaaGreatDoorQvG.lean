/- Many instructions at once: what can be reckoned is reckoned by the kernel. -/
import Derived.Test.YtjkemmodemomdaaGreatDoorQvM
set_option linter.all false
namespace Go.Ev
def Tn:V→Bool
 | .may _ _=>false
 | _=>true
theorem Ku {v:V} (h:Tn v=true):Af true v:=by cases v<;>first | trivial | cases h
def Sy (S:St) (n:Nat):List (Nat×Nat×Ay)→Bool
 | []=>true
 | p::r=>match As (Ab (S.val p.2.2)) with
  | true=>false
  | false=>match Nat.beq (Ab (S.val p.2.2)).cells.length p.2.1 with
   | true=>match Nat.ble (p.1+p.2.1) n with
    | true=>Sy S n r
    | false=>false
   | false=>false
theorem Rw {S:St} {n:Nat}:∀ {l:List (Nat×Nat×Ay)},Sy S n l=true→Be (fun p=>As (Ab (S.val p.2.2))=false∧(Ab (S.val p.2.2)).cells.length=p.2.1∧p.1+p.2.1≤n) l
 | [],_=>trivial
 | p::r,h=>by
  unfold Sy at h
  split at h
  ·cases h
  ·rename_i h1
   split at h
   ·rename_i h2
    split at h
    ·rename_i h3
     exact ⟨⟨h1,Nat.eq_of_beq_eq_true h2,Nat.le_of_ble_eq_true h3⟩,Rw h⟩
    ·cases h
   ·cases h
def Kz (S:St):PU→Bool
 | .mv _ | .un _ _ | .conv _ _ | .binB _ _ _ | .eqs _ _ _ _ | .lenS _ | .strc _ | .ext _ _ | .nilc _ | .xbyte _ _ | .scmp _ _ | .mget _ _=>true
 | .bin op x _=>match op with
  | .eql | .neq | .lss | .leq | .gtr | .geq=>true
  | .sub | .mul | .and | .or | .xor | .andNot=>true
  | .add=>match Ab (S.val x) with
   | .int _ _=>true
   | _=>false
  | _=>false
 | .mn x y | .mx x y=>match Ab (S.val x),Ab (S.val y) with
  | .int k _,.int k' _=>decide (k=k')
  | _,_=>false
 | .load x n _=>match Ab (S.val x) with
  | .ptr t k=>match look S.bx t with
   | some cs=>Nat.ble (k+n) cs.length
   | none=>false
  | .iptr cs=>Nat.ble n cs.length
  | _=>false
 | .fieldA x off=>match Ab (S.val x) with
  | .ptr _ _ | .optr _ _ _ _=>true
  | .iptr cs=>Nat.ble off cs.length
  | _=>false
 | .field x off n _=>match Ab (S.val x) with
  | .agg cs=>Nat.ble (off+n) cs.length
  | _=>false
 | .len x=>match Ab (S.val x) with
  | .lst (_+1) _ | .own _ _ (_+1) _=>true
  | _=>false
 | .build zero ps=>Sy S zero.length ps
 | .fn _ caps=>Lq (caps.map fun x=>Ab (S.val x))
 | _=>false
theorem Tm {S:St} {o:PU} {φ:Prop} {v:V} (h:Kz S o=true) (h2:pu S (fun x=>Ab (S.val x)) o=some (φ,v)):φ:=by
 cases o with
 | mv x=>simp only [pu,Option.some.injEq,Prod.mk.injEq] at h2; rw [←h2.1]; trivial
 | bin op x y=>
  simp only [pu] at h2
  split at h2
  ·split at h2
   ·cases h
   ·cases h
   ·split at h2
    ·unfold Ti at h2
     split at h2<;>first | (cases h; done) | (cases h2; trivial) | (cases h2)
    ·cases h2
  ·rename_i hx hy
   unfold Tw at h2
   split at h2<;>first | (cases h2; trivial) | skip
   ·simp only [Kz,hx] at h; cases h
   ·cases h2
  ·cases h2
 | binB op x y=>
  simp only [pu] at h2
  split at h2
  ·split at h2<;>first | (cases h2; trivial) | cases h2
  ·cases h2
 | eqs ne ks x y=>
  simp only [pu] at h2
  split at h2
  ·split at h2<;>first | (cases h2; trivial) | cases h2
  ·cases h2
 | un op x=>
  simp only [pu] at h2
  split at h2<;>first | (cases h2; trivial) | cases h2
 | conv k x=>
  simp only [pu] at h2
  split at h2<;>first | (cases h2; trivial) | cases h2
 | lenS x=>
  simp only [pu] at h2
  split at h2<;>first | (cases h2; trivial) | cases h2
 | strc x=>
  simp only [pu] at h2
  split at h2<;>first | (cases h2; trivial) | cases h2
 | ext x i=>
  simp only [pu] at h2
  split at h2
  ·split at h2<;>first | (cases h2; trivial) | cases h2
  ·cases h2
 | nilc x=>
  simp only [pu] at h2
  split at h2<;>first | (cases h2; trivial) | cases h2
 | xbyte x y=>
  simp only [pu] at h2
  split at h2<;>first | (cases h2; trivial) | cases h2
 | mget x y=>
  simp only [pu] at h2
  split at h2<;>first | (cases h2; trivial) | cases h2
 | scmp x y=>
  simp only [pu] at h2
  split at h2<;>first | (cases h2; trivial) | cases h2
 | mn x y=>
  simp only [pu] at h2
  split at h2
  ·rename_i hx hy
   simp only [Kz,hx,hy] at h
   cases h2; exact of_decide_eq_true h
  ·cases h2
 | mx x y=>
  simp only [pu] at h2
  split at h2
  ·rename_i hx hy
   simp only [Kz,hx,hy] at h
   cases h2; exact of_decide_eq_true h
  ·cases h2
 | load x n ag=>
  simp only [pu] at h2
  split at h2
  ·rename_i hx
   split at h2
   ·rename_i hl
    split at h2
    ·simp only [Kz,hx,hl] at h
     cases h2; exact Nat.le_of_ble_eq_true h
    ·cases h2
   ·cases h2
  ·rename_i hx
   split at h2
   ·simp only [Kz,hx] at h
    cases h2; exact Nat.le_of_ble_eq_true h
   ·cases h2
  ·rename_i hx
   simp only [Kz,hx] at h; cases h
  ·cases h2
 | fieldA x off=>
  simp only [pu] at h2
  split at h2
  ·cases h2; trivial
  ·rename_i hx
   simp only [Kz,hx] at h
   cases h2; exact Nat.le_of_ble_eq_true h
  ·cases h2; trivial
  ·cases h2
 | field x off n ag=>
  simp only [pu] at h2
  split at h2
  ·rename_i hx
   split at h2
   ·simp only [Kz,hx] at h
    cases h2; exact Nat.le_of_ble_eq_true h
   ·cases h2
  ·cases h2
 | len x=>
  simp only [pu] at h2
  split at h2
  ·rename_i s es hx
   simp only [Kz,hx] at h
   cases h2
   cases s with
   | zero=>cases h
   | succ n=>exact Nat.succ_ne_zero n
  ·rename_i s es hx
   simp only [Kz,hx] at h
   cases h2
   cases s with
   | zero=>cases h
   | succ n=>exact Nat.succ_ne_zero n
  ·cases h2
 | fn f caps=>simp only [pu,Option.some.injEq,Prod.mk.injEq] at h2; rw [←h2.1]; exact h
 | build zero ps=>simp only [pu,Option.some.injEq,Prod.mk.injEq] at h2; rw [←h2.1]; exact Rw h
 | _=>cases h
def La (S:St):List Ay→Bool
 | []=>true
 | x::r=>match Tn (S.val x) with
  | true=>La S r
  | false=>false
theorem Jj {S:St}:∀ {l:List Ay},La S l=true→Be (fun x=>Af true (S.val x)) l
 | [],_=>trivial
 | x::r,h=>by
  unfold La at h
  split at h
  ·rename_i hp; exact ⟨Ku hp,Jj h⟩
  ·cases h
def Yr (sz len:Nat):List (Nat×V)→Bool
 | []=>true
 | p::r=>match Nat.blt p.1 len with
  | true=>match Nat.beq p.2.cells.length sz with
   | true=>match p.2.cells.all (fun c => !He c) with
    | true=>Yr sz len r
    | false=>false
   | false=>false
  | false=>false
theorem Vj {sz len:Nat}:∀ {l:List (Nat×V)},Yr sz len l=true→Be (fun p=>p.1<len∧p.2.cells.length=sz∧p.2.cells.all (fun c => !He c)=true) l
 | [],_=>trivial
 | p::r,h=>by
  unfold Yr at h
  split at h
  ·rename_i h1
   split at h
   ·rename_i h2
    split at h
    ·rename_i h3
     exact ⟨⟨Nat.le_of_ble_eq_true h1,Nat.eq_of_beq_eq_true h2,h3⟩,Vj h⟩
    ·cases h
   ·cases h
  ·cases h
theorem dF {S:St}:∀ {l:List (Nat×Ay)},La S (l.map (·.2))=true→Be (fun p=>nm S p.2) l
 | [],_=>trivial
 | p::r,h=>by
  unfold List.map La at h
  split at h
  ·rename_i hp; exact ⟨Ku hp,dF h⟩
  ·cases h
def q1 (i:Bq) (S:St):Option St:=
 match i with
 | ⟨d,.p o,none⟩=>match La S o.opds with
  | true=>match Kz S o with
   | true=>match pu S (fun x=>Ab (S.val x)) o with
    | some (_,v)=>some (S.putC d v (Fv (fun x=>Ab (S.val x)) o))
    | none=>none
   | false=>none
  | false=>none
 | ⟨some d,.box x,none⟩=>match Tn ((S.drop (64*d)).val x) with
  | true=>match As (Ab ((S.drop (64*d)).val x)) with
   | true=>none
   | false=>some (((S.drop (64*d)).setBx (64*d) (Ab ((S.drop (64*d)).val x)).cells).put (some d) (.ptr (64*d) 0))
  | false=>none
 | ⟨some d,.alloc z,none⟩=>some (((S.drop (64*d)).setBx (64*d) z).put (some d) (.ptr (64*d) 0))
 | ⟨some d,.nilS sz,none⟩=>some ((S.drop (64*d)).put (some d) (.own (64*d) 0 sz []))
 | ⟨d,.store x v n,none⟩=>match S.val x with
  | .ptr t k=>match Tn (S.val v) with
   | true=>match As (Ab (S.val v)) with
    | true=>none
    | false=>match Nat.beq (Ab (S.val v)).cells.length n with
     | true=>match look S.bx t with
      | some bs=>match Nat.ble (k+n) bs.length with
       | true=>some ((S.setBx t (Bo bs k (Ab (S.val v)).cells)).put d .undef)
       | false=>none
      | none=>none
     | false=>none
   | false=>none
  | _=>none
 | ⟨some d,.mkS sz zero len parts,none⟩=>match La S (parts.map (·.2)) with
  | true=>match Yr sz len (parts.map fun p=>(p.1,Ab (S.val p.2))) with
   | true=>some (((S.freezes (Gf (parts.map fun p=>(p.1,Ab (S.val p.2))))).drop (64*d)).put (some d)
    (.own (64*d) 0 sz (Hb sz (List.replicate len zero) ((parts.map fun p=>(p.1,Ab (S.val p.2))).map fun p=>(p.1,p.2.cells.map Cj)))))
   | false=>none
  | false=>none
 | _=>none
theorem dQ {C:Bb} {i:Bq} {S S':St} {K:St→Prop} (h:q1 i S=some S') (k:K S'):Cb C i S K:=by
 unfold q1 at h
 split at h
 ·split at h
  ·rename_i h1
   split at h
   ·rename_i h2
    split at h
    ·rename_i h3
     cases h
     exact p_ (Jj h1) h3 (Tm h2 h3) k
    ·cases h
   ·cases h
  ·cases h
 ·split at h
  ·rename_i h1
   split at h
   ·cases h
   ·rename_i h2
    cases h
    exact Nj rfl (Ku h1) h2 k
  ·cases h
 ·cases h; exact Ea k
 ·cases h; exact Ol k
 ·split at h
  ·rename_i hx
   split at h
   ·rename_i h1
    split at h
    ·cases h
    ·rename_i h2
     split at h
     ·rename_i h3
      split at h
      ·rename_i h4
       split at h
       ·rename_i h5
        cases h
        exact Ff hx rfl (Ku h1) h2 (Nat.eq_of_beq_eq_true h3) h4 (Nat.le_of_ble_eq_true h5) k
       ·cases h
      ·cases h
     ·cases h
   ·cases h
  ·cases h
 ·split at h
  ·rename_i h1
   split at h
   ·rename_i h2
    cases h
    exact oS (dF h1) (Vj h2) k
   ·cases h
  ·cases h
 ·cases h
theorem Qx {i:Bq} {S S':St} (h:q1 i S=some S'):Bu i S:=by
 unfold Bu
 split
 ·rename_i o x n ag hop
  split
  ·rename_i hx
   unfold q1 at h
   split at h
   ·rename_i d o' g
    cases hop
    split at h
    ·split at h
     ·rename_i hp
      simp only [Kz,hx] at hp
      cases hp
     ·cases h
    ·cases h
   all_goals first | cases hop | (cases h)
  ·trivial
 ·trivial
def Rj:List Et→Option (Option Bq×List Et)
 | .c .skip::T=>some (none,T)
 | .c (.seq a b)::T=>some (none,.c a :: .w :: .c b::T)
 | .c (.reg [])::T=>some (none,T)
 | .c (.reg (i::l))::T=>some (some i,.c (.reg l)::T)
 | .c (.block id a)::T=>some (none,.c a :: .b id::T)
 | .c (.draw .fin)::T=>some (none,T)
 | .c (.draw (.take i p))::T=>some (some i,.c (.draw p)::T)
 | .w::T=>some (none,T)
 | .b _::T=>some (none,T)
 | _=>none
def Uh:Nat→List Et→List Et
 | 0,T=>T
 | n+1,T=>match Rj T with
  | some (_,T')=>Uh n T'
  | none=>T
def run:Nat→List Et→St→Option St
 | 0,_,S=>some S
 | n+1,T,S=>match Rj T with
  | some (none,T')=>run n T' S
  | some (some i,T')=>match q1 i S with
   | some S'=>run n T' S'
   | none=>none
  | none=>none
variable {C:Bb} {Q:Ex→St→Prop} {S:St} {T:List Et}
theorem Ru {T':List Et} (h:Rj T=some (none,T')) (k:WL C T' Q .normal S):WL C T Q .normal S:=by
 unfold Rj at h
 split at h<;>cases h
 ·exact Rb k
 ·exact Aj k
 ·exact k
 ·exact Fa k
 ·exact k
 ·exact tW k
 ·exact fO k
theorem Yz {i:Bq} {T':List Et} {S':St} (h:Rj T=some (some i,T')) (hq:q1 i S=some S') (k:WL C T' Q .normal S'):WL C T Q .normal S:=by
 unfold Rj at h
 split at h<;>cases h
 ·exact Ak (st (dQ hq k))
 ·exact Fk (Ai (Qx hq) (dQ hq ⟨trivial,k⟩))
theorem Uw:∀(n:Nat) {T:List Et} {S S':St},run n T S=some S'→WL C (Uh n T) Q .normal S'→WL C T Q .normal S
 | 0,T,S,S',h,k=>by cases h; exact k
 | n+1,T,S,S',h,k=>by
  unfold run at h
  unfold Uh at k
  split at h
  ·rename_i h1
   rw [h1] at k
   exact Ru h1 (Uw n h k)
  ·rename_i h1
   split at h
   ·rename_i h2
    rw [h1] at k
    exact Yz h1 h2 (Uw n h k)
   ·cases h
  ·cases h
def zN:List Et→List Et
 | .w::T=>T
 | T=>T
def zH:List Et→Bool
 | .w::_=>true
 | _=>false
def dZ (o:Option St) (S':St):Option (List (Option V)×List (Option (List V))×List (Nat×Int)):=o.map fun S=>(S'.env.map (fun p=>look S.env p.1),S'.bx.map (fun p=>look S.bx p.1),S'.cp)
def eJ (S':St):Option (List (Option V)×List (Option (List V))×List (Nat×Int)):=some (S'.env.map (fun p=>some p.2),S'.bx.map (fun p=>some p.2),[])
theorem AR (n:Nat) (ts:List Nat) (rs:List (Nat×Nat)) (S':St) (k:WL C (zN (Uh n T)) Q .normal S')
  (hw:zH (Uh n T)=true:=by kernel_rfl) (hr:eE rs=true:=by kernel_rfl) (h:dZ ((run n T S).map fun S=>(S.freezes ts).swaps rs) S'=eJ S':=by kernel_rfl):WL C T Q .normal S:=by
 cases hR:run n T S with
 | none=>rw [hR] at h; cases h
 | some S1=>
  rw [hR] at h
  refine Uw n hR ?_
  cases hT:Uh n T with
  | nil=>rw [hT] at hw; cases hw
  | cons x T'=>
   rw [hT] at hw k
   cases x with
   | w=>exact Bg S' ((Fg.fz _ ts).trans ((Fg.sw _ rs hr).trans (.le (Wc.le (Option.some.inj h))))) k
   | c a=>cases hw
   | b id=>cases hw
theorem AP (n:Nat) (S':St) (k:WL C (zN (Uh n T)) Q .normal S') (hw:zH (Uh n T)=true:=by kernel_rfl) (h:dZ (run n T S) S'=eJ S':=by kernel_rfl):WL C T Q .normal S:=
 AR n [] [] S' k hw rfl (by cases hR:run n T S with | none=>rw [hR] at h; cases h | some S1=>rw [hR] at h; exact h)
def wU (n:Nat) (T:List Et) (S:St):St:=(run n T S).getD S
theorem Rl (n:Nat) (k:WL C (Uh n T) Q .normal (wU n T S)) (h:(run n T S).isSome=true:=by kernel_rfl):WL C T Q .normal S:=by
 cases hR:run n T S with
 | none=>rw [hR] at h; cases h
 | some S1=>
  refine Uw n hR ?_
  unfold wU at k
  rw [hR] at k
  exact k
def tT (o:Option St) (res:List Su) (nb:Nat):Option (Bool×V×List (List V)):=
 match o with
 | none=>none
 | some S=>match dT S res with
  | none=>none
  | some v=>match Io S (On nb++Cw v.flat) with
   | none=>none
   | some css=>some (Lv 33 [(Fe (v.flat++css.flatten)).length,(Cw v.flat).length],Ft (My (Fe (v.flat++css.flatten)) (Cw v.flat)) v,Jy (My (Fe (v.flat++css.flatten)) (Cw v.flat)) css)
def cR:List Et→Bool
 | .c .ret::_=>true
 | _=>false
theorem AA {res:List Su} {nb:Nat} {t:Dh} (n:Nat) (hQ:∀S',FQ res nb t .ret S'→Q .ret S') (ts:List Nat:=[]) (h6:t.rw=[]:=by exact rfl) (hr:cR (Uh n T)=true:=by kernel_rfl)
  (h:tT ((run n T S).map fun S=>S.freezes ts) res nb=some (true,t.r,t.bx):=by kernel_rfl):WL C T Q .normal S:=by
 cases hR:run n T S with
 | none=>rw [hR] at h; cases h
 | some S1=>
  rw [hR] at h
  refine Uw n hR ?_
  cases hT:Uh n T with
  | nil=>rw [hT] at hr; cases hr
  | cons x T'=>
   rw [hT] at hr
   unfold cR at hr
   split at hr
   ·rename_i e
    cases e
    refine Gj (hQ _ ?_)
    refine wT (Fg.fz _ ts) ?_
    unfold tT at h
    split at h
    ·cases h
    ·rename_i S2 e2
     obtain rfl:=Option.some.inj e2
     split at h
     ·cases h
     ·rename_i h1
      split at h
      ·cases h
      ·rename_i h2
       simp only [Option.some.injEq,Prod.mk.injEq] at h
       exact Co h1 h2 h.1 h.2.1 h.2.2 (by rw [h6]; trivial)
   ·cases hr
theorem Wx {res:List Su} {nb:Nat} {t:Dh} (n:Nat) (ts:List Nat:=[]) (h6:t.rw=[]:=by exact rfl) (hr:cR (Uh n T)=true:=by kernel_rfl)
  (h:tT ((run n T S).map fun S=>S.freezes ts) res nb=some (true,t.r,t.bx):=by kernel_rfl):WL C T (FQ res nb t) .normal S:=AA n (fun _ h=>h) ts h6 hr h
theorem bb {α β:Type} {o:Option α} {f:α→Option β} {r:β} {P:Prop} (h:o.bind f=some r) (k:∀x,o=some x→f x=some r→P):P:=by
 obtain ⟨x,h1,h2⟩:=bnd h
 exact k x h1 h2
theorem bv {α β:Type} {e:α} {f:α→Option β} {r:β} {P:Prop} (h:Cz e f=some r) (k:∀x,x=e→f x=some r→P):P:=k e rfl h
theorem gg {α:Type} {c:Prop} [Decidable c] {a:Option α} {r:α} {P:Prop} (h:(if c then a else none)=some r) (k:c→a=some r→P):P:=k (cM h).1 (cM h).2
theorem kn {σ ρ:Type} {K:Ex→St→Prop} {st:σ→St→Prop} {o:σ⊕ρ} {s':σ} {S' S'':St} (hK:∀s',o = .inl s'→∀S' S'',Fg S' S''→st s' S''→K .normal S') (h1:o = .inl s') (h2:st s' S'')
  (h:(S''.env.map (fun p=>look S'.env p.1),S''.bx.map (fun p=>look S'.bx p.1),S''.cp)=(S''.env.map (fun p=>some p.2),S''.bx.map (fun p=>some p.2),([]:List (Nat×Int))):=by kernel_rfl):K .normal S':=hK _ h1 _ _ (Bc h) h2
def Yi (S:St) (j:Bq):Option (Option V):=
 match j with
 | ⟨some _,.p o,none⟩=>match La S o.opds with
  | true=>match Kz S o with
   | true=>match pu S (fun x=>Ab (S.val x)) o with
    | some (_,v)=>some (some v)
    | none=>none
   | false=>none
  | false=>none
 | _=>none
def Qb (S:St) (j:Bq):Option (Option V):=
 match j with
 | ⟨some d,.p _,none⟩=>some (look S.env d)
 | _=>some none
theorem wP {C:Bb} {X:List Bq} {S:St} {j:Bq} (h:Yi S j=Qb S j) (hc:S.cp=[]):(Bu j S∨j∈X)∧Cb C j S (fun S'=>Pj S' S):=by
 unfold Yi at h
 split at h
 ·rename_i d o
  split at h
  ·rename_i h1
   split at h
   ·rename_i h2
    split at h
    ·rename_i h3
     have h4:some _=look S.env d:=Option.some.inj h
     refine ⟨.inl ?_,?_⟩
     ·exact Qx (S':=S.putC (some d) _ (Fv (fun x=>Ab (S.val x)) o)) (by simp only [q1,h1,h2,h3]; rfl)
     ·exact Cv ⟨Jj h1,_,h3,Tm h2 h3⟩ h4.symm hc
    ·simp only [Qb] at h; cases h
   ·simp only [Qb] at h; cases h
  ·simp only [Qb] at h; cases h
 ·unfold Qb at h
  split at h
  ·cases h
  ·cases h
theorem Yh {C:Bb} {X:List Bq} {S:St} (hc:S.cp=[]):∀ {l:List Bq},l.map (Yi S)=l.map (Qb S)→Fp C X l S
 | [],_=>trivial
 | j::r,h=>by
  simp only [List.map_cons,List.cons.injEq] at h
  exact ⟨wP h.1 hc,Yh hc h.2⟩
theorem hB {C:Bb} {X l:List Bq} {S:St} (h:(l.map (Yi S),S.cp)=(l.map (Qb S),[]):=by kernel_rfl):Fp C X l S:=by
 simp only [Prod.mk.injEq] at h
 exact Yh h.2 h.1
theorem d0 {C:Bb} {K:St→Prop} {S:St} {held:List Bq} {r:DP} (hh:Fp C [] held S) (k:WD C r [] K S):∃S1,Fg S S1∧∃X',Fp C X' held S1∧Ct C X' S1∧WD C r X' K S1:=⟨S,Fg.refl S,[],hh,trivial,k⟩
theorem jn {R G:St→Prop} {S' S1:St} (hJ:∀S S1,Fg S S1→R S1→G S) (h1:R S1)
  (h:(S1.env.map (fun p=>look S'.env p.1),S1.bx.map (fun p=>look S'.bx p.1),S1.cp)=(S1.env.map (fun p=>some p.2),S1.bx.map (fun p=>some p.2),([]:List (Nat×Int))):=by kernel_rfl):G S':=hJ _ _ (Bc h) h1
theorem tQ {α:Type} {c:Ay} {a b:IR} {cb:Bool} {x y r:α} (h0:(if cb=true then x else y)=r) (k1:cb=true→x=r→WL C (.c a::T) Q .normal S) (k2:cb=false→y=r→WL C (.c b::T) Q .normal S)
  (hc:S.val c = .bool cb:=by kernel_rfl):WL C (.c (.ite c a b)::T) Q .normal S:=Fs hc (fun h=>k1 h (ip h h0)) (fun h=>k2 h (Ou h h0))
def bU (S:St) (as:List Ay):Bool×Bool×List V:=(La S as,Lk (fun v => !As v) (as.map fun x=>Ab (S.val x)),(as.map fun x=>Ab (S.val x)).map (mapW (S.liftC [] [] [] false)))
theorem AM {d:Option Nat} {l:List Bq} {f:Nat} {as:List Ay} {gv:List V} {r:V} (H:C f ⟨gv,[]⟩ ⟨r,[],[]⟩) (h3:r.flat.all Gb=true)
  (k:OL C l T Q ((S.drops (Kb (d.getD 0) (Bj r.flat))).put d (Ft (Ek (d.getD 0) 0 [] []) r))) (h:bU S as=(true,true,gv):=by kernel_rfl):OL C (⟨d,.call f as,none⟩::l) T Q S:=by
 simp only [bU,Prod.mk.injEq] at h
 exact st (Cp false H (Jj h.1) h.2.1 h.2.2 (fun _=>h3) k)
theorem zB {d:Option Nat} {l:List Bq} {f:Nat} {as:List Ay} {gv:List V} {r:V} (H:C f ⟨gv,[]⟩ ⟨r,[],[]⟩)
  (k:OL C l T Q ((S.drops (Kb (d.getD 0) (Bj r.flat))).put d (Ft (Ek (d.getD 0) 0 [] []) r))) (h:bU S as=(true,true,gv):=by kernel_rfl) (h3:r.flat.all Gb=true:=by kernel_rfl):OL C (⟨d,.call f as,none⟩::l) T Q S:=AM H h3 k h
def Vc (S:St) (g:Bool):List Ay→List (Bool×Bool)
 | []=>[]
 | x::r=>match S.val x with
  | .may b _=>(b,g)::Vc S g r
  | _=>Vc S g r
def oR (b:Bool):V→List (Bool×Bool)
 | .may c _=>[(c,b)]
 | _=>[]
abbrev Iu (l:List (Bool×Bool)):Prop:=l.map (·.1)=l.map (·.2)
theorem Qn {S:St} {g:Bool} (hg:g=true):∀ {l:List Ay},Iu (Vc S g l)→Be (fun x=>Af true (S.val x)) l
 | [],_=>trivial
 | x::r,h=>by
  unfold Vc at h
  split at h
  ·rename_i hx
   simp only [Iu,List.map_cons,List.cons.injEq] at h
   refine ⟨?_,Qn hg h.2⟩
   show Af true (S.val x)
   rw [hx]
   exact fun _=>by rw [h.1]; exact hg
  ·rename_i hx
   refine ⟨?_,Qn hg h⟩
   show Af true (S.val x)
   cases hv:S.val x<;>first | trivial | exact absurd hv (hx _ _)
theorem Yn {b c:Bool} {v:V} (h:Iu (oR b v)) (hb:c=true→b=true):Af c v:=by
 cases v with
 | may x y=>
  simp only [Iu,oR,List.map_cons,List.map_nil,List.cons.injEq,and_true] at h
  exact fun hc=>by rw [h]; exact hb hc
 | _=>trivial
def q2 (i:Bq) (S:St):Option (St×List (Bool×Bool)):=
 match i with
 | ⟨d,.p o,some (gs,want)⟩=>match Jc (S.val (.t gs)) want with
  | some g=>match Kz S o with
   | true=>match pu S (fun x=>Ab (S.val x)) o with
    | some (_,v)=>some (S.put d (.may g v),Vc S g o.opds)
    | none=>none
   | false=>none
  | none=>none
 | ⟨d,.pick c a b,none⟩=>match S.val c with
  | .bool cb=>some (S.put d (Ke cb (Ab (S.val a)) (Ab (S.val b))),oR (cb==true) (S.val a)++oR (cb==false) (S.val b))
  | _=>none
 | i=>match q1 i S with
  | some S'=>some (S',[])
  | none=>none
theorem Sp {a b:List (Bool×Bool)} (h:Iu (a++b)):Iu a:=by
 simp only [Iu,List.map_append] at h
 exact (List.append_inj h (by simp)).1
theorem Xl {a b:List (Bool×Bool)} (h:Iu (a++b)):Iu b:=by
 simp only [Iu,List.map_append] at h
 exact (List.append_inj h (by simp)).2
theorem qM {C:Bb} {i:Bq} {S S':St} {l:List (Bool×Bool)} {K:St→Prop} (h:q2 i S=some (S',l)) (hl:Iu l) (k:K S'):Cb C i S K:=by
 unfold q2 at h
 split at h
 ·split at h
  ·rename_i hg
   split at h
   ·rename_i h2
    split at h
    ·rename_i h3
     cases h
     exact Da hg (fun e=>⟨Qn e hl,_,h3,Tm h2 h3⟩) k
    ·cases h
   ·cases h
  ·cases h
 ·split at h
  ·rename_i hc
   cases h
   exact Di hc rfl rfl (Yn (Sp hl) fun e=>by rw [e]; rfl) (Yn (Xl hl) fun e=>fG e) rfl k
  ·cases h
 ·split at h
  ·rename_i h1
   cases h
   exact dQ h1 k
  ·cases h
theorem dR {i:Bq} {S S':St} {l:List (Bool×Bool)} (h:q2 i S=some (S',l)):Bu i S:=by
 unfold q2 at h
 split at h
 ·rename_i d o gs want
  unfold Bu
  split
  ·rename_i x n ag hop
   split
   ·rename_i hx
    cases hop
    split at h
    ·split at h
     ·rename_i hp
      simp only [Kz,hx] at hp
      cases hp
     ·cases h
    ·cases h
   ·trivial
  ·trivial
 ·trivial
 ·split at h
  ·rename_i h1
   exact Qx h1
  ·cases h
def Vn:Nat→List Et→St→Option (St×List (Bool×Bool))
 | 0,_,S=>some (S,[])
 | n+1,T,S=>match Rj T with
  | some (none,T')=>Vn n T' S
  | some (some i,T')=>match q2 i S with
   | some (S',l)=>match Vn n T' S' with
    | some (S2,l2)=>some (S2,l++l2)
    | none=>none
   | none=>none
  | none=>none
theorem To:∀(n:Nat) {T:List Et} {S S':St} {l:List (Bool×Bool)},Vn n T S=some (S',l)→Iu l→WL C (Uh n T) Q .normal S'→WL C T Q .normal S
 | 0,T,S,S',l,h,_,k=>by cases h; exact k
 | n+1,T,S,S',l,h,hl,k=>by
  unfold Vn at h
  unfold Uh at k
  split at h
  ·rename_i h1
   rw [h1] at k
   exact Ru h1 (To n h hl k)
  ·rename_i i T' h1
   split at h
   ·rename_i S1 l1 h2
    rw [h1] at k
    split at h
    ·rename_i h3
     cases h
     have kk:=To n h3 (Xl hl) k
     unfold Rj at h1
     split at h1<;>cases h1
     ·exact Ak (st (qM h2 (Sp hl) kk))
     ·exact Fk (Ai (dR h2) (qM h2 (Sp hl) ⟨trivial,kk⟩))
    ·cases h
   ·cases h
  ·cases h
def wV (n:Nat) (T:List Et) (S:St):St:=match Vn n T S with
 | some p=>p.1
 | none=>S
def rZ:Option (St×List (Bool×Bool))→Option (List Bool)
 | some p=>some (p.2.map (·.1))
 | none=>none
def sA:Option (St×List (Bool×Bool))→Option (List Bool)
 | some p=>some (p.2.map (·.2))
 | none=>some []
theorem xE (n:Nat) (k:WL C (Uh n T) Q .normal (wV n T S)) (h:rZ (Vn n T S)=sA (Vn n T S):=by kernel_rfl):WL C T Q .normal S:=by
 cases hR:Vn n T S with
 | none=>rw [hR] at h; cases h
 | some p=>
  obtain ⟨S1,l⟩:=p
  unfold wV at k
  rw [hR] at k h
  exact To n hR (Option.some.inj h) k
theorem Rh (n:Nat) (e:List (Nat×V)) (b:List (Nat×List V)) (k:WL C (zN (Uh n T)) Q .normal ⟨e,b,[]⟩) (hw:zH (Uh n T)=true:=by kernel_rfl) (h:dZ (run n T S) ⟨e,b,[]⟩=eJ ⟨e,b,[]⟩:=by kernel_rfl):WL C T Q .normal S:=AP n _ k hw h
theorem AC {α:Type} {e:α→List V} {l0:List α} {d:Option Nat} {l:List Bq} {x i:Ay} {sz:Nat} {q:IntKind} {n:Int} {y:α} (hx:S.val x = .lst sz (l0.map e)) (hi:S.val i = .int q n) (hy:Je l0 n=some y)
  (k':OL C l T Q (S.put d (.iptr (e y)))):OL C (⟨d,.p (.idxA x i sz),none⟩::l) T Q S:=st (wQ hx hi hy k')
theorem AD {α:Type} {e:α→List V} {l0:List α} {d:Option Nat} {T':List Et} {x i:Ay} {sz:Nat} {q:IntKind} {n:Int} {y:α} (ha:Rj T=some (some ⟨d,.p (.idxA x i sz),none⟩,T')) (hx:S.val x = .lst sz (l0.map e)) (hi:S.val i = .int q n) (hy:Je l0 n=some y)
  (k':WL C T' Q .normal (S.put d (.iptr (e y)))):WL C T Q .normal S:=by
 unfold Rj at ha
 split at ha<;>cases ha
 ·exact Ak (AC hx hi hy k')
 ·exact Fk (Ai trivial (wQ hx hi hy ⟨trivial,k'⟩))
theorem zJ {α:Type} {e:α→List V} {l0:List α} {d:Option Nat} {l:List Bq} {x:Ay} {sz:Nat} (hx:S.val x = .lst sz (l0.map e)) (k':OL C l T Q (S.put d (.int .i64 (l0.length:Int)))) (hz:sz≠0:=by decide):OL C (⟨d,.p (.len x),none⟩::l) T Q S:=st (zI hx k' hz)
theorem vD {d:Option Nat} {l:List Bq} {f:Nat} {as:List Ay} (LB LR LM:List Nat) {g:Lj} {t:Dh} (H:C f g t) (k:OL C l T Q (((S.after (as.map fun x=>Ab (S.val x)) (d.getD 0) true LB LR LM t).put d (Ft (Ek (d.getD 0) (t.bx.length-LB.length) LB LR) t.r))))
  (h:(La S as,Lk (fun v => !As v) (as.map fun x=>Ab (S.val x)),S.give (as.map fun x=>Ab (S.val x)) LB LR LM true,(Bn LB&&Bn (LR++LM)&&Lv Au LM&&LB.all (fun T=>(look S.bx T).isSome)),
   (Lv 33 [t.bx.length-LB.length,LM.length,LR.length]&&Hx (t.newB (d.getD 0) LB.length) LB&&Hx (t.newR (d.getD 0)) LR))=(true,true,g,true,true):=by kernel_rfl):OL C (⟨d,.call f as,none⟩::l) T Q S:=by
 simp only [Prod.mk.injEq] at h
 obtain ⟨a1,a2,a3,a4,a5⟩:=h
 exact st (Eh LB LR LM true H (Jj a1) a2 a3 a4 a5 (fun h=>nomatch h) k)
theorem o_ {l:List Bq} (k:WL C (.c (.reg l)::T) Q .normal S):OL C l T Q S:=k
theorem d_ {p:DP} (k:WL C (.c (.draw p)::T) Q .normal S):WD C p [] (WL C T Q .normal) S:=k
end Go.Ev
