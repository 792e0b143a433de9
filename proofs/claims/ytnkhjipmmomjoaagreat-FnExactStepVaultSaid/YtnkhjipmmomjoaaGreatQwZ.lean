/- The plain part of the proof: what the functions compute answers as the law says. -/
import Derived.Test.YtnkhjipmmomjoaaGreatQwZa
set_option linter.all false
section
set_option maxHeartbeats 1000000
namespace Go.Ev
abbrev Nt (t:Ar) (x:Int):Prop:=∀y∈t.Ae,y.id≠x
abbrev hY (l:List Aj) (x:Int):Prop:=∀y∈l,y.Ay≠x
theorem dE {l:List Aa} {x n:Int} (h:Xg l x n):n<0↔∀y∈l,y.id≠x:=by
 rcases h with ⟨rfl,h⟩ | ⟨k,hk,rfl,h⟩
 ·exact ⟨fun _=>h,fun _=>by omega⟩
 ·exact ⟨fun hh=>by omega,fun hh=>absurd h (hh _ (List.getElem_mem hk))⟩
theorem dD (t:Ar) (x:Int) (hl:t.Ae.length≤1048576):∃n,GG t x=some n∧decide (n<0)=tf (Nt t x)∧decide (n≥0) = !tf (Nt t x):=by
 obtain ⟨n,h1,h2⟩:=Sd t x hl
 have h3:=dE h2
 refine ⟨n,h1,?_,?_⟩
 ·rw [Ze]; exact Lb h3
 ·rw [Ze,nI]
  refine Lb ⟨fun h hh=>?_,fun h=>Classical.byContradiction fun hh=>h (h3.1 (by omega))⟩
  have:=h3.2 hh
  omega
theorem qR (t:Ar) (h:Es t) (x:Int):∃i b,GF t x=some (i,b)∧(!b)=tf (Nt t x):=by
 obtain ⟨n,_,h2⟩:=Sd t x (by have:=h.2.2.1; omega)
 obtain ⟨i,b,e1,e2,e3⟩:=fO t h x n h2
 have h3:=dE h2
 refine ⟨i,b,e1,?_⟩
 cases b with
 | true=>
  have:=(e2 rfl).2
  exact (De fun hh=>by have:=h3.2 hh; omega).symm
 | false=>
  have:=e3 rfl
  exact (Eu (h3.1 (by omega))).symm
theorem Wl (v:Ap) (x:Int) (hl:v.Ab.length≤1048576):∃n,AcQ v x=some n∧decide (n<0)=tf (hY v.Ab x):=by
 obtain ⟨r,h1,h2⟩:=dI (step:=Xs v x) (fun s=>∃k:Nat,s=(k:Int)∧k≤v.Ab.length∧∀j,∀h:j<v.Ab.length,j<k→v.Ab[j].Ay≠x) (fun s=>(v.Ab.length-s).toNat)
  (fun r=>(r = .inl ()∧hY v.Ab x)∨∃n:Nat,r = .inr (n:Int)∧¬hY v.Ab x) 0 ⟨0,rfl,by omega,by intros; omega⟩ (by
   rintro _ ⟨k,rfl,hk,hj⟩
   simp only [Xs]
   by_cases hlt:k<v.Ab.length
   ·rw [if_pos (decide_eq_true (by omega)),Cb hlt]
    simp only [Option.bind_some,w1 (show k<4611686018427387904 by omega)]
    by_cases hp:v.Ab[k].Ay=x
    ·rw [if_pos (by simp [hp])]
     exact .inr ⟨_,rfl,.inr ⟨k,rfl,fun hh=>hh _ (List.getElem_mem hlt) hp⟩⟩
    ·rw [if_neg (by simp [hp])]
     refine .inl ⟨_,rfl,⟨k+1,rfl,by omega,fun j h hj2=>?_⟩,by omega⟩
     by_cases e:j=k
     ·subst e; exact hp
     ·exact hj j h (by omega)
   ·rw [if_neg (by simp; omega)]
    refine .inr ⟨_,rfl,.inl ⟨rfl,fun y hy=>?_⟩⟩
    obtain ⟨j,hj1,rfl⟩:=List.getElem_of_mem hy
    exact hj j hj1 (by omega))
 simp only [AcQ,h1,Option.bind_some]
 rcases h2 with ⟨rfl,h2⟩ | ⟨n,rfl,h2⟩
 ·exact ⟨-1,rfl,by rw [Eu h2]; decide⟩
 ·exact ⟨n,rfl,by rw [De h2]; simp⟩
theorem dL (l:List Aj) (hl:l.length≤1048576):g95 l=some (l.map Aj.Ay):=by
 have h:=Dg (step:=Zx l) (fun k=>((l.take k).map Aj.Ay,(k:Int))) l.length (l.map Aj.Ay) (fun k hk=>by
  simp only [Zx]
  rw [if_pos (decide_eq_true (by omega)),Cb hk]
  simp only [Option.bind_some,w1 (show k<4611686018427387904 by omega)]
  rw [if_pos (by simp; omega),List.take_succ_eq_append_getElem hk,List.map_append]
  rfl) (by
  simp only [Zx]
  rw [if_neg (by simp),List.take_length])
 simp only [g95]
 rw [show (([]:List Int),(0:Int))=((l.take 0).map Aj.Ay,((0:Nat):Int)) from rfl,h]
 rfl
theorem lE (a b:List Int) (ha:a.length≤1048576) (hb:b.length≤1048576):AcR [a,b]=some (a++b):=by
 have wa:IntKind.i64.wrap (0+(a.length:Int))=(a.length:Int):=by rw [wr ⟨by omega,by omega⟩]; omega
 have wb:IntKind.i64.wrap ((a.length:Int)+(b.length:Int))=(a.length:Int)+(b.length:Int):=wr ⟨by omega,by omega⟩
 have k1:IntKind.i64.wrap ((0:Int)+1)=1:=by decide
 have k2:IntKind.i64.wrap ((1:Int)+1)=2:=by decide
 have s0:Lk [a,b] (0,0)=some (.inl ((a.length:Int),1)):=by
  simp only [Lk,Xt]
  rw [if_pos (by simp),show Co [a,b] (0:Int)=some a from rfl]
  simp only [Option.bind_some,wa,k1]
  rw [if_neg (by simp)]
 have s1:Lk [a,b] ((a.length:Int),1)=some (.inl ((a.length:Int)+(b.length:Int),2)):=by
  simp only [Lk,Xt]
  rw [if_pos (by simp),show Co [a,b] (1:Int)=some b from rfl]
  simp only [Option.bind_some,wb,k2]
  rw [if_neg (by simp; omega)]
 have s2:Lk [a,b] ((a.length:Int)+(b.length:Int),2)=some (.inr ((a.length:Int)+(b.length:Int))):=by
  simp only [Lk]
  rw [if_neg (by simp)]
 have u0:Ll [a,b] ([],0)=some (.inl (a,1)):=by
  simp only [Ll]
  rw [if_pos (by simp),show Co [a,b] (0:Int)=some a from rfl]
  simp only [Option.bind_some,k1,List.nil_append]
  rw [if_pos (by simp; omega)]
 have u1:Ll [a,b] (a,1)=some (.inl (a++b,2)):=by
  simp only [Ll]
  rw [if_pos (by simp),show Co [a,b] (1:Int)=some b from rfl]
  simp only [Option.bind_some,k2]
  rw [if_pos (by omega)]
 have u2:Ll [a,b] (a++b,2)=some (.inr (a++b)):=by
  simp only [Ll]
  rw [if_neg (by simp)]
 have hg:AcY ([]:List Int) ((a.length:Int)+(b.length:Int))=some []:=by
  unfold AcY
  rw [if_pos ⟨by omega,by simp; omega⟩]
 simp only [AcR,Df s0,Df s1,Dk s2,Option.bind_some,hg,Df u0,Df u1,Dk u2]
def So:List Int→List (Int×Bool)→List (Int×Bool)
 | [],l=>l
 | x::r,l=>So r (Rm l x true)
theorem dK (x n:Int) (b:Bool):∀l:List (Int×Bool),Mn (Rm l n b) x=if n=x then b else Mn l x
 | []=>by simp [Rm,Mn]
 | (k,c)::r=>by
  simp only [Rm]
  by_cases h:k=n
  ·subst h
   simp only [if_true,Mn]
   split<;>rfl
  ·simp only [h,if_false,Mn,dK x n b r]
   by_cases h2:k=x
   ·subst h2
    simp [Ne.symm h]
   ·simp [h2]
theorem dJ (x:Int):∀(r:List Int) (l:List (Int×Bool)),Mn (So r l) x=(decide (x∈r) || Mn l x)
 | [],l=>by simp [So]
 | y::r,l=>by
  rw [So,dJ x r,dK]
  by_cases h:y=x
  ·subst h; simp
  ·by_cases h2:x∈r
   ·simp [h2]
   ·simp [h,h2,Ne.symm h]
theorem EP (r:List Int) (hl:r.length≤4194304):∃m,Ca (Vo r) (0,[])=some m∧∀x,Mn m x=decide (x∈r):=by
 have h:=Dg (step:=Vo r) (fun k=>((k:Int),So (r.take k) [])) r.length (So r []) (fun k hk=>by
  simp only [Vo]
  rw [if_pos (decide_eq_true (by omega)),Cb hk]
  simp only [Option.bind_some,Int.toNat_natCast]
  rw [List.getElem?_eq_getElem hk]
  simp only [Option.bind_some,w1 (show k<4611686018427387904 by omega)]
  congr 3
  rw [List.take_succ_eq_append_getElem hk]
  generalize r.take k=q
  generalize ([]:List (Int×Bool))=l
  induction q generalizing l with
  | nil=>rfl
  | cons y q ih=>exact ih _) (by
  simp only [Vo]
  rw [if_neg (by simp),List.take_length])
 refine ⟨So r [],h,fun x=>?_⟩
 rw [dJ]
 simp [Mn]
def Sq (v:Ap) (x:Int):Prop:=¬Nt v.Ac x∨¬hY v.Ab x
theorem dT (v:Ap) (x:Int):x∈v.Ac.Ae.map Aa.id++v.Ab.map Aj.Ay↔Sq v x:=by
 simp [Sq]
theorem eX {α:Type} (l:List α) (p:α→Bool):(Gu l p = -1∧∀x∈l,p x=false)∨∃k,∃h:k<l.length,Gu l p=(k:Int)∧p l[k]=true:=by
 unfold Gu
 cases hf:l.findIdx? p with
 | none=>exact .inl ⟨rfl,fun x hx=>List.findIdx?_eq_none_iff.1 hf x hx⟩
 | some k=>
  obtain ⟨h,h1,_⟩:=List.findIdx?_eq_some_iff_getElem.1 hf
  exact .inr ⟨k,h,rfl,h1⟩
theorem FD (v:Ap) (h1:v.Ac.Ae.length≤1048576) (h2:v.Ab.length≤1048576) (h3:v.Ah.length≤1048576):∃q,g96 v=some q∧(!q.2)=tf (∀a∈v.Ah,Sq v a):=by
 obtain ⟨m,m1,m2⟩:=EP (v.Ac.Ae.map Aa.id++v.Ab.map Aj.Ay) (by simp; omega)
 have hp:∀x∈v.Ah,(fun z=>CD z m) x=some (!decide (x∈v.Ac.Ae.map Aa.id++v.Ab.map Aj.Ay)):=fun x _=>by simp only [CD,m2]
 have hf:=oJ v.Ah _ (fun x => !decide (x∈v.Ac.Ae.map Aa.id++v.Ab.map Aj.Ay)) hp (by omega)
 simp only [g96,CS v.Ac h1,dL v.Ab h2,Option.bind_some,lE _ _ (show (v.Ac.Ae.map Aa.id).length≤1048576 by simpa using h1) (show (v.Ab.map Aj.Ay).length≤1048576 by simpa using h2),m1,hf]
 rcases eX v.Ah (fun x => !decide (x∈v.Ac.Ae.map Aa.id++v.Ab.map Aj.Ay)) with ⟨e1,e2⟩ | ⟨k,hk,e1,e2⟩
 ·rw [e1,if_pos (by decide)]
  refine ⟨_,rfl,(Eu fun a ha=>?_).symm⟩
  have:=e2 a ha
  simp only [Bool.not_eq_false',decide_eq_true_eq] at this
  exact (dT v a).1 this
 ·rw [e1,if_neg (by simp),Cb hk]
  refine ⟨_,rfl,(De fun hh=>?_).symm⟩
  simp only [Bool.not_eq_true',decide_eq_false_iff_not] at e2
  exact e2 ((dT v _).2 (hh _ (List.getElem_mem hk)))
theorem lost_eq (v:Ap) (h1:v.Ac.Ae.length≤1048576) (h2:v.Ab.length≤1048576) (h3:v.Ah.length≤1048576) (hpos:∀a∈v.Ah,1≤a):∃n,g93 v=some n∧(n==0)=tf (∀a∈v.Ah,Sq v a):=by
 obtain ⟨r,e1,e2⟩:=dI (step:=fR v) (fun s=>∃k:Nat,s=(k:Int)∧k≤v.Ah.length∧∀j,∀h:j<v.Ah.length,j<k→Sq v v.Ah[j]) (fun s=>(v.Ah.length-s).toNat)
  (fun r=>(r = .inl ()∧∀a∈v.Ah,Sq v a)∨∃a,r = .inr a∧a∈v.Ah∧¬Sq v a) 0 ⟨0,rfl,by omega,by intros; omega⟩ (by
   rintro _ ⟨k,rfl,hk,hj⟩
   simp only [fR]
   by_cases hlt:k<v.Ah.length
   ·rw [if_pos (decide_eq_true (by omega)),Cb hlt]
    obtain ⟨n,f1,f2,_⟩:=dD v.Ac v.Ah[k] h1
    obtain ⟨n2,f3,f4⟩:=Wl v v.Ah[k] h2
    simp only [Option.bind_some,f1,f2,w1 (show k<4611686018427387904 by omega)]
    by_cases hn:Nt v.Ac v.Ah[k]
    ·simp only [Eu hn,beq_self_eq_true,if_true,Option.bind_some,f3,f4,cond_true]
     by_cases hi:hY v.Ab v.Ah[k]
     ·rw [if_pos (Eu hi)]
      refine .inr ⟨_,rfl,.inr ⟨_,rfl,List.getElem_mem hlt,?_⟩⟩
      rintro (hh | hh)
      ·exact hh hn
      ·exact hh hi
     ·rw [if_neg (by simp [De hi])]
      refine .inl ⟨_,rfl,⟨k+1,rfl,by omega,fun j h hj2=>?_⟩,by omega⟩
      by_cases e:j=k
      ·subst e; exact .inr hi
      ·exact hj j h (by omega)
    ·simp only [De hn,show (false==true)=false from rfl,Bool.false_eq_true,if_false,Option.bind_some,cond_false]
     obtain ⟨d,d1,_⟩:=Wl v v.Ah[k] h2
     refine .inl ⟨_,rfl,⟨k+1,rfl,by omega,fun j h hj2=>?_⟩,by omega⟩
     by_cases e:j=k
     ·subst e; exact .inl hn
     ·exact hj j h (by omega)
   ·rw [if_neg (by simp; omega)]
    refine .inr ⟨_,rfl,.inl ⟨rfl,fun y hy=>?_⟩⟩
    obtain ⟨j,hj1,rfl⟩:=List.getElem_of_mem hy
    exact hj j hj1 (by omega))
 simp only [g93,e1,Option.bind_some]
 rcases e2 with ⟨rfl,e2⟩ | ⟨a,rfl,e2,e3⟩
 ·exact ⟨0,rfl,by rw [Eu e2]; rfl⟩
 ·refine ⟨a,rfl,?_⟩
  rw [De fun hh=>e3 (hh a e2)]
  have:=hpos a e2
  simp; omega
abbrev Ys (v:Ap) (k:Nat) (x:Aj):Prop:=(1≤x.Ay∧x.Ay≤v.Ac.next-1)∧(∀y,0<k→v.Ab[k-1]? = some y→y.Ay<x.Ay)∧Nt v.Ac x.Ay
theorem fX (v:Ap) (hn:1≤v.Ac.next∧v.Ac.next≤1000000) (h1:v.Ac.Ae.length≤1048576) (h2:v.Ab.length≤1048576):
  Ca (Zp v) 0=some (if tf (∀k x,v.Ab[k]? = some x→Ys v k x)=true then .inl () else .inr false):=by
 refine Pj v.Ab _ (fun k hk _=>?_) ?_
 ·have hw2:IntKind.i64.wrap ((k:Int)-1)=(k:Int)-1:=wr ⟨by omega,by omega⟩
  have hw4:IntKind.i64.wrap (v.Ac.next-1)=v.Ac.next-1:=wr ⟨by omega,by omega⟩
  simp only [Zp]
  rw [if_pos (decide_eq_true (by omega)),Cb hk]
  generalize hx:v.Ab[k]=x
  obtain ⟨n,f1,f2,f3⟩:=dD v.Ac x.Ay h1
  simp only [Option.bind_some,fM,hw2,hw4,f1,w1 (show k<4611686018427387904 by omega)]
  have hm:0<k→Co v.Ab ((k:Int)-1)=v.Ab[k-1]? := fun h=>by
   have:((k:Int)-1)=((k-1:Nat):Int):=by omega
   rw [this,Jz]
  obtain ⟨y,q1,q2⟩:=Rj (o:=Co v.Ab ((k:Int)-1)) (g:=((!tf (1≤x.Ay∧x.Ay≤v.Ac.next-1))==false&&decide ((k:Int)>0)==true)) (fun h=>by
   rw [hm (by simp at h; omega)]
   exact ⟨_,List.getElem?_eq_getElem (by omega)⟩)
  rw [q1]
  simp only [Option.bind_some,Bx]
  by_cases hr:1≤x.Ay∧x.Ay≤v.Ac.next-1
  ·simp only [Eu hr,Bool.not_true,cond_false]
   by_cases hk0:0<k
   ·have hg:((!tf (1≤x.Ay∧x.Ay≤v.Ac.next-1))==false&&decide ((k:Int)>0)==true)=true:=by simp [tf_iff,hr]; omega
    have hy:v.Ab[k-1]? = some y:=by rw [←hm hk0]; exact q2 hg
    have e3:(∀z,0<k→v.Ab[k-1]? = some z→z.Ay<x.Ay)↔y.Ay<x.Ay:=by
     rw [hy]; exact ⟨fun h=>h y hk0 rfl,fun h z _ hz=>by cases hz; exact h⟩
    rw [decide_eq_true (show (k:Int)>0 by omega)]
    simp only [cond_true]
    by_cases hyx:y.Ay<x.Ay
    ·rw [decide_eq_false (show ¬y.Ay≥x.Ay by omega)]
     simp only [beq_self_eq_true,if_true,Option.bind_some,cond_false,f3]
     refine ⟨_,?_,rfl⟩
     simp [Ys,hr,e3,hyx]
    ·rw [decide_eq_true (show y.Ay≥x.Ay by omega)]
     simp only [show (true==false)=false from rfl,Bool.false_eq_true,if_false,Option.bind_some,cond_true]
     refine ⟨true,?_,by simp⟩
     simp [Ys,e3,hyx]
   ·have e3:(∀z,0<k→v.Ab[k-1]? = some z→z.Ay<x.Ay)↔True:=⟨fun _=>trivial,fun _ z h=>absurd h hk0⟩
    rw [decide_eq_false (show ¬(k:Int)>0 by omega)]
    simp only [cond_false,beq_self_eq_true,if_true,Option.bind_some,f3]
    refine ⟨_,?_,rfl⟩
    simp [Ys,hr,e3]
  ·simp only [De hr,Bool.not_false,cond_true,show (true==false)=false from rfl,Bool.false_eq_true,if_false,Option.bind_some]
   refine ⟨true,?_,by simp⟩
   simp [Ys,hr]
 ·simp only [Zp]
  rw [if_neg (by simp)]
theorem Wm (v:Ap):(∀k x,v.Ab[k]? = some x→Ys v k x)↔Cp (v.Ab.map Aj.Ay) 1 (v.Ac.next-1)∧∀x∈v.Ab.map Aj.Ay,Nt v.Ac x:=by
 constructor
 ·intro h
  refine ⟨fun k x hx=>?_,fun x hx=>?_⟩
  ·rw [List.getElem?_map,Option.map_eq_some_iff] at hx
   obtain ⟨i,hi,rfl⟩:=hx
   obtain ⟨a1,a2,_⟩:=h k i hi
   refine ⟨a1,fun y hp hy=>?_⟩
   rw [List.getElem?_map,Option.map_eq_some_iff] at hy
   obtain ⟨j,hj,rfl⟩:=hy
   exact a2 j hp hj
  ·obtain ⟨i,hi,rfl⟩:=List.mem_map.1 hx
   obtain ⟨k,hk,rfl⟩:=List.getElem_of_mem hi
   exact (h k _ (List.getElem?_eq_getElem hk)).2.2
 ·rintro ⟨h1,h2⟩ k x hx
  have hl:(v.Ab.map Aj.Ay)[k]? = some x.Ay:=by rw [List.getElem?_map,hx]; rfl
  obtain ⟨a1,a2⟩:=h1 k _ hl
  refine ⟨a1,fun y hp hy=>a2 _ hp (by rw [List.getElem?_map,hy]; rfl),h2 _ (List.mem_map.2 ⟨x,List.mem_of_getElem? hx,rfl⟩)⟩
def Mv (v:Ap):Prop:=Es v.Ac∧v.Ab.length≤40∧v.Ah.length≤80∧Cp v.Ah 1 (v.Ac.next-1)∧Cp (v.Ab.map Aj.Ay) 1 (v.Ac.next-1)∧(∀x∈v.Ab.map Aj.Ay,Nt v.Ac x)∧∀a∈v.Ah,Sq v a
theorem nC (v:Ap) (h1:v.Ac.Ae.length≤1048576) (h2:v.Ab.length≤1048576) (h3:v.Ah.length≤1048576) (hn:I64 v.Ac.next):g46 v=some (tf (Mv v)):=by
 simp only [g46,g18_eq,Option.bind_some]
 by_cases p1:Es v.Ac
 ·have hn1:=p1.2.1
  have hw4:IntKind.i64.wrap (v.Ac.next-1)=v.Ac.next-1:=wr ⟨by omega,by omega⟩
  simp only [Eu p1,Bool.not_true,cond_false]
  by_cases p2:v.Ab.length≤40
  ·rw [decide_eq_false (show ¬(v.Ab.length:Int)>40 by omega)]
   simp only [cond_false]
   by_cases p3:v.Ah.length≤80
   ·rw [decide_eq_false (show ¬(v.Ah.length:Int)>80 by omega)]
    simp only [beq_self_eq_true,if_true,g85_eq v.Ah v.Ac.next ⟨by omega,by omega⟩ h3,Option.bind_some,Bx,cond_false]
    by_cases p4:Cp v.Ah 1 (v.Ac.next-1)
    ·rw [if_neg (by simp [Eu p4]),fX v hn1 h1 h2]
     by_cases p5:∀k x,v.Ab[k]? = some x→Ys v k x
     ·simp only [Eu p5,if_true,Option.bind_some]
      obtain ⟨n,e1,e2⟩:=lost_eq v h1 h2 h3 (fun a ha=>(by
       obtain ⟨k,hk,rfl⟩:=List.getElem_of_mem ha
       exact (p4 k _ (List.getElem?_eq_getElem hk)).1.1))
      simp only [e1,Option.bind_some,e2]
      refine congrArg some (Lb ⟨fun h=>?_,fun h=>h.2.2.2.2.2.2⟩)
      obtain ⟨q1,q2⟩:=(Wm v).1 p5
      exact ⟨p1,p2,p3,p4,q1,q2,h⟩
     ·simp only [De p5,Bool.false_eq_true,if_false,Option.bind_some]
      refine congrArg some (De fun h=>p5 ((Wm v).2 ⟨h.2.2.2.2.1,h.2.2.2.2.2.1⟩)).symm
    ·rw [if_pos (by simp [De p4])]
     exact congrArg some (De fun h=>p4 h.2.2.2.1).symm
   ·rw [decide_eq_true (show (v.Ah.length:Int)>80 by omega)]
    simp only [show (true==false)=false from rfl,Bool.false_eq_true,if_false,Option.bind_some,Bx,cond_true,if_true]
    exact congrArg some (De fun h=>p3 h.2.2.1).symm
  ·rw [decide_eq_true (show (v.Ab.length:Int)>40 by omega)]
   simp only [cond_true,show (true==false)=false from rfl,Bool.false_eq_true,if_false,Option.bind_some,Bx,if_true]
   exact congrArg some (De fun h=>p2 h.2.1).symm
 ·simp only [De p1,Bool.not_false,cond_true,show (true==false)=false from rfl,Bool.false_eq_true,if_false,Option.bind_some,Bx,if_true]
  exact congrArg some (De fun h=>p1 h.1).symm
theorem mI (v:Ap) (h1:v.Ac.Ae.length≤1048576) (h2:v.Ab.length≤1048576) (h3:v.Ah.length≤1048576) (hn:I64 v.Ac.next):g48 v=some (tf (Mv v)):=by
 simp only [g48,g20_eq v.Ac h1 hn,Option.bind_some]
 by_cases p1:Es v.Ac
 ·have hn1:=p1.2.1
  have hw4:IntKind.i64.wrap (v.Ac.next-1)=v.Ac.next-1:=wr ⟨by omega,by omega⟩
  simp only [Eu p1,Bool.not_true,cond_false,hw4]
  by_cases p2:v.Ab.length≤40
  ·rw [decide_eq_false (show ¬(v.Ab.length:Int)>40 by omega)]
   simp only [cond_false,beq_self_eq_true,if_true,dL v.Ab h2,Option.bind_some,fN _ 1 (v.Ac.next-1) (show (v.Ab.map Aj.Ay).length≤1048576 by simpa using h2)]
   by_cases p5:Cp (v.Ab.map Aj.Ay) 1 (v.Ac.next-1)
   ·simp only [Eu p5,Bool.not_true,cond_false]
    by_cases p3:v.Ah.length≤80
    ·rw [decide_eq_false (show ¬(v.Ah.length:Int)>80 by omega)]
     simp only [beq_self_eq_true,if_true,fN v.Ah 1 (v.Ac.next-1) h3,Option.bind_some,Bx,cond_false]
     by_cases p4:Cp v.Ah 1 (v.Ac.next-1)
     ·rw [if_neg (by simp [Eu p4])]
      obtain ⟨q,e1,e2⟩:=FD v h1 h2 h3
      simp only [e1,Option.bind_some,e2]
      have hp:∀x∈v.Ab.map Aj.Ay,(fun z=>g98 z v) x=some (tf (Nt v.Ac x)):=fun x _=>by
       obtain ⟨i,b,f1,f2⟩:=qR v.Ac p1 x
       simp only [g98,f1,Option.bind_some,f2]
      have hall:=CY (v.Ab.map Aj.Ay) _ (fun x=>tf (Nt v.Ac x)) hp (by simp; omega)
      have e4:(v.Ab.map Aj.Ay).all (fun x=>tf (Nt v.Ac x))=tf (∀x∈v.Ab.map Aj.Ay,Nt v.Ac x):=by
       rw [Bool.eq_iff_iff,tf_iff,List.all_eq_true]
       exact ⟨fun h x hx=>tf_iff.1 (h x hx),fun h x hx=>tf_iff.2 (h x hx)⟩
      by_cases p7:∀a∈v.Ah,Sq v a
      ·simp only [Eu p7,beq_self_eq_true,if_true,Option.bind_some,hall,e4,cond_true]
       exact congrArg some (Lb ⟨fun h=>⟨p1,p2,p3,p4,p5,h,p7⟩,fun h=>h.2.2.2.2.2.1⟩)
      ·simp only [De p7,show (false==true)=false from rfl,Bool.false_eq_true,if_false,Option.bind_some,cond_false]
       exact congrArg some (De fun h=>p7 h.2.2.2.2.2.2).symm
     ·rw [if_pos (by simp [De p4])]
      exact congrArg some (De fun h=>p4 h.2.2.2.1).symm
    ·rw [decide_eq_true (show (v.Ah.length:Int)>80 by omega)]
     simp only [show (true==false)=false from rfl,Bool.false_eq_true,if_false,Option.bind_some,Bx,cond_true,if_true]
     exact congrArg some (De fun h=>p3 h.2.2.1).symm
   ·simp only [De p5,Bool.not_false,cond_true,show (true==false)=false from rfl,Bool.false_eq_true,if_false,Option.bind_some,Bx,if_true]
    exact congrArg some (De fun h=>p5 h.2.2.2.2.1).symm
  ·rw [decide_eq_true (show (v.Ab.length:Int)>40 by omega)]
   simp only [cond_true,show (true==false)=false from rfl,Bool.false_eq_true,if_false,Option.bind_some,Bx,if_true]
   exact congrArg some (De fun h=>p2 h.2.1).symm
 ·simp only [De p1,Bool.not_false,cond_true,show (true==false)=false from rfl,Bool.false_eq_true,if_false,Option.bind_some,Bx,if_true]
  exact congrArg some (De fun h=>p1 h.1).symm
theorem FH (v:Ap) (h1:v.Ac.Ae.length≤1048576) (h2:v.Ab.length≤1048576) (h3:v.Ah.length≤1048576):g47 v=some v:=by
 simp only [g47,g19_eq v.Ac h1,g94_eq v.Ab h2 (fun _ _=>rfl),oV v.Ah h3,Option.bind_some]
theorem iU (v:Ap) (h1:v.Ac.Ae.length≤1048576) (h2:v.Ab.length≤1048576) (h3:v.Ah.length≤1048576):g49 v v=some true:=by
 simp [g49,g21_eq v.Ac v.Ac h1,CZ v.Ab h2 (fun x _=>qU x),dH v.Ah h3]
end Go.Ev
end
section
set_option maxHeartbeats 1000000
namespace Go.Ev
abbrev digs:List UInt8:=[48,49,50,51,52,53,54,55,56,57,97,98,99,100,101,102]
noncomputable def hx (x:Int):UInt8:=(digs[(fV .i64 x 15).toNat]?).getD 0
abbrev Ku (c:Int) (_:Aj):Aj:=Aj.mk c ((c+1).tmod 3==0)
theorem DH (l:List Aj) (a:Int) (ha:0≤a∧a≤1099511627776) (hl:l.length≤1048576):Adt l a=some (a+2*(l.length:Int),Ey Ku 2 l a):=by
 have h:=dO Ku 2 l a (step:=Tr) (fun k p hp hk=>by
  simp only [Tr]
  rw [if_pos (decide_eq_true (by omega)),Cb (l:=p) (k:=k) (by omega)]
  have e0:IntKind.i64.wrap (a+((2:Nat):Int)*(k:Int)+1)=a+((2:Nat):Int)*(k:Int)+1:=wr ⟨by omega,by omega⟩
  have e1:IntKind.i64.wrap (a+((2:Nat):Int)*(k:Int)+1+1)=a+((2:Nat):Int)*((k+1:Nat):Int):=by rw [wr ⟨by omega,by omega⟩]; omega
  simp only [Option.bind_some,Int.toNat_natCast,e0,e1,w1 (show k<4611686018427387904 by omega),Bx]
  rw [List.getElem?_eq_getElem (by omega)]
  simp only [Option.bind_some]
  rw [Cb (by simp; omega),List.getElem?_eq_getElem (by simp; omega)]
  simp only [Option.bind_some,List.set_set,List.getElem_set_self]) (fun p c hp=>by
  simp only [Tr]
  rw [if_neg (by simp; omega)])
 simp only [Adt,h,Option.bind_some]
 simp
end Go.Ev
end
section
set_option maxHeartbeats 1000000
namespace Go.Ev
end Go.Ev
end
section
set_option maxHeartbeats 1000000
namespace Go.Ev
end Go.Ev
end
section
set_option maxHeartbeats 1000000
namespace Go.Ev
theorem iheld (l:List Aj) (a:Int) (ha:0≤a∧a≤1099511627776) (hl:l.length≤1048576):Adu (Ey Ku 2 l a) a=some (a+2*(l.length:Int)):=by
 have h:=Dg (step:=Qs (Ey Ku 2 l a)) (fun k=>(a+2*(k:Int),(k:Int))) l.length (.inl (a+2*(l.length:Int))) (fun k hk=>by
  simp only [Qs]
  rw [if_pos (decide_eq_true (by simp; omega)),Cb (by simp; omega)]
  have e0:IntKind.i64.wrap (a+2*(k:Int)+1)=a+2*(k:Int)+1:=wr ⟨by omega,by omega⟩
  have e1:IntKind.i64.wrap (a+2*(k:Int)+1+1)=a+2*((k+1:Nat):Int):=by rw [wr ⟨by omega,by omega⟩]; omega
  simp only [Option.bind_some,e0,e1,aO,w1 (show k<4611686018427387904 by omega)]
  simp) (by
  simp only [Qs]
  rw [if_neg (by simp)])
 have h':Ca (Qs (Ey Ku 2 l a)) (a,0)=some (.inl (a+2*(l.length:Int))):=by
  rw [show a+2*((0:Nat):Int)=a by simp] at h; exact h
 simp only [Adu,h',Option.bind_some]
theorem bP (v:Ap) (h1:v.Ac.Ae.length≤1048576) (h2:v.Ab.length≤1048576) (h3:v.Ah.length≤1048576):
  ∃n x y z,iY v 1=some (n,x,y,z)∧0≤n∧x.length=v.Ac.Ae.length∧y.length=v.Ab.length∧z.length=v.Ah.length ∧
   CK (Ap.mk (Ar.mk v.Ac.clock v.Ac.next x) y z v.An) 1=some n:=by
 have e:=show iY v 1=some (1+4*(v.Ac.Ae.length:Int)+2*(v.Ab.length:Int)+(v.Ah.length:Int),Hk v.Ac.Ae.length 1,Ey Ku 2 v.Ab (1+4*(v.Ac.Ae.length:Int)),Ey (fun c _=>c) 1 v.Ah (1+4*(v.Ac.Ae.length:Int)+2*(v.Ab.length:Int))) by
  simp only [iY,CL v.Ac h1,Option.bind_some,Kf,if_true,DH v.Ab (1+4*(v.Ac.Ae.length:Int)) (by omega) h2,marked_len,Vp v.Ah (1+4*(v.Ac.Ae.length:Int)+2*(v.Ab.length:Int)) (by omega) h3]
 refine ⟨_,_,_,_,e,by omega,Kf _ _,by simp,by simp,?_⟩
 unfold CK
 rw [g27_eq _ _ _ h1,Option.bind_some,if_neg (by simp; omega),iheld v.Ab _ (by omega) h2,Option.bind_some,if_neg (by simp; omega),rH v.Ah _ (by omega) h3,Option.bind_some,if_neg (by simp; omega)]
end Go.Ev
end
section
namespace Go.Ev
theorem AdE (l:List Aj) (f:Aj→Option Bool) (p:Aj→Bool) (hf:∀x∈l,f x=some (p x)) (hl:l.length≤4611686018427387903):g475 l f=some (Gu l p):=aC l f p hf hl (fun _=>rfl)
theorem AdD (l:List Aj) (f:Aj→Option Bool) (p:Aj→Bool) (hf:∀x∈l,f x=some (p x)) (hl:l.length≤4611686018427387903):CQ l f=some (l.filter fun x => !p x):=by
 unfold CQ; rw [AdE l f p hf hl]; exact iO l f p hf hl _ (fun _ _ _=>rfl)
theorem oP (l:List Aj) (hl:l.length≤1048576):mC l=some l:=by
 unfold mC; rw [if_pos (by simp; omega)]
end Go.Ev
end
section
set_option maxHeartbeats 1000000
namespace Go.Ev
theorem mO {l:List Int} {M:Int} (h:Cp l 1 M) {x:Int} {c:Bool} {p:Nat} (hp:Me l x p) (y:Int):y∈Kl l x c p↔if c=true then (y∈l∨y=x) else (y∈l∧y≠x):=by
 have hm:=tB h hp
 have hs:∀y,y∈l↔y∈l.take p∨y∈l.drop p:=fun y=>by rw [←List.mem_append,List.take_append_drop]
 unfold Kl
 cases c with
 | true=>
  simp only [if_true]
  split
  ·rename_i ha
   constructor
   ·intro hy; exact .inl hy
   ·rintro (hy | rfl)
    ·exact hy
    ·exact hm.1 ha
  ·rw [List.mem_append,List.mem_append,List.mem_singleton,hs y]
   constructor
   ·rintro ((h | h) | h)
    ·exact .inl (.inl h)
    ·exact .inr h
    ·exact .inl (.inr h)
   ·rintro ((h | h) | h)
    ·exact .inl (.inl h)
    ·exact .inr h
    ·exact .inl (.inr h)
 | false=>
  simp only [Bool.false_eq_true,if_false]
  split
  ·rename_i ha
   have hx:l[p]? = some x:=by simpa [Hy] using ha
   obtain ⟨hlt,he⟩:=List.getElem?_eq_some_iff.1 hx
   rw [List.mem_append]
   constructor
   ·rintro (hy | hy)
    ·have:=Zd hp hy
     exact ⟨List.mem_of_mem_take hy,by omega⟩
    ·obtain ⟨j,hj,rfl⟩:=List.getElem_of_mem hy
     simp only [List.length_drop] at hj
     rw [List.getElem_drop]
     have:=h.lt (show p+1+j<l.length by omega) (show p<p+1+j by omega)
     exact ⟨List.getElem_mem _,by omega⟩
   ·rintro ⟨hy,hne⟩
    rcases (hs y).1 hy with hy | hy
    ·exact .inl hy
    ·rw [List.drop_eq_getElem_cons hlt] at hy
     rcases List.mem_cons.1 hy with hy | hy
     ·exact absurd (hy.trans he) hne
     ·exact .inr hy
  ·rename_i ha
   constructor
   ·intro hy; exact ⟨hy,fun e=>ha (hm.2 (e ▸ hy))⟩
   ·exact fun h=>h.1
noncomputable def By (l:List Int) (x:Int) (c:Bool) (f:Int):List Int×Int:=(g89 l x c f).getD ([],0)
theorem Mj {l:List Int} {M:Int} (h:Cp l 1 M) (hl:l.length≤1048575) (x:Int) (c:Bool) (f:Int) (hx:c=true→1≤x∧x≤M):
  g89 l x c f=some (By l x c f)∧g86 l x c f=some (By l x c f)∧Cp (By l x c f).1 1 M ∧
   ((By l x c f).2=13∧(By l x c f).1=l∧f=1∨f≠1∧(By l x c f).2=Lu f∧∀y,y∈(By l x c f).1↔if c=true then (y∈l∨y=x) else (y∈l∧y≠x)):=by
 obtain ⟨p,hp⟩:=cut_ex h x
 have e1:=g89_eq h hl x c f hp
 have e2:=g86_eq hl x c f hp
 have e:By l x c f=if (f==1)=true then (l,13) else (Kl l x c p,Lu f):=by unfold By; rw [e1]; rfl
 rw [e]
 refine ⟨e1,e2,?_,?_⟩
 ·split
  ·exact h
  ·exact bV h c hx hp
 ·by_cases hf:f=1
  ·rw [if_pos (by simp [hf])]
   exact .inl ⟨rfl,rfl,hf⟩
  ·rw [if_neg (by simpa using hf)]
   exact .inr ⟨hf,rfl,fun y=>mO h hp y⟩
def Bk (a:Bc) (k:Nat):Int:=a.Bu[k]?.getD 0
theorem eU (a:Bc) (k:Nat):lO a (k:Int)=some (Bk a k):=by
 unfold lO Bk
 by_cases h:k<a.Bu.length
 ·rw [if_pos (decide_eq_true (by omega)),Cb h,List.getElem?_eq_getElem h]; rfl
 ·rw [if_neg (by simp; omega),List.getElem?_eq_none (by omega)]; rfl
theorem bA {v:Ap} {a:Bc} {k:Nat} (hk:k≤1048576) {M:Int} (h:Cp v.Ah 1 M) (hl:v.Ah.length≤1048575) (x:Int) (c:Bool) (hx:c=true→1≤x∧x≤M):
  fK (Cx.mk v a (k:Int)) x c=some ((By v.Ah x c (Bk a k)).2,Cx.mk (Ap.mk v.Ac v.Ab (By v.Ah x c (Bk a k)).1 v.An) a ((k+1:Nat):Int)):=by
 have e:=(Mj h hl x c (Bk a k) hx).1
 have hj:Tv (Cx.mk v a (k:Int)) x c (Bk a k)=some ((By v.Ah x c (Bk a k)).2,Cx.mk (Ap.mk v.Ac v.Ab (By v.Ah x c (Bk a k)).1 v.An) a ((k+1:Nat):Int)):=by
  simp only [Tv,e,Option.bind_some,w1 (show k<4611686018427387904 by omega)]
 unfold fK
 by_cases hlt:k<a.Bu.length
 ·rw [if_pos (decide_eq_true (by simp only; omega))]
  simp only [Cb hlt,Option.bind_some]
  have:Bk a k=a.Bu[k]:=by unfold Bk; rw [List.getElem?_eq_getElem hlt]; rfl
  rw [←this]
  exact hj
 ·rw [if_neg (by simp; omega)]
  have:Bk a k=0:=by unfold Bk; rw [List.getElem?_eq_none (by omega)]; rfl
  rw [←this]
  exact hj
def Hf (i:Aj):Aj:=Aj.mk i.Ay true
def Iq (v:Ap):Ap:=Ap.mk v.Ac (v.Ab.map Hf) v.Ah true
theorem FK (l:List Aj) (k:Nat) (hk:k<l.length):((l.take k).map Hf++l.drop k).set k (Hf l[k])=(l.take (k+1)).map Hf++l.drop (k+1):=by
 rw [List.set_append,if_neg (by simp; omega),List.take_succ_eq_append_getElem hk,List.map_append,List.append_assoc]
 congr 1
 rw [List.drop_eq_getElem_cons hk]
 have:k-((l.take k).map Hf).length=0:=by simp; omega
 rw [this]
 rfl
theorem FJ (l:List Aj) (k:Nat) (hk:k<l.length):((l.take k).map Hf++l.drop k)[k]? = some l[k]:=by
 rw [List.getElem?_append_right (by simp; omega)]
 have:k-((l.take k).map Hf).length=0:=by simp; omega
 rw [this,List.getElem?_drop,Nat.add_zero,List.getElem?_eq_getElem hk]
theorem gV (l:List Aj) (k:Nat):((l.take k).map Hf++l.drop k).length=l.length:=by simp; omega
theorem Pz (v:Ap) (h1:v.Ac.Ae.length≤1048576) (h2:v.Ab.length≤1048576) (h3:v.Ah.length≤1048576):eZ v=some (Iq v):=by
 have e:bW v=some v:=by
  simp only [bW,Ju v.Ac h1,Option.bind_some]
  rw [if_pos (by simp; omega),if_pos (by simp; omega)]
  rfl
 have h:=Dg (step:=Qn) (fun k=>((k:Int),(v.Ab.take k).map Hf++v.Ab.drop k)) v.Ab.length (v.Ab.map Hf) (fun k hk=>by
  simp only [Qn,gV]
  rw [if_pos (decide_eq_true (by omega)),Cb (by rw [gV]; exact hk)]
  simp only [Option.bind_some,Int.toNat_natCast,FJ _ _ hk,w1 (show k<4611686018427387904 by omega)]
  rw [←FK _ _ hk]
  rfl) (by
  simp only [Qn,gV]
  rw [if_neg (by simp),List.take_length,List.drop_length,List.append_nil])
 have h':Ca Qn (0,v.Ab)=some (v.Ab.map Hf):=h
 simp only [eZ,e,Option.bind_some,h']
 rfl
theorem Py (v:Ap) (h2:v.Ab.length≤1048576):fJ v=some (Iq v,Aw.mk 15 0):=by
 have h:=Dg (step:=Qw v) (fun k=>((k:Int),(v.Ab.take k).map Hf++v.Ab.drop k)) v.Ab.length (v.Ab.map Hf) (fun k hk=>by
  simp only [Qw]
  rw [if_pos (decide_eq_true (by omega)),Cb (by rw [gV]; exact hk)]
  simp only [Option.bind_some,Int.toNat_natCast,FJ _ _ hk,w1 (show k<4611686018427387904 by omega)]
  rw [←FK _ _ hk]
  rfl) (by
  simp only [Qw]
  rw [if_neg (by simp),List.take_length,List.drop_length,List.append_nil])
 have h':Ca (Qw v) (0,v.Ab)=some (v.Ab.map Hf):=h
 simp only [fJ,Option.bind_some,h']
 rfl
def Gb (L:List Aa) (x code:Int):List Aa:=if code=0 then L.filter (fun y=>y.id != x) else L
def Gy (L:List Aj) (x code:Int):List Aj:=if code=0 then L.filter (fun y=>y.Ay != x) else L
theorem BU {t:Ar} (h:Es t) {k:Nat} (hk:k<t.Ae.length):t.Ae.take k++t.Ae.drop (k+1)=t.Ae.filter (fun y=>y.id != t.Ae[k].id):=by
 have hd:=List.drop_eq_getElem_cons hk
 have hlt1:∀j,∀hj:j<k,(t.Ae[j]'(by omega)).id<t.Ae[k].id:=fun j hj=>h.lt hk hj
 have hlt2:∀j,∀hj:k+1+j<t.Ae.length,t.Ae[k].id<t.Ae[k+1+j].id:=fun j hj=>h.lt hj (by omega)
 generalize t.Ae[k]=x at hd hlt1 hlt2
 have e:t.Ae.filter (fun y=>y.id != x.id)=(t.Ae.take k++x::t.Ae.drop (k+1)).filter (fun y=>y.id != x.id):=by rw [←hd,List.take_append_drop]
 rw [e,List.filter_append,List.filter_cons,if_neg (by simp)]
 congr 1
 ·symm
  rw [List.filter_eq_self]
  intro y hy
  obtain ⟨j,hj,rfl⟩:=List.getElem_of_mem hy
  simp only [List.length_take] at hj
  rw [List.getElem_take]
  have:=hlt1 j (by omega)
  simp; omega
 ·symm
  rw [List.filter_eq_self]
  intro y hy
  obtain ⟨j,hj,rfl⟩:=List.getElem_of_mem hy
  simp only [List.length_drop] at hj
  rw [List.getElem_drop]
  have:=hlt2 j (by omega)
  simp; omega
theorem qQ {t:Ar} (h:Es t) {k:Nat} (hk:k<t.Ae.length):GG t t.Ae[k].id=some (k:Int)∧GF t t.Ae[k].id=some ((k:Int),true):=by
 have hl:=h.2.2.1
 obtain ⟨n,h1,h2⟩:=Sd t t.Ae[k].id (by omega)
 have hn:n=(k:Int):=by
  rcases h2 with ⟨_,h3⟩ | ⟨j,hj,rfl,h4⟩
  ·exact absurd rfl (h3 _ (List.getElem_mem hk))
  ·rcases Nat.lt_trichotomy j k with hjk | rfl | hjk
   ·have:=h.lt hk hjk; omega
   ·rfl
   ·have:=h.lt hj hjk; omega
 obtain ⟨i,b,h3,h4,h5⟩:=fO t h _ n h2
 subst hn
 cases b with
 | false=>have:=h5 rfl; omega
 | true=>
  obtain ⟨rfl,_⟩:=h4 rfl
  exact ⟨h1,h3⟩
theorem qL {t:Ar} (h:Fq t) {x:Aa} (hx:x∈t.Ae) (hq:x.Bz=true):
  g76 t x.id=some (Ar.mk t.clock t.next (t.Ae.filter fun y=>y.id != x.id),0)∧(∃i,GF t x.id=some (i,true)∧g78 t i=some (Ar.mk t.clock t.next (t.Ae.filter fun y=>y.id != x.id))) ∧
   Fq (Ar.mk t.clock t.next (t.Ae.filter fun y=>y.id != x.id)):=by
 obtain ⟨k,hk,rfl⟩:=List.getElem_of_mem hx
 have hl:=h.1.2.2.1
 obtain ⟨f1,f2⟩:=qQ h.1 hk
 have s1:=FC t.Ae 0 k (by omega) (by omega)
 have s2:=FC t.Ae (k+1) t.Ae.length (by omega) (Nat.le_refl _)
 rw [show ((0:Nat):Int)=0 from rfl] at s1
 have hw:=w1 (show k<4611686018427387904 by omega)
 rw [←BU h.1 hk]
 refine ⟨?_,⟨(k:Int),f2,?_⟩,rem_tab h hk⟩
 ·simp only [g76,f1,Option.bind_some]
  rw [if_neg (by simp),Cb hk]
  simp only [Option.bind_some]
  rw [if_neg (by simp [hq])]
  simp only [hw,s1,s2,Option.bind_some]
  rw [if_pos (by simp; omega),if_pos (by simp; omega)]
  simp
 ·simp only [g78,Qm t (by omega),Option.bind_some,g115,hw]
  rw [if_pos (⟨⟨by omega,by omega,by omega⟩,by omega⟩:(0≤(k:Int)∧(k:Int)≤((k+1:Nat):Int)∧((k+1:Nat):Int)≤(t.Ae.length:Int))∧t.Ae.length≤4398046511104)]
  simp only [Option.bind_some,Int.toNat_natCast]
theorem nL (l:List Aj) (x:Int) (hl:l.length≤1048576):AcZ l x=some (l.filter fun y=>y.Ay != x):=by
 have h:=Dg (step:=Qr l x) (fun k=>((l.take k).filter (fun y=>y.Ay != x),(k:Int))) l.length (l.filter fun y=>y.Ay != x) (fun k hk=>by
  simp only [Qr]
  rw [if_pos (decide_eq_true (by omega)),Cb hk]
  have hle:((l.take k).filter (fun y=>y.Ay != x)).length≤k:=Nat.le_trans (List.length_filter_le _ _) (by simp; omega)
  simp only [Option.bind_some,Xu,w1 (show k<4611686018427387904 by omega)]
  rw [List.take_succ_eq_append_getElem hk,List.filter_append,List.filter_cons]
  split
  ·rw [if_pos (by simp; omega)]
   rfl
  ·rw [List.filter_nil,List.append_nil]) (by
  simp only [Qr]
  rw [if_neg (by simp),List.take_length])
 have h':Ca (Qr l x) ([],0)=some (l.filter fun y=>y.Ay != x):=h
 simp only [AcZ,h',Option.bind_some]
theorem qK (l:List Aj) (y:Aj) (hl:l.length≤1048576):CQ l (fun z=>CR z y)=some (l.filter fun z=>z.Ay != y.Ay):=
 AdD l (fun z=>CR z y) (fun z=>z.Ay==y.Ay) (fun _ _=>rfl) (by omega)
noncomputable def Ef (a:Bc):List Aa→Nat→List Aa→List Int→Nat×List Aa×List Int×Bool
 | [],c,L,A=>(c,L,A,false)
 | x::r,c,L,A=>if x.Bz=true then
   (if a.stop=2 then (c+1,Gb L x.id (By A x.id false (Bk a c)).2,(By A x.id false (Bk a c)).1,true)
   else Ef a r (c+1) (Gb L x.id (By A x.id false (Bk a c)).2) (By A x.id false (Bk a c)).1)
  else Ef a r c L A
noncomputable def El (a:Bc):List Aj→Nat→List Aj→List Int→Nat×List Aj×List Int×Bool
 | [],c,L,A=>(c,L,A,false)
 | x::r,c,L,A=>if x.Ji=true then
   (if a.stop=2 then (c+1,Gy L x.Ay (By A x.Ay false (Bk a c)).2,(By A x.Ay false (Bk a c)).1,true)
   else El a r (c+1) (Gy L x.Ay (By A x.Ay false (Bk a c)).2) (By A x.Ay false (Bk a c)).1)
  else El a r c L A
theorem Qb {A:List Int} {t:Ar} (h:Es t) (hA:Cp A 1 (t.next-1)):A.length≤1000000:=by
 have h1:=h.2.1
 have:=hA.len (by omega)
 omega
theorem kF (w:Ap) (a:Bc) (hw:Es w.Ac) (hin:w.Ab.length≤1048576):∀m i c (L:List Aa) (A:List Int),i+m=w.Ac.Ae.length→c≤i→Fq (Ar.mk w.Ac.clock w.Ac.next L)→(∀x∈w.Ac.Ae.drop i,x∈L)→Cp A 1 (w.Ac.next-1)→(a.stop=2→c=0) →
  let R:=Ef a (w.Ac.Ae.drop i) c L A
  let t:=Ar.mk w.Ac.clock w.Ac.next R.2.1
  Ca (Lm w a w) ((c:Int),(i:Int),w.Ac.clock,w.Ac.next,L,A)=some (if R.2.2.2=true then .inr (Iq (Ap.mk t w.Ab R.2.2.1 w.An)) else .inl ((R.1:Int),w.Ac.clock,w.Ac.next,R.2.1,R.2.2.1)) ∧
  Ca (Jy a w.Ac.Ae) ((i:Int),w.Ac.clock,w.Ac.next,L,w.Ab,A,w.An,a.kind,a.id,a.ttl,a.Dr,a.clock,a.Bu,a.stop,(c:Int))=some (if R.2.2.2=true then .inr (Iq (Ap.mk t w.Ab R.2.2.1 w.An),Aw.mk 15 0) else .inl (w.Ac.clock,w.Ac.next,R.2.1,w.Ab,R.2.2.1,w.An,a.kind,a.id,a.ttl,a.Dr,a.clock,a.Bu,a.stop,(R.1:Int))) ∧
  Fq t∧Cp R.2.2.1 1 (w.Ac.next-1)∧R.1≤w.Ac.Ae.length∧(R.2.2.2=false→a.stop=2→R.1=0):=by
 have h40:=hw.2.2.1
 intro m
 induction m with
 | zero=>
  intro i c L A him hc hT hL hA hs
  have e:w.Ac.Ae.drop i=[]:=List.drop_eq_nil_of_le (by omega)
  rw [e]
  refine ⟨Dk ?_,Dk ?_,hT,hA,by simp only [Ef]; omega,fun _ h=>hs h⟩
  ·simp only [Lm,Ef]
   rw [if_neg (by simp; omega)]
   rfl
  ·simp only [Jy,Ef]
   rw [if_neg (by simp; omega)]
   rfl
 | succ m ih=>
  intro i c L A him hc hT hL hA hs
  have hlt:i<w.Ac.Ae.length:=by omega
  rw [List.drop_eq_getElem_cons hlt]
  have hx:w.Ac.Ae[i]∈L:=hL _ (by rw [List.drop_eq_getElem_cons hlt]; exact List.mem_cons_self)
  have hL1:∀x∈w.Ac.Ae.drop (i+1),x∈L:=fun x hx=>hL x (by rw [List.drop_eq_getElem_cons hlt]; exact List.mem_cons_of_mem _ hx)
  by_cases hq:w.Ac.Ae[i].Bz=true
  ·obtain ⟨c1,c2,c3,c4⟩:=Mj hA (by have:=Qb hw hA; omega) w.Ac.Ae[i].id false (Bk a c) (fun h=>by cases h)
   obtain ⟨d1,⟨j,d2,d3⟩,d4⟩:=qL hT hx hq
   simp only at d1 d2 d3 d4
   have r1:=bA (v:=Ap.mk (Ar.mk w.Ac.clock w.Ac.next L) w.Ab A w.An) (a:=a) (k:=c) (by omega) hA (by have:=Qb hw hA; simp only; omega) w.Ac.Ae[i].id false (fun h=>by cases h)
   simp only at r1
   have hT':Fq (Ar.mk w.Ac.clock w.Ac.next (Gb L w.Ac.Ae[i].id (By A w.Ac.Ae[i].id false (Bk a c)).2)):=by
    unfold Gb; split
    ·exact d4
    ·exact hT
   have hlen:(Gb L w.Ac.Ae[i].id (By A w.Ac.Ae[i].id false (Bk a c)).2).length≤40:=hT'.1.2.2.1
   have hL2:∀x∈w.Ac.Ae.drop (i+1),x∈Gb L w.Ac.Ae[i].id (By A w.Ac.Ae[i].id false (Bk a c)).2:=fun x hx=>by
    unfold Gb; split
    ·rw [List.mem_filter]
     refine ⟨hL1 x hx,?_⟩
     obtain ⟨j,hj,rfl⟩:=List.getElem_of_mem hx
     simp only [List.length_drop] at hj
     rw [List.getElem_drop]
     have:=hw.lt (show i+1+j<w.Ac.Ae.length by omega) (show i<i+1+j by omega)
     simp; omega
    ·exact hL1 x hx
   have hA':=Qb hw c3
   have spec1:∀K,Lm w a w ((c:Int),(i:Int),w.Ac.clock,w.Ac.next,L,A)=K↔Qo a w (c:Int) (i:Int) (By A w.Ac.Ae[i].id false (Bk a c)) w.Ac.clock w.Ac.next (Gb L w.Ac.Ae[i].id (By A w.Ac.Ae[i].id false (Bk a c)).2)=K:=fun K=>by
    simp only [Lm]
    rw [if_pos (decide_eq_true (by omega)),Cb hlt]
    simp only [Option.bind_some]
    rw [if_neg (by simp [hq]),eU]
    simp only [Option.bind_some,c2]
    unfold Gb
    by_cases h0:(By A w.Ac.Ae[i].id false (Bk a c)).2=0
    ·rw [if_pos (by simp [h0]),if_pos h0,d1]
     rfl
    ·rw [if_neg (by simpa using h0),if_neg h0]
   have impl1:∀K,Jy a w.Ac.Ae ((i:Int),w.Ac.clock,w.Ac.next,L,w.Ab,A,w.An,a.kind,a.id,a.ttl,a.Dr,a.clock,a.Bu,a.stop,(c:Int))=K↔Qt a (i:Int) ((By A w.Ac.Ae[i].id false (Bk a c)).2,Cx.mk (Ap.mk (Ar.mk w.Ac.clock w.Ac.next L) w.Ab (By A w.Ac.Ae[i].id false (Bk a c)).1 w.An) a ((c+1:Nat):Int)) w.Ac.clock w.Ac.next (Gb L w.Ac.Ae[i].id (By A w.Ac.Ae[i].id false (Bk a c)).2)=K:=fun K=>by
    simp only [Jy]
    rw [if_pos (decide_eq_true (by omega)),Cb hlt]
    simp only [Option.bind_some,Int.toNat_natCast,List.getElem?_eq_getElem hlt]
    rw [if_neg (by simp [hq])]
    rw [show fK (Cx.mk (Ap.mk (Ar.mk w.Ac.clock w.Ac.next L) w.Ab A w.An) (Bc.mk a.kind a.id a.ttl a.Dr a.clock a.Bu a.stop) (c:Int)) w.Ac.Ae[i].id false=_ from r1]
    simp only [Option.bind_some,d2]
    unfold Gb
    by_cases h0:(By A w.Ac.Ae[i].id false (Bk a c)).2=0
    ·rw [if_pos (by simp [h0]),if_pos h0,d3]
     rfl
    ·rw [if_neg (by simpa using h0),if_neg h0]
   by_cases hst:a.stop=2
   ·have hc0:=hs hst
    subst hc0
    have eR:Ef a (w.Ac.Ae[i]::w.Ac.Ae.drop (i+1)) 0 L A=(1,Gb L w.Ac.Ae[i].id (By A w.Ac.Ae[i].id false (Bk a 0)).2,(By A w.Ac.Ae[i].id false (Bk a 0)).1,true):=by simp only [Ef,hq,if_true]; rw [if_pos hst]
    dsimp only
    rw [eR]
    refine ⟨Dk ?_,Dk ?_,hT',c3,by simp only; omega,fun h=>by cases h⟩
    ·rw [spec1]
     simp only [Qo]
     rw [if_pos (by simp [hst]),Pz (Ap.mk (Ar.mk w.Ac.clock w.Ac.next (Gb L w.Ac.Ae[i].id (By A w.Ac.Ae[i].id false (Bk a 0)).2)) w.Ab (By A w.Ac.Ae[i].id false (Bk a 0)).1 w.An) (by simp only; omega) hin (by simp only; omega)]
     rfl
    ·rw [impl1]
     simp only [Qt,mD,Option.bind_some]
     rw [if_pos (by simp [hst]),Py (Ap.mk (Ar.mk w.Ac.clock w.Ac.next (Gb L w.Ac.Ae[i].id (By A w.Ac.Ae[i].id false (Bk a 0)).2)) w.Ab (By A w.Ac.Ae[i].id false (Bk a 0)).1 w.An) hin]
     rfl
   ·have eR:Ef a (w.Ac.Ae[i]::w.Ac.Ae.drop (i+1)) c L A=Ef a (w.Ac.Ae.drop (i+1)) (c+1) (Gb L w.Ac.Ae[i].id (By A w.Ac.Ae[i].id false (Bk a c)).2) (By A w.Ac.Ae[i].id false (Bk a c)).1:=by simp only [Ef,hq,if_true]; rw [if_neg hst]
    dsimp only
    rw [eR]
    obtain ⟨i1,i2,i3⟩:=ih (i+1) (c+1) _ (By A w.Ac.Ae[i].id false (Bk a c)).1 (by omega) (by omega) hT' hL2 c3 (fun h=>absurd h hst)
    refine ⟨?_,?_,i3⟩
    ·rw [Df (s':=(((c+1:Nat):Int),((i+1:Nat):Int),w.Ac.clock,w.Ac.next,Gb L w.Ac.Ae[i].id (By A w.Ac.Ae[i].id false (Bk a c)).2,(By A w.Ac.Ae[i].id false (Bk a c)).1)) ?_]
     ·exact i1
     ·rw [spec1]
      simp only [Qo,Te]
      rw [if_neg (by simpa using hst),w1 (show c<4611686018427387904 by omega),w1 (show i<4611686018427387904 by omega)]
    ·rw [Df (s':=(((i+1:Nat):Int),w.Ac.clock,w.Ac.next,Gb L w.Ac.Ae[i].id (By A w.Ac.Ae[i].id false (Bk a c)).2,w.Ab,(By A w.Ac.Ae[i].id false (Bk a c)).1,w.An,a.kind,a.id,a.ttl,a.Dr,a.clock,a.Bu,a.stop,((c+1:Nat):Int))) ?_]
     ·exact i2
     ·rw [impl1]
      have es:(a.stop==2)=false:=by simpa using hst
      simp only [Qt,Tt,mD,Option.bind_some,es,cond_false]
      rw [if_neg (by simp),w1 (show i<4611686018427387904 by omega)]
  ·have hq':w.Ac.Ae[i].Bz=false:=by simpa using hq
   have eR:Ef a (w.Ac.Ae[i]::w.Ac.Ae.drop (i+1)) c L A=Ef a (w.Ac.Ae.drop (i+1)) c L A:=by simp only [Ef,hq',Bool.false_eq_true,if_false]
   dsimp only
   rw [eR]
   obtain ⟨i1,i2,i3⟩:=ih (i+1) c L A (by omega) (by omega) hT hL1 hA hs
   refine ⟨?_,?_,i3⟩
   ·rw [Df (s':=((c:Int),((i+1:Nat):Int),w.Ac.clock,w.Ac.next,L,A)) ?_]
    ·exact i1
    ·simp only [Lm]
     rw [if_pos (decide_eq_true (by omega)),Cb hlt]
     simp only [Option.bind_some,Te]
     rw [if_pos (by simp [hq']),w1 (show i<4611686018427387904 by omega)]
   ·rw [Df (s':=(((i+1:Nat):Int),w.Ac.clock,w.Ac.next,L,w.Ab,A,w.An,a.kind,a.id,a.ttl,a.Dr,a.clock,a.Bu,a.stop,(c:Int))) ?_]
    ·exact i2
    ·simp only [Jy]
     rw [if_pos (decide_eq_true (by omega)),Cb hlt]
     simp only [Option.bind_some,Int.toNat_natCast,List.getElem?_eq_getElem hlt,Tt]
     rw [if_pos (by simp [hq']),w1 (show i<4611686018427387904 by omega)]
theorem kD (w:Ap) (a:Bc) (t:Ar) (hw:Es t) (hin:w.Ab.length≤1000) (ht:t.next=w.Ac.next):∀m i c (L:List Aj) (A:List Int),i+m=w.Ab.length→c≤40+i→L.length≤1000→Cp A 1 (w.Ac.next-1)→(a.stop=2→c=0) →
  let R:=El a (w.Ab.drop i) c L A
  Ca (Jb w a w t.clock t.next t.Ae) ((c:Int),(i:Int),L,A)=some (if R.2.2.2=true then .inr (Iq (Ap.mk t R.2.1 R.2.2.1 w.An)) else .inl (R.2.1,R.2.2.1)) ∧
  Ca (Ig a w.Ab) ((i:Int),t.clock,t.next,t.Ae,L,A,w.An,a.kind,a.id,a.ttl,a.Dr,a.clock,a.Bu,a.stop,(c:Int))=some (if R.2.2.2=true then .inr (Iq (Ap.mk t R.2.1 R.2.2.1 w.An),Aw.mk 15 0) else .inl (t.clock,t.next,t.Ae,R.2.1,R.2.2.1,w.An,a.kind,a.id,a.ttl,a.Dr,a.clock,a.Bu,a.stop,(R.1:Int))) ∧
  Cp R.2.2.1 1 (w.Ac.next-1):=by
 have h40:=hw.2.2.1
 intro m
 induction m with
 | zero=>
  intro i c L A him hc hLl hA hs
  have e:w.Ab.drop i=[]:=List.drop_eq_nil_of_le (by omega)
  rw [e]
  refine ⟨Dk ?_,Dk ?_,hA⟩
  ·simp only [Jb,El]
   rw [if_neg (by simp; omega)]
   rfl
  ·simp only [Ig,El]
   rw [if_neg (by simp; omega)]
   rfl
 | succ m ih=>
  intro i c L A him hc hLl hA hs
  have hlt:i<w.Ab.length:=by omega
  rw [List.drop_eq_getElem_cons hlt]
  by_cases hq:w.Ab[i].Ji=true
  ·have hA0:=Qb hw (ht ▸ hA)
   obtain ⟨c1,c2,c3,c4⟩:=Mj hA (by omega) w.Ab[i].Ay false (Bk a c) (fun h=>by cases h)
   have hA':=Qb hw (ht ▸ c3)
   have r1:=bA (v:=Ap.mk t L A w.An) (a:=a) (k:=c) (by omega) hA (by simp only; omega) w.Ab[i].Ay false (fun h=>by cases h)
   simp only at r1
   have hlen:(Gy L w.Ab[i].Ay (By A w.Ab[i].Ay false (Bk a c)).2).length≤1000:=by
    unfold Gy; split
    ·exact Nat.le_trans (List.length_filter_le _ _) hLl
    ·exact hLl
   have spec1:∀K,Jb w a w t.clock t.next t.Ae ((c:Int),(i:Int),L,A)=K↔Qp a w t.clock t.next t.Ae (c:Int) (i:Int) (By A w.Ab[i].Ay false (Bk a c)) (Gy L w.Ab[i].Ay (By A w.Ab[i].Ay false (Bk a c)).2)=K:=fun K=>by
    simp only [Jb]
    rw [if_pos (decide_eq_true (by omega)),Cb hlt]
    simp only [Option.bind_some]
    rw [if_neg (by simp [hq]),eU]
    simp only [Option.bind_some,c2]
    unfold Gy
    by_cases h0:(By A w.Ab[i].Ay false (Bk a c)).2=0
    ·rw [if_pos (by simp [h0]),if_pos h0,nL _ _ (by omega)]
     rfl
    ·rw [if_neg (by simpa using h0),if_neg h0]
   have impl1:∀K,Ig a w.Ab ((i:Int),t.clock,t.next,t.Ae,L,A,w.An,a.kind,a.id,a.ttl,a.Dr,a.clock,a.Bu,a.stop,(c:Int))=K↔Qu a (i:Int) ((By A w.Ab[i].Ay false (Bk a c)).2,Cx.mk (Ap.mk t L (By A w.Ab[i].Ay false (Bk a c)).1 w.An) a ((c+1:Nat):Int)) (Gy L w.Ab[i].Ay (By A w.Ab[i].Ay false (Bk a c)).2)=K:=fun K=>by
    simp only [Ig]
    rw [if_pos (decide_eq_true (by omega)),Cb hlt]
    simp only [Option.bind_some,Int.toNat_natCast,List.getElem?_eq_getElem hlt]
    rw [if_neg (by simp [hq])]
    rw [show fK (Cx.mk (Ap.mk (Ar.mk t.clock t.next t.Ae) L A w.An) (Bc.mk a.kind a.id a.ttl a.Dr a.clock a.Bu a.stop) (c:Int)) w.Ab[i].Ay false=_ from r1]
    simp only [Option.bind_some]
    unfold Gy
    by_cases h0:(By A w.Ab[i].Ay false (Bk a c)).2=0
    ·rw [if_pos (by simp [h0]),if_pos h0,qK _ _ (by omega)]
     rfl
    ·rw [if_neg (by simpa using h0),if_neg h0]
   by_cases hst:a.stop=2
   ·have hc0:=hs hst
    subst hc0
    have eR:El a (w.Ab[i]::w.Ab.drop (i+1)) 0 L A=(1,Gy L w.Ab[i].Ay (By A w.Ab[i].Ay false (Bk a 0)).2,(By A w.Ab[i].Ay false (Bk a 0)).1,true):=by simp only [El,hq,if_true]; rw [if_pos hst]
    dsimp only
    rw [eR]
    refine ⟨Dk ?_,Dk ?_,c3⟩
    ·rw [spec1]
     simp only [Qp]
     rw [if_pos (by simp [hst]),Pz (Ap.mk t (Gy L w.Ab[i].Ay (By A w.Ab[i].Ay false (Bk a 0)).2) (By A w.Ab[i].Ay false (Bk a 0)).1 w.An) (by simp only; omega) (by simp only; omega) (by simp only; omega)]
     rfl
    ·rw [impl1]
     simp only [Qu,mD,Option.bind_some]
     rw [if_pos (by simp [hst]),Py (Ap.mk t (Gy L w.Ab[i].Ay (By A w.Ab[i].Ay false (Bk a 0)).2) (By A w.Ab[i].Ay false (Bk a 0)).1 w.An) (by simp only; omega)]
     rfl
   ·have eR:El a (w.Ab[i]::w.Ab.drop (i+1)) c L A=El a (w.Ab.drop (i+1)) (c+1) (Gy L w.Ab[i].Ay (By A w.Ab[i].Ay false (Bk a c)).2) (By A w.Ab[i].Ay false (Bk a c)).1:=by simp only [El,hq,if_true]; rw [if_neg hst]
    dsimp only
    rw [eR]
    obtain ⟨i1,i2,i3⟩:=ih (i+1) (c+1) _ (By A w.Ab[i].Ay false (Bk a c)).1 (by omega) (by omega) hlen c3 (fun h=>absurd h hst)
    refine ⟨?_,?_,i3⟩
    ·rw [Df (s':=(((c+1:Nat):Int),((i+1:Nat):Int),Gy L w.Ab[i].Ay (By A w.Ab[i].Ay false (Bk a c)).2,(By A w.Ab[i].Ay false (Bk a c)).1)) ?_]
     ·exact i1
     ·rw [spec1]
      simp only [Qp,Tf]
      rw [if_neg (by simpa using hst),w1 (show c<4611686018427387904 by omega),w1 (show i<4611686018427387904 by omega)]
    ·rw [Df (s':=(((i+1:Nat):Int),t.clock,t.next,t.Ae,Gy L w.Ab[i].Ay (By A w.Ab[i].Ay false (Bk a c)).2,(By A w.Ab[i].Ay false (Bk a c)).1,w.An,a.kind,a.id,a.ttl,a.Dr,a.clock,a.Bu,a.stop,((c+1:Nat):Int))) ?_]
     ·exact i2
     ·rw [impl1]
      have es:(a.stop==2)=false:=by simpa using hst
      simp only [Qu,Tu,mD,Option.bind_some,es,cond_false]
      rw [if_neg (by simp),w1 (show i<4611686018427387904 by omega)]
  ·have hq':w.Ab[i].Ji=false:=by simpa using hq
   have eR:El a (w.Ab[i]::w.Ab.drop (i+1)) c L A=El a (w.Ab.drop (i+1)) c L A:=by simp only [El,hq',Bool.false_eq_true,if_false]
   dsimp only
   rw [eR]
   obtain ⟨i1,i2,i3⟩:=ih (i+1) c L A (by omega) (by omega) hLl hA hs
   refine ⟨?_,?_,i3⟩
   ·rw [Df (s':=((c:Int),((i+1:Nat):Int),L,A)) ?_]
    ·exact i1
    ·simp only [Jb]
     rw [if_pos (decide_eq_true (by omega)),Cb hlt]
     simp only [Option.bind_some,Tf]
     rw [if_pos (by simp [hq']),w1 (show i<4611686018427387904 by omega)]
   ·rw [Df (s':=(((i+1:Nat):Int),t.clock,t.next,t.Ae,L,A,w.An,a.kind,a.id,a.ttl,a.Dr,a.clock,a.Bu,a.stop,(c:Int))) ?_]
    ·exact i2
    ·simp only [Ig]
     rw [if_pos (decide_eq_true (by omega)),Cb hlt]
     simp only [Option.bind_some,Int.toNat_natCast,List.getElem?_eq_getElem hlt,Tu]
     rw [if_pos (by simp [hq']),w1 (show i<4611686018427387904 by omega)]
end Go.Ev
end
section
set_option maxHeartbeats 1000000
namespace Go.Ev
structure Du (v:Ap):Prop where
 tab:Es v.Ac
 i40:v.Ab.length≤40
 acc:Cp v.Ah 1 (v.Ac.next-1)
 its:Cp (v.Ab.map Aj.Ay) 1 (v.Ac.next-1)
 off:∀i∈v.Ab,∀y∈v.Ac.Ae,y.id≠i.Ay
 nam:∀x∈v.Ah,(∃y∈v.Ac.Ae,y.id=x)∨∃i∈v.Ab,i.Ay=x
theorem EF {v:Ap} (h:Mv v):Du v:=by
 obtain ⟨h1,h2,h3,h4,h5,h6,h7⟩:=h
 refine ⟨h1,h2,h4,h5,fun i hi y hy=>h6 _ (List.mem_map_of_mem hi) y hy,fun x hx=>?_⟩
 rcases h7 x hx with hn | hn
 ·left; exact Classical.byContradiction fun hc=>hn fun y hy e=>hc ⟨y,hy,e⟩
 ·right; exact Classical.byContradiction fun hc=>hn fun y hy e=>hc ⟨y,hy,e⟩
theorem Du.a {v:Ap} (h:Du v):v.Ah.length≤1000000:=Qb h.tab h.acc
theorem Du.t {v:Ap} (h:Du v):v.Ac.Ae.length≤40:=h.tab.2.2.1
structure Inv (v:Ap):Prop where
 right:Du v
 tab:Fq v.Ac
 und:∀i∈v.Ab,i.Ji=true
theorem Rc {v:Ap} (h:Du v):Du (Iq v):=by
 have e:(Iq v).Ab.map Aj.Ay=v.Ab.map Aj.Ay:=by simp [Iq,Hf]
 refine ⟨h.tab,by simp [Iq,h.i40],h.acc,by rw [e]; exact h.its,fun i hi y hy=>?_,fun x hx=>?_⟩
 ·obtain ⟨j,hj,rfl⟩:=List.mem_map.1 hi
  exact h.off j hj y hy
 ·rcases h.nam x hx with h1 | ⟨i,hi,e⟩
  ·exact .inl h1
  ·exact .inr ⟨Hf i,List.mem_map_of_mem hi,e⟩
theorem Un {v:Ap} (h:Du v) (hT:Fq v.Ac):Inv (Iq v):=⟨Rc h,hT,fun i hi=>by
 obtain ⟨j,_,rfl⟩:=List.mem_map.1 hi; rfl⟩
theorem Rd {v:Ap} {t:Ar} (h:Du v) (hT:Es t) (hn:t.next=v.Ac.next) (hi:t.Ae.map Aa.id=v.Ac.Ae.map Aa.id) (s:Bool):Du (Ap.mk t v.Ab v.Ah s):=by
 have hm:∀x,(∃y∈t.Ae,y.id=x)↔∃y∈v.Ac.Ae,y.id=x:=fun x=>by
  rw [←List.mem_map,←List.mem_map,hi]
 refine ⟨hT,h.i40,by simp only [hn]; exact h.acc,by simp only [hn]; exact h.its,fun i hi' y hy e=>?_,fun x hx=>?_⟩
 ·obtain ⟨z,hz,ez⟩:=(hm i.Ay).1 ⟨y,hy,e⟩
  exact h.off i hi' z hz ez
 ·rcases h.nam x hx with h1 | h1
  ·exact .inl ((hm x).2 h1)
  ·exact .inr h1
def Wd (v:Ap) (a:Bc) (r:Ap×Aw):Prop:=
 ((r.2.code_≠0∧r.2.code_≠15∧r.2.code_≠13)→r.1=v)∧(r.1.Ac.Ae.length≤1048576∧r.1.Ab.length≤1048576∧r.1.Ah.length≤1048576) ∧
  ((∀i∈v.Ab,i.Ji=true)→kQ a→Inv r.1)
theorem Rb {v:Ap} (h:Du v) (hT:Fq v.Ac) (a:Bc) (c n:Int):Wd v a (v,Aw.mk c n):=
 ⟨fun _=>rfl,⟨by have:=h.t; simp only; omega,by have:=h.i40; simp only; omega,by have:=h.a; simp only; omega⟩,fun hu _=>⟨h,hT,hu⟩⟩
theorem Qh {v:Ap} (h1:v.Ac.Ae.length≤1048576) (h2:v.Ab.length≤1048576) (h3:v.Ah.length≤1048576):bW v=some v:=by
 simp only [bW,Ju v.Ac h1,Option.bind_some]
 rw [if_pos (by simp; omega),if_pos (by simp; omega)]
 rfl
theorem own_eq {v:Ap} (h1:v.Ac.Ae.length≤1048576) (h2:v.Ab.length≤1048576) (h3:v.Ah.length≤1048576):AdA v=some v:=by
 have e:lK v.Ah=some v.Ah:=by unfold lK; rw [if_pos (by simp; omega)]
 simp only [AdA,Qm v.Ac h1,oP v.Ab h2,e,Option.bind_some]
theorem mH {t:Ar} (h:Es t) (x y:Int):∃r s,g70 t x y=some r∧g71 t x y=some s∧s.2=r.2∧((r.1=t∧r.2.2≠0) ∨
  (s=r∧r.2.2=0∧r.2.1=t.next∧t.next+1≤1000000∧t.Ae.length≤39∧∃l:Aa,l.id=t.next∧r.1=Ar.mk t.clock (t.next+1) (t.Ae++[l]))):=by
 have hl:=h.2.2.1
 have hn:=h.2.1
 simp only [g70,g71]
 split
 ·exact ⟨_,_,rfl,rfl,rfl,.inl ⟨rfl,by simp⟩⟩
 ·split
  ·exact ⟨_,_,rfl,rfl,rfl,.inl ⟨rfl,by simp⟩⟩
  ·simp only [Bx]
   split
   ·exact ⟨_,_,rfl,rfl,rfl,.inl ⟨rfl,by simp⟩⟩
   ·rename_i hf
    have hf1:t.Ae.length≠40:=fun e0=>hf (by rw [e0]; rfl)
    have hf2:t.next≠1000000:=fun e0=>hf (by rw [e0]; cases ((t.Ae.length:Int)==40)<;>rfl)
    obtain ⟨p,e1,e2⟩:=mE t.clock x
    obtain ⟨q,e3,e4⟩:=mE t.clock y
    rw [Ju t (by omega),Qm t (by omega)]
    simp only [e1,e2,e3,e4,Option.bind_some]
    rw [if_pos (by simp; omega)]
    exact ⟨_,_,rfl,rfl,rfl,.inr ⟨rfl,rfl,rfl,by omega,by omega,_,rfl,by rw [wr ⟨by omega,by omega⟩]⟩⟩
theorem DA {v:Ap} (h:Du v) (hn:v.Ac.next+1≤1000000) (hi:v.Ab.length≠40) (A:List Int) (hA:Cp A 1 v.Ac.next) (hs:∀x∈A,x∈v.Ah∨x=v.Ac.next) (b s:Bool):
  Du (Ap.mk (Ar.mk v.Ac.clock (v.Ac.next+1) v.Ac.Ae) (v.Ab++[Aj.mk v.Ac.next b]) A s):=by
 have h40:=h.i40
 have hn1:=h.tab.2.1
 have hT:Es (Ar.mk v.Ac.clock (v.Ac.next+1) v.Ac.Ae):=by
  refine ⟨h.tab.1,by simp only; omega,h.tab.2.2.1,fun k x hx=>?_⟩
  obtain ⟨a1,a2,a3,a4,a5⟩:=h.tab.2.2.2 k x hx
  exact ⟨by simp only; omega,a2,a3,a4,a5⟩
 refine ⟨hT,by simp; omega,by simp only; rw [show v.Ac.next+1-1=v.Ac.next by omega]; exact hA,?_,fun i hi' y hy=>?_,fun x hx=>?_⟩
 ·simp only [List.map_append,List.map_cons,List.map_nil]
  refine Ym (fun x hx=>?_) ?_
  ·rcases List.mem_append.1 hx with hx | hx
   ·have:=h.its.mem hx; omega
   ·simp only [List.mem_singleton] at hx; omega
  ·rw [List.pairwise_append]
   refine ⟨gI h.its,List.pairwise_singleton _ _,fun x hx y hy=>?_⟩
   have:=h.its.mem hx
   simp only [List.mem_singleton] at hy
   omega
 ·simp only at hi' hy
  rcases List.mem_append.1 hi' with hi' | hi'
  ·exact h.off i hi' y hy
  ·simp only [List.mem_singleton] at hi'; subst hi'
   obtain ⟨k,hk,rfl⟩:=List.getElem_of_mem hy
   have:=(h.tab.at hk).1
   simp only; omega
 ·rcases hs x hx with hx | rfl
  ·rcases h.nam x hx with h1 | ⟨i,hi,e⟩
   ·exact .inl h1
   ·exact .inr ⟨i,List.mem_append_left _ hi,e⟩
  ·exact .inr ⟨Aj.mk v.Ac.next b,by simp,rfl⟩
theorem mM {v:Ap} {a:Bc} (hr:Du v) (hT:Fq v.Ac) (hk:a.kind=1):∃r,AcW v a=some r∧AdB v a=some r∧Wd v a r:=by
 obtain ⟨r1,u1,e1,e2,e3,hc⟩:=mH hr.tab a.ttl a.Dr
 have h40:=hr.t
 have hi40:=hr.i40
 have ha:=hr.a
 have hn1:=hr.tab.2.1
 have tabf:kQ a→Fq r1.1:=fun hf=>by
  obtain ⟨r',e',t'⟩:=rF hT _ _ (hf.1 hk)
  rw [e1] at e'; cases e'; exact t'
 simp only [AcW,AdB,e1,e2,e3,Option.bind_some]
 have ref:∀c,c≠0→∃r,Jv v a r1 c=some r∧Jx v a u1 c=some r∧Wd v a r:=fun c h0=>⟨(v,Aw.mk c 0),by simp [Jv,h0],by simp [Jx,h0,bX],Rb hr hT a c 0⟩
 rcases hc with ⟨_,n0⟩ | ⟨hur,c0,cid,cn,cl,l,lid,lt⟩
 ·have:(bif (r1.2.2==0) then ((v.Ab.length:Int)==40) else false)=false:=by simp [n0]
  rw [this]
  simp only [Bool.false_eq_true,if_false]
  exact ref _ n0
 ·subst hur
  by_cases hf:v.Ab.length=40
  ·have:(bif (u1.2.2==0) then ((v.Ab.length:Int)==40) else false)=true:=by simp [c0,hf]
   rw [this]
   simp only [if_true]
   exact ref 9 (by decide)
  ·have:(bif (u1.2.2==0) then ((v.Ab.length:Int)==40) else false)=false:=by simp [c0]; omega
   rw [this]
   simp only [Bool.false_eq_true,if_false]
   obtain ⟨rt,rid,rc⟩:=u1
   simp only at c0 cid lt tabf
   subst c0 cid
   have hw:IntKind.i64.wrap (v.Ac.next+1)=v.Ac.next+1:=wr ⟨by omega,by omega⟩
   have hrn:rt.next=v.Ac.next+1:=by rw [lt]
   have hA:Cp v.Ah 1 v.Ac.next:=hr.acc.mono (by omega)
   obtain ⟨c1,c2,c3,c4⟩:=Mj hA (by omega) v.Ac.next true (Bk a 0) (fun _=>⟨by omega,by omega⟩)
   have hA2:(By v.Ah v.Ac.next true (Bk a 0)).1.length≤1000000:=by
    have:=c3.len (by omega); omega
   have f0:lO a 0=some (Bk a 0):=eU a 0
   have hsub:∀x∈(By v.Ah v.Ac.next true (Bk a 0)).1,x∈v.Ah∨x=v.Ac.next:=fun x hx=>by
    rcases c4 with ⟨_,e,_⟩ | ⟨_,_,hm⟩
    ·rw [e] at hx; exact .inl hx
    ·simpa using (hm x).1 hx
   have r1:fK (Cx.mk (Ap.mk (Ar.mk v.Ac.clock (v.Ac.next+1) v.Ac.Ae) (v.Ab++[Aj.mk v.Ac.next false]) v.Ah v.An) a 0) v.Ac.next true=some ((By v.Ah v.Ac.next true (Bk a 0)).2,Cx.mk (Ap.mk (Ar.mk v.Ac.clock (v.Ac.next+1) v.Ac.Ae) (v.Ab++[Aj.mk v.Ac.next false]) (By v.Ah v.Ac.next true (Bk a 0)).1 v.An) a 1):=
    bA (v:=Ap.mk (Ar.mk v.Ac.clock (v.Ac.next+1) v.Ac.Ae) (v.Ab++[Aj.mk v.Ac.next false]) v.Ah v.An) (a:=a) (k:=0) (by omega) hA (by simp only; omega) v.Ac.next true (fun _=>⟨by omega,by omega⟩)
   have hlen:(v.Ab++[Aj.mk v.Ac.next false]).length=v.Ab.length+1:=by simp
   have hwl:IntKind.i64.wrap (((v.Ab++[Aj.mk v.Ac.next false]).length:Int)-1)=(v.Ab.length:Int):=by rw [hlen,wr ⟨by omega,by omega⟩]; omega
   have hT1:Fq (Ar.mk v.Ac.clock (v.Ac.next+1) v.Ac.Ae):=EB hT cn
   have cap:(v.Ab.length+([Aj.mk v.Ac.next false]:List Aj).length)*16≤140737488355328:=by simp; omega
   have ecp:=Qh (v:=v) (by omega) (by omega) (by omega)
   by_cases s1:a.stop=1
   ·have q1:=Pz (Ap.mk (Ar.mk v.Ac.clock (v.Ac.next+1) v.Ac.Ae) (v.Ab++[Aj.mk v.Ac.next false]) v.Ah v.An) (by simp only; omega) (by simp; omega) (by simp only; omega)
    have q2:=Py (Ap.mk (Ar.mk v.Ac.clock (v.Ac.next+1) v.Ac.Ae) (v.Ab++[Aj.mk v.Ac.next false]) v.Ah v.An) (by simp; omega)
    refine ⟨(Iq (Ap.mk (Ar.mk v.Ac.clock (v.Ac.next+1) v.Ac.Ae) (v.Ab++[Aj.mk v.Ac.next false]) v.Ah v.An),Aw.mk 15 0),?_,?_,fun h=>absurd rfl h.2.1,⟨by simp [Iq]; omega,by simp [Iq]; omega,by simp [Iq]; omega⟩,fun _ _=>Un (DA hr cn hf v.Ah hA (fun x hx=>.inl hx) false v.An) hT1⟩
    ·simp only [Jv,ecp,Option.bind_some,hrn,s1]
     rw [if_neg (by simp),if_pos cap,if_pos (by simp),q1]
     rfl
    ·simp only [Jx,hw,s1]
     rw [if_neg (by simp),if_pos cap,if_pos (by simp),q2]
     rfl
   ·have s1':¬(a.stop==1)=true:=by simpa using s1
    by_cases s2:a.stop=2
    ·have s2':(a.stop==2)=true:=by simpa using s2
     have q1:=Pz (Ap.mk (Ar.mk v.Ac.clock (v.Ac.next+1) v.Ac.Ae) (v.Ab++[Aj.mk v.Ac.next false]) (By v.Ah v.Ac.next true (Bk a 0)).1 v.An) (by simp only; omega) (by simp; omega) (by simp only; omega)
     have q2:=Py (Ap.mk (Ar.mk v.Ac.clock (v.Ac.next+1) v.Ac.Ae) (v.Ab++[Aj.mk v.Ac.next false]) (By v.Ah v.Ac.next true (Bk a 0)).1 v.An) (by simp; omega)
     refine ⟨(Iq (Ap.mk (Ar.mk v.Ac.clock (v.Ac.next+1) v.Ac.Ae) (v.Ab++[Aj.mk v.Ac.next false]) (By v.Ah v.Ac.next true (Bk a 0)).1 v.An),Aw.mk 15 0),?_,?_,fun h=>absurd rfl h.2.1,⟨by simp [Iq]; omega,by simp [Iq]; omega,by simp [Iq]; omega⟩,fun _ _=>Un (DA hr cn hf _ c3 hsub false v.An) hT1⟩
     ·simp only [Jv,ecp,Option.bind_some,hrn,f0,c2]
      rw [if_neg (by simp),if_pos cap,if_neg s1',if_pos s2',q1]
      rfl
     ·simp only [Jx,hw,r1,Option.bind_some]
      rw [if_neg (by simp),if_pos cap,if_neg s1',if_pos s2',q2]
      rfl
    ·have s2':¬(a.stop==2)=true:=by simpa using s2
     by_cases h0:(By v.Ah v.Ac.next true (Bk a 0)).2=0
     ·have h0':¬((By v.Ah v.Ac.next true (Bk a 0)).2 != 0)=true:=by simp [h0]
      have hs:=slcK (v.Ab++[Aj.mk v.Ac.next false]) 0 v.Ab.length (by omega) (by omega)
      rw [show ((0:Nat):Int)=0 from rfl] at hs
      have et:List.drop 0 (List.take v.Ab.length (v.Ab++[Aj.mk v.Ac.next false]))=v.Ab:=by simp
      rw [et] at hs
      refine ⟨(Ap.mk rt v.Ab (By v.Ah v.Ac.next true (Bk a 0)).1 v.An,Aw.mk 0 v.Ac.next),?_,?_,fun h=>absurd rfl h.1,⟨by simp only [lt]; simp; omega,by simp only; omega,by simp only; omega⟩,fun hu hfit=>⟨?_,tabf hfit,hu⟩⟩
      ·simp only [Jv,ecp,Option.bind_some,hrn,f0,c2,hwl]
       rw [if_neg (by simp),if_pos cap,if_neg s1',if_neg s2',if_neg h0',hs]
       rfl
      ·simp only [Jx,hw,r1,Option.bind_some,hwl]
       rw [if_neg (by simp),if_pos cap,if_neg s1',if_neg s2',if_neg h0',hs]
       rfl
      ·refine ⟨(tabf hfit).1,hi40,by simp only [hrn]; rw [show v.Ac.next+1-1=v.Ac.next by omega]; exact c3,by simp only [hrn]; exact hr.its.mono (by omega),fun i hi y hy=>?_,fun x hx=>?_⟩
       ·simp only [lt] at hy
        rcases List.mem_append.1 hy with hy | hy
        ·exact hr.off i hi y hy
        ·simp only [List.mem_singleton] at hy; subst hy
         have:=hr.its.mem (List.mem_map_of_mem hi)
         omega
       ·simp only [lt]
        rcases hsub x hx with hx | rfl
        ·rcases hr.nam x hx with ⟨y,hy,e⟩ | h1
         ·exact .inl ⟨y,List.mem_append_left _ hy,e⟩
         ·exact .inr h1
        ·exact .inl ⟨l,by simp,lid⟩
     ·have h0':((By v.Ah v.Ac.next true (Bk a 0)).2 != 0)=true:=by simpa using h0
      have il:=Cb (show v.Ab.length<(v.Ab++[Aj.mk v.Ac.next false]).length by omega)
      have gl:=List.getElem?_eq_getElem (show v.Ab.length<(v.Ab++[Aj.mk v.Ac.next false]).length by omega)
      have el:(v.Ab++[Aj.mk v.Ac.next false])[v.Ab.length]'(by omega)=Aj.mk v.Ac.next false:=by simp
      rw [el] at il gl
      have es:(v.Ab++[Aj.mk v.Ac.next false]).set v.Ab.length (Aj.mk v.Ac.next true)=v.Ab++[Aj.mk v.Ac.next true]:=by simp [List.set_append]
      refine ⟨(Ap.mk (Ar.mk v.Ac.clock (v.Ac.next+1) v.Ac.Ae) (v.Ab++[Aj.mk v.Ac.next true]) (By v.Ah v.Ac.next true (Bk a 0)).1 v.An,Aw.mk (By v.Ah v.Ac.next true (Bk a 0)).2 0),?_,?_,fun h=>?_,⟨by simp only; omega,by simp; omega,by simp only; omega⟩,fun hu _=>⟨DA hr cn hf _ c3 hsub true v.An,hT1,fun i hi=>?_⟩⟩
      ·simp only [Jv,ecp,Option.bind_some,hrn,f0,c2,hwl]
       rw [if_neg (by simp),if_pos cap,if_neg s1',if_neg s2',if_pos h0',il]
       simp only [Option.bind_some,Int.toNat_natCast,gl,es]
      ·simp only [Jx,hw,r1,Option.bind_some,hwl]
       rw [if_neg (by simp),if_pos cap,if_neg s1',if_neg s2',if_pos h0',il]
       simp only [Option.bind_some,Int.toNat_natCast,gl,es,bX]
      ·exfalso
       simp only at h
       rcases c4 with ⟨e,_,_⟩ | ⟨_,e,_⟩
       ·exact h.2.2 e
       ·rw [e] at h
        unfold Lu at h
        split at h
        ·exact h.2.1 rfl
        ·exact h.1 rfl
      ·simp only at hi
       rcases List.mem_append.1 hi with hi | hi
       ·exact hu i hi
       ·simp only [List.mem_singleton] at hi; subst hi; rfl
theorem oZ {t:Ar} {k:Nat} (hk:k<t.Ae.length) (v:Aa) (h:v.id=t.Ae[k].id):(t.Ae.set k v).map Aa.id=t.Ae.map Aa.id:=by
 apply List.ext_getElem
 ·simp
 ·intro j h1 h2
  simp only [List.getElem_map,List.getElem_set]
  split
  ·rename_i e; subst e; exact h
  ·rfl
theorem jY {t:Ar} (h:Es t) (x:Int):∃r s,g74 t x=some r∧g75 t x=some s∧s.2=r.2∧(r.2=0→s=r)∧r.1.next=t.next∧r.1.Ae.map Aa.id=t.Ae.map Aa.id:=by
 have hl:=h.2.2.1
 obtain ⟨n,h1,h2⟩:=Sd t x (by omega)
 obtain ⟨i,b,h3,h4,h5⟩:=fO t h x n h2
 simp only [g74,g75,h1,h3,Option.bind_some]
 cases b with
 | false=>
  have:=h5 rfl; subst this
  exact ⟨_,_,rfl,rfl,rfl,(fun h=>by simp at h),rfl,rfl⟩
 | true=>
  obtain ⟨rfl,hn⟩:=h4 rfl
  rcases h2 with ⟨rfl,_⟩ | ⟨k,hk,rfl,_⟩
  ·omega
  ·rw [if_neg (by simp),if_neg (by simp),Ju t (by omega),Qm t (by omega)]
   simp only [Option.bind_some,Cb hk,Int.toNat_natCast,List.getElem?_eq_getElem hk]
   exact ⟨_,_,rfl,rfl,rfl,fun _=>rfl,rfl,oZ hk _ rfl⟩
theorem mX {t:Ar} (h:Es t) (x c:Int):∃r s,g79 t x c=some r∧g80 t x c=some s∧s.2=r.2∧(r.2=0→s=r)∧r.1.next=t.next∧r.1.Ae.map Aa.id=t.Ae.map Aa.id:=by
 have hl:=h.2.2.1
 obtain ⟨n,h1,h2⟩:=Sd t x (by omega)
 obtain ⟨i,b,h3,h4,h5⟩:=fO t h x n h2
 simp only [g79,g80,h1,h3,Option.bind_some]
 by_cases hb:c<1
 ·simp only [decide_eq_true hb,if_true]
  exact ⟨_,_,rfl,rfl,rfl,(fun h=>by simp at h),rfl,rfl⟩
 ·simp only [decide_eq_false hb,if_neg (show ¬(false=true) by decide)]
  cases b with
  | false=>
   have:=h5 rfl; subst this
   exact ⟨_,_,rfl,rfl,rfl,(fun h=>by simp at h),rfl,rfl⟩
  | true=>
   obtain ⟨rfl,hn⟩:=h4 rfl
   rcases h2 with ⟨rfl,_⟩ | ⟨k,hk,rfl,_⟩
   ·omega
   ·rw [if_neg (by simp),if_neg (by simp),Cb hk]
    simp only [Option.bind_some]
    by_cases hq:t.Ae[k].Bz=true
    ·rw [if_pos hq,if_pos hq]
     exact ⟨_,_,rfl,rfl,rfl,(fun h=>by simp at h),rfl,rfl⟩
    ·rw [if_neg hq,if_neg hq,Ju t (by omega),Qm t (by omega)]
     obtain ⟨x,e3,e4⟩:=mE t.clock c
     simp only [Option.bind_some,Cb hk,Int.toNat_natCast,List.getElem?_eq_getElem hk,e3,e4,Bx]
     have:(if x<t.Ae[k].cap then x else t.Ae[k].cap)=(if t.Ae[k].cap<x then t.Ae[k].cap else x):=by
      split<;>split<;>omega
     rw [this]
     exact ⟨_,_,rfl,rfl,rfl,fun _=>rfl,rfl,oZ hk _ rfl⟩
theorem eE {v:Ap} (hr:Du v) (hT:Fq v.Ac) (a:Bc) (r u:Ar×Int) (hu2:u.2=r.2) (hur:r.2=0→u=r) (hn:r.1.next=v.Ac.next) (hi:r.1.Ae.map Aa.id=v.Ac.Ae.map Aa.id) (hf:kQ a→Fq r.1):
  ∃x,Hn v r.2 r.1.clock r.1.next r.1.Ae v.Ab v.Ah v.An=some x∧CP v u.1 u.2=some x∧Wd v a x:=by
 simp only [Hn,CP,bX,Option.bind_some,hu2]
 by_cases h0:r.2=0
 ·rw [if_neg (by simp [h0]),if_neg (by simp [h0])]
  rw [hur h0]
  have hl:r.1.Ae.length=v.Ac.Ae.length:=by simpa using congrArg List.length hi
  have:=hr.t
  have:=hr.i40
  have:=hr.a
  exact ⟨_,rfl,rfl,fun h=>absurd rfl h.1,⟨by simp only; omega,by simp only; omega,by simp only; omega⟩,fun hu hfit=>⟨Rd hr (hf hfit).1 hn hi _,hf hfit,hu⟩⟩
 ·rw [if_pos (by simpa using h0),if_pos (by simpa using h0)]
  exact ⟨_,rfl,rfl,Rb hr hT a _ _⟩
theorem kG (a:Bc) {M:Int} (hM:M≤1000000) (hM0:0≤M):∀(r:List Aa) (c:Nat) (L:List Aa) (A:List Int),Cp A 1 M →
  (∀y∈(Ef a r c L A).2.1,y∈L)∧∀y∈(Ef a r c L A).2.2.1,y∈A∧((∃z∈L,z.id=y)→∃z∈(Ef a r c L A).2.1,z.id=y):=by
 intro r
 induction r with
 | nil=>intro c L A hA; exact ⟨fun y hy=>hy,fun y hy=>⟨hy,fun h=>h⟩⟩
 | cons x r ih=>
  intro c L A hA
  by_cases hq:x.Bz=true
  ·have hlen:A.length≤1000000:=by have:=hA.len hM0; omega
   obtain ⟨c1,c2,c3,c4⟩:=Mj hA (by omega) x.id false (Bk a c) (fun h=>by cases h)
   have hL:∀y∈Gb L x.id (By A x.id false (Bk a c)).2,y∈L:=fun y hy=>by
    unfold Gb at hy
    split at hy
    ·exact (List.mem_filter.1 hy).1
    ·exact hy
   have hN:∀y∈(By A x.id false (Bk a c)).1,y∈A∧((∃z∈L,z.id=y)→∃z∈Gb L x.id (By A x.id false (Bk a c)).2,z.id=y):=fun y hy=>by
    rcases c4 with ⟨e1,e2,_⟩ | ⟨_,e1,hm⟩
    ·rw [e2] at hy
     refine ⟨hy,fun h=>?_⟩
     unfold Gb
     rw [if_neg (by rw [e1]; decide)]
     exact h
    ·have hy':y∈A∧y≠x.id:=by simpa using (hm y).1 hy
     refine ⟨hy'.1,fun ⟨z,hz,e⟩=>⟨z,?_,e⟩⟩
     unfold Gb
     split
     ·rw [List.mem_filter]
      exact ⟨hz,by simp; rw [e]; exact hy'.2⟩
     ·exact hz
   by_cases hs:a.stop=2
   ·have eR:Ef a (x::r) c L A=(c+1,Gb L x.id (By A x.id false (Bk a c)).2,(By A x.id false (Bk a c)).1,true):=by simp only [Ef,hq,if_true]; rw [if_pos hs]
    rw [eR]
    exact ⟨hL,hN⟩
   ·have eR:Ef a (x::r) c L A=Ef a r (c+1) (Gb L x.id (By A x.id false (Bk a c)).2) (By A x.id false (Bk a c)).1:=by simp only [Ef,hq,if_true]; rw [if_neg hs]
    rw [eR]
    obtain ⟨i1,i2⟩:=ih (c+1) (Gb L x.id (By A x.id false (Bk a c)).2) _ c3
    exact ⟨fun y hy=>hL y (i1 y hy),fun y hy=>⟨(hN y (i2 y hy).1).1,fun h=>(i2 y hy).2 ((hN y (i2 y hy).1).2 h)⟩⟩
  ·have eR:Ef a (x::r) c L A=Ef a r c L A:=by simp only [Ef,hq,if_false]; rfl
   rw [eR]
   exact ih c L A hA
theorem kE (a:Bc) {M:Int} (hM:M≤1000000) (hM0:0≤M):∀(r:List Aj) (c:Nat) (L:List Aj) (A:List Int),Cp A 1 M →
  (El a r c L A).2.1.Sublist L∧∀y∈(El a r c L A).2.2.1,y∈A∧((∃z∈L,z.Ay=y)→∃z∈(El a r c L A).2.1,z.Ay=y):=by
 intro r
 induction r with
 | nil=>intro c L A hA; exact ⟨List.Sublist.refl _,fun y hy=>⟨hy,fun h=>h⟩⟩
 | cons x r ih=>
  intro c L A hA
  by_cases hq:x.Ji=true
  ·have hlen:A.length≤1000000:=by have:=hA.len hM0; omega
   obtain ⟨c1,c2,c3,c4⟩:=Mj hA (by omega) x.Ay false (Bk a c) (fun h=>by cases h)
   have hL:(Gy L x.Ay (By A x.Ay false (Bk a c)).2).Sublist L:=by
    unfold Gy
    split
    ·exact List.filter_sublist
    ·exact List.Sublist.refl _
   have hN:∀y∈(By A x.Ay false (Bk a c)).1,y∈A∧((∃z∈L,z.Ay=y)→∃z∈Gy L x.Ay (By A x.Ay false (Bk a c)).2,z.Ay=y):=fun y hy=>by
    rcases c4 with ⟨e1,e2,_⟩ | ⟨_,e1,hm⟩
    ·rw [e2] at hy
     refine ⟨hy,fun h=>?_⟩
     unfold Gy
     rw [if_neg (by rw [e1]; decide)]
     exact h
    ·have hy':y∈A∧y≠x.Ay:=by simpa using (hm y).1 hy
     refine ⟨hy'.1,fun ⟨z,hz,e⟩=>⟨z,?_,e⟩⟩
     unfold Gy
     split
     ·rw [List.mem_filter]
      exact ⟨hz,by simp; rw [e]; exact hy'.2⟩
     ·exact hz
   by_cases hs:a.stop=2
   ·have eR:El a (x::r) c L A=(c+1,Gy L x.Ay (By A x.Ay false (Bk a c)).2,(By A x.Ay false (Bk a c)).1,true):=by simp only [El,hq,if_true]; rw [if_pos hs]
    rw [eR]
    exact ⟨hL,hN⟩
   ·have eR:El a (x::r) c L A=El a r (c+1) (Gy L x.Ay (By A x.Ay false (Bk a c)).2) (By A x.Ay false (Bk a c)).1:=by simp only [El,hq,if_true]; rw [if_neg hs]
    rw [eR]
    obtain ⟨i1,i2⟩:=ih (c+1) (Gy L x.Ay (By A x.Ay false (Bk a c)).2) _ c3
    exact ⟨i1.trans hL,fun y hy=>⟨(hN y (i2 y hy).1).1,fun h=>(i2 y hy).2 ((hN y (i2 y hy).1).2 h)⟩⟩
  ·have eR:El a (x::r) c L A=El a r c L A:=by simp only [El,hq,if_false]; rfl
   rw [eR]
   exact ih c L A hA
noncomputable def Cs (w:Ap) (a:Bc):Nat×List Aa×List Int×Bool:=Ef a w.Ac.Ae 0 w.Ac.Ae w.Ah
noncomputable def Eb (w:Ap) (a:Bc):Nat×List Aj×List Int×Bool:=El a w.Ab (Cs w a).1 w.Ab (Cs w a).2.2.1
noncomputable def La (w:Ap) (a:Bc):Ar:=Ar.mk w.Ac.clock w.Ac.next (Cs w a).2.1
noncomputable def Fp (w:Ap) (a:Bc):Ap×Bool:=
 if (Cs w a).2.2.2=true then (Iq (Ap.mk (La w a) w.Ab (Cs w a).2.2.1 w.An),true)
 else if (Eb w a).2.2.2=true then (Iq (Ap.mk (La w a) (Eb w a).2.1 (Eb w a).2.2.1 w.An),true)
 else (Ap.mk (La w a) (Eb w a).2.1 (Eb w a).2.2.1 w.An,false)
theorem Sp {w:Ap} (a:Bc) (hr:Du w) (hT:Fq w.Ac):
  lL w a=some (Fp w a).1 ∧
  ((Ca (Jy a w.Ac.Ae) (0,w.Ac.clock,w.Ac.next,w.Ac.Ae,w.Ab,w.Ah,w.An,a.kind,a.id,a.ttl,a.Dr,a.clock,a.Bu,a.stop,0)).bind fun r182=>(match r182 with
   | .inl (p108,p109,p110,p111,p112,p113,p114,p115,p116,p117,p118,p119,p120,p121)=>(mC p111).bind fun r184=>
    (Ca (Ig a r184) (0,p108,p109,p110,p111,p112,p113,p114,p115,p116,p117,p118,p119,p120,p121)).bind fun r344=>(match r344 with
    | .inl (p278,p279,p280,p281,p282,p283,p284,p285,p286,p287,p288,p289,p290,p291)=>some ((Ap.mk (Ar.mk p278 p279 p280) p281 p282 p283),(Aw.mk 0 0))
    | .inr q=>some q)
   | .inr q=>some q))=some ((Fp w a).1,Aw.mk (if (Fp w a).2=true then 15 else 0) 0) ∧
  Du (Fp w a).1∧Fq (Fp w a).1.Ac∧((∀i∈w.Ab,i.Ji=true)→∀i∈(Fp w a).1.Ab,i.Ji=true)∧((Fp w a).2=true→(Fp w a).1.An=true)∧((Fp w a).2=false→(Fp w a).1.An=w.An):=by
 have h40:=hr.t
 have hi40:=hr.i40
 have hn1:=hr.tab.2.1
 obtain ⟨l1,l2,l3,l4,l5,l6⟩:=kF w a hr.tab (by omega) w.Ac.Ae.length 0 0 w.Ac.Ae w.Ah (by omega) (Nat.le_refl _) hT (fun x hx=>by simpa using hx) hr.acc (fun _=>rfl)
 simp only [List.drop_zero] at l1 l2 l3 l4 l5 l6
 change Ca (Lm w a w) (0,0,w.Ac.clock,w.Ac.next,w.Ac.Ae,w.Ah)=some (if (Cs w a).2.2.2=true then .inr (Iq (Ap.mk (La w a) w.Ab (Cs w a).2.2.1 w.An)) else .inl (((Cs w a).1:Int),w.Ac.clock,w.Ac.next,(Cs w a).2.1,(Cs w a).2.2.1)) at l1
 change Ca (Jy a w.Ac.Ae) (0,w.Ac.clock,w.Ac.next,w.Ac.Ae,w.Ab,w.Ah,w.An,a.kind,a.id,a.ttl,a.Dr,a.clock,a.Bu,a.stop,0)=some (if (Cs w a).2.2.2=true then .inr (Iq (Ap.mk (La w a) w.Ab (Cs w a).2.2.1 w.An),Aw.mk 15 0) else .inl (w.Ac.clock,w.Ac.next,(Cs w a).2.1,w.Ab,(Cs w a).2.2.1,w.An,a.kind,a.id,a.ttl,a.Dr,a.clock,a.Bu,a.stop,((Cs w a).1:Int))) at l2
 change Fq (La w a) at l3
 change Cp (Cs w a).2.2.1 1 (w.Ac.next-1) at l4
 change (Cs w a).1≤w.Ac.Ae.length at l5
 change (Cs w a).2.2.2=false→a.stop=2→(Cs w a).1=0 at l6
 obtain ⟨p1,p2⟩:=kG a (M:=w.Ac.next-1) (by omega) (by omega) w.Ac.Ae 0 w.Ac.Ae w.Ah hr.acc
 change ∀y∈(Cs w a).2.1,y∈w.Ac.Ae at p1
 change ∀y∈(Cs w a).2.2.1,y∈w.Ah∧((∃z∈w.Ac.Ae,z.id=y)→∃z∈(Cs w a).2.1,z.id=y) at p2
 have rA:∀s,Du (Ap.mk (La w a) w.Ab (Cs w a).2.2.1 s):=fun s=>⟨l3.1,hr.i40,l4,hr.its,fun i hi y hy=>hr.off i hi y (p1 y hy),fun x hx=>by
  rcases hr.nam x (p2 x hx).1 with h1 | h1
  ·exact .inl ((p2 x hx).2 h1)
  ·exact .inr h1⟩
 by_cases hb:(Cs w a).2.2.2=true
 ·have e:Fp w a=(Iq (Ap.mk (La w a) w.Ab (Cs w a).2.2.1 w.An),true):=by unfold Fp; rw [if_pos hb]
  rw [if_pos hb] at l1 l2
  rw [e]
  refine ⟨?_,?_,Rc (rA _),l3,fun _=>(Un (rA w.An) l3).und,fun _=>rfl,fun h=>by cases h⟩
  ·simp only [lL,Qh (v:=w) (by omega) (by omega) (by have:=hr.a; omega),Option.bind_some,l1]
  ·simp only [l2,Option.bind_some]
   rfl
 ·rw [if_neg hb] at l1 l2
  have hb':(Cs w a).2.2.2=false:=by simpa using hb
  obtain ⟨m1,m2,m3⟩:=kD w a (La w a) l3.1 (by omega) rfl w.Ab.length 0 (Cs w a).1 w.Ab (Cs w a).2.2.1 (by omega) (by omega) (by omega) l4 (l6 hb')
  simp only [List.drop_zero] at m1 m2 m3
  change Ca (Jb w a w (La w a).clock (La w a).next (La w a).Ae) (((Cs w a).1:Int),0,w.Ab,(Cs w a).2.2.1)=some (if (Eb w a).2.2.2=true then .inr (Iq (Ap.mk (La w a) (Eb w a).2.1 (Eb w a).2.2.1 w.An)) else .inl ((Eb w a).2.1,(Eb w a).2.2.1)) at m1
  change Ca (Ig a w.Ab) (0,(La w a).clock,(La w a).next,(La w a).Ae,w.Ab,(Cs w a).2.2.1,w.An,a.kind,a.id,a.ttl,a.Dr,a.clock,a.Bu,a.stop,((Cs w a).1:Int))=some (if (Eb w a).2.2.2=true then .inr (Iq (Ap.mk (La w a) (Eb w a).2.1 (Eb w a).2.2.1 w.An),Aw.mk 15 0) else .inl ((La w a).clock,(La w a).next,(La w a).Ae,(Eb w a).2.1,(Eb w a).2.2.1,w.An,a.kind,a.id,a.ttl,a.Dr,a.clock,a.Bu,a.stop,((Eb w a).1:Int))) at m2
  change Cp (Eb w a).2.2.1 1 (w.Ac.next-1) at m3
  obtain ⟨q1,q2⟩:=kE a (M:=w.Ac.next-1) (by omega) (by omega) w.Ab (Cs w a).1 w.Ab (Cs w a).2.2.1 l4
  change (Eb w a).2.1.Sublist w.Ab at q1
  change ∀y∈(Eb w a).2.2.1,y∈(Cs w a).2.2.1∧((∃z∈w.Ab,z.Ay=y)→∃z∈(Eb w a).2.1,z.Ay=y) at q2
  have rB:∀s,Du (Ap.mk (La w a) (Eb w a).2.1 (Eb w a).2.2.1 s):=fun s=>⟨l3.1,Nat.le_trans q1.length_le hr.i40,m3,Ym (fun x hx=>hr.its.mem ((q1.map _).mem hx)) ((gI hr.its).sublist (q1.map _)),fun i hi y hy=>hr.off i (q1.mem hi) y (p1 y hy),fun x hx=>by
   have h1:=q2 x hx
   have h2:=p2 x h1.1
   rcases hr.nam x h2.1 with h3 | h3
   ·exact .inl (h2.2 h3)
   ·exact .inr (h1.2 h3)⟩
  have ec:mC w.Ab=some w.Ab:=oP _ (by omega)
  by_cases hd:(Eb w a).2.2.2=true
  ·have e:Fp w a=(Iq (Ap.mk (La w a) (Eb w a).2.1 (Eb w a).2.2.1 w.An),true):=by unfold Fp; rw [if_neg hb,if_pos hd]
   rw [if_pos hd] at m1 m2
   rw [e]
   refine ⟨?_,?_,Rc (rB _),l3,fun _=>(Un (rB w.An) l3).und,fun _=>rfl,fun h=>by cases h⟩
   ·simp only [lL,Qh (v:=w) (by omega) (by omega) (by have:=hr.a; omega),Option.bind_some,l1]
    rw [show Ca (Jb w a w w.Ac.clock w.Ac.next (Cs w a).2.1) (((Cs w a).1:Int),0,w.Ab,(Cs w a).2.2.1)=_ from m1]
    rfl
   ·simp only [l2,Option.bind_some,ec]
    rw [show Ca (Ig a w.Ab) (0,w.Ac.clock,w.Ac.next,(Cs w a).2.1,w.Ab,(Cs w a).2.2.1,w.An,a.kind,a.id,a.ttl,a.Dr,a.clock,a.Bu,a.stop,((Cs w a).1:Int))=_ from m2]
    rfl
  ·have e:Fp w a=(Ap.mk (La w a) (Eb w a).2.1 (Eb w a).2.2.1 w.An,false):=by unfold Fp; rw [if_neg hb,if_neg hd]
   rw [if_neg hd] at m1 m2
   rw [e]
   refine ⟨?_,?_,rB _,l3,fun hu i hi=>hu i (q1.mem hi),(fun h=>by cases h),fun _=>rfl⟩
   ·simp only [lL,Qh (v:=w) (by omega) (by omega) (by have:=hr.a; omega),Option.bind_some,l1]
    rw [show Ca (Jb w a w w.Ac.clock w.Ac.next (Cs w a).2.1) (((Cs w a).1:Int),0,w.Ab,(Cs w a).2.2.1)=_ from m1]
    rfl
   ·simp only [l2,Option.bind_some,ec]
    rw [show Ca (Ig a w.Ab) (0,w.Ac.clock,w.Ac.next,(Cs w a).2.1,w.Ab,(Cs w a).2.2.1,w.An,a.kind,a.id,a.ttl,a.Dr,a.clock,a.Bu,a.stop,((Cs w a).1:Int))=_ from m2]
    rfl
def Wz (t:Ar) (c:Int):Ar:=Ar.mk (Cw t c) t.next (t.Ae.map (Hj (Cw t c)))
theorem bM (t:Ar) (c:Int):(Wz t c).Ae.map Aa.id=t.Ae.map Aa.id:=by
 simp only [Wz,List.map_map]
 apply List.map_congr_left
 intro x _
 simp only [Function.comp,Hj]
 split<;>rfl
def Oe (v:Ap) (a:Bc):Ap:=Ap.mk (Wz v.Ac a.clock) v.Ab v.Ah v.An
noncomputable def eD (v:Ap) (a:Bc):Ap×Aw:=
 if a.stop=1 then (Iq (Oe v a),Aw.mk 15 0) else ((Fp (Oe v a) a).1,Aw.mk (if (Fp (Oe v a) a).2=true then 15 else 0) 0)
theorem sA {v:Ap} (a:Bc) (hr:Du v) (hT:Fq v.Ac) (hc:a.clock≤9223372036854775807):AdC v a=some (eD v a):=by
 have h40:=hr.t
 have hi40:=hr.i40
 obtain ⟨s,e1,_⟩:=g82_eq v.Ac a.clock (by omega)
 have hT2:Fq (Wz v.Ac a.clock):=bN hT a.clock hc
 have hr2:Du (Oe v a):=Rd hr hT2.1 rfl (bM _ _) _
 have hl2:(Wz v.Ac a.clock).Ae.length≤40:=hT2.1.2.2.1
 simp only [AdC,e1,Option.bind_some]
 unfold eD
 by_cases h1:a.stop=1
 ·rw [if_pos (by simp [h1]),if_pos h1]
  rw [show fJ (Ap.mk (Ar.mk (Cw v.Ac a.clock) v.Ac.next (v.Ac.Ae.map (Hj (Cw v.Ac a.clock)))) v.Ab v.Ah v.An)=_ from Py (Oe v a) (by simp only [Oe]; omega)]
  rfl
 ·rw [if_neg (by simpa using h1),if_neg h1]
  rw [show g66 (v.Ac.Ae.map (Hj (Cw v.Ac a.clock)))=_ from CW (Wz v.Ac a.clock).Ae (by omega)]
  exact (Sp a hr2 hT2).2.1
theorem sB {v:Ap} (a:Bc) (hr:Du v) (hT:Fq v.Ac) (hc:a.clock≤9223372036854775807):Wd v a (eD v a):=by
 have hT2:Fq (Wz v.Ac a.clock):=bN hT a.clock hc
 have hr2:Du (Oe v a):=Rd hr hT2.1 rfl (bM _ _) _
 have lens:∀w:Ap,Du w→w.Ac.Ae.length≤1048576∧w.Ab.length≤1048576∧w.Ah.length≤1048576:=fun w h=>⟨by have:=h.t; omega,by have:=h.i40; omega,by have:=h.a; omega⟩
 unfold eD
 split
 ·exact ⟨fun h=>absurd rfl h.2.1,lens _ (Rc hr2),fun _ _=>Un hr2 hT2⟩
 ·obtain ⟨_,_,s3,s4,s5,_⟩:=Sp a hr2 hT2
  refine ⟨fun h=>?_,lens _ s3,fun hu _=>⟨s3,s4,s5 hu⟩⟩
  exfalso
  simp only at h
  split at h
  ·exact h.2.1 rfl
  ·exact h.1 rfl
theorem kind_eq (k:Int):oS k 1 6=some (decide (1≤k∧k≤6))∧rD k 1 6=some (decide (1≤k∧k≤6)):=by
 simp only [oS,rD]
 by_cases h1:1≤k<;>by_cases h2:k≤6<;>simp [h1,h2]
theorem nE {v:Ap} (hr:Du v) (hT:Fq v.Ac) (a:Bc) (hc':a.clock≤9223372036854775807∨a.kind≠4):∃r,BY v a=some r∧CO v a=some r∧Wd v a r:=by
 have h40:=hr.t
 have hi40:=hr.i40
 have ha:=hr.a
 have lens:v.Ac.Ae.length≤1048576∧v.Ab.length≤1048576∧v.Ah.length≤1048576:=⟨by omega,by omega,by omega⟩
 simp only [BY,CO,own_eq lens.1 lens.2.1 lens.2.2,Qh lens.1 lens.2.1 lens.2.2,kind_eq,bX,Option.bind_some]
 by_cases hk:1≤a.kind∧a.kind≤6
 ·rw [decide_eq_true hk]
  simp only [Bool.not_true,Bool.false_eq_true,if_false]
  by_cases hs:v.An=true∧a.kind≠6
  ·have e:(bif v.An then (a.kind != 6) else false)=true:=by simp [hs.1,hs.2]
   rw [e]
   exact ⟨_,rfl,rfl,Rb hr hT a _ _⟩
  ·have e:(bif v.An then (a.kind != 6) else false)=false:=by
    cases hv:v.An
    ·rfl
    ·simp only [cond_true]
     rw [bne_eq_false_iff_eq]
     exact Classical.byContradiction fun h=>hs ⟨hv,h⟩
   rw [e]
   simp only [Bool.false_eq_true,if_false]
   have fin:∀s:Bool,Wd v a (Ap.mk v.Ac v.Ab v.Ah s,Aw.mk 0 0):=fun s=>⟨fun h=>absurd rfl h.1,lens,fun hu _=>⟨⟨hr.tab,hr.i40,hr.acc,hr.its,hr.off,hr.nam⟩,hT,hu⟩⟩
   by_cases k1:a.kind=1
   ·obtain ⟨r,x1,x2,x3⟩:=mM (a:=a) hr hT k1
    simp only [show (a.kind==1)=true by simp [k1],if_true]
    rw [x1,x2]
    exact ⟨_,rfl,rfl,x3⟩
   ·simp only [show (a.kind==1)=false by simpa using k1,Bool.false_eq_true,if_false]
    by_cases k2:a.kind=2
    ·obtain ⟨r,u,x1,x2,x5,x6,x3,x4⟩:=mX hr.tab a.id a.ttl
     simp only [show (a.kind==2)=true by simp [k2],if_true]
     rw [x1,x2]
     obtain ⟨x,y1,y2,y3⟩:=eE hr hT a r u x5 x6 x3 x4 (fun hf=>by
      obtain ⟨r',e',t'⟩:=mY hT a.id a.ttl (hf.2.1 k2)
      rw [x1] at e'; cases e'; exact t')
     simp only [Option.bind_some,y1,y2]
     exact ⟨_,rfl,rfl,y3⟩
    ·simp only [show (a.kind==2)=false by simpa using k2,Bool.false_eq_true,if_false]
     by_cases k3:a.kind=3
     ·obtain ⟨r,u,x1,x2,x5,x6,x3,x4⟩:=jY hr.tab a.id
      simp only [show (a.kind==3)=true by simp [k3],if_true]
      rw [x1,x2]
      obtain ⟨x,y1,y2,y3⟩:=eE hr hT a r u x5 x6 x3 x4 (fun hf=>by
       obtain ⟨r',e',t'⟩:=nA hT a.id
       rw [x1] at e'; cases e'; exact t')
      simp only [Option.bind_some,y1,y2]
      exact ⟨_,rfl,rfl,y3⟩
     ·simp only [show (a.kind==3)=false by simpa using k3,Bool.false_eq_true,if_false]
      by_cases k4:a.kind=4
      ·have hc:a.clock≤9223372036854775807:=hc'.resolve_right (fun h=>h k4)
       have hv:v.An=false:=by
        cases hv:v.An
        ·rfl
        ·exact absurd ⟨hv,by omega⟩ hs
       simp only [show (a.kind==4)=true by simp [k4],if_true]
       rw [sA a hr hT hc]
       obtain ⟨s,e1,_⟩:=g81_eq v.Ac a.clock hr.tab (by omega)
       have hT2:Fq (Wz v.Ac a.clock):=bN hT a.clock hc
       have hr2:Du (Oe v a):=Rd hr hT2.1 rfl (bM _ _) _
       refine ⟨eD v a,?_,rfl,sB a hr hT hc⟩
       simp only [e1,Option.bind_some]
       unfold eD
       by_cases h1:a.stop=1
       ·rw [if_pos (by simp [h1]),if_pos h1]
        rw [show eZ (Ap.mk (Ar.mk (Cw v.Ac a.clock) v.Ac.next (v.Ac.Ae.map (Hj (Cw v.Ac a.clock)))) v.Ab v.Ah v.An)=_ from Pz (Oe v a) (by have:=hr2.t; omega) (by have:=hr2.i40; omega) (by have:=hr2.a; omega)]
        rfl
       ·rw [if_neg (by simpa using h1),if_neg h1]
        obtain ⟨s1,_,s3,s4,s5,s6,s7⟩:=Sp a hr2 hT2
        rw [show lL (Ap.mk (Ar.mk (Cw v.Ac a.clock) v.Ac.next (v.Ac.Ae.map (Hj (Cw v.Ac a.clock)))) v.Ab v.Ah v.An) a=_ from s1]
        simp only [Option.bind_some,hv,Bool.not_false]
        cases hb:(Fp (Oe v a) a).2
        ·rw [s7 hb,show (Oe v a).An=false from hv]
         simp only [cond_false,Bool.false_eq_true,if_false,Hn]
         rw [if_neg (by simp)]
         have e2:(Fp (Oe v a) a).1.An=false:=(s7 hb).trans hv
         rw [←e2]
        ·rw [s6 hb]
         simp
      ·simp only [show (a.kind==4)=false by simpa using k4,Bool.false_eq_true,if_false]
       by_cases k5:a.kind=5
       ·rw [if_pos (by simp [k5])]
        simp only [Hn]
        rw [if_neg (by simp)]
        have:(a.kind==5)=true:=by simp [k5]
        rw [this]
        exact ⟨_,rfl,rfl,fin true⟩
       ·have k6:a.kind=6:=by omega
        rw [if_neg (by simpa using k5),if_pos (by simp [k6])]
        simp only [Hn]
        rw [if_neg (by simp)]
        have:(a.kind==5)=false:=by simpa using k5
        rw [this]
        exact ⟨_,rfl,rfl,fin false⟩
 ·rw [decide_eq_false hk]
  simp only [Bool.not_false,if_true]
  exact ⟨_,rfl,rfl,Rb hr hT a _ _⟩
theorem rX {v:Ap} (hr:Du v) (hT:Fq v.Ac) (a:Bc) (hc:a.clock≤9223372036854775807):∃r,BY v a=some r∧CO v a=some r∧Wd v a r:=nE hr hT a (.inl hc)
end Go.Ev
end
section
set_option maxHeartbeats 1000000
namespace Go.Ev
end Go.Ev
end
section
set_option maxHeartbeats 1000000
namespace Go.Ev
theorem mK (a:Bc) (hl:a.Bu.length≤1048576):∃b,AcI a=some b∧Adz a=some b:=by
 have e1:∀x,oS x 0 2=some (decide (0≤x)&&decide (x≤2)):=fun x=>by simp only [oS]; congr 1; cases h1:decide (0≤x)<;>simp_all
 have e2:∀x,rD x 0 2=some (decide (0≤x)&&decide (x≤2)):=fun x=>by simp only [rD]; congr 1; cases h1:decide (0≤x)<;>simp_all
 have hs:(Ca (Tc a) 0).bind (fun r=>match r with | .inl ()=>some true | .inr q=>some q)=some (a.Bu.all fun x=>decide (0≤x)&&decide (x≤2)):=by
  rw [←rQ]
  refine sY (fun k=>(fun x:Int=>decide (0≤x)&&decide (x≤2)) (a.Bu[k]?.getD default)) (fun k hk _=>?_) ?_
  ·simp only [Tc]
   rw [if_pos (decide_eq_true (by omega)),Cb hk]
   simp only [Option.bind_some,e1,w1 (show k<4611686018427387904 by omega),List.getElem?_eq_getElem hk,Option.getD_some]
  ·simp only [Tc]
   rw [if_neg (by simp)]
 have hi:=CY a.Bu (fun z=>g88 z) (fun x=>decide (0≤x)&&decide (x≤2)) (fun x _=>by simp only [g88,e2,Option.bind_some]) (by omega)
 simp only [AcI,Adz,g87,Option.bind_some,hi,e1,e2,hs]
 by_cases h:a.Bu.length≤4096
 ·rw [decide_eq_false (show ¬(a.Bu.length:Int)>4096 by omega),decide_eq_true (show (a.Bu.length:Int)≤4096 by omega)]
  simp only [beq_self_eq_true,if_true,Option.bind_some,cond_false,cond_true]
  cases hst:(decide (0≤a.stop)&&decide (a.stop≤2))
  ·simp
  ·simp only [Bool.not_true,Bool.false_eq_true,if_false]
   refine ⟨_,hs,?_⟩
   cases (a.Bu.all fun x=>decide (0≤x)&&decide (x≤2))<;>simp
 ·rw [decide_eq_true (show (a.Bu.length:Int)>4096 by omega),decide_eq_false (show ¬(a.Bu.length:Int)≤4096 by omega)]
  exact ⟨false,rfl,rfl⟩
theorem bJ (v:Ap) (a:Bc) (o:Pt v) (h1:v.Ac.Ae.length≤1048576) (h2:v.Ab.length≤1048576) (h3:v.Ah.length≤1048576) (hc:a.clock≤9223372036854775807) (hf:a.Bu.length≤1048576):
  ∃r,Adv v a=some r∧CN v a=some r∧r.1.Ac.Ae.length≤1048576∧r.1.Ab.length≤1048576∧r.1.Ah.length≤1048576:=by
 have hn:I64 v.Ac.next:=o.1.2.1
 have bad:∀b:Bool,b=false→∃r,(some ((Ap.mk (Ar.mk 0 0 ([]:List Aa)) ([]:List Aj) ([]:List Int) false),(Aw.mk 0 0),(1:Int)))=some r∧(some ((Ap.mk (Ar.mk 0 0 ([]:List Aa)) ([]:List Aj) ([]:List Int) false),(Aw.mk 0 0),(1:Int)))=some r∧r.1.Ac.Ae.length≤1048576∧r.1.Ab.length≤1048576∧r.1.Ah.length≤1048576:=
  fun _ _=>⟨_,rfl,rfl,by simp,by simp,by simp⟩
 simp only [Adv,CN,nC v h1 h2 h3 hn,mI v h1 h2 h3 hn,Option.bind_some]
 by_cases hv:Mv v
 ·obtain ⟨b,b1,b2⟩:=mK a hf
  rw [Eu hv,b1,b2]
  simp only [Bool.not_true,beq_self_eq_true,if_true,Option.bind_some,cond_false]
  cases b
  ·exact bad false rfl
  ·have hT:Fq v.Ac:=⟨hv.1,o.1.1.2,fun x hx=>(o.1.2.2.2 x hx).2.2.1.2⟩
   obtain ⟨r,r1,r2,_,r3,_⟩:=rX (EF hv) hT a hc
   simp only [Bool.not_true,Bool.false_eq_true,if_false,r1,r2,Option.bind_some,Qh r3.1 r3.2.1 r3.2.2]
   exact ⟨_,rfl,rfl,r3⟩
 ·rw [De hv]
  exact bad false rfl
theorem rZ (v:Ap) (o:Pt v):∃r,g45 v 1048576=some r∧(0≤r→v.Ac.Ae.length≤1048576∧v.Ab.length≤1048576∧v.Ah.length≤1048576∧r≤1048576):=by
 have hl:=o.1.2.2.1
 have hi:=o.2.1.1
 have ha:=o.2.2.1.1
 obtain ⟨r1,e1,e2⟩:=g17_eq v.Ac 1048576 (by omega) hl
 simp only [g45,e1,Option.bind_some]
 by_cases n1:r1<0
 ·rw [if_pos (decide_eq_true n1)]; exact ⟨_,rfl,fun h=>by omega⟩
 ·rw [if_neg (by simpa using n1)]
  obtain ⟨b1,b2⟩:=e2.1 (by omega)
  have hw:IntKind.i64.wrap (r1-(v.Ab.length:Int))=r1-(v.Ab.length:Int):=wr ⟨by omega,by omega⟩
  simp only [g90,hw]
  by_cases n2:r1-(v.Ab.length:Int)<0
  ·rw [if_pos (decide_eq_true n2)]
   simp only [Option.bind_some]
   rw [if_pos (by decide)]
   exact ⟨_,rfl,fun h=>by omega⟩
  ·rw [if_neg (by simpa using n2)]
   simp only [Option.bind_some]
   rw [if_neg (by simpa using n2)]
   have hw2:IntKind.i64.wrap (r1-(v.Ab.length:Int)-(v.Ah.length:Int))=r1-(v.Ab.length:Int)-(v.Ah.length:Int):=wr ⟨by omega,by omega⟩
   simp only [g91,hw2]
   by_cases n3:r1-(v.Ab.length:Int)-(v.Ah.length:Int)<0
   ·rw [if_pos (decide_eq_true n3)]
    simp only [Option.bind_some]
    rw [if_pos (by decide)]
    exact ⟨_,rfl,fun h=>by omega⟩
   ·rw [if_neg (by simpa using n3)]
    simp only [Option.bind_some]
    rw [if_neg (by simpa using n3)]
    exact ⟨_,rfl,fun _=>⟨by omega,by omega,by omega,by omega⟩⟩
theorem sz_act (a:Bc) (o:Lq a) (n:Int) (hn:0≤n∧n≤1048576):∃r,Adw a n=some r∧(0≤r→a.Bu.length≤1048576):=by
 have ha:=o.2.2.2.2.2.1.1
 have hw:IntKind.i64.wrap (n-(a.Bu.length:Int))=n-(a.Bu.length:Int):=wr ⟨by omega,by omega⟩
 simp only [Adw,g91,hw]
 split
 ·simp only [Option.bind_some]
  exact ⟨_,rfl,fun h=>by omega⟩
 ·rename_i h
  simp only [Option.bind_some]
  rw [if_neg h]
  simp only [decide_eq_true_eq] at h
  exact ⟨_,rfl,fun _=>by omega⟩
theorem BQ (r:Aw):rC r r=some true:=by simp [rC]
theorem CM (v:Ap) (a:Bc) (o:Pt v) (oa:Lq a):g437 v a=some true:=by
 obtain ⟨r,e1,e2⟩:=rZ v o
 unfold g437
 rw [e1,Option.bind_some]
 by_cases hr:r<0
 ·rw [if_pos (decide_eq_true hr)]
 ·rw [if_neg (by simpa using hr)]
  obtain ⟨h1,h2,h3,h4⟩:=e2 (by omega)
  obtain ⟨s,f1,f2⟩:=sz_act a oa r ⟨by omega,h4⟩
  rw [f1,Option.bind_some]
  by_cases hs:s<0
  ·rw [if_pos (decide_eq_true hs)]
  ·rw [if_neg (by simpa using hs)]
   have hf:=f2 (by omega)
   have ta:mB a=some a:=by simp only [mB,oV a.Bu hf,Option.bind_some]
   have ea:Adx a a=some true:=by simp [Adx,dH a.Bu hf]
   obtain ⟨q,q1,q2,q3,q4,q5⟩:=bJ v a o h1 h2 h3 oa.2.2.2.2.1.2 hf
   obtain ⟨n,x,y,z,m1,m2,m3,m4,m5,m6⟩:=bP v h1 h2 h3
   obtain ⟨n',x',y',z',m1',m2',m3',m4',m5',m6'⟩:=bP q.1 q3 q4 q5
   have hn:n≤1099511627776:=by
    have e:=show iY v 1=some (1+4*(v.Ac.Ae.length:Int)+2*(v.Ab.length:Int)+(v.Ah.length:Int),Hk v.Ac.Ae.length 1,Ey Ku 2 v.Ab (1+4*(v.Ac.Ae.length:Int)),Ey (fun c _=>c) 1 v.Ah (1+4*(v.Ac.Ae.length:Int)+2*(v.Ab.length:Int))) by
     simp only [iY,CL v.Ac h1,Option.bind_some,Kf,if_true,DH v.Ab (1+4*(v.Ac.Ae.length:Int)) (by omega) h2,marked_len,Vp v.Ah (1+4*(v.Ac.Ae.length:Int)+2*(v.Ab.length:Int)) (by omega) h3]
    rw [m1] at e
    have:=congrArg Prod.fst (Option.some.inj e)
    simp only at this
    omega
   have hfm:Ady a n=some (n+(a.Bu.length:Int),Ey (fun c _=>c) 1 a.Bu n):=by
    simp only [Ady,Vp a.Bu n ⟨m2,hn⟩ hf,Option.bind_some,marked_len,if_true]
   have n1:¬n'<0:=by omega
   have n2:¬n+(a.Bu.length:Int)<0:=by omega
   have n3:0≤n+(a.Bu.length:Int):=by omega
   simp [FH v h1 h2 h3,ta,ea,q1,q2,iU q.1 q3 q4 q5,iU v h1 h2 h3,BQ,m1,m3,m4,m5,m1',m3',m4',m5',m6',hfm,n1,n2,n3,Bx]
end Go.Ev
end
