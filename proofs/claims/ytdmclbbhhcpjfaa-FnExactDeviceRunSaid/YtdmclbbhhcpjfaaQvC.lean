/- The way from a function of the model to the small machine's instructions. -/
import Derived.Test.YtdmclbbhhcpjfaaQvA
import GoSem.Dispatch
import Derived.Laws.Sem
import Derived.Orders
set_option linter.all false
namespace Go.Ev
theorem Zy (c:Nat):Jk (Fd+c)=c:=by
 unfold Jk
 rw [if_neg (by omega)]; omega
theorem Sb {c:Int} (h:c<Fd):Jk c=c:=if_pos h
inductive Wg where
 | t (n:Nat)
 | cell (a n:Nat) (ag:Bool)
structure Er where
 np:Nat
 nt:Nat
 res:List Wg
 body:IR
section
variable (P:Program) (φ:List (Nat×Nat))
def Eh (t:TypeId):Option Bool:=
 match P.underlying t with
 | some (.struct _) | some (.array _ _)=>some true
 | some _=>some false
 | none=>none
def Hj (t:TypeId):Option (Nat×Nat):=
 match P.underlying t with
 | some (.slice e)=>match P.info? e with
  | some i=>some (i.size,i.bytes)
  | none=>none
 | _=>none
def Pw:Nat→TypeId→List TypeId
 | 0,t=>[t]
 | n+1,t=>match P.underlying t with
  | some (.struct fs)=>fs.toList.flatMap fun f=>Pw n f.type
  | some (.array k e)=>(List.replicate k (Pw n e)).flatten
  | _=>[t]
def Lh (own:Option Nat) (t:TypeId) (v:Value) (k:Nat):V:=
 match v with
 | .int q n=>.int q n
 | .bool b=>.bool b
 | .string s=>.str s.data.toList
 | .slice none 0 0=>match Hj P t with
  | some (sz,_)=>match own with
   | some d=>.own (64*d+1+k) 0 sz []
   | none=>.lst sz []
  | none=>.undef
 | _=>.undef
def zeroCells (own:Option Nat):List TypeId→List Value→Nat→Option (List V)
 | [],[],_=>some []
 | t::ts,v::vs,k=>match zeroCells own ts vs (k+1) with
  | some r=>some (Lh P own t v k::r)
  | none=>none
 | _,_,_=>none
def Ci (own:Option Nat) (t:TypeId):Option (List V):=
 match P.info? t with
 | some i=>match i.zero with
  | some z=>if z.cells.toList.all Value.oneCell' then zeroCells P own (Pw P 12 t) z.cells.toList 0 else none
  | none=>none
 | none=>none
def fH (t:TypeId):Option (Nat×Nat):=
 match P.underlying t with
 | some (.slice e)=>match P.info? e,Ci P none e with
  | some i,some z=>if z.length=i.size then some (i.size,i.bytes) else none
  | _,_=>none
 | _=>none
def Xx (s:TypeId):Option (List V):=
 match P.underlying s with
 | some (.slice e)=>Ci P none e
 | _=>none
def Uo (t:TypeId):Operand→Option As
 | .tmp n=>some (.t n)
 | .const (.int k n)=>some (.c (.int k n))
 | .const (.bool b)=>some (.c (.bool b))
 | .const (.string s)=>some (.c (.str s.data.toList))
 | .const (.slice none 0 0)=>match Hj P t with
  | some (sz,_)=>some (.c (.lst sz []))
  | none=>none
 | .func f=>match look φ f with
  | some g=>some (.c (.clo g []))
  | none=>none
 | .const _=>some (.c .undef)
 | _=>none
def opd':Operand→Option As
 | .tmp n=>some (.t n)
 | .const (.int k n)=>some (.c (.int k n))
 | .const (.bool b)=>some (.c (.bool b))
 | .const (.string s)=>some (.c (.str s.data.toList))
 | .func f=>match look φ f with
  | some g=>some (.c (.clo g []))
  | none=>none
 | .const _=>some (.c .undef)
 | _=>none
def opds (f:Operand→Option As):List Operand→Option (List As)
 | []=>some []
 | x::r=>match f x,opds f r with
  | some y,some s=>some (y::s)
  | _,_=>none
abbrev OG:Nat:=1048543
def HT (t:TypeId) (x:Operand):Option As:=
 match Uo P φ t x with
 | some (.c (.lst sz []))=>some (.c (.own OG 0 sz []))
 | y=>y
def Is:List TypeId→List Operand→Option (List As)
 | [],[]=>some []
 | t::ts,x::r=>match HT P φ t x,Is ts r with
  | some y,some s=>some (y::s)
  | _,_=>none
 | _,_=>none
def Lb:Option Operand→Option (Option As)
 | none=>some none
 | some x=>match opd' φ x with
  | some y=>some (some y)
  | none=>none
def aB (fs:List Field):Option (List (Nat×Nat)):=fs.mapM fun f=>(P.info? f.type).map fun i=>(f.offset,i.size)
def Pr (fs:List Field) (pl:List (Nat×Nat)):List (Nat×Operand)→Option (List (Nat×Nat×As))
 | []=>some []
 | (i,x)::r=>match fs[i]?,pl[i]? with
  | some f,some (off,size)=>match Uo P φ f.type x,Pr fs pl r with
   | some y,some s=>some ((off,size,y)::s)
   | _,_=>none
  | _,_=>none
def Ps (e:TypeId):List (Nat×Operand)→Option (List (Nat×As))
 | []=>some []
 | (i,x)::r=>match Uo P φ e x,Ps e r with
  | some y,some s=>some ((i,y)::s)
  | _,_=>none
def Lx:List Field→Nat→Option (List Nat)
 | [],_=>some []
 | f :: r, k => if (f.name == "_") = true ∨ f.offset ≠ k then none else match P.underlying f.type, Lx r (k + 1) with
  | some (.int _),some ks=>some (0::ks)
  | some .bool,some ks=>some (1::ks)
  | some .string,some ks=>some (2::ks)
  | _,_=>none
def Rx (t:TypeId):Option (List Nat):=
 match P.underlying t with
 | some (.struct fs)=>if P.stoodInHeld t=true∨P.eqGuardType P.depth t=true then none else Lx P fs.toList 0
 | _=>none
def Kt (fn : Func) : Bool := fn.body.isNone && fn.name == "internal/bytealg.IndexByteString" && fn.origin == ""
def Tg (fn : Func) : Bool := fn.body.isNone && fn.name == "internal/bytealg.abigen_runtime_cmpstring" && fn.origin == ""
def Mz (fn : Func) : Bool := fn.body.isNone && fn.origin == "slices.overlaps" && (fn.name == "slices.overlaps[int]" || fn.name == "slices.overlaps[loop.example/g00149/impl.Pair]") &&
 match fn.params.toList,fn.resultTypes.toList with
 | [t,t'],[_]=>t==t'&&(Hj P t).isSome
 | _,_=>false
def Xt (c:Call) (ty:TypeId):Option Wj:=
 match c.callee with
 | .value (.func f)=>match look φ f,Is P φ c.argTypes.toList c.args.toList with
  | some g,some xs=>some (.call g xs)
  | none,some [x,y]=>match P.funcs[f]? with
   | some fn=>if Kt fn then some (.p (.xbyte x y)) else if Mz P fn then some (.p (.ovl x y)) else if Tg fn then some (.p (.scmp x y)) else none
   | none=>none
  | _,_=>none
 | .value (.tmp t)=>match Is P φ c.argTypes.toList c.args.toList with
  | some xs=>some (.callv (.t t) xs)
  | none=>none
 | .builtin .len=>match c.argTypes.toList,c.args.toList with
  | [t],[x]=>match P.underlying t,opd' φ x with
   | some (.slice _),some y=>some (.p (.len y))
   | some .string,some y=>some (.p (.lenS y))
   | _,_=>none
  | _,_=>none
 | .builtin .cap=>match c.argTypes.toList,c.args.toList with
  | [t],[x]=>match P.underlying t,opd' φ x with
   | some (.slice _),some y=>some (.cap y)
   | _,_=>none
  | _,_=>none
 | .builtin .min=>match opds (opd' φ) c.args.toList with
  | some [x,y]=>some (.p (.mn x y))
  | _=>none
 | .builtin .max=>match opds (opd' φ) c.args.toList with
  | some [x,y]=>some (.p (.mx x y))
  | _=>none
 | .builtin .append=>match c.argTypes.toList,c.args.toList with
  | [s,t],[x,y]=>match fH P s,Uo P φ s x,Uo P φ t y with
   | some (sz,by_),some x,some y=>match P.underlying t with
    | some (.slice _) | some .string=>if sz=0∨by_=0 then none else some (.app sz by_ x y)
    | some (.int _)=>match Xx P s with
     | some z=>if sz=0∨by_=0 then none else some (.appz sz by_ z x y)
     | none=>none
    | _=>none
   | _,_,_=>none
  | _,_=>none
 | .builtin .copy=>match c.argTypes.toList,c.args.toList with
  | [s,t],[x,y]=>match Hj P s,opd' φ x,Uo P φ t y with
   | some (sz,_),some x,some y=>if sz=0 then none else some (.copy sz x y)
   | _,_,_=>none
  | _,_=>none
 | .builtin .clear=>match c.argTypes.toList,c.args.toList with
  | [s],[x]=>match P.underlying s,opd' φ x with
   | some (.slice e),some y=>match Ci P none e,P.info? e with
    | some z,some i=>if i.size=0∨z.length≠i.size then none else some (.clear i.size z y)
    | _,_=>none
   | _,_=>none
  | _,_=>none
 | _=>let _:=ty; none
def Ow (t:TypeId):Bool:=
 match P.underlying t with
 | some (.map k e)=>match P.underlying k,P.underlying e,(P.info? e).bind (·.zero) with
  | some (.int .i64),some .bool,some (.bool false)=>true
  | _,_,_=>false
 | _=>false
def Ig (o:Oper):Option Wj:=
 match o.op with
 | .makeMap t r=>match r with
  | none=>if Ow P t then some .mkM else none
  | some _=>none
 | .mapUpdate t m k v=>match opd' φ m,opd' φ k,opd' φ v with
  | some x,some y,some z=>if Ow P t then some (.mset x y z) else none
  | _,_,_=>none
 | .lookup t x i ok=>match ok with
  | false=>match opd' φ x,opd' φ i with
   | some x,some y=>if Ow P t then some (.p (.mget x y)) else none
   | _,_=>none
  | true=>none
 | .move x | .assign x=>match x with
  | .const (.slice none 0 0)=>match Hj P o.type with
   | some (sz,_)=>some (.nilS sz)
   | none=>none
  | x=>match opd' φ x with
   | some y=>some (.p (.mv y))
   | none=>none
 | .pick c a b=>match opd' φ c,opd' φ a,opd' φ b with
  | some c,some a,some b=>some (.pick c a b)
  | _,_,_=>none
 | .alloc t=>match Ci P o.dst t with
  | some z=>some (.alloc z)
  | none=>none
 | .box t x=>match Uo P φ t x with
  | some y=>some (.box y)
  | none=>none
 | .build t parts=>match P.underlying t,Ci P o.dst t with
  | some (.struct fs),some z=>match aB P fs.toList with
   | some pl=>match Pr P φ fs.toList pl parts.toList with
    | some ps=>some (.p (.build z ps))
    | none=>none
   | none=>none
  | _,_=>none
 | .buildSlice t n parts=>match P.underlying t with
  | some (.slice e)=>match Ci P none e,P.info? e,Ps P φ e parts.toList with
   | some z,some i,some ps=>if n*i.size>2^24∨i.size=0∨z.length≠i.size then none else some (.mkS i.size z n ps)
   | _,_,_=>none
  | _=>none
 | .load t x=>match opd' φ x,P.info? t,Eh P t with
  | some y,some i,some ag=>if i.size=0 then none else some (.p (.load y i.size ag))
  | _,_,_=>none
 | .store t x v=>match opd' φ x,Uo P φ t v,P.info? t with
  | some x,some v,some i=>some (.store x v i.size)
  | _,_,_=>none
 | .nilCheck x=>match opd' φ x with
  | some y=>some (.p (.nilc y))
  | none=>none
 | .binOp op t x y _=>match opd' φ x,opd' φ y with
  | some a,some b=>match P.underlying t with
   | some (.int _) | some .string=>some (.p (.bin op a b))
   | some .bool=>some (.p (.binB op a b))
   | some (.slice _)=>match y with
    | .const (.slice none 0 0)=>match op with
     | .eql=>some (.isnil a false)
     | .neq=>some (.isnil a true)
     | _=>none
    | _=>none
   | some (.struct _)=>match op with
    | .eql=>match Rx P t with
     | some ks=>some (.p (.eqs false ks a b))
     | none=>none
    | .neq=>match Rx P t with
     | some ks=>some (.p (.eqs true ks a b))
     | none=>none
    | _=>none
   | _=>none
  | _,_=>none
 | .unOp op _ x=>match opd' φ x with
  | some y=>some (.p (.un op y))
  | none=>none
 | .convert s d x=>match opd' φ x,P.underlying s,P.underlying d with
  | some y,some (.int _),some (.int k)=>some (.p (.conv k y))
  | some y,some (.int _),some .string=>some (.p (.chr y))
  | some y,some .string,some .string=>some (.p (.strc y))
  | some y,some .string,some (.slice e)=>match P.underlying e with
   | some (.int .u8)=>some (.toBytes y)
   | _=>none
  | some y,some (.slice e),some .string=>match P.underlying e with
   | some (.int .u8)=>some (.p (.toStr y))
   | _=>none
  | _,_,_=>none
 | .makeFunc fn first caps=>match fn with
  | .func f=>if first.isEmpty then match look φ f,opds (opd' φ) caps.toList with
    | some g,some xs=>some (.p (.fn g xs))
    | _,_=>none
   else none
  | _=>none
 | .makeSlice t l c=>match P.underlying t with
  | some (.slice e)=>match Ci P none e,P.info? e,opd' φ l,opd' φ c with
   | some z,some i,some l,some c=>if i.size=0∨i.bytes=0∨z.length≠i.size then none else some (.make i.size i.bytes z l c)
   | _,_,_,_=>none
  | _=>none
 | .slice t x lo hi mx=>match mx with
  | none=>match opd' φ x,Lb φ lo,Lb φ hi with
   | some x,some lo,some hi=>match P.underlying t with
    | some .string=>some (.p (.sliceStr x lo hi))
    | some (.slice e)=>match P.info? e with
     | some i=>if i.size=0 then none else some (.p (.slice x lo hi i.size))
     | none=>none
    | _=>none
   | _,_,_=>none
  | some mx=>match lo,hi with
   | some lo,some hi=>match opd' φ x,opd' φ lo,opd' φ hi,opd' φ mx with
    | some x,some lo,some hi,some mx=>match P.underlying t with
     | some (.slice e)=>match P.info? e with
      | some _=>some (.chk3 x lo hi mx)
      | none=>none
     | _=>none
    | _,_,_,_=>none
   | _,_=>none
 | .fieldAddr t x f=>match P.underlying t,opd' φ x with
  | some (.struct fs),some y=>match fs[f]? with
   | some f=>match P.info? f.type with
    | some i=>if i.size=0 then none else some (.p (.fieldA y f.offset))
    | none=>none
   | none=>none
  | _,_=>none
 | .field t x f=>match P.underlying t,opd' φ x with
  | some (.struct fs),some y=>match fs[f]? with
   | some f=>match P.info? f.type,Eh P f.type with
    | some i,some ag=>if i.size=0 then none else some (.p (.field y f.offset i.size ag))
    | _,_=>none
   | none=>none
  | _,_=>none
 | .indexAddr t x i=>match opd' φ x,opd' φ i with
  | some x,some i=>match P.underlying t with
   | some (.slice e)=>match P.info? e with
    | some inf=>if inf.size=0 then none else some (.p (.idxA x i inf.size))
    | none=>none
   | some (.array n e)=>match P.info? e with
    | some inf=>if inf.size=0 then none else some (.p (.idxArr x i n inf.size))
    | none=>none
   | _=>none
  | _,_=>none
 | .index t x i=>match opd' φ x,opd' φ i with
  | some x,some i=>match P.underlying t with
   | some .string=>some (.p (.idxStr x i))
   | _=>none
  | _,_=>none
 | .extract x i=>match opd' φ x with
  | some y=>some (.p (.ext y i))
  | none=>none
 | .call c=>Xt P φ c o.type
 | _=>none
def Pb (nt:Nat):Option Nat→Bool
 | some d=>decide (d≥nt)
 | none=>false
def Rm (nt:Nat) (ops:Array Oper) (o:Oper):Bg:=
 if Pb nt o.dst=true then { dst:=none,op:=.bad,g:=none } else
 match o.guard with
 | none=>{ dst:=o.dst,op:=(Ig P φ o).getD .bad,g:=none }
 | some (g,want)=>match (ops[g]?).bind (·.dst) with
  | some s=>{ dst:=o.dst,op:=(Ig P φ o).getD .bad,g:=some (s,want) }
  | none=>{ dst:=o.dst,op:=.bad,g:=none }
def Nr (nt:Nat) (ops:Array Oper):List Oper→List Bg
 | []=>[]
 | o::r=>Rm P φ nt ops o::Nr nt ops r
def Mx (o:Oper):List Nat:=(o.after.toList.filter (Region.binds .any)).map (·.on)
def IY (r:List Nat):List Nat→List Nat
 | []=>r
 | x::l=>IY (if r.contains x then r else x::r) l
def Zi:List Oper→List (List Nat)→List (List Nat)
 | [],acc=>acc
 | o::r,acc=>Zi r (acc++[(Mx o).foldl (fun z d=>IY z (d::acc.getD d [])) []])
def Wj.opds:Wj→List As
 | .p o=>o.opds
 | .pick c a b=>[c,a,b]
 | _=>[]
def Dz (i:Bg):List Nat:=
 (i.op.opds.filterMap fun | .t n=>some n | _=>none)++(match i.g with | some (g,_)=>[g] | none=>[])
def Fk (i:Bg):Bool:=
 match i.op with
 | .p _ | .pick .. => true
 | _=>false
structure Be where
 o:Oper
 ins:Bg
 dep:List Nat
 anc:List Nat
def Kk (nt:Nat) (ops:Array Oper):List Oper→List (List Nat)→List Be
 | o::r,a::s=>{ o:=o,ins:=Rm P φ nt ops o,dep:=Mx o,anc:=a }::Kk nt ops r s
 | _,_=>[]
def cK (ops:Array Oper) (j:Nat) (x:Be):Nat→List Be→Bool
 | _,[]=>true
 | i,y::r=>(decide (i=j) || (y.o.dst != x.o.dst&&(match x.o.dst with
   | some d => !((y.o.looksAt ops).contains d || (Dz y.ins).contains d) || y.anc.contains j
   | none=>false)))&&cK ops j x (i+1) r
def Rt (ops:Array Oper) (I:List Be) (j:Nat) (x:Be):Bool:=
 Fk x.ins&&(match x.o.dst with
  | some d=>x.ins.dst==some d && !((x.o.looksAt ops).contains d || (Dz x.ins).contains d)
  | none=>false)&&cK ops j x 0 I
def Ve (I:List Be):Nat→List Be→Bool
 | _,[]=>true
 | i,x::r=>x.dep.all (fun d=>decide (d<i))&&x.anc.all (fun y=>x.dep.contains y || x.dep.any fun d=>((I[d]?).map (·.anc.contains y)).getD false)&&Ve I (i+1) r
def aE (D:List Nat) (j:Nat) (x:Be):Bool := !D.contains j&&x.dep.all (D.contains ·)
def Dh (D:List Nat):Nat→List Be→List (Nat×Be)
 | _,[]=>[]
 | j,x::r=>if aE D j x then (j,x)::Dh D (j+1) r else Dh D (j+1) r
def Fv (f:Nat→Be→Bool):List (Nat×Be)→Option (Nat×Be)
 | []=>none
 | (j,x)::r=>if f j x then some (j,x) else Fv f r
def Vq (I:List Be) (j:Nat):Bg:=match I[j]? with
 | some x=>x.ins
 | none=>{ dst:=none,op:=.bad,g:=none }
def Zg (held:Be→List Bg) (f:Nat→Be→DP):List (Nat×Be)→DP
 | []=>.stop
 | (j,x)::r=>.alt (held x) x.ins (f j x) (Zg held f r)
def Qy (x:Be) (E:List Nat):List Nat:=E.filter fun j => !x.anc.contains j
def Jq (ops:Array Oper) (I:List Be):Nat→List Nat→List Nat→DP
 | 0,_,_=>.dead
 | n+1,D,E=>match Fv (Rt ops I) (Dh D 0 I) with
  | some (j,x)=>.take x.ins (Jq ops I n (j::D) (j::E))
  | none=>match Dh D 0 I with
   | []=>.fin
   | rs=>Zg (fun x=>(Qy x E).map (Vq I)) (fun j x=>Jq ops I n (j::D) (Qy x E)) rs
def jA (nt:Nat) (ops:Array Oper):DP:=
 let I:=Kk P φ nt ops ops.toList (Zi ops.toList [])
 if P.follows .mixedOrders&&Ve I 0 I&&Region.noSelect ops&&I.length==ops.size then Jq ops I (ops.size+1) [] [] else .dead
def Kg (nt:Nat):Code→IR
 | .skip=>.skip
 | .region _ ops false=>.reg (Nr P φ nt ops ops.toList)
 | .region _ ops true=>.draw (jA P φ nt ops)
 | .seq a b=>.seq (Kg nt a) (Kg nt b)
 | .cond c a b=>match c with
  | .tmp t=>.ite (.t t) (Kg nt a) (Kg nt b)
  | .const (.bool b')=>.ite (.c (.bool b')) (Kg nt a) (Kg nt b)
  | _=>.bad
 | .block id a=>.block id (Kg nt a)
 | .loop a=>.loop (Kg nt a)
 | .exit id=>.exit id
 | .ret=>.ret
 | _=>.bad
def Mf:List ResultVar→Option (List Wg)
 | []=>some []
 | .tmp t::r=>match Mf r with
  | some s=>some (.t t::s)
  | none=>none
 | .cell a t::r=>match P.info? t,Eh P t,Mf r with
  | some i,some ag,some s=>if i.size=0 then none else some (.cell a i.size ag::s)
  | _,_,_=>none
def Lk (f:Func):Option Er:=
 match f.body,Mf P f.results.toList with
 | some c, some rs => if f.ntmps > 16000 || f.name == "runtime.NumGoroutine" then none else some { np := f.params.size + f.nfree, nt := f.ntmps, res := rs, body := Kg P φ f.ntmps c }
 | _,_=>none
end
end Go.Ev
