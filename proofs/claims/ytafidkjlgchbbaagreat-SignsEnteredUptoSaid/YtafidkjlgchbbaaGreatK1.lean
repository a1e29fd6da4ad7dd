/-
  The symbolic runner: definitions only. Typed data, symbolic values, local objects, one operation, a region, a body.
  What it yields is a proposition; X2.. prove that it is sound.
-/
import GoSem.Core.View
import GoSem.Core.Region
import Derived.Laws.AppendOwn
import Derived.Below
import Derived.Deep.LoopGhost
import Derived.Laws.BitsLemmas
import Derived.Laws.CopyRow
import Derived.Laws.AppendOwnNone
namespace Go.X

/-! ### Typed data -/

inductive Ty where
  | int | bool | uint (k : IntKind) | slice (t : Ty) | unit | pair (a b : Ty) | map (k v : Ty)
  deriving DecidableEq

@[reducible] def Ty.Data : Ty → Type
  | .int => Int
  | .bool => Bool
  | .uint _ => Int
  | .slice t => List t.Data
  | .unit => Unit
  | .pair a b => a.Data × b.Data
  | .map k v => List (k.Data × v.Data)

def Ty.size : Ty → Nat
  | .unit => 0
  | .pair a b => a.size + b.size
  | _ => 1

def Ty.agg : Ty → Bool
  | .unit => true
  | .pair _ _ => true
  | _ => false

def Ty.dflt : (t : Ty) → t.Data
  | .int => (0 : Int)
  | .bool => false
  | .uint _ => (0 : Int)
  | .slice _ => []
  | .unit => ()
  | .pair a b => (a.dflt, b.dflt)
  | .map _ _ => []

@[reducible] def Ty.decEq : (t : Ty) → DecidableEq t.Data
  | .int => (inferInstance : DecidableEq Int)
  | .bool => (inferInstance : DecidableEq Bool)
  | .uint _ => (inferInstance : DecidableEq Int)
  | .slice t => @instDecidableEqList _ t.decEq
  | .unit => (inferInstance : DecidableEq Unit)
  | .pair a b => @instDecidableEqProd _ _ a.decEq b.decEq
  | .map k v => @instDecidableEqList _ (@instDecidableEqProd _ _ k.decEq v.decEq)

/-- a struct of these fields -/
@[reducible] def Ty.st : List Ty → Ty
  | [] => .unit
  | t :: ts => .pair t (Ty.st ts)

def castD {a b : Ty} (h : a = b) (d : a.Data) : b.Data := h ▸ d
def cast? (a b : Ty) (d : a.Data) : Option b.Data := if h : a = b then some (castD h d) else none

/-- the part of type 't' that begins 'off' cells behind the head -/
def Ty.sub : (a : Ty) → (off : Nat) → (t : Ty) → a.Data → Option t.Data
  | .pair a b, off, t, d =>
    if off = 0 ∧ Ty.pair a b = t then cast? (.pair a b) t d
    else if off < a.size then a.sub off t d.1 else b.sub (off - a.size) t d.2
  | a, off, t, d => if off = 0 then cast? a t d else none

/-- the same place, written -/
def Ty.put : (a : Ty) → (off : Nat) → (t : Ty) → a.Data → t.Data → Option a.Data
  | .pair a b, off, t, d, x =>
    if off = 0 ∧ Ty.pair a b = t then cast? t (.pair a b) x
    else if off < a.size then (a.put off t d.1 x).map (fun y => (y, d.2)) else (b.put (off - a.size) t d.2 x).map (fun y => (d.1, y))
  | a, off, t, _, x => if off = 0 then cast? t a x else none

def decEqTy (a b : Ty) : Bool := if a = b then true else false

def nth {α : Type} [Inhabited α] (l : List α) (i : Nat) : α := l.getD i default

/-! ### Symbolic values -/

inductive SV where
  | any
  | dat (t : Ty) (d : t.Data)
  | ep (t : Ty) (d : t.Data)
  | bp (o off : Nat)
  | own (o : Nat) (t : Ty)
  | osl (o : Nat) (t : Ty) (lo n : Nat)
  | rp (o : Nat) (t : Ty) (i off : Nat)
  | mp (o : Nat)
  | ip (o : Nat)
  | fn (ps rs : List Ty) (pre : (Ty.st ps).Data → List Prop) (F : (Ty.st ps).Data → (Ty.st rs).Data)
  | fnp (ps rs : List Ty) (pre : (Ty.st ps).Data → List Prop) (F : (Ty.st ps).Data → (Ty.st rs).Data)      -- a pointer to a function value that stays
  | fe (ptr : Bool) (o T : Nat) (st : Ty) (ps rs : List Ty) (pre : (Ty.st ps).Data → List Prop) (K : (Ty.st ps).Data → st.Data → (Ty.st rs).Data × st.Data)
  | clo (f : Nat) (caps : List SV)
  | agg (cs : List SV)
  | tup (vs : List SV)
  | lit (v : Value)

/-- is a slice of the call's own nil where it is empty? -/
inductive Nl where
  | yes | no | unk
  deriving DecidableEq

inductive Ob where
  | box (T : Nat) (fz : Bool) (cs : List SV)
  | row (E : Nat) (t : Ty) (fz : Bool) (nl : Nl) (l : List t.Data)
  | map (fz : Bool) (kt vt : Ty) (l : List (kt.Data × vt.Data))
  | iter (kt vt : Ty) (left : List (kt.Data × vt.Data)) (cur : Option (kt.Data × vt.Data))
  | mape (kt vt : Ty) (l : List (kt.Data × vt.Data)) (k : kt.Data) (s : Int)      -- a map whose entry at a key has been laid, with this stamp, and is not yet written

structure St where
  sl : List (Nat × SV)
  ob : List (Nat × Option Ob)

def look {α : Type} : List (Nat × α) → Nat → Option α
  | [], _ => none
  | (j, x) :: r, k => match Nat.beq j k with | true => some x | false => look r k

def St.get (σ : St) (s : Nat) : SV := match look σ.sl s with | some v => v | none => .any
def St.obj (σ : St) (o : Nat) : Option Ob := match look σ.ob o with | some x => x | none => none

def memb : List Nat → Nat → Bool
  | [], _ => false
  | j :: r, k => match Nat.beq j k with | true => true | false => memb r k

/-- does a value name this object? -/
def SV.refs (o : Nat) : SV → Bool
  | .bp o' _ => Nat.beq o o'
  | .own o' _ => Nat.beq o o'
  | .osl o' _ _ _ => Nat.beq o o'
  | .rp o' _ _ _ => Nat.beq o o'
  | .mp o' => Nat.beq o o'
  | .ip o' => Nat.beq o o'
  | .fe _ o' _ _ _ _ _ _ => Nat.beq o o'
  | .clo _ caps => refsL caps
  | .agg cs => refsL cs
  | .tup cs => refsL cs
  | _ => false
where
  refsL : List SV → Bool
    | [] => false
    | v :: r => match SV.refs o v with | true => true | false => refsL r

/-! ### The program's tables, and what is known of its functions -/

/-- '.unit' stands for a type that has no data here -/
def tyKnown : Ty → Bool
  | .unit => false
  | _ => true

def keyTy : Ty → Bool
  | .int => true
  | .pair _ _ => true
  | _ => false

/-- what is known of a type -/
structure TI where
  id : Nat
  ty : Ty
  size : Nat
  agg : Bool
  fields : List (Nat × Nat)     -- offset, type
  sl : Bool                     -- is it a slice
  elem : Nat                    -- of a slice
  bytes : Nat
  zero : List Value
  cmp : Bool                    -- may be compared
  mp : Bool                     -- is it a map
  key : Nat                     -- of a map
  kq : Bool                     -- may be a map's key
  arr : Bool := false           -- is it an array (of numbers); 'fields' are its elements then

/-- the fields of a struct -/
def TI.flds (ti : TI) : List (Nat × Nat) := match ti.arr with | true => [] | false => ti.fields

inductive Par where
  | val (t : Ty)
  | ref (t : Ty)
  | fn (ps rs : List Ty)
  | rfn (ps rs : List Ty)      -- a pointer to a function value that stays

structure FnD (ps rs : List Ty) where
  pre : (Ty.st ps).Data → List Prop
  F : (Ty.st ps).Data → (Ty.st rs).Data

@[reducible] def Par.Data : Par → Type
  | .val t => t.Data
  | .ref t => t.Data
  | .fn ps rs => FnD ps rs
  | .rfn ps rs => FnD ps rs

@[reducible] def PD : List Par → Type
  | [] => Unit
  | p :: ps => p.Data × PD ps

structure Spec where
  ps : List Par
  rs : List Ty
  own : Bool
  pre : PD ps → List Prop
  F : PD ps → (Ty.st rs).Data

/-- what an operation asks, gives as a fact, yields, freezes and writes -/
structure Out where
  vc : List Prop
  fact : List Prop
  sv : SV
  fz : List Nat
  wr : List (Nat × Option Ob)
  nw : List Nat        -- the objects that are made

def Out.pure (sv : SV) : Out := ⟨[], [], sv, [], [], []⟩

structure Ctx where
  n : Nat               -- how many slots the frame has
  ti : List TI
  fs : List (Nat × Spec)
  eff : Nat → Nat → St → List SV → Option Out      -- function, dst, state, arguments
  strs : List Nat       -- types of strings

def findTI : List TI → Nat → Option TI
  | [], _ => none
  | x :: r, k => match Nat.beq x.id k with | true => some x | false => findTI r k
def Ctx.info (C : Ctx) (T : Nat) : Option TI := findTI C.ti T
/-- a type with data -/
def Ctx.known (C : Ctx) (T : Nat) : Option TI :=
  match C.info T with
  | some ti => match tyKnown ti.ty with
    | true => some ti
    | false => none
  | none => none
/-- a slice type and its element's, known in full -/
def Ctx.slice (C : Ctx) (U : Nat) : Option (TI × TI) :=
  match C.info U with
  | some ti => match ti.sl with
    | true => match C.info ti.elem with
      | some te => match tyKnown te.ty with
        | true => some (ti, te)
        | false => none
      | none => none
    | false => none
  | none => none
/-- a map type, its key's and its element's, known in full -/
def Ctx.mapT (C : Ctx) (U : Nat) : Option (TI × TI × TI) :=
  match C.info U with
  | some ti => match ti.mp with
    | true => match C.info ti.key, C.info ti.elem with
      | some tk, some te => match tk.kq, tyKnown te.ty with
        | true, true => some (ti, tk, te)
        | _, _ => none
      | _, _ => none
    | false => none
  | none => none
def Ctx.spec (C : Ctx) (f : Nat) : Option Spec := look C.fs f

def ofVal : Value → SV
  | .int .i64 n => .dat .int n
  | .int k n => .dat (.uint k) n
  | .bool b => .dat .bool b
  | v => .lit v

def opnd (σ : St) : Operand → SV
  | .tmp t => σ.get t
  | .const v => ofVal v
  | .global g => .lit (.pointer (some ⟨g, 0, none⟩))
  | .func f => .clo f []

def isNilSlice : Value → Bool
  | .slice none 0 0 => true
  | _ => false
def isNilMap : Value → Bool
  | .map none => true
  | _ => false

/-! ### From symbolic values to data (with the objects that are frozen on the way) -/

def frozenOb : Ob → Ob
  | .row E t _ nl l => .row E t true nl l
  | .box T _ cs => .box T true cs
  | .map _ kt vt l => .map true kt vt l
  | x => x

def doFz (σ : St) : List Nat → List (Nat × Option Ob)
  | [] => []
  | o :: r => match σ.obj o with
    | some x => (o, some (frozenOb x)) :: doFz σ r
    | none => doFz σ r

def St.frz (σ : St) (fz : List Nat) : St := { σ with ob := doFz σ fz ++ σ.ob }

/-- the elements of a slice value, without freezing -/
def elems (σ : St) (t : Ty) : SV → Option (List t.Data)
  | .dat t' d => cast? t' (.slice t) d
  | .own o _ => match σ.obj o with
    | some (.row _ t' _ _ l) => cast? (.slice t') (.slice t) l
    | _ => none
  | .osl o u lo n => match σ.obj o with
    | some (.row _ t' _ _ l) => match cast? (.slice t') (.slice u) l with
      | some l' => cast? (.slice u) (.slice t) ((l'.drop lo).take n)
      | none => none
    | _ => none
  | .lit v => match isNilSlice v with | true => some [] | false => none
  | _ => none

/-- one cell -/
def toCell (σ : St) : (t : Ty) → SV → Option (t.Data × List Nat)
  | .slice t, .own o u => match elems σ t (.own o u) with
    | some l => some (l, [o])
    | none => none
  | .slice t, .osl o u lo n => match elems σ t (.osl o u lo n) with
    | some l => some (l, [o])
    | none => none
  | .slice _, .lit v => match isNilSlice v with | true => some ([], []) | false => none
  | .map kt vt, .mp o => match σ.obj o with
    | some (.map _ kt' vt' l) => match cast? (.map kt' vt') (.map kt vt) l with
      | some l' => some (l', [o])
      | none => none
    | _ => none
  | .map _ _, .lit v => match isNilMap v with | true => some ([], []) | false => none
  | t, .dat t' d => match cast? t' t d with | some x => some (x, []) | none => none
  | _, _ => none

def decode (σ : St) : (t : Ty) → List SV → Option (t.Data × List SV × List Nat)
  | .unit, cs => some ((), cs, [])
  | .pair a b, cs => match decode σ a cs with
    | some (x, r, f) => match decode σ b r with
      | some (y, r', f') => some ((x, y), r', f ++ f')
      | none => none
    | none => none
  | t, c :: r => match toCell σ t c with
    | some (x, f) => some (x, r, f)
    | none => none
  | _, [] => none

def toDat (σ : St) (t : Ty) : SV → Option (t.Data × List Nat)
  | .dat t' d => match cast? t' t d with | some x => some (x, []) | none => none
  | .agg cs => match decode σ t cs with
    | some (x, [], f) => match t.agg with | true => some (x, f) | false => none
    | _ => none
  | v => match t.agg with | true => none | false => toCell σ t v

/-- data as cells -/
def encode : (t : Ty) → t.Data → List SV
  | .unit, _ => []
  | .pair a b, d => encode a d.1 ++ encode b d.2
  | t, d => [.dat t d]

def live (σ : St) (o : Nat) : Bool := match σ.obj o with | some _ => true | none => false

def cells (σ : St) : SV → Option (List SV)
  | .any => none
  | .tup _ => none
  | .agg cs => some cs
  | .dat t d => some (encode t d)
  | .lit (.agg _) => none
  | .lit (.tuple _) => none
  | .bp o k => match live σ o with | true => some [.bp o k] | false => none
  | .own o t => match live σ o with | true => some [.own o t] | false => none
  | .osl o t lo n => match live σ o with | true => some [.osl o t lo n] | false => none
  | .rp o t i k => match live σ o with | true => some [.rp o t i k] | false => none
  | .mp o => match live σ o with | true => some [.mp o] | false => none
  | .ip o => match live σ o with | true => some [.ip o] | false => none
  | .fe b o T st ps rs pre K => match live σ o with | true => some [.fe b o T st ps rs pre K] | false => none
  | v => some [v]

/-- a pointer to memory that stays -/
def toRef (σ : St) (t : Ty) : SV → Option (t.Data × List Nat)
  | .ep t' d => match cast? t' t d with | some x => some (x, []) | none => none
  | .bp o off => match σ.obj o with
    | some (.box _ _ cs) => match decode σ t (cs.drop off) with
      | some (x, _, []) => some (x, [o])
      | _ => none
    | _ => none
  | _ => none

def zipPD (σ : St) : (ps : List Par) → List SV → Option (PD ps × List Nat)
  | [], [] => some ((), [])
  | .val t :: ps, v :: vs => match toDat σ t v with
    | some (x, f) => match zipPD σ ps vs with
      | some (xs, f') => some ((x, xs), f ++ f')
      | none => none
    | none => none
  | .ref t :: ps, v :: vs => match toRef σ t v with
    | some (x, f) => match zipPD σ ps vs with
      | some (xs, f') => some ((x, xs), f ++ f')
      | none => none
    | none => none
  | _, _ => none

def zipTy (σ : St) : (ps : List Ty) → List SV → Option ((Ty.st ps).Data × List Nat)
  | [], [] => some ((), [])
  | t :: ps, v :: vs => match toDat σ t v with
    | some (x, f) => match zipTy σ ps vs with
      | some (xs, f') => some ((x, xs), f ++ f')
      | none => none
    | none => none
  | _, _ => none

/-- the leading parameters of a function, as plain types; the rest is what a closure captured -/
def splitPar : (ps : List Ty) → (qs : List Par) → Option ((rest : List Par) × ((Ty.st ps).Data → PD rest → PD qs))
  | [], qs => some ⟨qs, fun _ y => y⟩
  | t :: ps, .val u :: qs =>
    if h : t = u then match splitPar ps qs with
      | some ⟨rest, k⟩ => some ⟨rest, fun x y => (h ▸ x.1, k x.2 y)⟩
      | none => none
    else none
  | _, _ => none

/-- a pointer to a function value of known meaning -/
def fnPtr (tf : (ps rs : List Ty) → SV → Option (FnD ps rs × List Nat)) (σ : St) (ps rs : List Ty) : SV → Option (FnD ps rs × List Nat)
  | .fnp ps' rs' pre F => if h : ps' = ps ∧ rs' = rs then some (⟨h.1 ▸ pre, h.1 ▸ h.2 ▸ F⟩, []) else none
  | .bp o 0 => match σ.obj o with
    | some (.box _ _ [c]) => match tf ps rs c with
      | some (x, f) => some (x, o :: f)
      | none => none
    | _ => none
  | _ => none

/-- what a closure has captured -/
def zipPC (tf : (ps rs : List Ty) → SV → Option (FnD ps rs × List Nat)) (σ : St) : (ps : List Par) → List SV → Option (PD ps × List Nat)
  | [], [] => some ((), [])
  | .val t :: ps, v :: vs => match toDat σ t v with
    | some (x, f) => match zipPC tf σ ps vs with
      | some (xs, f') => some ((x, xs), f ++ f')
      | none => none
    | none => none
  | .ref t :: ps, v :: vs => match toRef σ t v with
    | some (x, f) => match zipPC tf σ ps vs with
      | some (xs, f') => some ((x, xs), f ++ f')
      | none => none
    | none => none
  | .rfn as rs :: ps, v :: vs => match fnPtr tf σ as rs v with
    | some (x, f) => match zipPC tf σ ps vs with
      | some (xs, f') => some ((x, xs), f ++ f')
      | none => none
    | none => none
  | _, _ => none

/-- a closure of a known function, as a function value of known meaning -/
def toFnN (C : Ctx) (σ : St) : Nat → (ps rs : List Ty) → SV → Option (FnD ps rs × List Nat)
  | 0, _, _, _ => none
  | n + 1, ps, rs, v => match v with
    | .fn ps' rs' pre F => if h : ps' = ps ∧ rs' = rs then some (⟨h.1 ▸ pre, h.1 ▸ h.2 ▸ F⟩, []) else none
    | .clo f caps => match C.spec f with
      | some s => if h : s.rs = rs ∧ s.own = false then match splitPar ps s.ps with
          | some ⟨rest, k⟩ => match zipPC (toFnN C σ n) σ rest caps with
            | some (y, fz) => some (⟨fun x => s.pre (k x y), fun x => h.1 ▸ s.F (k x y)⟩, fz)
            | none => none
          | none => none
        else none
      | none => none
    | _ => none

def toFn (C : Ctx) (σ : St) (ps rs : List Ty) (v : SV) : Option (FnD ps rs × List Nat) := toFnN C σ 4 ps rs v

def zipArgs (C : Ctx) (σ : St) : (ps : List Par) → List SV → Option (PD ps × List Nat)
  | [], [] => some ((), [])
  | .val t :: ps, v :: vs => match toDat σ t v with
    | some (x, f) => match zipArgs C σ ps vs with
      | some (xs, f') => some ((x, xs), f ++ f')
      | none => none
    | none => none
  | .ref t :: ps, v :: vs => match toRef σ t v with
    | some (x, f) => match zipArgs C σ ps vs with
      | some (xs, f') => some ((x, xs), f ++ f')
      | none => none
    | none => none
  | .fn as rs :: ps, v :: vs => match toFn C σ as rs v with
    | some (x, f) => match zipArgs C σ ps vs with
      | some (xs, f') => some ((x, xs), f ++ f')
      | none => none
    | none => none
  | .rfn as rs :: ps, v :: vs => match fnPtr (toFn C σ) σ as rs v with
    | some (x, f) => match zipArgs C σ ps vs with
      | some (xs, f') => some ((x, xs), f ++ f')
      | none => none
    | none => none
  | _, _ => none

/-! ### Maps -/

def mfind (kt : Ty) {β : Type} (k : kt.Data) : List (kt.Data × β) → Option β
  | [] => none
  | e :: r => if @decide (k = e.1) (kt.decEq k e.1) = true then some e.2 else mfind kt k r

def mput (kt : Ty) {β : Type} (k : kt.Data) (v : β) : List (kt.Data × β) → List (kt.Data × β)
  | [] => [(k, v)]
  | e :: r => if @decide (k = e.1) (kt.decEq k e.1) = true then (k, v) :: r else e :: mput kt k v r

def mdel (kt : Ty) {β : Type} (k : kt.Data) : List (kt.Data × β) → List (kt.Data × β)
  | [] => []
  | e :: r => if @decide (k = e.1) (kt.decEq k e.1) = true then r else e :: mdel kt k r

def mvalD {β : Type} (d : β) : Option β → β
  | some x => x
  | none => d
def misS {β : Type} : Option β → Bool
  | some _ => true
  | none => false

/-- a map whose entry at a key is there -/
def mentry (kt : Ty) {β : Type} (d : β) (k : kt.Data) (l : List (kt.Data × β)) : List (kt.Data × β) := mput kt k (mvalD d (mfind kt k l)) l

/-- the entries of a map -/
def mapOf (σ : St) (kt vt : Ty) : SV → Option (List (kt.Data × vt.Data))
  | .dat t d => cast? t (.map kt vt) d
  | .mp o => match σ.obj o with
    | some (.map _ kt' vt' l) => cast? (.map kt' vt') (.map kt vt) l
    | some (.mape kt' vt' l k _) => cast? (.map kt' vt') (.map kt vt) (mentry kt' vt'.dflt k l)
    | _ => none
  | .lit v => match isNilMap v with | true => some [] | false => none
  | _ => none

/-! ### Numbers -/

def In64 (x : Int) : Prop := -9223372036854775808 ≤ x ∧ x ≤ 9223372036854775807

def band (a b : Int) : Int := IntKind.i64.wrap ((BitVec.ofInt 64 a &&& BitVec.ofInt 64 b).toNat : Int)
def bor (a b : Int) : Int := IntKind.i64.wrap ((BitVec.ofInt 64 a ||| BitVec.ofInt 64 b).toNat : Int)
def bxor (a b : Int) : Int := IntKind.i64.wrap ((BitVec.ofInt 64 a ^^^ BitVec.ofInt 64 b).toNat : Int)
def bandn (a b : Int) : Int := IntKind.i64.wrap ((BitVec.ofInt 64 a &&& ~~~(BitVec.ofInt 64 b)).toNat : Int)

def binInt (op : BinOp) (a b : Int) : Option Out :=
  match op with
  | .add => some ⟨[In64 (a + b)], [], .dat .int (a + b), [], [], []⟩
  | .sub => some ⟨[In64 (a - b)], [], .dat .int (a - b), [], [], []⟩
  | .mul => some ⟨[In64 (a * b)], [], .dat .int (a * b), [], [], []⟩
  | .quo => some ⟨[b ≠ 0, In64 (a.tdiv b)], [], .dat .int (a.tdiv b), [], [], []⟩
  | .rem => some ⟨[b ≠ 0], [], .dat .int (a.tmod b), [], [], []⟩
  | .and => some (.pure (.dat .int (band a b)))
  | .or => some (.pure (.dat .int (bor a b)))
  | .xor => some (.pure (.dat .int (bxor a b)))
  | .andNot => some (.pure (.dat .int (bandn a b)))
  | .shl => some ⟨[0 ≤ b, b ≤ 64, In64 (a * 2 ^ b.toNat)], [], .dat .int (a * 2 ^ b.toNat), [], [], []⟩
  | .shr => some ⟨[0 ≤ b, b ≤ 64], [], .dat .int (a / 2 ^ b.toNat), [], [], []⟩
  | .eql => some (.pure (.dat .bool (decide (a = b))))
  | .neq => some (.pure (.dat .bool (decide (a ≠ b))))
  | .lss => some (.pure (.dat .bool (decide (a < b))))
  | .leq => some (.pure (.dat .bool (decide (a ≤ b))))
  | .gtr => some (.pure (.dat .bool (decide (b < a))))
  | .geq => some (.pure (.dat .bool (decide (b ≤ a))))

def uand (a b : Int) : Int := IntKind.u64.wrap ((BitVec.ofInt 64 a &&& BitVec.ofInt 64 b).toNat : Int)

/-- on numbers without sign, of 64 bits: nothing may wrap around -/
def binU (op : BinOp) (a b : Int) : Option Out :=
  match op with
  | .add => some ⟨[0 ≤ a + b, a + b ≤ 18446744073709551615], [], .dat (.uint .u64) (a + b), [], [], []⟩
  | .sub => some ⟨[0 ≤ a - b, a - b ≤ 18446744073709551615], [], .dat (.uint .u64) (a - b), [], [], []⟩
  | .and => some (.pure (.dat (.uint .u64) (uand a b)))
  | .shr => some ⟨[0 ≤ b, b ≤ 64], [], .dat (.uint .u64) (a / 2 ^ b.toNat), [], [], []⟩
  | .eql => some (.pure (.dat .bool (decide (a = b))))
  | .neq => some (.pure (.dat .bool (decide (a ≠ b))))
  | .lss => some (.pure (.dat .bool (decide (a < b))))
  | .leq => some (.pure (.dat .bool (decide (a ≤ b))))
  | .gtr => some (.pure (.dat .bool (decide (b < a))))
  | .geq => some (.pure (.dat .bool (decide (b ≤ a))))
  | _ => none

def isNil : SV → Bool
  | .lit v => isNilSlice v
  | _ => false

/-- is a slice of the call's own nil? -/
def nilTest (σ : St) : SV → Option Bool
  | .own o _ => match σ.obj o with
    | some (.row _ _ _ .yes l) => some l.isEmpty
    | some (.row _ _ _ .no _) => some false
    | _ => none
  | .lit v => match isNilSlice v with | true => some true | false => none
  | _ => none

def binSV (C : Ctx) (σ : St) (op : BinOp) (T : Nat) (x y : SV) : Option Out :=
  match x, y with
  | .dat .int a, .dat .int b => binInt op a b
  | .dat .int a, .dat (.uint _) b => match op with
    | .shl => binInt .shl a b
    | .shr => binInt .shr a b
    | _ => none
  | .dat (.uint .u64) a, .dat (.uint .u64) b => binU op a b
  | _, _ => match C.info T with
    | none => none
    | some ti => match ti.cmp with
      | true => match toDat σ ti.ty x, toDat σ ti.ty y with
        | some (a, []), some (b, []) => match op with
          | .eql => some (.pure (.dat .bool (@decide (a = b) (ti.ty.decEq a b))))
          | .neq => some (.pure (.dat .bool (!(@decide (a = b) (ti.ty.decEq a b)))))
          | _ => none
        | _, _ => none
      | false => match isNil y, ti.sl with
        | true, true => match nilTest σ x with
          | some b => match op with
            | .eql => some (.pure (.dat .bool b))
            | .neq => some (.pure (.dat .bool (!b)))
            | _ => none
          | none => none
        | _, _ => none

/-! ### One operation -/

def elemsAll (σ : St) (t : Ty) : List (Nat × Operand) → (i : Nat) → Option (List t.Data × List Nat)
  | [], _ => some ([], [])
  | (j, x) :: r, i => match Nat.beq i j with
    | true => match toDat σ t (opnd σ x) with
      | some (d, f) => match elemsAll σ t r (i + 1) with
        | some (l, f') => some (d :: l, f ++ f')
        | none => none
      | none => none
    | false => none

def overlay (cs new : List SV) (off : Nat) : List SV := cs.take off ++ new ++ cs.drop (off + new.length)

def fillParts (C : Ctx) (σ : St) (fields : List (Nat × Nat)) : List (Nat × Operand) → List SV → Option (List SV)
  | [], cs => some cs
  | (j, x) :: r, cs => match fields[j]? with
    | some (off, ft) => match cells σ (opnd σ x), C.info ft with
      | some new, some tf => match Nat.beq new.length tf.size, Nat.ble (off + new.length) cs.length with
        | true, true => fillParts C σ fields r (overlay cs new off)
        | _, _ => none
      | _, _ => none
    | none => none

def allData : List SV → Bool
  | [] => true
  | .dat _ _ :: r => allData r
  | .lit v :: r => match isNilSlice v with | true => allData r | false => false
  | _ => false

def lenOf (σ : St) : SV → Option (List Prop × Nat)
  | .dat (.slice _) l => some ([l.length < 4611686018427387904], l.length)
  | .own o _ => match σ.obj o with
    | some (.row _ _ _ _ l) => some ([l.length < 4611686018427387904], l.length)
    | _ => none
  | .osl o _ _ n => match σ.obj o with
    | some (.row _ _ _ _ _) => some ([n < 4611686018427387904], n)
    | _ => none
  | .lit v => match isNilSlice v with | true => some ([], 0) | false => none
  | _ => none

def foldMin : List SV → Int → Option Int
  | [], a => some a
  | .dat .int b :: r, a => foldMin r (min a b)
  | _, _ => none
def foldMax : List SV → Int → Option Int
  | [], a => some a
  | .dat .int b :: r, a => foldMax r (max a b)
  | _, _ => none

/-- results of a function, as a value -/
def results : (rs : List Ty) → (Ty.st rs).Data → List SV
  | [], _ => []
  | t :: ts, d => .dat t d.1 :: results ts d.2

def resSV (rs : List Ty) (d : (Ty.st rs).Data) : SV :=
  match results rs d with
  | [v] => v
  | vs => .tup vs

def freshSl (o : Nat) : List (Nat × SV) → Bool
  | [] => true
  | (_, v) :: r => match SV.refs o v with | true => false | false => freshSl o r
def freshGl (o : Nat) : List (Nat × (Nat × Bool) × SV) → Bool
  | [] => true
  | (_, _, v) :: r => match SV.refs o v with | true => false | false => freshGl o r
def freshOb (o : Nat) : List (Nat × Option Ob) → Bool
  | [] => true
  | (_, some (.box _ _ cs)) :: r => match SV.refs.refsL o cs with | true => false | false => freshOb o r
  | _ :: r => freshOb o r

def asInt : SV → Option Int
  | .dat .int i => some i
  | _ => none
def asUint : SV → Option Int
  | .dat (.uint _) i => some i
  | _ => none

def bound (σ : St) (x : Option Operand) (dflt : Int) : Option Int :=
  match x with
  | none => some dflt
  | some a => asInt (opnd σ a)

/-- data that hold no memory -/
def flatTy : Ty → Bool
  | .slice _ => false
  | .map _ _ => false
  | .pair a b => match flatTy a with | true => flatTy b | false => false
  | _ => true
def flatL : List Ty → Bool
  | [] => true
  | t :: r => match flatTy t with | true => flatL r | false => false

/-- what is handed to a call whose results hold no memory is only lent -/
def fzOf (rs : List Ty) (fz : List Nat) : List Nat := match flatL rs with | true => [] | false => fz

def callSV (C : Ctx) (σ : St) (dst : Nat) (callee : SV) (args : List SV) : Option Out :=
  match callee with
  | .clo f caps => match C.spec f with
    | some s => match zipArgs C σ s.ps (args ++ caps) with
      | some (d, fz) => match s.own with
        | false => some ⟨s.pre d, [], resSV s.rs (s.F d), fzOf s.rs fz, [], []⟩
        | true => none
      | none => none
    | none => C.eff f dst σ (args ++ caps)
  | .fn ps rs pre F => match zipTy σ ps args with
    | some (d, fz) => some ⟨pre d, [], resSV rs (F d), fzOf rs fz, [], []⟩
    | none => none
  | .fe false o T st ps rs pre K => match zipTy σ ps args, σ.obj o with
    | some (d, fz), some (.box T' false [c]) => match Nat.beq T T', memb fz o, st.agg, toDat σ st c with
      | true, false, false, some (s, []) => some ⟨pre d, [], resSV rs (K d s).1, fz, [(o, some (.box T false [.dat st (K d s).2]))], []⟩
      | _, _, _, _ => none
    | _, _ => none
  | _ => none

def lenSV (C : Ctx) (σ : St) : List Operand → List Nat → Option Out
  | [x], [U] => match C.slice U, lenOf σ (opnd σ x) with
    | some _, some (f, n) => some ⟨[], f, .dat .int (n : Int), [], [], []⟩
    | some _, none => none
    | none, _ => match C.mapT U with
      | some (_, tk, te) => match mapOf σ tk.ty te.ty (opnd σ x) with
        | some l => some ⟨[], [], .dat .int (l.length : Int), [], [], []⟩
        | none => none
      | none => none
  | _, _ => none

/-- the capacity of the slice nil -/
def capSV (C : Ctx) (σ : St) : List Operand → List Nat → Option Out
  | [x], [U] => match C.slice U, opnd σ x with
    | some _, .lit v => match isNilSlice v with
      | true => some (.pure (.dat .int 0))
      | false => none
    | _, _ => none
  | _, _ => none

/-- so many zero values at the end of the slice nil -/
def zerSV (C : Ctx) (σ : St) (dst : Nat) (b x : Operand) (U U' : Nat) : Option Out :=
  match C.slice U, C.info U' with
  | some (ti, te), some tx => match opnd σ b, opnd σ x, tx.ty, tx.agg with
    | .lit v, .dat .int n, .int, false => match isNilSlice v with
      | true => some ⟨[0 < n, n.toNat * te.bytes ≤ 140737488355328], [], .own dst te.ty, [], [(dst, some (.row ti.elem te.ty false .yes (List.replicate n.toNat te.ty.dflt)))], [dst]⟩
      | false => none
    | _, _, _, _ => none
  | _, _ => none

def appSV (C : Ctx) (σ : St) (dst : Nat) : List Operand → List Nat → Option Out
  | [b, x], [U, U'] => match Nat.beq U U', C.slice U with
    | true, some (ti, te) => match elems σ te.ty (opnd σ x) with
      | some news => match opnd σ b with
        | .own o _ => match σ.obj o with
          | some (.row E t false nl l) => match cast? (.slice t) (.slice te.ty) l with
            | some l' => match Nat.beq E ti.elem with
              | true => some ⟨[(l'.length + news.length) * te.bytes ≤ 140737488355328], [], .own dst te.ty, [], [(o, none), (dst, some (.row E te.ty false nl (l' ++ news)))], [dst]⟩
              | false => none
            | none => none
          | _ => none
        | .osl o _ 0 n => match σ.obj o with
          | some (.row E t false .no l) => match cast? (.slice t) (.slice te.ty) l with
            | some l' => match Nat.beq E ti.elem with
              | true => some ⟨[(n + news.length) * te.bytes ≤ 140737488355328], [], .own dst te.ty, [], [(o, none), (dst, some (.row E te.ty false .no (l'.take n ++ news)))], [dst]⟩
              | false => none
            | none => none
          | some (.row E t false .unk l) => match cast? (.slice t) (.slice te.ty) l with
            | some l' => match Nat.beq E ti.elem with
              | true => some ⟨[(n + news.length) * te.bytes ≤ 140737488355328], [], .own dst te.ty, [], [(o, none), (dst, some (.row E te.ty false .unk (l'.take n ++ news)))], [dst]⟩
              | false => none
            | none => none
          | some (.row E t false .yes l) => match cast? (.slice t) (.slice te.ty) l with
            | some l' => match Nat.beq E ti.elem, news with
              | true, y :: ys => some ⟨[(n + (y :: ys).length) * te.bytes ≤ 140737488355328], [], .own dst te.ty, [], [(o, none), (dst, some (.row E te.ty false .yes (l'.take n ++ (y :: ys))))], [dst]⟩
              | _, _ => none
            | none => none
          | _ => none
        | .lit v => match isNilSlice v with
          | true => some ⟨[news.length * te.bytes ≤ 140737488355328], [], .own dst te.ty, [], [(dst, some (.row ti.elem te.ty false .yes news))], [dst]⟩
          | false => none
        | _ => none
      | none => none
    | false, some _ => zerSV C σ dst b x U U'
    | _, _ => none
  | _, _ => none

/-- a byte of a string -/
def strAt (s : ByteArray) (i : Nat) : Int := ((s.data.toList.getD i 0).toNat : Int)

def asIx : SV → Option Int
  | .dat .int i => some i
  | .dat (.uint _) i => some i
  | _ => none

/-- clear, on the end of a row of the call's own -/
def clrSV (C : Ctx) (σ : St) : List Operand → List Nat → Option Out
  | [x], [U] => match C.slice U, opnd σ x with
    | some (_, te), .osl o u lo n => match σ.obj o with
      | some (.row E t false nl l) => match cast? (.slice t) (.slice te.ty) l, decEqTy u te.ty with
        | some l', true => some ⟨[lo + n = l'.length], [], .any, [], [(o, some (.row E te.ty false nl (l'.take lo ++ List.replicate n te.ty.dflt)))], []⟩
        | _, _ => none
      | _ => none
    | _, _ => none
  | _, _ => none

/-- the place of an element of an array -/
def arrAddr (C : Ctx) (U : Nat) (x : SV) (i : Int) : Option Out :=
  match C.known U with
  | some ti => match ti.arr, ti.fields[i.toNat]?, C.known ti.elem with
    | true, some (off, _), some te => match x with
      | .ep t d => match cast? t ti.ty d with
        | some d' => match ti.ty.sub off te.ty d' with
          | some y => some ⟨[0 ≤ i], [], .ep te.ty y, [], [], []⟩
          | none => none
        | none => none
      | _ => none
    | _, _, _ => none
  | none => none

/-- cells, each of one type -/
def allCells (σ : St) (t : Ty) : List SV → Option (List t.Data)
  | [] => some []
  | c :: r => match toCell σ t c, allCells σ t r with
    | some (d, []), some l => some (d :: l)
    | _, _ => none

/-- an array that lies in a box, as a slice: it stays as it is from then on -/
def slArr (C : Ctx) (σ : St) (U : Nat) (x : SV) (lo hi : Option Operand) : Option Out :=
  match C.known U, lo, hi, x with
  | some ti, none, none, .bp o 0 => match ti.arr, C.known ti.elem, σ.obj o with
    | true, some te, some (.box _ _ cs) => match allCells σ te.ty cs, Nat.beq cs.length ti.size, te.ty.agg with
      | some l, true, false => some ⟨[], [], .dat (.slice te.ty) l, [o], [], []⟩
      | _, _, _ => none
    | _, _, _ => none
  | _, _, _, _ => none

def evalOp (C : Ctx) (σ : St) (dst : Nat) : Op → Option Out
  | .move x => some (.pure (opnd σ x))
  | .assign x => some (.pure (opnd σ x))
  | .alloc E => match C.info E with
    | some ti => some ⟨[], [], .bp dst 0, [], [(dst, some (.box E false (ti.zero.map ofVal)))], [dst]⟩
    | none => none
  | .box E x => match C.info E with
    | some _ => match cells σ (opnd σ x) with
      | some cs => some ⟨[], [], .bp dst 0, [], [(dst, some (.box E false cs))], [dst]⟩
      | none => none
    | none => none
  | .build U parts => match C.info U with
    | some ti => match ti.agg, fillParts C σ ti.fields parts.toList (ti.zero.map ofVal) with
      | true, some cs => some (.pure (.agg cs))
      | _, _ => none
    | none => none
  | .buildSlice U n parts => match C.slice U with
    | some (ti, te) => match elemsAll σ te.ty parts.toList 0 with
      | some (l, fz) => match Nat.beq l.length n, Nat.ble (n * te.size) 16777216 with
        | true, true => some ⟨[], [], .own dst te.ty, fz, [(dst, some (.row ti.elem te.ty false .no l))], [dst]⟩
        | _, _ => none
      | none => none
    | none => none
  | .load U a => match C.info U with
    | some ti => match opnd σ a with
      | .bp o off => match σ.obj o with
        | some (.box _ _ cs) => match ti.agg with
          | true => match Nat.ble (off + ti.size) cs.length with
            | true => some (.pure (.agg ((cs.drop off).take ti.size)))
            | false => none
          | false => match cs[off]? with
            | some v => some (.pure v)
            | none => none
        | _ => none
      | .ep t d => match tyKnown ti.ty, cast? t ti.ty d with
        | true, some x => some (.pure (.dat ti.ty x))
        | _, _ => none
      | .rp o u i off => match σ.obj o with
        | some (.row _ t _ _ l) => match cast? (.slice t) (.slice u) l with
          | some l' => match tyKnown ti.ty, u.sub off ti.ty (@nth _ ⟨u.dflt⟩ l' i) with
            | true, some x => some (.pure (.dat ti.ty x))
            | _, _ => none
          | none => none
        | _ => none
      | .fe true o T st ps rs pre K => match ti.agg, live σ o with
        | false, true => some (.pure (.fe false o T st ps rs pre K))
        | _, _ => none
      | .fnp ps rs pre F => match ti.agg with
        | false => some (.pure (.fn ps rs pre F))
        | true => none
      | _ => none
    | none => none
  | .store U a x => match C.info U with
    | some ti => match opnd σ a with
      | .bp o off => match σ.obj o with
        | some (.box B false cs) => match cells σ (opnd σ x) with
          | some new => match Nat.beq new.length ti.size, Nat.ble (off + new.length) cs.length with
            | true, true => some ⟨[], [], .any, [], [(o, some (.box B false (overlay cs new off)))], []⟩
            | _, _ => none
          | none => none
        | _ => none
      | .rp o u i off => match σ.obj o with
        | some (.row E t false nl l) => match cast? (.slice t) (.slice u) l with
          | some l' => match tyKnown ti.ty, toDat σ ti.ty (opnd σ x) with
            | true, some (d, []) => match u.put off ti.ty (@nth _ ⟨u.dflt⟩ l' i) d with
              | some y => some ⟨[], [], .any, [], [(o, some (.row E u false nl (l'.set i y)))], []⟩
              | none => none
            | _, _ => none
          | none => none
        | _ => none
      | _ => none
    | none => none
  | .nilCheck x => match opnd σ x with
    | .bp o off => match live σ o with | true => some (.pure (.bp o off)) | false => none
    | .ep t d => some (.pure (.ep t d))
    | _ => none
  | .fieldAddr U x f => match C.info U with
    | some ti => match ti.flds[f]? with
      | some (off, ft) => match opnd σ x with
        | .bp o k => match C.info ft, live σ o with
          | some tf, true => match Nat.beq tf.size 0 with | true => none | false => some (.pure (.bp o (k + off)))
          | _, _ => none
        | .rp o t i k => match C.info ft, live σ o with
          | some tf, true => match Nat.beq tf.size 0 with | true => none | false => some (.pure (.rp o t i (k + off)))
          | _, _ => none
        | .ep t d => match C.known ft with
          | some tf => match Nat.beq tf.size 0 with
            | true => none
            | false => match t.sub off tf.ty d with
              | some y => some (.pure (.ep tf.ty y))
              | none => none
          | none => none
        | _ => none
      | none => none
    | none => none
  | .field U x f => match C.info U with
    | some ti => match ti.flds[f]? with
      | some (off, ft) => match C.info ft with
        | some tf => match opnd σ x with
          | .agg cs => match tf.agg with
            | true => some (.pure (.agg ((cs.drop off).take tf.size)))
            | false => match cs[off]? with
              | some v => some (.pure v)
              | none => none
          | .dat t d => match t.agg, tyKnown tf.ty, t.sub off tf.ty d with
            | true, true, some y => some (.pure (.dat tf.ty y))
            | _, _, _ => none
          | _ => none
        | none => none
      | none => none
    | none => none
  | .indexAddr U x ix => match C.slice U, asInt (opnd σ ix) with
    | some (_, te), some i => match opnd σ x with
      | .dat (.slice t) l => match cast? (.slice t) (.slice te.ty) l with
        | some l' => some ⟨[0 ≤ i, i < l'.length], [], .ep te.ty (@nth _ ⟨te.ty.dflt⟩ l' i.toNat), [], [], []⟩
        | none => none
      | .own o _ => match σ.obj o with
        | some (.row _ _ _ _ l) => some ⟨[0 ≤ i, i < l.length], [], .rp o te.ty i.toNat 0, [], [], []⟩
        | _ => none
      | .osl o t lo n => match live σ o, decEqTy t te.ty with
        | true, true => some ⟨[0 ≤ i, i < n], [], .rp o te.ty (lo + i.toNat) 0, [], [], []⟩
        | _, _ => none
      | .lit v => match isNilSlice v with
        | true => some ⟨[False], [], .ep te.ty te.ty.dflt, [], [], []⟩
        | false => none
      | _ => none
    | none, some i => arrAddr C U (opnd σ x) i
    | _, none => none
  | .index U x ix => match memb C.strs U, opnd σ x, asIx (opnd σ ix) with
    | true, .lit (.string s), some i => some ⟨[0 ≤ i, i < s.size], [], .dat (.uint .u8) (strAt s i.toNat), [], [], []⟩
    | _, _, _ => none
  | .binOp op U x y _ => binSV C σ op U (opnd σ x) (opnd σ y)
  | .unOp op _ x => match op with
    | .not => match opnd σ x with
      | .dat .bool b => some (.pure (.dat .bool (!b)))
      | _ => none
    | .neg => match asInt (opnd σ x) with
      | some a => some ⟨[In64 (-a)], [], .dat .int (-a), [], [], []⟩
      | none => none
    | _ => none
  | .convert V U x => match C.info V, C.info U with
    | some _, some ti => match ti.agg, ti.ty with
      | false, .int => match asInt (opnd σ x) with
        | some a => some ⟨[In64 a], [], .dat .int a, [], [], []⟩
        | none => match asUint (opnd σ x) with
          | some a => some ⟨[In64 a], [], .dat .int a, [], [], []⟩
          | none => none
      | false, .uint .u64 => match asInt (opnd σ x) with
        | some a => some ⟨[0 ≤ a, a ≤ 18446744073709551615], [], .dat (.uint .u64) a, [], [], []⟩
        | none => none
      | false, .uint .u8 => match asUint (opnd σ x) with
        | some a => some ⟨[0 ≤ a, a ≤ 255], [], .dat (.uint .u8) a, [], [], []⟩
        | none => none
      | _, _ => none
    | _, _ => none
  | .makeFunc f firsts caps => match f, firsts.toList with
    | .func f, [] => some (.pure (.clo f (caps.toList.map (opnd σ))))
    | _, _ => none
  | .slice U x lo hi none => match C.slice U with
    | none => slArr C σ U (opnd σ x) lo hi
    | some (_, te) => match bound σ lo 0 with
      | none => none
      | some l => match opnd σ x with
        | .dat (.slice t) xs => match cast? (.slice t) (.slice te.ty) xs, bound σ hi xs.length with
          | some xs', some h => some ⟨[0 ≤ l, l ≤ h, h ≤ xs'.length], [], .dat (.slice te.ty) ((xs'.drop l.toNat).take (h.toNat - l.toNat)), [], [], []⟩
          | _, _ => none
        | .own o _ => match σ.obj o with
          | some (.row _ _ _ _ xs) => match bound σ hi xs.length with
            | some h => some ⟨[0 ≤ l, l ≤ h, h ≤ xs.length], [], .osl o te.ty l.toNat (h.toNat - l.toNat), [], [], []⟩
            | none => none
          | _ => none
        | .lit v => match isNilSlice v, bound σ hi 0 with
          | true, some h => some ⟨[0 ≤ l, l ≤ h, h ≤ 0], [], .lit v, [], [], []⟩
          | _, _ => none
        | _ => none
  | .extract x i => match opnd σ x with
    | .tup vs => match vs[i]? with
      | some v => some (.pure v)
      | none => none
    | _ => none
  | .call c => match c.callee with
    | .value f => callSV C σ dst (opnd σ f) (c.args.toList.map (opnd σ))
    | .builtin .len => lenSV C σ c.args.toList c.argTypes.toList
    | .builtin .append => appSV C σ dst c.args.toList c.argTypes.toList
    | .builtin .clear => clrSV C σ c.args.toList c.argTypes.toList
    | .builtin .cap => capSV C σ c.args.toList c.argTypes.toList
    | .builtin .min => match c.args.toList.map (opnd σ) with
      | .dat .int a :: r => match foldMin r a with
        | some m => some (.pure (.dat .int m))
        | none => none
      | _ => none
    | .builtin .max => match c.args.toList.map (opnd σ) with
      | .dat .int a :: r => match foldMax r a with
        | some m => some (.pure (.dat .int m))
        | none => none
      | _ => none
    | _ => none
  | .makeMap U none => match C.mapT U with
    | some (_, tk, te) => some ⟨[], [], .mp dst, [], [(dst, some (.map false tk.ty te.ty []))], [dst]⟩
    | none => none
  | .lookup U x ix ok => match C.mapT U with
    | some (_, tk, te) => match mapOf σ tk.ty te.ty (opnd σ x), toDat σ tk.ty (opnd σ ix) with
      | some l, some (k, []) => match ok with
        | true => some (.pure (.tup [.dat te.ty (mvalD te.ty.dflt (mfind tk.ty k l)), .dat .bool (misS (mfind tk.ty k l))]))
        | false => some (.pure (.dat te.ty (mvalD te.ty.dflt (mfind tk.ty k l))))
      | _, _ => none
    | none => none
  | .mapUpdate U m ix x => match C.mapT U with
    | some (_, tk, te) => match opnd σ m with
      | .mp o => match σ.obj o with
        | some (.map false kt vt l) => match cast? (.map kt vt) (.map tk.ty te.ty) l, toDat σ tk.ty (opnd σ ix), toDat σ te.ty (opnd σ x) with
          | some l', some (k, []), some (v, fz) => match memb fz o with
            | false => some ⟨[], [], .any, fz, [(o, some (.map false tk.ty te.ty (mput tk.ty k v l')))], []⟩
            | true => none
          | _, _, _ => none
        | _ => none
      | _ => none
    | none => none
  | .entryStore U m st x => match C.mapT U with
    | some (_, tk, te) => match opnd σ m, opnd σ st with
      | .mp o, .dat .int s => match σ.obj o with
        | some (.mape kt vt l k s') => match cast? (.map kt vt) (.map tk.ty te.ty) l, cast? kt tk.ty k, toDat σ te.ty (opnd σ x) with
          | some l', some k', some (v, fz) => match memb fz o with
            | false => some ⟨[s = s'], [], .any, fz, [(o, some (.map false tk.ty te.ty (mput tk.ty k' v l')))], []⟩
            | true => none
          | _, _, _ => none
        | _ => none
      | _, _ => none
    | none => none
  | .range U x => match C.mapT U with
    | some (_, tk, te) => match toDat σ (.map tk.ty te.ty) (opnd σ x) with
      | some (l, fz) => some ⟨[], [], .ip dst, fz, [(dst, some (.iter tk.ty te.ty l none))], [dst]⟩
      | none => none
    | none => none
  | .entry it => match opnd σ it with
    | .ip o => match σ.obj o with
      | some (.iter kt vt _ (some x)) => some (.pure (.tup [.dat kt x.1, .dat vt x.2]))
      | _ => none
    | _ => none
  | .panic _ => some ⟨[False], [], .any, [], [], []⟩
  | .makeInterface T _ => match C.info T with | some _ => some (.pure .any) | none => none
  | _ => none

/-! ### A region -/

/-- a region under way: the state, and what guarded operations have left (slot, guard, value) -/
structure RS where
  st : St
  gl : List (Nat × (Nat × Bool) × SV)

def lookG : List (Nat × (Nat × Bool) × SV) → Nat → Option ((Nat × Bool) × SV)
  | [], _ => none
  | (j, g, x) :: r, k => match Nat.beq j k with | true => some (g, x) | false => lookG r k

def sgn (want β : Bool) : Bool := match want with | true => β | false => !β

def dstAt (ops : List Oper) (j : Nat) : Option Nat := match ops[j]? with | some o => o.dst | none => none

/-- when an operation under this guard is carried out -/
def guardB (ops : List Oper) (rs : RS) : Nat → Nat × Bool → Option Bool
  | 0, _ => none
  | fuel + 1, (j, want) => match dstAt ops j with
    | some d => match lookG rs.gl d with
      | some (g, .dat .bool β) => match guardB ops rs fuel g with
        | some γ => some (γ && sgn want β)
        | none => none
      | some _ => none
      | none => match rs.st.get d with
        | .dat .bool β => some (sgn want β)
        | _ => none
    | none => none

/-- the guards that hold wherever this one does -/
def chain (ops : List Oper) (rs : RS) : Nat → Nat × Bool → List (Nat × Bool)
  | 0, _ => []
  | fuel + 1, (j, want) => (j, want) :: (match dstAt ops j with
    | some d => match lookG rs.gl d with
      | some (g, _) => chain ops rs fuel g
      | none => []
    | none => [])

def sameG (a b : Nat × Bool) : Bool := match Nat.beq a.1 b.1 with | true => (match a.2, b.2 with | true, true => true | false, false => true | _, _ => false) | false => false
def inChain : List (Nat × Bool) → Nat × Bool → Bool
  | [], _ => false
  | h :: r, g => match sameG h g with | true => true | false => inChain r g

def visible : List (Nat × (Nat × Bool) × SV) → List (Nat × Bool) → List (Nat × SV)
  | [], _ => []
  | (s, g, v) :: r, ch => match inChain ch g with | true => (s, v) :: visible r ch | false => visible r ch

def seenBy (rs : RS) (ch : List (Nat × Bool)) : St := { rs.st with sl := visible rs.gl ch ++ rs.st.sl }

def isTmp : Operand → Option Nat
  | .tmp t => some t
  | _ => none

/-- the operations that write this slot -/
def writers (t : Nat) : List Oper → Nat → List Nat
  | [], _ => []
  | o :: r, j => match o.dst with
    | some d => match Nat.beq d t with | true => j :: writers t r (j + 1) | false => writers t r (j + 1)
    | none => writers t r (j + 1)

def guardsOn (ops : List Oper) (c : Operand) (want : Bool) : List (Nat × Bool) :=
  match isTmp c with
  | some t => (writers t ops 0).map fun j => (j, want)
  | none => []

/-- 'pick': the operands are read under the guards that hold anyway, and the one that its condition is -/
def pickOut (ops : List Oper) (rs : RS) (ch : List (Nat × Bool)) (c a b : Operand) : Option Out :=
  match opnd (seenBy rs ch) c with
  | .dat .bool β =>
    match opnd (seenBy rs (guardsOn ops c true ++ ch)) a, opnd (seenBy rs (guardsOn ops c false ++ ch)) b with
    | .dat .bool x, .dat .bool y => match b with
      | .const (.bool false) => some (.pure (.dat .bool (β && x)))
      | _ => match a with
        | .const (.bool true) => some (.pure (.dat .bool (β || y)))
        | _ => some (.pure (.dat .bool (cond β x y)))
    | .dat .int x, .dat .int y => some (.pure (.dat .int (cond β x y)))
    | _, _ => none
  | _ => none

def inFrame (C : Ctx) : Option Nat → Bool
  | some d => Nat.blt d C.n
  | none => true

/-- what one operation of a region asks and leaves -/
structure Eff where
  guard : Option Bool
  vc : List Prop
  fact : List Prop
  sl : List (Nat × SV)
  gl : List (Nat × (Nat × Bool) × SV)
  ob : List (Nat × Option Ob)
  nw : List Nat

def addEff (e : Eff) (rs : RS) : RS := ⟨⟨e.sl ++ rs.st.sl, e.ob ++ rs.st.ob⟩, e.gl ++ rs.gl⟩

def dstOf (o : Oper) : Nat := match o.dst with | some d => d | none => 1000000

def slOf (o : Oper) (v : SV) : List (Nat × SV) := match o.dst with | some d => [(d, v)] | none => []

/-- a slice that is made under a guard is data from the start -/
def buildD (C : Ctx) (σ : St) (U n : Nat) (parts : List (Nat × Operand)) : Option Out := match C.slice U with
  | some (_, te) => match elemsAll σ te.ty parts 0 with
    | some (l, fz) => match Nat.beq l.length n, Nat.ble (n * te.size) 16777216 with
      | true, true => some ⟨[], [], .dat (.slice te.ty) l, fz, [], []⟩
      | _, _ => none
    | none => none
  | none => none

def outOf (C : Ctx) (ops : List Oper) (o : Oper) (R : RS) (ch : List (Nat × Bool)) : Option Out :=
  match o.op, o.guard with
  | .pick c a b, _ => pickOut ops R ch c a b
  | .buildSlice U n parts, some _ => buildD C (seenBy R ch) U n parts.toList
  | op, _ => evalOp C (seenBy R ch) (dstOf o) op

def isCallV : Op → Bool
  | .call c => match c.callee with
    | .builtin .clear => false
    | _ => true
  | _ => false

/-- one operation of a region, evaluated at what is known ('R') -/
def effOf (C : Ctx) (ops : List Oper) (o : Oper) (R : RS) : Option Eff :=
  match o.guard with
  | none => match outOf C ops o R [] with
    | none => none
    | some out => some ⟨none, out.vc, out.fact, slOf o out.sv, [], out.wr ++ doFz R.st out.fz, out.nw⟩
  | some g => match guardB ops R ops.length g with
    | none => none
    | some γ => match outOf C ops o R (chain ops R ops.length g) with
      | none => none
      | some out => match out.wr, out.nw with
        | [], [] => some ⟨some γ, out.vc, out.fact, slOf o .any, (match o.dst with | some d => [(d, g, out.sv)] | none => []), doFz R.st out.fz, []⟩
        | _, _ => none

/-- the slot is no guard's and no guarded operation's -/
def freeG (ops : List Oper) (d : Nat) : List (Nat × (Nat × Bool) × SV) → Bool
  | [] => true
  | (s, (j, _), _) :: r => match Nat.beq s d, dstAt ops j with
    | false, some dj => match Nat.beq dj d with | true => false | false => freeG ops d r
    | _, _ => false

/-- what is made is new: nothing names it yet -/
def isNew (rs : RS) (d : Nat) : Bool := match rs.st.obj d, freshSl d rs.st.sl, freshGl d rs.gl, freshOb d rs.st.ob with
  | none, true, true, true => Nat.ble (d + 1) 1000000
  | _, _, _, _ => false

/-- the guard's own slot is another -/
def okGuard (ops : List Oper) (d : Nat) : Option (Nat × Bool) → Bool
  | some (j, _) => match dstAt ops j with
    | some dj => match Nat.beq dj d with | true => false | false => true
    | none => false
  | none => true

def okDst (ops : List Oper) (o : Oper) (rs : RS) : Bool :=
  match o.dst with
  | some d => match okGuard ops d o.guard with
    | true => freeG ops d rs.gl
    | false => false
  | none => true

def newAll (rs : RS) : List Nat → Bool
  | [] => true
  | d :: r => match isNew rs d with | true => newAll rs r | false => false

/-- does the operation fit the region as it stands? -/
def fits (C : Ctx) (ops : List Oper) (o : Oper) (rs : RS) (e : Eff) : Bool :=
  match inFrame C o.dst, okDst ops o rs, newAll rs e.nw, (match e.nw, isCallV o.op with | [], false => true | _, _ => isNew rs (dstOf o)) with
  | true, true, true, true => true
  | _, _, _, _ => false

/-! A region in one order -/

def runOps (C : Ctx) (ops : List Oper) : List Oper → RS → Option (List Eff × RS)
  | [], rs => some ([], rs)
  | o :: r, rs => match effOf C ops o rs with
    | none => none
    | some e => match fits C ops o rs e with
      | false => none
      | true => match runOps C ops r (addEff e rs) with
        | none => none
        | some (es, rs') => some (e :: es, rs')

/-! A region in whatever order: each operation is evaluated at what it looks at, and no more -/

def SV.rl : SV → List Nat
  | .bp o _ => [o]
  | .own o _ => [o]
  | .osl o _ _ _ => [o]
  | .rp o _ _ _ => [o]
  | .mp o => [o]
  | .ip o => [o]
  | .fe _ o _ _ _ _ _ _ => [o]
  | .clo _ caps => rlL caps
  | .agg cs => rlL cs
  | .tup cs => rlL cs
  | _ => []
where
  rlL : List SV → List Nat
    | [] => []
    | v :: r => SV.rl v ++ rlL r

def union : List Nat → List Nat → List Nat
  | [], l => l
  | o :: r, l => match memb l o with | true => union r l | false => union r (o :: l)

def tmpsOf : List Operand → List Nat
  | [] => []
  | x :: r => match isTmp x with | some t => t :: tmpsOf r | none => tmpsOf r

def guardSlots (ops : List Oper) : Nat → Option (Nat × Bool) → List Nat
  | 0, _ => []
  | _, none => []
  | fuel + 1, some (j, _) => match ops[j]? with
    | some o => match o.dst with
      | some d => d :: guardSlots ops fuel o.guard
      | none => guardSlots ops fuel o.guard
    | none => []

/-- the slots that an operation looks at -/
def slotsOf (ops : List Oper) (o : Oper) : List Nat := tmpsOf o.op.operands.toList ++ guardSlots ops ops.length o.guard

def keep {α : Type} (ks : List Nat) : List (Nat × α) → List (Nat × α)
  | [] => []
  | (k, x) :: r => match memb ks k with | true => (k, x) :: keep ks r | false => keep ks r

def rlSl : List (Nat × SV) → List Nat
  | [] => []
  | (_, v) :: r => union v.rl (rlSl r)
def rlGl : List (Nat × (Nat × Bool) × SV) → List Nat
  | [] => []
  | (_, _, v) :: r => union v.rl (rlGl r)
def rlOb (σ : St) : List Nat → List Nat
  | [] => []
  | o :: r => match σ.obj o with
    | some (.box _ _ cs) => union (SV.rl.rlL cs) (rlOb σ r)
    | _ => rlOb σ r

def near (σ : St) : Nat → List Nat → List Nat
  | 0, os => os
  | n + 1, os => near σ n (union (rlOb σ os) os)

/-- what is known of these slots and of what they lead to -/
def share (slots : List Nat) (rs : RS) : List Nat × RS :=
  (fun sl gl => (fun os => (os, ⟨⟨sl, os.map fun o => (o, rs.st.obj o)⟩, gl⟩)) (near rs.st 3 (union (rlSl sl) (rlGl gl)))) (keep slots rs.st.sl) (keep slots rs.gl)

def subsetN : List Nat → List Nat → Bool
  | [], _ => true
  | o :: r, l => match memb l o with | true => subsetN r l | false => false

def rlObs : List (Nat × Option Ob) → List Nat
  | [] => []
  | (_, some (.box _ _ cs)) :: r => SV.rl.rlL cs ++ rlObs r
  | _ :: r => rlObs r

def keys {α : Type} : List (Nat × α) → List Nat
  | [] => []
  | (k, _) :: r => k :: keys r

/-- an operation as one of many orders: what it is, what it reads, what it names -/
structure Act1 where
  e : Eff
  slots : List Nat
  os : List Nat
  ws : List Nat
  mv : Bool         -- it only moves a value
  rwo : Bool        -- it makes no object

def isMv (o : Oper) : Bool := match o.op, o.guard with
  | .move _, none => true
  | _, _ => false
def noNew (o : Oper) (e : Eff) : Bool := match e.nw, isCallV o.op with
  | [], false => true
  | _, _ => false

/-- nothing that an operation leaves leads out of what it looked at -/
def closed (os : List Nat) (R : RS) (e : Eff) : Bool :=
  match subsetN (rlOb R.st os) os, subsetN (rlSl e.sl) (e.nw ++ os), subsetN (rlGl e.gl) (e.nw ++ os), subsetN (rlObs e.ob) (e.nw ++ os), subsetN (keys e.ob) (e.nw ++ os) with
  | true, true, true, true, true => true
  | _, _, _, _, _ => false

def runAny (C : Ctx) (ops : List Oper) : List Oper → RS → Option (List Act1 × RS)
  | [], rs => some ([], rs)
  | o :: r, rs =>
    match effOf C ops o (share (slotsOf ops o) rs).2 with
    | none => none
    | some e => match fits C ops o rs e, closed (share (slotsOf ops o) rs).1 (share (slotsOf ops o) rs).2 e with
      | true, true => match runAny C ops r (addEff e rs) with
        | none => none
        | some (es, rs') => some (⟨e, slotsOf ops o, (share (slotsOf ops o) rs).1, keys e.ob ++ (e.nw ++ (match e.nw, isCallV o.op with | [], false => [] | _, _ => [dstOf o])), isMv o, noNew o e⟩ :: es, rs')
      | _, _ => none

def meets : List Nat → List Nat → Bool
  | [], _ => false
  | o :: r, l => match memb l o with | true => true | false => meets r l

/-- the objects that an operation names -/
def Act1.names (x : Act1) : List Nat := rlSl x.e.sl ++ (rlGl x.e.gl ++ (rlObs x.e.ob ++ x.os))

/-- among these there is no box -/
def boxFree (σ : St) : List Nat → Bool
  | [] => true
  | o :: r => match σ.obj o with
    | some (.box _ _ _) => false
    | _ => boxFree σ r
def nbOb : List (Nat × Option Ob) → Bool
  | [] => true
  | (_, some (.box _ _ _)) :: _ => false
  | _ :: r => nbOb r
/-- no box is written -/
def noBoxes : List Act1 → Bool
  | [] => true
  | x :: r => match nbOb x.e.ob with | true => noBoxes r | false => false

/-- may 'y', which only moves a value, come ahead of what 'x' writes or behind it? -/
def soft (σ : St) (nb : Bool) (x y : Act1) : Bool := match nb, x.rwo, y.mv, boxFree σ y.os with
  | true, true, true, true => true
  | _, _, _, _ => false

def meetsN (a b : List Nat) (s : Bool) : Bool := match meets a b with
  | true => (match s with | true => false | false => true)
  | false => false

/-- do two operations touch? -/
def touch (σ : St) (nb : Bool) (x y : Act1) : Bool :=
  match meets (keys x.e.sl) (keys y.e.sl ++ y.slots), meets (keys y.e.sl) x.slots, meets x.ws y.ws, meetsN x.ws y.names (soft σ nb x y), meetsN y.ws x.names (soft σ nb y x) with
  | false, false, false, false, false => false
  | _, _, _, _, _ => true

/-- the operations that surely came before -/
def predsOf (done : List (List Nat)) : List Edge → Option (List Nat)
  | [] => some []
  | e :: r => match predsOf done r with
    | none => none
    | some l => match Region.binds .any e with
      | false => some l
      | true => match done[e.on]? with
        | some p => some (union p (match memb l e.on with | true => l | false => e.on :: l))
        | none => none

def allPreds : List Oper → List (List Nat) → Option (List (List Nat))
  | [], done => some done
  | o :: r, done => match predsOf done o.after.toList with
    | some p => allPreds r (done ++ [p])
    | none => none

def ordered1 (σ : St) (nb : Bool) (x : Act1) (before : List Nat) : List Act1 → Nat → Bool
  | [], _ => true
  | y :: r, j => match touch σ nb y x with
    | true => match memb before j with | true => ordered1 σ nb x before r (j + 1) | false => false
    | false => ordered1 σ nb x before r (j + 1)

/-- whatever touches is ordered -/
def ordered (σ : St) (nb : Bool) (all : List Act1) : List Act1 → List (List Nat) → Nat → Bool
  | [], _, _ => true
  | x :: r, p :: ps, k => match ordered1 σ nb x p (all.take k) 0 with
    | true => ordered σ nb all r ps (k + 1)
    | false => false
  | _ :: _, [], _ => false

/-- a region: what each operation asks and leaves, and the state behind it -/
def runRegion (C : Ctx) (ops : List Oper) (draw : Bool) (σ : St) : Option (List Eff × RS) :=
  match draw with
  | false => runOps C ops ops ⟨σ, []⟩
  | true => match runAny C ops ops ⟨σ, []⟩, allPreds ops [] with
    | some (as, rs), some ps => match ordered σ (noBoxes as) as as ps 0 with
      | true => some (as.map (·.e), rs)
      | false => none
    | _, _ => none

def asks : List Prop → Prop → Prop
  | [], k => k
  | p :: r, k => p ∧ asks r k
def asksG (γ : Bool) : List Prop → Prop → Prop
  | [], k => k
  | p :: r, k => (γ = true → p) ∧ asksG γ r k
def gives : List Prop → Prop → Prop
  | [], k => k
  | p :: r, k => p → gives r k
def givesG (γ : Bool) : List Prop → Prop → Prop
  | [], k => k
  | p :: r, k => (γ = true → p) → givesG γ r k

def vcSteps (draw : Bool) : List Eff → Prop → Prop
  | [], k => k
  | s :: r, k => match s.guard with
    | none => asks s.vc (match draw with | true => vcSteps draw r k | false => gives s.fact (vcSteps draw r k))
    | some γ => asksG γ s.vc (match draw with | true => vcSteps draw r k | false => givesG γ s.fact (vcSteps draw r k))

/-- what a region's end does to the state's names: values that name a dead object are forgotten; a slice that was assigned to a variable is named after it -/
def scrub (σ : St) (p : SV → Bool) : List (Nat × SV) → List (Nat × SV)
  | [] => []
  | (s, _) :: r => match p (σ.get s) with | true => (s, .any) :: scrub σ p r | false => scrub σ p r

def deadIn (ob : List (Nat × Option Ob)) : List (Nat × Option Ob) → List Nat
  | [] => []
  | (o, none) :: r => (match look ob o with | some none => o :: deadIn ob r | _ => deadIn ob r)
  | _ :: r => deadIn ob r

def refsAny (os : List Nat) (v : SV) : Bool := match os with
  | [] => false
  | o :: r => match SV.refs o v with | true => true | false => refsAny r v

def gc (n : Nat) (σ : St) : St :=
  match deadIn σ.ob (σ.ob.take (σ.ob.length - n)) with
  | [] => σ
  | os => { σ with sl := scrub σ (refsAny os) σ.sl ++ σ.sl }

def rename (s : Nat) (σ : St) : St :=
  match σ.get s with
  | .own o t => match Nat.beq o s with
    | true => σ
    | false => match σ.obj o, freshOb s σ.ob && Nat.ble (s + 1) 1000000 with
      | some x, true => { sl := (s, .own s t) :: (scrub σ (refsAny [o, s]) σ.sl ++ σ.sl), ob := (s, some x) :: (o, none) :: σ.ob }
      | _, _ => σ
  | _ => σ

/-- the name of a map that lies in a box -/
def nestName (b j : Nat) : Nat := 500000 + 20 * b + j

/-- does no box, as it now is, name this object? -/
def freshNow (σ : St) (s : Nat) : List Nat → Bool
  | [] => true
  | k :: r => match σ.obj k with
    | some (.box _ _ cs) => match SV.refs.refsL s cs with | true => false | false => freshNow σ s r
    | _ => freshNow σ s r

/-- a map in a cell of a box is named after the box and the cell -/
def renameN (b j : Nat) (σ : St) : St :=
  match σ.obj b with
  | some (.box T fz cs) => match cs[j]? with
    | some (.mp o) => match Nat.beq o (nestName b j), Nat.beq b o, Nat.beq b (nestName b j) with
      | false, false, false => match σ.obj o, freshNow σ (nestName b j) (σ.ob.map (·.1)) && Nat.ble (nestName b j + 1) 1000000 with
        | some (.map fm kt vt l), true => { sl := scrub σ (refsAny [o, nestName b j]) σ.sl ++ σ.sl, ob := (b, some (.box T fz (cs.set j (.mp (nestName b j))))) :: (nestName b j, some (.map fm kt vt l)) :: (o, none) :: σ.ob }
        | _, _ => σ
      | _, _, _ => σ
    | _ => σ
  | _ => σ

def renameA (σ : St) (t : Nat) : St :=
  match σ.get t with
  | .bp b 0 => renameN b 0 σ
  | _ => σ

def renameC (σ : St) : List Operand → St
  | .tmp t :: _ => renameA σ t
  | _ => σ

/-- the name of a row that lies in a cell of a box -/
def nestR (b j : Nat) : Nat := match Nat.ble 1000000 b with | true => 400000 + 20 * (b - 1000000) + j | false => 500000 + 20 * b + j

/-- a row in a cell of a box is named after the box and the cell -/
def renameR (b j : Nat) (σ : St) : St :=
  match σ.obj b with
  | some (.box T fz cs) => match cs[j]? with
    | some (.own o u) => match Nat.beq o (nestR b j), Nat.beq b o, Nat.beq b (nestR b j) with
      | false, false, false => match σ.obj o, freshNow σ (nestR b j) (σ.ob.map (·.1)) && Nat.ble (nestR b j + 1) 1000000 with
        | some (.row E t fr nl l), true => { sl := scrub σ (refsAny [o, nestR b j]) σ.sl ++ σ.sl, ob := (b, some (.box T fz (cs.set j (.own (nestR b j) u)))) :: (nestR b j, some (.row E t fr nl l)) :: (o, none) :: σ.ob }
        | _, _ => σ
      | _, _, _ => σ
    | _ => σ
  | _ => σ

def renameS (σ : St) (t : Nat) : St :=
  match σ.get t with
  | .bp b k => renameR b k σ
  | _ => σ

def renames : List Oper → St → St
  | [], σ => σ
  | o :: r, σ => match o.op, o.dst with
    | .assign _, some s => renames r (renameA (rename s σ) s)
    | .call c, _ => renames r (renameC σ c.args.toList)
    | .store _ (.tmp t) _, _ => renames r (renameS σ t)
    | _, _ => renames r σ

/-! ### A body -/

inductive Ex where
  | normal | ret | exit (id : Nat)

structure LoopInv where
  X : Type
  sl : X → List (Nat × SV)
  ob : X → List (Nat × Option Ob)
  inv : X → Prop
  mu : X → Nat

/-- the slots that a body writes -/
def wrOps : List Oper → List Nat
  | [] => []
  | o :: r => match o.dst with | some d => d :: wrOps r | none => wrOps r
def wrCode : Code → List Nat
  | .region _ ops _ => wrOps ops.toList
  | .seq a b => wrCode a ++ wrCode b
  | .cond _ a b => wrCode a ++ wrCode b
  | .block _ a => wrCode a
  | .loop a => wrCode a
  | .scope a => wrCode a
  | _ => []

/-- the first region of a body: by it a loop is known -/
def firstR : Code → Nat
  | .region id _ _ => id
  | .seq a _ => firstR a
  | .block _ a => firstR a
  | .loop a => firstR a
  | _ => 0

def headSt (L : LoopInv) (ws : List Nat) (σ : St) (x : L.X) : St :=
  { sl := L.sl x ++ (ws.map (fun s => (s, SV.any)) ++ σ.sl), ob := L.ob x ++ (ws.map (fun s => (s, none)) ++ σ.ob) }

def eqSV (t t' : Ty) (d : t.Data) (d' : t'.Data) : Prop := match cast? t t' d with | some x => x = d' | none => False

def subSV (σ : St) : SV → SV → Prop
  | _, .any => True
  | v, .dat t d => match toDat σ t v with | some (x, []) => x = d | _ => False
  | .ep t d, .ep t' d' => eqSV t t' d d'
  | .own o _, .own o' _ => match Nat.beq o o' with | true => True | false => False
  | .lit v, .own o _ => match isNilSlice v, σ.obj o with | true, none => True | _, _ => False
  | .osl o t lo n, .osl o' t' lo' n' => match Nat.beq o o', decEqTy t t' with | true, true => lo = lo' ∧ n = n' | _, _ => False
  | .bp o k, .bp o' k' => match Nat.beq o o', Nat.beq k k' with | true, true => True | _, _ => False
  | .mp o, .mp o' => match Nat.beq o o' with | true => True | false => False
  | .ip o, .ip o' => match Nat.beq o o' with | true => True | false => False
  | .fe q o T st ps rs pre K, .fe q' o' T' st' ps' rs' pre' K' => SV.fe q o T st ps rs pre K = SV.fe q' o' T' st' ps' rs' pre' K'
  | _, _ => False

def subSVs (σ : St) : List SV → List SV → Prop
  | [], [] => True
  | a :: r, b :: s => subSV σ a b ∧ subSVs σ r s
  | _, _ => False

/-- what is frozen may stand for what is not yet -/
def subFz : Bool → Bool → Bool
  | false, true => false
  | _, _ => true

def subNl : Nl → Nl → Bool
  | .unk, _ => true
  | .yes, .yes => true
  | .no, .no => true
  | _, _ => false

/-- 'fz': frozen in the state described; 'fz'' in the state that is -/
def subOb (σ : St) (o : Nat) : Ob → Prop
  | .box T fz cs => match σ.obj o with
    | some (.box T' fz' cs') => match Nat.beq T T', subFz fz fz' with
      | true, true => subSVs σ cs' cs
      | _, _ => False
    | _ => False
  | .row E t fz nl l => match σ.obj o with
    | some (.row E' t' fz' nl' l') => match Nat.beq E E', subFz fz fz' with
      | true, true => match subNl nl nl' with
        | true => eqSV (.slice t') (.slice t) l' l
        | false => match nl, nl' with
          | .yes, .no => l ≠ [] ∧ eqSV (.slice t') (.slice t) l' l
          | _, _ => False
      | _, _ => False
    | none => match fz, nl, freshSl o σ.sl, freshOb o σ.ob && Nat.ble (o + 1) 1000000 with | false, .yes, true, true => l = [] | false, .unk, true, true => l = [] | _, _, _, _ => False
    | _ => False
  | .map fz kt vt l => match σ.obj o with
    | some (.map fz' kt' vt' l') => match subFz fz fz' with
      | true => eqSV (.map kt' vt') (.map kt vt) l' l
      | false => False
    | _ => False
  | .iter kt vt left none => match σ.obj o with
    | some (.iter kt' vt' left' _) => eqSV (.map kt' vt') (.map kt vt) left' left
    | _ => False
  | _ => False

/-- the keys of the entries that lie ahead of the last 'm' -/
def keysTo {α : Type} : List (Nat × α) → (drop : Nat) → List Nat
  | [], _ => []
  | (k, _) :: r, m => match Nat.ble (r.length + 1) m with
    | true => []
    | false => union [k] (keysTo r m)

def subSlots (σ τ : St) : List Nat → Prop
  | [] => True
  | s :: r => match τ.get s with
    | .any => subSlots σ τ r
    | v => subSV σ (σ.get s) v ∧ subSlots σ τ r

def subObs (σ τ : St) : List Nat → Prop
  | [] => True
  | o :: r => match τ.obj o with
    | none => subObs σ τ r
    | some x => subOb σ o x ∧ subObs σ τ r

/-- the state 'σ' is one of those that 'τ' describes; they part in the first entries of 'σ' or of 'τ' alone -/
def sub (σ τ : St) (ks os : List Nat) : Prop := subSlots σ τ ks ∧ subObs σ τ os

abbrev Ann := Nat → Option (St → LoopInv)

/-- a region that begins with a step of a range over a map -/
def nextOp : List Oper → Option (Nat × Operand × List Oper)
  | [] => none
  | o :: r => match o.op, o.dst, o.guard with
    | .next it false, some d, none => some (d, it, r)
    | _, _, _ => none

/-- what is left of a region, in its one order -/
def restVC (C : Ctx) (ops r : List Oper) (n : Nat) (σ : St) (K : Ex → St → Prop) : Prop :=
  match runOps C ops r ⟨σ, []⟩ with
  | none => False
  | some (ss, rs) => vcSteps false ss (K .normal (renames ops (gc n rs.st)))

def nextVC (C : Ctx) (ops r : List Oper) (d : Nat) (it : Operand) (σ : St) (K : Ex → St → Prop) : Prop :=
  match inFrame C (some d), opnd σ it with
  | true, .ip o => match σ.obj o with
    | some (.iter kt vt left _) =>
      (left = [] → restVC C ops r σ.ob.length ⟨(d, .tup [.dat .bool false]) :: σ.sl, σ.ob⟩ K) ∧
      ∀ (pre : List (kt.Data × vt.Data)) (x : kt.Data × vt.Data) (post : List (kt.Data × vt.Data)), left = pre ++ x :: post →
        restVC C ops r σ.ob.length ⟨(d, .tup [.dat .bool true, .dat kt x.1, .dat vt x.2]) :: σ.sl, (o, some (.iter kt vt (pre ++ post) (some x))) :: σ.ob⟩ K
    | _ => False
  | _, _ => False

/-- a region that ends with a test of a slice for nil: what lies ahead of it, the type, the slot, where the answer goes -/
def nilOp : List Oper → Option (List Oper × Nat × Nat × Nat)
  | [] => none
  | [o] => match o.op, o.dst, o.guard with
    | .binOp .eql U (.tmp t) (.const v) _, some d, none => match isNilSlice v with | true => some ([], U, t, d) | false => none
    | _, _, _ => none
  | o :: r => match nilOp r with
    | some (i, U, t, d) => some (o :: i, U, t, d)
    | none => none

/-- the entry of a map is laid: its stamp is not known -/
structure EntryOf where
  o : Nat
  kt : Ty
  vt : Ty
  l : List (kt.Data × vt.Data)
  k : kt.Data
  d : Nat

def entryOf (C : Ctx) (ops : List Oper) (o : Oper) (rs : RS) : Option EntryOf :=
  match o.op, o.guard, o.dst with
  | .mapEntry U m ix, none, some d => match C.mapT U, opnd rs.st m with
    | some (_, tk, te), .mp ob => match rs.st.obj ob with
      | some (.map false kt vt l) => match cast? (.map kt vt) (.map tk.ty te.ty) l, toDat rs.st tk.ty (opnd rs.st ix), inFrame C (some d), okDst ops o rs with
        | some l', some (k, []), true, true => some ⟨ob, tk.ty, te.ty, l', k, d⟩
        | _, _, _, _ => none
      | _ => none
    | _, _ => none
  | _, _, _ => none

def entryEff (x : EntryOf) (s : Int) : Eff := ⟨none, [], [], [(x.d, .tup [.dat x.vt (mvalD x.vt.dflt (mfind x.kt x.k x.l)), .dat .int s])], [], [(x.o, some (.mape x.kt x.vt x.l x.k s))], []⟩

def isEntryOp : Op → Bool
  | .mapEntry _ _ _ => true
  | _ => false

def hasEntry : List Oper → Bool
  | [] => false
  | o :: r => match isEntryOp o.op with | true => true | false => hasEntry r

/-- one operation of a region in a given order -/
def stepVC (C : Ctx) (ops : List Oper) (o : Oper) (rs : RS) (k : RS → Prop) : Prop :=
  match isEntryOp o.op with
  | true => match entryOf C ops o rs with
    | some x => ∀ s : Int, k (addEff (entryEff x s) rs)
    | none => False
  | false => match effOf C ops o rs with
    | none => False
    | some e => match fits C ops o rs e with
      | false => False
      | true => vcSteps true [e] (k (addEff e rs))

/-- is an operation next? -/
def isNext (done : List Nat) (after : List Edge) : Bool := match after with
  | [] => true
  | e :: r => match Region.binds .any e with
    | false => isNext done r
    | true => match memb done e.on with | true => isNext done r | false => false

/-- each operation that may be next -/
def eachNext (C : Ctx) (ops : List Oper) (done : List Nat) (rs : RS) (rec : List Nat → RS → Prop) : List Oper → Nat → Prop
  | [], _ => True
  | o :: r, i => match memb done i with
    | true => eachNext C ops done rs rec r (i + 1)
    | false => match isNext done o.after.toList with
      | false => eachNext C ops done rs rec r (i + 1)
      | true => stepVC C ops o rs (rec (i :: done)) ∧ eachNext C ops done rs rec r (i + 1)

/-- a region in each of its orders, one by one -/
def orderVC (C : Ctx) (ops : List Oper) (K : RS → Prop) : Nat → List Nat → RS → Prop
  | 0, _, rs => K rs
  | fuel + 1, done, rs => eachNext C ops done rs (orderVC C ops K fuel) ops 0

def ordVC (C : Ctx) (ops : List Oper) (draw : Bool) (σ : St) (K : Ex → St → Prop) : Prop :=
  match draw, hasEntry ops, allPreds ops [] with
  | true, true, some _ => orderVC C ops (fun rs => K .normal (renames ops (gc σ.ob.length rs.st))) ops.length [] ⟨σ, []⟩
  | _, _, _ => False

def regionVC (C : Ctx) (ops : List Oper) (draw : Bool) (σ : St) (K : Ex → St → Prop) : Prop :=
  match runRegion C ops draw σ with
  | none => ordVC C ops draw σ K
  | some (ss, rs) => vcSteps draw ss (K .normal (renames ops (gc σ.ob.length rs.st)))

/-- is a slice of data nil? It is not known, but only one that is empty can be -/
def nilVC (C : Ctx) (ops i : List Oper) (U t d : Nat) (σ : St) (K : Ex → St → Prop) : Prop :=
  match runOps C ops i ⟨σ, []⟩ with
  | none => False
  | some (ss, rs) => match rs.st.get t with
    | .dat (.slice _) l => match C.slice U, inFrame C (some d) with
      | some _, true => vcSteps false ss (∀ β : Bool, (β = true → l = []) → K .normal (renames ops (gc σ.ob.length ⟨(d, .dat .bool β) :: rs.st.sl, rs.st.ob⟩)))
      | _, _ => False
    | _ => regionVC C ops false σ K

/-- a loop: what holds where it begins, and each round -/
def loopVC (A : Ann) (a : Code) (run : St → (Ex → St → Prop) → Prop) (σ : St) (K : Ex → St → Prop) : Prop :=
  match A (firstR a) with
  | none => False
  | some L =>
    (∃ x : (L σ).X, sub σ (headSt (L σ) (wrCode a) σ x) (keys ((L σ).sl x)) (keys ((L σ).ob x)) ∧ (L σ).inv x) ∧
    ∀ x : (L σ).X, (L σ).inv x → run (headSt (L σ) (wrCode a) σ x) (fun e σ' => match e with
      | .normal => ∃ x' : (L σ).X, sub σ' (headSt (L σ) (wrCode a) σ x') (union (keys ((L σ).sl x')) (union (keys ((L σ).sl x)) (keysTo σ'.sl (headSt (L σ) (wrCode a) σ x).sl.length)))
            (union (keys ((L σ).ob x')) (union (keys ((L σ).ob x)) (keysTo σ'.ob (headSt (L σ) (wrCode a) σ x).ob.length))) ∧ (L σ).inv x' ∧ (L σ).mu x' < (L σ).mu x
      | e => K e σ')

/-- a loop whose number, with a million added, the annotation knows, runs its first round ahead of what it is known by -/
def vcg (C : Ctx) (A : Ann) : Code → St → (Ex → St → Prop) → Prop
  | .skip, σ, K => K .normal σ
  | .region _ ops draw, σ, K => match nextOp ops.toList, draw with
    | some (d, it, r), false => nextVC C ops.toList r d it σ K
    | _, _ => match nilOp ops.toList, draw with
      | some (i, U, t, d), false => nilVC C ops.toList i U t d σ K
      | _, _ => regionVC C ops.toList draw σ K
  | .seq a b, σ, K => vcg C A a σ (fun e σ' => match e with
    | .normal => vcg C A b σ' K
    | e => K e σ')
  | .cond c a b, σ, K => match opnd σ c with
    | .dat .bool β => (β = true → vcg C A a σ K) ∧ (β = false → vcg C A b σ K)
    | _ => False
  | .block id a, σ, K => vcg C A a σ (fun e σ' => match e with
    | .exit id' => match Nat.beq id id' with
      | true => K .normal σ'
      | false => K (.exit id') σ'
    | e => K e σ')
  | .loop a, σ, K => match A (firstR a + 1000000) with
    | none => loopVC A a (vcg C A a) σ K
    | some _ => vcg C A a σ (fun e σ' => match e with
      | .normal => loopVC A a (vcg C A a) σ' K
      | e => K e σ')
  | .exit id, σ, K => K (.exit id) σ
  | .ret, σ, K => K .ret σ
  | _, _, _ => False

/-! ### A function -/

def initSl : (ps : List Par) → PD ps → Nat → List (Nat × SV)
  | [], _, _ => []
  | .val t :: ps, d, i => (i, .dat t d.1) :: initSl ps d.2 (i + 1)
  | .ref t :: ps, d, i => (i, .ep t d.1) :: initSl ps d.2 (i + 1)
  | .fn as rs :: ps, d, i => (i, .fn as rs d.1.pre d.1.F) :: initSl ps d.2 (i + 1)
  | .rfn as rs :: ps, d, i => (i, .fnp as rs d.1.pre d.1.F) :: initSl ps d.2 (i + 1)

/-- what a result variable holds -/
def resSVof (C : Ctx) (σ : St) : ResultVar → SV
  | .tmp s => σ.get s
  | .cell s T => match C.info T, σ.get s with
    | some ti, .bp o 0 => match σ.obj o with
      | some (.box _ _ cs) => match ti.agg, Nat.beq cs.length ti.size with
        | true, true => .agg cs
        | false, true => (match cs with | [v] => v | _ => .any)
        | _, _ => .any
      | _ => .any
    | _, _ => .any

def resOf (C : Ctx) (σ : St) : (rs : List Ty) → List ResultVar → Option (Ty.st rs).Data
  | [], [] => some ()
  | t :: ts, v :: r => match toDat σ t (resSVof C σ v) with
    | some (x, _) => match resOf C σ ts r with
      | some y => some (x, y)
      | none => none
    | none => none
  | _, _ => none

def finish (C : Ctx) (fn : Func) (s : Spec) (want : (Ty.st s.rs).Data) : Ex → St → Prop
  | .exit _, _ => False
  | _, σ => match resOf C σ s.rs fn.results.toList with
    | some r => r = want
    | none => False

@[irreducible] def fnVC (C : Ctx) (A : Ann) (fn : Func) (body : Code) (s : Spec) : Prop :=
  ∀ d : PD s.ps, gives (s.pre d) (vcg C A body ⟨initSl s.ps d 0, []⟩ (finish C fn s (s.F d)))

end Go.X
/-
  What symbolic values, objects and states mean in a world; how this meaning is kept.
-/
namespace Go.X
open Go.RowKit (Below)

/-! ### No step gives draws back -/

theorem viewStore_drawn {w w' : World} {p : Program} {at_ : Addr} {u : TypeId} {k : Addr} {v : Value} {at' : Bool} {l : List Addr} (h : w.viewStore p at_ u k v at' = .ok (w', l)) : w'.drawn = w.drawn := by
  simp only [World.viewStore, bind, Except.bind, pure, Except.pure] at h
  repeat' (split at h)
  all_goals first | (cases h; done) | (cases h; rfl) | contradiction
theorem farStore_drawn {w w' : World} {p : Program} {a : Addr} {v : Value} {at' : Bool} {l : List Addr} (h : w.farStore p a v at' = .ok (w', l)) : w'.drawn = w.drawn := by
  unfold World.farStore at h
  split at h
  · split at h
    · rename_i r hr
      cases h
      exact viewStore_drawn hr
    · cases h
  · cases h
theorem ask_drawn {α : Type} : ∀ (s : Ask α) (w : World), w.drawn ≤ (w.ask s).2.drawn
  | .done a, w => by simp [World.ask]
  | .ask what range k, w => by
    simp only [World.ask]
    split
    · exact ask_drawn (k 0) w
    · exact Nat.le_trans (Nat.le_succ _) (ask_drawn (k _) { w with drawn := w.drawn + 1 })
theorem sys_drawn (w : World) (c : Sys) : w.drawn ≤ (w.sys c).2.drawn := by
  unfold World.sys
  split
  · exact Nat.le_refl _
  · rename_i r os w' _ h
    have := ask_drawn (Kernel.perform c w.os) w
    rw [h] at this
    exact this
/-- no step gives draws back -/
theorem run_drawn {P : Program} {α : Type} : ∀ (s : Sem α) {w w' : World} {a : α}, s.run P w = .ok a w' → w.drawn ≤ w'.drawn
  | .pure a, w, w', x, h => by simp only [Sem.run] at h; cases h; exact Nat.le_refl _
  | .load m a k, w, w', x, h => by
    simp only [Sem.run] at h
    split at h
    · exact run_drawn _ h
    · split at h
      · exact run_drawn _ h
      · cases h
  | .store m a v k, w, w', x, h => by
    cases v <;> simp only [Sem.run] at h <;> first
      | (cases h; done)
      | (split at h
         · split at h
           · cases h
           · have := run_drawn (w := w.setCell a _) k h
             exact this
         · split at h
           · rename_i w1 _ hf
             have h1 := farStore_drawn hf
             have := run_drawn k h
             omega
           · cases h)
  | .new o k, w, w', x, h => by
    simp only [Sem.run] at h
    have := run_drawn (w := { w with heap := w.heap.push o }) (k _) h
    exact this
  | .shape r k, w, w', x, h => by simp only [Sem.run] at h; exact run_drawn _ h
  | .freeze a n k, w, w', x, h => by
    simp only [Sem.run] at h
    have := run_drawn k h
    have e : (w.freeze a n).drawn = w.drawn := by unfold World.freeze; split <;> rfl
    omega
  | .frozen a k, w, w', x, h => by simp only [Sem.run] at h; exact run_drawn _ h
  | .getObj r k, w, w', x, h => by
    simp only [Sem.run] at h
    split at h
    · cases h
    · exact run_drawn _ h
    · cases h
  | .setObj r o k, w, w', x, h => by
    simp only [Sem.run] at h
    split at h
    · cases h
    · have := run_drawn (w := { w with heap := w.heap.setIfInBounds r o }) k h
      exact this
    · cases h
  | .choose q k, w, w', x, h => by
    simp only [Sem.run] at h
    split at h
    · exact run_drawn _ h
    · exact Nat.le_trans (Nat.le_succ _) (run_drawn _ h)
  | .sys c k, w, w', x, h => by
    simp only [Sem.run] at h
    exact Nat.le_trans (sys_drawn w c) (run_drawn _ h)
  | .program k, w, w', x, h => by simp only [Sem.run] at h; exact run_drawn _ h
  | .mark m k, w, w', x, h => by simp only [Sem.run] at h; exact run_drawn _ h
  | .halt e, w, w', x, h => by simp only [Sem.run] at h; cases h

/-- what a block holds that stays as it is -/
inductive Fz where
  | cells (c : Array Value)
  | map (es : Array MapEntry) (clock : Nat)

def Fz.at : Fz → Option Obj → Prop
  | .cells c, o => ∃ T fr, o = some (.cells c T fr)
  | .map es clock, o => o = some (.map es clock)

abbrev Imm := Nat → Option Fz

/-! ### Data in memory that stays -/

def isAggV : Value → Bool
  | .agg _ => true
  | _ => false

def Ty.rd (H : Imm) : (t : Ty) → (Nat → Option Value) → t.Data → Prop
  | .int, f, x => f 0 = some (.int .i64 x)
  | .bool, f, x => f 0 = some (.bool x)
  | .uint k, f, x => f 0 = some (.int k x)
  | .slice t, f, l => ∃ a n c, f 0 = some (.slice a n c) ∧ n = l.length ∧ n ≤ c ∧ l.length < 4611686018427387904 ∧ (a = none → c = 0) ∧
      (l ≠ [] → ∃ b off blk, a = some ⟨b, off, none⟩ ∧ H b = some (.cells blk) ∧ ∀ i x, l[i]? = some x → t.rd H (fun j => blk[off + i * t.size + j]?) x)
  | .unit, _, _ => True
  | .pair a b, f, d => a.rd H f d.1 ∧ b.rd H (fun j => f (a.size + j)) d.2
  | .map k v, f, l => ∃ p, f 0 = some (.map p) ∧ (p = none → l = []) ∧ ∀ b, p = some b → ∃ (es : Array MapEntry) (clock : Nat), H b = some (.map es clock) ∧ es.size = l.length ∧ es.size ≤ clock ∧
      (∀ (i : Nat) (e : MapEntry), es[i]? = some e → e.born < clock) ∧ (∀ (i j : Nat) (e e' : MapEntry), es[i]? = some e → es[j]? = some e' → e.born = e'.born → i = j) ∧
      ∀ (i : Nat) x, l[i]? = some x → ∃ e : MapEntry, es[i]? = some e ∧ (isAggV e.key = k.agg ∧ e.key.cells.size = k.size ∧ k.rd H (fun i => e.key.cells[i]?) x.1) ∧ (isAggV e.val = v.agg ∧ e.val.cells.size = v.size ∧ v.rd H (fun i => e.val.cells[i]?) x.2)

def Ty.rv (H : Imm) (t : Ty) (v : Value) (d : t.Data) : Prop :=
  isAggV v = t.agg ∧ v.cells.size = t.size ∧ t.rd H (fun i => v.cells[i]?) d

theorem Ty.rd_mono {H H' : Imm} (hH : ∀ b c, H b = some c → H' b = some c) : ∀ (t : Ty) (f : Nat → Option Value) (d : t.Data), t.rd H f d → t.rd H' f d
  | .int, _, _, h => h
  | .bool, _, _, h => h
  | .uint _, _, _, h => h
  | .unit, _, _, _ => trivial
  | .pair a b, f, d, h => ⟨a.rd_mono hH _ _ h.1, b.rd_mono hH _ _ h.2⟩
  | .map k v, f, l, h => by
    obtain ⟨p, h1, h2, h3⟩ := h
    refine ⟨p, h1, h2, fun b hb => ?_⟩
    obtain ⟨es, clock, e1, e2, e3, e4, e5, e6⟩ := h3 b hb
    refine ⟨es, clock, hH _ _ e1, e2, e3, e4, e5, fun i x hx => ?_⟩
    obtain ⟨e, g1, ⟨g2, g3, g4⟩, g5, g6, g7⟩ := e6 i x hx
    exact ⟨e, g1, ⟨g2, g3, k.rd_mono hH _ _ g4⟩, g5, g6, v.rd_mono hH _ _ g7⟩
  | .slice t, f, l, h => by
    obtain ⟨a, n, c, h1, h2, h3, h4, h6, h5⟩ := h
    refine ⟨a, n, c, h1, h2, h3, h4, h6, fun hl => ?_⟩
    obtain ⟨b, off, blk, e1, e2, e3⟩ := h5 hl
    exact ⟨b, off, blk, e1, hH _ _ e2, fun i x hx => t.rd_mono hH _ _ (e3 i x hx)⟩

theorem Ty.rd_congr {H : Imm} : ∀ (t : Ty) (f g : Nat → Option Value) (d : t.Data), (∀ i, i < t.size → f i = g i) → t.rd H f d → t.rd H g d
  | .int, f, g, _, e, h => by rw [Ty.rd, ← e 0 (by simp [Ty.size])]; exact h
  | .bool, f, g, _, e, h => by rw [Ty.rd, ← e 0 (by simp [Ty.size])]; exact h
  | .uint _, f, g, _, e, h => by rw [Ty.rd, ← e 0 (by simp [Ty.size])]; exact h
  | .unit, _, _, _, _, _ => trivial
  | .pair a b, f, g, d, e, h => ⟨a.rd_congr f g _ (fun i hi => e i (by simp [Ty.size]; omega)) h.1,
      b.rd_congr _ _ _ (fun i hi => e _ (by simp [Ty.size]; omega)) h.2⟩
  | .slice t, f, g, l, e, h => by
    obtain ⟨a, n, c, h1, r⟩ := h
    exact ⟨a, n, c, by rw [← e 0 (by simp [Ty.size])]; exact h1, r⟩
  | .map k v, f, g, l, e, h => by
    obtain ⟨p, h1, r⟩ := h
    exact ⟨p, by rw [← e 0 (by simp [Ty.size])]; exact h1, r⟩

theorem Ty.rv_mono {H H' : Imm} (hH : ∀ b c, H b = some c → H' b = some c) {t : Ty} {v : Value} {d : t.Data} (h : t.rv H v d) : t.rv H' v d :=
  ⟨h.1, h.2.1, t.rd_mono hH _ _ h.2.2⟩

theorem castD_rd {H : Imm} {a b : Ty} (e : a = b) (f : Nat → Option Value) (d : a.Data) : b.rd H f (castD e d) ↔ a.rd H f d := by subst e; rfl
theorem castD_rv {H : Imm} {a b : Ty} (e : a = b) (v : Value) (d : a.Data) : b.rv H v (castD e d) ↔ a.rv H v d := by subst e; rfl

theorem cast?_some {a b : Ty} {d : a.Data} {x : b.Data} (h : cast? a b d = some x) : ∃ e : a = b, x = castD e d := by
  unfold cast? at h
  split at h
  · rename_i e; exact ⟨e, by simpa using h.symm⟩
  · cases h

/-! ### Calls -/

def Good (H : Imm) (w : World) : Prop := ∀ b c, H b = some c → c.at w.heap[b]?

structure HExt (H : Imm) (w : World) (H' : Imm) (w' : World) : Prop where
  below : Below w.heap.size w w'
  good : Good H' w'
  old : ∀ b, b < w.heap.size → H' b = H b
  drawn : w.drawn ≤ w'.drawn

theorem Fz.at_some {c : Fz} {o : Option Obj} (h : c.at o) : ∃ x, o = some x := by
  cases c with
  | cells c => obtain ⟨T, fr, e⟩ := h; exact ⟨_, e⟩
  | map es clock => exact ⟨_, h⟩

theorem Good.lt {H : Imm} {w : World} (h : Good H w) {b : Nat} {c : Fz} (hb : H b = some c) : b < w.heap.size := by
  obtain ⟨x, e⟩ := Fz.at_some (h b c hb)
  exact (Array.getElem?_eq_some_iff.1 e).1

theorem Good.cells {H : Imm} {w : World} (h : Good H w) {b : Nat} {c : Array Value} (hb : H b = some (.cells c)) : ∃ T fr, w.heap[b]? = some (.cells c T fr) := h b _ hb

theorem HExt.mono {H H' : Imm} {w w' : World} (g : Good H w) (h : HExt H w H' w') : ∀ b c, H b = some c → H' b = some c :=
  fun b c hb => by rw [h.old b (g.lt hb)]; exact hb

/-- values that read as data, one for each type -/
def rvs (H : Imm) : (ts : List Ty) → List Value → (Ty.st ts).Data → Prop
  | [], vs, _ => vs = []
  | t :: ts, v :: vs, d => t.rv H v d.1 ∧ rvs H ts vs d.2
  | _ :: _, [], _ => False

def resV (H : Imm) (rs : List Ty) (v : Value) (d : (Ty.st rs).Data) : Prop :=
  match rs, d with
  | [t], d => t.rv H v d.1
  | rs, d => ∃ vs, v = .tuple vs ∧ rvs H rs vs.toList d

def AllP : List Prop → Prop
  | [] => True
  | p :: r => p ∧ AllP r

def enters (P : Program) (k : Nat) : Prop := ∀ args w, (callFunc k args).run P w = .ok (.enter k args) w

def Post (H : Imm) (w : World) (rs : List Ty) (r : (Ty.st rs).Data) : Ending → World → Prop :=
  fun e w' => ∃ v H', e = .returned v ∧ HExt H w H' w' ∧ resV H' rs v r

/-- a function value of known meaning -/
def FnV (P : Program) (H : Imm) (ps rs : List Ty) (pre : (Ty.st ps).Data → List Prop) (F : (Ty.st ps).Data → (Ty.st rs).Data) (v : Value) : Prop :=
  ∃ k caps, v = .func (.func k) #[] caps ∧ enters P k ∧
    ∀ H' w vals x, (∀ b c, H b = some c → H' b = some c) → Good H' w → rvs H' ps vals x → AllP (pre x) → Calls P k (vals.toArray ++ caps) w (Post H' w rs (F x))

theorem FnV.mono {P : Program} {H H' : Imm} (hH : ∀ b c, H b = some c → H' b = some c) {ps rs pre F v} (h : FnV P H ps rs pre F v) : FnV P H' ps rs pre F v := by
  obtain ⟨k, caps, e, en, r⟩ := h
  exact ⟨k, caps, e, en, fun H'' w vals x h1 => r H'' w vals x (fun b c hb => h1 b c (hH b c hb))⟩

structure HExtB (bs : List Nat) (H : Imm) (w : World) (H' : Imm) (w' : World) : Prop where
  os : w'.os = w.os
  tape : w'.tape = w.tape
  output : w'.output = w.output
  drawn : w.drawn ≤ w'.drawn
  size : w.heap.size ≤ w'.heap.size
  block : ∀ b, b < w.heap.size → b ∉ bs → w'.heap[b]? = w.heap[b]?
  old : ∀ b, b < w.heap.size → b ∉ bs → H' b = H b
  good : Good H' w'

/-- what a call leaves that may change one variable of the caller's -/
def PostE (H : Imm) (w : World) (b T : Nat) (st : Ty) (rs : List Ty) (r : (Ty.st rs).Data × st.Data) : Ending → World → Prop :=
  fun e w' => ∃ v H' u, e = .returned v ∧ HExtB [b] H w H' w' ∧ H' b = none ∧ w'.heap[b]? = some (.cells #[u] T (0, 0)) ∧ st.rv H' u r.2 ∧ resV H' rs v r.1

/-- a function value that may change one variable: of known meaning -/
def FnE (P : Program) (H : Imm) (b T : Nat) (st : Ty) (ps rs : List Ty) (pre : (Ty.st ps).Data → List Prop) (K : (Ty.st ps).Data → st.Data → (Ty.st rs).Data × st.Data) (v : Value) : Prop :=
  ∃ k caps, v = .func (.func k) #[] caps ∧ enters P k ∧
    ∀ H' w vals x s u, (∀ b c, H b = some c → H' b = some c) → Good H' w → H' b = none → w.heap[b]? = some (.cells #[u] T (0, 0)) → st.rv H' u s → rvs H' ps vals x → AllP (pre x) → Calls P k (vals.toArray ++ caps) w (PostE H' w b T st rs (K x s))

theorem FnE.mono {P : Program} {H H' : Imm} (hH : ∀ b c, H b = some c → H' b = some c) {b T st ps rs pre K v} (h : FnE P H b T st ps rs pre K v) : FnE P H' b T st ps rs pre K v := by
  obtain ⟨k, caps, e, en, r⟩ := h
  exact ⟨k, caps, e, en, fun H'' w vals x s u h1 => r H'' w vals x s u (fun b c hb => h1 b c (hH b c hb))⟩

/-! ### Symbolic values -/

structure Env where
  H : Imm
  blk : Nat → Option (Option (Nat × Nat))
  len : Nat → Nat

mutual
def SV.den (P : Program) (ρ : Env) : SV → Value → Prop
  | .any, _ => True
  | .dat t d, v => t.rv ρ.H v d
  | .ep t d, v => ∃ b off c, v = .pointer (some ⟨b, off, none⟩) ∧ ρ.H b = some (.cells c) ∧ t.rd ρ.H (fun j => c[off + j]?) d
  | .bp o off, v => ∀ p, ρ.blk o = some p → ∃ b C, p = some (b, C) ∧ v = .pointer (some ⟨b, off, none⟩)
  | .own o _, v => ∀ p, ρ.blk o = some p → match p with
      | none => v = .slice none 0 0 ∧ ρ.len o = 0
      | some (b, C) => v = .slice (some ⟨b, 0, none⟩) (ρ.len o) C ∧ ρ.len o ≤ C
  | .osl o t lo n, v => ∀ p, ρ.blk o = some p → match p with
      | none => v = .slice none 0 0 ∧ n = 0
      | some (b, C) => ∃ a cap, v = .slice (some a) n cap ∧ n ≤ cap ∧ lo + cap = C ∧ lo + n ≤ ρ.len o ∧ ((lo = 0 ∨ 0 < cap) → a = ⟨b, lo * t.size, none⟩)
  | .rp o t i off, v => ∀ p, ρ.blk o = some p → i < ρ.len o ∧ ∃ b C, p = some (b, C) ∧ v = .pointer (some ⟨b, i * t.size + off, none⟩)
  | .mp o, v => ∀ p, ρ.blk o = some p → ∃ b C, p = some (b, C) ∧ v = .map (some b)
  | .ip o, v => ∀ p, ρ.blk o = some p → ∃ b C, p = some (b, C) ∧ v = .pointer (some ⟨b, 0, none⟩)
  | .fn ps rs pre F, v => FnV P ρ.H ps rs pre F v
  | .fnp ps rs pre F, v => ∃ b u, v = .pointer (some ⟨b, 0, none⟩) ∧ ρ.H b = some (.cells #[u]) ∧ FnV P ρ.H ps rs pre F u
  | .fe ptr o T st ps rs pre K, v => ∀ p, ρ.blk o = some p → ∃ b C, p = some (b, C) ∧ ∃ u, FnE P ρ.H b T st ps rs pre K u ∧ (match ptr with
      | false => v = u
      | true => ∃ b', v = .pointer (some ⟨b', 0, none⟩) ∧ ρ.H b' = some (.cells #[u]))
  | .clo f caps, v => ∃ vs : Array Value, v = .func (.func f) #[] vs ∧ SV.denL P ρ caps vs.toList
  | .agg cs, v => ∃ vs : Array Value, v = .agg vs ∧ SV.denL P ρ cs vs.toList ∧ ∀ u ∈ vs.toList, u.oneCell' = true
  | .tup cs, v => ∃ vs : Array Value, v = .tuple vs ∧ SV.denL P ρ cs vs.toList
  | .lit u, v => v = u
def SV.denL (P : Program) (ρ : Env) : List SV → List Value → Prop
  | [], vs => vs = []
  | c :: cs, vs => ∃ v r, vs = v :: r ∧ SV.den P ρ c v ∧ SV.denL P ρ cs r
end

structure Env.le (ρ ρ' : Env) (new : List Nat) : Prop where
  H : ∀ b c, ρ.H b = some c → ρ'.H b = some c
  blk : ∀ o p, o ∉ new → ρ'.blk o = some p → ρ.blk o = some p
  len : ∀ o, o ∉ new → ρ'.len o = ρ.len o

theorem Env.le.refl (ρ : Env) (new : List Nat) : ρ.le ρ new := ⟨fun _ _ h => h, fun _ _ _ h => h, fun _ _ => rfl⟩
theorem Env.le.trans {ρ ρ' ρ'' : Env} {n : List Nat} (h : ρ.le ρ' n) (k : ρ'.le ρ'' n) : ρ.le ρ'' n :=
  ⟨fun b c hb => k.H b c (h.H b c hb), fun o p ho hp => h.blk o p ho (k.blk o p ho hp), fun o ho => (k.len o ho).trans (h.len o ho)⟩
theorem Env.le.weaken {ρ ρ' : Env} {n m : List Nat} (h : ρ.le ρ' n) (hs : ∀ o, o ∈ n → o ∈ m) : ρ.le ρ' m :=
  ⟨h.H, fun o p ho => h.blk o p (fun hn => ho (hs o hn)), fun o ho => h.len o (fun hn => ho (hs o hn))⟩

theorem beq_of_refs {o o' : Nat} (h : Nat.beq o o' = false) : o ≠ o' := by
  intro e; subst e; simp at h

mutual
theorem SV.den_mono {P : Program} {ρ ρ' : Env} {new : List Nat} (h : ρ.le ρ' new) : ∀ (sv : SV) (v : Value), (∀ o, o ∈ new → sv.refs o = false) → sv.den P ρ v → sv.den P ρ' v
  | .any, _, _, _ => by simp [SV.den]
  | .dat t d, v, _, k => by simp only [SV.den] at k ⊢; exact Ty.rv_mono h.H k
  | .ep t d, v, _, k => by
    simp only [SV.den] at k ⊢
    obtain ⟨b, off, c, e1, e2, e3⟩ := k
    exact ⟨b, off, c, e1, h.H _ _ e2, t.rd_mono h.H _ _ e3⟩
  | .bp o off, v, hr, k => by
    simp only [SV.den] at k ⊢
    have ho : o ∉ new := fun hn => by have := hr o hn; simp [SV.refs] at this
    exact fun p hp => k p (h.blk o p ho hp)
  | .own o t, v, hr, k => by
    simp only [SV.den] at k ⊢
    have ho : o ∉ new := fun hn => by have := hr o hn; simp [SV.refs] at this
    rw [h.len o ho]
    exact fun p hp => k p (h.blk o p ho hp)
  | .osl o t lo n, v, hr, k => by
    simp only [SV.den] at k ⊢
    have ho : o ∉ new := fun hn => by have := hr o hn; simp [SV.refs] at this
    rw [h.len o ho]
    exact fun p hp => k p (h.blk o p ho hp)
  | .rp o t i off, v, hr, k => by
    simp only [SV.den] at k ⊢
    have ho : o ∉ new := fun hn => by have := hr o hn; simp [SV.refs] at this
    rw [h.len o ho]
    exact fun p hp => k p (h.blk o p ho hp)
  | .mp o, v, hr, k => by
    simp only [SV.den] at k ⊢
    have ho : o ∉ new := fun hn => by have := hr o hn; simp [SV.refs] at this
    exact fun p hp => k p (h.blk o p ho hp)
  | .ip o, v, hr, k => by
    simp only [SV.den] at k ⊢
    have ho : o ∉ new := fun hn => by have := hr o hn; simp [SV.refs] at this
    exact fun p hp => k p (h.blk o p ho hp)
  | .fn ps rs pre F, v, _, k => by simp only [SV.den] at k ⊢; exact FnV.mono h.H k
  | .fnp ps rs pre F, v, _, k => by
    simp only [SV.den] at k ⊢
    obtain ⟨b, u, e1, e2, e3⟩ := k
    exact ⟨b, u, e1, h.H _ _ e2, FnV.mono h.H e3⟩
  | .fe ptr o T st ps rs pre K, v, hr, k => by
    simp only [SV.den] at k ⊢
    have ho : o ∉ new := fun hn => by have := hr o hn; simp [SV.refs] at this
    intro p hp
    obtain ⟨b, C, e, u, h1, h2⟩ := k p (h.blk o p ho hp)
    refine ⟨b, C, e, u, FnE.mono h.H h1, ?_⟩
    cases ptr with
    | false => exact h2
    | true =>
      obtain ⟨b', e1, e2⟩ := h2
      exact ⟨b', e1, h.H _ _ e2⟩
  | .clo f caps, v, hr, k => by
    simp only [SV.den] at k ⊢
    obtain ⟨vs, e, r⟩ := k
    exact ⟨vs, e, SV.denL_mono h caps _ (fun o ho => by have := hr o ho; simpa [SV.refs] using this) r⟩
  | .agg cs, v, hr, k => by
    simp only [SV.den] at k ⊢
    obtain ⟨vs, e, r, r'⟩ := k
    exact ⟨vs, e, SV.denL_mono h cs _ (fun o ho => by have := hr o ho; simpa [SV.refs] using this) r, r'⟩
  | .tup cs, v, hr, k => by
    simp only [SV.den] at k ⊢
    obtain ⟨vs, e, r⟩ := k
    exact ⟨vs, e, SV.denL_mono h cs _ (fun o ho => by have := hr o ho; simpa [SV.refs] using this) r⟩
  | .lit u, v, _, k => by simpa [SV.den] using k
theorem SV.denL_mono {P : Program} {ρ ρ' : Env} {new : List Nat} (h : ρ.le ρ' new) : ∀ (cs : List SV) (vs : List Value), (∀ o, o ∈ new → SV.refs.refsL o cs = false) → SV.denL P ρ cs vs → SV.denL P ρ' cs vs
  | [], vs, _, k => by simpa [SV.denL] using k
  | c :: cs, vs, hr, k => by
    simp only [SV.denL] at k ⊢
    obtain ⟨v, r, e, k1, k2⟩ := k
    have h1 : ∀ o, o ∈ new → c.refs o = false := fun o ho => by
      have := hr o ho; simp only [SV.refs.refsL] at this; cases hc : c.refs o <;> simp_all
    have h2 : ∀ o, o ∈ new → SV.refs.refsL o cs = false := fun o ho => by
      have := hr o ho; simp only [SV.refs.refsL] at this; cases hc : c.refs o <;> simp_all
    exact ⟨v, r, e, SV.den_mono h c v h1 k1, SV.denL_mono h cs r h2 k2⟩
end

theorem denL_length {P : Program} {ρ : Env} : ∀ (cs : List SV) (vs : List Value), SV.denL P ρ cs vs → cs.length = vs.length
  | [], vs, h => by simp [SV.denL] at h; simp [h]
  | c :: cs, vs, h => by
    simp only [SV.denL] at h
    obtain ⟨v, r, rfl, _, k⟩ := h
    simp [denL_length cs r k]

theorem denL_append {P : Program} {ρ : Env} : ∀ (a b : List SV) (vs us : List Value), SV.denL P ρ a vs → SV.denL P ρ b us → SV.denL P ρ (a ++ b) (vs ++ us)
  | [], b, vs, us, h, k => by simp [SV.denL] at h; simpa [h] using k
  | c :: cs, b, vs, us, h, k => by
    simp only [SV.denL] at h
    obtain ⟨v, r, rfl, h1, h2⟩ := h
    simp only [List.cons_append, SV.denL]
    exact ⟨v, r ++ us, rfl, h1, denL_append cs b r us h2 k⟩

theorem denL_get {P : Program} {ρ : Env} : ∀ (cs : List SV) (vs : List Value), SV.denL P ρ cs vs → ∀ (i : Nat) c, cs[i]? = some c → ∃ v, vs[i]? = some v ∧ SV.den P ρ c v
  | [], vs, _, i, c, hi => by simp at hi
  | c :: cs, vs, h, i, x, hi => by
    simp only [SV.denL] at h
    obtain ⟨v, r, rfl, h1, h2⟩ := h
    cases i with
    | zero => simp at hi; subst hi; exact ⟨v, by simp, h1⟩
    | succ i => simpa using denL_get cs r h2 i x (by simpa using hi)

theorem denL_drop {P : Program} {ρ : Env} : ∀ (k : Nat) (cs : List SV) (vs : List Value), SV.denL P ρ cs vs → SV.denL P ρ (cs.drop k) (vs.drop k)
  | 0, cs, vs, h => by simpa using h
  | k + 1, [], vs, h => by simp [SV.denL] at h; simp [h, SV.denL]
  | k + 1, c :: cs, vs, h => by
    simp only [SV.denL] at h
    obtain ⟨v, r, rfl, h1, h2⟩ := h
    simpa using denL_drop k cs r h2

theorem denL_take {P : Program} {ρ : Env} : ∀ (k : Nat) (cs : List SV) (vs : List Value), SV.denL P ρ cs vs → SV.denL P ρ (cs.take k) (vs.take k)
  | 0, cs, vs, h => by simp [SV.denL]
  | k + 1, [], vs, h => by simp [SV.denL] at h; simp [h, SV.denL]
  | k + 1, c :: cs, vs, h => by
    simp only [SV.denL] at h
    obtain ⟨v, r, rfl, h1, h2⟩ := h
    simp only [List.take_succ_cons, SV.denL]
    exact ⟨v, r.take k, rfl, h1, denL_take k cs r h2⟩

/-! ### Objects and worlds -/

structure Base where
  w : World
  H : Imm
  bor : List Nat
  blk0 : Nat → Option (Option (Nat × Nat))      -- where the objects lie that were handed over
  len0 : Nat → Nat

def fzH (fz : Bool) (vs : Array Value) : Option Fz := match fz with | true => some (.cells vs) | false => none
def fzM (fz : Bool) (es : Array MapEntry) (clock : Nat) : Option Fz := match fz with | true => some (.map es clock) | false => none

/-- the entries of a map -/
def MapRd (H : Imm) (kt vt : Ty) (es : Array MapEntry) (clock : Nat) (l : List (kt.Data × vt.Data)) : Prop :=
  es.size = l.length ∧ es.size ≤ clock ∧ (∀ (i : Nat) (e : MapEntry), es[i]? = some e → e.born < clock) ∧ (∀ (i j : Nat) (e e' : MapEntry), es[i]? = some e → es[j]? = some e' → e.born = e'.born → i = j) ∧
    ∀ (i : Nat) (x : kt.Data × vt.Data), l[i]? = some x → ∃ e : MapEntry, es[i]? = some e ∧ kt.rv H e.key x.1 ∧ vt.rv H e.val x.2

theorem MapRd.mono {H H' : Imm} (hH : ∀ b c, H b = some c → H' b = some c) {kt vt : Ty} {es : Array MapEntry} {clock : Nat} {l : List (kt.Data × vt.Data)} (h : MapRd H kt vt es clock l) : MapRd H' kt vt es clock l := by
  obtain ⟨h1, h2, h3, h4, h5⟩ := h
  refine ⟨h1, h2, h3, h4, fun i x hx => ?_⟩
  obtain ⟨e, g1, g2, g3⟩ := h5 i x hx
  exact ⟨e, g1, Ty.rv_mono hH g2, Ty.rv_mono hH g3⟩

/-- the entries that are still to come -/
def LeftRd (H : Imm) (kt vt : Ty) (es : List MapEntry) (seen : Array Nat) (left : List (kt.Data × vt.Data)) : Prop :=
  ∃ fs : List MapEntry, fs = es.filter (fun e => !seen.contains e.born) ∧ fs.length = left.length ∧ ∀ (i : Nat) (x : kt.Data × vt.Data), left[i]? = some x → ∃ e : MapEntry, fs[i]? = some e ∧ kt.rv H e.key x.1 ∧ vt.rv H e.val x.2

def CurRd (H : Imm) (kt vt : Ty) (es : List MapEntry) (clock : Nat) (seen : Array Nat) (stepped : Nat) : Option (kt.Data × vt.Data) → Prop
  | none => True
  | some x => stepped = clock ∧ ∃ e, e ∈ es ∧ seen.back? = some e.born ∧ kt.rv H e.key x.1 ∧ vt.rv H e.val x.2

def IterRd (H : Imm) (kt vt : Ty) (left : List (kt.Data × vt.Data)) (cur : Option (kt.Data × vt.Data)) : Obj → Prop
  | .mapIter none _ _ _ => left = [] ∧ cur = none
  | .mapIter (some m) since seen stepped => ∃ (es : Array MapEntry) (clock : Nat), H m = some (.map es clock) ∧ since = clock ∧ (∀ (i : Nat) (e : MapEntry), es[i]? = some e → e.born < clock) ∧ (∀ (i j : Nat) (e e' : MapEntry), es[i]? = some e → es[j]? = some e' → e.born = e'.born → i = j) ∧
      (seen = #[] ∨ stepped = clock) ∧ LeftRd H kt vt es.toList seen left ∧ CurRd H kt vt es.toList clock seen stepped cur
  | _ => False

theorem IterRd.mono {H H' : Imm} (hH : ∀ b c, H b = some c → H' b = some c) {kt vt : Ty} {left : List (kt.Data × vt.Data)} {cur : Option (kt.Data × vt.Data)} {o : Obj} (h : IterRd H kt vt left cur o) : IterRd H' kt vt left cur o := by
  unfold IterRd at h ⊢
  split at h
  · exact h
  · obtain ⟨es, clock, h1, h2, h3, h4, h5, ⟨fs, h6, h7, h8⟩, h9⟩ := h
    refine ⟨es, clock, hH _ _ h1, h2, h3, h4, h5, ⟨fs, h6, h7, fun i x hx => ?_⟩, ?_⟩
    · obtain ⟨e, g1, g2, g3⟩ := h8 i x hx
      exact ⟨e, g1, Ty.rv_mono hH g2, Ty.rv_mono hH g3⟩
    · cases cur with
      | none => trivial
      | some x =>
        obtain ⟨g0, e, g1, g2, g3, g4⟩ := h9
        exact ⟨g0, e, g1, g2, Ty.rv_mono hH g3, Ty.rv_mono hH g4⟩
  · exact h

def ObSat (P : Program) (ρ : Env) (w : World) (o : Nat) (p : Option (Nat × Nat)) : Ob → Prop
  | .box T fz cs => ∃ b C vs, p = some (b, C) ∧ w.heap[b]? = some (.cells vs T (0, 0)) ∧ SV.denL P ρ cs vs.toList ∧ (∀ v ∈ vs.toList, v.oneCell' = true) ∧ ρ.H b = fzH fz vs
  | .row E t fz nl l => ρ.len o = l.length ∧ l.length < 4611686018427387904 ∧ match p with
    | none => l = [] ∧ nl ≠ .no
    | some (b, C) => (nl = .yes → l ≠ []) ∧ ∃ vs, w.heap[b]? = some (.cells vs E (0, 0)) ∧ vs.size = C * t.size ∧ l.length ≤ C ∧ C ≤ maxLen ∧
        (∀ i x, l[i]? = some x → t.rd ρ.H (fun j => vs[i * t.size + j]?) x) ∧ ρ.H b = fzH fz vs
  | .map fz kt vt l => ∃ b C es clock, p = some (b, C) ∧ w.heap[b]? = some (.map es clock) ∧ MapRd ρ.H kt vt es clock l ∧ ρ.H b = fzM fz es clock
  | .iter kt vt left cur => ∃ b C x, p = some (b, C) ∧ w.heap[b]? = some x ∧ IterRd ρ.H kt vt left cur x ∧ ρ.H b = none
  | .mape kt vt l k s => ∃ b C es clock, p = some (b, C) ∧ w.heap[b]? = some (.map es clock) ∧ MapRd ρ.H kt vt es clock (mentry kt vt.dflt k l) ∧ ρ.H b = none ∧
      ∃ (j : Nat) (e : MapEntry), es[j]? = some e ∧ (e.born : Int) = s ∧ ∀ v, mput kt k v l = (mentry kt vt.dflt k l).set j (k, v)

structure Sat (P : Program) (B : Base) (ρ : Env) (obj : Nat → Option Ob) (w : World) : Prop where
  os : w.os = B.w.os
  tape : w.tape = B.w.tape
  output : w.output = B.w.output
  drawn : B.w.drawn ≤ w.drawn
  size : B.w.heap.size ≤ w.heap.size
  good : Good ρ.H w
  oldH : ∀ b, b < B.w.heap.size → b ∉ B.bor → ρ.H b = B.H b
  old : ∀ b, b < B.w.heap.size → b ∉ B.bor → w.heap[b]? = B.w.heap[b]?
  obs : ∀ o x, obj o = some x → ∃ p, ρ.blk o = some p ∧ ObSat P ρ w o p x
  dead : ∀ o, obj o = none → ρ.blk o = none
  inj : ∀ o o' b C C', ρ.blk o = some (some (b, C)) → ρ.blk o' = some (some (b, C')) → o = o'
  own : ∀ o b C, ρ.blk o = some (some (b, C)) → B.w.heap.size ≤ b ∨ b ∈ B.bor

def Slots (P : Program) (ρ : Env) (sl : List (Nat × SV)) (a : Act) : Prop :=
  ∀ s sv, look sl s = some sv → SV.den P ρ sv (a.tmps.getD s undef)

/-- what was handed over lies where it lay -/
def Pin (B : Base) (ρ : Env) : Prop := (∀ o p, 1000000 ≤ o → ρ.blk o = some p → B.blk0 o = some p ∧ ρ.len o = B.len0 o) ∧ ∀ b c, B.H b = some c → ρ.H b = some c

theorem Pin.mono {B : Base} {ρ ρ' : Env} {new : List Nat} (h : Pin B ρ) (hle : ρ.le ρ' new) (hn : ∀ d, d ∈ new → d < 1000000) : Pin B ρ' :=
  ⟨fun o p ho hb => by
    have hnm : o ∉ new := fun hm => by have := hn o hm; omega
    have := h.1 o p ho (hle.blk o _ hnm hb)
    exact ⟨this.1, (hle.len o hnm).trans this.2⟩, fun b c hb => hle.H b c (h.2 b c hb)⟩

def Rel (P : Program) (B : Base) (n : Nat) (σ : St) (a : Act) (w : World) : Prop :=
  a.defers = [] ∧ a.tmps.size = n ∧ ∃ ρ, Sat P B ρ σ.obj w ∧ Slots P ρ σ.sl a ∧ Pin B ρ

/-! ### Small facts on the lists -/

theorem look_cons_eq {α : Type} (k : Nat) (x : α) (l : List (Nat × α)) : look ((k, x) :: l) k = some x := by simp [look]
theorem look_cons_ne {α : Type} {j k : Nat} (h : j ≠ k) (x : α) (l : List (Nat × α)) : look ((j, x) :: l) k = look l k := by
  simp only [look]
  cases hb : Nat.beq j k
  · rfl
  · exact absurd (Nat.eq_of_beq_eq_true hb) h
theorem look_append {α : Type} : ∀ (a b : List (Nat × α)) (k : Nat), look (a ++ b) k = (match look a k with | some x => some x | none => look b k)
  | [], b, k => by simp [look]
  | (j, x) :: a, b, k => by
    simp only [List.cons_append, look]
    cases Nat.beq j k <;> simp [look_append a b k]
theorem look_mem {α : Type} : ∀ (l : List (Nat × α)) (k : Nat) (x : α), look l k = some x → (k, x) ∈ l
  | [], _, _, h => by simp [look] at h
  | (j, y) :: l, k, x, h => by
    simp only [look] at h
    cases hb : Nat.beq j k
    · rw [hb] at h; exact List.mem_cons_of_mem _ (look_mem l k x h)
    · rw [hb] at h; simp at h; subst h; have := Nat.eq_of_beq_eq_true hb; subst this; exact List.mem_cons_self

theorem St.obj_eq (σ : St) (o : Nat) : σ.obj o = (match look σ.ob o with | some x => x | none => none) := rfl

end Go.X
/-
  Freezing; from symbolic values to data: sound.
-/
namespace Go.X
open Go.RowKit (Below)

theorem obSat_mono {P : Program} {ρ ρ' : Env} {w w' : World} {new : List Nat} (h : ρ.le ρ' new) {o : Nat} (ho : o ∉ new) {p : Option (Nat × Nat)} {x : Ob}
    (hcs : ∀ T fz cs, x = .box T fz cs → ∀ o', o' ∈ new → SV.refs.refsL o' cs = false)
    (hb : ∀ b C, p = some (b, C) → ρ'.H b = ρ.H b ∧ w'.heap[b]? = w.heap[b]?) (k : ObSat P ρ w o p x) : ObSat P ρ' w' o p x := by
  cases x with
  | box T fz cs =>
    simp only [ObSat] at k ⊢
    obtain ⟨b, C, vs, rfl, k1, k2, k3, k4⟩ := k
    obtain ⟨e1, e2⟩ := hb b C rfl
    exact ⟨b, C, vs, rfl, by rw [e2]; exact k1, SV.denL_mono h cs _ (hcs T fz cs rfl) k2, k3, by rw [e1]; exact k4⟩
  | row E t fz nl l =>
    simp only [ObSat] at k ⊢
    obtain ⟨k1, k0, k2⟩ := k
    refine ⟨by rw [h.len o ho]; exact k1, k0, ?_⟩
    cases p with
    | none => exact k2
    | some q =>
      obtain ⟨b, C⟩ := q
      obtain ⟨e1, e2⟩ := hb b C rfl
      simp only at k2 ⊢
      obtain ⟨k3, vs, k4, k5, k6, k7, k9, k10⟩ := k2
      exact ⟨k3, vs, by rw [e2]; exact k4, k5, k6, k7, fun i x hx => t.rd_mono h.H _ _ (k9 i x hx), by rw [e1]; exact k10⟩
  | map fz kt vt l =>
    simp only [ObSat] at k ⊢
    obtain ⟨b, C, es, clock, rfl, k1, k2, k3⟩ := k
    obtain ⟨e1, e2⟩ := hb b C rfl
    exact ⟨b, C, es, clock, rfl, by rw [e2]; exact k1, k2.mono h.H, by rw [e1]; exact k3⟩
  | iter kt vt left cur =>
    simp only [ObSat] at k ⊢
    obtain ⟨b, C, x, rfl, k1, k2, k3⟩ := k
    obtain ⟨e1, e2⟩ := hb b C rfl
    exact ⟨b, C, x, rfl, by rw [e2]; exact k1, k2.mono h.H, by rw [e1]; exact k3⟩
  | mape kt vt l key s =>
    simp only [ObSat] at k ⊢
    obtain ⟨b, C, es, clock, rfl, k1, k2, k3, k4⟩ := k
    obtain ⟨e1, e2⟩ := hb b C rfl
    exact ⟨b, C, es, clock, rfl, by rw [e2]; exact k1, k2.mono h.H, by rw [e1]; exact k3, k4⟩

/-! ### Freezing -/

def upd1 (obj : Nat → Option Ob) (o : Nat) : Nat → Option Ob := fun o' => if o' = o then (obj o).map frozenOb else obj o'

theorem frozenOb_idem (x : Ob) : frozenOb (frozenOb x) = frozenOb x := by cases x <;> rfl

theorem sat_H1 {P : Program} {B : Base} {ρ : Env} {obj : Nat → Option Ob} {w : World} (h : Sat P B ρ obj w) {o : Nat} {b C : Nat} {vs : Fz}
    (hp : ρ.blk o = some (some (b, C))) (hw : vs.at w.heap[b]?) (hH : ρ.H b = none) :
    let ρ' : Env := { ρ with H := fun b' => if b' = b then some vs else ρ.H b' }
    ρ.le ρ' [] ∧ Good ρ'.H w ∧ (∀ b', b' < B.w.heap.size → b' ∉ B.bor → ρ'.H b' = B.H b') := by
  refine ⟨⟨fun b' c hb => ?_, fun _ _ _ h => h, fun _ _ => rfl⟩, fun b' c hb => ?_, fun b' hb hbo => ?_⟩
  · by_cases e : b' = b
    · subst e; rw [hH] at hb; cases hb
    · simp [e, hb]
  · by_cases e : b' = b
    · subst e; simp at hb; subst hb; exact hw
    · simp [e] at hb; exact h.good b' c hb
  · have : b' ≠ b := by
      rintro rfl
      rcases h.own o b' C hp with h1 | h1
      · omega
      · exact hbo h1
    simp [this, h.oldH b' hb hbo]

theorem freeze1 {P : Program} {B : Base} {ρ : Env} {obj : Nat → Option Ob} {w : World} (h : Sat P B ρ obj w) (o : Nat) :
    ∃ ρ', Sat P B ρ' (upd1 obj o) w ∧ ρ.le ρ' [] ∧ ρ'.blk = ρ.blk ∧ ρ'.len = ρ.len := by
  have same : upd1 obj o = obj → ∃ ρ', Sat P B ρ' (upd1 obj o) w ∧ ρ.le ρ' [] ∧ ρ'.blk = ρ.blk ∧ ρ'.len = ρ.len := fun e => ⟨ρ, by rw [e]; exact h, Env.le.refl _ _, rfl, rfl⟩
  cases hx : obj o with
  | none => exact same (funext fun o' => by unfold upd1; split <;> simp_all)
  | some x =>
    obtain ⟨p, hp, hs⟩ := h.obs o x hx
    by_cases hfz : frozenOb x = x
    · exact same (funext fun o' => by unfold upd1; split <;> simp_all)
    · -- the block
      have key : ∀ (b C : Nat) (vs : Fz), p = some (b, C) → vs.at w.heap[b]? → ρ.H b = none →
          ObSat P { ρ with H := fun b' => if b' = b then some vs else ρ.H b' } w o p (frozenOb x) →
          ∃ ρ', Sat P B ρ' (upd1 obj o) w ∧ ρ.le ρ' [] ∧ ρ'.blk = ρ.blk ∧ ρ'.len = ρ.len := by
        intro b C vs hpe hw hH hnew
        subst hpe
        obtain ⟨hle, hgood, hold⟩ := sat_H1 h hp hw hH
        refine ⟨{ ρ with H := fun b' => if b' = b then some vs else ρ.H b' }, ⟨h.os, h.tape, h.output, h.drawn, h.size, hgood, hold, h.old, ?_, ?_, h.inj, h.own⟩, hle, rfl, rfl⟩
        · intro o' x' hx'
          unfold upd1 at hx'
          by_cases e : o' = o
          · subst e
            rw [if_pos rfl, hx] at hx'
            simp at hx'
            subst hx'
            exact ⟨_, hp, hnew⟩
          · rw [if_neg e] at hx'
            obtain ⟨p', hp', hs'⟩ := h.obs o' x' hx'
            refine ⟨p', hp', obSat_mono hle (by simp) (fun _ _ _ _ o'' ho'' => by simp at ho'') (fun b' C' hp'' => ⟨?_, rfl⟩) hs'⟩
            subst hp''
            have : b' ≠ b := fun e' => e (h.inj o' o b' C' C hp' (e' ▸ hp))
            simp [this]
        · intro o' ho'
          unfold upd1 at ho'
          by_cases e : o' = o
          · subst e; rw [if_pos rfl, hx] at ho'; cases ho'
          · rw [if_neg e] at ho'; exact h.dead o' ho'
      cases x with
      | box T fz cs =>
        cases fz with
        | true => exact absurd rfl hfz
        | false =>
          simp only [ObSat, fzH] at hs
          obtain ⟨b, C, vs, hpe, hw, hd, h1, hH⟩ := hs
          refine key b C (.cells vs) hpe ⟨T, _, hw⟩ hH ?_
          simp only [frozenOb, ObSat, fzH]
          exact ⟨b, C, vs, hpe, hw, SV.denL_mono (sat_H1 (vs := .cells vs) h (hpe ▸ hp) ⟨T, _, hw⟩ hH).1 cs _ (fun o ho => by simp at ho) hd, h1, by simp⟩
      | row E t fz nl l =>
        cases fz with
        | true => exact absurd rfl hfz
        | false =>
          simp only [ObSat, fzH] at hs
          obtain ⟨k1, k0, k2⟩ := hs
          cases p with
          | none =>
            refine ⟨ρ, ⟨h.os, h.tape, h.output, h.drawn, h.size, h.good, h.oldH, h.old, ?_, ?_, h.inj, h.own⟩, Env.le.refl _ _, rfl, rfl⟩
            · intro o' x' hx'
              unfold upd1 at hx'
              by_cases e : o' = o
              · subst e
                rw [if_pos rfl, hx] at hx'
                simp at hx'
                subst hx'
                exact ⟨none, hp, k1, k0, k2⟩
              · rw [if_neg e] at hx'; exact h.obs o' x' hx'
            · intro o' ho'
              unfold upd1 at ho'
              by_cases e : o' = o
              · subst e; rw [if_pos rfl, hx] at ho'; cases ho'
              · rw [if_neg e] at ho'; exact h.dead o' ho'
          | some q =>
            obtain ⟨b, C⟩ := q
            simp only at k2
            obtain ⟨k3, vs, k4, k5, k6, k7, k9, k10⟩ := k2
            refine key b C (.cells vs) rfl ⟨E, _, k4⟩ k10 ?_
            simp only [frozenOb, ObSat, fzH]
            exact ⟨k1, k0, k3, vs, k4, k5, k6, k7, fun i x hx => t.rd_mono (sat_H1 (vs := .cells vs) h hp ⟨E, _, k4⟩ k10).1.H _ _ (k9 i x hx), by simp⟩
      | map fz kt vt l =>
        cases fz with
        | true => exact absurd rfl hfz
        | false =>
          simp only [ObSat, fzM] at hs
          obtain ⟨b, C, es, clock, hpe, hw, hd, hH⟩ := hs
          refine key b C (.map es clock) hpe hw hH ?_
          simp only [frozenOb, ObSat, fzM]
          exact ⟨b, C, es, clock, hpe, hw, hd.mono (sat_H1 (vs := .map es clock) h (hpe ▸ hp) hw hH).1.H, by simp⟩
      | iter kt vt left cur => exact absurd rfl hfz
      | mape kt vt l k s => exact absurd rfl hfz

theorem obj_cons (σ : St) (o : Nat) (x : Option Ob) (r : List (Nat × Option Ob)) (o' : Nat) :
    ({ σ with ob := (o, x) :: r } : St).obj o' = if o' = o then x else ({ σ with ob := r } : St).obj o' := by
  by_cases e : o' = o
  · subst e; simp [St.obj, look_cons_eq]
  · simp [St.obj, look_cons_ne (fun h => e h.symm), e]

theorem obj_frz (σ : St) : ∀ (fz : List Nat) (o : Nat), (σ.frz fz).obj o = if o ∈ fz then (σ.obj o).map frozenOb else σ.obj o
  | [], o => by simp [St.frz, doFz]
  | k :: r, o => by
    have ih := obj_frz σ r o
    unfold St.frz at ih ⊢
    simp only [doFz]
    cases hk : σ.obj k with
    | none =>
      simp only
      rw [ih]
      by_cases e : o = k
      · subst e; by_cases hm : o ∈ r <;> simp [hm, hk]
      · simp [e]
    | some x =>
      simp only [List.cons_append]
      rw [obj_cons]
      by_cases e : o = k
      · subst e; simp [hk]
      · simp only [e, if_false]; rw [ih]; simp [e]

theorem freeze_sat {P : Program} {B : Base} {σ : St} {w : World} : ∀ (fz : List Nat) {ρ : Env}, Sat P B ρ σ.obj w →
    ∃ ρ', Sat P B ρ' (σ.frz fz).obj w ∧ ρ.le ρ' [] ∧ ρ'.blk = ρ.blk ∧ ρ'.len = ρ.len
  | [], ρ, h => ⟨ρ, by have : (σ.frz []).obj = σ.obj := funext fun o => by rw [obj_frz]; simp
                       rw [this]; exact h, Env.le.refl _ _, rfl, rfl⟩
  | k :: r, ρ, h => by
    obtain ⟨ρ1, h1, l1, b1, n1⟩ := freeze_sat r h
    obtain ⟨ρ2, h2, l2, b2, n2⟩ := freeze1 h1 k
    refine ⟨ρ2, ?_, l1.trans l2, b2.trans b1, n2.trans n1⟩
    have : (σ.frz (k :: r)).obj = upd1 (σ.frz r).obj k := funext fun o => by
      unfold upd1
      rw [obj_frz, obj_frz, obj_frz]
      by_cases e : o = k
      · subst e
        by_cases hm : o ∈ r
        · simp only [hm, List.mem_cons, true_or, if_true]
          cases σ.obj o <;> simp [frozenOb_idem]
        · simp [hm]
      · simp [e]
    rw [this]; exact h2

/-! ### Data -/

theorem rd_scalar {H : Imm} {t : Ty} (ht : t.agg = false) {f g : Nat → Option Value} (e : f 0 = g 0) {d : t.Data} (h : t.rd H f d) : t.rd H g d :=
  t.rd_congr f g d (fun i hi => by
    have : t.size = 1 := by cases t <;> simp_all [Ty.size, Ty.agg]
    have : i = 0 := by omega
    subst this; exact e) h

theorem cells_scalar {v : Value} (h : isAggV v = false) : v.cells = #[v] := by cases v <;> simp_all [isAggV, Value.cells]

theorem rv_scalar {H : Imm} {t : Ty} {v : Value} {d : t.Data} (ht : t.agg = false) (h : t.rv H v d) : t.rd H (fun _ => some v) d := by
  have hc := cells_scalar (v := v) (by rw [h.1, ht])
  exact rd_scalar ht (by simp [hc]) h.2.2

theorem not_agg_of_rd {H : Imm} {t : Ty} {v : Value} {d : t.Data} (ht : t.agg = false) (h : t.rd H (fun _ => some v) d) : isAggV v = false := by
  cases t with
  | map k u => obtain ⟨p, e, _⟩ := h; simp at e; subst e; rfl
  | slice t => obtain ⟨a, n, c, e, _⟩ := h; simp at e; subst e; rfl
  | _ => simp_all [Ty.rd, Ty.agg, isAggV]

theorem rv_of_scalar {H : Imm} {t : Ty} {v : Value} {d : t.Data} (ht : t.agg = false) (h : t.rd H (fun _ => some v) d) : t.rv H v d := by
  have hn := not_agg_of_rd ht h
  have hs : t.size = 1 := by cases t <;> simp_all [Ty.size, Ty.agg]
  refine ⟨by rw [hn, ht], by rw [cells_scalar hn, hs]; rfl, rd_scalar ht (by rw [cells_scalar hn]; simp) h⟩

theorem nilSlice {v : Value} (h : isNilSlice v = true) : v = .slice none 0 0 := by
  unfold isNilSlice at h
  split at h
  · rfl
  · cases h

theorem rd_nil {H : Imm} (t : Ty) : (Ty.slice t).rd H (fun _ => some (.slice none 0 0)) [] :=
  ⟨none, 0, 0, rfl, rfl, Nat.le_refl _, by simp, fun _ => rfl, fun h => absurd rfl h⟩

theorem nilMap {v : Value} (h : isNilMap v = true) : v = .map none := by
  unfold isNilMap at h
  split at h
  · rfl
  · cases h

theorem rd_map {H : Imm} {kt vt : Ty} {b : Nat} {es : Array MapEntry} {clock : Nat} {l : List (kt.Data × vt.Data)} (hH : H b = some (.map es clock)) (h : MapRd H kt vt es clock l) :
    (Ty.map kt vt).rd H (fun _ => some (.map (some b))) l := by
  obtain ⟨h1, h2, h3, h4, h5⟩ := h
  refine ⟨some b, rfl, fun h => (by cases h), fun b' hb => ?_⟩
  cases hb
  exact ⟨es, clock, hH, h1, h2, h3, h4, h5⟩

def Frz (σ τ : St) (fz : List Nat) : Prop := ∀ o, (τ.obj o = σ.obj o ∨ τ.obj o = (σ.obj o).map frozenOb) ∧ (o ∈ fz → τ.obj o = (σ.obj o).map frozenOb)

theorem fz_frz (σ : St) (fz : List Nat) : Frz σ (σ.frz fz) fz := fun o => by
  rw [obj_frz]
  by_cases h : o ∈ fz <;> simp [h]

theorem Frz.sub {σ τ : St} {fz fz' : List Nat} (h : Frz σ τ fz) (hs : ∀ o, o ∈ fz' → o ∈ fz) : Frz σ τ fz' := fun o => ⟨(h o).1, fun ho => (h o).2 (hs o ho)⟩

/-- a frozen row read as data -/
theorem row_data {P : Program} {B : Base} {σ τ : St} {ρ : Env} {w : World} (hS : Sat P B ρ τ.obj w) {fz : List Nat} (hF : Frz σ τ fz) {o : Nat} (ho : o ∈ fz)
    {E : Nat} {t : Ty} {f : Bool} {nl : Nl} {l : List t.Data} (hx : σ.obj o = some (.row E t f nl l)) :
    ∃ p, ρ.blk o = some p ∧ ρ.len o = l.length ∧ l.length < 4611686018427387904 ∧ match p with
      | none => l = []
      | some (b, _) => ∃ vs, ρ.H b = some (.cells vs) ∧ ∀ i x, l[i]? = some x → t.rd ρ.H (fun j => vs[i * t.size + j]?) x := by
  have hτ : τ.obj o = some (.row E t true nl l) := by rw [(hF o).2 ho, hx]; rfl
  obtain ⟨p, hp, k1, k0, k2⟩ := hS.obs o _ hτ
  refine ⟨p, hp, k1, k0, ?_⟩
  cases p with
  | none => exact k2.1
  | some q =>
    obtain ⟨b, C⟩ := q
    obtain ⟨_, vs, _, _, _, _, k9, k10⟩ := k2
    exact ⟨vs, by simpa [fzH] using k10, k9⟩

theorem own_data {P : Program} {B : Base} {σ τ : St} {ρ : Env} {w : World} (hS : Sat P B ρ τ.obj w) {fz : List Nat} (hF : Frz σ τ fz) {o : Nat} (ho : o ∈ fz)
    {t u : Ty} {l : List t.Data} {v : Value} (he : elems σ t (.own o u) = some l) (hv : SV.den P ρ (.own o u) v) : (Ty.slice t).rd ρ.H (fun _ => some v) l := by
  simp only [elems] at he
  split at he
  · rename_i E t' f nl l' hx
    obtain ⟨e, rfl⟩ := cast?_some he
    obtain ⟨p, hp, k1, k0, k2⟩ := row_data hS hF ho hx
    rw [castD_rd]
    simp only [SV.den] at hv
    have hv := hv p hp
    cases p with
    | none =>
      subst k2
      obtain ⟨rfl, _⟩ := hv
      exact rd_nil t'
    | some q =>
      obtain ⟨b, C⟩ := q
      obtain ⟨rfl, h1⟩ := hv
      obtain ⟨vs, h3, h4⟩ := k2
      exact ⟨_, _, C, rfl, k1, h1, k0, fun h => (by cases h), fun _ => ⟨b, 0, vs, rfl, h3, fun i x hx => by simpa using h4 i x hx⟩⟩
  · cases he

theorem osl_data {P : Program} {B : Base} {σ τ : St} {ρ : Env} {w : World} (hS : Sat P B ρ τ.obj w) {fz : List Nat} (hF : Frz σ τ fz) {o : Nat} (ho : o ∈ fz)
    {t u : Ty} {lo n : Nat} {l : List t.Data} {v : Value} (he : elems σ t (.osl o u lo n) = some l) (hv : SV.den P ρ (.osl o u lo n) v) : (Ty.slice t).rd ρ.H (fun _ => some v) l := by
  simp only [elems] at he
  split at he
  · rename_i E t' f nl l' hx
    split at he
    · rename_i l'' hc
      obtain ⟨e1, rfl⟩ := cast?_some hc
      obtain ⟨e, rfl⟩ := cast?_some he
      obtain ⟨p, hp, k1, k0, k2⟩ := row_data hS hF ho hx
      rw [castD_rd]
      cases e1
      simp only [castD]
      simp only [SV.den] at hv
      have hv := hv p hp
      cases p with
      | none =>
        subst k2
        obtain ⟨rfl, rfl⟩ := hv
        simpa using rd_nil u
      | some q =>
        obtain ⟨b, C⟩ := q
        obtain ⟨a, cap, rfl, h1, h2, h3, h4⟩ := hv
        obtain ⟨vs, h5, h6⟩ := k2
        have hlen : ((l'.drop lo).take n).length = n := by simp; omega
        refine ⟨_, _, cap, rfl, hlen.symm, h1, by omega, fun h => (by cases h), fun hne => ?_⟩
        have hn : 0 < n := by
          rcases Nat.eq_zero_or_pos n with h0 | h0
          · subst h0; simp at hne
          · exact h0
        refine ⟨b, lo * u.size, vs, by rw [h4 (.inr (by omega))], h5, fun i x hx => ?_⟩
        have hi : (l'.drop lo)[i]? = some x := by
          rw [List.getElem?_take] at hx
          split at hx
          · exact hx
          · cases hx
        rw [List.getElem?_drop] at hi
        have := h6 _ _ hi
        refine u.rd_congr _ _ x (fun j _ => ?_) this
        simp only [Nat.add_mul]
    · cases he
  · cases he

theorem toCell_sound {P : Program} {B : Base} {σ τ : St} {ρ : Env} {w : World} (hS : Sat P B ρ τ.obj w) {fz : List Nat} (hF : Frz σ τ fz)
    {t : Ty} (ht : t.agg = false) {sv : SV} {d : t.Data} {fz' : List Nat} (h : toCell σ t sv = some (d, fz')) (hs : ∀ o, o ∈ fz' → o ∈ fz) {v : Value} (hv : SV.den P ρ sv v) :
    t.rd ρ.H (fun _ => some v) d := by
  have plain : ∀ (t : Ty), t.agg = false → ∀ (t' : Ty) (d' : t'.Data) (x : t.Data), cast? t' t d' = some x → SV.den P ρ (.dat t' d') v → t.rd ρ.H (fun _ => some v) x := by
    intro t ht t' d' x hc hv
    obtain ⟨e, rfl⟩ := cast?_some hc
    rw [castD_rd]
    subst e
    simp only [SV.den] at hv
    exact rv_scalar ht hv
  unfold toCell at h
  split at h
  · rename_i t o u
    split at h
    · rename_i l he
      simp at h
      obtain ⟨rfl, rfl⟩ := h
      exact own_data hS hF (hs o (by simp)) he hv
    · cases h
  · rename_i t o u lo n
    split at h
    · rename_i l he
      simp at h
      obtain ⟨rfl, rfl⟩ := h
      exact osl_data hS hF (hs o (by simp)) he hv
    · cases h
  · rename_i t u
    split at h
    · rename_i hn
      simp at h
      obtain ⟨rfl, rfl⟩ := h
      simp only [SV.den] at hv
      subst hv
      rw [nilSlice hn]
      exact rd_nil t
    · cases h
  · rename_i kt vt o
    split at h
    case h_2 => cases h
    rename_i fz0 kt' vt' l0 ho
    split at h
    case h_2 => cases h
    rename_i l' hc
    simp at h
    obtain ⟨rfl, rfl⟩ := h
    obtain ⟨e, rfl⟩ := cast?_some hc
    rw [castD_rd e]
    have hτ : τ.obj o = some (.map true kt' vt' l0) := by rw [(hF o).2 (hs o (by simp)), ho]; rfl
    obtain ⟨p, hp, hs2⟩ := hS.obs o _ hτ
    simp only [ObSat, fzM] at hs2
    obtain ⟨b, C, es, clock, rfl, k1, k2, k3⟩ := hs2
    simp only [SV.den] at hv
    obtain ⟨b', C', e1, rfl⟩ := hv _ hp
    simp at e1
    obtain ⟨rfl, rfl⟩ := e1
    exact rd_map k3 k2
  · rename_i kt vt u
    split at h
    · rename_i hn
      simp at h
      obtain ⟨rfl, rfl⟩ := h
      simp only [SV.den] at hv
      subst hv
      rw [nilMap hn]
      exact ⟨none, rfl, fun _ => rfl, fun b hb => by cases hb⟩
    · cases h
  · split at h
    · rename_i x hc
      simp at h
      obtain ⟨rfl, rfl⟩ := h
      exact plain _ ht _ _ _ hc hv
    · cases h
  · cases h

theorem decode_sound {P : Program} {B : Base} {σ τ : St} {ρ : Env} {w : World} (hS : Sat P B ρ τ.obj w) {fz : List Nat} (hF : Frz σ τ fz) :
    ∀ (t : Ty) {cs rest : List SV} {d : t.Data} {fz' : List Nat}, decode σ t cs = some (d, rest, fz') → (∀ o, o ∈ fz' → o ∈ fz) → ∀ {vs : List Value}, SV.denL P ρ cs vs →
      ∃ us r, vs = us ++ r ∧ us.length = t.size ∧ SV.denL P ρ rest r ∧ t.rd ρ.H (fun i => us[i]?) d := by
  have scalar : ∀ (t : Ty), t.agg = false → ∀ {c : SV} {r : List SV} {x : t.Data} {f : List Nat}, toCell σ t c = some (x, f) →
      (∀ o, o ∈ f → o ∈ fz) → ∀ {vs : List Value}, SV.denL P ρ (c :: r) vs → ∃ us r', vs = us ++ r' ∧ us.length = t.size ∧ SV.denL P ρ r r' ∧ t.rd ρ.H (fun i => us[i]?) x := by
    intro t ht c r x f hc hs vs hv
    simp only [SV.denL] at hv
    obtain ⟨v, r', rfl, h1, h2⟩ := hv
    have h3 := toCell_sound hS hF ht hc hs h1
    exact ⟨[v], r', rfl, by cases t <;> simp_all [Ty.size, Ty.agg], h2, rd_scalar (f := fun _ => some v) ht rfl h3⟩
  intro t
  induction t with
  | unit =>
    intro cs rest d fz' h _ vs hv
    simp only [decode, Option.some.injEq, Prod.mk.injEq] at h
    obtain ⟨_, rfl, rfl⟩ := h
    exact ⟨[], vs, rfl, rfl, hv, trivial⟩
  | pair a b iha ihb =>
    intro cs rest d fz' h hs vs hv
    simp only [decode] at h
    split at h
    · rename_i x r f ha
      split at h
      · rename_i y r' f' hb
        simp at h
        obtain ⟨rfl, rfl, rfl⟩ := h
        obtain ⟨us, vr, rfl, hu, hr, hx⟩ := iha ha (fun o ho => hs o (List.mem_append_left _ ho)) hv
        obtain ⟨us', vr', rfl, hu', hr', hy⟩ := ihb hb (fun o ho => hs o (List.mem_append_right _ ho)) hr
        refine ⟨us ++ us', vr', by simp, by simp [Ty.size, hu, hu'], hr', ?_, ?_⟩
        · exact a.rd_congr _ _ _ (fun i hi => by rw [List.getElem?_append_left (by omega)]) hx
        · refine b.rd_congr _ _ _ (fun i hi => ?_) hy
          simp only
          rw [List.getElem?_append_right (by omega)]
          congr 1; omega
      · cases h
    · cases h
  | int =>
    intro cs rest d fz' h hs vs hv
    cases cs with
    | nil => simp [decode] at h
    | cons c r =>
      simp only [decode] at h
      split at h
      · rename_i x f hc
        simp at h
        obtain ⟨rfl, rfl, rfl⟩ := h
        exact scalar .int rfl hc hs hv
      · cases h
  | bool =>
    intro cs rest d fz' h hs vs hv
    cases cs with
    | nil => simp [decode] at h
    | cons c r =>
      simp only [decode] at h
      split at h
      · rename_i x f hc
        simp at h
        obtain ⟨rfl, rfl, rfl⟩ := h
        exact scalar .bool rfl hc hs hv
      · cases h
  | uint k =>
    intro cs rest d fz' h hs vs hv
    cases cs with
    | nil => simp [decode] at h
    | cons c r =>
      simp only [decode] at h
      split at h
      · rename_i x f hc
        simp at h
        obtain ⟨rfl, rfl, rfl⟩ := h
        exact scalar (.uint k) rfl hc hs hv
      · cases h
  | slice t _ =>
    intro cs rest d fz' h hs vs hv
    cases cs with
    | nil => simp [decode] at h
    | cons c r =>
      simp only [decode] at h
      split at h
      · rename_i x f hc
        simp at h
        obtain ⟨rfl, rfl, rfl⟩ := h
        exact scalar (.slice t) rfl hc hs hv
      · cases h
  | map k u _ _ =>
    intro cs rest d fz' h hs vs hv
    cases cs with
    | nil => simp [decode] at h
    | cons c r =>
      simp only [decode] at h
      split at h
      · rename_i x f hc
        simp at h
        obtain ⟨rfl, rfl, rfl⟩ := h
        exact scalar (.map k u) rfl hc hs hv
      · cases h

theorem toDat_sound {P : Program} {B : Base} {σ τ : St} {ρ : Env} {w : World} (hS : Sat P B ρ τ.obj w) {fz : List Nat} (hF : Frz σ τ fz)
    {t : Ty} {sv : SV} {d : t.Data} {fz' : List Nat} (h : toDat σ t sv = some (d, fz')) (hs : ∀ o, o ∈ fz' → o ∈ fz) {v : Value} (hv : SV.den P ρ sv v) : t.rv ρ.H v d := by
  unfold toDat at h
  split at h
  · rename_i t' d'
    split at h
    · rename_i x hc
      simp at h
      obtain ⟨rfl, rfl⟩ := h
      obtain ⟨e, rfl⟩ := cast?_some hc
      rw [castD_rv]
      simpa [SV.den] using hv
    · cases h
  · rename_i cs
    split at h
    · rename_i x f hd
      split at h
      · rename_i ha
        simp at h
        obtain ⟨rfl, rfl⟩ := h
        simp only [SV.den] at hv
        obtain ⟨vs, rfl, hv, _⟩ := hv
        obtain ⟨us, r, e, hu, hr, hx⟩ := decode_sound hS hF t hd hs hv
        simp only [SV.denL] at hr
        subst hr
        simp at e
        refine ⟨by simp [isAggV, ha], by simp only [Value.cells]; rw [← hu, ← e]; simp, t.rd_congr _ _ _ (fun i _ => ?_) hx⟩
        simp only [Value.cells]
        rw [← e]; simp
      · cases h
    · cases h
  · split at h
    · cases h
    · rename_i ha
      exact rv_of_scalar ha (toCell_sound hS hF ha h hs hv)

/-! ### Parameters -/

def refV (H : Imm) (t : Ty) (v : Value) (d : t.Data) : Prop :=
  ∃ b off c, v = .pointer (some ⟨b, off, none⟩) ∧ H b = some (.cells c) ∧ t.rd H (fun j => c[off + j]?) d

def parV (P : Program) (H : Imm) : (p : Par) → Value → p.Data → Prop
  | .val t, v, d => t.rv H v d
  | .ref t, v, d => refV H t v d
  | .fn ps rs, v, d => FnV P H ps rs d.pre d.F v
  | .rfn ps rs, v, d => ∃ b u, v = .pointer (some ⟨b, 0, none⟩) ∧ H b = some (.cells #[u]) ∧ FnV P H ps rs d.pre d.F u

def pvs (P : Program) (H : Imm) : (ps : List Par) → List Value → PD ps → Prop
  | [], vs, _ => vs = []
  | p :: ps, v :: vs, d => parV P H p v d.1 ∧ pvs P H ps vs d.2
  | _ :: _, [], _ => False

structure FnOK (P : Program) (f : Nat) (s : Spec) : Prop where
  enters : enters P f
  calls : ∀ H w vals d, Good H w → pvs P H s.ps vals d → AllP (s.pre d) → Calls P f vals.toArray w (Post H w s.rs (s.F d))

theorem refV.mono {H H' : Imm} (hH : ∀ b c, H b = some c → H' b = some c) {t : Ty} {v : Value} {d : t.Data} (h : refV H t v d) : refV H' t v d := by
  obtain ⟨b, off, c, e1, e2, e3⟩ := h
  exact ⟨b, off, c, e1, hH _ _ e2, t.rd_mono hH _ _ e3⟩

theorem parV.mono {P : Program} {H H' : Imm} (hH : ∀ b c, H b = some c → H' b = some c) : ∀ {p : Par} {v : Value} {d : p.Data}, parV P H p v d → parV P H' p v d
  | .val _, _, _, h => Ty.rv_mono hH h
  | .ref _, _, _, h => refV.mono hH h
  | .fn _ _, _, _, h => FnV.mono hH h
  | .rfn _ _, _, _, h => by
    obtain ⟨b, u, e1, e2, e3⟩ := h
    exact ⟨b, u, e1, hH _ _ e2, FnV.mono hH e3⟩

theorem pvs.mono {P : Program} {H H' : Imm} (hH : ∀ b c, H b = some c → H' b = some c) : ∀ {ps : List Par} {vs : List Value} {d : PD ps}, pvs P H ps vs d → pvs P H' ps vs d
  | [], _, _, h => h
  | _ :: _, _ :: _, _, h => ⟨parV.mono hH h.1, pvs.mono hH h.2⟩
  | _ :: _, [], _, h => h

theorem toRef_sound {P : Program} {B : Base} {σ τ : St} {ρ : Env} {w : World} (hS : Sat P B ρ τ.obj w) {fz : List Nat} (hF : Frz σ τ fz)
    {t : Ty} {sv : SV} {d : t.Data} {fz' : List Nat} (h : toRef σ t sv = some (d, fz')) (hs : ∀ o, o ∈ fz' → o ∈ fz) {v : Value} (hv : SV.den P ρ sv v) : refV ρ.H t v d := by
  unfold toRef at h
  split at h
  · rename_i t' d'
    split at h
    · rename_i x hc
      simp at h
      obtain ⟨rfl, rfl⟩ := h
      obtain ⟨e, rfl⟩ := cast?_some hc
      subst e
      simpa [SV.den, refV, castD] using hv
    · cases h
  · rename_i o off
    split at h
    · rename_i T f cs hx
      split at h
      · rename_i x r hd
        simp at h
        obtain ⟨rfl, rfl⟩ := h
        have hτ : τ.obj o = some (.box T true cs) := by rw [(hF o).2 (hs o (by simp)), hx]; rfl
        obtain ⟨p, hp, b, C, vs, rfl, hw, hdl, _, hH⟩ := hS.obs o _ hτ
        simp only [SV.den] at hv
        obtain ⟨b', C', e, rfl⟩ := hv _ hp
        simp at e
        obtain ⟨rfl, rfl⟩ := e
        obtain ⟨us, r', e, hu, _, hx⟩ := decode_sound hS hF t hd (fun o ho => by simp at ho) (denL_drop off cs _ hdl)
        refine ⟨b, off, vs, rfl, by simpa [fzH] using hH, t.rd_congr _ _ _ (fun i hi => ?_) hx⟩
        have : vs[off + i]? = (vs.toList.drop off)[i]? := by simp
        rw [this, e, List.getElem?_append_left (by omega)]
      · cases h
    · cases h
  · cases h

theorem zipTy_sound {P : Program} {B : Base} {σ τ : St} {ρ : Env} {w : World} (hS : Sat P B ρ τ.obj w) {fz : List Nat} (hF : Frz σ τ fz) :
    ∀ {ps : List Ty} {svs : List SV} {d : (Ty.st ps).Data} {fz' : List Nat}, zipTy σ ps svs = some (d, fz') → (∀ o, o ∈ fz' → o ∈ fz) → ∀ {vs : List Value}, SV.denL P ρ svs vs → rvs ρ.H ps vs d
  | [], [], d, fz', h, _, vs, hv => by simpa [SV.denL, rvs] using hv
  | [], _ :: _, d, fz', h, _, vs, hv => by simp [zipTy] at h
  | _ :: _, [], d, fz', h, _, vs, hv => by simp [zipTy] at h
  | t :: ps, sv :: svs, d, fz', h, hs, vs, hv => by
    simp only [zipTy] at h
    split at h
    · rename_i x f hx
      split at h
      · rename_i xs f' hr
        simp at h
        obtain ⟨rfl, rfl⟩ := h
        simp only [SV.denL] at hv
        obtain ⟨v, r, rfl, h1, h2⟩ := hv
        exact ⟨toDat_sound hS hF hx (fun o ho => hs o (List.mem_append_left _ ho)) h1, zipTy_sound hS hF hr (fun o ho => hs o (List.mem_append_right _ ho)) h2⟩
      · cases h
    · cases h

theorem zipPD_sound {P : Program} {B : Base} {σ τ : St} {ρ : Env} {w : World} (hS : Sat P B ρ τ.obj w) {fz : List Nat} (hF : Frz σ τ fz) :
    ∀ {ps : List Par} {svs : List SV} {d : PD ps} {fz' : List Nat}, zipPD σ ps svs = some (d, fz') → (∀ o, o ∈ fz' → o ∈ fz) → ∀ {vs : List Value}, SV.denL P ρ svs vs → pvs P ρ.H ps vs d
  | [], [], d, fz', h, _, vs, hv => by simpa [SV.denL, pvs] using hv
  | [], _ :: _, d, fz', h, _, vs, hv => by simp [zipPD] at h
  | .val _ :: _, [], d, fz', h, _, vs, hv => by simp [zipPD] at h
  | .ref _ :: _, [], d, fz', h, _, vs, hv => by simp [zipPD] at h
  | .fn _ _ :: _, _, d, fz', h, _, vs, hv => by simp [zipPD] at h
  | .val t :: ps, sv :: svs, d, fz', h, hs, vs, hv => by
    simp only [zipPD] at h
    split at h
    · rename_i x f hx
      split at h
      · rename_i xs f' hr
        simp at h
        obtain ⟨rfl, rfl⟩ := h
        simp only [SV.denL] at hv
        obtain ⟨v, r, rfl, h1, h2⟩ := hv
        exact ⟨toDat_sound hS hF hx (fun o ho => hs o (List.mem_append_left _ ho)) h1, zipPD_sound hS hF hr (fun o ho => hs o (List.mem_append_right _ ho)) h2⟩
      · cases h
    · cases h
  | .ref t :: ps, sv :: svs, d, fz', h, hs, vs, hv => by
    simp only [zipPD] at h
    split at h
    · rename_i x f hx
      split at h
      · rename_i xs f' hr
        simp at h
        obtain ⟨rfl, rfl⟩ := h
        simp only [SV.denL] at hv
        obtain ⟨v, r, rfl, h1, h2⟩ := hv
        exact ⟨toRef_sound hS hF hx (fun o ho => hs o (List.mem_append_left _ ho)) h1, zipPD_sound hS hF hr (fun o ho => hs o (List.mem_append_right _ ho)) h2⟩
      · cases h
    · cases h

theorem splitPar_sound {P : Program} {H : Imm} : ∀ {ps : List Ty} {qs : List Par} {rest : List Par} {k : (Ty.st ps).Data → PD rest → PD qs}, splitPar ps qs = some ⟨rest, k⟩ →
    ∀ {vs us : List Value} {x : (Ty.st ps).Data} {y : PD rest}, rvs H ps vs x → pvs P H rest us y → pvs P H qs (vs ++ us) (k x y)
  | [], qs, rest, k, h, vs, us, x, y, hv, hu => by
    simp only [splitPar, Option.some.injEq, Sigma.mk.injEq] at h
    obtain ⟨rfl, h⟩ := h
    have := eq_of_heq h
    subst this
    simp only [rvs] at hv
    subst hv
    exact hu
  | _ :: _, [], rest, k, h, _, _, _, _, _, _ => by simp [splitPar] at h
  | _ :: _, .ref _ :: _, rest, k, h, _, _, _, _, _, _ => by simp [splitPar] at h
  | _ :: _, .fn _ _ :: _, rest, k, h, _, _, _, _, _, _ => by simp [splitPar] at h
  | t :: ps, .val u :: qs, rest, k, h, vs, us, x, y, hv, hu => by
    simp only [splitPar] at h
    split at h
    · rename_i e
      subst e
      split at h
      · rename_i rest' k' hr
        simp only [Option.some.injEq, Sigma.mk.injEq] at h
        obtain ⟨rfl, h⟩ := h
        have := eq_of_heq h
        subst this
        cases vs with
        | nil => exact hv.elim
        | cons v vs => exact ⟨hv.1, splitPar_sound hr hv.2 hu⟩
      · cases h
    · cases h

end Go.X
/-
  One operation: sound (operations that leave the world alone).
-/
namespace Go.X
open Go.RowKit (Below)

/-- the first entry with this key -/
def findIx (t : Ty) (a : t.Data) : List t.Data → List MapEntry → Nat → Option (Nat × Value)
  | k :: ks, e :: es, i => if @decide (a = k) (t.decEq a k) = true then some (i, e.val) else findIx t a ks es (i + 1)
  | _, _, _ => none

/-- keys that read as these data -/
def KeysRd (H : Imm) (t : Ty) : List MapEntry → List t.Data → Prop
  | [], [] => True
  | e :: es, k :: ks => t.rv H e.key k ∧ KeysRd H t es ks
  | _, _ => False

structure TI.ok (P : Program) (ti : TI) : Prop where
  info : ∃ i z, P.info? ti.id = some i ∧ i.size = ti.size ∧ i.bytes = ti.bytes ∧ i.zero = some z ∧ z.cells.toList = ti.zero ∧ isAggV z = ti.agg
  one : ∀ v ∈ ti.zero, v.oneCell' = true
  zlen : ti.zero.length = ti.size
  str : ti.agg = true → ti.arr = false → ∃ fs, P.underlying ti.id = some (.struct fs) ∧ fs.size = ti.fields.length ∧ ∀ (k : Nat) (p : Nat × Nat), ti.fields[k]? = some p → ∃ f : Field, fs[k]? = some f ∧ f.offset = p.1 ∧ f.type = p.2
  arrk : ti.arr = true → ti.agg = true ∧ ∃ n ie, P.underlying ti.id = some (.array n ti.elem) ∧ P.info? ti.elem = some ie ∧ ie.size = 1 ∧ ti.fields.length = n ∧ ti.size = n ∧ n ≤ 1000000 ∧ ∀ (k : Nat) (p : Nat × Nat), ti.fields[k]? = some p → p = (k, ti.elem)
  fok : ∀ (k : Nat) (p : Nat × Nat), ti.fields[k]? = some p → ∃ i, P.info? p.2 = some i
  flat : ti.agg = false → ∃ d, P.underlying ti.id = some d ∧ (∀ fs, d ≠ .struct fs) ∧ (∀ n e, d ≠ .array n e) ∧ (∀ ms, d ≠ .interface ms) ∧ (ti.sl = true → d = .slice ti.elem) ∧ (ti.ty = .int → d = .int .i64) ∧ (∀ k, ti.ty = .uint k → d = .int k)
  slf : ti.sl = true → ti.agg = false
  mpf : ti.mp = true → P.underlying ti.id = some (.map ti.key ti.elem)
  zd : tyKnown ti.ty = true → ∀ H : Imm, ti.ty.rd H (fun i => ti.zero[i]?) ti.ty.dflt
  keyq : ti.kq = true → (∀ (H : Imm) (x : Value) (a : ti.ty.Data) (w : World) (e : Bool), ti.ty.rv H x a → (Instr.checkKey e 10000 ti.id x).run P w = .ok () w) ∧
    (∀ (H : Imm) (es : List MapEntry) (ks : List ti.ty.Data) (x : Value) (a : ti.ty.Data) (w : World), ti.ty.rv H x a → KeysRd H ti.ty es ks → (Instr.findKey ti.id x es).run P w = .ok (findIx ti.ty a ks es 0) w) ∧
    (∀ (H : Imm) (x y : Value) (a : ti.ty.Data), ti.ty.rv H x a → ti.ty.rv H y a → Instr.sameBits 10000 x y = true)
  flf : ti.agg = false → ti.fields = []
  known : tyKnown ti.ty = true → ti.ty.agg = ti.agg ∧ ti.ty.size = ti.size
  pos : tyKnown ti.ty = true → 0 < ti.size ∧ 0 < ti.bytes
  eqs : ti.cmp = true → ∀ (H : Imm) (x y : Value) (a b : ti.ty.Data) (w : World), ti.ty.rv H x a → ti.ty.rv H y b →
    ∀ op (X Y : Operand), (op = .eql ∨ op = .neq) → (do eqGuard op ti.id X Y x y; binOp op ti.id x y : Sem Value).run P w = .ok (.bool (match op with | .eql => @decide (a = b) (ti.ty.decEq a b) | _ => !(@decide (a = b) (ti.ty.decEq a b)))) w


theorem flds_some {ti : TI} {f : Nat} {p : Nat × Nat} (h : ti.flds[f]? = some p) : ti.fields[f]? = some p ∧ ti.arr = false := by
  unfold TI.flds at h
  cases hr : ti.arr with
  | true => rw [hr] at h; simp at h
  | false => rw [hr] at h; exact ⟨h, rfl⟩

/-- what an operation leaves -/
def Leaves (P : Program) (B : Base) (ρ : Env) (σ : St) (out : Out) (v : Value) (w' : World) : Prop :=
  ∃ ρ', Sat P B ρ' ({ σ with ob := out.wr ++ (doFz σ out.fz ++ σ.ob) } : St).obj w' ∧ ρ.le ρ' out.nw ∧ SV.den P ρ' out.sv v ∧ AllP out.fact

def NoRef (obj : Nat → Option Ob) (d : Nat) : Prop := ∀ o T fz cs, obj o = some (.box T fz cs) → SV.refs.refsL d cs = false

structure Ctx.ok (P : Program) (C : Ctx) : Prop where
  ti : ∀ T x, C.info T = some x → x.id = T ∧ x.ok P
  fs : ∀ f s, C.spec f = some s → s.own = false → FnOK P f s
  str : ∀ T, memb C.strs T = true → P.underlying T = some .string
  eff : ∀ f dst σ svs out, C.eff f dst σ svs = some out → enters P f ∧ ∀ B ρ w vals, Sat P B ρ σ.obj w → SV.denL P ρ svs vals → AllP out.vc → σ.obj dst = none → NoRef σ.obj dst →
    Calls P f vals.toArray w (fun e w' => ∃ v, e = .returned v ∧ Leaves P B ρ σ out v w')

def OpDoes (P : Program) (o : Oper) (ev : Operand → Value) (w : World) (R : Value → World → Prop) : Prop :=
  match (execOp ev o).run P w with
  | .ok (.value v) w' => R v w'
  | .ok .skip w' => R undef w'
  | .ok (.enter f args) w' => Calls P f args w' (fun e w'' => ∃ v, e = .returned v ∧ R v w'')
  | _ => False

theorem OpDoes.wp {P : Program} {o : Oper} {a : Act} {w : World} {R : Value → World → Prop} {next : Act → World → Prop} {Q : Exit → Act → World → Prop}
    (h : OpDoes P o a.eval w R) (k : ∀ v w', R v w' → next (a.put o.dst v) w') : o.wp P a w next Q := by
  unfold OpDoes at h
  unfold Oper.wp
  generalize (execOp a.eval o).run P w = r at *
  cases r with
  | halt x w' => exact h.elim
  | ok n w' =>
    cases n <;> simp only [Oper.upon] at h ⊢
    case value v => exact k _ _ h
    case skip => exact k _ _ h
    case enter f args => exact h.mono fun e w'' he => by obtain ⟨v, rfl, hR⟩ := he; exact k _ _ hR
    all_goals exact h.elim

theorem OpDoes.mono {P : Program} {o : Oper} {ev : Operand → Value} {w : World} {R R' : Value → World → Prop} (h : OpDoes P o ev w R) (k : ∀ v w', R v w' → R' v w') : OpDoes P o ev w R' := by
  unfold OpDoes at *
  generalize (execOp ev o).run P w = r at *
  cases r with
  | halt x w' => exact h.elim
  | ok n w' =>
    cases n <;> simp only at h ⊢
    case value v => exact k _ _ h
    case skip => exact k _ _ h
    case enter f args => exact h.mono fun e w'' he => by obtain ⟨v, rfl, hR⟩ := he; exact ⟨v, rfl, k _ _ hR⟩

section
variable {P : Program} {B : Base} {C : Ctx} {σ : St} {ρ : Env} {w : World} {o : Oper} {ev : Operand → Value} {out : Out}

theorem leaves_same (hS : Sat P B ρ σ.obj w) {sv : SV} {vc fact : List Prop} {v : Value} (hd : SV.den P ρ sv v) (hf : AllP fact) : Leaves P B ρ σ ⟨vc, fact, sv, [], [], []⟩ v w :=
  ⟨ρ, hS, Env.le.refl _ _, hd, hf⟩

theorem does_value {R : Value → World → Prop} {v : Value} {w' : World} (h : (execOp ev o).run P w = .ok (.value v) w') (k : R v w') : OpDoes P o ev w R := by
  unfold OpDoes; rw [h]; exact k

theorem run_info {ti : TI} (h : ti.ok P) : ∃ i z, (∀ w, (typeInfo ti.id).run P w = .ok i w) ∧ i.size = ti.size ∧ i.bytes = ti.bytes ∧ (∀ w, (sizeOf ti.id).run P w = .ok ti.size w) ∧
    (∀ w, (zeroValue ti.id).run P w = .ok z w) ∧ z.cells.toList = ti.zero ∧ isAggV z = ti.agg := by
  obtain ⟨i, z, h1, h2, h3, h4, h5, h6⟩ := h.info
  have e : ∀ w, (typeInfo ti.id).run P w = .ok i w := fun w => by simp [typeInfo, h1]
  exact ⟨i, z, e, h2, h3, fun w => by simp [sizeOf, e, h2], fun w => by simp [zeroValue, e, h4], h5, h6⟩

theorem run_isAgg {ti : TI} (h : ti.ok P) : ∀ w, (isAgg ti.id).run P w = .ok ti.agg w := fun w => by
  cases ha : ti.agg with
  | true =>
    cases hr : ti.arr with
    | false => obtain ⟨fs, h1, _⟩ := h.str ha hr; simp [isAgg, run_underlying h1]
    | true => obtain ⟨_, n, ie, h1, _⟩ := h.arrk hr; simp [isAgg, run_underlying h1]
  | false =>
    obtain ⟨d, h1, h2, h3, _, _⟩ := h.flat ha
    simp only [isAgg, Sem.run_bind, run_underlying h1, Result.andThen_ok]
    cases d <;> simp_all

theorem rv_int {H : Imm} (n : Int) : Ty.int.rv H (.int .i64 n) n := ⟨rfl, rfl, rfl⟩
theorem rv_bool {H : Imm} (b : Bool) : Ty.bool.rv H (.bool b) b := ⟨rfl, rfl, rfl⟩
theorem rv_uint {H : Imm} (k : IntKind) (n : Int) : (Ty.uint k).rv H (.int k n) n := ⟨rfl, rfl, rfl⟩

theorem int_of_rv {H : Imm} {v : Value} {n : Int} (h : Ty.int.rv H v n) : v = .int .i64 n := by
  have := rv_scalar (t := .int) rfl h
  simpa [Ty.rd] using this
theorem bool_of_rv {H : Imm} {v : Value} {n : Bool} (h : Ty.bool.rv H v n) : v = .bool n := by
  have := rv_scalar (t := .bool) rfl h
  simpa [Ty.rd] using this
theorem uint_of_rv {H : Imm} {k : IntKind} {v : Value} {n : Int} (h : (Ty.uint k).rv H v n) : v = .int k n := by
  have := rv_scalar (t := .uint k) rfl h
  simpa [Ty.rd] using this

theorem den_ofVal (v : Value) : SV.den P ρ (ofVal v) v := by
  cases v with
  | int k n => cases k <;> simp only [ofVal, SV.den] <;> first | exact rv_int n | exact rv_uint _ n
  | bool b => exact rv_bool b
  | _ => simp [ofVal, SV.den]

/-- what an operand holds -/
theorem den_opnd {a : Act} (hsl : Slots P ρ σ.sl a) (x : Operand) : SV.den P ρ (opnd σ x) (a.eval x) := by
  cases x with
  | tmp t =>
    simp only [opnd, St.get, Act.eval]
    split
    · rename_i sv h; exact hsl t sv h
    · simp [SV.den]
  | const v => exact den_ofVal v
  | global g => simp [opnd, Act.eval, SV.den]
  | func f => simp [opnd, Act.eval, SV.den, SV.denL]

theorem wrap_of_in {n : Int} (h : In64 n) : IntKind.i64.wrap n = n := by
  rw [IntKind.wrap_i64]
  unfold In64 at h
  omega

/-! ### Numbers -/

theorem binInt_sound {op : BinOp} {x y : Int} {U : Nat} {X Y : Operand} {out : Out} (h : binInt op x y = some out) (hvc : AllP out.vc)
    (hS : Sat P B ρ σ.obj w) :
    ∃ v, (do eqGuard op U X Y (.int .i64 x) (.int .i64 y); binOp op U (.int .i64 x) (.int .i64 y) : Sem Value).run P w = .ok v w ∧ Leaves P B ρ σ out v w := by
  have nog : (eqGuard op U X Y (.int .i64 x) (.int .i64 y)).run P w = .ok () w := by
    unfold eqGuard
    cases op <;> simp
  have done : ∀ (n : Int) (vc : List Prop), (binOp op U (.int .i64 x) (.int .i64 y)).run P w = .ok (.int .i64 n) w →
      ∃ v, (do eqGuard op U X Y (.int .i64 x) (.int .i64 y); binOp op U (.int .i64 x) (.int .i64 y) : Sem Value).run P w = .ok v w ∧ Leaves P B ρ σ ⟨vc, [], .dat .int n, [], [], []⟩ v w :=
    fun n vc hr => ⟨_, by simp [nog, hr], leaves_same hS (rv_int n) trivial⟩
  have doneB : ∀ (b : Bool), (binOp op U (.int .i64 x) (.int .i64 y)).run P w = .ok (.bool b) w →
      ∃ v, (do eqGuard op U X Y (.int .i64 x) (.int .i64 y); binOp op U (.int .i64 x) (.int .i64 y) : Sem Value).run P w = .ok v w ∧ Leaves P B ρ σ ⟨[], [], .dat .bool b, [], [], []⟩ v w :=
    fun b hr => ⟨_, by simp [nog, hr], leaves_same hS (rv_bool b) trivial⟩
  cases op <;> simp only [binInt, Out.pure, Option.some.injEq] at h <;> subst h <;> simp only [AllP] at hvc
  case add => exact done _ _ (by simp [binOp, Op.intArith, wrap_of_in hvc.1])
  case sub => exact done _ _ (by simp [binOp, Op.intArith, wrap_of_in hvc.1])
  case mul => exact done _ _ (by simp [binOp, Op.intArith, wrap_of_in hvc.1])
  case quo => exact done _ _ (by simp [binOp, Op.intDiv, hvc.1, wrap_of_in hvc.2.1])
  case rem => exact done _ _ (by simp [binOp, Op.intDiv, hvc.1])
  case and => exact done _ _ rfl
  case or => exact done _ _ rfl
  case xor => exact done _ _ rfl
  case andNot => exact done _ _ rfl
  case shl =>
    refine done _ _ ?_
    have h0 : ¬ y < 0 := by omega
    have h1 : min y.toNat 64 = y.toNat := by omega
    simp only [binOp, Op.shift, h0, if_false, IntKind.bits, h1]
    simp [wrap_of_in hvc.2.2.1]
  case shr =>
    refine done _ _ ?_
    have h0 : ¬ y < 0 := by omega
    have h1 : min y.toNat 64 = y.toNat := by omega
    simp only [binOp, Op.shift, h0, if_false, IntKind.bits, h1]
    have h2 : (0 : Int) ≤ 2 ^ y.toNat := Int.le_of_lt (Int.pow_pos (by omega))
    rw [Int.fdiv_eq_ediv_of_nonneg _ h2]
    simp
  case eql => exact doneB _ (by simp only [binOp, Op.intCmp, ne_eq, not_true_eq_false, if_false, Sem.run_pure]; congr 2)
  case neq => exact doneB _ (by simp only [binOp, Op.intCmp, ne_eq, not_true_eq_false, if_false, Sem.run_pure]; congr 2; by_cases e : x = y <;> simp [bne, e])
  case lss => exact doneB _ (by simp [binOp, Op.intCmp])
  case leq => exact doneB _ (by simp [binOp, Op.intCmp])
  case gtr => exact doneB _ (by simp [binOp, Op.intCmp])
  case geq => exact doneB _ (by simp [binOp, Op.intCmp])

theorem wrapU_of_in {n : Int} (h : 0 ≤ n ∧ n ≤ 18446744073709551615) : IntKind.u64.wrap n = n := by
  simp [IntKind.wrap, IntKind.bits, IntKind.signed]
  omega

theorem binU_sound {op : BinOp} {x y : Int} {U : Nat} {X Y : Operand} {out : Out} (h : binU op x y = some out) (hvc : AllP out.vc)
    (hS : Sat P B ρ σ.obj w) :
    ∃ v, (do eqGuard op U X Y (.int .u64 x) (.int .u64 y); binOp op U (.int .u64 x) (.int .u64 y) : Sem Value).run P w = .ok v w ∧ Leaves P B ρ σ out v w := by
  have nog : (eqGuard op U X Y (.int .u64 x) (.int .u64 y)).run P w = .ok () w := by
    unfold eqGuard
    cases op <;> simp
  have done : ∀ (n : Int) (vc : List Prop), (binOp op U (.int .u64 x) (.int .u64 y)).run P w = .ok (.int .u64 n) w →
      ∃ v, (do eqGuard op U X Y (.int .u64 x) (.int .u64 y); binOp op U (.int .u64 x) (.int .u64 y) : Sem Value).run P w = .ok v w ∧ Leaves P B ρ σ ⟨vc, [], .dat (.uint .u64) n, [], [], []⟩ v w :=
    fun n vc hr => ⟨_, by simp [nog, hr], leaves_same hS (rv_uint _ n) trivial⟩
  have doneB : ∀ (b : Bool), (binOp op U (.int .u64 x) (.int .u64 y)).run P w = .ok (.bool b) w →
      ∃ v, (do eqGuard op U X Y (.int .u64 x) (.int .u64 y); binOp op U (.int .u64 x) (.int .u64 y) : Sem Value).run P w = .ok v w ∧ Leaves P B ρ σ ⟨[], [], .dat .bool b, [], [], []⟩ v w :=
    fun b hr => ⟨_, by simp [nog, hr], leaves_same hS (rv_bool b) trivial⟩
  cases op <;> simp only [binU, Out.pure, Option.some.injEq, reduceCtorEq] at h <;> subst h <;> simp only [AllP] at hvc
  case add => exact done _ _ (by simp [binOp, Op.intArith, wrapU_of_in ⟨hvc.1, hvc.2.1⟩])
  case sub => exact done _ _ (by simp [binOp, Op.intArith, wrapU_of_in ⟨hvc.1, hvc.2.1⟩])
  case and => exact done _ _ rfl
  case shr =>
    refine done _ _ ?_
    have h0 : ¬ y < 0 := by omega
    have h1 : min y.toNat 64 = y.toNat := by omega
    simp only [binOp, Op.shift, h0, if_false, IntKind.bits, h1]
    have h2 : (0 : Int) ≤ 2 ^ y.toNat := Int.le_of_lt (Int.pow_pos (by omega))
    rw [Int.fdiv_eq_ediv_of_nonneg _ h2]
    simp
  case eql => exact doneB _ (by simp only [binOp, Op.intCmp, ne_eq, not_true_eq_false, if_false, Sem.run_pure]; congr 2)
  case neq => exact doneB _ (by simp only [binOp, Op.intCmp, ne_eq, not_true_eq_false, if_false, Sem.run_pure]; congr 2; by_cases e : x = y <;> simp [bne, e])
  case lss => exact doneB _ (by simp [binOp, Op.intCmp])
  case leq => exact doneB _ (by simp [binOp, Op.intCmp])
  case gtr => exact doneB _ (by simp [binOp, Op.intCmp])
  case geq => exact doneB _ (by simp [binOp, Op.intCmp])

end
end Go.X
/-
  One operation: sound (addresses, loads, new objects, stores).
-/
namespace Go.X
open Go.RowKit (Below)

theorem addr_add (b off n : Nat) : (⟨b, off, none⟩ : Addr).add n = ⟨b, off + n, none⟩ := by
  unfold Addr.add
  split
  · rename_i h; subst h; rfl
  · rfl

theorem cell_at {w : World} {b off : Nat} {vs : Array Value} {T : Nat} {fr : Nat × Nat} (h : w.heap[b]? = some (.cells vs T fr)) : w.cell? ⟨b, off, none⟩ = vs[off]? := by
  simp [World.cell?, h]

theorem rd_some {H : Imm} : ∀ (t : Ty) (f : Nat → Option Value) (d : t.Data), t.rd H f d → ∀ j, j < t.size → ∃ v, f j = some v ∧ v.oneCell' = true
  | .int, f, _, h, j, hj => by
    have : j = 0 := by simp [Ty.size] at hj; exact hj
    subst this; exact ⟨_, h, rfl⟩
  | .bool, f, _, h, j, hj => by
    have : j = 0 := by simp [Ty.size] at hj; exact hj
    subst this; exact ⟨_, h, rfl⟩
  | .uint _, f, _, h, j, hj => by
    have : j = 0 := by simp [Ty.size] at hj; exact hj
    subst this; exact ⟨_, h, rfl⟩
  | .unit, _, _, _, j, hj => by simp [Ty.size] at hj
  | .slice t, f, l, h, j, hj => by
    have : j = 0 := by simp [Ty.size] at hj; exact hj
    subst this
    obtain ⟨a, n, c, e, _⟩ := h
    exact ⟨_, e, rfl⟩
  | .map _ _, f, l, h, j, hj => by
    have : j = 0 := by simp [Ty.size] at hj; exact hj
    subst this
    obtain ⟨p, e, _⟩ := h
    exact ⟨_, e, rfl⟩
  | .pair a b, f, d, h, j, hj => by
    by_cases hja : j < a.size
    · exact rd_some a f d.1 h.1 j hja
    · obtain ⟨v, e1, e2⟩ := rd_some b _ d.2 h.2 (j - a.size) (by simp [Ty.size] at hj; omega)
      refine ⟨v, ?_, e2⟩
      rw [← e1]; congr 1; omega

theorem sub_sound {H : Imm} : ∀ (a : Ty) (off : Nat) (t : Ty) (d : a.Data) (x : t.Data) (f : Nat → Option Value), a.sub off t d = some x → a.rd H f d → t.rd H (fun j => f (off + j)) x := by
  have leaf : ∀ (a : Ty) (off : Nat) (t : Ty) (d : a.Data) (x : t.Data) (f : Nat → Option Value), (if off = 0 then cast? a t d else none) = some x → a.rd H f d → t.rd H (fun j => f (off + j)) x := by
    intro a off t d x f h hr
    split at h
    · rename_i e
      subst e
      obtain ⟨e, rfl⟩ := cast?_some h
      rw [castD_rd]
      simpa using hr
    · cases h
  intro a
  induction a with
  | pair a b iha ihb =>
    intro off t d x f h hr
    simp only [Ty.sub] at h
    split at h
    · rename_i e
      obtain ⟨rfl, _⟩ := e
      obtain ⟨e, rfl⟩ := cast?_some h
      rw [castD_rd]
      simpa using hr
    · split at h
      · exact iha off t d.1 x f h hr.1
      · rename_i hlt
        have := ihb (off - a.size) t d.2 x _ h hr.2
        refine t.rd_congr _ _ x (fun j _ => ?_) this
        congr 1; omega
  | int => intro off t d x f h hr; exact leaf .int off t d x f (by simpa [Ty.sub] using h) hr
  | bool => intro off t d x f h hr; exact leaf .bool off t d x f (by simpa [Ty.sub] using h) hr
  | uint k => intro off t d x f h hr; exact leaf (.uint k) off t d x f (by simpa [Ty.sub] using h) hr
  | unit => intro off t d x f h hr; exact leaf .unit off t d x f (by simpa [Ty.sub] using h) hr
  | slice s _ => intro off t d x f h hr; exact leaf (.slice s) off t d x f (by simpa [Ty.sub] using h) hr
  | map k u _ _ => intro off t d x f h hr; exact leaf (.map k u) off t d x f (by simpa [Ty.sub] using h) hr

theorem encode_sound {P : Program} {ρ : Env} : ∀ (t : Ty) (d : t.Data) (us : List Value), us.length = t.size → t.rd ρ.H (fun i => us[i]?) d → SV.denL P ρ (encode t d) us ∧ ∀ u ∈ us, u.oneCell' = true := by
  have leaf : ∀ (t : Ty) (d : t.Data) (us : List Value), t.agg = false → us.length = t.size → t.rd ρ.H (fun i => us[i]?) d → SV.denL P ρ [.dat t d] us ∧ ∀ u ∈ us, u.oneCell' = true := by
    intro t d us ht hu h
    have hs : t.size = 1 := by cases t <;> simp_all [Ty.size, Ty.agg]
    rw [hs] at hu
    match us, hu with
    | [u], _ =>
      have hr : t.rd ρ.H (fun _ => some u) d := rd_scalar (f := fun i => [u][i]?) ht (by simp) h
      obtain ⟨v, e1, e2⟩ := rd_some t _ d hr 0 (by omega)
      simp at e1; subst e1
      exact ⟨by simp only [SV.denL]; exact ⟨u, [], rfl, rv_of_scalar ht hr, rfl⟩, fun x hx => by simp at hx; subst hx; exact e2⟩
  intro t
  induction t with
  | unit => intro d us hu _; simp [Ty.size] at hu; subst hu; exact ⟨by simp [encode, SV.denL], fun u hu => by simp at hu⟩
  | pair a b iha ihb =>
    intro d us hu h
    simp only [Ty.size] at hu
    have e : us = us.take a.size ++ us.drop a.size := (List.take_append_drop _ _).symm
    obtain ⟨h1, h2⟩ := iha d.1 (us.take a.size) (by simp; omega) (a.rd_congr _ _ _ (fun i hi => by rw [List.getElem?_take_of_lt hi]) h.1)
    obtain ⟨h3, h4⟩ := ihb d.2 (us.drop a.size) (by simp; omega) (b.rd_congr _ _ _ (fun i hi => by rw [List.getElem?_drop]) h.2)
    refine ⟨by rw [e]; exact denL_append _ _ _ _ h1 h3, fun u hm => ?_⟩
    rw [e] at hm
    rcases List.mem_append.1 hm with hm | hm
    · exact h2 u hm
    · exact h4 u hm
  | int => intro d us hu h; exact leaf .int d us rfl hu h
  | bool => intro d us hu h; exact leaf .bool d us rfl hu h
  | uint k => intro d us hu h; exact leaf (.uint k) d us rfl hu h
  | slice t _ => intro d us hu h; exact leaf (.slice t) d us rfl hu h
  | map k u _ _ => intro d us hu h; exact leaf (.map k u) d us rfl hu h

section
variable {P : Program} {B : Base} {C : Ctx} {σ : St} {ρ : Env} {w : World} {o : Oper} {ev : Operand → Value} {out : Out}

/-- the entries of a map value -/
theorem mapOf_sound (hS : Sat P B ρ σ.obj w) {kt vt : Ty} {sv : SV} {l : List (kt.Data × vt.Data)} (h : mapOf σ kt vt sv = some l) {v : Value} (hv : SV.den P ρ sv v) :
    (v = .map none ∧ l = []) ∨ ∃ b es clock, v = .map (some b) ∧ w.heap[b]? = some (.map es clock) ∧ MapRd ρ.H kt vt es clock l := by
  unfold mapOf at h
  split at h
  · obtain ⟨e, rfl⟩ := cast?_some h
    subst e
    simp only [SV.den] at hv
    obtain ⟨p, h1, h2, h3⟩ := rv_scalar rfl hv
    simp at h1; subst h1
    cases p with
    | none => exact .inl ⟨rfl, h2 rfl⟩
    | some b =>
      obtain ⟨es, clock, e1, e2⟩ := h3 b rfl
      exact .inr ⟨b, es, clock, rfl, hS.good b _ e1, e2⟩
  · rename_i o
    split at h
    · rename_i fz kt' vt' l' ho
      obtain ⟨e, rfl⟩ := cast?_some h
      obtain ⟨p, hp, hs⟩ := hS.obs o _ ho
      simp only [ObSat] at hs
      obtain ⟨b, C, es, clock, rfl, k1, k2, k3⟩ := hs
      simp only [SV.den] at hv
      obtain ⟨b', C', e1, rfl⟩ := hv _ hp
      simp at e1
      obtain ⟨rfl, rfl⟩ := e1
      have e1 : kt' = kt := by injection e
      have e2 : vt' = vt := by injection e
      subst e1
      subst e2
      exact .inr ⟨b, es, clock, rfl, k1, k2⟩
    · rename_i kt' vt' l' k s ho
      obtain ⟨e, rfl⟩ := cast?_some h
      obtain ⟨p, hp, hs⟩ := hS.obs o _ ho
      simp only [ObSat] at hs
      obtain ⟨b, C, es, clock, rfl, k1, k2, k3, _⟩ := hs
      simp only [SV.den] at hv
      obtain ⟨b', C', e1, rfl⟩ := hv _ hp
      simp at e1
      obtain ⟨rfl, rfl⟩ := e1
      have e1 : kt' = kt := by injection e
      have e2 : vt' = vt := by injection e
      subst e1
      subst e2
      exact .inr ⟨b, es, clock, rfl, k1, k2⟩
    · cases h
  · split at h
    · rename_i hn
      simp at h; subst h
      simp only [SV.den] at hv
      subst hv
      exact .inl ⟨nilMap hn, rfl⟩
    · cases h
  · cases h

theorem live_some {o : Nat} (h : live σ o = true) : ∃ x, σ.obj o = some x := by
  unfold live at h
  split at h
  · exact ⟨_, by assumption⟩
  · cases h

theorem live_blk (hS : Sat P B ρ σ.obj w) {o : Nat} (h : live σ o = true) : ∃ p, ρ.blk o = some p := by
  obtain ⟨x, hx⟩ := live_some h
  obtain ⟨p, hp, _⟩ := hS.obs o x hx
  exact ⟨p, hp⟩

theorem cells_sound (hS : Sat P B ρ σ.obj w) {sv : SV} {cs : List SV} (h : cells σ sv = some cs) {v : Value} (hv : SV.den P ρ sv v) :
    SV.denL P ρ cs v.cells.toList ∧ ∀ u ∈ v.cells.toList, u.oneCell' = true := by
  have one : ∀ (sv : SV), SV.den P ρ sv v → (∀ vs, v ≠ .agg vs) → (∀ vs, v ≠ .tuple vs) → SV.denL P ρ [sv] v.cells.toList ∧ ∀ u ∈ v.cells.toList, u.oneCell' = true := by
    intro sv hd h1 h2
    have e : v.cells = #[v] := by cases v <;> simp_all [Value.cells]
    rw [e]
    refine ⟨by simp only [SV.denL]; exact ⟨v, [], rfl, hd, rfl⟩, fun u hu => ?_⟩
    simp at hu; subst hu
    cases u <;> simp_all [Value.oneCell']
  unfold cells at h
  split at h
  · cases h
  · cases h
  · simp at h; subst h
    simp only [SV.den] at hv
    obtain ⟨vs, rfl, h1, h2⟩ := hv
    exact ⟨h1, h2⟩
  · rename_i t d
    simp at h; subst h
    simp only [SV.den] at hv
    exact encode_sound t d _ (by simpa using hv.2.1) (t.rd_congr _ _ _ (fun i _ => by simp) hv.2.2)
  · cases h
  · cases h
  · split at h
    · rename_i hl
      simp at h; subst h
      obtain ⟨p, hp⟩ := live_blk hS hl
      have hv' := hv
      simp only [SV.den] at hv'
      obtain ⟨b, C, _, rfl⟩ := hv' p hp
      exact one _ hv (by simp) (by simp)
    · cases h
  · split at h
    · rename_i hl
      simp at h; subst h
      obtain ⟨p, hp⟩ := live_blk hS hl
      have hv' := hv
      simp only [SV.den] at hv'
      have := hv' p hp
      cases p with
      | none => obtain ⟨rfl, _⟩ := this; exact one _ hv (by simp) (by simp)
      | some q => obtain ⟨rfl, _⟩ := this; exact one _ hv (by simp) (by simp)
    · cases h
  · split at h
    · rename_i hl
      simp at h; subst h
      obtain ⟨p, hp⟩ := live_blk hS hl
      have hv' := hv
      simp only [SV.den] at hv'
      have := hv' p hp
      cases p with
      | none => obtain ⟨rfl, _⟩ := this; exact one _ hv (by simp) (by simp)
      | some q => obtain ⟨_, _, rfl, _⟩ := this; exact one _ hv (by simp) (by simp)
    · cases h
  · split at h
    · rename_i hl
      simp at h; subst h
      obtain ⟨p, hp⟩ := live_blk hS hl
      have hv' := hv
      simp only [SV.den] at hv'
      obtain ⟨_, _, _, _, rfl⟩ := hv' p hp
      exact one _ hv (by simp) (by simp)
    · cases h
  · split at h
    · rename_i hl
      simp at h; subst h
      obtain ⟨p, hp⟩ := live_blk hS hl
      have hv' := hv
      simp only [SV.den] at hv'
      obtain ⟨_, _, _, rfl⟩ := hv' p hp
      exact one _ hv (by simp) (by simp)
    · cases h
  · split at h
    · rename_i hl
      simp at h; subst h
      obtain ⟨p, hp⟩ := live_blk hS hl
      have hv' := hv
      simp only [SV.den] at hv'
      obtain ⟨_, _, _, rfl⟩ := hv' p hp
      exact one _ hv (by simp) (by simp)
    · cases h
  · split at h
    · rename_i hl
      simp at h; subst h
      obtain ⟨p, hp⟩ := live_blk hS hl
      have hv' := hv
      simp only [SV.den] at hv'
      obtain ⟨_, _, _, u, ⟨_, _, eu, _⟩, hm⟩ := hv' p hp
      split at hm
      · subst hm; subst eu; exact one _ hv (by simp) (by simp)
      · obtain ⟨_, rfl, _⟩ := hm; exact one _ hv (by simp) (by simp)
    · cases h
  · simp at h; subst h
    cases sv with
    | ep t d => have hv' := hv; simp only [SV.den] at hv'; obtain ⟨_, _, _, rfl, _⟩ := hv'; exact one _ hv (by simp) (by simp)
    | fn ps rs pre F => have hv' := hv; simp only [SV.den] at hv'; obtain ⟨_, _, rfl, _⟩ := hv'; exact one _ hv (by simp) (by simp)
    | fnp ps rs pre F => have hv' := hv; simp only [SV.den] at hv'; obtain ⟨_, _, rfl, _⟩ := hv'; exact one _ hv (by simp) (by simp)
    | clo f caps => have hv' := hv; simp only [SV.den] at hv'; obtain ⟨_, rfl, _⟩ := hv'; exact one _ hv (by simp) (by simp)
    | lit u =>
      have hv' := hv; simp only [SV.den] at hv'; subst hv'
      exact one _ hv (fun vs e => by subst e; simp_all) (fun vs e => by subst e; simp_all)
    | any => simp_all
    | dat t d => simp_all; exact absurd HEq.rfl (‹∀ (t_1 : Ty) (d_1 : t_1.Data), t = t_1 → ¬ HEq d d_1› t d rfl)
    | bp o k => simp_all
    | own o t => simp_all
    | osl o t lo n => simp_all; exact absurd rfl (‹∀ (o_1 : Nat) (t_1 : Ty) (lo_1 n_1 : Nat), o = o_1 → t = t_1 → lo = lo_1 → ¬n = n_1› o t lo n rfl rfl rfl)
    | rp o t i k => simp_all; exact absurd rfl (‹∀ (o_1 : Nat) (t_1 : Ty) (i_1 k_1 : Nat), o = o_1 → t = t_1 → i = i_1 → ¬k = k_1› o t i k rfl rfl rfl)
    | mp o => simp_all
    | ip o => simp_all
    | fe q o T st ps rs pre K => rename_i hfe; exact (hfe _ _ _ _ _ _ _ _ rfl).elim
    | agg cs => simp_all
    | tup cs => simp_all

/-! ### Loads -/

theorem run_loadVar_at {ti : TI} (ht : ti.ok P) {b off : Nat} {vs : Array Value} {T : Nat} {fr : Nat × Nat} (hw : w.heap[b]? = some (.cells vs T fr)) :
    (ti.agg = true → off + ti.size ≤ vs.size → (loadVar ti.id ⟨b, off, none⟩).run P w = .ok (.agg ((vs.toList.drop off).take ti.size).toArray) w) ∧
    (ti.agg = false → ∀ v, vs[off]? = some v → (loadVar ti.id ⟨b, off, none⟩).run P w = .ok v w) := by
  obtain ⟨i, z, _, _, _, hsz, _⟩ := run_info ht
  have ha := run_isAgg ht
  refine ⟨fun h1 h2 => ?_, fun h1 v hv => ?_⟩
  · have hl : ((vs.toList.drop off).take ti.size).length = ti.size := by simp; omega
    have := run_loadCells_list (P := P) w ⟨b, off, none⟩ ((vs.toList.drop off).take ti.size) (fun j v hj => by
      rw [addr_add, cell_at hw]
      rw [List.getElem?_take] at hj
      split at hj
      · simpa using hj
      · cases hj)
    rw [hl] at this
    simp only [loadVar, Sem.run_bind, ha, h1, Result.andThen_ok, if_true, hsz, this]
    rfl
  · have : w.cell? ⟨b, off, none⟩ = some v := by rw [cell_at hw]; exact hv
    simp only [loadVar, Sem.run_bind, ha, h1, Result.andThen_ok]
    simp [load, Sem.run, this]

end
end Go.X
/-
  One operation: sound, operation by operation.
-/
namespace Go.X
open Go.RowKit (Below)

section
variable {P : Program} {B : Base} {C : Ctx} {σ : St} {ρ : Env} {w : World} {o : Oper} {ev : Operand → Value} {out : Out}

/-! ### New objects, new contents -/


def putO (obj : Nat → Option Ob) (d : Nat) (x : Option Ob) : Nat → Option Ob := fun o => if o = d then x else obj o

/-- an object's block is there -/
theorem obSat_lt {w : World} {o : Nat} {b Cp : Nat} {x : Ob} (hs : ObSat P ρ w o (some (b, Cp)) x) : b < w.heap.size := by
  cases x with
  | box T fz cs => simp only [ObSat] at hs; obtain ⟨b', C', vs', e1, e2, _⟩ := hs; simp at e1; rw [e1.1]; exact (Array.getElem?_eq_some_iff.1 e2).1
  | row E t fz nl l => simp only [ObSat] at hs; obtain ⟨_, _, _, vs', e2, _⟩ := hs; exact (Array.getElem?_eq_some_iff.1 e2).1
  | map fz kt vt l => simp only [ObSat] at hs; obtain ⟨b', C', es, clock, e1, e2, _⟩ := hs; simp at e1; rw [e1.1]; exact (Array.getElem?_eq_some_iff.1 e2).1
  | iter kt vt left cur => simp only [ObSat] at hs; obtain ⟨b', C', y, e1, e2, _⟩ := hs; simp at e1; rw [e1.1]; exact (Array.getElem?_eq_some_iff.1 e2).1
  | mape kt vt l k s => simp only [ObSat] at hs; obtain ⟨b', C', es, clock, e1, e2, _⟩ := hs; simp at e1; rw [e1.1]; exact (Array.getElem?_eq_some_iff.1 e2).1

theorem new_obj' {obj : Nat → Option Ob} (hS : Sat P B ρ obj w) {d : Nat} (hd : obj d = none) (hn : NoRef obj d) (y : Obj) (Cp len : Nat) (x : Ob)
    (hx : ∀ ρ' : Env, ρ'.H = ρ.H → ρ'.len d = len → ρ.le ρ' [d] → ObSat P ρ' (w.alloc y) d (some (w.heap.size, Cp)) x) :
    ∃ ρ', Sat P B ρ' (putO obj d (some x)) (w.alloc y) ∧ ρ.le ρ' [d] ∧ ρ'.blk d = some (some (w.heap.size, Cp)) ∧ ρ'.len d = len ∧ ρ'.H = ρ.H := by
  have hbd := hS.dead d hd
  have hHn : ρ.H w.heap.size = none := by
    cases hc : ρ.H w.heap.size with
    | none => rfl
    | some c => have := hS.good.lt hc; omega
  let ρ' : Env := { H := ρ.H, blk := fun o => if o = d then some (some (w.heap.size, Cp)) else ρ.blk o, len := fun o => if o = d then len else ρ.len o }
  have hle : ρ.le ρ' [d] := ⟨fun _ _ h => h, fun o p ho hp => by simpa [ρ', show o ≠ d by simpa using ho] using hp, fun o ho => by simp [ρ', show o ≠ d by simpa using ho]⟩
  have hold : ∀ b, b < w.heap.size → (w.alloc y).heap[b]? = w.heap[b]? := fun b hb => heap_alloc_old w _ b hb
  refine ⟨ρ', ⟨hS.os, hS.tape, hS.output, hS.drawn, by simp; have := hS.size; omega, ?_, hS.oldH, ?_, ?_, ?_, ?_, ?_⟩, hle, by simp [ρ'], by simp [ρ'], rfl⟩
  · intro b c hb
    rw [hold b (hS.good.lt hb)]; exact hS.good b c hb
  · intro b hb hbo
    have := hS.size
    rw [hold b (by omega)]; exact hS.old b hb hbo
  · intro o x' hx'
    unfold putO at hx'
    by_cases e : o = d
    · subst e
      rw [if_pos rfl] at hx'
      simp at hx'; subst hx'
      exact ⟨_, by simp [ρ'], hx ρ' rfl (by simp [ρ']) hle⟩
    · rw [if_neg e] at hx'
      obtain ⟨p, hp, hs⟩ := hS.obs o x' hx'
      refine ⟨p, by simp [ρ', e, hp], obSat_mono hle (by simpa using e) (fun T fz cs hcs o' ho' => ?_) (fun b C hpb => ⟨rfl, ?_⟩) hs⟩
      · simp at ho'; subst ho'; exact hn o T fz cs (by rw [hx', hcs])
      · subst hpb
        refine hold b ?_
        exact obSat_lt hs
  · intro o ho
    unfold putO at ho
    by_cases e : o = d
    · rw [if_pos e] at ho; cases ho
    · rw [if_neg e] at ho; simp [ρ', e, hS.dead o ho]
  · intro o o' b C1 C2 h1 h2
    have lt : ∀ k Ck, ρ.blk k = some (some (b, Ck)) → b < w.heap.size := by
      intro k Ck hk
      cases hobj : obj k with
      | none => rw [hS.dead k hobj] at hk; cases hk
      | some x' =>
        obtain ⟨p, hp, hs⟩ := hS.obs k x' hobj
        rw [hk] at hp; simp at hp; subst hp
        exact obSat_lt hs
    by_cases e1 : o = d <;> by_cases e2 : o' = d
    · rw [e1, e2]
    · simp [ρ', e1] at h1; simp [ρ', e2] at h2; have := lt _ _ h2; omega
    · simp [ρ', e1] at h1; simp [ρ', e2] at h2; have := lt _ _ h1; omega
    · simp [ρ', e1] at h1; simp [ρ', e2] at h2; exact hS.inj o o' b C1 C2 h1 h2
  · intro o b C1 h1
    by_cases e1 : o = d
    · simp [ρ', e1] at h1; have := hS.size; exact .inl (by omega)
    · simp [ρ', e1] at h1; exact hS.own o b C1 h1

theorem new_obj {obj : Nat → Option Ob} (hS : Sat P B ρ obj w) {d : Nat} (hd : obj d = none) (hn : NoRef obj d) (vs : Array Value) (T : Nat) (Cp len : Nat) (x : Ob)
    (hx : ∀ ρ' : Env, ρ'.H = ρ.H → ρ'.len d = len → ρ.le ρ' [d] → ObSat P ρ' (w.alloc (.cells vs T)) d (some (w.heap.size, Cp)) x) :
    ∃ ρ', Sat P B ρ' (putO obj d (some x)) (w.alloc (.cells vs T)) ∧ ρ.le ρ' [d] ∧ ρ'.blk d = some (some (w.heap.size, Cp)) ∧ ρ'.len d = len ∧ ρ'.H = ρ.H :=
  new_obj' hS hd hn (.cells vs T) Cp len x hx

theorem blk_lt (hS : Sat P B ρ σ.obj w) {o b Cp : Nat} (h : ρ.blk o = some (some (b, Cp))) : b < w.heap.size ∧ True := by
  cases hobj : σ.obj o with
  | none => rw [hS.dead o hobj] at h; cases h
  | some x' =>
    obtain ⟨p, hp, hs⟩ := hS.obs o x' hobj
    rw [h] at hp; simp at hp; subst hp
    exact ⟨obSat_lt hs, trivial⟩

/-- an object's block gets new contents -/
theorem set_obj (hS : Sat P B ρ σ.obj w) {d b Cp : Nat} (hp : ρ.blk d = some (some (b, Cp))) (hH : ρ.H b = none) (x : Ob) {w' : World}
    (hw' : w'.os = w.os ∧ w'.tape = w.tape ∧ w'.output = w.output ∧ w.drawn ≤ w'.drawn ∧ w'.heap.size = w.heap.size ∧ ∀ k, k ≠ b → w'.heap[k]? = w.heap[k]?)
    (hx : ObSat P ρ w' d (some (b, Cp)) x) : Sat P B ρ (putO σ.obj d (some x)) w' := by
  obtain ⟨e1, e2, e3, e3', e4, e5⟩ := hw'
  refine ⟨e1.trans hS.os, e2.trans hS.tape, e3.trans hS.output, Nat.le_trans hS.drawn e3', by rw [e4]; exact hS.size, ?_, hS.oldH, ?_, ?_, ?_, hS.inj, hS.own⟩
  · intro k c hk
    have : k ≠ b := fun e => by subst e; rw [hH] at hk; cases hk
    rw [e5 k this]; exact hS.good k c hk
  · intro k hk hbo
    have : k ≠ b := fun e => by
      subst e
      rcases hS.own d k Cp hp with h1 | h1
      · omega
      · exact hbo h1
    rw [e5 k this]; exact hS.old k hk hbo
  · intro o x' hx'
    unfold putO at hx'
    by_cases e : o = d
    · subst e; rw [if_pos rfl] at hx'; simp at hx'; subst hx'; exact ⟨_, hp, hx⟩
    · rw [if_neg e] at hx'
      obtain ⟨p, hp', hs⟩ := hS.obs o x' hx'
      refine ⟨p, hp', obSat_mono (Env.le.refl ρ []) (by simp) (fun _ _ _ _ o' ho' => by simp at ho') (fun b' C' hpb => ⟨rfl, ?_⟩) hs⟩
      subst hpb
      exact e5 b' fun e' => e (hS.inj o d b' C' Cp hp' (e' ▸ hp))
  · intro o ho
    unfold putO at ho
    by_cases e : o = d
    · rw [if_pos e] at ho; cases ho
    · rw [if_neg e] at ho; exact hS.dead o ho

theorem obj_wr1 (σ : St) (d : Nat) (x : Option Ob) : ({ σ with ob := (d, x) :: σ.ob } : St).obj = putO σ.obj d x := funext fun o => by
  rw [obj_cons]; rfl

/-! ### Operations -/

theorem does_alloc {E dst : Nat} (hC : C.ok P) (hop : o.op = .alloc E) (h : evalOp C σ dst (.alloc E) = some out) (hS : Sat P B ρ σ.obj w)
    (hd : σ.obj dst = none) (hn : NoRef σ.obj dst) : OpDoes P o ev w (Leaves P B ρ σ out) := by
  simp only [evalOp] at h
  split at h
  · rename_i ti hti
    simp at h; subst h
    obtain ⟨rfl, hok⟩ := hC.ti _ _ hti
    obtain ⟨i, z, _, _, _, _, hz, hzl, _⟩ := run_info hok
    have hrun : (execOp ev o).run P w = .ok (.value (.pointer (some ⟨w.heap.size, 0, none⟩))) (w.alloc (.cells z.cells ti.id)) := by
      simp only [execOp, hop, Instr.alloc, Sem.run_bind, hz, Result.andThen_ok]
      simp [newVar, newRow]
    refine does_value hrun ?_
    obtain ⟨ρ', h1, h2, h3, _, _⟩ := new_obj hS hd hn z.cells ti.id 0 0 (.box ti.id false (ti.zero.map ofVal)) (fun ρ' hH _ hle => by
      refine ⟨w.heap.size, 0, z.cells, rfl, heap_alloc_new w _, ?_, fun v hv => hok.one v (by rw [← hzl]; exact hv), ?_⟩
      · rw [hzl]
        have : ∀ (l : List Value), SV.denL P ρ' (l.map ofVal) l := by
          intro l
          induction l with
          | nil => simp [SV.denL]
          | cons a l ih => simp only [List.map_cons, SV.denL]; exact ⟨a, l, rfl, den_ofVal a, ih⟩
        exact this _
      · simp only [fzH, hH]
        cases hc : ρ.H w.heap.size with
        | none => rfl
        | some c => have := hS.good.lt hc; omega)
    refine ⟨ρ', ?_, h2, ?_, trivial⟩
    · show Sat P B ρ' ({ σ with ob := (dst, _) :: (doFz σ [] ++ σ.ob) } : St).obj _
      simp only [doFz, List.nil_append]
      rw [obj_wr1]; exact h1
    · simp only [SV.den]
      intro p hp
      rw [h3] at hp; simp at hp; subst hp
      exact ⟨_, _, rfl, rfl⟩
  · cases h

theorem does_box {E dst : Nat} {x : Operand} (_ : C.ok P) (hop : o.op = .box E x) (h : evalOp C σ dst (.box E x) = some out) (hS : Sat P B ρ σ.obj w) (hev : SV.den P ρ (opnd σ x) (ev x))
    (hd : σ.obj dst = none) (hn : NoRef σ.obj dst) (hself : ∀ cs, cells σ (opnd σ x) = some cs → SV.refs.refsL dst cs = false) : OpDoes P o ev w (Leaves P B ρ σ out) := by
  simp only [evalOp] at h
  split at h
  · rename_i ti hti
    split at h
    · rename_i cs hcs
      simp at h; subst h
      obtain ⟨h1, h2⟩ := cells_sound hS hcs hev
      have hrun : (execOp ev o).run P w = .ok (.value (.pointer (some ⟨w.heap.size, 0, none⟩))) (w.alloc (.cells (ev x).cells E)) := by
        simp [execOp, hop, Instr.box, newVar, newRow]
      refine does_value hrun ?_
      obtain ⟨ρ', h3, h4, h5, _, _⟩ := new_obj hS hd hn (ev x).cells E 0 0 (.box E false cs) (fun ρ' hH _ hle => by
        refine ⟨w.heap.size, 0, _, rfl, heap_alloc_new w _, SV.denL_mono hle cs _ (fun o ho => by simp at ho; subst ho; exact hself cs hcs) h1, h2, ?_⟩
        simp only [fzH, hH]
        cases hc : ρ.H w.heap.size with
        | none => rfl
        | some c => have := hS.good.lt hc; omega)
      refine ⟨ρ', ?_, h4, ?_, trivial⟩
      · show Sat P B ρ' ({ σ with ob := (dst, _) :: (doFz σ [] ++ σ.ob) } : St).obj _
        simp only [doFz, List.nil_append]
        rw [obj_wr1]; exact h3
      · simp only [SV.den]
        intro p hp
        rw [h5] at hp; simp at hp; subst hp
        exact ⟨_, _, rfl, rfl⟩
    · cases h
  · cases h

theorem sub_getElem? {vs : Array Value} {off : Nat} {cs : List SV} (hd : SV.denL P ρ cs vs.toList) {v : SV} (h : cs[off]? = some v) : ∃ u, vs[off]? = some u ∧ SV.den P ρ v u := by
  obtain ⟨u, e1, e2⟩ := denL_get cs _ hd off v h
  exact ⟨u, by simpa using e1, e2⟩

theorem does_load {U dst : Nat} {a : Operand} (hC : C.ok P) (hop : o.op = .load U a) (h : evalOp C σ dst (.load U a) = some out) (hS : Sat P B ρ σ.obj w) (hev : SV.den P ρ (opnd σ a) (ev a)) :
    OpDoes P o ev w (Leaves P B ρ σ out) := by
  simp only [evalOp] at h
  split at h
  case h_2 => cases h
  rename_i ti hti
  obtain ⟨rfl, hok⟩ := hC.ti _ _ hti
  have done : ∀ (ad : Addr) (v : Value) (sv : SV), ev a = .pointer (some ad) → (loadVar ti.id ad).run P w = .ok v w → SV.den P ρ sv v → OpDoes P o ev w (Leaves P B ρ σ (.pure sv)) := by
    intro ad v sv e hr hd
    refine does_value (v := v) (w' := w) ?_ (leaves_same hS hd trivial)
    simp [execOp, hop, Instr.loadAt, Instr.sureAddr, e, hr]
  split at h
  · -- a box
    rename_i ob off ho
    rw [ho] at hev
    split at h
    · rename_i T fz cs hx
      obtain ⟨p, hp, b, Cp, vs, rfl, hw, hdl, h1, _⟩ := hS.obs ob _ hx
      simp only [SV.den] at hev
      obtain ⟨b', C', e1, e2⟩ := hev _ hp
      simp at e1; obtain ⟨rfl, rfl⟩ := e1
      have hrun := run_loadVar_at (off := off) hok hw
      have hlen := denL_length _ _ hdl
      split at h
      · rename_i ha
        split at h
        · rename_i hle
          simp at h; subst h
          have hle' : off + ti.size ≤ cs.length := Nat.le_of_ble_eq_true hle
          refine done _ _ _ e2 (hrun.1 ha (by rw [← Array.length_toList, ← hlen]; exact hle')) ?_
          simp only [SV.den]
          exact ⟨_, rfl, by simpa using denL_take ti.size _ _ (denL_drop off _ _ hdl), fun u hu => h1 u (List.mem_of_mem_drop (List.mem_of_mem_take (by simpa using hu)))⟩
        · cases h
      · rename_i ha
        split at h
        · rename_i v hv
          simp at h; subst h
          obtain ⟨u, hu, hd⟩ := sub_getElem? hdl hv
          exact done _ _ _ e2 (hrun.2 ha u hu) hd
        · cases h
    · cases h
  · -- memory that stays
    rename_i t d ho
    rw [ho] at hev
    split at h
    · rename_i x hk hc
      simp at h; subst h
      obtain ⟨e, rfl⟩ := cast?_some hc
      subst e
      simp only [SV.den] at hev
      obtain ⟨b, off, c, e1, e2, e3⟩ := hev
      obtain ⟨T, fr, hw⟩ := hS.good.cells e2
      obtain ⟨ka, ks⟩ := hok.known hk
      have hrun := run_loadVar_at (off := off) hok hw
      cases hta : ti.agg with
      | true =>
        have hsz : off + ti.size ≤ c.size := by
          have hpos := (hok.pos hk).1
          obtain ⟨v, e, _⟩ := rd_some _ _ _ e3 (ti.size - 1) (by omega)
          have := (Array.getElem?_eq_some_iff.1 e).1
          omega
        refine done _ _ _ e1 (hrun.1 hta hsz) ?_
        simp only [SV.den, castD]
        refine ⟨by simp [isAggV, ka, hta], by simp [Value.cells, ks]; omega, ti.ty.rd_congr _ _ _ (fun i hi => ?_) e3⟩
        simp only [Value.cells]
        simp [show i < ti.size by omega]
      | false =>
        obtain ⟨v, e, _⟩ := rd_some _ _ _ e3 0 (by have := (hok.pos hk).1; omega)
        simp only [Nat.add_zero] at e
        refine done _ _ _ e1 (hrun.2 hta v e) ?_
        simp only [SV.den, castD]
        exact rv_of_scalar (by rw [ka, hta]) (rd_scalar (f := fun j => c[off + j]?) (by rw [ka, hta]) (by simpa using e) e3)
    · cases h
  · -- an element of a row of the call's own
    rename_i ob u i off ho
    rw [ho] at hev
    split at h
    · rename_i E t fz nl l hx
      split at h
      · rename_i l' hc
        obtain ⟨e, rfl⟩ := cast?_some hc
        cases e
        simp only [castD] at h
        split at h
        · rename_i x hk hsub
          simp at h; subst h
          obtain ⟨p, hp, k1, k0, k2⟩ := hS.obs ob _ hx
          simp only [SV.den] at hev
          obtain ⟨hi, b, Cp, rfl, e1⟩ := hev p hp
          obtain ⟨_, vs, hw, hvs, hlC, _, hr, _⟩ := k2
          obtain ⟨ka, ks⟩ := hok.known hk
          have hget : l[i]? = some (@nth _ ⟨u.dflt⟩ l i) := by
            unfold nth
            rw [List.getD_eq_getElem?_getD, List.getElem?_eq_getElem (by omega)]
            simp
          have hrd := sub_sound u off ti.ty _ x _ hsub (hr i _ hget)
          have hrun := run_loadVar_at (off := i * u.size + off) hok hw
          have hrd' : ti.ty.rd ρ.H (fun j => vs[i * u.size + off + j]?) x := ti.ty.rd_congr _ _ _ (fun j _ => by simp only [Nat.add_assoc]) hrd
          cases hta : ti.agg with
          | true =>
            have hsz : i * u.size + off + ti.size ≤ vs.size := by
              have hpos := (hok.pos hk).1
              obtain ⟨v, e, _⟩ := rd_some _ _ _ hrd' (ti.size - 1) (by omega)
              have := (Array.getElem?_eq_some_iff.1 e).1
              omega
            refine done _ _ _ e1 (hrun.1 hta hsz) ?_
            simp only [SV.den]
            refine ⟨by simp [isAggV, ka, hta], by simp [Value.cells, ks]; omega, ti.ty.rd_congr _ _ _ (fun i hi => ?_) hrd'⟩
            simp only [Value.cells]
            simp [show i < ti.size by omega]
          | false =>
            obtain ⟨v, e, _⟩ := rd_some _ _ _ hrd' 0 (by have := (hok.pos hk).1; omega)
            simp only [Nat.add_zero] at e
            refine done _ _ _ e1 (hrun.2 hta v e) ?_
            simp only [SV.den]
            exact rv_of_scalar (by rw [ka, hta]) (rd_scalar (f := fun j => vs[i * u.size + off + j]?) (by rw [ka, hta]) (by simpa using e) hrd')
        · cases h
      · cases h
    · cases h
  · -- a variable that holds a function value
    rename_i ob T st ps rs pre K ho
    rw [ho] at hev
    split at h
    · rename_i hta hl
      simp at h; subst h
      simp only [SV.den] at hev
      have hx : ∃ x, σ.obj ob = some x := by
        unfold live at hl
        split at hl
        · exact ⟨_, by assumption⟩
        · cases hl
      obtain ⟨x, hx⟩ := hx
      obtain ⟨p, hp, _⟩ := hS.obs ob _ hx
      obtain ⟨b, Cp, e, u, hu, b', e1, e2⟩ := hev p hp
      obtain ⟨T', fr, hw⟩ := hS.good.cells e2
      have hrun := run_loadVar_at (off := 0) hok hw
      refine done _ _ _ e1 (hrun.2 hta u (by simp)) ?_
      simp only [SV.den]
      intro p' hp'
      rw [hp] at hp'; simp at hp'; subst hp'
      exact ⟨b, Cp, e, u, hu, rfl⟩
    · cases h
  · -- a function value in memory that stays
    rename_i ps rs pre F ho
    rw [ho] at hev
    split at h
    · rename_i hta
      simp at h; subst h
      simp only [SV.den] at hev
      obtain ⟨b, u, e1, e2, e3⟩ := hev
      obtain ⟨T', fr, hw⟩ := hS.good.cells e2
      have hrun := run_loadVar_at (off := 0) hok hw
      refine done _ _ _ e1 (hrun.2 hta u (by simp)) ?_
      simp only [SV.den]
      exact e3
    · cases h
  · cases h

end
end Go.X
